/- Part 4 of the proof of Halves: shallow programs of Go functions, and what they compute. No condition. -/
import Derived.Test.YtplfnoecifjgeaaGreatDoorHalvesC
import Derived.RangeFuncBound
import Derived.Scope
import Derived.RangeFuncLeaves
import Derived.OpenShut
import Derived.WideKeyArgs
import Derived.ChangeSame
import Derived.Test.YtplfnoecifjgeaaGreatDoorProg
import Derived.KernelRfl
noncomputable section
set_option linter.unusedVariables false
set_option linter.unusedSimpArgs false
namespace Go.Fer
open Go.RowKit
theorem agY{C:bP}(iw:C.r=none){β:Type}{s:ay}{a:Act}{w:World}(G:b7 C s a w){g:Operand}{ps:Array Tmp}{assign body:Code}{qQ n:Nat}{ev:Nat->aC}(az:aS C.aI s.au g=.ry qQ n ev){ic:ITC}(TR:Cy C.P qQ ic)
    {x:ic.ts.ag} {fl:List Nat} (hx:(iG ic.ts ((List.range n).map ev)).run s.ab=some (x,fl)) {sh rin rout:dh} (dE:nA sh rout ic.aH ps.toList C.nt=true) {nE:sh.ag} (nB:sh.iL (s.ca fl)=some nE) (gj:ic.pre x)
    {run:ay->M (cO×rout.ag)} {k:cO->ay->M β} {O:β->Prop} (aj:M.b9 (jx (λA y=>tq sh rin rout ic.aH ps.toList A y run) (ic.seq x) nE) λp=>M.b9 (k p.1 (sh.st p.2)) O)
    (CV:∀ l,Gr C.P C.aI C.nt assign body l run) {Q:Exit->Act->World->Prop}
    (an:∀ u,C.jz u->∀ e s' a' w',b7 (C.gO u) s' a' w'->M.b9 (k e s') O->Q e.o3 a' w'):(Code.rangeFunc g ps assign body).wpIn (du C.r) 0 C.P Q a w:=by
  obtain⟨κ,F,G⟩:=G;obtain⟨zz,f1,gl,f2⟩:=a_.kO (pR _ hx) G;obtain⟨κ,dJ,f3,cp⟩:=dh.zr nB gl;have hv:=jR G g;rw[az]at hv;obtain⟨aA,pK,hZ,awT⟩:=hv;have agZ:eY C.P ic.ts zz w aA x:=uM G.bl f1 ic.ts hx f2 (by grind) λi E dn=>by
    grind
  have oW:∀ A:sh.ag,(sh.st A).au TRS=.undef:=λA=>by
    simp only[nA,Bool.and_eq_true,Bool.not_eq_true']at dE;exact xc sh.bD cG A TRS dE.1.1.1.2
  rw[iw];refine wpIn_rangeFunc λfn _=>?_;have aL:w.heap.size<((w.alloc (.deferred (some []))).alloc (.loop (eM fn a.tmps ps assign body w.heap.size .ready .normal))).heap.size:=by simp;omega
  have ah:w.heap.size+1<((w.alloc (.deferred (some []))).alloc (.loop (eM fn a.tmps ps assign body w.heap.size .ready .normal))).heap.size:=by simp
  have CY:((w.alloc (.deferred (some []))).alloc (.loop (eM fn a.tmps ps assign body w.heap.size .ready .normal))).heap[w.heap.size+1]?=some (.loop (eM fn a.tmps ps assign body w.heap.size .ready .normal)):=by
    have:=pJ (w.alloc (.deferred (some []))) (.loop (eM fn a.tmps ps assign body w.heap.size .ready .normal));simp_all
  have CZ:((w.alloc (.deferred (some []))).alloc (.loop (eM fn a.tmps ps assign body w.heap.size .ready .normal))).heap[w.heap.size]?=some (.deferred (some [])):=
    (oK _ _ (by simp)).trans (pJ w _)
  have tE:∀ r,r<w.heap.size->((w.alloc (.deferred (some []))).alloc (.loop (eM fn a.tmps ps assign body w.heap.size .ready .normal))).heap[r]?=w.heap[r]?:=λr h=>TK h;have C0:(Instr.enterLoop fn a.tmps ps assign body none).run C.P w=.ok (w.heap.size+1,[od w.heap.size]) ((w.alloc (.deferred (some []))).alloc (.loop (eM fn a.tmps ps assign body w.heap.size .ready .normal))):=run_enterLoop_outer fn a.tmps ps assign body;have xo:cL w ((w.alloc (.deferred (some []))).alloc (.loop (eM fn a.tmps ps assign body w.heap.size .ready .normal))):=⟨rfl,rfl,rfl⟩
  have L5:((w.alloc (.deferred (some []))).alloc (.loop (eM fn a.tmps ps assign body w.heap.size .ready .normal))).heap.size=w.heap.size+2:=by simp
  generalize (w.alloc (.deferred (some []))).alloc (.loop (eM fn a.tmps ps assign body w.heap.size .ready .normal))=b2 at aL ah CY CZ tE C0 xo L5;have pY:cD dJ w b2:=⟨by omega,λr h=>tE r (cp.cK r h)⟩
  have dz:eY C.P ic.ts dJ b2 aA x:=(agZ.mono f3 (cD.refl _ _)).mono (λ_ h=>h) pY;have eb:a_ { C with w0:=b2,F0:=dJ,K0:=λ_=>False } (sh.st nE) a b2 κ dJ:=
    cp.u2 cp.df cp.dfr cp.fO cp.bD (λl' kf L' iH h7 e=>by have e:(sh.st nE).au TRS=.tr l' kf L' iH h7:=e;grind)
      (λr h=>tE r (by
        rcases h with h | ⟨b,aa,rfl⟩
        · exact cp.cK r h
        · exact (cp.own b aa).1)) (by omega) (λ_ h=>.inl h) (λ_ h=>h) (λ_ h=>h.elim) (λ_ h=>h.elim) (λ_ _ h=>h) (Nat.le_refl _) (cL.refl _)
  have L6:=TQ (TL (S:=λT=>T=ic.seq x) (C:=C) (CI:={ C with w0:=b2,F0:=dJ,K0:=λ_=>False }) (sh:=sh) (rin:=rin) (rout:=rout) (ps:=ps) (assign:=assign) (body:=body) (a:=a) (fn:=fn) (l:=w.heap.size+1) (B:=w.heap.size) (run:=run) (k:=k) (O:=O)
    rfl (by omega) (by rw[G.df];omega) (by rw[G.df];grind))
  have hsl:∀ b,((sh.st nE).ab b).body.bI (κ b)=true->¬((κ b).ab=w.heap.size+1\/(κ b).ab=w.heap.size):=λb aa h=>by
    have:=(cp.own b aa).1;omega
  have u3:=TR.iD (w.heap.size+1) _ dJ (λr=>(∃ b,((sh.st nE).ab b).body.bI (κ b)=true/\(κ b).ab=r)\/r=w.heap.size+1\/r=w.heap.size) b2 aA x dz gj L6 (λr h=>eb.cK r h) eb.ie
    (λr h=>by
      rcases h with⟨b,aa,rfl⟩ | rfl | rfl
      · exact⟨(eb.own b aa).1,(eb.own b aa).2.1⟩
      · exact⟨ah,λh=>by have:=cp.cK _ h;omega⟩
      · exact⟨aL,λh=>by have:=cp.cK _ h;omega⟩)
    ⟨.normal,nE,κ,eb,CY,CZ,λb aa=>⟨.inl ⟨b,aa,rfl⟩,hsl b aa⟩,.inr (.inl rfl),.inr (.inr rfl),λh=>by have:=cp.cK _ h;omega,λh=>by have:=cp.cK _ h;omega,rfl,λ_=>⟨rfl,λR jA=>by grind⟩,λh=>by cases h⟩
  refine⟨w.heap.size+1,[od w.heap.size],b2,{ target:=.fn (.func qQ) #[],args:=aA.toArray++#[.func (.yield (w.heap.size+1)) #[] #[]] },b2,qQ,(aA++[Value.func (.yield (w.heap.size+1)) #[] #[]]).toArray,b2,C0,?_,λ_ _=>trivial,?_,λh=>(by cases h),callsIn_wide.2 (u3.mono λe eA ⟨v,iH,st,F',fY,he,fB,hinv,g1,dP,g3,g4,g5,g6,g7⟩=>?_)⟩
  · have e:a.eval (.const (.func (.yield (w.heap.size+1)) #[] #[]))=.func (.yield (w.heap.size+1)) #[] #[]:=rfl
    simp[resolve,pK,Deferred.ofValue,e]
  · have:=TR.enter (aA++[Value.func (.yield (w.heap.size+1)) #[] #[]]).toArray b2
    simpa [invoke]using this
  subst he;obtain⟨e,A,κ',l4,h1,h2,h3,aQ,bu,cW,fK,_,iS,pF⟩:=hinv;refine⟨r5 e,_,run_endLoop h1 (by cases st<;>simp[eM]),?_⟩;have Gw:w.heap.size+1<eA.heap.size:=(Array.getElem?_eq_some_iff.1 h1).1;generalize aX:Obj.loop _=bQ;have hj:M.b9 (k e (sh.st A)) O:=by
    cases st with
    | true=>grind
    | false=>
      obtain⟨rfl,eV⟩:=iS rfl;exact (eV [] (show iH++[]=ic.seq x by grind)).2 _ rfl
  have uW:∀ r,C.K0 r->r<w.heap.size:=λr h=>Nat.lt_of_lt_of_le (G.gV r h) G.size;have tC:∀ r,C.K0 r->(eA.putObj (w.heap.size+1) bQ).heap[r]?=C.w0.heap[r]?:=λr h=>by
    have b1:=uW r h;rw[World.putObj_heap_other (by omega),g4 r (by omega) λaK=>?_,tE r b1]
    · exact G.d' r h
    · rcases aK with⟨b,aa,rfl⟩ | rfl | rfl
      · exact (cp.own b aa).2.2 h
      · omega
      · omega
  have xp:cL C.w0 (eA.putObj (w.heap.size+1) bQ):=by
    have:=(G.dO.trans xo).trans g7;exact⟨this.os,this.tape,this.output⟩
  have zG:C.jz ⟨eA.putObj (w.heap.size+1) bQ,λr=>C.K0 r\/r=w.heap.size,[w.heap.size]⟩:=
    { r4 := λB aL => by
        have:B=w.heap.size:=by grind
        subst this;exact⟨.inr rfl,(World.putObj_heap_other (by omega)).trans h2⟩
      dU:=λB aL=>by
        have:B=w.heap.size:=by grind
        subst this;exact⟨λh=>by grind,G.size⟩
      l3:=by simp
      gP:=λ_ h=>.inl h
      d':=tC
      size:=by have:=G.size;simp;omega
      dO:=xp }
  have nC:b7 (C.gO ⟨eA.putObj (w.heap.size+1) bQ,λr=>C.K0 r\/r=w.heap.size,[w.heap.size]⟩) (sh.st A) { a with defers:=[od w.heap.size]++a.defers } (eA.putObj (w.heap.size+1) bQ):=by
    have L7:∀ r,F' r->C.F0 r\/¬(C.K0 r\/r=w.heap.size):=λr aW=>by
      rcases dP r aW with h | h | h
      · rcases cp.gK r h with cX | cX
        · exact .inl cX
        · exact .inr λan=>an.elim cX λe=>by have:=cp.cK r h;omega
      · rcases h with⟨b,aa,rfl⟩ | rfl | rfl
        · exact .inr λan=>an.elim (cp.own b aa).2.2 λe=>hsl b aa (.inr e)
        · exact (cW aW).elim
        · exact (fK aW).elim
      grind
    refine⟨κ',F',l4.u2 (r:=C.r) l4.df (by show [od w.heap.size]++a.defers=_;rw[G.dfr];rfl) l4.fO l4.bD (λl' kf L' iH h7 e=>by have e:(sh.st A).au TRS=.tr l' kf L' iH h7:=e;grind)
      (λr h=>World.putObj_heap_other λe=>by
        grind) (by simp) L7 (λr h=>g1 r (cp.hy r h)) (λr h=>?_) (λ_ _=>rfl) (λb aa h=>?_) (Nat.le_refl _) (cL.refl _)⟩
    · simp only[World.putObj_size]
      grind
    · rcases h with h | h
      · rcases (g5 _ (h3 b aa).1).1 with aK | aK
        · rcases aK with⟨aZ,cY,e⟩ | e | e
          · exact (cp.own aZ cY).2.2 (e ▸ h)
          · exact (h3 b aa).2 (.inl e)
          · exact (h3 b aa).2 (.inr e)
        grind
      grind
  have bd:=an _ zG e _ _ _ nC hj;cases e with
  | normal=>exact bd
  | exit id=>exact wpIn_exit bd
  | ret=>exact wpIn_ret bd
theorem ag0{C:bP}(iw:C.r=none){β:Type}{s:ay}{a:Act}{w:World}(G:b7 C s a w){g:Operand}{ps:Array Tmp}{assign body:Code}{aH:ad}{S:List aH.ag->Prop}(az:aS C.aI s.au g=.val (.b6 aH) S)
    {sh rin rout:dh} (dE:nA sh rout aH ps.toList C.nt=true) {nE:sh.ag} (nB:sh.iL s=some nE) (dX:∃ L,S L)
    {run:ay->M (cO×rout.ag)} {k:cO->ay->M β} {O:β->Prop} (aj:∀ L,S L->M.b9 (jx (λA y=>tq sh rin rout aH ps.toList A y run) L nE) λp=>M.b9 (k p.1 (sh.st p.2)) O)
    (CV:∀ l,Gr C.P C.aI C.nt assign body l run) {Q:Exit->Act->World->Prop}
    (an:∀ u,C.jz u->∀ e s' a' w',b7 (C.gO u) s' a' w'->M.b9 (k e s') O->Q e.o3 a' w'):(Code.rangeFunc g ps assign body).wpIn (du C.r) 0 C.P Q a w:=by
  obtain⟨κ,F,G⟩:=G;obtain⟨κ,dJ,f3,cp⟩:=dh.zr nB G;have hv:=jR G g;rw[az]at hv;have pK:=eP _ f3 (cD.refl _ _) ((dw rfl).1 hv).2;simp only[br]at pK;obtain⟨u,hu,_,ag1⟩:=pK;have hu:=(List.cons.inj hu).1;have oW:∀ A:sh.ag,(sh.st A).au TRS=.undef:=λA=>by
    simp only[nA,Bool.and_eq_true,Bool.not_eq_true']at dE;exact xc sh.bD cG A TRS dE.1.1.1.2
  rw[iw];refine wpIn_rangeFunc λfn _=>?_;have aL:w.heap.size<((w.alloc (.deferred (some []))).alloc (.loop (eM fn a.tmps ps assign body w.heap.size .ready .normal))).heap.size:=by simp;omega
  have ah:w.heap.size+1<((w.alloc (.deferred (some []))).alloc (.loop (eM fn a.tmps ps assign body w.heap.size .ready .normal))).heap.size:=by simp
  have CY:((w.alloc (.deferred (some []))).alloc (.loop (eM fn a.tmps ps assign body w.heap.size .ready .normal))).heap[w.heap.size+1]?=some (.loop (eM fn a.tmps ps assign body w.heap.size .ready .normal)):=by
    have:=pJ (w.alloc (.deferred (some []))) (.loop (eM fn a.tmps ps assign body w.heap.size .ready .normal));simp_all
  have CZ:((w.alloc (.deferred (some []))).alloc (.loop (eM fn a.tmps ps assign body w.heap.size .ready .normal))).heap[w.heap.size]?=some (.deferred (some [])):=
    (oK _ _ (by simp)).trans (pJ w _)
  have tE:∀ r,r<w.heap.size->((w.alloc (.deferred (some []))).alloc (.loop (eM fn a.tmps ps assign body w.heap.size .ready .normal))).heap[r]?=w.heap[r]?:=λr h=>TK h;have C0:(Instr.enterLoop fn a.tmps ps assign body none).run C.P w=.ok (w.heap.size+1,[od w.heap.size]) ((w.alloc (.deferred (some []))).alloc (.loop (eM fn a.tmps ps assign body w.heap.size .ready .normal))):=run_enterLoop_outer fn a.tmps ps assign body;have xo:cL w ((w.alloc (.deferred (some []))).alloc (.loop (eM fn a.tmps ps assign body w.heap.size .ready .normal))):=⟨rfl,rfl,rfl⟩
  have L5:((w.alloc (.deferred (some []))).alloc (.loop (eM fn a.tmps ps assign body w.heap.size .ready .normal))).heap.size=w.heap.size+2:=by simp
  generalize (w.alloc (.deferred (some []))).alloc (.loop (eM fn a.tmps ps assign body w.heap.size .ready .normal))=b2 at aL ah CY CZ tE C0 xo L5;have pY:cD dJ w b2:=⟨by omega,λr h=>tE r (cp.cK r h)⟩
  have eb:a_ { C with w0:=b2,F0:=dJ,K0:=λ_=>False } (sh.st nE) a b2 κ dJ:=
    cp.u2 cp.df cp.dfr cp.fO cp.bD (λl' kf L' iH h7 e=>by have e:(sh.st nE).au TRS=.tr l' kf L' iH h7:=e;grind)
      (λr h=>tE r (by
        rcases h with h | ⟨b,aa,rfl⟩
        · exact cp.cK r h
        · exact (cp.own b aa).1)) (by omega) (λ_ h=>.inl h) (λ_ h=>h) (λ_ h=>h.elim) (λ_ h=>h.elim) (λ_ _ h=>h) (Nat.le_refl _) (cL.refl _)
  have L6:=TL (S:=S) (C:=C) (CI:={ C with w0:=b2,F0:=dJ,K0:=λ_=>False }) (sh:=sh) (rin:=rin) (rout:=rout) (ps:=ps) (assign:=assign) (body:=body) (a:=a) (fn:=fn) (l:=w.heap.size+1) (B:=w.heap.size) (run:=run) (k:=k) (O:=O)
    rfl (by omega) (by rw[G.df];omega) (by rw[G.df];grind)
  have hsl:∀ b,((sh.st nE).ab b).body.bI (κ b)=true->¬((κ b).ab=w.heap.size+1\/(κ b).ab=w.heap.size):=λb aa h=>by
    have:=(cp.own b aa).1;omega
  obtain⟨qQ,cC,ag2,rX,La⟩:=ag1 dJ b2 (λ_ h=>h) pY (λr h=>eb.cK r h) eb.ie dX;have u3:=La (w.heap.size+1) _ (λr=>(∃ b,((sh.st nE).ab b).body.bI (κ b)=true/\(κ b).ab=r)\/r=w.heap.size+1\/r=w.heap.size)
    (λr h=>by
      rcases h with⟨b,aa,rfl⟩ | rfl | rfl
      · exact⟨(eb.own b aa).1,(eb.own b aa).2.1⟩
      · exact⟨ah,λh=>by have:=cp.cK _ h;omega⟩
      · exact⟨aL,λh=>by have:=cp.cK _ h;omega⟩)
    L6 ⟨.normal,nE,κ,eb,CY,CZ,λb aa=>⟨.inl ⟨b,aa,rfl⟩,hsl b aa⟩,.inr (.inl rfl),.inr (.inr rfl),λh=>by have:=cp.cK _ h;omega,λh=>by have:=cp.cK _ h;omega,rfl,λ_=>⟨rfl,λR jA=>aj R jA⟩,λh=>by cases h⟩
  refine⟨w.heap.size+1,[od w.heap.size],b2,{ target:=.fn (.func qQ) cC,args:=#[.func (.yield (w.heap.size+1)) #[] #[]] },b2,qQ,#[Value.func (.yield (w.heap.size+1)) #[] #[]]++cC,b2,C0,?_,λ_ _=>trivial,?_,λh=>(by cases h),callsIn_wide.2 (u3.mono λe eA ⟨v,pre,st,F',fY,he,fB,hinv,g1,dP,g3,g4,g5,g6,L8⟩=>?_)⟩
  · have e:a.eval (.const (.func (.yield (w.heap.size+1)) #[] #[]))=.func (.yield (w.heap.size+1)) #[] #[]:=rfl
    simp[resolve,hu,ag2,Deferred.ofValue,e]
  · have:=rX (#[Value.func (.yield (w.heap.size+1)) #[] #[]]++cC) b2
    simpa [invoke]using this
  have g7:cL b2 eA:=⟨L8.1,L8.2.1,L8.2.2⟩
  subst he;obtain⟨e,A,κ',l4,h1,h2,h3,aQ,bu,cW,fK,_,iS,pF⟩:=hinv;refine⟨r5 e,_,run_endLoop h1 (by cases st<;>simp[eM]),?_⟩;have Gw:w.heap.size+1<eA.heap.size:=(Array.getElem?_eq_some_iff.1 h1).1;generalize aX:Obj.loop _=bQ;have hj:M.b9 (k e (sh.st A)) O:=by
    cases st with
    | true=>grind
    | false=>
      obtain⟨rfl,eV⟩:=iS rfl;exact (eV [] (show S (pre++[]) by grind)).2 _ rfl
  have uW:∀ r,C.K0 r->r<w.heap.size:=λr h=>Nat.lt_of_lt_of_le (G.gV r h) G.size;have tC:∀ r,C.K0 r->(eA.putObj (w.heap.size+1) bQ).heap[r]?=C.w0.heap[r]?:=λr h=>by
    have b1:=uW r h;rw[World.putObj_heap_other (by omega),g4 r (by omega) λaK=>?_,tE r b1]
    · exact G.d' r h
    · rcases aK with⟨b,aa,rfl⟩ | rfl | rfl
      · exact (cp.own b aa).2.2 h
      · omega
      · omega
  have xp:cL C.w0 (eA.putObj (w.heap.size+1) bQ):=by
    have:=(G.dO.trans xo).trans g7;exact⟨this.os,this.tape,this.output⟩
  have zG:C.jz ⟨eA.putObj (w.heap.size+1) bQ,λr=>C.K0 r\/r=w.heap.size,[w.heap.size]⟩:=
    { r4 := λB aL => by
        have:B=w.heap.size:=by grind
        subst this;exact⟨.inr rfl,(World.putObj_heap_other (by omega)).trans h2⟩
      dU:=λB aL=>by
        have:B=w.heap.size:=by grind
        subst this;exact⟨λh=>by grind,G.size⟩
      l3:=by simp
      gP:=λ_ h=>.inl h
      d':=tC
      size:=by have:=G.size;simp;omega
      dO:=xp }
  have nC:b7 (C.gO ⟨eA.putObj (w.heap.size+1) bQ,λr=>C.K0 r\/r=w.heap.size,[w.heap.size]⟩) (sh.st A) { a with defers:=[od w.heap.size]++a.defers } (eA.putObj (w.heap.size+1) bQ):=by
    have L7:∀ r,F' r->C.F0 r\/¬(C.K0 r\/r=w.heap.size):=λr aW=>by
      rcases dP r aW with h | h | h
      · rcases cp.gK r h with cX | cX
        · exact .inl cX
        · exact .inr λan=>an.elim cX λe=>by have:=cp.cK r h;omega
      · rcases h with⟨b,aa,rfl⟩ | rfl | rfl
        · exact .inr λan=>an.elim (cp.own b aa).2.2 λe=>hsl b aa (.inr e)
        · exact (cW aW).elim
        · exact (fK aW).elim
      grind
    refine⟨κ',F',l4.u2 (r:=C.r) l4.df (by show [od w.heap.size]++a.defers=_;rw[G.dfr];rfl) l4.fO l4.bD (λl' kf L' iH h7 e=>by have e:(sh.st A).au TRS=.tr l' kf L' iH h7:=e;grind)
      (λr h=>World.putObj_heap_other λe=>by
        grind) (by simp) L7 (λr h=>g1 r (cp.hy r h)) (λr h=>?_) (λ_ _=>rfl) (λb aa h=>?_) (Nat.le_refl _) (cL.refl _)⟩
    · simp only[World.putObj_size]
      grind
    · rcases h with h | h
      · rcases (g5 _ (h3 b aa).1).1 with aK | aK
        · rcases aK with⟨aZ,cY,e⟩ | e | e
          · exact (cp.own aZ cY).2.2 (e ▸ h)
          · exact (h3 b aa).2 (.inl e)
          · exact (h3 b aa).2 (.inr e)
        grind
      grind
  have bd:=an _ zG e _ _ _ nC hj;cases e with
  | normal=>exact bd
  | exit id=>exact wpIn_exit bd
  | ret=>exact wpIn_ret bd
end Go.Fer
namespace Go.Fer
open Go.RowKit
open M (V)
section
variable {F:Fence} {n:Nat} {P:Program} {Q:Exit->Act->World->Prop} {a:Act} {w:World}
theorem ag3{c:Code}{GA β:Type}{body:GA->M (V GA β)}{O:β->Prop}(I:GA->Act->World->Prop)
  (round:∀ A a w,I A a w->(body A).b4->(∀ r,(body A).bB (.done r)->O r)->c.wpIn F n P (Exit.then (λa' w'=>∃ ir,(body A).bB (.next ir)/\I ir a' w') Q) a w)
  {A:GA} (hs:M.Be body A) (af:∀ r,M.yy body A r->O r) (eb:I A a w):(Code.loop c).wpIn F n P Q a w:=by
 intro b k cs qX aa G;have key:∀ A,M.Be body A->(∀ r,M.yy body A r->O r)->∀ a w,I A a w->
   ∃ e a' w',Q e a' w'/\ArrivesIn (Machine.fenced P F) P (lone (b.atR a (.code c::.inLoop c::k)) cs w) b k cs e a' w':=by
  intro A hs;induction hs with
  | mk A h _ aG=>
   intro af a w eb;obtain⟨e,lA,lB,bd,eL⟩:=round A a w eb h (λr G=>af r (.done _ _ G)) b (.inLoop c::k) cs qX aa G;cases e with
   | normal=>
    obtain⟨ir,p4,ag4⟩:=bd;obtain⟨L9,L_,Ma,Mb,Mc⟩:=aG ir p4 (λr G=>af r (.next _ _ _ p4 G)) lA lB ag4;exact⟨L9,L_,Ma,Mb,.of_steps (StepsIn.trans eL (.one (fenced_calm aa G rfl) stepR_inLoop)) Mc⟩
   | exit id=>exact⟨_,lA,lB,bd,.pass (x:=.inLoop c) rfl (λ_ _=>.inl (by simp)) eL⟩
   | goto l=>exact⟨_,lA,lB,bd,.pass (x:=.inLoop c) rfl (λ_ _=>.inl (by simp)) eL⟩
   | ret=>exact⟨_,lA,lB,bd,.pass (x:=.inLoop c) rfl (λ_ _=>.inl (by simp)) eL⟩
   | panic Md=>exact⟨_,lA,lB,bd,.pass (x:=.inLoop c) rfl (λ_ _=>.inl (by simp)) eL⟩
   | outgrown=>exact⟨_,lA,lB,bd,.pass (x:=.inLoop c) rfl (λ_ _=>.inl (by simp)) eL⟩
 obtain⟨e,a',w',bd,eL⟩:=key A hs af a w eb;exact⟨e,a',w',bd,.of_steps (.one (fenced_calm aa G rfl) stepR_loop) eL⟩
theorem ag5{p q:Prop}(bd:q)(h:q->p):p/\q:=⟨h bd,bd⟩
def GB(F:Fence)(n:Nat)(P:Program)(c:Code)(Q:Exit->Act->World->Prop)(a:Act)(w:World):Prop:=
 ∀ (b:Frame) (k:List Item) (cs:List Frame),b.roundOf=F.round->F.fn b.fn->F.room (cs.length+1+n)->
  ∃ e a' w',Q e a' w'/\ArrivesIn (Machine.fenced P F) P (lone (b.atR a (.code c::.inLoop c::k)) cs w) b k cs e a' w'
theorem ag6{c:Code}(h:GB F n P c Q a w):(Code.loop c).wpIn F n P Q a w:=λb k cs qX aa G=>by
 obtain⟨e,a',w',bd,eL⟩:=h b k cs qX aa G;exact⟨e,a',w',bd,.of_steps (.one (fenced_calm aa G rfl) stepR_loop) eL⟩
theorem ag7{c:Code}(h:c.wpIn F n P (Exit.then (λa' w'=>GB F n P c Q a' w') Q) a w):GB F n P c Q a w:=λb k cs qX aa G=>by
 obtain⟨e,lA,lB,bd,eL⟩:=h b (.inLoop c::k) cs qX aa G;cases e with
 | normal=>
  obtain⟨L9,L_,Ma,Mb,Mc⟩:=bd b k cs qX aa G;exact⟨L9,L_,Ma,Mb,.of_steps (StepsIn.trans eL (.one (fenced_calm aa G rfl) stepR_inLoop)) Mc⟩
 | exit id=>exact⟨_,lA,lB,bd,.pass (x:=.inLoop c) rfl (λ_ _=>.inl (by simp)) eL⟩
 | goto l=>exact⟨_,lA,lB,bd,.pass (x:=.inLoop c) rfl (λ_ _=>.inl (by simp)) eL⟩
 | ret=>exact⟨_,lA,lB,bd,.pass (x:=.inLoop c) rfl (λ_ _=>.inl (by simp)) eL⟩
 | panic Md=>exact⟨_,lA,lB,bd,.pass (x:=.inLoop c) rfl (λ_ _=>.inl (by simp)) eL⟩
 | outgrown=>exact⟨_,lA,lB,bd,.pass (x:=.inLoop c) rfl (λ_ _=>.inl (by simp)) eL⟩
theorem zH{b:Frame}{k:List Item}{cs:List Frame}{c:Code}:step P (lone (b.atR a (.code (.scope c)::k)) cs w)=.next (lone (b.atR a (.code c::.inScope c::k)) cs w):=
 step_lone_go (by rfl)
theorem ag8{b:Frame}{k:List Item}{cs:List Frame}{c:Code}:step P (lone (b.atR a (.inScope c::k)) cs w)=.next (lone (b.atR a k) cs w):=
 step_lone_go (by rfl)
theorem ag9{c:Code}(h:c.wpIn F n P (Exit.noGoto Q) a w):(Code.scope c).wpIn F n P Q a w:=by
 intro b k cs qX aa G;have h0:(lone (b.atR a (.code (.scope c)::k)) cs w).fenced P F:=fenced_calm aa G rfl;obtain⟨e,lA,lB,bd,eL⟩:=h b (.inScope c::k) cs qX aa G;cases e with
 | normal=>exact⟨.normal,lA,lB,bd,.head h0 zH (StepsIn.trans eL (.one (fenced_calm aa G rfl) ag8))⟩
 | exit id=>
  have hx:exitTo id (.inScope c::k)=exitTo id k:=by rfl
  exact⟨.exit id,lA,lB,bd,λk' an=>.head h0 zH (eL.1 k' (by grind)),λaW an=>let ⟨k₁,h1,h2⟩:=eL.2 aW (by grind);⟨k₁,h1,.head h0 zH h2⟩⟩
 | goto l=>exact bd.elim
 | ret=>exact⟨.ret,lA,lB,bd,.of_steps (.one h0 zH) eL⟩
 | panic Md=>exact⟨.panic Md,lA,lB,bd,.of_steps (.one h0 zH) eL⟩
 | outgrown=>exact⟨.outgrown,lA,lB,bd,.of_steps (.one h0 zH) eL⟩
end
section
variable {T:Nat->ad} {aY:Nat->Option aJ} {Ψ:Nat->Option eH}
def Me{A β:Type}(m:M (V A β))(O:β->Prop)(st:V A β):Prop:=
 match st with
 | .next s=>m.bB (.next s)
 | .done r=>O r
theorem ag_{C:bP}{s s':ay}{i:Nat}{a:Act}{w:World}(h:KU s i=some s')(G:b7 C s a w):b7 C s' a w:=by
 obtain⟨κ,F,G⟩:=G;unfold KU at h;split at h
 ·rename_i b g n off hs;split at h
  ·rename_i e xs bC;split at h
   ·rename_i az;cases h;have hv:=G.bD i;rw[hs]at hv;obtain⟨aM,aO,bz⟩:=hv.2 az (by rw[bC];rfl);rw[bC]at aM bz;have aL:=G.bl b;unfold cf at aL;rw[bC]at aL;obtain⟨cs,T,c1,c2,c3,c4,c5⟩:=aL.2 aO;have aM:n<xs.length:=aM;obtain⟨a7,d1,d2⟩:=c5 n aM;have d2:br C.P (.slice e) F w a7 xs[n]:=d2;obtain⟨u,rfl,hu⟩:=Bl (t:=.slice e) rfl d2;have s3:cs.getD ((κ b).off+n) Go.undef=u:=by
     have:=d1 0 (by simp);simp only[ad.size,Nat.mul_one,Nat.add_zero]at this;rw[Array.getD_eq_getD_getElem?,this];rfl
    have fS:eZ s.ab κ (λq=>if q=b then (⟨g,.fN (.st (.slice e)) xs n (.val (.slice e) (xs.getD n []))⟩:bt) else s.ab q) κ:=
     qv az (λh=>by cases h) (λ_=>by rw[bC];exact⟨rfl,rfl,rfl⟩) (λh=>by cases h) (λh=>by cases h)
    have cp:=G.oL (b:=b) (x:=⟨g,.fN (.st (.slice e)) xs n (.val (.slice e) (xs.getD n []))⟩) (w':=w) (by rw[bC];simp[bA.bI,aO]) (by simp[bA.bI,aO]) fS (λh=>by cases h) (λh=>by cases h) (λ_ _=>rfl) rfl (cL.refl w) λH mu b1 he=>
     ⟨aO,cs,T,c1,c2,c3,c4,⟨rfl,aM⟩,λj aB _=>c5 j aB,by rw[s3,show xs.getD n []=xs[n] by simp[aM]];exact (dw rfl).2 ⟨hu,d2⟩,by rw[s3];exact Jl (t:=.slice e) rfl d2⟩
    refine⟨κ,F,{ cp with bD:=λj=>?_,df:=cp.df,dfr:=cp.dfr,bl:=cp.bl,pro:=λl aH L m st aR=>?_ }⟩
    ·show bh _ _ _ _ _ (if j=i then _ else _) _;split
     ·rename_i aB;subst aB;refine⟨⟨by show g<=(if b=b then _ else _:bt).gen;simp,hv.1.2⟩,λ_ _=>?_⟩;show _<(if b=b then _ else _:bt).body.len/\_/\_=Value.pointer (some ⟨_,_+_*(if b=b then _ else _:bt).body.eE,_⟩);simp only[if_true];exact⟨aM,aO,bz⟩
     ·exact cp.bD j
    ·have aR:(if TRS=i then _ else _)=aC.tr l aH L m st:=aR;split at aR
     ·cases aR
     ·exact cp.pro l aH L m st aR
   ·cases h
  ·cases h
 ·cases h
theorem ag'{C:bP}{s s':ay}{b:Nat}{a:Act}{w:World}(h:KV s b=some s')(G:b7 C s a w):b7 C s' a w:=by
 obtain⟨κ,F,G⟩:=G;unfold KV at h;split at h
 ·rename_i e xs n v bC;split at h
  ·rename_i y fl aK;split at h
   ·cases h
   ·rename_i pO;cases h;have pO:b ∉ fl:=by simpa using pO
    obtain⟨F',f1,aW,f2⟩:=a_.kO (mr aK) G;have y5:(s.ca fl).ab b=s.ab b:=by simp[ay.ca,pO]
    have aL:=G.bl b;have Mf:=aW.bl b;unfold cf at aL Mf;rw[y5,bC]at Mf;rw[bC]at aL;obtain⟨h0,cs,T,c1,c2,c3,c4,c5,lj,n0,wF⟩:=Mf;obtain⟨_,cN,hB,TS,_,_,_,_,_,aha,_⟩:=aL;rw[c1]at TS;cases TS;have uI:=lS G.bl f1 aK f2 aha;obtain⟨Gt,oe⟩:=(dw rfl).1 uI;have fS:eZ (s.ca fl).ab κ (λq=>if q=b then (⟨(s.ab b).gen,.a6 (.st (.slice e)) (xs.set n y)⟩:bt) else (s.ca fl).ab q) κ:=
     qv (by rw[y5]) (λh=>by cases h) (λ_=>by rw[y5,bC];exact⟨rfl,by simp[bA.len],rfl⟩) (λh=>by cases h) (λh=>by cases h)
    refine⟨κ,F',aW.oL (b:=b) (w':=w) (by rw[y5,bC];simp[bA.bI,h0]) (by simp[bA.bI,h0]) fS (λh=>by cases h) (λh=>by cases h) (λ_ _=>rfl) rfl (cL.refl w) λH mu b1 he=>⟨λax=>(by rw[h0]at ax;cases ax),λ_=>⟨cs,T,c1,c2,by simpa using c3,c4,λj aB=>?_⟩⟩⟩;by_cases qu:j=n
    ·subst qu;refine⟨[cs.getD ((κ b).off+j) Go.undef],λq bd=>?_,?_⟩
     ·have bd:q=0:=by simpa using bd
      subst bd;have:(κ b).off+j<cs.size:=by
       have:=c5.2;simp only[ad.size,Nat.mul_one]at c2;omega
      simp[ad.size,this]
     ·rw[List.getElem_set_self];exact oe
    ·obtain⟨a7,d1,d2⟩:=lj j (by simpa using aB) qu;exact⟨a7,d1,by rw[List.getElem_set_ne (Ne.symm qu)];exact d2⟩
  ·cases h
 ·cases h
theorem ahb:∀ (ann:cd),(∀ (C:bP) (_:C.P.follows .mixedOrders=true) (_:dv C.P T) (_:iX C.P aY) (_:lz C.P C.aI Ψ) (_:C.r=none\/ann.dH=true) {β:Type} (c:Code) (s:ay) (k:cO->ay->M β) (O:β->Prop) (Q:Exit->Act->World->Prop) (a:Act) (w:World),kV C.nt c=true->b7 C s a w->M.b9 (ed C.aI T aY Ψ ann c s k) O->(∀ u,C.jz u->∀ e s' a' w',b7 (C.gO u) s' a' w'->M.b9 (k e s') O->Q e.o3 a' w')->c.wpIn (du C.r) 0 C.P Q a w)/\(ann.n8=true->∀ (C:bP) (_:C.P.follows .mixedOrders=true) (_:dv C.P T) (_:iX C.P aY) (_:lz C.P C.aI Ψ) (_:C.r=none\/ann.dH=true) {β:Type} (c:Code) (s:ay) (k:cO->ay->M β) (O:β->Prop) (Q:Exit->Act->World->Prop) (a:Act) (w:World),kV C.nt c=true->b7 C s a w->M.b9 (ed C.aI T aY Ψ ann (.loop c) s k) O->(∀ u,C.jz u->∀ e s' a' w',b7 (C.gO u) s' a' w'->M.b9 (k e s') O->Q e.o3 a' w')->GB (du C.r) 0 C.P c Q a w):=by
 intro ann;induction ann with
 | ei=>
  refine⟨?_,λ_ C dK hT cb cB fz β c s k O Q a w hc G aj an=>by unfold ed at aj;exact (gb aj).elim⟩;intro C dK hT cb cB fz β c s k O Q a w hc G aj an;unfold ed at aj;split at aj
  ·rename_i id ops draw;cases draw with
   | true=>exact agv dK hT (S6 cb cB) cB (λo af=>List.all_eq_true.1 hc o af) (λs' a' w' aW eV=>an C.hg C.u1 .normal s' a' w' aW eV) G aj
   | false=>
    refine wpIn_region ?_;have:=LF (Q:=Q) (ops:=ops) hT cb cB (λo af=>List.all_eq_true.1 hc o af) (k:=k .normal) (O:=O) (λs' a' w' aW eV=>an C.hg C.u1 .normal s' a' w' aW eV) ops.toList 0 [] s a w (by simp) (λp hp=>by cases hp) G aj;rw[List.range_eq_range'];omega
  ·exact wpIn_skip (an C.hg C.u1 .normal s a w G aj)
  ·exact wpIn_label (an C.hg C.u1 .normal s a w G aj)
  ·exact wpIn_exit (an C.hg C.u1 (.exit _) s a w G aj)
  ·exact wpIn_ret (an C.hg C.u1 .ret s a w G aj)
  ·exact (gb aj).elim
 | seq x y gY kY=>
  have gY:=gY.1;have kY:=kY.1;refine⟨?_,λh=>by simp[cd.n8]at h⟩;intro C dK hT cb cB fz β c s k O Q a w hc G aj an;have lC:C.r=none\/x.dH=true:=fz.imp id λh=>by simp only[cd.dH,Bool.and_eq_true]at h;grind
  have p5:C.r=none\/y.dH=true:=fz.imp id λh=>by simp only[cd.dH,Bool.and_eq_true]at h;grind
  unfold ed at aj;split at aj
  ·rename_i nF zI;simp only[kV,Bool.and_eq_true]at hc;refine wpIn_seq (gY C dK hT cb cB lC nF s _ O _ a w hc.1 G aj λu hu e s' a' w' aW eV=>?_);cases e with
   | normal=>exact kY (C.gO u) dK hT cb cB p5 zI s' k O Q a' w' hc.2 aW eV λv hv=>by rw[bP.zE];exact an _ (hu.then hv)
   | exit id=>exact an u hu (.exit id) s' a' w' aW eV
   | ret=>exact an u hu .ret s' a' w' aW eV
  ·exact (gb aj).elim
 | join sh x y gY kY=>
  have gY:=gY.1;have kY:=kY.1;refine⟨?_,λh=>by simp[cd.n8]at h⟩;intro C dK hT cb cB fz β c s k O Q a w hc G aj an;have lC:C.r=none\/x.dH=true:=fz.imp id λh=>by simp only[cd.dH,Bool.and_eq_true]at h;grind
  have p5:C.r=none\/y.dH=true:=fz.imp id λh=>by simp only[cd.dH,Bool.and_eq_true]at h;grind
  unfold ed at aj;split at aj
  ·rename_i nF zI;simp only[kV,Bool.and_eq_true]at hc;rw[M.fF]at aj;refine wpIn_seq (gY C dK hT cb cB lC nF s _ _ _ a w hc.1 G aj λu hu e s' a' w' aW eV=>?_);cases e with
   | normal=>
    obtain⟨A,nB,h2⟩:=tB eV;have h3:=M.dC.1 h2;exact kY (C.gO u) dK hT cb cB p5 zI _ k O Q a' w' hc.2 (dh.w8 nB aW) h3 λv hv=>by rw[bP.zE];exact an _ (hu.then hv)
   | exit id=>
    simp only[w6,M.fF,M.dC,V.bm]at eV;exact an u hu (.exit id) s' a' w' aW eV
   | ret=>
    simp only[w6,M.fF,M.dC,V.bm]at eV;exact an u hu .ret s' a' w' aW eV
  ·exact (gb aj).elim
 | cond x y gY kY=>
  have gY:=gY.1;have kY:=kY.1;refine⟨?_,λh=>by simp[cd.n8]at h⟩;intro C dK hT cb cB fz β c s k O Q a w hc G aj an;have lC:C.r=none\/x.dH=true:=fz.imp id λh=>by simp only[cd.dH,Bool.and_eq_true]at h;grind
  have p5:C.r=none\/y.dH=true:=fz.imp id λh=>by simp only[cd.dH,Bool.and_eq_true]at h;grind
  unfold ed at aj;split at aj
  ·rename_i co nF zI;simp only[kV,Bool.and_eq_true]at hc;unfold Si at aj;split at aj
   ·rename_i t hu;obtain⟨κ,F,ez⟩:=G;have hv:=jR ez co;rw[hu]at hv;refine wpIn_cond_split (eQ.1 hv) (λaF=>?_) (λaF=>?_)
    ·subst aF;exact gY C dK hT cb cB lC nF s k O Q a w hc.1 ⟨κ,F,ez⟩ aj an
    ·subst aF;exact kY C dK hT cb cB p5 zI s k O Q a w hc.2 ⟨κ,F,ez⟩ aj an
   ·rename_i g t hu;rw[M.ko]at aj;obtain⟨aX,aj⟩:=aj;obtain⟨κ,F,ez⟩:=G;have hv:=jR ez co;rw[hu]at hv;refine wpIn_cond_split (eQ.1 (hv.1 aX)) (λaF=>?_) (λaF=>?_)
    ·subst aF;exact gY C dK hT cb cB lC nF s k O Q a w hc.1 ⟨κ,F,ez⟩ aj an
    ·subst aF;exact kY C dK hT cb cB p5 zI s k O Q a w hc.2 ⟨κ,F,ez⟩ aj an
   ·exact (gb aj).elim
  ·exact (gb aj).elim
 | block x gY=>
  have gY:=gY.1;refine⟨?_,λh=>by simp[cd.n8]at h⟩;intro C dK hT cb cB fz β c s k O Q a w hc G aj an;have lC:C.r=none\/x.dH=true:=fz;unfold ed at aj;split at aj
  ·rename_i id nF;refine wpIn_block (gY C dK hT cb cB lC nF s _ O _ a w hc G aj λu hu e s' a' w' aW eV=>?_);cases e with
   | normal=>exact an u hu .normal s' a' w' aW eV
   | exit FN=>
    simp only[Sh]at eV;simp only[cO.o3,Exit.inBlock];split at eV
    ·rename_i e;rw[if_pos e];exact an u hu .normal s' a' w' aW eV
    ·rename_i e;rw[if_neg e];exact an u hu (.exit FN) s' a' w' aW eV
   | ret=>exact an u hu .ret s' a' w' aW eV
  ·exact (gb aj).elim
 | loop sh x gY=>
  have gY:=gY.1;refine⟨?_,λh=>by simp[cd.n8]at h⟩;intro C dK hT cb cB fz β c s k O Q a w hc G aj an;have lC:C.r=none\/x.dH=true:=fz;unfold ed at aj;split at aj
  ·rename_i nF;obtain⟨A,nB,h2⟩:=tB aj;refine ag3 (I:=λA a w=>∃ u,C.jz u/\b7 (C.gO u) (sh.st A) a w) (O:=O) (λA a w ⟨v,hv,eb⟩ qG CH=>?_) h2.1 h2.2 ⟨C.hg,C.u1,dh.w8 nB G⟩;refine gY (C.gO v) dK hT cb cB lC nF (sh.st A) _ (Me (ed C.aI T aY Ψ x nF (sh.st A) (w6 k λs'=>sh.mC s' λir=>M.pure (V.next ir))) O) _ a w hc eb ⟨qG,λst fB=>?_⟩ λu hu e s' a' w' aW eV=>?_
   ·cases st with
    | next ir=>exact fB
    | done r=>exact CH r fB
   ·cases e with
    | normal=>
     obtain⟨ir,L0,h3⟩:=tB eV;have aQ:=M.dC.1 h3;exact⟨ir,aQ,_,hv.then hu,by rw[<-bP.zE];exact dh.w8 L0 aW⟩
    | exit id=>
     simp only[w6,M.fF,M.dC,Me]at eV;exact an _ (hv.then hu) (.exit id) s' a' w' (by rw[<-bP.zE];omega) eV
    | ret=>
     simp only[w6,M.fF,M.dC,Me]at eV;exact an _ (hv.then hu) .ret s' a' w' (by rw[<-bP.zE];omega) eV
  ·exact (gb aj).elim
 | scope x gY=>
  have gY:=gY.1;refine⟨?_,λh=>by simp[cd.n8]at h⟩;intro C dK hT cb cB fz β c s k O Q a w hc G aj an;have lC:C.r=none\/x.dH=true:=fz;unfold ed at aj;split at aj
  ·rename_i nF;refine ag9 (gY C dK hT cb cB lC nF s _ O _ a w hc G aj λu hu e s' a' w' aW eV=>?_);have:=an u hu e s' a' w' aW eV;cases e<;>exact this
  ·exact (gb aj).elim
 | range sh rin rout x y gY kY=>
  have gY:=gY.1;have kY:=kY.1;refine⟨?_,λh=>by simp[cd.n8]at h⟩;intro C dK hT cb cB fz β c s k O Q a w hc G aj an;unfold ed at aj;split at aj
  ·rename_i g ps assign body;simp only[kV,Bool.and_eq_true,List.all_eq_true,decide_eq_true_eq]at hc;obtain⟨awU,TT,TU⟩:=hc;split at aj
   ·rename_i qQ n ev az;split at aj
    ·rename_i ic ahc;split at aj
     ·rename_i awV fl hx;split at aj
      ·rename_i dE;simp only[Bool.and_eq_true]at dE;obtain⟨dE,lC,p5⟩:=dE;obtain⟨A,nB,h2⟩:=tB aj;rw[M.ko,M.fF]at h2;simp only[Sj]at h2;have iw:C.r=none:=fz.resolve_right λh=>by cases h
       have Mg:nA sh rout ic.aH ps.toList C.nt=true:=by
        simp only[nA,Bool.and_eq_true,List.all_eq_true,decide_eq_true_eq]at dE ⊢;grind
       refine agY iw G az (cB qQ _ ahc) hx Mg nB h2.1 h2.2 (λl=>?_) an;intro C1 i_ s6 qY tj ea bT b2 p2 jV j0;have h:=gY C1 (i_ ▸ dK) (i_ ▸ hT) (i_ ▸ cb) (by grind) (.inr lC) assign ea (FO λdq=>ed C.aI T aY Ψ y body dq λe ee=>rout.mC ee λτ=>M.pure (e,τ)) p2
        (Exit.then (λa2 cF=>∃ u dq,C1.jz u/\b7 (C1.gO u) dq a2 cF/\
         ∀ (gX:bP),gX.P=C.P->gX.aI=C.aI->gX.nt=C.nt->gX.r=some l->∀ (cF:World),b7 gX dq a2 cF->
          body.wpIn (du (some l)) 0 C.P (λe a3 eA=>∃ (aR:cO) (v:nD) (ee:ay) (τ:rout.ag),e=aR.o3/\gX.jz v/\b7 (gX.gO v) ee a3 eA/\rout.iL ee=some τ/\p2 (aR,τ)) a2 cF) (λ_ _ _=>False)) bT b2 (qY ▸ TT) jV (s6 ▸ j0)
        λu hu e dq a2 cF cp o5=>?_
       ·grind
       ·cases e with
        | normal=>
         refine⟨u,dq,hu,cp,λgX xq Mh Mi ahd cF l4=>?_⟩;have h:=kY gX (xq ▸ dK) (xq ▸ hT) (xq ▸ cb) (by grind) (.inr p5) body dq (λe ee=>rout.mC ee λτ=>M.pure (e,τ)) p2
          (λe a3 eA=>∃ (aR:cO) (v:nD) (ee:ay) (τ:rout.ag),e=aR.o3/\gX.jz v/\b7 (gX.gO v) ee a3 eA/\rout.iL ee=some τ/\p2 (aR,τ)) a2 cF (Mi ▸ TU) l4 (Mh ▸ o5) λv hv e ee a3 eA og GC=>by
           obtain⟨τ,hτ,bu⟩:=tB GC;exact⟨e,v,ee,τ,rfl,hv,og,hτ,M.dC.1 bu⟩
         grind
        | exit id=>exact (gb o5).elim
        | ret=>exact (gb o5).elim
      ·exact (gb aj).elim
     ·exact (gb aj).elim
    ·exact (gb aj).elim
   ·rename_i aH S az;split at aj
    ·rename_i dE;simp only[Bool.and_eq_true]at dE;obtain⟨dE,lC,p5⟩:=dE;obtain⟨A,nB,h2⟩:=tB aj;rw[M.fF]at h2;have iw:C.r=none:=fz.resolve_right λh=>by cases h
     have Mg:nA sh rout aH ps.toList C.nt=true:=by
      simp only[nA,Bool.and_eq_true,List.all_eq_true,decide_eq_true_eq]at dE ⊢;grind
     refine ag0 iw G az Mg nB h2.1 (λL hU=>by have h3:=M.fF.1 (h2.2 L hU);simp only[Sj]at h3;exact h3) (λl=>?_) an;intro C1 i_ s6 qY tj ea bT b2 p2 jV j0;have h:=gY C1 (i_ ▸ dK) (i_ ▸ hT) (i_ ▸ cb) (by grind) (.inr lC) assign ea (FO λdq=>ed C.aI T aY Ψ y body dq λe ee=>rout.mC ee λτ=>M.pure (e,τ)) p2
      (Exit.then (λa2 cF=>∃ u dq,C1.jz u/\b7 (C1.gO u) dq a2 cF/\
       ∀ (gX:bP),gX.P=C.P->gX.aI=C.aI->gX.nt=C.nt->gX.r=some l->∀ (cF:World),b7 gX dq a2 cF->
        body.wpIn (du (some l)) 0 C.P (λe a3 eA=>∃ (aR:cO) (v:nD) (ee:ay) (τ:rout.ag),e=aR.o3/\gX.jz v/\b7 (gX.gO v) ee a3 eA/\rout.iL ee=some τ/\p2 (aR,τ)) a2 cF) (λ_ _ _=>False)) bT b2 (qY ▸ TT) jV (s6 ▸ j0)
      λu hu e dq a2 cF cp o5=>?_
     ·grind
     ·cases e with
      | normal=>
       refine⟨u,dq,hu,cp,λgX xq Mh Mi ahd cF l4=>?_⟩;have h:=kY gX (xq ▸ dK) (xq ▸ hT) (xq ▸ cb) (by grind) (.inr p5) body dq (λe ee=>rout.mC ee λτ=>M.pure (e,τ)) p2
        (λe a3 eA=>∃ (aR:cO) (v:nD) (ee:ay) (τ:rout.ag),e=aR.o3/\gX.jz v/\b7 (gX.gO v) ee a3 eA/\rout.iL ee=some τ/\p2 (aR,τ)) a2 cF (Mi ▸ TU) l4 (Mh ▸ o5) λv hv e ee a3 eA og GC=>by
         obtain⟨τ,hτ,bu⟩:=tB GC;exact⟨e,v,ee,τ,rfl,hv,og,hτ,M.dC.1 bu⟩
       grind
      | exit id=>exact (gb o5).elim
      | ret=>exact (gb o5).elim
    ·exact (gb aj).elim
   ·exact (gb aj).elim
  ·exact (gb aj).elim
 | nz x y gY kY=>
  refine ag5 (λ_ C dK hT cb cB fz β c s k O Q a w hc G aj an=>?_) λkey C dK hT cb cB fz β c s k O Q a w hc G aj an=>?_
  ·have lC:C.r=none\/x.dH=true:=fz.imp id λh=>by simp only[cd.dH,Bool.and_eq_true]at h;grind
   have p5:C.r=none\/y.dH=true:=fz.imp id λh=>by simp only[cd.dH,Bool.and_eq_true]at h;grind
   unfold ed at aj;simp only at aj;split at aj
   ·rename_i hu;refine ag7 (gY.1 C dK hT cb cB lC c s _ O _ a w hc G aj λu xa e s' a' w' aW eV=>?_);cases e with
    | normal=>exact kY.2 hu (C.gO u) dK hT cb cB p5 c s' k O Q a' w' hc aW eV λv hv=>by rw[bP.zE];exact an _ (xa.then hv)
    | exit id=>exact an u xa (.exit id) s' a' w' aW eV
    | ret=>exact an u xa .ret s' a' w' aW eV
   ·exact (gb aj).elim
  ·cases c with
   | loop nF=>exact ag6 (key rfl C dK hT cb cB fz nF s k O Q a w hc G aj an)
   | _=>unfold ed at aj;exact (gb aj).elim
 | FM=>
  refine⟨?_,λh=>by simp[cd.n8]at h⟩;intro C dK hT cb cB fz β c s k O Q a w hc G aj an;unfold ed at aj;split at aj
  ·rename_i id ops draw;split at aj
   ·rename_i h;rw[Bool.and_eq_true]at h;obtain⟨rfl,h⟩:=h;exact agB dK (fz.resolve_right (by simp[cd.dH])) h hT (S6 cb cB) cB (λo af=>List.all_eq_true.1 hc o af) (λs' a' w' aW eV=>an C.hg C.u1 .normal s' a' w' aW eV) G aj
   ·exact (gb aj).elim
  ·exact (gb aj).elim
 | nu i x aG=>
  have aG:=aG.1;refine⟨?_,λh=>by simp[cd.n8]at h⟩;intro C dK hT cb cB fz β c s k O Q a w hc G aj an;unfold ed at aj;split at aj
  ·rename_i s' hv;exact aG C dK hT cb cB fz c s' k O Q a w hc (ag_ hv G) aj an
  ·exact (gb aj).elim
 | FL b x aG=>
  have aG:=aG.1;refine⟨?_,λh=>by simp[cd.n8]at h⟩;intro C dK hT cb cB fz β c s k O Q a w hc G aj an;unfold ed at aj;split at aj
  ·rename_i s' hv;exact aG C dK hT cb cB fz c s' k O Q a w hc (ag' hv G) aj an
  ·exact (gb aj).elim
 | num i n x aG=>
  have aG:=aG.1;refine⟨?_,λh=>by simp[cd.n8]at h⟩;intro C dK hT cb cB fz β c s k O Q a w hc G aj an;unfold ed at aj;split at aj
  ·rename_i v f hv;rw[M.ko]at aj;have h:=aj.2;rw[aee hv aj.1]at h;exact aG C dK hT cb cB fz c s k O Q a w hc G h an
  ·exact (gb aj).elim
 | split i off n x aG=>
  have aG:=aG.1;refine⟨?_,λh=>by simp[cd.n8]at h⟩;intro C dK hT cb cB fz β c s k O Q a w hc G aj an;unfold ed at aj;split at aj
  ·rename_i v f hv;rw[M.ko]at aj;have h:=Se aj.2 aj.1.1 aj.1.2;rw[aed hv aj.1.1]at h;exact aG C dK hT cb cB fz c s k O Q a w hc G h an
  ·exact (gb aj).elim
theorem TV(ann:cd):∀ (C:bP) (_:C.P.follows .mixedOrders=true) (_:dv C.P T) (_:iX C.P aY) (_:lz C.P C.aI Ψ) (_:C.r=none\/ann.dH=true) {β:Type} (c:Code) (s:ay) (k:cO->ay->M β) (O:β->Prop) (Q:Exit->Act->World->Prop) (a:Act) (w:World),kV C.nt c=true->b7 C s a w->M.b9 (ed C.aI T aY Ψ ann c s k) O->(∀ u,C.jz u->∀ e s' a' w',b7 (C.gO u) s' a' w'->M.b9 (k e s') O->Q e.o3 a' w')->c.wpIn (du C.r) 0 C.P Q a w:=(ahb ann).1
end
end Go.Fer
namespace Go.Fer
open Go.RowKit
def C2(T:Nat->ad)(s:ay):List ResultVar->Option (List aC)
 | []=>some []
 | r::l=>match C2 T s l with
  | none=>none
  | some aA=>match r with
   | .tmp t=>some (s.au t::aA)
   | .cell a ty=>match (yL (T ty) (s.au a)).run s.ab with
    | some v=>some (v::aA)
    | none=>none
def Mj(t:ad)(n:Nat):Bool:=
 match t with
 | .aw _ _=>n != 1
 | .cx=>n == 0
 | _=>n == 1
def u4(T:Nat->ad)(ke:List ResultVar)(tr:ad)(e:cO)(s:ay):M tr.ag:=
 match e with
 | .exit _=>M.fail
 | _=>match C2 T s ke with
  | some avs=>match (iG tr avs).run s.ab with
   | some (y,_)=>M.pure y
   | none=>M.fail
  | none=>M.fail
def zJ(t:ad)(x:t.ag)(n:Nat):List (Nat×aC):=(List.range n).map λi=>(i,j' t x i)
def r7(t:ad):Nat:=if t=.cx then 0 else jP t
def o7(t:ad)(x:t.ag):ay:=R4 (zJ t x (r7 t)) []
def C3(U:dd)(T:Nat->ad)(aY:Nat->Option aJ)(Ψ:Nat->Option eH)(fn:Func)(c:Code)(ann:cd)(ts tr:ad)(x:ts.ag):M tr.ag:=
 ed U T aY Ψ ann c (o7 ts x) (u4 T fn.results.toList tr)
def GD(av:aC):aC:=match av with | .val (.bp e) p=>.dx e (p.getD e.cM) | v=>v
def C4(av:aC):Prop:=match av with | .val (.bp _) p=>p.isSome=true | _=>True
def GF(n:Nat)(s:ay):ay:=⟨λi=>if i<n\/eo<i then s.au i else GD (s.au i),s.ab⟩
def C5(n:Nat)(s:ay):Prop:=∀ i,¬(i<n\/eo<i)->C4 (s.au i)
def ahe(U:dd)(T:Nat->ad)(aY:Nat->Option aJ)(Ψ:Nat->Option eH)(fn:Func)(c:Code)(ann:cd)(n:Nat)(ts tr:ad)(x:ts.ag):M tr.ag:=
 M.ae (C5 n (o7 ts x)) (ed U T aY Ψ ann c (GF n (o7 ts x)) (u4 T fn.results.toList tr))
def C6(fn:Func)(c:Code)(ts tr:ad):Bool:=
 kV fn.ntmps c && Mj tr fn.results.size && decide (r7 ts <= fn.ntmps) && !(fn.name == "runtime.NumGoroutine") && decide (fn.ntmps <= eo)
def zK:z9'->List aC->Option (List aC)
 | [],[]=>some []
 | none::g,v::aA=>match zK g aA with
  | some l=>some (v::l)
  | none=>none
 | some n::g,v::aA=>match v,zK g aA with
  | .agg m f,some l=>if m=n then some ((List.range n).map f++l) else none
  | _,_=>none
 | _,_=>none
def GG(T:Nat->ad)(ke:List ResultVar)(kg:z9')(bB:dh)(e:cO)(s:ay):M bB.ag:=
 match e with
 | .exit _=>M.fail
 | _=>match C2 T s ke with
  | some avs=>match zK kg avs with
   | some l=>match decide (l.length<=eo) with
    | true=>bB.mC (rQ s l) λτ=>M.pure τ
    | false=>M.fail
   | none=>M.fail
  | none=>M.fail
def Mk(U:dd)(T:Nat->ad)(aY:Nat->Option aJ)(Ψ:Nat->Option eH)(fn:Func)(c:Code)(ann:cd)(b3 bB:dh)(kg:z9')(A:b3.ag):M bB.ag:=
 ed U T aY Ψ ann c (b3.st A) (GG T fn.results.toList kg bB)
def C7(fn:Func)(c:Code)(jZ:Nat)(kg:z9'):Bool:=
 kV fn.ntmps c && decide (fn.results.size = kg.length) && decide (jZ <= fn.ntmps) && !(fn.name == "runtime.NumGoroutine") && decide (fn.ntmps <= eo)
section
variable {C:bP} {T:Nat->ad} {aY:Nat->Option aJ} {Ψ:Nat->Option eH}
def zL(tmps:Array Value)(r:ResultVar):Sem Value:=
 match r with
 | .tmp t=>pure (tmps.getD t undef)
 | .cell b t=>do loadVar t (<-asAddr (tmps.getD b undef))
theorem TW(fn:Func)(tmps:Array Value):results fn tmps=(fn.results.mapM (zL tmps) >>= λaA=>pure (if h:aA.size=1 then aA[0] else .tuple aA)):=by
 rfl
theorem TX(hT:dv C.P T){s:ay}{a:Act}{w:World}{κ:Nat->bk}{F:Nat->Prop}(G:a_ C s a w κ F):∀ (ke:List ResultVar) {avs:List aC},C2 T s ke=some avs->
  ∃ aA:List Value,(ke.mapM (zL a.tmps)).run C.P w=.ok aA w/\aA.length=ke.length/\avs.length=ke.length/\
   ∀ i (h:i<avs.length) (cX:i<aA.length),bh C.P s.ab κ F w avs[i] aA[i]:=by
 intro ke;induction ke with
 | nil=>intro avs h;cases h;simp
 | cons r ke aG=>
  intro avs h;simp only[C2]at h;split at h
  ·cases h
  ·rename_i l ah;obtain⟨aA,h1,h2,h3,aQ⟩:=aG ah;have one:∃ av v,avs=av::l/\(zL a.tmps r).run C.P w=.ok v w/\bh C.P s.ab κ F w av v:=by
    split at h
    ·rename_i t;cases h;exact⟨_,_,rfl,rfl,G.bD t⟩
    ·rename_i b ty;split at h
     ·rename_i v hv;cases h;obtain⟨u,aM,aO⟩:=Q4 hT G hv (G.bD b);refine⟨v,u,rfl,?_,aO⟩;unfold Instr.loadAt at aM;unfold zL;simp only;generalize a.tmps.getD b Go.undef=z at aM ⊢;cases z with
      | pointer p=>
       cases p with
       | none=>simp[Instr.sureAddr]at aM
       | some p=>simpa [Instr.sureAddr,asAddr]using aM
      | _=>simp[Instr.sureAddr]at aM
     grind
   obtain⟨av,v,rfl,aM,aO⟩:=one;refine⟨v::aA,?_,by grind,by grind,λi E dn=>?_⟩
   ·simp_all
   grind
theorem ahf(hT:dv C.P T){fn:Func}{tr:ad}(qZ:Mj tr fn.results.size=true){e:cO}{s:ay}{a:Act}{w:World}{O:tr.ag->Prop}(G:b7 C s a w)(aj:M.b9 (u4 T fn.results.toList tr e s) O) :
  (∀ id,e≠.exit id)/\∃ κ F v y,a_ C s a w κ F/\(results fn a.tmps).run C.P w=.ok v w/\O y/\∃ F',(∀ r,F' r->C.F0 r\/¬C.K0 r)/\(∀ r,F' r->r<w.heap.size)/\sR C.P tr F' w v y:=by
 obtain⟨κ,F,G⟩:=G;unfold u4 at aj;split at aj
 ·exact (gb aj).elim
 ·rename_i dX;refine⟨λid he=>dX id he,?_⟩;split at aj
  ·rename_i avs Ml;split at aj
   ·rename_i y l aK;obtain⟨aA,h1,h2,h3,aQ⟩:=TX hT G _ Ml;obtain⟨F',f1,aW,f2⟩:=a_.kO (pR _ aK) G;have dz:=uM (F':=F') G.bl f1 tr aK f2 (by omega) aQ;have cE:(results fn a.tmps).run C.P w=.ok (if h:aA.toArray.size=1 then aA.toArray[0] else .tuple aA.toArray) w:=by
     rw[TW,Sem.run_bind];have:(fn.results.mapM (zL a.tmps)).run C.P w=.ok aA.toArray w:=by
      rw[Array.mapM_eq_mapM_toList,map_eq_pure_bind,Sem.run_bind,h1];rfl
     simp_all
    refine⟨κ,F,_,y,G,cE,M.dC.1 aj,F',aW.gK,aW.cK,aA,?_,dz⟩;have bU:aA.length=fn.results.size:=by omega
    rw[<-bU]at qZ;clear cE dz h1 aQ h2 bU aK;have one:aA.length=1->aA=[if h:aA.toArray.size=1 then aA.toArray[0] else .tuple aA.toArray]:=by
     intro h;match aA,h with
     | [v],_=>rfl
    cases tr<;>simp only[Mj,beq_iff_eq,bne_iff_ne,ne_eq]at qZ<;>simp only[yA];case aw=>rw[dif_neg (by simpa using qZ)]
    case cx=>
     have:aA=[]:=List.length_eq_zero_iff.1 qZ;subst this;exact⟨rfl,rfl⟩
    all_goals exact one qZ
   ·exact (gb aj).elim
  ·exact (gb aj).elim
theorem TY{l:List (Nat×aC)}{i:Nat}:e5 l i=.undef\/(i,e5 l i)∈l:=by
 induction l with
 | nil=>exact .inl rfl
 | cons p l aG=>
  simp only[e5];grind
theorem tF{P : Program}{k : FuncId}{fn : Func}{c : Code}(aq : P.funcs[k]? = some fn)(aa : fn.body = some c)(ax : (fn.name == "runtime.NumGoroutine") = false)(args : Array Value)(w : World) :
  (callFunc k args).run P w=.ok (.enter k args) w:=by
 have ax : ¬ fn.name = "runtime.NumGoroutine" := by grind
 simp[callFunc,aq,aa,ax]
def o8(w:World):List Nat->World
 | []=>w
 | B::ms=>o8 (w.putObj B (.deferred none)) ms
theorem TZ:∀ (ms:List Nat) (w:World),(o8 w ms).heap.size=w.heap.size
 | [],_=>rfl
 | _::ms,_=>(TZ ms _).trans World.putObj_size
theorem Mm:∀ (ms:List Nat) (w:World) {r:Nat},r ∉ ms->(o8 w ms).heap[r]?=w.heap[r]?
 | [],_,_,_=>rfl
 | B::ms,w,r,h=>by
  simp only[List.mem_cons,not_or]at h;exact (Mm ms _ h.2).trans (World.putObj_heap_other h.1)
theorem T0:∀ (ms:List Nat) (w:World),cL w (o8 w ms)
 | [],w=>cL.refl w
 | B::ms,w=>by
  have h:cL w (w.putObj B (.deferred none)):=⟨rfl,rfl,rfl⟩
  exact h.trans (T0 ms _)
theorem Mn{P:Program}{fn:Func}{tmps:Array Value}{R:Ending->World->Prop}:∀ (ms:List Nat) (w:World),ms.Nodup->(∀ B∈ms,w.heap[B]?=some (.deferred (some [])))->
  (∃ v,(results fn tmps).run P (o8 w ms)=.ok v (o8 w ms)/\R (.returned v) (o8 w ms))->LeavesInM Fence.wide 0 P fn tmps R (ms.map od) .returning w
 | [],w,_,_,h=>h
 | B::ms,w,ax,aL,h=>by
  simp only[List.nodup_cons]at ax;refine⟨by simp,.inl ⟨B,_,rfl,run_takeDeferred (aL B (by simp)),?_⟩⟩;exact Mn ms _ ax.2 (λahg cX=>(World.putObj_heap_other λe=>ax.1 (by grind)).trans (aL ahg (List.mem_cons_of_mem _ cX))) h
theorem b7.T1{u:nD}{s:ay}{a:Act}{w:World}(hu:C.jz u)(ahh:∀ r,C.F0 r->r<C.w0.heap.size)(uW:∀ r,C.K0 r->r<C.w0.heap.size)(h:b7 (C.gO u) s a w) :
  b7 { C with dfr:=u.ms.map od++C.dfr } s a (o8 w u.ms)/\a.defers=u.ms.map od++C.dfr/\∀ B∈u.ms,w.heap[B]?=some (.deferred (some [])):=by
 obtain⟨κ,F,h⟩:=h;have awW:∀ B∈u.ms,¬F B:=λB aL aq=>by
  obtain⟨h1,_⟩:=hu.r4 B aL;rcases h.gK B aq with h2 | h2
  ·have:=ahh B h2;have:=(hu.dU B aL).2;omega
  ·exact h2 h1
 have bU:=TZ u.ms w;have hc:=T0 u.ms w;refine⟨⟨κ,F,h.Gq (w0:=C.w0) (w':=o8 w u.ms) (K0:=C.K0) (r:=C.r) (λr G=>hu.gP r G) (λr G=>Mm _ _ λaj=>?_) (Nat.le_of_eq bU.symm) hc uW (λr G=>?_) ?_ ?_⟩,h.dfr,λB aL=>?_⟩
 ·rcases G with G | G
  ·grind
  ·exact G (hu.r4 r aj).1
 ·exact (Mm _ _ λaj=>(hu.dU r aj).1 G).trans ((h.d' r (hu.gP r G)).trans (hu.d' r G))
 ·rw[bU];exact Nat.le_trans hu.size h.size
 ·exact (hu.dO.trans h.dO).trans hc
 ·exact (h.d' B (hu.r4 B aL).1).trans (hu.r4 B aL).2
theorem T2{P:Program}{U:dd}(dK:P.follows .mixedOrders=true){k:FuncId}{fn:Func}{c:Code}{ann:cd}{ts tr:ad}{sh:ts.ag->M tr.ag}(hT:dv P T)(hS:qt P U)(cb:iX P aY)(cB:lz P U Ψ)(aq:P.funcs[k]?=some fn)(aa:fn.body=some c)
    (cn:C6 fn c ts tr=true) {s0:ts.ag->ay} {pre:ts.ag->Prop} (mF:∀ x C a w,b7 C (o7 ts x) a w->pre x->b7 C (s0 x) a w)
    (nh:∀ x,M.le (M.ae (pre x) (ed U T aY Ψ ann c (s0 x) (u4 T fn.results.toList tr))) (sh x)):hK P k ts tr sh:=by
  simp only[C6,Bool.and_eq_true,Bool.not_eq_true',decide_eq_true_eq]at cn;obtain⟨⟨⟨⟨C8,qZ⟩,ahi⟩,Mo⟩,tx⟩:=cn;refine⟨tF aq aa Mo,λF w args x ba fQ dz qG=>?_⟩;obtain⟨⟨gj,h1⟩,h2⟩:=nh x qG;have hlen:args.length=r7 ts/\∀ i,i<r7 ts->∀ (H:Nat->bt) (κ:Nat->bk),bh P H κ F w (j' ts x i) (args.getD i Go.undef):=by
    unfold r7;split
    · rename_i e
      subst e
      have:args=[]:=dz.1
      grind
    · rename_i e
      exact⟨(s_ (H:=λ_=>⟨0,.fb⟩) (κ:=λ_=>⟨0,0,0,false⟩) ts dz e).1,λi E H κ=>(s_ ts dz e).2 i E⟩
  let C:bP:={ P:=P,w0:=w,F0:=F,K0:=λr=>r<w.heap.size,nt:=fn.ntmps,r:=none,dfr:=[],hX:=λ_=>none,pr:=⟨0,.cx,λ_=>False,λ_ _ _ _ _=>False⟩,aI:=U }
  let a0:Act:={ tmps:=args.toArray++Array.replicate (fn.ntmps - args.toArray.size) undef,defers:=[] }
  let ahj:Nat->bk:=λ_=>⟨0,0,0,false⟩
  have pZ:∀ i,(o7 ts x).au i=.undef\/(i<r7 ts/\(o7 ts x).au i=j' ts x i):=λi=>by
    rcases TY (l:=zJ ts x (r7 ts)) (i:=i) with e | e
    · exact .inl e
    · refine .inr ?_
      generalize a8:e5 (zJ ts x (r7 ts)) i=z at e
      simp only[zJ,List.mem_map,List.mem_range,Prod.mk.injEq]at e
      obtain⟨j,aB,rfl,rfl⟩:=e
      exact⟨aB,a8⟩
  have G:b7 C (o7 ts x) a0 w:=by
    refine⟨ahj, F, { df := ?_, dfr := rfl, bD := λi => ?_, bl := λb => trivial, own := λb aa => (by cases aa), inj := λb aZ aa _ _ => (by cases aa), cK := ba, gK := λr G => .inl G, hy := λr G => G, gV := λr G => G, d' := λr _ => rfl, size := Nat.le_refl _, dO := cL.refl w,fO:=tx,j6:=λb r h=>(by cases h),jm:=λb r h=>(by cases h),jN:=λb k h=>(by cases h),j7:=λb k h=>(by cases h),pro:=λl aH L n st e=>?_,jn:=hS,ie:=fQ }⟩
    · grind
    · rcases pZ i with e | ⟨E,e⟩
      · rw[e];simp only[bh]
      · rw[e]
        have:a0.tmps.getD i Go.undef=args.getD i Go.undef:=by
          have dn:i<args.length:=by omega
          simp[a0,Array.getD_eq_getD_getElem?,List.getD_eq_getElem?_getD,Array.getElem?_append,dn]
        grind
    · rcases pZ TRS with h | ⟨h,_⟩
      · grind
      · unfold TRS eo at *;omega
  refine callsIn_wide.1 (callsIn_of_wp_marks (F:=Fence.wide) (n:=0) aq aa trivial ?_);have hw:=TV ann C dK hT cb cB (.inl rfl) (k:=u4 T fn.results.toList tr) (O:=(ed U T aY Ψ ann c (s0 x) (u4 T fn.results.toList tr)).bB) (Q:=bodyPostM Fence.wide 0 P fn λe w'=>∃ v y,e=.returned v/\(sh x).bB y/\sR P tr (uv F w w') w' v y/\Below w.heap.size w w') c (s0 x) a0 w C8 (mF x C a0 w G gj) ⟨h1,λ_ h=>h⟩;refine hw λu hu e s' a' w' aW aj=>?_;obtain⟨cp,ar,aL⟩:=b7.T1 hu ba (λ_ h=>h) aW;obtain⟨dX,κ,zz,v,y,ez,cE,aK,F',f1,f2,fR⟩:=ahf (C:={ C with dfr:=u.ms.map od++C.dfr }) hT qZ cp aj;have tn:LeavesInM Fence.wide 0 P fn a'.tmps (λe w'=>∃ v y,e=.returned v/\(sh x).bB y/\sR P tr (uv F w w') w' v y/\Below w.heap.size w w') a'.defers .returning w':=by
    rw[ar];simp only[C,List.append_nil];refine Mn u.ms w' hu.l3 aL ⟨v,cE,v,y,rfl,h2 y aK,?_,ez.dO.os,ez.dO.tape,ez.dO.output,ez.size,ez.d'⟩;obtain⟨aA,aM,aO,bz⟩:=fR;refine⟨aA,aM,aO,eP tr (λr G=>?_) (cD.refl _ _) bz⟩;rcases f1 r G with h | h
    · exact .inl h
    · exact .inr ⟨Nat.le_of_not_lt h,f2 r G⟩
  cases e with
  | normal=>exact tn
  | exit id=>grind
  | ret=>exact tn
theorem ahk{P:Program}{U:dd}(dK:P.follows .mixedOrders=true){k:FuncId}{fn:Func}{c:Code}{ann:cd}{ts tr:ad}{sh:ts.ag->M tr.ag}(hT:dv P T)(hS:qt P U)(cb:iX P aY)(cB:lz P U Ψ)(aq:P.funcs[k]?=some fn)(aa:fn.body=some c)
  (cn:C6 fn c ts tr=true) (nh:∀ x,M.le (C3 U T aY Ψ fn c ann ts tr x) (sh x)):hK P k ts tr sh:=
 T2 dK hT hS cb cB aq aa cn (ann:=ann) (s0:=o7 ts) (pre:=λ_=>True) (λ_ _ _ _ h _=>h) λx hs=>⟨⟨trivial,(nh x hs).1⟩,(nh x hs).2⟩
theorem ahl{C:bP}{s:ay}{a:Act}{w:World}{n:Nat}(h:b7 C s a w)(hc:C5 n s):b7 C (GF n s) a w:=by
 obtain⟨κ,F,G⟩:=h;refine⟨κ,F,{ G with bD:=λi=>?_,df:=G.df,dfr:=G.dfr,bl:=G.bl,pro:=λl aH L m st e=>?_ }⟩
 ·show bh C.P s.ab κ F w (if i<n\/eo<i then s.au i else GD (s.au i)) _;split
  ·exact G.bD i
  ·rename_i E;have hv:=G.bD i;have hp:=hc i E;unfold GD;unfold C4 at hp;split
   ·rename_i e p he;rw[he]at hv hp;have hp:p.isSome=true:=hp;obtain⟨_,hv⟩:=(dw rfl).1 hv;simp only[br]at hv;rcases hv with⟨_,rfl⟩ | ⟨q,y,a7,bd,rfl,aM,aO⟩
    ·cases hp
    ·exact⟨q,a7,(List.cons.inj bd).1,aM,aO⟩
   omega
 ·have e:(if TRS<n\/eo<TRS then s.au TRS else GD (s.au TRS))=.tr l aH L m st:=e;rw[if_pos (.inr (by decide))]at e;exact G.pro l aH L m st e
theorem ahm{P:Program}{U:dd}(dK:P.follows .mixedOrders=true){k:FuncId}{fn:Func}{c:Code}{ann:cd}{n:Nat}{ts tr:ad}{sh:ts.ag->M tr.ag}(hT:dv P T)(hS:qt P U)(cb:iX P aY)(cB:lz P U Ψ)(aq:P.funcs[k]?=some fn)(aa:fn.body=some c)
  (cn:C6 fn c ts tr=true) (nh:∀ x,M.le (ahe U T aY Ψ fn c ann n ts tr x) (sh x)):hK P k ts tr sh:=
 T2 dK hT hS cb cB aq aa cn (ann:=ann) (s0:=λx=>GF n (o7 ts x)) (pre:=λx=>C5 n (o7 ts x)) (λ_ _ _ _ h hp=>ahl h hp) nh
theorem Mp{H:Nat->bt}{κ:Nat->bk}{F:Nat->Prop}{w:World}{P:Program}:∀ (g:z9') {avs l:List aC} {us:List Value},zK g avs=some l->avs.length=us.length->(∀ i (h:i<avs.length) (cX:i<us.length),bh P H κ F w avs[i] us[i])->
  ∃ aA:List Value,Cq g us aA/\l.length=aA.length/\∀ i,i<aA.length->bh P H κ F w (l.getD i .undef) (aA.getD i undef)
 | [],[],l,us,h,ah,_=>by
  cases h;have:us=[]:=List.eq_nil_of_length_eq_zero ah.symm;subst this;exact⟨[],rfl,rfl,λi E=>by cases E⟩
 | [],_::_,_,_,h,_,_=>by cases h
 | none::_,[],_,_,h,_,_=>by cases h
 | some _::_,[],_,_,h,_,_=>by cases h
 | none::g,av::avs,l,[],_,ah,_=>by cases ah
 | some n::g,av::avs,l,[],_,ah,_=>by cases ah
 | none::g,av::avs,l,u::us,h,ah,hv=>by
  simp only[zK]at h;split at h
  ·rename_i l' Gx;cases h;obtain⟨aA,h1,h2,h3⟩:=Mp g Gx (by grind) λi h cX=>hv (i+1) (Nat.succ_lt_succ h) (Nat.succ_lt_succ cX);refine⟨u::aA,⟨aA,rfl,h1⟩,by grind,λi E=>?_⟩;cases i with
   | zero=>exact hv 0 (Nat.zero_lt_succ _) (Nat.zero_lt_succ _)
   | succ i=>grind
  grind
 | some n::g,av::avs,l,u::us,h,ah,hv=>by
  simp only[zK]at h;split at h
  ·rename_i m f l' Gx;split at h
   ·rename_i RH;cases h;subst RH;obtain⟨aA,h1,h2,h3⟩:=Mp g Gx (by grind) λi h cX=>hv (i+1) (Nat.succ_lt_succ h) (Nat.succ_lt_succ cX);obtain⟨cs,aM,aO,bz⟩:bh P H κ F w (.agg m f) u:=hv 0 (Nat.zero_lt_succ _) (Nat.zero_lt_succ _);refine⟨cs++aA,⟨cs.toArray,aA,aM,by omega,λc hc=>?_,by simp,h1⟩,by grind,λi E=>?_⟩
    ·obtain⟨j,aB,rfl⟩:=List.mem_iff_getElem.1 (by omega:c∈cs);grind
    grind
   grind
  grind
def ahn(P:Program)(U:dd)(T:Nat->ad)(fn:Func)(c:Code)(ic:IOC):Prop:=
 ∀ (C:bP) (A:ic.b3.ag) (Q:Exit->Act->World->Prop) (a:Act) (w:World),C.P=P->C.aI=U->C.nt=fn.ntmps->C.r=none->C.dfr=[]->kV C.nt c=true->b7 C (ic.b3.st A) a w->(ic.sh A).b4->
  (∀ u,C.jz u->∀ e s' a' w',b7 (C.gO u) s' a' w'->M.b9 (GG T fn.results.toList ic.kg ic.bB e s') (ic.sh A).bB->Q e.o3 a' w')->c.wpIn (du C.r) 0 C.P Q a w
theorem aho{P:Program}{U:dd}{k:FuncId}{fn:Func}{c:Code}{ic:IOC}(hT:dv P T)(aq:P.funcs[k]?=some fn)(aa:fn.body=some c)
  (cn:C7 fn c ic.jZ ic.kg=true) (ahp:ahn P U T fn c ic):IoSpec P U k ic:=by
 simp only[C7,Bool.and_eq_true,Bool.not_eq_true',decide_eq_true_eq]at cn;obtain⟨⟨⟨⟨C8,qZ⟩,ahi⟩,Mo⟩,tx⟩:=cn;refine⟨tF aq aa Mo,λC a w κ F A i_ zM iw qT rO hS G qG=>?_⟩;subst i_;subst zM;subst hS;have awX:a.tmps.size=ic.jZ:=G.df.trans rO;have ew:∀ i,(a.tmps++Array.replicate (fn.ntmps - a.tmps.size) undef).getD i undef=a.tmps.getD i undef:=λi=>by
  simp only[Array.getD_eq_getD_getElem?,Array.getElem?_append];grind
 have aW:a_ { C with nt:=fn.ntmps,dfr:=[],r:=none } (ic.b3.st A) { tmps:=a.tmps++Array.replicate (fn.ntmps - a.tmps.size) undef,defers:=[] } C.w0 κ F:=
  { G with df:=(by grind),dfr:=rfl,fO:=tx,bD:=λi=>(by rw[ew];exact G.bD i),bl:=G.bl }
 refine callsIn_wide.1 (callsIn_of_wp_marks (F:=Fence.wide) (n:=0) aq aa trivial ?_);refine ahp { C with nt:=fn.ntmps,dfr:=[],r:=none } A _ _ C.w0 rfl rfl rfl rfl rfl C8 ⟨κ,F,aW⟩ qG λu hu e s' a' w' aW aj=>?_;obtain⟨⟨mE,dJ,cp⟩,ar,aL⟩:=b7.T1 hu (λr h=>G.cK r (G.hy r h)) G.gV aW;have key:(∀ id,e≠.exit id)/\LeavesInM Fence.wide 0 C.P fn a'.tmps (λe w'=>∃ v τ aA κ' F',e=.returned v/\(ic.sh A).bB τ/\FV ic.kg v aA/\a_ { C with nt:=aA.length } (ic.bB.st τ) { tmps:=aA.toArray,defers:=[] } w' κ' F') a'.defers .returning w':=by
  unfold GG at aj;split at aj
  ·exact (gb aj).elim
  ·rename_i dX;refine⟨λid he=>dX id he,?_⟩;split at aj
   ·rename_i avs Ml;split at aj
    ·rename_i l ah;split at aj
     ·rename_i b1;have b1:l.length<=eo:=of_decide_eq_true b1;obtain⟨us,aM,aO,bz,f'⟩:=TX (C:={ C with nt:=fn.ntmps,dfr:=u.ms.map od++[],r:=none }) hT cp _ Ml;obtain⟨aA,g1,dP,g3⟩:=Mp ic.kg ah (by omega) f';obtain⟨τ,hτ,bu⟩:=tB aj;have aU:=cp.args (avs:=l) (us:=aA) (by omega) dP g3;obtain⟨Gu,TH,_,l4⟩:=dh.zr hτ aU;rw[ar];simp only[List.append_nil];have cE:(results fn a'.tmps).run C.P (o8 w' u.ms)=.ok (if us.length=1 then us.getD 0 undef else .tuple us.toArray) (o8 w' u.ms):=by
       rw[TW,Sem.run_bind];have:(fn.results.mapM (zL a'.tmps)).run C.P (o8 w' u.ms)=.ok us.toArray (o8 w' u.ms):=by
        rw[Array.mapM_eq_mapM_toList,map_eq_pure_bind,Sem.run_bind,aM];rfl
       rw[this];simp only[Result.andThen_ok,Sem.run_pure,List.size_toArray];grind
      refine Mn u.ms w' hu.l3 aL ⟨_,cE,_,τ,aA,Gu,TH,rfl,M.dC.1 bu,⟨us,?_,rfl,g1⟩,?_⟩
      ·rw[aO];simpa using qZ
      ·have e:({ C with nt:=aA.length }:bP)={ C with nt:=aA.length,dfr:=[],r:=none }:=by
        cases C;simp only at iw qT;subst iw;subst qT;rfl
       rw[e];exact l4
     ·exact (gb aj).elim
    ·exact (gb aj).elim
   ·exact (gb aj).elim
 cases e with
 | normal=>exact key.2
 | exit id=>grind
 | ret=>exact key.2
theorem T3{P:Program}{U:dd}(dK:P.follows .mixedOrders=true){k:FuncId}{fn:Func}{c:Code}{ann:cd}{ic:IOC}(hT:dv P T)(cb:iX P aY)(cB:lz P U Ψ)(aq:P.funcs[k]?=some fn)(aa:fn.body=some c)
  (cn:C7 fn c ic.jZ ic.kg=true) (nh:∀ A,M.le (Mk U T aY Ψ fn c ann ic.b3 ic.bB ic.kg A) (ic.sh A)):IoSpec P U k ic:=
 aho hT aq aa cn λC A Q a w i_ hS _ iw _ C8 G qG an=>by
  subst i_;subst hS;obtain⟨h1,h2⟩:=nh A qG;exact TV ann C dK hT cb cB (.inl iw) c (ic.b3.st A) (GG T fn.results.toList ic.kg ic.bB) (Mk C.aI T aY Ψ fn c ann ic.b3 ic.bB ic.kg A).bB Q a w C8 G ⟨h1,λ_ h=>h⟩ λu hu e s' a' w' aW aj=>an u hu e s' a' w' aW ⟨aj.1,λy aK=>h2 y (aj.2 y aK)⟩
end
def q0:List (Nat×ad)->Nat->ad
 | [],_=>.cx
 | p::l,i=>if i=p.1 then p.2 else q0 l i
def T4(P:Program)(l:List (Nat×ad)):Bool:=l.all λp=>cg P p.2 (.inl p.1)
theorem ahq{P:Program}{l:List (Nat×ad)}(h:T4 P l=true):dv P (q0 l):=by
 intro id;induction l with
 | nil=>exact .inl rfl
 | cons p l aG=>
  simp only[T4,List.all_cons,Bool.and_eq_true]at h;simp only[q0];split
  ·rename_i e;subst e;exact .inr h.1
  ·exact aG h.2
end Go.Fer
namespace Go.Fer
open Go.RowKit
theorem T5{P:Program}{U:dd}{k:FuncId}{c:IOC}(h:IoSpec P U k c)(hS:qt P U){ic:ITC}(mk:ic.ts.ag->Nat->(List ic.aH.ag->Prop)->c.b3.ag)(ax:c.jZ=jP ic.ts+1)(hF:c.jZ<=eo)(tw:ic.ts≠.cx)
    (hsl:∀ x l L i,(c.b3.st (mk x l L)).au i=.undef\/(i<jP ic.ts/\(c.b3.st (mk x l L)).au i=j' ic.ts x i)\/(i=jP ic.ts/\(c.b3.st (mk x l L)).au i=.gJ l)\/(i=TRS/\(c.b3.st (mk x l L)).au i=.tr l ic.aH L [] false))
    (ik:c.b3.bl=[]) (p4:∀ τ,∃ n st l L,(c.bB.st τ).au TRS=.tr l ic.aH L n st)
    (rG:∀ x l,ic.pre x->(c.sh (mk x l (λT=>T=ic.seq x))).b4/\∀ τ,(c.sh (mk x l (λT=>T=ic.seq x))).bB τ->∀ l' L' n,(c.bB.st τ).au TRS=.tr l' ic.aH L' n false->n=ic.seq x):Cy P k ic:=by
  refine⟨h.enter,λl I F Y w args x dz gj cn ba fQ il eb=>?_⟩;obtain⟨ig,Gs⟩:=s_ (H:=λ_=>⟨0,.fb⟩) (κ:=λ_=>⟨0,0,0,false⟩) ic.ts dz tw;have tG:∀ b,(c.b3.st (mk x l (λT=>T=ic.seq x))).ab b=⟨0,.fb⟩:=λb=>by
    show ek (gN cG c.b3.bl (dY cG c.b3.bD (mk x l (λT=>T=ic.seq x))).2) b=_;generalize (dY cG c.b3.bD (mk x l (λT=>T=ic.seq x))).2=z;revert z;rw[ik];intro z;rfl
  have bU:(args++[Value.func (.yield l) #[] #[]]).length=c.jZ:=by grind
  have G:a_ { P:=P,w0:=w,F0:=F,K0:=λr=>r<w.heap.size/\¬Y r,nt:=c.jZ,r:=none,dfr:=[],hX:=λ_=>none,pr:=⟨l,ic.aH,λT=>T=ic.seq x,I⟩,aI:=U } (c.b3.st (mk x l (λT=>T=ic.seq x)))
      { tmps:=(args++[Value.func (.yield l) #[] #[]]).toArray,defers:=[] } w (λ_=>⟨0,0,0,false⟩) F:=
    { df := by omega
      dfr:=rfl
      bD:=λi=>by
        rcases hsl x l (λT=>T=ic.seq x) i with e | ⟨E,e⟩ | ⟨E,e⟩ | ⟨E,e⟩
        · rw[e];trivial
        · rw[e]
          have:=(s_ (H:=(c.b3.st (mk x l (λT=>T=ic.seq x))).ab) (κ:=λ_=>⟨0,0,0,false⟩) ic.ts dz tw).2 i E
          have e2:(args++[Value.func (.yield l) #[] #[]]).toArray.getD i undef=args.getD i undef:=by
            rw[Array.getD_eq_getD_getElem?,List.getD_eq_getElem?_getD,List.getElem?_toArray,List.getElem?_append_left (by omega)]
          grind
        · rw[e]
          show (args++[Value.func (.yield l) #[] #[]]).toArray.getD i undef=_
          simp_all
        · rw[e];trivial
      bl:=λb=>by unfold cf;rw[tG b];trivial
      own:=λb aa=>by rw[tG b]at aa;cases aa
      inj:=λb aZ aa _ _=>by rw[tG b]at aa;cases aa
      cK:=ba
      gK:=λr G=>.inl G
      hy:=λr G=>G
      gV:=λr G=>G.1
      d':=λ_ _=>rfl
      size:=Nat.le_refl _
      dO:=cL.refl _
      fO:=hF
      j6:=λb r h=>by cases h
      jm:=λb r h=>by cases h
      jN:=λb k h=>by cases h
      j7:=λb k h=>by cases h
      pro:=λl' kf L' n st e=>by
        rcases hsl x l (λT=>T=ic.seq x) TRS with aR | ⟨E,_⟩ | ⟨E,_⟩ | ⟨_,aR⟩
        · grind
        · unfold TRS eo at *;omega
        · grind
        · rw[aR]at e
          cases e
          exact⟨⟨I,rfl⟩,cn,Y,λr G=>⟨(il r G).1,(il r G).2,λk=>k.2 G⟩,λb aa=>(by rw[tG b]at aa;cases aa),lf.yC.2 eb⟩
      jn:=hS,ie:=fQ }
  obtain⟨hs,tn⟩:=rG x l gj;refine (h.iD _ _ w _ F _ rfl rfl rfl rfl rfl rfl G hs).mono λe w' ⟨v,τ,aA,κ',F',he,hτ,_,aW⟩=>?_;obtain⟨n,st,l',L',pZ⟩:=p4 τ;obtain⟨⟨ahr,Mq⟩,_,fY,h3,aQ,Mr⟩:=aW.pro l' ic.aH L' n st pZ;refine⟨v,n,st,F',fY,he,λfB=>?_,lf.yC.1 Mr,aW.hy,λr cp=>?_,aW.cK,λr h1 h2=>aW.d' r ⟨h1,h2⟩,λr cp=>⟨?_,(h3 r cp).1,(h3 r cp).2.1⟩,aW.size,aW.dO⟩
  · grind
  · rcases aW.gK r cp with h | h
    · exact .inl h
    · by_cases aK:Y r
      · exact .inr (.inl aK)
      · exact .inr (.inr (Nat.le_of_not_lt λb1=>h ⟨b1,aK⟩))
  grind
theorem Ms{P:Program}{U:dd}{k:FuncId}{c:IOC}(h:IoSpec P U k c)(hS:qt P U){cs:List ad}{aH:ad}{S:(fM (cs.map .bp)).ag->List aH.ag->Prop}(mk:(fM (cs.map .bp)).ag->Nat->(List aH.ag->Prop)->c.b3.ag)
    (ax:c.jZ=jP (fM (cs.map .bp))+1) (hF:c.jZ<=eo) (tw:fM (cs.map .bp)≠.cx)
    (hsl:∀ x l L i,(∃ T,S x T)->(c.b3.st (mk x l L)).au i=.undef\/(i<jP (fM (cs.map .bp))+1/\0<i/\∃ e y,(c.b3.st (mk x l L)).au i=.dx e y/\j' (fM (cs.map .bp)) x (i - 1)=.val (.bp e) (some y))\/(i=0/\(c.b3.st (mk x l L)).au i=.gJ l)\/(i=TRS/\(c.b3.st (mk x l L)).au i=.tr l aH L [] false))
    (ik:c.b3.bl=[]) (p4:∀ τ,∃ n st l L,(c.bB.st τ).au TRS=.tr l aH L n st)
    (rG:∀ x l,(∃ L,S x L)->(c.sh (mk x l (S x))).b4/\∀ τ,(c.sh (mk x l (S x))).bB τ->∀ l' L' p,(c.bB.st τ).au TRS=.tr l' aH L' p false->S x p):wk P k ⟨cs,aH,S⟩:=by
  refine⟨h.enter,λF w args x ba fQ dz dX l T6 Y il ahs aht=>?_⟩;have cn:=TQ ahs;obtain⟨ig,Gs⟩:=s_ (H:=λ_=>⟨0,.fb⟩) (κ:=λ_=>⟨0,0,0,false⟩) (fM (cs.map .bp)) dz tw;have tG:∀ b,(c.b3.st (mk x l (S x))).ab b=⟨0,.fb⟩:=λb=>by
    show ek (gN cG c.b3.bl (dY cG c.b3.bD (mk x l (S x))).2) b=_;generalize (dY cG c.b3.bD (mk x l (S x))).2=z;revert z;rw[ik];intro z;rfl
  have bU:(Value.func (.yield l) #[] #[]::args).length=c.jZ:=by grind
  have G:a_ { P:=P,w0:=w,F0:=F,K0:=λr=>r<w.heap.size/\¬Y r,nt:=c.jZ,r:=none,dfr:=[],hX:=λ_=>none,pr:=⟨l,aH,S x,T6⟩,aI:=U } (c.b3.st (mk x l (S x)))
      { tmps:=(Value.func (.yield l) #[] #[]::args).toArray,defers:=[] } w (λ_=>⟨0,0,0,false⟩) F:=
    { df := by omega
      dfr:=rfl
      bD:=λi=>by
        rcases hsl x l (S x) i dX with e | ⟨E,n5,te,y,e,ey⟩ | ⟨E,e⟩ | ⟨E,e⟩
        · rw[e];trivial
        · rw[e]
          have:=(s_ (H:=(c.b3.st (mk x l (S x))).ab) (κ:=λ_=>⟨0,0,0,false⟩) (fM (cs.map .bp)) dz tw).2 (i - 1) (by omega)
          have e2:(Value.func (.yield l) #[] #[]::args).toArray.getD i undef=args.getD (i - 1) undef:=by
            obtain⟨j,rfl⟩:∃ j,i=j+1:=⟨i - 1,by omega⟩
            simp
          rw[e2]
          rw[ey]at this
          obtain⟨_,hv⟩:=(dw rfl).1 this
          simp only[br]at hv
          rcases hv with⟨_,ax⟩ | ⟨q,mw,a7,bd,BT,aM,aO⟩
          · cases ax
          · cases BT
            exact⟨q,a7,(List.cons.inj bd).1,aM,aO⟩
        · rw[e]
          subst E
          rfl
        · rw[e];trivial
      bl:=λb=>by unfold cf;rw[tG b];trivial
      own:=λb aa=>by rw[tG b]at aa;cases aa
      inj:=λb aZ aa _ _=>by rw[tG b]at aa;cases aa
      cK:=ba
      gK:=λr G=>.inl G
      hy:=λr G=>G
      gV:=λr G=>G.1
      d':=λ_ _=>rfl
      size:=Nat.le_refl _
      dO:=cL.refl _
      fO:=hF
      j6:=λb r h=>by cases h
      jm:=λb r h=>by cases h
      jN:=λb k h=>by cases h
      j7:=λb k h=>by cases h
      pro:=λl' kf L' n st e=>by
        rcases hsl x l (S x) TRS dX with aR | ⟨E,_⟩ | ⟨E,_⟩ | ⟨_,aR⟩
        · grind
        · grind
        · grind
        · rw[aR]at e
          cases e
          exact⟨⟨T6,rfl⟩,cn,Y,λr G=>⟨(il r G).1,(il r G).2,λk=>k.2 G⟩,λb aa=>(by rw[tG b]at aa;cases aa),lf.yC.2 aht⟩
      jn:=hS,ie:=fQ }
  obtain⟨hs,tn⟩:=rG x l dX;have eL:#[Value.func (.yield l) #[] #[]]++args.toArray=(Value.func (.yield l) #[] #[]::args).toArray:=by simp
  rw[eL];refine (h.iD _ _ w _ F _ rfl rfl rfl rfl rfl rfl G hs).mono λe w' ⟨v,τ,aA,κ',F',he,hτ,_,aW⟩=>?_;obtain⟨n,st,l',L',pZ⟩:=p4 τ;obtain⟨⟨ahr,Mq⟩,_,fY,h3,aQ,Mr⟩:=aW.pro l' aH L' n st pZ;refine⟨v,n,st,F',fY,he,λfB=>?_,lf.yC.1 Mr,aW.hy,λr cp=>?_,aW.cK,λr h1 h2=>aW.d' r ⟨h1,h2⟩,λr cp=>⟨?_,(h3 r cp).1,(h3 r cp).2.1⟩,aW.size,⟨aW.dO.os,aW.dO.tape,aW.dO.output⟩⟩
  · grind
  · rcases aW.gK r cp with h | h
    · exact .inl h
    · by_cases aK:Y r
      · exact .inr (.inl aK)
      · exact .inr (.inr (Nat.le_of_not_lt λb1=>h ⟨b1,aK⟩))
  grind
end Go.Fer
namespace Go.Fer
open Go.RowKit Go.ChangeShapes Go.WideShapes
def ad.hk:ad->Bool
 | .bool | .int _ | .str | .cx=>true
 | .st t=>t.hk
 | .aw a b=>a.hk&&b.hk
 | .slice e=>e.hk
 | _=>false
def ad.Ok:(t:ad)->t.ag->Prop
 | .int k,x=>fw k x
 | .str,x=>x.length<2 ^ 63
 | .st t,x=>t.Ok x
 | .aw a b,x=>a.Ok x.1/\b.Ok x.2
 | .slice e,xs=>xs.length<2 ^ 63/\∀ y∈xs,e.Ok y
 | .array n e,xs=>xs.length=n/\∀ y∈xs,e.Ok y
 | _,_=>True
theorem zN{P:Program}{w:World}{F:Nat->Prop}:∀ (t:ad) {cs:List Value} {x:t.ag},br P t F w cs x->t.Ok x
 | .bool,_,_,_=>trivial
 | .int _,_,_,h=>h.2
 | .str,_,_,h=>h.2
 | .cx,_,_,_=>trivial
 | .st t,_,_,h=>by simp only[br]at h;exact zN t h
 | .aw a b,_,_,h=>by
  simp only[br]at h;obtain⟨c,d,_,h1,h2⟩:=h;exact⟨zN a h1,zN b h2⟩
 | .slice e,_,xs,h=>by
  simp only[br]at h;obtain⟨a,cap,_,h1,h2,h3,aQ⟩:=h;refine⟨by omega,λy aK=>?_⟩;obtain⟨i,E,rfl⟩:=List.mem_iff_getElem.1 aK;cases a with
  | none=>have:=h3 rfl;omega
  | some p=>
   obtain⟨a7,_,k⟩:=(aQ p rfl (by omega)).2.2 i E;exact zN e k
 | .array n e,_,xs,h=>by
  simp only[br]at h;obtain⟨eX,_,h1,h2,h3⟩:=h;refine⟨h2,λy aK=>?_⟩;obtain⟨i,E,rfl⟩:=List.mem_iff_getElem.1 aK;exact zN e (h3 i E (by omega))
 | .bp _,_,_,_=>trivial
 | .map _ _,_,_,_=>trivial
 | .fn _ _,_,_,_=>trivial
 | .b6 _,_,_,_=>trivial
 | .dM,_,_,_=>trivial
section
variable {H:Type} {enc:TypeId×Value->H} {P:Program} {w:World}
theorem bO.cells{t:ad}{id:TypeId}(h:bO P t id):P.cellsOf id=t.size:=by
 obtain⟨i,z,h1,h2,_⟩:=j_ h.j9;simp[Program.cellsOf,h1,h2]
theorem T7{a:Addr}{n:Nat}{a7:List Value}(h:w.cells? 0 a n=some a7)(ax:0<n):a.spot=none/\a.block<w.heap.size/\a7.length=n/\∀ j (aB:j<a7.length),w.cell? ⟨a.block,a.off+j,none⟩=some a7[j]:=by
 have aa:=World.cells?_block h ax;have nG:a.spot=none:=by
  unfold World.cells? at h;split at h
  ·obtain⟨m,rfl⟩:∃ m,n=m+1:=⟨n - 1,by omega⟩
   rw[List.range_succ_eq_map]at h;simp only[List.mapM_cons,Option.bind_eq_bind,Option.bind_eq_some_iff]at h;obtain⟨v,hv,_⟩:=h;cases hs:a.spot with
   | none=>rfl
   | some x=>simp[World.cell?,Addr.add,hs]at hv;split at hv<;>cases hv
  ·cases h
 unfold World.cells? at h;split at h
 ·have hlen:a7.length=n:=by
   have:∀ (l:List Nat) (r:List Value),l.mapM (λi=>w.cell? (a.add i))=some r->r.length=l.length:=by
    intro l;induction l with
    | nil=>intro r G;simp at G;subst G;rfl
    | cons x l aG=>
     intro r G;simp only[List.mapM_cons,Option.bind_eq_bind,Option.bind_eq_some_iff,Option.pure_def,Option.some.injEq]at G;obtain⟨v,_,pG,aW,rfl⟩:=G;simp[aG pG aW]
   simpa using this _ _ h
  refine⟨nG,aa,hlen,λj aB=>?_⟩;have:∀ (l:List Nat) (r:List Value),l.mapM (λi=>w.cell? (a.add i))=some r->∀ j (h1:j<l.length) (h2:j<r.length),w.cell? (a.add l[j])=some r[j]:=by
   intro l;induction l with
   | nil=>intro r _ j h1;simp at h1
   | cons x l aG=>
    intro r G j h1 h2;simp only[List.mapM_cons,Option.bind_eq_bind,Option.bind_eq_some_iff,Option.pure_def,Option.some.injEq]at G;obtain⟨v,hv,pG,aW,rfl⟩:=G;cases j with
    | zero=>exact hv
    | succ j=>exact aG pG aW j (by simpa using h1) (by simpa using h2)
  have h1:=this _ _ h j (by simp;omega) aB;rw[<-h1];have yP:a.add ((List.range n)[j]'(by simp;omega))=⟨a.block,a.off+j,none⟩:=by
   cases a;simp only at nG;subst nG;simp[Addr.add]
  rw[yP]
 ·cases h
def p6(w:World):Nat->Prop:=λr=>r<w.heap.size
def ad.oh(n:Nat):(t:ad)->t.ag->Prop
 | .st t,x=>t.oh n x
 | .aw a b,x=>a.oh n x.1/\b.oh n x.2
 | .slice e,xs=>xs.length<=n/\∀ y∈xs,e.oh n y
 | _,_=>True
structure Bc(b:DataW H->Nat):Prop where
 len:∀ e s,e.length<=b (.slice e s)
 Bd:∀ e s d,d∈e->b d<=b (.slice e s)
 Qw:∀ l d,d∈l->b d<=b (.agg l)
variable {b:DataW H->Nat} {N:Nat}
theorem ahu(aa:Bc b)(t:ad):(t.hk=true->∀ {id:TypeId} {bW:Nat} {cs:List Value} {x:DataW H×List MemPlace},bO P t id->DataW.trod enc P w 0 (λ_=>true) true bW id cs=some x->b x.1<=N->∃ y,br P t (p6 w) w cs y/\t.oh N y)/\
  (t.hk=true->∀ {l:List Field} {off n:Nat} {cs:List Value},cg P t (.inr (l,off))=true->(∀ f∈l,∃ x,DataW.trod enc P w 0 (λ_=>true) true n f.type ((cs.drop f.offset).take (P.cellsOf f.type))=some x/\b x.1<=N)->∃ y,br P t (p6 w) w ((cs.drop off).take t.size) y/\t.oh N y):=by
 induction t with
 | bool=>
  refine⟨λ_ {id bW cs x} aF h _=>?_,λ_ {l off n cs} h=>by simp[cg]at h⟩;have hu:P.underlying id=some .bool:=by
   unfold bO at aF;simp only[cg,Bool.and_eq_true]at aF;obtain⟨_,aF⟩:=aF;split at aF
   ·assumption
   ·cases aF
  obtain⟨b,rfl,_⟩:=DataW.trod_bool hu h;exact⟨_,rfl,trivial⟩
 | int k=>
  refine⟨λ_ {id bW cs x} aF h _=>?_,λ_ {l off n cs} h=>by simp[cg]at h⟩;obtain⟨n,rfl,_,hw⟩:=DataW.trod_int aF.int h;simp only[Lit.wf,Bool.and_eq_true,decide_eq_true_eq]at hw;exact⟨n,⟨rfl,hw⟩,trivial⟩
 | str=>
  refine⟨λ_ {id bW cs x} aF h _=>?_,λ_ {l off n cs} h=>by simp[cg]at h⟩;obtain⟨s,rfl,_,hw⟩:=DataW.trod_string aF.str h;refine⟨s.data.toList,⟨by simp,?_⟩,trivial⟩;have:s.data.toList.length=s.size:=by rw[Array.length_toList];rfl
  rw[this];have:maxLen<2 ^ 63:=by decide
  omega
 | cx=>exact⟨λ_ {id bW cs x} aF h _=>by simp[bO,cg]at aF,λ_ {l off n cs} h=>by simp[cg]at h⟩
 | st t aG=>
  refine⟨λah {id bW cs x} aF h mG=>?_,λ_ {l off n cs} h=>by simp[cg]at h⟩;have ah:t.hk=true:=ah;have GH:P.cellsOf id=t.size:=aF.cells;obtain⟨ev,hu⟩:=aF.st;obtain⟨xs,n,_,rfl,hlen,RP,aq⟩:=DataW.trod_struct hu h;unfold bO at aF;simp only[cg,Bool.and_eq_true]at aF;obtain⟨_,aF⟩:=aF;rw[hu]at aF;have iV:∀ f∈ev.toList,∃ x,DataW.trod enc P w 0 (λ_=>true) true n f.type ((cs.drop f.offset).take (P.cellsOf f.type))=some x/\b x.1<=N:=by
   intro f ahv;obtain⟨i,E,rfl⟩:=List.mem_iff_getElem.1 ahv;have dn:i<ev.size:=by simpa using E
   refine⟨xs[i]'(by omega),?_,Nat.le_trans (aa.Qw _ _ (List.mem_map_of_mem (List.getElem_mem _))) mG⟩;rw[aq i _ (by simp[dn])];exact List.getElem?_eq_getElem _
  simp only at aF;split at aF
  ·have aF:=of_decide_eq_true aF;subst aF;have:cs=[]:=by
    have:=hlen.trans GH;simpa [ad.size]using this
   subst this;exact⟨(),rfl,trivial⟩
  ·rename_i f fz;simp only[Bool.and_eq_true,beq_iff_eq,bne_iff_ne]at aF;obtain⟨⟨⟨h0,h1⟩,_⟩,_⟩:=aF;obtain⟨x,hx,ahw⟩:=iV f (by rw[fz];simp);have hc:P.cellsOf f.type=t.size:=bO.cells h1;rw[h0,hc,List.drop_zero,List.take_of_length_le (by omega)]at hx;exact aG.1 ah h1 hx ahw
  ·obtain⟨y,aK⟩:=aG.2 ah aF iV;rw[List.drop_zero,List.take_of_length_le (by omega)]at aK;exact⟨y,aK⟩
 | aw a b fa eg=>
  refine⟨λ_ {id bW cs x} aF h _=>by simp[bO,cg]at aF,λah {l off n cs} aF h=>?_⟩;simp only[ad.hk,Bool.and_eq_true]at ah;have join:∀ {y:a.ag} {z:b.ag},br P a (p6 w) w ((cs.drop off).take a.size) y/\a.oh N y->br P b (p6 w) w ((cs.drop (off+a.size)).take b.size) z/\b.oh N z->∃ y,br P (.aw a b) (p6 w) w ((cs.drop off).take (ad.aw a b).size) y/\(ad.aw a b).oh N y:=by
   intro y z aK a8;refine⟨(y,z),⟨_,_,?_,aK.1,a8.1⟩,aK.2,a8.2⟩;simp only[ad.size];rw[List.take_add,List.drop_drop]
  match l,aF with
  | f::g::[],aF=>
   simp only[cg,Bool.and_eq_true,beq_iff_eq,bne_iff_ne]at aF;obtain⟨⟨⟨⟨h0,h1⟩,_⟩,_⟩,⟨⟨⟨gP,aM⟩,_⟩,_⟩⟩:=aF;obtain⟨x,hx,ax⟩:=h f (by simp);obtain⟨dk,np,B4⟩:=h g (by simp);rw[h0,bO.cells h1]at hx;rw[gP,bO.cells aM]at np;obtain⟨y,aK⟩:=fa.1 ah.1 h1 hx ax;obtain⟨z,a8⟩:=eg.1 ah.2 aM np B4;exact join aK a8
  | f::g::e::ev,aF=>
   simp only[cg,Bool.and_eq_true,beq_iff_eq,bne_iff_ne]at aF;obtain⟨⟨⟨⟨h0,h1⟩,_⟩,_⟩,aM⟩:=aF;obtain⟨x,hx,ax⟩:=h f (by simp);rw[h0,bO.cells h1]at hx;obtain⟨y,aK⟩:=fa.1 ah.1 h1 hx ax;obtain⟨z,a8⟩:=eg.2 ah.2 aM λij qV=>h ij (List.mem_cons_of_mem _ qV);exact join aK a8
 | slice e aG=>
  refine⟨λah {id bW cs x} aF h mG=>?_,λ_ {l off n cs} h=>by simp[cg]at h⟩;have ah:e.hk=true:=ah;obtain⟨i,hu,he,bU⟩:=aF.sl;have GH:=he.cells;rcases DataW.trod_slice hu h with⟨rfl,_⟩ | ⟨a,len,cap,elems,bZ,n,rfl,rfl,hx,_,T8,wJ,jX,ew,T9,_⟩
  ·exact⟨[],⟨none,0,rfl,Nat.le_refl _,by decide,λ_=>rfl,λp hp=>by cases hp⟩,Nat.zero_le _,λy aK=>by cases aK⟩
  ·rw[hx]at mG;have kP:0<P.cellsOf i:=by rw[GH];omega
   have key:∀ j,j<len->∃ a7 y,w.cells? 0 (a.add (j*P.cellsOf i)) (P.cellsOf i)=some a7/\br P e (p6 w) w a7 y/\e.oh N y:=by
    intro j aB;have:=ew j aB;rw[List.getElem?_eq_getElem (by omega)]at this;obtain⟨a7,h1,h2⟩:=Option.bind_eq_some_iff.1 this;obtain⟨y,aK⟩:=aG.1 ah he h2 (Nat.le_trans (aa.Bd _ _ _ (List.mem_map_of_mem (List.getElem_mem _))) mG);exact⟨a7,y,h1,aK⟩
   have ahx:0<cap->a.spot=none/\a.block<w.heap.size:=by
    intro hc;have:∃ a7,w.cells? 0 (a.add (0*P.cellsOf i)) (P.cellsOf i)=some a7:=by
     by_cases JS:0<len
     ·obtain⟨a7,_,h1,_⟩:=key 0 JS;exact⟨a7,h1⟩
     ·obtain⟨m1,m2⟩:=T9 rfl;have a8:len=0:=by omega
      subst a8;have:=m2 0 (by omega);rw[List.getElem?_eq_getElem (by omega)]at this;obtain⟨a7,h1,_⟩:=Option.bind_eq_some_iff.1 this;exact⟨a7,h1⟩
    obtain⟨a7,h1⟩:=this;have e1:a.add (0*P.cellsOf i)=a:=by unfold Addr.add;simp
    rw[e1]at h1;obtain⟨aM,aO,_⟩:=T7 h1 kP;exact⟨aM,aO⟩
   have:∃ ys:List e.ag,ys.length=len/\∀ j (aB:j<ys.length),∃ a7,w.cells? 0 (a.add (j*P.cellsOf i)) (P.cellsOf i)=some a7/\br P e (p6 w) w a7 ys[j]/\e.oh N ys[j]:=by
    clear ew jX h T8 T9 mG;induction len with
    | zero=>exact⟨[],rfl,λj aB=>by simp at aB⟩
    | succ m ahy=>
     obtain⟨ys,jS,cy⟩:=ahy λj aB=>key j (by omega);obtain⟨a7,y,h1,h2⟩:=key m (by omega);refine⟨ys++[y],by simp[jS],λj aB=>?_⟩;by_cases wM:j<ys.length
     ·rw[List.getElem_append_left wM];exact cy j wM
     ·have:j=m:=by simp at aB;omega
      subst this;refine⟨a7,h1,?_⟩;rw[List.getElem_append_right (by omega)];simpa [jS]using h2
   have ahz:len<=N:=by have:=aa.len (elems.map (·.1)) (bZ.map (·.1));rw[List.length_map,jX]at this;exact Nat.le_trans this mG
   obtain⟨ys,rfl,jS⟩:=this;have y2:maxLen<2 ^ 63:=by decide
   refine⟨ys,⟨some a,cap,rfl,T8,by omega,(by simp),λp hp uy=>?_⟩,ahz,λy aK=>by
    obtain⟨j,aB,rfl⟩:=List.mem_iff_getElem.1 aK;obtain⟨a7,_,h1,h2⟩:=jS j aB;exact h2⟩
   cases hp;obtain⟨aM,aO⟩:=ahx uy;refine⟨aO,aM,λj aB=>?_⟩;obtain⟨a7,d1,d2,_⟩:=jS j aB;obtain⟨m1,m2,m3,m4⟩:=T7 d1 kP;refine⟨a7,⟨aO,rfl,λq bd=>?_⟩,d2⟩;have:=m4 q bd;have e1:a.add (j*P.cellsOf i)=⟨a.block,a.off+j*e.size,none⟩:=by
    rw[GH];cases a;simp only at aM;subst aM;unfold Addr.add;split
    ·rename_i h0;simp[h0]
    ·rfl
   rw[e1]at this;exact this
 | array n e aG=>exact⟨λh=>by simp[ad.hk]at h,λh=>by simp[ad.hk]at h⟩
 | bp e aG=>exact⟨λh=>by simp[ad.hk]at h,λh=>by simp[ad.hk]at h⟩
 | map k v wg wh=>exact⟨λh=>by simp[ad.hk]at h,λh=>by simp[ad.hk]at h⟩
 | fn a b fa eg=>exact⟨λh=>by simp[ad.hk]at h,λh=>by simp[ad.hk]at h⟩
 | b6 a aG=>exact⟨λh=>by simp[ad.hk]at h,λh=>by simp[ad.hk]at h⟩
 | dM=>exact⟨λh=>by simp[ad.hk]at h,λh=>by simp[ad.hk]at h⟩
theorem T_(aa:Bc b){t:ad}(ah:t.hk=true){id:TypeId}(aF:bO P t id){base:Nat}{v:Value}{d:DataW H}{ps:List MemPlace}(cn:Value.okWide P w .any base id v)
  (h:DataW.Trod enc P w 0 (λ_=>true) true id v d ps) (mG:b d<=N):∃ y,dN P t (p6 w) w v y/\t.oh N y:=by
 obtain⟨n,ax⟩:=h;obtain⟨y,aK,aq⟩:=(ahu aa t).1 ah aF ax mG;refine⟨y,⟨?_,aK⟩,aq⟩;cases t with
 | bool=>
  simp only[br]at aK;have hu:P.underlying id=some .bool:=by
   unfold bO at aF;simp only[cg,Bool.and_eq_true]at aF;obtain⟨_,aF⟩:=aF;split at aF
   ·assumption
   ·cases aF
  simp only[Value.okWide,hu,Cell.okWide,Cell.ok]at cn;cases v<;>first | rfl | exact cn.elim
 | int k=>
  simp only[Value.okWide,aF.int,Cell.okWide,Cell.ok]at cn;cases v<;>first | rfl | exact cn.elim
 | str=>
  simp only[Value.okWide,aF.str,Cell.okWide,Cell.ok]at cn;cases v<;>first | rfl | exact cn.elim
 | cx=>simp[bO,cg]at aF
 | st t=>
  obtain⟨ev,hu⟩:=aF.st;simp only[Value.okWide,hu]at cn;obtain⟨cs,rfl,hc,_⟩:=cn;exact⟨cs,rfl,hc.trans aF.cells⟩
 | aw a b=>simp[bO,cg]at aF
 | slice e=>
  obtain⟨i,hu,_⟩:=aF.sl;simp only[Value.okWide,hu,Cell.okWide,Cell.ok]at cn;cases v<;>first | rfl | exact cn.elim
 | array n e=>simp[ad.hk]at ah
 | bp e=>simp[ad.hk]at ah
 | map k v=>simp[ad.hk]at ah
 | fn a b=>simp[ad.hk]at ah
 | b6 a=>simp[ad.hk]at ah
 | dM=>simp[ad.hk]at ah
def xr(P:Program):List TypeId->ad->Bool
 | [id],t=>cg P t (.inl id)&&t.hk
 | id::ids,.aw a b=>cg P a (.inl id)&&a.hk&&xr P ids b
 | _,_=>false
theorem T'(aa:Bc b):∀ (ids:List TypeId) (ts:ad) {base:Nat} {aA:List Value} {a7:List (DataW H)} {ps:List MemPlace},xr P ids ts=true->DataW.TrodAll enc P w 0 (λ_=>true) true ids aA a7 ps->
  (∀ (j:Nat) t v,ids[j]?=some t->aA[j]?=some v->Value.okWide P w .any base t v)->(∀ d∈a7,b d<=N)->∃ x,eY P ts (p6 w) w aA x/\ts.oh N x
 | [],ts,_,aA,a7,ps,h,_,_,_=>by simp[xr]at h
 | [id],t,_,aA,a7,ps,h,h5,cn,mG=>by
  simp only[xr,Bool.and_eq_true]at h;obtain⟨v0,Mt,d0,Mu,E8,BI,rfl,rfl,rfl,h0,r8⟩:=trodAll_cons h5;obtain⟨rfl,rfl,rfl⟩:=trodAll_nil r8;obtain⟨y,⟨xf,rZ⟩,aq⟩:=T_ aa h.2 h.1 (cn 0 id v0 rfl rfl) h0 (mG _ (List.mem_cons_self ..));refine⟨y,⟨?_,by simpa [dH]using rZ⟩,aq⟩;cases t<;>first | exact⟨v0,rfl,xf⟩ | (simp[cg]at h;done)
 | id::ahA::ids,ts,base,aA,a7,ps,h,h5,cn,mG=>by
  cases ts with
  | aw a b=>
   simp only[xr,Bool.and_eq_true]at h;obtain⟨v0,Mt,d0,Mu,E8,BI,rfl,rfl,rfl,h0,r8⟩:=trodAll_cons h5;obtain⟨y,⟨xf,rZ⟩,aq⟩:=T_ aa h.1.2 h.1.1 (cn 0 id v0 rfl rfl) h0 (mG _ (List.mem_cons_self ..));obtain⟨z,⟨ahB,ahC⟩,az⟩:=T' aa (ahA::ids) b h.2 r8 (λj t v h1 h2=>cn (j+1) t v (by simpa using h1) (by simpa using h2)) λd ar=>mG d (List.mem_cons_of_mem _ ar);exact⟨(y,z),⟨⟨xf,ahB⟩,_,_,Jj _ _,rZ,ahC⟩,aq,az⟩
  | _=>simp[xr]at h
theorem Ua(ah:laidOutB P=true){w':World}{Ub:Nat->Bool}:∀ (ids:List TypeId) {aA:List Value} {a7:List (DataW H)} {ps:List MemPlace},(ids.all λt=>P.readableRec t&&decide (t<P.types.size))=true->
  DataW.TrodAll enc P w 0 (λ_=>true) true ids aA a7 ps->(∀ p∈ps,w.sameAt w' p)->(∀ p∈ps,Ub p.block=true)->DataW.TrodAll enc P w' 0 Ub true ids aA a7 ps
 | [],_,_,_,_,h,_,_=>by
  obtain⟨rfl,rfl,rfl⟩:=trodAll_nil h;rfl
 | id::ids,aA,a7,ps,G,h,h1,h2=>by
  simp only[List.all_cons,Bool.and_eq_true,decide_eq_true_eq]at G;obtain⟨v0,Mt,d0,Mu,E8,BI,rfl,rfl,rfl,h0,r8⟩:=trodAll_cons h;exact trodAll_cons_mk (Go.WideElems.Trod_stays ah G.1.1 G.1.2 h0 (λp hp=>h1 p (List.mem_append_left _ hp)) (λp hp=>h2 p (List.mem_append_left _ hp)))
   (Ua ah ids G.2 r8 (λp hp=>h1 p (List.mem_append_right _ hp)) (λp hp=>h2 p (List.mem_append_right _ hp)))
theorem abG(aa:Bc b){k:FuncId}{fn:Func}{ts:ad}{sh:ts.ag->M (ad.bool).ag}{spec:ChangeSpec}{rt:TypeId}(ahD:laidOutB P=true)(wN:hK P k ts .bool sh)(ahE:∀ x,ts.Ok x->ts.oh N x->M.b9 (sh x) λy=>y=true)
  (dz:xr P fn.params.toList ts=true) (ahF:(fn.params.toList.all λt=>P.readableRec t&&decide (t<P.types.size))=true) (fR:fn.resultTypes=#[rt]) (ahG:P.underlying rt=some .bool)
  (hv:spec.vars=[]) (sN:∀ (H:Type) (a7:List (DataW H)),a7.length=fn.params.size->spec.fn H a7={ results:=[.lit (.bool true)],args:=a7 })
  {base:Nat} {args:Array Value} {a7 gs:List (DataW H)} {before:List MemPlace} (xt:∀ (j:Nat) t v,fn.params[j]?=some t->args[j]?=some v->Value.okWide P w .any base t v)
  (wb:DataW.Whole enc P fn.params.toList spec.vars false w args.toList a7 gs before) (mG:∀ d∈a7,b d<=N) (fQ:nj P (p6 w) w:=by exact λb aa=>absurd (show b<0 from aa) (Nat.not_lt_zero b)) :
  Calls P k args w λe p3=>∃ v,e=.returned v/\spec.post enc P fn false true false false w args v p3:=by
 have b1:=wb.lt;have Uc:=wb;obtain⟨p,q,h5,Mv,rfl,s5,_⟩:=wb;have bd:gs=[]/\q=[]:=by
  rw[hv]at Mv;cases gs with
  | nil=>exact⟨rfl,Mv⟩
  | cons _ _=>exact Mv.elim
 obtain⟨rfl,rfl⟩:=bd;simp only[List.append_nil]at Uc b1 s5;obtain⟨x,hx,aq⟩:=T' aa fn.params.toList ts dz h5 (λj t v h1 h2=>xt j t v (by simpa using h1) (by simpa using h2)) mG;obtain⟨hs,af⟩:=ahE x (zN ts hx.2) aq;have uJ:a7.length=fn.params.size:=by
  have:∀ (ids:List TypeId) {aA:List Value} {a7:List (DataW H)} {ps:List MemPlace},DataW.TrodAll enc P w 0 (λ_=>true) true ids aA a7 ps->a7.length=ids.length:=by
   intro ids;induction ids with
   | nil=>intro aA a7 ps h;obtain⟨rfl,rfl,rfl⟩:=trodAll_nil h;rfl
   | cons id ids aG=>intro aA a7 ps h;obtain⟨v0,Mt,d0,Mu,E8,BI,rfl,rfl,rfl,h0,r8⟩:=trodAll_cons h;simp[aG r8]
  simpa using this _ h5
 have hc:=wN.iD (p6 w) w args.toList x (λ_ h=>h) fQ hx hs;refine hc.mono λe p3 ⟨v,y,he,aK,G,aa⟩=>?_;have aK:=af y aK;subst aK;obtain⟨aA,bY,cm⟩:=G;have ahH:v=.bool true:=by
  simp only[yA]at bY;subst bY;obtain⟨⟨u,hu,nh⟩,nq⟩:=cm;simp only[List.cons.injEq,and_true]at hu;subst hu;simp only[kp]at nh;simp only[Jj,nh,abK,br]at nq;simpa using nq
 subst ahH;have qI:∀ p'∈p,w.sameAt p3 p':=by
  intro p' hp;have h1:=aa.block _ (b1 p' hp);cases p' with
  | cell b off=>simp only[World.sameAt,World.cell?];simp only[MemPlace.block]at h1;rw[h1]
  | map b=>exact h1
 refine⟨_,he,a7,[],p,[],p,[],Uc,?_,?_,?_,?_,λh=>by cases h⟩
 ·rw[List.append_nil,sN H a7 uJ,fR];exact trodAll_cons_mk (shut_bool ahG true) trodAll_mk0
 ·rw[List.append_nil,sN H a7 uJ];exact Ua ahD _ ahF h5 qI λp' hp=>by simpa using b1 p' hp
 ·rw[hv,List.append_nil,sN H a7 uJ];rfl
 ·refine⟨aa.os,aa.output,λi E=>?_⟩;have h1:=aa.block i E;rw[h1];exact (World.keptBut_refl w λGI=>GI∈p/\(GI∈[]\/GI∈p\/GI∈[])).2.2 i E
end
end Go.Fer
namespace Go.Fer.nT
open Go.Proofs
abbrev t2:ad:=.int .i64
abbrev t3:ad:=.int .i64
abbrev t4:ad:=.bool
abbrev t5:ad:=.int .u8
abbrev ahI:ad:=.int .u8
abbrev ahJ:ad:=.st (.aw t2 (.aw t3 (.aw t4 ahI)))
abbrev t9:ad:=.str
abbrev ahK:ad:=.str
abbrev ahL:ad:=.str
abbrev t21:ad:=.int .i32
abbrev xu:ad:=.st (.aw t3 t3)
abbrev zO:ad:=.st (.aw t3 (.aw t3 xu))
abbrev t22:ad:=.slice zO
abbrev t27:ad:=.slice t3
abbrev zP:ad:=.st (.aw t3 (.aw t27 xu))
abbrev GJ:ad:=.slice zP
abbrev xv:ad:=.st GJ
abbrev C9:ad:=.slice xv
abbrev zQ:ad:=.st (.aw t3 (.aw t3 (.aw t3 t3)))
abbrev GK:ad:=.slice zQ
abbrev tH:ad:=.st (.aw t22 (.aw C9 (.aw t3 GK)))
abbrev xw:ad:=.st (.aw t3 (.aw t3 (.aw t3 (.aw t3 t27))))
abbrev t28:ad:=.slice xw
abbrev u5:ad:=.st (.aw t27 (.aw xu (.aw t3 (.aw t3 t3))))
abbrev GL:ad:=.slice u5
abbrev q1:ad:=.st (.aw t3 (.aw t3 t3))
abbrev zR:ad:=.slice q1
abbrev t32:ad:=.st (.aw tH (.aw t27 (.aw t28 (.aw GL (.aw zR t3)))))
abbrev p7:ad:=.slice xu
abbrev iM:ad:=.st (.aw t3 (.aw t3 (.aw t3 (.aw t3 (.aw t3 t3)))))
abbrev t34:ad:=.slice iM
abbrev Mw:ad:=.st (.aw t3 (.aw t3 (.aw t3 (.aw t3 (.aw t3 (.aw t3 t3))))))
abbrev sM:ad:=.st (.aw p7 (.aw t34 (.aw t27 (.aw p7 Mw))))
abbrev wc:ad:=.st (.aw t32 sM)
abbrev ahM:ad:=.int .i64
abbrev EB:ad:=.slice t9
abbrev ahN:ad:=.st (.aw t3 (.aw t3 (.aw t3 t3)))
abbrev ahO:ad:=.st (.aw t3 (.aw t3 (.aw t3 (.aw t3 (.aw t3 (.aw t3 (.aw t3 t3)))))))
abbrev p8:ad:=.st wc
abbrev t105:ad:=.bp p8
abbrev Ud:ad:=.dM
abbrev Mx:ad:=.st (.aw t3 (.aw t4 Ud))
abbrev My:ad:=.map t9 Mx
abbrev C_:ad:=.slice t27
abbrev xx:ad:=.st (.aw tH C_)
abbrev Ue:ad:=.bp xx
abbrev Mz:ad:=.fn t3 t3
abbrev p9:ad:=.st (.aw iM t3)
abbrev MA:ad:=.slice p9
abbrev MB:ad:=.array 10 MA
abbrev C':ad:=.st (.aw t27 MB)
abbrev o9:ad:=.bp C'
abbrev MC:ad:=.slice o9
abbrev q4:ad:=.st (.aw sM (.aw t34 MC))
abbrev u6:ad:=.bp q4
abbrev Uf:ad:=.fn t3 t4
abbrev ahP:ad:=.fn u6 t4
abbrev ahQ:ad:=.fn (.aw iM t3) t4
abbrev t138:ad:=.b6 (.aw iM t3)
abbrev Ug:ad:=.fn o9 (.aw t3 t4)
abbrev GM:ad:=.map t3 t3
abbrev MD:ad:=.b6 t3
abbrev ahR:ad:=.b6 t3
abbrev Uh:ad:=.st (.aw t3 t3)
abbrev Ui:ad:=.slice Uh
abbrev Uj:ad:=.st (.aw t3 (.aw t3 t3))
abbrev Uk:ad:=.map Uj t3
abbrev t222:ad:=.st (.aw t32 (.aw Ui Uk))
abbrev oi:ad:=.bp t222
abbrev ahS:ad:=.fn t27 t4
abbrev t164:ad:=.b6 t27
abbrev Ul:ad:=.st (.aw t3 (.aw t3 t3))
abbrev ahT:ad:=.slice Ul
abbrev t171:ad:=.slice t5
abbrev Um:ad:=.fn u5 t4
abbrev Un:ad:=.fn zQ t4
abbrev ME:ad:=.fn iM t4
abbrev t228:ad:=.int .u64
abbrev ahU:ad:=.slice t3
abbrev ahV:ad:=.bp tH
abbrev ahW:ad:=.bp xv
abbrev ahX:ad:=.array 4 t9
abbrev Uo:ad:=.st (.aw t3 (.aw t3 t3))
abbrev ahY:ad:=.map Uo t3
abbrev GN:ad:=.map t3 iM
abbrev ahZ:ad:=.int .u32
abbrev Up:ad:=.int .u64
abbrev Uq:ad:=.fn xw t4
abbrev Ur:ad:=.fn q1 t4
abbrev Us:ad:=.fn zP t4
abbrev Ut:ad:=.slice t34
abbrev Uu:ad:=.fn zO t4
abbrev Uv:ad:=.fn xv t4
abbrev Da:ad:=.fn (.aw p9 p9) t3
abbrev ah0:ad:=.int .i64
abbrev ah1:ad:=.slice C_
abbrev ah2:ad:=.int .i64
abbrev Uw:ad:=.int .u64
abbrev ah3:ad:=.bp t3
abbrev Ux:ad:=.st (.aw iM t3)
abbrev ah4:ad:=.slice Ux
abbrev Uy:ad:=.st (.aw t3 t27)
abbrev ah5:ad:=.slice Uy
abbrev ah6:ad:=.bp t5
abbrev ah7:ad:=.array 24 t5
abbrev ah8:ad:=.bp Uw
abbrev ah9:ad:=.slice zR
abbrev ah_:ad:=.array 256 t5
abbrev Uz:ad:=.st (.aw t5 t5)
abbrev ah':ad:=.array 16 Uz
abbrev UA:ad:=.st t9
abbrev aia:ad:=.bp UA
abbrev aib:ad:=.array 20 Up
abbrev aic:ad:=.array 65 t5
abbrev aid:ad:=.array 32 t5
abbrev aie:ad:=.array 64 t5
abbrev aif:ad:=.int .u8
def u7:List (Nat×ad):=[(2,t2),(3,t3),(4,t4),(5,t5),(8,ahJ),(9,t9),(10,ahK),(11,ahL),(21,t21),(22,t22),(23,C9),(24,GK),(26,tH),(27,t27),(28,t28),(29,GL),(30,zR),(32,t32),(33,p7),(34,t34),(36,Mw),(38,sM),(40,wc),(42,zQ),(44,ahM),(48,EB),(58,xu),(63,ahN),(74,ahO),(87,u5),(91,q1),(93,xw),(105,t105),(107,My),(111,p8),(115,Ue),(121,C_),(123,xx),(125,iM),(128,Mz),(130,u6),(133,Uf),(134,ahP),(137,o9),(138,t138),(140,Ug),(141,MA),(142,MB),(144,p9),(148,GM),(149,MC),(151,q4),(153,MD),(154,ahR),(157,oi),(162,ahS),(164,t164),(165,ahT),(171,t171),(177,Um),(188,Ud),(190,Mx),(196,zO),(197,GJ),(199,xv),(201,zP),(203,Un),(209,ME),(215,ahQ),(217,C'),(219,Uk),(220,Ui),(222,t222),(224,Uj),(227,Uh),(228,t228),(235,Ul),(237,ahU),(249,ahV),(253,ahW),(261,ahX),(269,ahY),(271,Uo),(273,GN),(282,ahZ),(285,Up),(289,Uq),(290,Ur),(297,Us),(298,Ut),(304,Uu),(306,Uv),(311,Da),(313,ah0),(336,ah1),(351,ah2),(359,Uw),(363,ah3),(368,ah4),(372,Ux),(374,ah5),(380,ah6),(386,ah7),(398,ah8),(402,Uy),(403,ah9),(408,ah_),(410,Uz),(411,ah'),(414,aia),(416,UA),(418,aib),(419,aic),(423,aid),(424,aie),(432,aif)]
theorem nH:dv Tryz.prog (q0 u7):=ahq (by kernel_rfl)
theorem GO:Tryz.prog.follows .mixedOrders=true:=by kernel_rfl
def xy(_:Nat):Option aJ:=none
theorem GP:iX Tryz.prog xy:=λk c h=>by cases h
def noU:dd:={ sS:=λ_=>none,sT:=λ_=>none }
theorem l5:qt Tryz.prog noU where
 sS:=λk v h=>by cases h
 sT:=λk v h=>by cases h
end Go.Fer.nT
namespace Go.Fer
open Go.RowKit
def SC.ow(c:SC):aJ:=⟨c.ts,.aw c.tr .cx,λx=>(c.sh x).b4,λx=>((c.sh x).val c.tr.cM,())⟩
end Go.Fer
namespace Go.Fer
theorem M.aih{ai:Type}{p:Prop}{m n:M ai}(h:n.b4->p)(k:M.le m n):M.le (M.ae p m) n:=λhs=>⟨⟨h hs,(k hs).1⟩,(k hs).2⟩
theorem q5{ai:Type}{o:Option ai}{x:ai}(h:o=some x):o.isSome=true:=by rw[h];rfl
def MF(ts:ad)(x:ts.ag)(n:Nat):Nat->Prop
 | 0=>True
 | k+1=>MF ts x n k/\C4 (j' ts x (n+k))
theorem UB{ts:ad}{x:ts.ag}{n:Nat}:∀ {k:Nat},MF ts x n k->∀ i,i<k->C4 (j' ts x (n+i))
 | 0,_,i,h=>by omega
 | k+1,hc,i,h=>by
  by_cases e:i=k
  ·rw[e];exact hc.2
  ·exact UB hc.1 i (by omega)
theorem UC(ts:ad)(x:ts.ag):∀ (l:List Nat) (i:Nat),e5 (l.map λi=>(i,j' ts x i)) i=if i∈l then j' ts x i else .undef
 | [],i=>by simp[e5]
 | j::l,i=>by
  simp only[List.map_cons,e5];by_cases e:i=j
  ·subst e;simp
  ·rw[if_neg e,UC ts x l i];simp[e]
theorem r9{ts:ad}{x:ts.ag}{n:Nat}(h:MF ts x n (r7 ts - n)):C5 n (o7 ts x):=λi E=>by
 show C4 (e5 (zJ ts x (r7 ts)) i);unfold zJ;rw[UC];split
 ·rename_i aj;rw[List.mem_range]at aj;have ax:¬i<n:=λh=>E (.inl h);have:=UB h (i - n) (by omega);rwa [show n+(i - n)=i by omega]at this
 ·trivial
end Go.Fer
namespace Go.Fer
open M (V)
theorem bo{n:Int}(h1:-9223372036854775808<=n)(h2:n<9223372036854775808):IntKind.i64.wrap n=n:=by
 show (if (true&&decide (n % 2 ^ 64>=(2 ^ (64 - 1):Int)))=true then n % 2 ^ 64 - 2 ^ 64 else n % 2 ^ 64)=n;grind
theorem b8(a b:Int):Add.add a b=a+b:=rfl
theorem j1(a b:Nat):Add.add a b=a+b:=rfl
theorem UD{ai:Type}(a b:List ai):Append.append a b=a++b:=rfl
theorem bH(n:Nat):Int.ofNat n=(n:Int):=rfl
theorem p_{x c d:Bool}:(x||!(if (!x)=true then c else d))=(x||!c):=by grind
theorem UE{x c d:Bool}:(x||(if (!x)=true then c else d))=(x||c):=by grind
theorem u9{x c d:Bool}:(x&&(if x=true then c else d))=(x&&c):=by grind
namespace M
variable {ai β fX A aD:Type}
theorem bj{m:M ai}{p:Prop}{v:ai}(h:p->m=pure v):le m (dt p v):=λhp=>by
 rw[h hp];exact⟨trivial,λ_ aK=>aK⟩
theorem r_{m:M ai}{p:Prop}{v:ai}(h:p->b9 m λy=>y=v):le m (dt p v):=λhp=>h hp
theorem gm{p:Prop}{v d:ai}:(dt p v).val d=v:=by
 unfold val;have h:∃ x,(dt p v).bB x:=⟨v,rfl⟩
 rw[dif_pos h];exact h.choose_spec
theorem fg{v d:ai}:(pure v).val d=v:=gm (p:=True)
theorem nI{p:Prop}{v:ai}:(dt p v).b4=p:=rfl
theorem u_{p:Prop}{v:ai}:(dt p v).Cc:=λ_ _ h k=>h.trans k.symm
theorem iN{g:Bool}{p:Prop}{v d:ai}:bS g (dt p v) d=dt (g=true->p) (if g=true then v else d):=by
 cases g
 ·exact (bE (by simp) _).symm
 ·simp[bS]
theorem ki{g:Bool}{v d:ai}:bS g (pure v) d=pure (if g=true then v else d):=by cases g<;>rfl
theorem bL{f:A->M β}{x:A}:V.bm f (.next x:V A β)=f x:=rfl
theorem o_{f:A->M β}{r:β}:V.bm f (.done r:V A β)=pure r:=rfl
end M
def eB{ai β aD:Type}(f:ai->β->V β aD)(fin:β->aD):List ai->β->aD
 | [],b=>fin b
 | x::l,b=>match f x b with
  | .next aZ=>eB f fin l aZ
  | .done r=>r
def V.gQ{A β aD:Type}(g:β->A):V β aD->V A aD
 | .next b=>.next (g b)
 | .done r=>.done r
theorem M.gn{ai β A aD:Type}{body:A->M (V A aD)}{s0:A}(l:List ai)(mk:Nat->β->A)(f:ai->β->V β aD)(fin:β->aD)(I:Nat->β->Prop)(b:β)(mF:s0=mk 0 b)(h0:I 0 b)
  (hs:∀ i (h:i<l.length) b,I i b->body (mk i b)=M.pure (V.gQ (mk (i+1)) (f l[i] b))/\∀ aZ,f l[i] b=.next aZ->I (i+1) aZ)
  (aq:∀ b,I l.length b->body (mk l.length b)=M.pure (.done (fin b))):M.loop body s0=M.pure (eB f fin l b):=by
 subst mF;have key:∀ (k:Nat) (r:List ai) (b:β),k<=l.length->r=l.drop k->I k b->M.loop body (mk k b)=M.pure (eB f fin r b):=by
  intro k r;induction r generalizing k with
  | nil=>
   intro b an G eb;have:k=l.length:=by have:=congrArg List.length G;grind
   subst this;exact M.sO (aq b eb)
  | cons x r aG=>
   intro b an G eb;have b1:k<l.length:=by
    grind
   rw[List.drop_eq_getElem_cons b1]at G;injection G with hx G
   obtain⟨h1,h2⟩:=hs k b1 b eb;rw[<-hx]at h1 h2;simp only[eB];cases qV:f x b with
   | next aZ=>
    rw[qV]at h1;rw[M.Bg h1];grind
   | done pG=>
    rw[qV]at h1;exact M.sO h1
 grind
theorem M.dm{ai β A aD:Type}{body:A->M (V A aD)}{s0:A}(l:List ai)(mk:Nat->β->A)(f:ai->β->V β aD)(fin:β->aD)(b:β)(mF:s0=mk 0 b)
  (hs:∀ i (h:i<l.length) b,body (mk i b)=M.pure (V.gQ (mk (i+1)) (f l[i] b)))
  (aq:∀ b,body (mk l.length b)=M.pure (.done (fin b))):M.loop body s0=M.pure (eB f fin l b):=
 M.gn l mk f fin (λ_ _=>True) b mF trivial (λi h b _=>⟨hs i h b,λ_ _=>trivial⟩) λb _=>aq b
section
variable {ai β aD:Type}
theorem q6{p:ai->Bool}{r:aD}{fin:β->aD}:∀ (l:List ai) (b:β),eB (λx b=>if p x=true then .done r else .next b) fin l b=if l.any p=true then r else fin b
 | [],b=>by rfl
 | x::l,b=>by
  simp only[eB,List.any_cons,Bool.or_eq_true];by_cases h:p x=true
  ·simp[h]
  ·have h:p x=false:=by grind
   simp only[h,Bool.false_eq_true,if_false,false_or];exact q6 l b
theorem GQ{p:ai->Bool}{r:aD}{fin:β->aD}:∀ (l:List ai) (b:β),eB (λx b=>if p x=true then .next b else .done r) fin l b=if l.all p=true then fin b else r
 | [],b=>by rfl
 | x::l,b=>by
  simp only[eB,List.all_cons,Bool.and_eq_true];by_cases h:p x=true
  ·simp only[h,if_true,true_and];exact GQ l b
  grind
theorem dV{h:β->ai->β}{fin:β->aD}:∀ (l:List ai) (b:β),eB (λx b=>.next (h b x)) fin l b=fin (l.foldl h b)
 | [],b=>rfl
 | x::l,b=>by simp only[eB,List.foldl_cons];exact dV l (h b x)
theorem UF{p:ai->Bool}:∀ (l:List ai) (b:List ai),l.foldl (λb x=>if p x=true then b++[x] else b) b=b++l.filter p
 | [],b=>by simp
 | x::l,b=>by
  simp only[List.foldl_cons,List.filter_cons];rw[UF l];grind
theorem xz{fX:Type}{g:ai->fX}:∀ (l:List ai) (b:List fX),l.foldl (λb x=>b++[g x]) b=b++l.map g
 | [],b=>by simp
 | x::l,b=>by simp only[List.foldl_cons,List.map_cons];rw[xz l];simp
end
theorem UG{ai:Type}{p q:ai->Bool}(h:∀ x,p x=!q x)(l:List ai):l.any p=!l.all q:=by
 grind
theorem ky{ai β aD:Type}{p q:ai->Bool}{r:aD}{fin:β->aD}(l:List ai)(b:β)(h:∀ x,p x=!q x):eB (λx b=>if p x=true then .done r else .next b) fin l b=if l.all q=true then fin b else r:=by
 rw[q6,UG h];grind
theorem mH{A β aD:Type}{c:Bool}{mk:β->A}{b:β}{r:aD}:(if c=true then M.pure (V.done r) else M.pure (V.next (mk b)))=M.pure (V.gQ mk (if c=true then .done r else .next b)):=by cases c<;>rfl
theorem UH{A β aD:Type}{c:Bool}{mk:β->A}{b:β}{r:aD}:(if c=true then M.pure (V.done r) else M.pure (V.next (mk b)))=M.pure (V.gQ mk (if c=true then .done r else .next b)):=by cases c<;>rfl
theorem cH{l:Nat}{i:Nat}(h:i<l):decide ((i:Int)<(l:Int))=true:=by grind
theorem cv{l:Nat}{i:Nat}(h:i<l):((0:Int)<=(i:Int)/\(i:Int)<(l:Int))=True:=by grind
theorem cZ{ai:Type}{l:List ai}{i:Nat}{d:ai}(h:i<l.length):l.getD (Int.toNat (i:Int)) d=l[i]:=by
 grind
theorem xA{ai:Type}{l:List ai}{i:Int}{d:ai}(h0:0<=i)(h:i<(l.length:Int)):l.getD i.toNat d∈l:=by
 grind
def dR(a b:Int):z1':=(List.range (b - a+1).toNat).map λ(i:Nat)=>a+(i:Int)
theorem xB(a b:Int):(dR a b).length=(b - a+1).toNat:=by simp[dR]
theorem Db{a b:Int}{i:Nat}(h:i<(dR a b).length):(dR a b)[i]=a+i:=by simp[dR]
theorem qa{a b n:Int}:n∈dR a b<->a<=n/\n<=b:=by
 simp only[dR,List.mem_map,List.mem_range];constructor
 ·omega
 ·rintro⟨h1,h2⟩;exact⟨(n - a).toNat,by omega,by omega⟩
end Go.Fer
namespace Go.Fer.nT
open Go.Proofs
abbrev oj:Type:=List (Nat×SC)
def om{ai:Type}:List (Nat×ai)->Nat->Option ai
 | [],_=>none
 | p::l,k=>if k=p.1 then some p.2 else om l k
theorem Dc{ai:Type}{k:Nat}{c:ai}:∀ {l:List (Nat×ai)},om l k=some c->(k,c)∈l
 | [],h=>by cases h
 | p::l,h=>by
  unfold om at h;split at h
  ·rename_i e;cases h;subst e;simp
  ·exact List.mem_cons_of_mem _ (Dc h)
def r'(T:oj):List (Nat×eH)->Nat->Option eH
 | [],k=>match om T k with
  | some c=>some (.c6 c)
  | none=>none
 | p::l,k=>if k=p.1 then some p.2 else r' T l k
def UI(k:Nat)(c:SC):Prop:=hK Tryz.prog k c.ts c.tr c.sh/\(c.dt=true->∀ x,(c.sh x).Cc)
structure kz(T:oj):Type where
 ok:∀ p∈T,UI p.1 p.2
abbrev aii{T:oj}(_:kz T):oj:=T
def aij:kz []:=⟨λp h=>by cases h⟩
def kz.cons{T:oj}(h:kz T){n:Nat}{c:SC}(k:UI n c):kz ((n,c)::T):=⟨λp hp=>by
 rcases List.mem_cons.1 hp with rfl | hp
 ·exact k
 ·exact h.ok p hp⟩
def Dd(U:dd):List (Nat×eH)->Prop
 | []=>True
 | p::l=>p.2.Ok Tryz.prog U p.1/\Dd U l
theorem kz.GR{U:dd}{T:oj}(h:kz T):∀ {sp:List (Nat×eH)},Dd U sp->lz Tryz.prog U (r' T sp)
 | [],_,k,c,e=>by
  unfold r' at e;split at e
  ·rename_i c' hc;cases e;exact h.ok (k,c') (Dc hc)
  ·cases e
 | p::l,hs,k,c,e=>by
  unfold r' at e;split at e
  ·rename_i an;cases e;subst an;exact hs.1
  ·exact kz.GR h (sp:=l) hs.2 k c e
def zS:ad->List ad
 | .cx=>[]
 | .aw a b=>a::zS b
 | t=>[t]
def UJ:ad->ad
 | .bp t=>t
 | t=>t
def UK{ts UL:ad}(e:UL=ts){tr:ad}(sh:ts.ag->M tr.ag):UL.ag->M tr.ag:=e ▸ sh
def MG(o':Nat)(c:SC):Option EH:=
 if h:((zS c.ts).take o').all ad.fZ=true/\fM ((zS c.ts).take o'++(((zS c.ts).drop o').map UJ).map .bp)=c.ts then some ⟨(zS c.ts).take o',((zS c.ts).drop o').map UJ,c.tr,UK h.2 c.sh⟩ else none
def UM:z8'->Nat->Option Nat
 | [],_=>none
 | p::l,k=>if k=p.1 then some p.2 else UM l k
def zT(T:oj)(cl:z8')(GS:List (Nat×wj)):dd where
 sS:=λk=>match om T k with
  | some c=>some ⟨c.ts,c.tr,c.sh⟩
  | none=>none
 sT:=λk=>match UM cl k with
  | some o'=>match om T k with
   | some c=>MG o' c
   | none=>none
  | none=>none
 wm:=om GS
def De:List (Nat×wj)->Prop
 | []=>True
 | p::l=>wk Tryz.prog p.1 p.2/\De l
theorem De.mem:∀ {l:List (Nat×wj)},De l->∀ p∈l,wk Tryz.prog p.1 p.2
 | [],_,p,h=>by cases h
 | q::l,h,p,hp=>by
  rcases List.mem_cons.1 hp with rfl | hp
  ·exact h.1
  ·exact De.mem h.2 p hp
theorem aik{k o':Nat}{c:SC}{v:EH}(h:hK Tryz.prog k c.ts c.tr c.sh)(e:MG o' c=some v):v.as.all ad.fZ=true/\hK Tryz.prog k (fM (v.as++v.cs.map .bp)) v.tr v.sh:=by
 unfold MG at e;split at e
 ·rename_i cy;cases e;refine⟨cy.1,?_⟩;have key:∀ (ts:ad) (e:ts=c.ts),hK Tryz.prog k ts c.tr (UK e c.sh):=by rintro _ rfl;exact h
  exact key _ cy.2
 ·cases e
theorem kz.u{T:oj}(h:kz T)(cl:z8')(GS:List (Nat×wj))(E:De GS):qt Tryz.prog (zT T cl GS) where
 sS:=λk v e=>by
  simp only[zT]at e;split at e
  ·rename_i c hc;cases e;exact (h.ok (k,c) (Dc hc)).1
  ·cases e
 sT:=λk v e=>by
  simp only[zT]at e;split at e
  ·split at e
   ·rename_i c hc;exact aik (h.ok (k,c) (Dc hc)).1 e
   ·cases e
  ·cases e
 wm:=λk v e=>E.mem (k,v) (Dc e)
abbrev q7(fn:Func):Code:=fn.body.getD .skip
theorem GU{fn:Func}(h:fn.body.isSome=true):fn.body=some (q7 fn):=by
 unfold q7;cases e:fn.body with
 | none=>rw[e]at h;cases h
 | some b=>rfl
abbrev Df(fn:Func)(ts tr:ad):Bool:=fn.body.isSome&&C6 fn (q7 fn) ts tr
theorem GV{T:oj}(hT:kz T){U:dd}(hS:qt Tryz.prog U){sp:List (Nat×eH)}(nG:Dd U sp){n:Nat}{fn:Func}(aq:Tryz.prog.funcs[n]?=some fn){ts tr:ad}{sh:ts.ag->M tr.ag}{ann:cd}{S:ts.ag->M tr.ag}(hs:∀ x,M.le (S x) (sh x))(cn:Df fn ts tr=true)(ah:∀ x,C3 U (q0 u7) xy (r' T sp) fn (q7 fn) ann ts tr x=S x):hK Tryz.prog n ts tr sh:=
 have cn:=Bool.and_eq_true _ _ ▸ cn
 ahk GO nH hS GP (hT.GR nG) aq (GU cn.1) cn.2 λx=>M.le_trans (M.le_of_eq (ah x)) (hs x)
def mk{T:oj}(hT:kz T){n:Nat}{fn:Func}(aq:Tryz.prog.funcs[n]?=some fn)(c:aJ)(ann:cd){S:c.ts.ag->M c.tr.ag}(hs:∀ x,M.le (S x) (c.sh x))(cn:Df fn c.ts c.tr=true:=by kernel_rfl)(ah:∀ x,C3 noU (q0 u7) xy (r' T []) fn (q7 fn) ann c.ts c.tr x=S x:=by intro x;kernel_rfl):kz ((n,c.c6)::T):=
 hT.cons ⟨GV hT l5 (sp:=[]) trivial aq hs cn ah,λ_ _=>M.u_⟩
def lD{T:oj}(hT:kz T)(cl:z8'){n:Nat}{fn:Func}(aq:Tryz.prog.funcs[n]?=some fn)(c:aJ)(ann:cd){S:c.ts.ag->M c.tr.ag}(hs:∀ x,M.le (S x) (c.sh x))(cn:Df fn c.ts c.tr=true:=by kernel_rfl)(ah:∀ x,C3 (zT T cl []) (q0 u7) xy (r' T []) fn (q7 fn) ann c.ts c.tr x=S x:=by intro x;kernel_rfl):kz ((n,c.c6)::T):=
 hT.cons ⟨GV hT (hT.u cl [] trivial) (sp:=[]) trivial aq hs cn ah,λ_ _=>M.u_⟩
def pa{T:oj}(hT:kz T){U:dd}(hS:qt Tryz.prog U)(sp:List (Nat×eH))(nG:Dd U sp){n:Nat}{fn:Func}(aq:Tryz.prog.funcs[n]?=some fn)(c:aJ)(ann:cd){S:c.ts.ag->M c.tr.ag}(hs:∀ x,M.le (S x) (c.sh x))(cn:Df fn c.ts c.tr=true:=by kernel_rfl)(ah:∀ x,C3 U (q0 u7) xy (r' T sp) fn (q7 fn) ann c.ts c.tr x=S x:=by intro x;kernel_rfl):kz ((n,c.c6)::T):=
 hT.cons ⟨GV hT hS nG aq hs cn ah,λ_ _=>M.u_⟩
def jB{T:oj}(hT:kz T)(cl:z8'){n:Nat}{fn:Func}(aq:Tryz.prog.funcs[n]?=some fn)(c:aJ)(o':Nat)(ann:cd){S:c.ts.ag->M c.tr.ag}(hs:∀ x,M.le (S x) (c.sh x))(hc:∀ x,c.pre x->C5 o' (o7 c.ts x):=by intro x h;obtain⟨f,aq,_⟩:=h;exact r9 ⟨trivial,q5 aq⟩)(cn:Df fn c.ts c.tr=true:=by kernel_rfl)
  (ah:∀ x,ed (zT T cl []) (q0 u7) xy (r' T []) ann (q7 fn) (GF o' (o7 c.ts x)) (u4 (q0 u7) fn.results.toList c.tr)=S x:=by intro x;kernel_rfl):kz ((n,c.c6)::T):=
 have cn:=Bool.and_eq_true _ _ ▸ cn
 hT.cons ⟨ahm (n:=o') GO nH (hT.u cl [] trivial) GP (hT.GR (sp:=[]) trivial) aq (GU cn.1) cn.2 λx=>M.aih (hc x) (M.le_trans (M.le_of_eq (ah x)) (hs x)),λ_ _=>M.u_⟩
theorem mkI{T:oj}(hT:kz T){U:dd}(sp:List (Nat×eH))(nG:Dd U sp){n:Nat}{fn:Func}(aq:Tryz.prog.funcs[n]?=some fn){c:IOC}(ann:cd){S:c.b3.ag->M c.bB.ag}(hs:∀ x,M.le (S x) (c.sh x))(cn:(fn.body.isSome&&C7 fn (q7 fn) c.jZ c.kg)=true:=by kernel_rfl)(ah:∀ x,Mk U (q0 u7) xy (r' T sp) fn (q7 fn) ann c.b3 c.bB c.kg x=S x:=by intro x;kernel_rfl):IoSpec Tryz.prog U n c:=
 have cn:=Bool.and_eq_true _ _ ▸ cn
 T3 GO nH GP (hT.GR nG) aq (GU cn.1) cn.2 λx=>M.le_trans (M.le_of_eq (ah x)) (hs x)
theorem MH{U:dd}{n:Nat}{fn:Func}(aq:Tryz.prog.funcs[n]?=some fn){c:IOC}(hs:∀ x,¬(c.sh x).b4)(cn:(fn.body.isSome&&C7 fn (q7 fn) c.jZ c.kg)=true:=by kernel_rfl):IoSpec Tryz.prog U n c:=
 have cn:=Bool.and_eq_true _ _ ▸ cn
 T3 GO nH GP (Ψ:=λ_=>none) (λk c h=>by cases h) (ann:=.ei) aq (GU cn.1) cn.2 λx h=>absurd h (hs x)
end Go.Fer.nT
namespace Go.Fer
open Go.RowKit
theorem ail{P:Program}{U:dd}{k:FuncId}{ts e:ad}(tw:ts≠.cx){c:IOC}(h:IoSpec P U k c)(hS:qt P U){sh:ts.ag->M (ad.slice e).ag}{b0:Nat}(mk:ts.ag->c.b3.ag)
    (aim:∀ x,c.b3.st (mk x)=⟨e5 ((List.range (jP ts)).map λi=>(i,j' ts x i)),λ_=>⟨0,.fb⟩⟩) (ax:c.jZ=jP ts) (hF:c.jZ<=eo) (aio:c.kg=[none]) (val:c.bB.ag->List e.ag)
    (p4:∀ τ,(c.bB.st τ).au 0=.own b0 0/\(c.bB.st τ).ab b0=⟨0,.a6 e (val τ)⟩)
    (rG:∀ x,(sh x).b4->(c.sh (mk x)).b4/\∀ τ,(c.sh (mk x)).bB τ->val τ=(sh x).val (ad.slice e).cM):nm (SC.ow ⟨ts,.slice e,sh,true⟩).tr=true/\BY P k (SC.ow ⟨ts,.slice e,sh,true⟩):=by
  refine⟨rfl,h.enter,?_⟩;intro (x:ts.ag) (hs:(sh x).b4) y aK F w args ba fQ (dz:eY P ts F w args x);cases aK;obtain⟨ig,Gs⟩:=s_ (H:=λ_=>⟨0,.fb⟩) (κ:=λ_=>⟨0,0,0,false⟩) ts dz tw;let C:bP:={ P:=P,w0:=w,F0:=F,K0:=λr=>r<w.heap.size,nt:=c.jZ,r:=none,dfr:=[],hX:=λ_=>none,pr:=⟨0,.cx,λ_=>False,λ_ _ _ _ _=>False⟩,aI:=U }
  have Cv:∀ i,e5 ((List.range (jP ts)).map λi=>(i,j' ts x i)) i=.undef\/(i<jP ts/\e5 ((List.range (jP ts)).map λi=>(i,j' ts x i)) i=j' ts x i):=λi=>by
    rcases TY (l:=(List.range (jP ts)).map λi=>(i,j' ts x i)) (i:=i) with e | e
    · exact .inl e
    · refine .inr ?_
      generalize a8:e5 ((List.range (jP ts)).map λi=>(i,j' ts x i)) i=z at e
      simp only[List.mem_map,List.mem_range,Prod.mk.injEq]at e
      obtain⟨j,aB,rfl,rfl⟩:=e
      exact⟨aB,rfl⟩
  have G:a_ C (c.b3.st (mk x)) { tmps:=args.toArray,defers:=[] } w (λ_=>⟨0,0,0,false⟩) F:=by
    rw[aim];refine { df := ?_, dfr := rfl, bD := λi => ?_, bl := λb => trivial, own := λb aa => (by cases aa), inj := λb aZ aa _ _ => (by cases aa), cK := ba, gK := λr G => .inl G, hy := λr G => G, gV := λr G => G, d' := λr _ => rfl, size := Nat.le_refl _, dO := cL.refl w,fO:=hF,j6:=λb r h=>(by cases h),jm:=λb r h=>(by cases h),jN:=λb k h=>(by cases h),j7:=λb k h=>(by cases h),pro:=λl aH L n st e=>?_,jn:=hS,ie:=fQ }
    · grind
    · rcases Cv i with e | ⟨E,e⟩
      · show bh _ _ _ _ _ (e5 _ i) _
        rw[e];trivial
      · show bh _ _ _ _ _ (e5 _ i) _
        rw[e]
        have:=Gs i E
        simpa [Array.getD_eq_getD_getElem?,List.getD_eq_getElem?_getD]using this
    · rcases Cv TRS with h | ⟨h,_⟩
      · grind
      · unfold TRS at h;unfold eo at hF;omega
  obtain⟨Ls,tk⟩:=rG x hs;refine (h.iD C _ w _ F (mk x) rfl rfl rfl rfl rfl rfl G Ls).mono λaR w' ⟨v,τ,aA,κ',F',Bj,hτ,F4,aW⟩=>?_;obtain⟨aip,xi⟩:=p4 τ;rw[aio]at F4;obtain⟨us,ff,Lj,MI⟩:=F4;obtain⟨u,rfl⟩:∃ u,us=[u]:=by
    match us,ff with
    | [u],_=>simp
  have MJ:aA=[u]:=by
    obtain⟨_,MJ,h2⟩:=MI;rw[MJ,h2]
  have hv:v=u:=by simpa using Lj
  have hsl:=aW.bD 0;rw[aip,MJ]at hsl;have UN:u=(κ' b0).slice ((c.bB.st τ).ab b0).body.len:=by
    have:=hsl.2 (by rw[xi]) (by rw[xi];rfl);simp_all
  rw[xi]at UN;have aL:=aW.bl b0;unfold cf at aL;rw[xi]at aL;obtain⟨h1,h2⟩:=aL;have xt:val τ=(sh x).val (ad.slice e).cM:=tk τ hτ;refine⟨κ' b0,F',by rw[Bj,hv,UN];simp only[bA.len];rw[xt];rfl,aW.hy,λr UO=>?_,λax=>?_,λax=>?_,aW.dO.os,aW.dO.tape,aW.dO.output,aW.size,aW.d'⟩
  · rcases aW.gK r UO with cy | cy
    · exact .inl cy
    · exact .inr ⟨Nat.le_of_not_lt cy,aW.cK r UO⟩
  · have:=h1 ax
    rw[xt]at this
    exact this
  · have af:=aW.own b0 (by rw[xi];simp[bA.bI,ax])
    obtain⟨cs,T,c1,c2,c3,c4,c5⟩:=h2 ax
    rw[xt]at c3 c5
    exact⟨⟨Nat.le_of_not_lt af.2.2,af.1,af.2.1⟩,cs,T,c1,c2,c3,c4,c5⟩
end Go.Fer
namespace Go.Fer
open M (V)
abbrev bb:Type:=z2'×List (List (Int×z1'×Int×Int))×Int×z2'
abbrev qb:Type:=bb×List (z1')
abbrev eN(l:z4')(a b:Int):z4':=lh (k:=.int .i64) (v:=.int .i64) l a b
abbrev u'(l:z5')(a:Int×Int×Int)(b:Int):z5':=lh (k:=.st (.aw (.int .i64) (.aw (.int .i64) (.int .i64)))) (v:=.int .i64) l a b
def MK(kZ:Int×Int×Int->M Bool)(x:bb×Int):M Bool:=
 M.bind (kZ (x.2,0,IntKind.wrap .i64 (Int.ofNat (List.length x.1.1)-1))) λy=>M.pure y
def GW(kZ:Int×Int×Int->M Bool)(aiq:bb×Int->M Bool)(x:bb×Int×Int):M Bool:=
 M.bind (aiq (x.1,x.2.1)) λy=>M.ae (y=true->(y=true/\y=true)/\(0<=x.2.1/\x.2.1<Int.ofNat (List.length x.1.2.1))/\True) (M.bind (bS y (kZ (x.2.2,0,IntKind.wrap .i64 (Int.ofNat (List.length (List.getD x.1.2.1 (Int.toNat x.2.1) []))-1))) false) (λbJ=>M.pure (y&&bJ)))
def ML(air:z2'×List (List (Int×z1'×Int×Int))×Int×z2'->M Bool)(x:z2'×List (List (Int×z1'×Int×Int))×Int×z2'):M Int:=
 M.bind (air x) λy=>if (!y)=true then M.pure 70 else M.bind (M.loop (λ(A:Int×bb×Unit)=>if decide (A.1<Int.ofNat (List.length A.2.1.2.2.2))=true then M.bind (M.loop (λ(A:Int×Int×bb×Unit)=>letI d:=A.2.2.1.2.2.2;letI c:=Int.ofNat (List.length d);letI b:=List.getD d (Int.toNat A.1) (0,0,0,0);letI a:=List.getD d (Int.toNat A.2.1) (0,0,0,0);if decide (A.2.1<A.1)=true then M.ae (0<=A.2.1/\A.2.1<c) (M.ae (0<=A.1/\A.1<c) (if (decide (a.1=b.1)&&decide (a.2.1=b.2.1)&&decide (a.2.2.1=b.2.2.1)&&decide (a.2.2.2≠b.2.2.2))=true then M.bind (M.bind (M.bind (M.bind (M.pure 71) (λr=>M.pure (V.done r))) (λr=>M.pure (V.done r))) (λr=>M.pure (V.done r))) λr=>M.pure (V.done r) else M.pure (V.next (A.1,IntKind.wrap .i64 (Add.add A.2.1 1),A.2.2.1,())))) else M.bind (M.pure (V.next (A.1,A.2.2.1,()))) λr=>M.pure (V.done r)) (A.1,0,A.2.1,())) (V.bm (λ(A:Int×bb×Unit)=>M.pure (V.next (IntKind.wrap .i64 (Add.add A.1 1),A.2.1,())))) else M.bind (M.pure (V.next ())) λr=>M.pure (V.done r)) (0,x,())) (V.bm (λ(A:Unit)=>M.pure 0))
def UP(ais:z1'×Int->M Bool)(kZ:Int×Int×Int->M Bool)(x:bb×Int×Int×Int×Int):M Bool:=
 letI e:=x.2.2.2;letI c:=List.getD x.1.2.1 (Int.toNat e.1) [];letI b:=List.getD x.1.1 (Int.toNat x.2.1) (0,0,0,0);letI a:=List.getD c (Int.toNat e.2) (0,[],0,0);letI d:=decide (b.1=a.1);M.ae (0<=x.2.1/\x.2.1<Int.ofNat (List.length x.1.1)) (M.ae (0<=e.1/\e.1<Int.ofNat (List.length x.1.2.1)) (M.ae (0<=e.2/\e.2<Int.ofNat (List.length c)) (M.bind (bS d (ais (a.2.1,b.2.1)) false) (λy=>M.bind (bS (d&&y) (kZ (x.2.2.1,a.2.2.1,IntKind.wrap .i64 (Add.add a.2.2.2 x.1.2.2.1))) false) λbJ=>M.pure (d&&y&&bJ)))))
def MM(x:z1'):M Bool:=
 M.bind (M.loop (λ(A:z1'×Int×Unit)=>letI c:=A.2.1;letI b:=IntKind.wrap .i64 (c-1);letI a:=Int.ofNat (List.length A.1);if decide (c<a)=true then M.ae (0<=c/\c<a) (M.ae (0<=b/\b<a) (if decide (List.getD A.1 (Int.toNat c) 0<=List.getD A.1 (Int.toNat b) 0)=true then M.bind (M.bind (M.pure false) (λr=>M.pure (V.done r))) λr=>M.pure (V.done r) else M.pure (V.next (A.1,IntKind.wrap .i64 (Add.add c 1),())))) else M.bind (M.pure (V.next ())) λr=>M.pure (V.done r)) (x,1,())) (V.bm (λ(A:Unit)=>M.pure true))
def ait(x:Int×Int×Int):M Bool:=
 M.pure (decide (x.1>=x.2.1)&&decide (x.1<=x.2.2))
def MN(kZ:Int×Int×Int->M Bool)(x:bb×Int):M Bool:=
 M.bind (kZ (x.2,0,IntKind.wrap .i64 (Int.ofNat (List.length x.1.2.1)-1))) λy=>M.pure y
def MO(aiu:bb×Int->M Bool)(aiv:bb×Int×Int->M Bool)(kZ:Int×Int×Int->M Bool)(MP:Int×Int->M Bool)(aiw:Int×z1'×Int×Int->M Bool)(x:z2'×List (List (Int×z1'×Int×Int))×Int×z2'):M Bool:=
 letI c:=decide (Int.ofNat (List.length x.1) > 10)||decide (Int.ofNat (List.length x.2.1) > 6);M.bind (bS (!c) (kZ (x.2.2.1,0,99)) false) λy=>if (c||!y||decide (Int.ofNat (List.length x.2.2.2) > 30))=true then M.pure false else M.bind (M.loop (λ(A:Int×bb×Unit)=>letI h:=A.1<Int.ofNat (List.length A.2.1.1);letI b:=List.getD A.2.1.1 (Int.toNat A.1) (0,0,0,0);if decide h=true then M.ae (0<=A.1/\h) (M.bind (kZ (b.1,0,9)) (λy=>M.bind (bS (!(!y)) (kZ (b.2.1,0,9)) false) λbJ=>M.bind (bS (!(!y||!bJ)) (MP b.2.2) false) λdi=>if (!y||!bJ||!di)=true then M.bind (M.bind (M.pure false) (λr=>M.pure (V.done r))) λr=>M.pure (V.done r) else M.pure (V.next (IntKind.wrap .i64 (Add.add A.1 1),A.2.1,())))) else M.bind (M.pure (V.next (A.2.1,()))) λr=>M.pure (V.done r)) (0,x,())) (V.bm (λ(A:bb×Unit)=>M.bind (M.loop (λ(A:Int×bb×Unit)=>letI g:=A.1<Int.ofNat (List.length A.2.1.2.1);if decide g=true then M.bind (M.ae (0<=A.1/\g) (if decide (Int.ofNat (List.length (List.getD A.2.1.2.1 (Int.toNat A.1) [])) > 4)=true then M.bind (M.bind (M.bind (M.pure false) (λr=>M.pure (V.done r))) (λr=>M.pure (V.done r))) λr=>M.pure (V.done r) else M.loop (λ(A:Int×Int×bb×Unit)=>letI j:=A.2.2.1;letI e:=0<=A.1/\A.1<Int.ofNat (List.length j.2.1);letI d:=List.getD j.2.1 (Int.toNat A.1) [];letI i:=A.2.1<Int.ofNat (List.length d);M.ae e (if decide i=true then M.ae e (M.ae (0<=A.2.1/\i) (M.bind (aiw (List.getD d (Int.toNat A.2.1) (0,[],0,0))) (λy=>if (!y)=true then M.bind (M.bind (M.bind (M.bind (M.pure false) (λr=>M.pure (V.done r))) (λr=>M.pure (V.done r))) (λr=>M.pure (V.done r))) λr=>M.pure (V.done r) else M.pure (V.next (A.1,IntKind.wrap .i64 (Add.add A.2.1 1),j,()))))) else M.bind (M.pure (V.next (A.1,j,()))) λr=>M.pure (V.done r))) (A.1,0,A.2.1,()))) (V.bm (λ(A:Int×bb×Unit)=>M.pure (V.next (IntKind.wrap .i64 (Add.add A.1 1),A.2.1,())))) else M.bind (M.pure (V.next (A.2.1,()))) λr=>M.pure (V.done r)) (0,A.1,())) (V.bm (λ(A:bb×Unit)=>M.bind (M.loop (λ(A:Int×bb×Unit)=>letI f:=A.1<Int.ofNat (List.length A.2.1.2.2.2);letI a:=List.getD A.2.1.2.2.2 (Int.toNat A.1) (0,0,0,0);if decide f=true then M.ae (0<=A.1/\f) (M.bind (aiu (A.2.1,a.1)) (λy=>M.bind (bS (!(!y)) (aiv (A.2.1,a.2.1,a.2.2.1)) false) λbJ=>M.bind (bS (!(!y||!bJ)) (kZ (a.2.2.2,0,1)) false) λdi=>if (!y||!bJ||!di)=true then M.bind (M.bind (M.pure false) (λr=>M.pure (V.done r))) λr=>M.pure (V.done r) else M.pure (V.next (IntKind.wrap .i64 (Add.add A.1 1),A.2.1,())))) else M.bind (M.pure (V.next ())) λr=>M.pure (V.done r)) (0,A.1,())) (V.bm (λ(A:Unit)=>M.pure true))))))
def MQ(kZ:Int×Int×Int->M Bool)(x:Int×Int):M Bool:=
 M.bind (kZ (x.1,0,x.2)) λy=>M.pure (y&&decide (x.2<=999))
def MR(aix:z1'->M Bool)(kZ:Int×Int×Int->M Bool)(MP:Int×Int->M Bool)(x:Int×z1'×Int×Int):M Bool:=
 M.bind (M.loop (λ(A:Int×(Int×z1'×Int×Int)×Unit)=>letI b:=A.1<Int.ofNat (List.length A.2.1.2.1);if decide b=true then M.ae (0<=A.1/\b) (M.bind (kZ (List.getD A.2.1.2.1 (Int.toNat A.1) 0,0,9)) (λy=>if (!y)=true then M.bind (M.bind (M.pure false) (λr=>M.pure (V.done r))) λr=>M.pure (V.done r) else M.pure (V.next (IntKind.wrap .i64 (Add.add A.1 1),A.2.1,())))) else M.bind (M.pure (V.next (A.2.1,()))) λr=>M.pure (V.done r)) (0,x,())) (V.bm (λ(A:(Int×z1'×Int×Int)×Unit)=>M.bind (kZ (A.1.1,0,9)) λy=>letI a:=y&&decide (Int.ofNat (List.length A.1.2.1)<=4);M.bind (bS a (aix A.1.2.1) false) λbJ=>M.bind (bS (a&&bJ) (MP A.1.2.2) false) λdi=>M.pure (a&&bJ&&di)))
def UQ(awY:Int×Int->M (Int×Int))(aiy:Int×Int->M (Int×Int))(x:Int×Int):M (Int×Int):=
 M.bind (aiy x) λy=>M.pure y
def UR(aiz:z1'×Int->M Int)(x:z1'×Int):M Bool:=
 M.bind (aiz x) λy=>M.pure (decide (y>=0))
def US(x:Int×Int):M (Int×Int):=
 M.ae ((0:Int)<=32) (M.ae ((0:Int)<=32) (M.ae ((0:Int)<=32) (M.ae ((0:Int)<=32) (M.ae ((0:Int)<=32) (M.pure (IntKind.wrap .u64 (Add.add (IntKind.wrap .u64 (Add.add (IntKind.wrap .u64 (iU .u64 x.1 32*iU .u64 x.2 32)) (iU .u64 (IntKind.wrap .u64 (Add.add (IntKind.wrap .u64 (iU .u64 x.1 32*lg .u64 x.2 4294967295)) (iU .u64 (IntKind.wrap .u64 (lg .u64 x.1 4294967295*lg .u64 x.2 4294967295)) 32))) 32))) (iU .u64 (IntKind.wrap .u64 (Add.add (lg .u64 (IntKind.wrap .u64 (Add.add (IntKind.wrap .u64 (iU .u64 x.1 32*lg .u64 x.2 4294967295)) (iU .u64 (IntKind.wrap .u64 (lg .u64 x.1 4294967295*lg .u64 x.2 4294967295)) 32))) 4294967295) (IntKind.wrap .u64 (lg .u64 x.1 4294967295*iU .u64 x.2 32)))) 32)),IntKind.wrap .u64 (x.1*x.2)))))))
def MS(x:z1'×Int):M Int:=
 M.bind (M.loop (λ(A:z1'×Int×Int×Int×Unit)=>letI a:=A.2.2.2.1;if decide (a<A.2.2.1)=true then M.ae (0<=a/\a<Int.ofNat (List.length A.1)) (if decide (A.2.1=List.getD A.1 (Int.toNat a) 0)=true then M.bind (M.bind (M.pure a) (λr=>M.pure (V.done r))) λr=>M.pure (V.done r) else M.pure (V.next (A.1,A.2.1,A.2.2.1,IntKind.wrap .i64 (Add.add a 1),()))) else M.bind (M.pure (V.next ())) λr=>M.pure (V.done r)) (x.1,x.2,Int.ofNat (List.length x.1),0,())) (V.bm (λ(A:Unit)=>M.pure (-1)))
def MT(aiA:z2'×List (List (Int×z1'×Int×Int))×Int×z2'->M Bool)(x:z2'×List (List (Int×z1'×Int×Int))×Int×z2'):M Int:=
 M.bind (aiA x) λy=>if (!y)=true then M.pure 70 else M.bind (M.loop (λ(A:z2'×Int×Int×z5'×Unit)=>letI c:=A.2.2.1;letI a:=List.getD A.1 (Int.toNat c) (0,0,0,0);letI b:=Option.map (λx=>x.2) (List.find? (λp=>decide (a.1=p.1.1)&&(decide (a.2.1=p.1.2.1)&&decide (a.2.2.1=p.1.2.2))) A.2.2.2.1);if decide (c<A.2.1)=true then M.ae (0<=c/\c<Int.ofNat (List.length A.1)) (if (Option.isSome b&&decide (Option.getD b 0≠a.2.2.2))=true then M.bind (M.bind (M.pure 71) (λr=>M.pure (V.done r))) λr=>M.pure (V.done r) else M.pure (V.next (A.1,A.2.1,IntKind.wrap .i64 (Add.add c 1),u' A.2.2.2.1 (a.1,a.2.1,a.2.2.1) a.2.2.2,()))) else M.bind (M.pure (V.next ())) λr=>M.pure (V.done r)) (x.2.2.2,Int.ofNat (List.length x.2.2.2),0,[],())) (V.bm (λ(A:Unit)=>M.pure 0))
def MU(l6:bb×Bool->M (Option qb×Int))(h8:bb×Int->M Bool)(x:bb×Int):M ((Int×Int)×Int):=
 letI a:=Int.toNat x.2;M.ae (h8 x).b4 (M.ae (l6 (x.1,M.val (h8 x) false)).b4 (if decide ((M.val (l6 (x.1,M.val (h8 x) false)) (none,0)).2≠0)=true then M.pure ((0,0),(M.val (l6 (x.1,M.val (h8 x) false)) (none,0)).2) else M.ae (Option.isSome (M.val (l6 (x.1,M.val (h8 x) false)) (none,0)).1=true) (M.ae (0<=x.2/\x.2<Int.ofNat (List.length (Option.getD (M.val (l6 (x.1,M.val (h8 x) false)) (none,0)).1 (([],[],0,[]),[])).2)) (M.ae ((0:Int)<=0/\0<Int.ofNat (List.length (List.getD (Option.getD (M.val (l6 (x.1,M.val (h8 x) false)) (none,0)).1 (([],[],0,[]),[])).2 a []))) (M.ae (0<=IntKind.wrap .i64 (Int.ofNat (List.length (List.getD (Option.getD (M.val (l6 (x.1,M.val (h8 x) false)) (none,0)).1 (([],[],0,[]),[])).2 a []))-1)/\IntKind.wrap .i64 (Int.ofNat (List.length (List.getD (Option.getD (M.val (l6 (x.1,M.val (h8 x) false)) (none,0)).1 (([],[],0,[]),[])).2 a []))-1)<Int.ofNat (List.length (List.getD (Option.getD (M.val (l6 (x.1,M.val (h8 x) false)) (none,0)).1 (([],[],0,[]),[])).2 a []))) (M.pure ((List.getD (List.getD (Option.getD (M.val (l6 (x.1,M.val (h8 x) false)) (none,0)).1 (([],[],0,[]),[])).2 a []) (Int.toNat 0) 0,List.getD (List.getD (Option.getD (M.val (l6 (x.1,M.val (h8 x) false)) (none,0)).1 (([],[],0,[]),[])).2 a []) (Int.toNat (IntKind.wrap .i64 (Int.ofNat (List.length (List.getD (Option.getD (M.val (l6 (x.1,M.val (h8 x) false)) (none,0)).1 (([],[],0,[]),[])).2 a []))-1))) 0),0)))))))
def MV(l6:bb×Bool->M (Option qb×Int))(h8:bb×Int->M Bool)(xC:bb×Int×Int->M Bool)(aiB:Option qb×Int×Int×Int->M Int)(x:bb×Int×Int×Int):M (Int×Int):=
 letI b:=(x.1,x.2.2);letI a:=(x.1,x.2.1);M.ae (h8 a).b4 (M.ae (M.val (h8 a) false=true->(M.val (h8 a) false=true/\M.val (h8 a) false=true/\M.val (h8 a) false=true/\True)/\(xC b).b4/\True) (M.ae (True/\(M.val (h8 a) false=true->M.val (h8 a) false=true)) (M.ae (l6 (x.1,M.val (h8 a) false&&M.val (xC b) false)).b4 (if decide ((M.val (l6 (x.1,M.val (h8 a) false&&M.val (xC b) false)) (none,0)).2≠0)=true then M.pure (0,(M.val (l6 (x.1,M.val (h8 a) false&&M.val (xC b) false)) (none,0)).2) else M.bind (aiB ((M.val (l6 (x.1,M.val (h8 a) false&&M.val (xC b) false)) (none,0)).1,x.2)) λy=>M.pure (y,0)))))
def UT(oo:Int×Int×Int->M Bool)(aiC:z2'×(Int×Int×Int×Int->M Bool)->M Bool)(aiD:List (List (Int×z1'×Int×Int))×(List (Int×z1'×Int×Int)->M Bool)->M Bool)(MW:z2'×(Int×Int×Int×Int->M Bool)->M Bool)(aiE:List (Int×z1'×Int×Int)×Option (Int×z1'×Int×Int->M Bool)->M Bool)(aiF:(Int×Int×Int×Int)×Option bb->M Bool)(aiG:Int×Int×Int×Int->M Bool)(aiH:Int×z1'×Int×Int->M Bool)(x:z2'×List (List (Int×z1'×Int×Int))×Int×z2'):M Bool:=
 letI c:=decide (Int.ofNat (List.length x.1)<=10);M.bind (bS c (aiC (x.1,aiG)) false) λy=>letI a:=c&&y&&decide (Int.ofNat (List.length x.2.1)<=6);M.bind (bS a (aiD (x.2.1,λx=>aiE (x,some aiH))) false) λbJ=>M.bind (bS (a&&bJ) (oo (x.2.2.1,0,99)) false) λdi=>letI b:=a&&bJ&&di&&decide (Int.ofNat (List.length x.2.2.2)<=30);M.bind (bS b (MW (x.2.2.2,λgZ=>aiF (gZ,some x))) false) λfI=>M.pure (b&&fI)
def MX(Dg:z2'×List (List (Int×z1'×Int×Int))×Int×z2'->M Int)(MW:z2'×(Int×Int×Int×Int->M Bool)->M Bool)(aiI:(Int×Int×Int×Int)×Option Int×Option bb×Option Int->M Bool)(x:bb×Bool):M (Option qb×Int):=
 M.bind (Dg x.1) λy=>if decide (y≠0)=true then M.pure (none,y) else if (!x.2)=true then M.pure (none,1) else M.bind (M.loop (λ(A:z2'×Int×Int×bb×z2'×List (List (Int×z1'×Int×Int))×Int×z2'×List (z1')×Unit)=>letI i:=A.2.2.1;letI g:=List.getD A.1 (Int.toNat i) (0,0,0,0);letI c:=A.2.2.2.2;if decide (i<A.2.1)=true then M.bind (M.ae (0<=i/\i<Int.ofNat (List.length A.1)) (M.bind (M.loop (λ(A:z2'×Int×Int×bb×Int×(Int×Int×Int×Int)×z1'×Int×z2'×List (List (Int×z1'×Int×Int))×Int×z2'×List (z1')×Unit)=>letI d:=A.2.2.2;letI a:=d.2.2.2;letI j:=a.2.2;letI e:=j.2.2;if decide (a.2.1<=d.2.2.1.2.2.2)=true then M.bind (M.bind (MW (d.1.2.2.2,λx=>aiI (x,some d.2.1,some d.1,some a.2.1))) (λy=>if y=true then M.ae (bX (Add.add (List.length a.1) (Add.add 0 1))) (M.pure (V.next (A.1,A.2.1,A.2.2.1,d.1,d.2.1,d.2.2.1,a.1++[a.2.1],a.2.1,j.1,j.2.1,e.1,e.2.1,e.2.2.1,()))) else M.pure (V.next (A.1,A.2.1,A.2.2.1,d.1,d.2.1,d.2.2.1,a.1,a.2.1,j.1,j.2.1,e.1,e.2.1,e.2.2.1,())))) (V.bm (λ(A:z2'×Int×Int×bb×Int×(Int×Int×Int×Int)×z1'×Int×z2'×List (List (Int×z1'×Int×Int))×Int×z2'×List (z1')×Unit)=>letI k:=A.2.2.2;letI b:=k.2.2.2;M.pure (V.next (A.1,A.2.1,A.2.2.1,k.1,k.2.1,k.2.2.1,b.1,IntKind.wrap .i64 (Add.add b.2.1 1),b.2.2.1,b.2.2.2.1,b.2.2.2.2.1,b.2.2.2.2.2.1,b.2.2.2.2.2.2.1,())))) else M.bind (M.pure (V.next (A.1,A.2.1,A.2.2.1,d.1,a.1,j.1,j.2.1,e.1,e.2.1,e.2.2.1,()))) λr=>M.pure (V.done r)) (A.1,A.2.1,i,A.2.2.2.1,i,g,[],g.2.2.1,c.1,c.2.1,c.2.2.1,c.2.2.2.1,c.2.2.2.2.1,())) (V.bm (λ(A:z2'×Int×Int×bb×z1'×z2'×List (List (Int×z1'×Int×Int))×Int×z2'×List (z1')×Unit)=>letI f:=A.2.2.2.2;if decide (Int.ofNat (List.length f.1)=0)=true then M.bind (M.bind (M.bind (M.pure (none,3)) (λr=>M.pure (V.done r))) (λr=>M.pure (V.done r))) λr=>M.pure (V.done r) else M.ae True (M.ae (bX (Add.add (List.length f.2.2.2.2.2.1) (Add.add 0 1))) (M.ae True (M.pure (V.next (A.1,A.2.1,A.2.2.1,A.2.2.2.1,f.2.1,f.2.2.1,f.2.2.2.1,f.2.2.2.2.1,f.2.2.2.2.2.1++[f.1],()))))))))) (V.bm (λ(A:z2'×Int×Int×bb×z2'×List (List (Int×z1'×Int×Int))×Int×z2'×List (z1')×Unit)=>letI h:=A.2.2.2.2;M.pure (V.next (A.1,A.2.1,IntKind.wrap .i64 (Add.add A.2.2.1 1),A.2.2.2.1,h.1,h.2.1,h.2.2.1,h.2.2.2.1,h.2.2.2.2.1,())))) else M.bind (M.pure (V.next (c.1,c.2.1,c.2.2.1,c.2.2.2.1,c.2.2.2.2.1,()))) λr=>M.pure (V.done r)) (x.1.1,Int.ofNat (List.length x.1.1),0,x.1,x.1.1,x.1.2.1,x.1.2.2.1,x.1.2.2.2,[],())) (V.bm (λ(A:z2'×List (List (Int×z1'×Int×Int))×Int×z2'×List (z1')×Unit)=>M.pure (some ((A.1,A.2.1,A.2.2.1,A.2.2.2.1),A.2.2.2.2.1),0)))
def aiJ(oo:Int×Int×Int->M Bool)(x:bb×Int):M Bool:=
 M.bind (oo (x.2,0,IntKind.wrap .i64 (Int.ofNat (List.length x.1.1)-1))) λy=>M.pure y
def UU(oo:Int×Int×Int->M Bool)(x:bb×Int×Int):M Bool:=
 letI a:=Int.ofNat (List.length x.1.2.1);M.bind (oo (x.2.1,0,IntKind.wrap .i64 (a-1))) λy=>M.ae (y=true->(y=true/\y=true)/\(0<=x.2.1/\x.2.1<a)/\True) (M.bind (bS y (oo (x.2.2,0,IntKind.wrap .i64 (Int.ofNat (List.length (List.getD x.1.2.1 (Int.toNat x.2.1) []))-1))) false) (λbJ=>M.pure (y&&bJ)))
def MY(GX:bb×Int×Int×Int×Int->M Bool)(aiK:Int×Int->M Int)(x:Option qb×Int×Int×Int):M Int:=
 letI b:=(Option.getD x.1 (([],[],0,[]),[])).2;letI e:=List.getD b (Int.toNat x.2.1) [];M.bind (M.ae (Option.isSome x.1=true) (M.ae (0<=x.2.1/\x.2.1<Int.ofNat (List.length b)) (M.loop (λ(A:Option qb×Int×Int×Int×Int×z1'×Int×Int×Unit)=>letI c:=A.2.2.2;letI a:=c.2.2;letI f:=a.2.2.1;if decide (f<a.2.1)=true then M.bind (M.ae (0<=f/\f<Int.ofNat (List.length a.1)) (M.ae (Option.isSome A.1=true) (M.bind (GX ((Option.getD A.1 (([],[],0,[]),[])).1,A.2.1,List.getD a.1 (Int.toNat f) 0,A.2.2.1,c.1)) (λy=>if y=true then M.pure (V.next (A.1,A.2.1,A.2.2.1,c.1,IntKind.wrap .i64 (Add.add c.2.1 1),a.1,a.2.1,f,())) else M.pure (V.next (A.1,A.2.1,A.2.2.1,c.1,c.2.1,a.1,a.2.1,f,())))))) (V.bm (λ(A:Option qb×Int×Int×Int×Int×z1'×Int×Int×Unit)=>letI g:=A.2.2.2;M.pure (V.next (A.1,A.2.1,A.2.2.1,g.1,g.2.1,g.2.2.1,g.2.2.2.1,IntKind.wrap .i64 (Add.add g.2.2.2.2.1 1),())))) else M.bind (M.pure (V.next (A.1,A.2.1,c.2.1,()))) λr=>M.pure (V.done r)) (x.1,x.2.1,x.2.2.1,x.2.2.2,0,e,Int.ofNat (List.length e),0,())))) (V.bm (λ(A:Option qb×Int×Int×Unit)=>letI d:=(Option.getD A.1 (([],[],0,[]),[])).2;M.ae (Option.isSome A.1=true) (M.ae (0<=A.2.1/\A.2.1<Int.ofNat (List.length d)) (M.bind (aiK (A.2.2.1,Int.ofNat (List.length (List.getD d (Int.toNat A.2.1) [])))) (λy=>M.pure y)))))
def aiL(x:z1'):M Bool:=
 M.bind (M.loop (λ(A:z1'×Int×Unit)=>letI c:=A.2.1;letI b:=IntKind.wrap .i64 (c-1);letI a:=Int.ofNat (List.length A.1);if decide (c<a)=true then M.ae (0<=c/\c<a) (M.ae (0<=b/\b<a) (if decide (List.getD A.1 (Int.toNat c) 0<=List.getD A.1 (Int.toNat b) 0)=true then M.bind (M.bind (M.pure false) (λr=>M.pure (V.done r))) λr=>M.pure (V.done r) else M.pure (V.next (A.1,IntKind.wrap .i64 (Add.add c 1),())))) else M.bind (M.pure (V.next ())) λr=>M.pure (V.done r)) (x,1,())) (V.bm (λ(A:Unit)=>M.pure true))
def aiM(x:Int×Int×Int):M Bool:=
 M.pure (decide (x.2.1<=x.1)&&decide (x.1<=x.2.2))
def UW(Dh:Int->M Bool)(MZ:Int×Int->M Bool)(x:Int×Int×Int×Int):M Bool:=
 M.bind (Dh x.1) λy=>M.bind (bS y (Dh x.2.1) false) λbJ=>M.bind (bS (y&&bJ) (MZ x.2.2) false) λdi=>M.pure (y&&bJ&&di)
def UX(oo:Int×Int×Int->M Bool)(x:Int):M Bool:=
 M.bind (oo (x,0,9)) λy=>M.pure y
def aiN(oo:Int×Int×Int->M Bool)(x:Int×Int):M Bool:=
 M.bind (oo (x.1,0,x.2)) λy=>M.pure (y&&decide (x.2<=999))
def UY(aiO:z1'->M Bool)(aiP:z1'×(Int->M Bool)->M Bool)(Dh:Int->M Bool)(MZ:Int×Int->M Bool)(x:Int×z1'×Int×Int):M Bool:=
 M.bind (Dh x.1) λy=>letI a:=y&&decide (Int.ofNat (List.length x.2.1)<=4);M.bind (bS a (aiP (x.2.1,Dh)) false) λbJ=>M.bind (bS (a&&bJ) (aiO x.2.1) false) λdi=>M.bind (bS (a&&bJ&&di) (MZ x.2.2) false) λfI=>M.pure (a&&bJ&&di&&fI)
def UZ(aiQ:List (Int×z1'×Int×Int)×(Int×z1'×Int×Int->M Bool)->M Bool)(x:List (Int×z1'×Int×Int)×Option (Int×z1'×Int×Int->M Bool)):M Bool:=
 letI a:=decide (Int.ofNat (List.length x.1)<=4);M.bind (bS a (aiQ (x.1,Option.getD x.2 λx=>{ b4:=False,bB:=λx=>False })) false) λy=>M.pure (a&&y)
def U0(h8:bb×Int->M Bool)(xC:bb×Int×Int->M Bool)(oo:Int×Int×Int->M Bool)(x:(Int×Int×Int×Int)×Option bb):M Bool:=
 letI a:=Option.getD x.2 ([],[],0,[]);M.bind (h8 (a,x.1.1)) λy=>M.bind (bS y (xC (a,x.1.2.1,x.1.2.2.1)) false) λbJ=>M.bind (bS (y&&bJ) (oo (x.1.2.2.2,0,1)) false) λdi=>M.pure (y&&bJ&&di)
def U1(GX:bb×Int×Int×Int×Int->M Bool)(x:(Int×Int×Int×Int)×Option Int×Option bb×Option Int):M Bool:=
 letI e:=Option.getD x.2.1 0;letI c:=decide (x.1.1≠e);letI b:=(Option.getD x.2.2.1 ([],[],0,[]),e,Option.getD x.2.2.2 0,x.1.2.1,x.1.2.2.1);letI a:=(!c)=true;letI d:=a->a/\True/\True;M.ae d (M.ae d (M.ae (a->(a/\a/\a/\a/\a/\True)/\(GX b).b4/\True) (M.ae d (M.ae (a->(a/\True)/\True/\True) (M.ae (a->(a/\a)/\True/\True) (M.ae (True/\(c=false->a)) (M.pure (c||decide (M.val (GX b) false=decide (x.1.2.2.2=1))))))))))
def U2(oo:Int×Int×Int->M Bool)(hl:z1'×Int->M Bool)(x:bb×Int×Int×Int×Int):M Bool:=
 letI e:=x.2.2.2;letI c:=List.getD x.1.2.1 (Int.toNat e.1) [];letI b:=List.getD x.1.1 (Int.toNat x.2.1) (0,0,0,0);letI a:=List.getD c (Int.toNat e.2) (0,[],0,0);letI d:=decide (b.1=a.1);M.ae (0<=x.2.1/\x.2.1<Int.ofNat (List.length x.1.1)) (M.ae (0<=e.1/\e.1<Int.ofNat (List.length x.1.2.1)) (M.ae (0<=e.2/\e.2<Int.ofNat (List.length c)) (M.bind (bS d (hl (a.2.1,b.2.1)) false) (λy=>M.bind (bS (d&&y) (oo (x.2.2.1,a.2.2.1,IntKind.wrap .i64 (Add.add a.2.2.2 x.1.2.2.1))) false) λbJ=>M.pure (d&&y&&bJ)))))
def U3(x:Int×Int):M Int:=
 if decide (x.1=x.2)=true then M.pure 1 else if decide (x.1=0)=true then M.pure 2 else M.pure 3
def M0(M1:z2'×List (List (Int×z1'×Int×Int))×Int×z2'->M Int)(x:z2'×List (List (Int×z1'×Int×Int))×Int×z2'):M Bool:=
 if (decide (Int.ofNat (List.length x.1) > 40)||decide (Int.ofNat (List.length x.2.1) > 40)||decide (Int.ofNat (List.length x.2.2.2) > 60))=true then M.pure true else M.bind (M.loop (λ(A:Int×bb×Unit)=>letI e:=A.1<Int.ofNat (List.length A.2.1.2.1);if decide e=true then M.bind (M.ae (0<=A.1/\e) (if decide (Int.ofNat (List.length (List.getD A.2.1.2.1 (Int.toNat A.1) [])) > 20)=true then M.bind (M.bind (M.bind (M.pure true) (λr=>M.pure (V.done r))) (λr=>M.pure (V.done r))) λr=>M.pure (V.done r) else M.loop (λ(A:Int×Int×bb×Unit)=>letI g:=A.2.2.1;letI c:=0<=A.1/\A.1<Int.ofNat (List.length g.2.1);letI a:=List.getD g.2.1 (Int.toNat A.1) [];letI f:=A.2.1<Int.ofNat (List.length a);M.ae c (if decide f=true then M.ae c (M.ae (0<=A.2.1/\f) (if decide (Int.ofNat (List.length (List.getD a (Int.toNat A.2.1) (0,[],0,0)).2.1) > 20)=true then M.bind (M.bind (M.bind (M.bind (M.pure true) (λr=>M.pure (V.done r))) (λr=>M.pure (V.done r))) (λr=>M.pure (V.done r))) λr=>M.pure (V.done r) else M.pure (V.next (A.1,IntKind.wrap .i64 (Add.add A.2.1 1),g,())))) else M.bind (M.pure (V.next (A.1,g,()))) λr=>M.pure (V.done r))) (A.1,0,A.2.1,()))) (V.bm (λ(A:Int×bb×Unit)=>M.pure (V.next (IntKind.wrap .i64 (Add.add A.1 1),A.2.1,())))) else M.bind (M.pure (V.next (A.2.1,()))) λr=>M.pure (V.done r)) (0,x,())) (V.bm (λ(A:bb×Unit)=>M.bind (M1 A.1) λy=>if decide (y≠0)=true then M.pure false else M.bind (M.loop (λ(A:Int×bb×Unit)=>letI d:=(List.getD A.2.1.1 (Int.toNat A.1) (0,0,0,0)).2.2;letI b:=A.1<Int.ofNat (List.length A.2.1.1);if decide b=true then M.ae (0<=A.1/\b) (M.ae (0<=A.1/\b) (if decide (IntKind.wrap .i64 (d.2-d.1)>=50)=true then M.bind (M.bind (M.pure true) (λr=>M.pure (V.done r))) λr=>M.pure (V.done r) else M.pure (V.next (IntKind.wrap .i64 (Add.add A.1 1),A.2.1,())))) else M.bind (M.pure (V.next (A.2.1,()))) λr=>M.pure (V.done r)) (0,A.1,())) (V.bm (λ(A:bb×Unit)=>M.pure (decide (Int.ofNat (List.length A.1.1) > 6)||decide (Int.ofNat (List.length A.1.2.1) > 4)||decide (Int.ofNat (List.length A.1.2.2.2) > 10))))))
def aiR(x:Unit):M bb:=
 M.pure ([(1,2,300,310),(1,3,305,305),(2,1,50,60),(1,2,320,330)],[[(1,[2,3],300,306),(2,[1],40,58)],[(1,[2],310,326)]],5,[(0,1,0,0)])
abbrev c_:Type:=Int×Int×Int×Int×z1'
abbrev dp:Type:=z1'×(Int×Int)×Int×Int×Int
abbrev Di:Type:=Int×Int×Int
abbrev bq:Type:=bb×z1'×List c_×List dp×List Di×Int
abbrev Sto:Type:=bq×z4'×z5'
def U4(aiS:bq×Bool->M (Int×Int))(x:bq):M (Int×Int):=
 M.bind (aiS (x,true)) λy=>M.pure y
def U5(oq:bq×Bool->M (Option Sto×Int))(aiT:Option Sto->Prop)(aiU:Option Sto->List (z1'))(M2:Option Sto×z1'->M (z3'×Bool))(aiV:Option Sto×z3'->M Bool)(M3:Option Sto×z3'->M Int)(x:bq):M (Int×Int):=
 M.bind (oq (x,true)) λy=>if decide (y.2≠0)=true then M.pure (0,y.2) else M.ae (aiT y.1) (M.bind (jx (λ(A:Option (bq×z4'×z5')×Int×Unit) (y:z1')=>M.bind (M.bind (M2 (A.1,y)) (λbJ=>M.bind (bS (!(!bJ.2)) (aiV (A.1,bJ.1)) false) λdi=>if (!bJ.2||!di)=true then M.pure (cO.normal,A.1,A.2.1,()) else M.bind (M3 (A.1,bJ.1)) λfI=>if (decide (A.2.1=-1)||decide (fI<A.2.1))=true then M.pure (cO.normal,A.1,fI,()) else M.pure (cO.normal,A.1,A.2.1,()))) λp=>M.pure (p.1,p.2.1,p.2.2.1,())) (aiU y.1) (y.1,-1,())) (λp=>letI a:=decide (p.2.2.1=-1)=true;rV (if a then M.pure (0,3) else M.pure (p.2.2.1,0)) (λid=>if id=0 then if a then M.pure (0,3) else M.pure (p.2.2.1,0) else M.fail) M.fail p.1))
def U6(oq:bq×Bool->M (Option Sto×Int))(Dj:bq×Int->M Bool)(M4:z1'×Int×Unit->M (z1'×Unit))(zU:Option Sto×z1'->M Bool)(x:bq×Int):M (z1'×Int):=
 M.ae (Dj x).b4 (M.ae (oq (x.1,M.val (Dj x) false)).b4 (if decide ((M.val (oq (x.1,M.val (Dj x) false)) (none,0)).2≠0)=true then M.pure ([],(M.val (oq (x.1,M.val (Dj x) false)) (none,0)).2) else M.bind (M4 ([-1],Int.ofNat (List.length x.1.2.2.2.1),())) λy=>M.bind (M.loop (λ(A:Int×Option ((bb×z1'×List c_×List dp×z3'×Int)×z4'×z5')×Int×Int×z1'×z1'×Unit)=>letI b:=A.2.2.2;letI a:=List.set b.2.2.1 (Int.toNat A.1) b.1;if decide (b.1<A.2.2.1)=true then M.bind (M.ae (0<=A.1/\A.1<Int.ofNat (List.length b.2.2.1)) (M.bind (zU (A.2.1,a)) (λy=>if y=true then M.ae (bX (Add.add (List.length b.2.1) (Add.add 0 1))) (M.pure (V.next (A.1,A.2.1,A.2.2.1,b.1,b.2.1++[b.1],a,()))) else M.pure (V.next (A.1,A.2.1,A.2.2.1,b.1,b.2.1,a,()))))) (V.bm (λ(A:Int×Option ((bb×z1'×List c_×List (z1'×(Int×Int)×Int×Int×Int)×z3'×Int)×z4'×z5')×Int×Int×z1'×z1'×Unit)=>M.pure (V.next (A.1,A.2.1,A.2.2.1,IntKind.wrap .i64 (Add.add A.2.2.2.1 1),A.2.2.2.2.1,A.2.2.2.2.2.1,())))) else M.bind (M.pure (V.next (b.2.1,()))) λr=>M.pure (V.done r)) (x.2,(M.val (oq (x.1,M.val (Dj x) false)) (none,0)).1,Int.ofNat (List.length x.1.2.2.1),0,[],y.1,())) (V.bm (λ(A:z1'×Unit)=>M.pure (A.1,0)))))
def U7(Dg:z2'×List (List (Int×z1'×Int×Int))×Int×z2'->M Int)(aiW:bq->M Bool)(x:bq):M Int:=
 M.bind (Dg x.1) λy=>if decide (y≠0)=true then M.pure y else M.bind (aiW x) λy=>if (!y)=true then M.pure 80 else M.pure 0
def U8(M1:z2'×List (List (Int×z1'×Int×Int))×Int×z2'->M Int)(nJ:Int×Int×Int->M Bool)(U9:bq×Int×Int×Int×Int×z1'->M Bool)(aiX:z1'×(Int×Int)×Int×Int×Int->M Bool)(x:bq):M Int:=
 letI a:=decide (Int.ofNat (List.length x.2.1)≠Int.ofNat (List.length x.1.1))||decide (Int.ofNat (List.length x.2.2.1) > 8)||decide (Int.ofNat (List.length x.2.2.2.1) > 6)||decide (Int.ofNat (List.length x.2.2.2.2.1) > 8);M.bind (M1 x.1) λy=>if decide (y≠0)=true then M.pure y else M.bind (bS (!a) (nJ (x.2.2.2.2.2,0,99)) false) λy=>if (a||!y)=true then M.pure 80 else M.bind (M.loop (λ(A:Int×(bb×z1'×List (Int×Int×Int×Int×z1')×List dp×z3'×Int)×Unit)=>letI g:=A.1<Int.ofNat (List.length A.2.1.2.1);if decide g=true then M.ae (0<=A.1/\g) (M.bind (nJ (List.getD A.2.1.2.1 (Int.toNat A.1) 0,0,10)) (λy=>if (!y)=true then M.bind (M.bind (M.pure 80) (λr=>M.pure (V.done r))) λr=>M.pure (V.done r) else M.pure (V.next (IntKind.wrap .i64 (Add.add A.1 1),A.2.1,())))) else M.bind (M.pure (V.next (A.2.1,()))) λr=>M.pure (V.done r)) (0,x,())) (V.bm (λ(A:(bb×z1'×List c_×List dp×z3'×Int)×Unit)=>M.bind (M.loop (λ(A:Int×(bb×z1'×List c_×List dp×z3'×Int)×Unit)=>letI f:=A.1<Int.ofNat (List.length A.2.1.2.2.1);letI c:=(A.2.1,List.getD A.2.1.2.2.1 (Int.toNat A.1) (0,0,0,0,[]));if decide f=true then M.ae (0<=A.1/\f) (M.ae (U9 c).b4 (if (!(M.val (U9 c) false))=true then M.bind (M.bind (M.pure 80) (λr=>M.pure (V.done r))) λr=>M.pure (V.done r) else M.pure (V.next (IntKind.wrap .i64 (Add.add A.1 1),A.2.1,())))) else M.bind (M.pure (V.next (A.2.1,()))) λr=>M.pure (V.done r)) (0,A.1,())) (V.bm (λ(A:(bb×z1'×List c_×List (z1'×(Int×Int)×Int×Int×Int)×z3'×Int)×Unit)=>M.bind (M.loop (λ(A:Int×(bb×z1'×List c_×List (z1'×(Int×Int)×Int×Int×Int)×z3'×Int)×Unit)=>letI e:=A.1<Int.ofNat (List.length A.2.1.2.2.2.1);if decide e=true then M.ae (0<=A.1/\e) (M.bind (aiX (List.getD A.2.1.2.2.2.1 (Int.toNat A.1) ([],(0,0),0,0,0))) (λy=>if (!y)=true then M.bind (M.bind (M.pure 80) (λr=>M.pure (V.done r))) λr=>M.pure (V.done r) else M.pure (V.next (IntKind.wrap .i64 (Add.add A.1 1),A.2.1,())))) else M.bind (M.pure (V.next (A.2.1,()))) λr=>M.pure (V.done r)) (0,A.1,())) (V.bm (λ(A:(bq)×Unit)=>M.bind (M.loop (λ(A:Int×(bb×z1'×List c_×List dp×z3'×Int)×Unit)=>letI d:=A.1<Int.ofNat (List.length A.2.1.2.2.2.2.1);letI b:=List.getD A.2.1.2.2.2.2.1 (Int.toNat A.1) (0,0,0);if decide d=true then M.ae (0<=A.1/\d) (M.bind (nJ (b.1,0,99)) (λy=>M.bind (bS (!(!y)) (nJ (b.2.1,0,IntKind.wrap .i64 (Int.ofNat (List.length A.2.1.1.1)-1))) false) λbJ=>M.bind (bS (!(!y||!bJ)) (nJ (b.2.2,1,10)) false) λdi=>if (!y||!bJ||!di)=true then M.bind (M.bind (M.pure 80) (λr=>M.pure (V.done r))) λr=>M.pure (V.done r) else M.pure (V.next (IntKind.wrap .i64 (Add.add A.1 1),A.2.1,())))) else M.bind (M.pure (V.next ())) λr=>M.pure (V.done r)) (0,A.1,())) (V.bm (λ(A:Unit)=>M.pure 0))))))))
def U_(oq:bq×Bool->M (Option Sto×Int))(zU:Option Sto×z1'->M Bool)(zV:bq×z1'->M Bool)(lE:Option Sto×z1'->M Int)(x:bq×z1'):M (Int×Int):=
 M.ae (zV x).b4 (M.ae (oq (x.1,M.val (zV x) false)).b4 (if decide ((M.val (oq (x.1,M.val (zV x) false)) (none,0)).2≠0)=true then M.pure (0,(M.val (oq (x.1,M.val (zV x) false)) (none,0)).2) else M.bind (zU ((M.val (oq (x.1,M.val (zV x) false)) (none,0)).1,x.2)) λy=>if (!y)=true then M.pure (0,3) else M.bind (lE ((M.val (oq (x.1,M.val (zV x) false)) (none,0)).1,x.2)) λy=>M.pure (y,0)))
def U'(oq:bq×Bool->M (Option Sto×Int))(aiY:Option Sto->M (z1'))(lE:Option Sto×z1'->M Int)(x:bq×Bool):M (Int×Int):=
 M.bind (oq x) λy=>if decide (y.2≠0)=true then M.pure (0,y.2) else M.bind (aiY y.1) λbJ=>M.bind (lE (y.1,bJ)) λy=>M.pure (y,0)
def M5(Dk:bq->M Int)(GY:bb×Int->M ((Int×Int)×Int))(va:bb×Int×Int×Int->M (Int×Int))(zW:z4'×Int->M (z4'))(x:bq×Bool):M (Option Sto×Int):=
 letI eD:=x.1.1.2;letI f1:=x.1.2.2;M.bind (Dk x.1) λy=>if decide (y≠0)=true then M.pure (none,y) else if (!x.2)=true then M.pure (none,1) else M.bind (if decide (Int.ofNat (List.length x.1.2.1) > 0)=true then M.bind (GY (x.1.1,0)) λy=>if decide (y.2≠0)=true then M.bind (M.pure (none,y.2)) λr=>M.pure (V.done r) else M.pure (V.next (x.1,[],x.1.1.1,eD.1,eD.2.1,eD.2.2,x.1.2.1,f1.1,f1.2.1,f1.2.2.1,f1.2.2.2,())) else M.pure (V.next (x.1,[],x.1.1.1,eD.1,eD.2.1,eD.2.2,x.1.2.1,f1.1,f1.2.1,f1.2.2.1,f1.2.2.2,()))) (V.bm (λ(A:(bb×z1'×List c_×List (z1'×(Int×Int)×Int×Int×Int)×z3'×Int)×z5'×z2'×List (List (Int×z1'×Int×Int))×Int×z2'×z1'×List c_×List (z1'×(Int×Int)×Int×Int×Int)×z3'×Int×Unit)=>letI t:=A.2.2.2.2.2;M.bind (M.loop (λ(A:Int×Int×(bb×z1'×List c_×List dp×z3'×Int)×z5'×z2'×List (List (Int×z1'×Int×Int))×Int×z2'×z1'×List c_×List (z1'×(Int×Int)×Int×Int×Int)×z3'×Int×Unit)=>letI c1:=A.2.2;letI h:=c1.2.2.2.2;letI g1:=h.2.2.2;if decide (A.2.1<A.1)=true then M.bind (M.loop (λ(A:Int×Int×Int×List (List (Int×z1'×Int×Int))×Int×Int×(bb×z1'×List c_×List (z1'×(Int×Int)×Int×Int×Int)×z3'×Int)×z5'×z2'×List (List (Int×z1'×Int×Int))×Int×z2'×z1'×List c_×List dp×z3'×Int×Unit)=>letI i1:=A.2.2.2;letI j:=i1.2.2;letI c:=j.2.2.2;letI o:=c.2.2.2.2;if decide (j.1<i1.2.1)=true then M.bind (M.ae (0<=j.1/\j.1<Int.ofNat (List.length i1.1)) (M.loop (λ(A:Int×Int×Int×Int×List (List (Int×z1'×Int×Int))×Int×Int×Int×Int×(bb×z1'×List c_×List dp×z3'×Int)×z5'×z2'×List (List (Int×z1'×Int×Int))×Int×z2'×z1'×List (Int×Int×Int×Int×z1')×List dp×z3'×Int×Unit)=>letI m1:=A.2.2;letI k:=m1.2.2;letI o1:=k.2.2;letI a:=o1.2.2;letI w:=a.2.2.2;letI f:=w.2.2.2;letI d1:=f.2.2.2;if decide (a.1<o1.2.1)=true then M.bind (M.bind (va (a.2.1.1,A.1,A.2.1,a.1)) (λy=>if decide (y.1=1)=true then M.ae True (M.ae (True/\True/\True) (M.ae True (M.pure (V.next (A.1,A.2.1,m1.1,m1.2.1,k.1,k.2.1,o1.1,o1.2.1,a.1,a.2.1,u' a.2.2.1 (A.1,A.2.1,a.1) (IntKind.wrap .i64 (Add.add (Option.getD (Option.map (λx=>x.2) (List.find? (λp=>decide (A.1=p.1.1)&&(decide (A.2.1=p.1.2.1)&&decide (a.1=p.1.2.2))) a.2.2.1)) 0) 1)),w.1,w.2.1,w.2.2.1,f.1,f.2.1,f.2.2.1,d1.1,d1.2.1,d1.2.2.1,()))))) else M.pure (V.next (A.1,A.2.1,m1.1,m1.2.1,k.1,k.2.1,o1.1,o1.2.1,a.1,a.2.1,a.2.2.1,w.1,w.2.1,w.2.2.1,f.1,f.2.1,f.2.2.1,d1.1,d1.2.1,d1.2.2.1,())))) (V.bm (λ(A:Int×Int×Int×Int×List (List (Int×z1'×Int×Int))×Int×Int×Int×Int×bq×z5'×z2'×List (List (Int×z1'×Int×Int))×Int×z2'×z1'×List c_×List dp×z3'×Int×Unit)=>letI e1:=A.2.2.2.2.2;letI g:=e1.2.2.2.2;letI z:=g.2.2.2.2.2;M.pure (V.next (A.1,A.2.1,A.2.2.1,A.2.2.2.1,A.2.2.2.2.1,e1.1,e1.2.1,e1.2.2.1,IntKind.wrap .i64 (Add.add e1.2.2.2.1 1),g.1,g.2.1,g.2.2.1,g.2.2.2.1,g.2.2.2.2.1,z.1,z.2.1,z.2.2.1,z.2.2.2.1,z.2.2.2.2.1,z.2.2.2.2.2.1,())))) else M.bind (M.pure (V.next (A.1,m1.1,m1.2.1,k.1,k.2.1,o1.1,a.2.1,a.2.2.1,w.1,w.2.1,w.2.2.1,f.1,f.2.1,f.2.2.1,d1.1,d1.2.1,d1.2.2.1,()))) λr=>M.pure (V.done r)) (A.1,j.1,A.2.1,A.2.2.1,i1.1,i1.2.1,j.1,Int.ofNat (List.length (List.getD i1.1 (Int.toNat j.1) [])),0,j.2.1,j.2.2.1,c.1,c.2.1,c.2.2.1,c.2.2.2.1,o.1,o.2.1,o.2.2.1,o.2.2.2.1,o.2.2.2.2.1,()))) (V.bm (λ(A:Int×Int×Int×List (List (Int×z1'×Int×Int))×Int×Int×(bb×z1'×List c_×List dp×z3'×Int)×z5'×z2'×List (List (Int×z1'×Int×Int))×Int×z2'×z1'×List c_×List (z1'×(Int×Int)×Int×Int×Int)×z3'×Int×Unit)=>letI h1:=A.2.2.2.2;letI i:=h1.2.2.2.2;letI aM:=i.2.2.2.2;M.pure (V.next (A.1,A.2.1,A.2.2.1,A.2.2.2.1,h1.1,IntKind.wrap .i64 (Add.add h1.2.1 1),h1.2.2.1,h1.2.2.2.1,i.1,i.2.1,i.2.2.1,i.2.2.2.1,aM.1,aM.2.1,aM.2.2.1,aM.2.2.2.1,aM.2.2.2.2.1,())))) else M.bind (M.pure (V.next (A.2.1,A.2.2.1,j.2.1,j.2.2.1,c.1,c.2.1,c.2.2.1,c.2.2.2.1,o.1,o.2.1,o.2.2.1,o.2.2.2.1,o.2.2.2.2.1,()))) λr=>M.pure (V.done r)) (A.2.1,A.1,A.2.1,c1.1.1.2.1,Int.ofNat (List.length c1.1.1.2.1),0,c1.1,c1.2.1,c1.2.2.1,c1.2.2.2.1,h.1,h.2.1,h.2.2.1,g1.1,g1.2.1,g1.2.2.1,g1.2.2.2.1,())) (V.bm (λ(A:Int×Int×(bb×z1'×List c_×List (z1'×(Int×Int)×Int×Int×Int)×z3'×Int)×z5'×z2'×List (List (Int×z1'×Int×Int))×Int×z2'×z1'×List c_×List (z1'×(Int×Int)×Int×Int×Int)×z3'×Int×Unit)=>letI jt:=A.2.2.2;letI m:=jt.2.2.2;M.pure (V.next (A.1,IntKind.wrap .i64 (Add.add A.2.1 1),A.2.2.1,jt.1,jt.2.1,jt.2.2.1,m.1,m.2.1,m.2.2.1,m.2.2.2.1,m.2.2.2.2.1,m.2.2.2.2.2.1,m.2.2.2.2.2.2.1,())))) else M.bind (M.pure (V.next (c1.1,c1.2.1,c1.2.2.1,c1.2.2.2.1,h.1,h.2.1,h.2.2.1,g1.1,g1.2.1,g1.2.2.1,g1.2.2.2.1,()))) λr=>M.pure (V.done r)) (Int.ofNat (List.length A.1.2.1),0,A.1,A.2.1,A.2.2.1,A.2.2.2.1,A.2.2.2.2.1,t.1,t.2.1,t.2.2.1,t.2.2.2.1,t.2.2.2.2.1,t.2.2.2.2.2.1,())) (V.bm (λ(A:(bb×z1'×List (Int×Int×Int×Int×z1')×List dp×z3'×Int)×z5'×z2'×List (List (Int×z1'×Int×Int))×Int×z2'×z1'×List (Int×Int×Int×Int×z1')×List dp×z3'×Int×Unit)=>letI u:=A.2.2.2.2.2;M.bind (M.loop (λ(A:z1'×Int×Int×(bb×z1'×List c_×List dp×z3'×Int)×z5'×z2'×List (List (Int×z1'×Int×Int))×Int×z2'×z1'×List (Int×Int×Int×Int×z1')×List dp×z3'×Int×z4'×Unit)=>letI l:=A.2.2;letI xD:=l.2.2.2;letI n:=List.getD A.1 (Int.toNat l.1) 0;letI d:=xD.2.2.2;letI bT:=d.2.2.2.2;if decide (l.1<A.2.1)=true then M.ae (0<=l.1/\l.1<Int.ofNat (List.length A.1)) (M.ae True (M.ae (zW ([(l.1,0)],n)).b4 (M.ae (bX (Add.add (List.length bT.2.2.1) (List.length (M.val (zW ([(l.1,0)],n)) [])))) (M.ae True (M.pure (V.next (A.1,A.2.1,IntKind.wrap .i64 (Add.add l.1 1),l.2.1,l.2.2.1,xD.1,xD.2.1,xD.2.2.1,d.1,d.2.1,d.2.2.1,d.2.2.2.1,bT.1,bT.2.1,bT.2.2.1++M.val (zW ([(l.1,0)],n)) [],()))))))) else M.bind (M.pure (V.next (l.2.1,l.2.2.1,xD.1,xD.2.1,xD.2.2.1,d.1,d.2.1,d.2.2.1,d.2.2.2.1,bT.1,bT.2.1,bT.2.2.1,()))) λr=>M.pure (V.done r)) (A.1.2.1,Int.ofNat (List.length A.1.2.1),0,A.1,A.2.1,A.2.2.1,A.2.2.2.1,A.2.2.2.2.1,u.1,u.2.1,u.2.2.1,u.2.2.2.1,u.2.2.2.2.1,u.2.2.2.2.2.1,[],())) (V.bm (λ(A:(bb×z1'×List c_×List (z1'×(Int×Int)×Int×Int×Int)×z3'×Int)×z5'×z2'×List (List (Int×z1'×Int×Int))×Int×z2'×z1'×List c_×List dp×z3'×Int×z4'×Unit)=>letI q:=A.2.2.2.2.2;M.bind (M.loop (λ(A:z3'×Int×Int×z5'×z2'×List (List (Int×z1'×Int×Int))×Int×z2'×z1'×List (Int×Int×Int×Int×z1')×List dp×z3'×Int×z4'×Unit)=>letI s:=A.2.2;letI dF:=s.2.2.2;letI e:=dF.2.2;letI dr:=e.2.2.2.2;letI b:=List.getD A.1 (Int.toNat s.1) (0,0,0);letI c8:=(b.2.1,b.1);if decide (s.1<A.2.1)=true then M.ae (0<=s.1/\s.1<Int.ofNat (List.length A.1)) (M.ae True (M.ae (zW ([c8],b.2.2)).b4 (M.ae (bX (Add.add (List.length dr.2.2.1) (List.length (M.val (zW ([c8],b.2.2)) [])))) (M.ae True (M.pure (V.next (A.1,A.2.1,IntKind.wrap .i64 (Add.add s.1 1),s.2.1,s.2.2.1,dF.1,dF.2.1,e.1,e.2.1,e.2.2.1,e.2.2.2.1,dr.1,dr.2.1,dr.2.2.1++M.val (zW ([c8],b.2.2)) [],()))))))) else M.bind (M.pure (V.next (s.2.1,s.2.2.1,dF.1,dF.2.1,e.1,e.2.1,e.2.2.1,e.2.2.2.1,dr.1,dr.2.1,dr.2.2.1,()))) λr=>M.pure (V.done r)) (A.1.2.2.2.2.1,Int.ofNat (List.length A.1.2.2.2.2.1),0,A.2.1,A.2.2.1,A.2.2.2.1,A.2.2.2.2.1,q.1,q.2.1,q.2.2.1,q.2.2.2.1,q.2.2.2.2.1,q.2.2.2.2.2.1,q.2.2.2.2.2.2.1,())) (V.bm (λ(A:z5'×z2'×List (List (Int×z1'×Int×Int))×Int×z2'×z1'×List (Int×Int×Int×Int×z1')×List dp×z3'×Int×z4'×Unit)=>letI v:=A.2.2.2.2.2;M.pure (some (((A.2.1,A.2.2.1,A.2.2.2.1,A.2.2.2.2.1),v.1,v.2.1,v.2.2.1,v.2.2.2.1,v.2.2.2.2.1),v.2.2.2.2.2.1,A.1),0)))))))))
def M6(GZ:(z1'×(Int×Int)×Int×Int×Int)×Int×Int×Int×Int×z1'->M Int)(x:Option Sto×z1'):M (z3'×Bool):=
 M.bind (M.loop (λ(A:Option ((bb×z1'×List c_×List dp×z3'×Int)×z4'×z5')×z1'×Int×Int×z3'×Unit)=>letI l:=A.2;letI g:=Option.isSome A.1=true;letI e:=l.2.2;letI j:=Int.toNat e.1;letI b:=List.getD l.1 j 0;letI a:=(Option.getD A.1 ((([],[],0,[]),[],[],[],[],0),[],[])).1.2.2;letI f:=List.getD a.1 (Int.toNat b) (0,0,0,0,[]);letI d:=List.getD a.2.1 j ([],(0,0),0,0,0);if decide (e.1<l.2.1)=true then M.bind (M.ae (0<=e.1/\e.1<Int.ofNat (List.length l.1)) (if decide (List.getD l.1 j (0:Int)<0)=true then M.pure (V.next (A.1,l.1,l.2.1,e.1,e.2.1,())) else M.ae g (M.ae (0<=e.1/\e.1<Int.ofNat (List.length a.2.1)) (M.ae g (M.ae (0<=b/\b<Int.ofNat (List.length a.1)) (M.bind (M.bind (GZ (d,f)) (λy=>if decide (y=0)=true then M.bind (M.bind (M.bind (M.bind (M.pure ([],false)) (λr=>M.pure (V.done r))) (λr=>M.pure (V.done r))) (λr=>M.pure (V.done r))) λr=>M.pure (V.done r) else if decide (y=2)=true then M.ae g (M.pure (V.next (A.1,IntKind.wrap .i64 (d.2.2.2.1-a.2.2.2),l.1,l.2.1,e.1,e.2.1,f,()))) else M.pure (V.next (A.1,d.2.2.2.1,l.1,l.2.1,e.1,e.2.1,f,())))) (V.bm (λ(A:Option ((bb×z1'×List c_×List (z1'×(Int×Int)×Int×Int×Int)×z3'×Int)×z4'×z5')×Int×z1'×Int×Int×z3'×(Int×Int×Int×Int×z1')×Unit)=>letI h:=A.2.2.2.2;if decide (A.2.1<0)=true then M.bind (M.bind (M.bind (M.pure ([],false)) (λr=>M.pure (V.done r))) (λr=>M.pure (V.done r))) λr=>M.pure (V.done r) else M.loop (λ(A:Option ((bb×z1'×List c_×List dp×z3'×Int)×z4'×z5')×Int×z1'×Int×Int×z1'×Int×Int×z3'×(Int×Int×Int×Int×z1')×Unit)=>letI k:=A.2.2.2;letI c:=k.2.2;letI i:=c.2.2;if decide (i.1<c.2.1)=true then M.ae (0<=i.1/\i.1<Int.ofNat (List.length c.1)) (M.ae (bX (Add.add (List.length i.2.1) (Add.add 0 1))) (M.pure (V.next (A.1,A.2.1,A.2.2.1,k.1,k.2.1,c.1,c.2.1,IntKind.wrap .i64 (Add.add i.1 1),i.2.1++[(i.2.2.1.2.2.2.1,List.getD c.1 (Int.toNat i.1) 0,A.2.1)],i.2.2.1,())))) else M.bind (M.pure (V.next (A.1,A.2.2.1,k.1,k.2.1,i.2.1,()))) λr=>M.pure (V.done r)) (A.1,A.2.1,A.2.2.1,A.2.2.2.1,h.1,h.2.2.1.2.2.2.2,Int.ofNat (List.length h.2.2.1.2.2.2.2),0,h.2.1,h.2.2.1,()))))))))) (V.bm (λ(A:Option (bq×z4'×z5')×z1'×Int×Int×z3'×Unit)=>M.pure (V.next (A.1,A.2.1,A.2.2.1,IntKind.wrap .i64 (Add.add A.2.2.2.1 1),A.2.2.2.2.1,())))) else M.bind (M.pure (V.next (e.2.1,()))) λr=>M.pure (V.done r)) (x.1,x.2,Int.ofNat (List.length x.2),0,[],())) (V.bm (λ(A:z3'×Unit)=>M.pure (A.1,true)))
def M7(G0:Option Sto×(Int×Int)×Int×Int×Int->M Bool)(x:Option Sto×z3'):M Bool:=
 M.bind (M.loop (λ(A:Option ((bb×z1'×List c_×List dp×z3'×Int)×z4'×z5')×z3'×Int×Int×Unit)=>letI b:=A.2.2.2.1;if decide (b<A.2.2.1)=true then M.bind (M.ae (0<=b/\b<Int.ofNat (List.length A.2.1)) (M.bind (M.ae (Option.isSome A.1=true) (M.loop (λ(A:Option ((bq)×z4'×z5')×Bool×z3'×Int×Int×Int×Int×(Int×Int×Int)×Unit)=>letI a:=A.2.2.2.2;if decide (a.2.2.1<a.2.1)=true then M.bind (bS (!A.2.1) (G0 (A.1,(a.2.2.1,0),a.2.2.2.1)) false) λy=>M.pure (V.next (A.1,A.2.1||y,A.2.2.1,A.2.2.2.1,a.1,a.2.1,IntKind.wrap .i64 (Add.add a.2.2.1 1),a.2.2.2.1,())) else M.bind (M.pure (V.next (A.1,A.2.1,A.2.2.1,A.2.2.2.1,a.1,()))) λr=>M.pure (V.done r)) (A.1,false,A.2.1,A.2.2.1,b,Int.ofNat (List.length (Option.getD A.1 ((([],[],0,[]),[],[],[],[],0),[],[])).1.2.1),0,List.getD A.2.1 (Int.toNat b) (0,0,0),()))) (V.bm (λ(A:Option ((bb×z1'×List c_×List (z1'×(Int×Int)×Int×Int×Int)×z3'×Int)×z4'×z5')×Bool×z3'×Int×Int×Unit)=>if (!A.2.1)=true then M.bind (M.bind (M.bind (M.pure false) (λr=>M.pure (V.done r))) (λr=>M.pure (V.done r))) λr=>M.pure (V.done r) else M.pure (V.next (A.1,A.2.2.1,A.2.2.2.1,A.2.2.2.2.1,())))))) (V.bm (λ(A:Option ((bb×z1'×List (Int×Int×Int×Int×z1')×List dp×z3'×Int)×z4'×z5')×z3'×Int×Int×Unit)=>M.pure (V.next (A.1,A.2.1,A.2.2.1,IntKind.wrap .i64 (Add.add A.2.2.2.1 1),())))) else M.bind (M.pure (V.next ())) λr=>M.pure (V.done r)) (x.1,x.2,Int.ofNat (List.length x.2),0,())) (V.bm (λ(A:Unit)=>M.pure true))
def M8(M4:z1'×Int×Unit->M (z1'×Unit))(M9:Option Sto×z3'×Int×z4'×z1'×Unit->M (Bool×z4'×z1'×Unit))(x:Option Sto×z3'):M Int:=
 M.ae (Option.isSome x.1=true) (M.bind (M4 ([-1],Int.ofNat (List.length (Option.getD x.1 ((([],[],0,[]),[],[],[],[],0),[],[])).2.1),())) (λy=>M.bind (M.loop (λ(A:Option ((bb×z1'×List c_×List (z1'×(Int×Int)×Int×Int×Int)×z3'×Int)×z4'×z5')×z3'×Int×Int×Int×z1'×Unit)=>letI a:=A.2.2.2;if decide (a.2.1<a.1)=true then M.bind (M.bind (M9 (A.1,A.2.1,a.2.1,[],a.2.2.1,())) (λy=>if (!y.1)=true then M.pure (V.next (A.1,A.2.1,IntKind.wrap .i64 (Add.add A.2.2.1 1),a.1,a.2.1,y.2.2.1,())) else M.pure (V.next (A.1,A.2.1,A.2.2.1,a.1,a.2.1,y.2.2.1,())))) (V.bm (λ(A:Option ((bb×z1'×List (Int×Int×Int×Int×z1')×List dp×z3'×Int)×z4'×z5')×z3'×Int×Int×Int×z1'×Unit)=>M.pure (V.next (A.1,A.2.1,A.2.2.1,A.2.2.2.1,IntKind.wrap .i64 (Add.add A.2.2.2.2.1 1),A.2.2.2.2.2.1,())))) else M.bind (M.pure (V.next (A.2.2.1,()))) λr=>M.pure (V.done r)) (x.1,x.2,0,Int.ofNat (List.length x.2),0,y.1,())) (V.bm (λ(A:Int×Unit)=>M.pure A.1))))
def Va(kj:Int×Int×Int->M Bool)(x:bq×Int):M Bool:=
 M.bind (kj (x.2,0,IntKind.wrap .i64 (Int.ofNat (List.length x.1.2.2.2.1)-1))) λy=>M.pure y
def aiZ(xE:Int×Int->M (Int×Int))(x:z1'×Int):M (z1'):=
 M.bind (if decide (x.2<0)=true then M.ae False (M.ae False (M.pure (V.next (x.1,x.2,())))) else M.pure (V.next (x.1,x.2,()))) (V.bm (λ(A:z1'×Int×Unit)=>M.bind (xE (IntKind.wrap .u64 (Int.ofNat (List.length A.1)),IntKind.wrap .u64 A.2.1)) λy=>M.bind (if (decide (y.1 > 0)||decide (y.2 > 9223372036854775807))=true then M.ae False (M.ae False (M.pure (V.next (A.1,y.2,())))) else M.pure (V.next (A.1,y.2,()))) (V.bm (λ(A:z1'×Int×Unit)=>letI b:=IntKind.wrap .i64 A.2.1;letI f:=Int.toNat b;letI e:=List.take (List.length (List.replicate f (0:Int))-0) A.1;M.ae (0<=b/\b=b/\bX f) (M.ae True (M.bind (M.loop (λ(A:Int×z1'×Unit)=>letI g:=Int.toNat A.1;letI c:=List.take g A.2.1;letI a:=Int.ofNat (List.length A.2.1);letI d:=Int.toNat a-g;if decide (A.1<a)=true then M.ae (0<=A.1/\A.1<=a/\a<=a) (M.ae ((0:Int)<=0/\0<=A.1/\A.1<=a) (M.ae True (M.pure (V.next (IntKind.wrap .i64 (Add.add A.1 (Int.ofNat (if d<=List.length c then d else List.length c))),c++List.take d c++List.drop (Add.add g (List.length (List.take d c))) A.2.1,()))))) else M.bind (M.pure (V.next (A.2.1,()))) λr=>M.pure (V.done r)) (Int.ofNat (if List.length (List.replicate f (0:Int))-0<=List.length A.1 then List.length (List.replicate f (0:Int))-0 else List.length A.1),[]++e++List.drop (Add.add 0 (List.length e)) (List.replicate f (0:Int)),())) (V.bm (λ(A:z1'×Unit)=>M.pure A.1))))))))
def Vb(M2:Option Sto×z1'->M (z3'×Bool))(M3:Option Sto×z3'->M Int)(x:Option Sto×z1'):M Bool:=
 M.bind (M2 x) λy=>M.bind (bS y.2 (M3 (x.1,y.1)) 0) λbJ=>M.pure (y.2&&decide (bJ=0))
def Vc(Dl:Int->M Bool)(M_:z1'×(Int->M Bool)->M Bool)(ai0:List c_×(Int×Int×Int×Int×z1'->M Bool)->M Bool)(ai1:List dp×(z1'×(Int×Int)×Int×Int×Int->M Bool)->M Bool)(ai2:z3'×(Int×Int×Int->M Bool)->M Bool)(ai3:(Int×Int×Int×Int×z1')×Option bb->M Bool)(ai4:(Int×Int×Int)×Option bb->M Bool)(ai5:z1'×(Int×Int)×Int×Int×Int->M Bool)(ai6:Int->M Bool)(x:bq):M Bool:=
 letI e:=x.2.2.2;letI b:=decide (Int.ofNat (List.length x.2.1)=Int.ofNat (List.length x.1.1));M.bind (bS b (M_ (x.2.1,ai6)) false) λy=>letI d:=b&&!y&&decide (Int.ofNat (List.length x.2.2.1)<=8);M.bind (bS d (ai0 (x.2.2.1,λgZ=>ai3 (gZ,some x.1))) false) λbJ=>letI a:=d&&!bJ&&decide (Int.ofNat (List.length e.1)<=6);M.bind (bS a (ai1 (e.1,ai5)) false) λdi=>letI c:=a&&!di&&decide (Int.ofNat (List.length e.2.1)<=8);M.bind (bS c (ai2 (e.2.1,λgZ=>ai4 (gZ,some x.1))) false) λfI=>M.bind (bS (c&&!fI) (Dl e.2.2) false) λl7=>M.pure (c&&!fI&&l7)
def ai7(x:Int×Int×Int):M Bool:=
 M.pure (decide (x.2.1<=x.1)&&decide (x.1<=x.2.2))
def Vd(nJ:Int×Int×Int->M Bool)(G1:z1'×Int->M Bool)(x:bq×Int×Int×Int×Int×z1'):M Bool:=
 letI c:=x.2.2.2.2;letI b:=Int.ofNat (List.length x.1.1.2.1);letI a:=(c.2,IntKind.wrap .i64 (Int.ofNat (List.length (List.getD x.1.1.2.1 (Int.toNat c.1) []))-1));M.bind (nJ (x.2.1,0,99)) λy=>M.bind (bS (!(!y)) (nJ (x.2.2.1,0,99)) false) λbJ=>M.bind (bS (!(!y||!bJ)) (nJ (x.2.2.2.1,0,99)) false) λdi=>M.bind (bS (!(!y||!bJ||!di)) (nJ (c.1,0,IntKind.wrap .i64 (b-1))) false) λfI=>if (!y||!bJ||!di||!fI)=true then M.pure false else M.ae (0<=c.1/\c.1<b) (M.ae (G1 a).b4 (M.pure (M.val (G1 a) false)))
def Ve(nJ:Int×Int×Int->M Bool)(G1:z1'×Int->M Bool)(x:z1'×(Int×Int)×Int×Int×Int):M Bool:=
 M.bind (nJ (Int.ofNat (List.length x.1),1,8)) λy=>M.bind (bS y (G1 (x.1,99)) false) λbJ=>letI a:=y&&bJ&&decide (0<=x.2.1.1)&&decide (x.2.1.1<=x.2.1.2)&&decide (x.2.1.2<=99);M.bind (bS a (nJ (x.2.2.1,0,99)) false) λdi=>M.bind (bS (a&&di) (nJ (x.2.2.2.1,0,99)) false) λfI=>M.bind (bS (a&&di&&fI) (nJ (x.2.2.2.2,0,100000)) false) λl7=>M.pure (a&&di&&fI&&l7)
def Vf(kj:Int×Int×Int->M Bool)(x:bq×Int):M Bool:=
 M.bind (kj (x.2,0,IntKind.wrap .i64 (Int.ofNat (List.length x.1.2.2.1)-1))) λy=>M.pure y
def Vg(kj:Int×Int×Int->M Bool)(hl:z1'×Int->M Bool)(x:(z1'×(Int×Int)×Int×Int×Int)×Int×Int×Int×Int×z1'):M Int:=
 M.bind (hl (x.1.1,x.2.1)) λy=>M.bind (bS (!(!y)) (kj (x.2.2.1,x.1.2.1)) false) λbJ=>if (!y||!bJ)=true then M.pure 0 else if decide (x.2.2.2.1=x.1.2.2.1)=true then M.pure 1 else if decide (x.2.2.2.1=0)=true then M.pure 2 else M.pure 0
def M'(ai8:z1'×Int->M (z1'))(zU:Option Sto×z1'->M Bool)(lE:Option Sto×z1'->M Int)(ai9:Option Sto->Prop)(ai_:Option Sto->List (z1'))(x:Option Sto):M (z1'):=
 M.ae (Option.isSome x=true) (M.bind (ai8 ([-1],Int.ofNat (List.length (Option.getD x ((([],[],0,[]),[],[],[],[],0),[],[])).1.2.2.2.1))) (λy=>M.ae (ai9 x) (M.bind (jx (λ(A:Option ((bb×z1'×List c_×List (z1'×(Int×Int)×Int×Int×Int)×z3'×Int)×z4'×z5')×z1'×Unit) (y:z1')=>letI b:=(A.1,y);letI a:=(A.1,A.2.1);M.bind (M.ae (lE b).b4 (M.ae (lE a).b4 (M.ae (decide (M.val (lE b) 0 > M.val (lE a) 0)=true->(decide (M.val (lE b) 0 > M.val (lE a) 0)=true/\decide (M.val (lE b) 0 > M.val (lE a) 0)=true/\True)/\(zU b).b4/\True) (M.ae (True/\(decide (M.val (lE b) 0 > M.val (lE a) 0)=true->decide (M.val (lE b) 0 > M.val (lE a) 0)=true)) (if (decide (M.val (lE b) 0 > M.val (lE a) 0)&&M.val (zU b) false)=true then M.pure (cO.normal,A.1,y,()) else M.pure (cO.normal,A.1,A.2.1,())))))) λp=>M.pure (p.1,p.2.1,p.2.2.1,())) (ai_ x) (x,y,())) (λp=>rV (M.pure p.2.2.1) (λid=>if id=0 then M.pure p.2.2.1 else M.fail) M.fail p.1))))
def Vh(ai':bq×Int->M Bool)(hl:z1'×Int->M Bool)(x:bq×z1'):M Bool:=
 M.bind (M.loop (λ(A:z1'×z1'×Int×Int×(bb×z1'×List c_×List (z1'×(Int×Int)×Int×Int×Int)×z3'×Int)×Unit)=>letI e:=A.2.2;letI b:=e.2.1;letI c:=Int.toNat b;letI f:=List.getD A.2.1 c 0;letI a:=decide (List.getD A.2.1 c (0:Int)≠-1);if decide (b<e.1)=true then M.ae (0<=b/\b<Int.ofNat (List.length A.2.1)) (M.bind (bS a (ai' (e.2.2.1,f)) false) (λy=>letI d:=(a&&!(!y))=true;M.ae (d->(d/\True/\d)/\((0:Int)<=0/\0<=b/\b<=Int.ofNat (List.length A.1))/\True) (M.bind (bS (a&&!(!y)) (hl (List.take c A.1,f)) false) (λbJ=>if (a&&(!y||bJ))=true then M.bind (M.bind (M.pure false) (λr=>M.pure (V.done r))) λr=>M.pure (V.done r) else M.pure (V.next (A.1,A.2.1,e.1,IntKind.wrap .i64 (Add.add b 1),e.2.2.1,())))))) else M.bind (M.pure (V.next (A.1,e.2.2.1,()))) λr=>M.pure (V.done r)) (x.2,x.2,Int.ofNat (List.length x.2),0,x.1,())) (V.bm (λ(A:z1'×(bb×z1'×List c_×List dp×z3'×Int)×Unit)=>M.pure (decide (Int.ofNat (List.length A.1)=Int.ofNat (List.length A.2.1.2.2.2.1)))))
def Na(x:Option Sto×z1'):M Int:=
 M.bind (M.loop (λ(A:Option ((bb×z1'×List c_×List dp×z3'×Int)×z4'×z5')×Int×z1'×Int×Int×Unit)=>letI c:=A.2.2;letI b:=(Option.getD A.1 ((([],[],0,[]),[],[],[],[],0),[],[])).1.2.2.2.1;letI a:=c.2.2.1;if decide (a<c.2.1)=true then M.bind (M.ae (0<=a/\a<Int.ofNat (List.length c.1)) (if decide (List.getD c.1 (Int.toNat a) (0:Int)≠-1)=true then M.ae (Option.isSome A.1=true) (M.ae (0<=a/\a<Int.ofNat (List.length b)) (M.pure (V.next (A.1,IntKind.wrap .i64 (Add.add A.2.1 (List.getD b (Int.toNat a) ([],(0,0),0,0,0)).2.2.2.2),c.1,c.2.1,a,())))) else M.pure (V.next (A.1,A.2.1,c.1,c.2.1,a,())))) (V.bm (λ(A:Option ((bb×z1'×List (Int×Int×Int×Int×z1')×List dp×z3'×Int)×z4'×z5')×Int×z1'×Int×Int×Unit)=>M.pure (V.next (A.1,A.2.1,A.2.2.1,A.2.2.2.1,IntKind.wrap .i64 (Add.add A.2.2.2.2.1 1),())))) else M.bind (M.pure (V.next (A.2.1,()))) λr=>M.pure (V.done r)) (x.1,0,x.2,Int.ofNat (List.length x.2),0,())) (V.bm (λ(A:Int×Unit)=>M.pure A.1))
def aja(xE:Int×Int->M (Int×Int))(x:z4'×Int):M (z4'):=
 M.bind (if decide (x.2<0)=true then M.ae False (M.ae False (M.pure (V.next (x.1,x.2,())))) else M.pure (V.next (x.1,x.2,()))) (V.bm (λ(A:z4'×Int×Unit)=>M.bind (xE (IntKind.wrap .u64 (Int.ofNat (List.length A.1)),IntKind.wrap .u64 A.2.1)) λy=>M.bind (if (decide (y.1 > 0)||decide (y.2 > 9223372036854775807))=true then M.ae False (M.ae False (M.pure (V.next (A.1,y.2,())))) else M.pure (V.next (A.1,y.2,()))) (V.bm (λ(A:z4'×Int×Unit)=>letI b:=IntKind.wrap .i64 A.2.1;letI f:=Int.toNat b;letI d:=List.take (List.length (List.replicate f ((0:Int),(0:Int)))-0) A.1;M.ae (0<=b/\b=b/\bX f) (M.ae True (M.bind (M.loop (λ(A:Int×z4'×Unit)=>letI g:=Int.toNat A.1;letI c:=List.take g A.2.1;letI a:=Int.ofNat (List.length A.2.1);letI e:=Int.toNat a-g;if decide (A.1<a)=true then M.ae (0<=A.1/\A.1<=a/\a<=a) (M.ae ((0:Int)<=0/\0<=A.1/\A.1<=a) (M.ae True (M.pure (V.next (IntKind.wrap .i64 (Add.add A.1 (Int.ofNat (if e<=List.length c then e else List.length c))),c++List.take e c++List.drop (Add.add g (List.length (List.take e c))) A.2.1,()))))) else M.bind (M.pure (V.next (A.2.1,()))) λr=>M.pure (V.done r)) (Int.ofNat (if List.length (List.replicate f ((0:Int),(0:Int)))-0<=List.length A.1 then List.length (List.replicate f ((0:Int),(0:Int)))-0 else List.length A.1),[]++d++List.drop (Add.add 0 (List.length d)) (List.replicate f ((0:Int),(0:Int))),())) (V.bm (λ(A:z4'×Unit)=>M.pure A.1))))))))
def Vi(x:Option Sto×(Int×Int)×Int×Int×Int):M Bool:=
 letI c:=decide (x.2.1.2<=x.2.2.2.2);letI a:=c=true;letI b:=a->a/\True/\True;M.ae (a->a/\Option.isSome x.1=true/\True) (M.ae b (M.ae b (M.ae b (M.ae b (M.ae b (M.ae (a->(a/\a/\a/\True)/\True/\True) (M.ae (a->(a/\a)/\True/\True) (M.ae (a->(a/\True)/\True/\True) (M.ae (True/\(a->a)) (M.pure (c&&decide (Option.getD (Option.map (λx=>x.2) (List.find? (λp=>decide (x.2.1.1=p.1.1)&&(decide (x.2.2.1=p.1.2.1)&&decide (x.2.2.2.1=p.1.2.2))) (Option.getD x.1 ((([],[],0,[]),[],[],[],[],0),[],[])).2.2)) (0:Int) > 0))))))))))))
def ajb(x:Int×Int×Int):M Bool:=
 M.pure (decide (x.2.1<=x.1)&&decide (x.1<=x.2.2))
def Vj(kj:Int×Int×Int->M Bool)(vb:Int->M Bool)(Nb:z1'×(Int->M Bool)->M Bool)(ajc:Int×Option bb×Option (Int×Int×Int×Int×z1')->M Bool)(x:(Int×Int×Int×Int×z1')×Option bb):M Bool:=
 letI b:=Option.getD x.2 ([],[],0,[]);M.bind (vb x.1.1) λy=>M.bind (bS (!(!y)) (vb x.1.2.1) false) λbJ=>M.bind (bS (!(!y||!bJ)) (vb x.1.2.2.1) false) λdi=>letI a:=!y||!bJ||!di;M.bind (bS (!a) (kj (x.1.2.2.2.1,0,IntKind.wrap .i64 (Int.ofNat (List.length b.2.1)-1))) false) λfI=>M.bind (bS (!(a||!fI)) (Nb (x.1.2.2.2.2,λgZ=>ajc (gZ,some b,some x.1))) false) λl7=>M.pure (a||!fI||!l7)
def Vk(kj:Int×Int×Int->M Bool)(x:Int):M Bool:=
 M.bind (kj (x,0,99)) λy=>M.pure y
def Vl(x:z1'×(Int->M Bool)):M Bool:=
 M.bind (M.loop (λ(A:z1'×(Int->M Bool)×z1'×Int×Int×Unit)=>letI e:=A.2.2;letI a:=e.2.2.1;letI d:=List.getD e.1 (Int.toNat a) 0;letI c:=IntKind.wrap .i64 (a-1);if decide (a<e.2.1)=true then M.ae (0<=a/\a<Int.ofNat (List.length e.1)) (M.bind (A.2.1 d) (λy=>letI b:=(!(!y)&&decide (a > 0))=true;M.ae (b->(b/\b)/\(0<=c/\c<Int.ofNat (List.length A.1))/\True) (if (!y||decide (a > 0)&&decide (d<=List.getD A.1 (Int.toNat c) 0))=true then M.bind (M.bind (M.pure false) (λr=>M.pure (V.done r))) λr=>M.pure (V.done r) else M.pure (V.next (A.1,A.2.1,e.1,e.2.1,IntKind.wrap .i64 (Add.add a 1),()))))) else M.bind (M.pure (V.next ())) λr=>M.pure (V.done r)) (x.1,x.2,x.1,Int.ofNat (List.length x.1),0,())) (V.bm (λ(A:Unit)=>M.pure true))
def Vm(kj:Int×Int×Int->M Bool)(x:Int×Option bb×Option (Int×Int×Int×Int×z1')):M Bool:=
 letI b:=(Option.getD x.2.1 ([],[],0,[])).2.1;letI a:=(Option.getD x.2.2 (0,0,0,0,[])).2.2.2.1;M.ae (0<=a/\a<Int.ofNat (List.length b)) (M.bind (kj (x.1,0,IntKind.wrap .i64 (Int.ofNat (List.length (List.getD b (Int.toNat a) []))-1))) (λy=>M.pure y))
def Vn(kj:Int×Int×Int->M Bool)(vb:Int->M Bool)(Nb:z1'×(Int->M Bool)->M Bool)(Dl:Int->M Bool)(x:z1'×(Int×Int)×Int×Int×Int):M Bool:=
 M.bind (kj (Int.ofNat (List.length x.1),1,8)) λy=>M.bind (bS (!(!y)) (Nb (x.1,vb)) false) λbJ=>M.bind (bS (!(!y||!bJ)) (vb x.2.1.1) false) λdi=>M.bind (bS (!(!y||!bJ||!di)) (vb x.2.1.2) false) λfI=>letI a:=!y||!bJ||!di||!fI||decide (x.2.1.1 > x.2.1.2);M.bind (bS (!a) (vb x.2.2.1) false) λl7=>M.bind (bS (!(a||!l7)) (Dl x.2.2.2.1) false) λDm=>M.bind (bS (!(a||!l7||!Dm)) (kj (x.2.2.2.2,0,100000)) false) λNc=>M.pure (a||!l7||!Dm||!Nc)
def Vo(kj:Int×Int×Int->M Bool)(x:Int):M Bool:=
 M.bind (kj (x,0,99)) λy=>M.pure y
def Vp(kj:Int×Int×Int->M Bool)(Dl:Int->M Bool)(x:(Int×Int×Int)×Option bb):M Bool:=
 M.bind (Dl x.1.1) λy=>M.bind (bS (!(!y)) (kj (x.1.2.1,0,IntKind.wrap .i64 (Int.ofNat (List.length (Option.getD x.2 ([],[],0,[])).1)-1))) false) λbJ=>M.bind (bS (!(!y||!bJ)) (kj (x.1.2.2,1,10)) false) λdi=>M.pure (!y||!bJ||!di)
def Vq(kj:Int×Int×Int->M Bool)(x:Int):M Bool:=
 M.bind (kj (x,0,10)) λy=>M.pure (!y)
def Vr(x:z1'×Int):M Bool:=
 M.bind (M.loop (λ(A:z1'×Int×Int×Unit)=>letI e:=A.2.2.1;letI j:=decide (e > 0);letI i:=List.getD A.1 (Int.toNat e) 0;letI h:=IntKind.wrap .i64 (e-1);letI d:=Int.ofNat (List.length A.1);letI k:=0<=e/\e<d;letI b:=decide (List.getD A.1 (Int.toNat e) (0:Int)<0);letI f:=(!b)=true;letI a:=b||decide (i > A.2.1);letI g:=(!a)=true;letI c:=(!a&&j)=true;letI l:=c->c/\True/\True;if decide (e<d)=true then M.ae k (M.ae (f->(f/\f)/\k/\True) (M.ae (f->f/\True/\True) (M.ae (f->(f/\f)/\True/\True) (M.ae (True/\(b=false->f)) (M.ae (g->(g/\True)/\True/\True) (M.ae (g->True/\True/\g) (M.ae (c->(c/\c)/\k/\True) (M.ae l (M.ae (c->(c/\True)/\True/\True) (M.ae (c->(c/\c)/\(0<=h/\h<d)/\True) (M.ae l (M.ae (c->(c/\c)/\True/\True) (M.ae (g->(g/\(j=true->c))/\True/\True) (M.ae (True/\(a=false->g)) (if (a||j&&decide (i<=List.getD A.1 (Int.toNat h) 0))=true then M.bind (M.bind (M.pure false) (λr=>M.pure (V.done r))) λr=>M.pure (V.done r) else M.pure (V.next (A.1,A.2.1,IntKind.wrap .i64 (Add.add e 1),()))))))))))))))))) else M.bind (M.pure (V.next ())) λr=>M.pure (V.done r)) (x.1,x.2,0,())) (V.bm (λ(A:Unit)=>M.pure true))
def G2(xF:Option Sto×z1'×Int×Nat×(Nat×(List (z1')->Prop)×List (z1')×Bool)×Unit->M (Bool×(Nat×(List (z1')->Prop)×List (z1')×Bool)×Unit))(x:Option Sto×Nat×(Nat×(List (z1')->Prop)×List (z1')×Bool)×Unit):M ((Nat×(List (z1')->Prop)×List (z1')×Bool)×Unit):=
 M.bind (xF (x.1,[],1,x.2.1,x.2.2.1,())) λy=>M.pure (y.2.1,())
def G3(xF:Option Sto×z1'×Int×Nat×(Nat×(List (z1')->Prop)×List (z1')×Bool)×Unit->M (Bool×(Nat×(List (z1')->Prop)×List (z1')×Bool)×Unit))(x:Option Sto×Nat×(Nat×(List (z1')->Prop)×List (z1')×Bool)×Unit):M ((Nat×(List (z1')->Prop)×List (z1')×Bool)×Unit):=
 M.bind (xF (x.1,[],0,x.2.1,x.2.2.1,())) λy=>M.pure (y.2.1,())
def Nd(G0:Option Sto×(Int×Int)×Int×Int×Int->M Bool)(M9:Option Sto×z3'×Int×z4'×z1'×Unit->M (Bool×z4'×z1'×Unit))(x:Option Sto×z3'×Int×z4'×z1'×Unit):M (Bool×z4'×z1'×Unit):=
 letI k:=(Option.getD x.1 ((([],[],0,[]),[],[],[],[],0),[],[])).2.1;M.bind (M.ae (Option.isSome x.1=true) (M.loop (λ(A:Option ((bb×z1'×List c_×List (z1'×(Int×Int)×Int×Int×Int)×z3'×Int)×z4'×z5')×z3'×Int×z4'×Int×Int×z4'×z1'×Unit)=>letI o:=A.2.1;letI i:=A.2.2;letI c:=i.2.2.2;letI m:=c.2.2.1;letI l:=Int.toNat c.1;letI j:=Option.map (λx=>x.2) (List.find? (λp=>decide (c.1=p.1)) c.2.1);letI g:=0<=c.1/\c.1<Int.ofNat (List.length m);letI f:=(A.1,List.getD i.2.1 l (0,0),List.getD o (Int.toNat i.1) (0,0,0));letI d:=eN c.2.1 c.1 (IntKind.wrap .i64 (Add.add (Option.getD j 0) 1));letI b:=decide (List.getD m l (0:Int)=-1);letI h:=(!b)=true;letI a:=decide (Option.getD j (0:Int) > 0);letI e:=(!a)=true;letI q:=e->e/\True/\True;if decide (c.1<i.2.2.1)=true then M.bind (M.ae (0<=c.1/\c.1<Int.ofNat (List.length i.2.1)) (M.ae (e->(e/\e)/\(0<=i.1/\i.1<Int.ofNat (List.length o))/\True) (M.ae q (M.ae (e->(e/\e/\e/\True)/\(G0 f).b4/\True) (M.ae q (M.ae (True/\(a=false->e)) (if (a||!(M.val (G0 f) false))=true then M.pure (V.next (A.1,o,i.1,i.2.1,i.2.2.1,c.1,c.2.1,m,())) else M.ae g (M.ae (h->(h/\h)/\g/\True) (if h then M.ae (h/\h/\h/\h/\h/\True) (M.bind (M9 (A.1,o,List.getD m l 0,d,m,())) (λy=>if (b||y.1)=true then M.ae (0<=c.1/\c.1<Int.ofNat (List.length y.2.2.1)) (M.bind (M.bind (M.bind (M.pure (true,y.2.1,List.set y.2.2.1 l i.1,())) (λr=>M.pure (V.done r))) (λr=>M.pure (V.done r))) (λr=>M.pure (V.done r))) else M.pure (V.next (A.1,o,i.1,i.2.1,i.2.2.1,c.1,y.2.1,y.2.2.1,())))) else M.ae (True/\(b=false->false=true)) (if (b||false)=true then M.ae g (M.bind (M.bind (M.bind (M.pure (true,d,List.set m l i.1,())) (λr=>M.pure (V.done r))) (λr=>M.pure (V.done r))) (λr=>M.pure (V.done r))) else M.pure (V.next (A.1,o,i.1,i.2.1,i.2.2.1,c.1,d,m,())))))))))))) (V.bm (λ(A:Option ((bb×z1'×List c_×List dp×z3'×Int)×z4'×z5')×z3'×Int×z4'×Int×Int×z4'×z1'×Unit)=>letI n:=A.2.2.2;M.pure (V.next (A.1,A.2.1,A.2.2.1,n.1,n.2.1,IntKind.wrap .i64 (Add.add n.2.2.1 1),n.2.2.2.1,n.2.2.2.2.1,())))) else M.bind (M.pure (V.next (c.2.1,m,()))) λr=>M.pure (V.done r)) (x.1,x.2.1,x.2.2.1,k,Int.ofNat (List.length k),0,x.2.2.2.1,x.2.2.2.2.1,()))) (V.bm (λ(A:z4'×z1'×Unit)=>M.pure (false,A.1,A.2.1,())))
def Nf(GZ:(z1'×(Int×Int)×Int×Int×Int)×Int×Int×Int×Int×z1'->M Int)(xF:Option Sto×z1'×Int×Nat×(Nat×(List (z1')->Prop)×List (z1')×Bool)×Unit->M (Bool×(Nat×(List (z1')->Prop)×List (z1')×Bool)×Unit))(hl:z1'×Int->M Bool)(x:Option Sto×z1'×Int×Nat×(Nat×(List (z1')->Prop)×List (z1')×Bool)×Unit):M (Bool×(Nat×(List (z1')->Prop)×List (z1')×Bool)×Unit):=
 letI p:=Option.isSome x.1=true;letI o:=Int.ofNat (List.length x.2.1);letI i:=x.2.2.2.2.1;letI e:=(Option.getD x.1 ((([],[],0,[]),[],[],[],[],0),[],[])).1.2.2;M.ae p (if decide (o=Int.ofNat (List.length e.2.1))=true then M.bind (M.ae (x.2.2.2.1=i.1/\i.2.2.2=false/\(∃ (T:List (z1')),i.2.1 (i.2.2.1++x.2.1::T))) (M.any (λx=>True))) λy=>M.pure (y,(i.1,i.2.1,i.2.2.1++[x.2.1],!y),()) else M.bind (M.ae p (M.loop (λ(A:Option Sto×z1'×Int×Nat×Int×List c_×Int×Int×(Nat×(List (z1')->Prop)×List (z1')×Bool)×Unit)=>letI q:=A.2.1;letI l:=A.2.2;letI j:=(Option.getD A.1 ((([],[],0,[]),[],[],[],[],0),[],[])).1.2.2.2.1;letI c:=l.2.2;letI m:=List.take (Int.toNat c.1) q;letI k:=c.2.2.2;letI d:=(List.getD j (Int.toNat c.1) ([],(0,0),0,0,0),List.getD c.2.1 (Int.toNat k.1) (0,0,0,0,[]));letI a:=(q,k.1);if decide (k.1<c.2.2.1)=true then M.bind (M.ae (0<=k.1/\k.1<Int.ofNat (List.length c.2.1)) (M.ae (hl a).b4 (M.ae ((!(M.val (hl a) false))=true->(!(M.val (hl a) false))=true/\Option.isSome A.1=true/\True) (M.ae ((!(M.val (hl a) false))=true->(!(M.val (hl a) false))=true/\True/\True) (M.ae ((!(M.val (hl a) false))=true->(!(M.val (hl a) false))=true/\True/\True) (M.ae ((!(M.val (hl a) false))=true->(!(M.val (hl a) false))=true/\True/\True) (M.ae ((!(M.val (hl a) false))=true->((!(M.val (hl a) false))=true/\(!(M.val (hl a) false))=true)/\(0<=c.1/\c.1<Int.ofNat (List.length j))/\True) (M.ae ((!(M.val (hl a) false))=true->(!(M.val (hl a) false))=true/\True/\True) (M.ae ((!(M.val (hl a) false))=true->((!(M.val (hl a) false))=true/\(!(M.val (hl a) false))=true/\True)/\(GZ d).b4/\True) (M.ae ((!(M.val (hl a) false))=true->((!(M.val (hl a) false))=true/\True)/\True/\True) (M.ae (True/\(M.val (hl a) false=false->(!(M.val (hl a) false))=true)) (if (M.val (hl a) false||decide (M.val (GZ d) (0:Int)=0))=true then M.pure (V.next (A.1,q,l.1,l.2.1,c.1,c.2.1,c.2.2.1,k.1,k.2.1,())) else M.ae ((0:Int)<=0/\0<=c.1/\c.1=c.1/\c.1<=Int.ofNat (List.length q)) (M.ae (0<Add.add 0 1/\bX (Add.add (List.length m) (Add.add 0 1))) (M.bind (xF (A.1,m++[k.1],l.1,l.2.1,k.2.1,())) (λy=>if (!y.1)=true then M.bind (M.bind (M.bind (M.pure (false,y.2.1,())) (λr=>M.pure (V.done r))) (λr=>M.pure (V.done r))) λr=>M.pure (V.done r) else M.pure (V.next (A.1,q,l.1,l.2.1,c.1,c.2.1,c.2.2.1,k.1,y.2.1,()))))))))))))))))) (V.bm (λ(A:Option Sto×z1'×Int×Nat×Int×List c_×Int×Int×(Nat×(List (z1')->Prop)×List (z1')×Bool)×Unit)=>letI n:=A.2.2.2.2;M.pure (V.next (A.1,A.2.1,A.2.2.1,A.2.2.2.1,n.1,n.2.1,n.2.2.1,IntKind.wrap .i64 (Add.add n.2.2.2.1 1),n.2.2.2.2.1,())))) else M.bind (M.pure (V.next (A.1,q,l.1,l.2.1,c.1,k.2.1,()))) λr=>M.pure (V.done r)) (x.1,x.2.1,x.2.2.1,x.2.2.2.1,o,e.1,Int.ofNat (List.length e.1),0,i,()))) (V.bm (λ(A:Option Sto×z1'×Int×Nat×Int×(Nat×(List (z1')->Prop)×List (z1')×Bool)×Unit)=>letI s:=A.2.2;letI h:=s.2.2;letI g:=List.take (Int.toNat h.1) A.2.1;letI f:=decide (s.1=0);letI b:=(!f)=true;M.ae (b->(b/\True/\b/\b)/\((0:Int)<=0/\0<=h.1/\h.1=h.1/\h.1<=Int.ofNat (List.length A.2.1))/\True) (if b then M.ae (b/\b) (M.ae (0<Add.add 0 1/\bX (Add.add (List.length g) (Add.add 0 1))) (if b then M.ae (b/\b/\b/\True) (M.bind (xF (A.1,g++[-1],s.1,s.2.1,h.2.1,())) (λy=>M.pure (f||y.1,y.2.1,()))) else M.ae (True/\(f=false->false=true)) (M.pure (f||false,h.2.1,())))) else if b then M.ae (b/\false=true/\b/\b/\True) (M.bind (xF (A.1,g++[-1],s.1,s.2.1,h.2.1,())) (λy=>M.pure (f||y.1,y.2.1,()))) else M.ae (True/\(f=false->false=true)) (M.pure (f||false,h.2.1,()))))))
def ajd(xE:Int×Int->M (Int×Int))(x:z1'×Int×Unit):M (z1'×Unit):=
 M.bind (if decide (x.2.1<0)=true then M.ae False (M.ae False (M.pure (V.next (x.1,x.2.1,())))) else M.pure (V.next (x.1,x.2.1,()))) (V.bm (λ(A:z1'×Int×Unit)=>M.bind (xE (IntKind.wrap .u64 (Int.ofNat (List.length A.1)),IntKind.wrap .u64 A.2.1)) λy=>M.bind (if (decide (y.1 > 0)||decide (y.2 > 9223372036854775807))=true then M.ae False (M.ae False (M.pure (V.next (A.1,y.2,())))) else M.pure (V.next (A.1,y.2,()))) (V.bm (λ(A:z1'×Int×Unit)=>letI b:=IntKind.wrap .i64 A.2.1;letI f:=Int.toNat b;letI e:=List.take (List.length (List.replicate f (0:Int))-0) A.1;M.ae (0<=b/\b=b/\bX f) (M.ae True (M.bind (M.loop (λ(A:Int×z1'×Unit)=>letI g:=Int.toNat A.1;letI c:=List.take g A.2.1;letI a:=Int.ofNat (List.length A.2.1);letI d:=Int.toNat a-g;if decide (A.1<a)=true then M.ae (0<=A.1/\A.1<=a/\a<=a) (M.ae ((0:Int)<=0/\0<=A.1/\A.1<=a) (M.ae True (M.pure (V.next (IntKind.wrap .i64 (Add.add A.1 (Int.ofNat (if d<=List.length c then d else List.length c))),c++List.take d c++List.drop (Add.add g (List.length (List.take d c))) A.2.1,()))))) else M.bind (M.pure (V.next (A.2.1,()))) λr=>M.pure (V.done r)) (Int.ofNat (if List.length (List.replicate f (0:Int))-0<=List.length A.1 then List.length (List.replicate f (0:Int))-0 else List.length A.1),[]++e++List.drop (Add.add 0 (List.length e)) (List.replicate f (0:Int)),())) (V.bm (λ(A:z1'×Unit)=>M.pure (A.1,())))))))))
end Go.Fer
namespace Go.Fer.H
open M (V)
set_option maxRecDepth 100000
abbrev aT:Type:=Int×Int×Int×Int×Int×Int
abbrev pb:Type:=Int×Int×Int×Int×Int×Int×Int
abbrev aP:Type:=z4'×List aT×z1'×z4'×pb
abbrev bg:Type:=aT×Int
abbrev ds:Type:=z1'×List (List bg)
abbrev dB:Type:=aP×List aT×List (Option ds)
abbrev gR:Type:=z4'×List aT×z1'×z4'×Int×Int×Int×Int×Int×Int×Int×List aT×List (Option ds)×Unit
abbrev eN(l:z4')(a b:Int):z4':=lh (k:=.int .i64) (v:=.int .i64) l a b
abbrev gS:ad:=.st (.aw (.int .i64) (.aw (.int .i64) (.aw (.int .i64) (.aw (.int .i64) (.aw (.int .i64) (.int .i64))))))
abbrev kA(l:List (Int×aT))(a:Int)(b:aT):List (Int×aT):=lh (k:=.int .i64) (v:=gS) l a b
abbrev aje:List UInt8:=0::1::(List.replicate 2 2++(List.replicate 4 3++(List.replicate 8 4++(List.replicate 16 5++(List.replicate 32 6++(List.replicate 64 7++List.replicate 128 8))))))
abbrev _root_.Prod.cI{fp fq fr fs ft fh fi:Type}(x:fp×fq×fr×fs×ft×fh×fi):fh:=x.2.2.2.2.2.1
abbrev _root_.Prod.e6{fp fq fr fs ft fh fi fC:Type}(x:fp×fq×fr×fs×ft×fh×fi×fC):fi:=x.2.2.2.2.2.2.1
abbrev _root_.Prod.gp{fp fq fr fs ft fh fi fC fU:Type}(x:fp×fq×fr×fs×ft×fh×fi×fC×fU):fC:=x.2.2.2.2.2.2.2.1
abbrev _root_.Prod.h9{fp fq fr fs ft fh fi fC fU gq:Type}(x:fp×fq×fr×fs×ft×fh×fi×fC×fU×gq):fU:=x.2.2.2.2.2.2.2.2.1
abbrev _root_.Prod.jC{fp fq fr fs ft fh fi fC fU gq gT:Type}(x:fp×fq×fr×fs×ft×fh×fi×fC×fU×gq×gT):gq:=x.2.2.2.2.2.2.2.2.2.1
abbrev _root_.Prod.kB{fp fq fr fs ft fh fi fC fU gq gT hn:Type}(x:fp×fq×fr×fs×ft×fh×fi×fC×fU×gq×gT×hn):gT:=x.2.2.2.2.2.2.2.2.2.2.1
abbrev _root_.Prod.ho{fp fq fr fs ft fh fi fC fU gq gT hn hV:Type}(x:fp×fq×fr×fs×ft×fh×fi×fC×fU×gq×gT×hn×hV):hn:=x.2.2.2.2.2.2.2.2.2.2.2.1
abbrev _root_.Prod.mI{fp fq fr fs ft fh fi fC fU gq gT hn hV ix:Type}(x:fp×fq×fr×fs×ft×fh×fi×fC×fU×gq×gT×hn×hV×ix):hV:=x.2.2.2.2.2.2.2.2.2.2.2.2.1
abbrev _root_.Prod.pc{fp fq fr fs ft fh fi fC fU gq gT hn hV ix jb:Type}(x:fp×fq×fr×fs×ft×fh×fi×fC×fU×gq×gT×hn×hV×ix×jb):ix:=x.2.2.2.2.2.2.2.2.2.2.2.2.2.1
abbrev _root_.Prod.sa{fp fq fr fs ft fh fi fC fU gq gT hn hV ix jb j2:Type}(x:fp×fq×fr×fs×ft×fh×fi×fC×fU×gq×gT×hn×hV×ix×jb×j2):jb:=x.2.2.2.2.2.2.2.2.2.2.2.2.2.2.1
abbrev _root_.Prod.xG{fp fq fr fs ft fh fi fC fU gq gT hn hV ix jb j2 kC:Type}(x:fp×fq×fr×fs×ft×fh×fi×fC×fU×gq×gT×hn×hV×ix×jb×j2×kC):j2:=x.2.2.2.2.2.2.2.2.2.2.2.2.2.2.2.1
abbrev _root_.Prod.Ng{fp fq fr fs ft fh fi fC fU gq gT hn hV ix jb j2 kC lF:Type}(x:fp×fq×fr×fs×ft×fh×fi×fC×fU×gq×gT×hn×hV×ix×jb×j2×kC×lF):kC:=x.2.2.2.2.2.2.2.2.2.2.2.2.2.2.2.2.1
abbrev _root_.Prod.Nh{fp fq fr fs ft fh fi fC fU gq gT hn hV ix jb j2 kC lF mJ:Type}(x:fp×fq×fr×fs×ft×fh×fi×fC×fU×gq×gT×hn×hV×ix×jb×j2×kC×lF×mJ):lF:=x.2.2.2.2.2.2.2.2.2.2.2.2.2.2.2.2.2.1
abbrev _root_.Prod.Ni{fp fq fr fs ft fh fi fC fU gq gT hn hV ix jb j2 kC lF mJ ot:Type}(x:fp×fq×fr×fs×ft×fh×fi×fC×fU×gq×gT×hn×hV×ix×jb×j2×kC×lF×mJ×ot):mJ:=x.2.2.2.2.2.2.2.2.2.2.2.2.2.2.2.2.2.2.1
abbrev _root_.Prod.Nj{fp fq fr fs ft fh fi fC fU gq gT hn hV ix jb j2 kC lF mJ ot qc:Type}(x:fp×fq×fr×fs×ft×fh×fi×fC×fU×gq×gT×hn×hV×ix×jb×j2×kC×lF×mJ×ot×qc):ot:=x.2.2.2.2.2.2.2.2.2.2.2.2.2.2.2.2.2.2.2.1
abbrev _root_.Prod.Nk{fp fq fr fs ft fh fi fC fU gq gT hn hV ix jb j2 kC lF mJ ot qc sb:Type}(x:fp×fq×fr×fs×ft×fh×fi×fC×fU×gq×gT×hn×hV×ix×jb×j2×kC×lF×mJ×ot×qc×sb):qc:=x.2.2.2.2.2.2.2.2.2.2.2.2.2.2.2.2.2.2.2.2.1
abbrev _root_.Prod.ajf{fp fq fr fs ft fh fi fC fU gq gT hn hV ix jb j2 kC lF mJ ot qc sb vc:Type}(x:fp×fq×fr×fs×ft×fh×fi×fC×fU×gq×gT×hn×hV×ix×jb×j2×kC×lF×mJ×ot×qc×sb×vc):sb:=x.2.2.2.2.2.2.2.2.2.2.2.2.2.2.2.2.2.2.2.2.2.1
abbrev _root_.Prod.Nl{fp fq fr fs ft fh fi fC fU gq gT hn hV ix jb j2 kC lF mJ ot qc sb vc zX:Type}(x:fp×fq×fr×fs×ft×fh×fi×fC×fU×gq×gT×hn×hV×ix×jb×j2×kC×lF×mJ×ot×qc×sb×vc×zX):vc:=x.2.2.2.2.2.2.2.2.2.2.2.2.2.2.2.2.2.2.2.2.2.2.1
abbrev _root_.Prod.q8{fp fq fr fs ft fh fi fC fU gq gT hn hV ix jb j2 kC lF mJ ot qc sb vc zX G4:Type}(x:fp×fq×fr×fs×ft×fh×fi×fC×fU×gq×gT×hn×hV×ix×jb×j2×kC×lF×mJ×ot×qc×sb×vc×zX×G4):zX:=x.2.2.2.2.2.2.2.2.2.2.2.2.2.2.2.2.2.2.2.2.2.2.2.1
abbrev _root_.Prod.Dn{fp fq fr fs ft fh fi fC fU gq gT hn hV ix jb j2 kC lF mJ ot qc sb vc zX G4 ajg:Type}(x:fp×fq×fr×fs×ft×fh×fi×fC×fU×gq×gT×hn×hV×ix×jb×j2×kC×lF×mJ×ot×qc×sb×vc×zX×G4×ajg):G4:=x.2.2.2.2.2.2.2.2.2.2.2.2.2.2.2.2.2.2.2.2.2.2.2.2.1
def Vs(tJ:aP×(Option dB->M Bool)->M (Option dB×Int))(Dp:Option ds×Int×Int->M (bg×Bool))(Dq:(z1'->Prop)->M (z1'))(ajh:z4'->M (z1'->Prop))(aji:Option dB×Option Int×Option Int->M Bool)(x:aP×Int×Int):M (z1'×Int):=
 M.bind (tJ (x.1,λgZ=>aji (gZ,some x.2.1,some x.2.2))) λy=>letI a:=(Option.getD y.1 (([],[],[],[],0,0,0,0,0,0,0),[],[])).2.2;if decide (y.2≠0)=true then M.pure ([],y.2) else M.bind (M.ae (Option.isSome y.1=true) (M.loop (λ(A:List (Option ds)×Int×Int×Int×Int×z4'×Unit)=>letI b:=A.2.2;if decide (b.1<A.2.1)=true then M.bind (M.ae (0<=b.1/\b.1<Int.ofNat (List.length A.1)) (M.bind (Dp (List.getD A.1 (Int.toNat b.1) none,b.2.1,b.2.2.1)) (λy=>if y.2=true then M.pure (V.next (A.1,A.2.1,b.1,b.2.1,b.2.2.1,eN A.cI y.1.1.2.2.2.2.2 (IntKind.wrap .i64 (Add.add (Option.getD (Option.map (λx=>x.2) (List.find? (λp=>decide (y.1.1.2.2.2.2.2=p.1)) A.cI)) 0) 1)),())) else M.pure (V.next (A.1,A.2.1,b.1,b.2.1,b.2.2.1,eN A.cI (-1) (IntKind.wrap .i64 (Add.add (Option.getD (Option.map (λx=>x.2) (List.find? (λp=>decide (-1=p.1)) A.cI)) 0) 1)),()))))) (V.bm (λ(A:List (Option ds)×Int×Int×Int×Int×z4'×Unit)=>M.pure (V.next (A.1,A.2.1,IntKind.wrap .i64 (Add.add A.2.2.1 1),A.2.2.2.1,A.2.2.2.2.1,A.cI,())))) else M.bind (M.pure (V.next (A.cI,()))) λr=>M.pure (V.done r)) (a,Int.ofNat (List.length a),0,x.2.1,x.2.2,[],()))) (V.bm (λ(A:z4'×Unit)=>M.bind (ajh A.1) λy=>M.bind (Dq y) λy=>M.pure (y,0)))
def Vt(Nn:aP×Int×(Int->M Int)->M ((Int×Int)×Int))(ajj:Int×Option aP->M Int)(x:aP×Int):M ((Int×Int)×Int):=
 M.bind (Nn (x.1,x.2,λgZ=>ajj (gZ,some x.1))) λy=>M.pure y
def Vu(Nn:aP×Int×(Int->M Int)->M ((Int×Int)×Int))(ajk:Int->M Int)(x:aP×Int):M ((Int×Int)×Int):=
 M.bind (Nn (x.1,x.2,ajk)) λy=>M.pure y
def Vv(tJ:aP×(Option dB->M Bool)->M (Option dB×Int))(Dr:Option dB×(Option ds->M (Int×Bool))->M ((Int×Int)×Bool))(ajl:Option dB×Option Int->M Bool)(ajm:Option ds×Option Int×Option aP->M (Int×Bool))(x:aP×Int):M ((Int×Int)×Int):=
 M.bind (tJ (x.1,λgZ=>ajl (gZ,some x.2))) λy=>if decide (y.2≠0)=true then M.pure ((0,0),y.2) else M.bind (Dr (y.1,λgZ=>ajm (gZ,some x.2,some x.1))) λy=>M.pure (y.1,0)
def Vw(tJ:aP×(Option dB->M Bool)->M (Option dB×Int))(Dr:Option dB×(Option ds->M (Int×Bool))->M ((Int×Int)×Bool))(ajn:Option dB×Option Int->M Bool)(ajo:Option ds×Option (Option dB)×Option Int×Option aP->M (Int×Bool))(x:aP×Int):M ((Int×Int)×Int):=
 M.bind (tJ (x.1,λgZ=>ajn (gZ,some x.2))) λy=>if decide (y.2≠0)=true then M.pure ((0,0),y.2) else M.bind (Dr (y.1,λgZ=>ajo (gZ,some y.1,some x.2,some x.1))) λy=>M.pure (y.1,0)
def Vx(ajp:aP->M Bool)(No:List aT->M (List aT×Bool))(x:aP):M Int:=
 M.bind (ajp x) λy=>if (!y)=true then M.pure 90 else M.bind (No x.2.1) λy=>if (!y.2)=true then M.pure 91 else M.pure 0
def Vy(ajq:aP->M Bool)(Vz:aT×Int×Int×Int×Int×Int×Int->M Bool)(x:aP):M Int:=
 M.bind (ajq x) λy=>if (!y)=true then M.pure 90 else M.bind (M.loop (λ(A:Int×aP×Unit)=>if decide (A.1<Int.ofNat (List.length A.2.1.2.1))=true then M.bind (M.loop (λ(A:Int×Int×aP×Unit)=>letI c:=A.2.2.1;letI b:=Int.ofNat (List.length c.2.1);letI a:=(List.getD c.2.1 (Int.toNat A.2.1) (0,0,0,0,0,0),List.getD c.2.1 (Int.toNat A.1) (0,0,0,0,0,0));if decide (A.2.1<A.1)=true then M.ae (0<=A.2.1/\A.2.1<b) (M.ae (0<=A.1/\A.1<b) (M.ae (Vz a).b4 (if M.val (Vz a) false=true then M.bind (M.bind (M.bind (M.bind (M.pure 91) (λr=>M.pure (V.done r))) (λr=>M.pure (V.done r))) (λr=>M.pure (V.done r))) λr=>M.pure (V.done r) else M.pure (V.next (A.1,IntKind.wrap .i64 (Add.add A.2.1 1),c,()))))) else M.bind (M.pure (V.next (A.1,c,()))) λr=>M.pure (V.done r)) (A.1,0,A.2.1,())) (V.bm (λ(A:Int×aP×Unit)=>M.pure (V.next (IntKind.wrap .i64 (Add.add A.1 1),A.2.1,())))) else M.bind (M.pure (V.next ())) λr=>M.pure (V.done r)) (0,x,())) (V.bm (λ(A:Unit)=>M.pure 0))
def VA(tJ:aP×(Option dB->M Bool)->M (Option dB×Int))(Dp:Option ds×Int×Int->M (bg×Bool))(zY:aP×Int×Int->M Int)(ajr:Option dB×Option Int->M Bool)(x:aP×Int):M (z1'×z1'×Int):=
 M.bind (tJ (x.1,λgZ=>ajr (gZ,some x.2))) λy=>if decide (y.2≠0)=true then M.pure ([],[],y.2) else M.bind (M.loop (λ(A:Option dB×Int×aP×Int×z1'×z1'×Unit)=>letI b:=(Option.getD A.1 (([],[],[],[],0,0,0,0,0,0,0),[],[])).2.2;if decide (A.2.1<10)=true then M.bind (M.bind (M.ae (Option.isSome A.1=true) (M.loop (λ(A:Option dB×Int×Int×Int×List (Option ds)×Int×Int×aP×Int×z1'×z1'×Unit)=>letI d:=A.2.2.2;if decide (A.e6<A.cI)=true then M.bind (M.ae (0<=A.e6/\A.e6<Int.ofNat (List.length d.2.1)) (M.bind (Dp (List.getD d.2.1 (Int.toNat A.e6) none,A.2.1,A.h9)) (λy=>letI a:=y.2=true;letI c:=a->a/\True/\True;M.ae c (M.ae (a->(a/\a/\a/\True)/\(zY (A.gp,y.1.2,A.h9)).b4/\True) (M.ae c (M.ae c (M.ae (a->(a/\a)/\True/\True) (M.ae (True/\(a->a)) (if (y.2&&decide (M.val (zY (A.gp,y.1.2,A.h9)) 0>=A.gp.h9))=true then M.pure (V.next (A.1,A.2.1,IntKind.wrap .i64 (Add.add A.2.2.1 1),d.1,d.2.1,A.cI,A.e6,A.gp,A.h9,A.jC,A.kB,())) else M.pure (V.next (A.1,A.2.1,A.2.2.1,d.1,d.2.1,A.cI,A.e6,A.gp,A.h9,A.jC,A.kB,()))))))))))) (V.bm (λ(A:Option dB×Int×Int×Int×List (Option ds)×Int×Int×aP×Int×z1'×z1'×Unit)=>M.pure (V.next (A.1,A.2.1,A.2.2.1,A.2.2.2.1,A.2.2.2.2.1,A.cI,IntKind.wrap .i64 (Add.add A.e6 1),A.gp,A.h9,A.jC,A.kB,())))) else M.bind (M.pure (V.next (A.1,A.2.1,A.2.2.1,d.1,A.gp,A.h9,A.jC,A.kB,()))) λr=>M.pure (V.done r)) (A.1,A.2.1,0,A.2.1,b,Int.ofNat (List.length b),0,A.2.2.1,A.2.2.2.1,A.2.2.2.2.1,A.cI,()))) (V.bm (λ(A:Option dB×Int×Int×Int×aP×Int×z1'×z1'×Unit)=>letI e:=A.2.2;M.bind (if decide (e.1 > 0)=true then M.ae (bX (Add.add (List.length A.gp) (Add.add 0 1))) (M.pure (V.next (A.1,A.2.1,e.1,e.2.1,e.2.2.1,A.cI,A.e6,A.gp++[A.2.1],()))) else M.pure (V.next (A.1,A.2.1,e.1,e.2.1,e.2.2.1,A.cI,A.e6,A.gp,()))) (V.bm (λ(A:Option dB×Int×Int×Int×aP×Int×z1'×z1'×Unit)=>letI f:=A.2.2.2;M.ae (Option.isSome A.1=true) (if decide (A.2.2.1=Int.ofNat (List.length (Option.getD A.1 (([],[],[],[],0,0,0,0,0,0,0),[],[])).2.2))=true then M.ae (bX (Add.add (List.length A.e6) (Add.add 0 1))) (M.pure (V.next (A.1,f.1,f.2.1,A.cI,A.e6++[A.2.1],A.gp,()))) else M.pure (V.next (A.1,f.1,f.2.1,A.cI,A.e6,A.gp,())))))))) (V.bm (λ(A:Option dB×Int×aP×Int×z1'×z1'×Unit)=>M.pure (V.next (A.1,IntKind.wrap .i64 (Add.add A.2.1 1),A.2.2.1,A.2.2.2.1,A.2.2.2.2.1,A.cI,())))) else M.bind (M.pure (V.next (A.2.2.2.2.1,A.cI,()))) λr=>M.pure (V.done r)) (y.1,0,x.1,x.2,[],[],())) (V.bm (λ(A:z1'×z1'×Unit)=>M.pure (A.1,A.2.1,0)))
def VB(zZ:aP->M Int)(ajs:List aT×Unit->M (Bool×List aT×Unit))(ajt:(Int×Int×Int×Int×Int×Int->M Bool)×List aT×Unit->M ((Nat×Nat)×List aT×Unit))(Np:z1'×gR->M (gR))(aju:aT×Option aP->M Bool)(x:aP×(Option dB->M Bool)):M (Option dB×Int):=
 M.bind (zZ x.1) λy=>if decide (y≠0)=true then M.pure (none,y) else M.bind (ajs (x.1.2.1,())) λy=>M.ae True (M.ae True (M.bind (ajt (λgZ=>aju (gZ,some x.1),y.2.1,())) (λy=>M.ae True (M.bind (M.bind (x.2 (some (x.1,List.drop y.1.1 (List.take y.1.2 y.2.1),[]))) (λbJ=>if (!bJ)=true then M.bind (M.pure (none,1)) λr=>M.pure (V.done r) else M.pure (V.next (x.1.1,x.1.2.1,x.1.2.2.1,x.1.2.2.2.1,x.1.2.2.2.2.1,x.1.cI,x.1.e6,x.1.gp,x.1.h9,x.1.jC,x.1.2.2.2.2.2.2.2.2.2.2,y.1,y.2.1,[],())))) (V.bm (λ(A:z4'×List aT×z1'×z4'×Int×Int×Int×Int×Int×Int×Int×(Nat×Nat)×List aT×List (Option ds)×Unit)=>M.bind (Np ([],A.1,A.2.1,A.2.2.1,A.2.2.2.1,A.2.2.2.2.1,A.cI,A.e6,A.gp,A.h9,A.jC,A.kB,List.drop A.ho.1 (List.take A.ho.2 A.mI),A.pc,())) λy=>M.ae True (if decide (Int.ofNat (List.length y.mI)=0)=true then M.pure (none,3) else M.pure (some ((y.1,y.2.1,y.2.2.1,y.2.2.2.1,y.2.2.2.2.1,y.cI,y.e6,y.gp,y.h9,y.jC,y.kB),y.ho,y.mI),0))))))))
def VC(jc:Int×Int×Int->M Bool)(Ds:Int->M Bool)(x:Option dB×Option Int×Option Int):M Bool:=
 M.bind (jc (Option.getD x.2.1 0,0,9)) λy=>M.bind (bS y (Ds (Option.getD x.2.2 0)) false) λbJ=>M.pure (y&&bJ)
def ajv(x:Int×Int×Int):M Bool:=
 M.pure (decide (x.2.1<=x.1)&&decide (x.1<=x.2.2))
def VD(jc:Int×Int×Int->M Bool)(x:Int):M Bool:=
 M.bind (jc (x,0,9999)) λy=>M.pure y
def VE(x:Option ds×Int×Int):M (bg×Bool):=
 letI b:=List.getD (Option.getD x.1 ([],[[],[],[],[],[],[],[],[],[],[]])).2 (Int.toNat x.2.1) [];M.bind (M.ae (Option.isSome x.1=true) (M.ae (0<=x.2.1/\x.2.1<Int.ofNat 10) (M.loop (λ(A:Int×Bool×List bg×Int×Int×bg×bg×Unit)=>letI d:=A.2.2;letI c:=d.2.2.1;letI a:=List.getD d.1 (Int.toNat c) ((0,0,0,0,0,0),0);if decide (c<d.2.1)=true then M.bind (M.ae (0<=c/\c<Int.ofNat (List.length d.1)) (if decide (a.2<=A.1)=true then M.pure (V.next (A.1,decide (a.1.2.2.2.1=1),d.1,d.2.1,c,A.cI,a,())) else M.pure (V.next (A.1,A.2.1,d.1,d.2.1,c,A.cI,A.e6,())))) (V.bm (λ(A:Int×Bool×List bg×Int×Int×bg×bg×Unit)=>M.pure (V.next (A.1,A.2.1,A.2.2.1,A.2.2.2.1,IntKind.wrap .i64 (Add.add A.2.2.2.2.1 1),A.cI,A.e6,())))) else M.bind (M.pure (V.next (A.2.1,A.cI,A.e6,()))) λr=>M.pure (V.done r)) (x.2.2,false,b,Int.ofNat (List.length b),0,((0,0,0,0,0,0),0),((0,0,0,0,0,0),0),())))) (V.bm (λ(A:Bool×bg×bg×Unit)=>M.pure (A.2.2.1,A.1)))
def VF(Nq:z1'×Unit->M (z1'×Unit))(ajw:(z1'->Prop)×Unit->M (z1'×Unit))(x:z1'->Prop):M (z1'):=
 M.bind (ajw (x,())) λy=>M.bind (Nq (y.1,())) λy=>M.pure y.1
def ajx(ajy:Option (z4')->z1'->Prop)(x:z4'):M (z1'->Prop):=
 M.pure (ajy (some x))
def VG(tJ:aP×(Option dB->M Bool)->M (Option dB×Int))(Dr:Option dB×(Option ds->M (Int×Bool))->M ((Int×Int)×Bool))(ajz:Option dB×Option Int->M Bool)(ajA:Option ds×Option (Option dB)×Option Int×Option (Int->M Int)->M (Int×Bool))(x:aP×Int×(Int->M Int)):M ((Int×Int)×Int):=
 M.bind (tJ (x.1,λgZ=>ajz (gZ,some x.2.1))) λy=>if decide (y.2≠0)=true then M.pure ((0,0),y.2) else M.bind (Dr (y.1,λgZ=>ajA (gZ,some y.1,some x.2.1,some x.2.2))) λy=>if (!y.2)=true then M.pure ((0,0),3) else M.pure (y.1,0)
def VH(G5:pb×Int->M Int)(x:Int×Option aP):M Int:=
 M.bind (G5 ((Option.getD x.2 ([],[],[],[],0,0,0,0,0,0,0)).2.2.2.2,x.1)) λy=>M.pure y
def VI(x:pb×Int):M Int:=
 letI c:=x.1.2;letI b:=IntKind.wrap .i64 (x.2-x.1.1);letI a:=IntKind.wrap .i64 (c.2.1*IntKind.wrap .i64 (Int.tdiv (IntKind.wrap .i64 (IntKind.wrap .i64 (Add.add (if b > 0 then b else 0) c.1)-1)) c.1));if decide (x.2>=c.2.2.2.1)=true then M.pure x.1.cI else M.ae (c.1≠0) (M.pure (if a<c.2.2.1 then a else c.2.2.1))
def ajB(x:Int):M Int:=
 M.pure x
def VJ(Ds:Int->M Bool)(x:Option dB×Option Int):M Bool:=
 M.bind (Ds (Option.getD x.2 0)) λy=>M.pure y
def VK(x:Option dB×(Option ds->M (Int×Bool))):M ((Int×Int)×Bool):=
 letI b:=(Option.getD x.1 (([],[],[],[],0,0,0,0,0,0,0),[],[])).2.2;M.bind (M.ae (Option.isSome x.1=true) (M.loop (λ(A:(Option ds->M (Int×Bool))×Bool×List (Option ds)×Int×Int×(Int×Int)×Unit)=>letI c:=A.2.2;letI a:=c.2.2.1;if decide (a<c.2.1)=true then M.bind (M.ae (0<=a/\a<Int.ofNat (List.length c.1)) (M.bind (A.1 (List.getD c.1 (Int.toNat a) none)) (λy=>if (!y.2)=true then M.pure (V.next (A.1,A.2.1,c.1,c.2.1,a,A.cI,())) else if (!A.2.1)=true then M.pure (V.next (A.1,true,c.1,c.2.1,a,(y.1,y.1),())) else M.pure (V.next (A.1,A.2.1,c.1,c.2.1,a,(if y.1<A.cI.1 then y.1 else A.cI.1,if y.1 > A.cI.2 then y.1 else A.cI.2),()))))) (V.bm (λ(A:(Option ds->M (Int×Bool))×Bool×List (Option ds)×Int×Int×(Int×Int)×Unit)=>M.pure (V.next (A.1,A.2.1,A.2.2.1,A.2.2.2.1,IntKind.wrap .i64 (Add.add A.2.2.2.2.1 1),A.cI,())))) else M.bind (M.pure (V.next (A.2.1,A.cI,()))) λr=>M.pure (V.done r)) (x.2,false,b,Int.ofNat (List.length b),0,(0,0),()))) (V.bm (λ(A:Bool×(Int×Int)×Unit)=>M.pure (A.2.1,A.1)))
def VL(Dp:Option ds×Int×Int->M (bg×Bool))(x:Option ds×Option Int×Option aP):M (Int×Bool):=
 M.bind (M.loop (λ(A:Option ds×Int×aP×Int×Int×Unit)=>letI a:=A.2.2.2;if decide (a.2.1<10)=true then M.bind (M.bind (Dp (A.1,a.2.1,A.2.1)) (λy=>if y.2=true then M.pure (V.next (A.1,A.2.1,A.2.2.1,IntKind.wrap .i64 (Add.add a.1 A.2.2.1.2.2.2.2.2.2.2.2.2.2),a.2.1,())) else M.pure (V.next (A.1,A.2.1,A.2.2.1,a.1,a.2.1,())))) (V.bm (λ(A:Option ds×Int×aP×Int×Int×Unit)=>M.pure (V.next (A.1,A.2.1,A.2.2.1,A.2.2.2.1,IntKind.wrap .i64 (Add.add A.2.2.2.2.1 1),())))) else M.bind (M.pure (V.next (a.1,()))) λr=>M.pure (V.done r)) (x.1,Option.getD x.2.1 0,Option.getD x.2.2 ([],[],[],[],0,0,0,0,0,0,0),0,0,())) (V.bm (λ(A:Int×Unit)=>M.pure (A.1,true)))
def VM(z1:Int->M Bool)(x:Option dB×Option Int):M Bool:=
 M.bind (z1 (Option.getD x.2 0)) λy=>M.pure y
def VN(jc:Int×Int×Int->M Bool)(x:Int):M Bool:=
 M.bind (jc (x,0,99)) λy=>M.pure y
def VO(G5:pb×Int->M Int)(Nr:Option dB×Option ds->M (List bg->Prop))(x:Option ds×Option (Option dB)×Option Int×Option aP):M (Int×Bool):=
 M.bind (Nr (Option.getD x.2.1 none,x.1)) λy=>M.bind (M.any y) λL=>M.bind (jx (λ(A:Int×aP×Int×Unit) (y:aT×Int)=>letI a:=(A.2.1.2.2.2.2,y.2);M.bind (if decide (y.1.2.2.2.2.2=A.1)=true then M.ae (G5 a).b4 (M.pure (cO.normal,IntKind.wrap .i64 (Add.add A.2.2.1 (M.val (G5 a) 0)),())) else M.pure (cO.normal,A.2.2.1,())) λp=>M.pure (p.1,A.1,A.2.1,p.2.1,())) L (Option.getD x.2.2.1 0,Option.getD x.2.2.2 ([],[],[],[],0,0,0,0,0,0,0),0,())) λp=>rV (M.pure (p.2.2.2.1,true)) (λid=>if id=0 then M.pure (p.2.2.2.1,true) else M.fail) M.fail p.1
def ajC(ajD:Option (Option ds)×Option (Option dB)->List bg->Prop)(x:Option dB×Option ds):M (List bg->Prop):=
 M.pure (ajD (some x.2,some x.1))
def VP(jc:Int×Int×Int->M Bool)(Ns:List aT×(Int×Int×Int×Int×Int×Int->M Bool)->M Bool)(ajE:Int×Int×Int×Int×Int×Int×Int->M Bool)(M_:z1'×(Int->M Bool)->M Bool)(ajF:aT×Option aP->M Bool)(ajG:Int->M Bool)(x:aP):M Bool:=
 letI k:=Int.ofNat (List.length x.1);letI d:=decide (k > 3)||decide (Int.ofNat (List.length x.2.1) > 12)||decide (Int.ofNat (List.length x.2.2.1) > 12)||decide (Int.ofNat (List.length x.2.2.2.1) > 4);M.bind (bS (!d) (ajE x.2.2.2.2) false) λy=>if (d||!y)=true then M.pure false else M.bind (M.loop (λ(A:z4'×Int×Int×aP×Unit)=>letI l:=A.2.2.1;letI e:=List.getD A.1 (Int.toNat l) (0,0);if decide (l<A.2.1)=true then M.ae (0<=l/\l<Int.ofNat (List.length A.1)) (M.bind (jc (e.1,-30,e.2)) (λy=>if (!y||decide (e.2 > 30))=true then M.bind (M.bind (M.pure false) (λr=>M.pure (V.done r))) λr=>M.pure (V.done r) else M.pure (V.next (A.1,A.2.1,IntKind.wrap .i64 (Add.add l 1),A.2.2.2.1,())))) else M.bind (M.pure (V.next (A.2.2.2.1,()))) λr=>M.pure (V.done r)) (x.1,k,0,x,())) (V.bm (λ(A:aP×Unit)=>M.bind (M.loop (λ(A:z4'×Int×Int×aP×Unit)=>letI m:=A.2.2.2.1;letI f:=A.2.2.1;letI j:=decide (f > 0);letI i:=IntKind.wrap .i64 (f-1);letI b:=List.getD A.1 (Int.toNat f) (0,0);letI a:=!(M.val (jc (b.1,0,b.2)) false)||decide (b.2 > 9999);letI h:=(!a)=true;letI c:=(!a&&j)=true;letI g:=c->c/\True/\True;if decide (f<A.2.1)=true then M.ae (0<=f/\f<Int.ofNat (List.length A.1)) (M.ae (jc (b.1,0,b.2)).b4 (M.ae ((!(!(M.val (jc (b.1,0,b.2)) false)))=true->(!(!(M.val (jc (b.1,0,b.2)) false)))=true/\True/\True) (M.ae ((!(!(M.val (jc (b.1,0,b.2)) false)))=true->((!(!(M.val (jc (b.1,0,b.2)) false)))=true/\True)/\True/\True) (M.ae (True/\((!(M.val (jc (b.1,0,b.2)) false))=false->(!(!(M.val (jc (b.1,0,b.2)) false)))=true)) (M.ae (h->(h/\True)/\True/\True) (M.ae (h->True/\True/\h) (M.ae g (M.ae g (M.ae (c->(c/\True)/\True/\True) (M.ae (c->(c/\c)/\(0<=i/\i<Int.ofNat (List.length m.2.2.2.1))/\True) (M.ae g (M.ae g (M.ae (c->(c/\c)/\True/\True) (M.ae (h->(h/\(j=true->c))/\True/\True) (M.ae (True/\(a=false->h)) (if (a||j&&decide (b.1<=(List.getD m.2.2.2.1 (Int.toNat i) (0,0)).2))=true then M.bind (M.bind (M.pure false) (λr=>M.pure (V.done r))) λr=>M.pure (V.done r) else M.pure (V.next (A.1,A.2.1,IntKind.wrap .i64 (Add.add f 1),m,())))))))))))))))))) else M.bind (M.pure (V.next (m,()))) λr=>M.pure (V.done r)) (A.1.2.2.2.1,Int.ofNat (List.length A.1.2.2.2.1),0,A.1,())) (V.bm (λ(A:aP×Unit)=>M.bind (Ns (A.1.2.1,λx=>ajF (x,some A.1))) λy=>M.bind (bS (!y) (M_ (A.1.2.2.1,ajG)) false) λbJ=>M.pure (!y&&!bJ)))))
def ajH(Dq:(z1'->Prop)->M (z1'))(Nt:List (Int×aT)->M (z1'->Prop))(x:List aT):M (List aT×Bool):=
 M.bind (M.loop (λ(A:List aT×Int×Int×List (Int×aT)×Unit)=>letI e:=A.2.2;letI b:=List.getD A.1 (Int.toNat e.1) (0,0,0,0,0,0);letI c:=Option.map (λx=>x.2) (List.find? (λp=>decide (b.1=p.1)) e.2.1);letI a:=Option.getD c (0,0,0,0,0,0);if decide (e.1<A.2.1)=true then M.ae (0<=e.1/\e.1<Int.ofNat (List.length A.1)) (if (Option.isSome c&&!(decide (a.1=b.1)&&(decide (a.2.1=b.2.1)&&(decide (a.2.2.1=b.2.2.1)&&(decide (a.2.2.2.1=b.2.2.2.1)&&(decide (a.2.2.2.2.1=b.2.2.2.2.1)&&decide (a.2.2.2.2.2=b.2.2.2.2.2)))))))=true then M.bind (M.bind (M.pure ([],false)) (λr=>M.pure (V.done r))) λr=>M.pure (V.done r) else M.pure (V.next (A.1,A.2.1,IntKind.wrap .i64 (Add.add e.1 1),kA e.2.1 b.1 b,()))) else M.bind (M.pure (V.next (e.2.1,()))) λr=>M.pure (V.done r)) (x,Int.ofNat (List.length x),0,[],())) (V.bm (λ(A:List (Int×aT)×Unit)=>M.bind (M.bind (Nt A.1) (λy=>M.bind (Dq y) λy=>M.loop (λ(A:z1'×Int×Int×List aT×List (Int×aT)×Unit)=>letI d:=A.2.2;if decide (d.1<A.2.1)=true then M.ae (0<=d.1/\d.1<Int.ofNat (List.length A.1)) (M.ae (bX (Add.add (List.length d.2.1) (Add.add 0 1))) (M.pure (V.next (A.1,A.2.1,IntKind.wrap .i64 (Add.add d.1 1),d.2.1++[Option.getD (Option.map (λx=>x.2) (List.find? (λp=>decide (List.getD A.1 (Int.toNat d.1) 0=p.1)) d.2.2.1)) (0,0,0,0,0,0)],d.2.2.1,())))) else M.bind (M.pure (V.next (d.2.1,()))) λr=>M.pure (V.done r)) (y,Int.ofNat (List.length y),0,[],A.1,()))) (V.bm (λ(A:List aT×Unit)=>M.pure (A.1,true)))))
def VQ(fD:Int×Int×Int->M Bool)(ajI:Int×Int×Int×Int×Int×Int×Int->M Bool)(VR:aP×Int×Int×Int×Int×Int×Int->M Bool)(x:aP):M Bool:=
 letI e:=decide (Int.ofNat (List.length x.1) > 3)||decide (Int.ofNat (List.length x.2.1) > 12)||decide (Int.ofNat (List.length x.2.2.1) > 12)||decide (Int.ofNat (List.length x.2.2.2.1) > 4);M.bind (bS (!e) (ajI x.2.2.2.2) false) λy=>if (e||!y)=true then M.pure false else M.bind (M.loop (λ(A:Int×aP×Unit)=>letI f:=A.1<Int.ofNat (List.length A.2.1.1);letI o:=0<=A.1/\f;letI b:=List.getD A.2.1.1 (Int.toNat A.1) (0,0);if decide f=true then M.ae o (M.ae o (M.ae (fD (b.1,-30,b.2)).b4 (M.ae ((!(!(M.val (fD (b.1,-30,b.2)) false)))=true->(!(!(M.val (fD (b.1,-30,b.2)) false)))=true/\True/\True) (M.ae ((!(!(M.val (fD (b.1,-30,b.2)) false)))=true->((!(!(M.val (fD (b.1,-30,b.2)) false)))=true/\(!(!(M.val (fD (b.1,-30,b.2)) false)))=true)/\o/\True) (M.ae ((!(!(M.val (fD (b.1,-30,b.2)) false)))=true->(!(!(M.val (fD (b.1,-30,b.2)) false)))=true/\True/\True) (M.ae ((!(!(M.val (fD (b.1,-30,b.2)) false)))=true->(!(!(M.val (fD (b.1,-30,b.2)) false)))=true/\True/\True) (M.ae ((!(!(M.val (fD (b.1,-30,b.2)) false)))=true->((!(!(M.val (fD (b.1,-30,b.2)) false)))=true/\True)/\True/\True) (M.ae (True/\((!(M.val (fD (b.1,-30,b.2)) false))=false->(!(!(M.val (fD (b.1,-30,b.2)) false)))=true)) (if (!(M.val (fD (b.1,-30,b.2)) false)||decide (b.2 > 30))=true then M.bind (M.bind (M.pure false) (λr=>M.pure (V.done r))) λr=>M.pure (V.done r) else M.pure (V.next (IntKind.wrap .i64 (Add.add A.1 1),A.2.1,()))))))))))) else M.bind (M.pure (V.next (A.2.1,()))) λr=>M.pure (V.done r)) (0,x,())) (V.bm (λ(A:aP×Unit)=>M.bind (M.loop (λ(A:Int×aP×Unit)=>letI m:=A.1<Int.ofNat (List.length A.2.1.2.1);letI h:=(A.2.1,List.getD A.2.1.2.1 (Int.toNat A.1) (0,0,0,0,0,0));if decide m=true then M.ae (0<=A.1/\m) (M.ae (VR h).b4 (if (!(M.val (VR h) false))=true then M.bind (M.bind (M.pure false) (λr=>M.pure (V.done r))) λr=>M.pure (V.done r) else M.pure (V.next (IntKind.wrap .i64 (Add.add A.1 1),A.2.1,())))) else M.bind (M.pure (V.next (A.2.1,()))) λr=>M.pure (V.done r)) (0,A.1,())) (V.bm (λ(A:aP×Unit)=>M.bind (M.loop (λ(A:Int×aP×Unit)=>letI l:=A.1<Int.ofNat (List.length A.2.1.2.2.1);if decide l=true then M.ae (0<=A.1/\l) (M.bind (fD (List.getD A.2.1.2.2.1 (Int.toNat A.1) 0,0,99)) (λy=>if (!y)=true then M.bind (M.bind (M.pure false) (λr=>M.pure (V.done r))) λr=>M.pure (V.done r) else M.pure (V.next (IntKind.wrap .i64 (Add.add A.1 1),A.2.1,())))) else M.bind (M.pure (V.next (A.2.1,()))) λr=>M.pure (V.done r)) (0,A.1,())) (V.bm (λ(A:aP×Unit)=>M.bind (M.loop (λ(A:Int×aP×Unit)=>letI p:=A.2.1.2.2.2.1;letI n:=decide (A.1 > 0);letI k:=IntKind.wrap .i64 (A.1-1);letI g:=Int.ofNat (List.length p);letI c:=List.getD p (Int.toNat A.1) (0,0);letI a:=!(M.val (fD (c.1,0,c.2)) false)||decide (c.2 > 9999);letI j:=(!a)=true;letI d:=(!a&&n)=true;letI i:=d->d/\True/\True;if decide (A.1<g)=true then M.ae (0<=A.1/\A.1<g) (M.ae (fD (c.1,0,c.2)).b4 (M.ae ((!(!(M.val (fD (c.1,0,c.2)) false)))=true->(!(!(M.val (fD (c.1,0,c.2)) false)))=true/\True/\True) (M.ae ((!(!(M.val (fD (c.1,0,c.2)) false)))=true->((!(!(M.val (fD (c.1,0,c.2)) false)))=true/\True)/\True/\True) (M.ae (True/\((!(M.val (fD (c.1,0,c.2)) false))=false->(!(!(M.val (fD (c.1,0,c.2)) false)))=true)) (M.ae (j->(j/\True)/\True/\True) (M.ae (j->True/\True/\j) (M.ae i (M.ae i (M.ae (d->(d/\True)/\True/\True) (M.ae (d->(d/\d)/\(0<=k/\k<g)/\True) (M.ae i (M.ae i (M.ae (d->(d/\d)/\True/\True) (M.ae (j->(j/\(n=true->d))/\True/\True) (M.ae (True/\(a=false->j)) (if (a||n&&decide (c.1<=(List.getD p (Int.toNat k) (0,0)).2))=true then M.bind (M.bind (M.pure false) (λr=>M.pure (V.done r))) λr=>M.pure (V.done r) else M.pure (V.next (IntKind.wrap .i64 (Add.add A.1 1),A.2.1,())))))))))))))))))) else M.bind (M.pure (V.next ())) λr=>M.pure (V.done r)) (0,A.1,())) (V.bm (λ(A:Unit)=>M.pure true))))))))
def VS(x:aT×Int×Int×Int×Int×Int×Int):M Bool:=
 letI a:=decide (x.1.1=x.2.1);M.pure (a&&!(a&&(decide (x.1.2.1=x.2.2.1)&&(decide (x.1.2.2.1=x.2.2.2.1)&&(decide (x.1.2.2.2.1=x.2.2.2.2.1)&&(decide (x.1.2.2.2.2.1=x.cI)&&decide (x.1.2.2.2.2.2=x.2.2.2.2.2.2)))))))
def VT(kZ:Int×Int×Int->M Bool)(x:Int×Int×Int):M Bool:=
 M.bind (kZ x) λy=>M.pure y
def ajJ(Ds:Int->M Bool)(x:Option dB×Option Int):M Bool:=
 M.bind (Ds (Option.getD x.2 0)) λy=>M.pure y
def VU(x:aP×Int×Int):M Int:=
 M.bind (M.loop (λ(A:Int×Int×Int×z4'×Int×Int×Unit)=>letI c:=A.2.2.2;letI b:=IntKind.wrap .i64 (A.2.1-1);letI a:=List.getD c.1 (Int.toNat A.cI) (0,0);if decide (A.cI<c.2.1)=true then M.ae (0<=A.cI/\A.cI<Int.ofNat (List.length c.1)) (M.pure (V.next (A.1,A.2.1,IntKind.wrap .i64 (A.2.2.1-(if IntKind.wrap .i64 (Add.add (IntKind.wrap .i64 ((if b<a.2 then b else a.2)-(if A.1 > a.1 then A.1 else a.1))) 1) > 0 then IntKind.wrap .i64 (Add.add (IntKind.wrap .i64 ((if b<a.2 then b else a.2)-(if A.1 > a.1 then A.1 else a.1))) 1) else 0)),c.1,c.2.1,IntKind.wrap .i64 (Add.add A.cI 1),()))) else M.bind (M.pure (V.next (A.2.2.1,()))) λr=>M.pure (V.done r)) (x.2.1,x.2.2,IntKind.wrap .i64 (x.2.2-x.2.1),x.1.2.2.2.1,Int.ofNat (List.length x.1.2.2.2.1),0,())) (V.bm (λ(A:Int×Unit)=>M.pure A.1))
def VV(x:z4'):M (z4'):=
 M.bind (M.any (λb=>b=true->x=[])) λy=>if y=true then M.pure [] else M.ae (bX (Add.add 0 (List.length x))) (M.pure ([]++x))
def VW(hl:z1'×Int->M Bool)(x:aT×Option aP):M Bool:=
 M.bind (hl ((Option.getD x.2 ([],[],[],[],0,0,0,0,0,0,0)).2.2.1,x.1.1)) λy=>M.pure y
def VX(Ns:List aT×(Int×Int×Int×Int×Int×Int->M Bool)->M Bool)(ajK:aT×Option Int->M Bool)(x:Option dB×Option Int):M Bool:=
 M.ae (Option.isSome x.1=true) (M.bind (Ns ((Option.getD x.1 (([],[],[],[],0,0,0,0,0,0,0),[],[])).2.1,λgZ=>ajK (gZ,some (Option.getD x.2 0)))) (λy=>M.pure y))
def ajL(Nu:List aT×(Int×Int×Int×Int×Int×Int->M Bool)->M Int)(x:List aT×(Int×Int×Int×Int×Int×Int->M Bool)):M Bool:=
 M.bind (Nu x) λy=>M.pure (decide (y>=0))
def ajM(x:aT×Option Int):M Bool:=
 M.pure (decide (x.1.1=Option.getD x.2 0)&&decide (x.1.2.2.2.1=1))
def VY(Nr:Option dB×Option ds->M (List bg->Prop))(x:Option ds×Option (Option dB)×Option Int×Option (Int->M Int)):M (Int×Bool):=
 M.bind (Nr (Option.getD x.2.1 none,x.1)) λy=>M.bind (M.any y) λL=>M.bind (jx (λ(A:Int×(Int->M Int)×Int×Bool×Unit) (y:aT×Int)=>M.bind (if decide (y.1.1=A.1)=true then M.bind (A.2.1 y.2) λy=>M.pure (cO.ret,y,true,()) else M.pure (cO.normal,A.2.2.1,A.2.2.2.1,())) λp=>M.pure (p.1,A.1,A.2.1,p.2.1,p.2.2.1,())) L (Option.getD x.2.2.1 0,Option.getD x.2.2.2 λx=>{ b4:=False,bB:=λx=>False },0,false,())) λp=>rV (M.pure (0,false)) (λid=>if id=0 then M.pure (0,false) else M.fail) (M.pure (p.2.2.2.1,p.2.2.2.2.1)) p.1
def VZ(jc:Int×Int×Int->M Bool)(x:Int×Int×Int×Int×Int×Int×Int):M Bool:=
 M.bind (M.loop (λ(A:Int×Int×pb×z1'×Unit)=>letI a:=A.2;if decide (a.1<A.1)=true then M.ae (0<=a.1/\a.1<Int.ofNat (List.length a.2.2.1)) (M.bind (jc (List.getD a.2.2.1 (Int.toNat a.1) 0,0,100000)) (λy=>if (!y)=true then M.bind (M.bind (M.pure false) (λr=>M.pure (V.done r))) λr=>M.pure (V.done r) else M.pure (V.next (A.1,IntKind.wrap .i64 (Add.add a.1 1),a.2.1,a.2.2.1,())))) else M.bind (M.pure (V.next (a.2.1,()))) λr=>M.pure (V.done r)) (Int.ofNat (Add.add (Add.add (Add.add (Add.add 0 1) 1) 1) 1),0,x,[x.2.2.1,x.2.2.2.1,x.cI,x.2.2.2.2.2.2],())) (V.bm (λ(A:pb×Unit)=>M.bind (jc (A.1.1,0,9999)) λy=>M.bind (bS y (jc (A.1.2.1,1,9999)) false) λbJ=>M.bind (bS (y&&bJ) (jc (A.1.2.2.2.2.1,1,9999)) false) λdi=>M.pure (y&&bJ&&di)))
def V0(ajN:aP×Int×Int×Int×Int×Int×Int->M Bool)(x:aT×Option aP):M Bool:=
 M.bind (ajN (Option.getD x.2 ([],[],[],[],0,0,0,0,0,0,0),x.1)) λy=>M.pure (!y)
def V1(jc:Int×Int×Int->M Bool)(z1:Int->M Bool)(x:aP×Int×Int×Int×Int×Int×Int):M Bool:=
 letI c:=x.2.2.2.2;letI a:=decide (c.1=1)||decide (c.1=2)&&decide (c.2.2=0);M.bind (bS a (z1 x.2.1) false) λy=>M.bind (bS (a&&y) (z1 c.2.2) false) λbJ=>M.bind (bS (a&&y&&bJ) (jc (x.2.2.1,0,IntKind.wrap .i64 (Int.ofNat (List.length x.1.1)-1))) false) λdi=>letI b:=a&&y&&bJ&&di;M.bind (bS b (jc (x.2.2.2.1,0,9999)) false) λfI=>M.bind (bS (b&&fI) (jc (x.cI,0,9)) false) λl7=>M.pure (b&&fI&&l7)
def V2(z1:Int->M Bool)(x:Int):M Bool:=
 M.bind (z1 x) λy=>M.pure (!y)
def ajO(ajP:Option (List (Int×aT))->z1'->Prop)(x:List (Int×aT)):M (z1'->Prop):=
 M.pure (ajP (some x))
def V3(fD:Int×Int×Int->M Bool)(x:Int×Int×Int×Int×Int×Int×Int):M Bool:=
 M.bind (fD (x.1,0,9999)) λy=>M.bind (bS y (fD (x.2.1,1,9999)) false) λbJ=>M.bind (bS (y&&bJ) (fD (x.2.2.2.2.1,1,9999)) false) λdi=>M.bind (bS (y&&bJ&&di) (fD (x.2.2.1,0,100000)) false) λfI=>letI a:=y&&bJ&&di&&fI;M.bind (bS a (fD (x.2.2.2.1,0,100000)) false) λl7=>M.bind (bS (a&&l7) (fD (x.cI,0,100000)) false) λDm=>M.bind (bS (a&&l7&&Dm) (fD (x.2.2.2.2.2.2,0,100000)) false) λNc=>M.pure (a&&l7&&Dm&&Nc)
def V4(fD:Int×Int×Int->M Bool)(x:aP×Int×Int×Int×Int×Int×Int):M Bool:=
 letI b:=x.2.2.2.2;M.bind (fD (x.2.1,0,99)) λy=>M.bind (bS (!(!y)) (fD (x.2.2.1,0,IntKind.wrap .i64 (Int.ofNat (List.length x.1.1)-1))) false) λbJ=>M.bind (bS (!(!y||!bJ)) (fD (x.2.2.2.1,0,9999)) false) λdi=>letI a:=!y||!bJ||!di;M.bind (bS (!a) (fD (x.cI,0,9)) false) λfI=>M.bind (bS (!(a||!fI)) (fD (b.2.2,0,99)) false) λl7=>if (a||!fI||!l7)=true then M.pure false else M.pure (decide (b.1=1)||decide (b.1=2)&&decide (b.2.2=0))
def V5(awZ:Int->M Int)(ajQ:Int->M Int)(x:Int):M Int:=
 M.bind (ajQ x) λy=>M.pure y
def ajR(x:List aT×(Int×Int×Int×Int×Int×Int->M Bool)):M Int:=
 M.bind (M.loop (λ(A:List aT×(Int×Int×Int×Int×Int×Int->M Bool)×Int×Int×Unit)=>letI a:=A.2.2.2.1;if decide (a<A.2.2.1)=true then M.ae (0<=a/\a<Int.ofNat (List.length A.1)) (M.bind (A.2.1 (List.getD A.1 (Int.toNat a) (0,0,0,0,0,0))) (λy=>if y=true then M.bind (M.bind (M.pure a) (λr=>M.pure (V.done r))) λr=>M.pure (V.done r) else M.pure (V.next (A.1,A.2.1,A.2.2.1,IntKind.wrap .i64 (Add.add a 1),())))) else M.bind (M.pure (V.next ())) λr=>M.pure (V.done r)) (x.1,x.2,Int.ofNat (List.length x.1),0,())) (V.bm (λ(A:Unit)=>M.pure (-1)))
def Dt(x:Int):M Int:=
 M.bind (if decide (x>=4294967296)=true then M.ae ((0:Int)<=32) (M.pure (V.next (iU .u64 x 32,32,()))) else M.pure (V.next (x,0,()))) (V.bm (λ(A:Int×Int×Unit)=>M.bind (if decide (A.1>=65536)=true then M.ae ((0:Int)<=16) (M.pure (V.next (iU .u64 A.1 16,IntKind.wrap .i64 (Add.add A.2.1 16),()))) else M.pure (V.next (A.1,A.2.1,()))) (V.bm (λ(A:Int×Int×Unit)=>M.bind (if decide (A.1>=256)=true then M.ae ((0:Int)<=8) (M.pure (V.next (iU .u64 A.1 8,IntKind.wrap .i64 (Add.add A.2.1 8),()))) else M.pure (V.next (A.1,A.2.1,()))) (V.bm (λ(A:Int×Int×Unit)=>letI a:=IntKind.wrap .u8 A.1;M.ae (0<=a/\a<Int.ofNat 256) (M.pure (IntKind.wrap .i64 (Add.add A.2.1 (IntKind.wrap .i64 (Int.ofNat (List.getD aje (Int.toNat a) 0).1.1.1)))))))))))
def V6(x:z1'):M (z1'):=
 M.bind (M.any (λb=>b=true->x=[])) λy=>if y=true then M.pure [] else M.ae (bX (Add.add 0 (List.length x))) (M.pure ([]++x))
def V7(ajS:Int×Int->M Int)(x:bg×aT×Int):M Int:=
 M.bind (ajS (x.1.2,x.2.2)) λy=>M.pure y
def V8(V9:Int->M Bool)(x:Int×Int):M Int:=
 M.bind (V9 x.1) λy=>M.bind (V9 x.2) λbJ=>if y=true then if bJ=true then M.pure 0 else M.pure (-1) else if bJ=true then M.pure 1 else if decide (x.1<x.2)=true then M.pure (-1) else if decide (x.1 > x.2)=true then M.pure 1 else M.pure 0
def V_(x:Int):M Bool:=
 M.pure (decide (x≠x))
def V'(x:(z1'->Prop)×Unit):M (z1'×Unit):=
 M.bind (M.any x.1) λL=>M.bind (jx (λ(A:z1'×Unit) (y:Int)=>M.bind (M.ae (bX (Add.add (List.length A.1) (Add.add 0 1))) (M.pure (cO.normal,A.1++[y],()))) λp=>M.pure (p.1,p.2.1,())) L ([],())) λp=>rV (M.pure (p.2.1,())) (λid=>if id=0 then M.pure (p.2.1,()) else M.fail) M.fail p.1
def Wa(ajT:(z1'->Prop)×Unit->M (z1'×Unit))(x:(z1'->Prop)×Unit):M (z1'×Unit):=
 M.bind (ajT (x.1,())) λy=>M.pure (y.1,())
def Wb(Nu:List aT×(Int×Int×Int×Int×Int×Int->M Bool)->M Int)(x:(Int×Int×Int×Int×Int×Int->M Bool)×List aT×Unit):M ((Nat×Nat)×List aT×Unit):=
 M.bind (Nu (x.2.1,x.1)) λy=>if decide (y=-1)=true then M.pure ((0,List.length x.2.1),x.2.1,()) else M.bind (M.loop (λ(A:(Int×Int×Int×Int×Int×Int->M Bool)×Int×Int×List aT×Unit)=>letI g:=A.2.1;letI f:=A.2.2;letI e:=List.getD f.2.1 (Int.toNat f.1) (0,0,0,0,0,0);letI c:=Int.ofNat (List.length f.2.1);if decide (f.1<c)=true then M.bind (M.ae (0<=f.1/\f.1<c) (M.bind (A.1 e) (λy=>if (!y)=true then M.ae (0<=g/\g<c) (M.pure (V.next (A.1,IntKind.wrap .i64 (Add.add g 1),f.1,List.set f.2.1 (Int.toNat g) e,()))) else M.pure (V.next (A.1,g,f.1,f.2.1,()))))) (V.bm (λ(A:(Int×Int×Int×Int×Int×Int->M Bool)×Int×Int×List aT×Unit)=>M.pure (V.next (A.1,A.2.1,IntKind.wrap .i64 (Add.add A.2.2.1 1),A.2.2.2.1,())))) else M.bind (M.pure (V.next (g,f.2.1,()))) λr=>M.pure (V.done r)) (x.1,y,IntKind.wrap .i64 (Add.add y 1),x.2.1,())) (V.bm (λ(A:Int×List aT×Unit)=>letI d:=Int.toNat A.1;letI b:=Int.ofNat (List.length A.2.1);letI a:=List.take d A.2.1++List.replicate (Int.toNat b-d) (0,0,0,0,0,0)++List.drop (Add.add d (List.length (List.replicate (Int.toNat b-d) ((0,0,0,0,0,0):aT)))) A.2.1;M.ae (0<=A.1/\A.1<=b/\b<=b) (M.ae True (M.ae ((0:Int)<=0/\0<=A.1/\A.1<=Int.ofNat (List.length a)) (M.pure ((Int.toNat 0,d),a,()))))))
def G6(zY:aP×Int×Int->M Int)(x:Nat×Option ds×Option dB×(Nat×(List bg->Prop)×List bg×Bool)×Unit):M ((Nat×(List bg->Prop)×List bg×Bool)×Unit):=
 M.ae (Option.isSome x.2.1=true) (M.loop (λ(A:Nat×Option dB×List (List bg)×Int×(Nat×(List bg->Prop)×List bg×Bool)×Unit)=>letI g:=A.2.2.2;if decide (g.1<10)=true then M.bind (M.ae (0<=g.1/\g.1<Int.ofNat 10) (M.loop (λ(A:Nat×Option dB×List bg×Int×List (List bg)×Int×(Nat×(List bg->Prop)×List bg×Bool)×Unit)=>letI h:=A.e6;letI f:=A.2.2;letI d:=Int.ofNat (List.length f.1);letI i:=0<=f.2.1/\f.2.1<d;letI c:=IntKind.wrap .i64 (Add.add f.2.1 1);letI b:=List.getD f.1 (Int.toNat f.2.1) ((0,0,0,0,0,0),0);letI a:=((Option.getD A.2.1 (([],[],[],[],0,0,0,0,0,0,0),[],[])).1,b.2,(List.getD f.1 (Int.toNat c) ((0,0,0,0,0,0),0)).2);if decide (c<d)=true then M.ae i (M.ae (Option.isSome A.2.1=true) (M.ae i (M.ae (0<=c/\c<d) (M.ae (zY a).b4 (M.bind (M.ae (A.1=h.1/\h.2.2.2=false/\(∃ (T:List bg),h.2.1 (h.2.2.1++(b.1,M.val (zY a) 0)::T))) (M.any (λx=>True))) (λy=>letI e:=(h.1,h.2.1,h.2.2.1++[(b.1,M.val (zY a) 0)],!y);if (!y)=true then M.bind (M.bind (M.bind (M.pure (e,())) (λr=>M.pure (V.done r))) (λr=>M.pure (V.done r))) λr=>M.pure (V.done r) else M.pure (V.next (A.1,A.2.1,f.1,IntKind.wrap .i64 (Add.add f.2.1 2),f.2.2.1,A.cI,e,())))))))) else M.bind (M.pure (V.next (A.1,A.2.1,f.2.2.1,A.cI,h,()))) λr=>M.pure (V.done r)) (A.1,A.2.1,List.getD A.2.2.1 (Int.toNat g.1) [],0,A.2.2.1,g.1,g.2.1,()))) (V.bm (λ(A:Nat×Option dB×List (List bg)×Int×(Nat×(List bg->Prop)×List bg×Bool)×Unit)=>M.pure (V.next (A.1,A.2.1,A.2.2.1,IntKind.wrap .i64 (Add.add A.2.2.2.1 1),A.2.2.2.2.1,())))) else M.bind (M.pure (g.2.1,())) λr=>M.pure (V.done r)) (x.1,x.2.2.1,(Option.getD x.2.1 ([],[[],[],[],[],[],[],[],[],[],[]])).2,0,x.2.2.2.1,()))
def Wc(x:Int×Int×(bg×aT×Int->M Int)×List bg×Unit):M (List bg×Unit):=
 M.loop (λ(A:Int×Int×(bg×aT×Int->M Int)×Int×List bg×Unit)=>letI i:=A.2.2.2;if decide (i.1<A.2.1)=true then M.bind (M.loop (λ(A:Int×Int×(bg×aT×Int->M Int)×Int×Int×List bg×Unit)=>letI k:=A.2.2;letI d:=Int.ofNat (List.length A.cI);letI c:=k.2.2.1;letI j:=0<=c/\c<d;letI g:=decide (c > A.1);letI f:=List.getD A.cI (Int.toNat c) ((0,0,0,0,0,0),0);letI b:=IntKind.wrap .i64 (c-1);letI e:=List.getD A.cI (Int.toNat b) ((0,0,0,0,0,0),0);letI h:=List.set A.cI (Int.toNat c) e;letI a:=g=true;letI l:=a->a/\True/\True;M.ae (a->(a/\a)/\j/\True) (M.ae l (M.ae (a->(a/\True)/\True/\True) (M.ae (a->(a/\a)/\(0<=b/\b<d)/\True) (M.ae l (M.ae (a->a/\a/\a/\True) (M.bind (bS g (k.1 (f,e)) 0) (λy=>if (g&&decide (y<0))=true then M.ae (0<=b/\b<d) (M.ae j (M.ae j (M.ae (0<=b/\b<Int.ofNat (List.length h)) (M.pure (V.next (A.1,A.2.1,k.1,k.2.1,b,List.set h (Int.toNat b) f,())))))) else M.bind (M.pure (V.next (A.1,A.2.1,k.1,k.2.1,A.cI,()))) λr=>M.pure (V.done r))))))))) (A.1,A.2.1,A.2.2.1,i.1,i.1,i.2.1,())) (V.bm (λ(A:Int×Int×(bg×aT×Int->M Int)×Int×List bg×Unit)=>M.pure (V.next (A.1,A.2.1,A.2.2.1,IntKind.wrap .i64 (Add.add A.2.2.2.1 1),A.2.2.2.2.1,())))) else M.bind (M.pure (i.2.1,())) λr=>M.pure (V.done r)) (x.1,x.2.1,x.2.2.1,IntKind.wrap .i64 (Add.add x.1 1),x.2.2.2.1,())
def Nv(x:Nat×z4'×(Nat×(z1'->Prop)×z1'×Bool)×Unit):M ((Nat×(z1'->Prop)×z1'×Bool)×Unit):=
 M.bind (M.pure ()) λy=>M.loop (λ(A:Nat×(Nat×(z1'->Prop)×z1'×Bool)×(Option (Int×Int)×z4')×Unit)=>letI c:=A.2.1;letI b:=A.2.2.1;M.bind (FD b.2) λy=>if Option.isSome y=true then M.bind (M.ae (Option.isSome (ny b.1 b.2 y)=true) (M.pure ())) λbJ=>M.bind (M.ae (A.1=c.1/\c.2.2.2=false/\(∃ (T:z1'),c.2.1 (c.2.2.1++Option.getD (Option.map (λx=>x.1) (ny b.1 b.2 y)) 0::T))) (M.any (λx=>True))) λdi=>letI a:=(c.1,c.2.1,c.2.2.1++[Option.getD (Option.map (λx=>x.1) (ny b.1 b.2 y)) 0],!di);if (!di)=true then M.bind (M.pure (a,())) λr=>M.pure (V.done r) else M.pure (V.next (A.1,a,(ny b.1 b.2 y,Ch b.2 y),())) else M.bind (M.pure (c,())) λr=>M.pure (V.done r)) (x.1,x.2.2.1,(none,x.2.1),())
def Nw(x:Nat×List (Int×aT)×(Nat×(z1'->Prop)×z1'×Bool)×Unit):M ((Nat×(z1'->Prop)×z1'×Bool)×Unit):=
 M.bind (M.pure ()) λy=>M.loop (λ(A:Nat×(Nat×(z1'->Prop)×z1'×Bool)×(Option pb×List (Int×aT))×Unit)=>letI c:=A.2.1;letI b:=A.2.2.1;M.bind (FD b.2) λy=>if Option.isSome y=true then M.bind (M.ae (Option.isSome (ny b.1 b.2 y)=true) (M.pure ())) λbJ=>M.bind (M.ae (A.1=c.1/\c.2.2.2=false/\(∃ (T:z1'),c.2.1 (c.2.2.1++Option.getD (Option.map (λx=>x.1) (ny b.1 b.2 y)) 0::T))) (M.any (λx=>True))) λdi=>letI a:=(c.1,c.2.1,c.2.2.1++[Option.getD (Option.map (λx=>x.1) (ny b.1 b.2 y)) 0],!di);if (!di)=true then M.bind (M.pure (a,())) λr=>M.pure (V.done r) else M.pure (V.next (A.1,a,(ny b.1 b.2 y,Ch b.2 y),())) else M.bind (M.pure (c,())) λr=>M.pure (V.done r)) (x.1,x.2.2.1,(none,x.2.1),())
def ajU(Dq:(z1'->Prop)->M (z1'))(Nt:List (Int×aT)->M (z1'->Prop))(x:List aT×Unit):M (Bool×List aT×Unit):=
 M.bind (M.loop (λ(A:List aT×Int×Int×List (Int×aT)×Unit)=>letI e:=A.2.2;letI b:=List.getD A.1 (Int.toNat e.1) (0,0,0,0,0,0);letI c:=Option.map (λx=>x.2) (List.find? (λp=>decide (b.1=p.1)) e.2.1);letI a:=Option.getD c (0,0,0,0,0,0);if decide (e.1<A.2.1)=true then M.ae (0<=e.1/\e.1<Int.ofNat (List.length A.1)) (if (Option.isSome c&&!(decide (a.1=b.1)&&(decide (a.2.1=b.2.1)&&(decide (a.2.2.1=b.2.2.1)&&(decide (a.2.2.2.1=b.2.2.2.1)&&(decide (a.2.2.2.2.1=b.2.2.2.2.1)&&decide (a.2.2.2.2.2=b.2.2.2.2.2)))))))=true then M.bind (M.bind (M.pure (false,[],())) (λr=>M.pure (V.done r))) λr=>M.pure (V.done r) else M.pure (V.next (A.1,A.2.1,IntKind.wrap .i64 (Add.add e.1 1),kA e.2.1 b.1 b,()))) else M.bind (M.pure (V.next (e.2.1,()))) λr=>M.pure (V.done r)) (x.1,Int.ofNat (List.length x.1),0,[],())) (V.bm (λ(A:List (Int×aT)×Unit)=>M.bind (M.bind (Nt A.1) (λy=>M.bind (Dq y) λy=>M.loop (λ(A:z1'×Int×Int×List aT×List (Int×aT)×Unit)=>letI d:=A.2.2;if decide (d.1<A.2.1)=true then M.ae (0<=d.1/\d.1<Int.ofNat (List.length A.1)) (M.ae (bX (Add.add (List.length d.2.1) (Add.add 0 1))) (M.pure (V.next (A.1,A.2.1,IntKind.wrap .i64 (Add.add d.1 1),d.2.1++[Option.getD (Option.map (λx=>x.2) (List.find? (λp=>decide (List.getD A.1 (Int.toNat d.1) 0=p.1)) d.2.2.1)) (0,0,0,0,0,0)],d.2.2.1,())))) else M.bind (M.pure (V.next (d.2.1,()))) λr=>M.pure (V.done r)) (y,Int.ofNat (List.length y),0,[],A.1,()))) (V.bm (λ(A:List aT×Unit)=>M.pure (true,A.1,())))))
abbrev k0:Type:=List bg×List bg×List bg×List bg×List bg×List bg×List bg×List bg×List bg×List bg×gR
def l8:Nat->k0->List bg
 | 0,r=>r.1
 | 1,r=>r.2.1
 | 2,r=>r.2.2.1
 | 3,r=>r.2.2.2.1
 | 4,r=>r.2.2.2.2.1
 | 5,r=>r.2.2.2.2.2.1
 | 6,r=>r.2.2.2.2.2.2.1
 | 7,r=>r.2.2.2.2.2.2.2.1
 | 8,r=>r.2.2.2.2.2.2.2.2.1
 | 9,r=>r.2.2.2.2.2.2.2.2.2.1
 | _,_=>[]
def G7:Nat->List bg->k0->k0
 | 0,v,r=>(v,r.2)
 | 1,v,r=>(r.1,v,r.2.2)
 | 2,v,r=>(r.1,r.2.1,v,r.2.2.2)
 | 3,v,r=>(r.1,r.2.1,r.2.2.1,v,r.2.2.2.2)
 | 4,v,r=>(r.1,r.2.1,r.2.2.1,r.2.2.2.1,v,r.2.2.2.2.2)
 | 5,v,r=>(r.1,r.2.1,r.2.2.1,r.2.2.2.1,r.2.2.2.2.1,v,r.2.2.2.2.2.2)
 | 6,v,r=>(r.1,r.2.1,r.2.2.1,r.2.2.2.1,r.2.2.2.2.1,r.2.2.2.2.2.1,v,r.2.2.2.2.2.2.2)
 | 7,v,r=>(r.1,r.2.1,r.2.2.1,r.2.2.2.1,r.2.2.2.2.1,r.2.2.2.2.2.1,r.2.2.2.2.2.2.1,v,r.2.2.2.2.2.2.2.2)
 | 8,v,r=>(r.1,r.2.1,r.2.2.1,r.2.2.2.1,r.2.2.2.2.1,r.2.2.2.2.2.1,r.2.2.2.2.2.2.1,r.2.2.2.2.2.2.2.1,v,r.2.2.2.2.2.2.2.2.2)
 | 9,v,r=>(r.1,r.2.1,r.2.2.1,r.2.2.2.1,r.2.2.2.2.1,r.2.2.2.2.2.1,r.2.2.2.2.2.2.1,r.2.2.2.2.2.2.2.1,r.2.2.2.2.2.2.2.2.1,v,r.2.2.2.2.2.2.2.2.2.2)
 | _,_,r=>r
abbrev Wd(r:k0):gR:=r.2.2.2.2.2.2.2.2.2.2
def Nx{X:Type}(l:List bg)(x:bg)(i k:Int)(aH B:M X):M X:=
 letI z:=decide (i > 0);letI y:=IntKind.wrap .i64 (i-1);letI n:=decide (x.1.2.2.2.1≠k);letI m:=(!n)=true;letI b:=(!n&&z)=true;letI c:=b->b/\True/\True;M.ae (m->(m/\True)/\True/\True) (M.ae (m->True/\True/\m) (M.ae c (M.ae (b->(b/\True)/\True/\True) (M.ae (b->(b/\b)/\(0<=y/\y<Int.ofNat (List.length l))/\True) (M.ae c (M.ae c (M.ae (b->(b/\b)/\True/\True) (M.ae (m->(m/\(z=true->b))/\True/\True) (M.ae (True/\(n=false->m)) (if (n||z&&decide (x.2=(List.getD l (Int.toNat y) ((0,0,0,0,0,0),0)).2))=true then aH else B))))))))))
def G8(k:Nat)(A:Int×Int×Int×z1'×k0):M (V (Int×Int×Int×z1'×k0) (V (Int×z1'×k0) (V (z1'×k0) (Option ds×Bool×gR)))):=
 letI i:=A.2.2.1;letI l:=l8 k A.2.2.2.2;letI x:=List.getD l (Int.toNat i) ((0,0,0,0,0,0),0);if decide (i<A.2.1)=true then M.ae (0<=i/\i<Int.ofNat (List.length l)) (M.bind (M.ae ((2:Int)≠0) (if decide (Int.tmod i (2:Int)=1)=true then M.pure (V.next (i,2,A.1,A.2.1,i,x,A.2.2.2)) else M.pure (V.next (i,1,A.1,A.2.1,i,x,A.2.2.2)))) (V.bm (λ(τ:Int×Int×Int×Int×Int×bg×z1'×k0)=>letI r:=τ.2.2.2.2.2.2.2;Nx (l8 k r) τ.2.2.2.2.2.1 τ.1 τ.2.1 (M.bind (M.bind (M.bind (M.pure (none,false,Wd r)) (λr=>M.pure (V.done r))) (λr=>M.pure (V.done r))) λr=>M.pure (V.done r)) (M.pure (V.next (τ.2.2.1,τ.2.2.2.1,IntKind.wrap .i64 (Add.add τ.2.2.2.2.1 1),τ.2.2.2.2.2.2)))))) else M.bind (M.pure (V.next (A.1,A.2.2.2))) λr=>M.pure (V.done r)
def Du(We:(bg×aT×Int->M Int)×List bg×Unit->M (List bg×Unit))(Wf:bg×aT×Int->M Int):Nat->Nat->z1'×k0->M (V (z1'×k0) (Option ds×Bool×gR))
 | 0,_,s=>M.pure (.next s)
 | n+1,k,s=>M.bind (M.ae (0<=Int.ofNat k/\Int.ofNat k<Int.ofNat 10) (M.bind (We (Wf,l8 k s.2,())) (λy=>M.loop (G8 k) (Int.ofNat k,Int.ofNat (List.length y.1),0,s.1,G7 k y.1 s.2)))) (V.bm (λ(τ:Int×z1'×k0)=>M.ae (IntKind.wrap .i64 (Add.add τ.1 1)=Int.ofNat (k+1)) (Du We Wf n (k+1) τ.2)))
def G9{X:Type}(f:Nat->M X)(v:Int):Nat->M X
 | 0=>f 0
 | n+1=>if v=Int.ofNat (Add.add n 1) then f (n+1) else G9 f v n
def Wg{X:Type}(A:z1'×List aT×Int×Int×z1'×k0)(u:Nat):M (V (z1'×List aT×Int×Int×z1'×k0) X):=
 letI a:=List.getD A.2.1 (Int.toNat A.2.2.2.1) (0,0,0,0,0,0);letI r:=A.2.2.2.2.2;letI p:=0<=Int.ofNat u/\Int.ofNat u<Int.ofNat 10;M.ae True (M.ae p (M.ae (0<=a.2.1/\a.2.1<Int.ofNat (List.length A.1)) (M.ae (bX (Add.add (List.length (l8 u r)) (Add.add 0 1))) (M.ae True (M.ae p (M.pure (V.next (A.1,A.2.1,A.2.2.1,A.2.2.2.1,A.2.2.2.2.1,G7 u (l8 u r++[((a.1,a.2.1,a.2.2.1,a.2.2.2.1,Int.ofNat u,a.2.2.2.2.2),IntKind.wrap .i64 (Add.add a.2.2.1 (List.getD A.1 (Int.toNat a.2.1) 0)))]) r))))))))
def Wh(ajV:z1'->M (z1'))(ajW:(bg×aT×Int->M Int)×List bg×Unit->M (List bg×Unit))(ajX:bg×aT×Int->M Int)(x:z1'×gR):M (Option ds×Bool×gR):=
 M.bind (M.bind (ajV x.1) (λy=>M.pure (V.next (x.1,y,x.2.1,x.2.2.1,x.2.2.2.1,x.2.2.2.2.1,x.cI,x.e6,x.gp,x.h9,x.jC,x.kB,x.ho,x.mI,x.pc,[],[],[],[],[],[],[],[],[],[],())))) (V.bm (λ(A:z1'×z1'×z4'×List aT×z1'×z4'×Int×Int×Int×Int×Int×Int×Int×List aT×List (Option ds)×List bg×List bg×List bg×List bg×List bg×List bg×List bg×List bg×List bg×List bg×Unit)=>M.bind (M.ae True (M.loop (λ(A:z1'×List aT×Int×Int×z1'×k0)=>letI a:=List.getD A.2.1 (Int.toNat A.2.2.2.1) (0,0,0,0,0,0);letI u:=a.2.2.2.2.1;if decide (A.2.2.2.1<A.2.2.1)=true then M.bind (M.ae (0<=A.2.2.2.1/\A.2.2.2.1<Int.ofNat (List.length A.2.1)) (M.ae (0<=u/\u<Int.ofNat 10) (G9 (Wg A) u 9))) (V.bm (λ(A:z1'×List aT×Int×Int×z1'×k0)=>M.pure (V.next (A.1,A.2.1,A.2.2.1,IntKind.wrap .i64 (Add.add A.2.2.2.1 1),A.2.2.2.2)))) else M.bind (M.pure (V.next A.2.2.2.2)) λr=>M.pure (V.done r)) (A.1,A.pc,Int.ofNat (List.length A.pc),0,A.2.1,A.xG,A.Ng,A.Nh,A.Ni,A.Nj,A.Nk,A.ajf,A.Nl,A.q8,A.Dn,A.2.2.1,A.2.2.2.1,A.2.2.2.2.1,A.cI,A.e6,A.gp,A.h9,A.jC,A.kB,A.ho,A.mI,A.pc,A.sa,()))) (V.bm (λ(A:z1'×k0)=>M.bind (M.ae True (M.ae (0=Int.ofNat 0) (Du ajW ajX 10 0 A))) (V.bm (λ(A:z1'×k0)=>M.pure (some (A.1,[l8 0 A.2,l8 1 A.2,l8 2 A.2,l8 3 A.2,l8 4 A.2,l8 5 A.2,l8 6 A.2,l8 7 A.2,l8 8 A.2,l8 9 A.2]),true,Wd A.2)))))))
def Wi(ajY:Int×Int×(bg×aT×Int->M Int)×List bg×Unit->M (List bg×Unit))(x:Int×Int×Int×(bg×aT×Int->M Int)×List bg×Unit):M (List bg×Unit):=
 M.loop (λ(A:Int×Int×Int×(bg×aT×Int->M Int)×Bool×Bool×List bg×Unit)=>if decide (IntKind.wrap .i64 (A.2.1-A.1)<=12)=true then M.bind (ajY (A.1,A.2.1,A.2.2.2.1,A.e6,())) λy=>M.bind (M.pure (y.1,())) λr=>M.pure (V.done r) else M.fail) (x.1,x.2.1,x.2.2.1,x.2.2.2.1,true,true,x.2.2.2.2.1,())
def Wj(Np:z1'×gR->M (gR))(ajZ:z1'×gR->M (Option ds×Bool×gR))(x:z1'×gR):M (gR):=
 letI d:=Int.ofNat (List.length x.2.1);letI a:=Int.ofNat (List.length x.1);M.ae True (if decide (a=d)=true then M.bind (M.bind (ajZ (x.1,x.2.1,x.2.2.1,x.2.2.2.1,x.2.2.2.2.1,x.cI,x.e6,x.gp,x.h9,x.jC,x.kB,x.ho,x.mI,x.pc,())) (λy=>if y.2.1=true then M.ae True (M.ae (bX (Add.add (List.length y.sa) (Add.add 0 1))) (M.ae True (M.pure (V.next (y.2.2.1,y.2.2.2.1,y.2.2.2.2.1,y.cI,y.e6,y.gp,y.h9,y.jC,y.kB,y.ho,y.mI,y.pc,y.sa++[y.1],()))))) else M.pure (V.next (y.2.2.1,y.2.2.2.1,y.2.2.2.2.1,y.cI,y.e6,y.gp,y.h9,y.jC,y.kB,y.ho,y.mI,y.pc,y.sa,())))) (V.bm (λ(A:gR)=>M.pure (A.1,A.2.1,A.2.2.1,A.2.2.2.1,A.2.2.2.2.1,A.cI,A.e6,A.gp,A.h9,A.jC,A.kB,A.ho,A.mI,()))) else M.ae True (M.ae (0<=a/\a<d) (M.loop (λ(A:z1'×Int×Int×gR)=>letI c:=A.2.2;letI b:=A.2.1;letI e:=List.take (Int.toNat b) A.1;M.ae True (M.ae (0<=b/\b<Int.ofNat (List.length c.2.1)) (if decide (c.1<=(List.getD c.2.1 (Int.toNat b) (0,0)).2)=true then M.ae ((0:Int)<=0/\0<=b/\b=b/\b<=Int.ofNat (List.length A.1)) (M.ae (0<Add.add 0 1/\bX (Add.add (List.length e) (Add.add 0 1))) (M.bind (Np (e++[c.1],c.2.1,c.2.2.1,A.cI,A.e6,A.gp,A.h9,A.jC,A.kB,A.ho,A.mI,A.pc,A.sa,A.xG,())) (λy=>M.pure (V.next (A.1,b,IntKind.wrap .i64 (Add.add c.1 1),y.1,y.2.1,y.2.2.1,y.2.2.2.1,y.2.2.2.2.1,y.cI,y.e6,y.gp,y.h9,y.jC,y.kB,y.ho,y.mI,()))))) else M.bind (M.pure (c.2.1,c.2.2.1,A.cI,A.e6,A.gp,A.h9,A.jC,A.kB,A.ho,A.mI,A.pc,A.sa,A.xG,())) λr=>M.pure (V.done r)))) (x.1,a,(List.getD x.2.1 (Int.toNat a) (0,0)).1,x.2.1,x.2.2.1,x.2.2.2.1,x.2.2.2.2.1,x.cI,x.e6,x.gp,x.h9,x.jC,x.kB,x.ho,x.mI,x.pc,()))))
def Wk(aj0:Int->M Int)(aj1:Int×Int×Int×(bg×aT×Int->M Int)×List bg×Unit->M (List bg×Unit))(x:(bg×aT×Int->M Int)×List bg×Unit):M (List bg×Unit):=
 letI a:=Int.ofNat (List.length x.2.1);M.bind (aj0 (IntKind.wrap .u64 a)) λy=>M.bind (aj1 (0,a,y,x.1,x.2.1,())) λy=>M.pure (y.1,())
end Go.Fer.H
