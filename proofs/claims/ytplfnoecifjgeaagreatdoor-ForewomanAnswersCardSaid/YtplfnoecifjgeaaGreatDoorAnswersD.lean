/- Part 4 of the proof of Answers: shallow programs of Go functions, and what they compute. No condition. -/
import Derived.Test.YtplfnoecifjgeaaGreatDoorAnswersC
import Derived.RangeFuncBound
import Derived.Scope
import Derived.RangeFuncLeaves
import Derived.OpenShut
import Derived.WideKeyArgs
import Derived.ChangeSame
import Derived.Test.YtplfnoecifjgeaaGreatDoorProg
import Derived.KernelRfl
noncomputable section
set_option linter.unusedVariables false
set_option linter.unusedSimpArgs false
namespace Go.Fer
open Go.RowKit
theorem ail{C:b9}(iQ:C.r=none){β:Type}{s:aB}{a:Act}{w:World}(M:ct C s a w){g:Operand}{ps:Array Tmp}{assign body:Code}{rL n:Nat}{eT:Nat->aH}(aC:a1 C.aO s.az g=.sk rL n eT){ic:Ak}(UM:DB C.P rL ic)
    {x:ic.ts.aj} {bV:List Nat} (ah:(iZ ic.ts ((List.range n).map eT)).run s.aa=some (x,bV)) {sh rin rout:dG} (ea:n8 sh rout ic.aK ps.toList C.nt=true) {oa:sh.aj} (n9:sh.jc (s.cz bV)=some oa) (gP:ic.pre x)
    {run:aB->A (dj×rout.aj)} {k:dj->aB->A β} {O:β->Prop} (hm:A.cv (jR (λD y=>uw sh rin rout ic.aK ps.toList D y run) (ic.seq x) oa) λp=>A.cv (k p.1 (sh.st p.2)) O)
    (DX:∀ l,HG C.P C.aO C.nt assign body l run) {Q:Exit->Act->World->Prop}
    (al:∀ u,C.jT u->∀ e s' a' w',ct (C.hn u) s' a' w'->A.cv (k e s') O->Q e.pN a' w'):(Code.rangeFunc g ps assign body).wpIn (dR C.r) 0 C.P Q a w:=by
  obtain⟨κ,F,M⟩:=M;obtain⟨AA,f1,gQ,f2⟩:=bl.ln (qB _ ah) M;obtain⟨κ,ek,f3,cM⟩:=dG.Au n9 gQ;have ae:=kd M g;rw[aC]at ae;obtain⟨aD,qu,iq,ayH⟩:=ae;have aim:fp C.P ic.ts AA w aD x:=vC M.bC f1 ic.ts ah f2 (by grind) λi G dJ=>by
    grind
  have pH:∀ D:sh.aj,(sh.st D).az b5=.undef:=λD=>by
    simp only[n8,Bool.and_eq_true,Bool.not_eq_true']at ea;exact xZ sh.bT c_ D b5 ea.1.1.1.2
  rw[iQ];refine wpIn_rangeFunc λfn _=>?_;have aT:w.heap.size<((w.alloc (.deferred (some []))).alloc (.loop (e' fn a.tmps ps assign body w.heap.size .ready .normal))).heap.size:=by simp;omega
  have ai:w.heap.size+1<((w.alloc (.deferred (some []))).alloc (.loop (e' fn a.tmps ps assign body w.heap.size .ready .normal))).heap.size:=by simp
  have D0:((w.alloc (.deferred (some []))).alloc (.loop (e' fn a.tmps ps assign body w.heap.size .ready .normal))).heap[w.heap.size+1]?=some (.loop (e' fn a.tmps ps assign body w.heap.size .ready .normal)):=by
    have:=qt (w.alloc (.deferred (some []))) (.loop (e' fn a.tmps ps assign body w.heap.size .ready .normal));simp_all
  have D1:((w.alloc (.deferred (some []))).alloc (.loop (e' fn a.tmps ps assign body w.heap.size .ready .normal))).heap[w.heap.size]?=some (.deferred (some [])):=
    (pw _ _ (by simp)).trans (qt w _)
  have uG:∀ r,r<w.heap.size->((w.alloc (.deferred (some []))).alloc (.loop (e' fn a.tmps ps assign body w.heap.size .ready .normal))).heap[r]?=w.heap[r]?:=λr h=>UF h;have D2:(Instr.enterLoop fn a.tmps ps assign body none).run C.P w=.ok (w.heap.size+1,[oY w.heap.size]) ((w.alloc (.deferred (some []))).alloc (.loop (e' fn a.tmps ps assign body w.heap.size .ready .normal))):=run_enterLoop_outer fn a.tmps ps assign body;have x':dd w ((w.alloc (.deferred (some []))).alloc (.loop (e' fn a.tmps ps assign body w.heap.size .ready .normal))):=⟨rfl,rfl,rfl⟩
  have No:((w.alloc (.deferred (some []))).alloc (.loop (e' fn a.tmps ps assign body w.heap.size .ready .normal))).heap.size=w.heap.size+2:=by simp
  generalize (w.alloc (.deferred (some []))).alloc (.loop (e' fn a.tmps ps assign body w.heap.size .ready .normal))=b' at aT ai D0 D1 uG D2 x' No;have qI:c6 ek w b':=⟨by omega,λr h=>uG r (cM.db r h)⟩
  have dX:fp C.P ic.ts ek b' aD x:=(aim.mono f3 (c6.refl _ _)).mono (λ_ h=>h) qI;have eA:bl { C with w0:=b',F0:=ek,K0:=λ_=>False } (sh.st oa) a b' κ ek:=
    cM.vT cM.dE cM.dfr cM.gl cM.bT (λdF kH e4 i_ iw e=>by have e:(sh.st oa).az b5=.aX dF kH e4 i_ iw:=e;grind)
      (λr h=>uG r (by
        rcases h with h | ⟨b,W,rfl⟩
        · exact cM.db r h
        · exact (cM.an b W).1)) (by omega) (λ_ h=>.inl h) (λ_ h=>h) (λ_ h=>h.elim) (λ_ h=>h.elim) (λ_ _ h=>h) (Nat.le_refl _) (dd.refl _)
  have Np:=UL (UG (S:=λT=>T=ic.seq x) (C:=C) (CI:={ C with w0:=b',F0:=ek,K0:=λ_=>False }) (sh:=sh) (rin:=rin) (rout:=rout) (ps:=ps) (assign:=assign) (body:=body) (a:=a) (fn:=fn) (l:=w.heap.size+1) (B:=w.heap.size) (run:=run) (k:=k) (O:=O)
    rfl (by omega) (by rw[M.dE];omega) (by rw[M.dE];grind))
  have fk:∀ b,((sh.st oa).aa b).body.bZ (κ b)=true->¬((κ b).aa=w.heap.size+1\/(κ b).aa=w.heap.size):=λb W h=>by
    have:=(cM.an b W).1;omega
  have vU:=UM.iW (w.heap.size+1) _ ek (λr=>(∃ b,((sh.st oa).aa b).body.bZ (κ b)=true/\(κ b).aa=r)\/r=w.heap.size+1\/r=w.heap.size) b' aD x dX gP Np (λr h=>eA.db r h) eA.iD
    (λr h=>by
      rcases h with⟨b,W,rfl⟩ | rfl | rfl
      · exact⟨(eA.an b W).1,(eA.an b W).2.1⟩
      · exact⟨ai,λh=>by have:=cM.db _ h;omega⟩
      · exact⟨aT,λh=>by have:=cM.db _ h;omega⟩)
    ⟨.normal,oa,κ,eA,D0,D1,λb W=>⟨.inl ⟨b,W,rfl⟩,fk b W⟩,.inr (.inl rfl),.inr (.inr rfl),λh=>by have:=cM.db _ h;omega,λh=>by have:=cM.db _ h;omega,rfl,λ_=>⟨rfl,λR jU=>by grind⟩,λh=>by cases h⟩
  refine⟨w.heap.size+1,[oY w.heap.size],b',{ target:=.fn (.func rL) #[],args:=aD.toArray++#[.func (.yield (w.heap.size+1)) #[] #[]] },b',rL,(aD++[Value.func (.yield (w.heap.size+1)) #[] #[]]).toArray,b',D2,?_,λ_ _=>trivial,?_,λh=>(by cases h),callsIn_wide.2 (vU.mono λe eW ⟨v,i_,st,F',gC,he,gv,hinv,g1,ei,g3,g4,g5,g6,g7⟩=>?_)⟩
  · have e:a.eval (.const (.func (.yield (w.heap.size+1)) #[] #[]))=.func (.yield (w.heap.size+1)) #[] #[]:=rfl
    simp[resolve,qu,Deferred.ofValue,e]
  · have:=UM.enter (aD++[Value.func (.yield (w.heap.size+1)) #[] #[]]).toArray b'
    simpa [invoke]using this
  subst he;obtain⟨e,D,κ',mH,E,U,ag,a7,bN,du,gL,_,iV,qn⟩:=hinv;refine⟨sW e,_,run_endLoop E (by cases st<;>simp[e']),?_⟩;have HL:w.heap.size+1<eW.heap.size:=(Array.getElem?_eq_some_iff.1 E).1;generalize bc:Obj.loop _=cb;have hL:A.cv (k e (sh.st D)) O:=by
    cases st with
    | true=>grind
    | false=>
      obtain⟨rfl,fj⟩:=iV rfl;exact (fj [] (show i_++[]=ic.seq x by grind)).2 _ rfl
  have vN:∀ r,C.K0 r->r<w.heap.size:=λr h=>Nat.lt_of_lt_of_le (M.hx r h) M.size;have uE:∀ r,C.K0 r->(eW.putObj (w.heap.size+1) cb).heap[r]?=C.w0.heap[r]?:=λr h=>by
    have ck:=vN r h;rw[World.putObj_heap_other (by omega),g4 r (by omega) λaS=>?_,uG r ck]
    · exact M.eH r h
    · rcases aS with⟨b,W,rfl⟩ | rfl | rfl
      · exact (cM.an b W).2.2 h
      · omega
      · omega
  have ya:dd C.w0 (eW.putObj (w.heap.size+1) cb):=by
    have:=(M.er.trans x').trans g7;exact⟨this.os,this.tape,this.output⟩
  have AI:C.jT ⟨eW.putObj (w.heap.size+1) cb,λr=>C.K0 r\/r=w.heap.size,[w.heap.size]⟩:=
    { sV := λB aT => by
        have:B=w.heap.size:=by grind
        subst this;exact⟨.inr rfl,(World.putObj_heap_other (by omega)).trans U⟩
      ey:=λB aT=>by
        have:B=w.heap.size:=by grind
        subst this;exact⟨λh=>by grind,M.size⟩
      mG:=by simp
      ho:=λ_ h=>.inl h
      eH:=uE
      size:=by have:=M.size;simp;omega
      er:=ya }
  have n_:ct (C.hn ⟨eW.putObj (w.heap.size+1) cb,λr=>C.K0 r\/r=w.heap.size,[w.heap.size]⟩) (sh.st D) { a with defers:=[oY w.heap.size]++a.defers } (eW.putObj (w.heap.size+1) cb):=by
    have Nq:∀ r,F' r->C.F0 r\/¬(C.K0 r\/r=w.heap.size):=λr ba=>by
      rcases ei r ba with h | h | h
      · rcases cM.hi r h with dt | dt
        · exact .inl dt
        · exact .inr λal=>al.elim dt λe=>by have:=cM.db r h;omega
      · rcases h with⟨b,W,rfl⟩ | rfl | rfl
        · exact .inr λal=>al.elim (cM.an b W).2.2 λe=>fk b W (.inr e)
        · exact (du ba).elim
        · exact (gL ba).elim
      grind
    refine⟨κ',F',mH.vT (r:=C.r) mH.dE (by show [oY w.heap.size]++a.defers=_;rw[M.dfr];rfl) mH.gl mH.bT (λdF kH e4 i_ iw e=>by have e:(sh.st D).az b5=.aX dF kH e4 i_ iw:=e;grind)
      (λr h=>World.putObj_heap_other λe=>by
        grind) (by simp) Nq (λr h=>g1 r (cM.hT r h)) (λr h=>?_) (λ_ _=>rfl) (λb W h=>?_) (Nat.le_refl _) (dd.refl _)⟩
    · simp only[World.putObj_size]
      grind
    · rcases h with h | h
      · rcases (g5 _ (ag b W).1).1 with aS | aS
        · rcases aS with⟨be,de,e⟩ | e | e
          · exact (cM.an be de).2.2 (e ▸ h)
          · exact (ag b W).2 (.inl e)
          · exact (ag b W).2 (.inr e)
        grind
      grind
  have bq:=al _ AI e _ _ _ n_ hL;cases e with
  | normal=>exact bq
  | exit id=>exact wpIn_exit bq
  | ret=>exact wpIn_ret bq
theorem ain{C:b9}(iQ:C.r=none){β:Type}{s:aB}{a:Act}{w:World}(M:ct C s a w){g:Operand}{ps:Array Tmp}{assign body:Code}{aK:ab}{S:List aK.aj->Prop}(aC:a1 C.aO s.az g=.val (.cr aK) S)
    {sh rin rout:dG} (ea:n8 sh rout aK ps.toList C.nt=true) {oa:sh.aj} (n9:sh.jc s=some oa) (eC:∃ L,S L)
    {run:aB->A (dj×rout.aj)} {k:dj->aB->A β} {O:β->Prop} (hm:∀ L,S L->A.cv (jR (λD y=>uw sh rin rout aK ps.toList D y run) L oa) λp=>A.cv (k p.1 (sh.st p.2)) O)
    (DX:∀ l,HG C.P C.aO C.nt assign body l run) {Q:Exit->Act->World->Prop}
    (al:∀ u,C.jT u->∀ e s' a' w',ct (C.hn u) s' a' w'->A.cv (k e s') O->Q e.pN a' w'):(Code.rangeFunc g ps assign body).wpIn (dR C.r) 0 C.P Q a w:=by
  obtain⟨κ,F,M⟩:=M;obtain⟨κ,ek,f3,cM⟩:=dG.Au n9 M;have ae:=kd M g;rw[aC]at ae;have qu:=fc _ f3 (c6.refl _ _) ((dU rfl).1 ae).2;simp only[bI]at qu;obtain⟨u,hu,_,aio⟩:=qu;have hu:=(List.cons.inj hu).1;have pH:∀ D:sh.aj,(sh.st D).az b5=.undef:=λD=>by
    simp only[n8,Bool.and_eq_true,Bool.not_eq_true']at ea;exact xZ sh.bT c_ D b5 ea.1.1.1.2
  rw[iQ];refine wpIn_rangeFunc λfn _=>?_;have aT:w.heap.size<((w.alloc (.deferred (some []))).alloc (.loop (e' fn a.tmps ps assign body w.heap.size .ready .normal))).heap.size:=by simp;omega
  have ai:w.heap.size+1<((w.alloc (.deferred (some []))).alloc (.loop (e' fn a.tmps ps assign body w.heap.size .ready .normal))).heap.size:=by simp
  have D0:((w.alloc (.deferred (some []))).alloc (.loop (e' fn a.tmps ps assign body w.heap.size .ready .normal))).heap[w.heap.size+1]?=some (.loop (e' fn a.tmps ps assign body w.heap.size .ready .normal)):=by
    have:=qt (w.alloc (.deferred (some []))) (.loop (e' fn a.tmps ps assign body w.heap.size .ready .normal));simp_all
  have D1:((w.alloc (.deferred (some []))).alloc (.loop (e' fn a.tmps ps assign body w.heap.size .ready .normal))).heap[w.heap.size]?=some (.deferred (some [])):=
    (pw _ _ (by simp)).trans (qt w _)
  have uG:∀ r,r<w.heap.size->((w.alloc (.deferred (some []))).alloc (.loop (e' fn a.tmps ps assign body w.heap.size .ready .normal))).heap[r]?=w.heap[r]?:=λr h=>UF h;have D2:(Instr.enterLoop fn a.tmps ps assign body none).run C.P w=.ok (w.heap.size+1,[oY w.heap.size]) ((w.alloc (.deferred (some []))).alloc (.loop (e' fn a.tmps ps assign body w.heap.size .ready .normal))):=run_enterLoop_outer fn a.tmps ps assign body;have x':dd w ((w.alloc (.deferred (some []))).alloc (.loop (e' fn a.tmps ps assign body w.heap.size .ready .normal))):=⟨rfl,rfl,rfl⟩
  have No:((w.alloc (.deferred (some []))).alloc (.loop (e' fn a.tmps ps assign body w.heap.size .ready .normal))).heap.size=w.heap.size+2:=by simp
  generalize (w.alloc (.deferred (some []))).alloc (.loop (e' fn a.tmps ps assign body w.heap.size .ready .normal))=b' at aT ai D0 D1 uG D2 x' No;have qI:c6 ek w b':=⟨by omega,λr h=>uG r (cM.db r h)⟩
  have eA:bl { C with w0:=b',F0:=ek,K0:=λ_=>False } (sh.st oa) a b' κ ek:=
    cM.vT cM.dE cM.dfr cM.gl cM.bT (λdF kH e4 i_ iw e=>by have e:(sh.st oa).az b5=.aX dF kH e4 i_ iw:=e;grind)
      (λr h=>uG r (by
        rcases h with h | ⟨b,W,rfl⟩
        · exact cM.db r h
        · exact (cM.an b W).1)) (by omega) (λ_ h=>.inl h) (λ_ h=>h) (λ_ h=>h.elim) (λ_ h=>h.elim) (λ_ _ h=>h) (Nat.le_refl _) (dd.refl _)
  have Np:=UG (S:=S) (C:=C) (CI:={ C with w0:=b',F0:=ek,K0:=λ_=>False }) (sh:=sh) (rin:=rin) (rout:=rout) (ps:=ps) (assign:=assign) (body:=body) (a:=a) (fn:=fn) (l:=w.heap.size+1) (B:=w.heap.size) (run:=run) (k:=k) (O:=O)
    rfl (by omega) (by rw[M.dE];omega) (by rw[M.dE];grind)
  have fk:∀ b,((sh.st oa).aa b).body.bZ (κ b)=true->¬((κ b).aa=w.heap.size+1\/(κ b).aa=w.heap.size):=λb W h=>by
    have:=(cM.an b W).1;omega
  obtain⟨rL,c1,aip,sO,Mu⟩:=aio ek b' (λ_ h=>h) qI (λr h=>eA.db r h) eA.iD eC;have vU:=Mu (w.heap.size+1) _ (λr=>(∃ b,((sh.st oa).aa b).body.bZ (κ b)=true/\(κ b).aa=r)\/r=w.heap.size+1\/r=w.heap.size)
    (λr h=>by
      rcases h with⟨b,W,rfl⟩ | rfl | rfl
      · exact⟨(eA.an b W).1,(eA.an b W).2.1⟩
      · exact⟨ai,λh=>by have:=cM.db _ h;omega⟩
      · exact⟨aT,λh=>by have:=cM.db _ h;omega⟩)
    Np ⟨.normal,oa,κ,eA,D0,D1,λb W=>⟨.inl ⟨b,W,rfl⟩,fk b W⟩,.inr (.inl rfl),.inr (.inr rfl),λh=>by have:=cM.db _ h;omega,λh=>by have:=cM.db _ h;omega,rfl,λ_=>⟨rfl,λR jU=>hm R jU⟩,λh=>by cases h⟩
  refine⟨w.heap.size+1,[oY w.heap.size],b',{ target:=.fn (.func rL) c1,args:=#[.func (.yield (w.heap.size+1)) #[] #[]] },b',rL,#[Value.func (.yield (w.heap.size+1)) #[] #[]]++c1,b',D2,?_,λ_ _=>trivial,?_,λh=>(by cases h),callsIn_wide.2 (vU.mono λe eW ⟨v,pre,st,F',gC,he,gv,hinv,g1,ei,g3,g4,g5,g6,Nr⟩=>?_)⟩
  · have e:a.eval (.const (.func (.yield (w.heap.size+1)) #[] #[]))=.func (.yield (w.heap.size+1)) #[] #[]:=rfl
    simp[resolve,hu,aip,Deferred.ofValue,e]
  · have:=sO (#[Value.func (.yield (w.heap.size+1)) #[] #[]]++c1) b'
    simpa [invoke]using this
  have g7:dd b' eW:=⟨Nr.1,Nr.2.1,Nr.2.2⟩
  subst he;obtain⟨e,D,κ',mH,E,U,ag,a7,bN,du,gL,_,iV,qn⟩:=hinv;refine⟨sW e,_,run_endLoop E (by cases st<;>simp[e']),?_⟩;have HL:w.heap.size+1<eW.heap.size:=(Array.getElem?_eq_some_iff.1 E).1;generalize bc:Obj.loop _=cb;have hL:A.cv (k e (sh.st D)) O:=by
    cases st with
    | true=>grind
    | false=>
      obtain⟨rfl,fj⟩:=iV rfl;exact (fj [] (show S (pre++[]) by grind)).2 _ rfl
  have vN:∀ r,C.K0 r->r<w.heap.size:=λr h=>Nat.lt_of_lt_of_le (M.hx r h) M.size;have uE:∀ r,C.K0 r->(eW.putObj (w.heap.size+1) cb).heap[r]?=C.w0.heap[r]?:=λr h=>by
    have ck:=vN r h;rw[World.putObj_heap_other (by omega),g4 r (by omega) λaS=>?_,uG r ck]
    · exact M.eH r h
    · rcases aS with⟨b,W,rfl⟩ | rfl | rfl
      · exact (cM.an b W).2.2 h
      · omega
      · omega
  have ya:dd C.w0 (eW.putObj (w.heap.size+1) cb):=by
    have:=(M.er.trans x').trans g7;exact⟨this.os,this.tape,this.output⟩
  have AI:C.jT ⟨eW.putObj (w.heap.size+1) cb,λr=>C.K0 r\/r=w.heap.size,[w.heap.size]⟩:=
    { sV := λB aT => by
        have:B=w.heap.size:=by grind
        subst this;exact⟨.inr rfl,(World.putObj_heap_other (by omega)).trans U⟩
      ey:=λB aT=>by
        have:B=w.heap.size:=by grind
        subst this;exact⟨λh=>by grind,M.size⟩
      mG:=by simp
      ho:=λ_ h=>.inl h
      eH:=uE
      size:=by have:=M.size;simp;omega
      er:=ya }
  have n_:ct (C.hn ⟨eW.putObj (w.heap.size+1) cb,λr=>C.K0 r\/r=w.heap.size,[w.heap.size]⟩) (sh.st D) { a with defers:=[oY w.heap.size]++a.defers } (eW.putObj (w.heap.size+1) cb):=by
    have Nq:∀ r,F' r->C.F0 r\/¬(C.K0 r\/r=w.heap.size):=λr ba=>by
      rcases ei r ba with h | h | h
      · rcases cM.hi r h with dt | dt
        · exact .inl dt
        · exact .inr λal=>al.elim dt λe=>by have:=cM.db r h;omega
      · rcases h with⟨b,W,rfl⟩ | rfl | rfl
        · exact .inr λal=>al.elim (cM.an b W).2.2 λe=>fk b W (.inr e)
        · exact (du ba).elim
        · exact (gL ba).elim
      grind
    refine⟨κ',F',mH.vT (r:=C.r) mH.dE (by show [oY w.heap.size]++a.defers=_;rw[M.dfr];rfl) mH.gl mH.bT (λdF kH e4 i_ iw e=>by have e:(sh.st D).az b5=.aX dF kH e4 i_ iw:=e;grind)
      (λr h=>World.putObj_heap_other λe=>by
        grind) (by simp) Nq (λr h=>g1 r (cM.hT r h)) (λr h=>?_) (λ_ _=>rfl) (λb W h=>?_) (Nat.le_refl _) (dd.refl _)⟩
    · simp only[World.putObj_size]
      grind
    · rcases h with h | h
      · rcases (g5 _ (ag b W).1).1 with aS | aS
        · rcases aS with⟨be,de,e⟩ | e | e
          · exact (cM.an be de).2.2 (e ▸ h)
          · exact (ag b W).2 (.inl e)
          · exact (ag b W).2 (.inr e)
        grind
      grind
  have bq:=al _ AI e _ _ _ n_ hL;cases e with
  | normal=>exact bq
  | exit id=>exact wpIn_exit bq
  | ret=>exact wpIn_ret bq
end Go.Fer
namespace Go.Fer
open Go.RowKit
open A (V)
section
variable {F:Fence} {n:Nat} {P:Program} {Q:Exit->Act->World->Prop} {a:Act} {w:World}
theorem aiq{c:Code}{HP β:Type}{body:HP->A (V HP β)}{O:β->Prop}(I:HP->Act->World->Prop)
  (round:∀ D a w,I D a w->(body D).b2->(∀ r,(body D).bR (.done r)->O r)->c.wpIn F n P (Exit.then (λa' w'=>∃ iL,(body D).bR (.next iL)/\I iL a' w') Q) a w)
  {D:HP} (aE:A.Cf body D) (af:∀ r,A.zr body D r->O r) (eA:I D a w):(Code.loop c).wpIn F n P Q a w:=by
 intro b k cs rR W M;have key:∀ D,A.Cf body D->(∀ r,A.zr body D r->O r)->∀ a w,I D a w->
   ∃ e a' w',Q e a' w'/\ArrivesIn (Machine.fenced P F) P (lone (b.atR a (.code c::.inLoop c::k)) cs w) b k cs e a' w':=by
  intro D aE;induction aE with
  | mk D h _ aI=>
   intro af a w eA;obtain⟨e,l3,l4,bq,e9⟩:=round D a w eA h (λr M=>af r (.done _ _ M)) b (.inLoop c::k) cs rR W M;cases e with
   | normal=>
    obtain⟨iL,qO,air⟩:=bq;obtain⟨Ns,Nt,Nu,Nv,Nw⟩:=aI iL qO (λr M=>af r (.next _ _ _ qO M)) l3 l4 air;exact⟨Ns,Nt,Nu,Nv,.of_steps (StepsIn.trans e9 (.one (fenced_calm W M rfl) stepR_inLoop)) Nw⟩
   | exit id=>exact⟨_,l3,l4,bq,.pass (x:=.inLoop c) rfl (λ_ _=>.inl (by simp)) e9⟩
   | goto l=>exact⟨_,l3,l4,bq,.pass (x:=.inLoop c) rfl (λ_ _=>.inl (by simp)) e9⟩
   | ret=>exact⟨_,l3,l4,bq,.pass (x:=.inLoop c) rfl (λ_ _=>.inl (by simp)) e9⟩
   | panic Nx=>exact⟨_,l3,l4,bq,.pass (x:=.inLoop c) rfl (λ_ _=>.inl (by simp)) e9⟩
   | outgrown=>exact⟨_,l3,l4,bq,.pass (x:=.inLoop c) rfl (λ_ _=>.inl (by simp)) e9⟩
 obtain⟨e,a',w',bq,e9⟩:=key D aE af a w eA;exact⟨e,a',w',bq,.of_steps (.one (fenced_calm W M rfl) stepR_loop) e9⟩
theorem ais{p q:Prop}(bq:q)(h:q->p):p/\q:=⟨h bq,bq⟩
def HQ(F:Fence)(n:Nat)(P:Program)(c:Code)(Q:Exit->Act->World->Prop)(a:Act)(w:World):Prop:=
 ∀ (b:Frame) (k:List Item) (cs:List Frame),b.roundOf=F.round->F.fn b.fn->F.room (cs.length+1+n)->
  ∃ e a' w',Q e a' w'/\ArrivesIn (Machine.fenced P F) P (lone (b.atR a (.code c::.inLoop c::k)) cs w) b k cs e a' w'
theorem ait{c:Code}(h:HQ F n P c Q a w):(Code.loop c).wpIn F n P Q a w:=λb k cs rR W M=>by
 obtain⟨e,a',w',bq,e9⟩:=h b k cs rR W M;exact⟨e,a',w',bq,.of_steps (.one (fenced_calm W M rfl) stepR_loop) e9⟩
theorem aiu{c:Code}(h:c.wpIn F n P (Exit.then (λa' w'=>HQ F n P c Q a' w') Q) a w):HQ F n P c Q a w:=λb k cs rR W M=>by
 obtain⟨e,l3,l4,bq,e9⟩:=h b (.inLoop c::k) cs rR W M;cases e with
 | normal=>
  obtain⟨Ns,Nt,Nu,Nv,Nw⟩:=bq b k cs rR W M;exact⟨Ns,Nt,Nu,Nv,.of_steps (StepsIn.trans e9 (.one (fenced_calm W M rfl) stepR_inLoop)) Nw⟩
 | exit id=>exact⟨_,l3,l4,bq,.pass (x:=.inLoop c) rfl (λ_ _=>.inl (by simp)) e9⟩
 | goto l=>exact⟨_,l3,l4,bq,.pass (x:=.inLoop c) rfl (λ_ _=>.inl (by simp)) e9⟩
 | ret=>exact⟨_,l3,l4,bq,.pass (x:=.inLoop c) rfl (λ_ _=>.inl (by simp)) e9⟩
 | panic Nx=>exact⟨_,l3,l4,bq,.pass (x:=.inLoop c) rfl (λ_ _=>.inl (by simp)) e9⟩
 | outgrown=>exact⟨_,l3,l4,bq,.pass (x:=.inLoop c) rfl (λ_ _=>.inl (by simp)) e9⟩
theorem AJ{b:Frame}{k:List Item}{cs:List Frame}{c:Code}:step P (lone (b.atR a (.code (.scope c)::k)) cs w)=.next (lone (b.atR a (.code c::.inScope c::k)) cs w):=
 step_lone_go (by rfl)
theorem aiv{b:Frame}{k:List Item}{cs:List Frame}{c:Code}:step P (lone (b.atR a (.inScope c::k)) cs w)=.next (lone (b.atR a k) cs w):=
 step_lone_go (by rfl)
theorem aiw{c:Code}(h:c.wpIn F n P (Exit.noGoto Q) a w):(Code.scope c).wpIn F n P Q a w:=by
 intro b k cs rR W M;have aU:(lone (b.atR a (.code (.scope c)::k)) cs w).fenced P F:=fenced_calm W M rfl;obtain⟨e,l3,l4,bq,e9⟩:=h b (.inScope c::k) cs rR W M;cases e with
 | normal=>exact⟨.normal,l3,l4,bq,.head aU AJ (StepsIn.trans e9 (.one (fenced_calm W M rfl) aiv))⟩
 | exit id=>
  have ah:exitTo id (.inScope c::k)=exitTo id k:=by rfl
  exact⟨.exit id,l3,l4,bq,λk' al=>.head aU AJ (e9.1 k' (by grind)),λba al=>let ⟨k₁,E,U⟩:=e9.2 ba (by grind);⟨k₁,E,.head aU AJ U⟩⟩
 | goto l=>exact bq.elim
 | ret=>exact⟨.ret,l3,l4,bq,.of_steps (.one aU AJ) e9⟩
 | panic Nx=>exact⟨.panic Nx,l3,l4,bq,.of_steps (.one aU AJ) e9⟩
 | outgrown=>exact⟨.outgrown,l3,l4,bq,.of_steps (.one aU AJ) e9⟩
end
section
variable {T:Nat->ab} {bf:Nat->Option aN} {Ψ:Nat->Option e3}
def Ny{D β:Type}(m:A (V D β))(O:β->Prop)(st:V D β):Prop:=
 match st with
 | .next s=>m.bR (.next s)
 | .done r=>O r
theorem aix{C:b9}{s s':aB}{i:Nat}{a:Act}{w:World}(h:Md s i=some s')(M:ct C s a w):ct C s' a w:=by
 obtain⟨κ,F,M⟩:=M;unfold Md at h;split at h
 ·rename_i b g n off aE;split at h
  ·rename_i e xs bS;split at h
   ·rename_i aC;cases h;have ae:=M.bT i;rw[aE]at ae;obtain⟨aR,aW,bL⟩:=ae.2 aC (by rw[bS];rfl);rw[bS]at aR bL;have aT:=M.bC b;unfold cD at aT;rw[bS]at aT;obtain⟨cs,T,bD,c2,c3,c4,c5⟩:=aT.2 aW;have aR:n<xs.length:=aR;obtain⟨bj,d1,d2⟩:=c5 n aR;have d2:bI C.P (.slice e) F w bj xs[n]:=d2;obtain⟨u,rfl,hu⟩:=Cl (t:=.slice e) rfl d2;have tZ:cs.getD ((κ b).off+n) Go.undef=u:=by
     have:=d1 0 (by simp);simp only[ab.size,Nat.mul_one,Nat.add_zero]at this;rw[Array.getD_eq_getD_getElem?,this];rfl
    have gr:fq s.aa κ (λq=>if q=b then (⟨g,.gj (.st (.slice e)) xs n (.val (.slice e) (xs.getD n []))⟩:bK) else s.aa q) κ:=
     rk aC (λh=>by cases h) (λ_=>by rw[bS];exact⟨rfl,rfl,rfl⟩) (λh=>by cases h) (λh=>by cases h)
    have cM:=M.px (b:=b) (x:=⟨g,.gj (.st (.slice e)) xs n (.val (.slice e) (xs.getD n []))⟩) (w':=w) (by rw[bS];simp[bQ.bZ,aW]) (by simp[bQ.bZ,aW]) gr (λh=>by cases h) (λh=>by cases h) (λ_ _=>rfl) rfl (dd.refl w) λH mY ck he=>
     ⟨aW,cs,T,bD,c2,c3,c4,⟨rfl,aR⟩,λj aF _=>c5 j aF,by rw[tZ,show xs.getD n []=xs[n] by simp[aR]];exact (dU rfl).2 ⟨hu,d2⟩,by rw[tZ];exact KC (t:=.slice e) rfl d2⟩
    refine⟨κ,F,{ cM with bT:=λj=>?_,dE:=cM.dE,dfr:=cM.dfr,bC:=cM.bC,eL:=λl aK L m st aZ=>?_ }⟩
    ·show bz _ _ _ _ _ (if j=i then _ else _) _;split
     ·rename_i aF;subst aF;refine⟨⟨by show g<=(if b=b then _ else _:bK).gen;simp,ae.1.2⟩,λ_ _=>?_⟩;show _<(if b=b then _ else _:bK).body.len/\_/\_=Value.pointer (some ⟨_,_+_*(if b=b then _ else _:bK).body.e0,_⟩);simp only[if_true];exact⟨aR,aW,bL⟩
     ·exact cM.bT j
    ·have aZ:(if b5=i then _ else _)=aH.aX l aK L m st:=aZ;split at aZ
     ·cases aZ
     ·exact cM.eL l aK L m st aZ
   ·cases h
  ·cases h
 ·cases h
theorem aiy{C:b9}{s s':aB}{b:Nat}{a:Act}{w:World}(h:Me s b=some s')(M:ct C s a w):ct C s' a w:=by
 obtain⟨κ,F,M⟩:=M;unfold Me at h;split at h
 ·rename_i e xs n v bS;split at h
  ·rename_i y bV aS;split at h
   ·cases h
   ·rename_i qz;cases h;have qz:b ∉ bV:=by simpa using qz
    obtain⟨F',f1,ba,f2⟩:=bl.ln (mX aS) M;have zZ:(s.cz bV).aa b=s.aa b:=by simp[aB.cz,qz]
    have aT:=M.bC b;have Nz:=ba.bC b;unfold cD at aT Nz;rw[zZ,bS]at Nz;rw[bS]at aT;obtain⟨aU,cs,T,bD,c2,c3,c4,c5,lQ,oM,xr⟩:=Nz;obtain⟨_,di,hW,UN,_,_,_,_,_,aiz,_⟩:=aT;rw[bD]at UN;cases UN;have vx:=mv M.bC f1 aS f2 aiz;obtain⟨HI,oZ⟩:=(dU rfl).1 vx;have gr:fq (s.cz bV).aa κ (λq=>if q=b then (⟨(s.aa b).gen,.bh (.st (.slice e)) (xs.set n y)⟩:bK) else (s.cz bV).aa q) κ:=
     rk (by rw[zZ]) (λh=>by cases h) (λ_=>by rw[zZ,bS];exact⟨rfl,by simp[bQ.len],rfl⟩) (λh=>by cases h) (λh=>by cases h)
    refine⟨κ,F',ba.px (b:=b) (w':=w) (by rw[zZ,bS];simp[bQ.bZ,aU]) (by simp[bQ.bZ,aU]) gr (λh=>by cases h) (λh=>by cases h) (λ_ _=>rfl) rfl (dd.refl w) λH mY ck he=>⟨λaw=>(by rw[aU]at aw;cases aw),λ_=>⟨cs,T,bD,c2,by simpa using c3,c4,λj aF=>?_⟩⟩⟩;by_cases rj:j=n
    ·subst rj;refine⟨[cs.getD ((κ b).off+j) Go.undef],λq bq=>?_,?_⟩
     ·have bq:q=0:=by simpa using bq
      subst bq;have:(κ b).off+j<cs.size:=by
       have:=c5.2;simp only[ab.size,Nat.mul_one]at c2;omega
      simp[ab.size,this]
     ·rw[List.getElem_set_self];exact oZ
    ·obtain⟨bj,d1,d2⟩:=lQ j (by simpa using aF) rj;exact⟨bj,d1,by rw[List.getElem_set_ne (Ne.symm rj)];exact d2⟩
  ·cases h
 ·cases h
theorem aiA:∀ (ann:cB),(∀ (C:b9) (_:C.P.follows .mixedOrders=true) (_:dS C.P T) (_:jq C.P bf) (_:l2 C.P C.aO Ψ) (_:C.r=none\/ann.eh=true) {β:Type} (c:Code) (s:aB) (k:dj->aB->A β) (O:β->Prop) (Q:Exit->Act->World->Prop) (a:Act) (w:World),lv C.nt c=true->ct C s a w->A.cv (eI C.aO T bf Ψ ann c s k) O->(∀ u,C.jT u->∀ e s' a' w',ct (C.hn u) s' a' w'->A.cv (k e s') O->Q e.pN a' w')->c.wpIn (dR C.r) 0 C.P Q a w)/\(ann.oS=true->∀ (C:b9) (_:C.P.follows .mixedOrders=true) (_:dS C.P T) (_:jq C.P bf) (_:l2 C.P C.aO Ψ) (_:C.r=none\/ann.eh=true) {β:Type} (c:Code) (s:aB) (k:dj->aB->A β) (O:β->Prop) (Q:Exit->Act->World->Prop) (a:Act) (w:World),lv C.nt c=true->ct C s a w->A.cv (eI C.aO T bf Ψ ann (.loop c) s k) O->(∀ u,C.jT u->∀ e s' a' w',ct (C.hn u) s' a' w'->A.cv (k e s') O->Q e.pN a' w')->HQ (dR C.r) 0 C.P c Q a w):=by
 intro ann;induction ann with
 | eN=>
  refine⟨?_,λ_ C en aV cA cX fU β c s k O Q a w hc M hm al=>by unfold eI at hm;exact (gH hm).elim⟩;intro C en aV cA cX fU β c s k O Q a w hc M hm al;unfold eI at hm;split at hm
  ·rename_i id ops draw;cases draw with
   | true=>exact ahT en aV (T2 cA cX) cX (λo af=>List.all_eq_true.1 hc o af) (λs' a' w' ba fj=>al C.hH C.vS .normal s' a' w' ba fj) M hm
   | false=>
    refine wpIn_region ?_;have:=MY (Q:=Q) (ops:=ops) aV cA cX (λo af=>List.all_eq_true.1 hc o af) (k:=k .normal) (O:=O) (λs' a' w' ba fj=>al C.hH C.vS .normal s' a' w' ba fj) ops.toList 0 [] s a w (by simp) (λp ao=>by cases ao) M hm;rw[List.range_eq_range'];omega
  ·exact wpIn_skip (al C.hH C.vS .normal s a w M hm)
  ·exact wpIn_label (al C.hH C.vS .normal s a w M hm)
  ·exact wpIn_exit (al C.hH C.vS (.exit _) s a w M hm)
  ·exact wpIn_ret (al C.hH C.vS .ret s a w M hm)
  ·exact (gH hm).elim
 | seq x y hA lz=>
  have hA:=hA.1;have lz:=lz.1;refine⟨?_,λh=>by simp[cB.oS]at h⟩;intro C en aV cA cX fU β c s k O Q a w hc M hm al;have l5:C.r=none\/x.eh=true:=fU.imp id λh=>by simp only[cB.eh,Bool.and_eq_true]at h;grind
  have qP:C.r=none\/y.eh=true:=fU.imp id λh=>by simp only[cB.eh,Bool.and_eq_true]at h;grind
  unfold eI at hm;split at hm
  ·rename_i ob AK;simp only[lv,Bool.and_eq_true]at hc;refine wpIn_seq (hA C en aV cA cX l5 ob s _ O _ a w hc.1 M hm λu hu e s' a' w' ba fj=>?_);cases e with
   | normal=>exact lz (C.hn u) en aV cA cX qP AK s' k O Q a' w' hc.2 ba fj λv ae=>by rw[b9.AG];exact al _ (hu.then ae)
   | exit id=>exact al u hu (.exit id) s' a' w' ba fj
   | ret=>exact al u hu .ret s' a' w' ba fj
  ·exact (gH hm).elim
 | join sh x y hA lz=>
  have hA:=hA.1;have lz:=lz.1;refine⟨?_,λh=>by simp[cB.oS]at h⟩;intro C en aV cA cX fU β c s k O Q a w hc M hm al;have l5:C.r=none\/x.eh=true:=fU.imp id λh=>by simp only[cB.eh,Bool.and_eq_true]at h;grind
  have qP:C.r=none\/y.eh=true:=fU.imp id λh=>by simp only[cB.eh,Bool.and_eq_true]at h;grind
  unfold eI at hm;split at hm
  ·rename_i ob AK;simp only[lv,Bool.and_eq_true]at hc;rw[A.fZ]at hm;refine wpIn_seq (hA C en aV cA cX l5 ob s _ _ _ a w hc.1 M hm λu hu e s' a' w' ba fj=>?_);cases e with
   | normal=>
    obtain⟨D,n9,U⟩:=uD fj;have ag:=A.d'.1 U;exact lz (C.hn u) en aV cA cX qP AK _ k O Q a' w' hc.2 (dG.xU n9 ba) ag λv ae=>by rw[b9.AG];exact al _ (hu.then ae)
   | exit id=>
    simp only[xS,A.fZ,A.d',V.bE]at fj;exact al u hu (.exit id) s' a' w' ba fj
   | ret=>
    simp only[xS,A.fZ,A.d',V.bE]at fj;exact al u hu .ret s' a' w' ba fj
  ·exact (gH hm).elim
 | cond x y hA lz=>
  have hA:=hA.1;have lz:=lz.1;refine⟨?_,λh=>by simp[cB.oS]at h⟩;intro C en aV cA cX fU β c s k O Q a w hc M hm al;have l5:C.r=none\/x.eh=true:=fU.imp id λh=>by simp only[cB.eh,Bool.and_eq_true]at h;grind
  have qP:C.r=none\/y.eh=true:=fU.imp id λh=>by simp only[cB.eh,Bool.and_eq_true]at h;grind
  unfold eI at hm;split at hm
  ·rename_i co ob AK;simp only[lv,Bool.and_eq_true]at hc;unfold Th at hm;split at hm
   ·rename_i t hu;obtain⟨κ,F,eV⟩:=M;have ae:=kd eV co;rw[hu]at ae;refine wpIn_cond_split (fe.1 ae) (λaM=>?_) (λaM=>?_)
    ·subst aM;exact hA C en aV cA cX l5 ob s k O Q a w hc.1 ⟨κ,F,eV⟩ hm al
    ·subst aM;exact lz C en aV cA cX qP AK s k O Q a w hc.2 ⟨κ,F,eV⟩ hm al
   ·rename_i g t hu;rw[A.kS]at hm;obtain⟨bc,hm⟩:=hm;obtain⟨κ,F,eV⟩:=M;have ae:=kd eV co;rw[hu]at ae;refine wpIn_cond_split (fe.1 (ae.1 bc)) (λaM=>?_) (λaM=>?_)
    ·subst aM;exact hA C en aV cA cX l5 ob s k O Q a w hc.1 ⟨κ,F,eV⟩ hm al
    ·subst aM;exact lz C en aV cA cX qP AK s k O Q a w hc.2 ⟨κ,F,eV⟩ hm al
   ·exact (gH hm).elim
  ·exact (gH hm).elim
 | block x hA=>
  have hA:=hA.1;refine⟨?_,λh=>by simp[cB.oS]at h⟩;intro C en aV cA cX fU β c s k O Q a w hc M hm al;have l5:C.r=none\/x.eh=true:=fU;unfold eI at hm;split at hm
  ·rename_i id ob;refine wpIn_block (hA C en aV cA cX l5 ob s _ O _ a w hc M hm λu hu e s' a' w' ba fj=>?_);cases e with
   | normal=>exact al u hu .normal s' a' w' ba fj
   | exit G5=>
    simp only[Tg]at fj;simp only[dj.pN,Exit.inBlock];split at fj
    ·rename_i e;rw[if_pos e];exact al u hu .normal s' a' w' ba fj
    ·rename_i e;rw[if_neg e];exact al u hu (.exit G5) s' a' w' ba fj
   | ret=>exact al u hu .ret s' a' w' ba fj
  ·exact (gH hm).elim
 | loop sh x hA=>
  have hA:=hA.1;refine⟨?_,λh=>by simp[cB.oS]at h⟩;intro C en aV cA cX fU β c s k O Q a w hc M hm al;have l5:C.r=none\/x.eh=true:=fU;unfold eI at hm;split at hm
  ·rename_i ob;obtain⟨D,n9,U⟩:=uD hm;refine aiq (I:=λD a w=>∃ u,C.jT u/\ct (C.hn u) (sh.st D) a w) (O:=O) (λD a w ⟨v,ae,eA⟩ rB DK=>?_) U.1 U.2 ⟨C.hH,C.vS,dG.xU n9 M⟩;refine hA (C.hn v) en aV cA cX l5 ob (sh.st D) _ (Ny (eI C.aO T bf Ψ x ob (sh.st D) (xS k λs'=>sh.ng s' λiL=>A.pure (V.next iL))) O) _ a w hc eA ⟨rB,λst gv=>?_⟩ λu hu e s' a' w' ba fj=>?_
   ·cases st with
    | next iL=>exact gv
    | done r=>exact DK r gv
   ·cases e with
    | normal=>
     obtain⟨iL,Ni,ag⟩:=uD fj;have a7:=A.d'.1 ag;exact⟨iL,a7,_,ae.then hu,by rw[<-b9.AG];exact dG.xU Ni ba⟩
    | exit id=>
     simp only[xS,A.fZ,A.d',Ny]at fj;exact al _ (ae.then hu) (.exit id) s' a' w' (by rw[<-b9.AG];omega) fj
    | ret=>
     simp only[xS,A.fZ,A.d',Ny]at fj;exact al _ (ae.then hu) .ret s' a' w' (by rw[<-b9.AG];omega) fj
  ·exact (gH hm).elim
 | scope x hA=>
  have hA:=hA.1;refine⟨?_,λh=>by simp[cB.oS]at h⟩;intro C en aV cA cX fU β c s k O Q a w hc M hm al;have l5:C.r=none\/x.eh=true:=fU;unfold eI at hm;split at hm
  ·rename_i ob;refine aiw (hA C en aV cA cX l5 ob s _ O _ a w hc M hm λu hu e s' a' w' ba fj=>?_);have:=al u hu e s' a' w' ba fj;cases e<;>exact this
  ·exact (gH hm).elim
 | range sh rin rout x y hA lz=>
  have hA:=hA.1;have lz:=lz.1;refine⟨?_,λh=>by simp[cB.oS]at h⟩;intro C en aV cA cX fU β c s k O Q a w hc M hm al;unfold eI at hm;split at hm
  ·rename_i g ps assign body;simp only[lv,Bool.and_eq_true,List.all_eq_true,decide_eq_true_eq]at hc;obtain⟨ayI,UO,UP⟩:=hc;split at hm
   ·rename_i rL n eT aC;split at hm
    ·rename_i ic aiB;split at hm
     ·rename_i ayJ bV ah;split at hm
      ·rename_i ea;simp only[Bool.and_eq_true]at ea;obtain⟨ea,l5,qP⟩:=ea;obtain⟨D,n9,U⟩:=uD hm;rw[A.kS,A.fZ]at U;simp only[Ti]at U;have iQ:C.r=none:=fU.resolve_right λh=>by cases h
       have NA:n8 sh rout ic.aK ps.toList C.nt=true:=by
        simp only[n8,Bool.and_eq_true,List.all_eq_true,decide_eq_true_eq]at ea ⊢;grind
       refine ail iQ M aC (cX rL _ aiB) ah NA n9 U.1 U.2 (λl=>?_) al;intro C1 jt ua rS um ew ca b' qM ki kn;have h:=hA C1 (jt ▸ en) (jt ▸ aV) (jt ▸ cA) (by grind) (.inr l5) assign ew (G6 λdN=>eI C.aO T bf Ψ y body dN λe eJ=>rout.ng eJ λbm=>A.pure (e,bm)) qM
        (Exit.then (λa2 c8=>∃ u dN,C1.jT u/\ct (C1.hn u) dN a2 c8/\
         ∀ (hz:b9),hz.P=C.P->hz.aO=C.aO->hz.nt=C.nt->hz.r=some l->∀ (c8:World),ct hz dN a2 c8->
          body.wpIn (dR (some l)) 0 C.P (λe a3 eW=>∃ (aZ:dj) (v:n') (eJ:aB) (bm:rout.aj),e=aZ.pN/\hz.jT v/\ct (hz.hn v) eJ a3 eW/\rout.jc eJ=some bm/\qM (aZ,bm)) a2 c8) (λ_ _ _=>False)) ca b' (rS ▸ UO) ki (ua ▸ kn)
        λu hu e dN a2 c8 cM pQ=>?_
       ·grind
       ·cases e with
        | normal=>
         refine⟨u,dN,hu,cM,λhz yb NB NC aiC c8 mH=>?_⟩;have h:=lz hz (yb ▸ en) (yb ▸ aV) (yb ▸ cA) (by grind) (.inr qP) body dN (λe eJ=>rout.ng eJ λbm=>A.pure (e,bm)) qM
          (λe a3 eW=>∃ (aZ:dj) (v:n') (eJ:aB) (bm:rout.aj),e=aZ.pN/\hz.jT v/\ct (hz.hn v) eJ a3 eW/\rout.jc eJ=some bm/\qM (aZ,bm)) a2 c8 (NC ▸ UP) mH (NB ▸ pQ) λv ae e eJ a3 eW o0 HR=>by
           obtain⟨bm,ga,bN⟩:=uD HR;exact⟨e,v,eJ,bm,rfl,ae,o0,ga,A.d'.1 bN⟩
         grind
        | exit id=>exact (gH pQ).elim
        | ret=>exact (gH pQ).elim
      ·exact (gH hm).elim
     ·exact (gH hm).elim
    ·exact (gH hm).elim
   ·rename_i aK S aC;split at hm
    ·rename_i ea;simp only[Bool.and_eq_true]at ea;obtain⟨ea,l5,qP⟩:=ea;obtain⟨D,n9,U⟩:=uD hm;rw[A.fZ]at U;have iQ:C.r=none:=fU.resolve_right λh=>by cases h
     have NA:n8 sh rout aK ps.toList C.nt=true:=by
      simp only[n8,Bool.and_eq_true,List.all_eq_true,decide_eq_true_eq]at ea ⊢;grind
     refine ain iQ M aC NA n9 U.1 (λL iP=>by have ag:=A.fZ.1 (U.2 L iP);simp only[Ti]at ag;exact ag) (λl=>?_) al;intro C1 jt ua rS um ew ca b' qM ki kn;have h:=hA C1 (jt ▸ en) (jt ▸ aV) (jt ▸ cA) (by grind) (.inr l5) assign ew (G6 λdN=>eI C.aO T bf Ψ y body dN λe eJ=>rout.ng eJ λbm=>A.pure (e,bm)) qM
      (Exit.then (λa2 c8=>∃ u dN,C1.jT u/\ct (C1.hn u) dN a2 c8/\
       ∀ (hz:b9),hz.P=C.P->hz.aO=C.aO->hz.nt=C.nt->hz.r=some l->∀ (c8:World),ct hz dN a2 c8->
        body.wpIn (dR (some l)) 0 C.P (λe a3 eW=>∃ (aZ:dj) (v:n') (eJ:aB) (bm:rout.aj),e=aZ.pN/\hz.jT v/\ct (hz.hn v) eJ a3 eW/\rout.jc eJ=some bm/\qM (aZ,bm)) a2 c8) (λ_ _ _=>False)) ca b' (rS ▸ UO) ki (ua ▸ kn)
      λu hu e dN a2 c8 cM pQ=>?_
     ·grind
     ·cases e with
      | normal=>
       refine⟨u,dN,hu,cM,λhz yb NB NC aiC c8 mH=>?_⟩;have h:=lz hz (yb ▸ en) (yb ▸ aV) (yb ▸ cA) (by grind) (.inr qP) body dN (λe eJ=>rout.ng eJ λbm=>A.pure (e,bm)) qM
        (λe a3 eW=>∃ (aZ:dj) (v:n') (eJ:aB) (bm:rout.aj),e=aZ.pN/\hz.jT v/\ct (hz.hn v) eJ a3 eW/\rout.jc eJ=some bm/\qM (aZ,bm)) a2 c8 (NC ▸ UP) mH (NB ▸ pQ) λv ae e eJ a3 eW o0 HR=>by
         obtain⟨bm,ga,bN⟩:=uD HR;exact⟨e,v,eJ,bm,rfl,ae,o0,ga,A.d'.1 bN⟩
       grind
      | exit id=>exact (gH pQ).elim
      | ret=>exact (gH pQ).elim
    ·exact (gH hm).elim
   ·exact (gH hm).elim
  ·exact (gH hm).elim
 | n7 x y hA lz=>
  refine ais (λ_ C en aV cA cX fU β c s k O Q a w hc M hm al=>?_) λkey C en aV cA cX fU β c s k O Q a w hc M hm al=>?_
  ·have l5:C.r=none\/x.eh=true:=fU.imp id λh=>by simp only[cB.eh,Bool.and_eq_true]at h;grind
   have qP:C.r=none\/y.eh=true:=fU.imp id λh=>by simp only[cB.eh,Bool.and_eq_true]at h;grind
   unfold eI at hm;simp only at hm;split at hm
   ·rename_i hu;refine aiu (hA.1 C en aV cA cX l5 c s _ O _ a w hc M hm λu xX e s' a' w' ba fj=>?_);cases e with
    | normal=>exact lz.2 hu (C.hn u) en aV cA cX qP c s' k O Q a' w' hc ba fj λv ae=>by rw[b9.AG];exact al _ (xX.then ae)
    | exit id=>exact al u xX (.exit id) s' a' w' ba fj
    | ret=>exact al u xX .ret s' a' w' ba fj
   ·exact (gH hm).elim
  ·cases c with
   | loop ob=>exact ait (key rfl C en aV cA cX fU ob s k O Q a w hc M hm al)
   | _=>unfold eI at hm;exact (gH hm).elim
 | G4=>
  refine⟨?_,λh=>by simp[cB.oS]at h⟩;intro C en aV cA cX fU β c s k O Q a w hc M hm al;unfold eI at hm;split at hm
  ·rename_i id ops draw;split at hm
   ·rename_i h;rw[Bool.and_eq_true]at h;obtain⟨rfl,h⟩:=h;exact ahZ en (fU.resolve_right (by simp[cB.eh])) h aV (T2 cA cX) cX (λo af=>List.all_eq_true.1 hc o af) (λs' a' w' ba fj=>al C.hH C.vS .normal s' a' w' ba fj) M hm
   ·exact (gH hm).elim
  ·exact (gH hm).elim
 | n1 i x aI=>
  have aI:=aI.1;refine⟨?_,λh=>by simp[cB.oS]at h⟩;intro C en aV cA cX fU β c s k O Q a w hc M hm al;unfold eI at hm;split at hm
  ·rename_i s' ae;exact aI C en aV cA cX fU c s' k O Q a w hc (aix ae M) hm al
  ·exact (gH hm).elim
 | G3 b x aI=>
  have aI:=aI.1;refine⟨?_,λh=>by simp[cB.oS]at h⟩;intro C en aV cA cX fU β c s k O Q a w hc M hm al;unfold eI at hm;split at hm
  ·rename_i s' ae;exact aI C en aV cA cX fU c s' k O Q a w hc (aiy ae M) hm al
  ·exact (gH hm).elim
 | num i n x aI=>
  have aI:=aI.1;refine⟨?_,λh=>by simp[cB.oS]at h⟩;intro C en aV cA cX fU β c s k O Q a w hc M hm al;unfold eI at hm;split at hm
  ·rename_i v f ae;rw[A.kS]at hm;have h:=hm.2;rw[afC ae hm.1]at h;exact aI C en aV cA cX fU c s k O Q a w hc M h al
  ·exact (gH hm).elim
 | split i off n x aI=>
  have aI:=aI.1;refine⟨?_,λh=>by simp[cB.oS]at h⟩;intro C en aV cA cX fU β c s k O Q a w hc M hm al;unfold eI at hm;split at hm
  ·rename_i v f ae;rw[A.kS]at hm;have h:=Td hm.2 hm.1.1 hm.1.2;rw[afB ae hm.1.1]at h;exact aI C en aV cA cX fU c s k O Q a w hc M h al
  ·exact (gH hm).elim
theorem UQ(ann:cB):∀ (C:b9) (_:C.P.follows .mixedOrders=true) (_:dS C.P T) (_:jq C.P bf) (_:l2 C.P C.aO Ψ) (_:C.r=none\/ann.eh=true) {β:Type} (c:Code) (s:aB) (k:dj->aB->A β) (O:β->Prop) (Q:Exit->Act->World->Prop) (a:Act) (w:World),lv C.nt c=true->ct C s a w->A.cv (eI C.aO T bf Ψ ann c s k) O->(∀ u,C.jT u->∀ e s' a' w',ct (C.hn u) s' a' w'->A.cv (k e s') O->Q e.pN a' w')->c.wpIn (dR C.r) 0 C.P Q a w:=(aiA ann).1
end
end Go.Fer
namespace Go.Fer
open Go.RowKit
def D3(T:Nat->ab)(s:aB):List ResultVar->Option (List aH)
 | []=>some []
 | r::l=>match D3 T s l with
  | none=>none
  | some aD=>match r with
   | .tmp t=>some (s.az t::aD)
   | .cell a ty=>match (zF (T ty) (s.az a)).run s.aa with
    | some v=>some (v::aD)
    | none=>none
def ND(t:ab)(n:Nat):Bool:=
 match t with
 | .aA _ _=>n != 1
 | .cT=>n == 0
 | _=>n == 1
def vV(T:Nat->ab)(kG:List ResultVar)(aX:ab)(e:dj)(s:aB):A aX.aj:=
 match e with
 | .exit _=>A.fail
 | _=>match D3 T s kG with
  | some avs=>match (iZ aX avs).run s.aa with
   | some (y,_)=>A.pure y
   | none=>A.fail
  | none=>A.fail
def AL(t:ab)(x:t.aj)(n:Nat):List (Nat×aH):=(List.range n).map λi=>(i,kB t x i)
def sY(t:ab):Nat:=if t=.cT then 0 else ka t
def pS(t:ab)(x:t.aj):aB:=S3 (AL t x (sY t)) []
def D4(aQ:dD)(T:Nat->ab)(bf:Nat->Option aN)(Ψ:Nat->Option e3)(fn:Func)(c:Code)(ann:cB)(ts aX:ab)(x:ts.aj):A aX.aj:=
 eI aQ T bf Ψ ann c (pS ts x) (vV T fn.results.toList aX)
def HS(av:aH):aH:=match av with | .val (.bH e) p=>.dV e (p.getD e.df) | v=>v
def D5(av:aH):Prop:=match av with | .val (.bH _) p=>p.isSome=true | _=>True
def HT(n:Nat)(s:aB):aB:=⟨λi=>if i<n\/eQ<i then s.az i else HS (s.az i),s.aa⟩
def D6(n:Nat)(s:aB):Prop:=∀ i,¬(i<n\/eQ<i)->D5 (s.az i)
def aiD(aQ:dD)(T:Nat->ab)(bf:Nat->Option aN)(Ψ:Nat->Option e3)(fn:Func)(c:Code)(ann:cB)(n:Nat)(ts aX:ab)(x:ts.aj):A aX.aj:=
 A.ad (D6 n (pS ts x)) (eI aQ T bf Ψ ann c (HT n (pS ts x)) (vV T fn.results.toList aX))
def D7(fn:Func)(c:Code)(ts aX:ab):Bool:=
 lv fn.ntmps c && ND aX fn.results.size && decide (sY ts <= fn.ntmps) && !(fn.name == "runtime.NumGoroutine") && decide (fn.ntmps <= eQ)
def AM:z9'->List aH->Option (List aH)
 | [],[]=>some []
 | none::g,v::aD=>match AM g aD with
  | some l=>some (v::l)
  | none=>none
 | some n::g,v::aD=>match v,AM g aD with
  | .agg m f,some l=>if m=n then some ((List.range n).map f++l) else none
  | _,_=>none
 | _,_=>none
def HU(T:Nat->ab)(kG:List ResultVar)(kI:z9')(bR:dG)(e:dj)(s:aB):A bR.aj:=
 match e with
 | .exit _=>A.fail
 | _=>match D3 T s kG with
  | some avs=>match AM kI avs with
   | some l=>match decide (l.length<=eQ) with
    | true=>bR.ng (sH s l) λbm=>A.pure bm
    | false=>A.fail
   | none=>A.fail
  | none=>A.fail
def NF(aQ:dD)(T:Nat->ab)(bf:Nat->Option aN)(Ψ:Nat->Option e3)(fn:Func)(c:Code)(ann:cB)(cn bR:dG)(kI:z9')(D:cn.aj):A bR.aj:=
 eI aQ T bf Ψ ann c (cn.st D) (HU T fn.results.toList kI bR)
def D8(fn:Func)(c:Code)(kl:Nat)(kI:z9'):Bool:=
 lv fn.ntmps c && decide (fn.results.size = kI.length) && decide (kl <= fn.ntmps) && !(fn.name == "runtime.NumGoroutine") && decide (fn.ntmps <= eQ)
section
variable {C:b9} {T:Nat->ab} {bf:Nat->Option aN} {Ψ:Nat->Option e3}
def AN(tmps:Array Value)(r:ResultVar):Sem Value:=
 match r with
 | .tmp t=>pure (tmps.getD t undef)
 | .cell b t=>do loadVar t (<-asAddr (tmps.getD b undef))
theorem UR(fn:Func)(tmps:Array Value):results fn tmps=(fn.results.mapM (AN tmps) >>= λaD=>pure (if h:aD.size=1 then aD[0] else .tuple aD)):=by
 rfl
theorem US(aV:dS C.P T){s:aB}{a:Act}{w:World}{κ:Nat->bB}{F:Nat->Prop}(M:bl C s a w κ F):∀ (kG:List ResultVar) {avs:List aH},D3 T s kG=some avs->
  ∃ aD:List Value,(kG.mapM (AN a.tmps)).run C.P w=.ok aD w/\aD.length=kG.length/\avs.length=kG.length/\
   ∀ i (h:i<avs.length) (dt:i<aD.length),bz C.P s.aa κ F w avs[i] aD[i]:=by
 intro kG;induction kG with
 | nil=>intro avs h;cases h;simp
 | cons r kG aI=>
  intro avs h;simp only[D3]at h;split at h
  ·cases h
  ·rename_i l ai;obtain⟨aD,E,U,ag,a7⟩:=aI ai;have one:∃ av v,avs=av::l/\(AN a.tmps r).run C.P w=.ok v w/\bz C.P s.aa κ F w av v:=by
    split at h
    ·rename_i t;cases h;exact⟨_,_,rfl,rfl,M.bT t⟩
    ·rename_i b ty;split at h
     ·rename_i v ae;cases h;obtain⟨u,aR,aW⟩:=R2 aV M ae (M.bT b);refine⟨v,u,rfl,?_,aW⟩;unfold Instr.loadAt at aR;unfold AN;simp only;generalize a.tmps.getD b Go.undef=z at aR ⊢;cases z with
      | pointer p=>
       cases p with
       | none=>simp[Instr.sureAddr]at aR
       | some p=>simpa [Instr.sureAddr,asAddr]using aR
      | _=>simp[Instr.sureAddr]at aR
     grind
   obtain⟨av,v,rfl,aR,aW⟩:=one;refine⟨v::aD,?_,by grind,by grind,λi G dJ=>?_⟩
   ·simp_all
   grind
theorem aiE(aV:dS C.P T){fn:Func}{aX:ab}(rT:ND aX fn.results.size=true){e:dj}{s:aB}{a:Act}{w:World}{O:aX.aj->Prop}(M:ct C s a w)(hm:A.cv (vV T fn.results.toList aX e s) O) :
  (∀ id,e≠.exit id)/\∃ κ F v y,bl C s a w κ F/\(results fn a.tmps).run C.P w=.ok v w/\O y/\∃ F',(∀ r,F' r->C.F0 r\/¬C.K0 r)/\(∀ r,F' r->r<w.heap.size)/\tR C.P aX F' w v y:=by
 obtain⟨κ,F,M⟩:=M;unfold vV at hm;split at hm
 ·exact (gH hm).elim
 ·rename_i eC;refine⟨λid he=>eC id he,?_⟩;split at hm
  ·rename_i avs NG;split at hm
   ·rename_i y l aS;obtain⟨aD,E,U,ag,a7⟩:=US aV M _ NG;obtain⟨F',f1,ba,f2⟩:=bl.ln (qB _ aS) M;have dX:=vC (F':=F') M.bC f1 aX aS f2 (by omega) a7;have c7:(results fn a.tmps).run C.P w=.ok (if h:aD.toArray.size=1 then aD.toArray[0] else .tuple aD.toArray) w:=by
     rw[UR,Sem.run_bind];have:(fn.results.mapM (AN a.tmps)).run C.P w=.ok aD.toArray w:=by
      rw[Array.mapM_eq_mapM_toList,map_eq_pure_bind,Sem.run_bind,E];rfl
     simp_all
    refine⟨κ,F,_,y,M,c7,A.d'.1 hm,F',ba.hi,ba.db,aD,?_,dX⟩;have cf:aD.length=fn.results.size:=by omega
    rw[<-cf]at rT;clear c7 dX E a7 U cf aS;have one:aD.length=1->aD=[if h:aD.toArray.size=1 then aD.toArray[0] else .tuple aD.toArray]:=by
     intro h;match aD,h with
     | [v],_=>rfl
    cases aX<;>simp only[ND,beq_iff_eq,bne_iff_ne,ne_eq]at rT<;>simp only[zu];case aA=>rw[dif_neg (by simpa using rT)]
    case cT=>
     have:aD=[]:=List.length_eq_zero_iff.1 rT;subst this;exact⟨rfl,rfl⟩
    all_goals exact one rT
   ·exact (gH hm).elim
  ·exact (gH hm).elim
theorem UT{l:List (Nat×aH)}{i:Nat}:fr l i=.undef\/(i,fr l i)∈l:=by
 induction l with
 | nil=>exact .inl rfl
 | cons p l aI=>
  simp only[fr];grind
theorem uH{P : Program}{k : FuncId}{fn : Func}{c : Code}(au : P.funcs[k]? = some fn)(W : fn.body = some c)(aw : (fn.name == "runtime.NumGoroutine") = false)(args : Array Value)(w : World) :
  (callFunc k args).run P w=.ok (.enter k args) w:=by
 have aw : ¬ fn.name = "runtime.NumGoroutine" := by grind
 simp[callFunc,au,W,aw]
def pT(w:World):List Nat->World
 | []=>w
 | B::ms=>pT (w.putObj B (.deferred none)) ms
theorem UU:∀ (ms:List Nat) (w:World),(pT w ms).heap.size=w.heap.size
 | [],_=>rfl
 | _::ms,_=>(UU ms _).trans World.putObj_size
theorem NH:∀ (ms:List Nat) (w:World) {r:Nat},r ∉ ms->(pT w ms).heap[r]?=w.heap[r]?
 | [],_,_,_=>rfl
 | B::ms,w,r,h=>by
  simp only[List.mem_cons,not_or]at h;exact (NH ms _ h.2).trans (World.putObj_heap_other h.1)
theorem UW:∀ (ms:List Nat) (w:World),dd w (pT w ms)
 | [],w=>dd.refl w
 | B::ms,w=>by
  have h:dd w (w.putObj B (.deferred none)):=⟨rfl,rfl,rfl⟩
  exact h.trans (UW ms _)
theorem NI{P:Program}{fn:Func}{tmps:Array Value}{R:Ending->World->Prop}:∀ (ms:List Nat) (w:World),ms.Nodup->(∀ B∈ms,w.heap[B]?=some (.deferred (some [])))->
  (∃ v,(results fn tmps).run P (pT w ms)=.ok v (pT w ms)/\R (.returned v) (pT w ms))->LeavesInM Fence.wide 0 P fn tmps R (ms.map oY) .returning w
 | [],w,_,_,h=>h
 | B::ms,w,aw,aT,h=>by
  simp only[List.nodup_cons]at aw;refine⟨by simp,.inl ⟨B,_,rfl,run_takeDeferred (aT B (by simp)),?_⟩⟩;exact NI ms _ aw.2 (λaiF dt=>(World.putObj_heap_other λe=>aw.1 (by grind)).trans (aT aiF (List.mem_cons_of_mem _ dt))) h
theorem ct.UX{u:n'}{s:aB}{a:Act}{w:World}(hu:C.jT u)(aiG:∀ r,C.F0 r->r<C.w0.heap.size)(vN:∀ r,C.K0 r->r<C.w0.heap.size)(h:ct (C.hn u) s a w) :
  ct { C with dfr:=u.ms.map oY++C.dfr } s a (pT w u.ms)/\a.defers=u.ms.map oY++C.dfr/\∀ B∈u.ms,w.heap[B]?=some (.deferred (some [])):=by
 obtain⟨κ,F,h⟩:=h;have ayK:∀ B∈u.ms,¬F B:=λB aT au=>by
  obtain⟨E,_⟩:=hu.sV B aT;rcases h.hi B au with U | U
  ·have:=aiG B U;have:=(hu.ey B aT).2;omega
  ·exact U E
 have cf:=UU u.ms w;have hc:=UW u.ms w;refine⟨⟨κ,F,h.HF (w0:=C.w0) (w':=pT w u.ms) (K0:=C.K0) (r:=C.r) (λr M=>hu.ho r M) (λr M=>NH _ _ λhm=>?_) (Nat.le_of_eq cf.symm) hc vN (λr M=>?_) ?_ ?_⟩,h.dfr,λB aT=>?_⟩
 ·rcases M with M | M
  ·grind
  ·exact M (hu.sV r hm).1
 ·exact (NH _ _ λhm=>(hu.ey r hm).1 M).trans ((h.eH r (hu.ho r M)).trans (hu.eH r M))
 ·rw[cf];exact Nat.le_trans hu.size h.size
 ·exact (hu.er.trans h.er).trans hc
 ·exact (h.eH B (hu.sV B aT).1).trans (hu.sV B aT).2
theorem UY{P:Program}{aQ:dD}(en:P.follows .mixedOrders=true){k:FuncId}{fn:Func}{c:Code}{ann:cB}{ts aX:ab}{sh:ts.aj->A aX.aj}(aV:dS P T)(ig:ri P aQ)(cA:jq P bf)(cX:l2 P aQ Ψ)(au:P.funcs[k]?=some fn)(W:fn.body=some c)
    (cL:D7 fn c ts aX=true) {s0:ts.aj->aB} {pre:ts.aj->Prop} (nj:∀ x C a w,ct C (pS ts x) a w->pre x->ct C (s0 x) a w)
    (nR:∀ x,A.le (A.ad (pre x) (eI aQ T bf Ψ ann c (s0 x) (vV T fn.results.toList aX))) (sh x)):h7 P k ts aX sh:=by
  simp only[D7,Bool.and_eq_true,Bool.not_eq_true',decide_eq_true_eq]at cL;obtain⟨⟨⟨⟨D9,rT⟩,aiH⟩,NJ⟩,uA⟩:=cL;refine⟨uH au W NJ,λF w args x bn gn dX rB=>?_⟩;obtain⟨⟨gP,E⟩,U⟩:=nR x rB;have hlen:args.length=sY ts/\∀ i,i<sY ts->∀ (H:Nat->bK) (κ:Nat->bB),bz P H κ F w (kB ts x i) (args.getD i Go.undef):=by
    unfold sY;split
    · rename_i e
      subst e
      have:args=[]:=dX.1
      grind
    · rename_i e
      exact⟨(ue (H:=λ_=>⟨0,.fy⟩) (κ:=λ_=>⟨0,0,0,false⟩) ts dX e).1,λi G H κ=>(ue ts dX e).2 i G⟩
  let C:b9:={ P:=P,w0:=w,F0:=F,K0:=λr=>r<w.heap.size,nt:=fn.ntmps,r:=none,dfr:=[],il:=λ_=>none,cd:=⟨0,.cT,λ_=>False,λ_ _ _ _ _=>False⟩,aO:=aQ }
  let a0:Act:={ tmps:=args.toArray++Array.replicate (fn.ntmps - args.toArray.size) undef,defers:=[] }
  let aiI:Nat->bB:=λ_=>⟨0,0,0,false⟩
  have qJ:∀ i,(pS ts x).az i=.undef\/(i<sY ts/\(pS ts x).az i=kB ts x i):=λi=>by
    rcases UT (l:=AL ts x (sY ts)) (i:=i) with e | e
    · exact .inl e
    · refine .inr ?_
      generalize bk:fr (AL ts x (sY ts)) i=z at e
      simp only[AL,List.mem_map,List.mem_range,Prod.mk.injEq]at e
      obtain⟨j,aF,rfl,rfl⟩:=e
      exact⟨aF,bk⟩
  have M:ct C (pS ts x) a0 w:=by
    refine⟨aiI, F, { dE := ?_, dfr := rfl, bT := λi => ?_, bC := λb => trivial, an := λb W => (by cases W), inj := λb be W _ _ => (by cases W), db := bn, hi := λr M => .inl M, hT := λr M => M, hx := λr M => M, eH := λr _ => rfl, size := Nat.le_refl _, er := dd.refl w,gl:=uA,kv:=λb r h=>(by cases h),jH:=λb r h=>(by cases h),j_:=λb k h=>(by cases h),kx:=λb k h=>(by cases h),eL:=λl aK L n st e=>?_,jI:=ig,iD:=gn }⟩
    · grind
    · rcases qJ i with e | ⟨G,e⟩
      · rw[e];simp only[bz]
      · rw[e]
        have:a0.tmps.getD i Go.undef=args.getD i Go.undef:=by
          have dJ:i<args.length:=by omega
          simp[a0,Array.getD_eq_getD_getElem?,List.getD_eq_getElem?_getD,Array.getElem?_append,dJ]
        grind
    · rcases qJ b5 with h | ⟨h,_⟩
      · grind
      · unfold b5 eQ at *;omega
  refine callsIn_wide.1 (callsIn_of_wp_marks (F:=Fence.wide) (n:=0) au W trivial ?_);have hw:=UQ ann C en aV cA cX (.inl rfl) (k:=vV T fn.results.toList aX) (O:=(eI aQ T bf Ψ ann c (s0 x) (vV T fn.results.toList aX)).bR) (Q:=bodyPostM Fence.wide 0 P fn λe w'=>∃ v y,e=.returned v/\(sh x).bR y/\tR P aX (vk F w w') w' v y/\Below w.heap.size w w') c (s0 x) a0 w D9 (nj x C a0 w M gP) ⟨E,λ_ h=>h⟩;refine hw λu hu e s' a' w' ba hm=>?_;obtain⟨cM,ar,aT⟩:=ct.UX hu bn (λ_ h=>h) ba;obtain⟨eC,κ,AA,v,y,eV,c7,aS,F',f1,f2,gp⟩:=aiE (C:={ C with dfr:=u.ms.map oY++C.dfr }) aV rT cM hm;have uu:LeavesInM Fence.wide 0 P fn a'.tmps (λe w'=>∃ v y,e=.returned v/\(sh x).bR y/\tR P aX (vk F w w') w' v y/\Below w.heap.size w w') a'.defers .returning w':=by
    rw[ar];simp only[C,List.append_nil];refine NI u.ms w' hu.mG aT ⟨v,c7,v,y,rfl,U y aS,?_,eV.er.os,eV.er.tape,eV.er.output,eV.size,eV.eH⟩;obtain⟨aD,aR,aW,bL⟩:=gp;refine⟨aD,aR,aW,fc aX (λr M=>?_) (c6.refl _ _) bL⟩;rcases f1 r M with h | h
    · exact .inl h
    · exact .inr ⟨Nat.le_of_not_lt h,f2 r M⟩
  cases e with
  | normal=>exact uu
  | exit id=>grind
  | ret=>exact uu
theorem aiJ{P:Program}{aQ:dD}(en:P.follows .mixedOrders=true){k:FuncId}{fn:Func}{c:Code}{ann:cB}{ts aX:ab}{sh:ts.aj->A aX.aj}(aV:dS P T)(ig:ri P aQ)(cA:jq P bf)(cX:l2 P aQ Ψ)(au:P.funcs[k]?=some fn)(W:fn.body=some c)
  (cL:D7 fn c ts aX=true) (nR:∀ x,A.le (D4 aQ T bf Ψ fn c ann ts aX x) (sh x)):h7 P k ts aX sh:=
 UY en aV ig cA cX au W cL (ann:=ann) (s0:=pS ts) (pre:=λ_=>True) (λ_ _ _ _ h _=>h) λx aE=>⟨⟨trivial,(nR x aE).1⟩,(nR x aE).2⟩
theorem aiK{C:b9}{s:aB}{a:Act}{w:World}{n:Nat}(h:ct C s a w)(hc:D6 n s):ct C (HT n s) a w:=by
 obtain⟨κ,F,M⟩:=h;refine⟨κ,F,{ M with bT:=λi=>?_,dE:=M.dE,dfr:=M.dfr,bC:=M.bC,eL:=λl aK L m st e=>?_ }⟩
 ·show bz C.P s.aa κ F w (if i<n\/eQ<i then s.az i else HS (s.az i)) _;split
  ·exact M.bT i
  ·rename_i G;have ae:=M.bT i;have ao:=hc i G;unfold HS;unfold D5 at ao;split
   ·rename_i e p he;rw[he]at ae ao;have ao:p.isSome=true:=ao;obtain⟨_,ae⟩:=(dU rfl).1 ae;simp only[bI]at ae;rcases ae with⟨_,rfl⟩ | ⟨q,y,bj,bq,rfl,aR,aW⟩
    ·cases ao
    ·exact⟨q,bj,(List.cons.inj bq).1,aR,aW⟩
   omega
 ·have e:(if b5<n\/eQ<b5 then s.az b5 else HS (s.az b5))=.aX l aK L m st:=e;rw[if_pos (.inr (by decide))]at e;exact M.eL l aK L m st e
theorem aiL{P:Program}{aQ:dD}(en:P.follows .mixedOrders=true){k:FuncId}{fn:Func}{c:Code}{ann:cB}{n:Nat}{ts aX:ab}{sh:ts.aj->A aX.aj}(aV:dS P T)(ig:ri P aQ)(cA:jq P bf)(cX:l2 P aQ Ψ)(au:P.funcs[k]?=some fn)(W:fn.body=some c)
  (cL:D7 fn c ts aX=true) (nR:∀ x,A.le (aiD aQ T bf Ψ fn c ann n ts aX x) (sh x)):h7 P k ts aX sh:=
 UY en aV ig cA cX au W cL (ann:=ann) (s0:=λx=>HT n (pS ts x)) (pre:=λx=>D6 n (pS ts x)) (λ_ _ _ _ h ao=>aiK h ao) nR
theorem NK{H:Nat->bK}{κ:Nat->bB}{F:Nat->Prop}{w:World}{P:Program}:∀ (g:z9') {avs l:List aH} {us:List Value},AM g avs=some l->avs.length=us.length->(∀ i (h:i<avs.length) (dt:i<us.length),bz P H κ F w avs[i] us[i])->
  ∃ aD:List Value,Dt g us aD/\l.length=aD.length/\∀ i,i<aD.length->bz P H κ F w (l.getD i .undef) (aD.getD i undef)
 | [],[],l,us,h,ai,_=>by
  cases h;have:us=[]:=List.eq_nil_of_length_eq_zero ai.symm;subst this;exact⟨[],rfl,rfl,λi G=>by cases G⟩
 | [],_::_,_,_,h,_,_=>by cases h
 | none::_,[],_,_,h,_,_=>by cases h
 | some _::_,[],_,_,h,_,_=>by cases h
 | none::g,av::avs,l,[],_,ai,_=>by cases ai
 | some n::g,av::avs,l,[],_,ai,_=>by cases ai
 | none::g,av::avs,l,u::us,h,ai,ae=>by
  simp only[AM]at h;split at h
  ·rename_i dF HM;cases h;obtain⟨aD,E,U,ag⟩:=NK g HM (by grind) λi h dt=>ae (i+1) (Nat.succ_lt_succ h) (Nat.succ_lt_succ dt);refine⟨u::aD,⟨aD,rfl,E⟩,by grind,λi G=>?_⟩;cases i with
   | zero=>exact ae 0 (Nat.zero_lt_succ _) (Nat.zero_lt_succ _)
   | succ i=>grind
  grind
 | some n::g,av::avs,l,u::us,h,ai,ae=>by
  simp only[AM]at h;split at h
  ·rename_i m f dF HM;split at h
   ·rename_i SF;cases h;subst SF;obtain⟨aD,E,U,ag⟩:=NK g HM (by grind) λi h dt=>ae (i+1) (Nat.succ_lt_succ h) (Nat.succ_lt_succ dt);obtain⟨cs,aR,aW,bL⟩:bz P H κ F w (.agg m f) u:=ae 0 (Nat.zero_lt_succ _) (Nat.zero_lt_succ _);refine⟨cs++aD,⟨cs.toArray,aD,aR,by omega,λc hc=>?_,by simp,E⟩,by grind,λi G=>?_⟩
    ·obtain⟨j,aF,rfl⟩:=List.mem_iff_getElem.1 (by omega:c∈cs);grind
    grind
   grind
  grind
def aiM(P:Program)(aQ:dD)(T:Nat->ab)(fn:Func)(c:Code)(ic:cK):Prop:=
 ∀ (C:b9) (D:ic.cn.aj) (Q:Exit->Act->World->Prop) (a:Act) (w:World),C.P=P->C.aO=aQ->C.nt=fn.ntmps->C.r=none->C.dfr=[]->lv C.nt c=true->ct C (ic.cn.st D) a w->(ic.sh D).b2->
  (∀ u,C.jT u->∀ e s' a' w',ct (C.hn u) s' a' w'->A.cv (HU T fn.results.toList ic.kI ic.bR e s') (ic.sh D).bR->Q e.pN a' w')->c.wpIn (dR C.r) 0 C.P Q a w
theorem aiN{P:Program}{aQ:dD}{k:FuncId}{fn:Func}{c:Code}{ic:cK}(aV:dS P T)(au:P.funcs[k]?=some fn)(W:fn.body=some c)
  (cL:D8 fn c ic.kl ic.kI=true) (aiO:aiM P aQ T fn c ic):cR P aQ k ic:=by
 simp only[D8,Bool.and_eq_true,Bool.not_eq_true',decide_eq_true_eq]at cL;obtain⟨⟨⟨⟨D9,rT⟩,aiH⟩,NJ⟩,uA⟩:=cL;refine⟨uH au W NJ,λC a w κ F D jt AO iQ rN sF ig M rB=>?_⟩;subst jt;subst AO;subst ig;have ayL:a.tmps.size=ic.kl:=M.dE.trans sF;have eU:∀ i,(a.tmps++Array.replicate (fn.ntmps - a.tmps.size) undef).getD i undef=a.tmps.getD i undef:=λi=>by
  simp only[Array.getD_eq_getD_getElem?,Array.getElem?_append];grind
 have ba:bl { C with nt:=fn.ntmps,dfr:=[],r:=none } (ic.cn.st D) { tmps:=a.tmps++Array.replicate (fn.ntmps - a.tmps.size) undef,defers:=[] } C.w0 κ F:=
  { M with dE:=(by grind),dfr:=rfl,gl:=uA,bT:=λi=>(by rw[eU];exact M.bT i),bC:=M.bC }
 refine callsIn_wide.1 (callsIn_of_wp_marks (F:=Fence.wide) (n:=0) au W trivial ?_);refine aiO { C with nt:=fn.ntmps,dfr:=[],r:=none } D _ _ C.w0 rfl rfl rfl rfl rfl D9 ⟨κ,F,ba⟩ rB λu hu e s' a' w' ba hm=>?_;obtain⟨⟨ni,ek,cM⟩,ar,aT⟩:=ct.UX hu (λr h=>M.db r (M.hT r h)) M.hx ba;have key:(∀ id,e≠.exit id)/\LeavesInM Fence.wide 0 C.P fn a'.tmps (λe w'=>∃ v bm aD κ' F',e=.returned v/\(ic.sh D).bR bm/\Ha ic.kI v aD/\bl { C with nt:=aD.length } (ic.bR.st bm) { tmps:=aD.toArray,defers:=[] } w' κ' F') a'.defers .returning w':=by
  unfold HU at hm;split at hm
  ·exact (gH hm).elim
  ·rename_i eC;refine⟨λid he=>eC id he,?_⟩;split at hm
   ·rename_i avs NG;split at hm
    ·rename_i l ai;split at hm
     ·rename_i ck;have ck:l.length<=eQ:=of_decide_eq_true ck;obtain⟨us,aR,aW,bL,fA⟩:=US (C:={ C with nt:=fn.ntmps,dfr:=u.ms.map oY++[],r:=none }) aV cM _ NG;obtain⟨aD,g1,ei,g3⟩:=NK ic.kI ai (by omega) fA;obtain⟨bm,ga,bN⟩:=uD hm;have a_:=cM.args (avs:=l) (us:=aD) (by omega) ei g3;obtain⟨HJ,UC,_,mH⟩:=dG.Au ga a_;rw[ar];simp only[List.append_nil];have c7:(results fn a'.tmps).run C.P (pT w' u.ms)=.ok (if us.length=1 then us.getD 0 undef else .tuple us.toArray) (pT w' u.ms):=by
       rw[UR,Sem.run_bind];have:(fn.results.mapM (AN a'.tmps)).run C.P (pT w' u.ms)=.ok us.toArray (pT w' u.ms):=by
        rw[Array.mapM_eq_mapM_toList,map_eq_pure_bind,Sem.run_bind,aR];rfl
       rw[this];simp only[Result.andThen_ok,Sem.run_pure,List.size_toArray];grind
      refine NI u.ms w' hu.mG aT ⟨_,c7,_,bm,aD,HJ,UC,rfl,A.d'.1 bN,⟨us,?_,rfl,g1⟩,?_⟩
      ·rw[aW];simpa using rT
      ·have e:({ C with nt:=aD.length }:b9)={ C with nt:=aD.length,dfr:=[],r:=none }:=by
        cases C;simp only at iQ rN;subst iQ;subst rN;rfl
       rw[e];exact mH
     ·exact (gH hm).elim
    ·exact (gH hm).elim
   ·exact (gH hm).elim
 cases e with
 | normal=>exact key.2
 | exit id=>grind
 | ret=>exact key.2
theorem UZ{P:Program}{aQ:dD}(en:P.follows .mixedOrders=true){k:FuncId}{fn:Func}{c:Code}{ann:cB}{ic:cK}(aV:dS P T)(cA:jq P bf)(cX:l2 P aQ Ψ)(au:P.funcs[k]?=some fn)(W:fn.body=some c)
  (cL:D8 fn c ic.kl ic.kI=true) (nR:∀ D,A.le (NF aQ T bf Ψ fn c ann ic.cn ic.bR ic.kI D) (ic.sh D)):cR P aQ k ic:=
 aiN aV au W cL λC D Q a w jt ig _ iQ _ D9 M rB al=>by
  subst jt;subst ig;obtain⟨E,U⟩:=nR D rB;exact UQ ann C en aV cA cX (.inl iQ) c (ic.cn.st D) (HU T fn.results.toList ic.kI ic.bR) (NF C.aO T bf Ψ fn c ann ic.cn ic.bR ic.kI D).bR Q a w D9 M ⟨E,λ_ h=>h⟩ λu hu e s' a' w' ba hm=>al u hu e s' a' w' ba ⟨hm.1,λy aS=>U y (hm.2 y aS)⟩
end
def rU:List (Nat×ab)->Nat->ab
 | [],_=>.cT
 | p::l,i=>if i=p.1 then p.2 else rU l i
def U0(P:Program)(l:List (Nat×ab)):Bool:=l.all λp=>cE P p.2 (.inl p.1)
theorem aiP{P:Program}{l:List (Nat×ab)}(h:U0 P l=true):dS P (rU l):=by
 intro id;induction l with
 | nil=>exact .inl rfl
 | cons p l aI=>
  simp only[U0,List.all_cons,Bool.and_eq_true]at h;simp only[rU];split
  ·rename_i e;subst e;exact .inr h.1
  ·exact aI h.2
end Go.Fer
namespace Go.Fer
open Go.RowKit
theorem U1{P:Program}{aQ:dD}{k:FuncId}{c:cK}(h:cR P aQ k c)(ig:ri P aQ){ic:Ak}(mk:ic.ts.aj->Nat->(List ic.aK.aj->Prop)->c.cn.aj)(aw:c.kl=ka ic.ts+1)(h0:c.kl<=eQ)(uz:ic.ts≠.cT)
    (fk:∀ x l L i,(c.cn.st (mk x l L)).az i=.undef\/(i<ka ic.ts/\(c.cn.st (mk x l L)).az i=kB ic.ts x i)\/(i=ka ic.ts/\(c.cn.st (mk x l L)).az i=.hh l)\/(i=b5/\(c.cn.st (mk x l L)).az i=.aX l ic.aK L [] false))
    (iH:c.cn.bC=[]) (qO:∀ bm,∃ n st l L,(c.bR.st bm).az b5=.aX l ic.aK L n st)
    (sx:∀ x l,ic.pre x->(c.sh (mk x l (λT=>T=ic.seq x))).b2/\∀ bm,(c.sh (mk x l (λT=>T=ic.seq x))).bR bm->∀ dF e4 n,(c.bR.st bm).az b5=.aX dF ic.aK e4 n false->n=ic.seq x):DB P k ic:=by
  refine⟨h.enter,λl I F Y w args x dX gP cL bn gn iI eA=>?_⟩;obtain⟨iE,HH⟩:=ue (H:=λ_=>⟨0,.fy⟩) (κ:=λ_=>⟨0,0,0,false⟩) ic.ts dX uz;have uI:∀ b,(c.cn.st (mk x l (λT=>T=ic.seq x))).aa b=⟨0,.fy⟩:=λb=>by
    show eP (hl c_ c.cn.bC (eD c_ c.cn.bT (mk x l (λT=>T=ic.seq x))).2) b=_;generalize (eD c_ c.cn.bT (mk x l (λT=>T=ic.seq x))).2=z;revert z;rw[iH];intro z;rfl
  have cf:(args++[Value.func (.yield l) #[] #[]]).length=c.kl:=by grind
  have M:bl { P:=P,w0:=w,F0:=F,K0:=λr=>r<w.heap.size/\¬Y r,nt:=c.kl,r:=none,dfr:=[],il:=λ_=>none,cd:=⟨l,ic.aK,λT=>T=ic.seq x,I⟩,aO:=aQ } (c.cn.st (mk x l (λT=>T=ic.seq x)))
      { tmps:=(args++[Value.func (.yield l) #[] #[]]).toArray,defers:=[] } w (λ_=>⟨0,0,0,false⟩) F:=
    { dE := by omega
      dfr:=rfl
      bT:=λi=>by
        rcases fk x l (λT=>T=ic.seq x) i with e | ⟨G,e⟩ | ⟨G,e⟩ | ⟨G,e⟩
        · rw[e];trivial
        · rw[e]
          have:=(ue (H:=(c.cn.st (mk x l (λT=>T=ic.seq x))).aa) (κ:=λ_=>⟨0,0,0,false⟩) ic.ts dX uz).2 i G
          have aP:(args++[Value.func (.yield l) #[] #[]]).toArray.getD i undef=args.getD i undef:=by
            rw[Array.getD_eq_getD_getElem?,List.getD_eq_getElem?_getD,List.getElem?_toArray,List.getElem?_append_left (by omega)]
          grind
        · rw[e]
          show (args++[Value.func (.yield l) #[] #[]]).toArray.getD i undef=_
          simp_all
        · rw[e];trivial
      bC:=λb=>by unfold cD;rw[uI b];trivial
      an:=λb W=>by rw[uI b]at W;cases W
      inj:=λb be W _ _=>by rw[uI b]at W;cases W
      db:=bn
      hi:=λr M=>.inl M
      hT:=λr M=>M
      hx:=λr M=>M.1
      eH:=λ_ _=>rfl
      size:=Nat.le_refl _
      er:=dd.refl _
      gl:=h0
      kv:=λb r h=>by cases h
      jH:=λb r h=>by cases h
      j_:=λb k h=>by cases h
      kx:=λb k h=>by cases h
      eL:=λdF kH e4 n st e=>by
        rcases fk x l (λT=>T=ic.seq x) b5 with aZ | ⟨G,_⟩ | ⟨G,_⟩ | ⟨_,aZ⟩
        · grind
        · unfold b5 eQ at *;omega
        · grind
        · rw[aZ]at e
          cases e
          exact⟨⟨I,rfl⟩,cL,Y,λr M=>⟨(iI r M).1,(iI r M).2,λk=>k.2 M⟩,λb W=>(by rw[uI b]at W;cases W),lN.zw.2 eA⟩
      jI:=ig,iD:=gn }
  obtain⟨aE,uu⟩:=sx x l gP;refine (h.iW _ _ w _ F _ rfl rfl rfl rfl rfl rfl M aE).mono λe w' ⟨v,bm,aD,κ',F',he,ga,_,ba⟩=>?_;obtain⟨n,st,dF,e4,qJ⟩:=qO bm;obtain⟨⟨aiQ,NL⟩,_,gC,ag,a7,NM⟩:=ba.eL dF ic.aK e4 n st qJ;refine⟨v,n,st,F',gC,he,λgv=>?_,lN.zw.1 NM,ba.hT,λr cM=>?_,ba.db,λr E U=>ba.eH r ⟨E,U⟩,λr cM=>⟨?_,(ag r cM).1,(ag r cM).2.1⟩,ba.size,ba.er⟩
  · grind
  · rcases ba.hi r cM with h | h
    · exact .inl h
    · by_cases aS:Y r
      · exact .inr (.inl aS)
      · exact .inr (.inr (Nat.le_of_not_lt λck=>h ⟨ck,aS⟩))
  grind
theorem NN{P:Program}{aQ:dD}{k:FuncId}{c:cK}(h:cR P aQ k c)(ig:ri P aQ){cs:List ab}{aK:ab}{S:(gi (cs.map .bH)).aj->List aK.aj->Prop}(mk:(gi (cs.map .bH)).aj->Nat->(List aK.aj->Prop)->c.cn.aj)
    (aw:c.kl=ka (gi (cs.map .bH))+1) (h0:c.kl<=eQ) (uz:gi (cs.map .bH)≠.cT)
    (fk:∀ x l L i,(∃ T,S x T)->(c.cn.st (mk x l L)).az i=.undef\/(i<ka (gi (cs.map .bH))+1/\0<i/\∃ e y,(c.cn.st (mk x l L)).az i=.dV e y/\kB (gi (cs.map .bH)) x (i - 1)=.val (.bH e) (some y))\/(i=0/\(c.cn.st (mk x l L)).az i=.hh l)\/(i=b5/\(c.cn.st (mk x l L)).az i=.aX l aK L [] false))
    (iH:c.cn.bC=[]) (qO:∀ bm,∃ n st l L,(c.bR.st bm).az b5=.aX l aK L n st)
    (sx:∀ x l,(∃ L,S x L)->(c.sh (mk x l (S x))).b2/\∀ bm,(c.sh (mk x l (S x))).bR bm->∀ dF e4 p,(c.bR.st bm).az b5=.aX dF aK e4 p false->S x p):xe P k ⟨cs,aK,S⟩:=by
  refine⟨h.enter,λF w args x bn gn dX eC l U2 Y iI aiR aiS=>?_⟩;have cL:=UL aiR;obtain⟨iE,HH⟩:=ue (H:=λ_=>⟨0,.fy⟩) (κ:=λ_=>⟨0,0,0,false⟩) (gi (cs.map .bH)) dX uz;have uI:∀ b,(c.cn.st (mk x l (S x))).aa b=⟨0,.fy⟩:=λb=>by
    show eP (hl c_ c.cn.bC (eD c_ c.cn.bT (mk x l (S x))).2) b=_;generalize (eD c_ c.cn.bT (mk x l (S x))).2=z;revert z;rw[iH];intro z;rfl
  have cf:(Value.func (.yield l) #[] #[]::args).length=c.kl:=by grind
  have M:bl { P:=P,w0:=w,F0:=F,K0:=λr=>r<w.heap.size/\¬Y r,nt:=c.kl,r:=none,dfr:=[],il:=λ_=>none,cd:=⟨l,aK,S x,U2⟩,aO:=aQ } (c.cn.st (mk x l (S x)))
      { tmps:=(Value.func (.yield l) #[] #[]::args).toArray,defers:=[] } w (λ_=>⟨0,0,0,false⟩) F:=
    { dE := by omega
      dfr:=rfl
      bT:=λi=>by
        rcases fk x l (S x) i eC with e | ⟨G,oP,lK,y,e,aiT⟩ | ⟨G,e⟩ | ⟨G,e⟩
        · rw[e];trivial
        · rw[e]
          have:=(ue (H:=(c.cn.st (mk x l (S x))).aa) (κ:=λ_=>⟨0,0,0,false⟩) (gi (cs.map .bH)) dX uz).2 (i - 1) (by omega)
          have aP:(Value.func (.yield l) #[] #[]::args).toArray.getD i undef=args.getD (i - 1) undef:=by
            obtain⟨j,rfl⟩:∃ j,i=j+1:=⟨i - 1,by omega⟩
            simp
          rw[aP]
          rw[aiT]at this
          obtain⟨_,ae⟩:=(dU rfl).1 this
          simp only[bI]at ae
          rcases ae with⟨_,aw⟩ | ⟨q,m',bj,bq,CU,aR,aW⟩
          · cases aw
          · cases CU
            exact⟨q,bj,(List.cons.inj bq).1,aR,aW⟩
        · rw[e]
          subst G
          rfl
        · rw[e];trivial
      bC:=λb=>by unfold cD;rw[uI b];trivial
      an:=λb W=>by rw[uI b]at W;cases W
      inj:=λb be W _ _=>by rw[uI b]at W;cases W
      db:=bn
      hi:=λr M=>.inl M
      hT:=λr M=>M
      hx:=λr M=>M.1
      eH:=λ_ _=>rfl
      size:=Nat.le_refl _
      er:=dd.refl _
      gl:=h0
      kv:=λb r h=>by cases h
      jH:=λb r h=>by cases h
      j_:=λb k h=>by cases h
      kx:=λb k h=>by cases h
      eL:=λdF kH e4 n st e=>by
        rcases fk x l (S x) b5 eC with aZ | ⟨G,_⟩ | ⟨G,_⟩ | ⟨_,aZ⟩
        · grind
        · grind
        · grind
        · rw[aZ]at e
          cases e
          exact⟨⟨U2,rfl⟩,cL,Y,λr M=>⟨(iI r M).1,(iI r M).2,λk=>k.2 M⟩,λb W=>(by rw[uI b]at W;cases W),lN.zw.2 aiS⟩
      jI:=ig,iD:=gn }
  obtain⟨aE,uu⟩:=sx x l eC;have e9:#[Value.func (.yield l) #[] #[]]++args.toArray=(Value.func (.yield l) #[] #[]::args).toArray:=by simp
  rw[e9];refine (h.iW _ _ w _ F _ rfl rfl rfl rfl rfl rfl M aE).mono λe w' ⟨v,bm,aD,κ',F',he,ga,_,ba⟩=>?_;obtain⟨n,st,dF,e4,qJ⟩:=qO bm;obtain⟨⟨aiQ,NL⟩,_,gC,ag,a7,NM⟩:=ba.eL dF aK e4 n st qJ;refine⟨v,n,st,F',gC,he,λgv=>?_,lN.zw.1 NM,ba.hT,λr cM=>?_,ba.db,λr E U=>ba.eH r ⟨E,U⟩,λr cM=>⟨?_,(ag r cM).1,(ag r cM).2.1⟩,ba.size,⟨ba.er.os,ba.er.tape,ba.er.output⟩⟩
  · grind
  · rcases ba.hi r cM with h | h
    · exact .inl h
    · by_cases aS:Y r
      · exact .inr (.inl aS)
      · exact .inr (.inr (Nat.le_of_not_lt λck=>h ⟨ck,aS⟩))
  grind
end Go.Fer
namespace Go.Fer
open Go.RowKit Go.ChangeShapes Go.WideShapes
def ab.hM:ab->Bool
 | .bool | .int _ | .str | .cT=>true
 | .st t=>t.hM
 | .aA a b=>a.hM&&b.hM
 | .slice e=>e.hM
 | _=>false
def ab.hD:(t:ab)->t.aj->Prop
 | .int k,x=>fR k x
 | .str,x=>x.length<2 ^ 63
 | .st t,x=>t.hD x
 | .aA a b,x=>a.hD x.1/\b.hD x.2
 | .slice e,xs=>xs.length<2 ^ 63/\∀ y∈xs,e.hD y
 | .array n e,xs=>xs.length=n/\∀ y∈xs,e.hD y
 | _,_=>True
theorem AP{P:Program}{w:World}{F:Nat->Prop}:∀ (t:ab) {cs:List Value} {x:t.aj},bI P t F w cs x->t.hD x
 | .bool,_,_,_=>trivial
 | .int _,_,_,h=>h.2
 | .str,_,_,h=>h.2
 | .cT,_,_,_=>trivial
 | .st t,_,_,h=>by simp only[bI]at h;exact AP t h
 | .aA a b,_,_,h=>by
  simp only[bI]at h;obtain⟨c,d,_,E,U⟩:=h;exact⟨AP a E,AP b U⟩
 | .slice e,_,xs,h=>by
  simp only[bI]at h;obtain⟨a,cap,_,E,U,ag,a7⟩:=h;refine⟨by omega,λy aS=>?_⟩;obtain⟨i,G,rfl⟩:=List.mem_iff_getElem.1 aS;cases a with
  | none=>have:=ag rfl;omega
  | some p=>
   obtain⟨bj,_,k⟩:=(a7 p rfl (by omega)).2.2 i G;exact AP e k
 | .array n e,_,xs,h=>by
  simp only[bI]at h;obtain⟨fo,_,E,U,ag⟩:=h;refine⟨U,λy aS=>?_⟩;obtain⟨i,G,rfl⟩:=List.mem_iff_getElem.1 aS;exact AP e (ag i G (by omega))
 | .bH _,_,_,_=>trivial
 | .map _ _,_,_,_=>trivial
 | .fn _ _,_,_,_=>trivial
 | .cr _,_,_,_=>trivial
 | .eo,_,_,_=>trivial
section
variable {H:Type} {enc:TypeId×Value->H} {P:Program} {w:World}
theorem b8.cells{t:ab}{id:TypeId}(h:b8 P t id):P.cellsOf id=t.size:=by
 obtain⟨i,z,E,U,_⟩:=kA h.kz;simp[Program.cellsOf,E,U]
theorem U3{a:Addr}{n:Nat}{bj:List Value}(h:w.cells? 0 a n=some bj)(aw:0<n):a.spot=none/\a.block<w.heap.size/\bj.length=n/\∀ j (aF:j<bj.length),w.cell? ⟨a.block,a.off+j,none⟩=some bj[j]:=by
 have W:=World.cells?_block h aw;have oc:a.spot=none:=by
  unfold World.cells? at h;split at h
  ·obtain⟨m,rfl⟩:∃ m,n=m+1:=⟨n - 1,by omega⟩
   rw[List.range_succ_eq_map]at h;simp only[List.mapM_cons,Option.bind_eq_bind,Option.bind_eq_some_iff]at h;obtain⟨v,ae,_⟩:=h;cases aE:a.spot with
   | none=>rfl
   | some x=>simp[World.cell?,Addr.add,aE]at ae;split at ae<;>cases ae
  ·cases h
 unfold World.cells? at h;split at h
 ·have hlen:bj.length=n:=by
   have:∀ (l:List Nat) (r:List Value),l.mapM (λi=>w.cell? (a.add i))=some r->r.length=l.length:=by
    intro l;induction l with
    | nil=>intro r M;simp at M;subst M;rfl
    | cons x l aI=>
     intro r M;simp only[List.mapM_cons,Option.bind_eq_bind,Option.bind_eq_some_iff,Option.pure_def,Option.some.injEq]at M;obtain⟨v,_,qo,ba,rfl⟩:=M;simp[aI qo ba]
   simpa using this _ _ h
  refine⟨oc,W,hlen,λj aF=>?_⟩;have:∀ (l:List Nat) (r:List Value),l.mapM (λi=>w.cell? (a.add i))=some r->∀ j (E:j<l.length) (U:j<r.length),w.cell? (a.add l[j])=some r[j]:=by
   intro l;induction l with
   | nil=>intro r _ j E;simp at E
   | cons x l aI=>
    intro r M j E U;simp only[List.mapM_cons,Option.bind_eq_bind,Option.bind_eq_some_iff,Option.pure_def,Option.some.injEq]at M;obtain⟨v,ae,qo,ba,rfl⟩:=M;cases j with
    | zero=>exact ae
    | succ j=>exact aI qo ba j (by simpa using E) (by simpa using U)
  have E:=this _ _ h j (by simp;omega) aF;rw[<-E];have zJ:a.add ((List.range n)[j]'(by simp;omega))=⟨a.block,a.off+j,none⟩:=by
   cases a;simp only at oc;subst oc;simp[Addr.add]
  rw[zJ]
 ·cases h
def qQ(w:World):Nat->Prop:=λr=>r<w.heap.size
def ab.o1(n:Nat):(t:ab)->t.aj->Prop
 | .st t,x=>t.o1 n x
 | .aA a b,x=>a.o1 n x.1/\b.o1 n x.2
 | .slice e,xs=>xs.length<=n/\∀ y∈xs,e.o1 n y
 | _,_=>True
structure Cd(b:DataW H->Nat):Prop where
 len:∀ e s,e.length<=b (.slice e s)
 Ce:∀ e s d,d∈e->b d<=b (.slice e s)
 Rt:∀ l d,d∈l->b d<=b (.agg l)
variable {b:DataW H->Nat} {N:Nat}
theorem aiU(W:Cd b)(t:ab):(t.hM=true->∀ {id:TypeId} {cj:Nat} {cs:List Value} {x:DataW H×List MemPlace},b8 P t id->DataW.trod enc P w 0 (λ_=>true) true cj id cs=some x->b x.1<=N->∃ y,bI P t (qQ w) w cs y/\t.o1 N y)/\
  (t.hM=true->∀ {l:List Field} {off n:Nat} {cs:List Value},cE P t (.inr (l,off))=true->(∀ f∈l,∃ x,DataW.trod enc P w 0 (λ_=>true) true n f.type ((cs.drop f.offset).take (P.cellsOf f.type))=some x/\b x.1<=N)->∃ y,bI P t (qQ w) w ((cs.drop off).take t.size) y/\t.o1 N y):=by
 induction t with
 | bool=>
  refine⟨λ_ {id cj cs x} aM h _=>?_,λ_ {l off n cs} h=>by simp[cE]at h⟩;have hu:P.underlying id=some .bool:=by
   unfold b8 at aM;simp only[cE,Bool.and_eq_true]at aM;obtain⟨_,aM⟩:=aM;split at aM
   ·assumption
   ·cases aM
  obtain⟨b,rfl,_⟩:=DataW.trod_bool hu h;exact⟨_,rfl,trivial⟩
 | int k=>
  refine⟨λ_ {id cj cs x} aM h _=>?_,λ_ {l off n cs} h=>by simp[cE]at h⟩;obtain⟨n,rfl,_,hw⟩:=DataW.trod_int aM.int h;simp only[Lit.wf,Bool.and_eq_true,decide_eq_true_eq]at hw;exact⟨n,⟨rfl,hw⟩,trivial⟩
 | str=>
  refine⟨λ_ {id cj cs x} aM h _=>?_,λ_ {l off n cs} h=>by simp[cE]at h⟩;obtain⟨s,rfl,_,hw⟩:=DataW.trod_string aM.str h;refine⟨s.data.toList,⟨by simp,?_⟩,trivial⟩;have:s.data.toList.length=s.size:=by rw[Array.length_toList];rfl
  rw[this];have:maxLen<2 ^ 63:=by decide
  omega
 | cT=>exact⟨λ_ {id cj cs x} aM h _=>by simp[b8,cE]at aM,λ_ {l off n cs} h=>by simp[cE]at h⟩
 | st t aI=>
  refine⟨λai {id cj cs x} aM h nk=>?_,λ_ {l off n cs} h=>by simp[cE]at h⟩;have ai:t.hM=true:=ai;have HV:P.cellsOf id=t.size:=aM.cells;obtain⟨eT,hu⟩:=aM.st;obtain⟨xs,n,_,rfl,hlen,SN,au⟩:=DataW.trod_struct hu h;unfold b8 at aM;simp only[cE,Bool.and_eq_true]at aM;obtain⟨_,aM⟩:=aM;rw[hu]at aM;have jn:∀ f∈eT.toList,∃ x,DataW.trod enc P w 0 (λ_=>true) true n f.type ((cs.drop f.offset).take (P.cellsOf f.type))=some x/\b x.1<=N:=by
   intro f aiV;obtain⟨i,G,rfl⟩:=List.mem_iff_getElem.1 aiV;have dJ:i<eT.size:=by simpa using G
   refine⟨xs[i]'(by omega),?_,Nat.le_trans (W.Rt _ _ (List.mem_map_of_mem (List.getElem_mem _))) nk⟩;rw[au i _ (by simp[dJ])];exact List.getElem?_eq_getElem _
  simp only at aM;split at aM
  ·have aM:=of_decide_eq_true aM;subst aM;have:cs=[]:=by
    have:=hlen.trans HV;simpa [ab.size]using this
   subst this;exact⟨(),rfl,trivial⟩
  ·rename_i f fU;simp only[Bool.and_eq_true,beq_iff_eq,bne_iff_ne]at aM;obtain⟨⟨⟨aU,E⟩,_⟩,_⟩:=aM;obtain⟨x,ah,aiW⟩:=jn f (by rw[fU];simp);have hc:P.cellsOf f.type=t.size:=b8.cells E;rw[aU,hc,List.drop_zero,List.take_of_length_le (by omega)]at ah;exact aI.1 ai E ah aiW
  ·obtain⟨y,aS⟩:=aI.2 ai aM jn;rw[List.drop_zero,List.take_of_length_le (by omega)]at aS;exact⟨y,aS⟩
 | aA a b fx eK=>
  refine⟨λ_ {id cj cs x} aM h _=>by simp[b8,cE]at aM,λai {l off n cs} aM h=>?_⟩;simp only[ab.hM,Bool.and_eq_true]at ai;have join:∀ {y:a.aj} {z:b.aj},bI P a (qQ w) w ((cs.drop off).take a.size) y/\a.o1 N y->bI P b (qQ w) w ((cs.drop (off+a.size)).take b.size) z/\b.o1 N z->∃ y,bI P (.aA a b) (qQ w) w ((cs.drop off).take (ab.aA a b).size) y/\(ab.aA a b).o1 N y:=by
   intro y z aS bk;refine⟨(y,z),⟨_,_,?_,aS.1,bk.1⟩,aS.2,bk.2⟩;simp only[ab.size];rw[List.take_add,List.drop_drop]
  match l,aM with
  | f::g::[],aM=>
   simp only[cE,Bool.and_eq_true,beq_iff_eq,bne_iff_ne]at aM;obtain⟨⟨⟨⟨aU,E⟩,_⟩,_⟩,⟨⟨⟨ho,aR⟩,_⟩,_⟩⟩:=aM;obtain⟨x,ah,aw⟩:=h f (by simp);obtain⟨dI,nY,C6⟩:=h g (by simp);rw[aU,b8.cells E]at ah;rw[ho,b8.cells aR]at nY;obtain⟨y,aS⟩:=fx.1 ai.1 E ah aw;obtain⟨z,bk⟩:=eK.1 ai.2 aR nY C6;exact join aS bk
  | f::g::e::eT,aM=>
   simp only[cE,Bool.and_eq_true,beq_iff_eq,bne_iff_ne]at aM;obtain⟨⟨⟨⟨aU,E⟩,_⟩,_⟩,aR⟩:=aM;obtain⟨x,ah,aw⟩:=h f (by simp);rw[aU,b8.cells E]at ah;obtain⟨y,aS⟩:=fx.1 ai.1 E ah aw;obtain⟨z,bk⟩:=eK.2 ai.2 aR λiG rP=>h iG (List.mem_cons_of_mem _ rP);exact join aS bk
 | slice e aI=>
  refine⟨λai {id cj cs x} aM h nk=>?_,λ_ {l off n cs} h=>by simp[cE]at h⟩;have ai:e.hM=true:=ai;obtain⟨i,hu,he,cf⟩:=aM.sl;have HV:=he.cells;rcases DataW.trod_slice hu h with⟨rfl,_⟩ | ⟨a,len,cap,elems,cm,n,rfl,rfl,ah,_,U4,xw,kj,eU,U5,_⟩
  ·exact⟨[],⟨none,0,rfl,Nat.le_refl _,by decide,λ_=>rfl,λp ao=>by cases ao⟩,Nat.zero_le _,λy aS=>by cases aS⟩
  ·rw[ah]at nk;have lo:0<P.cellsOf i:=by rw[HV];omega
   have key:∀ j,j<len->∃ bj y,w.cells? 0 (a.add (j*P.cellsOf i)) (P.cellsOf i)=some bj/\bI P e (qQ w) w bj y/\e.o1 N y:=by
    intro j aF;have:=eU j aF;rw[List.getElem?_eq_getElem (by omega)]at this;obtain⟨bj,E,U⟩:=Option.bind_eq_some_iff.1 this;obtain⟨y,aS⟩:=aI.1 ai he U (Nat.le_trans (W.Ce _ _ _ (List.mem_map_of_mem (List.getElem_mem _))) nk);exact⟨bj,y,E,aS⟩
   have aiX:0<cap->a.spot=none/\a.block<w.heap.size:=by
    intro hc;have:∃ bj,w.cells? 0 (a.add (0*P.cellsOf i)) (P.cellsOf i)=some bj:=by
     by_cases K':0<len
     ·obtain⟨bj,_,E,_⟩:=key 0 K';exact⟨bj,E⟩
     ·obtain⟨m1,m2⟩:=U5 rfl;have bk:len=0:=by omega
      subst bk;have:=m2 0 (by omega);rw[List.getElem?_eq_getElem (by omega)]at this;obtain⟨bj,E,_⟩:=Option.bind_eq_some_iff.1 this;exact⟨bj,E⟩
    obtain⟨bj,E⟩:=this;have ay:a.add (0*P.cellsOf i)=a:=by unfold Addr.add;simp
    rw[ay]at E;obtain⟨aR,aW,_⟩:=U3 E lo;exact⟨aR,aW⟩
   have:∃ ys:List e.aj,ys.length=len/\∀ j (aF:j<ys.length),∃ bj,w.cells? 0 (a.add (j*P.cellsOf i)) (P.cellsOf i)=some bj/\bI P e (qQ w) w bj ys[j]/\e.o1 N ys[j]:=by
    clear eU kj h U4 U5 nk;induction len with
    | zero=>exact⟨[],rfl,λj aF=>by simp at aF⟩
    | succ m aiY=>
     obtain⟨ys,ke,cU⟩:=aiY λj aF=>key j (by omega);obtain⟨bj,y,E,U⟩:=key m (by omega);refine⟨ys++[y],by simp[ke],λj aF=>?_⟩;by_cases xz:j<ys.length
     ·rw[List.getElem_append_left xz];exact cU j xz
     ·have:j=m:=by simp at aF;omega
      subst this;refine⟨bj,E,?_⟩;rw[List.getElem_append_right (by omega)];simpa [ke]using U
   have aiZ:len<=N:=by have:=W.len (elems.map (·.1)) (cm.map (·.1));rw[List.length_map,kj]at this;exact Nat.le_trans this nk
   obtain⟨ys,rfl,ke⟩:=this;have zW:maxLen<2 ^ 63:=by decide
   refine⟨ys,⟨some a,cap,rfl,U4,by omega,(by simp),λp ao vn=>?_⟩,aiZ,λy aS=>by
    obtain⟨j,aF,rfl⟩:=List.mem_iff_getElem.1 aS;obtain⟨bj,_,E,U⟩:=ke j aF;exact U⟩
   cases ao;obtain⟨aR,aW⟩:=aiX vn;refine⟨aW,aR,λj aF=>?_⟩;obtain⟨bj,d1,d2,_⟩:=ke j aF;obtain⟨m1,m2,m3,m4⟩:=U3 d1 lo;refine⟨bj,⟨aW,rfl,λq bq=>?_⟩,d2⟩;have:=m4 q bq;have ay:a.add (j*P.cellsOf i)=⟨a.block,a.off+j*e.size,none⟩:=by
    rw[HV];cases a;simp only at aR;subst aR;unfold Addr.add;split
    ·rename_i aU;simp[aU]
    ·rfl
   rw[ay]at this;exact this
 | array n e aI=>exact⟨λh=>by simp[ab.hM]at h,λh=>by simp[ab.hM]at h⟩
 | bH e aI=>exact⟨λh=>by simp[ab.hM]at h,λh=>by simp[ab.hM]at h⟩
 | map k v xb xc=>exact⟨λh=>by simp[ab.hM]at h,λh=>by simp[ab.hM]at h⟩
 | fn a b fx eK=>exact⟨λh=>by simp[ab.hM]at h,λh=>by simp[ab.hM]at h⟩
 | cr a aI=>exact⟨λh=>by simp[ab.hM]at h,λh=>by simp[ab.hM]at h⟩
 | eo=>exact⟨λh=>by simp[ab.hM]at h,λh=>by simp[ab.hM]at h⟩
theorem U6(W:Cd b){t:ab}(ai:t.hM=true){id:TypeId}(aM:b8 P t id){base:Nat}{v:Value}{d:DataW H}{ps:List MemPlace}(cL:Value.okWide P w .any base id v)
  (h:DataW.Trod enc P w 0 (λ_=>true) true id v d ps) (nk:b d<=N):∃ y,ep P t (qQ w) w v y/\t.o1 N y:=by
 obtain⟨n,aw⟩:=h;obtain⟨y,aS,au⟩:=(aiU W t).1 ai aM aw nk;refine⟨y,⟨?_,aS⟩,au⟩;cases t with
 | bool=>
  simp only[bI]at aS;have hu:P.underlying id=some .bool:=by
   unfold b8 at aM;simp only[cE,Bool.and_eq_true]at aM;obtain⟨_,aM⟩:=aM;split at aM
   ·assumption
   ·cases aM
  simp only[Value.okWide,hu,Cell.okWide,Cell.ok]at cL;cases v<;>first | rfl | exact cL.elim
 | int k=>
  simp only[Value.okWide,aM.int,Cell.okWide,Cell.ok]at cL;cases v<;>first | rfl | exact cL.elim
 | str=>
  simp only[Value.okWide,aM.str,Cell.okWide,Cell.ok]at cL;cases v<;>first | rfl | exact cL.elim
 | cT=>simp[b8,cE]at aM
 | st t=>
  obtain⟨eT,hu⟩:=aM.st;simp only[Value.okWide,hu]at cL;obtain⟨cs,rfl,hc,_⟩:=cL;exact⟨cs,rfl,hc.trans aM.cells⟩
 | aA a b=>simp[b8,cE]at aM
 | slice e=>
  obtain⟨i,hu,_⟩:=aM.sl;simp only[Value.okWide,hu,Cell.okWide,Cell.ok]at cL;cases v<;>first | rfl | exact cL.elim
 | array n e=>simp[ab.hM]at ai
 | bH e=>simp[ab.hM]at ai
 | map k v=>simp[ab.hM]at ai
 | fn a b=>simp[ab.hM]at ai
 | cr a=>simp[ab.hM]at ai
 | eo=>simp[ab.hM]at ai
def yc(P:Program):List TypeId->ab->Bool
 | [id],t=>cE P t (.inl id)&&t.hM
 | id::ids,.aA a b=>cE P a (.inl id)&&a.hM&&yc P ids b
 | _,_=>false
theorem U7(W:Cd b):∀ (ids:List TypeId) (ts:ab) {base:Nat} {aD:List Value} {bj:List (DataW H)} {ps:List MemPlace},yc P ids ts=true->DataW.TrodAll enc P w 0 (λ_=>true) true ids aD bj ps->
  (∀ (j:Nat) t v,ids[j]?=some t->aD[j]?=some v->Value.okWide P w .any base t v)->(∀ d∈bj,b d<=N)->∃ x,fp P ts (qQ w) w aD x/\ts.o1 N x
 | [],ts,_,aD,bj,ps,h,_,_,_=>by simp[yc]at h
 | [id],t,_,aD,bj,ps,h,iu,cL,nk=>by
  simp only[yc,Bool.and_eq_true]at h;obtain⟨v0,NO,d0,NP,Gn,CJ,rfl,rfl,rfl,aU,sZ⟩:=trodAll_cons iu;obtain⟨rfl,rfl,rfl⟩:=trodAll_nil sZ;obtain⟨y,⟨x2,sQ⟩,au⟩:=U6 W h.2 h.1 (cL 0 id v0 rfl rfl) aU (nk _ (List.mem_cons_self ..));refine⟨y,⟨?_,by simpa [eh]using sQ⟩,au⟩;cases t<;>first | exact⟨v0,rfl,x2⟩ | (simp[cE]at h;done)
 | id::ai0::ids,ts,base,aD,bj,ps,h,iu,cL,nk=>by
  cases ts with
  | aA a b=>
   simp only[yc,Bool.and_eq_true]at h;obtain⟨v0,NO,d0,NP,Gn,CJ,rfl,rfl,rfl,aU,sZ⟩:=trodAll_cons iu;obtain⟨y,⟨x2,sQ⟩,au⟩:=U6 W h.1.2 h.1.1 (cL 0 id v0 rfl rfl) aU (nk _ (List.mem_cons_self ..));obtain⟨z,⟨ai1,ai2⟩,aC⟩:=U7 W (ai0::ids) b h.2 sZ (λj t v E U=>cL (j+1) t v (by simpa using E) (by simpa using U)) λd ar=>nk d (List.mem_cons_of_mem _ ar);exact⟨(y,z),⟨⟨x2,ai1⟩,_,_,KA _ _,sQ,ai2⟩,au,aC⟩
  | _=>simp[yc]at h
theorem U8(ai:laidOutB P=true){w':World}{U9:Nat->Bool}:∀ (ids:List TypeId) {aD:List Value} {bj:List (DataW H)} {ps:List MemPlace},(ids.all λt=>P.readableRec t&&decide (t<P.types.size))=true->
  DataW.TrodAll enc P w 0 (λ_=>true) true ids aD bj ps->(∀ p∈ps,w.sameAt w' p)->(∀ p∈ps,U9 p.block=true)->DataW.TrodAll enc P w' 0 U9 true ids aD bj ps
 | [],_,_,_,_,h,_,_=>by
  obtain⟨rfl,rfl,rfl⟩:=trodAll_nil h;rfl
 | id::ids,aD,bj,ps,M,h,E,U=>by
  simp only[List.all_cons,Bool.and_eq_true,decide_eq_true_eq]at M;obtain⟨v0,NO,d0,NP,Gn,CJ,rfl,rfl,rfl,aU,sZ⟩:=trodAll_cons h;exact trodAll_cons_mk (Go.WideElems.Trod_stays ai M.1.1 M.1.2 aU (λp ao=>E p (List.mem_append_left _ ao)) (λp ao=>U p (List.mem_append_left _ ao)))
   (U8 ai ids M.2 sZ (λp ao=>E p (List.mem_append_right _ ao)) (λp ao=>U p (List.mem_append_right _ ao)))
theorem ac6(W:Cd b){k:FuncId}{fn:Func}{ts:ab}{sh:ts.aj->A (ab.bool).aj}{spec:ChangeSpec}{rt:TypeId}(ai3:laidOutB P=true)(xA:h7 P k ts .bool sh)(ai4:∀ x,ts.hD x->ts.o1 N x->A.cv (sh x) λy=>y=true)
  (dX:yc P fn.params.toList ts=true) (ai5:(fn.params.toList.all λt=>P.readableRec t&&decide (t<P.types.size))=true) (gp:fn.resultTypes=#[rt]) (ai6:P.underlying rt=some .bool)
  (ae:spec.vars=[]) (tO:∀ (H:Type) (bj:List (DataW H)),bj.length=fn.params.size->spec.fn H bj={ results:=[.lit (.bool true)],args:=bj })
  {base:Nat} {args:Array Value} {bj gs:List (DataW H)} {before:List MemPlace} (yd:∀ (j:Nat) t v,fn.params[j]?=some t->args[j]?=some v->Value.okWide P w .any base t v)
  (w8:DataW.Whole enc P fn.params.toList spec.vars false w args.toList bj gs before) (nk:∀ d∈bj,b d<=N) (gn:nT P (qQ w) w:=by exact λb W=>absurd (show b<0 from W) (Nat.not_lt_zero b)) :
  Calls P k args w λe qN=>∃ v,e=.returned v/\spec.post enc P fn false true false false w args v qN:=by
 have ck:=w8.lt;have U_:=w8;obtain⟨p,q,iu,NQ,rfl,t',_⟩:=w8;have bq:gs=[]/\q=[]:=by
  rw[ae]at NQ;cases gs with
  | nil=>exact⟨rfl,NQ⟩
  | cons _ _=>exact NQ.elim
 obtain⟨rfl,rfl⟩:=bq;simp only[List.append_nil]at U_ ck t';obtain⟨x,ah,au⟩:=U7 W fn.params.toList ts dX iu (λj t v E U=>yd j t v (by simpa using E) (by simpa using U)) nk;obtain⟨aE,af⟩:=ai4 x (AP ts ah.2) au;have vy:bj.length=fn.params.size:=by
  have:∀ (ids:List TypeId) {aD:List Value} {bj:List (DataW H)} {ps:List MemPlace},DataW.TrodAll enc P w 0 (λ_=>true) true ids aD bj ps->bj.length=ids.length:=by
   intro ids;induction ids with
   | nil=>intro aD bj ps h;obtain⟨rfl,rfl,rfl⟩:=trodAll_nil h;rfl
   | cons id ids aI=>intro aD bj ps h;obtain⟨v0,NO,d0,NP,Gn,CJ,rfl,rfl,rfl,aU,sZ⟩:=trodAll_cons h;simp[aI sZ]
  simpa using this _ iu
 have hc:=xA.iW (qQ w) w args.toList x (λ_ h=>h) gn ah aE;refine hc.mono λe qN ⟨v,y,he,aS,M,W⟩=>?_;have aS:=af y aS;subst aS;obtain⟨aD,cg,cJ⟩:=M;have ai7:v=.bool true:=by
  simp only[zu]at cg;subst cg;obtain⟨⟨u,hu,nR⟩,nZ⟩:=cJ;simp only[List.cons.injEq,and_true]at hu;subst hu;simp only[kT]at nR;simp only[KA,nR,ac',bI]at nZ;simpa using nZ
 subst ai7;have rD:∀ p'∈p,w.sameAt qN p':=by
  intro p' ao;have E:=W.block _ (ck p' ao);cases p' with
  | cell b off=>simp only[World.sameAt,World.cell?];simp only[MemPlace.block]at E;rw[E]
  | map b=>exact E
 refine⟨_,he,bj,[],p,[],p,[],U_,?_,?_,?_,?_,λh=>by cases h⟩
 ·rw[List.append_nil,tO H bj vy,gp];exact trodAll_cons_mk (shut_bool ai6 true) trodAll_mk0
 ·rw[List.append_nil,tO H bj vy];exact U8 ai3 _ ai5 iu rD λp' ao=>by simpa using ck p' ao
 ·rw[ae,List.append_nil,tO H bj vy];rfl
 ·refine⟨W.os,W.output,λi G=>?_⟩;have E:=W.block i G;rw[E];exact (World.keptBut_refl w λHW=>HW∈p/\(HW∈[]\/HW∈p\/HW∈[])).2.2 i G
end
end Go.Fer
namespace Go.Fer.oG
open Go.Proofs
abbrev t2:ab:=.int .i64
abbrev t3:ab:=.int .i64
abbrev t4:ab:=.bool
abbrev t5:ab:=.int .u8
abbrev ai8:ab:=.int .u8
abbrev ai9:ab:=.st (.aA t2 (.aA t3 (.aA t4 ai8)))
abbrev t9:ab:=.str
abbrev ai_:ab:=.str
abbrev ai':ab:=.str
abbrev t21:ab:=.int .i32
abbrev ye:ab:=.st (.aA t3 t3)
abbrev AQ:ab:=.st (.aA t3 (.aA t3 ye))
abbrev t22:ab:=.slice AQ
abbrev eX:ab:=.slice t3
abbrev AR:ab:=.st (.aA t3 (.aA eX ye))
abbrev HX:ab:=.slice AR
abbrev yf:ab:=.st HX
abbrev D_:ab:=.slice yf
abbrev AS:ab:=.st (.aA t3 (.aA t3 (.aA t3 t3)))
abbrev HY:ab:=.slice AS
abbrev uJ:ab:=.st (.aA t22 (.aA D_ (.aA t3 HY)))
abbrev yg:ab:=.st (.aA t3 (.aA t3 (.aA t3 (.aA t3 eX))))
abbrev t28:ab:=.slice yg
abbrev vW:ab:=.st (.aA eX (.aA ye (.aA t3 (.aA t3 t3))))
abbrev HZ:ab:=.slice vW
abbrev rV:ab:=.st (.aA t3 (.aA t3 t3))
abbrev AT:ab:=.slice rV
abbrev pq:ab:=.st (.aA uJ (.aA eX (.aA t28 (.aA HZ (.aA AT t3)))))
abbrev qR:ab:=.slice ye
abbrev jd:ab:=.st (.aA t3 (.aA t3 (.aA t3 (.aA t3 (.aA t3 t3)))))
abbrev od:ab:=.slice jd
abbrev NR:ab:=.st (.aA t3 (.aA t3 (.aA t3 (.aA t3 (.aA t3 (.aA t3 t3))))))
abbrev tN:ab:=.st (.aA qR (.aA od (.aA eX (.aA qR NR))))
abbrev w9:ab:=.st (.aA pq tN)
abbrev aja:ab:=.int .i64
abbrev FQ:ab:=.slice t9
abbrev ajb:ab:=.st (.aA t3 (.aA t3 (.aA t3 t3)))
abbrev Kz:ab:=.st (.aA t3 (.aA t3 (.aA t3 (.aA t3 (.aA t3 (.aA t3 (.aA t3 t3)))))))
abbrev qS:ab:=.st w9
abbrev t105:ab:=.bH qS
abbrev U':ab:=.eo
abbrev NS:ab:=.st (.aA t3 (.aA t4 U'))
abbrev NT:ab:=.map t9 NS
abbrev D':ab:=.slice eX
abbrev yh:ab:=.st (.aA uJ D')
abbrev Va:ab:=.bH yh
abbrev NU:ab:=.fn t3 t3
abbrev qT:ab:=.st (.aA jd t3)
abbrev NV:ab:=.slice qT
abbrev NW:ab:=.array 10 NV
abbrev Ea:ab:=.st (.aA eX NW)
abbrev pU:ab:=.bH Ea
abbrev NX:ab:=.slice pU
abbrev rW:ab:=.st (.aA tN (.aA od NX))
abbrev vY:ab:=.bH rW
abbrev Vb:ab:=.fn t3 t4
abbrev ajc:ab:=.fn vY t4
abbrev ajd:ab:=.fn (.aA jd t3) t4
abbrev t138:ab:=.cr (.aA jd t3)
abbrev Vc:ab:=.fn pU (.aA t3 t4)
abbrev H0:ab:=.map t3 t3
abbrev NY:ab:=.cr t3
abbrev aje:ab:=.cr t3
abbrev Vd:ab:=.st (.aA t3 t3)
abbrev Ve:ab:=.slice Vd
abbrev Vf:ab:=.st (.aA t3 (.aA t3 t3))
abbrev Vg:ab:=.map Vf t3
abbrev t222:ab:=.st (.aA pq (.aA Ve Vg))
abbrev o2:ab:=.bH t222
abbrev ajf:ab:=.fn eX t4
abbrev t164:ab:=.cr eX
abbrev Vh:ab:=.st (.aA t3 (.aA t3 t3))
abbrev ajg:ab:=.slice Vh
abbrev t171:ab:=.slice t5
abbrev Vi:ab:=.fn vW t4
abbrev Vj:ab:=.fn AS t4
abbrev NZ:ab:=.fn jd t4
abbrev t228:ab:=.int .u64
abbrev ajh:ab:=.slice t3
abbrev aji:ab:=.bH uJ
abbrev ajj:ab:=.bH yf
abbrev ajk:ab:=.array 4 t9
abbrev Vk:ab:=.st (.aA t3 (.aA t3 t3))
abbrev ajl:ab:=.map Vk t3
abbrev H2:ab:=.map t3 jd
abbrev ajm:ab:=.int .u32
abbrev Vl:ab:=.int .u64
abbrev Vm:ab:=.fn yg t4
abbrev Vn:ab:=.fn rV t4
abbrev Vo:ab:=.fn AR t4
abbrev Vp:ab:=.slice od
abbrev Vq:ab:=.fn AQ t4
abbrev Vr:ab:=.fn yf t4
abbrev Eb:ab:=.fn (.aA qT qT) t3
abbrev ajn:ab:=.int .i64
abbrev ajo:ab:=.slice D'
abbrev ajp:ab:=.int .i64
abbrev Vs:ab:=.int .u64
abbrev ajq:ab:=.bH t3
abbrev Vt:ab:=.st (.aA jd t3)
abbrev ajr:ab:=.slice Vt
abbrev Vu:ab:=.st (.aA t3 eX)
abbrev ajs:ab:=.slice Vu
abbrev ajt:ab:=.bH t5
abbrev aju:ab:=.array 24 t5
abbrev ajv:ab:=.bH Vs
abbrev ajw:ab:=.slice AT
abbrev ajx:ab:=.array 256 t5
abbrev Vv:ab:=.st (.aA t5 t5)
abbrev ajy:ab:=.array 16 Vv
abbrev Vw:ab:=.st t9
abbrev ajz:ab:=.bH Vw
abbrev ajA:ab:=.array 20 Vl
abbrev ajB:ab:=.array 65 t5
abbrev ajC:ab:=.array 32 t5
abbrev ajD:ab:=.array 64 t5
abbrev ajE:ab:=.int .u8
def vZ:List (Nat×ab):=[(2,t2),(3,t3),(4,t4),(5,t5),(8,ai9),(9,t9),(10,ai_),(11,ai'),(21,t21),(22,t22),(23,D_),(24,HY),(26,uJ),(27,eX),(28,t28),(29,HZ),(30,AT),(32,pq),(33,qR),(34,od),(36,NR),(38,tN),(40,w9),(42,AS),(44,aja),(48,FQ),(58,ye),(63,ajb),(74,Kz),(87,vW),(91,rV),(93,yg),(105,t105),(107,NT),(111,qS),(115,Va),(121,D'),(123,yh),(125,jd),(128,NU),(130,vY),(133,Vb),(134,ajc),(137,pU),(138,t138),(140,Vc),(141,NV),(142,NW),(144,qT),(148,H0),(149,NX),(151,rW),(153,NY),(154,aje),(157,o2),(162,ajf),(164,t164),(165,ajg),(171,t171),(177,Vi),(188,U'),(190,NS),(196,AQ),(197,HX),(199,yf),(201,AR),(203,Vj),(209,NZ),(215,ajd),(217,Ea),(219,Vg),(220,Ve),(222,t222),(224,Vf),(227,Vd),(228,t228),(235,Vh),(237,ajh),(249,aji),(253,ajj),(261,ajk),(269,ajl),(271,Vk),(273,H2),(282,ajm),(285,Vl),(289,Vm),(290,Vn),(297,Vo),(298,Vp),(304,Vq),(306,Vr),(311,Eb),(313,ajn),(336,ajo),(351,ajp),(359,Vs),(363,ajq),(368,ajr),(372,Vt),(374,ajs),(380,ajt),(386,aju),(398,ajv),(402,Vu),(403,ajw),(408,ajx),(410,Vv),(411,ajy),(414,ajz),(416,Vw),(418,ajA),(419,ajB),(423,ajC),(424,ajD),(432,ajE)]
theorem oe:dS Tryz.prog (rU vZ):=aiP (by kernel_rfl)
theorem H3:Tryz.prog.follows .mixedOrders=true:=by kernel_rfl
def yi(_:Nat):Option aN:=none
theorem H4:jq Tryz.prog yi:=λk c h=>by cases h
def dC:dD:={ tS:=λ_=>none,tT:=λ_=>none }
theorem mI:ri Tryz.prog dC where
 tS:=λk v h=>by cases h
 tT:=λk v h=>by cases h
end Go.Fer.oG
namespace Go.Fer
open Go.RowKit
def hJ.kJ(c:hJ):aN:=⟨c.ts,.aA c.aX .cT,λx=>(c.sh x).b2,λx=>((c.sh x).val c.aX.df,())⟩
end Go.Fer
namespace Go.Fer
theorem A.ajF{ak:Type}{p:Prop}{m n:A ak}(h:n.b2->p)(k:A.le m n):A.le (A.ad p m) n:=λaE=>⟨⟨h aE,(k aE).1⟩,(k aE).2⟩
theorem rX{ak:Type}{o:Option ak}{x:ak}(h:o=some x):o.isSome=true:=by rw[h];rfl
def N0(ts:ab)(x:ts.aj)(n:Nat):Nat->Prop
 | 0=>True
 | k+1=>N0 ts x n k/\D5 (kB ts x (n+k))
theorem Vx{ts:ab}{x:ts.aj}{n:Nat}:∀ {k:Nat},N0 ts x n k->∀ i,i<k->D5 (kB ts x (n+i))
 | 0,_,i,h=>by omega
 | k+1,hc,i,h=>by
  by_cases e:i=k
  ·rw[e];exact hc.2
  ·exact Vx hc.1 i (by omega)
theorem Vy(ts:ab)(x:ts.aj):∀ (l:List Nat) (i:Nat),fr (l.map λi=>(i,kB ts x i)) i=if i∈l then kB ts x i else .undef
 | [],i=>by simp[fr]
 | j::l,i=>by
  simp only[List.map_cons,fr];by_cases e:i=j
  ·subst e;simp
  ·rw[if_neg e,Vy ts x l i];simp[e]
theorem s3{ts:ab}{x:ts.aj}{n:Nat}(h:N0 ts x n (sY ts - n)):D6 n (pS ts x):=λi G=>by
 show D5 (fr (AL ts x (sY ts)) i);unfold AL;rw[Vy];split
 ·rename_i hm;rw[List.mem_range]at hm;have aw:¬i<n:=λh=>G (.inl h);have:=Vx h (i - n) (by omega);rwa [show n+(i - n)=i by omega]at this
 ·trivial
end Go.Fer
namespace Go.Fer
open A (V)
theorem bG{n:Int}(E:-9223372036854775808<=n)(U:n<9223372036854775808):IntKind.i64.wrap n=n:=by
 show (if (true&&decide (n % 2 ^ 64>=(2 ^ (64 - 1):Int)))=true then n % 2 ^ 64 - 2 ^ 64 else n % 2 ^ 64)=n;grind
theorem cp(a b:Int):Add.add a b=a+b:=rfl
theorem gZ(a b:Nat):Add.add a b=a+b:=rfl
theorem Vz{ak:Type}(a b:List ak):Append.append a b=a++b:=rfl
theorem bX(n:Nat):Int.ofNat n=(n:Int):=rfl
theorem qU{x c d:Bool}:(x||!(if (!x)=true then c else d))=(x||!c):=by grind
theorem VA{x c d:Bool}:(x||(if (!x)=true then c else d))=(x||c):=by grind
theorem v7{x c d:Bool}:(x&&(if x=true then c else d))=(x&&c):=by grind
namespace A
variable {ak β gB D aJ:Type}
theorem bw{m:A ak}{p:Prop}{v:ak}(h:p->m=pure v):le m (dQ p v):=λao=>by
 rw[h ao];exact⟨trivial,λ_ aS=>aS⟩
theorem s4{m:A ak}{p:Prop}{v:ak}(h:p->cv m λy=>y=v):le m (dQ p v):=λao=>h ao
theorem gR{p:Prop}{v d:ak}:(dQ p v).val d=v:=by
 unfold val;have h:∃ x,(dQ p v).bR x:=⟨v,rfl⟩
 rw[dif_pos h];exact h.choose_spec
theorem e5{v d:ak}:(pure v).val d=v:=gR (p:=True)
theorem og{p:Prop}{v:ak}:(dQ p v).b2=p:=rfl
theorem v8{p:Prop}{v:ak}:(dQ p v).De:=λ_ _ h k=>h.trans k.symm
theorem je{g:Bool}{p:Prop}{v d:ak}:cu g (dQ p v) d=dQ (g=true->p) (if g=true then v else d):=by
 cases g
 ·exact (bP (by simp) _).symm
 ·simp[cu]
theorem ko{g:Bool}{v d:ak}:cu g (pure v) d=pure (if g=true then v else d):=by cases g<;>rfl
theorem b3{f:D->A β}{x:D}:V.bE f (.next x:V D β)=f x:=rfl
theorem pV{f:D->A β}{r:β}:V.bE f (.done r:V D β)=pure r:=rfl
end A
def eY{ak β aJ:Type}(f:ak->β->V β aJ)(fin:β->aJ):List ak->β->aJ
 | [],b=>fin b
 | x::l,b=>match f x b with
  | .next be=>eY f fin l be
  | .done r=>r
def V.hp{D β aJ:Type}(g:β->D):V β aJ->V D aJ
 | .next b=>.next (g b)
 | .done r=>.done r
theorem A.gw{ak β D aJ:Type}{body:D->A (V D aJ)}{s0:D}(l:List ak)(mk:Nat->β->D)(f:ak->β->V β aJ)(fin:β->aJ)(I:Nat->β->Prop)(b:β)(nj:s0=mk 0 b)(aU:I 0 b)
  (aE:∀ i (h:i<l.length) b,I i b->body (mk i b)=A.pure (V.hp (mk (i+1)) (f l[i] b))/\∀ be,f l[i] b=.next be->I (i+1) be)
  (au:∀ b,I l.length b->body (mk l.length b)=A.pure (.done (fin b))):A.loop body s0=A.pure (eY f fin l b):=by
 subst nj;have key:∀ (k:Nat) (r:List ak) (b:β),k<=l.length->r=l.drop k->I k b->A.loop body (mk k b)=A.pure (eY f fin r b):=by
  intro k r;induction r generalizing k with
  | nil=>
   intro b al M eA;have:k=l.length:=by have:=congrArg List.length M;grind
   subst this;exact A.sg (au b eA)
  | cons x r aI=>
   intro b al M eA;have ck:k<l.length:=by
    grind
   rw[List.drop_eq_getElem_cons ck]at M;injection M with ah M
   obtain⟨E,U⟩:=aE k ck b eA;rw[<-ah]at E U;simp only[eY];cases rP:f x b with
   | next be=>
    rw[rP]at E;rw[A.zt E];grind
   | done qo=>
    rw[rP]at E;exact A.sg E
 grind
theorem A.eu{ak β D aJ:Type}{body:D->A (V D aJ)}{s0:D}(l:List ak)(mk:Nat->β->D)(f:ak->β->V β aJ)(fin:β->aJ)(b:β)(nj:s0=mk 0 b)
  (aE:∀ i (h:i<l.length) b,body (mk i b)=A.pure (V.hp (mk (i+1)) (f l[i] b)))
  (au:∀ b,body (mk l.length b)=A.pure (.done (fin b))):A.loop body s0=A.pure (eY f fin l b):=
 A.gw l mk f fin (λ_ _=>True) b nj trivial (λi h b _=>⟨aE i h b,λ_ _=>trivial⟩) λb _=>au b
section
variable {ak β aJ:Type}
theorem rY{p:ak->Bool}{r:aJ}{fin:β->aJ}:∀ (l:List ak) (b:β),eY (λx b=>if p x=true then .done r else .next b) fin l b=if l.any p=true then r else fin b
 | [],b=>by rfl
 | x::l,b=>by
  simp only[eY,List.any_cons,Bool.or_eq_true];by_cases h:p x=true
  ·simp[h]
  ·have h:p x=false:=by grind
   simp only[h,Bool.false_eq_true,if_false,false_or];exact rY l b
theorem H5{p:ak->Bool}{r:aJ}{fin:β->aJ}:∀ (l:List ak) (b:β),eY (λx b=>if p x=true then .next b else .done r) fin l b=if l.all p=true then fin b else r
 | [],b=>by rfl
 | x::l,b=>by
  simp only[eY,List.all_cons,Bool.and_eq_true];by_cases h:p x=true
  ·simp only[h,if_true,true_and];exact H5 l b
  grind
theorem fs{h:β->ak->β}{fin:β->aJ}:∀ (l:List ak) (b:β),eY (λx b=>.next (h b x)) fin l b=fin (l.foldl h b)
 | [],b=>rfl
 | x::l,b=>by simp only[eY,List.foldl_cons];exact fs l (h b x)
theorem VB{p:ak->Bool}:∀ (l:List ak) (b:List ak),l.foldl (λb x=>if p x=true then b++[x] else b) b=b++l.filter p
 | [],b=>by simp
 | x::l,b=>by
  simp only[List.foldl_cons,List.filter_cons];rw[VB l];grind
theorem yj{gB:Type}{g:ak->gB}:∀ (l:List ak) (b:List gB),l.foldl (λb x=>b++[g x]) b=b++l.map g
 | [],b=>by simp
 | x::l,b=>by simp only[List.foldl_cons,List.map_cons];rw[yj l];simp
end
theorem VC{ak:Type}{p q:ak->Bool}(h:∀ x,p x=!q x)(l:List ak):l.any p=!l.all q:=by
 grind
theorem k1{ak β aJ:Type}{p q:ak->Bool}{r:aJ}{fin:β->aJ}(l:List ak)(b:β)(h:∀ x,p x=!q x):eY (λx b=>if p x=true then .done r else .next b) fin l b=if l.all q=true then fin b else r:=by
 rw[rY,VC h];grind
theorem nl{D β aJ:Type}{c:Bool}{mk:β->D}{b:β}{r:aJ}:(if c=true then A.pure (V.done r) else A.pure (V.next (mk b)))=A.pure (V.hp mk (if c=true then .done r else .next b)):=by cases c<;>rfl
theorem VD{D β aJ:Type}{c:Bool}{mk:β->D}{b:β}{r:aJ}:(if c=true then A.pure (V.done r) else A.pure (V.next (mk b)))=A.pure (V.hp mk (if c=true then .done r else .next b)):=by cases c<;>rfl
theorem cY{l:Nat}{i:Nat}(h:i<l):decide ((i:Int)<(l:Int))=true:=by grind
theorem cI{l:Nat}{i:Nat}(h:i<l):((0:Int)<=(i:Int)/\(i:Int)<(l:Int))=True:=by grind
theorem dm{ak:Type}{l:List ak}{i:Nat}{d:ak}(h:i<l.length):l.getD (Int.toNat (i:Int)) d=l[i]:=by
 grind
theorem yk{ak:Type}{l:List ak}{i:Int}{d:ak}(aU:0<=i)(h:i<(l.length:Int)):l.getD i.toNat d∈l:=by
 grind
def ef(a b:Int):z1':=(List.range (b - a+1).toNat).map λ(i:Nat)=>a+(i:Int)
theorem yl(a b:Int):(ef a b).length=(b - a+1).toNat:=by simp[ef]
theorem Ec{a b:Int}{i:Nat}(h:i<(ef a b).length):(ef a b)[i]=a+i:=by simp[ef]
theorem pW{a b n:Int}:n∈ef a b<->a<=n/\n<=b:=by
 simp only[ef,List.mem_map,List.mem_range];constructor
 ·omega
 ·rintro⟨E,U⟩;exact⟨(n - a).toNat,by omega,by omega⟩
end Go.Fer
namespace Go.Fer.oG
open Go.Proofs
abbrev o3:Type:=List (Nat×hJ)
def o4{ak:Type}:List (Nat×ak)->Nat->Option ak
 | [],_=>none
 | p::l,k=>if k=p.1 then some p.2 else o4 l k
theorem Ed{ak:Type}{k:Nat}{c:ak}:∀ {l:List (Nat×ak)},o4 l k=some c->(k,c)∈l
 | [],h=>by cases h
 | p::l,h=>by
  unfold o4 at h;split at h
  ·rename_i e;cases h;subst e;simp
  ·exact List.mem_cons_of_mem _ (Ed h)
def s5(T:o3):List (Nat×e3)->Nat->Option e3
 | [],k=>match o4 T k with
  | some c=>some (.dv c)
  | none=>none
 | p::l,k=>if k=p.1 then some p.2 else s5 T l k
def VE(k:Nat)(c:hJ):Prop:=h7 Tryz.prog k c.ts c.aX c.sh/\(c.dQ=true->∀ x,(c.sh x).De)
structure k2(T:o3):Type where
 ok:∀ p∈T,VE p.1 p.2
abbrev ajG{T:o3}(_:k2 T):o3:=T
def ajH:k2 []:=⟨λp h=>by cases h⟩
def k2.cons{T:o3}(h:k2 T){n:Nat}{c:hJ}(k:VE n c):k2 ((n,c)::T):=⟨λp ao=>by
 rcases List.mem_cons.1 ao with rfl | ao
 ·exact k
 ·exact h.ok p ao⟩
def Ee(aQ:dD):List (Nat×e3)->Prop
 | []=>True
 | p::l=>p.2.hD Tryz.prog aQ p.1/\Ee aQ l
theorem k2.H6{aQ:dD}{T:o3}(h:k2 T):∀ {sp:List (Nat×e3)},Ee aQ sp->l2 Tryz.prog aQ (s5 T sp)
 | [],_,k,c,e=>by
  unfold s5 at e;split at e
  ·rename_i c' hc;cases e;exact h.ok (k,c') (Ed hc)
  ·cases e
 | p::l,aE,k,c,e=>by
  unfold s5 at e;split at e
  ·rename_i al;cases e;subst al;exact aE.1
  ·exact k2.H6 h (sp:=l) aE.2 k c e
def AU:ab->List ab
 | .cT=>[]
 | .aA a b=>a::AU b
 | t=>[t]
def VF:ab->ab
 | .bH t=>t
 | t=>t
def VG{ts VH:ab}(e:VH=ts){aX:ab}(sh:ts.aj->A aX.aj):VH.aj->A aX.aj:=e ▸ sh
def N1(pX:Nat)(c:hJ):Option FX:=
 if h:((AU c.ts).take pX).all ab.gD=true/\gi ((AU c.ts).take pX++(((AU c.ts).drop pX).map VF).map .bH)=c.ts then some ⟨(AU c.ts).take pX,((AU c.ts).drop pX).map VF,c.aX,VG h.2 c.sh⟩ else none
def VI:z8'->Nat->Option Nat
 | [],_=>none
 | p::l,k=>if k=p.1 then some p.2 else VI l k
def AV(T:o3)(cl:z8')(H7:List (Nat×xd)):dD where
 tS:=λk=>match o4 T k with
  | some c=>some ⟨c.ts,c.aX,c.sh⟩
  | none=>none
 tT:=λk=>match VI cl k with
  | some pX=>match o4 T k with
   | some c=>N1 pX c
   | none=>none
  | none=>none
 xf:=o4 H7
def Ef:List (Nat×xd)->Prop
 | []=>True
 | p::l=>xe Tryz.prog p.1 p.2/\Ef l
theorem Ef.mem:∀ {l:List (Nat×xd)},Ef l->∀ p∈l,xe Tryz.prog p.1 p.2
 | [],_,p,h=>by cases h
 | q::l,h,p,ao=>by
  rcases List.mem_cons.1 ao with rfl | ao
  ·exact h.1
  ·exact Ef.mem h.2 p ao
theorem ajI{k pX:Nat}{c:hJ}{v:FX}(h:h7 Tryz.prog k c.ts c.aX c.sh)(e:N1 pX c=some v):v.as.all ab.gD=true/\h7 Tryz.prog k (gi (v.as++v.cs.map .bH)) v.aX v.sh:=by
 unfold N1 at e;split at e
 ·rename_i cU;cases e;refine⟨cU.1,?_⟩;have key:∀ (ts:ab) (e:ts=c.ts),h7 Tryz.prog k ts c.aX (VG e c.sh):=by rintro _ rfl;exact h
  exact key _ cU.2
 ·cases e
theorem k2.u{T:o3}(h:k2 T)(cl:z8')(H7:List (Nat×xd))(G:Ef H7):ri Tryz.prog (AV T cl H7) where
 tS:=λk v e=>by
  simp only[AV]at e;split at e
  ·rename_i c hc;cases e;exact (h.ok (k,c) (Ed hc)).1
  ·cases e
 tT:=λk v e=>by
  simp only[AV]at e;split at e
  ·split at e
   ·rename_i c hc;exact ajI (h.ok (k,c) (Ed hc)).1 e
   ·cases e
  ·cases e
 xf:=λk v e=>G.mem (k,v) (Ed e)
abbrev rZ(fn:Func):Code:=fn.body.getD .skip
theorem H8{fn:Func}(h:fn.body.isSome=true):fn.body=some (rZ fn):=by
 unfold rZ;cases e:fn.body with
 | none=>rw[e]at h;cases h
 | some b=>rfl
abbrev Eg(fn:Func)(ts aX:ab):Bool:=fn.body.isSome&&D7 fn (rZ fn) ts aX
theorem H9{T:o3}(aV:k2 T){aQ:dD}(ig:ri Tryz.prog aQ){sp:List (Nat×e3)}(oc:Ee aQ sp){n:Nat}{fn:Func}(au:Tryz.prog.funcs[n]?=some fn){ts aX:ab}{sh:ts.aj->A aX.aj}{ann:cB}{S:ts.aj->A aX.aj}(aE:∀ x,A.le (S x) (sh x))(cL:Eg fn ts aX=true)(ai:∀ x,D4 aQ (rU vZ) yi (s5 T sp) fn (rZ fn) ann ts aX x=S x):h7 Tryz.prog n ts aX sh:=
 have cL:=Bool.and_eq_true _ _ ▸ cL
 aiJ H3 oe ig H4 (aV.H6 oc) au (H8 cL.1) cL.2 λx=>A.le_trans (A.le_of_eq (ai x)) (aE x)
def mk{T:o3}(aV:k2 T){n:Nat}{fn:Func}(au:Tryz.prog.funcs[n]?=some fn)(c:aN)(ann:cB){S:c.ts.aj->A c.aX.aj}(aE:∀ x,A.le (S x) (c.sh x))(cL:Eg fn c.ts c.aX=true:=by kernel_rfl)(ai:∀ x,D4 dC (rU vZ) yi (s5 T []) fn (rZ fn) ann c.ts c.aX x=S x:=by intro x;kernel_rfl):k2 ((n,c.dv)::T):=
 aV.cons ⟨H9 aV mI (sp:=[]) trivial au aE cL ai,λ_ _=>A.v8⟩
def l6{T:o3}(aV:k2 T)(cl:z8'){n:Nat}{fn:Func}(au:Tryz.prog.funcs[n]?=some fn)(c:aN)(ann:cB){S:c.ts.aj->A c.aX.aj}(aE:∀ x,A.le (S x) (c.sh x))(cL:Eg fn c.ts c.aX=true:=by kernel_rfl)(ai:∀ x,D4 (AV T cl []) (rU vZ) yi (s5 T []) fn (rZ fn) ann c.ts c.aX x=S x:=by intro x;kernel_rfl):k2 ((n,c.dv)::T):=
 aV.cons ⟨H9 aV (aV.u cl [] trivial) (sp:=[]) trivial au aE cL ai,λ_ _=>A.v8⟩
def pY{T:o3}(aV:k2 T){aQ:dD}(ig:ri Tryz.prog aQ)(sp:List (Nat×e3))(oc:Ee aQ sp){n:Nat}{fn:Func}(au:Tryz.prog.funcs[n]?=some fn)(c:aN)(ann:cB){S:c.ts.aj->A c.aX.aj}(aE:∀ x,A.le (S x) (c.sh x))(cL:Eg fn c.ts c.aX=true:=by kernel_rfl)(ai:∀ x,D4 aQ (rU vZ) yi (s5 T sp) fn (rZ fn) ann c.ts c.aX x=S x:=by intro x;kernel_rfl):k2 ((n,c.dv)::T):=
 aV.cons ⟨H9 aV ig oc au aE cL ai,λ_ _=>A.v8⟩
def jV{T:o3}(aV:k2 T)(cl:z8'){n:Nat}{fn:Func}(au:Tryz.prog.funcs[n]?=some fn)(c:aN)(pX:Nat)(ann:cB){S:c.ts.aj->A c.aX.aj}(aE:∀ x,A.le (S x) (c.sh x))(hc:∀ x,c.pre x->D6 pX (pS c.ts x):=by intro x h;obtain⟨f,au,_⟩:=h;exact s3 ⟨trivial,rX au⟩)(cL:Eg fn c.ts c.aX=true:=by kernel_rfl)
  (ai:∀ x,eI (AV T cl []) (rU vZ) yi (s5 T []) ann (rZ fn) (HT pX (pS c.ts x)) (vV (rU vZ) fn.results.toList c.aX)=S x:=by intro x;kernel_rfl):k2 ((n,c.dv)::T):=
 have cL:=Bool.and_eq_true _ _ ▸ cL
 aV.cons ⟨aiL (n:=pX) H3 oe (aV.u cl [] trivial) H4 (aV.H6 (sp:=[]) trivial) au (H8 cL.1) cL.2 λx=>A.ajF (hc x) (A.le_trans (A.le_of_eq (ai x)) (aE x)),λ_ _=>A.v8⟩
theorem dZ{T:o3}(aV:k2 T){aQ:dD}(sp:List (Nat×e3))(oc:Ee aQ sp){n:Nat}{fn:Func}(au:Tryz.prog.funcs[n]?=some fn){c:cK}(ann:cB){S:c.cn.aj->A c.bR.aj}(aE:∀ x,A.le (S x) (c.sh x))(cL:(fn.body.isSome&&D8 fn (rZ fn) c.kl c.kI)=true:=by kernel_rfl)(ai:∀ x,NF aQ (rU vZ) yi (s5 T sp) fn (rZ fn) ann c.cn c.bR c.kI x=S x:=by intro x;kernel_rfl):cR Tryz.prog aQ n c:=
 have cL:=Bool.and_eq_true _ _ ▸ cL
 UZ H3 oe H4 (aV.H6 oc) au (H8 cL.1) cL.2 λx=>A.le_trans (A.le_of_eq (ai x)) (aE x)
theorem N2{aQ:dD}{n:Nat}{fn:Func}(au:Tryz.prog.funcs[n]?=some fn){c:cK}(aE:∀ x,¬(c.sh x).b2)(cL:(fn.body.isSome&&D8 fn (rZ fn) c.kl c.kI)=true:=by kernel_rfl):cR Tryz.prog aQ n c:=
 have cL:=Bool.and_eq_true _ _ ▸ cL
 UZ H3 oe H4 (Ψ:=λ_=>none) (λk c h=>by cases h) (ann:=.eN) au (H8 cL.1) cL.2 λx h=>absurd h (aE x)
end Go.Fer.oG
namespace Go.Fer
open Go.RowKit
theorem ajJ{P:Program}{aQ:dD}{k:FuncId}{ts e:ab}(uz:ts≠.cT){c:cK}(h:cR P aQ k c)(ig:ri P aQ){sh:ts.aj->A (ab.slice e).aj}{b0:Nat}(mk:ts.aj->c.cn.aj)
    (ajK:∀ x,c.cn.st (mk x)=⟨fr ((List.range (ka ts)).map λi=>(i,kB ts x i)),λ_=>⟨0,.fy⟩⟩) (aw:c.kl=ka ts) (h0:c.kl<=eQ) (ajL:c.kI=[none]) (val:c.bR.aj->List e.aj)
    (qO:∀ bm,(c.bR.st bm).az 0=.an b0 0/\(c.bR.st bm).aa b0=⟨0,.bh e (val bm)⟩)
    (sx:∀ x,(sh x).b2->(c.sh (mk x)).b2/\∀ bm,(c.sh (mk x)).bR bm->val bm=(sh x).val (ab.slice e).df):nW (hJ.kJ ⟨ts,.slice e,sh,true⟩).aX=true/\CZ P k (hJ.kJ ⟨ts,.slice e,sh,true⟩):=by
  refine⟨rfl,h.enter,?_⟩;intro (x:ts.aj) (aE:(sh x).b2) y aS F w args bn gn (dX:fp P ts F w args x);cases aS;obtain⟨iE,HH⟩:=ue (H:=λ_=>⟨0,.fy⟩) (κ:=λ_=>⟨0,0,0,false⟩) ts dX uz;let C:b9:={ P:=P,w0:=w,F0:=F,K0:=λr=>r<w.heap.size,nt:=c.kl,r:=none,dfr:=[],il:=λ_=>none,cd:=⟨0,.cT,λ_=>False,λ_ _ _ _ _=>False⟩,aO:=aQ }
  have Dy:∀ i,fr ((List.range (ka ts)).map λi=>(i,kB ts x i)) i=.undef\/(i<ka ts/\fr ((List.range (ka ts)).map λi=>(i,kB ts x i)) i=kB ts x i):=λi=>by
    rcases UT (l:=(List.range (ka ts)).map λi=>(i,kB ts x i)) (i:=i) with e | e
    · exact .inl e
    · refine .inr ?_
      generalize bk:fr ((List.range (ka ts)).map λi=>(i,kB ts x i)) i=z at e
      simp only[List.mem_map,List.mem_range,Prod.mk.injEq]at e
      obtain⟨j,aF,rfl,rfl⟩:=e
      exact⟨aF,rfl⟩
  have M:bl C (c.cn.st (mk x)) { tmps:=args.toArray,defers:=[] } w (λ_=>⟨0,0,0,false⟩) F:=by
    rw[ajK];refine { dE := ?_, dfr := rfl, bT := λi => ?_, bC := λb => trivial, an := λb W => (by cases W), inj := λb be W _ _ => (by cases W), db := bn, hi := λr M => .inl M, hT := λr M => M, hx := λr M => M, eH := λr _ => rfl, size := Nat.le_refl _, er := dd.refl w,gl:=h0,kv:=λb r h=>(by cases h),jH:=λb r h=>(by cases h),j_:=λb k h=>(by cases h),kx:=λb k h=>(by cases h),eL:=λl aK L n st e=>?_,jI:=ig,iD:=gn }
    · grind
    · rcases Dy i with e | ⟨G,e⟩
      · show bz _ _ _ _ _ (fr _ i) _
        rw[e];trivial
      · show bz _ _ _ _ _ (fr _ i) _
        rw[e]
        have:=HH i G
        simpa [Array.getD_eq_getD_getElem?,List.getD_eq_getElem?_getD]using this
    · rcases Dy b5 with h | ⟨h,_⟩
      · grind
      · unfold b5 at h;unfold eQ at h0;omega
  obtain⟨MM,uo⟩:=sx x aE;refine (h.iW C _ w _ F (mk x) rfl rfl rfl rfl rfl rfl M MM).mono λaZ w' ⟨v,bm,aD,κ',F',Cj,ga,Hj,ba⟩=>?_;obtain⟨ajM,x5⟩:=qO bm;rw[ajL]at Hj;obtain⟨us,fB,MD,N3⟩:=Hj;obtain⟨u,rfl⟩:∃ u,us=[u]:=by
    match us,fB with
    | [u],_=>simp
  have N4:aD=[u]:=by
    obtain⟨_,N4,U⟩:=N3;rw[N4,U]
  have ae:v=u:=by simpa using MD
  have fk:=ba.bT 0;rw[ajM,N4]at fk;have VJ:u=(κ' b0).slice ((c.bR.st bm).aa b0).body.len:=by
    have:=fk.2 (by rw[x5]) (by rw[x5];rfl);simp_all
  rw[x5]at VJ;have aT:=ba.bC b0;unfold cD at aT;rw[x5]at aT;obtain⟨E,U⟩:=aT;have yd:val bm=(sh x).val (ab.slice e).df:=uo bm ga;refine⟨κ' b0,F',by rw[Cj,ae,VJ];simp only[bQ.len];rw[yd];rfl,ba.hT,λr VK=>?_,λaw=>?_,λaw=>?_,ba.er.os,ba.er.tape,ba.er.output,ba.size,ba.eH⟩
  · rcases ba.hi r VK with cU | cU
    · exact .inl cU
    · exact .inr ⟨Nat.le_of_not_lt cU,ba.db r VK⟩
  · have:=E aw
    rw[yd]at this
    exact this
  · have af:=ba.an b0 (by rw[x5];simp[bQ.bZ,aw])
    obtain⟨cs,T,bD,c2,c3,c4,c5⟩:=U aw
    rw[yd]at c3 c5
    exact⟨⟨Nat.le_of_not_lt af.2.2,af.1,af.2.1⟩,cs,T,bD,c2,c3,c4,c5⟩
end Go.Fer
namespace Go.Fer
open A (V)
abbrev bA:Type:=z2'×List (List (Int×z1'×Int×Int))×Int×z2'
abbrev qV:Type:=bA×List (z1')
abbrev fa(l:z4')(a b:Int):z4':=lP (k:=.int .i64) (v:=.int .i64) l a b
abbrev v_(l:z5')(a:Int×Int×Int)(b:Int):z5':=lP (k:=.st (.aA (.int .i64) (.aA (.int .i64) (.int .i64)))) (v:=.int .i64) l a b
def N5(lA:Int×Int×Int->A Bool)(x:bA×Int):A Bool:=
 A.bind (lA (x.2,0,IntKind.wrap .i64 (Int.ofNat (List.length x.1.1)-1))) λy=>A.pure y
def H_(lA:Int×Int×Int->A Bool)(ajN:bA×Int->A Bool)(x:bA×Int×Int):A Bool:=
 A.bind (ajN (x.1,x.2.1)) λy=>A.ad (y=true->(y=true/\y=true)/\(0<=x.2.1/\x.2.1<Int.ofNat (List.length x.1.2.1))/\True) (A.bind (cu y (lA (x.2.2,0,IntKind.wrap .i64 (Int.ofNat (List.length (List.getD x.1.2.1 (Int.toNat x.2.1) []))-1))) false) (λb4=>A.pure (y&&b4)))
def N6(ajO:z2'×List (List (Int×z1'×Int×Int))×Int×z2'->A Bool)(x:z2'×List (List (Int×z1'×Int×Int))×Int×z2'):A Int:=
 A.bind (ajO x) λy=>if (!y)=true then A.pure 70 else A.bind (A.loop (λ(D:Int×bA×Unit)=>if decide (D.1<Int.ofNat (List.length D.2.1.2.2.2))=true then A.bind (A.loop (λ(D:Int×Int×bA×Unit)=>letI d:=D.2.2.1.2.2.2;letI c:=Int.ofNat (List.length d);letI b:=List.getD d (Int.toNat D.1) (0,0,0,0);letI a:=List.getD d (Int.toNat D.2.1) (0,0,0,0);if decide (D.2.1<D.1)=true then A.ad (0<=D.2.1/\D.2.1<c) (A.ad (0<=D.1/\D.1<c) (if (decide (a.1=b.1)&&decide (a.2.1=b.2.1)&&decide (a.2.2.1=b.2.2.1)&&decide (a.2.2.2≠b.2.2.2))=true then A.bind (A.bind (A.bind (A.bind (A.pure 71) (λr=>A.pure (V.done r))) (λr=>A.pure (V.done r))) (λr=>A.pure (V.done r))) λr=>A.pure (V.done r) else A.pure (V.next (D.1,IntKind.wrap .i64 (Add.add D.2.1 1),D.2.2.1,())))) else A.bind (A.pure (V.next (D.1,D.2.2.1,()))) λr=>A.pure (V.done r)) (D.1,0,D.2.1,())) (V.bE (λ(D:Int×bA×Unit)=>A.pure (V.next (IntKind.wrap .i64 (Add.add D.1 1),D.2.1,())))) else A.bind (A.pure (V.next ())) λr=>A.pure (V.done r)) (0,x,())) (V.bE (λ(D:Unit)=>A.pure 0))
def VL(ajP:z1'×Int->A Bool)(lA:Int×Int×Int->A Bool)(x:bA×Int×Int×Int×Int):A Bool:=
 letI e:=x.2.2.2;letI c:=List.getD x.1.2.1 (Int.toNat e.1) [];letI b:=List.getD x.1.1 (Int.toNat x.2.1) (0,0,0,0);letI a:=List.getD c (Int.toNat e.2) (0,[],0,0);letI d:=decide (b.1=a.1);A.ad (0<=x.2.1/\x.2.1<Int.ofNat (List.length x.1.1)) (A.ad (0<=e.1/\e.1<Int.ofNat (List.length x.1.2.1)) (A.ad (0<=e.2/\e.2<Int.ofNat (List.length c)) (A.bind (cu d (ajP (a.2.1,b.2.1)) false) (λy=>A.bind (cu (d&&y) (lA (x.2.2.1,a.2.2.1,IntKind.wrap .i64 (Add.add a.2.2.2 x.1.2.2.1))) false) λb4=>A.pure (d&&y&&b4)))))
def N7(x:z1'):A Bool:=
 A.bind (A.loop (λ(D:z1'×Int×Unit)=>letI c:=D.2.1;letI b:=IntKind.wrap .i64 (c-1);letI a:=Int.ofNat (List.length D.1);if decide (c<a)=true then A.ad (0<=c/\c<a) (A.ad (0<=b/\b<a) (if decide (List.getD D.1 (Int.toNat c) 0<=List.getD D.1 (Int.toNat b) 0)=true then A.bind (A.bind (A.pure false) (λr=>A.pure (V.done r))) λr=>A.pure (V.done r) else A.pure (V.next (D.1,IntKind.wrap .i64 (Add.add c 1),())))) else A.bind (A.pure (V.next ())) λr=>A.pure (V.done r)) (x,1,())) (V.bE (λ(D:Unit)=>A.pure true))
def ajQ(x:Int×Int×Int):A Bool:=
 A.pure (decide (x.1>=x.2.1)&&decide (x.1<=x.2.2))
def N8(lA:Int×Int×Int->A Bool)(x:bA×Int):A Bool:=
 A.bind (lA (x.2,0,IntKind.wrap .i64 (Int.ofNat (List.length x.1.2.1)-1))) λy=>A.pure y
def N9(ajR:bA×Int->A Bool)(ajS:bA×Int×Int->A Bool)(lA:Int×Int×Int->A Bool)(N_:Int×Int->A Bool)(ajT:Int×z1'×Int×Int->A Bool)(x:z2'×List (List (Int×z1'×Int×Int))×Int×z2'):A Bool:=
 letI c:=decide (Int.ofNat (List.length x.1) > 10)||decide (Int.ofNat (List.length x.2.1) > 6);A.bind (cu (!c) (lA (x.2.2.1,0,99)) false) λy=>if (c||!y||decide (Int.ofNat (List.length x.2.2.2) > 30))=true then A.pure false else A.bind (A.loop (λ(D:Int×bA×Unit)=>letI h:=D.1<Int.ofNat (List.length D.2.1.1);letI b:=List.getD D.2.1.1 (Int.toNat D.1) (0,0,0,0);if decide h=true then A.ad (0<=D.1/\h) (A.bind (lA (b.1,0,9)) (λy=>A.bind (cu (!(!y)) (lA (b.2.1,0,9)) false) λb4=>A.bind (cu (!(!y||!b4)) (N_ b.2.2) false) λdL=>if (!y||!b4||!dL)=true then A.bind (A.bind (A.pure false) (λr=>A.pure (V.done r))) λr=>A.pure (V.done r) else A.pure (V.next (IntKind.wrap .i64 (Add.add D.1 1),D.2.1,())))) else A.bind (A.pure (V.next (D.2.1,()))) λr=>A.pure (V.done r)) (0,x,())) (V.bE (λ(D:bA×Unit)=>A.bind (A.loop (λ(D:Int×bA×Unit)=>letI g:=D.1<Int.ofNat (List.length D.2.1.2.1);if decide g=true then A.bind (A.ad (0<=D.1/\g) (if decide (Int.ofNat (List.length (List.getD D.2.1.2.1 (Int.toNat D.1) [])) > 4)=true then A.bind (A.bind (A.bind (A.pure false) (λr=>A.pure (V.done r))) (λr=>A.pure (V.done r))) λr=>A.pure (V.done r) else A.loop (λ(D:Int×Int×bA×Unit)=>letI j:=D.2.2.1;letI e:=0<=D.1/\D.1<Int.ofNat (List.length j.2.1);letI d:=List.getD j.2.1 (Int.toNat D.1) [];letI i:=D.2.1<Int.ofNat (List.length d);A.ad e (if decide i=true then A.ad e (A.ad (0<=D.2.1/\i) (A.bind (ajT (List.getD d (Int.toNat D.2.1) (0,[],0,0))) (λy=>if (!y)=true then A.bind (A.bind (A.bind (A.bind (A.pure false) (λr=>A.pure (V.done r))) (λr=>A.pure (V.done r))) (λr=>A.pure (V.done r))) λr=>A.pure (V.done r) else A.pure (V.next (D.1,IntKind.wrap .i64 (Add.add D.2.1 1),j,()))))) else A.bind (A.pure (V.next (D.1,j,()))) λr=>A.pure (V.done r))) (D.1,0,D.2.1,()))) (V.bE (λ(D:Int×bA×Unit)=>A.pure (V.next (IntKind.wrap .i64 (Add.add D.1 1),D.2.1,())))) else A.bind (A.pure (V.next (D.2.1,()))) λr=>A.pure (V.done r)) (0,D.1,())) (V.bE (λ(D:bA×Unit)=>A.bind (A.loop (λ(D:Int×bA×Unit)=>letI f:=D.1<Int.ofNat (List.length D.2.1.2.2.2);letI a:=List.getD D.2.1.2.2.2 (Int.toNat D.1) (0,0,0,0);if decide f=true then A.ad (0<=D.1/\f) (A.bind (ajR (D.2.1,a.1)) (λy=>A.bind (cu (!(!y)) (ajS (D.2.1,a.2.1,a.2.2.1)) false) λb4=>A.bind (cu (!(!y||!b4)) (lA (a.2.2.2,0,1)) false) λdL=>if (!y||!b4||!dL)=true then A.bind (A.bind (A.pure false) (λr=>A.pure (V.done r))) λr=>A.pure (V.done r) else A.pure (V.next (IntKind.wrap .i64 (Add.add D.1 1),D.2.1,())))) else A.bind (A.pure (V.next ())) λr=>A.pure (V.done r)) (0,D.1,())) (V.bE (λ(D:Unit)=>A.pure true))))))
def N'(lA:Int×Int×Int->A Bool)(x:Int×Int):A Bool:=
 A.bind (lA (x.1,0,x.2)) λy=>A.pure (y&&decide (x.2<=999))
def Oa(ajU:z1'->A Bool)(lA:Int×Int×Int->A Bool)(N_:Int×Int->A Bool)(x:Int×z1'×Int×Int):A Bool:=
 A.bind (A.loop (λ(D:Int×(Int×z1'×Int×Int)×Unit)=>letI b:=D.1<Int.ofNat (List.length D.2.1.2.1);if decide b=true then A.ad (0<=D.1/\b) (A.bind (lA (List.getD D.2.1.2.1 (Int.toNat D.1) 0,0,9)) (λy=>if (!y)=true then A.bind (A.bind (A.pure false) (λr=>A.pure (V.done r))) λr=>A.pure (V.done r) else A.pure (V.next (IntKind.wrap .i64 (Add.add D.1 1),D.2.1,())))) else A.bind (A.pure (V.next (D.2.1,()))) λr=>A.pure (V.done r)) (0,x,())) (V.bE (λ(D:(Int×z1'×Int×Int)×Unit)=>A.bind (lA (D.1.1,0,9)) λy=>letI a:=y&&decide (Int.ofNat (List.length D.1.2.1)<=4);A.bind (cu a (ajU D.1.2.1) false) λb4=>A.bind (cu (a&&b4) (N_ D.1.2.2) false) λdL=>A.pure (a&&b4&&dL)))
def VM(ayM:Int×Int->A (Int×Int))(ajV:Int×Int->A (Int×Int))(x:Int×Int):A (Int×Int):=
 A.bind (ajV x) λy=>A.pure y
def VN(ajW:z1'×Int->A Int)(x:z1'×Int):A Bool:=
 A.bind (ajW x) λy=>A.pure (decide (y>=0))
def VO(x:Int×Int):A (Int×Int):=
 A.ad ((0:Int)<=32) (A.ad ((0:Int)<=32) (A.ad ((0:Int)<=32) (A.ad ((0:Int)<=32) (A.ad ((0:Int)<=32) (A.pure (IntKind.wrap .u64 (Add.add (IntKind.wrap .u64 (Add.add (IntKind.wrap .u64 (jm .u64 x.1 32*jm .u64 x.2 32)) (jm .u64 (IntKind.wrap .u64 (Add.add (IntKind.wrap .u64 (jm .u64 x.1 32*lO .u64 x.2 4294967295)) (jm .u64 (IntKind.wrap .u64 (lO .u64 x.1 4294967295*lO .u64 x.2 4294967295)) 32))) 32))) (jm .u64 (IntKind.wrap .u64 (Add.add (lO .u64 (IntKind.wrap .u64 (Add.add (IntKind.wrap .u64 (jm .u64 x.1 32*lO .u64 x.2 4294967295)) (jm .u64 (IntKind.wrap .u64 (lO .u64 x.1 4294967295*lO .u64 x.2 4294967295)) 32))) 4294967295) (IntKind.wrap .u64 (lO .u64 x.1 4294967295*jm .u64 x.2 32)))) 32)),IntKind.wrap .u64 (x.1*x.2)))))))
def Ob(x:z1'×Int):A Int:=
 A.bind (A.loop (λ(D:z1'×Int×Int×Int×Unit)=>letI a:=D.2.2.2.1;if decide (a<D.2.2.1)=true then A.ad (0<=a/\a<Int.ofNat (List.length D.1)) (if decide (D.2.1=List.getD D.1 (Int.toNat a) 0)=true then A.bind (A.bind (A.pure a) (λr=>A.pure (V.done r))) λr=>A.pure (V.done r) else A.pure (V.next (D.1,D.2.1,D.2.2.1,IntKind.wrap .i64 (Add.add a 1),()))) else A.bind (A.pure (V.next ())) λr=>A.pure (V.done r)) (x.1,x.2,Int.ofNat (List.length x.1),0,())) (V.bE (λ(D:Unit)=>A.pure (-1)))
def Oc(ajX:z2'×List (List (Int×z1'×Int×Int))×Int×z2'->A Bool)(x:z2'×List (List (Int×z1'×Int×Int))×Int×z2'):A Int:=
 A.bind (ajX x) λy=>if (!y)=true then A.pure 70 else A.bind (A.loop (λ(D:z2'×Int×Int×z5'×Unit)=>letI c:=D.2.2.1;letI a:=List.getD D.1 (Int.toNat c) (0,0,0,0);letI b:=Option.map (λx=>x.2) (List.find? (λp=>decide (a.1=p.1.1)&&(decide (a.2.1=p.1.2.1)&&decide (a.2.2.1=p.1.2.2))) D.2.2.2.1);if decide (c<D.2.1)=true then A.ad (0<=c/\c<Int.ofNat (List.length D.1)) (if (Option.isSome b&&decide (Option.getD b 0≠a.2.2.2))=true then A.bind (A.bind (A.pure 71) (λr=>A.pure (V.done r))) λr=>A.pure (V.done r) else A.pure (V.next (D.1,D.2.1,IntKind.wrap .i64 (Add.add c 1),v_ D.2.2.2.1 (a.1,a.2.1,a.2.2.1) a.2.2.2,()))) else A.bind (A.pure (V.next ())) λr=>A.pure (V.done r)) (x.2.2.2,Int.ofNat (List.length x.2.2.2),0,[],())) (V.bE (λ(D:Unit)=>A.pure 0))
def Od(mJ:bA×Bool->A (Option qV×Int))(ix:bA×Int->A Bool)(x:bA×Int):A ((Int×Int)×Int):=
 letI a:=Int.toNat x.2;A.ad (ix x).b2 (A.ad (mJ (x.1,A.val (ix x) false)).b2 (if decide ((A.val (mJ (x.1,A.val (ix x) false)) (none,0)).2≠0)=true then A.pure ((0,0),(A.val (mJ (x.1,A.val (ix x) false)) (none,0)).2) else A.ad (Option.isSome (A.val (mJ (x.1,A.val (ix x) false)) (none,0)).1=true) (A.ad (0<=x.2/\x.2<Int.ofNat (List.length (Option.getD (A.val (mJ (x.1,A.val (ix x) false)) (none,0)).1 (([],[],0,[]),[])).2)) (A.ad ((0:Int)<=0/\0<Int.ofNat (List.length (List.getD (Option.getD (A.val (mJ (x.1,A.val (ix x) false)) (none,0)).1 (([],[],0,[]),[])).2 a []))) (A.ad (0<=IntKind.wrap .i64 (Int.ofNat (List.length (List.getD (Option.getD (A.val (mJ (x.1,A.val (ix x) false)) (none,0)).1 (([],[],0,[]),[])).2 a []))-1)/\IntKind.wrap .i64 (Int.ofNat (List.length (List.getD (Option.getD (A.val (mJ (x.1,A.val (ix x) false)) (none,0)).1 (([],[],0,[]),[])).2 a []))-1)<Int.ofNat (List.length (List.getD (Option.getD (A.val (mJ (x.1,A.val (ix x) false)) (none,0)).1 (([],[],0,[]),[])).2 a []))) (A.pure ((List.getD (List.getD (Option.getD (A.val (mJ (x.1,A.val (ix x) false)) (none,0)).1 (([],[],0,[]),[])).2 a []) (Int.toNat 0) 0,List.getD (List.getD (Option.getD (A.val (mJ (x.1,A.val (ix x) false)) (none,0)).1 (([],[],0,[]),[])).2 a []) (Int.toNat (IntKind.wrap .i64 (Int.ofNat (List.length (List.getD (Option.getD (A.val (mJ (x.1,A.val (ix x) false)) (none,0)).1 (([],[],0,[]),[])).2 a []))-1))) 0),0)))))))
def Oe(mJ:bA×Bool->A (Option qV×Int))(ix:bA×Int->A Bool)(ym:bA×Int×Int->A Bool)(ajY:Option qV×Int×Int×Int->A Int)(x:bA×Int×Int×Int):A (Int×Int):=
 letI b:=(x.1,x.2.2);letI a:=(x.1,x.2.1);A.ad (ix a).b2 (A.ad (A.val (ix a) false=true->(A.val (ix a) false=true/\A.val (ix a) false=true/\A.val (ix a) false=true/\True)/\(ym b).b2/\True) (A.ad (True/\(A.val (ix a) false=true->A.val (ix a) false=true)) (A.ad (mJ (x.1,A.val (ix a) false&&A.val (ym b) false)).b2 (if decide ((A.val (mJ (x.1,A.val (ix a) false&&A.val (ym b) false)) (none,0)).2≠0)=true then A.pure (0,(A.val (mJ (x.1,A.val (ix a) false&&A.val (ym b) false)) (none,0)).2) else A.bind (ajY ((A.val (mJ (x.1,A.val (ix a) false&&A.val (ym b) false)) (none,0)).1,x.2)) λy=>A.pure (y,0)))))
def VP(o5:Int×Int×Int->A Bool)(ajZ:z2'×(Int×Int×Int×Int->A Bool)->A Bool)(aj0:List (List (Int×z1'×Int×Int))×(List (Int×z1'×Int×Int)->A Bool)->A Bool)(Of:z2'×(Int×Int×Int×Int->A Bool)->A Bool)(aj1:List (Int×z1'×Int×Int)×Option (Int×z1'×Int×Int->A Bool)->A Bool)(aj2:(Int×Int×Int×Int)×Option bA->A Bool)(aj3:Int×Int×Int×Int->A Bool)(aj4:Int×z1'×Int×Int->A Bool)(x:z2'×List (List (Int×z1'×Int×Int))×Int×z2'):A Bool:=
 letI c:=decide (Int.ofNat (List.length x.1)<=10);A.bind (cu c (ajZ (x.1,aj3)) false) λy=>letI a:=c&&y&&decide (Int.ofNat (List.length x.2.1)<=6);A.bind (cu a (aj0 (x.2.1,λx=>aj1 (x,some aj4))) false) λb4=>A.bind (cu (a&&b4) (o5 (x.2.2.1,0,99)) false) λdL=>letI b:=a&&b4&&dL&&decide (Int.ofNat (List.length x.2.2.2)<=30);A.bind (cu b (Of (x.2.2.2,λhB=>aj2 (hB,some x))) false) λgb=>A.pure (b&&gb)
def Og(Eh:z2'×List (List (Int×z1'×Int×Int))×Int×z2'->A Int)(Of:z2'×(Int×Int×Int×Int->A Bool)->A Bool)(aj5:(Int×Int×Int×Int)×Option Int×Option bA×Option Int->A Bool)(x:bA×Bool):A (Option qV×Int):=
 A.bind (Eh x.1) λy=>if decide (y≠0)=true then A.pure (none,y) else if (!x.2)=true then A.pure (none,1) else A.bind (A.loop (λ(D:z2'×Int×Int×bA×z2'×List (List (Int×z1'×Int×Int))×Int×z2'×List (z1')×Unit)=>letI i:=D.2.2.1;letI g:=List.getD D.1 (Int.toNat i) (0,0,0,0);letI c:=D.2.2.2.2;if decide (i<D.2.1)=true then A.bind (A.ad (0<=i/\i<Int.ofNat (List.length D.1)) (A.bind (A.loop (λ(D:z2'×Int×Int×bA×Int×(Int×Int×Int×Int)×z1'×Int×z2'×List (List (Int×z1'×Int×Int))×Int×z2'×List (z1')×Unit)=>letI d:=D.2.2.2;letI a:=d.2.2.2;letI j:=a.2.2;letI e:=j.2.2;if decide (a.2.1<=d.2.2.1.2.2.2)=true then A.bind (A.bind (Of (d.1.2.2.2,λx=>aj5 (x,some d.2.1,some d.1,some a.2.1))) (λy=>if y=true then A.ad (b_ (Add.add (List.length a.1) (Add.add 0 1))) (A.pure (V.next (D.1,D.2.1,D.2.2.1,d.1,d.2.1,d.2.2.1,a.1++[a.2.1],a.2.1,j.1,j.2.1,e.1,e.2.1,e.2.2.1,()))) else A.pure (V.next (D.1,D.2.1,D.2.2.1,d.1,d.2.1,d.2.2.1,a.1,a.2.1,j.1,j.2.1,e.1,e.2.1,e.2.2.1,())))) (V.bE (λ(D:z2'×Int×Int×bA×Int×(Int×Int×Int×Int)×z1'×Int×z2'×List (List (Int×z1'×Int×Int))×Int×z2'×List (z1')×Unit)=>letI k:=D.2.2.2;letI b:=k.2.2.2;A.pure (V.next (D.1,D.2.1,D.2.2.1,k.1,k.2.1,k.2.2.1,b.1,IntKind.wrap .i64 (Add.add b.2.1 1),b.2.2.1,b.2.2.2.1,b.2.2.2.2.1,b.2.2.2.2.2.1,b.2.2.2.2.2.2.1,())))) else A.bind (A.pure (V.next (D.1,D.2.1,D.2.2.1,d.1,a.1,j.1,j.2.1,e.1,e.2.1,e.2.2.1,()))) λr=>A.pure (V.done r)) (D.1,D.2.1,i,D.2.2.2.1,i,g,[],g.2.2.1,c.1,c.2.1,c.2.2.1,c.2.2.2.1,c.2.2.2.2.1,())) (V.bE (λ(D:z2'×Int×Int×bA×z1'×z2'×List (List (Int×z1'×Int×Int))×Int×z2'×List (z1')×Unit)=>letI f:=D.2.2.2.2;if decide (Int.ofNat (List.length f.1)=0)=true then A.bind (A.bind (A.bind (A.pure (none,3)) (λr=>A.pure (V.done r))) (λr=>A.pure (V.done r))) λr=>A.pure (V.done r) else A.ad True (A.ad (b_ (Add.add (List.length f.2.2.2.2.2.1) (Add.add 0 1))) (A.ad True (A.pure (V.next (D.1,D.2.1,D.2.2.1,D.2.2.2.1,f.2.1,f.2.2.1,f.2.2.2.1,f.2.2.2.2.1,f.2.2.2.2.2.1++[f.1],()))))))))) (V.bE (λ(D:z2'×Int×Int×bA×z2'×List (List (Int×z1'×Int×Int))×Int×z2'×List (z1')×Unit)=>letI h:=D.2.2.2.2;A.pure (V.next (D.1,D.2.1,IntKind.wrap .i64 (Add.add D.2.2.1 1),D.2.2.2.1,h.1,h.2.1,h.2.2.1,h.2.2.2.1,h.2.2.2.2.1,())))) else A.bind (A.pure (V.next (c.1,c.2.1,c.2.2.1,c.2.2.2.1,c.2.2.2.2.1,()))) λr=>A.pure (V.done r)) (x.1.1,Int.ofNat (List.length x.1.1),0,x.1,x.1.1,x.1.2.1,x.1.2.2.1,x.1.2.2.2,[],())) (V.bE (λ(D:z2'×List (List (Int×z1'×Int×Int))×Int×z2'×List (z1')×Unit)=>A.pure (some ((D.1,D.2.1,D.2.2.1,D.2.2.2.1),D.2.2.2.2.1),0)))
def aj6(o5:Int×Int×Int->A Bool)(x:bA×Int):A Bool:=
 A.bind (o5 (x.2,0,IntKind.wrap .i64 (Int.ofNat (List.length x.1.1)-1))) λy=>A.pure y
def VQ(o5:Int×Int×Int->A Bool)(x:bA×Int×Int):A Bool:=
 letI a:=Int.ofNat (List.length x.1.2.1);A.bind (o5 (x.2.1,0,IntKind.wrap .i64 (a-1))) λy=>A.ad (y=true->(y=true/\y=true)/\(0<=x.2.1/\x.2.1<a)/\True) (A.bind (cu y (o5 (x.2.2,0,IntKind.wrap .i64 (Int.ofNat (List.length (List.getD x.1.2.1 (Int.toNat x.2.1) []))-1))) false) (λb4=>A.pure (y&&b4)))
def Oh(Ia:bA×Int×Int×Int×Int->A Bool)(aj7:Int×Int->A Int)(x:Option qV×Int×Int×Int):A Int:=
 letI b:=(Option.getD x.1 (([],[],0,[]),[])).2;letI e:=List.getD b (Int.toNat x.2.1) [];A.bind (A.ad (Option.isSome x.1=true) (A.ad (0<=x.2.1/\x.2.1<Int.ofNat (List.length b)) (A.loop (λ(D:Option qV×Int×Int×Int×Int×z1'×Int×Int×Unit)=>letI c:=D.2.2.2;letI a:=c.2.2;letI f:=a.2.2.1;if decide (f<a.2.1)=true then A.bind (A.ad (0<=f/\f<Int.ofNat (List.length a.1)) (A.ad (Option.isSome D.1=true) (A.bind (Ia ((Option.getD D.1 (([],[],0,[]),[])).1,D.2.1,List.getD a.1 (Int.toNat f) 0,D.2.2.1,c.1)) (λy=>if y=true then A.pure (V.next (D.1,D.2.1,D.2.2.1,c.1,IntKind.wrap .i64 (Add.add c.2.1 1),a.1,a.2.1,f,())) else A.pure (V.next (D.1,D.2.1,D.2.2.1,c.1,c.2.1,a.1,a.2.1,f,())))))) (V.bE (λ(D:Option qV×Int×Int×Int×Int×z1'×Int×Int×Unit)=>letI g:=D.2.2.2;A.pure (V.next (D.1,D.2.1,D.2.2.1,g.1,g.2.1,g.2.2.1,g.2.2.2.1,IntKind.wrap .i64 (Add.add g.2.2.2.2.1 1),())))) else A.bind (A.pure (V.next (D.1,D.2.1,c.2.1,()))) λr=>A.pure (V.done r)) (x.1,x.2.1,x.2.2.1,x.2.2.2,0,e,Int.ofNat (List.length e),0,())))) (V.bE (λ(D:Option qV×Int×Int×Unit)=>letI d:=(Option.getD D.1 (([],[],0,[]),[])).2;A.ad (Option.isSome D.1=true) (A.ad (0<=D.2.1/\D.2.1<Int.ofNat (List.length d)) (A.bind (aj7 (D.2.2.1,Int.ofNat (List.length (List.getD d (Int.toNat D.2.1) [])))) (λy=>A.pure y)))))
def aj8(x:z1'):A Bool:=
 A.bind (A.loop (λ(D:z1'×Int×Unit)=>letI c:=D.2.1;letI b:=IntKind.wrap .i64 (c-1);letI a:=Int.ofNat (List.length D.1);if decide (c<a)=true then A.ad (0<=c/\c<a) (A.ad (0<=b/\b<a) (if decide (List.getD D.1 (Int.toNat c) 0<=List.getD D.1 (Int.toNat b) 0)=true then A.bind (A.bind (A.pure false) (λr=>A.pure (V.done r))) λr=>A.pure (V.done r) else A.pure (V.next (D.1,IntKind.wrap .i64 (Add.add c 1),())))) else A.bind (A.pure (V.next ())) λr=>A.pure (V.done r)) (x,1,())) (V.bE (λ(D:Unit)=>A.pure true))
def aj9(x:Int×Int×Int):A Bool:=
 A.pure (decide (x.2.1<=x.1)&&decide (x.1<=x.2.2))
def VR(Ei:Int->A Bool)(Oi:Int×Int->A Bool)(x:Int×Int×Int×Int):A Bool:=
 A.bind (Ei x.1) λy=>A.bind (cu y (Ei x.2.1) false) λb4=>A.bind (cu (y&&b4) (Oi x.2.2) false) λdL=>A.pure (y&&b4&&dL)
def VS(o5:Int×Int×Int->A Bool)(x:Int):A Bool:=
 A.bind (o5 (x,0,9)) λy=>A.pure y
def aj_(o5:Int×Int×Int->A Bool)(x:Int×Int):A Bool:=
 A.bind (o5 (x.1,0,x.2)) λy=>A.pure (y&&decide (x.2<=999))
def VT(aj':z1'->A Bool)(aka:z1'×(Int->A Bool)->A Bool)(Ei:Int->A Bool)(Oi:Int×Int->A Bool)(x:Int×z1'×Int×Int):A Bool:=
 A.bind (Ei x.1) λy=>letI a:=y&&decide (Int.ofNat (List.length x.2.1)<=4);A.bind (cu a (aka (x.2.1,Ei)) false) λb4=>A.bind (cu (a&&b4) (aj' x.2.1) false) λdL=>A.bind (cu (a&&b4&&dL) (Oi x.2.2) false) λgb=>A.pure (a&&b4&&dL&&gb)
def VU(akb:List (Int×z1'×Int×Int)×(Int×z1'×Int×Int->A Bool)->A Bool)(x:List (Int×z1'×Int×Int)×Option (Int×z1'×Int×Int->A Bool)):A Bool:=
 letI a:=decide (Int.ofNat (List.length x.1)<=4);A.bind (cu a (akb (x.1,Option.getD x.2 λx=>{ b2:=False,bR:=λx=>False })) false) λy=>A.pure (a&&y)
def VV(ix:bA×Int->A Bool)(ym:bA×Int×Int->A Bool)(o5:Int×Int×Int->A Bool)(x:(Int×Int×Int×Int)×Option bA):A Bool:=
 letI a:=Option.getD x.2 ([],[],0,[]);A.bind (ix (a,x.1.1)) λy=>A.bind (cu y (ym (a,x.1.2.1,x.1.2.2.1)) false) λb4=>A.bind (cu (y&&b4) (o5 (x.1.2.2.2,0,1)) false) λdL=>A.pure (y&&b4&&dL)
def VW(Ia:bA×Int×Int×Int×Int->A Bool)(x:(Int×Int×Int×Int)×Option Int×Option bA×Option Int):A Bool:=
 letI e:=Option.getD x.2.1 0;letI c:=decide (x.1.1≠e);letI b:=(Option.getD x.2.2.1 ([],[],0,[]),e,Option.getD x.2.2.2 0,x.1.2.1,x.1.2.2.1);letI a:=(!c)=true;letI d:=a->a/\True/\True;A.ad d (A.ad d (A.ad (a->(a/\a/\a/\a/\a/\True)/\(Ia b).b2/\True) (A.ad d (A.ad (a->(a/\True)/\True/\True) (A.ad (a->(a/\a)/\True/\True) (A.ad (True/\(c=false->a)) (A.pure (c||decide (A.val (Ia b) false=decide (x.1.2.2.2=1))))))))))
def VX(o5:Int×Int×Int->A Bool)(hN:z1'×Int->A Bool)(x:bA×Int×Int×Int×Int):A Bool:=
 letI e:=x.2.2.2;letI c:=List.getD x.1.2.1 (Int.toNat e.1) [];letI b:=List.getD x.1.1 (Int.toNat x.2.1) (0,0,0,0);letI a:=List.getD c (Int.toNat e.2) (0,[],0,0);letI d:=decide (b.1=a.1);A.ad (0<=x.2.1/\x.2.1<Int.ofNat (List.length x.1.1)) (A.ad (0<=e.1/\e.1<Int.ofNat (List.length x.1.2.1)) (A.ad (0<=e.2/\e.2<Int.ofNat (List.length c)) (A.bind (cu d (hN (a.2.1,b.2.1)) false) (λy=>A.bind (cu (d&&y) (o5 (x.2.2.1,a.2.2.1,IntKind.wrap .i64 (Add.add a.2.2.2 x.1.2.2.1))) false) λb4=>A.pure (d&&y&&b4)))))
def VY(x:Int×Int):A Int:=
 if decide (x.1=x.2)=true then A.pure 1 else if decide (x.1=0)=true then A.pure 2 else A.pure 3
def Oj(Ol:z2'×List (List (Int×z1'×Int×Int))×Int×z2'->A Int)(x:z2'×List (List (Int×z1'×Int×Int))×Int×z2'):A Bool:=
 if (decide (Int.ofNat (List.length x.1) > 40)||decide (Int.ofNat (List.length x.2.1) > 40)||decide (Int.ofNat (List.length x.2.2.2) > 60))=true then A.pure true else A.bind (A.loop (λ(D:Int×bA×Unit)=>letI e:=D.1<Int.ofNat (List.length D.2.1.2.1);if decide e=true then A.bind (A.ad (0<=D.1/\e) (if decide (Int.ofNat (List.length (List.getD D.2.1.2.1 (Int.toNat D.1) [])) > 20)=true then A.bind (A.bind (A.bind (A.pure true) (λr=>A.pure (V.done r))) (λr=>A.pure (V.done r))) λr=>A.pure (V.done r) else A.loop (λ(D:Int×Int×bA×Unit)=>letI g:=D.2.2.1;letI c:=0<=D.1/\D.1<Int.ofNat (List.length g.2.1);letI a:=List.getD g.2.1 (Int.toNat D.1) [];letI f:=D.2.1<Int.ofNat (List.length a);A.ad c (if decide f=true then A.ad c (A.ad (0<=D.2.1/\f) (if decide (Int.ofNat (List.length (List.getD a (Int.toNat D.2.1) (0,[],0,0)).2.1) > 20)=true then A.bind (A.bind (A.bind (A.bind (A.pure true) (λr=>A.pure (V.done r))) (λr=>A.pure (V.done r))) (λr=>A.pure (V.done r))) λr=>A.pure (V.done r) else A.pure (V.next (D.1,IntKind.wrap .i64 (Add.add D.2.1 1),g,())))) else A.bind (A.pure (V.next (D.1,g,()))) λr=>A.pure (V.done r))) (D.1,0,D.2.1,()))) (V.bE (λ(D:Int×bA×Unit)=>A.pure (V.next (IntKind.wrap .i64 (Add.add D.1 1),D.2.1,())))) else A.bind (A.pure (V.next (D.2.1,()))) λr=>A.pure (V.done r)) (0,x,())) (V.bE (λ(D:bA×Unit)=>A.bind (Ol D.1) λy=>if decide (y≠0)=true then A.pure false else A.bind (A.loop (λ(D:Int×bA×Unit)=>letI d:=(List.getD D.2.1.1 (Int.toNat D.1) (0,0,0,0)).2.2;letI b:=D.1<Int.ofNat (List.length D.2.1.1);if decide b=true then A.ad (0<=D.1/\b) (A.ad (0<=D.1/\b) (if decide (IntKind.wrap .i64 (d.2-d.1)>=50)=true then A.bind (A.bind (A.pure true) (λr=>A.pure (V.done r))) λr=>A.pure (V.done r) else A.pure (V.next (IntKind.wrap .i64 (Add.add D.1 1),D.2.1,())))) else A.bind (A.pure (V.next (D.2.1,()))) λr=>A.pure (V.done r)) (0,D.1,())) (V.bE (λ(D:bA×Unit)=>A.pure (decide (Int.ofNat (List.length D.1.1) > 6)||decide (Int.ofNat (List.length D.1.2.1) > 4)||decide (Int.ofNat (List.length D.1.2.2.2) > 10))))))
def akc(x:Unit):A bA:=
 A.pure ([(1,2,300,310),(1,3,305,305),(2,1,50,60),(1,2,320,330)],[[(1,[2,3],300,306),(2,[1],40,58)],[(1,[2],310,326)]],5,[(0,1,0,0)])
abbrev dy:Type:=Int×Int×Int×Int×z1'
abbrev dM:Type:=z1'×(Int×Int)×Int×Int×Int
abbrev Ej:Type:=Int×Int×Int
abbrev bJ:Type:=bA×z1'×List dy×List dM×List Ej×Int
abbrev dw:Type:=bJ×z4'×z5'
def VZ(akd:bJ×Bool->A (Int×Int))(x:bJ):A (Int×Int):=
 A.bind (akd (x,true)) λy=>A.pure y
def V0(o6:bJ×Bool->A (Option dw×Int))(ake:Option dw->Prop)(akf:Option dw->List (z1'))(Om:Option dw×z1'->A (z3'×Bool))(akg:Option dw×z3'->A Bool)(On:Option dw×z3'->A Int)(x:bJ):A (Int×Int):=
 A.bind (o6 (x,true)) λy=>if decide (y.2≠0)=true then A.pure (0,y.2) else A.ad (ake y.1) (A.bind (jR (λ(D:Option (bJ×z4'×z5')×Int×Unit) (y:z1')=>A.bind (A.bind (Om (D.1,y)) (λb4=>A.bind (cu (!(!b4.2)) (akg (D.1,b4.1)) false) λdL=>if (!b4.2||!dL)=true then A.pure (dj.normal,D.1,D.2.1,()) else A.bind (On (D.1,b4.1)) λgb=>if (decide (D.2.1=-1)||decide (gb<D.2.1))=true then A.pure (dj.normal,D.1,gb,()) else A.pure (dj.normal,D.1,D.2.1,()))) λp=>A.pure (p.1,p.2.1,p.2.2.1,())) (akf y.1) (y.1,-1,())) (λp=>letI a:=decide (p.2.2.1=-1)=true;sM (if a then A.pure (0,3) else A.pure (p.2.2.1,0)) (λid=>if id=0 then if a then A.pure (0,3) else A.pure (p.2.2.1,0) else A.fail) A.fail p.1))
def V1(o6:bJ×Bool->A (Option dw×Int))(Ek:bJ×Int->A Bool)(Oo:z1'×Int×Unit->A (z1'×Unit))(AW:Option dw×z1'->A Bool)(x:bJ×Int):A (z1'×Int):=
 A.ad (Ek x).b2 (A.ad (o6 (x.1,A.val (Ek x) false)).b2 (if decide ((A.val (o6 (x.1,A.val (Ek x) false)) (none,0)).2≠0)=true then A.pure ([],(A.val (o6 (x.1,A.val (Ek x) false)) (none,0)).2) else A.bind (Oo ([-1],Int.ofNat (List.length x.1.2.2.2.1),())) λy=>A.bind (A.loop (λ(D:Int×Option ((bA×z1'×List dy×List dM×z3'×Int)×z4'×z5')×Int×Int×z1'×z1'×Unit)=>letI b:=D.2.2.2;letI a:=List.set b.2.2.1 (Int.toNat D.1) b.1;if decide (b.1<D.2.2.1)=true then A.bind (A.ad (0<=D.1/\D.1<Int.ofNat (List.length b.2.2.1)) (A.bind (AW (D.2.1,a)) (λy=>if y=true then A.ad (b_ (Add.add (List.length b.2.1) (Add.add 0 1))) (A.pure (V.next (D.1,D.2.1,D.2.2.1,b.1,b.2.1++[b.1],a,()))) else A.pure (V.next (D.1,D.2.1,D.2.2.1,b.1,b.2.1,a,()))))) (V.bE (λ(D:Int×Option ((bA×z1'×List dy×List (z1'×(Int×Int)×Int×Int×Int)×z3'×Int)×z4'×z5')×Int×Int×z1'×z1'×Unit)=>A.pure (V.next (D.1,D.2.1,D.2.2.1,IntKind.wrap .i64 (Add.add D.2.2.2.1 1),D.2.2.2.2.1,D.2.2.2.2.2.1,())))) else A.bind (A.pure (V.next (b.2.1,()))) λr=>A.pure (V.done r)) (x.2,(A.val (o6 (x.1,A.val (Ek x) false)) (none,0)).1,Int.ofNat (List.length x.1.2.2.1),0,[],y.1,())) (V.bE (λ(D:z1'×Unit)=>A.pure (D.1,0)))))
def V2(Eh:z2'×List (List (Int×z1'×Int×Int))×Int×z2'->A Int)(akh:bJ->A Bool)(x:bJ):A Int:=
 A.bind (Eh x.1) λy=>if decide (y≠0)=true then A.pure y else A.bind (akh x) λy=>if (!y)=true then A.pure 80 else A.pure 0
def V3(Ol:z2'×List (List (Int×z1'×Int×Int))×Int×z2'->A Int)(oh:Int×Int×Int->A Bool)(V4:bJ×Int×Int×Int×Int×z1'->A Bool)(aki:z1'×(Int×Int)×Int×Int×Int->A Bool)(x:bJ):A Int:=
 letI a:=decide (Int.ofNat (List.length x.2.1)≠Int.ofNat (List.length x.1.1))||decide (Int.ofNat (List.length x.2.2.1) > 8)||decide (Int.ofNat (List.length x.2.2.2.1) > 6)||decide (Int.ofNat (List.length x.2.2.2.2.1) > 8);A.bind (Ol x.1) λy=>if decide (y≠0)=true then A.pure y else A.bind (cu (!a) (oh (x.2.2.2.2.2,0,99)) false) λy=>if (a||!y)=true then A.pure 80 else A.bind (A.loop (λ(D:Int×(bA×z1'×List (Int×Int×Int×Int×z1')×List dM×z3'×Int)×Unit)=>letI g:=D.1<Int.ofNat (List.length D.2.1.2.1);if decide g=true then A.ad (0<=D.1/\g) (A.bind (oh (List.getD D.2.1.2.1 (Int.toNat D.1) 0,0,10)) (λy=>if (!y)=true then A.bind (A.bind (A.pure 80) (λr=>A.pure (V.done r))) λr=>A.pure (V.done r) else A.pure (V.next (IntKind.wrap .i64 (Add.add D.1 1),D.2.1,())))) else A.bind (A.pure (V.next (D.2.1,()))) λr=>A.pure (V.done r)) (0,x,())) (V.bE (λ(D:(bA×z1'×List dy×List dM×z3'×Int)×Unit)=>A.bind (A.loop (λ(D:Int×(bA×z1'×List dy×List dM×z3'×Int)×Unit)=>letI f:=D.1<Int.ofNat (List.length D.2.1.2.2.1);letI c:=(D.2.1,List.getD D.2.1.2.2.1 (Int.toNat D.1) (0,0,0,0,[]));if decide f=true then A.ad (0<=D.1/\f) (A.ad (V4 c).b2 (if (!(A.val (V4 c) false))=true then A.bind (A.bind (A.pure 80) (λr=>A.pure (V.done r))) λr=>A.pure (V.done r) else A.pure (V.next (IntKind.wrap .i64 (Add.add D.1 1),D.2.1,())))) else A.bind (A.pure (V.next (D.2.1,()))) λr=>A.pure (V.done r)) (0,D.1,())) (V.bE (λ(D:(bA×z1'×List dy×List (z1'×(Int×Int)×Int×Int×Int)×z3'×Int)×Unit)=>A.bind (A.loop (λ(D:Int×(bA×z1'×List dy×List (z1'×(Int×Int)×Int×Int×Int)×z3'×Int)×Unit)=>letI e:=D.1<Int.ofNat (List.length D.2.1.2.2.2.1);if decide e=true then A.ad (0<=D.1/\e) (A.bind (aki (List.getD D.2.1.2.2.2.1 (Int.toNat D.1) ([],(0,0),0,0,0))) (λy=>if (!y)=true then A.bind (A.bind (A.pure 80) (λr=>A.pure (V.done r))) λr=>A.pure (V.done r) else A.pure (V.next (IntKind.wrap .i64 (Add.add D.1 1),D.2.1,())))) else A.bind (A.pure (V.next (D.2.1,()))) λr=>A.pure (V.done r)) (0,D.1,())) (V.bE (λ(D:(bJ)×Unit)=>A.bind (A.loop (λ(D:Int×(bA×z1'×List dy×List dM×z3'×Int)×Unit)=>letI d:=D.1<Int.ofNat (List.length D.2.1.2.2.2.2.1);letI b:=List.getD D.2.1.2.2.2.2.1 (Int.toNat D.1) (0,0,0);if decide d=true then A.ad (0<=D.1/\d) (A.bind (oh (b.1,0,99)) (λy=>A.bind (cu (!(!y)) (oh (b.2.1,0,IntKind.wrap .i64 (Int.ofNat (List.length D.2.1.1.1)-1))) false) λb4=>A.bind (cu (!(!y||!b4)) (oh (b.2.2,1,10)) false) λdL=>if (!y||!b4||!dL)=true then A.bind (A.bind (A.pure 80) (λr=>A.pure (V.done r))) λr=>A.pure (V.done r) else A.pure (V.next (IntKind.wrap .i64 (Add.add D.1 1),D.2.1,())))) else A.bind (A.pure (V.next ())) λr=>A.pure (V.done r)) (0,D.1,())) (V.bE (λ(D:Unit)=>A.pure 0))))))))
def V5(o6:bJ×Bool->A (Option dw×Int))(AW:Option dw×z1'->A Bool)(AX:bJ×z1'->A Bool)(l7:Option dw×z1'->A Int)(x:bJ×z1'):A (Int×Int):=
 A.ad (AX x).b2 (A.ad (o6 (x.1,A.val (AX x) false)).b2 (if decide ((A.val (o6 (x.1,A.val (AX x) false)) (none,0)).2≠0)=true then A.pure (0,(A.val (o6 (x.1,A.val (AX x) false)) (none,0)).2) else A.bind (AW ((A.val (o6 (x.1,A.val (AX x) false)) (none,0)).1,x.2)) λy=>if (!y)=true then A.pure (0,3) else A.bind (l7 ((A.val (o6 (x.1,A.val (AX x) false)) (none,0)).1,x.2)) λy=>A.pure (y,0)))
def V6(o6:bJ×Bool->A (Option dw×Int))(akj:Option dw->A (z1'))(l7:Option dw×z1'->A Int)(x:bJ×Bool):A (Int×Int):=
 A.bind (o6 x) λy=>if decide (y.2≠0)=true then A.pure (0,y.2) else A.bind (akj y.1) λb4=>A.bind (l7 (y.1,b4)) λy=>A.pure (y,0)
def Oq(El:bJ->A Int)(Ib:bA×Int->A ((Int×Int)×Int))(s6:bA×Int×Int×Int->A (Int×Int))(AY:z4'×Int->A (z4'))(x:bJ×Bool):A (Option dw×Int):=
 letI ez:=x.1.1.2;letI f1:=x.1.2.2;A.bind (El x.1) λy=>if decide (y≠0)=true then A.pure (none,y) else if (!x.2)=true then A.pure (none,1) else A.bind (if decide (Int.ofNat (List.length x.1.2.1) > 0)=true then A.bind (Ib (x.1.1,0)) λy=>if decide (y.2≠0)=true then A.bind (A.pure (none,y.2)) λr=>A.pure (V.done r) else A.pure (V.next (x.1,[],x.1.1.1,ez.1,ez.2.1,ez.2.2,x.1.2.1,f1.1,f1.2.1,f1.2.2.1,f1.2.2.2,())) else A.pure (V.next (x.1,[],x.1.1.1,ez.1,ez.2.1,ez.2.2,x.1.2.1,f1.1,f1.2.1,f1.2.2.1,f1.2.2.2,()))) (V.bE (λ(D:(bA×z1'×List dy×List (z1'×(Int×Int)×Int×Int×Int)×z3'×Int)×z5'×z2'×List (List (Int×z1'×Int×Int))×Int×z2'×z1'×List dy×List (z1'×(Int×Int)×Int×Int×Int)×z3'×Int×Unit)=>letI t:=D.2.2.2.2.2;A.bind (A.loop (λ(D:Int×Int×(bA×z1'×List dy×List dM×z3'×Int)×z5'×z2'×List (List (Int×z1'×Int×Int))×Int×z2'×z1'×List dy×List (z1'×(Int×Int)×Int×Int×Int)×z3'×Int×Unit)=>letI bD:=D.2.2;letI h:=bD.2.2.2.2;letI g1:=h.2.2.2;if decide (D.2.1<D.1)=true then A.bind (A.loop (λ(D:Int×Int×Int×List (List (Int×z1'×Int×Int))×Int×Int×(bA×z1'×List dy×List (z1'×(Int×Int)×Int×Int×Int)×z3'×Int)×z5'×z2'×List (List (Int×z1'×Int×Int))×Int×z2'×z1'×List dy×List dM×z3'×Int×Unit)=>letI i1:=D.2.2.2;letI j:=i1.2.2;letI c:=j.2.2.2;letI o:=c.2.2.2.2;if decide (j.1<i1.2.1)=true then A.bind (A.ad (0<=j.1/\j.1<Int.ofNat (List.length i1.1)) (A.loop (λ(D:Int×Int×Int×Int×List (List (Int×z1'×Int×Int))×Int×Int×Int×Int×(bA×z1'×List dy×List dM×z3'×Int)×z5'×z2'×List (List (Int×z1'×Int×Int))×Int×z2'×z1'×List (Int×Int×Int×Int×z1')×List dM×z3'×Int×Unit)=>letI m1:=D.2.2;letI k:=m1.2.2;letI gE:=k.2.2;letI a:=gE.2.2;letI w:=a.2.2.2;letI f:=w.2.2.2;letI d1:=f.2.2.2;if decide (a.1<gE.2.1)=true then A.bind (A.bind (s6 (a.2.1.1,D.1,D.2.1,a.1)) (λy=>if decide (y.1=1)=true then A.ad True (A.ad (True/\True/\True) (A.ad True (A.pure (V.next (D.1,D.2.1,m1.1,m1.2.1,k.1,k.2.1,gE.1,gE.2.1,a.1,a.2.1,v_ a.2.2.1 (D.1,D.2.1,a.1) (IntKind.wrap .i64 (Add.add (Option.getD (Option.map (λx=>x.2) (List.find? (λp=>decide (D.1=p.1.1)&&(decide (D.2.1=p.1.2.1)&&decide (a.1=p.1.2.2))) a.2.2.1)) 0) 1)),w.1,w.2.1,w.2.2.1,f.1,f.2.1,f.2.2.1,d1.1,d1.2.1,d1.2.2.1,()))))) else A.pure (V.next (D.1,D.2.1,m1.1,m1.2.1,k.1,k.2.1,gE.1,gE.2.1,a.1,a.2.1,a.2.2.1,w.1,w.2.1,w.2.2.1,f.1,f.2.1,f.2.2.1,d1.1,d1.2.1,d1.2.2.1,())))) (V.bE (λ(D:Int×Int×Int×Int×List (List (Int×z1'×Int×Int))×Int×Int×Int×Int×bJ×z5'×z2'×List (List (Int×z1'×Int×Int))×Int×z2'×z1'×List dy×List dM×z3'×Int×Unit)=>letI ay:=D.2.2.2.2.2;letI g:=ay.2.2.2.2;letI z:=g.2.2.2.2.2;A.pure (V.next (D.1,D.2.1,D.2.2.1,D.2.2.2.1,D.2.2.2.2.1,ay.1,ay.2.1,ay.2.2.1,IntKind.wrap .i64 (Add.add ay.2.2.2.1 1),g.1,g.2.1,g.2.2.1,g.2.2.2.1,g.2.2.2.2.1,z.1,z.2.1,z.2.2.1,z.2.2.2.1,z.2.2.2.2.1,z.2.2.2.2.2.1,())))) else A.bind (A.pure (V.next (D.1,m1.1,m1.2.1,k.1,k.2.1,gE.1,a.2.1,a.2.2.1,w.1,w.2.1,w.2.2.1,f.1,f.2.1,f.2.2.1,d1.1,d1.2.1,d1.2.2.1,()))) λr=>A.pure (V.done r)) (D.1,j.1,D.2.1,D.2.2.1,i1.1,i1.2.1,j.1,Int.ofNat (List.length (List.getD i1.1 (Int.toNat j.1) [])),0,j.2.1,j.2.2.1,c.1,c.2.1,c.2.2.1,c.2.2.2.1,o.1,o.2.1,o.2.2.1,o.2.2.2.1,o.2.2.2.2.1,()))) (V.bE (λ(D:Int×Int×Int×List (List (Int×z1'×Int×Int))×Int×Int×(bA×z1'×List dy×List dM×z3'×Int)×z5'×z2'×List (List (Int×z1'×Int×Int))×Int×z2'×z1'×List dy×List (z1'×(Int×Int)×Int×Int×Int)×z3'×Int×Unit)=>letI E:=D.2.2.2.2;letI i:=E.2.2.2.2;letI aR:=i.2.2.2.2;A.pure (V.next (D.1,D.2.1,D.2.2.1,D.2.2.2.1,E.1,IntKind.wrap .i64 (Add.add E.2.1 1),E.2.2.1,E.2.2.2.1,i.1,i.2.1,i.2.2.1,i.2.2.2.1,aR.1,aR.2.1,aR.2.2.1,aR.2.2.2.1,aR.2.2.2.2.1,())))) else A.bind (A.pure (V.next (D.2.1,D.2.2.1,j.2.1,j.2.2.1,c.1,c.2.1,c.2.2.1,c.2.2.2.1,o.1,o.2.1,o.2.2.1,o.2.2.2.1,o.2.2.2.2.1,()))) λr=>A.pure (V.done r)) (D.2.1,D.1,D.2.1,bD.1.1.2.1,Int.ofNat (List.length bD.1.1.2.1),0,bD.1,bD.2.1,bD.2.2.1,bD.2.2.2.1,h.1,h.2.1,h.2.2.1,g1.1,g1.2.1,g1.2.2.1,g1.2.2.2.1,())) (V.bE (λ(D:Int×Int×(bA×z1'×List dy×List (z1'×(Int×Int)×Int×Int×Int)×z3'×Int)×z5'×z2'×List (List (Int×z1'×Int×Int))×Int×z2'×z1'×List dy×List (z1'×(Int×Int)×Int×Int×Int)×z3'×Int×Unit)=>letI jN:=D.2.2.2;letI m:=jN.2.2.2;A.pure (V.next (D.1,IntKind.wrap .i64 (Add.add D.2.1 1),D.2.2.1,jN.1,jN.2.1,jN.2.2.1,m.1,m.2.1,m.2.2.1,m.2.2.2.1,m.2.2.2.2.1,m.2.2.2.2.2.1,m.2.2.2.2.2.2.1,())))) else A.bind (A.pure (V.next (bD.1,bD.2.1,bD.2.2.1,bD.2.2.2.1,h.1,h.2.1,h.2.2.1,g1.1,g1.2.1,g1.2.2.1,g1.2.2.2.1,()))) λr=>A.pure (V.done r)) (Int.ofNat (List.length D.1.2.1),0,D.1,D.2.1,D.2.2.1,D.2.2.2.1,D.2.2.2.2.1,t.1,t.2.1,t.2.2.1,t.2.2.2.1,t.2.2.2.2.1,t.2.2.2.2.2.1,())) (V.bE (λ(D:(bA×z1'×List (Int×Int×Int×Int×z1')×List dM×z3'×Int)×z5'×z2'×List (List (Int×z1'×Int×Int))×Int×z2'×z1'×List (Int×Int×Int×Int×z1')×List dM×z3'×Int×Unit)=>letI u:=D.2.2.2.2.2;A.bind (A.loop (λ(D:z1'×Int×Int×(bA×z1'×List dy×List dM×z3'×Int)×z5'×z2'×List (List (Int×z1'×Int×Int))×Int×z2'×z1'×List (Int×Int×Int×Int×z1')×List dM×z3'×Int×z4'×Unit)=>letI l:=D.2.2;letI pZ:=l.2.2.2;letI n:=List.getD D.1 (Int.toNat l.1) 0;letI d:=pZ.2.2.2;letI ca:=d.2.2.2.2;if decide (l.1<D.2.1)=true then A.ad (0<=l.1/\l.1<Int.ofNat (List.length D.1)) (A.ad True (A.ad (AY ([(l.1,0)],n)).b2 (A.ad (b_ (Add.add (List.length ca.2.2.1) (List.length (A.val (AY ([(l.1,0)],n)) [])))) (A.ad True (A.pure (V.next (D.1,D.2.1,IntKind.wrap .i64 (Add.add l.1 1),l.2.1,l.2.2.1,pZ.1,pZ.2.1,pZ.2.2.1,d.1,d.2.1,d.2.2.1,d.2.2.2.1,ca.1,ca.2.1,ca.2.2.1++A.val (AY ([(l.1,0)],n)) [],()))))))) else A.bind (A.pure (V.next (l.2.1,l.2.2.1,pZ.1,pZ.2.1,pZ.2.2.1,d.1,d.2.1,d.2.2.1,d.2.2.2.1,ca.1,ca.2.1,ca.2.2.1,()))) λr=>A.pure (V.done r)) (D.1.2.1,Int.ofNat (List.length D.1.2.1),0,D.1,D.2.1,D.2.2.1,D.2.2.2.1,D.2.2.2.2.1,u.1,u.2.1,u.2.2.1,u.2.2.2.1,u.2.2.2.2.1,u.2.2.2.2.2.1,[],())) (V.bE (λ(D:(bA×z1'×List dy×List (z1'×(Int×Int)×Int×Int×Int)×z3'×Int)×z5'×z2'×List (List (Int×z1'×Int×Int))×Int×z2'×z1'×List dy×List dM×z3'×Int×z4'×Unit)=>letI q:=D.2.2.2.2.2;A.bind (A.loop (λ(D:z3'×Int×Int×z5'×z2'×List (List (Int×z1'×Int×Int))×Int×z2'×z1'×List (Int×Int×Int×Int×z1')×List dM×z3'×Int×z4'×Unit)=>letI s:=D.2.2;letI dO:=s.2.2.2;letI e:=dO.2.2;letI ds:=e.2.2.2.2;letI b:=List.getD D.1 (Int.toNat s.1) (0,0,0);letI dh:=(b.2.1,b.1);if decide (s.1<D.2.1)=true then A.ad (0<=s.1/\s.1<Int.ofNat (List.length D.1)) (A.ad True (A.ad (AY ([dh],b.2.2)).b2 (A.ad (b_ (Add.add (List.length ds.2.2.1) (List.length (A.val (AY ([dh],b.2.2)) [])))) (A.ad True (A.pure (V.next (D.1,D.2.1,IntKind.wrap .i64 (Add.add s.1 1),s.2.1,s.2.2.1,dO.1,dO.2.1,e.1,e.2.1,e.2.2.1,e.2.2.2.1,ds.1,ds.2.1,ds.2.2.1++A.val (AY ([dh],b.2.2)) [],()))))))) else A.bind (A.pure (V.next (s.2.1,s.2.2.1,dO.1,dO.2.1,e.1,e.2.1,e.2.2.1,e.2.2.2.1,ds.1,ds.2.1,ds.2.2.1,()))) λr=>A.pure (V.done r)) (D.1.2.2.2.2.1,Int.ofNat (List.length D.1.2.2.2.2.1),0,D.2.1,D.2.2.1,D.2.2.2.1,D.2.2.2.2.1,q.1,q.2.1,q.2.2.1,q.2.2.2.1,q.2.2.2.2.1,q.2.2.2.2.2.1,q.2.2.2.2.2.2.1,())) (V.bE (λ(D:z5'×z2'×List (List (Int×z1'×Int×Int))×Int×z2'×z1'×List (Int×Int×Int×Int×z1')×List dM×z3'×Int×z4'×Unit)=>letI v:=D.2.2.2.2.2;A.pure (some (((D.2.1,D.2.2.1,D.2.2.2.1,D.2.2.2.2.1),v.1,v.2.1,v.2.2.1,v.2.2.2.1,v.2.2.2.2.1),v.2.2.2.2.2.1,D.1),0)))))))))
def Ot(Ic:(z1'×(Int×Int)×Int×Int×Int)×Int×Int×Int×Int×z1'->A Int)(x:Option dw×z1'):A (z3'×Bool):=
 A.bind (A.loop (λ(D:Option ((bA×z1'×List dy×List dM×z3'×Int)×z4'×z5')×z1'×Int×Int×z3'×Unit)=>letI l:=D.2;letI g:=Option.isSome D.1=true;letI e:=l.2.2;letI j:=Int.toNat e.1;letI b:=List.getD l.1 j 0;letI a:=(Option.getD D.1 ((([],[],0,[]),[],[],[],[],0),[],[])).1.2.2;letI f:=List.getD a.1 (Int.toNat b) (0,0,0,0,[]);letI d:=List.getD a.2.1 j ([],(0,0),0,0,0);if decide (e.1<l.2.1)=true then A.bind (A.ad (0<=e.1/\e.1<Int.ofNat (List.length l.1)) (if decide (List.getD l.1 j (0:Int)<0)=true then A.pure (V.next (D.1,l.1,l.2.1,e.1,e.2.1,())) else A.ad g (A.ad (0<=e.1/\e.1<Int.ofNat (List.length a.2.1)) (A.ad g (A.ad (0<=b/\b<Int.ofNat (List.length a.1)) (A.bind (A.bind (Ic (d,f)) (λy=>if decide (y=0)=true then A.bind (A.bind (A.bind (A.bind (A.pure ([],false)) (λr=>A.pure (V.done r))) (λr=>A.pure (V.done r))) (λr=>A.pure (V.done r))) λr=>A.pure (V.done r) else if decide (y=2)=true then A.ad g (A.pure (V.next (D.1,IntKind.wrap .i64 (d.2.2.2.1-a.2.2.2),l.1,l.2.1,e.1,e.2.1,f,()))) else A.pure (V.next (D.1,d.2.2.2.1,l.1,l.2.1,e.1,e.2.1,f,())))) (V.bE (λ(D:Option ((bA×z1'×List dy×List (z1'×(Int×Int)×Int×Int×Int)×z3'×Int)×z4'×z5')×Int×z1'×Int×Int×z3'×(Int×Int×Int×Int×z1')×Unit)=>letI h:=D.2.2.2.2;if decide (D.2.1<0)=true then A.bind (A.bind (A.bind (A.pure ([],false)) (λr=>A.pure (V.done r))) (λr=>A.pure (V.done r))) λr=>A.pure (V.done r) else A.loop (λ(D:Option ((bA×z1'×List dy×List dM×z3'×Int)×z4'×z5')×Int×z1'×Int×Int×z1'×Int×Int×z3'×(Int×Int×Int×Int×z1')×Unit)=>letI k:=D.2.2.2;letI c:=k.2.2;letI i:=c.2.2;if decide (i.1<c.2.1)=true then A.ad (0<=i.1/\i.1<Int.ofNat (List.length c.1)) (A.ad (b_ (Add.add (List.length i.2.1) (Add.add 0 1))) (A.pure (V.next (D.1,D.2.1,D.2.2.1,k.1,k.2.1,c.1,c.2.1,IntKind.wrap .i64 (Add.add i.1 1),i.2.1++[(i.2.2.1.2.2.2.1,List.getD c.1 (Int.toNat i.1) 0,D.2.1)],i.2.2.1,())))) else A.bind (A.pure (V.next (D.1,D.2.2.1,k.1,k.2.1,i.2.1,()))) λr=>A.pure (V.done r)) (D.1,D.2.1,D.2.2.1,D.2.2.2.1,h.1,h.2.2.1.2.2.2.2,Int.ofNat (List.length h.2.2.1.2.2.2.2),0,h.2.1,h.2.2.1,()))))))))) (V.bE (λ(D:Option (bJ×z4'×z5')×z1'×Int×Int×z3'×Unit)=>A.pure (V.next (D.1,D.2.1,D.2.2.1,IntKind.wrap .i64 (Add.add D.2.2.2.1 1),D.2.2.2.2.1,())))) else A.bind (A.pure (V.next (e.2.1,()))) λr=>A.pure (V.done r)) (x.1,x.2,Int.ofNat (List.length x.2),0,[],())) (V.bE (λ(D:z3'×Unit)=>A.pure (D.1,true)))
def Ou(Ie:Option dw×(Int×Int)×Int×Int×Int->A Bool)(x:Option dw×z3'):A Bool:=
 A.bind (A.loop (λ(D:Option ((bA×z1'×List dy×List dM×z3'×Int)×z4'×z5')×z3'×Int×Int×Unit)=>letI b:=D.2.2.2.1;if decide (b<D.2.2.1)=true then A.bind (A.ad (0<=b/\b<Int.ofNat (List.length D.2.1)) (A.bind (A.ad (Option.isSome D.1=true) (A.loop (λ(D:Option ((bJ)×z4'×z5')×Bool×z3'×Int×Int×Int×Int×(Int×Int×Int)×Unit)=>letI a:=D.2.2.2.2;if decide (a.2.2.1<a.2.1)=true then A.bind (cu (!D.2.1) (Ie (D.1,(a.2.2.1,0),a.2.2.2.1)) false) λy=>A.pure (V.next (D.1,D.2.1||y,D.2.2.1,D.2.2.2.1,a.1,a.2.1,IntKind.wrap .i64 (Add.add a.2.2.1 1),a.2.2.2.1,())) else A.bind (A.pure (V.next (D.1,D.2.1,D.2.2.1,D.2.2.2.1,a.1,()))) λr=>A.pure (V.done r)) (D.1,false,D.2.1,D.2.2.1,b,Int.ofNat (List.length (Option.getD D.1 ((([],[],0,[]),[],[],[],[],0),[],[])).1.2.1),0,List.getD D.2.1 (Int.toNat b) (0,0,0),()))) (V.bE (λ(D:Option ((bA×z1'×List dy×List (z1'×(Int×Int)×Int×Int×Int)×z3'×Int)×z4'×z5')×Bool×z3'×Int×Int×Unit)=>if (!D.2.1)=true then A.bind (A.bind (A.bind (A.pure false) (λr=>A.pure (V.done r))) (λr=>A.pure (V.done r))) λr=>A.pure (V.done r) else A.pure (V.next (D.1,D.2.2.1,D.2.2.2.1,D.2.2.2.2.1,())))))) (V.bE (λ(D:Option ((bA×z1'×List (Int×Int×Int×Int×z1')×List dM×z3'×Int)×z4'×z5')×z3'×Int×Int×Unit)=>A.pure (V.next (D.1,D.2.1,D.2.2.1,IntKind.wrap .i64 (Add.add D.2.2.2.1 1),())))) else A.bind (A.pure (V.next ())) λr=>A.pure (V.done r)) (x.1,x.2,Int.ofNat (List.length x.2),0,())) (V.bE (λ(D:Unit)=>A.pure true))
def Ov(Oo:z1'×Int×Unit->A (z1'×Unit))(Ow:Option dw×z3'×Int×z4'×z1'×Unit->A (Bool×z4'×z1'×Unit))(x:Option dw×z3'):A Int:=
 A.ad (Option.isSome x.1=true) (A.bind (Oo ([-1],Int.ofNat (List.length (Option.getD x.1 ((([],[],0,[]),[],[],[],[],0),[],[])).2.1),())) (λy=>A.bind (A.loop (λ(D:Option ((bA×z1'×List dy×List (z1'×(Int×Int)×Int×Int×Int)×z3'×Int)×z4'×z5')×z3'×Int×Int×Int×z1'×Unit)=>letI a:=D.2.2.2;if decide (a.2.1<a.1)=true then A.bind (A.bind (Ow (D.1,D.2.1,a.2.1,[],a.2.2.1,())) (λy=>if (!y.1)=true then A.pure (V.next (D.1,D.2.1,IntKind.wrap .i64 (Add.add D.2.2.1 1),a.1,a.2.1,y.2.2.1,())) else A.pure (V.next (D.1,D.2.1,D.2.2.1,a.1,a.2.1,y.2.2.1,())))) (V.bE (λ(D:Option ((bA×z1'×List (Int×Int×Int×Int×z1')×List dM×z3'×Int)×z4'×z5')×z3'×Int×Int×Int×z1'×Unit)=>A.pure (V.next (D.1,D.2.1,D.2.2.1,D.2.2.2.1,IntKind.wrap .i64 (Add.add D.2.2.2.2.1 1),D.2.2.2.2.2.1,())))) else A.bind (A.pure (V.next (D.2.2.1,()))) λr=>A.pure (V.done r)) (x.1,x.2,0,Int.ofNat (List.length x.2),0,y.1,())) (V.bE (λ(D:Int×Unit)=>A.pure D.1))))
def V7(kL:Int×Int×Int->A Bool)(x:bJ×Int):A Bool:=
 A.bind (kL (x.2,0,IntKind.wrap .i64 (Int.ofNat (List.length x.1.2.2.2.1)-1))) λy=>A.pure y
def akk(yn:Int×Int->A (Int×Int))(x:z1'×Int):A (z1'):=
 A.bind (if decide (x.2<0)=true then A.ad False (A.ad False (A.pure (V.next (x.1,x.2,())))) else A.pure (V.next (x.1,x.2,()))) (V.bE (λ(D:z1'×Int×Unit)=>A.bind (yn (IntKind.wrap .u64 (Int.ofNat (List.length D.1)),IntKind.wrap .u64 D.2.1)) λy=>A.bind (if (decide (y.1 > 0)||decide (y.2 > 9223372036854775807))=true then A.ad False (A.ad False (A.pure (V.next (D.1,y.2,())))) else A.pure (V.next (D.1,y.2,()))) (V.bE (λ(D:z1'×Int×Unit)=>letI b:=IntKind.wrap .i64 D.2.1;letI f:=Int.toNat b;letI e:=List.take (List.length (List.replicate f (0:Int))-0) D.1;A.ad (0<=b/\b=b/\b_ f) (A.ad True (A.bind (A.loop (λ(D:Int×z1'×Unit)=>letI g:=Int.toNat D.1;letI c:=List.take g D.2.1;letI a:=Int.ofNat (List.length D.2.1);letI d:=Int.toNat a-g;if decide (D.1<a)=true then A.ad (0<=D.1/\D.1<=a/\a<=a) (A.ad ((0:Int)<=0/\0<=D.1/\D.1<=a) (A.ad True (A.pure (V.next (IntKind.wrap .i64 (Add.add D.1 (Int.ofNat (if d<=List.length c then d else List.length c))),c++List.take d c++List.drop (Add.add g (List.length (List.take d c))) D.2.1,()))))) else A.bind (A.pure (V.next (D.2.1,()))) λr=>A.pure (V.done r)) (Int.ofNat (if List.length (List.replicate f (0:Int))-0<=List.length D.1 then List.length (List.replicate f (0:Int))-0 else List.length D.1),[]++e++List.drop (Add.add 0 (List.length e)) (List.replicate f (0:Int)),())) (V.bE (λ(D:z1'×Unit)=>A.pure D.1))))))))
def V8(Om:Option dw×z1'->A (z3'×Bool))(On:Option dw×z3'->A Int)(x:Option dw×z1'):A Bool:=
 A.bind (Om x) λy=>A.bind (cu y.2 (On (x.1,y.1)) 0) λb4=>A.pure (y.2&&decide (b4=0))
def V9(Em:Int->A Bool)(Ox:z1'×(Int->A Bool)->A Bool)(akl:List dy×(Int×Int×Int×Int×z1'->A Bool)->A Bool)(akm:List dM×(z1'×(Int×Int)×Int×Int×Int->A Bool)->A Bool)(akn:z3'×(Int×Int×Int->A Bool)->A Bool)(ako:(Int×Int×Int×Int×z1')×Option bA->A Bool)(akp:(Int×Int×Int)×Option bA->A Bool)(akq:z1'×(Int×Int)×Int×Int×Int->A Bool)(akr:Int->A Bool)(x:bJ):A Bool:=
 letI e:=x.2.2.2;letI b:=decide (Int.ofNat (List.length x.2.1)=Int.ofNat (List.length x.1.1));A.bind (cu b (Ox (x.2.1,akr)) false) λy=>letI d:=b&&!y&&decide (Int.ofNat (List.length x.2.2.1)<=8);A.bind (cu d (akl (x.2.2.1,λhB=>ako (hB,some x.1))) false) λb4=>letI a:=d&&!b4&&decide (Int.ofNat (List.length e.1)<=6);A.bind (cu a (akm (e.1,akq)) false) λdL=>letI c:=a&&!dL&&decide (Int.ofNat (List.length e.2.1)<=8);A.bind (cu c (akn (e.2.1,λhB=>akp (hB,some x.1))) false) λgb=>A.bind (cu (c&&!gb) (Em e.2.2) false) λkM=>A.pure (c&&!gb&&kM)
def aks(x:Int×Int×Int):A Bool:=
 A.pure (decide (x.2.1<=x.1)&&decide (x.1<=x.2.2))
def V_(oh:Int×Int×Int->A Bool)(If:z1'×Int->A Bool)(x:bJ×Int×Int×Int×Int×z1'):A Bool:=
 letI c:=x.2.2.2.2;letI b:=Int.ofNat (List.length x.1.1.2.1);letI a:=(c.2,IntKind.wrap .i64 (Int.ofNat (List.length (List.getD x.1.1.2.1 (Int.toNat c.1) []))-1));A.bind (oh (x.2.1,0,99)) λy=>A.bind (cu (!(!y)) (oh (x.2.2.1,0,99)) false) λb4=>A.bind (cu (!(!y||!b4)) (oh (x.2.2.2.1,0,99)) false) λdL=>A.bind (cu (!(!y||!b4||!dL)) (oh (c.1,0,IntKind.wrap .i64 (b-1))) false) λgb=>if (!y||!b4||!dL||!gb)=true then A.pure false else A.ad (0<=c.1/\c.1<b) (A.ad (If a).b2 (A.pure (A.val (If a) false)))
def V'(oh:Int×Int×Int->A Bool)(If:z1'×Int->A Bool)(x:z1'×(Int×Int)×Int×Int×Int):A Bool:=
 A.bind (oh (Int.ofNat (List.length x.1),1,8)) λy=>A.bind (cu y (If (x.1,99)) false) λb4=>letI a:=y&&b4&&decide (0<=x.2.1.1)&&decide (x.2.1.1<=x.2.1.2)&&decide (x.2.1.2<=99);A.bind (cu a (oh (x.2.2.1,0,99)) false) λdL=>A.bind (cu (a&&dL) (oh (x.2.2.2.1,0,99)) false) λgb=>A.bind (cu (a&&dL&&gb) (oh (x.2.2.2.2,0,100000)) false) λkM=>A.pure (a&&dL&&gb&&kM)
def Wa(kL:Int×Int×Int->A Bool)(x:bJ×Int):A Bool:=
 A.bind (kL (x.2,0,IntKind.wrap .i64 (Int.ofNat (List.length x.1.2.2.1)-1))) λy=>A.pure y
def Wb(kL:Int×Int×Int->A Bool)(hN:z1'×Int->A Bool)(x:(z1'×(Int×Int)×Int×Int×Int)×Int×Int×Int×Int×z1'):A Int:=
 A.bind (hN (x.1.1,x.2.1)) λy=>A.bind (cu (!(!y)) (kL (x.2.2.1,x.1.2.1)) false) λb4=>if (!y||!b4)=true then A.pure 0 else if decide (x.2.2.2.1=x.1.2.2.1)=true then A.pure 1 else if decide (x.2.2.2.1=0)=true then A.pure 2 else A.pure 0
def Oy(akt:z1'×Int->A (z1'))(AW:Option dw×z1'->A Bool)(l7:Option dw×z1'->A Int)(aku:Option dw->Prop)(akv:Option dw->List (z1'))(x:Option dw):A (z1'):=
 A.ad (Option.isSome x=true) (A.bind (akt ([-1],Int.ofNat (List.length (Option.getD x ((([],[],0,[]),[],[],[],[],0),[],[])).1.2.2.2.1))) (λy=>A.ad (aku x) (A.bind (jR (λ(D:Option ((bA×z1'×List dy×List (z1'×(Int×Int)×Int×Int×Int)×z3'×Int)×z4'×z5')×z1'×Unit) (y:z1')=>letI b:=(D.1,y);letI a:=(D.1,D.2.1);A.bind (A.ad (l7 b).b2 (A.ad (l7 a).b2 (A.ad (decide (A.val (l7 b) 0 > A.val (l7 a) 0)=true->(decide (A.val (l7 b) 0 > A.val (l7 a) 0)=true/\decide (A.val (l7 b) 0 > A.val (l7 a) 0)=true/\True)/\(AW b).b2/\True) (A.ad (True/\(decide (A.val (l7 b) 0 > A.val (l7 a) 0)=true->decide (A.val (l7 b) 0 > A.val (l7 a) 0)=true)) (if (decide (A.val (l7 b) 0 > A.val (l7 a) 0)&&A.val (AW b) false)=true then A.pure (dj.normal,D.1,y,()) else A.pure (dj.normal,D.1,D.2.1,())))))) λp=>A.pure (p.1,p.2.1,p.2.2.1,())) (akv x) (x,y,())) (λp=>sM (A.pure p.2.2.1) (λid=>if id=0 then A.pure p.2.2.1 else A.fail) A.fail p.1))))
def Wc(akw:bJ×Int->A Bool)(hN:z1'×Int->A Bool)(x:bJ×z1'):A Bool:=
 A.bind (A.loop (λ(D:z1'×z1'×Int×Int×(bA×z1'×List dy×List (z1'×(Int×Int)×Int×Int×Int)×z3'×Int)×Unit)=>letI e:=D.2.2;letI b:=e.2.1;letI c:=Int.toNat b;letI f:=List.getD D.2.1 c 0;letI a:=decide (List.getD D.2.1 c (0:Int)≠-1);if decide (b<e.1)=true then A.ad (0<=b/\b<Int.ofNat (List.length D.2.1)) (A.bind (cu a (akw (e.2.2.1,f)) false) (λy=>letI d:=(a&&!(!y))=true;A.ad (d->(d/\True/\d)/\((0:Int)<=0/\0<=b/\b<=Int.ofNat (List.length D.1))/\True) (A.bind (cu (a&&!(!y)) (hN (List.take c D.1,f)) false) (λb4=>if (a&&(!y||b4))=true then A.bind (A.bind (A.pure false) (λr=>A.pure (V.done r))) λr=>A.pure (V.done r) else A.pure (V.next (D.1,D.2.1,e.1,IntKind.wrap .i64 (Add.add b 1),e.2.2.1,())))))) else A.bind (A.pure (V.next (D.1,e.2.2.1,()))) λr=>A.pure (V.done r)) (x.2,x.2,Int.ofNat (List.length x.2),0,x.1,())) (V.bE (λ(D:z1'×(bA×z1'×List dy×List dM×z3'×Int)×Unit)=>A.pure (decide (Int.ofNat (List.length D.1)=Int.ofNat (List.length D.2.1.2.2.2.1)))))
def Oz(x:Option dw×z1'):A Int:=
 A.bind (A.loop (λ(D:Option ((bA×z1'×List dy×List dM×z3'×Int)×z4'×z5')×Int×z1'×Int×Int×Unit)=>letI c:=D.2.2;letI b:=(Option.getD D.1 ((([],[],0,[]),[],[],[],[],0),[],[])).1.2.2.2.1;letI a:=c.2.2.1;if decide (a<c.2.1)=true then A.bind (A.ad (0<=a/\a<Int.ofNat (List.length c.1)) (if decide (List.getD c.1 (Int.toNat a) (0:Int)≠-1)=true then A.ad (Option.isSome D.1=true) (A.ad (0<=a/\a<Int.ofNat (List.length b)) (A.pure (V.next (D.1,IntKind.wrap .i64 (Add.add D.2.1 (List.getD b (Int.toNat a) ([],(0,0),0,0,0)).2.2.2.2),c.1,c.2.1,a,())))) else A.pure (V.next (D.1,D.2.1,c.1,c.2.1,a,())))) (V.bE (λ(D:Option ((bA×z1'×List (Int×Int×Int×Int×z1')×List dM×z3'×Int)×z4'×z5')×Int×z1'×Int×Int×Unit)=>A.pure (V.next (D.1,D.2.1,D.2.2.1,D.2.2.2.1,IntKind.wrap .i64 (Add.add D.2.2.2.2.1 1),())))) else A.bind (A.pure (V.next (D.2.1,()))) λr=>A.pure (V.done r)) (x.1,0,x.2,Int.ofNat (List.length x.2),0,())) (V.bE (λ(D:Int×Unit)=>A.pure D.1))
def akx(yn:Int×Int->A (Int×Int))(x:z4'×Int):A (z4'):=
 A.bind (if decide (x.2<0)=true then A.ad False (A.ad False (A.pure (V.next (x.1,x.2,())))) else A.pure (V.next (x.1,x.2,()))) (V.bE (λ(D:z4'×Int×Unit)=>A.bind (yn (IntKind.wrap .u64 (Int.ofNat (List.length D.1)),IntKind.wrap .u64 D.2.1)) λy=>A.bind (if (decide (y.1 > 0)||decide (y.2 > 9223372036854775807))=true then A.ad False (A.ad False (A.pure (V.next (D.1,y.2,())))) else A.pure (V.next (D.1,y.2,()))) (V.bE (λ(D:z4'×Int×Unit)=>letI b:=IntKind.wrap .i64 D.2.1;letI f:=Int.toNat b;letI d:=List.take (List.length (List.replicate f ((0:Int),(0:Int)))-0) D.1;A.ad (0<=b/\b=b/\b_ f) (A.ad True (A.bind (A.loop (λ(D:Int×z4'×Unit)=>letI g:=Int.toNat D.1;letI c:=List.take g D.2.1;letI a:=Int.ofNat (List.length D.2.1);letI e:=Int.toNat a-g;if decide (D.1<a)=true then A.ad (0<=D.1/\D.1<=a/\a<=a) (A.ad ((0:Int)<=0/\0<=D.1/\D.1<=a) (A.ad True (A.pure (V.next (IntKind.wrap .i64 (Add.add D.1 (Int.ofNat (if e<=List.length c then e else List.length c))),c++List.take e c++List.drop (Add.add g (List.length (List.take e c))) D.2.1,()))))) else A.bind (A.pure (V.next (D.2.1,()))) λr=>A.pure (V.done r)) (Int.ofNat (if List.length (List.replicate f ((0:Int),(0:Int)))-0<=List.length D.1 then List.length (List.replicate f ((0:Int),(0:Int)))-0 else List.length D.1),[]++d++List.drop (Add.add 0 (List.length d)) (List.replicate f ((0:Int),(0:Int))),())) (V.bE (λ(D:z4'×Unit)=>A.pure D.1))))))))
def Wd(x:Option dw×(Int×Int)×Int×Int×Int):A Bool:=
 letI c:=decide (x.2.1.2<=x.2.2.2.2);letI a:=c=true;letI b:=a->a/\True/\True;A.ad (a->a/\Option.isSome x.1=true/\True) (A.ad b (A.ad b (A.ad b (A.ad b (A.ad b (A.ad (a->(a/\a/\a/\True)/\True/\True) (A.ad (a->(a/\a)/\True/\True) (A.ad (a->(a/\True)/\True/\True) (A.ad (True/\(a->a)) (A.pure (c&&decide (Option.getD (Option.map (λx=>x.2) (List.find? (λp=>decide (x.2.1.1=p.1.1)&&(decide (x.2.2.1=p.1.2.1)&&decide (x.2.2.2.1=p.1.2.2))) (Option.getD x.1 ((([],[],0,[]),[],[],[],[],0),[],[])).2.2)) (0:Int) > 0))))))))))))
def aky(x:Int×Int×Int):A Bool:=
 A.pure (decide (x.2.1<=x.1)&&decide (x.1<=x.2.2))
def We(kL:Int×Int×Int->A Bool)(v':Int->A Bool)(OA:z1'×(Int->A Bool)->A Bool)(akz:Int×Option bA×Option (Int×Int×Int×Int×z1')->A Bool)(x:(Int×Int×Int×Int×z1')×Option bA):A Bool:=
 letI b:=Option.getD x.2 ([],[],0,[]);A.bind (v' x.1.1) λy=>A.bind (cu (!(!y)) (v' x.1.2.1) false) λb4=>A.bind (cu (!(!y||!b4)) (v' x.1.2.2.1) false) λdL=>letI a:=!y||!b4||!dL;A.bind (cu (!a) (kL (x.1.2.2.2.1,0,IntKind.wrap .i64 (Int.ofNat (List.length b.2.1)-1))) false) λgb=>A.bind (cu (!(a||!gb)) (OA (x.1.2.2.2.2,λhB=>akz (hB,some b,some x.1))) false) λkM=>A.pure (a||!gb||!kM)
def Wf(kL:Int×Int×Int->A Bool)(x:Int):A Bool:=
 A.bind (kL (x,0,99)) λy=>A.pure y
def Wg(x:z1'×(Int->A Bool)):A Bool:=
 A.bind (A.loop (λ(D:z1'×(Int->A Bool)×z1'×Int×Int×Unit)=>letI e:=D.2.2;letI a:=e.2.2.1;letI d:=List.getD e.1 (Int.toNat a) 0;letI c:=IntKind.wrap .i64 (a-1);if decide (a<e.2.1)=true then A.ad (0<=a/\a<Int.ofNat (List.length e.1)) (A.bind (D.2.1 d) (λy=>letI b:=(!(!y)&&decide (a > 0))=true;A.ad (b->(b/\b)/\(0<=c/\c<Int.ofNat (List.length D.1))/\True) (if (!y||decide (a > 0)&&decide (d<=List.getD D.1 (Int.toNat c) 0))=true then A.bind (A.bind (A.pure false) (λr=>A.pure (V.done r))) λr=>A.pure (V.done r) else A.pure (V.next (D.1,D.2.1,e.1,e.2.1,IntKind.wrap .i64 (Add.add a 1),()))))) else A.bind (A.pure (V.next ())) λr=>A.pure (V.done r)) (x.1,x.2,x.1,Int.ofNat (List.length x.1),0,())) (V.bE (λ(D:Unit)=>A.pure true))
def Wh(kL:Int×Int×Int->A Bool)(x:Int×Option bA×Option (Int×Int×Int×Int×z1')):A Bool:=
 letI b:=(Option.getD x.2.1 ([],[],0,[])).2.1;letI a:=(Option.getD x.2.2 (0,0,0,0,[])).2.2.2.1;A.ad (0<=a/\a<Int.ofNat (List.length b)) (A.bind (kL (x.1,0,IntKind.wrap .i64 (Int.ofNat (List.length (List.getD b (Int.toNat a) []))-1))) (λy=>A.pure y))
def Wi(kL:Int×Int×Int->A Bool)(v':Int->A Bool)(OA:z1'×(Int->A Bool)->A Bool)(Em:Int->A Bool)(x:z1'×(Int×Int)×Int×Int×Int):A Bool:=
 A.bind (kL (Int.ofNat (List.length x.1),1,8)) λy=>A.bind (cu (!(!y)) (OA (x.1,v')) false) λb4=>A.bind (cu (!(!y||!b4)) (v' x.2.1.1) false) λdL=>A.bind (cu (!(!y||!b4||!dL)) (v' x.2.1.2) false) λgb=>letI a:=!y||!b4||!dL||!gb||decide (x.2.1.1 > x.2.1.2);A.bind (cu (!a) (v' x.2.2.1) false) λkM=>A.bind (cu (!(a||!kM)) (Em x.2.2.2.1) false) λs7=>A.bind (cu (!(a||!kM||!s7)) (kL (x.2.2.2.2,0,100000)) false) λuK=>A.pure (a||!kM||!s7||!uK)
def Wj(kL:Int×Int×Int->A Bool)(x:Int):A Bool:=
 A.bind (kL (x,0,99)) λy=>A.pure y
def Wk(kL:Int×Int×Int->A Bool)(Em:Int->A Bool)(x:(Int×Int×Int)×Option bA):A Bool:=
 A.bind (Em x.1.1) λy=>A.bind (cu (!(!y)) (kL (x.1.2.1,0,IntKind.wrap .i64 (Int.ofNat (List.length (Option.getD x.2 ([],[],0,[])).1)-1))) false) λb4=>A.bind (cu (!(!y||!b4)) (kL (x.1.2.2,1,10)) false) λdL=>A.pure (!y||!b4||!dL)
def Wl(kL:Int×Int×Int->A Bool)(x:Int):A Bool:=
 A.bind (kL (x,0,10)) λy=>A.pure (!y)
def Wm(x:z1'×Int):A Bool:=
 A.bind (A.loop (λ(D:z1'×Int×Int×Unit)=>letI e:=D.2.2.1;letI j:=decide (e > 0);letI i:=List.getD D.1 (Int.toNat e) 0;letI h:=IntKind.wrap .i64 (e-1);letI d:=Int.ofNat (List.length D.1);letI k:=0<=e/\e<d;letI b:=decide (List.getD D.1 (Int.toNat e) (0:Int)<0);letI f:=(!b)=true;letI a:=b||decide (i > D.2.1);letI g:=(!a)=true;letI c:=(!a&&j)=true;letI l:=c->c/\True/\True;if decide (e<d)=true then A.ad k (A.ad (f->(f/\f)/\k/\True) (A.ad (f->f/\True/\True) (A.ad (f->(f/\f)/\True/\True) (A.ad (True/\(b=false->f)) (A.ad (g->(g/\True)/\True/\True) (A.ad (g->True/\True/\g) (A.ad (c->(c/\c)/\k/\True) (A.ad l (A.ad (c->(c/\True)/\True/\True) (A.ad (c->(c/\c)/\(0<=h/\h<d)/\True) (A.ad l (A.ad (c->(c/\c)/\True/\True) (A.ad (g->(g/\(j=true->c))/\True/\True) (A.ad (True/\(a=false->g)) (if (a||j&&decide (i<=List.getD D.1 (Int.toNat h) 0))=true then A.bind (A.bind (A.pure false) (λr=>A.pure (V.done r))) λr=>A.pure (V.done r) else A.pure (V.next (D.1,D.2.1,IntKind.wrap .i64 (Add.add e 1),()))))))))))))))))) else A.bind (A.pure (V.next ())) λr=>A.pure (V.done r)) (x.1,x.2,0,())) (V.bE (λ(D:Unit)=>A.pure true))
def Ig(yo:Option dw×z1'×Int×Nat×(Nat×(List (z1')->Prop)×List (z1')×Bool)×Unit->A (Bool×(Nat×(List (z1')->Prop)×List (z1')×Bool)×Unit))(x:Option dw×Nat×(Nat×(List (z1')->Prop)×List (z1')×Bool)×Unit):A ((Nat×(List (z1')->Prop)×List (z1')×Bool)×Unit):=
 A.bind (yo (x.1,[],1,x.2.1,x.2.2.1,())) λy=>A.pure (y.2.1,())
def Ih(yo:Option dw×z1'×Int×Nat×(Nat×(List (z1')->Prop)×List (z1')×Bool)×Unit->A (Bool×(Nat×(List (z1')->Prop)×List (z1')×Bool)×Unit))(x:Option dw×Nat×(Nat×(List (z1')->Prop)×List (z1')×Bool)×Unit):A ((Nat×(List (z1')->Prop)×List (z1')×Bool)×Unit):=
 A.bind (yo (x.1,[],0,x.2.1,x.2.2.1,())) λy=>A.pure (y.2.1,())
def OB(Ie:Option dw×(Int×Int)×Int×Int×Int->A Bool)(Ow:Option dw×z3'×Int×z4'×z1'×Unit->A (Bool×z4'×z1'×Unit))(x:Option dw×z3'×Int×z4'×z1'×Unit):A (Bool×z4'×z1'×Unit):=
 letI k:=(Option.getD x.1 ((([],[],0,[]),[],[],[],[],0),[],[])).2.1;A.bind (A.ad (Option.isSome x.1=true) (A.loop (λ(D:Option ((bA×z1'×List dy×List (z1'×(Int×Int)×Int×Int×Int)×z3'×Int)×z4'×z5')×z3'×Int×z4'×Int×Int×z4'×z1'×Unit)=>letI o:=D.2.1;letI i:=D.2.2;letI c:=i.2.2.2;letI m:=c.2.2.1;letI l:=Int.toNat c.1;letI j:=Option.map (λx=>x.2) (List.find? (λp=>decide (c.1=p.1)) c.2.1);letI g:=0<=c.1/\c.1<Int.ofNat (List.length m);letI f:=(D.1,List.getD i.2.1 l (0,0),List.getD o (Int.toNat i.1) (0,0,0));letI d:=fa c.2.1 c.1 (IntKind.wrap .i64 (Add.add (Option.getD j 0) 1));letI b:=decide (List.getD m l (0:Int)=-1);letI h:=(!b)=true;letI a:=decide (Option.getD j (0:Int) > 0);letI e:=(!a)=true;letI q:=e->e/\True/\True;if decide (c.1<i.2.2.1)=true then A.bind (A.ad (0<=c.1/\c.1<Int.ofNat (List.length i.2.1)) (A.ad (e->(e/\e)/\(0<=i.1/\i.1<Int.ofNat (List.length o))/\True) (A.ad q (A.ad (e->(e/\e/\e/\True)/\(Ie f).b2/\True) (A.ad q (A.ad (True/\(a=false->e)) (if (a||!(A.val (Ie f) false))=true then A.pure (V.next (D.1,o,i.1,i.2.1,i.2.2.1,c.1,c.2.1,m,())) else A.ad g (A.ad (h->(h/\h)/\g/\True) (if h then A.ad (h/\h/\h/\h/\h/\True) (A.bind (Ow (D.1,o,List.getD m l 0,d,m,())) (λy=>if (b||y.1)=true then A.ad (0<=c.1/\c.1<Int.ofNat (List.length y.2.2.1)) (A.bind (A.bind (A.bind (A.pure (true,y.2.1,List.set y.2.2.1 l i.1,())) (λr=>A.pure (V.done r))) (λr=>A.pure (V.done r))) (λr=>A.pure (V.done r))) else A.pure (V.next (D.1,o,i.1,i.2.1,i.2.2.1,c.1,y.2.1,y.2.2.1,())))) else A.ad (True/\(b=false->false=true)) (if (b||false)=true then A.ad g (A.bind (A.bind (A.bind (A.pure (true,d,List.set m l i.1,())) (λr=>A.pure (V.done r))) (λr=>A.pure (V.done r))) (λr=>A.pure (V.done r))) else A.pure (V.next (D.1,o,i.1,i.2.1,i.2.2.1,c.1,d,m,())))))))))))) (V.bE (λ(D:Option ((bA×z1'×List dy×List dM×z3'×Int)×z4'×z5')×z3'×Int×z4'×Int×Int×z4'×z1'×Unit)=>letI n:=D.2.2.2;A.pure (V.next (D.1,D.2.1,D.2.2.1,n.1,n.2.1,IntKind.wrap .i64 (Add.add n.2.2.1 1),n.2.2.2.1,n.2.2.2.2.1,())))) else A.bind (A.pure (V.next (c.2.1,m,()))) λr=>A.pure (V.done r)) (x.1,x.2.1,x.2.2.1,k,Int.ofNat (List.length k),0,x.2.2.2.1,x.2.2.2.2.1,()))) (V.bE (λ(D:z4'×z1'×Unit)=>A.pure (false,D.1,D.2.1,())))
def OC(Ic:(z1'×(Int×Int)×Int×Int×Int)×Int×Int×Int×Int×z1'->A Int)(yo:Option dw×z1'×Int×Nat×(Nat×(List (z1')->Prop)×List (z1')×Bool)×Unit->A (Bool×(Nat×(List (z1')->Prop)×List (z1')×Bool)×Unit))(hN:z1'×Int->A Bool)(x:Option dw×z1'×Int×Nat×(Nat×(List (z1')->Prop)×List (z1')×Bool)×Unit):A (Bool×(Nat×(List (z1')->Prop)×List (z1')×Bool)×Unit):=
 letI p:=Option.isSome x.1=true;letI o:=Int.ofNat (List.length x.2.1);letI i:=x.2.2.2.2.1;letI e:=(Option.getD x.1 ((([],[],0,[]),[],[],[],[],0),[],[])).1.2.2;A.ad p (if decide (o=Int.ofNat (List.length e.2.1))=true then A.bind (A.ad (x.2.2.2.1=i.1/\i.2.2.2=false/\(∃ (T:List (z1')),i.2.1 (i.2.2.1++x.2.1::T))) (A.any (λx=>True))) λy=>A.pure (y,(i.1,i.2.1,i.2.2.1++[x.2.1],!y),()) else A.bind (A.ad p (A.loop (λ(D:Option dw×z1'×Int×Nat×Int×List dy×Int×Int×(Nat×(List (z1')->Prop)×List (z1')×Bool)×Unit)=>letI q:=D.2.1;letI l:=D.2.2;letI j:=(Option.getD D.1 ((([],[],0,[]),[],[],[],[],0),[],[])).1.2.2.2.1;letI c:=l.2.2;letI m:=List.take (Int.toNat c.1) q;letI k:=c.2.2.2;letI d:=(List.getD j (Int.toNat c.1) ([],(0,0),0,0,0),List.getD c.2.1 (Int.toNat k.1) (0,0,0,0,[]));letI a:=(q,k.1);if decide (k.1<c.2.2.1)=true then A.bind (A.ad (0<=k.1/\k.1<Int.ofNat (List.length c.2.1)) (A.ad (hN a).b2 (A.ad ((!(A.val (hN a) false))=true->(!(A.val (hN a) false))=true/\Option.isSome D.1=true/\True) (A.ad ((!(A.val (hN a) false))=true->(!(A.val (hN a) false))=true/\True/\True) (A.ad ((!(A.val (hN a) false))=true->(!(A.val (hN a) false))=true/\True/\True) (A.ad ((!(A.val (hN a) false))=true->(!(A.val (hN a) false))=true/\True/\True) (A.ad ((!(A.val (hN a) false))=true->((!(A.val (hN a) false))=true/\(!(A.val (hN a) false))=true)/\(0<=c.1/\c.1<Int.ofNat (List.length j))/\True) (A.ad ((!(A.val (hN a) false))=true->(!(A.val (hN a) false))=true/\True/\True) (A.ad ((!(A.val (hN a) false))=true->((!(A.val (hN a) false))=true/\(!(A.val (hN a) false))=true/\True)/\(Ic d).b2/\True) (A.ad ((!(A.val (hN a) false))=true->((!(A.val (hN a) false))=true/\True)/\True/\True) (A.ad (True/\(A.val (hN a) false=false->(!(A.val (hN a) false))=true)) (if (A.val (hN a) false||decide (A.val (Ic d) (0:Int)=0))=true then A.pure (V.next (D.1,q,l.1,l.2.1,c.1,c.2.1,c.2.2.1,k.1,k.2.1,())) else A.ad ((0:Int)<=0/\0<=c.1/\c.1=c.1/\c.1<=Int.ofNat (List.length q)) (A.ad (0<Add.add 0 1/\b_ (Add.add (List.length m) (Add.add 0 1))) (A.bind (yo (D.1,m++[k.1],l.1,l.2.1,k.2.1,())) (λy=>if (!y.1)=true then A.bind (A.bind (A.bind (A.pure (false,y.2.1,())) (λr=>A.pure (V.done r))) (λr=>A.pure (V.done r))) λr=>A.pure (V.done r) else A.pure (V.next (D.1,q,l.1,l.2.1,c.1,c.2.1,c.2.2.1,k.1,y.2.1,()))))))))))))))))) (V.bE (λ(D:Option dw×z1'×Int×Nat×Int×List dy×Int×Int×(Nat×(List (z1')->Prop)×List (z1')×Bool)×Unit)=>letI n:=D.2.2.2.2;A.pure (V.next (D.1,D.2.1,D.2.2.1,D.2.2.2.1,n.1,n.2.1,n.2.2.1,IntKind.wrap .i64 (Add.add n.2.2.2.1 1),n.2.2.2.2.1,())))) else A.bind (A.pure (V.next (D.1,q,l.1,l.2.1,c.1,k.2.1,()))) λr=>A.pure (V.done r)) (x.1,x.2.1,x.2.2.1,x.2.2.2.1,o,e.1,Int.ofNat (List.length e.1),0,i,()))) (V.bE (λ(D:Option dw×z1'×Int×Nat×Int×(Nat×(List (z1')->Prop)×List (z1')×Bool)×Unit)=>letI s:=D.2.2;letI h:=s.2.2;letI g:=List.take (Int.toNat h.1) D.2.1;letI f:=decide (s.1=0);letI b:=(!f)=true;A.ad (b->(b/\True/\b/\b)/\((0:Int)<=0/\0<=h.1/\h.1=h.1/\h.1<=Int.ofNat (List.length D.2.1))/\True) (if b then A.ad (b/\b) (A.ad (0<Add.add 0 1/\b_ (Add.add (List.length g) (Add.add 0 1))) (if b then A.ad (b/\b/\b/\True) (A.bind (yo (D.1,g++[-1],s.1,s.2.1,h.2.1,())) (λy=>A.pure (f||y.1,y.2.1,()))) else A.ad (True/\(f=false->false=true)) (A.pure (f||false,h.2.1,())))) else if b then A.ad (b/\false=true/\b/\b/\True) (A.bind (yo (D.1,g++[-1],s.1,s.2.1,h.2.1,())) (λy=>A.pure (f||y.1,y.2.1,()))) else A.ad (True/\(f=false->false=true)) (A.pure (f||false,h.2.1,()))))))
def akA(yn:Int×Int->A (Int×Int))(x:z1'×Int×Unit):A (z1'×Unit):=
 A.bind (if decide (x.2.1<0)=true then A.ad False (A.ad False (A.pure (V.next (x.1,x.2.1,())))) else A.pure (V.next (x.1,x.2.1,()))) (V.bE (λ(D:z1'×Int×Unit)=>A.bind (yn (IntKind.wrap .u64 (Int.ofNat (List.length D.1)),IntKind.wrap .u64 D.2.1)) λy=>A.bind (if (decide (y.1 > 0)||decide (y.2 > 9223372036854775807))=true then A.ad False (A.ad False (A.pure (V.next (D.1,y.2,())))) else A.pure (V.next (D.1,y.2,()))) (V.bE (λ(D:z1'×Int×Unit)=>letI b:=IntKind.wrap .i64 D.2.1;letI f:=Int.toNat b;letI e:=List.take (List.length (List.replicate f (0:Int))-0) D.1;A.ad (0<=b/\b=b/\b_ f) (A.ad True (A.bind (A.loop (λ(D:Int×z1'×Unit)=>letI g:=Int.toNat D.1;letI c:=List.take g D.2.1;letI a:=Int.ofNat (List.length D.2.1);letI d:=Int.toNat a-g;if decide (D.1<a)=true then A.ad (0<=D.1/\D.1<=a/\a<=a) (A.ad ((0:Int)<=0/\0<=D.1/\D.1<=a) (A.ad True (A.pure (V.next (IntKind.wrap .i64 (Add.add D.1 (Int.ofNat (if d<=List.length c then d else List.length c))),c++List.take d c++List.drop (Add.add g (List.length (List.take d c))) D.2.1,()))))) else A.bind (A.pure (V.next (D.2.1,()))) λr=>A.pure (V.done r)) (Int.ofNat (if List.length (List.replicate f (0:Int))-0<=List.length D.1 then List.length (List.replicate f (0:Int))-0 else List.length D.1),[]++e++List.drop (Add.add 0 (List.length e)) (List.replicate f (0:Int)),())) (V.bE (λ(D:z1'×Unit)=>A.pure (D.1,())))))))))
end Go.Fer
namespace Go.Fer.H
open A (V)
set_option maxRecDepth 100000
abbrev a8:Type:=Int×Int×Int×Int×Int×Int
abbrev p0:Type:=Int×Int×Int×Int×Int×Int×Int
abbrev a6:Type:=z4'×List a8×z1'×z4'×p0
abbrev bx:Type:=a8×Int
abbrev dP:Type:=z1'×List (List bx)
abbrev d_:Type:=a6×List a8×List (Option dP)
abbrev hq:Type:=z4'×List a8×z1'×z4'×Int×Int×Int×Int×Int×Int×Int×List a8×List (Option dP)×Unit
abbrev fa(l:z4')(a b:Int):z4':=lP (k:=.int .i64) (v:=.int .i64) l a b
abbrev hr:ab:=.st (.aA (.int .i64) (.aA (.int .i64) (.aA (.int .i64) (.aA (.int .i64) (.aA (.int .i64) (.int .i64))))))
abbrev k3(l:List (Int×a8))(a:Int)(b:a8):List (Int×a8):=lP (k:=.int .i64) (v:=hr) l a b
abbrev akB:List UInt8:=0::1::(List.replicate 2 2++(List.replicate 4 3++(List.replicate 8 4++(List.replicate 16 5++(List.replicate 32 6++(List.replicate 64 7++List.replicate 128 8))))))
abbrev _root_.Prod.cZ{fK fL fM fN fO fC fD:Type}(x:fK×fL×fM×fN×fO×fC×fD):fC:=x.2.2.2.2.2.1
abbrev _root_.Prod.fb{fK fL fM fN fO fC fD fW:Type}(x:fK×fL×fM×fN×fO×fC×fD×fW):fD:=x.2.2.2.2.2.2.1
abbrev _root_.Prod.gx{fK fL fM fN fO fC fD fW gy:Type}(x:fK×fL×fM×fN×fO×fC×fD×fW×gy):fW:=x.2.2.2.2.2.2.2.1
abbrev _root_.Prod.h1{fK fL fM fN fO fC fD fW gy gS:Type}(x:fK×fL×fM×fN×fO×fC×fD×fW×gy×gS):gy:=x.2.2.2.2.2.2.2.2.1
abbrev _root_.Prod.jW{fK fL fM fN fO fC fD fW gy gS hs:Type}(x:fK×fL×fM×fN×fO×fC×fD×fW×gy×gS×hs):gS:=x.2.2.2.2.2.2.2.2.2.1
abbrev _root_.Prod.k4{fK fL fM fN fO fC fD fW gy gS hs hO:Type}(x:fK×fL×fM×fN×fO×fC×fD×fW×gy×gS×hs×hO):hs:=x.2.2.2.2.2.2.2.2.2.2.1
abbrev _root_.Prod.hP{fK fL fM fN fO fC fD fW gy gS hs hO ih:Type}(x:fK×fL×fM×fN×fO×fC×fD×fW×gy×gS×hs×hO×ih):hO:=x.2.2.2.2.2.2.2.2.2.2.2.1
abbrev _root_.Prod.nm{fK fL fM fN fO fC fD fW gy gS hs hO ih iR:Type}(x:fK×fL×fM×fN×fO×fC×fD×fW×gy×gS×hs×hO×ih×iR):ih:=x.2.2.2.2.2.2.2.2.2.2.2.2.1
abbrev _root_.Prod.p1{fK fL fM fN fO fC fD fW gy gS hs hO ih iR jw:Type}(x:fK×fL×fM×fN×fO×fC×fD×fW×gy×gS×hs×hO×ih×iR×jw):iR:=x.2.2.2.2.2.2.2.2.2.2.2.2.2.1
abbrev _root_.Prod.s8{fK fL fM fN fO fC fD fW gy gS hs hO ih iR jw kp:Type}(x:fK×fL×fM×fN×fO×fC×fD×fW×gy×gS×hs×hO×ih×iR×jw×kp):jw:=x.2.2.2.2.2.2.2.2.2.2.2.2.2.2.1
abbrev _root_.Prod.yp{fK fL fM fN fO fC fD fW gy gS hs hO ih iR jw kp k5:Type}(x:fK×fL×fM×fN×fO×fC×fD×fW×gy×gS×hs×hO×ih×iR×jw×kp×k5):kp:=x.2.2.2.2.2.2.2.2.2.2.2.2.2.2.2.1
abbrev _root_.Prod.OD{fK fL fM fN fO fC fD fW gy gS hs hO ih iR jw kp k5 l8:Type}(x:fK×fL×fM×fN×fO×fC×fD×fW×gy×gS×hs×hO×ih×iR×jw×kp×k5×l8):k5:=x.2.2.2.2.2.2.2.2.2.2.2.2.2.2.2.2.1
abbrev _root_.Prod.OE{fK fL fM fN fO fC fD fW gy gS hs hO ih iR jw kp k5 l8 nn:Type}(x:fK×fL×fM×fN×fO×fC×fD×fW×gy×gS×hs×hO×ih×iR×jw×kp×k5×l8×nn):l8:=x.2.2.2.2.2.2.2.2.2.2.2.2.2.2.2.2.2.1
abbrev _root_.Prod.OF{fK fL fM fN fO fC fD fW gy gS hs hO ih iR jw kp k5 l8 nn o7:Type}(x:fK×fL×fM×fN×fO×fC×fD×fW×gy×gS×hs×hO×ih×iR×jw×kp×k5×l8×nn×o7):nn:=x.2.2.2.2.2.2.2.2.2.2.2.2.2.2.2.2.2.2.1
abbrev _root_.Prod.OG{fK fL fM fN fO fC fD fW gy gS hs hO ih iR jw kp k5 l8 nn o7 qW:Type}(x:fK×fL×fM×fN×fO×fC×fD×fW×gy×gS×hs×hO×ih×iR×jw×kp×k5×l8×nn×o7×qW):o7:=x.2.2.2.2.2.2.2.2.2.2.2.2.2.2.2.2.2.2.2.1
abbrev _root_.Prod.OH{fK fL fM fN fO fC fD fW gy gS hs hO ih iR jw kp k5 l8 nn o7 qW s9:Type}(x:fK×fL×fM×fN×fO×fC×fD×fW×gy×gS×hs×hO×ih×iR×jw×kp×k5×l8×nn×o7×qW×s9):qW:=x.2.2.2.2.2.2.2.2.2.2.2.2.2.2.2.2.2.2.2.2.1
abbrev _root_.Prod.akC{fK fL fM fN fO fC fD fW gy gS hs hO ih iR jw kp k5 l8 nn o7 qW s9 wa:Type}(x:fK×fL×fM×fN×fO×fC×fD×fW×gy×gS×hs×hO×ih×iR×jw×kp×k5×l8×nn×o7×qW×s9×wa):s9:=x.2.2.2.2.2.2.2.2.2.2.2.2.2.2.2.2.2.2.2.2.2.1
abbrev _root_.Prod.akD{fK fL fM fN fO fC fD fW gy gS hs hO ih iR jw kp k5 l8 nn o7 qW s9 wa AZ:Type}(x:fK×fL×fM×fN×fO×fC×fD×fW×gy×gS×hs×hO×ih×iR×jw×kp×k5×l8×nn×o7×qW×s9×wa×AZ):wa:=x.2.2.2.2.2.2.2.2.2.2.2.2.2.2.2.2.2.2.2.2.2.2.1
abbrev _root_.Prod.r0{fK fL fM fN fO fC fD fW gy gS hs hO ih iR jw kp k5 l8 nn o7 qW s9 wa AZ Ii:Type}(x:fK×fL×fM×fN×fO×fC×fD×fW×gy×gS×hs×hO×ih×iR×jw×kp×k5×l8×nn×o7×qW×s9×wa×AZ×Ii):AZ:=x.2.2.2.2.2.2.2.2.2.2.2.2.2.2.2.2.2.2.2.2.2.2.2.1
abbrev _root_.Prod.En{fK fL fM fN fO fC fD fW gy gS hs hO ih iR jw kp k5 l8 nn o7 qW s9 wa AZ Ii akE:Type}(x:fK×fL×fM×fN×fO×fC×fD×fW×gy×gS×hs×hO×ih×iR×jw×kp×k5×l8×nn×o7×qW×s9×wa×AZ×Ii×akE):Ii:=x.2.2.2.2.2.2.2.2.2.2.2.2.2.2.2.2.2.2.2.2.2.2.2.2.1
def Wn(uL:a6×(Option d_->A Bool)->A (Option d_×Int))(Eo:Option dP×Int×Int->A (bx×Bool))(Ep:(z1'->Prop)->A (z1'))(akF:z4'->A (z1'->Prop))(akG:Option d_×Option Int×Option Int->A Bool)(x:a6×Int×Int):A (z1'×Int):=
 A.bind (uL (x.1,λhB=>akG (hB,some x.2.1,some x.2.2))) λy=>letI a:=(Option.getD y.1 (([],[],[],[],0,0,0,0,0,0,0),[],[])).2.2;if decide (y.2≠0)=true then A.pure ([],y.2) else A.bind (A.ad (Option.isSome y.1=true) (A.loop (λ(D:List (Option dP)×Int×Int×Int×Int×z4'×Unit)=>letI b:=D.2.2;if decide (b.1<D.2.1)=true then A.bind (A.ad (0<=b.1/\b.1<Int.ofNat (List.length D.1)) (A.bind (Eo (List.getD D.1 (Int.toNat b.1) none,b.2.1,b.2.2.1)) (λy=>if y.2=true then A.pure (V.next (D.1,D.2.1,b.1,b.2.1,b.2.2.1,fa D.cZ y.1.1.2.2.2.2.2 (IntKind.wrap .i64 (Add.add (Option.getD (Option.map (λx=>x.2) (List.find? (λp=>decide (y.1.1.2.2.2.2.2=p.1)) D.cZ)) 0) 1)),())) else A.pure (V.next (D.1,D.2.1,b.1,b.2.1,b.2.2.1,fa D.cZ (-1) (IntKind.wrap .i64 (Add.add (Option.getD (Option.map (λx=>x.2) (List.find? (λp=>decide (-1=p.1)) D.cZ)) 0) 1)),()))))) (V.bE (λ(D:List (Option dP)×Int×Int×Int×Int×z4'×Unit)=>A.pure (V.next (D.1,D.2.1,IntKind.wrap .i64 (Add.add D.2.2.1 1),D.2.2.2.1,D.2.2.2.2.1,D.cZ,())))) else A.bind (A.pure (V.next (D.cZ,()))) λr=>A.pure (V.done r)) (a,Int.ofNat (List.length a),0,x.2.1,x.2.2,[],()))) (V.bE (λ(D:z4'×Unit)=>A.bind (akF D.1) λy=>A.bind (Ep y) λy=>A.pure (y,0)))
def Wo(OI:a6×Int×(Int->A Int)->A ((Int×Int)×Int))(akH:Int×Option a6->A Int)(x:a6×Int):A ((Int×Int)×Int):=
 A.bind (OI (x.1,x.2,λhB=>akH (hB,some x.1))) λy=>A.pure y
def Wp(OI:a6×Int×(Int->A Int)->A ((Int×Int)×Int))(akI:Int->A Int)(x:a6×Int):A ((Int×Int)×Int):=
 A.bind (OI (x.1,x.2,akI)) λy=>A.pure y
def Wq(uL:a6×(Option d_->A Bool)->A (Option d_×Int))(Er:Option d_×(Option dP->A (Int×Bool))->A ((Int×Int)×Bool))(akJ:Option d_×Option Int->A Bool)(akK:Option dP×Option Int×Option a6->A (Int×Bool))(x:a6×Int):A ((Int×Int)×Int):=
 A.bind (uL (x.1,λhB=>akJ (hB,some x.2))) λy=>if decide (y.2≠0)=true then A.pure ((0,0),y.2) else A.bind (Er (y.1,λhB=>akK (hB,some x.2,some x.1))) λy=>A.pure (y.1,0)
def Wr(uL:a6×(Option d_->A Bool)->A (Option d_×Int))(Er:Option d_×(Option dP->A (Int×Bool))->A ((Int×Int)×Bool))(akL:Option d_×Option Int->A Bool)(akM:Option dP×Option (Option d_)×Option Int×Option a6->A (Int×Bool))(x:a6×Int):A ((Int×Int)×Int):=
 A.bind (uL (x.1,λhB=>akL (hB,some x.2))) λy=>if decide (y.2≠0)=true then A.pure ((0,0),y.2) else A.bind (Er (y.1,λhB=>akM (hB,some y.1,some x.2,some x.1))) λy=>A.pure (y.1,0)
def Ws(akN:a6->A Bool)(OJ:List a8->A (List a8×Bool))(x:a6):A Int:=
 A.bind (akN x) λy=>if (!y)=true then A.pure 90 else A.bind (OJ x.2.1) λy=>if (!y.2)=true then A.pure 91 else A.pure 0
def Wt(akO:a6->A Bool)(Wu:a8×Int×Int×Int×Int×Int×Int->A Bool)(x:a6):A Int:=
 A.bind (akO x) λy=>if (!y)=true then A.pure 90 else A.bind (A.loop (λ(D:Int×a6×Unit)=>if decide (D.1<Int.ofNat (List.length D.2.1.2.1))=true then A.bind (A.loop (λ(D:Int×Int×a6×Unit)=>letI c:=D.2.2.1;letI b:=Int.ofNat (List.length c.2.1);letI a:=(List.getD c.2.1 (Int.toNat D.2.1) (0,0,0,0,0,0),List.getD c.2.1 (Int.toNat D.1) (0,0,0,0,0,0));if decide (D.2.1<D.1)=true then A.ad (0<=D.2.1/\D.2.1<b) (A.ad (0<=D.1/\D.1<b) (A.ad (Wu a).b2 (if A.val (Wu a) false=true then A.bind (A.bind (A.bind (A.bind (A.pure 91) (λr=>A.pure (V.done r))) (λr=>A.pure (V.done r))) (λr=>A.pure (V.done r))) λr=>A.pure (V.done r) else A.pure (V.next (D.1,IntKind.wrap .i64 (Add.add D.2.1 1),c,()))))) else A.bind (A.pure (V.next (D.1,c,()))) λr=>A.pure (V.done r)) (D.1,0,D.2.1,())) (V.bE (λ(D:Int×a6×Unit)=>A.pure (V.next (IntKind.wrap .i64 (Add.add D.1 1),D.2.1,())))) else A.bind (A.pure (V.next ())) λr=>A.pure (V.done r)) (0,x,())) (V.bE (λ(D:Unit)=>A.pure 0))
def Wv(uL:a6×(Option d_->A Bool)->A (Option d_×Int))(Eo:Option dP×Int×Int->A (bx×Bool))(A0:a6×Int×Int->A Int)(akP:Option d_×Option Int->A Bool)(x:a6×Int):A (z1'×z1'×Int):=
 A.bind (uL (x.1,λhB=>akP (hB,some x.2))) λy=>if decide (y.2≠0)=true then A.pure ([],[],y.2) else A.bind (A.loop (λ(D:Option d_×Int×a6×Int×z1'×z1'×Unit)=>letI b:=(Option.getD D.1 (([],[],[],[],0,0,0,0,0,0,0),[],[])).2.2;if decide (D.2.1<10)=true then A.bind (A.bind (A.ad (Option.isSome D.1=true) (A.loop (λ(D:Option d_×Int×Int×Int×List (Option dP)×Int×Int×a6×Int×z1'×z1'×Unit)=>letI d:=D.2.2.2;if decide (D.fb<D.cZ)=true then A.bind (A.ad (0<=D.fb/\D.fb<Int.ofNat (List.length d.2.1)) (A.bind (Eo (List.getD d.2.1 (Int.toNat D.fb) none,D.2.1,D.h1)) (λy=>letI a:=y.2=true;letI c:=a->a/\True/\True;A.ad c (A.ad (a->(a/\a/\a/\True)/\(A0 (D.gx,y.1.2,D.h1)).b2/\True) (A.ad c (A.ad c (A.ad (a->(a/\a)/\True/\True) (A.ad (True/\(a->a)) (if (y.2&&decide (A.val (A0 (D.gx,y.1.2,D.h1)) 0>=D.gx.h1))=true then A.pure (V.next (D.1,D.2.1,IntKind.wrap .i64 (Add.add D.2.2.1 1),d.1,d.2.1,D.cZ,D.fb,D.gx,D.h1,D.jW,D.k4,())) else A.pure (V.next (D.1,D.2.1,D.2.2.1,d.1,d.2.1,D.cZ,D.fb,D.gx,D.h1,D.jW,D.k4,()))))))))))) (V.bE (λ(D:Option d_×Int×Int×Int×List (Option dP)×Int×Int×a6×Int×z1'×z1'×Unit)=>A.pure (V.next (D.1,D.2.1,D.2.2.1,D.2.2.2.1,D.2.2.2.2.1,D.cZ,IntKind.wrap .i64 (Add.add D.fb 1),D.gx,D.h1,D.jW,D.k4,())))) else A.bind (A.pure (V.next (D.1,D.2.1,D.2.2.1,d.1,D.gx,D.h1,D.jW,D.k4,()))) λr=>A.pure (V.done r)) (D.1,D.2.1,0,D.2.1,b,Int.ofNat (List.length b),0,D.2.2.1,D.2.2.2.1,D.2.2.2.2.1,D.cZ,()))) (V.bE (λ(D:Option d_×Int×Int×Int×a6×Int×z1'×z1'×Unit)=>letI e:=D.2.2;A.bind (if decide (e.1 > 0)=true then A.ad (b_ (Add.add (List.length D.gx) (Add.add 0 1))) (A.pure (V.next (D.1,D.2.1,e.1,e.2.1,e.2.2.1,D.cZ,D.fb,D.gx++[D.2.1],()))) else A.pure (V.next (D.1,D.2.1,e.1,e.2.1,e.2.2.1,D.cZ,D.fb,D.gx,()))) (V.bE (λ(D:Option d_×Int×Int×Int×a6×Int×z1'×z1'×Unit)=>letI f:=D.2.2.2;A.ad (Option.isSome D.1=true) (if decide (D.2.2.1=Int.ofNat (List.length (Option.getD D.1 (([],[],[],[],0,0,0,0,0,0,0),[],[])).2.2))=true then A.ad (b_ (Add.add (List.length D.fb) (Add.add 0 1))) (A.pure (V.next (D.1,f.1,f.2.1,D.cZ,D.fb++[D.2.1],D.gx,()))) else A.pure (V.next (D.1,f.1,f.2.1,D.cZ,D.fb,D.gx,())))))))) (V.bE (λ(D:Option d_×Int×a6×Int×z1'×z1'×Unit)=>A.pure (V.next (D.1,IntKind.wrap .i64 (Add.add D.2.1 1),D.2.2.1,D.2.2.2.1,D.2.2.2.2.1,D.cZ,())))) else A.bind (A.pure (V.next (D.2.2.2.2.1,D.cZ,()))) λr=>A.pure (V.done r)) (y.1,0,x.1,x.2,[],[],())) (V.bE (λ(D:z1'×z1'×Unit)=>A.pure (D.1,D.2.1,0)))
def Ww(A1:a6->A Int)(akQ:List a8×Unit->A (Bool×List a8×Unit))(akR:(Int×Int×Int×Int×Int×Int->A Bool)×List a8×Unit->A ((Nat×Nat)×List a8×Unit))(OK:z1'×hq->A (hq))(akS:a8×Option a6->A Bool)(x:a6×(Option d_->A Bool)):A (Option d_×Int):=
 A.bind (A1 x.1) λy=>if decide (y≠0)=true then A.pure (none,y) else A.bind (akQ (x.1.2.1,())) λy=>A.ad True (A.ad True (A.bind (akR (λhB=>akS (hB,some x.1),y.2.1,())) (λy=>A.ad True (A.bind (A.bind (x.2 (some (x.1,List.drop y.1.1 (List.take y.1.2 y.2.1),[]))) (λb4=>if (!b4)=true then A.bind (A.pure (none,1)) λr=>A.pure (V.done r) else A.pure (V.next (x.1.1,x.1.2.1,x.1.2.2.1,x.1.2.2.2.1,x.1.2.2.2.2.1,x.1.cZ,x.1.fb,x.1.gx,x.1.h1,x.1.jW,x.1.2.2.2.2.2.2.2.2.2.2,y.1,y.2.1,[],())))) (V.bE (λ(D:z4'×List a8×z1'×z4'×Int×Int×Int×Int×Int×Int×Int×(Nat×Nat)×List a8×List (Option dP)×Unit)=>A.bind (OK ([],D.1,D.2.1,D.2.2.1,D.2.2.2.1,D.2.2.2.2.1,D.cZ,D.fb,D.gx,D.h1,D.jW,D.k4,List.drop D.hP.1 (List.take D.hP.2 D.nm),D.p1,())) λy=>A.ad True (if decide (Int.ofNat (List.length y.nm)=0)=true then A.pure (none,3) else A.pure (some ((y.1,y.2.1,y.2.2.1,y.2.2.2.1,y.2.2.2.2.1,y.cZ,y.fb,y.gx,y.h1,y.jW,y.k4),y.hP,y.nm),0))))))))
def Wx(jx:Int×Int×Int->A Bool)(Es:Int->A Bool)(x:Option d_×Option Int×Option Int):A Bool:=
 A.bind (jx (Option.getD x.2.1 0,0,9)) λy=>A.bind (cu y (Es (Option.getD x.2.2 0)) false) λb4=>A.pure (y&&b4)
def akT(x:Int×Int×Int):A Bool:=
 A.pure (decide (x.2.1<=x.1)&&decide (x.1<=x.2.2))
def Wy(jx:Int×Int×Int->A Bool)(x:Int):A Bool:=
 A.bind (jx (x,0,9999)) λy=>A.pure y
def Wz(x:Option dP×Int×Int):A (bx×Bool):=
 letI b:=List.getD (Option.getD x.1 ([],[[],[],[],[],[],[],[],[],[],[]])).2 (Int.toNat x.2.1) [];A.bind (A.ad (Option.isSome x.1=true) (A.ad (0<=x.2.1/\x.2.1<Int.ofNat 10) (A.loop (λ(D:Int×Bool×List bx×Int×Int×bx×bx×Unit)=>letI d:=D.2.2;letI c:=d.2.2.1;letI a:=List.getD d.1 (Int.toNat c) ((0,0,0,0,0,0),0);if decide (c<d.2.1)=true then A.bind (A.ad (0<=c/\c<Int.ofNat (List.length d.1)) (if decide (a.2<=D.1)=true then A.pure (V.next (D.1,decide (a.1.2.2.2.1=1),d.1,d.2.1,c,D.cZ,a,())) else A.pure (V.next (D.1,D.2.1,d.1,d.2.1,c,D.cZ,D.fb,())))) (V.bE (λ(D:Int×Bool×List bx×Int×Int×bx×bx×Unit)=>A.pure (V.next (D.1,D.2.1,D.2.2.1,D.2.2.2.1,IntKind.wrap .i64 (Add.add D.2.2.2.2.1 1),D.cZ,D.fb,())))) else A.bind (A.pure (V.next (D.2.1,D.cZ,D.fb,()))) λr=>A.pure (V.done r)) (x.2.2,false,b,Int.ofNat (List.length b),0,((0,0,0,0,0,0),0),((0,0,0,0,0,0),0),())))) (V.bE (λ(D:Bool×bx×bx×Unit)=>A.pure (D.2.2.1,D.1)))
def WA(OL:z1'×Unit->A (z1'×Unit))(akU:(z1'->Prop)×Unit->A (z1'×Unit))(x:z1'->Prop):A (z1'):=
 A.bind (akU (x,())) λy=>A.bind (OL (y.1,())) λy=>A.pure y.1
def akV(akW:Option (z4')->z1'->Prop)(x:z4'):A (z1'->Prop):=
 A.pure (akW (some x))
def WB(uL:a6×(Option d_->A Bool)->A (Option d_×Int))(Er:Option d_×(Option dP->A (Int×Bool))->A ((Int×Int)×Bool))(akX:Option d_×Option Int->A Bool)(akY:Option dP×Option (Option d_)×Option Int×Option (Int->A Int)->A (Int×Bool))(x:a6×Int×(Int->A Int)):A ((Int×Int)×Int):=
 A.bind (uL (x.1,λhB=>akX (hB,some x.2.1))) λy=>if decide (y.2≠0)=true then A.pure ((0,0),y.2) else A.bind (Er (y.1,λhB=>akY (hB,some y.1,some x.2.1,some x.2.2))) λy=>if (!y.2)=true then A.pure ((0,0),3) else A.pure (y.1,0)
def WC(Ij:p0×Int->A Int)(x:Int×Option a6):A Int:=
 A.bind (Ij ((Option.getD x.2 ([],[],[],[],0,0,0,0,0,0,0)).2.2.2.2,x.1)) λy=>A.pure y
def WD(x:p0×Int):A Int:=
 letI c:=x.1.2;letI b:=IntKind.wrap .i64 (x.2-x.1.1);letI a:=IntKind.wrap .i64 (c.2.1*IntKind.wrap .i64 (Int.tdiv (IntKind.wrap .i64 (IntKind.wrap .i64 (Add.add (if b > 0 then b else 0) c.1)-1)) c.1));if decide (x.2>=c.2.2.2.1)=true then A.pure x.1.cZ else A.ad (c.1≠0) (A.pure (if a<c.2.2.1 then a else c.2.2.1))
def akZ(x:Int):A Int:=
 A.pure x
def WE(Es:Int->A Bool)(x:Option d_×Option Int):A Bool:=
 A.bind (Es (Option.getD x.2 0)) λy=>A.pure y
def WG(x:Option d_×(Option dP->A (Int×Bool))):A ((Int×Int)×Bool):=
 letI b:=(Option.getD x.1 (([],[],[],[],0,0,0,0,0,0,0),[],[])).2.2;A.bind (A.ad (Option.isSome x.1=true) (A.loop (λ(D:(Option dP->A (Int×Bool))×Bool×List (Option dP)×Int×Int×(Int×Int)×Unit)=>letI c:=D.2.2;letI a:=c.2.2.1;if decide (a<c.2.1)=true then A.bind (A.ad (0<=a/\a<Int.ofNat (List.length c.1)) (A.bind (D.1 (List.getD c.1 (Int.toNat a) none)) (λy=>if (!y.2)=true then A.pure (V.next (D.1,D.2.1,c.1,c.2.1,a,D.cZ,())) else if (!D.2.1)=true then A.pure (V.next (D.1,true,c.1,c.2.1,a,(y.1,y.1),())) else A.pure (V.next (D.1,D.2.1,c.1,c.2.1,a,(if y.1<D.cZ.1 then y.1 else D.cZ.1,if y.1 > D.cZ.2 then y.1 else D.cZ.2),()))))) (V.bE (λ(D:(Option dP->A (Int×Bool))×Bool×List (Option dP)×Int×Int×(Int×Int)×Unit)=>A.pure (V.next (D.1,D.2.1,D.2.2.1,D.2.2.2.1,IntKind.wrap .i64 (Add.add D.2.2.2.2.1 1),D.cZ,())))) else A.bind (A.pure (V.next (D.2.1,D.cZ,()))) λr=>A.pure (V.done r)) (x.2,false,b,Int.ofNat (List.length b),0,(0,0),()))) (V.bE (λ(D:Bool×(Int×Int)×Unit)=>A.pure (D.2.1,D.1)))
def WH(Eo:Option dP×Int×Int->A (bx×Bool))(x:Option dP×Option Int×Option a6):A (Int×Bool):=
 A.bind (A.loop (λ(D:Option dP×Int×a6×Int×Int×Unit)=>letI a:=D.2.2.2;if decide (a.2.1<10)=true then A.bind (A.bind (Eo (D.1,a.2.1,D.2.1)) (λy=>if y.2=true then A.pure (V.next (D.1,D.2.1,D.2.2.1,IntKind.wrap .i64 (Add.add a.1 D.2.2.1.2.2.2.2.2.2.2.2.2.2),a.2.1,())) else A.pure (V.next (D.1,D.2.1,D.2.2.1,a.1,a.2.1,())))) (V.bE (λ(D:Option dP×Int×a6×Int×Int×Unit)=>A.pure (V.next (D.1,D.2.1,D.2.2.1,D.2.2.2.1,IntKind.wrap .i64 (Add.add D.2.2.2.2.1 1),())))) else A.bind (A.pure (V.next (a.1,()))) λr=>A.pure (V.done r)) (x.1,Option.getD x.2.1 0,Option.getD x.2.2 ([],[],[],[],0,0,0,0,0,0,0),0,0,())) (V.bE (λ(D:Int×Unit)=>A.pure (D.1,true)))
def WI(A2:Int->A Bool)(x:Option d_×Option Int):A Bool:=
 A.bind (A2 (Option.getD x.2 0)) λy=>A.pure y
def WJ(jx:Int×Int×Int->A Bool)(x:Int):A Bool:=
 A.bind (jx (x,0,99)) λy=>A.pure y
def WK(Ij:p0×Int->A Int)(OM:Option d_×Option dP->A (List bx->Prop))(x:Option dP×Option (Option d_)×Option Int×Option a6):A (Int×Bool):=
 A.bind (OM (Option.getD x.2.1 none,x.1)) λy=>A.bind (A.any y) λL=>A.bind (jR (λ(D:Int×a6×Int×Unit) (y:a8×Int)=>letI a:=(D.2.1.2.2.2.2,y.2);A.bind (if decide (y.1.2.2.2.2.2=D.1)=true then A.ad (Ij a).b2 (A.pure (dj.normal,IntKind.wrap .i64 (Add.add D.2.2.1 (A.val (Ij a) 0)),())) else A.pure (dj.normal,D.2.2.1,())) λp=>A.pure (p.1,D.1,D.2.1,p.2.1,())) L (Option.getD x.2.2.1 0,Option.getD x.2.2.2 ([],[],[],[],0,0,0,0,0,0,0),0,())) λp=>sM (A.pure (p.2.2.2.1,true)) (λid=>if id=0 then A.pure (p.2.2.2.1,true) else A.fail) A.fail p.1
def ak0(ak1:Option (Option dP)×Option (Option d_)->List bx->Prop)(x:Option d_×Option dP):A (List bx->Prop):=
 A.pure (ak1 (some x.2,some x.1))
def WL(jx:Int×Int×Int->A Bool)(ON:List a8×(Int×Int×Int×Int×Int×Int->A Bool)->A Bool)(ak2:Int×Int×Int×Int×Int×Int×Int->A Bool)(Ox:z1'×(Int->A Bool)->A Bool)(ak3:a8×Option a6->A Bool)(ak4:Int->A Bool)(x:a6):A Bool:=
 letI k:=Int.ofNat (List.length x.1);letI d:=decide (k > 3)||decide (Int.ofNat (List.length x.2.1) > 12)||decide (Int.ofNat (List.length x.2.2.1) > 12)||decide (Int.ofNat (List.length x.2.2.2.1) > 4);A.bind (cu (!d) (ak2 x.2.2.2.2) false) λy=>if (d||!y)=true then A.pure false else A.bind (A.loop (λ(D:z4'×Int×Int×a6×Unit)=>letI l:=D.2.2.1;letI e:=List.getD D.1 (Int.toNat l) (0,0);if decide (l<D.2.1)=true then A.ad (0<=l/\l<Int.ofNat (List.length D.1)) (A.bind (jx (e.1,-30,e.2)) (λy=>if (!y||decide (e.2 > 30))=true then A.bind (A.bind (A.pure false) (λr=>A.pure (V.done r))) λr=>A.pure (V.done r) else A.pure (V.next (D.1,D.2.1,IntKind.wrap .i64 (Add.add l 1),D.2.2.2.1,())))) else A.bind (A.pure (V.next (D.2.2.2.1,()))) λr=>A.pure (V.done r)) (x.1,k,0,x,())) (V.bE (λ(D:a6×Unit)=>A.bind (A.loop (λ(D:z4'×Int×Int×a6×Unit)=>letI m:=D.2.2.2.1;letI f:=D.2.2.1;letI j:=decide (f > 0);letI i:=IntKind.wrap .i64 (f-1);letI b:=List.getD D.1 (Int.toNat f) (0,0);letI a:=!(A.val (jx (b.1,0,b.2)) false)||decide (b.2 > 9999);letI h:=(!a)=true;letI c:=(!a&&j)=true;letI g:=c->c/\True/\True;if decide (f<D.2.1)=true then A.ad (0<=f/\f<Int.ofNat (List.length D.1)) (A.ad (jx (b.1,0,b.2)).b2 (A.ad ((!(!(A.val (jx (b.1,0,b.2)) false)))=true->(!(!(A.val (jx (b.1,0,b.2)) false)))=true/\True/\True) (A.ad ((!(!(A.val (jx (b.1,0,b.2)) false)))=true->((!(!(A.val (jx (b.1,0,b.2)) false)))=true/\True)/\True/\True) (A.ad (True/\((!(A.val (jx (b.1,0,b.2)) false))=false->(!(!(A.val (jx (b.1,0,b.2)) false)))=true)) (A.ad (h->(h/\True)/\True/\True) (A.ad (h->True/\True/\h) (A.ad g (A.ad g (A.ad (c->(c/\True)/\True/\True) (A.ad (c->(c/\c)/\(0<=i/\i<Int.ofNat (List.length m.2.2.2.1))/\True) (A.ad g (A.ad g (A.ad (c->(c/\c)/\True/\True) (A.ad (h->(h/\(j=true->c))/\True/\True) (A.ad (True/\(a=false->h)) (if (a||j&&decide (b.1<=(List.getD m.2.2.2.1 (Int.toNat i) (0,0)).2))=true then A.bind (A.bind (A.pure false) (λr=>A.pure (V.done r))) λr=>A.pure (V.done r) else A.pure (V.next (D.1,D.2.1,IntKind.wrap .i64 (Add.add f 1),m,())))))))))))))))))) else A.bind (A.pure (V.next (m,()))) λr=>A.pure (V.done r)) (D.1.2.2.2.1,Int.ofNat (List.length D.1.2.2.2.1),0,D.1,())) (V.bE (λ(D:a6×Unit)=>A.bind (ON (D.1.2.1,λx=>ak3 (x,some D.1))) λy=>A.bind (cu (!y) (Ox (D.1.2.2.1,ak4)) false) λb4=>A.pure (!y&&!b4)))))
def ak5(Ep:(z1'->Prop)->A (z1'))(OO:List (Int×a8)->A (z1'->Prop))(x:List a8):A (List a8×Bool):=
 A.bind (A.loop (λ(D:List a8×Int×Int×List (Int×a8)×Unit)=>letI e:=D.2.2;letI b:=List.getD D.1 (Int.toNat e.1) (0,0,0,0,0,0);letI c:=Option.map (λx=>x.2) (List.find? (λp=>decide (b.1=p.1)) e.2.1);letI a:=Option.getD c (0,0,0,0,0,0);if decide (e.1<D.2.1)=true then A.ad (0<=e.1/\e.1<Int.ofNat (List.length D.1)) (if (Option.isSome c&&!(decide (a.1=b.1)&&(decide (a.2.1=b.2.1)&&(decide (a.2.2.1=b.2.2.1)&&(decide (a.2.2.2.1=b.2.2.2.1)&&(decide (a.2.2.2.2.1=b.2.2.2.2.1)&&decide (a.2.2.2.2.2=b.2.2.2.2.2)))))))=true then A.bind (A.bind (A.pure ([],false)) (λr=>A.pure (V.done r))) λr=>A.pure (V.done r) else A.pure (V.next (D.1,D.2.1,IntKind.wrap .i64 (Add.add e.1 1),k3 e.2.1 b.1 b,()))) else A.bind (A.pure (V.next (e.2.1,()))) λr=>A.pure (V.done r)) (x,Int.ofNat (List.length x),0,[],())) (V.bE (λ(D:List (Int×a8)×Unit)=>A.bind (A.bind (OO D.1) (λy=>A.bind (Ep y) λy=>A.loop (λ(D:z1'×Int×Int×List a8×List (Int×a8)×Unit)=>letI d:=D.2.2;if decide (d.1<D.2.1)=true then A.ad (0<=d.1/\d.1<Int.ofNat (List.length D.1)) (A.ad (b_ (Add.add (List.length d.2.1) (Add.add 0 1))) (A.pure (V.next (D.1,D.2.1,IntKind.wrap .i64 (Add.add d.1 1),d.2.1++[Option.getD (Option.map (λx=>x.2) (List.find? (λp=>decide (List.getD D.1 (Int.toNat d.1) 0=p.1)) d.2.2.1)) (0,0,0,0,0,0)],d.2.2.1,())))) else A.bind (A.pure (V.next (d.2.1,()))) λr=>A.pure (V.done r)) (y,Int.ofNat (List.length y),0,[],D.1,()))) (V.bE (λ(D:List a8×Unit)=>A.pure (D.1,true)))))
def WM(fX:Int×Int×Int->A Bool)(ak6:Int×Int×Int×Int×Int×Int×Int->A Bool)(WN:a6×Int×Int×Int×Int×Int×Int->A Bool)(x:a6):A Bool:=
 letI e:=decide (Int.ofNat (List.length x.1) > 3)||decide (Int.ofNat (List.length x.2.1) > 12)||decide (Int.ofNat (List.length x.2.2.1) > 12)||decide (Int.ofNat (List.length x.2.2.2.1) > 4);A.bind (cu (!e) (ak6 x.2.2.2.2) false) λy=>if (e||!y)=true then A.pure false else A.bind (A.loop (λ(D:Int×a6×Unit)=>letI f:=D.1<Int.ofNat (List.length D.2.1.1);letI o:=0<=D.1/\f;letI b:=List.getD D.2.1.1 (Int.toNat D.1) (0,0);if decide f=true then A.ad o (A.ad o (A.ad (fX (b.1,-30,b.2)).b2 (A.ad ((!(!(A.val (fX (b.1,-30,b.2)) false)))=true->(!(!(A.val (fX (b.1,-30,b.2)) false)))=true/\True/\True) (A.ad ((!(!(A.val (fX (b.1,-30,b.2)) false)))=true->((!(!(A.val (fX (b.1,-30,b.2)) false)))=true/\(!(!(A.val (fX (b.1,-30,b.2)) false)))=true)/\o/\True) (A.ad ((!(!(A.val (fX (b.1,-30,b.2)) false)))=true->(!(!(A.val (fX (b.1,-30,b.2)) false)))=true/\True/\True) (A.ad ((!(!(A.val (fX (b.1,-30,b.2)) false)))=true->(!(!(A.val (fX (b.1,-30,b.2)) false)))=true/\True/\True) (A.ad ((!(!(A.val (fX (b.1,-30,b.2)) false)))=true->((!(!(A.val (fX (b.1,-30,b.2)) false)))=true/\True)/\True/\True) (A.ad (True/\((!(A.val (fX (b.1,-30,b.2)) false))=false->(!(!(A.val (fX (b.1,-30,b.2)) false)))=true)) (if (!(A.val (fX (b.1,-30,b.2)) false)||decide (b.2 > 30))=true then A.bind (A.bind (A.pure false) (λr=>A.pure (V.done r))) λr=>A.pure (V.done r) else A.pure (V.next (IntKind.wrap .i64 (Add.add D.1 1),D.2.1,()))))))))))) else A.bind (A.pure (V.next (D.2.1,()))) λr=>A.pure (V.done r)) (0,x,())) (V.bE (λ(D:a6×Unit)=>A.bind (A.loop (λ(D:Int×a6×Unit)=>letI m:=D.1<Int.ofNat (List.length D.2.1.2.1);letI h:=(D.2.1,List.getD D.2.1.2.1 (Int.toNat D.1) (0,0,0,0,0,0));if decide m=true then A.ad (0<=D.1/\m) (A.ad (WN h).b2 (if (!(A.val (WN h) false))=true then A.bind (A.bind (A.pure false) (λr=>A.pure (V.done r))) λr=>A.pure (V.done r) else A.pure (V.next (IntKind.wrap .i64 (Add.add D.1 1),D.2.1,())))) else A.bind (A.pure (V.next (D.2.1,()))) λr=>A.pure (V.done r)) (0,D.1,())) (V.bE (λ(D:a6×Unit)=>A.bind (A.loop (λ(D:Int×a6×Unit)=>letI l:=D.1<Int.ofNat (List.length D.2.1.2.2.1);if decide l=true then A.ad (0<=D.1/\l) (A.bind (fX (List.getD D.2.1.2.2.1 (Int.toNat D.1) 0,0,99)) (λy=>if (!y)=true then A.bind (A.bind (A.pure false) (λr=>A.pure (V.done r))) λr=>A.pure (V.done r) else A.pure (V.next (IntKind.wrap .i64 (Add.add D.1 1),D.2.1,())))) else A.bind (A.pure (V.next (D.2.1,()))) λr=>A.pure (V.done r)) (0,D.1,())) (V.bE (λ(D:a6×Unit)=>A.bind (A.loop (λ(D:Int×a6×Unit)=>letI p:=D.2.1.2.2.2.1;letI n:=decide (D.1 > 0);letI k:=IntKind.wrap .i64 (D.1-1);letI g:=Int.ofNat (List.length p);letI c:=List.getD p (Int.toNat D.1) (0,0);letI a:=!(A.val (fX (c.1,0,c.2)) false)||decide (c.2 > 9999);letI j:=(!a)=true;letI d:=(!a&&n)=true;letI i:=d->d/\True/\True;if decide (D.1<g)=true then A.ad (0<=D.1/\D.1<g) (A.ad (fX (c.1,0,c.2)).b2 (A.ad ((!(!(A.val (fX (c.1,0,c.2)) false)))=true->(!(!(A.val (fX (c.1,0,c.2)) false)))=true/\True/\True) (A.ad ((!(!(A.val (fX (c.1,0,c.2)) false)))=true->((!(!(A.val (fX (c.1,0,c.2)) false)))=true/\True)/\True/\True) (A.ad (True/\((!(A.val (fX (c.1,0,c.2)) false))=false->(!(!(A.val (fX (c.1,0,c.2)) false)))=true)) (A.ad (j->(j/\True)/\True/\True) (A.ad (j->True/\True/\j) (A.ad i (A.ad i (A.ad (d->(d/\True)/\True/\True) (A.ad (d->(d/\d)/\(0<=k/\k<g)/\True) (A.ad i (A.ad i (A.ad (d->(d/\d)/\True/\True) (A.ad (j->(j/\(n=true->d))/\True/\True) (A.ad (True/\(a=false->j)) (if (a||n&&decide (c.1<=(List.getD p (Int.toNat k) (0,0)).2))=true then A.bind (A.bind (A.pure false) (λr=>A.pure (V.done r))) λr=>A.pure (V.done r) else A.pure (V.next (IntKind.wrap .i64 (Add.add D.1 1),D.2.1,())))))))))))))))))) else A.bind (A.pure (V.next ())) λr=>A.pure (V.done r)) (0,D.1,())) (V.bE (λ(D:Unit)=>A.pure true))))))))
def WO(x:a8×Int×Int×Int×Int×Int×Int):A Bool:=
 letI a:=decide (x.1.1=x.2.1);A.pure (a&&!(a&&(decide (x.1.2.1=x.2.2.1)&&(decide (x.1.2.2.1=x.2.2.2.1)&&(decide (x.1.2.2.2.1=x.2.2.2.2.1)&&(decide (x.1.2.2.2.2.1=x.cZ)&&decide (x.1.2.2.2.2.2=x.2.2.2.2.2.2)))))))
def WQ(lA:Int×Int×Int->A Bool)(x:Int×Int×Int):A Bool:=
 A.bind (lA x) λy=>A.pure y
def ak7(Es:Int->A Bool)(x:Option d_×Option Int):A Bool:=
 A.bind (Es (Option.getD x.2 0)) λy=>A.pure y
def WR(x:a6×Int×Int):A Int:=
 A.bind (A.loop (λ(D:Int×Int×Int×z4'×Int×Int×Unit)=>letI c:=D.2.2.2;letI b:=IntKind.wrap .i64 (D.2.1-1);letI a:=List.getD c.1 (Int.toNat D.cZ) (0,0);if decide (D.cZ<c.2.1)=true then A.ad (0<=D.cZ/\D.cZ<Int.ofNat (List.length c.1)) (A.pure (V.next (D.1,D.2.1,IntKind.wrap .i64 (D.2.2.1-(if IntKind.wrap .i64 (Add.add (IntKind.wrap .i64 ((if b<a.2 then b else a.2)-(if D.1 > a.1 then D.1 else a.1))) 1) > 0 then IntKind.wrap .i64 (Add.add (IntKind.wrap .i64 ((if b<a.2 then b else a.2)-(if D.1 > a.1 then D.1 else a.1))) 1) else 0)),c.1,c.2.1,IntKind.wrap .i64 (Add.add D.cZ 1),()))) else A.bind (A.pure (V.next (D.2.2.1,()))) λr=>A.pure (V.done r)) (x.2.1,x.2.2,IntKind.wrap .i64 (x.2.2-x.2.1),x.1.2.2.2.1,Int.ofNat (List.length x.1.2.2.2.1),0,())) (V.bE (λ(D:Int×Unit)=>A.pure D.1))
def WS(x:z4'):A (z4'):=
 A.bind (A.any (λb=>b=true->x=[])) λy=>if y=true then A.pure [] else A.ad (b_ (Add.add 0 (List.length x))) (A.pure ([]++x))
def WT(hN:z1'×Int->A Bool)(x:a8×Option a6):A Bool:=
 A.bind (hN ((Option.getD x.2 ([],[],[],[],0,0,0,0,0,0,0)).2.2.1,x.1.1)) λy=>A.pure y
def WU(ON:List a8×(Int×Int×Int×Int×Int×Int->A Bool)->A Bool)(ak8:a8×Option Int->A Bool)(x:Option d_×Option Int):A Bool:=
 A.ad (Option.isSome x.1=true) (A.bind (ON ((Option.getD x.1 (([],[],[],[],0,0,0,0,0,0,0),[],[])).2.1,λhB=>ak8 (hB,some (Option.getD x.2 0)))) (λy=>A.pure y))
def ak9(OP:List a8×(Int×Int×Int×Int×Int×Int->A Bool)->A Int)(x:List a8×(Int×Int×Int×Int×Int×Int->A Bool)):A Bool:=
 A.bind (OP x) λy=>A.pure (decide (y>=0))
def ak_(x:a8×Option Int):A Bool:=
 A.pure (decide (x.1.1=Option.getD x.2 0)&&decide (x.1.2.2.2.1=1))
def WV(OM:Option d_×Option dP->A (List bx->Prop))(x:Option dP×Option (Option d_)×Option Int×Option (Int->A Int)):A (Int×Bool):=
 A.bind (OM (Option.getD x.2.1 none,x.1)) λy=>A.bind (A.any y) λL=>A.bind (jR (λ(D:Int×(Int->A Int)×Int×Bool×Unit) (y:a8×Int)=>A.bind (if decide (y.1.1=D.1)=true then A.bind (D.2.1 y.2) λy=>A.pure (dj.ret,y,true,()) else A.pure (dj.normal,D.2.2.1,D.2.2.2.1,())) λp=>A.pure (p.1,D.1,D.2.1,p.2.1,p.2.2.1,())) L (Option.getD x.2.2.1 0,Option.getD x.2.2.2 λx=>{ b2:=False,bR:=λx=>False },0,false,())) λp=>sM (A.pure (0,false)) (λid=>if id=0 then A.pure (0,false) else A.fail) (A.pure (p.2.2.2.1,p.2.2.2.2.1)) p.1
def WW(jx:Int×Int×Int->A Bool)(x:Int×Int×Int×Int×Int×Int×Int):A Bool:=
 A.bind (A.loop (λ(D:Int×Int×p0×z1'×Unit)=>letI a:=D.2;if decide (a.1<D.1)=true then A.ad (0<=a.1/\a.1<Int.ofNat (List.length a.2.2.1)) (A.bind (jx (List.getD a.2.2.1 (Int.toNat a.1) 0,0,100000)) (λy=>if (!y)=true then A.bind (A.bind (A.pure false) (λr=>A.pure (V.done r))) λr=>A.pure (V.done r) else A.pure (V.next (D.1,IntKind.wrap .i64 (Add.add a.1 1),a.2.1,a.2.2.1,())))) else A.bind (A.pure (V.next (a.2.1,()))) λr=>A.pure (V.done r)) (Int.ofNat (Add.add (Add.add (Add.add (Add.add 0 1) 1) 1) 1),0,x,[x.2.2.1,x.2.2.2.1,x.cZ,x.2.2.2.2.2.2],())) (V.bE (λ(D:p0×Unit)=>A.bind (jx (D.1.1,0,9999)) λy=>A.bind (cu y (jx (D.1.2.1,1,9999)) false) λb4=>A.bind (cu (y&&b4) (jx (D.1.2.2.2.2.1,1,9999)) false) λdL=>A.pure (y&&b4&&dL)))
def WX(ak':a6×Int×Int×Int×Int×Int×Int->A Bool)(x:a8×Option a6):A Bool:=
 A.bind (ak' (Option.getD x.2 ([],[],[],[],0,0,0,0,0,0,0),x.1)) λy=>A.pure (!y)
def WY(jx:Int×Int×Int->A Bool)(A2:Int->A Bool)(x:a6×Int×Int×Int×Int×Int×Int):A Bool:=
 letI c:=x.2.2.2.2;letI a:=decide (c.1=1)||decide (c.1=2)&&decide (c.2.2=0);A.bind (cu a (A2 x.2.1) false) λy=>A.bind (cu (a&&y) (A2 c.2.2) false) λb4=>A.bind (cu (a&&y&&b4) (jx (x.2.2.1,0,IntKind.wrap .i64 (Int.ofNat (List.length x.1.1)-1))) false) λdL=>letI b:=a&&y&&b4&&dL;A.bind (cu b (jx (x.2.2.2.1,0,9999)) false) λgb=>A.bind (cu (b&&gb) (jx (x.cZ,0,9)) false) λkM=>A.pure (b&&gb&&kM)
def WZ(A2:Int->A Bool)(x:Int):A Bool:=
 A.bind (A2 x) λy=>A.pure (!y)
def ala(alb:Option (List (Int×a8))->z1'->Prop)(x:List (Int×a8)):A (z1'->Prop):=
 A.pure (alb (some x))
def W0(fX:Int×Int×Int->A Bool)(x:Int×Int×Int×Int×Int×Int×Int):A Bool:=
 A.bind (fX (x.1,0,9999)) λy=>A.bind (cu y (fX (x.2.1,1,9999)) false) λb4=>A.bind (cu (y&&b4) (fX (x.2.2.2.2.1,1,9999)) false) λdL=>A.bind (cu (y&&b4&&dL) (fX (x.2.2.1,0,100000)) false) λgb=>letI a:=y&&b4&&dL&&gb;A.bind (cu a (fX (x.2.2.2.1,0,100000)) false) λkM=>A.bind (cu (a&&kM) (fX (x.cZ,0,100000)) false) λs7=>A.bind (cu (a&&kM&&s7) (fX (x.2.2.2.2.2.2,0,100000)) false) λuK=>A.pure (a&&kM&&s7&&uK)
def W1(fX:Int×Int×Int->A Bool)(x:a6×Int×Int×Int×Int×Int×Int):A Bool:=
 letI b:=x.2.2.2.2;A.bind (fX (x.2.1,0,99)) λy=>A.bind (cu (!(!y)) (fX (x.2.2.1,0,IntKind.wrap .i64 (Int.ofNat (List.length x.1.1)-1))) false) λb4=>A.bind (cu (!(!y||!b4)) (fX (x.2.2.2.1,0,9999)) false) λdL=>letI a:=!y||!b4||!dL;A.bind (cu (!a) (fX (x.cZ,0,9)) false) λgb=>A.bind (cu (!(a||!gb)) (fX (b.2.2,0,99)) false) λkM=>if (a||!gb||!kM)=true then A.pure false else A.pure (decide (b.1=1)||decide (b.1=2)&&decide (b.2.2=0))
def W2(ayN:Int->A Int)(alc:Int->A Int)(x:Int):A Int:=
 A.bind (alc x) λy=>A.pure y
def ald(x:List a8×(Int×Int×Int×Int×Int×Int->A Bool)):A Int:=
 A.bind (A.loop (λ(D:List a8×(Int×Int×Int×Int×Int×Int->A Bool)×Int×Int×Unit)=>letI a:=D.2.2.2.1;if decide (a<D.2.2.1)=true then A.ad (0<=a/\a<Int.ofNat (List.length D.1)) (A.bind (D.2.1 (List.getD D.1 (Int.toNat a) (0,0,0,0,0,0))) (λy=>if y=true then A.bind (A.bind (A.pure a) (λr=>A.pure (V.done r))) λr=>A.pure (V.done r) else A.pure (V.next (D.1,D.2.1,D.2.2.1,IntKind.wrap .i64 (Add.add a 1),())))) else A.bind (A.pure (V.next ())) λr=>A.pure (V.done r)) (x.1,x.2,Int.ofNat (List.length x.1),0,())) (V.bE (λ(D:Unit)=>A.pure (-1)))
def Et(x:Int):A Int:=
 A.bind (if decide (x>=4294967296)=true then A.ad ((0:Int)<=32) (A.pure (V.next (jm .u64 x 32,32,()))) else A.pure (V.next (x,0,()))) (V.bE (λ(D:Int×Int×Unit)=>A.bind (if decide (D.1>=65536)=true then A.ad ((0:Int)<=16) (A.pure (V.next (jm .u64 D.1 16,IntKind.wrap .i64 (Add.add D.2.1 16),()))) else A.pure (V.next (D.1,D.2.1,()))) (V.bE (λ(D:Int×Int×Unit)=>A.bind (if decide (D.1>=256)=true then A.ad ((0:Int)<=8) (A.pure (V.next (jm .u64 D.1 8,IntKind.wrap .i64 (Add.add D.2.1 8),()))) else A.pure (V.next (D.1,D.2.1,()))) (V.bE (λ(D:Int×Int×Unit)=>letI a:=IntKind.wrap .u8 D.1;A.ad (0<=a/\a<Int.ofNat 256) (A.pure (IntKind.wrap .i64 (Add.add D.2.1 (IntKind.wrap .i64 (Int.ofNat (List.getD akB (Int.toNat a) 0).1.1.1)))))))))))
def W3(x:z1'):A (z1'):=
 A.bind (A.any (λb=>b=true->x=[])) λy=>if y=true then A.pure [] else A.ad (b_ (Add.add 0 (List.length x))) (A.pure ([]++x))
def W4(ale:Int×Int->A Int)(x:bx×a8×Int):A Int:=
 A.bind (ale (x.1.2,x.2.2)) λy=>A.pure y
def W5(W6:Int->A Bool)(x:Int×Int):A Int:=
 A.bind (W6 x.1) λy=>A.bind (W6 x.2) λb4=>if y=true then if b4=true then A.pure 0 else A.pure (-1) else if b4=true then A.pure 1 else if decide (x.1<x.2)=true then A.pure (-1) else if decide (x.1 > x.2)=true then A.pure 1 else A.pure 0
def W7(x:Int):A Bool:=
 A.pure (decide (x≠x))
def W8(x:(z1'->Prop)×Unit):A (z1'×Unit):=
 A.bind (A.any x.1) λL=>A.bind (jR (λ(D:z1'×Unit) (y:Int)=>A.bind (A.ad (b_ (Add.add (List.length D.1) (Add.add 0 1))) (A.pure (dj.normal,D.1++[y],()))) λp=>A.pure (p.1,p.2.1,())) L ([],())) λp=>sM (A.pure (p.2.1,())) (λid=>if id=0 then A.pure (p.2.1,()) else A.fail) A.fail p.1
def W9(alf:(z1'->Prop)×Unit->A (z1'×Unit))(x:(z1'->Prop)×Unit):A (z1'×Unit):=
 A.bind (alf (x.1,())) λy=>A.pure (y.1,())
def W_(OP:List a8×(Int×Int×Int×Int×Int×Int->A Bool)->A Int)(x:(Int×Int×Int×Int×Int×Int->A Bool)×List a8×Unit):A ((Nat×Nat)×List a8×Unit):=
 A.bind (OP (x.2.1,x.1)) λy=>if decide (y=-1)=true then A.pure ((0,List.length x.2.1),x.2.1,()) else A.bind (A.loop (λ(D:(Int×Int×Int×Int×Int×Int->A Bool)×Int×Int×List a8×Unit)=>letI g:=D.2.1;letI f:=D.2.2;letI e:=List.getD f.2.1 (Int.toNat f.1) (0,0,0,0,0,0);letI c:=Int.ofNat (List.length f.2.1);if decide (f.1<c)=true then A.bind (A.ad (0<=f.1/\f.1<c) (A.bind (D.1 e) (λy=>if (!y)=true then A.ad (0<=g/\g<c) (A.pure (V.next (D.1,IntKind.wrap .i64 (Add.add g 1),f.1,List.set f.2.1 (Int.toNat g) e,()))) else A.pure (V.next (D.1,g,f.1,f.2.1,()))))) (V.bE (λ(D:(Int×Int×Int×Int×Int×Int->A Bool)×Int×Int×List a8×Unit)=>A.pure (V.next (D.1,D.2.1,IntKind.wrap .i64 (Add.add D.2.2.1 1),D.2.2.2.1,())))) else A.bind (A.pure (V.next (g,f.2.1,()))) λr=>A.pure (V.done r)) (x.1,y,IntKind.wrap .i64 (Add.add y 1),x.2.1,())) (V.bE (λ(D:Int×List a8×Unit)=>letI d:=Int.toNat D.1;letI b:=Int.ofNat (List.length D.2.1);letI a:=List.take d D.2.1++List.replicate (Int.toNat b-d) (0,0,0,0,0,0)++List.drop (Add.add d (List.length (List.replicate (Int.toNat b-d) ((0,0,0,0,0,0):a8)))) D.2.1;A.ad (0<=D.1/\D.1<=b/\b<=b) (A.ad True (A.ad ((0:Int)<=0/\0<=D.1/\D.1<=Int.ofNat (List.length a)) (A.pure ((Int.toNat 0,d),a,()))))))
def Ik(A0:a6×Int×Int->A Int)(x:Nat×Option dP×Option d_×(Nat×(List bx->Prop)×List bx×Bool)×Unit):A ((Nat×(List bx->Prop)×List bx×Bool)×Unit):=
 A.ad (Option.isSome x.2.1=true) (A.loop (λ(D:Nat×Option d_×List (List bx)×Int×(Nat×(List bx->Prop)×List bx×Bool)×Unit)=>letI g:=D.2.2.2;if decide (g.1<10)=true then A.bind (A.ad (0<=g.1/\g.1<Int.ofNat 10) (A.loop (λ(D:Nat×Option d_×List bx×Int×List (List bx)×Int×(Nat×(List bx->Prop)×List bx×Bool)×Unit)=>letI h:=D.fb;letI f:=D.2.2;letI d:=Int.ofNat (List.length f.1);letI i:=0<=f.2.1/\f.2.1<d;letI c:=IntKind.wrap .i64 (Add.add f.2.1 1);letI b:=List.getD f.1 (Int.toNat f.2.1) ((0,0,0,0,0,0),0);letI a:=((Option.getD D.2.1 (([],[],[],[],0,0,0,0,0,0,0),[],[])).1,b.2,(List.getD f.1 (Int.toNat c) ((0,0,0,0,0,0),0)).2);if decide (c<d)=true then A.ad i (A.ad (Option.isSome D.2.1=true) (A.ad i (A.ad (0<=c/\c<d) (A.ad (A0 a).b2 (A.bind (A.ad (D.1=h.1/\h.2.2.2=false/\(∃ (T:List bx),h.2.1 (h.2.2.1++(b.1,A.val (A0 a) 0)::T))) (A.any (λx=>True))) (λy=>letI e:=(h.1,h.2.1,h.2.2.1++[(b.1,A.val (A0 a) 0)],!y);if (!y)=true then A.bind (A.bind (A.bind (A.pure (e,())) (λr=>A.pure (V.done r))) (λr=>A.pure (V.done r))) λr=>A.pure (V.done r) else A.pure (V.next (D.1,D.2.1,f.1,IntKind.wrap .i64 (Add.add f.2.1 2),f.2.2.1,D.cZ,e,())))))))) else A.bind (A.pure (V.next (D.1,D.2.1,f.2.2.1,D.cZ,h,()))) λr=>A.pure (V.done r)) (D.1,D.2.1,List.getD D.2.2.1 (Int.toNat g.1) [],0,D.2.2.1,g.1,g.2.1,()))) (V.bE (λ(D:Nat×Option d_×List (List bx)×Int×(Nat×(List bx->Prop)×List bx×Bool)×Unit)=>A.pure (V.next (D.1,D.2.1,D.2.2.1,IntKind.wrap .i64 (Add.add D.2.2.2.1 1),D.2.2.2.2.1,())))) else A.bind (A.pure (g.2.1,())) λr=>A.pure (V.done r)) (x.1,x.2.2.1,(Option.getD x.2.1 ([],[[],[],[],[],[],[],[],[],[],[]])).2,0,x.2.2.2.1,()))
def W'(x:Int×Int×(bx×a8×Int->A Int)×List bx×Unit):A (List bx×Unit):=
 A.loop (λ(D:Int×Int×(bx×a8×Int->A Int)×Int×List bx×Unit)=>letI i:=D.2.2.2;if decide (i.1<D.2.1)=true then A.bind (A.loop (λ(D:Int×Int×(bx×a8×Int->A Int)×Int×Int×List bx×Unit)=>letI k:=D.2.2;letI d:=Int.ofNat (List.length D.cZ);letI c:=k.2.2.1;letI j:=0<=c/\c<d;letI g:=decide (c > D.1);letI f:=List.getD D.cZ (Int.toNat c) ((0,0,0,0,0,0),0);letI b:=IntKind.wrap .i64 (c-1);letI e:=List.getD D.cZ (Int.toNat b) ((0,0,0,0,0,0),0);letI h:=List.set D.cZ (Int.toNat c) e;letI a:=g=true;letI l:=a->a/\True/\True;A.ad (a->(a/\a)/\j/\True) (A.ad l (A.ad (a->(a/\True)/\True/\True) (A.ad (a->(a/\a)/\(0<=b/\b<d)/\True) (A.ad l (A.ad (a->a/\a/\a/\True) (A.bind (cu g (k.1 (f,e)) 0) (λy=>if (g&&decide (y<0))=true then A.ad (0<=b/\b<d) (A.ad j (A.ad j (A.ad (0<=b/\b<Int.ofNat (List.length h)) (A.pure (V.next (D.1,D.2.1,k.1,k.2.1,b,List.set h (Int.toNat b) f,())))))) else A.bind (A.pure (V.next (D.1,D.2.1,k.1,k.2.1,D.cZ,()))) λr=>A.pure (V.done r))))))))) (D.1,D.2.1,D.2.2.1,i.1,i.1,i.2.1,())) (V.bE (λ(D:Int×Int×(bx×a8×Int->A Int)×Int×List bx×Unit)=>A.pure (V.next (D.1,D.2.1,D.2.2.1,IntKind.wrap .i64 (Add.add D.2.2.2.1 1),D.2.2.2.2.1,())))) else A.bind (A.pure (i.2.1,())) λr=>A.pure (V.done r)) (x.1,x.2.1,x.2.2.1,IntKind.wrap .i64 (Add.add x.1 1),x.2.2.2.1,())
def OQ(x:Nat×z4'×(Nat×(z1'->Prop)×z1'×Bool)×Unit):A ((Nat×(z1'->Prop)×z1'×Bool)×Unit):=
 A.bind (A.pure ()) λy=>A.loop (λ(D:Nat×(Nat×(z1'->Prop)×z1'×Bool)×(Option (Int×Int)×z4')×Unit)=>letI c:=D.2.1;letI b:=D.2.2.1;A.bind (GV b.2) λy=>if Option.isSome y=true then A.bind (A.ad (Option.isSome (n6 b.1 b.2 y)=true) (A.pure ())) λb4=>A.bind (A.ad (D.1=c.1/\c.2.2.2=false/\(∃ (T:z1'),c.2.1 (c.2.2.1++Option.getD (Option.map (λx=>x.1) (n6 b.1 b.2 y)) 0::T))) (A.any (λx=>True))) λdL=>letI a:=(c.1,c.2.1,c.2.2.1++[Option.getD (Option.map (λx=>x.1) (n6 b.1 b.2 y)) 0],!dL);if (!dL)=true then A.bind (A.pure (a,())) λr=>A.pure (V.done r) else A.pure (V.next (D.1,a,(n6 b.1 b.2 y,Dj b.2 y),())) else A.bind (A.pure (c,())) λr=>A.pure (V.done r)) (x.1,x.2.2.1,(none,x.2.1),())
def OR(x:Nat×List (Int×a8)×(Nat×(z1'->Prop)×z1'×Bool)×Unit):A ((Nat×(z1'->Prop)×z1'×Bool)×Unit):=
 A.bind (A.pure ()) λy=>A.loop (λ(D:Nat×(Nat×(z1'->Prop)×z1'×Bool)×(Option p0×List (Int×a8))×Unit)=>letI c:=D.2.1;letI b:=D.2.2.1;A.bind (GV b.2) λy=>if Option.isSome y=true then A.bind (A.ad (Option.isSome (n6 b.1 b.2 y)=true) (A.pure ())) λb4=>A.bind (A.ad (D.1=c.1/\c.2.2.2=false/\(∃ (T:z1'),c.2.1 (c.2.2.1++Option.getD (Option.map (λx=>x.1) (n6 b.1 b.2 y)) 0::T))) (A.any (λx=>True))) λdL=>letI a:=(c.1,c.2.1,c.2.2.1++[Option.getD (Option.map (λx=>x.1) (n6 b.1 b.2 y)) 0],!dL);if (!dL)=true then A.bind (A.pure (a,())) λr=>A.pure (V.done r) else A.pure (V.next (D.1,a,(n6 b.1 b.2 y,Dj b.2 y),())) else A.bind (A.pure (c,())) λr=>A.pure (V.done r)) (x.1,x.2.2.1,(none,x.2.1),())
def alg(Ep:(z1'->Prop)->A (z1'))(OO:List (Int×a8)->A (z1'->Prop))(x:List a8×Unit):A (Bool×List a8×Unit):=
 A.bind (A.loop (λ(D:List a8×Int×Int×List (Int×a8)×Unit)=>letI e:=D.2.2;letI b:=List.getD D.1 (Int.toNat e.1) (0,0,0,0,0,0);letI c:=Option.map (λx=>x.2) (List.find? (λp=>decide (b.1=p.1)) e.2.1);letI a:=Option.getD c (0,0,0,0,0,0);if decide (e.1<D.2.1)=true then A.ad (0<=e.1/\e.1<Int.ofNat (List.length D.1)) (if (Option.isSome c&&!(decide (a.1=b.1)&&(decide (a.2.1=b.2.1)&&(decide (a.2.2.1=b.2.2.1)&&(decide (a.2.2.2.1=b.2.2.2.1)&&(decide (a.2.2.2.2.1=b.2.2.2.2.1)&&decide (a.2.2.2.2.2=b.2.2.2.2.2)))))))=true then A.bind (A.bind (A.pure (false,[],())) (λr=>A.pure (V.done r))) λr=>A.pure (V.done r) else A.pure (V.next (D.1,D.2.1,IntKind.wrap .i64 (Add.add e.1 1),k3 e.2.1 b.1 b,()))) else A.bind (A.pure (V.next (e.2.1,()))) λr=>A.pure (V.done r)) (x.1,Int.ofNat (List.length x.1),0,[],())) (V.bE (λ(D:List (Int×a8)×Unit)=>A.bind (A.bind (OO D.1) (λy=>A.bind (Ep y) λy=>A.loop (λ(D:z1'×Int×Int×List a8×List (Int×a8)×Unit)=>letI d:=D.2.2;if decide (d.1<D.2.1)=true then A.ad (0<=d.1/\d.1<Int.ofNat (List.length D.1)) (A.ad (b_ (Add.add (List.length d.2.1) (Add.add 0 1))) (A.pure (V.next (D.1,D.2.1,IntKind.wrap .i64 (Add.add d.1 1),d.2.1++[Option.getD (Option.map (λx=>x.2) (List.find? (λp=>decide (List.getD D.1 (Int.toNat d.1) 0=p.1)) d.2.2.1)) (0,0,0,0,0,0)],d.2.2.1,())))) else A.bind (A.pure (V.next (d.2.1,()))) λr=>A.pure (V.done r)) (y,Int.ofNat (List.length y),0,[],D.1,()))) (V.bE (λ(D:List a8×Unit)=>A.pure (true,D.1,())))))
abbrev lB:Type:=List bx×List bx×List bx×List bx×List bx×List bx×List bx×List bx×List bx×List bx×hq
def mK:Nat->lB->List bx
 | 0,r=>r.1
 | 1,r=>r.2.1
 | 2,r=>r.2.2.1
 | 3,r=>r.2.2.2.1
 | 4,r=>r.2.2.2.2.1
 | 5,r=>r.2.2.2.2.2.1
 | 6,r=>r.2.2.2.2.2.2.1
 | 7,r=>r.2.2.2.2.2.2.2.1
 | 8,r=>r.2.2.2.2.2.2.2.2.1
 | 9,r=>r.2.2.2.2.2.2.2.2.2.1
 | _,_=>[]
def Il:Nat->List bx->lB->lB
 | 0,v,r=>(v,r.2)
 | 1,v,r=>(r.1,v,r.2.2)
 | 2,v,r=>(r.1,r.2.1,v,r.2.2.2)
 | 3,v,r=>(r.1,r.2.1,r.2.2.1,v,r.2.2.2.2)
 | 4,v,r=>(r.1,r.2.1,r.2.2.1,r.2.2.2.1,v,r.2.2.2.2.2)
 | 5,v,r=>(r.1,r.2.1,r.2.2.1,r.2.2.2.1,r.2.2.2.2.1,v,r.2.2.2.2.2.2)
 | 6,v,r=>(r.1,r.2.1,r.2.2.1,r.2.2.2.1,r.2.2.2.2.1,r.2.2.2.2.2.1,v,r.2.2.2.2.2.2.2)
 | 7,v,r=>(r.1,r.2.1,r.2.2.1,r.2.2.2.1,r.2.2.2.2.1,r.2.2.2.2.2.1,r.2.2.2.2.2.2.1,v,r.2.2.2.2.2.2.2.2)
 | 8,v,r=>(r.1,r.2.1,r.2.2.1,r.2.2.2.1,r.2.2.2.2.1,r.2.2.2.2.2.1,r.2.2.2.2.2.2.1,r.2.2.2.2.2.2.2.1,v,r.2.2.2.2.2.2.2.2.2)
 | 9,v,r=>(r.1,r.2.1,r.2.2.1,r.2.2.2.1,r.2.2.2.2.1,r.2.2.2.2.2.1,r.2.2.2.2.2.2.1,r.2.2.2.2.2.2.2.1,r.2.2.2.2.2.2.2.2.1,v,r.2.2.2.2.2.2.2.2.2.2)
 | _,_,r=>r
abbrev Xa(r:lB):hq:=r.2.2.2.2.2.2.2.2.2.2
def OS{X:Type}(l:List bx)(x:bx)(i k:Int)(aK B:A X):A X:=
 letI z:=decide (i > 0);letI y:=IntKind.wrap .i64 (i-1);letI n:=decide (x.1.2.2.2.1≠k);letI m:=(!n)=true;letI b:=(!n&&z)=true;letI c:=b->b/\True/\True;A.ad (m->(m/\True)/\True/\True) (A.ad (m->True/\True/\m) (A.ad c (A.ad (b->(b/\True)/\True/\True) (A.ad (b->(b/\b)/\(0<=y/\y<Int.ofNat (List.length l))/\True) (A.ad c (A.ad c (A.ad (b->(b/\b)/\True/\True) (A.ad (m->(m/\(z=true->b))/\True/\True) (A.ad (True/\(n=false->m)) (if (n||z&&decide (x.2=(List.getD l (Int.toNat y) ((0,0,0,0,0,0),0)).2))=true then aK else B))))))))))
def Im(k:Nat)(D:Int×Int×Int×z1'×lB):A (V (Int×Int×Int×z1'×lB) (V (Int×z1'×lB) (V (z1'×lB) (Option dP×Bool×hq)))):=
 letI i:=D.2.2.1;letI l:=mK k D.2.2.2.2;letI x:=List.getD l (Int.toNat i) ((0,0,0,0,0,0),0);if decide (i<D.2.1)=true then A.ad (0<=i/\i<Int.ofNat (List.length l)) (A.bind (A.ad ((2:Int)≠0) (if decide (Int.tmod i (2:Int)=1)=true then A.pure (V.next (i,2,D.1,D.2.1,i,x,D.2.2.2)) else A.pure (V.next (i,1,D.1,D.2.1,i,x,D.2.2.2)))) (V.bE (λ(bm:Int×Int×Int×Int×Int×bx×z1'×lB)=>letI r:=bm.2.2.2.2.2.2.2;OS (mK k r) bm.2.2.2.2.2.1 bm.1 bm.2.1 (A.bind (A.bind (A.bind (A.pure (none,false,Xa r)) (λr=>A.pure (V.done r))) (λr=>A.pure (V.done r))) λr=>A.pure (V.done r)) (A.pure (V.next (bm.2.2.1,bm.2.2.2.1,IntKind.wrap .i64 (Add.add bm.2.2.2.2.1 1),bm.2.2.2.2.2.2)))))) else A.bind (A.pure (V.next (D.1,D.2.2.2))) λr=>A.pure (V.done r)
def Eu(Xb:(bx×a8×Int->A Int)×List bx×Unit->A (List bx×Unit))(Xc:bx×a8×Int->A Int):Nat->Nat->z1'×lB->A (V (z1'×lB) (Option dP×Bool×hq))
 | 0,_,s=>A.pure (.next s)
 | n+1,k,s=>A.bind (A.ad (0<=Int.ofNat k/\Int.ofNat k<Int.ofNat 10) (A.bind (Xb (Xc,mK k s.2,())) (λy=>A.loop (Im k) (Int.ofNat k,Int.ofNat (List.length y.1),0,s.1,Il k y.1 s.2)))) (V.bE (λ(bm:Int×z1'×lB)=>A.ad (IntKind.wrap .i64 (Add.add bm.1 1)=Int.ofNat (k+1)) (Eu Xb Xc n (k+1) bm.2)))
def Io{X:Type}(f:Nat->A X)(v:Int):Nat->A X
 | 0=>f 0
 | n+1=>if v=Int.ofNat (Add.add n 1) then f (n+1) else Io f v n
def Xd{X:Type}(D:z1'×List a8×Int×Int×z1'×lB)(u:Nat):A (V (z1'×List a8×Int×Int×z1'×lB) X):=
 letI a:=List.getD D.2.1 (Int.toNat D.2.2.2.1) (0,0,0,0,0,0);letI r:=D.2.2.2.2.2;letI p:=0<=Int.ofNat u/\Int.ofNat u<Int.ofNat 10;A.ad True (A.ad p (A.ad (0<=a.2.1/\a.2.1<Int.ofNat (List.length D.1)) (A.ad (b_ (Add.add (List.length (mK u r)) (Add.add 0 1))) (A.ad True (A.ad p (A.pure (V.next (D.1,D.2.1,D.2.2.1,D.2.2.2.1,D.2.2.2.2.1,Il u (mK u r++[((a.1,a.2.1,a.2.2.1,a.2.2.2.1,Int.ofNat u,a.2.2.2.2.2),IntKind.wrap .i64 (Add.add a.2.2.1 (List.getD D.1 (Int.toNat a.2.1) 0)))]) r))))))))
def Xe(alh:z1'->A (z1'))(ali:(bx×a8×Int->A Int)×List bx×Unit->A (List bx×Unit))(alj:bx×a8×Int->A Int)(x:z1'×hq):A (Option dP×Bool×hq):=
 A.bind (A.bind (alh x.1) (λy=>A.pure (V.next (x.1,y,x.2.1,x.2.2.1,x.2.2.2.1,x.2.2.2.2.1,x.cZ,x.fb,x.gx,x.h1,x.jW,x.k4,x.hP,x.nm,x.p1,[],[],[],[],[],[],[],[],[],[],())))) (V.bE (λ(D:z1'×z1'×z4'×List a8×z1'×z4'×Int×Int×Int×Int×Int×Int×Int×List a8×List (Option dP)×List bx×List bx×List bx×List bx×List bx×List bx×List bx×List bx×List bx×List bx×Unit)=>A.bind (A.ad True (A.loop (λ(D:z1'×List a8×Int×Int×z1'×lB)=>letI a:=List.getD D.2.1 (Int.toNat D.2.2.2.1) (0,0,0,0,0,0);letI u:=a.2.2.2.2.1;if decide (D.2.2.2.1<D.2.2.1)=true then A.bind (A.ad (0<=D.2.2.2.1/\D.2.2.2.1<Int.ofNat (List.length D.2.1)) (A.ad (0<=u/\u<Int.ofNat 10) (Io (Xd D) u 9))) (V.bE (λ(D:z1'×List a8×Int×Int×z1'×lB)=>A.pure (V.next (D.1,D.2.1,D.2.2.1,IntKind.wrap .i64 (Add.add D.2.2.2.1 1),D.2.2.2.2)))) else A.bind (A.pure (V.next D.2.2.2.2)) λr=>A.pure (V.done r)) (D.1,D.p1,Int.ofNat (List.length D.p1),0,D.2.1,D.yp,D.OD,D.OE,D.OF,D.OG,D.OH,D.akC,D.akD,D.r0,D.En,D.2.2.1,D.2.2.2.1,D.2.2.2.2.1,D.cZ,D.fb,D.gx,D.h1,D.jW,D.k4,D.hP,D.nm,D.p1,D.s8,()))) (V.bE (λ(D:z1'×lB)=>A.bind (A.ad True (A.ad (0=Int.ofNat 0) (Eu ali alj 10 0 D))) (V.bE (λ(D:z1'×lB)=>A.pure (some (D.1,[mK 0 D.2,mK 1 D.2,mK 2 D.2,mK 3 D.2,mK 4 D.2,mK 5 D.2,mK 6 D.2,mK 7 D.2,mK 8 D.2,mK 9 D.2]),true,Xa D.2)))))))
def Xf(alk:Int×Int×(bx×a8×Int->A Int)×List bx×Unit->A (List bx×Unit))(x:Int×Int×Int×(bx×a8×Int->A Int)×List bx×Unit):A (List bx×Unit):=
 A.loop (λ(D:Int×Int×Int×(bx×a8×Int->A Int)×Bool×Bool×List bx×Unit)=>if decide (IntKind.wrap .i64 (D.2.1-D.1)<=12)=true then A.bind (alk (D.1,D.2.1,D.2.2.2.1,D.fb,())) λy=>A.bind (A.pure (y.1,())) λr=>A.pure (V.done r) else A.fail) (x.1,x.2.1,x.2.2.1,x.2.2.2.1,true,true,x.2.2.2.2.1,())
def Xg(OK:z1'×hq->A (hq))(alm:z1'×hq->A (Option dP×Bool×hq))(x:z1'×hq):A (hq):=
 letI d:=Int.ofNat (List.length x.2.1);letI a:=Int.ofNat (List.length x.1);A.ad True (if decide (a=d)=true then A.bind (A.bind (alm (x.1,x.2.1,x.2.2.1,x.2.2.2.1,x.2.2.2.2.1,x.cZ,x.fb,x.gx,x.h1,x.jW,x.k4,x.hP,x.nm,x.p1,())) (λy=>if y.2.1=true then A.ad True (A.ad (b_ (Add.add (List.length y.s8) (Add.add 0 1))) (A.ad True (A.pure (V.next (y.2.2.1,y.2.2.2.1,y.2.2.2.2.1,y.cZ,y.fb,y.gx,y.h1,y.jW,y.k4,y.hP,y.nm,y.p1,y.s8++[y.1],()))))) else A.pure (V.next (y.2.2.1,y.2.2.2.1,y.2.2.2.2.1,y.cZ,y.fb,y.gx,y.h1,y.jW,y.k4,y.hP,y.nm,y.p1,y.s8,())))) (V.bE (λ(D:hq)=>A.pure (D.1,D.2.1,D.2.2.1,D.2.2.2.1,D.2.2.2.2.1,D.cZ,D.fb,D.gx,D.h1,D.jW,D.k4,D.hP,D.nm,()))) else A.ad True (A.ad (0<=a/\a<d) (A.loop (λ(D:z1'×Int×Int×hq)=>letI c:=D.2.2;letI b:=D.2.1;letI e:=List.take (Int.toNat b) D.1;A.ad True (A.ad (0<=b/\b<Int.ofNat (List.length c.2.1)) (if decide (c.1<=(List.getD c.2.1 (Int.toNat b) (0,0)).2)=true then A.ad ((0:Int)<=0/\0<=b/\b=b/\b<=Int.ofNat (List.length D.1)) (A.ad (0<Add.add 0 1/\b_ (Add.add (List.length e) (Add.add 0 1))) (A.bind (OK (e++[c.1],c.2.1,c.2.2.1,D.cZ,D.fb,D.gx,D.h1,D.jW,D.k4,D.hP,D.nm,D.p1,D.s8,D.yp,())) (λy=>A.pure (V.next (D.1,b,IntKind.wrap .i64 (Add.add c.1 1),y.1,y.2.1,y.2.2.1,y.2.2.2.1,y.2.2.2.2.1,y.cZ,y.fb,y.gx,y.h1,y.jW,y.k4,y.hP,y.nm,()))))) else A.bind (A.pure (c.2.1,c.2.2.1,D.cZ,D.fb,D.gx,D.h1,D.jW,D.k4,D.hP,D.nm,D.p1,D.s8,D.yp,())) λr=>A.pure (V.done r)))) (x.1,a,(List.getD x.2.1 (Int.toNat a) (0,0)).1,x.2.1,x.2.2.1,x.2.2.2.1,x.2.2.2.2.1,x.cZ,x.fb,x.gx,x.h1,x.jW,x.k4,x.hP,x.nm,x.p1,()))))
def Xh(aln:Int->A Int)(alo:Int×Int×Int×(bx×a8×Int->A Int)×List bx×Unit->A (List bx×Unit))(x:(bx×a8×Int->A Int)×List bx×Unit):A (List bx×Unit):=
 letI a:=Int.ofNat (List.length x.2.1);A.bind (aln (IntKind.wrap .u64 a)) λy=>A.bind (alo (0,a,y,x.1,x.2.1,())) λy=>A.pure (y.1,())
end Go.Fer.H
