/- Part 4 of the proof of Dropped: shallow programs of Go functions, and what they compute. No condition. -/
import Derived.Test.YtplfnoecifjgeaaGreatDoorDroppedC
import Derived.RangeFuncBound
import Derived.Scope
import Derived.RangeFuncLeaves
import Derived.OpenShut
import Derived.WideKeyArgs
import Derived.ChangeSame
import Derived.Test.YtplfnoecifjgeaaGreatDoorProg
import Derived.KernelRfl
noncomputable section
set_option linter.unusedVariables false
set_option linter.unusedSimpArgs false
namespace Go.Fer
open Go.RowKit
theorem ahX{C:b_}(iI:C.r=none){β:Type}{s:aB}{a:Act}{w:World}(M:cr C s a w){g:Operand}{ps:Array Tmp}{assign body:Code}{re n:Nat}{eT:Nat->aF}(aC:a8 C.aO s.ax g=.r0 re n eT){ic:zK}(Uz:C4 C.P re ic)
    {x:ic.ts.aj} {bV:List Nat} (ai:(iV ic.ts ((List.range n).map eT)).run s.ab=some (x,bV)) {sh rin rout:dH} (eb:nU sh rout ic.aL ps.toList C.nt=true) {nY:sh.aj} (nV:sh.i' (s.cB bV)=some nY) (gH:ic.pre x)
    {run:aB->A (dj×rout.aj)} {k:dj->aB->A β} {O:β->Prop} (hm:A.cw (jM (λD y=>tY sh rin rout ic.aL ps.toList D y run) (ic.seq x) nY) λp=>A.cw (k p.1 (sh.st p.2)) O)
    (Dq:∀ l,G6 C.P C.aO C.nt assign body l run) {Q:Exit->Act->World->Prop}
    (an:∀ u,C.jO u->∀ e s' a' w',cr (C.hl u) s' a' w'->A.cw (k e s') O->Q e.pk a' w'):(Code.rangeFunc g ps assign body).wpIn (dR C.r) 0 C.P Q a w:=by
  obtain⟨κ,F,M⟩:=M;obtain⟨z1,f1,gM,f2⟩:=bl.k_ (p_ _ ai) M;obtain⟨κ,ei,f3,cM⟩:=dH.zU nV gM;have af:=j7 M g;rw[aC]at af;obtain⟨aE,p3,ij,axU⟩:=af;have ahY:fm C.P ic.ts z1 w aE x:=vf M.bE f1 ic.ts ai f2 (by grind) λi G dM=>by
    grind
  have pd:∀ D:sh.aj,(sh.st D).ax b5=.undef:=λD=>by
    simp only[nU,Bool.and_eq_true,Bool.not_eq_true']at eb;exact xA sh.bT db D b5 eb.1.1.1.2
  rw[iI];refine wpIn_rangeFunc λfn _=>?_;have aU:w.heap.size<((w.alloc (.deferred (some []))).alloc (.loop (fa fn a.tmps ps assign body w.heap.size .ready .normal))).heap.size:=by simp;omega
  have ak:w.heap.size+1<((w.alloc (.deferred (some []))).alloc (.loop (fa fn a.tmps ps assign body w.heap.size .ready .normal))).heap.size:=by simp
  have Du:((w.alloc (.deferred (some []))).alloc (.loop (fa fn a.tmps ps assign body w.heap.size .ready .normal))).heap[w.heap.size+1]?=some (.loop (fa fn a.tmps ps assign body w.heap.size .ready .normal)):=by
    have:=p2 (w.alloc (.deferred (some []))) (.loop (fa fn a.tmps ps assign body w.heap.size .ready .normal));simp_all
  have Dv:((w.alloc (.deferred (some []))).alloc (.loop (fa fn a.tmps ps assign body w.heap.size .ready .normal))).heap[w.heap.size]?=some (.deferred (some [])):=
    (o5 _ _ (by simp)).trans (p2 w _)
  have ui:∀ r,r<w.heap.size->((w.alloc (.deferred (some []))).alloc (.loop (fa fn a.tmps ps assign body w.heap.size .ready .normal))).heap[r]?=w.heap[r]?:=λr h=>Us h;have Dw:(Instr.enterLoop fn a.tmps ps assign body none).run C.P w=.ok (w.heap.size+1,[oF w.heap.size]) ((w.alloc (.deferred (some []))).alloc (.loop (fa fn a.tmps ps assign body w.heap.size .ready .normal))):=run_enterLoop_outer fn a.tmps ps assign body;have xM:df w ((w.alloc (.deferred (some []))).alloc (.loop (fa fn a.tmps ps assign body w.heap.size .ready .normal))):=⟨rfl,rfl,rfl⟩
  have MI:((w.alloc (.deferred (some []))).alloc (.loop (fa fn a.tmps ps assign body w.heap.size .ready .normal))).heap.size=w.heap.size+2:=by simp
  generalize (w.alloc (.deferred (some []))).alloc (.loop (fa fn a.tmps ps assign body w.heap.size .ready .normal))=cn at aU ak Du Dv ui Dw xM MI;have qg:c8 ei w cn:=⟨by omega,λr h=>ui r (cM.dd r h)⟩
  have dX:fm C.P ic.ts ei cn aE x:=(ahY.mono f3 (c8.refl _ _)).mono (λ_ h=>h) qg;have eA:bl { C with w0:=cn,F0:=ei,K0:=λ_=>False } (sh.st nY) a cn κ ei:=
    cM.vv cM.dE cM.dfr cM.gi cM.bT (λdG kv e7 iW im e=>by have e:(sh.st nY).ax b5=.aR dG kv e7 iW im:=e;grind)
      (λr h=>ui r (by
        rcases h with h | ⟨b,aa,rfl⟩
        · exact cM.dd r h
        · exact (cM.own b aa).1)) (by omega) (λ_ h=>.inl h) (λ_ h=>h) (λ_ h=>h.elim) (λ_ h=>h.elim) (λ_ _ h=>h) (Nat.le_refl _) (df.refl _)
  have MJ:=Uy (Ut (S:=λT=>T=ic.seq x) (C:=C) (CI:={ C with w0:=cn,F0:=ei,K0:=λ_=>False }) (sh:=sh) (rin:=rin) (rout:=rout) (ps:=ps) (assign:=assign) (body:=body) (a:=a) (fn:=fn) (l:=w.heap.size+1) (B:=w.heap.size) (run:=run) (k:=k) (O:=O)
    rfl (by omega) (by rw[M.dE];omega) (by rw[M.dE];grind))
  have fk:∀ b,((sh.st nY).ab b).body.b1 (κ b)=true->¬((κ b).ab=w.heap.size+1\/(κ b).ab=w.heap.size):=λb aa h=>by
    have:=(cM.own b aa).1;omega
  have vw:=Uz.iw (w.heap.size+1) _ ei (λr=>(∃ b,((sh.st nY).ab b).body.b1 (κ b)=true/\(κ b).ab=r)\/r=w.heap.size+1\/r=w.heap.size) cn aE x dX gH MJ (λr h=>eA.dd r h) eA.iy
    (λr h=>by
      rcases h with⟨b,aa,rfl⟩ | rfl | rfl
      · exact⟨(eA.own b aa).1,(eA.own b aa).2.1⟩
      · exact⟨ak,λh=>by have:=cM.dd _ h;omega⟩
      · exact⟨aU,λh=>by have:=cM.dd _ h;omega⟩)
    ⟨.normal,nY,κ,eA,Du,Dv,λb aa=>⟨.inl ⟨b,aa,rfl⟩,fk b aa⟩,.inr (.inl rfl),.inr (.inr rfl),λh=>by have:=cM.dd _ h;omega,λh=>by have:=cM.dd _ h;omega,rfl,λ_=>⟨rfl,λR jP=>by grind⟩,λh=>by cases h⟩
  refine⟨w.heap.size+1,[oF w.heap.size],cn,{ target:=.fn (.func re) #[],args:=aE.toArray++#[.func (.yield (w.heap.size+1)) #[] #[]] },cn,re,(aE++[Value.func (.yield (w.heap.size+1)) #[] #[]]).toArray,cn,Dw,?_,λ_ _=>trivial,?_,λh=>(by cases h),callsIn_wide.2 (vw.mono λe eY ⟨v,iW,st,F',gz,he,gq,hinv,g1,et,g3,g4,g5,g6,g7⟩=>?_)⟩
  · have e:a.eval (.const (.func (.yield (w.heap.size+1)) #[] #[]))=.func (.yield (w.heap.size+1)) #[] #[]:=rfl
    simp[resolve,p3,Deferred.ofValue,e]
  · have:=Uz.enter (aE++[Value.func (.yield (w.heap.size+1)) #[] #[]]).toArray cn
    simpa [invoke]using this
  subst he;obtain⟨e,D,κ',mv,E,U,ah,aZ,bM,dt,gb,_,iQ,pW⟩:=hinv;refine⟨sA e,_,run_endLoop E (by cases st<;>simp[fa]),?_⟩;have G':w.heap.size+1<eY.heap.size:=(Array.getElem?_eq_some_iff.1 E).1;generalize bd:Obj.loop _=b7;have hJ:A.cw (k e (sh.st D)) O:=by
    cases st with
    | true=>grind
    | false=>
      obtain⟨rfl,fj⟩:=iQ rfl;exact (fj [] (show iW++[]=ic.seq x by grind)).2 _ rfl
  have vp:∀ r,C.K0 r->r<w.heap.size:=λr h=>Nat.lt_of_lt_of_le (M.hv r h) M.size;have ug:∀ r,C.K0 r->(eY.putObj (w.heap.size+1) b7).heap[r]?=C.w0.heap[r]?:=λr h=>by
    have cc:=vp r h;rw[World.putObj_heap_other (by omega),g4 r (by omega) λaS=>?_,ui r cc]
    · exact M.eH r h
    · rcases aS with⟨b,aa,rfl⟩ | rfl | rfl
      · exact (cM.own b aa).2.2 h
      · omega
      · omega
  have xN:df C.w0 (eY.putObj (w.heap.size+1) b7):=by
    have:=(M.er.trans xM).trans g7;exact⟨this.os,this.tape,this.output⟩
  have Ab:C.jO ⟨eY.putObj (w.heap.size+1) b7,λr=>C.K0 r\/r=w.heap.size,[w.heap.size]⟩:=
    { sz := λB aU => by
        have:B=w.heap.size:=by grind
        subst this;exact⟨.inr rfl,(World.putObj_heap_other (by omega)).trans U⟩
      ey:=λB aU=>by
        have:B=w.heap.size:=by grind
        subst this;exact⟨λh=>by grind,M.size⟩
      mu:=by simp
      hn:=λ_ h=>.inl h
      eH:=ug
      size:=by have:=M.size;simp;omega
      er:=xN }
  have nW:cr (C.hl ⟨eY.putObj (w.heap.size+1) b7,λr=>C.K0 r\/r=w.heap.size,[w.heap.size]⟩) (sh.st D) { a with defers:=[oF w.heap.size]++a.defers } (eY.putObj (w.heap.size+1) b7):=by
    have MK:∀ r,F' r->C.F0 r\/¬(C.K0 r\/r=w.heap.size):=λr bc=>by
      rcases et r bc with h | h | h
      · rcases cM.hg r h with de | de
        · exact .inl de
        · exact .inr λan=>an.elim de λe=>by have:=cM.dd r h;omega
      · rcases h with⟨b,aa,rfl⟩ | rfl | rfl
        · exact .inr λan=>an.elim (cM.own b aa).2.2 λe=>fk b aa (.inr e)
        · exact (dt bc).elim
        · exact (gb bc).elim
      grind
    refine⟨κ',F',mv.vv (r:=C.r) mv.dE (by show [oF w.heap.size]++a.defers=_;rw[M.dfr];rfl) mv.gi mv.bT (λdG kv e7 iW im e=>by have e:(sh.st D).ax b5=.aR dG kv e7 iW im:=e;grind)
      (λr h=>World.putObj_heap_other λe=>by
        grind) (by simp) MK (λr h=>g1 r (cM.hS r h)) (λr h=>?_) (λ_ _=>rfl) (λb aa h=>?_) (Nat.le_refl _) (df.refl _)⟩
    · simp only[World.putObj_size]
      grind
    · rcases h with h | h
      · rcases (g5 _ (ah b aa).1).1 with aS | aS
        · rcases aS with⟨be,cW,e⟩ | e | e
          · exact (cM.own be cW).2.2 (e ▸ h)
          · exact (ah b aa).2 (.inl e)
          · exact (ah b aa).2 (.inr e)
        grind
      grind
  have bq:=an _ Ab e _ _ _ nW hJ;cases e with
  | normal=>exact bq
  | exit id=>exact wpIn_exit bq
  | ret=>exact wpIn_ret bq
theorem ahZ{C:b_}(iI:C.r=none){β:Type}{s:aB}{a:Act}{w:World}(M:cr C s a w){g:Operand}{ps:Array Tmp}{assign body:Code}{aL:ad}{S:List aL.aj->Prop}(aC:a8 C.aO s.ax g=.val (.cu aL) S)
    {sh rin rout:dH} (eb:nU sh rout aL ps.toList C.nt=true) {nY:sh.aj} (nV:sh.i' s=some nY) (eD:∃ L,S L)
    {run:aB->A (dj×rout.aj)} {k:dj->aB->A β} {O:β->Prop} (hm:∀ L,S L->A.cw (jM (λD y=>tY sh rin rout aL ps.toList D y run) L nY) λp=>A.cw (k p.1 (sh.st p.2)) O)
    (Dq:∀ l,G6 C.P C.aO C.nt assign body l run) {Q:Exit->Act->World->Prop}
    (an:∀ u,C.jO u->∀ e s' a' w',cr (C.hl u) s' a' w'->A.cw (k e s') O->Q e.pk a' w'):(Code.rangeFunc g ps assign body).wpIn (dR C.r) 0 C.P Q a w:=by
  obtain⟨κ,F,M⟩:=M;obtain⟨κ,ei,f3,cM⟩:=dH.zU nV M;have af:=j7 M g;rw[aC]at af;have p3:=fe _ f3 (c8.refl _ _) ((dT rfl).1 af).2;simp only[bJ]at p3;obtain⟨u,hu,_,ah0⟩:=p3;have hu:=(List.cons.inj hu).1;have pd:∀ D:sh.aj,(sh.st D).ax b5=.undef:=λD=>by
    simp only[nU,Bool.and_eq_true,Bool.not_eq_true']at eb;exact xA sh.bT db D b5 eb.1.1.1.2
  rw[iI];refine wpIn_rangeFunc λfn _=>?_;have aU:w.heap.size<((w.alloc (.deferred (some []))).alloc (.loop (fa fn a.tmps ps assign body w.heap.size .ready .normal))).heap.size:=by simp;omega
  have ak:w.heap.size+1<((w.alloc (.deferred (some []))).alloc (.loop (fa fn a.tmps ps assign body w.heap.size .ready .normal))).heap.size:=by simp
  have Du:((w.alloc (.deferred (some []))).alloc (.loop (fa fn a.tmps ps assign body w.heap.size .ready .normal))).heap[w.heap.size+1]?=some (.loop (fa fn a.tmps ps assign body w.heap.size .ready .normal)):=by
    have:=p2 (w.alloc (.deferred (some []))) (.loop (fa fn a.tmps ps assign body w.heap.size .ready .normal));simp_all
  have Dv:((w.alloc (.deferred (some []))).alloc (.loop (fa fn a.tmps ps assign body w.heap.size .ready .normal))).heap[w.heap.size]?=some (.deferred (some [])):=
    (o5 _ _ (by simp)).trans (p2 w _)
  have ui:∀ r,r<w.heap.size->((w.alloc (.deferred (some []))).alloc (.loop (fa fn a.tmps ps assign body w.heap.size .ready .normal))).heap[r]?=w.heap[r]?:=λr h=>Us h;have Dw:(Instr.enterLoop fn a.tmps ps assign body none).run C.P w=.ok (w.heap.size+1,[oF w.heap.size]) ((w.alloc (.deferred (some []))).alloc (.loop (fa fn a.tmps ps assign body w.heap.size .ready .normal))):=run_enterLoop_outer fn a.tmps ps assign body;have xM:df w ((w.alloc (.deferred (some []))).alloc (.loop (fa fn a.tmps ps assign body w.heap.size .ready .normal))):=⟨rfl,rfl,rfl⟩
  have MI:((w.alloc (.deferred (some []))).alloc (.loop (fa fn a.tmps ps assign body w.heap.size .ready .normal))).heap.size=w.heap.size+2:=by simp
  generalize (w.alloc (.deferred (some []))).alloc (.loop (fa fn a.tmps ps assign body w.heap.size .ready .normal))=cn at aU ak Du Dv ui Dw xM MI;have qg:c8 ei w cn:=⟨by omega,λr h=>ui r (cM.dd r h)⟩
  have eA:bl { C with w0:=cn,F0:=ei,K0:=λ_=>False } (sh.st nY) a cn κ ei:=
    cM.vv cM.dE cM.dfr cM.gi cM.bT (λdG kv e7 iW im e=>by have e:(sh.st nY).ax b5=.aR dG kv e7 iW im:=e;grind)
      (λr h=>ui r (by
        rcases h with h | ⟨b,aa,rfl⟩
        · exact cM.dd r h
        · exact (cM.own b aa).1)) (by omega) (λ_ h=>.inl h) (λ_ h=>h) (λ_ h=>h.elim) (λ_ h=>h.elim) (λ_ _ h=>h) (Nat.le_refl _) (df.refl _)
  have MJ:=Ut (S:=S) (C:=C) (CI:={ C with w0:=cn,F0:=ei,K0:=λ_=>False }) (sh:=sh) (rin:=rin) (rout:=rout) (ps:=ps) (assign:=assign) (body:=body) (a:=a) (fn:=fn) (l:=w.heap.size+1) (B:=w.heap.size) (run:=run) (k:=k) (O:=O)
    rfl (by omega) (by rw[M.dE];omega) (by rw[M.dE];grind)
  have fk:∀ b,((sh.st nY).ab b).body.b1 (κ b)=true->¬((κ b).ab=w.heap.size+1\/(κ b).ab=w.heap.size):=λb aa h=>by
    have:=(cM.own b aa).1;omega
  obtain⟨re,c6,ah1,sr,LQ⟩:=ah0 ei cn (λ_ h=>h) qg (λr h=>eA.dd r h) eA.iy eD;have vw:=LQ (w.heap.size+1) _ (λr=>(∃ b,((sh.st nY).ab b).body.b1 (κ b)=true/\(κ b).ab=r)\/r=w.heap.size+1\/r=w.heap.size)
    (λr h=>by
      rcases h with⟨b,aa,rfl⟩ | rfl | rfl
      · exact⟨(eA.own b aa).1,(eA.own b aa).2.1⟩
      · exact⟨ak,λh=>by have:=cM.dd _ h;omega⟩
      · exact⟨aU,λh=>by have:=cM.dd _ h;omega⟩)
    MJ ⟨.normal,nY,κ,eA,Du,Dv,λb aa=>⟨.inl ⟨b,aa,rfl⟩,fk b aa⟩,.inr (.inl rfl),.inr (.inr rfl),λh=>by have:=cM.dd _ h;omega,λh=>by have:=cM.dd _ h;omega,rfl,λ_=>⟨rfl,λR jP=>hm R jP⟩,λh=>by cases h⟩
  refine⟨w.heap.size+1,[oF w.heap.size],cn,{ target:=.fn (.func re) c6,args:=#[.func (.yield (w.heap.size+1)) #[] #[]] },cn,re,#[Value.func (.yield (w.heap.size+1)) #[] #[]]++c6,cn,Dw,?_,λ_ _=>trivial,?_,λh=>(by cases h),callsIn_wide.2 (vw.mono λe eY ⟨v,pre,st,F',gz,he,gq,hinv,g1,et,g3,g4,g5,g6,ML⟩=>?_)⟩
  · have e:a.eval (.const (.func (.yield (w.heap.size+1)) #[] #[]))=.func (.yield (w.heap.size+1)) #[] #[]:=rfl
    simp[resolve,hu,ah1,Deferred.ofValue,e]
  · have:=sr (#[Value.func (.yield (w.heap.size+1)) #[] #[]]++c6) cn
    simpa [invoke]using this
  have g7:df cn eY:=⟨ML.1,ML.2.1,ML.2.2⟩
  subst he;obtain⟨e,D,κ',mv,E,U,ah,aZ,bM,dt,gb,_,iQ,pW⟩:=hinv;refine⟨sA e,_,run_endLoop E (by cases st<;>simp[fa]),?_⟩;have G':w.heap.size+1<eY.heap.size:=(Array.getElem?_eq_some_iff.1 E).1;generalize bd:Obj.loop _=b7;have hJ:A.cw (k e (sh.st D)) O:=by
    cases st with
    | true=>grind
    | false=>
      obtain⟨rfl,fj⟩:=iQ rfl;exact (fj [] (show S (pre++[]) by grind)).2 _ rfl
  have vp:∀ r,C.K0 r->r<w.heap.size:=λr h=>Nat.lt_of_lt_of_le (M.hv r h) M.size;have ug:∀ r,C.K0 r->(eY.putObj (w.heap.size+1) b7).heap[r]?=C.w0.heap[r]?:=λr h=>by
    have cc:=vp r h;rw[World.putObj_heap_other (by omega),g4 r (by omega) λaS=>?_,ui r cc]
    · exact M.eH r h
    · rcases aS with⟨b,aa,rfl⟩ | rfl | rfl
      · exact (cM.own b aa).2.2 h
      · omega
      · omega
  have xN:df C.w0 (eY.putObj (w.heap.size+1) b7):=by
    have:=(M.er.trans xM).trans g7;exact⟨this.os,this.tape,this.output⟩
  have Ab:C.jO ⟨eY.putObj (w.heap.size+1) b7,λr=>C.K0 r\/r=w.heap.size,[w.heap.size]⟩:=
    { sz := λB aU => by
        have:B=w.heap.size:=by grind
        subst this;exact⟨.inr rfl,(World.putObj_heap_other (by omega)).trans U⟩
      ey:=λB aU=>by
        have:B=w.heap.size:=by grind
        subst this;exact⟨λh=>by grind,M.size⟩
      mu:=by simp
      hn:=λ_ h=>.inl h
      eH:=ug
      size:=by have:=M.size;simp;omega
      er:=xN }
  have nW:cr (C.hl ⟨eY.putObj (w.heap.size+1) b7,λr=>C.K0 r\/r=w.heap.size,[w.heap.size]⟩) (sh.st D) { a with defers:=[oF w.heap.size]++a.defers } (eY.putObj (w.heap.size+1) b7):=by
    have MK:∀ r,F' r->C.F0 r\/¬(C.K0 r\/r=w.heap.size):=λr bc=>by
      rcases et r bc with h | h | h
      · rcases cM.hg r h with de | de
        · exact .inl de
        · exact .inr λan=>an.elim de λe=>by have:=cM.dd r h;omega
      · rcases h with⟨b,aa,rfl⟩ | rfl | rfl
        · exact .inr λan=>an.elim (cM.own b aa).2.2 λe=>fk b aa (.inr e)
        · exact (dt bc).elim
        · exact (gb bc).elim
      grind
    refine⟨κ',F',mv.vv (r:=C.r) mv.dE (by show [oF w.heap.size]++a.defers=_;rw[M.dfr];rfl) mv.gi mv.bT (λdG kv e7 iW im e=>by have e:(sh.st D).ax b5=.aR dG kv e7 iW im:=e;grind)
      (λr h=>World.putObj_heap_other λe=>by
        grind) (by simp) MK (λr h=>g1 r (cM.hS r h)) (λr h=>?_) (λ_ _=>rfl) (λb aa h=>?_) (Nat.le_refl _) (df.refl _)⟩
    · simp only[World.putObj_size]
      grind
    · rcases h with h | h
      · rcases (g5 _ (ah b aa).1).1 with aS | aS
        · rcases aS with⟨be,cW,e⟩ | e | e
          · exact (cM.own be cW).2.2 (e ▸ h)
          · exact (ah b aa).2 (.inl e)
          · exact (ah b aa).2 (.inr e)
        grind
      grind
  have bq:=an _ Ab e _ _ _ nW hJ;cases e with
  | normal=>exact bq
  | exit id=>exact wpIn_exit bq
  | ret=>exact wpIn_ret bq
end Go.Fer
namespace Go.Fer
open Go.RowKit
open A (W)
section
variable {F:Fence} {n:Nat} {P:Program} {Q:Exit->Act->World->Prop} {a:Act} {w:World}
theorem ah2{c:Code}{Hd β:Type}{body:Hd->A (W Hd β)}{O:β->Prop}(I:Hd->Act->World->Prop)
  (round:∀ D a w,I D a w->(body D).cq->(∀ r,(body D).bQ (.done r)->O r)->c.wpIn F n P (Exit.then (λa' w'=>∃ iF,(body D).bQ (.next iF)/\I iF a' w') Q) a w)
  {D:Hd} (aD:A.BM body D) (ag:∀ r,A.yV body D r->O r) (eA:I D a w):(Code.loop c).wpIn F n P Q a w:=by
 intro b k cs rm aa M;have key:∀ D,A.BM body D->(∀ r,A.yV body D r->O r)->∀ a w,I D a w->
   ∃ e a' w',Q e a' w'/\ArrivesIn (Machine.fenced P F) P (lone (b.atR a (.code c::.inLoop c::k)) cs w) b k cs e a' w':=by
  intro D aD;induction aD with
  | mk D h _ aJ=>
   intro ag a w eA;obtain⟨e,lW,lX,bq,e'⟩:=round D a w eA h (λr M=>ag r (.done _ _ M)) b (.inLoop c::k) cs rm aa M;cases e with
   | normal=>
    obtain⟨iF,ql,ah3⟩:=bq;obtain⟨MM,MN,MO,MP,MQ⟩:=aJ iF ql (λr M=>ag r (.next _ _ _ ql M)) lW lX ah3;exact⟨MM,MN,MO,MP,.of_steps (StepsIn.trans e' (.one (fenced_calm aa M rfl) stepR_inLoop)) MQ⟩
   | exit id=>exact⟨_,lW,lX,bq,.pass (x:=.inLoop c) rfl (λ_ _=>.inl (by simp)) e'⟩
   | goto l=>exact⟨_,lW,lX,bq,.pass (x:=.inLoop c) rfl (λ_ _=>.inl (by simp)) e'⟩
   | ret=>exact⟨_,lW,lX,bq,.pass (x:=.inLoop c) rfl (λ_ _=>.inl (by simp)) e'⟩
   | panic MR=>exact⟨_,lW,lX,bq,.pass (x:=.inLoop c) rfl (λ_ _=>.inl (by simp)) e'⟩
   | outgrown=>exact⟨_,lW,lX,bq,.pass (x:=.inLoop c) rfl (λ_ _=>.inl (by simp)) e'⟩
 obtain⟨e,a',w',bq,e'⟩:=key D aD ag a w eA;exact⟨e,a',w',bq,.of_steps (.one (fenced_calm aa M rfl) stepR_loop) e'⟩
theorem ah4{p q:Prop}(bq:q)(h:q->p):p/\q:=⟨h bq,bq⟩
def He(F:Fence)(n:Nat)(P:Program)(c:Code)(Q:Exit->Act->World->Prop)(a:Act)(w:World):Prop:=
 ∀ (b:Frame) (k:List Item) (cs:List Frame),b.roundOf=F.round->F.fn b.fn->F.room (cs.length+1+n)->
  ∃ e a' w',Q e a' w'/\ArrivesIn (Machine.fenced P F) P (lone (b.atR a (.code c::.inLoop c::k)) cs w) b k cs e a' w'
theorem ah5{c:Code}(h:He F n P c Q a w):(Code.loop c).wpIn F n P Q a w:=λb k cs rm aa M=>by
 obtain⟨e,a',w',bq,e'⟩:=h b k cs rm aa M;exact⟨e,a',w',bq,.of_steps (.one (fenced_calm aa M rfl) stepR_loop) e'⟩
theorem ah6{c:Code}(h:c.wpIn F n P (Exit.then (λa' w'=>He F n P c Q a' w') Q) a w):He F n P c Q a w:=λb k cs rm aa M=>by
 obtain⟨e,lW,lX,bq,e'⟩:=h b (.inLoop c::k) cs rm aa M;cases e with
 | normal=>
  obtain⟨MM,MN,MO,MP,MQ⟩:=bq b k cs rm aa M;exact⟨MM,MN,MO,MP,.of_steps (StepsIn.trans e' (.one (fenced_calm aa M rfl) stepR_inLoop)) MQ⟩
 | exit id=>exact⟨_,lW,lX,bq,.pass (x:=.inLoop c) rfl (λ_ _=>.inl (by simp)) e'⟩
 | goto l=>exact⟨_,lW,lX,bq,.pass (x:=.inLoop c) rfl (λ_ _=>.inl (by simp)) e'⟩
 | ret=>exact⟨_,lW,lX,bq,.pass (x:=.inLoop c) rfl (λ_ _=>.inl (by simp)) e'⟩
 | panic MR=>exact⟨_,lW,lX,bq,.pass (x:=.inLoop c) rfl (λ_ _=>.inl (by simp)) e'⟩
 | outgrown=>exact⟨_,lW,lX,bq,.pass (x:=.inLoop c) rfl (λ_ _=>.inl (by simp)) e'⟩
theorem Ac{b:Frame}{k:List Item}{cs:List Frame}{c:Code}:step P (lone (b.atR a (.code (.scope c)::k)) cs w)=.next (lone (b.atR a (.code c::.inScope c::k)) cs w):=
 step_lone_go (by rfl)
theorem ah7{b:Frame}{k:List Item}{cs:List Frame}{c:Code}:step P (lone (b.atR a (.inScope c::k)) cs w)=.next (lone (b.atR a k) cs w):=
 step_lone_go (by rfl)
theorem ah8{c:Code}(h:c.wpIn F n P (Exit.noGoto Q) a w):(Code.scope c).wpIn F n P Q a w:=by
 intro b k cs rm aa M;have aX:(lone (b.atR a (.code (.scope c)::k)) cs w).fenced P F:=fenced_calm aa M rfl;obtain⟨e,lW,lX,bq,e'⟩:=h b (.inScope c::k) cs rm aa M;cases e with
 | normal=>exact⟨.normal,lW,lX,bq,.head aX Ac (StepsIn.trans e' (.one (fenced_calm aa M rfl) ah7))⟩
 | exit id=>
  have ai:exitTo id (.inScope c::k)=exitTo id k:=by rfl
  exact⟨.exit id,lW,lX,bq,λk' an=>.head aX Ac (e'.1 k' (by grind)),λbc an=>let ⟨k₁,E,U⟩:=e'.2 bc (by grind);⟨k₁,E,.head aX Ac U⟩⟩
 | goto l=>exact bq.elim
 | ret=>exact⟨.ret,lW,lX,bq,.of_steps (.one aX Ac) e'⟩
 | panic MR=>exact⟨.panic MR,lW,lX,bq,.of_steps (.one aX Ac) e'⟩
 | outgrown=>exact⟨.outgrown,lW,lX,bq,.of_steps (.one aX Ac) e'⟩
end
section
variable {T:Nat->ad} {bg:Nat->Option aP} {Ψ:Nat->Option eV}
def MS{D β:Type}(m:A (W D β))(O:β->Prop)(st:W D β):Prop:=
 match st with
 | .next s=>m.bQ (.next s)
 | .done r=>O r
theorem ah9{C:b_}{s s':aB}{i:Nat}{a:Act}{w:World}(h:Lx s i=some s')(M:cr C s a w):cr C s' a w:=by
 obtain⟨κ,F,M⟩:=M;unfold Lx at h;split at h
 ·rename_i b g n off aD;split at h
  ·rename_i e xs bS;split at h
   ·rename_i aC;cases h;have af:=M.bT i;rw[aD]at af;obtain⟨aW,aY,bO⟩:=af.2 aC (by rw[bS];rfl);rw[bS]at aW bO;have aU:=M.bE b;unfold cE at aU;rw[bS]at aU;obtain⟨cs,T,bF,c2,c3,c4,c5⟩:=aU.2 aY;have aW:n<xs.length:=aW;obtain⟨bj,d1,d2⟩:=c5 n aW;have d2:bJ C.P (.slice e) F w bj xs[n]:=d2;obtain⟨u,rfl,hu⟩:=BS (t:=.slice e) rfl d2;have tD:cs.getD ((κ b).off+n) Go.undef=u:=by
     have:=d1 0 (by simp);simp only[ad.size,Nat.mul_one,Nat.add_zero]at this;rw[Array.getD_eq_getD_getElem?,this];rfl
    have gn:fo s.ab κ (λq=>if q=b then (⟨g,.gh (.st (.slice e)) xs n (.val (.slice e) (xs.getD n []))⟩:bK) else s.ab q) κ:=
     qP aC (λh=>by cases h) (λ_=>by rw[bS];exact⟨rfl,rfl,rfl⟩) (λh=>by cases h) (λh=>by cases h)
    have cM:=M.o6 (b:=b) (x:=⟨g,.gh (.st (.slice e)) xs n (.val (.slice e) (xs.getD n []))⟩) (w':=w) (by rw[bS];simp[bP.b1,aY]) (by simp[bP.b1,aY]) gn (λh=>by cases h) (λh=>by cases h) (λ_ _=>rfl) rfl (df.refl w) λH mP cc he=>
     ⟨aY,cs,T,bF,c2,c3,c4,⟨rfl,aW⟩,λj aG _=>c5 j aG,by rw[tD,show xs.getD n []=xs[n] by simp[aW]];exact (dT rfl).2 ⟨hu,d2⟩,by rw[tD];exact JX (t:=.slice e) rfl d2⟩
    refine⟨κ,F,{ cM with bT:=λj=>?_,dE:=cM.dE,dfr:=cM.dfr,bE:=cM.bE,eB:=λl aL L m st a1=>?_ }⟩
    ·show bu _ _ _ _ _ (if j=i then _ else _) _;split
     ·rename_i aG;subst aG;refine⟨⟨by show g<=(if b=b then _ else _:bK).gen;simp,af.1.2⟩,λ_ _=>?_⟩;show _<(if b=b then _ else _:bK).body.len/\_/\_=Value.pointer (some ⟨_,_+_*(if b=b then _ else _:bK).body.e4,_⟩);simp only[if_true];exact⟨aW,aY,bO⟩
     ·exact cM.bT j
    ·have a1:(if b5=i then _ else _)=aF.aR l aL L m st:=a1;split at a1
     ·cases a1
     ·exact cM.eB l aL L m st a1
   ·cases h
  ·cases h
 ·cases h
theorem ah_{C:b_}{s s':aB}{b:Nat}{a:Act}{w:World}(h:Ly s b=some s')(M:cr C s a w):cr C s' a w:=by
 obtain⟨κ,F,M⟩:=M;unfold Ly at h;split at h
 ·rename_i e xs n v bS;split at h
  ·rename_i y bV aS;split at h
   ·cases h
   ·rename_i p8;cases h;have p8:b ∉ bV:=by simpa using p8
    obtain⟨F',f1,bc,f2⟩:=bl.k_ (mO aS) M;have zq:(s.cB bV).ab b=s.ab b:=by simp[aB.cB,p8]
    have aU:=M.bE b;have MT:=bc.bE b;unfold cE at aU MT;rw[zq,bS]at MT;rw[bS]at aU;obtain⟨aX,cs,T,bF,c2,c3,c4,c5,lK,oq,w2⟩:=MT;obtain⟨_,di,hW,UA,_,_,_,_,_,ah',_⟩:=aU;rw[bF]at UA;cases UA;have vb:=mf M.bE f1 aS f2 ah';obtain⟨G8,oG⟩:=(dT rfl).1 vb;have gn:fo (s.cB bV).ab κ (λq=>if q=b then (⟨(s.ab b).gen,.bf (.st (.slice e)) (xs.set n y)⟩:bK) else (s.cB bV).ab q) κ:=
     qP (by rw[zq]) (λh=>by cases h) (λ_=>by rw[zq,bS];exact⟨rfl,by simp[bP.len],rfl⟩) (λh=>by cases h) (λh=>by cases h)
    refine⟨κ,F',bc.o6 (b:=b) (w':=w) (by rw[zq,bS];simp[bP.b1,aX]) (by simp[bP.b1,aX]) gn (λh=>by cases h) (λh=>by cases h) (λ_ _=>rfl) rfl (df.refl w) λH mP cc he=>⟨λaA=>(by rw[aX]at aA;cases aA),λ_=>⟨cs,T,bF,c2,by simpa using c3,c4,λj aG=>?_⟩⟩⟩;by_cases qN:j=n
    ·subst qN;refine⟨[cs.getD ((κ b).off+j) Go.undef],λq bq=>?_,?_⟩
     ·have bq:q=0:=by simpa using bq
      subst bq;have:(κ b).off+j<cs.size:=by
       have:=c5.2;simp only[ad.size,Nat.mul_one]at c2;omega
      simp[ad.size,this]
     ·rw[List.getElem_set_self];exact oG
    ·obtain⟨bj,d1,d2⟩:=lK j (by simpa using aG) qN;exact⟨bj,d1,by rw[List.getElem_set_ne (Ne.symm qN)];exact d2⟩
  ·cases h
 ·cases h
theorem aia{C:b_}{s s':aB}{i:Nat}{a:Act}{w:World}(h:Lz s i=some s')(M:cr C s a w):cr C s' a w:=by
  obtain⟨κ,F,M⟩:=M;have af:=M.bT i;have key:∀ av:aF,bu C.P s.ab κ F w av (a.tmps.getD i Go.undef)->(∀ l aL L n st,av≠.aR l aL L n st)->cr C ⟨λj=>if j=i then av else s.ax j,s.ab⟩ a w:=λav af aA=>
    ⟨κ, F, { M with
      bT:=λj=>by
        show bu _ _ _ _ _ (if j=i then av else s.ax j) _;split
        · rename_i e;subst e;exact af
        · exact M.bT j
      bE:=M.bE
      eB:=λl aL L n st e=>by
        have a1:(if b5=i then av else s.ax b5)=aF.aR l aL L n st:=e;split at a1
        · exact absurd a1 (aA l aL L n st)
        · exact M.eB l aL L n st a1 }⟩
  unfold Lz at h;split at h
  · rename_i b g aD
    rw[aD]at af
    split at h
    · rename_i e xs aa
      split at h
      · rename_i aC
        cases h
        have bb:(s.ab b).body.e3=true:=by rw[aa];rfl
        have ak:(s.ab b).body.len=xs.length:=by rw[aa];rfl
        have aA:=w3 M bb
        obtain⟨p,c,he⟩:=RQ (k:=κ b) aA.1
        rw[ak]at aA he
        exact key (.tv b g _) ⟨af,⟨p,c,by rw[af.2 aC bb,ak,he]⟩,aA.2⟩ λ_ _ _ _ _ h=>by cases h
      · cases h
    · cases h
  · rename_i b g n aD
    rw[aD]at af
    cases h
    exact key (.wR n) af.2 λ_ _ _ _ _ h=>by cases h
  · cases h
theorem aib:∀ (ann:cy),(∀ (C:b_) (_:C.P.follows .mixedOrders=true) (_:dS C.P T) (_:jm C.P bg) (_:lV C.P C.aO Ψ) (_:C.r=none\/ann.ed=true) {β:Type} (c:Code) (s:aB) (k:dj->aB->A β) (O:β->Prop) (Q:Exit->Act->World->Prop) (a:Act) (w:World),lj C.nt c=true->cr C s a w->A.cw (ez C.aO T bg Ψ ann c s k) O->(∀ u,C.jO u->∀ e s' a' w',cr (C.hl u) s' a' w'->A.cw (k e s') O->Q e.pk a' w')->c.wpIn (dR C.r) 0 C.P Q a w)/\(ann.nT=true->∀ (C:b_) (_:C.P.follows .mixedOrders=true) (_:dS C.P T) (_:jm C.P bg) (_:lV C.P C.aO Ψ) (_:C.r=none\/ann.ed=true) {β:Type} (c:Code) (s:aB) (k:dj->aB->A β) (O:β->Prop) (Q:Exit->Act->World->Prop) (a:Act) (w:World),lj C.nt c=true->cr C s a w->A.cw (ez C.aO T bg Ψ ann (.loop c) s k) O->(∀ u,C.jO u->∀ e s' a' w',cr (C.hl u) s' a' w'->A.cw (k e s') O->Q e.pk a' w')->He (dR C.r) 0 C.P c Q a w):=by
 intro ann;induction ann with
 | eN=>
  refine⟨?_,λ_ C ec aV cv cT fB β c s k O Q a w hc M hm an=>by unfold ez at hm;exact (gr hm).elim⟩;intro C ec aV cv cT fB β c s k O Q a w hc M hm an;unfold ez at hm;split at hm
  ·rename_i id ops draw;cases draw with
   | true=>exact ahu ec aV (TP cv cT) cT (λo ag=>List.all_eq_true.1 hc o ag) (λs' a' w' bc fj=>an C.hF C.vu .normal s' a' w' bc fj) M hm
   | false=>
    refine wpIn_region ?_;have:=Mj (Q:=Q) (ops:=ops) aV cv cT (λo ag=>List.all_eq_true.1 hc o ag) (k:=k .normal) (O:=O) (λs' a' w' bc fj=>an C.hF C.vu .normal s' a' w' bc fj) ops.toList 0 [] s a w (by simp) (λp ao=>by cases ao) M hm;rw[List.range_eq_range'];omega
  ·exact wpIn_skip (an C.hF C.vu .normal s a w M hm)
  ·exact wpIn_label (an C.hF C.vu .normal s a w M hm)
  ·exact wpIn_exit (an C.hF C.vu (.exit _) s a w M hm)
  ·exact wpIn_ret (an C.hF C.vu .ret s a w M hm)
  ·exact (gr hm).elim
 | seq x y hz ln=>
  have hz:=hz.1;have ln:=ln.1;refine⟨?_,λh=>by simp[cy.nT]at h⟩;intro C ec aV cv cT fB β c s k O Q a w hc M hm an;have lY:C.r=none\/x.ed=true:=fB.imp id λh=>by simp only[cy.ed,Bool.and_eq_true]at h;grind
  have qm:C.r=none\/y.ed=true:=fB.imp id λh=>by simp only[cy.ed,Bool.and_eq_true]at h;grind
  unfold ez at hm;split at hm
  ·rename_i nZ Ad;simp only[lj,Bool.and_eq_true]at hc;refine wpIn_seq (hz C ec aV cv cT lY nZ s _ O _ a w hc.1 M hm λu hu e s' a' w' bc fj=>?_);cases e with
   | normal=>exact ln (C.hl u) ec aV cv cT qm Ad s' k O Q a' w' hc.2 bc fj λv af=>by rw[b_.z'];exact an _ (hu.then af)
   | exit id=>exact an u hu (.exit id) s' a' w' bc fj
   | ret=>exact an u hu .ret s' a' w' bc fj
  ·exact (gr hm).elim
 | join sh x y hz ln=>
  have hz:=hz.1;have ln:=ln.1;refine⟨?_,λh=>by simp[cy.nT]at h⟩;intro C ec aV cv cT fB β c s k O Q a w hc M hm an;have lY:C.r=none\/x.ed=true:=fB.imp id λh=>by simp only[cy.ed,Bool.and_eq_true]at h;grind
  have qm:C.r=none\/y.ed=true:=fB.imp id λh=>by simp only[cy.ed,Bool.and_eq_true]at h;grind
  unfold ez at hm;split at hm
  ·rename_i nZ Ad;simp only[lj,Bool.and_eq_true]at hc;rw[A.fX]at hm;refine wpIn_seq (hz C ec aV cv cT lY nZ s _ _ _ a w hc.1 M hm λu hu e s' a' w' bc fj=>?_);cases e with
   | normal=>
    obtain⟨D,nV,U⟩:=uf fj;have ah:=A.d'.1 U;exact ln (C.hl u) ec aV cv cT qm Ad _ k O Q a' w' hc.2 (dH.xv nV bc) ah λv af=>by rw[b_.z'];exact an _ (hu.then af)
   | exit id=>
    simp only[xt,A.fX,A.d',W.bB]at fj;exact an u hu (.exit id) s' a' w' bc fj
   | ret=>
    simp only[xt,A.fX,A.d',W.bB]at fj;exact an u hu .ret s' a' w' bc fj
  ·exact (gr hm).elim
 | cond x y hz ln=>
  have hz:=hz.1;have ln:=ln.1;refine⟨?_,λh=>by simp[cy.nT]at h⟩;intro C ec aV cv cT fB β c s k O Q a w hc M hm an;have lY:C.r=none\/x.ed=true:=fB.imp id λh=>by simp only[cy.ed,Bool.and_eq_true]at h;grind
  have qm:C.r=none\/y.ed=true:=fB.imp id λh=>by simp only[cy.ed,Bool.and_eq_true]at h;grind
  unfold ez at hm;split at hm
  ·rename_i co nZ Ad;simp only[lj,Bool.and_eq_true]at hc;unfold S4 at hm;split at hm
   ·rename_i t hu;obtain⟨κ,F,eX⟩:=M;have af:=j7 eX co;rw[hu]at af;refine wpIn_cond_split (ff.1 af) (λaK=>?_) (λaK=>?_)
    ·subst aK;exact hz C ec aV cv cT lY nZ s k O Q a w hc.1 ⟨κ,F,eX⟩ hm an
    ·subst aK;exact ln C ec aV cv cT qm Ad s k O Q a w hc.2 ⟨κ,F,eX⟩ hm an
   ·rename_i g t hu;rw[A.kI]at hm;obtain⟨bd,hm⟩:=hm;obtain⟨κ,F,eX⟩:=M;have af:=j7 eX co;rw[hu]at af;refine wpIn_cond_split (ff.1 (af.1 bd)) (λaK=>?_) (λaK=>?_)
    ·subst aK;exact hz C ec aV cv cT lY nZ s k O Q a w hc.1 ⟨κ,F,eX⟩ hm an
    ·subst aK;exact ln C ec aV cv cT qm Ad s k O Q a w hc.2 ⟨κ,F,eX⟩ hm an
   ·exact (gr hm).elim
  ·exact (gr hm).elim
 | block x hz=>
  have hz:=hz.1;refine⟨?_,λh=>by simp[cy.nT]at h⟩;intro C ec aV cv cT fB β c s k O Q a w hc M hm an;have lY:C.r=none\/x.ed=true:=fB;unfold ez at hm;split at hm
  ·rename_i id nZ;refine wpIn_block (hz C ec aV cv cT lY nZ s _ O _ a w hc M hm λu hu e s' a' w' bc fj=>?_);cases e with
   | normal=>exact an u hu .normal s' a' w' bc fj
   | exit Gr=>
    simp only[S3]at fj;simp only[dj.pk,Exit.inBlock];split at fj
    ·rename_i e;rw[if_pos e];exact an u hu .normal s' a' w' bc fj
    ·rename_i e;rw[if_neg e];exact an u hu (.exit Gr) s' a' w' bc fj
   | ret=>exact an u hu .ret s' a' w' bc fj
  ·exact (gr hm).elim
 | loop sh x hz=>
  have hz:=hz.1;refine⟨?_,λh=>by simp[cy.nT]at h⟩;intro C ec aV cv cT fB β c s k O Q a w hc M hm an;have lY:C.r=none\/x.ed=true:=fB;unfold ez at hm;split at hm
  ·rename_i nZ;obtain⟨D,nV,U⟩:=uf hm;refine ah2 (I:=λD a w=>∃ u,C.jO u/\cr (C.hl u) (sh.st D) a w) (O:=O) (λD a w ⟨v,af,eA⟩ q3 Dc=>?_) U.1 U.2 ⟨C.hF,C.vu,dH.xv nV M⟩;refine hz (C.hl v) ec aV cv cT lY nZ (sh.st D) _ (MS (ez C.aO T bg Ψ x nZ (sh.st D) (xt k λs'=>sh.mX s' λiF=>A.pure (W.next iF))) O) _ a w hc eA ⟨q3,λst gq=>?_⟩ λu hu e s' a' w' bc fj=>?_
   ·cases st with
    | next iF=>exact gq
    | done r=>exact Dc r gq
   ·cases e with
    | normal=>
     obtain⟨iF,ME,ah⟩:=uf fj;have aZ:=A.d'.1 ah;exact⟨iF,aZ,_,af.then hu,by rw[<-b_.z'];exact dH.xv ME bc⟩
    | exit id=>
     simp only[xt,A.fX,A.d',MS]at fj;exact an _ (af.then hu) (.exit id) s' a' w' (by rw[<-b_.z'];omega) fj
    | ret=>
     simp only[xt,A.fX,A.d',MS]at fj;exact an _ (af.then hu) .ret s' a' w' (by rw[<-b_.z'];omega) fj
  ·exact (gr hm).elim
 | scope x hz=>
  have hz:=hz.1;refine⟨?_,λh=>by simp[cy.nT]at h⟩;intro C ec aV cv cT fB β c s k O Q a w hc M hm an;have lY:C.r=none\/x.ed=true:=fB;unfold ez at hm;split at hm
  ·rename_i nZ;refine ah8 (hz C ec aV cv cT lY nZ s _ O _ a w hc M hm λu hu e s' a' w' bc fj=>?_);have:=an u hu e s' a' w' bc fj;cases e<;>exact this
  ·exact (gr hm).elim
 | range sh rin rout x y hz ln=>
  have hz:=hz.1;have ln:=ln.1;refine⟨?_,λh=>by simp[cy.nT]at h⟩;intro C ec aV cv cT fB β c s k O Q a w hc M hm an;unfold ez at hm;split at hm
  ·rename_i g ps assign body;simp only[lj,Bool.and_eq_true,List.all_eq_true,decide_eq_true_eq]at hc;obtain⟨axV,UB,UC⟩:=hc;split at hm
   ·rename_i re n eT aC;split at hm
    ·rename_i ic aic;split at hm
     ·rename_i axW bV ai;split at hm
      ·rename_i eb;simp only[Bool.and_eq_true]at eb;obtain⟨eb,lY,qm⟩:=eb;obtain⟨D,nV,U⟩:=uf hm;rw[A.kI,A.fX]at U;simp only[S5]at U;have iI:C.r=none:=fB.resolve_right λh=>by cases h
       have MU:nU sh rout ic.aL ps.toList C.nt=true:=by
        simp only[nU,Bool.and_eq_true,List.all_eq_true,decide_eq_true_eq]at eb ⊢;grind
       refine ahX iI M aC (cT re _ aic) ai MU nV U.1 U.2 (λl=>?_) an;intro C1 jq tG rn tR eI b9 cn qk j' kg;have h:=hz C1 (jq ▸ ec) (jq ▸ aV) (jq ▸ cv) (by grind) (.inr lY) assign eI (Gs λdO=>ez C.aO T bg Ψ y body dO λe eJ=>rout.mX eJ λbm=>A.pure (e,bm)) qk
        (Exit.then (λa2 da=>∃ u dO,C1.jO u/\cr (C1.hl u) dO a2 da/\
         ∀ (hy:b_),hy.P=C.P->hy.aO=C.aO->hy.nt=C.nt->hy.r=some l->∀ (da:World),cr hy dO a2 da->
          body.wpIn (dR (some l)) 0 C.P (λe a3 eY=>∃ (a1:dj) (v:nX) (eJ:aB) (bm:rout.aj),e=a1.pk/\hy.jO v/\cr (hy.hl v) eJ a3 eY/\rout.i' eJ=some bm/\qk (a1,bm)) a2 da) (λ_ _ _=>False)) b9 cn (rn ▸ UB) j' (tG ▸ kg)
        λu hu e dO a2 da cM po=>?_
       ·grind
       ·cases e with
        | normal=>
         refine⟨u,dO,hu,cM,λhy xO MV MW aid da mv=>?_⟩;have h:=ln hy (xO ▸ ec) (xO ▸ aV) (xO ▸ cv) (by grind) (.inr qm) body dO (λe eJ=>rout.mX eJ λbm=>A.pure (e,bm)) qk
          (λe a3 eY=>∃ (a1:dj) (v:nX) (eJ:aB) (bm:rout.aj),e=a1.pk/\hy.jO v/\cr (hy.hl v) eJ a3 eY/\rout.i' eJ=some bm/\qk (a1,bm)) a2 da (MW ▸ UC) mv (MV ▸ po) λv af e eJ a3 eY oH Hf=>by
           obtain⟨bm,fZ,bM⟩:=uf Hf;exact⟨e,v,eJ,bm,rfl,af,oH,fZ,A.d'.1 bM⟩
         grind
        | exit id=>exact (gr po).elim
        | ret=>exact (gr po).elim
      ·exact (gr hm).elim
     ·exact (gr hm).elim
    ·exact (gr hm).elim
   ·rename_i aL S aC;split at hm
    ·rename_i eb;simp only[Bool.and_eq_true]at eb;obtain⟨eb,lY,qm⟩:=eb;obtain⟨D,nV,U⟩:=uf hm;rw[A.fX]at U;have iI:C.r=none:=fB.resolve_right λh=>by cases h
     have MU:nU sh rout aL ps.toList C.nt=true:=by
      simp only[nU,Bool.and_eq_true,List.all_eq_true,decide_eq_true_eq]at eb ⊢;grind
     refine ahZ iI M aC MU nV U.1 (λL hK=>by have ah:=A.fX.1 (U.2 L hK);simp only[S5]at ah;exact ah) (λl=>?_) an;intro C1 jq tG rn tR eI b9 cn qk j' kg;have h:=hz C1 (jq ▸ ec) (jq ▸ aV) (jq ▸ cv) (by grind) (.inr lY) assign eI (Gs λdO=>ez C.aO T bg Ψ y body dO λe eJ=>rout.mX eJ λbm=>A.pure (e,bm)) qk
      (Exit.then (λa2 da=>∃ u dO,C1.jO u/\cr (C1.hl u) dO a2 da/\
       ∀ (hy:b_),hy.P=C.P->hy.aO=C.aO->hy.nt=C.nt->hy.r=some l->∀ (da:World),cr hy dO a2 da->
        body.wpIn (dR (some l)) 0 C.P (λe a3 eY=>∃ (a1:dj) (v:nX) (eJ:aB) (bm:rout.aj),e=a1.pk/\hy.jO v/\cr (hy.hl v) eJ a3 eY/\rout.i' eJ=some bm/\qk (a1,bm)) a2 da) (λ_ _ _=>False)) b9 cn (rn ▸ UB) j' (tG ▸ kg)
      λu hu e dO a2 da cM po=>?_
     ·grind
     ·cases e with
      | normal=>
       refine⟨u,dO,hu,cM,λhy xO MV MW aid da mv=>?_⟩;have h:=ln hy (xO ▸ ec) (xO ▸ aV) (xO ▸ cv) (by grind) (.inr qm) body dO (λe eJ=>rout.mX eJ λbm=>A.pure (e,bm)) qk
        (λe a3 eY=>∃ (a1:dj) (v:nX) (eJ:aB) (bm:rout.aj),e=a1.pk/\hy.jO v/\cr (hy.hl v) eJ a3 eY/\rout.i' eJ=some bm/\qk (a1,bm)) a2 da (MW ▸ UC) mv (MV ▸ po) λv af e eJ a3 eY oH Hf=>by
         obtain⟨bm,fZ,bM⟩:=uf Hf;exact⟨e,v,eJ,bm,rfl,af,oH,fZ,A.d'.1 bM⟩
       grind
      | exit id=>exact (gr po).elim
      | ret=>exact (gr po).elim
    ·exact (gr hm).elim
   ·exact (gr hm).elim
  ·exact (gr hm).elim
 | nS x y hz ln=>
  refine ah4 (λ_ C ec aV cv cT fB β c s k O Q a w hc M hm an=>?_) λkey C ec aV cv cT fB β c s k O Q a w hc M hm an=>?_
  ·have lY:C.r=none\/x.ed=true:=fB.imp id λh=>by simp only[cy.ed,Bool.and_eq_true]at h;grind
   have qm:C.r=none\/y.ed=true:=fB.imp id λh=>by simp only[cy.ed,Bool.and_eq_true]at h;grind
   unfold ez at hm;simp only at hm;split at hm
   ·rename_i hu;refine ah6 (hz.1 C ec aV cv cT lY c s _ O _ a w hc M hm λu xy e s' a' w' bc fj=>?_);cases e with
    | normal=>exact ln.2 hu (C.hl u) ec aV cv cT qm c s' k O Q a' w' hc bc fj λv af=>by rw[b_.z'];exact an _ (xy.then af)
    | exit id=>exact an u xy (.exit id) s' a' w' bc fj
    | ret=>exact an u xy .ret s' a' w' bc fj
   ·exact (gr hm).elim
  ·cases c with
   | loop nZ=>exact ah5 (key rfl C ec aV cv cT fB nZ s k O Q a w hc M hm an)
   | _=>unfold ez at hm;exact (gr hm).elim
 | Gq=>
  refine⟨?_,λh=>by simp[cy.nT]at h⟩;intro C ec aV cv cT fB β c s k O Q a w hc M hm an;unfold ez at hm;split at hm
  ·rename_i id ops draw;split at hm
   ·rename_i h;rw[Bool.and_eq_true]at h;obtain⟨rfl,h⟩:=h;exact ahA ec (fB.resolve_right (by simp[cy.ed])) h aV (TP cv cT) cT (λo ag=>List.all_eq_true.1 hc o ag) (λs' a' w' bc fj=>an C.hF C.vu .normal s' a' w' bc fj) M hm
   ·exact (gr hm).elim
  ·exact (gr hm).elim
 | nN i x aJ=>
  have aJ:=aJ.1;refine⟨?_,λh=>by simp[cy.nT]at h⟩;intro C ec aV cv cT fB β c s k O Q a w hc M hm an;unfold ez at hm;split at hm
  ·rename_i s' af;exact aJ C ec aV cv cT fB c s' k O Q a w hc (ah9 af M) hm an
  ·exact (gr hm).elim
 | CQ b x aJ=>
  have aJ:=aJ.1;refine⟨?_,λh=>by simp[cy.nT]at h⟩;intro C ec aV cv cT fB β c s k O Q a w hc M hm an;unfold ez at hm;split at hm
  ·rename_i s' af;exact aJ C ec aV cv cT fB c s' k O Q a w hc (aia af M) hm an
  ·exact (gr hm).elim
 | Gp b x aJ=>
  have aJ:=aJ.1;refine⟨?_,λh=>by simp[cy.nT]at h⟩;intro C ec aV cv cT fB β c s k O Q a w hc M hm an;unfold ez at hm;split at hm
  ·rename_i s' af;exact aJ C ec aV cv cT fB c s' k O Q a w hc (ah_ af M) hm an
  ·exact (gr hm).elim
 | num i n x aJ=>
  have aJ:=aJ.1;refine⟨?_,λh=>by simp[cy.nT]at h⟩;intro C ec aV cv cT fB β c s k O Q a w hc M hm an;unfold ez at hm;split at hm
  ·rename_i v f af;rw[A.kI]at hm;have h:=hm.2;rw[aff af hm.1]at h;exact aJ C ec aV cv cT fB c s k O Q a w hc M h an
  ·exact (gr hm).elim
 | split i off n x aJ=>
  have aJ:=aJ.1;refine⟨?_,λh=>by simp[cy.nT]at h⟩;intro C ec aV cv cT fB β c s k O Q a w hc M hm an;unfold ez at hm;split at hm
  ·rename_i v f af;rw[A.kI]at hm;have h:=S0 hm.2 hm.1.1 hm.1.2;rw[afe af hm.1.1]at h;exact aJ C ec aV cv cT fB c s k O Q a w hc M h an
  ·exact (gr hm).elim
theorem UD(ann:cy):∀ (C:b_) (_:C.P.follows .mixedOrders=true) (_:dS C.P T) (_:jm C.P bg) (_:lV C.P C.aO Ψ) (_:C.r=none\/ann.ed=true) {β:Type} (c:Code) (s:aB) (k:dj->aB->A β) (O:β->Prop) (Q:Exit->Act->World->Prop) (a:Act) (w:World),lj C.nt c=true->cr C s a w->A.cw (ez C.aO T bg Ψ ann c s k) O->(∀ u,C.jO u->∀ e s' a' w',cr (C.hl u) s' a' w'->A.cw (k e s') O->Q e.pk a' w')->c.wpIn (dR C.r) 0 C.P Q a w:=(aib ann).1
end
end Go.Fer
namespace Go.Fer
open Go.RowKit
def Dx(T:Nat->ad)(s:aB):List ResultVar->Option (List aF)
 | []=>some []
 | r::l=>match Dx T s l with
  | none=>none
  | some aE=>match r with
   | .tmp t=>some (s.ax t::aE)
   | .cell a ty=>match (y8 (T ty) (s.ax a)).run s.ab with
    | some v=>some (v::aE)
    | none=>none
def MX(t:ad)(n:Nat):Bool:=
 match t with
 | .az _ _=>n != 1
 | .cV=>n == 0
 | _=>n == 1
def vx(T:Nat->ad)(ku:List ResultVar)(aR:ad)(e:dj)(s:aB):A aR.aj:=
 match e with
 | .exit _=>A.fail
 | _=>match Dx T s ku with
  | some avs=>match (iV aR avs).run s.ab with
   | some (y,_)=>A.pure y
   | none=>A.fail
  | none=>A.fail
def Ae(t:ad)(x:t.aj)(n:Nat):List (Nat×aF):=(List.range n).map λi=>(i,kq t x i)
def sC(t:ad):Nat:=if t=.cV then 0 else j5 t
def pr(t:ad)(x:t.aj):aB:=SN (Ae t x (sC t)) []
def Dy(aQ:dD)(T:Nat->ad)(bg:Nat->Option aP)(Ψ:Nat->Option eV)(fn:Func)(c:Code)(ann:cy)(ts aR:ad)(x:ts.aj):A aR.aj:=
 ez aQ T bg Ψ ann c (pr ts x) (vx T fn.results.toList aR)
def Hg(av:aF):aF:=match av with | .val (.bH e) p=>.dV e (p.getD e.dh) | v=>v
def Dz(av:aF):Prop:=match av with | .val (.bH _) p=>p.isSome=true | _=>True
def Hh(n:Nat)(s:aB):aB:=⟨λi=>if i<n\/eQ<i then s.ax i else Hg (s.ax i),s.ab⟩
def DA(n:Nat)(s:aB):Prop:=∀ i,¬(i<n\/eQ<i)->Dz (s.ax i)
def aie(aQ:dD)(T:Nat->ad)(bg:Nat->Option aP)(Ψ:Nat->Option eV)(fn:Func)(c:Code)(ann:cy)(n:Nat)(ts aR:ad)(x:ts.aj):A aR.aj:=
 A.ae (DA n (pr ts x)) (ez aQ T bg Ψ ann c (Hh n (pr ts x)) (vx T fn.results.toList aR))
def DB(fn:Func)(c:Code)(ts aR:ad):Bool:=
 lj fn.ntmps c && MX aR fn.results.size && decide (sC ts <= fn.ntmps) && !(fn.name == "runtime.NumGoroutine") && decide (fn.ntmps <= eQ)
def Af:z9'->List aF->Option (List aF)
 | [],[]=>some []
 | none::g,v::aE=>match Af g aE with
  | some l=>some (v::l)
  | none=>none
 | some n::g,v::aE=>match v,Af g aE with
  | .agg m f,some l=>if m=n then some ((List.range n).map f++l) else none
  | _,_=>none
 | _,_=>none
def Hi(T:Nat->ad)(ku:List ResultVar)(kx:z9')(bQ:dH)(e:dj)(s:aB):A bQ.aj:=
 match e with
 | .exit _=>A.fail
 | _=>match Dx T s ku with
  | some avs=>match Af kx avs with
   | some l=>match decide (l.length<=eQ) with
    | true=>bQ.mX (sg s l) λbm=>A.pure bm
    | false=>A.fail
   | none=>A.fail
  | none=>A.fail
def MY(aQ:dD)(T:Nat->ad)(bg:Nat->Option aP)(Ψ:Nat->Option eV)(fn:Func)(c:Code)(ann:cy)(cp bQ:dH)(kx:z9')(D:cp.aj):A bQ.aj:=
 ez aQ T bg Ψ ann c (cp.st D) (Hi T fn.results.toList kx bQ)
def DC(fn:Func)(c:Code)(ke:Nat)(kx:z9'):Bool:=
 lj fn.ntmps c && decide (fn.results.size = kx.length) && decide (ke <= fn.ntmps) && !(fn.name == "runtime.NumGoroutine") && decide (fn.ntmps <= eQ)
section
variable {C:b_} {T:Nat->ad} {bg:Nat->Option aP} {Ψ:Nat->Option eV}
def Ag(tmps:Array Value)(r:ResultVar):Sem Value:=
 match r with
 | .tmp t=>pure (tmps.getD t undef)
 | .cell b t=>do loadVar t (<-asAddr (tmps.getD b undef))
theorem UE(fn:Func)(tmps:Array Value):results fn tmps=(fn.results.mapM (Ag tmps) >>= λaE=>pure (if h:aE.size=1 then aE[0] else .tuple aE)):=by
 rfl
theorem UF(aV:dS C.P T){s:aB}{a:Act}{w:World}{κ:Nat->bD}{F:Nat->Prop}(M:bl C s a w κ F):∀ (ku:List ResultVar) {avs:List aF},Dx T s ku=some avs->
  ∃ aE:List Value,(ku.mapM (Ag a.tmps)).run C.P w=.ok aE w/\aE.length=ku.length/\avs.length=ku.length/\
   ∀ i (h:i<avs.length) (de:i<aE.length),bu C.P s.ab κ F w avs[i] aE[i]:=by
 intro ku;induction ku with
 | nil=>intro avs h;cases h;simp
 | cons r ku aJ=>
  intro avs h;simp only[Dx]at h;split at h
  ·cases h
  ·rename_i l ak;obtain⟨aE,E,U,ah,aZ⟩:=aJ ak;have one:∃ av v,avs=av::l/\(Ag a.tmps r).run C.P w=.ok v w/\bu C.P s.ab κ F w av v:=by
    split at h
    ·rename_i t;cases h;exact⟨_,_,rfl,rfl,M.bT t⟩
    ·rename_i b ty;split at h
     ·rename_i v af;cases h;obtain⟨u,aW,aY⟩:=RO aV M af (M.bT b);refine⟨v,u,rfl,?_,aY⟩;unfold Instr.loadAt at aW;unfold Ag;simp only;generalize a.tmps.getD b Go.undef=z at aW ⊢;cases z with
      | pointer p=>
       cases p with
       | none=>simp[Instr.sureAddr]at aW
       | some p=>simpa [Instr.sureAddr,asAddr]using aW
      | _=>simp[Instr.sureAddr]at aW
     grind
   obtain⟨av,v,rfl,aW,aY⟩:=one;refine⟨v::aE,?_,by grind,by grind,λi G dM=>?_⟩
   ·simp_all
   grind
theorem aif(aV:dS C.P T){fn:Func}{aR:ad}(rp:MX aR fn.results.size=true){e:dj}{s:aB}{a:Act}{w:World}{O:aR.aj->Prop}(M:cr C s a w)(hm:A.cw (vx T fn.results.toList aR e s) O) :
  (∀ id,e≠.exit id)/\∃ κ F v y,bl C s a w κ F/\(results fn a.tmps).run C.P w=.ok v w/\O y/\∃ F',(∀ r,F' r->C.F0 r\/¬C.K0 r)/\(∀ r,F' r->r<w.heap.size)/\tr C.P aR F' w v y:=by
 obtain⟨κ,F,M⟩:=M;unfold vx at hm;split at hm
 ·exact (gr hm).elim
 ·rename_i eD;refine⟨λid he=>eD id he,?_⟩;split at hm
  ·rename_i avs MZ;split at hm
   ·rename_i y l aS;obtain⟨aE,E,U,ah,aZ⟩:=UF aV M _ MZ;obtain⟨F',f1,bc,f2⟩:=bl.k_ (p_ _ aS) M;have dX:=vf (F':=F') M.bE f1 aR aS f2 (by omega) aZ;have c_:(results fn a.tmps).run C.P w=.ok (if h:aE.toArray.size=1 then aE.toArray[0] else .tuple aE.toArray) w:=by
     rw[UE,Sem.run_bind];have:(fn.results.mapM (Ag a.tmps)).run C.P w=.ok aE.toArray w:=by
      rw[Array.mapM_eq_mapM_toList,map_eq_pure_bind,Sem.run_bind,E];rfl
     simp_all
    refine⟨κ,F,_,y,M,c_,A.d'.1 hm,F',bc.hg,bc.dd,aE,?_,dX⟩;have cd:aE.length=fn.results.size:=by omega
    rw[<-cd]at rp;clear c_ dX E aZ U cd aS;have one:aE.length=1->aE=[if h:aE.toArray.size=1 then aE.toArray[0] else .tuple aE.toArray]:=by
     intro h;match aE,h with
     | [v],_=>rfl
    cases aR<;>simp only[MX,beq_iff_eq,bne_iff_ne,ne_eq]at rp<;>simp only[yX];case az=>rw[dif_neg (by simpa using rp)]
    case cV=>
     have:aE=[]:=List.length_eq_zero_iff.1 rp;subst this;exact⟨rfl,rfl⟩
    all_goals exact one rp
   ·exact (gr hm).elim
  ·exact (gr hm).elim
theorem UG{l:List (Nat×aF)}{i:Nat}:fp l i=.undef\/(i,fp l i)∈l:=by
 induction l with
 | nil=>exact .inl rfl
 | cons p l aJ=>
  simp only[fp];grind
theorem uj{P : Program}{k : FuncId}{fn : Func}{c : Code}(ar : P.funcs[k]? = some fn)(aa : fn.body = some c)(aA : (fn.name == "runtime.NumGoroutine") = false)(args : Array Value)(w : World) :
  (callFunc k args).run P w=.ok (.enter k args) w:=by
 have aA : ¬ fn.name = "runtime.NumGoroutine" := by grind
 simp[callFunc,ar,aa,aA]
def pt(w:World):List Nat->World
 | []=>w
 | B::ms=>pt (w.putObj B (.deferred none)) ms
theorem UH:∀ (ms:List Nat) (w:World),(pt w ms).heap.size=w.heap.size
 | [],_=>rfl
 | _::ms,_=>(UH ms _).trans World.putObj_size
theorem M0:∀ (ms:List Nat) (w:World) {r:Nat},r ∉ ms->(pt w ms).heap[r]?=w.heap[r]?
 | [],_,_,_=>rfl
 | B::ms,w,r,h=>by
  simp only[List.mem_cons,not_or]at h;exact (M0 ms _ h.2).trans (World.putObj_heap_other h.1)
theorem UI:∀ (ms:List Nat) (w:World),df w (pt w ms)
 | [],w=>df.refl w
 | B::ms,w=>by
  have h:df w (w.putObj B (.deferred none)):=⟨rfl,rfl,rfl⟩
  exact h.trans (UI ms _)
theorem M1{P:Program}{fn:Func}{tmps:Array Value}{R:Ending->World->Prop}:∀ (ms:List Nat) (w:World),ms.Nodup->(∀ B∈ms,w.heap[B]?=some (.deferred (some [])))->
  (∃ v,(results fn tmps).run P (pt w ms)=.ok v (pt w ms)/\R (.returned v) (pt w ms))->LeavesInM Fence.wide 0 P fn tmps R (ms.map oF) .returning w
 | [],w,_,_,h=>h
 | B::ms,w,aA,aU,h=>by
  simp only[List.nodup_cons]at aA;refine⟨by simp,.inl ⟨B,_,rfl,run_takeDeferred (aU B (by simp)),?_⟩⟩;exact M1 ms _ aA.2 (λaih de=>(World.putObj_heap_other λe=>aA.1 (by grind)).trans (aU aih (List.mem_cons_of_mem _ de))) h
theorem cr.UJ{u:nX}{s:aB}{a:Act}{w:World}(hu:C.jO u)(aii:∀ r,C.F0 r->r<C.w0.heap.size)(vp:∀ r,C.K0 r->r<C.w0.heap.size)(h:cr (C.hl u) s a w) :
  cr { C with dfr:=u.ms.map oF++C.dfr } s a (pt w u.ms)/\a.defers=u.ms.map oF++C.dfr/\∀ B∈u.ms,w.heap[B]?=some (.deferred (some [])):=by
 obtain⟨κ,F,h⟩:=h;have axX:∀ B∈u.ms,¬F B:=λB aU ar=>by
  obtain⟨E,_⟩:=hu.sz B aU;rcases h.hg B ar with U | U
  ·have:=aii B U;have:=(hu.ey B aU).2;omega
  ·exact U E
 have cd:=UH u.ms w;have hc:=UI u.ms w;refine⟨⟨κ,F,h.G5 (w0:=C.w0) (w':=pt w u.ms) (K0:=C.K0) (r:=C.r) (λr M=>hu.hn r M) (λr M=>M0 _ _ λhm=>?_) (Nat.le_of_eq cd.symm) hc vp (λr M=>?_) ?_ ?_⟩,h.dfr,λB aU=>?_⟩
 ·rcases M with M | M
  ·grind
  ·exact M (hu.sz r hm).1
 ·exact (M0 _ _ λhm=>(hu.ey r hm).1 M).trans ((h.eH r (hu.hn r M)).trans (hu.eH r M))
 ·rw[cd];exact Nat.le_trans hu.size h.size
 ·exact (hu.er.trans h.er).trans hc
 ·exact (h.eH B (hu.sz B aU).1).trans (hu.sz B aU).2
theorem UK{P:Program}{aQ:dD}(ec:P.follows .mixedOrders=true){k:FuncId}{fn:Func}{c:Code}{ann:cy}{ts aR:ad}{sh:ts.aj->A aR.aj}(aV:dS P T)(ia:qM P aQ)(cv:jm P bg)(cT:lV P aQ Ψ)(ar:P.funcs[k]?=some fn)(aa:fn.body=some c)
    (cC:DB fn c ts aR=true) {s0:ts.aj->aB} {pre:ts.aj->Prop} (m_:∀ x C a w,cr C (pr ts x) a w->pre x->cr C (s0 x) a w)
    (nD:∀ x,A.le (A.ae (pre x) (ez aQ T bg Ψ ann c (s0 x) (vx T fn.results.toList aR))) (sh x)):gU P k ts aR sh:=by
  simp only[DB,Bool.and_eq_true,Bool.not_eq_true',decide_eq_true_eq]at cC;obtain⟨⟨⟨⟨DD,rp⟩,aij⟩,M2⟩,uc⟩:=cC;refine⟨uj ar aa M2,λF w args x bn gl dX q3=>?_⟩;obtain⟨⟨gH,E⟩,U⟩:=nD x q3;have hlen:args.length=sC ts/\∀ i,i<sC ts->∀ (H:Nat->bK) (κ:Nat->bD),bu P H κ F w (kq ts x i) (args.getD i Go.undef):=by
    unfold sC;split
    · rename_i e
      subst e
      have:args=[]:=dX.1
      grind
    · rename_i e
      exact⟨(tK (H:=λ_=>⟨0,.fz⟩) (κ:=λ_=>⟨0,0,0,false⟩) ts dX e).1,λi G H κ=>(tK ts dX e).2 i G⟩
  let C:b_:={ P:=P,w0:=w,F0:=F,K0:=λr=>r<w.heap.size,nt:=fn.ntmps,r:=none,dfr:=[],ig:=λ_=>none,bU:=⟨0,.cV,λ_=>False,λ_ _ _ _ _=>False⟩,aO:=aQ }
  let a0:Act:={ tmps:=args.toArray++Array.replicate (fn.ntmps - args.toArray.size) undef,defers:=[] }
  let aik:Nat->bD:=λ_=>⟨0,0,0,false⟩
  have qh:∀ i,(pr ts x).ax i=.undef\/(i<sC ts/\(pr ts x).ax i=kq ts x i):=λi=>by
    rcases UG (l:=Ae ts x (sC ts)) (i:=i) with e | e
    · exact .inl e
    · refine .inr ?_
      generalize bk:fp (Ae ts x (sC ts)) i=z at e
      simp only[Ae,List.mem_map,List.mem_range,Prod.mk.injEq]at e
      obtain⟨j,aG,rfl,rfl⟩:=e
      exact⟨aG,bk⟩
  have M:cr C (pr ts x) a0 w:=by
    refine⟨aik, F, { dE := ?_, dfr := rfl, bT := λi => ?_, bE := λb => trivial, own := λb aa => (by cases aa), inj := λb be aa _ _ => (by cases aa), dd := bn, hg := λr M => .inl M, hS := λr M => M, hv := λr M => M, eH := λr _ => rfl, size := Nat.le_refl _, er := df.refl w,gi:=uc,kl:=λb r h=>(by cases h),jD:=λb r h=>(by cases h),j3:=λb k h=>(by cases h),km:=λb k h=>(by cases h),eB:=λl aL L n st e=>?_,jE:=ia,iy:=gl }⟩
    · grind
    · rcases qh i with e | ⟨G,e⟩
      · rw[e];simp only[bu]
      · rw[e]
        have:a0.tmps.getD i Go.undef=args.getD i Go.undef:=by
          have dM:i<args.length:=by omega
          simp[a0,Array.getD_eq_getD_getElem?,List.getD_eq_getElem?_getD,Array.getElem?_append,dM]
        grind
    · rcases qh b5 with h | ⟨h,_⟩
      · grind
      · unfold b5 eQ at *;omega
  refine callsIn_wide.1 (callsIn_of_wp_marks (F:=Fence.wide) (n:=0) ar aa trivial ?_);have hw:=UD ann C ec aV cv cT (.inl rfl) (k:=vx T fn.results.toList aR) (O:=(ez aQ T bg Ψ ann c (s0 x) (vx T fn.results.toList aR)).bQ) (Q:=bodyPostM Fence.wide 0 P fn λe w'=>∃ v y,e=.returned v/\(sh x).bQ y/\tr P aR (u0 F w w') w' v y/\Below w.heap.size w w') c (s0 x) a0 w DD (m_ x C a0 w M gH) ⟨E,λ_ h=>h⟩;refine hw λu hu e s' a' w' bc hm=>?_;obtain⟨cM,aw,aU⟩:=cr.UJ hu bn (λ_ h=>h) bc;obtain⟨eD,κ,z1,v,y,eX,c_,aS,F',f1,f2,gm⟩:=aif (C:={ C with dfr:=u.ms.map oF++C.dfr }) aV rp cM hm;have tV:LeavesInM Fence.wide 0 P fn a'.tmps (λe w'=>∃ v y,e=.returned v/\(sh x).bQ y/\tr P aR (u0 F w w') w' v y/\Below w.heap.size w w') a'.defers .returning w':=by
    rw[aw];simp only[C,List.append_nil];refine M1 u.ms w' hu.mu aU ⟨v,c_,v,y,rfl,U y aS,?_,eX.er.os,eX.er.tape,eX.er.output,eX.size,eX.eH⟩;obtain⟨aE,aW,aY,bO⟩:=gm;refine⟨aE,aW,aY,fe aR (λr M=>?_) (c8.refl _ _) bO⟩;rcases f1 r M with h | h
    · exact .inl h
    · exact .inr ⟨Nat.le_of_not_lt h,f2 r M⟩
  cases e with
  | normal=>exact tV
  | exit id=>grind
  | ret=>exact tV
theorem ail{P:Program}{aQ:dD}(ec:P.follows .mixedOrders=true){k:FuncId}{fn:Func}{c:Code}{ann:cy}{ts aR:ad}{sh:ts.aj->A aR.aj}(aV:dS P T)(ia:qM P aQ)(cv:jm P bg)(cT:lV P aQ Ψ)(ar:P.funcs[k]?=some fn)(aa:fn.body=some c)
  (cC:DB fn c ts aR=true) (nD:∀ x,A.le (Dy aQ T bg Ψ fn c ann ts aR x) (sh x)):gU P k ts aR sh:=
 UK ec aV ia cv cT ar aa cC (ann:=ann) (s0:=pr ts) (pre:=λ_=>True) (λ_ _ _ _ h _=>h) λx aD=>⟨⟨trivial,(nD x aD).1⟩,(nD x aD).2⟩
theorem aim{C:b_}{s:aB}{a:Act}{w:World}{n:Nat}(h:cr C s a w)(hc:DA n s):cr C (Hh n s) a w:=by
 obtain⟨κ,F,M⟩:=h;refine⟨κ,F,{ M with bT:=λi=>?_,dE:=M.dE,dfr:=M.dfr,bE:=M.bE,eB:=λl aL L m st e=>?_ }⟩
 ·show bu C.P s.ab κ F w (if i<n\/eQ<i then s.ax i else Hg (s.ax i)) _;split
  ·exact M.bT i
  ·rename_i G;have af:=M.bT i;have ao:=hc i G;unfold Hg;unfold Dz at ao;split
   ·rename_i e p he;rw[he]at af ao;have ao:p.isSome=true:=ao;obtain⟨_,af⟩:=(dT rfl).1 af;simp only[bJ]at af;rcases af with⟨_,rfl⟩ | ⟨q,y,bj,bq,rfl,aW,aY⟩
    ·cases ao
    ·exact⟨q,bj,(List.cons.inj bq).1,aW,aY⟩
   omega
 ·have e:(if b5<n\/eQ<b5 then s.ax b5 else Hg (s.ax b5))=.aR l aL L m st:=e;rw[if_pos (.inr (by decide))]at e;exact M.eB l aL L m st e
theorem ain{P:Program}{aQ:dD}(ec:P.follows .mixedOrders=true){k:FuncId}{fn:Func}{c:Code}{ann:cy}{n:Nat}{ts aR:ad}{sh:ts.aj->A aR.aj}(aV:dS P T)(ia:qM P aQ)(cv:jm P bg)(cT:lV P aQ Ψ)(ar:P.funcs[k]?=some fn)(aa:fn.body=some c)
  (cC:DB fn c ts aR=true) (nD:∀ x,A.le (aie aQ T bg Ψ fn c ann n ts aR x) (sh x)):gU P k ts aR sh:=
 UK ec aV ia cv cT ar aa cC (ann:=ann) (s0:=λx=>Hh n (pr ts x)) (pre:=λx=>DA n (pr ts x)) (λ_ _ _ _ h ao=>aim h ao) nD
theorem M3{H:Nat->bK}{κ:Nat->bD}{F:Nat->Prop}{w:World}{P:Program}:∀ (g:z9') {avs l:List aF} {us:List Value},Af g avs=some l->avs.length=us.length->(∀ i (h:i<avs.length) (de:i<us.length),bu P H κ F w avs[i] us[i])->
  ∃ aE:List Value,CV g us aE/\l.length=aE.length/\∀ i,i<aE.length->bu P H κ F w (l.getD i .undef) (aE.getD i undef)
 | [],[],l,us,h,ak,_=>by
  cases h;have:us=[]:=List.eq_nil_of_length_eq_zero ak.symm;subst this;exact⟨[],rfl,rfl,λi G=>by cases G⟩
 | [],_::_,_,_,h,_,_=>by cases h
 | none::_,[],_,_,h,_,_=>by cases h
 | some _::_,[],_,_,h,_,_=>by cases h
 | none::g,av::avs,l,[],_,ak,_=>by cases ak
 | some n::g,av::avs,l,[],_,ak,_=>by cases ak
 | none::g,av::avs,l,u::us,h,ak,af=>by
  simp only[Af]at h;split at h
  ·rename_i dG Ha;cases h;obtain⟨aE,E,U,ah⟩:=M3 g Ha (by grind) λi h de=>af (i+1) (Nat.succ_lt_succ h) (Nat.succ_lt_succ de);refine⟨u::aE,⟨aE,rfl,E⟩,by grind,λi G=>?_⟩;cases i with
   | zero=>exact af 0 (Nat.zero_lt_succ _) (Nat.zero_lt_succ _)
   | succ i=>grind
  grind
 | some n::g,av::avs,l,u::us,h,ak,af=>by
  simp only[Af]at h;split at h
  ·rename_i m f dG Ha;split at h
   ·rename_i Sr;cases h;subst Sr;obtain⟨aE,E,U,ah⟩:=M3 g Ha (by grind) λi h de=>af (i+1) (Nat.succ_lt_succ h) (Nat.succ_lt_succ de);obtain⟨cs,aW,aY,bO⟩:bu P H κ F w (.agg m f) u:=af 0 (Nat.zero_lt_succ _) (Nat.zero_lt_succ _);refine⟨cs++aE,⟨cs.toArray,aE,aW,by omega,λc hc=>?_,by simp,E⟩,by grind,λi G=>?_⟩
    ·obtain⟨j,aG,rfl⟩:=List.mem_iff_getElem.1 (by omega:c∈cs);grind
    grind
   grind
  grind
def aio(P:Program)(aQ:dD)(T:Nat->ad)(fn:Func)(c:Code)(ic:cG):Prop:=
 ∀ (C:b_) (D:ic.cp.aj) (Q:Exit->Act->World->Prop) (a:Act) (w:World),C.P=P->C.aO=aQ->C.nt=fn.ntmps->C.r=none->C.dfr=[]->lj C.nt c=true->cr C (ic.cp.st D) a w->(ic.sh D).cq->
  (∀ u,C.jO u->∀ e s' a' w',cr (C.hl u) s' a' w'->A.cw (Hi T fn.results.toList ic.kx ic.bQ e s') (ic.sh D).bQ->Q e.pk a' w')->c.wpIn (dR C.r) 0 C.P Q a w
theorem aip{P:Program}{aQ:dD}{k:FuncId}{fn:Func}{c:Code}{ic:cG}(aV:dS P T)(ar:P.funcs[k]?=some fn)(aa:fn.body=some c)
  (cC:DC fn c ic.ke ic.kx=true) (aiq:aio P aQ T fn c ic):cO P aQ k ic:=by
 simp only[DC,Bool.and_eq_true,Bool.not_eq_true',decide_eq_true_eq]at cC;obtain⟨⟨⟨⟨DD,rp⟩,aij⟩,M2⟩,uc⟩:=cC;refine⟨uj ar aa M2,λC a w κ F D jq Ah iI ri se ia M q3=>?_⟩;subst jq;subst Ah;subst ia;have axY:a.tmps.size=ic.ke:=M.dE.trans se;have eU:∀ i,(a.tmps++Array.replicate (fn.ntmps - a.tmps.size) undef).getD i undef=a.tmps.getD i undef:=λi=>by
  simp only[Array.getD_eq_getD_getElem?,Array.getElem?_append];grind
 have bc:bl { C with nt:=fn.ntmps,dfr:=[],r:=none } (ic.cp.st D) { tmps:=a.tmps++Array.replicate (fn.ntmps - a.tmps.size) undef,defers:=[] } C.w0 κ F:=
  { M with dE:=(by grind),dfr:=rfl,gi:=uc,bT:=λi=>(by rw[eU];exact M.bT i),bE:=M.bE }
 refine callsIn_wide.1 (callsIn_of_wp_marks (F:=Fence.wide) (n:=0) ar aa trivial ?_);refine aiq { C with nt:=fn.ntmps,dfr:=[],r:=none } D _ _ C.w0 rfl rfl rfl rfl rfl DD ⟨κ,F,bc⟩ q3 λu hu e s' a' w' bc hm=>?_;obtain⟨⟨mZ,ei,cM⟩,aw,aU⟩:=cr.UJ hu (λr h=>M.dd r (M.hS r h)) M.hv bc;have key:(∀ id,e≠.exit id)/\LeavesInM Fence.wide 0 C.P fn a'.tmps (λe w'=>∃ v bm aE κ' F',e=.returned v/\(ic.sh D).bQ bm/\Gy ic.kx v aE/\bl { C with nt:=aE.length } (ic.bQ.st bm) { tmps:=aE.toArray,defers:=[] } w' κ' F') a'.defers .returning w':=by
  unfold Hi at hm;split at hm
  ·exact (gr hm).elim
  ·rename_i eD;refine⟨λid he=>eD id he,?_⟩;split at hm
   ·rename_i avs MZ;split at hm
    ·rename_i l ak;split at hm
     ·rename_i cc;have cc:l.length<=eQ:=of_decide_eq_true cc;obtain⟨us,aW,aY,bO,gC⟩:=UF (C:={ C with nt:=fn.ntmps,dfr:=u.ms.map oF++[],r:=none }) aV cM _ MZ;obtain⟨aE,g1,et,g3⟩:=M3 ic.kx ak (by omega) gC;obtain⟨bm,fZ,bM⟩:=uf hm;have bb:=cM.args (avs:=l) (us:=aE) (by omega) et g3;obtain⟨G9,Up,_,mv⟩:=dH.zU fZ bb;rw[aw];simp only[List.append_nil];have c_:(results fn a'.tmps).run C.P (pt w' u.ms)=.ok (if us.length=1 then us.getD 0 undef else .tuple us.toArray) (pt w' u.ms):=by
       rw[UE,Sem.run_bind];have:(fn.results.mapM (Ag a'.tmps)).run C.P (pt w' u.ms)=.ok us.toArray (pt w' u.ms):=by
        rw[Array.mapM_eq_mapM_toList,map_eq_pure_bind,Sem.run_bind,aW];rfl
       rw[this];simp only[Result.andThen_ok,Sem.run_pure,List.size_toArray];grind
      refine M1 u.ms w' hu.mu aU ⟨_,c_,_,bm,aE,G9,Up,rfl,A.d'.1 bM,⟨us,?_,rfl,g1⟩,?_⟩
      ·rw[aY];simpa using rp
      ·have e:({ C with nt:=aE.length }:b_)={ C with nt:=aE.length,dfr:=[],r:=none }:=by
        cases C;simp only at iI ri;subst iI;subst ri;rfl
       rw[e];exact mv
     ·exact (gr hm).elim
    ·exact (gr hm).elim
   ·exact (gr hm).elim
 cases e with
 | normal=>exact key.2
 | exit id=>grind
 | ret=>exact key.2
theorem UL{P:Program}{aQ:dD}(ec:P.follows .mixedOrders=true){k:FuncId}{fn:Func}{c:Code}{ann:cy}{ic:cG}(aV:dS P T)(cv:jm P bg)(cT:lV P aQ Ψ)(ar:P.funcs[k]?=some fn)(aa:fn.body=some c)
  (cC:DC fn c ic.ke ic.kx=true) (nD:∀ D,A.le (MY aQ T bg Ψ fn c ann ic.cp ic.bQ ic.kx D) (ic.sh D)):cO P aQ k ic:=
 aip aV ar aa cC λC D Q a w jq ia _ iI _ DD M q3 an=>by
  subst jq;subst ia;obtain⟨E,U⟩:=nD D q3;exact UD ann C ec aV cv cT (.inl iI) c (ic.cp.st D) (Hi T fn.results.toList ic.kx ic.bQ) (MY C.aO T bg Ψ fn c ann ic.cp ic.bQ ic.kx D).bQ Q a w DD M ⟨E,λ_ h=>h⟩ λu hu e s' a' w' bc hm=>an u hu e s' a' w' bc ⟨hm.1,λy aS=>U y (hm.2 y aS)⟩
end
def rq:List (Nat×ad)->Nat->ad
 | [],_=>.cV
 | p::l,i=>if i=p.1 then p.2 else rq l i
def UM(P:Program)(l:List (Nat×ad)):Bool:=l.all λp=>cF P p.2 (.inl p.1)
theorem air{P:Program}{l:List (Nat×ad)}(h:UM P l=true):dS P (rq l):=by
 intro id;induction l with
 | nil=>exact .inl rfl
 | cons p l aJ=>
  simp only[UM,List.all_cons,Bool.and_eq_true]at h;simp only[rq];split
  ·rename_i e;subst e;exact .inr h.1
  ·exact aJ h.2
end Go.Fer
namespace Go.Fer
open Go.RowKit
theorem UN{P:Program}{aQ:dD}{k:FuncId}{c:cG}(h:cO P aQ k c)(ia:qM P aQ){ic:zK}(mk:ic.ts.aj->Nat->(List ic.aL.aj->Prop)->c.cp.aj)(aA:c.ke=j5 ic.ts+1)(h0:c.ke<=eQ)(ub:ic.ts≠.cV)
    (fk:∀ x l L i,(c.cp.st (mk x l L)).ax i=.undef\/(i<j5 ic.ts/\(c.cp.st (mk x l L)).ax i=kq ic.ts x i)\/(i=j5 ic.ts/\(c.cp.st (mk x l L)).ax i=.hf l)\/(i=b5/\(c.cp.st (mk x l L)).ax i=.aR l ic.aL L [] false))
    (iC:c.cp.bE=[]) (ql:∀ bm,∃ n st l L,(c.bQ.st bm).ax b5=.aR l ic.aL L n st)
    (r8:∀ x l,ic.pre x->(c.sh (mk x l (λT=>T=ic.seq x))).cq/\∀ bm,(c.sh (mk x l (λT=>T=ic.seq x))).bQ bm->∀ dG e7 n,(c.bQ.st bm).ax b5=.aR dG ic.aL e7 n false->n=ic.seq x):C4 P k ic:=by
  refine⟨h.enter,λl I F Y w args x dX gH cC bn gl hX eA=>?_⟩;obtain⟨iz,G7⟩:=tK (H:=λ_=>⟨0,.fz⟩) (κ:=λ_=>⟨0,0,0,false⟩) ic.ts dX ub;have uk:∀ b,(c.cp.st (mk x l (λT=>T=ic.seq x))).ab b=⟨0,.fz⟩:=λb=>by
    show eP (hj db c.cp.bE (eE db c.cp.bT (mk x l (λT=>T=ic.seq x))).2) b=_;generalize (eE db c.cp.bT (mk x l (λT=>T=ic.seq x))).2=z;revert z;rw[iC];intro z;rfl
  have cd:(args++[Value.func (.yield l) #[] #[]]).length=c.ke:=by grind
  have M:bl { P:=P,w0:=w,F0:=F,K0:=λr=>r<w.heap.size/\¬Y r,nt:=c.ke,r:=none,dfr:=[],ig:=λ_=>none,bU:=⟨l,ic.aL,λT=>T=ic.seq x,I⟩,aO:=aQ } (c.cp.st (mk x l (λT=>T=ic.seq x)))
      { tmps:=(args++[Value.func (.yield l) #[] #[]]).toArray,defers:=[] } w (λ_=>⟨0,0,0,false⟩) F:=
    { dE := by omega
      dfr:=rfl
      bT:=λi=>by
        rcases fk x l (λT=>T=ic.seq x) i with e | ⟨G,e⟩ | ⟨G,e⟩ | ⟨G,e⟩
        · rw[e];trivial
        · rw[e]
          have:=(tK (H:=(c.cp.st (mk x l (λT=>T=ic.seq x))).ab) (κ:=λ_=>⟨0,0,0,false⟩) ic.ts dX ub).2 i G
          have aN:(args++[Value.func (.yield l) #[] #[]]).toArray.getD i undef=args.getD i undef:=by
            rw[Array.getD_eq_getD_getElem?,List.getD_eq_getElem?_getD,List.getElem?_toArray,List.getElem?_append_left (by omega)]
          grind
        · rw[e]
          show (args++[Value.func (.yield l) #[] #[]]).toArray.getD i undef=_
          simp_all
        · rw[e];trivial
      bE:=λb=>by unfold cE;rw[uk b];trivial
      own:=λb aa=>by rw[uk b]at aa;cases aa
      inj:=λb be aa _ _=>by rw[uk b]at aa;cases aa
      dd:=bn
      hg:=λr M=>.inl M
      hS:=λr M=>M
      hv:=λr M=>M.1
      eH:=λ_ _=>rfl
      size:=Nat.le_refl _
      er:=df.refl _
      gi:=h0
      kl:=λb r h=>by cases h
      jD:=λb r h=>by cases h
      j3:=λb k h=>by cases h
      km:=λb k h=>by cases h
      eB:=λdG kv e7 n st e=>by
        rcases fk x l (λT=>T=ic.seq x) b5 with a1 | ⟨G,_⟩ | ⟨G,_⟩ | ⟨_,a1⟩
        · grind
        · unfold b5 eQ at *;omega
        · grind
        · rw[a1]at e
          cases e
          exact⟨⟨I,rfl⟩,cC,Y,λr M=>⟨(hX r M).1,(hX r M).2,λk=>k.2 M⟩,λb aa=>(by rw[uk b]at aa;cases aa),lH.yZ.2 eA⟩
      jE:=ia,iy:=gl }
  obtain⟨aD,tV⟩:=r8 x l gH;refine (h.iw _ _ w _ F _ rfl rfl rfl rfl rfl rfl M aD).mono λe w' ⟨v,bm,aE,κ',F',he,fZ,_,bc⟩=>?_;obtain⟨n,st,dG,e7,qh⟩:=ql bm;obtain⟨⟨ais,M4⟩,_,gz,ah,aZ,M5⟩:=bc.eB dG ic.aL e7 n st qh;refine⟨v,n,st,F',gz,he,λgq=>?_,lH.yZ.1 M5,bc.hS,λr cM=>?_,bc.dd,λr E U=>bc.eH r ⟨E,U⟩,λr cM=>⟨?_,(ah r cM).1,(ah r cM).2.1⟩,bc.size,bc.er⟩
  · grind
  · rcases bc.hg r cM with h | h
    · exact .inl h
    · by_cases aS:Y r
      · exact .inr (.inl aS)
      · exact .inr (.inr (Nat.le_of_not_lt λcc=>h ⟨cc,aS⟩))
  grind
theorem M6{P:Program}{aQ:dD}{k:FuncId}{c:cG}(h:cO P aQ k c)(ia:qM P aQ){cs:List ad}{aL:ad}{S:(gg (cs.map .bH)).aj->List aL.aj->Prop}(mk:(gg (cs.map .bH)).aj->Nat->(List aL.aj->Prop)->c.cp.aj)
    (aA:c.ke=j5 (gg (cs.map .bH))+1) (h0:c.ke<=eQ) (ub:gg (cs.map .bH)≠.cV)
    (fk:∀ x l L i,(∃ T,S x T)->(c.cp.st (mk x l L)).ax i=.undef\/(i<j5 (gg (cs.map .bH))+1/\0<i/\∃ e y,(c.cp.st (mk x l L)).ax i=.dV e y/\kq (gg (cs.map .bH)) x (i - 1)=.val (.bH e) (some y))\/(i=0/\(c.cp.st (mk x l L)).ax i=.hf l)\/(i=b5/\(c.cp.st (mk x l L)).ax i=.aR l aL L [] false))
    (iC:c.cp.bE=[]) (ql:∀ bm,∃ n st l L,(c.bQ.st bm).ax b5=.aR l aL L n st)
    (r8:∀ x l,(∃ L,S x L)->(c.sh (mk x l (S x))).cq/\∀ bm,(c.sh (mk x l (S x))).bQ bm->∀ dG e7 p,(c.bQ.st bm).ax b5=.aR dG aL e7 p false->S x p):wO P k ⟨cs,aL,S⟩:=by
  refine⟨h.enter,λF w args x bn gl dX eD l UO Y hX ait aiu=>?_⟩;have cC:=Uy ait;obtain⟨iz,G7⟩:=tK (H:=λ_=>⟨0,.fz⟩) (κ:=λ_=>⟨0,0,0,false⟩) (gg (cs.map .bH)) dX ub;have uk:∀ b,(c.cp.st (mk x l (S x))).ab b=⟨0,.fz⟩:=λb=>by
    show eP (hj db c.cp.bE (eE db c.cp.bT (mk x l (S x))).2) b=_;generalize (eE db c.cp.bT (mk x l (S x))).2=z;revert z;rw[iC];intro z;rfl
  have cd:(Value.func (.yield l) #[] #[]::args).length=c.ke:=by grind
  have M:bl { P:=P,w0:=w,F0:=F,K0:=λr=>r<w.heap.size/\¬Y r,nt:=c.ke,r:=none,dfr:=[],ig:=λ_=>none,bU:=⟨l,aL,S x,UO⟩,aO:=aQ } (c.cp.st (mk x l (S x)))
      { tmps:=(Value.func (.yield l) #[] #[]::args).toArray,defers:=[] } w (λ_=>⟨0,0,0,false⟩) F:=
    { dE := by omega
      dfr:=rfl
      bT:=λi=>by
        rcases fk x l (S x) i eD with e | ⟨G,ox,lE,y,e,aiv⟩ | ⟨G,e⟩ | ⟨G,e⟩
        · rw[e];trivial
        · rw[e]
          have:=(tK (H:=(c.cp.st (mk x l (S x))).ab) (κ:=λ_=>⟨0,0,0,false⟩) (gg (cs.map .bH)) dX ub).2 (i - 1) (by omega)
          have aN:(Value.func (.yield l) #[] #[]::args).toArray.getD i undef=args.getD (i - 1) undef:=by
            obtain⟨j,rfl⟩:∃ j,i=j+1:=⟨i - 1,by omega⟩
            simp
          rw[aN]
          rw[aiv]at this
          obtain⟨_,af⟩:=(dT rfl).1 this
          simp only[bJ]at af
          rcases af with⟨_,aA⟩ | ⟨q,mR,bj,bq,Cn,aW,aY⟩
          · cases aA
          · cases Cn
            exact⟨q,bj,(List.cons.inj bq).1,aW,aY⟩
        · rw[e]
          subst G
          rfl
        · rw[e];trivial
      bE:=λb=>by unfold cE;rw[uk b];trivial
      own:=λb aa=>by rw[uk b]at aa;cases aa
      inj:=λb be aa _ _=>by rw[uk b]at aa;cases aa
      dd:=bn
      hg:=λr M=>.inl M
      hS:=λr M=>M
      hv:=λr M=>M.1
      eH:=λ_ _=>rfl
      size:=Nat.le_refl _
      er:=df.refl _
      gi:=h0
      kl:=λb r h=>by cases h
      jD:=λb r h=>by cases h
      j3:=λb k h=>by cases h
      km:=λb k h=>by cases h
      eB:=λdG kv e7 n st e=>by
        rcases fk x l (S x) b5 eD with a1 | ⟨G,_⟩ | ⟨G,_⟩ | ⟨_,a1⟩
        · grind
        · grind
        · grind
        · rw[a1]at e
          cases e
          exact⟨⟨UO,rfl⟩,cC,Y,λr M=>⟨(hX r M).1,(hX r M).2,λk=>k.2 M⟩,λb aa=>(by rw[uk b]at aa;cases aa),lH.yZ.2 aiu⟩
      jE:=ia,iy:=gl }
  obtain⟨aD,tV⟩:=r8 x l eD;have e':#[Value.func (.yield l) #[] #[]]++args.toArray=(Value.func (.yield l) #[] #[]::args).toArray:=by simp
  rw[e'];refine (h.iw _ _ w _ F _ rfl rfl rfl rfl rfl rfl M aD).mono λe w' ⟨v,bm,aE,κ',F',he,fZ,_,bc⟩=>?_;obtain⟨n,st,dG,e7,qh⟩:=ql bm;obtain⟨⟨ais,M4⟩,_,gz,ah,aZ,M5⟩:=bc.eB dG aL e7 n st qh;refine⟨v,n,st,F',gz,he,λgq=>?_,lH.yZ.1 M5,bc.hS,λr cM=>?_,bc.dd,λr E U=>bc.eH r ⟨E,U⟩,λr cM=>⟨?_,(ah r cM).1,(ah r cM).2.1⟩,bc.size,⟨bc.er.os,bc.er.tape,bc.er.output⟩⟩
  · grind
  · rcases bc.hg r cM with h | h
    · exact .inl h
    · by_cases aS:Y r
      · exact .inr (.inl aS)
      · exact .inr (.inr (Nat.le_of_not_lt λcc=>h ⟨cc,aS⟩))
  grind
end Go.Fer
namespace Go.Fer
open Go.RowKit Go.ChangeShapes Go.WideShapes
def ad.hL:ad->Bool
 | .bool | .int _ | .str | .cV=>true
 | .st t=>t.hL
 | .az a b=>a.hL&&b.hL
 | .slice e=>e.hL
 | _=>false
def ad.ht:(t:ad)->t.aj->Prop
 | .int k,x=>fR k x
 | .str,x=>x.length<2 ^ 63
 | .st t,x=>t.ht x
 | .az a b,x=>a.ht x.1/\b.ht x.2
 | .slice e,xs=>xs.length<2 ^ 63/\∀ y∈xs,e.ht y
 | .array n e,xs=>xs.length=n/\∀ y∈xs,e.ht y
 | _,_=>True
theorem Ai{P:Program}{w:World}{F:Nat->Prop}:∀ (t:ad) {cs:List Value} {x:t.aj},bJ P t F w cs x->t.ht x
 | .bool,_,_,_=>trivial
 | .int _,_,_,h=>h.2
 | .str,_,_,h=>h.2
 | .cV,_,_,_=>trivial
 | .st t,_,_,h=>by simp only[bJ]at h;exact Ai t h
 | .az a b,_,_,h=>by
  simp only[bJ]at h;obtain⟨c,d,_,E,U⟩:=h;exact⟨Ai a E,Ai b U⟩
 | .slice e,_,xs,h=>by
  simp only[bJ]at h;obtain⟨a,cap,_,E,U,ah,aZ⟩:=h;refine⟨by omega,λy aS=>?_⟩;obtain⟨i,G,rfl⟩:=List.mem_iff_getElem.1 aS;cases a with
  | none=>have:=ah rfl;omega
  | some p=>
   obtain⟨bj,_,k⟩:=(aZ p rfl (by omega)).2.2 i G;exact Ai e k
 | .array n e,_,xs,h=>by
  simp only[bJ]at h;obtain⟨fl,_,E,U,ah⟩:=h;refine⟨U,λy aS=>?_⟩;obtain⟨i,G,rfl⟩:=List.mem_iff_getElem.1 aS;exact Ai e (ah i G (by omega))
 | .bH _,_,_,_=>trivial
 | .map _ _,_,_,_=>trivial
 | .fn _ _,_,_,_=>trivial
 | .cu _,_,_,_=>trivial
 | .eo,_,_,_=>trivial
section
variable {H:Type} {enc:TypeId×Value->H} {P:Program} {w:World}
theorem b'.cells{t:ad}{id:TypeId}(h:b' P t id):P.cellsOf id=t.size:=by
 obtain⟨i,z,E,U,_⟩:=kp h.ko;simp[Program.cellsOf,E,U]
theorem UP{a:Addr}{n:Nat}{bj:List Value}(h:w.cells? 0 a n=some bj)(aA:0<n):a.spot=none/\a.block<w.heap.size/\bj.length=n/\∀ j (aG:j<bj.length),w.cell? ⟨a.block,a.off+j,none⟩=some bj[j]:=by
 have aa:=World.cells?_block h aA;have n0:a.spot=none:=by
  unfold World.cells? at h;split at h
  ·obtain⟨m,rfl⟩:∃ m,n=m+1:=⟨n - 1,by omega⟩
   rw[List.range_succ_eq_map]at h;simp only[List.mapM_cons,Option.bind_eq_bind,Option.bind_eq_some_iff]at h;obtain⟨v,af,_⟩:=h;cases aD:a.spot with
   | none=>rfl
   | some x=>simp[World.cell?,Addr.add,aD]at af;split at af<;>cases af
  ·cases h
 unfold World.cells? at h;split at h
 ·have hlen:bj.length=n:=by
   have:∀ (l:List Nat) (r:List Value),l.mapM (λi=>w.cell? (a.add i))=some r->r.length=l.length:=by
    intro l;induction l with
    | nil=>intro r M;simp at M;subst M;rfl
    | cons x l aJ=>
     intro r M;simp only[List.mapM_cons,Option.bind_eq_bind,Option.bind_eq_some_iff,Option.pure_def,Option.some.injEq]at M;obtain⟨v,_,pZ,bc,rfl⟩:=M;simp[aJ pZ bc]
   simpa using this _ _ h
  refine⟨n0,aa,hlen,λj aG=>?_⟩;have:∀ (l:List Nat) (r:List Value),l.mapM (λi=>w.cell? (a.add i))=some r->∀ j (E:j<l.length) (U:j<r.length),w.cell? (a.add l[j])=some r[j]:=by
   intro l;induction l with
   | nil=>intro r _ j E;simp at E
   | cons x l aJ=>
    intro r M j E U;simp only[List.mapM_cons,Option.bind_eq_bind,Option.bind_eq_some_iff,Option.pure_def,Option.some.injEq]at M;obtain⟨v,af,pZ,bc,rfl⟩:=M;cases j with
    | zero=>exact af
    | succ j=>exact aJ pZ bc j (by simpa using E) (by simpa using U)
  have E:=this _ _ h j (by simp;omega) aG;rw[<-E];have za:a.add ((List.range n)[j]'(by simp;omega))=⟨a.block,a.off+j,none⟩:=by
   cases a;simp only at n0;subst n0;simp[Addr.add]
  rw[za]
 ·cases h
def qn(w:World):Nat->Prop:=λr=>r<w.heap.size
def ad.oI(n:Nat):(t:ad)->t.aj->Prop
 | .st t,x=>t.oI n x
 | .az a b,x=>a.oI n x.1/\b.oI n x.2
 | .slice e,xs=>xs.length<=n/\∀ y∈xs,e.oI n y
 | _,_=>True
structure BJ(b:DataW H->Nat):Prop where
 len:∀ e s,e.length<=b (.slice e s)
 BK:∀ e s d,d∈e->b d<=b (.slice e s)
 Rf:∀ l d,d∈l->b d<=b (.agg l)
variable {b:DataW H->Nat} {N:Nat}
theorem aiw(aa:BJ b)(t:ad):(t.hL=true->∀ {id:TypeId} {cg:Nat} {cs:List Value} {x:DataW H×List MemPlace},b' P t id->DataW.trod enc P w 0 (λ_=>true) true cg id cs=some x->b x.1<=N->∃ y,bJ P t (qn w) w cs y/\t.oI N y)/\
  (t.hL=true->∀ {l:List Field} {off n:Nat} {cs:List Value},cF P t (.inr (l,off))=true->(∀ f∈l,∃ x,DataW.trod enc P w 0 (λ_=>true) true n f.type ((cs.drop f.offset).take (P.cellsOf f.type))=some x/\b x.1<=N)->∃ y,bJ P t (qn w) w ((cs.drop off).take t.size) y/\t.oI N y):=by
 induction t with
 | bool=>
  refine⟨λ_ {id cg cs x} aK h _=>?_,λ_ {l off n cs} h=>by simp[cF]at h⟩;have hu:P.underlying id=some .bool:=by
   unfold b' at aK;simp only[cF,Bool.and_eq_true]at aK;obtain⟨_,aK⟩:=aK;split at aK
   ·assumption
   ·cases aK
  obtain⟨b,rfl,_⟩:=DataW.trod_bool hu h;exact⟨_,rfl,trivial⟩
 | int k=>
  refine⟨λ_ {id cg cs x} aK h _=>?_,λ_ {l off n cs} h=>by simp[cF]at h⟩;obtain⟨n,rfl,_,hw⟩:=DataW.trod_int aK.int h;simp only[Lit.wf,Bool.and_eq_true,decide_eq_true_eq]at hw;exact⟨n,⟨rfl,hw⟩,trivial⟩
 | str=>
  refine⟨λ_ {id cg cs x} aK h _=>?_,λ_ {l off n cs} h=>by simp[cF]at h⟩;obtain⟨s,rfl,_,hw⟩:=DataW.trod_string aK.str h;refine⟨s.data.toList,⟨by simp,?_⟩,trivial⟩;have:s.data.toList.length=s.size:=by rw[Array.length_toList];rfl
  rw[this];have:maxLen<2 ^ 63:=by decide
  omega
 | cV=>exact⟨λ_ {id cg cs x} aK h _=>by simp[b',cF]at aK,λ_ {l off n cs} h=>by simp[cF]at h⟩
 | st t aJ=>
  refine⟨λak {id cg cs x} aK h m'=>?_,λ_ {l off n cs} h=>by simp[cF]at h⟩;have ak:t.hL=true:=ak;have Hj:P.cellsOf id=t.size:=aK.cells;obtain⟨eT,hu⟩:=aK.st;obtain⟨xs,n,_,rfl,hlen,Sy,ar⟩:=DataW.trod_struct hu h;unfold b' at aK;simp only[cF,Bool.and_eq_true]at aK;obtain⟨_,aK⟩:=aK;rw[hu]at aK;have jj:∀ f∈eT.toList,∃ x,DataW.trod enc P w 0 (λ_=>true) true n f.type ((cs.drop f.offset).take (P.cellsOf f.type))=some x/\b x.1<=N:=by
   intro f aix;obtain⟨i,G,rfl⟩:=List.mem_iff_getElem.1 aix;have dM:i<eT.size:=by simpa using G
   refine⟨xs[i]'(by omega),?_,Nat.le_trans (aa.Rf _ _ (List.mem_map_of_mem (List.getElem_mem _))) m'⟩;rw[ar i _ (by simp[dM])];exact List.getElem?_eq_getElem _
  simp only at aK;split at aK
  ·have aK:=of_decide_eq_true aK;subst aK;have:cs=[]:=by
    have:=hlen.trans Hj;simpa [ad.size]using this
   subst this;exact⟨(),rfl,trivial⟩
  ·rename_i f fB;simp only[Bool.and_eq_true,beq_iff_eq,bne_iff_ne]at aK;obtain⟨⟨⟨aX,E⟩,_⟩,_⟩:=aK;obtain⟨x,ai,aiy⟩:=jj f (by rw[fB];simp);have hc:P.cellsOf f.type=t.size:=b'.cells E;rw[aX,hc,List.drop_zero,List.take_of_length_le (by omega)]at ai;exact aJ.1 ak E ai aiy
  ·obtain⟨y,aS⟩:=aJ.2 ak aK jj;rw[List.drop_zero,List.take_of_length_le (by omega)]at aS;exact⟨y,aS⟩
 | az a b fy eL=>
  refine⟨λ_ {id cg cs x} aK h _=>by simp[b',cF]at aK,λak {l off n cs} aK h=>?_⟩;simp only[ad.hL,Bool.and_eq_true]at ak;have join:∀ {y:a.aj} {z:b.aj},bJ P a (qn w) w ((cs.drop off).take a.size) y/\a.oI N y->bJ P b (qn w) w ((cs.drop (off+a.size)).take b.size) z/\b.oI N z->∃ y,bJ P (.az a b) (qn w) w ((cs.drop off).take (ad.az a b).size) y/\(ad.az a b).oI N y:=by
   intro y z aS bk;refine⟨(y,z),⟨_,_,?_,aS.1,bk.1⟩,aS.2,bk.2⟩;simp only[ad.size];rw[List.take_add,List.drop_drop]
  match l,aK with
  | f::g::[],aK=>
   simp only[cF,Bool.and_eq_true,beq_iff_eq,bne_iff_ne]at aK;obtain⟨⟨⟨⟨aX,E⟩,_⟩,_⟩,⟨⟨⟨hn,aW⟩,_⟩,_⟩⟩:=aK;obtain⟨x,ai,aA⟩:=h f (by simp);obtain⟨dK,nK,Cx⟩:=h g (by simp);rw[aX,b'.cells E]at ai;rw[hn,b'.cells aW]at nK;obtain⟨y,aS⟩:=fy.1 ak.1 E ai aA;obtain⟨z,bk⟩:=eL.1 ak.2 aW nK Cx;exact join aS bk
  | f::g::e::eT,aK=>
   simp only[cF,Bool.and_eq_true,beq_iff_eq,bne_iff_ne]at aK;obtain⟨⟨⟨⟨aX,E⟩,_⟩,_⟩,aW⟩:=aK;obtain⟨x,ai,aA⟩:=h f (by simp);rw[aX,b'.cells E]at ai;obtain⟨y,aS⟩:=fy.1 ak.1 E ai aA;obtain⟨z,bk⟩:=eL.2 ak.2 aW λiB rk=>h iB (List.mem_cons_of_mem _ rk);exact join aS bk
 | slice e aJ=>
  refine⟨λak {id cg cs x} aK h m'=>?_,λ_ {l off n cs} h=>by simp[cF]at h⟩;have ak:e.hL=true:=ak;obtain⟨i,hu,he,cd⟩:=aK.sl;have Hj:=he.cells;rcases DataW.trod_slice hu h with⟨rfl,_⟩ | ⟨a,len,cap,elems,ch,n,rfl,rfl,ai,_,UQ,w8,kc,eU,UR,_⟩
  ·exact⟨[],⟨none,0,rfl,Nat.le_refl _,by decide,λ_=>rfl,λp ao=>by cases ao⟩,Nat.zero_le _,λy aS=>by cases aS⟩
  ·rw[ai]at m';have la:0<P.cellsOf i:=by rw[Hj];omega
   have key:∀ j,j<len->∃ bj y,w.cells? 0 (a.add (j*P.cellsOf i)) (P.cellsOf i)=some bj/\bJ P e (qn w) w bj y/\e.oI N y:=by
    intro j aG;have:=eU j aG;rw[List.getElem?_eq_getElem (by omega)]at this;obtain⟨bj,E,U⟩:=Option.bind_eq_some_iff.1 this;obtain⟨y,aS⟩:=aJ.1 ak he U (Nat.le_trans (aa.BK _ _ _ (List.mem_map_of_mem (List.getElem_mem _))) m');exact⟨bj,y,E,aS⟩
   have aiz:0<cap->a.spot=none/\a.block<w.heap.size:=by
    intro hc;have:∃ bj,w.cells? 0 (a.add (0*P.cellsOf i)) (P.cellsOf i)=some bj:=by
     by_cases Ku:0<len
     ·obtain⟨bj,_,E,_⟩:=key 0 Ku;exact⟨bj,E⟩
     ·obtain⟨m1,m2⟩:=UR rfl;have bk:len=0:=by omega
      subst bk;have:=m2 0 (by omega);rw[List.getElem?_eq_getElem (by omega)]at this;obtain⟨bj,E,_⟩:=Option.bind_eq_some_iff.1 this;exact⟨bj,E⟩
    obtain⟨bj,E⟩:=this;have ay:a.add (0*P.cellsOf i)=a:=by unfold Addr.add;simp
    rw[ay]at E;obtain⟨aW,aY,_⟩:=UP E la;exact⟨aW,aY⟩
   have:∃ ys:List e.aj,ys.length=len/\∀ j (aG:j<ys.length),∃ bj,w.cells? 0 (a.add (j*P.cellsOf i)) (P.cellsOf i)=some bj/\bJ P e (qn w) w bj ys[j]/\e.oI N ys[j]:=by
    clear eU kc h UQ UR m';induction len with
    | zero=>exact⟨[],rfl,λj aG=>by simp at aG⟩
    | succ m aiA=>
     obtain⟨ys,j8,c7⟩:=aiA λj aG=>key j (by omega);obtain⟨bj,y,E,U⟩:=key m (by omega);refine⟨ys++[y],by simp[j8],λj aG=>?_⟩;by_cases xa:j<ys.length
     ·rw[List.getElem_append_left xa];exact c7 j xa
     ·have:j=m:=by simp at aG;omega
      subst this;refine⟨bj,E,?_⟩;rw[List.getElem_append_right (by omega)];simpa [j8]using U
   have aiB:len<=N:=by have:=aa.len (elems.map (·.1)) (ch.map (·.1));rw[List.length_map,kc]at this;exact Nat.le_trans this m'
   obtain⟨ys,rfl,j8⟩:=this;have zm:maxLen<2 ^ 63:=by decide
   refine⟨ys,⟨some a,cap,rfl,UQ,by omega,(by simp),λp ao u3=>?_⟩,aiB,λy aS=>by
    obtain⟨j,aG,rfl⟩:=List.mem_iff_getElem.1 aS;obtain⟨bj,_,E,U⟩:=j8 j aG;exact U⟩
   cases ao;obtain⟨aW,aY⟩:=aiz u3;refine⟨aY,aW,λj aG=>?_⟩;obtain⟨bj,d1,d2,_⟩:=j8 j aG;obtain⟨m1,m2,m3,m4⟩:=UP d1 la;refine⟨bj,⟨aY,rfl,λq bq=>?_⟩,d2⟩;have:=m4 q bq;have ay:a.add (j*P.cellsOf i)=⟨a.block,a.off+j*e.size,none⟩:=by
    rw[Hj];cases a;simp only at aW;subst aW;unfold Addr.add;split
    ·rename_i aX;simp[aX]
    ·rfl
   rw[ay]at this;exact this
 | array n e aJ=>exact⟨λh=>by simp[ad.hL]at h,λh=>by simp[ad.hL]at h⟩
 | bH e aJ=>exact⟨λh=>by simp[ad.hL]at h,λh=>by simp[ad.hL]at h⟩
 | map k v wL wM=>exact⟨λh=>by simp[ad.hL]at h,λh=>by simp[ad.hL]at h⟩
 | fn a b fy eL=>exact⟨λh=>by simp[ad.hL]at h,λh=>by simp[ad.hL]at h⟩
 | cu a aJ=>exact⟨λh=>by simp[ad.hL]at h,λh=>by simp[ad.hL]at h⟩
 | eo=>exact⟨λh=>by simp[ad.hL]at h,λh=>by simp[ad.hL]at h⟩
theorem US(aa:BJ b){t:ad}(ak:t.hL=true){id:TypeId}(aK:b' P t id){base:Nat}{v:Value}{d:DataW H}{ps:List MemPlace}(cC:Value.okWide P w .any base id v)
  (h:DataW.Trod enc P w 0 (λ_=>true) true id v d ps) (m':b d<=N):∃ y,ep P t (qn w) w v y/\t.oI N y:=by
 obtain⟨n,aA⟩:=h;obtain⟨y,aS,ar⟩:=(aiw aa t).1 ak aK aA m';refine⟨y,⟨?_,aS⟩,ar⟩;cases t with
 | bool=>
  simp only[bJ]at aS;have hu:P.underlying id=some .bool:=by
   unfold b' at aK;simp only[cF,Bool.and_eq_true]at aK;obtain⟨_,aK⟩:=aK;split at aK
   ·assumption
   ·cases aK
  simp only[Value.okWide,hu,Cell.okWide,Cell.ok]at cC;cases v<;>first | rfl | exact cC.elim
 | int k=>
  simp only[Value.okWide,aK.int,Cell.okWide,Cell.ok]at cC;cases v<;>first | rfl | exact cC.elim
 | str=>
  simp only[Value.okWide,aK.str,Cell.okWide,Cell.ok]at cC;cases v<;>first | rfl | exact cC.elim
 | cV=>simp[b',cF]at aK
 | st t=>
  obtain⟨eT,hu⟩:=aK.st;simp only[Value.okWide,hu]at cC;obtain⟨cs,rfl,hc,_⟩:=cC;exact⟨cs,rfl,hc.trans aK.cells⟩
 | az a b=>simp[b',cF]at aK
 | slice e=>
  obtain⟨i,hu,_⟩:=aK.sl;simp only[Value.okWide,hu,Cell.okWide,Cell.ok]at cC;cases v<;>first | rfl | exact cC.elim
 | array n e=>simp[ad.hL]at ak
 | bH e=>simp[ad.hL]at ak
 | map k v=>simp[ad.hL]at ak
 | fn a b=>simp[ad.hL]at ak
 | cu a=>simp[ad.hL]at ak
 | eo=>simp[ad.hL]at ak
def xP(P:Program):List TypeId->ad->Bool
 | [id],t=>cF P t (.inl id)&&t.hL
 | id::ids,.az a b=>cF P a (.inl id)&&a.hL&&xP P ids b
 | _,_=>false
theorem UT(aa:BJ b):∀ (ids:List TypeId) (ts:ad) {base:Nat} {aE:List Value} {bj:List (DataW H)} {ps:List MemPlace},xP P ids ts=true->DataW.TrodAll enc P w 0 (λ_=>true) true ids aE bj ps->
  (∀ (j:Nat) t v,ids[j]?=some t->aE[j]?=some v->Value.okWide P w .any base t v)->(∀ d∈bj,b d<=N)->∃ x,fm P ts (qn w) w aE x/\ts.oI N x
 | [],ts,_,aE,bj,ps,h,_,_,_=>by simp[xP]at h
 | [id],t,_,aE,bj,ps,h,hH,cC,m'=>by
  simp only[xP,Bool.and_eq_true]at h;obtain⟨v0,M7,d0,M8,FL,w4,rfl,rfl,rfl,aX,sD⟩:=trodAll_cons hH;obtain⟨rfl,rfl,rfl⟩:=trodAll_nil sD;obtain⟨y,⟨xD,su⟩,ar⟩:=US aa h.2 h.1 (cC 0 id v0 rfl rfl) aX (m' _ (List.mem_cons_self ..));refine⟨y,⟨?_,by simpa [ed]using su⟩,ar⟩;cases t<;>first | exact⟨v0,rfl,xD⟩ | (simp[cF]at h;done)
 | id::aiC::ids,ts,base,aE,bj,ps,h,hH,cC,m'=>by
  cases ts with
  | az a b=>
   simp only[xP,Bool.and_eq_true]at h;obtain⟨v0,M7,d0,M8,FL,w4,rfl,rfl,rfl,aX,sD⟩:=trodAll_cons hH;obtain⟨y,⟨xD,su⟩,ar⟩:=US aa h.1.2 h.1.1 (cC 0 id v0 rfl rfl) aX (m' _ (List.mem_cons_self ..));obtain⟨z,⟨aiD,aiE⟩,aC⟩:=UT aa (aiC::ids) b h.2 sD (λj t v E U=>cC (j+1) t v (by simpa using E) (by simpa using U)) λd aw=>m' d (List.mem_cons_of_mem _ aw);exact⟨(y,z),⟨⟨xD,aiD⟩,_,_,JV _ _,su,aiE⟩,ar,aC⟩
  | _=>simp[xP]at h
theorem UU(ak:laidOutB P=true){w':World}{UW:Nat->Bool}:∀ (ids:List TypeId) {aE:List Value} {bj:List (DataW H)} {ps:List MemPlace},(ids.all λt=>P.readableRec t&&decide (t<P.types.size))=true->
  DataW.TrodAll enc P w 0 (λ_=>true) true ids aE bj ps->(∀ p∈ps,w.sameAt w' p)->(∀ p∈ps,UW p.block=true)->DataW.TrodAll enc P w' 0 UW true ids aE bj ps
 | [],_,_,_,_,h,_,_=>by
  obtain⟨rfl,rfl,rfl⟩:=trodAll_nil h;rfl
 | id::ids,aE,bj,ps,M,h,E,U=>by
  simp only[List.all_cons,Bool.and_eq_true,decide_eq_true_eq]at M;obtain⟨v0,M7,d0,M8,FL,w4,rfl,rfl,rfl,aX,sD⟩:=trodAll_cons h;exact trodAll_cons_mk (Go.WideElems.Trod_stays ak M.1.1 M.1.2 aX (λp ao=>E p (List.mem_append_left _ ao)) (λp ao=>U p (List.mem_append_left _ ao)))
   (UU ak ids M.2 sD (λp ao=>E p (List.mem_append_right _ ao)) (λp ao=>U p (List.mem_append_right _ ao)))
theorem acE(aa:BJ b){k:FuncId}{fn:Func}{ts:ad}{sh:ts.aj->A (ad.bool).aj}{spec:ChangeSpec}{rt:TypeId}(aiF:laidOutB P=true)(xb:gU P k ts .bool sh)(aiG:∀ x,ts.ht x->ts.oI N x->A.cw (sh x) λy=>y=true)
  (dX:xP P fn.params.toList ts=true) (aiH:(fn.params.toList.all λt=>P.readableRec t&&decide (t<P.types.size))=true) (gm:fn.resultTypes=#[rt]) (aiI:P.underlying rt=some .bool)
  (af:spec.vars=[]) (wI:∀ (H:Type) (bj:List (DataW H)),bj.length=fn.params.size->spec.fn H bj={ results:=[.lit (.bool true)],args:=bj })
  {base:Nat} {args:Array Value} {bj gs:List (DataW H)} {before:List MemPlace} (wH:∀ (j:Nat) t v,fn.params[j]?=some t->args[j]?=some v->Value.okWide P w .any base t v)
  (tn:DataW.Whole enc P fn.params.toList spec.vars false w args.toList bj gs before) (m':∀ d∈bj,b d<=N) (gl:nF P (qn w) w:=by exact λb aa=>absurd (show b<0 from aa) (Nat.not_lt_zero b)) :
  Calls P k args w λe pX=>∃ v,e=.returned v/\spec.post enc P fn false true false false w args v pX:=by
 have cc:=tn.lt;have UX:=tn;obtain⟨p,q,hH,M9,rfl,tF,_⟩:=tn;have bq:gs=[]/\q=[]:=by
  rw[af]at M9;cases gs with
  | nil=>exact⟨rfl,M9⟩
  | cons _ _=>exact M9.elim
 obtain⟨rfl,rfl⟩:=bq;simp only[List.append_nil]at UX cc tF;obtain⟨x,ai,ar⟩:=UT aa fn.params.toList ts dX hH (λj t v E U=>wH j t v (by simpa using E) (by simpa using U)) m';obtain⟨aD,ag⟩:=aiG x (Ai ts ai.2) ar;have vc:bj.length=fn.params.size:=by
  have:∀ (ids:List TypeId) {aE:List Value} {bj:List (DataW H)} {ps:List MemPlace},DataW.TrodAll enc P w 0 (λ_=>true) true ids aE bj ps->bj.length=ids.length:=by
   intro ids;induction ids with
   | nil=>intro aE bj ps h;obtain⟨rfl,rfl,rfl⟩:=trodAll_nil h;rfl
   | cons id ids aJ=>intro aE bj ps h;obtain⟨v0,M7,d0,M8,FL,w4,rfl,rfl,rfl,aX,sD⟩:=trodAll_cons h;simp[aJ sD]
  simpa using this _ hH
 have hc:=xb.iw (qn w) w args.toList x (λ_ h=>h) gl ai aD;refine hc.mono λe pX ⟨v,y,he,aS,M,aa⟩=>?_;have aS:=ag y aS;subst aS;obtain⟨aE,cj,cK⟩:=M;have aiJ:v=.bool true:=by
  simp only[yX]at cj;subst cj;obtain⟨⟨u,hu,nD⟩,nL⟩:=cK;simp only[List.cons.injEq,and_true]at hu;subst hu;simp only[kJ]at nD;simp only[JV,nD,acM,bJ]at nL;simpa using nL
 subst aiJ;have q5:∀ p'∈p,w.sameAt pX p':=by
  intro p' ao;have E:=aa.block _ (cc p' ao);cases p' with
  | cell b off=>simp only[World.sameAt,World.cell?];simp only[MemPlace.block]at E;rw[E]
  | map b=>exact E
 refine⟨_,he,bj,[],p,[],p,[],UX,?_,?_,?_,?_,λh=>by cases h⟩
 ·rw[List.append_nil,wI H bj vc,gm];exact trodAll_cons_mk (shut_bool aiI true) trodAll_mk0
 ·rw[List.append_nil,wI H bj vc];exact UU aiF _ aiH hH q5 λp' ao=>by simpa using cc p' ao
 ·rw[af,List.append_nil,wI H bj vc];rfl
 ·refine⟨aa.os,aa.output,λi G=>?_⟩;have E:=aa.block i G;rw[E];exact (World.keptBut_refl w λHk=>Hk∈p/\(Hk∈[]\/Hk∈p\/Hk∈[])).2.2 i G
end
end Go.Fer
namespace Go.Fer.og
open Go.Proofs
abbrev t2:ad:=.int .i64
abbrev t3:ad:=.int .i64
abbrev t4:ad:=.bool
abbrev t5:ad:=.int .u8
abbrev aiK:ad:=.int .u8
abbrev aiL:ad:=.st (.az t2 (.az t3 (.az t4 aiK)))
abbrev t9:ad:=.str
abbrev aiM:ad:=.str
abbrev aiN:ad:=.str
abbrev t21:ad:=.int .i32
abbrev xQ:ad:=.st (.az t3 t3)
abbrev Aj:ad:=.st (.az t3 (.az t3 xQ))
abbrev t22:ad:=.slice Aj
abbrev eZ:ad:=.slice t3
abbrev Ak:ad:=.st (.az t3 (.az eZ xQ))
abbrev Hl:ad:=.slice Ak
abbrev xR:ad:=.st Hl
abbrev DE:ad:=.slice xR
abbrev Al:ad:=.st (.az t3 (.az t3 (.az t3 t3)))
abbrev Hm:ad:=.slice Al
abbrev um:ad:=.st (.az t22 (.az DE (.az t3 Hm)))
abbrev xS:ad:=.st (.az t3 (.az t3 (.az t3 (.az t3 eZ))))
abbrev t28:ad:=.slice xS
abbrev qL:ad:=.st (.az eZ (.az xQ (.az t3 (.az t3 t3))))
abbrev Hn:ad:=.slice qL
abbrev rr:ad:=.st (.az t3 (.az t3 t3))
abbrev Am:ad:=.slice rr
abbrev t32:ad:=.st (.az um (.az eZ (.az t28 (.az Hn (.az Am t3)))))
abbrev qo:ad:=.slice xQ
abbrev ja:ad:=.st (.az t3 (.az t3 (.az t3 (.az t3 (.az t3 t3)))))
abbrev n1:ad:=.slice ja
abbrev M_:ad:=.st (.az t3 (.az t3 (.az t3 (.az t3 (.az t3 (.az t3 t3))))))
abbrev tm:ad:=.st (.az qo (.az n1 (.az eZ (.az qo M_))))
abbrev o2:ad:=.st (.az t32 tm)
abbrev UY:ad:=.int .i64
abbrev uZ:ad:=.slice t9
abbrev aiO:ad:=.st (.az t3 (.az t3 (.az t3 t3)))
abbrev aiP:ad:=.st (.az t3 (.az t3 (.az t3 (.az t3 (.az t3 (.az t3 (.az t3 t3)))))))
abbrev qp:ad:=.st o2
abbrev t105:ad:=.bH qp
abbrev UZ:ad:=.eo
abbrev M':ad:=.st (.az t3 (.az t4 UZ))
abbrev Na:ad:=.map t9 M'
abbrev DF:ad:=.slice eZ
abbrev xT:ad:=.st (.az um DF)
abbrev U0:ad:=.bH xT
abbrev Nb:ad:=.fn t3 t3
abbrev qq:ad:=.st (.az ja t3)
abbrev Nc:ad:=.slice qq
abbrev Nd:ad:=.array 10 Nc
abbrev DG:ad:=.st (.az eZ Nd)
abbrev pv:ad:=.bH DG
abbrev Nf:ad:=.slice pv
abbrev rs:ad:=.st (.az tm (.az n1 Nf))
abbrev vy:ad:=.bH rs
abbrev U1:ad:=.fn t3 t4
abbrev aiQ:ad:=.fn vy t4
abbrev aiR:ad:=.fn (.az ja t3) t4
abbrev t138:ad:=.cu (.az ja t3)
abbrev U2:ad:=.fn pv (.az t3 t4)
abbrev Ho:ad:=.map t3 t3
abbrev Ng:ad:=.cu t3
abbrev aiS:ad:=.cu t3
abbrev U3:ad:=.st (.az t3 t3)
abbrev U4:ad:=.slice U3
abbrev U5:ad:=.st (.az t3 (.az t3 t3))
abbrev U6:ad:=.map U5 t3
abbrev t222:ad:=.st (.az t32 (.az U4 U6))
abbrev oJ:ad:=.bH t222
abbrev aiT:ad:=.fn eZ t4
abbrev t164:ad:=.cu eZ
abbrev U7:ad:=.st (.az t3 (.az t3 t3))
abbrev aiU:ad:=.slice U7
abbrev t171:ad:=.slice t5
abbrev U8:ad:=.fn qL t4
abbrev U9:ad:=.fn Al t4
abbrev Nh:ad:=.fn ja t4
abbrev t228:ad:=.int .u64
abbrev aiV:ad:=.slice t3
abbrev aiW:ad:=.bH um
abbrev aiX:ad:=.bH xR
abbrev aiY:ad:=.array 4 t9
abbrev U_:ad:=.st (.az t3 (.az t3 t3))
abbrev aiZ:ad:=.map U_ t3
abbrev Hp:ad:=.map t3 ja
abbrev ai0:ad:=.int .u32
abbrev U':ad:=.int .u64
abbrev Va:ad:=.fn xS t4
abbrev Vb:ad:=.fn rr t4
abbrev Vc:ad:=.fn Ak t4
abbrev Vd:ad:=.slice n1
abbrev Ve:ad:=.fn Aj t4
abbrev Vf:ad:=.fn xR t4
abbrev DH:ad:=.fn (.az qq qq) t3
abbrev ai1:ad:=.int .i64
abbrev ai2:ad:=.slice DF
abbrev ai3:ad:=.int .i64
abbrev Vg:ad:=.int .u64
abbrev ai4:ad:=.bH t3
abbrev Vh:ad:=.st (.az ja t3)
abbrev ai5:ad:=.slice Vh
abbrev Vi:ad:=.st (.az t3 eZ)
abbrev ai6:ad:=.slice Vi
abbrev ai7:ad:=.bH t5
abbrev ai8:ad:=.array 24 t5
abbrev ai9:ad:=.bH Vg
abbrev ai_:ad:=.slice Am
abbrev ai':ad:=.array 256 t5
abbrev Vj:ad:=.st (.az t5 t5)
abbrev aja:ad:=.array 16 Vj
abbrev Vk:ad:=.st t9
abbrev ajb:ad:=.bH Vk
abbrev ajc:ad:=.array 20 U'
abbrev ajd:ad:=.array 65 t5
abbrev aje:ad:=.array 32 t5
abbrev ajf:ad:=.array 64 t5
abbrev ajg:ad:=.int .u8
def vz:List (Nat×ad):=[(2,t2),(3,t3),(4,t4),(5,t5),(8,aiL),(9,t9),(10,aiM),(11,aiN),(21,t21),(22,t22),(23,DE),(24,Hm),(26,um),(27,eZ),(28,t28),(29,Hn),(30,Am),(32,t32),(33,qo),(34,n1),(36,M_),(38,tm),(40,o2),(42,Al),(44,UY),(48,uZ),(58,xQ),(63,aiO),(74,aiP),(87,qL),(91,rr),(93,xS),(105,t105),(107,Na),(111,qp),(115,U0),(121,DF),(123,xT),(125,ja),(128,Nb),(130,vy),(133,U1),(134,aiQ),(137,pv),(138,t138),(140,U2),(141,Nc),(142,Nd),(144,qq),(148,Ho),(149,Nf),(151,rs),(153,Ng),(154,aiS),(157,oJ),(162,aiT),(164,t164),(165,aiU),(171,t171),(177,U8),(188,UZ),(190,M'),(196,Aj),(197,Hl),(199,xR),(201,Ak),(203,U9),(209,Nh),(215,aiR),(217,DG),(219,U6),(220,U4),(222,t222),(224,U5),(227,U3),(228,t228),(235,U7),(237,aiV),(249,aiW),(253,aiX),(261,aiY),(269,aiZ),(271,U_),(273,Hp),(282,ai0),(285,U'),(289,Va),(290,Vb),(297,Vc),(298,Vd),(304,Ve),(306,Vf),(311,DH),(313,ai1),(336,ai2),(351,ai3),(359,Vg),(363,ai4),(368,ai5),(372,Vh),(374,ai6),(380,ai7),(386,ai8),(398,ai9),(402,Vi),(403,ai_),(408,ai'),(410,Vj),(411,aja),(414,ajb),(416,Vk),(418,ajc),(419,ajd),(423,aje),(424,ajf),(432,ajg)]
theorem n2:dS Tryz.prog (rq vz):=air (by kernel_rfl)
theorem Hq:Tryz.prog.follows .mixedOrders=true:=by kernel_rfl
def xU(_:Nat):Option aP:=none
theorem Hr:jm Tryz.prog xU:=λk c h=>by cases h
def dB:dD:={ tt:=λ_=>none,tu:=λ_=>none }
theorem mw:qM Tryz.prog dB where
 tt:=λk v h=>by cases h
 tu:=λk v h=>by cases h
end Go.Fer.og
namespace Go.Fer
open Go.RowKit
def hk.ky(c:hk):aP:=⟨c.ts,.az c.aR .cV,λx=>(c.sh x).cq,λx=>((c.sh x).val c.aR.dh,())⟩
end Go.Fer
namespace Go.Fer
theorem A.ajh{al:Type}{p:Prop}{m n:A al}(h:n.cq->p)(k:A.le m n):A.le (A.ae p m) n:=λaD=>⟨⟨h aD,(k aD).1⟩,(k aD).2⟩
theorem ru{al:Type}{o:Option al}{x:al}(h:o=some x):o.isSome=true:=by rw[h];rfl
def Ni(ts:ad)(x:ts.aj)(n:Nat):Nat->Prop
 | 0=>True
 | k+1=>Ni ts x n k/\Dz (kq ts x (n+k))
theorem Vl{ts:ad}{x:ts.aj}{n:Nat}:∀ {k:Nat},Ni ts x n k->∀ i,i<k->Dz (kq ts x (n+i))
 | 0,_,i,h=>by omega
 | k+1,hc,i,h=>by
  by_cases e:i=k
  ·rw[e];exact hc.2
  ·exact Vl hc.1 i (by omega)
theorem Vm(ts:ad)(x:ts.aj):∀ (l:List Nat) (i:Nat),fp (l.map λi=>(i,kq ts x i)) i=if i∈l then kq ts x i else .undef
 | [],i=>by simp[fp]
 | j::l,i=>by
  simp only[List.map_cons,fp];by_cases e:i=j
  ·subst e;simp
  ·rw[if_neg e,Vm ts x l i];simp[e]
theorem sE{ts:ad}{x:ts.aj}{n:Nat}(h:Ni ts x n (sC ts - n)):DA n (pr ts x):=λi G=>by
 show Dz (fp (Ae ts x (sC ts)) i);unfold Ae;rw[Vm];split
 ·rename_i hm;rw[List.mem_range]at hm;have aA:¬i<n:=λh=>G (.inl h);have:=Vl h (i - n) (by omega);rwa [show n+(i - n)=i by omega]at this
 ·trivial
end Go.Fer
namespace Go.Fer
open A (W)
theorem bC{n:Int}(E:-9223372036854775808<=n)(U:n<9223372036854775808):IntKind.i64.wrap n=n:=by
 show (if (true&&decide (n % 2 ^ 64>=(2 ^ (64 - 1):Int)))=true then n % 2 ^ 64 - 2 ^ 64 else n % 2 ^ 64)=n;grind
theorem cm(a b:Int):Add.add a b=a+b:=rfl
theorem hM(a b:Nat):Add.add a b=a+b:=rfl
theorem Vn{al:Type}(a b:List al):Append.append a b=a++b:=rfl
theorem bW(n:Nat):Int.ofNat n=(n:Int):=rfl
theorem qt{x c d:Bool}:(x||!(if (!x)=true then c else d))=(x||!c):=by grind
theorem Vo{x c d:Bool}:(x||(if (!x)=true then c else d))=(x||c):=by grind
theorem vA{x c d:Bool}:(x&&(if x=true then c else d))=(x&&c):=by grind
namespace A
variable {al β gy D aI:Type}
theorem bw{m:A al}{p:Prop}{v:al}(h:p->m=pure v):le m (dI p v):=λao=>by
 rw[h ao];exact⟨trivial,λ_ aS=>aS⟩
theorem sF{m:A al}{p:Prop}{v:al}(h:p->cw m λy=>y=v):le m (dI p v):=λao=>h ao
theorem gN{p:Prop}{v d:al}:(dI p v).val d=v:=by
 unfold val;have h:∃ x,(dI p v).bQ x:=⟨v,rfl⟩
 rw[dif_pos h];exact h.choose_spec
theorem fD{v d:al}:(pure v).val d=v:=gN (p:=True)
theorem n3{p:Prop}{v:al}:(dI p v).cq=p:=rfl
theorem vC{p:Prop}{v:al}:(dI p v).zI:=λ_ _ h k=>h.trans k.symm
theorem jb{g:Bool}{p:Prop}{v d:al}:ck g (dI p v) d=dI (g=true->p) (if g=true then v else d):=by
 cases g
 ·exact (bR (by simp) _).symm
 ·simp[ck]
theorem kA{g:Bool}{v d:al}:ck g (pure v) d=pure (if g=true then v else d):=by cases g<;>rfl
theorem b2{f:D->A β}{x:D}:W.bB f (.next x:W D β)=f x:=rfl
theorem pw{f:D->A β}{r:β}:W.bB f (.done r:W D β)=pure r:=rfl
end A
def e0{al β aI:Type}(f:al->β->W β aI)(fin:β->aI):List al->β->aI
 | [],b=>fin b
 | x::l,b=>match f x b with
  | .next be=>e0 f fin l be
  | .done r=>r
def W.ho{D β aI:Type}(g:β->D):W β aI->W D aI
 | .next b=>.next (g b)
 | .done r=>.done r
theorem A.f_{al β D aI:Type}{body:D->A (W D aI)}{s0:D}(l:List al)(mk:Nat->β->D)(f:al->β->W β aI)(fin:β->aI)(I:Nat->β->Prop)(b:β)(m_:s0=mk 0 b)(aX:I 0 b)
  (aD:∀ i (h:i<l.length) b,I i b->body (mk i b)=A.pure (W.ho (mk (i+1)) (f l[i] b))/\∀ be,f l[i] b=.next be->I (i+1) be)
  (ar:∀ b,I l.length b->body (mk l.length b)=A.pure (.done (fin b))):A.loop body s0=A.pure (e0 f fin l b):=by
 subst m_;have key:∀ (k:Nat) (r:List al) (b:β),k<=l.length->r=l.drop k->I k b->A.loop body (mk k b)=A.pure (e0 f fin r b):=by
  intro k r;induction r generalizing k with
  | nil=>
   intro b an M eA;have:k=l.length:=by have:=congrArg List.length M;grind
   subst this;exact A.rX (ar b eA)
  | cons x r aJ=>
   intro b an M eA;have cc:k<l.length:=by
    grind
   rw[List.drop_eq_getElem_cons cc]at M;injection M with ai M
   obtain⟨E,U⟩:=aD k cc b eA;rw[<-ai]at E U;simp only[e0];cases rk:f x b with
   | next be=>
    rw[rk]at E;rw[A.yW E];grind
   | done pZ=>
    rw[rk]at E;exact A.rX E
 grind
theorem A.dL{al β D aI:Type}{body:D->A (W D aI)}{s0:D}(l:List al)(mk:Nat->β->D)(f:al->β->W β aI)(fin:β->aI)(b:β)(m_:s0=mk 0 b)
  (aD:∀ i (h:i<l.length) b,body (mk i b)=A.pure (W.ho (mk (i+1)) (f l[i] b)))
  (ar:∀ b,body (mk l.length b)=A.pure (.done (fin b))):A.loop body s0=A.pure (e0 f fin l b):=
 A.f_ l mk f fin (λ_ _=>True) b m_ trivial (λi h b _=>⟨aD i h b,λ_ _=>trivial⟩) λb _=>ar b
section
variable {al β aI:Type}
theorem rv{p:al->Bool}{r:aI}{fin:β->aI}:∀ (l:List al) (b:β),e0 (λx b=>if p x=true then .done r else .next b) fin l b=if l.any p=true then r else fin b
 | [],b=>by rfl
 | x::l,b=>by
  simp only[e0,List.any_cons,Bool.or_eq_true];by_cases h:p x=true
  ·simp[h]
  ·have h:p x=false:=by grind
   simp only[h,Bool.false_eq_true,if_false,false_or];exact rv l b
theorem Hs{p:al->Bool}{r:aI}{fin:β->aI}:∀ (l:List al) (b:β),e0 (λx b=>if p x=true then .next b else .done r) fin l b=if l.all p=true then fin b else r
 | [],b=>by rfl
 | x::l,b=>by
  simp only[e0,List.all_cons,Bool.and_eq_true];by_cases h:p x=true
  ·simp only[h,if_true,true_and];exact Hs l b
  grind
theorem ej{h:β->al->β}{fin:β->aI}:∀ (l:List al) (b:β),e0 (λx b=>.next (h b x)) fin l b=fin (l.foldl h b)
 | [],b=>rfl
 | x::l,b=>by simp only[e0,List.foldl_cons];exact ej l (h b x)
theorem Vp{p:al->Bool}:∀ (l:List al) (b:List al),l.foldl (λb x=>if p x=true then b++[x] else b) b=b++l.filter p
 | [],b=>by simp
 | x::l,b=>by
  simp only[List.foldl_cons,List.filter_cons];rw[Vp l];grind
theorem xV{gy:Type}{g:al->gy}:∀ (l:List al) (b:List gy),l.foldl (λb x=>b++[g x]) b=b++l.map g
 | [],b=>by simp
 | x::l,b=>by simp only[List.foldl_cons,List.map_cons];rw[xV l];simp
end
theorem Vq{al:Type}{p q:al->Bool}(h:∀ x,p x=!q x)(l:List al):l.any p=!l.all q:=by
 grind
theorem kR{al β aI:Type}{p q:al->Bool}{r:aI}{fin:β->aI}(l:List al)(b:β)(h:∀ x,p x=!q x):e0 (λx b=>if p x=true then .done r else .next b) fin l b=if l.all q=true then fin b else r:=by
 rw[rv,Vq h];grind
theorem na{D β aI:Type}{c:Bool}{mk:β->D}{b:β}{r:aI}:(if c=true then A.pure (W.done r) else A.pure (W.next (mk b)))=A.pure (W.ho mk (if c=true then .done r else .next b)):=by cases c<;>rfl
theorem Vr{D β aI:Type}{c:Bool}{mk:β->D}{b:β}{r:aI}:(if c=true then A.pure (W.done r) else A.pure (W.next (mk b)))=A.pure (W.ho mk (if c=true then .done r else .next b)):=by cases c<;>rfl
theorem cZ{l:Nat}{i:Nat}(h:i<l):decide ((i:Int)<(l:Int))=true:=by grind
theorem cL{l:Nat}{i:Nat}(h:i<l):((0:Int)<=(i:Int)/\(i:Int)<(l:Int))=True:=by grind
theorem dm{al:Type}{l:List al}{i:Nat}{d:al}(h:i<l.length):l.getD (Int.toNat (i:Int)) d=l[i]:=by
 grind
theorem xW{al:Type}{l:List al}{i:Int}{d:al}(aX:0<=i)(h:i<(l.length:Int)):l.getD i.toNat d∈l:=by
 grind
def ev(a b:Int):z1':=(List.range (b - a+1).toNat).map λ(i:Nat)=>a+(i:Int)
theorem xX(a b:Int):(ev a b).length=(b - a+1).toNat:=by simp[ev]
theorem DI{a b:Int}{i:Nat}(h:i<(ev a b).length):(ev a b)[i]=a+i:=by simp[ev]
theorem sG{a b n:Int}:n∈ev a b<->a<=n/\n<=b:=by
 simp only[ev,List.mem_map,List.mem_range];constructor
 ·omega
 ·rintro⟨E,U⟩;exact⟨(n - a).toNat,by omega,by omega⟩
end Go.Fer
namespace Go.Fer.og
open Go.Proofs
abbrev oK:Type:=List (Nat×hk)
def oL{al:Type}:List (Nat×al)->Nat->Option al
 | [],_=>none
 | p::l,k=>if k=p.1 then some p.2 else oL l k
theorem xY{al:Type}{k:Nat}{c:al}:∀ {l:List (Nat×al)},oL l k=some c->(k,c)∈l
 | [],h=>by cases h
 | p::l,h=>by
  unfold oL at h;split at h
  ·rename_i e;cases h;subst e;simp
  ·exact List.mem_cons_of_mem _ (xY h)
def sH(T:oK):List (Nat×eV)->Nat->Option eV
 | [],k=>match oL T k with
  | some c=>some (.cY c)
  | none=>none
 | p::l,k=>if k=p.1 then some p.2 else sH T l k
def Vs(k:Nat)(c:hk):Prop:=gU Tryz.prog k c.ts c.aR c.sh/\(c.dI=true->∀ x,(c.sh x).zI)
structure kS(T:oK):Type where
 ok:∀ p∈T,Vs p.1 p.2
abbrev aji{T:oK}(_:kS T):oK:=T
def ajj:kS []:=⟨λp h=>by cases h⟩
def kS.cons{T:oK}(h:kS T){n:Nat}{c:hk}(k:Vs n c):kS ((n,c)::T):=⟨λp ao=>by
 rcases List.mem_cons.1 ao with rfl | ao
 ·exact k
 ·exact h.ok p ao⟩
def DJ(aQ:dD):List (Nat×eV)->Prop
 | []=>True
 | p::l=>p.2.ht Tryz.prog aQ p.1/\DJ aQ l
theorem kS.Ht{aQ:dD}{T:oK}(h:kS T):∀ {sp:List (Nat×eV)},DJ aQ sp->lV Tryz.prog aQ (sH T sp)
 | [],_,k,c,e=>by
  unfold sH at e;split at e
  ·rename_i c' hc;cases e;exact h.ok (k,c') (xY hc)
  ·cases e
 | p::l,aD,k,c,e=>by
  unfold sH at e;split at e
  ·rename_i an;cases e;subst an;exact aD.1
  ·exact kS.Ht h (sp:=l) aD.2 k c e
def An:ad->List ad
 | .cV=>[]
 | .az a b=>a::An b
 | t=>[t]
def Vt:ad->ad
 | .bH t=>t
 | t=>t
def Vu{ts Vv:ad}(e:Vv=ts){aR:ad}(sh:ts.aj->A aR.aj):Vv.aj->A aR.aj:=e ▸ sh
def Nj(px:Nat)(c:hk):Option Fj:=
 if h:((An c.ts).take px).all ad.gA=true/\gg ((An c.ts).take px++(((An c.ts).drop px).map Vt).map .bH)=c.ts then some ⟨(An c.ts).take px,((An c.ts).drop px).map Vt,c.aR,Vu h.2 c.sh⟩ else none
def Vw:z8'->Nat->Option Nat
 | [],_=>none
 | p::l,k=>if k=p.1 then some p.2 else Vw l k
def Ao(T:oK)(cl:z8')(Hu:List (Nat×wN)):dD where
 tt:=λk=>match oL T k with
  | some c=>some ⟨c.ts,c.aR,c.sh⟩
  | none=>none
 tu:=λk=>match Vw cl k with
  | some px=>match oL T k with
   | some c=>Nj px c
   | none=>none
  | none=>none
 wP:=oL Hu
def DK:List (Nat×wN)->Prop
 | []=>True
 | p::l=>wO Tryz.prog p.1 p.2/\DK l
theorem DK.mem:∀ {l:List (Nat×wN)},DK l->∀ p∈l,wO Tryz.prog p.1 p.2
 | [],_,p,h=>by cases h
 | q::l,h,p,ao=>by
  rcases List.mem_cons.1 ao with rfl | ao
  ·exact h.1
  ·exact DK.mem h.2 p ao
theorem ajk{k px:Nat}{c:hk}{v:Fj}(h:gU Tryz.prog k c.ts c.aR c.sh)(e:Nj px c=some v):v.as.all ad.gA=true/\gU Tryz.prog k (gg (v.as++v.cs.map .bH)) v.aR v.sh:=by
 unfold Nj at e;split at e
 ·rename_i c7;cases e;refine⟨c7.1,?_⟩;have key:∀ (ts:ad) (e:ts=c.ts),gU Tryz.prog k ts c.aR (Vu e c.sh):=by rintro _ rfl;exact h
  exact key _ c7.2
 ·cases e
theorem kS.u{T:oK}(h:kS T)(cl:z8')(Hu:List (Nat×wN))(G:DK Hu):qM Tryz.prog (Ao T cl Hu) where
 tt:=λk v e=>by
  simp only[Ao]at e;split at e
  ·rename_i c hc;cases e;exact (h.ok (k,c) (xY hc)).1
  ·cases e
 tu:=λk v e=>by
  simp only[Ao]at e;split at e
  ·split at e
   ·rename_i c hc;exact ajk (h.ok (k,c) (xY hc)).1 e
   ·cases e
  ·cases e
 wP:=λk v e=>G.mem (k,v) (xY e)
abbrev ry(fn:Func):Code:=fn.body.getD .skip
theorem Hv{fn:Func}(h:fn.body.isSome=true):fn.body=some (ry fn):=by
 unfold ry;cases e:fn.body with
 | none=>rw[e]at h;cases h
 | some b=>rfl
abbrev DL(fn:Func)(ts aR:ad):Bool:=fn.body.isSome&&DB fn (ry fn) ts aR
theorem Hw{T:oK}(aV:kS T){aQ:dD}(ia:qM Tryz.prog aQ){sp:List (Nat×eV)}(n0:DJ aQ sp){n:Nat}{fn:Func}(ar:Tryz.prog.funcs[n]?=some fn){ts aR:ad}{sh:ts.aj->A aR.aj}{ann:cy}{S:ts.aj->A aR.aj}(aD:∀ x,A.le (S x) (sh x))(cC:DL fn ts aR=true)(ak:∀ x,Dy aQ (rq vz) xU (sH T sp) fn (ry fn) ann ts aR x=S x):gU Tryz.prog n ts aR sh:=
 have cC:=Bool.and_eq_true _ _ ▸ cC
 ail Hq n2 ia Hr (aV.Ht n0) ar (Hv cC.1) cC.2 λx=>A.le_trans (A.le_of_eq (ak x)) (aD x)
def mk{T:oK}(aV:kS T){n:Nat}{fn:Func}(ar:Tryz.prog.funcs[n]?=some fn)(c:aP)(ann:cy){S:c.ts.aj->A c.aR.aj}(aD:∀ x,A.le (S x) (c.sh x))(cC:DL fn c.ts c.aR=true:=by kernel_rfl)(ak:∀ x,Dy dB (rq vz) xU (sH T []) fn (ry fn) ann c.ts c.aR x=S x:=by intro x;kernel_rfl):kS ((n,c.cY)::T):=
 aV.cons ⟨Hw aV mw (sp:=[]) trivial ar aD cC ak,λ_ _=>A.vC⟩
def lZ{T:oK}(aV:kS T)(cl:z8'){n:Nat}{fn:Func}(ar:Tryz.prog.funcs[n]?=some fn)(c:aP)(ann:cy){S:c.ts.aj->A c.aR.aj}(aD:∀ x,A.le (S x) (c.sh x))(cC:DL fn c.ts c.aR=true:=by kernel_rfl)(ak:∀ x,Dy (Ao T cl []) (rq vz) xU (sH T []) fn (ry fn) ann c.ts c.aR x=S x:=by intro x;kernel_rfl):kS ((n,c.cY)::T):=
 aV.cons ⟨Hw aV (aV.u cl [] trivial) (sp:=[]) trivial ar aD cC ak,λ_ _=>A.vC⟩
def py{T:oK}(aV:kS T){aQ:dD}(ia:qM Tryz.prog aQ)(sp:List (Nat×eV))(n0:DJ aQ sp){n:Nat}{fn:Func}(ar:Tryz.prog.funcs[n]?=some fn)(c:aP)(ann:cy){S:c.ts.aj->A c.aR.aj}(aD:∀ x,A.le (S x) (c.sh x))(cC:DL fn c.ts c.aR=true:=by kernel_rfl)(ak:∀ x,Dy aQ (rq vz) xU (sH T sp) fn (ry fn) ann c.ts c.aR x=S x:=by intro x;kernel_rfl):kS ((n,c.cY)::T):=
 aV.cons ⟨Hw aV ia n0 ar aD cC ak,λ_ _=>A.vC⟩
def jQ{T:oK}(aV:kS T)(cl:z8'){n:Nat}{fn:Func}(ar:Tryz.prog.funcs[n]?=some fn)(c:aP)(px:Nat)(ann:cy){S:c.ts.aj->A c.aR.aj}(aD:∀ x,A.le (S x) (c.sh x))(hc:∀ x,c.pre x->DA px (pr c.ts x):=by intro x h;obtain⟨f,ar,_⟩:=h;exact sE ⟨trivial,ru ar⟩)(cC:DL fn c.ts c.aR=true:=by kernel_rfl)
  (ak:∀ x,ez (Ao T cl []) (rq vz) xU (sH T []) ann (ry fn) (Hh px (pr c.ts x)) (vx (rq vz) fn.results.toList c.aR)=S x:=by intro x;kernel_rfl):kS ((n,c.cY)::T):=
 have cC:=Bool.and_eq_true _ _ ▸ cC
 aV.cons ⟨ain (n:=px) Hq n2 (aV.u cl [] trivial) Hr (aV.Ht (sp:=[]) trivial) ar (Hv cC.1) cC.2 λx=>A.ajh (hc x) (A.le_trans (A.le_of_eq (ak x)) (aD x)),λ_ _=>A.vC⟩
theorem dY{T:oK}(aV:kS T){aQ:dD}(sp:List (Nat×eV))(n0:DJ aQ sp){n:Nat}{fn:Func}(ar:Tryz.prog.funcs[n]?=some fn){c:cG}(ann:cy){S:c.cp.aj->A c.bQ.aj}(aD:∀ x,A.le (S x) (c.sh x))(cC:(fn.body.isSome&&DC fn (ry fn) c.ke c.kx)=true:=by kernel_rfl)(ak:∀ x,MY aQ (rq vz) xU (sH T sp) fn (ry fn) ann c.cp c.bQ c.kx x=S x:=by intro x;kernel_rfl):cO Tryz.prog aQ n c:=
 have cC:=Bool.and_eq_true _ _ ▸ cC
 UL Hq n2 Hr (aV.Ht n0) ar (Hv cC.1) cC.2 λx=>A.le_trans (A.le_of_eq (ak x)) (aD x)
theorem Nk{aQ:dD}{n:Nat}{fn:Func}(ar:Tryz.prog.funcs[n]?=some fn){c:cG}(aD:∀ x,¬(c.sh x).cq)(cC:(fn.body.isSome&&DC fn (ry fn) c.ke c.kx)=true:=by kernel_rfl):cO Tryz.prog aQ n c:=
 have cC:=Bool.and_eq_true _ _ ▸ cC
 UL Hq n2 Hr (Ψ:=λ_=>none) (λk c h=>by cases h) (ann:=.eN) ar (Hv cC.1) cC.2 λx h=>absurd h (aD x)
end Go.Fer.og
namespace Go.Fer
open Go.RowKit
theorem ajl{P:Program}{aQ:dD}{k:FuncId}{ts e:ad}(ub:ts≠.cV){c:cG}(h:cO P aQ k c)(ia:qM P aQ){sh:ts.aj->A (ad.slice e).aj}{b0:Nat}(mk:ts.aj->c.cp.aj)
    (ajm:∀ x,c.cp.st (mk x)=⟨fp ((List.range (j5 ts)).map λi=>(i,kq ts x i)),λ_=>⟨0,.fz⟩⟩) (aA:c.ke=j5 ts) (h0:c.ke<=eQ) (ajn:c.kx=[none]) (val:c.bQ.aj->List e.aj)
    (ql:∀ bm,(c.bQ.st bm).ax 0=.own b0 0/\(c.bQ.st bm).ab b0=⟨0,.bf e (val bm)⟩)
    (r8:∀ x,(sh x).cq->(c.sh (mk x)).cq/\∀ bm,(c.sh (mk x)).bQ bm->val bm=(sh x).val (ad.slice e).dh):k8 (hk.ky ⟨ts,.slice e,sh,true⟩).aR=true/\zp P k (hk.ky ⟨ts,.slice e,sh,true⟩):=by
  refine⟨rfl,h.enter,?_⟩;intro (x:ts.aj) (aD:(sh x).cq) y aS F w args bn gl (dX:fm P ts F w args x);cases aS;obtain⟨iz,G7⟩:=tK (H:=λ_=>⟨0,.fz⟩) (κ:=λ_=>⟨0,0,0,false⟩) ts dX ub;let C:b_:={ P:=P,w0:=w,F0:=F,K0:=λr=>r<w.heap.size,nt:=c.ke,r:=none,dfr:=[],ig:=λ_=>none,bU:=⟨0,.cV,λ_=>False,λ_ _ _ _ _=>False⟩,aO:=aQ }
  have C0:∀ i,fp ((List.range (j5 ts)).map λi=>(i,kq ts x i)) i=.undef\/(i<j5 ts/\fp ((List.range (j5 ts)).map λi=>(i,kq ts x i)) i=kq ts x i):=λi=>by
    rcases UG (l:=(List.range (j5 ts)).map λi=>(i,kq ts x i)) (i:=i) with e | e
    · exact .inl e
    · refine .inr ?_
      generalize bk:fp ((List.range (j5 ts)).map λi=>(i,kq ts x i)) i=z at e
      simp only[List.mem_map,List.mem_range,Prod.mk.injEq]at e
      obtain⟨j,aG,rfl,rfl⟩:=e
      exact⟨aG,rfl⟩
  have M:bl C (c.cp.st (mk x)) { tmps:=args.toArray,defers:=[] } w (λ_=>⟨0,0,0,false⟩) F:=by
    rw[ajm];refine { dE := ?_, dfr := rfl, bT := λi => ?_, bE := λb => trivial, own := λb aa => (by cases aa), inj := λb be aa _ _ => (by cases aa), dd := bn, hg := λr M => .inl M, hS := λr M => M, hv := λr M => M, eH := λr _ => rfl, size := Nat.le_refl _, er := df.refl w,gi:=h0,kl:=λb r h=>(by cases h),jD:=λb r h=>(by cases h),j3:=λb k h=>(by cases h),km:=λb k h=>(by cases h),eB:=λl aL L n st e=>?_,jE:=ia,iy:=gl }
    · grind
    · rcases C0 i with e | ⟨G,e⟩
      · show bu _ _ _ _ _ (fp _ i) _
        rw[e];trivial
      · show bu _ _ _ _ _ (fp _ i) _
        rw[e]
        have:=G7 i G
        simpa [Array.getD_eq_getD_getElem?,List.getD_eq_getElem?_getD]using this
    · rcases C0 b5 with h | ⟨h,_⟩
      · grind
      · unfold b5 at h;unfold eQ at h0;omega
  obtain⟨L_,tS⟩:=r8 x aD;refine (h.iw C _ w _ F (mk x) rfl rfl rfl rfl rfl rfl M L_).mono λa1 w' ⟨v,bm,aE,κ',F',BQ,fZ,GI,bc⟩=>?_;obtain⟨ajo,xG⟩:=ql bm;rw[ajn]at GI;obtain⟨us,fC,L1,Nl⟩:=GI;obtain⟨u,rfl⟩:∃ u,us=[u]:=by
    match us,fC with
    | [u],_=>simp
  have Nn:aE=[u]:=by
    obtain⟨_,Nn,U⟩:=Nl;rw[Nn,U]
  have af:v=u:=by simpa using L1
  have fk:=bc.bT 0;rw[ajo,Nn]at fk;have Vx:u=(κ' b0).slice ((c.bQ.st bm).ab b0).body.len:=by
    have:=fk.2 (by rw[xG]) (by rw[xG];rfl);simp_all
  rw[xG]at Vx;have aU:=bc.bE b0;unfold cE at aU;rw[xG]at aU;obtain⟨E,U⟩:=aU;have wH:val bm=(sh x).val (ad.slice e).dh:=tS bm fZ;refine⟨κ' b0,F',by rw[BQ,af,Vx];simp only[bP.len];rw[wH];rfl,bc.hS,λr Vy=>?_,λaA=>?_,λaA=>?_,bc.er.os,bc.er.tape,bc.er.output,bc.size,bc.eH⟩
  · rcases bc.hg r Vy with c7 | c7
    · exact .inl c7
    · exact .inr ⟨Nat.le_of_not_lt c7,bc.dd r Vy⟩
  · have:=E aA
    rw[wH]at this
    exact this
  · have ag:=bc.own b0 (by rw[xG];simp[bP.b1,aA])
    obtain⟨cs,T,bF,c2,c3,c4,c5⟩:=U aA
    rw[wH]at c3 c5
    exact⟨⟨Nat.le_of_not_lt ag.2.2,ag.1,ag.2.1⟩,cs,T,bF,c2,c3,c4,c5⟩
end Go.Fer
namespace Go.Fer
open A (W)
abbrev bo:Type:=z2'×List (List (Int×z1'×Int×Int))×Int×z2'
abbrev qu:Type:=bo×List (z1')
abbrev fb(l:z4')(a b:Int):z4':=lJ (k:=.int .i64) (v:=.int .i64) l a b
abbrev vD(l:z5')(a:Int×Int×Int)(b:Int):z5':=lJ (k:=.st (.az (.int .i64) (.az (.int .i64) (.int .i64)))) (v:=.int .i64) l a b
def No(lo:Int×Int×Int->A Bool)(x:bo×Int):A Bool:=
 A.bind (lo (x.2,0,IntKind.wrap .i64 (Int.ofNat (List.length x.1.1)-1))) λy=>A.pure y
def Hx(lo:Int×Int×Int->A Bool)(ajp:bo×Int->A Bool)(x:bo×Int×Int):A Bool:=
 A.bind (ajp (x.1,x.2.1)) λy=>A.ae (y=true->(y=true/\y=true)/\(0<=x.2.1/\x.2.1<Int.ofNat (List.length x.1.2.1))/\True) (A.bind (ck y (lo (x.2.2,0,IntKind.wrap .i64 (Int.ofNat (List.length (List.getD x.1.2.1 (Int.toNat x.2.1) []))-1))) false) (λbZ=>A.pure (y&&bZ)))
def Np(ajq:z2'×List (List (Int×z1'×Int×Int))×Int×z2'->A Bool)(x:z2'×List (List (Int×z1'×Int×Int))×Int×z2'):A Int:=
 A.bind (ajq x) λy=>if (!y)=true then A.pure 70 else A.bind (A.loop (λ(D:Int×bo×Unit)=>if decide (D.1<Int.ofNat (List.length D.2.1.2.2.2))=true then A.bind (A.loop (λ(D:Int×Int×bo×Unit)=>letI d:=D.2.2.1.2.2.2;letI c:=Int.ofNat (List.length d);letI b:=List.getD d (Int.toNat D.1) (0,0,0,0);letI a:=List.getD d (Int.toNat D.2.1) (0,0,0,0);if decide (D.2.1<D.1)=true then A.ae (0<=D.2.1/\D.2.1<c) (A.ae (0<=D.1/\D.1<c) (if (decide (a.1=b.1)&&decide (a.2.1=b.2.1)&&decide (a.2.2.1=b.2.2.1)&&decide (a.2.2.2≠b.2.2.2))=true then A.bind (A.bind (A.bind (A.bind (A.pure 71) (λr=>A.pure (W.done r))) (λr=>A.pure (W.done r))) (λr=>A.pure (W.done r))) λr=>A.pure (W.done r) else A.pure (W.next (D.1,IntKind.wrap .i64 (Add.add D.2.1 1),D.2.2.1,())))) else A.bind (A.pure (W.next (D.1,D.2.2.1,()))) λr=>A.pure (W.done r)) (D.1,0,D.2.1,())) (W.bB (λ(D:Int×bo×Unit)=>A.pure (W.next (IntKind.wrap .i64 (Add.add D.1 1),D.2.1,())))) else A.bind (A.pure (W.next ())) λr=>A.pure (W.done r)) (0,x,())) (W.bB (λ(D:Unit)=>A.pure 0))
def Vz(ajr:z1'×Int->A Bool)(lo:Int×Int×Int->A Bool)(x:bo×Int×Int×Int×Int):A Bool:=
 letI e:=x.2.2.2;letI c:=List.getD x.1.2.1 (Int.toNat e.1) [];letI b:=List.getD x.1.1 (Int.toNat x.2.1) (0,0,0,0);letI a:=List.getD c (Int.toNat e.2) (0,[],0,0);letI d:=decide (b.1=a.1);A.ae (0<=x.2.1/\x.2.1<Int.ofNat (List.length x.1.1)) (A.ae (0<=e.1/\e.1<Int.ofNat (List.length x.1.2.1)) (A.ae (0<=e.2/\e.2<Int.ofNat (List.length c)) (A.bind (ck d (ajr (a.2.1,b.2.1)) false) (λy=>A.bind (ck (d&&y) (lo (x.2.2.1,a.2.2.1,IntKind.wrap .i64 (Add.add a.2.2.2 x.1.2.2.1))) false) λbZ=>A.pure (d&&y&&bZ)))))
def Nq(x:z1'):A Bool:=
 A.bind (A.loop (λ(D:z1'×Int×Unit)=>letI c:=D.2.1;letI b:=IntKind.wrap .i64 (c-1);letI a:=Int.ofNat (List.length D.1);if decide (c<a)=true then A.ae (0<=c/\c<a) (A.ae (0<=b/\b<a) (if decide (List.getD D.1 (Int.toNat c) 0<=List.getD D.1 (Int.toNat b) 0)=true then A.bind (A.bind (A.pure false) (λr=>A.pure (W.done r))) λr=>A.pure (W.done r) else A.pure (W.next (D.1,IntKind.wrap .i64 (Add.add c 1),())))) else A.bind (A.pure (W.next ())) λr=>A.pure (W.done r)) (x,1,())) (W.bB (λ(D:Unit)=>A.pure true))
def ajs(x:Int×Int×Int):A Bool:=
 A.pure (decide (x.1>=x.2.1)&&decide (x.1<=x.2.2))
def Nr(lo:Int×Int×Int->A Bool)(x:bo×Int):A Bool:=
 A.bind (lo (x.2,0,IntKind.wrap .i64 (Int.ofNat (List.length x.1.2.1)-1))) λy=>A.pure y
def Ns(ajt:bo×Int->A Bool)(aju:bo×Int×Int->A Bool)(lo:Int×Int×Int->A Bool)(Nt:Int×Int->A Bool)(ajv:Int×z1'×Int×Int->A Bool)(x:z2'×List (List (Int×z1'×Int×Int))×Int×z2'):A Bool:=
 letI c:=decide (Int.ofNat (List.length x.1) > 10)||decide (Int.ofNat (List.length x.2.1) > 6);A.bind (ck (!c) (lo (x.2.2.1,0,99)) false) λy=>if (c||!y||decide (Int.ofNat (List.length x.2.2.2) > 30))=true then A.pure false else A.bind (A.loop (λ(D:Int×bo×Unit)=>letI h:=D.1<Int.ofNat (List.length D.2.1.1);letI b:=List.getD D.2.1.1 (Int.toNat D.1) (0,0,0,0);if decide h=true then A.ae (0<=D.1/\h) (A.bind (lo (b.1,0,9)) (λy=>A.bind (ck (!(!y)) (lo (b.2.1,0,9)) false) λbZ=>A.bind (ck (!(!y||!bZ)) (Nt b.2.2) false) λdv=>if (!y||!bZ||!dv)=true then A.bind (A.bind (A.pure false) (λr=>A.pure (W.done r))) λr=>A.pure (W.done r) else A.pure (W.next (IntKind.wrap .i64 (Add.add D.1 1),D.2.1,())))) else A.bind (A.pure (W.next (D.2.1,()))) λr=>A.pure (W.done r)) (0,x,())) (W.bB (λ(D:bo×Unit)=>A.bind (A.loop (λ(D:Int×bo×Unit)=>letI g:=D.1<Int.ofNat (List.length D.2.1.2.1);if decide g=true then A.bind (A.ae (0<=D.1/\g) (if decide (Int.ofNat (List.length (List.getD D.2.1.2.1 (Int.toNat D.1) [])) > 4)=true then A.bind (A.bind (A.bind (A.pure false) (λr=>A.pure (W.done r))) (λr=>A.pure (W.done r))) λr=>A.pure (W.done r) else A.loop (λ(D:Int×Int×bo×Unit)=>letI j:=D.2.2.1;letI e:=0<=D.1/\D.1<Int.ofNat (List.length j.2.1);letI d:=List.getD j.2.1 (Int.toNat D.1) [];letI i:=D.2.1<Int.ofNat (List.length d);A.ae e (if decide i=true then A.ae e (A.ae (0<=D.2.1/\i) (A.bind (ajv (List.getD d (Int.toNat D.2.1) (0,[],0,0))) (λy=>if (!y)=true then A.bind (A.bind (A.bind (A.bind (A.pure false) (λr=>A.pure (W.done r))) (λr=>A.pure (W.done r))) (λr=>A.pure (W.done r))) λr=>A.pure (W.done r) else A.pure (W.next (D.1,IntKind.wrap .i64 (Add.add D.2.1 1),j,()))))) else A.bind (A.pure (W.next (D.1,j,()))) λr=>A.pure (W.done r))) (D.1,0,D.2.1,()))) (W.bB (λ(D:Int×bo×Unit)=>A.pure (W.next (IntKind.wrap .i64 (Add.add D.1 1),D.2.1,())))) else A.bind (A.pure (W.next (D.2.1,()))) λr=>A.pure (W.done r)) (0,D.1,())) (W.bB (λ(D:bo×Unit)=>A.bind (A.loop (λ(D:Int×bo×Unit)=>letI f:=D.1<Int.ofNat (List.length D.2.1.2.2.2);letI a:=List.getD D.2.1.2.2.2 (Int.toNat D.1) (0,0,0,0);if decide f=true then A.ae (0<=D.1/\f) (A.bind (ajt (D.2.1,a.1)) (λy=>A.bind (ck (!(!y)) (aju (D.2.1,a.2.1,a.2.2.1)) false) λbZ=>A.bind (ck (!(!y||!bZ)) (lo (a.2.2.2,0,1)) false) λdv=>if (!y||!bZ||!dv)=true then A.bind (A.bind (A.pure false) (λr=>A.pure (W.done r))) λr=>A.pure (W.done r) else A.pure (W.next (IntKind.wrap .i64 (Add.add D.1 1),D.2.1,())))) else A.bind (A.pure (W.next ())) λr=>A.pure (W.done r)) (0,D.1,())) (W.bB (λ(D:Unit)=>A.pure true))))))
def Nu(lo:Int×Int×Int->A Bool)(x:Int×Int):A Bool:=
 A.bind (lo (x.1,0,x.2)) λy=>A.pure (y&&decide (x.2<=999))
def Nv(ajw:z1'->A Bool)(lo:Int×Int×Int->A Bool)(Nt:Int×Int->A Bool)(x:Int×z1'×Int×Int):A Bool:=
 A.bind (A.loop (λ(D:Int×(Int×z1'×Int×Int)×Unit)=>letI b:=D.1<Int.ofNat (List.length D.2.1.2.1);if decide b=true then A.ae (0<=D.1/\b) (A.bind (lo (List.getD D.2.1.2.1 (Int.toNat D.1) 0,0,9)) (λy=>if (!y)=true then A.bind (A.bind (A.pure false) (λr=>A.pure (W.done r))) λr=>A.pure (W.done r) else A.pure (W.next (IntKind.wrap .i64 (Add.add D.1 1),D.2.1,())))) else A.bind (A.pure (W.next (D.2.1,()))) λr=>A.pure (W.done r)) (0,x,())) (W.bB (λ(D:(Int×z1'×Int×Int)×Unit)=>A.bind (lo (D.1.1,0,9)) λy=>letI a:=y&&decide (Int.ofNat (List.length D.1.2.1)<=4);A.bind (ck a (ajw D.1.2.1) false) λbZ=>A.bind (ck (a&&bZ) (Nt D.1.2.2) false) λdv=>A.pure (a&&bZ&&dv)))
def VA(axZ:Int×Int->A (Int×Int))(ajx:Int×Int->A (Int×Int))(x:Int×Int):A (Int×Int):=
 A.bind (ajx x) λy=>A.pure y
def VB(ajy:z1'×Int->A Int)(x:z1'×Int):A Bool:=
 A.bind (ajy x) λy=>A.pure (decide (y>=0))
def VC(x:Int×Int):A (Int×Int):=
 A.ae ((0:Int)<=32) (A.ae ((0:Int)<=32) (A.ae ((0:Int)<=32) (A.ae ((0:Int)<=32) (A.ae ((0:Int)<=32) (A.pure (IntKind.wrap .u64 (Add.add (IntKind.wrap .u64 (Add.add (IntKind.wrap .u64 (ji .u64 x.1 32*ji .u64 x.2 32)) (ji .u64 (IntKind.wrap .u64 (Add.add (IntKind.wrap .u64 (ji .u64 x.1 32*lI .u64 x.2 4294967295)) (ji .u64 (IntKind.wrap .u64 (lI .u64 x.1 4294967295*lI .u64 x.2 4294967295)) 32))) 32))) (ji .u64 (IntKind.wrap .u64 (Add.add (lI .u64 (IntKind.wrap .u64 (Add.add (IntKind.wrap .u64 (ji .u64 x.1 32*lI .u64 x.2 4294967295)) (ji .u64 (IntKind.wrap .u64 (lI .u64 x.1 4294967295*lI .u64 x.2 4294967295)) 32))) 4294967295) (IntKind.wrap .u64 (lI .u64 x.1 4294967295*ji .u64 x.2 32)))) 32)),IntKind.wrap .u64 (x.1*x.2)))))))
def Nw(x:z1'×Int):A Int:=
 A.bind (A.loop (λ(D:z1'×Int×Int×Int×Unit)=>letI a:=D.2.2.2.1;if decide (a<D.2.2.1)=true then A.ae (0<=a/\a<Int.ofNat (List.length D.1)) (if decide (D.2.1=List.getD D.1 (Int.toNat a) 0)=true then A.bind (A.bind (A.pure a) (λr=>A.pure (W.done r))) λr=>A.pure (W.done r) else A.pure (W.next (D.1,D.2.1,D.2.2.1,IntKind.wrap .i64 (Add.add a 1),()))) else A.bind (A.pure (W.next ())) λr=>A.pure (W.done r)) (x.1,x.2,Int.ofNat (List.length x.1),0,())) (W.bB (λ(D:Unit)=>A.pure (-1)))
def Nx(ajz:z2'×List (List (Int×z1'×Int×Int))×Int×z2'->A Bool)(x:z2'×List (List (Int×z1'×Int×Int))×Int×z2'):A Int:=
 A.bind (ajz x) λy=>if (!y)=true then A.pure 70 else A.bind (A.loop (λ(D:z2'×Int×Int×z5'×Unit)=>letI c:=D.2.2.1;letI a:=List.getD D.1 (Int.toNat c) (0,0,0,0);letI b:=Option.map (λx=>x.2) (List.find? (λp=>decide (a.1=p.1.1)&&(decide (a.2.1=p.1.2.1)&&decide (a.2.2.1=p.1.2.2))) D.2.2.2.1);if decide (c<D.2.1)=true then A.ae (0<=c/\c<Int.ofNat (List.length D.1)) (if (Option.isSome b&&decide (Option.getD b 0≠a.2.2.2))=true then A.bind (A.bind (A.pure 71) (λr=>A.pure (W.done r))) λr=>A.pure (W.done r) else A.pure (W.next (D.1,D.2.1,IntKind.wrap .i64 (Add.add c 1),vD D.2.2.2.1 (a.1,a.2.1,a.2.2.1) a.2.2.2,()))) else A.bind (A.pure (W.next ())) λr=>A.pure (W.done r)) (x.2.2.2,Int.ofNat (List.length x.2.2.2),0,[],())) (W.bB (λ(D:Unit)=>A.pure 0))
def Ny(mx:bo×Bool->A (Option qu×Int))(iq:bo×Int->A Bool)(x:bo×Int):A ((Int×Int)×Int):=
 letI a:=Int.toNat x.2;A.ae (iq x).cq (A.ae (mx (x.1,A.val (iq x) false)).cq (if decide ((A.val (mx (x.1,A.val (iq x) false)) (none,0)).2≠0)=true then A.pure ((0,0),(A.val (mx (x.1,A.val (iq x) false)) (none,0)).2) else A.ae (Option.isSome (A.val (mx (x.1,A.val (iq x) false)) (none,0)).1=true) (A.ae (0<=x.2/\x.2<Int.ofNat (List.length (Option.getD (A.val (mx (x.1,A.val (iq x) false)) (none,0)).1 (([],[],0,[]),[])).2)) (A.ae ((0:Int)<=0/\0<Int.ofNat (List.length (List.getD (Option.getD (A.val (mx (x.1,A.val (iq x) false)) (none,0)).1 (([],[],0,[]),[])).2 a []))) (A.ae (0<=IntKind.wrap .i64 (Int.ofNat (List.length (List.getD (Option.getD (A.val (mx (x.1,A.val (iq x) false)) (none,0)).1 (([],[],0,[]),[])).2 a []))-1)/\IntKind.wrap .i64 (Int.ofNat (List.length (List.getD (Option.getD (A.val (mx (x.1,A.val (iq x) false)) (none,0)).1 (([],[],0,[]),[])).2 a []))-1)<Int.ofNat (List.length (List.getD (Option.getD (A.val (mx (x.1,A.val (iq x) false)) (none,0)).1 (([],[],0,[]),[])).2 a []))) (A.pure ((List.getD (List.getD (Option.getD (A.val (mx (x.1,A.val (iq x) false)) (none,0)).1 (([],[],0,[]),[])).2 a []) (Int.toNat 0) 0,List.getD (List.getD (Option.getD (A.val (mx (x.1,A.val (iq x) false)) (none,0)).1 (([],[],0,[]),[])).2 a []) (Int.toNat (IntKind.wrap .i64 (Int.ofNat (List.length (List.getD (Option.getD (A.val (mx (x.1,A.val (iq x) false)) (none,0)).1 (([],[],0,[]),[])).2 a []))-1))) 0),0)))))))
def Nz(mx:bo×Bool->A (Option qu×Int))(iq:bo×Int->A Bool)(xZ:bo×Int×Int->A Bool)(ajA:Option qu×Int×Int×Int->A Int)(x:bo×Int×Int×Int):A (Int×Int):=
 letI b:=(x.1,x.2.2);letI a:=(x.1,x.2.1);A.ae (iq a).cq (A.ae (A.val (iq a) false=true->(A.val (iq a) false=true/\A.val (iq a) false=true/\A.val (iq a) false=true/\True)/\(xZ b).cq/\True) (A.ae (True/\(A.val (iq a) false=true->A.val (iq a) false=true)) (A.ae (mx (x.1,A.val (iq a) false&&A.val (xZ b) false)).cq (if decide ((A.val (mx (x.1,A.val (iq a) false&&A.val (xZ b) false)) (none,0)).2≠0)=true then A.pure (0,(A.val (mx (x.1,A.val (iq a) false&&A.val (xZ b) false)) (none,0)).2) else A.bind (ajA ((A.val (mx (x.1,A.val (iq a) false&&A.val (xZ b) false)) (none,0)).1,x.2)) λy=>A.pure (y,0)))))
def VD(oM:Int×Int×Int->A Bool)(ajB:z2'×(Int×Int×Int×Int->A Bool)->A Bool)(ajC:List (List (Int×z1'×Int×Int))×(List (Int×z1'×Int×Int)->A Bool)->A Bool)(NA:z2'×(Int×Int×Int×Int->A Bool)->A Bool)(ajD:List (Int×z1'×Int×Int)×Option (Int×z1'×Int×Int->A Bool)->A Bool)(ajE:(Int×Int×Int×Int)×Option bo->A Bool)(ajF:Int×Int×Int×Int->A Bool)(ajG:Int×z1'×Int×Int->A Bool)(x:z2'×List (List (Int×z1'×Int×Int))×Int×z2'):A Bool:=
 letI c:=decide (Int.ofNat (List.length x.1)<=10);A.bind (ck c (ajB (x.1,ajF)) false) λy=>letI a:=c&&y&&decide (Int.ofNat (List.length x.2.1)<=6);A.bind (ck a (ajC (x.2.1,λx=>ajD (x,some ajG))) false) λbZ=>A.bind (ck (a&&bZ) (oM (x.2.2.1,0,99)) false) λdv=>letI b:=a&&bZ&&dv&&decide (Int.ofNat (List.length x.2.2.2)<=30);A.bind (ck b (NA (x.2.2.2,λhA=>ajE (hA,some x))) false) λf'=>A.pure (b&&f')
def NB(DM:z2'×List (List (Int×z1'×Int×Int))×Int×z2'->A Int)(NA:z2'×(Int×Int×Int×Int->A Bool)->A Bool)(ajH:(Int×Int×Int×Int)×Option Int×Option bo×Option Int->A Bool)(x:bo×Bool):A (Option qu×Int):=
 A.bind (DM x.1) λy=>if decide (y≠0)=true then A.pure (none,y) else if (!x.2)=true then A.pure (none,1) else A.bind (A.loop (λ(D:z2'×Int×Int×bo×z2'×List (List (Int×z1'×Int×Int))×Int×z2'×List (z1')×Unit)=>letI i:=D.2.2.1;letI g:=List.getD D.1 (Int.toNat i) (0,0,0,0);letI c:=D.2.2.2.2;if decide (i<D.2.1)=true then A.bind (A.ae (0<=i/\i<Int.ofNat (List.length D.1)) (A.bind (A.loop (λ(D:z2'×Int×Int×bo×Int×(Int×Int×Int×Int)×z1'×Int×z2'×List (List (Int×z1'×Int×Int))×Int×z2'×List (z1')×Unit)=>letI d:=D.2.2.2;letI a:=d.2.2.2;letI j:=a.2.2;letI e:=j.2.2;if decide (a.2.1<=d.2.2.1.2.2.2)=true then A.bind (A.bind (NA (d.1.2.2.2,λx=>ajH (x,some d.2.1,some d.1,some a.2.1))) (λy=>if y=true then A.ae (b6 (Add.add (List.length a.1) (Add.add 0 1))) (A.pure (W.next (D.1,D.2.1,D.2.2.1,d.1,d.2.1,d.2.2.1,a.1++[a.2.1],a.2.1,j.1,j.2.1,e.1,e.2.1,e.2.2.1,()))) else A.pure (W.next (D.1,D.2.1,D.2.2.1,d.1,d.2.1,d.2.2.1,a.1,a.2.1,j.1,j.2.1,e.1,e.2.1,e.2.2.1,())))) (W.bB (λ(D:z2'×Int×Int×bo×Int×(Int×Int×Int×Int)×z1'×Int×z2'×List (List (Int×z1'×Int×Int))×Int×z2'×List (z1')×Unit)=>letI k:=D.2.2.2;letI b:=k.2.2.2;A.pure (W.next (D.1,D.2.1,D.2.2.1,k.1,k.2.1,k.2.2.1,b.1,IntKind.wrap .i64 (Add.add b.2.1 1),b.2.2.1,b.2.2.2.1,b.2.2.2.2.1,b.2.2.2.2.2.1,b.2.2.2.2.2.2.1,())))) else A.bind (A.pure (W.next (D.1,D.2.1,D.2.2.1,d.1,a.1,j.1,j.2.1,e.1,e.2.1,e.2.2.1,()))) λr=>A.pure (W.done r)) (D.1,D.2.1,i,D.2.2.2.1,i,g,[],g.2.2.1,c.1,c.2.1,c.2.2.1,c.2.2.2.1,c.2.2.2.2.1,())) (W.bB (λ(D:z2'×Int×Int×bo×z1'×z2'×List (List (Int×z1'×Int×Int))×Int×z2'×List (z1')×Unit)=>letI f:=D.2.2.2.2;if decide (Int.ofNat (List.length f.1)=0)=true then A.bind (A.bind (A.bind (A.pure (none,3)) (λr=>A.pure (W.done r))) (λr=>A.pure (W.done r))) λr=>A.pure (W.done r) else A.ae True (A.ae (b6 (Add.add (List.length f.2.2.2.2.2.1) (Add.add 0 1))) (A.ae True (A.pure (W.next (D.1,D.2.1,D.2.2.1,D.2.2.2.1,f.2.1,f.2.2.1,f.2.2.2.1,f.2.2.2.2.1,f.2.2.2.2.2.1++[f.1],()))))))))) (W.bB (λ(D:z2'×Int×Int×bo×z2'×List (List (Int×z1'×Int×Int))×Int×z2'×List (z1')×Unit)=>letI h:=D.2.2.2.2;A.pure (W.next (D.1,D.2.1,IntKind.wrap .i64 (Add.add D.2.2.1 1),D.2.2.2.1,h.1,h.2.1,h.2.2.1,h.2.2.2.1,h.2.2.2.2.1,())))) else A.bind (A.pure (W.next (c.1,c.2.1,c.2.2.1,c.2.2.2.1,c.2.2.2.2.1,()))) λr=>A.pure (W.done r)) (x.1.1,Int.ofNat (List.length x.1.1),0,x.1,x.1.1,x.1.2.1,x.1.2.2.1,x.1.2.2.2,[],())) (W.bB (λ(D:z2'×List (List (Int×z1'×Int×Int))×Int×z2'×List (z1')×Unit)=>A.pure (some ((D.1,D.2.1,D.2.2.1,D.2.2.2.1),D.2.2.2.2.1),0)))
def ajI(oM:Int×Int×Int->A Bool)(x:bo×Int):A Bool:=
 A.bind (oM (x.2,0,IntKind.wrap .i64 (Int.ofNat (List.length x.1.1)-1))) λy=>A.pure y
def VE(oM:Int×Int×Int->A Bool)(x:bo×Int×Int):A Bool:=
 letI a:=Int.ofNat (List.length x.1.2.1);A.bind (oM (x.2.1,0,IntKind.wrap .i64 (a-1))) λy=>A.ae (y=true->(y=true/\y=true)/\(0<=x.2.1/\x.2.1<a)/\True) (A.bind (ck y (oM (x.2.2,0,IntKind.wrap .i64 (Int.ofNat (List.length (List.getD x.1.2.1 (Int.toNat x.2.1) []))-1))) false) (λbZ=>A.pure (y&&bZ)))
def NC(Hy:bo×Int×Int×Int×Int->A Bool)(ajJ:Int×Int->A Int)(x:Option qu×Int×Int×Int):A Int:=
 letI b:=(Option.getD x.1 (([],[],0,[]),[])).2;letI e:=List.getD b (Int.toNat x.2.1) [];A.bind (A.ae (Option.isSome x.1=true) (A.ae (0<=x.2.1/\x.2.1<Int.ofNat (List.length b)) (A.loop (λ(D:Option qu×Int×Int×Int×Int×z1'×Int×Int×Unit)=>letI c:=D.2.2.2;letI a:=c.2.2;letI f:=a.2.2.1;if decide (f<a.2.1)=true then A.bind (A.ae (0<=f/\f<Int.ofNat (List.length a.1)) (A.ae (Option.isSome D.1=true) (A.bind (Hy ((Option.getD D.1 (([],[],0,[]),[])).1,D.2.1,List.getD a.1 (Int.toNat f) 0,D.2.2.1,c.1)) (λy=>if y=true then A.pure (W.next (D.1,D.2.1,D.2.2.1,c.1,IntKind.wrap .i64 (Add.add c.2.1 1),a.1,a.2.1,f,())) else A.pure (W.next (D.1,D.2.1,D.2.2.1,c.1,c.2.1,a.1,a.2.1,f,())))))) (W.bB (λ(D:Option qu×Int×Int×Int×Int×z1'×Int×Int×Unit)=>letI g:=D.2.2.2;A.pure (W.next (D.1,D.2.1,D.2.2.1,g.1,g.2.1,g.2.2.1,g.2.2.2.1,IntKind.wrap .i64 (Add.add g.2.2.2.2.1 1),())))) else A.bind (A.pure (W.next (D.1,D.2.1,c.2.1,()))) λr=>A.pure (W.done r)) (x.1,x.2.1,x.2.2.1,x.2.2.2,0,e,Int.ofNat (List.length e),0,())))) (W.bB (λ(D:Option qu×Int×Int×Unit)=>letI d:=(Option.getD D.1 (([],[],0,[]),[])).2;A.ae (Option.isSome D.1=true) (A.ae (0<=D.2.1/\D.2.1<Int.ofNat (List.length d)) (A.bind (ajJ (D.2.2.1,Int.ofNat (List.length (List.getD d (Int.toNat D.2.1) [])))) (λy=>A.pure y)))))
def ajK(x:z1'):A Bool:=
 A.bind (A.loop (λ(D:z1'×Int×Unit)=>letI c:=D.2.1;letI b:=IntKind.wrap .i64 (c-1);letI a:=Int.ofNat (List.length D.1);if decide (c<a)=true then A.ae (0<=c/\c<a) (A.ae (0<=b/\b<a) (if decide (List.getD D.1 (Int.toNat c) 0<=List.getD D.1 (Int.toNat b) 0)=true then A.bind (A.bind (A.pure false) (λr=>A.pure (W.done r))) λr=>A.pure (W.done r) else A.pure (W.next (D.1,IntKind.wrap .i64 (Add.add c 1),())))) else A.bind (A.pure (W.next ())) λr=>A.pure (W.done r)) (x,1,())) (W.bB (λ(D:Unit)=>A.pure true))
def ajL(x:Int×Int×Int):A Bool:=
 A.pure (decide (x.2.1<=x.1)&&decide (x.1<=x.2.2))
def VF(DN:Int->A Bool)(ND:Int×Int->A Bool)(x:Int×Int×Int×Int):A Bool:=
 A.bind (DN x.1) λy=>A.bind (ck y (DN x.2.1) false) λbZ=>A.bind (ck (y&&bZ) (ND x.2.2) false) λdv=>A.pure (y&&bZ&&dv)
def VG(oM:Int×Int×Int->A Bool)(x:Int):A Bool:=
 A.bind (oM (x,0,9)) λy=>A.pure y
def ajM(oM:Int×Int×Int->A Bool)(x:Int×Int):A Bool:=
 A.bind (oM (x.1,0,x.2)) λy=>A.pure (y&&decide (x.2<=999))
def VH(ajN:z1'->A Bool)(ajO:z1'×(Int->A Bool)->A Bool)(DN:Int->A Bool)(ND:Int×Int->A Bool)(x:Int×z1'×Int×Int):A Bool:=
 A.bind (DN x.1) λy=>letI a:=y&&decide (Int.ofNat (List.length x.2.1)<=4);A.bind (ck a (ajO (x.2.1,DN)) false) λbZ=>A.bind (ck (a&&bZ) (ajN x.2.1) false) λdv=>A.bind (ck (a&&bZ&&dv) (ND x.2.2) false) λf'=>A.pure (a&&bZ&&dv&&f')
def VI(ajP:List (Int×z1'×Int×Int)×(Int×z1'×Int×Int->A Bool)->A Bool)(x:List (Int×z1'×Int×Int)×Option (Int×z1'×Int×Int->A Bool)):A Bool:=
 letI a:=decide (Int.ofNat (List.length x.1)<=4);A.bind (ck a (ajP (x.1,Option.getD x.2 λx=>{ cq:=False,bQ:=λx=>False })) false) λy=>A.pure (a&&y)
def VJ(iq:bo×Int->A Bool)(xZ:bo×Int×Int->A Bool)(oM:Int×Int×Int->A Bool)(x:(Int×Int×Int×Int)×Option bo):A Bool:=
 letI a:=Option.getD x.2 ([],[],0,[]);A.bind (iq (a,x.1.1)) λy=>A.bind (ck y (xZ (a,x.1.2.1,x.1.2.2.1)) false) λbZ=>A.bind (ck (y&&bZ) (oM (x.1.2.2.2,0,1)) false) λdv=>A.pure (y&&bZ&&dv)
def VK(Hy:bo×Int×Int×Int×Int->A Bool)(x:(Int×Int×Int×Int)×Option Int×Option bo×Option Int):A Bool:=
 letI e:=Option.getD x.2.1 0;letI c:=decide (x.1.1≠e);letI b:=(Option.getD x.2.2.1 ([],[],0,[]),e,Option.getD x.2.2.2 0,x.1.2.1,x.1.2.2.1);letI a:=(!c)=true;letI d:=a->a/\True/\True;A.ae d (A.ae d (A.ae (a->(a/\a/\a/\a/\a/\True)/\(Hy b).cq/\True) (A.ae d (A.ae (a->(a/\True)/\True/\True) (A.ae (a->(a/\a)/\True/\True) (A.ae (True/\(c=false->a)) (A.pure (c||decide (A.val (Hy b) false=decide (x.1.2.2.2=1))))))))))
def VL(oM:Int×Int×Int->A Bool)(hN:z1'×Int->A Bool)(x:bo×Int×Int×Int×Int):A Bool:=
 letI e:=x.2.2.2;letI c:=List.getD x.1.2.1 (Int.toNat e.1) [];letI b:=List.getD x.1.1 (Int.toNat x.2.1) (0,0,0,0);letI a:=List.getD c (Int.toNat e.2) (0,[],0,0);letI d:=decide (b.1=a.1);A.ae (0<=x.2.1/\x.2.1<Int.ofNat (List.length x.1.1)) (A.ae (0<=e.1/\e.1<Int.ofNat (List.length x.1.2.1)) (A.ae (0<=e.2/\e.2<Int.ofNat (List.length c)) (A.bind (ck d (hN (a.2.1,b.2.1)) false) (λy=>A.bind (ck (d&&y) (oM (x.2.2.1,a.2.2.1,IntKind.wrap .i64 (Add.add a.2.2.2 x.1.2.2.1))) false) λbZ=>A.pure (d&&y&&bZ)))))
def VM(x:Int×Int):A Int:=
 if decide (x.1=x.2)=true then A.pure 1 else if decide (x.1=0)=true then A.pure 2 else A.pure 3
def NF(NG:z2'×List (List (Int×z1'×Int×Int))×Int×z2'->A Int)(x:z2'×List (List (Int×z1'×Int×Int))×Int×z2'):A Bool:=
 if (decide (Int.ofNat (List.length x.1) > 40)||decide (Int.ofNat (List.length x.2.1) > 40)||decide (Int.ofNat (List.length x.2.2.2) > 60))=true then A.pure true else A.bind (A.loop (λ(D:Int×bo×Unit)=>letI e:=D.1<Int.ofNat (List.length D.2.1.2.1);if decide e=true then A.bind (A.ae (0<=D.1/\e) (if decide (Int.ofNat (List.length (List.getD D.2.1.2.1 (Int.toNat D.1) [])) > 20)=true then A.bind (A.bind (A.bind (A.pure true) (λr=>A.pure (W.done r))) (λr=>A.pure (W.done r))) λr=>A.pure (W.done r) else A.loop (λ(D:Int×Int×bo×Unit)=>letI g:=D.2.2.1;letI c:=0<=D.1/\D.1<Int.ofNat (List.length g.2.1);letI a:=List.getD g.2.1 (Int.toNat D.1) [];letI f:=D.2.1<Int.ofNat (List.length a);A.ae c (if decide f=true then A.ae c (A.ae (0<=D.2.1/\f) (if decide (Int.ofNat (List.length (List.getD a (Int.toNat D.2.1) (0,[],0,0)).2.1) > 20)=true then A.bind (A.bind (A.bind (A.bind (A.pure true) (λr=>A.pure (W.done r))) (λr=>A.pure (W.done r))) (λr=>A.pure (W.done r))) λr=>A.pure (W.done r) else A.pure (W.next (D.1,IntKind.wrap .i64 (Add.add D.2.1 1),g,())))) else A.bind (A.pure (W.next (D.1,g,()))) λr=>A.pure (W.done r))) (D.1,0,D.2.1,()))) (W.bB (λ(D:Int×bo×Unit)=>A.pure (W.next (IntKind.wrap .i64 (Add.add D.1 1),D.2.1,())))) else A.bind (A.pure (W.next (D.2.1,()))) λr=>A.pure (W.done r)) (0,x,())) (W.bB (λ(D:bo×Unit)=>A.bind (NG D.1) λy=>if decide (y≠0)=true then A.pure false else A.bind (A.loop (λ(D:Int×bo×Unit)=>letI d:=(List.getD D.2.1.1 (Int.toNat D.1) (0,0,0,0)).2.2;letI b:=D.1<Int.ofNat (List.length D.2.1.1);if decide b=true then A.ae (0<=D.1/\b) (A.ae (0<=D.1/\b) (if decide (IntKind.wrap .i64 (d.2-d.1)>=50)=true then A.bind (A.bind (A.pure true) (λr=>A.pure (W.done r))) λr=>A.pure (W.done r) else A.pure (W.next (IntKind.wrap .i64 (Add.add D.1 1),D.2.1,())))) else A.bind (A.pure (W.next (D.2.1,()))) λr=>A.pure (W.done r)) (0,D.1,())) (W.bB (λ(D:bo×Unit)=>A.pure (decide (Int.ofNat (List.length D.1.1) > 6)||decide (Int.ofNat (List.length D.1.2.1) > 4)||decide (Int.ofNat (List.length D.1.2.2.2) > 10))))))
def ajQ(x:Unit):A bo:=
 A.pure ([(1,2,300,310),(1,3,305,305),(2,1,50,60),(1,2,320,330)],[[(1,[2,3],300,306),(2,[1],40,58)],[(1,[2],310,326)]],5,[(0,1,0,0)])
abbrev dy:Type:=Int×Int×Int×Int×z1'
abbrev dN:Type:=z1'×(Int×Int)×Int×Int×Int
abbrev DO:Type:=Int×Int×Int
abbrev bI:Type:=bo×z1'×List dy×List dN×List DO×Int
abbrev dw:Type:=bI×z4'×z5'
def VN(ajR:bI×Bool->A (Int×Int))(x:bI):A (Int×Int):=
 A.bind (ajR (x,true)) λy=>A.pure y
def VO(oN:bI×Bool->A (Option dw×Int))(ajS:Option dw->Prop)(ajT:Option dw->List (z1'))(NH:Option dw×z1'->A (z3'×Bool))(ajU:Option dw×z3'->A Bool)(NI:Option dw×z3'->A Int)(x:bI):A (Int×Int):=
 A.bind (oN (x,true)) λy=>if decide (y.2≠0)=true then A.pure (0,y.2) else A.ae (ajS y.1) (A.bind (jM (λ(D:Option (bI×z4'×z5')×Int×Unit) (y:z1')=>A.bind (A.bind (NH (D.1,y)) (λbZ=>A.bind (ck (!(!bZ.2)) (ajU (D.1,bZ.1)) false) λdv=>if (!bZ.2||!dv)=true then A.pure (dj.normal,D.1,D.2.1,()) else A.bind (NI (D.1,bZ.1)) λf'=>if (decide (D.2.1=-1)||decide (f'<D.2.1))=true then A.pure (dj.normal,D.1,f',()) else A.pure (dj.normal,D.1,D.2.1,()))) λp=>A.pure (p.1,p.2.1,p.2.2.1,())) (ajT y.1) (y.1,-1,())) (λp=>letI a:=decide (p.2.2.1=-1)=true;so (if a then A.pure (0,3) else A.pure (p.2.2.1,0)) (λid=>if id=0 then if a then A.pure (0,3) else A.pure (p.2.2.1,0) else A.fail) A.fail p.1))
def VP(oN:bI×Bool->A (Option dw×Int))(DP:bI×Int->A Bool)(NJ:z1'×Int×Unit->A (z1'×Unit))(Ap:Option dw×z1'->A Bool)(x:bI×Int):A (z1'×Int):=
 A.ae (DP x).cq (A.ae (oN (x.1,A.val (DP x) false)).cq (if decide ((A.val (oN (x.1,A.val (DP x) false)) (none,0)).2≠0)=true then A.pure ([],(A.val (oN (x.1,A.val (DP x) false)) (none,0)).2) else A.bind (NJ ([-1],Int.ofNat (List.length x.1.2.2.2.1),())) λy=>A.bind (A.loop (λ(D:Int×Option ((bo×z1'×List dy×List dN×z3'×Int)×z4'×z5')×Int×Int×z1'×z1'×Unit)=>letI b:=D.2.2.2;letI a:=List.set b.2.2.1 (Int.toNat D.1) b.1;if decide (b.1<D.2.2.1)=true then A.bind (A.ae (0<=D.1/\D.1<Int.ofNat (List.length b.2.2.1)) (A.bind (Ap (D.2.1,a)) (λy=>if y=true then A.ae (b6 (Add.add (List.length b.2.1) (Add.add 0 1))) (A.pure (W.next (D.1,D.2.1,D.2.2.1,b.1,b.2.1++[b.1],a,()))) else A.pure (W.next (D.1,D.2.1,D.2.2.1,b.1,b.2.1,a,()))))) (W.bB (λ(D:Int×Option ((bo×z1'×List dy×List (z1'×(Int×Int)×Int×Int×Int)×z3'×Int)×z4'×z5')×Int×Int×z1'×z1'×Unit)=>A.pure (W.next (D.1,D.2.1,D.2.2.1,IntKind.wrap .i64 (Add.add D.2.2.2.1 1),D.2.2.2.2.1,D.2.2.2.2.2.1,())))) else A.bind (A.pure (W.next (b.2.1,()))) λr=>A.pure (W.done r)) (x.2,(A.val (oN (x.1,A.val (DP x) false)) (none,0)).1,Int.ofNat (List.length x.1.2.2.1),0,[],y.1,())) (W.bB (λ(D:z1'×Unit)=>A.pure (D.1,0)))))
def VQ(DM:z2'×List (List (Int×z1'×Int×Int))×Int×z2'->A Int)(ajV:bI->A Bool)(x:bI):A Int:=
 A.bind (DM x.1) λy=>if decide (y≠0)=true then A.pure y else A.bind (ajV x) λy=>if (!y)=true then A.pure 80 else A.pure 0
def VR(NG:z2'×List (List (Int×z1'×Int×Int))×Int×z2'->A Int)(n5:Int×Int×Int->A Bool)(VS:bI×Int×Int×Int×Int×z1'->A Bool)(ajW:z1'×(Int×Int)×Int×Int×Int->A Bool)(x:bI):A Int:=
 letI a:=decide (Int.ofNat (List.length x.2.1)≠Int.ofNat (List.length x.1.1))||decide (Int.ofNat (List.length x.2.2.1) > 8)||decide (Int.ofNat (List.length x.2.2.2.1) > 6)||decide (Int.ofNat (List.length x.2.2.2.2.1) > 8);A.bind (NG x.1) λy=>if decide (y≠0)=true then A.pure y else A.bind (ck (!a) (n5 (x.2.2.2.2.2,0,99)) false) λy=>if (a||!y)=true then A.pure 80 else A.bind (A.loop (λ(D:Int×(bo×z1'×List (Int×Int×Int×Int×z1')×List dN×z3'×Int)×Unit)=>letI g:=D.1<Int.ofNat (List.length D.2.1.2.1);if decide g=true then A.ae (0<=D.1/\g) (A.bind (n5 (List.getD D.2.1.2.1 (Int.toNat D.1) 0,0,10)) (λy=>if (!y)=true then A.bind (A.bind (A.pure 80) (λr=>A.pure (W.done r))) λr=>A.pure (W.done r) else A.pure (W.next (IntKind.wrap .i64 (Add.add D.1 1),D.2.1,())))) else A.bind (A.pure (W.next (D.2.1,()))) λr=>A.pure (W.done r)) (0,x,())) (W.bB (λ(D:(bo×z1'×List dy×List dN×z3'×Int)×Unit)=>A.bind (A.loop (λ(D:Int×(bo×z1'×List dy×List dN×z3'×Int)×Unit)=>letI f:=D.1<Int.ofNat (List.length D.2.1.2.2.1);letI c:=(D.2.1,List.getD D.2.1.2.2.1 (Int.toNat D.1) (0,0,0,0,[]));if decide f=true then A.ae (0<=D.1/\f) (A.ae (VS c).cq (if (!(A.val (VS c) false))=true then A.bind (A.bind (A.pure 80) (λr=>A.pure (W.done r))) λr=>A.pure (W.done r) else A.pure (W.next (IntKind.wrap .i64 (Add.add D.1 1),D.2.1,())))) else A.bind (A.pure (W.next (D.2.1,()))) λr=>A.pure (W.done r)) (0,D.1,())) (W.bB (λ(D:(bo×z1'×List dy×List (z1'×(Int×Int)×Int×Int×Int)×z3'×Int)×Unit)=>A.bind (A.loop (λ(D:Int×(bo×z1'×List dy×List (z1'×(Int×Int)×Int×Int×Int)×z3'×Int)×Unit)=>letI e:=D.1<Int.ofNat (List.length D.2.1.2.2.2.1);if decide e=true then A.ae (0<=D.1/\e) (A.bind (ajW (List.getD D.2.1.2.2.2.1 (Int.toNat D.1) ([],(0,0),0,0,0))) (λy=>if (!y)=true then A.bind (A.bind (A.pure 80) (λr=>A.pure (W.done r))) λr=>A.pure (W.done r) else A.pure (W.next (IntKind.wrap .i64 (Add.add D.1 1),D.2.1,())))) else A.bind (A.pure (W.next (D.2.1,()))) λr=>A.pure (W.done r)) (0,D.1,())) (W.bB (λ(D:(bI)×Unit)=>A.bind (A.loop (λ(D:Int×(bo×z1'×List dy×List dN×z3'×Int)×Unit)=>letI d:=D.1<Int.ofNat (List.length D.2.1.2.2.2.2.1);letI b:=List.getD D.2.1.2.2.2.2.1 (Int.toNat D.1) (0,0,0);if decide d=true then A.ae (0<=D.1/\d) (A.bind (n5 (b.1,0,99)) (λy=>A.bind (ck (!(!y)) (n5 (b.2.1,0,IntKind.wrap .i64 (Int.ofNat (List.length D.2.1.1.1)-1))) false) λbZ=>A.bind (ck (!(!y||!bZ)) (n5 (b.2.2,1,10)) false) λdv=>if (!y||!bZ||!dv)=true then A.bind (A.bind (A.pure 80) (λr=>A.pure (W.done r))) λr=>A.pure (W.done r) else A.pure (W.next (IntKind.wrap .i64 (Add.add D.1 1),D.2.1,())))) else A.bind (A.pure (W.next ())) λr=>A.pure (W.done r)) (0,D.1,())) (W.bB (λ(D:Unit)=>A.pure 0))))))))
def VT(oN:bI×Bool->A (Option dw×Int))(Ap:Option dw×z1'->A Bool)(Aq:bI×z1'->A Bool)(l0:Option dw×z1'->A Int)(x:bI×z1'):A (Int×Int):=
 A.ae (Aq x).cq (A.ae (oN (x.1,A.val (Aq x) false)).cq (if decide ((A.val (oN (x.1,A.val (Aq x) false)) (none,0)).2≠0)=true then A.pure (0,(A.val (oN (x.1,A.val (Aq x) false)) (none,0)).2) else A.bind (Ap ((A.val (oN (x.1,A.val (Aq x) false)) (none,0)).1,x.2)) λy=>if (!y)=true then A.pure (0,3) else A.bind (l0 ((A.val (oN (x.1,A.val (Aq x) false)) (none,0)).1,x.2)) λy=>A.pure (y,0)))
def VU(oN:bI×Bool->A (Option dw×Int))(ajX:Option dw->A (z1'))(l0:Option dw×z1'->A Int)(x:bI×Bool):A (Int×Int):=
 A.bind (oN x) λy=>if decide (y.2≠0)=true then A.pure (0,y.2) else A.bind (ajX y.1) λbZ=>A.bind (l0 (y.1,bZ)) λy=>A.pure (y,0)
def NK(DQ:bI->A Int)(Hz:bo×Int->A ((Int×Int)×Int))(vF:bo×Int×Int×Int->A (Int×Int))(Ar:z4'×Int->A (z4'))(x:bI×Bool):A (Option dw×Int):=
 letI fc:=x.1.1.2;letI f1:=x.1.2.2;A.bind (DQ x.1) λy=>if decide (y≠0)=true then A.pure (none,y) else if (!x.2)=true then A.pure (none,1) else A.bind (if decide (Int.ofNat (List.length x.1.2.1) > 0)=true then A.bind (Hz (x.1.1,0)) λy=>if decide (y.2≠0)=true then A.bind (A.pure (none,y.2)) λr=>A.pure (W.done r) else A.pure (W.next (x.1,[],x.1.1.1,fc.1,fc.2.1,fc.2.2,x.1.2.1,f1.1,f1.2.1,f1.2.2.1,f1.2.2.2,())) else A.pure (W.next (x.1,[],x.1.1.1,fc.1,fc.2.1,fc.2.2,x.1.2.1,f1.1,f1.2.1,f1.2.2.1,f1.2.2.2,()))) (W.bB (λ(D:(bo×z1'×List dy×List (z1'×(Int×Int)×Int×Int×Int)×z3'×Int)×z5'×z2'×List (List (Int×z1'×Int×Int))×Int×z2'×z1'×List dy×List (z1'×(Int×Int)×Int×Int×Int)×z3'×Int×Unit)=>letI t:=D.2.2.2.2.2;A.bind (A.loop (λ(D:Int×Int×(bo×z1'×List dy×List dN×z3'×Int)×z5'×z2'×List (List (Int×z1'×Int×Int))×Int×z2'×z1'×List dy×List (z1'×(Int×Int)×Int×Int×Int)×z3'×Int×Unit)=>letI bF:=D.2.2;letI h:=bF.2.2.2.2;letI g1:=h.2.2.2;if decide (D.2.1<D.1)=true then A.bind (A.loop (λ(D:Int×Int×Int×List (List (Int×z1'×Int×Int))×Int×Int×(bo×z1'×List dy×List (z1'×(Int×Int)×Int×Int×Int)×z3'×Int)×z5'×z2'×List (List (Int×z1'×Int×Int))×Int×z2'×z1'×List dy×List dN×z3'×Int×Unit)=>letI i1:=D.2.2.2;letI j:=i1.2.2;letI c:=j.2.2.2;letI o:=c.2.2.2.2;if decide (j.1<i1.2.1)=true then A.bind (A.ae (0<=j.1/\j.1<Int.ofNat (List.length i1.1)) (A.loop (λ(D:Int×Int×Int×Int×List (List (Int×z1'×Int×Int))×Int×Int×Int×Int×(bo×z1'×List dy×List dN×z3'×Int)×z5'×z2'×List (List (Int×z1'×Int×Int))×Int×z2'×z1'×List (Int×Int×Int×Int×z1')×List dN×z3'×Int×Unit)=>letI m1:=D.2.2;letI k:=m1.2.2;letI hT:=k.2.2;letI a:=hT.2.2;letI w:=a.2.2.2;letI f:=w.2.2.2;letI d1:=f.2.2.2;if decide (a.1<hT.2.1)=true then A.bind (A.bind (vF (a.2.1.1,D.1,D.2.1,a.1)) (λy=>if decide (y.1=1)=true then A.ae True (A.ae (True/\True/\True) (A.ae True (A.pure (W.next (D.1,D.2.1,m1.1,m1.2.1,k.1,k.2.1,hT.1,hT.2.1,a.1,a.2.1,vD a.2.2.1 (D.1,D.2.1,a.1) (IntKind.wrap .i64 (Add.add (Option.getD (Option.map (λx=>x.2) (List.find? (λp=>decide (D.1=p.1.1)&&(decide (D.2.1=p.1.2.1)&&decide (a.1=p.1.2.2))) a.2.2.1)) 0) 1)),w.1,w.2.1,w.2.2.1,f.1,f.2.1,f.2.2.1,d1.1,d1.2.1,d1.2.2.1,()))))) else A.pure (W.next (D.1,D.2.1,m1.1,m1.2.1,k.1,k.2.1,hT.1,hT.2.1,a.1,a.2.1,a.2.2.1,w.1,w.2.1,w.2.2.1,f.1,f.2.1,f.2.2.1,d1.1,d1.2.1,d1.2.2.1,())))) (W.bB (λ(D:Int×Int×Int×Int×List (List (Int×z1'×Int×Int))×Int×Int×Int×Int×bI×z5'×z2'×List (List (Int×z1'×Int×Int))×Int×z2'×z1'×List dy×List dN×z3'×Int×Unit)=>letI ay:=D.2.2.2.2.2;letI g:=ay.2.2.2.2;letI z:=g.2.2.2.2.2;A.pure (W.next (D.1,D.2.1,D.2.2.1,D.2.2.2.1,D.2.2.2.2.1,ay.1,ay.2.1,ay.2.2.1,IntKind.wrap .i64 (Add.add ay.2.2.2.1 1),g.1,g.2.1,g.2.2.1,g.2.2.2.1,g.2.2.2.2.1,z.1,z.2.1,z.2.2.1,z.2.2.2.1,z.2.2.2.2.1,z.2.2.2.2.2.1,())))) else A.bind (A.pure (W.next (D.1,m1.1,m1.2.1,k.1,k.2.1,hT.1,a.2.1,a.2.2.1,w.1,w.2.1,w.2.2.1,f.1,f.2.1,f.2.2.1,d1.1,d1.2.1,d1.2.2.1,()))) λr=>A.pure (W.done r)) (D.1,j.1,D.2.1,D.2.2.1,i1.1,i1.2.1,j.1,Int.ofNat (List.length (List.getD i1.1 (Int.toNat j.1) [])),0,j.2.1,j.2.2.1,c.1,c.2.1,c.2.2.1,c.2.2.2.1,o.1,o.2.1,o.2.2.1,o.2.2.2.1,o.2.2.2.2.1,()))) (W.bB (λ(D:Int×Int×Int×List (List (Int×z1'×Int×Int))×Int×Int×(bo×z1'×List dy×List dN×z3'×Int)×z5'×z2'×List (List (Int×z1'×Int×Int))×Int×z2'×z1'×List dy×List (z1'×(Int×Int)×Int×Int×Int)×z3'×Int×Unit)=>letI E:=D.2.2.2.2;letI i:=E.2.2.2.2;letI aW:=i.2.2.2.2;A.pure (W.next (D.1,D.2.1,D.2.2.1,D.2.2.2.1,E.1,IntKind.wrap .i64 (Add.add E.2.1 1),E.2.2.1,E.2.2.2.1,i.1,i.2.1,i.2.2.1,i.2.2.2.1,aW.1,aW.2.1,aW.2.2.1,aW.2.2.2.1,aW.2.2.2.2.1,())))) else A.bind (A.pure (W.next (D.2.1,D.2.2.1,j.2.1,j.2.2.1,c.1,c.2.1,c.2.2.1,c.2.2.2.1,o.1,o.2.1,o.2.2.1,o.2.2.2.1,o.2.2.2.2.1,()))) λr=>A.pure (W.done r)) (D.2.1,D.1,D.2.1,bF.1.1.2.1,Int.ofNat (List.length bF.1.1.2.1),0,bF.1,bF.2.1,bF.2.2.1,bF.2.2.2.1,h.1,h.2.1,h.2.2.1,g1.1,g1.2.1,g1.2.2.1,g1.2.2.2.1,())) (W.bB (λ(D:Int×Int×(bo×z1'×List dy×List (z1'×(Int×Int)×Int×Int×Int)×z3'×Int)×z5'×z2'×List (List (Int×z1'×Int×Int))×Int×z2'×z1'×List dy×List (z1'×(Int×Int)×Int×Int×Int)×z3'×Int×Unit)=>letI jJ:=D.2.2.2;letI m:=jJ.2.2.2;A.pure (W.next (D.1,IntKind.wrap .i64 (Add.add D.2.1 1),D.2.2.1,jJ.1,jJ.2.1,jJ.2.2.1,m.1,m.2.1,m.2.2.1,m.2.2.2.1,m.2.2.2.2.1,m.2.2.2.2.2.1,m.2.2.2.2.2.2.1,())))) else A.bind (A.pure (W.next (bF.1,bF.2.1,bF.2.2.1,bF.2.2.2.1,h.1,h.2.1,h.2.2.1,g1.1,g1.2.1,g1.2.2.1,g1.2.2.2.1,()))) λr=>A.pure (W.done r)) (Int.ofNat (List.length D.1.2.1),0,D.1,D.2.1,D.2.2.1,D.2.2.2.1,D.2.2.2.2.1,t.1,t.2.1,t.2.2.1,t.2.2.2.1,t.2.2.2.2.1,t.2.2.2.2.2.1,())) (W.bB (λ(D:(bo×z1'×List (Int×Int×Int×Int×z1')×List dN×z3'×Int)×z5'×z2'×List (List (Int×z1'×Int×Int))×Int×z2'×z1'×List (Int×Int×Int×Int×z1')×List dN×z3'×Int×Unit)=>letI u:=D.2.2.2.2.2;A.bind (A.loop (λ(D:z1'×Int×Int×(bo×z1'×List dy×List dN×z3'×Int)×z5'×z2'×List (List (Int×z1'×Int×Int))×Int×z2'×z1'×List (Int×Int×Int×Int×z1')×List dN×z3'×Int×z4'×Unit)=>letI l:=D.2.2;letI x0:=l.2.2.2;letI n:=List.getD D.1 (Int.toNat l.1) 0;letI d:=x0.2.2.2;letI b9:=d.2.2.2.2;if decide (l.1<D.2.1)=true then A.ae (0<=l.1/\l.1<Int.ofNat (List.length D.1)) (A.ae True (A.ae (Ar ([(l.1,0)],n)).cq (A.ae (b6 (Add.add (List.length b9.2.2.1) (List.length (A.val (Ar ([(l.1,0)],n)) [])))) (A.ae True (A.pure (W.next (D.1,D.2.1,IntKind.wrap .i64 (Add.add l.1 1),l.2.1,l.2.2.1,x0.1,x0.2.1,x0.2.2.1,d.1,d.2.1,d.2.2.1,d.2.2.2.1,b9.1,b9.2.1,b9.2.2.1++A.val (Ar ([(l.1,0)],n)) [],()))))))) else A.bind (A.pure (W.next (l.2.1,l.2.2.1,x0.1,x0.2.1,x0.2.2.1,d.1,d.2.1,d.2.2.1,d.2.2.2.1,b9.1,b9.2.1,b9.2.2.1,()))) λr=>A.pure (W.done r)) (D.1.2.1,Int.ofNat (List.length D.1.2.1),0,D.1,D.2.1,D.2.2.1,D.2.2.2.1,D.2.2.2.2.1,u.1,u.2.1,u.2.2.1,u.2.2.2.1,u.2.2.2.2.1,u.2.2.2.2.2.1,[],())) (W.bB (λ(D:(bo×z1'×List dy×List (z1'×(Int×Int)×Int×Int×Int)×z3'×Int)×z5'×z2'×List (List (Int×z1'×Int×Int))×Int×z2'×z1'×List dy×List dN×z3'×Int×z4'×Unit)=>letI q:=D.2.2.2.2.2;A.bind (A.loop (λ(D:z3'×Int×Int×z5'×z2'×List (List (Int×z1'×Int×Int))×Int×z2'×z1'×List (Int×Int×Int×Int×z1')×List dN×z3'×Int×z4'×Unit)=>letI s:=D.2.2;letI ee:=s.2.2.2;letI e:=ee.2.2;letI dP:=e.2.2.2.2;letI b:=List.getD D.1 (Int.toNat s.1) (0,0,0);letI du:=(b.2.1,b.1);if decide (s.1<D.2.1)=true then A.ae (0<=s.1/\s.1<Int.ofNat (List.length D.1)) (A.ae True (A.ae (Ar ([du],b.2.2)).cq (A.ae (b6 (Add.add (List.length dP.2.2.1) (List.length (A.val (Ar ([du],b.2.2)) [])))) (A.ae True (A.pure (W.next (D.1,D.2.1,IntKind.wrap .i64 (Add.add s.1 1),s.2.1,s.2.2.1,ee.1,ee.2.1,e.1,e.2.1,e.2.2.1,e.2.2.2.1,dP.1,dP.2.1,dP.2.2.1++A.val (Ar ([du],b.2.2)) [],()))))))) else A.bind (A.pure (W.next (s.2.1,s.2.2.1,ee.1,ee.2.1,e.1,e.2.1,e.2.2.1,e.2.2.2.1,dP.1,dP.2.1,dP.2.2.1,()))) λr=>A.pure (W.done r)) (D.1.2.2.2.2.1,Int.ofNat (List.length D.1.2.2.2.2.1),0,D.2.1,D.2.2.1,D.2.2.2.1,D.2.2.2.2.1,q.1,q.2.1,q.2.2.1,q.2.2.2.1,q.2.2.2.2.1,q.2.2.2.2.2.1,q.2.2.2.2.2.2.1,())) (W.bB (λ(D:z5'×z2'×List (List (Int×z1'×Int×Int))×Int×z2'×z1'×List (Int×Int×Int×Int×z1')×List dN×z3'×Int×z4'×Unit)=>letI v:=D.2.2.2.2.2;A.pure (some (((D.2.1,D.2.2.1,D.2.2.2.1,D.2.2.2.2.1),v.1,v.2.1,v.2.2.1,v.2.2.2.1,v.2.2.2.2.1),v.2.2.2.2.2.1,D.1),0)))))))))
def NL(HA:(z1'×(Int×Int)×Int×Int×Int)×Int×Int×Int×Int×z1'->A Int)(x:Option dw×z1'):A (z3'×Bool):=
 A.bind (A.loop (λ(D:Option ((bo×z1'×List dy×List dN×z3'×Int)×z4'×z5')×z1'×Int×Int×z3'×Unit)=>letI l:=D.2;letI g:=Option.isSome D.1=true;letI e:=l.2.2;letI j:=Int.toNat e.1;letI b:=List.getD l.1 j 0;letI a:=(Option.getD D.1 ((([],[],0,[]),[],[],[],[],0),[],[])).1.2.2;letI f:=List.getD a.1 (Int.toNat b) (0,0,0,0,[]);letI d:=List.getD a.2.1 j ([],(0,0),0,0,0);if decide (e.1<l.2.1)=true then A.bind (A.ae (0<=e.1/\e.1<Int.ofNat (List.length l.1)) (if decide (List.getD l.1 j (0:Int)<0)=true then A.pure (W.next (D.1,l.1,l.2.1,e.1,e.2.1,())) else A.ae g (A.ae (0<=e.1/\e.1<Int.ofNat (List.length a.2.1)) (A.ae g (A.ae (0<=b/\b<Int.ofNat (List.length a.1)) (A.bind (A.bind (HA (d,f)) (λy=>if decide (y=0)=true then A.bind (A.bind (A.bind (A.bind (A.pure ([],false)) (λr=>A.pure (W.done r))) (λr=>A.pure (W.done r))) (λr=>A.pure (W.done r))) λr=>A.pure (W.done r) else if decide (y=2)=true then A.ae g (A.pure (W.next (D.1,IntKind.wrap .i64 (d.2.2.2.1-a.2.2.2),l.1,l.2.1,e.1,e.2.1,f,()))) else A.pure (W.next (D.1,d.2.2.2.1,l.1,l.2.1,e.1,e.2.1,f,())))) (W.bB (λ(D:Option ((bo×z1'×List dy×List (z1'×(Int×Int)×Int×Int×Int)×z3'×Int)×z4'×z5')×Int×z1'×Int×Int×z3'×(Int×Int×Int×Int×z1')×Unit)=>letI h:=D.2.2.2.2;if decide (D.2.1<0)=true then A.bind (A.bind (A.bind (A.pure ([],false)) (λr=>A.pure (W.done r))) (λr=>A.pure (W.done r))) λr=>A.pure (W.done r) else A.loop (λ(D:Option ((bo×z1'×List dy×List dN×z3'×Int)×z4'×z5')×Int×z1'×Int×Int×z1'×Int×Int×z3'×(Int×Int×Int×Int×z1')×Unit)=>letI k:=D.2.2.2;letI c:=k.2.2;letI i:=c.2.2;if decide (i.1<c.2.1)=true then A.ae (0<=i.1/\i.1<Int.ofNat (List.length c.1)) (A.ae (b6 (Add.add (List.length i.2.1) (Add.add 0 1))) (A.pure (W.next (D.1,D.2.1,D.2.2.1,k.1,k.2.1,c.1,c.2.1,IntKind.wrap .i64 (Add.add i.1 1),i.2.1++[(i.2.2.1.2.2.2.1,List.getD c.1 (Int.toNat i.1) 0,D.2.1)],i.2.2.1,())))) else A.bind (A.pure (W.next (D.1,D.2.2.1,k.1,k.2.1,i.2.1,()))) λr=>A.pure (W.done r)) (D.1,D.2.1,D.2.2.1,D.2.2.2.1,h.1,h.2.2.1.2.2.2.2,Int.ofNat (List.length h.2.2.1.2.2.2.2),0,h.2.1,h.2.2.1,()))))))))) (W.bB (λ(D:Option (bI×z4'×z5')×z1'×Int×Int×z3'×Unit)=>A.pure (W.next (D.1,D.2.1,D.2.2.1,IntKind.wrap .i64 (Add.add D.2.2.2.1 1),D.2.2.2.2.1,())))) else A.bind (A.pure (W.next (e.2.1,()))) λr=>A.pure (W.done r)) (x.1,x.2,Int.ofNat (List.length x.2),0,[],())) (W.bB (λ(D:z3'×Unit)=>A.pure (D.1,true)))
def NM(HB:Option dw×(Int×Int)×Int×Int×Int->A Bool)(x:Option dw×z3'):A Bool:=
 A.bind (A.loop (λ(D:Option ((bo×z1'×List dy×List dN×z3'×Int)×z4'×z5')×z3'×Int×Int×Unit)=>letI b:=D.2.2.2.1;if decide (b<D.2.2.1)=true then A.bind (A.ae (0<=b/\b<Int.ofNat (List.length D.2.1)) (A.bind (A.ae (Option.isSome D.1=true) (A.loop (λ(D:Option ((bI)×z4'×z5')×Bool×z3'×Int×Int×Int×Int×(Int×Int×Int)×Unit)=>letI a:=D.2.2.2.2;if decide (a.2.2.1<a.2.1)=true then A.bind (ck (!D.2.1) (HB (D.1,(a.2.2.1,0),a.2.2.2.1)) false) λy=>A.pure (W.next (D.1,D.2.1||y,D.2.2.1,D.2.2.2.1,a.1,a.2.1,IntKind.wrap .i64 (Add.add a.2.2.1 1),a.2.2.2.1,())) else A.bind (A.pure (W.next (D.1,D.2.1,D.2.2.1,D.2.2.2.1,a.1,()))) λr=>A.pure (W.done r)) (D.1,false,D.2.1,D.2.2.1,b,Int.ofNat (List.length (Option.getD D.1 ((([],[],0,[]),[],[],[],[],0),[],[])).1.2.1),0,List.getD D.2.1 (Int.toNat b) (0,0,0),()))) (W.bB (λ(D:Option ((bo×z1'×List dy×List (z1'×(Int×Int)×Int×Int×Int)×z3'×Int)×z4'×z5')×Bool×z3'×Int×Int×Unit)=>if (!D.2.1)=true then A.bind (A.bind (A.bind (A.pure false) (λr=>A.pure (W.done r))) (λr=>A.pure (W.done r))) λr=>A.pure (W.done r) else A.pure (W.next (D.1,D.2.2.1,D.2.2.2.1,D.2.2.2.2.1,())))))) (W.bB (λ(D:Option ((bo×z1'×List (Int×Int×Int×Int×z1')×List dN×z3'×Int)×z4'×z5')×z3'×Int×Int×Unit)=>A.pure (W.next (D.1,D.2.1,D.2.2.1,IntKind.wrap .i64 (Add.add D.2.2.2.1 1),())))) else A.bind (A.pure (W.next ())) λr=>A.pure (W.done r)) (x.1,x.2,Int.ofNat (List.length x.2),0,())) (W.bB (λ(D:Unit)=>A.pure true))
def NN(NJ:z1'×Int×Unit->A (z1'×Unit))(NO:Option dw×z3'×Int×z4'×z1'×Unit->A (Bool×z4'×z1'×Unit))(x:Option dw×z3'):A Int:=
 A.ae (Option.isSome x.1=true) (A.bind (NJ ([-1],Int.ofNat (List.length (Option.getD x.1 ((([],[],0,[]),[],[],[],[],0),[],[])).2.1),())) (λy=>A.bind (A.loop (λ(D:Option ((bo×z1'×List dy×List (z1'×(Int×Int)×Int×Int×Int)×z3'×Int)×z4'×z5')×z3'×Int×Int×Int×z1'×Unit)=>letI a:=D.2.2.2;if decide (a.2.1<a.1)=true then A.bind (A.bind (NO (D.1,D.2.1,a.2.1,[],a.2.2.1,())) (λy=>if (!y.1)=true then A.pure (W.next (D.1,D.2.1,IntKind.wrap .i64 (Add.add D.2.2.1 1),a.1,a.2.1,y.2.2.1,())) else A.pure (W.next (D.1,D.2.1,D.2.2.1,a.1,a.2.1,y.2.2.1,())))) (W.bB (λ(D:Option ((bo×z1'×List (Int×Int×Int×Int×z1')×List dN×z3'×Int)×z4'×z5')×z3'×Int×Int×Int×z1'×Unit)=>A.pure (W.next (D.1,D.2.1,D.2.2.1,D.2.2.2.1,IntKind.wrap .i64 (Add.add D.2.2.2.2.1 1),D.2.2.2.2.2.1,())))) else A.bind (A.pure (W.next (D.2.2.1,()))) λr=>A.pure (W.done r)) (x.1,x.2,0,Int.ofNat (List.length x.2),0,y.1,())) (W.bB (λ(D:Int×Unit)=>A.pure D.1))))
def VV(kB:Int×Int×Int->A Bool)(x:bI×Int):A Bool:=
 A.bind (kB (x.2,0,IntKind.wrap .i64 (Int.ofNat (List.length x.1.2.2.2.1)-1))) λy=>A.pure y
def ajY(x1:Int×Int->A (Int×Int))(x:z1'×Int):A (z1'):=
 A.bind (if decide (x.2<0)=true then A.ae False (A.ae False (A.pure (W.next (x.1,x.2,())))) else A.pure (W.next (x.1,x.2,()))) (W.bB (λ(D:z1'×Int×Unit)=>A.bind (x1 (IntKind.wrap .u64 (Int.ofNat (List.length D.1)),IntKind.wrap .u64 D.2.1)) λy=>A.bind (if (decide (y.1 > 0)||decide (y.2 > 9223372036854775807))=true then A.ae False (A.ae False (A.pure (W.next (D.1,y.2,())))) else A.pure (W.next (D.1,y.2,()))) (W.bB (λ(D:z1'×Int×Unit)=>letI b:=IntKind.wrap .i64 D.2.1;letI f:=Int.toNat b;letI e:=List.take (List.length (List.replicate f (0:Int))-0) D.1;A.ae (0<=b/\b=b/\b6 f) (A.ae True (A.bind (A.loop (λ(D:Int×z1'×Unit)=>letI g:=Int.toNat D.1;letI c:=List.take g D.2.1;letI a:=Int.ofNat (List.length D.2.1);letI d:=Int.toNat a-g;if decide (D.1<a)=true then A.ae (0<=D.1/\D.1<=a/\a<=a) (A.ae ((0:Int)<=0/\0<=D.1/\D.1<=a) (A.ae True (A.pure (W.next (IntKind.wrap .i64 (Add.add D.1 (Int.ofNat (if d<=List.length c then d else List.length c))),c++List.take d c++List.drop (Add.add g (List.length (List.take d c))) D.2.1,()))))) else A.bind (A.pure (W.next (D.2.1,()))) λr=>A.pure (W.done r)) (Int.ofNat (if List.length (List.replicate f (0:Int))-0<=List.length D.1 then List.length (List.replicate f (0:Int))-0 else List.length D.1),[]++e++List.drop (Add.add 0 (List.length e)) (List.replicate f (0:Int)),())) (W.bB (λ(D:z1'×Unit)=>A.pure D.1))))))))
def VW(NH:Option dw×z1'->A (z3'×Bool))(NI:Option dw×z3'->A Int)(x:Option dw×z1'):A Bool:=
 A.bind (NH x) λy=>A.bind (ck y.2 (NI (x.1,y.1)) 0) λbZ=>A.pure (y.2&&decide (bZ=0))
def VX(DR:Int->A Bool)(NP:z1'×(Int->A Bool)->A Bool)(ajZ:List dy×(Int×Int×Int×Int×z1'->A Bool)->A Bool)(aj0:List dN×(z1'×(Int×Int)×Int×Int×Int->A Bool)->A Bool)(aj1:z3'×(Int×Int×Int->A Bool)->A Bool)(aj2:(Int×Int×Int×Int×z1')×Option bo->A Bool)(aj3:(Int×Int×Int)×Option bo->A Bool)(aj4:z1'×(Int×Int)×Int×Int×Int->A Bool)(aj5:Int->A Bool)(x:bI):A Bool:=
 letI e:=x.2.2.2;letI b:=decide (Int.ofNat (List.length x.2.1)=Int.ofNat (List.length x.1.1));A.bind (ck b (NP (x.2.1,aj5)) false) λy=>letI d:=b&&!y&&decide (Int.ofNat (List.length x.2.2.1)<=8);A.bind (ck d (ajZ (x.2.2.1,λhA=>aj2 (hA,some x.1))) false) λbZ=>letI a:=d&&!bZ&&decide (Int.ofNat (List.length e.1)<=6);A.bind (ck a (aj0 (e.1,aj4)) false) λdv=>letI c:=a&&!dv&&decide (Int.ofNat (List.length e.2.1)<=8);A.bind (ck c (aj1 (e.2.1,λhA=>aj3 (hA,some x.1))) false) λf'=>A.bind (ck (c&&!f') (DR e.2.2) false) λmy=>A.pure (c&&!f'&&my)
def aj6(x:Int×Int×Int):A Bool:=
 A.pure (decide (x.2.1<=x.1)&&decide (x.1<=x.2.2))
def VY(n5:Int×Int×Int->A Bool)(HC:z1'×Int->A Bool)(x:bI×Int×Int×Int×Int×z1'):A Bool:=
 letI c:=x.2.2.2.2;letI b:=Int.ofNat (List.length x.1.1.2.1);letI a:=(c.2,IntKind.wrap .i64 (Int.ofNat (List.length (List.getD x.1.1.2.1 (Int.toNat c.1) []))-1));A.bind (n5 (x.2.1,0,99)) λy=>A.bind (ck (!(!y)) (n5 (x.2.2.1,0,99)) false) λbZ=>A.bind (ck (!(!y||!bZ)) (n5 (x.2.2.2.1,0,99)) false) λdv=>A.bind (ck (!(!y||!bZ||!dv)) (n5 (c.1,0,IntKind.wrap .i64 (b-1))) false) λf'=>if (!y||!bZ||!dv||!f')=true then A.pure false else A.ae (0<=c.1/\c.1<b) (A.ae (HC a).cq (A.pure (A.val (HC a) false)))
def VZ(n5:Int×Int×Int->A Bool)(HC:z1'×Int->A Bool)(x:z1'×(Int×Int)×Int×Int×Int):A Bool:=
 A.bind (n5 (Int.ofNat (List.length x.1),1,8)) λy=>A.bind (ck y (HC (x.1,99)) false) λbZ=>letI a:=y&&bZ&&decide (0<=x.2.1.1)&&decide (x.2.1.1<=x.2.1.2)&&decide (x.2.1.2<=99);A.bind (ck a (n5 (x.2.2.1,0,99)) false) λdv=>A.bind (ck (a&&dv) (n5 (x.2.2.2.1,0,99)) false) λf'=>A.bind (ck (a&&dv&&f') (n5 (x.2.2.2.2,0,100000)) false) λmy=>A.pure (a&&dv&&f'&&my)
def V0(kB:Int×Int×Int->A Bool)(x:bI×Int):A Bool:=
 A.bind (kB (x.2,0,IntKind.wrap .i64 (Int.ofNat (List.length x.1.2.2.1)-1))) λy=>A.pure y
def V1(kB:Int×Int×Int->A Bool)(hN:z1'×Int->A Bool)(x:(z1'×(Int×Int)×Int×Int×Int)×Int×Int×Int×Int×z1'):A Int:=
 A.bind (hN (x.1.1,x.2.1)) λy=>A.bind (ck (!(!y)) (kB (x.2.2.1,x.1.2.1)) false) λbZ=>if (!y||!bZ)=true then A.pure 0 else if decide (x.2.2.2.1=x.1.2.2.1)=true then A.pure 1 else if decide (x.2.2.2.1=0)=true then A.pure 2 else A.pure 0
def NQ(aj7:z1'×Int->A (z1'))(Ap:Option dw×z1'->A Bool)(l0:Option dw×z1'->A Int)(aj8:Option dw->Prop)(aj9:Option dw->List (z1'))(x:Option dw):A (z1'):=
 A.ae (Option.isSome x=true) (A.bind (aj7 ([-1],Int.ofNat (List.length (Option.getD x ((([],[],0,[]),[],[],[],[],0),[],[])).1.2.2.2.1))) (λy=>A.ae (aj8 x) (A.bind (jM (λ(D:Option ((bo×z1'×List dy×List (z1'×(Int×Int)×Int×Int×Int)×z3'×Int)×z4'×z5')×z1'×Unit) (y:z1')=>letI b:=(D.1,y);letI a:=(D.1,D.2.1);A.bind (A.ae (l0 b).cq (A.ae (l0 a).cq (A.ae (decide (A.val (l0 b) 0 > A.val (l0 a) 0)=true->(decide (A.val (l0 b) 0 > A.val (l0 a) 0)=true/\decide (A.val (l0 b) 0 > A.val (l0 a) 0)=true/\True)/\(Ap b).cq/\True) (A.ae (True/\(decide (A.val (l0 b) 0 > A.val (l0 a) 0)=true->decide (A.val (l0 b) 0 > A.val (l0 a) 0)=true)) (if (decide (A.val (l0 b) 0 > A.val (l0 a) 0)&&A.val (Ap b) false)=true then A.pure (dj.normal,D.1,y,()) else A.pure (dj.normal,D.1,D.2.1,())))))) λp=>A.pure (p.1,p.2.1,p.2.2.1,())) (aj9 x) (x,y,())) (λp=>so (A.pure p.2.2.1) (λid=>if id=0 then A.pure p.2.2.1 else A.fail) A.fail p.1))))
def V2(aj_:bI×Int->A Bool)(hN:z1'×Int->A Bool)(x:bI×z1'):A Bool:=
 A.bind (A.loop (λ(D:z1'×z1'×Int×Int×(bo×z1'×List dy×List (z1'×(Int×Int)×Int×Int×Int)×z3'×Int)×Unit)=>letI e:=D.2.2;letI b:=e.2.1;letI c:=Int.toNat b;letI f:=List.getD D.2.1 c 0;letI a:=decide (List.getD D.2.1 c (0:Int)≠-1);if decide (b<e.1)=true then A.ae (0<=b/\b<Int.ofNat (List.length D.2.1)) (A.bind (ck a (aj_ (e.2.2.1,f)) false) (λy=>letI d:=(a&&!(!y))=true;A.ae (d->(d/\True/\d)/\((0:Int)<=0/\0<=b/\b<=Int.ofNat (List.length D.1))/\True) (A.bind (ck (a&&!(!y)) (hN (List.take c D.1,f)) false) (λbZ=>if (a&&(!y||bZ))=true then A.bind (A.bind (A.pure false) (λr=>A.pure (W.done r))) λr=>A.pure (W.done r) else A.pure (W.next (D.1,D.2.1,e.1,IntKind.wrap .i64 (Add.add b 1),e.2.2.1,())))))) else A.bind (A.pure (W.next (D.1,e.2.2.1,()))) λr=>A.pure (W.done r)) (x.2,x.2,Int.ofNat (List.length x.2),0,x.1,())) (W.bB (λ(D:z1'×(bo×z1'×List dy×List dN×z3'×Int)×Unit)=>A.pure (decide (Int.ofNat (List.length D.1)=Int.ofNat (List.length D.2.1.2.2.2.1)))))
def NR(x:Option dw×z1'):A Int:=
 A.bind (A.loop (λ(D:Option ((bo×z1'×List dy×List dN×z3'×Int)×z4'×z5')×Int×z1'×Int×Int×Unit)=>letI c:=D.2.2;letI b:=(Option.getD D.1 ((([],[],0,[]),[],[],[],[],0),[],[])).1.2.2.2.1;letI a:=c.2.2.1;if decide (a<c.2.1)=true then A.bind (A.ae (0<=a/\a<Int.ofNat (List.length c.1)) (if decide (List.getD c.1 (Int.toNat a) (0:Int)≠-1)=true then A.ae (Option.isSome D.1=true) (A.ae (0<=a/\a<Int.ofNat (List.length b)) (A.pure (W.next (D.1,IntKind.wrap .i64 (Add.add D.2.1 (List.getD b (Int.toNat a) ([],(0,0),0,0,0)).2.2.2.2),c.1,c.2.1,a,())))) else A.pure (W.next (D.1,D.2.1,c.1,c.2.1,a,())))) (W.bB (λ(D:Option ((bo×z1'×List (Int×Int×Int×Int×z1')×List dN×z3'×Int)×z4'×z5')×Int×z1'×Int×Int×Unit)=>A.pure (W.next (D.1,D.2.1,D.2.2.1,D.2.2.2.1,IntKind.wrap .i64 (Add.add D.2.2.2.2.1 1),())))) else A.bind (A.pure (W.next (D.2.1,()))) λr=>A.pure (W.done r)) (x.1,0,x.2,Int.ofNat (List.length x.2),0,())) (W.bB (λ(D:Int×Unit)=>A.pure D.1))
def aj'(x1:Int×Int->A (Int×Int))(x:z4'×Int):A (z4'):=
 A.bind (if decide (x.2<0)=true then A.ae False (A.ae False (A.pure (W.next (x.1,x.2,())))) else A.pure (W.next (x.1,x.2,()))) (W.bB (λ(D:z4'×Int×Unit)=>A.bind (x1 (IntKind.wrap .u64 (Int.ofNat (List.length D.1)),IntKind.wrap .u64 D.2.1)) λy=>A.bind (if (decide (y.1 > 0)||decide (y.2 > 9223372036854775807))=true then A.ae False (A.ae False (A.pure (W.next (D.1,y.2,())))) else A.pure (W.next (D.1,y.2,()))) (W.bB (λ(D:z4'×Int×Unit)=>letI b:=IntKind.wrap .i64 D.2.1;letI f:=Int.toNat b;letI d:=List.take (List.length (List.replicate f ((0:Int),(0:Int)))-0) D.1;A.ae (0<=b/\b=b/\b6 f) (A.ae True (A.bind (A.loop (λ(D:Int×z4'×Unit)=>letI g:=Int.toNat D.1;letI c:=List.take g D.2.1;letI a:=Int.ofNat (List.length D.2.1);letI e:=Int.toNat a-g;if decide (D.1<a)=true then A.ae (0<=D.1/\D.1<=a/\a<=a) (A.ae ((0:Int)<=0/\0<=D.1/\D.1<=a) (A.ae True (A.pure (W.next (IntKind.wrap .i64 (Add.add D.1 (Int.ofNat (if e<=List.length c then e else List.length c))),c++List.take e c++List.drop (Add.add g (List.length (List.take e c))) D.2.1,()))))) else A.bind (A.pure (W.next (D.2.1,()))) λr=>A.pure (W.done r)) (Int.ofNat (if List.length (List.replicate f ((0:Int),(0:Int)))-0<=List.length D.1 then List.length (List.replicate f ((0:Int),(0:Int)))-0 else List.length D.1),[]++d++List.drop (Add.add 0 (List.length d)) (List.replicate f ((0:Int),(0:Int))),())) (W.bB (λ(D:z4'×Unit)=>A.pure D.1))))))))
def V3(x:Option dw×(Int×Int)×Int×Int×Int):A Bool:=
 letI c:=decide (x.2.1.2<=x.2.2.2.2);letI a:=c=true;letI b:=a->a/\True/\True;A.ae (a->a/\Option.isSome x.1=true/\True) (A.ae b (A.ae b (A.ae b (A.ae b (A.ae b (A.ae (a->(a/\a/\a/\True)/\True/\True) (A.ae (a->(a/\a)/\True/\True) (A.ae (a->(a/\True)/\True/\True) (A.ae (True/\(a->a)) (A.pure (c&&decide (Option.getD (Option.map (λx=>x.2) (List.find? (λp=>decide (x.2.1.1=p.1.1)&&(decide (x.2.2.1=p.1.2.1)&&decide (x.2.2.2.1=p.1.2.2))) (Option.getD x.1 ((([],[],0,[]),[],[],[],[],0),[],[])).2.2)) (0:Int) > 0))))))))))))
def aka(x:Int×Int×Int):A Bool:=
 A.pure (decide (x.2.1<=x.1)&&decide (x.1<=x.2.2))
def V4(kB:Int×Int×Int->A Bool)(vG:Int->A Bool)(NS:z1'×(Int->A Bool)->A Bool)(akb:Int×Option bo×Option (Int×Int×Int×Int×z1')->A Bool)(x:(Int×Int×Int×Int×z1')×Option bo):A Bool:=
 letI b:=Option.getD x.2 ([],[],0,[]);A.bind (vG x.1.1) λy=>A.bind (ck (!(!y)) (vG x.1.2.1) false) λbZ=>A.bind (ck (!(!y||!bZ)) (vG x.1.2.2.1) false) λdv=>letI a:=!y||!bZ||!dv;A.bind (ck (!a) (kB (x.1.2.2.2.1,0,IntKind.wrap .i64 (Int.ofNat (List.length b.2.1)-1))) false) λf'=>A.bind (ck (!(a||!f')) (NS (x.1.2.2.2.2,λhA=>akb (hA,some b,some x.1))) false) λmy=>A.pure (a||!f'||!my)
def V5(kB:Int×Int×Int->A Bool)(x:Int):A Bool:=
 A.bind (kB (x,0,99)) λy=>A.pure y
def V6(x:z1'×(Int->A Bool)):A Bool:=
 A.bind (A.loop (λ(D:z1'×(Int->A Bool)×z1'×Int×Int×Unit)=>letI e:=D.2.2;letI a:=e.2.2.1;letI d:=List.getD e.1 (Int.toNat a) 0;letI c:=IntKind.wrap .i64 (a-1);if decide (a<e.2.1)=true then A.ae (0<=a/\a<Int.ofNat (List.length e.1)) (A.bind (D.2.1 d) (λy=>letI b:=(!(!y)&&decide (a > 0))=true;A.ae (b->(b/\b)/\(0<=c/\c<Int.ofNat (List.length D.1))/\True) (if (!y||decide (a > 0)&&decide (d<=List.getD D.1 (Int.toNat c) 0))=true then A.bind (A.bind (A.pure false) (λr=>A.pure (W.done r))) λr=>A.pure (W.done r) else A.pure (W.next (D.1,D.2.1,e.1,e.2.1,IntKind.wrap .i64 (Add.add a 1),()))))) else A.bind (A.pure (W.next ())) λr=>A.pure (W.done r)) (x.1,x.2,x.1,Int.ofNat (List.length x.1),0,())) (W.bB (λ(D:Unit)=>A.pure true))
def V7(kB:Int×Int×Int->A Bool)(x:Int×Option bo×Option (Int×Int×Int×Int×z1')):A Bool:=
 letI b:=(Option.getD x.2.1 ([],[],0,[])).2.1;letI a:=(Option.getD x.2.2 (0,0,0,0,[])).2.2.2.1;A.ae (0<=a/\a<Int.ofNat (List.length b)) (A.bind (kB (x.1,0,IntKind.wrap .i64 (Int.ofNat (List.length (List.getD b (Int.toNat a) []))-1))) (λy=>A.pure y))
def V8(kB:Int×Int×Int->A Bool)(vG:Int->A Bool)(NS:z1'×(Int->A Bool)->A Bool)(DR:Int->A Bool)(x:z1'×(Int×Int)×Int×Int×Int):A Bool:=
 A.bind (kB (Int.ofNat (List.length x.1),1,8)) λy=>A.bind (ck (!(!y)) (NS (x.1,vG)) false) λbZ=>A.bind (ck (!(!y||!bZ)) (vG x.2.1.1) false) λdv=>A.bind (ck (!(!y||!bZ||!dv)) (vG x.2.1.2) false) λf'=>letI a:=!y||!bZ||!dv||!f'||decide (x.2.1.1 > x.2.1.2);A.bind (ck (!a) (vG x.2.2.1) false) λmy=>A.bind (ck (!(a||!my)) (DR x.2.2.2.1) false) λDS=>A.bind (ck (!(a||!my||!DS)) (kB (x.2.2.2.2,0,100000)) false) λNT=>A.pure (a||!my||!DS||!NT)
def V9(kB:Int×Int×Int->A Bool)(x:Int):A Bool:=
 A.bind (kB (x,0,99)) λy=>A.pure y
def V_(kB:Int×Int×Int->A Bool)(DR:Int->A Bool)(x:(Int×Int×Int)×Option bo):A Bool:=
 A.bind (DR x.1.1) λy=>A.bind (ck (!(!y)) (kB (x.1.2.1,0,IntKind.wrap .i64 (Int.ofNat (List.length (Option.getD x.2 ([],[],0,[])).1)-1))) false) λbZ=>A.bind (ck (!(!y||!bZ)) (kB (x.1.2.2,1,10)) false) λdv=>A.pure (!y||!bZ||!dv)
def V'(kB:Int×Int×Int->A Bool)(x:Int):A Bool:=
 A.bind (kB (x,0,10)) λy=>A.pure (!y)
def Wa(x:z1'×Int):A Bool:=
 A.bind (A.loop (λ(D:z1'×Int×Int×Unit)=>letI e:=D.2.2.1;letI j:=decide (e > 0);letI i:=List.getD D.1 (Int.toNat e) 0;letI h:=IntKind.wrap .i64 (e-1);letI d:=Int.ofNat (List.length D.1);letI k:=0<=e/\e<d;letI b:=decide (List.getD D.1 (Int.toNat e) (0:Int)<0);letI f:=(!b)=true;letI a:=b||decide (i > D.2.1);letI g:=(!a)=true;letI c:=(!a&&j)=true;letI l:=c->c/\True/\True;if decide (e<d)=true then A.ae k (A.ae (f->(f/\f)/\k/\True) (A.ae (f->f/\True/\True) (A.ae (f->(f/\f)/\True/\True) (A.ae (True/\(b=false->f)) (A.ae (g->(g/\True)/\True/\True) (A.ae (g->True/\True/\g) (A.ae (c->(c/\c)/\k/\True) (A.ae l (A.ae (c->(c/\True)/\True/\True) (A.ae (c->(c/\c)/\(0<=h/\h<d)/\True) (A.ae l (A.ae (c->(c/\c)/\True/\True) (A.ae (g->(g/\(j=true->c))/\True/\True) (A.ae (True/\(a=false->g)) (if (a||j&&decide (i<=List.getD D.1 (Int.toNat h) 0))=true then A.bind (A.bind (A.pure false) (λr=>A.pure (W.done r))) λr=>A.pure (W.done r) else A.pure (W.next (D.1,D.2.1,IntKind.wrap .i64 (Add.add e 1),()))))))))))))))))) else A.bind (A.pure (W.next ())) λr=>A.pure (W.done r)) (x.1,x.2,0,())) (W.bB (λ(D:Unit)=>A.pure true))
def HD(x2:Option dw×z1'×Int×Nat×(Nat×(List (z1')->Prop)×List (z1')×Bool)×Unit->A (Bool×(Nat×(List (z1')->Prop)×List (z1')×Bool)×Unit))(x:Option dw×Nat×(Nat×(List (z1')->Prop)×List (z1')×Bool)×Unit):A ((Nat×(List (z1')->Prop)×List (z1')×Bool)×Unit):=
 A.bind (x2 (x.1,[],1,x.2.1,x.2.2.1,())) λy=>A.pure (y.2.1,())
def HE(x2:Option dw×z1'×Int×Nat×(Nat×(List (z1')->Prop)×List (z1')×Bool)×Unit->A (Bool×(Nat×(List (z1')->Prop)×List (z1')×Bool)×Unit))(x:Option dw×Nat×(Nat×(List (z1')->Prop)×List (z1')×Bool)×Unit):A ((Nat×(List (z1')->Prop)×List (z1')×Bool)×Unit):=
 A.bind (x2 (x.1,[],0,x.2.1,x.2.2.1,())) λy=>A.pure (y.2.1,())
def NU(HB:Option dw×(Int×Int)×Int×Int×Int->A Bool)(NO:Option dw×z3'×Int×z4'×z1'×Unit->A (Bool×z4'×z1'×Unit))(x:Option dw×z3'×Int×z4'×z1'×Unit):A (Bool×z4'×z1'×Unit):=
 letI k:=(Option.getD x.1 ((([],[],0,[]),[],[],[],[],0),[],[])).2.1;A.bind (A.ae (Option.isSome x.1=true) (A.loop (λ(D:Option ((bo×z1'×List dy×List (z1'×(Int×Int)×Int×Int×Int)×z3'×Int)×z4'×z5')×z3'×Int×z4'×Int×Int×z4'×z1'×Unit)=>letI o:=D.2.1;letI i:=D.2.2;letI c:=i.2.2.2;letI m:=c.2.2.1;letI l:=Int.toNat c.1;letI j:=Option.map (λx=>x.2) (List.find? (λp=>decide (c.1=p.1)) c.2.1);letI g:=0<=c.1/\c.1<Int.ofNat (List.length m);letI f:=(D.1,List.getD i.2.1 l (0,0),List.getD o (Int.toNat i.1) (0,0,0));letI d:=fb c.2.1 c.1 (IntKind.wrap .i64 (Add.add (Option.getD j 0) 1));letI b:=decide (List.getD m l (0:Int)=-1);letI h:=(!b)=true;letI a:=decide (Option.getD j (0:Int) > 0);letI e:=(!a)=true;letI q:=e->e/\True/\True;if decide (c.1<i.2.2.1)=true then A.bind (A.ae (0<=c.1/\c.1<Int.ofNat (List.length i.2.1)) (A.ae (e->(e/\e)/\(0<=i.1/\i.1<Int.ofNat (List.length o))/\True) (A.ae q (A.ae (e->(e/\e/\e/\True)/\(HB f).cq/\True) (A.ae q (A.ae (True/\(a=false->e)) (if (a||!(A.val (HB f) false))=true then A.pure (W.next (D.1,o,i.1,i.2.1,i.2.2.1,c.1,c.2.1,m,())) else A.ae g (A.ae (h->(h/\h)/\g/\True) (if h then A.ae (h/\h/\h/\h/\h/\True) (A.bind (NO (D.1,o,List.getD m l 0,d,m,())) (λy=>if (b||y.1)=true then A.ae (0<=c.1/\c.1<Int.ofNat (List.length y.2.2.1)) (A.bind (A.bind (A.bind (A.pure (true,y.2.1,List.set y.2.2.1 l i.1,())) (λr=>A.pure (W.done r))) (λr=>A.pure (W.done r))) (λr=>A.pure (W.done r))) else A.pure (W.next (D.1,o,i.1,i.2.1,i.2.2.1,c.1,y.2.1,y.2.2.1,())))) else A.ae (True/\(b=false->false=true)) (if (b||false)=true then A.ae g (A.bind (A.bind (A.bind (A.pure (true,d,List.set m l i.1,())) (λr=>A.pure (W.done r))) (λr=>A.pure (W.done r))) (λr=>A.pure (W.done r))) else A.pure (W.next (D.1,o,i.1,i.2.1,i.2.2.1,c.1,d,m,())))))))))))) (W.bB (λ(D:Option ((bo×z1'×List dy×List dN×z3'×Int)×z4'×z5')×z3'×Int×z4'×Int×Int×z4'×z1'×Unit)=>letI n:=D.2.2.2;A.pure (W.next (D.1,D.2.1,D.2.2.1,n.1,n.2.1,IntKind.wrap .i64 (Add.add n.2.2.1 1),n.2.2.2.1,n.2.2.2.2.1,())))) else A.bind (A.pure (W.next (c.2.1,m,()))) λr=>A.pure (W.done r)) (x.1,x.2.1,x.2.2.1,k,Int.ofNat (List.length k),0,x.2.2.2.1,x.2.2.2.2.1,()))) (W.bB (λ(D:z4'×z1'×Unit)=>A.pure (false,D.1,D.2.1,())))
def NV(HA:(z1'×(Int×Int)×Int×Int×Int)×Int×Int×Int×Int×z1'->A Int)(x2:Option dw×z1'×Int×Nat×(Nat×(List (z1')->Prop)×List (z1')×Bool)×Unit->A (Bool×(Nat×(List (z1')->Prop)×List (z1')×Bool)×Unit))(hN:z1'×Int->A Bool)(x:Option dw×z1'×Int×Nat×(Nat×(List (z1')->Prop)×List (z1')×Bool)×Unit):A (Bool×(Nat×(List (z1')->Prop)×List (z1')×Bool)×Unit):=
 letI p:=Option.isSome x.1=true;letI o:=Int.ofNat (List.length x.2.1);letI i:=x.2.2.2.2.1;letI e:=(Option.getD x.1 ((([],[],0,[]),[],[],[],[],0),[],[])).1.2.2;A.ae p (if decide (o=Int.ofNat (List.length e.2.1))=true then A.bind (A.ae (x.2.2.2.1=i.1/\i.2.2.2=false/\(∃ (T:List (z1')),i.2.1 (i.2.2.1++x.2.1::T))) (A.any (λx=>True))) λy=>A.pure (y,(i.1,i.2.1,i.2.2.1++[x.2.1],!y),()) else A.bind (A.ae p (A.loop (λ(D:Option dw×z1'×Int×Nat×Int×List dy×Int×Int×(Nat×(List (z1')->Prop)×List (z1')×Bool)×Unit)=>letI q:=D.2.1;letI l:=D.2.2;letI j:=(Option.getD D.1 ((([],[],0,[]),[],[],[],[],0),[],[])).1.2.2.2.1;letI c:=l.2.2;letI m:=List.take (Int.toNat c.1) q;letI k:=c.2.2.2;letI d:=(List.getD j (Int.toNat c.1) ([],(0,0),0,0,0),List.getD c.2.1 (Int.toNat k.1) (0,0,0,0,[]));letI a:=(q,k.1);if decide (k.1<c.2.2.1)=true then A.bind (A.ae (0<=k.1/\k.1<Int.ofNat (List.length c.2.1)) (A.ae (hN a).cq (A.ae ((!(A.val (hN a) false))=true->(!(A.val (hN a) false))=true/\Option.isSome D.1=true/\True) (A.ae ((!(A.val (hN a) false))=true->(!(A.val (hN a) false))=true/\True/\True) (A.ae ((!(A.val (hN a) false))=true->(!(A.val (hN a) false))=true/\True/\True) (A.ae ((!(A.val (hN a) false))=true->(!(A.val (hN a) false))=true/\True/\True) (A.ae ((!(A.val (hN a) false))=true->((!(A.val (hN a) false))=true/\(!(A.val (hN a) false))=true)/\(0<=c.1/\c.1<Int.ofNat (List.length j))/\True) (A.ae ((!(A.val (hN a) false))=true->(!(A.val (hN a) false))=true/\True/\True) (A.ae ((!(A.val (hN a) false))=true->((!(A.val (hN a) false))=true/\(!(A.val (hN a) false))=true/\True)/\(HA d).cq/\True) (A.ae ((!(A.val (hN a) false))=true->((!(A.val (hN a) false))=true/\True)/\True/\True) (A.ae (True/\(A.val (hN a) false=false->(!(A.val (hN a) false))=true)) (if (A.val (hN a) false||decide (A.val (HA d) (0:Int)=0))=true then A.pure (W.next (D.1,q,l.1,l.2.1,c.1,c.2.1,c.2.2.1,k.1,k.2.1,())) else A.ae ((0:Int)<=0/\0<=c.1/\c.1=c.1/\c.1<=Int.ofNat (List.length q)) (A.ae (0<Add.add 0 1/\b6 (Add.add (List.length m) (Add.add 0 1))) (A.bind (x2 (D.1,m++[k.1],l.1,l.2.1,k.2.1,())) (λy=>if (!y.1)=true then A.bind (A.bind (A.bind (A.pure (false,y.2.1,())) (λr=>A.pure (W.done r))) (λr=>A.pure (W.done r))) λr=>A.pure (W.done r) else A.pure (W.next (D.1,q,l.1,l.2.1,c.1,c.2.1,c.2.2.1,k.1,y.2.1,()))))))))))))))))) (W.bB (λ(D:Option dw×z1'×Int×Nat×Int×List dy×Int×Int×(Nat×(List (z1')->Prop)×List (z1')×Bool)×Unit)=>letI n:=D.2.2.2.2;A.pure (W.next (D.1,D.2.1,D.2.2.1,D.2.2.2.1,n.1,n.2.1,n.2.2.1,IntKind.wrap .i64 (Add.add n.2.2.2.1 1),n.2.2.2.2.1,())))) else A.bind (A.pure (W.next (D.1,q,l.1,l.2.1,c.1,k.2.1,()))) λr=>A.pure (W.done r)) (x.1,x.2.1,x.2.2.1,x.2.2.2.1,o,e.1,Int.ofNat (List.length e.1),0,i,()))) (W.bB (λ(D:Option dw×z1'×Int×Nat×Int×(Nat×(List (z1')->Prop)×List (z1')×Bool)×Unit)=>letI s:=D.2.2;letI h:=s.2.2;letI g:=List.take (Int.toNat h.1) D.2.1;letI f:=decide (s.1=0);letI b:=(!f)=true;A.ae (b->(b/\True/\b/\b)/\((0:Int)<=0/\0<=h.1/\h.1=h.1/\h.1<=Int.ofNat (List.length D.2.1))/\True) (if b then A.ae (b/\b) (A.ae (0<Add.add 0 1/\b6 (Add.add (List.length g) (Add.add 0 1))) (if b then A.ae (b/\b/\b/\True) (A.bind (x2 (D.1,g++[-1],s.1,s.2.1,h.2.1,())) (λy=>A.pure (f||y.1,y.2.1,()))) else A.ae (True/\(f=false->false=true)) (A.pure (f||false,h.2.1,())))) else if b then A.ae (b/\false=true/\b/\b/\True) (A.bind (x2 (D.1,g++[-1],s.1,s.2.1,h.2.1,())) (λy=>A.pure (f||y.1,y.2.1,()))) else A.ae (True/\(f=false->false=true)) (A.pure (f||false,h.2.1,()))))))
def akc(x1:Int×Int->A (Int×Int))(x:z1'×Int×Unit):A (z1'×Unit):=
 A.bind (if decide (x.2.1<0)=true then A.ae False (A.ae False (A.pure (W.next (x.1,x.2.1,())))) else A.pure (W.next (x.1,x.2.1,()))) (W.bB (λ(D:z1'×Int×Unit)=>A.bind (x1 (IntKind.wrap .u64 (Int.ofNat (List.length D.1)),IntKind.wrap .u64 D.2.1)) λy=>A.bind (if (decide (y.1 > 0)||decide (y.2 > 9223372036854775807))=true then A.ae False (A.ae False (A.pure (W.next (D.1,y.2,())))) else A.pure (W.next (D.1,y.2,()))) (W.bB (λ(D:z1'×Int×Unit)=>letI b:=IntKind.wrap .i64 D.2.1;letI f:=Int.toNat b;letI e:=List.take (List.length (List.replicate f (0:Int))-0) D.1;A.ae (0<=b/\b=b/\b6 f) (A.ae True (A.bind (A.loop (λ(D:Int×z1'×Unit)=>letI g:=Int.toNat D.1;letI c:=List.take g D.2.1;letI a:=Int.ofNat (List.length D.2.1);letI d:=Int.toNat a-g;if decide (D.1<a)=true then A.ae (0<=D.1/\D.1<=a/\a<=a) (A.ae ((0:Int)<=0/\0<=D.1/\D.1<=a) (A.ae True (A.pure (W.next (IntKind.wrap .i64 (Add.add D.1 (Int.ofNat (if d<=List.length c then d else List.length c))),c++List.take d c++List.drop (Add.add g (List.length (List.take d c))) D.2.1,()))))) else A.bind (A.pure (W.next (D.2.1,()))) λr=>A.pure (W.done r)) (Int.ofNat (if List.length (List.replicate f (0:Int))-0<=List.length D.1 then List.length (List.replicate f (0:Int))-0 else List.length D.1),[]++e++List.drop (Add.add 0 (List.length e)) (List.replicate f (0:Int)),())) (W.bB (λ(D:z1'×Unit)=>A.pure (D.1,())))))))))
end Go.Fer
namespace Go.Fer.H
open A (W)
set_option maxRecDepth 100000
abbrev ba:Type:=Int×Int×Int×Int×Int×Int
abbrev pz:Type:=Int×Int×Int×Int×Int×Int×Int
abbrev a6:Type:=z4'×List ba×z1'×z4'×pz
abbrev bA:Type:=ba×Int
abbrev dQ:Type:=z1'×List (List bA)
abbrev d_:Type:=a6×List ba×List (Option dQ)
abbrev hp:Type:=z4'×List ba×z1'×z4'×Int×Int×Int×Int×Int×Int×Int×List ba×List (Option dQ)×Unit
abbrev fb(l:z4')(a b:Int):z4':=lJ (k:=.int .i64) (v:=.int .i64) l a b
abbrev hq:ad:=.st (.az (.int .i64) (.az (.int .i64) (.az (.int .i64) (.az (.int .i64) (.az (.int .i64) (.int .i64))))))
abbrev kT(l:List (Int×ba))(a:Int)(b:ba):List (Int×ba):=lJ (k:=.int .i64) (v:=hq) l a b
abbrev akd:List UInt8:=0::1::(List.replicate 2 2++(List.replicate 4 3++(List.replicate 8 4++(List.replicate 16 5++(List.replicate 32 6++(List.replicate 64 7++List.replicate 128 8))))))
abbrev _root_.Prod.dc{fK fL fM fN fO fE fF:Type}(x:fK×fL×fM×fN×fO×fE×fF):fE:=x.2.2.2.2.2.1
abbrev _root_.Prod.fq{fK fL fM fN fO fE fF fV:Type}(x:fK×fL×fM×fN×fO×fE×fF×fV):fF:=x.2.2.2.2.2.2.1
abbrev _root_.Prod.gO{fK fL fM fN fO fE fF fV gu:Type}(x:fK×fL×fM×fN×fO×fE×fF×fV×gu):fV:=x.2.2.2.2.2.2.2.1
abbrev _root_.Prod.ir{fK fL fM fN fO fE fF fV gu gP:Type}(x:fK×fL×fM×fN×fO×fE×fF×fV×gu×gP):gu:=x.2.2.2.2.2.2.2.2.1
abbrev _root_.Prod.jR{fK fL fM fN fO fE fF fV gu gP hr:Type}(x:fK×fL×fM×fN×fO×fE×fF×fV×gu×gP×hr):gP:=x.2.2.2.2.2.2.2.2.2.1
abbrev _root_.Prod.kU{fK fL fM fN fO fE fF fV gu gP hr hO:Type}(x:fK×fL×fM×fN×fO×fE×fF×fV×gu×gP×hr×hO):hr:=x.2.2.2.2.2.2.2.2.2.2.1
abbrev _root_.Prod.hP{fK fL fM fN fO fE fF fV gu gP hr hO ib:Type}(x:fK×fL×fM×fN×fO×fE×fF×fV×gu×gP×hr×hO×ib):hO:=x.2.2.2.2.2.2.2.2.2.2.2.1
abbrev _root_.Prod.nb{fK fL fM fN fO fE fF fV gu gP hr hO ib iJ:Type}(x:fK×fL×fM×fN×fO×fE×fF×fV×gu×gP×hr×hO×ib×iJ):ib:=x.2.2.2.2.2.2.2.2.2.2.2.2.1
abbrev _root_.Prod.pA{fK fL fM fN fO fE fF fV gu gP hr hO ib iJ jt:Type}(x:fK×fL×fM×fN×fO×fE×fF×fV×gu×gP×hr×hO×ib×iJ×jt):iJ:=x.2.2.2.2.2.2.2.2.2.2.2.2.2.1
abbrev _root_.Prod.sI{fK fL fM fN fO fE fF fV gu gP hr hO ib iJ jt kh:Type}(x:fK×fL×fM×fN×fO×fE×fF×fV×gu×gP×hr×hO×ib×iJ×jt×kh):jt:=x.2.2.2.2.2.2.2.2.2.2.2.2.2.2.1
abbrev _root_.Prod.x3{fK fL fM fN fO fE fF fV gu gP hr hO ib iJ jt kh kV:Type}(x:fK×fL×fM×fN×fO×fE×fF×fV×gu×gP×hr×hO×ib×iJ×jt×kh×kV):kh:=x.2.2.2.2.2.2.2.2.2.2.2.2.2.2.2.1
abbrev _root_.Prod.NW{fK fL fM fN fO fE fF fV gu gP hr hO ib iJ jt kh kV l1:Type}(x:fK×fL×fM×fN×fO×fE×fF×fV×gu×gP×hr×hO×ib×iJ×jt×kh×kV×l1):kV:=x.2.2.2.2.2.2.2.2.2.2.2.2.2.2.2.2.1
abbrev _root_.Prod.NX{fK fL fM fN fO fE fF fV gu gP hr hO ib iJ jt kh kV l1 nc:Type}(x:fK×fL×fM×fN×fO×fE×fF×fV×gu×gP×hr×hO×ib×iJ×jt×kh×kV×l1×nc):l1:=x.2.2.2.2.2.2.2.2.2.2.2.2.2.2.2.2.2.1
abbrev _root_.Prod.NY{fK fL fM fN fO fE fF fV gu gP hr hO ib iJ jt kh kV l1 nc oO:Type}(x:fK×fL×fM×fN×fO×fE×fF×fV×gu×gP×hr×hO×ib×iJ×jt×kh×kV×l1×nc×oO):nc:=x.2.2.2.2.2.2.2.2.2.2.2.2.2.2.2.2.2.2.1
abbrev _root_.Prod.NZ{fK fL fM fN fO fE fF fV gu gP hr hO ib iJ jt kh kV l1 nc oO qv:Type}(x:fK×fL×fM×fN×fO×fE×fF×fV×gu×gP×hr×hO×ib×iJ×jt×kh×kV×l1×nc×oO×qv):oO:=x.2.2.2.2.2.2.2.2.2.2.2.2.2.2.2.2.2.2.2.1
abbrev _root_.Prod.HF{fK fL fM fN fO fE fF fV gu gP hr hO ib iJ jt kh kV l1 nc oO qv sJ:Type}(x:fK×fL×fM×fN×fO×fE×fF×fV×gu×gP×hr×hO×ib×iJ×jt×kh×kV×l1×nc×oO×qv×sJ):qv:=x.2.2.2.2.2.2.2.2.2.2.2.2.2.2.2.2.2.2.2.2.1
abbrev _root_.Prod.ake{fK fL fM fN fO fE fF fV gu gP hr hO ib iJ jt kh kV l1 nc oO qv sJ vH:Type}(x:fK×fL×fM×fN×fO×fE×fF×fV×gu×gP×hr×hO×ib×iJ×jt×kh×kV×l1×nc×oO×qv×sJ×vH):sJ:=x.2.2.2.2.2.2.2.2.2.2.2.2.2.2.2.2.2.2.2.2.2.1
abbrev _root_.Prod.N0{fK fL fM fN fO fE fF fV gu gP hr hO ib iJ jt kh kV l1 nc oO qv sJ vH As:Type}(x:fK×fL×fM×fN×fO×fE×fF×fV×gu×gP×hr×hO×ib×iJ×jt×kh×kV×l1×nc×oO×qv×sJ×vH×As):vH:=x.2.2.2.2.2.2.2.2.2.2.2.2.2.2.2.2.2.2.2.2.2.2.1
abbrev _root_.Prod.rz{fK fL fM fN fO fE fF fV gu gP hr hO ib iJ jt kh kV l1 nc oO qv sJ vH As HG:Type}(x:fK×fL×fM×fN×fO×fE×fF×fV×gu×gP×hr×hO×ib×iJ×jt×kh×kV×l1×nc×oO×qv×sJ×vH×As×HG):As:=x.2.2.2.2.2.2.2.2.2.2.2.2.2.2.2.2.2.2.2.2.2.2.2.1
abbrev _root_.Prod.DT{fK fL fM fN fO fE fF fV gu gP hr hO ib iJ jt kh kV l1 nc oO qv sJ vH As HG akf:Type}(x:fK×fL×fM×fN×fO×fE×fF×fV×gu×gP×hr×hO×ib×iJ×jt×kh×kV×l1×nc×oO×qv×sJ×vH×As×HG×akf):HG:=x.2.2.2.2.2.2.2.2.2.2.2.2.2.2.2.2.2.2.2.2.2.2.2.2.1
def Wb(uo:a6×(Option d_->A Bool)->A (Option d_×Int))(DU:Option dQ×Int×Int->A (bA×Bool))(DV:(z1'->Prop)->A (z1'))(akg:z4'->A (z1'->Prop))(akh:Option d_×Option Int×Option Int->A Bool)(x:a6×Int×Int):A (z1'×Int):=
 A.bind (uo (x.1,λhA=>akh (hA,some x.2.1,some x.2.2))) λy=>letI a:=(Option.getD y.1 (([],[],[],[],0,0,0,0,0,0,0),[],[])).2.2;if decide (y.2≠0)=true then A.pure ([],y.2) else A.bind (A.ae (Option.isSome y.1=true) (A.loop (λ(D:List (Option dQ)×Int×Int×Int×Int×z4'×Unit)=>letI b:=D.2.2;if decide (b.1<D.2.1)=true then A.bind (A.ae (0<=b.1/\b.1<Int.ofNat (List.length D.1)) (A.bind (DU (List.getD D.1 (Int.toNat b.1) none,b.2.1,b.2.2.1)) (λy=>if y.2=true then A.pure (W.next (D.1,D.2.1,b.1,b.2.1,b.2.2.1,fb D.dc y.1.1.2.2.2.2.2 (IntKind.wrap .i64 (Add.add (Option.getD (Option.map (λx=>x.2) (List.find? (λp=>decide (y.1.1.2.2.2.2.2=p.1)) D.dc)) 0) 1)),())) else A.pure (W.next (D.1,D.2.1,b.1,b.2.1,b.2.2.1,fb D.dc (-1) (IntKind.wrap .i64 (Add.add (Option.getD (Option.map (λx=>x.2) (List.find? (λp=>decide (-1=p.1)) D.dc)) 0) 1)),()))))) (W.bB (λ(D:List (Option dQ)×Int×Int×Int×Int×z4'×Unit)=>A.pure (W.next (D.1,D.2.1,IntKind.wrap .i64 (Add.add D.2.2.1 1),D.2.2.2.1,D.2.2.2.2.1,D.dc,())))) else A.bind (A.pure (W.next (D.dc,()))) λr=>A.pure (W.done r)) (a,Int.ofNat (List.length a),0,x.2.1,x.2.2,[],()))) (W.bB (λ(D:z4'×Unit)=>A.bind (akg D.1) λy=>A.bind (DV y) λy=>A.pure (y,0)))
def Wc(N1:a6×Int×(Int->A Int)->A ((Int×Int)×Int))(aki:Int×Option a6->A Int)(x:a6×Int):A ((Int×Int)×Int):=
 A.bind (N1 (x.1,x.2,λhA=>aki (hA,some x.1))) λy=>A.pure y
def Wd(N1:a6×Int×(Int->A Int)->A ((Int×Int)×Int))(akj:Int->A Int)(x:a6×Int):A ((Int×Int)×Int):=
 A.bind (N1 (x.1,x.2,akj)) λy=>A.pure y
def We(uo:a6×(Option d_->A Bool)->A (Option d_×Int))(DW:Option d_×(Option dQ->A (Int×Bool))->A ((Int×Int)×Bool))(akk:Option d_×Option Int->A Bool)(akl:Option dQ×Option Int×Option a6->A (Int×Bool))(x:a6×Int):A ((Int×Int)×Int):=
 A.bind (uo (x.1,λhA=>akk (hA,some x.2))) λy=>if decide (y.2≠0)=true then A.pure ((0,0),y.2) else A.bind (DW (y.1,λhA=>akl (hA,some x.2,some x.1))) λy=>A.pure (y.1,0)
def Wf(uo:a6×(Option d_->A Bool)->A (Option d_×Int))(DW:Option d_×(Option dQ->A (Int×Bool))->A ((Int×Int)×Bool))(akm:Option d_×Option Int->A Bool)(akn:Option dQ×Option (Option d_)×Option Int×Option a6->A (Int×Bool))(x:a6×Int):A ((Int×Int)×Int):=
 A.bind (uo (x.1,λhA=>akm (hA,some x.2))) λy=>if decide (y.2≠0)=true then A.pure ((0,0),y.2) else A.bind (DW (y.1,λhA=>akn (hA,some y.1,some x.2,some x.1))) λy=>A.pure (y.1,0)
def Wg(ako:a6->A Bool)(N2:List ba->A (List ba×Bool))(x:a6):A Int:=
 A.bind (ako x) λy=>if (!y)=true then A.pure 90 else A.bind (N2 x.2.1) λy=>if (!y.2)=true then A.pure 91 else A.pure 0
def Wh(akp:a6->A Bool)(Wi:ba×Int×Int×Int×Int×Int×Int->A Bool)(x:a6):A Int:=
 A.bind (akp x) λy=>if (!y)=true then A.pure 90 else A.bind (A.loop (λ(D:Int×a6×Unit)=>if decide (D.1<Int.ofNat (List.length D.2.1.2.1))=true then A.bind (A.loop (λ(D:Int×Int×a6×Unit)=>letI c:=D.2.2.1;letI b:=Int.ofNat (List.length c.2.1);letI a:=(List.getD c.2.1 (Int.toNat D.2.1) (0,0,0,0,0,0),List.getD c.2.1 (Int.toNat D.1) (0,0,0,0,0,0));if decide (D.2.1<D.1)=true then A.ae (0<=D.2.1/\D.2.1<b) (A.ae (0<=D.1/\D.1<b) (A.ae (Wi a).cq (if A.val (Wi a) false=true then A.bind (A.bind (A.bind (A.bind (A.pure 91) (λr=>A.pure (W.done r))) (λr=>A.pure (W.done r))) (λr=>A.pure (W.done r))) λr=>A.pure (W.done r) else A.pure (W.next (D.1,IntKind.wrap .i64 (Add.add D.2.1 1),c,()))))) else A.bind (A.pure (W.next (D.1,c,()))) λr=>A.pure (W.done r)) (D.1,0,D.2.1,())) (W.bB (λ(D:Int×a6×Unit)=>A.pure (W.next (IntKind.wrap .i64 (Add.add D.1 1),D.2.1,())))) else A.bind (A.pure (W.next ())) λr=>A.pure (W.done r)) (0,x,())) (W.bB (λ(D:Unit)=>A.pure 0))
def Wj(uo:a6×(Option d_->A Bool)->A (Option d_×Int))(DU:Option dQ×Int×Int->A (bA×Bool))(Au:a6×Int×Int->A Int)(akq:Option d_×Option Int->A Bool)(x:a6×Int):A (z1'×z1'×Int):=
 A.bind (uo (x.1,λhA=>akq (hA,some x.2))) λy=>if decide (y.2≠0)=true then A.pure ([],[],y.2) else A.bind (A.loop (λ(D:Option d_×Int×a6×Int×z1'×z1'×Unit)=>letI b:=(Option.getD D.1 (([],[],[],[],0,0,0,0,0,0,0),[],[])).2.2;if decide (D.2.1<10)=true then A.bind (A.bind (A.ae (Option.isSome D.1=true) (A.loop (λ(D:Option d_×Int×Int×Int×List (Option dQ)×Int×Int×a6×Int×z1'×z1'×Unit)=>letI d:=D.2.2.2;if decide (D.fq<D.dc)=true then A.bind (A.ae (0<=D.fq/\D.fq<Int.ofNat (List.length d.2.1)) (A.bind (DU (List.getD d.2.1 (Int.toNat D.fq) none,D.2.1,D.ir)) (λy=>letI a:=y.2=true;letI c:=a->a/\True/\True;A.ae c (A.ae (a->(a/\a/\a/\True)/\(Au (D.gO,y.1.2,D.ir)).cq/\True) (A.ae c (A.ae c (A.ae (a->(a/\a)/\True/\True) (A.ae (True/\(a->a)) (if (y.2&&decide (A.val (Au (D.gO,y.1.2,D.ir)) 0>=D.gO.ir))=true then A.pure (W.next (D.1,D.2.1,IntKind.wrap .i64 (Add.add D.2.2.1 1),d.1,d.2.1,D.dc,D.fq,D.gO,D.ir,D.jR,D.kU,())) else A.pure (W.next (D.1,D.2.1,D.2.2.1,d.1,d.2.1,D.dc,D.fq,D.gO,D.ir,D.jR,D.kU,()))))))))))) (W.bB (λ(D:Option d_×Int×Int×Int×List (Option dQ)×Int×Int×a6×Int×z1'×z1'×Unit)=>A.pure (W.next (D.1,D.2.1,D.2.2.1,D.2.2.2.1,D.2.2.2.2.1,D.dc,IntKind.wrap .i64 (Add.add D.fq 1),D.gO,D.ir,D.jR,D.kU,())))) else A.bind (A.pure (W.next (D.1,D.2.1,D.2.2.1,d.1,D.gO,D.ir,D.jR,D.kU,()))) λr=>A.pure (W.done r)) (D.1,D.2.1,0,D.2.1,b,Int.ofNat (List.length b),0,D.2.2.1,D.2.2.2.1,D.2.2.2.2.1,D.dc,()))) (W.bB (λ(D:Option d_×Int×Int×Int×a6×Int×z1'×z1'×Unit)=>letI e:=D.2.2;A.bind (if decide (e.1 > 0)=true then A.ae (b6 (Add.add (List.length D.gO) (Add.add 0 1))) (A.pure (W.next (D.1,D.2.1,e.1,e.2.1,e.2.2.1,D.dc,D.fq,D.gO++[D.2.1],()))) else A.pure (W.next (D.1,D.2.1,e.1,e.2.1,e.2.2.1,D.dc,D.fq,D.gO,()))) (W.bB (λ(D:Option d_×Int×Int×Int×a6×Int×z1'×z1'×Unit)=>letI f:=D.2.2.2;A.ae (Option.isSome D.1=true) (if decide (D.2.2.1=Int.ofNat (List.length (Option.getD D.1 (([],[],[],[],0,0,0,0,0,0,0),[],[])).2.2))=true then A.ae (b6 (Add.add (List.length D.fq) (Add.add 0 1))) (A.pure (W.next (D.1,f.1,f.2.1,D.dc,D.fq++[D.2.1],D.gO,()))) else A.pure (W.next (D.1,f.1,f.2.1,D.dc,D.fq,D.gO,())))))))) (W.bB (λ(D:Option d_×Int×a6×Int×z1'×z1'×Unit)=>A.pure (W.next (D.1,IntKind.wrap .i64 (Add.add D.2.1 1),D.2.2.1,D.2.2.2.1,D.2.2.2.2.1,D.dc,())))) else A.bind (A.pure (W.next (D.2.2.2.2.1,D.dc,()))) λr=>A.pure (W.done r)) (y.1,0,x.1,x.2,[],[],())) (W.bB (λ(D:z1'×z1'×Unit)=>A.pure (D.1,D.2.1,0)))
def Wk(Av:a6->A Int)(akr:List ba×Unit->A (Bool×List ba×Unit))(aks:(Int×Int×Int×Int×Int×Int->A Bool)×List ba×Unit->A ((Nat×Nat)×List ba×Unit))(N3:z1'×hp->A (hp))(akt:ba×Option a6->A Bool)(x:a6×(Option d_->A Bool)):A (Option d_×Int):=
 A.bind (Av x.1) λy=>if decide (y≠0)=true then A.pure (none,y) else A.bind (akr (x.1.2.1,())) λy=>A.ae True (A.ae True (A.bind (aks (λhA=>akt (hA,some x.1),y.2.1,())) (λy=>A.ae True (A.bind (A.bind (x.2 (some (x.1,List.drop y.1.1 (List.take y.1.2 y.2.1),[]))) (λbZ=>if (!bZ)=true then A.bind (A.pure (none,1)) λr=>A.pure (W.done r) else A.pure (W.next (x.1.1,x.1.2.1,x.1.2.2.1,x.1.2.2.2.1,x.1.2.2.2.2.1,x.1.dc,x.1.fq,x.1.gO,x.1.ir,x.1.jR,x.1.2.2.2.2.2.2.2.2.2.2,y.1,y.2.1,[],())))) (W.bB (λ(D:z4'×List ba×z1'×z4'×Int×Int×Int×Int×Int×Int×Int×(Nat×Nat)×List ba×List (Option dQ)×Unit)=>A.bind (N3 ([],D.1,D.2.1,D.2.2.1,D.2.2.2.1,D.2.2.2.2.1,D.dc,D.fq,D.gO,D.ir,D.jR,D.kU,List.drop D.hP.1 (List.take D.hP.2 D.nb),D.pA,())) λy=>A.ae True (if decide (Int.ofNat (List.length y.nb)=0)=true then A.pure (none,3) else A.pure (some ((y.1,y.2.1,y.2.2.1,y.2.2.2.1,y.2.2.2.2.1,y.dc,y.fq,y.gO,y.ir,y.jR,y.kU),y.hP,y.nb),0))))))))
def Wl(ju:Int×Int×Int->A Bool)(DX:Int->A Bool)(x:Option d_×Option Int×Option Int):A Bool:=
 A.bind (ju (Option.getD x.2.1 0,0,9)) λy=>A.bind (ck y (DX (Option.getD x.2.2 0)) false) λbZ=>A.pure (y&&bZ)
def aku(x:Int×Int×Int):A Bool:=
 A.pure (decide (x.2.1<=x.1)&&decide (x.1<=x.2.2))
def Wm(ju:Int×Int×Int->A Bool)(x:Int):A Bool:=
 A.bind (ju (x,0,9999)) λy=>A.pure y
def Wn(x:Option dQ×Int×Int):A (bA×Bool):=
 letI b:=List.getD (Option.getD x.1 ([],[[],[],[],[],[],[],[],[],[],[]])).2 (Int.toNat x.2.1) [];A.bind (A.ae (Option.isSome x.1=true) (A.ae (0<=x.2.1/\x.2.1<Int.ofNat 10) (A.loop (λ(D:Int×Bool×List bA×Int×Int×bA×bA×Unit)=>letI d:=D.2.2;letI c:=d.2.2.1;letI a:=List.getD d.1 (Int.toNat c) ((0,0,0,0,0,0),0);if decide (c<d.2.1)=true then A.bind (A.ae (0<=c/\c<Int.ofNat (List.length d.1)) (if decide (a.2<=D.1)=true then A.pure (W.next (D.1,decide (a.1.2.2.2.1=1),d.1,d.2.1,c,D.dc,a,())) else A.pure (W.next (D.1,D.2.1,d.1,d.2.1,c,D.dc,D.fq,())))) (W.bB (λ(D:Int×Bool×List bA×Int×Int×bA×bA×Unit)=>A.pure (W.next (D.1,D.2.1,D.2.2.1,D.2.2.2.1,IntKind.wrap .i64 (Add.add D.2.2.2.2.1 1),D.dc,D.fq,())))) else A.bind (A.pure (W.next (D.2.1,D.dc,D.fq,()))) λr=>A.pure (W.done r)) (x.2.2,false,b,Int.ofNat (List.length b),0,((0,0,0,0,0,0),0),((0,0,0,0,0,0),0),())))) (W.bB (λ(D:Bool×bA×bA×Unit)=>A.pure (D.2.2.1,D.1)))
def Wo(N4:z1'×Unit->A (z1'×Unit))(akv:(z1'->Prop)×Unit->A (z1'×Unit))(x:z1'->Prop):A (z1'):=
 A.bind (akv (x,())) λy=>A.bind (N4 (y.1,())) λy=>A.pure y.1
def akw(akx:Option (z4')->z1'->Prop)(x:z4'):A (z1'->Prop):=
 A.pure (akx (some x))
def Wp(uo:a6×(Option d_->A Bool)->A (Option d_×Int))(DW:Option d_×(Option dQ->A (Int×Bool))->A ((Int×Int)×Bool))(aky:Option d_×Option Int->A Bool)(akz:Option dQ×Option (Option d_)×Option Int×Option (Int->A Int)->A (Int×Bool))(x:a6×Int×(Int->A Int)):A ((Int×Int)×Int):=
 A.bind (uo (x.1,λhA=>aky (hA,some x.2.1))) λy=>if decide (y.2≠0)=true then A.pure ((0,0),y.2) else A.bind (DW (y.1,λhA=>akz (hA,some y.1,some x.2.1,some x.2.2))) λy=>if (!y.2)=true then A.pure ((0,0),3) else A.pure (y.1,0)
def Wq(HH:pz×Int->A Int)(x:Int×Option a6):A Int:=
 A.bind (HH ((Option.getD x.2 ([],[],[],[],0,0,0,0,0,0,0)).2.2.2.2,x.1)) λy=>A.pure y
def Wr(x:pz×Int):A Int:=
 letI c:=x.1.2;letI b:=IntKind.wrap .i64 (x.2-x.1.1);letI a:=IntKind.wrap .i64 (c.2.1*IntKind.wrap .i64 (Int.tdiv (IntKind.wrap .i64 (IntKind.wrap .i64 (Add.add (if b > 0 then b else 0) c.1)-1)) c.1));if decide (x.2>=c.2.2.2.1)=true then A.pure x.1.dc else A.ae (c.1≠0) (A.pure (if a<c.2.2.1 then a else c.2.2.1))
def akA(x:Int):A Int:=
 A.pure x
def Ws(DX:Int->A Bool)(x:Option d_×Option Int):A Bool:=
 A.bind (DX (Option.getD x.2 0)) λy=>A.pure y
def Wt(x:Option d_×(Option dQ->A (Int×Bool))):A ((Int×Int)×Bool):=
 letI b:=(Option.getD x.1 (([],[],[],[],0,0,0,0,0,0,0),[],[])).2.2;A.bind (A.ae (Option.isSome x.1=true) (A.loop (λ(D:(Option dQ->A (Int×Bool))×Bool×List (Option dQ)×Int×Int×(Int×Int)×Unit)=>letI c:=D.2.2;letI a:=c.2.2.1;if decide (a<c.2.1)=true then A.bind (A.ae (0<=a/\a<Int.ofNat (List.length c.1)) (A.bind (D.1 (List.getD c.1 (Int.toNat a) none)) (λy=>if (!y.2)=true then A.pure (W.next (D.1,D.2.1,c.1,c.2.1,a,D.dc,())) else if (!D.2.1)=true then A.pure (W.next (D.1,true,c.1,c.2.1,a,(y.1,y.1),())) else A.pure (W.next (D.1,D.2.1,c.1,c.2.1,a,(if y.1<D.dc.1 then y.1 else D.dc.1,if y.1 > D.dc.2 then y.1 else D.dc.2),()))))) (W.bB (λ(D:(Option dQ->A (Int×Bool))×Bool×List (Option dQ)×Int×Int×(Int×Int)×Unit)=>A.pure (W.next (D.1,D.2.1,D.2.2.1,D.2.2.2.1,IntKind.wrap .i64 (Add.add D.2.2.2.2.1 1),D.dc,())))) else A.bind (A.pure (W.next (D.2.1,D.dc,()))) λr=>A.pure (W.done r)) (x.2,false,b,Int.ofNat (List.length b),0,(0,0),()))) (W.bB (λ(D:Bool×(Int×Int)×Unit)=>A.pure (D.2.1,D.1)))
def Wu(DU:Option dQ×Int×Int->A (bA×Bool))(x:Option dQ×Option Int×Option a6):A (Int×Bool):=
 A.bind (A.loop (λ(D:Option dQ×Int×a6×Int×Int×Unit)=>letI a:=D.2.2.2;if decide (a.2.1<10)=true then A.bind (A.bind (DU (D.1,a.2.1,D.2.1)) (λy=>if y.2=true then A.pure (W.next (D.1,D.2.1,D.2.2.1,IntKind.wrap .i64 (Add.add a.1 D.2.2.1.2.2.2.2.2.2.2.2.2.2),a.2.1,())) else A.pure (W.next (D.1,D.2.1,D.2.2.1,a.1,a.2.1,())))) (W.bB (λ(D:Option dQ×Int×a6×Int×Int×Unit)=>A.pure (W.next (D.1,D.2.1,D.2.2.1,D.2.2.2.1,IntKind.wrap .i64 (Add.add D.2.2.2.2.1 1),())))) else A.bind (A.pure (W.next (a.1,()))) λr=>A.pure (W.done r)) (x.1,Option.getD x.2.1 0,Option.getD x.2.2 ([],[],[],[],0,0,0,0,0,0,0),0,0,())) (W.bB (λ(D:Int×Unit)=>A.pure (D.1,true)))
def Wv(Aw:Int->A Bool)(x:Option d_×Option Int):A Bool:=
 A.bind (Aw (Option.getD x.2 0)) λy=>A.pure y
def Ww(ju:Int×Int×Int->A Bool)(x:Int):A Bool:=
 A.bind (ju (x,0,99)) λy=>A.pure y
def Wx(HH:pz×Int->A Int)(N5:Option d_×Option dQ->A (List bA->Prop))(x:Option dQ×Option (Option d_)×Option Int×Option a6):A (Int×Bool):=
 A.bind (N5 (Option.getD x.2.1 none,x.1)) λy=>A.bind (A.any y) λL=>A.bind (jM (λ(D:Int×a6×Int×Unit) (y:ba×Int)=>letI a:=(D.2.1.2.2.2.2,y.2);A.bind (if decide (y.1.2.2.2.2.2=D.1)=true then A.ae (HH a).cq (A.pure (dj.normal,IntKind.wrap .i64 (Add.add D.2.2.1 (A.val (HH a) 0)),())) else A.pure (dj.normal,D.2.2.1,())) λp=>A.pure (p.1,D.1,D.2.1,p.2.1,())) L (Option.getD x.2.2.1 0,Option.getD x.2.2.2 ([],[],[],[],0,0,0,0,0,0,0),0,())) λp=>so (A.pure (p.2.2.2.1,true)) (λid=>if id=0 then A.pure (p.2.2.2.1,true) else A.fail) A.fail p.1
def akB(akC:Option (Option dQ)×Option (Option d_)->List bA->Prop)(x:Option d_×Option dQ):A (List bA->Prop):=
 A.pure (akC (some x.2,some x.1))
def Wy(ju:Int×Int×Int->A Bool)(N6:List ba×(Int×Int×Int×Int×Int×Int->A Bool)->A Bool)(akD:Int×Int×Int×Int×Int×Int×Int->A Bool)(NP:z1'×(Int->A Bool)->A Bool)(akE:ba×Option a6->A Bool)(akF:Int->A Bool)(x:a6):A Bool:=
 letI k:=Int.ofNat (List.length x.1);letI d:=decide (k > 3)||decide (Int.ofNat (List.length x.2.1) > 12)||decide (Int.ofNat (List.length x.2.2.1) > 12)||decide (Int.ofNat (List.length x.2.2.2.1) > 4);A.bind (ck (!d) (akD x.2.2.2.2) false) λy=>if (d||!y)=true then A.pure false else A.bind (A.loop (λ(D:z4'×Int×Int×a6×Unit)=>letI l:=D.2.2.1;letI e:=List.getD D.1 (Int.toNat l) (0,0);if decide (l<D.2.1)=true then A.ae (0<=l/\l<Int.ofNat (List.length D.1)) (A.bind (ju (e.1,-30,e.2)) (λy=>if (!y||decide (e.2 > 30))=true then A.bind (A.bind (A.pure false) (λr=>A.pure (W.done r))) λr=>A.pure (W.done r) else A.pure (W.next (D.1,D.2.1,IntKind.wrap .i64 (Add.add l 1),D.2.2.2.1,())))) else A.bind (A.pure (W.next (D.2.2.2.1,()))) λr=>A.pure (W.done r)) (x.1,k,0,x,())) (W.bB (λ(D:a6×Unit)=>A.bind (A.loop (λ(D:z4'×Int×Int×a6×Unit)=>letI m:=D.2.2.2.1;letI f:=D.2.2.1;letI j:=decide (f > 0);letI i:=IntKind.wrap .i64 (f-1);letI b:=List.getD D.1 (Int.toNat f) (0,0);letI a:=!(A.val (ju (b.1,0,b.2)) false)||decide (b.2 > 9999);letI h:=(!a)=true;letI c:=(!a&&j)=true;letI g:=c->c/\True/\True;if decide (f<D.2.1)=true then A.ae (0<=f/\f<Int.ofNat (List.length D.1)) (A.ae (ju (b.1,0,b.2)).cq (A.ae ((!(!(A.val (ju (b.1,0,b.2)) false)))=true->(!(!(A.val (ju (b.1,0,b.2)) false)))=true/\True/\True) (A.ae ((!(!(A.val (ju (b.1,0,b.2)) false)))=true->((!(!(A.val (ju (b.1,0,b.2)) false)))=true/\True)/\True/\True) (A.ae (True/\((!(A.val (ju (b.1,0,b.2)) false))=false->(!(!(A.val (ju (b.1,0,b.2)) false)))=true)) (A.ae (h->(h/\True)/\True/\True) (A.ae (h->True/\True/\h) (A.ae g (A.ae g (A.ae (c->(c/\True)/\True/\True) (A.ae (c->(c/\c)/\(0<=i/\i<Int.ofNat (List.length m.2.2.2.1))/\True) (A.ae g (A.ae g (A.ae (c->(c/\c)/\True/\True) (A.ae (h->(h/\(j=true->c))/\True/\True) (A.ae (True/\(a=false->h)) (if (a||j&&decide (b.1<=(List.getD m.2.2.2.1 (Int.toNat i) (0,0)).2))=true then A.bind (A.bind (A.pure false) (λr=>A.pure (W.done r))) λr=>A.pure (W.done r) else A.pure (W.next (D.1,D.2.1,IntKind.wrap .i64 (Add.add f 1),m,())))))))))))))))))) else A.bind (A.pure (W.next (m,()))) λr=>A.pure (W.done r)) (D.1.2.2.2.1,Int.ofNat (List.length D.1.2.2.2.1),0,D.1,())) (W.bB (λ(D:a6×Unit)=>A.bind (N6 (D.1.2.1,λx=>akE (x,some D.1))) λy=>A.bind (ck (!y) (NP (D.1.2.2.1,akF)) false) λbZ=>A.pure (!y&&!bZ)))))
def akG(DV:(z1'->Prop)->A (z1'))(N7:List (Int×ba)->A (z1'->Prop))(x:List ba):A (List ba×Bool):=
 A.bind (A.loop (λ(D:List ba×Int×Int×List (Int×ba)×Unit)=>letI e:=D.2.2;letI b:=List.getD D.1 (Int.toNat e.1) (0,0,0,0,0,0);letI c:=Option.map (λx=>x.2) (List.find? (λp=>decide (b.1=p.1)) e.2.1);letI a:=Option.getD c (0,0,0,0,0,0);if decide (e.1<D.2.1)=true then A.ae (0<=e.1/\e.1<Int.ofNat (List.length D.1)) (if (Option.isSome c&&!(decide (a.1=b.1)&&(decide (a.2.1=b.2.1)&&(decide (a.2.2.1=b.2.2.1)&&(decide (a.2.2.2.1=b.2.2.2.1)&&(decide (a.2.2.2.2.1=b.2.2.2.2.1)&&decide (a.2.2.2.2.2=b.2.2.2.2.2)))))))=true then A.bind (A.bind (A.pure ([],false)) (λr=>A.pure (W.done r))) λr=>A.pure (W.done r) else A.pure (W.next (D.1,D.2.1,IntKind.wrap .i64 (Add.add e.1 1),kT e.2.1 b.1 b,()))) else A.bind (A.pure (W.next (e.2.1,()))) λr=>A.pure (W.done r)) (x,Int.ofNat (List.length x),0,[],())) (W.bB (λ(D:List (Int×ba)×Unit)=>A.bind (A.bind (N7 D.1) (λy=>A.bind (DV y) λy=>A.loop (λ(D:z1'×Int×Int×List ba×List (Int×ba)×Unit)=>letI d:=D.2.2;if decide (d.1<D.2.1)=true then A.ae (0<=d.1/\d.1<Int.ofNat (List.length D.1)) (A.ae (b6 (Add.add (List.length d.2.1) (Add.add 0 1))) (A.pure (W.next (D.1,D.2.1,IntKind.wrap .i64 (Add.add d.1 1),d.2.1++[Option.getD (Option.map (λx=>x.2) (List.find? (λp=>decide (List.getD D.1 (Int.toNat d.1) 0=p.1)) d.2.2.1)) (0,0,0,0,0,0)],d.2.2.1,())))) else A.bind (A.pure (W.next (d.2.1,()))) λr=>A.pure (W.done r)) (y,Int.ofNat (List.length y),0,[],D.1,()))) (W.bB (λ(D:List ba×Unit)=>A.pure (D.1,true)))))
def Wz(fW:Int×Int×Int->A Bool)(akH:Int×Int×Int×Int×Int×Int×Int->A Bool)(WA:a6×Int×Int×Int×Int×Int×Int->A Bool)(x:a6):A Bool:=
 letI e:=decide (Int.ofNat (List.length x.1) > 3)||decide (Int.ofNat (List.length x.2.1) > 12)||decide (Int.ofNat (List.length x.2.2.1) > 12)||decide (Int.ofNat (List.length x.2.2.2.1) > 4);A.bind (ck (!e) (akH x.2.2.2.2) false) λy=>if (e||!y)=true then A.pure false else A.bind (A.loop (λ(D:Int×a6×Unit)=>letI f:=D.1<Int.ofNat (List.length D.2.1.1);letI o:=0<=D.1/\f;letI b:=List.getD D.2.1.1 (Int.toNat D.1) (0,0);if decide f=true then A.ae o (A.ae o (A.ae (fW (b.1,-30,b.2)).cq (A.ae ((!(!(A.val (fW (b.1,-30,b.2)) false)))=true->(!(!(A.val (fW (b.1,-30,b.2)) false)))=true/\True/\True) (A.ae ((!(!(A.val (fW (b.1,-30,b.2)) false)))=true->((!(!(A.val (fW (b.1,-30,b.2)) false)))=true/\(!(!(A.val (fW (b.1,-30,b.2)) false)))=true)/\o/\True) (A.ae ((!(!(A.val (fW (b.1,-30,b.2)) false)))=true->(!(!(A.val (fW (b.1,-30,b.2)) false)))=true/\True/\True) (A.ae ((!(!(A.val (fW (b.1,-30,b.2)) false)))=true->(!(!(A.val (fW (b.1,-30,b.2)) false)))=true/\True/\True) (A.ae ((!(!(A.val (fW (b.1,-30,b.2)) false)))=true->((!(!(A.val (fW (b.1,-30,b.2)) false)))=true/\True)/\True/\True) (A.ae (True/\((!(A.val (fW (b.1,-30,b.2)) false))=false->(!(!(A.val (fW (b.1,-30,b.2)) false)))=true)) (if (!(A.val (fW (b.1,-30,b.2)) false)||decide (b.2 > 30))=true then A.bind (A.bind (A.pure false) (λr=>A.pure (W.done r))) λr=>A.pure (W.done r) else A.pure (W.next (IntKind.wrap .i64 (Add.add D.1 1),D.2.1,()))))))))))) else A.bind (A.pure (W.next (D.2.1,()))) λr=>A.pure (W.done r)) (0,x,())) (W.bB (λ(D:a6×Unit)=>A.bind (A.loop (λ(D:Int×a6×Unit)=>letI m:=D.1<Int.ofNat (List.length D.2.1.2.1);letI h:=(D.2.1,List.getD D.2.1.2.1 (Int.toNat D.1) (0,0,0,0,0,0));if decide m=true then A.ae (0<=D.1/\m) (A.ae (WA h).cq (if (!(A.val (WA h) false))=true then A.bind (A.bind (A.pure false) (λr=>A.pure (W.done r))) λr=>A.pure (W.done r) else A.pure (W.next (IntKind.wrap .i64 (Add.add D.1 1),D.2.1,())))) else A.bind (A.pure (W.next (D.2.1,()))) λr=>A.pure (W.done r)) (0,D.1,())) (W.bB (λ(D:a6×Unit)=>A.bind (A.loop (λ(D:Int×a6×Unit)=>letI l:=D.1<Int.ofNat (List.length D.2.1.2.2.1);if decide l=true then A.ae (0<=D.1/\l) (A.bind (fW (List.getD D.2.1.2.2.1 (Int.toNat D.1) 0,0,99)) (λy=>if (!y)=true then A.bind (A.bind (A.pure false) (λr=>A.pure (W.done r))) λr=>A.pure (W.done r) else A.pure (W.next (IntKind.wrap .i64 (Add.add D.1 1),D.2.1,())))) else A.bind (A.pure (W.next (D.2.1,()))) λr=>A.pure (W.done r)) (0,D.1,())) (W.bB (λ(D:a6×Unit)=>A.bind (A.loop (λ(D:Int×a6×Unit)=>letI p:=D.2.1.2.2.2.1;letI n:=decide (D.1 > 0);letI k:=IntKind.wrap .i64 (D.1-1);letI g:=Int.ofNat (List.length p);letI c:=List.getD p (Int.toNat D.1) (0,0);letI a:=!(A.val (fW (c.1,0,c.2)) false)||decide (c.2 > 9999);letI j:=(!a)=true;letI d:=(!a&&n)=true;letI i:=d->d/\True/\True;if decide (D.1<g)=true then A.ae (0<=D.1/\D.1<g) (A.ae (fW (c.1,0,c.2)).cq (A.ae ((!(!(A.val (fW (c.1,0,c.2)) false)))=true->(!(!(A.val (fW (c.1,0,c.2)) false)))=true/\True/\True) (A.ae ((!(!(A.val (fW (c.1,0,c.2)) false)))=true->((!(!(A.val (fW (c.1,0,c.2)) false)))=true/\True)/\True/\True) (A.ae (True/\((!(A.val (fW (c.1,0,c.2)) false))=false->(!(!(A.val (fW (c.1,0,c.2)) false)))=true)) (A.ae (j->(j/\True)/\True/\True) (A.ae (j->True/\True/\j) (A.ae i (A.ae i (A.ae (d->(d/\True)/\True/\True) (A.ae (d->(d/\d)/\(0<=k/\k<g)/\True) (A.ae i (A.ae i (A.ae (d->(d/\d)/\True/\True) (A.ae (j->(j/\(n=true->d))/\True/\True) (A.ae (True/\(a=false->j)) (if (a||n&&decide (c.1<=(List.getD p (Int.toNat k) (0,0)).2))=true then A.bind (A.bind (A.pure false) (λr=>A.pure (W.done r))) λr=>A.pure (W.done r) else A.pure (W.next (IntKind.wrap .i64 (Add.add D.1 1),D.2.1,())))))))))))))))))) else A.bind (A.pure (W.next ())) λr=>A.pure (W.done r)) (0,D.1,())) (W.bB (λ(D:Unit)=>A.pure true))))))))
def WB(x:ba×Int×Int×Int×Int×Int×Int):A Bool:=
 letI a:=decide (x.1.1=x.2.1);A.pure (a&&!(a&&(decide (x.1.2.1=x.2.2.1)&&(decide (x.1.2.2.1=x.2.2.2.1)&&(decide (x.1.2.2.2.1=x.2.2.2.2.1)&&(decide (x.1.2.2.2.2.1=x.dc)&&decide (x.1.2.2.2.2.2=x.2.2.2.2.2.2)))))))
def WC(lo:Int×Int×Int->A Bool)(x:Int×Int×Int):A Bool:=
 A.bind (lo x) λy=>A.pure y
def akI(DX:Int->A Bool)(x:Option d_×Option Int):A Bool:=
 A.bind (DX (Option.getD x.2 0)) λy=>A.pure y
def WD(x:a6×Int×Int):A Int:=
 A.bind (A.loop (λ(D:Int×Int×Int×z4'×Int×Int×Unit)=>letI c:=D.2.2.2;letI b:=IntKind.wrap .i64 (D.2.1-1);letI a:=List.getD c.1 (Int.toNat D.dc) (0,0);if decide (D.dc<c.2.1)=true then A.ae (0<=D.dc/\D.dc<Int.ofNat (List.length c.1)) (A.pure (W.next (D.1,D.2.1,IntKind.wrap .i64 (D.2.2.1-(if IntKind.wrap .i64 (Add.add (IntKind.wrap .i64 ((if b<a.2 then b else a.2)-(if D.1 > a.1 then D.1 else a.1))) 1) > 0 then IntKind.wrap .i64 (Add.add (IntKind.wrap .i64 ((if b<a.2 then b else a.2)-(if D.1 > a.1 then D.1 else a.1))) 1) else 0)),c.1,c.2.1,IntKind.wrap .i64 (Add.add D.dc 1),()))) else A.bind (A.pure (W.next (D.2.2.1,()))) λr=>A.pure (W.done r)) (x.2.1,x.2.2,IntKind.wrap .i64 (x.2.2-x.2.1),x.1.2.2.2.1,Int.ofNat (List.length x.1.2.2.2.1),0,())) (W.bB (λ(D:Int×Unit)=>A.pure D.1))
def WE(x:z4'):A (z4'):=
 A.bind (A.any (λb=>b=true->x=[])) λy=>if y=true then A.pure [] else A.ae (b6 (Add.add 0 (List.length x))) (A.pure ([]++x))
def WG(hN:z1'×Int->A Bool)(x:ba×Option a6):A Bool:=
 A.bind (hN ((Option.getD x.2 ([],[],[],[],0,0,0,0,0,0,0)).2.2.1,x.1.1)) λy=>A.pure y
def WH(N6:List ba×(Int×Int×Int×Int×Int×Int->A Bool)->A Bool)(akJ:ba×Option Int->A Bool)(x:Option d_×Option Int):A Bool:=
 A.ae (Option.isSome x.1=true) (A.bind (N6 ((Option.getD x.1 (([],[],[],[],0,0,0,0,0,0,0),[],[])).2.1,λhA=>akJ (hA,some (Option.getD x.2 0)))) (λy=>A.pure y))
def akK(N8:List ba×(Int×Int×Int×Int×Int×Int->A Bool)->A Int)(x:List ba×(Int×Int×Int×Int×Int×Int->A Bool)):A Bool:=
 A.bind (N8 x) λy=>A.pure (decide (y>=0))
def akL(x:ba×Option Int):A Bool:=
 A.pure (decide (x.1.1=Option.getD x.2 0)&&decide (x.1.2.2.2.1=1))
def WI(N5:Option d_×Option dQ->A (List bA->Prop))(x:Option dQ×Option (Option d_)×Option Int×Option (Int->A Int)):A (Int×Bool):=
 A.bind (N5 (Option.getD x.2.1 none,x.1)) λy=>A.bind (A.any y) λL=>A.bind (jM (λ(D:Int×(Int->A Int)×Int×Bool×Unit) (y:ba×Int)=>A.bind (if decide (y.1.1=D.1)=true then A.bind (D.2.1 y.2) λy=>A.pure (dj.ret,y,true,()) else A.pure (dj.normal,D.2.2.1,D.2.2.2.1,())) λp=>A.pure (p.1,D.1,D.2.1,p.2.1,p.2.2.1,())) L (Option.getD x.2.2.1 0,Option.getD x.2.2.2 λx=>{ cq:=False,bQ:=λx=>False },0,false,())) λp=>so (A.pure (0,false)) (λid=>if id=0 then A.pure (0,false) else A.fail) (A.pure (p.2.2.2.1,p.2.2.2.2.1)) p.1
def WJ(ju:Int×Int×Int->A Bool)(x:Int×Int×Int×Int×Int×Int×Int):A Bool:=
 A.bind (A.loop (λ(D:Int×Int×pz×z1'×Unit)=>letI a:=D.2;if decide (a.1<D.1)=true then A.ae (0<=a.1/\a.1<Int.ofNat (List.length a.2.2.1)) (A.bind (ju (List.getD a.2.2.1 (Int.toNat a.1) 0,0,100000)) (λy=>if (!y)=true then A.bind (A.bind (A.pure false) (λr=>A.pure (W.done r))) λr=>A.pure (W.done r) else A.pure (W.next (D.1,IntKind.wrap .i64 (Add.add a.1 1),a.2.1,a.2.2.1,())))) else A.bind (A.pure (W.next (a.2.1,()))) λr=>A.pure (W.done r)) (Int.ofNat (Add.add (Add.add (Add.add (Add.add 0 1) 1) 1) 1),0,x,[x.2.2.1,x.2.2.2.1,x.dc,x.2.2.2.2.2.2],())) (W.bB (λ(D:pz×Unit)=>A.bind (ju (D.1.1,0,9999)) λy=>A.bind (ck y (ju (D.1.2.1,1,9999)) false) λbZ=>A.bind (ck (y&&bZ) (ju (D.1.2.2.2.2.1,1,9999)) false) λdv=>A.pure (y&&bZ&&dv)))
def WK(akM:a6×Int×Int×Int×Int×Int×Int->A Bool)(x:ba×Option a6):A Bool:=
 A.bind (akM (Option.getD x.2 ([],[],[],[],0,0,0,0,0,0,0),x.1)) λy=>A.pure (!y)
def WL(ju:Int×Int×Int->A Bool)(Aw:Int->A Bool)(x:a6×Int×Int×Int×Int×Int×Int):A Bool:=
 letI c:=x.2.2.2.2;letI a:=decide (c.1=1)||decide (c.1=2)&&decide (c.2.2=0);A.bind (ck a (Aw x.2.1) false) λy=>A.bind (ck (a&&y) (Aw c.2.2) false) λbZ=>A.bind (ck (a&&y&&bZ) (ju (x.2.2.1,0,IntKind.wrap .i64 (Int.ofNat (List.length x.1.1)-1))) false) λdv=>letI b:=a&&y&&bZ&&dv;A.bind (ck b (ju (x.2.2.2.1,0,9999)) false) λf'=>A.bind (ck (b&&f') (ju (x.dc,0,9)) false) λmy=>A.pure (b&&f'&&my)
def WM(Aw:Int->A Bool)(x:Int):A Bool:=
 A.bind (Aw x) λy=>A.pure (!y)
def akN(akO:Option (List (Int×ba))->z1'->Prop)(x:List (Int×ba)):A (z1'->Prop):=
 A.pure (akO (some x))
def WN(fW:Int×Int×Int->A Bool)(x:Int×Int×Int×Int×Int×Int×Int):A Bool:=
 A.bind (fW (x.1,0,9999)) λy=>A.bind (ck y (fW (x.2.1,1,9999)) false) λbZ=>A.bind (ck (y&&bZ) (fW (x.2.2.2.2.1,1,9999)) false) λdv=>A.bind (ck (y&&bZ&&dv) (fW (x.2.2.1,0,100000)) false) λf'=>letI a:=y&&bZ&&dv&&f';A.bind (ck a (fW (x.2.2.2.1,0,100000)) false) λmy=>A.bind (ck (a&&my) (fW (x.dc,0,100000)) false) λDS=>A.bind (ck (a&&my&&DS) (fW (x.2.2.2.2.2.2,0,100000)) false) λNT=>A.pure (a&&my&&DS&&NT)
def WO(fW:Int×Int×Int->A Bool)(x:a6×Int×Int×Int×Int×Int×Int):A Bool:=
 letI b:=x.2.2.2.2;A.bind (fW (x.2.1,0,99)) λy=>A.bind (ck (!(!y)) (fW (x.2.2.1,0,IntKind.wrap .i64 (Int.ofNat (List.length x.1.1)-1))) false) λbZ=>A.bind (ck (!(!y||!bZ)) (fW (x.2.2.2.1,0,9999)) false) λdv=>letI a:=!y||!bZ||!dv;A.bind (ck (!a) (fW (x.dc,0,9)) false) λf'=>A.bind (ck (!(a||!f')) (fW (b.2.2,0,99)) false) λmy=>if (a||!f'||!my)=true then A.pure false else A.pure (decide (b.1=1)||decide (b.1=2)&&decide (b.2.2=0))
def WQ(ax0:Int->A Int)(akP:Int->A Int)(x:Int):A Int:=
 A.bind (akP x) λy=>A.pure y
def akQ(x:List ba×(Int×Int×Int×Int×Int×Int->A Bool)):A Int:=
 A.bind (A.loop (λ(D:List ba×(Int×Int×Int×Int×Int×Int->A Bool)×Int×Int×Unit)=>letI a:=D.2.2.2.1;if decide (a<D.2.2.1)=true then A.ae (0<=a/\a<Int.ofNat (List.length D.1)) (A.bind (D.2.1 (List.getD D.1 (Int.toNat a) (0,0,0,0,0,0))) (λy=>if y=true then A.bind (A.bind (A.pure a) (λr=>A.pure (W.done r))) λr=>A.pure (W.done r) else A.pure (W.next (D.1,D.2.1,D.2.2.1,IntKind.wrap .i64 (Add.add a 1),())))) else A.bind (A.pure (W.next ())) λr=>A.pure (W.done r)) (x.1,x.2,Int.ofNat (List.length x.1),0,())) (W.bB (λ(D:Unit)=>A.pure (-1)))
def DY(x:Int):A Int:=
 A.bind (if decide (x>=4294967296)=true then A.ae ((0:Int)<=32) (A.pure (W.next (ji .u64 x 32,32,()))) else A.pure (W.next (x,0,()))) (W.bB (λ(D:Int×Int×Unit)=>A.bind (if decide (D.1>=65536)=true then A.ae ((0:Int)<=16) (A.pure (W.next (ji .u64 D.1 16,IntKind.wrap .i64 (Add.add D.2.1 16),()))) else A.pure (W.next (D.1,D.2.1,()))) (W.bB (λ(D:Int×Int×Unit)=>A.bind (if decide (D.1>=256)=true then A.ae ((0:Int)<=8) (A.pure (W.next (ji .u64 D.1 8,IntKind.wrap .i64 (Add.add D.2.1 8),()))) else A.pure (W.next (D.1,D.2.1,()))) (W.bB (λ(D:Int×Int×Unit)=>letI a:=IntKind.wrap .u8 D.1;A.ae (0<=a/\a<Int.ofNat 256) (A.pure (IntKind.wrap .i64 (Add.add D.2.1 (IntKind.wrap .i64 (Int.ofNat (List.getD akd (Int.toNat a) 0).1.1.1)))))))))))
def WR(x:z1'):A (z1'):=
 A.bind (A.any (λb=>b=true->x=[])) λy=>if y=true then A.pure [] else A.ae (b6 (Add.add 0 (List.length x))) (A.pure ([]++x))
def WS(akR:Int×Int->A Int)(x:bA×ba×Int):A Int:=
 A.bind (akR (x.1.2,x.2.2)) λy=>A.pure y
def WT(WU:Int->A Bool)(x:Int×Int):A Int:=
 A.bind (WU x.1) λy=>A.bind (WU x.2) λbZ=>if y=true then if bZ=true then A.pure 0 else A.pure (-1) else if bZ=true then A.pure 1 else if decide (x.1<x.2)=true then A.pure (-1) else if decide (x.1 > x.2)=true then A.pure 1 else A.pure 0
def WV(x:Int):A Bool:=
 A.pure (decide (x≠x))
def WW(x:(z1'->Prop)×Unit):A (z1'×Unit):=
 A.bind (A.any x.1) λL=>A.bind (jM (λ(D:z1'×Unit) (y:Int)=>A.bind (A.ae (b6 (Add.add (List.length D.1) (Add.add 0 1))) (A.pure (dj.normal,D.1++[y],()))) λp=>A.pure (p.1,p.2.1,())) L ([],())) λp=>so (A.pure (p.2.1,())) (λid=>if id=0 then A.pure (p.2.1,()) else A.fail) A.fail p.1
def WX(akS:(z1'->Prop)×Unit->A (z1'×Unit))(x:(z1'->Prop)×Unit):A (z1'×Unit):=
 A.bind (akS (x.1,())) λy=>A.pure (y.1,())
def WY(N8:List ba×(Int×Int×Int×Int×Int×Int->A Bool)->A Int)(x:(Int×Int×Int×Int×Int×Int->A Bool)×List ba×Unit):A ((Nat×Nat)×List ba×Unit):=
 A.bind (N8 (x.2.1,x.1)) λy=>if decide (y=-1)=true then A.pure ((0,List.length x.2.1),x.2.1,()) else A.bind (A.loop (λ(D:(Int×Int×Int×Int×Int×Int->A Bool)×Int×Int×List ba×Unit)=>letI g:=D.2.1;letI f:=D.2.2;letI e:=List.getD f.2.1 (Int.toNat f.1) (0,0,0,0,0,0);letI c:=Int.ofNat (List.length f.2.1);if decide (f.1<c)=true then A.bind (A.ae (0<=f.1/\f.1<c) (A.bind (D.1 e) (λy=>if (!y)=true then A.ae (0<=g/\g<c) (A.pure (W.next (D.1,IntKind.wrap .i64 (Add.add g 1),f.1,List.set f.2.1 (Int.toNat g) e,()))) else A.pure (W.next (D.1,g,f.1,f.2.1,()))))) (W.bB (λ(D:(Int×Int×Int×Int×Int×Int->A Bool)×Int×Int×List ba×Unit)=>A.pure (W.next (D.1,D.2.1,IntKind.wrap .i64 (Add.add D.2.2.1 1),D.2.2.2.1,())))) else A.bind (A.pure (W.next (g,f.2.1,()))) λr=>A.pure (W.done r)) (x.1,y,IntKind.wrap .i64 (Add.add y 1),x.2.1,())) (W.bB (λ(D:Int×List ba×Unit)=>letI d:=Int.toNat D.1;letI b:=Int.ofNat (List.length D.2.1);letI a:=List.take d D.2.1++List.replicate (Int.toNat b-d) (0,0,0,0,0,0)++List.drop (Add.add d (List.length (List.replicate (Int.toNat b-d) ((0,0,0,0,0,0):ba)))) D.2.1;A.ae (0<=D.1/\D.1<=b/\b<=b) (A.ae True (A.ae ((0:Int)<=0/\0<=D.1/\D.1<=Int.ofNat (List.length a)) (A.pure ((Int.toNat 0,d),a,()))))))
def HI(Au:a6×Int×Int->A Int)(x:Nat×Option dQ×Option d_×(Nat×(List bA->Prop)×List bA×Bool)×Unit):A ((Nat×(List bA->Prop)×List bA×Bool)×Unit):=
 A.ae (Option.isSome x.2.1=true) (A.loop (λ(D:Nat×Option d_×List (List bA)×Int×(Nat×(List bA->Prop)×List bA×Bool)×Unit)=>letI g:=D.2.2.2;if decide (g.1<10)=true then A.bind (A.ae (0<=g.1/\g.1<Int.ofNat 10) (A.loop (λ(D:Nat×Option d_×List bA×Int×List (List bA)×Int×(Nat×(List bA->Prop)×List bA×Bool)×Unit)=>letI h:=D.fq;letI f:=D.2.2;letI d:=Int.ofNat (List.length f.1);letI i:=0<=f.2.1/\f.2.1<d;letI c:=IntKind.wrap .i64 (Add.add f.2.1 1);letI b:=List.getD f.1 (Int.toNat f.2.1) ((0,0,0,0,0,0),0);letI a:=((Option.getD D.2.1 (([],[],[],[],0,0,0,0,0,0,0),[],[])).1,b.2,(List.getD f.1 (Int.toNat c) ((0,0,0,0,0,0),0)).2);if decide (c<d)=true then A.ae i (A.ae (Option.isSome D.2.1=true) (A.ae i (A.ae (0<=c/\c<d) (A.ae (Au a).cq (A.bind (A.ae (D.1=h.1/\h.2.2.2=false/\(∃ (T:List bA),h.2.1 (h.2.2.1++(b.1,A.val (Au a) 0)::T))) (A.any (λx=>True))) (λy=>letI e:=(h.1,h.2.1,h.2.2.1++[(b.1,A.val (Au a) 0)],!y);if (!y)=true then A.bind (A.bind (A.bind (A.pure (e,())) (λr=>A.pure (W.done r))) (λr=>A.pure (W.done r))) λr=>A.pure (W.done r) else A.pure (W.next (D.1,D.2.1,f.1,IntKind.wrap .i64 (Add.add f.2.1 2),f.2.2.1,D.dc,e,())))))))) else A.bind (A.pure (W.next (D.1,D.2.1,f.2.2.1,D.dc,h,()))) λr=>A.pure (W.done r)) (D.1,D.2.1,List.getD D.2.2.1 (Int.toNat g.1) [],0,D.2.2.1,g.1,g.2.1,()))) (W.bB (λ(D:Nat×Option d_×List (List bA)×Int×(Nat×(List bA->Prop)×List bA×Bool)×Unit)=>A.pure (W.next (D.1,D.2.1,D.2.2.1,IntKind.wrap .i64 (Add.add D.2.2.2.1 1),D.2.2.2.2.1,())))) else A.bind (A.pure (g.2.1,())) λr=>A.pure (W.done r)) (x.1,x.2.2.1,(Option.getD x.2.1 ([],[[],[],[],[],[],[],[],[],[],[]])).2,0,x.2.2.2.1,()))
def WZ(x:Int×Int×(bA×ba×Int->A Int)×List bA×Unit):A (List bA×Unit):=
 A.loop (λ(D:Int×Int×(bA×ba×Int->A Int)×Int×List bA×Unit)=>letI i:=D.2.2.2;if decide (i.1<D.2.1)=true then A.bind (A.loop (λ(D:Int×Int×(bA×ba×Int->A Int)×Int×Int×List bA×Unit)=>letI k:=D.2.2;letI d:=Int.ofNat (List.length D.dc);letI c:=k.2.2.1;letI j:=0<=c/\c<d;letI g:=decide (c > D.1);letI f:=List.getD D.dc (Int.toNat c) ((0,0,0,0,0,0),0);letI b:=IntKind.wrap .i64 (c-1);letI e:=List.getD D.dc (Int.toNat b) ((0,0,0,0,0,0),0);letI h:=List.set D.dc (Int.toNat c) e;letI a:=g=true;letI l:=a->a/\True/\True;A.ae (a->(a/\a)/\j/\True) (A.ae l (A.ae (a->(a/\True)/\True/\True) (A.ae (a->(a/\a)/\(0<=b/\b<d)/\True) (A.ae l (A.ae (a->a/\a/\a/\True) (A.bind (ck g (k.1 (f,e)) 0) (λy=>if (g&&decide (y<0))=true then A.ae (0<=b/\b<d) (A.ae j (A.ae j (A.ae (0<=b/\b<Int.ofNat (List.length h)) (A.pure (W.next (D.1,D.2.1,k.1,k.2.1,b,List.set h (Int.toNat b) f,())))))) else A.bind (A.pure (W.next (D.1,D.2.1,k.1,k.2.1,D.dc,()))) λr=>A.pure (W.done r))))))))) (D.1,D.2.1,D.2.2.1,i.1,i.1,i.2.1,())) (W.bB (λ(D:Int×Int×(bA×ba×Int->A Int)×Int×List bA×Unit)=>A.pure (W.next (D.1,D.2.1,D.2.2.1,IntKind.wrap .i64 (Add.add D.2.2.2.1 1),D.2.2.2.2.1,())))) else A.bind (A.pure (i.2.1,())) λr=>A.pure (W.done r)) (x.1,x.2.1,x.2.2.1,IntKind.wrap .i64 (Add.add x.1 1),x.2.2.2.1,())
def N9(x:Nat×z4'×(Nat×(z1'->Prop)×z1'×Bool)×Unit):A ((Nat×(z1'->Prop)×z1'×Bool)×Unit):=
 A.bind (A.pure ()) λy=>A.loop (λ(D:Nat×(Nat×(z1'->Prop)×z1'×Bool)×(Option (Int×Int)×z4')×Unit)=>letI c:=D.2.1;letI b:=D.2.2.1;A.bind (Gg b.2) λy=>if Option.isSome y=true then A.bind (A.ae (Option.isSome (nR b.1 b.2 y)=true) (A.pure ())) λbZ=>A.bind (A.ae (D.1=c.1/\c.2.2.2=false/\(∃ (T:z1'),c.2.1 (c.2.2.1++Option.getD (Option.map (λx=>x.1) (nR b.1 b.2 y)) 0::T))) (A.any (λx=>True))) λdv=>letI a:=(c.1,c.2.1,c.2.2.1++[Option.getD (Option.map (λx=>x.1) (nR b.1 b.2 y)) 0],!dv);if (!dv)=true then A.bind (A.pure (a,())) λr=>A.pure (W.done r) else A.pure (W.next (D.1,a,(nR b.1 b.2 y,CM b.2 y),())) else A.bind (A.pure (c,())) λr=>A.pure (W.done r)) (x.1,x.2.2.1,(none,x.2.1),())
def N_(x:Nat×List (Int×ba)×(Nat×(z1'->Prop)×z1'×Bool)×Unit):A ((Nat×(z1'->Prop)×z1'×Bool)×Unit):=
 A.bind (A.pure ()) λy=>A.loop (λ(D:Nat×(Nat×(z1'->Prop)×z1'×Bool)×(Option pz×List (Int×ba))×Unit)=>letI c:=D.2.1;letI b:=D.2.2.1;A.bind (Gg b.2) λy=>if Option.isSome y=true then A.bind (A.ae (Option.isSome (nR b.1 b.2 y)=true) (A.pure ())) λbZ=>A.bind (A.ae (D.1=c.1/\c.2.2.2=false/\(∃ (T:z1'),c.2.1 (c.2.2.1++Option.getD (Option.map (λx=>x.1) (nR b.1 b.2 y)) 0::T))) (A.any (λx=>True))) λdv=>letI a:=(c.1,c.2.1,c.2.2.1++[Option.getD (Option.map (λx=>x.1) (nR b.1 b.2 y)) 0],!dv);if (!dv)=true then A.bind (A.pure (a,())) λr=>A.pure (W.done r) else A.pure (W.next (D.1,a,(nR b.1 b.2 y,CM b.2 y),())) else A.bind (A.pure (c,())) λr=>A.pure (W.done r)) (x.1,x.2.2.1,(none,x.2.1),())
def akT(DV:(z1'->Prop)->A (z1'))(N7:List (Int×ba)->A (z1'->Prop))(x:List ba×Unit):A (Bool×List ba×Unit):=
 A.bind (A.loop (λ(D:List ba×Int×Int×List (Int×ba)×Unit)=>letI e:=D.2.2;letI b:=List.getD D.1 (Int.toNat e.1) (0,0,0,0,0,0);letI c:=Option.map (λx=>x.2) (List.find? (λp=>decide (b.1=p.1)) e.2.1);letI a:=Option.getD c (0,0,0,0,0,0);if decide (e.1<D.2.1)=true then A.ae (0<=e.1/\e.1<Int.ofNat (List.length D.1)) (if (Option.isSome c&&!(decide (a.1=b.1)&&(decide (a.2.1=b.2.1)&&(decide (a.2.2.1=b.2.2.1)&&(decide (a.2.2.2.1=b.2.2.2.1)&&(decide (a.2.2.2.2.1=b.2.2.2.2.1)&&decide (a.2.2.2.2.2=b.2.2.2.2.2)))))))=true then A.bind (A.bind (A.pure (false,[],())) (λr=>A.pure (W.done r))) λr=>A.pure (W.done r) else A.pure (W.next (D.1,D.2.1,IntKind.wrap .i64 (Add.add e.1 1),kT e.2.1 b.1 b,()))) else A.bind (A.pure (W.next (e.2.1,()))) λr=>A.pure (W.done r)) (x.1,Int.ofNat (List.length x.1),0,[],())) (W.bB (λ(D:List (Int×ba)×Unit)=>A.bind (A.bind (N7 D.1) (λy=>A.bind (DV y) λy=>A.loop (λ(D:z1'×Int×Int×List ba×List (Int×ba)×Unit)=>letI d:=D.2.2;if decide (d.1<D.2.1)=true then A.ae (0<=d.1/\d.1<Int.ofNat (List.length D.1)) (A.ae (b6 (Add.add (List.length d.2.1) (Add.add 0 1))) (A.pure (W.next (D.1,D.2.1,IntKind.wrap .i64 (Add.add d.1 1),d.2.1++[Option.getD (Option.map (λx=>x.2) (List.find? (λp=>decide (List.getD D.1 (Int.toNat d.1) 0=p.1)) d.2.2.1)) (0,0,0,0,0,0)],d.2.2.1,())))) else A.bind (A.pure (W.next (d.2.1,()))) λr=>A.pure (W.done r)) (y,Int.ofNat (List.length y),0,[],D.1,()))) (W.bB (λ(D:List ba×Unit)=>A.pure (true,D.1,())))))
abbrev lp:Type:=List bA×List bA×List bA×List bA×List bA×List bA×List bA×List bA×List bA×List bA×hp
def mz:Nat->lp->List bA
 | 0,r=>r.1
 | 1,r=>r.2.1
 | 2,r=>r.2.2.1
 | 3,r=>r.2.2.2.1
 | 4,r=>r.2.2.2.2.1
 | 5,r=>r.2.2.2.2.2.1
 | 6,r=>r.2.2.2.2.2.2.1
 | 7,r=>r.2.2.2.2.2.2.2.1
 | 8,r=>r.2.2.2.2.2.2.2.2.1
 | 9,r=>r.2.2.2.2.2.2.2.2.2.1
 | _,_=>[]
def HJ:Nat->List bA->lp->lp
 | 0,v,r=>(v,r.2)
 | 1,v,r=>(r.1,v,r.2.2)
 | 2,v,r=>(r.1,r.2.1,v,r.2.2.2)
 | 3,v,r=>(r.1,r.2.1,r.2.2.1,v,r.2.2.2.2)
 | 4,v,r=>(r.1,r.2.1,r.2.2.1,r.2.2.2.1,v,r.2.2.2.2.2)
 | 5,v,r=>(r.1,r.2.1,r.2.2.1,r.2.2.2.1,r.2.2.2.2.1,v,r.2.2.2.2.2.2)
 | 6,v,r=>(r.1,r.2.1,r.2.2.1,r.2.2.2.1,r.2.2.2.2.1,r.2.2.2.2.2.1,v,r.2.2.2.2.2.2.2)
 | 7,v,r=>(r.1,r.2.1,r.2.2.1,r.2.2.2.1,r.2.2.2.2.1,r.2.2.2.2.2.1,r.2.2.2.2.2.2.1,v,r.2.2.2.2.2.2.2.2)
 | 8,v,r=>(r.1,r.2.1,r.2.2.1,r.2.2.2.1,r.2.2.2.2.1,r.2.2.2.2.2.1,r.2.2.2.2.2.2.1,r.2.2.2.2.2.2.2.1,v,r.2.2.2.2.2.2.2.2.2)
 | 9,v,r=>(r.1,r.2.1,r.2.2.1,r.2.2.2.1,r.2.2.2.2.1,r.2.2.2.2.2.1,r.2.2.2.2.2.2.1,r.2.2.2.2.2.2.2.1,r.2.2.2.2.2.2.2.2.1,v,r.2.2.2.2.2.2.2.2.2.2)
 | _,_,r=>r
abbrev W0(r:lp):hp:=r.2.2.2.2.2.2.2.2.2.2
def N'{X:Type}(l:List bA)(x:bA)(i k:Int)(aL B:A X):A X:=
 letI z:=decide (i > 0);letI y:=IntKind.wrap .i64 (i-1);letI n:=decide (x.1.2.2.2.1≠k);letI m:=(!n)=true;letI b:=(!n&&z)=true;letI c:=b->b/\True/\True;A.ae (m->(m/\True)/\True/\True) (A.ae (m->True/\True/\m) (A.ae c (A.ae (b->(b/\True)/\True/\True) (A.ae (b->(b/\b)/\(0<=y/\y<Int.ofNat (List.length l))/\True) (A.ae c (A.ae c (A.ae (b->(b/\b)/\True/\True) (A.ae (m->(m/\(z=true->b))/\True/\True) (A.ae (True/\(n=false->m)) (if (n||z&&decide (x.2=(List.getD l (Int.toNat y) ((0,0,0,0,0,0),0)).2))=true then aL else B))))))))))
def HK(k:Nat)(D:Int×Int×Int×z1'×lp):A (W (Int×Int×Int×z1'×lp) (W (Int×z1'×lp) (W (z1'×lp) (Option dQ×Bool×hp)))):=
 letI i:=D.2.2.1;letI l:=mz k D.2.2.2.2;letI x:=List.getD l (Int.toNat i) ((0,0,0,0,0,0),0);if decide (i<D.2.1)=true then A.ae (0<=i/\i<Int.ofNat (List.length l)) (A.bind (A.ae ((2:Int)≠0) (if decide (Int.tmod i (2:Int)=1)=true then A.pure (W.next (i,2,D.1,D.2.1,i,x,D.2.2.2)) else A.pure (W.next (i,1,D.1,D.2.1,i,x,D.2.2.2)))) (W.bB (λ(bm:Int×Int×Int×Int×Int×bA×z1'×lp)=>letI r:=bm.2.2.2.2.2.2.2;N' (mz k r) bm.2.2.2.2.2.1 bm.1 bm.2.1 (A.bind (A.bind (A.bind (A.pure (none,false,W0 r)) (λr=>A.pure (W.done r))) (λr=>A.pure (W.done r))) λr=>A.pure (W.done r)) (A.pure (W.next (bm.2.2.1,bm.2.2.2.1,IntKind.wrap .i64 (Add.add bm.2.2.2.2.1 1),bm.2.2.2.2.2.2)))))) else A.bind (A.pure (W.next (D.1,D.2.2.2))) λr=>A.pure (W.done r)
def DZ(W1:(bA×ba×Int->A Int)×List bA×Unit->A (List bA×Unit))(W2:bA×ba×Int->A Int):Nat->Nat->z1'×lp->A (W (z1'×lp) (Option dQ×Bool×hp))
 | 0,_,s=>A.pure (.next s)
 | n+1,k,s=>A.bind (A.ae (0<=Int.ofNat k/\Int.ofNat k<Int.ofNat 10) (A.bind (W1 (W2,mz k s.2,())) (λy=>A.loop (HK k) (Int.ofNat k,Int.ofNat (List.length y.1),0,s.1,HJ k y.1 s.2)))) (W.bB (λ(bm:Int×z1'×lp)=>A.ae (IntKind.wrap .i64 (Add.add bm.1 1)=Int.ofNat (k+1)) (DZ W1 W2 n (k+1) bm.2)))
def HL{X:Type}(f:Nat->A X)(v:Int):Nat->A X
 | 0=>f 0
 | n+1=>if v=Int.ofNat (Add.add n 1) then f (n+1) else HL f v n
def W3{X:Type}(D:z1'×List ba×Int×Int×z1'×lp)(u:Nat):A (W (z1'×List ba×Int×Int×z1'×lp) X):=
 letI a:=List.getD D.2.1 (Int.toNat D.2.2.2.1) (0,0,0,0,0,0);letI r:=D.2.2.2.2.2;letI p:=0<=Int.ofNat u/\Int.ofNat u<Int.ofNat 10;A.ae True (A.ae p (A.ae (0<=a.2.1/\a.2.1<Int.ofNat (List.length D.1)) (A.ae (b6 (Add.add (List.length (mz u r)) (Add.add 0 1))) (A.ae True (A.ae p (A.pure (W.next (D.1,D.2.1,D.2.2.1,D.2.2.2.1,D.2.2.2.2.1,HJ u (mz u r++[((a.1,a.2.1,a.2.2.1,a.2.2.2.1,Int.ofNat u,a.2.2.2.2.2),IntKind.wrap .i64 (Add.add a.2.2.1 (List.getD D.1 (Int.toNat a.2.1) 0)))]) r))))))))
def W4(akU:z1'->A (z1'))(akV:(bA×ba×Int->A Int)×List bA×Unit->A (List bA×Unit))(akW:bA×ba×Int->A Int)(x:z1'×hp):A (Option dQ×Bool×hp):=
 A.bind (A.bind (akU x.1) (λy=>A.pure (W.next (x.1,y,x.2.1,x.2.2.1,x.2.2.2.1,x.2.2.2.2.1,x.dc,x.fq,x.gO,x.ir,x.jR,x.kU,x.hP,x.nb,x.pA,[],[],[],[],[],[],[],[],[],[],())))) (W.bB (λ(D:z1'×z1'×z4'×List ba×z1'×z4'×Int×Int×Int×Int×Int×Int×Int×List ba×List (Option dQ)×List bA×List bA×List bA×List bA×List bA×List bA×List bA×List bA×List bA×List bA×Unit)=>A.bind (A.ae True (A.loop (λ(D:z1'×List ba×Int×Int×z1'×lp)=>letI a:=List.getD D.2.1 (Int.toNat D.2.2.2.1) (0,0,0,0,0,0);letI u:=a.2.2.2.2.1;if decide (D.2.2.2.1<D.2.2.1)=true then A.bind (A.ae (0<=D.2.2.2.1/\D.2.2.2.1<Int.ofNat (List.length D.2.1)) (A.ae (0<=u/\u<Int.ofNat 10) (HL (W3 D) u 9))) (W.bB (λ(D:z1'×List ba×Int×Int×z1'×lp)=>A.pure (W.next (D.1,D.2.1,D.2.2.1,IntKind.wrap .i64 (Add.add D.2.2.2.1 1),D.2.2.2.2)))) else A.bind (A.pure (W.next D.2.2.2.2)) λr=>A.pure (W.done r)) (D.1,D.pA,Int.ofNat (List.length D.pA),0,D.2.1,D.x3,D.NW,D.NX,D.NY,D.NZ,D.HF,D.ake,D.N0,D.rz,D.DT,D.2.2.1,D.2.2.2.1,D.2.2.2.2.1,D.dc,D.fq,D.gO,D.ir,D.jR,D.kU,D.hP,D.nb,D.pA,D.sI,()))) (W.bB (λ(D:z1'×lp)=>A.bind (A.ae True (A.ae (0=Int.ofNat 0) (DZ akV akW 10 0 D))) (W.bB (λ(D:z1'×lp)=>A.pure (some (D.1,[mz 0 D.2,mz 1 D.2,mz 2 D.2,mz 3 D.2,mz 4 D.2,mz 5 D.2,mz 6 D.2,mz 7 D.2,mz 8 D.2,mz 9 D.2]),true,W0 D.2)))))))
def W5(akX:Int×Int×(bA×ba×Int->A Int)×List bA×Unit->A (List bA×Unit))(x:Int×Int×Int×(bA×ba×Int->A Int)×List bA×Unit):A (List bA×Unit):=
 A.loop (λ(D:Int×Int×Int×(bA×ba×Int->A Int)×Bool×Bool×List bA×Unit)=>if decide (IntKind.wrap .i64 (D.2.1-D.1)<=12)=true then A.bind (akX (D.1,D.2.1,D.2.2.2.1,D.fq,())) λy=>A.bind (A.pure (y.1,())) λr=>A.pure (W.done r) else A.fail) (x.1,x.2.1,x.2.2.1,x.2.2.2.1,true,true,x.2.2.2.2.1,())
def W6(N3:z1'×hp->A (hp))(akY:z1'×hp->A (Option dQ×Bool×hp))(x:z1'×hp):A (hp):=
 letI d:=Int.ofNat (List.length x.2.1);letI a:=Int.ofNat (List.length x.1);A.ae True (if decide (a=d)=true then A.bind (A.bind (akY (x.1,x.2.1,x.2.2.1,x.2.2.2.1,x.2.2.2.2.1,x.dc,x.fq,x.gO,x.ir,x.jR,x.kU,x.hP,x.nb,x.pA,())) (λy=>if y.2.1=true then A.ae True (A.ae (b6 (Add.add (List.length y.sI) (Add.add 0 1))) (A.ae True (A.pure (W.next (y.2.2.1,y.2.2.2.1,y.2.2.2.2.1,y.dc,y.fq,y.gO,y.ir,y.jR,y.kU,y.hP,y.nb,y.pA,y.sI++[y.1],()))))) else A.pure (W.next (y.2.2.1,y.2.2.2.1,y.2.2.2.2.1,y.dc,y.fq,y.gO,y.ir,y.jR,y.kU,y.hP,y.nb,y.pA,y.sI,())))) (W.bB (λ(D:hp)=>A.pure (D.1,D.2.1,D.2.2.1,D.2.2.2.1,D.2.2.2.2.1,D.dc,D.fq,D.gO,D.ir,D.jR,D.kU,D.hP,D.nb,()))) else A.ae True (A.ae (0<=a/\a<d) (A.loop (λ(D:z1'×Int×Int×hp)=>letI c:=D.2.2;letI b:=D.2.1;letI e:=List.take (Int.toNat b) D.1;A.ae True (A.ae (0<=b/\b<Int.ofNat (List.length c.2.1)) (if decide (c.1<=(List.getD c.2.1 (Int.toNat b) (0,0)).2)=true then A.ae ((0:Int)<=0/\0<=b/\b=b/\b<=Int.ofNat (List.length D.1)) (A.ae (0<Add.add 0 1/\b6 (Add.add (List.length e) (Add.add 0 1))) (A.bind (N3 (e++[c.1],c.2.1,c.2.2.1,D.dc,D.fq,D.gO,D.ir,D.jR,D.kU,D.hP,D.nb,D.pA,D.sI,D.x3,())) (λy=>A.pure (W.next (D.1,b,IntKind.wrap .i64 (Add.add c.1 1),y.1,y.2.1,y.2.2.1,y.2.2.2.1,y.2.2.2.2.1,y.dc,y.fq,y.gO,y.ir,y.jR,y.kU,y.hP,y.nb,()))))) else A.bind (A.pure (c.2.1,c.2.2.1,D.dc,D.fq,D.gO,D.ir,D.jR,D.kU,D.hP,D.nb,D.pA,D.sI,D.x3,())) λr=>A.pure (W.done r)))) (x.1,a,(List.getD x.2.1 (Int.toNat a) (0,0)).1,x.2.1,x.2.2.1,x.2.2.2.1,x.2.2.2.2.1,x.dc,x.fq,x.gO,x.ir,x.jR,x.kU,x.hP,x.nb,x.pA,()))))
def W7(akZ:Int->A Int)(ak0:Int×Int×Int×(bA×ba×Int->A Int)×List bA×Unit->A (List bA×Unit))(x:(bA×ba×Int->A Int)×List bA×Unit):A (List bA×Unit):=
 letI a:=Int.ofNat (List.length x.2.1);A.bind (akZ (IntKind.wrap .u64 a)) λy=>A.bind (ak0 (0,a,y,x.1,x.2.1,())) λy=>A.pure (y.1,())
end Go.Fer.H
