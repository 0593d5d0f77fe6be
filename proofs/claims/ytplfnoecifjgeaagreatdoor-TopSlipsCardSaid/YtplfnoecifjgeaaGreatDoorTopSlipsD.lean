/- Part 4 of the proof of TopSlips: shallow programs of Go functions, and what they compute. No condition. -/
import Derived.Test.YtplfnoecifjgeaaGreatDoorTopSlipsC
import Derived.RangeFuncBound
import Derived.Scope
import Derived.RangeFuncLeaves
import Derived.OpenShut
import Derived.WideKeyArgs
import Derived.ChangeSame
import Derived.Test.YtplfnoecifjgeaaGreatDoorProg
import Derived.KernelRfl
noncomputable section
set_option linter.unusedVariables false
set_option linter.unusedSimpArgs false
namespace Go.Fer
open Go.RowKit
theorem ah8{C:b_}(iO:C.r=none){β:Type}{s:aC}{a:Act}{w:World}(M:cv C s a w){g:Operand}{ps:Array Tmp}{assign body:Code}{rq n:Nat}{eW:Nat->aI}(ay:a8 C.aP s.aA g=.r9 rq n eW){ic:zV}(UG:Dd C.P rq ic)
    {x:ic.ts.aj} {bV:List Nat} (ai:(i_ ic.ts ((List.range n).map eW)).run s.ab=some (x,bV)) {sh rin rout:dK} (ec:n5 sh rout ic.aM ps.toList C.nt=true) {n9:sh.aj} (n6:sh.jc (s.cB bV)=some n9) (gO:ic.pre x)
    {run:aC->A (di×rout.aj)} {k:di->aC->A β} {O:β->Prop} (hm:A.cy (jR (λD y=>t' sh rin rout ic.aM ps.toList D y run) (ic.seq x) n9) λp=>A.cy (k p.1 (sh.st p.2)) O)
    (DA:∀ l,Hk C.P C.aP C.nt assign body l run) {Q:Exit->Act->World->Prop}
    (ak:∀ u,C.jT u->∀ e s' a' w',cv (C.hl u) s' a' w'->A.cy (k e s') O->Q e.py a' w'):(Code.rangeFunc g ps assign body).wpIn (dS C.r) 0 C.P Q a w:=by
  obtain⟨κ,F,M⟩:=M;obtain⟨Af,f1,gP,f2⟩:=bm.lp (qi _ ai) M;obtain⟨κ,ej,f3,cO⟩:=dK.z_ n6 gP;have af:=j' M g;rw[ay]at af;obtain⟨aE,qb,iq,ayi⟩:=af;have ah9:fr C.P ic.ts Af w aE x:=vo M.bD f1 ic.ts ai f2 (by grind) λi G dM=>by
    grind
  have pq:∀ D:sh.aj,(sh.st D).aA b5=.undef:=λD=>by
    simp only[n5,Bool.and_eq_true,Bool.not_eq_true']at ec;exact xO sh.bU db D b5 ec.1.1.1.2
  rw[iO];refine wpIn_rangeFunc λfn _=>?_;have aU:w.heap.size<((w.alloc (.deferred (some []))).alloc (.loop (fe fn a.tmps ps assign body w.heap.size .ready .normal))).heap.size:=by simp;omega
  have al:w.heap.size+1<((w.alloc (.deferred (some []))).alloc (.loop (fe fn a.tmps ps assign body w.heap.size .ready .normal))).heap.size:=by simp
  have DD:((w.alloc (.deferred (some []))).alloc (.loop (fe fn a.tmps ps assign body w.heap.size .ready .normal))).heap[w.heap.size+1]?=some (.loop (fe fn a.tmps ps assign body w.heap.size .ready .normal)):=by
    have:=qa (w.alloc (.deferred (some []))) (.loop (fe fn a.tmps ps assign body w.heap.size .ready .normal));simp_all
  have DE:((w.alloc (.deferred (some []))).alloc (.loop (fe fn a.tmps ps assign body w.heap.size .ready .normal))).heap[w.heap.size]?=some (.deferred (some [])):=
    (pd _ _ (by simp)).trans (qa w _)
  have uk:∀ r,r<w.heap.size->((w.alloc (.deferred (some []))).alloc (.loop (fe fn a.tmps ps assign body w.heap.size .ready .normal))).heap[r]?=w.heap[r]?:=λr h=>Uz h;have DF:(Instr.enterLoop fn a.tmps ps assign body none).run C.P w=.ok (w.heap.size+1,[oR w.heap.size]) ((w.alloc (.deferred (some []))).alloc (.loop (fe fn a.tmps ps assign body w.heap.size .ready .normal))):=run_enterLoop_outer fn a.tmps ps assign body;have xZ:de w ((w.alloc (.deferred (some []))).alloc (.loop (fe fn a.tmps ps assign body w.heap.size .ready .normal))):=⟨rfl,rfl,rfl⟩
  have MN:((w.alloc (.deferred (some []))).alloc (.loop (fe fn a.tmps ps assign body w.heap.size .ready .normal))).heap.size=w.heap.size+2:=by simp
  generalize (w.alloc (.deferred (some []))).alloc (.loop (fe fn a.tmps ps assign body w.heap.size .ready .normal))=ck at aU al DD DE uk DF xZ MN;have qp:c8 ej w ck:=⟨by omega,λr h=>uk r (cO.dd r h)⟩
  have dX:fr C.P ic.ts ej ck aE x:=(ah9.mono f3 (c8.refl _ _)).mono (λ_ h=>h) qp;have eB:bm { C with w0:=ck,F0:=ej,K0:=λ_=>False } (sh.st n9) a ck κ ej:=
    cO.vG cO.dH cO.dfr cO.gq cO.bU (λdJ kE e8 i' ix e=>by have e:(sh.st n9).aA b5=.aW dJ kE e8 i' ix:=e;grind)
      (λr h=>uk r (by
        rcases h with h | ⟨b,aa,rfl⟩
        · exact cO.dd r h
        · exact (cO.own b aa).1)) (by omega) (λ_ h=>.inl h) (λ_ h=>h) (λ_ h=>h.elim) (λ_ h=>h.elim) (λ_ _ h=>h) (Nat.le_refl _) (de.refl _)
  have MO:=UF (UA (S:=λT=>T=ic.seq x) (C:=C) (CI:={ C with w0:=ck,F0:=ej,K0:=λ_=>False }) (sh:=sh) (rin:=rin) (rout:=rout) (ps:=ps) (assign:=assign) (body:=body) (a:=a) (fn:=fn) (l:=w.heap.size+1) (B:=w.heap.size) (run:=run) (k:=k) (O:=O)
    rfl (by omega) (by rw[M.dH];omega) (by rw[M.dH];grind))
  have fp:∀ b,((sh.st n9).ab b).body.b1 (κ b)=true->¬((κ b).ab=w.heap.size+1\/(κ b).ab=w.heap.size):=λb aa h=>by
    have:=(cO.own b aa).1;omega
  have vH:=UG.iY (w.heap.size+1) _ ej (λr=>(∃ b,((sh.st n9).ab b).body.b1 (κ b)=true/\(κ b).ab=r)\/r=w.heap.size+1\/r=w.heap.size) ck aE x dX gO MO (λr h=>eB.dd r h) eB.iD
    (λr h=>by
      rcases h with⟨b,aa,rfl⟩ | rfl | rfl
      · exact⟨(eB.own b aa).1,(eB.own b aa).2.1⟩
      · exact⟨al,λh=>by have:=cO.dd _ h;omega⟩
      · exact⟨aU,λh=>by have:=cO.dd _ h;omega⟩)
    ⟨.normal,n9,κ,eB,DD,DE,λb aa=>⟨.inl ⟨b,aa,rfl⟩,fp b aa⟩,.inr (.inl rfl),.inr (.inr rfl),λh=>by have:=cO.dd _ h;omega,λh=>by have:=cO.dd _ h;omega,rfl,λ_=>⟨rfl,λR jU=>by grind⟩,λh=>by cases h⟩
  refine⟨w.heap.size+1,[oR w.heap.size],ck,{ target:=.fn (.func rq) #[],args:=aE.toArray++#[.func (.yield (w.heap.size+1)) #[] #[]] },ck,rq,(aE++[Value.func (.yield (w.heap.size+1)) #[] #[]]).toArray,ck,DF,?_,λ_ _=>trivial,?_,λh=>(by cases h),callsIn_wide.2 (vH.mono λe eZ ⟨v,i',st,F',gD,he,fZ,hinv,g1,ew,g3,g4,g5,g6,g7⟩=>?_)⟩
  · have e:a.eval (.const (.func (.yield (w.heap.size+1)) #[] #[]))=.func (.yield (w.heap.size+1)) #[] #[]:=rfl
    simp[resolve,qb,Deferred.ofValue,e]
  · have:=UG.enter (aE++[Value.func (.yield (w.heap.size+1)) #[] #[]]).toArray ck
    simpa [invoke]using this
  subst he;obtain⟨e,D,κ',mE,E,U,ah,a6,bL,dv,gl,_,jj,p7⟩:=hinv;refine⟨sK e,_,run_endLoop E (by cases st<;>simp[fe]),?_⟩;have Hp:w.heap.size+1<eZ.heap.size:=(Array.getElem?_eq_some_iff.1 E).1;generalize bc:Obj.loop _=ca;have hM:A.cy (k e (sh.st D)) O:=by
    cases st with
    | true=>grind
    | false=>
      obtain⟨rfl,fo⟩:=jj rfl;exact (fo [] (show i'++[]=ic.seq x by grind)).2 _ rfl
  have vy:∀ r,C.K0 r->r<w.heap.size:=λr h=>Nat.lt_of_lt_of_le (M.hx r h) M.size;have ui:∀ r,C.K0 r->(eZ.putObj (w.heap.size+1) ca).heap[r]?=C.w0.heap[r]?:=λr h=>by
    have ch:=vy r h;rw[World.putObj_heap_other (by omega),g4 r (by omega) λaT=>?_,uk r ch]
    · exact M.eH r h
    · rcases aT with⟨b,aa,rfl⟩ | rfl | rfl
      · exact (cO.own b aa).2.2 h
      · omega
      · omega
  have x0:de C.w0 (eZ.putObj (w.heap.size+1) ca):=by
    have:=(M.ev.trans xZ).trans g7;exact⟨this.os,this.tape,this.output⟩
  have Am:C.jT ⟨eZ.putObj (w.heap.size+1) ca,λr=>C.K0 r\/r=w.heap.size,[w.heap.size]⟩:=
    { sJ := λB aU => by
        have:B=w.heap.size:=by grind
        subst this;exact⟨.inr rfl,(World.putObj_heap_other (by omega)).trans U⟩
      eA:=λB aU=>by
        have:B=w.heap.size:=by grind
        subst this;exact⟨λh=>by grind,M.size⟩
      mD:=by simp
      hn:=λ_ h=>.inl h
      eH:=ui
      size:=by have:=M.size;simp;omega
      ev:=x0 }
  have n7:cv (C.hl ⟨eZ.putObj (w.heap.size+1) ca,λr=>C.K0 r\/r=w.heap.size,[w.heap.size]⟩) (sh.st D) { a with defers:=[oR w.heap.size]++a.defers } (eZ.putObj (w.heap.size+1) ca):=by
    have MP:∀ r,F' r->C.F0 r\/¬(C.K0 r\/r=w.heap.size):=λr bb=>by
      rcases ew r bb with h | h | h
      · rcases cO.hh r h with dw | dw
        · exact .inl dw
        · exact .inr λak=>ak.elim dw λe=>by have:=cO.dd r h;omega
      · rcases h with⟨b,aa,rfl⟩ | rfl | rfl
        · exact .inr λak=>ak.elim (cO.own b aa).2.2 λe=>fp b aa (.inr e)
        · exact (dv bb).elim
        · exact (gl bb).elim
      grind
    refine⟨κ',F',mE.vG (r:=C.r) mE.dH (by show [oR w.heap.size]++a.defers=_;rw[M.dfr];rfl) mE.gq mE.bU (λdJ kE e8 i' ix e=>by have e:(sh.st D).aA b5=.aW dJ kE e8 i' ix:=e;grind)
      (λr h=>World.putObj_heap_other λe=>by
        grind) (by simp) MP (λr h=>g1 r (cO.hU r h)) (λr h=>?_) (λ_ _=>rfl) (λb aa h=>?_) (Nat.le_refl _) (de.refl _)⟩
    · simp only[World.putObj_size]
      grind
    · rcases h with h | h
      · rcases (g5 _ (ah b aa).1).1 with aT | aT
        · rcases aT with⟨be,cY,e⟩ | e | e
          · exact (cO.own be cY).2.2 (e ▸ h)
          · exact (ah b aa).2 (.inl e)
          · exact (ah b aa).2 (.inr e)
        grind
      grind
  have bt:=ak _ Am e _ _ _ n7 hM;cases e with
  | normal=>exact bt
  | exit id=>exact wpIn_exit bt
  | ret=>exact wpIn_ret bt
theorem ah_{C:b_}(iO:C.r=none){β:Type}{s:aC}{a:Act}{w:World}(M:cv C s a w){g:Operand}{ps:Array Tmp}{assign body:Code}{aM:ad}{S:List aM.aj->Prop}(ay:a8 C.aP s.aA g=.val (.ct aM) S)
    {sh rin rout:dK} (ec:n5 sh rout aM ps.toList C.nt=true) {n9:sh.aj} (n6:sh.jc s=some n9) (eQ:∃ L,S L)
    {run:aC->A (di×rout.aj)} {k:di->aC->A β} {O:β->Prop} (hm:∀ L,S L->A.cy (jR (λD y=>t' sh rin rout aM ps.toList D y run) L n9) λp=>A.cy (k p.1 (sh.st p.2)) O)
    (DA:∀ l,Hk C.P C.aP C.nt assign body l run) {Q:Exit->Act->World->Prop}
    (ak:∀ u,C.jT u->∀ e s' a' w',cv (C.hl u) s' a' w'->A.cy (k e s') O->Q e.py a' w'):(Code.rangeFunc g ps assign body).wpIn (dS C.r) 0 C.P Q a w:=by
  obtain⟨κ,F,M⟩:=M;obtain⟨κ,ej,f3,cO⟩:=dK.z_ n6 M;have af:=j' M g;rw[ay]at af;have qb:=fg _ f3 (c8.refl _ _) ((dU rfl).1 af).2;simp only[bI]at qb;obtain⟨u,hu,_,ah'⟩:=qb;have hu:=(List.cons.inj hu).1;have pq:∀ D:sh.aj,(sh.st D).aA b5=.undef:=λD=>by
    simp only[n5,Bool.and_eq_true,Bool.not_eq_true']at ec;exact xO sh.bU db D b5 ec.1.1.1.2
  rw[iO];refine wpIn_rangeFunc λfn _=>?_;have aU:w.heap.size<((w.alloc (.deferred (some []))).alloc (.loop (fe fn a.tmps ps assign body w.heap.size .ready .normal))).heap.size:=by simp;omega
  have al:w.heap.size+1<((w.alloc (.deferred (some []))).alloc (.loop (fe fn a.tmps ps assign body w.heap.size .ready .normal))).heap.size:=by simp
  have DD:((w.alloc (.deferred (some []))).alloc (.loop (fe fn a.tmps ps assign body w.heap.size .ready .normal))).heap[w.heap.size+1]?=some (.loop (fe fn a.tmps ps assign body w.heap.size .ready .normal)):=by
    have:=qa (w.alloc (.deferred (some []))) (.loop (fe fn a.tmps ps assign body w.heap.size .ready .normal));simp_all
  have DE:((w.alloc (.deferred (some []))).alloc (.loop (fe fn a.tmps ps assign body w.heap.size .ready .normal))).heap[w.heap.size]?=some (.deferred (some [])):=
    (pd _ _ (by simp)).trans (qa w _)
  have uk:∀ r,r<w.heap.size->((w.alloc (.deferred (some []))).alloc (.loop (fe fn a.tmps ps assign body w.heap.size .ready .normal))).heap[r]?=w.heap[r]?:=λr h=>Uz h;have DF:(Instr.enterLoop fn a.tmps ps assign body none).run C.P w=.ok (w.heap.size+1,[oR w.heap.size]) ((w.alloc (.deferred (some []))).alloc (.loop (fe fn a.tmps ps assign body w.heap.size .ready .normal))):=run_enterLoop_outer fn a.tmps ps assign body;have xZ:de w ((w.alloc (.deferred (some []))).alloc (.loop (fe fn a.tmps ps assign body w.heap.size .ready .normal))):=⟨rfl,rfl,rfl⟩
  have MN:((w.alloc (.deferred (some []))).alloc (.loop (fe fn a.tmps ps assign body w.heap.size .ready .normal))).heap.size=w.heap.size+2:=by simp
  generalize (w.alloc (.deferred (some []))).alloc (.loop (fe fn a.tmps ps assign body w.heap.size .ready .normal))=ck at aU al DD DE uk DF xZ MN;have qp:c8 ej w ck:=⟨by omega,λr h=>uk r (cO.dd r h)⟩
  have eB:bm { C with w0:=ck,F0:=ej,K0:=λ_=>False } (sh.st n9) a ck κ ej:=
    cO.vG cO.dH cO.dfr cO.gq cO.bU (λdJ kE e8 i' ix e=>by have e:(sh.st n9).aA b5=.aW dJ kE e8 i' ix:=e;grind)
      (λr h=>uk r (by
        rcases h with h | ⟨b,aa,rfl⟩
        · exact cO.dd r h
        · exact (cO.own b aa).1)) (by omega) (λ_ h=>.inl h) (λ_ h=>h) (λ_ h=>h.elim) (λ_ h=>h.elim) (λ_ _ h=>h) (Nat.le_refl _) (de.refl _)
  have MO:=UA (S:=S) (C:=C) (CI:={ C with w0:=ck,F0:=ej,K0:=λ_=>False }) (sh:=sh) (rin:=rin) (rout:=rout) (ps:=ps) (assign:=assign) (body:=body) (a:=a) (fn:=fn) (l:=w.heap.size+1) (B:=w.heap.size) (run:=run) (k:=k) (O:=O)
    rfl (by omega) (by rw[M.dH];omega) (by rw[M.dH];grind)
  have fp:∀ b,((sh.st n9).ab b).body.b1 (κ b)=true->¬((κ b).ab=w.heap.size+1\/(κ b).ab=w.heap.size):=λb aa h=>by
    have:=(cO.own b aa).1;omega
  obtain⟨rq,c6,aia,sC,LV⟩:=ah' ej ck (λ_ h=>h) qp (λr h=>eB.dd r h) eB.iD eQ;have vH:=LV (w.heap.size+1) _ (λr=>(∃ b,((sh.st n9).ab b).body.b1 (κ b)=true/\(κ b).ab=r)\/r=w.heap.size+1\/r=w.heap.size)
    (λr h=>by
      rcases h with⟨b,aa,rfl⟩ | rfl | rfl
      · exact⟨(eB.own b aa).1,(eB.own b aa).2.1⟩
      · exact⟨al,λh=>by have:=cO.dd _ h;omega⟩
      · exact⟨aU,λh=>by have:=cO.dd _ h;omega⟩)
    MO ⟨.normal,n9,κ,eB,DD,DE,λb aa=>⟨.inl ⟨b,aa,rfl⟩,fp b aa⟩,.inr (.inl rfl),.inr (.inr rfl),λh=>by have:=cO.dd _ h;omega,λh=>by have:=cO.dd _ h;omega,rfl,λ_=>⟨rfl,λR jU=>hm R jU⟩,λh=>by cases h⟩
  refine⟨w.heap.size+1,[oR w.heap.size],ck,{ target:=.fn (.func rq) c6,args:=#[.func (.yield (w.heap.size+1)) #[] #[]] },ck,rq,#[Value.func (.yield (w.heap.size+1)) #[] #[]]++c6,ck,DF,?_,λ_ _=>trivial,?_,λh=>(by cases h),callsIn_wide.2 (vH.mono λe eZ ⟨v,pre,st,F',gD,he,fZ,hinv,g1,ew,g3,g4,g5,g6,MQ⟩=>?_)⟩
  · have e:a.eval (.const (.func (.yield (w.heap.size+1)) #[] #[]))=.func (.yield (w.heap.size+1)) #[] #[]:=rfl
    simp[resolve,hu,aia,Deferred.ofValue,e]
  · have:=sC (#[Value.func (.yield (w.heap.size+1)) #[] #[]]++c6) ck
    simpa [invoke]using this
  have g7:de ck eZ:=⟨MQ.1,MQ.2.1,MQ.2.2⟩
  subst he;obtain⟨e,D,κ',mE,E,U,ah,a6,bL,dv,gl,_,jj,p7⟩:=hinv;refine⟨sK e,_,run_endLoop E (by cases st<;>simp[fe]),?_⟩;have Hp:w.heap.size+1<eZ.heap.size:=(Array.getElem?_eq_some_iff.1 E).1;generalize bc:Obj.loop _=ca;have hM:A.cy (k e (sh.st D)) O:=by
    cases st with
    | true=>grind
    | false=>
      obtain⟨rfl,fo⟩:=jj rfl;exact (fo [] (show S (pre++[]) by grind)).2 _ rfl
  have vy:∀ r,C.K0 r->r<w.heap.size:=λr h=>Nat.lt_of_lt_of_le (M.hx r h) M.size;have ui:∀ r,C.K0 r->(eZ.putObj (w.heap.size+1) ca).heap[r]?=C.w0.heap[r]?:=λr h=>by
    have ch:=vy r h;rw[World.putObj_heap_other (by omega),g4 r (by omega) λaT=>?_,uk r ch]
    · exact M.eH r h
    · rcases aT with⟨b,aa,rfl⟩ | rfl | rfl
      · exact (cO.own b aa).2.2 h
      · omega
      · omega
  have x0:de C.w0 (eZ.putObj (w.heap.size+1) ca):=by
    have:=(M.ev.trans xZ).trans g7;exact⟨this.os,this.tape,this.output⟩
  have Am:C.jT ⟨eZ.putObj (w.heap.size+1) ca,λr=>C.K0 r\/r=w.heap.size,[w.heap.size]⟩:=
    { sJ := λB aU => by
        have:B=w.heap.size:=by grind
        subst this;exact⟨.inr rfl,(World.putObj_heap_other (by omega)).trans U⟩
      eA:=λB aU=>by
        have:B=w.heap.size:=by grind
        subst this;exact⟨λh=>by grind,M.size⟩
      mD:=by simp
      hn:=λ_ h=>.inl h
      eH:=ui
      size:=by have:=M.size;simp;omega
      ev:=x0 }
  have n7:cv (C.hl ⟨eZ.putObj (w.heap.size+1) ca,λr=>C.K0 r\/r=w.heap.size,[w.heap.size]⟩) (sh.st D) { a with defers:=[oR w.heap.size]++a.defers } (eZ.putObj (w.heap.size+1) ca):=by
    have MP:∀ r,F' r->C.F0 r\/¬(C.K0 r\/r=w.heap.size):=λr bb=>by
      rcases ew r bb with h | h | h
      · rcases cO.hh r h with dw | dw
        · exact .inl dw
        · exact .inr λak=>ak.elim dw λe=>by have:=cO.dd r h;omega
      · rcases h with⟨b,aa,rfl⟩ | rfl | rfl
        · exact .inr λak=>ak.elim (cO.own b aa).2.2 λe=>fp b aa (.inr e)
        · exact (dv bb).elim
        · exact (gl bb).elim
      grind
    refine⟨κ',F',mE.vG (r:=C.r) mE.dH (by show [oR w.heap.size]++a.defers=_;rw[M.dfr];rfl) mE.gq mE.bU (λdJ kE e8 i' ix e=>by have e:(sh.st D).aA b5=.aW dJ kE e8 i' ix:=e;grind)
      (λr h=>World.putObj_heap_other λe=>by
        grind) (by simp) MP (λr h=>g1 r (cO.hU r h)) (λr h=>?_) (λ_ _=>rfl) (λb aa h=>?_) (Nat.le_refl _) (de.refl _)⟩
    · simp only[World.putObj_size]
      grind
    · rcases h with h | h
      · rcases (g5 _ (ah b aa).1).1 with aT | aT
        · rcases aT with⟨be,cY,e⟩ | e | e
          · exact (cO.own be cY).2.2 (e ▸ h)
          · exact (ah b aa).2 (.inl e)
          · exact (ah b aa).2 (.inr e)
        grind
      grind
  have bt:=ak _ Am e _ _ _ n7 hM;cases e with
  | normal=>exact bt
  | exit id=>exact wpIn_exit bt
  | ret=>exact wpIn_ret bt
end Go.Fer
namespace Go.Fer
open Go.RowKit
open A (W)
section
variable {F:Fence} {n:Nat} {P:Program} {Q:Exit->Act->World->Prop} {a:Act} {w:World}
theorem aib{c:Code}{Ht β:Type}{body:Ht->A (W Ht β)}{O:β->Prop}(I:Ht->Act->World->Prop)
  (round:∀ D a w,I D a w->(body D).cr->(∀ r,(body D).bM (.done r)->O r)->c.wpIn F n P (Exit.then (λa' w'=>∃ iL,(body D).bM (.next iL)/\I iL a' w') Q) a w)
  {D:Ht} (aD:A.BT body D) (ag:∀ r,A.y9 body D r->O r) (eB:I D a w):(Code.loop c).wpIn F n P Q a w:=by
 intro b k cs rA aa M;have key:∀ D,A.BT body D->(∀ r,A.y9 body D r->O r)->∀ a w,I D a w->
   ∃ e a' w',Q e a' w'/\ArrivesIn (Machine.fenced P F) P (lone (b.atR a (.code c::.inLoop c::k)) cs w) b k cs e a' w':=by
  intro D aD;induction aD with
  | mk D h _ aL=>
   intro ag a w eB;obtain⟨e,l7,l8,bt,fb⟩:=round D a w eB h (λr M=>ag r (.done _ _ M)) b (.inLoop c::k) cs rA aa M;cases e with
   | normal=>
    obtain⟨iL,pC,aic⟩:=bt;obtain⟨MR,MS,MT,MU,MV⟩:=aL iL pC (λr M=>ag r (.next _ _ _ pC M)) l7 l8 aic;exact⟨MR,MS,MT,MU,.of_steps (StepsIn.trans fb (.one (fenced_calm aa M rfl) stepR_inLoop)) MV⟩
   | exit id=>exact⟨_,l7,l8,bt,.pass (x:=.inLoop c) rfl (λ_ _=>.inl (by simp)) fb⟩
   | goto l=>exact⟨_,l7,l8,bt,.pass (x:=.inLoop c) rfl (λ_ _=>.inl (by simp)) fb⟩
   | ret=>exact⟨_,l7,l8,bt,.pass (x:=.inLoop c) rfl (λ_ _=>.inl (by simp)) fb⟩
   | panic MW=>exact⟨_,l7,l8,bt,.pass (x:=.inLoop c) rfl (λ_ _=>.inl (by simp)) fb⟩
   | outgrown=>exact⟨_,l7,l8,bt,.pass (x:=.inLoop c) rfl (λ_ _=>.inl (by simp)) fb⟩
 obtain⟨e,a',w',bt,fb⟩:=key D aD ag a w eB;exact⟨e,a',w',bt,.of_steps (.one (fenced_calm aa M rfl) stepR_loop) fb⟩
theorem aid{p q:Prop}(bt:q)(h:q->p):p/\q:=⟨h bt,bt⟩
def Hu(F:Fence)(n:Nat)(P:Program)(c:Code)(Q:Exit->Act->World->Prop)(a:Act)(w:World):Prop:=
 ∀ (b:Frame) (k:List Item) (cs:List Frame),b.roundOf=F.round->F.fn b.fn->F.room (cs.length+1+n)->
  ∃ e a' w',Q e a' w'/\ArrivesIn (Machine.fenced P F) P (lone (b.atR a (.code c::.inLoop c::k)) cs w) b k cs e a' w'
theorem aie{c:Code}(h:Hu F n P c Q a w):(Code.loop c).wpIn F n P Q a w:=λb k cs rA aa M=>by
 obtain⟨e,a',w',bt,fb⟩:=h b k cs rA aa M;exact⟨e,a',w',bt,.of_steps (.one (fenced_calm aa M rfl) stepR_loop) fb⟩
theorem aif{c:Code}(h:c.wpIn F n P (Exit.then (λa' w'=>Hu F n P c Q a' w') Q) a w):Hu F n P c Q a w:=λb k cs rA aa M=>by
 obtain⟨e,l7,l8,bt,fb⟩:=h b (.inLoop c::k) cs rA aa M;cases e with
 | normal=>
  obtain⟨MR,MS,MT,MU,MV⟩:=bt b k cs rA aa M;exact⟨MR,MS,MT,MU,.of_steps (StepsIn.trans fb (.one (fenced_calm aa M rfl) stepR_inLoop)) MV⟩
 | exit id=>exact⟨_,l7,l8,bt,.pass (x:=.inLoop c) rfl (λ_ _=>.inl (by simp)) fb⟩
 | goto l=>exact⟨_,l7,l8,bt,.pass (x:=.inLoop c) rfl (λ_ _=>.inl (by simp)) fb⟩
 | ret=>exact⟨_,l7,l8,bt,.pass (x:=.inLoop c) rfl (λ_ _=>.inl (by simp)) fb⟩
 | panic MW=>exact⟨_,l7,l8,bt,.pass (x:=.inLoop c) rfl (λ_ _=>.inl (by simp)) fb⟩
 | outgrown=>exact⟨_,l7,l8,bt,.pass (x:=.inLoop c) rfl (λ_ _=>.inl (by simp)) fb⟩
theorem An{b:Frame}{k:List Item}{cs:List Frame}{c:Code}:step P (lone (b.atR a (.code (.scope c)::k)) cs w)=.next (lone (b.atR a (.code c::.inScope c::k)) cs w):=
 step_lone_go (by rfl)
theorem aih{b:Frame}{k:List Item}{cs:List Frame}{c:Code}:step P (lone (b.atR a (.inScope c::k)) cs w)=.next (lone (b.atR a k) cs w):=
 step_lone_go (by rfl)
theorem aii{c:Code}(h:c.wpIn F n P (Exit.noGoto Q) a w):(Code.scope c).wpIn F n P Q a w:=by
 intro b k cs rA aa M;have aY:(lone (b.atR a (.code (.scope c)::k)) cs w).fenced P F:=fenced_calm aa M rfl;obtain⟨e,l7,l8,bt,fb⟩:=h b (.inScope c::k) cs rA aa M;cases e with
 | normal=>exact⟨.normal,l7,l8,bt,.head aY An (StepsIn.trans fb (.one (fenced_calm aa M rfl) aih))⟩
 | exit id=>
  have ai:exitTo id (.inScope c::k)=exitTo id k:=by rfl
  exact⟨.exit id,l7,l8,bt,λk' ak=>.head aY An (fb.1 k' (by grind)),λbb ak=>let ⟨k₁,E,U⟩:=fb.2 bb (by grind);⟨k₁,E,.head aY An U⟩⟩
 | goto l=>exact bt.elim
 | ret=>exact⟨.ret,l7,l8,bt,.of_steps (.one aY An) fb⟩
 | panic MW=>exact⟨.panic MW,l7,l8,bt,.of_steps (.one aY An) fb⟩
 | outgrown=>exact⟨.outgrown,l7,l8,bt,.of_steps (.one aY An) fb⟩
end
section
variable {T:Nat->ad} {bf:Nat->Option aO} {Ψ:Nat->Option e7}
def MX{D β:Type}(m:A (W D β))(O:β->Prop)(st:W D β):Prop:=
 match st with
 | .next s=>m.bM (.next s)
 | .done r=>O r
theorem aij{C:b_}{s s':aC}{i:Nat}{a:Act}{w:World}(h:LC s i=some s')(M:cv C s a w):cv C s' a w:=by
 obtain⟨κ,F,M⟩:=M;unfold LC at h;split at h
 ·rename_i b g n off aD;split at h
  ·rename_i e xs bT;split at h
   ·rename_i ay;cases h;have af:=M.bU i;rw[aD]at af;obtain⟨aQ,aS,bN⟩:=af.2 ay (by rw[bT];rfl);rw[bT]at aQ bN;have aU:=M.bD b;unfold cG at aU;rw[bT]at aU;obtain⟨cs,T,bE,c2,c3,c4,c5⟩:=aU.2 aS;have aQ:n<xs.length:=aQ;obtain⟨bk,d1,d2⟩:=c5 n aQ;have d2:bI C.P (.slice e) F w bk xs[n]:=d2;obtain⟨u,rfl,hu⟩:=B0 (t:=.slice e) rfl d2;have tH:cs.getD ((κ b).off+n) Go.undef=u:=by
     have:=d1 0 (by simp);simp only[ad.size,Nat.mul_one,Nat.add_zero]at this;rw[Array.getD_eq_getD_getElem?,this];rfl
    have gw:fs s.ab κ (λq=>if q=b then (⟨g,.gp (.st (.slice e)) xs n (.val (.slice e) (xs.getD n []))⟩:bK) else s.ab q) κ:=
     qZ ay (λh=>by cases h) (λ_=>by rw[bT];exact⟨rfl,rfl,rfl⟩) (λh=>by cases h) (λh=>by cases h)
    have cO:=M.pe (b:=b) (x:=⟨g,.gp (.st (.slice e)) xs n (.val (.slice e) (xs.getD n []))⟩) (w':=w) (by rw[bT];simp[bS.b1,aS]) (by simp[bS.b1,aS]) gw (λh=>by cases h) (λh=>by cases h) (λ_ _=>rfl) rfl (de.refl w) λH m_ ch he=>
     ⟨aS,cs,T,bE,c2,c3,c4,⟨rfl,aQ⟩,λj aG _=>c5 j aG,by rw[tH,show xs.getD n []=xs[n] by simp[aQ]];exact (dU rfl).2 ⟨hu,d2⟩,by rw[tH];exact J3 (t:=.slice e) rfl d2⟩
    refine⟨κ,F,{ cO with bU:=λj=>?_,dH:=cO.dH,dfr:=cO.dfr,bD:=cO.bD,eN:=λl aM L m st a7=>?_ }⟩
    ·show bA _ _ _ _ _ (if j=i then _ else _) _;split
     ·rename_i aG;subst aG;refine⟨⟨by show g<=(if b=b then _ else _:bK).gen;simp,af.1.2⟩,λ_ _=>?_⟩;show _<(if b=b then _ else _:bK).body.len/\_/\_=Value.pointer (some ⟨_,_+_*(if b=b then _ else _:bK).body.e4,_⟩);simp only[if_true];exact⟨aQ,aS,bN⟩
     ·exact cO.bU j
    ·have a7:(if b5=i then _ else _)=aI.aW l aM L m st:=a7;split at a7
     ·cases a7
     ·exact cO.eN l aM L m st a7
   ·cases h
  ·cases h
 ·cases h
theorem aik{C:b_}{s s':aC}{b:Nat}{a:Act}{w:World}(h:LD s b=some s')(M:cv C s a w):cv C s' a w:=by
 obtain⟨κ,F,M⟩:=M;unfold LD at h;split at h
 ·rename_i e xs n v bT;split at h
  ·rename_i y bV aT;split at h
   ·cases h
   ·rename_i qg;cases h;have qg:b ∉ bV:=by simpa using qg
    obtain⟨F',f1,bb,f2⟩:=bm.lp (mZ aT) M;have zF:(s.cB bV).ab b=s.ab b:=by simp[aC.cB,qg]
    have aU:=M.bD b;have MY:=bb.bD b;unfold cG at aU MY;rw[zF,bT]at MY;rw[bT]at aU;obtain⟨aY,cs,T,bE,c2,c3,c4,c5,lW,oD,xh⟩:=MY;obtain⟨_,dh,hY,UH,_,_,_,_,_,ail,_⟩:=aU;rw[bE]at UH;cases UH;have vk:=mq M.bD f1 aT f2 ail;obtain⟨Hm,oS⟩:=(dU rfl).1 vk;have gw:fs (s.cB bV).ab κ (λq=>if q=b then (⟨(s.ab b).gen,.bh (.st (.slice e)) (xs.set n y)⟩:bK) else (s.cB bV).ab q) κ:=
     qZ (by rw[zF]) (λh=>by cases h) (λ_=>by rw[zF,bT];exact⟨rfl,by simp[bS.len],rfl⟩) (λh=>by cases h) (λh=>by cases h)
    refine⟨κ,F',bb.pe (b:=b) (w':=w) (by rw[zF,bT];simp[bS.b1,aY]) (by simp[bS.b1,aY]) gw (λh=>by cases h) (λh=>by cases h) (λ_ _=>rfl) rfl (de.refl w) λH m_ ch he=>⟨λax=>(by rw[aY]at ax;cases ax),λ_=>⟨cs,T,bE,c2,by simpa using c3,c4,λj aG=>?_⟩⟩⟩;by_cases qY:j=n
    ·subst qY;refine⟨[cs.getD ((κ b).off+j) Go.undef],λq bt=>?_,?_⟩
     ·have bt:q=0:=by simpa using bt
      subst bt;have:(κ b).off+j<cs.size:=by
       have:=c5.2;simp only[ad.size,Nat.mul_one]at c2;omega
      simp[ad.size,this]
     ·rw[List.getElem_set_self];exact oS
    ·obtain⟨bk,d1,d2⟩:=lW j (by simpa using aG) qY;exact⟨bk,d1,by rw[List.getElem_set_ne (Ne.symm qY)];exact d2⟩
  ·cases h
 ·cases h
theorem aim:∀ (ann:cE),(∀ (C:b_) (_:C.P.follows .mixedOrders=true) (_:dT C.P T) (_:jq C.P bf) (_:l6 C.P C.aP Ψ) (_:C.r=none\/ann.ei=true) {β:Type} (c:Code) (s:aC) (k:di->aC->A β) (O:β->Prop) (Q:Exit->Act->World->Prop) (a:Act) (w:World),lA C.nt c=true->cv C s a w->A.cy (eJ C.aP T bf Ψ ann c s k) O->(∀ u,C.jT u->∀ e s' a' w',cv (C.hl u) s' a' w'->A.cy (k e s') O->Q e.py a' w')->c.wpIn (dS C.r) 0 C.P Q a w)/\(ann.oL=true->∀ (C:b_) (_:C.P.follows .mixedOrders=true) (_:dT C.P T) (_:jq C.P bf) (_:l6 C.P C.aP Ψ) (_:C.r=none\/ann.ei=true) {β:Type} (c:Code) (s:aC) (k:di->aC->A β) (O:β->Prop) (Q:Exit->Act->World->Prop) (a:Act) (w:World),lA C.nt c=true->cv C s a w->A.cy (eJ C.aP T bf Ψ ann (.loop c) s k) O->(∀ u,C.jT u->∀ e s' a' w',cv (C.hl u) s' a' w'->A.cy (k e s') O->Q e.py a' w')->Hu (dS C.r) 0 C.P c Q a w):=by
 intro ann;induction ann with
 | eP=>
  refine⟨?_,λ_ C ek aV cC c1 fX β c s k O Q a w hc M hm ak=>by unfold eJ at hm;exact (gI hm).elim⟩;intro C ek aV cC c1 fX β c s k O Q a w hc M hm ak;unfold eJ at hm;split at hm
  ·rename_i id ops draw;cases draw with
   | true=>exact ahF ek aV (TV cC c1) c1 (λo ag=>List.all_eq_true.1 hc o ag) (λs' a' w' bb fo=>ak C.hI C.vF .normal s' a' w' bb fo) M hm
   | false=>
    refine wpIn_region ?_;have:=Mn (Q:=Q) (ops:=ops) aV cC c1 (λo ag=>List.all_eq_true.1 hc o ag) (k:=k .normal) (O:=O) (λs' a' w' bb fo=>ak C.hI C.vF .normal s' a' w' bb fo) ops.toList 0 [] s a w (by simp) (λp aq=>by cases aq) M hm;rw[List.range_eq_range'];omega
  ·exact wpIn_skip (ak C.hI C.vF .normal s a w M hm)
  ·exact wpIn_label (ak C.hI C.vF .normal s a w M hm)
  ·exact wpIn_exit (ak C.hI C.vF (.exit _) s a w M hm)
  ·exact wpIn_ret (ak C.hI C.vF .ret s a w M hm)
  ·exact (gI hm).elim
 | seq x y hA lD=>
  have hA:=hA.1;have lD:=lD.1;refine⟨?_,λh=>by simp[cE.oL]at h⟩;intro C ek aV cC c1 fX β c s k O Q a w hc M hm ak;have l9:C.r=none\/x.ei=true:=fX.imp id λh=>by simp only[cE.ei,Bool.and_eq_true]at h;grind
  have qx:C.r=none\/y.ei=true:=fX.imp id λh=>by simp only[cE.ei,Bool.and_eq_true]at h;grind
  unfold eJ at hm;split at hm
  ·rename_i n_ Ao;simp only[lA,Bool.and_eq_true]at hc;refine wpIn_seq (hA C ek aV cC c1 l9 n_ s _ O _ a w hc.1 M hm λu hu e s' a' w' bb fo=>?_);cases e with
   | normal=>exact lD (C.hl u) ek aV cC c1 qx Ao s' k O Q a' w' hc.2 bb fo λv af=>by rw[b_.Ak];exact ak _ (hu.then af)
   | exit id=>exact ak u hu (.exit id) s' a' w' bb fo
   | ret=>exact ak u hu .ret s' a' w' bb fo
  ·exact (gI hm).elim
 | join sh x y hA lD=>
  have hA:=hA.1;have lD:=lD.1;refine⟨?_,λh=>by simp[cE.oL]at h⟩;intro C ek aV cC c1 fX β c s k O Q a w hc M hm ak;have l9:C.r=none\/x.ei=true:=fX.imp id λh=>by simp only[cE.ei,Bool.and_eq_true]at h;grind
  have qx:C.r=none\/y.ei=true:=fX.imp id λh=>by simp only[cE.ei,Bool.and_eq_true]at h;grind
  unfold eJ at hm;split at hm
  ·rename_i n_ Ao;simp only[lA,Bool.and_eq_true]at hc;rw[A.gb]at hm;refine wpIn_seq (hA C ek aV cC c1 l9 n_ s _ _ _ a w hc.1 M hm λu hu e s' a' w' bb fo=>?_);cases e with
   | normal=>
    obtain⟨D,n6,U⟩:=uh fo;have ah:=A.eb.1 U;exact lD (C.hl u) ek aV cC c1 qx Ao _ k O Q a' w' hc.2 (dK.xJ n6 bb) ah λv af=>by rw[b_.Ak];exact ak _ (hu.then af)
   | exit id=>
    simp only[xH,A.gb,A.eb,W.bC]at fo;exact ak u hu (.exit id) s' a' w' bb fo
   | ret=>
    simp only[xH,A.gb,A.eb,W.bC]at fo;exact ak u hu .ret s' a' w' bb fo
  ·exact (gI hm).elim
 | cond x y hA lD=>
  have hA:=hA.1;have lD:=lD.1;refine⟨?_,λh=>by simp[cE.oL]at h⟩;intro C ek aV cC c1 fX β c s k O Q a w hc M hm ak;have l9:C.r=none\/x.ei=true:=fX.imp id λh=>by simp only[cE.ei,Bool.and_eq_true]at h;grind
  have qx:C.r=none\/y.ei=true:=fX.imp id λh=>by simp only[cE.ei,Bool.and_eq_true]at h;grind
  unfold eJ at hm;split at hm
  ·rename_i co n_ Ao;simp only[lA,Bool.and_eq_true]at hc;unfold Ta at hm;split at hm
   ·rename_i t hu;obtain⟨κ,F,eY⟩:=M;have af:=j' eY co;rw[hu]at af;refine wpIn_cond_split (fh.1 af) (λaF=>?_) (λaF=>?_)
    ·subst aF;exact hA C ek aV cC c1 l9 n_ s k O Q a w hc.1 ⟨κ,F,eY⟩ hm ak
    ·subst aF;exact lD C ek aV cC c1 qx Ao s k O Q a w hc.2 ⟨κ,F,eY⟩ hm ak
   ·rename_i g t hu;rw[A.kP]at hm;obtain⟨bc,hm⟩:=hm;obtain⟨κ,F,eY⟩:=M;have af:=j' eY co;rw[hu]at af;refine wpIn_cond_split (fh.1 (af.1 bc)) (λaF=>?_) (λaF=>?_)
    ·subst aF;exact hA C ek aV cC c1 l9 n_ s k O Q a w hc.1 ⟨κ,F,eY⟩ hm ak
    ·subst aF;exact lD C ek aV cC c1 qx Ao s k O Q a w hc.2 ⟨κ,F,eY⟩ hm ak
   ·exact (gI hm).elim
  ·exact (gI hm).elim
 | block x hA=>
  have hA:=hA.1;refine⟨?_,λh=>by simp[cE.oL]at h⟩;intro C ek aV cC c1 fX β c s k O Q a w hc M hm ak;have l9:C.r=none\/x.ei=true:=fX;unfold eJ at hm;split at hm
  ·rename_i id n_;refine wpIn_block (hA C ek aV cC c1 l9 n_ s _ O _ a w hc M hm λu hu e s' a' w' bb fo=>?_);cases e with
   | normal=>exact ak u hu .normal s' a' w' bb fo
   | exit GI=>
    simp only[S']at fo;simp only[di.py,Exit.inBlock];split at fo
    ·rename_i e;rw[if_pos e];exact ak u hu .normal s' a' w' bb fo
    ·rename_i e;rw[if_neg e];exact ak u hu (.exit GI) s' a' w' bb fo
   | ret=>exact ak u hu .ret s' a' w' bb fo
  ·exact (gI hm).elim
 | loop sh x hA=>
  have hA:=hA.1;refine⟨?_,λh=>by simp[cE.oL]at h⟩;intro C ek aV cC c1 fX β c s k O Q a w hc M hm ak;have l9:C.r=none\/x.ei=true:=fX;unfold eJ at hm;split at hm
  ·rename_i n_;obtain⟨D,n6,U⟩:=uh hm;refine aib (I:=λD a w=>∃ u,C.jT u/\cv (C.hl u) (sh.st D) a w) (O:=O) (λD a w ⟨v,af,eB⟩ ra Dm=>?_) U.1 U.2 ⟨C.hI,C.vF,dK.xJ n6 M⟩;refine hA (C.hl v) ek aV cC c1 l9 n_ (sh.st D) _ (MX (eJ C.aP T bf Ψ x n_ (sh.st D) (xH k λs'=>sh.ni s' λiL=>A.pure (W.next iL))) O) _ a w hc eB ⟨ra,λst fZ=>?_⟩ λu hu e s' a' w' bb fo=>?_
   ·cases st with
    | next iL=>exact fZ
    | done r=>exact Dm r fZ
   ·cases e with
    | normal=>
     obtain⟨iL,MI,ah⟩:=uh fo;have a6:=A.eb.1 ah;exact⟨iL,a6,_,af.then hu,by rw[<-b_.Ak];exact dK.xJ MI bb⟩
    | exit id=>
     simp only[xH,A.gb,A.eb,MX]at fo;exact ak _ (af.then hu) (.exit id) s' a' w' (by rw[<-b_.Ak];omega) fo
    | ret=>
     simp only[xH,A.gb,A.eb,MX]at fo;exact ak _ (af.then hu) .ret s' a' w' (by rw[<-b_.Ak];omega) fo
  ·exact (gI hm).elim
 | scope x hA=>
  have hA:=hA.1;refine⟨?_,λh=>by simp[cE.oL]at h⟩;intro C ek aV cC c1 fX β c s k O Q a w hc M hm ak;have l9:C.r=none\/x.ei=true:=fX;unfold eJ at hm;split at hm
  ·rename_i n_;refine aii (hA C ek aV cC c1 l9 n_ s _ O _ a w hc M hm λu hu e s' a' w' bb fo=>?_);have:=ak u hu e s' a' w' bb fo;cases e<;>exact this
  ·exact (gI hm).elim
 | range sh rin rout x y hA lD=>
  have hA:=hA.1;have lD:=lD.1;refine⟨?_,λh=>by simp[cE.oL]at h⟩;intro C ek aV cC c1 fX β c s k O Q a w hc M hm ak;unfold eJ at hm;split at hm
  ·rename_i g ps assign body;simp only[lA,Bool.and_eq_true,List.all_eq_true,decide_eq_true_eq]at hc;obtain⟨ayj,UI,UJ⟩:=hc;split at hm
   ·rename_i rq n eW ay;split at hm
    ·rename_i ic ain;split at hm
     ·rename_i ayk bV ai;split at hm
      ·rename_i ec;simp only[Bool.and_eq_true]at ec;obtain⟨ec,l9,qx⟩:=ec;obtain⟨D,n6,U⟩:=uh hm;rw[A.kP,A.gb]at U;simp only[Tb]at U;have iO:C.r=none:=fX.resolve_right λh=>by cases h
       have MZ:n5 sh rout ic.aM ps.toList C.nt=true:=by
        simp only[n5,Bool.and_eq_true,List.all_eq_true,decide_eq_true_eq]at ec ⊢;grind
       refine ah8 iO M ay (c1 rq _ ain) ai MZ n6 U.1 U.2 (λl=>?_) ak;intro C1 jt tK rB tV eI b6 ck qv ke kj;have h:=hA C1 (jt ▸ ek) (jt ▸ aV) (jt ▸ cC) (by grind) (.inr l9) assign eI (GJ λdN=>eJ C.aP T bf Ψ y body dN λe eK=>rout.ni eK λbn=>A.pure (e,bn)) qv
        (Exit.then (λa2 da=>∃ u dN,C1.jT u/\cv (C1.hl u) dN a2 da/\
         ∀ (hz:b_),hz.P=C.P->hz.aP=C.aP->hz.nt=C.nt->hz.r=some l->∀ (da:World),cv hz dN a2 da->
          body.wpIn (dS (some l)) 0 C.P (λe a3 eZ=>∃ (a7:di) (v:n8) (eK:aC) (bn:rout.aj),e=a7.py/\hz.jT v/\cv (hz.hl v) eK a3 eZ/\rout.jc eK=some bn/\qv (a7,bn)) a2 da) (λ_ _ _=>False)) b6 ck (rB ▸ UI) ke (tK ▸ kj)
        λu hu e dN a2 da cO pB=>?_
       ·grind
       ·cases e with
        | normal=>
         refine⟨u,dN,hu,cO,λhz x1 M0 M1 aio da mE=>?_⟩;have h:=lD hz (x1 ▸ ek) (x1 ▸ aV) (x1 ▸ cC) (by grind) (.inr qx) body dN (λe eK=>rout.ni eK λbn=>A.pure (e,bn)) qv
          (λe a3 eZ=>∃ (a7:di) (v:n8) (eK:aC) (bn:rout.aj),e=a7.py/\hz.jT v/\cv (hz.hl v) eK a3 eZ/\rout.jc eK=some bn/\qv (a7,bn)) a2 da (M1 ▸ UJ) mE (M0 ▸ pB) λv af e eK a3 eZ oT Hv=>by
           obtain⟨bn,gh,bL⟩:=uh Hv;exact⟨e,v,eK,bn,rfl,af,oT,gh,A.eb.1 bL⟩
         grind
        | exit id=>exact (gI pB).elim
        | ret=>exact (gI pB).elim
      ·exact (gI hm).elim
     ·exact (gI hm).elim
    ·exact (gI hm).elim
   ·rename_i aM S ay;split at hm
    ·rename_i ec;simp only[Bool.and_eq_true]at ec;obtain⟨ec,l9,qx⟩:=ec;obtain⟨D,n6,U⟩:=uh hm;rw[A.gb]at U;have iO:C.r=none:=fX.resolve_right λh=>by cases h
     have MZ:n5 sh rout aM ps.toList C.nt=true:=by
      simp only[n5,Bool.and_eq_true,List.all_eq_true,decide_eq_true_eq]at ec ⊢;grind
     refine ah_ iO M ay MZ n6 U.1 (λL gH=>by have ah:=A.gb.1 (U.2 L gH);simp only[Tb]at ah;exact ah) (λl=>?_) ak;intro C1 jt tK rB tV eI b6 ck qv ke kj;have h:=hA C1 (jt ▸ ek) (jt ▸ aV) (jt ▸ cC) (by grind) (.inr l9) assign eI (GJ λdN=>eJ C.aP T bf Ψ y body dN λe eK=>rout.ni eK λbn=>A.pure (e,bn)) qv
      (Exit.then (λa2 da=>∃ u dN,C1.jT u/\cv (C1.hl u) dN a2 da/\
       ∀ (hz:b_),hz.P=C.P->hz.aP=C.aP->hz.nt=C.nt->hz.r=some l->∀ (da:World),cv hz dN a2 da->
        body.wpIn (dS (some l)) 0 C.P (λe a3 eZ=>∃ (a7:di) (v:n8) (eK:aC) (bn:rout.aj),e=a7.py/\hz.jT v/\cv (hz.hl v) eK a3 eZ/\rout.jc eK=some bn/\qv (a7,bn)) a2 da) (λ_ _ _=>False)) b6 ck (rB ▸ UI) ke (tK ▸ kj)
      λu hu e dN a2 da cO pB=>?_
     ·grind
     ·cases e with
      | normal=>
       refine⟨u,dN,hu,cO,λhz x1 M0 M1 aio da mE=>?_⟩;have h:=lD hz (x1 ▸ ek) (x1 ▸ aV) (x1 ▸ cC) (by grind) (.inr qx) body dN (λe eK=>rout.ni eK λbn=>A.pure (e,bn)) qv
        (λe a3 eZ=>∃ (a7:di) (v:n8) (eK:aC) (bn:rout.aj),e=a7.py/\hz.jT v/\cv (hz.hl v) eK a3 eZ/\rout.jc eK=some bn/\qv (a7,bn)) a2 da (M1 ▸ UJ) mE (M0 ▸ pB) λv af e eK a3 eZ oT Hv=>by
         obtain⟨bn,gh,bL⟩:=uh Hv;exact⟨e,v,eK,bn,rfl,af,oT,gh,A.eb.1 bL⟩
       grind
      | exit id=>exact (gI pB).elim
      | ret=>exact (gI pB).elim
    ·exact (gI hm).elim
   ·exact (gI hm).elim
  ·exact (gI hm).elim
 | n3 x y hA lD=>
  refine aid (λ_ C ek aV cC c1 fX β c s k O Q a w hc M hm ak=>?_) λkey C ek aV cC c1 fX β c s k O Q a w hc M hm ak=>?_
  ·have l9:C.r=none\/x.ei=true:=fX.imp id λh=>by simp only[cE.ei,Bool.and_eq_true]at h;grind
   have qx:C.r=none\/y.ei=true:=fX.imp id λh=>by simp only[cE.ei,Bool.and_eq_true]at h;grind
   unfold eJ at hm;simp only at hm;split at hm
   ·rename_i hu;refine aif (hA.1 C ek aV cC c1 l9 c s _ O _ a w hc M hm λu xM e s' a' w' bb fo=>?_);cases e with
    | normal=>exact lD.2 hu (C.hl u) ek aV cC c1 qx c s' k O Q a' w' hc bb fo λv af=>by rw[b_.Ak];exact ak _ (xM.then af)
    | exit id=>exact ak u xM (.exit id) s' a' w' bb fo
    | ret=>exact ak u xM .ret s' a' w' bb fo
   ·exact (gI hm).elim
  ·cases c with
   | loop n_=>exact aie (key rfl C ek aV cC c1 fX n_ s k O Q a w hc M hm ak)
   | _=>unfold eJ at hm;exact (gI hm).elim
 | GH=>
  refine⟨?_,λh=>by simp[cE.oL]at h⟩;intro C ek aV cC c1 fX β c s k O Q a w hc M hm ak;unfold eJ at hm;split at hm
  ·rename_i id ops draw;split at hm
   ·rename_i h;rw[Bool.and_eq_true]at h;obtain⟨rfl,h⟩:=h;exact ahL ek (fX.resolve_right (by simp[cE.ei])) h aV (TV cC c1) c1 (λo ag=>List.all_eq_true.1 hc o ag) (λs' a' w' bb fo=>ak C.hI C.vF .normal s' a' w' bb fo) M hm
   ·exact (gI hm).elim
  ·exact (gI hm).elim
 | nY i x aL=>
  have aL:=aL.1;refine⟨?_,λh=>by simp[cE.oL]at h⟩;intro C ek aV cC c1 fX β c s k O Q a w hc M hm ak;unfold eJ at hm;split at hm
  ·rename_i s' af;exact aL C ek aV cC c1 fX c s' k O Q a w hc (aij af M) hm ak
  ·exact (gI hm).elim
 | GG b x aL=>
  have aL:=aL.1;refine⟨?_,λh=>by simp[cE.oL]at h⟩;intro C ek aV cC c1 fX β c s k O Q a w hc M hm ak;unfold eJ at hm;split at hm
  ·rename_i s' af;exact aL C ek aV cC c1 fX c s' k O Q a w hc (aik af M) hm ak
  ·exact (gI hm).elim
 | num i n x aL=>
  have aL:=aL.1;refine⟨?_,λh=>by simp[cE.oL]at h⟩;intro C ek aV cC c1 fX β c s k O Q a w hc M hm ak;unfold eJ at hm;split at hm
  ·rename_i v f af;rw[A.kP]at hm;have h:=hm.2;rw[afo af hm.1]at h;exact aL C ek aV cC c1 fX c s k O Q a w hc M h ak
  ·exact (gI hm).elim
 | split i off n x aL=>
  have aL:=aL.1;refine⟨?_,λh=>by simp[cE.oL]at h⟩;intro C ek aV cC c1 fX β c s k O Q a w hc M hm ak;unfold eJ at hm;split at hm
  ·rename_i v f af;rw[A.kP]at hm;have h:=S8 hm.2 hm.1.1 hm.1.2;rw[afn af hm.1.1]at h;exact aL C ek aV cC c1 fX c s k O Q a w hc M h ak
  ·exact (gI hm).elim
theorem UK(ann:cE):∀ (C:b_) (_:C.P.follows .mixedOrders=true) (_:dT C.P T) (_:jq C.P bf) (_:l6 C.P C.aP Ψ) (_:C.r=none\/ann.ei=true) {β:Type} (c:Code) (s:aC) (k:di->aC->A β) (O:β->Prop) (Q:Exit->Act->World->Prop) (a:Act) (w:World),lA C.nt c=true->cv C s a w->A.cy (eJ C.aP T bf Ψ ann c s k) O->(∀ u,C.jT u->∀ e s' a' w',cv (C.hl u) s' a' w'->A.cy (k e s') O->Q e.py a' w')->c.wpIn (dS C.r) 0 C.P Q a w:=(aim ann).1
end
end Go.Fer
namespace Go.Fer
open Go.RowKit
def DG(T:Nat->ad)(s:aC):List ResultVar->Option (List aI)
 | []=>some []
 | r::l=>match DG T s l with
  | none=>none
  | some aE=>match r with
   | .tmp t=>some (s.aA t::aE)
   | .cell a ty=>match (zk (T ty) (s.aA a)).run s.ab with
    | some v=>some (v::aE)
    | none=>none
def M2(t:ad)(n:Nat):Bool:=
 match t with
 | .aB _ _=>n != 1
 | .cU=>n == 0
 | _=>n == 1
def vI(T:Nat->ad)(kD:List ResultVar)(aW:ad)(e:di)(s:aC):A aW.aj:=
 match e with
 | .exit _=>A.fail
 | _=>match DG T s kD with
  | some avs=>match (i_ aW avs).run s.ab with
   | some (y,_)=>A.pure y
   | none=>A.fail
  | none=>A.fail
def Ap(t:ad)(x:t.aj)(n:Nat):List (Nat×aI):=(List.range n).map λi=>(i,ky t x i)
def sM(t:ad):Nat:=if t=.cU then 0 else j9 t
def pD(t:ad)(x:t.aj):aC:=SW (Ap t x (sM t)) []
def DH(aH:dG)(T:Nat->ad)(bf:Nat->Option aO)(Ψ:Nat->Option e7)(fn:Func)(c:Code)(ann:cE)(ts aW:ad)(x:ts.aj):A aW.aj:=
 eJ aH T bf Ψ ann c (pD ts x) (vI T fn.results.toList aW)
def Hw(av:aI):aI:=match av with | .val (.bG e) p=>.dV e (p.getD e.df) | v=>v
def DI(av:aI):Prop:=match av with | .val (.bG _) p=>p.isSome=true | _=>True
def Hx(n:Nat)(s:aC):aC:=⟨λi=>if i<n\/eT<i then s.aA i else Hw (s.aA i),s.ab⟩
def DJ(n:Nat)(s:aC):Prop:=∀ i,¬(i<n\/eT<i)->DI (s.aA i)
def aip(aH:dG)(T:Nat->ad)(bf:Nat->Option aO)(Ψ:Nat->Option e7)(fn:Func)(c:Code)(ann:cE)(n:Nat)(ts aW:ad)(x:ts.aj):A aW.aj:=
 A.ae (DJ n (pD ts x)) (eJ aH T bf Ψ ann c (Hx n (pD ts x)) (vI T fn.results.toList aW))
def DK(fn:Func)(c:Code)(ts aW:ad):Bool:=
 lA fn.ntmps c && M2 aW fn.results.size && decide (sM ts <= fn.ntmps) && !(fn.name == "runtime.NumGoroutine") && decide (fn.ntmps <= eT)
def Aq:z9'->List aI->Option (List aI)
 | [],[]=>some []
 | none::g,v::aE=>match Aq g aE with
  | some l=>some (v::l)
  | none=>none
 | some n::g,v::aE=>match v,Aq g aE with
  | .agg m f,some l=>if m=n then some ((List.range n).map f++l) else none
  | _,_=>none
 | _,_=>none
def Hy(T:Nat->ad)(kD:List ResultVar)(kF:z9')(bM:dK)(e:di)(s:aC):A bM.aj:=
 match e with
 | .exit _=>A.fail
 | _=>match DG T s kD with
  | some avs=>match Aq kF avs with
   | some l=>match decide (l.length<=eT) with
    | true=>bM.ni (sv s l) λbn=>A.pure bn
    | false=>A.fail
   | none=>A.fail
  | none=>A.fail
def M3(aH:dG)(T:Nat->ad)(bf:Nat->Option aO)(Ψ:Nat->Option e7)(fn:Func)(c:Code)(ann:cE)(cm bM:dK)(kF:z9')(D:cm.aj):A bM.aj:=
 eJ aH T bf Ψ ann c (cm.st D) (Hy T fn.results.toList kF bM)
def DL(fn:Func)(c:Code)(kh:Nat)(kF:z9'):Bool:=
 lA fn.ntmps c && decide (fn.results.size = kF.length) && decide (kh <= fn.ntmps) && !(fn.name == "runtime.NumGoroutine") && decide (fn.ntmps <= eT)
section
variable {C:b_} {T:Nat->ad} {bf:Nat->Option aO} {Ψ:Nat->Option e7}
def Ar(tmps:Array Value)(r:ResultVar):Sem Value:=
 match r with
 | .tmp t=>pure (tmps.getD t undef)
 | .cell b t=>do loadVar t (<-asAddr (tmps.getD b undef))
theorem UL(fn:Func)(tmps:Array Value):results fn tmps=(fn.results.mapM (Ar tmps) >>= λaE=>pure (if h:aE.size=1 then aE[0] else .tuple aE)):=by
 rfl
theorem UM(aV:dT C.P T){s:aC}{a:Act}{w:World}{κ:Nat->bB}{F:Nat->Prop}(M:bm C s a w κ F):∀ (kD:List ResultVar) {avs:List aI},DG T s kD=some avs->
  ∃ aE:List Value,(kD.mapM (Ar a.tmps)).run C.P w=.ok aE w/\aE.length=kD.length/\avs.length=kD.length/\
   ∀ i (h:i<avs.length) (dw:i<aE.length),bA C.P s.ab κ F w avs[i] aE[i]:=by
 intro kD;induction kD with
 | nil=>intro avs h;cases h;simp
 | cons r kD aL=>
  intro avs h;simp only[DG]at h;split at h
  ·cases h
  ·rename_i l al;obtain⟨aE,E,U,ah,a6⟩:=aL al;have one:∃ av v,avs=av::l/\(Ar a.tmps r).run C.P w=.ok v w/\bA C.P s.ab κ F w av v:=by
    split at h
    ·rename_i t;cases h;exact⟨_,_,rfl,rfl,M.bU t⟩
    ·rename_i b ty;split at h
     ·rename_i v af;cases h;obtain⟨u,aQ,aS⟩:=RW aV M af (M.bU b);refine⟨v,u,rfl,?_,aS⟩;unfold Instr.loadAt at aQ;unfold Ar;simp only;generalize a.tmps.getD b Go.undef=z at aQ ⊢;cases z with
      | pointer p=>
       cases p with
       | none=>simp[Instr.sureAddr]at aQ
       | some p=>simpa [Instr.sureAddr,asAddr]using aQ
      | _=>simp[Instr.sureAddr]at aQ
     grind
   obtain⟨av,v,rfl,aQ,aS⟩:=one;refine⟨v::aE,?_,by grind,by grind,λi G dM=>?_⟩
   ·simp_all
   grind
theorem aiq(aV:dT C.P T){fn:Func}{aW:ad}(rC:M2 aW fn.results.size=true){e:di}{s:aC}{a:Act}{w:World}{O:aW.aj->Prop}(M:cv C s a w)(hm:A.cy (vI T fn.results.toList aW e s) O) :
  (∀ id,e≠.exit id)/\∃ κ F v y,bm C s a w κ F/\(results fn a.tmps).run C.P w=.ok v w/\O y/\∃ F',(∀ r,F' r->C.F0 r\/¬C.K0 r)/\(∀ r,F' r->r<w.heap.size)/\tz C.P aW F' w v y:=by
 obtain⟨κ,F,M⟩:=M;unfold vI at hm;split at hm
 ·exact (gI hm).elim
 ·rename_i eQ;refine⟨λid he=>eQ id he,?_⟩;split at hm
  ·rename_i avs M4;split at hm
   ·rename_i y l aT;obtain⟨aE,E,U,ah,a6⟩:=UM aV M _ M4;obtain⟨F',f1,bb,f2⟩:=bm.lp (qi _ aT) M;have dX:=vo (F':=F') M.bD f1 aW aT f2 (by omega) a6;have c_:(results fn a.tmps).run C.P w=.ok (if h:aE.toArray.size=1 then aE.toArray[0] else .tuple aE.toArray) w:=by
     rw[UL,Sem.run_bind];have:(fn.results.mapM (Ar a.tmps)).run C.P w=.ok aE.toArray w:=by
      rw[Array.mapM_eq_mapM_toList,map_eq_pure_bind,Sem.run_bind,E];rfl
     simp_all
    refine⟨κ,F,_,y,M,c_,A.eb.1 hm,F',bb.hh,bb.dd,aE,?_,dX⟩;have cd:aE.length=fn.results.size:=by omega
    rw[<-cd]at rC;clear c_ dX E a6 U cd aT;have one:aE.length=1->aE=[if h:aE.toArray.size=1 then aE.toArray[0] else .tuple aE.toArray]:=by
     intro h;match aE,h with
     | [v],_=>rfl
    cases aW<;>simp only[M2,beq_iff_eq,bne_iff_ne,ne_eq]at rC<;>simp only[y'];case aB=>rw[dif_neg (by simpa using rC)]
    case cU=>
     have:aE=[]:=List.length_eq_zero_iff.1 rC;subst this;exact⟨rfl,rfl⟩
    all_goals exact one rC
   ·exact (gI hm).elim
  ·exact (gI hm).elim
theorem UN{l:List (Nat×aI)}{i:Nat}:ft l i=.undef\/(i,ft l i)∈l:=by
 induction l with
 | nil=>exact .inl rfl
 | cons p l aL=>
  simp only[ft];grind
theorem um{P : Program}{k : FuncId}{fn : Func}{c : Code}(ao : P.funcs[k]? = some fn)(aa : fn.body = some c)(ax : (fn.name == "runtime.NumGoroutine") = false)(args : Array Value)(w : World) :
  (callFunc k args).run P w=.ok (.enter k args) w:=by
 have ax : ¬ fn.name = "runtime.NumGoroutine" := by grind
 simp[callFunc,ao,aa,ax]
def pE(w:World):List Nat->World
 | []=>w
 | B::ms=>pE (w.putObj B (.deferred none)) ms
theorem UO:∀ (ms:List Nat) (w:World),(pE w ms).heap.size=w.heap.size
 | [],_=>rfl
 | _::ms,_=>(UO ms _).trans World.putObj_size
theorem M5:∀ (ms:List Nat) (w:World) {r:Nat},r ∉ ms->(pE w ms).heap[r]?=w.heap[r]?
 | [],_,_,_=>rfl
 | B::ms,w,r,h=>by
  simp only[List.mem_cons,not_or]at h;exact (M5 ms _ h.2).trans (World.putObj_heap_other h.1)
theorem UP:∀ (ms:List Nat) (w:World),de w (pE w ms)
 | [],w=>de.refl w
 | B::ms,w=>by
  have h:de w (w.putObj B (.deferred none)):=⟨rfl,rfl,rfl⟩
  exact h.trans (UP ms _)
theorem M6{P:Program}{fn:Func}{tmps:Array Value}{R:Ending->World->Prop}:∀ (ms:List Nat) (w:World),ms.Nodup->(∀ B∈ms,w.heap[B]?=some (.deferred (some [])))->
  (∃ v,(results fn tmps).run P (pE w ms)=.ok v (pE w ms)/\R (.returned v) (pE w ms))->LeavesInM Fence.wide 0 P fn tmps R (ms.map oR) .returning w
 | [],w,_,_,h=>h
 | B::ms,w,ax,aU,h=>by
  simp only[List.nodup_cons]at ax;refine⟨by simp,.inl ⟨B,_,rfl,run_takeDeferred (aU B (by simp)),?_⟩⟩;exact M6 ms _ ax.2 (λair dw=>(World.putObj_heap_other λe=>ax.1 (by grind)).trans (aU air (List.mem_cons_of_mem _ dw))) h
theorem cv.UQ{u:n8}{s:aC}{a:Act}{w:World}(hu:C.jT u)(ais:∀ r,C.F0 r->r<C.w0.heap.size)(vy:∀ r,C.K0 r->r<C.w0.heap.size)(h:cv (C.hl u) s a w) :
  cv { C with dfr:=u.ms.map oR++C.dfr } s a (pE w u.ms)/\a.defers=u.ms.map oR++C.dfr/\∀ B∈u.ms,w.heap[B]?=some (.deferred (some [])):=by
 obtain⟨κ,F,h⟩:=h;have ayl:∀ B∈u.ms,¬F B:=λB aU ao=>by
  obtain⟨E,_⟩:=hu.sJ B aU;rcases h.hh B ao with U | U
  ·have:=ais B U;have:=(hu.eA B aU).2;omega
  ·exact U E
 have cd:=UO u.ms w;have hc:=UP u.ms w;refine⟨⟨κ,F,h.Hj (w0:=C.w0) (w':=pE w u.ms) (K0:=C.K0) (r:=C.r) (λr M=>hu.hn r M) (λr M=>M5 _ _ λhm=>?_) (Nat.le_of_eq cd.symm) hc vy (λr M=>?_) ?_ ?_⟩,h.dfr,λB aU=>?_⟩
 ·rcases M with M | M
  ·grind
  ·exact M (hu.sJ r hm).1
 ·exact (M5 _ _ λhm=>(hu.eA r hm).1 M).trans ((h.eH r (hu.hn r M)).trans (hu.eH r M))
 ·rw[cd];exact Nat.le_trans hu.size h.size
 ·exact (hu.ev.trans h.ev).trans hc
 ·exact (h.eH B (hu.sJ B aU).1).trans (hu.sJ B aU).2
theorem UR{P:Program}{aH:dG}(ek:P.follows .mixedOrders=true){k:FuncId}{fn:Func}{c:Code}{ann:cE}{ts aW:ad}{sh:ts.aj->A aW.aj}(aV:dT P T)(h2:qX P aH)(cC:jq P bf)(c1:l6 P aH Ψ)(ao:P.funcs[k]?=some fn)(aa:fn.body=some c)
    (cN:DK fn c ts aW=true) {s0:ts.aj->aC} {pre:ts.aj->Prop} (nl:∀ x C a w,cv C (pD ts x) a w->pre x->cv C (s0 x) a w)
    (nO:∀ x,A.le (A.ae (pre x) (eJ aH T bf Ψ ann c (s0 x) (vI T fn.results.toList aW))) (sh x)):h8 P k ts aW sh:=by
  simp only[DK,Bool.and_eq_true,Bool.not_eq_true',decide_eq_true_eq]at cN;obtain⟨⟨⟨⟨DM,rC⟩,ait⟩,M7⟩,ue⟩:=cN;refine⟨um ao aa M7,λF w args x bo gu dX ra=>?_⟩;obtain⟨⟨gO,E⟩,U⟩:=nO x ra;have hlen:args.length=sM ts/\∀ i,i<sM ts->∀ (H:Nat->bK) (κ:Nat->bB),bA P H κ F w (ky ts x i) (args.getD i Go.undef):=by
    unfold sM;split
    · rename_i e
      subst e
      have:args=[]:=dX.1
      grind
    · rename_i e
      exact⟨(tO (H:=λ_=>⟨0,.fD⟩) (κ:=λ_=>⟨0,0,0,false⟩) ts dX e).1,λi G H κ=>(tO ts dX e).2 i G⟩
  let C:b_:={ P:=P,w0:=w,F0:=F,K0:=λr=>r<w.heap.size,nt:=fn.ntmps,r:=none,dfr:=[],il:=λ_=>none,cc:=⟨0,.cU,λ_=>False,λ_ _ _ _ _=>False⟩,aP:=aH }
  let a0:Act:={ tmps:=args.toArray++Array.replicate (fn.ntmps - args.toArray.size) undef,defers:=[] }
  let aiu:Nat->bB:=λ_=>⟨0,0,0,false⟩
  have qq:∀ i,(pD ts x).aA i=.undef\/(i<sM ts/\(pD ts x).aA i=ky ts x i):=λi=>by
    rcases UN (l:=Ap ts x (sM ts)) (i:=i) with e | e
    · exact .inl e
    · refine .inr ?_
      generalize bj:ft (Ap ts x (sM ts)) i=z at e
      simp only[Ap,List.mem_map,List.mem_range,Prod.mk.injEq]at e
      obtain⟨j,aG,rfl,rfl⟩:=e
      exact⟨aG,bj⟩
  have M:cv C (pD ts x) a0 w:=by
    refine⟨aiu, F, { dH := ?_, dfr := rfl, bU := λi => ?_, bD := λb => trivial, own := λb aa => (by cases aa), inj := λb be aa _ _ => (by cases aa), dd := bo, hh := λr M => .inl M, hU := λr M => M, hx := λr M => M, eH := λr _ => rfl, size := Nat.le_refl _, ev := de.refl w,gq:=ue,ks:=λb r h=>(by cases h),jI:=λb r h=>(by cases h),j7:=λb k h=>(by cases h),kt:=λb k h=>(by cases h),eN:=λl aM L n st e=>?_,jJ:=h2,iD:=gu }⟩
    · grind
    · rcases qq i with e | ⟨G,e⟩
      · rw[e];simp only[bA]
      · rw[e]
        have:a0.tmps.getD i Go.undef=args.getD i Go.undef:=by
          have dM:i<args.length:=by omega
          simp[a0,Array.getD_eq_getD_getElem?,List.getD_eq_getElem?_getD,Array.getElem?_append,dM]
        grind
    · rcases qq b5 with h | ⟨h,_⟩
      · grind
      · unfold b5 eT at *;omega
  refine callsIn_wide.1 (callsIn_of_wp_marks (F:=Fence.wide) (n:=0) ao aa trivial ?_);have hw:=UK ann C ek aV cC c1 (.inl rfl) (k:=vI T fn.results.toList aW) (O:=(eJ aH T bf Ψ ann c (s0 x) (vI T fn.results.toList aW)).bM) (Q:=bodyPostM Fence.wide 0 P fn λe w'=>∃ v y,e=.returned v/\(sh x).bM y/\tz P aW (u9 F w w') w' v y/\Below w.heap.size w w') c (s0 x) a0 w DM (nl x C a0 w M gO) ⟨E,λ_ h=>h⟩;refine hw λu hu e s' a' w' bb hm=>?_;obtain⟨cO,au,aU⟩:=cv.UQ hu bo (λ_ h=>h) bb;obtain⟨eQ,κ,Af,v,y,eY,c_,aT,F',f1,f2,gv⟩:=aiq (C:={ C with dfr:=u.ms.map oR++C.dfr }) aV rC cO hm;have tZ:LeavesInM Fence.wide 0 P fn a'.tmps (λe w'=>∃ v y,e=.returned v/\(sh x).bM y/\tz P aW (u9 F w w') w' v y/\Below w.heap.size w w') a'.defers .returning w':=by
    rw[au];simp only[C,List.append_nil];refine M6 u.ms w' hu.mD aU ⟨v,c_,v,y,rfl,U y aT,?_,eY.ev.os,eY.ev.tape,eY.ev.output,eY.size,eY.eH⟩;obtain⟨aE,aQ,aS,bN⟩:=gv;refine⟨aE,aQ,aS,fg aW (λr M=>?_) (c8.refl _ _) bN⟩;rcases f1 r M with h | h
    · exact .inl h
    · exact .inr ⟨Nat.le_of_not_lt h,f2 r M⟩
  cases e with
  | normal=>exact tZ
  | exit id=>grind
  | ret=>exact tZ
theorem aiv{P:Program}{aH:dG}(ek:P.follows .mixedOrders=true){k:FuncId}{fn:Func}{c:Code}{ann:cE}{ts aW:ad}{sh:ts.aj->A aW.aj}(aV:dT P T)(h2:qX P aH)(cC:jq P bf)(c1:l6 P aH Ψ)(ao:P.funcs[k]?=some fn)(aa:fn.body=some c)
  (cN:DK fn c ts aW=true) (nO:∀ x,A.le (DH aH T bf Ψ fn c ann ts aW x) (sh x)):h8 P k ts aW sh:=
 UR ek aV h2 cC c1 ao aa cN (ann:=ann) (s0:=pD ts) (pre:=λ_=>True) (λ_ _ _ _ h _=>h) λx aD=>⟨⟨trivial,(nO x aD).1⟩,(nO x aD).2⟩
theorem aiw{C:b_}{s:aC}{a:Act}{w:World}{n:Nat}(h:cv C s a w)(hc:DJ n s):cv C (Hx n s) a w:=by
 obtain⟨κ,F,M⟩:=h;refine⟨κ,F,{ M with bU:=λi=>?_,dH:=M.dH,dfr:=M.dfr,bD:=M.bD,eN:=λl aM L m st e=>?_ }⟩
 ·show bA C.P s.ab κ F w (if i<n\/eT<i then s.aA i else Hw (s.aA i)) _;split
  ·exact M.bU i
  ·rename_i G;have af:=M.bU i;have aq:=hc i G;unfold Hw;unfold DI at aq;split
   ·rename_i e p he;rw[he]at af aq;have aq:p.isSome=true:=aq;obtain⟨_,af⟩:=(dU rfl).1 af;simp only[bI]at af;rcases af with⟨_,rfl⟩ | ⟨q,y,bk,bt,rfl,aQ,aS⟩
    ·cases aq
    ·exact⟨q,bk,(List.cons.inj bt).1,aQ,aS⟩
   omega
 ·have e:(if b5<n\/eT<b5 then s.aA b5 else Hw (s.aA b5))=.aW l aM L m st:=e;rw[if_pos (.inr (by decide))]at e;exact M.eN l aM L m st e
theorem aix{P:Program}{aH:dG}(ek:P.follows .mixedOrders=true){k:FuncId}{fn:Func}{c:Code}{ann:cE}{n:Nat}{ts aW:ad}{sh:ts.aj->A aW.aj}(aV:dT P T)(h2:qX P aH)(cC:jq P bf)(c1:l6 P aH Ψ)(ao:P.funcs[k]?=some fn)(aa:fn.body=some c)
  (cN:DK fn c ts aW=true) (nO:∀ x,A.le (aip aH T bf Ψ fn c ann n ts aW x) (sh x)):h8 P k ts aW sh:=
 UR ek aV h2 cC c1 ao aa cN (ann:=ann) (s0:=λx=>Hx n (pD ts x)) (pre:=λx=>DJ n (pD ts x)) (λ_ _ _ _ h aq=>aiw h aq) nO
theorem M8{H:Nat->bK}{κ:Nat->bB}{F:Nat->Prop}{w:World}{P:Program}:∀ (g:z9') {avs l:List aI} {us:List Value},Aq g avs=some l->avs.length=us.length->(∀ i (h:i<avs.length) (dw:i<us.length),bA P H κ F w avs[i] us[i])->
  ∃ aE:List Value,C7 g us aE/\l.length=aE.length/\∀ i,i<aE.length->bA P H κ F w (l.getD i .undef) (aE.getD i undef)
 | [],[],l,us,h,al,_=>by
  cases h;have:us=[]:=List.eq_nil_of_length_eq_zero al.symm;subst this;exact⟨[],rfl,rfl,λi G=>by cases G⟩
 | [],_::_,_,_,h,_,_=>by cases h
 | none::_,[],_,_,h,_,_=>by cases h
 | some _::_,[],_,_,h,_,_=>by cases h
 | none::g,av::avs,l,[],_,al,_=>by cases al
 | some n::g,av::avs,l,[],_,al,_=>by cases al
 | none::g,av::avs,l,u::us,h,al,af=>by
  simp only[Aq]at h;split at h
  ·rename_i dJ Hq;cases h;obtain⟨aE,E,U,ah⟩:=M8 g Hq (by grind) λi h dw=>af (i+1) (Nat.succ_lt_succ h) (Nat.succ_lt_succ dw);refine⟨u::aE,⟨aE,rfl,E⟩,by grind,λi G=>?_⟩;cases i with
   | zero=>exact af 0 (Nat.zero_lt_succ _) (Nat.zero_lt_succ _)
   | succ i=>grind
  grind
 | some n::g,av::avs,l,u::us,h,al,af=>by
  simp only[Aq]at h;split at h
  ·rename_i m f dJ Hq;split at h
   ·rename_i Sz;cases h;subst Sz;obtain⟨aE,E,U,ah⟩:=M8 g Hq (by grind) λi h dw=>af (i+1) (Nat.succ_lt_succ h) (Nat.succ_lt_succ dw);obtain⟨cs,aQ,aS,bN⟩:bA P H κ F w (.agg m f) u:=af 0 (Nat.zero_lt_succ _) (Nat.zero_lt_succ _);refine⟨cs++aE,⟨cs.toArray,aE,aQ,by omega,λc hc=>?_,by simp,E⟩,by grind,λi G=>?_⟩
    ·obtain⟨j,aG,rfl⟩:=List.mem_iff_getElem.1 (by omega:c∈cs);grind
    grind
   grind
  grind
def aiy(P:Program)(aH:dG)(T:Nat->ad)(fn:Func)(c:Code)(ic:cM):Prop:=
 ∀ (C:b_) (D:ic.cm.aj) (Q:Exit->Act->World->Prop) (a:Act) (w:World),C.P=P->C.aP=aH->C.nt=fn.ntmps->C.r=none->C.dfr=[]->lA C.nt c=true->cv C (ic.cm.st D) a w->(ic.sh D).cr->
  (∀ u,C.jT u->∀ e s' a' w',cv (C.hl u) s' a' w'->A.cy (Hy T fn.results.toList ic.kF ic.bM e s') (ic.sh D).bM->Q e.py a' w')->c.wpIn (dS C.r) 0 C.P Q a w
theorem aiz{P:Program}{aH:dG}{k:FuncId}{fn:Func}{c:Code}{ic:cM}(aV:dT P T)(ao:P.funcs[k]?=some fn)(aa:fn.body=some c)
  (cN:DL fn c ic.kh ic.kF=true) (aiA:aiy P aH T fn c ic):cS P aH k ic:=by
 simp only[DL,Bool.and_eq_true,Bool.not_eq_true',decide_eq_true_eq]at cN;obtain⟨⟨⟨⟨DM,rC⟩,ait⟩,M7⟩,ue⟩:=cN;refine⟨um ao aa M7,λC a w κ F D jt As iO ru ss h2 M ra=>?_⟩;subst jt;subst As;subst h2;have aym:a.tmps.size=ic.kh:=M.dH.trans ss;have eX:∀ i,(a.tmps++Array.replicate (fn.ntmps - a.tmps.size) undef).getD i undef=a.tmps.getD i undef:=λi=>by
  simp only[Array.getD_eq_getD_getElem?,Array.getElem?_append];grind
 have bb:bm { C with nt:=fn.ntmps,dfr:=[],r:=none } (ic.cm.st D) { tmps:=a.tmps++Array.replicate (fn.ntmps - a.tmps.size) undef,defers:=[] } C.w0 κ F:=
  { M with dH:=(by grind),dfr:=rfl,gq:=ue,bU:=λi=>(by rw[eX];exact M.bU i),bD:=M.bD }
 refine callsIn_wide.1 (callsIn_of_wp_marks (F:=Fence.wide) (n:=0) ao aa trivial ?_);refine aiA { C with nt:=fn.ntmps,dfr:=[],r:=none } D _ _ C.w0 rfl rfl rfl rfl rfl DM ⟨κ,F,bb⟩ ra λu hu e s' a' w' bb hm=>?_;obtain⟨⟨nk,ej,cO⟩,au,aU⟩:=cv.UQ hu (λr h=>M.dd r (M.hU r h)) M.hx bb;have key:(∀ id,e≠.exit id)/\LeavesInM Fence.wide 0 C.P fn a'.tmps (λe w'=>∃ v bn aE κ' F',e=.returned v/\(ic.sh D).bM bn/\GP ic.kF v aE/\bm { C with nt:=aE.length } (ic.bM.st bn) { tmps:=aE.toArray,defers:=[] } w' κ' F') a'.defers .returning w':=by
  unfold Hy at hm;split at hm
  ·exact (gI hm).elim
  ·rename_i eQ;refine⟨λid he=>eQ id he,?_⟩;split at hm
   ·rename_i avs M4;split at hm
    ·rename_i l al;split at hm
     ·rename_i ch;have ch:l.length<=eT:=of_decide_eq_true ch;obtain⟨us,aQ,aS,bN,fm⟩:=UM (C:={ C with nt:=fn.ntmps,dfr:=u.ms.map oR++[],r:=none }) aV cO _ M4;obtain⟨aE,g1,ew,g3⟩:=M8 ic.kF al (by omega) fm;obtain⟨bn,gh,bL⟩:=uh hm;have a_:=cO.args (avs:=l) (us:=aE) (by omega) ew g3;obtain⟨Hn,Uw,_,mE⟩:=dK.z_ gh a_;rw[au];simp only[List.append_nil];have c_:(results fn a'.tmps).run C.P (pE w' u.ms)=.ok (if us.length=1 then us.getD 0 undef else .tuple us.toArray) (pE w' u.ms):=by
       rw[UL,Sem.run_bind];have:(fn.results.mapM (Ar a'.tmps)).run C.P (pE w' u.ms)=.ok us.toArray (pE w' u.ms):=by
        rw[Array.mapM_eq_mapM_toList,map_eq_pure_bind,Sem.run_bind,aQ];rfl
       rw[this];simp only[Result.andThen_ok,Sem.run_pure,List.size_toArray];grind
      refine M6 u.ms w' hu.mD aU ⟨_,c_,_,bn,aE,Hn,Uw,rfl,A.eb.1 bL,⟨us,?_,rfl,g1⟩,?_⟩
      ·rw[aS];simpa using rC
      ·have e:({ C with nt:=aE.length }:b_)={ C with nt:=aE.length,dfr:=[],r:=none }:=by
        cases C;simp only at iO ru;subst iO;subst ru;rfl
       rw[e];exact mE
     ·exact (gI hm).elim
    ·exact (gI hm).elim
   ·exact (gI hm).elim
 cases e with
 | normal=>exact key.2
 | exit id=>grind
 | ret=>exact key.2
theorem US{P:Program}{aH:dG}(ek:P.follows .mixedOrders=true){k:FuncId}{fn:Func}{c:Code}{ann:cE}{ic:cM}(aV:dT P T)(cC:jq P bf)(c1:l6 P aH Ψ)(ao:P.funcs[k]?=some fn)(aa:fn.body=some c)
  (cN:DL fn c ic.kh ic.kF=true) (nO:∀ D,A.le (M3 aH T bf Ψ fn c ann ic.cm ic.bM ic.kF D) (ic.sh D)):cS P aH k ic:=
 aiz aV ao aa cN λC D Q a w jt h2 _ iO _ DM M ra ak=>by
  subst jt;subst h2;obtain⟨E,U⟩:=nO D ra;exact UK ann C ek aV cC c1 (.inl iO) c (ic.cm.st D) (Hy T fn.results.toList ic.kF ic.bM) (M3 C.aP T bf Ψ fn c ann ic.cm ic.bM ic.kF D).bM Q a w DM M ⟨E,λ_ h=>h⟩ λu hu e s' a' w' bb hm=>ak u hu e s' a' w' bb ⟨hm.1,λy aT=>U y (hm.2 y aT)⟩
end
def rD:List (Nat×ad)->Nat->ad
 | [],_=>.cU
 | p::l,i=>if i=p.1 then p.2 else rD l i
def UT(P:Program)(l:List (Nat×ad)):Bool:=l.all λp=>cH P p.2 (.inl p.1)
theorem aiB{P:Program}{l:List (Nat×ad)}(h:UT P l=true):dT P (rD l):=by
 intro id;induction l with
 | nil=>exact .inl rfl
 | cons p l aL=>
  simp only[UT,List.all_cons,Bool.and_eq_true]at h;simp only[rD];split
  ·rename_i e;subst e;exact .inr h.1
  ·exact aL h.2
end Go.Fer
namespace Go.Fer
open Go.RowKit
theorem UU{P:Program}{aH:dG}{k:FuncId}{c:cM}(h:cS P aH k c)(h2:qX P aH){ic:zV}(mk:ic.ts.aj->Nat->(List ic.aM.aj->Prop)->c.cm.aj)(ax:c.kh=j9 ic.ts+1)(h3:c.kh<=eT)(ud:ic.ts≠.cU)
    (fp:∀ x l L i,(c.cm.st (mk x l L)).aA i=.undef\/(i<j9 ic.ts/\(c.cm.st (mk x l L)).aA i=ky ic.ts x i)\/(i=j9 ic.ts/\(c.cm.st (mk x l L)).aA i=.hg l)\/(i=b5/\(c.cm.st (mk x l L)).aA i=.aW l ic.aM L [] false))
    (iH:c.cm.bD=[]) (pC:∀ bn,∃ n st l L,(c.bM.st bn).aA b5=.aW l ic.aM L n st)
    (sf:∀ x l,ic.pre x->(c.sh (mk x l (λT=>T=ic.seq x))).cr/\∀ bn,(c.sh (mk x l (λT=>T=ic.seq x))).bM bn->∀ dJ e8 n,(c.bM.st bn).aA b5=.aW dJ ic.aM e8 n false->n=ic.seq x):Dd P k ic:=by
  refine⟨h.enter,λl I F Y w args x dX gO cN bo gu iI eB=>?_⟩;obtain⟨iE,Hl⟩:=tO (H:=λ_=>⟨0,.fD⟩) (κ:=λ_=>⟨0,0,0,false⟩) ic.ts dX ud;have uo:∀ b,(c.cm.st (mk x l (λT=>T=ic.seq x))).ab b=⟨0,.fD⟩:=λb=>by
    show eS (hk db c.cm.bD (eD db c.cm.bU (mk x l (λT=>T=ic.seq x))).2) b=_;generalize (eD db c.cm.bU (mk x l (λT=>T=ic.seq x))).2=z;revert z;rw[iH];intro z;rfl
  have cd:(args++[Value.func (.yield l) #[] #[]]).length=c.kh:=by grind
  have M:bm { P:=P,w0:=w,F0:=F,K0:=λr=>r<w.heap.size/\¬Y r,nt:=c.kh,r:=none,dfr:=[],il:=λ_=>none,cc:=⟨l,ic.aM,λT=>T=ic.seq x,I⟩,aP:=aH } (c.cm.st (mk x l (λT=>T=ic.seq x)))
      { tmps:=(args++[Value.func (.yield l) #[] #[]]).toArray,defers:=[] } w (λ_=>⟨0,0,0,false⟩) F:=
    { dH := by omega
      dfr:=rfl
      bU:=λi=>by
        rcases fp x l (λT=>T=ic.seq x) i with e | ⟨G,e⟩ | ⟨G,e⟩ | ⟨G,e⟩
        · rw[e];trivial
        · rw[e]
          have:=(tO (H:=(c.cm.st (mk x l (λT=>T=ic.seq x))).ab) (κ:=λ_=>⟨0,0,0,false⟩) ic.ts dX ud).2 i G
          have aN:(args++[Value.func (.yield l) #[] #[]]).toArray.getD i undef=args.getD i undef:=by
            rw[Array.getD_eq_getD_getElem?,List.getD_eq_getElem?_getD,List.getElem?_toArray,List.getElem?_append_left (by omega)]
          grind
        · rw[e]
          show (args++[Value.func (.yield l) #[] #[]]).toArray.getD i undef=_
          simp_all
        · rw[e];trivial
      bD:=λb=>by unfold cG;rw[uo b];trivial
      own:=λb aa=>by rw[uo b]at aa;cases aa
      inj:=λb be aa _ _=>by rw[uo b]at aa;cases aa
      dd:=bo
      hh:=λr M=>.inl M
      hU:=λr M=>M
      hx:=λr M=>M.1
      eH:=λ_ _=>rfl
      size:=Nat.le_refl _
      ev:=de.refl _
      gq:=h3
      ks:=λb r h=>by cases h
      jI:=λb r h=>by cases h
      j7:=λb k h=>by cases h
      kt:=λb k h=>by cases h
      eN:=λdJ kE e8 n st e=>by
        rcases fp x l (λT=>T=ic.seq x) b5 with a7 | ⟨G,_⟩ | ⟨G,_⟩ | ⟨_,a7⟩
        · grind
        · unfold b5 eT at *;omega
        · grind
        · rw[a7]at e
          cases e
          exact⟨⟨I,rfl⟩,cN,Y,λr M=>⟨(iI r M).1,(iI r M).2,λk=>k.2 M⟩,λb aa=>(by rw[uo b]at aa;cases aa),lT.zb.2 eB⟩
      jJ:=h2,iD:=gu }
  obtain⟨aD,tZ⟩:=sf x l gO;refine (h.iY _ _ w _ F _ rfl rfl rfl rfl rfl rfl M aD).mono λe w' ⟨v,bn,aE,κ',F',he,gh,_,bb⟩=>?_;obtain⟨n,st,dJ,e8,qq⟩:=pC bn;obtain⟨⟨aiC,M9⟩,_,gD,ah,a6,M_⟩:=bb.eN dJ ic.aM e8 n st qq;refine⟨v,n,st,F',gD,he,λfZ=>?_,lT.zb.1 M_,bb.hU,λr cO=>?_,bb.dd,λr E U=>bb.eH r ⟨E,U⟩,λr cO=>⟨?_,(ah r cO).1,(ah r cO).2.1⟩,bb.size,bb.ev⟩
  · grind
  · rcases bb.hh r cO with h | h
    · exact .inl h
    · by_cases aT:Y r
      · exact .inr (.inl aT)
      · exact .inr (.inr (Nat.le_of_not_lt λch=>h ⟨ch,aT⟩))
  grind
theorem M'{P:Program}{aH:dG}{k:FuncId}{c:cM}(h:cS P aH k c)(h2:qX P aH){cs:List ad}{aM:ad}{S:(gn (cs.map .bG)).aj->List aM.aj->Prop}(mk:(gn (cs.map .bG)).aj->Nat->(List aM.aj->Prop)->c.cm.aj)
    (ax:c.kh=j9 (gn (cs.map .bG))+1) (h3:c.kh<=eT) (ud:gn (cs.map .bG)≠.cU)
    (fp:∀ x l L i,(∃ T,S x T)->(c.cm.st (mk x l L)).aA i=.undef\/(i<j9 (gn (cs.map .bG))+1/\0<i/\∃ e y,(c.cm.st (mk x l L)).aA i=.dV e y/\ky (gn (cs.map .bG)) x (i - 1)=.val (.bG e) (some y))\/(i=0/\(c.cm.st (mk x l L)).aA i=.hg l)\/(i=b5/\(c.cm.st (mk x l L)).aA i=.aW l aM L [] false))
    (iH:c.cm.bD=[]) (pC:∀ bn,∃ n st l L,(c.bM.st bn).aA b5=.aW l aM L n st)
    (sf:∀ x l,(∃ L,S x L)->(c.sh (mk x l (S x))).cr/\∀ bn,(c.sh (mk x l (S x))).bM bn->∀ dJ e8 p,(c.bM.st bn).aA b5=.aW dJ aM e8 p false->S x p):w5 P k ⟨cs,aM,S⟩:=by
  refine⟨h.enter,λF w args x bo gu dX eQ l UW Y iI aiD aiE=>?_⟩;have cN:=UF aiD;obtain⟨iE,Hl⟩:=tO (H:=λ_=>⟨0,.fD⟩) (κ:=λ_=>⟨0,0,0,false⟩) (gn (cs.map .bG)) dX ud;have uo:∀ b,(c.cm.st (mk x l (S x))).ab b=⟨0,.fD⟩:=λb=>by
    show eS (hk db c.cm.bD (eD db c.cm.bU (mk x l (S x))).2) b=_;generalize (eD db c.cm.bU (mk x l (S x))).2=z;revert z;rw[iH];intro z;rfl
  have cd:(Value.func (.yield l) #[] #[]::args).length=c.kh:=by grind
  have M:bm { P:=P,w0:=w,F0:=F,K0:=λr=>r<w.heap.size/\¬Y r,nt:=c.kh,r:=none,dfr:=[],il:=λ_=>none,cc:=⟨l,aM,S x,UW⟩,aP:=aH } (c.cm.st (mk x l (S x)))
      { tmps:=(Value.func (.yield l) #[] #[]::args).toArray,defers:=[] } w (λ_=>⟨0,0,0,false⟩) F:=
    { dH := by omega
      dfr:=rfl
      bU:=λi=>by
        rcases fp x l (S x) i eQ with e | ⟨G,oI,lQ,y,e,aiF⟩ | ⟨G,e⟩ | ⟨G,e⟩
        · rw[e];trivial
        · rw[e]
          have:=(tO (H:=(c.cm.st (mk x l (S x))).ab) (κ:=λ_=>⟨0,0,0,false⟩) (gn (cs.map .bG)) dX ud).2 (i - 1) (by omega)
          have aN:(Value.func (.yield l) #[] #[]::args).toArray.getD i undef=args.getD (i - 1) undef:=by
            obtain⟨j,rfl⟩:∃ j,i=j+1:=⟨i - 1,by omega⟩
            simp
          rw[aN]
          rw[aiF]at this
          obtain⟨_,af⟩:=(dU rfl).1 this
          simp only[bI]at af
          rcases af with⟨_,ax⟩ | ⟨q,nb,bk,bt,Cw,aQ,aS⟩
          · cases ax
          · cases Cw
            exact⟨q,bk,(List.cons.inj bt).1,aQ,aS⟩
        · rw[e]
          subst G
          rfl
        · rw[e];trivial
      bD:=λb=>by unfold cG;rw[uo b];trivial
      own:=λb aa=>by rw[uo b]at aa;cases aa
      inj:=λb be aa _ _=>by rw[uo b]at aa;cases aa
      dd:=bo
      hh:=λr M=>.inl M
      hU:=λr M=>M
      hx:=λr M=>M.1
      eH:=λ_ _=>rfl
      size:=Nat.le_refl _
      ev:=de.refl _
      gq:=h3
      ks:=λb r h=>by cases h
      jI:=λb r h=>by cases h
      j7:=λb k h=>by cases h
      kt:=λb k h=>by cases h
      eN:=λdJ kE e8 n st e=>by
        rcases fp x l (S x) b5 eQ with a7 | ⟨G,_⟩ | ⟨G,_⟩ | ⟨_,a7⟩
        · grind
        · grind
        · grind
        · rw[a7]at e
          cases e
          exact⟨⟨UW,rfl⟩,cN,Y,λr M=>⟨(iI r M).1,(iI r M).2,λk=>k.2 M⟩,λb aa=>(by rw[uo b]at aa;cases aa),lT.zb.2 aiE⟩
      jJ:=h2,iD:=gu }
  obtain⟨aD,tZ⟩:=sf x l eQ;have fb:#[Value.func (.yield l) #[] #[]]++args.toArray=(Value.func (.yield l) #[] #[]::args).toArray:=by simp
  rw[fb];refine (h.iY _ _ w _ F _ rfl rfl rfl rfl rfl rfl M aD).mono λe w' ⟨v,bn,aE,κ',F',he,gh,_,bb⟩=>?_;obtain⟨n,st,dJ,e8,qq⟩:=pC bn;obtain⟨⟨aiC,M9⟩,_,gD,ah,a6,M_⟩:=bb.eN dJ aM e8 n st qq;refine⟨v,n,st,F',gD,he,λfZ=>?_,lT.zb.1 M_,bb.hU,λr cO=>?_,bb.dd,λr E U=>bb.eH r ⟨E,U⟩,λr cO=>⟨?_,(ah r cO).1,(ah r cO).2.1⟩,bb.size,⟨bb.ev.os,bb.ev.tape,bb.ev.output⟩⟩
  · grind
  · rcases bb.hh r cO with h | h
    · exact .inl h
    · by_cases aT:Y r
      · exact .inr (.inl aT)
      · exact .inr (.inr (Nat.le_of_not_lt λch=>h ⟨ch,aT⟩))
  grind
end Go.Fer
namespace Go.Fer
open Go.RowKit Go.ChangeShapes Go.WideShapes
def ad.hN:ad->Bool
 | .bool | .int _ | .str | .cU=>true
 | .st t=>t.hN
 | .aB a b=>a.hN&&b.hN
 | .slice e=>e.hN
 | _=>false
def ad.hE:(t:ad)->t.aj->Prop
 | .int k,x=>fU k x
 | .str,x=>x.length<2 ^ 63
 | .st t,x=>t.hE x
 | .aB a b,x=>a.hE x.1/\b.hE x.2
 | .slice e,xs=>xs.length<2 ^ 63/\∀ y∈xs,e.hE y
 | .array n e,xs=>xs.length=n/\∀ y∈xs,e.hE y
 | _,_=>True
theorem Au{P:Program}{w:World}{F:Nat->Prop}:∀ (t:ad) {cs:List Value} {x:t.aj},bI P t F w cs x->t.hE x
 | .bool,_,_,_=>trivial
 | .int _,_,_,h=>h.2
 | .str,_,_,h=>h.2
 | .cU,_,_,_=>trivial
 | .st t,_,_,h=>by simp only[bI]at h;exact Au t h
 | .aB a b,_,_,h=>by
  simp only[bI]at h;obtain⟨c,d,_,E,U⟩:=h;exact⟨Au a E,Au b U⟩
 | .slice e,_,xs,h=>by
  simp only[bI]at h;obtain⟨a,cap,_,E,U,ah,a6⟩:=h;refine⟨by omega,λy aT=>?_⟩;obtain⟨i,G,rfl⟩:=List.mem_iff_getElem.1 aT;cases a with
  | none=>have:=ah rfl;omega
  | some p=>
   obtain⟨bk,_,k⟩:=(a6 p rfl (by omega)).2.2 i G;exact Au e k
 | .array n e,_,xs,h=>by
  simp only[bI]at h;obtain⟨fq,_,E,U,ah⟩:=h;refine⟨U,λy aT=>?_⟩;obtain⟨i,G,rfl⟩:=List.mem_iff_getElem.1 aT;exact Au e (ah i G (by omega))
 | .bG _,_,_,_=>trivial
 | .map _ _,_,_,_=>trivial
 | .fn _ _,_,_,_=>trivial
 | .ct _,_,_,_=>trivial
 | .et,_,_,_=>trivial
section
variable {H:Type} {enc:TypeId×Value->H} {P:Program} {w:World}
theorem b9.cells{t:ad}{id:TypeId}(h:b9 P t id):P.cellsOf id=t.size:=by
 obtain⟨i,z,E,U,_⟩:=kx h.kv;simp[Program.cellsOf,E,U]
theorem UX{a:Addr}{n:Nat}{bk:List Value}(h:w.cells? 0 a n=some bk)(ax:0<n):a.spot=none/\a.block<w.heap.size/\bk.length=n/\∀ j (aG:j<bk.length),w.cell? ⟨a.block,a.off+j,none⟩=some bk[j]:=by
 have aa:=World.cells?_block h ax;have n':a.spot=none:=by
  unfold World.cells? at h;split at h
  ·obtain⟨m,rfl⟩:∃ m,n=m+1:=⟨n - 1,by omega⟩
   rw[List.range_succ_eq_map]at h;simp only[List.mapM_cons,Option.bind_eq_bind,Option.bind_eq_some_iff]at h;obtain⟨v,af,_⟩:=h;cases aD:a.spot with
   | none=>rfl
   | some x=>simp[World.cell?,Addr.add,aD]at af;split at af<;>cases af
  ·cases h
 unfold World.cells? at h;split at h
 ·have hlen:bk.length=n:=by
   have:∀ (l:List Nat) (r:List Value),l.mapM (λi=>w.cell? (a.add i))=some r->r.length=l.length:=by
    intro l;induction l with
    | nil=>intro r M;simp at M;subst M;rfl
    | cons x l aL=>
     intro r M;simp only[List.mapM_cons,Option.bind_eq_bind,Option.bind_eq_some_iff,Option.pure_def,Option.some.injEq]at M;obtain⟨v,_,p8,bb,rfl⟩:=M;simp[aL p8 bb]
   simpa using this _ _ h
  refine⟨n',aa,hlen,λj aG=>?_⟩;have:∀ (l:List Nat) (r:List Value),l.mapM (λi=>w.cell? (a.add i))=some r->∀ j (E:j<l.length) (U:j<r.length),w.cell? (a.add l[j])=some r[j]:=by
   intro l;induction l with
   | nil=>intro r _ j E;simp at E
   | cons x l aL=>
    intro r M j E U;simp only[List.mapM_cons,Option.bind_eq_bind,Option.bind_eq_some_iff,Option.pure_def,Option.some.injEq]at M;obtain⟨v,af,p8,bb,rfl⟩:=M;cases j with
    | zero=>exact af
    | succ j=>exact aL p8 bb j (by simpa using E) (by simpa using U)
  have E:=this _ _ h j (by simp;omega) aG;rw[<-E];have zo:a.add ((List.range n)[j]'(by simp;omega))=⟨a.block,a.off+j,none⟩:=by
   cases a;simp only at n';subst n';simp[Addr.add]
  rw[zo]
 ·cases h
def qy(w:World):Nat->Prop:=λr=>r<w.heap.size
def ad.oU(n:Nat):(t:ad)->t.aj->Prop
 | .st t,x=>t.oU n x
 | .aB a b,x=>a.oU n x.1/\b.oU n x.2
 | .slice e,xs=>xs.length<=n/\∀ y∈xs,e.oU n y
 | _,_=>True
structure BR(b:DataW H->Nat):Prop where
 len:∀ e s,e.length<=b (.slice e s)
 BS:∀ e s d,d∈e->b d<=b (.slice e s)
 Rn:∀ l d,d∈l->b d<=b (.agg l)
variable {b:DataW H->Nat} {N:Nat}
theorem aiG(aa:BR b)(t:ad):(t.hN=true->∀ {id:TypeId} {cg:Nat} {cs:List Value} {x:DataW H×List MemPlace},b9 P t id->DataW.trod enc P w 0 (λ_=>true) true cg id cs=some x->b x.1<=N->∃ y,bI P t (qy w) w cs y/\t.oU N y)/\
  (t.hN=true->∀ {l:List Field} {off n:Nat} {cs:List Value},cH P t (.inr (l,off))=true->(∀ f∈l,∃ x,DataW.trod enc P w 0 (λ_=>true) true n f.type ((cs.drop f.offset).take (P.cellsOf f.type))=some x/\b x.1<=N)->∃ y,bI P t (qy w) w ((cs.drop off).take t.size) y/\t.oU N y):=by
 induction t with
 | bool=>
  refine⟨λ_ {id cg cs x} aF h _=>?_,λ_ {l off n cs} h=>by simp[cH]at h⟩;have hu:P.underlying id=some .bool:=by
   unfold b9 at aF;simp only[cH,Bool.and_eq_true]at aF;obtain⟨_,aF⟩:=aF;split at aF
   ·assumption
   ·cases aF
  obtain⟨b,rfl,_⟩:=DataW.trod_bool hu h;exact⟨_,rfl,trivial⟩
 | int k=>
  refine⟨λ_ {id cg cs x} aF h _=>?_,λ_ {l off n cs} h=>by simp[cH]at h⟩;obtain⟨n,rfl,_,hw⟩:=DataW.trod_int aF.int h;simp only[Lit.wf,Bool.and_eq_true,decide_eq_true_eq]at hw;exact⟨n,⟨rfl,hw⟩,trivial⟩
 | str=>
  refine⟨λ_ {id cg cs x} aF h _=>?_,λ_ {l off n cs} h=>by simp[cH]at h⟩;obtain⟨s,rfl,_,hw⟩:=DataW.trod_string aF.str h;refine⟨s.data.toList,⟨by simp,?_⟩,trivial⟩;have:s.data.toList.length=s.size:=by rw[Array.length_toList];rfl
  rw[this];have:maxLen<2 ^ 63:=by decide
  omega
 | cU=>exact⟨λ_ {id cg cs x} aF h _=>by simp[b9,cH]at aF,λ_ {l off n cs} h=>by simp[cH]at h⟩
 | st t aL=>
  refine⟨λal {id cg cs x} aF h nm=>?_,λ_ {l off n cs} h=>by simp[cH]at h⟩;have al:t.hN=true:=al;have Hz:P.cellsOf id=t.size:=aF.cells;obtain⟨eW,hu⟩:=aF.st;obtain⟨xs,n,_,rfl,hlen,SG,ao⟩:=DataW.trod_struct hu h;unfold b9 at aF;simp only[cH,Bool.and_eq_true]at aF;obtain⟨_,aF⟩:=aF;rw[hu]at aF;have jm:∀ f∈eW.toList,∃ x,DataW.trod enc P w 0 (λ_=>true) true n f.type ((cs.drop f.offset).take (P.cellsOf f.type))=some x/\b x.1<=N:=by
   intro f aiH;obtain⟨i,G,rfl⟩:=List.mem_iff_getElem.1 aiH;have dM:i<eW.size:=by simpa using G
   refine⟨xs[i]'(by omega),?_,Nat.le_trans (aa.Rn _ _ (List.mem_map_of_mem (List.getElem_mem _))) nm⟩;rw[ao i _ (by simp[dM])];exact List.getElem?_eq_getElem _
  simp only at aF;split at aF
  ·have aF:=of_decide_eq_true aF;subst aF;have:cs=[]:=by
    have:=hlen.trans Hz;simpa [ad.size]using this
   subst this;exact⟨(),rfl,trivial⟩
  ·rename_i f fX;simp only[Bool.and_eq_true,beq_iff_eq,bne_iff_ne]at aF;obtain⟨⟨⟨aY,E⟩,_⟩,_⟩:=aF;obtain⟨x,ai,aiI⟩:=jm f (by rw[fX];simp);have hc:P.cellsOf f.type=t.size:=b9.cells E;rw[aY,hc,List.drop_zero,List.take_of_length_le (by omega)]at ai;exact aL.1 al E ai aiI
  ·obtain⟨y,aT⟩:=aL.2 al aF jm;rw[List.drop_zero,List.take_of_length_le (by omega)]at aT;exact⟨y,aT⟩
 | aB a b fC eM=>
  refine⟨λ_ {id cg cs x} aF h _=>by simp[b9,cH]at aF,λal {l off n cs} aF h=>?_⟩;simp only[ad.hN,Bool.and_eq_true]at al;have join:∀ {y:a.aj} {z:b.aj},bI P a (qy w) w ((cs.drop off).take a.size) y/\a.oU N y->bI P b (qy w) w ((cs.drop (off+a.size)).take b.size) z/\b.oU N z->∃ y,bI P (.aB a b) (qy w) w ((cs.drop off).take (ad.aB a b).size) y/\(ad.aB a b).oU N y:=by
   intro y z aT bj;refine⟨(y,z),⟨_,_,?_,aT.1,bj.1⟩,aT.2,bj.2⟩;simp only[ad.size];rw[List.take_add,List.drop_drop]
  match l,aF with
  | f::g::[],aF=>
   simp only[cH,Bool.and_eq_true,beq_iff_eq,bne_iff_ne]at aF;obtain⟨⟨⟨⟨aY,E⟩,_⟩,_⟩,⟨⟨⟨hn,aQ⟩,_⟩,_⟩⟩:=aF;obtain⟨x,ai,ax⟩:=h f (by simp);obtain⟨dL,nV,CH⟩:=h g (by simp);rw[aY,b9.cells E]at ai;rw[hn,b9.cells aQ]at nV;obtain⟨y,aT⟩:=fC.1 al.1 E ai ax;obtain⟨z,bj⟩:=eM.1 al.2 aQ nV CH;exact join aT bj
  | f::g::e::eW,aF=>
   simp only[cH,Bool.and_eq_true,beq_iff_eq,bne_iff_ne]at aF;obtain⟨⟨⟨⟨aY,E⟩,_⟩,_⟩,aQ⟩:=aF;obtain⟨x,ai,ax⟩:=h f (by simp);rw[aY,b9.cells E]at ai;obtain⟨y,aT⟩:=fC.1 al.1 E ai ax;obtain⟨z,bj⟩:=eM.2 al.2 aQ λiG ry=>h iG (List.mem_cons_of_mem _ ry);exact join aT bj
 | slice e aL=>
  refine⟨λal {id cg cs x} aF h nm=>?_,λ_ {l off n cs} h=>by simp[cH]at h⟩;have al:e.hN=true:=al;obtain⟨i,hu,he,cd⟩:=aF.sl;have Hz:=he.cells;rcases DataW.trod_slice hu h with⟨rfl,_⟩ | ⟨a,len,cap,elems,cj,n,rfl,rfl,ai,_,UY,xl,kf,eX,UZ,_⟩
  ·exact⟨[],⟨none,0,rfl,Nat.le_refl _,by decide,λ_=>rfl,λp aq=>by cases aq⟩,Nat.zero_le _,λy aT=>by cases aT⟩
  ·rw[ai]at nm;have lr:0<P.cellsOf i:=by rw[Hz];omega
   have key:∀ j,j<len->∃ bk y,w.cells? 0 (a.add (j*P.cellsOf i)) (P.cellsOf i)=some bk/\bI P e (qy w) w bk y/\e.oU N y:=by
    intro j aG;have:=eX j aG;rw[List.getElem?_eq_getElem (by omega)]at this;obtain⟨bk,E,U⟩:=Option.bind_eq_some_iff.1 this;obtain⟨y,aT⟩:=aL.1 al he U (Nat.le_trans (aa.BS _ _ _ (List.mem_map_of_mem (List.getElem_mem _))) nm);exact⟨bk,y,E,aT⟩
   have aiJ:0<cap->a.spot=none/\a.block<w.heap.size:=by
    intro hc;have:∃ bk,w.cells? 0 (a.add (0*P.cellsOf i)) (P.cellsOf i)=some bk:=by
     by_cases KA:0<len
     ·obtain⟨bk,_,E,_⟩:=key 0 KA;exact⟨bk,E⟩
     ·obtain⟨m1,m2⟩:=UZ rfl;have bj:len=0:=by omega
      subst bj;have:=m2 0 (by omega);rw[List.getElem?_eq_getElem (by omega)]at this;obtain⟨bk,E,_⟩:=Option.bind_eq_some_iff.1 this;exact⟨bk,E⟩
    obtain⟨bk,E⟩:=this;have az:a.add (0*P.cellsOf i)=a:=by unfold Addr.add;simp
    rw[az]at E;obtain⟨aQ,aS,_⟩:=UX E lr;exact⟨aQ,aS⟩
   have:∃ ys:List e.aj,ys.length=len/\∀ j (aG:j<ys.length),∃ bk,w.cells? 0 (a.add (j*P.cellsOf i)) (P.cellsOf i)=some bk/\bI P e (qy w) w bk ys[j]/\e.oU N ys[j]:=by
    clear eX kf h UY UZ nm;induction len with
    | zero=>exact⟨[],rfl,λj aG=>by simp at aG⟩
    | succ m aiK=>
     obtain⟨ys,ka,cV⟩:=aiK λj aG=>key j (by omega);obtain⟨bk,y,E,U⟩:=key m (by omega);refine⟨ys++[y],by simp[ka],λj aG=>?_⟩;by_cases xo:j<ys.length
     ·rw[List.getElem_append_left xo];exact cV j xo
     ·have:j=m:=by simp at aG;omega
      subst this;refine⟨bk,E,?_⟩;rw[List.getElem_append_right (by omega)];simpa [ka]using U
   have aiL:len<=N:=by have:=aa.len (elems.map (·.1)) (cj.map (·.1));rw[List.length_map,kf]at this;exact Nat.le_trans this nm
   obtain⟨ys,rfl,ka⟩:=this;have zC:maxLen<2 ^ 63:=by decide
   refine⟨ys,⟨some a,cap,rfl,UY,by omega,(by simp),λp aq va=>?_⟩,aiL,λy aT=>by
    obtain⟨j,aG,rfl⟩:=List.mem_iff_getElem.1 aT;obtain⟨bk,_,E,U⟩:=ka j aG;exact U⟩
   cases aq;obtain⟨aQ,aS⟩:=aiJ va;refine⟨aS,aQ,λj aG=>?_⟩;obtain⟨bk,d1,d2,_⟩:=ka j aG;obtain⟨m1,m2,m3,m4⟩:=UX d1 lr;refine⟨bk,⟨aS,rfl,λq bt=>?_⟩,d2⟩;have:=m4 q bt;have az:a.add (j*P.cellsOf i)=⟨a.block,a.off+j*e.size,none⟩:=by
    rw[Hz];cases a;simp only at aQ;subst aQ;unfold Addr.add;split
    ·rename_i aY;simp[aY]
    ·rfl
   rw[az]at this;exact this
 | array n e aL=>exact⟨λh=>by simp[ad.hN]at h,λh=>by simp[ad.hN]at h⟩
 | bG e aL=>exact⟨λh=>by simp[ad.hN]at h,λh=>by simp[ad.hN]at h⟩
 | map k v w2 w3=>exact⟨λh=>by simp[ad.hN]at h,λh=>by simp[ad.hN]at h⟩
 | fn a b fC eM=>exact⟨λh=>by simp[ad.hN]at h,λh=>by simp[ad.hN]at h⟩
 | ct a aL=>exact⟨λh=>by simp[ad.hN]at h,λh=>by simp[ad.hN]at h⟩
 | et=>exact⟨λh=>by simp[ad.hN]at h,λh=>by simp[ad.hN]at h⟩
theorem U0(aa:BR b){t:ad}(al:t.hN=true){id:TypeId}(aF:b9 P t id){base:Nat}{v:Value}{d:DataW H}{ps:List MemPlace}(cN:Value.okWide P w .any base id v)
  (h:DataW.Trod enc P w 0 (λ_=>true) true id v d ps) (nm:b d<=N):∃ y,eu P t (qy w) w v y/\t.oU N y:=by
 obtain⟨n,ax⟩:=h;obtain⟨y,aT,ao⟩:=(aiG aa t).1 al aF ax nm;refine⟨y,⟨?_,aT⟩,ao⟩;cases t with
 | bool=>
  simp only[bI]at aT;have hu:P.underlying id=some .bool:=by
   unfold b9 at aF;simp only[cH,Bool.and_eq_true]at aF;obtain⟨_,aF⟩:=aF;split at aF
   ·assumption
   ·cases aF
  simp only[Value.okWide,hu,Cell.okWide,Cell.ok]at cN;cases v<;>first | rfl | exact cN.elim
 | int k=>
  simp only[Value.okWide,aF.int,Cell.okWide,Cell.ok]at cN;cases v<;>first | rfl | exact cN.elim
 | str=>
  simp only[Value.okWide,aF.str,Cell.okWide,Cell.ok]at cN;cases v<;>first | rfl | exact cN.elim
 | cU=>simp[b9,cH]at aF
 | st t=>
  obtain⟨eW,hu⟩:=aF.st;simp only[Value.okWide,hu]at cN;obtain⟨cs,rfl,hc,_⟩:=cN;exact⟨cs,rfl,hc.trans aF.cells⟩
 | aB a b=>simp[b9,cH]at aF
 | slice e=>
  obtain⟨i,hu,_⟩:=aF.sl;simp only[Value.okWide,hu,Cell.okWide,Cell.ok]at cN;cases v<;>first | rfl | exact cN.elim
 | array n e=>simp[ad.hN]at al
 | bG e=>simp[ad.hN]at al
 | map k v=>simp[ad.hN]at al
 | fn a b=>simp[ad.hN]at al
 | ct a=>simp[ad.hN]at al
 | et=>simp[ad.hN]at al
def x2(P:Program):List TypeId->ad->Bool
 | [id],t=>cH P t (.inl id)&&t.hN
 | id::ids,.aB a b=>cH P a (.inl id)&&a.hN&&x2 P ids b
 | _,_=>false
theorem U1(aa:BR b):∀ (ids:List TypeId) (ts:ad) {base:Nat} {aE:List Value} {bk:List (DataW H)} {ps:List MemPlace},x2 P ids ts=true->DataW.TrodAll enc P w 0 (λ_=>true) true ids aE bk ps->
  (∀ (j:Nat) t v,ids[j]?=some t->aE[j]?=some v->Value.okWide P w .any base t v)->(∀ d∈bk,b d<=N)->∃ x,fr P ts (qy w) w aE x/\ts.oU N x
 | [],ts,_,aE,bk,ps,h,_,_,_=>by simp[x2]at h
 | [id],t,_,aE,bk,ps,h,iv,cN,nm=>by
  simp only[x2,Bool.and_eq_true]at h;obtain⟨v0,Na,d0,Nb,F2,Cl,rfl,rfl,rfl,aY,sN⟩:=trodAll_cons iv;obtain⟨rfl,rfl,rfl⟩:=trodAll_nil sN;obtain⟨y,⟨xQ,sE⟩,ao⟩:=U0 aa h.2 h.1 (cN 0 id v0 rfl rfl) aY (nm _ (List.mem_cons_self ..));refine⟨y,⟨?_,by simpa [ei]using sE⟩,ao⟩;cases t<;>first | exact⟨v0,rfl,xQ⟩ | (simp[cH]at h;done)
 | id::aiM::ids,ts,base,aE,bk,ps,h,iv,cN,nm=>by
  cases ts with
  | aB a b=>
   simp only[x2,Bool.and_eq_true]at h;obtain⟨v0,Na,d0,Nb,F2,Cl,rfl,rfl,rfl,aY,sN⟩:=trodAll_cons iv;obtain⟨y,⟨xQ,sE⟩,ao⟩:=U0 aa h.1.2 h.1.1 (cN 0 id v0 rfl rfl) aY (nm _ (List.mem_cons_self ..));obtain⟨z,⟨aiN,aiO⟩,ay⟩:=U1 aa (aiM::ids) b h.2 sN (λj t v E U=>cN (j+1) t v (by simpa using E) (by simpa using U)) λd au=>nm d (List.mem_cons_of_mem _ au);exact⟨(y,z),⟨⟨xQ,aiN⟩,_,_,J1 _ _,sE,aiO⟩,ao,ay⟩
  | _=>simp[x2]at h
theorem U2(al:laidOutB P=true){w':World}{U3:Nat->Bool}:∀ (ids:List TypeId) {aE:List Value} {bk:List (DataW H)} {ps:List MemPlace},(ids.all λt=>P.readableRec t&&decide (t<P.types.size))=true->
  DataW.TrodAll enc P w 0 (λ_=>true) true ids aE bk ps->(∀ p∈ps,w.sameAt w' p)->(∀ p∈ps,U3 p.block=true)->DataW.TrodAll enc P w' 0 U3 true ids aE bk ps
 | [],_,_,_,_,h,_,_=>by
  obtain⟨rfl,rfl,rfl⟩:=trodAll_nil h;rfl
 | id::ids,aE,bk,ps,M,h,E,U=>by
  simp only[List.all_cons,Bool.and_eq_true,decide_eq_true_eq]at M;obtain⟨v0,Na,d0,Nb,F2,Cl,rfl,rfl,rfl,aY,sN⟩:=trodAll_cons h;exact trodAll_cons_mk (Go.WideElems.Trod_stays al M.1.1 M.1.2 aY (λp aq=>E p (List.mem_append_left _ aq)) (λp aq=>U p (List.mem_append_left _ aq)))
   (U2 al ids M.2 sN (λp aq=>E p (List.mem_append_right _ aq)) (λp aq=>U p (List.mem_append_right _ aq)))
theorem acT(aa:BR b){k:FuncId}{fn:Func}{ts:ad}{sh:ts.aj->A (ad.bool).aj}{spec:ChangeSpec}{rt:TypeId}(aiP:laidOutB P=true)(xp:h8 P k ts .bool sh)(aiQ:∀ x,ts.hE x->ts.oU N x->A.cy (sh x) λy=>y=true)
  (dX:x2 P fn.params.toList ts=true) (aiR:(fn.params.toList.all λt=>P.readableRec t&&decide (t<P.types.size))=true) (gv:fn.resultTypes=#[rt]) (aiS:P.underlying rt=some .bool)
  (af:spec.vars=[]) (tv:∀ (H:Type) (bk:List (DataW H)),bk.length=fn.params.size->spec.fn H bk={ results:=[.lit (.bool true)],args:=bk })
  {base:Nat} {args:Array Value} {bk gs:List (DataW H)} {before:List MemPlace} (x3:∀ (j:Nat) t v,fn.params[j]?=some t->args[j]?=some v->Value.okWide P w .any base t v)
  (wX:DataW.Whole enc P fn.params.toList spec.vars false w args.toList bk gs before) (nm:∀ d∈bk,b d<=N) (gu:nQ P (qy w) w:=by exact λb aa=>absurd (show b<0 from aa) (Nat.not_lt_zero b)) :
  Calls P k args w λe qw=>∃ v,e=.returned v/\spec.post enc P fn false true false false w args v qw:=by
 have ch:=wX.lt;have U4:=wX;obtain⟨p,q,iv,Nc,rfl,tJ,_⟩:=wX;have bt:gs=[]/\q=[]:=by
  rw[af]at Nc;cases gs with
  | nil=>exact⟨rfl,Nc⟩
  | cons _ _=>exact Nc.elim
 obtain⟨rfl,rfl⟩:=bt;simp only[List.append_nil]at U4 ch tJ;obtain⟨x,ai,ao⟩:=U1 aa fn.params.toList ts dX iv (λj t v E U=>x3 j t v (by simpa using E) (by simpa using U)) nm;obtain⟨aD,ag⟩:=aiQ x (Au ts ai.2) ao;have vl:bk.length=fn.params.size:=by
  have:∀ (ids:List TypeId) {aE:List Value} {bk:List (DataW H)} {ps:List MemPlace},DataW.TrodAll enc P w 0 (λ_=>true) true ids aE bk ps->bk.length=ids.length:=by
   intro ids;induction ids with
   | nil=>intro aE bk ps h;obtain⟨rfl,rfl,rfl⟩:=trodAll_nil h;rfl
   | cons id ids aL=>intro aE bk ps h;obtain⟨v0,Na,d0,Nb,F2,Cl,rfl,rfl,rfl,aY,sN⟩:=trodAll_cons h;simp[aL sN]
  simpa using this _ iv
 have hc:=xp.iY (qy w) w args.toList x (λ_ h=>h) gu ai aD;refine hc.mono λe qw ⟨v,y,he,aT,M,aa⟩=>?_;have aT:=ag y aT;subst aT;obtain⟨aE,b8,cw⟩:=M;have aiT:v=.bool true:=by
  simp only[y']at b8;subst b8;obtain⟨⟨u,hu,nO⟩,nW⟩:=cw;simp only[List.cons.injEq,and_true]at hu;subst hu;simp only[kQ]at nO;simp only[J1,nO,BW,bI]at nW;simpa using nW
 subst aiT;have rf:∀ p'∈p,w.sameAt qw p':=by
  intro p' aq;have E:=aa.block _ (ch p' aq);cases p' with
  | cell b off=>simp only[World.sameAt,World.cell?];simp only[MemPlace.block]at E;rw[E]
  | map b=>exact E
 refine⟨_,he,bk,[],p,[],p,[],U4,?_,?_,?_,?_,λh=>by cases h⟩
 ·rw[List.append_nil,tv H bk vl,gv];exact trodAll_cons_mk (shut_bool aiS true) trodAll_mk0
 ·rw[List.append_nil,tv H bk vl];exact U2 aiP _ aiR iv rf λp' aq=>by simpa using ch p' aq
 ·rw[af,List.append_nil,tv H bk vl];rfl
 ·refine⟨aa.os,aa.output,λi G=>?_⟩;have E:=aa.block i G;rw[E];exact (World.keptBut_refl w λHA=>HA∈p/\(HA∈[]\/HA∈p\/HA∈[])).2.2 i G
end
end Go.Fer
namespace Go.Fer.ox
open Go.Proofs
abbrev t2:ad:=.int .i64
abbrev t3:ad:=.int .i64
abbrev t4:ad:=.bool
abbrev t5:ad:=.int .u8
abbrev aiU:ad:=.int .u8
abbrev aiV:ad:=.st (.aB t2 (.aB t3 (.aB t4 aiU)))
abbrev t9:ad:=.str
abbrev aiW:ad:=.str
abbrev aiX:ad:=.str
abbrev t21:ad:=.int .i32
abbrev x4:ad:=.st (.aB t3 t3)
abbrev Av:ad:=.st (.aB t3 (.aB t3 x4))
abbrev t22:ad:=.slice Av
abbrev e0:ad:=.slice t3
abbrev Aw:ad:=.st (.aB t3 (.aB e0 x4))
abbrev HB:ad:=.slice Aw
abbrev vJ:ad:=.st HB
abbrev DN:ad:=.slice vJ
abbrev Ax:ad:=.st (.aB t3 (.aB t3 (.aB t3 t3)))
abbrev HC:ad:=.slice Ax
abbrev oa:ad:=.st (.aB t22 (.aB DN (.aB t3 HC)))
abbrev x5:ad:=.st (.aB t3 (.aB t3 (.aB t3 (.aB t3 e0))))
abbrev t28:ad:=.slice x5
abbrev vK:ad:=.st (.aB e0 (.aB x4 (.aB t3 (.aB t3 t3))))
abbrev HD:ad:=.slice vK
abbrev rE:ad:=.st (.aB t3 (.aB t3 t3))
abbrev Ay:ad:=.slice rE
abbrev t32:ad:=.st (.aB oa (.aB e0 (.aB t28 (.aB HD (.aB Ay t3)))))
abbrev qz:ad:=.slice x4
abbrev jd:ad:=.st (.aB t3 (.aB t3 (.aB t3 (.aB t3 (.aB t3 t3)))))
abbrev ob:ad:=.slice jd
abbrev Nd:ad:=.st (.aB t3 (.aB t3 (.aB t3 (.aB t3 (.aB t3 (.aB t3 t3))))))
abbrev tu:ad:=.st (.aB qz (.aB ob (.aB e0 (.aB qz Nd))))
abbrev wY:ad:=.st (.aB t32 tu)
abbrev aiY:ad:=.int .i64
abbrev U5:ad:=.slice t9
abbrev J0:ad:=.st (.aB t3 (.aB t3 (.aB t3 t3)))
abbrev aiZ:ad:=.st (.aB t3 (.aB t3 (.aB t3 (.aB t3 (.aB t3 (.aB t3 (.aB t3 t3)))))))
abbrev qA:ad:=.st wY
abbrev t105:ad:=.bG qA
abbrev U6:ad:=.et
abbrev Nf:ad:=.st (.aB t3 (.aB t4 U6))
abbrev Ng:ad:=.map t9 Nf
abbrev DO:ad:=.slice e0
abbrev x6:ad:=.st (.aB oa DO)
abbrev U7:ad:=.bG x6
abbrev Nh:ad:=.fn t3 t3
abbrev qB:ad:=.st (.aB jd t3)
abbrev Ni:ad:=.slice qB
abbrev Nj:ad:=.array 10 Ni
abbrev DP:ad:=.st (.aB e0 Nj)
abbrev pF:ad:=.bG DP
abbrev Nk:ad:=.slice pF
abbrev rF:ad:=.st (.aB tu (.aB ob Nk))
abbrev vL:ad:=.bG rF
abbrev U8:ad:=.fn t3 t4
abbrev ai0:ad:=.fn vL t4
abbrev ai1:ad:=.fn (.aB jd t3) t4
abbrev t138:ad:=.ct (.aB jd t3)
abbrev U9:ad:=.fn pF (.aB t3 t4)
abbrev HE:ad:=.map t3 t3
abbrev Nl:ad:=.ct t3
abbrev ai2:ad:=.ct t3
abbrev U_:ad:=.st (.aB t3 t3)
abbrev U':ad:=.slice U_
abbrev Va:ad:=.st (.aB t3 (.aB t3 t3))
abbrev Vb:ad:=.map Va t3
abbrev t222:ad:=.st (.aB t32 (.aB U' Vb))
abbrev oV:ad:=.bG t222
abbrev ai3:ad:=.fn e0 t4
abbrev t164:ad:=.ct e0
abbrev Vc:ad:=.st (.aB t3 (.aB t3 t3))
abbrev ai4:ad:=.slice Vc
abbrev t171:ad:=.slice t5
abbrev Vd:ad:=.fn vK t4
abbrev Ve:ad:=.fn Ax t4
abbrev Nn:ad:=.fn jd t4
abbrev t228:ad:=.int .u64
abbrev ai5:ad:=.slice t3
abbrev ai6:ad:=.bG oa
abbrev ai7:ad:=.bG vJ
abbrev ai8:ad:=.array 4 t9
abbrev Vf:ad:=.st (.aB t3 (.aB t3 t3))
abbrev ai9:ad:=.map Vf t3
abbrev HF:ad:=.map t3 jd
abbrev ai_:ad:=.int .u32
abbrev Vg:ad:=.int .u64
abbrev Vh:ad:=.fn x5 t4
abbrev Vi:ad:=.fn rE t4
abbrev Vj:ad:=.fn Aw t4
abbrev Vk:ad:=.slice ob
abbrev Vl:ad:=.fn Av t4
abbrev Vm:ad:=.fn vJ t4
abbrev DQ:ad:=.fn (.aB qB qB) t3
abbrev ai':ad:=.int .i64
abbrev aja:ad:=.slice DO
abbrev ajb:ad:=.int .i64
abbrev Vn:ad:=.int .u64
abbrev ajc:ad:=.bG t3
abbrev Vo:ad:=.st (.aB jd t3)
abbrev ajd:ad:=.slice Vo
abbrev Vp:ad:=.st (.aB t3 e0)
abbrev aje:ad:=.slice Vp
abbrev ajf:ad:=.bG t5
abbrev ajg:ad:=.array 24 t5
abbrev ajh:ad:=.bG Vn
abbrev aji:ad:=.slice Ay
abbrev ajj:ad:=.array 256 t5
abbrev Vq:ad:=.st (.aB t5 t5)
abbrev ajk:ad:=.array 16 Vq
abbrev Vr:ad:=.st t9
abbrev ajl:ad:=.bG Vr
abbrev ajm:ad:=.array 20 Vg
abbrev ajn:ad:=.array 65 t5
abbrev ajo:ad:=.array 32 t5
abbrev ajp:ad:=.array 64 t5
abbrev ajq:ad:=.int .u8
def vM:List (Nat×ad):=[(2,t2),(3,t3),(4,t4),(5,t5),(8,aiV),(9,t9),(10,aiW),(11,aiX),(21,t21),(22,t22),(23,DN),(24,HC),(26,oa),(27,e0),(28,t28),(29,HD),(30,Ay),(32,t32),(33,qz),(34,ob),(36,Nd),(38,tu),(40,wY),(42,Ax),(44,aiY),(48,U5),(58,x4),(63,J0),(74,aiZ),(87,vK),(91,rE),(93,x5),(105,t105),(107,Ng),(111,qA),(115,U7),(121,DO),(123,x6),(125,jd),(128,Nh),(130,vL),(133,U8),(134,ai0),(137,pF),(138,t138),(140,U9),(141,Ni),(142,Nj),(144,qB),(148,HE),(149,Nk),(151,rF),(153,Nl),(154,ai2),(157,oV),(162,ai3),(164,t164),(165,ai4),(171,t171),(177,Vd),(188,U6),(190,Nf),(196,Av),(197,HB),(199,vJ),(201,Aw),(203,Ve),(209,Nn),(215,ai1),(217,DP),(219,Vb),(220,U'),(222,t222),(224,Va),(227,U_),(228,t228),(235,Vc),(237,ai5),(249,ai6),(253,ai7),(261,ai8),(269,ai9),(271,Vf),(273,HF),(282,ai_),(285,Vg),(289,Vh),(290,Vi),(297,Vj),(298,Vk),(304,Vl),(306,Vm),(311,DQ),(313,ai'),(336,aja),(351,ajb),(359,Vn),(363,ajc),(368,ajd),(372,Vo),(374,aje),(380,ajf),(386,ajg),(398,ajh),(402,Vp),(403,aji),(408,ajj),(410,Vq),(411,ajk),(414,ajl),(416,Vr),(418,ajm),(419,ajn),(423,ajo),(424,ajp),(432,ajq)]
theorem oc:dT Tryz.prog (rD vM):=aiB (by kernel_rfl)
theorem HG:Tryz.prog.follows .mixedOrders=true:=by kernel_rfl
def x7(_:Nat):Option aO:=none
theorem HH:jq Tryz.prog x7:=λk c h=>by cases h
def dE:dG:={ tA:=λ_=>none,tB:=λ_=>none }
theorem mF:qX Tryz.prog dE where
 tA:=λk v h=>by cases h
 tB:=λk v h=>by cases h
end Go.Fer.ox
namespace Go.Fer
open Go.RowKit
def hK.kG(c:hK):aO:=⟨c.ts,.aB c.aW .cU,λx=>(c.sh x).cr,λx=>((c.sh x).val c.aW.df,())⟩
end Go.Fer
namespace Go.Fer
theorem A.ajr{an:Type}{p:Prop}{m n:A an}(h:n.cr->p)(k:A.le m n):A.le (A.ae p m) n:=λaD=>⟨⟨h aD,(k aD).1⟩,(k aD).2⟩
theorem rG{an:Type}{o:Option an}{x:an}(h:o=some x):o.isSome=true:=by rw[h];rfl
def No(ts:ad)(x:ts.aj)(n:Nat):Nat->Prop
 | 0=>True
 | k+1=>No ts x n k/\DI (ky ts x (n+k))
theorem Vs{ts:ad}{x:ts.aj}{n:Nat}:∀ {k:Nat},No ts x n k->∀ i,i<k->DI (ky ts x (n+i))
 | 0,_,i,h=>by omega
 | k+1,hc,i,h=>by
  by_cases e:i=k
  ·rw[e];exact hc.2
  ·exact Vs hc.1 i (by omega)
theorem Vt(ts:ad)(x:ts.aj):∀ (l:List Nat) (i:Nat),ft (l.map λi=>(i,ky ts x i)) i=if i∈l then ky ts x i else .undef
 | [],i=>by simp[ft]
 | j::l,i=>by
  simp only[List.map_cons,ft];by_cases e:i=j
  ·subst e;simp
  ·rw[if_neg e,Vt ts x l i];simp[e]
theorem sO{ts:ad}{x:ts.aj}{n:Nat}(h:No ts x n (sM ts - n)):DJ n (pD ts x):=λi G=>by
 show DI (ft (Ap ts x (sM ts)) i);unfold Ap;rw[Vt];split
 ·rename_i hm;rw[List.mem_range]at hm;have ax:¬i<n:=λh=>G (.inl h);have:=Vs h (i - n) (by omega);rwa [show n+(i - n)=i by omega]at this
 ·trivial
end Go.Fer
namespace Go.Fer
open A (W)
theorem bF{n:Int}(E:-9223372036854775808<=n)(U:n<9223372036854775808):IntKind.i64.wrap n=n:=by
 show (if (true&&decide (n % 2 ^ 64>=(2 ^ (64 - 1):Int)))=true then n % 2 ^ 64 - 2 ^ 64 else n % 2 ^ 64)=n;grind
theorem cp(a b:Int):Add.add a b=a+b:=rfl
theorem hO(a b:Nat):Add.add a b=a+b:=rfl
theorem Vu{an:Type}(a b:List an):Append.append a b=a++b:=rfl
theorem bZ(n:Nat):Int.ofNat n=(n:Int):=rfl
theorem qC{x c d:Bool}:(x||!(if (!x)=true then c else d))=(x||!c):=by grind
theorem Vv{x c d:Bool}:(x||(if (!x)=true then c else d))=(x||c):=by grind
theorem vN{x c d:Bool}:(x&&(if x=true then c else d))=(x&&c):=by grind
namespace A
variable {an β gC D aJ:Type}
theorem bw{m:A an}{p:Prop}{v:an}(h:p->m=pure v):le m (dR p v):=λaq=>by
 rw[h aq];exact⟨trivial,λ_ aT=>aT⟩
theorem sP{m:A an}{p:Prop}{v:an}(h:p->cy m λy=>y=v):le m (dR p v):=λaq=>h aq
theorem gQ{p:Prop}{v d:an}:(dR p v).val d=v:=by
 unfold val;have h:∃ x,(dR p v).bM x:=⟨v,rfl⟩
 rw[dif_pos h];exact h.choose_spec
theorem fG{v d:an}:(pure v).val d=v:=gQ (p:=True)
theorem od{p:Prop}{v:an}:(dR p v).cr=p:=rfl
theorem vO{p:Prop}{v:an}:(dR p v).CS:=λ_ _ h k=>h.trans k.symm
theorem je{g:Bool}{p:Prop}{v d:an}:cu g (dR p v) d=dR (g=true->p) (if g=true then v else d):=by
 cases g
 ·exact (bR (by simp) _).symm
 ·simp[cu]
theorem lE{g:Bool}{v d:an}:cu g (pure v) d=pure (if g=true then v else d):=by cases g<;>rfl
theorem b7{f:D->A β}{x:D}:W.bC f (.next x:W D β)=f x:=rfl
theorem pG{f:D->A β}{r:β}:W.bC f (.done r:W D β)=pure r:=rfl
end A
def e1{an β aJ:Type}(f:an->β->W β aJ)(fin:β->aJ):List an->β->aJ
 | [],b=>fin b
 | x::l,b=>match f x b with
  | .next be=>e1 f fin l be
  | .done r=>r
def W.ho{D β aJ:Type}(g:β->D):W β aJ->W D aJ
 | .next b=>.next (g b)
 | .done r=>.done r
theorem A.f_{an β D aJ:Type}{body:D->A (W D aJ)}{s0:D}(l:List an)(mk:Nat->β->D)(f:an->β->W β aJ)(fin:β->aJ)(I:Nat->β->Prop)(b:β)(nl:s0=mk 0 b)(aY:I 0 b)
  (aD:∀ i (h:i<l.length) b,I i b->body (mk i b)=A.pure (W.ho (mk (i+1)) (f l[i] b))/\∀ be,f l[i] b=.next be->I (i+1) be)
  (ao:∀ b,I l.length b->body (mk l.length b)=A.pure (.done (fin b))):A.loop body s0=A.pure (e1 f fin l b):=by
 subst nl;have key:∀ (k:Nat) (r:List an) (b:β),k<=l.length->r=l.drop k->I k b->A.loop body (mk k b)=A.pure (e1 f fin r b):=by
  intro k r;induction r generalizing k with
  | nil=>
   intro b ak M eB;have:k=l.length:=by have:=congrArg List.length M;grind
   subst this;exact A.r6 (ao b eB)
  | cons x r aL=>
   intro b ak M eB;have ch:k<l.length:=by
    grind
   rw[List.drop_eq_getElem_cons ch]at M;injection M with ai M
   obtain⟨E,U⟩:=aD k ch b eB;rw[<-ai]at E U;simp only[e1];cases ry:f x b with
   | next be=>
    rw[ry]at E;rw[A.y_ E];grind
   | done p8=>
    rw[ry]at E;exact A.r6 E
 grind
theorem A.ed{an β D aJ:Type}{body:D->A (W D aJ)}{s0:D}(l:List an)(mk:Nat->β->D)(f:an->β->W β aJ)(fin:β->aJ)(b:β)(nl:s0=mk 0 b)
  (aD:∀ i (h:i<l.length) b,body (mk i b)=A.pure (W.ho (mk (i+1)) (f l[i] b)))
  (ao:∀ b,body (mk l.length b)=A.pure (.done (fin b))):A.loop body s0=A.pure (e1 f fin l b):=
 A.f_ l mk f fin (λ_ _=>True) b nl trivial (λi h b _=>⟨aD i h b,λ_ _=>trivial⟩) λb _=>ao b
section
variable {an β aJ:Type}
theorem sQ{p:an->Bool}{r:aJ}{fin:β->aJ}:∀ (l:List an) (b:β),e1 (λx b=>if p x=true then .done r else .next b) fin l b=if l.any p=true then r else fin b
 | [],b=>by rfl
 | x::l,b=>by
  simp only[e1,List.any_cons,Bool.or_eq_true];by_cases h:p x=true
  ·simp[h]
  ·have h:p x=false:=by grind
   simp only[h,Bool.false_eq_true,if_false,false_or];exact sQ l b
theorem HI{p:an->Bool}{r:aJ}{fin:β->aJ}:∀ (l:List an) (b:β),e1 (λx b=>if p x=true then .next b else .done r) fin l b=if l.all p=true then fin b else r
 | [],b=>by rfl
 | x::l,b=>by
  simp only[e1,List.all_cons,Bool.and_eq_true];by_cases h:p x=true
  ·simp only[h,if_true,true_and];exact HI l b
  grind
theorem eL{h:β->an->β}{fin:β->aJ}:∀ (l:List an) (b:β),e1 (λx b=>.next (h b x)) fin l b=fin (l.foldl h b)
 | [],b=>rfl
 | x::l,b=>by simp only[e1,List.foldl_cons];exact eL l (h b x)
theorem Vw{p:an->Bool}:∀ (l:List an) (b:List an),l.foldl (λb x=>if p x=true then b++[x] else b) b=b++l.filter p
 | [],b=>by simp
 | x::l,b=>by
  simp only[List.foldl_cons,List.filter_cons];rw[Vw l];grind
theorem sR{gC:Type}{g:an->gC}:∀ (l:List an) (b:List gC),l.foldl (λb x=>b++[g x]) b=b++l.map g
 | [],b=>by simp
 | x::l,b=>by simp only[List.foldl_cons,List.map_cons];rw[sR l];simp
end
theorem Vx{an:Type}{p q:an->Bool}(h:∀ x,p x=!q x)(l:List an):l.any p=!l.all q:=by
 grind
theorem kZ{an β aJ:Type}{p q:an->Bool}{r:aJ}{fin:β->aJ}(l:List an)(b:β)(h:∀ x,p x=!q x):e1 (λx b=>if p x=true then .done r else .next b) fin l b=if l.all q=true then fin b else r:=by
 rw[sQ,Vx h];grind
theorem nn{D β aJ:Type}{c:Bool}{mk:β->D}{b:β}{r:aJ}:(if c=true then A.pure (W.done r) else A.pure (W.next (mk b)))=A.pure (W.ho mk (if c=true then .done r else .next b)):=by cases c<;>rfl
theorem Vy{D β aJ:Type}{c:Bool}{mk:β->D}{b:β}{r:aJ}:(if c=true then A.pure (W.done r) else A.pure (W.next (mk b)))=A.pure (W.ho mk (if c=true then .done r else .next b)):=by cases c<;>rfl
theorem cX{l:Nat}{i:Nat}(h:i<l):decide ((i:Int)<(l:Int))=true:=by grind
theorem cP{l:Nat}{i:Nat}(h:i<l):((0:Int)<=(i:Int)/\(i:Int)<(l:Int))=True:=by grind
theorem dk{an:Type}{l:List an}{i:Nat}{d:an}(h:i<l.length):l.getD (Int.toNat (i:Int)) d=l[i]:=by
 grind
theorem x8{an:Type}{l:List an}{i:Int}{d:an}(aY:0<=i)(h:i<(l.length:Int)):l.getD i.toNat d∈l:=by
 grind
def d_(a b:Int):z1':=(List.range (b - a+1).toNat).map λ(i:Nat)=>a+(i:Int)
theorem x9(a b:Int):(d_ a b).length=(b - a+1).toNat:=by simp[d_]
theorem DR{a b:Int}{i:Nat}(h:i<(d_ a b).length):(d_ a b)[i]=a+i:=by simp[d_]
theorem oW{a b n:Int}:n∈d_ a b<->a<=n/\n<=b:=by
 simp only[d_,List.mem_map,List.mem_range];constructor
 ·omega
 ·rintro⟨E,U⟩;exact⟨(n - a).toNat,by omega,by omega⟩
end Go.Fer
namespace Go.Fer.ox
open Go.Proofs
abbrev oX:Type:=List (Nat×hK)
def oY{an:Type}:List (Nat×an)->Nat->Option an
 | [],_=>none
 | p::l,k=>if k=p.1 then some p.2 else oY l k
theorem DS{an:Type}{k:Nat}{c:an}:∀ {l:List (Nat×an)},oY l k=some c->(k,c)∈l
 | [],h=>by cases h
 | p::l,h=>by
  unfold oY at h;split at h
  ·rename_i e;cases h;subst e;simp
  ·exact List.mem_cons_of_mem _ (DS h)
def sS(T:oX):List (Nat×e7)->Nat->Option e7
 | [],k=>match oY T k with
  | some c=>some (.dx c)
  | none=>none
 | p::l,k=>if k=p.1 then some p.2 else sS T l k
def Vz(k:Nat)(c:hK):Prop:=h8 Tryz.prog k c.ts c.aW c.sh/\(c.dR=true->∀ x,(c.sh x).CS)
structure k0(T:oX):Type where
 ok:∀ p∈T,Vz p.1 p.2
abbrev ajs{T:oX}(_:k0 T):oX:=T
def ajt:k0 []:=⟨λp h=>by cases h⟩
def k0.cons{T:oX}(h:k0 T){n:Nat}{c:hK}(k:Vz n c):k0 ((n,c)::T):=⟨λp aq=>by
 rcases List.mem_cons.1 aq with rfl | aq
 ·exact k
 ·exact h.ok p aq⟩
def DT(aH:dG):List (Nat×e7)->Prop
 | []=>True
 | p::l=>p.2.hE Tryz.prog aH p.1/\DT aH l
theorem k0.HJ{aH:dG}{T:oX}(h:k0 T):∀ {sp:List (Nat×e7)},DT aH sp->l6 Tryz.prog aH (sS T sp)
 | [],_,k,c,e=>by
  unfold sS at e;split at e
  ·rename_i c' hc;cases e;exact h.ok (k,c') (DS hc)
  ·cases e
 | p::l,aD,k,c,e=>by
  unfold sS at e;split at e
  ·rename_i ak;cases e;subst ak;exact aD.1
  ·exact k0.HJ h (sp:=l) aD.2 k c e
def Az:ad->List ad
 | .cU=>[]
 | .aB a b=>a::Az b
 | t=>[t]
def VA:ad->ad
 | .bG t=>t
 | t=>t
def VB{ts VC:ad}(e:VC=ts){aW:ad}(sh:ts.aj->A aW.aj):VC.aj->A aW.aj:=e ▸ sh
def Np(pH:Nat)(c:hK):Option FA:=
 if h:((Az c.ts).take pH).all ad.gE=true/\gn ((Az c.ts).take pH++(((Az c.ts).drop pH).map VA).map .bG)=c.ts then some ⟨(Az c.ts).take pH,((Az c.ts).drop pH).map VA,c.aW,VB h.2 c.sh⟩ else none
def VD:z8'->Nat->Option Nat
 | [],_=>none
 | p::l,k=>if k=p.1 then some p.2 else VD l k
def AA(T:oX)(cl:z8')(HK:List (Nat×w4)):dG where
 tA:=λk=>match oY T k with
  | some c=>some ⟨c.ts,c.aW,c.sh⟩
  | none=>none
 tB:=λk=>match VD cl k with
  | some pH=>match oY T k with
   | some c=>Np pH c
   | none=>none
  | none=>none
 w6:=oY HK
def DU:List (Nat×w4)->Prop
 | []=>True
 | p::l=>w5 Tryz.prog p.1 p.2/\DU l
theorem DU.mem:∀ {l:List (Nat×w4)},DU l->∀ p∈l,w5 Tryz.prog p.1 p.2
 | [],_,p,h=>by cases h
 | q::l,h,p,aq=>by
  rcases List.mem_cons.1 aq with rfl | aq
  ·exact h.1
  ·exact DU.mem h.2 p aq
theorem aju{k pH:Nat}{c:hK}{v:FA}(h:h8 Tryz.prog k c.ts c.aW c.sh)(e:Np pH c=some v):v.as.all ad.gE=true/\h8 Tryz.prog k (gn (v.as++v.cs.map .bG)) v.aW v.sh:=by
 unfold Np at e;split at e
 ·rename_i cV;cases e;refine⟨cV.1,?_⟩;have key:∀ (ts:ad) (e:ts=c.ts),h8 Tryz.prog k ts c.aW (VB e c.sh):=by rintro _ rfl;exact h
  exact key _ cV.2
 ·cases e
theorem k0.u{T:oX}(h:k0 T)(cl:z8')(HK:List (Nat×w4))(G:DU HK):qX Tryz.prog (AA T cl HK) where
 tA:=λk v e=>by
  simp only[AA]at e;split at e
  ·rename_i c hc;cases e;exact (h.ok (k,c) (DS hc)).1
  ·cases e
 tB:=λk v e=>by
  simp only[AA]at e;split at e
  ·split at e
   ·rename_i c hc;exact aju (h.ok (k,c) (DS hc)).1 e
   ·cases e
  ·cases e
 w6:=λk v e=>G.mem (k,v) (DS e)
abbrev rH(fn:Func):Code:=fn.body.getD .skip
theorem HL{fn:Func}(h:fn.body.isSome=true):fn.body=some (rH fn):=by
 unfold rH;cases e:fn.body with
 | none=>rw[e]at h;cases h
 | some b=>rfl
abbrev DV(fn:Func)(ts aW:ad):Bool:=fn.body.isSome&&DK fn (rH fn) ts aW
theorem HM{T:oX}(aV:k0 T){aH:dG}(h2:qX Tryz.prog aH){sp:List (Nat×e7)}(n':DT aH sp){n:Nat}{fn:Func}(ao:Tryz.prog.funcs[n]?=some fn){ts aW:ad}{sh:ts.aj->A aW.aj}{ann:cE}{S:ts.aj->A aW.aj}(aD:∀ x,A.le (S x) (sh x))(cN:DV fn ts aW=true)(al:∀ x,DH aH (rD vM) x7 (sS T sp) fn (rH fn) ann ts aW x=S x):h8 Tryz.prog n ts aW sh:=
 have cN:=Bool.and_eq_true _ _ ▸ cN
 aiv HG oc h2 HH (aV.HJ n') ao (HL cN.1) cN.2 λx=>A.le_trans (A.le_of_eq (al x)) (aD x)
def mk{T:oX}(aV:k0 T){n:Nat}{fn:Func}(ao:Tryz.prog.funcs[n]?=some fn)(c:aO)(ann:cE){S:c.ts.aj->A c.aW.aj}(aD:∀ x,A.le (S x) (c.sh x))(cN:DV fn c.ts c.aW=true:=by kernel_rfl)(al:∀ x,DH dE (rD vM) x7 (sS T []) fn (rH fn) ann c.ts c.aW x=S x:=by intro x;kernel_rfl):k0 ((n,c.dx)::T):=
 aV.cons ⟨HM aV mF (sp:=[]) trivial ao aD cN al,λ_ _=>A.vO⟩
def l_{T:oX}(aV:k0 T)(cl:z8'){n:Nat}{fn:Func}(ao:Tryz.prog.funcs[n]?=some fn)(c:aO)(ann:cE){S:c.ts.aj->A c.aW.aj}(aD:∀ x,A.le (S x) (c.sh x))(cN:DV fn c.ts c.aW=true:=by kernel_rfl)(al:∀ x,DH (AA T cl []) (rD vM) x7 (sS T []) fn (rH fn) ann c.ts c.aW x=S x:=by intro x;kernel_rfl):k0 ((n,c.dx)::T):=
 aV.cons ⟨HM aV (aV.u cl [] trivial) (sp:=[]) trivial ao aD cN al,λ_ _=>A.vO⟩
def pI{T:oX}(aV:k0 T){aH:dG}(h2:qX Tryz.prog aH)(sp:List (Nat×e7))(n':DT aH sp){n:Nat}{fn:Func}(ao:Tryz.prog.funcs[n]?=some fn)(c:aO)(ann:cE){S:c.ts.aj->A c.aW.aj}(aD:∀ x,A.le (S x) (c.sh x))(cN:DV fn c.ts c.aW=true:=by kernel_rfl)(al:∀ x,DH aH (rD vM) x7 (sS T sp) fn (rH fn) ann c.ts c.aW x=S x:=by intro x;kernel_rfl):k0 ((n,c.dx)::T):=
 aV.cons ⟨HM aV h2 n' ao aD cN al,λ_ _=>A.vO⟩
def jV{T:oX}(aV:k0 T)(cl:z8'){n:Nat}{fn:Func}(ao:Tryz.prog.funcs[n]?=some fn)(c:aO)(pH:Nat)(ann:cE){S:c.ts.aj->A c.aW.aj}(aD:∀ x,A.le (S x) (c.sh x))(hc:∀ x,c.pre x->DJ pH (pD c.ts x):=by intro x h;obtain⟨f,ao,_⟩:=h;exact sO ⟨trivial,rG ao⟩)(cN:DV fn c.ts c.aW=true:=by kernel_rfl)
  (al:∀ x,eJ (AA T cl []) (rD vM) x7 (sS T []) ann (rH fn) (Hx pH (pD c.ts x)) (vI (rD vM) fn.results.toList c.aW)=S x:=by intro x;kernel_rfl):k0 ((n,c.dx)::T):=
 have cN:=Bool.and_eq_true _ _ ▸ cN
 aV.cons ⟨aix (n:=pH) HG oc (aV.u cl [] trivial) HH (aV.HJ (sp:=[]) trivial) ao (HL cN.1) cN.2 λx=>A.ajr (hc x) (A.le_trans (A.le_of_eq (al x)) (aD x)),λ_ _=>A.vO⟩
theorem d'{T:oX}(aV:k0 T){aH:dG}(sp:List (Nat×e7))(n':DT aH sp){n:Nat}{fn:Func}(ao:Tryz.prog.funcs[n]?=some fn){c:cM}(ann:cE){S:c.cm.aj->A c.bM.aj}(aD:∀ x,A.le (S x) (c.sh x))(cN:(fn.body.isSome&&DL fn (rH fn) c.kh c.kF)=true:=by kernel_rfl)(al:∀ x,M3 aH (rD vM) x7 (sS T sp) fn (rH fn) ann c.cm c.bM c.kF x=S x:=by intro x;kernel_rfl):cS Tryz.prog aH n c:=
 have cN:=Bool.and_eq_true _ _ ▸ cN
 US HG oc HH (aV.HJ n') ao (HL cN.1) cN.2 λx=>A.le_trans (A.le_of_eq (al x)) (aD x)
theorem Nq{aH:dG}{n:Nat}{fn:Func}(ao:Tryz.prog.funcs[n]?=some fn){c:cM}(aD:∀ x,¬(c.sh x).cr)(cN:(fn.body.isSome&&DL fn (rH fn) c.kh c.kF)=true:=by kernel_rfl):cS Tryz.prog aH n c:=
 have cN:=Bool.and_eq_true _ _ ▸ cN
 US HG oc HH (Ψ:=λ_=>none) (λk c h=>by cases h) (ann:=.eP) ao (HL cN.1) cN.2 λx h=>absurd h (aD x)
end Go.Fer.ox
namespace Go.Fer
open Go.RowKit
theorem ajv{P:Program}{aH:dG}{k:FuncId}{ts e:ad}(ud:ts≠.cU){c:cM}(h:cS P aH k c)(h2:qX P aH){sh:ts.aj->A (ad.slice e).aj}{b0:Nat}(mk:ts.aj->c.cm.aj)
    (ajw:∀ x,c.cm.st (mk x)=⟨ft ((List.range (j9 ts)).map λi=>(i,ky ts x i)),λ_=>⟨0,.fD⟩⟩) (ax:c.kh=j9 ts) (h3:c.kh<=eT) (ajx:c.kF=[none]) (val:c.bM.aj->List e.aj)
    (pC:∀ bn,(c.bM.st bn).aA 0=.own b0 0/\(c.bM.st bn).ab b0=⟨0,.bh e (val bn)⟩)
    (sf:∀ x,(sh x).cr->(c.sh (mk x)).cr/\∀ bn,(c.sh (mk x)).bM bn->val bn=(sh x).val (ad.slice e).df):nT (hK.kG ⟨ts,.slice e,sh,true⟩).aW=true/\CB P k (hK.kG ⟨ts,.slice e,sh,true⟩):=by
  refine⟨rfl,h.enter,?_⟩;intro (x:ts.aj) (aD:(sh x).cr) y aT F w args bo gu (dX:fr P ts F w args x);cases aT;obtain⟨iE,Hl⟩:=tO (H:=λ_=>⟨0,.fD⟩) (κ:=λ_=>⟨0,0,0,false⟩) ts dX ud;let C:b_:={ P:=P,w0:=w,F0:=F,K0:=λr=>r<w.heap.size,nt:=c.kh,r:=none,dfr:=[],il:=λ_=>none,cc:=⟨0,.cU,λ_=>False,λ_ _ _ _ _=>False⟩,aP:=aH }
  have Da:∀ i,ft ((List.range (j9 ts)).map λi=>(i,ky ts x i)) i=.undef\/(i<j9 ts/\ft ((List.range (j9 ts)).map λi=>(i,ky ts x i)) i=ky ts x i):=λi=>by
    rcases UN (l:=(List.range (j9 ts)).map λi=>(i,ky ts x i)) (i:=i) with e | e
    · exact .inl e
    · refine .inr ?_
      generalize bj:ft ((List.range (j9 ts)).map λi=>(i,ky ts x i)) i=z at e
      simp only[List.mem_map,List.mem_range,Prod.mk.injEq]at e
      obtain⟨j,aG,rfl,rfl⟩:=e
      exact⟨aG,rfl⟩
  have M:bm C (c.cm.st (mk x)) { tmps:=args.toArray,defers:=[] } w (λ_=>⟨0,0,0,false⟩) F:=by
    rw[ajw];refine { dH := ?_, dfr := rfl, bU := λi => ?_, bD := λb => trivial, own := λb aa => (by cases aa), inj := λb be aa _ _ => (by cases aa), dd := bo, hh := λr M => .inl M, hU := λr M => M, hx := λr M => M, eH := λr _ => rfl, size := Nat.le_refl _, ev := de.refl w,gq:=h3,ks:=λb r h=>(by cases h),jI:=λb r h=>(by cases h),j7:=λb k h=>(by cases h),kt:=λb k h=>(by cases h),eN:=λl aM L n st e=>?_,jJ:=h2,iD:=gu }
    · grind
    · rcases Da i with e | ⟨G,e⟩
      · show bA _ _ _ _ _ (ft _ i) _
        rw[e];trivial
      · show bA _ _ _ _ _ (ft _ i) _
        rw[e]
        have:=Hl i G
        simpa [Array.getD_eq_getD_getElem?,List.getD_eq_getElem?_getD]using this
    · rcases Da b5 with h | ⟨h,_⟩
      · grind
      · unfold b5 at h;unfold eT at h3;omega
  obtain⟨Mb,tW⟩:=sf x aD;refine (h.iY C _ w _ F (mk x) rfl rfl rfl rfl rfl rfl M Mb).mono λa7 w' ⟨v,bn,aE,κ',F',BY,gh,GZ,bb⟩=>?_;obtain⟨ajy,xT⟩:=pC bn;rw[ajx]at GZ;obtain⟨us,fF,L4,Nr⟩:=GZ;obtain⟨u,rfl⟩:∃ u,us=[u]:=by
    match us,fF with
    | [u],_=>simp
  have Ns:aE=[u]:=by
    obtain⟨_,Ns,U⟩:=Nr;rw[Ns,U]
  have af:v=u:=by simpa using L4
  have fp:=bb.bU 0;rw[ajy,Ns]at fp;have VE:u=(κ' b0).slice ((c.bM.st bn).ab b0).body.len:=by
    have:=fp.2 (by rw[xT]) (by rw[xT];rfl);simp_all
  rw[xT]at VE;have aU:=bb.bD b0;unfold cG at aU;rw[xT]at aU;obtain⟨E,U⟩:=aU;have x3:val bn=(sh x).val (ad.slice e).df:=tW bn gh;refine⟨κ' b0,F',by rw[BY,af,VE];simp only[bS.len];rw[x3];rfl,bb.hU,λr VF=>?_,λax=>?_,λax=>?_,bb.ev.os,bb.ev.tape,bb.ev.output,bb.size,bb.eH⟩
  · rcases bb.hh r VF with cV | cV
    · exact .inl cV
    · exact .inr ⟨Nat.le_of_not_lt cV,bb.dd r VF⟩
  · have:=E ax
    rw[x3]at this
    exact this
  · have ag:=bb.own b0 (by rw[xT];simp[bS.b1,ax])
    obtain⟨cs,T,bE,c2,c3,c4,c5⟩:=U ax
    rw[x3]at c3 c5
    exact⟨⟨Nat.le_of_not_lt ag.2.2,ag.1,ag.2.1⟩,cs,T,bE,c2,c3,c4,c5⟩
end Go.Fer
namespace Go.Fer
open A (W)
abbrev bx:Type:=z2'×List (List (Int×z1'×Int×Int))×Int×z2'
abbrev qD:Type:=bx×List (z1')
abbrev ff(l:z4')(a b:Int):z4':=lV (k:=.int .i64) (v:=.int .i64) l a b
abbrev vP(l:z5')(a:Int×Int×Int)(b:Int):z5':=lV (k:=.st (.aB (.int .i64) (.aB (.int .i64) (.int .i64)))) (v:=.int .i64) l a b
def Nt(x:z2'×List (List (Int×z1'×Int×Int))×Int×z2'):A bx:=
 A.ae (bQ (Add.add 0 (List.length x.1))) (A.ae (bQ (Add.add 0 (List.length x.2.2.2))) (A.bind (A.loop (λ(D:Int×bx×Int×Int×z2'×z2'×List (List (Int×z1'×Int×Int))×Unit)=>letI f:=D.1<Int.ofNat (List.length D.2.1.2.1);letI e:=List.getD D.2.1.2.1 (Int.toNat D.1) [];letI d:=D.2.2.2;if decide f=true then A.bind (A.ae (0<=D.1/\f) (A.ae (bQ (Add.add 0 (List.length e))) (A.bind (A.loop (λ(D:Int×Int×bx×Int×Int×z2'×z2'×List (Int×z1'×Int×Int)×List (List (Int×z1'×Int×Int))×Unit)=>letI i:=D.2.1;letI h:=D.2.2.2;letI b:=h.2.2;letI c:=i<Int.ofNat (List.length b.2.2.1);letI a:=List.getD b.2.2.1 (Int.toNat i) (0,[],0,0);if decide c=true then A.ae (0<=i/\c) (A.ae (bQ (Add.add 0 (List.length a.2.1))) (A.ae (0<=i/\c) (A.pure (W.next (D.1,IntKind.wrap .i64 (Add.add i 1),D.2.2.1,h.1,h.2.1,b.1,b.2.1,List.set b.2.2.1 (Int.toNat i) (a.1,[]++a.2.1,a.2.2),b.2.2.2.1,()))))) else A.bind (A.pure (W.next (D.1,D.2.2.1,h.1,h.2.1,b.1,b.2.1,b.2.2.1,b.2.2.2.1,()))) λr=>A.pure (W.done r)) (D.1,0,D.2.1,D.2.2.1,d.1,d.2.1,d.2.2.1,[]++e,d.2.2.2.1,())) (W.bC (λ(D:Int×bx×Int×Int×z2'×z2'×List (Int×z1'×Int×Int)×List (List (Int×z1'×Int×Int))×Unit)=>letI g:=D.2.2.2.2;A.ae (bQ (Add.add (List.length g.2.2.2.1) (Add.add 0 1))) (A.pure (W.next (D.1,D.2.1,D.2.2.1,D.2.2.2.1,g.1,g.2.1,g.2.2.2.1++[g.2.2.1],())))))))) (W.bC (λ(D:Int×bx×Int×Int×z2'×z2'×List (List (Int×z1'×Int×Int))×Unit)=>letI j:=D.2.2.2;A.pure (W.next (IntKind.wrap .i64 (Add.add D.1 1),D.2.1,D.2.2.1,j.1,j.2.1,j.2.2.1,j.2.2.2.1,())))) else A.bind (A.pure (W.next (D.2.2.1,d.1,d.2.1,d.2.2.1,d.2.2.2.1,()))) λr=>A.pure (W.done r)) (0,x,0,x.2.2.1,[]++x.1,[]++x.2.2.2,[],())) (W.bC (λ(D:Int×Int×z2'×z2'×List (List (Int×z1'×Int×Int))×Unit)=>A.pure (D.2.2.1,D.2.2.2.2.1,D.2.1,D.2.2.2.1)))))
def Nu(lF:Int×Int×Int->A Bool)(x:bx×Int):A Bool:=
 A.bind (lF (x.2,0,IntKind.wrap .i64 (Int.ofNat (List.length x.1.1)-1))) λy=>A.pure y
def HN(lF:Int×Int×Int->A Bool)(ajz:bx×Int->A Bool)(x:bx×Int×Int):A Bool:=
 A.bind (ajz (x.1,x.2.1)) λy=>A.ae (y=true->(y=true/\y=true)/\(0<=x.2.1/\x.2.1<Int.ofNat (List.length x.1.2.1))/\True) (A.bind (cu y (lF (x.2.2,0,IntKind.wrap .i64 (Int.ofNat (List.length (List.getD x.1.2.1 (Int.toNat x.2.1) []))-1))) false) (λb2=>A.pure (y&&b2)))
def Nv(ajA:z2'×List (List (Int×z1'×Int×Int))×Int×z2'->A Bool)(x:z2'×List (List (Int×z1'×Int×Int))×Int×z2'):A Int:=
 A.bind (ajA x) λy=>if (!y)=true then A.pure 70 else A.bind (A.loop (λ(D:Int×bx×Unit)=>if decide (D.1<Int.ofNat (List.length D.2.1.2.2.2))=true then A.bind (A.loop (λ(D:Int×Int×bx×Unit)=>letI d:=D.2.2.1.2.2.2;letI c:=Int.ofNat (List.length d);letI b:=List.getD d (Int.toNat D.1) (0,0,0,0);letI a:=List.getD d (Int.toNat D.2.1) (0,0,0,0);if decide (D.2.1<D.1)=true then A.ae (0<=D.2.1/\D.2.1<c) (A.ae (0<=D.1/\D.1<c) (if (decide (a.1=b.1)&&decide (a.2.1=b.2.1)&&decide (a.2.2.1=b.2.2.1)&&decide (a.2.2.2≠b.2.2.2))=true then A.bind (A.bind (A.bind (A.bind (A.pure 71) (λr=>A.pure (W.done r))) (λr=>A.pure (W.done r))) (λr=>A.pure (W.done r))) λr=>A.pure (W.done r) else A.pure (W.next (D.1,IntKind.wrap .i64 (Add.add D.2.1 1),D.2.2.1,())))) else A.bind (A.pure (W.next (D.1,D.2.2.1,()))) λr=>A.pure (W.done r)) (D.1,0,D.2.1,())) (W.bC (λ(D:Int×bx×Unit)=>A.pure (W.next (IntKind.wrap .i64 (Add.add D.1 1),D.2.1,())))) else A.bind (A.pure (W.next ())) λr=>A.pure (W.done r)) (0,x,())) (W.bC (λ(D:Unit)=>A.pure 0))
def VG(ajB:z1'×Int->A Bool)(lF:Int×Int×Int->A Bool)(x:bx×Int×Int×Int×Int):A Bool:=
 letI e:=x.2.2.2;letI c:=List.getD x.1.2.1 (Int.toNat e.1) [];letI b:=List.getD x.1.1 (Int.toNat x.2.1) (0,0,0,0);letI a:=List.getD c (Int.toNat e.2) (0,[],0,0);letI d:=decide (b.1=a.1);A.ae (0<=x.2.1/\x.2.1<Int.ofNat (List.length x.1.1)) (A.ae (0<=e.1/\e.1<Int.ofNat (List.length x.1.2.1)) (A.ae (0<=e.2/\e.2<Int.ofNat (List.length c)) (A.bind (cu d (ajB (a.2.1,b.2.1)) false) (λy=>A.bind (cu (d&&y) (lF (x.2.2.1,a.2.2.1,IntKind.wrap .i64 (Add.add a.2.2.2 x.1.2.2.1))) false) λb2=>A.pure (d&&y&&b2)))))
def Nw(x:z1'):A Bool:=
 A.bind (A.loop (λ(D:z1'×Int×Unit)=>letI c:=D.2.1;letI b:=IntKind.wrap .i64 (c-1);letI a:=Int.ofNat (List.length D.1);if decide (c<a)=true then A.ae (0<=c/\c<a) (A.ae (0<=b/\b<a) (if decide (List.getD D.1 (Int.toNat c) 0<=List.getD D.1 (Int.toNat b) 0)=true then A.bind (A.bind (A.pure false) (λr=>A.pure (W.done r))) λr=>A.pure (W.done r) else A.pure (W.next (D.1,IntKind.wrap .i64 (Add.add c 1),())))) else A.bind (A.pure (W.next ())) λr=>A.pure (W.done r)) (x,1,())) (W.bC (λ(D:Unit)=>A.pure true))
def ajC(x:Int×Int×Int):A Bool:=
 A.pure (decide (x.1>=x.2.1)&&decide (x.1<=x.2.2))
def Nx(lF:Int×Int×Int->A Bool)(x:bx×Int):A Bool:=
 A.bind (lF (x.2,0,IntKind.wrap .i64 (Int.ofNat (List.length x.1.2.1)-1))) λy=>A.pure y
def Ny(ajD:bx×Int->A Bool)(ajE:bx×Int×Int->A Bool)(lF:Int×Int×Int->A Bool)(Nz:Int×Int->A Bool)(ajF:Int×z1'×Int×Int->A Bool)(x:z2'×List (List (Int×z1'×Int×Int))×Int×z2'):A Bool:=
 letI c:=decide (Int.ofNat (List.length x.1) > 10)||decide (Int.ofNat (List.length x.2.1) > 6);A.bind (cu (!c) (lF (x.2.2.1,0,99)) false) λy=>if (c||!y||decide (Int.ofNat (List.length x.2.2.2) > 30))=true then A.pure false else A.bind (A.loop (λ(D:Int×bx×Unit)=>letI h:=D.1<Int.ofNat (List.length D.2.1.1);letI b:=List.getD D.2.1.1 (Int.toNat D.1) (0,0,0,0);if decide h=true then A.ae (0<=D.1/\h) (A.bind (lF (b.1,0,9)) (λy=>A.bind (cu (!(!y)) (lF (b.2.1,0,9)) false) λb2=>A.bind (cu (!(!y||!b2)) (Nz b.2.2) false) λdy=>if (!y||!b2||!dy)=true then A.bind (A.bind (A.pure false) (λr=>A.pure (W.done r))) λr=>A.pure (W.done r) else A.pure (W.next (IntKind.wrap .i64 (Add.add D.1 1),D.2.1,())))) else A.bind (A.pure (W.next (D.2.1,()))) λr=>A.pure (W.done r)) (0,x,())) (W.bC (λ(D:bx×Unit)=>A.bind (A.loop (λ(D:Int×bx×Unit)=>letI g:=D.1<Int.ofNat (List.length D.2.1.2.1);if decide g=true then A.bind (A.ae (0<=D.1/\g) (if decide (Int.ofNat (List.length (List.getD D.2.1.2.1 (Int.toNat D.1) [])) > 4)=true then A.bind (A.bind (A.bind (A.pure false) (λr=>A.pure (W.done r))) (λr=>A.pure (W.done r))) λr=>A.pure (W.done r) else A.loop (λ(D:Int×Int×bx×Unit)=>letI j:=D.2.2.1;letI e:=0<=D.1/\D.1<Int.ofNat (List.length j.2.1);letI d:=List.getD j.2.1 (Int.toNat D.1) [];letI i:=D.2.1<Int.ofNat (List.length d);A.ae e (if decide i=true then A.ae e (A.ae (0<=D.2.1/\i) (A.bind (ajF (List.getD d (Int.toNat D.2.1) (0,[],0,0))) (λy=>if (!y)=true then A.bind (A.bind (A.bind (A.bind (A.pure false) (λr=>A.pure (W.done r))) (λr=>A.pure (W.done r))) (λr=>A.pure (W.done r))) λr=>A.pure (W.done r) else A.pure (W.next (D.1,IntKind.wrap .i64 (Add.add D.2.1 1),j,()))))) else A.bind (A.pure (W.next (D.1,j,()))) λr=>A.pure (W.done r))) (D.1,0,D.2.1,()))) (W.bC (λ(D:Int×bx×Unit)=>A.pure (W.next (IntKind.wrap .i64 (Add.add D.1 1),D.2.1,())))) else A.bind (A.pure (W.next (D.2.1,()))) λr=>A.pure (W.done r)) (0,D.1,())) (W.bC (λ(D:bx×Unit)=>A.bind (A.loop (λ(D:Int×bx×Unit)=>letI f:=D.1<Int.ofNat (List.length D.2.1.2.2.2);letI a:=List.getD D.2.1.2.2.2 (Int.toNat D.1) (0,0,0,0);if decide f=true then A.ae (0<=D.1/\f) (A.bind (ajD (D.2.1,a.1)) (λy=>A.bind (cu (!(!y)) (ajE (D.2.1,a.2.1,a.2.2.1)) false) λb2=>A.bind (cu (!(!y||!b2)) (lF (a.2.2.2,0,1)) false) λdy=>if (!y||!b2||!dy)=true then A.bind (A.bind (A.pure false) (λr=>A.pure (W.done r))) λr=>A.pure (W.done r) else A.pure (W.next (IntKind.wrap .i64 (Add.add D.1 1),D.2.1,())))) else A.bind (A.pure (W.next ())) λr=>A.pure (W.done r)) (0,D.1,())) (W.bC (λ(D:Unit)=>A.pure true))))))
def NA(lF:Int×Int×Int->A Bool)(x:Int×Int):A Bool:=
 A.bind (lF (x.1,0,x.2)) λy=>A.pure (y&&decide (x.2<=999))
def NB(ajG:z1'->A Bool)(lF:Int×Int×Int->A Bool)(Nz:Int×Int->A Bool)(x:Int×z1'×Int×Int):A Bool:=
 A.bind (A.loop (λ(D:Int×(Int×z1'×Int×Int)×Unit)=>letI b:=D.1<Int.ofNat (List.length D.2.1.2.1);if decide b=true then A.ae (0<=D.1/\b) (A.bind (lF (List.getD D.2.1.2.1 (Int.toNat D.1) 0,0,9)) (λy=>if (!y)=true then A.bind (A.bind (A.pure false) (λr=>A.pure (W.done r))) λr=>A.pure (W.done r) else A.pure (W.next (IntKind.wrap .i64 (Add.add D.1 1),D.2.1,())))) else A.bind (A.pure (W.next (D.2.1,()))) λr=>A.pure (W.done r)) (0,x,())) (W.bC (λ(D:(Int×z1'×Int×Int)×Unit)=>A.bind (lF (D.1.1,0,9)) λy=>letI a:=y&&decide (Int.ofNat (List.length D.1.2.1)<=4);A.bind (cu a (ajG D.1.2.1) false) λb2=>A.bind (cu (a&&b2) (Nz D.1.2.2) false) λdy=>A.pure (a&&b2&&dy)))
def VH(ayn:Int×Int->A (Int×Int))(ajH:Int×Int->A (Int×Int))(x:Int×Int):A (Int×Int):=
 A.bind (ajH x) λy=>A.pure y
def VI(ajI:z1'×Int->A Int)(x:z1'×Int):A Bool:=
 A.bind (ajI x) λy=>A.pure (decide (y>=0))
def VJ(x:Int×Int):A (Int×Int):=
 A.ae ((0:Int)<=32) (A.ae ((0:Int)<=32) (A.ae ((0:Int)<=32) (A.ae ((0:Int)<=32) (A.ae ((0:Int)<=32) (A.pure (IntKind.wrap .u64 (Add.add (IntKind.wrap .u64 (Add.add (IntKind.wrap .u64 (jl .u64 x.1 32*jl .u64 x.2 32)) (jl .u64 (IntKind.wrap .u64 (Add.add (IntKind.wrap .u64 (jl .u64 x.1 32*lU .u64 x.2 4294967295)) (jl .u64 (IntKind.wrap .u64 (lU .u64 x.1 4294967295*lU .u64 x.2 4294967295)) 32))) 32))) (jl .u64 (IntKind.wrap .u64 (Add.add (lU .u64 (IntKind.wrap .u64 (Add.add (IntKind.wrap .u64 (jl .u64 x.1 32*lU .u64 x.2 4294967295)) (jl .u64 (IntKind.wrap .u64 (lU .u64 x.1 4294967295*lU .u64 x.2 4294967295)) 32))) 4294967295) (IntKind.wrap .u64 (lU .u64 x.1 4294967295*jl .u64 x.2 32)))) 32)),IntKind.wrap .u64 (x.1*x.2)))))))
def NC(x:z1'×Int):A Int:=
 A.bind (A.loop (λ(D:z1'×Int×Int×Int×Unit)=>letI a:=D.2.2.2.1;if decide (a<D.2.2.1)=true then A.ae (0<=a/\a<Int.ofNat (List.length D.1)) (if decide (D.2.1=List.getD D.1 (Int.toNat a) 0)=true then A.bind (A.bind (A.pure a) (λr=>A.pure (W.done r))) λr=>A.pure (W.done r) else A.pure (W.next (D.1,D.2.1,D.2.2.1,IntKind.wrap .i64 (Add.add a 1),()))) else A.bind (A.pure (W.next ())) λr=>A.pure (W.done r)) (x.1,x.2,Int.ofNat (List.length x.1),0,())) (W.bC (λ(D:Unit)=>A.pure (-1)))
def ND(ajJ:z2'×List (List (Int×z1'×Int×Int))×Int×z2'->A Bool)(x:z2'×List (List (Int×z1'×Int×Int))×Int×z2'):A Int:=
 A.bind (ajJ x) λy=>if (!y)=true then A.pure 70 else A.bind (A.loop (λ(D:z2'×Int×Int×z5'×Unit)=>letI c:=D.2.2.1;letI a:=List.getD D.1 (Int.toNat c) (0,0,0,0);letI b:=Option.map (λx=>x.2) (List.find? (λp=>decide (a.1=p.1.1)&&(decide (a.2.1=p.1.2.1)&&decide (a.2.2.1=p.1.2.2))) D.2.2.2.1);if decide (c<D.2.1)=true then A.ae (0<=c/\c<Int.ofNat (List.length D.1)) (if (Option.isSome b&&decide (Option.getD b 0≠a.2.2.2))=true then A.bind (A.bind (A.pure 71) (λr=>A.pure (W.done r))) λr=>A.pure (W.done r) else A.pure (W.next (D.1,D.2.1,IntKind.wrap .i64 (Add.add c 1),vP D.2.2.2.1 (a.1,a.2.1,a.2.2.1) a.2.2.2,()))) else A.bind (A.pure (W.next ())) λr=>A.pure (W.done r)) (x.2.2.2,Int.ofNat (List.length x.2.2.2),0,[],())) (W.bC (λ(D:Unit)=>A.pure 0))
def NF(mG:bx×Bool->A (Option qD×Int))(iy:bx×Int->A Bool)(x:bx×Int):A ((Int×Int)×Int):=
 letI a:=Int.toNat x.2;A.ae (iy x).cr (A.ae (mG (x.1,A.val (iy x) false)).cr (if decide ((A.val (mG (x.1,A.val (iy x) false)) (none,0)).2≠0)=true then A.pure ((0,0),(A.val (mG (x.1,A.val (iy x) false)) (none,0)).2) else A.ae (Option.isSome (A.val (mG (x.1,A.val (iy x) false)) (none,0)).1=true) (A.ae (0<=x.2/\x.2<Int.ofNat (List.length (Option.getD (A.val (mG (x.1,A.val (iy x) false)) (none,0)).1 (([],[],0,[]),[])).2)) (A.ae ((0:Int)<=0/\0<Int.ofNat (List.length (List.getD (Option.getD (A.val (mG (x.1,A.val (iy x) false)) (none,0)).1 (([],[],0,[]),[])).2 a []))) (A.ae (0<=IntKind.wrap .i64 (Int.ofNat (List.length (List.getD (Option.getD (A.val (mG (x.1,A.val (iy x) false)) (none,0)).1 (([],[],0,[]),[])).2 a []))-1)/\IntKind.wrap .i64 (Int.ofNat (List.length (List.getD (Option.getD (A.val (mG (x.1,A.val (iy x) false)) (none,0)).1 (([],[],0,[]),[])).2 a []))-1)<Int.ofNat (List.length (List.getD (Option.getD (A.val (mG (x.1,A.val (iy x) false)) (none,0)).1 (([],[],0,[]),[])).2 a []))) (A.pure ((List.getD (List.getD (Option.getD (A.val (mG (x.1,A.val (iy x) false)) (none,0)).1 (([],[],0,[]),[])).2 a []) (Int.toNat 0) 0,List.getD (List.getD (Option.getD (A.val (mG (x.1,A.val (iy x) false)) (none,0)).1 (([],[],0,[]),[])).2 a []) (Int.toNat (IntKind.wrap .i64 (Int.ofNat (List.length (List.getD (Option.getD (A.val (mG (x.1,A.val (iy x) false)) (none,0)).1 (([],[],0,[]),[])).2 a []))-1))) 0),0)))))))
def NG(mG:bx×Bool->A (Option qD×Int))(iy:bx×Int->A Bool)(x_:bx×Int×Int->A Bool)(ajK:Option qD×Int×Int×Int->A Int)(x:bx×Int×Int×Int):A (Int×Int):=
 letI b:=(x.1,x.2.2);letI a:=(x.1,x.2.1);A.ae (iy a).cr (A.ae (A.val (iy a) false=true->(A.val (iy a) false=true/\A.val (iy a) false=true/\A.val (iy a) false=true/\True)/\(x_ b).cr/\True) (A.ae (True/\(A.val (iy a) false=true->A.val (iy a) false=true)) (A.ae (mG (x.1,A.val (iy a) false&&A.val (x_ b) false)).cr (if decide ((A.val (mG (x.1,A.val (iy a) false&&A.val (x_ b) false)) (none,0)).2≠0)=true then A.pure (0,(A.val (mG (x.1,A.val (iy a) false&&A.val (x_ b) false)) (none,0)).2) else A.bind (ajK ((A.val (mG (x.1,A.val (iy a) false&&A.val (x_ b) false)) (none,0)).1,x.2)) λy=>A.pure (y,0)))))
def VK(oZ:Int×Int×Int->A Bool)(ajL:z2'×(Int×Int×Int×Int->A Bool)->A Bool)(ajM:List (List (Int×z1'×Int×Int))×(List (Int×z1'×Int×Int)->A Bool)->A Bool)(NH:z2'×(Int×Int×Int×Int->A Bool)->A Bool)(ajN:List (Int×z1'×Int×Int)×Option (Int×z1'×Int×Int->A Bool)->A Bool)(ajO:(Int×Int×Int×Int)×Option bx->A Bool)(ajP:Int×Int×Int×Int->A Bool)(ajQ:Int×z1'×Int×Int->A Bool)(x:z2'×List (List (Int×z1'×Int×Int))×Int×z2'):A Bool:=
 letI c:=decide (Int.ofNat (List.length x.1)<=10);A.bind (cu c (ajL (x.1,ajP)) false) λy=>letI a:=c&&y&&decide (Int.ofNat (List.length x.2.1)<=6);A.bind (cu a (ajM (x.2.1,λx=>ajN (x,some ajQ))) false) λb2=>A.bind (cu (a&&b2) (oZ (x.2.2.1,0,99)) false) λdy=>letI b:=a&&b2&&dy&&decide (Int.ofNat (List.length x.2.2.2)<=30);A.bind (cu b (NH (x.2.2.2,λhB=>ajO (hB,some x))) false) λfu=>A.pure (b&&fu)
def NI(DW:z2'×List (List (Int×z1'×Int×Int))×Int×z2'->A Int)(NH:z2'×(Int×Int×Int×Int->A Bool)->A Bool)(ajR:(Int×Int×Int×Int)×Option Int×Option bx×Option Int->A Bool)(x:bx×Bool):A (Option qD×Int):=
 A.bind (DW x.1) λy=>if decide (y≠0)=true then A.pure (none,y) else if (!x.2)=true then A.pure (none,1) else A.bind (A.loop (λ(D:z2'×Int×Int×bx×z2'×List (List (Int×z1'×Int×Int))×Int×z2'×List (z1')×Unit)=>letI i:=D.2.2.1;letI g:=List.getD D.1 (Int.toNat i) (0,0,0,0);letI c:=D.2.2.2.2;if decide (i<D.2.1)=true then A.bind (A.ae (0<=i/\i<Int.ofNat (List.length D.1)) (A.bind (A.loop (λ(D:z2'×Int×Int×bx×Int×(Int×Int×Int×Int)×z1'×Int×z2'×List (List (Int×z1'×Int×Int))×Int×z2'×List (z1')×Unit)=>letI d:=D.2.2.2;letI a:=d.2.2.2;letI j:=a.2.2;letI e:=j.2.2;if decide (a.2.1<=d.2.2.1.2.2.2)=true then A.bind (A.bind (NH (d.1.2.2.2,λx=>ajR (x,some d.2.1,some d.1,some a.2.1))) (λy=>if y=true then A.ae (bQ (Add.add (List.length a.1) (Add.add 0 1))) (A.pure (W.next (D.1,D.2.1,D.2.2.1,d.1,d.2.1,d.2.2.1,a.1++[a.2.1],a.2.1,j.1,j.2.1,e.1,e.2.1,e.2.2.1,()))) else A.pure (W.next (D.1,D.2.1,D.2.2.1,d.1,d.2.1,d.2.2.1,a.1,a.2.1,j.1,j.2.1,e.1,e.2.1,e.2.2.1,())))) (W.bC (λ(D:z2'×Int×Int×bx×Int×(Int×Int×Int×Int)×z1'×Int×z2'×List (List (Int×z1'×Int×Int))×Int×z2'×List (z1')×Unit)=>letI k:=D.2.2.2;letI b:=k.2.2.2;A.pure (W.next (D.1,D.2.1,D.2.2.1,k.1,k.2.1,k.2.2.1,b.1,IntKind.wrap .i64 (Add.add b.2.1 1),b.2.2.1,b.2.2.2.1,b.2.2.2.2.1,b.2.2.2.2.2.1,b.2.2.2.2.2.2.1,())))) else A.bind (A.pure (W.next (D.1,D.2.1,D.2.2.1,d.1,a.1,j.1,j.2.1,e.1,e.2.1,e.2.2.1,()))) λr=>A.pure (W.done r)) (D.1,D.2.1,i,D.2.2.2.1,i,g,[],g.2.2.1,c.1,c.2.1,c.2.2.1,c.2.2.2.1,c.2.2.2.2.1,())) (W.bC (λ(D:z2'×Int×Int×bx×z1'×z2'×List (List (Int×z1'×Int×Int))×Int×z2'×List (z1')×Unit)=>letI f:=D.2.2.2.2;if decide (Int.ofNat (List.length f.1)=0)=true then A.bind (A.bind (A.bind (A.pure (none,3)) (λr=>A.pure (W.done r))) (λr=>A.pure (W.done r))) λr=>A.pure (W.done r) else A.ae True (A.ae (bQ (Add.add (List.length f.2.2.2.2.2.1) (Add.add 0 1))) (A.ae True (A.pure (W.next (D.1,D.2.1,D.2.2.1,D.2.2.2.1,f.2.1,f.2.2.1,f.2.2.2.1,f.2.2.2.2.1,f.2.2.2.2.2.1++[f.1],()))))))))) (W.bC (λ(D:z2'×Int×Int×bx×z2'×List (List (Int×z1'×Int×Int))×Int×z2'×List (z1')×Unit)=>letI h:=D.2.2.2.2;A.pure (W.next (D.1,D.2.1,IntKind.wrap .i64 (Add.add D.2.2.1 1),D.2.2.2.1,h.1,h.2.1,h.2.2.1,h.2.2.2.1,h.2.2.2.2.1,())))) else A.bind (A.pure (W.next (c.1,c.2.1,c.2.2.1,c.2.2.2.1,c.2.2.2.2.1,()))) λr=>A.pure (W.done r)) (x.1.1,Int.ofNat (List.length x.1.1),0,x.1,x.1.1,x.1.2.1,x.1.2.2.1,x.1.2.2.2,[],())) (W.bC (λ(D:z2'×List (List (Int×z1'×Int×Int))×Int×z2'×List (z1')×Unit)=>A.pure (some ((D.1,D.2.1,D.2.2.1,D.2.2.2.1),D.2.2.2.2.1),0)))
def ajS(oZ:Int×Int×Int->A Bool)(x:bx×Int):A Bool:=
 A.bind (oZ (x.2,0,IntKind.wrap .i64 (Int.ofNat (List.length x.1.1)-1))) λy=>A.pure y
def VL(oZ:Int×Int×Int->A Bool)(x:bx×Int×Int):A Bool:=
 letI a:=Int.ofNat (List.length x.1.2.1);A.bind (oZ (x.2.1,0,IntKind.wrap .i64 (a-1))) λy=>A.ae (y=true->(y=true/\y=true)/\(0<=x.2.1/\x.2.1<a)/\True) (A.bind (cu y (oZ (x.2.2,0,IntKind.wrap .i64 (Int.ofNat (List.length (List.getD x.1.2.1 (Int.toNat x.2.1) []))-1))) false) (λb2=>A.pure (y&&b2)))
def NJ(HO:bx×Int×Int×Int×Int->A Bool)(ajT:Int×Int->A Int)(x:Option qD×Int×Int×Int):A Int:=
 letI b:=(Option.getD x.1 (([],[],0,[]),[])).2;letI e:=List.getD b (Int.toNat x.2.1) [];A.bind (A.ae (Option.isSome x.1=true) (A.ae (0<=x.2.1/\x.2.1<Int.ofNat (List.length b)) (A.loop (λ(D:Option qD×Int×Int×Int×Int×z1'×Int×Int×Unit)=>letI c:=D.2.2.2;letI a:=c.2.2;letI f:=a.2.2.1;if decide (f<a.2.1)=true then A.bind (A.ae (0<=f/\f<Int.ofNat (List.length a.1)) (A.ae (Option.isSome D.1=true) (A.bind (HO ((Option.getD D.1 (([],[],0,[]),[])).1,D.2.1,List.getD a.1 (Int.toNat f) 0,D.2.2.1,c.1)) (λy=>if y=true then A.pure (W.next (D.1,D.2.1,D.2.2.1,c.1,IntKind.wrap .i64 (Add.add c.2.1 1),a.1,a.2.1,f,())) else A.pure (W.next (D.1,D.2.1,D.2.2.1,c.1,c.2.1,a.1,a.2.1,f,())))))) (W.bC (λ(D:Option qD×Int×Int×Int×Int×z1'×Int×Int×Unit)=>letI g:=D.2.2.2;A.pure (W.next (D.1,D.2.1,D.2.2.1,g.1,g.2.1,g.2.2.1,g.2.2.2.1,IntKind.wrap .i64 (Add.add g.2.2.2.2.1 1),())))) else A.bind (A.pure (W.next (D.1,D.2.1,c.2.1,()))) λr=>A.pure (W.done r)) (x.1,x.2.1,x.2.2.1,x.2.2.2,0,e,Int.ofNat (List.length e),0,())))) (W.bC (λ(D:Option qD×Int×Int×Unit)=>letI d:=(Option.getD D.1 (([],[],0,[]),[])).2;A.ae (Option.isSome D.1=true) (A.ae (0<=D.2.1/\D.2.1<Int.ofNat (List.length d)) (A.bind (ajT (D.2.2.1,Int.ofNat (List.length (List.getD d (Int.toNat D.2.1) [])))) (λy=>A.pure y)))))
def ajU(x:z1'):A Bool:=
 A.bind (A.loop (λ(D:z1'×Int×Unit)=>letI c:=D.2.1;letI b:=IntKind.wrap .i64 (c-1);letI a:=Int.ofNat (List.length D.1);if decide (c<a)=true then A.ae (0<=c/\c<a) (A.ae (0<=b/\b<a) (if decide (List.getD D.1 (Int.toNat c) 0<=List.getD D.1 (Int.toNat b) 0)=true then A.bind (A.bind (A.pure false) (λr=>A.pure (W.done r))) λr=>A.pure (W.done r) else A.pure (W.next (D.1,IntKind.wrap .i64 (Add.add c 1),())))) else A.bind (A.pure (W.next ())) λr=>A.pure (W.done r)) (x,1,())) (W.bC (λ(D:Unit)=>A.pure true))
def ajV(x:Int×Int×Int):A Bool:=
 A.pure (decide (x.2.1<=x.1)&&decide (x.1<=x.2.2))
def VM(DX:Int->A Bool)(NK:Int×Int->A Bool)(x:Int×Int×Int×Int):A Bool:=
 A.bind (DX x.1) λy=>A.bind (cu y (DX x.2.1) false) λb2=>A.bind (cu (y&&b2) (NK x.2.2) false) λdy=>A.pure (y&&b2&&dy)
def VN(oZ:Int×Int×Int->A Bool)(x:Int):A Bool:=
 A.bind (oZ (x,0,9)) λy=>A.pure y
def ajW(oZ:Int×Int×Int->A Bool)(x:Int×Int):A Bool:=
 A.bind (oZ (x.1,0,x.2)) λy=>A.pure (y&&decide (x.2<=999))
def VO(ajX:z1'->A Bool)(ajY:z1'×(Int->A Bool)->A Bool)(DX:Int->A Bool)(NK:Int×Int->A Bool)(x:Int×z1'×Int×Int):A Bool:=
 A.bind (DX x.1) λy=>letI a:=y&&decide (Int.ofNat (List.length x.2.1)<=4);A.bind (cu a (ajY (x.2.1,DX)) false) λb2=>A.bind (cu (a&&b2) (ajX x.2.1) false) λdy=>A.bind (cu (a&&b2&&dy) (NK x.2.2) false) λfu=>A.pure (a&&b2&&dy&&fu)
def VP(ajZ:List (Int×z1'×Int×Int)×(Int×z1'×Int×Int->A Bool)->A Bool)(x:List (Int×z1'×Int×Int)×Option (Int×z1'×Int×Int->A Bool)):A Bool:=
 letI a:=decide (Int.ofNat (List.length x.1)<=4);A.bind (cu a (ajZ (x.1,Option.getD x.2 λx=>{ cr:=False,bM:=λx=>False })) false) λy=>A.pure (a&&y)
def VQ(iy:bx×Int->A Bool)(x_:bx×Int×Int->A Bool)(oZ:Int×Int×Int->A Bool)(x:(Int×Int×Int×Int)×Option bx):A Bool:=
 letI a:=Option.getD x.2 ([],[],0,[]);A.bind (iy (a,x.1.1)) λy=>A.bind (cu y (x_ (a,x.1.2.1,x.1.2.2.1)) false) λb2=>A.bind (cu (y&&b2) (oZ (x.1.2.2.2,0,1)) false) λdy=>A.pure (y&&b2&&dy)
def VR(HO:bx×Int×Int×Int×Int->A Bool)(x:(Int×Int×Int×Int)×Option Int×Option bx×Option Int):A Bool:=
 letI e:=Option.getD x.2.1 0;letI c:=decide (x.1.1≠e);letI b:=(Option.getD x.2.2.1 ([],[],0,[]),e,Option.getD x.2.2.2 0,x.1.2.1,x.1.2.2.1);letI a:=(!c)=true;letI d:=a->a/\True/\True;A.ae d (A.ae d (A.ae (a->(a/\a/\a/\a/\a/\True)/\(HO b).cr/\True) (A.ae d (A.ae (a->(a/\True)/\True/\True) (A.ae (a->(a/\a)/\True/\True) (A.ae (True/\(c=false->a)) (A.pure (c||decide (A.val (HO b) false=decide (x.1.2.2.2=1))))))))))
def VS(oZ:Int×Int×Int->A Bool)(hP:z1'×Int->A Bool)(x:bx×Int×Int×Int×Int):A Bool:=
 letI e:=x.2.2.2;letI c:=List.getD x.1.2.1 (Int.toNat e.1) [];letI b:=List.getD x.1.1 (Int.toNat x.2.1) (0,0,0,0);letI a:=List.getD c (Int.toNat e.2) (0,[],0,0);letI d:=decide (b.1=a.1);A.ae (0<=x.2.1/\x.2.1<Int.ofNat (List.length x.1.1)) (A.ae (0<=e.1/\e.1<Int.ofNat (List.length x.1.2.1)) (A.ae (0<=e.2/\e.2<Int.ofNat (List.length c)) (A.bind (cu d (hP (a.2.1,b.2.1)) false) (λy=>A.bind (cu (d&&y) (oZ (x.2.2.1,a.2.2.1,IntKind.wrap .i64 (Add.add a.2.2.2 x.1.2.2.1))) false) λb2=>A.pure (d&&y&&b2)))))
def VT(x:Int×Int):A Int:=
 if decide (x.1=x.2)=true then A.pure 1 else if decide (x.1=0)=true then A.pure 2 else A.pure 3
def NL(NM:z2'×List (List (Int×z1'×Int×Int))×Int×z2'->A Int)(x:z2'×List (List (Int×z1'×Int×Int))×Int×z2'):A Bool:=
 if (decide (Int.ofNat (List.length x.1) > 40)||decide (Int.ofNat (List.length x.2.1) > 40)||decide (Int.ofNat (List.length x.2.2.2) > 60))=true then A.pure true else A.bind (A.loop (λ(D:Int×bx×Unit)=>letI e:=D.1<Int.ofNat (List.length D.2.1.2.1);if decide e=true then A.bind (A.ae (0<=D.1/\e) (if decide (Int.ofNat (List.length (List.getD D.2.1.2.1 (Int.toNat D.1) [])) > 20)=true then A.bind (A.bind (A.bind (A.pure true) (λr=>A.pure (W.done r))) (λr=>A.pure (W.done r))) λr=>A.pure (W.done r) else A.loop (λ(D:Int×Int×bx×Unit)=>letI g:=D.2.2.1;letI c:=0<=D.1/\D.1<Int.ofNat (List.length g.2.1);letI a:=List.getD g.2.1 (Int.toNat D.1) [];letI f:=D.2.1<Int.ofNat (List.length a);A.ae c (if decide f=true then A.ae c (A.ae (0<=D.2.1/\f) (if decide (Int.ofNat (List.length (List.getD a (Int.toNat D.2.1) (0,[],0,0)).2.1) > 20)=true then A.bind (A.bind (A.bind (A.bind (A.pure true) (λr=>A.pure (W.done r))) (λr=>A.pure (W.done r))) (λr=>A.pure (W.done r))) λr=>A.pure (W.done r) else A.pure (W.next (D.1,IntKind.wrap .i64 (Add.add D.2.1 1),g,())))) else A.bind (A.pure (W.next (D.1,g,()))) λr=>A.pure (W.done r))) (D.1,0,D.2.1,()))) (W.bC (λ(D:Int×bx×Unit)=>A.pure (W.next (IntKind.wrap .i64 (Add.add D.1 1),D.2.1,())))) else A.bind (A.pure (W.next (D.2.1,()))) λr=>A.pure (W.done r)) (0,x,())) (W.bC (λ(D:bx×Unit)=>A.bind (NM D.1) λy=>if decide (y≠0)=true then A.pure false else A.bind (A.loop (λ(D:Int×bx×Unit)=>letI d:=(List.getD D.2.1.1 (Int.toNat D.1) (0,0,0,0)).2.2;letI b:=D.1<Int.ofNat (List.length D.2.1.1);if decide b=true then A.ae (0<=D.1/\b) (A.ae (0<=D.1/\b) (if decide (IntKind.wrap .i64 (d.2-d.1)>=50)=true then A.bind (A.bind (A.pure true) (λr=>A.pure (W.done r))) λr=>A.pure (W.done r) else A.pure (W.next (IntKind.wrap .i64 (Add.add D.1 1),D.2.1,())))) else A.bind (A.pure (W.next (D.2.1,()))) λr=>A.pure (W.done r)) (0,D.1,())) (W.bC (λ(D:bx×Unit)=>A.pure (decide (Int.ofNat (List.length D.1.1) > 6)||decide (Int.ofNat (List.length D.1.2.1) > 4)||decide (Int.ofNat (List.length D.1.2.2.2) > 10))))))
def aj0(x:Unit):A bx:=
 A.pure ([(1,2,300,310),(1,3,305,305),(2,1,50,60),(1,2,320,330)],[[(1,[2,3],300,306),(2,[1],40,58)],[(1,[2],310,326)]],5,[(0,1,0,0)])
abbrev dm:Type:=Int×Int×Int×Int×z1'
abbrev dB:Type:=z1'×(Int×Int)×Int×Int×Int
abbrev DY:Type:=Int×Int×Int
abbrev bJ:Type:=bx×z1'×List dm×List dB×List DY×Int
abbrev dz:Type:=bJ×z4'×z5'
def VU(aj1:z2'×List (List (Int×z1'×Int×Int))×Int×z2'->A bx)(x:bJ):A (bJ):=
 letI p:=x.2.2.2;A.bind (aj1 x.1) λy=>A.ae (bQ (Add.add 0 (List.length x.2.1))) (A.ae (bQ (Add.add 0 (List.length x.2.2.1))) (A.ae (bQ (Add.add 0 (List.length p.1))) (A.ae (bQ (Add.add 0 (List.length p.2.1))) (A.bind (A.loop (λ(D:Int×(bx×z1'×List (Int×Int×Int×Int×z1')×List dB×z3'×Int)×Int×Int×z2'×List (List (Int×z1'×Int×Int))×Int×z2'×Int×z1'×List dm×List dB×z3'×Unit)=>letI m:=Int.toNat D.1;letI e:=(List.getD D.2.1.2.2.1 m (0,0,0,0,[])).2.2.2.2;letI d:=D.2.2.2.2;letI a:=d.2.2.2.2;letI o:=a.2.2;letI k:=D.1<Int.ofNat (List.length o.1);letI c:=List.getD o.1 m (0,0,0,0,[]);if decide k=true then A.ae (0<=D.1/\D.1<Int.ofNat (List.length D.2.1.2.2.1)) (A.ae (bQ (Add.add 0 (List.length e))) (A.ae (0<=D.1/\k) (A.pure (W.next (IntKind.wrap .i64 (Add.add D.1 1),D.2.1,D.2.2.1,D.2.2.2.1,d.1,d.2.1,d.2.2.1,d.2.2.2.1,a.1,a.2.1,List.set o.1 m (c.1,c.2.1,c.2.2.1,c.2.2.2.1,[]++e),o.2.1,o.2.2.1,()))))) else A.bind (A.pure (W.next (D.2.1,D.2.2.1,D.2.2.2.1,d.1,d.2.1,d.2.2.1,d.2.2.2.1,a.1,a.2.1,o.1,o.2.1,o.2.2.1,()))) λr=>A.pure (W.done r)) (0,x,0,0,y.1,y.2.1,y.2.2.1,y.2.2.2,p.2.2,[]++x.2.1,[]++x.2.2.1,[]++p.1,[]++p.2.1,())) (W.bC (λ(D:(bx×z1'×List dm×List (z1'×(Int×Int)×Int×Int×Int)×z3'×Int)×Int×Int×z2'×List (List (Int×z1'×Int×Int))×Int×z2'×Int×z1'×List dm×List dB×z3'×Unit)=>letI g:=D.2.2.2.2.2;A.bind (A.loop (λ(D:Int×(bx×z1'×List dm×List (z1'×(Int×Int)×Int×Int×Int)×z3'×Int)×Int×Int×z2'×List (List (Int×z1'×Int×Int))×Int×z2'×Int×z1'×List dm×List dB×z3'×Unit)=>letI n:=Int.toNat D.1;letI i:=D.2.2.2.2;letI f:=(List.getD D.2.1.2.2.2.1 n ([],(0,0),0,0,0)).1;letI b:=i.2.2.2;letI j:=b.2.2.2.2;letI l:=D.1<Int.ofNat (List.length j.1);if decide l=true then A.ae (0<=D.1/\D.1<Int.ofNat (List.length D.2.1.2.2.2.1)) (A.ae (bQ (Add.add 0 (List.length f))) (A.ae (0<=D.1/\l) (A.pure (W.next (IntKind.wrap .i64 (Add.add D.1 1),D.2.1,D.2.2.1,D.2.2.2.1,i.1,i.2.1,i.2.2.1,b.1,b.2.1,b.2.2.1,b.2.2.2.1,List.set j.1 n ([]++f,(List.getD j.1 n ([],(0,0),0,0,0)).2),j.2.1,()))))) else A.bind (A.pure (W.next (D.2.2.1,D.2.2.2.1,i.1,i.2.1,i.2.2.1,b.1,b.2.1,b.2.2.1,b.2.2.2.1,j.1,j.2.1,()))) λr=>A.pure (W.done r)) (0,D.1,D.2.1,D.2.2.1,D.2.2.2.1,D.2.2.2.2.1,g.1,g.2.1,g.2.2.1,g.2.2.2.1,g.2.2.2.2.1,g.2.2.2.2.2.1,g.2.2.2.2.2.2.1,())) (W.bC (λ(D:Int×Int×z2'×List (List (Int×z1'×Int×Int))×Int×z2'×Int×z1'×List dm×List dB×z3'×Unit)=>letI h:=D.2.2.2.2.2;A.pure ((D.2.2.1,D.2.2.2.1,D.2.2.2.2.1,h.1),h.2.2.1,h.2.2.2.1,h.2.2.2.2.1,h.2.2.2.2.2.1,h.2.1)))))))))
def VV(aj2:bJ×Bool->A (Int×Int))(x:bJ):A (Int×Int):=
 A.bind (aj2 (x,true)) λy=>A.pure y
def VW(o0:bJ×Bool->A (Option dz×Int))(aj3:Option dz->Prop)(aj4:Option dz->List (z1'))(NN:Option dz×z1'->A (z3'×Bool))(aj5:Option dz×z3'->A Bool)(NO:Option dz×z3'->A Int)(x:bJ):A (Int×Int):=
 A.bind (o0 (x,true)) λy=>if decide (y.2≠0)=true then A.pure (0,y.2) else A.ae (aj3 y.1) (A.bind (jR (λ(D:Option (bJ×z4'×z5')×Int×Unit) (y:z1')=>A.bind (A.bind (NN (D.1,y)) (λb2=>A.bind (cu (!(!b2.2)) (aj5 (D.1,b2.1)) false) λdy=>if (!b2.2||!dy)=true then A.pure (di.normal,D.1,D.2.1,()) else A.bind (NO (D.1,b2.1)) λfu=>if (decide (D.2.1=-1)||decide (fu<D.2.1))=true then A.pure (di.normal,D.1,fu,()) else A.pure (di.normal,D.1,D.2.1,()))) λp=>A.pure (p.1,p.2.1,p.2.2.1,())) (aj4 y.1) (y.1,-1,())) (λp=>letI a:=decide (p.2.2.1=-1)=true;sA (if a then A.pure (0,3) else A.pure (p.2.2.1,0)) (λid=>if id=0 then if a then A.pure (0,3) else A.pure (p.2.2.1,0) else A.fail) A.fail p.1))
def VX(o0:bJ×Bool->A (Option dz×Int))(DZ:bJ×Int->A Bool)(NP:z1'×Int×Unit->A (z1'×Unit))(AB:Option dz×z1'->A Bool)(x:bJ×Int):A (z1'×Int):=
 A.ae (DZ x).cr (A.ae (o0 (x.1,A.val (DZ x) false)).cr (if decide ((A.val (o0 (x.1,A.val (DZ x) false)) (none,0)).2≠0)=true then A.pure ([],(A.val (o0 (x.1,A.val (DZ x) false)) (none,0)).2) else A.bind (NP ([-1],Int.ofNat (List.length x.1.2.2.2.1),())) λy=>A.bind (A.loop (λ(D:Int×Option ((bx×z1'×List dm×List dB×z3'×Int)×z4'×z5')×Int×Int×z1'×z1'×Unit)=>letI b:=D.2.2.2;letI a:=List.set b.2.2.1 (Int.toNat D.1) b.1;if decide (b.1<D.2.2.1)=true then A.bind (A.ae (0<=D.1/\D.1<Int.ofNat (List.length b.2.2.1)) (A.bind (AB (D.2.1,a)) (λy=>if y=true then A.ae (bQ (Add.add (List.length b.2.1) (Add.add 0 1))) (A.pure (W.next (D.1,D.2.1,D.2.2.1,b.1,b.2.1++[b.1],a,()))) else A.pure (W.next (D.1,D.2.1,D.2.2.1,b.1,b.2.1,a,()))))) (W.bC (λ(D:Int×Option ((bx×z1'×List dm×List (z1'×(Int×Int)×Int×Int×Int)×z3'×Int)×z4'×z5')×Int×Int×z1'×z1'×Unit)=>A.pure (W.next (D.1,D.2.1,D.2.2.1,IntKind.wrap .i64 (Add.add D.2.2.2.1 1),D.2.2.2.2.1,D.2.2.2.2.2.1,())))) else A.bind (A.pure (W.next (b.2.1,()))) λr=>A.pure (W.done r)) (x.2,(A.val (o0 (x.1,A.val (DZ x) false)) (none,0)).1,Int.ofNat (List.length x.1.2.2.1),0,[],y.1,())) (W.bC (λ(D:z1'×Unit)=>A.pure (D.1,0)))))
def VY(DW:z2'×List (List (Int×z1'×Int×Int))×Int×z2'->A Int)(aj6:bJ->A Bool)(x:bJ):A Int:=
 A.bind (DW x.1) λy=>if decide (y≠0)=true then A.pure y else A.bind (aj6 x) λy=>if (!y)=true then A.pure 80 else A.pure 0
def VZ(NM:z2'×List (List (Int×z1'×Int×Int))×Int×z2'->A Int)(oe:Int×Int×Int->A Bool)(V0:bJ×Int×Int×Int×Int×z1'->A Bool)(aj7:z1'×(Int×Int)×Int×Int×Int->A Bool)(x:bJ):A Int:=
 letI a:=decide (Int.ofNat (List.length x.2.1)≠Int.ofNat (List.length x.1.1))||decide (Int.ofNat (List.length x.2.2.1) > 8)||decide (Int.ofNat (List.length x.2.2.2.1) > 6)||decide (Int.ofNat (List.length x.2.2.2.2.1) > 8);A.bind (NM x.1) λy=>if decide (y≠0)=true then A.pure y else A.bind (cu (!a) (oe (x.2.2.2.2.2,0,99)) false) λy=>if (a||!y)=true then A.pure 80 else A.bind (A.loop (λ(D:Int×(bx×z1'×List (Int×Int×Int×Int×z1')×List dB×z3'×Int)×Unit)=>letI g:=D.1<Int.ofNat (List.length D.2.1.2.1);if decide g=true then A.ae (0<=D.1/\g) (A.bind (oe (List.getD D.2.1.2.1 (Int.toNat D.1) 0,0,10)) (λy=>if (!y)=true then A.bind (A.bind (A.pure 80) (λr=>A.pure (W.done r))) λr=>A.pure (W.done r) else A.pure (W.next (IntKind.wrap .i64 (Add.add D.1 1),D.2.1,())))) else A.bind (A.pure (W.next (D.2.1,()))) λr=>A.pure (W.done r)) (0,x,())) (W.bC (λ(D:(bx×z1'×List dm×List dB×z3'×Int)×Unit)=>A.bind (A.loop (λ(D:Int×(bx×z1'×List dm×List dB×z3'×Int)×Unit)=>letI f:=D.1<Int.ofNat (List.length D.2.1.2.2.1);letI c:=(D.2.1,List.getD D.2.1.2.2.1 (Int.toNat D.1) (0,0,0,0,[]));if decide f=true then A.ae (0<=D.1/\f) (A.ae (V0 c).cr (if (!(A.val (V0 c) false))=true then A.bind (A.bind (A.pure 80) (λr=>A.pure (W.done r))) λr=>A.pure (W.done r) else A.pure (W.next (IntKind.wrap .i64 (Add.add D.1 1),D.2.1,())))) else A.bind (A.pure (W.next (D.2.1,()))) λr=>A.pure (W.done r)) (0,D.1,())) (W.bC (λ(D:(bx×z1'×List dm×List (z1'×(Int×Int)×Int×Int×Int)×z3'×Int)×Unit)=>A.bind (A.loop (λ(D:Int×(bx×z1'×List dm×List (z1'×(Int×Int)×Int×Int×Int)×z3'×Int)×Unit)=>letI e:=D.1<Int.ofNat (List.length D.2.1.2.2.2.1);if decide e=true then A.ae (0<=D.1/\e) (A.bind (aj7 (List.getD D.2.1.2.2.2.1 (Int.toNat D.1) ([],(0,0),0,0,0))) (λy=>if (!y)=true then A.bind (A.bind (A.pure 80) (λr=>A.pure (W.done r))) λr=>A.pure (W.done r) else A.pure (W.next (IntKind.wrap .i64 (Add.add D.1 1),D.2.1,())))) else A.bind (A.pure (W.next (D.2.1,()))) λr=>A.pure (W.done r)) (0,D.1,())) (W.bC (λ(D:(bJ)×Unit)=>A.bind (A.loop (λ(D:Int×(bx×z1'×List dm×List dB×z3'×Int)×Unit)=>letI d:=D.1<Int.ofNat (List.length D.2.1.2.2.2.2.1);letI b:=List.getD D.2.1.2.2.2.2.1 (Int.toNat D.1) (0,0,0);if decide d=true then A.ae (0<=D.1/\d) (A.bind (oe (b.1,0,99)) (λy=>A.bind (cu (!(!y)) (oe (b.2.1,0,IntKind.wrap .i64 (Int.ofNat (List.length D.2.1.1.1)-1))) false) λb2=>A.bind (cu (!(!y||!b2)) (oe (b.2.2,1,10)) false) λdy=>if (!y||!b2||!dy)=true then A.bind (A.bind (A.pure 80) (λr=>A.pure (W.done r))) λr=>A.pure (W.done r) else A.pure (W.next (IntKind.wrap .i64 (Add.add D.1 1),D.2.1,())))) else A.bind (A.pure (W.next ())) λr=>A.pure (W.done r)) (0,D.1,())) (W.bC (λ(D:Unit)=>A.pure 0))))))))
def V1(o0:bJ×Bool->A (Option dz×Int))(AB:Option dz×z1'->A Bool)(AD:bJ×z1'->A Bool)(l':Option dz×z1'->A Int)(x:bJ×z1'):A (Int×Int):=
 A.ae (AD x).cr (A.ae (o0 (x.1,A.val (AD x) false)).cr (if decide ((A.val (o0 (x.1,A.val (AD x) false)) (none,0)).2≠0)=true then A.pure (0,(A.val (o0 (x.1,A.val (AD x) false)) (none,0)).2) else A.bind (AB ((A.val (o0 (x.1,A.val (AD x) false)) (none,0)).1,x.2)) λy=>if (!y)=true then A.pure (0,3) else A.bind (l' ((A.val (o0 (x.1,A.val (AD x) false)) (none,0)).1,x.2)) λy=>A.pure (y,0)))
def V2(o0:bJ×Bool->A (Option dz×Int))(aj8:Option dz->A (z1'))(l':Option dz×z1'->A Int)(x:bJ×Bool):A (Int×Int):=
 A.bind (o0 x) λy=>if decide (y.2≠0)=true then A.pure (0,y.2) else A.bind (aj8 y.1) λb2=>A.bind (l' (y.1,b2)) λy=>A.pure (y,0)
def NQ(D0:bJ->A Int)(HP:bx×Int->A ((Int×Int)×Int))(vQ:bx×Int×Int×Int->A (Int×Int))(AE:z4'×Int->A (z4'))(x:bJ×Bool):A (Option dz×Int):=
 letI eF:=x.1.1.2;letI f1:=x.1.2.2;A.bind (D0 x.1) λy=>if decide (y≠0)=true then A.pure (none,y) else if (!x.2)=true then A.pure (none,1) else A.bind (if decide (Int.ofNat (List.length x.1.2.1) > 0)=true then A.bind (HP (x.1.1,0)) λy=>if decide (y.2≠0)=true then A.bind (A.pure (none,y.2)) λr=>A.pure (W.done r) else A.pure (W.next (x.1,[],x.1.1.1,eF.1,eF.2.1,eF.2.2,x.1.2.1,f1.1,f1.2.1,f1.2.2.1,f1.2.2.2,())) else A.pure (W.next (x.1,[],x.1.1.1,eF.1,eF.2.1,eF.2.2,x.1.2.1,f1.1,f1.2.1,f1.2.2.1,f1.2.2.2,()))) (W.bC (λ(D:(bx×z1'×List dm×List (z1'×(Int×Int)×Int×Int×Int)×z3'×Int)×z5'×z2'×List (List (Int×z1'×Int×Int))×Int×z2'×z1'×List dm×List (z1'×(Int×Int)×Int×Int×Int)×z3'×Int×Unit)=>letI t:=D.2.2.2.2.2;A.bind (A.loop (λ(D:Int×Int×(bx×z1'×List dm×List dB×z3'×Int)×z5'×z2'×List (List (Int×z1'×Int×Int))×Int×z2'×z1'×List dm×List (z1'×(Int×Int)×Int×Int×Int)×z3'×Int×Unit)=>letI bE:=D.2.2;letI h:=bE.2.2.2.2;letI g1:=h.2.2.2;if decide (D.2.1<D.1)=true then A.bind (A.loop (λ(D:Int×Int×Int×List (List (Int×z1'×Int×Int))×Int×Int×(bx×z1'×List dm×List (z1'×(Int×Int)×Int×Int×Int)×z3'×Int)×z5'×z2'×List (List (Int×z1'×Int×Int))×Int×z2'×z1'×List dm×List dB×z3'×Int×Unit)=>letI i1:=D.2.2.2;letI j:=i1.2.2;letI c:=j.2.2.2;letI o:=c.2.2.2.2;if decide (j.1<i1.2.1)=true then A.bind (A.ae (0<=j.1/\j.1<Int.ofNat (List.length i1.1)) (A.loop (λ(D:Int×Int×Int×Int×List (List (Int×z1'×Int×Int))×Int×Int×Int×Int×(bx×z1'×List dm×List dB×z3'×Int)×z5'×z2'×List (List (Int×z1'×Int×Int))×Int×z2'×z1'×List (Int×Int×Int×Int×z1')×List dB×z3'×Int×Unit)=>letI m1:=D.2.2;letI k:=m1.2.2;letI hV:=k.2.2;letI a:=hV.2.2;letI w:=a.2.2.2;letI f:=w.2.2.2;letI d1:=f.2.2.2;if decide (a.1<hV.2.1)=true then A.bind (A.bind (vQ (a.2.1.1,D.1,D.2.1,a.1)) (λy=>if decide (y.1=1)=true then A.ae True (A.ae (True/\True/\True) (A.ae True (A.pure (W.next (D.1,D.2.1,m1.1,m1.2.1,k.1,k.2.1,hV.1,hV.2.1,a.1,a.2.1,vP a.2.2.1 (D.1,D.2.1,a.1) (IntKind.wrap .i64 (Add.add (Option.getD (Option.map (λx=>x.2) (List.find? (λp=>decide (D.1=p.1.1)&&(decide (D.2.1=p.1.2.1)&&decide (a.1=p.1.2.2))) a.2.2.1)) 0) 1)),w.1,w.2.1,w.2.2.1,f.1,f.2.1,f.2.2.1,d1.1,d1.2.1,d1.2.2.1,()))))) else A.pure (W.next (D.1,D.2.1,m1.1,m1.2.1,k.1,k.2.1,hV.1,hV.2.1,a.1,a.2.1,a.2.2.1,w.1,w.2.1,w.2.2.1,f.1,f.2.1,f.2.2.1,d1.1,d1.2.1,d1.2.2.1,())))) (W.bC (λ(D:Int×Int×Int×Int×List (List (Int×z1'×Int×Int))×Int×Int×Int×Int×bJ×z5'×z2'×List (List (Int×z1'×Int×Int))×Int×z2'×z1'×List dm×List dB×z3'×Int×Unit)=>letI az:=D.2.2.2.2.2;letI g:=az.2.2.2.2;letI z:=g.2.2.2.2.2;A.pure (W.next (D.1,D.2.1,D.2.2.1,D.2.2.2.1,D.2.2.2.2.1,az.1,az.2.1,az.2.2.1,IntKind.wrap .i64 (Add.add az.2.2.2.1 1),g.1,g.2.1,g.2.2.1,g.2.2.2.1,g.2.2.2.2.1,z.1,z.2.1,z.2.2.1,z.2.2.2.1,z.2.2.2.2.1,z.2.2.2.2.2.1,())))) else A.bind (A.pure (W.next (D.1,m1.1,m1.2.1,k.1,k.2.1,hV.1,a.2.1,a.2.2.1,w.1,w.2.1,w.2.2.1,f.1,f.2.1,f.2.2.1,d1.1,d1.2.1,d1.2.2.1,()))) λr=>A.pure (W.done r)) (D.1,j.1,D.2.1,D.2.2.1,i1.1,i1.2.1,j.1,Int.ofNat (List.length (List.getD i1.1 (Int.toNat j.1) [])),0,j.2.1,j.2.2.1,c.1,c.2.1,c.2.2.1,c.2.2.2.1,o.1,o.2.1,o.2.2.1,o.2.2.2.1,o.2.2.2.2.1,()))) (W.bC (λ(D:Int×Int×Int×List (List (Int×z1'×Int×Int))×Int×Int×(bx×z1'×List dm×List dB×z3'×Int)×z5'×z2'×List (List (Int×z1'×Int×Int))×Int×z2'×z1'×List dm×List (z1'×(Int×Int)×Int×Int×Int)×z3'×Int×Unit)=>letI E:=D.2.2.2.2;letI i:=E.2.2.2.2;letI aQ:=i.2.2.2.2;A.pure (W.next (D.1,D.2.1,D.2.2.1,D.2.2.2.1,E.1,IntKind.wrap .i64 (Add.add E.2.1 1),E.2.2.1,E.2.2.2.1,i.1,i.2.1,i.2.2.1,i.2.2.2.1,aQ.1,aQ.2.1,aQ.2.2.1,aQ.2.2.2.1,aQ.2.2.2.2.1,())))) else A.bind (A.pure (W.next (D.2.1,D.2.2.1,j.2.1,j.2.2.1,c.1,c.2.1,c.2.2.1,c.2.2.2.1,o.1,o.2.1,o.2.2.1,o.2.2.2.1,o.2.2.2.2.1,()))) λr=>A.pure (W.done r)) (D.2.1,D.1,D.2.1,bE.1.1.2.1,Int.ofNat (List.length bE.1.1.2.1),0,bE.1,bE.2.1,bE.2.2.1,bE.2.2.2.1,h.1,h.2.1,h.2.2.1,g1.1,g1.2.1,g1.2.2.1,g1.2.2.2.1,())) (W.bC (λ(D:Int×Int×(bx×z1'×List dm×List (z1'×(Int×Int)×Int×Int×Int)×z3'×Int)×z5'×z2'×List (List (Int×z1'×Int×Int))×Int×z2'×z1'×List dm×List (z1'×(Int×Int)×Int×Int×Int)×z3'×Int×Unit)=>letI jN:=D.2.2.2;letI m:=jN.2.2.2;A.pure (W.next (D.1,IntKind.wrap .i64 (Add.add D.2.1 1),D.2.2.1,jN.1,jN.2.1,jN.2.2.1,m.1,m.2.1,m.2.2.1,m.2.2.2.1,m.2.2.2.2.1,m.2.2.2.2.2.1,m.2.2.2.2.2.2.1,())))) else A.bind (A.pure (W.next (bE.1,bE.2.1,bE.2.2.1,bE.2.2.2.1,h.1,h.2.1,h.2.2.1,g1.1,g1.2.1,g1.2.2.1,g1.2.2.2.1,()))) λr=>A.pure (W.done r)) (Int.ofNat (List.length D.1.2.1),0,D.1,D.2.1,D.2.2.1,D.2.2.2.1,D.2.2.2.2.1,t.1,t.2.1,t.2.2.1,t.2.2.2.1,t.2.2.2.2.1,t.2.2.2.2.2.1,())) (W.bC (λ(D:(bx×z1'×List (Int×Int×Int×Int×z1')×List dB×z3'×Int)×z5'×z2'×List (List (Int×z1'×Int×Int))×Int×z2'×z1'×List (Int×Int×Int×Int×z1')×List dB×z3'×Int×Unit)=>letI u:=D.2.2.2.2.2;A.bind (A.loop (λ(D:z1'×Int×Int×(bx×z1'×List dm×List dB×z3'×Int)×z5'×z2'×List (List (Int×z1'×Int×Int))×Int×z2'×z1'×List (Int×Int×Int×Int×z1')×List dB×z3'×Int×z4'×Unit)=>letI l:=D.2.2;letI uq:=l.2.2.2;letI n:=List.getD D.1 (Int.toNat l.1) 0;letI d:=uq.2.2.2;letI b6:=d.2.2.2.2;if decide (l.1<D.2.1)=true then A.ae (0<=l.1/\l.1<Int.ofNat (List.length D.1)) (A.ae True (A.ae (AE ([(l.1,0)],n)).cr (A.ae (bQ (Add.add (List.length b6.2.2.1) (List.length (A.val (AE ([(l.1,0)],n)) [])))) (A.ae True (A.pure (W.next (D.1,D.2.1,IntKind.wrap .i64 (Add.add l.1 1),l.2.1,l.2.2.1,uq.1,uq.2.1,uq.2.2.1,d.1,d.2.1,d.2.2.1,d.2.2.2.1,b6.1,b6.2.1,b6.2.2.1++A.val (AE ([(l.1,0)],n)) [],()))))))) else A.bind (A.pure (W.next (l.2.1,l.2.2.1,uq.1,uq.2.1,uq.2.2.1,d.1,d.2.1,d.2.2.1,d.2.2.2.1,b6.1,b6.2.1,b6.2.2.1,()))) λr=>A.pure (W.done r)) (D.1.2.1,Int.ofNat (List.length D.1.2.1),0,D.1,D.2.1,D.2.2.1,D.2.2.2.1,D.2.2.2.2.1,u.1,u.2.1,u.2.2.1,u.2.2.2.1,u.2.2.2.2.1,u.2.2.2.2.2.1,[],())) (W.bC (λ(D:(bx×z1'×List dm×List (z1'×(Int×Int)×Int×Int×Int)×z3'×Int)×z5'×z2'×List (List (Int×z1'×Int×Int))×Int×z2'×z1'×List dm×List dB×z3'×Int×z4'×Unit)=>letI q:=D.2.2.2.2.2;A.bind (A.loop (λ(D:z3'×Int×Int×z5'×z2'×List (List (Int×z1'×Int×Int))×Int×z2'×z1'×List (Int×Int×Int×Int×z1')×List dB×z3'×Int×z4'×Unit)=>letI s:=D.2.2;letI dZ:=s.2.2.2;letI e:=dZ.2.2;letI dO:=e.2.2.2.2;letI b:=List.getD D.1 (Int.toNat s.1) (0,0,0);letI dr:=(b.2.1,b.1);if decide (s.1<D.2.1)=true then A.ae (0<=s.1/\s.1<Int.ofNat (List.length D.1)) (A.ae True (A.ae (AE ([dr],b.2.2)).cr (A.ae (bQ (Add.add (List.length dO.2.2.1) (List.length (A.val (AE ([dr],b.2.2)) [])))) (A.ae True (A.pure (W.next (D.1,D.2.1,IntKind.wrap .i64 (Add.add s.1 1),s.2.1,s.2.2.1,dZ.1,dZ.2.1,e.1,e.2.1,e.2.2.1,e.2.2.2.1,dO.1,dO.2.1,dO.2.2.1++A.val (AE ([dr],b.2.2)) [],()))))))) else A.bind (A.pure (W.next (s.2.1,s.2.2.1,dZ.1,dZ.2.1,e.1,e.2.1,e.2.2.1,e.2.2.2.1,dO.1,dO.2.1,dO.2.2.1,()))) λr=>A.pure (W.done r)) (D.1.2.2.2.2.1,Int.ofNat (List.length D.1.2.2.2.2.1),0,D.2.1,D.2.2.1,D.2.2.2.1,D.2.2.2.2.1,q.1,q.2.1,q.2.2.1,q.2.2.2.1,q.2.2.2.2.1,q.2.2.2.2.2.1,q.2.2.2.2.2.2.1,())) (W.bC (λ(D:z5'×z2'×List (List (Int×z1'×Int×Int))×Int×z2'×z1'×List (Int×Int×Int×Int×z1')×List dB×z3'×Int×z4'×Unit)=>letI v:=D.2.2.2.2.2;A.pure (some (((D.2.1,D.2.2.1,D.2.2.2.1,D.2.2.2.2.1),v.1,v.2.1,v.2.2.1,v.2.2.2.1,v.2.2.2.2.1),v.2.2.2.2.2.1,D.1),0)))))))))
def NR(HQ:(z1'×(Int×Int)×Int×Int×Int)×Int×Int×Int×Int×z1'->A Int)(x:Option dz×z1'):A (z3'×Bool):=
 A.bind (A.loop (λ(D:Option ((bx×z1'×List dm×List dB×z3'×Int)×z4'×z5')×z1'×Int×Int×z3'×Unit)=>letI l:=D.2;letI g:=Option.isSome D.1=true;letI e:=l.2.2;letI j:=Int.toNat e.1;letI b:=List.getD l.1 j 0;letI a:=(Option.getD D.1 ((([],[],0,[]),[],[],[],[],0),[],[])).1.2.2;letI f:=List.getD a.1 (Int.toNat b) (0,0,0,0,[]);letI d:=List.getD a.2.1 j ([],(0,0),0,0,0);if decide (e.1<l.2.1)=true then A.bind (A.ae (0<=e.1/\e.1<Int.ofNat (List.length l.1)) (if decide (List.getD l.1 j (0:Int)<0)=true then A.pure (W.next (D.1,l.1,l.2.1,e.1,e.2.1,())) else A.ae g (A.ae (0<=e.1/\e.1<Int.ofNat (List.length a.2.1)) (A.ae g (A.ae (0<=b/\b<Int.ofNat (List.length a.1)) (A.bind (A.bind (HQ (d,f)) (λy=>if decide (y=0)=true then A.bind (A.bind (A.bind (A.bind (A.pure ([],false)) (λr=>A.pure (W.done r))) (λr=>A.pure (W.done r))) (λr=>A.pure (W.done r))) λr=>A.pure (W.done r) else if decide (y=2)=true then A.ae g (A.pure (W.next (D.1,IntKind.wrap .i64 (d.2.2.2.1-a.2.2.2),l.1,l.2.1,e.1,e.2.1,f,()))) else A.pure (W.next (D.1,d.2.2.2.1,l.1,l.2.1,e.1,e.2.1,f,())))) (W.bC (λ(D:Option ((bx×z1'×List dm×List (z1'×(Int×Int)×Int×Int×Int)×z3'×Int)×z4'×z5')×Int×z1'×Int×Int×z3'×(Int×Int×Int×Int×z1')×Unit)=>letI h:=D.2.2.2.2;if decide (D.2.1<0)=true then A.bind (A.bind (A.bind (A.pure ([],false)) (λr=>A.pure (W.done r))) (λr=>A.pure (W.done r))) λr=>A.pure (W.done r) else A.loop (λ(D:Option ((bx×z1'×List dm×List dB×z3'×Int)×z4'×z5')×Int×z1'×Int×Int×z1'×Int×Int×z3'×(Int×Int×Int×Int×z1')×Unit)=>letI k:=D.2.2.2;letI c:=k.2.2;letI i:=c.2.2;if decide (i.1<c.2.1)=true then A.ae (0<=i.1/\i.1<Int.ofNat (List.length c.1)) (A.ae (bQ (Add.add (List.length i.2.1) (Add.add 0 1))) (A.pure (W.next (D.1,D.2.1,D.2.2.1,k.1,k.2.1,c.1,c.2.1,IntKind.wrap .i64 (Add.add i.1 1),i.2.1++[(i.2.2.1.2.2.2.1,List.getD c.1 (Int.toNat i.1) 0,D.2.1)],i.2.2.1,())))) else A.bind (A.pure (W.next (D.1,D.2.2.1,k.1,k.2.1,i.2.1,()))) λr=>A.pure (W.done r)) (D.1,D.2.1,D.2.2.1,D.2.2.2.1,h.1,h.2.2.1.2.2.2.2,Int.ofNat (List.length h.2.2.1.2.2.2.2),0,h.2.1,h.2.2.1,()))))))))) (W.bC (λ(D:Option (bJ×z4'×z5')×z1'×Int×Int×z3'×Unit)=>A.pure (W.next (D.1,D.2.1,D.2.2.1,IntKind.wrap .i64 (Add.add D.2.2.2.1 1),D.2.2.2.2.1,())))) else A.bind (A.pure (W.next (e.2.1,()))) λr=>A.pure (W.done r)) (x.1,x.2,Int.ofNat (List.length x.2),0,[],())) (W.bC (λ(D:z3'×Unit)=>A.pure (D.1,true)))
def NS(HR:Option dz×(Int×Int)×Int×Int×Int->A Bool)(x:Option dz×z3'):A Bool:=
 A.bind (A.loop (λ(D:Option ((bx×z1'×List dm×List dB×z3'×Int)×z4'×z5')×z3'×Int×Int×Unit)=>letI b:=D.2.2.2.1;if decide (b<D.2.2.1)=true then A.bind (A.ae (0<=b/\b<Int.ofNat (List.length D.2.1)) (A.bind (A.ae (Option.isSome D.1=true) (A.loop (λ(D:Option ((bJ)×z4'×z5')×Bool×z3'×Int×Int×Int×Int×(Int×Int×Int)×Unit)=>letI a:=D.2.2.2.2;if decide (a.2.2.1<a.2.1)=true then A.bind (cu (!D.2.1) (HR (D.1,(a.2.2.1,0),a.2.2.2.1)) false) λy=>A.pure (W.next (D.1,D.2.1||y,D.2.2.1,D.2.2.2.1,a.1,a.2.1,IntKind.wrap .i64 (Add.add a.2.2.1 1),a.2.2.2.1,())) else A.bind (A.pure (W.next (D.1,D.2.1,D.2.2.1,D.2.2.2.1,a.1,()))) λr=>A.pure (W.done r)) (D.1,false,D.2.1,D.2.2.1,b,Int.ofNat (List.length (Option.getD D.1 ((([],[],0,[]),[],[],[],[],0),[],[])).1.2.1),0,List.getD D.2.1 (Int.toNat b) (0,0,0),()))) (W.bC (λ(D:Option ((bx×z1'×List dm×List (z1'×(Int×Int)×Int×Int×Int)×z3'×Int)×z4'×z5')×Bool×z3'×Int×Int×Unit)=>if (!D.2.1)=true then A.bind (A.bind (A.bind (A.pure false) (λr=>A.pure (W.done r))) (λr=>A.pure (W.done r))) λr=>A.pure (W.done r) else A.pure (W.next (D.1,D.2.2.1,D.2.2.2.1,D.2.2.2.2.1,())))))) (W.bC (λ(D:Option ((bx×z1'×List (Int×Int×Int×Int×z1')×List dB×z3'×Int)×z4'×z5')×z3'×Int×Int×Unit)=>A.pure (W.next (D.1,D.2.1,D.2.2.1,IntKind.wrap .i64 (Add.add D.2.2.2.1 1),())))) else A.bind (A.pure (W.next ())) λr=>A.pure (W.done r)) (x.1,x.2,Int.ofNat (List.length x.2),0,())) (W.bC (λ(D:Unit)=>A.pure true))
def NT(NP:z1'×Int×Unit->A (z1'×Unit))(NU:Option dz×z3'×Int×z4'×z1'×Unit->A (Bool×z4'×z1'×Unit))(x:Option dz×z3'):A Int:=
 A.ae (Option.isSome x.1=true) (A.bind (NP ([-1],Int.ofNat (List.length (Option.getD x.1 ((([],[],0,[]),[],[],[],[],0),[],[])).2.1),())) (λy=>A.bind (A.loop (λ(D:Option ((bx×z1'×List dm×List (z1'×(Int×Int)×Int×Int×Int)×z3'×Int)×z4'×z5')×z3'×Int×Int×Int×z1'×Unit)=>letI a:=D.2.2.2;if decide (a.2.1<a.1)=true then A.bind (A.bind (NU (D.1,D.2.1,a.2.1,[],a.2.2.1,())) (λy=>if (!y.1)=true then A.pure (W.next (D.1,D.2.1,IntKind.wrap .i64 (Add.add D.2.2.1 1),a.1,a.2.1,y.2.2.1,())) else A.pure (W.next (D.1,D.2.1,D.2.2.1,a.1,a.2.1,y.2.2.1,())))) (W.bC (λ(D:Option ((bx×z1'×List (Int×Int×Int×Int×z1')×List dB×z3'×Int)×z4'×z5')×z3'×Int×Int×Int×z1'×Unit)=>A.pure (W.next (D.1,D.2.1,D.2.2.1,D.2.2.2.1,IntKind.wrap .i64 (Add.add D.2.2.2.2.1 1),D.2.2.2.2.2.1,())))) else A.bind (A.pure (W.next (D.2.2.1,()))) λr=>A.pure (W.done r)) (x.1,x.2,0,Int.ofNat (List.length x.2),0,y.1,())) (W.bC (λ(D:Int×Unit)=>A.pure D.1))))
def V3(kI:Int×Int×Int->A Bool)(x:bJ×Int):A Bool:=
 A.bind (kI (x.2,0,IntKind.wrap .i64 (Int.ofNat (List.length x.1.2.2.2.1)-1))) λy=>A.pure y
def aj9(x':Int×Int->A (Int×Int))(x:z1'×Int):A (z1'):=
 A.bind (if decide (x.2<0)=true then A.ae False (A.ae False (A.pure (W.next (x.1,x.2,())))) else A.pure (W.next (x.1,x.2,()))) (W.bC (λ(D:z1'×Int×Unit)=>A.bind (x' (IntKind.wrap .u64 (Int.ofNat (List.length D.1)),IntKind.wrap .u64 D.2.1)) λy=>A.bind (if (decide (y.1 > 0)||decide (y.2 > 9223372036854775807))=true then A.ae False (A.ae False (A.pure (W.next (D.1,y.2,())))) else A.pure (W.next (D.1,y.2,()))) (W.bC (λ(D:z1'×Int×Unit)=>letI b:=IntKind.wrap .i64 D.2.1;letI f:=Int.toNat b;letI e:=List.take (List.length (List.replicate f (0:Int))-0) D.1;A.ae (0<=b/\b=b/\bQ f) (A.ae True (A.bind (A.loop (λ(D:Int×z1'×Unit)=>letI g:=Int.toNat D.1;letI c:=List.take g D.2.1;letI a:=Int.ofNat (List.length D.2.1);letI d:=Int.toNat a-g;if decide (D.1<a)=true then A.ae (0<=D.1/\D.1<=a/\a<=a) (A.ae ((0:Int)<=0/\0<=D.1/\D.1<=a) (A.ae True (A.pure (W.next (IntKind.wrap .i64 (Add.add D.1 (Int.ofNat (if d<=List.length c then d else List.length c))),c++List.take d c++List.drop (Add.add g (List.length (List.take d c))) D.2.1,()))))) else A.bind (A.pure (W.next (D.2.1,()))) λr=>A.pure (W.done r)) (Int.ofNat (if List.length (List.replicate f (0:Int))-0<=List.length D.1 then List.length (List.replicate f (0:Int))-0 else List.length D.1),[]++e++List.drop (Add.add 0 (List.length e)) (List.replicate f (0:Int)),())) (W.bC (λ(D:z1'×Unit)=>A.pure D.1))))))))
def V4(NN:Option dz×z1'->A (z3'×Bool))(NO:Option dz×z3'->A Int)(x:Option dz×z1'):A Bool:=
 A.bind (NN x) λy=>A.bind (cu y.2 (NO (x.1,y.1)) 0) λb2=>A.pure (y.2&&decide (b2=0))
def V5(D1:Int->A Bool)(NV:z1'×(Int->A Bool)->A Bool)(aj_:List dm×(Int×Int×Int×Int×z1'->A Bool)->A Bool)(aj':List dB×(z1'×(Int×Int)×Int×Int×Int->A Bool)->A Bool)(aka:z3'×(Int×Int×Int->A Bool)->A Bool)(akb:(Int×Int×Int×Int×z1')×Option bx->A Bool)(akc:(Int×Int×Int)×Option bx->A Bool)(akd:z1'×(Int×Int)×Int×Int×Int->A Bool)(ake:Int->A Bool)(x:bJ):A Bool:=
 letI e:=x.2.2.2;letI b:=decide (Int.ofNat (List.length x.2.1)=Int.ofNat (List.length x.1.1));A.bind (cu b (NV (x.2.1,ake)) false) λy=>letI d:=b&&!y&&decide (Int.ofNat (List.length x.2.2.1)<=8);A.bind (cu d (aj_ (x.2.2.1,λhB=>akb (hB,some x.1))) false) λb2=>letI a:=d&&!b2&&decide (Int.ofNat (List.length e.1)<=6);A.bind (cu a (aj' (e.1,akd)) false) λdy=>letI c:=a&&!dy&&decide (Int.ofNat (List.length e.2.1)<=8);A.bind (cu c (aka (e.2.1,λhB=>akc (hB,some x.1))) false) λfu=>A.bind (cu (c&&!fu) (D1 e.2.2) false) λjW=>A.pure (c&&!fu&&jW)
def akf(x:Int×Int×Int):A Bool:=
 A.pure (decide (x.2.1<=x.1)&&decide (x.1<=x.2.2))
def V6(oe:Int×Int×Int->A Bool)(HS:z1'×Int->A Bool)(x:bJ×Int×Int×Int×Int×z1'):A Bool:=
 letI c:=x.2.2.2.2;letI b:=Int.ofNat (List.length x.1.1.2.1);letI a:=(c.2,IntKind.wrap .i64 (Int.ofNat (List.length (List.getD x.1.1.2.1 (Int.toNat c.1) []))-1));A.bind (oe (x.2.1,0,99)) λy=>A.bind (cu (!(!y)) (oe (x.2.2.1,0,99)) false) λb2=>A.bind (cu (!(!y||!b2)) (oe (x.2.2.2.1,0,99)) false) λdy=>A.bind (cu (!(!y||!b2||!dy)) (oe (c.1,0,IntKind.wrap .i64 (b-1))) false) λfu=>if (!y||!b2||!dy||!fu)=true then A.pure false else A.ae (0<=c.1/\c.1<b) (A.ae (HS a).cr (A.pure (A.val (HS a) false)))
def V7(oe:Int×Int×Int->A Bool)(HS:z1'×Int->A Bool)(x:z1'×(Int×Int)×Int×Int×Int):A Bool:=
 A.bind (oe (Int.ofNat (List.length x.1),1,8)) λy=>A.bind (cu y (HS (x.1,99)) false) λb2=>letI a:=y&&b2&&decide (0<=x.2.1.1)&&decide (x.2.1.1<=x.2.1.2)&&decide (x.2.1.2<=99);A.bind (cu a (oe (x.2.2.1,0,99)) false) λdy=>A.bind (cu (a&&dy) (oe (x.2.2.2.1,0,99)) false) λfu=>A.bind (cu (a&&dy&&fu) (oe (x.2.2.2.2,0,100000)) false) λjW=>A.pure (a&&dy&&fu&&jW)
def V8(kI:Int×Int×Int->A Bool)(x:bJ×Int):A Bool:=
 A.bind (kI (x.2,0,IntKind.wrap .i64 (Int.ofNat (List.length x.1.2.2.1)-1))) λy=>A.pure y
def V9(kI:Int×Int×Int->A Bool)(hP:z1'×Int->A Bool)(x:(z1'×(Int×Int)×Int×Int×Int)×Int×Int×Int×Int×z1'):A Int:=
 A.bind (hP (x.1.1,x.2.1)) λy=>A.bind (cu (!(!y)) (kI (x.2.2.1,x.1.2.1)) false) λb2=>if (!y||!b2)=true then A.pure 0 else if decide (x.2.2.2.1=x.1.2.2.1)=true then A.pure 1 else if decide (x.2.2.2.1=0)=true then A.pure 2 else A.pure 0
def NW(akg:z1'×Int->A (z1'))(AB:Option dz×z1'->A Bool)(l':Option dz×z1'->A Int)(akh:Option dz->Prop)(aki:Option dz->List (z1'))(x:Option dz):A (z1'):=
 A.ae (Option.isSome x=true) (A.bind (akg ([-1],Int.ofNat (List.length (Option.getD x ((([],[],0,[]),[],[],[],[],0),[],[])).1.2.2.2.1))) (λy=>A.ae (akh x) (A.bind (jR (λ(D:Option ((bx×z1'×List dm×List (z1'×(Int×Int)×Int×Int×Int)×z3'×Int)×z4'×z5')×z1'×Unit) (y:z1')=>letI b:=(D.1,y);letI a:=(D.1,D.2.1);A.bind (A.ae (l' b).cr (A.ae (l' a).cr (A.ae (decide (A.val (l' b) 0 > A.val (l' a) 0)=true->(decide (A.val (l' b) 0 > A.val (l' a) 0)=true/\decide (A.val (l' b) 0 > A.val (l' a) 0)=true/\True)/\(AB b).cr/\True) (A.ae (True/\(decide (A.val (l' b) 0 > A.val (l' a) 0)=true->decide (A.val (l' b) 0 > A.val (l' a) 0)=true)) (if (decide (A.val (l' b) 0 > A.val (l' a) 0)&&A.val (AB b) false)=true then A.pure (di.normal,D.1,y,()) else A.pure (di.normal,D.1,D.2.1,())))))) λp=>A.pure (p.1,p.2.1,p.2.2.1,())) (aki x) (x,y,())) (λp=>sA (A.pure p.2.2.1) (λid=>if id=0 then A.pure p.2.2.1 else A.fail) A.fail p.1))))
def V_(akj:bJ×Int->A Bool)(hP:z1'×Int->A Bool)(x:bJ×z1'):A Bool:=
 A.bind (A.loop (λ(D:z1'×z1'×Int×Int×(bx×z1'×List dm×List (z1'×(Int×Int)×Int×Int×Int)×z3'×Int)×Unit)=>letI e:=D.2.2;letI b:=e.2.1;letI c:=Int.toNat b;letI f:=List.getD D.2.1 c 0;letI a:=decide (List.getD D.2.1 c (0:Int)≠-1);if decide (b<e.1)=true then A.ae (0<=b/\b<Int.ofNat (List.length D.2.1)) (A.bind (cu a (akj (e.2.2.1,f)) false) (λy=>letI d:=(a&&!(!y))=true;A.ae (d->(d/\True/\d)/\((0:Int)<=0/\0<=b/\b<=Int.ofNat (List.length D.1))/\True) (A.bind (cu (a&&!(!y)) (hP (List.take c D.1,f)) false) (λb2=>if (a&&(!y||b2))=true then A.bind (A.bind (A.pure false) (λr=>A.pure (W.done r))) λr=>A.pure (W.done r) else A.pure (W.next (D.1,D.2.1,e.1,IntKind.wrap .i64 (Add.add b 1),e.2.2.1,())))))) else A.bind (A.pure (W.next (D.1,e.2.2.1,()))) λr=>A.pure (W.done r)) (x.2,x.2,Int.ofNat (List.length x.2),0,x.1,())) (W.bC (λ(D:z1'×(bx×z1'×List dm×List dB×z3'×Int)×Unit)=>A.pure (decide (Int.ofNat (List.length D.1)=Int.ofNat (List.length D.2.1.2.2.2.1)))))
def NX(x:Option dz×z1'):A Int:=
 A.bind (A.loop (λ(D:Option ((bx×z1'×List dm×List dB×z3'×Int)×z4'×z5')×Int×z1'×Int×Int×Unit)=>letI c:=D.2.2;letI b:=(Option.getD D.1 ((([],[],0,[]),[],[],[],[],0),[],[])).1.2.2.2.1;letI a:=c.2.2.1;if decide (a<c.2.1)=true then A.bind (A.ae (0<=a/\a<Int.ofNat (List.length c.1)) (if decide (List.getD c.1 (Int.toNat a) (0:Int)≠-1)=true then A.ae (Option.isSome D.1=true) (A.ae (0<=a/\a<Int.ofNat (List.length b)) (A.pure (W.next (D.1,IntKind.wrap .i64 (Add.add D.2.1 (List.getD b (Int.toNat a) ([],(0,0),0,0,0)).2.2.2.2),c.1,c.2.1,a,())))) else A.pure (W.next (D.1,D.2.1,c.1,c.2.1,a,())))) (W.bC (λ(D:Option ((bx×z1'×List (Int×Int×Int×Int×z1')×List dB×z3'×Int)×z4'×z5')×Int×z1'×Int×Int×Unit)=>A.pure (W.next (D.1,D.2.1,D.2.2.1,D.2.2.2.1,IntKind.wrap .i64 (Add.add D.2.2.2.2.1 1),())))) else A.bind (A.pure (W.next (D.2.1,()))) λr=>A.pure (W.done r)) (x.1,0,x.2,Int.ofNat (List.length x.2),0,())) (W.bC (λ(D:Int×Unit)=>A.pure D.1))
def akk(x':Int×Int->A (Int×Int))(x:z4'×Int):A (z4'):=
 A.bind (if decide (x.2<0)=true then A.ae False (A.ae False (A.pure (W.next (x.1,x.2,())))) else A.pure (W.next (x.1,x.2,()))) (W.bC (λ(D:z4'×Int×Unit)=>A.bind (x' (IntKind.wrap .u64 (Int.ofNat (List.length D.1)),IntKind.wrap .u64 D.2.1)) λy=>A.bind (if (decide (y.1 > 0)||decide (y.2 > 9223372036854775807))=true then A.ae False (A.ae False (A.pure (W.next (D.1,y.2,())))) else A.pure (W.next (D.1,y.2,()))) (W.bC (λ(D:z4'×Int×Unit)=>letI b:=IntKind.wrap .i64 D.2.1;letI f:=Int.toNat b;letI d:=List.take (List.length (List.replicate f ((0:Int),(0:Int)))-0) D.1;A.ae (0<=b/\b=b/\bQ f) (A.ae True (A.bind (A.loop (λ(D:Int×z4'×Unit)=>letI g:=Int.toNat D.1;letI c:=List.take g D.2.1;letI a:=Int.ofNat (List.length D.2.1);letI e:=Int.toNat a-g;if decide (D.1<a)=true then A.ae (0<=D.1/\D.1<=a/\a<=a) (A.ae ((0:Int)<=0/\0<=D.1/\D.1<=a) (A.ae True (A.pure (W.next (IntKind.wrap .i64 (Add.add D.1 (Int.ofNat (if e<=List.length c then e else List.length c))),c++List.take e c++List.drop (Add.add g (List.length (List.take e c))) D.2.1,()))))) else A.bind (A.pure (W.next (D.2.1,()))) λr=>A.pure (W.done r)) (Int.ofNat (if List.length (List.replicate f ((0:Int),(0:Int)))-0<=List.length D.1 then List.length (List.replicate f ((0:Int),(0:Int)))-0 else List.length D.1),[]++d++List.drop (Add.add 0 (List.length d)) (List.replicate f ((0:Int),(0:Int))),())) (W.bC (λ(D:z4'×Unit)=>A.pure D.1))))))))
def V'(x:Option dz×(Int×Int)×Int×Int×Int):A Bool:=
 letI c:=decide (x.2.1.2<=x.2.2.2.2);letI a:=c=true;letI b:=a->a/\True/\True;A.ae (a->a/\Option.isSome x.1=true/\True) (A.ae b (A.ae b (A.ae b (A.ae b (A.ae b (A.ae (a->(a/\a/\a/\True)/\True/\True) (A.ae (a->(a/\a)/\True/\True) (A.ae (a->(a/\True)/\True/\True) (A.ae (True/\(a->a)) (A.pure (c&&decide (Option.getD (Option.map (λx=>x.2) (List.find? (λp=>decide (x.2.1.1=p.1.1)&&(decide (x.2.2.1=p.1.2.1)&&decide (x.2.2.2.1=p.1.2.2))) (Option.getD x.1 ((([],[],0,[]),[],[],[],[],0),[],[])).2.2)) (0:Int) > 0))))))))))))
def akl(x:Int×Int×Int):A Bool:=
 A.pure (decide (x.2.1<=x.1)&&decide (x.1<=x.2.2))
def Wa(kI:Int×Int×Int->A Bool)(vR:Int->A Bool)(NY:z1'×(Int->A Bool)->A Bool)(akm:Int×Option bx×Option (Int×Int×Int×Int×z1')->A Bool)(x:(Int×Int×Int×Int×z1')×Option bx):A Bool:=
 letI b:=Option.getD x.2 ([],[],0,[]);A.bind (vR x.1.1) λy=>A.bind (cu (!(!y)) (vR x.1.2.1) false) λb2=>A.bind (cu (!(!y||!b2)) (vR x.1.2.2.1) false) λdy=>letI a:=!y||!b2||!dy;A.bind (cu (!a) (kI (x.1.2.2.2.1,0,IntKind.wrap .i64 (Int.ofNat (List.length b.2.1)-1))) false) λfu=>A.bind (cu (!(a||!fu)) (NY (x.1.2.2.2.2,λhB=>akm (hB,some b,some x.1))) false) λjW=>A.pure (a||!fu||!jW)
def Wb(kI:Int×Int×Int->A Bool)(x:Int):A Bool:=
 A.bind (kI (x,0,99)) λy=>A.pure y
def Wc(x:z1'×(Int->A Bool)):A Bool:=
 A.bind (A.loop (λ(D:z1'×(Int->A Bool)×z1'×Int×Int×Unit)=>letI e:=D.2.2;letI a:=e.2.2.1;letI d:=List.getD e.1 (Int.toNat a) 0;letI c:=IntKind.wrap .i64 (a-1);if decide (a<e.2.1)=true then A.ae (0<=a/\a<Int.ofNat (List.length e.1)) (A.bind (D.2.1 d) (λy=>letI b:=(!(!y)&&decide (a > 0))=true;A.ae (b->(b/\b)/\(0<=c/\c<Int.ofNat (List.length D.1))/\True) (if (!y||decide (a > 0)&&decide (d<=List.getD D.1 (Int.toNat c) 0))=true then A.bind (A.bind (A.pure false) (λr=>A.pure (W.done r))) λr=>A.pure (W.done r) else A.pure (W.next (D.1,D.2.1,e.1,e.2.1,IntKind.wrap .i64 (Add.add a 1),()))))) else A.bind (A.pure (W.next ())) λr=>A.pure (W.done r)) (x.1,x.2,x.1,Int.ofNat (List.length x.1),0,())) (W.bC (λ(D:Unit)=>A.pure true))
def Wd(kI:Int×Int×Int->A Bool)(x:Int×Option bx×Option (Int×Int×Int×Int×z1')):A Bool:=
 letI b:=(Option.getD x.2.1 ([],[],0,[])).2.1;letI a:=(Option.getD x.2.2 (0,0,0,0,[])).2.2.2.1;A.ae (0<=a/\a<Int.ofNat (List.length b)) (A.bind (kI (x.1,0,IntKind.wrap .i64 (Int.ofNat (List.length (List.getD b (Int.toNat a) []))-1))) (λy=>A.pure y))
def We(kI:Int×Int×Int->A Bool)(vR:Int->A Bool)(NY:z1'×(Int->A Bool)->A Bool)(D1:Int->A Bool)(x:z1'×(Int×Int)×Int×Int×Int):A Bool:=
 A.bind (kI (Int.ofNat (List.length x.1),1,8)) λy=>A.bind (cu (!(!y)) (NY (x.1,vR)) false) λb2=>A.bind (cu (!(!y||!b2)) (vR x.2.1.1) false) λdy=>A.bind (cu (!(!y||!b2||!dy)) (vR x.2.1.2) false) λfu=>letI a:=!y||!b2||!dy||!fu||decide (x.2.1.1 > x.2.1.2);A.bind (cu (!a) (vR x.2.2.1) false) λjW=>A.bind (cu (!(a||!jW)) (D1 x.2.2.2.1) false) λqE=>A.bind (cu (!(a||!jW||!qE)) (kI (x.2.2.2.2,0,100000)) false) λur=>A.pure (a||!jW||!qE||!ur)
def Wf(kI:Int×Int×Int->A Bool)(x:Int):A Bool:=
 A.bind (kI (x,0,99)) λy=>A.pure y
def Wg(kI:Int×Int×Int->A Bool)(D1:Int->A Bool)(x:(Int×Int×Int)×Option bx):A Bool:=
 A.bind (D1 x.1.1) λy=>A.bind (cu (!(!y)) (kI (x.1.2.1,0,IntKind.wrap .i64 (Int.ofNat (List.length (Option.getD x.2 ([],[],0,[])).1)-1))) false) λb2=>A.bind (cu (!(!y||!b2)) (kI (x.1.2.2,1,10)) false) λdy=>A.pure (!y||!b2||!dy)
def Wh(kI:Int×Int×Int->A Bool)(x:Int):A Bool:=
 A.bind (kI (x,0,10)) λy=>A.pure (!y)
def Wi(x:z1'×Int):A Bool:=
 A.bind (A.loop (λ(D:z1'×Int×Int×Unit)=>letI e:=D.2.2.1;letI j:=decide (e > 0);letI i:=List.getD D.1 (Int.toNat e) 0;letI h:=IntKind.wrap .i64 (e-1);letI d:=Int.ofNat (List.length D.1);letI k:=0<=e/\e<d;letI b:=decide (List.getD D.1 (Int.toNat e) (0:Int)<0);letI f:=(!b)=true;letI a:=b||decide (i > D.2.1);letI g:=(!a)=true;letI c:=(!a&&j)=true;letI l:=c->c/\True/\True;if decide (e<d)=true then A.ae k (A.ae (f->(f/\f)/\k/\True) (A.ae (f->f/\True/\True) (A.ae (f->(f/\f)/\True/\True) (A.ae (True/\(b=false->f)) (A.ae (g->(g/\True)/\True/\True) (A.ae (g->True/\True/\g) (A.ae (c->(c/\c)/\k/\True) (A.ae l (A.ae (c->(c/\True)/\True/\True) (A.ae (c->(c/\c)/\(0<=h/\h<d)/\True) (A.ae l (A.ae (c->(c/\c)/\True/\True) (A.ae (g->(g/\(j=true->c))/\True/\True) (A.ae (True/\(a=false->g)) (if (a||j&&decide (i<=List.getD D.1 (Int.toNat h) 0))=true then A.bind (A.bind (A.pure false) (λr=>A.pure (W.done r))) λr=>A.pure (W.done r) else A.pure (W.next (D.1,D.2.1,IntKind.wrap .i64 (Add.add e 1),()))))))))))))))))) else A.bind (A.pure (W.next ())) λr=>A.pure (W.done r)) (x.1,x.2,0,())) (W.bC (λ(D:Unit)=>A.pure true))
def HT(ya:Option dz×z1'×Int×Nat×(Nat×(List (z1')->Prop)×List (z1')×Bool)×Unit->A (Bool×(Nat×(List (z1')->Prop)×List (z1')×Bool)×Unit))(x:Option dz×Nat×(Nat×(List (z1')->Prop)×List (z1')×Bool)×Unit):A ((Nat×(List (z1')->Prop)×List (z1')×Bool)×Unit):=
 A.bind (ya (x.1,[],1,x.2.1,x.2.2.1,())) λy=>A.pure (y.2.1,())
def HU(ya:Option dz×z1'×Int×Nat×(Nat×(List (z1')->Prop)×List (z1')×Bool)×Unit->A (Bool×(Nat×(List (z1')->Prop)×List (z1')×Bool)×Unit))(x:Option dz×Nat×(Nat×(List (z1')->Prop)×List (z1')×Bool)×Unit):A ((Nat×(List (z1')->Prop)×List (z1')×Bool)×Unit):=
 A.bind (ya (x.1,[],0,x.2.1,x.2.2.1,())) λy=>A.pure (y.2.1,())
def NZ(HR:Option dz×(Int×Int)×Int×Int×Int->A Bool)(NU:Option dz×z3'×Int×z4'×z1'×Unit->A (Bool×z4'×z1'×Unit))(x:Option dz×z3'×Int×z4'×z1'×Unit):A (Bool×z4'×z1'×Unit):=
 letI k:=(Option.getD x.1 ((([],[],0,[]),[],[],[],[],0),[],[])).2.1;A.bind (A.ae (Option.isSome x.1=true) (A.loop (λ(D:Option ((bx×z1'×List dm×List (z1'×(Int×Int)×Int×Int×Int)×z3'×Int)×z4'×z5')×z3'×Int×z4'×Int×Int×z4'×z1'×Unit)=>letI o:=D.2.1;letI i:=D.2.2;letI c:=i.2.2.2;letI m:=c.2.2.1;letI l:=Int.toNat c.1;letI j:=Option.map (λx=>x.2) (List.find? (λp=>decide (c.1=p.1)) c.2.1);letI g:=0<=c.1/\c.1<Int.ofNat (List.length m);letI f:=(D.1,List.getD i.2.1 l (0,0),List.getD o (Int.toNat i.1) (0,0,0));letI d:=ff c.2.1 c.1 (IntKind.wrap .i64 (Add.add (Option.getD j 0) 1));letI b:=decide (List.getD m l (0:Int)=-1);letI h:=(!b)=true;letI a:=decide (Option.getD j (0:Int) > 0);letI e:=(!a)=true;letI q:=e->e/\True/\True;if decide (c.1<i.2.2.1)=true then A.bind (A.ae (0<=c.1/\c.1<Int.ofNat (List.length i.2.1)) (A.ae (e->(e/\e)/\(0<=i.1/\i.1<Int.ofNat (List.length o))/\True) (A.ae q (A.ae (e->(e/\e/\e/\True)/\(HR f).cr/\True) (A.ae q (A.ae (True/\(a=false->e)) (if (a||!(A.val (HR f) false))=true then A.pure (W.next (D.1,o,i.1,i.2.1,i.2.2.1,c.1,c.2.1,m,())) else A.ae g (A.ae (h->(h/\h)/\g/\True) (if h then A.ae (h/\h/\h/\h/\h/\True) (A.bind (NU (D.1,o,List.getD m l 0,d,m,())) (λy=>if (b||y.1)=true then A.ae (0<=c.1/\c.1<Int.ofNat (List.length y.2.2.1)) (A.bind (A.bind (A.bind (A.pure (true,y.2.1,List.set y.2.2.1 l i.1,())) (λr=>A.pure (W.done r))) (λr=>A.pure (W.done r))) (λr=>A.pure (W.done r))) else A.pure (W.next (D.1,o,i.1,i.2.1,i.2.2.1,c.1,y.2.1,y.2.2.1,())))) else A.ae (True/\(b=false->false=true)) (if (b||false)=true then A.ae g (A.bind (A.bind (A.bind (A.pure (true,d,List.set m l i.1,())) (λr=>A.pure (W.done r))) (λr=>A.pure (W.done r))) (λr=>A.pure (W.done r))) else A.pure (W.next (D.1,o,i.1,i.2.1,i.2.2.1,c.1,d,m,())))))))))))) (W.bC (λ(D:Option ((bx×z1'×List dm×List dB×z3'×Int)×z4'×z5')×z3'×Int×z4'×Int×Int×z4'×z1'×Unit)=>letI n:=D.2.2.2;A.pure (W.next (D.1,D.2.1,D.2.2.1,n.1,n.2.1,IntKind.wrap .i64 (Add.add n.2.2.1 1),n.2.2.2.1,n.2.2.2.2.1,())))) else A.bind (A.pure (W.next (c.2.1,m,()))) λr=>A.pure (W.done r)) (x.1,x.2.1,x.2.2.1,k,Int.ofNat (List.length k),0,x.2.2.2.1,x.2.2.2.2.1,()))) (W.bC (λ(D:z4'×z1'×Unit)=>A.pure (false,D.1,D.2.1,())))
def N0(HQ:(z1'×(Int×Int)×Int×Int×Int)×Int×Int×Int×Int×z1'->A Int)(ya:Option dz×z1'×Int×Nat×(Nat×(List (z1')->Prop)×List (z1')×Bool)×Unit->A (Bool×(Nat×(List (z1')->Prop)×List (z1')×Bool)×Unit))(hP:z1'×Int->A Bool)(x:Option dz×z1'×Int×Nat×(Nat×(List (z1')->Prop)×List (z1')×Bool)×Unit):A (Bool×(Nat×(List (z1')->Prop)×List (z1')×Bool)×Unit):=
 letI p:=Option.isSome x.1=true;letI o:=Int.ofNat (List.length x.2.1);letI i:=x.2.2.2.2.1;letI e:=(Option.getD x.1 ((([],[],0,[]),[],[],[],[],0),[],[])).1.2.2;A.ae p (if decide (o=Int.ofNat (List.length e.2.1))=true then A.bind (A.ae (x.2.2.2.1=i.1/\i.2.2.2=false/\(∃ (T:List (z1')),i.2.1 (i.2.2.1++x.2.1::T))) (A.any (λx=>True))) λy=>A.pure (y,(i.1,i.2.1,i.2.2.1++[x.2.1],!y),()) else A.bind (A.ae p (A.loop (λ(D:Option dz×z1'×Int×Nat×Int×List dm×Int×Int×(Nat×(List (z1')->Prop)×List (z1')×Bool)×Unit)=>letI q:=D.2.1;letI l:=D.2.2;letI j:=(Option.getD D.1 ((([],[],0,[]),[],[],[],[],0),[],[])).1.2.2.2.1;letI c:=l.2.2;letI m:=List.take (Int.toNat c.1) q;letI k:=c.2.2.2;letI d:=(List.getD j (Int.toNat c.1) ([],(0,0),0,0,0),List.getD c.2.1 (Int.toNat k.1) (0,0,0,0,[]));letI a:=(q,k.1);if decide (k.1<c.2.2.1)=true then A.bind (A.ae (0<=k.1/\k.1<Int.ofNat (List.length c.2.1)) (A.ae (hP a).cr (A.ae ((!(A.val (hP a) false))=true->(!(A.val (hP a) false))=true/\Option.isSome D.1=true/\True) (A.ae ((!(A.val (hP a) false))=true->(!(A.val (hP a) false))=true/\True/\True) (A.ae ((!(A.val (hP a) false))=true->(!(A.val (hP a) false))=true/\True/\True) (A.ae ((!(A.val (hP a) false))=true->(!(A.val (hP a) false))=true/\True/\True) (A.ae ((!(A.val (hP a) false))=true->((!(A.val (hP a) false))=true/\(!(A.val (hP a) false))=true)/\(0<=c.1/\c.1<Int.ofNat (List.length j))/\True) (A.ae ((!(A.val (hP a) false))=true->(!(A.val (hP a) false))=true/\True/\True) (A.ae ((!(A.val (hP a) false))=true->((!(A.val (hP a) false))=true/\(!(A.val (hP a) false))=true/\True)/\(HQ d).cr/\True) (A.ae ((!(A.val (hP a) false))=true->((!(A.val (hP a) false))=true/\True)/\True/\True) (A.ae (True/\(A.val (hP a) false=false->(!(A.val (hP a) false))=true)) (if (A.val (hP a) false||decide (A.val (HQ d) (0:Int)=0))=true then A.pure (W.next (D.1,q,l.1,l.2.1,c.1,c.2.1,c.2.2.1,k.1,k.2.1,())) else A.ae ((0:Int)<=0/\0<=c.1/\c.1=c.1/\c.1<=Int.ofNat (List.length q)) (A.ae (0<Add.add 0 1/\bQ (Add.add (List.length m) (Add.add 0 1))) (A.bind (ya (D.1,m++[k.1],l.1,l.2.1,k.2.1,())) (λy=>if (!y.1)=true then A.bind (A.bind (A.bind (A.pure (false,y.2.1,())) (λr=>A.pure (W.done r))) (λr=>A.pure (W.done r))) λr=>A.pure (W.done r) else A.pure (W.next (D.1,q,l.1,l.2.1,c.1,c.2.1,c.2.2.1,k.1,y.2.1,()))))))))))))))))) (W.bC (λ(D:Option dz×z1'×Int×Nat×Int×List dm×Int×Int×(Nat×(List (z1')->Prop)×List (z1')×Bool)×Unit)=>letI n:=D.2.2.2.2;A.pure (W.next (D.1,D.2.1,D.2.2.1,D.2.2.2.1,n.1,n.2.1,n.2.2.1,IntKind.wrap .i64 (Add.add n.2.2.2.1 1),n.2.2.2.2.1,())))) else A.bind (A.pure (W.next (D.1,q,l.1,l.2.1,c.1,k.2.1,()))) λr=>A.pure (W.done r)) (x.1,x.2.1,x.2.2.1,x.2.2.2.1,o,e.1,Int.ofNat (List.length e.1),0,i,()))) (W.bC (λ(D:Option dz×z1'×Int×Nat×Int×(Nat×(List (z1')->Prop)×List (z1')×Bool)×Unit)=>letI s:=D.2.2;letI h:=s.2.2;letI g:=List.take (Int.toNat h.1) D.2.1;letI f:=decide (s.1=0);letI b:=(!f)=true;A.ae (b->(b/\True/\b/\b)/\((0:Int)<=0/\0<=h.1/\h.1=h.1/\h.1<=Int.ofNat (List.length D.2.1))/\True) (if b then A.ae (b/\b) (A.ae (0<Add.add 0 1/\bQ (Add.add (List.length g) (Add.add 0 1))) (if b then A.ae (b/\b/\b/\True) (A.bind (ya (D.1,g++[-1],s.1,s.2.1,h.2.1,())) (λy=>A.pure (f||y.1,y.2.1,()))) else A.ae (True/\(f=false->false=true)) (A.pure (f||false,h.2.1,())))) else if b then A.ae (b/\false=true/\b/\b/\True) (A.bind (ya (D.1,g++[-1],s.1,s.2.1,h.2.1,())) (λy=>A.pure (f||y.1,y.2.1,()))) else A.ae (True/\(f=false->false=true)) (A.pure (f||false,h.2.1,()))))))
def akn(x':Int×Int->A (Int×Int))(x:z1'×Int×Unit):A (z1'×Unit):=
 A.bind (if decide (x.2.1<0)=true then A.ae False (A.ae False (A.pure (W.next (x.1,x.2.1,())))) else A.pure (W.next (x.1,x.2.1,()))) (W.bC (λ(D:z1'×Int×Unit)=>A.bind (x' (IntKind.wrap .u64 (Int.ofNat (List.length D.1)),IntKind.wrap .u64 D.2.1)) λy=>A.bind (if (decide (y.1 > 0)||decide (y.2 > 9223372036854775807))=true then A.ae False (A.ae False (A.pure (W.next (D.1,y.2,())))) else A.pure (W.next (D.1,y.2,()))) (W.bC (λ(D:z1'×Int×Unit)=>letI b:=IntKind.wrap .i64 D.2.1;letI f:=Int.toNat b;letI e:=List.take (List.length (List.replicate f (0:Int))-0) D.1;A.ae (0<=b/\b=b/\bQ f) (A.ae True (A.bind (A.loop (λ(D:Int×z1'×Unit)=>letI g:=Int.toNat D.1;letI c:=List.take g D.2.1;letI a:=Int.ofNat (List.length D.2.1);letI d:=Int.toNat a-g;if decide (D.1<a)=true then A.ae (0<=D.1/\D.1<=a/\a<=a) (A.ae ((0:Int)<=0/\0<=D.1/\D.1<=a) (A.ae True (A.pure (W.next (IntKind.wrap .i64 (Add.add D.1 (Int.ofNat (if d<=List.length c then d else List.length c))),c++List.take d c++List.drop (Add.add g (List.length (List.take d c))) D.2.1,()))))) else A.bind (A.pure (W.next (D.2.1,()))) λr=>A.pure (W.done r)) (Int.ofNat (if List.length (List.replicate f (0:Int))-0<=List.length D.1 then List.length (List.replicate f (0:Int))-0 else List.length D.1),[]++e++List.drop (Add.add 0 (List.length e)) (List.replicate f (0:Int)),())) (W.bC (λ(D:z1'×Unit)=>A.pure (D.1,())))))))))
end Go.Fer
