/- Part 4 of the proof of HireOrder: shallow programs of Go functions, and what they compute. No condition. -/
import Derived.Test.YtjacmbbmcjdphaaGreatHireOrderC
import Derived.RangeFuncBound
import Derived.Scope
import Derived.RangeFuncLeaves
import Derived.OpenShut
import Derived.WideKeyArgs
import Derived.ChangeSame
import Derived.Test.YtjacmbbmcjdphaaGreatProg
import Derived.KernelRfl
import Derived.Shelf.Sort.AssemblyIn
import Derived.Shelf.Slices.In.SortNone
import Derived.Sort.EveryDepth
import Derived.Shelf.Spec.SlicesGrow
noncomputable section
namespace Go.Fer
open Go.RowKit
theorem range_ok {C:Ctx} (hr0:C.r=none) {β:Type} {s:AState} {a:Act} {w:World} (hr:Rel C s a w) {g:Operand} {ps:Array Tmp} {assign body:Code} {kf n:Nat} {fs:Nat→AV} (hg:opAV C.ft s.slot g=.bnd kf n fs) {ic:ITC} (hIt:ItSpec C.P kf ic)
    {x:ic.ts.Den} {fl:List Nat} (hx:(asArgs ic.ts ((List.range n).map fs)).run s.blk=some (x,fl)) {sh rin rout:Shape} (hck:rangeOk sh rout ic.A ps.toList C.nt=true) {σ0:sh.Den} (hσ:sh.rd (s.frz fl)=some σ0) (hpre:ic.pre x)
    {run:AState→M (Ex×rout.Den)} {k:Ex→AState→M β} {O:β→Prop} (hm:M.Ret (rounds (fun σ y=>roundI sh rin rout ic.A ps.toList σ y run) (ic.seq x) σ0) fun p=>M.Ret (k p.1 (sh.st p.2)) O)
    (hwalk:∀ l,RoundWalk C.P C.ft C.nt assign body l run) {Q:Exit→Act→World→Prop}
    (hk:∀ u,C.UpOk u→∀ e s' a' w',Rel (C.up u) s' a' w'→M.Ret (k e s') O→Q e.the a' w'):(Code.rangeFunc g ps assign body).wpIn (rnd C.r) 0 C.P Q a w:=by
  obtain ⟨κ,F,hr⟩:=hr
  obtain ⟨F1,f1,hr1,f2⟩:=RelK.frzL (asArgs_closed _ hx) hr
  obtain ⟨κ,F2,f3,hr2⟩:=Shape.rd_okK hσ hr1
  have hv:=opAV_ok hr g
  rw [hg] at hv
  obtain ⟨vs,hv1,hv2,hv3⟩:=hv
  have hargs0:RArgs C.P ic.ts F1 w vs x:=asArgs_ok hr.blks f1 ic.ts hx f2 (by simp [hv2]) fun i hi hi'=>by
    have:=hv3 i (by omega)
    rw [List.getD_eq_getElem?_getD,List.getElem?_eq_getElem hi'] at this
    simpa using this
  have hno:∀ σ:sh.Den,(sh.st σ).slot TRS=.undef:=fun σ=>by
    simp only [rangeOk,Bool.and_eq_true,Bool.not_eq_true'] at hck
    exact look_none sh.slots gId σ TRS hck.1.1.1.2
  rw [hr0]
  refine wpIn_rangeFunc fun fn _=>?_
  have hB:w.heap.size<((w.alloc (.deferred (some []))).alloc (.loop (lrec fn a.tmps ps assign body w.heap.size .ready .normal))).heap.size:=by simp;try omega
  have hl:w.heap.size+1<((w.alloc (.deferred (some []))).alloc (.loop (lrec fn a.tmps ps assign body w.heap.size .ready .normal))).heap.size:=by simp;try omega
  have hlobj:((w.alloc (.deferred (some []))).alloc (.loop (lrec fn a.tmps ps assign body w.heap.size .ready .normal))).heap[w.heap.size+1]?=some (.loop (lrec fn a.tmps ps assign body w.heap.size .ready .normal)):=by
    have:=heap_alloc_new (w.alloc (.deferred (some []))) (.loop (lrec fn a.tmps ps assign body w.heap.size .ready .normal))
    simpa using this
  have hBobj:((w.alloc (.deferred (some []))).alloc (.loop (lrec fn a.tmps ps assign body w.heap.size .ready .normal))).heap[w.heap.size]?=some (.deferred (some [])):=
    (heap_alloc_lt _ _ (by simp)).trans (heap_alloc_new w _)
  have hlow:∀ r,r<w.heap.size→((w.alloc (.deferred (some []))).alloc (.loop (lrec fn a.tmps ps assign body w.heap.size .ready .normal))).heap[r]?=w.heap[r]?:=fun r h=>heap_alloc2 h
  have henter:(Instr.enterLoop fn a.tmps ps assign body none).run C.P w=.ok (w.heap.size+1,[markD w.heap.size]) ((w.alloc (.deferred (some []))).alloc (.loop (lrec fn a.tmps ps assign body w.heap.size .ready .normal))):=run_enterLoop_outer fn a.tmps ps assign body
  have hcw:Calm w ((w.alloc (.deferred (some []))).alloc (.loop (lrec fn a.tmps ps assign body w.heap.size .ready .normal))):=⟨rfl,rfl,rfl⟩
  have hsz1:((w.alloc (.deferred (some []))).alloc (.loop (lrec fn a.tmps ps assign body w.heap.size .ready .normal))).heap.size=w.heap.size+2:=by simp
  generalize (w.alloc (.deferred (some []))).alloc (.loop (lrec fn a.tmps ps assign body w.heap.size .ready .normal))=w1 at hB hl hlobj hBobj hlow henter hcw hsz1
  have hext:Ext F2 w w1:=⟨by omega,fun r h=>hlow r (hr2.fsz r h)⟩
  have hargs:RArgs C.P ic.ts F2 w1 vs x:=(hargs0.mono f3 (Ext.refl _ _)).mono (fun _ h=>h) hext
  have hI:RelK { C with w0:=w1,F0:=F2,K0:=fun _=>False } (sh.st σ0) a w1 κ F2:=
    hr2.rebase hr2.tsz hr2.dfr hr2.nsz hr2.slots (fun l' A' L' n' st' e=>by have e:(sh.st σ0).slot TRS=.tr l' A' L' n' st':=e;rw [hno] at e;cases e)
      (fun r h=>hlow r (by
        rcases h with h | ⟨b,hb,rfl⟩
        · exact hr2.fsz r h
        · exact (hr2.own b hb).1)) (by omega) (fun _ h=>.inl h) (fun _ h=>h) (fun _ h=>h.elim) (fun _ h=>h.elim) (fun _ _ h=>h) (Nat.le_refl _) (Calm.refl _)
  have hproto:=proto_of (roundInv_ok (S:=fun T=>T=ic.seq x) (C:=C) (CI:={ C with w0:=w1,F0:=F2,K0:=fun _=>False }) (sh:=sh) (rin:=rin) (rout:=rout) (ps:=ps) (assign:=assign) (body:=body) (a:=a) (fn:=fn) (l:=w.heap.size+1) (B:=w.heap.size) (run:=run) (k:=k) (O:=O)
    rfl (by omega) (by rw [hr.tsz];exact hck) (by rw [hr.tsz];exact hwalk _))
  have hsl:∀ b,((sh.st σ0).blk b).body.owned (κ b)=true→¬((κ b).blk=w.heap.size+1∨(κ b).blk=w.heap.size):=fun b hb h=>by
    have:=(hr2.own b hb).1
    omega
  have hcall:=hIt.calls (w.heap.size+1) _ F2 (fun r=>(∃ b,((sh.st σ0).blk b).body.owned (κ b)=true∧(κ b).blk=r)∨r=w.heap.size+1∨r=w.heap.size) w1 vs x hargs hpre hproto (fun r h=>hI.fsz r h)
    (fun r h=>by
      rcases h with ⟨b,hb,rfl⟩ | rfl | rfl
      · exact ⟨(hI.own b hb).1,(hI.own b hb).2.1⟩
      · exact ⟨hl,fun h=>by have:=hr2.fsz _ h;omega⟩
      · exact ⟨hB,fun h=>by have:=hr2.fsz _ h;omega⟩)
    ⟨.normal,σ0,κ,hI,hlobj,hBobj,fun b hb=>⟨.inl ⟨b,hb,rfl⟩,hsl b hb⟩,.inr (.inl rfl),.inr (.inr rfl),fun h=>by have:=hr2.fsz _ h;omega,fun h=>by have:=hr2.fsz _ h;omega,rfl,fun _=>⟨rfl,fun R hR=>by have hR:[]++R=ic.seq x:=hR;rw [show R=ic.seq x from hR];exact hm⟩,fun h=>by cases h⟩
  refine ⟨w.heap.size+1,[markD w.heap.size],w1,{ target:=.fn (.func kf) #[],args:=vs.toArray++#[.func (.yield (w.heap.size+1)) #[] #[]] },w1,kf,(vs++[Value.func (.yield (w.heap.size+1)) #[] #[]]).toArray,w1,henter,?_,fun _ _=>trivial,?_,fun h=>(by cases h),callsIn_wide.2 (hcall.mono fun e w3 ⟨v,n',st,F',Y',he,hst,hinv,g1,g2,g3,g4,g5,g6,g7⟩=>?_)⟩
  · have e:a.eval (.const (.func (.yield (w.heap.size+1)) #[] #[]))=.func (.yield (w.heap.size+1)) #[] #[]:=rfl
    simp [resolve,hv1,Deferred.ofValue,e]
  · have:=hIt.enter (vs++[Value.func (.yield (w.heap.size+1)) #[] #[]]).toArray w1
    simpa [invoke] using this
  subst he
  obtain ⟨e,σ,κ',hr3,h1,h2,h3,h4,h5,h6,h7,_,h8,h9⟩:=hinv
  refine ⟨jumpOf e,_,run_endLoop h1 (by cases st<;>simp [lrec]),?_⟩
  have hl3:w.heap.size+1<w3.heap.size:=(Array.getElem?_eq_some_iff.1 h1).1
  generalize hob:Obj.loop _=ob
  have hret:M.Ret (k e (sh.st σ)) O:=by
    cases st with
    | true=>exact (h9 rfl).2
    | false=>
      obtain ⟨rfl,hm'⟩:=h8 rfl
      exact (hm' [] (show n'++[]=ic.seq x by rw [hst rfl,List.append_nil])).2 _ rfl
  have hK0:∀ r,C.K0 r→r<w.heap.size:=fun r h=>Nat.lt_of_lt_of_le (hr.ksz r h) hr.size
  have hkeep:∀ r,C.K0 r→(w3.putObj (w.heap.size+1) ob).heap[r]?=C.w0.heap[r]?:=fun r h=>by
    have hlt:=hK0 r h
    rw [World.putObj_heap_other (by omega),g4 r (by omega) fun hy=>?_,hlow r hlt]
    · exact hr.keep r h
    · rcases hy with ⟨b,hb,rfl⟩ | rfl | rfl
      · exact (hr2.own b hb).2.2 h
      · omega
      · omega
  have hcalm:Calm C.w0 (w3.putObj (w.heap.size+1) ob):=by
    have:=(hr.calm.trans hcw).trans g7
    exact ⟨this.os,this.tape,this.output⟩
  have hup:C.UpOk ⟨w3.putObj (w.heap.size+1) ob,fun r=>C.K0 r∨r=w.heap.size,[w.heap.size]⟩:=
    { mks := fun B hB => by
        have:B=w.heap.size:=by simpa using hB
        subst this
        exact ⟨.inr rfl,(World.putObj_heap_other (by omega)).trans h2⟩
      new:=fun B hB=>by
        have:B=w.heap.size:=by simpa using hB
        subst this
        exact ⟨fun h=>by have:=hK0 _ h;omega,hr.size⟩
      nd:=by simp
      k0:=fun _ h=>.inl h
      keep:=hkeep
      size:=by have:=hr.size;simp;omega
      calm:=hcalm }
  have hfin:Rel (C.up ⟨w3.putObj (w.heap.size+1) ob,fun r=>C.K0 r∨r=w.heap.size,[w.heap.size]⟩) (sh.st σ) { a with defers:=[markD w.heap.size]++a.defers } (w3.putObj (w.heap.size+1) ob):=by
    have hF'lo:∀ r,F' r→C.F0 r∨¬(C.K0 r∨r=w.heap.size):=fun r hr'=>by
      rcases g2 r hr' with h | h | h
      · rcases hr2.flo r h with h' | h'
        · exact .inl h'
        · exact .inr fun hk=>hk.elim h' fun e=>by have:=hr2.fsz r h;omega
      · rcases h with ⟨b,hb,rfl⟩ | rfl | rfl
        · exact .inr fun hk=>hk.elim (hr2.own b hb).2.2 fun e=>hsl b hb (.inr e)
        · exact (h6 hr').elim
        · exact (h7 hr').elim
      · exact .inr fun hk=>hk.elim (fun h'=>by have:=hK0 r h';omega) fun e=>by omega
    refine ⟨κ',F',hr3.rebase (r:=C.r) hr3.tsz (by show [markD w.heap.size]++a.defers=_;rw [hr.dfr];rfl) hr3.nsz hr3.slots (fun l' A' L' n' st' e=>by have e:(sh.st σ).slot TRS=.tr l' A' L' n' st':=e;rw [hno] at e;cases e)
      (fun r h=>World.putObj_heap_other fun e=>by
        subst e
        rcases h with h | ⟨b,hb,h⟩
        · exact h6 h
        · exact (h3 b hb).2 (.inl h)) (by simp) hF'lo (fun r h=>g1 r (hr2.fhi r h)) (fun r h=>?_) (fun _ _=>rfl) (fun b hb h=>?_) (Nat.le_refl _) (Calm.refl _)⟩
    · simp only [World.putObj_size]
      rcases h with h | h
      · have:=hK0 r h;omega
      · omega
    · rcases h with h | h
      · rcases (g5 _ (h3 b hb).1).1 with hy | hy
        · rcases hy with ⟨b',hb',e⟩ | e | e
          · exact (hr2.own b' hb').2.2 (e ▸ h)
          · exact (h3 b hb).2 (.inl e)
          · exact (h3 b hb).2 (.inr e)
        · have:=hK0 _ h;omega
      · exact (h3 b hb).2 (.inr h)
  have hq:=hk _ hup e _ _ _ hfin hret
  cases e with
  | normal=>exact hq
  | exit id=>exact wpIn_exit hq
  | ret=>exact wpIn_ret hq
theorem range_it_ok {C:Ctx} (hr0:C.r=none) {β:Type} {s:AState} {a:Act} {w:World} (hr:Rel C s a w) {g:Operand} {ps:Array Tmp} {assign body:Code} {A:Ty} {S:List A.Den→Prop} (hg:opAV C.ft s.slot g=.val (.it A) S)
    {sh rin rout:Shape} (hck:rangeOk sh rout A ps.toList C.nt=true) {σ0:sh.Den} (hσ:sh.rd s=some σ0) (hne:∃ L,S L)
    {run:AState→M (Ex×rout.Den)} {k:Ex→AState→M β} {O:β→Prop} (hm:∀ L,S L→M.Ret (rounds (fun σ y=>roundI sh rin rout A ps.toList σ y run) L σ0) fun p=>M.Ret (k p.1 (sh.st p.2)) O)
    (hwalk:∀ l,RoundWalk C.P C.ft C.nt assign body l run) {Q:Exit→Act→World→Prop}
    (hk:∀ u,C.UpOk u→∀ e s' a' w',Rel (C.up u) s' a' w'→M.Ret (k e s') O→Q e.the a' w'):(Code.rangeFunc g ps assign body).wpIn (rnd C.r) 0 C.P Q a w:=by
  obtain ⟨κ,F,hr⟩:=hr
  obtain ⟨κ,F2,f3,hr2⟩:=Shape.rd_okK hσ hr
  have hv:=opAV_ok hr g
  rw [hg] at hv
  have hv1:=RC_mono _ f3 (Ext.refl _ _) ((RV_leaf rfl).1 hv).2
  simp only [RC] at hv1
  obtain ⟨u,hu,_,hits⟩:=hv1
  have hu:=(List.cons.inj hu).1
  have hno:∀ σ:sh.Den,(sh.st σ).slot TRS=.undef:=fun σ=>by
    simp only [rangeOk,Bool.and_eq_true,Bool.not_eq_true'] at hck
    exact look_none sh.slots gId σ TRS hck.1.1.1.2
  rw [hr0]
  refine wpIn_rangeFunc fun fn _=>?_
  have hB:w.heap.size<((w.alloc (.deferred (some []))).alloc (.loop (lrec fn a.tmps ps assign body w.heap.size .ready .normal))).heap.size:=by simp;try omega
  have hl:w.heap.size+1<((w.alloc (.deferred (some []))).alloc (.loop (lrec fn a.tmps ps assign body w.heap.size .ready .normal))).heap.size:=by simp;try omega
  have hlobj:((w.alloc (.deferred (some []))).alloc (.loop (lrec fn a.tmps ps assign body w.heap.size .ready .normal))).heap[w.heap.size+1]?=some (.loop (lrec fn a.tmps ps assign body w.heap.size .ready .normal)):=by
    have:=heap_alloc_new (w.alloc (.deferred (some []))) (.loop (lrec fn a.tmps ps assign body w.heap.size .ready .normal))
    simpa using this
  have hBobj:((w.alloc (.deferred (some []))).alloc (.loop (lrec fn a.tmps ps assign body w.heap.size .ready .normal))).heap[w.heap.size]?=some (.deferred (some [])):=
    (heap_alloc_lt _ _ (by simp)).trans (heap_alloc_new w _)
  have hlow:∀ r,r<w.heap.size→((w.alloc (.deferred (some []))).alloc (.loop (lrec fn a.tmps ps assign body w.heap.size .ready .normal))).heap[r]?=w.heap[r]?:=fun r h=>heap_alloc2 h
  have henter:(Instr.enterLoop fn a.tmps ps assign body none).run C.P w=.ok (w.heap.size+1,[markD w.heap.size]) ((w.alloc (.deferred (some []))).alloc (.loop (lrec fn a.tmps ps assign body w.heap.size .ready .normal))):=run_enterLoop_outer fn a.tmps ps assign body
  have hcw:Calm w ((w.alloc (.deferred (some []))).alloc (.loop (lrec fn a.tmps ps assign body w.heap.size .ready .normal))):=⟨rfl,rfl,rfl⟩
  have hsz1:((w.alloc (.deferred (some []))).alloc (.loop (lrec fn a.tmps ps assign body w.heap.size .ready .normal))).heap.size=w.heap.size+2:=by simp
  generalize (w.alloc (.deferred (some []))).alloc (.loop (lrec fn a.tmps ps assign body w.heap.size .ready .normal))=w1 at hB hl hlobj hBobj hlow henter hcw hsz1
  have hext:Ext F2 w w1:=⟨by omega,fun r h=>hlow r (hr2.fsz r h)⟩
  have hI:RelK { C with w0:=w1,F0:=F2,K0:=fun _=>False } (sh.st σ0) a w1 κ F2:=
    hr2.rebase hr2.tsz hr2.dfr hr2.nsz hr2.slots (fun l' A' L' n' st' e=>by have e:(sh.st σ0).slot TRS=.tr l' A' L' n' st':=e;rw [hno] at e;cases e)
      (fun r h=>hlow r (by
        rcases h with h | ⟨b,hb,rfl⟩
        · exact hr2.fsz r h
        · exact (hr2.own b hb).1)) (by omega) (fun _ h=>.inl h) (fun _ h=>h) (fun _ h=>h.elim) (fun _ h=>h.elim) (fun _ _ h=>h) (Nat.le_refl _) (Calm.refl _)
  have hproto:=roundInv_ok (S:=S) (C:=C) (CI:={ C with w0:=w1,F0:=F2,K0:=fun _=>False }) (sh:=sh) (rin:=rin) (rout:=rout) (ps:=ps) (assign:=assign) (body:=body) (a:=a) (fn:=fn) (l:=w.heap.size+1) (B:=w.heap.size) (run:=run) (k:=k) (O:=O)
    rfl (by omega) (by rw [hr.tsz];exact hck) (by rw [hr.tsz];exact hwalk _)
  have hsl:∀ b,((sh.st σ0).blk b).body.owned (κ b)=true→¬((κ b).blk=w.heap.size+1∨(κ b).blk=w.heap.size):=fun b hb h=>by
    have:=(hr2.own b hb).1
    omega
  obtain ⟨kf,caps,hkf,hent,hcalls⟩:=hits F2 w1 (fun _ h=>h) hext (fun r h=>hI.fsz r h) hne
  have hcall:=hcalls (w.heap.size+1) _ (fun r=>(∃ b,((sh.st σ0).blk b).body.owned (κ b)=true∧(κ b).blk=r)∨r=w.heap.size+1∨r=w.heap.size)
    (fun r h=>by
      rcases h with ⟨b,hb,rfl⟩ | rfl | rfl
      · exact ⟨(hI.own b hb).1,(hI.own b hb).2.1⟩
      · exact ⟨hl,fun h=>by have:=hr2.fsz _ h;omega⟩
      · exact ⟨hB,fun h=>by have:=hr2.fsz _ h;omega⟩)
    hproto ⟨.normal,σ0,κ,hI,hlobj,hBobj,fun b hb=>⟨.inl ⟨b,hb,rfl⟩,hsl b hb⟩,.inr (.inl rfl),.inr (.inr rfl),fun h=>by have:=hr2.fsz _ h;omega,fun h=>by have:=hr2.fsz _ h;omega,rfl,fun _=>⟨rfl,fun R hR=>hm R hR⟩,fun h=>by cases h⟩
  refine ⟨w.heap.size+1,[markD w.heap.size],w1,{ target:=.fn (.func kf) caps,args:=#[.func (.yield (w.heap.size+1)) #[] #[]] },w1,kf,#[Value.func (.yield (w.heap.size+1)) #[] #[]]++caps,w1,henter,?_,fun _ _=>trivial,?_,fun h=>(by cases h),callsIn_wide.2 (hcall.mono fun e w3 ⟨v,pre,st,F',Y',he,hst,hinv,g1,g2,g3,g4,g5,g6,g7'⟩=>?_)⟩
  · have e:a.eval (.const (.func (.yield (w.heap.size+1)) #[] #[]))=.func (.yield (w.heap.size+1)) #[] #[]:=rfl
    simp [resolve,hu,hkf,Deferred.ofValue,e]
  · have:=hent (#[Value.func (.yield (w.heap.size+1)) #[] #[]]++caps) w1
    simpa [invoke] using this
  have g7:Calm w1 w3:=⟨g7'.1,g7'.2.1,g7'.2.2⟩
  subst he
  obtain ⟨e,σ,κ',hr3,h1,h2,h3,h4,h5,h6,h7,_,h8,h9⟩:=hinv
  refine ⟨jumpOf e,_,run_endLoop h1 (by cases st<;>simp [lrec]),?_⟩
  have hl3:w.heap.size+1<w3.heap.size:=(Array.getElem?_eq_some_iff.1 h1).1
  generalize hob:Obj.loop _=ob
  have hret:M.Ret (k e (sh.st σ)) O:=by
    cases st with
    | true=>exact (h9 rfl).2
    | false=>
      obtain ⟨rfl,hm'⟩:=h8 rfl
      exact (hm' [] (show S (pre++[]) by rw [List.append_nil];exact hst rfl)).2 _ rfl
  have hK0:∀ r,C.K0 r→r<w.heap.size:=fun r h=>Nat.lt_of_lt_of_le (hr.ksz r h) hr.size
  have hkeep:∀ r,C.K0 r→(w3.putObj (w.heap.size+1) ob).heap[r]?=C.w0.heap[r]?:=fun r h=>by
    have hlt:=hK0 r h
    rw [World.putObj_heap_other (by omega),g4 r (by omega) fun hy=>?_,hlow r hlt]
    · exact hr.keep r h
    · rcases hy with ⟨b,hb,rfl⟩ | rfl | rfl
      · exact (hr2.own b hb).2.2 h
      · omega
      · omega
  have hcalm:Calm C.w0 (w3.putObj (w.heap.size+1) ob):=by
    have:=(hr.calm.trans hcw).trans g7
    exact ⟨this.os,this.tape,this.output⟩
  have hup:C.UpOk ⟨w3.putObj (w.heap.size+1) ob,fun r=>C.K0 r∨r=w.heap.size,[w.heap.size]⟩:=
    { mks := fun B hB => by
        have:B=w.heap.size:=by simpa using hB
        subst this
        exact ⟨.inr rfl,(World.putObj_heap_other (by omega)).trans h2⟩
      new:=fun B hB=>by
        have:B=w.heap.size:=by simpa using hB
        subst this
        exact ⟨fun h=>by have:=hK0 _ h;omega,hr.size⟩
      nd:=by simp
      k0:=fun _ h=>.inl h
      keep:=hkeep
      size:=by have:=hr.size;simp;omega
      calm:=hcalm }
  have hfin:Rel (C.up ⟨w3.putObj (w.heap.size+1) ob,fun r=>C.K0 r∨r=w.heap.size,[w.heap.size]⟩) (sh.st σ) { a with defers:=[markD w.heap.size]++a.defers } (w3.putObj (w.heap.size+1) ob):=by
    have hF'lo:∀ r,F' r→C.F0 r∨¬(C.K0 r∨r=w.heap.size):=fun r hr'=>by
      rcases g2 r hr' with h | h | h
      · rcases hr2.flo r h with h' | h'
        · exact .inl h'
        · exact .inr fun hk=>hk.elim h' fun e=>by have:=hr2.fsz r h;omega
      · rcases h with ⟨b,hb,rfl⟩ | rfl | rfl
        · exact .inr fun hk=>hk.elim (hr2.own b hb).2.2 fun e=>hsl b hb (.inr e)
        · exact (h6 hr').elim
        · exact (h7 hr').elim
      · exact .inr fun hk=>hk.elim (fun h'=>by have:=hK0 r h';omega) fun e=>by omega
    refine ⟨κ',F',hr3.rebase (r:=C.r) hr3.tsz (by show [markD w.heap.size]++a.defers=_;rw [hr.dfr];rfl) hr3.nsz hr3.slots (fun l' A' L' n' st' e=>by have e:(sh.st σ).slot TRS=.tr l' A' L' n' st':=e;rw [hno] at e;cases e)
      (fun r h=>World.putObj_heap_other fun e=>by
        subst e
        rcases h with h | ⟨b,hb,h⟩
        · exact h6 h
        · exact (h3 b hb).2 (.inl h)) (by simp) hF'lo (fun r h=>g1 r (hr2.fhi r h)) (fun r h=>?_) (fun _ _=>rfl) (fun b hb h=>?_) (Nat.le_refl _) (Calm.refl _)⟩
    · simp only [World.putObj_size]
      rcases h with h | h
      · have:=hK0 r h;omega
      · omega
    · rcases h with h | h
      · rcases (g5 _ (h3 b hb).1).1 with hy | hy
        · rcases hy with ⟨b',hb',e⟩ | e | e
          · exact (hr2.own b' hb').2.2 (e ▸ h)
          · exact (h3 b hb).2 (.inl e)
          · exact (h3 b hb).2 (.inr e)
        · have:=hK0 _ h;omega
      · exact (h3 b hb).2 (.inr h)
  have hq:=hk _ hup e _ _ _ hfin hret
  cases e with
  | normal=>exact hq
  | exit id=>exact wpIn_exit hq
  | ret=>exact wpIn_ret hq
end Go.Fer
namespace Go.Fer
open Go.RowKit
open M (Step)
section
variable {F:Fence} {n:Nat} {P:Program} {Q:Exit→Act→World→Prop} {a:Act} {w:World}
theorem wpIn_loop_safe {c:Code} {σT β:Type} {body:σT→M (Step σT β)} {O:β→Prop} (I:σT→Act→World→Prop)
  (round:∀ σ a w,I σ a w→(body σ).safe→(∀ r,(body σ).out (.done r)→O r)→c.wpIn F n P (Exit.then (fun a' w'=>∃ σ',(body σ).out (.next σ')∧I σ' a' w') Q) a w)
  {σ:σT} (hs:M.LoopSafe body σ) (ho:∀ r,M.LoopOut body σ r→O r) (hI:I σ a w):(Code.loop c).wpIn F n P Q a w:=by
 intro b k cs hro hb hr
 have key:∀ σ,M.LoopSafe body σ→(∀ r,M.LoopOut body σ r→O r)→∀ a w,I σ a w→
   ∃ e a' w',Q e a' w'∧ArrivesIn (Machine.fenced P F) P (lone (b.atR a (.code c::.inLoop c::k)) cs w) b k cs e a' w':=by
  intro σ hs
  induction hs with
  | mk σ h _ ih=>
   intro ho a w hI
   obtain ⟨e,a₁,w₁,hq,harr⟩:=round σ a w hI h (fun r hr=>ho r (.done _ _ hr)) b (.inLoop c::k) cs hro hb hr
   cases e with
   | normal=>
    obtain ⟨σ',hout,hI₁⟩:=hq
    obtain ⟨e₂,a₂,w₂,hq₂,harr₂⟩:=ih σ' hout (fun r hr=>ho r (.next _ _ _ hout hr)) a₁ w₁ hI₁
    exact ⟨e₂,a₂,w₂,hq₂,.of_steps (StepsIn.trans harr (.one (fenced_calm hb hr rfl) stepR_inLoop)) harr₂⟩
   | exit id=>exact ⟨_,a₁,w₁,hq,.pass (x:=.inLoop c) rfl (fun _ _=>.inl (by simp)) harr⟩
   | goto l=>exact ⟨_,a₁,w₁,hq,.pass (x:=.inLoop c) rfl (fun _ _=>.inl (by simp)) harr⟩
   | ret=>exact ⟨_,a₁,w₁,hq,.pass (x:=.inLoop c) rfl (fun _ _=>.inl (by simp)) harr⟩
   | panic ch=>exact ⟨_,a₁,w₁,hq,.pass (x:=.inLoop c) rfl (fun _ _=>.inl (by simp)) harr⟩
   | outgrown=>exact ⟨_,a₁,w₁,hq,.pass (x:=.inLoop c) rfl (fun _ _=>.inl (by simp)) harr⟩
 obtain ⟨e,a',w',hq,harr⟩:=key σ hs ho a w hI
 exact ⟨e,a',w',hq,.of_steps (.one (fenced_calm hb hr rfl) stepR_loop) harr⟩
theorem and_second {p q:Prop} (hq:q) (h:q→p):p∧q:=⟨h hq,hq⟩
def loopAt (F:Fence) (n:Nat) (P:Program) (c:Code) (Q:Exit→Act→World→Prop) (a:Act) (w:World):Prop:=
 ∀ (b:Frame) (k:List Item) (cs:List Frame),b.roundOf=F.round→F.fn b.fn→F.room (cs.length+1+n)→
  ∃ e a' w',Q e a' w'∧ArrivesIn (Machine.fenced P F) P (lone (b.atR a (.code c::.inLoop c::k)) cs w) b k cs e a' w'
theorem wpIn_loop_at {c:Code} (h:loopAt F n P c Q a w):(Code.loop c).wpIn F n P Q a w:=fun b k cs hro hb hr=>by
 obtain ⟨e,a',w',hq,harr⟩:=h b k cs hro hb hr
 exact ⟨e,a',w',hq,.of_steps (.one (fenced_calm hb hr rfl) stepR_loop) harr⟩
theorem loopAt_peel {c:Code} (h:c.wpIn F n P (Exit.then (fun a' w'=>loopAt F n P c Q a' w') Q) a w):loopAt F n P c Q a w:=fun b k cs hro hb hr=>by
 obtain ⟨e,a₁,w₁,hq,harr⟩:=h b (.inLoop c::k) cs hro hb hr
 cases e with
 | normal=>
  obtain ⟨e₂,a₂,w₂,hq₂,harr₂⟩:=hq b k cs hro hb hr
  exact ⟨e₂,a₂,w₂,hq₂,.of_steps (StepsIn.trans harr (.one (fenced_calm hb hr rfl) stepR_inLoop)) harr₂⟩
 | exit id=>exact ⟨_,a₁,w₁,hq,.pass (x:=.inLoop c) rfl (fun _ _=>.inl (by simp)) harr⟩
 | goto l=>exact ⟨_,a₁,w₁,hq,.pass (x:=.inLoop c) rfl (fun _ _=>.inl (by simp)) harr⟩
 | ret=>exact ⟨_,a₁,w₁,hq,.pass (x:=.inLoop c) rfl (fun _ _=>.inl (by simp)) harr⟩
 | panic ch=>exact ⟨_,a₁,w₁,hq,.pass (x:=.inLoop c) rfl (fun _ _=>.inl (by simp)) harr⟩
 | outgrown=>exact ⟨_,a₁,w₁,hq,.pass (x:=.inLoop c) rfl (fun _ _=>.inl (by simp)) harr⟩
theorem stepR_scope {b:Frame} {k:List Item} {cs:List Frame} {c:Code}:step P (lone (b.atR a (.code (.scope c)::k)) cs w)=.next (lone (b.atR a (.code c::.inScope c::k)) cs w):=
 step_lone_go (by simp [stepG,stepG.exec,Frame.atR])
theorem stepR_inScope {b:Frame} {k:List Item} {cs:List Frame} {c:Code}:step P (lone (b.atR a (.inScope c::k)) cs w)=.next (lone (b.atR a k) cs w):=
 step_lone_go (by simp [stepG,stepG.exec,Frame.atR])
theorem wpIn_scope {c:Code} (h:c.wpIn F n P (Exit.noGoto Q) a w):(Code.scope c).wpIn F n P Q a w:=by
 intro b k cs hro hb hr
 have h0:(lone (b.atR a (.code (.scope c)::k)) cs w).fenced P F:=fenced_calm hb hr rfl
 obtain ⟨e,a₁,w₁,hq,harr⟩:=h b (.inScope c::k) cs hro hb hr
 cases e with
 | normal=>exact ⟨.normal,a₁,w₁,hq,.head h0 stepR_scope (StepsIn.trans harr (.one (fenced_calm hb hr rfl) stepR_inScope))⟩
 | exit id=>
  have hx:exitTo id (.inScope c::k)=exitTo id k:=by simp [exitTo]
  exact ⟨.exit id,a₁,w₁,hq,fun k' hk=>.head h0 stepR_scope (harr.1 k' (by rw [hx];exact hk)),fun hr' hk=>let ⟨k₁,h1,h2⟩:=harr.2 hr' (by rw [hx];exact hk);⟨k₁,h1,.head h0 stepR_scope h2⟩⟩
 | goto l=>exact hq.elim
 | ret=>exact ⟨.ret,a₁,w₁,hq,.of_steps (.one h0 stepR_scope) harr⟩
 | panic ch=>exact ⟨.panic ch,a₁,w₁,hq,.of_steps (.one h0 stepR_scope) harr⟩
 | outgrown=>exact ⟨.outgrown,a₁,w₁,hq,.of_steps (.one h0 stepR_scope) harr⟩
end
section
variable {T:Nat→Ty} {Φ:Nat→Option FC} {Ψ:Nat→Option KC}
def StepOut {σ β:Type} (m:M (Step σ β)) (O:β→Prop) (st:Step σ β):Prop:=
 match st with
 | .next s=>m.out (.next s)
 | .done r=>O r
theorem codeI_both:∀ (ann:Ann),(∀ (C:Ctx) (_:C.P.follows .mixedOrders=true) (_:TabOk C.P T) (_:CtrOk C.P Φ) (_:PsiOk C.P C.ft Ψ) (_:C.r=none∨ann.flat=true) {β:Type} (c:Code) (s:AState) (k:Ex→AState→M β) (O:β→Prop) (Q:Exit→Act→World→Prop) (a:Act) (w:World),
  codeOk C.nt c=true→Rel C s a w→M.Ret (codeI C.ft T Φ Ψ ann c s k) O→(∀ u,C.UpOk u→∀ e s' a' w',Rel (C.up u) s' a' w'→M.Ret (k e s') O→Q e.the a' w')→c.wpIn (rnd C.r) 0 C.P Q a w)∧(ann.isUnr=true→∀ (C:Ctx) (_:C.P.follows .mixedOrders=true) (_:TabOk C.P T) (_:CtrOk C.P Φ) (_:PsiOk C.P C.ft Ψ) (_:C.r=none∨ann.flat=true) {β:Type} (c:Code) (s:AState) (k:Ex→AState→M β) (O:β→Prop) (Q:Exit→Act→World→Prop) (a:Act) (w:World),
  codeOk C.nt c=true→Rel C s a w→M.Ret (codeI C.ft T Φ Ψ ann (.loop c) s k) O→(∀ u,C.UpOk u→∀ e s' a' w',Rel (C.up u) s' a' w'→M.Ret (k e s') O→Q e.the a' w')→loopAt (rnd C.r) 0 C.P c Q a w):=by
 intro ann
 induction ann with
 | leaf=>
  refine ⟨?_,fun _ C hmix hT hΦ hΨ hfl β c s k O Q a w hc hr hm hk=>by unfold codeI at hm;exact (ret_fail hm).elim⟩
  intro C hmix hT hΦ hΨ hfl β c s k O Q a w hc hr hm hk
  unfold codeI at hm
  split at hm
  ·rename_i id ops draw
   cases draw with
   | true=>exact draw_ok hmix hT (dPhi_ok hΦ hΨ) hΨ (fun o ho=>List.all_eq_true.1 hc o ho) (fun s' a' w' hr' hm'=>hk C.same C.upSame .normal s' a' w' hr' hm') hr hm
   | false=>
    refine wpIn_region ?_
    have:=regI_ok (Q:=Q) (ops:=ops) hT hΦ hΨ (fun o ho=>List.all_eq_true.1 hc o ho) (k:=k .normal) (O:=O) (fun s' a' w' hr' hm'=>hk C.same C.upSame .normal s' a' w' hr' hm') ops.toList 0 [] s a w (by simp) (fun p hp=>by cases hp) hr hm
    rw [List.range_eq_range']
    simpa using this
  ·exact wpIn_skip (hk C.same C.upSame .normal s a w hr hm)
  ·exact wpIn_label (hk C.same C.upSame .normal s a w hr hm)
  ·exact wpIn_exit (hk C.same C.upSame (.exit _) s a w hr hm)
  ·exact wpIn_ret (hk C.same C.upSame .ret s a w hr hm)
  ·exact (ret_fail hm).elim
 | seq x y ihx ihy=>
  have ihx:=ihx.1
  have ihy:=ihy.1
  refine ⟨?_,fun h=>by simp [Ann.isUnr] at h⟩
  intro C hmix hT hΦ hΨ hfl β c s k O Q a w hc hr hm hk
  have hfx:C.r=none∨x.flat=true:=hfl.imp id fun h=>by simp only [Ann.flat,Bool.and_eq_true] at h;exact h.1
  have hfy:C.r=none∨y.flat=true:=hfl.imp id fun h=>by simp only [Ann.flat,Bool.and_eq_true] at h;exact h.2
  unfold codeI at hm
  split at hm
  ·rename_i cx cy
   simp only [codeOk,Bool.and_eq_true] at hc
   refine wpIn_seq (ihx C hmix hT hΦ hΨ hfx cx s _ O _ a w hc.1 hr hm fun u hu e s' a' w' hr' hm'=>?_)
   cases e with
   | normal=>exact ihy (C.up u) hmix hT hΦ hΨ hfy cy s' k O Q a' w' hc.2 hr' hm' fun v hv=>by rw [Ctx.up_then];exact hk _ (hu.then hv)
   | exit id=>exact hk u hu (.exit id) s' a' w' hr' hm'
   | ret=>exact hk u hu .ret s' a' w' hr' hm'
  ·exact (ret_fail hm).elim
 | join sh x y ihx ihy=>
  have ihx:=ihx.1
  have ihy:=ihy.1
  refine ⟨?_,fun h=>by simp [Ann.isUnr] at h⟩
  intro C hmix hT hΦ hΨ hfl β c s k O Q a w hc hr hm hk
  have hfx:C.r=none∨x.flat=true:=hfl.imp id fun h=>by simp only [Ann.flat,Bool.and_eq_true] at h;exact h.1
  have hfy:C.r=none∨y.flat=true:=hfl.imp id fun h=>by simp only [Ann.flat,Bool.and_eq_true] at h;exact h.2
  unfold codeI at hm
  split at hm
  ·rename_i cx cy
   simp only [codeOk,Bool.and_eq_true] at hc
   rw [M.ret_bind] at hm
   refine wpIn_seq (ihx C hmix hT hΦ hΨ hfx cx s _ _ _ a w hc.1 hr hm fun u hu e s' a' w' hr' hm'=>?_)
   cases e with
   | normal=>
    obtain ⟨σ,hσ,h2⟩:=rdM_ret hm'
    have h3:=M.ret_pure.1 h2
    exact ihy (C.up u) hmix hT hΦ hΨ hfy cy _ k O Q a' w' hc.2 (Shape.rd_ok hσ hr') h3 fun v hv=>by rw [Ctx.up_then];exact hk _ (hu.then hv)
   | exit id=>
    simp only [doneK,M.ret_bind,M.ret_pure,Step.go] at hm'
    exact hk u hu (.exit id) s' a' w' hr' hm'
   | ret=>
    simp only [doneK,M.ret_bind,M.ret_pure,Step.go] at hm'
    exact hk u hu .ret s' a' w' hr' hm'
  ·exact (ret_fail hm).elim
 | cond x y ihx ihy=>
  have ihx:=ihx.1
  have ihy:=ihy.1
  refine ⟨?_,fun h=>by simp [Ann.isUnr] at h⟩
  intro C hmix hT hΦ hΨ hfl β c s k O Q a w hc hr hm hk
  have hfx:C.r=none∨x.flat=true:=hfl.imp id fun h=>by simp only [Ann.flat,Bool.and_eq_true] at h;exact h.1
  have hfy:C.r=none∨y.flat=true:=hfl.imp id fun h=>by simp only [Ann.flat,Bool.and_eq_true] at h;exact h.2
  unfold codeI at hm
  split at hm
  ·rename_i co cx cy
   simp only [codeOk,Bool.and_eq_true] at hc
   unfold condM at hm
   split at hm
   ·rename_i t hu
    obtain ⟨κ,F,hrk⟩:=hr
    have hv:=opAV_ok hrk co
    rw [hu] at hv
    refine wpIn_cond_split (RV_bool.1 hv) (fun ht=>?_) (fun ht=>?_)
    ·subst ht
     exact ihx C hmix hT hΦ hΨ hfx cx s k O Q a w hc.1 ⟨κ,F,hrk⟩ hm hk
    ·subst ht
     exact ihy C hmix hT hΦ hΨ hfy cy s k O Q a w hc.2 ⟨κ,F,hrk⟩ hm hk
   ·rename_i g t hu
    rw [M.ret_req] at hm
    obtain ⟨hob,hm⟩:=hm
    obtain ⟨κ,F,hrk⟩:=hr
    have hv:=opAV_ok hrk co
    rw [hu] at hv
    refine wpIn_cond_split (RV_bool.1 (hv.1 hob)) (fun ht=>?_) (fun ht=>?_)
    ·subst ht
     exact ihx C hmix hT hΦ hΨ hfx cx s k O Q a w hc.1 ⟨κ,F,hrk⟩ hm hk
    ·subst ht
     exact ihy C hmix hT hΦ hΨ hfy cy s k O Q a w hc.2 ⟨κ,F,hrk⟩ hm hk
   ·exact (ret_fail hm).elim
  ·exact (ret_fail hm).elim
 | block x ihx=>
  have ihx:=ihx.1
  refine ⟨?_,fun h=>by simp [Ann.isUnr] at h⟩
  intro C hmix hT hΦ hΨ hfl β c s k O Q a w hc hr hm hk
  have hfx:C.r=none∨x.flat=true:=hfl
  unfold codeI at hm
  split at hm
  ·rename_i id cx
   refine wpIn_block (ihx C hmix hT hΦ hΨ hfx cx s _ O _ a w hc hr hm fun u hu e s' a' w' hr' hm'=>?_)
   cases e with
   | normal=>exact hk u hu .normal s' a' w' hr' hm'
   | exit id'=>
    simp only [blockK] at hm'
    simp only [Ex.the,Exit.inBlock]
    split at hm'
    ·rename_i e
     rw [if_pos e]
     exact hk u hu .normal s' a' w' hr' hm'
    ·rename_i e
     rw [if_neg e]
     exact hk u hu (.exit id') s' a' w' hr' hm'
   | ret=>exact hk u hu .ret s' a' w' hr' hm'
  ·exact (ret_fail hm).elim
 | loop sh x ihx=>
  have ihx:=ihx.1
  refine ⟨?_,fun h=>by simp [Ann.isUnr] at h⟩
  intro C hmix hT hΦ hΨ hfl β c s k O Q a w hc hr hm hk
  have hfx:C.r=none∨x.flat=true:=hfl
  unfold codeI at hm
  split at hm
  ·rename_i cx
   obtain ⟨σ,hσ,h2⟩:=rdM_ret hm
   refine wpIn_loop_safe (I:=fun σ a w=>∃ u,C.UpOk u∧Rel (C.up u) (sh.st σ) a w) (O:=O) (fun σ a w ⟨v,hv,hI⟩ hsafe hdone=>?_) h2.1 h2.2 ⟨C.same,C.upSame,Shape.rd_ok hσ hr⟩
   refine ihx (C.up v) hmix hT hΦ hΨ hfx cx (sh.st σ) _ (StepOut (codeI C.ft T Φ Ψ x cx (sh.st σ) (doneK k fun s'=>sh.rdM s' fun σ'=>M.pure (Step.next σ'))) O) _ a w hc hI ⟨hsafe,fun st hst=>?_⟩ fun u hu e s' a' w' hr' hm'=>?_
   ·cases st with
    | next σ'=>exact hst
    | done r=>exact hdone r hst
   ·cases e with
    | normal=>
     obtain ⟨σ',hσ',h3⟩:=rdM_ret hm'
     have h4:=M.ret_pure.1 h3
     exact ⟨σ',h4,_,hv.then hu,by rw [←Ctx.up_then];exact Shape.rd_ok hσ' hr'⟩
    | exit id=>
     simp only [doneK,M.ret_bind,M.ret_pure,StepOut] at hm'
     exact hk _ (hv.then hu) (.exit id) s' a' w' (by rw [←Ctx.up_then];exact hr') hm'
    | ret=>
     simp only [doneK,M.ret_bind,M.ret_pure,StepOut] at hm'
     exact hk _ (hv.then hu) .ret s' a' w' (by rw [←Ctx.up_then];exact hr') hm'
  ·exact (ret_fail hm).elim
 | scope x ihx=>
  have ihx:=ihx.1
  refine ⟨?_,fun h=>by simp [Ann.isUnr] at h⟩
  intro C hmix hT hΦ hΨ hfl β c s k O Q a w hc hr hm hk
  have hfx:C.r=none∨x.flat=true:=hfl
  unfold codeI at hm
  split at hm
  ·rename_i cx
   refine wpIn_scope (ihx C hmix hT hΦ hΨ hfx cx s _ O _ a w hc hr hm fun u hu e s' a' w' hr' hm'=>?_)
   have:=hk u hu e s' a' w' hr' hm'
   cases e<;>exact this
  ·exact (ret_fail hm).elim
 | range sh rin rout x y ihx ihy=>
  have ihx:=ihx.1
  have ihy:=ihy.1
  refine ⟨?_,fun h=>by simp [Ann.isUnr] at h⟩
  intro C hmix hT hΦ hΨ hfl β c s k O Q a w hc hr hm hk
  unfold codeI at hm
  split at hm
  ·rename_i g ps assign body
   simp only [codeOk,Bool.and_eq_true,List.all_eq_true,decide_eq_true_eq] at hc
   obtain ⟨hps,hca,hcb⟩:=hc
   split at hm
   ·rename_i kf n fs hg
    split at hm
    ·rename_i ic hic
     split at hm
     ·rename_i x0 fl hx
      split at hm
      ·rename_i hck
       simp only [Bool.and_eq_true] at hck
       obtain ⟨hck,hfx,hfy⟩:=hck
       obtain ⟨σ,hσ,h2⟩:=rdM_ret hm
       rw [M.ret_req,M.ret_bind] at h2
       simp only [exK_eq] at h2
       have hr0:C.r=none:=hfl.resolve_right fun h=>by cases h
       have hck':rangeOk sh rout ic.A ps.toList C.nt=true:=by
        simp only [rangeOk,Bool.and_eq_true,List.all_eq_true,decide_eq_true_eq] at hck ⊢
        exact ⟨hck.1,hps⟩
       refine range_ok hr0 hr hg (hΨ kf _ hic) hx hck' hσ h2.1 h2.2 (fun l=>?_) hk
       intro C1 hP hft hnt hrl s1 a1 w1 O1 hrel hm1
       have h:=ihx C1 (hP ▸ hmix) (hP ▸ hT) (hP ▸ hΦ) (by rw [hP,hft];exact hΨ) (.inr hfx) assign s1 (onlyNormal fun s2=>codeI C.ft T Φ Ψ y body s2 fun e s3=>rout.rdM s3 fun τ=>M.pure (e,τ)) O1
        (Exit.then (fun a2 w2=>∃ u s2,C1.UpOk u∧Rel (C1.up u) s2 a2 w2∧
         ∀ (C2:Ctx),C2.P=C.P→C2.ft=C.ft→C2.nt=C.nt→C2.r=some l→∀ (w2:World),Rel C2 s2 a2 w2→
          body.wpIn (rnd (some l)) 0 C.P (fun e a3 w3=>∃ (e':Ex) (v:UpD) (s3:AState) (τ:rout.Den),e=e'.the∧C2.UpOk v∧Rel (C2.up v) s3 a3 w3∧rout.rd s3=some τ∧O1 (e',τ)) a2 w2) (fun _ _ _=>False)) a1 w1 (hnt ▸ hca) hrel (hft ▸ hm1)
        fun u hu e s2 a2 w2 hr2 hm2=>?_
       ·rw [hP,hrl] at h
        exact h
       ·cases e with
        | normal=>
         refine ⟨u,s2,hu,hr2,fun C2 hP2 hft2 hnt2 hrl2 w2 hr3=>?_⟩
         have h:=ihy C2 (hP2 ▸ hmix) (hP2 ▸ hT) (hP2 ▸ hΦ) (by rw [hP2,hft2];exact hΨ) (.inr hfy) body s2 (fun e s3=>rout.rdM s3 fun τ=>M.pure (e,τ)) O1
          (fun e a3 w3=>∃ (e':Ex) (v:UpD) (s3:AState) (τ:rout.Den),e=e'.the∧C2.UpOk v∧Rel (C2.up v) s3 a3 w3∧rout.rd s3=some τ∧O1 (e',τ)) a2 w2 (hnt2 ▸ hcb) hr3 (hft2 ▸ hm2) fun v hv e s3 a3 w3 hr4 hm3=>by
           obtain ⟨τ,hτ,h5⟩:=rdM_ret hm3
           exact ⟨e,v,s3,τ,rfl,hv,hr4,hτ,M.ret_pure.1 h5⟩
         rw [hP2,hrl2] at h
         exact h
        | exit id=>exact (ret_fail hm2).elim
        | ret=>exact (ret_fail hm2).elim
      ·exact (ret_fail hm).elim
     ·exact (ret_fail hm).elim
    ·exact (ret_fail hm).elim
   ·rename_i A S hg
    split at hm
    ·rename_i hck
     simp only [Bool.and_eq_true] at hck
     obtain ⟨hck,hfx,hfy⟩:=hck
     obtain ⟨σ,hσ,h2⟩:=rdM_ret hm
     rw [M.ret_bind] at h2
     have hr0:C.r=none:=hfl.resolve_right fun h=>by cases h
     have hck':rangeOk sh rout A ps.toList C.nt=true:=by
      simp only [rangeOk,Bool.and_eq_true,List.all_eq_true,decide_eq_true_eq] at hck ⊢
      exact ⟨hck.1,hps⟩
     refine range_it_ok hr0 hr hg hck' hσ h2.1 (fun L hL=>by have h3:=M.ret_bind.1 (h2.2 L hL);simp only [exK_eq] at h3;exact h3) (fun l=>?_) hk
     intro C1 hP hft hnt hrl s1 a1 w1 O1 hrel hm1
     have h:=ihx C1 (hP ▸ hmix) (hP ▸ hT) (hP ▸ hΦ) (by rw [hP,hft];exact hΨ) (.inr hfx) assign s1 (onlyNormal fun s2=>codeI C.ft T Φ Ψ y body s2 fun e s3=>rout.rdM s3 fun τ=>M.pure (e,τ)) O1
      (Exit.then (fun a2 w2=>∃ u s2,C1.UpOk u∧Rel (C1.up u) s2 a2 w2∧
       ∀ (C2:Ctx),C2.P=C.P→C2.ft=C.ft→C2.nt=C.nt→C2.r=some l→∀ (w2:World),Rel C2 s2 a2 w2→
        body.wpIn (rnd (some l)) 0 C.P (fun e a3 w3=>∃ (e':Ex) (v:UpD) (s3:AState) (τ:rout.Den),e=e'.the∧C2.UpOk v∧Rel (C2.up v) s3 a3 w3∧rout.rd s3=some τ∧O1 (e',τ)) a2 w2) (fun _ _ _=>False)) a1 w1 (hnt ▸ hca) hrel (hft ▸ hm1)
      fun u hu e s2 a2 w2 hr2 hm2=>?_
     ·rw [hP,hrl] at h
      exact h
     ·cases e with
      | normal=>
       refine ⟨u,s2,hu,hr2,fun C2 hP2 hft2 hnt2 hrl2 w2 hr3=>?_⟩
       have h:=ihy C2 (hP2 ▸ hmix) (hP2 ▸ hT) (hP2 ▸ hΦ) (by rw [hP2,hft2];exact hΨ) (.inr hfy) body s2 (fun e s3=>rout.rdM s3 fun τ=>M.pure (e,τ)) O1
        (fun e a3 w3=>∃ (e':Ex) (v:UpD) (s3:AState) (τ:rout.Den),e=e'.the∧C2.UpOk v∧Rel (C2.up v) s3 a3 w3∧rout.rd s3=some τ∧O1 (e',τ)) a2 w2 (hnt2 ▸ hcb) hr3 (hft2 ▸ hm2) fun v hv e s3 a3 w3 hr4 hm3=>by
         obtain ⟨τ,hτ,h5⟩:=rdM_ret hm3
         exact ⟨e,v,s3,τ,rfl,hv,hr4,hτ,M.ret_pure.1 h5⟩
       rw [hP2,hrl2] at h
       exact h
      | exit id=>exact (ret_fail hm2).elim
      | ret=>exact (ret_fail hm2).elim
    ·exact (ret_fail hm).elim
   ·exact (ret_fail hm).elim
  ·exact (ret_fail hm).elim
 | unr x y ihx ihy=>
  refine and_second (fun _ C hmix hT hΦ hΨ hfl β c s k O Q a w hc hr hm hk=>?_) fun key C hmix hT hΦ hΨ hfl β c s k O Q a w hc hr hm hk=>?_
  ·have hfx:C.r=none∨x.flat=true:=hfl.imp id fun h=>by simp only [Ann.flat,Bool.and_eq_true] at h;exact h.1
   have hfy:C.r=none∨y.flat=true:=hfl.imp id fun h=>by simp only [Ann.flat,Bool.and_eq_true] at h;exact h.2
   unfold codeI at hm
   simp only at hm
   split at hm
   ·rename_i hu
    refine loopAt_peel (ihx.1 C hmix hT hΦ hΨ hfx c s _ O _ a w hc hr hm fun u hu' e s' a' w' hr' hm'=>?_)
    cases e with
    | normal=>exact ihy.2 hu (C.up u) hmix hT hΦ hΨ hfy c s' k O Q a' w' hc hr' hm' fun v hv=>by rw [Ctx.up_then];exact hk _ (hu'.then hv)
    | exit id=>exact hk u hu' (.exit id) s' a' w' hr' hm'
    | ret=>exact hk u hu' .ret s' a' w' hr' hm'
   ·exact (ret_fail hm).elim
  ·cases c with
   | loop cx=>exact wpIn_loop_at (key rfl C hmix hT hΦ hΨ hfl cx s k O Q a w hc hr hm hk)
   | _=>unfold codeI at hm;exact (ret_fail hm).elim
 | num i n x ih=>
  have ih:=ih.1
  refine ⟨?_,fun h=>by simp [Ann.isUnr] at h⟩
  intro C hmix hT hΦ hΨ hfl β c s k O Q a w hc hr hm hk
  unfold codeI at hm
  split at hm
  ·rename_i v f hv
   rw [M.ret_req] at hm
   have h:=hm.2
   rw [numV_self hv hm.1] at h
   exact ih C hmix hT hΦ hΨ hfl c s k O Q a w hc hr h hk
  ·exact (ret_fail hm).elim
 | split i off n x ih=>
  have ih:=ih.1
  refine ⟨?_,fun h=>by simp [Ann.isUnr] at h⟩
  intro C hmix hT hΦ hΨ hfl β c s k O Q a w hc hr hm hk
  unfold codeI at hm
  split at hm
  ·rename_i v f hv
   rw [M.ret_req] at hm
   have h:=selM_ret hm.2 hm.1.1 hm.1.2
   rw [splitV_self hv hm.1.1] at h
   exact ih C hmix hT hΦ hΨ hfl c s k O Q a w hc hr h hk
  ·exact (ret_fail hm).elim
theorem codeI_ok (ann:Ann):∀ (C:Ctx) (_:C.P.follows .mixedOrders=true) (_:TabOk C.P T) (_:CtrOk C.P Φ) (_:PsiOk C.P C.ft Ψ) (_:C.r=none∨ann.flat=true) {β:Type} (c:Code) (s:AState) (k:Ex→AState→M β) (O:β→Prop) (Q:Exit→Act→World→Prop) (a:Act) (w:World),
  codeOk C.nt c=true→Rel C s a w→M.Ret (codeI C.ft T Φ Ψ ann c s k) O→(∀ u,C.UpOk u→∀ e s' a' w',Rel (C.up u) s' a' w'→M.Ret (k e s') O→Q e.the a' w')→c.wpIn (rnd C.r) 0 C.P Q a w:=(codeI_both ann).1
end
end Go.Fer
namespace Go.Fer
open Go.RowKit
def resAVs (T:Nat→Ty) (s:AState):List ResultVar→Option (List AV)
 | []=>some []
 | r::l=>match resAVs T s l with
  | none=>none
  | some vs=>match r with
   | .tmp t=>some (s.slot t::vs)
   | .cell a ty=>match (loadV (T ty) (s.slot a)).run s.blk with
    | some v=>some (v::vs)
    | none=>none
def cntOk (t:Ty) (n:Nat):Bool:=
 match t with
 | .prod _ _=>n != 1
 | .unit=>n == 0
 | _=>n == 1
def retI (T:Nat→Ty) (rs:List ResultVar) (tr:Ty) (e:Ex) (s:AState):M tr.Den:=
 match e with
 | .exit _=>M.fail
 | _=>match resAVs T s rs with
  | some avs=>match (asArgs tr avs).run s.blk with
   | some (y,_)=>M.pure y
   | none=>M.fail
  | none=>M.fail
def parL (t:Ty) (x:t.Den) (n:Nat):List (Nat×AV):=(List.range n).map fun i=>(i,resAV t x i)
def parN (t:Ty):Nat:=if t=.unit then 0 else resN t
def parSt (t:Ty) (x:t.Den):AState:=mkSt (parL t x (parN t)) []
def funI (U:FnTab) (T:Nat→Ty) (Φ:Nat→Option FC) (Ψ:Nat→Option KC) (fn:Func) (c:Code) (ann:Ann) (ts tr:Ty) (x:ts.Den):M tr.Den:=
 codeI U T Φ Ψ ann c (parSt ts x) (retI T fn.results.toList tr)
def ptrOf (av:AV):AV:=match av with | .val (.ptr e) p=>.pp e (p.getD e.dflt) | v=>v
def ptrPre (av:AV):Prop:=match av with | .val (.ptr _) p=>p.isSome=true | _=>True
def capsSt (n:Nat) (s:AState):AState:=⟨fun i=>if i<n∨TMAX<i then s.slot i else ptrOf (s.slot i),s.blk⟩
def capsPre (n:Nat) (s:AState):Prop:=∀ i,¬(i<n∨TMAX<i)→ptrPre (s.slot i)
def funC (U:FnTab) (T:Nat→Ty) (Φ:Nat→Option FC) (Ψ:Nat→Option KC) (fn:Func) (c:Code) (ann:Ann) (n:Nat) (ts tr:Ty) (x:ts.Den):M tr.Den:=
 M.req (capsPre n (parSt ts x)) (codeI U T Φ Ψ ann c (capsSt n (parSt ts x)) (retI T fn.results.toList tr))
def fnOk (fn:Func) (c:Code) (ts tr:Ty):Bool:=
 codeOk fn.ntmps c && cntOk tr fn.results.size && decide (parN ts ≤ fn.ntmps) && !(fn.name == "runtime.NumGoroutine") && decide (fn.ntmps ≤ TMAX)
def expG:List (Option Nat)→List AV→Option (List AV)
 | [],[]=>some []
 | none::g,v::vs=>match expG g vs with
  | some l=>some (v::l)
  | none=>none
 | some n::g,v::vs=>match v,expG g vs with
  | .agg m f,some l=>if m=n then some ((List.range n).map f++l) else none
  | _,_=>none
 | _,_=>none
def retIO (T:Nat→Ty) (rs:List ResultVar) (grp:List (Option Nat)) (out:Shape) (e:Ex) (s:AState):M out.Den:=
 match e with
 | .exit _=>M.fail
 | _=>match resAVs T s rs with
  | some avs=>match expG grp avs with
   | some l=>match decide (l.length≤TMAX) with
    | true=>out.rdM (argSt s l) fun τ=>M.pure τ
    | false=>M.fail
   | none=>M.fail
  | none=>M.fail
def funIO (U:FnTab) (T:Nat→Ty) (Φ:Nat→Option FC) (Ψ:Nat→Option KC) (fn:Func) (c:Code) (ann:Ann) (sin out:Shape) (grp:List (Option Nat)) (σ:sin.Den):M out.Den:=
 codeI U T Φ Ψ ann c (sin.st σ) (retIO T fn.results.toList grp out)
def fnOkIO (fn:Func) (c:Code) (nargs:Nat) (grp:List (Option Nat)):Bool:=
 codeOk fn.ntmps c && decide (fn.results.size = grp.length) && decide (nargs ≤ fn.ntmps) && !(fn.name == "runtime.NumGoroutine") && decide (fn.ntmps ≤ TMAX)
section
variable {C:Ctx} {T:Nat→Ty} {Φ:Nat→Option FC} {Ψ:Nat→Option KC}
def rdRes (tmps:Array Value) (r:ResultVar):Sem Value:=
 match r with
 | .tmp t=>pure (tmps.getD t undef)
 | .cell b t=>do loadVar t (←asAddr (tmps.getD b undef))
theorem results_eq (fn:Func) (tmps:Array Value):results fn tmps=(fn.results.mapM (rdRes tmps) >>= fun vs=>pure (if h:vs.size=1 then vs[0] else .tuple vs)):=by
 unfold results
 congr 2
theorem resAVs_ok (hT:TabOk C.P T) {s:AState} {a:Act} {w:World} {κ:Nat→KB} {F:Nat→Prop} (hr:RelK C s a w κ F):∀ (rs:List ResultVar) {avs:List AV},resAVs T s rs=some avs→
  ∃ vs:List Value,(rs.mapM (rdRes a.tmps)).run C.P w=.ok vs w∧vs.length=rs.length∧avs.length=rs.length∧
   ∀ i (h:i<avs.length) (h':i<vs.length),RA C.P s.blk κ F w avs[i] vs[i]:=by
 intro rs
 induction rs with
 | nil=>intro avs h;cases h;exact ⟨[],rfl,rfl,rfl,fun i hi=>by cases hi⟩
 | cons r rs ih=>
  intro avs h
  simp only [resAVs] at h
  split at h
  ·cases h
  ·rename_i l hl
   obtain ⟨vs,h1,h2,h3,h4⟩:=ih hl
   have one:∃ av v,avs=av::l∧(rdRes a.tmps r).run C.P w=.ok v w∧RA C.P s.blk κ F w av v:=by
    split at h
    ·rename_i t
     cases h
     exact ⟨_,_,rfl,rfl,hr.slots t⟩
    ·rename_i b ty
     split at h
     ·rename_i v hv
      cases h
      obtain ⟨u,k1,k2⟩:=loadV_ok hT hr hv (hr.slots b)
      refine ⟨v,u,rfl,?_,k2⟩
      unfold Instr.loadAt at k1
      unfold rdRes
      simp only
      generalize a.tmps.getD b Go.undef=z at k1 ⊢
      cases z with
      | pointer p=>
       cases p with
       | none=>simp [Instr.sureAddr] at k1
       | some p=>simpa [Instr.sureAddr,asAddr] using k1
      | _=>simp [Instr.sureAddr] at k1
     ·cases h
   obtain ⟨av,v,rfl,k1,k2⟩:=one
   refine ⟨v::vs,?_,by simp [h2],by simp [h3],fun i hi hi'=>?_⟩
   ·simp only [List.mapM_cons,Sem.run_bind,k1,Result.andThen_ok,h1,Sem.run_pure]
   ·cases i with
    | zero=>exact k2
    | succ i=>simpa using h4 i (by simpa using hi) (by simpa using hi')
theorem retI_ok (hT:TabOk C.P T) {fn:Func} {tr:Ty} (hcnt:cntOk tr fn.results.size=true) {e:Ex} {s:AState} {a:Act} {w:World} {O:tr.Den→Prop} (hr:Rel C s a w) (hm:M.Ret (retI T fn.results.toList tr e s) O) :
  (∀ id,e≠.exit id)∧∃ κ F v y,RelK C s a w κ F∧(results fn a.tmps).run C.P w=.ok v w∧O y∧∃ F',(∀ r,F' r→C.F0 r∨¬C.K0 r)∧(∀ r,F' r→r<w.heap.size)∧RRes C.P tr F' w v y:=by
 obtain ⟨κ,F,hr⟩:=hr
 unfold retI at hm
 split at hm
 ·exact (ret_fail hm).elim
 ·rename_i hne
  refine ⟨fun id he=>hne id he,?_⟩
  split at hm
  ·rename_i avs havs
   split at hm
   ·rename_i y l hy
    obtain ⟨vs,h1,h2,h3,h4⟩:=resAVs_ok hT hr _ havs
    obtain ⟨F',f1,hr',f2⟩:=RelK.frzL (asArgs_closed _ hy) hr
    have hargs:=asArgs_ok (F':=F') hr.blks f1 tr hy f2 (by omega) h4
    have hrun:(results fn a.tmps).run C.P w=.ok (if h:vs.toArray.size=1 then vs.toArray[0] else .tuple vs.toArray) w:=by
     rw [results_eq,Sem.run_bind]
     have:(fn.results.mapM (rdRes a.tmps)).run C.P w=.ok vs.toArray w:=by
      rw [Array.mapM_eq_mapM_toList,map_eq_pure_bind,Sem.run_bind,h1]
      rfl
     rw [this]
     rfl
    refine ⟨κ,F,_,y,hr,hrun,M.ret_pure.1 hm,F',hr'.flo,hr'.fsz,vs,?_,hargs⟩
    have hsz:vs.length=fn.results.size:=by simp [h2]
    rw [←hsz] at hcnt
    clear hrun hargs h1 h4 h2 hsz hy
    have one:vs.length=1→vs=[if h:vs.toArray.size=1 then vs.toArray[0] else .tuple vs.toArray]:=by
     intro h
     match vs,h with
     | [v],_=>rfl
    cases tr<;>simp only [cntOk,beq_iff_eq,bne_iff_ne,ne_eq] at hcnt<;>simp only [ResVal]
    case prod=>rw [dif_neg (by simpa using hcnt)]
    case unit=>
     have:vs=[]:=List.length_eq_zero_iff.1 hcnt
     subst this
     exact ⟨rfl,rfl⟩
    all_goals exact one hcnt
   ·exact (ret_fail hm).elim
  ·exact (ret_fail hm).elim
theorem look_of {l:List (Nat×AV)} {i:Nat}:look l i=.undef∨(i,look l i)∈l:=by
 induction l with
 | nil=>exact .inl rfl
 | cons p l ih=>
  simp only [look]
  split
  ·rename_i e
   subst e
   exact .inr (List.mem_cons_self)
  ·exact ih.imp id (List.mem_cons_of_mem _)
theorem callFunc_enter {P : Program} {k : FuncId} {fn : Func} {c : Code} (hf : P.funcs[k]? = some fn) (hb : fn.body = some c) (hn : (fn.name == "runtime.NumGoroutine") = false) (args : Array Value) (w : World) :
  (callFunc k args).run P w=.ok (.enter k args) w:=by
 have hn : ¬ fn.name = "runtime.NumGoroutine" := by simpa using hn
 simp [callFunc,hf,hb,hn]
def unmark (w:World):List Nat→World
 | []=>w
 | B::ms=>unmark (w.putObj B (.deferred none)) ms
theorem unmark_size:∀ (ms:List Nat) (w:World),(unmark w ms).heap.size=w.heap.size
 | [],_=>rfl
 | _::ms,_=>(unmark_size ms _).trans World.putObj_size
theorem unmark_other:∀ (ms:List Nat) (w:World) {r:Nat},r ∉ ms→(unmark w ms).heap[r]?=w.heap[r]?
 | [],_,_,_=>rfl
 | B::ms,w,r,h=>by
  simp only [List.mem_cons,not_or] at h
  exact (unmark_other ms _ h.2).trans (World.putObj_heap_other h.1)
theorem unmark_calm:∀ (ms:List Nat) (w:World),Calm w (unmark w ms)
 | [],w=>Calm.refl w
 | B::ms,w=>by
  have h:Calm w (w.putObj B (.deferred none)):=⟨rfl,rfl,rfl⟩
  exact h.trans (unmark_calm ms _)
theorem unmark_leaves {P:Program} {fn:Func} {tmps:Array Value} {R:Ending→World→Prop}:∀ (ms:List Nat) (w:World),ms.Nodup→(∀ B∈ms,w.heap[B]?=some (.deferred (some [])))→
  (∃ v,(results fn tmps).run P (unmark w ms)=.ok v (unmark w ms)∧R (.returned v) (unmark w ms))→LeavesInM Fence.wide 0 P fn tmps R (ms.map markD) .returning w
 | [],w,_,_,h=>h
 | B::ms,w,hn,hB,h=>by
  simp only [List.nodup_cons] at hn
  refine ⟨by simp,.inl ⟨B,_,rfl,run_takeDeferred (hB B (by simp)),?_⟩⟩
  exact unmark_leaves ms _ hn.2 (fun B' h'=>(World.putObj_heap_other fun e=>hn.1 (by subst e;exact h')).trans (hB B' (List.mem_cons_of_mem _ h'))) h
theorem Rel.wind {u:UpD} {s:AState} {a:Act} {w:World} (hu:C.UpOk u) (hF0:∀ r,C.F0 r→r<C.w0.heap.size) (hK0:∀ r,C.K0 r→r<C.w0.heap.size) (h:Rel (C.up u) s a w) :
  Rel { C with dfr:=u.ms.map markD++C.dfr } s a (unmark w u.ms)∧a.defers=u.ms.map markD++C.dfr∧∀ B∈u.ms,w.heap[B]?=some (.deferred (some [])):=by
 obtain ⟨κ,F,h⟩:=h
 have hnF:∀ B∈u.ms,¬F B:=fun B hB hf=>by
  obtain ⟨h1,_⟩:=hu.mks B hB
  rcases h.flo B hf with h2 | h2
  ·have:=hF0 B h2
   have:=(hu.new B hB).2
   omega
  ·exact h2 h1
 have hsz:=unmark_size u.ms w
 have hc:=unmark_calm u.ms w
 refine ⟨⟨κ,F,h.rebase2 (w0:=C.w0) (w':=unmark w u.ms) (K0:=C.K0) (r:=C.r) (fun r hr=>hu.k0 r hr) (fun r hr=>unmark_other _ _ fun hm=>?_) (Nat.le_of_eq hsz.symm) hc hK0 (fun r hr=>?_) ?_ ?_⟩,h.dfr,fun B hB=>?_⟩
 ·rcases hr with hr | hr
  ·exact hnF r hm hr
  ·exact hr (hu.mks r hm).1
 ·exact (unmark_other _ _ fun hm=>(hu.new r hm).1 hr).trans ((h.keep r (hu.k0 r hr)).trans (hu.keep r hr))
 ·rw [hsz];exact Nat.le_trans hu.size h.size
 ·exact (hu.calm.trans h.calm).trans hc
 ·exact (h.keep B (hu.mks B hB).1).trans (hu.mks B hB).2
theorem fn_okS {P:Program} {U:FnTab} (hmix:P.follows .mixedOrders=true) {k:FuncId} {fn:Func} {c:Code} {ann:Ann} {ts tr:Ty} {sh:ts.Den→M tr.Den} (hT:TabOk P T) (hU:FnTabOk P U) (hΦ:CtrOk P Φ) (hΨ:PsiOk P U Ψ) (hf:P.funcs[k]?=some fn) (hb:fn.body=some c)
    (hok:fnOk fn c ts tr=true) {s0:ts.Den→AState} {pre:ts.Den→Prop} (hs0:∀ x C a w,Rel C (parSt ts x) a w→pre x→Rel C (s0 x) a w)
    (hsh:∀ x,M.le (M.req (pre x) (codeI U T Φ Ψ ann c (s0 x) (retI T fn.results.toList tr))) (sh x)):FnSpec P k ts tr sh:=by
  simp only [fnOk,Bool.and_eq_true,Bool.not_eq_true',decide_eq_true_eq] at hok
  obtain ⟨⟨⟨⟨hcode,hcnt⟩,hpar⟩,hname⟩,htm⟩:=hok
  refine ⟨callFunc_enter hf hb hname,fun F w args x hF hargs hsafe=>?_⟩
  obtain ⟨⟨hpre,h1⟩,h2⟩:=hsh x hsafe
  have hlen:args.length=parN ts∧∀ i,i<parN ts→∀ (H:Nat→ABlk) (κ:Nat→KB),RA P H κ F w (resAV ts x i) (args.getD i Go.undef):=by
    unfold parN
    split
    · rename_i e
      subst e
      have:args=[]:=hargs.1
      subst this
      exact ⟨rfl,fun i hi=>by cases hi⟩
    · rename_i e
      exact ⟨(args_ok (H:=fun _=>⟨0,.dead⟩) (κ:=fun _=>⟨0,0,0,false⟩) ts hargs e).1,fun i hi H κ=>(args_ok ts hargs e).2 i hi⟩
  let C:Ctx:={ P:=P,w0:=w,F0:=F,K0:=fun r=>r<w.heap.size,nt:=fn.ntmps,r:=none,dfr:=[],an:=fun _=>none,pr:=⟨0,.unit,fun _=>False,fun _ _ _ _ _=>False⟩,ft:=U }
  let a0:Act:={ tmps:=args.toArray++Array.replicate (fn.ntmps - args.toArray.size) undef,defers:=[] }
  let κ0:Nat→KB:=fun _=>⟨0,0,0,false⟩
  have hslot:∀ i,(parSt ts x).slot i=.undef∨(i<parN ts∧(parSt ts x).slot i=resAV ts x i):=fun i=>by
    rcases look_of (l:=parL ts x (parN ts)) (i:=i) with e | e
    · exact .inl e
    · refine .inr ?_
      generalize hz:look (parL ts x (parN ts)) i=z at e
      simp only [parL,List.mem_map,List.mem_range,Prod.mk.injEq] at e
      obtain ⟨j,hj,rfl,rfl⟩:=e
      exact ⟨hj,hz⟩
  have hr:Rel C (parSt ts x) a0 w:=by
    refine ⟨κ0, F, { tsz := ?_, dfr := rfl, slots := fun i => ?_, blks := fun b => trivial, own := fun b hb => (by cases hb), inj := fun b b' hb _ _ => (by cases hb), fsz := hF, flo := fun r hr => .inl hr, fhi := fun r hr => hr, ksz := fun r hr => hr, keep := fun r _ => rfl, size := Nat.le_refl _, calm := Calm.refl w,
                     nsz:=htm,aran:=fun b r h=>(by cases h),anch:=fun b r h=>(by cases h),ara:=fun b k h=>(by cases h),anA:=fun b k h=>(by cases h),pro:=fun l A L n st e=>?_,ftok:=hU }⟩
    · have:=hlen.1
      simp [a0,C]
      omega
    · rcases hslot i with e | ⟨hi,e⟩
      · rw [e];simp only [RA]
      · rw [e]
        have:a0.tmps.getD i Go.undef=args.getD i Go.undef:=by
          have hi':i<args.length:=by rw [hlen.1];exact hi
          simp [a0,Array.getD_eq_getD_getElem?,List.getD_eq_getElem?_getD,Array.getElem?_append,hi']
        rw [this]
        exact hlen.2 i hi _ _
    · rcases hslot TRS with h | ⟨h,_⟩
      · rw [h] at e;cases e
      · unfold TRS TMAX at *;omega
  refine callsIn_wide.1 (callsIn_of_wp_marks (F:=Fence.wide) (n:=0) hf hb trivial ?_)
  have hw:=codeI_ok ann C hmix hT hΦ hΨ (.inl rfl) (k:=retI T fn.results.toList tr) (O:=(codeI U T Φ Ψ ann c (s0 x) (retI T fn.results.toList tr)).out) (Q:=bodyPostM Fence.wide 0 P fn fun e w'=>∃ v y,e=.returned v∧(sh x).out y∧RRes P tr (Grow F w w') w' v y∧Below w.heap.size w w') c (s0 x) a0 w hcode (hs0 x C a0 w hr hpre) ⟨h1,fun _ h=>h⟩
  refine hw fun u hu e s' a' w' hr' hm=>?_
  obtain ⟨hr2,hd,hB⟩:=Rel.wind hu hF (fun _ h=>h) hr'
  obtain ⟨hne,κ,F1,v,y,hrk,hrun,hy,F',f1,f2,hres⟩:=retI_ok (C:={ C with dfr:=u.ms.map markD++C.dfr }) hT hcnt hr2 hm
  have hpost:LeavesInM Fence.wide 0 P fn a'.tmps (fun e w'=>∃ v y,e=.returned v∧(sh x).out y∧RRes P tr (Grow F w w') w' v y∧Below w.heap.size w w') a'.defers .returning w':=by
    rw [hd]
    simp only [C,List.append_nil]
    refine unmark_leaves u.ms w' hu.nd hB ⟨v,hrun,v,y,rfl,h2 y hy,?_,hrk.calm.os,hrk.calm.tape,hrk.calm.output,hrk.size,hrk.keep⟩
    obtain ⟨vs,k1,k2,k3⟩:=hres
    refine ⟨vs,k1,k2,RC_mono tr (fun r hr=>?_) (Ext.refl _ _) k3⟩
    rcases f1 r hr with h | h
    · exact .inl h
    · exact .inr ⟨Nat.le_of_not_lt h,f2 r hr⟩
  cases e with
  | normal=>exact hpost
  | exit id=>exact absurd rfl (hne id)
  | ret=>exact hpost
theorem fn_ok {P:Program} {U:FnTab} (hmix:P.follows .mixedOrders=true) {k:FuncId} {fn:Func} {c:Code} {ann:Ann} {ts tr:Ty} {sh:ts.Den→M tr.Den} (hT:TabOk P T) (hU:FnTabOk P U) (hΦ:CtrOk P Φ) (hΨ:PsiOk P U Ψ) (hf:P.funcs[k]?=some fn) (hb:fn.body=some c)
  (hok:fnOk fn c ts tr=true) (hsh:∀ x,M.le (funI U T Φ Ψ fn c ann ts tr x) (sh x)):FnSpec P k ts tr sh:=
 fn_okS hmix hT hU hΦ hΨ hf hb hok (ann:=ann) (s0:=parSt ts) (pre:=fun _=>True) (fun _ _ _ _ h _=>h) fun x hs=>⟨⟨trivial,(hsh x hs).1⟩,(hsh x hs).2⟩
theorem caps_ok {C:Ctx} {s:AState} {a:Act} {w:World} {n:Nat} (h:Rel C s a w) (hc:capsPre n s):Rel C (capsSt n s) a w:=by
 obtain ⟨κ,F,hr⟩:=h
 refine ⟨κ,F,{ hr with slots:=fun i=>?_,tsz:=hr.tsz,dfr:=hr.dfr,blks:=hr.blks,pro:=fun l A L m st e=>?_ }⟩
 ·show RA C.P s.blk κ F w (if i<n∨TMAX<i then s.slot i else ptrOf (s.slot i)) _
  split
  ·exact hr.slots i
  ·rename_i hi
   have hv:=hr.slots i
   have hp:=hc i hi
   unfold ptrOf
   unfold ptrPre at hp
   split
   ·rename_i e p he
    rw [he] at hv hp
    have hp:p.isSome=true:=hp
    obtain ⟨_,hv⟩:=(RV_leaf rfl).1 hv
    simp only [RC] at hv
    rcases hv with ⟨_,rfl⟩ | ⟨q,y,ds,hq,rfl,k1,k2⟩
    ·cases hp
    ·exact ⟨q,ds,(List.cons.inj hq).1,k1,k2⟩
   ·exact hv
 ·have e:(if TRS<n∨TMAX<TRS then s.slot TRS else ptrOf (s.slot TRS))=.tr l A L m st:=e
  rw [if_pos (.inr (by decide))] at e
  exact hr.pro l A L m st e
theorem fnC_ok {P:Program} {U:FnTab} (hmix:P.follows .mixedOrders=true) {k:FuncId} {fn:Func} {c:Code} {ann:Ann} {n:Nat} {ts tr:Ty} {sh:ts.Den→M tr.Den} (hT:TabOk P T) (hU:FnTabOk P U) (hΦ:CtrOk P Φ) (hΨ:PsiOk P U Ψ) (hf:P.funcs[k]?=some fn) (hb:fn.body=some c)
  (hok:fnOk fn c ts tr=true) (hsh:∀ x,M.le (funC U T Φ Ψ fn c ann n ts tr x) (sh x)):FnSpec P k ts tr sh:=
 fn_okS hmix hT hU hΦ hΨ hf hb hok (ann:=ann) (s0:=fun x=>capsSt n (parSt ts x)) (pre:=fun x=>capsPre n (parSt ts x)) (fun _ _ _ _ h hp=>caps_ok h hp) hsh
theorem expG_ok {H:Nat→ABlk} {κ:Nat→KB} {F:Nat→Prop} {w:World} {P:Program}:∀ (g:List (Option Nat)) {avs l:List AV} {us:List Value},expG g avs=some l→avs.length=us.length→(∀ i (h:i<avs.length) (h':i<us.length),RA P H κ F w avs[i] us[i])→
  ∃ vs:List Value,GV g us vs∧l.length=vs.length∧∀ i,i<vs.length→RA P H κ F w (l.getD i .undef) (vs.getD i undef)
 | [],[],l,us,h,hl,_=>by
  cases h
  have:us=[]:=List.eq_nil_of_length_eq_zero hl.symm
  subst this
  exact ⟨[],rfl,rfl,fun i hi=>by cases hi⟩
 | [],_::_,_,_,h,_,_=>by cases h
 | none::_,[],_,_,h,_,_=>by cases h
 | some _::_,[],_,_,h,_,_=>by cases h
 | none::g,av::avs,l,[],_,hl,_=>by cases hl
 | some n::g,av::avs,l,[],_,hl,_=>by cases hl
 | none::g,av::avs,l,u::us,h,hl,hv=>by
  simp only [expG] at h
  split at h
  ·rename_i l' hl'
   cases h
   obtain ⟨vs,h1,h2,h3⟩:=expG_ok g hl' (by simpa using hl) fun i h h'=>hv (i+1) (Nat.succ_lt_succ h) (Nat.succ_lt_succ h')
   refine ⟨u::vs,⟨vs,rfl,h1⟩,by simp [h2],fun i hi=>?_⟩
   cases i with
   | zero=>exact hv 0 (Nat.zero_lt_succ _) (Nat.zero_lt_succ _)
   | succ i=>simpa using h3 i (by simpa using hi)
  ·cases h
 | some n::g,av::avs,l,u::us,h,hl,hv=>by
  simp only [expG] at h
  split at h
  ·rename_i m f l' hl'
   split at h
   ·rename_i hmn
    cases h
    subst hmn
    obtain ⟨vs,h1,h2,h3⟩:=expG_ok g hl' (by simpa using hl) fun i h h'=>hv (i+1) (Nat.succ_lt_succ h) (Nat.succ_lt_succ h')
    obtain ⟨cs,k1,k2,k3⟩:RA P H κ F w (.agg m f) u:=hv 0 (Nat.zero_lt_succ _) (Nat.zero_lt_succ _)
    refine ⟨cs++vs,⟨cs.toArray,vs,k1,by simpa using k2,fun c hc=>?_,by simp,h1⟩,by simp [h2,k2],fun i hi=>?_⟩
    ·obtain ⟨j,hj,rfl⟩:=List.mem_iff_getElem.1 (by simpa using hc:c∈cs)
     have:=(k3 j (by omega)).2
     rwa [List.getD_eq_getElem?_getD,List.getElem?_eq_getElem hj] at this
    ·by_cases hlt:i<m
     ·have:=(k3 i hlt).1
      simp only [List.getD_eq_getElem?_getD] at this ⊢
      rw [List.getElem?_append_left (by simpa using hlt),List.getElem?_append_left (by omega)]
      simpa [hlt] using this
     ·have hlt:m≤i:=Nat.le_of_not_lt hlt
      have:=h3 (i - m) (by simp at hi;omega)
      simp only [List.getD_eq_getElem?_getD] at this ⊢
      rw [List.getElem?_append_right (by simpa using hlt),List.getElem?_append_right (by omega)]
      simpa [k2] using this
   ·cases h
  ·cases h
theorem fnIO_ok {P:Program} {U:FnTab} (hmix:P.follows .mixedOrders=true) {k:FuncId} {fn:Func} {c:Code} {ann:Ann} {ic:IOC} (hT:TabOk P T) (hΦ:CtrOk P Φ) (hΨ:PsiOk P U Ψ) (hf:P.funcs[k]?=some fn) (hb:fn.body=some c)
  (hok:fnOkIO fn c ic.nargs ic.grp=true) (hsh:∀ σ,M.le (funIO U T Φ Ψ fn c ann ic.sin ic.out ic.grp σ) (ic.sh σ)):IoSpec P U k ic:=by
 simp only [fnOkIO,Bool.and_eq_true,Bool.not_eq_true',decide_eq_true_eq] at hok
 obtain ⟨⟨⟨⟨hcode,hcnt⟩,hpar⟩,hname⟩,htm⟩:=hok
 refine ⟨callFunc_enter hf hb hname,fun C a w κ F σ hP hw0 hr0 hd0 hn0 hU hr hsafe=>?_⟩
 subst hP
 subst hw0
 subst hU
 obtain ⟨h1,h2⟩:=hsh σ hsafe
 have hasz:a.tmps.size=ic.nargs:=hr.tsz.trans hn0
 have hget:∀ i,(a.tmps++Array.replicate (fn.ntmps - a.tmps.size) undef).getD i undef=a.tmps.getD i undef:=fun i=>by
  simp only [Array.getD_eq_getD_getElem?,Array.getElem?_append]
  split
  ·rfl
  ·rename_i h
   rw [Array.getElem?_eq_none (Nat.le_of_not_lt h),Array.getElem?_replicate]
   split<;>rfl
 have hr':RelK { C with nt:=fn.ntmps,dfr:=[],r:=none } (ic.sin.st σ) { tmps:=a.tmps++Array.replicate (fn.ntmps - a.tmps.size) undef,defers:=[] } C.w0 κ F:=
  { hr with tsz:=(by simp;omega),dfr:=rfl,nsz:=htm,slots:=fun i=>(by rw [hget];exact hr.slots i),blks:=hr.blks }
 refine callsIn_wide.1 (callsIn_of_wp_marks (F:=Fence.wide) (n:=0) hf hb trivial ?_)
 have hw:=codeI_ok ann { C with nt:=fn.ntmps,dfr:=[],r:=none } hmix hT hΦ hΨ (.inl rfl) (k:=retIO T fn.results.toList ic.grp ic.out) (O:=(funIO C.ft T Φ Ψ fn c ann ic.sin ic.out ic.grp σ).out)
  (Q:=bodyPostM Fence.wide 0 C.P fn fun e w'=>∃ v τ vs κ' F',e=.returned v∧(ic.sh σ).out τ∧GrpVal ic.grp v vs∧RelK { C with nt:=vs.length } (ic.out.st τ) { tmps:=vs.toArray,defers:=[] } w' κ' F') c (ic.sin.st σ) _ C.w0 hcode ⟨κ,F,hr'⟩ ⟨h1,fun _ h=>h⟩
 refine hw fun u hu e s' a' w' hr' hm=>?_
 obtain ⟨⟨κ2,F2,hr2⟩,hd,hB⟩:=Rel.wind hu (fun r h=>hr.fsz r (hr.fhi r h)) hr.ksz hr'
 have key:(∀ id,e≠.exit id)∧LeavesInM Fence.wide 0 C.P fn a'.tmps (fun e w'=>∃ v τ vs κ' F',e=.returned v∧(ic.sh σ).out τ∧GrpVal ic.grp v vs∧RelK { C with nt:=vs.length } (ic.out.st τ) { tmps:=vs.toArray,defers:=[] } w' κ' F') a'.defers .returning w':=by
  unfold retIO at hm
  split at hm
  ·exact (ret_fail hm).elim
  ·rename_i hne
   refine ⟨fun id he=>hne id he,?_⟩
   split at hm
   ·rename_i avs havs
    split at hm
    ·rename_i l hl
     split at hm
     ·rename_i hlt
      have hlt:l.length≤TMAX:=of_decide_eq_true hlt
      obtain ⟨us,k1,k2,k3,k4⟩:=resAVs_ok (C:={ C with nt:=fn.ntmps,dfr:=u.ms.map markD++[],r:=none }) hT hr2 _ havs
      obtain ⟨vs,g1,g2,g3⟩:=expG_ok ic.grp hl (by omega) k4
      obtain ⟨τ,hτ,h5⟩:=rdM_ret hm
      have ha:=hr2.args (avs:=l) (us:=vs) (by omega) g2 g3
      obtain ⟨κ3,F3,_,hr3⟩:=Shape.rd_okK hτ ha
      rw [hd]
      simp only [List.append_nil]
      have hrun:(results fn a'.tmps).run C.P (unmark w' u.ms)=.ok (if us.length=1 then us.getD 0 undef else .tuple us.toArray) (unmark w' u.ms):=by
       rw [results_eq,Sem.run_bind]
       have:(fn.results.mapM (rdRes a'.tmps)).run C.P (unmark w' u.ms)=.ok us.toArray (unmark w' u.ms):=by
        rw [Array.mapM_eq_mapM_toList,map_eq_pure_bind,Sem.run_bind,k1]
        rfl
       rw [this]
       simp only [Result.andThen_ok,Sem.run_pure,List.size_toArray]
       by_cases hone:us.length=1
       ·rw [dif_pos hone,if_pos hone]
        simp [List.getD_eq_getElem?_getD,hone]
       ·rw [dif_neg hone,if_neg hone]
      refine unmark_leaves u.ms w' hu.nd hB ⟨_,hrun,_,τ,vs,κ3,F3,rfl,h2 τ (M.ret_pure.1 h5),⟨us,?_,rfl,g1⟩,?_⟩
      ·rw [k2];simpa using hcnt
      ·have e:({ C with nt:=vs.length }:Ctx)={ C with nt:=vs.length,dfr:=[],r:=none }:=by
        cases C
        simp only at hr0 hd0
        subst hr0
        subst hd0
        rfl
       rw [e]
       exact hr3
     ·exact (ret_fail hm).elim
    ·exact (ret_fail hm).elim
   ·exact (ret_fail hm).elim
 cases e with
 | normal=>exact key.2
 | exit id=>exact absurd rfl (key.1 id)
 | ret=>exact key.2
end
def tabT:List (Nat×Ty)→Nat→Ty
 | [],_=>.unit
 | p::l,i=>if i=p.1 then p.2 else tabT l i
def tabChk (P:Program) (l:List (Nat×Ty)):Bool:=l.all fun p=>tyChk P p.2 (.inl p.1)
theorem tabT_ok {P:Program} {l:List (Nat×Ty)} (h:tabChk P l=true):TabOk P (tabT l):=by
 intro id
 induction l with
 | nil=>exact .inl rfl
 | cons p l ih=>
  simp only [tabChk,List.all_cons,Bool.and_eq_true] at h
  simp only [tabT]
  split
  ·rename_i e
   subst e
   exact .inr h.1
  ·exact ih h.2
end Go.Fer
namespace Go.Fer
open Go.RowKit
theorem cit_of_io {P:Program} {U:FnTab} {k:FuncId} {c:IOC} (h:IoSpec P U k c) (hU:FnTabOk P U) {cs:List Ty} {A:Ty} {S:(tupT (cs.map .ptr)).Den→List A.Den→Prop} (mk:(tupT (cs.map .ptr)).Den→Nat→(List A.Den→Prop)→c.sin.Den)
    (hn:c.nargs=resN (tupT (cs.map .ptr))+1) (hn2:c.nargs≤TMAX) (hts:tupT (cs.map .ptr)≠.unit)
    (hsl:∀ x l L i,(∃ T,S x T)→(c.sin.st (mk x l L)).slot i=.undef∨(i<resN (tupT (cs.map .ptr))+1∧0<i∧∃ e y,(c.sin.st (mk x l L)).slot i=.pp e y∧resAV (tupT (cs.map .ptr)) x (i - 1)=.val (.ptr e) (some y))∨(i=0∧(c.sin.st (mk x l L)).slot i=.yld l)∨(i=TRS∧(c.sin.st (mk x l L)).slot i=.tr l A L [] false))
    (hbl:c.sin.blks=[]) (hout:∀ τ,∃ n st l L,(c.out.st τ).slot TRS=.tr l A L n st)
    (hpl:∀ x l,(∃ L,S x L)→(c.sh (mk x l (S x))).safe∧∀ τ,(c.sh (mk x l (S x))).out τ→∀ l' L' p,(c.out.st τ).slot TRS=.tr l' A L' p false→S x p):CItSpec P k ⟨cs,A,S⟩:=by
  refine ⟨h.enter,fun F w args x hF hargs hne l IL Y hY hpok0 hI0=>?_⟩
  have hok:=proto_of hpok0
  obtain ⟨hal,hav⟩:=args_ok (H:=fun _=>⟨0,.dead⟩) (κ:=fun _=>⟨0,0,0,false⟩) (tupT (cs.map .ptr)) hargs hts
  have hblk:∀ b,(c.sin.st (mk x l (S x))).blk b=⟨0,.dead⟩:=fun b=>by
    show lookB (blksL gId c.sin.blks (slotsL gId c.sin.slots (mk x l (S x))).2) b=_
    generalize (slotsL gId c.sin.slots (mk x l (S x))).2=z
    revert z
    rw [hbl]
    intro z
    rfl
  have hsz:(Value.func (.yield l) #[] #[]::args).length=c.nargs:=by rw [hn,List.length_cons,hal]
  have hr:RelK { P:=P,w0:=w,F0:=F,K0:=fun r=>r<w.heap.size∧¬Y r,nt:=c.nargs,r:=none,dfr:=[],an:=fun _=>none,pr:=⟨l,A,S x,IL⟩,ft:=U } (c.sin.st (mk x l (S x)))
      { tmps:=(Value.func (.yield l) #[] #[]::args).toArray,defers:=[] } w (fun _=>⟨0,0,0,false⟩) F:=
    { tsz := by simpa using hsz
      dfr:=rfl
      slots:=fun i=>by
        rcases hsl x l (S x) i hne with e | ⟨hi,hi0,te,y,e,ey⟩ | ⟨hi,e⟩ | ⟨hi,e⟩
        · rw [e];trivial
        · rw [e]
          have:=(args_ok (H:=(c.sin.st (mk x l (S x))).blk) (κ:=fun _=>⟨0,0,0,false⟩) (tupT (cs.map .ptr)) hargs hts).2 (i - 1) (by omega)
          have e2:(Value.func (.yield l) #[] #[]::args).toArray.getD i undef=args.getD (i - 1) undef:=by
            obtain ⟨j,rfl⟩:∃ j,i=j+1:=⟨i - 1,by omega⟩
            rw [Array.getD_eq_getD_getElem?,List.getD_eq_getElem?_getD,List.getElem?_toArray,List.getElem?_cons_succ]
            rfl
          rw [e2]
          rw [ey] at this
          obtain ⟨_,hv⟩:=(RV_leaf rfl).1 this
          simp only [RC] at hv
          rcases hv with ⟨_,hn⟩ | ⟨q,y',ds,hq,hy',k1,k2⟩
          · cases hn
          · cases hy'
            exact ⟨q,ds,(List.cons.inj hq).1,k1,k2⟩
        · rw [e]
          subst hi
          rfl
        · rw [e];trivial
      blks:=fun b=>by unfold HB;rw [hblk b];trivial
      own:=fun b hb=>by rw [hblk b] at hb;cases hb
      inj:=fun b b' hb _ _=>by rw [hblk b] at hb;cases hb
      fsz:=hF
      flo:=fun r hr=>.inl hr
      fhi:=fun r hr=>hr
      ksz:=fun r hr=>hr.1
      keep:=fun _ _=>rfl
      size:=Nat.le_refl _
      calm:=Calm.refl _
      nsz:=hn2
      aran:=fun b r h=>by cases h
      anch:=fun b r h=>by cases h
      ara:=fun b k h=>by cases h
      anA:=fun b k h=>by cases h
      pro:=fun l' A' L' n st e=>by
        rcases hsl x l (S x) TRS hne with e' | ⟨hi,_⟩ | ⟨hi,_⟩ | ⟨_,e'⟩
        · rw [e'] at e;cases e
        · unfold TRS TMAX at *;omega
        · unfold TRS at hi;omega
        · rw [e'] at e
          cases e
          exact ⟨⟨IL,rfl⟩,hok,Y,fun r hr=>⟨(hY r hr).1,(hY r hr).2,fun k=>k.2 hr⟩,fun b hb=>(by rw [hblk b] at hb;cases hb),Proto.at_mk.2 hI0⟩
      ftok:=hU }
  obtain ⟨hs,hpost⟩:=hpl x l hne
  have harr:#[Value.func (.yield l) #[] #[]]++args.toArray=(Value.func (.yield l) #[] #[]::args).toArray:=by simp
  rw [harr]
  refine (h.calls _ _ w _ F _ rfl rfl rfl rfl rfl rfl hr hs).mono fun e w' ⟨v,τ,vs,κ',F',he,hτ,_,hr'⟩=>?_
  obtain ⟨n,st,l',L',hslot⟩:=hout τ
  obtain ⟨⟨I',hI'⟩,_,Y',h3,h4,h5'⟩:=hr'.pro l' A L' n st hslot
  refine ⟨v,n,st,F',Y',he,fun hst=>?_,Proto.at_mk.1 h5',hr'.fhi,fun r hr2=>?_,hr'.fsz,fun r h1 h2=>hr'.keep r ⟨h1,h2⟩,fun r hr2=>⟨?_,(h3 r hr2).1,(h3 r hr2).2.1⟩,hr'.size,⟨hr'.calm.os,hr'.calm.tape,hr'.calm.output⟩⟩
  · subst hst
    exact hpost τ hτ l' L' n hslot
  · rcases hr'.flo r hr2 with h | h
    · exact .inl h
    · by_cases hy:Y r
      · exact .inr (.inl hy)
      · exact .inr (.inr (Nat.le_of_not_lt fun hlt=>h ⟨hlt,hy⟩))
  · by_cases hy:Y r
    · exact .inl hy
    · exact .inr (Nat.le_of_not_lt fun hlt=>(h3 r hr2).2.2 ⟨hlt,hy⟩)
end Go.Fer
namespace Go.Fer
open Go.RowKit Go.ChangeShapes Go.WideShapes
def Ty.law:Ty→Bool
 | .bool | .int _ | .str | .unit=>true
 | .st t=>t.law
 | .prod a b=>a.law&&b.law
 | .slice e=>e.law
 | _=>false
def Ty.Ok:(t:Ty)→t.Den→Prop
 | .int k,x=>InR k x
 | .str,x=>x.length<2 ^ 63
 | .st t,x=>t.Ok x
 | .prod a b,x=>a.Ok x.1∧b.Ok x.2
 | .slice e,xs=>xs.length<2 ^ 63∧∀ y∈xs,e.Ok y
 | .array n e,xs=>xs.length=n∧∀ y∈xs,e.Ok y
 | _,_=>True
theorem RC_ok {P:Program} {w:World} {F:Nat→Prop}:∀ (t:Ty) {cs:List Value} {x:t.Den},RC P t F w cs x→t.Ok x
 | .bool,_,_,_=>trivial
 | .int _,_,_,h=>h.2
 | .str,_,_,h=>h.2
 | .unit,_,_,_=>trivial
 | .st t,_,_,h=>by simp only [RC] at h;exact RC_ok t h
 | .prod a b,_,_,h=>by
  simp only [RC] at h
  obtain ⟨c,d,_,h1,h2⟩:=h
  exact ⟨RC_ok a h1,RC_ok b h2⟩
 | .slice e,_,xs,h=>by
  simp only [RC] at h
  obtain ⟨a,cap,_,h1,h2,h3,h4⟩:=h
  refine ⟨by omega,fun y hy=>?_⟩
  obtain ⟨i,hi,rfl⟩:=List.mem_iff_getElem.1 hy
  cases a with
  | none=>have:=h3 rfl;omega
  | some p=>
   obtain ⟨ds,_,k⟩:=(h4 p rfl (by omega)).2.2 i hi
   exact RC_ok e k
 | .array n e,_,xs,h=>by
  simp only [RC] at h
  obtain ⟨css,_,h1,h2,h3⟩:=h
  refine ⟨h2,fun y hy=>?_⟩
  obtain ⟨i,hi,rfl⟩:=List.mem_iff_getElem.1 hy
  exact RC_ok e (h3 i hi (by omega))
 | .ptr _,_,_,_=>trivial
 | .map _ _,_,_,_=>trivial
 | .fn _ _,_,_,_=>trivial
 | .it _,_,_,_=>trivial
section
variable {H:Type} {enc:TypeId×Value→H} {P:Program} {w:World}
theorem TyIs.cells {t:Ty} {id:TypeId} (h:TyIs P t id):P.cellsOf id=t.size:=by
 obtain ⟨i,z,h1,h2,_⟩:=infoOk_out h.info
 simp [Program.cellsOf,h1,h2]
theorem cells?_holds {a:Addr} {n:Nat} {ds:List Value} (h:w.cells? 0 a n=some ds) (hn:0<n):a.spot=none∧a.block<w.heap.size∧ds.length=n∧∀ j (hj:j<ds.length),w.cell? ⟨a.block,a.off+j,none⟩=some ds[j]:=by
 have hb:=World.cells?_block h hn
 have hsp:a.spot=none:=by
  unfold World.cells? at h
  split at h
  ·obtain ⟨m,rfl⟩:∃ m,n=m+1:=⟨n - 1,by omega⟩
   rw [List.range_succ_eq_map] at h
   simp only [List.mapM_cons,Option.bind_eq_bind,Option.bind_eq_some_iff] at h
   obtain ⟨v,hv,_⟩:=h
   cases hs:a.spot with
   | none=>rfl
   | some x=>simp [World.cell?,Addr.add,hs] at hv;split at hv<;>cases hv
  ·cases h
 unfold World.cells? at h
 split at h
 ·have hlen:ds.length=n:=by
   have:∀ (l:List Nat) (r:List Value),l.mapM (fun i=>w.cell? (a.add i))=some r→r.length=l.length:=by
    intro l
    induction l with
    | nil=>intro r hr;simp at hr;subst hr;rfl
    | cons x l ih=>
     intro r hr
     simp only [List.mapM_cons,Option.bind_eq_bind,Option.bind_eq_some_iff,Option.pure_def,Option.some.injEq] at hr
     obtain ⟨v,_,r',hr',rfl⟩:=hr
     simp [ih r' hr']
   simpa using this _ _ h
  refine ⟨hsp,hb,hlen,fun j hj=>?_⟩
  have:∀ (l:List Nat) (r:List Value),l.mapM (fun i=>w.cell? (a.add i))=some r→∀ j (h1:j<l.length) (h2:j<r.length),w.cell? (a.add l[j])=some r[j]:=by
   intro l
   induction l with
   | nil=>intro r _ j h1;simp at h1
   | cons x l ih=>
    intro r hr j h1 h2
    simp only [List.mapM_cons,Option.bind_eq_bind,Option.bind_eq_some_iff,Option.pure_def,Option.some.injEq] at hr
    obtain ⟨v,hv,r',hr',rfl⟩:=hr
    cases j with
    | zero=>exact hv
    | succ j=>exact ih r' hr' j (by simpa using h1) (by simpa using h2)
  have h1:=this _ _ h j (by simp;omega) hj
  rw [←h1]
  have ea:a.add ((List.range n)[j]'(by simp;omega))=⟨a.block,a.off+j,none⟩:=by
   cases a
   simp only at hsp
   subst hsp
   simp [Addr.add]
  rw [ea]
 ·cases h
def AllF (w:World):Nat→Prop:=fun r=>r<w.heap.size
theorem trod_RC (t:Ty):(t.law=true→∀ {id:TypeId} {fuel:Nat} {cs:List Value} {x:DataW H×List MemPlace},TyIs P t id→DataW.trod enc P w 0 (fun _=>true) true fuel id cs=some x→∃ y,RC P t (AllF w) w cs y)∧
  (t.law=true→∀ {l:List Field} {off n:Nat} {cs:List Value},tyChk P t (.inr (l,off))=true→(∀ f∈l,∃ x,DataW.trod enc P w 0 (fun _=>true) true n f.type ((cs.drop f.offset).take (P.cellsOf f.type))=some x)→∃ y,RC P t (AllF w) w ((cs.drop off).take t.size) y):=by
 induction t with
 | bool=>
  refine ⟨fun _ {id fuel cs x} ht h=>?_,fun _ {l off n cs} h=>by simp [tyChk] at h⟩
  have hu:P.underlying id=some .bool:=by
   unfold TyIs at ht
   simp only [tyChk,Bool.and_eq_true] at ht
   obtain ⟨_,ht⟩:=ht
   split at ht
   ·assumption
   ·cases ht
  obtain ⟨b,rfl,_⟩:=DataW.trod_bool hu h
  exact ⟨b,rfl⟩
 | int k=>
  refine ⟨fun _ {id fuel cs x} ht h=>?_,fun _ {l off n cs} h=>by simp [tyChk] at h⟩
  obtain ⟨n,rfl,_,hw⟩:=DataW.trod_int ht.int h
  simp only [Lit.wf,Bool.and_eq_true,decide_eq_true_eq] at hw
  exact ⟨n,rfl,hw⟩
 | str=>
  refine ⟨fun _ {id fuel cs x} ht h=>?_,fun _ {l off n cs} h=>by simp [tyChk] at h⟩
  obtain ⟨s,rfl,_,hw⟩:=DataW.trod_string ht.str h
  refine ⟨s.data.toList,by simp,?_⟩
  have:s.data.toList.length=s.size:=by rw [Array.length_toList];rfl
  rw [this]
  have:maxLen<2 ^ 63:=by decide
  omega
 | unit=>exact ⟨fun _ {id fuel cs x} ht h=>by simp [TyIs,tyChk] at ht,fun _ {l off n cs} h=>by simp [tyChk] at h⟩
 | st t ih=>
  refine ⟨fun hl {id fuel cs x} ht h=>?_,fun _ {l off n cs} h=>by simp [tyChk] at h⟩
  have hl:t.law=true:=hl
  have hcells:P.cellsOf id=t.size:=ht.cells
  obtain ⟨fs,hu⟩:=ht.st
  obtain ⟨xs,n,_,rfl,hlen,hxl,hf⟩:=DataW.trod_struct hu h
  unfold TyIs at ht
  simp only [tyChk,Bool.and_eq_true] at ht
  obtain ⟨_,ht⟩:=ht
  rw [hu] at ht
  have hfs:∀ f∈fs.toList,∃ x,DataW.trod enc P w 0 (fun _=>true) true n f.type ((cs.drop f.offset).take (P.cellsOf f.type))=some x:=by
   intro f hfm
   obtain ⟨i,hi,rfl⟩:=List.mem_iff_getElem.1 hfm
   have hi':i<fs.size:=by simpa using hi
   refine ⟨xs[i]'(by omega),?_⟩
   rw [hf i _ (by simp [hi'])]
   exact List.getElem?_eq_getElem _
  simp only at ht
  split at ht
  ·have ht:=of_decide_eq_true ht
   subst ht
   have:cs=[]:=by
    have:=hlen.trans hcells
    simpa [Ty.size] using this
   subst this
   exact ⟨(),rfl⟩
  ·rename_i f hfl
   simp only [Bool.and_eq_true,beq_iff_eq,bne_iff_ne] at ht
   obtain ⟨⟨⟨h0,h1⟩,_⟩,_⟩:=ht
   obtain ⟨x,hx⟩:=hfs f (by rw [hfl];simp)
   have hc:P.cellsOf f.type=t.size:=TyIs.cells h1
   rw [h0,hc,List.drop_zero,List.take_of_length_le (by omega)] at hx
   obtain ⟨y,hy⟩:=ih.1 hl h1 hx
   exact ⟨y,hy⟩
  ·obtain ⟨y,hy⟩:=ih.2 hl ht hfs
   rw [List.drop_zero,List.take_of_length_le (by omega)] at hy
   exact ⟨y,hy⟩
 | prod a b iha ihb=>
  refine ⟨fun _ {id fuel cs x} ht h=>by simp [TyIs,tyChk] at ht,fun hl {l off n cs} ht h=>?_⟩
  simp only [Ty.law,Bool.and_eq_true] at hl
  have join:∀ {y:a.Den} {z:b.Den},RC P a (AllF w) w ((cs.drop off).take a.size) y→RC P b (AllF w) w ((cs.drop (off+a.size)).take b.size) z→∃ y,RC P (.prod a b) (AllF w) w ((cs.drop off).take (Ty.prod a b).size) y:=by
   intro y z hy hz
   refine ⟨(y,z),_,_,?_,hy,hz⟩
   simp only [Ty.size]
   rw [List.take_add,List.drop_drop]
  match l,ht with
  | f::g::[],ht=>
   simp only [tyChk,Bool.and_eq_true,beq_iff_eq,bne_iff_ne] at ht
   obtain ⟨⟨⟨⟨h0,h1⟩,_⟩,_⟩,⟨⟨⟨k0,k1⟩,_⟩,_⟩⟩:=ht
   obtain ⟨x,hx⟩:=h f (by simp)
   obtain ⟨x',hx'⟩:=h g (by simp)
   rw [h0,TyIs.cells h1] at hx
   rw [k0,TyIs.cells k1] at hx'
   obtain ⟨y,hy⟩:=iha.1 hl.1 h1 hx
   obtain ⟨z,hz⟩:=ihb.1 hl.2 k1 hx'
   exact join hy hz
  | f::g::e::fs,ht=>
   simp only [tyChk,Bool.and_eq_true,beq_iff_eq,bne_iff_ne] at ht
   obtain ⟨⟨⟨⟨h0,h1⟩,_⟩,_⟩,k1⟩:=ht
   obtain ⟨x,hx⟩:=h f (by simp)
   rw [h0,TyIs.cells h1] at hx
   obtain ⟨y,hy⟩:=iha.1 hl.1 h1 hx
   obtain ⟨z,hz⟩:=ihb.2 hl.2 k1 fun f' hf'=>h f' (List.mem_cons_of_mem _ hf')
   exact join hy hz
 | slice e ih=>
  refine ⟨fun hl {id fuel cs x} ht h=>?_,fun _ {l off n cs} h=>by simp [tyChk] at h⟩
  have hl:e.law=true:=hl
  obtain ⟨i,hu,he,hsz⟩:=ht.sl
  have hcells:=he.cells
  rcases DataW.trod_slice hu h with ⟨rfl,_⟩ | ⟨a,len,cap,elems,rest,n,rfl,rfl,_,_,hlc,hcap,hel,hget,hmore,_⟩
  ·exact ⟨[],none,0,rfl,Nat.le_refl _,by decide,fun _=>rfl,fun p hp=>by cases hp⟩
  ·have hpos:0<P.cellsOf i:=by rw [hcells];omega
   have key:∀ j,j<len→∃ ds y,w.cells? 0 (a.add (j*P.cellsOf i)) (P.cellsOf i)=some ds∧RC P e (AllF w) w ds y:=by
    intro j hj
    have:=hget j hj
    rw [List.getElem?_eq_getElem (by omega)] at this
    obtain ⟨ds,h1,h2⟩:=Option.bind_eq_some_iff.1 this
    obtain ⟨y,hy⟩:=ih.1 hl he h2
    exact ⟨ds,y,h1,hy⟩
   have some0:0<cap→a.spot=none∧a.block<w.heap.size:=by
    intro hc
    have:∃ ds,w.cells? 0 (a.add (0*P.cellsOf i)) (P.cellsOf i)=some ds:=by
     by_cases hl0:0<len
     ·obtain ⟨ds,_,h1,_⟩:=key 0 hl0
      exact ⟨ds,h1⟩
     ·obtain ⟨m1,m2⟩:=hmore rfl
      have hz:len=0:=by omega
      subst hz
      have:=m2 0 (by omega)
      rw [List.getElem?_eq_getElem (by omega)] at this
      obtain ⟨ds,h1,_⟩:=Option.bind_eq_some_iff.1 this
      exact ⟨ds,h1⟩
    obtain ⟨ds,h1⟩:=this
    have e1:a.add (0*P.cellsOf i)=a:=by unfold Addr.add;simp
    rw [e1] at h1
    obtain ⟨k1,k2,_⟩:=cells?_holds h1 hpos
    exact ⟨k1,k2⟩
   have:∃ ys:List e.Den,ys.length=len∧∀ j (hj:j<ys.length),∃ ds,w.cells? 0 (a.add (j*P.cellsOf i)) (P.cellsOf i)=some ds∧RC P e (AllF w) w ds ys[j]:=by
    clear hget hel h hlc hmore
    induction len with
    | zero=>exact ⟨[],rfl,fun j hj=>by simp at hj⟩
    | succ m ihm=>
     obtain ⟨ys,hys,hh⟩:=ihm fun j hj=>key j (by omega)
     obtain ⟨ds,y,h1,h2⟩:=key m (by omega)
     refine ⟨ys++[y],by simp [hys],fun j hj=>?_⟩
     by_cases hjm:j<ys.length
     ·rw [List.getElem_append_left hjm];exact hh j hjm
     ·have:j=m:=by simp at hj;omega
      subst this
      refine ⟨ds,h1,?_⟩
      rw [List.getElem_append_right (by omega)]
      simpa [hys] using h2
   obtain ⟨ys,rfl,hys⟩:=this
   have hmax:maxLen<2 ^ 63:=by decide
   refine ⟨ys,some a,cap,rfl,hlc,by omega,(by simp),fun p hp hc0=>?_⟩
   cases hp
   obtain ⟨k1,k2⟩:=some0 hc0
   refine ⟨k2,k1,fun j hj=>?_⟩
   obtain ⟨ds,d1,d2⟩:=hys j hj
   obtain ⟨m1,m2,m3,m4⟩:=cells?_holds d1 hpos
   refine ⟨ds,⟨k2,rfl,fun q hq=>?_⟩,d2⟩
   have:=m4 q hq
   have e1:a.add (j*P.cellsOf i)=⟨a.block,a.off+j*e.size,none⟩:=by
    rw [hcells]
    cases a
    simp only at k1
    subst k1
    unfold Addr.add
    split
    ·rename_i h0;simp [h0]
    ·rfl
   rw [e1] at this
   exact this
 | array n e ih=>exact ⟨fun h=>by simp [Ty.law] at h,fun h=>by simp [Ty.law] at h⟩
 | ptr e ih=>exact ⟨fun h=>by simp [Ty.law] at h,fun h=>by simp [Ty.law] at h⟩
 | map k v ihk ihv=>exact ⟨fun h=>by simp [Ty.law] at h,fun h=>by simp [Ty.law] at h⟩
 | fn a b iha ihb=>exact ⟨fun h=>by simp [Ty.law] at h,fun h=>by simp [Ty.law] at h⟩
 | it a ih=>exact ⟨fun h=>by simp [Ty.law] at h,fun h=>by simp [Ty.law] at h⟩
theorem arg_RV {t:Ty} (hl:t.law=true) {id:TypeId} (ht:TyIs P t id) {base:Nat} {v:Value} {d:DataW H} {ps:List MemPlace} (hok:Value.okWide P w .any base id v)
  (h:DataW.Trod enc P w 0 (fun _=>true) true id v d ps):∃ y,RV P t (AllF w) w v y:=by
 obtain ⟨n,hn⟩:=h
 obtain ⟨y,hy⟩:=(trod_RC t).1 hl ht hn
 refine ⟨y,?_,hy⟩
 cases t with
 | bool=>
  simp only [RC] at hy
  have hu:P.underlying id=some .bool:=by
   unfold TyIs at ht
   simp only [tyChk,Bool.and_eq_true] at ht
   obtain ⟨_,ht⟩:=ht
   split at ht
   ·assumption
   ·cases ht
  simp only [Value.okWide,hu,Cell.okWide,Cell.ok] at hok
  cases v<;>first | rfl | exact hok.elim
 | int k=>
  simp only [Value.okWide,ht.int,Cell.okWide,Cell.ok] at hok
  cases v<;>first | rfl | exact hok.elim
 | str=>
  simp only [Value.okWide,ht.str,Cell.okWide,Cell.ok] at hok
  cases v<;>first | rfl | exact hok.elim
 | unit=>simp [TyIs,tyChk] at ht
 | st t=>
  obtain ⟨fs,hu⟩:=ht.st
  simp only [Value.okWide,hu] at hok
  obtain ⟨cs,rfl,hc,_⟩:=hok
  exact ⟨cs,rfl,hc.trans ht.cells⟩
 | prod a b=>simp [TyIs,tyChk] at ht
 | slice e=>
  obtain ⟨i,hu,_⟩:=ht.sl
  simp only [Value.okWide,hu,Cell.okWide,Cell.ok] at hok
  cases v<;>first | rfl | exact hok.elim
 | array n e=>simp [Ty.law] at hl
 | ptr e=>simp [Ty.law] at hl
 | map k v=>simp [Ty.law] at hl
 | fn a b=>simp [Ty.law] at hl
 | it a=>simp [Ty.law] at hl
def argsChk (P:Program):List TypeId→Ty→Bool
 | [id],t=>tyChk P t (.inl id)&&t.law
 | id::ids,.prod a b=>tyChk P a (.inl id)&&a.law&&argsChk P ids b
 | _,_=>false
theorem args_RC:∀ (ids:List TypeId) (ts:Ty) {base:Nat} {vs:List Value} {ds:List (DataW H)} {ps:List MemPlace},argsChk P ids ts=true→DataW.TrodAll enc P w 0 (fun _=>true) true ids vs ds ps→
  (∀ (j:Nat) t v,ids[j]?=some t→vs[j]?=some v→Value.okWide P w .any base t v)→∃ x,RArgs P ts (AllF w) w vs x
 | [],ts,_,vs,ds,ps,h,_,_=>by simp [argsChk] at h
 | [id],t,_,vs,ds,ps,h,hA,hok=>by
  simp only [argsChk,Bool.and_eq_true] at h
  obtain ⟨v0,vs0,d0,ds0,p0,q0,rfl,rfl,rfl,h0,r0⟩:=trodAll_cons hA
  obtain ⟨rfl,rfl,rfl⟩:=trodAll_nil r0
  obtain ⟨y,hy1,hy2⟩:=arg_RV h.2 h.1 (hok 0 id v0 rfl rfl) h0
  refine ⟨y,?_,by simpa [flat] using hy2⟩
  cases t<;>first | exact ⟨v0,rfl,hy1⟩ | (simp [tyChk] at h;done)
 | id::id2::ids,ts,base,vs,ds,ps,h,hA,hok=>by
  cases ts with
  | prod a b=>
   simp only [argsChk,Bool.and_eq_true] at h
   obtain ⟨v0,vs0,d0,ds0,p0,q0,rfl,rfl,rfl,h0,r0⟩:=trodAll_cons hA
   obtain ⟨y,hy1,hy2⟩:=arg_RV h.1.2 h.1.1 (hok 0 id v0 rfl rfl) h0
   obtain ⟨z,hz1,hz2⟩:=args_RC (id2::ids) b h.2 r0 fun j t v h1 h2=>hok (j+1) t v (by simpa using h1) (by simpa using h2)
   exact ⟨(y,z),⟨hy1,hz1⟩,_,_,flat_cons _ _,hy2,hz2⟩
  | _=>simp [argsChk] at h
theorem trodAll_stays (hl:laidOutB P=true) {w':World} {sp':Nat→Bool}:∀ (ids:List TypeId) {vs:List Value} {ds:List (DataW H)} {ps:List MemPlace},(ids.all fun t=>P.readableRec t&&decide (t<P.types.size))=true→
  DataW.TrodAll enc P w 0 (fun _=>true) true ids vs ds ps→(∀ p∈ps,w.sameAt w' p)→(∀ p∈ps,sp' p.block=true)→DataW.TrodAll enc P w' 0 sp' true ids vs ds ps
 | [],_,_,_,_,h,_,_=>by
  obtain ⟨rfl,rfl,rfl⟩:=trodAll_nil h
  rfl
 | id::ids,vs,ds,ps,hr,h,h1,h2=>by
  simp only [List.all_cons,Bool.and_eq_true,decide_eq_true_eq] at hr
  obtain ⟨v0,vs0,d0,ds0,p0,q0,rfl,rfl,rfl,h0,r0⟩:=trodAll_cons h
  exact trodAll_cons_mk (Go.WideElems.Trod_stays hl hr.1.1 hr.1.2 h0 (fun p hp=>h1 p (List.mem_append_left _ hp)) (fun p hp=>h2 p (List.mem_append_left _ hp)))
   (trodAll_stays hl ids hr.2 r0 (fun p hp=>h1 p (List.mem_append_right _ hp)) (fun p hp=>h2 p (List.mem_append_right _ hp)))
theorem law_contract {k:FuncId} {fn:Func} {ts:Ty} {sh:ts.Den→M (Ty.bool).Den} {spec:ChangeSpec} {rt:TypeId} (hlay:laidOutB P=true) (hspec:FnSpec P k ts .bool sh) (hlaw:∀ x,ts.Ok x→M.Ret (sh x) fun y=>y=true)
  (hargs:argsChk P fn.params.toList ts=true) (hread:(fn.params.toList.all fun t=>P.readableRec t&&decide (t<P.types.size))=true) (hres:fn.resultTypes=#[rt]) (hrt:P.underlying rt=some .bool)
  (hv:spec.vars=[]) (hfn:∀ (H:Type) (ds:List (DataW H)),ds.length=fn.params.size→spec.fn H ds={ results:=[.lit (.bool true)],args:=ds })
  {base:Nat} {args:Array Value} {ds gs:List (DataW H)} {before:List MemPlace} (hval:∀ (j:Nat) t v,fn.params[j]?=some t→args[j]?=some v→Value.okWide P w .any base t v)
  (hW:DataW.Whole enc P fn.params.toList spec.vars false w args.toList ds gs before) :
  Calls P k args w fun e W'=>∃ v,e=.returned v∧spec.post enc P fn false true false false w args v W':=by
 have hlt:=hW.lt
 have hW':=hW
 obtain ⟨p,q,hA,hV,rfl,hfz,_⟩:=hW
 have hq:gs=[]∧q=[]:=by
  rw [hv] at hV
  cases gs with
  | nil=>exact ⟨rfl,hV⟩
  | cons _ _=>exact hV.elim
 obtain ⟨rfl,rfl⟩:=hq
 simp only [List.append_nil] at hW' hlt hfz
 obtain ⟨x,hx⟩:=args_RC fn.params.toList ts hargs hA fun j t v h1 h2=>hval j t v (by simpa using h1) (by simpa using h2)
 obtain ⟨hs,ho⟩:=hlaw x (RC_ok ts hx.2)
 have hdl:ds.length=fn.params.size:=by
  have:∀ (ids:List TypeId) {vs:List Value} {ds:List (DataW H)} {ps:List MemPlace},DataW.TrodAll enc P w 0 (fun _=>true) true ids vs ds ps→ds.length=ids.length:=by
   intro ids
   induction ids with
   | nil=>intro vs ds ps h;obtain ⟨rfl,rfl,rfl⟩:=trodAll_nil h;rfl
   | cons id ids ih=>intro vs ds ps h;obtain ⟨v0,vs0,d0,ds0,p0,q0,rfl,rfl,rfl,h0,r0⟩:=trodAll_cons h;simp [ih r0]
  simpa using this _ hA
 have hc:=hspec.calls (AllF w) w args.toList x (fun _ h=>h) hx hs
 refine hc.mono fun e W' ⟨v,y,he,hy,hr,hb⟩=>?_
 have hy:=ho y hy
 subst hy
 obtain ⟨vs,r1,r2⟩:=hr
 have hvb:v=.bool true:=by
  simp only [ResVal] at r1
  subst r1
  obtain ⟨⟨u,hu,hsh⟩,hrc⟩:=r2
  simp only [List.cons.injEq,and_true] at hu
  subst hu
  simp only [VShape] at hsh
  simp only [flat_cons,hsh,flat_nil,RC] at hrc
  simpa using hrc
 subst hvb
 have hsame:∀ p'∈p,w.sameAt W' p':=by
  intro p' hp
  have h1:=hb.block _ (hlt p' hp)
  cases p' with
  | cell b off=>simp only [World.sameAt,World.cell?];simp only [MemPlace.block] at h1;rw [h1]
  | map b=>exact h1
 refine ⟨_,he,ds,[],p,[],p,[],hW',?_,?_,?_,?_,fun h=>by cases h⟩
 ·rw [List.append_nil,hfn H ds hdl,hres]
  exact trodAll_cons_mk (shut_bool hrt true) trodAll_mk0
 ·rw [List.append_nil,hfn H ds hdl]
  exact trodAll_stays hlay _ hread hA hsame fun p' hp=>by simpa using hlt p' hp
 ·rw [hv,List.append_nil,hfn H ds hdl]
  rfl
 ·refine ⟨hb.os,hb.output,fun i hi=>?_⟩
  have h1:=hb.block i hi
  rw [h1]
  exact (World.keptBut_refl w fun p_1=>p_1∈p∧(p_1∈[]∨p_1∈p∨p_1∈[])).2.2 i hi
end
end Go.Fer
namespace Go.Fer.Sk
open Go.Proofs
abbrev t3:Ty:=.int .i64
abbrev t4:Ty:=.bool
abbrev t5:Ty:=.int .u8
abbrev t2:Ty:=.int .i64
abbrev t6:Ty:=.int .u8
abbrev t8:Ty:=.st (.prod t2 (.prod t3 (.prod t4 t6)))
abbrev t9:Ty:=.str
abbrev t10:Ty:=.str
abbrev t11:Ty:=.str
abbrev t42:Ty:=.st (.prod t3 t3)
abbrev t22:Ty:=.slice t42
abbrev t39:Ty:=.st (.prod t3 (.prod t3 (.prod t3 (.prod t3 (.prod t3 t3)))))
abbrev t23:Ty:=.slice t39
abbrev t24:Ty:=.slice t3
abbrev t26:Ty:=.st (.prod t3 (.prod t3 (.prod t3 (.prod t3 (.prod t3 (.prod t3 t3))))))
abbrev t28:Ty:=.st (.prod t22 (.prod t23 (.prod t24 (.prod t22 t26))))
abbrev t30:Ty:=.st (.prod t3 (.prod t3 (.prod t3 (.prod t3 t3))))
abbrev t32:Ty:=.fn t3 t4
abbrev t34:Ty:=.int .i64
abbrev t49:Ty:=.st (.prod t3 (.prod t3 t3))
abbrev t59:Ty:=.st (.prod t3 (.prod t3 t3))
abbrev t62:Ty:=.st (.prod t23 t24)
abbrev t67:Ty:=.st (.prod t3 t3)
abbrev t82:Ty:=.st (.prod t39 t3)
abbrev t93:Ty:=.slice t82
abbrev t94:Ty:=.array 10 t93
abbrev t103:Ty:=.st (.prod t24 t94)
abbrev t80:Ty:=.ptr t103
abbrev t77:Ty:=.slice t80
abbrev t79:Ty:=.st (.prod t28 (.prod t23 t77))
abbrev t71:Ty:=.ptr t79
abbrev t75:Ty:=.fn t71 t4
abbrev t76:Ty:=.map t3 t3
abbrev t86:Ty:=.it t3
abbrev t87:Ty:=.it t3
abbrev t90:Ty:=.fn t3 t3
abbrev t95:Ty:=.fn t80 (.prod t3 t4)
abbrev t123:Ty:=.fn (.prod t39 t3) t4
abbrev t97:Ty:=.it (.prod t39 t3)
abbrev t104:Ty:=.slice t24
abbrev t119:Ty:=.fn t39 t4
abbrev t127:Ty:=.map t3 t39
abbrev t135:Ty:=.st (.prod t39 t3)
abbrev t131:Ty:=.slice t135
abbrev t136:Ty:=.slice t23
abbrev t141:Ty:=.int .u64
abbrev t150:Ty:=.int .i64
abbrev t158:Ty:=.int .u32
abbrev t160:Ty:=.int .u64
abbrev t163:Ty:=.fn (.prod t82 t82) t3
abbrev t164:Ty:=.int .u64
abbrev t168:Ty:=.ptr t3
abbrev t171:Ty:=.ptr t164
def tab:List (Nat×Ty):=[(3,t3),(4,t4),(5,t5),(8,t8),(9,t9),(10,t10),(11,t11),(22,t22),(23,t23),(24,t24),(26,t26),(28,t28),(30,t30),(32,t32),(34,t34),(39,t39),(42,t42),(49,t49),(59,t59),(62,t62),(67,t67),(71,t71),(75,t75),(76,t76),(77,t77),(79,t79),(80,t80),(82,t82),(86,t86),(87,t87),(90,t90),(93,t93),(94,t94),(95,t95),(97,t97),(103,t103),(104,t104),(119,t119),(123,t123),(127,t127),(131,t131),(135,t135),(136,t136),(141,t141),(150,t150),(158,t158),(160,t160),(163,t163),(164,t164),(168,t168),(171,t171)]
theorem tabOk:TabOk Tryz.prog (tabT tab):=tabT_ok (by kernel_rfl)
theorem mixOk:Tryz.prog.follows .mixedOrders=true:=by kernel_rfl
def noPhi (_:Nat):Option FC:=none
theorem noPhi_ok:CtrOk Tryz.prog noPhi:=fun k c h=>by cases h
def noU:FnTab:={ fnv:=fun _=>none,clv:=fun _=>none }
theorem noU_ok:FnTabOk Tryz.prog noU where
 fnv:=fun k v h=>by cases h
 clv:=fun k v h=>by cases h
end Go.Fer.Sk
namespace Go.Fer
theorem M.le_req {α:Type} {p:Prop} {m n:M α} (h:n.safe→p) (k:M.le m n):M.le (M.req p m) n:=fun hs=>⟨⟨h hs,(k hs).1⟩,(k hs).2⟩
theorem isSome_of {α:Type} {o:Option α} {x:α} (h:o=some x):o.isSome=true:=by rw [h];rfl
def capsAll (ts:Ty) (x:ts.Den) (n:Nat):Nat→Prop
 | 0=>True
 | k+1=>capsAll ts x n k∧ptrPre (resAV ts x (n+k))
theorem capsAll_get {ts:Ty} {x:ts.Den} {n:Nat}:∀ {k:Nat},capsAll ts x n k→∀ i,i<k→ptrPre (resAV ts x (n+i))
 | 0,_,i,h=>by omega
 | k+1,hc,i,h=>by
  by_cases e:i=k
  ·rw [e];exact hc.2
  ·exact capsAll_get hc.1 i (by omega)
theorem look_par (ts:Ty) (x:ts.Den):∀ (l:List Nat) (i:Nat),look (l.map fun i=>(i,resAV ts x i)) i=if i∈l then resAV ts x i else .undef
 | [],i=>by simp [look]
 | j::l,i=>by
  simp only [List.map_cons,look]
  by_cases e:i=j
  ·subst e;simp
  ·rw [if_neg e,look_par ts x l i];simp [e]
theorem caps_pre {ts:Ty} {x:ts.Den} {n:Nat} (h:capsAll ts x n (parN ts - n)):capsPre n (parSt ts x):=fun i hi=>by
 show ptrPre (look (parL ts x (parN ts)) i)
 unfold parL
 rw [look_par]
 split
 ·rename_i hm
  rw [List.mem_range] at hm
  have hn:¬i<n:=fun h=>hi (.inl h)
  have:=capsAll_get h (i - n) (by omega)
  rwa [show n+(i - n)=i by omega] at this
 ·trivial
end Go.Fer
namespace Go.Fer
open Go.RowKit
abbrev tIS:Ty:=.int .i64
def shSortN (x:List Int×Unit):M (List Int×Unit):=M.det (x.1.length<4611686018427387904) (x.1.mergeSort (fun a b=>decide (a≤b)),())
def iocSort:IOC:=⟨⟨[(0,.own 200001)],[(200001,.arr tIS)]⟩,⟨[],[(200001,.arr tIS)]⟩,[],1,shSortN⟩
section
variable {P:Program} {F:Nat→Prop} {w:World}
theorem row_ints {cs:Array Value} {off:Nat} {xs:List Int} (h:RowIs P tIS F w cs off xs) {i:Nat} (hi:i<xs.length):cs[off+i]?=some (.int .i64 xs[i])∧InR .i64 xs[i]:=by
 obtain ⟨ds,h1,h2,h3⟩:=h i hi
 subst h2
 have:=h1 0 (by simp)
 refine ⟨?_,h3⟩
 have e:off+i*Ty.size tIS+0=off+i:=by show off+i*1+0=off+i;omega
 rw [e] at this
 exact this
theorem ints_row {cs:Array Value} {off:Nat} {xs:List Int} (h:∀ i (h:i<xs.length),cs[off+i]?=some (.int .i64 xs[i])∧InR .i64 xs[i]):RowIs P tIS F w cs off xs:=fun i hi=>by
 obtain ⟨h1,h2⟩:=h i hi
 refine ⟨[.int .i64 xs[i]],fun j hj=>?_,rfl,h2⟩
 have hj:j=0:=by simpa using hj
 subst hj
 have e:off+i*Ty.size tIS+0=off+i:=by show off+i*1+0=off+i;omega
 rw [e]
 exact h1
theorem holds_ints {cs:Array Value} {T:TypeId} {b off:Nat} {xs:List Int} (hb:w.heap[b]?=some (.cells cs T (0,0))) (h:RowIs P tIS F w cs off xs):Go.Sort.Holds (Value.int .i64) w b off xs.toArray:=fun j hj=>by
 have hj':j<xs.length:=by simpa using hj
 obtain ⟨h1,_⟩:=row_ints h hj'
 refine ⟨?_,by simp [World.frozen?,hb]⟩
 simp only [World.cell?,hb]
 simp only [Option.isSome_none,Bool.false_eq_true,if_false]
 rw [h1]
 simp [hj']
theorem put_row {cs:Array Value} {off:Nat} {xs ys:List Int} (hl:ys.length=xs.length) (hin:∀ y∈ys,InR .i64 y) (hsz:off+xs.length≤cs.size):RowIs P tIS F w (Go.Sort.putCells (Value.int .i64) off ys.toArray cs) off ys:=by
 refine ints_row fun i hi=>⟨?_,hin _ (List.getElem_mem hi)⟩
 have h1:off+i<cs.size:=by omega
 simp [Go.Sort.putCells,h1,hi]
end
section
variable {P:Program} {U:FnTab}
theorem sort_io {k:FuncId} (he:∀ args w,(callFunc k args).run P w=.ok (.enter k args) w)
  (h1:∀ (blk off cap:Nat) (zs:List Int) (w:World),Go.Sort.Holds (Value.int .i64) w blk off zs.toArray→blk<w.heap.size→zs.length<4611686018427387904→Calls P k #[.slice (some ⟨blk,off,none⟩) zs.length cap] w fun e w'=>
   e=.returned (.tuple #[])∧∃ n os,w'=Go.Sort.grow (Go.Sort.putRow (Value.int .i64) (Go.Sort.ahead w n) blk off (zs.mergeSort fun x y=>decide (x≤y)).toArray) os)
  (h0:∀ (p:Option Addr) (cap:Nat) (w:World),Calls P k #[.slice p 0 cap] w fun e w'=>e=.returned (.tuple #[])∧w'=w):IoSpec P U k iocSort where
 enter:=he
 calls C a w κ F σ hP hw0 hr hd hnt hft h hs:=by
  obtain ⟨xs,u⟩:=σ
  have hlen:xs.length<4611686018427387904:=hs
  have hsz:a.tmps.size=1:=h.tsz.trans hnt
  have hslot:=h.slots 0
  have hb:=h.blks 200001
  change HBody C.P _ κ F w (κ 200001) (.arr tIS xs) at hb
  have hv:a.tmps.getD 0 undef=(κ 200001).slice xs.length:=hslot.2 rfl rfl
  have ha:a.tmps=#[(κ 200001).slice xs.length]:=by
   apply Array.ext (by simp [hsz])
   intro i hi hi'
   have:i=0:=by omega
   subst this
   rw [←hv]
   simp [Array.getD,hsz]
  have hout:∀ τ,τ=((xs.mergeSort (fun x y=>decide (x≤y)),()):List Int×Unit)→(iocSort.sh (xs,u)).out τ:=fun τ e=>e
  have hfin:∀ {w':World} {F':Nat→Prop} {ys:List Int},RelK C (AState.mk (iocSort.sin.st (xs,u)).slot fun i=>if i=200001 then ⟨0,.arr tIS ys⟩ else (iocSort.sin.st (xs,u)).blk i) a w' κ F'→RelK { C with nt:=0 } (iocSort.out.st (ys,())) { tmps:=#[],defers:=[] } w' κ F':=fun {w' F' ys} hR=>by
   have e:(iocSort.out.st (ys,())).blk=fun i=>if i=200001 then (⟨0,.arr tIS ys⟩:ABlk) else (iocSort.sin.st (xs,u)).blk i:=by
    funext i
    show lookB [(200001,Body.arr tIS ys)] i=if i=200001 then _ else lookB [(200001,Body.arr tIS xs)] i
    simp only [lookB]
    by_cases hi:i=200001
    ·rw [if_pos hi,if_pos hi]
    ·rw [if_neg hi,if_neg hi,if_neg hi]
   refine { tsz:=rfl,dfr:=hd.symm,slots:=fun i=>trivial,blks:=fun b=>?_,own:=fun b=>?_,inj:=fun b b'=>?_,fsz:=hR.fsz,flo:=hR.flo,fhi:=hR.fhi,ksz:=hR.ksz,keep:=hR.keep,size:=hR.size,calm:=hR.calm,nsz:=Nat.zero_le _,aran:=hR.aran,anch:=fun b r=>?_,ara:=hR.ara,anA:=fun b k=>?_,pro:=fun l A L n st e=>(by cases e),ftok:=hR.ftok }
   ·rw [e];exact hR.blks b
   ·rw [e];exact hR.own b
   ·rw [e];exact hR.inj b b'
   ·rw [e];exact hR.anch b r
   ·rw [e];exact hR.anA b k
  subst hP
  rw [ha]
  by_cases hn:(κ 200001).isNil=true
  ·have hx:xs=[]:=hb.1 hn
   subst hx
   have hv2:(κ 200001).slice 0=.slice none 0 0:=by simp [KB.slice,hn]
   rw [show ([]:List Int).length=0 from rfl,hv2]
   refine (h0 none 0 w).mono ?_
   rintro e w' ⟨rfl,rfl⟩
   refine ⟨_,([],()),[],κ,F,rfl,hout _ (congrArg (fun l=>(l,())) List.mergeSort_nil.symm),⟨[],rfl,rfl,rfl⟩,hfin ?_⟩
   have e:(fun i=>if i=200001 then (⟨0,.arr tIS []⟩:ABlk) else (iocSort.sin.st ([],u)).blk i)=(iocSort.sin.st ([],u)).blk:=by
    funext i
    by_cases hi:i=200001
    ·subst hi;rfl
    ·rw [if_neg hi]
   rw [e]
   exact h
  ·have hn:(κ 200001).isNil=false:=by simpa using hn
   obtain ⟨cs,T,b1,b2,b3,b4,b5⟩:=hb.2 hn
   have hown:((iocSort.sin.st (xs,u)).blk 200001).body.owned (κ 200001)=true:=by show (!(κ 200001).isNil)=true;rw [hn];rfl
   have ho:=h.own 200001 hown
   have hv2:(κ 200001).slice xs.length=.slice (some ⟨(κ 200001).blk,(κ 200001).off,none⟩) xs.length (κ 200001).cap:=by simp [KB.slice,hn]
   rw [hv2]
   refine (h1 (κ 200001).blk (κ 200001).off (κ 200001).cap xs w (holds_ints b1 b5) ho.1 hlen).mono ?_
   rintro e w' ⟨rfl,n,os,rfl⟩
   have hp:(xs.mergeSort fun x y=>decide (x≤y)).Perm xs:=List.mergeSort_perm _ _
   generalize hys:(xs.mergeSort fun x y=>decide (x≤y))=ys at hp hout
   have hyl:ys.length=xs.length:=hp.length_eq
   have hoff:(κ 200001).off+xs.length≤cs.size:=by
    have:(κ 200001).cap*Ty.size tIS=(κ 200001).cap:=Nat.mul_one _
    omega
   have hin:∀ y∈ys,InR .i64 y:=fun y hy=>by
    have:=hp.mem_iff.1 hy
    obtain ⟨i,hi,rfl⟩:=List.getElem_of_mem this
    exact (row_ints b5 hi).2
   have hheap:(Go.Sort.putRow (Value.int .i64) (Go.Sort.ahead w n) (κ 200001).blk (κ 200001).off ys.toArray).heap[(κ 200001).blk]?=some (.cells (Go.Sort.putCells (Value.int .i64) (κ 200001).off ys.toArray cs) T (0,0)):=by
    simp [Go.Sort.putRow,Go.Sort.mapBlock,Go.Sort.ahead,Array.getElem?_modify,b1,Go.Sort.onCells]
   have hW:RelK C ((iocSort.sin.st (xs,u)).setB 200001 ⟨0,.arr tIS ys⟩) a (Go.Sort.putRow (Value.int .i64) (Go.Sort.ahead w n) (κ 200001).blk (κ 200001).off ys.toArray) κ F:=by
    refine h.write (b:=200001) (x:=⟨0,.arr tIS ys⟩) hown ?_ ?_ nofun nofun (fun r hr=>?_) (by simp [Go.Sort.putRow,Go.Sort.mapBlock,Go.Sort.ahead]) ⟨rfl,rfl,rfl⟩ (fun H hH hL hE=>⟨fun hc=>absurd (hn.symm.trans hc) nofun,fun _=>?_⟩)
    ·show (!(κ 200001).isNil)=true;rw [hn];rfl
    ·intro b
     by_cases hb:b=200001
     ·subst hb
      exact ⟨Nat.le_refl _,fun _=>⟨nofun,fun _=>⟨rfl,rfl,hyl,rfl⟩,nofun,nofun⟩⟩
     ·show Later1 _ (if b=200001 then _ else _) _ _
      rw [if_neg hb]
      exact Later1.refl _ _
    ·simp [Go.Sort.putRow,Go.Sort.mapBlock,Go.Sort.ahead,Array.getElem?_modify,Ne.symm hr]
    ·refine ⟨_,T,hheap,?_,?_,b4,put_row hyl hin hoff⟩
     ·simpa [Go.Sort.putCells] using b2
     ·show ys.length≤_
      omega
   refine ⟨_,(ys,()),[],κ,_,rfl,hout _ rfl,⟨[],rfl,rfl,rfl⟩,hfin (hW.grow ?_)⟩
   refine ⟨rfl,rfl,rfl,by simp [Go.Sort.grow],fun k hk=>?_⟩
   simp only [Go.Sort.grow]
   rw [Array.getElem?_append_left hk]
end
end Go.Fer
namespace Go.Fer
open Go.RowKit
def shGrow (e:Ty) (x:Int×Unit):M (List e.Den×Unit):=M.det (0≤x.1∧x.1<60000) ([],())
def iocGrow (e:Ty):IOC:=⟨⟨[(0,.nils),(1,.val (.int .i64))],[]⟩,⟨[(0,.own 50000)],[(50000,.arr e)]⟩,[none],2,shGrow e⟩
section
variable {P:Program} {U:FnTab} {e:Ty}
theorem grow_out {C:Ctx} {a:Act} {w w':World} {κ:Nat→KB} {F:Nat→Prop} {σ:(iocGrow e).sin.Den} (h:RelK C ((iocGrow e).sin.st σ) a w κ F) (hd:C.dfr=[]) {kb:KB} {v:Value}
  (hv:v=kb.slice 0) (hsz:w.heap.size≤w'.heap.size) (hw:∀ r,r<w.heap.size→w'.heap[r]?=w.heap[r]?) (hc:Calm w w') (hnew:kb.isNil=false→kb.blk=w.heap.size∧w.heap.size<w'.heap.size)
  (hB:kb.isNil=false→∃ cs T,w'.heap[kb.blk]?=some (.cells cs T (0,0))∧kb.off+kb.cap*e.size≤cs.size∧kb.cap<2 ^ 63) :
  RelK { C with nt:=1 } ((iocGrow e).out.st ([],())) { tmps:=#[v],defers:=[] } w' (fun i=>if i=50000 then kb else κ i) F:=by
 have hb:∀ b,((iocGrow e).out.st ([],())).blk b=if b=50000 then ⟨0,.arr e []⟩ else ⟨0,.dead⟩:=fun b=>rfl
 have ha:∀ b,b≠50000→((iocGrow e).out.st ([],())).blk b=⟨0,.dead⟩:=fun b hn=>by rw [hb,if_neg hn]
 have h5:((iocGrow e).out.st ([],())).blk 50000=⟨0,.arr e []⟩:=rfl
 have hown:∀ b,(((iocGrow e).out.st ([],())).blk b).body.owned (if b=50000 then kb else κ b)=true→b=50000∧kb.isNil=false:=fun b ho=>by
  by_cases e:b=50000
  ·subst e
   rw [h5,if_pos rfl] at ho
   exact ⟨rfl,by simpa [Body.owned] using ho⟩
  ·rw [ha b e] at ho
   cases ho
 refine { tsz:=rfl,dfr:=hd.symm,slots:=fun i=>?_,blks:=fun b=>?_,own:=fun b ho=>?_,inj:=fun b b' h1 h2 _=>?_,fsz:=fun r hr=>Nat.lt_of_lt_of_le (h.fsz r hr) hsz,flo:=h.flo,fhi:=h.fhi,ksz:=h.ksz,keep:=fun r hr=>?_,size:=Nat.le_trans h.size hsz,calm:=h.calm.trans hc,nsz:=(by unfold TMAX;exact (by decide:1≤100000)),aran:=h.aran,anch:=fun b r hr hcm=>?_,ara:=h.ara,anA:=fun b k hk _ hi=>?_,pro:=fun l A L n st e=>(by cases e),ftok:=h.ftok }
 ·by_cases hi:i=0
  ·subst hi
   refine ⟨⟨Nat.le_refl _,?_⟩,fun _ _=>?_⟩
   ·show v.oneCell'=true
    rw [hv]
    unfold KB.slice
    split<;>rfl
   ·show v=_
    rw [hv]
    show kb.slice 0=(if (50000:Nat)=50000 then kb else κ 50000).slice 0
    rw [if_pos rfl]
  ·have:((iocGrow e).out.st ([],())).slot i=.undef:=by
    show look [(0,AV.own 50000 0)] i=.undef
    simp [look,hi]
   rw [this]
   trivial
 ·unfold HB
  by_cases e1:b=50000
  ·subst e1
   rw [h5]
   show HBody _ _ _ _ _ (if (50000:Nat)=50000 then kb else κ 50000) (.arr e [])
   rw [if_pos rfl]
   refine ⟨fun _=>rfl,fun hn=>?_⟩
   obtain ⟨cs,T,h1,h2,h3⟩:=hB hn
   exact ⟨cs,T,h1,h2,Nat.zero_le _,h3,fun i hi=>absurd hi (Nat.not_lt_zero _)⟩
  ·rw [ha b e1]
   trivial
 ·obtain ⟨rfl,hn⟩:=hown b ho
  obtain ⟨h1,h2⟩:=hnew hn
  rw [if_pos rfl,h1]
  refine ⟨h2,fun hf=>?_,fun hk=>?_⟩
  ·have:=h.fsz _ hf;omega
  ·have:=h.ksz _ hk;have:=h.size;omega
 ·rw [(hown b h1).1,(hown b' h2).1]
 ·have h1:=h.ksz r hr
  rw [hw r (Nat.lt_of_lt_of_le h1 h.size)]
  exact h.keep r hr
 ·by_cases e1:b=50000
  ·subst e1
   rw [h5] at hcm
   rcases hcm with h | h<;>cases h
  ·rw [ha b e1] at hcm
   rcases hcm with h | h<;>cases h
 ·by_cases e1:b=50000
  ·subst e1
   have:=h.ara _ _ hk
   unfold KEEPB at this
   omega
  ·rw [ha b e1] at hi
   cases hi
theorem grow_io {k:FuncId} (he:∀ args w,(callFunc k args).run P w=.ok (.enter k args) w)
  (h0:∀ w:World,Calls P k #[.slice none 0 0,.int .i64 0] w fun e w'=>e=.returned (.slice none 0 0)∧w'=w)
  (h1:∀ (n:Nat) (w:World),0<n→n<60000→Calls P k #[.slice none 0 0,.int .i64 (n:Int)] w fun y w'=>∃ (G:Nat) (T:TypeId) (cs:Array Value),y=.returned (.slice (some ⟨w.heap.size,0,none⟩) 0 G)∧
   w'=w.drew.alloc (.cells cs T)∧G<2 ^ 63∧G*e.size≤cs.size):IoSpec P U k (iocGrow e) where
 enter:=he
 calls C a w κ F σ hP hw0 hr hd hnt hft h hs:=by
  obtain ⟨n,u⟩:=σ
  change Int at n
  obtain ⟨hn0,hn1⟩:0≤n∧n<60000:=hs
  have hsz:a.tmps.size=2:=h.tsz.trans hnt
  have hv0:a.tmps.getD 0 undef=.slice none 0 0:=h.slots 0
  have hv1:a.tmps.getD 1 undef=.int .i64 n:=(RV_int.1 (h.slots 1)).1
  have ha:a.tmps=#[.slice none 0 0,.int .i64 n]:=by
   apply Array.ext (by simp [hsz])
   intro i hi hi'
   have:i=0∨i=1:=by omega
   rcases this with rfl | rfl
   ·rw [←hv0];simp [Array.getD,hsz]
   ·rw [←hv1];simp [Array.getD,hsz]
  subst hP
  rw [ha]
  by_cases hz:n=0
  ·subst hz
   refine (h0 w).mono ?_
   rintro y w' ⟨rfl,rfl⟩
   refine ⟨_,([],()),[.slice none 0 0],_,F,rfl,rfl,⟨[.slice none 0 0],rfl,rfl,[],rfl,rfl⟩,grow_out h hd (kb:=⟨0,0,0,true⟩) rfl (Nat.le_refl _) (fun _ _=>rfl) (Calm.refl _) nofun nofun⟩
  ·obtain ⟨m,rfl⟩:∃ m:Nat,n=m:=⟨n.toNat,by omega⟩
   refine (h1 m w (by omega) (by omega)).mono ?_
   rintro y w' ⟨G,T,cs,rfl,rfl,hG,hcs⟩
   refine ⟨_,([],()),[.slice (some ⟨w.heap.size,0,none⟩) 0 G],_,F,rfl,rfl,⟨[_],rfl,rfl,[],rfl,rfl⟩,grow_out h hd (kb:=⟨w.heap.size,0,G,false⟩) rfl (by simp) (fun r hr=>?_) ⟨rfl,rfl,rfl⟩ (fun _=>⟨rfl,by simp⟩) (fun _=>⟨cs,T,?_,by simpa using hcs,hG⟩)⟩
   ·exact heap_alloc_lt w.drew _ hr
   ·show (w.drew.heap.push _)[w.heap.size]?=_
    exact Array.getElem?_push_size
theorem grow_laid0 {ρ:Go.Shelf.Ren} (L:Go.Proofs.Lays8.n4 P ρ) (w:World):Calls P (ρ.f 4) #[.slice none 0 0,.int .i64 0] w fun e w'=>e=.returned (.slice none 0 0)∧w'=w:=
 Go.Proofs.Any8.slices_Grow_room L none 0 0 0 w (Nat.le_refl _) (by decide) (by decide) (Nat.le_refl _)
theorem grow_laid {ρ:Go.Shelf.Ren} (L:Go.Proofs.Lays8.n4 P ρ) (ht:TyIs P e (ρ.t 25)) (hs:e.size≠0) (n:Nat) (w:World) (h0:0<n) (h1:n<60000) :
  Calls P (ρ.f 4) #[.slice none 0 0,.int .i64 (n:Int)] w fun y w'=>∃ (G:Nat) (T:TypeId) (cs:Array Value),y=.returned (.slice (some ⟨w.heap.size,0,none⟩) 0 G)∧w'=w.drew.alloc (.cells cs T)∧G<2 ^ 63∧G*e.size≤cs.size:=by
 obtain ⟨i0,z,hi0,hsz,hb,hz0,hzr,_⟩:=infoOk_out ht.info
 have hs0:0<i0.size:=by omega
 have hzs:=(nthAV_zeros_len (P:=P) e hzr).2
 refine (Go.Proofs.Any8.slices_Grow_grow L i0 z hi0 hz0 hs0 none 0 0 n [] w (Nat.le_refl _) (by omega) ?_ (by omega) (by simp) (fun _=>rfl) nofun).mono ?_
 ·have:(0+n)*i0.bytes≤(0+n)*1024:=Nat.mul_le_mul_left _ hb
  omega
 ·rintro y w' ⟨rfl,rfl⟩
  refine ⟨_,_,_,rfl,rfl,?_,?_⟩
  ·have:=grownCap_le_maxLen w (0+n) 0 (ρ.t 25) (by unfold maxLen;omega)
   unfold maxLen at this
   omega
  ·have:=grownCap_ge w (0+n) 0 (ρ.t 25)
   generalize grownCap w (0+n) 0 (ρ.t 25)=G at this
   simp only [Array.size_append,size_zeroCells,hzs]
   have e1:(0+n - 0)*e.size+(G - (0+n))*e.size=G*e.size:=by rw [←Nat.add_mul];congr 1;omega
   have e2:(#[]:Array Value).size=0:=rfl
   omega
end
end Go.Fer
namespace Go.Fer
open M (Step)
set_option linter.unusedVariables false
set_option linter.unusedSimpArgs false
theorem wrap64 {n:Int} (h1:-9223372036854775808≤n) (h2:n<9223372036854775808):IntKind.i64.wrap n=n:=by
 show (if (true&&decide (n % 2 ^ 64≥(2 ^ (64 - 1):Int)))=true then n % 2 ^ 64 - 2 ^ 64 else n % 2 ^ 64)=n
 have e1:(2:Int) ^ 64=18446744073709551616:=by decide
 have e2:(2:Int) ^ (64 - 1)=9223372036854775808:=by decide
 simp only [Bool.true_and,decide_eq_true_eq,e1,e2]
 split<;>omega
theorem add_def (a b:Int):Add.add a b=a+b:=rfl
theorem add_defN (a b:Nat):Add.add a b=a+b:=rfl
theorem append_def {α:Type} (a b:List α):Append.append a b=a++b:=rfl
theorem ofNat_def (n:Nat):Int.ofNat n=(n:Int):=rfl
theorem or_gdo {x c d:Bool}:(x||!(if (!x)=true then c else d))=(x||!c):=by cases x<;>rfl
theorem or_gdo2 {x c d:Bool}:(x||(if (!x)=true then c else d))=(x||c):=by cases x<;>rfl
theorem and_gdo {x c d:Bool}:(x&&(if x=true then c else d))=(x&&c):=by cases x<;>rfl
namespace M
variable {α β γ σ ρ:Type}
theorem le_det {m:M α} {p:Prop} {v:α} (h:p→m=pure v):le m (det p v):=fun hp=>by
 rw [h hp];exact ⟨trivial,fun _ hy=>hy⟩
theorem le_detR {m:M α} {p:Prop} {v:α} (h:p→Ret m fun y=>y=v):le m (det p v):=fun hp=>h hp
theorem val_det {p:Prop} {v d:α}:(det p v).val d=v:=by
 unfold val
 have h:∃ x,(det p v).out x:=⟨v,rfl⟩
 rw [dif_pos h]
 exact h.choose_spec
theorem val_pure {v d:α}:(pure v).val d=v:=val_det (p:=True)
theorem safe_det {p:Prop} {v:α}:(det p v).safe=p:=rfl
theorem det_det {p:Prop} {v:α}:(det p v).Det:=fun _ _ h k=>h.trans k.symm
theorem gdo_det {g:Bool} {p:Prop} {v d:α}:gdo g (det p v) d=det (g=true→p) (if g=true then v else d):=by
 cases g
 ·exact (det_true (by simp) _).symm
 ·simp [gdo]
theorem gdo_pure {g:Bool} {v d:α}:gdo g (pure v) d=pure (if g=true then v else d):=by cases g<;>rfl
theorem go_next {f:σ→M β} {x:σ}:Step.go f (.next x:Step σ β)=f x:=rfl
theorem go_done {f:σ→M β} {r:β}:Step.go f (.done r:Step σ β)=pure r:=rfl
end M
def foldS {α β ρ:Type} (f:α→β→Step β ρ) (fin:β→ρ):List α→β→ρ
 | [],b=>fin b
 | x::l,b=>match f x b with
  | .next b'=>foldS f fin l b'
  | .done r=>r
def Step.mapN {σ β ρ:Type} (g:β→σ):Step β ρ→Step σ ρ
 | .next b=>.next (g b)
 | .done r=>.done r
theorem M.loop_list {α β σ ρ:Type} {body:σ→M (Step σ ρ)} {s0:σ} (l:List α) (mk:Nat→β→σ) (f:α→β→Step β ρ) (fin:β→ρ) (I:Nat→β→Prop) (b:β) (hs0:s0=mk 0 b) (h0:I 0 b)
  (hs:∀ i (h:i<l.length) b,I i b→body (mk i b)=M.pure (Step.mapN (mk (i+1)) (f l[i] b))∧∀ b',f l[i] b=.next b'→I (i+1) b')
  (hf:∀ b,I l.length b→body (mk l.length b)=M.pure (.done (fin b))):M.loop body s0=M.pure (foldS f fin l b):=by
 subst hs0
 have key:∀ (k:Nat) (r:List α) (b:β),k≤l.length→r=l.drop k→I k b→M.loop body (mk k b)=M.pure (foldS f fin r b):=by
  intro k r
  induction r generalizing k with
  | nil=>
   intro b hk hr hI
   have:k=l.length:=by have:=congrArg List.length hr;simp at this;omega
   subst this
   exact M.loop_done (hf b hI)
  | cons x r ih=>
   intro b hk hr hI
   have hlt:k<l.length:=by
    rcases Nat.lt_or_ge k l.length with h | h
    ·exact h
    ·rw [List.drop_eq_nil_of_le h] at hr;cases hr
   rw [List.drop_eq_getElem_cons hlt] at hr
   injection hr with hx hr
   obtain ⟨h1,h2⟩:=hs k hlt b hI
   rw [←hx] at h1 h2
   simp only [foldS]
   cases hf':f x b with
   | next b'=>
    rw [hf'] at h1
    rw [M.loop_next h1]
    exact ih (k+1) b' hlt hr (h2 b' hf')
   | done r'=>
    rw [hf'] at h1
    exact M.loop_done h1
 exact key 0 l b (Nat.zero_le _) rfl h0
theorem M.loop_listT {α β σ ρ:Type} {body:σ→M (Step σ ρ)} {s0:σ} (l:List α) (mk:Nat→β→σ) (f:α→β→Step β ρ) (fin:β→ρ) (b:β) (hs0:s0=mk 0 b)
  (hs:∀ i (h:i<l.length) b,body (mk i b)=M.pure (Step.mapN (mk (i+1)) (f l[i] b)))
  (hf:∀ b,body (mk l.length b)=M.pure (.done (fin b))):M.loop body s0=M.pure (foldS f fin l b):=
 M.loop_list l mk f fin (fun _ _=>True) b hs0 trivial (fun i h b _=>⟨hs i h b,fun _ _=>trivial⟩) fun b _=>hf b
section
variable {α β ρ:Type}
theorem foldS_any {p:α→Bool} {r:ρ} {fin:β→ρ}:∀ (l:List α) (b:β),foldS (fun x b=>if p x=true then .done r else .next b) fin l b=if l.any p=true then r else fin b
 | [],b=>by simp [foldS]
 | x::l,b=>by
  simp only [foldS,List.any_cons,Bool.or_eq_true]
  by_cases h:p x=true
  ·simp [h]
  ·have h:p x=false:=by simpa using h
   simp only [h,Bool.false_eq_true,if_false,false_or];exact foldS_any l b
theorem foldS_next {h:β→α→β} {fin:β→ρ}:∀ (l:List α) (b:β),foldS (fun x b=>.next (h b x)) fin l b=fin (l.foldl h b)
 | [],b=>rfl
 | x::l,b=>by simp only [foldS,List.foldl_cons];exact foldS_next l (h b x)
theorem foldl_map_app {γ:Type} {g:α→γ}:∀ (l:List α) (b:List γ),l.foldl (fun b x=>b++[g x]) b=b++l.map g
 | [],b=>by simp
 | x::l,b=>by simp only [List.foldl_cons,List.map_cons];rw [foldl_map_app l];simp
end
theorem any_not {α:Type} {p q:α→Bool} (h:∀ x,p x=!q x) (l:List α):l.any p=!l.all q:=by
 rw [show p=fun x=>!q x from funext h,List.not_all_eq_any_not]
theorem foldS_anyN {α β ρ:Type} {p q:α→Bool} {r:ρ} {fin:β→ρ} (l:List α) (b:β) (h:∀ x,p x=!q x):foldS (fun x b=>if p x=true then .done r else .next b) fin l b=if l.all q=true then fin b else r:=by
 rw [foldS_any,any_not h]
 cases l.all q<;>rfl
theorem fin_step {σ β ρ:Type} {c:Bool} {mk:β→σ} {b:β} {r:ρ}:(if c=true then M.pure (Step.done r) else M.pure (Step.next (mk b)))=M.pure (Step.mapN mk (if c=true then .done r else .next b)):=by cases c<;>rfl
theorem fin_step2 {σ β ρ:Type} {c:Bool} {mk:β→σ} {b:β} {r:ρ}:(if c=true then M.pure (Step.done r) else M.pure (Step.next (mk b)))=M.pure (Step.mapN mk (if c=true then .done r else .next b)):=by cases c<;>rfl
theorem lt_len {l:Nat} {i:Nat} (h:i<l):decide ((i:Int)<(l:Int))=true:=by simpa using h
theorem in_len {l:Nat} {i:Nat} (h:i<l):((0:Int)≤(i:Int)∧(i:Int)<(l:Int))=True:=by simp;omega
theorem getD_nat {α:Type} {l:List α} {i:Nat} {d:α} (h:i<l.length):l.getD (Int.toNat (i:Int)) d=l[i]:=by
 simp [List.getD_eq_getElem?_getD,h]
theorem getD_mem {α:Type} {l:List α} {i:Int} {d:α} (h0:0≤i) (h:i<(l.length:Int)):l.getD i.toNat d∈l:=by
 have:i.toNat<l.length:=by omega
 simp [List.getD_eq_getElem?_getD,this]
def intR (a b:Int):List Int:=(List.range (b - a+1).toNat).map fun (i:Nat)=>a+(i:Int)
theorem intR_length (a b:Int):(intR a b).length=(b - a+1).toNat:=by simp [intR]
theorem intR_get {a b:Int} {i:Nat} (h:i<(intR a b).length):(intR a b)[i]=a+i:=by simp [intR]
theorem mem_intR {a b n:Int}:n∈intR a b↔a≤n∧n≤b:=by
 simp only [intR,List.mem_map,List.mem_range]
 constructor
 ·rintro ⟨i,h,rfl⟩;omega
 ·rintro ⟨h1,h2⟩;exact ⟨(n - a).toNat,by omega,by omega⟩
end Go.Fer
namespace Go.Fer
open M (Step)
set_option linter.unusedVariables false
set_option maxRecDepth 100000
abbrev Slip:Type:=Int×Int×Int×Int×Int×Int
abbrev Tar:Type:=Int×Int×Int×Int×Int×Int×Int
abbrev Ctr:Type:=List (Int×Int)×List Slip×List Int×List (Int×Int)×Tar
abbrev Ev:Type:=Slip×Int
abbrev Tru:Type:=List Int×List (List Ev)
abbrev Book:Type:=Ctr×List Slip×List (Option Tru)
abbrev Cells:Type:=List (Int×Int)×List Slip×List Int×List (Int×Int)×Int×Int×Int×Int×Int×Int×Int×List Slip×List (Option Tru)×Unit
abbrev msetI (l:List (Int×Int)) (a b:Int):List (Int×Int):=mset (k:=.int .i64) (v:=.int .i64) l a b
abbrev tSlip:Ty:=.st (.prod (.int .i64) (.prod (.int .i64) (.prod (.int .i64) (.prod (.int .i64) (.prod (.int .i64) (.int .i64))))))
abbrev msetS (l:List (Int×Slip)) (a:Int) (b:Slip):List (Int×Slip):=mset (k:=.int .i64) (v:=tSlip) l a b
abbrev len8:List UInt8:=0::1::(List.replicate 2 2++(List.replicate 4 3++(List.replicate 8 4++(List.replicate 16 5++(List.replicate 32 6++(List.replicate 64 7++List.replicate 128 8))))))
abbrev _root_.Prod.q5 {A0 A1 A2 A3 A4 A5 A6:Type} (x:A0×A1×A2×A3×A4×A5×A6):A5:=x.2.2.2.2.2.1
abbrev _root_.Prod.q6 {A0 A1 A2 A3 A4 A5 A6 A7:Type} (x:A0×A1×A2×A3×A4×A5×A6×A7):A6:=x.2.2.2.2.2.2.1
abbrev _root_.Prod.q7 {A0 A1 A2 A3 A4 A5 A6 A7 A8:Type} (x:A0×A1×A2×A3×A4×A5×A6×A7×A8):A7:=x.2.2.2.2.2.2.2.1
abbrev _root_.Prod.q8 {A0 A1 A2 A3 A4 A5 A6 A7 A8 A9:Type} (x:A0×A1×A2×A3×A4×A5×A6×A7×A8×A9):A8:=x.2.2.2.2.2.2.2.2.1
abbrev _root_.Prod.q9 {A0 A1 A2 A3 A4 A5 A6 A7 A8 A9 A10:Type} (x:A0×A1×A2×A3×A4×A5×A6×A7×A8×A9×A10):A9:=x.2.2.2.2.2.2.2.2.2.1
abbrev _root_.Prod.q10 {A0 A1 A2 A3 A4 A5 A6 A7 A8 A9 A10 A11:Type} (x:A0×A1×A2×A3×A4×A5×A6×A7×A8×A9×A10×A11):A10:=x.2.2.2.2.2.2.2.2.2.2.1
abbrev _root_.Prod.q11 {A0 A1 A2 A3 A4 A5 A6 A7 A8 A9 A10 A11 A12:Type} (x:A0×A1×A2×A3×A4×A5×A6×A7×A8×A9×A10×A11×A12):A11:=x.2.2.2.2.2.2.2.2.2.2.2.1
abbrev _root_.Prod.q12 {A0 A1 A2 A3 A4 A5 A6 A7 A8 A9 A10 A11 A12 A13:Type} (x:A0×A1×A2×A3×A4×A5×A6×A7×A8×A9×A10×A11×A12×A13):A12:=x.2.2.2.2.2.2.2.2.2.2.2.2.1
abbrev _root_.Prod.q13 {A0 A1 A2 A3 A4 A5 A6 A7 A8 A9 A10 A11 A12 A13 A14:Type} (x:A0×A1×A2×A3×A4×A5×A6×A7×A8×A9×A10×A11×A12×A13×A14):A13:=x.2.2.2.2.2.2.2.2.2.2.2.2.2.1
abbrev _root_.Prod.q14 {A0 A1 A2 A3 A4 A5 A6 A7 A8 A9 A10 A11 A12 A13 A14 A15:Type} (x:A0×A1×A2×A3×A4×A5×A6×A7×A8×A9×A10×A11×A12×A13×A14×A15):A14:=x.2.2.2.2.2.2.2.2.2.2.2.2.2.2.1
abbrev _root_.Prod.q15 {A0 A1 A2 A3 A4 A5 A6 A7 A8 A9 A10 A11 A12 A13 A14 A15 A16:Type} (x:A0×A1×A2×A3×A4×A5×A6×A7×A8×A9×A10×A11×A12×A13×A14×A15×A16):A15:=x.2.2.2.2.2.2.2.2.2.2.2.2.2.2.2.1
abbrev _root_.Prod.q16 {A0 A1 A2 A3 A4 A5 A6 A7 A8 A9 A10 A11 A12 A13 A14 A15 A16 A17:Type} (x:A0×A1×A2×A3×A4×A5×A6×A7×A8×A9×A10×A11×A12×A13×A14×A15×A16×A17):A16:=x.2.2.2.2.2.2.2.2.2.2.2.2.2.2.2.2.1
abbrev _root_.Prod.q17 {A0 A1 A2 A3 A4 A5 A6 A7 A8 A9 A10 A11 A12 A13 A14 A15 A16 A17 A18:Type} (x:A0×A1×A2×A3×A4×A5×A6×A7×A8×A9×A10×A11×A12×A13×A14×A15×A16×A17×A18):A17:=x.2.2.2.2.2.2.2.2.2.2.2.2.2.2.2.2.2.1
abbrev _root_.Prod.q18 {A0 A1 A2 A3 A4 A5 A6 A7 A8 A9 A10 A11 A12 A13 A14 A15 A16 A17 A18 A19:Type} (x:A0×A1×A2×A3×A4×A5×A6×A7×A8×A9×A10×A11×A12×A13×A14×A15×A16×A17×A18×A19):A18:=x.2.2.2.2.2.2.2.2.2.2.2.2.2.2.2.2.2.2.1
abbrev _root_.Prod.q19 {A0 A1 A2 A3 A4 A5 A6 A7 A8 A9 A10 A11 A12 A13 A14 A15 A16 A17 A18 A19 A20:Type} (x:A0×A1×A2×A3×A4×A5×A6×A7×A8×A9×A10×A11×A12×A13×A14×A15×A16×A17×A18×A19×A20):A19:=x.2.2.2.2.2.2.2.2.2.2.2.2.2.2.2.2.2.2.2.1
abbrev _root_.Prod.q20 {A0 A1 A2 A3 A4 A5 A6 A7 A8 A9 A10 A11 A12 A13 A14 A15 A16 A17 A18 A19 A20 A21:Type} (x:A0×A1×A2×A3×A4×A5×A6×A7×A8×A9×A10×A11×A12×A13×A14×A15×A16×A17×A18×A19×A20×A21):A20:=x.2.2.2.2.2.2.2.2.2.2.2.2.2.2.2.2.2.2.2.2.1
abbrev _root_.Prod.q21 {A0 A1 A2 A3 A4 A5 A6 A7 A8 A9 A10 A11 A12 A13 A14 A15 A16 A17 A18 A19 A20 A21 A22:Type} (x:A0×A1×A2×A3×A4×A5×A6×A7×A8×A9×A10×A11×A12×A13×A14×A15×A16×A17×A18×A19×A20×A21×A22):A21:=x.2.2.2.2.2.2.2.2.2.2.2.2.2.2.2.2.2.2.2.2.2.1
abbrev _root_.Prod.q22 {A0 A1 A2 A3 A4 A5 A6 A7 A8 A9 A10 A11 A12 A13 A14 A15 A16 A17 A18 A19 A20 A21 A22 A23:Type} (x:A0×A1×A2×A3×A4×A5×A6×A7×A8×A9×A10×A11×A12×A13×A14×A15×A16×A17×A18×A19×A20×A21×A22×A23):A22:=x.2.2.2.2.2.2.2.2.2.2.2.2.2.2.2.2.2.2.2.2.2.2.1
abbrev _root_.Prod.q23 {A0 A1 A2 A3 A4 A5 A6 A7 A8 A9 A10 A11 A12 A13 A14 A15 A16 A17 A18 A19 A20 A21 A22 A23 A24:Type} (x:A0×A1×A2×A3×A4×A5×A6×A7×A8×A9×A10×A11×A12×A13×A14×A15×A16×A17×A18×A19×A20×A21×A22×A23×A24):A23:=x.2.2.2.2.2.2.2.2.2.2.2.2.2.2.2.2.2.2.2.2.2.2.2.1
abbrev _root_.Prod.q24 {A0 A1 A2 A3 A4 A5 A6 A7 A8 A9 A10 A11 A12 A13 A14 A15 A16 A17 A18 A19 A20 A21 A22 A23 A24 A25:Type} (x:A0×A1×A2×A3×A4×A5×A6×A7×A8×A9×A10×A11×A12×A13×A14×A15×A16×A17×A18×A19×A20×A21×A22×A23×A24×A25):A24:=x.2.2.2.2.2.2.2.2.2.2.2.2.2.2.2.2.2.2.2.2.2.2.2.2.1
abbrev _root_.Prod.q25 {A0 A1 A2 A3 A4 A5 A6 A7 A8 A9 A10 A11 A12 A13 A14 A15 A16 A17 A18 A19 A20 A21 A22 A23 A24 A25 A26:Type} (x:A0×A1×A2×A3×A4×A5×A6×A7×A8×A9×A10×A11×A12×A13×A14×A15×A16×A17×A18×A19×A20×A21×A22×A23×A24×A25×A26):A25:=x.2.2.2.2.2.2.2.2.2.2.2.2.2.2.2.2.2.2.2.2.2.2.2.2.2.1
abbrev _root_.Prod.q26 {A0 A1 A2 A3 A4 A5 A6 A7 A8 A9 A10 A11 A12 A13 A14 A15 A16 A17 A18 A19 A20 A21 A22 A23 A24 A25 A26 A27:Type} (x:A0×A1×A2×A3×A4×A5×A6×A7×A8×A9×A10×A11×A12×A13×A14×A15×A16×A17×A18×A19×A20×A21×A22×A23×A24×A25×A26×A27):A26:=x.2.2.2.2.2.2.2.2.2.2.2.2.2.2.2.2.2.2.2.2.2.2.2.2.2.2.1
abbrev _root_.Prod.q27 {A0 A1 A2 A3 A4 A5 A6 A7 A8 A9 A10 A11 A12 A13 A14 A15 A16 A17 A18 A19 A20 A21 A22 A23 A24 A25 A26 A27 A28:Type} (x:A0×A1×A2×A3×A4×A5×A6×A7×A8×A9×A10×A11×A12×A13×A14×A15×A16×A17×A18×A19×A20×A21×A22×A23×A24×A25×A26×A27×A28):A27:=x.2.2.2.2.2.2.2.2.2.2.2.2.2.2.2.2.2.2.2.2.2.2.2.2.2.2.2.1
abbrev _root_.Prod.q28 {A0 A1 A2 A3 A4 A5 A6 A7 A8 A9 A10 A11 A12 A13 A14 A15 A16 A17 A18 A19 A20 A21 A22 A23 A24 A25 A26 A27 A28 A29:Type} (x:A0×A1×A2×A3×A4×A5×A6×A7×A8×A9×A10×A11×A12×A13×A14×A15×A16×A17×A18×A19×A20×A21×A22×A23×A24×A25×A26×A27×A28×A29):A28:=x.2.2.2.2.2.2.2.2.2.2.2.2.2.2.2.2.2.2.2.2.2.2.2.2.2.2.2.2.1
abbrev _root_.Prod.q29 {A0 A1 A2 A3 A4 A5 A6 A7 A8 A9 A10 A11 A12 A13 A14 A15 A16 A17 A18 A19 A20 A21 A22 A23 A24 A25 A26 A27 A28 A29 A30:Type} (x:A0×A1×A2×A3×A4×A5×A6×A7×A8×A9×A10×A11×A12×A13×A14×A15×A16×A17×A18×A19×A20×A21×A22×A23×A24×A25×A26×A27×A28×A29×A30):A29:=x.2.2.2.2.2.2.2.2.2.2.2.2.2.2.2.2.2.2.2.2.2.2.2.2.2.2.2.2.2.1
abbrev _root_.Prod.q30 {A0 A1 A2 A3 A4 A5 A6 A7 A8 A9 A10 A11 A12 A13 A14 A15 A16 A17 A18 A19 A20 A21 A22 A23 A24 A25 A26 A27 A28 A29 A30 A31:Type} (x:A0×A1×A2×A3×A4×A5×A6×A7×A8×A9×A10×A11×A12×A13×A14×A15×A16×A17×A18×A19×A20×A21×A22×A23×A24×A25×A26×A27×A28×A29×A30×A31):A30:=x.2.2.2.2.2.2.2.2.2.2.2.2.2.2.2.2.2.2.2.2.2.2.2.2.2.2.2.2.2.2.1
abbrev _root_.Prod.q31 {A0 A1 A2 A3 A4 A5 A6 A7 A8 A9 A10 A11 A12 A13 A14 A15 A16 A17 A18 A19 A20 A21 A22 A23 A24 A25 A26 A27 A28 A29 A30 A31 A32:Type} (x:A0×A1×A2×A3×A4×A5×A6×A7×A8×A9×A10×A11×A12×A13×A14×A15×A16×A17×A18×A19×A20×A21×A22×A23×A24×A25×A26×A27×A28×A29×A30×A31×A32):A31:=x.2.2.2.2.2.2.2.2.2.2.2.2.2.2.2.2.2.2.2.2.2.2.2.2.2.2.2.2.2.2.2.1
def S_hire_Where (c_hire_read:Ctr×(Option Book→M Bool)→M (Option Book×Int)) (c_hire_truth_with:Option Tru×Int×Int→M (Ev×Bool)) (c_slices_Sorted_int:(List Int→Prop)→M (List Int)) (c_maps_Keys_map_int_int_int_int:List (Int×Int)→M (List Int→Prop)) (c_hire_Where_c1:Option Book×Option Int×Option Int→M Bool) (x:Ctr×Int×Int):M (List Int×Int):=
 M.bind (c_hire_read (x.1,fun x_1=>c_hire_Where_c1 (x_1,some x.2.1,some x.2.2))) fun y=>if decide (y.2≠0)=true then M.pure ([],y.2) else
 M.bind (M.req (Option.isSome y.1=true) (M.loop (fun (σ:List (Option Tru)×Int×Int×Int×Int×List (Int×Int)×Unit)=>if decide (σ.2.2.1
 < σ.2.1)=true then M.bind (M.req (0≤σ.2.2.1∧σ.2.2.1<Int.ofNat (List.length σ.1)) (M.bind (c_hire_truth_with (List.getD σ.1 (Int.toNat
 σ.2.2.1) none,σ.2.2.2.1,σ.2.2.2.2.1)) fun y=>if y.2=true then M.pure (Step.next (σ.1,σ.2.1,σ.2.2.1,σ.2.2.2.1,σ.2.2.2.2.1,msetI σ.q5
 y.1.1.2.2.2.2.2 (IntKind.wrap .i64 (Add.add (Option.getD (Option.map (fun x=>x.2) (List.find? (fun p=>decide (y.1.1.2.2.2.2.2=p.1)) σ.q5)) 0)
 1)),())) else M.pure (Step.next (σ.1,σ.2.1,σ.2.2.1,σ.2.2.2.1,σ.2.2.2.2.1,msetI σ.q5 (-1) (IntKind.wrap .i64 (Add.add (Option.getD (Option.map
 (fun x=>x.2) (List.find? (fun p=>decide (-1=p.1)) σ.q5)) 0) 1)),())))) (Step.go fun (σ:List (Option Tru)×Int×Int×Int×Int×List (Int
 ×Int)×Unit)=>M.pure (Step.next (σ.1,σ.2.1,IntKind.wrap .i64 (Add.add σ.2.2.1 1),σ.2.2.2.1,σ.2.2.2.2.1,σ.q5,()))) else M.bind (M.pure
 (Step.next (σ.q5,()))) fun r=>M.pure (Step.done r)) ((Option.getD y.1 (([],[],[],[],0,0,0,0,0,0,0),[],[])).2.2,Int.ofNat (List.length
 (Option.getD y.1 (([],[],[],[],0,0,0,0,0,0,0),[],[])).2.2),0,x.2.1,x.2.2,[],()))) (Step.go fun (σ:List (Int×Int)×Unit)=>
 M.bind (c_maps_Keys_map_int_int_int_int σ.1) fun y=>M.bind (c_slices_Sorted_int y) fun y=>M.pure (y,0))
def S_ref09_Copy (x:Ctr):M Ctr:=
 M.req (lenLe (Add.add 0 (List.length x.1))) (M.req (lenLe (Add.add 0 (List.length x.2.1))) (M.req (lenLe (Add.add 0 (List.length x.2.2.1))) (M.req
 (lenLe (Add.add 0 (List.length x.2.2.2.1))) (M.pure ([]++x.1,[]++x.2.1,[]++x.2.2.1,[]++x.2.2.2.1,x.2.2.2.2)))))
def S_hire_Fee (c_hire_lasts:Ctr×Int×(Int→M Int)→M ((Int×Int)×Int)) (c_hire_Fee_c1:Int×Option Ctr→M Int) (x:Ctr×Int):M ((Int×Int)×Int):=
 M.bind (c_hire_lasts (x.1,x.2,fun x_1=>c_hire_Fee_c1 (x_1,some x.1))) fun y=>M.pure y
def S_hire_Held (c_hire_read:Ctr×(Option Book→M Bool)→M (Option Book×Int)) (c_hire_book_span:Option Book×(Option Tru→M (Int×Bool))→M ((Int×Int)×Bool)) (c_hire_Held_c1:Option Book×Option Int→M Bool) (c_hire_Held_c2:Option Tru×Option Int×Option Ctr→M (Int×Bool)) (x:Ctr×Int):M ((Int×Int)×Int):=
 M.bind (c_hire_read (x.1,fun x_1=>c_hire_Held_c1 (x_1,some x.2))) fun y=>if decide (y.2≠0)=true then M.pure ((0,0),y.2) else M.bind
 (c_hire_book_span (y.1,fun x_1=>c_hire_Held_c2 (x_1,some x.2,some x.1))) fun y=>M.pure (y.1,0)
def S_hire_Owes (c_hire_read:Ctr×(Option Book→M Bool)→M (Option Book×Int)) (c_hire_book_span:Option Book×(Option Tru→M (Int×Bool))→M ((Int×Int)×Bool)) (c_hire_Owes_c1:Option Book×Option Int→M Bool) (c_hire_Owes_c2:Option Tru×Option (Option Book)×Option Int×Option Ctr→M (Int×Bool)) (x:Ctr×Int):M ((Int×Int)×Int):=
 M.bind (c_hire_read (x.1,fun x_1=>c_hire_Owes_c1 (x_1,some x.2))) fun y=>if decide (y.2≠0)=true then M.pure ((0,0),y.2) else M.bind
 (c_hire_book_span (y.1,fun x_1=>c_hire_Owes_c2 (x_1,some y.1,some x.2,some x.1))) fun y=>M.pure (y.1,0)
def S_hire_Check (c_hire_isCounter:Ctr→M Bool) (c_hire_once:List Slip→M (List Slip×Bool)) (x:Ctr):M Int:=
 M.bind (c_hire_isCounter x) fun y=>if (!y)=true then M.pure 90 else M.bind (c_hire_once x.2.1) fun y=>if (!y.2)=true then M.pure 91 else
 M.pure 0
def S_ref09_Check (c_ref09_isCounter:Ctr→M Bool) (c_ref09_clash:Slip×Int×Int×Int×Int×Int×Int→M Bool) (x:Ctr):M Int:=
 M.bind (c_ref09_isCounter x) fun y=>if (!y)=true then M.pure 90 else M.bind (M.loop (fun (σ:Int×Ctr×Unit)=>if decide (σ.1<Int.ofNat
 (List.length σ.2.1.2.1))=true then M.bind (M.loop (fun (σ:Int×Int×Ctr×Unit)=>if decide (σ.2.1<σ.1)=true then M.req (0≤σ.2.1∧σ.2.1
 < Int.ofNat (List.length σ.2.2.1.2.1)) (M.req (0≤σ.1∧σ.1<Int.ofNat (List.length σ.2.2.1.2.1)) (M.req (c_ref09_clash (List.getD σ.2.2.1.2.1
 (Int.toNat σ.2.1) (0,0,0,0,0,0),List.getD σ.2.2.1.2.1 (Int.toNat σ.1) (0,0,0,0,0,0))).safe (if M.val (c_ref09_clash (List.getD σ.2.2.1.2.1
 (Int.toNat σ.2.1) (0,0,0,0,0,0),List.getD σ.2.2.1.2.1 (Int.toNat σ.1) (0,0,0,0,0,0))) false=true then M.bind (M.bind (M.bind (M.bind
 (M.pure 91) fun r=>M.pure (Step.done r)) fun r=>M.pure (Step.done r)) fun r=>M.pure (Step.done r)) fun r=>M.pure (Step.done r) else M.pure
 (Step.next (σ.1,IntKind.wrap .i64 (Add.add σ.2.1 1),σ.2.2.1,()))))) else M.bind (M.pure (Step.next (σ.1,σ.2.2.1,()))) fun r=>M.pure (Step.done
 r)) (σ.1,0,σ.2.1,())) (Step.go fun (σ:Int×Ctr×Unit)=>M.pure (Step.next (IntKind.wrap .i64 (Add.add σ.1 1),σ.2.1,()))) else M.bind
 (M.pure (Step.next ())) fun r=>M.pure (Step.done r)) (0,x,())) (Step.go fun (σ:Unit)=>M.pure 0)
def S_hire_Watch (c_hire_read:Ctr×(Option Book→M Bool)→M (Option Book×Int)) (c_hire_book_span:Option Book×(Option Tru→M (Int×Bool))→M ((Int×Int)×Bool)) (c_hire_Watch_c1:Option Book×Option Int×Option Ctr→M Bool) (c_hire_Watch_c2:Option Tru×Option Int→M (Int×Bool)) (x:Ctr×Int):M ((Int×Int)×Int):=
 M.bind (c_hire_read (x.1,fun x_1=>c_hire_Watch_c1 (x_1,some x.2,some x.1))) fun y=>if decide (y.2≠0)=true then M.pure ((0,0),y.2) else
 M.bind (c_hire_book_span (y.1,fun x_1=>c_hire_Watch_c2 (x_1,some x.2))) fun y=>M.pure (y.1,0)
def S_hire_read (c_hire_Check:Ctr→M Int) (c_hire_onceIO:List Slip×Unit→M (Bool×List Slip×Unit)) (c_slices_DeleteFunc:(Int×Int×Int×Int×Int×Int→M Bool)×List Slip×Unit→M ((Nat×Nat)×List Slip×Unit)) (c_hire_book_search:List Int×Cells→M (Cells)) (c_hire_read_c1:Slip×Option Ctr→M Bool) (x:Ctr×(Option Book→M Bool)):M (Option Book×Int):=
 M.bind (c_hire_Check x.1) fun y=>if decide (y≠0)=true then M.pure (none,y) else M.bind (c_hire_onceIO (x.1.2.1,())) fun y=>M.req True
 (M.req True (M.bind (c_slices_DeleteFunc (fun x_1=>c_hire_read_c1 (x_1,some x.1),y.2.1,())) fun y=>M.req True (M.bind (M.bind (x.2 (some (x.1,
 List.drop y.1.1 (List.take y.1.2 y.2.1),[]))) fun y_1=>if (!y_1)=true then M.bind (M.pure (none,1)) fun r=>M.pure (Step.done r) else M.pure
 (Step.next (x.1.1,x.1.2.1,x.1.2.2.1,x.1.2.2.2.1,x.1.2.2.2.2.1,x.1.q5,x.1.q6,x.1.q7,x.1.q8,x.1.q9,x.1.2.2.2.2.2.2.2.2.2.2,y.1,y.2.1,[],
 ()))) (Step.go fun (σ:List (Int×Int)×List Slip×List Int×List (Int×Int)×Int×Int×Int×Int×Int×Int×Int×(Nat×Nat)×List
 Slip×List (Option Tru)×Unit)=>M.bind (c_hire_book_search ([],σ.1,σ.2.1,σ.2.2.1,σ.2.2.2.1,σ.2.2.2.2.1,σ.q5,σ.q6,σ.q7,σ.q8,σ.q9,σ.q10,
 List.drop σ.q11.1 (List.take σ.q11.2 σ.q12),σ.q13,())) fun y=>M.req True (if decide (Int.ofNat (List.length y.q12)=0)=true then M.pure (none,
 3) else M.pure (some ((y.1,y.2.1,y.2.2.1,y.2.2.2.1,y.2.2.2.2.1,y.q5,y.q6,y.q7,y.q8,y.q9,y.q10),y.q11,y.q12),0))))))
def S_hire_Where_c1 (c_hire_within:Int×Int×Int→M Bool) (c_hire_isMinute:Int→M Bool) (x:Option Book×Option Int×Option Int):M Bool:=
 (M.bind (c_hire_within (Option.getD x.2.1 0,0,9)) fun y=>M.bind (gdo y (c_hire_isMinute (Option.getD x.2.2 0)) false) fun y_1=>M.pure (y&&
 y_1))
def S_hire_within (x:Int×Int×Int):M Bool:=
 M.pure (decide (x.2.1≤x.1)&&decide (x.1≤x.2.2))
def S_hire_isMinute (c_hire_within:Int×Int×Int→M Bool) (x:Int):M Bool:=
 M.bind (c_hire_within (x,0,9999)) fun y=>M.pure y
def S_hire_truth_with (x:Option Tru×Int×Int):M (Ev×Bool):=
 M.bind (M.req (Option.isSome x.1=true) (M.req (0≤x.2.1∧x.2.1<Int.ofNat 10) (M.loop (fun (σ:Int×Bool×List Ev×Int×Int×Ev×Ev×
 Unit)=>if decide (σ.2.2.2.2.1<σ.2.2.2.1)=true then M.bind (M.req (0≤σ.2.2.2.2.1∧σ.2.2.2.2.1<Int.ofNat (List.length σ.2.2.1)) (if decide
 ((List.getD σ.2.2.1 (Int.toNat σ.2.2.2.2.1) ((0,0,0,0,0,0),0)).2≤σ.1)=true then M.pure (Step.next (σ.1,decide ((List.getD σ.2.2.1
 (Int.toNat σ.2.2.2.2.1) ((0,0,0,0,0,0),0)).1.2.2.2.1=1),σ.2.2.1,σ.2.2.2.1,σ.2.2.2.2.1,σ.q5,List.getD σ.2.2.1 (Int.toNat σ.2.2.2.2.1)
 ((0,0,0,0,0,0),0),())) else M.pure (Step.next (σ.1,σ.2.1,σ.2.2.1,σ.2.2.2.1,σ.2.2.2.2.1,σ.q5,σ.q6,())))) (Step.go fun (σ:Int×Bool×
 List Ev×Int×Int×Ev×Ev×Unit)=>M.pure (Step.next (σ.1,σ.2.1,σ.2.2.1,σ.2.2.2.1,IntKind.wrap .i64 (Add.add σ.2.2.2.2.1 1),σ.q5,σ.q6,
 ()))) else M.bind (M.pure (Step.next (σ.2.1,σ.q5,σ.q6,()))) fun r=>M.pure (Step.done r)) (x.2.2,false,List.getD (Option.getD x.1 ([],[[],[],
 [],[],[],[],[],[],[],[]])).2 (Int.toNat x.2.1) [],Int.ofNat (List.length (List.getD (Option.getD x.1 ([],[[],[],[],[],[],[],[],[],
 [],[]])).2 (Int.toNat x.2.1) [])),0,((0,0,0,0,0,0),0),((0,0,0,0,0,0),0),())))) (Step.go fun (σ:Bool×Ev×Ev×Unit)=>M.pure
 (σ.2.2.1,σ.1))
def S_slices_Sorted_int (c_slices_Sort:List Int×Unit→M (List Int×Unit)) (c_slices_Collect:(List Int→Prop)×Unit→M (List Int×Unit)) (x:List Int→Prop):M (List Int):=
 M.bind (c_slices_Collect (x,())) fun y=>M.bind (c_slices_Sort (y.1,())) fun y=>M.pure y.1
def S_maps_Keys_map_int_int_int_int (its_88:Option (List (Int×Int))→List Int→Prop) (x:List (Int×Int)):M (List Int→Prop):=
 M.pure (its_88 (some x))
def S_hire_lasts (c_hire_read:Ctr×(Option Book→M Bool)→M (Option Book×Int)) (c_hire_book_span:Option Book×(Option Tru→M (Int×Bool))→M ((Int×Int)×Bool)) (c_hire_lasts_c1:Option Book×Option Int→M Bool) (c_hire_lasts_c2:Option Tru×Option (Option Book)×Option Int×Option (Int→M Int)→M (Int×Bool)) (x:Ctr×Int×(Int→M Int)):M ((Int×Int)×Int):=
 M.bind (c_hire_read (x.1,fun x_1=>c_hire_lasts_c1 (x_1,some x.2.1))) fun y=>if decide (y.2≠0)=true then M.pure ((0,0),y.2) else M.bind
 (c_hire_book_span (y.1,fun x_1=>c_hire_lasts_c2 (x_1,some y.1,some x.2.1,some x.2.2))) fun y=>if (!y.2)=true then M.pure ((0,0),3) else
 M.pure (y.1,0)
def S_hire_Fee_c1 (c_hire_fee:Tar×Int→M Int) (x:Int×Option Ctr):M Int:=
 (M.bind (c_hire_fee ((Option.getD x.2 ([],[],[],[],0,0,0,0,0,0,0)).2.2.2.2,x.1)) fun y=>M.pure y)
def S_hire_fee (x:Tar×Int):M Int:=
 if decide (x.2≥x.1.2.2.2.2.1)=true then M.pure x.1.q5 else M.req (x.1.2.1≠0) (M.pure (if IntKind.wrap .i64 (x.1.2.2.1*IntKind.wrap .i64
 (Int.tdiv (IntKind.wrap .i64 (IntKind.wrap .i64 (Add.add (if IntKind.wrap .i64 (x.2 - x.1.1) > 0 then IntKind.wrap .i64 (x.2 - x.1.1) else 0)
 x.1.2.1) - 1)) x.1.2.1))<x.1.2.2.2.1 then IntKind.wrap .i64 (x.1.2.2.1*IntKind.wrap .i64 (Int.tdiv (IntKind.wrap .i64 (IntKind.wrap .i64 (Add.add
 (if IntKind.wrap .i64 (x.2 - x.1.1) > 0 then IntKind.wrap .i64 (x.2 - x.1.1) else 0) x.1.2.1) - 1)) x.1.2.1)) else x.1.2.2.2.1))
def S_hire_Held_c1 (c_hire_isMinute:Int→M Bool) (x:Option Book×Option Int):M Bool:=
 (M.bind (c_hire_isMinute (Option.getD x.2 0)) fun y=>M.pure y)
def S_hire_book_span (x:Option Book×(Option Tru→M (Int×Bool))):M ((Int×Int)×Bool):=
 M.bind (M.req (Option.isSome x.1=true) (M.loop (fun (σ:(Option Tru→M (Int×Bool))×Bool×List (Option Tru)×Int×Int×(Int×Int)×Unit)
 =>if decide (σ.2.2.2.2.1<σ.2.2.2.1)=true then M.bind (M.req (0≤σ.2.2.2.2.1∧σ.2.2.2.2.1<Int.ofNat (List.length σ.2.2.1)) (M.bind (σ.1
 (List.getD σ.2.2.1 (Int.toNat σ.2.2.2.2.1) none)) fun y=>if (!y.2)=true then M.pure (Step.next (σ.1,σ.2.1,σ.2.2.1,σ.2.2.2.1,σ.2.2.2.2.1,
 σ.q5,())) else if (!σ.2.1)=true then M.pure (Step.next (σ.1,true,σ.2.2.1,σ.2.2.2.1,σ.2.2.2.2.1,(y.1,y.1),())) else M.pure (Step.next (σ.1,
 σ.2.1,σ.2.2.1,σ.2.2.2.1,σ.2.2.2.2.1,(if y.1<σ.q5.1 then y.1 else σ.q5.1,if y.1 > σ.q5.2 then y.1 else σ.q5.2),())))) (Step.go fun (σ :
 (Option Tru→M (Int×Bool))×Bool×List (Option Tru)×Int×Int×(Int×Int)×Unit)=>M.pure (Step.next (σ.1,σ.2.1,σ.2.2.1,σ.2.2.2.1,
 IntKind.wrap .i64 (Add.add σ.2.2.2.2.1 1),σ.q5,()))) else M.bind (M.pure (Step.next (σ.2.1,σ.q5,()))) fun r=>M.pure (Step.done r)) (x.2,false,
 (Option.getD x.1 (([],[],[],[],0,0,0,0,0,0,0),[],[])).2.2,Int.ofNat (List.length (Option.getD x.1 (([],[],[],[],0,0,0,0,0,0,
 0),[],[])).2.2),0,(0,0),()))) (Step.go fun (σ:Bool×(Int×Int)×Unit)=>M.pure (σ.2.1,σ.1))
def S_hire_Held_c2 (c_hire_truth_with:Option Tru×Int×Int→M (Ev×Bool)) (x:Option Tru×Option Int×Option Ctr):M (Int×Bool):=
 (M.bind (M.loop (fun (σ:Option Tru×Int×Ctr×Int×Int×Unit)=>if decide (σ.2.2.2.2.1<10)=true then M.bind (M.bind (c_hire_truth_with
 (σ.1,σ.2.2.2.2.1,σ.2.1)) fun y=>if y.2=true then M.pure (Step.next (σ.1,σ.2.1,σ.2.2.1,IntKind.wrap .i64 (Add.add σ.2.2.2.1
 σ.2.2.1.2.2.2.2.2.2.2.2.2.2),σ.2.2.2.2.1,())) else M.pure (Step.next (σ.1,σ.2.1,σ.2.2.1,σ.2.2.2.1,σ.2.2.2.2.1,()))) (Step.go fun (σ:Option
 Tru×Int×Ctr×Int×Int×Unit)=>M.pure (Step.next (σ.1,σ.2.1,σ.2.2.1,σ.2.2.2.1,IntKind.wrap .i64 (Add.add σ.2.2.2.2.1 1),()))) else
 M.bind (M.pure (Step.next (σ.2.2.2.1,()))) fun r=>M.pure (Step.done r)) (x.1,Option.getD x.2.1 0,Option.getD x.2.2 ([],[],[],[],0,0,0,0,
 0,0,0),0,0,())) (Step.go fun (σ:Int×Unit)=>M.pure (σ.1,true)))
def S_hire_Owes_c1 (c_hire_isId:Int→M Bool) (x:Option Book×Option Int):M Bool:=
 (M.bind (c_hire_isId (Option.getD x.2 0)) fun y=>M.pure y)
def S_hire_isId (c_hire_within:Int×Int×Int→M Bool) (x:Int):M Bool:=
 M.bind (c_hire_within (x,0,99)) fun y=>M.pure y
def S_hire_Owes_c2 (c_hire_fee:Tar×Int→M Int) (c_hire_book_hires:Option Book×Option Tru→M (List Ev→Prop)) (x:Option Tru×Option (Option Book)×Option Int×Option Ctr):M (Int×Bool):=
 (M.bind (c_hire_book_hires (Option.getD x.2.1 none,x.1)) fun y=>M.bind (M.any y) fun L=>M.bind (rounds (fun (σ:Int×Ctr×Int×Unit) (y :
 Slip×Int)=>M.bind (if decide (y.1.2.2.2.2.2=σ.1)=true then M.req (c_hire_fee (σ.2.1.2.2.2.2,y.2)).safe (M.pure (Ex.normal,IntKind.wrap .i64
 (Add.add σ.2.2.1 (M.val (c_hire_fee (σ.2.1.2.2.2.2,y.2)) 0)),())) else M.pure (Ex.normal,σ.2.2.1,())) fun p=>M.pure (p.1,σ.1,σ.2.1,p.2.1,
 ())) L (Option.getD x.2.2.1 0,Option.getD x.2.2.2 ([],[],[],[],0,0,0,0,0,0,0),0,())) fun p=>exC (M.pure (p.2.2.2.1,true)) (fun id=>
 if id=0 then M.pure (p.2.2.2.1,true) else M.fail) M.fail p.1)
def S_hire_book_hires (its_94:Option (Option Tru)×Option (Option Book)→List Ev→Prop) (x:Option Book×Option Tru):M (List Ev→Prop):=
 M.pure (its_94 (some x.2,some x.1))
def S_hire_isCounter (c_hire_within:Int×Int×Int→M Bool) (c_slices_ContainsFunc_api_Slip_api_Slip:List Slip×(Int×Int×Int×Int×Int×Int→M Bool)→M Bool) (c_hire_isTariff:Int×Int×Int×Int×Int×Int×Int→M Bool) (c_slices_ContainsFunc_int_int:List Int×(Int→M Bool)→M Bool) (c_hire_isCounter_c1:Slip×Option Ctr→M Bool) (c_hire_isCounter_c2:Int→M Bool) (x:Ctr):M Bool:=
 M.bind (gdo (!(decide (Int.ofNat (List.length x.1) > 3)||decide (Int.ofNat (List.length x.2.1) > 12)||decide (Int.ofNat (List.length x.2.2.1) >
 12)||decide (Int.ofNat (List.length x.2.2.2.1) > 4))) (c_hire_isTariff x.2.2.2.2) false) fun y=>if (decide (Int.ofNat (List.length x.1) > 3)||
 decide (Int.ofNat (List.length x.2.1) > 12)||decide (Int.ofNat (List.length x.2.2.1) > 12)||decide (Int.ofNat (List.length x.2.2.2.1) > 4)||!y)
 =true then M.pure false else M.bind (M.loop (fun (σ:List (Int×Int)×Int×Int×Ctr×Unit)=>if decide (σ.2.2.1<σ.2.1)=true then M.req (0
 ≤σ.2.2.1∧σ.2.2.1<Int.ofNat (List.length σ.1)) (M.bind (c_hire_within ((List.getD σ.1 (Int.toNat σ.2.2.1) (0,0)).1,-30,(List.getD σ.1
 (Int.toNat σ.2.2.1) (0,0)).2)) fun y=>if (!y||decide ((List.getD σ.1 (Int.toNat σ.2.2.1) (0,0)).2 > 30))=true then M.bind (M.bind (M.pure
 false) fun r=>M.pure (Step.done r)) fun r=>M.pure (Step.done r) else M.pure (Step.next (σ.1,σ.2.1,IntKind.wrap .i64 (Add.add σ.2.2.1 1),
 σ.2.2.2.1,()))) else M.bind (M.pure (Step.next (σ.2.2.2.1,()))) fun r=>M.pure (Step.done r)) (x.1,Int.ofNat (List.length x.1),0,x,()))
 (Step.go fun (σ:Ctr×Unit)=>M.bind (M.loop (fun (σ:List (Int×Int)×Int×Int×Ctr×Unit)=>if decide (σ.2.2.1<σ.2.1)=true then M.req
 (0≤σ.2.2.1∧σ.2.2.1<Int.ofNat (List.length σ.1)) (M.req (c_hire_within ((List.getD σ.1 (Int.toNat σ.2.2.1) (0,0)).1,0,(List.getD σ.1
 (Int.toNat σ.2.2.1) (0,0)).2)).safe (M.req ((!!M.val (c_hire_within ((List.getD σ.1 (Int.toNat σ.2.2.1) (0,0)).1,0,(List.getD σ.1 (Int.toNat
 σ.2.2.1) (0,0)).2)) false)=true→(!!M.val (c_hire_within ((List.getD σ.1 (Int.toNat σ.2.2.1) (0,0)).1,0,(List.getD σ.1 (Int.toNat σ.2.2.1) (0,
 0)).2)) false)=true∧True∧True) (M.req ((!!M.val (c_hire_within ((List.getD σ.1 (Int.toNat σ.2.2.1) (0,0)).1,0,(List.getD σ.1 (Int.toNat
 σ.2.2.1) (0,0)).2)) false)=true→((!!M.val (c_hire_within ((List.getD σ.1 (Int.toNat σ.2.2.1) (0,0)).1,0,(List.getD σ.1 (Int.toNat σ.2.2.1)
 (0,0)).2)) false)=true∧True)∧True∧True) (M.req (True∧((!M.val (c_hire_within ((List.getD σ.1 (Int.toNat σ.2.2.1) (0,0)).1,0,(List.getD
 σ.1 (Int.toNat σ.2.2.1) (0,0)).2)) false)=false→(!!M.val (c_hire_within ((List.getD σ.1 (Int.toNat σ.2.2.1) (0,0)).1,0,(List.getD σ.1
 (Int.toNat σ.2.2.1) (0,0)).2)) false)=true)) (M.req ((!(!M.val (c_hire_within ((List.getD σ.1 (Int.toNat σ.2.2.1) (0,0)).1,0,(List.getD σ.1
 (Int.toNat σ.2.2.1) (0,0)).2)) false||decide ((List.getD σ.1 (Int.toNat σ.2.2.1) (0,0)).2 > 9999)))=true→((!(!M.val (c_hire_within
 ((List.getD σ.1 (Int.toNat σ.2.2.1) (0,0)).1,0,(List.getD σ.1 (Int.toNat σ.2.2.1) (0,0)).2)) false||decide ((List.getD σ.1 (Int.toNat σ.2.2.1)
 (0,0)).2 > 9999)))=true∧True)∧True∧True) (M.req ((!(!M.val (c_hire_within ((List.getD σ.1 (Int.toNat σ.2.2.1) (0,0)).1,0,(List.getD σ.1
 (Int.toNat σ.2.2.1) (0,0)).2)) false||decide ((List.getD σ.1 (Int.toNat σ.2.2.1) (0,0)).2 > 9999)))=true→True∧True∧(!(!M.val
 (c_hire_within ((List.getD σ.1 (Int.toNat σ.2.2.1) (0,0)).1,0,(List.getD σ.1 (Int.toNat σ.2.2.1) (0,0)).2)) false||decide ((List.getD σ.1
 (Int.toNat σ.2.2.1) (0,0)).2 > 9999)))=true) (M.req ((!(!M.val (c_hire_within ((List.getD σ.1 (Int.toNat σ.2.2.1) (0,0)).1,0,(List.getD σ.1
 (Int.toNat σ.2.2.1) (0,0)).2)) false||decide ((List.getD σ.1 (Int.toNat σ.2.2.1) (0,0)).2 > 9999))&&decide (σ.2.2.1 > 0))=true→(!(!M.val
 (c_hire_within ((List.getD σ.1 (Int.toNat σ.2.2.1) (0,0)).1,0,(List.getD σ.1 (Int.toNat σ.2.2.1) (0,0)).2)) false||decide ((List.getD σ.1
 (Int.toNat σ.2.2.1) (0,0)).2 > 9999))&&decide (σ.2.2.1 > 0))=true∧True∧True) (M.req ((!(!M.val (c_hire_within ((List.getD σ.1 (Int.toNat
 σ.2.2.1) (0,0)).1,0,(List.getD σ.1 (Int.toNat σ.2.2.1) (0,0)).2)) false||decide ((List.getD σ.1 (Int.toNat σ.2.2.1) (0,0)).2 > 9999))&&
 decide (σ.2.2.1 > 0))=true→(!(!M.val (c_hire_within ((List.getD σ.1 (Int.toNat σ.2.2.1) (0,0)).1,0,(List.getD σ.1 (Int.toNat σ.2.2.1) (0,
 0)).2)) false||decide ((List.getD σ.1 (Int.toNat σ.2.2.1) (0,0)).2 > 9999))&&decide (σ.2.2.1 > 0))=true∧True∧True) (M.req ((!(!M.val
 (c_hire_within ((List.getD σ.1 (Int.toNat σ.2.2.1) (0,0)).1,0,(List.getD σ.1 (Int.toNat σ.2.2.1) (0,0)).2)) false||decide ((List.getD σ.1
 (Int.toNat σ.2.2.1) (0,0)).2 > 9999))&&decide (σ.2.2.1 > 0))=true→((!(!M.val (c_hire_within ((List.getD σ.1 (Int.toNat σ.2.2.1) (0,0)).1,0,
 (List.getD σ.1 (Int.toNat σ.2.2.1) (0,0)).2)) false||decide ((List.getD σ.1 (Int.toNat σ.2.2.1) (0,0)).2 > 9999))&&decide (σ.2.2.1 > 0))=true
 ∧True)∧True∧True) (M.req ((!(!M.val (c_hire_within ((List.getD σ.1 (Int.toNat σ.2.2.1) (0,0)).1,0,(List.getD σ.1 (Int.toNat σ.2.2.1) (0,
 0)).2)) false||decide ((List.getD σ.1 (Int.toNat σ.2.2.1) (0,0)).2 > 9999))&&decide (σ.2.2.1 > 0))=true→((!(!M.val (c_hire_within
 ((List.getD σ.1 (Int.toNat σ.2.2.1) (0,0)).1,0,(List.getD σ.1 (Int.toNat σ.2.2.1) (0,0)).2)) false||decide ((List.getD σ.1 (Int.toNat σ.2.2.1)
 (0,0)).2 > 9999))&&decide (σ.2.2.1 > 0))=true∧(!(!M.val (c_hire_within ((List.getD σ.1 (Int.toNat σ.2.2.1) (0,0)).1,0,(List.getD σ.1
 (Int.toNat σ.2.2.1) (0,0)).2)) false||decide ((List.getD σ.1 (Int.toNat σ.2.2.1) (0,0)).2 > 9999))&&decide (σ.2.2.1 > 0))=true)∧(0≤
 IntKind.wrap .i64 (σ.2.2.1 - 1)∧IntKind.wrap .i64 (σ.2.2.1 - 1)<Int.ofNat (List.length σ.2.2.2.1.2.2.2.1))∧True) (M.req ((!(!M.val
 (c_hire_within ((List.getD σ.1 (Int.toNat σ.2.2.1) (0,0)).1,0,(List.getD σ.1 (Int.toNat σ.2.2.1) (0,0)).2)) false||decide ((List.getD σ.1
 (Int.toNat σ.2.2.1) (0,0)).2 > 9999))&&decide (σ.2.2.1 > 0))=true→(!(!M.val (c_hire_within ((List.getD σ.1 (Int.toNat σ.2.2.1) (0,0)).1,0,
 (List.getD σ.1 (Int.toNat σ.2.2.1) (0,0)).2)) false||decide ((List.getD σ.1 (Int.toNat σ.2.2.1) (0,0)).2 > 9999))&&decide (σ.2.2.1 > 0))=true
 ∧True∧True) (M.req ((!(!M.val (c_hire_within ((List.getD σ.1 (Int.toNat σ.2.2.1) (0,0)).1,0,(List.getD σ.1 (Int.toNat σ.2.2.1) (0,0)).2))
 false||decide ((List.getD σ.1 (Int.toNat σ.2.2.1) (0,0)).2 > 9999))&&decide (σ.2.2.1 > 0))=true→(!(!M.val (c_hire_within ((List.getD σ.1
 (Int.toNat σ.2.2.1) (0,0)).1,0,(List.getD σ.1 (Int.toNat σ.2.2.1) (0,0)).2)) false||decide ((List.getD σ.1 (Int.toNat σ.2.2.1) (0,0)).2 >
 9999))&&decide (σ.2.2.1 > 0))=true∧True∧True) (M.req ((!(!M.val (c_hire_within ((List.getD σ.1 (Int.toNat σ.2.2.1) (0,0)).1,0,(List.getD
 σ.1 (Int.toNat σ.2.2.1) (0,0)).2)) false||decide ((List.getD σ.1 (Int.toNat σ.2.2.1) (0,0)).2 > 9999))&&decide (σ.2.2.1 > 0))=true→
 ((!(!M.val (c_hire_within ((List.getD σ.1 (Int.toNat σ.2.2.1) (0,0)).1,0,(List.getD σ.1 (Int.toNat σ.2.2.1) (0,0)).2)) false||decide
 ((List.getD σ.1 (Int.toNat σ.2.2.1) (0,0)).2 > 9999))&&decide (σ.2.2.1 > 0))=true∧(!(!M.val (c_hire_within ((List.getD σ.1 (Int.toNat σ.2.2.1)
 (0,0)).1,0,(List.getD σ.1 (Int.toNat σ.2.2.1) (0,0)).2)) false||decide ((List.getD σ.1 (Int.toNat σ.2.2.1) (0,0)).2 > 9999))&&decide
 (σ.2.2.1 > 0))=true)∧True∧True) (M.req ((!(!M.val (c_hire_within ((List.getD σ.1 (Int.toNat σ.2.2.1) (0,0)).1,0,(List.getD σ.1 (Int.toNat
 σ.2.2.1) (0,0)).2)) false||decide ((List.getD σ.1 (Int.toNat σ.2.2.1) (0,0)).2 > 9999)))=true→((!(!M.val (c_hire_within ((List.getD σ.1
 (Int.toNat σ.2.2.1) (0,0)).1,0,(List.getD σ.1 (Int.toNat σ.2.2.1) (0,0)).2)) false||decide ((List.getD σ.1 (Int.toNat σ.2.2.1) (0,0)).2 >
 9999)))=true∧(decide (σ.2.2.1 > 0)=true→(!(!M.val (c_hire_within ((List.getD σ.1 (Int.toNat σ.2.2.1) (0,0)).1,0,(List.getD σ.1 (Int.toNat
 σ.2.2.1) (0,0)).2)) false||decide ((List.getD σ.1 (Int.toNat σ.2.2.1) (0,0)).2 > 9999))&&decide (σ.2.2.1 > 0))=true))∧True∧True) (M.req
 (True∧((!M.val (c_hire_within ((List.getD σ.1 (Int.toNat σ.2.2.1) (0,0)).1,0,(List.getD σ.1 (Int.toNat σ.2.2.1) (0,0)).2)) false||decide
 ((List.getD σ.1 (Int.toNat σ.2.2.1) (0,0)).2 > 9999))=false→(!(!M.val (c_hire_within ((List.getD σ.1 (Int.toNat σ.2.2.1) (0,0)).1,0,
 (List.getD σ.1 (Int.toNat σ.2.2.1) (0,0)).2)) false||decide ((List.getD σ.1 (Int.toNat σ.2.2.1) (0,0)).2 > 9999)))=true)) (if (!M.val
 (c_hire_within ((List.getD σ.1 (Int.toNat σ.2.2.1) (0,0)).1,0,(List.getD σ.1 (Int.toNat σ.2.2.1) (0,0)).2)) false||decide ((List.getD σ.1
 (Int.toNat σ.2.2.1) (0,0)).2 > 9999)||decide (σ.2.2.1 > 0)&&decide ((List.getD σ.1 (Int.toNat σ.2.2.1) (0,0)).1≤(List.getD σ.2.2.2.1.2.2.2.1
 (Int.toNat (IntKind.wrap .i64 (σ.2.2.1 - 1))) (0,0)).2))=true then M.bind (M.bind (M.pure false) fun r=>M.pure (Step.done r)) fun r=>M.pure
 (Step.done r) else M.pure (Step.next (σ.1,σ.2.1,IntKind.wrap .i64 (Add.add σ.2.2.1 1),σ.2.2.2.1,())))))))))))))))))) else M.bind (M.pure
 (Step.next (σ.2.2.2.1,()))) fun r=>M.pure (Step.done r)) (σ.1.2.2.2.1,Int.ofNat (List.length σ.1.2.2.2.1),0,σ.1,())) (Step.go fun (σ:Ctr×
 Unit)=>M.bind (c_slices_ContainsFunc_api_Slip_api_Slip (σ.1.2.1,fun x=>c_hire_isCounter_c1 (x,some σ.1))) fun y=>M.bind (gdo (!y)
 (c_slices_ContainsFunc_int_int (σ.1.2.2.1,c_hire_isCounter_c2)) false) fun y_1=>M.pure (!y&&!y_1)))
def S_hire_once (c_slices_Sorted_int:(List Int→Prop)→M (List Int)) (c_maps_Keys_map_int_api_Slip_int_api_Slip:List (Int×Slip)→M (List Int→Prop)) (x:List Slip):M (List Slip×Bool):=
 M.bind (M.loop (fun (σ:List Slip×Int×Int×List (Int×Slip)×Unit)=>if decide (σ.2.2.1<σ.2.1)=true then M.req (0≤σ.2.2.1∧σ.2.2.1 <
 Int.ofNat (List.length σ.1)) (if (Option.isSome (Option.map (fun x=>x.2) (List.find? (fun p=>decide ((List.getD σ.1 (Int.toNat σ.2.2.1) (0,0,0,
 0,0,0)).1=p.1)) σ.2.2.2.1))&&!(decide ((Option.getD (Option.map (fun x=>x.2) (List.find? (fun p=>decide ((List.getD σ.1 (Int.toNat σ.2.2.1)
 (0,0,0,0,0,0)).1=p.1)) σ.2.2.2.1)) (0,0,0,0,0,0)).1=(List.getD σ.1 (Int.toNat σ.2.2.1) (0,0,0,0,0,0)).1)&&(decide ((Option.getD
 (Option.map (fun x=>x.2) (List.find? (fun p=>decide ((List.getD σ.1 (Int.toNat σ.2.2.1) (0,0,0,0,0,0)).1=p.1)) σ.2.2.2.1)) (0,0,0,0,0,
 0)).2.1=(List.getD σ.1 (Int.toNat σ.2.2.1) (0,0,0,0,0,0)).2.1)&&(decide ((Option.getD (Option.map (fun x=>x.2) (List.find? (fun p=>
 decide ((List.getD σ.1 (Int.toNat σ.2.2.1) (0,0,0,0,0,0)).1=p.1)) σ.2.2.2.1)) (0,0,0,0,0,0)).2.2.1=(List.getD σ.1 (Int.toNat σ.2.2.1)
 (0,0,0,0,0,0)).2.2.1)&&(decide ((Option.getD (Option.map (fun x=>x.2) (List.find? (fun p=>decide ((List.getD σ.1 (Int.toNat σ.2.2.1) (0,
 0,0,0,0,0)).1=p.1)) σ.2.2.2.1)) (0,0,0,0,0,0)).2.2.2.1=(List.getD σ.1 (Int.toNat σ.2.2.1) (0,0,0,0,0,0)).2.2.2.1)&&(decide
 ((Option.getD (Option.map (fun x=>x.2) (List.find? (fun p=>decide ((List.getD σ.1 (Int.toNat σ.2.2.1) (0,0,0,0,0,0)).1=p.1)) σ.2.2.2.1))
 (0,0,0,0,0,0)).2.2.2.2.1=(List.getD σ.1 (Int.toNat σ.2.2.1) (0,0,0,0,0,0)).2.2.2.2.1)&&decide ((Option.getD (Option.map (fun x=>x.2)
 (List.find? (fun p=>decide ((List.getD σ.1 (Int.toNat σ.2.2.1) (0,0,0,0,0,0)).1=p.1)) σ.2.2.2.1)) (0,0,0,0,0,0)).2.2.2.2.2=(List.getD
 σ.1 (Int.toNat σ.2.2.1) (0,0,0,0,0,0)).2.2.2.2.2)))))))=true then M.bind (M.bind (M.pure ([],false)) fun r=>M.pure (Step.done r)) fun r=>
 M.pure (Step.done r) else M.pure (Step.next (σ.1,σ.2.1,IntKind.wrap .i64 (Add.add σ.2.2.1 1),msetS σ.2.2.2.1 (List.getD σ.1 (Int.toNat σ.2.2.1)
 (0,0,0,0,0,0)).1 (List.getD σ.1 (Int.toNat σ.2.2.1) (0,0,0,0,0,0)),()))) else M.bind (M.pure (Step.next (σ.2.2.2.1,()))) fun r=>M.pure
 (Step.done r)) (x,Int.ofNat (List.length x),0,[],())) (Step.go fun (σ:List (Int×Slip)×Unit)=>M.bind (M.bind
 (c_maps_Keys_map_int_api_Slip_int_api_Slip σ.1) fun y=>M.bind (c_slices_Sorted_int y) fun y=>M.loop (fun (σ:List Int×Int×Int×List Slip×
 List (Int×Slip)×Unit)=>if decide (σ.2.2.1<σ.2.1)=true then M.req (0≤σ.2.2.1∧σ.2.2.1<Int.ofNat (List.length σ.1)) (M.req (lenLe
 (Add.add (List.length σ.2.2.2.1) (Add.add 0 1))) (M.pure (Step.next (σ.1,σ.2.1,IntKind.wrap .i64 (Add.add σ.2.2.1 1),σ.2.2.2.1++[Option.getD
 (Option.map (fun x=>x.2) (List.find? (fun p=>decide (List.getD σ.1 (Int.toNat σ.2.2.1) 0=p.1)) σ.2.2.2.2.1)) (0,0,0,0,0,0)],σ.2.2.2.2.1,
 ())))) else M.bind (M.pure (Step.next (σ.2.2.2.1,()))) fun r=>M.pure (Step.done r)) (y,Int.ofNat (List.length y),0,[],σ.1,())) (Step.go fun (σ
 : List Slip×Unit)=>M.pure (σ.1,true)))
def S_ref09_isCounter (c_ref09_within:Int×Int×Int→M Bool) (c_ref09_isTariff:Int×Int×Int×Int×Int×Int×Int→M Bool) (c_ref09_isSlip:Ctr×Int×Int×Int×Int×Int×Int→M Bool) (x:Ctr):M Bool:=
 M.bind (gdo (!(decide (Int.ofNat (List.length x.1) > 3)||decide (Int.ofNat (List.length x.2.1) > 12)||decide (Int.ofNat (List.length x.2.2.1) >
 12)||decide (Int.ofNat (List.length x.2.2.2.1) > 4))) (c_ref09_isTariff x.2.2.2.2) false) fun y=>if (decide (Int.ofNat (List.length x.1) > 3)||
 decide (Int.ofNat (List.length x.2.1) > 12)||decide (Int.ofNat (List.length x.2.2.1) > 12)||decide (Int.ofNat (List.length x.2.2.2.1) > 4)||!y)
 =true then M.pure false else M.bind (M.loop (fun (σ:Int×Ctr×Unit)=>if decide (σ.1<Int.ofNat (List.length σ.2.1.1))=true then M.req (0≤
 σ.1∧σ.1<Int.ofNat (List.length σ.2.1.1)) (M.req (0≤σ.1∧σ.1<Int.ofNat (List.length σ.2.1.1)) (M.req (c_ref09_within ((List.getD σ.2.1.1
 (Int.toNat σ.1) (0,0)).1,-30,(List.getD σ.2.1.1 (Int.toNat σ.1) (0,0)).2)).safe (M.req ((!!M.val (c_ref09_within ((List.getD σ.2.1.1 (Int.toNat
 σ.1) (0,0)).1,-30,(List.getD σ.2.1.1 (Int.toNat σ.1) (0,0)).2)) false)=true→(!!M.val (c_ref09_within ((List.getD σ.2.1.1 (Int.toNat σ.1) (0,
 0)).1,-30,(List.getD σ.2.1.1 (Int.toNat σ.1) (0,0)).2)) false)=true∧True∧True) (M.req ((!!M.val (c_ref09_within ((List.getD σ.2.1.1
 (Int.toNat σ.1) (0,0)).1,-30,(List.getD σ.2.1.1 (Int.toNat σ.1) (0,0)).2)) false)=true→((!!M.val (c_ref09_within ((List.getD σ.2.1.1
 (Int.toNat σ.1) (0,0)).1,-30,(List.getD σ.2.1.1 (Int.toNat σ.1) (0,0)).2)) false)=true∧(!!M.val (c_ref09_within ((List.getD σ.2.1.1
 (Int.toNat σ.1) (0,0)).1,-30,(List.getD σ.2.1.1 (Int.toNat σ.1) (0,0)).2)) false)=true)∧(0≤σ.1∧σ.1<Int.ofNat (List.length σ.2.1.1))∧
 True) (M.req ((!!M.val (c_ref09_within ((List.getD σ.2.1.1 (Int.toNat σ.1) (0,0)).1,-30,(List.getD σ.2.1.1 (Int.toNat σ.1) (0,0)).2)) false)=
 true→(!!M.val (c_ref09_within ((List.getD σ.2.1.1 (Int.toNat σ.1) (0,0)).1,-30,(List.getD σ.2.1.1 (Int.toNat σ.1) (0,0)).2)) false)=true∧
 True∧True) (M.req ((!!M.val (c_ref09_within ((List.getD σ.2.1.1 (Int.toNat σ.1) (0,0)).1,-30,(List.getD σ.2.1.1 (Int.toNat σ.1) (0,0)).2))
 false)=true→(!!M.val (c_ref09_within ((List.getD σ.2.1.1 (Int.toNat σ.1) (0,0)).1,-30,(List.getD σ.2.1.1 (Int.toNat σ.1) (0,0)).2)) false)=
 true∧True∧True) (M.req ((!!M.val (c_ref09_within ((List.getD σ.2.1.1 (Int.toNat σ.1) (0,0)).1,-30,(List.getD σ.2.1.1 (Int.toNat σ.1) (0,
 0)).2)) false)=true→((!!M.val (c_ref09_within ((List.getD σ.2.1.1 (Int.toNat σ.1) (0,0)).1,-30,(List.getD σ.2.1.1 (Int.toNat σ.1) (0,0)).2))
 false)=true∧True)∧True∧True) (M.req (True∧((!M.val (c_ref09_within ((List.getD σ.2.1.1 (Int.toNat σ.1) (0,0)).1,-30,(List.getD σ.2.1.1
 (Int.toNat σ.1) (0,0)).2)) false)=false→(!!M.val (c_ref09_within ((List.getD σ.2.1.1 (Int.toNat σ.1) (0,0)).1,-30,(List.getD σ.2.1.1
 (Int.toNat σ.1) (0,0)).2)) false)=true)) (if (!M.val (c_ref09_within ((List.getD σ.2.1.1 (Int.toNat σ.1) (0,0)).1,-30,(List.getD σ.2.1.1
 (Int.toNat σ.1) (0,0)).2)) false||decide ((List.getD σ.2.1.1 (Int.toNat σ.1) (0,0)).2 > 30))=true then M.bind (M.bind (M.pure false) fun r=>
 M.pure (Step.done r)) fun r=>M.pure (Step.done r) else M.pure (Step.next (IntKind.wrap .i64 (Add.add σ.1 1),σ.2.1,()))))))))))) else M.bind
 (M.pure (Step.next (σ.2.1,()))) fun r=>M.pure (Step.done r)) (0,x,())) (Step.go fun (σ:Ctr×Unit)=>M.bind (M.loop (fun (σ:Int×Ctr×
 Unit)=>if decide (σ.1<Int.ofNat (List.length σ.2.1.2.1))=true then M.req (0≤σ.1∧σ.1<Int.ofNat (List.length σ.2.1.2.1)) (M.req
 (c_ref09_isSlip (σ.2.1,List.getD σ.2.1.2.1 (Int.toNat σ.1) (0,0,0,0,0,0))).safe (if (!M.val (c_ref09_isSlip (σ.2.1,List.getD σ.2.1.2.1
 (Int.toNat σ.1) (0,0,0,0,0,0))) false)=true then M.bind (M.bind (M.pure false) fun r=>M.pure (Step.done r)) fun r=>M.pure (Step.done r)
 else M.pure (Step.next (IntKind.wrap .i64 (Add.add σ.1 1),σ.2.1,())))) else M.bind (M.pure (Step.next (σ.2.1,()))) fun r=>M.pure (Step.done r))
 (0,σ.1,())) (Step.go fun (σ:Ctr×Unit)=>M.bind (M.loop (fun (σ:Int×Ctr×Unit)=>if decide (σ.1<Int.ofNat (List.length σ.2.1.2.2.1))=
 true then M.req (0≤σ.1∧σ.1<Int.ofNat (List.length σ.2.1.2.2.1)) (M.bind (c_ref09_within (List.getD σ.2.1.2.2.1 (Int.toNat σ.1) 0,0,99)) fun y
 =>if (!y)=true then M.bind (M.bind (M.pure false) fun r=>M.pure (Step.done r)) fun r=>M.pure (Step.done r) else M.pure (Step.next
 (IntKind.wrap .i64 (Add.add σ.1 1),σ.2.1,()))) else M.bind (M.pure (Step.next (σ.2.1,()))) fun r=>M.pure (Step.done r)) (0,σ.1,())) (Step.go
 fun (σ:Ctr×Unit)=>M.bind (M.loop (fun (σ:Int×Ctr×Unit)=>if decide (σ.1<Int.ofNat (List.length σ.2.1.2.2.2.1))=true then M.req (0≤
 σ.1∧σ.1<Int.ofNat (List.length σ.2.1.2.2.2.1)) (M.req (c_ref09_within ((List.getD σ.2.1.2.2.2.1 (Int.toNat σ.1) (0,0)).1,0,(List.getD
 σ.2.1.2.2.2.1 (Int.toNat σ.1) (0,0)).2)).safe (M.req ((!!M.val (c_ref09_within ((List.getD σ.2.1.2.2.2.1 (Int.toNat σ.1) (0,0)).1,0,(List.getD
 σ.2.1.2.2.2.1 (Int.toNat σ.1) (0,0)).2)) false)=true→(!!M.val (c_ref09_within ((List.getD σ.2.1.2.2.2.1 (Int.toNat σ.1) (0,0)).1,0,(List.getD
 σ.2.1.2.2.2.1 (Int.toNat σ.1) (0,0)).2)) false)=true∧True∧True) (M.req ((!!M.val (c_ref09_within ((List.getD σ.2.1.2.2.2.1 (Int.toNat σ.1) (0,
 0)).1,0,(List.getD σ.2.1.2.2.2.1 (Int.toNat σ.1) (0,0)).2)) false)=true→((!!M.val (c_ref09_within ((List.getD σ.2.1.2.2.2.1 (Int.toNat σ.1)
 (0,0)).1,0,(List.getD σ.2.1.2.2.2.1 (Int.toNat σ.1) (0,0)).2)) false)=true∧True)∧True∧True) (M.req (True∧((!M.val (c_ref09_within
 ((List.getD σ.2.1.2.2.2.1 (Int.toNat σ.1) (0,0)).1,0,(List.getD σ.2.1.2.2.2.1 (Int.toNat σ.1) (0,0)).2)) false)=false→(!!M.val
 (c_ref09_within ((List.getD σ.2.1.2.2.2.1 (Int.toNat σ.1) (0,0)).1,0,(List.getD σ.2.1.2.2.2.1 (Int.toNat σ.1) (0,0)).2)) false)=true)) (M.req
 ((!(!M.val (c_ref09_within ((List.getD σ.2.1.2.2.2.1 (Int.toNat σ.1) (0,0)).1,0,(List.getD σ.2.1.2.2.2.1 (Int.toNat σ.1) (0,0)).2)) false||
 decide ((List.getD σ.2.1.2.2.2.1 (Int.toNat σ.1) (0,0)).2 > 9999)))=true→((!(!M.val (c_ref09_within ((List.getD σ.2.1.2.2.2.1 (Int.toNat σ.1)
 (0,0)).1,0,(List.getD σ.2.1.2.2.2.1 (Int.toNat σ.1) (0,0)).2)) false||decide ((List.getD σ.2.1.2.2.2.1 (Int.toNat σ.1) (0,0)).2 > 9999)))=
 true∧True)∧True∧True) (M.req ((!(!M.val (c_ref09_within ((List.getD σ.2.1.2.2.2.1 (Int.toNat σ.1) (0,0)).1,0,(List.getD σ.2.1.2.2.2.1
 (Int.toNat σ.1) (0,0)).2)) false||decide ((List.getD σ.2.1.2.2.2.1 (Int.toNat σ.1) (0,0)).2 > 9999)))=true→True∧True∧(!(!M.val
 (c_ref09_within ((List.getD σ.2.1.2.2.2.1 (Int.toNat σ.1) (0,0)).1,0,(List.getD σ.2.1.2.2.2.1 (Int.toNat σ.1) (0,0)).2)) false||decide
 ((List.getD σ.2.1.2.2.2.1 (Int.toNat σ.1) (0,0)).2 > 9999)))=true) (M.req ((!(!M.val (c_ref09_within ((List.getD σ.2.1.2.2.2.1 (Int.toNat σ.1) (0,
 0)).1,0,(List.getD σ.2.1.2.2.2.1 (Int.toNat σ.1) (0,0)).2)) false||decide ((List.getD σ.2.1.2.2.2.1 (Int.toNat σ.1) (0,0)).2 > 9999))&&decide
 (σ.1 > 0))=true→(!(!M.val (c_ref09_within ((List.getD σ.2.1.2.2.2.1 (Int.toNat σ.1) (0,0)).1,0,(List.getD σ.2.1.2.2.2.1 (Int.toNat σ.1) (0,
 0)).2)) false||decide ((List.getD σ.2.1.2.2.2.1 (Int.toNat σ.1) (0,0)).2 > 9999))&&decide (σ.1 > 0))=true∧True∧True) (M.req ((!(!M.val
 (c_ref09_within ((List.getD σ.2.1.2.2.2.1 (Int.toNat σ.1) (0,0)).1,0,(List.getD σ.2.1.2.2.2.1 (Int.toNat σ.1) (0,0)).2)) false||decide
 ((List.getD σ.2.1.2.2.2.1 (Int.toNat σ.1) (0,0)).2 > 9999))&&decide (σ.1 > 0))=true→(!(!M.val (c_ref09_within ((List.getD σ.2.1.2.2.2.1
 (Int.toNat σ.1) (0,0)).1,0,(List.getD σ.2.1.2.2.2.1 (Int.toNat σ.1) (0,0)).2)) false||decide ((List.getD σ.2.1.2.2.2.1 (Int.toNat σ.1) (0,
 0)).2 > 9999))&&decide (σ.1 > 0))=true∧True∧True) (M.req ((!(!M.val (c_ref09_within ((List.getD σ.2.1.2.2.2.1 (Int.toNat σ.1) (0,0)).1,0,
 (List.getD σ.2.1.2.2.2.1 (Int.toNat σ.1) (0,0)).2)) false||decide ((List.getD σ.2.1.2.2.2.1 (Int.toNat σ.1) (0,0)).2 > 9999))&&decide (σ.1 >
 0))=true→((!(!M.val (c_ref09_within ((List.getD σ.2.1.2.2.2.1 (Int.toNat σ.1) (0,0)).1,0,(List.getD σ.2.1.2.2.2.1 (Int.toNat σ.1) (0,0)).2))
 false||decide ((List.getD σ.2.1.2.2.2.1 (Int.toNat σ.1) (0,0)).2 > 9999))&&decide (σ.1 > 0))=true∧True)∧True∧True) (M.req ((!(!M.val
 (c_ref09_within ((List.getD σ.2.1.2.2.2.1 (Int.toNat σ.1) (0,0)).1,0,(List.getD σ.2.1.2.2.2.1 (Int.toNat σ.1) (0,0)).2)) false||decide
 ((List.getD σ.2.1.2.2.2.1 (Int.toNat σ.1) (0,0)).2 > 9999))&&decide (σ.1 > 0))=true→((!(!M.val (c_ref09_within ((List.getD σ.2.1.2.2.2.1
 (Int.toNat σ.1) (0,0)).1,0,(List.getD σ.2.1.2.2.2.1 (Int.toNat σ.1) (0,0)).2)) false||decide ((List.getD σ.2.1.2.2.2.1 (Int.toNat σ.1) (0,
 0)).2 > 9999))&&decide (σ.1 > 0))=true∧(!(!M.val (c_ref09_within ((List.getD σ.2.1.2.2.2.1 (Int.toNat σ.1) (0,0)).1,0,(List.getD
 σ.2.1.2.2.2.1 (Int.toNat σ.1) (0,0)).2)) false||decide ((List.getD σ.2.1.2.2.2.1 (Int.toNat σ.1) (0,0)).2 > 9999))&&decide (σ.1 > 0))=true)∧
 (0≤IntKind.wrap .i64 (σ.1 - 1)∧IntKind.wrap .i64 (σ.1 - 1)<Int.ofNat (List.length σ.2.1.2.2.2.1))∧True) (M.req ((!(!M.val (c_ref09_within
 ((List.getD σ.2.1.2.2.2.1 (Int.toNat σ.1) (0,0)).1,0,(List.getD σ.2.1.2.2.2.1 (Int.toNat σ.1) (0,0)).2)) false||decide ((List.getD
 σ.2.1.2.2.2.1 (Int.toNat σ.1) (0,0)).2 > 9999))&&decide (σ.1 > 0))=true→(!(!M.val (c_ref09_within ((List.getD σ.2.1.2.2.2.1 (Int.toNat σ.1)
 (0,0)).1,0,(List.getD σ.2.1.2.2.2.1 (Int.toNat σ.1) (0,0)).2)) false||decide ((List.getD σ.2.1.2.2.2.1 (Int.toNat σ.1) (0,0)).2 > 9999))&&
 decide (σ.1 > 0))=true∧True∧True) (M.req ((!(!M.val (c_ref09_within ((List.getD σ.2.1.2.2.2.1 (Int.toNat σ.1) (0,0)).1,0,(List.getD
 σ.2.1.2.2.2.1 (Int.toNat σ.1) (0,0)).2)) false||decide ((List.getD σ.2.1.2.2.2.1 (Int.toNat σ.1) (0,0)).2 > 9999))&&decide (σ.1 > 0))=true→
 (!(!M.val (c_ref09_within ((List.getD σ.2.1.2.2.2.1 (Int.toNat σ.1) (0,0)).1,0,(List.getD σ.2.1.2.2.2.1 (Int.toNat σ.1) (0,0)).2)) false||
 decide ((List.getD σ.2.1.2.2.2.1 (Int.toNat σ.1) (0,0)).2 > 9999))&&decide (σ.1 > 0))=true∧True∧True) (M.req ((!(!M.val (c_ref09_within
 ((List.getD σ.2.1.2.2.2.1 (Int.toNat σ.1) (0,0)).1,0,(List.getD σ.2.1.2.2.2.1 (Int.toNat σ.1) (0,0)).2)) false||decide ((List.getD
 σ.2.1.2.2.2.1 (Int.toNat σ.1) (0,0)).2 > 9999))&&decide (σ.1 > 0))=true→((!(!M.val (c_ref09_within ((List.getD σ.2.1.2.2.2.1 (Int.toNat σ.1)
 (0,0)).1,0,(List.getD σ.2.1.2.2.2.1 (Int.toNat σ.1) (0,0)).2)) false||decide ((List.getD σ.2.1.2.2.2.1 (Int.toNat σ.1) (0,0)).2 > 9999))&&
 decide (σ.1 > 0))=true∧(!(!M.val (c_ref09_within ((List.getD σ.2.1.2.2.2.1 (Int.toNat σ.1) (0,0)).1,0,(List.getD σ.2.1.2.2.2.1 (Int.toNat σ.1)
 (0,0)).2)) false||decide ((List.getD σ.2.1.2.2.2.1 (Int.toNat σ.1) (0,0)).2 > 9999))&&decide (σ.1 > 0))=true)∧True∧True) (M.req
 ((!(!M.val (c_ref09_within ((List.getD σ.2.1.2.2.2.1 (Int.toNat σ.1) (0,0)).1,0,(List.getD σ.2.1.2.2.2.1 (Int.toNat σ.1) (0,0)).2)) false||
 decide ((List.getD σ.2.1.2.2.2.1 (Int.toNat σ.1) (0,0)).2 > 9999)))=true→((!(!M.val (c_ref09_within ((List.getD σ.2.1.2.2.2.1 (Int.toNat σ.1)
 (0,0)).1,0,(List.getD σ.2.1.2.2.2.1 (Int.toNat σ.1) (0,0)).2)) false||decide ((List.getD σ.2.1.2.2.2.1 (Int.toNat σ.1) (0,0)).2 > 9999)))=
 true∧(decide (σ.1 > 0)=true→(!(!M.val (c_ref09_within ((List.getD σ.2.1.2.2.2.1 (Int.toNat σ.1) (0,0)).1,0,(List.getD σ.2.1.2.2.2.1
 (Int.toNat σ.1) (0,0)).2)) false||decide ((List.getD σ.2.1.2.2.2.1 (Int.toNat σ.1) (0,0)).2 > 9999))&&decide (σ.1 > 0))=true))∧True∧True)
 (M.req (True∧((!M.val (c_ref09_within ((List.getD σ.2.1.2.2.2.1 (Int.toNat σ.1) (0,0)).1,0,(List.getD σ.2.1.2.2.2.1 (Int.toNat σ.1) (0,0)).2))
 false||decide ((List.getD σ.2.1.2.2.2.1 (Int.toNat σ.1) (0,0)).2 > 9999))=false→(!(!M.val (c_ref09_within ((List.getD σ.2.1.2.2.2.1 (Int.toNat
 σ.1) (0,0)).1,0,(List.getD σ.2.1.2.2.2.1 (Int.toNat σ.1) (0,0)).2)) false||decide ((List.getD σ.2.1.2.2.2.1 (Int.toNat σ.1) (0,0)).2 > 9999)))
 =true)) (if (!M.val (c_ref09_within ((List.getD σ.2.1.2.2.2.1 (Int.toNat σ.1) (0,0)).1,0,(List.getD σ.2.1.2.2.2.1 (Int.toNat σ.1) (0,0)).2))
 false||decide ((List.getD σ.2.1.2.2.2.1 (Int.toNat σ.1) (0,0)).2 > 9999)||decide (σ.1 > 0)&&decide ((List.getD σ.2.1.2.2.2.1 (Int.toNat σ.1)
 (0,0)).1≤(List.getD σ.2.1.2.2.2.1 (Int.toNat (IntKind.wrap .i64 (σ.1 - 1))) (0,0)).2))=true then M.bind (M.bind (M.pure false) fun r=>M.pure
 (Step.done r)) fun r=>M.pure (Step.done r) else M.pure (Step.next (IntKind.wrap .i64 (Add.add σ.1 1),σ.2.1,())))))))))))))))))) else M.bind
 (M.pure (Step.next ())) fun r=>M.pure (Step.done r)) (0,σ.1,())) (Step.go fun (σ:Unit)=>M.pure true))))
def S_ref09_clash (x:Slip×Int×Int×Int×Int×Int×Int):M Bool:=
 M.pure (decide (x.1.1=x.2.1)&&!(decide (x.1.1=x.2.1)&&(decide (x.1.2.1=x.2.2.1)&&(decide (x.1.2.2.1=x.2.2.2.1)&&(decide (x.1.2.2.2.1
 =x.2.2.2.2.1)&&(decide (x.1.2.2.2.2.1=x.q5)&&decide (x.1.2.2.2.2.2=x.2.2.2.2.2.2)))))))
def S_hire_Watch_c1 (c_hire_within:Int×Int×Int→M Bool) (x:Option Book×Option Int×Option Ctr):M Bool:=
 (M.bind (c_hire_within (Option.getD x.2.1 0,0,IntKind.wrap .i64 (Int.ofNat (List.length (Option.getD x.2.2 ([],[],[],[],0,0,0,0,0,0,
 0)).1) - 1))) fun y=>M.pure y)
def S_hire_Watch_c2 (x:Option Tru×Option Int):M (Int×Bool):=
 (M.req (Option.isSome x.1=true) (M.req (0≤Option.getD x.2 0∧Option.getD x.2 0<Int.ofNat (List.length (Option.getD x.1 ([],[[],[],[],[],
 [],[],[],[],[],[]])).1)) (M.pure (List.getD (Option.getD x.1 ([],[[],[],[],[],[],[],[],[],[],[]])).1 (Int.toNat (Option.getD x.2 0))
 0,true))))
def S_ref09_within (c_ref07_Within:Int×Int×Int→M Bool) (x:Int×Int×Int):M Bool:=
 M.bind (c_ref07_Within x) fun y=>M.pure y
def S_hire_open (x:Ctr×Int×Int):M Int:=
 M.bind (M.loop (fun (σ:Int×Int×Int×List (Int×Int)×Int×Int×Unit)=>if decide (σ.q5<σ.2.2.2.2.1)=true then M.req (0≤σ.q5∧σ.q5
 < Int.ofNat (List.length σ.2.2.2.1)) (M.pure (Step.next (σ.1,σ.2.1,IntKind.wrap .i64 (σ.2.2.1 - if IntKind.wrap .i64 (Add.add (IntKind.wrap .i64
 ((if IntKind.wrap .i64 (σ.2.1 - 1)<(List.getD σ.2.2.2.1 (Int.toNat σ.q5) (0,0)).2 then IntKind.wrap .i64 (σ.2.1 - 1) else (List.getD σ.2.2.2.1
 (Int.toNat σ.q5) (0,0)).2) - if σ.1 > (List.getD σ.2.2.2.1 (Int.toNat σ.q5) (0,0)).1 then σ.1 else (List.getD σ.2.2.2.1 (Int.toNat σ.q5) (0,
 0)).1)) 1) > 0 then IntKind.wrap .i64 (Add.add (IntKind.wrap .i64 ((if IntKind.wrap .i64 (σ.2.1 - 1)<(List.getD σ.2.2.2.1 (Int.toNat σ.q5) (0,
 0)).2 then IntKind.wrap .i64 (σ.2.1 - 1) else (List.getD σ.2.2.2.1 (Int.toNat σ.q5) (0,0)).2) - if σ.1 > (List.getD σ.2.2.2.1 (Int.toNat σ.q5) (0,
 0)).1 then σ.1 else (List.getD σ.2.2.2.1 (Int.toNat σ.q5) (0,0)).1)) 1) else 0),σ.2.2.2.1,σ.2.2.2.2.1,IntKind.wrap .i64 (Add.add σ.q5 1),())))
 else M.bind (M.pure (Step.next (σ.2.2.1,()))) fun r=>M.pure (Step.done r)) (x.2.1,x.2.2,IntKind.wrap .i64 (x.2.2 - x.2.1),x.1.2.2.2.1,
 Int.ofNat (List.length x.1.2.2.2.1),0,())) (Step.go fun (σ:Int×Unit)=>M.pure σ.1)
def S_slices_Clone_api_Span_api_Span (x:List (Int×Int)):M (List (Int×Int)):=
 M.bind (M.any fun b=>b=true→x=[]) fun y=>if y=true then M.pure [] else M.req (lenLe (Add.add 0 (List.length x))) (M.pure ([]++x))
def S_hire_read_c1 (c_slices_Contains_int_int:List Int×Int→M Bool) (x:Slip×Option Ctr):M Bool:=
 (M.bind (c_slices_Contains_int_int ((Option.getD x.2 ([],[],[],[],0,0,0,0,0,0,0)).2.2.1,x.1.1)) fun y=>M.pure y)
def S_slices_Contains_int_int (c_slices_Index_int_int:List Int×Int→M Int) (x:List Int×Int):M Bool:=
 M.bind (c_slices_Index_int_int x) fun y=>M.pure (decide (y≥0))
def S_hire_lasts_c1 (c_slices_ContainsFunc_api_Slip_api_Slip:List Slip×(Int×Int×Int×Int×Int×Int→M Bool)→M Bool) (c_hire_lasts_c1_c1:Slip×Option Int→M Bool) (x:Option Book×Option Int):M Bool:=
 (M.req (Option.isSome x.1=true) (M.bind (c_slices_ContainsFunc_api_Slip_api_Slip ((Option.getD x.1 (([],[],[],[],0,0,0,0,0,0,0),[],
 [])).2.1,fun x_1=>c_hire_lasts_c1_c1 (x_1,some (Option.getD x.2 0)))) fun y=>M.pure y))
def S_slices_ContainsFunc_api_Slip_api_Slip (c_slices_IndexFunc_api_Slip_api_Slip:List Slip×(Int×Int×Int×Int×Int×Int→M Bool)→M Int) (x:List Slip×(Int×Int×Int×Int×Int×Int→M Bool)):M Bool:=
 M.bind (c_slices_IndexFunc_api_Slip_api_Slip x) fun y=>M.pure (decide (y≥0))
def S_hire_lasts_c1_c1 (x:Slip×Option Int):M Bool:=
 (M.pure (decide (x.1.1=Option.getD x.2 0)&&decide (x.1.2.2.2.1=1)))
def S_hire_lasts_c2 (c_hire_book_hires:Option Book×Option Tru→M (List Ev→Prop)) (x:Option Tru×Option (Option Book)×Option Int×Option (Int→M Int)):M (Int×Bool):=
  (M.bind (c_hire_book_hires (Option.getD x.2.1 none,x.1)) fun y=>M.bind (M.any y) fun L=>M.bind (rounds (fun (σ:Int×(Int→M Int)×Int×
  Bool×Unit) (y:Slip×Int)=>M.bind (if decide (y.1.1=σ.1)=true then M.bind (σ.2.1 y.2) fun y=>M.pure (Ex.ret,y,true,()) else M.pure
  (Ex.normal, σ.2.2.1, σ.2.2.2.1, ())) fun p => M.pure (p.1, σ.1, σ.2.1, p.2.1, p.2.2.1, ())) L (Option.getD x.2.2.1 0, Option.getD x.2.2.2 fun x => {
  safe:=False,out:=fun x=>False },0,false,())) fun p=>exC (M.pure (0,false)) (fun id=>if id=0 then M.pure (0,false) else M.fail)
  (M.pure (p.2.2.2.1,p.2.2.2.2.1)) p.1)
def S_hire_isTariff (c_hire_within:Int×Int×Int→M Bool) (x:Int×Int×Int×Int×Int×Int×Int):M Bool:=
 M.bind (M.loop (fun (σ:Int×Int×Tar×List Int×Unit)=>if decide (σ.2.1<σ.1)=true then M.req (0≤σ.2.1∧σ.2.1<Int.ofNat (List.length
 σ.2.2.2.1)) (M.bind (c_hire_within (List.getD σ.2.2.2.1 (Int.toNat σ.2.1) 0,0,100000)) fun y=>if (!y)=true then M.bind (M.bind (M.pure false)
 fun r=>M.pure (Step.done r)) fun r=>M.pure (Step.done r) else M.pure (Step.next (σ.1,IntKind.wrap .i64 (Add.add σ.2.1 1),σ.2.2.1,σ.2.2.2.1,
 ()))) else M.bind (M.pure (Step.next (σ.2.2.1,()))) fun r=>M.pure (Step.done r)) (Int.ofNat (Add.add (Add.add (Add.add (Add.add 0 1) 1) 1) 1),0,
 x,[x.2.2.1,x.2.2.2.1,x.q5,x.2.2.2.2.2.2],())) (Step.go fun (σ:Tar×Unit)=>M.bind (c_hire_within (σ.1.1,0,9999)) fun y=>M.bind (gdo y
 (c_hire_within (σ.1.2.1,1,9999)) false) fun y_1=>M.bind (gdo (y&&y_1) (c_hire_within (σ.1.2.2.2.2.1,1,9999)) false) fun y_2=>M.pure (y&&
 y_1&&y_2))
def S_hire_isCounter_c1 (c_hire_isSlip:Ctr×Int×Int×Int×Int×Int×Int→M Bool) (x:Slip×Option Ctr):M Bool:=
 (M.bind (c_hire_isSlip (Option.getD x.2 ([],[],[],[],0,0,0,0,0,0,0),x.1)) fun y=>M.pure !y)
def S_hire_isSlip (c_hire_within:Int×Int×Int→M Bool) (c_hire_isId:Int→M Bool) (x:Ctr×Int×Int×Int×Int×Int×Int):M Bool:=
 M.bind (gdo (decide (x.2.2.2.2.1=1)||decide (x.2.2.2.2.1=2)&&decide (x.2.2.2.2.2.2=0)) (c_hire_isId x.2.1) false) fun y=>M.bind (gdo
 ((decide (x.2.2.2.2.1=1)||decide (x.2.2.2.2.1=2)&&decide (x.2.2.2.2.2.2=0))&&y) (c_hire_isId x.2.2.2.2.2.2) false) fun y_1=>M.bind (gdo
 ((decide (x.2.2.2.2.1=1)||decide (x.2.2.2.2.1=2)&&decide (x.2.2.2.2.2.2=0))&&y&&y_1) (c_hire_within (x.2.2.1,0,IntKind.wrap .i64
 (Int.ofNat (List.length x.1.1) - 1))) false) fun y_2=>M.bind (gdo ((decide (x.2.2.2.2.1=1)||decide (x.2.2.2.2.1=2)&&decide (x.2.2.2.2.2.2=
 0))&&y&&y_1&&y_2) (c_hire_within (x.2.2.2.1,0,9999)) false) fun y_3=>M.bind (gdo ((decide (x.2.2.2.2.1=1)||decide (x.2.2.2.2.1=2)&&
 decide (x.2.2.2.2.2.2=0))&&y&&y_1&&y_2&&y_3) (c_hire_within (x.q5,0,9)) false) fun y_4=>M.pure ((decide (x.2.2.2.2.1=1)||decide
 (x.2.2.2.2.1=2)&&decide (x.2.2.2.2.2.2=0))&&y&&y_1&&y_2&&y_3&&y_4)
def S_hire_isCounter_c2 (c_hire_isId:Int→M Bool) (x:Int):M Bool:=
 M.bind (c_hire_isId x) fun y=>M.pure !y
def S_slices_ContainsFunc_int_int (c_slices_IndexFunc_int_int:List Int×(Int→M Bool)→M Int) (x:List Int×(Int→M Bool)):M Bool:=
 M.bind (c_slices_IndexFunc_int_int x) fun y=>M.pure (decide (y≥0))
def S_maps_Keys_map_int_api_Slip_int_api_Slip (its_117:Option (List (Int×Slip))→List Int→Prop) (x:List (Int×Slip)):M (List Int→Prop):=
 M.pure (its_117 (some x))
def S_ref09_isTariff (c_ref09_within:Int×Int×Int→M Bool) (x:Int×Int×Int×Int×Int×Int×Int):M Bool:=
 M.bind (c_ref09_within (x.1,0,9999)) fun y=>M.bind (gdo y (c_ref09_within (x.2.1,1,9999)) false) fun y_1=>M.bind (gdo (y&&y_1)
 (c_ref09_within (x.2.2.2.2.1,1,9999)) false) fun y_2=>M.bind (gdo (y&&y_1&&y_2) (c_ref09_within (x.2.2.1,0,100000)) false) fun y_3=>
 M.bind (gdo (y&&y_1&&y_2&&y_3) (c_ref09_within (x.2.2.2.1,0,100000)) false) fun y_4=>M.bind (gdo (y&&y_1&&y_2&&y_3&&y_4)
 (c_ref09_within (x.q5,0,100000)) false) fun y_5=>M.bind (gdo (y&&y_1&&y_2&&y_3&&y_4&&y_5) (c_ref09_within (x.2.2.2.2.2.2,0,100000))
 false) fun y_6=>M.pure (y&&y_1&&y_2&&y_3&&y_4&&y_5&&y_6)
def S_ref09_isSlip (c_ref09_within:Int×Int×Int→M Bool) (x:Ctr×Int×Int×Int×Int×Int×Int):M Bool:=
 M.bind (c_ref09_within (x.2.1,0,99)) fun y=>M.bind (gdo (!!y) (c_ref09_within (x.2.2.1,0,IntKind.wrap .i64 (Int.ofNat (List.length x.1.1) -
 1))) false) fun y_1=>M.bind (gdo (!(!y||!y_1)) (c_ref09_within (x.2.2.2.1,0,9999)) false) fun y_2=>M.bind (gdo (!(!y||!y_1||!y_2))
 (c_ref09_within (x.q5,0,9)) false) fun y_3=>M.bind (gdo (!(!y||!y_1||!y_2||!y_3)) (c_ref09_within (x.2.2.2.2.2.2,0,99)) false) fun y_4=>
 if (!y||!y_1||!y_2||!y_3||!y_4)=true then M.pure false else M.pure (decide (x.2.2.2.2.1=1)||decide (x.2.2.2.2.1=2)&&decide
 (x.2.2.2.2.2.2=0))
def S_ref07_Within (x:Int×Int×Int):M Bool:=
 M.pure (decide (x.1≥x.2.1)&&decide (x.1≤x.2.2))
def S_math_bits_Len (c_f128:Int→M Int) (c_math_bits_Len64:Int→M Int) (x:Int):M Int:=
 M.bind (c_math_bits_Len64 x) fun y=>M.pure y
def S_slices_IndexFunc_api_Slip_api_Slip (x:List Slip×(Int×Int×Int×Int×Int×Int→M Bool)):M Int:=
 M.bind (M.loop (fun (σ:List Slip×(Int×Int×Int×Int×Int×Int→M Bool)×Int×Int×Unit)=>if decide (σ.2.2.2.1<σ.2.2.1)=true then
 M.req (0≤σ.2.2.2.1∧σ.2.2.2.1<Int.ofNat (List.length σ.1)) (M.bind (σ.2.1 (List.getD σ.1 (Int.toNat σ.2.2.2.1) (0,0,0,0,0,0))) fun y=>if
 y=true then M.bind (M.bind (M.pure σ.2.2.2.1) fun r=>M.pure (Step.done r)) fun r=>M.pure (Step.done r) else M.pure (Step.next (σ.1,σ.2.1,
 σ.2.2.1,IntKind.wrap .i64 (Add.add σ.2.2.2.1 1),()))) else M.bind (M.pure (Step.next ())) fun r=>M.pure (Step.done r)) (x.1,x.2,Int.ofNat
 (List.length x.1),0,())) (Step.go fun (σ:Unit)=>M.pure (-1))
def S_slices_Index_int_int (x:List Int×Int):M Int:=
 M.bind (M.loop (fun (σ:List Int×Int×Int×Int×Unit)=>if decide (σ.2.2.2.1<σ.2.2.1)=true then M.req (0≤σ.2.2.2.1∧σ.2.2.2.1 <
 Int.ofNat (List.length σ.1)) (if decide (σ.2.1=List.getD σ.1 (Int.toNat σ.2.2.2.1) 0)=true then M.bind (M.bind (M.pure σ.2.2.2.1) fun r=>M.pure
 (Step.done r)) fun r=>M.pure (Step.done r) else M.pure (Step.next (σ.1,σ.2.1,σ.2.2.1,IntKind.wrap .i64 (Add.add σ.2.2.2.1 1),()))) else M.bind
 (M.pure (Step.next ())) fun r=>M.pure (Step.done r)) (x.1,x.2,Int.ofNat (List.length x.1),0,())) (Step.go fun (σ:Unit)=>M.pure (-1))
def S_slices_IndexFunc_int_int (x:List Int×(Int→M Bool)):M Int:=
 M.bind (M.loop (fun (σ:List Int×(Int→M Bool)×Int×Int×Unit)=>if decide (σ.2.2.2.1<σ.2.2.1)=true then M.req (0≤σ.2.2.2.1∧
 σ.2.2.2.1<Int.ofNat (List.length σ.1)) (M.bind (σ.2.1 (List.getD σ.1 (Int.toNat σ.2.2.2.1) 0)) fun y=>if y=true then M.bind (M.bind (M.pure
 σ.2.2.2.1) fun r=>M.pure (Step.done r)) fun r=>M.pure (Step.done r) else M.pure (Step.next (σ.1,σ.2.1,σ.2.2.1,IntKind.wrap .i64 (Add.add
 σ.2.2.2.1 1),()))) else M.bind (M.pure (Step.next ())) fun r=>M.pure (Step.done r)) (x.1,x.2,Int.ofNat (List.length x.1),0,())) (Step.go fun (σ
 : Unit)=>M.pure (-1))
def S_math_bits_Len64 (x:Int):M Int:=
 M.bind (if decide (x≥4294967296)=true then M.req ((0:Int)≤32) (M.pure (Step.next (ishr .u64 x 32,32,()))) else M.pure (Step.next (x,0,
 ()))) (Step.go fun (σ:Int×Int×Unit)=>M.bind (if decide (σ.1≥65536)=true then M.req ((0:Int)≤16) (M.pure (Step.next (ishr .u64 σ.1 16,
 IntKind.wrap .i64 (Add.add σ.2.1 16),()))) else M.pure (Step.next (σ.1,σ.2.1,()))) (Step.go fun (σ:Int×Int×Unit)=>M.bind (if decide (σ.1≥
 256)=true then M.req ((0:Int)≤8) (M.pure (Step.next (ishr .u64 σ.1 8,IntKind.wrap .i64 (Add.add σ.2.1 8),()))) else M.pure (Step.next (σ.1,
 σ.2.1,()))) (Step.go fun (σ:Int×Int×Unit)=>M.req (0≤IntKind.wrap .u8 σ.1∧IntKind.wrap .u8 σ.1<Int.ofNat 256) (M.pure (IntKind.wrap
 .i64 (Add.add σ.2.1 (IntKind.wrap .i64 (Int.ofNat (List.getD len8 (Int.toNat (IntKind.wrap .u8 σ.1)) 0).1.1.1))))))))
def S_slices_Clone_int_int (x:List Int):M (List Int):=
 M.bind (M.any fun b=>b=true→x=[]) fun y=>if y=true then M.pure [] else M.req (lenLe (Add.add 0 (List.length x))) (M.pure ([]++x))
def S_hire_book_open_c1 (c_cmp_Compare_int:Int×Int→M Int) (x:Ev×Slip×Int):M Int:=
 M.bind (c_cmp_Compare_int (x.1.2,x.2.2)) fun y=>M.pure y
def S_cmp_Compare_int (c_cmp_isNaN_int:Int→M Bool) (x:Int×Int):M Int:=
 M.bind (c_cmp_isNaN_int x.1) fun y=>M.bind (c_cmp_isNaN_int x.2) fun y_1=>if y=true then if y_1=true then M.pure 0 else M.pure (-1) else if
 y_1=true then M.pure 1 else if decide (x.1<x.2)=true then M.pure (-1) else if decide (x.1 > x.2)=true then M.pure 1 else M.pure 0
def S_cmp_isNaN_int (x:Int):M Bool:=
 M.pure (decide (x≠x))
def S_slices_AppendSeq (x:(List Int→Prop)×Unit):M (List Int×Unit):=
 M.bind (M.any x.1) fun L=>M.bind (rounds (fun (σ:List Int×Unit) (y:Int)=>M.bind (M.req (lenLe (Add.add (List.length σ.1) (Add.add 0 1)))
 (M.pure (Ex.normal,σ.1++[y],()))) fun p=>M.pure (p.1,p.2.1,())) L ([],())) fun p=>exC (M.pure (p.2.1,())) (fun id=>if id=0 then
 M.pure (p.2.1,()) else M.fail) M.fail p.1
def S_slices_Collect (c_slices_AppendSeq:(List Int→Prop)×Unit→M (List Int×Unit)) (x:(List Int→Prop)×Unit):M (List Int×Unit):=
 M.bind (c_slices_AppendSeq (x.1,())) fun y=>M.pure (y.1,())
def S_slices_DeleteFunc (c_slices_IndexFunc_api_Slip_api_Slip:List Slip×(Int×Int×Int×Int×Int×Int→M Bool)→M Int) (x:(Int×Int×Int×Int×Int×Int→M Bool)×List Slip×Unit):M ((Nat×Nat)×List Slip×Unit):=
 M.bind (c_slices_IndexFunc_api_Slip_api_Slip (x.2.1,x.1)) fun y=>if decide (y=-1)=true then M.pure ((0,List.length x.2.1),x.2.1,()) else
 M.bind (M.loop (fun (σ:(Int×Int×Int×Int×Int×Int→M Bool)×Int×Int×List Slip×Unit)=>if decide (σ.2.2.1<Int.ofNat (List.length
 σ.2.2.2.1))=true then M.bind (M.req (0≤σ.2.2.1∧σ.2.2.1<Int.ofNat (List.length σ.2.2.2.1)) (M.bind (σ.1 (List.getD σ.2.2.2.1 (Int.toNat
 σ.2.2.1) (0,0,0,0,0,0))) fun y=>if (!y)=true then M.req (0≤σ.2.1∧σ.2.1<Int.ofNat (List.length σ.2.2.2.1)) (M.pure (Step.next (σ.1,
 IntKind.wrap .i64 (Add.add σ.2.1 1),σ.2.2.1,List.set σ.2.2.2.1 (Int.toNat σ.2.1) (List.getD σ.2.2.2.1 (Int.toNat σ.2.2.1) (0,0,0,0,0,0)),
 ()))) else M.pure (Step.next (σ.1,σ.2.1,σ.2.2.1,σ.2.2.2.1,())))) (Step.go fun (σ:(Int×Int×Int×Int×Int×Int→M Bool)×Int×Int×
 List Slip×Unit)=>M.pure (Step.next (σ.1,σ.2.1,IntKind.wrap .i64 (Add.add σ.2.2.1 1),σ.2.2.2.1,()))) else M.bind (M.pure (Step.next (σ.2.1,
 σ.2.2.2.1,()))) fun r=>M.pure (Step.done r)) (x.1,y,IntKind.wrap .i64 (Add.add y 1),x.2.1,())) (Step.go fun (σ:Int×List Slip×Unit)=>
 M.req (0≤σ.1∧σ.1≤Int.ofNat (List.length σ.2.1)∧Int.ofNat (List.length σ.2.1)≤Int.ofNat (List.length σ.2.1)) (M.req True (M.req ((0:Int)≤
 0∧0≤σ.1∧σ.1≤Int.ofNat (List.length (List.take (Int.toNat σ.1) σ.2.1++List.replicate (Int.toNat (Int.ofNat (List.length σ.2.1)) - Int.toNat
 σ.1) (0,0,0,0,0,0)++List.drop (Add.add (Int.toNat σ.1) (List.length (List.replicate (Int.toNat (Int.ofNat (List.length σ.2.1)) - Int.toNat
 σ.1) ((0,0,0,0,0,0):Slip)))) σ.2.1))) (M.pure ((Int.toNat 0,Int.toNat σ.1),List.take (Int.toNat σ.1) σ.2.1++List.replicate (Int.toNat
 (Int.ofNat (List.length σ.2.1)) - Int.toNat σ.1) (0,0,0,0,0,0)++List.drop (Add.add (Int.toNat σ.1) (List.length (List.replicate (Int.toNat
 (Int.ofNat (List.length σ.2.1)) - Int.toNat σ.1) ((0,0,0,0,0,0):Slip)))) σ.2.1,())))))
def S_hire_hires_c1 (c_hire_open:Ctr×Int×Int→M Int) (x:Nat×Option Tru×Option Book×(Nat×(List Ev→Prop)×List Ev×Bool)×Unit):M ((Nat×(List Ev→Prop)×List Ev×Bool)×Unit):=
 M.req (Option.isSome x.2.1=true) (M.loop (fun (σ:Nat×Option Book×List (List Ev)×Int×(Nat×(List Ev→Prop)×List Ev×Bool)×Unit)=>
 if decide (σ.2.2.2.1<10)=true then M.bind (M.req (0≤σ.2.2.2.1∧σ.2.2.2.1<Int.ofNat 10) (M.loop (fun (σ:Nat×Option Book×List Ev×Int×
 List (List Ev)×Int×(Nat×(List Ev→Prop)×List Ev×Bool)×Unit)=>if decide (IntKind.wrap .i64 (Add.add σ.2.2.2.1 1)<Int.ofNat
 (List.length σ.2.2.1))=true then M.req (0≤σ.2.2.2.1∧σ.2.2.2.1<Int.ofNat (List.length σ.2.2.1)) (M.req (Option.isSome σ.2.1=true) (M.req (0
 ≤σ.2.2.2.1∧σ.2.2.2.1<Int.ofNat (List.length σ.2.2.1)) (M.req (0≤IntKind.wrap .i64 (Add.add σ.2.2.2.1 1)∧IntKind.wrap .i64 (Add.add σ.2.2.2.1
 1)<Int.ofNat (List.length σ.2.2.1)) (M.req (c_hire_open ((Option.getD σ.2.1 (([],[],[],[],0,0,0,0,0,0,0),[],[])).1,(List.getD σ.2.2.1
 (Int.toNat σ.2.2.2.1) ((0,0,0,0,0,0),0)).2,(List.getD σ.2.2.1 (Int.toNat (IntKind.wrap .i64 (Add.add σ.2.2.2.1 1))) ((0,0,0,0,0,0),
 0)).2)).safe (M.bind (M.req (σ.1=σ.q6.1∧σ.q6.2.2.2=false∧∃ (T:List Ev),σ.q6.2.1 (σ.q6.2.2.1++((List.getD σ.2.2.1 (Int.toNat σ.2.2.2.1)
 ((0,0,0,0,0,0),0)).1,M.val (c_hire_open ((Option.getD σ.2.1 (([],[],[],[],0,0,0,0,0,0,0),[],[])).1,(List.getD σ.2.2.1 (Int.toNat
 σ.2.2.2.1) ((0,0,0,0,0,0),0)).2,(List.getD σ.2.2.1 (Int.toNat (IntKind.wrap .i64 (Add.add σ.2.2.2.1 1))) ((0,0,0,0,0,0),0)).2)) 0) ::
 T)) (M.any fun x=>True)) fun y=>if (!y)=true then M.bind (M.bind (M.bind (M.pure ((σ.q6.1,σ.q6.2.1,σ.q6.2.2.1++[((List.getD σ.2.2.1
 (Int.toNat σ.2.2.2.1) ((0,0,0,0,0,0),0)).1,M.val (c_hire_open ((Option.getD σ.2.1 (([],[],[],[],0,0,0,0,0,0,0),[],[])).1,
 (List.getD σ.2.2.1 (Int.toNat σ.2.2.2.1) ((0,0,0,0,0,0),0)).2,(List.getD σ.2.2.1 (Int.toNat (IntKind.wrap .i64 (Add.add σ.2.2.2.1 1))) ((0,0,
 0,0,0,0),0)).2)) 0)],!y),())) fun r=>M.pure (Step.done r)) fun r=>M.pure (Step.done r)) fun r=>M.pure (Step.done r) else M.pure
 (Step.next (σ.1,σ.2.1,σ.2.2.1,IntKind.wrap .i64 (Add.add σ.2.2.2.1 2),σ.2.2.2.2.1,σ.q5,(σ.q6.1,σ.q6.2.1,σ.q6.2.2.1++[((List.getD σ.2.2.1
 (Int.toNat σ.2.2.2.1) ((0,0,0,0,0,0),0)).1,M.val (c_hire_open ((Option.getD σ.2.1 (([],[],[],[],0,0,0,0,0,0,0),[],[])).1,
 (List.getD σ.2.2.1 (Int.toNat σ.2.2.2.1) ((0,0,0,0,0,0),0)).2,(List.getD σ.2.2.1 (Int.toNat (IntKind.wrap .i64 (Add.add σ.2.2.2.1 1))) ((0,0,
 0,0,0,0),0)).2)) 0)],!y),()))))))) else M.bind (M.pure (Step.next (σ.1,σ.2.1,σ.2.2.2.2.1,σ.q5,σ.q6,()))) fun r=>M.pure (Step.done r))
 (σ.1,σ.2.1,List.getD σ.2.2.1 (Int.toNat σ.2.2.2.1) [],0,σ.2.2.1,σ.2.2.2.1,σ.2.2.2.2.1,()))) (Step.go fun (σ:Nat×Option Book×List (List
 Ev)×Int×(Nat×(List Ev→Prop)×List Ev×Bool)×Unit)=>M.pure (Step.next (σ.1,σ.2.1,σ.2.2.1,IntKind.wrap .i64 (Add.add σ.2.2.2.1 1),
 σ.2.2.2.2.1,()))) else M.bind (M.pure (σ.2.2.2.2.1,())) fun r=>M.pure (Step.done r)) (x.1,x.2.2.1,(Option.getD x.2.1 ([],[[],[],[],[],[],
 [],[],[],[],[]])).2,0,x.2.2.2.1,()))
def S_slices_insSortF (x:Int×Int×(Ev×Slip×Int→M Int)×List Ev×Unit):M (List Ev×Unit):=
 M.loop (fun (σ:Int×Int×(Ev×Slip×Int→M Int)×Int×List Ev×Unit)=>if decide (σ.2.2.2.1<σ.2.1)=true then M.bind (M.loop (fun (σ :
 Int×Int×(Ev×Slip×Int→M Int)×Int×Int×List Ev×Unit)=>M.req (decide (σ.2.2.2.2.1 > σ.1)=true→(decide (σ.2.2.2.2.1 > σ.1)=true
 ∧decide (σ.2.2.2.2.1 > σ.1)=true)∧(0≤σ.2.2.2.2.1∧σ.2.2.2.2.1<Int.ofNat (List.length σ.q5))∧True) (M.req (decide (σ.2.2.2.2.1 > σ.1)=
 true→decide (σ.2.2.2.2.1 > σ.1)=true∧True∧True) (M.req (decide (σ.2.2.2.2.1 > σ.1)=true→(decide (σ.2.2.2.2.1 > σ.1)=true∧True)∧True
 ∧True) (M.req (decide (σ.2.2.2.2.1 > σ.1)=true→(decide (σ.2.2.2.2.1 > σ.1)=true∧decide (σ.2.2.2.2.1 > σ.1)=true)∧(0≤IntKind.wrap .i64
 (σ.2.2.2.2.1 - 1)∧IntKind.wrap .i64 (σ.2.2.2.2.1 - 1)<Int.ofNat (List.length σ.q5))∧True) (M.req (decide (σ.2.2.2.2.1 > σ.1)=true→decide
 (σ.2.2.2.2.1 > σ.1)=true∧True∧True) (M.req (decide (σ.2.2.2.2.1 > σ.1)=true→decide (σ.2.2.2.2.1 > σ.1)=true∧decide (σ.2.2.2.2.1 > σ.1)
 =true∧decide (σ.2.2.2.2.1 > σ.1)=true∧True) (M.bind (gdo (decide (σ.2.2.2.2.1 > σ.1)) (σ.2.2.1 (List.getD σ.q5 (Int.toNat σ.2.2.2.2.1) ((0,0,
 0,0,0,0),0),List.getD σ.q5 (Int.toNat (IntKind.wrap .i64 (σ.2.2.2.2.1 - 1))) ((0,0,0,0,0,0),0))) 0) fun y=>if (decide (σ.2.2.2.2.1 >
 σ.1)&&decide (y<0))=true then M.req (0≤IntKind.wrap .i64 (σ.2.2.2.2.1 - 1)∧IntKind.wrap .i64 (σ.2.2.2.2.1 - 1)<Int.ofNat (List.length
 σ.q5)) (M.req (0≤σ.2.2.2.2.1∧σ.2.2.2.2.1<Int.ofNat (List.length σ.q5)) (M.req (0≤σ.2.2.2.2.1∧σ.2.2.2.2.1<Int.ofNat (List.length σ.q5))
 (M.req (0≤IntKind.wrap .i64 (σ.2.2.2.2.1 - 1)∧IntKind.wrap .i64 (σ.2.2.2.2.1 - 1)<Int.ofNat (List.length (List.set σ.q5 (Int.toNat σ.2.2.2.2.1)
 (List.getD σ.q5 (Int.toNat (IntKind.wrap .i64 (σ.2.2.2.2.1 - 1))) ((0,0,0,0,0,0),0))))) (M.pure (Step.next (σ.1,σ.2.1,σ.2.2.1,σ.2.2.2.1,
 IntKind.wrap .i64 (σ.2.2.2.2.1 - 1),List.set (List.set σ.q5 (Int.toNat σ.2.2.2.2.1) (List.getD σ.q5 (Int.toNat (IntKind.wrap .i64 (σ.2.2.2.2.1 -
 1))) ((0,0,0,0,0,0),0))) (Int.toNat (IntKind.wrap .i64 (σ.2.2.2.2.1 - 1))) (List.getD σ.q5 (Int.toNat σ.2.2.2.2.1) ((0,0,0,0,0,0),0)),
 ())))))) else M.bind (M.pure (Step.next (σ.1,σ.2.1,σ.2.2.1,σ.2.2.2.1,σ.q5,()))) fun r=>M.pure (Step.done r)))))))) (σ.1,σ.2.1,σ.2.2.1,
 σ.2.2.2.1,σ.2.2.2.1,σ.2.2.2.2.1,())) (Step.go fun (σ:Int×Int×(Ev×Slip×Int→M Int)×Int×List Ev×Unit)=>M.pure (Step.next (σ.1,
 σ.2.1,σ.2.2.1,IntKind.wrap .i64 (Add.add σ.2.2.2.1 1),σ.2.2.2.2.1,()))) else M.bind (M.pure (σ.2.2.2.2.1,())) fun r=>M.pure (Step.done r))
 (x.1,x.2.1,x.2.2.1,IntKind.wrap .i64 (Add.add x.1 1),x.2.2.2.1,())
def S_maps_KeysI (x:Nat×List (Int×Int)×(Nat×(List Int→Prop)×List Int×Bool)×Unit):M ((Nat×(List Int→Prop)×List Int×Bool)×Unit):=
 M.bind (M.pure ()) fun y=>M.loop (fun (σ:Nat×(Nat×(List Int→Prop)×List Int×Bool)×(Option (Int×Int)×List (Int×Int))×Unit)=>
 M.bind (pickI σ.2.2.1.2) fun y=>if Option.isSome y=true then M.bind (M.req (Option.isSome (nxtC σ.2.2.1.1 σ.2.2.1.2 y)=true) (M.pure ())) fun y_1
 =>M.bind (M.req (σ.1=σ.2.1.1∧σ.2.1.2.2.2=false∧∃ (T:List Int),σ.2.1.2.1 (σ.2.1.2.2.1++Option.getD (Option.map (fun x=>x.1) (nxtC
 σ.2.2.1.1 σ.2.2.1.2 y)) 0::T)) (M.any fun x=>True)) fun y_2=>if (!y_2)=true then M.bind (M.pure ((σ.2.1.1,σ.2.1.2.1,σ.2.1.2.2.1++
 [Option.getD (Option.map (fun x=>x.1) (nxtC σ.2.2.1.1 σ.2.2.1.2 y)) 0],!y_2),())) fun r=>M.pure (Step.done r) else M.pure (Step.next (σ.1,
 (σ.2.1.1,σ.2.1.2.1,σ.2.1.2.2.1++[Option.getD (Option.map (fun x=>x.1) (nxtC σ.2.2.1.1 σ.2.2.1.2 y)) 0],!y_2),(nxtC σ.2.2.1.1 σ.2.2.1.2 y,
 nxtR σ.2.2.1.2 y),())) else M.bind (M.pure (σ.2.1,())) fun r=>M.pure (Step.done r)) (x.1,x.2.2.1,(none,x.2.1),())
def S_maps_KeysS (x:Nat×List (Int×Slip)×(Nat×(List Int→Prop)×List Int×Bool)×Unit):M ((Nat×(List Int→Prop)×List Int×Bool)×Unit):=
 M.bind (M.pure ()) fun y=>M.loop (fun (σ:Nat×(Nat×(List Int→Prop)×List Int×Bool)×(Option Tar×List (Int×Slip))×Unit)=>M.bind
 (pickI σ.2.2.1.2) fun y=>if Option.isSome y=true then M.bind (M.req (Option.isSome (nxtC σ.2.2.1.1 σ.2.2.1.2 y)=true) (M.pure ())) fun y_1=>
 M.bind (M.req (σ.1=σ.2.1.1∧σ.2.1.2.2.2=false∧∃ (T:List Int),σ.2.1.2.1 (σ.2.1.2.2.1++Option.getD (Option.map (fun x=>x.1) (nxtC
 σ.2.2.1.1 σ.2.2.1.2 y)) 0::T)) (M.any fun x=>True)) fun y_2=>if (!y_2)=true then M.bind (M.pure ((σ.2.1.1,σ.2.1.2.1,σ.2.1.2.2.1++
 [Option.getD (Option.map (fun x=>x.1) (nxtC σ.2.2.1.1 σ.2.2.1.2 y)) 0],!y_2),())) fun r=>M.pure (Step.done r) else M.pure (Step.next (σ.1,
 (σ.2.1.1,σ.2.1.2.1,σ.2.1.2.2.1++[Option.getD (Option.map (fun x=>x.1) (nxtC σ.2.2.1.1 σ.2.2.1.2 y)) 0],!y_2),(nxtC σ.2.2.1.1 σ.2.2.1.2 y,
 nxtR σ.2.2.1.2 y),())) else M.bind (M.pure (σ.2.1,())) fun r=>M.pure (Step.done r)) (x.1,x.2.2.1,(none,x.2.1),())
def S_hire_onceIO (c_slices_Sorted_int:(List Int→Prop)→M (List Int)) (c_maps_Keys_map_int_api_Slip_int_api_Slip:List (Int×Slip)→M (List Int→Prop)) (x:List Slip×Unit):M (Bool×List Slip×Unit):=
 M.bind (M.loop (fun (σ:List Slip×Int×Int×List (Int×Slip)×Unit)=>if decide (σ.2.2.1<σ.2.1)=true then M.req (0≤σ.2.2.1∧σ.2.2.1 <
 Int.ofNat (List.length σ.1)) (if (Option.isSome (Option.map (fun x=>x.2) (List.find? (fun p=>decide ((List.getD σ.1 (Int.toNat σ.2.2.1) (0,0,0,
 0,0,0)).1=p.1)) σ.2.2.2.1))&&!(decide ((Option.getD (Option.map (fun x=>x.2) (List.find? (fun p=>decide ((List.getD σ.1 (Int.toNat σ.2.2.1)
 (0,0,0,0,0,0)).1=p.1)) σ.2.2.2.1)) (0,0,0,0,0,0)).1=(List.getD σ.1 (Int.toNat σ.2.2.1) (0,0,0,0,0,0)).1)&&(decide ((Option.getD
 (Option.map (fun x=>x.2) (List.find? (fun p=>decide ((List.getD σ.1 (Int.toNat σ.2.2.1) (0,0,0,0,0,0)).1=p.1)) σ.2.2.2.1)) (0,0,0,0,0,
 0)).2.1=(List.getD σ.1 (Int.toNat σ.2.2.1) (0,0,0,0,0,0)).2.1)&&(decide ((Option.getD (Option.map (fun x=>x.2) (List.find? (fun p=>
 decide ((List.getD σ.1 (Int.toNat σ.2.2.1) (0,0,0,0,0,0)).1=p.1)) σ.2.2.2.1)) (0,0,0,0,0,0)).2.2.1=(List.getD σ.1 (Int.toNat σ.2.2.1)
 (0,0,0,0,0,0)).2.2.1)&&(decide ((Option.getD (Option.map (fun x=>x.2) (List.find? (fun p=>decide ((List.getD σ.1 (Int.toNat σ.2.2.1) (0,
 0,0,0,0,0)).1=p.1)) σ.2.2.2.1)) (0,0,0,0,0,0)).2.2.2.1=(List.getD σ.1 (Int.toNat σ.2.2.1) (0,0,0,0,0,0)).2.2.2.1)&&(decide
 ((Option.getD (Option.map (fun x=>x.2) (List.find? (fun p=>decide ((List.getD σ.1 (Int.toNat σ.2.2.1) (0,0,0,0,0,0)).1=p.1)) σ.2.2.2.1))
 (0,0,0,0,0,0)).2.2.2.2.1=(List.getD σ.1 (Int.toNat σ.2.2.1) (0,0,0,0,0,0)).2.2.2.2.1)&&decide ((Option.getD (Option.map (fun x=>x.2)
 (List.find? (fun p=>decide ((List.getD σ.1 (Int.toNat σ.2.2.1) (0,0,0,0,0,0)).1=p.1)) σ.2.2.2.1)) (0,0,0,0,0,0)).2.2.2.2.2=(List.getD
 σ.1 (Int.toNat σ.2.2.1) (0,0,0,0,0,0)).2.2.2.2.2)))))))=true then M.bind (M.bind M.fail fun r=>M.pure (Step.done r)) fun r=>M.pure
 (Step.done r) else M.pure (Step.next (σ.1,σ.2.1,IntKind.wrap .i64 (Add.add σ.2.2.1 1),msetS σ.2.2.2.1 (List.getD σ.1 (Int.toNat σ.2.2.1) (0,0,0,
 0,0,0)).1 (List.getD σ.1 (Int.toNat σ.2.2.1) (0,0,0,0,0,0)),()))) else M.bind (M.pure (Step.next (σ.2.2.2.1,()))) fun r=>M.pure (Step.done
 r)) (x.1,Int.ofNat (List.length x.1),0,[],())) (Step.go fun (σ:List (Int×Slip)×Unit)=>M.bind (M.bind
 (c_maps_Keys_map_int_api_Slip_int_api_Slip σ.1) fun y=>M.bind (c_slices_Sorted_int y) fun y=>M.loop (fun (σ:List Int×Int×Int×List Slip×
 List (Int×Slip)×Unit)=>if decide (σ.2.2.1<σ.2.1)=true then M.req (0≤σ.2.2.1∧σ.2.2.1<Int.ofNat (List.length σ.1)) (M.req (lenLe
 (Add.add (List.length σ.2.2.2.1) (Add.add 0 1))) (M.pure (Step.next (σ.1,σ.2.1,IntKind.wrap .i64 (Add.add σ.2.2.1 1),σ.2.2.2.1++[Option.getD
 (Option.map (fun x=>x.2) (List.find? (fun p=>decide (List.getD σ.1 (Int.toNat σ.2.2.1) 0=p.1)) σ.2.2.2.2.1)) (0,0,0,0,0,0)],σ.2.2.2.2.1,
 ())))) else M.bind (M.pure (Step.next (σ.2.2.2.1,()))) fun r=>M.pure (Step.done r)) (y,Int.ofNat (List.length y),0,[],σ.1,())) (Step.go fun (σ
 : List Slip×Unit)=>M.pure (true,σ.1,())))
def S_hire_book_open (c_slices_Clone_int_int:List Int→M (List Int)) (c_slices_SortFunc:(Ev×Slip×Int→M Int)×List Ev×Unit→M (List Ev×Unit)) (c_hire_book_open_c1:Ev×Slip×Int→M Int) (x:List Int×Cells):M (Option Tru×Bool×Cells):=
 M.bind (M.bind (c_slices_Clone_int_int x.1) fun y=>M.pure (Step.next (x.1,y,x.2.1,x.2.2.1,x.2.2.2.1,x.2.2.2.2.1,x.q5,x.q6,x.q7,x.q8,x.q9,
 x.q10,x.q11,x.q12,x.q13,[],[],[],[],[],[],[],[],[],[],()))) (Step.go fun (σ:List Int×List Int×List (Int×Int)×List Slip×List
 Int×List (Int×Int)×Int×Int×Int×Int×Int×Int×Int×List Slip×List (Option Tru)×List Ev×List Ev×List Ev×List Ev×List Ev×
 List Ev×List Ev×List Ev×List Ev×List Ev×Unit)=>M.bind (M.req True (M.loop (fun (σ:List Int×List Slip×Int×Int×List Int×List Ev
 ×List Ev×List Ev×List Ev×List Ev×List Ev×List Ev×List Ev×List Ev×List Ev×Cells)=>if decide (σ.2.2.2.1<σ.2.2.1)=true then
 M.bind (M.req (0≤σ.2.2.2.1∧σ.2.2.2.1<Int.ofNat (List.length σ.2.1)) (M.req (0≤(List.getD σ.2.1 (Int.toNat σ.2.2.2.1) (0,0,0,0,0,
 0)).2.2.2.2.1∧(List.getD σ.2.1 (Int.toNat σ.2.2.2.1) (0,0,0,0,0,0)).2.2.2.2.1<Int.ofNat 10) (if (List.getD σ.2.1 (Int.toNat σ.2.2.2.1) (0,
 0,0,0,0,0)).2.2.2.2.1=Int.ofNat (Add.add 8 1) then M.req True (M.req (0≤Int.ofNat (Add.add 8 1)∧Int.ofNat (Add.add 8 1)<Int.ofNat 10)
 (M.req (0≤(List.getD σ.2.1 (Int.toNat σ.2.2.2.1) (0,0,0,0,0,0)).2.1∧(List.getD σ.2.1 (Int.toNat σ.2.2.2.1) (0,0,0,0,0,0)).2.1 <
 Int.ofNat (List.length σ.1)) (M.req (lenLe (Add.add (List.length σ.q14) (Add.add 0 1))) (M.req True (M.req (0≤Int.ofNat (Add.add 8 1)∧Int.ofNat
 (Add.add 8 1)<Int.ofNat 10) (M.pure (Step.next (σ.1,σ.2.1,σ.2.2.1,σ.2.2.2.1,σ.2.2.2.2.1,σ.q5,σ.q6,σ.q7,σ.q8,σ.q9,σ.q10,σ.q11,σ.q12,
 σ.q13,σ.q14++[(((List.getD σ.2.1 (Int.toNat σ.2.2.2.1) (0,0,0,0,0,0)).1,(List.getD σ.2.1 (Int.toNat σ.2.2.2.1) (0,0,0,0,0,0)).2.1,
 (List.getD σ.2.1 (Int.toNat σ.2.2.2.1) (0,0,0,0,0,0)).2.2.1,(List.getD σ.2.1 (Int.toNat σ.2.2.2.1) (0,0,0,0,0,0)).2.2.2.1,Int.ofNat
 (Add.add 8 1),(List.getD σ.2.1 (Int.toNat σ.2.2.2.1) (0,0,0,0,0,0)).2.2.2.2.2),IntKind.wrap .i64 (Add.add (List.getD σ.2.1 (Int.toNat
 σ.2.2.2.1) (0,0,0,0,0,0)).2.2.1 (List.getD σ.1 (Int.toNat (List.getD σ.2.1 (Int.toNat σ.2.2.2.1) (0,0,0,0,0,0)).2.1) 0)))],σ.q15,σ.q16,
 σ.q17,σ.q18,σ.q19,σ.q20,σ.q21,σ.q22,σ.q23,σ.q24,σ.q25,σ.q26,σ.q27,())))))))) else if (List.getD σ.2.1 (Int.toNat σ.2.2.2.1) (0,0,0,0,
 0,0)).2.2.2.2.1=Int.ofNat (Add.add 7 1) then M.req True (M.req (0≤Int.ofNat (Add.add 7 1)∧Int.ofNat (Add.add 7 1)<Int.ofNat 10) (M.req (0≤
 (List.getD σ.2.1 (Int.toNat σ.2.2.2.1) (0,0,0,0,0,0)).2.1∧(List.getD σ.2.1 (Int.toNat σ.2.2.2.1) (0,0,0,0,0,0)).2.1<Int.ofNat
 (List.length σ.1)) (M.req (lenLe (Add.add (List.length σ.q13) (Add.add 0 1))) (M.req True (M.req (0≤Int.ofNat (Add.add 7 1)∧Int.ofNat (Add.add 7
 1)<Int.ofNat 10) (M.pure (Step.next (σ.1,σ.2.1,σ.2.2.1,σ.2.2.2.1,σ.2.2.2.2.1,σ.q5,σ.q6,σ.q7,σ.q8,σ.q9,σ.q10,σ.q11,σ.q12,σ.q13++
 [(((List.getD σ.2.1 (Int.toNat σ.2.2.2.1) (0,0,0,0,0,0)).1,(List.getD σ.2.1 (Int.toNat σ.2.2.2.1) (0,0,0,0,0,0)).2.1,(List.getD σ.2.1
 (Int.toNat σ.2.2.2.1) (0,0,0,0,0,0)).2.2.1,(List.getD σ.2.1 (Int.toNat σ.2.2.2.1) (0,0,0,0,0,0)).2.2.2.1,Int.ofNat (Add.add 7 1),
 (List.getD σ.2.1 (Int.toNat σ.2.2.2.1) (0,0,0,0,0,0)).2.2.2.2.2),IntKind.wrap .i64 (Add.add (List.getD σ.2.1 (Int.toNat σ.2.2.2.1) (0,0,0,0,
 0,0)).2.2.1 (List.getD σ.1 (Int.toNat (List.getD σ.2.1 (Int.toNat σ.2.2.2.1) (0,0,0,0,0,0)).2.1) 0)))],σ.q14,σ.q15,σ.q16,σ.q17,σ.q18,
 σ.q19,σ.q20,σ.q21,σ.q22,σ.q23,σ.q24,σ.q25,σ.q26,σ.q27,())))))))) else if (List.getD σ.2.1 (Int.toNat σ.2.2.2.1) (0,0,0,0,0,
 0)).2.2.2.2.1=Int.ofNat (Add.add 6 1) then M.req True (M.req (0≤Int.ofNat (Add.add 6 1)∧Int.ofNat (Add.add 6 1)<Int.ofNat 10) (M.req (0≤
 (List.getD σ.2.1 (Int.toNat σ.2.2.2.1) (0,0,0,0,0,0)).2.1∧(List.getD σ.2.1 (Int.toNat σ.2.2.2.1) (0,0,0,0,0,0)).2.1<Int.ofNat
 (List.length σ.1)) (M.req (lenLe (Add.add (List.length σ.q12) (Add.add 0 1))) (M.req True (M.req (0≤Int.ofNat (Add.add 6 1)∧Int.ofNat (Add.add 6
 1)<Int.ofNat 10) (M.pure (Step.next (σ.1,σ.2.1,σ.2.2.1,σ.2.2.2.1,σ.2.2.2.2.1,σ.q5,σ.q6,σ.q7,σ.q8,σ.q9,σ.q10,σ.q11,σ.q12++
 [(((List.getD σ.2.1 (Int.toNat σ.2.2.2.1) (0,0,0,0,0,0)).1,(List.getD σ.2.1 (Int.toNat σ.2.2.2.1) (0,0,0,0,0,0)).2.1,(List.getD σ.2.1
 (Int.toNat σ.2.2.2.1) (0,0,0,0,0,0)).2.2.1,(List.getD σ.2.1 (Int.toNat σ.2.2.2.1) (0,0,0,0,0,0)).2.2.2.1,Int.ofNat (Add.add 6 1),
 (List.getD σ.2.1 (Int.toNat σ.2.2.2.1) (0,0,0,0,0,0)).2.2.2.2.2),IntKind.wrap .i64 (Add.add (List.getD σ.2.1 (Int.toNat σ.2.2.2.1) (0,0,0,0,
 0,0)).2.2.1 (List.getD σ.1 (Int.toNat (List.getD σ.2.1 (Int.toNat σ.2.2.2.1) (0,0,0,0,0,0)).2.1) 0)))],σ.q13,σ.q14,σ.q15,σ.q16,σ.q17,
 σ.q18,σ.q19,σ.q20,σ.q21,σ.q22,σ.q23,σ.q24,σ.q25,σ.q26,σ.q27,())))))))) else if (List.getD σ.2.1 (Int.toNat σ.2.2.2.1) (0,0,0,0,0,
 0)).2.2.2.2.1=Int.ofNat (Add.add 5 1) then M.req True (M.req (0≤Int.ofNat (Add.add 5 1)∧Int.ofNat (Add.add 5 1)<Int.ofNat 10) (M.req (0≤
 (List.getD σ.2.1 (Int.toNat σ.2.2.2.1) (0,0,0,0,0,0)).2.1∧(List.getD σ.2.1 (Int.toNat σ.2.2.2.1) (0,0,0,0,0,0)).2.1<Int.ofNat
 (List.length σ.1)) (M.req (lenLe (Add.add (List.length σ.q11) (Add.add 0 1))) (M.req True (M.req (0≤Int.ofNat (Add.add 5 1)∧Int.ofNat (Add.add 5
 1)<Int.ofNat 10) (M.pure (Step.next (σ.1,σ.2.1,σ.2.2.1,σ.2.2.2.1,σ.2.2.2.2.1,σ.q5,σ.q6,σ.q7,σ.q8,σ.q9,σ.q10,σ.q11++[(((List.getD σ.2.1
 (Int.toNat σ.2.2.2.1) (0,0,0,0,0,0)).1,(List.getD σ.2.1 (Int.toNat σ.2.2.2.1) (0,0,0,0,0,0)).2.1,(List.getD σ.2.1 (Int.toNat σ.2.2.2.1)
 (0,0,0,0,0,0)).2.2.1,(List.getD σ.2.1 (Int.toNat σ.2.2.2.1) (0,0,0,0,0,0)).2.2.2.1,Int.ofNat (Add.add 5 1),(List.getD σ.2.1 (Int.toNat
 σ.2.2.2.1) (0,0,0,0,0,0)).2.2.2.2.2),IntKind.wrap .i64 (Add.add (List.getD σ.2.1 (Int.toNat σ.2.2.2.1) (0,0,0,0,0,0)).2.2.1 (List.getD σ.1
 (Int.toNat (List.getD σ.2.1 (Int.toNat σ.2.2.2.1) (0,0,0,0,0,0)).2.1) 0)))],σ.q12,σ.q13,σ.q14,σ.q15,σ.q16,σ.q17,σ.q18,σ.q19,σ.q20,
 σ.q21,σ.q22,σ.q23,σ.q24,σ.q25,σ.q26,σ.q27,())))))))) else if (List.getD σ.2.1 (Int.toNat σ.2.2.2.1) (0,0,0,0,0,0)).2.2.2.2.1=Int.ofNat
 (Add.add 4 1) then M.req True (M.req (0≤Int.ofNat (Add.add 4 1)∧Int.ofNat (Add.add 4 1)<Int.ofNat 10) (M.req (0≤(List.getD σ.2.1 (Int.toNat
 σ.2.2.2.1) (0,0,0,0,0,0)).2.1∧(List.getD σ.2.1 (Int.toNat σ.2.2.2.1) (0,0,0,0,0,0)).2.1<Int.ofNat (List.length σ.1)) (M.req (lenLe
 (Add.add (List.length σ.q10) (Add.add 0 1))) (M.req True (M.req (0≤Int.ofNat (Add.add 4 1)∧Int.ofNat (Add.add 4 1)<Int.ofNat 10) (M.pure
 (Step.next (σ.1,σ.2.1,σ.2.2.1,σ.2.2.2.1,σ.2.2.2.2.1,σ.q5,σ.q6,σ.q7,σ.q8,σ.q9,σ.q10++[(((List.getD σ.2.1 (Int.toNat σ.2.2.2.1) (0,0,0,
 0,0,0)).1,(List.getD σ.2.1 (Int.toNat σ.2.2.2.1) (0,0,0,0,0,0)).2.1,(List.getD σ.2.1 (Int.toNat σ.2.2.2.1) (0,0,0,0,0,0)).2.2.1,
 (List.getD σ.2.1 (Int.toNat σ.2.2.2.1) (0,0,0,0,0,0)).2.2.2.1,Int.ofNat (Add.add 4 1),(List.getD σ.2.1 (Int.toNat σ.2.2.2.1) (0,0,0,0,0,
 0)).2.2.2.2.2),IntKind.wrap .i64 (Add.add (List.getD σ.2.1 (Int.toNat σ.2.2.2.1) (0,0,0,0,0,0)).2.2.1 (List.getD σ.1 (Int.toNat (List.getD
 σ.2.1 (Int.toNat σ.2.2.2.1) (0,0,0,0,0,0)).2.1) 0)))],σ.q11,σ.q12,σ.q13,σ.q14,σ.q15,σ.q16,σ.q17,σ.q18,σ.q19,σ.q20,σ.q21,σ.q22,
 σ.q23,σ.q24,σ.q25,σ.q26,σ.q27,())))))))) else if (List.getD σ.2.1 (Int.toNat σ.2.2.2.1) (0,0,0,0,0,0)).2.2.2.2.1=Int.ofNat (Add.add 3 1)
 then M.req True (M.req (0≤Int.ofNat (Add.add 3 1)∧Int.ofNat (Add.add 3 1)<Int.ofNat 10) (M.req (0≤(List.getD σ.2.1 (Int.toNat σ.2.2.2.1) (0,
 0,0,0,0,0)).2.1∧(List.getD σ.2.1 (Int.toNat σ.2.2.2.1) (0,0,0,0,0,0)).2.1<Int.ofNat (List.length σ.1)) (M.req (lenLe (Add.add
 (List.length σ.q9) (Add.add 0 1))) (M.req True (M.req (0≤Int.ofNat (Add.add 3 1)∧Int.ofNat (Add.add 3 1)<Int.ofNat 10) (M.pure (Step.next (σ.1,
 σ.2.1,σ.2.2.1,σ.2.2.2.1,σ.2.2.2.2.1,σ.q5,σ.q6,σ.q7,σ.q8,σ.q9++[(((List.getD σ.2.1 (Int.toNat σ.2.2.2.1) (0,0,0,0,0,0)).1,(List.getD
 σ.2.1 (Int.toNat σ.2.2.2.1) (0,0,0,0,0,0)).2.1,(List.getD σ.2.1 (Int.toNat σ.2.2.2.1) (0,0,0,0,0,0)).2.2.1,(List.getD σ.2.1 (Int.toNat
 σ.2.2.2.1) (0,0,0,0,0,0)).2.2.2.1,Int.ofNat (Add.add 3 1),(List.getD σ.2.1 (Int.toNat σ.2.2.2.1) (0,0,0,0,0,0)).2.2.2.2.2),IntKind.wrap
 .i64 (Add.add (List.getD σ.2.1 (Int.toNat σ.2.2.2.1) (0,0,0,0,0,0)).2.2.1 (List.getD σ.1 (Int.toNat (List.getD σ.2.1 (Int.toNat σ.2.2.2.1) (0,
 0,0,0,0,0)).2.1) 0)))],σ.q10,σ.q11,σ.q12,σ.q13,σ.q14,σ.q15,σ.q16,σ.q17,σ.q18,σ.q19,σ.q20,σ.q21,σ.q22,σ.q23,σ.q24,σ.q25,σ.q26,
 σ.q27,())))))))) else if (List.getD σ.2.1 (Int.toNat σ.2.2.2.1) (0,0,0,0,0,0)).2.2.2.2.1=Int.ofNat (Add.add 2 1) then M.req True (M.req (0≤
 Int.ofNat (Add.add 2 1)∧Int.ofNat (Add.add 2 1)<Int.ofNat 10) (M.req (0≤(List.getD σ.2.1 (Int.toNat σ.2.2.2.1) (0,0,0,0,0,0)).2.1∧
 (List.getD σ.2.1 (Int.toNat σ.2.2.2.1) (0,0,0,0,0,0)).2.1<Int.ofNat (List.length σ.1)) (M.req (lenLe (Add.add (List.length σ.q8) (Add.add 0
 1))) (M.req True (M.req (0≤Int.ofNat (Add.add 2 1)∧Int.ofNat (Add.add 2 1)<Int.ofNat 10) (M.pure (Step.next (σ.1,σ.2.1,σ.2.2.1,σ.2.2.2.1,
 σ.2.2.2.2.1,σ.q5,σ.q6,σ.q7,σ.q8++[(((List.getD σ.2.1 (Int.toNat σ.2.2.2.1) (0,0,0,0,0,0)).1,(List.getD σ.2.1 (Int.toNat σ.2.2.2.1) (0,0,
 0,0,0,0)).2.1,(List.getD σ.2.1 (Int.toNat σ.2.2.2.1) (0,0,0,0,0,0)).2.2.1,(List.getD σ.2.1 (Int.toNat σ.2.2.2.1) (0,0,0,0,0,
 0)).2.2.2.1,Int.ofNat (Add.add 2 1),(List.getD σ.2.1 (Int.toNat σ.2.2.2.1) (0,0,0,0,0,0)).2.2.2.2.2),IntKind.wrap .i64 (Add.add (List.getD
 σ.2.1 (Int.toNat σ.2.2.2.1) (0,0,0,0,0,0)).2.2.1 (List.getD σ.1 (Int.toNat (List.getD σ.2.1 (Int.toNat σ.2.2.2.1) (0,0,0,0,0,0)).2.1)
 0)))],σ.q9,σ.q10,σ.q11,σ.q12,σ.q13,σ.q14,σ.q15,σ.q16,σ.q17,σ.q18,σ.q19,σ.q20,σ.q21,σ.q22,σ.q23,σ.q24,σ.q25,σ.q26,σ.q27,()))))))))
 else if (List.getD σ.2.1 (Int.toNat σ.2.2.2.1) (0,0,0,0,0,0)).2.2.2.2.1=Int.ofNat (Add.add 1 1) then M.req True (M.req (0≤Int.ofNat (Add.add
 1 1)∧Int.ofNat (Add.add 1 1)<Int.ofNat 10) (M.req (0≤(List.getD σ.2.1 (Int.toNat σ.2.2.2.1) (0,0,0,0,0,0)).2.1∧(List.getD σ.2.1
 (Int.toNat σ.2.2.2.1) (0,0,0,0,0,0)).2.1<Int.ofNat (List.length σ.1)) (M.req (lenLe (Add.add (List.length σ.q7) (Add.add 0 1))) (M.req True
 (M.req (0≤Int.ofNat (Add.add 1 1)∧Int.ofNat (Add.add 1 1)<Int.ofNat 10) (M.pure (Step.next (σ.1,σ.2.1,σ.2.2.1,σ.2.2.2.1,σ.2.2.2.2.1,σ.q5,
 σ.q6,σ.q7++[(((List.getD σ.2.1 (Int.toNat σ.2.2.2.1) (0,0,0,0,0,0)).1,(List.getD σ.2.1 (Int.toNat σ.2.2.2.1) (0,0,0,0,0,0)).2.1,
 (List.getD σ.2.1 (Int.toNat σ.2.2.2.1) (0,0,0,0,0,0)).2.2.1,(List.getD σ.2.1 (Int.toNat σ.2.2.2.1) (0,0,0,0,0,0)).2.2.2.1,Int.ofNat
 (Add.add 1 1),(List.getD σ.2.1 (Int.toNat σ.2.2.2.1) (0,0,0,0,0,0)).2.2.2.2.2),IntKind.wrap .i64 (Add.add (List.getD σ.2.1 (Int.toNat
 σ.2.2.2.1) (0,0,0,0,0,0)).2.2.1 (List.getD σ.1 (Int.toNat (List.getD σ.2.1 (Int.toNat σ.2.2.2.1) (0,0,0,0,0,0)).2.1) 0)))],σ.q8,σ.q9,
 σ.q10,σ.q11,σ.q12,σ.q13,σ.q14,σ.q15,σ.q16,σ.q17,σ.q18,σ.q19,σ.q20,σ.q21,σ.q22,σ.q23,σ.q24,σ.q25,σ.q26,σ.q27,())))))))) else if
 (List.getD σ.2.1 (Int.toNat σ.2.2.2.1) (0,0,0,0,0,0)).2.2.2.2.1=Int.ofNat (Add.add 0 1) then M.req True (M.req (0≤Int.ofNat (Add.add 0 1)∧
 Int.ofNat (Add.add 0 1)<Int.ofNat 10) (M.req (0≤(List.getD σ.2.1 (Int.toNat σ.2.2.2.1) (0,0,0,0,0,0)).2.1∧(List.getD σ.2.1 (Int.toNat
 σ.2.2.2.1) (0,0,0,0,0,0)).2.1<Int.ofNat (List.length σ.1)) (M.req (lenLe (Add.add (List.length σ.q6) (Add.add 0 1))) (M.req True (M.req (0≤
 Int.ofNat (Add.add 0 1)∧Int.ofNat (Add.add 0 1)<Int.ofNat 10) (M.pure (Step.next (σ.1,σ.2.1,σ.2.2.1,σ.2.2.2.1,σ.2.2.2.2.1,σ.q5,σ.q6++
 [(((List.getD σ.2.1 (Int.toNat σ.2.2.2.1) (0,0,0,0,0,0)).1,(List.getD σ.2.1 (Int.toNat σ.2.2.2.1) (0,0,0,0,0,0)).2.1,(List.getD σ.2.1
 (Int.toNat σ.2.2.2.1) (0,0,0,0,0,0)).2.2.1,(List.getD σ.2.1 (Int.toNat σ.2.2.2.1) (0,0,0,0,0,0)).2.2.2.1,Int.ofNat (Add.add 0 1),
 (List.getD σ.2.1 (Int.toNat σ.2.2.2.1) (0,0,0,0,0,0)).2.2.2.2.2),IntKind.wrap .i64 (Add.add (List.getD σ.2.1 (Int.toNat σ.2.2.2.1) (0,0,0,0,
 0,0)).2.2.1 (List.getD σ.1 (Int.toNat (List.getD σ.2.1 (Int.toNat σ.2.2.2.1) (0,0,0,0,0,0)).2.1) 0)))],σ.q7,σ.q8,σ.q9,σ.q10,σ.q11,σ.q12,
 σ.q13,σ.q14,σ.q15,σ.q16,σ.q17,σ.q18,σ.q19,σ.q20,σ.q21,σ.q22,σ.q23,σ.q24,σ.q25,σ.q26,σ.q27,())))))))) else M.req True (M.req (0≤
 Int.ofNat 0∧Int.ofNat 0<Int.ofNat 10) (M.req (0≤(List.getD σ.2.1 (Int.toNat σ.2.2.2.1) (0,0,0,0,0,0)).2.1∧(List.getD σ.2.1 (Int.toNat
 σ.2.2.2.1) (0,0,0,0,0,0)).2.1<Int.ofNat (List.length σ.1)) (M.req (lenLe (Add.add (List.length σ.q5) (Add.add 0 1))) (M.req True (M.req (0≤
 Int.ofNat 0∧Int.ofNat 0<Int.ofNat 10) (M.pure (Step.next (σ.1,σ.2.1,σ.2.2.1,σ.2.2.2.1,σ.2.2.2.2.1,σ.q5++[(((List.getD σ.2.1 (Int.toNat
 σ.2.2.2.1) (0,0,0,0,0,0)).1,(List.getD σ.2.1 (Int.toNat σ.2.2.2.1) (0,0,0,0,0,0)).2.1,(List.getD σ.2.1 (Int.toNat σ.2.2.2.1) (0,0,0,0,
 0,0)).2.2.1,(List.getD σ.2.1 (Int.toNat σ.2.2.2.1) (0,0,0,0,0,0)).2.2.2.1,Int.ofNat 0,(List.getD σ.2.1 (Int.toNat σ.2.2.2.1) (0,0,0,0,0,
 0)).2.2.2.2.2),IntKind.wrap .i64 (Add.add (List.getD σ.2.1 (Int.toNat σ.2.2.2.1) (0,0,0,0,0,0)).2.2.1 (List.getD σ.1 (Int.toNat (List.getD
 σ.2.1 (Int.toNat σ.2.2.2.1) (0,0,0,0,0,0)).2.1) 0)))],σ.q6,σ.q7,σ.q8,σ.q9,σ.q10,σ.q11,σ.q12,σ.q13,σ.q14,σ.q15,σ.q16,σ.q17,σ.q18,
 σ.q19,σ.q20,σ.q21,σ.q22,σ.q23,σ.q24,σ.q25,σ.q26,σ.q27,()))))))))))) (Step.go fun (σ:List Int×List Slip×Int×Int×List Int×List Ev
 ×List Ev×List Ev×List Ev×List Ev×List Ev×List Ev×List Ev×List Ev×List Ev×Cells)=>M.pure (Step.next (σ.1,σ.2.1,σ.2.2.1,
 IntKind.wrap .i64 (Add.add σ.2.2.2.1 1),σ.2.2.2.2.1,σ.q5,σ.q6,σ.q7,σ.q8,σ.q9,σ.q10,σ.q11,σ.q12,σ.q13,σ.q14,σ.q15,σ.q16,σ.q17,σ.q18,
 σ.q19,σ.q20,σ.q21,σ.q22,σ.q23,σ.q24,σ.q25,σ.q26,σ.q27,()))) else M.bind (M.pure (Step.next (σ.2.2.2.2.1,σ.q5,σ.q6,σ.q7,σ.q8,σ.q9,
 σ.q10,σ.q11,σ.q12,σ.q13,σ.q14,σ.q15,σ.q16,σ.q17,σ.q18,σ.q19,σ.q20,σ.q21,σ.q22,σ.q23,σ.q24,σ.q25,σ.q26,σ.q27,()))) fun r=>M.pure
 (Step.done r)) (σ.1,σ.q13,Int.ofNat (List.length σ.q13),0,σ.2.1,σ.q15,σ.q16,σ.q17,σ.q18,σ.q19,σ.q20,σ.q21,σ.q22,σ.q23,σ.q24,σ.2.2.1,
 σ.2.2.2.1,σ.2.2.2.2.1,σ.q5,σ.q6,σ.q7,σ.q8,σ.q9,σ.q10,σ.q11,σ.q12,σ.q13,σ.q14,()))) (Step.go fun (σ:List Int×List Ev×List Ev×List
 Ev×List Ev×List Ev×List Ev×List Ev×List Ev×List Ev×List Ev×Cells)=>M.bind (M.req True (M.req (0=Int.ofNat 0) (M.bind (M.req (0≤
 Int.ofNat 0∧Int.ofNat 0<Int.ofNat 10) (M.bind (c_slices_SortFunc (c_hire_book_open_c1,σ.2.1,())) fun y=>M.loop (fun (σ:Int×Int×Int×
 List Int×List Ev×List Ev×List Ev×List Ev×List Ev×List Ev×List Ev×List Ev×List Ev×List Ev×Cells)=>if decide (σ.2.2.1<σ.2.1)
 =true then M.req (0≤σ.2.2.1∧σ.2.2.1<Int.ofNat (List.length σ.2.2.2.2.1)) (M.bind (M.req ((2:Int)≠0) (if decide (Int.tmod σ.2.2.1 (2:Int)
 =1)=true then M.pure (Step.next (σ.2.2.1,2,σ.1,σ.2.1,σ.2.2.1,List.getD σ.2.2.2.2.1 (Int.toNat σ.2.2.1) ((0,0,0,0,0,0),0),σ.2.2.2.1,
 σ.2.2.2.2.1,σ.q5,σ.q6,σ.q7,σ.q8,σ.q9,σ.q10,σ.q11,σ.q12,σ.q13,σ.q14,σ.q15,σ.q16,σ.q17,σ.q18,σ.q19,σ.q20,σ.q21,σ.q22,σ.q23,σ.q24,
 σ.q25,σ.q26,())) else M.pure (Step.next (σ.2.2.1,1,σ.1,σ.2.1,σ.2.2.1,List.getD σ.2.2.2.2.1 (Int.toNat σ.2.2.1) ((0,0,0,0,0,0),0),
 σ.2.2.2.1,σ.2.2.2.2.1,σ.q5,σ.q6,σ.q7,σ.q8,σ.q9,σ.q10,σ.q11,σ.q12,σ.q13,σ.q14,σ.q15,σ.q16,σ.q17,σ.q18,σ.q19,σ.q20,σ.q21,σ.q22,
 σ.q23,σ.q24,σ.q25,σ.q26,())))) (Step.go fun (σ:Int×Int×Int×Int×Int×Ev×List Int×List Ev×List Ev×List Ev×List Ev×List Ev×
 List Ev×List Ev×List Ev×List Ev×List Ev×Cells)=>M.req ((!decide (σ.q5.1.2.2.2.1≠σ.2.1))=true→((!decide (σ.q5.1.2.2.2.1≠σ.2.1))=
 true∧True)∧True∧True) (M.req ((!decide (σ.q5.1.2.2.2.1≠σ.2.1))=true→True∧True∧(!decide (σ.q5.1.2.2.2.1≠σ.2.1))=true) (M.req
 ((!decide (σ.q5.1.2.2.2.1≠σ.2.1)&&decide (σ.1 > 0))=true→(!decide (σ.q5.1.2.2.2.1≠σ.2.1)&&decide (σ.1 > 0))=true∧True∧True) (M.req
 ((!decide (σ.q5.1.2.2.2.1≠σ.2.1)&&decide (σ.1 > 0))=true→((!decide (σ.q5.1.2.2.2.1≠σ.2.1)&&decide (σ.1 > 0))=true∧True)∧True∧
 True) (M.req ((!decide (σ.q5.1.2.2.2.1≠σ.2.1)&&decide (σ.1 > 0))=true→((!decide (σ.q5.1.2.2.2.1≠σ.2.1)&&decide (σ.1 > 0))=true∧
 (!decide (σ.q5.1.2.2.2.1≠σ.2.1)&&decide (σ.1 > 0))=true)∧(0≤IntKind.wrap .i64 (σ.1 - 1)∧IntKind.wrap .i64 (σ.1 - 1)<Int.ofNat
 (List.length σ.q7))∧True) (M.req ((!decide (σ.q5.1.2.2.2.1≠σ.2.1)&&decide (σ.1 > 0))=true→(!decide (σ.q5.1.2.2.2.1≠σ.2.1)&&decide (σ.1
 > 0))=true∧True∧True) (M.req ((!decide (σ.q5.1.2.2.2.1≠σ.2.1)&&decide (σ.1 > 0))=true→(!decide (σ.q5.1.2.2.2.1≠σ.2.1)&&decide (σ.1
 > 0))=true∧True∧True) (M.req ((!decide (σ.q5.1.2.2.2.1≠σ.2.1)&&decide (σ.1 > 0))=true→((!decide (σ.q5.1.2.2.2.1≠σ.2.1)&&decide (σ.1
 > 0))=true∧(!decide (σ.q5.1.2.2.2.1≠σ.2.1)&&decide (σ.1 > 0))=true)∧True∧True) (M.req ((!decide (σ.q5.1.2.2.2.1≠σ.2.1))=true→
 ((!decide (σ.q5.1.2.2.2.1≠σ.2.1))=true∧(decide (σ.1 > 0)=true→(!decide (σ.q5.1.2.2.2.1≠σ.2.1)&&decide (σ.1 > 0))=true))∧True∧
 True) (M.req (True∧(decide (σ.q5.1.2.2.2.1≠σ.2.1)=false→(!decide (σ.q5.1.2.2.2.1≠σ.2.1))=true)) (if (decide (σ.q5.1.2.2.2.1≠σ.2.1)||
 decide (σ.1 > 0)&&decide (σ.q5.2=(List.getD σ.q7 (Int.toNat (IntKind.wrap .i64 (σ.1 - 1))) ((0,0,0,0,0,0),0)).2))=true then M.bind
 (M.bind (M.bind (M.pure (none,false,σ.q17,σ.q18,σ.q19,σ.q20,σ.q21,σ.q22,σ.q23,σ.q24,σ.q25,σ.q26,σ.q27,σ.q28,σ.q29,())) fun r=>M.pure
 (Step.done r)) fun r=>M.pure (Step.done r)) fun r=>M.pure (Step.done r) else M.pure (Step.next (σ.2.2.1,σ.2.2.2.1,IntKind.wrap .i64 (Add.add
 σ.2.2.2.2.1 1),σ.q6,σ.q7,σ.q8,σ.q9,σ.q10,σ.q11,σ.q12,σ.q13,σ.q14,σ.q15,σ.q16,σ.q17,σ.q18,σ.q19,σ.q20,σ.q21,σ.q22,σ.q23,σ.q24,
 σ.q25,σ.q26,σ.q27,σ.q28,σ.q29,())))))))))))))) else M.bind (M.pure (Step.next (σ.1,σ.2.2.2.1,σ.2.2.2.2.1,σ.q5,σ.q6,σ.q7,σ.q8,σ.q9,σ.q10,
 σ.q11,σ.q12,σ.q13,σ.q14,σ.q15,σ.q16,σ.q17,σ.q18,σ.q19,σ.q20,σ.q21,σ.q22,σ.q23,σ.q24,σ.q25,σ.q26,()))) fun r=>M.pure (Step.done r))
 (Int.ofNat 0,Int.ofNat (List.length y.1),0,σ.1,y.1,σ.2.2.1,σ.2.2.2.1,σ.2.2.2.2.1,σ.q5,σ.q6,σ.q7,σ.q8,σ.q9,σ.q10,σ.q11,σ.q12,σ.q13,
 σ.q14,σ.q15,σ.q16,σ.q17,σ.q18,σ.q19,σ.q20,σ.q21,σ.q22,σ.q23,()))) (Step.go fun (σ:Int×List Int×List Ev×List Ev×List Ev×List Ev
 ×List Ev×List Ev×List Ev×List Ev×List Ev×List Ev×Cells)=>M.req (IntKind.wrap .i64 (Add.add σ.1 1)=Int.ofNat 1) (M.bind (M.req (0≤
 Int.ofNat 1∧Int.ofNat 1<Int.ofNat 10) (M.bind (c_slices_SortFunc (c_hire_book_open_c1,σ.2.2.2.1,())) fun y=>M.loop (fun (σ:Int×Int×Int
 ×List Int×List Ev×List Ev×List Ev×List Ev×List Ev×List Ev×List Ev×List Ev×List Ev×List Ev×Cells)=>if decide (σ.2.2.1 <
 σ.2.1)=true then M.req (0≤σ.2.2.1∧σ.2.2.1<Int.ofNat (List.length σ.q5)) (M.bind (M.req ((2:Int)≠0) (if decide (Int.tmod σ.2.2.1 (2:Int)
 =1)=true then M.pure (Step.next (σ.2.2.1,2,σ.1,σ.2.1,σ.2.2.1,List.getD σ.q5 (Int.toNat σ.2.2.1) ((0,0,0,0,0,0),0),σ.2.2.2.1,
 σ.2.2.2.2.1,σ.q5,σ.q6,σ.q7,σ.q8,σ.q9,σ.q10,σ.q11,σ.q12,σ.q13,σ.q14,σ.q15,σ.q16,σ.q17,σ.q18,σ.q19,σ.q20,σ.q21,σ.q22,σ.q23,σ.q24,
 σ.q25,σ.q26,())) else M.pure (Step.next (σ.2.2.1,1,σ.1,σ.2.1,σ.2.2.1,List.getD σ.q5 (Int.toNat σ.2.2.1) ((0,0,0,0,0,0),0),σ.2.2.2.1,
 σ.2.2.2.2.1,σ.q5,σ.q6,σ.q7,σ.q8,σ.q9,σ.q10,σ.q11,σ.q12,σ.q13,σ.q14,σ.q15,σ.q16,σ.q17,σ.q18,σ.q19,σ.q20,σ.q21,σ.q22,σ.q23,σ.q24,
 σ.q25,σ.q26,())))) (Step.go fun (σ:Int×Int×Int×Int×Int×Ev×List Int×List Ev×List Ev×List Ev×List Ev×List Ev×List Ev×List
 Ev×List Ev×List Ev×List Ev×Cells)=>M.req ((!decide (σ.q5.1.2.2.2.1≠σ.2.1))=true→((!decide (σ.q5.1.2.2.2.1≠σ.2.1))=true∧True)∧
 True∧True) (M.req ((!decide (σ.q5.1.2.2.2.1≠σ.2.1))=true→True∧True∧(!decide (σ.q5.1.2.2.2.1≠σ.2.1))=true) (M.req ((!decide
 (σ.q5.1.2.2.2.1≠σ.2.1)&&decide (σ.1 > 0))=true→(!decide (σ.q5.1.2.2.2.1≠σ.2.1)&&decide (σ.1 > 0))=true∧True∧True) (M.req ((!decide
 (σ.q5.1.2.2.2.1≠σ.2.1)&&decide (σ.1 > 0))=true→((!decide (σ.q5.1.2.2.2.1≠σ.2.1)&&decide (σ.1 > 0))=true∧True)∧True∧True) (M.req
 ((!decide (σ.q5.1.2.2.2.1≠σ.2.1)&&decide (σ.1 > 0))=true→((!decide (σ.q5.1.2.2.2.1≠σ.2.1)&&decide (σ.1 > 0))=true∧(!decide
 (σ.q5.1.2.2.2.1≠σ.2.1)&&decide (σ.1 > 0))=true)∧(0≤IntKind.wrap .i64 (σ.1 - 1)∧IntKind.wrap .i64 (σ.1 - 1)<Int.ofNat (List.length
 σ.q8))∧True) (M.req ((!decide (σ.q5.1.2.2.2.1≠σ.2.1)&&decide (σ.1 > 0))=true→(!decide (σ.q5.1.2.2.2.1≠σ.2.1)&&decide (σ.1 > 0))=true
 ∧True∧True) (M.req ((!decide (σ.q5.1.2.2.2.1≠σ.2.1)&&decide (σ.1 > 0))=true→(!decide (σ.q5.1.2.2.2.1≠σ.2.1)&&decide (σ.1 > 0))=true
 ∧True∧True) (M.req ((!decide (σ.q5.1.2.2.2.1≠σ.2.1)&&decide (σ.1 > 0))=true→((!decide (σ.q5.1.2.2.2.1≠σ.2.1)&&decide (σ.1 > 0))=true
 ∧(!decide (σ.q5.1.2.2.2.1≠σ.2.1)&&decide (σ.1 > 0))=true)∧True∧True) (M.req ((!decide (σ.q5.1.2.2.2.1≠σ.2.1))=true→((!decide
 (σ.q5.1.2.2.2.1≠σ.2.1))=true∧(decide (σ.1 > 0)=true→(!decide (σ.q5.1.2.2.2.1≠σ.2.1)&&decide (σ.1 > 0))=true))∧True∧True) (M.req
 (True∧(decide (σ.q5.1.2.2.2.1≠σ.2.1)=false→(!decide (σ.q5.1.2.2.2.1≠σ.2.1))=true)) (if (decide (σ.q5.1.2.2.2.1≠σ.2.1)||decide (σ.1 >
 0)&&decide (σ.q5.2=(List.getD σ.q8 (Int.toNat (IntKind.wrap .i64 (σ.1 - 1))) ((0,0,0,0,0,0),0)).2))=true then M.bind (M.bind (M.bind
 (M.pure (none,false,σ.q17,σ.q18,σ.q19,σ.q20,σ.q21,σ.q22,σ.q23,σ.q24,σ.q25,σ.q26,σ.q27,σ.q28,σ.q29,())) fun r=>M.pure (Step.done r))
 fun r=>M.pure (Step.done r)) fun r=>M.pure (Step.done r) else M.pure (Step.next (σ.2.2.1,σ.2.2.2.1,IntKind.wrap .i64 (Add.add σ.2.2.2.2.1 1),
 σ.q6,σ.q7,σ.q8,σ.q9,σ.q10,σ.q11,σ.q12,σ.q13,σ.q14,σ.q15,σ.q16,σ.q17,σ.q18,σ.q19,σ.q20,σ.q21,σ.q22,σ.q23,σ.q24,σ.q25,σ.q26,σ.q27,
 σ.q28,σ.q29,())))))))))))))) else M.bind (M.pure (Step.next (σ.1,σ.2.2.2.1,σ.2.2.2.2.1,σ.q5,σ.q6,σ.q7,σ.q8,σ.q9,σ.q10,σ.q11,σ.q12,σ.q13,
 σ.q14,σ.q15,σ.q16,σ.q17,σ.q18,σ.q19,σ.q20,σ.q21,σ.q22,σ.q23,σ.q24,σ.q25,σ.q26,()))) fun r=>M.pure (Step.done r)) (Int.ofNat 1,
 Int.ofNat (List.length y.1),0,σ.2.1,σ.2.2.1,y.1,σ.2.2.2.2.1,σ.q5,σ.q6,σ.q7,σ.q8,σ.q9,σ.q10,σ.q11,σ.q12,σ.q13,σ.q14,σ.q15,σ.q16,
 σ.q17,σ.q18,σ.q19,σ.q20,σ.q21,σ.q22,σ.q23,σ.q24,()))) (Step.go fun (σ:Int×List Int×List Ev×List Ev×List Ev×List Ev×List Ev×
 List Ev×List Ev×List Ev×List Ev×List Ev×Cells)=>M.req (IntKind.wrap .i64 (Add.add σ.1 1)=Int.ofNat 2) (M.bind (M.req (0≤Int.ofNat 2∧
 Int.ofNat 2<Int.ofNat 10) (M.bind (c_slices_SortFunc (c_hire_book_open_c1,σ.2.2.2.2.1,())) fun y=>M.loop (fun (σ:Int×Int×Int×List Int×
 List Ev×List Ev×List Ev×List Ev×List Ev×List Ev×List Ev×List Ev×List Ev×List Ev×Cells)=>if decide (σ.2.2.1<σ.2.1)=true then
 M.req (0≤σ.2.2.1∧σ.2.2.1<Int.ofNat (List.length σ.q6)) (M.bind (M.req ((2:Int)≠0) (if decide (Int.tmod σ.2.2.1 (2:Int)=1)=true then
 M.pure (Step.next (σ.2.2.1,2,σ.1,σ.2.1,σ.2.2.1,List.getD σ.q6 (Int.toNat σ.2.2.1) ((0,0,0,0,0,0),0),σ.2.2.2.1,σ.2.2.2.2.1,σ.q5,σ.q6,
 σ.q7,σ.q8,σ.q9,σ.q10,σ.q11,σ.q12,σ.q13,σ.q14,σ.q15,σ.q16,σ.q17,σ.q18,σ.q19,σ.q20,σ.q21,σ.q22,σ.q23,σ.q24,σ.q25,σ.q26,())) else
 M.pure (Step.next (σ.2.2.1,1,σ.1,σ.2.1,σ.2.2.1,List.getD σ.q6 (Int.toNat σ.2.2.1) ((0,0,0,0,0,0),0),σ.2.2.2.1,σ.2.2.2.2.1,σ.q5,σ.q6,
 σ.q7,σ.q8,σ.q9,σ.q10,σ.q11,σ.q12,σ.q13,σ.q14,σ.q15,σ.q16,σ.q17,σ.q18,σ.q19,σ.q20,σ.q21,σ.q22,σ.q23,σ.q24,σ.q25,σ.q26,()))))
 (Step.go fun (σ:Int×Int×Int×Int×Int×Ev×List Int×List Ev×List Ev×List Ev×List Ev×List Ev×List Ev×List Ev×List Ev×List
 Ev×List Ev×Cells)=>M.req ((!decide (σ.q5.1.2.2.2.1≠σ.2.1))=true→((!decide (σ.q5.1.2.2.2.1≠σ.2.1))=true∧True)∧True∧True) (M.req
 ((!decide (σ.q5.1.2.2.2.1≠σ.2.1))=true→True∧True∧(!decide (σ.q5.1.2.2.2.1≠σ.2.1))=true) (M.req ((!decide (σ.q5.1.2.2.2.1≠σ.2.1)&&
 decide (σ.1 > 0))=true→(!decide (σ.q5.1.2.2.2.1≠σ.2.1)&&decide (σ.1 > 0))=true∧True∧True) (M.req ((!decide (σ.q5.1.2.2.2.1≠σ.2.1)&&
 decide (σ.1 > 0))=true→((!decide (σ.q5.1.2.2.2.1≠σ.2.1)&&decide (σ.1 > 0))=true∧True)∧True∧True) (M.req ((!decide (σ.q5.1.2.2.2.1≠
 σ.2.1)&&decide (σ.1 > 0))=true→((!decide (σ.q5.1.2.2.2.1≠σ.2.1)&&decide (σ.1 > 0))=true∧(!decide (σ.q5.1.2.2.2.1≠σ.2.1)&&decide
 (σ.1 > 0))=true)∧(0≤IntKind.wrap .i64 (σ.1 - 1)∧IntKind.wrap .i64 (σ.1 - 1)<Int.ofNat (List.length σ.q9))∧True) (M.req ((!decide
 (σ.q5.1.2.2.2.1≠σ.2.1)&&decide (σ.1 > 0))=true→(!decide (σ.q5.1.2.2.2.1≠σ.2.1)&&decide (σ.1 > 0))=true∧True∧True) (M.req ((!decide
 (σ.q5.1.2.2.2.1≠σ.2.1)&&decide (σ.1 > 0))=true→(!decide (σ.q5.1.2.2.2.1≠σ.2.1)&&decide (σ.1 > 0))=true∧True∧True) (M.req ((!decide
 (σ.q5.1.2.2.2.1≠σ.2.1)&&decide (σ.1 > 0))=true→((!decide (σ.q5.1.2.2.2.1≠σ.2.1)&&decide (σ.1 > 0))=true∧(!decide (σ.q5.1.2.2.2.1≠
 σ.2.1)&&decide (σ.1 > 0))=true)∧True∧True) (M.req ((!decide (σ.q5.1.2.2.2.1≠σ.2.1))=true→((!decide (σ.q5.1.2.2.2.1≠σ.2.1))=true∧
 (decide (σ.1 > 0)=true→(!decide (σ.q5.1.2.2.2.1≠σ.2.1)&&decide (σ.1 > 0))=true))∧True∧True) (M.req (True∧(decide (σ.q5.1.2.2.2.1≠
 σ.2.1)=false→(!decide (σ.q5.1.2.2.2.1≠σ.2.1))=true)) (if (decide (σ.q5.1.2.2.2.1≠σ.2.1)||decide (σ.1 > 0)&&decide (σ.q5.2=(List.getD
 σ.q9 (Int.toNat (IntKind.wrap .i64 (σ.1 - 1))) ((0,0,0,0,0,0),0)).2))=true then M.bind (M.bind (M.bind (M.pure (none,false,σ.q17,σ.q18,
 σ.q19,σ.q20,σ.q21,σ.q22,σ.q23,σ.q24,σ.q25,σ.q26,σ.q27,σ.q28,σ.q29,())) fun r=>M.pure (Step.done r)) fun r=>M.pure (Step.done r)) fun r
 =>M.pure (Step.done r) else M.pure (Step.next (σ.2.2.1,σ.2.2.2.1,IntKind.wrap .i64 (Add.add σ.2.2.2.2.1 1),σ.q6,σ.q7,σ.q8,σ.q9,σ.q10,σ.q11,
 σ.q12,σ.q13,σ.q14,σ.q15,σ.q16,σ.q17,σ.q18,σ.q19,σ.q20,σ.q21,σ.q22,σ.q23,σ.q24,σ.q25,σ.q26,σ.q27,σ.q28,σ.q29,())))))))))))))) else
 M.bind (M.pure (Step.next (σ.1,σ.2.2.2.1,σ.2.2.2.2.1,σ.q5,σ.q6,σ.q7,σ.q8,σ.q9,σ.q10,σ.q11,σ.q12,σ.q13,σ.q14,σ.q15,σ.q16,σ.q17,σ.q18,
 σ.q19,σ.q20,σ.q21,σ.q22,σ.q23,σ.q24,σ.q25,σ.q26,()))) fun r=>M.pure (Step.done r)) (Int.ofNat 2,Int.ofNat (List.length y.1),0,σ.2.1,
 σ.2.2.1,σ.2.2.2.1,y.1,σ.q5,σ.q6,σ.q7,σ.q8,σ.q9,σ.q10,σ.q11,σ.q12,σ.q13,σ.q14,σ.q15,σ.q16,σ.q17,σ.q18,σ.q19,σ.q20,σ.q21,σ.q22,
 σ.q23,σ.q24,()))) (Step.go fun (σ:Int×List Int×List Ev×List Ev×List Ev×List Ev×List Ev×List Ev×List Ev×List Ev×List Ev×List
 Ev×Cells)=>M.req (IntKind.wrap .i64 (Add.add σ.1 1)=Int.ofNat 3) (M.bind (M.req (0≤Int.ofNat 3∧Int.ofNat 3<Int.ofNat 10) (M.bind
 (c_slices_SortFunc (c_hire_book_open_c1,σ.q5,())) fun y=>M.loop (fun (σ:Int×Int×Int×List Int×List Ev×List Ev×List Ev×List Ev×
 List Ev×List Ev×List Ev×List Ev×List Ev×List Ev×Cells)=>if decide (σ.2.2.1<σ.2.1)=true then M.req (0≤σ.2.2.1∧σ.2.2.1 <
 Int.ofNat (List.length σ.q7)) (M.bind (M.req ((2:Int)≠0) (if decide (Int.tmod σ.2.2.1 (2:Int)=1)=true then M.pure (Step.next (σ.2.2.1,2,
 σ.1,σ.2.1,σ.2.2.1,List.getD σ.q7 (Int.toNat σ.2.2.1) ((0,0,0,0,0,0),0),σ.2.2.2.1,σ.2.2.2.2.1,σ.q5,σ.q6,σ.q7,σ.q8,σ.q9,σ.q10,σ.q11,
 σ.q12,σ.q13,σ.q14,σ.q15,σ.q16,σ.q17,σ.q18,σ.q19,σ.q20,σ.q21,σ.q22,σ.q23,σ.q24,σ.q25,σ.q26,())) else M.pure (Step.next (σ.2.2.1,1,
 σ.1,σ.2.1,σ.2.2.1,List.getD σ.q7 (Int.toNat σ.2.2.1) ((0,0,0,0,0,0),0),σ.2.2.2.1,σ.2.2.2.2.1,σ.q5,σ.q6,σ.q7,σ.q8,σ.q9,σ.q10,σ.q11,
 σ.q12,σ.q13,σ.q14,σ.q15,σ.q16,σ.q17,σ.q18,σ.q19,σ.q20,σ.q21,σ.q22,σ.q23,σ.q24,σ.q25,σ.q26,())))) (Step.go fun (σ:Int×Int×Int×
 Int×Int×Ev×List Int×List Ev×List Ev×List Ev×List Ev×List Ev×List Ev×List Ev×List Ev×List Ev×List Ev×Cells)=>M.req
 ((!decide (σ.q5.1.2.2.2.1≠σ.2.1))=true→((!decide (σ.q5.1.2.2.2.1≠σ.2.1))=true∧True)∧True∧True) (M.req ((!decide (σ.q5.1.2.2.2.1≠
 σ.2.1))=true→True∧True∧(!decide (σ.q5.1.2.2.2.1≠σ.2.1))=true) (M.req ((!decide (σ.q5.1.2.2.2.1≠σ.2.1)&&decide (σ.1 > 0))=true→
 (!decide (σ.q5.1.2.2.2.1≠σ.2.1)&&decide (σ.1 > 0))=true∧True∧True) (M.req ((!decide (σ.q5.1.2.2.2.1≠σ.2.1)&&decide (σ.1 > 0))=true→
 ((!decide (σ.q5.1.2.2.2.1≠σ.2.1)&&decide (σ.1 > 0))=true∧True)∧True∧True) (M.req ((!decide (σ.q5.1.2.2.2.1≠σ.2.1)&&decide (σ.1 > 0))
 =true→((!decide (σ.q5.1.2.2.2.1≠σ.2.1)&&decide (σ.1 > 0))=true∧(!decide (σ.q5.1.2.2.2.1≠σ.2.1)&&decide (σ.1 > 0))=true)∧(0≤
 IntKind.wrap .i64 (σ.1 - 1)∧IntKind.wrap .i64 (σ.1 - 1)<Int.ofNat (List.length σ.q10))∧True) (M.req ((!decide (σ.q5.1.2.2.2.1≠σ.2.1)&&
 decide (σ.1 > 0))=true→(!decide (σ.q5.1.2.2.2.1≠σ.2.1)&&decide (σ.1 > 0))=true∧True∧True) (M.req ((!decide (σ.q5.1.2.2.2.1≠σ.2.1)&&
 decide (σ.1 > 0))=true→(!decide (σ.q5.1.2.2.2.1≠σ.2.1)&&decide (σ.1 > 0))=true∧True∧True) (M.req ((!decide (σ.q5.1.2.2.2.1≠σ.2.1)&&
 decide (σ.1 > 0))=true→((!decide (σ.q5.1.2.2.2.1≠σ.2.1)&&decide (σ.1 > 0))=true∧(!decide (σ.q5.1.2.2.2.1≠σ.2.1)&&decide (σ.1 > 0))=
 true)∧True∧True) (M.req ((!decide (σ.q5.1.2.2.2.1≠σ.2.1))=true→((!decide (σ.q5.1.2.2.2.1≠σ.2.1))=true∧(decide (σ.1 > 0)=true→
 (!decide (σ.q5.1.2.2.2.1≠σ.2.1)&&decide (σ.1 > 0))=true))∧True∧True) (M.req (True∧(decide (σ.q5.1.2.2.2.1≠σ.2.1)=false→(!decide
 (σ.q5.1.2.2.2.1≠σ.2.1))=true)) (if (decide (σ.q5.1.2.2.2.1≠σ.2.1)||decide (σ.1 > 0)&&decide (σ.q5.2=(List.getD σ.q10 (Int.toNat
 (IntKind.wrap .i64 (σ.1 - 1))) ((0,0,0,0,0,0),0)).2))=true then M.bind (M.bind (M.bind (M.pure (none,false,σ.q17,σ.q18,σ.q19,σ.q20,
 σ.q21,σ.q22,σ.q23,σ.q24,σ.q25,σ.q26,σ.q27,σ.q28,σ.q29,())) fun r=>M.pure (Step.done r)) fun r=>M.pure (Step.done r)) fun r=>M.pure
 (Step.done r) else M.pure (Step.next (σ.2.2.1,σ.2.2.2.1,IntKind.wrap .i64 (Add.add σ.2.2.2.2.1 1),σ.q6,σ.q7,σ.q8,σ.q9,σ.q10,σ.q11,σ.q12,
 σ.q13,σ.q14,σ.q15,σ.q16,σ.q17,σ.q18,σ.q19,σ.q20,σ.q21,σ.q22,σ.q23,σ.q24,σ.q25,σ.q26,σ.q27,σ.q28,σ.q29,())))))))))))))) else M.bind
 (M.pure (Step.next (σ.1,σ.2.2.2.1,σ.2.2.2.2.1,σ.q5,σ.q6,σ.q7,σ.q8,σ.q9,σ.q10,σ.q11,σ.q12,σ.q13,σ.q14,σ.q15,σ.q16,σ.q17,σ.q18,σ.q19,
 σ.q20,σ.q21,σ.q22,σ.q23,σ.q24,σ.q25,σ.q26,()))) fun r=>M.pure (Step.done r)) (Int.ofNat 3,Int.ofNat (List.length y.1),0,σ.2.1,σ.2.2.1,
 σ.2.2.2.1,σ.2.2.2.2.1,y.1,σ.q6,σ.q7,σ.q8,σ.q9,σ.q10,σ.q11,σ.q12,σ.q13,σ.q14,σ.q15,σ.q16,σ.q17,σ.q18,σ.q19,σ.q20,σ.q21,σ.q22,
 σ.q23,σ.q24,()))) (Step.go fun (σ:Int×List Int×List Ev×List Ev×List Ev×List Ev×List Ev×List Ev×List Ev×List Ev×List Ev×List
 Ev×Cells)=>M.req (IntKind.wrap .i64 (Add.add σ.1 1)=Int.ofNat 4) (M.bind (M.req (0≤Int.ofNat 4∧Int.ofNat 4<Int.ofNat 10) (M.bind
 (c_slices_SortFunc (c_hire_book_open_c1,σ.q6,())) fun y=>M.loop (fun (σ:Int×Int×Int×List Int×List Ev×List Ev×List Ev×List Ev×
 List Ev×List Ev×List Ev×List Ev×List Ev×List Ev×Cells)=>if decide (σ.2.2.1<σ.2.1)=true then M.req (0≤σ.2.2.1∧σ.2.2.1 <
 Int.ofNat (List.length σ.q8)) (M.bind (M.req ((2:Int)≠0) (if decide (Int.tmod σ.2.2.1 (2:Int)=1)=true then M.pure (Step.next (σ.2.2.1,2,
 σ.1,σ.2.1,σ.2.2.1,List.getD σ.q8 (Int.toNat σ.2.2.1) ((0,0,0,0,0,0),0),σ.2.2.2.1,σ.2.2.2.2.1,σ.q5,σ.q6,σ.q7,σ.q8,σ.q9,σ.q10,σ.q11,
 σ.q12,σ.q13,σ.q14,σ.q15,σ.q16,σ.q17,σ.q18,σ.q19,σ.q20,σ.q21,σ.q22,σ.q23,σ.q24,σ.q25,σ.q26,())) else M.pure (Step.next (σ.2.2.1,1,
 σ.1,σ.2.1,σ.2.2.1,List.getD σ.q8 (Int.toNat σ.2.2.1) ((0,0,0,0,0,0),0),σ.2.2.2.1,σ.2.2.2.2.1,σ.q5,σ.q6,σ.q7,σ.q8,σ.q9,σ.q10,σ.q11,
 σ.q12,σ.q13,σ.q14,σ.q15,σ.q16,σ.q17,σ.q18,σ.q19,σ.q20,σ.q21,σ.q22,σ.q23,σ.q24,σ.q25,σ.q26,())))) (Step.go fun (σ:Int×Int×Int×
 Int×Int×Ev×List Int×List Ev×List Ev×List Ev×List Ev×List Ev×List Ev×List Ev×List Ev×List Ev×List Ev×Cells)=>M.req
 ((!decide (σ.q5.1.2.2.2.1≠σ.2.1))=true→((!decide (σ.q5.1.2.2.2.1≠σ.2.1))=true∧True)∧True∧True) (M.req ((!decide (σ.q5.1.2.2.2.1≠
 σ.2.1))=true→True∧True∧(!decide (σ.q5.1.2.2.2.1≠σ.2.1))=true) (M.req ((!decide (σ.q5.1.2.2.2.1≠σ.2.1)&&decide (σ.1 > 0))=true→
 (!decide (σ.q5.1.2.2.2.1≠σ.2.1)&&decide (σ.1 > 0))=true∧True∧True) (M.req ((!decide (σ.q5.1.2.2.2.1≠σ.2.1)&&decide (σ.1 > 0))=true→
 ((!decide (σ.q5.1.2.2.2.1≠σ.2.1)&&decide (σ.1 > 0))=true∧True)∧True∧True) (M.req ((!decide (σ.q5.1.2.2.2.1≠σ.2.1)&&decide (σ.1 > 0))
 =true→((!decide (σ.q5.1.2.2.2.1≠σ.2.1)&&decide (σ.1 > 0))=true∧(!decide (σ.q5.1.2.2.2.1≠σ.2.1)&&decide (σ.1 > 0))=true)∧(0≤
 IntKind.wrap .i64 (σ.1 - 1)∧IntKind.wrap .i64 (σ.1 - 1)<Int.ofNat (List.length σ.q11))∧True) (M.req ((!decide (σ.q5.1.2.2.2.1≠σ.2.1)&&
 decide (σ.1 > 0))=true→(!decide (σ.q5.1.2.2.2.1≠σ.2.1)&&decide (σ.1 > 0))=true∧True∧True) (M.req ((!decide (σ.q5.1.2.2.2.1≠σ.2.1)&&
 decide (σ.1 > 0))=true→(!decide (σ.q5.1.2.2.2.1≠σ.2.1)&&decide (σ.1 > 0))=true∧True∧True) (M.req ((!decide (σ.q5.1.2.2.2.1≠σ.2.1)&&
 decide (σ.1 > 0))=true→((!decide (σ.q5.1.2.2.2.1≠σ.2.1)&&decide (σ.1 > 0))=true∧(!decide (σ.q5.1.2.2.2.1≠σ.2.1)&&decide (σ.1 > 0))=
 true)∧True∧True) (M.req ((!decide (σ.q5.1.2.2.2.1≠σ.2.1))=true→((!decide (σ.q5.1.2.2.2.1≠σ.2.1))=true∧(decide (σ.1 > 0)=true→
 (!decide (σ.q5.1.2.2.2.1≠σ.2.1)&&decide (σ.1 > 0))=true))∧True∧True) (M.req (True∧(decide (σ.q5.1.2.2.2.1≠σ.2.1)=false→(!decide
 (σ.q5.1.2.2.2.1≠σ.2.1))=true)) (if (decide (σ.q5.1.2.2.2.1≠σ.2.1)||decide (σ.1 > 0)&&decide (σ.q5.2=(List.getD σ.q11 (Int.toNat
 (IntKind.wrap .i64 (σ.1 - 1))) ((0,0,0,0,0,0),0)).2))=true then M.bind (M.bind (M.bind (M.pure (none,false,σ.q17,σ.q18,σ.q19,σ.q20,
 σ.q21,σ.q22,σ.q23,σ.q24,σ.q25,σ.q26,σ.q27,σ.q28,σ.q29,())) fun r=>M.pure (Step.done r)) fun r=>M.pure (Step.done r)) fun r=>M.pure
 (Step.done r) else M.pure (Step.next (σ.2.2.1,σ.2.2.2.1,IntKind.wrap .i64 (Add.add σ.2.2.2.2.1 1),σ.q6,σ.q7,σ.q8,σ.q9,σ.q10,σ.q11,σ.q12,
 σ.q13,σ.q14,σ.q15,σ.q16,σ.q17,σ.q18,σ.q19,σ.q20,σ.q21,σ.q22,σ.q23,σ.q24,σ.q25,σ.q26,σ.q27,σ.q28,σ.q29,())))))))))))))) else M.bind
 (M.pure (Step.next (σ.1,σ.2.2.2.1,σ.2.2.2.2.1,σ.q5,σ.q6,σ.q7,σ.q8,σ.q9,σ.q10,σ.q11,σ.q12,σ.q13,σ.q14,σ.q15,σ.q16,σ.q17,σ.q18,σ.q19,
 σ.q20,σ.q21,σ.q22,σ.q23,σ.q24,σ.q25,σ.q26,()))) fun r=>M.pure (Step.done r)) (Int.ofNat 4,Int.ofNat (List.length y.1),0,σ.2.1,σ.2.2.1,
 σ.2.2.2.1,σ.2.2.2.2.1,σ.q5,y.1,σ.q7,σ.q8,σ.q9,σ.q10,σ.q11,σ.q12,σ.q13,σ.q14,σ.q15,σ.q16,σ.q17,σ.q18,σ.q19,σ.q20,σ.q21,σ.q22,
 σ.q23,σ.q24,()))) (Step.go fun (σ:Int×List Int×List Ev×List Ev×List Ev×List Ev×List Ev×List Ev×List Ev×List Ev×List Ev×List
 Ev×Cells)=>M.req (IntKind.wrap .i64 (Add.add σ.1 1)=Int.ofNat 5) (M.bind (M.req (0≤Int.ofNat 5∧Int.ofNat 5<Int.ofNat 10) (M.bind
 (c_slices_SortFunc (c_hire_book_open_c1,σ.q7,())) fun y=>M.loop (fun (σ:Int×Int×Int×List Int×List Ev×List Ev×List Ev×List Ev×
 List Ev×List Ev×List Ev×List Ev×List Ev×List Ev×Cells)=>if decide (σ.2.2.1<σ.2.1)=true then M.req (0≤σ.2.2.1∧σ.2.2.1 <
 Int.ofNat (List.length σ.q9)) (M.bind (M.req ((2:Int)≠0) (if decide (Int.tmod σ.2.2.1 (2:Int)=1)=true then M.pure (Step.next (σ.2.2.1,2,
 σ.1,σ.2.1,σ.2.2.1,List.getD σ.q9 (Int.toNat σ.2.2.1) ((0,0,0,0,0,0),0),σ.2.2.2.1,σ.2.2.2.2.1,σ.q5,σ.q6,σ.q7,σ.q8,σ.q9,σ.q10,σ.q11,
 σ.q12,σ.q13,σ.q14,σ.q15,σ.q16,σ.q17,σ.q18,σ.q19,σ.q20,σ.q21,σ.q22,σ.q23,σ.q24,σ.q25,σ.q26,())) else M.pure (Step.next (σ.2.2.1,1,
 σ.1,σ.2.1,σ.2.2.1,List.getD σ.q9 (Int.toNat σ.2.2.1) ((0,0,0,0,0,0),0),σ.2.2.2.1,σ.2.2.2.2.1,σ.q5,σ.q6,σ.q7,σ.q8,σ.q9,σ.q10,σ.q11,
 σ.q12,σ.q13,σ.q14,σ.q15,σ.q16,σ.q17,σ.q18,σ.q19,σ.q20,σ.q21,σ.q22,σ.q23,σ.q24,σ.q25,σ.q26,())))) (Step.go fun (σ:Int×Int×Int×
 Int×Int×Ev×List Int×List Ev×List Ev×List Ev×List Ev×List Ev×List Ev×List Ev×List Ev×List Ev×List Ev×Cells)=>M.req
 ((!decide (σ.q5.1.2.2.2.1≠σ.2.1))=true→((!decide (σ.q5.1.2.2.2.1≠σ.2.1))=true∧True)∧True∧True) (M.req ((!decide (σ.q5.1.2.2.2.1≠
 σ.2.1))=true→True∧True∧(!decide (σ.q5.1.2.2.2.1≠σ.2.1))=true) (M.req ((!decide (σ.q5.1.2.2.2.1≠σ.2.1)&&decide (σ.1 > 0))=true→
 (!decide (σ.q5.1.2.2.2.1≠σ.2.1)&&decide (σ.1 > 0))=true∧True∧True) (M.req ((!decide (σ.q5.1.2.2.2.1≠σ.2.1)&&decide (σ.1 > 0))=true→
 ((!decide (σ.q5.1.2.2.2.1≠σ.2.1)&&decide (σ.1 > 0))=true∧True)∧True∧True) (M.req ((!decide (σ.q5.1.2.2.2.1≠σ.2.1)&&decide (σ.1 > 0))
 =true→((!decide (σ.q5.1.2.2.2.1≠σ.2.1)&&decide (σ.1 > 0))=true∧(!decide (σ.q5.1.2.2.2.1≠σ.2.1)&&decide (σ.1 > 0))=true)∧(0≤
 IntKind.wrap .i64 (σ.1 - 1)∧IntKind.wrap .i64 (σ.1 - 1)<Int.ofNat (List.length σ.q12))∧True) (M.req ((!decide (σ.q5.1.2.2.2.1≠σ.2.1)&&
 decide (σ.1 > 0))=true→(!decide (σ.q5.1.2.2.2.1≠σ.2.1)&&decide (σ.1 > 0))=true∧True∧True) (M.req ((!decide (σ.q5.1.2.2.2.1≠σ.2.1)&&
 decide (σ.1 > 0))=true→(!decide (σ.q5.1.2.2.2.1≠σ.2.1)&&decide (σ.1 > 0))=true∧True∧True) (M.req ((!decide (σ.q5.1.2.2.2.1≠σ.2.1)&&
 decide (σ.1 > 0))=true→((!decide (σ.q5.1.2.2.2.1≠σ.2.1)&&decide (σ.1 > 0))=true∧(!decide (σ.q5.1.2.2.2.1≠σ.2.1)&&decide (σ.1 > 0))=
 true)∧True∧True) (M.req ((!decide (σ.q5.1.2.2.2.1≠σ.2.1))=true→((!decide (σ.q5.1.2.2.2.1≠σ.2.1))=true∧(decide (σ.1 > 0)=true→
 (!decide (σ.q5.1.2.2.2.1≠σ.2.1)&&decide (σ.1 > 0))=true))∧True∧True) (M.req (True∧(decide (σ.q5.1.2.2.2.1≠σ.2.1)=false→(!decide
 (σ.q5.1.2.2.2.1≠σ.2.1))=true)) (if (decide (σ.q5.1.2.2.2.1≠σ.2.1)||decide (σ.1 > 0)&&decide (σ.q5.2=(List.getD σ.q12 (Int.toNat
 (IntKind.wrap .i64 (σ.1 - 1))) ((0,0,0,0,0,0),0)).2))=true then M.bind (M.bind (M.bind (M.pure (none,false,σ.q17,σ.q18,σ.q19,σ.q20,
 σ.q21,σ.q22,σ.q23,σ.q24,σ.q25,σ.q26,σ.q27,σ.q28,σ.q29,())) fun r=>M.pure (Step.done r)) fun r=>M.pure (Step.done r)) fun r=>M.pure
 (Step.done r) else M.pure (Step.next (σ.2.2.1,σ.2.2.2.1,IntKind.wrap .i64 (Add.add σ.2.2.2.2.1 1),σ.q6,σ.q7,σ.q8,σ.q9,σ.q10,σ.q11,σ.q12,
 σ.q13,σ.q14,σ.q15,σ.q16,σ.q17,σ.q18,σ.q19,σ.q20,σ.q21,σ.q22,σ.q23,σ.q24,σ.q25,σ.q26,σ.q27,σ.q28,σ.q29,())))))))))))))) else M.bind
 (M.pure (Step.next (σ.1,σ.2.2.2.1,σ.2.2.2.2.1,σ.q5,σ.q6,σ.q7,σ.q8,σ.q9,σ.q10,σ.q11,σ.q12,σ.q13,σ.q14,σ.q15,σ.q16,σ.q17,σ.q18,σ.q19,
 σ.q20,σ.q21,σ.q22,σ.q23,σ.q24,σ.q25,σ.q26,()))) fun r=>M.pure (Step.done r)) (Int.ofNat 5,Int.ofNat (List.length y.1),0,σ.2.1,σ.2.2.1,
 σ.2.2.2.1,σ.2.2.2.2.1,σ.q5,σ.q6,y.1,σ.q8,σ.q9,σ.q10,σ.q11,σ.q12,σ.q13,σ.q14,σ.q15,σ.q16,σ.q17,σ.q18,σ.q19,σ.q20,σ.q21,σ.q22,
 σ.q23,σ.q24,()))) (Step.go fun (σ:Int×List Int×List Ev×List Ev×List Ev×List Ev×List Ev×List Ev×List Ev×List Ev×List Ev×List
 Ev×Cells)=>M.req (IntKind.wrap .i64 (Add.add σ.1 1)=Int.ofNat 6) (M.bind (M.req (0≤Int.ofNat 6∧Int.ofNat 6<Int.ofNat 10) (M.bind
 (c_slices_SortFunc (c_hire_book_open_c1,σ.q8,())) fun y=>M.loop (fun (σ:Int×Int×Int×List Int×List Ev×List Ev×List Ev×List Ev×
 List Ev×List Ev×List Ev×List Ev×List Ev×List Ev×Cells)=>if decide (σ.2.2.1<σ.2.1)=true then M.req (0≤σ.2.2.1∧σ.2.2.1 <
 Int.ofNat (List.length σ.q10)) (M.bind (M.req ((2:Int)≠0) (if decide (Int.tmod σ.2.2.1 (2:Int)=1)=true then M.pure (Step.next (σ.2.2.1,2,
 σ.1,σ.2.1,σ.2.2.1,List.getD σ.q10 (Int.toNat σ.2.2.1) ((0,0,0,0,0,0),0),σ.2.2.2.1,σ.2.2.2.2.1,σ.q5,σ.q6,σ.q7,σ.q8,σ.q9,σ.q10,σ.q11,
 σ.q12,σ.q13,σ.q14,σ.q15,σ.q16,σ.q17,σ.q18,σ.q19,σ.q20,σ.q21,σ.q22,σ.q23,σ.q24,σ.q25,σ.q26,())) else M.pure (Step.next (σ.2.2.1,1,
 σ.1,σ.2.1,σ.2.2.1,List.getD σ.q10 (Int.toNat σ.2.2.1) ((0,0,0,0,0,0),0),σ.2.2.2.1,σ.2.2.2.2.1,σ.q5,σ.q6,σ.q7,σ.q8,σ.q9,σ.q10,σ.q11,
 σ.q12,σ.q13,σ.q14,σ.q15,σ.q16,σ.q17,σ.q18,σ.q19,σ.q20,σ.q21,σ.q22,σ.q23,σ.q24,σ.q25,σ.q26,())))) (Step.go fun (σ:Int×Int×Int×
 Int×Int×Ev×List Int×List Ev×List Ev×List Ev×List Ev×List Ev×List Ev×List Ev×List Ev×List Ev×List Ev×Cells)=>M.req
 ((!decide (σ.q5.1.2.2.2.1≠σ.2.1))=true→((!decide (σ.q5.1.2.2.2.1≠σ.2.1))=true∧True)∧True∧True) (M.req ((!decide (σ.q5.1.2.2.2.1≠
 σ.2.1))=true→True∧True∧(!decide (σ.q5.1.2.2.2.1≠σ.2.1))=true) (M.req ((!decide (σ.q5.1.2.2.2.1≠σ.2.1)&&decide (σ.1 > 0))=true→
 (!decide (σ.q5.1.2.2.2.1≠σ.2.1)&&decide (σ.1 > 0))=true∧True∧True) (M.req ((!decide (σ.q5.1.2.2.2.1≠σ.2.1)&&decide (σ.1 > 0))=true→
 ((!decide (σ.q5.1.2.2.2.1≠σ.2.1)&&decide (σ.1 > 0))=true∧True)∧True∧True) (M.req ((!decide (σ.q5.1.2.2.2.1≠σ.2.1)&&decide (σ.1 > 0))
 =true→((!decide (σ.q5.1.2.2.2.1≠σ.2.1)&&decide (σ.1 > 0))=true∧(!decide (σ.q5.1.2.2.2.1≠σ.2.1)&&decide (σ.1 > 0))=true)∧(0≤
 IntKind.wrap .i64 (σ.1 - 1)∧IntKind.wrap .i64 (σ.1 - 1)<Int.ofNat (List.length σ.q13))∧True) (M.req ((!decide (σ.q5.1.2.2.2.1≠σ.2.1)&&
 decide (σ.1 > 0))=true→(!decide (σ.q5.1.2.2.2.1≠σ.2.1)&&decide (σ.1 > 0))=true∧True∧True) (M.req ((!decide (σ.q5.1.2.2.2.1≠σ.2.1)&&
 decide (σ.1 > 0))=true→(!decide (σ.q5.1.2.2.2.1≠σ.2.1)&&decide (σ.1 > 0))=true∧True∧True) (M.req ((!decide (σ.q5.1.2.2.2.1≠σ.2.1)&&
 decide (σ.1 > 0))=true→((!decide (σ.q5.1.2.2.2.1≠σ.2.1)&&decide (σ.1 > 0))=true∧(!decide (σ.q5.1.2.2.2.1≠σ.2.1)&&decide (σ.1 > 0))=
 true)∧True∧True) (M.req ((!decide (σ.q5.1.2.2.2.1≠σ.2.1))=true→((!decide (σ.q5.1.2.2.2.1≠σ.2.1))=true∧(decide (σ.1 > 0)=true→
 (!decide (σ.q5.1.2.2.2.1≠σ.2.1)&&decide (σ.1 > 0))=true))∧True∧True) (M.req (True∧(decide (σ.q5.1.2.2.2.1≠σ.2.1)=false→(!decide
 (σ.q5.1.2.2.2.1≠σ.2.1))=true)) (if (decide (σ.q5.1.2.2.2.1≠σ.2.1)||decide (σ.1 > 0)&&decide (σ.q5.2=(List.getD σ.q13 (Int.toNat
 (IntKind.wrap .i64 (σ.1 - 1))) ((0,0,0,0,0,0),0)).2))=true then M.bind (M.bind (M.bind (M.pure (none,false,σ.q17,σ.q18,σ.q19,σ.q20,
 σ.q21,σ.q22,σ.q23,σ.q24,σ.q25,σ.q26,σ.q27,σ.q28,σ.q29,())) fun r=>M.pure (Step.done r)) fun r=>M.pure (Step.done r)) fun r=>M.pure
 (Step.done r) else M.pure (Step.next (σ.2.2.1,σ.2.2.2.1,IntKind.wrap .i64 (Add.add σ.2.2.2.2.1 1),σ.q6,σ.q7,σ.q8,σ.q9,σ.q10,σ.q11,σ.q12,
 σ.q13,σ.q14,σ.q15,σ.q16,σ.q17,σ.q18,σ.q19,σ.q20,σ.q21,σ.q22,σ.q23,σ.q24,σ.q25,σ.q26,σ.q27,σ.q28,σ.q29,())))))))))))))) else M.bind
 (M.pure (Step.next (σ.1,σ.2.2.2.1,σ.2.2.2.2.1,σ.q5,σ.q6,σ.q7,σ.q8,σ.q9,σ.q10,σ.q11,σ.q12,σ.q13,σ.q14,σ.q15,σ.q16,σ.q17,σ.q18,σ.q19,
 σ.q20,σ.q21,σ.q22,σ.q23,σ.q24,σ.q25,σ.q26,()))) fun r=>M.pure (Step.done r)) (Int.ofNat 6,Int.ofNat (List.length y.1),0,σ.2.1,σ.2.2.1,
 σ.2.2.2.1,σ.2.2.2.2.1,σ.q5,σ.q6,σ.q7,y.1,σ.q9,σ.q10,σ.q11,σ.q12,σ.q13,σ.q14,σ.q15,σ.q16,σ.q17,σ.q18,σ.q19,σ.q20,σ.q21,σ.q22,
 σ.q23,σ.q24,()))) (Step.go fun (σ:Int×List Int×List Ev×List Ev×List Ev×List Ev×List Ev×List Ev×List Ev×List Ev×List Ev×List
 Ev×Cells)=>M.req (IntKind.wrap .i64 (Add.add σ.1 1)=Int.ofNat 7) (M.bind (M.req (0≤Int.ofNat 7∧Int.ofNat 7<Int.ofNat 10) (M.bind
 (c_slices_SortFunc (c_hire_book_open_c1,σ.q9,())) fun y=>M.loop (fun (σ:Int×Int×Int×List Int×List Ev×List Ev×List Ev×List Ev×
 List Ev×List Ev×List Ev×List Ev×List Ev×List Ev×Cells)=>if decide (σ.2.2.1<σ.2.1)=true then M.req (0≤σ.2.2.1∧σ.2.2.1 <
 Int.ofNat (List.length σ.q11)) (M.bind (M.req ((2:Int)≠0) (if decide (Int.tmod σ.2.2.1 (2:Int)=1)=true then M.pure (Step.next (σ.2.2.1,2,
 σ.1,σ.2.1,σ.2.2.1,List.getD σ.q11 (Int.toNat σ.2.2.1) ((0,0,0,0,0,0),0),σ.2.2.2.1,σ.2.2.2.2.1,σ.q5,σ.q6,σ.q7,σ.q8,σ.q9,σ.q10,σ.q11,
 σ.q12,σ.q13,σ.q14,σ.q15,σ.q16,σ.q17,σ.q18,σ.q19,σ.q20,σ.q21,σ.q22,σ.q23,σ.q24,σ.q25,σ.q26,())) else M.pure (Step.next (σ.2.2.1,1,
 σ.1,σ.2.1,σ.2.2.1,List.getD σ.q11 (Int.toNat σ.2.2.1) ((0,0,0,0,0,0),0),σ.2.2.2.1,σ.2.2.2.2.1,σ.q5,σ.q6,σ.q7,σ.q8,σ.q9,σ.q10,σ.q11,
 σ.q12,σ.q13,σ.q14,σ.q15,σ.q16,σ.q17,σ.q18,σ.q19,σ.q20,σ.q21,σ.q22,σ.q23,σ.q24,σ.q25,σ.q26,())))) (Step.go fun (σ:Int×Int×Int×
 Int×Int×Ev×List Int×List Ev×List Ev×List Ev×List Ev×List Ev×List Ev×List Ev×List Ev×List Ev×List Ev×Cells)=>M.req
 ((!decide (σ.q5.1.2.2.2.1≠σ.2.1))=true→((!decide (σ.q5.1.2.2.2.1≠σ.2.1))=true∧True)∧True∧True) (M.req ((!decide (σ.q5.1.2.2.2.1≠
 σ.2.1))=true→True∧True∧(!decide (σ.q5.1.2.2.2.1≠σ.2.1))=true) (M.req ((!decide (σ.q5.1.2.2.2.1≠σ.2.1)&&decide (σ.1 > 0))=true→
 (!decide (σ.q5.1.2.2.2.1≠σ.2.1)&&decide (σ.1 > 0))=true∧True∧True) (M.req ((!decide (σ.q5.1.2.2.2.1≠σ.2.1)&&decide (σ.1 > 0))=true→
 ((!decide (σ.q5.1.2.2.2.1≠σ.2.1)&&decide (σ.1 > 0))=true∧True)∧True∧True) (M.req ((!decide (σ.q5.1.2.2.2.1≠σ.2.1)&&decide (σ.1 > 0))
 =true→((!decide (σ.q5.1.2.2.2.1≠σ.2.1)&&decide (σ.1 > 0))=true∧(!decide (σ.q5.1.2.2.2.1≠σ.2.1)&&decide (σ.1 > 0))=true)∧(0≤
 IntKind.wrap .i64 (σ.1 - 1)∧IntKind.wrap .i64 (σ.1 - 1)<Int.ofNat (List.length σ.q14))∧True) (M.req ((!decide (σ.q5.1.2.2.2.1≠σ.2.1)&&
 decide (σ.1 > 0))=true→(!decide (σ.q5.1.2.2.2.1≠σ.2.1)&&decide (σ.1 > 0))=true∧True∧True) (M.req ((!decide (σ.q5.1.2.2.2.1≠σ.2.1)&&
 decide (σ.1 > 0))=true→(!decide (σ.q5.1.2.2.2.1≠σ.2.1)&&decide (σ.1 > 0))=true∧True∧True) (M.req ((!decide (σ.q5.1.2.2.2.1≠σ.2.1)&&
 decide (σ.1 > 0))=true→((!decide (σ.q5.1.2.2.2.1≠σ.2.1)&&decide (σ.1 > 0))=true∧(!decide (σ.q5.1.2.2.2.1≠σ.2.1)&&decide (σ.1 > 0))=
 true)∧True∧True) (M.req ((!decide (σ.q5.1.2.2.2.1≠σ.2.1))=true→((!decide (σ.q5.1.2.2.2.1≠σ.2.1))=true∧(decide (σ.1 > 0)=true→
 (!decide (σ.q5.1.2.2.2.1≠σ.2.1)&&decide (σ.1 > 0))=true))∧True∧True) (M.req (True∧(decide (σ.q5.1.2.2.2.1≠σ.2.1)=false→(!decide
 (σ.q5.1.2.2.2.1≠σ.2.1))=true)) (if (decide (σ.q5.1.2.2.2.1≠σ.2.1)||decide (σ.1 > 0)&&decide (σ.q5.2=(List.getD σ.q14 (Int.toNat
 (IntKind.wrap .i64 (σ.1 - 1))) ((0,0,0,0,0,0),0)).2))=true then M.bind (M.bind (M.bind (M.pure (none,false,σ.q17,σ.q18,σ.q19,σ.q20,
 σ.q21,σ.q22,σ.q23,σ.q24,σ.q25,σ.q26,σ.q27,σ.q28,σ.q29,())) fun r=>M.pure (Step.done r)) fun r=>M.pure (Step.done r)) fun r=>M.pure
 (Step.done r) else M.pure (Step.next (σ.2.2.1,σ.2.2.2.1,IntKind.wrap .i64 (Add.add σ.2.2.2.2.1 1),σ.q6,σ.q7,σ.q8,σ.q9,σ.q10,σ.q11,σ.q12,
 σ.q13,σ.q14,σ.q15,σ.q16,σ.q17,σ.q18,σ.q19,σ.q20,σ.q21,σ.q22,σ.q23,σ.q24,σ.q25,σ.q26,σ.q27,σ.q28,σ.q29,())))))))))))))) else M.bind
 (M.pure (Step.next (σ.1,σ.2.2.2.1,σ.2.2.2.2.1,σ.q5,σ.q6,σ.q7,σ.q8,σ.q9,σ.q10,σ.q11,σ.q12,σ.q13,σ.q14,σ.q15,σ.q16,σ.q17,σ.q18,σ.q19,
 σ.q20,σ.q21,σ.q22,σ.q23,σ.q24,σ.q25,σ.q26,()))) fun r=>M.pure (Step.done r)) (Int.ofNat 7,Int.ofNat (List.length y.1),0,σ.2.1,σ.2.2.1,
 σ.2.2.2.1,σ.2.2.2.2.1,σ.q5,σ.q6,σ.q7,σ.q8,y.1,σ.q10,σ.q11,σ.q12,σ.q13,σ.q14,σ.q15,σ.q16,σ.q17,σ.q18,σ.q19,σ.q20,σ.q21,σ.q22,
 σ.q23,σ.q24,()))) (Step.go fun (σ:Int×List Int×List Ev×List Ev×List Ev×List Ev×List Ev×List Ev×List Ev×List Ev×List Ev×List
 Ev×Cells)=>M.req (IntKind.wrap .i64 (Add.add σ.1 1)=Int.ofNat 8) (M.bind (M.req (0≤Int.ofNat 8∧Int.ofNat 8<Int.ofNat 10) (M.bind
 (c_slices_SortFunc (c_hire_book_open_c1,σ.q10,())) fun y=>M.loop (fun (σ:Int×Int×Int×List Int×List Ev×List Ev×List Ev×List Ev×
 List Ev×List Ev×List Ev×List Ev×List Ev×List Ev×Cells)=>if decide (σ.2.2.1<σ.2.1)=true then M.req (0≤σ.2.2.1∧σ.2.2.1 <
 Int.ofNat (List.length σ.q12)) (M.bind (M.req ((2:Int)≠0) (if decide (Int.tmod σ.2.2.1 (2:Int)=1)=true then M.pure (Step.next (σ.2.2.1,2,
 σ.1,σ.2.1,σ.2.2.1,List.getD σ.q12 (Int.toNat σ.2.2.1) ((0,0,0,0,0,0),0),σ.2.2.2.1,σ.2.2.2.2.1,σ.q5,σ.q6,σ.q7,σ.q8,σ.q9,σ.q10,σ.q11,
 σ.q12,σ.q13,σ.q14,σ.q15,σ.q16,σ.q17,σ.q18,σ.q19,σ.q20,σ.q21,σ.q22,σ.q23,σ.q24,σ.q25,σ.q26,())) else M.pure (Step.next (σ.2.2.1,1,
 σ.1,σ.2.1,σ.2.2.1,List.getD σ.q12 (Int.toNat σ.2.2.1) ((0,0,0,0,0,0),0),σ.2.2.2.1,σ.2.2.2.2.1,σ.q5,σ.q6,σ.q7,σ.q8,σ.q9,σ.q10,σ.q11,
 σ.q12,σ.q13,σ.q14,σ.q15,σ.q16,σ.q17,σ.q18,σ.q19,σ.q20,σ.q21,σ.q22,σ.q23,σ.q24,σ.q25,σ.q26,())))) (Step.go fun (σ:Int×Int×Int×
 Int×Int×Ev×List Int×List Ev×List Ev×List Ev×List Ev×List Ev×List Ev×List Ev×List Ev×List Ev×List Ev×Cells)=>M.req
 ((!decide (σ.q5.1.2.2.2.1≠σ.2.1))=true→((!decide (σ.q5.1.2.2.2.1≠σ.2.1))=true∧True)∧True∧True) (M.req ((!decide (σ.q5.1.2.2.2.1≠
 σ.2.1))=true→True∧True∧(!decide (σ.q5.1.2.2.2.1≠σ.2.1))=true) (M.req ((!decide (σ.q5.1.2.2.2.1≠σ.2.1)&&decide (σ.1 > 0))=true→
 (!decide (σ.q5.1.2.2.2.1≠σ.2.1)&&decide (σ.1 > 0))=true∧True∧True) (M.req ((!decide (σ.q5.1.2.2.2.1≠σ.2.1)&&decide (σ.1 > 0))=true→
 ((!decide (σ.q5.1.2.2.2.1≠σ.2.1)&&decide (σ.1 > 0))=true∧True)∧True∧True) (M.req ((!decide (σ.q5.1.2.2.2.1≠σ.2.1)&&decide (σ.1 > 0))
 =true→((!decide (σ.q5.1.2.2.2.1≠σ.2.1)&&decide (σ.1 > 0))=true∧(!decide (σ.q5.1.2.2.2.1≠σ.2.1)&&decide (σ.1 > 0))=true)∧(0≤
 IntKind.wrap .i64 (σ.1 - 1)∧IntKind.wrap .i64 (σ.1 - 1)<Int.ofNat (List.length σ.q15))∧True) (M.req ((!decide (σ.q5.1.2.2.2.1≠σ.2.1)&&
 decide (σ.1 > 0))=true→(!decide (σ.q5.1.2.2.2.1≠σ.2.1)&&decide (σ.1 > 0))=true∧True∧True) (M.req ((!decide (σ.q5.1.2.2.2.1≠σ.2.1)&&
 decide (σ.1 > 0))=true→(!decide (σ.q5.1.2.2.2.1≠σ.2.1)&&decide (σ.1 > 0))=true∧True∧True) (M.req ((!decide (σ.q5.1.2.2.2.1≠σ.2.1)&&
 decide (σ.1 > 0))=true→((!decide (σ.q5.1.2.2.2.1≠σ.2.1)&&decide (σ.1 > 0))=true∧(!decide (σ.q5.1.2.2.2.1≠σ.2.1)&&decide (σ.1 > 0))=
 true)∧True∧True) (M.req ((!decide (σ.q5.1.2.2.2.1≠σ.2.1))=true→((!decide (σ.q5.1.2.2.2.1≠σ.2.1))=true∧(decide (σ.1 > 0)=true→
 (!decide (σ.q5.1.2.2.2.1≠σ.2.1)&&decide (σ.1 > 0))=true))∧True∧True) (M.req (True∧(decide (σ.q5.1.2.2.2.1≠σ.2.1)=false→(!decide
 (σ.q5.1.2.2.2.1≠σ.2.1))=true)) (if (decide (σ.q5.1.2.2.2.1≠σ.2.1)||decide (σ.1 > 0)&&decide (σ.q5.2=(List.getD σ.q15 (Int.toNat
 (IntKind.wrap .i64 (σ.1 - 1))) ((0,0,0,0,0,0),0)).2))=true then M.bind (M.bind (M.bind (M.pure (none,false,σ.q17,σ.q18,σ.q19,σ.q20,
 σ.q21,σ.q22,σ.q23,σ.q24,σ.q25,σ.q26,σ.q27,σ.q28,σ.q29,())) fun r=>M.pure (Step.done r)) fun r=>M.pure (Step.done r)) fun r=>M.pure
 (Step.done r) else M.pure (Step.next (σ.2.2.1,σ.2.2.2.1,IntKind.wrap .i64 (Add.add σ.2.2.2.2.1 1),σ.q6,σ.q7,σ.q8,σ.q9,σ.q10,σ.q11,σ.q12,
 σ.q13,σ.q14,σ.q15,σ.q16,σ.q17,σ.q18,σ.q19,σ.q20,σ.q21,σ.q22,σ.q23,σ.q24,σ.q25,σ.q26,σ.q27,σ.q28,σ.q29,())))))))))))))) else M.bind
 (M.pure (Step.next (σ.1,σ.2.2.2.1,σ.2.2.2.2.1,σ.q5,σ.q6,σ.q7,σ.q8,σ.q9,σ.q10,σ.q11,σ.q12,σ.q13,σ.q14,σ.q15,σ.q16,σ.q17,σ.q18,σ.q19,
 σ.q20,σ.q21,σ.q22,σ.q23,σ.q24,σ.q25,σ.q26,()))) fun r=>M.pure (Step.done r)) (Int.ofNat 8,Int.ofNat (List.length y.1),0,σ.2.1,σ.2.2.1,
 σ.2.2.2.1,σ.2.2.2.2.1,σ.q5,σ.q6,σ.q7,σ.q8,σ.q9,y.1,σ.q11,σ.q12,σ.q13,σ.q14,σ.q15,σ.q16,σ.q17,σ.q18,σ.q19,σ.q20,σ.q21,σ.q22,σ.q23,
 σ.q24,()))) (Step.go fun (σ:Int×List Int×List Ev×List Ev×List Ev×List Ev×List Ev×List Ev×List Ev×List Ev×List Ev×List Ev×
 Cells)=>M.req (IntKind.wrap .i64 (Add.add σ.1 1)=Int.ofNat 9) (M.bind (M.req (0≤Int.ofNat 9∧Int.ofNat 9<Int.ofNat 10) (M.bind
 (c_slices_SortFunc (c_hire_book_open_c1,σ.q11,())) fun y=>M.loop (fun (σ:Int×Int×Int×List Int×List Ev×List Ev×List Ev×List Ev×
 List Ev×List Ev×List Ev×List Ev×List Ev×List Ev×Cells)=>if decide (σ.2.2.1<σ.2.1)=true then M.req (0≤σ.2.2.1∧σ.2.2.1 <
 Int.ofNat (List.length σ.q13)) (M.bind (M.req ((2:Int)≠0) (if decide (Int.tmod σ.2.2.1 (2:Int)=1)=true then M.pure (Step.next (σ.2.2.1,2,
 σ.1,σ.2.1,σ.2.2.1,List.getD σ.q13 (Int.toNat σ.2.2.1) ((0,0,0,0,0,0),0),σ.2.2.2.1,σ.2.2.2.2.1,σ.q5,σ.q6,σ.q7,σ.q8,σ.q9,σ.q10,σ.q11,
 σ.q12,σ.q13,σ.q14,σ.q15,σ.q16,σ.q17,σ.q18,σ.q19,σ.q20,σ.q21,σ.q22,σ.q23,σ.q24,σ.q25,σ.q26,())) else M.pure (Step.next (σ.2.2.1,1,
 σ.1,σ.2.1,σ.2.2.1,List.getD σ.q13 (Int.toNat σ.2.2.1) ((0,0,0,0,0,0),0),σ.2.2.2.1,σ.2.2.2.2.1,σ.q5,σ.q6,σ.q7,σ.q8,σ.q9,σ.q10,σ.q11,
 σ.q12,σ.q13,σ.q14,σ.q15,σ.q16,σ.q17,σ.q18,σ.q19,σ.q20,σ.q21,σ.q22,σ.q23,σ.q24,σ.q25,σ.q26,())))) (Step.go fun (σ:Int×Int×Int×
 Int×Int×Ev×List Int×List Ev×List Ev×List Ev×List Ev×List Ev×List Ev×List Ev×List Ev×List Ev×List Ev×Cells)=>M.req
 ((!decide (σ.q5.1.2.2.2.1≠σ.2.1))=true→((!decide (σ.q5.1.2.2.2.1≠σ.2.1))=true∧True)∧True∧True) (M.req ((!decide (σ.q5.1.2.2.2.1≠
 σ.2.1))=true→True∧True∧(!decide (σ.q5.1.2.2.2.1≠σ.2.1))=true) (M.req ((!decide (σ.q5.1.2.2.2.1≠σ.2.1)&&decide (σ.1 > 0))=true→
 (!decide (σ.q5.1.2.2.2.1≠σ.2.1)&&decide (σ.1 > 0))=true∧True∧True) (M.req ((!decide (σ.q5.1.2.2.2.1≠σ.2.1)&&decide (σ.1 > 0))=true→
 ((!decide (σ.q5.1.2.2.2.1≠σ.2.1)&&decide (σ.1 > 0))=true∧True)∧True∧True) (M.req ((!decide (σ.q5.1.2.2.2.1≠σ.2.1)&&decide (σ.1 > 0))
 =true→((!decide (σ.q5.1.2.2.2.1≠σ.2.1)&&decide (σ.1 > 0))=true∧(!decide (σ.q5.1.2.2.2.1≠σ.2.1)&&decide (σ.1 > 0))=true)∧(0≤
 IntKind.wrap .i64 (σ.1 - 1)∧IntKind.wrap .i64 (σ.1 - 1)<Int.ofNat (List.length σ.q16))∧True) (M.req ((!decide (σ.q5.1.2.2.2.1≠σ.2.1)&&
 decide (σ.1 > 0))=true→(!decide (σ.q5.1.2.2.2.1≠σ.2.1)&&decide (σ.1 > 0))=true∧True∧True) (M.req ((!decide (σ.q5.1.2.2.2.1≠σ.2.1)&&
 decide (σ.1 > 0))=true→(!decide (σ.q5.1.2.2.2.1≠σ.2.1)&&decide (σ.1 > 0))=true∧True∧True) (M.req ((!decide (σ.q5.1.2.2.2.1≠σ.2.1)&&
 decide (σ.1 > 0))=true→((!decide (σ.q5.1.2.2.2.1≠σ.2.1)&&decide (σ.1 > 0))=true∧(!decide (σ.q5.1.2.2.2.1≠σ.2.1)&&decide (σ.1 > 0))=
 true)∧True∧True) (M.req ((!decide (σ.q5.1.2.2.2.1≠σ.2.1))=true→((!decide (σ.q5.1.2.2.2.1≠σ.2.1))=true∧(decide (σ.1 > 0)=true→
 (!decide (σ.q5.1.2.2.2.1≠σ.2.1)&&decide (σ.1 > 0))=true))∧True∧True) (M.req (True∧(decide (σ.q5.1.2.2.2.1≠σ.2.1)=false→(!decide
 (σ.q5.1.2.2.2.1≠σ.2.1))=true)) (if (decide (σ.q5.1.2.2.2.1≠σ.2.1)||decide (σ.1 > 0)&&decide (σ.q5.2=(List.getD σ.q16 (Int.toNat
 (IntKind.wrap .i64 (σ.1 - 1))) ((0,0,0,0,0,0),0)).2))=true then M.bind (M.bind (M.bind (M.pure (none,false,σ.q17,σ.q18,σ.q19,σ.q20,
 σ.q21,σ.q22,σ.q23,σ.q24,σ.q25,σ.q26,σ.q27,σ.q28,σ.q29,())) fun r=>M.pure (Step.done r)) fun r=>M.pure (Step.done r)) fun r=>M.pure
 (Step.done r) else M.pure (Step.next (σ.2.2.1,σ.2.2.2.1,IntKind.wrap .i64 (Add.add σ.2.2.2.2.1 1),σ.q6,σ.q7,σ.q8,σ.q9,σ.q10,σ.q11,σ.q12,
 σ.q13,σ.q14,σ.q15,σ.q16,σ.q17,σ.q18,σ.q19,σ.q20,σ.q21,σ.q22,σ.q23,σ.q24,σ.q25,σ.q26,σ.q27,σ.q28,σ.q29,())))))))))))))) else M.bind
 (M.pure (Step.next (σ.1,σ.2.2.2.1,σ.2.2.2.2.1,σ.q5,σ.q6,σ.q7,σ.q8,σ.q9,σ.q10,σ.q11,σ.q12,σ.q13,σ.q14,σ.q15,σ.q16,σ.q17,σ.q18,σ.q19,
 σ.q20,σ.q21,σ.q22,σ.q23,σ.q24,σ.q25,σ.q26,()))) fun r=>M.pure (Step.done r)) (Int.ofNat 9,Int.ofNat (List.length y.1),0,σ.2.1,σ.2.2.1,
 σ.2.2.2.1,σ.2.2.2.2.1,σ.q5,σ.q6,σ.q7,σ.q8,σ.q9,σ.q10,y.1,σ.q12,σ.q13,σ.q14,σ.q15,σ.q16,σ.q17,σ.q18,σ.q19,σ.q20,σ.q21,σ.q22,σ.q23,
 σ.q24,()))) (Step.go fun (σ:Int×List Int×List Ev×List Ev×List Ev×List Ev×List Ev×List Ev×List Ev×List Ev×List Ev×List Ev×
 Cells)=>M.req (IntKind.wrap .i64 (Add.add σ.1 1)=Int.ofNat 10) (M.pure (Step.next (σ.2.1,σ.2.2.1,σ.2.2.2.1,σ.2.2.2.2.1,σ.q5,σ.q6,σ.q7,
 σ.q8,σ.q9,σ.q10,σ.q11,σ.q12,σ.q13,σ.q14,σ.q15,σ.q16,σ.q17,σ.q18,σ.q19,σ.q20,σ.q21,σ.q22,σ.q23,σ.q24,())))))))))))))))))))))))))
 (Step.go fun (σ:List Int×List Ev×List Ev×List Ev×List Ev×List Ev×List Ev×List Ev×List Ev×List Ev×List Ev×Cells)=>M.pure
 (some (σ.1,[σ.2.1,σ.2.2.1,σ.2.2.2.1,σ.2.2.2.2.1,σ.q5,σ.q6,σ.q7,σ.q8,σ.q9,σ.q10]),true,σ.q11,σ.q12,σ.q13,σ.q14,σ.q15,σ.q16,σ.q17,
 σ.q18,σ.q19,σ.q20,σ.q21,σ.q22,σ.q23,()))))
def S_slices_pdqsortF (c_slices_insSortF:Int×Int×(Ev×Slip×Int→M Int)×List Ev×Unit→M (List Ev×Unit)) (x:Int×Int×Int×(Ev×Slip×Int→M Int)×List Ev×Unit):M (List Ev×Unit):=
 M.loop (fun (σ:Int×Int×Int×(Ev×Slip×Int→M Int)×Bool×Bool×List Ev×Unit)=>if decide (IntKind.wrap .i64 (σ.2.1 - σ.1)≤12)=
 true then M.bind (c_slices_insSortF (σ.1,σ.2.1,σ.2.2.2.1,σ.q6,())) fun y=>M.bind (M.pure (y.1,())) fun r=>M.pure (Step.done r) else M.fail)
 (x.1,x.2.1,x.2.2.1,x.2.2.2.1,true,true,x.2.2.2.2.1,())
def S_hire_book_search (c_hire_book_search:List Int×Cells→M (Cells)) (c_hire_book_open:List Int×Cells→M (Option Tru×Bool×Cells)) (x:List Int×Cells):M (Cells):=
 M.req True (if decide (Int.ofNat (List.length x.1)=Int.ofNat (List.length x.2.1))=true then M.bind (M.bind (c_hire_book_open (x.1,x.2.1,
 x.2.2.1,x.2.2.2.1,x.2.2.2.2.1,x.q5,x.q6,x.q7,x.q8,x.q9,x.q10,x.q11,x.q12,x.q13,())) fun y=>if y.2.1=true then M.req True (M.req
 (lenLe (Add.add (List.length y.q14) (Add.add 0 1))) (M.req True (M.pure (Step.next (y.2.2.1,y.2.2.2.1,y.2.2.2.2.1,y.q5,y.q6,y.q7,y.q8,y.q9,
 y.q10,y.q11,y.q12,y.q13,y.q14++[y.1],()))))) else M.pure (Step.next (y.2.2.1,y.2.2.2.1,y.2.2.2.2.1,y.q5,y.q6,y.q7,y.q8,y.q9,y.q10,
 y.q11,y.q12,y.q13,y.q14,()))) (Step.go fun (σ:Cells)=>M.pure (σ.1,σ.2.1,σ.2.2.1,σ.2.2.2.1,σ.2.2.2.2.1,σ.q5,σ.q6,σ.q7,σ.q8,σ.q9,
 σ.q10,σ.q11,σ.q12,())) else M.req True (M.req (0≤Int.ofNat (List.length x.1)∧Int.ofNat (List.length x.1)<Int.ofNat (List.length x.2.1))
 (M.loop (fun (σ:List Int×Int×Int×Cells)=>M.req True (M.req (0≤σ.2.1∧σ.2.1<Int.ofNat (List.length σ.2.2.2.1)) (if decide (σ.2.2.1≤
 (List.getD σ.2.2.2.1 (Int.toNat σ.2.1) (0,0)).2)=true then M.req ((0:Int)≤0∧0≤σ.2.1∧σ.2.1=σ.2.1∧σ.2.1≤Int.ofNat (List.length σ.1))
 (M.req (0<Add.add 0 1∧lenLe (Add.add (List.length (List.take (Int.toNat σ.2.1) σ.1)) (Add.add 0 1))) (M.bind (c_hire_book_search (List.take
 (Int.toNat σ.2.1) σ.1++[σ.2.2.1],σ.2.2.2.1,σ.2.2.2.2.1,σ.q5,σ.q6,σ.q7,σ.q8,σ.q9,σ.q10,σ.q11,σ.q12,σ.q13,σ.q14,σ.q15,())) fun y=>
 M.pure (Step.next (σ.1,σ.2.1,IntKind.wrap .i64 (Add.add σ.2.2.1 1),y.1,y.2.1,y.2.2.1,y.2.2.2.1,y.2.2.2.2.1,y.q5,y.q6,y.q7,y.q8,y.q9,
 y.q10,y.q11,y.q12,())))) else M.bind (M.pure (σ.2.2.2.1,σ.2.2.2.2.1,σ.q5,σ.q6,σ.q7,σ.q8,σ.q9,σ.q10,σ.q11,σ.q12,σ.q13,σ.q14,σ.q15,()))
 fun r=>M.pure (Step.done r)))) (x.1,Int.ofNat (List.length x.1),(List.getD x.2.1 (Int.toNat (Int.ofNat (List.length x.1))) (0,0)).1,x.2.1,
 x.2.2.1,x.2.2.2.1,x.2.2.2.2.1,x.q5,x.q6,x.q7,x.q8,x.q9,x.q10,x.q11,x.q12,x.q13,()))))
def S_slices_SortFunc (c_math_bits_Len:Int→M Int) (c_slices_pdqsortF:Int×Int×Int×(Ev×Slip×Int→M Int)×List Ev×Unit→M (List Ev×Unit)) (x:(Ev×Slip×Int→M Int)×List Ev×Unit):M (List Ev×Unit):=
 M.bind (c_math_bits_Len (IntKind.wrap .u64 (Int.ofNat (List.length x.2.1)))) fun y=>M.bind (c_slices_pdqsortF (0,Int.ofNat (List.length x.2.1),y,
 x.1,x.2.1,())) fun y=>M.pure (y.1,())
end Go.Fer
