/- Part 4 of the proof of OrdersLost: shallow programs of Go functions, and what they compute. No condition. -/
import Derived.Test.YtlafippnchnleaaGreatOrdersLostC
import Derived.Scope
import Derived.RangeFuncLeaves
import Derived.OpenShut
import Derived.WideKeyArgs
import Derived.ChangeSame
import Derived.Test.YtlafippnchnleaaGreatProg
import Derived.KernelRfl
noncomputable section
namespace Go.Fer
open Go.RowKit
theorem range_ok {C:Ctx} (hr0:C.r=none) {β:Type} {s:AState} {a:Act} {w:World} (hr:Rel C s a w) {g:Operand} {ps:Array Tmp} {assign body:Code} {kf n:Nat} {fs:Nat→AV} (hg:opAV C.ft s.slot g=.bnd kf n fs) {ic:ITC} (hIt:ItSpec C.P kf ic)
    {x:ic.ts.Den} {fl:List Nat} (hx:(asArgs ic.ts ((List.range n).map fs)).run s.blk=some (x,fl)) {sh rin rout:Shape} (hck:rangeOk sh rout ic.A ps.toList C.nt=true) {σ0:sh.Den} (hσ:sh.rd (s.frz fl)=some σ0) (hpre:ic.pre x)
    {run:AState→M (Ex×rout.Den)} {k:Ex→AState→M β} {O:β→Prop} (hm:M.Ret (rounds (fun σ y=>roundI sh rin rout ic.A ps.toList σ y run) (ic.seq x) σ0) fun p=>M.Ret (k p.1 (sh.st p.2)) O)
    (hwalk:∀ l,RoundWalk C.P C.ft C.nt assign body l run) {Q:Exit→Act→World→Prop}
    (hk:∀ u,C.UpOk u→∀ e s' a' w',Rel (C.up u) s' a' w'→M.Ret (k e s') O→Q e.the a' w'):(Code.rangeFunc g ps assign body).wpIn (rnd C.r) 0 C.P Q a w:=by
  obtain ⟨κ,F,hr⟩:=hr
  obtain ⟨F1,f1,hr1,f2⟩:=RelK.frzL (asArgs_closed _ hx) hr
  obtain ⟨κ,F2,f3,hr2⟩:=Shape.rd_okK hσ hr1
  have hv:=opAV_ok hr g
  rw [hg] at hv
  obtain ⟨vs,hv1,hv2,hv3⟩:=hv
  have hargs0:RArgs C.P ic.ts F1 w vs x:=asArgs_ok hr.blks f1 ic.ts hx f2 (by simp [hv2]) fun i hi hi'=>by
    have:=hv3 i (by omega)
    rw [List.getD_eq_getElem?_getD,List.getElem?_eq_getElem hi'] at this
    simpa using this
  have hno:∀ σ:sh.Den,(sh.st σ).slot TRS=.undef:=fun σ=>by
    simp only [rangeOk,Bool.and_eq_true,Bool.not_eq_true'] at hck
    exact look_none sh.slots gId σ TRS hck.1.1.1.2
  rw [hr0]
  refine wpIn_rangeFunc fun fn _=>?_
  have hB:w.heap.size<((w.alloc (.deferred (some []))).alloc (.loop (lrec fn a.tmps ps assign body w.heap.size .ready .normal))).heap.size:=by simp;try omega
  have hl:w.heap.size+1<((w.alloc (.deferred (some []))).alloc (.loop (lrec fn a.tmps ps assign body w.heap.size .ready .normal))).heap.size:=by simp;try omega
  have hlobj:((w.alloc (.deferred (some []))).alloc (.loop (lrec fn a.tmps ps assign body w.heap.size .ready .normal))).heap[w.heap.size+1]?=some (.loop (lrec fn a.tmps ps assign body w.heap.size .ready .normal)):=by
    have:=heap_alloc_new (w.alloc (.deferred (some []))) (.loop (lrec fn a.tmps ps assign body w.heap.size .ready .normal))
    simpa using this
  have hBobj:((w.alloc (.deferred (some []))).alloc (.loop (lrec fn a.tmps ps assign body w.heap.size .ready .normal))).heap[w.heap.size]?=some (.deferred (some [])):=
    (heap_alloc_lt _ _ (by simp)).trans (heap_alloc_new w _)
  have hlow:∀ r,r<w.heap.size→((w.alloc (.deferred (some []))).alloc (.loop (lrec fn a.tmps ps assign body w.heap.size .ready .normal))).heap[r]?=w.heap[r]?:=fun r h=>heap_alloc2 h
  have henter:(Instr.enterLoop fn a.tmps ps assign body none).run C.P w=.ok (w.heap.size+1,[markD w.heap.size]) ((w.alloc (.deferred (some []))).alloc (.loop (lrec fn a.tmps ps assign body w.heap.size .ready .normal))):=run_enterLoop_outer fn a.tmps ps assign body
  have hcw:Calm w ((w.alloc (.deferred (some []))).alloc (.loop (lrec fn a.tmps ps assign body w.heap.size .ready .normal))):=⟨rfl,rfl,rfl⟩
  have hsz1:((w.alloc (.deferred (some []))).alloc (.loop (lrec fn a.tmps ps assign body w.heap.size .ready .normal))).heap.size=w.heap.size+2:=by simp
  generalize (w.alloc (.deferred (some []))).alloc (.loop (lrec fn a.tmps ps assign body w.heap.size .ready .normal))=w1 at hB hl hlobj hBobj hlow henter hcw hsz1
  have hext:Ext F2 w w1:=⟨by omega,fun r h=>hlow r (hr2.fsz r h)⟩
  have hargs:RArgs C.P ic.ts F2 w1 vs x:=(hargs0.mono f3 (Ext.refl _ _)).mono (fun _ h=>h) hext
  have hI:RelK { C with w0:=w1,F0:=F2,K0:=fun _=>False } (sh.st σ0) a w1 κ F2:=
    hr2.rebase hr2.tsz hr2.dfr hr2.nsz hr2.slots (fun l' A' L' n' st' e=>by have e:(sh.st σ0).slot TRS=.tr l' A' L' n' st':=e;rw [hno] at e;cases e)
      (fun r h=>hlow r (by
        rcases h with h | ⟨b,hb,rfl⟩
        · exact hr2.fsz r h
        · exact (hr2.own b hb).1)) (by omega) (fun _ h=>.inl h) (fun _ h=>h) (fun _ h=>h.elim) (fun _ h=>h.elim) (fun _ _ h=>h) (Nat.le_refl _) (Calm.refl _)
  have hproto:=roundInv_ok (C:=C) (CI:={ C with w0:=w1,F0:=F2,K0:=fun _=>False }) (sh:=sh) (rin:=rin) (rout:=rout) (L:=ic.seq x) (ps:=ps) (assign:=assign) (body:=body) (a:=a) (fn:=fn) (l:=w.heap.size+1) (B:=w.heap.size) (run:=run) (k:=k) (O:=O)
    rfl (by omega) (by rw [hr.tsz];exact hck) (by rw [hr.tsz];exact hwalk _)
  have hsl:∀ b,((sh.st σ0).blk b).body.owned (κ b)=true→¬((κ b).blk=w.heap.size+1∨(κ b).blk=w.heap.size):=fun b hb h=>by
    have:=(hr2.own b hb).1
    omega
  have hcall:=hIt.calls (w.heap.size+1) _ F2 (fun r=>(∃ b,((sh.st σ0).blk b).body.owned (κ b)=true∧(κ b).blk=r)∨r=w.heap.size+1∨r=w.heap.size) w1 vs x hargs hpre hproto (fun r h=>hI.fsz r h)
    (fun r h=>by
      rcases h with ⟨b,hb,rfl⟩ | rfl | rfl
      · exact ⟨(hI.own b hb).1,(hI.own b hb).2.1⟩
      · exact ⟨hl,fun h=>by have:=hr2.fsz _ h;omega⟩
      · exact ⟨hB,fun h=>by have:=hr2.fsz _ h;omega⟩)
    ⟨.normal,σ0,κ,hI,hlobj,hBobj,fun b hb=>⟨.inl ⟨b,hb,rfl⟩,hsl b hb⟩,.inr (.inl rfl),.inr (.inr rfl),fun h=>by have:=hr2.fsz _ h;omega,fun h=>by have:=hr2.fsz _ h;omega,rfl,fun _=>⟨rfl,hm⟩,fun h=>by cases h⟩
  refine ⟨w.heap.size+1,[markD w.heap.size],w1,{ target:=.fn (.func kf) #[],args:=vs.toArray++#[.func (.yield (w.heap.size+1)) #[] #[]] },w1,kf,(vs++[Value.func (.yield (w.heap.size+1)) #[] #[]]).toArray,w1,henter,?_,fun _ _=>trivial,?_,fun h=>(by cases h),callsIn_wide.2 (hcall.mono fun e w3 ⟨v,n',st,F',Y',he,hst,hinv,g1,g2,g3,g4,g5,g6,g7⟩=>?_)⟩
  · have e:a.eval (.const (.func (.yield (w.heap.size+1)) #[] #[]))=.func (.yield (w.heap.size+1)) #[] #[]:=rfl
    simp [resolve,hv1,Deferred.ofValue,e]
  · have:=hIt.enter (vs++[Value.func (.yield (w.heap.size+1)) #[] #[]]).toArray w1
    simpa [invoke] using this
  subst he
  obtain ⟨e,σ,κ',hr3,h1,h2,h3,h4,h5,h6,h7,_,h8,h9⟩:=hinv
  refine ⟨jumpOf e,_,run_endLoop h1 (by cases st<;>simp [lrec]),?_⟩
  have hl3:w.heap.size+1<w3.heap.size:=(Array.getElem?_eq_some_iff.1 h1).1
  generalize hob:Obj.loop _=ob
  have hret:M.Ret (k e (sh.st σ)) O:=by
    cases st with
    | true=>exact (h9 rfl).2
    | false=>
      obtain ⟨rfl,hm'⟩:=h8 rfl
      rw [hst rfl,List.drop_length] at hm'
      exact hm'.2 _ rfl
  have hK0:∀ r,C.K0 r→r<w.heap.size:=fun r h=>Nat.lt_of_lt_of_le (hr.ksz r h) hr.size
  have hkeep:∀ r,C.K0 r→(w3.putObj (w.heap.size+1) ob).heap[r]?=C.w0.heap[r]?:=fun r h=>by
    have hlt:=hK0 r h
    rw [World.putObj_heap_other (by omega),g4 r (by omega) fun hy=>?_,hlow r hlt]
    · exact hr.keep r h
    · rcases hy with ⟨b,hb,rfl⟩ | rfl | rfl
      · exact (hr2.own b hb).2.2 h
      · omega
      · omega
  have hcalm:Calm C.w0 (w3.putObj (w.heap.size+1) ob):=by
    have:=(hr.calm.trans hcw).trans g7
    exact ⟨this.os,this.tape,this.output⟩
  have hup:C.UpOk ⟨w3.putObj (w.heap.size+1) ob,fun r=>C.K0 r∨r=w.heap.size,[w.heap.size]⟩:=
    { mks := fun B hB => by
        have:B=w.heap.size:=by simpa using hB
        subst this
        exact ⟨.inr rfl,(World.putObj_heap_other (by omega)).trans h2⟩
      new:=fun B hB=>by
        have:B=w.heap.size:=by simpa using hB
        subst this
        exact ⟨fun h=>by have:=hK0 _ h;omega,hr.size⟩
      nd:=by simp
      k0:=fun _ h=>.inl h
      keep:=hkeep
      size:=by have:=hr.size;simp;omega
      calm:=hcalm }
  have hfin:Rel (C.up ⟨w3.putObj (w.heap.size+1) ob,fun r=>C.K0 r∨r=w.heap.size,[w.heap.size]⟩) (sh.st σ) { a with defers:=[markD w.heap.size]++a.defers } (w3.putObj (w.heap.size+1) ob):=by
    have hF'lo:∀ r,F' r→C.F0 r∨¬(C.K0 r∨r=w.heap.size):=fun r hr'=>by
      rcases g2 r hr' with h | h | h
      · rcases hr2.flo r h with h' | h'
        · exact .inl h'
        · exact .inr fun hk=>hk.elim h' fun e=>by have:=hr2.fsz r h;omega
      · rcases h with ⟨b,hb,rfl⟩ | rfl | rfl
        · exact .inr fun hk=>hk.elim (hr2.own b hb).2.2 fun e=>hsl b hb (.inr e)
        · exact (h6 hr').elim
        · exact (h7 hr').elim
      · exact .inr fun hk=>hk.elim (fun h'=>by have:=hK0 r h';omega) fun e=>by omega
    refine ⟨κ',F',hr3.rebase (r:=C.r) hr3.tsz (by show [markD w.heap.size]++a.defers=_;rw [hr.dfr];rfl) hr3.nsz hr3.slots (fun l' A' L' n' st' e=>by have e:(sh.st σ).slot TRS=.tr l' A' L' n' st':=e;rw [hno] at e;cases e)
      (fun r h=>World.putObj_heap_other fun e=>by
        subst e
        rcases h with h | ⟨b,hb,h⟩
        · exact h6 h
        · exact (h3 b hb).2 (.inl h)) (by simp) hF'lo (fun r h=>g1 r (hr2.fhi r h)) (fun r h=>?_) (fun _ _=>rfl) (fun b hb h=>?_) (Nat.le_refl _) (Calm.refl _)⟩
    · simp only [World.putObj_size]
      rcases h with h | h
      · have:=hK0 r h;omega
      · omega
    · rcases h with h | h
      · rcases (g5 _ (h3 b hb).1).1 with hy | hy
        · rcases hy with ⟨b',hb',e⟩ | e | e
          · exact (hr2.own b' hb').2.2 (e ▸ h)
          · exact (h3 b hb).2 (.inl e)
          · exact (h3 b hb).2 (.inr e)
        · have:=hK0 _ h;omega
      · exact (h3 b hb).2 (.inr h)
  have hq:=hk _ hup e _ _ _ hfin hret
  cases e with
  | normal=>exact hq
  | exit id=>exact wpIn_exit hq
  | ret=>exact wpIn_ret hq
end Go.Fer
namespace Go.Fer
open Go.RowKit
open M (Step)
section
variable {F:Fence} {n:Nat} {P:Program} {Q:Exit→Act→World→Prop} {a:Act} {w:World}
theorem wpIn_loop_safe {c:Code} {σT β:Type} {body:σT→M (Step σT β)} {O:β→Prop} (I:σT→Act→World→Prop)
  (round:∀ σ a w,I σ a w→(body σ).safe→(∀ r,(body σ).out (.done r)→O r)→c.wpIn F n P (Exit.then (fun a' w'=>∃ σ',(body σ).out (.next σ')∧I σ' a' w') Q) a w)
  {σ:σT} (hs:M.LoopSafe body σ) (ho:∀ r,M.LoopOut body σ r→O r) (hI:I σ a w):(Code.loop c).wpIn F n P Q a w:=by
 intro b k cs hro hb hr
 have key:∀ σ,M.LoopSafe body σ→(∀ r,M.LoopOut body σ r→O r)→∀ a w,I σ a w→
   ∃ e a' w',Q e a' w'∧ArrivesIn (Machine.fenced P F) P (lone (b.atR a (.code c::.inLoop c::k)) cs w) b k cs e a' w':=by
  intro σ hs
  induction hs with
  | mk σ h _ ih=>
   intro ho a w hI
   obtain ⟨e,a₁,w₁,hq,harr⟩:=round σ a w hI h (fun r hr=>ho r (.done _ _ hr)) b (.inLoop c::k) cs hro hb hr
   cases e with
   | normal=>
    obtain ⟨σ',hout,hI₁⟩:=hq
    obtain ⟨e₂,a₂,w₂,hq₂,harr₂⟩:=ih σ' hout (fun r hr=>ho r (.next _ _ _ hout hr)) a₁ w₁ hI₁
    exact ⟨e₂,a₂,w₂,hq₂,.of_steps (StepsIn.trans harr (.one (fenced_calm hb hr rfl) stepR_inLoop)) harr₂⟩
   | exit id=>exact ⟨_,a₁,w₁,hq,.pass (x:=.inLoop c) rfl (fun _ _=>.inl (by simp)) harr⟩
   | goto l=>exact ⟨_,a₁,w₁,hq,.pass (x:=.inLoop c) rfl (fun _ _=>.inl (by simp)) harr⟩
   | ret=>exact ⟨_,a₁,w₁,hq,.pass (x:=.inLoop c) rfl (fun _ _=>.inl (by simp)) harr⟩
   | panic ch=>exact ⟨_,a₁,w₁,hq,.pass (x:=.inLoop c) rfl (fun _ _=>.inl (by simp)) harr⟩
   | outgrown=>exact ⟨_,a₁,w₁,hq,.pass (x:=.inLoop c) rfl (fun _ _=>.inl (by simp)) harr⟩
 obtain ⟨e,a',w',hq,harr⟩:=key σ hs ho a w hI
 exact ⟨e,a',w',hq,.of_steps (.one (fenced_calm hb hr rfl) stepR_loop) harr⟩
theorem stepR_scope {b:Frame} {k:List Item} {cs:List Frame} {c:Code}:step P (lone (b.atR a (.code (.scope c)::k)) cs w)=.next (lone (b.atR a (.code c::.inScope c::k)) cs w):=
 step_lone_go (by simp [stepG,stepG.exec,Frame.atR])
theorem stepR_inScope {b:Frame} {k:List Item} {cs:List Frame} {c:Code}:step P (lone (b.atR a (.inScope c::k)) cs w)=.next (lone (b.atR a k) cs w):=
 step_lone_go (by simp [stepG,stepG.exec,Frame.atR])
theorem wpIn_scope {c:Code} (h:c.wpIn F n P (Exit.noGoto Q) a w):(Code.scope c).wpIn F n P Q a w:=by
 intro b k cs hro hb hr
 have h0:(lone (b.atR a (.code (.scope c)::k)) cs w).fenced P F:=fenced_calm hb hr rfl
 obtain ⟨e,a₁,w₁,hq,harr⟩:=h b (.inScope c::k) cs hro hb hr
 cases e with
 | normal=>exact ⟨.normal,a₁,w₁,hq,.head h0 stepR_scope (StepsIn.trans harr (.one (fenced_calm hb hr rfl) stepR_inScope))⟩
 | exit id=>
  have hx:exitTo id (.inScope c::k)=exitTo id k:=by simp [exitTo]
  exact ⟨.exit id,a₁,w₁,hq,fun k' hk=>.head h0 stepR_scope (harr.1 k' (by rw [hx];exact hk)),fun hr' hk=>let ⟨k₁,h1,h2⟩:=harr.2 hr' (by rw [hx];exact hk);⟨k₁,h1,.head h0 stepR_scope h2⟩⟩
 | goto l=>exact hq.elim
 | ret=>exact ⟨.ret,a₁,w₁,hq,.of_steps (.one h0 stepR_scope) harr⟩
 | panic ch=>exact ⟨.panic ch,a₁,w₁,hq,.of_steps (.one h0 stepR_scope) harr⟩
 | outgrown=>exact ⟨.outgrown,a₁,w₁,hq,.of_steps (.one h0 stepR_scope) harr⟩
end
section
variable {T:Nat→Ty} {Φ:Nat→Option FC} {Ψ:Nat→Option KC}
def StepOut {σ β:Type} (m:M (Step σ β)) (O:β→Prop) (st:Step σ β):Prop:=
 match st with
 | .next s=>m.out (.next s)
 | .done r=>O r
theorem codeI_ok:∀ (ann:Ann) (C:Ctx) (_:C.P.follows .mixedOrders=true) (_:TabOk C.P T) (_:CtrOk C.P Φ) (_:PsiOk C.P C.ft Ψ) (_:C.r=none∨ann.flat=true) {β:Type} (c:Code) (s:AState) (k:Ex→AState→M β) (O:β→Prop) (Q:Exit→Act→World→Prop) (a:Act) (w:World),
  codeOk C.nt c=true→Rel C s a w→M.Ret (codeI C.ft T Φ Ψ ann c s k) O→(∀ u,C.UpOk u→∀ e s' a' w',Rel (C.up u) s' a' w'→M.Ret (k e s') O→Q e.the a' w')→c.wpIn (rnd C.r) 0 C.P Q a w:=by
 intro ann
 induction ann with
 | leaf=>
  intro C hmix hT hΦ hΨ hfl β c s k O Q a w hc hr hm hk
  unfold codeI at hm
  split at hm
  ·rename_i id ops draw
   cases draw with
   | true=>exact draw_ok hmix hT (dPhi_ok hΦ hΨ) hΨ (fun o ho=>List.all_eq_true.1 hc o ho) (fun s' a' w' hr' hm'=>hk C.same C.upSame .normal s' a' w' hr' hm') hr hm
   | false=>
    refine wpIn_region ?_
    have:=regI_ok (Q:=Q) (ops:=ops) hT hΦ hΨ (fun o ho=>List.all_eq_true.1 hc o ho) (k:=k .normal) (O:=O) (fun s' a' w' hr' hm'=>hk C.same C.upSame .normal s' a' w' hr' hm') ops.toList 0 [] s a w (by simp) (fun p hp=>by cases hp) hr hm
    rw [List.range_eq_range']
    simpa using this
  ·exact wpIn_skip (hk C.same C.upSame .normal s a w hr hm)
  ·exact wpIn_label (hk C.same C.upSame .normal s a w hr hm)
  ·exact wpIn_exit (hk C.same C.upSame (.exit _) s a w hr hm)
  ·exact wpIn_ret (hk C.same C.upSame .ret s a w hr hm)
  ·exact (ret_fail hm).elim
 | seq x y ihx ihy=>
  intro C hmix hT hΦ hΨ hfl β c s k O Q a w hc hr hm hk
  have hfx:C.r=none∨x.flat=true:=hfl.imp id fun h=>by simp only [Ann.flat,Bool.and_eq_true] at h;exact h.1
  have hfy:C.r=none∨y.flat=true:=hfl.imp id fun h=>by simp only [Ann.flat,Bool.and_eq_true] at h;exact h.2
  unfold codeI at hm
  split at hm
  ·rename_i cx cy
   simp only [codeOk,Bool.and_eq_true] at hc
   refine wpIn_seq (ihx C hmix hT hΦ hΨ hfx cx s _ O _ a w hc.1 hr hm fun u hu e s' a' w' hr' hm'=>?_)
   cases e with
   | normal=>exact ihy (C.up u) hmix hT hΦ hΨ hfy cy s' k O Q a' w' hc.2 hr' hm' fun v hv=>by rw [Ctx.up_then];exact hk _ (hu.then hv)
   | exit id=>exact hk u hu (.exit id) s' a' w' hr' hm'
   | ret=>exact hk u hu .ret s' a' w' hr' hm'
  ·exact (ret_fail hm).elim
 | join sh x y ihx ihy=>
  intro C hmix hT hΦ hΨ hfl β c s k O Q a w hc hr hm hk
  have hfx:C.r=none∨x.flat=true:=hfl.imp id fun h=>by simp only [Ann.flat,Bool.and_eq_true] at h;exact h.1
  have hfy:C.r=none∨y.flat=true:=hfl.imp id fun h=>by simp only [Ann.flat,Bool.and_eq_true] at h;exact h.2
  unfold codeI at hm
  split at hm
  ·rename_i cx cy
   simp only [codeOk,Bool.and_eq_true] at hc
   rw [M.ret_bind] at hm
   refine wpIn_seq (ihx C hmix hT hΦ hΨ hfx cx s _ _ _ a w hc.1 hr hm fun u hu e s' a' w' hr' hm'=>?_)
   cases e with
   | normal=>
    obtain ⟨σ,hσ,h2⟩:=rdM_ret hm'
    have h3:=M.ret_pure.1 h2
    exact ihy (C.up u) hmix hT hΦ hΨ hfy cy _ k O Q a' w' hc.2 (Shape.rd_ok hσ hr') h3 fun v hv=>by rw [Ctx.up_then];exact hk _ (hu.then hv)
   | exit id=>
    simp only [doneK,M.ret_bind,M.ret_pure,Step.go] at hm'
    exact hk u hu (.exit id) s' a' w' hr' hm'
   | ret=>
    simp only [doneK,M.ret_bind,M.ret_pure,Step.go] at hm'
    exact hk u hu .ret s' a' w' hr' hm'
  ·exact (ret_fail hm).elim
 | cond x y ihx ihy=>
  intro C hmix hT hΦ hΨ hfl β c s k O Q a w hc hr hm hk
  have hfx:C.r=none∨x.flat=true:=hfl.imp id fun h=>by simp only [Ann.flat,Bool.and_eq_true] at h;exact h.1
  have hfy:C.r=none∨y.flat=true:=hfl.imp id fun h=>by simp only [Ann.flat,Bool.and_eq_true] at h;exact h.2
  unfold codeI at hm
  split at hm
  ·rename_i co cx cy
   simp only [codeOk,Bool.and_eq_true] at hc
   unfold condM at hm
   split at hm
   ·rename_i t hu
    obtain ⟨κ,F,hrk⟩:=hr
    have hv:=opAV_ok hrk co
    rw [hu] at hv
    refine wpIn_cond_split (RV_bool.1 hv) (fun ht=>?_) (fun ht=>?_)
    ·subst ht
     exact ihx C hmix hT hΦ hΨ hfx cx s k O Q a w hc.1 ⟨κ,F,hrk⟩ hm hk
    ·subst ht
     exact ihy C hmix hT hΦ hΨ hfy cy s k O Q a w hc.2 ⟨κ,F,hrk⟩ hm hk
   ·rename_i g t hu
    rw [M.ret_req] at hm
    obtain ⟨hob,hm⟩:=hm
    obtain ⟨κ,F,hrk⟩:=hr
    have hv:=opAV_ok hrk co
    rw [hu] at hv
    refine wpIn_cond_split (RV_bool.1 (hv.1 hob)) (fun ht=>?_) (fun ht=>?_)
    ·subst ht
     exact ihx C hmix hT hΦ hΨ hfx cx s k O Q a w hc.1 ⟨κ,F,hrk⟩ hm hk
    ·subst ht
     exact ihy C hmix hT hΦ hΨ hfy cy s k O Q a w hc.2 ⟨κ,F,hrk⟩ hm hk
   ·exact (ret_fail hm).elim
  ·exact (ret_fail hm).elim
 | block x ihx=>
  intro C hmix hT hΦ hΨ hfl β c s k O Q a w hc hr hm hk
  have hfx:C.r=none∨x.flat=true:=hfl
  unfold codeI at hm
  split at hm
  ·rename_i id cx
   refine wpIn_block (ihx C hmix hT hΦ hΨ hfx cx s _ O _ a w hc hr hm fun u hu e s' a' w' hr' hm'=>?_)
   cases e with
   | normal=>exact hk u hu .normal s' a' w' hr' hm'
   | exit id'=>
    simp only [blockK] at hm'
    simp only [Ex.the,Exit.inBlock]
    split at hm'
    ·rename_i e
     rw [if_pos e]
     exact hk u hu .normal s' a' w' hr' hm'
    ·rename_i e
     rw [if_neg e]
     exact hk u hu (.exit id') s' a' w' hr' hm'
   | ret=>exact hk u hu .ret s' a' w' hr' hm'
  ·exact (ret_fail hm).elim
 | loop sh x ihx=>
  intro C hmix hT hΦ hΨ hfl β c s k O Q a w hc hr hm hk
  have hfx:C.r=none∨x.flat=true:=hfl
  unfold codeI at hm
  split at hm
  ·rename_i cx
   obtain ⟨σ,hσ,h2⟩:=rdM_ret hm
   refine wpIn_loop_safe (I:=fun σ a w=>∃ u,C.UpOk u∧Rel (C.up u) (sh.st σ) a w) (O:=O) (fun σ a w ⟨v,hv,hI⟩ hsafe hdone=>?_) h2.1 h2.2 ⟨C.same,C.upSame,Shape.rd_ok hσ hr⟩
   refine ihx (C.up v) hmix hT hΦ hΨ hfx cx (sh.st σ) _ (StepOut (codeI C.ft T Φ Ψ x cx (sh.st σ) (doneK k fun s'=>sh.rdM s' fun σ'=>M.pure (Step.next σ'))) O) _ a w hc hI ⟨hsafe,fun st hst=>?_⟩ fun u hu e s' a' w' hr' hm'=>?_
   ·cases st with
    | next σ'=>exact hst
    | done r=>exact hdone r hst
   ·cases e with
    | normal=>
     obtain ⟨σ',hσ',h3⟩:=rdM_ret hm'
     have h4:=M.ret_pure.1 h3
     exact ⟨σ',h4,_,hv.then hu,by rw [←Ctx.up_then];exact Shape.rd_ok hσ' hr'⟩
    | exit id=>
     simp only [doneK,M.ret_bind,M.ret_pure,StepOut] at hm'
     exact hk _ (hv.then hu) (.exit id) s' a' w' (by rw [←Ctx.up_then];exact hr') hm'
    | ret=>
     simp only [doneK,M.ret_bind,M.ret_pure,StepOut] at hm'
     exact hk _ (hv.then hu) .ret s' a' w' (by rw [←Ctx.up_then];exact hr') hm'
  ·exact (ret_fail hm).elim
 | scope x ihx=>
  intro C hmix hT hΦ hΨ hfl β c s k O Q a w hc hr hm hk
  have hfx:C.r=none∨x.flat=true:=hfl
  unfold codeI at hm
  split at hm
  ·rename_i cx
   refine wpIn_scope (ihx C hmix hT hΦ hΨ hfx cx s _ O _ a w hc hr hm fun u hu e s' a' w' hr' hm'=>?_)
   have:=hk u hu e s' a' w' hr' hm'
   cases e<;>exact this
  ·exact (ret_fail hm).elim
 | range sh rin rout x y ihx ihy=>
  intro C hmix hT hΦ hΨ hfl β c s k O Q a w hc hr hm hk
  unfold codeI at hm
  split at hm
  ·rename_i g ps assign body
   simp only [codeOk,Bool.and_eq_true,List.all_eq_true,decide_eq_true_eq] at hc
   obtain ⟨hps,hca,hcb⟩:=hc
   split at hm
   ·rename_i kf n fs hg
    split at hm
    ·rename_i ic hic
     split at hm
     ·rename_i x0 fl hx
      split at hm
      ·rename_i hck
       simp only [Bool.and_eq_true] at hck
       obtain ⟨hck,hfx,hfy⟩:=hck
       obtain ⟨σ,hσ,h2⟩:=rdM_ret hm
       rw [M.ret_req,M.ret_bind] at h2
       simp only [exK_eq] at h2
       have hr0:C.r=none:=hfl.resolve_right fun h=>by cases h
       have hck':rangeOk sh rout ic.A ps.toList C.nt=true:=by
        simp only [rangeOk,Bool.and_eq_true,List.all_eq_true,decide_eq_true_eq] at hck ⊢
        exact ⟨hck.1,hps⟩
       refine range_ok hr0 hr hg (hΨ kf _ hic) hx hck' hσ h2.1 h2.2 (fun l=>?_) hk
       intro C1 hP hft hnt hrl s1 a1 w1 O1 hrel hm1
       have h:=ihx C1 (hP ▸ hmix) (hP ▸ hT) (hP ▸ hΦ) (by rw [hP,hft];exact hΨ) (.inr hfx) assign s1 (onlyNormal fun s2=>codeI C.ft T Φ Ψ y body s2 fun e s3=>rout.rdM s3 fun τ=>M.pure (e,τ)) O1
        (Exit.then (fun a2 w2=>∃ u s2,C1.UpOk u∧Rel (C1.up u) s2 a2 w2∧
         ∀ (C2:Ctx),C2.P=C.P→C2.ft=C.ft→C2.nt=C.nt→C2.r=some l→∀ (w2:World),Rel C2 s2 a2 w2→
          body.wpIn (rnd (some l)) 0 C.P (fun e a3 w3=>∃ (e':Ex) (v:UpD) (s3:AState) (τ:rout.Den),e=e'.the∧C2.UpOk v∧Rel (C2.up v) s3 a3 w3∧rout.rd s3=some τ∧O1 (e',τ)) a2 w2) (fun _ _ _=>False)) a1 w1 (hnt ▸ hca) hrel (hft ▸ hm1)
        fun u hu e s2 a2 w2 hr2 hm2=>?_
       ·rw [hP,hrl] at h
        exact h
       ·cases e with
        | normal=>
         refine ⟨u,s2,hu,hr2,fun C2 hP2 hft2 hnt2 hrl2 w2 hr3=>?_⟩
         have h:=ihy C2 (hP2 ▸ hmix) (hP2 ▸ hT) (hP2 ▸ hΦ) (by rw [hP2,hft2];exact hΨ) (.inr hfy) body s2 (fun e s3=>rout.rdM s3 fun τ=>M.pure (e,τ)) O1
          (fun e a3 w3=>∃ (e':Ex) (v:UpD) (s3:AState) (τ:rout.Den),e=e'.the∧C2.UpOk v∧Rel (C2.up v) s3 a3 w3∧rout.rd s3=some τ∧O1 (e',τ)) a2 w2 (hnt2 ▸ hcb) hr3 (hft2 ▸ hm2) fun v hv e s3 a3 w3 hr4 hm3=>by
           obtain ⟨τ,hτ,h5⟩:=rdM_ret hm3
           exact ⟨e,v,s3,τ,rfl,hv,hr4,hτ,M.ret_pure.1 h5⟩
         rw [hP2,hrl2] at h
         exact h
        | exit id=>exact (ret_fail hm2).elim
        | ret=>exact (ret_fail hm2).elim
      ·exact (ret_fail hm).elim
     ·exact (ret_fail hm).elim
    ·exact (ret_fail hm).elim
   ·exact (ret_fail hm).elim
  ·exact (ret_fail hm).elim
end
end Go.Fer
namespace Go.Fer
open Go.RowKit
def resAVs (T:Nat→Ty) (s:AState):List ResultVar→Option (List AV)
 | []=>some []
 | r::l=>match resAVs T s l with
  | none=>none
  | some vs=>match r with
   | .tmp t=>some (s.slot t::vs)
   | .cell a ty=>match (loadV (T ty) (s.slot a)).run s.blk with
    | some v=>some (v::vs)
    | none=>none
def cntOk (t:Ty) (n:Nat):Bool:=
 match t with
 | .prod _ _=>n != 1
 | .unit=>n == 0
 | _=>n == 1
def retI (T:Nat→Ty) (rs:List ResultVar) (tr:Ty) (e:Ex) (s:AState):M tr.Den:=
 match e with
 | .exit _=>M.fail
 | _=>match resAVs T s rs with
  | some avs=>match (asArgs tr avs).run s.blk with
   | some (y,_)=>M.pure y
   | none=>M.fail
  | none=>M.fail
def parL (t:Ty) (x:t.Den) (n:Nat):List (Nat×AV):=(List.range n).map fun i=>(i,resAV t x i)
def parN (t:Ty):Nat:=if t=.unit then 0 else resN t
def parSt (t:Ty) (x:t.Den):AState:=mkSt (parL t x (parN t)) []
def funI (U:FnTab) (T:Nat→Ty) (Φ:Nat→Option FC) (Ψ:Nat→Option KC) (fn:Func) (c:Code) (ann:Ann) (ts tr:Ty) (x:ts.Den):M tr.Den:=
 codeI U T Φ Ψ ann c (parSt ts x) (retI T fn.results.toList tr)
def ptrOf (av:AV):AV:=match av with | .val (.ptr e) p=>.pp e (p.getD e.dflt) | v=>v
def ptrPre (av:AV):Prop:=match av with | .val (.ptr _) p=>p.isSome=true | _=>True
def capsSt (n:Nat) (s:AState):AState:=⟨fun i=>if i<n∨TMAX<i then s.slot i else ptrOf (s.slot i),s.blk⟩
def capsPre (n:Nat) (s:AState):Prop:=∀ i,¬(i<n∨TMAX<i)→ptrPre (s.slot i)
def funC (U:FnTab) (T:Nat→Ty) (Φ:Nat→Option FC) (Ψ:Nat→Option KC) (fn:Func) (c:Code) (ann:Ann) (n:Nat) (ts tr:Ty) (x:ts.Den):M tr.Den:=
 M.req (capsPre n (parSt ts x)) (codeI U T Φ Ψ ann c (capsSt n (parSt ts x)) (retI T fn.results.toList tr))
def fnOk (fn:Func) (c:Code) (ts tr:Ty):Bool:=
 codeOk fn.ntmps c && cntOk tr fn.results.size && decide (parN ts ≤ fn.ntmps) && !(fn.name == "runtime.NumGoroutine") && decide (fn.ntmps ≤ TMAX)
def expG:List (Option Nat)→List AV→Option (List AV)
 | [],[]=>some []
 | none::g,v::vs=>match expG g vs with
  | some l=>some (v::l)
  | none=>none
 | some n::g,v::vs=>match v,expG g vs with
  | .agg m f,some l=>if m=n then some ((List.range n).map f++l) else none
  | _,_=>none
 | _,_=>none
def retIO (T:Nat→Ty) (rs:List ResultVar) (grp:List (Option Nat)) (out:Shape) (e:Ex) (s:AState):M out.Den:=
 match e with
 | .exit _=>M.fail
 | _=>match resAVs T s rs with
  | some avs=>match expG grp avs with
   | some l=>match decide (l.length≤TMAX) with
    | true=>out.rdM (argSt s l) fun τ=>M.pure τ
    | false=>M.fail
   | none=>M.fail
  | none=>M.fail
def funIO (U:FnTab) (T:Nat→Ty) (Φ:Nat→Option FC) (Ψ:Nat→Option KC) (fn:Func) (c:Code) (ann:Ann) (sin out:Shape) (grp:List (Option Nat)) (σ:sin.Den):M out.Den:=
 codeI U T Φ Ψ ann c (sin.st σ) (retIO T fn.results.toList grp out)
def fnOkIO (fn:Func) (c:Code) (nargs:Nat) (grp:List (Option Nat)):Bool:=
 codeOk fn.ntmps c && decide (fn.results.size = grp.length) && decide (nargs ≤ fn.ntmps) && !(fn.name == "runtime.NumGoroutine") && decide (fn.ntmps ≤ TMAX)
section
variable {C:Ctx} {T:Nat→Ty} {Φ:Nat→Option FC} {Ψ:Nat→Option KC}
def rdRes (tmps:Array Value) (r:ResultVar):Sem Value:=
 match r with
 | .tmp t=>pure (tmps.getD t undef)
 | .cell b t=>do loadVar t (←asAddr (tmps.getD b undef))
theorem results_eq (fn:Func) (tmps:Array Value):results fn tmps=(fn.results.mapM (rdRes tmps) >>= fun vs=>pure (if h:vs.size=1 then vs[0] else .tuple vs)):=by
 unfold results
 congr 2
theorem resAVs_ok (hT:TabOk C.P T) {s:AState} {a:Act} {w:World} {κ:Nat→KB} {F:Nat→Prop} (hr:RelK C s a w κ F):∀ (rs:List ResultVar) {avs:List AV},resAVs T s rs=some avs→
  ∃ vs:List Value,(rs.mapM (rdRes a.tmps)).run C.P w=.ok vs w∧vs.length=rs.length∧avs.length=rs.length∧
   ∀ i (h:i<avs.length) (h':i<vs.length),RA C.P s.blk κ F w avs[i] vs[i]:=by
 intro rs
 induction rs with
 | nil=>intro avs h;cases h;exact ⟨[],rfl,rfl,rfl,fun i hi=>by cases hi⟩
 | cons r rs ih=>
  intro avs h
  simp only [resAVs] at h
  split at h
  ·cases h
  ·rename_i l hl
   obtain ⟨vs,h1,h2,h3,h4⟩:=ih hl
   have one:∃ av v,avs=av::l∧(rdRes a.tmps r).run C.P w=.ok v w∧RA C.P s.blk κ F w av v:=by
    split at h
    ·rename_i t
     cases h
     exact ⟨_,_,rfl,rfl,hr.slots t⟩
    ·rename_i b ty
     split at h
     ·rename_i v hv
      cases h
      obtain ⟨u,k1,k2⟩:=loadV_ok hT hr hv (hr.slots b)
      refine ⟨v,u,rfl,?_,k2⟩
      unfold Instr.loadAt at k1
      unfold rdRes
      simp only
      generalize a.tmps.getD b Go.undef=z at k1 ⊢
      cases z with
      | pointer p=>
       cases p with
       | none=>simp [Instr.sureAddr] at k1
       | some p=>simpa [Instr.sureAddr,asAddr] using k1
      | _=>simp [Instr.sureAddr] at k1
     ·cases h
   obtain ⟨av,v,rfl,k1,k2⟩:=one
   refine ⟨v::vs,?_,by simp [h2],by simp [h3],fun i hi hi'=>?_⟩
   ·simp only [List.mapM_cons,Sem.run_bind,k1,Result.andThen_ok,h1,Sem.run_pure]
   ·cases i with
    | zero=>exact k2
    | succ i=>simpa using h4 i (by simpa using hi) (by simpa using hi')
theorem retI_ok (hT:TabOk C.P T) {fn:Func} {tr:Ty} (hcnt:cntOk tr fn.results.size=true) {e:Ex} {s:AState} {a:Act} {w:World} {O:tr.Den→Prop} (hr:Rel C s a w) (hm:M.Ret (retI T fn.results.toList tr e s) O) :
  (∀ id,e≠.exit id)∧∃ κ F v y,RelK C s a w κ F∧(results fn a.tmps).run C.P w=.ok v w∧O y∧∃ F',(∀ r,F' r→C.F0 r∨¬C.K0 r)∧(∀ r,F' r→r<w.heap.size)∧RRes C.P tr F' w v y:=by
 obtain ⟨κ,F,hr⟩:=hr
 unfold retI at hm
 split at hm
 ·exact (ret_fail hm).elim
 ·rename_i hne
  refine ⟨fun id he=>hne id he,?_⟩
  split at hm
  ·rename_i avs havs
   split at hm
   ·rename_i y l hy
    obtain ⟨vs,h1,h2,h3,h4⟩:=resAVs_ok hT hr _ havs
    obtain ⟨F',f1,hr',f2⟩:=RelK.frzL (asArgs_closed _ hy) hr
    have hargs:=asArgs_ok (F':=F') hr.blks f1 tr hy f2 (by omega) h4
    have hrun:(results fn a.tmps).run C.P w=.ok (if h:vs.toArray.size=1 then vs.toArray[0] else .tuple vs.toArray) w:=by
     rw [results_eq,Sem.run_bind]
     have:(fn.results.mapM (rdRes a.tmps)).run C.P w=.ok vs.toArray w:=by
      rw [Array.mapM_eq_mapM_toList,map_eq_pure_bind,Sem.run_bind,h1]
      rfl
     rw [this]
     rfl
    refine ⟨κ,F,_,y,hr,hrun,M.ret_pure.1 hm,F',hr'.flo,hr'.fsz,vs,?_,hargs⟩
    have hsz:vs.length=fn.results.size:=by simp [h2]
    rw [←hsz] at hcnt
    clear hrun hargs h1 h4 h2 hsz hy
    have one:vs.length=1→vs=[if h:vs.toArray.size=1 then vs.toArray[0] else .tuple vs.toArray]:=by
     intro h
     match vs,h with
     | [v],_=>rfl
    cases tr<;>simp only [cntOk,beq_iff_eq,bne_iff_ne,ne_eq] at hcnt<;>simp only [ResVal]
    case prod=>rw [dif_neg (by simpa using hcnt)]
    case unit=>
     have:vs=[]:=List.length_eq_zero_iff.1 hcnt
     subst this
     exact ⟨rfl,rfl⟩
    all_goals exact one hcnt
   ·exact (ret_fail hm).elim
  ·exact (ret_fail hm).elim
theorem look_of {l:List (Nat×AV)} {i:Nat}:look l i=.undef∨(i,look l i)∈l:=by
 induction l with
 | nil=>exact .inl rfl
 | cons p l ih=>
  simp only [look]
  split
  ·rename_i e
   subst e
   exact .inr (List.mem_cons_self)
  ·exact ih.imp id (List.mem_cons_of_mem _)
theorem callFunc_enter {P : Program} {k : FuncId} {fn : Func} {c : Code} (hf : P.funcs[k]? = some fn) (hb : fn.body = some c) (hn : (fn.name == "runtime.NumGoroutine") = false) (args : Array Value) (w : World) :
  (callFunc k args).run P w=.ok (.enter k args) w:=by
 have hn : ¬ fn.name = "runtime.NumGoroutine" := by simpa using hn
 simp [callFunc,hf,hb,hn]
def unmark (w:World):List Nat→World
 | []=>w
 | B::ms=>unmark (w.putObj B (.deferred none)) ms
theorem unmark_size:∀ (ms:List Nat) (w:World),(unmark w ms).heap.size=w.heap.size
 | [],_=>rfl
 | _::ms,_=>(unmark_size ms _).trans World.putObj_size
theorem unmark_other:∀ (ms:List Nat) (w:World) {r:Nat},r ∉ ms→(unmark w ms).heap[r]?=w.heap[r]?
 | [],_,_,_=>rfl
 | B::ms,w,r,h=>by
  simp only [List.mem_cons,not_or] at h
  exact (unmark_other ms _ h.2).trans (World.putObj_heap_other h.1)
theorem unmark_calm:∀ (ms:List Nat) (w:World),Calm w (unmark w ms)
 | [],w=>Calm.refl w
 | B::ms,w=>by
  have h:Calm w (w.putObj B (.deferred none)):=⟨rfl,rfl,rfl⟩
  exact h.trans (unmark_calm ms _)
theorem unmark_leaves {P:Program} {fn:Func} {tmps:Array Value} {R:Ending→World→Prop}:∀ (ms:List Nat) (w:World),ms.Nodup→(∀ B∈ms,w.heap[B]?=some (.deferred (some [])))→
  (∃ v,(results fn tmps).run P (unmark w ms)=.ok v (unmark w ms)∧R (.returned v) (unmark w ms))→LeavesInM Fence.wide 0 P fn tmps R (ms.map markD) .returning w
 | [],w,_,_,h=>h
 | B::ms,w,hn,hB,h=>by
  simp only [List.nodup_cons] at hn
  refine ⟨by simp,.inl ⟨B,_,rfl,run_takeDeferred (hB B (by simp)),?_⟩⟩
  exact unmark_leaves ms _ hn.2 (fun B' h'=>(World.putObj_heap_other fun e=>hn.1 (by subst e;exact h')).trans (hB B' (List.mem_cons_of_mem _ h'))) h
theorem Rel.wind {u:UpD} {s:AState} {a:Act} {w:World} (hu:C.UpOk u) (hF0:∀ r,C.F0 r→r<C.w0.heap.size) (hK0:∀ r,C.K0 r→r<C.w0.heap.size) (h:Rel (C.up u) s a w) :
  Rel { C with dfr:=u.ms.map markD++C.dfr } s a (unmark w u.ms)∧a.defers=u.ms.map markD++C.dfr∧∀ B∈u.ms,w.heap[B]?=some (.deferred (some [])):=by
 obtain ⟨κ,F,h⟩:=h
 have hnF:∀ B∈u.ms,¬F B:=fun B hB hf=>by
  obtain ⟨h1,_⟩:=hu.mks B hB
  rcases h.flo B hf with h2 | h2
  ·have:=hF0 B h2
   have:=(hu.new B hB).2
   omega
  ·exact h2 h1
 have hsz:=unmark_size u.ms w
 have hc:=unmark_calm u.ms w
 refine ⟨⟨κ,F,h.rebase2 (w0:=C.w0) (w':=unmark w u.ms) (K0:=C.K0) (r:=C.r) (fun r hr=>hu.k0 r hr) (fun r hr=>unmark_other _ _ fun hm=>?_) (Nat.le_of_eq hsz.symm) hc hK0 (fun r hr=>?_) ?_ ?_⟩,h.dfr,fun B hB=>?_⟩
 ·rcases hr with hr | hr
  ·exact hnF r hm hr
  ·exact hr (hu.mks r hm).1
 ·exact (unmark_other _ _ fun hm=>(hu.new r hm).1 hr).trans ((h.keep r (hu.k0 r hr)).trans (hu.keep r hr))
 ·rw [hsz];exact Nat.le_trans hu.size h.size
 ·exact (hu.calm.trans h.calm).trans hc
 ·exact (h.keep B (hu.mks B hB).1).trans (hu.mks B hB).2
theorem fn_okS {P:Program} {U:FnTab} (hmix:P.follows .mixedOrders=true) {k:FuncId} {fn:Func} {c:Code} {ann:Ann} {ts tr:Ty} {sh:ts.Den→M tr.Den} (hT:TabOk P T) (hU:FnTabOk P U) (hΦ:CtrOk P Φ) (hΨ:PsiOk P U Ψ) (hf:P.funcs[k]?=some fn) (hb:fn.body=some c)
    (hok:fnOk fn c ts tr=true) {s0:ts.Den→AState} {pre:ts.Den→Prop} (hs0:∀ x C a w,Rel C (parSt ts x) a w→pre x→Rel C (s0 x) a w)
    (hsh:∀ x,M.le (M.req (pre x) (codeI U T Φ Ψ ann c (s0 x) (retI T fn.results.toList tr))) (sh x)):FnSpec P k ts tr sh:=by
  simp only [fnOk,Bool.and_eq_true,Bool.not_eq_true',decide_eq_true_eq] at hok
  obtain ⟨⟨⟨⟨hcode,hcnt⟩,hpar⟩,hname⟩,htm⟩:=hok
  refine ⟨callFunc_enter hf hb hname,fun F w args x hF hargs hsafe=>?_⟩
  obtain ⟨⟨hpre,h1⟩,h2⟩:=hsh x hsafe
  have hlen:args.length=parN ts∧∀ i,i<parN ts→∀ (H:Nat→ABlk) (κ:Nat→KB),RA P H κ F w (resAV ts x i) (args.getD i Go.undef):=by
    unfold parN
    split
    · rename_i e
      subst e
      have:args=[]:=hargs.1
      subst this
      exact ⟨rfl,fun i hi=>by cases hi⟩
    · rename_i e
      exact ⟨(args_ok (H:=fun _=>⟨0,.dead⟩) (κ:=fun _=>⟨0,0,0,false⟩) ts hargs e).1,fun i hi H κ=>(args_ok ts hargs e).2 i hi⟩
  let C:Ctx:={ P:=P,w0:=w,F0:=F,K0:=fun r=>r<w.heap.size,nt:=fn.ntmps,r:=none,dfr:=[],an:=fun _=>none,pr:=⟨0,.unit,[],fun _ _ _ _ _=>False⟩,ft:=U }
  let a0:Act:={ tmps:=args.toArray++Array.replicate (fn.ntmps - args.toArray.size) undef,defers:=[] }
  let κ0:Nat→KB:=fun _=>⟨0,0,0,false⟩
  have hslot:∀ i,(parSt ts x).slot i=.undef∨(i<parN ts∧(parSt ts x).slot i=resAV ts x i):=fun i=>by
    rcases look_of (l:=parL ts x (parN ts)) (i:=i) with e | e
    · exact .inl e
    · refine .inr ?_
      generalize hz:look (parL ts x (parN ts)) i=z at e
      simp only [parL,List.mem_map,List.mem_range,Prod.mk.injEq] at e
      obtain ⟨j,hj,rfl,rfl⟩:=e
      exact ⟨hj,hz⟩
  have hr:Rel C (parSt ts x) a0 w:=by
    refine ⟨κ0, F, { tsz := ?_, dfr := rfl, slots := fun i => ?_, blks := fun b => trivial, own := fun b hb => (by cases hb), inj := fun b b' hb _ _ => (by cases hb), fsz := hF, flo := fun r hr => .inl hr, fhi := fun r hr => hr, ksz := fun r hr => hr, keep := fun r _ => rfl, size := Nat.le_refl _, calm := Calm.refl w,
                     nsz:=htm,aran:=fun b r h=>(by cases h),anch:=fun b r h=>(by cases h),ara:=fun b k h=>(by cases h),anA:=fun b k h=>(by cases h),pro:=fun l A L n st e=>?_,ftok:=hU }⟩
    · have:=hlen.1
      simp [a0,C]
      omega
    · rcases hslot i with e | ⟨hi,e⟩
      · rw [e];simp only [RA]
      · rw [e]
        have:a0.tmps.getD i Go.undef=args.getD i Go.undef:=by
          have hi':i<args.length:=by rw [hlen.1];exact hi
          simp [a0,Array.getD_eq_getD_getElem?,List.getD_eq_getElem?_getD,Array.getElem?_append,hi']
        rw [this]
        exact hlen.2 i hi _ _
    · rcases hslot TRS with h | ⟨h,_⟩
      · rw [h] at e;cases e
      · unfold TRS TMAX at *;omega
  refine callsIn_wide.1 (callsIn_of_wp_marks (F:=Fence.wide) (n:=0) hf hb trivial ?_)
  have hw:=codeI_ok ann C hmix hT hΦ hΨ (.inl rfl) (k:=retI T fn.results.toList tr) (O:=(codeI U T Φ Ψ ann c (s0 x) (retI T fn.results.toList tr)).out) (Q:=bodyPostM Fence.wide 0 P fn fun e w'=>∃ v y,e=.returned v∧(sh x).out y∧RRes P tr (Grow F w w') w' v y∧Below w.heap.size w w') c (s0 x) a0 w hcode (hs0 x C a0 w hr hpre) ⟨h1,fun _ h=>h⟩
  refine hw fun u hu e s' a' w' hr' hm=>?_
  obtain ⟨hr2,hd,hB⟩:=Rel.wind hu hF (fun _ h=>h) hr'
  obtain ⟨hne,κ,F1,v,y,hrk,hrun,hy,F',f1,f2,hres⟩:=retI_ok (C:={ C with dfr:=u.ms.map markD++C.dfr }) hT hcnt hr2 hm
  have hpost:LeavesInM Fence.wide 0 P fn a'.tmps (fun e w'=>∃ v y,e=.returned v∧(sh x).out y∧RRes P tr (Grow F w w') w' v y∧Below w.heap.size w w') a'.defers .returning w':=by
    rw [hd]
    simp only [C,List.append_nil]
    refine unmark_leaves u.ms w' hu.nd hB ⟨v,hrun,v,y,rfl,h2 y hy,?_,hrk.calm.os,hrk.calm.tape,hrk.calm.output,hrk.size,hrk.keep⟩
    obtain ⟨vs,k1,k2,k3⟩:=hres
    refine ⟨vs,k1,k2,RC_mono tr (fun r hr=>?_) (Ext.refl _ _) k3⟩
    rcases f1 r hr with h | h
    · exact .inl h
    · exact .inr ⟨Nat.le_of_not_lt h,f2 r hr⟩
  cases e with
  | normal=>exact hpost
  | exit id=>exact absurd rfl (hne id)
  | ret=>exact hpost
theorem fn_ok {P:Program} {U:FnTab} (hmix:P.follows .mixedOrders=true) {k:FuncId} {fn:Func} {c:Code} {ann:Ann} {ts tr:Ty} {sh:ts.Den→M tr.Den} (hT:TabOk P T) (hU:FnTabOk P U) (hΦ:CtrOk P Φ) (hΨ:PsiOk P U Ψ) (hf:P.funcs[k]?=some fn) (hb:fn.body=some c)
  (hok:fnOk fn c ts tr=true) (hsh:∀ x,M.le (funI U T Φ Ψ fn c ann ts tr x) (sh x)):FnSpec P k ts tr sh:=
 fn_okS hmix hT hU hΦ hΨ hf hb hok (ann:=ann) (s0:=parSt ts) (pre:=fun _=>True) (fun _ _ _ _ h _=>h) fun x hs=>⟨⟨trivial,(hsh x hs).1⟩,(hsh x hs).2⟩
theorem caps_ok {C:Ctx} {s:AState} {a:Act} {w:World} {n:Nat} (h:Rel C s a w) (hc:capsPre n s):Rel C (capsSt n s) a w:=by
 obtain ⟨κ,F,hr⟩:=h
 refine ⟨κ,F,{ hr with slots:=fun i=>?_,tsz:=hr.tsz,dfr:=hr.dfr,blks:=hr.blks,pro:=fun l A L m st e=>?_ }⟩
 ·show RA C.P s.blk κ F w (if i<n∨TMAX<i then s.slot i else ptrOf (s.slot i)) _
  split
  ·exact hr.slots i
  ·rename_i hi
   have hv:=hr.slots i
   have hp:=hc i hi
   unfold ptrOf
   unfold ptrPre at hp
   split
   ·rename_i e p he
    rw [he] at hv hp
    have hp:p.isSome=true:=hp
    obtain ⟨_,hv⟩:=(RV_leaf rfl).1 hv
    simp only [RC] at hv
    rcases hv with ⟨_,rfl⟩ | ⟨q,y,ds,hq,rfl,k1,k2⟩
    ·cases hp
    ·exact ⟨q,ds,(List.cons.inj hq).1,k1,k2⟩
   ·exact hv
 ·have e:(if TRS<n∨TMAX<TRS then s.slot TRS else ptrOf (s.slot TRS))=.tr l A L m st:=e
  rw [if_pos (.inr (by decide))] at e
  exact hr.pro l A L m st e
theorem fnC_ok {P:Program} {U:FnTab} (hmix:P.follows .mixedOrders=true) {k:FuncId} {fn:Func} {c:Code} {ann:Ann} {n:Nat} {ts tr:Ty} {sh:ts.Den→M tr.Den} (hT:TabOk P T) (hU:FnTabOk P U) (hΦ:CtrOk P Φ) (hΨ:PsiOk P U Ψ) (hf:P.funcs[k]?=some fn) (hb:fn.body=some c)
  (hok:fnOk fn c ts tr=true) (hsh:∀ x,M.le (funC U T Φ Ψ fn c ann n ts tr x) (sh x)):FnSpec P k ts tr sh:=
 fn_okS hmix hT hU hΦ hΨ hf hb hok (ann:=ann) (s0:=fun x=>capsSt n (parSt ts x)) (pre:=fun x=>capsPre n (parSt ts x)) (fun _ _ _ _ h hp=>caps_ok h hp) hsh
theorem expG_ok {H:Nat→ABlk} {κ:Nat→KB} {F:Nat→Prop} {w:World} {P:Program}:∀ (g:List (Option Nat)) {avs l:List AV} {us:List Value},expG g avs=some l→avs.length=us.length→(∀ i (h:i<avs.length) (h':i<us.length),RA P H κ F w avs[i] us[i])→
  ∃ vs:List Value,GV g us vs∧l.length=vs.length∧∀ i,i<vs.length→RA P H κ F w (l.getD i .undef) (vs.getD i undef)
 | [],[],l,us,h,hl,_=>by
  cases h
  have:us=[]:=List.eq_nil_of_length_eq_zero hl.symm
  subst this
  exact ⟨[],rfl,rfl,fun i hi=>by cases hi⟩
 | [],_::_,_,_,h,_,_=>by cases h
 | none::_,[],_,_,h,_,_=>by cases h
 | some _::_,[],_,_,h,_,_=>by cases h
 | none::g,av::avs,l,[],_,hl,_=>by cases hl
 | some n::g,av::avs,l,[],_,hl,_=>by cases hl
 | none::g,av::avs,l,u::us,h,hl,hv=>by
  simp only [expG] at h
  split at h
  ·rename_i l' hl'
   cases h
   obtain ⟨vs,h1,h2,h3⟩:=expG_ok g hl' (by simpa using hl) fun i h h'=>hv (i+1) (Nat.succ_lt_succ h) (Nat.succ_lt_succ h')
   refine ⟨u::vs,⟨vs,rfl,h1⟩,by simp [h2],fun i hi=>?_⟩
   cases i with
   | zero=>exact hv 0 (Nat.zero_lt_succ _) (Nat.zero_lt_succ _)
   | succ i=>simpa using h3 i (by simpa using hi)
  ·cases h
 | some n::g,av::avs,l,u::us,h,hl,hv=>by
  simp only [expG] at h
  split at h
  ·rename_i m f l' hl'
   split at h
   ·rename_i hmn
    cases h
    subst hmn
    obtain ⟨vs,h1,h2,h3⟩:=expG_ok g hl' (by simpa using hl) fun i h h'=>hv (i+1) (Nat.succ_lt_succ h) (Nat.succ_lt_succ h')
    obtain ⟨cs,k1,k2,k3⟩:RA P H κ F w (.agg m f) u:=hv 0 (Nat.zero_lt_succ _) (Nat.zero_lt_succ _)
    refine ⟨cs++vs,⟨cs.toArray,vs,k1,by simpa using k2,fun c hc=>?_,by simp,h1⟩,by simp [h2,k2],fun i hi=>?_⟩
    ·obtain ⟨j,hj,rfl⟩:=List.mem_iff_getElem.1 (by simpa using hc:c∈cs)
     have:=(k3 j (by omega)).2
     rwa [List.getD_eq_getElem?_getD,List.getElem?_eq_getElem hj] at this
    ·by_cases hlt:i<m
     ·have:=(k3 i hlt).1
      simp only [List.getD_eq_getElem?_getD] at this ⊢
      rw [List.getElem?_append_left (by simpa using hlt),List.getElem?_append_left (by omega)]
      simpa [hlt] using this
     ·have hlt:m≤i:=Nat.le_of_not_lt hlt
      have:=h3 (i - m) (by simp at hi;omega)
      simp only [List.getD_eq_getElem?_getD] at this ⊢
      rw [List.getElem?_append_right (by simpa using hlt),List.getElem?_append_right (by omega)]
      simpa [k2] using this
   ·cases h
  ·cases h
theorem fnIO_ok {P:Program} {U:FnTab} (hmix:P.follows .mixedOrders=true) {k:FuncId} {fn:Func} {c:Code} {ann:Ann} {ic:IOC} (hT:TabOk P T) (hΦ:CtrOk P Φ) (hΨ:PsiOk P U Ψ) (hf:P.funcs[k]?=some fn) (hb:fn.body=some c)
  (hok:fnOkIO fn c ic.nargs ic.grp=true) (hsh:∀ σ,M.le (funIO U T Φ Ψ fn c ann ic.sin ic.out ic.grp σ) (ic.sh σ)):IoSpec P U k ic:=by
 simp only [fnOkIO,Bool.and_eq_true,Bool.not_eq_true',decide_eq_true_eq] at hok
 obtain ⟨⟨⟨⟨hcode,hcnt⟩,hpar⟩,hname⟩,htm⟩:=hok
 refine ⟨callFunc_enter hf hb hname,fun C a w κ F σ hP hw0 hr0 hd0 hn0 hU hr hsafe=>?_⟩
 subst hP
 subst hw0
 subst hU
 obtain ⟨h1,h2⟩:=hsh σ hsafe
 have hasz:a.tmps.size=ic.nargs:=hr.tsz.trans hn0
 have hget:∀ i,(a.tmps++Array.replicate (fn.ntmps - a.tmps.size) undef).getD i undef=a.tmps.getD i undef:=fun i=>by
  simp only [Array.getD_eq_getD_getElem?,Array.getElem?_append]
  split
  ·rfl
  ·rename_i h
   rw [Array.getElem?_eq_none (Nat.le_of_not_lt h),Array.getElem?_replicate]
   split<;>rfl
 have hr':RelK { C with nt:=fn.ntmps,dfr:=[],r:=none } (ic.sin.st σ) { tmps:=a.tmps++Array.replicate (fn.ntmps - a.tmps.size) undef,defers:=[] } C.w0 κ F:=
  { hr with tsz:=(by simp;omega),dfr:=rfl,nsz:=htm,slots:=fun i=>(by rw [hget];exact hr.slots i),blks:=hr.blks }
 refine callsIn_wide.1 (callsIn_of_wp_marks (F:=Fence.wide) (n:=0) hf hb trivial ?_)
 have hw:=codeI_ok ann { C with nt:=fn.ntmps,dfr:=[],r:=none } hmix hT hΦ hΨ (.inl rfl) (k:=retIO T fn.results.toList ic.grp ic.out) (O:=(funIO C.ft T Φ Ψ fn c ann ic.sin ic.out ic.grp σ).out)
  (Q:=bodyPostM Fence.wide 0 C.P fn fun e w'=>∃ v τ vs κ' F',e=.returned v∧(ic.sh σ).out τ∧GrpVal ic.grp v vs∧RelK { C with nt:=vs.length } (ic.out.st τ) { tmps:=vs.toArray,defers:=[] } w' κ' F') c (ic.sin.st σ) _ C.w0 hcode ⟨κ,F,hr'⟩ ⟨h1,fun _ h=>h⟩
 refine hw fun u hu e s' a' w' hr' hm=>?_
 obtain ⟨⟨κ2,F2,hr2⟩,hd,hB⟩:=Rel.wind hu (fun r h=>hr.fsz r (hr.fhi r h)) hr.ksz hr'
 have key:(∀ id,e≠.exit id)∧LeavesInM Fence.wide 0 C.P fn a'.tmps (fun e w'=>∃ v τ vs κ' F',e=.returned v∧(ic.sh σ).out τ∧GrpVal ic.grp v vs∧RelK { C with nt:=vs.length } (ic.out.st τ) { tmps:=vs.toArray,defers:=[] } w' κ' F') a'.defers .returning w':=by
  unfold retIO at hm
  split at hm
  ·exact (ret_fail hm).elim
  ·rename_i hne
   refine ⟨fun id he=>hne id he,?_⟩
   split at hm
   ·rename_i avs havs
    split at hm
    ·rename_i l hl
     split at hm
     ·rename_i hlt
      have hlt:l.length≤TMAX:=of_decide_eq_true hlt
      obtain ⟨us,k1,k2,k3,k4⟩:=resAVs_ok (C:={ C with nt:=fn.ntmps,dfr:=u.ms.map markD++[],r:=none }) hT hr2 _ havs
      obtain ⟨vs,g1,g2,g3⟩:=expG_ok ic.grp hl (by omega) k4
      obtain ⟨τ,hτ,h5⟩:=rdM_ret hm
      have ha:=hr2.args (avs:=l) (us:=vs) (by omega) g2 g3
      obtain ⟨κ3,F3,_,hr3⟩:=Shape.rd_okK hτ ha
      rw [hd]
      simp only [List.append_nil]
      have hrun:(results fn a'.tmps).run C.P (unmark w' u.ms)=.ok (if us.length=1 then us.getD 0 undef else .tuple us.toArray) (unmark w' u.ms):=by
       rw [results_eq,Sem.run_bind]
       have:(fn.results.mapM (rdRes a'.tmps)).run C.P (unmark w' u.ms)=.ok us.toArray (unmark w' u.ms):=by
        rw [Array.mapM_eq_mapM_toList,map_eq_pure_bind,Sem.run_bind,k1]
        rfl
       rw [this]
       simp only [Result.andThen_ok,Sem.run_pure,List.size_toArray]
       by_cases hone:us.length=1
       ·rw [dif_pos hone,if_pos hone]
        simp [List.getD_eq_getElem?_getD,hone]
       ·rw [dif_neg hone,if_neg hone]
      refine unmark_leaves u.ms w' hu.nd hB ⟨_,hrun,_,τ,vs,κ3,F3,rfl,h2 τ (M.ret_pure.1 h5),⟨us,?_,rfl,g1⟩,?_⟩
      ·rw [k2];simpa using hcnt
      ·have e:({ C with nt:=vs.length }:Ctx)={ C with nt:=vs.length,dfr:=[],r:=none }:=by
        cases C
        simp only at hr0 hd0
        subst hr0
        subst hd0
        rfl
       rw [e]
       exact hr3
     ·exact (ret_fail hm).elim
    ·exact (ret_fail hm).elim
   ·exact (ret_fail hm).elim
 cases e with
 | normal=>exact key.2
 | exit id=>exact absurd rfl (key.1 id)
 | ret=>exact key.2
end
def tabT:List (Nat×Ty)→Nat→Ty
 | [],_=>.unit
 | p::l,i=>if i=p.1 then p.2 else tabT l i
def tabChk (P:Program) (l:List (Nat×Ty)):Bool:=l.all fun p=>tyChk P p.2 (.inl p.1)
theorem tabT_ok {P:Program} {l:List (Nat×Ty)} (h:tabChk P l=true):TabOk P (tabT l):=by
 intro id
 induction l with
 | nil=>exact .inl rfl
 | cons p l ih=>
  simp only [tabChk,List.all_cons,Bool.and_eq_true] at h
  simp only [tabT]
  split
  ·rename_i e
   subst e
   exact .inr h.1
  ·exact ih h.2
end Go.Fer
namespace Go.Fer
open Go.RowKit
theorem it_of_io {P:Program} {U:FnTab} {k:FuncId} {c:IOC} (h:IoSpec P U k c) (hU:FnTabOk P U) {ic:ITC} (mk:ic.ts.Den→Nat→List ic.A.Den→c.sin.Den) (hn:c.nargs=resN ic.ts+1) (hn2:c.nargs≤TMAX) (hts:ic.ts≠.unit)
    (hsl:∀ x l L i,(c.sin.st (mk x l L)).slot i=.undef∨(i<resN ic.ts∧(c.sin.st (mk x l L)).slot i=resAV ic.ts x i)∨(i=resN ic.ts∧(c.sin.st (mk x l L)).slot i=.yld l)∨(i=TRS∧(c.sin.st (mk x l L)).slot i=.tr l ic.A L 0 false))
    (hbl:c.sin.blks=[]) (hout:∀ τ,∃ n st l L,(c.out.st τ).slot TRS=.tr l ic.A L n st)
    (hpl:∀ x l,ic.pre x→(c.sh (mk x l (ic.seq x))).safe∧∀ τ,(c.sh (mk x l (ic.seq x))).out τ→∀ l' L' n,(c.out.st τ).slot TRS=.tr l' ic.A L' n false→n=(ic.seq x).length):ItSpec P k ic:=by
  refine ⟨h.enter,fun l I F Y w args x hargs hpre hok hF hY hI=>?_⟩
  obtain ⟨hal,hav⟩:=args_ok (H:=fun _=>⟨0,.dead⟩) (κ:=fun _=>⟨0,0,0,false⟩) ic.ts hargs hts
  have hblk:∀ b,(c.sin.st (mk x l (ic.seq x))).blk b=⟨0,.dead⟩:=fun b=>by
    show lookB (blksL gId c.sin.blks (slotsL gId c.sin.slots (mk x l (ic.seq x))).2) b=_
    generalize (slotsL gId c.sin.slots (mk x l (ic.seq x))).2=z
    revert z
    rw [hbl]
    intro z
    rfl
  have hsz:(args++[Value.func (.yield l) #[] #[]]).length=c.nargs:=by rw [hn,List.length_append,hal];rfl
  have hr:RelK { P:=P,w0:=w,F0:=F,K0:=fun r=>r<w.heap.size∧¬Y r,nt:=c.nargs,r:=none,dfr:=[],an:=fun _=>none,pr:=⟨l,ic.A,ic.seq x,I⟩,ft:=U } (c.sin.st (mk x l (ic.seq x)))
      { tmps:=(args++[Value.func (.yield l) #[] #[]]).toArray,defers:=[] } w (fun _=>⟨0,0,0,false⟩) F:=
    { tsz := by simpa using hsz
      dfr:=rfl
      slots:=fun i=>by
        rcases hsl x l (ic.seq x) i with e | ⟨hi,e⟩ | ⟨hi,e⟩ | ⟨hi,e⟩
        · rw [e];trivial
        · rw [e]
          have:=(args_ok (H:=(c.sin.st (mk x l (ic.seq x))).blk) (κ:=fun _=>⟨0,0,0,false⟩) ic.ts hargs hts).2 i hi
          have e2:(args++[Value.func (.yield l) #[] #[]]).toArray.getD i undef=args.getD i undef:=by
            rw [Array.getD_eq_getD_getElem?,List.getD_eq_getElem?_getD,List.getElem?_toArray,List.getElem?_append_left (by omega)]
          rw [e2]
          exact this
        · rw [e]
          show (args++[Value.func (.yield l) #[] #[]]).toArray.getD i undef=_
          rw [Array.getD_eq_getD_getElem?,List.getElem?_toArray,List.getElem?_append_right (by omega)]
          simp [hi,hal]
        · rw [e];trivial
      blks:=fun b=>by unfold HB;rw [hblk b];trivial
      own:=fun b hb=>by rw [hblk b] at hb;cases hb
      inj:=fun b b' hb _ _=>by rw [hblk b] at hb;cases hb
      fsz:=hF
      flo:=fun r hr=>.inl hr
      fhi:=fun r hr=>hr
      ksz:=fun r hr=>hr.1
      keep:=fun _ _=>rfl
      size:=Nat.le_refl _
      calm:=Calm.refl _
      nsz:=hn2
      aran:=fun b r h=>by cases h
      anch:=fun b r h=>by cases h
      ara:=fun b k h=>by cases h
      anA:=fun b k h=>by cases h
      pro:=fun l' A' L' n st e=>by
        rcases hsl x l (ic.seq x) TRS with e' | ⟨hi,_⟩ | ⟨hi,_⟩ | ⟨_,e'⟩
        · rw [e'] at e;cases e
        · unfold TRS TMAX at *;omega
        · unfold TRS TMAX at *;omega
        · rw [e'] at e
          cases e
          exact ⟨⟨I,rfl⟩,hok,Y,fun r hr=>⟨(hY r hr).1,(hY r hr).2,fun k=>k.2 hr⟩,fun b hb=>(by rw [hblk b] at hb;cases hb),hI⟩
      ftok:=hU }
  obtain ⟨hs,hpost⟩:=hpl x l hpre
  refine (h.calls _ _ w _ F _ rfl rfl rfl rfl rfl rfl hr hs).mono fun e w' ⟨v,τ,vs,κ',F',he,hτ,_,hr'⟩=>?_
  obtain ⟨n,st,l',L',hslot⟩:=hout τ
  obtain ⟨⟨I',hI'⟩,_,Y',h3,h4,h5⟩:=hr'.pro l' ic.A L' n st hslot
  refine ⟨v,n,st,F',Y',he,fun hst=>?_,h5,hr'.fhi,fun r hr2=>?_,hr'.fsz,fun r h1 h2=>hr'.keep r ⟨h1,h2⟩,fun r hr2=>⟨?_,(h3 r hr2).1,(h3 r hr2).2.1⟩,hr'.size,hr'.calm⟩
  · subst hst
    exact hpost τ hτ l' L' n hslot
  · rcases hr'.flo r hr2 with h | h
    · exact .inl h
    · by_cases hy:Y r
      · exact .inr (.inl hy)
      · exact .inr (.inr (Nat.le_of_not_lt fun hlt=>h ⟨hlt,hy⟩))
  · by_cases hy:Y r
    · exact .inl hy
    · exact .inr (Nat.le_of_not_lt fun hlt=>(h3 r hr2).2.2 ⟨hlt,hy⟩)
end Go.Fer
namespace Go.Fer
open Go.RowKit Go.ChangeShapes Go.WideShapes
def Ty.law:Ty→Bool
 | .bool | .int _ | .str | .unit=>true
 | .st t=>t.law
 | .prod a b=>a.law&&b.law
 | .slice e=>e.law
 | _=>false
def Ty.Ok:(t:Ty)→t.Den→Prop
 | .int k,x=>InR k x
 | .str,x=>x.length<2 ^ 63
 | .st t,x=>t.Ok x
 | .prod a b,x=>a.Ok x.1∧b.Ok x.2
 | .slice e,xs=>xs.length<2 ^ 63∧∀ y∈xs,e.Ok y
 | .array n e,xs=>xs.length=n∧∀ y∈xs,e.Ok y
 | _,_=>True
theorem RC_ok {P:Program} {w:World} {F:Nat→Prop}:∀ (t:Ty) {cs:List Value} {x:t.Den},RC P t F w cs x→t.Ok x
 | .bool,_,_,_=>trivial
 | .int _,_,_,h=>h.2
 | .str,_,_,h=>h.2
 | .unit,_,_,_=>trivial
 | .st t,_,_,h=>by simp only [RC] at h;exact RC_ok t h
 | .prod a b,_,_,h=>by
  simp only [RC] at h
  obtain ⟨c,d,_,h1,h2⟩:=h
  exact ⟨RC_ok a h1,RC_ok b h2⟩
 | .slice e,_,xs,h=>by
  simp only [RC] at h
  obtain ⟨a,cap,_,h1,h2,h3,h4⟩:=h
  refine ⟨by omega,fun y hy=>?_⟩
  obtain ⟨i,hi,rfl⟩:=List.mem_iff_getElem.1 hy
  cases a with
  | none=>have:=h3 rfl;omega
  | some p=>
   obtain ⟨ds,_,k⟩:=(h4 p rfl (by omega)).2.2 i hi
   exact RC_ok e k
 | .array n e,_,xs,h=>by
  simp only [RC] at h
  obtain ⟨css,_,h1,h2,h3⟩:=h
  refine ⟨h2,fun y hy=>?_⟩
  obtain ⟨i,hi,rfl⟩:=List.mem_iff_getElem.1 hy
  exact RC_ok e (h3 i hi (by omega))
 | .ptr _,_,_,_=>trivial
 | .map _ _,_,_,_=>trivial
 | .fn _ _,_,_,_=>trivial
section
variable {H:Type} {enc:TypeId×Value→H} {P:Program} {w:World}
theorem TyIs.cells {t:Ty} {id:TypeId} (h:TyIs P t id):P.cellsOf id=t.size:=by
 obtain ⟨i,z,h1,h2,_⟩:=infoOk_out h.info
 simp [Program.cellsOf,h1,h2]
theorem cells?_holds {a:Addr} {n:Nat} {ds:List Value} (h:w.cells? 0 a n=some ds) (hn:0<n):a.spot=none∧a.block<w.heap.size∧ds.length=n∧∀ j (hj:j<ds.length),w.cell? ⟨a.block,a.off+j,none⟩=some ds[j]:=by
 have hb:=World.cells?_block h hn
 have hsp:a.spot=none:=by
  unfold World.cells? at h
  split at h
  ·obtain ⟨m,rfl⟩:∃ m,n=m+1:=⟨n - 1,by omega⟩
   rw [List.range_succ_eq_map] at h
   simp only [List.mapM_cons,Option.bind_eq_bind,Option.bind_eq_some_iff] at h
   obtain ⟨v,hv,_⟩:=h
   cases hs:a.spot with
   | none=>rfl
   | some x=>simp [World.cell?,Addr.add,hs] at hv;split at hv<;>cases hv
  ·cases h
 unfold World.cells? at h
 split at h
 ·have hlen:ds.length=n:=by
   have:∀ (l:List Nat) (r:List Value),l.mapM (fun i=>w.cell? (a.add i))=some r→r.length=l.length:=by
    intro l
    induction l with
    | nil=>intro r hr;simp at hr;subst hr;rfl
    | cons x l ih=>
     intro r hr
     simp only [List.mapM_cons,Option.bind_eq_bind,Option.bind_eq_some_iff,Option.pure_def,Option.some.injEq] at hr
     obtain ⟨v,_,r',hr',rfl⟩:=hr
     simp [ih r' hr']
   simpa using this _ _ h
  refine ⟨hsp,hb,hlen,fun j hj=>?_⟩
  have:∀ (l:List Nat) (r:List Value),l.mapM (fun i=>w.cell? (a.add i))=some r→∀ j (h1:j<l.length) (h2:j<r.length),w.cell? (a.add l[j])=some r[j]:=by
   intro l
   induction l with
   | nil=>intro r _ j h1;simp at h1
   | cons x l ih=>
    intro r hr j h1 h2
    simp only [List.mapM_cons,Option.bind_eq_bind,Option.bind_eq_some_iff,Option.pure_def,Option.some.injEq] at hr
    obtain ⟨v,hv,r',hr',rfl⟩:=hr
    cases j with
    | zero=>exact hv
    | succ j=>exact ih r' hr' j (by simpa using h1) (by simpa using h2)
  have h1:=this _ _ h j (by simp;omega) hj
  rw [←h1]
  have ea:a.add ((List.range n)[j]'(by simp;omega))=⟨a.block,a.off+j,none⟩:=by
   cases a
   simp only at hsp
   subst hsp
   simp [Addr.add]
  rw [ea]
 ·cases h
def AllF (w:World):Nat→Prop:=fun r=>r<w.heap.size
theorem trod_RC (t:Ty):(t.law=true→∀ {id:TypeId} {fuel:Nat} {cs:List Value} {x:DataW H×List MemPlace},TyIs P t id→DataW.trod enc P w 0 (fun _=>true) true fuel id cs=some x→∃ y,RC P t (AllF w) w cs y)∧
  (t.law=true→∀ {l:List Field} {off n:Nat} {cs:List Value},tyChk P t (.inr (l,off))=true→(∀ f∈l,∃ x,DataW.trod enc P w 0 (fun _=>true) true n f.type ((cs.drop f.offset).take (P.cellsOf f.type))=some x)→∃ y,RC P t (AllF w) w ((cs.drop off).take t.size) y):=by
 induction t with
 | bool=>
  refine ⟨fun _ {id fuel cs x} ht h=>?_,fun _ {l off n cs} h=>by simp [tyChk] at h⟩
  have hu:P.underlying id=some .bool:=by
   unfold TyIs at ht
   simp only [tyChk,Bool.and_eq_true] at ht
   obtain ⟨_,ht⟩:=ht
   split at ht
   ·assumption
   ·cases ht
  obtain ⟨b,rfl,_⟩:=DataW.trod_bool hu h
  exact ⟨b,rfl⟩
 | int k=>
  refine ⟨fun _ {id fuel cs x} ht h=>?_,fun _ {l off n cs} h=>by simp [tyChk] at h⟩
  obtain ⟨n,rfl,_,hw⟩:=DataW.trod_int ht.int h
  simp only [Lit.wf,Bool.and_eq_true,decide_eq_true_eq] at hw
  exact ⟨n,rfl,hw⟩
 | str=>
  refine ⟨fun _ {id fuel cs x} ht h=>?_,fun _ {l off n cs} h=>by simp [tyChk] at h⟩
  obtain ⟨s,rfl,_,hw⟩:=DataW.trod_string ht.str h
  refine ⟨s.data.toList,by simp,?_⟩
  have:s.data.toList.length=s.size:=by rw [Array.length_toList];rfl
  rw [this]
  have:maxLen<2 ^ 63:=by decide
  omega
 | unit=>exact ⟨fun _ {id fuel cs x} ht h=>by simp [TyIs,tyChk] at ht,fun _ {l off n cs} h=>by simp [tyChk] at h⟩
 | st t ih=>
  refine ⟨fun hl {id fuel cs x} ht h=>?_,fun _ {l off n cs} h=>by simp [tyChk] at h⟩
  have hl:t.law=true:=hl
  have hcells:P.cellsOf id=t.size:=ht.cells
  obtain ⟨fs,hu⟩:=ht.st
  obtain ⟨xs,n,_,rfl,hlen,hxl,hf⟩:=DataW.trod_struct hu h
  unfold TyIs at ht
  simp only [tyChk,Bool.and_eq_true] at ht
  obtain ⟨_,ht⟩:=ht
  rw [hu] at ht
  have hfs:∀ f∈fs.toList,∃ x,DataW.trod enc P w 0 (fun _=>true) true n f.type ((cs.drop f.offset).take (P.cellsOf f.type))=some x:=by
   intro f hfm
   obtain ⟨i,hi,rfl⟩:=List.mem_iff_getElem.1 hfm
   have hi':i<fs.size:=by simpa using hi
   refine ⟨xs[i]'(by omega),?_⟩
   rw [hf i _ (by simp [hi'])]
   exact List.getElem?_eq_getElem _
  simp only at ht
  split at ht
  ·have ht:=of_decide_eq_true ht
   subst ht
   have:cs=[]:=by
    have:=hlen.trans hcells
    simpa [Ty.size] using this
   subst this
   exact ⟨(),rfl⟩
  ·rename_i f hfl
   simp only [Bool.and_eq_true,beq_iff_eq,bne_iff_ne] at ht
   obtain ⟨⟨⟨h0,h1⟩,_⟩,_⟩:=ht
   obtain ⟨x,hx⟩:=hfs f (by rw [hfl];simp)
   have hc:P.cellsOf f.type=t.size:=TyIs.cells h1
   rw [h0,hc,List.drop_zero,List.take_of_length_le (by omega)] at hx
   obtain ⟨y,hy⟩:=ih.1 hl h1 hx
   exact ⟨y,hy⟩
  ·obtain ⟨y,hy⟩:=ih.2 hl ht hfs
   rw [List.drop_zero,List.take_of_length_le (by omega)] at hy
   exact ⟨y,hy⟩
 | prod a b iha ihb=>
  refine ⟨fun _ {id fuel cs x} ht h=>by simp [TyIs,tyChk] at ht,fun hl {l off n cs} ht h=>?_⟩
  simp only [Ty.law,Bool.and_eq_true] at hl
  have join:∀ {y:a.Den} {z:b.Den},RC P a (AllF w) w ((cs.drop off).take a.size) y→RC P b (AllF w) w ((cs.drop (off+a.size)).take b.size) z→∃ y,RC P (.prod a b) (AllF w) w ((cs.drop off).take (Ty.prod a b).size) y:=by
   intro y z hy hz
   refine ⟨(y,z),_,_,?_,hy,hz⟩
   simp only [Ty.size]
   rw [List.take_add,List.drop_drop]
  match l,ht with
  | f::g::[],ht=>
   simp only [tyChk,Bool.and_eq_true,beq_iff_eq,bne_iff_ne] at ht
   obtain ⟨⟨⟨⟨h0,h1⟩,_⟩,_⟩,⟨⟨⟨k0,k1⟩,_⟩,_⟩⟩:=ht
   obtain ⟨x,hx⟩:=h f (by simp)
   obtain ⟨x',hx'⟩:=h g (by simp)
   rw [h0,TyIs.cells h1] at hx
   rw [k0,TyIs.cells k1] at hx'
   obtain ⟨y,hy⟩:=iha.1 hl.1 h1 hx
   obtain ⟨z,hz⟩:=ihb.1 hl.2 k1 hx'
   exact join hy hz
  | f::g::e::fs,ht=>
   simp only [tyChk,Bool.and_eq_true,beq_iff_eq,bne_iff_ne] at ht
   obtain ⟨⟨⟨⟨h0,h1⟩,_⟩,_⟩,k1⟩:=ht
   obtain ⟨x,hx⟩:=h f (by simp)
   rw [h0,TyIs.cells h1] at hx
   obtain ⟨y,hy⟩:=iha.1 hl.1 h1 hx
   obtain ⟨z,hz⟩:=ihb.2 hl.2 k1 fun f' hf'=>h f' (List.mem_cons_of_mem _ hf')
   exact join hy hz
 | slice e ih=>
  refine ⟨fun hl {id fuel cs x} ht h=>?_,fun _ {l off n cs} h=>by simp [tyChk] at h⟩
  have hl:e.law=true:=hl
  obtain ⟨i,hu,he,hsz⟩:=ht.sl
  have hcells:=he.cells
  rcases DataW.trod_slice hu h with ⟨rfl,_⟩ | ⟨a,len,cap,elems,rest,n,rfl,rfl,_,_,hlc,hcap,hel,hget,hmore,_⟩
  ·exact ⟨[],none,0,rfl,Nat.le_refl _,by decide,fun _=>rfl,fun p hp=>by cases hp⟩
  ·have hpos:0<P.cellsOf i:=by rw [hcells];omega
   have key:∀ j,j<len→∃ ds y,w.cells? 0 (a.add (j*P.cellsOf i)) (P.cellsOf i)=some ds∧RC P e (AllF w) w ds y:=by
    intro j hj
    have:=hget j hj
    rw [List.getElem?_eq_getElem (by omega)] at this
    obtain ⟨ds,h1,h2⟩:=Option.bind_eq_some_iff.1 this
    obtain ⟨y,hy⟩:=ih.1 hl he h2
    exact ⟨ds,y,h1,hy⟩
   have some0:0<cap→a.spot=none∧a.block<w.heap.size:=by
    intro hc
    have:∃ ds,w.cells? 0 (a.add (0*P.cellsOf i)) (P.cellsOf i)=some ds:=by
     by_cases hl0:0<len
     ·obtain ⟨ds,_,h1,_⟩:=key 0 hl0
      exact ⟨ds,h1⟩
     ·obtain ⟨m1,m2⟩:=hmore rfl
      have hz:len=0:=by omega
      subst hz
      have:=m2 0 (by omega)
      rw [List.getElem?_eq_getElem (by omega)] at this
      obtain ⟨ds,h1,_⟩:=Option.bind_eq_some_iff.1 this
      exact ⟨ds,h1⟩
    obtain ⟨ds,h1⟩:=this
    have e1:a.add (0*P.cellsOf i)=a:=by unfold Addr.add;simp
    rw [e1] at h1
    obtain ⟨k1,k2,_⟩:=cells?_holds h1 hpos
    exact ⟨k1,k2⟩
   have:∃ ys:List e.Den,ys.length=len∧∀ j (hj:j<ys.length),∃ ds,w.cells? 0 (a.add (j*P.cellsOf i)) (P.cellsOf i)=some ds∧RC P e (AllF w) w ds ys[j]:=by
    clear hget hel h hlc hmore
    induction len with
    | zero=>exact ⟨[],rfl,fun j hj=>by simp at hj⟩
    | succ m ihm=>
     obtain ⟨ys,hys,hh⟩:=ihm fun j hj=>key j (by omega)
     obtain ⟨ds,y,h1,h2⟩:=key m (by omega)
     refine ⟨ys++[y],by simp [hys],fun j hj=>?_⟩
     by_cases hjm:j<ys.length
     ·rw [List.getElem_append_left hjm];exact hh j hjm
     ·have:j=m:=by simp at hj;omega
      subst this
      refine ⟨ds,h1,?_⟩
      rw [List.getElem_append_right (by omega)]
      simpa [hys] using h2
   obtain ⟨ys,rfl,hys⟩:=this
   have hmax:maxLen<2 ^ 63:=by decide
   refine ⟨ys,some a,cap,rfl,hlc,by omega,(by simp),fun p hp hc0=>?_⟩
   cases hp
   obtain ⟨k1,k2⟩:=some0 hc0
   refine ⟨k2,k1,fun j hj=>?_⟩
   obtain ⟨ds,d1,d2⟩:=hys j hj
   obtain ⟨m1,m2,m3,m4⟩:=cells?_holds d1 hpos
   refine ⟨ds,⟨k2,rfl,fun q hq=>?_⟩,d2⟩
   have:=m4 q hq
   have e1:a.add (j*P.cellsOf i)=⟨a.block,a.off+j*e.size,none⟩:=by
    rw [hcells]
    cases a
    simp only at k1
    subst k1
    unfold Addr.add
    split
    ·rename_i h0;simp [h0]
    ·rfl
   rw [e1] at this
   exact this
 | array n e ih=>exact ⟨fun h=>by simp [Ty.law] at h,fun h=>by simp [Ty.law] at h⟩
 | ptr e ih=>exact ⟨fun h=>by simp [Ty.law] at h,fun h=>by simp [Ty.law] at h⟩
 | map k v ihk ihv=>exact ⟨fun h=>by simp [Ty.law] at h,fun h=>by simp [Ty.law] at h⟩
 | fn a b iha ihb=>exact ⟨fun h=>by simp [Ty.law] at h,fun h=>by simp [Ty.law] at h⟩
theorem arg_RV {t:Ty} (hl:t.law=true) {id:TypeId} (ht:TyIs P t id) {base:Nat} {v:Value} {d:DataW H} {ps:List MemPlace} (hok:Value.okWide P w .any base id v)
  (h:DataW.Trod enc P w 0 (fun _=>true) true id v d ps):∃ y,RV P t (AllF w) w v y:=by
 obtain ⟨n,hn⟩:=h
 obtain ⟨y,hy⟩:=(trod_RC t).1 hl ht hn
 refine ⟨y,?_,hy⟩
 cases t with
 | bool=>
  simp only [RC] at hy
  have hu:P.underlying id=some .bool:=by
   unfold TyIs at ht
   simp only [tyChk,Bool.and_eq_true] at ht
   obtain ⟨_,ht⟩:=ht
   split at ht
   ·assumption
   ·cases ht
  simp only [Value.okWide,hu,Cell.okWide,Cell.ok] at hok
  cases v<;>first | rfl | exact hok.elim
 | int k=>
  simp only [Value.okWide,ht.int,Cell.okWide,Cell.ok] at hok
  cases v<;>first | rfl | exact hok.elim
 | str=>
  simp only [Value.okWide,ht.str,Cell.okWide,Cell.ok] at hok
  cases v<;>first | rfl | exact hok.elim
 | unit=>simp [TyIs,tyChk] at ht
 | st t=>
  obtain ⟨fs,hu⟩:=ht.st
  simp only [Value.okWide,hu] at hok
  obtain ⟨cs,rfl,hc,_⟩:=hok
  exact ⟨cs,rfl,hc.trans ht.cells⟩
 | prod a b=>simp [TyIs,tyChk] at ht
 | slice e=>
  obtain ⟨i,hu,_⟩:=ht.sl
  simp only [Value.okWide,hu,Cell.okWide,Cell.ok] at hok
  cases v<;>first | rfl | exact hok.elim
 | array n e=>simp [Ty.law] at hl
 | ptr e=>simp [Ty.law] at hl
 | map k v=>simp [Ty.law] at hl
 | fn a b=>simp [Ty.law] at hl
def argsChk (P:Program):List TypeId→Ty→Bool
 | [id],t=>tyChk P t (.inl id)&&t.law
 | id::ids,.prod a b=>tyChk P a (.inl id)&&a.law&&argsChk P ids b
 | _,_=>false
theorem args_RC:∀ (ids:List TypeId) (ts:Ty) {base:Nat} {vs:List Value} {ds:List (DataW H)} {ps:List MemPlace},argsChk P ids ts=true→DataW.TrodAll enc P w 0 (fun _=>true) true ids vs ds ps→
  (∀ (j:Nat) t v,ids[j]?=some t→vs[j]?=some v→Value.okWide P w .any base t v)→∃ x,RArgs P ts (AllF w) w vs x
 | [],ts,_,vs,ds,ps,h,_,_=>by simp [argsChk] at h
 | [id],t,_,vs,ds,ps,h,hA,hok=>by
  simp only [argsChk,Bool.and_eq_true] at h
  obtain ⟨v0,vs0,d0,ds0,p0,q0,rfl,rfl,rfl,h0,r0⟩:=trodAll_cons hA
  obtain ⟨rfl,rfl,rfl⟩:=trodAll_nil r0
  obtain ⟨y,hy1,hy2⟩:=arg_RV h.2 h.1 (hok 0 id v0 rfl rfl) h0
  refine ⟨y,?_,by simpa [flat] using hy2⟩
  cases t<;>first | exact ⟨v0,rfl,hy1⟩ | (simp [tyChk] at h;done)
 | id::id2::ids,ts,base,vs,ds,ps,h,hA,hok=>by
  cases ts with
  | prod a b=>
   simp only [argsChk,Bool.and_eq_true] at h
   obtain ⟨v0,vs0,d0,ds0,p0,q0,rfl,rfl,rfl,h0,r0⟩:=trodAll_cons hA
   obtain ⟨y,hy1,hy2⟩:=arg_RV h.1.2 h.1.1 (hok 0 id v0 rfl rfl) h0
   obtain ⟨z,hz1,hz2⟩:=args_RC (id2::ids) b h.2 r0 fun j t v h1 h2=>hok (j+1) t v (by simpa using h1) (by simpa using h2)
   exact ⟨(y,z),⟨hy1,hz1⟩,_,_,flat_cons _ _,hy2,hz2⟩
  | _=>simp [argsChk] at h
theorem trodAll_stays (hl:laidOutB P=true) {w':World} {sp':Nat→Bool}:∀ (ids:List TypeId) {vs:List Value} {ds:List (DataW H)} {ps:List MemPlace},(ids.all fun t=>P.readableRec t&&decide (t<P.types.size))=true→
  DataW.TrodAll enc P w 0 (fun _=>true) true ids vs ds ps→(∀ p∈ps,w.sameAt w' p)→(∀ p∈ps,sp' p.block=true)→DataW.TrodAll enc P w' 0 sp' true ids vs ds ps
 | [],_,_,_,_,h,_,_=>by
  obtain ⟨rfl,rfl,rfl⟩:=trodAll_nil h
  rfl
 | id::ids,vs,ds,ps,hr,h,h1,h2=>by
  simp only [List.all_cons,Bool.and_eq_true,decide_eq_true_eq] at hr
  obtain ⟨v0,vs0,d0,ds0,p0,q0,rfl,rfl,rfl,h0,r0⟩:=trodAll_cons h
  exact trodAll_cons_mk (Go.WideElems.Trod_stays hl hr.1.1 hr.1.2 h0 (fun p hp=>h1 p (List.mem_append_left _ hp)) (fun p hp=>h2 p (List.mem_append_left _ hp)))
   (trodAll_stays hl ids hr.2 r0 (fun p hp=>h1 p (List.mem_append_right _ hp)) (fun p hp=>h2 p (List.mem_append_right _ hp)))
theorem law_contract {k:FuncId} {fn:Func} {ts:Ty} {sh:ts.Den→M (Ty.bool).Den} {spec:ChangeSpec} {rt:TypeId} (hlay:laidOutB P=true) (hspec:FnSpec P k ts .bool sh) (hlaw:∀ x,ts.Ok x→M.Ret (sh x) fun y=>y=true)
  (hargs:argsChk P fn.params.toList ts=true) (hread:(fn.params.toList.all fun t=>P.readableRec t&&decide (t<P.types.size))=true) (hres:fn.resultTypes=#[rt]) (hrt:P.underlying rt=some .bool)
  (hv:spec.vars=[]) (hfn:∀ (H:Type) (ds:List (DataW H)),ds.length=fn.params.size→spec.fn H ds={ results:=[.lit (.bool true)],args:=ds })
  {base:Nat} {args:Array Value} {ds gs:List (DataW H)} {before:List MemPlace} (hval:∀ (j:Nat) t v,fn.params[j]?=some t→args[j]?=some v→Value.okWide P w .any base t v)
  (hW:DataW.Whole enc P fn.params.toList spec.vars false w args.toList ds gs before) :
  Calls P k args w fun e W'=>∃ v,e=.returned v∧spec.post enc P fn false true false false w args v W':=by
 have hlt:=hW.lt
 have hW':=hW
 obtain ⟨p,q,hA,hV,rfl,hfz,_⟩:=hW
 have hq:gs=[]∧q=[]:=by
  rw [hv] at hV
  cases gs with
  | nil=>exact ⟨rfl,hV⟩
  | cons _ _=>exact hV.elim
 obtain ⟨rfl,rfl⟩:=hq
 simp only [List.append_nil] at hW' hlt hfz
 obtain ⟨x,hx⟩:=args_RC fn.params.toList ts hargs hA fun j t v h1 h2=>hval j t v (by simpa using h1) (by simpa using h2)
 obtain ⟨hs,ho⟩:=hlaw x (RC_ok ts hx.2)
 have hdl:ds.length=fn.params.size:=by
  have:∀ (ids:List TypeId) {vs:List Value} {ds:List (DataW H)} {ps:List MemPlace},DataW.TrodAll enc P w 0 (fun _=>true) true ids vs ds ps→ds.length=ids.length:=by
   intro ids
   induction ids with
   | nil=>intro vs ds ps h;obtain ⟨rfl,rfl,rfl⟩:=trodAll_nil h;rfl
   | cons id ids ih=>intro vs ds ps h;obtain ⟨v0,vs0,d0,ds0,p0,q0,rfl,rfl,rfl,h0,r0⟩:=trodAll_cons h;simp [ih r0]
  simpa using this _ hA
 have hc:=hspec.calls (AllF w) w args.toList x (fun _ h=>h) hx hs
 refine hc.mono fun e W' ⟨v,y,he,hy,hr,hb⟩=>?_
 have hy:=ho y hy
 subst hy
 obtain ⟨vs,r1,r2⟩:=hr
 have hvb:v=.bool true:=by
  simp only [ResVal] at r1
  subst r1
  obtain ⟨⟨u,hu,hsh⟩,hrc⟩:=r2
  simp only [List.cons.injEq,and_true] at hu
  subst hu
  simp only [VShape] at hsh
  simp only [flat_cons,hsh,flat_nil,RC] at hrc
  simpa using hrc
 subst hvb
 have hsame:∀ p'∈p,w.sameAt W' p':=by
  intro p' hp
  have h1:=hb.block _ (hlt p' hp)
  cases p' with
  | cell b off=>simp only [World.sameAt,World.cell?];simp only [MemPlace.block] at h1;rw [h1]
  | map b=>exact h1
 refine ⟨_,he,ds,[],p,[],p,[],hW',?_,?_,?_,?_,fun h=>by cases h⟩
 ·rw [List.append_nil,hfn H ds hdl,hres]
  exact trodAll_cons_mk (shut_bool hrt true) trodAll_mk0
 ·rw [List.append_nil,hfn H ds hdl]
  exact trodAll_stays hlay _ hread hA hsame fun p' hp=>by simpa using hlt p' hp
 ·rw [hv,List.append_nil,hfn H ds hdl]
  rfl
 ·refine ⟨hb.os,hb.output,fun i hi=>?_⟩
  have h1:=hb.block i hi
  rw [h1]
  exact (World.keptBut_refl w fun p_1=>p_1∈p∧(p_1∈[]∨p_1∈p∨p_1∈[])).2.2 i hi
end
end Go.Fer
namespace Go.Fer.Sk
open Go.Proofs
abbrev t3:Ty:=.int .i64
abbrev t4:Ty:=.bool
abbrev t2:Ty:=.int .i64
abbrev t6:Ty:=.int .u8
abbrev t8:Ty:=.st (.prod t2 (.prod t3 (.prod t4 t6)))
abbrev t9:Ty:=.str
abbrev t43:Ty:=.st (.prod t3 t3)
abbrev t139:Ty:=.st (.prod t3 (.prod t3 t43))
abbrev t22:Ty:=.slice t139
abbrev t27:Ty:=.slice t3
abbrev t109:Ty:=.st (.prod t3 (.prod t27 t43))
abbrev t105:Ty:=.slice t109
abbrev t107:Ty:=.st t105
abbrev t23:Ty:=.slice t107
abbrev t142:Ty:=.st (.prod t3 (.prod t3 (.prod t3 t3)))
abbrev t24:Ty:=.slice t142
abbrev t26:Ty:=.st (.prod t22 (.prod t23 (.prod t3 t24)))
abbrev t51:Ty:=.st (.prod t3 (.prod t3 (.prod t3 (.prod t3 t27))))
abbrev t28:Ty:=.slice t51
abbrev t45:Ty:=.st (.prod t27 (.prod t43 (.prod t3 (.prod t3 t3))))
abbrev t29:Ty:=.slice t45
abbrev t34:Ty:=.st (.prod t3 (.prod t3 t3))
abbrev t30:Ty:=.slice t34
abbrev t32:Ty:=.st (.prod t26 (.prod t27 (.prod t28 (.prod t29 (.prod t30 t3)))))
abbrev t36:Ty:=.st (.prod t3 (.prod t3 t3))
abbrev t46:Ty:=.int .i64
abbrev t54:Ty:=.st (.prod t3 (.prod t3 t3))
abbrev t64:Ty:=.st (.prod t3 (.prod t3 t3))
abbrev t121:Ty:=.st (.prod t3 t3)
abbrev t111:Ty:=.slice t121
abbrev t118:Ty:=.st (.prod t3 (.prod t3 t3))
abbrev t110:Ty:=.map t118 t3
abbrev t113:Ty:=.st (.prod t32 (.prod t111 t110))
abbrev t74:Ty:=.ptr t113
abbrev t84:Ty:=.fn t27 t4
abbrev t77:Ty:=.fn t84 .unit
abbrev t124:Ty:=.st (.prod t3 (.prod t3 t3))
abbrev t78:Ty:=.slice t124
abbrev t100:Ty:=.slice t27
abbrev t87:Ty:=.slice t100
abbrev t95:Ty:=.fn t45 t4
abbrev t126:Ty:=.slice t3
abbrev t128:Ty:=.map t3 t3
abbrev t129:Ty:=.int .u64
abbrev t169:Ty:=.st (.prod t3 t27)
abbrev t132:Ty:=.slice t169
abbrev t144:Ty:=.st (.prod t3 (.prod t3 t3))
abbrev t140:Ty:=.map t144 t3
abbrev t146:Ty:=.fn t3 t4
abbrev t148:Ty:=.fn t51 t4
abbrev t149:Ty:=.fn t34 t4
abbrev t159:Ty:=.st (.prod t26 t100)
abbrev t154:Ty:=.ptr t159
abbrev t162:Ty:=.int .u32
abbrev t165:Ty:=.int .u64
abbrev t170:Ty:=.slice t30
abbrev t173:Ty:=.fn t139 t4
abbrev t174:Ty:=.fn t109 t4
abbrev t176:Ty:=.fn t107 t4
abbrev t177:Ty:=.fn t142 t4
def tab:List (Nat×Ty):=[(3,t3),(4,t4),(8,t8),(9,t9),(22,t22),(23,t23),(24,t24),(26,t26),(27,t27),(28,t28),(29,t29),(30,t30),(32,t32),(34,t34),(36,t36),(43,t43),(45,t45),(46,t46),(51,t51),(54,t54),(64,t64),(74,t74),(77,t77),(78,t78),(84,t84),(87,t87),(95,t95),(100,t100),(105,t105),(107,t107),(109,t109),(110,t110),(111,t111),(113,t113),(118,t118),(121,t121),(124,t124),(126,t126),(128,t128),(129,t129),(132,t132),(139,t139),(140,t140),(142,t142),(144,t144),(146,t146),(148,t148),(149,t149),(154,t154),(159,t159),(162,t162),(165,t165),(169,t169),(170,t170),(173,t173),(174,t174),(176,t176),(177,t177)]
theorem tabOk:TabOk Tryz.prog (tabT tab):=tabT_ok (by kernel_rfl)
theorem mixOk:Tryz.prog.follows .mixedOrders=true:=by kernel_rfl
def noPhi (_:Nat):Option FC:=none
theorem noPhi_ok:CtrOk Tryz.prog noPhi:=fun k c h=>by cases h
def noU:FnTab:=⟨fun _=>none,fun _=>none⟩
theorem noU_ok:FnTabOk Tryz.prog noU where
 fnv:=fun k v h=>by cases h
 clv:=fun k v h=>by cases h
end Go.Fer.Sk
namespace Go.Fer
theorem M.le_req {α:Type} {p:Prop} {m n:M α} (h:n.safe→p) (k:M.le m n):M.le (M.req p m) n:=fun hs=>⟨⟨h hs,(k hs).1⟩,(k hs).2⟩
theorem isSome_of {α:Type} {o:Option α} {x:α} (h:o=some x):o.isSome=true:=by rw [h];rfl
def capsAll (ts:Ty) (x:ts.Den) (n:Nat):Nat→Prop
 | 0=>True
 | k+1=>capsAll ts x n k∧ptrPre (resAV ts x (n+k))
theorem capsAll_get {ts:Ty} {x:ts.Den} {n:Nat}:∀ {k:Nat},capsAll ts x n k→∀ i,i<k→ptrPre (resAV ts x (n+i))
 | 0,_,i,h=>by omega
 | k+1,hc,i,h=>by
  by_cases e:i=k
  ·rw [e];exact hc.2
  ·exact capsAll_get hc.1 i (by omega)
theorem look_par (ts:Ty) (x:ts.Den):∀ (l:List Nat) (i:Nat),look (l.map fun i=>(i,resAV ts x i)) i=if i∈l then resAV ts x i else .undef
 | [],i=>by simp [look]
 | j::l,i=>by
  simp only [List.map_cons,look]
  by_cases e:i=j
  ·subst e;simp
  ·rw [if_neg e,look_par ts x l i];simp [e]
theorem caps_pre {ts:Ty} {x:ts.Den} {n:Nat} (h:capsAll ts x n (parN ts - n)):capsPre n (parSt ts x):=fun i hi=>by
 show ptrPre (look (parL ts x (parN ts)) i)
 unfold parL
 rw [look_par]
 split
 ·rename_i hm
  rw [List.mem_range] at hm
  have hn:¬i<n:=fun h=>hi (.inl h)
  have:=capsAll_get h (i - n) (by omega)
  rwa [show n+(i - n)=i by omega] at this
 ·trivial
end Go.Fer
namespace Go.Fer
open M (Step)
set_option linter.unusedVariables false
abbrev Wsh:Type:=List (Int×Int×Int×Int)×List (List (Int×List Int×Int×Int))×Int×List (Int×Int×Int×Int)
abbrev Shp:Type:=Wsh×List (List Int)
abbrev msetI (l:List (Int×Int)) (a b:Int):List (Int×Int):=mset (k:=.int .i64) (v:=.int .i64) l a b
abbrev msetT (l:List ((Int×Int×Int)×Int)) (a:Int×Int×Int) (b:Int):List ((Int×Int×Int)×Int):=mset (k:=.st (.prod (.int .i64) (.prod (.int .i64) (.int .i64)))) (v:=.int .i64) l a b
def S_ref07_Copy  (x:List (Int×Int×Int×Int)×List (List (Int×List Int×Int×Int))×Int×List (Int×Int×Int×Int)):M Wsh:=
 M.req (lenLe (Add.add 0 (List.length x.1))) (M.req (lenLe (Add.add 0 (List.length x.2.2.2))) (M.bind (M.loop (fun (σ:Int×Wsh×Int×Int×List
 (Int×Int×Int×Int)×List (Int×Int×Int×Int)×List (List (Int×List Int×Int×Int))×Unit)=>if decide (σ.1<Int.ofNat (List.length
 σ.2.1.2.1))=true then M.bind (M.req (0≤σ.1∧σ.1<Int.ofNat (List.length σ.2.1.2.1)) (M.req (lenLe (Add.add 0 (List.length (List.getD σ.2.1.2.1
 (Int.toNat σ.1) [])))) (M.bind (M.loop (fun (σ:Int×Int×Wsh×Int×Int×List (Int×Int×Int×Int)×List (Int×Int×Int×Int)×List
 (Int×List Int×Int×Int)×List (List (Int×List Int×Int×Int))×Unit)=>if decide (σ.2.1<Int.ofNat (List.length σ.2.2.2.2.2.2.2.1))=
 true then M.req (0≤σ.2.1∧σ.2.1<Int.ofNat (List.length σ.2.2.2.2.2.2.2.1)) (M.req (lenLe (Add.add 0 (List.length (List.getD σ.2.2.2.2.2.2.2.1
 (Int.toNat σ.2.1) (0,[],0,0)).2.1))) (M.req (0≤σ.2.1∧σ.2.1<Int.ofNat (List.length σ.2.2.2.2.2.2.2.1)) (M.pure (Step.next (σ.1,IntKind.wrap
 .i64 (Add.add σ.2.1 1),σ.2.2.1,σ.2.2.2.1,σ.2.2.2.2.1,σ.2.2.2.2.2.1,σ.2.2.2.2.2.2.1,List.set σ.2.2.2.2.2.2.2.1 (Int.toNat σ.2.1) ((List.getD
 σ.2.2.2.2.2.2.2.1 (Int.toNat σ.2.1) (0,[],0,0)).1,[]++(List.getD σ.2.2.2.2.2.2.2.1 (Int.toNat σ.2.1) (0,[],0,0)).2.1,(List.getD
 σ.2.2.2.2.2.2.2.1 (Int.toNat σ.2.1) (0,[],0,0)).2.2),σ.2.2.2.2.2.2.2.2.1,()))))) else M.bind (M.pure (Step.next (σ.1,σ.2.2.1,σ.2.2.2.1,
 σ.2.2.2.2.1,σ.2.2.2.2.2.1,σ.2.2.2.2.2.2.1,σ.2.2.2.2.2.2.2.1,σ.2.2.2.2.2.2.2.2.1,()))) fun r=>M.pure (Step.done r)) (σ.1,0,σ.2.1,σ.2.2.1,
 σ.2.2.2.1,σ.2.2.2.2.1,σ.2.2.2.2.2.1,[]++List.getD σ.2.1.2.1 (Int.toNat σ.1) [],σ.2.2.2.2.2.2.1,())) (Step.go fun (σ:Int×Wsh×Int×Int×
 List (Int×Int×Int×Int)×List (Int×Int×Int×Int)×List (Int×List Int×Int×Int)×List (List (Int×List Int×Int×Int))×Unit)=>
 M.req (lenLe (Add.add (List.length σ.2.2.2.2.2.2.2.1) (Add.add 0 1))) (M.pure (Step.next (σ.1,σ.2.1,σ.2.2.1,σ.2.2.2.1,σ.2.2.2.2.1,σ.2.2.2.2.2.1,
 σ.2.2.2.2.2.2.2.1++[σ.2.2.2.2.2.2.1],()))))))) (Step.go fun (σ:Int×Wsh×Int×Int×List (Int×Int×Int×Int)×List (Int×Int×Int×
 Int)×List (List (Int×List Int×Int×Int))×Unit)=>M.pure (Step.next (IntKind.wrap .i64 (Add.add σ.1 1),σ.2.1,σ.2.2.1,σ.2.2.2.1,
 σ.2.2.2.2.1,σ.2.2.2.2.2.1,σ.2.2.2.2.2.2.1,()))) else M.bind (M.pure (Step.next (σ.2.2.1,σ.2.2.2.1,σ.2.2.2.2.1,σ.2.2.2.2.2.1,σ.2.2.2.2.2.2.1,
 ()))) fun r=>M.pure (Step.done r)) (0,x,0,x.2.2.1,[]++x.1,[]++x.2.2.2,[],())) (Step.go fun (σ:Int×Int×List (Int×Int×Int×Int)
 ×List (Int×Int×Int×Int)×List (List (Int×List Int×Int×Int))×Unit)=>M.pure (σ.2.2.1,σ.2.2.2.2.1,σ.2.1,σ.2.2.2.1))))
def S_ref07_In  (x:List Int×Int):M Bool:=
 M.bind (M.loop (fun (σ:List Int×Int×Int×Unit)=>if decide (σ.2.2.1<Int.ofNat (List.length σ.1))=true then M.req (0≤σ.2.2.1∧σ.2.2.1 <
 Int.ofNat (List.length σ.1)) (if decide (List.getD σ.1 (Int.toNat σ.2.2.1) 0=σ.2.1)=true then M.bind (M.bind (M.pure true) fun r=>M.pure
 (Step.done r)) fun r=>M.pure (Step.done r) else M.pure (Step.next (σ.1,σ.2.1,IntKind.wrap .i64 (Add.add σ.2.2.1 1),()))) else M.bind (M.pure
 (Step.next ())) fun r=>M.pure (Step.done r)) (x.1,x.2,0,())) (Step.go fun (σ:Unit)=>M.pure false)
def S_ref07_IsSpare (c_ref07_Within:Int×Int×Int→M Bool) (x:Wsh×Int):M Bool:=
 M.bind (c_ref07_Within (x.2,0,IntKind.wrap .i64 (Int.ofNat (List.length x.1.1) - 1))) fun y=>M.pure y
def S_ref07_IsSlotOf (c_ref07_Within:Int×Int×Int→M Bool) (c_ref07_IsMake:Wsh×Int→M Bool) (x:Wsh×Int×Int):M Bool:=
 M.bind (c_ref07_IsMake (x.1,x.2.1)) fun y=>M.req (y=true→(y=true∧y=true)∧(0≤x.2.1∧x.2.1<Int.ofNat (List.length x.1.2.1))∧True)
 (M.bind (gdo y (c_ref07_Within (x.2.2,0,IntKind.wrap .i64 (Int.ofNat (List.length (List.getD x.1.2.1 (Int.toNat x.2.1) [])) - 1))) false) fun y_1
 =>M.pure (y&&y_1))
def S_ref07_Check (c_ref07_isWorkshop:List (Int×Int×Int×Int)×List (List (Int×List Int×Int×Int))×Int×List (Int×Int×Int×Int)→M Bool) (x:List (Int×Int×Int×Int)×List (List (Int×List Int×Int×Int))×Int×List (Int×Int×Int×Int)):M Int:=
 M.bind (c_ref07_isWorkshop x) fun y=>if (!y)=true then M.pure 70 else M.bind (M.loop (fun (σ:Int×Wsh×Unit)=>if decide (σ.1<Int.ofNat
 (List.length σ.2.1.2.2.2))=true then M.bind (M.loop (fun (σ:Int×Int×Wsh×Unit)=>if decide (σ.2.1<σ.1)=true then M.req (0≤σ.2.1∧
 σ.2.1<Int.ofNat (List.length σ.2.2.1.2.2.2)) (M.req (0≤σ.1∧σ.1<Int.ofNat (List.length σ.2.2.1.2.2.2)) (if (decide ((List.getD σ.2.2.1.2.2.2
 (Int.toNat σ.2.1) (0,0,0,0)).1=(List.getD σ.2.2.1.2.2.2 (Int.toNat σ.1) (0,0,0,0)).1)&&decide ((List.getD σ.2.2.1.2.2.2 (Int.toNat σ.2.1)
 (0,0,0,0)).2.1=(List.getD σ.2.2.1.2.2.2 (Int.toNat σ.1) (0,0,0,0)).2.1)&&decide ((List.getD σ.2.2.1.2.2.2 (Int.toNat σ.2.1) (0,0,0,
 0)).2.2.1=(List.getD σ.2.2.1.2.2.2 (Int.toNat σ.1) (0,0,0,0)).2.2.1)&&decide ((List.getD σ.2.2.1.2.2.2 (Int.toNat σ.2.1) (0,0,0,0)).2.2.2≠
 (List.getD σ.2.2.1.2.2.2 (Int.toNat σ.1) (0,0,0,0)).2.2.2))=true then M.bind (M.bind (M.bind (M.bind (M.pure 71) fun r=>M.pure (Step.done r))
 fun r=>M.pure (Step.done r)) fun r=>M.pure (Step.done r)) fun r=>M.pure (Step.done r) else M.pure (Step.next (σ.1,IntKind.wrap .i64 (Add.add
 σ.2.1 1),σ.2.2.1,())))) else M.bind (M.pure (Step.next (σ.1,σ.2.2.1,()))) fun r=>M.pure (Step.done r)) (σ.1,0,σ.2.1,())) (Step.go fun (σ :
 Int×Wsh×Unit)=>M.pure (Step.next (IntKind.wrap .i64 (Add.add σ.1 1),σ.2.1,()))) else M.bind (M.pure (Step.next ())) fun r=>M.pure
 (Step.done r)) (0,x,())) (Step.go fun (σ:Unit)=>M.pure 0)
def S_ref07_CanBe (c_ref07_FitsAt:Wsh×Int×Int×Int×Int→M Bool) (c_ref07_Within:Int×Int×Int→M Bool) (x:Wsh×Int×Int):M Bool:=
 M.bind (M.loop (fun (σ:Int×Int×Int×Wsh×Unit)=>if decide (σ.2.2.1<Int.ofNat (List.length σ.2.2.2.1.2.2.2))=true then M.req (0≤
 σ.2.2.1∧σ.2.2.1<Int.ofNat (List.length σ.2.2.2.1.2.2.2)) (M.req (decide ((List.getD σ.2.2.2.1.2.2.2 (Int.toNat σ.2.2.1) (0,0,0,0)).1=σ.1)=
 true→decide ((List.getD σ.2.2.2.1.2.2.2 (Int.toNat σ.2.2.1) (0,0,0,0)).1=σ.1)=true∧True∧True) (M.req (decide ((List.getD σ.2.2.2.1.2.2.2
 (Int.toNat σ.2.2.1) (0,0,0,0)).1=σ.1)=true→decide ((List.getD σ.2.2.2.1.2.2.2 (Int.toNat σ.2.2.1) (0,0,0,0)).1=σ.1)=true∧True∧
 True) (M.req (decide ((List.getD σ.2.2.2.1.2.2.2 (Int.toNat σ.2.2.1) (0,0,0,0)).1=σ.1)=true→(decide ((List.getD σ.2.2.2.1.2.2.2 (Int.toNat
 σ.2.2.1) (0,0,0,0)).1=σ.1)=true∧decide ((List.getD σ.2.2.2.1.2.2.2 (Int.toNat σ.2.2.1) (0,0,0,0)).1=σ.1)=true∧decide ((List.getD
 σ.2.2.2.1.2.2.2 (Int.toNat σ.2.2.1) (0,0,0,0)).1=σ.1)=true∧decide ((List.getD σ.2.2.2.1.2.2.2 (Int.toNat σ.2.2.1) (0,0,0,0)).1=σ.1)=
 true∧decide ((List.getD σ.2.2.2.1.2.2.2 (Int.toNat σ.2.2.1) (0,0,0,0)).1=σ.1)=true∧True)∧(c_ref07_FitsAt (σ.2.2.2.1,σ.1,σ.2.1,
 (List.getD σ.2.2.2.1.2.2.2 (Int.toNat σ.2.2.1) (0,0,0,0)).2.1,(List.getD σ.2.2.2.1.2.2.2 (Int.toNat σ.2.2.1) (0,0,0,0)).2.2.1)).safe∧True)
 (M.req (decide ((List.getD σ.2.2.2.1.2.2.2 (Int.toNat σ.2.2.1) (0,0,0,0)).1=σ.1)=true→decide ((List.getD σ.2.2.2.1.2.2.2 (Int.toNat σ.2.2.1)
 (0,0,0,0)).1=σ.1)=true∧True∧True) (M.req (decide ((List.getD σ.2.2.2.1.2.2.2 (Int.toNat σ.2.2.1) (0,0,0,0)).1=σ.1)=true→(decide
 ((List.getD σ.2.2.2.1.2.2.2 (Int.toNat σ.2.2.1) (0,0,0,0)).1=σ.1)=true∧True)∧True∧True) (M.req (decide ((List.getD σ.2.2.2.1.2.2.2
 (Int.toNat σ.2.2.1) (0,0,0,0)).1=σ.1)=true→(decide ((List.getD σ.2.2.2.1.2.2.2 (Int.toNat σ.2.2.1) (0,0,0,0)).1=σ.1)=true∧decide
 ((List.getD σ.2.2.2.1.2.2.2 (Int.toNat σ.2.2.1) (0,0,0,0)).1=σ.1)=true)∧True∧True) (M.req (True∧(decide ((List.getD σ.2.2.2.1.2.2.2
 (Int.toNat σ.2.2.1) (0,0,0,0)).1=σ.1)=true→decide ((List.getD σ.2.2.2.1.2.2.2 (Int.toNat σ.2.2.1) (0,0,0,0)).1=σ.1)=true)) (if
 (decide ((List.getD σ.2.2.2.1.2.2.2 (Int.toNat σ.2.2.1) (0,0,0,0)).1=σ.1)&&!decide (M.val (c_ref07_FitsAt (σ.2.2.2.1,σ.1,σ.2.1,(List.getD
 σ.2.2.2.1.2.2.2 (Int.toNat σ.2.2.1) (0,0,0,0)).2.1,(List.getD σ.2.2.2.1.2.2.2 (Int.toNat σ.2.2.1) (0,0,0,0)).2.2.1)) false=decide
 ((List.getD σ.2.2.2.1.2.2.2 (Int.toNat σ.2.2.1) (0,0,0,0)).2.2.2=1)))=true then M.bind (M.bind (M.pure false) fun r=>M.pure (Step.done r))
 fun r=>M.pure (Step.done r) else M.pure (Step.next (σ.1,σ.2.1,IntKind.wrap .i64 (Add.add σ.2.2.1 1),σ.2.2.2.1,())))))))))) else M.bind (M.pure
 (Step.next (σ.1,σ.2.1,σ.2.2.2.1,()))) fun r=>M.pure (Step.done r)) (x.2.1,x.2.2,0,x.1,())) (Step.go fun (σ:Int×Int×Wsh×Unit)=>
 M.req (0≤σ.1∧σ.1<Int.ofNat (List.length σ.2.2.1.1)) (M.req (0≤σ.1∧σ.1<Int.ofNat (List.length σ.2.2.1.1)) (M.req (c_ref07_Within (σ.2.1,
 (List.getD σ.2.2.1.1 (Int.toNat σ.1) (0,0,0,0)).2.2)).safe (M.pure (M.val (c_ref07_Within (σ.2.1,(List.getD σ.2.2.1.1 (Int.toNat σ.1) (0,0,0,
 0)).2.2)) false)))))
def S_ref07_FitsAt (c_ref07_In:List Int×Int→M Bool) (c_ref07_Within:Int×Int×Int→M Bool) (x:Wsh×Int×Int×Int×Int):M Bool:=
 M.req (0≤x.2.1∧x.2.1<Int.ofNat (List.length x.1.1)) (M.req (0≤x.2.2.2.1∧x.2.2.2.1<Int.ofNat (List.length x.1.2.1)) (M.req (0≤x.2.2.2.2
 ∧x.2.2.2.2<Int.ofNat (List.length (List.getD x.1.2.1 (Int.toNat x.2.2.2.1) []))) (M.bind (gdo (decide ((List.getD x.1.1 (Int.toNat x.2.1) (0,0,
 0,0)).1=(List.getD (List.getD x.1.2.1 (Int.toNat x.2.2.2.1) []) (Int.toNat x.2.2.2.2) (0,[],0,0)).1)) (c_ref07_In ((List.getD (List.getD
 x.1.2.1 (Int.toNat x.2.2.2.1) []) (Int.toNat x.2.2.2.2) (0,[],0,0)).2.1,(List.getD x.1.1 (Int.toNat x.2.1) (0,0,0,0)).2.1)) false) fun y=>
 M.bind (gdo (decide ((List.getD x.1.1 (Int.toNat x.2.1) (0,0,0,0)).1=(List.getD (List.getD x.1.2.1 (Int.toNat x.2.2.2.1) []) (Int.toNat
 x.2.2.2.2) (0,[],0,0)).1)&&y) (c_ref07_Within (x.2.2.1,(List.getD (List.getD x.1.2.1 (Int.toNat x.2.2.2.1) []) (Int.toNat x.2.2.2.2) (0,[],0,
 0)).2.2.1,IntKind.wrap .i64 (Add.add (List.getD (List.getD x.1.2.1 (Int.toNat x.2.2.2.1) []) (Int.toNat x.2.2.2.2) (0,[],0,0)).2.2.2 x.1.2.2.1)))
 false) fun y_1=>M.pure (decide ((List.getD x.1.1 (Int.toNat x.2.1) (0,0,0,0)).1=(List.getD (List.getD x.1.2.1 (Int.toNat x.2.2.2.1) [])
 (Int.toNat x.2.2.2.2) (0,[],0,0)).1)&&y&&y_1))))
def S_ref07_Ascending  (x:List Int):M Bool:=
 M.bind (M.loop (fun (σ:List Int×Int×Unit)=>if decide (σ.2.1<Int.ofNat (List.length σ.1))=true then M.req (0≤σ.2.1∧σ.2.1<Int.ofNat
 (List.length σ.1)) (M.req (0≤IntKind.wrap .i64 (σ.2.1 - 1)∧IntKind.wrap .i64 (σ.2.1 - 1)<Int.ofNat (List.length σ.1)) (if decide (List.getD σ.1
 (Int.toNat σ.2.1) 0≤List.getD σ.1 (Int.toNat (IntKind.wrap .i64 (σ.2.1 - 1))) 0)=true then M.bind (M.bind (M.pure false) fun r=>M.pure
 (Step.done r)) fun r=>M.pure (Step.done r) else M.pure (Step.next (σ.1,IntKind.wrap .i64 (Add.add σ.2.1 1),())))) else M.bind (M.pure (Step.next
 ())) fun r=>M.pure (Step.done r)) (x,1,())) (Step.go fun (σ:Unit)=>M.pure true)
def S_ref07_Known (c_ref07_known:Wsh×Bool→M Int) (x:List (Int×Int×Int×Int)×List (List (Int×List Int×Int×Int))×Int×List (Int×Int×Int×Int)):M Int:=
 M.bind (c_ref07_known (x,true)) fun y=>M.pure y
def S_ref07_Within  (x:Int×Int×Int):M Bool:=
 M.pure (decide (x.1≥x.2.1)&&decide (x.1≤x.2.2))
def S_ref07_IsMake (c_ref07_Within:Int×Int×Int→M Bool) (x:Wsh×Int):M Bool:=
 M.bind (c_ref07_Within (x.2,0,IntKind.wrap .i64 (Int.ofNat (List.length x.1.2.1) - 1))) fun y=>M.pure y
def S_ref07_isWorkshop (c_ref07_IsSpare:Wsh×Int→M Bool) (c_ref07_IsSlotOf:Wsh×Int×Int→M Bool) (c_ref07_Within:Int×Int×Int→M Bool) (c_ref07_isLength:Int×Int→M Bool) (c_ref07_isSlot:Int×List Int×Int×Int→M Bool) (x:List (Int×Int×Int×Int)×List (List (Int×List Int×Int×Int))×Int×List (Int×Int×Int×Int)):M Bool:=
 M.bind (gdo (!(decide (Int.ofNat (List.length x.1) > 10)||decide (Int.ofNat (List.length x.2.1) > 6))) (c_ref07_Within (x.2.2.1,0,99)) false) fun y
 =>if (decide (Int.ofNat (List.length x.1) > 10)||decide (Int.ofNat (List.length x.2.1) > 6)||!y||decide (Int.ofNat (List.length x.2.2.2) >
 30))=true then M.pure false else M.bind (M.loop (fun (σ:Int×Wsh×Unit)=>if decide (σ.1<Int.ofNat (List.length σ.2.1.1))=true then M.req
 (0≤σ.1∧σ.1<Int.ofNat (List.length σ.2.1.1)) (M.bind (c_ref07_Within ((List.getD σ.2.1.1 (Int.toNat σ.1) (0,0,0,0)).1,0,9)) fun y=>M.bind
 (gdo (!!y) (c_ref07_Within ((List.getD σ.2.1.1 (Int.toNat σ.1) (0,0,0,0)).2.1,0,9)) false) fun y_1=>M.bind (gdo (!(!y||!y_1))
 (c_ref07_isLength (List.getD σ.2.1.1 (Int.toNat σ.1) (0,0,0,0)).2.2) false) fun y_2=>if (!y||!y_1||!y_2)=true then M.bind (M.bind (M.pure
 false) fun r=>M.pure (Step.done r)) fun r=>M.pure (Step.done r) else M.pure (Step.next (IntKind.wrap .i64 (Add.add σ.1 1),σ.2.1,()))) else
 M.bind (M.pure (Step.next (σ.2.1,()))) fun r=>M.pure (Step.done r)) (0,x,())) (Step.go fun (σ:Wsh×Unit)=>M.bind (M.loop (fun (σ:Int×
 Wsh×Unit)=>if decide (σ.1<Int.ofNat (List.length σ.2.1.2.1))=true then M.bind (M.req (0≤σ.1∧σ.1<Int.ofNat (List.length σ.2.1.2.1)) (if
 decide (Int.ofNat (List.length (List.getD σ.2.1.2.1 (Int.toNat σ.1) [])) > 4)=true then M.bind (M.bind (M.bind (M.pure false) fun r=>M.pure
 (Step.done r)) fun r=>M.pure (Step.done r)) fun r=>M.pure (Step.done r) else M.loop (fun (σ:Int×Int×Wsh×Unit)=>M.req (0≤σ.1∧σ.1 <
 Int.ofNat (List.length σ.2.2.1.2.1)) (if decide (σ.2.1<Int.ofNat (List.length (List.getD σ.2.2.1.2.1 (Int.toNat σ.1) [])))=true then M.req (0≤
 σ.1∧σ.1<Int.ofNat (List.length σ.2.2.1.2.1)) (M.req (0≤σ.2.1∧σ.2.1<Int.ofNat (List.length (List.getD σ.2.2.1.2.1 (Int.toNat σ.1) [])))
 (M.bind (c_ref07_isSlot (List.getD (List.getD σ.2.2.1.2.1 (Int.toNat σ.1) []) (Int.toNat σ.2.1) (0,[],0,0))) fun y=>if (!y)=true then M.bind
 (M.bind (M.bind (M.bind (M.pure false) fun r=>M.pure (Step.done r)) fun r=>M.pure (Step.done r)) fun r=>M.pure (Step.done r)) fun r=>M.pure
 (Step.done r) else M.pure (Step.next (σ.1,IntKind.wrap .i64 (Add.add σ.2.1 1),σ.2.2.1,())))) else M.bind (M.pure (Step.next (σ.1,σ.2.2.1,())))
 fun r=>M.pure (Step.done r))) (σ.1,0,σ.2.1,()))) (Step.go fun (σ:Int×Wsh×Unit)=>M.pure (Step.next (IntKind.wrap .i64 (Add.add σ.1 1),
 σ.2.1,()))) else M.bind (M.pure (Step.next (σ.2.1,()))) fun r=>M.pure (Step.done r)) (0,σ.1,())) (Step.go fun (σ:Wsh×Unit)=>M.bind
 (M.loop (fun (σ:Int×Wsh×Unit)=>if decide (σ.1<Int.ofNat (List.length σ.2.1.2.2.2))=true then M.req (0≤σ.1∧σ.1<Int.ofNat
 (List.length σ.2.1.2.2.2)) (M.bind (c_ref07_IsSpare (σ.2.1,(List.getD σ.2.1.2.2.2 (Int.toNat σ.1) (0,0,0,0)).1)) fun y=>M.bind (gdo (!!y)
 (c_ref07_IsSlotOf (σ.2.1,(List.getD σ.2.1.2.2.2 (Int.toNat σ.1) (0,0,0,0)).2.1,(List.getD σ.2.1.2.2.2 (Int.toNat σ.1) (0,0,0,0)).2.2.1))
 false) fun y_1=>M.bind (gdo (!(!y||!y_1)) (c_ref07_Within ((List.getD σ.2.1.2.2.2 (Int.toNat σ.1) (0,0,0,0)).2.2.2,0,1)) false) fun y_2=>
 if (!y||!y_1||!y_2)=true then M.bind (M.bind (M.pure false) fun r=>M.pure (Step.done r)) fun r=>M.pure (Step.done r) else M.pure (Step.next
 (IntKind.wrap .i64 (Add.add σ.1 1),σ.2.1,()))) else M.bind (M.pure (Step.next ())) fun r=>M.pure (Step.done r)) (0,σ.1,())) (Step.go fun (σ :
 Unit)=>M.pure true)))
def S_ref07_known (c_ref07_Check:List (Int×Int×Int×Int)×List (List (Int×List Int×Int×Int))×Int×List (Int×Int×Int×Int)→M Int) (c_ref07_all:Wsh×Int→M (List Int)) (x:Wsh×Bool):M Int:=
 M.bind (c_ref07_Check x.1) fun y=>if decide (y≠0)=true then M.pure y else if (!x.2)=true then M.pure 1 else M.bind (M.loop (fun (σ:Int×
 Wsh×Unit)=>if decide (σ.1<Int.ofNat (List.length σ.2.1.1))=true then M.bind (c_ref07_all (σ.2.1,σ.1)) fun y=>if decide (Int.ofNat
 (List.length y)=0)=true then M.bind (M.bind (M.pure 3) fun r=>M.pure (Step.done r)) fun r=>M.pure (Step.done r) else M.pure (Step.next
 (IntKind.wrap .i64 (Add.add σ.1 1),σ.2.1,())) else M.bind (M.pure (Step.next ())) fun r=>M.pure (Step.done r)) (0,x.1,())) (Step.go fun (σ :
 Unit)=>M.pure 0)
def S_ref07_all (c_ref07_CanBe:Wsh×Int×Int→M Bool) (x:Wsh×Int):M (List Int):=
 M.bind (M.req (0≤x.2∧x.2<Int.ofNat (List.length x.1.1)) (M.loop (fun (σ:Int×Int×Wsh×List Int×Unit)=>M.req (0≤σ.1∧σ.1 <
 Int.ofNat (List.length σ.2.2.1.1)) (if decide (σ.2.1≤(List.getD σ.2.2.1.1 (Int.toNat σ.1) (0,0,0,0)).2.2.2)=true then M.bind (M.bind
 (c_ref07_CanBe (σ.2.2.1,σ.1,σ.2.1)) fun y=>if y=true then M.req (lenLe (Add.add (List.length σ.2.2.2.1) (Add.add 0 1))) (M.pure (Step.next
 (σ.1,σ.2.1,σ.2.2.1,σ.2.2.2.1++[σ.2.1],()))) else M.pure (Step.next (σ.1,σ.2.1,σ.2.2.1,σ.2.2.2.1,()))) (Step.go fun (σ:Int×Int×Wsh×
 List Int×Unit)=>M.pure (Step.next (σ.1,IntKind.wrap .i64 (Add.add σ.2.1 1),σ.2.2.1,σ.2.2.2.1,()))) else M.bind (M.pure (Step.next (σ.2.2.2.1,
 ()))) fun r=>M.pure (Step.done r))) (x.2,(List.getD x.1.1 (Int.toNat x.2) (0,0,0,0)).2.2.1,x.1,[],()))) (Step.go fun (σ:List Int×Unit)
 =>M.pure σ.1)
def S_ref07_isLength (c_ref07_Within:Int×Int×Int→M Bool) (x:Int×Int):M Bool:=
 M.bind (c_ref07_Within (x.1,0,x.2)) fun y=>M.pure (y&&decide (x.2≤999))
def S_ref07_isSlot (c_ref07_Ascending:List Int→M Bool) (c_ref07_Within:Int×Int×Int→M Bool) (c_ref07_isLength:Int×Int→M Bool) (x:Int×List Int×Int×Int):M Bool:=
 M.bind (M.loop (fun (σ:Int×(Int×List Int×Int×Int)×Unit)=>if decide (σ.1<Int.ofNat (List.length σ.2.1.2.1))=true then M.req (0≤σ.1
 ∧σ.1<Int.ofNat (List.length σ.2.1.2.1)) (M.bind (c_ref07_Within (List.getD σ.2.1.2.1 (Int.toNat σ.1) 0,0,9)) fun y=>if (!y)=true then M.bind
 (M.bind (M.pure false) fun r=>M.pure (Step.done r)) fun r=>M.pure (Step.done r) else M.pure (Step.next (IntKind.wrap .i64 (Add.add σ.1 1),σ.2.1,
 ()))) else M.bind (M.pure (Step.next (σ.2.1,()))) fun r=>M.pure (Step.done r)) (0,x,())) (Step.go fun (σ:(Int×List Int×Int×Int)×Unit)
 =>M.bind (c_ref07_Within (σ.1.1,0,9)) fun y=>M.bind (gdo (y&&decide (Int.ofNat (List.length σ.1.2.1)≤4)) (c_ref07_Ascending σ.1.2.1) false)
 fun y_1=>M.bind (gdo (y&&decide (Int.ofNat (List.length σ.1.2.1)≤4)&&y_1) (c_ref07_isLength σ.1.2.2) false) fun y_2=>M.pure (y&&decide
 (Int.ofNat (List.length σ.1.2.1)≤4)&&y_1&&y_2))
def S_slices_ContainsFunc_int_int (c_slices_IndexFunc_int_int:List Int×(Int→M Bool)→M Int) (x:List Int×(Int→M Bool)):M Bool:=
 M.bind (c_slices_IndexFunc_int_int x) fun y=>M.pure (decide (y≥0))
def S_math_bits_Mul (c_math_bits_Mul32:Int×Int→M (Int×Int)) (c_math_bits_Mul64:Int×Int→M (Int×Int)) (x:Int×Int):M (Int×Int):=
 M.bind (c_math_bits_Mul64 x) fun y=>M.pure y
def S_slices_ContainsFunc_api_Slot_api_Slot (c_slices_IndexFunc_api_Slot_api_Slot:List (Int×List Int×Int×Int)×(Int×List Int×Int×Int→M Bool)→M Int) (x:List (Int×List Int×Int×Int)×(Int×List Int×Int×Int→M Bool)):M Bool:=
 M.bind (c_slices_IndexFunc_api_Slot_api_Slot x) fun y=>M.pure (decide (y≥0))
def S_slices_ContainsFunc_api_Spare_api_Spare (c_slices_IndexFunc_api_Spare_api_Spare:List (Int×Int×Int×Int)×(Int×Int×Int×Int→M Bool)→M Int) (x:List (Int×Int×Int×Int)×(Int×Int×Int×Int→M Bool)):M Bool:=
 M.bind (c_slices_IndexFunc_api_Spare_api_Spare x) fun y=>M.pure (decide (y≥0))
def S_slices_ContainsFunc_api_Make_api_Make (c_slices_IndexFunc_api_Make_api_Make:List (List (Int×List Int×Int×Int))×(List (Int×List Int×Int×Int)→M Bool)→M Int) (x:List (List (Int×List Int×Int×Int))×(List (Int×List Int×Int×Int)→M Bool)):M Bool:=
 M.bind (c_slices_IndexFunc_api_Make_api_Make x) fun y=>M.pure (decide (y≥0))
def S_slices_ContainsFunc_api_Trial_api_Trial (c_slices_IndexFunc_api_Trial_api_Trial:List (Int×Int×Int×Int)×(Int×Int×Int×Int→M Bool)→M Int) (x:List (Int×Int×Int×Int)×(Int×Int×Int×Int→M Bool)):M Bool:=
 M.bind (c_slices_IndexFunc_api_Trial_api_Trial x) fun y=>M.pure (decide (y≥0))
def S_slices_Contains_int_int (c_slices_Index_int_int:List Int×Int→M Int) (x:List Int×Int):M Bool:=
 M.bind (c_slices_Index_int_int x) fun y=>M.pure (decide (y≥0))
def S_slices_IndexFunc_int_int  (x:List Int×(Int→M Bool)):M Int:=
 M.bind (M.loop (fun (σ:List Int×(Int→M Bool)×Int×Int×Unit)=>if decide (σ.2.2.2.1<σ.2.2.1)=true then M.req (0≤σ.2.2.2.1∧
 σ.2.2.2.1<Int.ofNat (List.length σ.1)) (M.bind (σ.2.1 (List.getD σ.1 (Int.toNat σ.2.2.2.1) 0)) fun y=>if y=true then M.bind (M.bind (M.pure
 σ.2.2.2.1) fun r=>M.pure (Step.done r)) fun r=>M.pure (Step.done r) else M.pure (Step.next (σ.1,σ.2.1,σ.2.2.1,IntKind.wrap .i64 (Add.add
 σ.2.2.2.1 1),()))) else M.bind (M.pure (Step.next ())) fun r=>M.pure (Step.done r)) (x.1,x.2,Int.ofNat (List.length x.1),0,())) (Step.go fun (σ
 : Unit)=>M.pure (-1))
def S_math_bits_Mul64  (x:Int×Int):M (Int×Int):=
 M.req ((0:Int)≤32) (M.req ((0:Int)≤32) (M.req ((0:Int)≤32) (M.req ((0:Int)≤32) (M.req ((0:Int)≤32) (M.pure (IntKind.wrap .u64
 (Add.add (IntKind.wrap .u64 (Add.add (IntKind.wrap .u64 (ishr .u64 x.1 32*ishr .u64 x.2 32)) (ishr .u64 (IntKind.wrap .u64 (Add.add (IntKind.wrap
 .u64 (ishr .u64 x.1 32*iand .u64 x.2 4294967295)) (ishr .u64 (IntKind.wrap .u64 (iand .u64 x.1 4294967295*iand .u64 x.2 4294967295)) 32))) 32)))
 (ishr .u64 (IntKind.wrap .u64 (Add.add (iand .u64 (IntKind.wrap .u64 (Add.add (IntKind.wrap .u64 (ishr .u64 x.1 32*iand .u64 x.2 4294967295)) (ishr
 .u64 (IntKind.wrap .u64 (iand .u64 x.1 4294967295*iand .u64 x.2 4294967295)) 32))) 4294967295) (IntKind.wrap .u64 (iand .u64 x.1 4294967295*ishr
 .u64 x.2 32)))) 32)),IntKind.wrap .u64 (x.1*x.2)))))))
def S_slices_IndexFunc_api_Slot_api_Slot  (x:List (Int×List Int×Int×Int)×(Int×List Int×Int×Int→M Bool)):M Int:=
 M.bind (M.loop (fun (σ:List (Int×List Int×Int×Int)×(Int×List Int×Int×Int→M Bool)×Int×Int×Unit)=>if decide (σ.2.2.2.1 <
 σ.2.2.1)=true then M.req (0≤σ.2.2.2.1∧σ.2.2.2.1<Int.ofNat (List.length σ.1)) (M.bind (σ.2.1 (List.getD σ.1 (Int.toNat σ.2.2.2.1) (0,[],0,
 0))) fun y=>if y=true then M.bind (M.bind (M.pure σ.2.2.2.1) fun r=>M.pure (Step.done r)) fun r=>M.pure (Step.done r) else M.pure (Step.next
 (σ.1,σ.2.1,σ.2.2.1,IntKind.wrap .i64 (Add.add σ.2.2.2.1 1),()))) else M.bind (M.pure (Step.next ())) fun r=>M.pure (Step.done r)) (x.1,x.2,
 Int.ofNat (List.length x.1),0,())) (Step.go fun (σ:Unit)=>M.pure (-1))
def S_slices_IndexFunc_api_Spare_api_Spare  (x:List (Int×Int×Int×Int)×(Int×Int×Int×Int→M Bool)):M Int:=
 M.bind (M.loop (fun (σ:List (Int×Int×Int×Int)×(Int×Int×Int×Int→M Bool)×Int×Int×Unit)=>if decide (σ.2.2.2.1<σ.2.2.1)=
 true then M.req (0≤σ.2.2.2.1∧σ.2.2.2.1<Int.ofNat (List.length σ.1)) (M.bind (σ.2.1 (List.getD σ.1 (Int.toNat σ.2.2.2.1) (0,0,0,0))) fun y=>
 if y=true then M.bind (M.bind (M.pure σ.2.2.2.1) fun r=>M.pure (Step.done r)) fun r=>M.pure (Step.done r) else M.pure (Step.next (σ.1,σ.2.1,
 σ.2.2.1,IntKind.wrap .i64 (Add.add σ.2.2.2.1 1),()))) else M.bind (M.pure (Step.next ())) fun r=>M.pure (Step.done r)) (x.1,x.2,Int.ofNat
 (List.length x.1),0,())) (Step.go fun (σ:Unit)=>M.pure (-1))
def S_slices_IndexFunc_api_Make_api_Make  (x:List (List (Int×List Int×Int×Int))×(List (Int×List Int×Int×Int)→M Bool)):M Int:=
 M.bind (M.loop (fun (σ:List (List (Int×List Int×Int×Int))×(List (Int×List Int×Int×Int)→M Bool)×Int×Int×Unit)=>if decide
 (σ.2.2.2.1<σ.2.2.1)=true then M.req (0≤σ.2.2.2.1∧σ.2.2.2.1<Int.ofNat (List.length σ.1)) (M.bind (σ.2.1 (List.getD σ.1 (Int.toNat σ.2.2.2.1)
 [])) fun y=>if y=true then M.bind (M.bind (M.pure σ.2.2.2.1) fun r=>M.pure (Step.done r)) fun r=>M.pure (Step.done r) else M.pure (Step.next
 (σ.1,σ.2.1,σ.2.2.1,IntKind.wrap .i64 (Add.add σ.2.2.2.1 1),()))) else M.bind (M.pure (Step.next ())) fun r=>M.pure (Step.done r)) (x.1,x.2,
 Int.ofNat (List.length x.1),0,())) (Step.go fun (σ:Unit)=>M.pure (-1))
def S_slices_IndexFunc_api_Trial_api_Trial  (x:List (Int×Int×Int×Int)×(Int×Int×Int×Int→M Bool)):M Int:=
 M.bind (M.loop (fun (σ:List (Int×Int×Int×Int)×(Int×Int×Int×Int→M Bool)×Int×Int×Unit)=>if decide (σ.2.2.2.1<σ.2.2.1)=
 true then M.req (0≤σ.2.2.2.1∧σ.2.2.2.1<Int.ofNat (List.length σ.1)) (M.bind (σ.2.1 (List.getD σ.1 (Int.toNat σ.2.2.2.1) (0,0,0,0))) fun y=>
 if y=true then M.bind (M.bind (M.pure σ.2.2.2.1) fun r=>M.pure (Step.done r)) fun r=>M.pure (Step.done r) else M.pure (Step.next (σ.1,σ.2.1,
 σ.2.2.1,IntKind.wrap .i64 (Add.add σ.2.2.2.1 1),()))) else M.bind (M.pure (Step.next ())) fun r=>M.pure (Step.done r)) (x.1,x.2,Int.ofNat
 (List.length x.1),0,())) (Step.go fun (σ:Unit)=>M.pure (-1))
def S_slices_Index_int_int  (x:List Int×Int):M Int:=
 M.bind (M.loop (fun (σ:List Int×Int×Int×Int×Unit)=>if decide (σ.2.2.2.1<σ.2.2.1)=true then M.req (0≤σ.2.2.2.1∧σ.2.2.2.1 <
 Int.ofNat (List.length σ.1)) (if decide (σ.2.1=List.getD σ.1 (Int.toNat σ.2.2.2.1) 0)=true then M.bind (M.bind (M.pure σ.2.2.2.1) fun r=>M.pure
 (Step.done r)) fun r=>M.pure (Step.done r) else M.pure (Step.next (σ.1,σ.2.1,σ.2.2.1,IntKind.wrap .i64 (Add.add σ.2.2.2.1 1),()))) else M.bind
 (M.pure (Step.next ())) fun r=>M.pure (Step.done r)) (x.1,x.2,Int.ofNat (List.length x.1),0,())) (Step.go fun (σ:Unit)=>M.pure (-1))
end Go.Fer
namespace Go.Fer
open M (Step)
set_option linter.unusedVariables false
def S_parts_Check (c_parts_isWorkshop:List (Int×Int×Int×Int)×List (List (Int×List Int×Int×Int))×Int×List (Int×Int×Int×Int)→M Bool) (x:List (Int×Int×Int×Int)×List (List (Int×List Int×Int×Int))×Int×List (Int×Int×Int×Int)):M Int:=
 M.bind (c_parts_isWorkshop x) fun y=>if (!y)=true then M.pure 70 else M.bind (M.loop (fun (σ:List (Int×Int×Int×Int)×Int×Int×List
 ((Int×Int×Int)×Int)×Unit)=>if decide (σ.2.2.1<σ.2.1)=true then M.req (0≤σ.2.2.1∧σ.2.2.1<Int.ofNat (List.length σ.1)) (if
 (Option.isSome (Option.map (fun x=>x.2) (List.find? (fun p=>decide ((List.getD σ.1 (Int.toNat σ.2.2.1) (0,0,0,0)).1=p.1.1)&&(decide
 ((List.getD σ.1 (Int.toNat σ.2.2.1) (0,0,0,0)).2.1=p.1.2.1)&&decide ((List.getD σ.1 (Int.toNat σ.2.2.1) (0,0,0,0)).2.2.1=p.1.2.2)))
 σ.2.2.2.1))&&decide (Option.getD (Option.map (fun x=>x.2) (List.find? (fun p=>decide ((List.getD σ.1 (Int.toNat σ.2.2.1) (0,0,0,0)).1=
 p.1.1)&&(decide ((List.getD σ.1 (Int.toNat σ.2.2.1) (0,0,0,0)).2.1=p.1.2.1)&&decide ((List.getD σ.1 (Int.toNat σ.2.2.1) (0,0,0,0)).2.2.1
 =p.1.2.2))) σ.2.2.2.1)) 0≠(List.getD σ.1 (Int.toNat σ.2.2.1) (0,0,0,0)).2.2.2))=true then M.bind (M.bind (M.pure 71) fun r=>M.pure
 (Step.done r)) fun r=>M.pure (Step.done r) else M.pure (Step.next (σ.1,σ.2.1,IntKind.wrap .i64 (Add.add σ.2.2.1 1),msetT σ.2.2.2.1 ((List.getD
 σ.1 (Int.toNat σ.2.2.1) (0,0,0,0)).1,(List.getD σ.1 (Int.toNat σ.2.2.1) (0,0,0,0)).2.1,(List.getD σ.1 (Int.toNat σ.2.2.1) (0,0,0,
 0)).2.2.1) (List.getD σ.1 (Int.toNat σ.2.2.1) (0,0,0,0)).2.2.2,()))) else M.bind (M.pure (Step.next ())) fun r=>M.pure (Step.done r)) (x.2.2.2,
 Int.ofNat (List.length x.2.2.2),0,[],())) (Step.go fun (σ:Unit)=>M.pure 0)
def S_parts_Length (c_parts_open:Wsh×Bool→M (Option Shp×Int)) (c_parts_isSpare:Wsh×Int→M Bool) (x:Wsh×Int):M ((Int×Int)×Int):=
 M.req (c_parts_isSpare x).safe (M.req (c_parts_open (x.1,M.val (c_parts_isSpare x) false)).safe (if decide ((M.val (c_parts_open (x.1,M.val
 (c_parts_isSpare x) false)) (none,0)).2≠0)=true then M.pure ((0,0),(M.val (c_parts_open (x.1,M.val (c_parts_isSpare x) false)) (none,0)).2)
 else M.req (Option.isSome (M.val (c_parts_open (x.1,M.val (c_parts_isSpare x) false)) (none,0)).1=true) (M.req (0≤x.2∧x.2<Int.ofNat
 (List.length (Option.getD (M.val (c_parts_open (x.1,M.val (c_parts_isSpare x) false)) (none,0)).1 (([],[],0,[]),[])).2)) (M.req ((0:Int)≤0
 ∧0<Int.ofNat (List.length (List.getD (Option.getD (M.val (c_parts_open (x.1,M.val (c_parts_isSpare x) false)) (none,0)).1 (([],[],0,[]),
 [])).2 (Int.toNat x.2) []))) (M.req (0≤IntKind.wrap .i64 (Int.ofNat (List.length (List.getD (Option.getD (M.val (c_parts_open (x.1,M.val
 (c_parts_isSpare x) false)) (none,0)).1 (([],[],0,[]),[])).2 (Int.toNat x.2) [])) - 1)∧IntKind.wrap .i64 (Int.ofNat (List.length (List.getD
 (Option.getD (M.val (c_parts_open (x.1,M.val (c_parts_isSpare x) false)) (none,0)).1 (([],[],0,[]),[])).2 (Int.toNat x.2) [])) - 1)<Int.ofNat
 (List.length (List.getD (Option.getD (M.val (c_parts_open (x.1,M.val (c_parts_isSpare x) false)) (none,0)).1 (([],[],0,[]),[])).2 (Int.toNat
 x.2) []))) (M.pure ((List.getD (List.getD (Option.getD (M.val (c_parts_open (x.1,M.val (c_parts_isSpare x) false)) (none,0)).1 (([],[],0,[]),
 [])).2 (Int.toNat x.2) []) (Int.toNat 0) 0,List.getD (List.getD (Option.getD (M.val (c_parts_open (x.1,M.val (c_parts_isSpare x) false)) (none,
 0)).1 (([],[],0,[]),[])).2 (Int.toNat x.2) []) (Int.toNat (IntKind.wrap .i64 (Int.ofNat (List.length (List.getD (Option.getD (M.val (c_parts_open
 (x.1,M.val (c_parts_isSpare x) false)) (none,0)).1 (([],[],0,[]),[])).2 (Int.toNat x.2) [])) - 1))) 0),0)))))))
def S_parts_Fits (c_parts_open:Wsh×Bool→M (Option Shp×Int)) (c_parts_isSpare:Wsh×Int→M Bool) (c_parts_isSlot:Wsh×Int×Int→M Bool) (c_parts_shop_fits:Option Shp×Int×Int×Int→M Int) (x:Wsh×Int×Int×Int):M (Int×Int):=
 M.req (c_parts_isSpare (x.1,x.2.1)).safe (M.req (M.val (c_parts_isSpare (x.1,x.2.1)) false=true→(M.val (c_parts_isSpare (x.1,x.2.1)) false=
 true∧M.val (c_parts_isSpare (x.1,x.2.1)) false=true∧M.val (c_parts_isSpare (x.1,x.2.1)) false=true∧True)∧(c_parts_isSlot (x.1,
 x.2.2)).safe∧True) (M.req (True∧(M.val (c_parts_isSpare (x.1,x.2.1)) false=true→M.val (c_parts_isSpare (x.1,x.2.1)) false=true)) (M.req
 (c_parts_open (x.1,M.val (c_parts_isSpare (x.1,x.2.1)) false&&M.val (c_parts_isSlot (x.1,x.2.2)) false)).safe (if decide ((M.val (c_parts_open
 (x.1,M.val (c_parts_isSpare (x.1,x.2.1)) false&&M.val (c_parts_isSlot (x.1,x.2.2)) false)) (none,0)).2≠0)=true then M.pure (0,(M.val
 (c_parts_open (x.1,M.val (c_parts_isSpare (x.1,x.2.1)) false&&M.val (c_parts_isSlot (x.1,x.2.2)) false)) (none,0)).2) else M.bind
 (c_parts_shop_fits ((M.val (c_parts_open (x.1,M.val (c_parts_isSpare (x.1,x.2.1)) false&&M.val (c_parts_isSlot (x.1,x.2.2)) false)) (none,
 0)).1,x.2)) fun y=>M.pure (y,0)))))
def S_parts_isWorkshop (c_parts_within:Int×Int×Int→M Bool) (c_parts_all_api_Spare:List (Int×Int×Int×Int)×(Int×Int×Int×Int→M Bool)→M Bool) (c_parts_all_api_Make:List (List (Int×List Int×Int×Int))×(List (Int×List Int×Int×Int)→M Bool)→M Bool) (c_parts_all_api_Trial:List (Int×Int×Int×Int)×(Int×Int×Int×Int→M Bool)→M Bool) (c_parts_isWorkshop_c3:List (Int×List Int×Int×Int)×Option (Int×List Int×Int×Int→M Bool)→M Bool) (c_parts_isWorkshop_c4:(Int×Int×Int×Int)×Option Wsh→M Bool) (c_parts_isWorkshop_c1:Int×Int×Int×Int→M Bool) (c_parts_isWorkshop_c2:Int×List Int×Int×Int→M Bool) (x:List (Int×Int×Int×Int)×List (List (Int×List Int×Int×Int))×Int×List (Int×Int×Int×Int)):M Bool:=
 M.bind (gdo (decide (Int.ofNat (List.length x.1)≤10)) (c_parts_all_api_Spare (x.1,c_parts_isWorkshop_c1)) false) fun y=>M.bind (gdo (decide
 (Int.ofNat (List.length x.1)≤10)&&y&&decide (Int.ofNat (List.length x.2.1)≤6)) (c_parts_all_api_Make (x.2.1,fun x=>c_parts_isWorkshop_c3
 (x,some c_parts_isWorkshop_c2))) false) fun y_1=>M.bind (gdo (decide (Int.ofNat (List.length x.1)≤10)&&y&&decide (Int.ofNat (List.length
 x.2.1)≤6)&&y_1) (c_parts_within (x.2.2.1,0,99)) false) fun y_2=>M.bind (gdo (decide (Int.ofNat (List.length x.1)≤10)&&y&&decide
 (Int.ofNat (List.length x.2.1)≤6)&&y_1&&y_2&&decide (Int.ofNat (List.length x.2.2.2)≤30)) (c_parts_all_api_Trial (x.2.2.2,fun x_1=>
 c_parts_isWorkshop_c4 (x_1,some x))) false) fun y_3=>M.pure (decide (Int.ofNat (List.length x.1)≤10)&&y&&decide (Int.ofNat (List.length
 x.2.1)≤6)&&y_1&&y_2&&decide (Int.ofNat (List.length x.2.2.2)≤30)&&y_3)
def S_parts_open (c_parts_Check:List (Int×Int×Int×Int)×List (List (Int×List Int×Int×Int))×Int×List (Int×Int×Int×Int)→M Int) (c_parts_all_api_Trial:List (Int×Int×Int×Int)×(Int×Int×Int×Int→M Bool)→M Bool) (c_parts_open_c1:(Int×Int×Int×Int)×Option Int×Option Wsh×Option Int→M Bool) (x:Wsh×Bool):M (Option Shp×Int):=
 M.bind (c_parts_Check x.1) fun y=>if decide (y≠0)=true then M.pure (none,y) else if (!x.2)=true then M.pure (none,1) else M.bind (M.loop
 (fun (σ:List (Int×Int×Int×Int)×Int×Int×Wsh×List (Int×Int×Int×Int)×List (List (Int×List Int×Int×Int))×Int×List (Int
 ×Int×Int×Int)×List (List Int)×Unit)=>if decide (σ.2.2.1<σ.2.1)=true then M.bind (M.req (0≤σ.2.2.1∧σ.2.2.1<Int.ofNat (List.length
 σ.1)) (M.bind (M.loop (fun (σ:List (Int×Int×Int×Int)×Int×Int×Wsh×Int×(Int×Int×Int×Int)×List Int×Int×List (Int×Int×
 Int×Int)×List (List (Int×List Int×Int×Int))×Int×List (Int×Int×Int×Int)×List (List Int)×Unit)=>if decide (σ.2.2.2.2.2.2.2.1
 ≤σ.2.2.2.2.2.1.2.2.2)=true then M.bind (M.bind (c_parts_all_api_Trial (σ.2.2.2.1.2.2.2,fun x=>c_parts_open_c1 (x,some σ.2.2.2.2.1,some
 σ.2.2.2.1,some σ.2.2.2.2.2.2.2.1))) fun y=>if y=true then M.req (lenLe (Add.add (List.length σ.2.2.2.2.2.2.1) (Add.add 0 1))) (M.pure (Step.next
 (σ.1,σ.2.1,σ.2.2.1,σ.2.2.2.1,σ.2.2.2.2.1,σ.2.2.2.2.2.1,σ.2.2.2.2.2.2.1++[σ.2.2.2.2.2.2.2.1],σ.2.2.2.2.2.2.2.1,σ.2.2.2.2.2.2.2.2.1,
 σ.2.2.2.2.2.2.2.2.2.1,σ.2.2.2.2.2.2.2.2.2.2.1,σ.2.2.2.2.2.2.2.2.2.2.2.1,σ.2.2.2.2.2.2.2.2.2.2.2.2.1,()))) else M.pure (Step.next (σ.1,σ.2.1,
 σ.2.2.1,σ.2.2.2.1,σ.2.2.2.2.1,σ.2.2.2.2.2.1,σ.2.2.2.2.2.2.1,σ.2.2.2.2.2.2.2.1,σ.2.2.2.2.2.2.2.2.1,σ.2.2.2.2.2.2.2.2.2.1,
 σ.2.2.2.2.2.2.2.2.2.2.1,σ.2.2.2.2.2.2.2.2.2.2.2.1,σ.2.2.2.2.2.2.2.2.2.2.2.2.1,()))) (Step.go fun (σ:List (Int×Int×Int×Int)×Int×Int×
 Wsh×Int×(Int×Int×Int×Int)×List Int×Int×List (Int×Int×Int×Int)×List (List (Int×List Int×Int×Int))×Int×List (Int×
 Int×Int×Int)×List (List Int)×Unit)=>M.pure (Step.next (σ.1,σ.2.1,σ.2.2.1,σ.2.2.2.1,σ.2.2.2.2.1,σ.2.2.2.2.2.1,σ.2.2.2.2.2.2.1,
 IntKind.wrap .i64 (Add.add σ.2.2.2.2.2.2.2.1 1),σ.2.2.2.2.2.2.2.2.1,σ.2.2.2.2.2.2.2.2.2.1,σ.2.2.2.2.2.2.2.2.2.2.1,σ.2.2.2.2.2.2.2.2.2.2.2.1,
 σ.2.2.2.2.2.2.2.2.2.2.2.2.1,()))) else M.bind (M.pure (Step.next (σ.1,σ.2.1,σ.2.2.1,σ.2.2.2.1,σ.2.2.2.2.2.2.1,σ.2.2.2.2.2.2.2.2.1,
 σ.2.2.2.2.2.2.2.2.2.1,σ.2.2.2.2.2.2.2.2.2.2.1,σ.2.2.2.2.2.2.2.2.2.2.2.1,σ.2.2.2.2.2.2.2.2.2.2.2.2.1,()))) fun r=>M.pure (Step.done r)) (σ.1,
 σ.2.1,σ.2.2.1,σ.2.2.2.1,σ.2.2.1,List.getD σ.1 (Int.toNat σ.2.2.1) (0,0,0,0),[],(List.getD σ.1 (Int.toNat σ.2.2.1) (0,0,0,0)).2.2.1,
 σ.2.2.2.2.1,σ.2.2.2.2.2.1,σ.2.2.2.2.2.2.1,σ.2.2.2.2.2.2.2.1,σ.2.2.2.2.2.2.2.2.1,())) (Step.go fun (σ:List (Int×Int×Int×Int)×Int×Int
 ×Wsh×List Int×List (Int×Int×Int×Int)×List (List (Int×List Int×Int×Int))×Int×List (Int×Int×Int×Int)×List (List Int)×
 Unit)=>if decide (Int.ofNat (List.length σ.2.2.2.2.1)=0)=true then M.bind (M.bind (M.bind (M.pure (none,3)) fun r=>M.pure (Step.done r)) fun r
 =>M.pure (Step.done r)) fun r=>M.pure (Step.done r) else M.req True (M.req (lenLe (Add.add (List.length σ.2.2.2.2.2.2.2.2.2.1) (Add.add 0 1)))
 (M.req True (M.pure (Step.next (σ.1,σ.2.1,σ.2.2.1,σ.2.2.2.1,σ.2.2.2.2.2.1,σ.2.2.2.2.2.2.1,σ.2.2.2.2.2.2.2.1,σ.2.2.2.2.2.2.2.2.1,
 σ.2.2.2.2.2.2.2.2.2.1++[σ.2.2.2.2.1],())))))))) (Step.go fun (σ:List (Int×Int×Int×Int)×Int×Int×Wsh×List (Int×Int×Int×Int)×
 List (List (Int×List Int×Int×Int))×Int×List (Int×Int×Int×Int)×List (List Int)×Unit)=>M.pure (Step.next (σ.1,σ.2.1,
 IntKind.wrap .i64 (Add.add σ.2.2.1 1),σ.2.2.2.1,σ.2.2.2.2.1,σ.2.2.2.2.2.1,σ.2.2.2.2.2.2.1,σ.2.2.2.2.2.2.2.1,σ.2.2.2.2.2.2.2.2.1,()))) else
 M.bind (M.pure (Step.next (σ.2.2.2.2.1,σ.2.2.2.2.2.1,σ.2.2.2.2.2.2.1,σ.2.2.2.2.2.2.2.1,σ.2.2.2.2.2.2.2.2.1,()))) fun r=>M.pure (Step.done r))
 (x.1.1,Int.ofNat (List.length x.1.1),0,x.1,x.1.1,x.1.2.1,x.1.2.2.1,x.1.2.2.2,[],())) (Step.go fun (σ:List (Int×Int×Int×Int)×List
 (List (Int×List Int×Int×Int))×Int×List (Int×Int×Int×Int)×List (List Int)×Unit)=>M.pure (some ((σ.1,σ.2.1,σ.2.2.1,σ.2.2.2.1),
 σ.2.2.2.2.1),0))
def S_parts_isSpare (c_parts_within:Int×Int×Int→M Bool) (x:Wsh×Int):M Bool:=
 M.bind (c_parts_within (x.2,0,IntKind.wrap .i64 (Int.ofNat (List.length x.1.1) - 1))) fun y=>M.pure y
def S_parts_isSlot (c_parts_within:Int×Int×Int→M Bool) (x:Wsh×Int×Int):M Bool:=
 M.bind (c_parts_within (x.2.1,0,IntKind.wrap .i64 (Int.ofNat (List.length x.1.2.1) - 1))) fun y=>M.req (y=true→(y=true∧y=true)∧(0≤
 x.2.1∧x.2.1<Int.ofNat (List.length x.1.2.1))∧True) (M.bind (gdo y (c_parts_within (x.2.2,0,IntKind.wrap .i64 (Int.ofNat (List.length
 (List.getD x.1.2.1 (Int.toNat x.2.1) [])) - 1))) false) fun y_1=>M.pure (y&&y_1))
def S_parts_shop_fits (c_parts_fits:Wsh×Int×Int×Int×Int→M Bool) (c_parts_known:Int×Int→M Int) (x:Option Shp×Int×Int×Int):M Int:=
 M.bind (M.req (Option.isSome x.1=true) (M.req (0≤x.2.1∧x.2.1<Int.ofNat (List.length (Option.getD x.1 (([],[],0,[]),[])).2)) (M.loop (fun (σ
 : Option Shp×Int×Int×Int×Int×List Int×Int×Int×Unit)=>if decide (σ.2.2.2.2.2.2.2.1<σ.2.2.2.2.2.2.1)=true then M.bind (M.req (0≤
 σ.2.2.2.2.2.2.2.1∧σ.2.2.2.2.2.2.2.1<Int.ofNat (List.length σ.2.2.2.2.2.1)) (M.req (Option.isSome σ.1=true) (M.bind (c_parts_fits ((Option.getD
 σ.1 (([],[],0,[]),[])).1,σ.2.1,List.getD σ.2.2.2.2.2.1 (Int.toNat σ.2.2.2.2.2.2.2.1) 0,σ.2.2.1,σ.2.2.2.1)) fun y=>if y=true then M.pure
 (Step.next (σ.1,σ.2.1,σ.2.2.1,σ.2.2.2.1,IntKind.wrap .i64 (Add.add σ.2.2.2.2.1 1),σ.2.2.2.2.2.1,σ.2.2.2.2.2.2.1,σ.2.2.2.2.2.2.2.1,())) else
 M.pure (Step.next (σ.1,σ.2.1,σ.2.2.1,σ.2.2.2.1,σ.2.2.2.2.1,σ.2.2.2.2.2.1,σ.2.2.2.2.2.2.1,σ.2.2.2.2.2.2.2.1,()))))) (Step.go fun (σ:Option
 Shp×Int×Int×Int×Int×List Int×Int×Int×Unit)=>M.pure (Step.next (σ.1,σ.2.1,σ.2.2.1,σ.2.2.2.1,σ.2.2.2.2.1,σ.2.2.2.2.2.1,
 σ.2.2.2.2.2.2.1,IntKind.wrap .i64 (Add.add σ.2.2.2.2.2.2.2.1 1),()))) else M.bind (M.pure (Step.next (σ.1,σ.2.1,σ.2.2.2.2.1,()))) fun r=>
 M.pure (Step.done r)) (x.1,x.2.1,x.2.2.1,x.2.2.2,0,List.getD (Option.getD x.1 (([],[],0,[]),[])).2 (Int.toNat x.2.1) [],Int.ofNat
 (List.length (List.getD (Option.getD x.1 (([],[],0,[]),[])).2 (Int.toNat x.2.1) [])),0,())))) (Step.go fun (σ:Option Shp×Int×Int×Unit)
 =>M.req (Option.isSome σ.1=true) (M.req (0≤σ.2.1∧σ.2.1<Int.ofNat (List.length (Option.getD σ.1 (([],[],0,[]),[])).2)) (M.bind
 (c_parts_known (σ.2.2.1,Int.ofNat (List.length (List.getD (Option.getD σ.1 (([],[],0,[]),[])).2 (Int.toNat σ.2.1) [])))) fun y=>M.pure y)))
def S_parts_ascending  (x:List Int):M Bool:=
 M.bind (M.loop (fun (σ:List Int×Int×Unit)=>if decide (σ.2.1<Int.ofNat (List.length σ.1))=true then M.req (0≤σ.2.1∧σ.2.1<Int.ofNat
 (List.length σ.1)) (M.req (0≤IntKind.wrap .i64 (σ.2.1 - 1)∧IntKind.wrap .i64 (σ.2.1 - 1)<Int.ofNat (List.length σ.1)) (if decide (List.getD σ.1
 (Int.toNat σ.2.1) 0≤List.getD σ.1 (Int.toNat (IntKind.wrap .i64 (σ.2.1 - 1))) 0)=true then M.bind (M.bind (M.pure false) fun r=>M.pure
 (Step.done r)) fun r=>M.pure (Step.done r) else M.pure (Step.next (σ.1,IntKind.wrap .i64 (Add.add σ.2.1 1),())))) else M.bind (M.pure (Step.next
 ())) fun r=>M.pure (Step.done r)) (x,1,())) (Step.go fun (σ:Unit)=>M.pure true)
def S_parts_all_int (c_slices_ContainsFunc_int_int:List Int×(Int→M Bool)→M Bool) (c_parts_all_int__c1:Int×Option (Int→M Bool)→M Bool) (x:List Int×(Int→M Bool)):M Bool:=
 M.bind (c_slices_ContainsFunc_int_int (x.1,fun x_1=>c_parts_all_int__c1 (x_1,some x.2))) fun y=>M.pure !y
def S_parts_within  (x:Int×Int×Int):M Bool:=
 M.pure (decide (x.2.1≤x.1)&&decide (x.1≤x.2.2))
def S_parts_isWorkshop_c1 (c_parts_isMark:Int→M Bool) (c_parts_isLength:Int×Int→M Bool) (x:Int×Int×Int×Int):M Bool:=
 M.bind (c_parts_isMark x.1) fun y=>M.bind (gdo y (c_parts_isMark x.2.1) false) fun y_1=>M.bind (gdo (y&&y_1) (c_parts_isLength x.2.2) false)
 fun y_2=>M.pure (y&&y_1&&y_2)
def S_parts_isMark (c_parts_within:Int×Int×Int→M Bool) (x:Int):M Bool:=
 M.bind (c_parts_within (x,0,9)) fun y=>M.pure y
def S_parts_isLength (c_parts_within:Int×Int×Int→M Bool) (x:Int×Int):M Bool:=
 M.bind (c_parts_within (x.1,0,x.2)) fun y=>M.pure (y&&decide (x.2≤999))
def S_parts_isWorkshop_c2 (c_parts_ascending:List Int→M Bool) (c_parts_all_int:List Int×(Int→M Bool)→M Bool) (c_parts_isMark:Int→M Bool) (c_parts_isLength:Int×Int→M Bool) (x:Int×List Int×Int×Int):M Bool:=
 M.bind (c_parts_isMark x.1) fun y=>M.bind (gdo (y&&decide (Int.ofNat (List.length x.2.1)≤4)) (c_parts_all_int (x.2.1,c_parts_isMark)) false)
 fun y_1=>M.bind (gdo (y&&decide (Int.ofNat (List.length x.2.1)≤4)&&y_1) (c_parts_ascending x.2.1) false) fun y_2=>M.bind (gdo (y&&decide
 (Int.ofNat (List.length x.2.1)≤4)&&y_1&&y_2) (c_parts_isLength x.2.2) false) fun y_3=>M.pure (y&&decide (Int.ofNat (List.length x.2.1)≤4)
 &&y_1&&y_2&&y_3)
def S_parts_isWorkshop_c3 (c_parts_all_api_Slot:List (Int×List Int×Int×Int)×(Int×List Int×Int×Int→M Bool)→M Bool) (x:List (Int×List Int×Int×Int)×Option (Int×List Int×Int×Int→M Bool)):M Bool:=
  (M.bind (gdo (decide (Int.ofNat (List.length x.1) ≤ 4)) (c_parts_all_api_Slot (x.1, Option.getD x.2 fun x => { safe := False, out := fun x => False
  })) false) fun y=>M.pure (decide (Int.ofNat (List.length x.1)≤4)&&y))
def S_parts_all_api_Slot (c_slices_ContainsFunc_api_Slot_api_Slot:List (Int×List Int×Int×Int)×(Int×List Int×Int×Int→M Bool)→M Bool) (c_parts_all_api_Slot__c1:(Int×List Int×Int×Int)×Option (Int×List Int×Int×Int→M Bool)→M Bool) (x:List (Int×List Int×Int×Int)×(Int×List Int×Int×Int→M Bool)):M Bool:=
 M.bind (c_slices_ContainsFunc_api_Slot_api_Slot (x.1,fun x_1=>c_parts_all_api_Slot__c1 (x_1,some x.2))) fun y=>M.pure !y
def S_parts_isWorkshop_c4 (c_parts_isSpare:Wsh×Int→M Bool) (c_parts_isSlot:Wsh×Int×Int→M Bool) (c_parts_within:Int×Int×Int→M Bool) (x:(Int×Int×Int×Int)×Option Wsh):M Bool:=
 (M.bind (c_parts_isSpare (Option.getD x.2 ([],[],0,[]),x.1.1)) fun y=>M.bind (gdo y (c_parts_isSlot (Option.getD x.2 ([],[],0,[]),x.1.2.1,
 x.1.2.2.1)) false) fun y_1=>M.bind (gdo (y&&y_1) (c_parts_within (x.1.2.2.2,0,1)) false) fun y_2=>M.pure (y&&y_1&&y_2))
def S_parts_all_api_Spare (c_slices_ContainsFunc_api_Spare_api_Spare:List (Int×Int×Int×Int)×(Int×Int×Int×Int→M Bool)→M Bool) (c_parts_all_api_Spare__c1:(Int×Int×Int×Int)×Option (Int×Int×Int×Int→M Bool)→M Bool) (x:List (Int×Int×Int×Int)×(Int×Int×Int×Int→M Bool)):M Bool:=
 M.bind (c_slices_ContainsFunc_api_Spare_api_Spare (x.1,fun x_1=>c_parts_all_api_Spare__c1 (x_1,some x.2))) fun y=>M.pure !y
def S_parts_all_api_Make (c_slices_ContainsFunc_api_Make_api_Make:List (List (Int×List Int×Int×Int))×(List (Int×List Int×Int×Int)→M Bool)→M Bool) (c_parts_all_api_Make__c1:List (Int×List Int×Int×Int)×Option (List (Int×List Int×Int×Int)→M Bool)→M Bool) (x:List (List (Int×List Int×Int×Int))×(List (Int×List Int×Int×Int)→M Bool)):M Bool:=
 M.bind (c_slices_ContainsFunc_api_Make_api_Make (x.1,fun x_1=>c_parts_all_api_Make__c1 (x_1,some x.2))) fun y=>M.pure !y
def S_parts_all_api_Trial (c_slices_ContainsFunc_api_Trial_api_Trial:List (Int×Int×Int×Int)×(Int×Int×Int×Int→M Bool)→M Bool) (c_parts_all_api_Trial__c1:(Int×Int×Int×Int)×Option (Int×Int×Int×Int→M Bool)→M Bool) (x:List (Int×Int×Int×Int)×(Int×Int×Int×Int→M Bool)):M Bool:=
 M.bind (c_slices_ContainsFunc_api_Trial_api_Trial (x.1,fun x_1=>c_parts_all_api_Trial__c1 (x_1,some x.2))) fun y=>M.pure !y
def S_parts_open_c1 (c_parts_fits:Wsh×Int×Int×Int×Int→M Bool) (x:(Int×Int×Int×Int)×Option Int×Option Wsh×Option Int):M Bool:=
 (M.req ((!decide (x.1.1≠Option.getD x.2.1 0))=true→(!decide (x.1.1≠Option.getD x.2.1 0))=true∧True∧True) (M.req ((!decide (x.1.1≠
 Option.getD x.2.1 0))=true→(!decide (x.1.1≠Option.getD x.2.1 0))=true∧True∧True) (M.req ((!decide (x.1.1≠Option.getD x.2.1 0))=true→
 ((!decide (x.1.1≠Option.getD x.2.1 0))=true∧(!decide (x.1.1≠Option.getD x.2.1 0))=true∧(!decide (x.1.1≠Option.getD x.2.1 0))=true∧
 (!decide (x.1.1≠Option.getD x.2.1 0))=true∧(!decide (x.1.1≠Option.getD x.2.1 0))=true∧True)∧(c_parts_fits (Option.getD x.2.2.1 ([],[],
 0,[]),Option.getD x.2.1 0,Option.getD x.2.2.2 0,x.1.2.1,x.1.2.2.1)).safe∧True) (M.req ((!decide (x.1.1≠Option.getD x.2.1 0))=true→
 (!decide (x.1.1≠Option.getD x.2.1 0))=true∧True∧True) (M.req ((!decide (x.1.1≠Option.getD x.2.1 0))=true→((!decide (x.1.1≠Option.getD
 x.2.1 0))=true∧True)∧True∧True) (M.req ((!decide (x.1.1≠Option.getD x.2.1 0))=true→((!decide (x.1.1≠Option.getD x.2.1 0))=true∧
 (!decide (x.1.1≠Option.getD x.2.1 0))=true)∧True∧True) (M.req (True∧(decide (x.1.1≠Option.getD x.2.1 0)=false→(!decide (x.1.1≠
 Option.getD x.2.1 0))=true)) (M.pure (decide (x.1.1≠Option.getD x.2.1 0)||decide (M.val (c_parts_fits (Option.getD x.2.2.1 ([],[],0,[]),
 Option.getD x.2.1 0,Option.getD x.2.2.2 0,x.1.2.1,x.1.2.2.1)) false=decide (x.1.2.2.2=1)))))))))))
def S_parts_fits (c_parts_within:Int×Int×Int→M Bool) (c_slices_Contains_int_int:List Int×Int→M Bool) (x:Wsh×Int×Int×Int×Int):M Bool:=
 M.req (0≤x.2.1∧x.2.1<Int.ofNat (List.length x.1.1)) (M.req (0≤x.2.2.2.1∧x.2.2.2.1<Int.ofNat (List.length x.1.2.1)) (M.req (0≤x.2.2.2.2
 ∧x.2.2.2.2<Int.ofNat (List.length (List.getD x.1.2.1 (Int.toNat x.2.2.2.1) []))) (M.bind (gdo (decide ((List.getD x.1.1 (Int.toNat x.2.1) (0,0,
 0,0)).1=(List.getD (List.getD x.1.2.1 (Int.toNat x.2.2.2.1) []) (Int.toNat x.2.2.2.2) (0,[],0,0)).1)) (c_slices_Contains_int_int ((List.getD
 (List.getD x.1.2.1 (Int.toNat x.2.2.2.1) []) (Int.toNat x.2.2.2.2) (0,[],0,0)).2.1,(List.getD x.1.1 (Int.toNat x.2.1) (0,0,0,0)).2.1)) false)
 fun y=>M.bind (gdo (decide ((List.getD x.1.1 (Int.toNat x.2.1) (0,0,0,0)).1=(List.getD (List.getD x.1.2.1 (Int.toNat x.2.2.2.1) []) (Int.toNat
 x.2.2.2.2) (0,[],0,0)).1)&&y) (c_parts_within (x.2.2.1,(List.getD (List.getD x.1.2.1 (Int.toNat x.2.2.2.1) []) (Int.toNat x.2.2.2.2) (0,[],0,
 0)).2.2.1,IntKind.wrap .i64 (Add.add (List.getD (List.getD x.1.2.1 (Int.toNat x.2.2.2.1) []) (Int.toNat x.2.2.2.2) (0,[],0,0)).2.2.2 x.1.2.2.1)))
 false) fun y_1=>M.pure (decide ((List.getD x.1.1 (Int.toNat x.2.1) (0,0,0,0)).1=(List.getD (List.getD x.1.2.1 (Int.toNat x.2.2.2.1) [])
 (Int.toNat x.2.2.2.2) (0,[],0,0)).1)&&y&&y_1))))
def S_parts_known  (x:Int×Int):M Int:=
 if decide (x.1=x.2)=true then M.pure 1 else if decide (x.1=0)=true then M.pure 2 else M.pure 3
def S_parts_all_int__c1  (x:Int×Option (Int→M Bool)):M Bool:=
 (M.bind (Option.getD x.2 (fun x=>{ safe:=False,out:=fun x=>False }) x.1) fun y=>M.pure !y)
def S_parts_all_api_Slot__c1  (x:(Int×List Int×Int×Int)×Option (Int×List Int×Int×Int→M Bool)):M Bool:=
 (M.bind (Option.getD x.2 (fun x=>{ safe:=False,out:=fun x=>False }) x.1) fun y=>M.pure !y)
def S_parts_all_api_Spare__c1  (x:(Int×Int×Int×Int)×Option (Int×Int×Int×Int→M Bool)):M Bool:=
 (M.bind (Option.getD x.2 (fun x=>{ safe:=False,out:=fun x=>False }) x.1) fun y=>M.pure !y)
def S_parts_all_api_Make__c1  (x:List (Int×List Int×Int×Int)×Option (List (Int×List Int×Int×Int)→M Bool)):M Bool:=
 (M.bind (Option.getD x.2 (fun x=>{ safe:=False,out:=fun x=>False }) x.1) fun y=>M.pure !y)
def S_parts_all_api_Trial__c1  (x:(Int×Int×Int×Int)×Option (Int×Int×Int×Int→M Bool)):M Bool:=
 (M.bind (Option.getD x.2 (fun x=>{ safe:=False,out:=fun x=>False }) x.1) fun y=>M.pure !y)
end Go.Fer
namespace Go.Fer
open M (Step)
set_option linter.unusedVariables false
def S_law07_sameInts  (x:List Int×List Int):M Bool:=
 if decide (Int.ofNat (List.length x.1)≠Int.ofNat (List.length x.2))=true then M.pure false else M.bind (M.loop (fun (σ:List Int×List Int×
 Int×Unit)=>if decide (σ.2.2.1<Int.ofNat (List.length σ.1))=true then M.req (0≤σ.2.2.1∧σ.2.2.1<Int.ofNat (List.length σ.1)) (M.req (0≤
 σ.2.2.1∧σ.2.2.1<Int.ofNat (List.length σ.2.1)) (if decide (List.getD σ.1 (Int.toNat σ.2.2.1) 0≠List.getD σ.2.1 (Int.toNat σ.2.2.1) 0)=true
 then M.bind (M.bind (M.pure false) fun r=>M.pure (Step.done r)) fun r=>M.pure (Step.done r) else M.pure (Step.next (σ.1,σ.2.1,IntKind.wrap .i64
 (Add.add σ.2.2.1 1),())))) else M.bind (M.pure (Step.next ())) fun r=>M.pure (Step.done r)) (x.1,x.2,0,())) (Step.go fun (σ:Unit)=>M.pure
 true)
def S_law07_Far (c_ref07_Check:List (Int×Int×Int×Int)×List (List (Int×List Int×Int×Int))×Int×List (Int×Int×Int×Int)→M Int) (x:List (Int×Int×Int×Int)×List (List (Int×List Int×Int×Int))×Int×List (Int×Int×Int×Int)):M Bool:=
 if (decide (Int.ofNat (List.length x.1) > 40)||decide (Int.ofNat (List.length x.2.1) > 40)||decide (Int.ofNat (List.length x.2.2.2) > 60))=true
 then M.pure true else M.bind (M.loop (fun (σ:Int×Wsh×Unit)=>if decide (σ.1<Int.ofNat (List.length σ.2.1.2.1))=true then M.bind (M.req (0
 ≤σ.1∧σ.1<Int.ofNat (List.length σ.2.1.2.1)) (if decide (Int.ofNat (List.length (List.getD σ.2.1.2.1 (Int.toNat σ.1) [])) > 20)=true then
 M.bind (M.bind (M.bind (M.pure true) fun r=>M.pure (Step.done r)) fun r=>M.pure (Step.done r)) fun r=>M.pure (Step.done r) else M.loop (fun (σ
 : Int×Int×Wsh×Unit)=>M.req (0≤σ.1∧σ.1<Int.ofNat (List.length σ.2.2.1.2.1)) (if decide (σ.2.1<Int.ofNat (List.length (List.getD
 σ.2.2.1.2.1 (Int.toNat σ.1) [])))=true then M.req (0≤σ.1∧σ.1<Int.ofNat (List.length σ.2.2.1.2.1)) (M.req (0≤σ.2.1∧σ.2.1<Int.ofNat
 (List.length (List.getD σ.2.2.1.2.1 (Int.toNat σ.1) []))) (if decide (Int.ofNat (List.length (List.getD (List.getD σ.2.2.1.2.1 (Int.toNat σ.1) [])
 (Int.toNat σ.2.1) (0,[],0,0)).2.1) > 20)=true then M.bind (M.bind (M.bind (M.bind (M.pure true) fun r=>M.pure (Step.done r)) fun r=>M.pure
 (Step.done r)) fun r=>M.pure (Step.done r)) fun r=>M.pure (Step.done r) else M.pure (Step.next (σ.1,IntKind.wrap .i64 (Add.add σ.2.1 1),
 σ.2.2.1,())))) else M.bind (M.pure (Step.next (σ.1,σ.2.2.1,()))) fun r=>M.pure (Step.done r))) (σ.1,0,σ.2.1,()))) (Step.go fun (σ:Int×Wsh
 ×Unit)=>M.pure (Step.next (IntKind.wrap .i64 (Add.add σ.1 1),σ.2.1,()))) else M.bind (M.pure (Step.next (σ.2.1,()))) fun r=>M.pure (Step.done
 r)) (0,x,())) (Step.go fun (σ:Wsh×Unit)=>M.bind (c_ref07_Check σ.1) fun y=>if decide (y≠0)=true then M.pure false else M.bind (M.loop
 (fun (σ:Int×Wsh×Unit)=>if decide (σ.1<Int.ofNat (List.length σ.2.1.1))=true then M.req (0≤σ.1∧σ.1<Int.ofNat (List.length σ.2.1.1))
 (M.req (0≤σ.1∧σ.1<Int.ofNat (List.length σ.2.1.1)) (if decide (IntKind.wrap .i64 ((List.getD σ.2.1.1 (Int.toNat σ.1) (0,0,0,0)).2.2.2 -
 (List.getD σ.2.1.1 (Int.toNat σ.1) (0,0,0,0)).2.2.1)≥50)=true then M.bind (M.bind (M.pure true) fun r=>M.pure (Step.done r)) fun r=>M.pure
 (Step.done r) else M.pure (Step.next (IntKind.wrap .i64 (Add.add σ.1 1),σ.2.1,())))) else M.bind (M.pure (Step.next (σ.2.1,()))) fun r=>M.pure
 (Step.done r)) (0,σ.1,())) (Step.go fun (σ:Wsh×Unit)=>M.pure (decide (Int.ofNat (List.length σ.1.1) > 6)||decide (Int.ofNat (List.length
 σ.1.2.1) > 4)||decide (Int.ofNat (List.length σ.1.2.2.2) > 10))))
def S_law07_Example  (x:Unit):M Wsh:=
 M.pure ([(1,2,300,310),(1,3,305,305),(2,1,50,60),(1,2,320,330)],[[(1,[2,3],300,306),(2,[1],40,58)],[(1,[2],310,326)]],5,
 [(0,1,0,0)])
end Go.Fer
namespace Go.Fer
open M (Step)
set_option linter.unusedVariables false
abbrev Pc:Type:=Int×Int×Int×Int×List Int
abbrev Wi:Type:=List Int×(Int×Int)×Int×Int×Int
abbrev De:Type:=Int×Int×Int
abbrev Shop:Type:=Wsh×List Int×List Pc×List Wi×List De×Int
abbrev Cop:Type:=List (Int×Int×Int×Int)×List (List (Int×List Int×Int×Int))×Int×List (Int×Int×Int×Int)×Int×List Int×List Pc×List Wi×List De×Unit
abbrev Sto:Type:=Shop×List (Int×Int)×List ((Int×Int×Int)×Int)
def S_ref08_Copy (c_ref07_Copy:List (Int×Int×Int×Int)×List (List (Int×List Int×Int×Int))×Int×List (Int×Int×Int×Int)→M Wsh) (x:Shop):M (Shop):=
 M.bind (c_ref07_Copy x.1) fun y=>M.req (lenLe (Add.add 0 (List.length x.2.1))) (M.req (lenLe (Add.add 0 (List.length x.2.2.1))) (M.req (lenLe
 (Add.add 0 (List.length x.2.2.2.1))) (M.req (lenLe (Add.add 0 (List.length x.2.2.2.2.1))) (M.bind (M.loop (fun (σ:Int×(Wsh×List Int×List (Int
 ×Int×Int×Int×List Int)×List Wi×List (Int×Int×Int)×Int)×Int×Int×List (Int×Int×Int×
 Int)×List (List (Int×List Int×Int×Int))×Int×List (Int×Int×Int×Int)×Int×List Int×List Pc×
 List Wi×List (Int×Int×Int)×Unit)=>if decide (σ.1<Int.ofNat (List.length σ.2.2.2.2.2.2.2.2.2.2.1))
 =true then M.req (0≤σ.1∧σ.1<Int.ofNat (List.length σ.2.1.2.2.1)) (M.req (lenLe (Add.add 0 (List.length (List.getD σ.2.1.2.2.1 (Int.toNat σ.1)
 (0,0,0,0,[])).2.2.2.2))) (M.req (0≤σ.1∧σ.1<Int.ofNat (List.length σ.2.2.2.2.2.2.2.2.2.2.1)) (M.pure (Step.next (IntKind.wrap .i64 (Add.add
 σ.1 1),σ.2.1,σ.2.2.1,σ.2.2.2.1,σ.2.2.2.2.1,σ.2.2.2.2.2.1,σ.2.2.2.2.2.2.1,σ.2.2.2.2.2.2.2.1,σ.2.2.2.2.2.2.2.2.1,σ.2.2.2.2.2.2.2.2.2.1,
 List.set σ.2.2.2.2.2.2.2.2.2.2.1 (Int.toNat σ.1) ((List.getD σ.2.2.2.2.2.2.2.2.2.2.1 (Int.toNat σ.1) (0,0,0,0,[])).1,(List.getD
 σ.2.2.2.2.2.2.2.2.2.2.1 (Int.toNat σ.1) (0,0,0,0,[])).2.1,(List.getD σ.2.2.2.2.2.2.2.2.2.2.1 (Int.toNat σ.1) (0,0,0,0,[])).2.2.1,(List.getD
 σ.2.2.2.2.2.2.2.2.2.2.1 (Int.toNat σ.1) (0,0,0,0,[])).2.2.2.1,[]++(List.getD σ.2.1.2.2.1 (Int.toNat σ.1) (0,0,0,0,[])).2.2.2.2),
 σ.2.2.2.2.2.2.2.2.2.2.2.1,σ.2.2.2.2.2.2.2.2.2.2.2.2.1,()))))) else M.bind (M.pure (Step.next (σ.2.1,σ.2.2.1,σ.2.2.2.1,σ.2.2.2.2.1,
 σ.2.2.2.2.2.1,σ.2.2.2.2.2.2.1,σ.2.2.2.2.2.2.2.1,σ.2.2.2.2.2.2.2.2.1,σ.2.2.2.2.2.2.2.2.2.1,σ.2.2.2.2.2.2.2.2.2.2.1,σ.2.2.2.2.2.2.2.2.2.2.2.1,
 σ.2.2.2.2.2.2.2.2.2.2.2.2.1,()))) fun r=>M.pure (Step.done r)) (0,x,0,0,y.1,y.2.1,y.2.2.1,y.2.2.2,x.2.2.2.2.2,[]++x.2.1,[]++x.2.2.1,
 []++x.2.2.2.1,[]++x.2.2.2.2.1,())) (Step.go fun (σ:(Wsh×List Int×List Pc×List (List Int×(Int×Int)×
 Int×Int×Int)×List (Int×Int×Int)×Int)×Int×Int×List (Int×Int×Int×Int)×List (List (Int×List Int×Int×Int))×Int×List
 (Int×Int×Int×Int)×Int×List Int×List Pc×List Wi×List (Int×
 Int×Int)×Unit)=>M.bind (M.loop (fun (σ:Int×(Wsh×List Int×List Pc×List (List Int×(Int×Int)×Int×
 Int×Int)×List (Int×Int×Int)×Int)×Int×Int×List (Int×Int×Int×Int)×List (List (Int×List Int×Int×Int))×Int×List (Int×
 Int×Int×Int)×Int×List Int×List Pc×List Wi×List (Int×Int×
 Int)×Unit)=>if decide (σ.1<Int.ofNat (List.length σ.2.2.2.2.2.2.2.2.2.2.2.1))=true then M.req (0≤σ.1∧σ.1<Int.ofNat (List.length
 σ.2.1.2.2.2.1)) (M.req (lenLe (Add.add 0 (List.length (List.getD σ.2.1.2.2.2.1 (Int.toNat σ.1) ([],(0,0),0,0,0)).1))) (M.req (0≤σ.1∧σ.1 <
 Int.ofNat (List.length σ.2.2.2.2.2.2.2.2.2.2.2.1)) (M.pure (Step.next (IntKind.wrap .i64 (Add.add σ.1 1),σ.2.1,σ.2.2.1,σ.2.2.2.1,σ.2.2.2.2.1,
 σ.2.2.2.2.2.1,σ.2.2.2.2.2.2.1,σ.2.2.2.2.2.2.2.1,σ.2.2.2.2.2.2.2.2.1,σ.2.2.2.2.2.2.2.2.2.1,σ.2.2.2.2.2.2.2.2.2.2.1,List.set
 σ.2.2.2.2.2.2.2.2.2.2.2.1 (Int.toNat σ.1) ([]++(List.getD σ.2.1.2.2.2.1 (Int.toNat σ.1) ([],(0,0),0,0,0)).1,(List.getD
 σ.2.2.2.2.2.2.2.2.2.2.2.1 (Int.toNat σ.1) ([],(0,0),0,0,0)).2),σ.2.2.2.2.2.2.2.2.2.2.2.2.1,()))))) else M.bind (M.pure (Step.next (σ.2.2.1,
 σ.2.2.2.1,σ.2.2.2.2.1,σ.2.2.2.2.2.1,σ.2.2.2.2.2.2.1,σ.2.2.2.2.2.2.2.1,σ.2.2.2.2.2.2.2.2.1,σ.2.2.2.2.2.2.2.2.2.1,σ.2.2.2.2.2.2.2.2.2.2.1,
 σ.2.2.2.2.2.2.2.2.2.2.2.1,σ.2.2.2.2.2.2.2.2.2.2.2.2.1,()))) fun r=>M.pure (Step.done r)) (0,σ.1,σ.2.1,σ.2.2.1,σ.2.2.2.1,σ.2.2.2.2.1,
 σ.2.2.2.2.2.1,σ.2.2.2.2.2.2.1,σ.2.2.2.2.2.2.2.1,σ.2.2.2.2.2.2.2.2.1,σ.2.2.2.2.2.2.2.2.2.1,σ.2.2.2.2.2.2.2.2.2.2.1,σ.2.2.2.2.2.2.2.2.2.2.2.1,
 ())) (Step.go fun (σ:Int×Int×List (Int×Int×Int×Int)×List (List (Int×List Int×Int×Int))×Int×List (Int×Int×Int×Int)×Int
 ×List Int×List Pc×List Wi×List (Int×Int×Int)×Unit)=>M.pure
 ((σ.2.2.1,σ.2.2.2.1,σ.2.2.2.2.1,σ.2.2.2.2.2.1),σ.2.2.2.2.2.2.2.1,σ.2.2.2.2.2.2.2.2.1,σ.2.2.2.2.2.2.2.2.2.1,σ.2.2.2.2.2.2.2.2.2.2.1,
 σ.2.2.2.2.2.2.1)))))))
def S_orders_Most (c_orders_most:Shop×Bool→M (Int×Int)) (x:Shop):M (Int×Int):=
 M.bind (c_orders_most (x,true)) fun y=>M.pure y
def S_orders_Extra (c_orders_open:Shop×Bool→M (Option Sto×Int)) (itpre_47:Option Sto→Prop) (itseq_47:Option Sto→List (List Int)) (c_orders_store_jobs:Option Sto×List Int→M (List (Int×Int×Int)×Bool)) (c_orders_store_can:Option Sto×List (Int×Int×Int)→M Bool) (c_orders_store_lacking:Option Sto×List (Int×Int×Int)→M Int) (x:Shop):M (Int×Int):=
 M.bind (c_orders_open (x,true)) fun y=>if decide (y.2≠0)=true then M.pure (0,y.2) else M.req (itpre_47 y.1) (M.bind (rounds (fun (σ:Option
 (Shop×List
 (Int×Int)×List ((Int×Int×Int)×Int))×Int×Unit) (y:List Int)=>M.bind (M.bind (c_orders_store_jobs (σ.1,y)) fun y_1=>M.bind (gdo
 (!!y_1.2) (c_orders_store_can (σ.1,y_1.1)) false) fun y_2=>if (!y_1.2||!y_2)=true then M.pure (Ex.normal,σ.1,σ.2.1,()) else M.bind
 (c_orders_store_lacking (σ.1,y_1.1)) fun y_3=>if (decide (σ.2.1=-1)||decide (y_3<σ.2.1))=true then M.pure (Ex.normal,σ.1,y_3,()) else
 M.pure (Ex.normal,σ.1,σ.2.1,())) fun p=>M.pure (p.1,p.2.1,p.2.2.1,())) (itseq_47 y.1) (y.1,-1,())) fun p=>exC (if decide (p.2.2.1=-1)=
 true then M.pure (0,3) else M.pure (p.2.2.1,0)) (fun id=>if id=0 then if decide (p.2.2.1=-1)=true then M.pure (0,3) else M.pure (p.2.2.1,
 0) else M.fail) M.fail p.1)
def S_orders_Can (c_orders_open:Shop×Bool→M (Option Sto×Int)) (c_orders_isWish:Shop×Int→M Bool) (c_slices_RepeatIO:List Int×Int×Unit→M (List Int×Unit)) (c_orders_store_filled:Option Sto×List Int→M Bool) (x:Shop×Int):M (List Int×Int):=
 M.req (c_orders_isWish x).safe (M.req (c_orders_open (x.1,M.val (c_orders_isWish x) false)).safe (if decide ((M.val (c_orders_open (x.1,M.val
 (c_orders_isWish x) false)) (none,0)).2≠0)=true then M.pure ([],(M.val (c_orders_open (x.1,M.val (c_orders_isWish x) false)) (none,0)).2)
 else M.bind (c_slices_RepeatIO ([-1],Int.ofNat (List.length x.1.2.2.2.1),())) fun y=>M.bind (M.loop (fun (σ:Int×Option ((Wsh×List Int×
 List Pc×List Wi×List (Int×Int×Int)×Int)×List (Int×Int)×List
 ((Int×Int×Int)×Int))×Int×Int×List Int×List Int×Unit)=>if decide (σ.2.2.2.1<σ.2.2.1)=true then M.bind (M.req (0≤σ.1∧σ.1 <
 Int.ofNat (List.length σ.2.2.2.2.2.1)) (M.bind (c_orders_store_filled (σ.2.1,List.set σ.2.2.2.2.2.1 (Int.toNat σ.1) σ.2.2.2.1)) fun y=>if y=true
 then M.req (lenLe (Add.add (List.length σ.2.2.2.2.1) (Add.add 0 1))) (M.pure (Step.next (σ.1,σ.2.1,σ.2.2.1,σ.2.2.2.1,σ.2.2.2.2.1++[σ.2.2.2.1],
 List.set σ.2.2.2.2.2.1 (Int.toNat σ.1) σ.2.2.2.1,()))) else M.pure (Step.next (σ.1,σ.2.1,σ.2.2.1,σ.2.2.2.1,σ.2.2.2.2.1,List.set σ.2.2.2.2.2.1
 (Int.toNat σ.1) σ.2.2.2.1,())))) (Step.go fun (σ:Int×Option ((Wsh×List Int×List Pc×List (List Int×(Int×
 Int)×Int×Int×Int)×List (Int×Int×Int)×Int)×List (Int×Int)×List ((Int×Int×Int)×Int))×Int×Int×List Int×List Int×
 Unit)=>M.pure (Step.next (σ.1,σ.2.1,σ.2.2.1,IntKind.wrap .i64 (Add.add σ.2.2.2.1 1),σ.2.2.2.2.1,σ.2.2.2.2.2.1,()))) else M.bind (M.pure
 (Step.next (σ.2.2.2.2.1,()))) fun r=>M.pure (Step.done r)) (x.2,(M.val (c_orders_open (x.1,M.val (c_orders_isWish x) false)) (none,0)).1,
 Int.ofNat (List.length x.1.2.2.1),0,[],y.1,())) (Step.go fun (σ:List Int×Unit)=>M.pure (σ.1,0))))
def S_orders_Without (c_orders_Check:Shop→M Int) (c_orders_most:Shop×Bool→M (Int×Int)) (c_orders_isDelivery:Shop×Int→M Bool) (c_slices_Delete:Int×Int×List (Int×Int×Int)×Unit→M ((Nat×Nat)×List (Int×Int×Int)×Unit)) (c_slices_Clone:List (Int×Int×Int)×Unit→M (List (Int×Int×Int)×Unit)) (x:Shop×Int):M (Int×Int):=
 M.bind (c_orders_isDelivery x) fun y=>M.bind (M.bind (gdo y (c_orders_Check x.1) 0) fun y_1=>if (y&&decide (y_1=0))=true then M.bind
 (c_slices_Clone (x.1.2.2.2.2.1,())) fun y_2=>M.bind (c_slices_Delete (x.2,IntKind.wrap .i64 (Add.add x.2 1),y_2.1,())) fun y_3=>M.pure
 (Step.next (y,x.1.1.1,x.1.1.2.1,x.1.1.2.2.1,x.1.1.2.2.2,x.1.2.1,x.1.2.2.1,x.1.2.2.2.1,List.drop y_3.1.1 (List.take y_3.1.2 y_3.2.1),
 x.1.2.2.2.2.2,())) else M.pure (Step.next (y,x.1.1.1,x.1.1.2.1,x.1.1.2.2.1,x.1.1.2.2.2,x.1.2.1,x.1.2.2.1,x.1.2.2.2.1,x.1.2.2.2.2.1,
 x.1.2.2.2.2.2,()))) (Step.go fun (σ:Bool×List (Int×Int×Int×Int)×List (List (Int×List Int×Int×Int))×Int×List (Int×Int×Int×
 Int)×List Int×List Pc×List Wi×List (Int×Int×Int)×Int×Unit)=>
 M.bind (c_orders_most (((σ.2.1,σ.2.2.1,σ.2.2.2.1,σ.2.2.2.2.1),σ.2.2.2.2.2.1,σ.2.2.2.2.2.2.1,σ.2.2.2.2.2.2.2.1,σ.2.2.2.2.2.2.2.2.1,
 σ.2.2.2.2.2.2.2.2.2.1),σ.1)) fun y=>M.pure y)
def S_ref08_Lost (c_ref08_Copy:Shop→M (Shop)) (x:Shop×Int):M (Shop):=
 M.bind (c_ref08_Copy x.1) fun y=>M.req ((0:Int)≤0∧0≤x.2∧x.2≤Int.ofNat (List.length x.1.2.2.2.2.1)) (M.req (lenLe (Add.add 0
 (List.length (List.take (Int.toNat x.2) x.1.2.2.2.2.1)))) (M.req (0≤IntKind.wrap .i64 (Add.add x.2 1)∧IntKind.wrap .i64 (Add.add x.2 1)≤
 Int.ofNat (List.length x.1.2.2.2.2.1)∧Int.ofNat (List.length x.1.2.2.2.2.1)≤Int.ofNat (List.length x.1.2.2.2.2.1)) (M.req (lenLe (Add.add
 (List.length ([]++List.take (Int.toNat x.2) x.1.2.2.2.2.1)) (List.length (List.drop (Int.toNat (IntKind.wrap .i64 (Add.add x.2 1))) (List.take
 (Int.toNat (Int.ofNat (List.length x.1.2.2.2.2.1))) x.1.2.2.2.2.1))))) (M.pure (y.1,y.2.1,y.2.2.1,y.2.2.2.1,[]++List.take (Int.toNat x.2)
 x.1.2.2.2.2.1++List.drop (Int.toNat (IntKind.wrap .i64 (Add.add x.2 1))) (List.take (Int.toNat (Int.ofNat (List.length x.1.2.2.2.2.1)))
 x.1.2.2.2.2.1),y.2.2.2.2.2)))))
def S_orders_Check (c_parts_Check:List (Int×Int×Int×Int)×List (List (Int×List Int×Int×Int))×Int×List (Int×Int×Int×Int)→M Int) (c_orders_isShop:Shop→M Bool) (x:Shop):M Int:=
 M.bind (c_parts_Check x.1) fun y=>if decide (y≠0)=true then M.pure y else M.bind (c_orders_isShop x) fun y=>if (!y)=true then M.pure 80
 else M.pure 0
def S_ref08_Check (c_ref07_Check:List (Int×Int×Int×Int)×List (List (Int×List Int×Int×Int))×Int×List (Int×Int×Int×Int)→M Int) (c_ref08_within:Int×Int×Int→M Bool) (c_ref08_isPiece:Shop×Int×Int×Int×Int×List Int→M Bool) (c_ref08_isWish:List Int×(Int×Int)×Int×Int×Int→M Bool) (x:Shop):M Int:=
 M.bind (c_ref07_Check x.1) fun y=>if decide (y≠0)=true then M.pure y else M.bind (gdo (!(decide (Int.ofNat (List.length x.2.1)≠Int.ofNat
 (List.length x.1.1))||decide (Int.ofNat (List.length x.2.2.1) > 8)||decide (Int.ofNat (List.length x.2.2.2.1) > 6)||decide (Int.ofNat
 (List.length x.2.2.2.2.1) > 8))) (c_ref08_within (x.2.2.2.2.2,0,99)) false) fun y=>if (decide (Int.ofNat (List.length x.2.1)≠Int.ofNat
 (List.length x.1.1))||decide (Int.ofNat (List.length x.2.2.1) > 8)||decide (Int.ofNat (List.length x.2.2.2.1) > 6)||decide (Int.ofNat
 (List.length x.2.2.2.2.1) > 8)||!y)=true then M.pure 80 else M.bind (M.loop (fun (σ:Int×(Wsh×List Int×List (Int×Int×Int×Int×List
 Int)×List Wi×List (Int×Int×Int)×Int)×Unit)=>if decide (σ.1<Int.ofNat (List.length σ.2.1.2.1))
 =true then M.req (0≤σ.1∧σ.1<Int.ofNat (List.length σ.2.1.2.1)) (M.bind (c_ref08_within (List.getD σ.2.1.2.1 (Int.toNat σ.1) 0,0,10)) fun y
 =>if (!y)=true then M.bind (M.bind (M.pure 80) fun r=>M.pure (Step.done r)) fun r=>M.pure (Step.done r) else M.pure (Step.next (IntKind.wrap
 .i64 (Add.add σ.1 1),σ.2.1,()))) else M.bind (M.pure (Step.next (σ.2.1,()))) fun r=>M.pure (Step.done r)) (0,x,())) (Step.go fun (σ:(Wsh×
 List Int×List Pc×List Wi×List (Int×Int×Int)×Int)×Unit)=>
 M.bind (M.loop (fun (σ:Int×(Wsh×List Int×List Pc×List Wi×List
 (Int×Int×Int)×Int)×Unit)=>if decide (σ.1<Int.ofNat (List.length σ.2.1.2.2.1))=true then M.req (0≤σ.1∧σ.1<Int.ofNat (List.length
 σ.2.1.2.2.1)) (M.req (c_ref08_isPiece (σ.2.1,List.getD σ.2.1.2.2.1 (Int.toNat σ.1) (0,0,0,0,[]))).safe (if (!M.val (c_ref08_isPiece (σ.2.1,
 List.getD σ.2.1.2.2.1 (Int.toNat σ.1) (0,0,0,0,[]))) false)=true then M.bind (M.bind (M.pure 80) fun r=>M.pure (Step.done r)) fun r=>M.pure
 (Step.done r) else M.pure (Step.next (IntKind.wrap .i64 (Add.add σ.1 1),σ.2.1,())))) else M.bind (M.pure (Step.next (σ.2.1,()))) fun r=>M.pure
 (Step.done r)) (0,σ.1,())) (Step.go fun (σ:(Wsh×List Int×List Pc×List (List Int×(Int×Int)×Int×Int×
 Int)×List (Int×Int×Int)×Int)×Unit)=>M.bind (M.loop (fun (σ:Int×(Wsh×List Int×List Pc×List (List
 Int×(Int×Int)×Int×Int×Int)×List (Int×Int×Int)×Int)×Unit)=>if decide (σ.1<Int.ofNat (List.length σ.2.1.2.2.2.1))=true then
 M.req (0≤σ.1∧σ.1<Int.ofNat (List.length σ.2.1.2.2.2.1)) (M.bind (c_ref08_isWish (List.getD σ.2.1.2.2.2.1 (Int.toNat σ.1) ([],(0,0),0,0,
 0))) fun y=>if (!y)=true then M.bind (M.bind (M.pure 80) fun r=>M.pure (Step.done r)) fun r=>M.pure (Step.done r) else M.pure (Step.next
 (IntKind.wrap .i64 (Add.add σ.1 1),σ.2.1,()))) else M.bind (M.pure (Step.next (σ.2.1,()))) fun r=>M.pure (Step.done r)) (0,σ.1,())) (Step.go
 fun (σ:(Shop)
 ×Unit)=>M.bind (M.loop (fun (σ:Int×(Wsh×List Int×List Pc×List Wi
 ×List (Int×Int×Int)×Int)×Unit)=>if decide (σ.1<Int.ofNat (List.length σ.2.1.2.2.2.2.1))=true then M.req (0≤σ.1∧σ.1<Int.ofNat
 (List.length σ.2.1.2.2.2.2.1)) (M.bind (c_ref08_within ((List.getD σ.2.1.2.2.2.2.1 (Int.toNat σ.1) (0,0,0)).1,0,99)) fun y=>M.bind (gdo (!!y)
 (c_ref08_within ((List.getD σ.2.1.2.2.2.2.1 (Int.toNat σ.1) (0,0,0)).2.1,0,IntKind.wrap .i64 (Int.ofNat (List.length σ.2.1.1.1) - 1))) false) fun y_1
 =>M.bind (gdo (!(!y||!y_1)) (c_ref08_within ((List.getD σ.2.1.2.2.2.2.1 (Int.toNat σ.1) (0,0,0)).2.2,1,10)) false) fun y_2=>if (!y||!y_1
 ||!y_2)=true then M.bind (M.bind (M.pure 80) fun r=>M.pure (Step.done r)) fun r=>M.pure (Step.done r) else M.pure (Step.next (IntKind.wrap
 .i64 (Add.add σ.1 1),σ.2.1,()))) else M.bind (M.pure (Step.next ())) fun r=>M.pure (Step.done r)) (0,σ.1,())) (Step.go fun (σ:Unit)=>M.pure
 0))))
def S_orders_Suits (c_orders_Check:Shop→M Int) (c_orders_isWish:Shop×Int→M Bool) (c_orders_isPiece:Shop×Int→M Bool) (c_orders_suits:(List Int×(Int×Int)×Int×Int×Int)×Int×Int×Int×Int×List Int→M Int) (x:Shop×Int×Int):M (Int×Int):=
 M.bind (c_orders_Check x.1) fun y=>if decide (y≠0)=true then M.pure (0,y) else M.bind (c_orders_isWish (x.1,x.2.1)) fun y=>M.bind (gdo
 (!!y) (c_orders_isPiece (x.1,x.2.2)) false) fun y_1=>if (!y||!y_1)=true then M.pure (0,1) else M.req (0≤x.2.1∧x.2.1<Int.ofNat
 (List.length x.1.2.2.2.1)) (M.req (0≤x.2.2∧x.2.2<Int.ofNat (List.length x.1.2.2.1)) (M.req (c_orders_suits (List.getD x.1.2.2.2.1 (Int.toNat
 x.2.1) ([],(0,0),0,0,0),List.getD x.1.2.2.1 (Int.toNat x.2.2) (0,0,0,0,[]))).safe (M.pure (M.val (c_orders_suits (List.getD x.1.2.2.2.1
 (Int.toNat x.2.1) ([],(0,0),0,0,0),List.getD x.1.2.2.1 (Int.toNat x.2.2) (0,0,0,0,[]))) 0,0))))
def S_ref08_Known (c_ref08_known:Shop×Bool→M Int) (x:Shop):M Int:=
 M.bind (c_ref08_known (x,true)) fun y=>M.pure y
def S_orders_most (c_orders_open:Shop×Bool→M (Option Sto×Int)) (c_orders_store_best:Option Sto→M (List Int)) (c_orders_store_takings:Option Sto×List Int→M Int) (x:Shop×Bool):M (Int×Int):=
 M.bind (c_orders_open x) fun y=>if decide (y.2≠0)=true then M.pure (0,y.2) else M.bind (c_orders_store_best y.1) fun y_1=>M.bind
 (c_orders_store_takings (y.1,y_1)) fun y=>M.pure (y,0)
def S_orders_open (c_orders_Check:Shop→M Int) (c_parts_Length:Wsh×Int→M ((Int×Int)×Int)) (c_parts_Fits:Wsh×Int×Int×Int→M (Int×Int)) (c_slices_Repeat_orders_spare_orders_spare:List (Int×Int)×Int→M (List (Int×Int))) (x:Shop×Bool):M (Option Sto×Int):=
 M.bind (c_orders_Check x.1) fun y=>if decide (y≠0)=true then M.pure (none,y) else if (!x.2)=true then M.pure (none,1) else M.bind (if
 decide (Int.ofNat (List.length x.1.2.1) > 0)=true then M.bind (c_parts_Length (x.1.1,0)) fun y=>if decide (y.2≠0)=true then M.bind (M.pure
 (none,y.2)) fun r=>M.pure (Step.done r) else M.pure (Step.next (x.1,[],x.1.1.1,x.1.1.2.1,x.1.1.2.2.1,x.1.1.2.2.2,x.1.2.1,x.1.2.2.1,
 x.1.2.2.2.1,x.1.2.2.2.2.1,x.1.2.2.2.2.2,())) else M.pure (Step.next (x.1,[],x.1.1.1,x.1.1.2.1,x.1.1.2.2.1,x.1.1.2.2.2,x.1.2.1,x.1.2.2.1,
 x.1.2.2.2.1,x.1.2.2.2.2.1,x.1.2.2.2.2.2,()))) (Step.go fun (σ:(Wsh×List Int×List Pc×List (List Int×(Int
 ×Int)×Int×Int×Int)×List (Int×Int×Int)×Int)×List ((Int×Int×Int)×Int)×List (Int×Int×Int×Int)×List (List (Int×List
 Int×Int×Int))×Int×List (Int×Int×Int×Int)×List Int×List Pc×List (List Int×(Int×Int)×Int×
 Int×Int)×List (Int×Int×Int)×Int×Unit)=>M.bind (M.loop (fun (σ:Int×Int×(Wsh×List Int×List Pc×
 List Wi×List (Int×Int×Int)×Int)×List ((Int×Int×Int)×Int)×List (Int×Int×Int×Int)×
 List (List (Int×List Int×Int×Int))×Int×List (Int×Int×Int×Int)×List Int×List Pc×List (List Int×
 (Int×Int)×Int×Int×Int)×List (Int×Int×Int)×Int×Unit)=>if decide (σ.2.1<σ.1)=true then M.bind (M.loop (fun (σ:Int×Int×Int
 ×List (List (Int×List Int×Int×Int))×Int×Int×(Wsh×List Int×List Pc×List (List Int×(Int×Int)×
 Int×Int×Int)×List (Int×Int×Int)×Int)×List ((Int×Int×Int)×Int)×List (Int×Int×Int×Int)×List (List (Int×List Int×Int×
 Int))×Int×List (Int×Int×Int×Int)×List Int×List Pc×List Wi×
 List (Int×Int×Int)×Int×Unit)=>if decide (σ.2.2.2.2.2.1<σ.2.2.2.2.1)=true then M.bind (M.req (0≤σ.2.2.2.2.2.1∧σ.2.2.2.2.2.1 <
 Int.ofNat (List.length σ.2.2.2.1)) (M.loop (fun (σ:Int×Int×Int×Int×List (List (Int×List Int×Int×Int))×Int×Int×Int×Int×(Wsh
 ×List Int×List Pc×List Wi×List (Int×Int×Int)×Int)×List ((Int×
 Int×Int)×Int)×List (Int×Int×Int×Int)×List (List (Int×List Int×Int×Int))×Int×List (Int×Int×Int×Int)×List Int×List
 (Int×Int×Int×Int×List Int)×List Wi×List (Int×Int×Int)×Int×Unit)=>if decide
 (σ.2.2.2.2.2.2.2.2.1<σ.2.2.2.2.2.2.2.1)=true then M.bind (M.bind (c_parts_Fits (σ.2.2.2.2.2.2.2.2.2.1.1,σ.1,σ.2.1,σ.2.2.2.2.2.2.2.2.1)) fun y
 =>if decide (y.1=1)=true then M.req True (M.req (True∧True∧True) (M.req True (M.pure (Step.next (σ.1,σ.2.1,σ.2.2.1,σ.2.2.2.1,
 σ.2.2.2.2.1,σ.2.2.2.2.2.1,σ.2.2.2.2.2.2.1,σ.2.2.2.2.2.2.2.1,σ.2.2.2.2.2.2.2.2.1,σ.2.2.2.2.2.2.2.2.2.1,msetT σ.2.2.2.2.2.2.2.2.2.2.1 (σ.1,
 σ.2.1,σ.2.2.2.2.2.2.2.2.1) (IntKind.wrap .i64 (Add.add (Option.getD (Option.map (fun x=>x.2) (List.find? (fun p=>decide (σ.1=p.1.1)&&(decide
 (σ.2.1=p.1.2.1)&&decide (σ.2.2.2.2.2.2.2.2.1=p.1.2.2))) σ.2.2.2.2.2.2.2.2.2.2.1)) 0) 1)),σ.2.2.2.2.2.2.2.2.2.2.2.1,
 σ.2.2.2.2.2.2.2.2.2.2.2.2.1,σ.2.2.2.2.2.2.2.2.2.2.2.2.2.1,σ.2.2.2.2.2.2.2.2.2.2.2.2.2.2.1,σ.2.2.2.2.2.2.2.2.2.2.2.2.2.2.2.1,
 σ.2.2.2.2.2.2.2.2.2.2.2.2.2.2.2.2.1,σ.2.2.2.2.2.2.2.2.2.2.2.2.2.2.2.2.2.1,σ.2.2.2.2.2.2.2.2.2.2.2.2.2.2.2.2.2.2.1,
 σ.2.2.2.2.2.2.2.2.2.2.2.2.2.2.2.2.2.2.2.1,()))))) else M.pure (Step.next (σ.1,σ.2.1,σ.2.2.1,σ.2.2.2.1,σ.2.2.2.2.1,σ.2.2.2.2.2.1,
 σ.2.2.2.2.2.2.1,σ.2.2.2.2.2.2.2.1,σ.2.2.2.2.2.2.2.2.1,σ.2.2.2.2.2.2.2.2.2.1,σ.2.2.2.2.2.2.2.2.2.2.1,σ.2.2.2.2.2.2.2.2.2.2.2.1,
 σ.2.2.2.2.2.2.2.2.2.2.2.2.1,σ.2.2.2.2.2.2.2.2.2.2.2.2.2.1,σ.2.2.2.2.2.2.2.2.2.2.2.2.2.2.1,σ.2.2.2.2.2.2.2.2.2.2.2.2.2.2.2.1,
 σ.2.2.2.2.2.2.2.2.2.2.2.2.2.2.2.2.1,σ.2.2.2.2.2.2.2.2.2.2.2.2.2.2.2.2.2.1,σ.2.2.2.2.2.2.2.2.2.2.2.2.2.2.2.2.2.2.1,
 σ.2.2.2.2.2.2.2.2.2.2.2.2.2.2.2.2.2.2.2.1,()))) (Step.go fun (σ:Int×Int×Int×Int×List (List (Int×List Int×Int×Int))×Int×Int×Int
 ×Int×Shop×
 List ((Int×Int×Int)×Int)×List (Int×Int×Int×Int)×List (List (Int×List Int×Int×Int))×Int×List (Int×Int×Int×Int)×List
 Int×List Pc×List Wi×List (Int×Int×Int)×Int×Unit)=>M.pure
 (Step.next (σ.1,σ.2.1,σ.2.2.1,σ.2.2.2.1,σ.2.2.2.2.1,σ.2.2.2.2.2.1,σ.2.2.2.2.2.2.1,σ.2.2.2.2.2.2.2.1,IntKind.wrap .i64 (Add.add
 σ.2.2.2.2.2.2.2.2.1 1),σ.2.2.2.2.2.2.2.2.2.1,σ.2.2.2.2.2.2.2.2.2.2.1,σ.2.2.2.2.2.2.2.2.2.2.2.1,σ.2.2.2.2.2.2.2.2.2.2.2.2.1,
 σ.2.2.2.2.2.2.2.2.2.2.2.2.2.1,σ.2.2.2.2.2.2.2.2.2.2.2.2.2.2.1,σ.2.2.2.2.2.2.2.2.2.2.2.2.2.2.2.1,σ.2.2.2.2.2.2.2.2.2.2.2.2.2.2.2.2.1,
 σ.2.2.2.2.2.2.2.2.2.2.2.2.2.2.2.2.2.1,σ.2.2.2.2.2.2.2.2.2.2.2.2.2.2.2.2.2.2.1,σ.2.2.2.2.2.2.2.2.2.2.2.2.2.2.2.2.2.2.2.1,()))) else M.bind (M.pure
 (Step.next (σ.1,σ.2.2.1,σ.2.2.2.1,σ.2.2.2.2.1,σ.2.2.2.2.2.1,σ.2.2.2.2.2.2.1,σ.2.2.2.2.2.2.2.2.2.1,σ.2.2.2.2.2.2.2.2.2.2.1,
 σ.2.2.2.2.2.2.2.2.2.2.2.1,σ.2.2.2.2.2.2.2.2.2.2.2.2.1,σ.2.2.2.2.2.2.2.2.2.2.2.2.2.1,σ.2.2.2.2.2.2.2.2.2.2.2.2.2.2.1,
 σ.2.2.2.2.2.2.2.2.2.2.2.2.2.2.2.1,σ.2.2.2.2.2.2.2.2.2.2.2.2.2.2.2.2.1,σ.2.2.2.2.2.2.2.2.2.2.2.2.2.2.2.2.2.1,
 σ.2.2.2.2.2.2.2.2.2.2.2.2.2.2.2.2.2.2.1,σ.2.2.2.2.2.2.2.2.2.2.2.2.2.2.2.2.2.2.2.1,()))) fun r=>M.pure (Step.done r)) (σ.1,σ.2.2.2.2.2.1,σ.2.1,
 σ.2.2.1,σ.2.2.2.1,σ.2.2.2.2.1,σ.2.2.2.2.2.1,Int.ofNat (List.length (List.getD σ.2.2.2.1 (Int.toNat σ.2.2.2.2.2.1) [])),0,σ.2.2.2.2.2.2.1,
 σ.2.2.2.2.2.2.2.1,σ.2.2.2.2.2.2.2.2.1,σ.2.2.2.2.2.2.2.2.2.1,σ.2.2.2.2.2.2.2.2.2.2.1,σ.2.2.2.2.2.2.2.2.2.2.2.1,σ.2.2.2.2.2.2.2.2.2.2.2.2.1,
 σ.2.2.2.2.2.2.2.2.2.2.2.2.2.1,σ.2.2.2.2.2.2.2.2.2.2.2.2.2.2.1,σ.2.2.2.2.2.2.2.2.2.2.2.2.2.2.2.1,σ.2.2.2.2.2.2.2.2.2.2.2.2.2.2.2.2.1,())))
 (Step.go fun (σ:Int×Int×Int×List (List (Int×List Int×Int×Int))×Int×Int×(Wsh×List Int×List Pc
 ×List Wi×List (Int×Int×Int)×Int)×List ((Int×Int×Int)×Int)×List (Int×Int×Int×Int)×
 List (List (Int×List Int×Int×Int))×Int×List (Int×Int×Int×Int)×List Int×List Pc×List (List Int×
 (Int×Int)×Int×Int×Int)×List (Int×Int×Int)×Int×Unit)=>M.pure (Step.next (σ.1,σ.2.1,σ.2.2.1,σ.2.2.2.1,σ.2.2.2.2.1,IntKind.wrap
 .i64 (Add.add σ.2.2.2.2.2.1 1),σ.2.2.2.2.2.2.1,σ.2.2.2.2.2.2.2.1,σ.2.2.2.2.2.2.2.2.1,σ.2.2.2.2.2.2.2.2.2.1,σ.2.2.2.2.2.2.2.2.2.2.1,
 σ.2.2.2.2.2.2.2.2.2.2.2.1,σ.2.2.2.2.2.2.2.2.2.2.2.2.1,σ.2.2.2.2.2.2.2.2.2.2.2.2.2.1,σ.2.2.2.2.2.2.2.2.2.2.2.2.2.2.1,
 σ.2.2.2.2.2.2.2.2.2.2.2.2.2.2.2.1,σ.2.2.2.2.2.2.2.2.2.2.2.2.2.2.2.2.1,()))) else M.bind (M.pure (Step.next (σ.2.1,σ.2.2.1,σ.2.2.2.2.2.2.1,
 σ.2.2.2.2.2.2.2.1,σ.2.2.2.2.2.2.2.2.1,σ.2.2.2.2.2.2.2.2.2.1,σ.2.2.2.2.2.2.2.2.2.2.1,σ.2.2.2.2.2.2.2.2.2.2.2.1,σ.2.2.2.2.2.2.2.2.2.2.2.2.1,
 σ.2.2.2.2.2.2.2.2.2.2.2.2.2.1,σ.2.2.2.2.2.2.2.2.2.2.2.2.2.2.1,σ.2.2.2.2.2.2.2.2.2.2.2.2.2.2.2.1,σ.2.2.2.2.2.2.2.2.2.2.2.2.2.2.2.2.1,()))) fun r
 =>M.pure (Step.done r)) (σ.2.1,σ.1,σ.2.1,σ.2.2.1.1.2.1,Int.ofNat (List.length σ.2.2.1.1.2.1),0,σ.2.2.1,σ.2.2.2.1,σ.2.2.2.2.1,σ.2.2.2.2.2.1,
 σ.2.2.2.2.2.2.1,σ.2.2.2.2.2.2.2.1,σ.2.2.2.2.2.2.2.2.1,σ.2.2.2.2.2.2.2.2.2.1,σ.2.2.2.2.2.2.2.2.2.2.1,σ.2.2.2.2.2.2.2.2.2.2.2.1,
 σ.2.2.2.2.2.2.2.2.2.2.2.2.1,())) (Step.go fun (σ:Int×Int×(Wsh×List Int×List Pc×List (List Int×(Int×
 Int)×Int×Int×Int)×List (Int×Int×Int)×Int)×List ((Int×Int×Int)×Int)×List (Int×Int×Int×Int)×List (List (Int×List Int
 ×Int×Int))×Int×List (Int×Int×Int×Int)×List Int×List Pc×List (List Int×(Int×Int)×Int×Int×
 Int)×List (Int×Int×Int)×Int×Unit)=>M.pure (Step.next (σ.1,IntKind.wrap .i64 (Add.add σ.2.1 1),σ.2.2.1,σ.2.2.2.1,σ.2.2.2.2.1,
 σ.2.2.2.2.2.1,σ.2.2.2.2.2.2.1,σ.2.2.2.2.2.2.2.1,σ.2.2.2.2.2.2.2.2.1,σ.2.2.2.2.2.2.2.2.2.1,σ.2.2.2.2.2.2.2.2.2.2.1,σ.2.2.2.2.2.2.2.2.2.2.2.1,
 σ.2.2.2.2.2.2.2.2.2.2.2.2.1,()))) else M.bind (M.pure (Step.next (σ.2.2.1,σ.2.2.2.1,σ.2.2.2.2.1,σ.2.2.2.2.2.1,σ.2.2.2.2.2.2.1,
 σ.2.2.2.2.2.2.2.1,σ.2.2.2.2.2.2.2.2.1,σ.2.2.2.2.2.2.2.2.2.1,σ.2.2.2.2.2.2.2.2.2.2.1,σ.2.2.2.2.2.2.2.2.2.2.2.1,σ.2.2.2.2.2.2.2.2.2.2.2.2.1,())))
 fun r=>M.pure (Step.done r)) (Int.ofNat (List.length σ.1.2.1),0,σ.1,σ.2.1,σ.2.2.1,σ.2.2.2.1,σ.2.2.2.2.1,σ.2.2.2.2.2.1,σ.2.2.2.2.2.2.1,
 σ.2.2.2.2.2.2.2.1,σ.2.2.2.2.2.2.2.2.1,σ.2.2.2.2.2.2.2.2.2.1,σ.2.2.2.2.2.2.2.2.2.2.1,())) (Step.go fun (σ:(Wsh×List Int×List (Int×Int×
 Int×Int×List Int)×List Wi×List (Int×Int×Int)×Int)×List ((Int×Int×Int)×Int)×List (Int
 ×Int×Int×Int)×List (List (Int×List Int×Int×Int))×Int×List (Int×Int×Int×Int)×List Int×List (Int×Int×Int×Int×List
 Int)×List Wi×List (Int×Int×Int)×Int×Unit)=>M.bind (M.loop (fun (σ:List Int×Int×Int×(Wsh
 ×List Int×List Pc×List Wi×List (Int×Int×Int)×Int)×List ((Int×
 Int×Int)×Int)×List (Int×Int×Int×Int)×List (List (Int×List Int×Int×Int))×Int×List (Int×Int×Int×Int)×List Int×List
 (Int×Int×Int×Int×List Int)×List Wi×List (Int×Int×Int)×Int×List (Int×Int)×Unit)=>if
 decide (σ.2.2.1<σ.2.1)=true then M.req (0≤σ.2.2.1∧σ.2.2.1<Int.ofNat (List.length σ.1)) (M.req True (M.req
 (c_slices_Repeat_orders_spare_orders_spare ([(σ.2.2.1,0)],List.getD σ.1 (Int.toNat σ.2.2.1) 0)).safe (M.req (lenLe (Add.add (List.length
 σ.2.2.2.2.2.2.2.2.2.2.2.2.2.2.1) (List.length (M.val (c_slices_Repeat_orders_spare_orders_spare ([(σ.2.2.1,0)],List.getD σ.1 (Int.toNat σ.2.2.1)
 0)) [])))) (M.req True (M.pure (Step.next (σ.1,σ.2.1,IntKind.wrap .i64 (Add.add σ.2.2.1 1),σ.2.2.2.1,σ.2.2.2.2.1,σ.2.2.2.2.2.1,σ.2.2.2.2.2.2.1,
 σ.2.2.2.2.2.2.2.1,σ.2.2.2.2.2.2.2.2.1,σ.2.2.2.2.2.2.2.2.2.1,σ.2.2.2.2.2.2.2.2.2.2.1,σ.2.2.2.2.2.2.2.2.2.2.2.1,σ.2.2.2.2.2.2.2.2.2.2.2.2.1,
 σ.2.2.2.2.2.2.2.2.2.2.2.2.2.1,σ.2.2.2.2.2.2.2.2.2.2.2.2.2.2.1++M.val (c_slices_Repeat_orders_spare_orders_spare ([(σ.2.2.1,0)],List.getD σ.1
 (Int.toNat σ.2.2.1) 0)) [],()))))))) else M.bind (M.pure (Step.next (σ.2.2.2.1,σ.2.2.2.2.1,σ.2.2.2.2.2.1,σ.2.2.2.2.2.2.1,σ.2.2.2.2.2.2.2.1,
 σ.2.2.2.2.2.2.2.2.1,σ.2.2.2.2.2.2.2.2.2.1,σ.2.2.2.2.2.2.2.2.2.2.1,σ.2.2.2.2.2.2.2.2.2.2.2.1,σ.2.2.2.2.2.2.2.2.2.2.2.2.1,
 σ.2.2.2.2.2.2.2.2.2.2.2.2.2.1,σ.2.2.2.2.2.2.2.2.2.2.2.2.2.2.1,()))) fun r=>M.pure (Step.done r)) (σ.1.2.1,Int.ofNat (List.length σ.1.2.1),0,
 σ.1,σ.2.1,σ.2.2.1,σ.2.2.2.1,σ.2.2.2.2.1,σ.2.2.2.2.2.1,σ.2.2.2.2.2.2.1,σ.2.2.2.2.2.2.2.1,σ.2.2.2.2.2.2.2.2.1,σ.2.2.2.2.2.2.2.2.2.1,
 σ.2.2.2.2.2.2.2.2.2.2.1,[],())) (Step.go fun (σ:(Wsh×List Int×List Pc×List (List Int×(Int×Int)×Int×
 Int×Int)×List (Int×Int×Int)×Int)×List ((Int×Int×Int)×Int)×List (Int×Int×Int×Int)×List (List (Int×List Int×Int×Int))
 ×Int×List (Int×Int×Int×Int)×List Int×List Pc×List Wi×List
 (Int×Int×Int)×Int×List (Int×Int)×Unit)=>M.bind (M.loop (fun (σ:List (Int×Int×Int)×Int×Int×List ((Int×Int×Int)×Int)×
 List (Int×Int×Int×Int)×List (List (Int×List Int×Int×Int))×Int×List (Int×Int×Int×Int)×List Int×List (Int×Int×Int×Int
 ×List Int)×List Wi×List (Int×Int×Int)×Int×List (Int×Int)×Unit)=>if decide (σ.2.2.1 <
 σ.2.1)=true then M.req (0≤σ.2.2.1∧σ.2.2.1<Int.ofNat (List.length σ.1)) (M.req True (M.req (c_slices_Repeat_orders_spare_orders_spare
 ([((List.getD σ.1 (Int.toNat σ.2.2.1) (0,0,0)).2.1,(List.getD σ.1 (Int.toNat σ.2.2.1) (0,0,0)).1)],(List.getD σ.1 (Int.toNat σ.2.2.1) (0,0,
 0)).2.2)).safe (M.req (lenLe (Add.add (List.length σ.2.2.2.2.2.2.2.2.2.2.2.2.2.1) (List.length (M.val (c_slices_Repeat_orders_spare_orders_spare
 ([((List.getD σ.1 (Int.toNat σ.2.2.1) (0,0,0)).2.1,(List.getD σ.1 (Int.toNat σ.2.2.1) (0,0,0)).1)],(List.getD σ.1 (Int.toNat σ.2.2.1) (0,0,
 0)).2.2)) [])))) (M.req True (M.pure (Step.next (σ.1,σ.2.1,IntKind.wrap .i64 (Add.add σ.2.2.1 1),σ.2.2.2.1,σ.2.2.2.2.1,σ.2.2.2.2.2.1,
 σ.2.2.2.2.2.2.1,σ.2.2.2.2.2.2.2.1,σ.2.2.2.2.2.2.2.2.1,σ.2.2.2.2.2.2.2.2.2.1,σ.2.2.2.2.2.2.2.2.2.2.1,σ.2.2.2.2.2.2.2.2.2.2.2.1,
 σ.2.2.2.2.2.2.2.2.2.2.2.2.1,σ.2.2.2.2.2.2.2.2.2.2.2.2.2.1++M.val (c_slices_Repeat_orders_spare_orders_spare ([((List.getD σ.1 (Int.toNat σ.2.2.1)
 (0,0,0)).2.1,(List.getD σ.1 (Int.toNat σ.2.2.1) (0,0,0)).1)],(List.getD σ.1 (Int.toNat σ.2.2.1) (0,0,0)).2.2)) [],()))))))) else M.bind
 (M.pure (Step.next (σ.2.2.2.1,σ.2.2.2.2.1,σ.2.2.2.2.2.1,σ.2.2.2.2.2.2.1,σ.2.2.2.2.2.2.2.1,σ.2.2.2.2.2.2.2.2.1,σ.2.2.2.2.2.2.2.2.2.1,
 σ.2.2.2.2.2.2.2.2.2.2.1,σ.2.2.2.2.2.2.2.2.2.2.2.1,σ.2.2.2.2.2.2.2.2.2.2.2.2.1,σ.2.2.2.2.2.2.2.2.2.2.2.2.2.1,()))) fun r=>M.pure (Step.done r))
 (σ.1.2.2.2.2.1,Int.ofNat (List.length σ.1.2.2.2.2.1),0,σ.2.1,σ.2.2.1,σ.2.2.2.1,σ.2.2.2.2.1,σ.2.2.2.2.2.1,σ.2.2.2.2.2.2.1,σ.2.2.2.2.2.2.2.1,
 σ.2.2.2.2.2.2.2.2.1,σ.2.2.2.2.2.2.2.2.2.1,σ.2.2.2.2.2.2.2.2.2.2.1,σ.2.2.2.2.2.2.2.2.2.2.2.1,())) (Step.go fun (σ:List ((Int×Int×Int)×Int)
 ×List (Int×Int×Int×Int)×List (List (Int×List Int×Int×Int))×Int×List (Int×Int×Int×Int)×List Int×List (Int×Int×Int×
 Int×List Int)×List Wi×List (Int×Int×Int)×Int×List (Int×Int)×Unit)=>M.pure (some (((σ.2.1,
 σ.2.2.1,σ.2.2.2.1,σ.2.2.2.2.1),σ.2.2.2.2.2.1,σ.2.2.2.2.2.2.1,σ.2.2.2.2.2.2.2.1,σ.2.2.2.2.2.2.2.2.1,σ.2.2.2.2.2.2.2.2.2.1),
 σ.2.2.2.2.2.2.2.2.2.2.1,σ.1),0)))))
def S_orders_store_jobs (c_orders_suits:(List Int×(Int×Int)×Int×Int×Int)×Int×Int×Int×Int×List Int→M Int) (x:Option Sto×List Int):M (List (Int×Int×Int)×Bool):=
 M.bind (M.loop (fun (σ:Option ((Wsh×List Int×List Pc×List Wi×List
 (Int×Int×Int)×Int)×List (Int×Int)×List ((Int×Int×Int)×Int))×List Int×Int×Int×List (Int×Int×Int)×Unit)=>if decide
 (σ.2.2.2.1<σ.2.2.1)=true then M.bind (M.req (0≤σ.2.2.2.1∧σ.2.2.2.1<Int.ofNat (List.length σ.2.1)) (if decide (List.getD σ.2.1 (Int.toNat
 σ.2.2.2.1) (0:Int)<0)=true then M.pure (Step.next (σ.1,σ.2.1,σ.2.2.1,σ.2.2.2.1,σ.2.2.2.2.1,())) else M.req (Option.isSome σ.1=true)
 (M.req (0≤σ.2.2.2.1∧σ.2.2.2.1<Int.ofNat (List.length (Option.getD σ.1 ((([],[],0,[]),[],[],[],[],0),[],[])).1.2.2.2.1)) (M.req
 (Option.isSome σ.1=true) (M.req (0≤List.getD σ.2.1 (Int.toNat σ.2.2.2.1) 0∧List.getD σ.2.1 (Int.toNat σ.2.2.2.1) 0<Int.ofNat (List.length
 (Option.getD σ.1 ((([],[],0,[]),[],[],[],[],0),[],[])).1.2.2.1)) (M.bind (M.bind (c_orders_suits (List.getD (Option.getD σ.1 ((([],[],0,
 []),[],[],[],[],0),[],[])).1.2.2.2.1 (Int.toNat σ.2.2.2.1) ([],(0,0),0,0,0),List.getD (Option.getD σ.1 ((([],[],0,[]),[],[],[],
 [],0),[],[])).1.2.2.1 (Int.toNat (List.getD σ.2.1 (Int.toNat σ.2.2.2.1) 0)) (0,0,0,0,[]))) fun y=>if decide (y=0)=true then M.bind
 (M.bind (M.bind (M.bind (M.pure ([],false)) fun r=>M.pure (Step.done r)) fun r=>M.pure (Step.done r)) fun r=>M.pure (Step.done r)) fun r=>
 M.pure (Step.done r) else if decide (y=2)=true then M.req (Option.isSome σ.1=true) (M.pure (Step.next (σ.1,IntKind.wrap .i64 ((List.getD
 (Option.getD σ.1 ((([],[],0,[]),[],[],[],[],0),[],[])).1.2.2.2.1 (Int.toNat σ.2.2.2.1) ([],(0,0),0,0,0)).2.2.2.1 - (Option.getD σ.1
 ((([],[],0,[]),[],[],[],[],0),[],[])).1.2.2.2.2.2),σ.2.1,σ.2.2.1,σ.2.2.2.1,σ.2.2.2.2.1,List.getD (Option.getD σ.1 ((([],[],0,[]),
 [],[],[],[],0),[],[])).1.2.2.1 (Int.toNat (List.getD σ.2.1 (Int.toNat σ.2.2.2.1) 0)) (0,0,0,0,[]),()))) else M.pure (Step.next (σ.1,
 (List.getD (Option.getD σ.1 ((([],[],0,[]),[],[],[],[],0),[],[])).1.2.2.2.1 (Int.toNat σ.2.2.2.1) ([],(0,0),0,0,0)).2.2.2.1,σ.2.1,
 σ.2.2.1,σ.2.2.2.1,σ.2.2.2.2.1,List.getD (Option.getD σ.1 ((([],[],0,[]),[],[],[],[],0),[],[])).1.2.2.1 (Int.toNat (List.getD σ.2.1
 (Int.toNat σ.2.2.2.1) 0)) (0,0,0,0,[]),()))) (Step.go fun (σ:Option ((Wsh×List Int×List Pc×List (List
 Int×(Int×Int)×Int×Int×Int)×List (Int×Int×Int)×Int)×List (Int×Int)×List ((Int×Int×Int)×Int))×Int×List Int×Int×
 Int×List (Int×Int×Int)×(Int×Int×Int×Int×List Int)×Unit)=>if decide (σ.2.1<0)=true then M.bind (M.bind (M.bind (M.pure ([],
 false)) fun r=>M.pure (Step.done r)) fun r=>M.pure (Step.done r)) fun r=>M.pure (Step.done r) else M.loop (fun (σ:Option ((Wsh×List Int×
 List Pc×List Wi×List (Int×Int×Int)×Int)×List (Int×Int)×List
 ((Int×Int×Int)×Int))×Int×List Int×Int×Int×List Int×Int×Int×List (Int×Int×Int)×(Int×Int×Int×Int×List Int)×Unit)
 =>if decide (σ.2.2.2.2.2.2.2.1<σ.2.2.2.2.2.2.1)=true then M.req (0≤σ.2.2.2.2.2.2.2.1∧σ.2.2.2.2.2.2.2.1<Int.ofNat (List.length
 σ.2.2.2.2.2.1)) (M.req (lenLe (Add.add (List.length σ.2.2.2.2.2.2.2.2.1) (Add.add 0 1))) (M.pure (Step.next (σ.1,σ.2.1,σ.2.2.1,σ.2.2.2.1,
 σ.2.2.2.2.1,σ.2.2.2.2.2.1,σ.2.2.2.2.2.2.1,IntKind.wrap .i64 (Add.add σ.2.2.2.2.2.2.2.1 1),σ.2.2.2.2.2.2.2.2.1++[(σ.2.2.2.2.2.2.2.2.2.1.2.2.2.1,
 List.getD σ.2.2.2.2.2.1 (Int.toNat σ.2.2.2.2.2.2.2.1) 0,σ.2.1)],σ.2.2.2.2.2.2.2.2.2.1,())))) else M.bind (M.pure (Step.next (σ.1,σ.2.2.1,
 σ.2.2.2.1,σ.2.2.2.2.1,σ.2.2.2.2.2.2.2.2.1,()))) fun r=>M.pure (Step.done r)) (σ.1,σ.2.1,σ.2.2.1,σ.2.2.2.1,σ.2.2.2.2.1,
 σ.2.2.2.2.2.2.1.2.2.2.2,Int.ofNat (List.length σ.2.2.2.2.2.2.1.2.2.2.2),0,σ.2.2.2.2.2.1,σ.2.2.2.2.2.2.1,())))))))) (Step.go fun (σ:Option
 (Shop×List
 (Int×Int)×List ((Int×Int×Int)×Int))×List Int×Int×Int×List (Int×Int×Int)×Unit)=>M.pure (Step.next (σ.1,σ.2.1,σ.2.2.1,
 IntKind.wrap .i64 (Add.add σ.2.2.2.1 1),σ.2.2.2.2.1,()))) else M.bind (M.pure (Step.next (σ.2.2.2.2.1,()))) fun r=>M.pure (Step.done r)) (x.1,
 x.2,Int.ofNat (List.length x.2),0,[],())) (Step.go fun (σ:List (Int×Int×Int)×Unit)=>M.pure (σ.1,true))
def S_orders_store_can (c_orders_store_good:Option Sto×(Int×Int)×Int×Int×Int→M Bool) (x:Option Sto×List (Int×Int×Int)):M Bool:=
 M.bind (M.loop (fun (σ:Option ((Wsh×List Int×List Pc×List Wi×List
 (Int×Int×Int)×Int)×List (Int×Int)×List ((Int×Int×Int)×Int))×List (Int×Int×Int)×Int×Int×Unit)=>if decide (σ.2.2.2.1 <
 σ.2.2.1)=true then M.bind (M.req (0≤σ.2.2.2.1∧σ.2.2.2.1<Int.ofNat (List.length σ.2.1)) (M.bind (M.req (Option.isSome σ.1=true) (M.loop (fun (σ
 : Option ((Shop)
 ×List (Int×Int)×List ((Int×Int×Int)×Int))×Bool×List (Int×Int×Int)×Int×Int×Int×Int×(Int×Int×Int)×Unit)=>if decide
 (σ.2.2.2.2.2.2.1<σ.2.2.2.2.2.1)=true then M.bind (gdo (!σ.2.1) (c_orders_store_good (σ.1,(σ.2.2.2.2.2.2.1,0),σ.2.2.2.2.2.2.2.1)) false) fun y
 =>M.pure (Step.next (σ.1,σ.2.1||y,σ.2.2.1,σ.2.2.2.1,σ.2.2.2.2.1,σ.2.2.2.2.2.1,IntKind.wrap .i64 (Add.add σ.2.2.2.2.2.2.1 1),
 σ.2.2.2.2.2.2.2.1,())) else M.bind (M.pure (Step.next (σ.1,σ.2.1,σ.2.2.1,σ.2.2.2.1,σ.2.2.2.2.1,()))) fun r=>M.pure (Step.done r)) (σ.1,
 false,σ.2.1,σ.2.2.1,σ.2.2.2.1,Int.ofNat (List.length (Option.getD σ.1 ((([],[],0,[]),[],[],[],[],0),[],[])).1.2.1),0,List.getD σ.2.1
 (Int.toNat σ.2.2.2.1) (0,0,0),()))) (Step.go fun (σ:Option ((Wsh×List Int×List Pc×List (List Int×(Int×
 Int)×Int×Int×Int)×List (Int×Int×Int)×Int)×List (Int×Int)×List ((Int×Int×Int)×Int))×Bool×List (Int×Int×Int)×Int×
 Int×Unit)=>if (!σ.2.1)=true then M.bind (M.bind (M.bind (M.pure false) fun r=>M.pure (Step.done r)) fun r=>M.pure (Step.done r)) fun r=>
 M.pure (Step.done r) else M.pure (Step.next (σ.1,σ.2.2.1,σ.2.2.2.1,σ.2.2.2.2.1,()))))) (Step.go fun (σ:Option ((Wsh×List Int×List (Int×
 Int×Int×Int×List Int)×List Wi×List (Int×Int×Int)×Int)×List (Int×Int)×List ((Int×Int×
 Int)×Int))×List (Int×Int×Int)×Int×Int×Unit)=>M.pure (Step.next (σ.1,σ.2.1,σ.2.2.1,IntKind.wrap .i64 (Add.add σ.2.2.2.1 1),())))
 else M.bind (M.pure (Step.next ())) fun r=>M.pure (Step.done r)) (x.1,x.2,Int.ofNat (List.length x.2),0,())) (Step.go fun (σ:Unit)=>M.pure
 true)
def S_orders_store_lacking (c_slices_RepeatIO:List Int×Int×Unit→M (List Int×Unit)) (c_orders_store_give:Option Sto×List (Int×Int×Int)×Int×List (Int×Int)×List Int×Unit→M (Bool×List (Int×Int)×List Int×Unit)) (x:Option Sto×List (Int×Int×Int)):M Int:=
 M.req (Option.isSome x.1=true) (M.bind (c_slices_RepeatIO ([-1],Int.ofNat (List.length (Option.getD x.1 ((([],[],0,[]),[],[],[],[],0),[],
 [])).2.1),())) fun y=>M.bind (M.loop (fun (σ:Option ((Wsh×List Int×List Pc×List (List Int×(Int×Int)×
 Int×Int×Int)×List (Int×Int×Int)×Int)×List (Int×Int)×List ((Int×Int×Int)×Int))×List (Int×Int×Int)×Int×Int×Int×
 List Int×Unit)=>if decide (σ.2.2.2.2.1<σ.2.2.2.1)=true then M.bind (M.bind (c_orders_store_give (σ.1,σ.2.1,σ.2.2.2.2.1,[],σ.2.2.2.2.2.1,
 ())) fun y=>if (!y.1)=true then M.pure (Step.next (σ.1,σ.2.1,IntKind.wrap .i64 (Add.add σ.2.2.1 1),σ.2.2.2.1,σ.2.2.2.2.1,y.2.2.1,())) else
 M.pure (Step.next (σ.1,σ.2.1,σ.2.2.1,σ.2.2.2.1,σ.2.2.2.2.1,y.2.2.1,()))) (Step.go fun (σ:Option ((Wsh×List Int×List (Int×Int×Int×
 Int×List Int)×List Wi×List (Int×Int×Int)×Int)×List (Int×Int)×List ((Int×Int×Int)×
 Int))×List (Int×Int×Int)×Int×Int×Int×List Int×Unit)=>M.pure (Step.next (σ.1,σ.2.1,σ.2.2.1,σ.2.2.2.1,IntKind.wrap .i64 (Add.add
 σ.2.2.2.2.1 1),σ.2.2.2.2.2.1,()))) else M.bind (M.pure (Step.next (σ.2.2.1,()))) fun r=>M.pure (Step.done r)) (x.1,x.2,0,Int.ofNat
 (List.length x.2),0,y.1,())) (Step.go fun (σ:Int×Unit)=>M.pure σ.1))
def S_orders_isWish (c_orders_within:Int×Int×Int→M Bool) (x:Shop×Int):M Bool:=
 M.bind (c_orders_within (x.2,0,IntKind.wrap .i64 (Int.ofNat (List.length x.1.2.2.2.1) - 1))) fun y=>M.pure y
def S_slices_Repeat_int_int (c_math_bits_Mul:Int×Int→M (Int×Int)) (x:List Int×Int):M (List Int):=
 M.bind (if decide (x.2<0)=true then M.req False (M.req False (M.pure (Step.next (x.1,x.2,())))) else M.pure (Step.next (x.1,x.2,())))
 (Step.go fun (σ:List Int×Int×Unit)=>M.bind (c_math_bits_Mul (IntKind.wrap .u64 (Int.ofNat (List.length σ.1)),IntKind.wrap .u64 σ.2.1)) fun y
 =>M.bind (if (decide (y.1 > 0)||decide (y.2 > 9223372036854775807))=true then M.req False (M.req False (M.pure (Step.next (σ.1,y.2,())))) else
 M.pure (Step.next (σ.1,y.2,()))) (Step.go fun (σ:List Int×Int×Unit)=>M.req (0≤IntKind.wrap .i64 σ.2.1∧IntKind.wrap .i64 σ.2.1=
 IntKind.wrap .i64 σ.2.1∧lenLe (Int.toNat (IntKind.wrap .i64 σ.2.1))) (M.req True (M.bind (M.loop (fun (σ:Int×List Int×Unit)=>if decide (σ.1
 < Int.ofNat (List.length σ.2.1))=true then M.req (0≤σ.1∧σ.1≤Int.ofNat (List.length σ.2.1)∧Int.ofNat (List.length σ.2.1)≤Int.ofNat
 (List.length σ.2.1)) (M.req ((0:Int)≤0∧0≤σ.1∧σ.1≤Int.ofNat (List.length σ.2.1)) (M.req True (M.pure (Step.next (IntKind.wrap .i64
 (Add.add σ.1 (Int.ofNat (if Int.toNat (Int.ofNat (List.length σ.2.1)) - Int.toNat σ.1≤List.length (List.take (Int.toNat σ.1) σ.2.1) then Int.toNat
 (Int.ofNat (List.length σ.2.1)) - Int.toNat σ.1 else List.length (List.take (Int.toNat σ.1) σ.2.1)))),List.take (Int.toNat σ.1) σ.2.1++List.take
 (Int.toNat (Int.ofNat (List.length σ.2.1)) - Int.toNat σ.1) (List.take (Int.toNat σ.1) σ.2.1)++List.drop (Add.add (Int.toNat σ.1) (List.length
 (List.take (Int.toNat (Int.ofNat (List.length σ.2.1)) - Int.toNat σ.1) (List.take (Int.toNat σ.1) σ.2.1)))) σ.2.1,()))))) else M.bind (M.pure
 (Step.next (σ.2.1,()))) fun r=>M.pure (Step.done r)) (Int.ofNat (if List.length (List.replicate (Int.toNat (IntKind.wrap .i64 σ.2.1)) (0:Int)) - 0≤
 List.length σ.1 then List.length (List.replicate (Int.toNat (IntKind.wrap .i64 σ.2.1)) (0:Int)) - 0 else List.length σ.1),[]++List.take (List.length
 (List.replicate (Int.toNat (IntKind.wrap .i64 σ.2.1)) (0:Int)) - 0) σ.1++List.drop (Add.add 0 (List.length (List.take (List.length (List.replicate
 (Int.toNat (IntKind.wrap .i64 σ.2.1)) (0:Int)) - 0) σ.1))) (List.replicate (Int.toNat (IntKind.wrap .i64 σ.2.1)) (0:Int)),())) (Step.go fun (σ:List Int×
 Unit)=>M.pure σ.1)))))
def S_orders_store_filled (c_orders_store_jobs:Option Sto×List Int→M (List (Int×Int×Int)×Bool)) (c_orders_store_lacking:Option Sto×List (Int×Int×Int)→M Int) (x:Option Sto×List Int):M Bool:=
 M.bind (c_orders_store_jobs x) fun y=>M.bind (gdo y.2 (c_orders_store_lacking (x.1,y.1)) 0) fun y_1=>M.pure (y.2&&decide (y_1=0))
def S_orders_isDelivery (c_orders_within:Int×Int×Int→M Bool) (x:Shop×Int):M Bool:=
 M.bind (c_orders_within (x.2,0,IntKind.wrap .i64 (Int.ofNat (List.length x.1.2.2.2.2.1) - 1))) fun y=>M.pure y
def S_orders_isShop (c_orders_isDue:Int→M Bool) (c_slices_ContainsFunc_int_int:List Int×(Int→M Bool)→M Bool) (c_slices_ContainsFunc_api_Piece_api_Piece:List Pc×(Int×Int×Int×Int×List Int→M Bool)→M Bool) (c_slices_ContainsFunc_api_Wish_api_Wish:List Wi×(List Int×(Int×Int)×Int×Int×Int→M Bool)→M Bool) (c_slices_ContainsFunc_api_Delivery_api_Delivery:List (Int×Int×Int)×(Int×Int×Int→M Bool)→M Bool) (c_orders_isShop_c1:(Int×Int×Int×Int×List Int)×Option Wsh→M Bool) (c_orders_isShop_c3:(Int×Int×Int)×Option Wsh→M Bool) (c_orders_isShop_c2:List Int×(Int×Int)×Int×Int×Int→M Bool) (c_orders_isShop_c4:Int→M Bool) (x:Shop):M Bool:=
 M.bind (gdo (decide (Int.ofNat (List.length x.2.1)=Int.ofNat (List.length x.1.1))) (c_slices_ContainsFunc_int_int (x.2.1,c_orders_isShop_c4))
 false) fun y=>M.bind (gdo (decide (Int.ofNat (List.length x.2.1)=Int.ofNat (List.length x.1.1))&&!y&&decide (Int.ofNat (List.length x.2.2.1)
 ≤8)) (c_slices_ContainsFunc_api_Piece_api_Piece (x.2.2.1,fun x_1=>c_orders_isShop_c1 (x_1,some x.1))) false) fun y_1=>M.bind (gdo (decide
 (Int.ofNat (List.length x.2.1)=Int.ofNat (List.length x.1.1))&&!y&&decide (Int.ofNat (List.length x.2.2.1)≤8)&&!y_1&&decide (Int.ofNat
 (List.length x.2.2.2.1)≤6)) (c_slices_ContainsFunc_api_Wish_api_Wish (x.2.2.2.1,c_orders_isShop_c2)) false) fun y_2=>M.bind (gdo (decide
 (Int.ofNat (List.length x.2.1)=Int.ofNat (List.length x.1.1))&&!y&&decide (Int.ofNat (List.length x.2.2.1)≤8)&&!y_1&&decide (Int.ofNat
 (List.length x.2.2.2.1)≤6)&&!y_2&&decide (Int.ofNat (List.length x.2.2.2.2.1)≤8)) (c_slices_ContainsFunc_api_Delivery_api_Delivery
 (x.2.2.2.2.1,fun x_1=>c_orders_isShop_c3 (x_1,some x.1))) false) fun y_3=>M.bind (gdo (decide (Int.ofNat (List.length x.2.1)=Int.ofNat
 (List.length x.1.1))&&!y&&decide (Int.ofNat (List.length x.2.2.1)≤8)&&!y_1&&decide (Int.ofNat (List.length x.2.2.2.1)≤6)&&!y_2&&
 decide (Int.ofNat (List.length x.2.2.2.2.1)≤8)&&!y_3) (c_orders_isDue x.2.2.2.2.2) false) fun y_4=>M.pure (decide (Int.ofNat (List.length
 x.2.1)=Int.ofNat (List.length x.1.1))&&!y&&decide (Int.ofNat (List.length x.2.2.1)≤8)&&!y_1&&decide (Int.ofNat (List.length x.2.2.2.1)≤
 6)&&!y_2&&decide (Int.ofNat (List.length x.2.2.2.2.1)≤8)&&!y_3&&y_4)
def S_ref08_within  (x:Int×Int×Int):M Bool:=
 M.pure (decide (x.2.1≤x.1)&&decide (x.1≤x.2.2))
def S_ref08_isPiece (c_ref08_within:Int×Int×Int→M Bool) (c_ref08_rising:List Int×Int→M Bool) (x:Shop×Int×Int×Int×Int×List Int):M Bool:=
 M.bind (c_ref08_within (x.2.1,0,99)) fun y=>M.bind (gdo (!!y) (c_ref08_within (x.2.2.1,0,99)) false) fun y_1=>M.bind (gdo (!(!y||!y_1))
 (c_ref08_within (x.2.2.2.1,0,99)) false) fun y_2=>M.bind (gdo (!(!y||!y_1||!y_2)) (c_ref08_within (x.2.2.2.2.1,0,IntKind.wrap .i64
 (Int.ofNat (List.length x.1.1.2.1) - 1))) false) fun y_3=>if (!y||!y_1||!y_2||!y_3)=true then M.pure false else M.req (0≤x.2.2.2.2.1∧
 x.2.2.2.2.1<Int.ofNat (List.length x.1.1.2.1)) (M.req (c_ref08_rising (x.2.2.2.2.2,IntKind.wrap .i64 (Int.ofNat (List.length (List.getD x.1.1.2.1
 (Int.toNat x.2.2.2.2.1) [])) - 1))).safe (M.pure (M.val (c_ref08_rising (x.2.2.2.2.2,IntKind.wrap .i64 (Int.ofNat (List.length (List.getD x.1.1.2.1
 (Int.toNat x.2.2.2.2.1) [])) - 1))) false)))
def S_ref08_isWish (c_ref08_within:Int×Int×Int→M Bool) (c_ref08_rising:List Int×Int→M Bool) (x:List Int×(Int×Int)×Int×Int×Int):M Bool:=
 M.bind (c_ref08_within (Int.ofNat (List.length x.1),1,8)) fun y=>M.bind (gdo y (c_ref08_rising (x.1,99)) false) fun y_1=>M.bind (gdo (y&&y_1
 &&decide (0≤x.2.1.1)&&decide (x.2.1.1≤x.2.1.2)&&decide (x.2.1.2≤99)) (c_ref08_within (x.2.2.1,0,99)) false) fun y_2=>M.bind (gdo (y&&
 y_1&&decide (0≤x.2.1.1)&&decide (x.2.1.1≤x.2.1.2)&&decide (x.2.1.2≤99)&&y_2) (c_ref08_within (x.2.2.2.1,0,99)) false) fun y_3=>
 M.bind (gdo (y&&y_1&&decide (0≤x.2.1.1)&&decide (x.2.1.1≤x.2.1.2)&&decide (x.2.1.2≤99)&&y_2&&y_3) (c_ref08_within (x.2.2.2.2,0,
 100000)) false) fun y_4=>M.pure (y&&y_1&&decide (0≤x.2.1.1)&&decide (x.2.1.1≤x.2.1.2)&&decide (x.2.1.2≤99)&&y_2&&y_3&&y_4)
def S_orders_isPiece (c_orders_within:Int×Int×Int→M Bool) (x:Shop×Int):M Bool:=
 M.bind (c_orders_within (x.2,0,IntKind.wrap .i64 (Int.ofNat (List.length x.1.2.2.1) - 1))) fun y=>M.pure y
def S_orders_suits (c_orders_within:Int×Int×Int→M Bool) (c_slices_Contains_int_int:List Int×Int→M Bool) (x:(List Int×(Int×Int)×Int×Int×Int)×Int×Int×Int×Int×List Int):M Int:=
 M.bind (c_slices_Contains_int_int (x.1.1,x.2.1)) fun y=>M.bind (gdo (!!y) (c_orders_within (x.2.2.1,x.1.2.1)) false) fun y_1=>if (!y||!y_1)=
 true then M.pure 0 else if decide (x.2.2.2.1=x.1.2.2.1)=true then M.pure 1 else if decide (x.2.2.2.1=0)=true then M.pure 2 else M.pure 0
def S_ref08_known (c_ref08_Check:Shop→M Int) (c_ref07_Known:List (Int×Int×Int×Int)×List (List (Int×List Int×Int×Int))×Int×List (Int×Int×Int×Int)→M Int) (x:Shop×Bool):M Int:=
 M.bind (c_ref08_Check x.1) fun y=>if decide (y≠0)=true then M.pure y else if (!x.2)=true then M.pure 1 else M.bind (c_ref07_Known x.1.1) fun y
 =>M.pure y
def S_orders_store_best (c_slices_Repeat_int_int:List Int×Int→M (List Int)) (c_orders_store_filled:Option Sto×List Int→M Bool) (c_orders_store_takings:Option Sto×List Int→M Int) (itpre_111:Option Sto→Prop) (itseq_111:Option Sto→List (List Int)) (x:Option Sto):M (List Int):=
 M.req (Option.isSome x=true) (M.bind (c_slices_Repeat_int_int ([-1],Int.ofNat (List.length (Option.getD x ((([],[],0,[]),[],[],[],[],0),
 [],[])).1.2.2.2.1))) fun y=>M.req (itpre_111 x) (M.bind (rounds (fun (σ:Option ((Wsh×List Int×List Pc×List
 (List Int×(Int×Int)×Int×Int×Int)×List (Int×Int×Int)×Int)×List (Int×Int)×List ((Int×Int×Int)×Int))×List Int×Unit) (y
 : List Int)=>M.bind (M.req (c_orders_store_takings (σ.1,y)).safe (M.req (c_orders_store_takings (σ.1,σ.2.1)).safe (M.req (decide (M.val
 (c_orders_store_takings (σ.1,y)) 0 > M.val (c_orders_store_takings (σ.1,σ.2.1)) 0)=true→(decide (M.val (c_orders_store_takings (σ.1,y)) 0 >
 M.val (c_orders_store_takings (σ.1,σ.2.1)) 0)=true∧decide (M.val (c_orders_store_takings (σ.1,y)) 0 > M.val (c_orders_store_takings (σ.1,
 σ.2.1)) 0)=true∧True)∧(c_orders_store_filled (σ.1,y)).safe∧True) (M.req (True∧(decide (M.val (c_orders_store_takings (σ.1,y)) 0 > M.val
 (c_orders_store_takings (σ.1,σ.2.1)) 0)=true→decide (M.val (c_orders_store_takings (σ.1,y)) 0 > M.val (c_orders_store_takings (σ.1,σ.2.1)) 0)
 =true)) (if (decide (M.val (c_orders_store_takings (σ.1,y)) 0 > M.val (c_orders_store_takings (σ.1,σ.2.1)) 0)&&M.val (c_orders_store_filled
 (σ.1,y)) false)=true then M.pure (Ex.normal,σ.1,y,()) else M.pure (Ex.normal,σ.1,σ.2.1,())))))) fun p=>M.pure (p.1,p.2.1,p.2.2.1,()))
 (itseq_111 x) (x,y,())) fun p=>exC (M.pure p.2.2.1) (fun id=>if id=0 then M.pure p.2.2.1 else M.fail) M.fail p.1))
def S_orders_store_takings  (x:Option Sto×List Int):M Int:=
 M.bind (M.loop (fun (σ:Option ((Wsh×List Int×List Pc×List Wi×List
 (Int×Int×Int)×Int)×List (Int×Int)×List ((Int×Int×Int)×Int))×Int×List Int×Int×Int×Unit)=>if decide (σ.2.2.2.2.1 <
 σ.2.2.2.1)=true then M.bind (M.req (0≤σ.2.2.2.2.1∧σ.2.2.2.2.1<Int.ofNat (List.length σ.2.2.1)) (if decide (List.getD σ.2.2.1 (Int.toNat
 σ.2.2.2.2.1) (0:Int)≠-1)=true then M.req (Option.isSome σ.1=true) (M.req (0≤σ.2.2.2.2.1∧σ.2.2.2.2.1<Int.ofNat (List.length (Option.getD
 σ.1 ((([],[],0,[]),[],[],[],[],0),[],[])).1.2.2.2.1)) (M.pure (Step.next (σ.1,IntKind.wrap .i64 (Add.add σ.2.1 (List.getD (Option.getD σ.1
 ((([],[],0,[]),[],[],[],[],0),[],[])).1.2.2.2.1 (Int.toNat σ.2.2.2.2.1) ([],(0,0),0,0,0)).2.2.2.2),σ.2.2.1,σ.2.2.2.1,σ.2.2.2.2.1,
 ())))) else M.pure (Step.next (σ.1,σ.2.1,σ.2.2.1,σ.2.2.2.1,σ.2.2.2.2.1,())))) (Step.go fun (σ:Option ((Wsh×List Int×List (Int×Int×Int
 ×Int×List Int)×List Wi×List (Int×Int×Int)×Int)×List (Int×Int)×List ((Int×Int×Int)×
 Int))×Int×List Int×Int×Int×Unit)=>M.pure (Step.next (σ.1,σ.2.1,σ.2.2.1,σ.2.2.2.1,IntKind.wrap .i64 (Add.add σ.2.2.2.2.1 1),())))
 else M.bind (M.pure (Step.next (σ.2.1,()))) fun r=>M.pure (Step.done r)) (x.1,0,x.2,Int.ofNat (List.length x.2),0,())) (Step.go fun (σ:Int
 ×Unit)=>M.pure σ.1)
def S_slices_Repeat_orders_spare_orders_spare (c_math_bits_Mul:Int×Int→M (Int×Int)) (x:List (Int×Int)×Int):M (List (Int×Int)):=
 M.bind (if decide (x.2<0)=true then M.req False (M.req False (M.pure (Step.next (x.1,x.2,())))) else M.pure (Step.next (x.1,x.2,())))
 (Step.go fun (σ:List (Int×Int)×Int×Unit)=>M.bind (c_math_bits_Mul (IntKind.wrap .u64 (Int.ofNat (List.length σ.1)),IntKind.wrap .u64
 σ.2.1)) fun y=>M.bind (if (decide (y.1 > 0)||decide (y.2 > 9223372036854775807))=true then M.req False (M.req False (M.pure (Step.next (σ.1,
 y.2,())))) else M.pure (Step.next (σ.1,y.2,()))) (Step.go fun (σ:List (Int×Int)×Int×Unit)=>M.req (0≤IntKind.wrap .i64 σ.2.1∧
 IntKind.wrap .i64 σ.2.1=IntKind.wrap .i64 σ.2.1∧lenLe (Int.toNat (IntKind.wrap .i64 σ.2.1))) (M.req True (M.bind (M.loop (fun (σ:Int×List
 (Int×Int)×Unit)=>if decide (σ.1<Int.ofNat (List.length σ.2.1))=true then M.req (0≤σ.1∧σ.1≤Int.ofNat (List.length σ.2.1)∧Int.ofNat
 (List.length σ.2.1)≤Int.ofNat (List.length σ.2.1)) (M.req ((0:Int)≤0∧0≤σ.1∧σ.1≤Int.ofNat (List.length σ.2.1)) (M.req True (M.pure
 (Step.next (IntKind.wrap .i64 (Add.add σ.1 (Int.ofNat (if Int.toNat (Int.ofNat (List.length σ.2.1)) - Int.toNat σ.1≤List.length (List.take
 (Int.toNat σ.1) σ.2.1) then Int.toNat (Int.ofNat (List.length σ.2.1)) - Int.toNat σ.1 else List.length (List.take (Int.toNat σ.1) σ.2.1)))),
 List.take (Int.toNat σ.1) σ.2.1++List.take (Int.toNat (Int.ofNat (List.length σ.2.1)) - Int.toNat σ.1) (List.take (Int.toNat σ.1) σ.2.1)++
 List.drop (Add.add (Int.toNat σ.1) (List.length (List.take (Int.toNat (Int.ofNat (List.length σ.2.1)) - Int.toNat σ.1) (List.take (Int.toNat σ.1)
 σ.2.1)))) σ.2.1,()))))) else M.bind (M.pure (Step.next (σ.2.1,()))) fun r=>M.pure (Step.done r)) (Int.ofNat (if List.length (List.replicate
 (Int.toNat (IntKind.wrap .i64 σ.2.1)) ((0:Int),(0:Int))) - 0≤List.length σ.1 then List.length (List.replicate (Int.toNat (IntKind.wrap .i64 σ.2.1)) ((0:Int),(0:Int))) -
 0 else List.length σ.1),[]++List.take (List.length (List.replicate (Int.toNat (IntKind.wrap .i64 σ.2.1)) ((0:Int),(0:Int))) - 0) σ.1++List.drop (Add.add 0
 (List.length (List.take (List.length (List.replicate (Int.toNat (IntKind.wrap .i64 σ.2.1)) ((0:Int),(0:Int))) - 0) σ.1))) (List.replicate (Int.toNat
 (IntKind.wrap .i64 σ.2.1)) ((0:Int),(0:Int))),())) (Step.go fun (σ:List (Int×Int)×Unit)=>M.pure σ.1)))))
def S_orders_store_good  (x:Option Sto×(Int×Int)×Int×Int×Int):M Bool:=
 M.req (decide (x.2.1.2≤x.2.2.2.2)=true→decide (x.2.1.2≤x.2.2.2.2)=true∧Option.isSome x.1=true∧True) (M.req (decide (x.2.1.2≤
 x.2.2.2.2)=true→decide (x.2.1.2≤x.2.2.2.2)=true∧True∧True) (M.req (decide (x.2.1.2≤x.2.2.2.2)=true→decide (x.2.1.2≤x.2.2.2.2)=
 true∧True∧True) (M.req (decide (x.2.1.2≤x.2.2.2.2)=true→decide (x.2.1.2≤x.2.2.2.2)=true∧True∧True) (M.req (decide (x.2.1.2≤
 x.2.2.2.2)=true→decide (x.2.1.2≤x.2.2.2.2)=true∧True∧True) (M.req (decide (x.2.1.2≤x.2.2.2.2)=true→decide (x.2.1.2≤x.2.2.2.2)=
 true∧True∧True) (M.req (decide (x.2.1.2≤x.2.2.2.2)=true→(decide (x.2.1.2≤x.2.2.2.2)=true∧decide (x.2.1.2≤x.2.2.2.2)=true∧decide
 (x.2.1.2≤x.2.2.2.2)=true∧True)∧True∧True) (M.req (decide (x.2.1.2≤x.2.2.2.2)=true→(decide (x.2.1.2≤x.2.2.2.2)=true∧decide
 (x.2.1.2≤x.2.2.2.2)=true)∧True∧True) (M.req (decide (x.2.1.2≤x.2.2.2.2)=true→(decide (x.2.1.2≤x.2.2.2.2)=true∧True)∧True∧
 True) (M.req (True∧(decide (x.2.1.2≤x.2.2.2.2)=true→decide (x.2.1.2≤x.2.2.2.2)=true)) (M.pure (decide (x.2.1.2≤x.2.2.2.2)&&decide
 (Option.getD (Option.map (fun x=>x.2) (List.find? (fun p=>decide (x.2.1.1=p.1.1)&&(decide (x.2.2.1=p.1.2.1)&&decide (x.2.2.2.1=
 p.1.2.2))) (Option.getD x.1 ((([],[],0,[]),[],[],[],[],0),[],[])).2.2)) (0:Int) > 0))))))))))))
def S_orders_within  (x:Int×Int×Int):M Bool:=
 M.pure (decide (x.2.1≤x.1)&&decide (x.1≤x.2.2))
def S_orders_isShop_c1 (c_orders_within:Int×Int×Int→M Bool) (c_orders_isMark:Int→M Bool) (c_orders_rising:List Int×(Int→M Bool)→M Bool) (c_orders_isShop_c1_c1:Int×Option Wsh×Option (Int×Int×Int×Int×List Int)→M Bool) (x:(Int×Int×Int×Int×List Int)×Option Wsh):M Bool:=
 (M.bind (c_orders_isMark x.1.1) fun y=>M.bind (gdo (!!y) (c_orders_isMark x.1.2.1) false) fun y_1=>M.bind (gdo (!(!y||!y_1)) (c_orders_isMark
 x.1.2.2.1) false) fun y_2=>M.bind (gdo (!(!y||!y_1||!y_2)) (c_orders_within (x.1.2.2.2.1,0,IntKind.wrap .i64 (Int.ofNat (List.length
 (Option.getD x.2 ([],[],0,[])).2.1) - 1))) false) fun y_3=>M.bind (gdo (!(!y||!y_1||!y_2||!y_3)) (c_orders_rising (x.1.2.2.2.2,fun x_1=>
 c_orders_isShop_c1_c1 (x_1,some (Option.getD x.2 ([],[],0,[])),some x.1))) false) fun y_4=>M.pure (!y||!y_1||!y_2||!y_3||!y_4))
def S_orders_isMark (c_orders_within:Int×Int×Int→M Bool) (x:Int):M Bool:=
 M.bind (c_orders_within (x,0,99)) fun y=>M.pure y
def S_orders_rising  (x:List Int×(Int→M Bool)):M Bool:=
 M.bind (M.loop (fun (σ:List Int×(Int→M Bool)×List Int×Int×Int×Unit)=>if decide (σ.2.2.2.2.1<σ.2.2.2.1)=true then M.req (0≤
 σ.2.2.2.2.1∧σ.2.2.2.2.1<Int.ofNat (List.length σ.2.2.1)) (M.bind (σ.2.1 (List.getD σ.2.2.1 (Int.toNat σ.2.2.2.2.1) 0)) fun y=>M.req ((!!y&&
 decide (σ.2.2.2.2.1 > 0))=true→((!!y&&decide (σ.2.2.2.2.1 > 0))=true∧(!!y&&decide (σ.2.2.2.2.1 > 0))=true)∧(0≤IntKind.wrap .i64
 (σ.2.2.2.2.1 - 1)∧IntKind.wrap .i64 (σ.2.2.2.2.1 - 1)<Int.ofNat (List.length σ.1))∧True) (if (!y||decide (σ.2.2.2.2.1 > 0)&&decide
 (List.getD σ.2.2.1 (Int.toNat σ.2.2.2.2.1) 0≤List.getD σ.1 (Int.toNat (IntKind.wrap .i64 (σ.2.2.2.2.1 - 1))) 0))=true then M.bind (M.bind (M.pure
 false) fun r=>M.pure (Step.done r)) fun r=>M.pure (Step.done r) else M.pure (Step.next (σ.1,σ.2.1,σ.2.2.1,σ.2.2.2.1,IntKind.wrap .i64
 (Add.add σ.2.2.2.2.1 1),())))) else M.bind (M.pure (Step.next ())) fun r=>M.pure (Step.done r)) (x.1,x.2,x.1,Int.ofNat (List.length x.1),0,
 ())) (Step.go fun (σ:Unit)=>M.pure true)
def S_orders_isShop_c1_c1 (c_orders_within:Int×Int×Int→M Bool) (x:Int×Option Wsh×Option (Int×Int×Int×Int×List Int)):M Bool:=
 (M.req (0≤(Option.getD x.2.2 (0,0,0,0,[])).2.2.2.1∧(Option.getD x.2.2 (0,0,0,0,[])).2.2.2.1<Int.ofNat (List.length (Option.getD x.2.1
 ([],[],0,[])).2.1)) (M.bind (c_orders_within (x.1,0,IntKind.wrap .i64 (Int.ofNat (List.length (List.getD (Option.getD x.2.1 ([],[],0,[])).2.1
 (Int.toNat (Option.getD x.2.2 (0,0,0,0,[])).2.2.2.1) [])) - 1))) fun y=>M.pure y))
def S_orders_isShop_c2 (c_orders_within:Int×Int×Int→M Bool) (c_orders_isMark:Int→M Bool) (c_orders_rising:List Int×(Int→M Bool)→M Bool) (c_orders_isDue:Int→M Bool) (x:List Int×(Int×Int)×Int×Int×Int):M Bool:=
 M.bind (c_orders_within (Int.ofNat (List.length x.1),1,8)) fun y=>M.bind (gdo (!!y) (c_orders_rising (x.1,c_orders_isMark)) false) fun y_1=>
 M.bind (gdo (!(!y||!y_1)) (c_orders_isMark x.2.1.1) false) fun y_2=>M.bind (gdo (!(!y||!y_1||!y_2)) (c_orders_isMark x.2.1.2) false) fun y_3
 =>M.bind (gdo (!(!y||!y_1||!y_2||!y_3||decide (x.2.1.1 > x.2.1.2))) (c_orders_isMark x.2.2.1) false) fun y_4=>M.bind (gdo (!(!y||!y_1||
 !y_2||!y_3||decide (x.2.1.1 > x.2.1.2)||!y_4)) (c_orders_isDue x.2.2.2.1) false) fun y_5=>M.bind (gdo (!(!y||!y_1||!y_2||!y_3||decide
 (x.2.1.1 > x.2.1.2)||!y_4||!y_5)) (c_orders_within (x.2.2.2.2,0,100000)) false) fun y_6=>M.pure (!y||!y_1||!y_2||!y_3||decide
 (x.2.1.1 > x.2.1.2)||!y_4||!y_5||!y_6)
def S_orders_isDue (c_orders_within:Int×Int×Int→M Bool) (x:Int):M Bool:=
 M.bind (c_orders_within (x,0,99)) fun y=>M.pure y
def S_orders_isShop_c3 (c_orders_within:Int×Int×Int→M Bool) (c_orders_isDue:Int→M Bool) (x:(Int×Int×Int)×Option Wsh):M Bool:=
 (M.bind (c_orders_isDue x.1.1) fun y=>M.bind (gdo (!!y) (c_orders_within (x.1.2.1,0,IntKind.wrap .i64 (Int.ofNat (List.length (Option.getD x.2
 ([],[],0,[])).1) - 1))) false) fun y_1=>M.bind (gdo (!(!y||!y_1)) (c_orders_within (x.1.2.2,1,10)) false) fun y_2=>M.pure (!y||!y_1||
 !y_2))
def S_orders_isShop_c4 (c_orders_within:Int×Int×Int→M Bool) (x:Int):M Bool:=
 M.bind (c_orders_within (x,0,10)) fun y=>M.pure !y
def S_slices_ContainsFunc_api_Piece_api_Piece (c_slices_IndexFunc_api_Piece_api_Piece:List Pc×(Int×Int×Int×Int×List Int→M Bool)→M Int) (x:List Pc×(Int×Int×Int×Int×List Int→M Bool)):M Bool:=
 M.bind (c_slices_IndexFunc_api_Piece_api_Piece x) fun y=>M.pure (decide (y≥0))
def S_slices_ContainsFunc_api_Wish_api_Wish (c_slices_IndexFunc_api_Wish_api_Wish:List Wi×(List Int×(Int×Int)×Int×Int×Int→M Bool)→M Int) (x:List Wi×(List Int×(Int×Int)×Int×Int×Int→M Bool)):M Bool:=
 M.bind (c_slices_IndexFunc_api_Wish_api_Wish x) fun y=>M.pure (decide (y≥0))
def S_slices_ContainsFunc_api_Delivery_api_Delivery (c_slices_IndexFunc_api_Delivery_api_Delivery:List (Int×Int×Int)×(Int×Int×Int→M Bool)→M Int) (x:List (Int×Int×Int)×(Int×Int×Int→M Bool)):M Bool:=
 M.bind (c_slices_IndexFunc_api_Delivery_api_Delivery x) fun y=>M.pure (decide (y≥0))
def S_ref08_rising  (x:List Int×Int):M Bool:=
 M.bind (M.loop (fun (σ:List Int×Int×Int×Unit)=>if decide (σ.2.2.1<Int.ofNat (List.length σ.1))=true then M.req (0≤σ.2.2.1∧σ.2.2.1 <
 Int.ofNat (List.length σ.1)) (M.req ((!decide (List.getD σ.1 (Int.toNat σ.2.2.1) (0:Int)<0))=true→((!decide (List.getD σ.1 (Int.toNat
 σ.2.2.1) (0:Int)<0))=true∧(!decide (List.getD σ.1 (Int.toNat σ.2.2.1) (0:Int)<0))=true)∧(0≤σ.2.2.1∧σ.2.2.1<Int.ofNat
 (List.length σ.1))∧True) (M.req ((!decide (List.getD σ.1 (Int.toNat σ.2.2.1) (0:Int)<0))=true→(!decide (List.getD σ.1 (Int.toNat σ.2.2.1)
 (0:Int)<0))=true∧True∧True) (M.req ((!decide (List.getD σ.1 (Int.toNat σ.2.2.1) (0:Int)<0))=true→((!decide (List.getD σ.1
 (Int.toNat σ.2.2.1) (0:Int)<0))=true∧(!decide (List.getD σ.1 (Int.toNat σ.2.2.1) (0:Int)<0))=true)∧True∧True) (M.req (True∧
 (decide (List.getD σ.1 (Int.toNat σ.2.2.1) (0:Int)<0)=false→(!decide (List.getD σ.1 (Int.toNat σ.2.2.1) (0:Int)<0))=true)) (M.req
 ((!(decide (List.getD σ.1 (Int.toNat σ.2.2.1) (0:Int)<0)||decide (List.getD σ.1 (Int.toNat σ.2.2.1) 0 > σ.2.1)))=true→((!(decide (List.getD
 σ.1 (Int.toNat σ.2.2.1) (0:Int)<0)||decide (List.getD σ.1 (Int.toNat σ.2.2.1) 0 > σ.2.1)))=true∧True)∧True∧True) (M.req ((!(decide
 (List.getD σ.1 (Int.toNat σ.2.2.1) (0:Int)<0)||decide (List.getD σ.1 (Int.toNat σ.2.2.1) 0 > σ.2.1)))=true→True∧True∧(!(decide
 (List.getD σ.1 (Int.toNat σ.2.2.1) (0:Int)<0)||decide (List.getD σ.1 (Int.toNat σ.2.2.1) 0 > σ.2.1)))=true) (M.req ((!(decide (List.getD σ.1
 (Int.toNat σ.2.2.1) (0:Int)<0)||decide (List.getD σ.1 (Int.toNat σ.2.2.1) 0 > σ.2.1))&&decide (σ.2.2.1 > 0))=true→((!(decide (List.getD
 σ.1 (Int.toNat σ.2.2.1) (0:Int)<0)||decide (List.getD σ.1 (Int.toNat σ.2.2.1) 0 > σ.2.1))&&decide (σ.2.2.1 > 0))=true∧(!(decide
 (List.getD σ.1 (Int.toNat σ.2.2.1) (0:Int)<0)||decide (List.getD σ.1 (Int.toNat σ.2.2.1) 0 > σ.2.1))&&decide (σ.2.2.1 > 0))=true)∧(0≤
 σ.2.2.1∧σ.2.2.1<Int.ofNat (List.length σ.1))∧True) (M.req ((!(decide (List.getD σ.1 (Int.toNat σ.2.2.1) (0:Int)<0)||decide (List.getD σ.1
 (Int.toNat σ.2.2.1) 0 > σ.2.1))&&decide (σ.2.2.1 > 0))=true→(!(decide (List.getD σ.1 (Int.toNat σ.2.2.1) (0:Int)<0)||decide (List.getD
 σ.1 (Int.toNat σ.2.2.1) 0 > σ.2.1))&&decide (σ.2.2.1 > 0))=true∧True∧True) (M.req ((!(decide (List.getD σ.1 (Int.toNat σ.2.2.1) (0:Int) <
 0)||decide (List.getD σ.1 (Int.toNat σ.2.2.1) 0 > σ.2.1))&&decide (σ.2.2.1 > 0))=true→((!(decide (List.getD σ.1 (Int.toNat σ.2.2.1) (0:Int)
 < 0)||decide (List.getD σ.1 (Int.toNat σ.2.2.1) 0 > σ.2.1))&&decide (σ.2.2.1 > 0))=true∧True)∧True∧True) (M.req ((!(decide (List.getD σ.1
 (Int.toNat σ.2.2.1) (0:Int)<0)||decide (List.getD σ.1 (Int.toNat σ.2.2.1) 0 > σ.2.1))&&decide (σ.2.2.1 > 0))=true→((!(decide (List.getD
 σ.1 (Int.toNat σ.2.2.1) (0:Int)<0)||decide (List.getD σ.1 (Int.toNat σ.2.2.1) 0 > σ.2.1))&&decide (σ.2.2.1 > 0))=true∧(!(decide
 (List.getD σ.1 (Int.toNat σ.2.2.1) (0:Int)<0)||decide (List.getD σ.1 (Int.toNat σ.2.2.1) 0 > σ.2.1))&&decide (σ.2.2.1 > 0))=true)∧(0≤
 IntKind.wrap .i64 (σ.2.2.1 - 1)∧IntKind.wrap .i64 (σ.2.2.1 - 1)<Int.ofNat (List.length σ.1))∧True) (M.req ((!(decide (List.getD σ.1 (Int.toNat
 σ.2.2.1) (0:Int)<0)||decide (List.getD σ.1 (Int.toNat σ.2.2.1) 0 > σ.2.1))&&decide (σ.2.2.1 > 0))=true→(!(decide (List.getD σ.1
 (Int.toNat σ.2.2.1) (0:Int)<0)||decide (List.getD σ.1 (Int.toNat σ.2.2.1) 0 > σ.2.1))&&decide (σ.2.2.1 > 0))=true∧True∧True) (M.req
 ((!(decide (List.getD σ.1 (Int.toNat σ.2.2.1) (0:Int)<0)||decide (List.getD σ.1 (Int.toNat σ.2.2.1) 0 > σ.2.1))&&decide (σ.2.2.1 > 0))=true
 →((!(decide (List.getD σ.1 (Int.toNat σ.2.2.1) (0:Int)<0)||decide (List.getD σ.1 (Int.toNat σ.2.2.1) 0 > σ.2.1))&&decide (σ.2.2.1 > 0))=
 true∧(!(decide (List.getD σ.1 (Int.toNat σ.2.2.1) (0:Int)<0)||decide (List.getD σ.1 (Int.toNat σ.2.2.1) 0 > σ.2.1))&&decide (σ.2.2.1 > 0))
 =true)∧True∧True) (M.req ((!(decide (List.getD σ.1 (Int.toNat σ.2.2.1) (0:Int)<0)||decide (List.getD σ.1 (Int.toNat σ.2.2.1) 0 > σ.2.1)))
 =true→((!(decide (List.getD σ.1 (Int.toNat σ.2.2.1) (0:Int)<0)||decide (List.getD σ.1 (Int.toNat σ.2.2.1) 0 > σ.2.1)))=true∧(decide
 (σ.2.2.1 > 0)=true→(!(decide (List.getD σ.1 (Int.toNat σ.2.2.1) (0:Int)<0)||decide (List.getD σ.1 (Int.toNat σ.2.2.1) 0 > σ.2.1))&&decide
 (σ.2.2.1 > 0))=true))∧True∧True) (M.req (True∧((decide (List.getD σ.1 (Int.toNat σ.2.2.1) (0:Int)<0)||decide (List.getD σ.1 (Int.toNat
 σ.2.2.1) 0 > σ.2.1))=false→(!(decide (List.getD σ.1 (Int.toNat σ.2.2.1) (0:Int)<0)||decide (List.getD σ.1 (Int.toNat σ.2.2.1) 0 > σ.2.1)))
 =true)) (if (decide (List.getD σ.1 (Int.toNat σ.2.2.1) (0:Int)<0)||decide (List.getD σ.1 (Int.toNat σ.2.2.1) 0 > σ.2.1)||decide (σ.2.2.1 >
 0)&&decide (List.getD σ.1 (Int.toNat σ.2.2.1) 0≤List.getD σ.1 (Int.toNat (IntKind.wrap .i64 (σ.2.2.1 - 1))) 0))=true then M.bind (M.bind
 (M.pure false) fun r=>M.pure (Step.done r)) fun r=>M.pure (Step.done r) else M.pure (Step.next (σ.1,σ.2.1,IntKind.wrap .i64 (Add.add σ.2.2.1
 1),()))))))))))))))))) else M.bind (M.pure (Step.next ())) fun r=>M.pure (Step.done r)) (x.1,x.2,0,())) (Step.go fun (σ:Unit)=>M.pure true)
def S_slices_IndexFunc_api_Piece_api_Piece  (x:List Pc×(Int×Int×Int×Int×List Int→M Bool)):M Int:=
 M.bind (M.loop (fun (σ:List Pc×(Int×Int×Int×Int×List Int→M Bool)×Int×Int×Unit)=>if decide
 (σ.2.2.2.1<σ.2.2.1)=true then M.req (0≤σ.2.2.2.1∧σ.2.2.2.1<Int.ofNat (List.length σ.1)) (M.bind (σ.2.1 (List.getD σ.1 (Int.toNat σ.2.2.2.1)
 (0,0,0,0,[]))) fun y=>if y=true then M.bind (M.bind (M.pure σ.2.2.2.1) fun r=>M.pure (Step.done r)) fun r=>M.pure (Step.done r) else
 M.pure (Step.next (σ.1,σ.2.1,σ.2.2.1,IntKind.wrap .i64 (Add.add σ.2.2.2.1 1),()))) else M.bind (M.pure (Step.next ())) fun r=>M.pure (Step.done
 r)) (x.1,x.2,Int.ofNat (List.length x.1),0,())) (Step.go fun (σ:Unit)=>M.pure (-1))
def S_slices_IndexFunc_api_Wish_api_Wish  (x:List Wi×(List Int×(Int×Int)×Int×Int×Int→M Bool)):M Int:=
 M.bind (M.loop (fun (σ:List Wi×(List Int×(Int×Int)×Int×Int×Int→M Bool)×Int×Int×Unit)=>
 if decide (σ.2.2.2.1<σ.2.2.1)=true then M.req (0≤σ.2.2.2.1∧σ.2.2.2.1<Int.ofNat (List.length σ.1)) (M.bind (σ.2.1 (List.getD σ.1 (Int.toNat
 σ.2.2.2.1) ([],(0,0),0,0,0))) fun y=>if y=true then M.bind (M.bind (M.pure σ.2.2.2.1) fun r=>M.pure (Step.done r)) fun r=>M.pure
 (Step.done r) else M.pure (Step.next (σ.1,σ.2.1,σ.2.2.1,IntKind.wrap .i64 (Add.add σ.2.2.2.1 1),()))) else M.bind (M.pure (Step.next ())) fun r
 =>M.pure (Step.done r)) (x.1,x.2,Int.ofNat (List.length x.1),0,())) (Step.go fun (σ:Unit)=>M.pure (-1))
def S_slices_IndexFunc_api_Delivery_api_Delivery  (x:List (Int×Int×Int)×(Int×Int×Int→M Bool)):M Int:=
 M.bind (M.loop (fun (σ:List (Int×Int×Int)×(Int×Int×Int→M Bool)×Int×Int×Unit)=>if decide (σ.2.2.2.1<σ.2.2.1)=true then M.req
 (0≤σ.2.2.2.1∧σ.2.2.2.1<Int.ofNat (List.length σ.1)) (M.bind (σ.2.1 (List.getD σ.1 (Int.toNat σ.2.2.2.1) (0,0,0))) fun y=>if y=true then
 M.bind (M.bind (M.pure σ.2.2.2.1) fun r=>M.pure (Step.done r)) fun r=>M.pure (Step.done r) else M.pure (Step.next (σ.1,σ.2.1,σ.2.2.1,
 IntKind.wrap .i64 (Add.add σ.2.2.2.1 1),()))) else M.bind (M.pure (Step.next ())) fun r=>M.pure (Step.done r)) (x.1,x.2,Int.ofNat (List.length
 x.1),0,())) (Step.go fun (σ:Unit)=>M.pure (-1))
def S_orders_store_all (c_orders_store_plans:Option Sto×List Int×Int×Nat×(Nat×List (List Int)×Nat×Bool)×Unit→M (Bool×(Nat×List (List Int)×Nat×Bool)×Unit)) (x:Option Sto×Nat×(Nat×List (List Int)×Nat×Bool)×Unit):M ((Nat×List (List Int)×Nat×Bool)×Unit):=
 M.bind (c_orders_store_plans (x.1,[],1,x.2.1,x.2.2.1,())) fun y=>M.pure (y.2.1,())
def S_slices_Clone  (x:List (Int×Int×Int)×Unit):M (List (Int×Int×Int)×Unit):=
 M.bind (M.any fun b=>b=true→x.1=[]) fun y=>if y=true then M.fail else M.req (lenLe (Add.add 0 (List.length x.1))) (M.pure ([]++x.1,
 ()))
def S_ref08_CopyIO (c_ref07_Copy:List (Int×Int×Int×Int)×List (List (Int×List Int×Int×Int))×Int×List (Int×Int×Int×Int)→M Wsh) (x:Shop×Unit):M (Cop):=
 M.bind (c_ref07_Copy x.1.1) fun y=>M.req (lenLe (Add.add 0 (List.length x.1.2.1))) (M.req (lenLe (Add.add 0 (List.length x.1.2.2.1))) (M.req (lenLe
 (Add.add 0 (List.length x.1.2.2.2.1))) (M.req (lenLe (Add.add 0 (List.length x.1.2.2.2.2.1))) (M.bind (M.loop (fun (σ:Int×(Wsh×List Int×List
 (Int×Int×Int×Int×List Int)×List Wi×List (Int×Int×Int)×Int)×Int×Int×List (Int×Int×
 Int×Int)×List (List (Int×List Int×Int×Int))×Int×List (Int×Int×Int×Int)×Int×List Int×List Pc
 ×List Wi×List (Int×Int×Int)×Unit)=>if decide (σ.1<Int.ofNat (List.length
 σ.2.2.2.2.2.2.2.2.2.2.1))=true then M.req (0≤σ.1∧σ.1<Int.ofNat (List.length σ.2.1.2.2.1)) (M.req (lenLe (Add.add 0 (List.length (List.getD
 σ.2.1.2.2.1 (Int.toNat σ.1) (0,0,0,0,[])).2.2.2.2))) (M.req (0≤σ.1∧σ.1<Int.ofNat (List.length σ.2.2.2.2.2.2.2.2.2.2.1)) (M.pure (Step.next
 (IntKind.wrap .i64 (Add.add σ.1 1),σ.2.1,σ.2.2.1,σ.2.2.2.1,σ.2.2.2.2.1,σ.2.2.2.2.2.1,σ.2.2.2.2.2.2.1,σ.2.2.2.2.2.2.2.1,σ.2.2.2.2.2.2.2.2.1,
 σ.2.2.2.2.2.2.2.2.2.1,List.set σ.2.2.2.2.2.2.2.2.2.2.1 (Int.toNat σ.1) ((List.getD σ.2.2.2.2.2.2.2.2.2.2.1 (Int.toNat σ.1) (0,0,0,0,[])).1,
 (List.getD σ.2.2.2.2.2.2.2.2.2.2.1 (Int.toNat σ.1) (0,0,0,0,[])).2.1,(List.getD σ.2.2.2.2.2.2.2.2.2.2.1 (Int.toNat σ.1) (0,0,0,0,[])).2.2.1,
 (List.getD σ.2.2.2.2.2.2.2.2.2.2.1 (Int.toNat σ.1) (0,0,0,0,[])).2.2.2.1,[]++(List.getD σ.2.1.2.2.1 (Int.toNat σ.1) (0,0,0,0,
 [])).2.2.2.2),σ.2.2.2.2.2.2.2.2.2.2.2.1,σ.2.2.2.2.2.2.2.2.2.2.2.2.1,()))))) else M.bind (M.pure (Step.next (σ.2.1,σ.2.2.1,σ.2.2.2.1,
 σ.2.2.2.2.1,σ.2.2.2.2.2.1,σ.2.2.2.2.2.2.1,σ.2.2.2.2.2.2.2.1,σ.2.2.2.2.2.2.2.2.1,σ.2.2.2.2.2.2.2.2.2.1,σ.2.2.2.2.2.2.2.2.2.2.1,
 σ.2.2.2.2.2.2.2.2.2.2.2.1,σ.2.2.2.2.2.2.2.2.2.2.2.2.1,()))) fun r=>M.pure (Step.done r)) (0,x.1,0,0,y.1,y.2.1,y.2.2.1,y.2.2.2,
 x.1.2.2.2.2.2,[]++x.1.2.1,[]++x.1.2.2.1,[]++x.1.2.2.2.1,[]++x.1.2.2.2.2.1,())) (Step.go fun (σ:(Wsh×List Int×List (Int×Int×Int
 ×Int×List Int)×List Wi×List (Int×Int×Int)×Int)×Int×Int×List (Int×Int×Int×Int)×List
 (List (Int×List Int×Int×Int))×Int×List (Int×Int×Int×Int)×Int×List Int×List Pc×List (List Int
 ×(Int×Int)×Int×Int×Int)×List (Int×Int×Int)×Unit)=>M.bind (M.loop (fun (σ:Int×(Wsh×List Int×List (Int×Int×Int×Int×
 List Int)×List Wi×List (Int×Int×Int)×Int)×Int×Int×List (Int×Int×Int×Int)×List (List
 (Int×List Int×Int×Int))×Int×List (Int×Int×Int×Int)×Int×List Int×List Pc×List (List Int×(Int
 ×Int)×Int×Int×Int)×List (Int×Int×Int)×Unit)=>if decide (σ.1<Int.ofNat (List.length σ.2.2.2.2.2.2.2.2.2.2.2.1))=true then M.req
 (0≤σ.1∧σ.1<Int.ofNat (List.length σ.2.1.2.2.2.1)) (M.req (lenLe (Add.add 0 (List.length (List.getD σ.2.1.2.2.2.1 (Int.toNat σ.1) ([],(0,0),
 0,0,0)).1))) (M.req (0≤σ.1∧σ.1<Int.ofNat (List.length σ.2.2.2.2.2.2.2.2.2.2.2.1)) (M.pure (Step.next (IntKind.wrap .i64 (Add.add σ.1 1),
 σ.2.1,σ.2.2.1,σ.2.2.2.1,σ.2.2.2.2.1,σ.2.2.2.2.2.1,σ.2.2.2.2.2.2.1,σ.2.2.2.2.2.2.2.1,σ.2.2.2.2.2.2.2.2.1,σ.2.2.2.2.2.2.2.2.2.1,
 σ.2.2.2.2.2.2.2.2.2.2.1,List.set σ.2.2.2.2.2.2.2.2.2.2.2.1 (Int.toNat σ.1) ([]++(List.getD σ.2.1.2.2.2.1 (Int.toNat σ.1) ([],(0,0),0,0,0)).1,
 (List.getD σ.2.2.2.2.2.2.2.2.2.2.2.1 (Int.toNat σ.1) ([],(0,0),0,0,0)).2),σ.2.2.2.2.2.2.2.2.2.2.2.2.1,()))))) else M.bind (M.pure (Step.next
 (σ.2.2.1,σ.2.2.2.1,σ.2.2.2.2.1,σ.2.2.2.2.2.1,σ.2.2.2.2.2.2.1,σ.2.2.2.2.2.2.2.1,σ.2.2.2.2.2.2.2.2.1,σ.2.2.2.2.2.2.2.2.2.1,
 σ.2.2.2.2.2.2.2.2.2.2.1,σ.2.2.2.2.2.2.2.2.2.2.2.1,σ.2.2.2.2.2.2.2.2.2.2.2.2.1,()))) fun r=>M.pure (Step.done r)) (0,σ.1,σ.2.1,σ.2.2.1,
 σ.2.2.2.1,σ.2.2.2.2.1,σ.2.2.2.2.2.1,σ.2.2.2.2.2.2.1,σ.2.2.2.2.2.2.2.1,σ.2.2.2.2.2.2.2.2.1,σ.2.2.2.2.2.2.2.2.2.1,σ.2.2.2.2.2.2.2.2.2.2.1,
 σ.2.2.2.2.2.2.2.2.2.2.2.1,())) (Step.go fun (σ:Int×Int×List (Int×Int×Int×Int)×List (List (Int×List Int×Int×Int))×Int×List
 (Int×Int×Int×Int)×Int×List Int×List Pc×List Wi×List (Int×
 Int×Int)×Unit)=>M.pure (σ.2.2.1,σ.2.2.2.1,σ.2.2.2.2.1,σ.2.2.2.2.2.1,σ.2.2.2.2.2.2.1,σ.2.2.2.2.2.2.2.1,σ.2.2.2.2.2.2.2.2.1,
 σ.2.2.2.2.2.2.2.2.2.1,σ.2.2.2.2.2.2.2.2.2.2.1,())))))))
def S_slices_Delete  (x:Int×Int×List (Int×Int×Int)×Unit):M ((Nat×Nat)×List (Int×Int×Int)×Unit):=
 M.req (0≤x.1∧x.1≤x.2.1∧x.2.1≤Int.ofNat (List.length x.2.2.1)∧Int.ofNat (List.length x.2.2.1)≤Int.ofNat (List.length x.2.2.1)) (if
 decide (x.1=x.2.1)=true then M.pure ((0,List.length x.2.2.1),x.2.2.1,()) else M.req ((0:Int)≤0∧0≤x.1∧x.1≤Int.ofNat (List.length
 x.2.2.1)) (M.req (0≤x.2.1∧x.2.1≤Int.ofNat (List.length x.2.2.1)∧Int.ofNat (List.length x.2.2.1)≤Int.ofNat (List.length x.2.2.1)) (M.req
 (Add.add (Int.toNat x.1) (List.length (List.drop (Int.toNat x.2.1) (List.take (Int.toNat (Int.ofNat (List.length x.2.2.1))) x.2.2.1)))≤List.length
 x.2.2.1) (M.req (0≤Int.ofNat (Add.add (Int.toNat x.1) (List.length (List.drop (Int.toNat x.2.1) (List.take (Int.toNat (Int.ofNat (List.length
 x.2.2.1))) x.2.2.1))) - Int.toNat 0)∧Int.ofNat (Add.add (Int.toNat x.1) (List.length (List.drop (Int.toNat x.2.1) (List.take (Int.toNat (Int.ofNat
 (List.length x.2.2.1))) x.2.2.1))) - Int.toNat 0)≤Int.ofNat (List.length x.2.2.1)∧Int.ofNat (List.length x.2.2.1)≤Int.ofNat (List.length
 (List.take (Int.toNat x.1) x.2.2.1++List.drop (Int.toNat x.2.1) (List.take (Int.toNat (Int.ofNat (List.length x.2.2.1))) x.2.2.1)++List.drop
 (Add.add (Int.toNat x.1) (List.length (List.drop (Int.toNat x.2.1) (List.take (Int.toNat (Int.ofNat (List.length x.2.2.1))) x.2.2.1)))) x.2.2.1) -
 Int.toNat 0)) (M.req True (M.pure ((Int.toNat 0,Add.add (Int.toNat x.1) (List.length (List.drop (Int.toNat x.2.1) (List.take (Int.toNat (Int.ofNat
 (List.length x.2.2.1))) x.2.2.1)))),List.take (Add.add (Int.toNat 0) (Int.toNat (Int.ofNat (Add.add (Int.toNat x.1) (List.length (List.drop
 (Int.toNat x.2.1) (List.take (Int.toNat (Int.ofNat (List.length x.2.2.1))) x.2.2.1))) - Int.toNat 0)))) (List.take (Int.toNat x.1) x.2.2.1++
 List.drop (Int.toNat x.2.1) (List.take (Int.toNat (Int.ofNat (List.length x.2.2.1))) x.2.2.1)++List.drop (Add.add (Int.toNat x.1) (List.length
 (List.drop (Int.toNat x.2.1) (List.take (Int.toNat (Int.ofNat (List.length x.2.2.1))) x.2.2.1)))) x.2.2.1)++List.replicate (Add.add (Int.toNat 0)
 (Int.toNat (Int.ofNat (List.length x.2.2.1))) - Add.add (Int.toNat 0) (Int.toNat (Int.ofNat (Add.add (Int.toNat x.1) (List.length (List.drop
 (Int.toNat x.2.1) (List.take (Int.toNat (Int.ofNat (List.length x.2.2.1))) x.2.2.1))) - Int.toNat 0)))) ((0:Int),(0:Int),(0:Int))++List.drop (Add.add (Add.add
 (Int.toNat 0) (Int.toNat (Int.ofNat (Add.add (Int.toNat x.1) (List.length (List.drop (Int.toNat x.2.1) (List.take (Int.toNat (Int.ofNat (List.length
 x.2.2.1))) x.2.2.1))) - Int.toNat 0)))) (List.length (List.replicate (Add.add (Int.toNat 0) (Int.toNat (Int.ofNat (List.length x.2.2.1))) - Add.add
 (Int.toNat 0) (Int.toNat (Int.ofNat (Add.add (Int.toNat x.1) (List.length (List.drop (Int.toNat x.2.1) (List.take (Int.toNat (Int.ofNat (List.length
 x.2.2.1))) x.2.2.1))) - Int.toNat 0)))) ((0:Int),(0:Int),(0:Int))))) (List.take (Int.toNat x.1) x.2.2.1++List.drop (Int.toNat x.2.1) (List.take (Int.toNat
 (Int.ofNat (List.length x.2.2.1))) x.2.2.1)++List.drop (Add.add (Int.toNat x.1) (List.length (List.drop (Int.toNat x.2.1) (List.take (Int.toNat
 (Int.ofNat (List.length x.2.2.1))) x.2.2.1)))) x.2.2.1),())))))))
def S_orders_store_full (c_orders_store_plans:Option Sto×List Int×Int×Nat×(Nat×List (List Int)×Nat×Bool)×Unit→M (Bool×(Nat×List (List Int)×Nat×Bool)×Unit)) (x:Option Sto×Nat×(Nat×List (List Int)×Nat×Bool)×Unit):M ((Nat×List (List Int)×Nat×Bool)×Unit):=
 M.bind (c_orders_store_plans (x.1,[],0,x.2.1,x.2.2.1,())) fun y=>M.pure (y.2.1,())
def S_orders_store_give (c_orders_store_good:Option Sto×(Int×Int)×Int×Int×Int→M Bool) (c_orders_store_give:Option Sto×List (Int×Int×Int)×Int×List (Int×Int)×List Int×Unit→M (Bool×List (Int×Int)×List Int×Unit)) (x:Option Sto×List (Int×Int×Int)×Int×List (Int×Int)×List Int×Unit):M (Bool×List (Int×Int)×List Int×Unit):=
 M.bind (M.req (Option.isSome x.1=true) (M.loop (fun (σ:Option ((Wsh×List Int×List Pc×List (List Int×(Int
 ×Int)×Int×Int×Int)×List (Int×Int×Int)×Int)×List (Int×Int)×List ((Int×Int×Int)×Int))×List (Int×Int×Int)×Int×List
 (Int×Int)×Int×Int×List (Int×Int)×List Int×Unit)=>if decide (σ.2.2.2.2.2.1<σ.2.2.2.2.1)=true then M.bind (M.req (0≤σ.2.2.2.2.2.1
 ∧σ.2.2.2.2.2.1<Int.ofNat (List.length σ.2.2.2.1)) (M.req ((!decide (Option.getD (Option.map (fun x=>x.2) (List.find? (fun p=>decide
 (σ.2.2.2.2.2.1=p.1)) σ.2.2.2.2.2.2.1)) (0:Int) > 0))=true→((!decide (Option.getD (Option.map (fun x=>x.2) (List.find? (fun p=>decide
 (σ.2.2.2.2.2.1=p.1)) σ.2.2.2.2.2.2.1)) (0:Int) > 0))=true∧(!decide (Option.getD (Option.map (fun x=>x.2) (List.find? (fun p=>decide
 (σ.2.2.2.2.2.1=p.1)) σ.2.2.2.2.2.2.1)) (0:Int) > 0))=true)∧(0≤σ.2.2.1∧σ.2.2.1<Int.ofNat (List.length σ.2.1))∧True) (M.req ((!decide
 (Option.getD (Option.map (fun x=>x.2) (List.find? (fun p=>decide (σ.2.2.2.2.2.1=p.1)) σ.2.2.2.2.2.2.1)) (0:Int) > 0))=true→(!decide
 (Option.getD (Option.map (fun x=>x.2) (List.find? (fun p=>decide (σ.2.2.2.2.2.1=p.1)) σ.2.2.2.2.2.2.1)) (0:Int) > 0))=true∧True∧True)
 (M.req ((!decide (Option.getD (Option.map (fun x=>x.2) (List.find? (fun p=>decide (σ.2.2.2.2.2.1=p.1)) σ.2.2.2.2.2.2.1)) (0:Int) > 0))=true
 →((!decide (Option.getD (Option.map (fun x=>x.2) (List.find? (fun p=>decide (σ.2.2.2.2.2.1=p.1)) σ.2.2.2.2.2.2.1)) (0:Int) > 0))=true∧
 (!decide (Option.getD (Option.map (fun x=>x.2) (List.find? (fun p=>decide (σ.2.2.2.2.2.1=p.1)) σ.2.2.2.2.2.2.1)) (0:Int) > 0))=true∧
 (!decide (Option.getD (Option.map (fun x=>x.2) (List.find? (fun p=>decide (σ.2.2.2.2.2.1=p.1)) σ.2.2.2.2.2.2.1)) (0:Int) > 0))=true∧True)
 ∧(c_orders_store_good (σ.1,List.getD σ.2.2.2.1 (Int.toNat σ.2.2.2.2.2.1) (0,0),List.getD σ.2.1 (Int.toNat σ.2.2.1) (0,0,0))).safe∧True)
 (M.req ((!decide (Option.getD (Option.map (fun x=>x.2) (List.find? (fun p=>decide (σ.2.2.2.2.2.1=p.1)) σ.2.2.2.2.2.2.1)) (0:Int) > 0))=true
 →(!decide (Option.getD (Option.map (fun x=>x.2) (List.find? (fun p=>decide (σ.2.2.2.2.2.1=p.1)) σ.2.2.2.2.2.2.1)) (0:Int) > 0))=true∧
 True∧True) (M.req (True∧(decide (Option.getD (Option.map (fun x=>x.2) (List.find? (fun p=>decide (σ.2.2.2.2.2.1=p.1)) σ.2.2.2.2.2.2.1)) (0
 : Int) > 0)=false→(!decide (Option.getD (Option.map (fun x=>x.2) (List.find? (fun p=>decide (σ.2.2.2.2.2.1=p.1)) σ.2.2.2.2.2.2.1)) (0 :
 Int) > 0))=true)) (if (decide (Option.getD (Option.map (fun x=>x.2) (List.find? (fun p=>decide (σ.2.2.2.2.2.1=p.1)) σ.2.2.2.2.2.2.1)) (0 :
 Int) > 0)||!M.val (c_orders_store_good (σ.1,List.getD σ.2.2.2.1 (Int.toNat σ.2.2.2.2.2.1) (0,0),List.getD σ.2.1 (Int.toNat σ.2.2.1) (0,0,0)))
 false)=true then M.pure (Step.next (σ.1,σ.2.1,σ.2.2.1,σ.2.2.2.1,σ.2.2.2.2.1,σ.2.2.2.2.2.1,σ.2.2.2.2.2.2.1,σ.2.2.2.2.2.2.2.1,())) else M.req
 (0≤σ.2.2.2.2.2.1∧σ.2.2.2.2.2.1<Int.ofNat (List.length σ.2.2.2.2.2.2.2.1)) (M.req ((!decide (List.getD σ.2.2.2.2.2.2.2.1 (Int.toNat
 σ.2.2.2.2.2.1) (0:Int)=-1))=true→((!decide (List.getD σ.2.2.2.2.2.2.2.1 (Int.toNat σ.2.2.2.2.2.1) (0:Int)=-1))=true∧(!decide
 (List.getD σ.2.2.2.2.2.2.2.1 (Int.toNat σ.2.2.2.2.2.1) (0:Int)=-1))=true)∧(0≤σ.2.2.2.2.2.1∧σ.2.2.2.2.2.1<Int.ofNat (List.length
 σ.2.2.2.2.2.2.2.1))∧True) (if (!decide (List.getD σ.2.2.2.2.2.2.2.1 (Int.toNat σ.2.2.2.2.2.1) (0:Int)=-1))=true then M.req ((!decide
 (List.getD σ.2.2.2.2.2.2.2.1 (Int.toNat σ.2.2.2.2.2.1) (0:Int)=-1))=true∧(!decide (List.getD σ.2.2.2.2.2.2.2.1 (Int.toNat σ.2.2.2.2.2.1) (0 :
 Int)=-1))=true∧(!decide (List.getD σ.2.2.2.2.2.2.2.1 (Int.toNat σ.2.2.2.2.2.1) (0:Int)=-1))=true∧(!decide (List.getD σ.2.2.2.2.2.2.2.1
 (Int.toNat σ.2.2.2.2.2.1) (0:Int)=-1))=true∧(!decide (List.getD σ.2.2.2.2.2.2.2.1 (Int.toNat σ.2.2.2.2.2.1) (0:Int)=-1))=true∧True)
 (M.bind (c_orders_store_give (σ.1,σ.2.1,List.getD σ.2.2.2.2.2.2.2.1 (Int.toNat σ.2.2.2.2.2.1) 0,msetI σ.2.2.2.2.2.2.1 σ.2.2.2.2.2.1 (IntKind.wrap
 .i64 (Add.add (Option.getD (Option.map (fun x=>x.2) (List.find? (fun p=>decide (σ.2.2.2.2.2.1=p.1)) σ.2.2.2.2.2.2.1)) 0) 1)),
 σ.2.2.2.2.2.2.2.1,())) fun y=>if (decide (List.getD σ.2.2.2.2.2.2.2.1 (Int.toNat σ.2.2.2.2.2.1) (0:Int)=-1)||y.1)=true then M.req (0≤
 σ.2.2.2.2.2.1∧σ.2.2.2.2.2.1<Int.ofNat (List.length y.2.2.1)) (M.bind (M.bind (M.bind (M.pure (true,y.2.1,List.set y.2.2.1 (Int.toNat
 σ.2.2.2.2.2.1) σ.2.2.1,())) fun r=>M.pure (Step.done r)) fun r=>M.pure (Step.done r)) fun r=>M.pure (Step.done r)) else M.pure (Step.next
 (σ.1,σ.2.1,σ.2.2.1,σ.2.2.2.1,σ.2.2.2.2.1,σ.2.2.2.2.2.1,y.2.1,y.2.2.1,()))) else M.req (True∧(decide (List.getD σ.2.2.2.2.2.2.2.1 (Int.toNat
 σ.2.2.2.2.2.1) (0:Int)=-1)=false→false=true)) (if (decide (List.getD σ.2.2.2.2.2.2.2.1 (Int.toNat σ.2.2.2.2.2.1) (0:Int)=-1)||false)
 =true then M.req (0≤σ.2.2.2.2.2.1∧σ.2.2.2.2.2.1<Int.ofNat (List.length σ.2.2.2.2.2.2.2.1)) (M.bind (M.bind (M.bind (M.pure (true,msetI
 σ.2.2.2.2.2.2.1 σ.2.2.2.2.2.1 (IntKind.wrap .i64 (Add.add (Option.getD (Option.map (fun x=>x.2) (List.find? (fun p=>decide (σ.2.2.2.2.2.1=p.1))
 σ.2.2.2.2.2.2.1)) 0) 1)),List.set σ.2.2.2.2.2.2.2.1 (Int.toNat σ.2.2.2.2.2.1) σ.2.2.1,())) fun r=>M.pure (Step.done r)) fun r=>M.pure
 (Step.done r)) fun r=>M.pure (Step.done r)) else M.pure (Step.next (σ.1,σ.2.1,σ.2.2.1,σ.2.2.2.1,σ.2.2.2.2.1,σ.2.2.2.2.2.1,msetI
 σ.2.2.2.2.2.2.1 σ.2.2.2.2.2.1 (IntKind.wrap .i64 (Add.add (Option.getD (Option.map (fun x=>x.2) (List.find? (fun p=>decide (σ.2.2.2.2.2.1=p.1))
 σ.2.2.2.2.2.2.1)) 0) 1)),σ.2.2.2.2.2.2.2.1,())))))))))))) (Step.go fun (σ:Option ((Wsh×List Int×List Pc×
 List Wi×List (Int×Int×Int)×Int)×List (Int×Int)×List ((Int×Int×Int)×Int))×List (Int×
 Int×Int)×Int×List (Int×Int)×Int×Int×List (Int×Int)×List Int×Unit)=>M.pure (Step.next (σ.1,σ.2.1,σ.2.2.1,σ.2.2.2.1,
 σ.2.2.2.2.1,IntKind.wrap .i64 (Add.add σ.2.2.2.2.2.1 1),σ.2.2.2.2.2.2.1,σ.2.2.2.2.2.2.2.1,()))) else M.bind (M.pure (Step.next (σ.2.2.2.2.2.2.1,
 σ.2.2.2.2.2.2.2.1,()))) fun r=>M.pure (Step.done r)) (x.1,x.2.1,x.2.2.1,(Option.getD x.1 ((([],[],0,[]),[],[],[],[],0),[],[])).2.1,
 Int.ofNat (List.length (Option.getD x.1 ((([],[],0,[]),[],[],[],[],0),[],[])).2.1),0,x.2.2.2.1,x.2.2.2.2.1,()))) (Step.go fun (σ:List
 (Int×Int)×List Int×Unit)=>M.pure (false,σ.1,σ.2.1,()))
def S_orders_store_plans (c_orders_suits:(List Int×(Int×Int)×Int×Int×Int)×Int×Int×Int×Int×List Int→M Int) (c_orders_store_plans:Option Sto×List Int×Int×Nat×(Nat×List (List Int)×Nat×Bool)×Unit→M (Bool×(Nat×List (List Int)×Nat×Bool)×Unit)) (c_slices_Contains_int_int:List Int×Int→M Bool) (x:Option Sto×List Int×Int×Nat×(Nat×List (List Int)×Nat×Bool)×Unit):M (Bool×(Nat×List (List Int)×Nat×Bool)×Unit):=
 M.req (Option.isSome x.1=true) (if decide (Int.ofNat (List.length x.2.1)=Int.ofNat (List.length (Option.getD x.1 ((([],[],0,[]),[],[],[],
 [],0),[],[])).1.2.2.2.1))=true then M.bind (M.req (x.2.2.2.1=x.2.2.2.2.1.1∧x.2.2.2.2.1.2.2.2=false∧List.get?Internal x.2.2.2.2.1.2.1
 x.2.2.2.2.1.2.2.1=some x.2.1) (M.any fun x=>True)) fun y=>M.pure (y,(x.2.2.2.2.1.1,x.2.2.2.2.1.2.1,Add.add x.2.2.2.2.1.2.2.1 1,!y),())
 else M.bind (M.req (Option.isSome x.1=true) (M.loop (fun (σ:Option ((Wsh×List Int×List Pc×List (List Int×
 (Int×Int)×Int×Int×Int)×List (Int×Int×Int)×Int)×List (Int×Int)×List ((Int×Int×Int)×Int))×List Int×Int×Nat×Int×
 List Pc×Int×Int×(Nat×List (List Int)×Nat×Bool)×Unit)=>if decide (σ.2.2.2.2.2.2.2.1<σ.2.2.2.2.2.2.1)
 =true then M.bind (M.req (0≤σ.2.2.2.2.2.2.2.1∧σ.2.2.2.2.2.2.2.1<Int.ofNat (List.length σ.2.2.2.2.2.1)) (M.req (c_slices_Contains_int_int
 (σ.2.1,σ.2.2.2.2.2.2.2.1)).safe (M.req ((!M.val (c_slices_Contains_int_int (σ.2.1,σ.2.2.2.2.2.2.2.1)) false)=true→(!M.val
 (c_slices_Contains_int_int (σ.2.1,σ.2.2.2.2.2.2.2.1)) false)=true∧Option.isSome σ.1=true∧True) (M.req ((!M.val (c_slices_Contains_int_int
 (σ.2.1,σ.2.2.2.2.2.2.2.1)) false)=true→(!M.val (c_slices_Contains_int_int (σ.2.1,σ.2.2.2.2.2.2.2.1)) false)=true∧True∧True) (M.req
 ((!M.val (c_slices_Contains_int_int (σ.2.1,σ.2.2.2.2.2.2.2.1)) false)=true→(!M.val (c_slices_Contains_int_int (σ.2.1,σ.2.2.2.2.2.2.2.1)) false)
 =true∧True∧True) (M.req ((!M.val (c_slices_Contains_int_int (σ.2.1,σ.2.2.2.2.2.2.2.1)) false)=true→(!M.val (c_slices_Contains_int_int
 (σ.2.1,σ.2.2.2.2.2.2.2.1)) false)=true∧True∧True) (M.req ((!M.val (c_slices_Contains_int_int (σ.2.1,σ.2.2.2.2.2.2.2.1)) false)=true→
 ((!M.val (c_slices_Contains_int_int (σ.2.1,σ.2.2.2.2.2.2.2.1)) false)=true∧(!M.val (c_slices_Contains_int_int (σ.2.1,σ.2.2.2.2.2.2.2.1)) false)
 =true)∧(0≤σ.2.2.2.2.1∧σ.2.2.2.2.1<Int.ofNat (List.length (Option.getD σ.1 ((([],[],0,[]),[],[],[],[],0),[],[])).1.2.2.2.1))∧
 True) (M.req ((!M.val (c_slices_Contains_int_int (σ.2.1,σ.2.2.2.2.2.2.2.1)) false)=true→(!M.val (c_slices_Contains_int_int (σ.2.1,
 σ.2.2.2.2.2.2.2.1)) false)=true∧True∧True) (M.req ((!M.val (c_slices_Contains_int_int (σ.2.1,σ.2.2.2.2.2.2.2.1)) false)=true→((!M.val
 (c_slices_Contains_int_int (σ.2.1,σ.2.2.2.2.2.2.2.1)) false)=true∧(!M.val (c_slices_Contains_int_int (σ.2.1,σ.2.2.2.2.2.2.2.1)) false)=true∧
 True)∧(c_orders_suits (List.getD (Option.getD σ.1 ((([],[],0,[]),[],[],[],[],0),[],[])).1.2.2.2.1 (Int.toNat σ.2.2.2.2.1) ([],(0,0),0,
 0,0),List.getD σ.2.2.2.2.2.1 (Int.toNat σ.2.2.2.2.2.2.2.1) (0,0,0,0,[]))).safe∧True) (M.req ((!M.val (c_slices_Contains_int_int (σ.2.1,
 σ.2.2.2.2.2.2.2.1)) false)=true→((!M.val (c_slices_Contains_int_int (σ.2.1,σ.2.2.2.2.2.2.2.1)) false)=true∧True)∧True∧True) (M.req (True
 ∧(M.val (c_slices_Contains_int_int (σ.2.1,σ.2.2.2.2.2.2.2.1)) false=false→(!M.val (c_slices_Contains_int_int (σ.2.1,σ.2.2.2.2.2.2.2.1)) false)
 =true)) (if (M.val (c_slices_Contains_int_int (σ.2.1,σ.2.2.2.2.2.2.2.1)) false||decide (M.val (c_orders_suits (List.getD (Option.getD σ.1 ((([],
 [],0,[]),[],[],[],[],0),[],[])).1.2.2.2.1 (Int.toNat σ.2.2.2.2.1) ([],(0,0),0,0,0),List.getD σ.2.2.2.2.2.1 (Int.toNat
 σ.2.2.2.2.2.2.2.1) (0,0,0,0,[]))) (0:Int)=0))=true then M.pure (Step.next (σ.1,σ.2.1,σ.2.2.1,σ.2.2.2.1,σ.2.2.2.2.1,σ.2.2.2.2.2.1,
 σ.2.2.2.2.2.2.1,σ.2.2.2.2.2.2.2.1,σ.2.2.2.2.2.2.2.2.1,())) else M.req ((0:Int)≤0∧0≤σ.2.2.2.2.1∧σ.2.2.2.2.1=σ.2.2.2.2.1∧σ.2.2.2.2.1≤
 Int.ofNat (List.length σ.2.1)) (M.req (0<Add.add 0 1∧lenLe (Add.add (List.length (List.take (Int.toNat σ.2.2.2.2.1) σ.2.1)) (Add.add 0 1)))
 (M.bind (c_orders_store_plans (σ.1,List.take (Int.toNat σ.2.2.2.2.1) σ.2.1++[σ.2.2.2.2.2.2.2.1],σ.2.2.1,σ.2.2.2.1,σ.2.2.2.2.2.2.2.2.1,())) fun y
 =>if (!y.1)=true then M.bind (M.bind (M.bind (M.pure (false,y.2.1,())) fun r=>M.pure (Step.done r)) fun r=>M.pure (Step.done r)) fun r=>
 M.pure (Step.done r) else M.pure (Step.next (σ.1,σ.2.1,σ.2.2.1,σ.2.2.2.1,σ.2.2.2.2.1,σ.2.2.2.2.2.1,σ.2.2.2.2.2.2.1,σ.2.2.2.2.2.2.2.1,y.2.1,
 ())))))))))))))))) (Step.go fun (σ:Option ((Wsh×List Int×List Pc×List (List Int×(Int×Int)×Int×Int×
 Int)×List (Int×Int×Int)×Int)×List (Int×Int)×List ((Int×Int×Int)×Int))×List Int×Int×Nat×Int×List (Int×Int×Int×Int
 ×List Int)×Int×Int×(Nat×List (List Int)×Nat×Bool)×Unit)=>M.pure (Step.next (σ.1,σ.2.1,σ.2.2.1,σ.2.2.2.1,σ.2.2.2.2.1,
 σ.2.2.2.2.2.1,σ.2.2.2.2.2.2.1,IntKind.wrap .i64 (Add.add σ.2.2.2.2.2.2.2.1 1),σ.2.2.2.2.2.2.2.2.1,()))) else M.bind (M.pure (Step.next (σ.1,
 σ.2.1,σ.2.2.1,σ.2.2.2.1,σ.2.2.2.2.1,σ.2.2.2.2.2.2.2.2.1,()))) fun r=>M.pure (Step.done r)) (x.1,x.2.1,x.2.2.1,x.2.2.2.1,Int.ofNat
 (List.length x.2.1),(Option.getD x.1 ((([],[],0,[]),[],[],[],[],0),[],[])).1.2.2.1,Int.ofNat (List.length (Option.getD x.1 ((([],[],0,
 []),[],[],[],[],0),[],[])).1.2.2.1),0,x.2.2.2.2.1,()))) (Step.go fun (σ:Option ((Wsh×List Int×List Pc
 ×List Wi×List (Int×Int×Int)×Int)×List (Int×Int)×List ((Int×Int×Int)×Int))×List Int×
 Int×Nat×Int×(Nat×List (List Int)×Nat×Bool)×Unit)=>M.req ((!decide (σ.2.2.1=0))=true→((!decide (σ.2.2.1=0))=true∧True∧
 (!decide (σ.2.2.1=0))=true∧(!decide (σ.2.2.1=0))=true)∧((0:Int)≤0∧0≤σ.2.2.2.2.1∧σ.2.2.2.2.1=σ.2.2.2.2.1∧σ.2.2.2.2.1≤
 Int.ofNat (List.length σ.2.1))∧True) (if (!decide (σ.2.2.1=0))=true then M.req ((!decide (σ.2.2.1=0))=true∧(!decide (σ.2.2.1=0))=
 true) (M.req (0<Add.add 0 1∧lenLe (Add.add (List.length (List.take (Int.toNat σ.2.2.2.2.1) σ.2.1)) (Add.add 0 1))) (if (!decide (σ.2.2.1=0))=
 true then M.req ((!decide (σ.2.2.1=0))=true∧(!decide (σ.2.2.1=0))=true∧(!decide (σ.2.2.1=0))=true∧True) (M.bind
 (c_orders_store_plans (σ.1,List.take (Int.toNat σ.2.2.2.2.1) σ.2.1++[-1],σ.2.2.1,σ.2.2.2.1,σ.2.2.2.2.2.1,())) fun y=>M.pure (decide (σ.2.2.1
 =0)||y.1,y.2.1,())) else M.req (True∧(decide (σ.2.2.1=0)=false→false=true)) (M.pure (decide (σ.2.2.1=0)||false,σ.2.2.2.2.2.1,
 ())))) else if (!decide (σ.2.2.1=0))=true then M.req ((!decide (σ.2.2.1=0))=true∧false=true∧(!decide (σ.2.2.1=0))=true∧(!decide
 (σ.2.2.1=0))=true∧True) (M.bind (c_orders_store_plans (σ.1,List.take (Int.toNat σ.2.2.2.2.1) σ.2.1++[-1],σ.2.2.1,σ.2.2.2.1,σ.2.2.2.2.2.1,
 ())) fun y=>M.pure (decide (σ.2.2.1=0)||y.1,y.2.1,())) else M.req (True∧(decide (σ.2.2.1=0)=false→false=true)) (M.pure (decide
 (σ.2.2.1=0)||false,σ.2.2.2.2.2.1,())))))
def S_slices_RepeatIO (c_math_bits_Mul:Int×Int→M (Int×Int)) (x:List Int×Int×Unit):M (List Int×Unit):=
 M.bind (if decide (x.2.1<0)=true then M.req False (M.req False (M.pure (Step.next (x.1,x.2.1,())))) else M.pure (Step.next (x.1,x.2.1,())))
 (Step.go fun (σ:List Int×Int×Unit)=>M.bind (c_math_bits_Mul (IntKind.wrap .u64 (Int.ofNat (List.length σ.1)),IntKind.wrap .u64 σ.2.1)) fun y
 =>M.bind (if (decide (y.1 > 0)||decide (y.2 > 9223372036854775807))=true then M.req False (M.req False (M.pure (Step.next (σ.1,y.2,())))) else
 M.pure (Step.next (σ.1,y.2,()))) (Step.go fun (σ:List Int×Int×Unit)=>M.req (0≤IntKind.wrap .i64 σ.2.1∧IntKind.wrap .i64 σ.2.1=
 IntKind.wrap .i64 σ.2.1∧lenLe (Int.toNat (IntKind.wrap .i64 σ.2.1))) (M.req True (M.bind (M.loop (fun (σ:Int×List Int×Unit)=>if decide (σ.1
 < Int.ofNat (List.length σ.2.1))=true then M.req (0≤σ.1∧σ.1≤Int.ofNat (List.length σ.2.1)∧Int.ofNat (List.length σ.2.1)≤Int.ofNat
 (List.length σ.2.1)) (M.req ((0:Int)≤0∧0≤σ.1∧σ.1≤Int.ofNat (List.length σ.2.1)) (M.req True (M.pure (Step.next (IntKind.wrap .i64
 (Add.add σ.1 (Int.ofNat (if Int.toNat (Int.ofNat (List.length σ.2.1)) - Int.toNat σ.1≤List.length (List.take (Int.toNat σ.1) σ.2.1) then Int.toNat
 (Int.ofNat (List.length σ.2.1)) - Int.toNat σ.1 else List.length (List.take (Int.toNat σ.1) σ.2.1)))),List.take (Int.toNat σ.1) σ.2.1++List.take
 (Int.toNat (Int.ofNat (List.length σ.2.1)) - Int.toNat σ.1) (List.take (Int.toNat σ.1) σ.2.1)++List.drop (Add.add (Int.toNat σ.1) (List.length
 (List.take (Int.toNat (Int.ofNat (List.length σ.2.1)) - Int.toNat σ.1) (List.take (Int.toNat σ.1) σ.2.1)))) σ.2.1,()))))) else M.bind (M.pure
 (Step.next (σ.2.1,()))) fun r=>M.pure (Step.done r)) (Int.ofNat (if List.length (List.replicate (Int.toNat (IntKind.wrap .i64 σ.2.1)) (0:Int)) - 0≤
 List.length σ.1 then List.length (List.replicate (Int.toNat (IntKind.wrap .i64 σ.2.1)) (0:Int)) - 0 else List.length σ.1),[]++List.take (List.length
 (List.replicate (Int.toNat (IntKind.wrap .i64 σ.2.1)) (0:Int)) - 0) σ.1++List.drop (Add.add 0 (List.length (List.take (List.length (List.replicate
 (Int.toNat (IntKind.wrap .i64 σ.2.1)) (0:Int)) - 0) σ.1))) (List.replicate (Int.toNat (IntKind.wrap .i64 σ.2.1)) (0:Int)),())) (Step.go fun (σ:List Int×
 Unit)=>M.pure (σ.1,()))))))
end Go.Fer
namespace Go.Fer
open M (Step)
set_option linter.unusedVariables false
def S_law08_ready (c_law08_Far:Shop→M Bool) (c_ref08_Known:Shop→M Int) (x:Shop):M Bool:=
 M.bind (c_law08_Far x) fun y=>M.bind (gdo (!y) (c_ref08_Known x) 0) fun y_1=>M.pure (!y&&decide (y_1=0))
def S_law08_works (c_orders_Most:Shop→M (Int×Int)) (c_orders_Extra:Shop→M (Int×Int)) (c_orders_Can:Shop×Int→M (List Int×Int)) (c_orders_Without:Shop×Int→M (Int×Int)) (c_orders_Suits:Shop×Int×Int→M (Int×Int)) (c_law08_sameInts:List Int×List Int→M Bool) (c_law08_Example:Unit→M (Shop)) (x:Unit):M Bool:=
 M.bind (c_law08_Example ()) fun y=>M.bind (c_orders_Most y) fun y_1=>M.bind (c_orders_Can (y,2)) fun y_2=>M.bind (c_orders_Without (y,1)) fun y_3
 =>M.bind (c_orders_Extra y) fun y_4=>M.bind (c_orders_Suits (y,0,0)) fun y=>M.bind (gdo (decide (y_1.2=0)&&decide (y_2.2=0)&&decide
 (y_3.2=0)&&decide (y_4.2=0)&&decide (y.2=0)&&decide (y_1.1=1600)) (c_law08_sameInts (y_2.1,[2,3])) false) fun y_5=>M.pure (decide
 (y_1.2=0)&&decide (y_2.2=0)&&decide (y_3.2=0)&&decide (y_4.2=0)&&decide (y.2=0)&&decide (y_1.1=1600)&&y_5&&decide (y_3.1=
 1200)&&decide (y_4.1=2)&&decide (y.1=2))
def S_law08_better (c_orders_Most:Shop→M (Int×Int)) (c_orders_Extra:Shop→M (Int×Int)) (x:Shop×Shop):M Bool:=
 M.bind (c_orders_Most x.1) fun y=>M.bind (c_orders_Most x.2) fun y_1=>M.bind (c_orders_Extra x.1) fun y_2=>M.bind (c_orders_Extra x.2) fun y_3
 =>if (decide (y.2≠0)||decide (y_1.2≠0)||decide (y_1.1<y.1)||decide (y_2.2≠0)&&decide (y_2.2≠3))=true then M.pure false else
 M.pure (decide (y_2.2≠0)||decide (y_3.2=0)&&decide (y_3.1≤y_2.1)&&decide (y_3.1≥0))
def S_law08_Far (c_ref08_Check:Shop→M Int) (c_law07_Far:List (Int×Int×Int×Int)×List (List (Int×List Int×Int×Int))×Int×List (Int×Int×Int×Int)→M Bool) (x:Shop):M Bool:=
 M.bind (c_law07_Far x.1) fun y=>if (y||decide (Int.ofNat (List.length x.2.1) > 40)||decide (Int.ofNat (List.length x.2.2.1) > 40)||decide
 (Int.ofNat (List.length x.2.2.2.1) > 40)||decide (Int.ofNat (List.length x.2.2.2.2.1) > 40))=true then M.pure true else M.bind (M.loop (fun (σ :
 Int×Shop×
 Unit)=>if decide (σ.1<Int.ofNat (List.length σ.2.1.2.2.1))=true then M.req (0≤σ.1∧σ.1<Int.ofNat (List.length σ.2.1.2.2.1)) (if decide
 (Int.ofNat (List.length (List.getD σ.2.1.2.2.1 (Int.toNat σ.1) (0,0,0,0,[])).2.2.2.2) > 40)=true then M.bind (M.bind (M.pure true) fun r=>
 M.pure (Step.done r)) fun r=>M.pure (Step.done r) else M.pure (Step.next (IntKind.wrap .i64 (Add.add σ.1 1),σ.2.1,()))) else M.bind (M.pure
 (Step.next (σ.2.1,()))) fun r=>M.pure (Step.done r)) (0,x,())) (Step.go fun (σ:(Wsh×List Int×List Pc×
 List Wi×List (Int×Int×Int)×Int)×Unit)=>M.bind (M.loop (fun (σ:Int×(Wsh×List Int×List (Int
 ×Int×Int×Int×List Int)×List Wi×List (Int×Int×Int)×Int)×Unit)=>if decide (σ.1<Int.ofNat
 (List.length σ.2.1.2.2.2.1))=true then M.req (0≤σ.1∧σ.1<Int.ofNat (List.length σ.2.1.2.2.2.1)) (if decide (Int.ofNat (List.length (List.getD
 σ.2.1.2.2.2.1 (Int.toNat σ.1) ([],(0,0),0,0,0)).1) > 40)=true then M.bind (M.bind (M.pure true) fun r=>M.pure (Step.done r)) fun r=>M.pure
 (Step.done r) else M.pure (Step.next (IntKind.wrap .i64 (Add.add σ.1 1),σ.2.1,()))) else M.bind (M.pure (Step.next (σ.2.1,()))) fun r=>M.pure
 (Step.done r)) (0,σ.1,())) (Step.go fun (σ:(Wsh×List Int×List Pc×List (List Int×(Int×Int)×Int×Int×
 Int)×List (Int×Int×Int)×Int)×Unit)=>M.bind (c_ref08_Check σ.1) fun y=>if decide (y≠0)=true then M.pure false else M.bind (M.loop
 (fun (σ:Int×Int×(Wsh×List Int×List Pc×List Wi×List (Int×Int×
 Int)×Int)×Unit)=>if decide (σ.2.1<Int.ofNat (List.length σ.2.2.1.2.2.1))=true then M.req (0≤σ.2.1∧σ.2.1<Int.ofNat (List.length
 σ.2.2.1.2.2.1)) (M.pure (Step.next (IntKind.wrap .i64 (Add.add σ.1 (Int.ofNat (List.length (List.getD σ.2.2.1.2.2.1 (Int.toNat σ.2.1) (0,0,0,0,
 [])).2.2.2.2))),IntKind.wrap .i64 (Add.add σ.2.1 1),σ.2.2.1,()))) else M.bind (M.pure (Step.next (σ.1,σ.2.2.1,()))) fun r=>M.pure (Step.done
 r)) (0,0,σ.1,())) (Step.go fun (σ:Int×(Wsh×List Int×List Pc×List (List Int×(Int×Int)×Int×Int×
 Int)×List (Int×Int×Int)×Int)×Unit)=>M.pure (decide (Int.ofNat (List.length σ.2.1.2.2.2.1) > 3)||decide (Int.ofNat (List.length
 σ.2.1.2.2.1) > 4)||decide (Int.ofNat (List.length σ.2.1.2.2.2.2.1) > 3)||decide (σ.1 > 4)))))
def S_law08_sameInts  (x:List Int×List Int):M Bool:=
 if decide (Int.ofNat (List.length x.1)≠Int.ofNat (List.length x.2))=true then M.pure false else M.bind (M.loop (fun (σ:List Int×List Int×
 Int×Unit)=>if decide (σ.2.2.1<Int.ofNat (List.length σ.1))=true then M.req (0≤σ.2.2.1∧σ.2.2.1<Int.ofNat (List.length σ.1)) (M.req (0≤
 σ.2.2.1∧σ.2.2.1<Int.ofNat (List.length σ.2.1)) (if decide (List.getD σ.1 (Int.toNat σ.2.2.1) 0≠List.getD σ.2.1 (Int.toNat σ.2.2.1) 0)=true
 then M.bind (M.bind (M.pure false) fun r=>M.pure (Step.done r)) fun r=>M.pure (Step.done r) else M.pure (Step.next (σ.1,σ.2.1,IntKind.wrap .i64
 (Add.add σ.2.2.1 1),())))) else M.bind (M.pure (Step.next ())) fun r=>M.pure (Step.done r)) (x.1,x.2,0,())) (Step.go fun (σ:Unit)=>M.pure
 true)
def S_law08_Example (c_law07_Example:Unit→M Wsh) (x:Unit):M (Shop):=
 M.bind (c_law07_Example ()) fun y=>M.pure (y,[1,0,0,0],[(1,60,0,0,[0]),(1,60,7,0,[]),(2,65,0,1,[0]),(2,60,0,0,[0,1])],
 [([1],(55,65),7,3,500),([1,2],(60,60),0,5,400),([2],(60,70),9,8,700),([2],(65,65),0,5,300)],[(4,2,1),(6,3,1)],2)
end Go.Fer
namespace Go.Fer
open M (Step)
set_option linter.unusedVariables false
set_option linter.unusedSimpArgs false
theorem wrap64 {n:Int} (h1:-9223372036854775808≤n) (h2:n<9223372036854775808):IntKind.i64.wrap n=n:=by
 show (if (true&&decide (n % 2 ^ 64≥(2 ^ (64 - 1):Int)))=true then n % 2 ^ 64 - 2 ^ 64 else n % 2 ^ 64)=n
 have e1:(2:Int) ^ 64=18446744073709551616:=by decide
 have e2:(2:Int) ^ (64 - 1)=9223372036854775808:=by decide
 simp only [Bool.true_and,decide_eq_true_eq,e1,e2]
 split<;>omega
theorem add_def (a b:Int):Add.add a b=a+b:=rfl
theorem add_defN (a b:Nat):Add.add a b=a+b:=rfl
theorem append_def {α:Type} (a b:List α):Append.append a b=a++b:=rfl
theorem ofNat_def (n:Nat):Int.ofNat n=(n:Int):=rfl
theorem or_gdo {x c d:Bool}:(x||!(if (!x)=true then c else d))=(x||!c):=by cases x<;>rfl
theorem or_gdo2 {x c d:Bool}:(x||(if (!x)=true then c else d))=(x||c):=by cases x<;>rfl
theorem and_gdo {x c d:Bool}:(x&&(if x=true then c else d))=(x&&c):=by cases x<;>rfl
namespace M
variable {α β γ σ ρ:Type}
theorem le_det {m:M α} {p:Prop} {v:α} (h:p→m=pure v):le m (det p v):=fun hp=>by
 rw [h hp];exact ⟨trivial,fun _ hy=>hy⟩
theorem le_detR {m:M α} {p:Prop} {v:α} (h:p→Ret m fun y=>y=v):le m (det p v):=fun hp=>h hp
theorem val_det {p:Prop} {v d:α}:(det p v).val d=v:=by
 unfold val
 have h:∃ x,(det p v).out x:=⟨v,rfl⟩
 rw [dif_pos h]
 exact h.choose_spec
theorem val_pure {v d:α}:(pure v).val d=v:=val_det (p:=True)
theorem safe_det {p:Prop} {v:α}:(det p v).safe=p:=rfl
theorem det_det {p:Prop} {v:α}:(det p v).Det:=fun _ _ h k=>h.trans k.symm
theorem gdo_det {g:Bool} {p:Prop} {v d:α}:gdo g (det p v) d=det (g=true→p) (if g=true then v else d):=by
 cases g
 ·exact (det_true (by simp) _).symm
 ·simp [gdo]
theorem gdo_pure {g:Bool} {v d:α}:gdo g (pure v) d=pure (if g=true then v else d):=by cases g<;>rfl
theorem go_next {f:σ→M β} {x:σ}:Step.go f (.next x:Step σ β)=f x:=rfl
theorem go_done {f:σ→M β} {r:β}:Step.go f (.done r:Step σ β)=pure r:=rfl
end M
def foldS {α β ρ:Type} (f:α→β→Step β ρ) (fin:β→ρ):List α→β→ρ
 | [],b=>fin b
 | x::l,b=>match f x b with
  | .next b'=>foldS f fin l b'
  | .done r=>r
def Step.mapN {σ β ρ:Type} (g:β→σ):Step β ρ→Step σ ρ
 | .next b=>.next (g b)
 | .done r=>.done r
theorem M.loop_list {α β σ ρ:Type} {body:σ→M (Step σ ρ)} {s0:σ} (l:List α) (mk:Nat→β→σ) (f:α→β→Step β ρ) (fin:β→ρ) (I:Nat→β→Prop) (b:β) (hs0:s0=mk 0 b) (h0:I 0 b)
  (hs:∀ i (h:i<l.length) b,I i b→body (mk i b)=M.pure (Step.mapN (mk (i+1)) (f l[i] b))∧∀ b',f l[i] b=.next b'→I (i+1) b')
  (hf:∀ b,I l.length b→body (mk l.length b)=M.pure (.done (fin b))):M.loop body s0=M.pure (foldS f fin l b):=by
 subst hs0
 have key:∀ (k:Nat) (r:List α) (b:β),k≤l.length→r=l.drop k→I k b→M.loop body (mk k b)=M.pure (foldS f fin r b):=by
  intro k r
  induction r generalizing k with
  | nil=>
   intro b hk hr hI
   have:k=l.length:=by have:=congrArg List.length hr;simp at this;omega
   subst this
   exact M.loop_done (hf b hI)
  | cons x r ih=>
   intro b hk hr hI
   have hlt:k<l.length:=by
    rcases Nat.lt_or_ge k l.length with h | h
    ·exact h
    ·rw [List.drop_eq_nil_of_le h] at hr;cases hr
   rw [List.drop_eq_getElem_cons hlt] at hr
   injection hr with hx hr
   obtain ⟨h1,h2⟩:=hs k hlt b hI
   rw [←hx] at h1 h2
   simp only [foldS]
   cases hf':f x b with
   | next b'=>
    rw [hf'] at h1
    rw [M.loop_next h1]
    exact ih (k+1) b' hlt hr (h2 b' hf')
   | done r'=>
    rw [hf'] at h1
    exact M.loop_done h1
 exact key 0 l b (Nat.zero_le _) rfl h0
theorem M.loop_listT {α β σ ρ:Type} {body:σ→M (Step σ ρ)} {s0:σ} (l:List α) (mk:Nat→β→σ) (f:α→β→Step β ρ) (fin:β→ρ) (b:β) (hs0:s0=mk 0 b)
  (hs:∀ i (h:i<l.length) b,body (mk i b)=M.pure (Step.mapN (mk (i+1)) (f l[i] b)))
  (hf:∀ b,body (mk l.length b)=M.pure (.done (fin b))):M.loop body s0=M.pure (foldS f fin l b):=
 M.loop_list l mk f fin (fun _ _=>True) b hs0 trivial (fun i h b _=>⟨hs i h b,fun _ _=>trivial⟩) fun b _=>hf b
section
variable {α β ρ:Type}
theorem foldS_any {p:α→Bool} {r:ρ} {fin:β→ρ}:∀ (l:List α) (b:β),foldS (fun x b=>if p x=true then .done r else .next b) fin l b=if l.any p=true then r else fin b
 | [],b=>by simp [foldS]
 | x::l,b=>by
  simp only [foldS,List.any_cons,Bool.or_eq_true]
  by_cases h:p x=true
  ·simp [h]
  ·have h:p x=false:=by simpa using h
   simp only [h,Bool.false_eq_true,if_false,false_or];exact foldS_any l b
theorem foldS_all {p:α→Bool} {r:ρ} {fin:β→ρ}:∀ (l:List α) (b:β),foldS (fun x b=>if p x=true then .next b else .done r) fin l b=if l.all p=true then fin b else r
 | [],b=>by simp [foldS]
 | x::l,b=>by
  simp only [foldS,List.all_cons,Bool.and_eq_true]
  by_cases h:p x=true
  ·simp only [h,if_true,true_and];exact foldS_all l b
  ·simp [h]
theorem foldS_next {h:β→α→β} {fin:β→ρ}:∀ (l:List α) (b:β),foldS (fun x b=>.next (h b x)) fin l b=fin (l.foldl h b)
 | [],b=>rfl
 | x::l,b=>by simp only [foldS,List.foldl_cons];exact foldS_next l (h b x)
theorem foldl_filter_app {p:α→Bool}:∀ (l:List α) (b:List α),l.foldl (fun b x=>if p x=true then b++[x] else b) b=b++l.filter p
 | [],b=>by simp
 | x::l,b=>by
  simp only [List.foldl_cons,List.filter_cons]
  rw [foldl_filter_app l]
  split<;>simp
theorem foldl_map_app {γ:Type} {g:α→γ}:∀ (l:List α) (b:List γ),l.foldl (fun b x=>b++[g x]) b=b++l.map g
 | [],b=>by simp
 | x::l,b=>by simp only [List.foldl_cons,List.map_cons];rw [foldl_map_app l];simp
end
theorem any_not {α:Type} {p q:α→Bool} (h:∀ x,p x=!q x) (l:List α):l.any p=!l.all q:=by
 rw [show p=fun x=>!q x from funext h,List.not_all_eq_any_not]
theorem foldS_anyN {α β ρ:Type} {p q:α→Bool} {r:ρ} {fin:β→ρ} (l:List α) (b:β) (h:∀ x,p x=!q x):foldS (fun x b=>if p x=true then .done r else .next b) fin l b=if l.all q=true then fin b else r:=by
 rw [foldS_any,any_not h]
 cases l.all q<;>rfl
theorem fin_step {σ β ρ:Type} {c:Bool} {mk:β→σ} {b:β} {r:ρ}:(if c=true then M.pure (Step.done r) else M.pure (Step.next (mk b)))=M.pure (Step.mapN mk (if c=true then .done r else .next b)):=by cases c<;>rfl
theorem fin_step2 {σ β ρ:Type} {c:Bool} {mk:β→σ} {b:β} {r:ρ}:(if c=true then M.pure (Step.done r) else M.pure (Step.next (mk b)))=M.pure (Step.mapN mk (if c=true then .done r else .next b)):=by cases c<;>rfl
theorem lt_len {l:Nat} {i:Nat} (h:i<l):decide ((i:Int)<(l:Int))=true:=by simpa using h
theorem in_len {l:Nat} {i:Nat} (h:i<l):((0:Int)≤(i:Int)∧(i:Int)<(l:Int))=True:=by simp;omega
theorem getD_nat {α:Type} {l:List α} {i:Nat} {d:α} (h:i<l.length):l.getD (Int.toNat (i:Int)) d=l[i]:=by
 simp [List.getD_eq_getElem?_getD,h]
theorem getD_mem {α:Type} {l:List α} {i:Int} {d:α} (h0:0≤i) (h:i<(l.length:Int)):l.getD i.toNat d∈l:=by
 have:i.toNat<l.length:=by omega
 simp [List.getD_eq_getElem?_getD,this]
def intR (a b:Int):List Int:=(List.range (b - a+1).toNat).map fun (i:Nat)=>a+(i:Int)
theorem intR_length (a b:Int):(intR a b).length=(b - a+1).toNat:=by simp [intR]
theorem intR_get {a b:Int} {i:Nat} (h:i<(intR a b).length):(intR a b)[i]=a+i:=by simp [intR]
theorem mem_intR {a b n:Int}:n∈intR a b↔a≤n∧n≤b:=by
 simp only [intR,List.mem_map,List.mem_range]
 constructor
 ·rintro ⟨i,h,rfl⟩;omega
 ·rintro ⟨h1,h2⟩;exact ⟨(n - a).toNat,by omega,by omega⟩
end Go.Fer
namespace Go.Fer
open M (Step)
set_option linter.unusedVariables false
set_option linter.unusedSimpArgs false
abbrev tI:Ty:=.int .i64
abbrev tB:Ty:=.bool
abbrev tInts:Ty:=.slice tI
abbrev tSpan:Ty:=.st (.prod tI tI)
abbrev tSpare:Ty:=.st (.prod tI (.prod tI tSpan))
abbrev tSlot:Ty:=.st (.prod tI (.prod tInts tSpan))
abbrev tMake:Ty:=.st (.slice tSlot)
abbrev tTrial:Ty:=.st (.prod tI (.prod tI (.prod tI tI)))
abbrev tW:Ty:=.st (.prod (.slice tSpare) (.prod (.slice tMake) (.prod tI (.slice tTrial))))
attribute [simp] or_gdo or_gdo2 and_gdo M.bind_det M.bind_req M.bind_ite M.val_det M.val_pure M.safe_det M.gdo_det M.gdo_pure M.go_next M.go_done add_def add_defN append_def Step.mapN
abbrev fcWithin:FC:=⟨.prod tI (.prod tI tI),tB,fun _=>True,fun x=>decide (x.2.1≤x.1)&&decide (x.1≤x.2.2)⟩
theorem sWithin (x):M.le (S_ref07_Within x) (fcWithin.sh x):=M.le_det fun _=>rfl
abbrev fcIn:FC:=⟨.prod tInts tI,tB,fun x=>x.1.length<2 ^ 63,fun x=>x.1.contains x.2⟩
theorem any_contains (l:List Int) (n:Int):(l.any fun y=>y == n)=l.contains n:=by rw [Bool.eq_iff_iff];simp
theorem eIn (l:List Int) (n:Int) (h:l.length<2 ^ 63):S_ref07_In (l,n)=M.pure (l.contains n):=by
 unfold S_ref07_In
 rw [M.loop_listT l (fun i (_:Unit)=>(l,n,(i:Int),())) (fun y b=>if (y == n)=true then .done (.done true) else .next b) (fun _=>.next ()) () ?_ ?_ ?_]
 ·rw [foldS_any,any_contains]
  cases l.contains n<;>simp
 ·rfl
 ·intro i hi b
  have hw:=wrap64 (n:=(i:Int)+1) (by omega) (by omega)
  simp [hi,hw]
  split<;>simp_all
 ·intro b
  simp
theorem sIn (x):M.le (S_ref07_In x) (fcIn.sh x):=M.le_det fun h=>eIn x.1 x.2 h
abbrev Spr:Type:=Int×Int×Int×Int
abbrev Slt:Type:=Int×List Int×Int×Int
abbrev Trl:Type:=Int×Int×Int×Int
def smallW (w:Wsh):Prop:=w.1.length<2 ^ 63∧w.2.1.length<2 ^ 63∧w.2.2.2.length<2 ^ 63∧∀ m∈w.2.1,m.length<2 ^ 63∧∀ s∈m,s.2.1.length<2 ^ 63
def isSpareV (w:Wsh) (n:Int):Bool:=decide (0≤n)&&decide (n<(w.1.length:Int))
def isMakeV (w:Wsh) (n:Int):Bool:=decide (0≤n)&&decide (n<(w.2.1.length:Int))
def slotsOfV (w:Wsh) (m:Int):List Slt:=w.2.1.getD m.toNat []
def isSlotOfV (w:Wsh) (m k:Int):Bool:=isMakeV w m&&(decide (0≤k)&&decide (k<((slotsOfV w m).length:Int)))
theorem isSpareV_iff {w:Wsh} {n:Int}:isSpareV w n=true↔0≤n∧n<(w.1.length:Int):=by simp [isSpareV]
theorem isMakeV_iff {w:Wsh} {n:Int}:isMakeV w n=true↔0≤n∧n<(w.2.1.length:Int):=by simp [isMakeV]
theorem isSlotOfV_iff {w:Wsh} {m k:Int}:isSlotOfV w m k=true↔(0≤m∧m<(w.2.1.length:Int))∧0≤k∧k<((slotsOfV w m).length:Int):=by simp [isSlotOfV,isMakeV]
theorem slots_small {w:Wsh} (hw:smallW w) (m:Int):(slotsOfV w m).length<2 ^ 63:=by
 unfold slotsOfV
 rw [List.getD_eq_getElem?_getD]
 cases h:w.2.1[m.toNat]? with
 | none=>simp
 | some x=>exact (hw.2.2.2 x (List.mem_of_getElem? h)).1
theorem le_pred (n m:Int):decide (n≤m - 1)=decide (n<m):=by
 rw [decide_eq_decide];omega
abbrev fcIsSpare:FC:=⟨.prod tW tI,tB,fun x=>smallW x.1,fun x=>isSpareV x.1 x.2⟩
theorem eIsSpare (w:Wsh) (n:Int) (h:smallW w):S_ref07_IsSpare fcWithin.sh (w,n)=M.pure (isSpareV w n):=by
 unfold S_ref07_IsSpare
 have hl:=h.1
 have hw:=wrap64 (n:=(w.1.length:Int) - 1) (by omega) (by omega)
 simp [FC.sh,fcWithin,hw,isSpareV,le_pred]
theorem sIsSpare (x):M.le (S_ref07_IsSpare fcWithin.sh x) (fcIsSpare.sh x):=M.le_det fun h=>eIsSpare x.1 x.2 h
abbrev fcIsMake:FC:=⟨.prod tW tI,tB,fun x=>smallW x.1,fun x=>isMakeV x.1 x.2⟩
theorem eIsMake (w:Wsh) (n:Int) (h:smallW w):S_ref07_IsMake fcWithin.sh (w,n)=M.pure (isMakeV w n):=by
 unfold S_ref07_IsMake
 have hl:=h.2.1
 have hw:=wrap64 (n:=(w.2.1.length:Int) - 1) (by omega) (by omega)
 simp [FC.sh,fcWithin,hw,isMakeV,le_pred]
theorem sIsMake (x):M.le (S_ref07_IsMake fcWithin.sh x) (fcIsMake.sh x):=M.le_det fun h=>eIsMake x.1 x.2 h
abbrev fcIsSlotOf:FC:=⟨.prod tW (.prod tI tI),tB,fun x=>smallW x.1,fun x=>isSlotOfV x.1 x.2.1 x.2.2⟩
theorem eIsSlotOf (w:Wsh) (m k:Int) (h:smallW w):S_ref07_IsSlotOf fcWithin.sh fcIsMake.sh (w,m,k)=M.pure (isSlotOfV w m k):=by
 unfold S_ref07_IsSlotOf
 have hl:=slots_small h m
 have hw:=wrap64 (n:=((slotsOfV w m).length:Int) - 1) (by omega) (by omega)
 unfold slotsOfV at hw
 simp only [FC.sh,fcWithin,fcIsMake,M.bind_det,M.gdo_det,ofNat_def,hw,le_pred,M.req_true h]
 rw [M.req_true,M.req_true (by simp)]
 ·simp only [isSlotOfV,slotsOfV]
  cases isMakeV w m<;>simp
 ·intro hm
  exact ⟨⟨hm,hm⟩,isMakeV_iff.1 hm,trivial⟩
theorem sIsSlotOf (x):M.le (S_ref07_IsSlotOf fcWithin.sh fcIsMake.sh x) (fcIsSlotOf.sh x):=M.le_det fun h=>eIsSlotOf x.1 x.2.1 x.2.2 h
def isLengthV (s:Int×Int):Bool:=(decide (0≤s.1)&&decide (s.1≤s.2))&&decide (s.2≤999)
abbrev fcIsLength:FC:=⟨tSpan,tB,fun _=>True,isLengthV⟩
theorem eIsLength (s:Int×Int):S_ref07_isLength fcWithin.sh s=M.pure (isLengthV s):=by
 unfold S_ref07_isLength
 simp [FC.sh,fcWithin,isLengthV]
theorem sIsLength (x):M.le (S_ref07_isLength fcWithin.sh x) (fcIsLength.sh x):=M.le_det fun _=>eIsLength x
def ascV (l:List Int):Bool:=(List.range (l.length - 1)).all fun i=>decide (l.getD i 0<l.getD (i+1) 0)
abbrev fcAscending:FC:=⟨tInts,tB,fun x=>x.length<2 ^ 63,ascV⟩
theorem eAscending (l:List Int) (h:l.length<2 ^ 63):S_ref07_Ascending l=M.pure (ascV l):=by
 unfold S_ref07_Ascending
 rw [M.loop_listT (List.range (l.length - 1)) (fun i (_:Unit)=>(l,((i+1:Nat):Int),())) (fun i b=>if (decide (l.getD i 0<l.getD (i+1) 0))=true then .next b else .done (.done false)) (fun _=>.next ()) () ?_ ?_ ?_]
 ·rw [foldS_all]
  unfold ascV
  cases (List.range (l.length - 1)).all fun i=>decide (l.getD i 0<l.getD (i+1) 0)<;>simp
 ·simp
 ·intro i hi b
  have hi':i+1<l.length:=by simp at hi;omega
  have hw:=wrap64 (n:=(i:Int)+1+1) (by omega) (by omega)
  have hw2:=wrap64 (n:=(i:Int)+1 - 1) (by omega) (by omega)
  have e1:((i:Int)+1).toNat=i+1:=by omega
  have e2:((i:Int)+1 - 1).toNat=i:=by omega
  have r1:(0:Int)≤(i:Int)+1∧(i:Int)+1<(l.length:Int):=by omega
  have r2:(0:Int)≤(i:Int)+1 - 1∧(i:Int)+1 - 1<(l.length:Int):=by omega
  simp only [ofNat_def,Int.natCast_add,Int.cast_ofNat_Int,hw,hw2,r1,r2,M.req_true,e1,e2,add_def,List.getElem_range,decide_eq_true_eq,if_true,M.bind_pure,decide_true,and_self,Int.natCast_one]
  generalize l.getD i 0=A
  generalize l.getD (i+1) 0=B
  by_cases hc:A<B
  ·simp [hc,Int.not_le.2 hc]
  ·simp [hc,Int.not_lt.1 hc]
 ·intro b
  have:¬(((List.range (l.length - 1)).length:Int)+1<(l.length:Int)):=by simp;omega
  simp [this]
  omega
theorem sAscending (x):M.le (S_ref07_Ascending x) (fcAscending.sh x):=M.le_det fun h=>eAscending x h
end Go.Fer
namespace Go.Fer
open M (Step)
set_option linter.unusedVariables false
set_option linter.unusedSimpArgs false
def markV (n:Int):Bool:=decide (0≤n)&&decide (n≤9)
def slotV (s:Slt):Bool:=s.2.1.all markV&&(markV s.1&&decide ((s.2.1.length:Int)≤4)&&ascV s.2.1&&isLengthV s.2.2)
def spareV (s:Spr):Bool:=markV s.1&&markV s.2.1&&isLengthV s.2.2
def trialV (w:Wsh) (t:Trl):Bool:=isSpareV w t.1&&isSlotOfV w t.2.1 t.2.2.1&&(decide (0≤t.2.2.2)&&decide (t.2.2.2≤1))
def makeV (m:List Slt):Bool:=!decide ((m.length:Int) > 4)&&m.all slotV
def headV (w:Wsh):Bool:=!(decide ((w.1.length:Int) > 10)||decide ((w.2.1.length:Int) > 6)||!(decide (0≤w.2.2.1)&&decide (w.2.2.1≤99))||decide ((w.2.2.2.length:Int) > 30))
def wV (w:Wsh):Bool:=headV w&&w.1.all spareV&&w.2.1.all makeV&&w.2.2.2.all (trialV w)
abbrev fcIsSlot:FC:=⟨tSlot,tB,fun x=>x.2.1.length<2 ^ 63,slotV⟩
theorem eIsSlot (s:Slt) (h:s.2.1.length<2 ^ 63):S_ref07_isSlot fcAscending.sh fcWithin.sh fcIsLength.sh s=M.pure (slotV s):=by
 unfold S_ref07_isSlot
 rw [M.loop_listT s.2.1 (fun i (_:Unit)=>((i:Int),s,())) (fun n b=>if markV n=true then .next b else .done (.done false)) (fun _=>.next (s,())) () ?_ ?_ ?_]
 ·rw [foldS_all]
  unfold slotV
  cases s.2.1.all markV with
  | false=>simp
  | true=>
   simp only [FC.sh,fcWithin,fcAscending,fcIsLength,M.req_true h,markV,if_true,M.bind_pure,M.go_next,M.bind_det,M.gdo_det,M.req_True,ofNat_def,h,implies_true,Bool.true_and]
   congr 1
   cases decide (0≤s.1)<;>cases decide (s.1≤9)<;>cases decide ((s.2.1.length:Int)≤4)<;>cases ascV s.2.1<;>simp
 ·rfl
 ·intro i hi b
  have hw:=wrap64 (n:=(i:Int)+1) (by omega) (by omega)
  simp [FC.sh,fcWithin,hi,hw,markV]
  grind
 ·intro b
  simp
theorem sIsSlot (x):M.le (S_ref07_isSlot fcAscending.sh fcWithin.sh fcIsLength.sh x) (fcIsSlot.sh x):=M.le_det fun h=>eIsSlot x h
abbrev fcIsWorkshop:FC:=⟨tW,tB,smallW,wV⟩
theorem eIsWorkshop (w:Wsh) (h:smallW w):S_ref07_isWorkshop fcIsSpare.sh fcIsSlotOf.sh fcWithin.sh fcIsLength.sh fcIsSlot.sh w=M.pure (wV w):=by
 have hs:=h
 obtain ⟨h1,h2,h3,h4⟩:=h
 unfold S_ref07_isWorkshop
 simp only [FC.sh,fcWithin,M.gdo_det,M.bind_det,implies_true,M.req_True,ofNat_def,or_gdo]
 split
 ·rename_i hc
  have:headV w=false:=by unfold headV;grind
  simp [wV,this]
 ·rename_i hc
  have hh:headV w=true:=by unfold headV;grind
  have hl4:w.2.1.length≤6:=by simp [headV] at hh;omega
  rw [M.loop_listT w.1 (fun i (_:Unit)=>((i:Int),w,())) (fun n b=>if (!markV n.1||!markV n.2.1||!isLengthV n.2.2)=true then .done (.done false) else .next b) (fun _=>.next (w,())) () ?_ ?_ ?_]
  ·rw [foldS_anyN (q:=spareV) _ _ (fun t=>by simp only [spareV,Bool.not_and])]
   cases hA:w.1.all spareV with
   | false=>simp [wV,hA]
   | true=>
    simp only [M.bind_pure,if_true,M.go_next]
    rw [M.loop_listT w.2.1 (fun i (_:Unit)=>((i:Int),w,())) (fun m b=>if makeV m=true then .next b else .done (.done false)) (fun _=>.next (w,())) () ?_ ?_ ?_]
    ·rw [foldS_all]
     cases hB:w.2.1.all makeV with
     | false=>simp [wV,hB]
     | true=>
      simp only [M.bind_pure,if_true,M.go_next]
      rw [M.loop_listT w.2.2.2 (fun i (_:Unit)=>((i:Int),w,())) (fun t b=>if (!isSpareV w t.1||!isSlotOfV w t.2.1 t.2.2.1||!(decide (0≤t.2.2.2)&&decide (t.2.2.2≤1)))=true then .done (.done false) else .next b) (fun _=>.next ()) () ?_ ?_ ?_]
      ·rw [foldS_anyN (q:=trialV w) _ _ (fun t=>by simp only [trialV,Bool.not_and])]
       cases hC:w.2.2.2.all (trialV w)<;>simp [wV,hA,hB,hC,hh]
      ·rfl
      ·intro i hi b
       have hw:=wrap64 (n:=(i:Int)+1) (by omega) (by omega)
       simp only [ofNat_def,lt_len hi,if_true,getD_nat hi,in_len hi,M.req_True,FC.sh,fcIsSpare,fcIsSlotOf,M.bind_det,M.gdo_det,hs,implies_true,or_gdo,M.bind_pure,add_def,hw]
       exact fin_step (mk:=fun _:Unit=>((i:Int)+1,w,()))
      ·intro b
       simp
    ·rfl
    ·intro i hi b
     have hw:=wrap64 (n:=(i:Int)+1) (by omega) (by omega)
     obtain ⟨hm1,hm2⟩:=h4 w.2.1[i] (List.getElem_mem hi)
     simp only [ofNat_def,Int.ofNat_lt,hi,decide_true,if_true,getD_nat hi,Int.natCast_nonneg,and_self,M.req_True]
     by_cases hlen:(w.2.1[i].length:Int) > 4
     ·simp [hlen,makeV]
     ·simp only [hlen,decide_false,Bool.false_eq_true,if_false]
      rw [M.loop_listT w.2.1[i] (fun k (_:Unit)=>((i:Int),(k:Int),w,())) (fun s b=>if (!slotV s)=true then .done (.done (.done (.done false))) else .next b) (fun _=>.next ((i:Int),w,())) () ?_ ?_ ?_]
      ·rw [foldS_anyN (q:=slotV) _ _ (fun _=>rfl)]
       cases hD:w.2.1[i].all slotV<;>simp [makeV,hD,hlen,hw]
      ·rfl
      ·intro k hk b
       have hwk:=wrap64 (n:=(k:Int)+1) (by omega) (by omega)
       have hsm:=hm2 w.2.1[i][k] (List.getElem_mem hk)
       simp only [ofNat_def,lt_len hk,lt_len hi,if_true,getD_nat hi,getD_nat hk,in_len hi,in_len hk,M.req_True,fcIsSlot,M.bind_det,hsm,M.req_true hsm,M.bind_pure,add_def,hwk]
       exact fin_step (mk:=fun _:Unit=>((i:Int),(k:Int)+1,w,()))
      ·intro b
       simp [hi]
    ·intro b
     simp
  ·rfl
  ·intro i hi b
   have hw:=wrap64 (n:=(i:Int)+1) (by omega) (by omega)
   simp only [ofNat_def,lt_len hi,if_true,getD_nat hi,in_len hi,M.req_True,FC.sh,fcIsLength,M.bind_det,M.gdo_det,implies_true,or_gdo,M.bind_pure,add_def,hw,Bool.not_not]
   exact fin_step (mk:=fun _:Unit=>((i:Int)+1,w,()))
  ·intro b
   simp
theorem sIsWorkshop (x):M.le (S_ref07_isWorkshop fcIsSpare.sh fcIsSlotOf.sh fcWithin.sh fcIsLength.sh fcIsSlot.sh x) (fcIsWorkshop.sh x):=M.le_det fun h=>eIsWorkshop x h
end Go.Fer
namespace Go.Fer
open M (Step)
set_option linter.unusedVariables false
set_option linter.unusedSimpArgs false
abbrev dTrl:Trl:=(0,0,0,0)
def clash (a b:Trl):Bool:=decide (a.1=b.1)&&decide (a.2.1=b.2.1)&&decide (a.2.2.1=b.2.2.1)&&decide (a.2.2.2≠b.2.2.2)
def tabOk (l:List Trl):Bool:=(List.range l.length).all fun i=>(List.range i).all fun k=>!clash (l.getD k dTrl) (l.getD i dTrl)
def checkV (w:Wsh):Int:=if wV w=true then (if tabOk w.2.2.2=true then 0 else 71) else 70
theorem nat_in {a b:Nat} (h:a<b):((0:Int)≤(a:Int)∧(a:Int)<(b:Int))=True:=in_len h
abbrev fcCheck:FC:=⟨tW,tI,smallW,checkV⟩
theorem eCheck (w:Wsh) (h:smallW w):S_ref07_Check fcIsWorkshop.sh w=M.pure (checkV w):=by
 have hs:=h
 obtain ⟨h1,h2,h3,h4⟩:=h
 unfold S_ref07_Check
 simp only [FC.sh,fcIsWorkshop,M.bind_det,M.req_true hs]
 unfold checkV
 cases hw:wV w with
 | false=>simp
 | true=>
  simp only [Bool.not_true,Bool.false_eq_true,if_false,if_true]
  rw [M.loop_listT (List.range w.2.2.2.length) (fun i (_:Unit)=>((i:Int),w,())) (fun i b=>if (List.range i).any (fun k=>clash (w.2.2.2.getD k dTrl) (w.2.2.2.getD i dTrl))=true then .done (.done (71:Int)) else .next b) (fun _=>.next ()) () ?_ ?_ ?_]
  ·rw [foldS_anyN (q:=fun i=>(List.range i).all fun k=>!clash (w.2.2.2.getD k dTrl) (w.2.2.2.getD i dTrl)) _ _ (fun i=>any_not (fun k=>by simp) _)]
   have e:((List.range w.2.2.2.length).all fun i=>(List.range i).all fun k=>!clash (w.2.2.2.getD k dTrl) (w.2.2.2.getD i dTrl))=tabOk w.2.2.2:=rfl
   rw [e]
   cases tabOk w.2.2.2<;>simp
  ·rfl
  ·intro i hi b
   have hi:i<w.2.2.2.length:=by simpa using hi
   have hwr:=wrap64 (n:=(i:Int)+1) (by omega) (by omega)
   simp only [ofNat_def,lt_len hi,if_true,List.getElem_range]
   rw [M.loop_listT (List.range i) (fun k (_:Unit)=>((i:Int),(k:Int),w,())) (fun k b=>if clash (w.2.2.2.getD k dTrl) (w.2.2.2.getD i dTrl)=true then .done (.done (.done (.done (71:Int)))) else .next b) (fun _=>.next ((i:Int),w,())) () ?_ ?_ ?_]
   ·rw [foldS_any]
    cases (List.range i).any (fun k=>clash (w.2.2.2.getD k dTrl) (w.2.2.2.getD i dTrl))<;>simp [hwr]
   ·rfl
   ·intro k hk b
    have hk:k<i:=by simpa using hk
    have hk2:k<w.2.2.2.length:=by omega
    have hwk:=wrap64 (n:=(k:Int)+1) (by omega) (by omega)
    simp only [lt_len hk,if_true,List.getElem_range,nat_in hk2,nat_in hi,M.req_True,Int.toNat_natCast,M.bind_pure,add_def,hwk]
    exact fin_step (mk:=fun _:Unit=>((i:Int),(k:Int)+1,w,()))
   ·intro b
    simp
  ·intro b
   simp
theorem sCheck (x):M.le (S_ref07_Check fcIsWorkshop.sh x) (fcCheck.sh x):=M.le_det fun h=>eCheck x h
def spareAt (w:Wsh) (i:Int):Spr:=w.1.getD i.toNat (0,0,0,0)
def slotAt (w:Wsh) (m k:Int):Slt:=(slotsOfV w m).getD k.toNat (0,[],0,0)
theorem spareAt_mem {w:Wsh} {i:Int} (h:isSpareV w i=true):spareAt w i∈w.1:=by
 rw [isSpareV_iff] at h
 exact getD_mem h.1 h.2
theorem slotsOf_mem {w:Wsh} {m k:Int} (h:isSlotOfV w m k=true):slotsOfV w m∈w.2.1:=by
 rw [isSlotOfV_iff] at h
 exact getD_mem h.1.1 h.1.2
theorem slotAt_mem {w:Wsh} {m k:Int} (h:isSlotOfV w m k=true):slotAt w m k∈slotsOfV w m:=by
 rw [isSlotOfV_iff] at h
 exact getD_mem h.2.1 h.2.2
theorem wV_split {w:Wsh} (h:wV w=true):headV w=true∧(∀ s∈w.1,spareV s=true)∧(∀ m∈w.2.1,makeV m=true)∧∀ t∈w.2.2.2,trialV w t=true:=by
 simp only [wV,Bool.and_eq_true,List.all_eq_true] at h
 exact ⟨h.1.1.1,h.1.1.2,h.1.2,h.2⟩
theorem wV_head {w:Wsh} (h:wV w=true):w.1.length≤10∧w.2.1.length≤6∧(0≤w.2.2.1∧w.2.2.1≤99)∧w.2.2.2.length≤30:=by
 have:=(wV_split h).1
 simp [headV] at this
 omega
theorem wV_slots {w:Wsh} (h:wV w=true) {m k:Int} (hm:isSlotOfV w m k=true):(slotsOfV w m).length≤4:=by
 have:=(wV_split h).2.2.1 _ (slotsOf_mem hm)
 simp [makeV] at this
 omega
theorem wV_slot {w:Wsh} (h:wV w=true) {m k:Int} (hm:isSlotOfV w m k=true):slotV (slotAt w m k)=true:=by
 have:=(wV_split h).2.2.1 _ (slotsOf_mem hm)
 simp only [makeV,Bool.and_eq_true,List.all_eq_true] at this
 exact this.2 _ (slotAt_mem hm)
theorem slotV_len {s:Slt} (h:slotV s=true):0≤s.2.2.1∧s.2.2.1≤s.2.2.2∧s.2.2.2≤999:=by
 simp only [slotV,isLengthV,Bool.and_eq_true,decide_eq_true_eq] at h
 omega
theorem wV_spare {w:Wsh} (h:wV w=true) {i:Int} (hi:isSpareV w i=true):0≤(spareAt w i).2.2.1∧(spareAt w i).2.2.1≤(spareAt w i).2.2.2∧(spareAt w i).2.2.2≤999:=by
 have:=(wV_split h).2.1 _ (spareAt_mem hi)
 simp only [spareV,isLengthV,Bool.and_eq_true,decide_eq_true_eq] at this
 omega
theorem wV_trial {w:Wsh} (h:wV w=true) {t:Trl} (ht:t∈w.2.2.2):isSpareV w t.1=true∧isSlotOfV w t.2.1 t.2.2.1=true:=by
 have:=(wV_split h).2.2.2 _ ht
 simp only [trialV,Bool.and_eq_true] at this
 exact this.1
def fitsAt (w:Wsh) (i n m k:Int):Bool:=
 decide ((spareAt w i).1=(slotAt w m k).1)&&(slotAt w m k).2.1.contains (spareAt w i).2.1&&(decide ((slotAt w m k).2.2.1≤n)&&decide (n≤(slotAt w m k).2.2.2+w.2.2.1))
def goodW (w:Wsh):Prop:=smallW w∧wV w=true
abbrev fcFitsAt:FC:=⟨.prod tW (.prod tI (.prod tI (.prod tI tI))),tB,fun x=>goodW x.1∧isSpareV x.1 x.2.1=true∧isSlotOfV x.1 x.2.2.2.1 x.2.2.2.2=true,fun x=>fitsAt x.1 x.2.1 x.2.2.1 x.2.2.2.1 x.2.2.2.2⟩
theorem eFitsAt (w:Wsh) (i n m k:Int) (hw:goodW w) (hi:isSpareV w i=true) (hm:isSlotOfV w m k=true):S_ref07_FitsAt fcIn.sh fcWithin.sh (w,i,n,m,k)=M.pure (fitsAt w i n m k):=by
 unfold S_ref07_FitsAt
 have r1:=isSpareV_iff.1 hi
 have r2:=isSlotOfV_iff.1 hm
 have hsl:=slotV_len (wV_slot hw.2 hm)
 have hcut:=(wV_head hw.2).2.2.1
 have hsm:(slotAt w m k).2.1.length<2 ^ 63:=(hw.1.2.2.2 _ (slotsOf_mem hm)).2 _ (slotAt_mem hm)
 have hwr:=wrap64 (n:=(slotAt w m k).2.2.2+w.2.2.1) (by omega) (by omega)
 unfold fitsAt
 simp only [slotAt,slotsOfV,spareAt] at *
 simp only [FC.sh,fcIn,fcWithin,M.gdo_det,M.bind_det,ofNat_def,r1,r2,and_self,M.req_True,implies_true,add_def,hwr,and_gdo,M.req_true (fun _=>hsm),hsm]
 rfl
theorem sFitsAt (x):M.le (S_ref07_FitsAt fcIn.sh fcWithin.sh x) (fcFitsAt.sh x):=M.le_det fun h=>eFitsAt x.1 x.2.1 x.2.2.1 x.2.2.2.1 x.2.2.2.2 h.1 h.2.1 h.2.2
def bears (w:Wsh) (i n:Int) (t:Trl):Bool:=!(decide (t.1=i)&&!decide (fitsAt w i n t.2.1 t.2.2.1=decide (t.2.2.2=1)))
def canBe (w:Wsh) (i n:Int):Bool:=w.2.2.2.all (bears w i n)&&(decide ((spareAt w i).2.2.1≤n)&&decide (n≤(spareAt w i).2.2.2))
abbrev fcCanBe:FC:=⟨.prod tW (.prod tI tI),tB,fun x=>goodW x.1∧isSpareV x.1 x.2.1=true,fun x=>canBe x.1 x.2.1 x.2.2⟩
theorem eCanBe (w:Wsh) (i n:Int) (hw:goodW w) (hi:isSpareV w i=true):S_ref07_CanBe fcFitsAt.sh fcWithin.sh (w,i,n)=M.pure (canBe w i n):=by
 unfold S_ref07_CanBe
 have r1:=isSpareV_iff.1 hi
 have hl:=(wV_head hw.2).2.2.2
 rw [M.loop_listT w.2.2.2 (fun j (_:Unit)=>(i,n,(j:Int),w,())) (fun t b=>if (decide (t.1=i)&&!decide (fitsAt w i n t.2.1 t.2.2.1=decide (t.2.2.2=1)))=true then .done (.done false) else .next b) (fun _=>.next (i,n,w,())) () ?_ ?_ ?_]
 ·rw [foldS_anyN (q:=bears w i n) _ _ (fun t=>by simp only [bears,Bool.not_not])]
  unfold canBe
  cases w.2.2.2.all (bears w i n) with
  | false=>simp
  | true=>simp only [if_true,M.bind_pure,M.go_next,FC.sh,fcWithin,M.safe_det,M.val_det,ofNat_def,r1,and_self,M.req_True,Bool.true_and,spareAt];rfl
 ·rfl
 ·intro j hj b
  have hwr:=wrap64 (n:=(j:Int)+1) (by omega) (by omega)
  have ht:=wV_trial hw.2 (List.getElem_mem hj)
  have hp:decide (w.2.2.2[j].1=i)=true→(goodW w∧isSpareV w i=true∧isSlotOfV w w.2.2.2[j].2.1 w.2.2.2[j].2.2.1=true):=fun _=>⟨hw,hi,ht.2⟩
  simp only [ofNat_def,lt_len hj,if_true,getD_nat hj,in_len hj,M.req_True,FC.sh,fcFitsAt,M.safe_det,M.val_det,M.bind_pure,add_def,hwr,and_true,true_and,and_self,implies_true,imp_self]
  rw [M.req_true (fun h=>⟨h,hp h⟩)]
  exact fin_step (mk:=fun _:Unit=>(i,n,(j:Int)+1,w,()))
 ·intro b
  simp
theorem sCanBe (x):M.le (S_ref07_CanBe fcFitsAt.sh fcWithin.sh x) (fcCanBe.sh x):=M.le_det fun h=>eCanBe x.1 x.2.1 x.2.2 h.1 h.2
def lens (w:Wsh) (i:Int):List Int:=(intR (spareAt w i).2.2.1 (spareAt w i).2.2.2).filter (canBe w i)
theorem lens_len {w:Wsh} {i:Int} (hw:goodW w) (hi:isSpareV w i=true):(lens w i).length≤1000:=by
 have:=wV_spare hw.2 hi
 have h2:=List.length_filter_le (canBe w i) (intR (spareAt w i).2.2.1 (spareAt w i).2.2.2)
 rw [intR_length] at h2
 unfold lens
 omega
abbrev fcAll:FC:=⟨.prod tW tI,tInts,fun x=>goodW x.1∧isSpareV x.1 x.2=true,fun x=>lens x.1 x.2⟩
theorem eAll (w:Wsh) (i:Int) (hw:goodW w) (hi:isSpareV w i=true):S_ref07_all fcCanBe.sh (w,i)=M.pure (lens w i):=by
 unfold S_ref07_all
 have r1:=isSpareV_iff.1 hi
 have hl:=wV_spare hw.2 hi
 simp only [ofNat_def,r1,and_self,M.req_True]
 rw [M.loop_list (intR (spareAt w i).2.2.1 (spareAt w i).2.2.2) (fun k (l:List Int)=>(i,(spareAt w i).2.2.1+(k:Int),w,l,())) (fun n l=>.next (if canBe w i n=true then l++[n] else l)) (fun l=>.next (l,())) (fun k l=>l.length≤k) [] ?_ ?_ ?_ ?_]
 ·rw [foldS_next,foldl_filter_app]
  simp only [M.bind_pure,M.go_next,List.nil_append]
  rfl
 ·simp [spareAt]
 ·simp
 ·intro k hk l hkl
  have hk2:k<1000:=by rw [intR_length] at hk;omega
  have hlo:(spareAt w i).2.2.1+(k:Int)≤(spareAt w i).2.2.2:=by rw [intR_length] at hk;omega
  have hwr:=wrap64 (n:=(spareAt w i).2.2.1+(k:Int)+1) (by omega) (by omega)
  have hwr2:=wrap64 (n:=(spareAt w i).2.2.1+((k:Int)+1)) (by omega) (by omega)
  refine ⟨?_,fun b' hb=>?_⟩
  ·have hg:List.getD w.1 i.toNat (0,0,0,0)=spareAt w i:=rfl
   have hll:lenLe (l.length+(0+1)):=by unfold lenLe;omega
   have e1:(((k+1:Nat):Int))=(k:Int)+1:=by omega
   simp only [r1,and_self,M.req_True,hg,hlo,decide_true,if_true,FC.sh,fcCanBe,M.bind_det,hw,hi,intR_get,add_def,add_defN,append_def,M.req_true hll]
   cases canBe w i ((spareAt w i).2.2.1+(k:Int))<;>simp [hwr2,Int.add_assoc]
  ·cases hb
   split<;>(try simp only [List.length_append,List.length_singleton])<;>omega
 ·intro l hkl
  have hg:List.getD w.1 i.toNat (0,0,0,0)=spareAt w i:=rfl
  have:¬(spareAt w i).2.2.1+((intR (spareAt w i).2.2.1 (spareAt w i).2.2.2).length:Int)≤(spareAt w i).2.2.2:=by rw [intR_length];omega
  simp only [r1,and_self,M.req_True,hg,this,decide_false,Bool.false_eq_true,if_false,M.bind_pure]
theorem sAll (x):M.le (S_ref07_all fcCanBe.sh x) (fcAll.sh x):=M.le_det fun h=>eAll x.1 x.2 h.1 h.2
theorem isSpareV_nat {w:Wsh} {i:Nat} (h:i<w.1.length):isSpareV w (i:Int)=true:=by rw [isSpareV_iff];omega
def hasTruth (w:Wsh):Bool:=(List.range w.1.length).all fun i=>!decide (((lens w (i:Int)).length:Int)=0)
def knownV (w:Wsh) (is:Bool):Int:=if checkV w≠0 then checkV w else if is=false then 1 else if hasTruth w=true then 0 else 3
theorem wV_of_check {w:Wsh} (h:checkV w=0):wV w=true:=by
 unfold checkV at h
 split at h
 ·assumption
 ·cases h
abbrev fcKnown0:FC:=⟨.prod tW tB,tI,fun x=>smallW x.1,fun x=>knownV x.1 x.2⟩
theorem eKnown0 (w:Wsh) (is:Bool) (h:smallW w):S_ref07_known fcCheck.sh fcAll.sh (w,is)=M.pure (knownV w is):=by
 unfold S_ref07_known knownV
 simp only [FC.sh,fcCheck,M.bind_det,M.req_true h]
 by_cases hc:checkV w=0
 ·have hw:goodW w:=⟨h,wV_of_check hc⟩
  have hhd:=wV_head hw.2
  simp only [hc,ne_eq,not_true,decide_false,Bool.false_eq_true,if_false]
  cases is with
  | false=>simp
  | true=>
   simp only [Bool.not_true,Bool.false_eq_true,if_false,Bool.true_eq_false]
   rw [M.loop_listT (List.range w.1.length) (fun i (_:Unit)=>((i:Int),w,())) (fun i b=>if decide (((lens w (i:Int)).length:Int)=0)=true then .done (.done (3:Int)) else .next b) (fun _=>.next ()) () ?_ ?_ ?_]
   ·rw [foldS_anyN (q:=fun (i:Nat)=>!decide (((lens w (i:Int)).length:Int)=0)) _ _ (fun i=>by simp)]
    have e:((List.range w.1.length).all fun (i:Nat)=>!decide (((lens w (i:Int)).length:Int)=0))=hasTruth w:=rfl
    rw [e]
    cases hasTruth w<;>simp
   ·rfl
   ·intro i hi b
    have hi:i<w.1.length:=by simpa using hi
    have hwr:=wrap64 (n:=(i:Int)+1) (by omega) (by omega)
    simp only [ofNat_def,lt_len hi,if_true,List.getElem_range,fcAll,hw,isSpareV_nat hi,and_self,M.bind_det,M.req_True,M.bind_pure,add_def,hwr]
    exact fin_step (mk:=fun _:Unit=>((i:Int)+1,w,()))
   ·intro b
    simp
 ·simp [hc]
theorem sKnown0 (x):M.le (S_ref07_known fcCheck.sh fcAll.sh x) (fcKnown0.sh x):=M.le_det fun h=>eKnown0 x.1 x.2 h
abbrev fcKnown:FC:=⟨tW,tI,smallW,fun w=>knownV w true⟩
theorem sKnown (x):M.le (S_ref07_Known fcKnown0.sh x) (fcKnown.sh x):=M.le_det fun h=>by
 unfold S_ref07_Known
 simp only [FC.sh,fcKnown0,M.bind_det,M.req_true (show smallW x from h),fcKnown]
theorem knownV_0 {w:Wsh} {is:Bool} (h:knownV w is=0):checkV w=0∧is=true∧hasTruth w=true:=by
 unfold knownV at h
 by_cases hc:checkV w=0
 ·cases is<;>simp [hc] at h ⊢
  exact h
 ·simp [hc] at h
theorem good_of_known {w:Wsh} {is:Bool} (hs:smallW w) (h:knownV w is=0):goodW w:=⟨hs,wV_of_check (knownV_0 h).1⟩
theorem lens_pos {w:Wsh} (h:hasTruth w=true) {i:Int} (hi:isSpareV w i=true):0<(lens w i).length:=by
 rw [isSpareV_iff] at hi
 have:=List.all_eq_true.1 h i.toNat (by simp;omega)
 simp only [Bool.not_eq_true',decide_eq_false_iff_not] at this
 rw [Int.toNat_of_nonneg hi.1] at this
 omega
def lengthV (w:Wsh) (i:Int):(Int×Int)×Int:=if knownV w (isSpareV w i)≠0 then ((0,0),knownV w (isSpareV w i)) else (((lens w i).getD 0 0,(lens w i).getD ((lens w i).length - 1) 0),0)
abbrev fcLength:FC:=⟨.prod tW tI,.prod tSpan tI,fun x=>smallW x.1,fun x=>lengthV x.1 x.2⟩
def isV (some many:Int):Int:=if some=many then 1 else if some=0 then 2 else 3
abbrev fcIs:FC:=⟨.prod tI tI,tI,fun _=>True,fun x=>isV x.1 x.2⟩
theorem foldl_count {α:Type} {p:α→Bool}:∀ (l:List α) (n:Int),l.foldl (fun n x=>if p x=true then n+1 else n) n=n+(l.countP p:Int)
 | [],n=>by simp
 | x::l,n=>by
  simp only [List.foldl_cons,List.countP_cons]
  rw [foldl_count l]
  split<;>simp<;>omega
def fitsV (w:Wsh) (i m k:Int):Int:=isV ((lens w i).countP fun n=>fitsAt w i n m k:Int) ((lens w i).length:Int)
def fitsR (w:Wsh) (i m k:Int):Int×Int:=if knownV w (isSpareV w i&&isSlotOfV w m k)≠0 then (0,knownV w (isSpareV w i&&isSlotOfV w m k)) else (fitsV w i m k,0)
abbrev fcFits:FC:=⟨.prod tW (.prod tI (.prod tI tI)),.prod tI tI,fun x=>smallW x.1,fun x=>fitsR x.1 x.2.1 x.2.2.1 x.2.2.2⟩
end Go.Fer
