/- Part 3 of the proof of Lines: shallow programs of Go functions, and what they compute. No condition. -/
import Derived.Test.YtplfnoecifjgeaaGreatDoorLinesB
import Derived.RangeFuncIn
import Derived.RangeFuncRecord
import Derived.RangeFuncBound
import Derived.Scope
import Derived.RangeFuncLeaves
noncomputable section
set_option linter.unusedVariables false
set_option linter.unusedSimpArgs false
namespace Go.Fer
open Go.RowKit
def amA(C:cB)(o:Oper)(s:aE)(cP:jk):Prop:=
 ∀ (a:Act) (w:World) (Q:Exit->Act->World->Prop) (K:Act->World->Prop),c7 C s a w->cP.cG->dj cP.m (λy=>∀ a' w',c7 C (cP.ae y) a' w'->K a' w')->o.wpIn (e0 C.r) 0 C.P a w K Q
def amB(C:cB)(o:Oper)(s:aE)(cP:jk):Prop:=
 ∀ gs,cP.E2=some gs->(∀ y a w,c7 C (cP.ae y) a w->c7 C (gs true y) a w)/\∀ a w,c7 C s a w->c7 C (gs false cP.d) (a.put o.dst Go.undef) w
structure rW(C:cB)(o:Oper)(s:aE)(cP:jk):Prop where
 prog:amA C o s cP
 aHf:amB C o s cP
 aHg:vN (bs C.a8 s.aD) o->cP.cG
theorem c7.OP{C:cB}{s:aE}{d:Option Nat}{av zn:aO}{a:Act}{w:World}(h:c7 C (s.set d av) a w)
  (an:∀ i,d=some i->i<C.b5) (ab:∀ kap F v,bQ C.P s.W kap F w av v->bQ C.P s.W kap F w zn v):c7 C (s.set d zn) a w:=by
 cases d with
 | none=>exact h
 | some d=>
  obtain⟨kap,F,h⟩:=h;have aC:=h.hq;have yS:=an d rfl;have aT:cw≠d:=by unfold cw fF at *;omega
  refine⟨kap,F,{ h with cc:=λi=>?_,ek:=h.ek,dq:=h.dq,bR:=h.bR,fo:=λl aN L n ae e=>h.fo l aN L n ae ?_ }⟩
  ·have D:=h.cc i;simp  [aE.set]at D ⊢;grind
  ·simp  [aE.set,if_neg aT]at e ⊢;omega
section
variable {C:cB} {T:Nat->aa} {bK:Nat->Option aF} {o:Oper} {s:aE}
theorem E'{args:List Operand}(V:vN (bs C.a8 s.aD) o)(br:∀ x∈args,x∈o.op.operands.toList):ld (args.map (bs C.a8 s.aD)):=
 IB λv ab=>by
  simp  at ab;obtain⟨p,aq,rfl⟩:=ab;exact V p (br p aq)
theorem Xc(bB:∀ i,o.dst=some i->i<C.b5){tr:aa}{ck:List Nat}(om:h4 s.W ck){d:tr.ak} :
  (∀ (y:tr.ak) a w,c7 C (s6 s o tr ck (sP tr y)) a w->c7 C (s6 s o tr ck (.jU true (sP tr y))) a w)/\∀ a w,c7 C s a w->c7 C (s6 s o tr ck (.jU false (sP tr d))) (a.put o.dst Go.undef) w:=by
 refine⟨λy a w h=>c7.OP h bB λkap F v ab=>⟨λ_=>ab,λh=>(by grind)⟩,λa w h=>?_⟩;obtain⟨kap,F,U⟩:=h;obtain⟨F',_,bE,_⟩:=bH.mJ om U;unfold s6;split
 ·exact⟨kap,F,U.set bB ⟨λh=>(by grind),λ_=>rfl⟩⟩
 ·exact⟨kap,F',bE.set bB ⟨λh=>(by grind),λ_=>rfl⟩⟩
theorem amC(bB:∀ i,o.dst=some i->i<C.b5){k:Nat}{args:Array Operand}{dS:Array TypeId}(au:o.op=.call { callee:=.value (.func k),args:=args,argTypes:=dS }){dU:iU}(aw:je C.P k dU.ts dU.tr dU.sh){cP:jk}
  (h:E3 C.a8 s o args.toList dU=some cP):rW C o s cP:=by
 unfold E3 at h;split at h
 ·rename_i x ck al;cases h;refine⟨λa w Q K U bz hm=>?_,λgs qc=>?_,λV=>E' V λx al=>by simp[Op.operands,Call.operands];grind⟩
  ·obtain⟨kap,F,U⟩:=U;exact Wb U aw bB au bz al hm.1 λy w' bh v ot=>hm.2 y bh _ _ ot
  ·cases qc;exact Xc bB (rP _ al)
 grind
theorem amD(bB:∀ i,o.dst=some i->i<C.b5){k:Nat}{args:Array Operand}{dS:Array TypeId}(au:o.op=.call { callee:=.value (.func k),args:=args,argTypes:=dS }){dU:iU}(aw:je C.P k dU.ts dU.tr dU.sh)(Fa:Vm C.P k dU.ts dU.tr dU.sh){cP:jk}
  (h:IV C.a8 s o args.toList dU=some cP):rW C o s cP:=by
 unfold IV at h;split at h
 ·rename_i x ck al;cases h;refine⟨λa w Q K U bz hm=>?_,λgs qc=>(by grind),λV=>E' V λx al=>by simp[Op.operands,Call.operands];grind⟩;obtain⟨kap,F,U⟩:=U;obtain⟨args⟩:=args;have dD:(execOp a.eval o).run C.P w=.ok (.enter k (args.map a.eval).toArray) w:=by
   simp  [execOp,au,resolve,Act.eval,Deferred.ofValue,invoke];have:=aw.enter (args.map a.eval).toArray w;grind
  obtain⟨F',f1,bE,f2⟩:=bH.mJ (rP _ al) U;have fV:gn C.P dU.ts F' w (args.map a.eval) x:=by
   refine xg U.bR f1 dU.ts al f2 (by simp) λi D eE=>?_;simp;have ea:i<args.length:=by grind
   have E:=t_ bz i (by grind);have ax:(args.map (bs C.a8 s.aD)).getD i .undef=bs C.a8 s.aD args[i]:=by grind
   rw[ax]at E;exact qQ (lf U args[i]) E
  refine EH (by grind) dD (Fa.ki F' w _ x bE.dH bE.jW fV hm.1) λe w' ⟨v,y,he,bh,ih,V⟩=>⟨v,he,hm.2 y bh _ _ ⟨kap,_,(U.grow V).set bB (EG ?_)⟩⟩
  obtain⟨aJ,dh,ee,rN⟩:=ih;exact⟨aJ,dh,ee,fQ _ (λr U=>.inr U) (dy.refl _ _) rN⟩
 grind
theorem amE(bB:∀ i,o.dst=some i->i<C.b5){t:Nat}{args:Array Operand}{dS:Array TypeId}(au:o.op=.call { callee:=.value (.tmp t),args:=args,argTypes:=dS }){cP:jk}
  (h:E4 C.a8 s o t args.toList=some cP):rW C o s cP:=by
 unfold E4 at h;split at h
 ·rename_i cG aN b f hu;split at h
  ·rename_i x ck al;cases h;obtain⟨args⟩:=args;refine⟨λa w Q K U bz hm=>?_,λgs qc=>?_,λV=>⟨?_,E' V λx al=>by simp[Op.operands,Call.operands];grind⟩⟩
   ·obtain⟨kap,F,U⟩:=U;obtain⟨F',f1,bE,f2⟩:=bH.mJ (rP _ al) U;have fV:gn C.P aN F' w (args.map a.eval) x:=by
     refine xg U.bR f1 aN al f2 (by simp) λi D eE=>?_;simp;have ea:i<args.length:=by grind
     have E:=t_ bz.2 i (by grind);have ax:(args.map (bs C.a8 s.aD)).getD i .undef=bs C.a8 s.aD args[i]:=by grind
     rw[ax]at E;exact qQ (lf U args[i]) E
    have Jc:bQ C.P s.W kap F w (use (bs C.a8 s.aD (.tmp t))).2 (a.eval (.tmp t)):=df U (.tmp t) hu bz.1 |> λh=>by
     have e:use (bs C.a8 s.aD (.tmp t))=(cG,.val (.fn aN b) f):=hu;grind
    have e:use (bs C.a8 s.aD (.tmp t))=(cG,.val (.fn aN b) f):=hu;rw[e]at Jc;obtain⟨_,u,vU,_,gC⟩:=(eH rfl).1 Jc;have vU:=(aKh vU).1;obtain⟨g,du,aA,tb,OQ⟩:=gC F' w f1 (dy.refl _ _) bE.dH bE.jW (args.map a.eval) x fV.1 fV.2 hm.1;have dD:(execOp a.eval o).run C.P w=.ok (.enter g ((args.map a.eval).toArray++du)) w:=by
     have ab:=vU.trans aA;simp  [execOp,au,resolve,ab,Deferred.ofValue,invoke];grind
    refine EH (by grind) dD OQ λe w' ⟨v,y,aJ,he,bh,E,M,ai,V⟩=>⟨v,he,hm.2 y bh _ _ ?_⟩
    have ih:vm C.P b (w0 F' w w') w' v y:=⟨aJ,E,M,ai⟩
    unfold s6;by_cases aq:b.pure=true
    ·rw[if_pos aq];have aA:=U.grow V;refine⟨kap,_,aA.set bB (EG ?_)⟩;exact⟨aJ,E,V' aq ⟨M,ai⟩⟩
    ·rw[if_neg aq];have aA:=bE.grow V;exact⟨kap,_,aA.set bB (EG ih)⟩
   ·cases qc;exact Xc bB (rP _ al)
   ·have:=V (.tmp t) (by rw[au];simp[Op.operands,Call.operands]);have e:use (bs C.a8 s.aD (.tmp t))=(cG,.val (.fn aN b) f):=hu;grind
  grind
 grind
theorem amF(be:eO C.P T)(bB:∀ i,o.dst=some i->i<C.b5){ty:TypeId}{x:Operand}(au:o.op=.range ty x){cP:jk}(h:IZ C.a8 T s o ty x=some cP):rW C o s cP:=by
 unfold IZ at h;split at h
 ·rename_i k v d aT an;split at h;rename_i cG av hu;split at h
  ·rename_i es ck qS;split at h
   ·grind
   ·cases h;obtain⟨i,j,D,_,_⟩:=(be.cv aT (by simp)).mp;refine⟨λa w Q K U bz hm=>?_,λgs qc=>(by grind),λV=>vN.use V (by rw[au];simp[Op.operands]) hu⟩;obtain⟨kap,F,U⟩:=U;obtain⟨F',f1,bE,f2⟩:=bH.mJ (oj qS) U;have ab:=df U x hu bz;have p3:=((eH rfl).1 (nQ U.bR f1 qS f2 ab)).2;have lp:=hm.2 () rfl;have rQ:(s.cV ck).W d=s.W d:=by simp  [aE.cV];grind
    have fin:∀ (cO:Obj),(∀ w',w'=w.alloc cO->yQ C.P k v F' w' w.heap.size none es)->(execOp a.eval o).run C.P w=.ok (.value (.pointer (some ⟨w.heap.size,0,none⟩))) (w.alloc cO)->o.wpIn (e0 C.r) 0 C.P a w K Q:=by
     intro cO hit dD;have E:=bE.alloc   (x:=⟨(s.W d).gen+1,.cO k v none es⟩) (U.fB (bB d an)) (by grind)   (k:=⟨w.heap.size,0,0,false⟩) rfl λH bX _ _ _=>hit _ rfl;refine iw (by grind) dD (lp _ _ ⟨_,F',bH.set   E bB ⟨⟨by simp[aE.c'],rfl⟩,λ_ _=>by simp⟩⟩)
    rcases p3 with⟨ax,rfl⟩ | ⟨r,ms,clk,ax,m1,m2,m3,m4,m5,m6⟩
    ·have al:=(aKh ax).1;refine fin (.mapIter none 0 #[] 0) (λw' hw=>.inl ⟨by rw[hw];exact sM _ _,rfl,rfl⟩) ?_;simp[execOp,au,Instr.range,ej D,al]
    ·have al:=(aKh ax).1;refine fin (.mapIter (some r) clk #[] clk) (λw' hw=>.inr ⟨r,ms,clk,#[],m1,?_,by rw[hw];exact sM _ _,λi D=>(m5 i (by omega) D).2.2.2.2,m6,?_,λc hc=>by grind⟩) ?_
     ·rw[hw,qO _ _ (bE.dH r m1)];omega
     ·refine⟨List.range ms.size,by grind,List.nodup_range,λi=>by simp,λj aI h2=>?_⟩;have OR:j<ms.size:=by omega
      obtain⟨aY,a_,b7,hg,_⟩:=m5 j h2 OR;refine⟨by grind,?_⟩;simp;have he:dy F' w w':=by rw[hw];exact dy.alloc bE.dH _
      exact Bh.mono ⟨aY,a_,b7,hg⟩ (λ_ h=>h) he
     ·have fT:(getObj r).run C.P w=.ok (.map ms clk) w:=by simp[getObj,Sem.run,m2]
      simp[execOp,au,Instr.range,ej D,al,fT]
  grind
 grind
theorem amG(bB:∀ i,o.dst=some i->i<C.b5){x:Operand}(au:o.op=.entry x){cP:jk}(h:I2 C.a8 s o x=some cP):rW C o s cP:=by
 unfold I2 at h;split at h
 ·rename_i b g al;split at h
  ·rename_i aA;split at h
   ·rename_i k v c cK V;cases h;refine⟨λa w Q K U _ hm=>?_,λgs qc=>(by grind),λ_=>trivial⟩;obtain⟨kap,F,U⟩:=U;have ab:=lf U x;rw[al]at ab;have ab:=ab.2 aA.symm (by rw[V];rfl);have bd:=U.bR b;unfold cX at bd;rw[V]at bd;have fC:=l_.1 hm;have lp:=eY.1 fC.2;obtain⟨me,lK⟩:=Option.isSome_iff_exists.1 fC.1;subst lK;rcases bd with⟨_,_,e⟩ | ⟨nN,es,clk,gF,E,M,ai,bf,b2,_,hn⟩
    ·grind
    ·obtain⟨i,D,az,he⟩:=hn me rfl;have EO:es.find? (λe=>e.born == es[i].born)=some es[i]:=by
      cases aw:es.toList.find? (λe=>e.born == es[i].born) with
      | none=>grind
      | some e=>
       have tP:=aKn aw;obtain⟨j,aI,rfl⟩:=List.mem_iff_getElem.1 tP;grind
     have Fb:(getObj (kap b).W).run C.P w=.ok (.mapIter (some nN) clk gF clk) w:=by simp[getObj,Sem.run,ai]
     have y8:(getObj nN).run C.P w=.ok (.map es clk) w:=by simp[getObj,Sem.run,M]
     have dD:(execOp a.eval o).run C.P w=.ok (.value (.tuple #[es[i].key,es[i].val])) w:=by
      simp[execOp,au,Instr.entry,ab,Fb,y8,az,EO]
     refine iw (by grind) dD (lp _ _ ⟨kap,F,U.set bB ⟨[es[i].key,es[i].val],rfl,rfl,λn aC=>?_⟩⟩);match n,aC with
     | 0,_=>exact⟨he.1,he.2.1⟩
     | 1,_=>exact⟨he.2.2.1,he.2.2.2⟩
   grind
  grind
 grind
theorem amH{es:Array MapEntry}{gF:Array Nat}{clk:Nat}(bf:∀ i (h:i<es.size),es[i].born<clk) :
  (es.filter λe=>!gF.contains e.born).filter (λe=>decide (e.born<clk))=(es.filter λe=>!gF.contains e.born)/\(es.filter λe=>!gF.contains e.born).filter (λe=>decide (e.born>=clk))=#[]:=by
 have gl:∀ e∈es.filter λe=>!gF.contains e.born,e.born<clk:=by
  intro e he;have:=(Array.mem_filter.1 he).1;obtain⟨i,D,rfl⟩:=Array.mem_iff_getElem.1 this;grind
 constructor
 ·exact Array.filter_eq_self.2 λe he=>by grind
 ·exact Array.filter_eq_empty_iff.2 λe he=>by grind
theorem amI(P:Program)(w:World)(n:Nat):∃ j w',(choose (.mapNext n)).run P w=.ok j w'/\(0<n->j<n)/\(w'=w\/w'=w.drew):=by
 rw[run_choose];by_cases h:n<=1
 ·have:(Question.mapNext n).forced=true:=by simp[Question.forced,h]
  rw[this];grind
 ·have:(Question.mapNext n).forced=false:=by simp[Question.forced];omega
  rw[this];exact⟨_,_,rfl,λaC=>Nat.mod_lt _ aC,.inr rfl⟩
theorem amJ(bB:∀ i,o.dst=some i->i<C.b5){x:Operand}{str:Bool}(au:o.op=.next x str){cP:jk}(h:I1 C.a8 s o x str=some cP):rW C o s cP:=by
  unfold I1 at h;split at h
  · rename_i b g al
    split at h
    · rename_i aA
      split at h
      · rename_i k v c cK V
        cases h
        refine⟨λa w Q K U _ hm=>?_,λgs qc=>(by grind),λ_=>trivial⟩
        obtain⟨kap,F,U⟩:=U
        have ab:=lf U x
        rw[al]at ab
        have ab:=ab.2 aA.symm (by rw[V];rfl)
        have bd:=U.bR b
        unfold cX at bd
        rw[V]at bd
        have an:∀ c,o.op≠.defer c:=by grind
        have ho:∀ w',(w'=w\/w'=w.drew)->cK=[]->(execOp a.eval o).run C.P w=.ok (.value (.tuple #[.bool false])) w'->o.wpIn (e0 C.r) 0 C.P a w K Q:=by
          intro w' Fc uo dD;have dd:bH C s a w' kap F:=by
            rcases Fc with rfl | rfl
            · omega
            · exact U.drew
          have V8:s.c' b ⟨g,.cO k v c cK⟩=s:=by
            unfold aE.c';congr 1;funext i;by_cases D:i=b
            · rw[if_pos D,D,<-V,<-aA]
            grind
          refine iw an dD (hm.2 none uo _ _ ⟨kap,F,bH.set (s:=s.c' b ⟨g,.cO k v c cK⟩) (by grind) bB ⟨[.bool false],rfl,rfl,λn aC=>?_⟩⟩);have:=by simp  [WX]at aC;omega
          subst this;exact f'.2 rfl
        rcases bd with⟨E,M,_⟩ | ⟨nN,es,clk,gF,E,M,ai,bf,b2,⟨ids,i1,i2,i3,i4⟩,hn⟩
        · refine ho w (.inl rfl) M ?_
          have Fb:(getObj (kap b).W).run C.P w=.ok (.mapIter none 0 #[] 0) w:=by simp[getObj,Sem.run,E]
          simp[execOp,au,Instr.next,ab,Fb]
        · have Fb:(getObj (kap b).W).run C.P w=.ok (.mapIter (some nN) clk gF clk) w:=by simp[getObj,Sem.run,ai]
          have y8:(getObj nN).run C.P w=.ok (.map es clk) w:=by simp[getObj,Sem.run,M]
          obtain⟨f1,f2⟩:=amH   bf
          have gl:(!gF.isEmpty&&!es.isEmpty&&es.all (λe=>decide (e.born>=clk)))=false:=by
            by_cases he:es.size=0
            · grind
            · have:es.all (λe=>decide (e.born>=clk))=false:=by
                rw[Array.all_eq_false];exact⟨0,by omega,by grind⟩
              grind
          generalize amK:(es.filter λe=>!gF.contains e.born)=left at f1 f2
          have amL:((if left.isEmpty=true then #[none] else #[])++Array.map some (left++(#[])))=(if left.isEmpty=true then #[none] else Array.map some left):=by
            grind
          obtain⟨j,w',bx,c2,c3⟩:=amI C.P w (if left.isEmpty=true then #[none] else Array.map some left).size
          have dt:w'.heap=w.heap:=by rcases c3 with rfl | rfl<;>rfl
          have OS : ∀ r dM, (match (if left.isEmpty = true then #[none] else Array.map some left)[j]? with
                | some (some e)=>(do setObj (kap b).W (.mapIter (some nN) clk (gF.push e.born) clk);pure (.tuple #[.bool true,e.key,e.val]):Sem Value)
                | some none=>pure (.tuple #[.bool false])
                | none => stuck "Next: no such candidate").run C.P w' = .ok r dM -> (execOp a.eval o).run C.P w = .ok (.value r) dM := by
            intro r dM dd;simp only[execOp,au,Instr.next,ab,Sem.run_bind,Fb,Result.andThen_ok,y8,gl,ajh,ajq,amK,f1,f2,amL,bx];exact (congrArg (λz=>z.andThen λv w'=>Sem.run C.P (Pure.pure (Next.value v)) w') dd).trans rfl
          by_cases hle:left.isEmpty=true
          · have uo:cK=[]:=by
              have:ids=[]:=List.eq_nil_iff_forall_not_mem.2 λi D=>by
                simp_all
              grind
            rw[hle]at OS c2
            have aI:j=0:=by grind
            subst aI
            exact ho w' c3 uo (OS _ _ rfl)
          · have aI:j<left.size:=by grind
            have lq:left[j]∈(es.filter λe=>!gF.contains e.born):=by grind
            obtain⟨sZ,aHh⟩:=Array.mem_filter.1 lq
            obtain⟨i0,rS,aHi⟩:=Array.mem_iff_getElem.1 sZ
            have amM:=(i3 i0).2 ⟨rS,by grind⟩
            obtain⟨q,bM,OT⟩:=List.mem_iff_getElem.1 amM
            have OU:q<cK.length:=by omega
            have p5:(setObj (kap b).W (.mapIter (some nN) clk (gF.push left[j].born) clk)).run C.P w'=.ok () { w' with heap:=w'.heap.setIfInBounds (kap b).W (.mapIter (some nN) clk (gF.push left[j].born) clk) }:=by
              simp[setObj,Sem.run,dt,ai]
            have dD:=OS (.tuple #[.bool true,left[j].key,left[j].val]) { w' with heap:=w'.heap.setIfInBounds (kap b).W (.mapIter (some nN) clk (gF.push left[j].born) clk) } (by
              simp_all)
            have ko:dP w w':=by rcases c3 with rfl | rfl<;>exact⟨rfl,rfl,rfl⟩
            have gW:gb s.W kap (λi=>if i=b then (⟨g,.cO k v cK[q]? (cK.eraseIdx q)⟩) else s.W i) kap:=
              sN aA.symm (λh=>by cases h) (λh=>by cases h) (λh=>by cases h) (λ_=>by rw[V];rfl)
            have ft:=U.qP     (w':={ w' with heap:=w'.heap.setIfInBounds (kap b).W (.mapIter (some nN) clk (gF.push left[j].born) clk) }) (by rw[V];rfl) rfl gW (λh=>by cases h) (λh=>by cases h)
              (λr NR=>by grind) (by grind) ⟨ko.os,ko.tape,ko.output⟩ λH _ _ he=>by
                refine .inr ⟨nN,es,clk,gF.push left[j].born,E,?_,by grind,bf,b2,⟨ids.eraseIdx q,?_,?_,λi=>?_,λn aC EN=>?_⟩,λme lK=>?_⟩
                · grind
                · grind
                · grind
                · rw[List.mem_eraseIdx_iff_getElem]
                  constructor
                  · rintro⟨n,aC,Jd,rfl⟩
                    obtain⟨ff,mj⟩:=(i3 ids[n]).1 (by simp)
                    refine⟨ff,?_⟩
                    simp only[Array.contains_push,aKS]
                    refine⟨mj,?_⟩
                    simp
                    intro e
                    exact Jd ((List.getElem?_inj aC i2).1 (by grind))
                  · rintro⟨ff,mj⟩
                    simp only[Array.contains_push,aKS]at mj
                    obtain⟨n,aC,rfl⟩:=List.mem_iff_getElem.1 ((i3 i).2 ⟨ff,mj.1⟩)
                    grind
                · have tc:(ids.eraseIdx q)[n]=if h:n<q then ids[n]'(by omega) else ids[n+1]'(by grind):=by
                    grind
                  have Xd:(cK.eraseIdx q)[n]=if h:n<q then cK[n]'(by omega) else cK[n+1]'(by grind):=by
                    grind
                  have hlen:n+1<ids.length:=by grind
                  by_cases Jd:n<q
                  · obtain⟨ff,mj⟩:=i4 n (by omega) (by omega)
                    simp  [tc,Xd,Jd]
                    exact⟨ff,mj.mono (λ_ h=>h) he⟩
                  · obtain⟨ff,mj⟩:=i4 (n+1) hlen (by omega)
                    simp  [tc,Xd,Jd,not_false_eq_true]
                    exact⟨ff,mj.mono (λ_ h=>h) he⟩
                · rw[aKp OU]at lK
                  cases lK
                  obtain⟨ff,mj⟩:=i4 q bM OU
                  refine⟨i0,rS,by grind,?_⟩
                  have ax:es[ids[q]]=es[i0]:=by grind
                  rw[ax]at mj
                  exact mj.mono (λ_ h=>h) he
            refine iw an dD (hm.2 (some q) OU _ _ ⟨kap,F,bH.set   ft bB ⟨[.bool true,left[j].key,left[j].val],rfl,rfl,λn aC=>?_⟩⟩)
            match n,aC with
            | 0,_=>exact f'.2 rfl
            | 1,_=>trivial
            | 2,_=>trivial
      grind
    grind
  grind
end
end Go.Fer
namespace Go.Fer
open Go.RowKit
def Fe:z9'->List Value->List Value->Prop
 | [],[],aJ=>aJ=[]
 | none::g,u::us,aJ=>∃ tT,aJ=u::tT/\Fe g us tT
 | some n::g,u::us,aJ=>∃ cs tT,u=.agg cs/\cs.size=n/\(∀ c∈cs.toList,c.oneCell'=true)/\aJ=cs.toList++tT/\Fe g us tT
 | _,_,_=>False
def Je(g:z9')(v:Value)(aJ:List Value):Prop:=∃ us:List Value,us.length=g.length/\v=(if us.length=1 then us.getD 0 undef else .tuple us.toArray)/\Fe g us aJ
structure di(P:Program)(ba:ew)(k:FuncId)(c:cW):Prop where
 enter:∀ args w,(callFunc k args).run P w=.ok (.enter k args) w
 ki:∀ (C:cB) (a:Act) (w:World) (kap:Nat->bP) (F:Nat->Prop) (A:c.cH.ak),C.P=P->C.ei=w->C.r=none->C.dq=[]->C.b5=c.lT->C.a8=ba->bH C (c.cH.ae A) a w kap F->(c.sh A).et->
  Calls P k a.tmps w λe w'=>∃ v bG aJ bX F',e=.returned v/\(c.sh A).bo bG/\Je c.lS v aJ/\bH { C with b5:=aJ.length } (c.bo.ae bG) { tmps:=aJ.toArray,defers:=[] } w' bX F'
section
variable {P:Program} {H H':Nat->b'} {kap bX:Nat->bP} {F:Nat->Prop} {w:World} {g:Nat->Nat×Nat}
def q0(H H':Nat->b')(kap bX:Nat->bP)(g:Nat->Nat×Nat):Prop:=∀ b,(H b).gen=0/\rG ⟨(g b).2,(H b).body⟩ (H' (g b).1) (kap b) (bX (g b).1)
theorem q0.aK(h:q0 H H' kap bX g){b off:Nat}{v:Value}(ab:bQ P H kap F w (.aK b 0 off) v):bQ P H' bX F w (.aK (g b).1 (g b).2 off) v:=by
 obtain⟨aZ,aY,a_⟩:=h b;refine⟨⟨aY,ab.1.2⟩,λaA hc=>?_⟩;obtain⟨bx,c2⟩:=(a_ aA).1 hc;rw[c2];exact ab.2 aZ.symm bx
theorem q0.av(h:q0 H H' kap bX g)(t:b6){R:Type}(z:t.cons R){v:Value}(ab:bQ P H kap F w (t.av dz z).1 v):bQ P H' bX F w (t.av g z).1 v:=by
 cases t with
 | undef=>trivial
 | val t=>exact ab
 | eI t=>exact ab
 | aK b off=>exact h.aK ab
 | own b=>
  obtain⟨aZ,aY,a_⟩:=h b;refine⟨⟨aY,ab.1.2⟩,λaA hc=>?_⟩;obtain⟨bx,c2,c3,c4⟩:=(a_ aA).2.1 hc;rw[c2,c3];exact ab.2 aZ.symm bx
 | sub b=>
  obtain⟨aZ,aY,a_⟩:=h b;refine⟨⟨aY,ab.1.2⟩,λaA hc=>?_⟩;obtain⟨bx,c2,c3,c4⟩:=(a_ aA).2.1 hc;rw[c2,c3,c4];exact ab.2 aZ.symm bx
 | gE b=>
  obtain⟨aZ,aY,a_⟩:=h b;refine⟨⟨aY,ab.1.2⟩,λaA hc=>?_⟩;obtain⟨bx,c2⟩:=(a_ aA).2.2.1 hc;rw[c2];exact ab.2 aZ.symm bx
 | la b=>
  obtain⟨aZ,aY,a_⟩:=h b;refine⟨⟨aY,ab.1.2⟩,λaA hc=>?_⟩;obtain⟨bx,c2⟩:=(a_ aA).2.2.2 hc;rw[c2];exact ab.2 aZ.symm bx
 | bZ=>exact ab
 | jV k gX=>
  obtain⟨aJ,E,M,ai⟩:=ab;refine⟨aJ,E,M,λi D=>?_⟩;have:=ai i D;have ax:xn dz gX i=.aK gX[i].1 0 gX[i].2:=by simp[xn,ig,aJ7,D,dz]
  have aU:xn g gX i=.aK (g gX[i].1).1 (g gX[i].1).2 gX[i].2:=by simp[xn,ig,aJ7,D]
  rw[ax]at this;rw[aU];exact h.aK this
 | iS ds=>
  obtain⟨aJ,E,M,ai⟩:=ab;refine⟨aJ,E,M,λi D=>?_⟩;obtain⟨this,lK⟩:=ai i D;refine⟨?_,lK⟩;have ax:xo dz ds i=.own ds[i] 0:=by simp[xo,ig,aJ7,D,dz]
  have aU:xo g ds i=.own (g ds[i]).1 (g ds[i]).2:=by simp[xo,ig,aJ7,D]
  rw[ax]at this;rw[aU];obtain⟨aZ,aY,a_⟩:=h ds[i];refine⟨⟨aY,this.1.2⟩,λaA hc=>?_⟩;obtain⟨bx,c2,c3,c4⟩:=(a_ aA).2.1 hc;rw[c2,c3];exact this.2 aZ.symm bx
 | kj b=>
  obtain⟨aZ,aY,a_⟩:=h b;refine⟨⟨aY,ab.1.2⟩,λaA hc=>?_⟩;obtain⟨bx,c2,c3,c4⟩:=(a_ aA).2.1 hc;rw[c2,c3,c4];exact ab.2 aZ.symm bx
 | tr aN=>trivial
 | ia=>exact ab
theorem B3(t:b6){R:Type}(z:t.cons R):(t.av g z).2=(t.av dz z).2:=by cases t<;>rfl
theorem Xe:∀ (ts:List b6) {R:Type} (z:rT ts R),(qV g ts z).2=(qV dz ts z).2
 | [],_,_=>rfl
 | t::ts,_,z=>by simp only[qV];rw[B3 (g:=g) t z];exact Xe ts _
theorem Xf(t:cb){R:Type}(z:t.cons R):(t.body g z).2=(t.body dz z).2:=by
 cases t with
 | cells t l=>exact Xe l z
 | hJ e t=>exact B3 t z.2
 | _=>rfl
theorem OV:∀ (ts:List (Nat×b6)) {R:Type} (z:p9 ts R),(fe g ts z).2=(fe dz ts z).2
 | [],_,_=>rfl
 | p::ts,_,z=>by simp only[fe];rw[B3 (g:=g) p.2 z];exact OV ts _
theorem q0.avs(h:q0 H H' kap bX g):∀ (ts:List b6) {R:Type} (z:rT ts R) (i:Nat) {v:Value},bQ P H kap F w ((qV dz ts z).1.getD i .undef) v->bQ P H' bX F w ((qV g ts z).1.getD i .undef) v
 | [],_,_,i,v,_=>by simp[qV,bQ]
 | t::ts,_,z,i,v,ab=>by
  simp only[qV]at ab ⊢;cases i with
  | zero=>exact h.av t z ab
  | succ i=>
   simp only[List.getD_cons_succ]at ab ⊢;rw[B3 (g:=g) t z];exact h.avs ts _ i ab
theorem q0.cc(h:q0 H H' kap bX g):∀ (ts:List (Nat×b6)) {R:Type} (z:p9 ts R) (i:Nat) {v:Value},bQ P H kap F w (gh (fe dz ts z).1 i) v->bQ P H' bX F w (gh (fe g ts z).1 i) v
 | [],_,_,i,v,_=>by simp[fe,gh,bQ]
 | p::ts,_,z,i,v,ab=>by
  simp only[fe,gh]at ab ⊢;by_cases e:i=p.1
  ·rw[if_pos e]at ab ⊢;exact h.av p.2 z ab
  ·rw[if_neg e]at ab ⊢;rw[B3 (g:=g) p.2 z];exact h.cc ts _ i ab
theorem Xg:∀ (ts:List (Nat×b6)) {R:Type} (z:p9 ts R) (i:Nat) {l aN L n ae},gh (fe g ts z).1 i=.tr l aN L n ae->gh (fe dz ts z).1 i=.tr l aN L n ae
 | [],_,_,i,_,_,_,_,_,h=>by simp[fe,gh]at h
 | p::ts,_,z,i,l,aN,L,n,ae,h=>by
  simp only[fe,gh]at h ⊢;by_cases e:i=p.1
  ·rw[if_pos e]at h ⊢;obtain⟨fW,t⟩:=p;cases t<;>first | exact h | cases h
  ·rw[if_neg e]at h ⊢;rw[B3 (g:=g) p.2 z]at h;exact Xg ts _ i h
def zr(x y:cf):Prop:=x.gT=y.gT/\x.gU=y.gU/\x.len=y.len/\x.ga=y.ga/\x.ib=y.ib/\x.pW=y.pW/\∀ k,x.cq k=y.cq k
theorem zr.refl(x:cf):zr x x:=⟨rfl,rfl,rfl,rfl,rfl,rfl,λ_=>rfl⟩
theorem amN(t:cb){R:Type}(z:t.cons R):zr (t.body g z).1 (t.body dz z).1:=by
 cases t with
 | cells t l=>exact⟨rfl,rfl,rfl,rfl,rfl,rfl,λ_=>rfl⟩
 | hJ e t=>exact⟨rfl,rfl,rfl,rfl,rfl,rfl,λ_=>rfl⟩
 | _=>exact zr.refl _
theorem amO:∀ (t:aa) (x:t.ak) (av:aO),av∈o8 t x->∀ {v:Value},bQ P H kap F w av v->bQ P H' bX F w av v:=by
  intro t;induction t with
  | dp=>intro x av h;cases h
  | ae t aP=>intro x av h;exact aP x av h
  | ar a b gD fy=>
   intro x av h;rcases List.mem_append.1 h with h | h
   ·exact gD _ av h
   ·exact fy _ av h
  | array n e aP=>
   intro x av h;simp only[o8,aLl]at h;grind
  | _=>
   intro x av h v ab;simp only[o8,List.mem_singleton]at h;subst h;exact ab
theorem q0.body(h:q0 H H' kap bX g)(t:cb){R:Type}(z:t.cons R){k:bP}(V:ma P H kap F w k (t.body dz z).1):ma P H' bX F w k (t.body g z).1:=by
 cases t with
 | cells t l=>
  obtain⟨cs,T,E,M,ai⟩:=V;exact⟨cs,T,E,M,λi D=>⟨h.avs l z i (ai i D).1,(ai i D).2⟩⟩
 | gI t=>
  obtain⟨cs,T,E,M,ai⟩:=V;refine⟨cs,T,E,M,λi D=>⟨?_,(ai i D).2⟩⟩;have:=(ai i D).1;unfold ig at this ⊢;rw[aJ7]at this ⊢;cases af:(o8 t z.1)[i]? with
  | none=>trivial
  | some av=>
   rw[af]at this;simp only[aju]at this ⊢;have lq:=aLb af;exact amO t z.1 av lq this
 | bu e=>exact V
 | iL e=>exact V
 | mp k v=>exact V
 | ky k v=>exact V
 | hR t=>exact V
 | cO k v=>exact V
 | hJ e t=>
  obtain⟨aZ,cs,T,E,M,ai,bf,b2,d_,hn,jL⟩:=V;exact⟨aZ,cs,T,E,M,ai,bf,b2,d_,h.av t z.2 hn,jL⟩
theorem Xh{l:List (Nat×cb)}{x y:qU l}(h:x=y)(g:Nat->Nat×Nat)(b:Nat):fH (ij g l x) b=fH (ij g l y) b:=by rw[h]
theorem Xi:∀ (l:List (Nat×cb)) (x:qU l) (b:Nat),zr (fH (ij g l x) b).body (fH (ij dz l x) b).body
 | [],_,_=>zr.refl _
 | p::l,x,b=>by
  simp only[ij,fH];split
  ·exact amN p.2 x
  ·rw[Xf (g:=g) p.2 x];exact Xi l _ b
theorem q0.bR(h:q0 H H' kap bX g):∀ (l:List (Nat×cb)) (x:qU l) (b:Nat) {k:bP},ma P H kap F w k (fH (ij dz l x) b).body->ma P H' bX F w k (fH (ij g l x) b).body
 | [],_,_,k,_=>trivial
 | p::l,x,b,k,V=>by
  simp only[ij,fH]at V ⊢;split
  ·rename_i e;rw[if_pos e]at V;exact h.body p.2 x V
  ·rename_i e;rw[if_neg e]at V;rw[Xf (g:=g) p.2 x];exact h.bR l _ b V
theorem OW:∀ (l:List (Nat×cf)) (b:Nat),(fH l b).gen=0
 | [],_=>rfl
 | p::l,b=>by
  simp only[fH];split
  ·rfl
  ·exact OW l b
end
end Go.Fer
namespace Go.Fer
open Go.RowKit
theorem Jf{ag:Type}{k:ag->Nat}:∀ {l:List ag},(l.map k).Nodup->∀ {p:ag},p∈l->l.find? (λq=>k q == k p)=some p
 | [],_,_,h=>by cases h
 | a::l,aC,p,h=>by
  simp only[aKq,List.nodup_cons]at aC;by_cases e:k a=k p
  ·grind
  ·rw[List.find?_cons_of_neg (by grind)];rcases List.mem_cons.1 h with rfl | h
   ·omega
   ·exact Jf aC.2 h
theorem Ff{ag:Type}{k:ag->Nat}{l:List ag}(aC:(l.map k).Nodup){p q:ag}(aq:p∈l)(bM:q∈l)(e:k p=k q):p=q:=by
 have E:=Jf aC aq;rw[e,Jf aC bM]at E;grind
theorem Xj:∀ {l:z6'},(l.map (·.1)).Nodup->∀ {p},p∈l->jl l p.1=p.2
 | [],_,_,h=>by cases h
 | a::l,aC,p,h=>by
  simp only[aKq,List.nodup_cons]at aC;simp only[jl];by_cases e:p.1=a.1
  ·grind
  ·rw[if_neg e];rcases List.mem_cons.1 h with rfl | h
   ·omega
   ·exact Xj aC.2 h
theorem Xk:∀ {l:z6'} {b:Nat},b ∉ l.map (·.1)->jl l b=(rU,0)
 | [],_,_=>rfl
 | a::l,b,h=>by
  simp only[aKq,aKU,not_or]at h;simp only[jl];rw[if_neg h.1];exact Xk h.2
theorem Xl(s:aE)(d:Nat)(f:Nat->Nat)(ins:List Nat):∀ (l:List (Nat×cb)) (j:Nat),(ui s d f ins l j).map (·.1)=l.map (·.1)
 | [],_=>rfl
 | p::l,j=>by
  simp only[ui,aKq,Xl s d f ins l (j+1)];grind
theorem Xm(s:aE)(d:Nat)(f:Nat->Nat)(ins:List Nat):∀ (l:List (Nat×cb)) (j:Nat) {p:Nat×(Nat×Nat)},p∈ui s d f ins l j->
  (p.1∈ins/\p.2.1=f p.1/\∃ t,(p.1,t)∈l/\((p.2.2=(s.W (f p.1)).gen/\((∀ (g:Nat->Nat×Nat) (R:Type) (z:t.cons R),(t.body g z).1.gU=false)\/(yR<=p.1/\∃ e,t=.bu e)))\/p.2.2=(s.W (f p.1)).gen+1))\/
  (p.1 ∉ ins/\p.2.2=(s.W p.2.1).gen+1/\50000+10*d+j<=p.2.1/\p.2.1<50000+10*d+j+l.length)
 | [],_,p,h=>by cases h
 | q::l,j,p,h=>by
  simp only[ui,aKU]at h;rcases h with h | h
  ·by_cases bM:ins.contains q.1=true
   ·rw[if_pos bM]at h;subst h;refine .inl ⟨by grind,rfl,q.2,by simp,?_⟩;obtain⟨dh,t⟩:=q;cases t with
    | bu e=>
     grind
    | _=>first | exact .inr rfl | exact .inl ⟨rfl,.inl λ_ _ _=>rfl⟩
   grind
  ·rcases Xm s d f ins l (j+1) h with⟨E,M,t,ai,bf⟩ | ⟨E,M,ai,bf⟩
   ·exact .inl ⟨E,M,t,ajp _ ai,bf⟩
   ·exact .inr ⟨E,M,by omega,by simp only[aKN];omega⟩
theorem Jg(g:Nat->Nat×Nat):∀ (l:List (Nat×cb)) (x:qU l) (b:Nat),(fH (ij g l x) b=⟨0,.gp⟩/\b ∉ l.map (·.1))\/∃ q∈l,q.1=b/\∃ (R:Type) (z:q.2.cons R),fH (ij g l x) b=⟨0,(q.2.body g z).1⟩
 | [],_,_=>.inl ⟨rfl,by simp⟩
 | p::l,x,b=>by
  simp only[ij,fH];by_cases e:b=p.1
  ·grind
  ·rw[if_neg e];rcases Jg g l (p.2.body g x).2 b with⟨E,M⟩ | ⟨q,E,M⟩
   ·exact .inl ⟨E,by rw[aKq,aKU,not_or];exact⟨e,M⟩⟩
   ·exact .inr ⟨q,ajp _ E,M⟩
theorem amP{t u:cb}(h:t.IH u=true){g g':Nat->Nat×Nat}{R OX:Type}(z:t.cons R)(nU:u.cons OX) :
  ((t.body g z).1.gT=true->(u.body g' nU).1.gT=true/\∀ k,(u.body g' nU).1.cq k=true)/\((t.body g z).1.ib=true->(u.body g' nU).1.ib=true/\∀ k,(u.body g' nU).1.cq k=true)/\(t.body g z).1.pW=false:=by
 cases t<;>cases u<;>first
  | exact Bool.noConfusion h
  | exact⟨λ_=>⟨rfl,λ_=>rfl⟩,λh=>Bool.noConfusion h,rfl⟩
  | exact⟨λh=>Bool.noConfusion h,λ_=>⟨rfl,λ_=>rfl⟩,rfl⟩
  | exact⟨λh=>Bool.noConfusion h,λh=>Bool.noConfusion h,rfl⟩
theorem zt:∀ (ts:List (Nat×b6)) {R:Type} (g:Nat->Nat×Nat) (z:p9 ts R) (i:Nat),ts.any (λp=>p.1 == i)=false->gh (fe g ts z).1 i=.undef
 | [],_,_,_,_,_=>rfl
 | p::ts,_,g,z,i,h=>by
  simp only[aK6,aKS,beq_eq_false_iff_ne]at h;simp only[fe,gh];rw[if_neg (Ne.symm h.1)];exact zt ts g _ i h.2
theorem OY{P:Program}{H:Nat->b'}{kap:Nat->bP}{F:Nat->Prop}{w:World}:∀ (g:z9') {us aJ:List Value},Fe g us aJ->∀ (c:Nat->aO) (i:Nat),(∀ j,j<aJ.length->bQ P H kap F w (c (i+j)) (aJ.getD j undef))->
  (qW g c i).length=g.length/\us.length=g.length/\∀ j,j<g.length->bQ P H kap F w ((qW g c i).getD j .undef) (us.getD j undef)
 | [],[],aJ,_,_,_,_=>⟨rfl,rfl,λj aI=>by cases aI⟩
 | [],_::_,_,h,_,_,_=>h.elim
 | none::g,[],_,h,_,_,_=>h.elim
 | some n::g,[],_,h,_,_,_=>h.elim
 | none::g,u::us,aJ,h,c,i,ab=>by
  obtain⟨tT,rfl,h⟩:=h;obtain⟨E,M,ai⟩:=OY g h c (i+1) λj aI=>by
   have:=ab (j+1) (by grind);rw[show i+(j+1)=i+1+j by omega]at this;simpa using this
  refine⟨by simp[qW,E],by grind,λj aI=>?_⟩;cases j with
  | zero=>simpa [qW]using ab 0 (by simp)
  | succ j=>simpa [qW]using ai j (by grind)
 | some n::g,u::us,aJ,h,c,i,ab=>by
  obtain⟨cs,tT,rfl,aC,pd,rfl,h⟩:=h;obtain⟨E,M,ai⟩:=OY g h c (i+n) λj aI=>by
   have:=ab (n+j) (by grind);rw[show i+(n+j)=i+n+j by omega]at this;have e:(cs.toList++tT).getD (n+j) undef=tT.getD j undef:=by
    grind
   rw[e]at this;omega
  refine⟨by simp[qW,E],by grind,λj aI=>?_⟩;cases j with
  | zero=>
   simp only[qW,List.getD_cons_zero];refine⟨cs.toList,by simp,by omega,λj aI=>?_⟩;grind
  | succ j=>simpa [qW]using ai j (by grind)
theorem amQ{P:Program}{H:Nat->b'}{kap:Nat->bP}{F:Nat->Prop}{w:World}{g:z9'}{v:Value}{aJ:List Value}(h:Je g v aJ){c:Nat->aO}(ab:∀ j,bQ P H kap F w (c j) (aJ.getD j undef)) :
  bQ P H kap F w (Ou (qW g c 0)) v:=by
 obtain⟨us,E,M,ai⟩:=h;obtain⟨aY,_,b7⟩:=OY g ai c 0 (λj _=>by simpa using ab j);subst M;generalize qW g c 0=l at aY b7;unfold Ou;split
 ·grind
 ·rename_i af;have fc:us.length≠1:=λe=>by
   have:l.length=1:=by omega
   match l,this with
   | [x],_=>grind
  rw[if_neg fc];refine⟨us,rfl,by omega,λi D=>?_⟩;unfold ig;grind
section
variable {C:cB} {s:aE} {a:Act} {w:World} {kap:Nat->bP} {F:Nat->Prop}
theorem bH.args(U:bH C s a w kap F){avs:List aO}{us:List Value}(aC:us.length<=fF)(af:avs.length=us.length)(ab:∀ i,i<us.length->bQ C.P s.W kap F w (avs.getD i .undef) (us.getD i undef)) :
    bH { C with b5:=us.length,dq:=[],r:=none } (uh s avs) { tmps:=us.toArray,defers:=[] } w kap F:=
  { U with
    ek:=by simp,dq:=rfl,hq:=aC
    cc:=λi=>by
      show bQ C.P s.W kap F w (if i=cw then s.aD cw else if i<avs.length then avs.getD i .undef else .undef) (us.toArray.getD i undef);split
      · have E:=U.cc cw
        have M:a.tmps.getD cw undef=undef:=by
          have:=U.ek;have:=U.hq;rw[aKb,aK2 (by unfold cw fF at *;omega)];rfl
        have ai:us.toArray.getD cw undef=undef:=by
          rw[aKb,aK2 (by simp;unfold cw fF at *;omega)];rfl
        grind
      · split
        · simp_all
        · trivial
    bR:=U.bR
    fo:=λl aN L n ae e=>U.fo l aN L n ae (by simpa [uh]using e) }
def uq(C:cB)(w:World)(F':Nat->Prop)(n:Nat)(own Y:Nat->Prop)(jy:(Nat->Option Nat)×(Nat->Option (bP×Nat))):cB:=
 { C with ei:=w,jf:=F',K0:=λr=>r<w.heap.size/\¬own r/\¬Y r,b5:=n,dq:=[],r:=none,jy:=jy.1,M7:=jy.2 }
structure Fg(C:cB)(s:aE)(w:World)(kap:Nat->bP)(F:Nat->Prop)(sl:aO)(Y:Nat->Prop):Prop where
 fo:∀ l aN L n ae,sl=.tr l aN L n ae->(∃ I,C.cP=⟨l,aN,L,I⟩)/\C.cP.jv C.P/\C.cP.at aN n ae F Y w
 low:∀ r,Y r->r<w.heap.size/\¬F r/\¬C.K0 r
 own:∀ b,(s.W b).body.cq (kap b)=true->¬Y (kap b).W
 Jh:sl=.undef->∀ r,¬Y r
theorem bH.amR(U:bH C s a w kap F){sl:aO}(h:∀ l aN L n ae,sl=.tr l aN L n ae->s.aD cw=.tr l aN L n ae):∃ Y,Fg C s w kap F sl Y:=by
 by_cases az:∃ l aN L n ae,sl=.tr l aN L n ae
 ·obtain⟨l,aN,L,n,ae,e⟩:=az;obtain⟨E,M,Y,ai,bf,b2⟩:=U.fo l aN L n ae (h _ _ _ _ _ e);refine⟨Y,⟨λeo lR fI kn j7 bt=>?_,ai,bf,λbt=>?_⟩⟩<;>grind
 ·exact⟨λ_=>False,⟨λl aN L n ae e=>(az ⟨l,aN,L,n,ae,e⟩).elim,λ_ h=>h.elim,λ_ _ h=>h,λ_ _ h=>h⟩⟩
theorem amS{C1:cB}{s1:aE}{cd:Act}{F':Nat->Prop}{ck:List Nat}{f:Nat->Nat}{sh:ep}{A:sh.ak}{Y:Nat->Prop}{ids:List Nat}(iT:C1.P=C.P)(vy:C1.a8=C.a8)(oy:C1.dq=[])
  (gY:bH C1 (s1.cV ck) cd w kap F') (an:Jb C1 s1 cd w kap f F' sh A ck) (j2:Fg C (s1.cV ck) w kap F' ((sh.ae A).aD cw) Y)
  (aw:∀ b bl,b∈sh.p_->bl∈sh.p_->f b=f bl->b=bl) (hid:∀ b∈ids,fF<=b) :
  bH (uq C w F' C1.b5 (λr=>∃ b,((sh.ae A).W b).body.cq (kap (f b))=true/\(kap (f b)).W=r) Y (λb=>if b∈ids then some (kap (f b)).W else none,λb=>if b∈ids/\yR<=b then some (kap (f b),((sh.ae A).W b).body.len) else none)) (sh.ae A) cd w (λb=>kap (f b)) F' where
 ek:=gY.ek
 dq:=gY.dq.trans oy
 cc:=λi=>by have:=an.cc i;rw[iT]at this;exact this
 bR:=λb=>by have:=an.bR b;rw[iT]at this;exact this
 own:=λb V=>by
  have E:=gY.own (f b) (an.zq V);exact⟨E.1,E.2.1,λh=>h.2.1 ⟨b,V,rfl⟩⟩
 inj:=λb bl V da e=>aw b bl (an.cq b V).2.2 (an.cq bl da).2.2 (gY.inj _ _ (an.zq V) (an.zq da) e)
 dH:=gY.dH
 ie:=λr U=>.inl U
 jg:=λr U=>U
 iM:=λr U=>U.1
 fi:=λ_ _=>rfl
 size:=ajn _
 e5:=dP.refl _
 hq:=gY.hq
 lC:=λb r h=>by
  simp  [uq]at h;grind
 kQ:=λb r h _=>by
  simp  [uq]at h;grind
 lD:=λb k h=>by
  simp  [uq]at h;grind
 lE:=λb k h _ _=>by
  simp  [uq]at h;grind
 fo:=λl aN L n ae e=>by
  obtain⟨E,M,ai⟩:=j2.fo l aN L n ae e;exact⟨E,M,Y,λr U=>⟨(j2.low r U).1,(j2.low r U).2.1,λh=>h.2.2 U⟩,λb V=>j2.own _ (an.zq V),ai⟩
 kR:=by have:=gY.kR;rw[iT,vy]at this;exact this
 jW:=by have:=gY.jW;rw[iT]at this;exact this
structure Xn(s:aE)(kap:Nat->bP)(jy:(Nat->Option Nat)×(Nat->Option (bP×Nat)))(ds:List (Nat×cf))(cC:z6'):Prop where
 dI:(cC.map (·.1)).Nodup
 dW:(cC.map (·.2.1)).Nodup
 gp:rU ∉ cC.map (·.2.1)
 amT:(s.W rU).body=.gp
 Xo:∀ p∈cC,(p.2.1<fF/\(s.W p.2.1).gen<p.2.2)\/
  (((fH ds p.1).body.gT=true->(s.W p.2.1).body.gT=true/\jy.1 p.1=some (kap p.2.1).W)/\((fH ds p.1).body.ib=true->(s.W p.2.1).body.ib=true/\jy.1 p.1=some (kap p.2.1).W)/\(fH ds p.1).body.pW=false/\
   ((p.2.2=(s.W p.2.1).gen/\((fH ds p.1).body.gU=true->(s.W p.2.1).body.gU=true/\(fH ds p.1).body.ga=(s.W p.2.1).body.ga/\jy.2 p.1=some (kap p.2.1,(s.W p.2.1).body.len)))\/p.2.2=(s.W p.2.1).gen+1))
theorem amU{F' own Y:Nat->Prop}{sl:aO}{n:Nat}{jy:(Nat->Option Nat)×(Nat->Option (bP×Nat))}{ins:List Nat}{bo:ep}{bG:bo.ak}{aJ:List Value}{w':World}{oz:Nat->bP}{F2:Nat->Prop}
    (U:bH C s a w kap F') (j2:Fg C s w kap F' sl Y) (hr:∀ r,own r->∃ b,b∈ins/\(s.W b).body.cq (kap b)=true/\(kap b).W=r)
    (iW:bH { uq C w F' n own Y jy with b5:=aJ.length } (bo.ae bG) { tmps:=aJ.toArray,defers:=[] } w' oz F2)
    {cC:z6'} (hs:Xn s kap jy (ij (jl cC) bo.bR (fe (jl cC) bo.cc bG).2) cC)
    {H':Nat->b'} {kapn:Nat->bP} (B4:∀ p∈cC,H' p.2.1=⟨p.2.2,(fH (ij (jl cC) bo.bR (fe (jl cC) bo.cc bG).2) p.1).body⟩/\kapn p.2.1=oz p.1)
    (Fh:∀ b,b ∉ cC.map (·.2.1)->kapn b=kap b/\(b∈ins->H' b=⟨(s.W b).gen+1,.gp⟩)/\(b ∉ ins->H' b=s.W b))
    {X:aO} (B5:X=gh (fe (jl cC) bo.cc bG).1 cw\/X=.undef\/(X=s.aD cw/\sl=.undef)) :
    bH C ⟨λi=>if i=cw then X else s.aD i,H'⟩ a w' kapn F2/\
    ∀ i,bQ C.P H' kapn F2 w' (gh (fe (jl cC) bo.cc bG).1 i) (aJ.toArray.getD i undef):=by
  generalize B6:ij (jl cC) bo.bR (fe (jl cC) bo.cc bG).2=ds at hs B4;have vQ:∀ b,zr (fH ds b).body ((bo.ae bG).W b).body:=λb=>by
    rw[<-B6,Xh (OV bo.cc bG)];exact Xi bo.bR (fe dz bo.cc bG).2 b
  have Fi:q0 (bo.ae bG).W H' oz kapn (jl cC):=by
    intro b;refine⟨OW _ b,?_⟩;by_cases V:b∈cC.map (·.1)
    · obtain⟨p,aq,rfl⟩:=List.mem_map.1 V
      rw[Xj hs.dI aq]
      obtain⟨E,M⟩:=B4 p aq
      rw[E,M]
      obtain⟨aY,a_,b7,hg,p7,zu,_⟩:=vQ p.1
      exact⟨ajn _,λ_=>⟨λh=>⟨aY ▸ h,rfl⟩,λh=>⟨a_ ▸ h,rfl,b7,hg⟩,λh=>⟨p7 ▸ h,rfl⟩,λh=>⟨zu ▸ h,rfl⟩⟩⟩
    · rw[Xk V]
      obtain⟨_,M,ai⟩:=Fh rU hs.gp
      have an:(H' rU).body=.gp:=by
        by_cases D:rU∈ins
        · grind
        · rw[ai D];exact hs.amT
      refine⟨aKr _,λ_=>?_⟩
      rw[an]
      exact⟨λh=>(by cases h),λh=>(by cases h),λh=>(by cases h),λh=>(by cases h)⟩
  have Ji:∀ b,(∃ p∈cC,p.2.1=b)\/b ∉ cC.map (·.2.1):=λb=>by
    grind
  have Jj:∀ p∈cC,∀ r,jy.1 p.1=some r->(fH ds p.1).body.gT=true\/(fH ds p.1).body.ib=true->(oz p.1).W=r:=λp aq r U h=>by
    obtain⟨aY,_,_,_,p7,_⟩:=vQ p.1;exact iW.kQ p.1 r U (h.imp (λh=>aY ▸ h) (λh=>p7 ▸ h))
  have aHj:∀ p∈cC,∀ k,jy.2 p.1=some k->(fH ds p.1).body.gU=true->oz p.1=k.1/\(fH ds p.1).body.len=k.2:=λp aq k ah h=>by
    obtain⟨_,a_,b7,_⟩:=vQ p.1;obtain⟨E,M⟩:=iW.lE p.1 k ah (OW _ _) (a_ ▸ h);grind
  have af:gb s.W kap H' kapn:=by
    intro b;rcases Ji b with⟨p,aq,rfl⟩ | V
    · obtain⟨E,M⟩:=B4 p aq
      rw[E,M]
      rcases hs.Xo p aq with⟨_,h⟩ | ⟨hc,hm,hit,h⟩
      · exact⟨Nat.le_of_lt h,λe=>(by grind)⟩
      · rcases h with⟨h,gg⟩ | h
        · refine⟨aLR h.symm,λ_=>⟨λh=>⟨(hc h).1,Jj p aq _ (hc h).2 (.inl h)⟩,λh=>?_,λh=>⟨(hm h).1,Jj p aq _ (hm h).2 (.inr h)⟩,λh=>?_⟩⟩<;>grind
        · exact⟨by grind,λe=>(by grind)⟩
    · obtain⟨E,M,ai⟩:=Fh b V
      rw[E]
      by_cases D:b∈ins
      · rw[M D]
        exact⟨Nat.le_succ _,λe=>(by grind)⟩
      · rw[ai D];exact rG.refl _ _
  have Fj:=iW.size;have bF:=iW.jg;have lp:∀ r,r<w.heap.size->¬own r->¬Y r->w'.heap[r]?=w.heap[r]?:=λr E M ai=>iW.fi r ⟨E,M,ai⟩;have xq:=λr h=>aJ' (U.iM r h) U.size;have OZ:∀ r,own r->¬C.K0 r/\¬F' r:=λr h=>by
    obtain⟨b,_,E,rfl⟩:=hr r h;exact⟨(U.own b E).2.2,(U.own b E).2.1⟩
  have Xp:∀ r,¬(r<w.heap.size/\¬own r/\¬Y r)->¬C.K0 r:=λr h ah=>h ⟨xq r ah,λau=>(OZ r au).1 ah,λbh=>(j2.low r bh).2.2 ah⟩;have rX:dy F' w w':=⟨Fj,λr h=>lp r (U.dH r h) (λau=>(OZ r au).2 h) λbh=>(j2.low r bh).2.1 h⟩
  have BK:∀ r,F2 r->F' r\/¬(r<w.heap.size/\¬own r/\¬Y r):=iW.ie;have uo:∀ b,b ∉ ins->(s.W b).body.cq (kap b)=true->(kap b).W<w.heap.size/\¬own (kap b).W/\¬Y (kap b).W:=λb V au=>by
    refine⟨(U.own b au).1,λh=>?_,j2.own b au⟩;obtain⟨bl,E,M,ai⟩:=hr _ h;exact V (U.inj bl b M au ai ▸ E)
  have Bm:∀ b,(H' b).body.cq (kapn b)=true->(∃ p∈cC,p.2.1=b/\((bo.ae bG).W p.1).body.cq (oz p.1)=true/\kapn b=oz p.1)\/(b ∉ cC.map (·.2.1)/\b ∉ ins/\kapn b=kap b/\(s.W b).body.cq (kap b)=true):=λb V=>by
    rcases Ji b with⟨p,aq,rfl⟩ | aC
    · obtain⟨E,M⟩:=B4 p aq
      rw[E,M]at V
      exact .inl ⟨p,aq,rfl,by rw[<-(vQ p.1).2.2.2.2.2.2];omega,M⟩
    · obtain⟨E,M,ai⟩:=Fh b aC
      by_cases D:b∈ins
      · rw[M D]at V;cases V
      grind
  have eG:∀ i,bQ C.P H' kapn F2 w' (gh (fe (jl cC) bo.cc bG).1 i) (aJ.toArray.getD i undef):=λi=>Fi.cc bo.cc bG i (iW.cc i);refine⟨{ ek := U.ek, dq := U.dq, cc := λi => ?_, bR := λb => ?_, own := λb V => ?_, inj := λb bl V da e => ?_, dH := iW.dH, ie := λr h => ?_, jg := λr h => bF r (U.jg r h), iM := U.iM, fi := λr h => ?_,size:=aKa U.size Fj,e5:=U.e5.trans iW.e5,hq:=U.hq,lC:=U.lC,kQ:=λb r h hc=>?_,lD:=U.lD,lE:=λb k h aZ br=>?_,fo:=λl aN L m ae e=>?_,kR:=U.kR,jW:=iW.jW },eG⟩
  · show bQ C.P H' kapn F2 w' (if i=cw then X else s.aD i) _
    split
    · rename_i e
      subst e
      have hu:a.tmps.getD cw undef=undef:=by
        have:=U.ek;have:=U.hq;rw[aKb,aK2 (by unfold cw fF at *;omega)];rfl
      rcases B5 with rfl | rfl | ⟨rfl,_⟩
      · have Jk:aJ.toArray.getD cw undef=undef:=by
          have:aJ.length<=fF:=iW.hq;rw[aKb,aK2 (by simp;unfold cw fF at *;omega)];rfl
        grind
      · trivial
      · exact bQ.later af bF rX (U.cc cw)
    · exact bQ.later af bF rX (U.cc i)
  · show ma C.P H' kapn F2 w' (kapn b) (H' b).body
    rcases Ji b with⟨p,aq,rfl⟩ | aC
    · obtain⟨E,M⟩:=B4 p aq
      rw[E,M,<-B6,Xh (OV bo.cc bG)]
      exact Fi.bR bo.bR (fe dz bo.cc bG).2 p.1 (iW.bR p.1)
    · obtain⟨E,M,ai⟩:=Fh b aC
      by_cases D:b∈ins
      · rw[M D];trivial
      · have:=cX.mG     (U.bR b) af bF rX (by grind) E λau=>lp _ (uo b D au).1 (uo b D au).2.1 (uo b D au).2.2
        exact this
  · rcases Bm b V with⟨p,aq,_,E,M⟩ | ⟨_,E,M,ai⟩
    · have:=iW.own p.1 E
      rw[M]
      exact⟨this.1,this.2.1,Xp _ this.2.2⟩
    · have bf:=U.own b ai
      grind
  · rcases Bm b V with⟨p,aq,rfl,E,M⟩ | ⟨_,E,M,ai⟩<;>rcases Bm bl da with⟨p',Ei,rfl,BB,y3⟩ | ⟨_,BB,y3,Xq⟩
    · rw[M,y3]at e
      have:=iW.inj _ _ E BB e
      rw[Ff hs.dI aq Ei this]
    · rw[M,y3]at e
      exact ((iW.own p.1 E).2.2 (e ▸ uo bl BB Xq)).elim
    · rw[M,y3]at e
      exact ((iW.own p'.1 BB).2.2 (e ▸ uo b E ai)).elim
    · rw[M,y3]at e
      exact U.inj b bl ai Xq e
  · rcases BK r h with h | h
    · exact U.ie r h
    grind
  · exact (lp r (xq r h) (λau=>(OZ r au).1 h) λbh=>(j2.low r bh).2.2 h).trans (U.fi r h)
  · have aT:=U.lC b r h
    rcases Ji b with⟨p,aq,rfl⟩ | aC
    · obtain⟨E,M⟩:=B4 p aq
      simp  [E]at hc
      rcases hs.Xo p aq with⟨ai,_⟩ | ⟨aY,a_,_⟩
      · omega
      · rw[M]
        rcases hc with hc | hc
        · rw[Jj p aq _ (aY hc).2 (.inl hc)]
          exact U.kQ _ r h (.inl (aY hc).1)
        · rw[Jj p aq _ (a_ hc).2 (.inr hc)]
          exact U.kQ _ r h (.inr (a_ hc).1)
    · obtain⟨E,M,ai⟩:=Fh b aC
      by_cases D:b∈ins
      · simp  [M D]at hc
        rcases hc with hc | hc<;>cases hc
      · simp  [ai D]at hc
        rw[E]
        exact U.kQ b r h hc
  · have aZ:(H' b).gen=0:=aZ
    obtain⟨g1,eB⟩:=af b
    obtain⟨cd,a2,a3,_⟩:=(eB (by omega)).2.1 br
    obtain⟨aY,a_⟩:=U.lE b k h (by omega) cd
    grind
  · rcases B5 with rfl | rfl | ⟨rfl,amV⟩
    · obtain⟨E,M,iv,ai,bf,b2⟩:=iW.fo l aN L m ae (Xg bo.cc bG cw e)
      refine⟨E,M,iv,λr bE=>⟨(ai r bE).1,(ai r bE).2.1,Xp r (ai r bE).2.2⟩,λb V bh=>?_,b2⟩
      rcases Bm b V with⟨p,aq,rfl,aY,a_⟩ | ⟨_,aY,a_,b7⟩
      · grind
      · rw[a_]at bh;exact (ai _ bh).2.2 (uo b aY b7)
    · grind
    · obtain⟨E,M,iv,ai,bf,b2⟩:=U.fo l aN L m ae e
      have Xr:∀ r,iv r->r<w.heap.size/\¬own r/\¬Y r:=λr bh=>⟨(ai r bh).1,λau=>by
        grind,j2.Jh amV r⟩
      have D4:=λr aw bh=>(BK r aw).elim (ai r bh).2.1 λh=>h (Xr r bh)
      refine⟨E,M,iv,λr bh=>⟨aJ' (ai r bh).1 Fj,λaw=>D4 r aw bh,(ai r bh).2.2⟩,λb V bh=>?_,M.M6 b2 bF (λr aw=>?_) Fj iW.e5 iW.dH D4⟩
      · rcases Bm b V with⟨p,aq,rfl,aY,a_⟩ | ⟨_,aY,a_,b7⟩
        · rw[a_]at bh;exact (iW.own _ aY).2.2 (Xr _ bh)
        grind
      · rcases aw with aw | aw
        · exact rX.2 r aw
        grind
end
end Go.Fer
namespace Go.Fer
open Go.RowKit
section
variable {C:cB} {T:Nat->aa} {o:Oper} {s:aE}
theorem di.hx{P:Program}{ba:ew}{k:FuncId}{c:cW}(aw:di P ba k c){C:cB}{a:Act}{w:World}{kap:Nat->bP}{F:Nat->Prop}{A:c.cH.ak}(h:bH C (c.cH.ae A) a w kap F)(E:C.P=P)(M:C.ei=w)(ai:C.r=none)(bf:C.dq=[])(b2:C.b5=c.lT)(d_:C.a8=ba)(az:(c.sh A).et) :
  Calls P k a.tmps w λe w'=>∃ v bG aJ bX F',e=.returned v/\(c.sh A).bo bG/\Je c.lS v aJ/\bH { C with b5:=aJ.length } (c.bo.ae bG) { tmps:=aJ.toArray,defers:=[] } w' bX F':=
 aw.ki C a w kap F A E M ai bf b2 d_ h az
theorem Xs{C:cB}{s:aE}{O0:Nat->aO}{a cd:Act}{w:World}{kap:Nat->bP}{F:Nat->Prop}{dI:Nat}{c:cW}{f:Nat->Nat}{A:c.cH.ak}{ck:List Nat}{d m:Nat}{cC:z6'}
    (U:bH C s a w kap F) (gY:bH { C with b5:=dI,dq:=[],r:=none } ⟨O0,s.W⟩ cd w kap F) (rY:O0 cw=s.aD cw)
    (ps:c.cH.BR f ⟨O0,s.W⟩=some (A,ck)) (Xt:ui (s.cV ck) d f c.cH.p_ c.bo.bR 0=cC) (eP:E5 c f (s.cV ck) cC d m=true) :
    ∃ (F' own Y:Nat->Prop) (jy:(Nat->Option Nat)×(Nat->Option (bP×Nat))),(∀ r,F r->F' r)/\bH C (s.cV ck) a w kap F'/\(∀ r,own r->∃ b,((s.cV ck).W b).body.cq (kap b)=true/\(kap b).W=r)/\Fg C (s.cV ck) w kap F' ((c.cH.ae A).aD cw) Y/\(∀ l aN L n ae,(c.cH.ae A).aD cw=.tr l aN L n ae->s.aD cw=.tr l aN L n ae)/\
      bH (uq C w F' dI own Y jy) (c.cH.ae A) cd w (λb=>kap (f b)) F'/\
      ∀ O1 iN,bH { C with ei:=O1 } (s.cV ck) a iN kap F'->Fg C (s.cV ck) iN kap F' ((c.cH.ae A).aD cw) Y->∀ (bG:c.bo.ak) (aJ:List Value) (w':World) (oz:Nat->bP) (F2:Nat->Prop),bH { uq C iN F' dI own Y jy with b5:=aJ.length } (c.bo.ae bG) { tmps:=aJ.toArray,defers:=[] } w' oz F2->
        ∃ kapn,bH { C with ei:=O1 } (ze (s.cV ck) c f cC bG) a w' kapn F2/\∀ i,bQ C.P (ze (s.cV ck) c f cC bG).W kapn F2 w' (gh (fe (jl cC) c.bo.cc bG).1 i) (aJ.toArray.getD i undef):=by
  simp only[E5,ajm,ajl,aKj]at eP;obtain⟨⟨⟨⟨⟨⟨⟨⟨⟨⟨bx,c2⟩,c3⟩,c4⟩,c5⟩,oi⟩,qR⟩,y1⟩,c9⟩,Jl⟩,_⟩:=eP;have c3:(c.cH.bR.map (·.1)).Nodup:=aKv c3;have c4:(c.cH.bR.map λp=>f p.1).Nodup:=aKv c4;have c5:(cC.map (·.1)).Nodup:=aKv c5;have oi:(cC.map (·.2.1)).Nodup:=aKv oi;have y1:rU ∉ cC.map (·.2.1):=λh=>by
    grind
  have c9:((s.cV ck).W rU).body=.gp:=by
    grind
  obtain⟨F',f1,gY,an⟩:=ep.W9 ps gY;have bE : bH C (s.cV ck) a w kap F' := { gY with
    ek:=U.ek,dq:=U.dq,hq:=U.hq,cc:=λi=>bQ.later (VW s ck kap) f1 (dy.refl _ _) (U.cc i)
    bR:=gY.bR
    fo:=λl aN L n ae e=>gY.fo l aN L n ae (by simpa [aE.cV,rY]using e) }
  obtain⟨Y,j2⟩:=bE.amR (sl:=(c.cH.ae A).aD cw) λl aN L n ae e=>by simpa [aE.cV,rY]using an.tr l aN L n ae e
  have hid:∀ b∈c.cH.bR.map (·.1),fF<=b:=λb V=>by grind
  have Jm:∀ b,b∈c.cH.p_->∃ q∈c.cH.bR,q.1=b/\q.2.EZ=true:=λb V=>by
    obtain⟨q,bM,e⟩:=List.mem_filterMap.1 V;grind
  have Fk:=amS (C:=C) (C1:={ C with b5:=dI,dq:=[],r:=none }) (ids:=c.cH.bR.map (·.1)) rfl rfl rfl gY an ⟨j2.fo,j2.low,j2.own,j2.Jh⟩ (λb bl V da e=>by
    obtain⟨q,bM,rfl,_⟩:=Jm b V;obtain⟨q',vz,rfl,_⟩:=Jm bl da;rw[Ff (k:=λp=>f p.1) c4 bM vz e]) hid
  refine⟨F',_,Y,_,f1,bE,λr ⟨b,V,e⟩=>⟨f b,an.zq V,e⟩,j2,λl aN L n ae e=>by simpa [aE.cV,rY]using an.tr l aN L n ae e,Fk,λO1 iN NR Jn bG aJ w' oz F2 iW=>?_⟩;have B6:∀ (b:Nat) (q':Nat×cb),q'∈c.bo.bR->q'.1=b->b∈c.cH.p_->∀ (R:Type) (z:q'.2.cons R),((q'.2.body (jl cC) z).1.gT=true->((s.cV ck).W (f b)).body.gT=true)/\((q'.2.body (jl cC) z).1.ib=true->((s.cV ck).W (f b)).body.ib=true)/\(q'.2.body (jl cC) z).1.pW=false:=by
    intro b q' vz e V R z;obtain⟨q,bM,rfl,O2⟩:=Jm b V;have ah:=List.all_eq_true.1 (List.all_eq_true.1 Jl q' vz) q bM;rw[e,O2]at ah;simp only[beq_self_eq_true,Bool.and_self,aKo,aKZ]at ah;rcases Jg dz c.cH.bR (fe dz c.cH.cc A).2 q.1 with⟨_,M⟩ | ⟨ee,M,ai,OX,nU,bf⟩
    · grind
    · obtain rfl:=Ff c3 M bM ai
      have bf:(c.cH.ae A).W ee.1=⟨0,(ee.2.body dz nU).1⟩:=bf
      obtain⟨aY,a_,b7⟩:=amP ah z nU (g:=jl cC) (g':=dz)
      have vT:=an.B1 ee.1
      refine⟨λhc=>?_,λhc=>?_,b7⟩
      · have b2:=an.cq ee.1 (by grind)
        simp only[aE.cV,if_neg b2.1]
        exact vT.2.1 (by grind)
      · have b2:=an.cq ee.1 (by grind)
        simp only[aE.cV,if_neg b2.1]
        exact vT.2.2.2.1 (by grind)
  have amW:cC.map (·.1)=c.bo.bR.map (·.1):=by rw[<-Xt];exact Xl ..
  have hs:Xn (s.cV ck) kap (λb=>if b∈c.cH.bR.map (·.1) then some (kap (f b)).W else none,λb=>if b∈c.cH.bR.map (·.1)/\yR<=b then some (kap (f b),((c.cH.ae A).W b).body.len) else none) (ij (jl cC) c.bo.bR (fe (jl cC) c.bo.cc bG).2) cC:=by
    refine⟨c5,oi,y1,c9,λp aq=>?_⟩;rw[<-Xt]at aq;rcases Xm _ _ _ _ _ _ aq with⟨E,M,t,ai,bf⟩ | ⟨_,M,ai,bf⟩
    · rw[M]
      have lq:p.1∈c.cH.bR.map (·.1):=by
        grind
      rcases Jg (jl cC) c.bo.bR (fe (jl cC) c.bo.cc bG).2 p.1 with⟨_,a_⟩ | ⟨q',aY,a_,R,z,b7⟩
      · grind
      · rw[b7]
        obtain⟨cm,eX,kx⟩:=B6 p.1 q' aY a_ E R z
        have:q'=(p.1,t):=Ff (amW ▸ c5) aY ai a_
        subst this
        refine .inr ⟨λh=>⟨cm h,if_pos lq⟩,λh=>⟨eX h,if_pos lq⟩,kx,bf.imp (λbf=>⟨bf.1,λgg=>?_⟩) id⟩
        rcases bf.2 with b2 | ⟨ah,e,rfl⟩
        · grind
        · obtain⟨q,bM,OT,O2⟩:=Jm p.1 E
          have zv:=List.all_eq_true.1 (List.all_eq_true.1 Jl _ aY) q bM
          rw[OT,O2]at zv
          simp only[beq_self_eq_true,Bool.and_self,aKo,aKZ]at zv
          rcases Jg dz c.cH.bR (fe dz c.cH.cc A).2 p.1 with⟨_,y3⟩ | ⟨ee,m2,m3,OX,nU,m4⟩
          · grind
          · obtain rfl:=Ff c3 m2 bM (m3.trans OT.symm)
            have m4:(c.cH.ae A).W p.1=⟨0,(ee.2.body dz nU).1⟩:=m4
            obtain⟨dh,O3⟩:=ee
            have zv:cb.IH (.bu e) O3=true:=zv
            obtain rfl:O3=.bu e:=by
              cases O3<;>first | (simp only[cb.IH,ajl]at zv;rw[zv]) | cases zv
            have vT:=an.B1 p.1
            have amX:((c.cH.ae A).W p.1).body.gU=true:=by rw[m4];rfl
            obtain⟨b4,cL,e7⟩:=vT.2.2.1 amX
            have bD:((s.cV ck).W (f p.1)).body.gU=true/\((s.cV ck).W (f p.1)).body.len=(s.W (f p.1)).body.len/\((s.cV ck).W (f p.1)).body.ga=(s.W (f p.1)).body.ga:=by
              simp only[aE.cV];split
              · rcases Bz s.W (s.W (f p.1)) with bt | ⟨_,_,al,bt⟩ | ⟨_,_,_,al,_⟩ | ⟨_,_,_,_,al,_,_⟩
                · grind
                · rw[bt,al];exact⟨rfl,rfl,rfl⟩
                · have b4:(s.W (f p.1)).body.gU=true:=b4
                  rw[al]at b4;cases b4
                · have b4:(s.W (f p.1)).body.gU=true:=b4
                  rw[al]at b4;cases b4
              grind
            have cL:((c.cH.ae A).W p.1).body.len=(s.W (f p.1)).body.len:=cL
            have e7:((c.cH.ae A).W p.1).body.ga=(s.W (f p.1)).body.ga:=e7
            refine⟨bD.1,?_,?_⟩
            · rw[bD.2.2,<-e7,m4];rfl
            grind
    · refine .inl ⟨?_,by omega⟩
      unfold fF
      omega
  obtain⟨rZ,eG⟩:=amU (ins:=c.cH.p_.map f) (X:=if c.bo.cc.any (λp=>p.1 == cw) then gh (fe (jl cC) c.bo.cc bG).1 cw else if c.cH.cc.any (λp=>p.1 == cw) then .undef else (s.cV ck).aD cw)
    (H':=(ze (s.cV ck) c f cC bG).W)
    (kapn:=λb=>match cC.find? (λp=>p.2.1 == b) with
      | some p=>oz p.1
      | none=>kap b) NR ⟨Jn.fo,Jn.low,Jn.own,Jn.Jh⟩ (λr ⟨b,V,e⟩=>⟨f b,aLG (an.cq b V).2.2,an.zq V,e⟩) iW hs
    (λp aq=>by simp only[ze,Jf (k:=λp=>p.2.1) oi aq,aKH]) (λb V=>by
      have aC:cC.find? (λp=>p.2.1 == b)=none:=List.find?_eq_none.2 λp aq e=>V (List.mem_map.2 ⟨p,aq,by grind⟩);simp only[ze,aC,aK0];grind)
    (by
      split
      · simp
      · split
        · simp
        · rename_i M
          exact .inr (.inr ⟨rfl,zt c.cH.cc dz A cw (Bool.eq_false_iff.2 M)⟩))
  exact⟨_,rZ,eG⟩
theorem Xu(bB:∀ i,o.dst=some i->i<C.b5){f0:Operand}{args:Array Operand}{dS:Array TypeId}(au:o.op=.call { callee:=.value f0,args:=args,argTypes:=dS }){c:cW}(aw:∀ A a w,c7 C s a w->(c.sh A).et->∃ k,di C.P C.a8 k c/\a.eval f0=.func (.func k) #[] #[]){cP:jk}
  (h:zf C.a8 s o args.toList c=some cP):rW C o s cP:=by
 obtain⟨args⟩:=args;unfold zf at h;generalize aHk:s8 c (uh s (s7 C.a8 s args))=f at h;split at h
 ·rename_i A ck ps;split at h
  ·rename_i eP;cases h;have amY:vN (bs C.a8 s.aD) o->ld (args.map (bs C.a8 s.aD)):=λV=>E' V λx al=>by rw[au];simp[Op.operands,Call.operands];simp_all
   refine⟨λa w Q K U bz O4=>?_,λgs qc=>(by grind),amY⟩;obtain⟨k,aw,ah⟩:=aw A a w U O4.1;obtain⟨kap,F,U⟩:=U;have hlen:args.length=c.lT/\args.length<=fF:=by
    simp only[E5,ajm,ajl]at eP;omega
   have fV:=U.args (avs:=s7 C.a8 s args) (us:=args.map a.eval) (by grind) (by simp[s7]) λi D=>by
    have ea:i<args.length:=by grind
    have E:=t_ bz i (by grind);have ax:(args.map (bs C.a8 s.aD)).getD i .undef=bs C.a8 s.aD args[i]:=by grind
    rw[ax]at E;have aU:(s7 C.a8 s args).getD i .undef=(use (bs C.a8 s.aD args[i])).2:=by simp[s7,aJ7,ea]
    have cD:(args.map a.eval).getD i undef=a.eval args[i]:=by grind
    rw[aU,cD];exact qQ (lf U args[i]) E
   obtain⟨F',own,Y,jy,_,bE,_,j2,_,Fk,O5⟩:=Xs U fV rfl ps rfl eP;have dD:(execOp a.eval o).run C.P w=.ok (.enter k (args.map a.eval).toArray) w:=by
    simp only[execOp,au,Sem.run_bind,resolve,ah,Deferred.ofValue,Sem.run_pure,Result.andThen_ok,invoke];have:=aw.enter (args.map a.eval).toArray w;grind
   have vV:=aw.hx Fk rfl rfl rfl rfl (by show (args.map a.eval).length=_;grind) rfl O4.1;refine EH (by grind) dD vV λe w' ⟨v,bG,aJ,oz,F2,he,hh,Jo,iW⟩=>⟨v,he,O4.2 bG hh _ _ ?_⟩
   obtain⟨kapn,rZ,eG⟩:=O5 C.ei w bE j2 bG aJ w' oz F2 iW;exact⟨_,F2,bH.set rZ bB (amQ Jo λj=>by simpa [aKb,aJ7]using eG j)⟩
  grind
 grind
theorem amZ(bB:∀ i,o.dst=some i->i<C.b5){k:Nat}{args:Array Operand}{dS:Array TypeId}(au:o.op=.call { callee:=.value (.func k),args:=args,argTypes:=dS }){c:cW}(aw:di C.P C.a8 k c){cP:jk}
  (h:zf C.a8 s o args.toList c=some cP):rW C o s cP:=
 Xu bB au (λ_ _ _ _ _=>⟨k,aw,rfl⟩) h
theorem di.Bn{P:Program}{ba:ew}{k:FuncId}{c:cW}(h:di P ba k c){sh:c.cH.ak->G c.bo.ak}(az:∀ A,aR (c.sh A) (sh A)):di P ba k { c with sh:=sh } where
 enter:=h.enter
 ki:=λC a w kap F A ax aU cD eZ fR hf U sY=>by
  obtain⟨aY,a_⟩:=az A sY;exact (h.ki C a w kap F A ax aU cD eZ fR hf U aY).mono λe w' ⟨v,bG,aJ,bX,F',E,M,ai⟩=>⟨v,bG,aJ,bX,F',E,a_ bG M,ai⟩
theorem am0{Psi:Nat->Option gJ}(bB:∀ i,o.dst=some i->i<C.b5){t:Nat}{args:Array Operand}{dS:Array TypeId}(au:o.op=.call { callee:=.value (.tmp t),args:=args,argTypes:=dS })
  (dE:∀ c sh ids,Psi WV=some (.IT c sh ids)->∀ k∈ids,di C.P C.a8 k { c with sh:=sh k }) {cP:jk} (h:IX C.a8 Psi s o t args.toList=some cP):rW C o s cP:=by
 unfold IX at h;split at h
 ·rename_i n aC;split at h
  ·rename_i c sh ids hc;refine Xu bB au (λA a w U az=>?_) h;obtain⟨⟨k,ah,rfl⟩,_⟩:=az;refine⟨k,(dE c sh ids hc k ah).Bn (sh:=(WW c sh ids (some k)).sh) λA h=>⟨h.2,λy bh=>bh⟩,?_⟩;obtain⟨kap,F,U⟩:=U;have ab:bQ C.P s.W kap F w (s.aD t) (a.tmps.getD t undef):=U.cc t;rw[aC]at ab;obtain⟨_,ab⟩:=(eH rfl).1 ab;exact (aKh ab).1
  ·cases h
 ·cases h
end
end Go.Fer
namespace Go.Fer
open Go.RowKit
section
variable {C:cB} {o:Oper} {s:aE}
theorem bH.round{s:aE}{a:Act}{w w':World}{kap:Nat->bP}{F' F2 Y Jp:Nat->Prop}{l:Nat}{aN:aa}{L:List aN.ak->Prop}{I}{dW:List aN.ak}{O6:Bool}(U:bH C s a w kap F')(q1:C.cP=⟨l,aN,L,I⟩)(cJ:C.cP.jv C.P)
    (bh:∀ r,Y r->r<w.heap.size/\¬F' r/\¬C.K0 r) (O7:∀ b,(s.W b).body.cq (kap b)=true->¬Y (kap b).W)
    (g1:∀ r,F' r->F2 r) (eB:∀ r,F2 r->F' r\/Y r\/w.heap.size<=r) (g3:∀ r,F2 r->r<w'.heap.size) (g4:∀ r,r<w.heap.size->¬Y r->w'.heap[r]?=w.heap[r]?)
    (g5:∀ r,Jp r->(Y r\/w.heap.size<=r)/\r<w'.heap.size/\¬F2 r) (g6:w.heap.size<=w'.heap.size) (g7:dP w w') (g8:I dW O6 F2 Jp w') :
    bH C ⟨λi=>if i=cw then .tr l aN L dW O6 else s.aD i,s.W⟩ a w' kap F2:=by
  have rX:dy F' w w':=⟨g6,λr h=>g4 r (U.dH r h) λEA=>(bh r EA).2.1 h⟩
  have mN:∀ r,w.heap.size<=r->¬C.K0 r:=λr h ah=>by have:=U.iM r ah;have:=U.size;omega
  refine { ek := U.ek, dq := U.dq, cc := λi => ?_, bR := λb => cX.mG (U.bR b) (gb.refl _ _) g1 rX rfl rfl λau => g4 _ (U.own b au).1 (O7 b au), own := λb V => ?_, inj := U.inj, dH := g3, ie := λr h => ?_,jg:=λr h=>g1 r (U.jg r h),iM:=U.iM,fi:=λr h=>?_,size:=aKa U.size g6,e5:=U.e5.trans g7,hq:=U.hq,lC:=U.lC,kQ:=U.kQ,lD:=U.lD,lE:=U.lE,fo:=λeo lR fI kn j7 e=>?_,kR:=U.kR,jW:=U.jW.mono g1 rX }
  · show bQ C.P s.W kap F2 w' (if i=cw then .tr l aN L dW O6 else s.aD i) _
    split
    · trivial
    · exact bQ.later (gb.refl _ _) g1 rX (U.cc i)
  · have h:=U.own b V
    grind
  · rcases eB r h with h | h | h
    · exact U.ie r h
    · exact .inr (bh r h).2.2
    · exact .inr (mN r h)
  · exact (g4 r (aJ' (U.iM r h) U.size) λk=>(bh r k).2.2 h).trans (U.fi r h)
  · simp only[if_true]at e
    cases e
    refine⟨⟨I,q1⟩,cJ,Jp,λr h=>⟨(g5 r h).2.1,(g5 r h).2.2,?_⟩,λb V h=>?_,?_⟩
    · grind
    · rcases (g5 _ h).1 with h | h
      · grind
      · exact absurd (U.own b V).1 (Nat.not_lt.2 h)
    · rw[q1];exact nl.Bi.2 g8
theorem am1(bB:∀ i,o.dst=some i->i<C.b5){t:Nat}{args:Array Operand}{dS:Array TypeId}(au:o.op=.call { callee:=.value (.tmp t),args:=args,argTypes:=dS }){cP:jk}
  (h:IY C.a8 s o t args.toList=some cP):rW C o s cP:=by
 obtain⟨args⟩:=args;unfold IY at h;split at h
 ·rename_i eo l aN L n ae O8 s4;split at h
  ·rename_i x ck al;cases h;refine⟨λa w Q K U bz hm=>?_,λgs qc=>(by grind),λV=>E' V λx al=>by rw[au];simp[Op.operands,Call.operands];simp_all⟩;obtain⟨kap,F,U⟩:=U;rw[l_]at hm;obtain⟨⟨rfl,rfl,Jq⟩,hm⟩:=hm;obtain⟨F',f1,bE,f2⟩:=bH.mJ (rP _ al) U;have fV:gn C.P aN F' w (args.map a.eval) x:=by
    refine xg U.bR f1 aN al f2 (by simp) λi D eE=>?_;simp only[aLm];have ea:i<args.length:=by grind
    have E:=t_ bz i (by grind);have ax:(args.map (bs C.a8 s.aD)).getD i .undef=bs C.a8 s.aD args[i]:=by grind
    rw[show (List.map (bs C.a8 s.aD) (⟨args⟩:Array Operand).toList)=args.map (bs C.a8 s.aD) from rfl,ax]at E;exact qQ (lf U args[i]) E
   have ab:a.eval (.tmp t)=.func (.yield eo) #[] #[]:=by
    have:=lf U (.tmp t);have e:bs C.a8 s.aD (.tmp t)=.ia eo:=O8;rw[e]at this;exact this
   obtain⟨⟨I,q1⟩,cJ,Y,bh,O7,fa⟩:=bE.fo eo aN L n false s4;have am2:nl.jv C.P ⟨eo,aN,L,I⟩:=q1 ▸ cJ;rw[q1]at fa;have fa:=nl.Bi.1 fa;obtain⟨fn,tmps,assign,body,E,M⟩:=am2.yield fa bE.dH (λr h=>⟨(bh r h).1,(bh r h).2.1⟩) Jq fV;have dD:(execOp a.eval o).run C.P w=.ok (.round eo fn tmps assign body) w:=by
    simp only[execOp,au,Sem.run_bind,resolve,ab,Deferred.ofValue,Sem.run_pure,Result.andThen_ok,invoke];grind
   refine⟨λ_ _=>trivial,?_⟩;rw[Bv (by grind),dD,Oper.uponIn_round];refine⟨λaz=>(by cases az),?_⟩;have ai:RoundIn (e0 C.r) 0 C.P eo fn tmps assign body w _:=M;refine ai.mono λe w' ⟨b,F2,Jp,he,g1,eB,g3,g4,g5,g6,g7,g8⟩=>?_;subst he;refine hm.2 b trivial _ _ ⟨kap,F2,bH.set ?_ bB (f'.2 rfl)⟩;exact bE.round q1 cJ bh O7 g1 eB g3 g4 g5 g6 g7 g8
  grind
 grind
end
end Go.Fer
namespace Go.Fer
open Go.RowKit
section
variable {C:cB} {T:Nat->aa} {bK:Nat->Option aF} {s:aE} {res:fb}
theorem Xv{ms:Array MapEntry}{j:Nat}(aI:j<ms.size)(hu:∀ i (h:i<ms.size),ms[i].born=ms[j].born->i=j):ms.findIdx? (λe=>(e.born:Int) == (ms[j].born:Int))=some j:=by
 rw[Array.findIdx?_eq_some_iff_getElem];grind
theorem am3(ms:Array MapEntry)(e:MapEntry)(f:MapEntry->MapEntry):(ms.push e).modify ms.size f=ms.push (f e):=by
 grind
theorem am4(ms:Array MapEntry)(j:Nat)(f g:MapEntry->MapEntry):(ms.modify j f).modify j g=ms.modify j λe=>g (f e):=by
 grind
theorem B7{a:Act}{d:Nat}{v:Value}{x:Operand}(h:x≠.tmp d):(a.put (some d) v).eval x=a.eval x:=Act.eval_put λtX e=>by grind
theorem Fl{a:Act}{d:Nat}{v:Value}(h:d<a.tmps.size):(a.put (some d) v).eval (.tmp d)=v:=by
 simp[Act.put,Act.eval,h]
theorem am5(be:eO C.P T){hK gf mR lo:Oper}{d1 d2:Nat}{ty:TypeId}{m x y:Operand}(E:hK.op=.mapEntry ty m x)(t1:hK.dst=some d1)(M:gf.op=.extract (.tmp d1) 1)(t2:gf.dst=some d2)
  (ai:mR.op=.entryStore ty m (.tmp d2) y) (t3:mR.dst=none) (jB:lo.op=.mapUpdate ty m x y) (Xw:lo.dst=none) (lW:m≠.tmp d1) (b_:m≠.tmp d2) (r0:y≠.tmp d1) (q2:y≠.tmp d2) (vW:d1<C.b5) (j8:d2<C.b5)
  (h:(cn C.a8 T bK (bs C.a8 s.aD) lo).run s.W=some res) {a:Act} {w:World} {kap:Nat->bP} {F:Nat->Prop} {Q:Exit->Act->World->Prop} {K:Act->World->Prop} (U:bH C s a w kap F) (bz:res.cG) (hc:res.c)
  (lp:∀ a' w',c7 C (((s.jZ none res).set (some d1) .undef).set (some d2) .undef) a' w'->K a' w') :
  hK.wpIn (e0 C.r) 0 C.P a w (λcd cj=>gf.wpIn (e0 C.r) 0 C.P cd cj (λa2 dM=>mR.wpIn (e0 C.r) 0 C.P a2 dM K Q) Q) Q:=by
 have nV:=NP be Xw (.inl jB) h a w kap F Q U bz hc;have ax:∀ c,hK.op≠.defer c:=by grind
 have aU:∀ c,gf.op≠.defer c:=by grind
 have cD:∀ c,mR.op≠.defer c:=by grind
 have am6:∀ c,lo.op≠.defer c:=by grind
 simp  [cn,jB,tY]at h;split at h
 ·rename_i k v aT;obtain⟨mO,BI,D,ll,jN⟩:=(be.cv aT (by simp)).mp;obtain⟨inf,nX,i1,i2,i3,i4,i5,i6⟩:=np jN.nn;split at h
  ·rename_i zw;split at h
   ·rename_i b g sZ;simp only[aM.fG,aji,aM.run_bind,aM.gV,aM.dC]at h;obtain⟨⟨eF,rI⟩,al,⟨ph,rJ⟩,bh,h⟩:=h;split at h
    ·rename_i aA;obtain⟨aA,xb⟩:=aA;split at h
     ·rename_i k' kk es V;simp  at h;obtain⟨Wi,qS,rfl⟩:=h;obtain⟨e,rfl⟩:=mb qS;cases e;obtain⟨F',f1,bE,f2⟩:=bH.mJ ((oj al).append (oj bh)) U;have hm:bQ C.P s.W kap F w (use (bs C.a8 s.aD m)).2 (a.eval m):=df U m rfl bz.1;rw[sZ]at hm;have lN:=hm.2 aA.symm (by rw[V];rfl);have vJ:=nQ U.bR f1 al f2.left (df U x rfl bz.2.1);have rQ:(s.cV (rI++rJ)).W b=s.W b:=by simp  [aE.cV];grind
      have bd:=bE.bR b;unfold cX at bd;rw[rQ,V]at bd;obtain⟨ms,clk,hw,vK⟩:=bd;have fX:=by simpa [w6]using zw
      have eP:=(EJ (em:=false) k 10000 fX.1 (by omega)).1 ll vJ;have mP:=vK.es;obtain⟨f,dh,ee⟩:=y5       zw ll vJ mP.1 (λj e p E M=>(mP.2 j e p E M).1);have fT:(getObj (kap b).W).run C.P w=.ok (.map ms clk) w:=by simp[getObj,Sem.run,hw]
      obtain⟨iM,NQ,Iu,Wj⟩:=vK;have vY:d1<a.tmps.size:=by have:=U.ek;omega
      have cF:=(Array.getElem?_eq_some_iff.1 hw).1;have chain:∀ (cj dM:World) (u:Value) (n:Int),(execOp a.eval hK).run C.P w=.ok (.value (.tuple #[u,goInt n])) cj->(Instr.entryStore ty (.map (some (kap b).W)) (goInt n) (a.eval y)).run C.P cj=.ok () dM->
        (execOp a.eval lo).run C.P w=.ok .skip dM->
        hK.wpIn (e0 C.r) 0 C.P a w (λcd cj=>gf.wpIn (e0 C.r) 0 C.P cd cj (λa2 dM=>mR.wpIn (e0 C.r) 0 C.P a2 dM K Q) Q) Q:=by
       intro cj dM u n b4 cL am7;have ot:=nV.2;rw[Bv am6,am7,Oper.uponIn_skip,Xw]at ot;refine iw ax b4 ?_;rw[t1];have am8:(a.put (some d1) (.tuple #[u,goInt n])).eval (.tmp d1)=.tuple #[u,goInt n]:=Fl vY;refine iw (v:=goInt n) (w':=cj) aU (by simp[execOp,M,am8,Instr.extract]) ?_;rw[t2];have am9:d2<(a.put (some d1) (.tuple #[u,goInt n])).tmps.size:=by have:=U.ek;simp[Act.put];omega
       have am_:((a.put (some d1) (.tuple #[u,goInt n])).put (some d2) (goInt n)).eval (.tmp d2)=goInt n:=Fl am9;have O9:((a.put (some d1) (.tuple #[u,goInt n])).put (some d2) (goInt n)).eval m=.map (some (kap b).W):=by rw[B7 b_,B7 lW,lN]
       have am':((a.put (some d1) (.tuple #[u,goInt n])).put (some d2) (goInt n)).eval y=a.eval y:=by rw[B7 q2,B7 r0]
       refine Ib cD (w':=dM) (by simp  [execOp,ai,am_,O9,am',cL,Sem.run_pure]) ?_;rw[t3];refine lp _ _ ?_;obtain⟨bX,F',ot⟩:=ot;exact⟨bX,F',bH.set (bH.set   (av:=.undef) ot (λi e=>by grind) trivial) (λi e=>by grind) trivial⟩
      rcases ee with⟨rfl,fc⟩ | ⟨j,e,p,g1,eB,g3,g4,rfl⟩
      ·refine chain { w with heap:=w.heap.setIfInBounds (kap b).W (.map (ms.push { key:=a.eval x,val:=nX,born:=clk }) (clk+1)) } { w with heap:=w.heap.setIfInBounds (kap b).W (.map (ms.push { key:=a.eval x,val:=a.eval y,born:=clk }) (clk+1)) } nX clk ?_ ?_ ?_
       ·simp  [execOp,E,lN,Instr.mapEntry,ej D,fT,eP,dh,sR i1 i4,uf hw]
       ·have O_:(getObj (kap b).W).run C.P { w with heap:=w.heap.setIfInBounds (kap b).W (.map (ms.push { key:=a.eval x,val:=nX,born:=clk }) (clk+1)) }=.ok (.map (ms.push { key:=a.eval x,val:=nX,born:=clk }) (clk+1)) { w with heap:=w.heap.setIfInBounds (kap b).W (.map (ms.push { key:=a.eval x,val:=nX,born:=clk }) (clk+1)) }:=by simp[getObj,Sem.run,cF]
        have O':(ms.push { key:=a.eval x,val:=nX,born:=clk }).findIdx? (λe=>e.born == (clk:Int))=some ms.size:=by
         have:=Xv (ms:=ms.push { key:=a.eval x,val:=nX,born:=clk }) (j:=ms.size) (by simp) λi D he=>by
          grind
         grind
        simp  [Instr.entryStore,O_,goInt,asInt,asIntOf,O'];rw[uf (es:=ms.push { key:=a.eval x,val:=nX,born:=clk }) (clk:=clk+1) (by grind),am3];simp
       ·simp  [execOp,jB,lN,Instr.mapUpdate,ej D,fT,eP,dh,uf hw]
      ·have aI:=(List.getElem?_eq_some_iff.1 eB).1;have OR:j<ms.size:=by omega
       obtain⟨ln,cj,b4,cL,e7⟩:=NO C.P w e.key (a.eval x);have nt:cj.heap[(kap b).W]?=some (.map ms clk):=by rcases e7 with rfl | rfl<;>exact hw
       have Xx:=(Array.getElem?_eq_some_iff.1 nt).1;have pf:((ms[j]?).map (·.key)).getD (a.eval x)=e.key:=by
        grind
       have Pa:((ms[j]?).map (λx=>(x.born:Int))).getD 0=(ms[j].born):=by grind
       refine chain { cj with heap:=cj.heap.setIfInBounds (kap b).W (.map (ms.modify j λe=>{ e with key:=ln }) clk) } { cj with heap:=cj.heap.setIfInBounds (kap b).W (.map (ms.modify j λe=>{ e with key:=ln,val:=a.eval y }) clk) } e.val ms[j].born ?_ ?_ ?_
       ·simp  [execOp,E,lN,Instr.mapEntry,ej D,fT,eP,dh];rw[pf,b4];simp  [uf nt,Pa]
       ·have O_:(getObj (kap b).W).run C.P { cj with heap:=cj.heap.setIfInBounds (kap b).W (.map (ms.modify j λe=>{ e with key:=ln }) clk) }=.ok (.map (ms.modify j λe=>{ e with key:=ln }) clk) { cj with heap:=cj.heap.setIfInBounds (kap b).W (.map (ms.modify j λe=>{ e with key:=ln }) clk) }:=by simp[getObj,Sem.run,Xx]
        have O':(ms.modify j λe=>{ e with key:=ln }).findIdx? (λe=>e.born == (ms[j].born:Int))=some j:=by
         have:=Xv (ms:=ms.modify j λe=>{ e with key:=ln }) (j:=j) (by grind) λi D he=>by
          grind
         grind
        simp  [Instr.entryStore,O_,goInt,asInt,asIntOf,O'];rw[uf (es:=ms.modify j λe=>{ e with key:=ln }) (clk:=clk) (by grind),am4];simp
       ·simp  [execOp,jB,lN,Instr.mapUpdate,ej D,fT,eP,dh];rw[pf,b4];simp  [uf nt]
     grind
    grind
   ·cases h
  ·cases h
 ·cases h
end
end Go.Fer
namespace Go.Fer
open Go.RowKit
structure Fm(P:Program)(k:FuncId)(c:BS):Prop where
 enter:∀ args w,(callFunc k args).run P w=.ok (.enter k args) w
 ki:∀ (l:Nat) (I:List c.aN.ak->Bool->(Nat->Prop)->(Nat->Prop)->World->Prop) (F Y:Nat->Prop) (w:World) (args:List Value) (x:c.ts.ak),gn P c.ts F w args x->c.pre x->nl.jv P ⟨l,c.aN,λT=>T=c.seq x,I⟩->
  (∀ r,F r->r<w.heap.size)->o7 P F w->(∀ r,Y r->r<w.heap.size/\¬F r)->I [] false F Y w->Calls P k (args++[Value.func (.yield l) #[] #[]]).toArray w λe w'=>
   ∃ v pre ae F' iv,e=.returned v/\(ae=false->pre=c.seq x)/\I pre ae F' iv w'/\(∀ r,F r->F' r)/\(∀ r,F' r->F r\/Y r\/w.heap.size<=r)/\(∀ r,F' r->r<w'.heap.size)/\
    (∀ r,r<w.heap.size->¬Y r->w'.heap[r]?=w.heap[r]?)/\(∀ r,iv r->(Y r\/w.heap.size<=r)/\r<w'.heap.size/\¬F' r)/\w.heap.size<=w'.heap.size/\dP w w'
def gJ.jv(P:Program)(ba:ew)(k:FuncId):gJ->Prop
 | .dU c=>je P k c.ts c.tr c.sh/\(c.IQ=true->∀ x,(c.sh x).E1)
 | .fr c=>di P ba k c
 | .cO c=>Fm P k c
 | .WR c=>je P k c.ts c.tr c.sh/\Vm P k c.ts c.tr c.sh
 | .IT c sh ids=>∀ k∈ids,di P ba k { c with sh:=sh k }
 | .lU c=>pa c.tr=true/\EF P k c
def oA(P:Program)(ba:ew)(Psi:Nat->Option gJ):Prop:=∀ k c,Psi k=some c->c.jv P ba k
section
variable {C:cB} {T:Nat->aa} {bK:Nat->Option aF} {Psi:Nat->Option gJ} {s:aE} {o:Oper} {Q:Exit->Act->World->Prop} {ops:Array Oper}
theorem ana(dk:lM C.P bK)(dE:oA C.P C.a8 Psi){k:Nat}{c:iU}(h:Oq bK Psi k=some c):je C.P k c.ts c.tr c.sh:=by
 unfold Oq at h;split at h
 ·rename_i me lK;cases h;have:=dE k _ lK;exact this.1
 ·grind
 ·obtain⟨f,aw,h⟩:=Option.bind_eq_some_iff.1 h;split at h
  ·grind
  ·cases h;exact (dk k f aw).1 (by grind)
theorem anb{P:Program}{w:World}{ty j:TypeId}(aI:P.underlying ty=some (.slice j))(q:Option Addr)(n cap d:Nat):(Op.equalIn (d+1) ty (.slice q n cap) (.slice none 0 0)).run P w=.ok q.isNone w:=by
 cases q<;>simp[Op.equalIn,ej aI]
theorem anc{P:Program}{w:World}(op:BinOp)(t:TypeId)(x y:Operand)(q q':Option Addr)(n kn cap vC:Nat):(eqGuard op t x y (.slice q n cap) (.slice q' kn vC)).run P w=.ok () w:=by
 cases op<;>simp[eqGuard]
theorem Xy{P:Program}{w:World}{ty j:TypeId}{x y:Operand}(aI:P.underlying ty=some (.slice j))(q:Option Addr)(n cap:Nat) :
  (do eqGuard .eql ty x y (.slice q n cap) (.slice none 0 0);binOp .eql ty (.slice q n cap) (.slice none 0 0):Sem Value).run P w=.ok (.bool q.isNone) w/\(do eqGuard .neq ty x y (.slice q n cap) (.slice none 0 0);binOp .neq ty (.slice q n cap) (.slice none 0 0):Sem Value).run P w=.ok (.bool (!q.isNone)) w:=by
 have h:=anb (w:=w) aI q n cap 9999;constructor<;>simp[anc,binOp,Op.equal,Op.maxDepth,h]
theorem ane(be:eO C.P T)(bB:∀ i,o.dst=some i->i<C.b5){op:BinOp}{ty og:TypeId}{x y:Operand}(au:o.op=.binOp op ty x y og){cP:jk}(h:E7 C.a8 T s o op ty x y=some cP):rW C o s cP:=by
 have Bx:∀ c,o.op≠.defer c:=by grind
 unfold E7 at h;split at h
 ·rename_i e aT anf;have dT:=be.cv aT (by simp);obtain⟨j,aI,_⟩:=dT.sl;split at h
  ·rename_i xs l j0;have key:∀ (a:Act) (w:World) (kap:Nat->bP) (F:Nat->Prop),bH C s a w kap F->(use (bs C.a8 s.aD x)).1->∃ b:Bool,(b=true->xs=[])/\(op=.eql->(execOp a.eval o).run C.P w=.ok (.value (.bool b)) w)/\(op=.neq->(execOp a.eval o).run C.P w=.ok (.value (.bool (!b))) w):=by
    intro a w kap F U bz;have al:=Em U j0 (df U x rfl bz);obtain⟨_,q,cap,ax,m1,m2,m3,_⟩:=(eH rfl).1 al;have bh:a.eval y=.slice none 0 0:=by
     have:=lf U y;rw[anf]at this;exact this
    refine⟨q.isNone,λbM=>?_,λnV=>?_,λnV=>?_⟩
    ·simp_all
    ·have U:=(Xy (w:=w) (x:=x) (y:=y) aI q xs.length cap).1;simp only[execOp,au,Sem.run_bind]at U ⊢;simp_all
    ·have U:=(Xy (w:=w) (x:=x) (y:=y) aI q xs.length cap).2;simp only[execOp,au,Sem.run_bind]at U ⊢;simp_all
   split at h
   ·cases h;refine⟨λa w Q K U bz hm=>?_,λgs qc=>(by grind),λV=>V x (by rw[au];simp[Op.operands])⟩;obtain⟨kap,F,U⟩:=U;obtain⟨b,cm,eX,_⟩:=key a w kap F U bz;exact iw Bx (eX rfl) (hm.2 b cm _ _ ⟨kap,F,bH.set U bB (f'.2 rfl)⟩)
   ·cases h;refine⟨λa w Q K U bz hm=>?_,λgs qc=>(by grind),λV=>V x (by rw[au];simp[Op.operands])⟩;obtain⟨kap,F,U⟩:=U;obtain⟨b,cm,_,eX⟩:=key a w kap F U bz;exact iw Bx (eX rfl) (hm.2 b cm _ _ ⟨kap,F,bH.set U bB (f'.2 rfl)⟩)
   grind
  grind
 grind
theorem Xz(be:eO C.P T)(dk:lM C.P bK)(dE:oA C.P C.a8 Psi)(bB:∀ i,o.dst=some i->i<C.b5){cP:jk}(h:uj C.a8 T bK Psi s o=some cP):rW C o s cP:=by
 unfold uj at h;split at h
 ·rename_i c au;obtain⟨callee,args,dS⟩:=c;split at h
  ·rename_i f aw;subst aw;split at h
   ·split at h
    ·rename_i me lK;exact amZ bB au (dE _ _ lK) h
    ·rename_i me lK;have ai:=dE _ _ lK;exact amD bB au ai.1 ai.2 h
    ·split at h
     ·rename_i dU Pb;exact amC bB au (ana dk dE Pb) h
     grind
   ·split at h
    ·rename_i r U;cases h;exact amE bB au U
    ·split at h
     ·rename_i r U;cases h;exact am0 bB au (λc sh ids hc=>dE _ _ hc) U
     ·exact am1 bB au h
   grind
  grind
 ·rename_i ty x au;exact amF be bB au h
 ·rename_i x str au;exact amJ bB au h
 ·rename_i x au;exact amG bB au h
 ·rename_i op ty x y og au;exact ane be bB au h
 grind
theorem XA(want b:Bool):((some b == some want:Bool))=IC want b:=by cases want<;>cases b<;>rfl
theorem XB{a:Act}{j d:Nat}{td:Oper}(E:ops[j]?=some td)(M:td.dst=some d){b:Bool}(h:a.tmps.getD d Go.undef=.bool b):yielded ops a.tmps j=some b:=by
 have:a.tmps[d]?=some (.bool b):=by
  rw[aKb]at h;cases he:a.tmps[d]? with
  | none=>rw[he]at h;cases h
  | some v=>grind
 simp[yielded,E,M,this]
theorem ang{a:Act}{j d:Nat}{td:Oper}(E:ops[j]?=some td)(M:td.dst=some d)(h:a.tmps.getD d Go.undef=Go.undef):yielded ops a.tmps j=none:=by
 unfold yielded;rw[E];simp  [M];rw[aKb]at h;cases he:a.tmps[d]? with
 | none=>rfl
 | some v=>rw[he]at h;cases h;rfl
theorem Pc{a:Act}{w:World}{kap:Nat->bP}{F:Nat->Prop}(U:bH C s a w kap F){g:Option Bool}(h:lP s.aD ops o.guard=some g) :
  Region.wanted o (yielded ops a.tmps)=g.getD true:=by
 unfold Region.wanted;cases aA:o.guard with
 | none=>rw[aA]at h;cases h;rfl
 | some p=>
  rw[aA]at h;simp  [lP]at h ⊢;split at h
  ·rename_i td aI;split at h
   ·rename_i d an;have az:=U.cc d;split at h
    ·rename_i b V;cases h;rw[V]at az;rw[XB aI an (f'.1 az),XA];rfl
    ·rename_i g' b V;cases h;rw[V]at az;obtain⟨E,M⟩:=az;cases g' with
     | true=>
      rw[XB aI an (f'.1 (E rfl)),XA];simp
     | false=>
      rw[ang aI an (M rfl)];rfl
    grind
   grind
  grind
theorem anh{cG c:Prop}{gG uk:aO}{iN zj:List (Nat×b')}(aA:I3 o gG iN=some (zj,uk))(h:(cn C.a8 T bK (bs C.a8 s.aD) o).run s.W=some ⟨cG,c,gG,iN⟩) :
    (∀ a w,c7 C (s.jZ o.dst ⟨cG,c,gG,iN⟩) a w->c7 C ((s.hS zj).set o.dst uk) a w)/\(∀ a w kap F,bH C s a w kap F->∃ bX F',bH C (s.hS zj) a w bX F'):=by
  unfold I3 at aA;split at aA
  · cases aA
    exact⟨λa w h=>h,λa w kap F h=>⟨kap,F,h⟩⟩
  · rename_i p eo
    split at aA
    · rename_i Pd first du au
      cases aA
      refine⟨λa w h=>h,λa w kap F U=>?_⟩
      simp  [cn,au]at h
      split at h
      · split at h
        · split at h
          · simp only[aM.fG,aji,aM.run_bind,aM.dC]at h
            obtain⟨⟨y,l⟩,bh,he⟩:=h
            obtain⟨F',_,bE,_⟩:=bH.mJ (rP _ bh) U
            have he:(kT l).run s.W=p::eo:=by grind
            rw[<-he,vw]
            grind
          · split at h
            · simp only[aM.fG,aji,aM.run_bind,aM.dC]at h
              obtain⟨⟨y,l⟩,bh,he⟩:=h
              obtain⟨F',_,bE,_⟩:=bH.mJ (rP _ bh) U
              have he:(kT l).run s.W=p::eo:=by grind
              rw[<-he,vw]
              grind
            · simp only[cQ,aM.dC]at h
              grind
        · split at h
          · simp only[cQ,aM.dC]at h
            grind
          · cases h
      · cases h
    · rename_i ty n bw au
      split at aA
      · rename_i bl g' e xs ca
        split at aA
        · rename_i ani
          obtain⟨⟨rfl,rfl⟩,_⟩:=ani
          cases aA
          obtain⟨b,⟨anj,j6⟩⟩:=p
          subst ca
          have mN:o.dst=some b/\anj=(s.W b).gen+1:=by
            simp  [cn,au]at h;split at h
            · simp only[aM.fG,aji,aM.run_bind]at h
              obtain⟨⟨bA,ck⟩,_,h⟩:=h
              obtain⟨b0,BJ,ah⟩:=sU h
              grind
            · cases h
          obtain⟨bB,rfl⟩:=mN
          refine⟨λa w ot=>?_,λa w kap F U=>?_⟩
          · obtain⟨kap,F,U⟩:=ot
            rw[bB]at U ⊢
            simp  [aE.jZ]at U
            have al:(eg (.slice e) (.own b ((s.W b).gen+1))).run ((s.c' b ⟨(s.W b).gen+1,.bu e xs⟩).set (some b) (.own b ((s.W b).gen+1))).W=some (xs,[b]):=by
              simp[eg,lF,eJ,aE.set,aE.c',fz,aa.fE]
            obtain⟨F1,f1,gY,f2⟩:=bH.mJ (oj al) U
            have az:=U.cc b
            have ab:=nQ (v:=a.tmps.getD b undef) U.bR f1 al f2 (by simpa [aE.set]using az)
            have eG:∀ i,i≠b->((s.c' b ⟨(s.W b).gen+1,.bu e xs⟩).set (some b) (.own b ((s.W b).gen+1))).aD i=s.aD i:=λi D=>by simp[aE.set,aE.c',D]
            have dd:bH C ⟨λi=>if i=b then .val (.slice e) xs else s.aD i,(((s.c' b ⟨(s.W b).gen+1,.bu e xs⟩).set (some b) (.own b ((s.W b).gen+1))).cV [b]).W⟩ a w kap F1:=
              { gY with
                ek:=gY.ek,dq:=gY.dq,bR:=gY.bR
                cc:=λi=>by
                  show bQ _ _ _ _ _ (if i=b then .val (.slice e) xs else s.aD i) _;split
                  · rename_i D
                    subst D
                    exact ab
                  · rename_i D
                    rw[<-eG i D]
                    exact gY.cc i
                fo:=λl aN L n ae bt=>by
                  have bt:(if cw=b then aO.val (.slice e) xs else s.aD cw)=.tr l aN L n ae:=bt;split at bt
                  · grind
                  · rename_i D
                    exact gY.fo l aN L n ae ((eG cw D).trans bt) }
            refine⟨kap,F1,dd.Bn ⟨λi=>.inl ?_,λi=>?_⟩⟩
            · rfl
            · by_cases D:i=b
              · subst D
                simp[aE.set,aE.hS,aE.c',aE.cV,fU]
              · simp[aE.set,aE.hS,aE.c',aE.cV,D]
          · have aC:=OO U (b:=b) (e:=e)
            refine⟨_,F,aC.Bn ⟨λi=>.inl rfl,λi=>?_⟩⟩
            by_cases D:i=b
            · subst D
              simp[aE.hS,aE.c']
            · simp[aE.hS,aE.c',D]
        grind
      grind
    grind
theorem zx{bet:Type}{b:Bool}{p:Prop}{m:G bet}{O:bet->Prop}(V:b=true->p):dj (zg b p m) O<->p/\dj m O:=by
 cases b with
 | true=>exact⟨λh=>⟨V rfl,h⟩,λh=>h.2⟩
 | false=>exact l_
def r1(ops:Array Oper)(s:aE)(eQ:qX):Prop:=∀ p∈eQ,∃ b a,s.aD p.1=.jU b a/\lP s.aD ops (some p.2)=some (some b)
theorem ank{j d:Nat}:vR ops j d=true<->d∈ID ops (some (j,true)):=by
 have key:∀ (x:Option Oper),(match x with | some o=>(match o.dst with | some e=>e == d | none=>false) | none=>false)=true<->d∈(match x with | some o=>o.dst.toList | none=>[]):=by
  grind
 exact key _
theorem r1.ik{s':aE}{eQ:qX}(h:r1 ops s eQ)(az:∀ i,o.dst≠some i->s'.aD i=s.aD i)
  (an:∀ d k,o.dst=some d->o.guard=some k->∃ b a,s'.aD d=.jU b a/\lP s.aD ops (some k)=some (some b)):r1 ops s' (zh ops eQ o):=by
 unfold zh;cases bB:o.dst with
 | none=>
  intro p aq;obtain⟨b,a,E,M⟩:=h p aq;refine⟨b,a,(az _ (by grind)).trans E,?_⟩;rw[<-M];exact N4 λt _=>az t (by grind)
 | some d=>
  have congr:∀ k,vR ops k.1 d=false->lP s'.aD ops (some k)=lP s.aD ops (some k):=λk ah=>N4 λt aT=>az t (by
   have:=ank.2 aT;grind)
  have xf:r1 ops s' (eQ.filter λp=>p.1 != d&&!vR ops p.2.1 d):=by
   intro p aq;simp  at aq;obtain⟨b,a,E,M⟩:=h p aq.1;grind
  simp;split
  ·split
   ·omega
   ·intro p aq;rcases List.mem_cons.1 aq with rfl | aq
    ·grind
    ·exact xf p aq
  omega
section
variable {ba:ew} {eQ:qX} {gk:Option (Nat×Bool)}
theorem Fo(be:r1 ops s eQ)(aA:∀ k,gk=some k->lP s.aD ops (some k)=some (some true)){x:Operand}(h:zi (bs ba s.aD) eQ gk x=true):(use (bs ba s.aD x)).1:=by
 unfold zi at h;rw[aKm]at h;rcases h with h | h
 ·exact Iz (by grind)
 ·split at h
  ·rename_i t k;obtain⟨p,aq,xm⟩:=List.any_eq_true.1 h;simp  at xm;obtain⟨rfl,E,M⟩:=xm;have xm:=Prod.ext E M;obtain⟨b,a,aY,a_⟩:=be p aq;rw[xm,aA k rfl]at a_;cases a_;have e:bs ba s.aD (.tmp p.1)=s.aD p.1:=rfl;rw[e,aY];rfl
  grind
theorem XC(be:r1 ops s eQ)(aA:∀ k,gk=some k->lP s.aD ops (some k)=some (some true))(h:Ov (bs ba s.aD) eQ gk o=true):vN (bs ba s.aD) o:=
 λx al=>Fo be aA (List.all_eq_true.1 h x al)
theorem XD(be:r1 ops s eQ){c x:Operand}{want:Bool}{sQ:Prop}{kB:Bool}(hc:use (bs ba s.aD c)=(sQ,.val .bool kB))(Fp:sQ)(h:I4 ops eQ c x want=true)(hw:IC want kB=true):(use (bs ba s.aD x)).1:=by
 unfold I4 at h;split at h
 ·obtain⟨p,aq,xm⟩:=List.any_eq_true.1 h;simp  at xm;obtain⟨rfl,E,rfl⟩:=xm;obtain⟨b,a,aY,a_⟩:=be p aq;have e:bs ba s.aD (.tmp p.1)=s.aD p.1:=rfl;rw[e,aY];show b=true;unfold vR at E;unfold lP at a_;have lK:use (s.aD _)=(sQ,.val .bool kB):=hc;split at E
  ·rename_i td aI;split at E
   ·rename_i d an;simp  [aI,an]at a_;split at a_
    ·simp  [use,aK0]at lK;grind
    ·simp  [use,aK0]at lK;grind
    grind
   grind
  grind
 grind
theorem Pe(be:r1 ops s eQ)(aA:∀ k,gk=some k->lP s.aD ops (some k)=some (some true))(h:E8 (bs ba s.aD) ops eQ gk o=true):(cn ba T bK (bs ba s.aD) o).e1 (mQ λr=>r.cG):=by
 cases au:o.op with
 | pick c a b=>
  simp  [E8,au,aKm]at h;obtain⟨E,M,ai⟩:=h;unfold cn;rw[au];simp only;split
  ·rename_i sQ kB nY;have Fp:sQ:=by have:=Fo be aA E;grind
   split
   ·split
    ·refine .cQ ⟨Fp,λab=>?_⟩;have:(use (bs ba s.aD a)).1:=by
      rcases M with M | M
      ·exact Fo be aA M
      ·exact XD be nY Fp M ab
     grind
    ·exact .lO
   ·split
    ·refine .cQ ⟨Fp,λab=>?_⟩;have:(use (bs ba s.aD b)).1:=by
      rcases ai with ai | ai
      ·exact Fo be aA ai
      ·exact XD be nY Fp ai (by subst ab;rfl)
     grind
    ·exact .lO
   ·exact .lO
  ·exact .lO
 | _=>
  simp only[E8,au]at h;exact WB (XC be aA h)
theorem anl(be:r1 ops s eQ)(aA:∀ k,gk=some k->lP s.aD ops (some k)=some (some true)){cG c:Prop}{gG uk:aO}{iN zj:List (Nat×b')}(hw:I3 o gG iN=some (zj,uk))(U:(cn ba T bK (bs ba s.aD) o).run s.W=some ⟨cG,c,gG,iN⟩)
  (h:Ow (bs ba s.aD) eQ gk o uk=true):(use uk).1:=by
 unfold Ow at h;rw[aKm]at h;rcases h with h | h
 ·exact Iz (by grind)
 ·split at h
  ·rename_i x au;simp  [cn,au,fb.mk.injEq]at U;obtain⟨_,_,rfl,rfl⟩:=U;obtain⟨_,rfl⟩:=hw;exact Fo be aA h
  grind
end
theorem aE.Fq{s:aE}{d:Option Nat}{v:aO}{i:Nat}(h:d≠some i):(s.set d v).aD i=s.aD i:=by
 cases d with
 | none=>rfl
 | some d=>simp  [aE.set];grind
theorem aE.Pf{s:aE}{d:Nat}{v:aO}:(s.set (some d) v).aD d=v:=by simp[aE.set]
theorem aE.BO:∀ (l:List (Nat×b')) (s:aE),(s.hS l).aD=s.aD
 | [],_=>rfl
 | p::l,s=>by
  have:=aE.BO l (s.c' p.1 p.2);exact this
theorem anm{ba:ew}{cP:jk}{gs:Bool->cP.ag->aE}(h:uj ba T bK Psi s o=some cP)(aA:cP.E2=some gs):∀ g y,∃ v,(gs g y).aD=(s.set o.dst (.jU g v)).aD:=by
 have after:∀ (t:aa) (ck:List Nat) (v:aO),(s6 s o t ck v).aD=(s.set o.dst v).aD:=λt ck v=>by
  unfold s6;split
  ·rfl
  ·cases o.dst<;>rfl
 have dU:∀ {args:List Operand} {c:iU} {cP:jk} {gs:Bool->cP.ag->aE},E3 ba s o args c=some cP->cP.E2=some gs->∀ g y,∃ v,(gs g y).aD=(s.set o.dst (.jU g v)).aD:=by
  intro args c cP gs h aA;unfold E3 at h;split at h
  ·cases h;cases aA;exact λg y=>⟨_,after _ _ _⟩
  grind
 have IS:∀ {t:Nat} {args:List Operand} {cP:jk} {gs:Bool->cP.ag->aE},E4 ba s o t args=some cP->cP.E2=some gs->∀ g y,∃ v,(gs g y).aD=(s.set o.dst (.jU g v)).aD:=by
  intro t args cP gs h aA;unfold E4 at h;split at h
  ·split at h
   ·cases h;cases aA;exact λg y=>⟨_,after _ _ _⟩
   grind
  grind
 unfold uj at h;split at h
 ·split at h
  ·split at h
   ·split at h
    ·unfold zf at h;grind
    ·unfold IV at h;grind
    ·split at h
     ·exact dU h aA
     grind
   ·split at h
    ·rename_i U;cases h;exact IS U aA
    ·split at h
     ·rename_i U;unfold IX zf at U;grind
     ·unfold IY at h;grind
   grind
  grind
 ·unfold IZ at h;grind
 ·unfold I1 at h;grind
 ·unfold I2 at h;grind
 ·unfold E7 at h;grind
 grind
theorem xr{x:Operand}{t:Nat}(h:jA x=some t):x=.tmp t:=by
 cases x<;>simp[jA]at h;rw[h]
theorem XE{o gf mR lo:Oper}{d1 d2:Nat}(h:BU o gf mR=some (lo,d1,d2)):∃ ty m x y,o.op=.mapEntry ty m x/\o.dst=some d1/\gf.op=.extract (.tmp d1) 1/\gf.dst=some d2/\mR.op=.entryStore ty m (.tmp d2) y/\mR.dst=none/\
  lo.op=.mapUpdate ty m x y/\lo.dst=none/\m≠.tmp d1/\m≠.tmp d2/\y≠.tmp d1/\y≠.tmp d2/\o.guard=none/\gf.guard=none/\mR.guard=none:=by
 unfold BU at h;split at h
 ·rename_i ty m x au;split at h
  ·rename_i e zy;split at h
   ·rename_i og eh bt y aHl;split at h
    ·rename_i akB Nx XF Fs XG;split at h
     ·rename_i hc;obtain⟨rfl,rfl,rfl⟩:=h;obtain⟨bx,c2,rfl,c4,c5,oi,qR,y1,c9,Jl,ano,c12,anp⟩:=hc;obtain⟨qd,vZ⟩:=Option.isSome_iff_exists.1 c4;have fC:=xr vZ;have hm:=xr (c5.symm.trans vZ);have ax:=xr bx;have aU:=xr c2;subst ax;subst aU;refine⟨og,m,x,y,au,XF,zy,Fs,?_,XG,rfl,XG,λe=>qR (by grind),λe=>y1 (by grind),λe=>c9 (by grind),λe=>Jl (by grind),Option.isNone_iff_eq_none.1 ano,Option.isNone_iff_eq_none.1 c12,Option.isNone_iff_eq_none.1 anp⟩;grind
     grind
    grind
   grind
  grind
 grind
theorem Pg{bet:Type}(be:eO C.P T)(dk:lM C.P bK)(dE:oA C.P C.a8 Psi)(an:∀ o∈ops.toList,pk o C.b5=true){k:aE->G bet}{O:bet->Prop}
  (ah:∀ s' a' w',c7 C s' a' w'->dj (k s') O->Q .normal a' w'):∀ (os:List Oper) (n:Nat) (eQ:qX) (s:aE) (a:Act) (w:World),ops.toList.drop n=os->r1 ops s eQ->c7 C s a w->dj (nW C.a8 T bK Psi ops os eQ s k) O->
   wpOpsIn (e0 C.r) 0 C.P ops Q (List.range' n os.length) a w:=by
 intro os;generalize hlen:os.length=len;induction len using Nat.strongRecOn generalizing os with
 | _ len XH=>
 subst hlen;cases os with
 | nil=>
  intro n eQ s a w _ _ U hm;exact ah s a w U hm
 | cons o os=>
  have aP:=XH os.length (by simp) os rfl;intro n eQ s a w aC zz U hm;have cF:n<ops.toList.length:=by
   grind
  rw[aJ9 cF]at aC;injection aC with vW j8
  have fT:ops[n]?=some o:=by
   grind
  have lq:=vW ▸ ajj cF;have Jr:=an o lq;have bB:∀ i,o.dst=some i->i<C.b5:=λi D=>by
   have:=Jr;simp  [pk]at this;grind
  simp  [aLT,wpOpsIn,fT];obtain⟨kap,F,gL⟩:=U;unfold nW at hm;split at hm
  ·rename_i lo d1 d2 v7;cases os with
   | nil=>exact hm.1.elim
   | cons gf os=>
    cases os with
    | nil=>exact hm.1.elim
    | cons mR os=>
     simp  at hm;split at hm
     ·rename_i res ih;obtain⟨ty,m,x,y,f1,f2,f3,f4,f5,f6,f7,f8,f9,f10,f11,f12,g1,eB,g3⟩:=XE v7;have XI:=j8;have Eu:n+1<ops.toList.length:=by
       grind
      rw[aJ9 Eu]at XI;injection XI with anq XJ
      have anr:n+2<ops.toList.length:=by
       grind
      rw[aJ9 anr]at XJ;injection XJ with aHm ans
      have aHn:ops[n+1]?=some gf:=by
       grind
      have Fs:d2<C.b5:=by
       have:=an gf (anq ▸ ajj Eu);simp  [pk]at this;grind
      rw[l_,l_]at hm;have cj:Region.wanted o (yielded ops a.tmps)=true:=by unfold Region.wanted;grind
      have dM:∀ a':Act,Region.wanted gf (yielded ops a'.tmps)=true:=λa'=>by unfold Region.wanted;grind
      have hi:∀ a':Act,Region.wanted mR (yielded ops a'.tmps)=true:=λa'=>by unfold Region.wanted;grind
      have:=am5 (Q:=Q)   be f1 f2 f3 f4 f5 f6 f7 f8 f9 f10 f11 f12 (bB d1 f2) Fs ih gL hm.1 hm.2.1
       λa' w' bE=>XH os.length (by grind) os rfl (n+3) [] _ a' w' ans (λp aq=>by grind) bE hm.2.2
      simp  [aLT,wpOpsIn,if_true];grind
     ·exact hm.1.elim
  split at hm
  ·exact hm.1.elim
  ·rename_i aA;have aHo:o.guard=none:=by
    cases h:o.guard with
    | none=>rfl
    | some p=>
     simp  [lP]at aA;grind
   rw[Pc gL aA];split at hm
   ·rename_i res ih;rw[zx λV=>(Pe zz   (λk ah=>by grind) V).run s.W res ih,zx λV=>(EP V).run s.W res ih]at hm;refine Oper.wpIn_mono (λa' w' bE=>aP (n+1) _ _ a' w' j8 (zz.ik (λi D=>?_) λd k _ ah=>by grind) bE hm.2.2) (BL be dk Jr ih a w kap F Q gL hm.1 hm.2.1);unfold aE.jZ;rw[aE.Fq D,aE.BO]
   ·split at hm
    ·rename_i cP q1;obtain⟨fW,lh,p4⟩:=Xz be dk dE bB q1;rw[zx λV=>p4 (WA V),hp]at hm;exact fW a w Q _ ⟨kap,F,gL⟩ hm.1 (hm.2.mono λy bh a' w' bE=>aP (n+1) _ _ a' w' j8 (λp aq=>by grind) bE bh)
    ·exact hm.1.elim
  ·rename_i g aA;have Js:∀ k,o.guard=some k->g=true->lP s.aD ops (some k)=some (some true):=λk ah aT=>by grind
   rw[Pc gL aA];split at hm
   ·rename_i cG c ant anu ih;split at hm
    ·rename_i iN gG xt;obtain⟨anv,anw⟩:=anh xt ih;rw[zx λV=>by
      simp  at V;exact λJt=>⟨(Pe zz (λk ah=>Js k ah Jt) V.1).run s.W _ ih,(EP V.2.1).run s.W _ ih,anl zz (λk ah=>Js k ah Jt) xt ih V.2.2⟩]at hm
     have Ft:r1 ops ((s.hS iN).set o.dst (.jU g (use gG).2)) (zh ops eQ o):=zz.ik (λi D=>by rw[aE.Fq D,aE.BO]) λd k an ah=>⟨g,(use gG).2,by rw[an,aE.Pf],by grind⟩
     cases g with
     | true=>
      obtain⟨E,M,ai⟩:=hm.1 rfl;refine Oper.wpIn_mono (λa' w' bE=>aP (n+1) _ _ a' w' j8 Ft (c7.OP   (anv a' w' bE) bB λkap F v ab=>⟨λ_=>qQ ab ai,λh=>(by grind)⟩) hm.2) (BL be dk Jr ih a w kap F Q gL E M)
     | false=>
      refine⟨λ_ _=>trivial,aP (n+1) _ _ _ w j8 Ft ?_ hm.2⟩;obtain⟨bX,F',anx⟩:=anw a w kap F gL;exact⟨bX,F',anx.set   bB ⟨λh=>(by grind),λ_=>rfl⟩⟩
    ·cases g with
     | true=>
      simp  at hm ⊢;rw[l_,l_]at hm;exact Oper.wpIn_mono (λa' w' bE=>aP (n+1) _ _ a' w' j8 (λp aq=>by grind) bE hm.2.2) (BL be dk Jr ih a w kap F Q gL hm.1 hm.2.1)
     | false=>
      exact⟨λ_ _=>trivial,aP (n+1) _ _ _ w j8 (λp aq=>by grind) ⟨kap,F,gL.set (av:=.jU false (WY anu (use ant).2)) bB ⟨λh=>(by grind),λ_=>rfl⟩⟩ hm⟩
   ·split at hm
    ·rename_i cP q1;obtain⟨fW,lh,p4⟩:=Xz be dk dE bB q1;split at hm
     ·rename_i gs qc;obtain⟨dh,ee⟩:=lh gs qc;rw[zx λV Jt=>p4 (XC zz (λk ah=>Js k ah Jt) V),hp]at hm;have Ft:∀ y,r1 ops (gs g y) (zh ops eQ o):=λy=>by
       obtain⟨v,ab⟩:=anm q1 qc g y;exact zz.ik (λi D=>by rw[ab,aE.Fq D]) λd k an ah=>⟨g,v,by rw[ab,an,aE.Pf],by grind⟩
      cases g with
      | true=>
       exact fW a w Q _ ⟨kap,F,gL⟩ (hm.1 rfl) (hm.2.mono λy bh a' w' bE=>aP (n+1) _ _ a' w' j8 (Ft y) (dh y a' w' bE) bh)
      | false=>
       exact⟨λ_ _=>trivial,aP (n+1) _ _ _ w j8 (Ft cP.d) (ee a w ⟨kap,F,gL⟩) (by
        have h:=hm.2;exact h.2 cP.d rfl)⟩
     ·cases g with
      | true=>
       simp  at hm ⊢;rw[l_,hp]at hm;exact fW a w Q _ ⟨kap,F,gL⟩ hm.1 (hm.2.mono λy bh a' w' bE=>aP (n+1) _ _ a' w' j8 (λp aq=>by grind) bE bh)
      | false=>
       exact⟨λ_ _=>trivial,aP (n+1) _ _ _ w j8 (λp aq=>by grind) ⟨kap,F,gL.set (av:=.jU false (use ((cP.ae cP.d).aD (o.dst.getD 0))).2) bB ⟨λh=>(by grind),λ_=>rfl⟩⟩ hm⟩
    ·exact hm.1.elim
end
end Go.Fer
namespace Go.Fer
open Go.RowKit
section
variable {C:cB} {T:Nat->aa} {bK:Nat->Option aF} {s:aE} {res:fb}
theorem anz{P:Program}:∀ (t:aa),t.nP=true->∀ {F F':Nat->Prop} {w w':World} {cs:List Value} {x:t.ak},cr P t F w cs x->cr P t F' w' cs x:=by
 intro t;induction t with
 | bool=>intro _ F F' w w' cs x h;exact h
 | int k=>intro _ F F' w w' cs x h;exact h
 | str=>intro _ F F' w w' cs x h;exact h
 | dp=>intro hc;cases hc
 | ae t aP=>intro hc F F' w w' cs x h;exact aP hc h
 | ar a b gD fy=>
  intro hc F F' w w' cs x h;simp  [aa.nP]at hc;simp  [cr]at h ⊢;grind
 | slice e aP=>intro hc;cases hc
 | array n e aP=>intro hc;cases hc
 | bV e aP=>intro hc;cases hc
 | map k v yK yL=>intro hc;cases hc
 | fn a b gD fy=>intro hc;cases hc
 | cO a aP=>intro hc;cases hc
 | e3=>intro hc;cases hc
theorem XK{P:Program}{t:aa}(h:t.nP=true){F F':Nat->Prop}{w w':World}{v:Value}{x:t.ak}(ab:e4 P t F w v x):e4 P t F' w' v x:=⟨ab.1,anz t h ab.2⟩
theorem Ju(a:Act){i j:Nat}(h:i≠j)(v u:Value):(a.put (some i) v).put (some j) u=(a.put (some j) u).put (some i) v:=by
 simp  [Act.put];rw[Array.setIfInBounds_comm _ _ h]
theorem Jv{P:Program}{ty mO BI:TypeId}(D:P.underlying ty=some (.map mO BI)){r:Nat}{ms:Array MapEntry}{clk:Nat}{w:World}(hw:w.heap[r]?=some (.map ms clk)){key u:Value}{f:Option (Nat×Value)}
  (eP:(Instr.checkKey ms.isEmpty 10000 mO key).run P w=.ok () w) (aw:(Instr.findKey mO key ms.toList).run P w=.ok f w) (hu:(∃ i,f=some (i,u))\/(f=none/\(zeroValue BI).run P w=.ok u w)) :
  (Instr.lookup ty (.map (some r)) key false).run P w=.ok u w:=by
 have fT:(getObj r).run P w=.ok (.map ms clk) w:=by simp[getObj,Sem.run,hw]
 rcases hu with⟨i,rfl⟩ | ⟨rfl,bD⟩
 ·simp only[Instr.lookup,Sem.run_bind,ej D,Result.andThen_ok,Sem.run_pure,fT,eP,aw];rfl
 ·simp only[Instr.lookup,Sem.run_bind,ej D,Result.andThen_ok,Sem.run_pure,fT,eP,aw,bD];rfl
theorem anA(be:eO C.P T){hL iV lo:Oper}{ty:TypeId}{m x y:Operand}(kF:hL.op=.lookup ty m x false)(mP:iV.op=.mapEntry ty m x)(jB:lo.op=.mapUpdate ty m x y){s2:aE}(vD:s2.W=s.W)
  (b_:bs C.a8 s2.aD m=bs C.a8 s.aD m) (Im:bs C.a8 s2.aD x=bs C.a8 s.aD x) (h:(cn C.a8 T bK (bs C.a8 s2.aD) lo).run s2.W=some res)
  {a:Act} {w:World} {kap:Nat->bP} {F:Nat->Prop} (U:bH C s a w kap F) (Ph:(use (bs C.a8 s.aD m)).1) (Pj:(use (bs C.a8 s.aD x)).1) :
  ∃ u n wE,∀ a':Act,a'.eval m=a.eval m->a'.eval x=a.eval x->
   (execOp a'.eval hL).run C.P w=.ok (.value u) w/\(execOp a'.eval hL).run C.P wE=.ok (.value u) wE/\(execOp a'.eval iV).run C.P w=.ok (.value (.tuple #[u,goInt n])) wE:=by
 simp only[cn,jB,tY,b_,Im,vD]at h;split at h
 ·rename_i k v aT;obtain⟨mO,BI,D,ll,jN⟩:=(be.cv aT (by simp)).mp;obtain⟨inf,nX,i1,i2,i3,i4,i5,i6⟩:=np jN.nn;split at h
  ·rename_i zw;split at h
   ·rename_i b g sZ;simp only[aM.fG,aji,aM.run_bind,aM.gV,aM.dC]at h;obtain⟨⟨eF,rI⟩,al,⟨ph,rJ⟩,bh,h⟩:=h;split at h
    ·rename_i aA;obtain⟨aA,_⟩:=aA;split at h
     ·rename_i k' kk es V;simp only[aKt]at h;obtain⟨Wi,qS,rfl⟩:=h;obtain⟨e,rfl⟩:=mb qS;cases e;have hm:bQ C.P s.W kap F w (use (bs C.a8 s.aD m)).2 (a.eval m):=df U m rfl Ph;rw[sZ]at hm;have lN:=hm.2 aA.symm (by rw[V];rfl);have fX:k.nP=true/\k.mH<=100:=by simpa [w6]using zw
      have vJ:=Em U al (df U x rfl Pj);have Jw:∀ (F':Nat->Prop) w',e4 C.P k F' w' (a.eval x) eF:=λF' w'=>XK fX.1 vJ;have bd:=U.bR b;unfold cX at bd;rw[V]at bd;obtain⟨ms,clk,hw,vK⟩:=bd;have eP:∀ em w',(Instr.checkKey em 10000 mO (a.eval x)).run C.P w'=.ok () w':=λem w'=>(EJ (em:=em) (F:=λ_=>True) k 10000 fX.1 (by omega)).1 ll (Jw _ w');have XL:=vK.es;have anB:∀ (j:Nat) (e:MapEntry) (p:k.ak×v.ak),ms.toList[j]?=some e->es[j]?=some p->∀ (F':Nat->Prop) w',e4 C.P k F' w' e.key p.1:=λj e p E M F' w'=>XK fX.1 (XL.2 j e p E M).1;obtain⟨f,dh,ee⟩:=y5 (F:=λ_=>True) (w:=w) (bet:=v.ak) (xs:=es) (es:=ms.toList) zw ll (Jw _ w) XL.1 (λj e p E M=>anB j e p E M _ w);have fT:(getObj (kap b).W).run C.P w=.ok (.map ms clk) w:=by simp[getObj,Sem.run,hw]
      obtain⟨iM,NQ,Iu,Wj⟩:=vK;have cF:(kap b).W<w.heap.size:=(Array.getElem?_eq_some_iff.1 hw).1;have bD:∀ w',(zeroValue BI).run C.P w'=.ok nX w':=λw'=>sR i1 i4;have q3:∀ (a':Act) (w':World) (u:Value),a'.eval m=a.eval m->a'.eval x=a.eval x->(Instr.lookup ty (.map (some (kap b).W)) (a.eval x) false).run C.P w'=.ok u w'->(execOp a'.eval hL).run C.P w'=.ok (.value u) w':=by
       intro a' w' u ax aU bE;simp only[execOp,kF,ax,aU,lN,Sem.run_bind,bE,Result.andThen_ok,Sem.run_pure]
      have anC:∀ q:k.ak,h3 k eF q=true<->eF=q:=λq=>NM k fX.1 eF q;rcases ee with⟨rfl,fc⟩ | ⟨j,e,p,g1,eB,g3,g4,rfl⟩
      ·let cj:World:={ w with heap:=w.heap.setIfInBounds (kap b).W (.map (ms.push { key:=a.eval x,val:=nX,born:=clk }) (clk+1)) }
       have nt:cj.heap[(kap b).W]?=some (.map (ms.push { key:=a.eval x,val:=nX,born:=clk }) (clk+1)):=by grind
       obtain⟨j1,b4,cL⟩:=y5 (F:=λ_=>True) (w:=cj) (bet:=v.ak) (xs:=es++[(eF,v.dK)]) (es:=(ms.push { key:=a.eval x,val:=nX,born:=clk }).toList) zw ll (Jw _ cj) (by grind) (λj e p E M=>by
        grind)
       have ur:∃ i,j1=some (i,nX):=by
        rcases cL with⟨_,e7⟩ | ⟨j,e,p,s1,s2,eR,mU,rfl⟩
        ·have:=e7 (eF,v.dK) (by simp);grind
        ·by_cases aI:j<es.length
         ·grind
         grind
       refine⟨nX,clk,cj,λa' ax aU=>⟨q3 a' w nX ax aU (Jv D hw (eP _ w) dh (.inr ⟨rfl,bD w⟩)),q3 a' cj nX ax aU (Jv D nt (eP _ cj) b4 (.inl ur)),?_⟩⟩;simp only[execOp,mP,ax,aU,lN,Instr.mapEntry,Sem.run_bind,ej D,Result.andThen_ok,fT,eP,dh,bD,uf hw,Sem.run_pure];rfl
      ·have aI:j<es.length:=(List.getElem?_eq_some_iff.1 eB).1;have OR:j<ms.size:=by omega
       have Wk:ms[j]=e:=by
        grind
       obtain⟨ln,cj,t1,t2,t3⟩:=NO C.P w e.key (a.eval x);have nt:cj.heap[(kap b).W]?=some (.map ms clk):=by rcases t3 with rfl | rfl<;>exact hw
       have Xx:(kap b).W<cj.heap.size:=(Array.getElem?_eq_some_iff.1 nt).1;have pf:((ms[j]?).map (·.key)).getD (a.eval x)=e.key:=by
        grind
       have Pa:((ms[j]?).map (λx=>(x.born:Int))).getD 0=(ms[j].born:Int):=by grind
       rw[Nat.zero_add]at dh;have ald:eF=p.1:=(anC p.1).1 g3;let dM:World:={ cj with heap:=cj.heap.setIfInBounds (kap b).W (.map (ms.modify j λe=>{ e with key:=ln }) clk) }
       have ft:dM.heap[(kap b).W]?=some (.map (ms.modify j λe=>{ e with key:=ln }) clk):=by grind
       have w8:∀ (F':Nat->Prop) w',e4 C.P k F' w' ln p.1:=λF' w'=>by
        grind
       have BG:∀ i,(ms.modify j λe=>{ e with key:=ln }).toList[i]?=if i=j then some { e with key:=ln } else ms.toList[i]?:=λi=>by
        grind
       obtain⟨j1,b4,cL⟩:=y5 (F:=λ_=>True) (w:=dM) (bet:=v.ak) (xs:=es) (es:=(ms.modify j λe=>{ e with key:=ln }).toList) zw ll (Jw _ dM) (by grind) (λi bt p' E M=>by
        rw[BG]at E;grind)
       have ur:∃ i,j1=some (i,e.val):=by
        rcases cL with⟨_,e7⟩ | ⟨i,bt,p',s1,s2,eR,mU,rfl⟩
        ·have:=e7 p (aLb eB);rw[g3]at this;cases this
        ·have EK:i=j:=by
          rcases Nat.lt_trichotomy i j with h | h | h
          ·have:=g4 i p' h s2;rw[eR]at this;cases this
          ·exact h
          ·have:=mU j p h eB;rw[g3]at this;cases this
         subst EK;rw[BG,if_pos rfl]at s1;cases s1;exact⟨_,rfl⟩
       refine⟨e.val,ms[j].born,dM,λa' ax aU=>⟨q3 a' w e.val ax aU (Jv D hw (eP _ w) dh (.inl ⟨_,rfl⟩)),q3 a' dM e.val ax aU (Jv D ft (eP _ dM) b4 (.inl ur)),?_⟩⟩;simp only[execOp,mP,ax,aU,lN,Instr.mapEntry,Sem.run_bind,ej D,Result.andThen_ok,fT,eP,dh];rw[pf,t1];simp only[Result.andThen_ok,uf nt,Sem.run_pure,Pa];rfl
     grind
    grind
   ·cases h
  ·cases h
 ·cases h
end
end Go.Fer
namespace Go.Fer
open Go.RowKit
section
variable {C:cB} {T:Nat->aa} {bK:Nat->Option aF} {Psi:Nat->Option gJ} {s:aE} {o:Oper} {Q:Exit->Act->World->Prop} {ops:Array Oper}
theorem anD{ag:Type}{m:G ag}(h:m.E1){d x:ag}(al:m.bo x):x=m.val d:=by
 unfold G.val;have he:∃ x,m.bo x:=⟨x,al⟩
 rw[dif_pos he];exact h _ _ al he.choose_spec
theorem XM(dk:lM C.P bK)(dE:oA C.P C.a8 Psi):lM C.P (IU bK Psi):=by
 intro k c h;unfold IU at h;split at h
 ·rename_i dU Pb;split at h
  ·rename_i an;cases h;simp only[ajm,aKj]at an;have h:=dE k _ Pb;obtain⟨E,M⟩:je C.P k dU.ts dU.tr dU.sh/\(dU.IQ=true->∀ x,(dU.sh x).E1):=h;exact⟨λ_=>E.Bn λx az=>⟨az,λy bh=>anD (M an.1 x) bh⟩,λhe=>by rw[show pa dU.IS.tr=pa dU.tr from rfl,an.2]at he;cases he⟩
  grind
 ·rename_i me hc;cases h;have h:pa c.tr=true/\EF C.P k c:=dE k _ hc;exact⟨λhe=>(by rw[h.1]at he;cases he),λ_=>h.2⟩
 ·cases h
 ·exact dk k c h
theorem XN{bet:Type}{m:G bet}{O:bet->Prop}:∀ (l:List Prop),dj (BW l m) O->(∀ p∈l,p)/\dj m O:=by
 intro l;induction l with
 | nil=>intro h;exact⟨λp aq=>(by grind),h⟩
 | cons p l aP=>
  intro h;simp  [BW]at h;rw[l_]at h;grind
theorem XO{dh ee:Bool}{cG c:Prop}(E:dh=true->cG)(M:ee=true->c)(h:∀ p∈ES dh ee cG c,p):cG/\c:=by
 unfold ES at h;constructor
 ·cases dh<;>simp_all
 ·cases ee<;>simp_all
theorem anE(be:eO C.P T)(dk:lM C.P bK)(an:pk o C.b5=true){r:fk}(h:xl C.a8 T bK ops s o=some r)(hc:∀ p∈r.cs,p){a:Act}{w:World}(U:c7 C s a w){K:Act->World->Prop}
  (lp:∀ a' w',c7 C (r.jO s) a' w'->K a' w') :
  if Region.wanted o (yielded ops a.tmps) then o.wpIn (e0 C.r) 0 C.P a w K Q else (∀ f,o.about C.P w a.eval=some f->(e0 C.r).fn f)/\K (a.put o.dst undef) w:=by
 have bB:∀ i,o.dst=some i->i<C.b5:=λi D=>by
  have:=an;simp  [pk]at this;grind
 obtain⟨kap,F,gL⟩:=U;unfold xl at h;split at h
 ·grind
 ·rename_i g aA;rw[Pc gL aA];split at h
  ·grind
  ·rename_i res ih;split at h
   ·cases h;obtain⟨E,M⟩:=XO (λV=>(WC V).run s.W res ih) (λV=>(EP V).run s.W res ih) hc;exact Oper.wpIn_mono lp (BL be dk an ih a w kap F Q gL E M)
   ·rename_i b;split at h
    ·rename_i xt;cases h;have hc:∀ p∈ES (vM (bs C.a8 s.aD) o&&(qT (bs C.a8 s.aD) o&&!res.gG.BM)) true (b=true->res.cG/\(res.c/\(use res.gG).1)) True,p:=hc;obtain⟨E,_⟩:=XO (λV=>by
      simp  at V;exact λ_=>⟨(WC V.1).run s.W _ ih,(EP V.2.1).run s.W _ ih,Iz V.2.2⟩) (λ_=>trivial) hc
     obtain⟨cG,c,gG,iN⟩:=res;subst xt;cases b with
     | true=>
      obtain⟨E,M,ai⟩:=E rfl;refine Oper.wpIn_mono (λa' w' bE=>lp a' w' ?_) (BL be dk an ih a w kap F Q gL E M);exact c7.OP   bE bB λkap F v ab=>⟨λ_=>qQ ab ai,λh=>(by grind)⟩
     | false=>
      exact⟨λ_ _=>trivial,lp _ _ ⟨kap,F,gL.set   bB ⟨λh=>(by grind),λ_=>rfl⟩⟩⟩
    grind
theorem XP(cl:List (List Nat)):∀ n,BX cl n<=n/\∀ j,BX cl n<=j->j<n->∀ i,i<j->i∈cl.getD j []
 | 0=>⟨ajn _,λj _ h=>by omega⟩
 | n+1=>by
  unfold BX;split
  ·obtain⟨E,M⟩:=XP cl n;refine⟨by omega,λj aI Jx i D=>?_⟩;by_cases e:j=n
   ·simp_all
   grind
  grind
theorem anF{n:Nat}(v8:EV ops.toList=true)(Pk:∀ j,n<=j->j<ops.size->∀ i,i<j->i∈(kE ops.toList).getD j []):∀ (k j de:Nat) (listed:Array Bool) (a:Act) (w:World),n<=j->j+k=ops.size->listed.size=ops.size->
  (∀ i,listed.getD i false=decide (i<j))->k<=de->wpOpsIn (e0 C.r) 0 C.P ops Q (List.range' j k) a w->wpAnyIn (e0 C.r) 0 C.P .any ops Q de listed a w:=by
 intro k;induction k with
 | zero=>
  intro j de listed a w anG anH cY af aw h;have U:∀ i,i ∉ Region.ready .any ops listed:=λi D=>by
   rw[mem_ready]at D;grind
  have dN:=List.eq_nil_iff_forall_not_mem.2 U;cases de with
  | zero=>exact⟨dN,h⟩
  | succ de=>exact⟨λ_=>h,λi D=>absurd D (U i)⟩
 | succ k aP=>
  intro j de listed a w anG anH cY af aw h;have aI:j<ops.size:=by omega
  cases de with
  | zero=>omega
  | succ de=>
   have zA:∀ q o,ops[q]?=some o->listed.getD q false=true->∀ i∈mi o,listed.getD i false=true:=λq o au bM i D=>by
    have:=List.all_eq_true.1 v8 q (by grind);grind
   have anI:∀ i,i∈Region.ready .any ops listed<->i=j:=λi=>by
    constructor
    ·intro D;rw[mem_ready]at D;obtain⟨aZ,o,au,Pl⟩:=D;by_cases e:i=j
     ·omega
     ·have B8:∀ k∈mi o,listed.getD k false=true:=by
       intro k ah;obtain⟨e,he,zB⟩:=List.mem_filterMap.1 ah;grind
      have Jy:∀ k∈(kE ops.toList).getD i [],listed.getD k false=true\/k=i:=by
       intro k ah;refine EY (p:=λj=>listed.getD j false=true\/j=i) ops.toList [] (λj i D=>by grind) (λj mf p8 k ah aI=>?_) i k ah (.inr rfl);grind
      grind
    ·rintro rfl;rw[mem_ready];refine⟨?_,ops[i],by simp,λe he V=>?_⟩
     ·grind
     ·have aQ:e.on∈mi ops[i]:=List.mem_filterMap.2 ⟨e,by grind,by grind⟩;have:=List.all_eq_true.1 v8 i (by grind);grind
   refine⟨λU=>?_,λi D=>?_⟩
   ·simp_all
   ·obtain rfl:=(anI i).1 D;have fT:ops[i]?=some ops[i]:=by simp
    rw[aLT]at h;simp  [wpOpsIn,fT]at h;have next:∀ a w,wpOpsIn (e0 C.r) 0 C.P ops Q (List.range' (i+1) k) a w->wpAnyIn (e0 C.r) 0 C.P .any ops Q de (listed.setIfInBounds i true) a w:=λa w dt=>by
     refine aP (i+1) de _ a w (by omega) (by omega) (by grind) (λq=>?_) (by omega) dt;by_cases e:q=i
     ·simp_all
     ·rw[getD_set_ne false (Ne.symm e),af,decide_eq_decide];omega
    unfold wpOpIn;rw[fT];simp;split
    ·rename_i hw;rw[if_pos hw]at h;exact Oper.wpIn_mono next h
    grind
def Jz(n:Nat)(l b e x:Bool)(listed:Array Bool):Prop:=∀ i,listed.getD i false=(decide (i<n)||(l&&decide (i=n))||(b&&decide (i=n+1))||(e&&decide (i=n+2))||(x&&decide (i=n+3)))
def nZ(a:Act)(eU gK d1 d2:Nat)(u vB vE vX:Value)(l b e x:Bool):Act:=
 let cd:=if l=true then a.put (some eU) u else a
 let a2:=if b=true then cd.put (some gK) vB else cd
 let a3:=if e=true then a2.put (some d1) vE else a2
 if x=true then a3.put (some d2) vX else a3
theorem anJ(a:Act)(d:Option Nat)(v:Value):(a.put d v).tmps.size=a.tmps.size:=by cases d<;>simp[Act.put]
theorem anK(a:Act)(eU gK d1 d2:Nat)(u vB vE vX:Value)(l b e x:Bool):(nZ a eU gK d1 d2 u vB vE vX l b e x).tmps.size=a.tmps.size:=by
 unfold nZ;cases l<;>cases b<;>cases e<;>cases x<;>simp[anJ]
theorem XQ{a:Act}{eU gK d1 d2:Nat}{u vB vE vX:Value}{l b e x:Bool}{y:Operand}(E:y≠.tmp eU)(M:y≠.tmp gK)(ai:y≠.tmp d1)(bf:y≠.tmp d2):(nZ a eU gK d1 d2 u vB vE vX l b e x).eval y=a.eval y:=by
 unfold nZ;cases l<;>cases b<;>cases e<;>cases x<;>simp[B7,E,M,ai,bf]
theorem Fu{o:Oper}{a:Act}{w w':World}{K:Act->World->Prop}{v:Value}(an:∀ c,o.op≠.defer c)(h:(execOp a.eval o).run C.P w=.ok (.value v) w')(ah:o.wpIn (e0 C.r) 0 C.P a w K Q):K (a.put o.dst v) w':=by
 have:=ah.2;rw[Bv an,h]at this;exact this
theorem anL{n:Nat}(XR:ops.size=n+5)(v8:EV ops.toList=true){hL jP iV j4 nw:Oper}(zC:ops[n]?=some hL)(zD:ops[n+1]?=some jP)(B9:ops[n+2]?=some iV)(Fv:ops[n+3]?=some j4)(Fw:ops[n+4]?=some nw)
  (Fx:hL.guard=none) (Fy:jP.guard=none) (JA:iV.guard=none) (JB:j4.guard=none) (JC:nw.guard=none) (Fz:∀ c,hL.op≠.defer c) (JD:∀ c,jP.op≠.defer c) (JE:∀ c,iV.op≠.defer c) (JF:∀ c,j4.op≠.defer c)
  (iR:∀ q,q<5->∀ i,i<n->i∈(kE ops.toList).getD (n+q) []) (Pm:n∈(kE ops.toList).getD (n+1) []) (XS:n+2∈(kE ops.toList).getD (n+3) []) (B_:∀ q,q<4->n+q∈(kE ops.toList).getD (n+4) [])
  (XT:∀ i∈mi iV,i<n) (XU:∀ i∈mi j4,i<n\/i=n+2)
  {eU gK d1 d2:Nat} (uu:hL.dst=some eU) (dm:jP.dst=some gK) (FA:iV.dst=some d1) (JG:j4.dst=some d2) (_n1:eU≠gK) (dW:eU≠d1) (jM:eU≠d2) (n4:gK≠d1) (FB:gK≠d2)
  {a:Act} {w wE:World} {u vB vE vX:Value}
  (XV:∀ b e x,(execOp (nZ a eU gK d1 d2 u vB vE vX false b e x).eval hL).run C.P (if e=true then wE else w)=.ok (.value u) (if e=true then wE else w))
  (XW:∀ e x,(execOp (nZ a eU gK d1 d2 u vB vE vX true false e x).eval jP).run C.P (if e=true then wE else w)=.ok (.value vB) (if e=true then wE else w))
  (XX:∀ l b x,(execOp (nZ a eU gK d1 d2 u vB vE vX l b false x).eval iV).run C.P w=.ok (.value vE) wE)
  (XY:∀ l b,(execOp (nZ a eU gK d1 d2 u vB vE vX l b true false).eval j4).run C.P wE=.ok (.value vX) wE)
  (h:wpOpsIn (e0 C.r) 0 C.P ops Q (List.range' n 5) a w):∀ (de:Nat) (listed:Array Bool),listed.size=ops.size->(∀ i,listed.getD i false=decide (i<n))->5<=de->wpAnyIn (e0 C.r) 0 C.P .any ops Q de listed a w:=by
 let aN:=nZ a eU gK d1 d2 u vB vE vX;let aj:=λe:Bool=>if e=true then wE else w
 have wt:∀ {o:Oper},o.guard=none->∀ a':Act,Region.wanted o (yielded ops a'.tmps)=true:=λh a'=>by unfold Region.wanted;rw[h]
 have JH:nw.wpIn (e0 C.r) 0 C.P (aN true true true true) wE (λa' w'=>Q .normal a' w') Q:=by
  have fR:List.range' n 5=[n,n+1,n+2,n+3,n+4]:=rfl;rw[fR]at h;simp only[wpOpsIn,zC,zD,B9,Fv,Fw,wt Fx,wt Fy,wt JA,wt JB,wt JC,if_true]at h;have E:=Fu (a:=aN false false false false) (w:=w) Fz (XV false false false) h;rw[uu]at E;have M:=Fu (a:=aN true false false false) (w:=w) JD (XW false false) E;rw[dm]at M;have ai:=Fu (a:=aN true true false false) (w:=w) JE (XX true true false) M;rw[FA]at ai;have bf:=Fu (a:=aN true true true false) (w:=wE) JF (XY true true) ai;rw[JG]at bf;exact bf
 have anM:∀ {l b e x:Bool} {listed:Array Bool},Jz n l b e x listed->(b=true->l=true)->(x=true->e=true)->∀ q o,ops[q]?=some o->listed.getD q false=true->∀ i∈mi o,listed.getD i false=true:=by
  intro l b e x listed bF V al q o au bM i D;have anN:q<ops.size:=(Array.getElem?_eq_some_iff.1 au).1;have aHp:i<q:=by
   have:=List.all_eq_true.1 v8 q (by grind);grind
  rw[bF]at bM ⊢;grind
 have aHq:∀ {listed:Array Bool} {i:Nat},listed.size=ops.size->i<ops.size->(listed[i]?.getD true=false<->listed.getD i false=false):=by
  intro listed i cY D;rw[aKb,Array.getElem?_eq_getElem (by omega)];rfl
 have anO:∀ {l b e x:Bool} {listed:Array Bool},Jz n l b e x listed->(b=true->l=true)->(x=true->e=true)->listed.size=ops.size->∀ i∈Region.ready .any ops listed,(i=n/\l=false)\/(i=n+1/\l=true/\b=false)\/(i=n+2/\e=false)\/(i=n+3/\e=true/\x=false)\/(i=n+4/\l=true/\b=true/\e=true/\x=true):=by
  intro l b e x listed bF V al cY i D;have zA:=anM bF V al;rw[mem_ready]at D;obtain⟨aZ,o,au,Pl⟩:=D;have aQ:i<ops.size:=(Array.getElem?_eq_some_iff.1 au).1;have aZ:listed.getD i false=false:=by
   grind
  have B8:∀ k∈mi o,listed.getD k false=true:=by
   intro k ah;obtain⟨e,he,zB⟩:=List.mem_filterMap.1 ah;split at zB
   ·rename_i V;cases zB;grind
   grind
  have Jy:∀ k∈(kE ops.toList).getD i [],listed.getD k false=true\/k=i:=by
   intro k ah;refine EY (p:=λj=>listed.getD j false=true\/j=i) ops.toList [] (λj i D=>by simp at D) (λj mf p8 k ah aI=>?_) i k ah (.inr rfl);have te:ops[j]?=some mf:=by grind
   rcases (by simpa using aI:listed.getD j false=true\/j=i) with aI | aI
   ·exact .inl (zA j mf te aI k ah)
   ·subst aI;rw[au]at te;cases te;exact .inl (B8 k ah)
  rw[bF]at aZ;simp only[aKS,Bool.and_eq_false_iff,aKB]at aZ;obtain⟨⟨⟨⟨kG,aY⟩,a_⟩,b7⟩,hg⟩:=aZ;have aL:n<=i:=by omega
  have anP:i=n\/i=n+1\/i=n+2\/i=n+3\/i=n+4:=by omega
  have flag:∀ q,q<4->n+q∈(kE ops.toList).getD i []->n+q≠i->(if q=0 then l else if q=1 then b else if q=2 then e else x)=true:=by
   intro q bM hm fc;rcases Jy _ hm with h | h
   ·rw[bF]at h;simp only[aKm,ajm,ajl]at h;rcases h with (((h | ⟨E,h⟩) | ⟨E,h⟩) | ⟨E,h⟩) | ⟨E,h⟩
    ·omega
    ·grind
    ·have:q=1:=by omega
     subst this;exact E
    ·have:q=2:=by omega
     subst this;exact E
    ·have:q=3:=by omega
     subst this;exact E
   omega
  rcases anP with rfl | rfl | rfl | rfl | rfl
  ·grind
  ·exact .inr (.inl ⟨rfl,flag 0 (by omega) Pm (by omega),by grind⟩)
  ·grind
  ·grind
  ·exact .inr (.inr (.inr (.inr ⟨rfl,flag 0 (by omega) (B_ 0 (by omega)) (by omega),flag 1 (by omega) (B_ 1 (by omega)) (by omega),flag 2 (by omega) (B_ 2 (by omega)) (by omega),flag 3 (by omega) (B_ 3 (by omega)) (by omega)⟩)))
 have anQ:∀ {l b e x:Bool} {listed:Array Bool},Jz n l b e x listed->(b=true->l=true)->(x=true->e=true)->listed.size=ops.size->Region.ready .any ops listed≠[]:=by
  intro l b e x listed bF V al cY xd;have mk:∀ i o,ops[i]?=some o->listed.getD i false=false->(∀ k∈mi o,listed.getD k false=true)->False:=by
   intro i o au aZ an;have aQ:i<ops.size:=(Array.getElem?_eq_some_iff.1 au).1;have:i∈Region.ready .any ops listed:=by
    rw[mem_ready];refine⟨?_,o,au,λe he V=>an e.on (List.mem_filterMap.2 ⟨e,by grind,by grind⟩)⟩;grind
   grind
  have lt:∀ q o,ops[q]?=some o->∀ i∈mi o,i<q:=by
   intro q o au i D;have anN:q<ops.size:=(Array.getElem?_eq_some_iff.1 au).1;have:=List.all_eq_true.1 v8 q (by grind);rw[show ops.toList[q]?=some o by grind]at this;have:=List.all_eq_true.1 this i D;grind
  cases l with
  | false=>
   have rQ:b=false:=by grind
   subst rQ;exact mk n hL zC (by rw[bF];simp) λk ah=>by rw[bF];grind
  | true=>
   cases b with
   | false=>exact mk (n+1) jP zD (by rw[bF];simp) λk ah=>by rw[bF];grind
   | true=>
    cases e with
    | false=>
     have Pn:x=false:=by grind
     subst Pn;exact mk (n+2) iV B9 (by rw[bF];simp) λk ah=>by rw[bF];grind
    | true=>
     cases x with
     | false=>exact mk (n+3) j4 Fv (by rw[bF];simp) λk ah=>by rw[bF];grind
     | true=>exact mk (n+4) nw Fw (by rw[bF];simp) λk ah=>by rw[bF];grind
 have FC:∀ {listed:Array Bool} (i:Nat),listed.size=ops.size->i<ops.size->∀ q,(listed.setIfInBounds i true).getD q false=(listed.getD q false||decide (q=i)):=by
  intro listed i cY D q;by_cases e:q=i
  ·grind
  grind
 let cC:=λ(l b e x:Bool)=>∀ (de:Nat) (listed:Array Bool),Jz n l b e x listed->listed.size=ops.size->5<=de+(l.toNat+b.toNat+e.toNat+x.toNat)->wpAnyIn (e0 C.r) 0 C.P .any ops Q de listed (aN l b e x) (aj e);have step:∀ l b e x,(b=true->l=true)->(x=true->e=true)->(l=false->cC true b e x)->(l=true->b=false->cC l true e x)->(e=false->cC l b true x)->(e=true->x=false->cC l b e true)->cC l b e x:=by
  intro l b e x V al s1 s2 eR mU de listed bF cY v7;have aHr:l.toNat<=1/\b.toNat<=1/\e.toNat<=1/\x.toNat<=1:=⟨Bool.toNat_le l,Bool.toNat_le b,Bool.toNat_le e,Bool.toNat_le x⟩
  cases de with
  | zero=>omega
  | succ de=>
   refine⟨λU=>absurd U (anQ bF V al cY),λi D=>?_⟩;rcases anO bF V al cY i D with⟨rfl,E⟩ | ⟨rfl,E,M⟩ | ⟨rfl,E⟩ | ⟨rfl,E,M⟩ | ⟨rfl,E,M,ai,bf⟩
   ·subst E;have rQ:b=false:=by grind
    subst rQ;unfold wpOpIn;simp only[zC,wt Fx,if_true];refine iw Fz (XV false e x) ?_;rw[uu];have Eg:(aN false false e x).put (some eU) u=aN true false e x:=by
     simp only[aN,nZ];cases e<;>cases x<;>simp[Ju _ dW.symm,Ju _ jM.symm]
    show wpAnyIn _ _ _ _ _ _ _ _ ((aN false false e x).put (some eU) u) (aj e);rw[Eg];refine s1 rfl de _ (λq=>?_) (by grind) (by grind);rw[FC i cY (by omega),bF];by_cases bM:q=i<;>simp[bM]
   ·subst E;subst M;unfold wpOpIn;simp only[zD,wt Fy,if_true];refine iw JD (XW e x) ?_;rw[dm];have Eg:(aN true false e x).put (some gK) vB=aN true true e x:=by
     simp only[aN,nZ];cases e<;>cases x<;>simp[Ju _ n4.symm,Ju _ FB.symm]
    show wpAnyIn _ _ _ _ _ _ _ _ ((aN true false e x).put (some gK) vB) (aj e);rw[Eg];refine s2 rfl rfl de _ (λq=>?_) (by grind) (by grind);rw[FC (n+1) cY (by omega),bF];by_cases bM:q=n+1<;>simp[bM]
   ·subst E;have Pn:x=false:=by grind
    subst Pn;unfold wpOpIn;simp only[B9,wt JA,if_true];refine iw JE (XX l b false) ?_;rw[FA];show wpAnyIn _ _ _ _ _ _ _ _ (aN l b true false) (aj true);refine eR rfl de _ (λq=>?_) (by grind) (by grind);rw[FC (n+2) cY (by omega),bF];simp
   ·subst E;subst M;unfold wpOpIn;simp only[Fv,wt JB,if_true];refine iw JF (XY l b) ?_;rw[JG];show wpAnyIn _ _ _ _ _ _ _ _ (aN l b true true) (aj true);refine mU rfl rfl de _ (λq=>?_) (by grind) (by grind);rw[FC (n+3) cY (by omega),bF];simp
   ·subst E;subst M;subst ai;subst bf;unfold wpOpIn;simp only[Fw,wt JC,if_true];refine Oper.wpIn_mono (λa' w' bM=>?_) JH;have gl:∀ i,(listed.setIfInBounds (n+4) true).getD i false=decide (i<n+5):=λi=>by
     rw[FC (n+4) cY (by omega),bF,aKW];simp only[aKm,ajm,ajl,aK0];omega
    have U:∀ i,i ∉ Region.ready .any ops (listed.setIfInBounds (n+4) true):=λi D=>by
     rw[mem_ready]at D;obtain⟨aZ,o,au,_⟩:=D;grind
    have dN:Region.ready .any ops (listed.setIfInBounds (n+4) true)=[]:=List.eq_nil_iff_forall_not_mem.2 U;cases de with
    | zero=>exact⟨dN,bM⟩
    | succ de=>exact⟨λ_=>bM,λi D=>absurd D (U i)⟩
 have f:∀ {p:Prop},(true:Bool)=false->p:=λh=>by cases h
 have j1:∀ {p:Prop},(false:Bool)=true->p:=λh=>by cases h
 have XZ:cC true true true true:=step _ _ _ _ (λ_=>rfl) (λ_=>rfl) f (λ_=>f) f (λ_=>f);have X0:cC true true true false:=step _ _ _ _ (λ_=>rfl) (λ_=>rfl) f (λ_=>f) f (λ_ _=>XZ);have anR:cC true true false false:=step _ _ _ _ (λ_=>rfl) j1 f (λ_=>f) (λ_=>X0) j1;have X1:cC true false true true:=step _ _ _ _ (λ_=>rfl) (λ_=>rfl) f (λ_ _=>XZ) f (λ_=>f);have X2:cC true false true false:=step _ _ _ _ (λ_=>rfl) (λ_=>rfl) f (λ_ _=>X0) f (λ_ _=>X1);have anS:cC true false false false:=step _ _ _ _ (λ_=>rfl) j1 f (λ_ _=>anR) (λ_=>X2) j1;have anT:cC false false true true:=step _ _ _ _ j1 (λ_=>rfl) (λ_=>X1) j1 f (λ_=>f);have anU:cC false false true false:=step _ _ _ _ j1 (λ_=>rfl) (λ_=>X2) j1 f (λ_ _=>anT);have anV:cC false false false false:=step _ _ _ _ j1 j1 (λ_=>anS) j1 (λ_=>anU) j1;intro de listed cY af v7;exact anV de listed (λi=>by grind) cY (by omega)
theorem anW{n:Nat}(aC:n<=ops.size)(be:eO C.P T)(dk:lM C.P bK)(an:∀ o∈ops.toList,pk o C.b5=true){l:List fk}{s':aE}(az:y9 C.a8 T bK ops (ops.toList.take n) s=some (l,s'))(cJ:EW (ops.toList.take n) l=true)(Pk:∀ j,n<=j->j<ops.size->∀ i,i<n->i∈(kE ops.toList).getD j [])
  (hc:∀ r∈l,∀ p∈r.cs,p) (v_:∀ (de:Nat) (listed:Array Bool) a' w',listed.size=ops.size->(∀ i,listed.getD i false=decide (i<n))->ops.size - n<=de->c7 C s' a' w'->wpAnyIn (e0 C.r) 0 C.P .any ops Q de listed a' w'):∀ (de:Nat) (listed:Array Bool) (a:Act) (w:World),listed.size=ops.size->
   (∀ j o,ops[j]?=some o->listed.getD j false=true->∀ i∈mi o,listed.getD i false=true)->(∀ i,n<=i->listed.getD i false=false)->((List.range ops.size).filter λj=>!listed.getD j false).length<=de->
   c7 C (ow l s λj=>listed.getD j false) a w->wpAnyIn (e0 C.r) 0 C.P .any ops Q de listed a w:=by
 obtain⟨hlen,w_,FD⟩:=al2 _ _ az;have Jq:(ops.toList.take n).length=n:=by grind
 have kF:∀ i,i<n->(ops.toList.take n)[i]?=ops[i]?:=λi D=>by
  grind
 simp only[EW,ajm]at cJ;obtain⟨v8,anX⟩:=cJ;have aHs:∀ j o,j<n->ops[j]?=some o->∀ i∈mi o,i<j:=by
  intro j o Jx au i D;have:=List.all_eq_true.1 v8 j (by grind);grind
 have aHt:∀ i j x y,i<j->l[i]?=some x->l[j]?=some y->((kE (ops.toList.take n)).getD j []).contains i=true\/x.apart y=true:=by
  intro i j x y EK D aI;have FE:j<l.length:=(List.getElem?_eq_some_iff.1 aI).1;have:=List.all_eq_true.1 anX j (by grind);grind
 intro de;induction de with
 | zero=>
  intro listed a w cY _ oB anY ot;have gl:∀ i,listed.getD i false=decide (i<n):=λi=>by
   by_cases D:i<n
   ·cases af:listed.getD i false with
    | true=>grind
    | false=>
     exfalso;have:i∈(List.range ops.size).filter λj=>!listed.getD j false:=by
      grind
     grind
   grind
  refine v_ 0 listed a w cY gl ?_ ?_
  ·by_cases cF:n<ops.size
   ·have:n∈(List.range ops.size).filter λj=>!listed.getD j false:=by
     grind
    grind
   ·omega
  ·have:ow l s (λj=>listed.getD j false)=s':=by
    rw[w_];unfold ow;rw[List.filter_eq_self.2 λp aq=>?_,IG];obtain⟨_,M⟩:=EX aq;grind
   grind
 | succ de aP=>
  intro listed a w cY zA oB anY ot;by_cases Po:∀ i,i<n->listed.getD i false=true
  ·have gl:∀ i,listed.getD i false=decide (i<n):=λi=>by
    grind
   refine v_ (de+1) listed a w cY gl ?_ ?_
   ·have E:(List.range' n (ops.size - n)).length<=((List.range ops.size).filter λj=>!listed.getD j false).length:=by
     have e:(List.range ops.size).filter (λj=>!listed.getD j false)=List.range' n (ops.size - n):=by
      have M:(List.range ops.size).filter (λj=>!listed.getD j false)=(List.range ops.size).filter λj=>decide (n<=j):=aLe λj _=>by
       grind
      rw[M];have ai:List.range ops.size=List.range n++List.range' n (ops.size - n):=by
       rw[aLa,aLa];have:=(List.range'_append (s:=0) (m:=n) (n:=ops.size - n) (step:=1))
       grind
      rw[ai,aKX,List.filter_eq_nil_iff.2 λj aI=>by grind,List.filter_eq_self.2 λj aI=>by grind];rfl
     grind
    grind
   ·have:ow l s (λj=>listed.getD j false)=s':=by
     rw[w_];unfold ow;rw[List.filter_eq_self.2 λp aq=>?_,IG];obtain⟨_,M⟩:=EX aq;grind
    grind
  ·refine⟨λU=>absurd ?_ Po,λi D=>?_⟩
   ·intro j;induction j using Nat.strongRecOn with
    | _ j aHu=>
     intro aI;cases af:listed.getD j false with
     | true=>rfl
     | false=>
      exfalso;have lq:j∈Region.ready .any ops listed:=by
       rw[mem_ready];refine⟨?_,ops[j],by simp,λe he V=>?_⟩
       ·grind
       ·have aQ:e.on∈mi ops[j]:=List.mem_filterMap.2 ⟨e,by grind,by grind⟩;grind
      grind
   ·rw[mem_ready]at D;obtain⟨aZ,o,au,Pl⟩:=D;have aQ:i<ops.size:=(Array.getElem?_eq_some_iff.1 au).1;have anZ:listed.getD i false=false:=by
     grind
    have lq:o∈ops.toList:=by
     grind
    have B8:∀ k∈mi o,listed.getD k false=true:=by
     intro k ah;obtain⟨e,he,zB⟩:=List.mem_filterMap.1 ah;split at zB
     ·rename_i V;cases zB;exact Pl e (by simpa using he) V
     ·cases zB
    have D:i<n:=by
     by_cases D:i<n
     ·exact D
     ·exfalso;have Jy:∀ k∈(kE ops.toList).getD i [],listed.getD k false=true\/k=i:=by
       intro k ah;refine EY (p:=λj=>listed.getD j false=true\/j=i) ops.toList [] (λj i D=>by simp at D) (λj mf p8 k ah aI=>?_) i k ah (.inr rfl);have te:ops[j]?=some mf:=by grind
       rcases (by simpa using aI:listed.getD j false=true\/j=i) with aI | aI
       ·exact .inl (zA j mf te aI k ah)
       ·subst aI;rw[au]at te;cases te;exact .inl (B8 k ah)
      grind
    obtain⟨r,U,h5⟩:=FD i o (by grind);have aHv:∀ j k,k∈(kE (ops.toList.take n)).getD j []->listed.getD j false=true->listed.getD k false=true:=by
     refine EY (p:=λj=>listed.getD j false=true) (ops.toList.take n) [] (λj i D=>by simp at D) λj mf p8 k ah aI=>?_;have Jx:j<n:=by grind
     exact zA j mf (by grind) (by simpa using aI) k ah
    have Jy:∀ k∈(kE (ops.toList.take n)).getD i [],listed.getD k false=true\/k=i:=by
     intro k ah;refine EY (p:=λj=>listed.getD j false=true\/j=i) (ops.toList.take n) [] (λj i D=>by simp at D) (λj mf p8 k ah aI=>?_) i k ah (.inr rfl);have Jx:j<n:=by grind
     have te:ops[j]?=some mf:=by grind
     rcases (by simpa using aI:listed.getD j false=true\/j=i) with aI | aI
     ·exact .inl (zA j mf te aI k ah)
     ·subst aI;rw[au]at te;cases te;exact .inl (B8 k ah)
    have iR:∀ j x,j<i->l[j]?=some x->listed.getD j false=false->x.apart r=true:=by
     grind
    have zb:∀ j x,i<j->l[j]?=some x->listed.getD j false=true->r.apart x=true:=by
     grind
    obtain⟨aY,a_,b7⟩:=alZ (s:=s) (f:=λj=>listed.getD j false) U anZ iR zb;have an0:=al3 h5 aY a_;unfold wpOpIn;rw[au];refine anE be dk (an o lq) an0 (hc r (aLb U)) ot λa' w' bE=>?_;have fT:∀ j,(listed.setIfInBounds i true).getD j false=if j=i then true else listed.getD j false:=by
     intro j;by_cases e:j=i
     ·subst e;rw[if_pos rfl,aKb,Array.getElem?_setIfInBounds_self_of_lt (by omega)];rfl
     ·rw[if_neg e,getD_set_ne false (Ne.symm e)]
    refine aP _ a' w' (by grind) (λj mf p8 aI k ah=>?_) (λq bM=>by rw[fT,if_neg (by omega)];grind) ?_ ?_
    ·rw[fT]at aI ⊢;split
     ·rfl
     ·split at aI
      ·rename_i e;subst e;rw[au]at p8;cases p8;exact B8 k ah
      ·exact zA j mf p8 aI k ah
    ·have cF:((List.range ops.size).filter λj=>!(listed.setIfInBounds i true).getD j false).length<((List.range ops.size).filter λj=>!listed.getD j false).length:=by
      have ax:(List.range ops.size).filter (λj=>!(listed.setIfInBounds i true).getD j false)=((List.range ops.size).filter λj=>!listed.getD j false).filter λj=>decide (j≠i):=by
       rw[List.filter_filter];apply aLe;intro j _;rw[fT];simp
      rw[ax];have an1:i∈(List.range ops.size).filter λj=>!listed.getD j false:=by
       grind
      exact List.length_filter_lt_length_iff_exists.2 ⟨i,an1,by simp⟩
     omega
    ·have:ow l s (λj=>(listed.setIfInBounds i true).getD j false)=r.jO (ow l s λj=>listed.getD j false):=by
      rw[<-b7];congr 1;funext j;grind
     grind
theorem X3{bet:Type}{b:Bool}{p:Prop}{m:G bet}{O:bet->Prop}(h:dj (zg b p m) O):dj m O:=by
 cases b with
 | true=>exact h
 | false=>exact (l_.1 h).2
theorem an2{hL jP iV j4 nw:Oper}(h:Ox hL jP iV j4 nw=true):∃ ty m x JI Pp k c eU gK d1 d2 lo y,hL.op=.lookup ty m x false/\jP.op=.binOp .add JI (.tmp eU) (.const (.int k c)) Pp/\iV.op=.mapEntry ty m x/\j4.op=.extract (.tmp d1) 1/\
  lo.op=.mapUpdate ty m x y/\BU iV j4 nw=some (lo,d1,d2)/\hL.dst=some eU/\jP.dst=some gK/\iV.dst=some d1/\j4.dst=some d2/\gS k c/\(eU≠gK/\eU≠d1/\eU≠d2/\gK≠d1/\gK≠d2/\d1≠d2)/\
  (m≠.tmp eU/\m≠.tmp gK/\m≠.tmp d1/\m≠.tmp d2)/\(x≠.tmp eU/\x≠.tmp gK/\x≠.tmp d1/\x≠.tmp d2)/\(∃ qd,m=.tmp qd)/\(∃ Pq,x=.tmp Pq)/\hL.guard=none/\jP.guard=none/\iV.guard=none/\j4.guard=none/\nw.guard=none:=by
 unfold Ox at h;split at h
 ·rename_i ty m x JI t k c Pp og eh eF kF bd mP;split at h
  ·rename_i eU gK lo d1 d2 uu dm v7;simp only[ajl]at h;obtain⟨rfl,rfl,aQ,ax,aU,dI,dW,jM,n4,FB,X4,s1,s2,cd,a2,a3,a4,cm,eX,kx,tO,dh,ee⟩:=h;obtain⟨aHw,aHx,aHy,aHz,f1,f2,f3,f4,f5,f6,f7,f8,f9,f10,f11,f12,g1,eB,g3⟩:=XE v7;obtain⟨qd,vZ⟩:=Option.isSome_iff_exists.1 s1;obtain⟨Pq,X5⟩:=Option.isSome_iff_exists.1 s2;have em:=xr vZ;have ex:=xr X5;have an3:=xr (ax.trans vZ);have an4:=xr (aU.trans X5);rw[f1]at mP;simp only[Op.mapEntry.injEq]at mP;obtain⟨rfl,rfl,rfl⟩:=mP;subst em;subst ex;subst an3;subst an4;refine⟨_,_,_,_,_,_,_,_,_,_,_,lo,_,kF,bd,f1,f3,f7,v7,uu,dm,f2,f4,aQ,⟨dI,dW,jM,n4,FB,X4⟩,?_,?_,⟨_,rfl⟩,⟨_,rfl⟩,Option.isNone_iff_eq_none.1 dh,Option.isNone_iff_eq_none.1 ee,g1,eB,g3⟩
   ·simp only[jA,ne_eq,ajk]at cd a2 a3 a4;exact⟨λe=>cd (by cases e;rfl),λe=>a2 (by cases e;rfl),λe=>a3 (by cases e;rfl),λe=>a4 (by cases e;rfl)⟩
   ·simp only[jA,ne_eq,ajk]at cm eX kx tO;exact⟨λe=>cm (by cases e;rfl),λe=>eX (by cases e;rfl),λe=>kx (by cases e;rfl),λe=>tO (by cases e;rfl)⟩
  grind
 grind
theorem X6{bet:Type}{n:Nat}(tb:I6 ops.toList=true)(aC:n=ops.size - 5)(be:eO C.P T)(dk:lM C.P bK)(dE:oA C.P C.a8 Psi)(an:∀ o∈ops.toList,pk o C.b5=true){k:aE->G bet}{O:bet->Prop}
  (ah:∀ s' a' w',c7 C s' a' w'->dj (k s') O->Q .normal a' w') (hm:dj (nW C.a8 T bK Psi ops (ops.toList.drop n) [] s k) O) :
  (n<=ops.size/\∀ j,n<=j->j<ops.size->∀ i,i<n->i∈(kE ops.toList).getD j [])/\∀ (a:Act) (w:World),c7 C s a w->∀ (de:Nat) (listed:Array Bool),listed.size=ops.size->(∀ i,listed.getD i false=decide (i<n))->ops.size - n<=de->wpAnyIn (e0 C.r) 0 C.P .any ops Q de listed a w:=by
 unfold I6 at tb;rw[show ops.toList.length - 5=n by grind]at tb;split at tb
 ·rename_i hL jP iV j4 nw X7;simp only[ajm,aKu,aKR,List.contains_eq_mem,ajl,aKm]at tb;obtain⟨an5,⟨⟨⟨⟨⟨v8,iR⟩,Pm⟩,XS⟩,B_⟩,XT⟩,XU⟩:=tb;have XR:ops.size=n+5:=by
   have:=congrArg List.length X7;grind
  have FF:∀ q (o:Oper),[hL,jP,iV,j4,nw][q]?=some o->ops[n+q]?=some o:=λq o h=>by
   grind
  have zC:=FF 0 hL rfl;have zD:=FF 1 jP rfl;have B9:=FF 2 iV rfl;have Fv:=FF 3 j4 rfl;have Fw:=FF 4 nw rfl;have mem:∀ {q o},ops[n+q]?=some o->o∈ops.toList:=λh=>by
   grind
  obtain⟨ty,m,x,JI,Pp,fX,c,eU,gK,d1,d2,lo,y,kF,bd,mP,B5,jB,vx,uu,dm,FA,JG,aQ,⟨dI,dW,jM,n4,FB,X4⟩,⟨m1,m2,m3,m4⟩,⟨kD,p2,X8,an6⟩,⟨qd,em⟩,⟨Pq,ex⟩,Fx,Fy,JA,JB,JC⟩:=an2 an5;have Fz:∀ c,hL.op≠.defer c:=by grind
  have JD:∀ c,jP.op≠.defer c:=by grind
  have JE:∀ c,iV.op≠.defer c:=by grind
  have JF:∀ c,j4.op≠.defer c:=by grind
  refine⟨⟨by omega,λj E M i D=>by have:=iR (j - n) (by omega) i D;simp_all⟩,λa w U de listed cY af v7=>?_⟩;have X9:=Pg (Q:=Q) be dk dE an ah _ n [] s a w rfl (λp aq=>by cases aq) U hm;rw[show (ops.toList.drop n).length=5 by grind]at X9;rw[X7]at hm;obtain⟨kap,F,gL⟩:=U;have gd:∀ {o:Oper},o.guard=none->∀ s:aE,lP s.aD ops o.guard=some none:=λh s=>by rw[h];rfl
  have X_:∀ {o:Oper} {os},(∀ ty m x,o.op≠.mapEntry ty m x)->BV o os=none:=λ{o os} h=>by
   unfold BV;split
   ·unfold BU;simp
   ·rfl
  have Jq:BV hL [jP,iV,j4,nw]=none:=X_ (by grind);unfold nW at hm;rw[Jq]at hm;simp only[gd Fx]at hm;split at hm
  ·rename_i v' JJ;rw[zx λV=>(Pe (s:=s) (λp aq=>by cases aq) (gk:=none) (λk ah=>by cases ah) V).run s.W v' JJ,zx λV=>(EP V).run s.W v' JJ]at hm;obtain⟨Pr,an7,hm⟩:=hm;have an8:=BL be dk (an hL (mem zC)) JJ;have zE:=JJ;simp only[cn,kF,Bt]at zE;have an9:(use (bs C.a8 s.aD m)).1/\(use (bs C.a8 s.aD x)).1/\v'.iN=[]/\∃ v u,v'.gG=.val v u:=by
    split at zE
    ·rename_i ln aHA an_;split at zE
     ·simp only[aM.fG,aji,cQ,aM.dC,ajk]at zE;obtain⟨es,qS,⟨y,l⟩,bh,rfl⟩:=zE;exact⟨Pr.1,Pr.2,rfl,_,_,rfl⟩
     ·cases zE
    ·cases zE
   obtain⟨Ph,Pj,X',Ya,Yb,an'⟩:=an9;have aoa:BV jP [iV,j4,nw]=none:=X_ (by grind);unfold nW at hm;rw[aoa]at hm;simp only[gd Fy]at hm;split at hm
   ·rename_i Ps aob;have hm:=X3 (X3 hm);have xu:=aob;have ax:(s.jZ hL.dst v').aD eU=.val Ya Yb:=by rw[uu,aE.jZ,aE.Pf,an']
    have nY:yU (.int fX c)=.val (.int fX) c:=by simp[yU,aQ]
    have aoc:∃ cd,Ya=.int fX/\Ps.iN=[]/\cd=Yb:=by
     simp only[cn,bd,bs,ax,nY,use,aO.nR,aO.vs]at xu;split at xu
     ·rename_i aY cd a_ cm E M;split at E
      ·rename_i b7 X8 ai;cases M;cases ai;cases E;split at xu
       ·rename_i w8;simp only[Bq,cQ,aM.dC,ajk]at xu;grind
       ·cases xu
      grind
     ·rename_i oB;exfalso;split at xu
      ·grind
      ·simp only[aM.fG,aji]at xu;obtain⟨⟨me,kk⟩,E,M⟩:=xu;simp only[D_,aM.fG,aji,aM.dC]at E;grind
    obtain⟨mV,rfl,Yc,rfl⟩:=aoc;have jz:((s.jZ hL.dst v').jZ jP.dst Ps).W=s.W:=by
     simp only[aE.jZ,X',Yc,aE.hS,uu,dm,aE.set]
    have fi:∀ {t:Nat},t≠eU->t≠gK->((s.jZ hL.dst v').jZ jP.dst Ps).aD t=s.aD t:=λ{t} E M=>by
     simp only[aE.jZ,X',Yc,aE.hS];rw[aE.Fq (by grind),aE.Fq (by grind)]
    unfold nW at hm;rw[show BV iV [j4,nw]=some (lo,d1,d2) from vx]at hm;simp only at hm;split at hm
    ·rename_i aHB aod;obtain⟨u,n0,wE,Yd⟩:=anA (s:=s) be kF mP jB jz (by rw[em];exact fi (λe=>m1 (by grind)) (λe=>m2 (by grind))) (by rw[ex];exact fi (λe=>kD (by grind)) (λe=>p2 (by grind))) aod gL Ph Pj;have aoe:=(Yd a rfl rfl).1;have aof:=Fu (K:=λa' w'=>c7 C (s.jZ hL.dst v') a' w') (Q:=Q) Fz aoe (an8 a w kap F Q gL Pr an7);have Ye:eU<a.tmps.size:=by
      have:=an hL (mem zC);simp only[pk,ajm]at this;have:=this.1;rw[uu]at this;have E:=gL.ek;grind
     have aHC:d1<a.tmps.size:=by
      have:=an iV (mem B9);simp only[pk,ajm]at this;have:=this.1;rw[FA]at this;have E:=gL.ek;grind
     have hu:u=.int fX mV:=by
      obtain⟨amz,F1,gY⟩:=aof;have E:=gY.cc eU;rw[ax,uu]at E;have M:(a.put (some eU) u).tmps.getD eU Go.undef=u:=Fl Ye;rw[M]at E;exact (h'.1 E).1
     subst hu;let vB:Value:=.int fX (fX.wrap (mV+c));have aog:∀ (a':Act) (w':World),a'.eval (.tmp eU)=.int fX mV->(execOp a'.eval jP).run C.P w'=.ok (.value vB) w':=λa' w' h=>by
      have M:a'.eval (.const (.int fX c))=.int fX c:=rfl;have ai:(Go.binOp .add JI (.int fX mV) (.int fX c)).run C.P w'=.ok vB w':=by simp[Go.binOp,Op.intArith,vB]
      simp only[execOp,bd,h,M,Sem.run_bind,VI,Result.andThen_ok,ai,Sem.run_pure]
     have aoh:∀ (a':Act) (w':World),a'.eval (.tmp d1)=.tuple #[.int fX mV,goInt n0]->(execOp a'.eval j4).run C.P w'=.ok (.value (goInt n0)) w':=λa' w' h=>by
      simp[execOp,B5,h,Instr.extract]
     have O9:∀ l b e eF,(nZ a eU gK d1 d2 (.int fX mV) vB (.tuple #[.int fX mV,goInt n0]) (goInt n0) l b e eF).eval m=a.eval m:=λl b e eF=>XQ m1 m2 m3 m4;have aoi:∀ l b e eF,(nZ a eU gK d1 d2 (.int fX mV) vB (.tuple #[.int fX mV,goInt n0]) (goInt n0) l b e eF).eval x=a.eval x:=λl b e eF=>XQ kD p2 X8 an6;refine anL (wE:=wE) (u:=.int fX mV) (vB:=vB) (vE:=.tuple #[.int fX mV,goInt n0]) (vX:=goInt n0) XR v8 zC zD B9 Fv Fw Fx Fy JA JB JC Fz JD JE JF iR Pm XS B_ XT XU uu dm FA JG dI dW jM n4 FB ?_ ?_ ?_ ?_ X9 de listed cY af (by omega)
     ·intro b e eF;have:=Yd _ (O9 false b e eF) (aoi false b e eF);cases e
      ·exact this.1
      ·exact this.2.1
     ·intro e eF;refine aog _ _ ?_;have E:(nZ a eU gK d1 d2 (.int fX mV) vB (.tuple #[.int fX mV,goInt n0]) (goInt n0) true false e eF).eval (.tmp eU)=(a.put (some eU) (.int fX mV)).eval (.tmp eU):=by
       have dh:Operand.tmp eU≠.tmp d1:=λh=>dW (by grind);have ee:Operand.tmp eU≠.tmp d2:=λh=>jM (by grind);unfold nZ;cases e<;>cases eF<;>simp[B7,dh,ee]
      rw[E];exact Fl Ye
     ·grind
     ·intro l b;refine aoh _ _ ?_;have E:nZ a eU gK d1 d2 (.int fX mV) vB (.tuple #[.int fX mV,goInt n0]) (goInt n0) l b true false=(nZ a eU gK d1 d2 (.int fX mV) vB (.tuple #[.int fX mV,goInt n0]) (goInt n0) l b false false).put (some d1) (.tuple #[.int fX mV,goInt n0]):=rfl;rw[E];exact Fl (by rw[anK];omega)
    ·exact hm.1.elim
   ·rename_i aHD;exfalso;have:uj C.a8 T bK Psi (s.jZ hL.dst v') jP=none:=by
     have nY:yU (.int fX c)=.val (.int fX) c:=by simp[yU,aQ]
     simp only[uj,bd,E7,bs,nY];simp
    rw[this]at hm;exact hm.1
  ·exfalso;have:uj C.a8 T bK Psi s hL=none:=by simp only[uj,kF]
   rw[this]at hm;exact hm.1
 grind
theorem Pt(n j:Nat):(Array.replicate n false).getD j false=false:=by
 rw[aKb,Array.getElem?_replicate];grind
theorem Yf{bet:Type}(be:eO C.P T)(dk:lM C.P bK)(dE:oA C.P C.a8 Psi)(an:∀ o∈ops.toList,pk o C.b5=true){k:aE->G bet}{O:bet->Prop}
  (ah:∀ s' a' w',c7 C s' a' w'->dj (k s') O->Q .normal a' w') {a:Act} {w:World} (U:c7 C s a w) (hm:dj (BY C.a8 T bK Psi ops s k) O):wpAnyIn (e0 C.r) 0 C.P .any ops Q ops.size (Array.replicate ops.size false) a w.drew:=by
 obtain⟨kap,F,gL⟩:=U;have hx:∀ {n:Nat} {l:List fk} {s':aE} {m:G bet},n<=ops.size->y9 C.a8 T bK ops (ops.toList.take n) s=some (l,s')->EW (ops.toList.take n) l=true->(∀ j,n<=j->j<ops.size->∀ i,i<n->i∈(kE ops.toList).getD j [])->dj (BW (l.flatMap fk.cs) m) O->
   (dj m O->∀ (de:Nat) (listed:Array Bool) a' w',listed.size=ops.size->(∀ i,listed.getD i false=decide (i<n))->ops.size - n<=de->c7 C s' a' w'->wpAnyIn (e0 C.r) 0 C.P .any ops Q de listed a' w')->wpAnyIn (e0 C.r) 0 C.P .any ops Q ops.size (Array.replicate ops.size false) a w.drew:=by
  intro n l s' m aC az cJ Pk hm v_;obtain⟨E,M⟩:=XN _ hm;refine anW aC be dk an az cJ Pk (λr U p aq=>E p (List.mem_flatMap.2 ⟨r,U,aq⟩)) (v_ M) ops.size _ a _ (by simp) (λj o _ af=>by rw[Pt]at af;cases af) (λi _=>Pt _ i) (by grind) ⟨kap,F,?_⟩;have:ow l s (λj=>(Array.replicate ops.size false).getD j false)=s:=by
   unfold ow;rw[List.filter_eq_nil_iff.2 λp _=>by simp only[Pt];decide];rfl
  rw[this];exact gL.drew
 unfold BY at hm;split at hm
 ·rename_i l s' az;split at hm
  ·rename_i cJ;have e:ops.toList.take ops.size=ops.toList:=aKE;refine hx (ajn _) (e.symm ▸ az) (e.symm ▸ cJ) (λj E M=>by omega) hm λM de listed a' w' cY gl _ bE=>?_;have oB:∀ i,i ∉ Region.ready .any ops listed:=λi D=>by
    rw[mem_ready]at D;obtain⟨aZ,o,au,_⟩:=D;grind
   cases de with
   | zero=>exact⟨List.eq_nil_iff_forall_not_mem.2 oB,ah s' a' w' bE M⟩
   | succ de=>exact⟨λ_=>ah s' a' w' bE M,λi D=>absurd D (oB i)⟩
  ·exact hm.1.elim
 ·split at hm
  ·rename_i l s' az;split at hm
   ·rename_i cJ;rw[ajm]at cJ;by_cases tb:I6 ops.toList=true
    ·have Pu:qY ops.toList=ops.size - 5:=by unfold qY;grind
     refine hx (by omega) az cJ.1 ?_ hm λM=>?_
     ·obtain⟨E,M⟩:=XN _ hm;have:=X6 (Q:=Q) tb Pu be dk dE an ah M;grind
     ·have:=X6 (Q:=Q) tb Pu be dk dE an ah M;grind
    ·have Pu:qY ops.toList=BX (kE ops.toList) ops.toList.length:=by unfold qY;grind
     obtain⟨vW,j8⟩:=XP (kE ops.toList) ops.toList.length;have vW:qY ops.toList<=ops.size:=by grind
     have j8:∀ j,qY ops.toList<=j->j<ops.size->∀ i,i<j->i∈(kE ops.toList).getD j []:=λj E M=>j8 j (by omega) (by omega);refine hx vW az cJ.1 (λj E M i D=>j8 j E M i (by omega)) hm λM de listed a' w' cY gl v7 bE=>?_;refine anF cJ.2 j8 (ops.size - qY ops.toList) (qY ops.toList) de listed a' w' (ajn _) (by omega) cY gl v7 ?_;have hlen:(ops.toList.drop (qY ops.toList)).length=ops.size - qY ops.toList:=by simp
     rw[<-hlen];exact Pg (Q:=Q) be dk dE an ah _ _ [] s' a' w' rfl (λp aq=>by cases aq) bE M
   ·exact hm.1.elim
  ·exact hm.1.elim
theorem aoj{bet:Type}{id:Nat}(e2:C.P.follows .mixedOrders=true)(be:eO C.P T)(dk:lM C.P bK)(dE:oA C.P C.a8 Psi)(an:∀ o∈ops.toList,pk o C.b5=true){k:aE->G bet}{O:bet->Prop}
  (ah:∀ s' a' w',c7 C s' a' w'->dj (k s') O->Q .normal a' w') {a:Act} {w:World} (U:c7 C s a w) (hm:dj (BY C.a8 T bK Psi ops s k) O):(Code.region id ops true).wpIn (e0 C.r) 0 C.P Q a w:=
 wpIn_region_any e2 (Yf be dk dE an ah U hm)
theorem B'{ops:Array Oper}{j:Nat}{o:Oper}(h:ops[j]?=some o):(mS ops.toList).toArray[j]?=some (if j=0 then o else { o with after:=o.after.push ⟨0,.phase⟩ }):=by
 obtain⟨l⟩:=ops;cases l with
 | nil=>simp at h
 | cons x l=>
  cases j with
  | zero=>simpa [mS]using h
  | succ j=>
   simp only[aKV,aLh]at h;simp[mS,h]
theorem Pv(ops:Array Oper):(mS ops.toList).toArray.size=ops.size:=by
 obtain⟨l⟩:=ops;cases l<;>simp[mS]
theorem aok{ops:Array Oper}{j:Nat}{hK:Oper}(h:(mS ops.toList).toArray[j]?=some hK):∃ o,ops[j]?=some o/\hK=if j=0 then o else { o with after:=o.after.push ⟨0,.phase⟩ }:=by
 have aI:j<ops.size:=by rw[<-Pv];exact (Array.getElem?_eq_some_iff.1 h).1
 have:=B' (ops:=ops) (j:=j) (o:=ops[j]) (by simp[aI]);rw[h]at this;cases this;exact⟨ops[j],by simp[aI],rfl⟩
theorem aol(ops:Array Oper):yielded (mS ops.toList).toArray=yielded ops:=by
 funext t j;unfold yielded;cases h:ops[j]? with
 | none=>
  have:(mS ops.toList).toArray[j]?=none:=by
   rw[Array.getElem?_eq_none_iff,Pv];exact Array.getElem?_eq_none_iff.1 h
  rw[this]
 | some o=>
  rw[B' h];by_cases aI:j=0
  ·rw[if_pos aI]
  ·rw[if_neg aI];rfl
theorem aom{F:Fence}{P:Program}:∀ (de:Nat) (listed:Array Bool) (a:Act) (w:World),listed.getD 0 false=true->wpAnyIn F 0 P .any (mS ops.toList).toArray Q de listed a w->wpAnyIn F 0 P .any ops Q de listed a w:=by
 have vG:∀ (listed:Array Bool),listed.getD 0 false=true->∀ i,i∈Region.ready .any ops listed->i∈Region.ready .any (mS ops.toList).toArray listed:=by
  intro listed aZ i D;rw[mem_ready]at D ⊢;obtain⟨E,o,au,M⟩:=D;refine⟨E,_,B' au,λe he V=>?_⟩;split at he
  ·exact M e he V
  ·rcases Array.mem_push.1 he with he | rfl
   ·exact M e he V
   ·exact aZ
 have aon:∀ (listed:Array Bool),Region.ready .any ops listed=[]->Region.ready .any (mS ops.toList).toArray listed=[]:=by
  intro listed h;rw[List.eq_nil_iff_forall_not_mem]at h ⊢;intro i D;refine h i ?_;rw[mem_ready]at D ⊢;obtain⟨E,hK,au,M⟩:=D;obtain⟨o,p8,rfl⟩:=aok au;refine⟨E,o,p8,λe he V=>M e ?_ V⟩;split
  ·exact he
  ·exact Array.mem_push_of_mem _ he
 have aoo:∀ (listed:Array Bool),listed.getD 0 false=true->Region.ready .any (mS ops.toList).toArray listed=[]->Region.ready .any ops listed=[]:=by
  intro listed aZ h;rw[List.eq_nil_iff_forall_not_mem]at h ⊢;exact λi D=>h i (vG listed aZ i D)
 intro de;induction de with
 | zero=>
  intro listed a w aZ h;exact⟨aoo listed aZ h.1,h.2⟩
 | succ de aP=>
  intro listed a w aZ h;refine⟨λU=>h.1 (aon listed U),λi D=>?_⟩;have ah:=h.2 i (vG listed aZ i D);have next:∀ a w,wpAnyIn F 0 P .any (mS ops.toList).toArray Q de (listed.setIfInBounds i true) a w->wpAnyIn F 0 P .any ops Q de (listed.setIfInBounds i true) a w:=λa w=>aP _ a w (getD_set_true aZ)
  have ah:=wpOpIn_mono next ah
  unfold wpOpIn at ah ⊢;rw[mem_ready]at D;obtain⟨_,o,au,_⟩:=D;rw[au];rw[B' au,aol]at ah;by_cases rS:i=0
  ·rw[if_pos rS]at ah;exact ah
  ·rw[if_neg rS]at ah;exact ah
theorem aop{bet:Type}{id:Nat}(e2:C.P.follows .mixedOrders=true)(aoq:C.r=none)(aw:Oy ops=true)(be:eO C.P T)(dk:lM C.P bK)(dE:oA C.P C.a8 Psi)(an:∀ o∈ops.toList,pk o C.b5=true){k:aE->G bet}{O:bet->Prop}
  (ah:∀ s' a' w',c7 C s' a' w'->dj (k s') O->Q .normal a' w') {a:Act} {w:World} (U:c7 C s a w) (hm:dj (BY C.a8 T bK Psi (mS ops.toList).toArray s k) O):(Code.region id ops true).wpIn (e0 C.r) 0 C.P Q a w:=by
 refine wpIn_mono (Q:=λe a w=>e=.normal/\Q e a w) (wpIn_region_any e2 ?_) λe a w h=>h.2;have iz:=Yf (Q:=λe a w=>e=.normal/\Q e a w) (ops:=(mS ops.toList).toArray) be dk dE (λo au=>?_) (λs' a' w' E M=>⟨rfl,ah s' a' w' E M⟩) U hm
 ·rw[Pv]at iz;have tf:(e0 C.r).round=none:=by rw[aoq];rfl
  unfold Oy at aw;split at aw
  ·cases aw
  ·rename_i o l af;simp only[ajm,aKu,aKm]at aw;obtain⟨E,M,ai,bf,b2⟩:=aw;have aZ:ops[0]?=some o:=by rw[<-aKk,af];rfl
   obtain⟨m,hm⟩:∃ m,ops.size=m+1:=⟨l.length,by rw[<-aKi,af];rfl⟩
   rw[hm]at iz ⊢;have aA:o.guard=none:=by simpa using M
   have dN:∀ (ops:Array Oper),ops[0]?=some o->0∈Region.ready .any ops (Array.replicate (m+1) false):=λops h=>by
    rw[mem_ready];refine⟨by simp,o,h,λe he=>?_⟩;rw[Array.isEmpty_iff.1 ai]at he;simp at he
   have nV:∃ x,o.op=.move x:=by
    revert E;cases o.op<;>simp
   obtain⟨x,al⟩:=nV;have bh:YieldsFenced C.P ops o (a.eval x) a:=⟨.inl ⟨by unfold Region.wanted;rw[aA],λw=>by simp[execOp,al]⟩,λw=>by unfold Oper.about;rw[al]⟩
   have h5:=iz.2 0 (dN _ (by rw[B' aZ];rfl));unfold wpOpIn at h5;rw[B' aZ]at h5;simp only[if_true]at h5;rw[show Region.wanted o (yielded (mS ops.toList).toArray a.tmps)=true by unfold Region.wanted;rw[aA],if_pos rfl]at h5;have h5:wpAnyIn (e0 C.r) 0 C.P .any (mS ops.toList).toArray (λe a w=>e=.normal/\Q e a w) m ((Array.replicate (m+1) false).setIfInBounds 0 true) (a.put o.dst (a.eval x)) w.drew:=by
    have:=h5.2;rw[tf,Oper.semAt_none]at this;simpa [execOp,al,Oper.uponIn]using this
   refine wpAnyIn_first tf aZ (Region.noSelect_spec bf) (λc a w h=>by cases h.1) m _ a _ (λj td Yg aor _ he=>?_) (dN _ aZ) bh (aom m _ _ _ (by simp) h5);have lq:td∈l:=by
    rw[<-aKk,af]at Yg;cases j with
    | zero=>exact absurd rfl aor
    | succ j=>exact aLb Yg
   rcases b2 td lq with h | h
   ·exfalso;have h:0∈mi td:=by simpa using h
    obtain⟨e,aos,y7⟩:=List.mem_filterMap.1 h;split at y7
    ·rename_i V;exact he e (by simpa using aos) V (by simpa using y7)
    ·cases y7
   ·exact h
 ·have au:o∈(mS ops.toList):=by simpa using au
  obtain⟨ol⟩:=ops;cases ol with
  | nil=>cases au
  | cons x l=>
   rcases List.mem_cons.1 au with rfl | au
   ·exact an _ (by simp)
   ·obtain⟨p,aq,rfl⟩:=List.mem_map.1 au;have:=an p (by simp[aq]);exact this
end
end Go.Fer
namespace Go.Fer
open Go.RowKit
theorem hM{bet:Type}{O:bet->Prop}(h:dj (eu:G bet) O):False:=h.1
theorem wa{bet:Type}{sh:ep}{s:aE}{k:sh.ak->G bet}{O:bet->Prop}(h:dj (sh.ox s k) O):∃ A,sh.kp s=some A/\dj (k A) O:=by
 unfold ep.ox at h;split at h
 ·grind
 ·exact (hM h).elim
def tg(B:Nat):Deferred:={ target:=.collected B,args:=#[] }
structure pt where
 w:World
 K:Nat->Prop
 ms:List Nat
def cB.ik(C:cB)(u:pt):cB:={ C with ei:=u.w,K0:=u.K,dq:=u.ms.map tg++C.dq }
structure cB.kZ(C:cB)(u:pt):Prop where
 uv:∀ B∈u.ms,u.K B/\u.w.heap[B]?=some (.deferred (some []))
 fL:∀ B∈u.ms,¬C.K0 B/\C.ei.heap.size<=B
 n1:u.ms.Nodup
 kG:∀ r,C.K0 r->u.K r
 fi:∀ r,C.K0 r->u.w.heap[r]?=C.ei.heap[r]?
 size:C.ei.heap.size<=u.w.heap.size
 e5:dP C.ei u.w
def cB.iP(C:cB):pt:=⟨C.ei,C.K0,[]⟩
theorem cB.xv(C:cB):C.kZ C.iP:=⟨λ_ h=>by simp[cB.iP]at h,λ_ h=>by simp[cB.iP]at h,List.nodup_nil,λ_ h=>h,λ_ _=>rfl,ajn _,dP.refl _⟩
def pt.then(u v:pt):pt:=⟨v.w,v.K,v.ms++u.ms⟩
theorem cB.Ca(C:cB)(u v:pt):(C.ik u).ik v=C.ik (u.then v):=by
 simp[cB.ik,pt.then]
theorem cB.kZ.then{C:cB}{u v:pt}(h:C.kZ u)(k:(C.ik u).kZ v):C.kZ (u.then v) where
 uv:=λB bd=>by
  rcases List.mem_append.1 bd with bd | bd
  ·exact k.uv B bd
  ·obtain⟨E,M⟩:=h.uv B bd;exact⟨k.kG B E,(k.fi B E).trans M⟩
 fL:=λB bd=>by
  rcases List.mem_append.1 bd with bd | bd
  ·obtain⟨E,M⟩:=k.fL B bd;exact⟨λai=>E (h.kG B ai),aKa h.size M⟩
  ·exact h.fL B bd
 n1:=List.nodup_append.2 ⟨k.n1,h.n1,λa br b V e=>(k.fL a br).1 (e ▸ (h.uv b V).1)⟩
 kG:=λr U=>k.kG r (h.kG r U)
 fi:=λr U=>(k.fi r (h.kG r U)).trans (h.fi r U)
 size:=aKa h.size k.size
 e5:=h.e5.trans k.e5
theorem bH.Yh{C:cB}{s:aE}{a:Act}{w:World}{kap:Nat->bP}{F F':Nat->Prop}(h:bH C s a w kap F){ei w':World}{jf K0:Nat->Prop}{b5:Nat}{dq:List Deferred}{r:Option Nat}{sl:Nat->aO}{a':Act}
    (Pw:a'.tmps.size=b5) (Px:a'.defers=dq) (th:b5<=fF) (eG:∀ i,bQ C.P s.W kap F w (sl i) (a'.tmps.getD i undef)) (oB:∀ l aN L n ae,sl cw≠.tr l aN L n ae)
    (heq:∀ r,F r\/(∃ b,(s.W b).body.cq (kap b)=true/\(kap b).W=r)->w'.heap[r]?=w.heap[r]?) (cY:w.heap.size<=w'.heap.size)
    (bF:∀ r,F r->F' r) (kC:∀ r,F' r->r<w'.heap.size) (FG:∀ b,(s.W b).body.cq (kap b)=true->¬F' (kap b).W)
    (Py:∀ r,F' r->jf r\/¬K0 r) (Pz:∀ r,jf r->F' r) (FH:∀ r,K0 r->r<ei.heap.size) (wb:∀ r,K0 r->w'.heap[r]?=ei.heap[r]?) (hr:∀ b,(s.W b).body.cq (kap b)=true->¬K0 (kap b).W)
    (mW:ei.heap.size<=w'.heap.size) (hc:dP ei w') :
    bH { C with ei:=ei,jf:=jf,K0:=K0,b5:=b5,dq:=dq,r:=r } ⟨sl,s.W⟩ a' w' kap F':=by
  have he:dy F w w':=⟨cY,λr U=>heq r (.inl U)⟩
  exact {
          ek:=Pw,dq:=Px,cc:=λi=>bQ.later (gb.refl _ _) bF he (eG i)
          bR:=λb=>cX.mG (h.bR b) (gb.refl _ _) bF he rfl rfl λau=>heq _ (.inr ⟨b,au,rfl⟩)
          own:=λb V=>⟨aJ' (h.own b V).1 cY,FG b V,hr b V⟩,inj:=h.inj,dH:=kC
          ie:=Py,jg:=Pz,iM:=FH,fi:=wb,size:=mW,e5:=hc,hq:=th,lC:=h.lC,kQ:=h.kQ,lD:=h.lD,lE:=h.lE,fo:=λl aN L n ae e=>(oB l aN L n ae e).elim,kR:=h.kR,jW:=h.jW.mono bF he }
theorem bH.xw{C:cB}{s:aE}{a:Act}{w:World}{kap:Nat->bP}{F:Nat->Prop}(h:bH C s a w kap F){ei w':World}{jf K0:Nat->Prop}{b5:Nat}{dq:List Deferred}{r:Option Nat}{sl:Nat->aO}{a':Act}
  (Pw:a'.tmps.size=b5) (Px:a'.defers=dq) (th:b5<=fF) (eG:∀ i,bQ C.P s.W kap F w (sl i) (a'.tmps.getD i undef)) (oB:∀ l aN L n ae,sl cw≠.tr l aN L n ae)
  (heq:∀ r,F r\/(∃ b,(s.W b).body.cq (kap b)=true/\(kap b).W=r)->w'.heap[r]?=w.heap[r]?) (cY:w.heap.size<=w'.heap.size)
  (Py:∀ r,F r->jf r\/¬K0 r) (Pz:∀ r,jf r->F r) (FH:∀ r,K0 r->r<ei.heap.size) (wb:∀ r,K0 r->w'.heap[r]?=ei.heap[r]?) (hr:∀ b,(s.W b).body.cq (kap b)=true->¬K0 (kap b).W)
  (mW:ei.heap.size<=w'.heap.size) (hc:dP ei w') :
  bH { C with ei:=ei,jf:=jf,K0:=K0,b5:=b5,dq:=dq,r:=r } ⟨sl,s.W⟩ a' w' kap F:=
 h.Yh Pw Px th eG oB heq cY (λ_ h=>h) (λr U=>aJ' (h.dH r U) cY) (λb V=>(h.own b V).2.1) Py Pz FH wb hr mW hc
theorem bH.JK{C:cB}{s:aE}{a:Act}{w:World}{kap:Nat->bP}{F:Nat->Prop}(h:bH C s a w kap F){ei w':World}{K0:Nat->Prop}{r:Option Nat}
    (lp:∀ r,K0 r->C.K0 r) (heq:∀ r,F r\/¬C.K0 r->w'.heap[r]?=w.heap[r]?) (cY:w.heap.size<=w'.heap.size) (zF:dP w w')
    (FH:∀ r,K0 r->r<ei.heap.size) (wb:∀ r,K0 r->w'.heap[r]?=ei.heap[r]?) (mW:ei.heap.size<=w'.heap.size) (hc:dP ei w') :
    bH { C with ei:=ei,K0:=K0,r:=r } s a w' kap F:=by
  have he:dy F w w':=⟨cY,λr U=>heq r (.inl U)⟩
  have kC:∀ r,F r->r<w'.heap.size:=λr U=>aJ' (h.dH r U) cY;exact {
          ek:=h.ek,dq:=h.dq,cc:=λi=>bQ.later (gb.refl _ _) (λ_ h=>h) he (h.cc i)
          bR:=λb=>cX.mG (h.bR b) (gb.refl _ _) (λ_ h=>h) he rfl rfl λau=>heq _ (.inr (h.own b au).2.2)
          own:=λb V=>⟨aJ' (h.own b V).1 cY,(h.own b V).2.1,λk=>(h.own b V).2.2 (lp _ k)⟩,inj:=h.inj,dH:=kC
          ie:=λr U=>(h.ie r U).imp id λk k'=>k (lp r k'),jg:=h.jg,iM:=FH,fi:=wb,size:=mW,e5:=hc,hq:=h.hq,lC:=h.lC,kQ:=h.kQ,lD:=h.lD,lE:=h.lE
          fo:=λl aN L n ae e=>by
            obtain⟨E,M,Y,ai,bf,b2⟩:=h.fo l aN L n ae e;exact⟨E,M,Y,λr U=>⟨aJ' (ai r U).1 cY,(ai r U).2.1,λk=>(ai r U).2.2 (lp r k)⟩,bf,M.M6 b2 (λ_ h=>h) (λr U=>heq r (U.imp id λbh=>(ai r bh).2.2)) cY zF kC λr aw bh=>(ai r bh).2.1 aw⟩
          kR:=h.kR,jW:=h.jW.mono (λ_ h=>h) he }
theorem Yi{P:Program}{H:Nat->b'}{kap:Nat->bP}{F:Nat->Prop}{w:World}{aN:aa}{x:aN.ak}:∀ (bw:List Tmp) (args:List Value) (j:Nat) (f:Nat->aO) (qd:Array Value),bw.length=args.length->(∀ p∈bw,p<qd.size)->
  (∀ i,bQ P H kap F w (f i) (qd.getD i undef))->(∀ i,i<args.length->bQ P H kap F w (lH aN x (j+i)) (args.getD i undef))->
  ∀ i,bQ P H kap F w (BZ aN x bw j f i) (((bw.zip args).foldl (λtmps p=>tmps.setIfInBounds p.1 p.2) qd).getD i undef)
 | [],[],_,_,_,_,_,aw,_,i=>aw i
 | p::bw,v::args,j,f,qd,af,aq,aw,ab,i=>by
  simp only[BZ,List.zip_cons_cons,aKd];refine Yi bw args (j+1) _ _ (by grind) (λq bM=>by grind) (λi=>?_) (λi D=>?_) i
  ·rw[aKb,Array.getElem?_setIfInBounds];by_cases e:i=p
   ·grind
   ·rw[if_neg e,if_neg (Ne.symm e)];simp_all
  ·have:=ab (i+1) (by grind);grind
theorem aot{bw:List Tmp}{args:List Value}:∀ {qd:Array Value},((bw.zip args).foldl (λtmps p=>tmps.setIfInBounds p.1 p.2) qd).size=qd.size:=by
 generalize bw.zip args=l;induction l with
 | nil=>simp
 | cons p l aP=>grind
def uw:dQ->Option Code
 | .normal=>none
 | .exit id=>some (.exit id)
 | .ret=>some .ret
def gZ(fn:FuncId)(qd:Array Value)(bw:Array Tmp)(assign body:Code)(B:Nat)(ae:LoopState)(e:dQ):Loop:=
 { state:=ae,pending:=uw e,fn:=fn,tmps:=qd,params:=bw,assign:=assign,body:=body,defers:=B }
def JL(P:Program)(a8:ew)(b5:Nat)(assign body:Code)(l:Nat){dX:ep}(run:aE->G (dQ×dX.ak)):Prop:=
 ∀ (C1:cB),C1.P=P->C1.a8=a8->C1.b5=b5->C1.r=some l->∀ (s1:aE) (cd:Act) (cj:World) (r2:dQ×dX.ak->Prop),c7 C1 s1 cd cj->dj (run s1) r2->
  assign.wpIn (e0 (some l)) 0 P (Exit.then (λa2 dM=>∃ u s2,C1.kZ u/\c7 (C1.ik u) s2 a2 dM/\
   ∀ (iA:cB),iA.P=P->iA.a8=a8->iA.b5=b5->iA.r=some l->∀ (dM:World),c7 iA s2 a2 dM->
    body.wpIn (e0 (some l)) 0 P (λe a3 hi=>∃ (bt:dQ) (v:pt) (eR:aE) (bG:dX.ak),e=bt.qZ/\iA.kZ v/\c7 (iA.ik v) eR a3 hi/\dX.kp eR=some bG/\r2 (bt,bG)) a2 dM) (λ_ _ _=>False)) cd cj
theorem aou{ts:List (Nat×b6)}{R:Type}(h:ts.isEmpty=true)(g:Nat->Nat×Nat)(z:p9 ts R)(i:Nat):gh (fe g ts z).1 i=.undef:=by
 cases ts with
 | nil=>rfl
 | cons p ts=>grind
theorem aov{P:Program}{l:Nat}{R:Ending->World->Prop}{e:dQ}{a:Act}{w:World}{r:Loop}(h:w.heap[l]?=some (.loop r))
  (kH:R (.returned (.bool (uw e).isNone)) (w.putObj l (.loop { r with state:=if (uw e).isNone then .ready else .done,pending:=uw e }))):roundPost P l R e.qZ a w:=by
 cases e with
 | normal=>exact⟨_,_,run_endRound none h,kH⟩
 | exit id=>exact⟨_,_,run_endRound (some (.exit id)) h,kH⟩
 | ret=>exact⟨_,_,run_endRound (some .ret) h,kH⟩
theorem aow{CI:cB}{sh rin dX:ep}{aN:aa}{bw:Array Tmp}{assign body:Code}{a:Act}{aj:World}{kap:Nat->bP}{F:Nat->Prop}{A:sh.ak}{fn:FuncId}{l B:Nat}{x:aN.ak}{args:List Value}{run:aE->G (dQ×dX.ak)}
  {Or:dQ×sh.ak->Prop} {Y Z:Nat->Prop} (aox:Z l)
  (U:bH CI (sh.ae A) a aj kap F) (eP:pr sh dX aN bw.toList a.tmps.size=true) (FI:JL CI.P CI.a8 a.tmps.size assign body l run) (hm:dj (vS sh rin dX aN bw.toList A x run) Or)
  (af:aj.heap[l]?=some (.loop (gZ fn a.tmps bw assign body B .ready .normal))) (aoy:¬F l) (bj:∀ b,((sh.ae A).W b).body.cq (kap b)=true->Y (kap b).W/\¬Z (kap b).W) (fV:gn CI.P aN F aj args x) :
  ∃ tmps,(Instr.yield l args.toArray).run CI.P aj=.ok (.round l fn tmps assign body) aj/\RoundIn Fence.wide 0 CI.P l fn tmps assign body aj λe r3=>
   ∃ (bO:dQ) (j5:sh.ak) (bX:Nat->bP) (F':Nat->Prop) (o:Obj),e=.returned (.bool (uw bO).isNone)/\Or (bO,j5)/\r3.heap[l]?=some (.loop (gZ fn a.tmps bw assign body B (if (uw bO).isNone then .ready else .done) bO))/\
    bH { CI with ei:=aj.putObj l o,jf:=F,K0:=λr=>r<aj.heap.size/\(Z r\/¬Y r) } (sh.ae j5) a r3 bX F':=by
 simp only[pr,ajm,ajl,aKj]at eP;obtain⟨⟨⟨⟨aY,a_⟩,b7⟩,hg⟩,p7⟩:=eP;have FJ:=(Array.getElem?_eq_some_iff.1 af).1;obtain⟨jY,JM⟩:=vH (H:=(sh.ae A).W) (kap:=kap) aN fV b7;have oB:(sh.ae A).aD cw=.undef:=zt sh.cc dz A cw a_;have Ik:(Array.zip bw args.toArray).foldl (λtmps x=>match x with | (t,a)=>tmps.setIfInBounds t a) a.tmps=(bw.toList.zip args).foldl (λtmps p=>tmps.setIfInBounds p.1 p.2) a.tmps:=by
  rw[<-Array.foldl_toList];simp
 refine⟨(bw.toList.zip args).foldl (λtmps p=>tmps.setIfInBounds p.1 p.2) a.tmps,?_,?_⟩
 ·rw[<-Ik];exact run_yield af (by show args.toArray.size=bw.size;grind)
 have aoz:bH { CI with ei:=aj,jf:=F,K0:=λr=>r<aj.heap.size/\(Z r\/¬Y r) } (sh.ae A) a aj kap F:=
  U.xw U.ek U.dq U.hq U.cc (λl aN L n ae e=>by have e:(sh.ae A).aD cw=.tr l aN L n ae:=e;grind) (λ_ _=>rfl) (ajn _) (λ_ h=>.inl h) (λ_ h=>h) (λ_ h=>h.1) (λ_ _=>rfl)
   (λb V h=>h.2.elim (bj b V).2 λh=>h (bj b V).1) (ajn _) (dP.refl _)
 unfold vS at hm;split at hm
 ·rename_i rho ck aoA;split at hm
  ·rename_i cJ;rw[hp]at hm;have gY:bH { CI with ei:=aj,jf:=F,K0:=λr=>r<aj.heap.size/\(Z r\/¬Y r),b5:=a.tmps.size,dq:=[],r:=none } ⟨(zl (sh.ae A) aN x bw.toList).aD,(sh.ae A).W⟩ { tmps:=(bw.toList.zip args).foldl (λtmps p=>tmps.setIfInBounds p.1 p.2) a.tmps,defers:=[] } aj kap F:=by
    refine U.xw aot rfl (by rw[U.ek];exact U.hq) (λi=>?_) (λeo lR fI kn j7 e=>?_) (λ_ _=>rfl) (ajn _) (λ_ h=>.inl h) (λ_ h=>h) (λ_ h=>h.1) (λ_ _=>rfl)
     (λb V h=>h.2.elim (bj b V).2 λh=>h (bj b V).1) (ajn _) (dP.refl _)
    ·show bQ CI.P (sh.ae A).W kap F aj (if i=cw then (sh.ae A).aD cw else BZ aN x bw.toList 0 (sh.ae A).aD i) _;split
     ·rw[oB];trivial
     ·exact Yi bw.toList args 0 _ _ (by omega) (λp aq=>by grind) U.cc (λi D=>by grind) i
    ·have e:(if cw=cw then (sh.ae A).aD cw else BZ aN x bw.toList 0 (sh.ae A).aD cw)=.tr eo lR fI kn j7:=e;grind
   obtain⟨F',own,iv,jy,f1,bE,hr,FK,aHE,Fk,O5⟩:=Xs   aoz gY (by rfl) aoA rfl cJ;have PA:l<aj.heap.size/\(Z l\/¬Y l):=⟨FJ,.inl aox⟩
   have Yj:=λh=>(bE.ie l h).elim aoy λh=>h PA;have aoB:¬own l:=λh=>by
    obtain⟨b,E,M⟩:=hr l h;exact (bE.own b E).2.2 (M ▸ PA)
   have aoC:=λh=>(FK.low l h).2.2 PA;have Yk:l<aj.heap.size/\¬own l/\¬iv l:=⟨FJ,aoB,aoC⟩
   have JN:=Fk.JK       (r:=some l) (λ_ h=>h) (λ_ _=>rfl) (ajn _) (dP.refl _) (λ_ h=>h.1) (λ_ _=>rfl) (ajn _) (dP.refl _);refine roundIn_of_wpIn trivial ?_;refine wpIn_mono (FI { uq CI aj F' a.tmps.size own iv jy with r:=some l } rfl rfl rfl rfl (rin.ae rho) _ aj _ ⟨_,_,JN⟩ hm) λe a2 dM bM=>?_;cases e with
   | normal=>
    obtain⟨u,s2,hu,⟨oz,F2,dd⟩,ca⟩:=bM;have ux:=hu.kG l Yk;have gW:=(dd.fi l ux).trans ((hu.fi l Yk).trans af);refine⟨_,run_beginRound gW rfl,?_⟩;have aoD:=(Array.getElem?_eq_some_iff.1 gW).1;have aoE:=λh=>(dd.ie l h).elim Yj λh=>h ux;have r4:=dd.JK   (w':=dM.putObj l (.loop (gZ fn a.tmps bw assign body B .busy .normal)))   (r:=some l) (λ_ h=>h)
     (λr h=>World.putObj_heap_other λe=>by
      subst e;exact h.elim aoE λh=>h ux) (by simp) ⟨rfl,rfl,rfl⟩ (λr h=>by
       have:=dd.iM r h;have:=dd.size;simp;omega) (λ_ _=>rfl) (ajn _) (dP.refl _)
    refine wpIn_mono (ca { ({ uq CI aj F' a.tmps.size own iv jy with r:=some l }).ik u with ei:=dM.putObj l (.loop (gZ fn a.tmps bw assign body B .busy .normal)),K0:=u.K,r:=some l } rfl rfl rfl rfl _ ⟨oz,F2,r4⟩) λe a3 hi ⟨bt,v,eR,bG,he,ab,⟨JO,Yl,oC⟩,hh,JP⟩=>?_;subst he;obtain⟨JO,aoF,f4,qe⟩:=ep.B2 hh oC;have BC:=ab.kG l ux;have JQ:=(qe.fi l BC).trans ((ab.fi l ux).trans (World.putObj_heap_same aoD));have Ym:=(Array.getElem?_eq_some_iff.1 JQ).1;have aHF:=λh=>(qe.ie l h).elim Yj λh=>h BC;generalize h5:(if (uw bt).isNone then LoopState.ready else .done)=j7;refine aov JQ ?_;rw[h5];have pv:bH { CI with ei:=aj.putObj l (.loop (gZ fn a.tmps bw assign body B j7 bt)),jf:=F,K0:=λr=>r<aj.heap.size/\(Z r\/¬Y r) } ((sh.ae A).cV ck) a (aj.putObj l (.loop (gZ fn a.tmps bw assign body B j7 bt))) kap F':=
     bE.JK (λ_ h=>h) (λr h=>World.putObj_heap_other λe=>by
      grind) (by simp) ⟨rfl,rfl,rfl⟩ (λr h=>by simp_all) (λ_ _=>rfl) (ajn _) (dP.refl _)
    have Fj:aj.heap.size<=hi.heap.size:=by
     have E:=hu.size;have M:=dd.size;have ai:=ab.size;have bf:=qe.size;have E:aj.heap.size<=u.w.heap.size:=E;have M:u.w.heap.size<=dM.heap.size:=M;have bf:v.w.heap.size<=hi.heap.size:=bf;simp  at ai;omega
    have zG:=by
     have E:=hu.e5;have M:=dd.e5;have ai:dP dM v.w:=⟨ab.e5.os,ab.e5.tape,ab.e5.output⟩
     exact E.trans (M.trans (ai.trans qe.e5))
    have aoG:∀ i,(dX.ae bG).aD i=.undef:=λi=>aou aY dz bG i;have nY:∀ r,(r<(aj.putObj l (.loop (gZ fn a.tmps bw assign body B j7 bt))).heap.size/\¬own r/\¬iv r)->(r<aj.heap.size/\¬own r/\¬iv r):=λr h=>⟨by simp_all,h.2⟩
    have iW:=qe.xw   (w':=hi.putObj l (.loop (gZ fn a.tmps bw assign body B j7 bt)))   (K0:=λr=>r<(aj.putObj l (.loop (gZ fn a.tmps bw assign body B j7 bt))).heap.size/\¬own r/\¬iv r)     (r:=none) (sl:=(dX.ae bG).aD) (a':={ tmps:=#[],defers:=[] }) rfl rfl (aKr _)
     (λi=>by rw[aoG];trivial) (λl aN L n ae e=>by grind)
     (λr h=>World.putObj_heap_other λe=>by
      subst e;rcases h with h | ⟨b,E,M⟩
      ·grind
      ·exact (qe.own b E).2.2 (M ▸ BC)) (by simp) (λr h=>(qe.ie r h).imp id λh eA=>h (ab.kG r (hu.kG r (nY r eA)))) qe.jg (λr h=>h.1)
     (λr h=>by
      by_cases e:r=l
      ·subst e;rw[World.putObj_heap_same Ym,World.putObj_heap_same FJ]
      ·rw[World.putObj_heap_other e,World.putObj_heap_other e];have E:=hu.kG r (nY r h);exact (qe.fi r (ab.kG r E)).trans ((ab.fi r E).trans ((World.putObj_heap_other e).trans ((dd.fi r E).trans (hu.fi r (nY r h))))))
     (λb V h=>(qe.own b V).2.2 (ab.kG _ (hu.kG _ (nY _ h)))) (by simp_all) ⟨zG.os,zG.tape,zG.output⟩
    obtain⟨kapn,rZ,_⟩:=O5 (aj.putObj l (.loop (gZ fn a.tmps bw assign body B j7 bt))) (aj.putObj l (.loop (gZ fn a.tmps bw assign body B j7 bt))) pv ⟨λeo lR fI kn j7 e=>(by
      grind),λr h=>⟨by simpa using (FK.low r h).1,(FK.low r h).2⟩,FK.own,FK.Jh⟩ bG [] (hi.putObj l (.loop (gZ fn a.tmps bw assign body B j7 bt))) JO aoF iW
    obtain⟨j5,PB,aoH⟩:=wa JP;obtain⟨kapn,aoI,_,aoJ⟩:=ep.B2 PB rZ;exact⟨bt,j5,kapn,aoI,(.loop (gZ fn a.tmps bw assign body B j7 bt)),rfl,eY.1 aoH,by rw[h5];exact World.putObj_heap_same Ym,aoJ⟩
   | _=>exact bM.elim
  ·exact hm.1.elim
 ·exact hm.1.elim
theorem Yn{w:World}{o mf:Obj}{r:Nat}(h:r<w.heap.size):((w.alloc o).alloc mf).heap[r]?=w.heap[r]?:=
 (qO _ _ (by simp;omega)).trans (qO _ _ h)
def aoK(C CI:cB){bet:Type}(sh rin dX:ep)(aN:aa)(aV:List aN.ak->Prop)(bw:Array Tmp)(assign body:Code)(a:Act)(fn:FuncId)(l B:Nat)(run:aE->G (dQ×dX.ak))(k:dQ->aE->G bet)(O:bet->Prop)
  (ae:Bool) (F Y:Nat->Prop) (aj:World):Prop:=
 ∃ (e:dQ) (A:sh.ak) (kap:Nat->bP),bH CI (sh.ae A) a aj kap F/\aj.heap[l]?=some (.loop (gZ fn a.tmps bw assign body B (if ae then .done else .ready) e))/\aj.heap[B]?=some (.deferred (some []))/\
  (∀ b,((sh.ae A).W b).body.cq (kap b)=true->Y (kap b).W/\¬((kap b).W=l\/(kap b).W=B))/\Y l/\Y B/\¬F l/\¬F B/\C.P=CI.P/\
  (ae=false->e=.normal/\∀ R,aV R->dj (kY (λA y=>vS sh rin dX aN bw.toList A y run) R A) λp=>dj (k p.1 (sh.ae p.2)) O)/\(ae=true->e≠.normal/\dj (k e (sh.ae A)) O)
theorem Yo{C CI:cB}{bet:Type}{sh rin dX:ep}{aN:aa}{S:List aN.ak->Prop}{bw:Array Tmp}{assign body:Code}{a:Act}{fn:FuncId}{l B:Nat}{run:aE->G (dQ×dX.ak)}{k:dQ->aE->G bet}{O:bet->Prop}
  (lp:CI.K0=λ_=>False) (aoL:l≠B) (eP:pr sh dX aN bw.toList a.tmps.size=true) (FI:JL CI.P CI.a8 a.tmps.size assign body l run) :
  HR CI.P (gn CI.P aN) l S λpre=>aoK C CI sh rin dX aN (λR=>S (pre++R)) bw assign body a fn l B run k O where
 D1:=λ{pre ae F F' Y w w'} h bF heq cY lK kC FG=>by
  have hc:dP w w':=⟨lK.1,lK.2.1,lK.2.2⟩
  obtain⟨e,A,kap,U,E,M,ai,bf,b2,d_,hn,jL,tP⟩:=h;have oB:=by
   simp only[pr,ajm,aKj]at eP;exact zt sh.cc dz A cw eP.1.1.1.2
  have wc:∀ r,CI.K0 r->False:=λr h=>by grind
  refine⟨e,A,kap,?_,(heq l (.inr bf)).trans E,(heq B (.inr b2)).trans M,ai,bf,b2,λh=>FG l h bf,λh=>FG B h b2,jL,tP⟩;exact U.Yh U.ek U.dq U.hq U.cc (λeo lR fI kn j7 e=>by have e:(sh.ae A).aD cw=.tr eo lR fI kn j7:=e;grind)
   (λr bE=>heq r (bE.imp id λ⟨b,V,e⟩=>e ▸ (ai b V).1)) cY bF kC (λb V aw=>FG _ aw (ai b V).1) (λr _=>.inr (wc r)) (λr h=>bF r (U.jg r h)) (λr h=>(wc r h).elim) (λr h=>(wc r h).elim) (λb _=>wc _)
   (aKa U.size cY) (U.e5.trans hc)
 yield:=λ{pre F Y w args x} h kC Yp al fV=>by
  obtain⟨PC,PD⟩:=al;obtain⟨e,A,kap,U,E,M,ai,bf,b2,d_,hn,jL,tP,_⟩:=h;obtain⟨rfl,hm⟩:=tP rfl;have oB:∀ A,(sh.ae A).aD cw=.undef:=λA=>by
   simp only[pr,ajm,aKj]at eP;exact zt sh.cc dz A cw eP.1.1.1.2
  have wc:∀ r,CI.K0 r->False:=λr h=>by grind
  have hm:dj (vS sh rin dX aN bw.toList A x run) λp=>∀ T,S (pre++x::T)->dj (match p.1 with
    | .normal=>kY (λA y=>vS sh rin dX aN bw.toList A y run) T p.2
    | .exit id=>mpure (.exit id,p.2)
    | .ret=>mpure (.ret,p.2)) λp=>dj (k p.1 (sh.ae p.2)) O:=by
   have E:=λT be=>hp.1 (hm (x::T) be);exact⟨(E PC PD).1,λy bh T be=>(E T be).2 y bh⟩
  obtain⟨tmps,bh,aoM⟩:=aow (Z:=λr=>r=l\/r=B) (.inl rfl) U eP FI hm E d_ ai fV;refine⟨fn,tmps,assign,body,bh,aoM.mono λbt r3 ⟨bO,j5,bX,F',o,he,JP,zH,bE⟩=>?_⟩;have FJ:=(Yp l bf).1;have Yq:=(Yp B b2).1;have g1:=bE.jg;have eB:∀ r,F' r->F r\/Y r\/w.heap.size<=r:=λr dd=>by
   rcases bE.ie r dd with h | h<;>grind
  have Yr:=λr cF aw bD ur=>(bE.ie r ur).elim aw λh=>h ⟨cF,.inl bD⟩;have aoN:=Yr l FJ d_ (.inl rfl);have zD:=Yr B Yq hn (.inr rfl);have Ys:∀ b,((sh.ae j5).W b).body.cq (bX b)=true->¬((bX b).W=l\/(bX b).W=B)/\(Y (bX b).W\/w.heap.size<=(bX b).W):=λb V=>by
   have ah:=(bE.own b V).2.2;grind
  have Yt:w.heap.size<=r3.heap.size:=by have:=bE.size;simp_all
  have gc:dP w r3:=⟨bE.e5.os,bE.e5.tape,bE.e5.output⟩
  refine⟨(uw bO).isNone,F',λr=>(∃ b,((sh.ae j5).W b).body.cq (bX b)=true/\(bX b).W=r)\/r=l\/r=B,he,g1,eB,bE.dH,λr cF bh=>?_,λr dd=>?_,Yt,⟨gc.os,gc.tape,gc.output⟩,?_⟩
  ·have fc:r≠l:=λe=>bh (e ▸ bf);exact (bE.fi r ⟨cF,.inr bh⟩).trans (World.putObj_heap_other fc)
  ·rcases dd with⟨b,V,rfl⟩ | rfl | rfl
   ·exact⟨(Ys b V).2,(bE.own b V).1,(bE.own b V).2.1⟩
   ·grind
   grind
  ·refine⟨bO,j5,bX,?_,?_,?_,λb V=>⟨.inl ⟨b,V,rfl⟩,(Ys b V).1⟩,.inr (.inl rfl),.inr (.inr rfl),aoN,zD,jL,λh5=>?_,λh5=>?_⟩
   ·exact bE.xw bE.ek bE.dq bE.hq bE.cc (λeo lR fI kn j7 e=>by have e:(sh.ae j5).aD cw=.tr eo lR fI kn j7:=e;grind) (λ_ _=>rfl) (ajn _) (λr _=>.inr (wc r)) (λr h=>g1 r (U.jg r h))
     (λr h=>(wc r h).elim) (λr h=>(wc r h).elim) (λb _=>wc _) (aKa U.size Yt) (U.e5.trans gc)
   ·grind
   ·exact (bE.fi B ⟨Yq,.inl (.inr rfl)⟩).trans ((World.putObj_heap_other (Ne.symm aoL)).trans M)
   ·cases bO with
    | normal=>grind
    | _=>cases h5
   ·cases bO with
    | normal=>cases h5
    | exit id=>exact⟨by simp,(JP PC PD).2 _ rfl⟩
    | ret=>exact⟨by simp,(JP PC PD).2 _ rfl⟩
theorem Yu{P:Program}{l:Nat}{aN:aa}{S:List aN.ak->Prop}{I:List aN.ak->Bool->(Nat->Prop)->(Nat->Prop)->World->Prop}(h:HR P (gn P aN) l S I):nl.jv P ⟨l,aN,S,I⟩ where
 D1:=λE M ai bf b2 d_ hn=>h.D1 E M ai bf ⟨b2.os,b2.tape,b2.output⟩ d_ hn
 yield:=λE M ai bf b2=>YieldAt.mono (h.yield E M ai bf b2) λ_ _ ⟨b,F',iv,aY,a_,b7,hg,p7,zu,JR,FL,PE⟩=>⟨b,F',iv,aY,a_,b7,hg,p7,zu,JR,⟨FL.1,FL.2.1,FL.2.2⟩,PE⟩
theorem aoO{C:cB}(dN:C.r=none){bet:Type}{s:aE}{a:Act}{w:World}(U:c7 C s a w){g:Operand}{bw:Array Tmp}{assign body:Code}{ta n:Nat}{fA:Nat->aO}(aA:bs C.a8 s.aD g=.tU ta n fA){ic:BS}(Yv:Fm C.P ta ic)
    {x:ic.ts.ak} {ck:List Nat} (al:(km ic.ts ((List.range n).map fA)).run s.W=some (x,ck)) {sh rin dX:ep} (eP:pr sh dX ic.aN bw.toList C.b5=true) {pw:sh.ak} (ps:sh.kp (s.cV ck)=some pw) (iR:ic.pre x)
    {run:aE->G (dQ×dX.ak)} {k:dQ->aE->G bet} {O:bet->Prop} (hm:dj (kY (λA y=>vS sh rin dX ic.aN bw.toList A y run) (ic.seq x) pw) λp=>dj (k p.1 (sh.ae p.2)) O)
    (FI:∀ l,JL C.P C.a8 C.b5 assign body l run) {Q:Exit->Act->World->Prop}
    (ah:∀ u,C.kZ u->∀ e s' a' w',c7 (C.ik u) s' a' w'->dj (k e s') O->Q e.qZ a' w'):(Code.rangeFunc g bw assign body).wpIn (e0 C.r) 0 C.P Q a w:=by
  obtain⟨kap,F,U⟩:=U;obtain⟨F1,f1,gY,f2⟩:=bH.mJ (rP _ al) U;obtain⟨kap,F2,f3,dd⟩:=ep.B2 ps gY;have ab:=lf U g;rw[aA]at ab;obtain⟨aJ,sO,jX,aHG⟩:=ab;have aoP:gn C.P ic.ts F1 w aJ x:=xg U.bR f1 ic.ts al f2 (by grind) λi D eE=>by
    grind
  have oB:∀ A,(sh.ae A).aD cw=.undef:=λA=>by
    simp only[pr,ajm,aKj]at eP;exact zt sh.cc dz A cw eP.1.1.1.2
  rw[dN];refine wpIn_rangeFunc λfn _=>?_;have bd:w.heap.size<((w.alloc (.deferred (some []))).alloc (.loop (gZ fn a.tmps bw assign body w.heap.size .ready .normal))).heap.size:=by simp;omega
  have af:w.heap.size+1<((w.alloc (.deferred (some []))).alloc (.loop (gZ fn a.tmps bw assign body w.heap.size .ready .normal))).heap.size:=by simp
  have FM:((w.alloc (.deferred (some []))).alloc (.loop (gZ fn a.tmps bw assign body w.heap.size .ready .normal))).heap[w.heap.size+1]?=some (.loop (gZ fn a.tmps bw assign body w.heap.size .ready .normal)):=by
    have:=sM (w.alloc (.deferred (some []))) (.loop (gZ fn a.tmps bw assign body w.heap.size .ready .normal));simp_all
  have FN:((w.alloc (.deferred (some []))).alloc (.loop (gZ fn a.tmps bw assign body w.heap.size .ready .normal))).heap[w.heap.size]?=some (.deferred (some [])):=
    (qO _ _ (by simp)).trans (sM w _)
  have we:∀ r,r<w.heap.size->((w.alloc (.deferred (some []))).alloc (.loop (gZ fn a.tmps bw assign body w.heap.size .ready .normal))).heap[r]?=w.heap[r]?:=λr h=>Yn h;have FO:(Instr.enterLoop fn a.tmps bw assign body none).run C.P w=.ok (w.heap.size+1,[tg w.heap.size]) ((w.alloc (.deferred (some []))).alloc (.loop (gZ fn a.tmps bw assign body w.heap.size .ready .normal))):=run_enterLoop_outer fn a.tmps bw assign body;have zF:dP w ((w.alloc (.deferred (some []))).alloc (.loop (gZ fn a.tmps bw assign body w.heap.size .ready .normal))):=⟨rfl,rfl,rfl⟩
  have PF:((w.alloc (.deferred (some []))).alloc (.loop (gZ fn a.tmps bw assign body w.heap.size .ready .normal))).heap.size=w.heap.size+2:=by simp
  generalize (w.alloc (.deferred (some []))).alloc (.loop (gZ fn a.tmps bw assign body w.heap.size .ready .normal))=cj at bd af FM FN we FO zF PF;have rX:dy F2 w cj:=⟨by omega,λr h=>we r (dd.dH r h)⟩
  have fV:=(aoP.mono f3 (dy.refl _ _)).mono (λ_ h=>h) rX;have fa:bH { C with ei:=cj,jf:=F2,K0:=λ_=>False } (sh.ae pw) a cj kap F2:=
    dd.xw dd.ek dd.dq dd.hq dd.cc (λeo lR fI kn j7 e=>by have e:(sh.ae pw).aD cw=.tr eo lR fI kn j7:=e;grind)
      (λr h=>we r (by
        rcases h with h | ⟨b,V,rfl⟩
        · exact dd.dH r h
        · exact (dd.own b V).1)) (by omega) (λ_ h=>.inl h) (λ_ h=>h) (λ_ h=>h.elim) (λ_ h=>h.elim) (λ_ _ h=>h) (ajn _) (dP.refl _)
  have PG:=Yu (Yo (S:=λT=>T=ic.seq x) (C:=C) (CI:={ C with ei:=cj,jf:=F2,K0:=λ_=>False })   (rin:=rin)     (assign:=assign) (body:=body)   (fn:=fn) (l:=w.heap.size+1) (B:=w.heap.size) (run:=run) (k:=k) (O:=O)
    rfl (by omega) (by rw[U.ek];omega) (by rw[U.ek];grind))
  have eG:∀ b,((sh.ae pw).W b).body.cq (kap b)=true->¬((kap b).W=w.heap.size+1\/(kap b).W=w.heap.size):=λb V h=>by
    have:=(dd.own b V).1;omega
  have zI:=Yv.ki (w.heap.size+1) _ F2 (λr=>(∃ b,((sh.ae pw).W b).body.cq (kap b)=true/\(kap b).W=r)\/r=w.heap.size+1\/r=w.heap.size) cj aJ x fV iR PG (λr h=>fa.dH r h) fa.jW
    (λr h=>by
      rcases h with⟨b,V,rfl⟩ | rfl | rfl
      · exact⟨(fa.own b V).1,(fa.own b V).2.1⟩
      · exact⟨af,λh=>by have:=dd.dH _ h;omega⟩
      · exact⟨bd,λh=>by have:=dd.dH _ h;omega⟩)
    ⟨.normal,pw,kap,fa,FM,FN,λb V=>⟨.inl ⟨b,V,rfl⟩,eG b V⟩,.inr (.inl rfl),.inr (.inr rfl),λh=>by have:=dd.dH _ h;omega,λh=>by have:=dd.dH _ h;omega,rfl,λ_=>⟨rfl,λR kH=>by grind⟩,λh=>by grind⟩
  refine⟨w.heap.size+1,[tg w.heap.size],cj,{ target:=.fn (.func ta) #[],args:=aJ.toArray++#[.func (.yield (w.heap.size+1)) #[] #[]] },cj,ta,(aJ++[Value.func (.yield (w.heap.size+1)) #[] #[]]).toArray,cj,FO,?_,λ_ _=>trivial,?_,λh=>(by cases h),callsIn_wide.2 (zI.mono λe hi ⟨v,kn,ae,F',iv,he,h5,hinv,g1,eB,g3,g4,g5,g6,g7⟩=>?_)⟩
  · have e:a.eval (.const (.func (.yield (w.heap.size+1)) #[] #[]))=.func (.yield (w.heap.size+1)) #[] #[]:=rfl
    simp[resolve,sO,Deferred.ofValue,e]
  · have:=Yv.enter (aJ++[Value.func (.yield (w.heap.size+1)) #[] #[]]).toArray cj
    simpa [invoke]using this
  subst he;obtain⟨e,A,bX,oC,E,M,ai,bf,b2,d_,hn,_,jL,tP⟩:=hinv;refine⟨uw e,_,run_endLoop E (by cases ae<;>simp[gZ]),?_⟩;generalize bz:Obj.loop _=cG;have iW:dj (k e (sh.ae A)) O:=by
    cases ae with
    | true=>grind
    | false=>
      obtain⟨rfl,fC⟩:=jL rfl;exact (fC [] (show kn++[]=ic.seq x by grind)).2 _ rfl
  have xq:=λr h=>aJ' (U.iM r h) U.size;have wb:∀ r,C.K0 r->(hi.putObj (w.heap.size+1) cG).heap[r]?=C.ei.heap[r]?:=λr h=>by
    have cF:=xq r h;rw[World.putObj_heap_other (by omega),g4 r (by omega) λbh=>?_,we r cF]
    · exact U.fi r h
    · rcases bh with⟨b,V,rfl⟩ | rfl | rfl
      · exact (dd.own b V).2.2 h
      · omega
      omega
  have zG:dP C.ei (hi.putObj (w.heap.size+1) cG):=by
    have:=(U.e5.trans zF).trans g7;exact⟨this.os,this.tape,this.output⟩
  have Cb:C.kZ ⟨hi.putObj (w.heap.size+1) cG,λr=>C.K0 r\/r=w.heap.size,[w.heap.size]⟩:=
    { uv := λB bd => by
        have:B=w.heap.size:=by grind
        subst this;exact⟨.inr rfl,(World.putObj_heap_other (by omega)).trans M⟩
      fL:=λB bd=>by
        have:B=w.heap.size:=by grind
        subst this;exact⟨λh=>by grind,U.size⟩
      n1:=by simp
      kG:=λ_ h=>.inl h
      fi:=wb
      size:=by have:=U.size;simp;omega
      e5:=zG }
  have rZ:c7 (C.ik ⟨hi.putObj (w.heap.size+1) cG,λr=>C.K0 r\/r=w.heap.size,[w.heap.size]⟩) (sh.ae A) { a with defers:=[tg w.heap.size]++a.defers } (hi.putObj (w.heap.size+1) cG):=by
    have PH:∀ r,F' r->C.jf r\/¬(C.K0 r\/r=w.heap.size):=λr bE=>by
      rcases eB r bE with h | h | h
      · rcases dd.ie r h with eA | eA<;>grind
      · rcases h with⟨b,V,rfl⟩ | rfl | rfl
        · exact .inr λah=>ah.elim (dd.own b V).2.2 λe=>eG b V (.inr e)
        · grind
        grind
      grind
    refine⟨bX,F',oC.xw   oC.ek (by rw[U.dq];rfl) oC.hq oC.cc (λeo lR fI kn j7 e=>by have e:(sh.ae A).aD cw=.tr eo lR fI kn j7:=e;grind)
      (λr h=>World.putObj_heap_other λe=>by
        grind) (by simp) PH (λr h=>g1 r (dd.jg r h)) (λr h=>?_) (λ_ _=>rfl) (λb V h=>?_) (ajn _) (dP.refl _)⟩
    · simp
      grind
    · rcases h with h | h
      · rcases (g5 _ (ai b V).1).1 with bh | bh
        · rcases bh with⟨bl,da,e⟩ | e | e
          · exact (dd.own bl da).2.2 (e ▸ h)
          · grind
          grind
        grind
      grind
  have bM:=ah _ Cb e _ _ _ rZ iW;cases e with
  | normal=>exact bM
  | exit id=>exact wpIn_exit bM
  | ret=>exact wpIn_ret bM
theorem aoQ{C:cB}(dN:C.r=none){bet:Type}{s:aE}{a:Act}{w:World}(U:c7 C s a w){g:Operand}{bw:Array Tmp}{assign body:Code}{aN:aa}{S:List aN.ak->Prop}(aA:bs C.a8 s.aD g=.val (.cO aN) S)
    {sh rin dX:ep} (eP:pr sh dX aN bw.toList C.b5=true) {pw:sh.ak} (ps:sh.kp s=some pw) (fc:∃ L,S L)
    {run:aE->G (dQ×dX.ak)} {k:dQ->aE->G bet} {O:bet->Prop} (hm:∀ L,S L->dj (kY (λA y=>vS sh rin dX aN bw.toList A y run) L pw) λp=>dj (k p.1 (sh.ae p.2)) O)
    (FI:∀ l,JL C.P C.a8 C.b5 assign body l run) {Q:Exit->Act->World->Prop}
    (ah:∀ u,C.kZ u->∀ e s' a' w',c7 (C.ik u) s' a' w'->dj (k e s') O->Q e.qZ a' w'):(Code.rangeFunc g bw assign body).wpIn (e0 C.r) 0 C.P Q a w:=by
  obtain⟨kap,F,U⟩:=U;obtain⟨kap,F2,f3,dd⟩:=ep.B2 ps U;have ab:=lf U g;rw[aA]at ab;have sO:=fQ _ f3 (dy.refl _ _) ((eH rfl).1 ab).2;obtain⟨u,hu,_,aoR⟩:=sO;have hu:=(aKh hu).1;have oB:∀ A,(sh.ae A).aD cw=.undef:=λA=>by
    simp only[pr,ajm,aKj]at eP;exact zt sh.cc dz A cw eP.1.1.1.2
  rw[dN];refine wpIn_rangeFunc λfn _=>?_;have bd:w.heap.size<((w.alloc (.deferred (some []))).alloc (.loop (gZ fn a.tmps bw assign body w.heap.size .ready .normal))).heap.size:=by simp;omega
  have af:w.heap.size+1<((w.alloc (.deferred (some []))).alloc (.loop (gZ fn a.tmps bw assign body w.heap.size .ready .normal))).heap.size:=by simp
  have FM:((w.alloc (.deferred (some []))).alloc (.loop (gZ fn a.tmps bw assign body w.heap.size .ready .normal))).heap[w.heap.size+1]?=some (.loop (gZ fn a.tmps bw assign body w.heap.size .ready .normal)):=by
    have:=sM (w.alloc (.deferred (some []))) (.loop (gZ fn a.tmps bw assign body w.heap.size .ready .normal));simp_all
  have FN:((w.alloc (.deferred (some []))).alloc (.loop (gZ fn a.tmps bw assign body w.heap.size .ready .normal))).heap[w.heap.size]?=some (.deferred (some [])):=
    (qO _ _ (by simp)).trans (sM w _)
  have we:∀ r,r<w.heap.size->((w.alloc (.deferred (some []))).alloc (.loop (gZ fn a.tmps bw assign body w.heap.size .ready .normal))).heap[r]?=w.heap[r]?:=λr h=>Yn h;have FO:(Instr.enterLoop fn a.tmps bw assign body none).run C.P w=.ok (w.heap.size+1,[tg w.heap.size]) ((w.alloc (.deferred (some []))).alloc (.loop (gZ fn a.tmps bw assign body w.heap.size .ready .normal))):=run_enterLoop_outer fn a.tmps bw assign body;have zF:dP w ((w.alloc (.deferred (some []))).alloc (.loop (gZ fn a.tmps bw assign body w.heap.size .ready .normal))):=⟨rfl,rfl,rfl⟩
  have PF:((w.alloc (.deferred (some []))).alloc (.loop (gZ fn a.tmps bw assign body w.heap.size .ready .normal))).heap.size=w.heap.size+2:=by simp
  generalize (w.alloc (.deferred (some []))).alloc (.loop (gZ fn a.tmps bw assign body w.heap.size .ready .normal))=cj at bd af FM FN we FO zF PF;have rX:dy F2 w cj:=⟨by omega,λr h=>we r (dd.dH r h)⟩
  have fa:bH { C with ei:=cj,jf:=F2,K0:=λ_=>False } (sh.ae pw) a cj kap F2:=
    dd.xw dd.ek dd.dq dd.hq dd.cc (λeo lR fI kn j7 e=>by have e:(sh.ae pw).aD cw=.tr eo lR fI kn j7:=e;grind)
      (λr h=>we r (by
        rcases h with h | ⟨b,V,rfl⟩
        · exact dd.dH r h
        · exact (dd.own b V).1)) (by omega) (λ_ h=>.inl h) (λ_ h=>h) (λ_ h=>h.elim) (λ_ h=>h.elim) (λ_ _ h=>h) (ajn _) (dP.refl _)
  have PG:=Yo (S:=S) (C:=C) (CI:={ C with ei:=cj,jf:=F2,K0:=λ_=>False })   (rin:=rin)     (assign:=assign) (body:=body)   (fn:=fn) (l:=w.heap.size+1) (B:=w.heap.size) (run:=run) (k:=k) (O:=O)
    rfl (by omega) (by rw[U.ek];omega) (by rw[U.ek];grind)
  have eG:∀ b,((sh.ae pw).W b).body.cq (kap b)=true->¬((kap b).W=w.heap.size+1\/(kap b).W=w.heap.size):=λb V h=>by
    have:=(dd.own b V).1;omega
  obtain⟨ta,du,aoS,tb,OQ⟩:=aoR F2 cj (λ_ h=>h) rX (λr h=>fa.dH r h) fa.jW fc;have zI:=OQ (w.heap.size+1) _ (λr=>(∃ b,((sh.ae pw).W b).body.cq (kap b)=true/\(kap b).W=r)\/r=w.heap.size+1\/r=w.heap.size)
    (λr h=>by
      rcases h with⟨b,V,rfl⟩ | rfl | rfl
      · exact⟨(fa.own b V).1,(fa.own b V).2.1⟩
      · exact⟨af,λh=>by have:=dd.dH _ h;omega⟩
      · exact⟨bd,λh=>by have:=dd.dH _ h;omega⟩)
    PG ⟨.normal,pw,kap,fa,FM,FN,λb V=>⟨.inl ⟨b,V,rfl⟩,eG b V⟩,.inr (.inl rfl),.inr (.inr rfl),λh=>by have:=dd.dH _ h;omega,λh=>by have:=dd.dH _ h;omega,rfl,λ_=>⟨rfl,λR kH=>hm R kH⟩,λh=>by grind⟩
  refine⟨w.heap.size+1,[tg w.heap.size],cj,{ target:=.fn (.func ta) du,args:=#[.func (.yield (w.heap.size+1)) #[] #[]] },cj,ta,#[Value.func (.yield (w.heap.size+1)) #[] #[]]++du,cj,FO,?_,λ_ _=>trivial,?_,λh=>(by cases h),callsIn_wide.2 (zI.mono λe hi ⟨v,pre,ae,F',iv,he,h5,hinv,g1,eB,g3,g4,g5,g6,PI⟩=>?_)⟩
  · have e:a.eval (.const (.func (.yield (w.heap.size+1)) #[] #[]))=.func (.yield (w.heap.size+1)) #[] #[]:=rfl
    simp[resolve,hu,aoS,Deferred.ofValue,e]
  · have:=tb (#[Value.func (.yield (w.heap.size+1)) #[] #[]]++du) cj
    simpa [invoke]using this
  have g7:dP cj hi:=⟨PI.1,PI.2.1,PI.2.2⟩
  subst he;obtain⟨e,A,bX,oC,E,M,ai,bf,b2,d_,hn,_,jL,tP⟩:=hinv;refine⟨uw e,_,run_endLoop E (by cases ae<;>simp[gZ]),?_⟩;generalize bz:Obj.loop _=cG;have iW:dj (k e (sh.ae A)) O:=by
    cases ae with
    | true=>grind
    | false=>
      obtain⟨rfl,fC⟩:=jL rfl;exact (fC [] (show S (pre++[]) by grind)).2 _ rfl
  have xq:=λr h=>aJ' (U.iM r h) U.size;have wb:∀ r,C.K0 r->(hi.putObj (w.heap.size+1) cG).heap[r]?=C.ei.heap[r]?:=λr h=>by
    have cF:=xq r h;rw[World.putObj_heap_other (by omega),g4 r (by omega) λbh=>?_,we r cF]
    · exact U.fi r h
    · rcases bh with⟨b,V,rfl⟩ | rfl | rfl
      · exact (dd.own b V).2.2 h
      · omega
      omega
  have zG:dP C.ei (hi.putObj (w.heap.size+1) cG):=by
    have:=(U.e5.trans zF).trans g7;exact⟨this.os,this.tape,this.output⟩
  have Cb:C.kZ ⟨hi.putObj (w.heap.size+1) cG,λr=>C.K0 r\/r=w.heap.size,[w.heap.size]⟩:=
    { uv := λB bd => by
        have:B=w.heap.size:=by grind
        subst this;exact⟨.inr rfl,(World.putObj_heap_other (by omega)).trans M⟩
      fL:=λB bd=>by
        have:B=w.heap.size:=by grind
        subst this;exact⟨λh=>by grind,U.size⟩
      n1:=by simp
      kG:=λ_ h=>.inl h
      fi:=wb
      size:=by have:=U.size;simp;omega
      e5:=zG }
  have rZ:c7 (C.ik ⟨hi.putObj (w.heap.size+1) cG,λr=>C.K0 r\/r=w.heap.size,[w.heap.size]⟩) (sh.ae A) { a with defers:=[tg w.heap.size]++a.defers } (hi.putObj (w.heap.size+1) cG):=by
    have PH:∀ r,F' r->C.jf r\/¬(C.K0 r\/r=w.heap.size):=λr bE=>by
      rcases eB r bE with h | h | h
      · rcases dd.ie r h with eA | eA<;>grind
      · rcases h with⟨b,V,rfl⟩ | rfl | rfl
        · exact .inr λah=>ah.elim (dd.own b V).2.2 λe=>eG b V (.inr e)
        · grind
        grind
      grind
    refine⟨bX,F',oC.xw   oC.ek (by rw[U.dq];rfl) oC.hq oC.cc (λeo lR fI kn j7 e=>by have e:(sh.ae A).aD cw=.tr eo lR fI kn j7:=e;grind)
      (λr h=>World.putObj_heap_other λe=>by
        grind) (by simp) PH (λr h=>g1 r (dd.jg r h)) (λr h=>?_) (λ_ _=>rfl) (λb V h=>?_) (ajn _) (dP.refl _)⟩
    · simp
      grind
    · rcases h with h | h
      · rcases (g5 _ (ai b V).1).1 with bh | bh
        · rcases bh with⟨bl,da,e⟩ | e | e
          · exact (dd.own bl da).2.2 (e ▸ h)
          · grind
          grind
        grind
      grind
  have bM:=ah _ Cb e _ _ _ rZ iW;cases e with
  | normal=>exact bM
  | exit id=>exact wpIn_exit bM
  | ret=>exact wpIn_ret bM
section
variable {F:Fence} {n:Nat} {P:Program} {Q:Exit->Act->World->Prop} {a:Act} {w:World}
theorem aoT{c:Code}{JS bet:Type}{body:JS->G (bq JS bet)}{O:bet->Prop}(I:JS->Act->World->Prop)
  (round:∀ A a w,I A a w->(body A).et->(∀ r,(body A).bo (.done r)->O r)->c.wpIn F n P (Exit.then (λa' w'=>∃ j5,(body A).bo (.next j5)/\I j5 a' w') Q) a w)
  {A:JS} (az:DY body A) (au:∀ r,Bf body A r->O r) (fa:I A a w):(Code.loop c).wpIn F n P Q a w:=by
 intro b k cs tf V U;have key:∀ A,DY body A->(∀ r,Bf body A r->O r)->∀ a w,I A a w->
   ∃ e a' w',Q e a' w'/\ArrivesIn (Machine.fenced P F) P (lone (b.atR a (.code c::.inLoop c::k)) cs w) b k cs e a' w':=by
  intro A az;induction az with
  | mk A h _ aP=>
   intro au a w fa;obtain⟨e,nx,ny,bM,gg⟩:=round A a w fa h (λr U=>au r (.done _ _ U)) b (.inLoop c::k) cs tf V U;cases e with
   | normal=>
    obtain⟨j5,qf,aoU⟩:=bM;obtain⟨PJ,PK,PL,PM,PN⟩:=aP j5 qf (λr U=>au r (.next _ _ _ qf U)) nx ny aoU;exact⟨PJ,PK,PL,PM,.of_steps (StepsIn.trans gg (.one (fenced_calm V U rfl) stepR_inLoop)) PN⟩
   | exit id=>exact⟨_,nx,ny,bM,.pass   rfl (λ_ _=>.inl (by simp)) gg⟩
   | goto l=>exact⟨_,nx,ny,bM,.pass   rfl (λ_ _=>.inl (by simp)) gg⟩
   | ret=>exact⟨_,nx,ny,bM,.pass   rfl (λ_ _=>.inl (by simp)) gg⟩
   | panic PO=>exact⟨_,nx,ny,bM,.pass   rfl (λ_ _=>.inl (by simp)) gg⟩
   | outgrown=>exact⟨_,nx,ny,bM,.pass   rfl (λ_ _=>.inl (by simp)) gg⟩
 obtain⟨e,a',w',bM,gg⟩:=key A az au a w fa;exact⟨e,a',w',bM,.of_steps (.one (fenced_calm V U rfl) stepR_loop) gg⟩
theorem aoV{p q:Prop}(bM:q)(h:q->p):p/\q:=⟨h bM,bM⟩
def JT(F:Fence)(n:Nat)(P:Program)(c:Code)(Q:Exit->Act->World->Prop)(a:Act)(w:World):Prop:=
 ∀ (b:Frame) (k:List Item) (cs:List Frame),b.roundOf=F.round->F.fn b.fn->F.room (cs.length+1+n)->
  ∃ e a' w',Q e a' w'/\ArrivesIn (Machine.fenced P F) P (lone (b.atR a (.code c::.inLoop c::k)) cs w) b k cs e a' w'
theorem aoW{c:Code}(h:JT F n P c Q a w):(Code.loop c).wpIn F n P Q a w:=λb k cs tf V U=>by
 obtain⟨e,a',w',bM,gg⟩:=h b k cs tf V U;exact⟨e,a',w',bM,.of_steps (.one (fenced_calm V U rfl) stepR_loop) gg⟩
theorem aoX{c:Code}(h:c.wpIn F n P (Exit.then (λa' w'=>JT F n P c Q a' w') Q) a w):JT F n P c Q a w:=λb k cs tf V U=>by
 obtain⟨e,nx,ny,bM,gg⟩:=h b (.inLoop c::k) cs tf V U;cases e with
 | normal=>
  obtain⟨PJ,PK,PL,PM,PN⟩:=bM b k cs tf V U;exact⟨PJ,PK,PL,PM,.of_steps (StepsIn.trans gg (.one (fenced_calm V U rfl) stepR_inLoop)) PN⟩
 | exit id=>exact⟨_,nx,ny,bM,.pass   rfl (λ_ _=>.inl (by simp)) gg⟩
 | goto l=>exact⟨_,nx,ny,bM,.pass   rfl (λ_ _=>.inl (by simp)) gg⟩
 | ret=>exact⟨_,nx,ny,bM,.pass   rfl (λ_ _=>.inl (by simp)) gg⟩
 | panic PO=>exact⟨_,nx,ny,bM,.pass   rfl (λ_ _=>.inl (by simp)) gg⟩
 | outgrown=>exact⟨_,nx,ny,bM,.pass   rfl (λ_ _=>.inl (by simp)) gg⟩
theorem Cc{b:Frame}{k:List Item}{cs:List Frame}{c:Code}:step P (lone (b.atR a (.code (.scope c)::k)) cs w)=.next (lone (b.atR a (.code c::.inScope c::k)) cs w):=
 step_lone_go (by rfl)
theorem aoY{b:Frame}{k:List Item}{cs:List Frame}{c:Code}:step P (lone (b.atR a (.inScope c::k)) cs w)=.next (lone (b.atR a k) cs w):=
 step_lone_go (by rfl)
theorem aoZ{c:Code}(h:c.wpIn F n P (Exit.noGoto Q) a w):(Code.scope c).wpIn F n P Q a w:=by
 intro b k cs tf V U;have aZ:(lone (b.atR a (.code (.scope c)::k)) cs w).fenced P F:=fenced_calm V U rfl;obtain⟨e,nx,ny,bM,gg⟩:=h b (.inScope c::k) cs tf V U;cases e with
 | normal=>exact⟨.normal,nx,ny,bM,.head aZ Cc (StepsIn.trans gg (.one (fenced_calm V U rfl) aoY))⟩
 | exit id=>
  have al:exitTo id (.inScope c::k)=exitTo id k:=by rfl
  exact⟨.exit id,nx,ny,bM,λk' ah=>.head aZ Cc (gg.1 k' (by grind)),λbE ah=>let ⟨k₁,E,M⟩:=gg.2 bE (by grind);⟨k₁,E,.head aZ Cc M⟩⟩
 | goto l=>exact bM.elim
 | ret=>exact⟨.ret,nx,ny,bM,.of_steps (.one aZ Cc) gg⟩
 | panic PO=>exact⟨.panic PO,nx,ny,bM,.of_steps (.one aZ Cc) gg⟩
 | outgrown=>exact⟨.outgrown,nx,ny,bM,.of_steps (.one aZ Cc) gg⟩
end
section
variable {T:Nat->aa} {bK:Nat->Option aF} {Psi:Nat->Option gJ}
def ao0{A bet:Type}(m:G (bq A bet))(O:bet->Prop)(ae:bq A bet):Prop:=
 match ae with
 | .next s=>m.bo (.next s)
 | .done r=>O r
theorem ao1{C:cB}{s s':aE}{i:Nat}{a:Act}{w:World}(h:Oz s i=some s')(U:c7 C s a w):c7 C s' a w:=by
 obtain⟨kap,F,U⟩:=U;unfold Oz at h;split at h
 ·rename_i b g n off az;split at h
  ·rename_i e xs ca;split at h
   ·rename_i aA;cases h;have ab:=U.cc i;rw[az]at ab;obtain⟨aY,a_,b7⟩:=ab.2 aA (by rw[ca];rfl);rw[ca]at aY b7;have bd:=U.bR b;unfold cX at bd;rw[ca]at bd;obtain⟨cs,T,bx,c2,c3,c4,c5⟩:=bd.2 a_;have aY:n<xs.length:=aY;obtain⟨bI,d1,d2⟩:=c5 n aY;have d2:cr C.P (.slice e) F w bI xs[n]:=d2;obtain⟨u,rfl,hu⟩:=HU   rfl d2;have vv:cs.getD ((kap b).off+n) Go.undef=u:=by
     have:=d1 0 (by simp);simp  [aa.size,Nat.add_zero]at this;simp_all
    have gW:gb s.W kap (λq=>if q=b then (⟨g,.hJ (.ae (.slice e)) xs n (.val (.slice e) (xs.getD n []))⟩) else s.W q) kap:=
     sN aA (λh=>by cases h) (λ_=>by rw[ca];exact⟨rfl,rfl,rfl⟩) (λh=>by cases h) (λh=>by cases h)
    have dd:=U.qP       (by rw[ca];simp[cf.cq,a_]) (by simp[cf.cq,a_]) gW (λh=>by cases h) (λh=>by cases h) (λ_ _=>rfl) rfl (dP.refl w) λH oo cF he=>
     ⟨a_,cs,T,bx,c2,c3,c4,⟨rfl,aY⟩,λj aI _=>c5 j aI,by rw[vv,show xs.getD n []=xs[n] by grind];exact (eH rfl).2 ⟨hu,d2⟩,by rw[vv];exact M4   rfl d2⟩
    refine⟨kap,F,{ dd with cc:=λj=>?_,ek:=dd.ek,dq:=dd.dq,bR:=dd.bR,fo:=λl aN L m ae bt=>?_ }⟩
    ·show bQ _ _ _ _ _ (if j=i then _ else _) _;split
     ·rename_i aI;subst aI;refine⟨⟨by simp,ab.1.2⟩,λ_ _=>?_⟩;simp only[if_true];exact⟨aY,a_,b7⟩
     ·exact dd.cc j
    ·have bt:(if cw=i then _ else _)=aO.tr l aN L m ae:=bt;split at bt
     ·grind
     ·exact dd.fo l aN L m ae bt
   grind
  grind
 grind
theorem ao2{C:cB}{s s':aE}{b:Nat}{a:Act}{w:World}(h:OA s b=some s')(U:c7 C s a w):c7 C s' a w:=by
 obtain⟨kap,F,U⟩:=U;unfold OA at h;split at h
 ·rename_i e xs n v ca;split at h
  ·rename_i y ck bh;split at h
   ·grind
   ·cases h;have xb:b ∉ ck:=by grind
    obtain⟨F',f1,bE,f2⟩:=bH.mJ (oj bh) U;have Is:(s.cV ck).W b=s.W b:=by simp[aE.cV,xb]
    have bd:=U.bR b;have PQ:=bE.bR b;unfold cX at bd PQ;rw[Is,ca]at PQ;rw[ca]at bd;obtain⟨aZ,cs,T,bx,c2,c3,c4,c5,oi,qR,y1⟩:=PQ;obtain⟨_,ef,jh,Yw,_,_,_,_,_,ao3,_⟩:=bd;rw[bx]at Yw;cases Yw;have xc:=nQ U.bR f1 bh f2 ao3;obtain⟨JN,r4⟩:=(eH rfl).1 xc;have gW:gb (s.cV ck).W kap (λq=>if q=b then (⟨(s.W b).gen,.bu (.ae (.slice e)) (xs.set n y)⟩) else (s.cV ck).W q) kap:=
     sN (by grind) (λh=>by cases h) (λ_=>by rw[Is,ca];exact⟨rfl,by simp[cf.len],rfl⟩) (λh=>by cases h) (λh=>by cases h)
    refine⟨kap,F',bE.qP     (by rw[Is,ca];simp[cf.cq,aZ]) (by simp[cf.cq,aZ]) gW (λh=>by cases h) (λh=>by cases h) (λ_ _=>rfl) rfl (dP.refl w) λH oo cF he=>⟨λaC=>(by grind),λ_=>⟨cs,T,bx,c2,by grind,c4,λj aI=>?_⟩⟩⟩;by_cases vp:j=n
    ·subst vp;refine⟨[cs.getD ((kap b).off+j) Go.undef],λq bM=>?_,?_⟩
     ·have bM:q=0:=by grind
      have:(kap b).off+j<cs.size:=by
       grind
      simp_all
     ·rw[List.getElem_set_self];exact r4
    grind
  grind
 grind
theorem ao4:∀ (ann:cI),(∀ (C:cB) (_:C.P.follows .mixedOrders=true) (_:eO C.P T) (_:lM C.P bK) (_:oA C.P C.a8 Psi) (_:C.r=none\/ann.fh=true) {bet:Type} (c:Code) (s:aE) (k:dQ->aE->G bet) (O:bet->Prop) (Q:Exit->Act->World->Prop) (a:Act) (w:World),mT C.b5 c=true->c7 C s a w->dj (fs C.a8 T bK Psi ann c s k) O->(∀ u,C.kZ u->∀ e s' a' w',c7 (C.ik u) s' a' w'->dj (k e s') O->Q e.qZ a' w')->c.wpIn (e0 C.r) 0 C.P Q a w)/\(ann.qa=true->∀ (C:cB) (_:C.P.follows .mixedOrders=true) (_:eO C.P T) (_:lM C.P bK) (_:oA C.P C.a8 Psi) (_:C.r=none\/ann.fh=true) {bet:Type} (c:Code) (s:aE) (k:dQ->aE->G bet) (O:bet->Prop) (Q:Exit->Act->World->Prop) (a:Act) (w:World),mT C.b5 c=true->c7 C s a w->dj (fs C.a8 T bK Psi ann (.loop c) s k) O->(∀ u,C.kZ u->∀ e s' a' w',c7 (C.ik u) s' a' w'->dj (k e s') O->Q e.qZ a' w')->JT (e0 C.r) 0 C.P c Q a w):=by
 intro ann;induction ann with
 | fp=>
  refine⟨?_,λ_ C e2 be dk dE gH bet c s k O Q a w hc U hm ah=>by exact (hM hm).elim⟩;intro C e2 be dk dE gH bet c s k O Q a w hc U hm ah;unfold fs at hm;split at hm
  ·rename_i id ops draw;cases draw with
   | true=>exact aoj e2 be (XM dk dE) dE (λo au=>List.all_eq_true.1 hc o au) (λs' a' w' bE fC=>ah C.iP C.xv .normal s' a' w' bE fC) U hm
   | false=>
    refine wpIn_region ?_;have:=Pg     be dk dE (λo au=>List.all_eq_true.1 hc o au)     (λs' a' w' bE fC=>ah C.iP C.xv .normal s' a' w' bE fC) ops.toList 0 [] s a w (by simp) (λp aq=>by grind) U hm;rw[aLa];omega
  ·exact wpIn_skip (ah C.iP C.xv .normal s a w U hm)
  ·exact wpIn_label (ah C.iP C.xv .normal s a w U hm)
  ·exact wpIn_exit (ah C.iP C.xv (.exit _) s a w U hm)
  ·exact wpIn_ret (ah C.iP C.xv .ret s a w U hm)
  ·exact (hM hm).elim
 | seq x y iB mX=>
  have iB:=iB.1;have mX:=mX.1;refine⟨?_,λh=>by simp[cI.qa]at h⟩;intro C e2 be dk dE gH bet c s k O Q a w hc U hm ah;have nz:C.r=none\/x.fh=true:=gH.imp id λh=>by simp  [cI.fh]at h;grind
  have r5:C.r=none\/y.fh=true:=gH.imp id λh=>by simp  [cI.fh]at h;grind
  unfold fs at hm;split at hm
  ·rename_i px Cd;simp  [mT]at hc;refine wpIn_seq (iB C e2 be dk dE nz px s _ O _ a w hc.1 U hm λu hu e s' a' w' bE fC=>?_);cases e with
   | normal=>exact mX (C.ik u) e2 be dk dE r5 Cd s' k O Q a' w' hc.2 bE fC λv ab=>by rw[cB.Ca];exact ah _ (hu.then ab)
   | exit id=>exact ah u hu (.exit id) s' a' w' bE fC
   | ret=>exact ah u hu .ret s' a' w' bE fC
  ·exact (hM hm).elim
 | join sh x y iB mX=>
  have iB:=iB.1;have mX:=mX.1;refine⟨?_,λh=>by simp[cI.qa]at h⟩;intro C e2 be dk dE gH bet c s k O Q a w hc U hm ah;have nz:C.r=none\/x.fh=true:=gH.imp id λh=>by simp  [cI.fh]at h;grind
  have r5:C.r=none\/y.fh=true:=gH.imp id λh=>by simp  [cI.fh]at h;grind
  unfold fs at hm;split at hm
  ·rename_i px Cd;simp  [mT]at hc;rw[hp]at hm;refine wpIn_seq (iB C e2 be dk dE nz px s _ _ _ a w hc.1 U hm λu hu e s' a' w' bE fC=>?_);cases e with
   | normal=>
    obtain⟨A,ps,M⟩:=wa fC;have ai:=eY.1 M;exact mX (C.ik u) e2 be dk dE r5 Cd _ k O Q a' w' hc.2 (ep.zo ps bE) ai λv ab=>by rw[cB.Ca];exact ah _ (hu.then ab)
   | exit id=>
    simp  [zk,hp,eY,bq.hx]at fC;exact ah u hu (.exit id) s' a' w' bE fC
   | ret=>
    simp  [zk,hp,eY,bq.hx]at fC;exact ah u hu .ret s' a' w' bE fC
  ·exact (hM hm).elim
 | cond x y iB mX=>
  have iB:=iB.1;have mX:=mX.1;refine⟨?_,λh=>by simp[cI.qa]at h⟩;intro C e2 be dk dE gH bet c s k O Q a w hc U hm ah;have nz:C.r=none\/x.fh=true:=gH.imp id λh=>by simp  [cI.fh]at h;grind
  have r5:C.r=none\/y.fh=true:=gH.imp id λh=>by simp  [cI.fh]at h;grind
  unfold fs at hm;split at hm
  ·rename_i co px Cd;simp  [mT]at hc;unfold W2 at hm;split at hm
   ·rename_i t hu;obtain⟨kap,F,gL⟩:=U;have ab:=lf gL co;rw[hu]at ab;refine wpIn_cond_split (f'.1 ab) (λaT=>?_) (λaT=>?_)
    ·subst aT;exact iB C e2 be dk dE nz px s k O Q a w hc.1 ⟨kap,F,gL⟩ hm ah
    ·subst aT;exact mX C e2 be dk dE r5 Cd s k O Q a w hc.2 ⟨kap,F,gL⟩ hm ah
   ·rename_i g t hu;rw[l_]at hm;obtain⟨bz,hm⟩:=hm;obtain⟨kap,F,gL⟩:=U;have ab:=lf gL co;rw[hu]at ab;refine wpIn_cond_split (f'.1 (ab.1 bz)) (λaT=>?_) (λaT=>?_)
    ·subst aT;exact iB C e2 be dk dE nz px s k O Q a w hc.1 ⟨kap,F,gL⟩ hm ah
    ·subst aT;exact mX C e2 be dk dE r5 Cd s k O Q a w hc.2 ⟨kap,F,gL⟩ hm ah
   ·exact (hM hm).elim
  ·exact (hM hm).elim
 | block x iB=>
  have iB:=iB.1;refine⟨?_,λh=>by simp[cI.qa]at h⟩;intro C e2 be dk dE gH bet c s k O Q a w hc U hm ah;have nz:=gH;unfold fs at hm;split at hm
  ·rename_i id px;refine wpIn_block (iB C e2 be dk dE nz px s _ O _ a w hc U hm λu hu e s' a' w' bE fC=>?_);cases e with
   | normal=>exact ah u hu .normal s' a' w' bE fC
   | exit I9=>
    simp  [W1]at fC;simp  [dQ.qZ,Exit.inBlock];split at fC
    ·rename_i e;rw[if_pos e];exact ah u hu .normal s' a' w' bE fC
    ·rename_i e;rw[if_neg e];exact ah u hu (.exit I9) s' a' w' bE fC
   | ret=>exact ah u hu .ret s' a' w' bE fC
  ·exact (hM hm).elim
 | loop sh x iB=>
  have iB:=iB.1;refine⟨?_,λh=>by simp[cI.qa]at h⟩;intro C e2 be dk dE gH bet c s k O Q a w hc U hm ah;have nz:=gH;unfold fs at hm;split at hm
  ·rename_i px;obtain⟨A,ps,M⟩:=wa hm;refine aoT (I:=λA a w=>∃ u,C.kZ u/\c7 (C.ik u) (sh.ae A) a w)   (λA a w ⟨v,ab,fa⟩ sY Po=>?_) M.1 M.2 ⟨C.iP,C.xv,ep.zo ps U⟩;refine iB (C.ik v) e2 be dk dE nz px (sh.ae A) _ (ao0 (fs C.a8 T bK Psi x px (sh.ae A) (zk k λs'=>sh.ox s' λj5=>mpure (bq.next j5))) O) _ a w hc fa ⟨sY,λae h5=>?_⟩ λu hu e s' a' w' bE fC=>?_
   ·cases ae with
    | next j5=>exact h5
    | done r=>exact Po r h5
   ·cases e with
    | normal=>
     obtain⟨j5,PB,ai⟩:=wa fC;have bf:=eY.1 ai;exact⟨j5,bf,_,ab.then hu,by rw[<-cB.Ca];exact ep.zo PB bE⟩
    | exit id=>
     simp  [zk,hp,eY]at fC;exact ah _ (ab.then hu) (.exit id) s' a' w' (by rw[<-cB.Ca];omega) fC
    | ret=>
     simp  [zk,hp,eY]at fC;exact ah _ (ab.then hu) .ret s' a' w' (by rw[<-cB.Ca];omega) fC
  ·exact (hM hm).elim
 | scope x iB=>
  have iB:=iB.1;refine⟨?_,λh=>by simp[cI.qa]at h⟩;intro C e2 be dk dE gH bet c s k O Q a w hc U hm ah;have nz:=gH;unfold fs at hm;split at hm
  ·rename_i px;refine aoZ (iB C e2 be dk dE nz px s _ O _ a w hc U hm λu hu e s' a' w' bE fC=>?_);have:=ah u hu e s' a' w' bE fC;cases e<;>exact this
  ·exact (hM hm).elim
 | range sh rin dX x y iB mX=>
  have iB:=iB.1;have mX:=mX.1;refine⟨?_,λh=>by simp[cI.qa]at h⟩;intro C e2 be dk dE gH bet c s k O Q a w hc U hm ah;unfold fs at hm;split at hm
  ·rename_i g bw assign body;simp  [mT,ajl]at hc;obtain⟨aHH,Yx,Yy⟩:=hc;split at hm
   ·rename_i ta n fA aA;split at hm
    ·rename_i ic ao5;split at hm
     ·rename_i aHI ck al;split at hm
      ·rename_i eP;simp  at eP;obtain⟨eP,nz,r5⟩:=eP;obtain⟨A,ps,M⟩:=wa hm;rw[l_,hp]at M;simp  [W3]at M;have dN:=gH.resolve_right λh=>by cases h
       have PR:pr sh dX ic.aN bw.toList C.b5=true:=by
        simp  [pr,ajl]at eP ⊢;grind
       refine aoO dN U aA (dE ta _ ao5) al PR ps M.1 M.2 (λl=>?_) ah;intro C1 iT vy th cM s1 cd cj r2 ot lW;have h:=iB C1 (iT ▸ e2) (iT ▸ be) (iT ▸ dk) (by grind) (.inr nz) assign s1 (I_ λs2=>fs C.a8 T bK Psi y body s2 λe eR=>dX.ox eR λbG=>mpure (e,bG)) r2
        (Exit.then (λa2 dM=>∃ u s2,C1.kZ u/\c7 (C1.ik u) s2 a2 dM/\
         ∀ (iA:cB),iA.P=C.P->iA.a8=C.a8->iA.b5=C.b5->iA.r=some l->∀ (dM:World),c7 iA s2 a2 dM->
          body.wpIn (e0 (some l)) 0 C.P (λe a3 hi=>∃ (bt:dQ) (v:pt) (eR:aE) (bG:dX.ak),e=bt.qZ/\iA.kZ v/\c7 (iA.ik v) eR a3 hi/\dX.kp eR=some bG/\r2 (bt,bG)) a2 dM) (λ_ _ _=>False)) cd cj (th ▸ Yx) ot (vy ▸ lW)
        λu hu e s2 a2 dM dd b_=>?_
       ·grind
       ·cases e with
        | normal=>
         refine⟨u,s2,hu,dd,λiA zJ PS PT ao6 dM oC=>?_⟩;have h:=mX iA (zJ ▸ e2) (zJ ▸ be) (zJ ▸ dk) (by grind) (.inr r5) body s2 (λe eR=>dX.ox eR λbG=>mpure (e,bG)) r2
          (λe a3 hi=>∃ (bt:dQ) (v:pt) (eR:aE) (bG:dX.ak),e=bt.qZ/\iA.kZ v/\c7 (iA.ik v) eR a3 hi/\dX.kp eR=some bG/\r2 (bt,bG)) a2 dM (PT ▸ Yy) oC (PS ▸ b_) λv ab e eR a3 hi qe JU=>by
           obtain⟨bG,hh,b2⟩:=wa JU;exact⟨e,v,eR,bG,rfl,ab,qe,hh,eY.1 b2⟩
         grind
        | exit id=>exact (hM b_).elim
        | ret=>exact (hM b_).elim
      ·exact (hM hm).elim
     ·exact (hM hm).elim
    ·exact (hM hm).elim
   ·rename_i aN S aA;split at hm
    ·rename_i eP;simp  at eP;obtain⟨eP,nz,r5⟩:=eP;obtain⟨A,ps,M⟩:=wa hm;rw[hp]at M;have dN:=gH.resolve_right λh=>by cases h
     have PR:pr sh dX aN bw.toList C.b5=true:=by
      simp  [pr,ajl]at eP ⊢;grind
     refine aoQ dN U aA PR ps M.1 (λL kF=>by have ai:=hp.1 (M.2 L kF);simp  [W3]at ai;omega) (λl=>?_) ah;intro C1 iT vy th cM s1 cd cj r2 ot lW;have h:=iB C1 (iT ▸ e2) (iT ▸ be) (iT ▸ dk) (by grind) (.inr nz) assign s1 (I_ λs2=>fs C.a8 T bK Psi y body s2 λe eR=>dX.ox eR λbG=>mpure (e,bG)) r2
      (Exit.then (λa2 dM=>∃ u s2,C1.kZ u/\c7 (C1.ik u) s2 a2 dM/\
       ∀ (iA:cB),iA.P=C.P->iA.a8=C.a8->iA.b5=C.b5->iA.r=some l->∀ (dM:World),c7 iA s2 a2 dM->
        body.wpIn (e0 (some l)) 0 C.P (λe a3 hi=>∃ (bt:dQ) (v:pt) (eR:aE) (bG:dX.ak),e=bt.qZ/\iA.kZ v/\c7 (iA.ik v) eR a3 hi/\dX.kp eR=some bG/\r2 (bt,bG)) a2 dM) (λ_ _ _=>False)) cd cj (th ▸ Yx) ot (vy ▸ lW)
      λu hu e s2 a2 dM dd b_=>?_
     ·grind
     ·cases e with
      | normal=>
       refine⟨u,s2,hu,dd,λiA zJ PS PT ao6 dM oC=>?_⟩;have h:=mX iA (zJ ▸ e2) (zJ ▸ be) (zJ ▸ dk) (by grind) (.inr r5) body s2 (λe eR=>dX.ox eR λbG=>mpure (e,bG)) r2
        (λe a3 hi=>∃ (bt:dQ) (v:pt) (eR:aE) (bG:dX.ak),e=bt.qZ/\iA.kZ v/\c7 (iA.ik v) eR a3 hi/\dX.kp eR=some bG/\r2 (bt,bG)) a2 dM (PT ▸ Yy) oC (PS ▸ b_) λv ab e eR a3 hi qe JU=>by
         obtain⟨bG,hh,b2⟩:=wa JU;exact⟨e,v,eR,bG,rfl,ab,qe,hh,eY.1 b2⟩
       grind
      | exit id=>exact (hM b_).elim
      | ret=>exact (hM b_).elim
    ·exact (hM hm).elim
   ·exact (hM hm).elim
  ·exact (hM hm).elim
 | pq x y iB mX=>
  refine aoV (λ_ C e2 be dk dE gH bet c s k O Q a w hc U hm ah=>?_) λkey C e2 be dk dE gH bet c s k O Q a w hc U hm ah=>?_
  ·have nz:C.r=none\/x.fh=true:=gH.imp id λh=>by simp  [cI.fh]at h;grind
   have r5:C.r=none\/y.fh=true:=gH.imp id λh=>by simp  [cI.fh]at h;grind
   unfold fs at hm;simp  at hm;split at hm
   ·rename_i hu;refine aoX (iB.1 C e2 be dk dE nz c s _ O _ a w hc U hm λu vU e s' a' w' bE fC=>?_);cases e with
    | normal=>exact mX.2 hu (C.ik u) e2 be dk dE r5 c s' k O Q a' w' hc bE fC λv ab=>by rw[cB.Ca];exact ah _ (vU.then ab)
    | exit id=>exact ah u vU (.exit id) s' a' w' bE fC
    | ret=>exact ah u vU .ret s' a' w' bE fC
   ·exact (hM hm).elim
  ·cases c with
   | loop px=>exact aoW (key rfl C e2 be dk dE gH px s k O Q a w hc U hm ah)
   | _=>unfold fs at hm;exact (hM hm).elim
 | I8=>
  refine⟨?_,λh=>by simp[cI.qa]at h⟩;intro C e2 be dk dE gH bet c s k O Q a w hc U hm ah;unfold fs at hm;split at hm
  ·split at hm
   ·rename_i h;rw[ajm]at h;obtain⟨rfl,h⟩:=h;exact aop e2 (gH.resolve_right (by simp[cI.fh])) h be (XM dk dE) dE (λo au=>List.all_eq_true.1 hc o au) (λs' a' w' bE fC=>ah C.iP C.xv .normal s' a' w' bE fC) U hm
   ·exact (hM hm).elim
  ·exact (hM hm).elim
 | pf i x aP=>
  have aP:=aP.1;refine⟨?_,λh=>by simp[cI.qa]at h⟩;intro C e2 be dk dE gH bet c s k O Q a w hc U hm ah;unfold fs at hm;split at hm
  ·rename_i s' ab;exact aP C e2 be dk dE gH c s' k O Q a w hc (ao1 ab U) hm ah
  ·exact (hM hm).elim
 | I7 b x aP=>
  have aP:=aP.1;refine⟨?_,λh=>by simp[cI.qa]at h⟩;intro C e2 be dk dE gH bet c s k O Q a w hc U hm ah;unfold fs at hm;split at hm
  ·rename_i s' ab;exact aP C e2 be dk dE gH c s' k O Q a w hc (ao2 ab U) hm ah
  ·exact (hM hm).elim
 | num i n x aP=>
  have aP:=aP.1;refine⟨?_,λh=>by simp[cI.qa]at h⟩;intro C e2 be dk dE gH bet c s k O Q a w hc U hm ah;unfold fs at hm;split at hm
  ·rename_i v f ab;rw[l_]at hm;have h:=hm.2;rw[al' ab hm.1]at h;exact aP C e2 be dk dE gH c s k O Q a w hc U h ah
  ·exact (hM hm).elim
 | split i off n x aP=>
  have aP:=aP.1;refine⟨?_,λh=>by simp[cI.qa]at h⟩;intro C e2 be dk dE gH bet c s k O Q a w hc U hm ah;unfold fs at hm;split at hm
  ·rename_i v f ab;rw[l_]at hm;have h:=WZ hm.2 hm.1.1 hm.1.2;rw[al_ ab hm.1.1]at h;exact aP C e2 be dk dE gH c s k O Q a w hc U h ah
  ·exact (hM hm).elim
theorem Yz(ann:cI):∀ (C:cB) (_:C.P.follows .mixedOrders=true) (_:eO C.P T) (_:lM C.P bK) (_:oA C.P C.a8 Psi) (_:C.r=none\/ann.fh=true) {bet:Type} (c:Code) (s:aE) (k:dQ->aE->G bet) (O:bet->Prop) (Q:Exit->Act->World->Prop) (a:Act) (w:World),mT C.b5 c=true->c7 C s a w->dj (fs C.a8 T bK Psi ann c s k) O->(∀ u,C.kZ u->∀ e s' a' w',c7 (C.ik u) s' a' w'->dj (k e s') O->Q e.qZ a' w')->c.wpIn (e0 C.r) 0 C.P Q a w:=(ao4 ann).1
end
end Go.Fer
namespace Go.Fer
open Go.RowKit
def FP(T:Nat->aa)(s:aE):List ResultVar->Option (List aO)
 | []=>some []
 | r::l=>match FP T s l with
  | none=>none
  | some aJ=>match r with
   | .tmp t=>some (s.aD t::aJ)
   | .cell a ty=>match (Br (T ty) (s.aD a)).run s.W with
    | some v=>some (v::aJ)
    | none=>none
def PU(t:aa)(n:Nat):Bool:=
 match t with
 | .ar _ _=>n != 1
 | .dp=>n == 0
 | _=>n == 1
def xx(T:Nat->aa)(lQ:List ResultVar)(tr:aa)(e:dQ)(s:aE):G tr.ak:=
 match e with
 | .exit _=>eu
 | _=>match FP T s lQ with
  | some avs=>match (km tr avs).run s.W with
   | some (y,_)=>mpure y
   | none=>eu
  | none=>eu
def FQ(t:aa)(x:t.ak)(n:Nat):List (Nat×aO):=(List.range n).map λi=>(i,lH t x i)
def wg(t:aa):Nat:=if t=.dp then 0 else lb t
def q4(t:aa)(x:t.ak):aE:=WL (FQ t x (wg t)) []
def zK(ba:ew)(T:Nat->aa)(bK:Nat->Option aF)(Psi:Nat->Option gJ)(fn:Func)(c:Code)(ann:cI)(ts tr:aa)(x:ts.ak):G tr.ak:=
 fs ba T bK Psi ann c (q4 ts x) (xx T fn.results.toList tr)
def JV(av:aO):aO:=match av with | .val (.bV e) p=>.eI e (p.getD e.dK) | v=>v
def FR(av:aO):Prop:=match av with | .val (.bV _) p=>p.isSome=true | _=>True
def JW(n:Nat)(s:aE):aE:=⟨λi=>if i<n\/fF<i then s.aD i else JV (s.aD i),s.W⟩
def FT(n:Nat)(s:aE):Prop:=∀ i,¬(i<n\/fF<i)->FR (s.aD i)
def ao7(ba:ew)(T:Nat->aa)(bK:Nat->Option aF)(Psi:Nat->Option gJ)(fn:Func)(c:Code)(ann:cI)(n:Nat)(ts tr:aa)(x:ts.ak):G tr.ak:=
 ad (FT n (q4 ts x)) (fs ba T bK Psi ann c (JW n (q4 ts x)) (xx T fn.results.toList tr))
def FU(fn:Func)(c:Code)(ts tr:aa):Bool:=
 mT fn.ntmps c && PU tr fn.results.size && decide (wg ts <= fn.ntmps) && !(fn.name == "runtime.NumGoroutine") && decide (fn.ntmps <= fF)
def Ce:z9'->List aO->Option (List aO)
 | [],[]=>some []
 | none::g,v::aJ=>match Ce g aJ with
  | some l=>some (v::l)
  | none=>none
 | some n::g,v::aJ=>match v,Ce g aJ with
  | .agg m f,some l=>if m=n then some ((List.range n).map f++l) else none
  | _,_=>none
 | _,_=>none
def JX(T:Nat->aa)(lQ:List ResultVar)(lS:z9')(bo:ep)(e:dQ)(s:aE):G bo.ak:=
 match e with
 | .exit _=>eu
 | _=>match FP T s lQ with
  | some avs=>match Ce lS avs with
   | some l=>match decide (l.length<=fF) with
    | true=>bo.ox (uh s l) λbG=>mpure bG
    | false=>eu
   | none=>eu
  | none=>eu
def PV(ba:ew)(T:Nat->aa)(bK:Nat->Option aF)(Psi:Nat->Option gJ)(fn:Func)(c:Code)(ann:cI)(cH bo:ep)(lS:z9')(A:cH.ak):G bo.ak:=
 fs ba T bK Psi ann c (cH.ae A) (JX T fn.results.toList lS bo)
def FV(fn:Func)(c:Code)(lT:Nat)(lS:z9'):Bool:=
 mT fn.ntmps c && decide (fn.results.size = lS.length) && decide (lT <= fn.ntmps) && !(fn.name == "runtime.NumGoroutine") && decide (fn.ntmps <= fF)
section
variable {C:cB} {T:Nat->aa} {bK:Nat->Option aF} {Psi:Nat->Option gJ}
def Cf(tmps:Array Value)(r:ResultVar):Sem Value:=
 match r with
 | .tmp t=>pure (tmps.getD t undef)
 | .cell b t=>do loadVar t (<-asAddr (tmps.getD b undef))
theorem YA(fn:Func)(tmps:Array Value):results fn tmps=(fn.results.mapM (Cf tmps) >>= λaJ=>pure (if h:aJ.size=1 then aJ[0] else .tuple aJ)):=by
 rfl
theorem YB(be:eO C.P T){s:aE}{a:Act}{w:World}{kap:Nat->bP}{F:Nat->Prop}(U:bH C s a w kap F):∀ (lQ:List ResultVar) {avs:List aO},FP T s lQ=some avs->
  ∃ aJ:List Value,(lQ.mapM (Cf a.tmps)).run C.P w=.ok aJ w/\aJ.length=lQ.length/\avs.length=lQ.length/\
   ∀ i (h:i<avs.length) (eA:i<aJ.length),bQ C.P s.W kap F w avs[i] aJ[i]:=by
 intro lQ;induction lQ with
 | nil=>intro avs h;cases h;simp
 | cons r lQ aP=>
  intro avs h;simp  [FP]at h;split at h
  ·grind
  ·rename_i l af;obtain⟨aJ,E,M,ai,bf⟩:=aP af;have one:∃ av v,avs=av::l/\(Cf a.tmps r).run C.P w=.ok v w/\bQ C.P s.W kap F w av v:=by
    split at h
    ·rename_i t;cases h;exact⟨_,_,rfl,rfl,U.cc t⟩
    ·rename_i b ty;split at h
     ·rename_i v ab;cases h;obtain⟨u,aY,a_⟩:=VN be U ab (U.cc b);refine⟨v,u,rfl,?_,a_⟩;unfold Instr.loadAt at aY;unfold Cf;simp only;generalize a.tmps.getD b Go.undef=z at aY ⊢;cases z with
      | pointer p=>
       cases p with
       | none=>simp[Instr.sureAddr]at aY
       | some p=>simpa [Instr.sureAddr,asAddr]using aY
      | _=>simp[Instr.sureAddr]at aY
     grind
   obtain⟨av,v,rfl,aY,a_⟩:=one;refine⟨v::aJ,?_,by grind,by grind,λi D eE=>?_⟩
   ·simp_all
   grind
theorem ao8(be:eO C.P T){fn:Func}{tr:aa}(xy:PU tr fn.results.size=true){e:dQ}{s:aE}{a:Act}{w:World}{O:tr.ak->Prop}(U:c7 C s a w)(hm:dj (xx T fn.results.toList tr e s) O) :
  (∀ id,e≠.exit id)/\∃ kap F v y,bH C s a w kap F/\(results fn a.tmps).run C.P w=.ok v w/\O y/\∃ F',(∀ r,F' r->C.jf r\/¬C.K0 r)/\(∀ r,F' r->r<w.heap.size)/\vm C.P tr F' w v y:=by
 obtain⟨kap,F,U⟩:=U;unfold xx at hm;split at hm
 ·exact (hM hm).elim
 ·rename_i fc;refine⟨λid he=>fc id he,?_⟩;split at hm
  ·rename_i avs PW;split at hm
   ·rename_i y l bh;obtain⟨aJ,E,M,ai,bf⟩:=YB be U _ PW;obtain⟨F',f1,bE,f2⟩:=bH.mJ (rP _ bh) U;have fV:=xg (F':=F') U.bR f1 tr bh f2 (by omega) bf;have dD:(results fn a.tmps).run C.P w=.ok (if h:aJ.toArray.size=1 then aJ.toArray[0] else .tuple aJ.toArray) w:=by
     rw[YA];have:(fn.results.mapM (Cf a.tmps)).run C.P w=.ok aJ.toArray w:=by
      rw[Array.mapM_eq_mapM_toList,map_eq_pure_bind,Sem.run_bind,E];rfl
     simp_all
    refine⟨kap,F,_,y,U,dD,eY.1 hm,F',bE.ie,bE.dH,aJ,?_,fV⟩;have cY:aJ.length=fn.results.size:=by omega
    rw[<-cY]at xy;clear dD fV E bf M cY bh;have one:aJ.length=1->aJ=[if h:aJ.toArray.size=1 then aJ.toArray[0] else .tuple aJ.toArray]:=by
     intro h;match aJ,h with
     | [v],_=>rfl
    cases tr<;>simp only[PU,beq_iff_eq,bne_iff_ne,ne_eq]at xy<;>simp only[HQ];case ar=>grind
    case dp=>
     grind
    all_goals exact one xy
   ·exact (hM hm).elim
  ·exact (hM hm).elim
theorem YC{l:List (Nat×aO)}{i:Nat}:gh l i=.undef\/(i,gh l i)∈l:=by
 induction l with
 | nil=>exact .inl rfl
 | cons p l aP=>
  simp  [gh];grind
theorem wh{P : Program}{k : FuncId}{fn : Func}{c : Code}(aw : P.funcs[k]? = some fn)(V : fn.body = some c)(aC : (fn.name == "runtime.NumGoroutine") = false)(args : Array Value)(w : World) :
  (callFunc k args).run P w=.ok (.enter k args) w:=by
 have aC : ¬ fn.name = "runtime.NumGoroutine" := by grind
 simp[callFunc,aw,V,aC]
def r6(w:World):List Nat->World
 | []=>w
 | B::ms=>r6 (w.putObj B (.deferred none)) ms
theorem YD:∀ (ms:List Nat) (w:World),(r6 w ms).heap.size=w.heap.size
 | [],_=>rfl
 | _::ms,_=>(YD ms _).trans World.putObj_size
theorem PX:∀ (ms:List Nat) (w:World) {r:Nat},r ∉ ms->(r6 w ms).heap[r]?=w.heap[r]?
 | [],_,_,_=>rfl
 | B::ms,w,r,h=>by
  simp  at h;exact (PX ms _ h.2).trans (World.putObj_heap_other h.1)
theorem YE:∀ (ms:List Nat) (w:World),dP w (r6 w ms)
 | [],w=>dP.refl w
 | B::ms,w=>by
  have h:dP w (w.putObj B (.deferred none)):=⟨rfl,rfl,rfl⟩
  exact h.trans (YE ms _)
theorem PY{P:Program}{fn:Func}{tmps:Array Value}{R:Ending->World->Prop}:∀ (ms:List Nat) (w:World),ms.Nodup->(∀ B∈ms,w.heap[B]?=some (.deferred (some [])))->
  (∃ v,(results fn tmps).run P (r6 w ms)=.ok v (r6 w ms)/\R (.returned v) (r6 w ms))->LeavesInM Fence.wide 0 P fn tmps R (ms.map tg) .returning w
 | [],w,_,_,h=>h
 | B::ms,w,aC,bd,h=>by
  simp  at aC;refine⟨by simp,.inl ⟨B,_,rfl,run_takeDeferred (bd B (by simp)),?_⟩⟩;exact PY ms _ aC.2 (λao9 eA=>(World.putObj_heap_other λe=>aC.1 (by grind)).trans (bd ao9 (ajp _ eA))) h
theorem c7.YF{u:pt}{s:aE}{a:Act}{w:World}(hu:C.kZ u)(ao_:∀ r,C.jf r->r<C.ei.heap.size)(xq:∀ r,C.K0 r->r<C.ei.heap.size)(h:c7 (C.ik u) s a w) :
  c7 { C with dq:=u.ms.map tg++C.dq } s a (r6 w u.ms)/\a.defers=u.ms.map tg++C.dq/\∀ B∈u.ms,w.heap[B]?=some (.deferred (some [])):=by
 obtain⟨kap,F,h⟩:=h;have aHJ:∀ B∈u.ms,¬F B:=λB bd aw=>by
  obtain⟨E,_⟩:=hu.uv B bd;rcases h.ie B aw with M | M
  ·have:=ao_ B M;have:=(hu.fL B bd).2;omega
  ·exact M E
 have cY:=YD u.ms w;have hc:=YE u.ms w;refine⟨⟨kap,F,h.JK         (λr U=>hu.kG r U) (λr U=>PX _ _ λhm=>?_) (aLR cY.symm) hc xq (λr U=>?_) ?_ ?_⟩,h.dq,λB bd=>?_⟩
 ·rcases U with U | U
  ·grind
  ·exact U (hu.uv r hm).1
 ·exact (PX _ _ λhm=>(hu.fL r hm).1 U).trans ((h.fi r (hu.kG r U)).trans (hu.fi r U))
 ·rw[cY];exact aKa hu.size h.size
 ·exact (hu.e5.trans h.e5).trans hc
 ·exact (h.fi B (hu.uv B bd).1).trans (hu.uv B bd).2
theorem YG{P:Program}{ba:ew}(e2:P.follows .mixedOrders=true){k:FuncId}{fn:Func}{c:Code}{ann:cI}{ts tr:aa}{sh:ts.ak->G tr.ak}(be:eO P T)(jB:sL P ba)(dk:lM P bK)(dE:oA P ba Psi)(aw:P.funcs[k]?=some fn)(V:fn.body=some c)
  (cJ:FU fn c ts tr=true) {s0:ts.ak->aE} {pre:ts.ak->Prop} (mW:∀ x C a w,c7 C (q4 ts x) a w->pre x->c7 C (s0 x) a w)
  (pU:∀ x,aR (ad (pre x) (fs ba T bK Psi ann c (s0 x) (xx T fn.results.toList tr))) (sh x)):je P k ts tr sh:=by
 simp only[FU,ajm,aKj,ajl]at cJ;obtain⟨⟨⟨⟨FW,xy⟩,ao'⟩,PZ⟩,vZ⟩:=cJ;refine⟨wh aw V PZ,λF w args x bF hs fV sY=>?_⟩;obtain⟨⟨iR,E⟩,M⟩:=pU x sY;have hlen:args.length=wg ts/\∀ i,i<wg ts->∀ (H:Nat->b') (kap:Nat->bP),bQ P H kap F w (lH ts x i) (args.getD i Go.undef):=by
  unfold wg;split
  ·rename_i e;subst e;have:args=[]:=fV.1;grind
  ·rename_i e;exact⟨(vH (H:=λ_=>⟨0,.gp⟩) (kap:=λ_=>⟨0,0,0,false⟩) ts fV e).1,λi D H kap=>(vH ts fV e).2 i D⟩
 let C:cB:={ P:=P,ei:=w,jf:=F,K0:=λr=>r<w.heap.size,b5:=fn.ntmps,r:=none,dq:=[],jy:=λ_=>none,cP:=⟨0,.dp,λ_=>False,λ_ _ _ _ _=>False⟩,a8:=ba }
 let a0:Act:={ tmps:=args.toArray++Array.replicate (fn.ntmps - args.toArray.size) undef,defers:=[] }
 let apa:Nat->bP:=λ_=>⟨0,0,0,false⟩
 have rY:∀ i,(q4 ts x).aD i=.undef\/(i<wg ts/\(q4 ts x).aD i=lH ts x i):=λi=>by
  rcases YC     with e | e
  ·exact .inl e
  ·refine .inr ?_;generalize bD:gh (FQ ts x (wg ts)) i=z at e;simp  [FQ,aJ8]at e;obtain⟨j,aI,rfl,rfl⟩:=e;exact⟨aI,bD⟩
 have U:c7 C (q4 ts x) a0 w:=by
  refine⟨apa,F,{ ek:=?_,dq:=rfl,cc:=λi=>?_,bR:=λb=>trivial,own:=λb V=>(by cases V),inj:=λb bl V _ _=>(by cases V),dH:=bF,ie:=λr U=>.inl U,jg:=λr U=>U,iM:=λr U=>U,fi:=λr _=>rfl,size:=ajn _,e5:=dP.refl w,hq:=vZ,lC:=λb r h=>(by grind),kQ:=λb r h=>(by grind),lD:=λb k h=>(by grind),lE:=λb k h=>(by grind),fo:=λl aN L n ae e=>?_,kR:=jB,jW:=hs }⟩
  ·grind
  ·rcases rY i with e | ⟨D,e⟩
   ·rw[e];simp  [bQ]
   ·have:a0.tmps.getD i Go.undef=args.getD i Go.undef:=by
     have eE:i<args.length:=by omega
     simp[a0,Array.getElem?_append,eE]
    grind
  ·rcases rY cw with h | ⟨h,_⟩
   ·grind
   ·unfold cw fF at *;omega
 refine callsIn_wide.1 (callsIn_of_wp_marks   (n:=0) aw V trivial ?_);have hw:=Yz ann C e2 be dk dE (.inl rfl) (k:=xx T fn.results.toList tr) (O:=(fs ba T bK Psi ann c (s0 x) (xx T fn.results.toList tr)).bo) (Q:=bodyPostM Fence.wide 0 P fn λe w'=>∃ v y,e=.returned v/\(sh x).bo y/\vm P tr (w0 F w w') w' v y/\Below w.heap.size w w') c (s0 x) a0 w FW (mW x C a0 w U iR) ⟨E,λ_ h=>h⟩;refine hw λu hu e s' a' w' bE hm=>?_;obtain⟨dd,an,bd⟩:=c7.YF hu bF (λ_ h=>h) bE;obtain⟨fc,kap,F1,v,y,gL,dD,bh,F',f1,f2,ih⟩:=ao8   be xy dd hm;have zb:LeavesInM Fence.wide 0 P fn a'.tmps (λe w'=>∃ v y,e=.returned v/\(sh x).bo y/\vm P tr (w0 F w w') w' v y/\Below w.heap.size w w') a'.defers .returning w':=by
  rw[an];simp only[C,aKg];refine PY u.ms w' hu.n1 bd ⟨v,dD,v,y,rfl,M y bh,?_,gL.e5.os,gL.e5.tape,gL.e5.output,gL.size,gL.fi⟩;obtain⟨aJ,aY,a_,b7⟩:=ih;refine⟨aJ,aY,a_,fQ tr (λr U=>?_) (dy.refl _ _) b7⟩;rcases f1 r U with h | h
  ·exact .inl h
  ·exact .inr ⟨aLD h,f2 r U⟩
 cases e with
 | normal=>exact zb
 | exit id=>grind
 | ret=>exact zb
theorem apb{P:Program}{ba:ew}(e2:P.follows .mixedOrders=true){k:FuncId}{fn:Func}{c:Code}{ann:cI}{ts tr:aa}{sh:ts.ak->G tr.ak}(be:eO P T)(jB:sL P ba)(dk:lM P bK)(dE:oA P ba Psi)(aw:P.funcs[k]?=some fn)(V:fn.body=some c)
  (cJ:FU fn c ts tr=true) (pU:∀ x,aR (zK ba T bK Psi fn c ann ts tr x) (sh x)):je P k ts tr sh:=
 YG e2 be jB dk dE aw V cJ (ann:=ann) (s0:=q4 ts) (pre:=λ_=>True) (λ_ _ _ _ h _=>h) λx az=>⟨⟨trivial,(pU x az).1⟩,(pU x az).2⟩
theorem apc{C:cB}{s:aE}{a:Act}{w:World}{n:Nat}(h:c7 C s a w)(hc:FT n s):c7 C (JW n s) a w:=by
 obtain⟨kap,F,U⟩:=h;refine⟨kap,F,{ U with cc:=λi=>?_,ek:=U.ek,dq:=U.dq,bR:=U.bR,fo:=λl aN L m ae e=>?_ }⟩
 ·show bQ C.P s.W kap F w (if i<n\/fF<i then s.aD i else JV (s.aD i)) _;split
  ·exact U.cc i
  ·rename_i D;have ab:=U.cc i;have aq:=hc i D;unfold JV;unfold FR at aq;split
   ·rename_i e p he;rw[he]at ab aq;obtain⟨_,ab⟩:=(eH rfl).1 ab;rcases ab with⟨_,rfl⟩ | ⟨q,y,bI,bM,rfl,aY,a_⟩
    ·grind
    ·exact⟨q,bI,(aKh bM).1,aY,a_⟩
   omega
 ·have e:(if cw<n\/fF<cw then s.aD cw else JV (s.aD cw))=.tr l aN L m ae:=e;rw[if_pos (.inr (by decide))]at e;exact U.fo l aN L m ae e
theorem apd{P:Program}{ba:ew}(e2:P.follows .mixedOrders=true){k:FuncId}{fn:Func}{c:Code}{ann:cI}{n:Nat}{ts tr:aa}{sh:ts.ak->G tr.ak}(be:eO P T)(jB:sL P ba)(dk:lM P bK)(dE:oA P ba Psi)(aw:P.funcs[k]?=some fn)(V:fn.body=some c)
  (cJ:FU fn c ts tr=true) (pU:∀ x,aR (ao7 ba T bK Psi fn c ann n ts tr x) (sh x)):je P k ts tr sh:=
 YG e2 be jB dk dE aw V cJ (ann:=ann) (s0:=λx=>JW n (q4 ts x)) (pre:=λx=>FT n (q4 ts x)) (λ_ _ _ _ h aq=>apc h aq) pU
theorem P0{H:Nat->b'}{kap:Nat->bP}{F:Nat->Prop}{w:World}{P:Program}:∀ (g:z9') {avs l:List aO} {us:List Value},Ce g avs=some l->avs.length=us.length->(∀ i (h:i<avs.length) (eA:i<us.length),bQ P H kap F w avs[i] us[i])->
  ∃ aJ:List Value,Fe g us aJ/\l.length=aJ.length/\∀ i,i<aJ.length->bQ P H kap F w (l.getD i .undef) (aJ.getD i undef)
 | [],[],l,us,h,af,_=>by
  cases h;have:=aKC af.symm;subst this;exact⟨[],rfl,rfl,λi D=>by grind⟩
 | [],_::_,_,_,h,_,_=>by cases h
 | none::_,[],_,_,h,_,_=>by cases h
 | some _::_,[],_,_,h,_,_=>by cases h
 | none::g,av::avs,l,[],_,af,_=>by grind
 | some n::g,av::avs,l,[],_,af,_=>by grind
 | none::g,av::avs,l,u::us,h,af,ab=>by
  simp  [Ce]at h;split at h
  ·rename_i eo zH;cases h;obtain⟨aJ,E,M,ai⟩:=P0 g zH (by grind) λi h eA=>ab (i+1) (aLU h) (aLU eA);refine⟨u::aJ,⟨aJ,rfl,E⟩,by grind,λi D=>?_⟩;cases i with
   | zero=>exact ab 0 (aLV _) (aLV _)
   | succ i=>grind
  grind
 | some n::g,av::avs,l,u::us,h,af,ab=>by
  simp  [Ce]at h;split at h
  ·rename_i m f eo zH;split at h
   ·rename_i a7;subst a7;obtain⟨aJ,E,M,ai⟩:=P0 g zH (by grind) λi h eA=>ab (i+1) (aLU h) (aLU eA);obtain⟨cs,aY,a_,b7⟩:=ab 0 (aLV _) (aLV _);refine⟨cs++aJ,⟨cs.toArray,aJ,aY,by omega,λc hc=>?_,by simp,E⟩,by grind,λi D=>?_⟩
    ·obtain⟨j,aI,rfl⟩:=List.mem_iff_getElem.1 (by omega);grind
    grind
   grind
  grind
def ape(P:Program)(ba:ew)(T:Nat->aa)(fn:Func)(c:Code)(ic:cW):Prop:=
 ∀ (C:cB) (A:ic.cH.ak) (Q:Exit->Act->World->Prop) (a:Act) (w:World),C.P=P->C.a8=ba->C.b5=fn.ntmps->C.r=none->C.dq=[]->mT C.b5 c=true->c7 C (ic.cH.ae A) a w->(ic.sh A).et->
  (∀ u,C.kZ u->∀ e s' a' w',c7 (C.ik u) s' a' w'->dj (JX T fn.results.toList ic.lS ic.bo e s') (ic.sh A).bo->Q e.qZ a' w')->c.wpIn (e0 C.r) 0 C.P Q a w
theorem apf{P:Program}{ba:ew}{k:FuncId}{fn:Func}{c:Code}{ic:cW}(be:eO P T)(aw:P.funcs[k]?=some fn)(V:fn.body=some c)
  (cJ:FV fn c ic.lT ic.lS=true) (apg:ape P ba T fn c ic):di P ba k ic:=by
 simp only[FV,ajm,aKj,ajl]at cJ;obtain⟨⟨⟨⟨FW,xy⟩,ao'⟩,PZ⟩,vZ⟩:=cJ;refine⟨wh aw V PZ,λC a w kap F A iT Cg dN oy xi jB U sY=>?_⟩;subst iT;subst Cg;subst jB;have aHK:=U.ek.trans xi;have fT:∀ i,(a.tmps++Array.replicate (fn.ntmps - a.tmps.size) undef).getD i undef=a.tmps.getD i undef:=λi=>by
  simp;grind
 have bE:bH { C with b5:=fn.ntmps,dq:=[],r:=none } (ic.cH.ae A) { tmps:=a.tmps++Array.replicate (fn.ntmps - a.tmps.size) undef,defers:=[] } C.ei kap F:=
  { U with ek:=(by grind),dq:=rfl,hq:=vZ,cc:=λi=>(by rw[fT];exact U.cc i),bR:=U.bR }
 refine callsIn_wide.1 (callsIn_of_wp_marks   (n:=0) aw V trivial ?_);refine apg { C with b5:=fn.ntmps,dq:=[],r:=none } A _ _ C.ei rfl rfl rfl rfl rfl FW ⟨kap,F,bE⟩ sY λu hu e s' a' w' bE hm=>?_;obtain⟨⟨oz,F2,dd⟩,an,bd⟩:=c7.YF hu (λr h=>U.dH r (U.jg r h)) U.iM bE;have key:(∀ id,e≠.exit id)/\LeavesInM Fence.wide 0 C.P fn a'.tmps (λe w'=>∃ v bG aJ bX F',e=.returned v/\(ic.sh A).bo bG/\Je ic.lS v aJ/\bH { C with b5:=aJ.length } (ic.bo.ae bG) { tmps:=aJ.toArray,defers:=[] } w' bX F') a'.defers .returning w':=by
  unfold JX at hm;split at hm
  ·exact (hM hm).elim
  ·rename_i fc;refine⟨λid he=>fc id he,?_⟩;split at hm
   ·rename_i avs PW;split at hm
    ·rename_i l af;split at hm
     ·rename_i cF;have cF:=aKv cF;obtain⟨us,aY,a_,b7,hg⟩:=YB (C:={ C with b5:=fn.ntmps,dq:=u.ms.map tg++[],r:=none }) be dd _ PW;obtain⟨aJ,g1,eB,g3⟩:=P0 ic.lS af (by omega) hg;obtain⟨bG,hh,b2⟩:=wa hm;have br:=dd.args     (by omega) eB g3;obtain⟨JO,Yl,_,oC⟩:=ep.B2 hh br;rw[an];simp only[aKg];have dD:(results fn a'.tmps).run C.P (r6 w' u.ms)=.ok (if us.length=1 then us.getD 0 undef else .tuple us.toArray) (r6 w' u.ms):=by
       rw[YA,Sem.run_bind];have:(fn.results.mapM (Cf a'.tmps)).run C.P (r6 w' u.ms)=.ok us.toArray (r6 w' u.ms):=by
        rw[Array.mapM_eq_mapM_toList,map_eq_pure_bind,Sem.run_bind,aY];rfl
       rw[this];simp;grind
      refine PY u.ms w' hu.n1 bd ⟨_,dD,_,bG,aJ,JO,Yl,rfl,eY.1 b2,⟨us,?_,rfl,g1⟩,?_⟩<;>grind
     ·exact (hM hm).elim
    ·exact (hM hm).elim
   ·exact (hM hm).elim
 cases e with
 | normal=>exact key.2
 | exit id=>grind
 | ret=>exact key.2
theorem YH{P:Program}{ba:ew}(e2:P.follows .mixedOrders=true){k:FuncId}{fn:Func}{c:Code}{ann:cI}{ic:cW}(be:eO P T)(dk:lM P bK)(dE:oA P ba Psi)(aw:P.funcs[k]?=some fn)(V:fn.body=some c)
  (cJ:FV fn c ic.lT ic.lS=true) (pU:∀ A,aR (PV ba T bK Psi fn c ann ic.cH ic.bo ic.lS A) (ic.sh A)):di P ba k ic:=
 apf be aw V cJ λC A Q a w iT jB _ dN _ FW U sY ah=>by
  subst iT;subst jB;obtain⟨E,M⟩:=pU A sY;exact Yz ann C e2 be dk dE (.inl dN) c (ic.cH.ae A) (JX T fn.results.toList ic.lS ic.bo) (PV C.a8 T bK Psi fn c ann ic.cH ic.bo ic.lS A).bo Q a w FW U ⟨E,λ_ h=>h⟩ λu hu e s' a' w' bE hm=>ah u hu e s' a' w' bE ⟨hm.1,λy bh=>M y (hm.2 y bh)⟩
end
def q5:List (Nat×aa)->Nat->aa
 | [],_=>.dp
 | p::l,i=>if i=p.1 then p.2 else q5 l i
def YI(P:Program)(l:List (Nat×aa)):Bool:=l.all λp=>cZ P p.2 (.inl p.1)
theorem aph{P:Program}{l:List (Nat×aa)}(h:YI P l=true):eO P (q5 l):=by
 intro id;induction l with
 | nil=>exact .inl rfl
 | cons p l aP=>
  simp only[YI,aLK,ajm]at h;simp  [q5];split
  ·rename_i e;subst e;exact .inr h.1
  ·exact aP h.2
end Go.Fer
