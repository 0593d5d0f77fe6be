/- Part 3 of the proof of TopExtra: shallow programs of Go functions, and what they compute. No condition. -/
import Derived.Test.YtkmpcdkmiikalaaGreatTopExtraB
import Derived.RangeFuncIn
import Derived.RangeFuncRecord
import Derived.RangeFuncBound
import Derived.Scope
import Derived.RangeFuncLeaves
noncomputable section
namespace Go.Fer
open Go.RowKit
def ac8 (C:cf) (o:Oper) (s:aE) (ck:js):Prop:=
 ∀ (a:Act) (w:World) (Q:Exit->Act->World->Prop) (K:Act->World->Prop),cG C s a w->ck.cD->A.cp ck.m (λy=>∀ a' w',cG C (ck.st y) a' w'->K a' w')->o.wpIn (eX C.r) 0 C.P a w K Q
def ac9 (C:cf) (o:Oper) (s:aE) (ck:js):Prop:=
 ∀ gs,ck.CA=some gs->(∀ y a w,cG C (ck.st y) a w->cG C (gs true y) a w)/\∀ a w,cG C s a w->cG C (gs false ck.d) (a.put o.dst Go.undef) w
structure sD (C:cf) (o:Oper) (s:aE) (ck:js):Prop where
 prog:ac8 C o s ck
 asK:ac9 C o s ck
 asL:rB (a_ C.aZ s.aD) o->ck.cD
theorem cG.Lf {C:cf} {s:aE} {d:Option Nat} {av av':aP} {a:Act} {w:World} (h:cG C (s.set d av) a w)
  (aN:∀ i,d=some i->i<C.nt) (aj:∀ κ F v,bw C.P s.ag κ F w av v->bw C.P s.ag κ F w av' v):cG C (s.set d av') a w:=by
 cases d with
 | none=>exact h
 | some d=>
  obtain ⟨κ,F,h⟩:=h;have aI:=h.hF;have Jz:=aN d rfl;have aR:b_≠d:=by unfold b_ fP at *;omega
  refine ⟨κ,F,{ h with b3:=λi=>?_,eB:=h.eB,dfr:=h.dfr,bI:=h.bI,fQ:=λl aM L n st e=>h.fQ l aM L n st ?_ }⟩
  ·have U:=h.b3 i;simp only [aE.set] at U ⊢;grind
  ·simp only [aE.set,if_neg aR] at e ⊢;exact e
section
variable {C:cf} {T:Nat->ai} {bd:Nat->Option aU} {o:Oper} {s:aE}
theorem CK {args:List Operand} (af:rB (a_ C.aZ s.aD) o) (bf:∀ x∈args,x∈o.op.operands.toList):k_ (args.map (a_ C.aZ s.aD)):=
 Cq λv aj=>by
  simp only [List.mem_map] at aj;obtain ⟨p,ar,rfl⟩:=aj;exact af p (bf p ar)
theorem Sa (bh:∀ i,o.dst=some i->i<C.nt) {a5:ai} {b8:List Nat} (pC:hy s.ag b8) {d:a5.aq} :
  (∀ (y:a5.aq) a w,cG C (rD s o a5 b8 (rk a5 y)) a w->cG C (rD s o a5 b8 (.ie true (rk a5 y))) a w)/\∀ a w,cG C s a w->cG C (rD s o a5 b8 (.ie false (rk a5 d))) (a.put o.dst Go.undef) w:=by
 refine ⟨λy a w h=>cG.Lf h bh λκ F v aj=>⟨λ_=>aj,λh=>(by cases h)⟩,λa w h=>?_⟩;obtain ⟨κ,F,W⟩:=h;obtain ⟨F',_,bc,_⟩:=bl.mH pC W;unfold rD;split
 ·exact ⟨κ,F,W.set bh ⟨λh=>(by cases h),λ_=>rfl⟩⟩
 ·exact ⟨κ,F',bc.set bh ⟨λh=>(by cases h),λ_=>rfl⟩⟩
theorem ac_ (bh:∀ i,o.dst=some i->i<C.nt) {k:Nat} {args:Array Operand} {dN:Array TypeId} (al:o.op=.call { callee:=.value (.func k),args:=args,argTypes:=dN }) {eP:m'} (ax:jk C.P k eP.ts eP.a5 eP.sh) {ck:js}
  (h:CB C.aZ s o args.toList eP=some ck):sD C o s ck:=by
 unfold CB at h;split at h
 ·rename_i x b8 au;cases h;refine ⟨λa w Q K W be hm=>?_,λgs oU=>?_,λaf=>CK af λx au=>by rw [al];simp [Op.operands,Call.operands];simp_all⟩
  ·obtain ⟨κ,F,W⟩:=W;exact Rh W ax bh al be au hm.1 λy w' aJ v kQ=>hm.2 y aJ _ _ kQ
  ·cases oU;exact Sa bh (qt _ au)
 grind
theorem ac' (bh:∀ i,o.dst=some i->i<C.nt) {k:Nat} {args:Array Operand} {dN:Array TypeId} (al:o.op=.call { callee:=.value (.func k),args:=args,argTypes:=dN }) {eP:m'} (ax:jk C.P k eP.ts eP.a5 eP.sh) (CL:EY C.P k eP.ts eP.a5 eP.sh) {ck:js}
  (h:FM C.aZ s o args.toList eP=some ck):sD C o s ck:=by
 unfold FM at h;split at h
 ·rename_i x b8 au;cases h;refine ⟨λa w Q K W be hm=>?_,λgs oU=>(by grind),λaf=>CK af λx au=>by rw [al];simp [Op.operands,Call.operands];simp_all⟩;obtain ⟨κ,F,W⟩:=W;obtain ⟨args⟩:=args;have dj:(execOp a.eval o).run C.P w=.ok (.enter k (args.map a.eval).toArray) w:=by
   simp only [execOp,al,Sem.run_bind,resolve,Act.eval,Deferred.ofValue,Sem.run_pure,Result.andThen_ok,invoke];have:=ax.enter (args.map a.eval).toArray w;grind
  obtain ⟨F',f1,bc,f2⟩:=bl.mH (qt _ au) W;have ep:gS C.P eP.ts F' w (args.map a.eval) x:=by
   refine vF W.bI f1 eP.ts au f2 (by simp) λi U eA=>?_;simp only [List.getElem_map];have e1:i<args.length:=by grind
   have M:=sq be i (by grind);have aK:(args.map (a_ C.aZ s.aD)).getD i .undef=a_ C.aZ s.aD args[i]:=by grind
   rw [show (List.map (a_ C.aZ s.aD) (⟨args⟩:Array Operand).toList)=args.map (a_ C.aZ s.aD) from rfl,aK] at M;exact pz (kN W args[i]) M
  refine Fq (by grind) dj (CL.mZ F' w _ x bc.dM ep hm.1) λe w' ⟨v,y,he,aJ,g1,af⟩=>⟨v,he,hm.2 y aJ _ _ ⟨κ,_,(W.Ci af).set bh (Ch ?_)⟩⟩
  obtain ⟨aH,db,dR,lK⟩:=g1;exact ⟨aH,db,dR,gp _ (λr W=>.inr W) (c6.refl _ _) lK⟩
 grind
theorem ada (bh:∀ i,o.dst=some i->i<C.nt) {t:Nat} {args:Array Operand} {dN:Array TypeId} (al:o.op=.call { callee:=.value (.tmp t),args:=args,argTypes:=dN }) {ck:js}
  (h:CC C.aZ s o t args.toList=some ck):sD C o s ck:=by
 unfold CC at h;split at h
 ·rename_i cD aM b f hu;split at h
  ·rename_i x b8 au;cases h;obtain ⟨args⟩:=args;refine ⟨λa w Q K W be hm=>?_,λgs oU=>?_,λaf=>⟨?_,CK af λx au=>by rw [al];simp [Op.operands,Call.operands];simp_all⟩⟩
   ·obtain ⟨κ,F,W⟩:=W;obtain ⟨F',f1,bc,f2⟩:=bl.mH (qt _ au) W;have ep:gS C.P aM F' w (args.map a.eval) x:=by
     refine vF W.bI f1 aM au f2 (by simp) λi U eA=>?_;simp only [List.getElem_map];have e1:i<args.length:=by grind
     have M:=sq be.2 i (by grind);have aK:(args.map (a_ C.aZ s.aD)).getD i .undef=a_ C.aZ s.aD args[i]:=by grind
     rw [show (List.map (a_ C.aZ s.aD) (⟨args⟩:Array Operand).toList)=args.map (a_ C.aZ s.aD) from rfl,aK] at M;exact pz (kN W args[i]) M
    have Sb:bw C.P s.ag κ F w (use (a_ C.aZ s.aD (.tmp t))).2 (a.eval (.tmp t)):=cU W (.tmp t) hu be.1 |> λh=>by
     have e:use (a_ C.aZ s.aD (.tmp t))=(cD,.val (.fn aM b) f):=hu;grind
    have e:use (a_ C.aZ s.aD (.tmp t))=(cD,.val (.fn aM b) f):=hu;rw [e] at Sb;obtain ⟨_,u,xD,_,CM⟩:=(fa rfl).1 Sb;have xD:a.eval (.tmp t)=u:=(List.cons.inj xD).1;obtain ⟨g,caps,aL,sE,Lg⟩:=CM F' w f1 (c6.refl _ _) bc.dM (args.map a.eval) x ep.1 ep.2 hm.1;have dj:(execOp a.eval o).run C.P w=.ok (.enter g ((args.map a.eval).toArray++caps)) w:=by
     have aj:a.eval (.tmp t)=.func (.func g) #[] caps:=xD.trans aL;simp only [execOp,al,Sem.run_bind,resolve,aj,Deferred.ofValue,Sem.run_pure,Result.andThen_ok,invoke];grind
    refine Fq (by grind) dj Lg λe w' ⟨v,y,aH,he,aJ,M,aa,an,af⟩=>⟨v,he,hm.2 y aJ _ _ ?_⟩
    have g1:vn C.P b (y4 F' w w') w' v y:=⟨aH,M,aa,an⟩
    unfold rD;by_cases ar:b.pure=true
    ·rw [if_pos ar];have aL:=W.Ci af;refine ⟨κ,_,aL.set bh (Ch ?_)⟩;exact ⟨aH,M,Rg ar ⟨aa,an⟩⟩
    ·rw [if_neg ar];have aL:=bc.Ci af;exact ⟨κ,_,aL.set bh (Ch g1)⟩
   ·cases oU;exact Sa bh (qt _ au)
   ·have:=af (.tmp t) (by rw [al];simp [Op.operands,Call.operands]);have e:use (a_ C.aZ s.aD (.tmp t))=(cD,.val (.fn aM b) f):=hu;grind
  grind
 grind
theorem adb (a2:eO C.P T) (bh:∀ i,o.dst=some i->i<C.nt) {ty:TypeId} {x:Operand} (al:o.op=.range ty x) {ck:js} (h:FQ C.aZ T s o ty x=some ck):sD C o s ck:=by
 unfold FQ at h;split at h
 ·rename_i k v d aR aN;split at h;rename_i cD av hu;split at h
  ·rename_i es b8 pB;split at h
   ·cases h
   ·rename_i Fx;cases h;have Fx:d ∉ b8:=by grind
    obtain ⟨i,j,U,_,_⟩:=(a2.cb aR (by simp)).mp;refine ⟨λa w Q K W be hm=>?_,λgs oU=>(by grind),λaf=>rB.use af (by rw [al];simp [Op.operands]) hu⟩;obtain ⟨κ,F,W⟩:=W;obtain ⟨F',f1,bc,f2⟩:=bl.mH (od pB) W;have aj:=cU W x hu be;have oc:=((fa rfl).1 (n9 W.bI f1 pB f2 aj)).2;have kS:=hm.2 () rfl;have pH:(s.cL b8).ag d=s.ag d:=by simp only [aE.cL];grind
    have fin:∀ (cj:Obj),(∀ w',w'=w.alloc cj->w6 C.P k v F' w' w.heap.size none es)->(execOp a.eval o).run C.P w=.ok (.value (.pointer (some ⟨w.heap.size,0,none⟩))) (w.alloc cj)->o.wpIn (eX C.r) 0 C.P a w K Q:=by
     intro cj ub dj;have M:=bc.alloc (b:=d) (x:=⟨(s.ag d).gen+1,.cj k v none es⟩) (W.mI (bh d aN)) (by grind) (o:=cj) (k:=⟨w.heap.size,0,0,false⟩) rfl λH κ' _ _ _=>ub _ rfl;refine h1 (by grind) dj (kS _ _ ⟨_,F',bl.set (s:=(s.cL b8).cy d _) M bh ⟨⟨by simp [aE.cy],rfl⟩,λ_ _=>by simp⟩⟩)
    rcases oc with ⟨aK,rfl⟩ | ⟨r,ms,clk,aK,eb,eN,ij,g2,Sc,ade⟩
    ·have au:a.eval x=.map none:=(List.cons.inj aK).1;refine fin (.mapIter none 0 #[] 0) (λw' hw=>.inl ⟨by rw [hw];exact ri _ _,rfl,rfl⟩) ?_;simp [execOp,al,Instr.range,dW U,au]
    ·have au:a.eval x=.map (some r):=(List.cons.inj aK).1;refine fin (.mapIter (some r) clk #[] clk) (λw' hw=>.inr ⟨r,ms,clk,#[],eb,?_,by rw [hw];exact ri _ _,λi U=>(Sc i (by omega) U).2.2.2.2,ade,?_,λc hc=>by cases hc⟩) ?_
     ·rw [hw,qk _ _ (bc.dM r eb)];exact eN
     ·refine ⟨List.range ms.size,by grind,List.nodup_range,λi=>by simp,λj aC gU=>?_⟩;have ry:j<ms.size:=by omega
      obtain ⟨aS,aY,bK,fe,_⟩:=Sc j gU ry;refine ⟨by grind,?_⟩;simp only [List.getElem_range];have he:c6 F' w w':=by rw [hw];exact c6.alloc bc.dM _
      exact y6.mono ⟨aS,aY,bK,fe⟩ (λ_ h=>h) he
     ·have fU:(getObj r).run C.P w=.ok (.map ms clk) w:=by simp [getObj,Sem.run,eN]
      simp [execOp,al,Instr.range,dW U,au,fU]
  grind
 grind
theorem adf (bh:∀ i,o.dst=some i->i<C.nt) {x:Operand} (al:o.op=.entry x) {ck:js} (h:FU C.aZ s o x=some ck):sD C o s ck:=by
 unfold FU at h;split at h
 ·rename_i b g au;split at h
  ·rename_i aL;split at h
   ·rename_i k v c bZ af;cases h;refine ⟨λa w Q K W _ hm=>?_,λgs oU=>(by grind),λ_=>trivial⟩;obtain ⟨κ,F,W⟩:=W;have aj:=kN W x;rw [au] at aj;have aj:=aj.2 aL.symm (by rw [af];rfl);have a6:=W.bI b;unfold cO at a6;rw [af] at a6;have fK:=A.mx.1 hm;have kS:=A.ez.1 fK.2;obtain ⟨c',kl⟩:=Option.isSome_iff_exists.1 fK.1;subst kl;rcases a6 with ⟨_,_,e⟩ | ⟨mz,es,clk,seen,M,aa,an,a8,bV,_,hL⟩
    ·cases e
    ·obtain ⟨i,U,aA,he⟩:=hL c' rfl;have zG:es.find? (λe=>e.born == es[i].born)=some es[i]:=by
      rw [<-Array.find?_toList];have g6:es[i]∈es.toList:=by simp
      cases ax:es.toList.find? (λe=>e.born == es[i].born) with
      | none=>grind
      | some e=>
       have mw:=List.find?_some ax;have pn:=List.mem_of_find?_eq_some ax;obtain ⟨j,aC,rfl⟩:=List.mem_iff_getElem.1 pn;grind
     have CN:(getObj (κ b).ag).run C.P w=.ok (.mapIter (some mz) clk seen clk) w:=by simp [getObj,Sem.run,an]
     have Lh:(getObj mz).run C.P w=.ok (.map es clk) w:=by simp [getObj,Sem.run,aa]
     have dj:(execOp a.eval o).run C.P w=.ok (.value (.tuple #[es[i].key,es[i].val])) w:=by
      simp [execOp,al,Instr.entry,aj,CN,Lh,aA,zG]
     refine h1 (by grind) dj (kS _ _ ⟨κ,F,W.set bh ⟨[es[i].key,es[i].val],rfl,rfl,λn aI=>?_⟩⟩);match n,aI with
     | 0,_=>exact ⟨he.1,he.2.1⟩
     | 1,_=>exact ⟨he.2.2.1,he.2.2.2⟩
   grind
  grind
 grind
theorem adg {es:Array MapEntry} {seen:Array Nat} {clk:Nat} (a8:∀ i (h:i<es.size),es[i].born<clk) :
  (es.filter λe=>!seen.contains e.born).filter (λe=>decide (e.born<clk))=(es.filter λe=>!seen.contains e.born)/\(es.filter λe=>!seen.contains e.born).filter (λe=>decide (e.born>=clk))=#[]:=by
 have gv:∀ e∈es.filter λe=>!seen.contains e.born,e.born<clk:=by
  intro e he;have:=(Array.mem_filter.1 he).1;obtain ⟨i,U,rfl⟩:=Array.mem_iff_getElem.1 this;grind
 constructor
 ·exact Array.filter_eq_self.2 λe he=>by grind
 ·exact Array.filter_eq_empty_iff.2 λe he=>by grind
theorem adh (P:Program) (w:World) (n:Nat):∃ j w',(choose (.mapNext n)).run P w=.ok j w'/\(0<n->j<n)/\(w'=w\/w'=w.drew):=by
 rw [run_choose];by_cases h:n<=1
 ·have:(Question.mapNext n).forced=true:=by simp [Question.forced,h]
  rw [this];grind
 ·have:(Question.mapNext n).forced=false:=by simp [Question.forced];omega
  rw [this];exact ⟨_,_,rfl,λaI=>Nat.mod_lt _ aI,.inr rfl⟩
theorem adi (bh:∀ i,o.dst=some i->i<C.nt) {x:Operand} {str:Bool} (al:o.op=.next x str) {ck:js} (h:FT C.aZ s o x str=some ck):sD C o s ck:=by
  unfold FT at h;split at h
  · rename_i b g au
    split at h
    · rename_i aL
      split at h
      · rename_i k v c bZ af
        cases h
        refine ⟨λa w Q K W _ hm=>?_,λgs oU=>(by grind),λ_=>trivial⟩
        obtain ⟨κ,F,W⟩:=W
        have aj:=kN W x
        rw [au] at aj
        have aj:=aj.2 aL.symm (by rw [af];rfl)
        have a6:=W.bI b
        unfold cO at a6
        rw [af] at a6
        have aN:∀ c,o.op≠.defer c:=by grind
        have g0:∀ w',(w'=w\/w'=w.drew)->bZ=[]->(execOp a.eval o).run C.P w=.ok (.value (.tuple #[.bool false])) w'->o.wpIn (eX C.r) 0 C.P a w K Q:=by
          intro w' xE sF dj;have cV:bl C s a w' κ F:=by
            rcases xE with rfl | rfl
            · exact W
            · exact W.drew
          have Rd:s.cy b ⟨g,.cj k v c bZ⟩=s:=by
            unfold aE.cy;congr 1;funext i;by_cases U:i=b
            · rw [if_pos U,U,<-af,<-aL]
            grind
          refine h1 aN dj (hm.2 none sF _ _ ⟨κ,F,bl.set (s:=s.cy b ⟨g,.cj k v c bZ⟩) (by grind) bh ⟨[.bool false],rfl,rfl,λn aI=>?_⟩⟩);have:n=0:=by simp only [RU] at aI;omega
          subst this;exact gh.2 rfl
        rcases a6 with ⟨M,aa,_⟩ | ⟨mz,es,clk,seen,M,aa,an,a8,bV,⟨ids,i1,i2,i3,i4⟩,hL⟩
        · refine g0 w (.inl rfl) aa ?_
          have CN:(getObj (κ b).ag).run C.P w=.ok (.mapIter none 0 #[] 0) w:=by simp [getObj,Sem.run,M]
          simp [execOp,al,Instr.next,aj,CN]
        · have CN:(getObj (κ b).ag).run C.P w=.ok (.mapIter (some mz) clk seen clk) w:=by simp [getObj,Sem.run,an]
          have Lh:(getObj mz).run C.P w=.ok (.map es clk) w:=by simp [getObj,Sem.run,aa]
          obtain ⟨f1,f2⟩:=adg (seen:=seen) a8
          have gv:(!seen.isEmpty&&!es.isEmpty&&es.all (λe=>decide (e.born>=clk)))=false:=by
            by_cases he:es.size=0
            · grind
            · have:es.all (λe=>decide (e.born>=clk))=false:=by
                rw [Array.all_eq_false];exact ⟨0,by omega,by grind⟩
              grind
          generalize adj:(es.filter λe=>!seen.contains e.born)=left at f1 f2
          have adk:((if left.isEmpty=true then #[none] else #[])++Array.map some (left++(#[]:Array MapEntry)))=(if left.isEmpty=true then #[none] else Array.map some left):=by
            grind
          obtain ⟨j,w',bH,b2,cw⟩:=adh C.P w (if left.isEmpty=true then #[none] else Array.map some left).size
          have du:w'.heap=w.heap:=by rcases cw with rfl | rfl<;>rfl
          have z0 : ∀ r c8, (match (if left.isEmpty = true then #[none] else Array.map some left)[j]? with
                | some (some e)=>(do setObj (κ b).ag (.mapIter (some mz) clk (seen.push e.born) clk);pure (.tuple #[.bool true,e.key,e.val]):Sem Value)
                | some none=>pure (.tuple #[.bool false])
                | none => stuck "Next: no such candidate").run C.P w' = .ok r c8 -> (execOp a.eval o).run C.P w = .ok (.value r) c8 := by
            intro r c8 cV;simp only [execOp,al,Instr.next,aj,Sem.run_bind,CN,Result.andThen_ok,Lh,gv,Bool.false_eq_true,if_false,adj,f1,f2,adk,bH];exact (congrArg (λ(z:Result Value)=>z.andThen λv w'=>Sem.run C.P (Pure.pure (Next.value v)) w') cV).trans rfl
          by_cases hle:left.isEmpty=true
          · have J5:left=#[]:=by grind
            have sF:bZ=[]:=by
              have:ids=[]:=List.eq_nil_iff_forall_not_mem.2 λi U=>by
                obtain ⟨Li,e1⟩:=(i3 i).1 U;have:es[i]∈left:=by
                  grind
                grind
              grind
            rw [hle] at z0 b2
            simp only [if_true] at z0 b2
            have aC:j=0:=by grind
            subst aC
            exact g0 w' cw sF (z0 _ _ rfl)
          · have hle:left.isEmpty=false:=by grind
            rw [hle] at z0 b2
            simp only [Bool.false_eq_true,if_false] at z0 b2
            have asM:0<left.size:=by
              grind
            have aC:j<left.size:=by grind
            have g6:left[j]∈(es.filter λe=>!seen.contains e.born):=by grind
            obtain ⟨xg,Sd⟩:=Array.mem_filter.1 g6
            obtain ⟨i0,vH,adl⟩:=Array.mem_iff_getElem.1 xg
            have adm:i0∈ids:=(i3 i0).2 ⟨vH,by grind⟩
            obtain ⟨q,bt,Lj⟩:=List.mem_iff_getElem.1 adm
            have Lk:q<bZ.length:=by omega
            have sr:(setObj (κ b).ag (.mapIter (some mz) clk (seen.push left[j].born) clk)).run C.P w'=.ok () { w' with heap:=w'.heap.setIfInBounds (κ b).ag (.mapIter (some mz) clk (seen.push left[j].born) clk) }:=by
              simp [setObj,Sem.run,du,an]
            have dj:=z0 (.tuple #[.bool true,left[j].key,left[j].val]) { w' with heap:=w'.heap.setIfInBounds (κ b).ag (.mapIter (some mz) clk (seen.push left[j].born) clk) } (by
              rw [show (Array.map some left)[j]?=some (some left[j]) by simp];simp only [Sem.run_bind,sr,Result.andThen_ok,Sem.run_pure])
            have l5:dA w w':=by rcases cw with rfl | rfl<;>exact ⟨rfl,rfl,rfl⟩
            have cq:(κ b).ag<w.heap.size:=(Array.getElem?_eq_some_iff.1 an).1
            have cI:mz≠(κ b).ag:=λe=>(W.ad b (by grind)).2.1 (e ▸ M)
            have h3:gT s.ag κ (λi=>if i=b then (⟨g,.cj k v bZ[q]? (bZ.eraseIdx q)⟩:bS) else s.ag i) κ:=
              vp aL.symm (λh=>by cases h) (λh=>by cases h) (λh=>by cases h) (λ_=>by rw [af];rfl)
            have kT:=W.tD (b:=b) (x:=⟨g,.cj k v bZ[q]? (bZ.eraseIdx q)⟩) (w':={ w' with heap:=w'.heap.setIfInBounds (κ b).ag (.mapIter (some mz) clk (seen.push left[j].born) clk) }) (by rw [af];rfl) rfl h3 (λh=>by cases h) (λh=>by cases h)
              (λr Ki=>by grind) (by grind) ⟨l5.os,l5.tape,l5.output⟩ λH _ _ he=>by
                refine .inr ⟨mz,es,clk,seen.push left[j].born,M,?_,by grind,a8,bV,⟨ids.eraseIdx q,?_,?_,λi=>?_,λn aI tW=>?_⟩,λc' kl=>?_⟩
                · grind
                · grind
                · grind
                · rw [List.mem_eraseIdx_iff_getElem]
                  constructor
                  · rintro ⟨n,aI,F8,rfl⟩
                    obtain ⟨nb,hz⟩:=(i3 ids[n]).1 (by simp)
                    refine ⟨nb,?_⟩
                    simp only [Array.contains_push,Bool.or_eq_false_iff]
                    refine ⟨hz,?_⟩
                    rw [<-adl]
                    simp only [beq_eq_false_iff_ne,ne_eq]
                    intro e
                    have:ids[n]=i0:=bV _ _ nb vH (by omega)
                    exact F8 ((List.getElem?_inj aI i2).1 (by grind))
                  · rintro ⟨nb,hz⟩
                    simp only [Array.contains_push,Bool.or_eq_false_iff] at hz
                    obtain ⟨n,aI,rfl⟩:=List.mem_iff_getElem.1 ((i3 i).2 ⟨nb,hz.1⟩)
                    grind
                · have mO:(ids.eraseIdx q)[n]=if h:n<q then ids[n]'(by omega) else ids[n+1]'(by grind):=by
                    rw [List.getElem_eraseIdx]
                  have Se:(bZ.eraseIdx q)[n]=if h:n<q then bZ[n]'(by omega) else bZ[n+1]'(by grind):=by
                    rw [List.getElem_eraseIdx]
                  have hlen:n+1<ids.length:=by grind
                  by_cases F8:n<q
                  · obtain ⟨nb,hz⟩:=i4 n (by omega) (by omega)
                    simp only [mO,Se,F8,dif_pos]
                    exact ⟨nb,hz.mono (λ_ h=>h) he⟩
                  · obtain ⟨nb,hz⟩:=i4 (n+1) hlen (by omega)
                    simp only [mO,Se,F8,dif_neg,not_false_eq_true]
                    exact ⟨nb,hz.mono (λ_ h=>h) he⟩
                · rw [List.getElem?_eq_getElem Lk] at kl
                  cases kl
                  obtain ⟨nb,hz⟩:=i4 q bt Lk
                  refine ⟨i0,vH,by grind,?_⟩
                  have aK:es[ids[q]]=es[i0]:=by congr 1
                  rw [aK] at hz
                  exact hz.mono (λ_ h=>h) he
            refine h1 aN dj (hm.2 (some q) Lk _ _ ⟨κ,F,bl.set (s:=s.cy b _) kT bh ⟨[.bool true,left[j].key,left[j].val],rfl,rfl,λn aI=>?_⟩⟩)
            match n,aI with
            | 0,_=>exact gh.2 rfl
            | 1,_=>trivial
            | 2,_=>trivial
      grind
    grind
  grind
end
end Go.Fer
namespace Go.Fer
open Go.RowKit
def CO:List (Option Nat)->List Value->List Value->Prop
 | [],[],aH=>aH=[]
 | none::g,u::us,aH=>∃ sb,aH=u::sb/\CO g us sb
 | some n::g,u::us,aH=>∃ cs sb,u=.agg cs/\cs.size=n/\(∀ c∈cs.toList,c.oneCell'=true)/\aH=cs.toList++sb/\CO g us sb
 | _,_,_=>False
def CP (g:List (Option Nat)) (v:Value) (aH:List Value):Prop:=∃ us:List Value,us.length=g.length/\v=(if us.length=1 then us.getD 0 undef else .tuple us.toArray)/\CO g us aH
structure hj (P:Program) (a1:eG) (k:FuncId) (c:fY):Prop where
 enter:∀ args w,(callFunc k args).run P w=.ok (.enter k args) w
 mZ:∀ (C:cf) (a:Act) (w:World) (κ:Nat->bD) (F:Nat->Prop) (G:c.cM.aq),C.P=P->C.w0=w->C.r=none->C.dfr=[]->C.nt=c.lh->C.aZ=a1->bl C (c.cM.st G) a w κ F->(c.sh G).dU->
  Calls P k a.tmps w λe w'=>∃ v bA aH κ' F',e=.returned v/\(c.sh G).bP bA/\CP c.lQ v aH/\bl { C with nt:=aH.length } (c.bP.st bA) { tmps:=aH.toArray,defers:=[] } w' κ' F'
section
variable {P:Program} {H H':Nat->bS} {κ κ':Nat->bD} {F:Nat->Prop} {w:World} {g:Nat->Nat×Nat}
def pN (H H':Nat->bS) (κ κ':Nat->bD) (g:Nat->Nat×Nat):Prop:=∀ b,(H b).gen=0/\sd ⟨(g b).2,(H b).body⟩ (H' (g b).1) (κ b) (κ' (g b).1)
theorem pN.aV (h:pN H H' κ κ' g) {b off:Nat} {v:Value} (aj:bw P H κ F w (.aV b 0 off) v):bw P H' κ' F w (.aV (g b).1 (g b).2 off) v:=by
 obtain ⟨aW,aS,aY⟩:=h b;refine ⟨⟨aS,aj.1.2⟩,λaL hc=>?_⟩;obtain ⟨bH,b2⟩:=(aY aL).1 hc;rw [b2];exact aj.2 aW.symm bH
theorem pN.av (h:pN H H' κ κ' g) (t:cE) {R:Type} (z:t.cons R) {v:Value} (aj:bw P H κ F w (t.av de z).1 v):bw P H' κ' F w (t.av g z).1 v:=by
 cases t with
 | undef=>trivial
 | val t=>exact aj
 | fb t=>exact aj
 | aV b off=>exact h.aV aj
 | ad b=>
  obtain ⟨aW,aS,aY⟩:=h b;refine ⟨⟨aS,aj.1.2⟩,λaL hc=>?_⟩;obtain ⟨bH,b2,cw,gi⟩:=(aY aL).2.1 hc;rw [b2,cw];exact aj.2 aW.symm bH
 | sub b=>
  obtain ⟨aW,aS,aY⟩:=h b;refine ⟨⟨aS,aj.1.2⟩,λaL hc=>?_⟩;obtain ⟨bH,b2,cw,gi⟩:=(aY aL).2.1 hc;rw [b2,cw,gi];exact aj.2 aW.symm bH
 | dQ b=>
  obtain ⟨aW,aS,aY⟩:=h b;refine ⟨⟨aS,aj.1.2⟩,λaL hc=>?_⟩;obtain ⟨bH,b2⟩:=(aY aL).2.2.1 hc;rw [b2];exact aj.2 aW.symm bH
 | kI b=>
  obtain ⟨aW,aS,aY⟩:=h b;refine ⟨⟨aS,aj.1.2⟩,λaL hc=>?_⟩;obtain ⟨bH,b2⟩:=(aY aL).2.2.2 hc;rw [b2];exact aj.2 aW.symm bH
 | cr=>exact aj
 | j1 k gN=>
  obtain ⟨aH,M,aa,an⟩:=aj;refine ⟨aH,M,aa,λi U=>?_⟩;have:=an i U;have aK:vJ de gN i=.aV gN[i].1 0 gN[i].2:=by simp [vJ,hN,List.getD_eq_getElem?_getD,U,de]
  have bq:vJ g gN i=.aV (g gN[i].1).1 (g gN[i].1).2 gN[i].2:=by simp [vJ,hN,List.getD_eq_getElem?_getD,U]
  rw [aK] at this;rw [bq];exact h.aV this
 | gX bs=>
  obtain ⟨aH,M,aa,an⟩:=aj;refine ⟨aH,M,aa,λi U=>?_⟩;obtain ⟨this,kl⟩:=an i U;refine ⟨?_,kl⟩;have aK:vK de bs i=.ad bs[i] 0:=by simp [vK,hN,List.getD_eq_getElem?_getD,U,de]
  have bq:vK g bs i=.ad (g bs[i]).1 (g bs[i]).2:=by simp [vK,hN,List.getD_eq_getElem?_getD,U]
  rw [aK] at this;rw [bq];obtain ⟨aW,aS,aY⟩:=h bs[i];refine ⟨⟨aS,this.1.2⟩,λaL hc=>?_⟩;obtain ⟨bH,b2,cw,gi⟩:=(aY aL).2.1 hc;rw [b2,cw];exact this.2 aW.symm bH
 | a5 aM=>trivial
 | gA=>exact aj
theorem CQ (t:cE) {R:Type} (z:t.cons R):(t.av g z).2=(t.av de z).2:=by cases t<;>rfl
theorem Sf:∀ (ts:List cE) {R:Type} (z:qw ts R),(pK g ts z).2=(pK de ts z).2
 | [],_,_=>rfl
 | t::ts,_,z=>by simp only [pK];rw [CQ (g:=g) t z];exact Sf ts _
theorem Sg (t:cv) {R:Type} (z:t.cons R):(t.body g z).2=(t.body de z).2:=by
 cases t with
 | cells t l=>exact Sf l z
 | _=>rfl
theorem Ll:∀ (ts:List (Nat×cE)) {R:Type} (z:oR ts R),(e9 g ts z).2=(e9 de ts z).2
 | [],_,_=>rfl
 | p::ts,_,z=>by simp only [e9];rw [CQ (g:=g) p.2 z];exact Ll ts _
theorem pN.avs (h:pN H H' κ κ' g):∀ (ts:List cE) {R:Type} (z:qw ts R) (i:Nat) {v:Value},bw P H κ F w ((pK de ts z).1.getD i .undef) v->bw P H' κ' F w ((pK g ts z).1.getD i .undef) v
 | [],_,_,i,v,_=>by simp [pK,bw]
 | t::ts,_,z,i,v,aj=>by
  simp only [pK] at aj ⊢;cases i with
  | zero=>exact h.av t z aj
  | succ i=>
   simp only [List.getD_cons_succ] at aj ⊢;rw [CQ (g:=g) t z];exact h.avs ts _ i aj
theorem pN.b3 (h:pN H H' κ κ' g):∀ (ts:List (Nat×cE)) {R:Type} (z:oR ts R) (i:Nat) {v:Value},bw P H κ F w (gF (e9 de ts z).1 i) v->bw P H' κ' F w (gF (e9 g ts z).1 i) v
 | [],_,_,i,v,_=>by simp [e9,gF,bw]
 | p::ts,_,z,i,v,aj=>by
  simp only [e9,gF] at aj ⊢;by_cases e:i=p.1
  ·rw [if_pos e] at aj ⊢;exact h.av p.2 z aj
  ·rw [if_neg e] at aj ⊢;rw [CQ (g:=g) p.2 z];exact h.b3 ts _ i aj
theorem Sh:∀ (ts:List (Nat×cE)) {R:Type} (z:oR ts R) (i:Nat) {l aM L n st},gF (e9 g ts z).1 i=.a5 l aM L n st->gF (e9 de ts z).1 i=.a5 l aM L n st
 | [],_,_,i,_,_,_,_,_,h=>by simp [e9,gF] at h
 | p::ts,_,z,i,l,aM,L,n,st,h=>by
  simp only [e9,gF] at h ⊢;by_cases e:i=p.1
  ·rw [if_pos e] at h ⊢;obtain ⟨h5,t⟩:=p;cases t<;>first | exact h | cases h
  ·rw [if_neg e] at h ⊢;rw [CQ (g:=g) p.2 z] at h;exact Sh ts _ i h
def xF (x y:b7):Prop:=x.gB=y.gB/\x.gC=y.gC/\x.len=y.len/\x.gq=y.gq/\x.hE=y.hE/\x.my=y.my/\∀ k,x.cd k=y.cd k
theorem xF.refl (x:b7):xF x x:=⟨rfl,rfl,rfl,rfl,rfl,rfl,λ_=>rfl⟩
theorem adn (t:cv) {R:Type} (z:t.cons R):xF (t.body g z).1 (t.body de z).1:=by
 cases t with
 | cells t l=>exact ⟨rfl,rfl,rfl,rfl,rfl,rfl,λ_=>rfl⟩
 | _=>exact xF.refl _
theorem ado:∀ (t:ai) (x:t.aq) (av:aP),av∈n8 t x->∀ {v:Value},bw P H κ F w av v->bw P H' κ' F w av v:=by
  intro t;induction t with
  | da=>intro x av h;cases h
  | st t aO=>intro x av h;exact aO x av h
  | aG a b gn fh=>
   intro x av h;rcases List.mem_append.1 h with h | h
   ·exact gn _ av h
   ·exact fh _ av h
  | array n e aO=>
   intro x av h;simp only [n8,List.mem_flatMap] at h;grind
  | _=>
   intro x av h v aj;simp only [n8,List.mem_singleton] at h;subst h;exact aj
theorem pN.body (h:pN H H' κ κ' g) (t:cv) {R:Type} (z:t.cons R) {k:bD} (af:k5 P H κ F w k (t.body de z).1):k5 P H' κ' F w k (t.body g z).1:=by
 cases t with
 | cells t l=>
  obtain ⟨cs,T,M,aa,an⟩:=af;exact ⟨cs,T,M,aa,λi U=>⟨h.avs l z i (an i U).1,(an i U).2⟩⟩
 | jM t=>
  obtain ⟨cs,T,M,aa,an⟩:=af;refine ⟨cs,T,M,aa,λi U=>⟨?_,(an i U).2⟩⟩;have:=(an i U).1;unfold hN at this ⊢;rw [List.getD_eq_getElem?_getD] at this ⊢;cases aw:(n8 t z.1)[i]? with
  | none=>trivial
  | some av=>
   rw [aw] at this;simp only [Option.getD_some] at this ⊢;have g6:=List.mem_of_getElem? aw;exact ado t z.1 av g6 this
 | bu e=>exact af
 | ig e=>exact af
 | mp k v=>exact af
 | jH k v=>exact af
 | hf t=>exact af
 | cj k v=>exact af
theorem Si {l:List (Nat×cv)} {x y:pJ l} (h:x=y) (g:Nat->Nat×Nat) (b:Nat):fJ (hQ g l x) b=fJ (hQ g l y) b:=by rw [h]
theorem Sj:∀ (l:List (Nat×cv)) (x:pJ l) (b:Nat),xF (fJ (hQ g l x) b).body (fJ (hQ de l x) b).body
 | [],_,_=>xF.refl _
 | p::l,x,b=>by
  simp only [hQ,fJ];split
  ·exact adn p.2 x
  ·rw [Sg (g:=g) p.2 x];exact Sj l _ b
theorem pN.bI (h:pN H H' κ κ' g):∀ (l:List (Nat×cv)) (x:pJ l) (b:Nat) {k:bD},k5 P H κ F w k (fJ (hQ de l x) b).body->k5 P H' κ' F w k (fJ (hQ g l x) b).body
 | [],_,_,k,_=>trivial
 | p::l,x,b,k,af=>by
  simp only [hQ,fJ] at af ⊢;split
  ·rename_i e;rw [if_pos e] at af;exact h.body p.2 x af
  ·rename_i e;rw [if_neg e] at af;rw [Sg (g:=g) p.2 x];exact h.bI l _ b af
theorem Lm:∀ (l:List (Nat×b7)) (b:Nat),(fJ l b).gen=0
 | [],_=>rfl
 | p::l,b=>by
  simp only [fJ];split
  ·rfl
  ·exact Lm l b
end
end Go.Fer
namespace Go.Fer
open Go.RowKit
theorem F9 {ao:Type} {k:ao->Nat}:∀ {l:List ao},(l.map k).Nodup->∀ {p:ao},p∈l->l.find? (λq=>k q == k p)=some p
 | [],_,_,h=>by cases h
 | a::l,aI,p,h=>by
  simp only [List.map_cons,List.nodup_cons] at aI;by_cases e:k a=k p
  ·grind
  ·rw [List.find?_cons_of_neg (by grind)];rcases List.mem_cons.1 h with rfl | h
   ·omega
   ·exact F9 aI.2 h
theorem CR {ao:Type} {k:ao->Nat} {l:List ao} (aI:(l.map k).Nodup) {p q:ao} (ar:p∈l) (bt:q∈l) (e:k p=k q):p=q:=by
 have M:=F9 aI ar;rw [e,F9 aI bt] at M;grind
theorem Sk:∀ {l:List (Nat×(Nat×Nat))},(l.map (·.1)).Nodup->∀ {p},p∈l->iB l p.1=p.2
 | [],_,_,h=>by cases h
 | a::l,aI,p,h=>by
  simp only [List.map_cons,List.nodup_cons] at aI;simp only [iB];by_cases e:p.1=a.1
  ·grind
  ·rw [if_neg e];rcases List.mem_cons.1 h with rfl | h
   ·omega
   ·exact Sk aI.2 h
theorem Sl:∀ {l:List (Nat×(Nat×Nat))} {b:Nat},b ∉ l.map (·.1)->iB l b=(nI,0)
 | [],_,_=>rfl
 | a::l,b,h=>by
  simp only [List.map_cons,List.mem_cons,not_or] at h;simp only [iB];rw [if_neg h.1];exact Sl h.2
theorem Sm (s:aE) (d:Nat) (f:Nat->Nat) (ins:List Nat):∀ (l:List (Nat×cv)) (j:Nat),(sy s d f ins l j).map (·.1)=l.map (·.1)
 | [],_=>rfl
 | p::l,j=>by
  simp only [sy,List.map_cons,Sm s d f ins l (j+1)];grind
theorem Sn (s:aE) (d:Nat) (f:Nat->Nat) (ins:List Nat):∀ (l:List (Nat×cv)) (j:Nat) {p:Nat×(Nat×Nat)},p∈sy s d f ins l j->
  (p.1∈ins/\p.2.1=f p.1/\∃ t,(p.1,t)∈l/\((p.2.2=(s.ag (f p.1)).gen/\((∀ (g:Nat->Nat×Nat) (R:Type) (z:t.cons R),(t.body g z).1.gC=false)\/(y8<=p.1/\∃ e,t=.bu e)))\/p.2.2=(s.ag (f p.1)).gen+1))\/
  (p.1 ∉ ins/\p.2.2=(s.ag p.2.1).gen+1/\50000+10*d+j<=p.2.1/\p.2.1<50000+10*d+j+l.length)
 | [],_,p,h=>by cases h
 | q::l,j,p,h=>by
  simp only [sy,List.mem_cons] at h;rcases h with h | h
  ·by_cases bt:ins.contains q.1=true
   ·rw [if_pos bt] at h;subst h;refine .inl ⟨by grind,rfl,q.2,by simp,?_⟩;obtain ⟨db,t⟩:=q;cases t with
    | bu e=>
     grind
    | _=>first | exact .inr rfl | exact .inl ⟨rfl,.inl λ_ _ _=>rfl⟩
   grind
  ·rcases Sn s d f ins l (j+1) h with ⟨M,aa,t,an,a8⟩ | ⟨M,aa,an,a8⟩
   ·exact .inl ⟨M,aa,t,List.mem_cons_of_mem _ an,a8⟩
   ·exact .inr ⟨M,aa,by omega,by simp only [List.length_cons];omega⟩
theorem F_ (g:Nat->Nat×Nat):∀ (l:List (Nat×cv)) (x:pJ l) (b:Nat),(fJ (hQ g l x) b=⟨0,.gK⟩/\b ∉ l.map (·.1))\/∃ q∈l,q.1=b/\∃ (R:Type) (z:q.2.cons R),fJ (hQ g l x) b=⟨0,(q.2.body g z).1⟩
 | [],_,_=>.inl ⟨rfl,by simp⟩
 | p::l,x,b=>by
  simp only [hQ,fJ];by_cases e:b=p.1
  ·grind
  ·rw [if_neg e];rcases F_ g l (p.2.body g x).2 b with ⟨M,aa⟩ | ⟨q,M,aa⟩
   ·exact .inl ⟨M,by rw [List.map_cons,List.mem_cons,not_or];exact ⟨e,aa⟩⟩
   ·exact .inr ⟨q,List.mem_cons_of_mem _ M,aa⟩
theorem adp {t u:cv} (h:t.FE u=true) {g g':Nat->Nat×Nat} {R Ln:Type} (z:t.cons R) (m5:u.cons Ln) :
  ((t.body g z).1.gB=true->(u.body g' m5).1.gB=true/\∀ k,(u.body g' m5).1.cd k=true)/\((t.body g z).1.hE=true->(u.body g' m5).1.hE=true/\∀ k,(u.body g' m5).1.cd k=true)/\(t.body g z).1.my=false:=by
 cases t<;>cases u<;>first
  | exact Bool.noConfusion h
  | exact ⟨λ_=>⟨rfl,λ_=>rfl⟩,λh=>Bool.noConfusion h,rfl⟩
  | exact ⟨λh=>Bool.noConfusion h,λ_=>⟨rfl,λ_=>rfl⟩,rfl⟩
  | exact ⟨λh=>Bool.noConfusion h,λh=>Bool.noConfusion h,rfl⟩
theorem xG:∀ (ts:List (Nat×cE)) {R:Type} (g:Nat->Nat×Nat) (z:oR ts R) (i:Nat),ts.any (λp=>p.1 == i)=false->gF (e9 g ts z).1 i=.undef
 | [],_,_,_,_,_=>rfl
 | p::ts,_,g,z,i,h=>by
  simp only [List.any_cons,Bool.or_eq_false_iff,beq_eq_false_iff_ne] at h;simp only [e9,gF];rw [if_neg (Ne.symm h.1)];exact xG ts g _ i h.2
theorem Lo {P:Program} {H:Nat->bS} {κ:Nat->bD} {F:Nat->Prop} {w:World}:∀ (g:List (Option Nat)) {us aH:List Value},CO g us aH->∀ (c:Nat->aP) (i:Nat),(∀ j,j<aH.length->bw P H κ F w (c (i+j)) (aH.getD j undef))->
  (pL g c i).length=g.length/\us.length=g.length/\∀ j,j<g.length->bw P H κ F w ((pL g c i).getD j .undef) (us.getD j undef)
 | [],[],aH,_,_,_,_=>⟨rfl,rfl,λj aC=>by cases aC⟩
 | [],_::_,_,h,_,_,_=>h.elim
 | none::g,[],_,h,_,_,_=>h.elim
 | some n::g,[],_,h,_,_,_=>h.elim
 | none::g,u::us,aH,h,c,i,aj=>by
  obtain ⟨sb,rfl,h⟩:=h;obtain ⟨M,aa,an⟩:=Lo g h c (i+1) λj aC=>by
   have:=aj (j+1) (by grind);rw [show i+(j+1)=i+1+j by omega] at this;simpa using this
  refine ⟨by simp [pL,M],by grind,λj aC=>?_⟩;cases j with
  | zero=>simpa [pL] using aj 0 (by simp)
  | succ j=>simpa [pL] using an j (by grind)
 | some n::g,u::us,aH,h,c,i,aj=>by
  obtain ⟨cs,sb,rfl,aI,oM,rfl,h⟩:=h;obtain ⟨M,aa,an⟩:=Lo g h c (i+n) λj aC=>by
   have:=aj (n+j) (by grind);rw [show i+(n+j)=i+n+j by omega] at this;have e:(cs.toList++sb).getD (n+j) undef=sb.getD j undef:=by
    grind
   rw [e] at this;omega
  refine ⟨by simp [pL,M],by grind,λj aC=>?_⟩;cases j with
  | zero=>
   simp only [pL,List.getD_cons_zero];refine ⟨cs.toList,by simp,by omega,λj aC=>?_⟩;grind
  | succ j=>simpa [pL] using an j (by grind)
theorem adq {P:Program} {H:Nat->bS} {κ:Nat->bD} {F:Nat->Prop} {w:World} {g:List (Option Nat)} {v:Value} {aH:List Value} (h:CP g v aH) {c:Nat->aP} (aj:∀ j,bw P H κ F w (c j) (aH.getD j undef)) :
  bw P H κ F w (KW (pL g c 0)) v:=by
 obtain ⟨us,M,aa,an⟩:=h;obtain ⟨aS,_,bK⟩:=Lo g an c 0 (λj _=>by simpa using aj j);subst aa;generalize pL g c 0=l at aS bK;unfold KW;split
 ·grind
 ·rename_i aw;have cI:us.length≠1:=λe=>by
   have:l.length=1:=by omega
   match l,this with
   | [x],_=>grind
  rw [if_neg cI];refine ⟨us,rfl,by omega,λi U=>?_⟩;unfold hN;grind
end Go.Fer
namespace Go.Fer
open Go.RowKit
section
variable {C:cf} {s:aE} {a:Act} {w:World} {κ:Nat->bD} {F:Nat->Prop}
theorem bl.args (W:bl C s a w κ F) {avs:List aP} {us:List Value} (aI:us.length<=fP) (aw:avs.length=us.length) (aj:∀ i,i<us.length->bw C.P s.ag κ F w (avs.getD i .undef) (us.getD i undef)) :
    bl { C with nt:=us.length,dfr:=[],r:=none } (sx s avs) { tmps:=us.toArray,defers:=[] } w κ F:=
  { W with
    eB:=by simp,dfr:=rfl,hF:=aI
    b3:=λi=>by
      show bw C.P s.ag κ F w (if i=b_ then s.aD b_ else if i<avs.length then avs.getD i .undef else .undef) (us.toArray.getD i undef);split
      · rename_i e
        subst e
        have M:=W.b3 b_
        have aa:a.tmps.getD b_ undef=undef:=by
          have:=W.eB;have:=W.hF;rw [Array.getD_eq_getD_getElem?,Array.getElem?_eq_none (by unfold b_ fP at *;omega)];rfl
        have an:us.toArray.getD b_ undef=undef:=by
          rw [Array.getD_eq_getD_getElem?,Array.getElem?_eq_none (by simp only [List.size_toArray];unfold b_ fP at *;omega)];rfl
        grind
      · split
        · simp_all
        · trivial
    bI:=W.bI
    fQ:=λl aM L n st e=>W.fQ l aM L n st (by simpa [sx] using e) }
def rK (C:cf) (w:World) (F':Nat->Prop) (n:Nat) (ad Y:Nat->Prop) (ix:(Nat->Option Nat)×(Nat->Option (bD×Nat))):cf:=
 { C with w0:=w,F0:=F',K0:=λr=>r<w.heap.size/\¬ad r/\¬Y r,nt:=n,dfr:=[],r:=none,ix:=ix.1,Jy:=ix.2 }
structure CS (C:cf) (s:aE) (w:World) (κ:Nat->bD) (F:Nat->Prop) (sl:aP) (Y:Nat->Prop):Prop where
 fQ:∀ l aM L n st,sl=.a5 l aM L n st->(∃ I,C.ck=⟨l,aM,L,I⟩)/\C.ck.k6 C.P/\C.ck.at aM n st F Y w
 low:∀ r,Y r->r<w.heap.size/\¬F r/\¬C.K0 r
 ad:∀ b,(s.ag b).body.cd (κ b)=true->¬Y (κ b).ag
 Ga:sl=.undef->∀ r,¬Y r
theorem bl.adr (W:bl C s a w κ F) {sl:aP} (h:∀ l aM L n st,sl=.a5 l aM L n st->s.aD b_=.a5 l aM L n st):∃ Y,CS C s w κ F sl Y:=by
 by_cases aA:∃ l aM L n st,sl=.a5 l aM L n st
 ·obtain ⟨l,aM,L,n,st,e⟩:=aA;obtain ⟨M,aa,Y,an,a8,bV⟩:=W.fQ l aM L n st (h _ _ _ _ _ e);refine ⟨Y,⟨λcP lg fx j4 gw a9=>?_,an,a8,λa9=>?_⟩⟩
  ·rw [e] at a9;cases a9;exact ⟨M,aa,bV⟩
  ·rw [e] at a9;cases a9
 ·exact ⟨λ_=>False,⟨λl aM L n st e=>(aA ⟨l,aM,L,n,st,e⟩).elim,λ_ h=>h.elim,λ_ _ h=>h,λ_ _ h=>h⟩⟩
theorem ads {C1:cf} {s1:aE} {bN:Act} {F':Nat->Prop} {b8:List Nat} {f:Nat->Nat} {sh:dX} {G:sh.aq} {Y:Nat->Prop} {ids:List Nat} (m8:C1.P=C.P) (tM:C1.aZ=C.aZ) (rL:C1.dfr=[])
  (g5:bl C1 (s1.cL b8) bN w κ F') (aN:F7 C1 s1 bN w κ f F' sh G b8) (jm:CS C (s1.cL b8) w κ F' ((sh.st G).aD b_) Y)
  (ax:∀ b bg,b∈sh.oS->bg∈sh.oS->f b=f bg->b=bg) (qA:∀ b∈ids,fP<=b) :
  bl (rK C w F' C1.nt (λr=>∃ b,((sh.st G).ag b).body.cd (κ (f b))=true/\(κ (f b)).ag=r) Y (λb=>if b∈ids then some (κ (f b)).ag else none,λb=>if b∈ids/\y8<=b then some (κ (f b),((sh.st G).ag b).body.len) else none)) (sh.st G) bN w (λb=>κ (f b)) F' where
 eB:=g5.eB
 dfr:=g5.dfr.trans rL
 b3:=λi=>by have:=aN.b3 i;rw [m8] at this;exact this
 bI:=λb=>by have:=aN.bI b;rw [m8] at this;exact this
 ad:=λb af=>by
  have M:=g5.ad (f b) (aN.xC af);exact ⟨M.1,M.2.1,λh=>h.2.1 ⟨b,af,rfl⟩⟩
 inj:=λb bg af dq e=>ax b bg (aN.cd b af).2.2 (aN.cd bg dq).2.2 (g5.inj _ _ (aN.xC af) (aN.xC dq) e)
 dM:=g5.dM
 iY:=λr W=>.inl W
 j2:=λr W=>W
 jI:=λr W=>W.1
 fF:=λ_ _=>rfl
 size:=Nat.le_refl _
 fi:=dA.refl _
 hF:=g5.hF
 m1:=λb r h=>by
  simp only [rK] at h;grind
 lC:=λb r h _=>by
  simp only [rK] at h;grind
 m2:=λb k h=>by
  simp only [rK] at h;grind
 mC:=λb k h _ _=>by
  simp only [rK] at h;grind
 fQ:=λl aM L n st e=>by
  obtain ⟨M,aa,an⟩:=jm.fQ l aM L n st e;exact ⟨M,aa,Y,λr W=>⟨(jm.low r W).1,(jm.low r W).2.1,λh=>h.2.2 W⟩,λb af=>jm.ad _ (aN.xC af),an⟩
 l2:=by have:=g5.l2;rw [m8,tM] at this;exact this
structure So (s:aE) (κ:Nat->bD) (ix:(Nat->Option Nat)×(Nat->Option (bD×Nat))) (bs:List (Nat×b7)) (cz:List (Nat×(Nat×Nat))):Prop where
 dO:(cz.map (·.1)).Nodup
 e6:(cz.map (·.2.1)).Nodup
 gK:nI ∉ cz.map (·.2.1)
 adt:(s.ag nI).body=.gK
 Sp:∀ p∈cz,(p.2.1<fP/\(s.ag p.2.1).gen<p.2.2)\/
  (((fJ bs p.1).body.gB=true->(s.ag p.2.1).body.gB=true/\ix.1 p.1=some (κ p.2.1).ag)/\((fJ bs p.1).body.hE=true->(s.ag p.2.1).body.hE=true/\ix.1 p.1=some (κ p.2.1).ag)/\(fJ bs p.1).body.my=false/\
   ((p.2.2=(s.ag p.2.1).gen/\((fJ bs p.1).body.gC=true->(s.ag p.2.1).body.gC=true/\(fJ bs p.1).body.gq=(s.ag p.2.1).body.gq/\ix.2 p.1=some (κ p.2.1,(s.ag p.2.1).body.len)))\/p.2.2=(s.ag p.2.1).gen+1))
theorem adu {F' ad Y:Nat->Prop} {sl:aP} {n:Nat} {ix:(Nat->Option Nat)×(Nat->Option (bD×Nat))} {ins:List Nat} {bP:dX} {bA:bP.aq} {aH:List Value} {w':World} {nJ:Nat->bD} {F2:Nat->Prop}
    (W:bl C s a w κ F') (jm:CS C s w κ F' sl Y) (hM:∀ r,ad r->∃ b,b∈ins/\(s.ag b).body.cd (κ b)=true/\(κ b).ag=r)
    (iC:bl { rK C w F' n ad Y ix with nt:=aH.length } (bP.st bA) { tmps:=aH.toArray,defers:=[] } w' nJ F2)
    {cz:List (Nat×(Nat×Nat))} (pw:So s κ ix (hQ (iB cz) bP.bI (e9 (iB cz) bP.b3 bA).2) cz)
    {H':Nat->bS} {κn:Nat->bD} (z1:∀ p∈cz,H' p.2.1=⟨p.2.2,(fJ (hQ (iB cz) bP.bI (e9 (iB cz) bP.b3 bA).2) p.1).body⟩/\κn p.2.1=nJ p.1)
    (CT:∀ b,b ∉ cz.map (·.2.1)->κn b=κ b/\(b∈ins->H' b=⟨(s.ag b).gen+1,.gK⟩)/\(b ∉ ins->H' b=s.ag b))
    {X:aP} (xH:X=gF (e9 (iB cz) bP.b3 bA).1 b_\/X=.undef\/(X=s.aD b_/\sl=.undef)) :
    bl C ⟨λi=>if i=b_ then X else s.aD i,H'⟩ a w' κn F2/\
    ∀ i,bw C.P H' κn F2 w' (gF (e9 (iB cz) bP.b3 bA).1 i) (aH.toArray.getD i undef):=by
  generalize z2:hQ (iB cz) bP.bI (e9 (iB cz) bP.b3 bA).2=bs at pw z1;have pI:∀ b,xF (fJ bs b).body ((bP.st bA).ag b).body:=λb=>by
    rw [<-z2,Si (Ll bP.b3 bA)];exact Sj bP.bI (e9 de bP.b3 bA).2 b
  have z3:pN (bP.st bA).ag H' nJ κn (iB cz):=by
    intro b;refine ⟨Lm _ b,?_⟩;by_cases af:b∈cz.map (·.1)
    · obtain ⟨p,ar,rfl⟩:=List.mem_map.1 af
      rw [Sk pw.dO ar]
      obtain ⟨M,aa⟩:=z1 p ar
      rw [M,aa]
      obtain ⟨aS,aY,bK,fe,rv,CU,_⟩:=pI p.1
      exact ⟨Nat.le_refl _,λ_=>⟨λh=>⟨aS ▸ h,rfl⟩,λh=>⟨aY ▸ h,rfl,bK,fe⟩,λh=>⟨rv ▸ h,rfl⟩,λh=>⟨CU ▸ h,rfl⟩⟩⟩
    · rw [Sl af]
      obtain ⟨_,aa,an⟩:=CT nI pw.gK
      have aN:(H' nI).body=.gK:=by
        by_cases U:nI∈ins
        · grind
        · rw [an U];exact pw.adt
      refine ⟨Nat.zero_le _,λ_=>?_⟩
      show ((H' nI).body.gB=true->_)/\((H' nI).body.gC=true->_)/\((H' nI).body.hE=true->_)/\((H' nI).body.my=true->_)
      rw [aN]
      exact ⟨λh=>(by cases h),λh=>(by cases h),λh=>(by cases h),λh=>(by cases h)⟩
  have Gb:∀ b,(∃ p∈cz,p.2.1=b)\/b ∉ cz.map (·.2.1):=λb=>by
    grind
  have Gc:∀ p∈cz,∀ r,ix.1 p.1=some r->(fJ bs p.1).body.gB=true\/(fJ bs p.1).body.hE=true->(nJ p.1).ag=r:=λp ar r W h=>by
    obtain ⟨aS,_,_,_,rv,_⟩:=pI p.1;exact iC.lC p.1 r W (h.imp (λh=>aS ▸ h) (λh=>rv ▸ h))
  have adv:∀ p∈cz,∀ k,ix.2 p.1=some k->(fJ bs p.1).body.gC=true->nJ p.1=k.1/\(fJ bs p.1).body.len=k.2:=λp ar k ak h=>by
    obtain ⟨_,aY,bK,_⟩:=pI p.1;obtain ⟨M,aa⟩:=iC.mC p.1 k ak (Lm _ _) (aY ▸ h);grind
  have aw:gT s.ag κ H' κn:=by
    rw [BJ];intro b;rcases Gb b with ⟨p,ar,rfl⟩ | af
    · obtain ⟨M,aa⟩:=z1 p ar
      rw [M,aa]
      rcases pw.Sp p ar with ⟨_,h⟩ | ⟨hc,hm,ub,h⟩
      · exact ⟨Nat.le_of_lt h,λe=>(by grind)⟩
      · rcases h with ⟨h,fI⟩ | h
        · refine ⟨Nat.le_of_eq h.symm,λ_=>⟨λh=>⟨(hc h).1,Gc p ar _ (hc h).2 (.inl h)⟩,λh=>?_,λh=>⟨(hm h).1,Gc p ar _ (hm h).2 (.inr h)⟩,λh=>?_⟩⟩
          · have h:(fJ bs p.1).body.gC=true:=h
            obtain ⟨bN,b1,bC⟩:=fI h
            obtain ⟨e0,gE⟩:=adv p ar _ bC h
            exact ⟨bN,e0,gE,b1⟩
          · have h:(fJ bs p.1).body.my=true:=h
            rw [ub] at h;cases h
        · exact ⟨by grind,λe=>(by grind)⟩
    · obtain ⟨M,aa,an⟩:=CT b af
      rw [M]
      by_cases U:b∈ins
      · rw [aa U]
        exact ⟨Nat.le_succ _,λe=>(by grind)⟩
      · rw [an U];exact sd.refl _ _
  have z4:w.heap.size<=w'.heap.size:=iC.size;have bB:∀ r,F' r->F2 r:=iC.j2;have kS:∀ r,r<w.heap.size->¬ad r->¬Y r->w'.heap[r]?=w.heap[r]?:=λr M aa an=>iC.fF r ⟨M,aa,an⟩;have vO:∀ r,C.K0 r->r<w.heap.size:=λr h=>Nat.lt_of_lt_of_le (W.jI r h) W.size;have Lp:∀ r,ad r->¬C.K0 r/\¬F' r:=λr h=>by
    obtain ⟨b,_,M,rfl⟩:=hM r h;exact ⟨(W.ad b M).2.2,(W.ad b M).2.1⟩
  have Sq:∀ r,¬(r<w.heap.size/\¬ad r/\¬Y r)->¬C.K0 r:=λr h ak=>h ⟨vO r ak,λal=>(Lp r al).1 ak,λaJ=>(jm.low r aJ).2.2 ak⟩;have rM:c6 F' w w':=⟨z4,λr h=>kS r (W.dM r h) (λal=>(Lp r al).2 h) λaJ=>(jm.low r aJ).2.1 h⟩
  have zH:∀ r,F2 r->F' r\/¬(r<w.heap.size/\¬ad r/\¬Y r):=iC.iY;have sF:∀ b,b ∉ ins->(s.ag b).body.cd (κ b)=true->(κ b).ag<w.heap.size/\¬ad (κ b).ag/\¬Y (κ b).ag:=λb af al=>by
    refine ⟨(W.ad b al).1,λh=>?_,jm.ad b al⟩;obtain ⟨bg,M,aa,an⟩:=hM _ h;exact af (W.inj bg b aa al an ▸ M)
  have y_:∀ b,(H' b).body.cd (κn b)=true->(∃ p∈cz,p.2.1=b/\((bP.st bA).ag p.1).body.cd (nJ p.1)=true/\κn b=nJ p.1)\/(b ∉ cz.map (·.2.1)/\b ∉ ins/\κn b=κ b/\(s.ag b).body.cd (κ b)=true):=λb af=>by
    rcases Gb b with ⟨p,ar,rfl⟩ | aI
    · obtain ⟨M,aa⟩:=z1 p ar
      rw [M,aa] at af
      exact .inl ⟨p,ar,rfl,by rw [<-(pI p.1).2.2.2.2.2.2];exact af,aa⟩
    · obtain ⟨M,aa,an⟩:=CT b aI
      by_cases U:b∈ins
      · rw [aa U] at af;cases af
      grind
  have dr:∀ i,bw C.P H' κn F2 w' (gF (e9 (iB cz) bP.b3 bA).1 i) (aH.toArray.getD i undef):=λi=>z3.b3 bP.b3 bA i (iC.b3 i);refine ⟨{ eB := W.eB, dfr := W.dfr, b3 := λi => ?_, bI := λb => ?_, ad := λb af => ?_, inj := λb bg af dq e => ?_, dM := iC.dM, iY := λr h => ?_, j2 := λr h => bB r (W.j2 r h), jI := W.jI, fF := λr h => ?_,size:=Nat.le_trans W.size z4,fi:=W.fi.trans iC.fi,hF:=W.hF,m1:=W.m1,lC:=λb r h hc=>?_,m2:=W.m2,mC:=λb k h aW bf=>?_,fQ:=λl aM L m st e=>?_,l2:=W.l2 },dr⟩
  · show bw C.P H' κn F2 w' (if i=b_ then X else s.aD i) _
    split
    · rename_i e
      subst e
      have hu:a.tmps.getD b_ undef=undef:=by
        have:=W.eB;have:=W.hF;rw [Array.getD_eq_getD_getElem?,Array.getElem?_eq_none (by unfold b_ fP at *;omega)];rfl
      rcases xH with rfl | rfl | ⟨rfl,_⟩
      · have h:=dr b_
        have Sr:aH.toArray.getD b_ undef=undef:=by
          have:aH.length<=fP:=iC.hF;rw [Array.getD_eq_getD_getElem?,Array.getElem?_eq_none (by simp only [List.size_toArray];unfold b_ fP at *;omega)];rfl
        grind
      · trivial
      · exact bw.nw aw bB rM (W.b3 b_)
    · exact bw.nw aw bB rM (W.b3 i)
  · show k5 C.P H' κn F2 w' (κn b) (H' b).body
    rcases Gb b with ⟨p,ar,rfl⟩ | aI
    · obtain ⟨M,aa⟩:=z1 p ar
      rw [M,aa,<-z2,Si (Ll bP.b3 bA)]
      exact z3.bI bP.bI (e9 de bP.b3 bA).2 p.1 (iC.bI p.1)
    · obtain ⟨M,aa,an⟩:=CT b aI
      by_cases U:b∈ins
      · rw [aa U];trivial
      · have:=cO.mA (H':=H') (κ':=κn) (W.bI b) aw bB rM (by grind) M λal=>kS _ (sF b U al).1 (sF b U al).2.1 (sF b U al).2.2
        exact this
  · rcases y_ b af with ⟨p,ar,_,M,aa⟩ | ⟨_,M,aa,an⟩
    · have:=iC.ad p.1 M
      rw [aa]
      exact ⟨this.1,this.2.1,Sq _ this.2.2⟩
    · rw [aa]
      have a8:=W.ad b an
      grind
  · rcases y_ b af with ⟨p,ar,rfl,M,aa⟩ | ⟨_,M,aa,an⟩<;>rcases y_ bg dq with ⟨p',B0,rfl,zv,tN⟩ | ⟨_,zv,tN,Ss⟩
    · rw [aa,tN] at e
      have:=iC.inj _ _ M zv e
      rw [CR pw.dO ar B0 this]
    · rw [aa,tN] at e
      exact ((iC.ad p.1 M).2.2 (e ▸ sF bg zv Ss)).elim
    · rw [aa,tN] at e
      exact ((iC.ad p'.1 zv).2.2 (e ▸ sF b M an)).elim
    · rw [aa,tN] at e
      exact W.inj b bg an Ss e
  · rcases zH r h with h | h
    · exact W.iY r h
    grind
  · exact (kS r (vO r h) (λal=>(Lp r al).1 h) λaJ=>(jm.low r aJ).2.2 h).trans (W.fF r h)
  · have aR:=W.m1 b r h
    rcases Gb b with ⟨p,ar,rfl⟩ | aI
    · obtain ⟨M,aa⟩:=z1 p ar
      simp only [M] at hc
      rcases pw.Sp p ar with ⟨an,_⟩ | ⟨aS,aY,_⟩
      · omega
      · rw [aa]
        rcases hc with hc | hc
        · rw [Gc p ar _ (aS hc).2 (.inl hc)]
          exact W.lC _ r h (.inl (aS hc).1)
        · rw [Gc p ar _ (aY hc).2 (.inr hc)]
          exact W.lC _ r h (.inr (aY hc).1)
    · obtain ⟨M,aa,an⟩:=CT b aI
      by_cases U:b∈ins
      · simp only [aa U] at hc
        rcases hc with hc | hc<;>cases hc
      · simp only [an U] at hc
        rw [M]
        exact W.lC b r h hc
  · have aR:=W.m2 b k h
    have aW:(H' b).gen=0:=aW
    have bf:(H' b).body.gC=true:=bf
    show κn b=k.1/\(H' b).body.len=k.2
    obtain ⟨ek,ht⟩:=aw b
    obtain ⟨bN,b1,bC,_⟩:=(ht (by omega)).2.1 bf
    obtain ⟨aS,aY⟩:=W.mC b k h (by omega) bN
    grind
  · have e:X=.a5 l aM L m st:=by grind
    rcases xH with rfl | rfl | ⟨rfl,adw⟩
    · obtain ⟨M,aa,ha,an,a8,bV⟩:=iC.fQ l aM L m st (Sh bP.b3 bA b_ e)
      refine ⟨M,aa,ha,λr bc=>⟨(an r bc).1,(an r bc).2.1,Sq r (an r bc).2.2⟩,λb af aJ=>?_,bV⟩
      rcases y_ b af with ⟨p,ar,rfl,aS,aY⟩ | ⟨_,aS,aY,bK⟩
      · grind
      · rw [aY] at aJ;exact (an _ aJ).2.2 (sF b aS bK)
    · cases e
    · obtain ⟨M,aa,ha,an,a8,bV⟩:=W.fQ l aM L m st e
      have St:∀ r,ha r->r<w.heap.size/\¬ad r/\¬Y r:=λr aJ=>⟨(an r aJ).1,λal=>by
        grind,jm.Ga adw r⟩
      have BK:∀ r,F2 r->¬ha r:=λr ax aJ=>(zH r ax).elim (an r aJ).2.1 λh=>h (St r aJ)
      refine ⟨M,aa,ha,λr aJ=>⟨Nat.lt_of_lt_of_le (an r aJ).1 z4,λax=>BK r ax aJ,(an r aJ).2.2⟩,λb af aJ=>?_,aa.Jx bV bB (λr ax=>?_) z4 iC.fi iC.dM BK⟩
      · rcases y_ b af with ⟨p,ar,rfl,aS,aY⟩ | ⟨_,aS,aY,bK⟩
        · rw [aY] at aJ;exact (iC.ad _ aS).2.2 (St _ aJ)
        grind
      · rcases ax with ax | ax
        · exact rM.2 r ax
        grind
end
end Go.Fer
namespace Go.Fer
open Go.RowKit
section
variable {C:cf} {T:Nat->ai} {o:Oper} {s:aE}
theorem hj.bx {P:Program} {a1:eG} {k:FuncId} {c:fY} (ax:hj P a1 k c) {C:cf} {a:Act} {w:World} {κ:Nat->bD} {F:Nat->Prop} {G:c.cM.aq} (h:bl C (c.cM.st G) a w κ F) (M:C.P=P) (aa:C.w0=w) (an:C.r=none) (a8:C.dfr=[]) (bV:C.nt=c.lh) (d_:C.aZ=a1) (aA:(c.sh G).dU) :
  Calls P k a.tmps w λe w'=>∃ v bA aH κ' F',e=.returned v/\(c.sh G).bP bA/\CP c.lQ v aH/\bl { C with nt:=aH.length } (c.bP.st bA) { tmps:=aH.toArray,defers:=[] } w' κ' F':=
 ax.mZ C a w κ F G M aa an a8 bV d_ h aA
theorem Su {C:cf} {s:aE} {Lq:Nat->aP} {a bN:Act} {w:World} {κ:Nat->bD} {F:Nat->Prop} {dO:Nat} {c:fY} {f:Nat->Nat} {G:c.cM.aq} {b8:List Nat} {d m:Nat} {cz:List (Nat×(Nat×Nat))}
    (W:bl C s a w κ F) (g5:bl { C with nt:=dO,dfr:=[],r:=none } ⟨Lq,s.ag⟩ bN w κ F) (sG:Lq b_=s.aD b_)
    (om:c.cM.zP f ⟨Lq,s.ag⟩=some (G,b8)) (Sv:sy (s.cL b8) d f c.cM.oS c.bP.bI 0=cz) (er:CD c f (s.cL b8) cz d m=true) :
    ∃ (F' ad Y:Nat->Prop) (ix:(Nat->Option Nat)×(Nat->Option (bD×Nat))),(∀ r,F r->F' r)/\bl C (s.cL b8) a w κ F'/\(∀ r,ad r->∃ b,((s.cL b8).ag b).body.cd (κ b)=true/\(κ b).ag=r)/\CS C (s.cL b8) w κ F' ((c.cM.st G).aD b_) Y/\(∀ l aM L n st,(c.cM.st G).aD b_=.a5 l aM L n st->s.aD b_=.a5 l aM L n st)/\
      bl (rK C w F' dO ad Y ix) (c.cM.st G) bN w (λb=>κ (f b)) F'/\
      ∀ Lr ih,bl { C with w0:=Lr } (s.cL b8) a ih κ F'->CS C (s.cL b8) ih κ F' ((c.cM.st G).aD b_) Y->∀ (bA:c.bP.aq) (aH:List Value) (w':World) (nJ:Nat->bD) (F2:Nat->Prop),bl { rK C ih F' dO ad Y ix with nt:=aH.length } (c.bP.st bA) { tmps:=aH.toArray,defers:=[] } w' nJ F2->
        ∃ κn,bl { C with w0:=Lr } (xu (s.cL b8) c f cz bA) a w' κn F2/\∀ i,bw C.P (xu (s.cL b8) c f cz bA).ag κn F2 w' (gF (e9 (iB cz) c.bP.b3 bA).1 i) (aH.toArray.getD i undef):=by
  simp only [CD,Bool.and_eq_true,decide_eq_true_eq,Bool.not_eq_true'] at er;obtain ⟨⟨⟨⟨⟨⟨⟨⟨⟨⟨bH,b2⟩,cw⟩,gi⟩,hG⟩,CV⟩,Sw⟩,Gd⟩,Ge⟩,Gf⟩,_⟩:=er;have cw:(c.cM.bI.map (·.1)).Nodup:=of_decide_eq_true cw;have gi:(c.cM.bI.map λp=>f p.1).Nodup:=of_decide_eq_true gi;have hG:(cz.map (·.1)).Nodup:=of_decide_eq_true hG;have CV:(cz.map (·.2.1)).Nodup:=of_decide_eq_true CV;have Gd:nI ∉ cz.map (·.2.1):=λh=>by
    grind
  have Ge:((s.cL b8).ag nI).body=.gK:=by
    grind
  obtain ⟨F',f1,g5,aN⟩:=dX.R7 om g5;have bc : bl C (s.cL b8) a w κ F' := { g5 with
    eB:=W.eB,dfr:=W.dfr,hF:=W.hF,b3:=λi=>bw.nw (QZ s b8 κ) f1 (c6.refl _ _) (W.b3 i)
    bI:=g5.bI
    fQ:=λl aM L n st e=>g5.fQ l aM L n st (by simpa [aE.cL,sG] using e) }
  obtain ⟨Y,jm⟩:=bc.adr (sl:=(c.cM.st G).aD b_) λl aM L n st e=>by simpa [aE.cL,sG] using aN.a5 l aM L n st e
  have qA:∀ b∈c.cM.bI.map (·.1),fP<=b:=λb af=>by grind
  have Gg:∀ b,b∈c.cM.oS->∃ q∈c.cM.bI,q.1=b/\q.2.Cy=true:=λb af=>by
    obtain ⟨q,bt,e⟩:=List.mem_filterMap.1 af;grind
  have CW:=ads (C:=C) (C1:={ C with nt:=dO,dfr:=[],r:=none }) (ids:=c.cM.bI.map (·.1)) rfl rfl rfl g5 aN ⟨jm.fQ,jm.low,jm.ad,jm.Ga⟩ (λb bg af dq e=>by
    obtain ⟨q,bt,rfl,_⟩:=Gg b af;obtain ⟨q',vG,rfl,_⟩:=Gg bg dq;rw [CR (k:=λp=>f p.1) gi bt vG e]) qA
  refine ⟨F',_,Y,_,f1,bc,λr ⟨b,af,e⟩=>⟨f b,aN.xC af,e⟩,jm,λl aM L n st e=>by simpa [aE.cL,sG] using aN.a5 l aM L n st e,CW,λLr ih Ki Gh bA aH w' nJ F2 iC=>?_⟩;have z2:∀ (b:Nat) (q':Nat×cv),q'∈c.bP.bI->q'.1=b->b∈c.cM.oS->∀ (R:Type) (z:q'.2.cons R),((q'.2.body (iB cz) z).1.gB=true->((s.cL b8).ag (f b)).body.gB=true)/\((q'.2.body (iB cz) z).1.hE=true->((s.cL b8).ag (f b)).body.hE=true)/\(q'.2.body (iB cz) z).1.my=false:=by
    intro b q' vG e af R z;obtain ⟨q,bt,rfl,Ls⟩:=Gg b af;have ak:=List.all_eq_true.1 (List.all_eq_true.1 Gf q' vG) q bt;rw [e,Ls] at ak;simp only [beq_self_eq_true,Bool.and_self,Bool.not_true,Bool.false_or] at ak;rcases F_ de c.cM.bI (e9 de c.cM.b3 G).2 q.1 with ⟨_,aa⟩ | ⟨dR,aa,an,Ln,m5,a8⟩
    · grind
    · obtain rfl:=CR cw aa bt an
      have a8:(c.cM.st G).ag dR.1=⟨0,(dR.2.body de m5).1⟩:=a8
      obtain ⟨aS,aY,bK⟩:=adp ak z m5 (g:=iB cz) (g':=de)
      have ua:=aN.zY dR.1
      refine ⟨λhc=>?_,λhc=>?_,bK⟩
      · have bV:=aN.cd dR.1 (by grind)
        simp only [aE.cL,if_neg bV.1]
        exact ua.2.1 (by grind)
      · have bV:=aN.cd dR.1 (by grind)
        simp only [aE.cL,if_neg bV.1]
        exact ua.2.2.2.1 (by grind)
  have adx:cz.map (·.1)=c.bP.bI.map (·.1):=by rw [<-Sv];exact Sm ..
  have pw:So (s.cL b8) κ (λb=>if b∈c.cM.bI.map (·.1) then some (κ (f b)).ag else none,λb=>if b∈c.cM.bI.map (·.1)/\y8<=b then some (κ (f b),((c.cM.st G).ag b).body.len) else none) (hQ (iB cz) c.bP.bI (e9 (iB cz) c.bP.b3 bA).2) cz:=by
    refine ⟨hG,CV,Gd,Ge,λp ar=>?_⟩;rw [<-Sv] at ar;rcases Sn _ _ _ _ _ _ ar with ⟨M,aa,t,an,a8⟩ | ⟨_,aa,an,a8⟩
    · rw [aa]
      have g6:p.1∈c.cM.bI.map (·.1):=by
        grind
      rcases F_ (iB cz) c.bP.bI (e9 (iB cz) c.bP.b3 bA).2 p.1 with ⟨_,aY⟩ | ⟨q',aS,aY,R,z,bK⟩
      · grind
      · rw [bK]
        obtain ⟨e0,gE,jN⟩:=z2 p.1 q' aS aY M R z
        have:q'=(p.1,t):=CR (adx ▸ hG) aS an aY
        subst this
        refine .inr ⟨λh=>⟨e0 h,if_pos g6⟩,λh=>⟨gE h,if_pos g6⟩,jN,a8.imp (λa8=>⟨a8.1,λfI=>?_⟩) id⟩
        rcases a8.2 with bV | ⟨ak,e,rfl⟩
        · grind
        · obtain ⟨q,bt,Lj,Ls⟩:=Gg p.1 M
          have xI:=List.all_eq_true.1 (List.all_eq_true.1 Gf _ aS) q bt
          rw [Lj,Ls] at xI
          simp only [beq_self_eq_true,Bool.and_self,Bool.not_true,Bool.false_or] at xI
          rcases F_ de c.cM.bI (e9 de c.cM.b3 G).2 p.1 with ⟨_,tN⟩ | ⟨dR,eN,ij,Ln,m5,g2⟩
          · grind
          · obtain rfl:=CR cw eN bt (ij.trans Lj.symm)
            have g2:(c.cM.st G).ag p.1=⟨0,(dR.2.body de m5).1⟩:=g2
            obtain ⟨db,Lt⟩:=dR
            have xI:cv.FE (.bu e) Lt=true:=xI
            obtain rfl:Lt=.bu e:=by
              cases Lt<;>first | (simp only [cv.FE,decide_eq_true_eq] at xI;rw [xI]) | cases xI
            have ua:=aN.zY p.1
            have ady:((c.cM.st G).ag p.1).body.gC=true:=by rw [g2];rfl
            obtain ⟨b4,ct,fc⟩:=ua.2.2.1 ady
            have bm:((s.cL b8).ag (f p.1)).body.gC=true/\((s.cL b8).ag (f p.1)).body.len=(s.ag (f p.1)).body.len/\((s.cL b8).ag (f p.1)).body.gq=(s.ag (f p.1)).body.gq:=by
              simp only [aE.cL];split
              · rcases zr s.ag (s.ag (f p.1)) with a9 | ⟨_,_,au,a9⟩ | ⟨_,_,_,au,_⟩ | ⟨_,_,_,_,au,_,_⟩
                · grind
                · rw [a9,au];exact ⟨rfl,rfl,rfl⟩
                · have b4:(s.ag (f p.1)).body.gC=true:=b4
                  rw [au] at b4;cases b4
                · have b4:(s.ag (f p.1)).body.gC=true:=b4
                  rw [au] at b4;cases b4
              grind
            have ct:((c.cM.st G).ag p.1).body.len=(s.ag (f p.1)).body.len:=ct
            have fc:((c.cM.st G).ag p.1).body.gq=(s.ag (f p.1)).body.gq:=fc
            refine ⟨bm.1,?_,?_⟩
            · rw [bm.2.2,<-fc,g2];rfl
            grind
    · refine .inl ⟨?_,by omega⟩
      unfold fP
      omega
  obtain ⟨qB,dr⟩:=adu (ins:=c.cM.oS.map f) (X:=if c.bP.b3.any (λp=>p.1 == b_) then gF (e9 (iB cz) c.bP.b3 bA).1 b_ else if c.cM.b3.any (λp=>p.1 == b_) then .undef else (s.cL b8).aD b_)
    (H':=(xu (s.cL b8) c f cz bA).ag)
    (κn:=λb=>match cz.find? (λp=>p.2.1 == b) with
      | some p=>nJ p.1
      | none=>κ b) Ki ⟨Gh.fQ,Gh.low,Gh.ad,Gh.Ga⟩ (λr ⟨b,af,e⟩=>⟨f b,List.mem_map_of_mem (aN.cd b af).2.2,aN.xC af,e⟩) iC pw
    (λp ar=>by simp only [xu,F9 (k:=λp=>p.2.1) CV ar,and_self]) (λb af=>by
      have aI:cz.find? (λp=>p.2.1 == b)=none:=List.find?_eq_none.2 λp ar e=>af (List.mem_map.2 ⟨p,ar,by grind⟩);simp only [xu,aI,true_and];grind)
    (by
      split
      · simp
      · split
        · simp
        · rename_i aa
          exact .inr (.inr ⟨rfl,xG c.cM.b3 de G b_ (Bool.eq_false_iff.2 aa)⟩))
  exact ⟨_,qB,dr⟩
theorem adz (bh:∀ i,o.dst=some i->i<C.nt) {k:Nat} {args:Array Operand} {dN:Array TypeId} (al:o.op=.call { callee:=.value (.func k),args:=args,argTypes:=dN }) {c:fY} (ax:hj C.P C.aZ k c) {ck:js}
  (h:FO C.aZ s o args.toList c=some ck):sD C o s ck:=by
 obtain ⟨args⟩:=args;unfold FO at h;generalize asN:rF c (sx s (rE C.aZ s args))=f at h;split at h
 ·rename_i G b8 om;split at h
  ·rename_i er;cases h;have adA:rB (a_ C.aZ s.aD) o->k_ (args.map (a_ C.aZ s.aD)):=λaf=>CK af λx au=>by rw [al];simp [Op.operands,Call.operands];simp_all
   refine ⟨λa w Q K W be Sx=>?_,λgs oU=>(by grind),adA⟩;obtain ⟨κ,F,W⟩:=W;have hlen:args.length=c.lh/\args.length<=fP:=by
    simp only [CD,Bool.and_eq_true,decide_eq_true_eq] at er;omega
   have ep:=W.args (avs:=rE C.aZ s args) (us:=args.map a.eval) (by grind) (by simp [rE]) λi U=>by
    have e1:i<args.length:=by grind
    have M:=sq be i (by grind);have aK:(args.map (a_ C.aZ s.aD)).getD i .undef=a_ C.aZ s.aD args[i]:=by grind
    rw [aK] at M;have bq:(rE C.aZ s args).getD i .undef=(use (a_ C.aZ s.aD args[i])).2:=by simp [rE,List.getD_eq_getElem?_getD,e1]
    have cF:(args.map a.eval).getD i undef=a.eval args[i]:=by grind
    rw [bq,cF];exact pz (kN W args[i]) M
   obtain ⟨F',ad,Y,ix,_,bc,_,jm,_,CW,Lu⟩:=Su W ep rfl om rfl er;have dj:(execOp a.eval o).run C.P w=.ok (.enter k (args.map a.eval).toArray) w:=by
    simp only [execOp,al,Sem.run_bind,resolve,Act.eval,Deferred.ofValue,Sem.run_pure,Result.andThen_ok,invoke];have:=ax.enter (args.map a.eval).toArray w;grind
   have lk:=ax.bx CW rfl rfl rfl rfl (by show (args.map a.eval).length=_;grind) rfl Sx.1;refine Fq (by grind) dj lk λe w' ⟨v,bA,aH,nJ,F2,he,jO,Gi,iC⟩=>⟨v,he,Sx.2 bA jO _ _ ?_⟩
   obtain ⟨κn,qB,dr⟩:=Lu C.w0 w bc jm bA aH w' nJ F2 iC;exact ⟨_,F2,bl.set qB bh (adq Gi λj=>by simpa [Array.getD_eq_getD_getElem?,List.getD_eq_getElem?_getD] using dr j)⟩
  grind
 grind
end
end Go.Fer
namespace Go.Fer
open Go.RowKit
section
variable {C:cf} {o:Oper} {s:aE}
theorem bl.round {s:aE} {a:Act} {w w':World} {κ:Nat->bD} {F' F2 Y Gj:Nat->Prop} {l:Nat} {aM:ai} {L:List aM.aq->Prop} {I} {e6:List aM.aq} {Lv:Bool} (W:bl C s a w κ F') (oV:C.ck=⟨l,aM,L,I⟩) (cm:C.ck.k6 C.P)
    (aJ:∀ r,Y r->r<w.heap.size/\¬F' r/\¬C.K0 r) (Lw:∀ b,(s.ag b).body.cd (κ b)=true->¬Y (κ b).ag)
    (ek:∀ r,F' r->F2 r) (ht:∀ r,F2 r->F' r\/Y r\/w.heap.size<=r) (iD:∀ r,F2 r->r<w'.heap.size) (nc:∀ r,r<w.heap.size->¬Y r->w'.heap[r]?=w.heap[r]?)
    (sH:∀ r,Gj r->(Y r\/w.heap.size<=r)/\r<w'.heap.size/\¬F2 r) (xJ:w.heap.size<=w'.heap.size) (vP:dA w w') (Lx:I e6 Lv F2 Gj w') :
    bl C ⟨λi=>if i=b_ then .a5 l aM L e6 Lv else s.aD i,s.ag⟩ a w' κ F2:=by
  have rM:c6 F' w w':=⟨xJ,λr h=>nc r (W.dM r h) λCc=>(aJ r Cc).2.1 h⟩
  have lN:∀ r,w.heap.size<=r->¬C.K0 r:=λr h ak=>by have:=W.jI r ak;have:=W.size;omega
  refine { eB := W.eB, dfr := W.dfr, b3 := λi => ?_, bI := λb => cO.mA (W.bI b) (gT.refl _ _) ek rM rfl rfl λal => nc _ (W.ad b al).1 (Lw b al), ad := λb af => ?_, inj := W.inj, dM := iD, iY := λr h => ?_,j2:=λr h=>ek r (W.j2 r h),jI:=W.jI,fF:=λr h=>?_,size:=Nat.le_trans W.size xJ,fi:=W.fi.trans vP,hF:=W.hF,m1:=W.m1,lC:=W.lC,m2:=W.m2,mC:=W.mC,fQ:=λcP lg fx j4 gw e=>?_,l2:=W.l2 }
  · show bw C.P s.ag κ F2 w' (if i=b_ then .a5 l aM L e6 Lv else s.aD i) _
    split
    · trivial
    · exact bw.nw (gT.refl _ _) ek rM (W.b3 i)
  · have h:=W.ad b af
    grind
  · rcases ht r h with h | h | h
    · exact W.iY r h
    · exact .inr (aJ r h).2.2
    · exact .inr (lN r h)
  · exact (nc r (Nat.lt_of_lt_of_le (W.jI r h) W.size) λk=>(aJ r k).2.2 h).trans (W.fF r h)
  · simp only [if_true] at e
    cases e
    refine ⟨⟨I,oV⟩,cm,Gj,λr h=>⟨(sH r h).2.1,(sH r h).2.2,?_⟩,λb af h=>?_,?_⟩
    · grind
    · rcases (sH _ h).1 with h | h
      · grind
      · exact absurd (W.ad b af).1 (Nat.not_lt.2 h)
    · rw [oV];exact mB.y7.2 Lx
theorem adB (bh:∀ i,o.dst=some i->i<C.nt) {t:Nat} {args:Array Operand} {dN:Array TypeId} (al:o.op=.call { callee:=.value (.tmp t),args:=args,argTypes:=dN }) {ck:js}
  (h:FP C.aZ s o t args.toList=some ck):sD C o s ck:=by
 obtain ⟨args⟩:=args;unfold FP at h;split at h
 ·rename_i cP l aM L n st z5 xi;split at h
  ·rename_i x b8 au;cases h;refine ⟨λa w Q K W be hm=>?_,λgs oU=>(by grind),λaf=>CK af λx au=>by rw [al];simp [Op.operands,Call.operands];simp_all⟩;obtain ⟨κ,F,W⟩:=W;rw [A.mx] at hm;obtain ⟨⟨rfl,rfl,Gk⟩,hm⟩:=hm;obtain ⟨F',f1,bc,f2⟩:=bl.mH (qt _ au) W;have ep:gS C.P aM F' w (args.map a.eval) x:=by
    refine vF W.bI f1 aM au f2 (by simp) λi U eA=>?_;simp only [List.getElem_map];have e1:i<args.length:=by grind
    have M:=sq be i (by grind);have aK:(args.map (a_ C.aZ s.aD)).getD i .undef=a_ C.aZ s.aD args[i]:=by grind
    rw [show (List.map (a_ C.aZ s.aD) (⟨args⟩:Array Operand).toList)=args.map (a_ C.aZ s.aD) from rfl,aK] at M;exact pz (kN W args[i]) M
   have aj:a.eval (.tmp t)=.func (.yield cP) #[] #[]:=by
    have:=kN W (.tmp t);have e:a_ C.aZ s.aD (.tmp t)=.gA cP:=z5;rw [e] at this;exact this
   obtain ⟨⟨I,oV⟩,cm,Y,aJ,Lw,fs⟩:=bc.fQ cP aM L n false xi;have adC:mB.k6 C.P ⟨cP,aM,L,I⟩:=oV ▸ cm;rw [oV] at fs;have fs:=mB.y7.1 fs;obtain ⟨fn,tmps,assign,body,M,aa⟩:=adC.yield fs bc.dM (λr h=>⟨(aJ r h).1,(aJ r h).2.1⟩) Gk ep;have dj:(execOp a.eval o).run C.P w=.ok (.round cP fn tmps assign body) w:=by
    simp only [execOp,al,Sem.run_bind,resolve,aj,Deferred.ofValue,Sem.run_pure,Result.andThen_ok,invoke];grind
   refine ⟨λ_ _=>trivial,?_⟩;rw [zm (by grind),dj,Oper.uponIn_round];refine ⟨λaA=>(by cases aA),?_⟩;have an:RoundIn (eX C.r) 0 C.P cP fn tmps assign body w _:=aa;refine an.mono λe w' ⟨b,F2,Gj,he,ek,ht,iD,nc,sH,xJ,vP,Lx⟩=>?_;subst he;refine hm.2 b trivial _ _ ⟨κ,F2,bl.set ?_ bh (gh.2 rfl)⟩;exact bc.round oV cm aJ Lw ek ht iD nc sH xJ vP Lx
  grind
 grind
end
end Go.Fer
namespace Go.Fer
open Go.RowKit
section
variable {C:cf} {T:Nat->ai} {bd:Nat->Option aU} {s:aE} {res:fj}
theorem Sy {ms:Array MapEntry} {j:Nat} (aC:j<ms.size) (hu:∀ i (h:i<ms.size),ms[i].born=ms[j].born->i=j):ms.findIdx? (λe=>(e.born:Int) == (ms[j].born:Int))=some j:=by
 rw [Array.findIdx?_eq_some_iff_getElem];grind
theorem adD (ms:Array MapEntry) (e:MapEntry) (f:MapEntry->MapEntry):(ms.push e).modify ms.size f=ms.push (f e):=by
 grind
theorem adE (ms:Array MapEntry) (j:Nat) (f g:MapEntry->MapEntry):(ms.modify j f).modify j g=ms.modify j λe=>g (f e):=by
 grind
theorem z6 {a:Act} {d:Nat} {v:Value} {x:Operand} (h:x≠.tmp d):(a.put (some d) v).eval x=a.eval x:=Act.eval_put λE6 e=>by grind
theorem CX {a:Act} {d:Nat} {v:Value} (h:d<a.tmps.size):(a.put (some d) v).eval (.tmp d)=v:=by
 simp [Act.put,Act.eval,Array.getD_eq_getD_getElem?,h]
theorem adF (a2:eO C.P T) {hH gM j9 kR:Oper} {d1 d2:Nat} {ty:TypeId} {m x y:Operand} (M:hH.op=.mapEntry ty m x) (t1:hH.dst=some d1) (aa:gM.op=.extract (.tmp d1) 1) (hx:gM.dst=some d2)
  (an:j9.op=.entryStore ty m (.tmp d2) y) (a7:j9.dst=none) (iQ:kR.op=.mapUpdate ty m x y) (Ly:kR.dst=none) (j_:m≠.tmp d1) (oW:m≠.tmp d2) (xK:y≠.tmp d1) (sI:y≠.tmp d2) (rA:d1<C.nt) (jw:d2<C.nt)
  (h:(bo C.aZ T bd (a_ C.aZ s.aD) kR).run s.ag=some res) {a:Act} {w:World} {κ:Nat->bD} {F:Nat->Prop} {Q:Exit->Act->World->Prop} {K:Act->World->Prop} (W:bl C s a w κ F) (be:res.cD) (hc:res.c)
  (kS:∀ a' w',cG C (((s.i_ none res).set (some d1) .undef).set (some d2) .undef) a' w'->K a' w') :
  hH.wpIn (eX C.r) 0 C.P a w (λbN cn=>gM.wpIn (eX C.r) 0 C.P bN cn (λb1 c8=>j9.wpIn (eX C.r) 0 C.P b1 c8 K Q) Q) Q:=by
 have oO:=Kg a2 Ly (.inl iQ) h a w κ F Q W be hc;rw [Ly] at oO;have aK:∀ c,hH.op≠.defer c:=by grind
 have bq:∀ c,gM.op≠.defer c:=by grind
 have cF:∀ c,j9.op≠.defer c:=by grind
 have adG:∀ c,kR.op≠.defer c:=by grind
 simp only [bo,iQ,rm] at h;split at h
 ·rename_i k v aR;obtain ⟨l_,zD,U,km,hP⟩:=(a2.cb aR (by simp)).mp;obtain ⟨inf,nd,i1,i2,i3,i4,i5,i6⟩:=mE hP.mD;split at h
  ·rename_i xL;split at h
   ·rename_i b g xg;simp only [az.fR,Option.bind_eq_some_iff,az.run_bind,az.gr,az.bW] at h;obtain ⟨⟨ec,oK⟩,au,⟨fX,oL⟩,aJ,h⟩:=h;split at h
    ·rename_i aL;obtain ⟨aL,vA⟩:=aL;have vA:b ∉ oK++oL:=by
      grind
     split at h
     ·rename_i k' iL es af;simp only [Option.map_eq_some_iff] at h;obtain ⟨Ro,pB,rfl⟩:=h;obtain ⟨e,rfl⟩:=lD pB;cases e;obtain ⟨F',f1,bc,f2⟩:=bl.mH ((od au).append (od aJ)) W;have hm:bw C.P s.ag κ F w (use (a_ C.aZ s.aD m)).2 (a.eval m):=cU W m rfl be.1;rw [xg] at hm;have i':=hm.2 aL.symm (by rw [af];rfl);have tT:=n9 W.bI f1 au f2.left (cU W x rfl be.2.1);have pH:(s.cL (oK++oL)).ag b=s.ag b:=by simp only [aE.cL];grind
      have a6:=bc.bI b;unfold cO at a6;rw [pH,af] at a6;obtain ⟨ms,clk,hw,tU⟩:=a6;have fW:k.lF=true/\k.kM<=100:=by simpa [tH] using xL
      have er:=(Cj (em:=false) k 10000 fW.1 (by omega)).1 km tT;have lP:=tU.es;obtain ⟨f,db,dR⟩:=xf (β:=v.aq) (xs:=es) (es:=ms.toList) xL km tT lP.1 (λj e p M aa=>(lP.2 j e p M aa).1);have fU:(getObj (κ b).ag).run C.P w=.ok (.map ms clk) w:=by simp [getObj,Sem.run,hw]
      obtain ⟨jI,Kh,Ft,Rp⟩:=tU;have uc:d1<a.tmps.size:=by have:=W.eB;omega
      have cq:(κ b).ag<w.heap.size:=(Array.getElem?_eq_some_iff.1 hw).1;have chain:∀ (cn c8:World) (u:Value) (n:Int),(execOp a.eval hH).run C.P w=.ok (.value (.tuple #[u,goInt n])) cn->(Instr.entryStore ty (.map (some (κ b).ag)) (goInt n) (a.eval y)).run C.P cn=.ok () c8->
        (execOp a.eval kR).run C.P w=.ok .skip c8->
        hH.wpIn (eX C.r) 0 C.P a w (λbN cn=>gM.wpIn (eX C.r) 0 C.P bN cn (λb1 c8=>j9.wpIn (eX C.r) 0 C.P b1 c8 K Q) Q) Q:=by
       intro cn c8 u n b4 ct adH;have kQ:=oO.2;rw [zm adG,adH,Oper.uponIn_skip,Ly] at kQ;refine h1 aK b4 ?_;rw [t1];have adI:(a.put (some d1) (.tuple #[u,goInt n])).eval (.tmp d1)=.tuple #[u,goInt n]:=CX uc;refine h1 (v:=goInt n) (w':=cn) bq (by simp [execOp,aa,adI,Instr.extract]) ?_;rw [hx];have adJ:d2<(a.put (some d1) (.tuple #[u,goInt n])).tmps.size:=by have:=W.eB;simp [Act.put];omega
       have adK:((a.put (some d1) (.tuple #[u,goInt n])).put (some d2) (goInt n)).eval (.tmp d2)=goInt n:=CX adJ;have Lz:((a.put (some d1) (.tuple #[u,goInt n])).put (some d2) (goInt n)).eval m=.map (some (κ b).ag):=by rw [z6 oW,z6 j_,i']
       have adL:((a.put (some d1) (.tuple #[u,goInt n])).put (some d2) (goInt n)).eval y=a.eval y:=by rw [z6 sI,z6 xK]
       refine JM cF (w':=c8) (by simp only [execOp,an,adK,Lz,adL,Sem.run_bind,ct,Result.andThen_ok,Sem.run_pure]) ?_;rw [a7];refine kS _ _ ?_;obtain ⟨κ',F',kQ⟩:=kQ;exact ⟨κ',F',bl.set (bl.set (d:=some d1) (av:=.undef) kQ (λi e=>by grind) trivial) (λi e=>by grind) trivial⟩
      rcases dR with ⟨rfl,cI⟩ | ⟨j,e,p,ek,ht,iD,nc,rfl⟩
      ·refine chain { w with heap:=w.heap.setIfInBounds (κ b).ag (.map (ms.push { key:=a.eval x,val:=nd,born:=clk }) (clk+1)) } { w with heap:=w.heap.setIfInBounds (κ b).ag (.map (ms.push { key:=a.eval x,val:=a.eval y,born:=clk }) (clk+1)) } nd clk ?_ ?_ ?_
       ·simp only [execOp,M,i',Instr.mapEntry,Sem.run_bind,dW U,Result.andThen_ok,fU,er,db,sm i1 i4,sv hw,Sem.run_pure]
       ·have LA:(getObj (κ b).ag).run C.P { w with heap:=w.heap.setIfInBounds (κ b).ag (.map (ms.push { key:=a.eval x,val:=nd,born:=clk }) (clk+1)) }=.ok (.map (ms.push { key:=a.eval x,val:=nd,born:=clk }) (clk+1)) { w with heap:=w.heap.setIfInBounds (κ b).ag (.map (ms.push { key:=a.eval x,val:=nd,born:=clk }) (clk+1)) }:=by simp [getObj,Sem.run,cq]
        have LB:(ms.push { key:=a.eval x,val:=nd,born:=clk }).findIdx? (λe=>(e.born:Int) == (clk:Int))=some ms.size:=by
         have:=Sy (ms:=ms.push { key:=a.eval x,val:=nd,born:=clk }) (j:=ms.size) (by simp) λi U he=>by
          grind
         grind
        simp only [Instr.entryStore,Sem.run_bind,LA,Result.andThen_ok,goInt,asInt,asIntOf,Sem.run_pure,LB];rw [sv (es:=ms.push { key:=a.eval x,val:=nd,born:=clk }) (clk:=clk+1) (by grind),adD];simp
       ·simp only [execOp,iQ,i',Instr.mapUpdate,Sem.run_bind,dW U,Result.andThen_ok,fU,er,db,sv hw,Sem.run_pure]
      ·have aC:j<es.length:=(List.getElem?_eq_some_iff.1 ht).1;have ry:j<ms.size:=by omega
       have Kj:ms[j]=e:=by
        grind
       obtain ⟨j7,cn,b4,ct,fc⟩:=Kf C.P w e.key (a.eval x);have m7:cn.heap[(κ b).ag]?=some (.map ms clk):=by rcases fc with rfl | rfl<;>exact hw
       have Sz:(κ b).ag<cn.heap.size:=(Array.getElem?_eq_some_iff.1 m7).1;have hold:((ms[j]?).map (·.key)).getD (a.eval x)=e.key:=by
        grind
       have LC:((ms[j]?).map (λx=>(x.born:Int))).getD 0=(ms[j].born:Int):=by grind
       rw [Nat.zero_add] at db;refine chain { cn with heap:=cn.heap.setIfInBounds (κ b).ag (.map (ms.modify j λe=>{ e with key:=j7 }) clk) } { cn with heap:=cn.heap.setIfInBounds (κ b).ag (.map (ms.modify j λe=>{ e with key:=j7,val:=a.eval y }) clk) } e.val ms[j].born ?_ ?_ ?_
       ·simp only [execOp,M,i',Instr.mapEntry,Sem.run_bind,dW U,Result.andThen_ok,fU,er,db];rw [hold,b4];simp only [Result.andThen_ok,sv m7,Sem.run_pure,LC]
       ·have LA:(getObj (κ b).ag).run C.P { cn with heap:=cn.heap.setIfInBounds (κ b).ag (.map (ms.modify j λe=>{ e with key:=j7 }) clk) }=.ok (.map (ms.modify j λe=>{ e with key:=j7 }) clk) { cn with heap:=cn.heap.setIfInBounds (κ b).ag (.map (ms.modify j λe=>{ e with key:=j7 }) clk) }:=by simp [getObj,Sem.run,Sz]
        have CY:∀ i (h:i<(ms.modify j λe=>{ e with key:=j7 }).size),((ms.modify j λe=>{ e with key:=j7 })[i]).born=(ms[i]'(by grind)).born:=by
         grind
        have LB:(ms.modify j λe=>{ e with key:=j7 }).findIdx? (λe=>(e.born:Int) == (ms[j].born:Int))=some j:=by
         have:=Sy (ms:=ms.modify j λe=>{ e with key:=j7 }) (j:=j) (by grind) λi U he=>by
          grind
         grind
        simp only [Instr.entryStore,Sem.run_bind,LA,Result.andThen_ok,goInt,asInt,asIntOf,Sem.run_pure,LB];rw [sv (es:=ms.modify j λe=>{ e with key:=j7 }) (clk:=clk) (by grind),adE];simp
       ·simp only [execOp,iQ,i',Instr.mapUpdate,Sem.run_bind,dW U,Result.andThen_ok,fU,er,db];rw [hold,b4];simp only [Result.andThen_ok,sv m7,Sem.run_pure]
     grind
    grind
   ·cases h
  ·cases h
 ·cases h
end
end Go.Fer
namespace Go.Fer
open Go.RowKit
structure z7 (P:Program) (k:FuncId) (c:xt):Prop where
 enter:∀ args w,(callFunc k args).run P w=.ok (.enter k args) w
 mZ:∀ (l:Nat) (I:List c.aM.aq->Bool->(Nat->Prop)->(Nat->Prop)->World->Prop) (F Y:Nat->Prop) (w:World) (args:List Value) (x:c.ts.aq),gS P c.ts F w args x->c.pre x->mB.k6 P ⟨l,c.aM,λT=>T=c.seq x,I⟩->
  (∀ r,F r->r<w.heap.size)->(∀ r,Y r->r<w.heap.size/\¬F r)->I [] false F Y w->Calls P k (args++[Value.func (.yield l) #[] #[]]).toArray w λe w'=>
   ∃ v pre st F' ha,e=.returned v/\(st=false->pre=c.seq x)/\I pre st F' ha w'/\(∀ r,F r->F' r)/\(∀ r,F' r->F r\/Y r\/w.heap.size<=r)/\(∀ r,F' r->r<w'.heap.size)/\
    (∀ r,r<w.heap.size->¬Y r->w'.heap[r]?=w.heap[r]?)/\(∀ r,ha r->(Y r\/w.heap.size<=r)/\r<w'.heap.size/\¬F' r)/\w.heap.size<=w'.heap.size/\dA w w'
def iA.k6 (P:Program) (a1:eG) (k:FuncId):iA->Prop
 | .eP c=>jk P k c.ts c.a5 c.sh/\(c.eT=true->∀ x,(c.sh x).Cz)
 | .jr c=>hj P a1 k c
 | .cj c=>z7 P k c
 | .FL c=>jk P k c.ts c.a5 c.sh/\EY P k c.ts c.a5 c.sh
def nK (P:Program) (a1:eG) (Ψ:Nat->Option iA):Prop:=∀ k c,Ψ k=some c->c.k6 P a1 k
section
variable {C:cf} {T:Nat->ai} {bd:Nat->Option aU} {Ψ:Nat->Option iA} {s:aE} {o:Oper} {Q:Exit->Act->World->Prop} {ops:Array Oper}
theorem adM (c0:kP C.P bd) (dY:nK C.P C.aZ Ψ) {k:Nat} {c:m'} (h:KU bd Ψ k=some c):jk C.P k c.ts c.a5 c.sh:=by
 unfold KU at h;split at h
 ·rename_i c' kl;cases h;have:iA.k6 C.P C.aZ k (.eP c):=dY k _ kl;exact this.1
 ·cases h
 ·obtain ⟨f,ax,rfl⟩:=Option.map_eq_some_iff.1 h;exact c0 k f ax
theorem adN {P:Program} {w:World} {ty j:TypeId} (aC:P.underlying ty=some (.slice j)) (q:Option Addr) (n cap d:Nat):(Op.equalIn (d+1) ty (.slice q n cap) (.slice none 0 0)).run P w=.ok q.isNone w:=by
 cases q<;>simp [Op.equalIn,dW aC]
theorem adO {P:Program} {w:World} (op:BinOp) (t:TypeId) (x y:Operand) (q q':Option Addr) (n j4 cap cap':Nat):(eqGuard op t x y (.slice q n cap) (.slice q' j4 cap')).run P w=.ok () w:=by
 cases op<;>simp [eqGuard]
theorem SA {P:Program} {w:World} {ty j:TypeId} {x y:Operand} (aC:P.underlying ty=some (.slice j)) (q:Option Addr) (n cap:Nat) :
  (do eqGuard .eql ty x y (.slice q n cap) (.slice none 0 0);binOp .eql ty (.slice q n cap) (.slice none 0 0):Sem Value).run P w=.ok (.bool q.isNone) w/\(do eqGuard .neq ty x y (.slice q n cap) (.slice none 0 0);binOp .neq ty (.slice q n cap) (.slice none 0 0):Sem Value).run P w=.ok (.bool (!q.isNone)) w:=by
 have h:(Op.equalIn 10000 ty (.slice q n cap) (.slice none 0 0)).run P w=.ok q.isNone w:=adN (w:=w) aC q n cap 9999;constructor<;>simp [adO,binOp,Op.equal,Op.maxDepth,h]
theorem adP (a2:eO C.P T) (bh:∀ i,o.dst=some i->i<C.nt) {op:BinOp} {ty nB:TypeId} {x y:Operand} (al:o.op=.binOp op ty x y nB) {ck:js} (h:CF C.aZ T s o op ty x y=some ck):sD C o s ck:=by
 have zo:∀ c,o.op≠.defer c:=by grind
 unfold CF at h;split at h
 ·rename_i e aR adQ;have d':=a2.cb aR (by simp);obtain ⟨j,aC,_⟩:=d'.sl;split at h
  ·rename_i xs l jK;have key:∀ (a:Act) (w:World) (κ:Nat->bD) (F:Nat->Prop),bl C s a w κ F->(use (a_ C.aZ s.aD x)).1->∃ b:Bool,(b=true->xs=[])/\(op=.eql->(execOp a.eval o).run C.P w=.ok (.value (.bool b)) w)/\(op=.neq->(execOp a.eval o).run C.P w=.ok (.value (.bool (!b))) w):=by
    intro a w κ F W be;have au:=B2 W jK (cU W x rfl be);obtain ⟨_,q,cap,aK,eb,eN,ij,_⟩:=(fa rfl).1 au;have aK:=(List.cons.inj aK).1;have aJ:a.eval y=.slice none 0 0:=by
     have:=kN W y;rw [adQ] at this;exact this
    refine ⟨q.isNone,λbt=>?_,λoO=>?_,λoO=>?_⟩
    ·simp_all
    ·subst oO;have W:=(SA (w:=w) (x:=x) (y:=y) aC q xs.length cap).1;rw [<-aK,<-aJ] at W;simp only [execOp,al,Sem.run_bind] at W ⊢;simp_all
    ·subst oO;have W:=(SA (w:=w) (x:=x) (y:=y) aC q xs.length cap).2;rw [<-aK,<-aJ] at W;simp only [execOp,al,Sem.run_bind] at W ⊢;simp_all
   split at h
   ·cases h;refine ⟨λa w Q K W be hm=>?_,λgs oU=>(by grind),λaf=>af x (by rw [al];simp [Op.operands])⟩;obtain ⟨κ,F,W⟩:=W;obtain ⟨b,e0,gE,_⟩:=key a w κ F W be;exact h1 zo (gE rfl) (hm.2 b e0 _ _ ⟨κ,F,bl.set W bh (gh.2 rfl)⟩)
   ·cases h;refine ⟨λa w Q K W be hm=>?_,λgs oU=>(by grind),λaf=>af x (by rw [al];simp [Op.operands])⟩;obtain ⟨κ,F,W⟩:=W;obtain ⟨b,e0,_,gE⟩:=key a w κ F W be;exact h1 zo (gE rfl) (hm.2 b e0 _ _ ⟨κ,F,bl.set W bh (gh.2 rfl)⟩)
   grind
  grind
 grind
theorem LD (a2:eO C.P T) (c0:kP C.P bd) (dY:nK C.P C.aZ Ψ) (bh:∀ i,o.dst=some i->i<C.nt) {ck:js} (h:rG C.aZ T bd Ψ s o=some ck):sD C o s ck:=by
 unfold rG at h;split at h
 ·rename_i c al;obtain ⟨callee,args,dN⟩:=c;split at h
  ·rename_i f ax;simp only at ax;subst ax;split at h
   ·split at h
    ·rename_i c' kl;exact adz bh al (dY _ _ kl) h
    ·rename_i c' kl;have an:iA.k6 C.P C.aZ _ (.FL c'):=dY _ _ kl;exact ac' bh al an.1 an.2 h
    ·split at h
     ·rename_i eP xM;exact ac_ bh al (adM c0 dY xM) h
     grind
   ·split at h
    ·rename_i r W;cases h;exact ada bh al W
    ·exact adB bh al h
   grind
  grind
 ·rename_i ty x al;exact adb a2 bh al h
 ·rename_i x str al;exact adi bh al h
 ·rename_i x al;exact adf bh al h
 ·rename_i op ty x y nB al;exact adP a2 bh al h
 grind
theorem SB (want b:Bool):((some b == some want:Bool))=FA want b:=by cases want<;>cases b<;>rfl
theorem SC {a:Act} {j d:Nat} {xN:Oper} (M:ops[j]?=some xN) (aa:xN.dst=some d) {b:Bool} (h:a.tmps.getD d Go.undef=.bool b):yielded ops a.tmps j=some b:=by
 have:a.tmps[d]?=some (.bool b):=by
  rw [Array.getD_eq_getD_getElem?] at h;cases he:a.tmps[d]? with
  | none=>rw [he] at h;cases h
  | some v=>grind
 simp [yielded,M,aa,this]
theorem adR {a:Act} {j d:Nat} {xN:Oper} (M:ops[j]?=some xN) (aa:xN.dst=some d) (h:a.tmps.getD d Go.undef=Go.undef):yielded ops a.tmps j=none:=by
 unfold yielded;rw [M];simp only [Option.bind_some,aa];rw [Array.getD_eq_getD_getElem?] at h;cases he:a.tmps[d]? with
 | none=>rfl
 | some v=>rw [he] at h;cases h;rfl
theorem LF {a:Act} {w:World} {κ:Nat->bD} {F:Nat->Prop} (W:bl C s a w κ F) {g:Option Bool} (h:ld s.aD ops o.guard=some g) :
  Region.wanted o (yielded ops a.tmps)=g.getD true:=by
 unfold Region.wanted;cases aL:o.guard with
 | none=>rw [aL] at h;cases h;rfl
 | some p=>
  obtain ⟨j,want⟩:=p;rw [aL] at h;simp only [ld] at h ⊢;split at h
  ·rename_i xN aC;split at h
   ·rename_i d aN;have aA:=W.b3 d;split at h
    ·rename_i b af;cases h;rw [af] at aA;rw [SC aC aN (gh.1 aA),SB];rfl
    ·rename_i g' b af;cases h;rw [af] at aA;obtain ⟨M,aa⟩:=aA;cases g' with
     | true=>
      rw [SC aC aN (gh.1 (M rfl)),SB];simp
     | false=>
      rw [adR aC aN (aa rfl)];rfl
    grind
   grind
  grind
theorem adS {cD c:Prop} {fH sB:aP} {ih xx:List (Nat×bS)} (aL:CG o fH ih=some (xx,sB)) (h:(bo C.aZ T bd (a_ C.aZ s.aD) o).run s.ag=some ⟨cD,c,fH,ih⟩) :
    (∀ a w,cG C (s.i_ o.dst ⟨cD,c,fH,ih⟩) a w->cG C ((s.gV xx).set o.dst sB) a w)/\(∀ a w κ F,bl C s a w κ F->∃ κ' F',bl C (s.gV xx) a w κ' F'):=by
  unfold CG at aL;split at aL
  · cases aL
    exact ⟨λa w h=>h,λa w κ F h=>⟨κ,F,h⟩⟩
  · rename_i p cP
    split at aL
    · rename_i LG first caps al
      cases aL
      refine ⟨λa w h=>h,λa w κ F W=>?_⟩
      simp only [bo,al] at h
      split at h
      · split at h
        · split at h
          · simp only [az.fR,Option.bind_eq_some_iff,az.run_bind,az.bW,Option.some.injEq] at h
            obtain ⟨⟨y,l⟩,aJ,he⟩:=h
            obtain ⟨F',_,bc,_⟩:=bl.mH (qt _ aJ) W
            have he:(kL l).run s.ag=p::cP:=by grind
            rw [<-he,vx]
            grind
          · split at h
            · simp only [az.fR,Option.bind_eq_some_iff,az.run_bind,az.bW,Option.some.injEq] at h
              obtain ⟨⟨y,l⟩,aJ,he⟩:=h
              obtain ⟨F',_,bc,_⟩:=bl.mH (qt _ aJ) W
              have he:(kL l).run s.ag=p::cP:=by grind
              rw [<-he,vx]
              grind
            · simp only [bR,az.bW,Option.some.injEq] at h
              cases h
        · split at h
          · simp only [bR,az.bW,Option.some.injEq] at h
            cases h
          · cases h
      · cases h
    · rename_i ty n ps al
      split at aL
      · rename_i bg g' e xs b9
        split at aL
        · rename_i adT
          obtain ⟨rfl,rfl⟩:=adT
          cases aL
          obtain ⟨b,⟨adU,kq⟩⟩:=p
          simp only at b9
          subst b9
          have lN:o.dst=some b/\adU=(s.ag b).gen+1:=by
            simp only [bo,al] at h;split at h
            · simp only [az.fR,Option.bind_eq_some_iff,az.run_bind] at h
              obtain ⟨⟨bG,b8⟩,_,h⟩:=h
              obtain ⟨b0,tX,ak⟩:=sn h
              grind
            · cases h
          obtain ⟨bh,rfl⟩:=lN
          refine ⟨λa w kQ=>?_,λa w κ F W=>?_⟩
          · obtain ⟨κ,F,W⟩:=kQ
            rw [bh] at W ⊢
            simp only [aE.i_,aE.gV] at W
            have au:(dV (.slice e) (.ad b ((s.ag b).gen+1))).run ((s.cy b ⟨(s.ag b).gen+1,.bu e xs⟩).set (some b) (.ad b ((s.ag b).gen+1))).ag=some (xs,[b]):=by
              simp [dV,k7,eW,aE.set,aE.cy,fG,ai.fE]
            obtain ⟨F1,f1,g5,f2⟩:=bl.mH (od au) W
            have aA:=W.b3 b
            have aj:=n9 (v:=a.tmps.getD b undef) W.bI f1 au f2 (by simpa [aE.set] using aA)
            have dr:∀ i,i≠b->((s.cy b ⟨(s.ag b).gen+1,.bu e xs⟩).set (some b) (.ad b ((s.ag b).gen+1))).aD i=s.aD i:=λi U=>by simp [aE.set,aE.cy,U]
            have cV:bl C ⟨λi=>if i=b then .val (.slice e) xs else s.aD i,(((s.cy b ⟨(s.ag b).gen+1,.bu e xs⟩).set (some b) (.ad b ((s.ag b).gen+1))).cL [b]).ag⟩ a w κ F1:=
              { g5 with
                eB:=g5.eB,dfr:=g5.dfr,bI:=g5.bI
                b3:=λi=>by
                  show bw _ _ _ _ _ (if i=b then .val (.slice e) xs else s.aD i) _;split
                  · rename_i U
                    subst U
                    exact aj
                  · rename_i U
                    rw [<-dr i U]
                    exact g5.b3 i
                fQ:=λl aM L n st a9=>by
                  have a9:(if b_=b then aP.val (.slice e) xs else s.aD b_)=.a5 l aM L n st:=a9;split at a9
                  · cases a9
                  · rename_i U
                    exact g5.fQ l aM L n st ((dr b_ U).trans a9) }
            refine ⟨κ,F1,cV.E3 ⟨λi=>.inl ?_,λi=>?_⟩⟩
            · rfl
            · by_cases U:i=b
              · subst U
                right
                simp [aE.set,aE.gV,aE.cy,aE.cL,fV]
              · left
                simp [aE.set,aE.gV,aE.cy,aE.cL,U]
          · have aI:=Le W (b:=b) (e:=e)
            refine ⟨_,F,aI.E3 ⟨λi=>.inl rfl,λi=>?_⟩⟩
            by_cases U:i=b
            · subst U
              right
              simp [aE.gV,aE.cy]
            · left
              simp [aE.gV,aE.cy,U]
        grind
      grind
    grind
theorem sJ {β:Type} {b:Bool} {p:Prop} {m:A β} {O:β->Prop} (af:b=true->p):A.cp (sz b p m) O<->p/\A.cp m O:=by
 cases b with
 | true=>exact ⟨λh=>⟨af rfl,h⟩,λh=>h.2⟩
 | false=>exact A.mx
def qC (ops:Array Oper) (s:aE) (tg:pM):Prop:=∀ p∈tg,∃ b a,s.aD p.1=.ie b a/\ld s.aD ops (some p.2)=some (some b)
theorem adV {j d:Nat}:sA ops j d=true<->d∈FB ops (some (j,true)):=by
 have key:∀ (x:Option Oper),(match x with | some o=>(match o.dst with | some e=>e == d | none=>false) | none=>false)=true<->d∈(match x with | some o=>o.dst.toList | none=>[]):=by
  grind
 exact key _
theorem qC.h6 {s':aE} {tg:pM} (h:qC ops s tg) (aA:∀ i,o.dst≠some i->s'.aD i=s.aD i)
  (aN:∀ d k,o.dst=some d->o.guard=some k->∃ b a,s'.aD d=.ie b a/\ld s.aD ops (some k)=some (some b)):qC ops s' (xv ops tg o):=by
 unfold xv;cases bh:o.dst with
 | none=>
  intro p ar;obtain ⟨b,a,M,aa⟩:=h p ar;refine ⟨b,a,(aA _ (by grind)).trans M,?_⟩;rw [<-aa];exact Ky λt _=>aA t (by grind)
 | some d=>
  have congr:∀ k:Nat×Bool,sA ops k.1 d=false->ld s'.aD ops (some k)=ld s.aD ops (some k):=λk ak=>Ky λt aR=>aA t (by
   rw [bh];intro e;cases e;have:sA ops k.1 d=true:=adV.2 aR;grind)
  have vD:qC ops s' (tg.filter λp=>p.1 != d&&!sA ops p.2.1 d):=by
   intro p ar;simp only [List.mem_filter,Bool.and_eq_true,bne_iff_ne,ne_eq,Bool.not_eq_true'] at ar;obtain ⟨b,a,M,aa⟩:=h p ar.1;grind
  simp only;split
  ·rename_i k ak;split
   ·omega
   ·rename_i SD;intro p ar;rcases List.mem_cons.1 ar with rfl | ar
    ·grind
    ·exact vD p ar
  omega
section
variable {a1:eG} {tg:pM} {gk:Option (Nat×Bool)}
theorem CZ (a2:qC ops s tg) (aL:∀ k,gk=some k->ld s.aD ops (some k)=some (some true)) {x:Operand} (h:xw (a_ a1 s.aD) tg gk x=true):(use (a_ a1 s.aD x)).1:=by
 unfold xw at h;rw [Bool.or_eq_true] at h;rcases h with h | h
 ·exact Fy (by grind)
 ·split at h
  ·rename_i t k;obtain ⟨p,ar,rC⟩:=List.any_eq_true.1 h;simp only [Bool.and_eq_true,beq_iff_eq] at rC;obtain ⟨rfl,M,aa⟩:=rC;have rC:p.2=k:=Prod.ext M aa;obtain ⟨b,a,aS,aY⟩:=a2 p ar;rw [rC,aL k rfl] at aY;cases aY;have e:a_ a1 s.aD (.tmp p.1)=s.aD p.1:=rfl;rw [e,aS];rfl
  grind
theorem SE (a2:qC ops s tg) (aL:∀ k,gk=some k->ld s.aD ops (some k)=some (some true)) (h:KX (a_ a1 s.aD) tg gk o=true):rB (a_ a1 s.aD) o:=
 λx au=>CZ a2 aL (List.all_eq_true.1 h x au)
theorem SF (a2:qC ops s tg) {c x:Operand} {want:Bool} {ql:Prop} {nz:Bool} (hc:use (a_ a1 s.aD c)=(ql,.val .bool nz)) (C0:ql) (h:FV ops tg c x want=true) (hw:FA want nz=true):(use (a_ a1 s.aD x)).1:=by
 unfold FV at h;split at h
 ·rename_i c t;obtain ⟨p,ar,rC⟩:=List.any_eq_true.1 h;simp only [Bool.and_eq_true,beq_iff_eq] at rC;obtain ⟨rfl,M,rfl⟩:=rC;obtain ⟨b,a,aS,aY⟩:=a2 p ar;have e:a_ a1 s.aD (.tmp p.1)=s.aD p.1:=rfl;rw [e,aS];show b=true;unfold sA at M;have z8:p.2=(p.2.1,p.2.2):=rfl;rw [z8] at aY;unfold ld at aY;have kl:use (s.aD c)=(ql,.val .bool nz):=hc;split at M
  ·rename_i xN aC;split at M
   ·rename_i d aN;have adW:d=c:=by grind
    subst adW;simp only [aC,aN] at aY;split at aY
    ·rename_i b0 tX;rw [tX] at kl;simp only [use,Prod.mk.injEq,aP.val.injEq,heq_eq_eq,true_and] at kl;grind
    ·rename_i asO b0 tX;rw [tX] at kl;simp only [use,Prod.mk.injEq,aP.val.injEq,heq_eq_eq,true_and] at kl;grind
    grind
   grind
  grind
 grind
theorem Gl (a2:qC ops s tg) (aL:∀ k,gk=some k->ld s.aD ops (some k)=some (some true)) (h:zR (a_ a1 s.aD) ops tg gk o=true):(bo a1 T bd (a_ a1 s.aD) o).dk (l' λr=>r.cD):=by
 cases al:o.op with
 | pick c a b=>
  simp only [zR,al,Bool.and_eq_true,Bool.or_eq_true] at h;obtain ⟨M,aa,an⟩:=h;unfold bo;rw [al];simp only;split
  ·rename_i ql nz m_;have C0:ql:=by have:=CZ a2 aL M;grind
   split
   ·split
    ·rename_i zi av bf;refine .bR ⟨C0,λaj=>?_⟩;have:(use (a_ a1 s.aD a)).1:=by
      rcases aa with aa | aa
      ·exact CZ a2 aL aa
      ·exact SF a2 m_ C0 aa aj
     grind
    ·exact .bY
   ·split
    ·rename_i zi av bf;refine .bR ⟨C0,λaj=>?_⟩;have:(use (a_ a1 s.aD b)).1:=by
      rcases an with an | an
      ·exact CZ a2 aL an
      ·exact SF a2 m_ C0 an (by subst aj;rfl)
     grind
    ·exact .bY
   ·exact .bY
  ·exact .bY
 | _=>
  simp only [zR,al] at h;exact RB (SE a2 aL h)
theorem adX (a2:qC ops s tg) (aL:∀ k,gk=some k->ld s.aD ops (some k)=some (some true)) {cD c:Prop} {fH sB:aP} {ih xx:List (Nat×bS)} (hw:CG o fH ih=some (xx,sB)) (W:(bo a1 T bd (a_ a1 s.aD) o).run s.ag=some ⟨cD,c,fH,ih⟩)
  (h:KY (a_ a1 s.aD) tg gk o sB=true):(use sB).1:=by
 unfold KY at h;rw [Bool.or_eq_true] at h;rcases h with h | h
 ·exact Fy (by grind)
 ·split at h
  ·rename_i x al;simp only [bo,al,bR,az.bW,Option.some.injEq,fj.mk.injEq] at W;obtain ⟨_,_,rfl,rfl⟩:=W;simp only [CG,Option.some.injEq,Prod.mk.injEq] at hw;obtain ⟨_,rfl⟩:=hw;exact CZ a2 aL h
  grind
end
theorem aE.C2 {s:aE} {d:Option Nat} {v:aP} {i:Nat} (h:d≠some i):(s.set d v).aD i=s.aD i:=by
 cases d with
 | none=>rfl
 | some d=>simp only [aE.set];grind
theorem aE.LH {s:aE} {d:Nat} {v:aP}:(s.set (some d) v).aD d=v:=by simp [aE.set]
theorem aE.zM:∀ (l:List (Nat×bS)) (s:aE),(s.gV l).aD=s.aD
 | [],_=>rfl
 | p::l,s=>by
  have:=aE.zM l (s.cy p.1 p.2);exact this
theorem adY {a1:eG} {ck:js} {gs:Bool->ck.ao->aE} (h:rG a1 T bd Ψ s o=some ck) (aL:ck.CA=some gs):∀ g y,∃ v,(gs g y).aD=(s.set o.dst (.ie g v)).aD:=by
 have after:∀ (t:ai) (b8:List Nat) (v:aP),(rD s o t b8 v).aD=(s.set o.dst v).aD:=λt b8 v=>by
  unfold rD;split
  ·rfl
  ·cases o.dst<;>rfl
 have eP:∀ {args:List Operand} {c:m'} {ck:js} {gs:Bool->ck.ao->aE},CB a1 s o args c=some ck->ck.CA=some gs->∀ g y,∃ v,(gs g y).aD=(s.set o.dst (.ie g v)).aD:=by
  intro args c ck gs h aL;unfold CB at h;split at h
  ·cases h;cases aL;exact λg y=>⟨_,after _ _ _⟩
  grind
 have KS:∀ {t:Nat} {args:List Operand} {ck:js} {gs:Bool->ck.ao->aE},CC a1 s o t args=some ck->ck.CA=some gs->∀ g y,∃ v,(gs g y).aD=(s.set o.dst (.ie g v)).aD:=by
  intro t args ck gs h aL;unfold CC at h;split at h
  ·split at h
   ·cases h;cases aL;exact λg y=>⟨_,after _ _ _⟩
   grind
  grind
 unfold rG at h;split at h
 ·split at h
  ·split at h
   ·split at h
    ·unfold FO at h;grind
    ·unfold FM at h;grind
    ·split at h
     ·exact eP h aL
     grind
   ·split at h
    ·rename_i W;cases h;exact KS W aL
    ·unfold FP at h;grind
   grind
  grind
 ·unfold FQ at h;grind
 ·unfold FT at h;grind
 ·unfold FU at h;grind
 ·unfold CF at h;grind
 grind
theorem vQ {x:Operand} {t:Nat} (h:iP x=some t):x=.tmp t:=by
 cases x<;>simp [iP] at h;rw [h]
theorem SG {o gM j9 kR:Oper} {d1 d2:Nat} (h:zS o gM j9=some (kR,d1,d2)):∃ ty m x y,o.op=.mapEntry ty m x/\o.dst=some d1/\gM.op=.extract (.tmp d1) 1/\gM.dst=some d2/\j9.op=.entryStore ty m (.tmp d2) y/\j9.dst=none/\
  kR.op=.mapUpdate ty m x y/\kR.dst=none/\m≠.tmp d1/\m≠.tmp d2/\y≠.tmp d1/\y≠.tmp d2/\o.guard=none/\gM.guard=none/\j9.guard=none:=by
 unfold zS at h;split at h
 ·rename_i ty m x al;split at h
  ·rename_i e ud;split at h
   ·rename_i nB dI a9 y SH;split at h
    ·rename_i abb J1 adZ C3 SI;split at h
     ·rename_i hc;simp only [Option.some.injEq,Prod.mk.injEq] at h;obtain ⟨rfl,rfl,rfl⟩:=h;obtain ⟨bH,b2,rfl,gi,hG,CV,Sw,Gd,Ge,Gf,ad0,ad1,ad2⟩:=hc;obtain ⟨oX,ue⟩:=Option.isSome_iff_exists.1 gi;have fK:=vQ ue;have hm:=vQ (hG.symm.trans ue);have aK:=vQ bH;have bq:=vQ b2;subst aK;subst bq;refine ⟨nB,m,x,y,al,adZ,ud,C3,?_,SI,rfl,SI,λe=>Sw (by grind),λe=>Gd (by grind),λe=>Ge (by grind),λe=>Gf (by grind),Option.isNone_iff_eq_none.1 ad0,Option.isNone_iff_eq_none.1 ad1,Option.isNone_iff_eq_none.1 ad2⟩;grind
     grind
    grind
   grind
  grind
 grind
theorem LI {β:Type} (a2:eO C.P T) (c0:kP C.P bd) (dY:nK C.P C.aZ Ψ) (aN:∀ o∈ops.toList,m9 o C.nt=true) {k:aE->A β} {O:β->Prop}
  (ak:∀ s' a' w',cG C s' a' w'->A.cp (k s') O->Q .normal a' w'):∀ (os:List Oper) (n:Nat) (tg:pM) (s:aE) (a:Act) (w:World),ops.toList.drop n=os->qC ops s tg->cG C s a w->A.cp (na C.aZ T bd Ψ ops os tg s k) O->
   wpOpsIn (eX C.r) 0 C.P ops Q (List.range' n os.length) a w:=by
 intro os;generalize hlen:os.length=len;induction len using Nat.strongRecOn generalizing os with
 | _ len SJ=>
 subst hlen;cases os with
 | nil=>
  intro n tg s a w _ _ W hm;exact ak s a w W hm
 | cons o os=>
  have aO:=SJ os.length (by simp) os rfl;intro n tg s a w aI xO W hm;have cq:n<ops.toList.length:=by
   grind
  rw [List.drop_eq_getElem_cons cq] at aI;injection aI with rA jw
  have fU:ops[n]?=some o:=by
   grind
  have g6:o∈ops.toList:=rA ▸ List.getElem_mem cq;have xP:=aN o g6;have bh:∀ i,o.dst=some i->i<C.nt:=λi U=>by
   have:=xP;simp only [m9,Bool.and_eq_true] at this;grind
  simp only [List.length_cons,List.range'_succ,wpOpsIn,fU];obtain ⟨κ,F,ft⟩:=W;unfold na at hm;split at hm
  ·rename_i kR d1 d2 qD;cases os with
   | nil=>exact hm.1.elim
   | cons gM os=>
    cases os with
    | nil=>exact hm.1.elim
    | cons j9 os=>
     simp only at hm;split at hm
     ·rename_i res g1;obtain ⟨ty,m,x,y,f1,f2,f3,f4,f5,f6,f7,f8,f9,f10,f11,f12,ek,ht,iD⟩:=SG qD;have SK:=jw;have B8:n+1<ops.toList.length:=by
       grind
      rw [List.drop_eq_getElem_cons B8] at SK;injection SK with ad3 SL
      have ad4:n+2<ops.toList.length:=by
       grind
      rw [List.drop_eq_getElem_cons ad4] at SL;injection SL with asP ad5
      have ad6:ops[n+1]?=some gM:=by
       grind
      have asQ:ops[n+2]?=some j9:=by
       grind
      have C3:d2<C.nt:=by
       have:=aN gM (ad3 ▸ List.getElem_mem B8);simp only [m9,Bool.and_eq_true] at this;grind
      rw [A.mx,A.mx] at hm;have cn:Region.wanted o (yielded ops a.tmps)=true:=by unfold Region.wanted;rw [ek]
      have c8:∀ a':Act,Region.wanted gM (yielded ops a'.tmps)=true:=λa'=>by unfold Region.wanted;rw [ht]
      have fL:∀ a':Act,Region.wanted j9 (yielded ops a'.tmps)=true:=λa'=>by unfold Region.wanted;rw [iD]
      have:=adF (Q:=Q) (K:=λa' w'=>wpOpsIn (eX C.r) 0 C.P ops Q (List.range' (n+3) os.length) a' w') a2 f1 f2 f3 f4 f5 f6 f7 f8 f9 f10 f11 f12 (bh d1 f2) C3 g1 ft hm.1 hm.2.1
       λa' w' bc=>SJ os.length (by grind) os rfl (n+3) [] _ a' w' ad5 (λp ar=>by cases ar) bc hm.2.2
      rw [cn];simp only [if_true];refine Oper.wpIn_mono (λbN asR M=>?_) this;simp only [List.length_cons,List.range'_succ,wpOpsIn,ad6,c8,if_true];grind
     ·exact hm.1.elim
  split at hm
  ·exact hm.1.elim
  ·rename_i aL;have asS:o.guard=none:=by
    cases h:o.guard with
    | none=>rfl
    | some p=>
     rw [h] at aL;simp only [ld] at aL;grind
   rw [LF ft aL];simp only [Option.getD_none,if_true];split at hm
   ·rename_i res g1;rw [sJ λaf=>(Gl xO (gk:=none) (λk ak=>by cases ak) af).run s.ag res g1,sJ λaf=>(zJ af).run s.ag res g1] at hm;refine Oper.wpIn_mono (λa' w' bc=>aO (n+1) _ _ a' w' jw (xO.h6 (λi U=>?_) λd k _ ak=>by grind) bc hm.2.2) (xj a2 c0 xP g1 a w κ F Q ft hm.1 hm.2.1);unfold aE.i_;rw [aE.C2 U,aE.zM]
   ·split at hm
    ·rename_i ck oV;obtain ⟨h5,oN,lJ⟩:=LD a2 c0 dY bh oV;rw [sJ λaf=>lJ (Kr af),A.gf] at hm;exact h5 a w Q _ ⟨κ,F,ft⟩ hm.1 (hm.2.mono λy aJ a' w' bc=>aO (n+1) _ _ a' w' jw (λp ar=>by cases ar) bc aJ)
    ·exact hm.1.elim
  ·rename_i g aL;have Gm:∀ k,o.guard=some k->g=true->ld s.aD ops (some k)=some (some true):=λk ak aR=>by grind
   rw [LF ft aL];simp only [Option.getD_some];split at hm
   ·rename_i cD c ad7 ad8 g1;split at hm
    ·rename_i ih fH uf;obtain ⟨ad9,ad_⟩:=adS uf g1;rw [sJ λaf=>by
      simp only [Bool.and_eq_true] at af;exact λz9=>⟨(Gl xO (λk ak=>Gm k ak z9) af.1).run s.ag _ g1,(zJ af.2.1).run s.ag _ g1,adX xO (λk ak=>Gm k ak z9) uf g1 af.2.2⟩] at hm
     have C4:qC ops ((s.gV ih).set o.dst (.ie g (use fH).2)) (xv ops tg o):=xO.h6 (λi U=>by rw [aE.C2 U,aE.zM]) λd k aN ak=>⟨g,(use fH).2,by rw [aN,aE.LH],by grind⟩
     cases g with
     | true=>
      simp only [if_true];obtain ⟨M,aa,an⟩:=hm.1 rfl;refine Oper.wpIn_mono (λa' w' bc=>aO (n+1) _ _ a' w' jw C4 (cG.Lf (av':=.ie true (use fH).2) (ad9 a' w' bc) bh λκ F v aj=>⟨λ_=>pz aj an,λh=>(by cases h)⟩) hm.2) (xj a2 c0 xP g1 a w κ F Q ft M aa)
     | false=>
      simp only [Bool.false_eq_true,if_false];refine ⟨λ_ _=>trivial,aO (n+1) _ _ _ w jw C4 ?_ hm.2⟩;obtain ⟨κ',F',ad'⟩:=ad_ a w κ F ft;exact ⟨κ',F',ad'.set (av:=.ie false (use fH).2) bh ⟨λh=>(by cases h),λ_=>rfl⟩⟩
    ·cases g with
     | true=>
      simp only [if_true] at hm ⊢;rw [A.mx,A.mx] at hm;exact Oper.wpIn_mono (λa' w' bc=>aO (n+1) _ _ a' w' jw (λp ar=>by cases ar) bc hm.2.2) (xj a2 c0 xP g1 a w κ F Q ft hm.1 hm.2.1)
     | false=>
      simp only [Bool.false_eq_true,if_false] at hm ⊢;exact ⟨λ_ _=>trivial,aO (n+1) _ _ _ w jw (λp ar=>by cases ar) ⟨κ,F,ft.set (av:=.ie false (RV ad8 (use ad7).2)) bh ⟨λh=>(by cases h),λ_=>rfl⟩⟩ hm⟩
   ·split at hm
    ·rename_i ck oV;obtain ⟨h5,oN,lJ⟩:=LD a2 c0 dY bh oV;split at hm
     ·rename_i gs oU;obtain ⟨db,dR⟩:=oN gs oU;rw [sJ λaf z9=>lJ (SE xO (λk ak=>Gm k ak z9) af),A.gf] at hm;have C4:∀ y,qC ops (gs g y) (xv ops tg o):=λy=>by
       obtain ⟨v,aj⟩:=adY oV oU g y;exact xO.h6 (λi U=>by rw [aj,aE.C2 U]) λd k aN ak=>⟨g,v,by rw [aj,aN,aE.LH],by grind⟩
      cases g with
      | true=>
       simp only [if_true];exact h5 a w Q _ ⟨κ,F,ft⟩ (hm.1 rfl) (hm.2.mono λy aJ a' w' bc=>aO (n+1) _ _ a' w' jw (C4 y) (db y a' w' bc) aJ)
      | false=>
       simp only [Bool.false_eq_true,if_false];exact ⟨λ_ _=>trivial,aO (n+1) _ _ _ w jw (C4 ck.d) (dR a w ⟨κ,F,ft⟩) (by
        have h:=hm.2;simp only [cJ,Bool.false_eq_true,if_false] at h;exact h.2 ck.d rfl)⟩
     ·cases g with
      | true=>
       simp only [if_true] at hm ⊢;rw [A.mx,A.gf] at hm;exact h5 a w Q _ ⟨κ,F,ft⟩ hm.1 (hm.2.mono λy aJ a' w' bc=>aO (n+1) _ _ a' w' jw (λp ar=>by cases ar) bc aJ)
      | false=>
       simp only [Bool.false_eq_true,if_false] at hm ⊢;exact ⟨λ_ _=>trivial,aO (n+1) _ _ _ w jw (λp ar=>by cases ar) ⟨κ,F,ft.set (av:=.ie false (use ((ck.st ck.d).aD (o.dst.getD 0))).2) bh ⟨λh=>(by cases h),λ_=>rfl⟩⟩ hm⟩
    ·exact hm.1.elim
end
end Go.Fer
namespace Go.Fer
open Go.RowKit
section
variable {C:cf} {T:Nat->ai} {bd:Nat->Option aU} {s:aE} {res:fj}
theorem aea {P:Program}:∀ (t:ai),t.lF=true->∀ {F F':Nat->Prop} {w w':World} {cs:List Value} {x:t.aq},bM P t F w cs x->bM P t F' w' cs x:=by
 intro t;induction t with
 | bool=>intro _ F F' w w' cs x h;exact h
 | int k=>intro _ F F' w w' cs x h;exact h
 | str=>intro _ F F' w w' cs x h;exact h
 | da=>intro hc;cases hc
 | st t aO=>intro hc F F' w w' cs x h;simp only [bM] at h ⊢;exact aO hc h
 | aG a b gn fh=>
  intro hc F F' w w' cs x h;simp only [ai.lF,Bool.and_eq_true] at hc;simp only [bM] at h ⊢;grind
 | slice e aO=>intro hc;cases hc
 | array n e aO=>intro hc;cases hc
 | bQ e aO=>intro hc;cases hc
 | map k v w1 w2=>intro hc;cases hc
 | fn a b gn fh=>intro hc;cases hc
 | cj a aO=>intro hc;cases hc
theorem SM {P:Program} {t:ai} (h:t.lF=true) {F F':Nat->Prop} {w w':World} {v:Value} {x:t.aq} (aj:eU P t F w v x):eU P t F' w' v x:=⟨aj.1,aea t h aj.2⟩
theorem Gn (a:Act) {i j:Nat} (h:i≠j) (v u:Value):(a.put (some i) v).put (some j) u=(a.put (some j) u).put (some i) v:=by
 simp only [Act.put];rw [Array.setIfInBounds_comm _ _ h]
theorem Gp {P:Program} {ty l_ zD:TypeId} (U:P.underlying ty=some (.map l_ zD)) {r:Nat} {ms:Array MapEntry} {clk:Nat} {w:World} (hw:w.heap[r]?=some (.map ms clk)) {key u:Value} {f:Option (Nat×Value)}
  (er:(Instr.checkKey ms.isEmpty 10000 l_ key).run P w=.ok () w) (ax:(Instr.findKey l_ key ms.toList).run P w=.ok f w) (hu:(∃ i,f=some (i,u))\/(f=none/\(zeroValue zD).run P w=.ok u w)) :
  (Instr.lookup ty (.map (some r)) key false).run P w=.ok u w:=by
 have fU:(getObj r).run P w=.ok (.map ms clk) w:=by simp [getObj,Sem.run,hw]
 rcases hu with ⟨i,rfl⟩ | ⟨rfl,bm⟩
 ·simp only [Instr.lookup,Sem.run_bind,dW U,Result.andThen_ok,Sem.run_pure,fU,er,ax];rfl
 ·simp only [Instr.lookup,Sem.run_bind,dW U,Result.andThen_ok,Sem.run_pure,fU,er,ax,bm];rfl
theorem aeb (a2:eO C.P T) {hi il kR:Oper} {ty:TypeId} {m x y:Operand} (kr:hi.op=.lookup ty m x false) (lP:il.op=.mapEntry ty m x) (iQ:kR.op=.mapUpdate ty m x y) {s2:aE} (Fo:s2.ag=s.ag)
  (oW:a_ C.aZ s2.aD m=a_ C.aZ s.aD m) (Re:a_ C.aZ s2.aD x=a_ C.aZ s.aD x) (h:(bo C.aZ T bd (a_ C.aZ s2.aD) kR).run s2.ag=some res)
  {a:Act} {w:World} {κ:Nat->bD} {F:Nat->Prop} (W:bl C s a w κ F) (LJ:(use (a_ C.aZ s.aD m)).1) (LK:(use (a_ C.aZ s.aD x)).1) :
  ∃ u n wE,∀ a':Act,a'.eval m=a.eval m->a'.eval x=a.eval x->
   (execOp a'.eval hi).run C.P w=.ok (.value u) w/\(execOp a'.eval hi).run C.P wE=.ok (.value u) wE/\(execOp a'.eval il).run C.P w=.ok (.value (.tuple #[u,goInt n])) wE:=by
 simp only [bo,iQ,rm,oW,Re,Fo] at h;split at h
 ·rename_i k v aR;obtain ⟨l_,zD,U,km,hP⟩:=(a2.cb aR (by simp)).mp;obtain ⟨inf,nd,i1,i2,i3,i4,i5,i6⟩:=mE hP.mD;split at h
  ·rename_i xL;split at h
   ·rename_i b g xg;simp only [az.fR,Option.bind_eq_some_iff,az.run_bind,az.gr,az.bW] at h;obtain ⟨⟨ec,oK⟩,au,⟨fX,oL⟩,aJ,h⟩:=h;split at h
    ·rename_i aL;obtain ⟨aL,_⟩:=aL;split at h
     ·rename_i k' iL es af;simp only [Option.map_eq_some_iff] at h;obtain ⟨Ro,pB,rfl⟩:=h;obtain ⟨e,rfl⟩:=lD pB;cases e;have hm:bw C.P s.ag κ F w (use (a_ C.aZ s.aD m)).2 (a.eval m):=cU W m rfl LJ;rw [xg] at hm;have i':=hm.2 aL.symm (by rw [af];rfl);have fW:k.lF=true/\k.kM<=100:=by simpa [tH] using xL
      have tT:=B2 W au (cU W x rfl LK);have Gq:∀ (F':Nat->Prop) w',eU C.P k F' w' (a.eval x) ec:=λF' w'=>SM fW.1 tT;have a6:=W.bI b;unfold cO at a6;rw [af] at a6;obtain ⟨ms,clk,hw,tU⟩:=a6;have er:∀ em w',(Instr.checkKey em 10000 l_ (a.eval x)).run C.P w'=.ok () w':=λem w'=>(Cj (em:=em) (F:=λ_=>True) k 10000 fW.1 (by omega)).1 km (Gq _ w');have SN:=tU.es;have SD:∀ (j:Nat) (e:MapEntry) (p:k.aq×v.aq),ms.toList[j]?=some e->es[j]?=some p->∀ (F':Nat->Prop) w',eU C.P k F' w' e.key p.1:=λj e p M aa F' w'=>SM fW.1 (SN.2 j e p M aa).1;obtain ⟨f,db,dR⟩:=xf (F:=λ_=>True) (w:=w) (β:=v.aq) (xs:=es) (es:=ms.toList) xL km (Gq _ w) SN.1 (λj e p M aa=>SD j e p M aa _ w);have fU:(getObj (κ b).ag).run C.P w=.ok (.map ms clk) w:=by simp [getObj,Sem.run,hw]
      obtain ⟨jI,Kh,Ft,Rp⟩:=tU;have cq:(κ b).ag<w.heap.size:=(Array.getElem?_eq_some_iff.1 hw).1;have bm:∀ w',(zeroValue zD).run C.P w'=.ok nd w':=λw'=>sm i1 i4;have Gr:∀ (a':Act) (w':World) (u:Value),a'.eval m=a.eval m->a'.eval x=a.eval x->(Instr.lookup ty (.map (some (κ b).ag)) (a.eval x) false).run C.P w'=.ok u w'->(execOp a'.eval hi).run C.P w'=.ok (.value u) w':=by
       intro a' w' u aK bq bc;simp only [execOp,kr,aK,bq,i',Sem.run_bind,bc,Result.andThen_ok,Sem.run_pure]
      have aec:∀ q:k.aq,hv k ec q=true<->ec=q:=λq=>Kd k fW.1 ec q;rcases dR with ⟨rfl,cI⟩ | ⟨j,e,p,ek,ht,iD,nc,rfl⟩
      ·let cn:World:={ w with heap:=w.heap.setIfInBounds (κ b).ag (.map (ms.push { key:=a.eval x,val:=nd,born:=clk }) (clk+1)) }
       have m7:cn.heap[(κ b).ag]?=some (.map (ms.push { key:=a.eval x,val:=nd,born:=clk }) (clk+1)):=by grind
       obtain ⟨g3,b4,ct⟩:=xf (F:=λ_=>True) (w:=cn) (β:=v.aq) (xs:=es++[(ec,v.ee)]) (es:=(ms.push { key:=a.eval x,val:=nd,born:=clk }).toList) xL km (Gq _ cn) (by grind) (λj e p M aa=>by
        grind)
       have rN:∃ i,g3=some (i,nd):=by
        rcases ct with ⟨_,fc⟩ | ⟨j,e,p,s1,s2,gl,C5,rfl⟩
        ·have:=fc (ec,v.ee) (by simp);grind
        ·by_cases aC:j<es.length
         ·grind
         grind
       refine ⟨nd,clk,cn,λa' aK bq=>⟨Gr a' w nd aK bq (Gp U hw (er _ w) db (.inr ⟨rfl,bm w⟩)),Gr a' cn nd aK bq (Gp U m7 (er _ cn) b4 (.inl rN)),?_⟩⟩;simp only [execOp,lP,aK,bq,i',Instr.mapEntry,Sem.run_bind,dW U,Result.andThen_ok,fU,er,db,bm,sv hw,Sem.run_pure];rfl
      ·have aC:j<es.length:=(List.getElem?_eq_some_iff.1 ht).1;have ry:j<ms.size:=by omega
       have Kj:ms[j]=e:=by
        grind
       obtain ⟨j7,cn,t1,hx,a7⟩:=Kf C.P w e.key (a.eval x);have m7:cn.heap[(κ b).ag]?=some (.map ms clk):=by rcases a7 with rfl | rfl<;>exact hw
       have Sz:(κ b).ag<cn.heap.size:=(Array.getElem?_eq_some_iff.1 m7).1;have hold:((ms[j]?).map (·.key)).getD (a.eval x)=e.key:=by
        grind
       have LC:((ms[j]?).map (λx=>(x.born:Int))).getD 0=(ms[j].born:Int):=by grind
       rw [Nat.zero_add] at db;have abK:ec=p.1:=(aec p.1).1 iD;let c8:World:={ cn with heap:=cn.heap.setIfInBounds (κ b).ag (.map (ms.modify j λe=>{ e with key:=j7 }) clk) }
       have kT:c8.heap[(κ b).ag]?=some (.map (ms.modify j λe=>{ e with key:=j7 }) clk):=by grind
       have qn:∀ (F':Nat->Prop) w',eU C.P k F' w' j7 p.1:=λF' w'=>by
        grind
       have zB:∀ i,(ms.modify j λe=>{ e with key:=j7 }).toList[i]?=if i=j then some { e with key:=j7 } else ms.toList[i]?:=λi=>by
        grind
       obtain ⟨g3,b4,ct⟩:=xf (F:=λ_=>True) (w:=c8) (β:=v.aq) (xs:=es) (es:=(ms.modify j λe=>{ e with key:=j7 }).toList) xL km (Gq _ c8) (by grind) (λi a9 p' M aa=>by
        rw [zB] at M;grind)
       have rN:∃ i,g3=some (i,e.val):=by
        rcases ct with ⟨_,fc⟩ | ⟨i,a9,p',s1,s2,gl,C5,rfl⟩
        ·have:=fc p (List.mem_of_getElem? ht);rw [iD] at this;cases this
        ·have zE:i=j:=by
          rcases Nat.lt_trichotomy i j with h | h | h
          ·have:=nc i p' h s2;rw [gl] at this;cases this
          ·exact h
          ·have:=C5 j p h ht;rw [iD] at this;cases this
         subst zE;rw [zB,if_pos rfl] at s1;cases s1;exact ⟨_,rfl⟩
       refine ⟨e.val,ms[j].born,c8,λa' aK bq=>⟨Gr a' w e.val aK bq (Gp U hw (er _ w) db (.inl ⟨_,rfl⟩)),Gr a' c8 e.val aK bq (Gp U kT (er _ c8) b4 (.inl rN)),?_⟩⟩;simp only [execOp,lP,aK,bq,i',Instr.mapEntry,Sem.run_bind,dW U,Result.andThen_ok,fU,er,db];rw [hold,t1];simp only [Result.andThen_ok,sv m7,Sem.run_pure,LC];rfl
     grind
    grind
   ·cases h
  ·cases h
 ·cases h
end
end Go.Fer
namespace Go.Fer
open Go.RowKit
section
variable {C:cf} {T:Nat->ai} {bd:Nat->Option aU} {Ψ:Nat->Option iA} {s:aE} {o:Oper} {Q:Exit->Act->World->Prop} {ops:Array Oper}
theorem A.aed {ao:Type} {m:A ao} (h:m.Cz) {d x:ao} (au:m.bP x):x=m.val d:=by
 unfold A.val;have he:∃ x,m.bP x:=⟨x,au⟩
 rw [dif_pos he];exact h _ _ au he.choose_spec
theorem aee (c0:kP C.P bd) (dY:nK C.P C.aZ Ψ):kP C.P (KT bd Ψ):=by
 intro k c h;unfold KT at h;split at h
 ·rename_i eP xM;split at h
  ·rename_i aN;cases h;have h:=dY k _ xM;obtain ⟨M,aa⟩:jk C.P k eP.ts eP.a5 eP.sh/\(eP.eT=true->∀ x,(eP.sh x).Cz):=h;exact M.E3 λx aA=>⟨aA,λy aJ=>A.aed (aa aN x) aJ⟩
  grind
 ·cases h
 ·exact c0 k c h
theorem SO {β:Type} {m:A β} {O:β->Prop}:∀ (l:List Prop),A.cp (CH l m) O->(∀ p∈l,p)/\A.cp m O:=by
 intro l;induction l with
 | nil=>intro h;exact ⟨λp ar=>(by cases ar),h⟩
 | cons p l aO=>
  intro h;simp only [CH] at h;rw [A.mx] at h;grind
theorem SP {db dR:Bool} {cD c:Prop} (M:db=true->cD) (aa:dR=true->c) (h:∀ p∈Ct db dR cD c,p):cD/\c:=by
 unfold Ct at h;constructor
 ·cases db with
  | true=>grind
  | false=>simp_all
 ·cases dR with
  | true=>grind
  | false=>simp_all
theorem SQ (a2:eO C.P T) (c0:kP C.P bd) (aN:m9 o C.nt=true) {r:fm} (h:vI C.aZ T bd ops s o=some r) (hc:∀ p∈r.cs,p) {a:Act} {w:World} (W:cG C s a w) {K:Act->World->Prop}
  (kS:∀ a' w',cG C (r.iO s) a' w'->K a' w') :
  if Region.wanted o (yielded ops a.tmps) then o.wpIn (eX C.r) 0 C.P a w K Q else (∀ f,o.about C.P w a.eval=some f->(eX C.r).fn f)/\K (a.put o.dst undef) w:=by
 have bh:∀ i,o.dst=some i->i<C.nt:=λi U=>by
  have:=aN;simp only [m9,Bool.and_eq_true] at this;grind
 obtain ⟨κ,F,ft⟩:=W;unfold vI at h;split at h
 ·cases h
 ·rename_i g aL;rw [LF ft aL];split at h
  ·cases h
  ·rename_i res g1;split at h
   ·cases h;simp only [Option.getD_none,if_true];obtain ⟨M,aa⟩:=SP (λaf=>(RC af).run s.ag res g1) (λaf=>(zJ af).run s.ag res g1) hc;exact Oper.wpIn_mono kS (xj a2 c0 aN g1 a w κ F Q ft M aa)
   ·rename_i b;split at h
    ·rename_i uf;cases h;have hc:∀ p∈Ct (sw (a_ C.aZ s.aD) o&&(oP (a_ C.aZ s.aD) o&&!res.fH.zI)) true (b=true->res.cD/\(res.c/\(use res.fH).1)) True,p:=hc;obtain ⟨M,_⟩:=SP (λaf=>by
      simp only [Bool.and_eq_true,Bool.not_eq_true'] at af;exact λ_=>⟨(RC af.1).run s.ag _ g1,(zJ af.2.1).run s.ag _ g1,Fy af.2.2⟩) (λ_=>trivial) hc
     obtain ⟨cD,c,fH,ih⟩:=res;simp only at uf;subst uf;cases b with
     | true=>
      simp only [Option.getD_some,if_true];obtain ⟨M,aa,an⟩:=M rfl;refine Oper.wpIn_mono (λa' w' bc=>kS a' w' ?_) (xj a2 c0 aN g1 a w κ F Q ft M aa);exact cG.Lf (av':=.ie true (use fH).2) bc bh λκ F v aj=>⟨λ_=>pz aj an,λh=>(by cases h)⟩
     | false=>
      simp only [Option.getD_some,Bool.false_eq_true,if_false];exact ⟨λ_ _=>trivial,kS _ _ ⟨κ,F,ft.set (av:=.ie false (use fH).2) bh ⟨λh=>(by cases h),λ_=>rfl⟩⟩⟩
    grind
theorem SR (cl:List (List Nat)):∀ n,zU cl n<=n/\∀ j,zU cl n<=j->j<n->∀ i,i<j->i∈cl.getD j []
 | 0=>⟨Nat.le_refl _,λj _ h=>by omega⟩
 | n+1=>by
  unfold zU;split
  ·rename_i h;obtain ⟨M,aa⟩:=SR cl n;refine ⟨by omega,λj aC Gs i U=>?_⟩;by_cases e:j=n
   ·simp_all
   grind
  grind
theorem aef {n:Nat} (rO:Cw ops.toList=true) (aeg:∀ j,n<=j->j<ops.size->∀ i,i<j->i∈(ja ops.toList).getD j []):∀ (k j cQ:Nat) (bj:Array Bool) (a:Act) (w:World),n<=j->j+k=ops.size->bj.size=ops.size->
  (∀ i,bj.getD i false=decide (i<j))->k<=cQ->wpOpsIn (eX C.r) 0 C.P ops Q (List.range' j k) a w->wpAnyIn (eX C.r) 0 C.P .any ops Q cQ bj a w:=by
 intro k;induction k with
 | zero=>
  intro j cQ bj a w aeh z_ cH aw ax h;have W:∀ i,i ∉ Region.ready .any ops bj:=λi U=>by
   rw [mem_ready] at U;grind
  have ks:Region.ready .any ops bj=[]:=List.eq_nil_iff_forall_not_mem.2 W;cases cQ with
  | zero=>exact ⟨ks,h⟩
  | succ cQ=>exact ⟨λ_=>h,λi U=>absurd U (W i)⟩
 | succ k aO=>
  intro j cQ bj a w aeh z_ cH aw ax h;have aC:j<ops.size:=by omega
  cases cQ with
  | zero=>omega
  | succ cQ=>
   have qE:∀ q o,ops[q]?=some o->bj.getD q false=true->∀ i∈jn o,bj.getD i false=true:=λq o al bt i U=>by
    rw [aw] at bt ⊢;have bt:q<j:=by grind
    have:=List.all_eq_true.1 rO q (by grind);grind
   have aei:∀ i,i∈Region.ready .any ops bj<->i=j:=λi=>by
    constructor
    ·intro U;rw [mem_ready] at U;obtain ⟨aW,o,al,Gt⟩:=U;have lI:i<ops.size:=(Array.getElem?_eq_some_iff.1 al).1;have xQ:bj.getD i false=false:=by
      grind
     rw [aw] at xQ;have Cm:j<=i:=by grind
     by_cases e:i=j
     ·exact e
     ·exfalso;have sK:∀ k∈jn o,bj.getD k false=true:=by
       intro k ak;obtain ⟨e,he,sL⟩:=List.mem_filterMap.1 ak;grind
      have xR:∀ k∈(ja ops.toList).getD i [],bj.getD k false=true\/k=i:=by
       intro k ak;refine xo (p:=λj=>bj.getD j false=true\/j=i) ops.toList [] (λj i U=>by grind) (λj iz jb k ak aC=>?_) i k ak (.inr rfl);have mb:ops[j]?=some iz:=by grind
       rcases (by simp_all:bj.getD j false=true\/j=i) with aC | aC
       ·exact .inl (qE j iz mb aC k ak)
       ·subst aC;rw [al] at mb;cases mb;exact .inl (sK k ak)
      grind
    ·rintro rfl;rw [mem_ready];refine ⟨?_,ops[i],by simp,λe he af=>?_⟩
     ·grind
     ·have lI:e.on∈jn ops[i]:=List.mem_filterMap.2 ⟨e,by grind,by grind⟩;have:=List.all_eq_true.1 rO i (by grind);grind
   refine ⟨λW=>?_,λi U=>?_⟩
   ·simp_all
   ·obtain rfl:=(aei i).1 U;have fU:ops[i]?=some ops[i]:=by simp
    rw [List.range'_succ] at h;simp only [wpOpsIn,fU] at h;have next:∀ a w,wpOpsIn (eX C.r) 0 C.P ops Q (List.range' (i+1) k) a w->wpAnyIn (eX C.r) 0 C.P .any ops Q cQ (bj.setIfInBounds i true) a w:=λa w du=>by
     refine aO (i+1) cQ _ a w (by omega) (by omega) (by grind) (λq=>?_) (by omega) du;by_cases e:q=i
     ·simp_all
     ·rw [getD_set_ne false (Ne.symm e),aw,decide_eq_decide];omega
    unfold wpOpIn;rw [fU];simp only;split
    ·rename_i hw;rw [if_pos hw] at h;exact Oper.wpIn_mono next h
    grind
theorem aej (a2:eO C.P T) (c0:kP C.P bd) (aN:∀ o∈ops.toList,m9 o C.nt=true) {l:List fm} {s':aE} (aA:xk C.aZ T bd ops ops.toList s=some (l,s')) (cm:zL ops.toList l=true)
  (hc:∀ r∈l,∀ p∈r.cs,p) (ug:∀ a' w',cG C s' a' w'->Q .normal a' w'):∀ (cQ:Nat) (bj:Array Bool) (a:Act) (w:World),bj.size=ops.size->
   (∀ j o,ops[j]?=some o->bj.getD j false=true->∀ i∈jn o,bj.getD i false=true)->((List.range ops.size).filter λj=>!bj.getD j false).length<=cQ->
   cG C (j8 l s λj=>bj.getD j false) a w->wpAnyIn (eX C.r) 0 C.P .any ops Q cQ bj a w:=by
 obtain ⟨hlen,vy,uh⟩:=RJ _ _ aA;simp only [zL,Bool.and_eq_true] at cm;obtain ⟨rO,LL⟩:=cm;have aek:∀ j o,ops[j]?=some o->∀ i∈jn o,i<j:=by
  intro j o al i U;have aC:j<ops.toList.length:=by
   grind
  have:=List.all_eq_true.1 rO j (by grind);grind
 have ael:∀ i j x y,i<j->l[i]?=some x->l[j]?=some y->((ja ops.toList).getD j []).contains i=true\/x.qv y=true:=by
  intro i j x y zE U aC;have qF:j<l.length:=(List.getElem?_eq_some_iff.1 aC).1;have:=List.all_eq_true.1 LL j (by grind);grind
 have C6:∀ bj:Array Bool,bj.size=ops.size->Region.ready .any ops bj=[]->∀ j,j<ops.size->bj.getD j false=true:=by
  intro bj cH W j;induction j using Nat.strongRecOn with
  | _ j aO=>
   intro aC;cases aw:bj.getD j false with
   | true=>rfl
   | false=>
    exfalso;have g6:j∈Region.ready .any ops bj:=by
     rw [mem_ready];refine ⟨?_,ops[j],by simp,λe he af=>?_⟩
     ·grind
     ·have lI:e.on∈jn ops[j]:=List.mem_filterMap.2 ⟨e,by grind,by grind⟩;grind
    grind
 have qB:∀ (bj:Array Bool) (a:Act) (w:World),bj.size=ops.size->Region.ready .any ops bj=[]->cG C (j8 l s λj=>bj.getD j false) a w->Q .normal a w:=by
  intro bj a w cH W kQ;have gv:=C6 bj cH W;refine ug a w ?_;have:j8 l s (λj=>bj.getD j false)=s':=by
   rw [vy];unfold j8;rw [List.filter_eq_self.2 λp ar=>?_,Cx];obtain ⟨_,aa⟩:=zN ar;grind
  grind
 intro cQ;induction cQ with
 | zero=>
  intro bj a w cH _ LM kQ;have W:Region.ready .any ops bj=[]:=by
   cases W:Region.ready .any ops bj with
   | nil=>rfl
   | cons j asT=>
    exfalso;have g6:j∈Region.ready .any ops bj:=by grind
    rw [mem_ready] at g6;obtain ⟨aW,o,al,_⟩:=g6;have aC:=(Array.getElem?_eq_some_iff.1 al).1;have:j∈(List.range ops.size).filter λj=>!bj.getD j false:=by
     grind
    grind
  exact ⟨W,qB bj a w cH W kQ⟩
 | succ cQ aO=>
  intro bj a w cH qE LM kQ;refine ⟨λW=>qB bj a w cH W kQ,λi U=>?_⟩;rw [mem_ready] at U;obtain ⟨aW,o,al,Gt⟩:=U;have lI:i<ops.size:=(Array.getElem?_eq_some_iff.1 al).1;have xQ:bj.getD i false=false:=by
   grind
  have g6:o∈ops.toList:=by
   grind
  have sK:∀ k∈jn o,bj.getD k false=true:=by
   intro k ak;obtain ⟨e,he,sL⟩:=List.mem_filterMap.1 ak;grind
  obtain ⟨r,W,hA⟩:=uh i o (by grind);have LN:∀ j k,k∈(ja ops.toList).getD j []->bj.getD j false=true->bj.getD k false=true:=by
   refine xo (p:=λj=>bj.getD j false=true) ops.toList [] (λj i U=>by grind) λj iz jb k ak aC=>?_;exact qE j iz (by grind) (by simpa using aC) k ak
  have xR:∀ k∈(ja ops.toList).getD i [],bj.getD k false=true\/k=i:=by
   intro k ak;refine xo (p:=λj=>bj.getD j false=true\/j=i) ops.toList [] (λj i U=>by grind) (λj iz jb k ak aC=>?_) i k ak (.inr rfl);have mb:ops[j]?=some iz:=by grind
   rcases (by simpa using aC:bj.getD j false=true\/j=i) with aC | aC
   ·exact .inl (qE j iz mb aC k ak)
   ·subst aC;rw [al] at mb;cases mb;exact .inl (sK k ak)
  have hh:∀ j x,j<i->l[j]?=some x->bj.getD j false=false->x.qv r=true:=by
   grind
  have oh:∀ j x,i<j->l[j]?=some x->bj.getD j false=true->r.qv x=true:=by
   grind
  obtain ⟨aS,aY,bK⟩:=RG (s:=s) (f:=λj=>bj.getD j false) W xQ hh oh;have LO:=RK hA aS aY;unfold wpOpIn;rw [al];refine SQ a2 c0 (aN o g6) LO (hc r (List.mem_of_getElem? W)) kQ λa' w' bc=>?_;have fU:∀ j,(bj.setIfInBounds i true).getD j false=if j=i then true else bj.getD j false:=by
   intro j;by_cases e:j=i
   ·subst e;rw [if_pos rfl,Array.getD_eq_getD_getElem?,Array.getElem?_setIfInBounds_self_of_lt (by omega)];rfl
   ·rw [if_neg e,getD_set_ne false (Ne.symm e)]
  refine aO _ a' w' (by grind) (λj iz jb aC k ak=>?_) ?_ ?_
  ·rw [fU] at aC ⊢;split
   ·rfl
   ·split at aC
    ·rename_i e;subst e;rw [al] at jb;cases jb;exact sK k ak
    ·exact qE j iz jb aC k ak
  ·have cq:((List.range ops.size).filter λj=>!(bj.setIfInBounds i true).getD j false).length<((List.range ops.size).filter λj=>!bj.getD j false).length:=by
    have aK:(List.range ops.size).filter (λj=>!(bj.setIfInBounds i true).getD j false)=((List.range ops.size).filter λj=>!bj.getD j false).filter λj=>decide (j≠i):=by
     rw [List.filter_filter];apply List.filter_congr;intro j _;rw [fU];simp
    rw [aK];have LP:i∈(List.range ops.size).filter λj=>!bj.getD j false:=by
     grind
    exact List.length_filter_lt_length_iff_exists.2 ⟨i,LP,by simp⟩
   omega
  ·have:j8 l s (λj=>(bj.setIfInBounds i true).getD j false)=r.iO (j8 l s λj=>bj.getD j false):=by
    rw [<-bK];congr 1;funext j;grind
   grind
def Gu (n:Nat) (l b e x:Bool) (bj:Array Bool):Prop:=∀ i,bj.getD i false=(decide (i<n)||(l&&decide (i=n))||(b&&decide (i=n+1))||(e&&decide (i=n+2))||(x&&decide (i=n+3)))
def nf (a:Act) (eQ gG d1 d2:Nat) (u vB vE vX:Value) (l b e x:Bool):Act:=
 let bN:=if l=true then a.put (some eQ) u else a
 let b1:=if b=true then bN.put (some gG) vB else bN
 let bC:=if e=true then b1.put (some d1) vE else b1
 if x=true then bC.put (some d2) vX else bC
theorem aem (a:Act) (d:Option Nat) (v:Value):(a.put d v).tmps.size=a.tmps.size:=by cases d<;>simp [Act.put]
theorem aen (a:Act) (eQ gG d1 d2:Nat) (u vB vE vX:Value) (l b e x:Bool):(nf a eQ gG d1 d2 u vB vE vX l b e x).tmps.size=a.tmps.size:=by
 unfold nf;cases l<;>cases b<;>cases e<;>cases x<;>simp [aem]
theorem SS {a:Act} {eQ gG d1 d2:Nat} {u vB vE vX:Value} {l b e x:Bool} {y:Operand} (M:y≠.tmp eQ) (aa:y≠.tmp gG) (an:y≠.tmp d1) (a8:y≠.tmp d2):(nf a eQ gG d1 d2 u vB vE vX l b e x).eval y=a.eval y:=by
 unfold nf;cases l<;>cases b<;>cases e<;>cases x<;>simp [z6,M,aa,an,a8]
theorem C7 {o:Oper} {a:Act} {w w':World} {K:Act->World->Prop} {v:Value} (aN:∀ c,o.op≠.defer c) (h:(execOp a.eval o).run C.P w=.ok (.value v) w') (ak:o.wpIn (eX C.r) 0 C.P a w K Q):K (a.put o.dst v) w':=by
 have:=ak.2;rw [zm aN,h] at this;exact this
theorem aeo {n:Nat} (SU:ops.size=n+5) (rO:Cw ops.toList=true) {hi jc il jt mL:Oper} (xS:ops[n]?=some hi) (vR:ops[n+1]?=some jc) (z':ops[n+2]?=some il) (C8:ops[n+3]?=some jt) (C9:ops[n+4]?=some mL)
  (C_:hi.guard=none) (C':jc.guard=none) (Gv:il.guard=none) (Gw:jt.guard=none) (Gx:mL.guard=none) (Da:∀ c,hi.op≠.defer c) (Gy:∀ c,jc.op≠.defer c) (Gz:∀ c,il.op≠.defer c) (GA:∀ c,jt.op≠.defer c)
  (hh:∀ q,q<5->∀ i,i<n->i∈(ja ops.toList).getD (n+q) []) (LQ:n∈(ja ops.toList).getD (n+1) []) (SV:n+2∈(ja ops.toList).getD (n+3) []) (Aa:∀ q,q<4->n+q∈(ja ops.toList).getD (n+4) [])
  (SW:∀ i∈jn il,i<n) (Db:∀ i∈jn jt,i<n\/i=n+2)
  {eQ gG d1 d2:Nat} (sM:hi.dst=some eQ) (dm:jc.dst=some gG) (Dc:il.dst=some d1) (GB:jt.dst=some d2) (_n1:eQ≠gG) (e6:eQ≠d1) (lb:eQ≠d2) (ll:gG≠d1) (Dd:gG≠d2)
  {a:Act} {w wE:World} {u vB vE vX:Value}
  (SX:∀ b e x,(execOp (nf a eQ gG d1 d2 u vB vE vX false b e x).eval hi).run C.P (if e=true then wE else w)=.ok (.value u) (if e=true then wE else w))
  (SY:∀ e x,(execOp (nf a eQ gG d1 d2 u vB vE vX true false e x).eval jc).run C.P (if e=true then wE else w)=.ok (.value vB) (if e=true then wE else w))
  (SZ:∀ l b x,(execOp (nf a eQ gG d1 d2 u vB vE vX l b false x).eval il).run C.P w=.ok (.value vE) wE)
  (S0:∀ l b,(execOp (nf a eQ gG d1 d2 u vB vE vX l b true false).eval jt).run C.P wE=.ok (.value vX) wE)
  (h:wpOpsIn (eX C.r) 0 C.P ops Q (List.range' n 5) a w):∀ (cQ:Nat) (bj:Array Bool),bj.size=ops.size->(∀ i,bj.getD i false=decide (i<n))->5<=cQ->wpAnyIn (eX C.r) 0 C.P .any ops Q cQ bj a w:=by
 let aM:=nf a eQ gG d1 d2 u vB vE vX;let bb:=λe:Bool=>if e=true then wE else w
 have wt:∀ {o:Oper},o.guard=none->∀ a':Act,Region.wanted o (yielded ops a'.tmps)=true:=λh a'=>by unfold Region.wanted;rw [h]
 have GC:mL.wpIn (eX C.r) 0 C.P (aM true true true true) wE (λa' w'=>Q .normal a' w') Q:=by
  have j0:List.range' n 5=[n,n+1,n+2,n+3,n+4]:=rfl;rw [j0] at h;simp only [wpOpsIn,xS,vR,z',C8,C9,wt C_,wt C',wt Gv,wt Gw,wt Gx,if_true] at h;have M:=C7 (a:=aM false false false false) (w:=w) Da (SX false false false) h;rw [sM] at M;have aa:=C7 (a:=aM true false false false) (w:=w) Gy (SY false false) M;rw [dm] at aa;have an:=C7 (a:=aM true true false false) (w:=w) Gz (SZ true true false) aa;rw [Dc] at an;have a8:=C7 (a:=aM true true true false) (w:=wE) GA (S0 true true) an;rw [GB] at a8;exact a8
 have aep:∀ {l b e x:Bool} {bj:Array Bool},Gu n l b e x bj->(b=true->l=true)->(x=true->e=true)->∀ q o,ops[q]?=some o->bj.getD q false=true->∀ i∈jn o,bj.getD i false=true:=by
  intro l b e x bj bB af au q o al bt i U;have aeq:q<ops.size:=(Array.getElem?_eq_some_iff.1 al).1;have asU:i<q:=by
   have:=List.all_eq_true.1 rO q (by grind);grind
  rw [bB] at bt ⊢;grind
 have asV:∀ {bj:Array Bool} {i:Nat},bj.size=ops.size->i<ops.size->(bj[i]?.getD true=false<->bj.getD i false=false):=by
  intro bj i cH U;rw [Array.getD_eq_getD_getElem?,Array.getElem?_eq_getElem (by omega)];rfl
 have aer:∀ {l b e x:Bool} {bj:Array Bool},Gu n l b e x bj->(b=true->l=true)->(x=true->e=true)->bj.size=ops.size->∀ i∈Region.ready .any ops bj,(i=n/\l=false)\/(i=n+1/\l=true/\b=false)\/(i=n+2/\e=false)\/(i=n+3/\e=true/\x=false)\/(i=n+4/\l=true/\b=true/\e=true/\x=true):=by
  intro l b e x bj bB af au cH i U;have qE:=aep bB af au;rw [mem_ready] at U;obtain ⟨aW,o,al,Gt⟩:=U;have lI:i<ops.size:=(Array.getElem?_eq_some_iff.1 al).1;have aW:bj.getD i false=false:=by
   grind
  have sK:∀ k∈jn o,bj.getD k false=true:=by
   intro k ak;obtain ⟨e,he,sL⟩:=List.mem_filterMap.1 ak;split at sL
   ·rename_i af;cases sL;grind
   grind
  have xR:∀ k∈(ja ops.toList).getD i [],bj.getD k false=true\/k=i:=by
   intro k ak;refine xo (p:=λj=>bj.getD j false=true\/j=i) ops.toList [] (λj i U=>by simp at U) (λj iz jb k ak aC=>?_) i k ak (.inr rfl);have mb:ops[j]?=some iz:=by grind
   rcases (by simpa using aC:bj.getD j false=true\/j=i) with aC | aC
   ·exact .inl (qE j iz mb aC k ak)
   ·subst aC;rw [al] at mb;cases mb;exact .inl (sK k ak)
  rw [bB] at aW;simp only [Bool.or_eq_false_iff,Bool.and_eq_false_iff,decide_eq_false_iff_not] at aW;obtain ⟨⟨⟨⟨hR,aS⟩,aY⟩,bK⟩,fe⟩:=aW;have Cm:n<=i:=by omega
  have aes:i=n\/i=n+1\/i=n+2\/i=n+3\/i=n+4:=by omega
  have flag:∀ q,q<4->n+q∈(ja ops.toList).getD i []->n+q≠i->(if q=0 then l else if q=1 then b else if q=2 then e else x)=true:=by
   intro q bt hm cI;rcases xR _ hm with h | h
   ·rw [bB] at h;simp only [Bool.or_eq_true,Bool.and_eq_true,decide_eq_true_eq] at h;rcases h with (((h | ⟨M,h⟩) | ⟨M,h⟩) | ⟨M,h⟩) | ⟨M,h⟩
    ·omega
    ·grind
    ·have:q=1:=by omega
     subst this;exact M
    ·have:q=2:=by omega
     subst this;exact M
    ·have:q=3:=by omega
     subst this;exact M
   omega
  rcases aes with rfl | rfl | rfl | rfl | rfl
  ·grind
  ·exact .inr (.inl ⟨rfl,flag 0 (by omega) LQ (by omega),by grind⟩)
  ·grind
  ·grind
  ·exact .inr (.inr (.inr (.inr ⟨rfl,flag 0 (by omega) (Aa 0 (by omega)) (by omega),flag 1 (by omega) (Aa 1 (by omega)) (by omega),flag 2 (by omega) (Aa 2 (by omega)) (by omega),flag 3 (by omega) (Aa 3 (by omega)) (by omega)⟩)))
 have aet:∀ {l b e x:Bool} {bj:Array Bool},Gu n l b e x bj->(b=true->l=true)->(x=true->e=true)->bj.size=ops.size->Region.ready .any ops bj≠[]:=by
  intro l b e x bj bB af au cH vC;have mk:∀ i o,ops[i]?=some o->bj.getD i false=false->(∀ k∈jn o,bj.getD k false=true)->False:=by
   intro i o al aW aN;have lI:i<ops.size:=(Array.getElem?_eq_some_iff.1 al).1;have:i∈Region.ready .any ops bj:=by
    rw [mem_ready];refine ⟨?_,o,al,λe he af=>aN e.on (List.mem_filterMap.2 ⟨e,by grind,by grind⟩)⟩;grind
   grind
  have lt:∀ q o,ops[q]?=some o->∀ i∈jn o,i<q:=by
   intro q o al i U;have aeq:q<ops.size:=(Array.getElem?_eq_some_iff.1 al).1;have:=List.all_eq_true.1 rO q (by grind);rw [show ops.toList[q]?=some o by grind] at this;have:=List.all_eq_true.1 this i U;grind
  cases l with
  | false=>
   have pH:b=false:=by grind
   subst pH;exact mk n hi xS (by rw [bB];simp) λk ak=>by rw [bB];grind
  | true=>
   cases b with
   | false=>exact mk (n+1) jc vR (by rw [bB];simp) λk ak=>by rw [bB];grind
   | true=>
    cases e with
    | false=>
     have LR:x=false:=by grind
     subst LR;exact mk (n+2) il z' (by rw [bB];simp) λk ak=>by rw [bB];grind
    | true=>
     cases x with
     | false=>exact mk (n+3) jt C8 (by rw [bB];simp) λk ak=>by rw [bB];grind
     | true=>exact mk (n+4) mL C9 (by rw [bB];simp) λk ak=>by rw [bB];grind
 have De:∀ {bj:Array Bool} (i:Nat),bj.size=ops.size->i<ops.size->∀ q,(bj.setIfInBounds i true).getD q false=(bj.getD q false||decide (q=i)):=by
  intro bj i cH U q;by_cases e:q=i
  ·grind
  grind
 let cz:=λ(l b e x:Bool)=>∀ (cQ:Nat) (bj:Array Bool),Gu n l b e x bj->bj.size=ops.size->5<=cQ+(l.toNat+b.toNat+e.toNat+x.toNat)->wpAnyIn (eX C.r) 0 C.P .any ops Q cQ bj (aM l b e x) (bb e);have step:∀ l b e x,(b=true->l=true)->(x=true->e=true)->(l=false->cz true b e x)->(l=true->b=false->cz l true e x)->(e=false->cz l b true x)->(e=true->x=false->cz l b e true)->cz l b e x:=by
  intro l b e x af au s1 s2 gl C5 cQ bj bB cH qD;have asW:l.toNat<=1/\b.toNat<=1/\e.toNat<=1/\x.toNat<=1:=⟨Bool.toNat_le l,Bool.toNat_le b,Bool.toNat_le e,Bool.toNat_le x⟩
  cases cQ with
  | zero=>omega
  | succ cQ=>
   refine ⟨λW=>absurd W (aet bB af au cH),λi U=>?_⟩;rcases aer bB af au cH i U with ⟨rfl,M⟩ | ⟨rfl,M,aa⟩ | ⟨rfl,M⟩ | ⟨rfl,M,aa⟩ | ⟨rfl,M,aa,an,a8⟩
   ·subst M;have pH:b=false:=by grind
    subst pH;unfold wpOpIn;simp only [xS,wt C_,if_true];refine h1 Da (SX false e x) ?_;rw [sM];have zk:(aM false false e x).put (some eQ) u=aM true false e x:=by
     simp only [aM,nf];cases e<;>cases x<;>simp [Gn _ e6.symm,Gn _ lb.symm]
    show wpAnyIn _ _ _ _ _ _ _ _ ((aM false false e x).put (some eQ) u) (bb e);rw [zk];refine s1 rfl cQ _ (λq=>?_) (by grind) (by grind);rw [De i cH (by omega),bB];by_cases bt:q=i<;>simp [bt]
   ·subst M;subst aa;unfold wpOpIn;simp only [vR,wt C',if_true];refine h1 Gy (SY e x) ?_;rw [dm];have zk:(aM true false e x).put (some gG) vB=aM true true e x:=by
     simp only [aM,nf];cases e<;>cases x<;>simp [Gn _ ll.symm,Gn _ Dd.symm]
    show wpAnyIn _ _ _ _ _ _ _ _ ((aM true false e x).put (some gG) vB) (bb e);rw [zk];refine s2 rfl rfl cQ _ (λq=>?_) (by grind) (by grind);rw [De (n+1) cH (by omega),bB];by_cases bt:q=n+1<;>simp [bt]
   ·subst M;have LR:x=false:=by grind
    subst LR;unfold wpOpIn;simp only [z',wt Gv,if_true];refine h1 Gz (SZ l b false) ?_;rw [Dc];show wpAnyIn _ _ _ _ _ _ _ _ (aM l b true false) (bb true);refine gl rfl cQ _ (λq=>?_) (by grind) (by grind);rw [De (n+2) cH (by omega),bB];simp
   ·subst M;subst aa;unfold wpOpIn;simp only [C8,wt Gw,if_true];refine h1 GA (S0 l b) ?_;rw [GB];show wpAnyIn _ _ _ _ _ _ _ _ (aM l b true true) (bb true);refine C5 rfl rfl cQ _ (λq=>?_) (by grind) (by grind);rw [De (n+3) cH (by omega),bB];simp
   ·subst M;subst aa;subst an;subst a8;unfold wpOpIn;simp only [C9,wt Gx,if_true];refine Oper.wpIn_mono (λa' w' bt=>?_) GC;have gv:∀ i,(bj.setIfInBounds (n+4) true).getD i false=decide (i<n+5):=λi=>by
     rw [De (n+4) cH (by omega),bB,Bool.eq_iff_iff];simp only [Bool.or_eq_true,Bool.and_eq_true,decide_eq_true_eq,true_and];omega
    have W:∀ i,i ∉ Region.ready .any ops (bj.setIfInBounds (n+4) true):=λi U=>by
     rw [mem_ready] at U;obtain ⟨aW,o,al,_⟩:=U;grind
    have ks:Region.ready .any ops (bj.setIfInBounds (n+4) true)=[]:=List.eq_nil_iff_forall_not_mem.2 W;cases cQ with
    | zero=>exact ⟨ks,bt⟩
    | succ cQ=>exact ⟨λ_=>bt,λi U=>absurd U (W i)⟩
 have f:∀ {p:Prop},(true:Bool)=false->p:=λh=>by cases h
 have g3:∀ {p:Prop},(false:Bool)=true->p:=λh=>by cases h
 have S1:cz true true true true:=step _ _ _ _ (λ_=>rfl) (λ_=>rfl) f (λ_=>f) f (λ_=>f);have S2:cz true true true false:=step _ _ _ _ (λ_=>rfl) (λ_=>rfl) f (λ_=>f) f (λ_ _=>S1);have aeu:cz true true false false:=step _ _ _ _ (λ_=>rfl) g3 f (λ_=>f) (λ_=>S2) g3;have S3:cz true false true true:=step _ _ _ _ (λ_=>rfl) (λ_=>rfl) f (λ_ _=>S1) f (λ_=>f);have S4:cz true false true false:=step _ _ _ _ (λ_=>rfl) (λ_=>rfl) f (λ_ _=>S2) f (λ_ _=>S3);have aev:cz true false false false:=step _ _ _ _ (λ_=>rfl) g3 f (λ_ _=>aeu) (λ_=>S4) g3;have aew:cz false false true true:=step _ _ _ _ g3 (λ_=>rfl) (λ_=>S3) g3 f (λ_=>f);have aex:cz false false true false:=step _ _ _ _ g3 (λ_=>rfl) (λ_=>S4) g3 f (λ_ _=>aew);have aey:cz false false false false:=step _ _ _ _ g3 g3 (λ_=>aev) g3 (λ_=>aex) g3;intro cQ bj cH aw qD;exact aey cQ bj (λi=>by grind) cH (by omega)
theorem aez {n:Nat} (aI:n<=ops.size) (a2:eO C.P T) (c0:kP C.P bd) (aN:∀ o∈ops.toList,m9 o C.nt=true) {l:List fm} {s':aE} (aA:xk C.aZ T bd ops (ops.toList.take n) s=some (l,s')) (cm:zL (ops.toList.take n) l=true) (aeg:∀ j,n<=j->j<ops.size->∀ i,i<n->i∈(ja ops.toList).getD j [])
  (hc:∀ r∈l,∀ p∈r.cs,p) (ug:∀ (cQ:Nat) (bj:Array Bool) a' w',bj.size=ops.size->(∀ i,bj.getD i false=decide (i<n))->ops.size - n<=cQ->cG C s' a' w'->wpAnyIn (eX C.r) 0 C.P .any ops Q cQ bj a' w'):∀ (cQ:Nat) (bj:Array Bool) (a:Act) (w:World),bj.size=ops.size->
   (∀ j o,ops[j]?=some o->bj.getD j false=true->∀ i∈jn o,bj.getD i false=true)->(∀ i,n<=i->bj.getD i false=false)->((List.range ops.size).filter λj=>!bj.getD j false).length<=cQ->
   cG C (j8 l s λj=>bj.getD j false) a w->wpAnyIn (eX C.r) 0 C.P .any ops Q cQ bj a w:=by
 obtain ⟨hlen,vy,uh⟩:=RJ _ _ aA;have Gk:(ops.toList.take n).length=n:=by grind
 have kr:∀ i,i<n->(ops.toList.take n)[i]?=ops[i]?:=λi U=>by
  grind
 simp only [zL,Bool.and_eq_true] at cm;obtain ⟨rO,LL⟩:=cm;have aek:∀ j o,j<n->ops[j]?=some o->∀ i∈jn o,i<j:=by
  intro j o Gs al i U;have:=List.all_eq_true.1 rO j (by grind);grind
 have ael:∀ i j x y,i<j->l[i]?=some x->l[j]?=some y->((ja (ops.toList.take n)).getD j []).contains i=true\/x.qv y=true:=by
  intro i j x y zE U aC;have qF:j<l.length:=(List.getElem?_eq_some_iff.1 aC).1;have:=List.all_eq_true.1 LL j (by grind);grind
 intro cQ;induction cQ with
 | zero=>
  intro bj a w cH _ oQ LM kQ;have gv:∀ i,bj.getD i false=decide (i<n):=λi=>by
   by_cases U:i<n
   ·cases aw:bj.getD i false with
    | true=>grind
    | false=>
     exfalso;have:i∈(List.range ops.size).filter λj=>!bj.getD j false:=by
      grind
     grind
   grind
  refine ug 0 bj a w cH gv ?_ ?_
  ·by_cases cq:n<ops.size
   ·have:n∈(List.range ops.size).filter λj=>!bj.getD j false:=by
     grind
    grind
   ·omega
  ·have:j8 l s (λj=>bj.getD j false)=s':=by
    rw [vy];unfold j8;rw [List.filter_eq_self.2 λp ar=>?_,Cx];obtain ⟨_,aa⟩:=zN ar;grind
   grind
 | succ cQ aO=>
  intro bj a w cH qE oQ LM kQ;by_cases C6:∀ i,i<n->bj.getD i false=true
  ·have gv:∀ i,bj.getD i false=decide (i<n):=λi=>by
    grind
   refine ug (cQ+1) bj a w cH gv ?_ ?_
   ·have M:(List.range' n (ops.size - n)).length<=((List.range ops.size).filter λj=>!bj.getD j false).length:=by
     have e:(List.range ops.size).filter (λj=>!bj.getD j false)=List.range' n (ops.size - n):=by
      have aa:(List.range ops.size).filter (λj=>!bj.getD j false)=(List.range ops.size).filter λj=>decide (n<=j):=List.filter_congr λj _=>by
       grind
      rw [aa];have an:List.range ops.size=List.range n++List.range' n (ops.size - n):=by
       rw [List.range_eq_range',List.range_eq_range'];have:=(List.range'_append (s:=0) (m:=n) (n:=ops.size - n) (step:=1))
       grind
      rw [an,List.filter_append,List.filter_eq_nil_iff.2 λj aC=>by grind,List.filter_eq_self.2 λj aC=>by grind];rfl
     grind
    grind
   ·have:j8 l s (λj=>bj.getD j false)=s':=by
     rw [vy];unfold j8;rw [List.filter_eq_self.2 λp ar=>?_,Cx];obtain ⟨_,aa⟩:=zN ar;grind
    grind
  ·refine ⟨λW=>absurd ?_ C6,λi U=>?_⟩
   ·intro j;induction j using Nat.strongRecOn with
    | _ j asX=>
     intro aC;cases aw:bj.getD j false with
     | true=>rfl
     | false=>
      exfalso;have g6:j∈Region.ready .any ops bj:=by
       rw [mem_ready];refine ⟨?_,ops[j],by simp,λe he af=>?_⟩
       ·grind
       ·have lI:e.on∈jn ops[j]:=List.mem_filterMap.2 ⟨e,by grind,by grind⟩;grind
      grind
   ·rw [mem_ready] at U;obtain ⟨aW,o,al,Gt⟩:=U;have lI:i<ops.size:=(Array.getElem?_eq_some_iff.1 al).1;have xQ:bj.getD i false=false:=by
     grind
    have g6:o∈ops.toList:=by
     grind
    have sK:∀ k∈jn o,bj.getD k false=true:=by
     intro k ak;obtain ⟨e,he,sL⟩:=List.mem_filterMap.1 ak;split at sL
     ·rename_i af;cases sL;exact Gt e (by simpa using he) af
     ·cases sL
    have U:i<n:=by
     by_cases U:i<n
     ·exact U
     ·exfalso;have xR:∀ k∈(ja ops.toList).getD i [],bj.getD k false=true\/k=i:=by
       intro k ak;refine xo (p:=λj=>bj.getD j false=true\/j=i) ops.toList [] (λj i U=>by simp at U) (λj iz jb k ak aC=>?_) i k ak (.inr rfl);have mb:ops[j]?=some iz:=by grind
       rcases (by simpa using aC:bj.getD j false=true\/j=i) with aC | aC
       ·exact .inl (qE j iz mb aC k ak)
       ·subst aC;rw [al] at mb;cases mb;exact .inl (sK k ak)
      grind
    obtain ⟨r,W,hA⟩:=uh i o (by grind);have LN:∀ j k,k∈(ja (ops.toList.take n)).getD j []->bj.getD j false=true->bj.getD k false=true:=by
     refine xo (p:=λj=>bj.getD j false=true) (ops.toList.take n) [] (λj i U=>by simp at U) λj iz jb k ak aC=>?_;have Gs:j<n:=by grind
     exact qE j iz (by grind) (by simpa using aC) k ak
    have xR:∀ k∈(ja (ops.toList.take n)).getD i [],bj.getD k false=true\/k=i:=by
     intro k ak;refine xo (p:=λj=>bj.getD j false=true\/j=i) (ops.toList.take n) [] (λj i U=>by simp at U) (λj iz jb k ak aC=>?_) i k ak (.inr rfl);have Gs:j<n:=by grind
     have mb:ops[j]?=some iz:=by grind
     rcases (by simpa using aC:bj.getD j false=true\/j=i) with aC | aC
     ·exact .inl (qE j iz mb aC k ak)
     ·subst aC;rw [al] at mb;cases mb;exact .inl (sK k ak)
    have hh:∀ j x,j<i->l[j]?=some x->bj.getD j false=false->x.qv r=true:=by
     grind
    have oh:∀ j x,i<j->l[j]?=some x->bj.getD j false=true->r.qv x=true:=by
     grind
    obtain ⟨aS,aY,bK⟩:=RG (s:=s) (f:=λj=>bj.getD j false) W xQ hh oh;have LO:=RK hA aS aY;unfold wpOpIn;rw [al];refine SQ a2 c0 (aN o g6) LO (hc r (List.mem_of_getElem? W)) kQ λa' w' bc=>?_;have fU:∀ j,(bj.setIfInBounds i true).getD j false=if j=i then true else bj.getD j false:=by
     intro j;by_cases e:j=i
     ·subst e;rw [if_pos rfl,Array.getD_eq_getD_getElem?,Array.getElem?_setIfInBounds_self_of_lt (by omega)];rfl
     ·rw [if_neg e,getD_set_ne false (Ne.symm e)]
    refine aO _ a' w' (by grind) (λj iz jb aC k ak=>?_) (λq bt=>by rw [fU,if_neg (by omega)];grind) ?_ ?_
    ·rw [fU] at aC ⊢;split
     ·rfl
     ·split at aC
      ·rename_i e;subst e;rw [al] at jb;cases jb;exact sK k ak
      ·exact qE j iz jb aC k ak
    ·have cq:((List.range ops.size).filter λj=>!(bj.setIfInBounds i true).getD j false).length<((List.range ops.size).filter λj=>!bj.getD j false).length:=by
      have aK:(List.range ops.size).filter (λj=>!(bj.setIfInBounds i true).getD j false)=((List.range ops.size).filter λj=>!bj.getD j false).filter λj=>decide (j≠i):=by
       rw [List.filter_filter];apply List.filter_congr;intro j _;rw [fU];simp
      rw [aK];have LP:i∈(List.range ops.size).filter λj=>!bj.getD j false:=by
       grind
      exact List.length_filter_lt_length_iff_exists.2 ⟨i,LP,by simp⟩
     omega
    ·have:j8 l s (λj=>(bj.setIfInBounds i true).getD j false)=r.iO (j8 l s λj=>bj.getD j false):=by
      rw [<-bK];congr 1;funext j;grind
     grind
theorem S5 {β:Type} {b:Bool} {p:Prop} {m:A β} {O:β->Prop} (h:A.cp (sz b p m) O):A.cp m O:=by
 cases b with
 | true=>exact h
 | false=>exact (A.mx.1 h).2
theorem aeA {hi jc il jt mL:Oper} (h:KZ hi jc il jt mL=true):∃ ty m x GD LS k c eQ gG d1 d2 kR y,hi.op=.lookup ty m x false/\jc.op=.binOp .add GD (.tmp eQ) (.const (.int k c)) LS/\il.op=.mapEntry ty m x/\jt.op=.extract (.tmp d1) 1/\
  kR.op=.mapUpdate ty m x y/\zS il jt mL=some (kR,d1,d2)/\hi.dst=some eQ/\jc.dst=some gG/\il.dst=some d1/\jt.dst=some d2/\ji k c/\(eQ≠gG/\eQ≠d1/\eQ≠d2/\gG≠d1/\gG≠d2/\d1≠d2)/\
  (m≠.tmp eQ/\m≠.tmp gG/\m≠.tmp d1/\m≠.tmp d2)/\(x≠.tmp eQ/\x≠.tmp gG/\x≠.tmp d1/\x≠.tmp d2)/\(∃ oX,m=.tmp oX)/\(∃ LU,x=.tmp LU)/\hi.guard=none/\jc.guard=none/\il.guard=none/\jt.guard=none/\mL.guard=none:=by
 unfold KZ at h;split at h
 ·rename_i ty m x GD t k c LS nB dI ec kr a6 lP;split at h
  ·rename_i eQ gG kR d1 d2 sM dm qD;simp only [decide_eq_true_eq] at h;obtain ⟨rfl,rfl,lI,aK,bq,dO,e6,lb,ll,Dd,S6,s1,s2,bN,b1,bC,c9,e0,gE,jN,vS,db,dR⟩:=h;obtain ⟨asY,asZ,as0,as1,f1,f2,f3,f4,f5,f6,f7,f8,f9,f10,f11,f12,ek,ht,iD⟩:=SG qD;obtain ⟨oX,ue⟩:=Option.isSome_iff_exists.1 s1;obtain ⟨LU,S7⟩:=Option.isSome_iff_exists.1 s2;have em:=vQ ue;have ex:=vQ S7;have aeB:=vQ (aK.trans ue);have aeC:=vQ (bq.trans S7);rw [f1] at lP;simp only [Op.mapEntry.injEq] at lP;obtain ⟨rfl,rfl,rfl⟩:=lP;subst em;subst ex;subst aeB;subst aeC;refine ⟨_,_,_,_,_,_,_,_,_,_,_,kR,_,kr,a6,f1,f3,f7,qD,sM,dm,f2,f4,lI,⟨dO,e6,lb,ll,Dd,S6⟩,?_,?_,⟨_,rfl⟩,⟨_,rfl⟩,Option.isNone_iff_eq_none.1 db,Option.isNone_iff_eq_none.1 dR,ek,ht,iD⟩
   ·simp only [iP,ne_eq,Option.some.injEq] at bN b1 bC c9;exact ⟨λe=>bN (by cases e;rfl),λe=>b1 (by cases e;rfl),λe=>bC (by cases e;rfl),λe=>c9 (by cases e;rfl)⟩
   ·simp only [iP,ne_eq,Option.some.injEq] at e0 gE jN vS;exact ⟨λe=>e0 (by cases e;rfl),λe=>gE (by cases e;rfl),λe=>jN (by cases e;rfl),λe=>vS (by cases e;rfl)⟩
  grind
 grind
theorem aeD {β:Type} {n:Nat} (sE:FX ops.toList=true) (aI:n=ops.size - 5) (a2:eO C.P T) (c0:kP C.P bd) (dY:nK C.P C.aZ Ψ) (aN:∀ o∈ops.toList,m9 o C.nt=true) {k:aE->A β} {O:β->Prop}
  (ak:∀ s' a' w',cG C s' a' w'->A.cp (k s') O->Q .normal a' w') (hm:A.cp (na C.aZ T bd Ψ ops (ops.toList.drop n) [] s k) O) :
  (n<=ops.size/\∀ j,n<=j->j<ops.size->∀ i,i<n->i∈(ja ops.toList).getD j [])/\∀ (a:Act) (w:World),cG C s a w->∀ (cQ:Nat) (bj:Array Bool),bj.size=ops.size->(∀ i,bj.getD i false=decide (i<n))->ops.size - n<=cQ->wpAnyIn (eX C.r) 0 C.P .any ops Q cQ bj a w:=by
 unfold FX at sE;rw [show ops.toList.length - 5=n by grind] at sE;split at sE
 ·rename_i hi jc il jt mL S8;simp only [Bool.and_eq_true,List.all_eq_true,List.mem_range,List.contains_eq_mem,decide_eq_true_eq,Bool.or_eq_true] at sE;obtain ⟨aeE,⟨⟨⟨⟨⟨rO,hh⟩,LQ⟩,SV⟩,Aa⟩,SW⟩,Db⟩:=sE;have SU:ops.size=n+5:=by
   have:=congrArg List.length S8;grind
  have Df:∀ q (o:Oper),[hi,jc,il,jt,mL][q]?=some o->ops[n+q]?=some o:=λq o h=>by
   grind
  have xS:=Df 0 hi rfl;have vR:=Df 1 jc rfl;have z':=Df 2 il rfl;have C8:=Df 3 jt rfl;have C9:=Df 4 mL rfl;have mem:∀ {q o},ops[n+q]?=some o->o∈ops.toList:=λh=>by
   grind
  obtain ⟨ty,m,x,GD,LS,fW,c,eQ,gG,d1,d2,kR,y,kr,a6,lP,xH,iQ,tK,sM,dm,Dc,GB,lI,⟨dO,e6,lb,ll,Dd,S6⟩,⟨eb,eN,ij,g2⟩,⟨so,lG,nL,aeF⟩,⟨oX,em⟩,⟨LU,ex⟩,C_,C',Gv,Gw,Gx⟩:=aeA aeE;have Da:∀ c,hi.op≠.defer c:=by grind
  have Gy:∀ c,jc.op≠.defer c:=by grind
  have Gz:∀ c,il.op≠.defer c:=by grind
  have GA:∀ c,jt.op≠.defer c:=by grind
  refine ⟨⟨by omega,λj M aa i U=>by have:=hh (j - n) (by omega) i U;simp_all⟩,λa w W cQ bj cH aw qD=>?_⟩;have S9:=LI (Q:=Q) a2 c0 dY aN ak _ n [] s a w rfl (λp ar=>by cases ar) W hm;rw [show (ops.toList.drop n).length=5 by grind] at S9;rw [S8] at hm;obtain ⟨κ,F,ft⟩:=W;have gd:∀ {o:Oper},o.guard=none->∀ s:aE,ld s.aD ops o.guard=some none:=λh s=>by rw [h];rfl
  have S_:∀ {o:Oper} {os},(∀ ty m x,o.op≠.mapEntry ty m x)->zT o os=none:=λ{o os} h=>by
   unfold zT;split
   ·unfold zS;simp
   ·rfl
  have Gk:zT hi [jc,il,jt,mL]=none:=S_ (by grind);unfold na at hm;rw [Gk] at hm;simp only [gd C_] at hm;split at hm
  ·rename_i ui GF;rw [sJ λaf=>(Gl (s:=s) (λp ar=>by cases ar) (gk:=none) (λk ak=>by cases ak) af).run s.ag ui GF,sJ λaf=>(zJ af).run s.ag ui GF] at hm;obtain ⟨LV,aeG,hm⟩:=hm;have aeH:=xj a2 c0 (aN hi (mem xS)) GF;have xT:=GF;simp only [bo,kr,zh] at xT;have aeI:(use (a_ C.aZ s.aD m)).1/\(use (a_ C.aZ s.aD x)).1/\ui.ih=[]/\∃ v u,ui.fH=.val v u:=by
    split at xT
    ·rename_i j7 as2 Dg;split at xT
     ·simp only [az.fR,Option.bind_eq_some_iff,bR,az.bW,Option.some.injEq] at xT;obtain ⟨es,pB,⟨y,l⟩,aJ,rfl⟩:=xT;exact ⟨LV.1,LV.2,rfl,_,_,rfl⟩
     ·cases xT
    ·cases xT
   obtain ⟨LJ,LK,S',Ta,Tb,aeJ⟩:=aeI;have aeK:zT jc [il,jt,mL]=none:=S_ (by grind);unfold na at hm;rw [aeK] at hm;simp only [gd C'] at hm;split at hm
   ·rename_i LW aeL;have hm:=S5 (S5 hm);have vT:=aeL;have aK:(s.i_ hi.dst ui).aD eQ=.val Ta Tb:=by rw [sM,aE.i_,aE.LH,aeJ]
    have m_:w9 (.int fW c)=.val (.int fW) c:=by simp [w9,lI]
    have aeM:∃ bN,Ta=.int fW/\LW.ih=[]/\bN=Tb:=by
     simp only [bo,a6,a_,aK,m_,use,aP.l3,aP.tG] at vT;split at vT
     ·rename_i aS bN aY e0 M aa;split at M
      ·rename_i bK nL an;cases aa;cases an;cases M;split at vT
       ·rename_i qn;simp only [zc,bR,az.bW,Option.some.injEq] at vT;grind
       ·cases vT
      grind
     ·rename_i oQ;exfalso;split at vT
      ·grind
      ·simp only [az.fR,Option.bind_eq_some_iff] at vT;obtain ⟨⟨c',iL⟩,M,aa⟩:=vT;simp only [zd,az.fR,Option.bind_eq_some_iff,az.bW] at M;grind
    obtain ⟨mc,rfl,Tc,rfl⟩:=aeM;have h2:((s.i_ hi.dst ui).i_ jc.dst LW).ag=s.ag:=by
     simp only [aE.i_,S',Tc,aE.gV,sM,dm,aE.set]
    have fF:∀ {t:Nat},t≠eQ->t≠gG->((s.i_ hi.dst ui).i_ jc.dst LW).aD t=s.aD t:=λ{t} M aa=>by
     simp only [aE.i_,S',Tc,aE.gV];rw [aE.C2 (by grind),aE.C2 (by grind)]
    unfold na at hm;rw [show zT il [jt,mL]=some (kR,d1,d2) from tK] at hm;simp only at hm;split at hm
    ·rename_i as3 aeN;obtain ⟨u,oo,wE,Td⟩:=aeb (s:=s) a2 kr lP iQ h2 (by rw [em];exact fF (λe=>eb (by grind)) (λe=>eN (by grind))) (by rw [ex];exact fF (λe=>so (by grind)) (λe=>lG (by grind))) aeN ft LJ LK;have aeO:=(Td a rfl rfl).1;have aeP:=C7 (K:=λa' w'=>cG C (s.i_ hi.dst ui) a' w') (Q:=Q) Da aeO (aeH a w κ F Q ft LV aeG);have Te:eQ<a.tmps.size:=by
      have:=aN hi (mem xS);simp only [m9,Bool.and_eq_true] at this;have:=this.1;rw [sM] at this;have M:=ft.eB;grind
     have as4:d1<a.tmps.size:=by
      have:=aN il (mem z');simp only [m9,Bool.and_eq_true] at this;have:=this.1;rw [Dc] at this;have M:=ft.eB;grind
     have hu:u=.int fW mc:=by
      obtain ⟨ac7,F1,g5⟩:=aeP;have M:=g5.b3 eQ;rw [aK,sM] at M;have aa:(a.put (some eQ) u).tmps.getD eQ Go.undef=u:=CX Te;rw [aa] at M;exact (hZ.1 M).1
     subst hu;let vB:Value:=.int fW (fW.wrap (mc+c));have aeQ:∀ (a':Act) (w':World),a'.eval (.tmp eQ)=.int fW mc->(execOp a'.eval jc).run C.P w'=.ok (.value vB) w':=λa' w' h=>by
      have aa:a'.eval (.const (.int fW c))=.int fW c:=rfl;have an:(Go.binOp .add GD (.int fW mc) (.int fW c)).run C.P w'=.ok vB w':=by simp [Go.binOp,Op.intArith,vB]
      simp only [execOp,a6,h,aa,Sem.run_bind,QK,Result.andThen_ok,an,Sem.run_pure]
     have aeR:∀ (a':Act) (w':World),a'.eval (.tmp d1)=.tuple #[.int fW mc,goInt oo]->(execOp a'.eval jt).run C.P w'=.ok (.value (goInt oo)) w':=λa' w' h=>by
      simp [execOp,xH,h,Instr.extract]
     have Lz:∀ l b e ec,(nf a eQ gG d1 d2 (.int fW mc) vB (.tuple #[.int fW mc,goInt oo]) (goInt oo) l b e ec).eval m=a.eval m:=λl b e ec=>SS eb eN ij g2;have aeS:∀ l b e ec,(nf a eQ gG d1 d2 (.int fW mc) vB (.tuple #[.int fW mc,goInt oo]) (goInt oo) l b e ec).eval x=a.eval x:=λl b e ec=>SS so lG nL aeF;refine aeo (wE:=wE) (u:=.int fW mc) (vB:=vB) (vE:=.tuple #[.int fW mc,goInt oo]) (vX:=goInt oo) SU rO xS vR z' C8 C9 C_ C' Gv Gw Gx Da Gy Gz GA hh LQ SV Aa SW Db sM dm Dc GB dO e6 lb ll Dd ?_ ?_ ?_ ?_ S9 cQ bj cH aw (by omega)
     ·intro b e ec;have:=Td _ (Lz false b e ec) (aeS false b e ec);cases e
      ·exact this.1
      ·exact this.2.1
     ·intro e ec;refine aeQ _ _ ?_;have M:(nf a eQ gG d1 d2 (.int fW mc) vB (.tuple #[.int fW mc,goInt oo]) (goInt oo) true false e ec).eval (.tmp eQ)=(a.put (some eQ) (.int fW mc)).eval (.tmp eQ):=by
       have db:Operand.tmp eQ≠.tmp d1:=λh=>e6 (by grind);have dR:Operand.tmp eQ≠.tmp d2:=λh=>lb (by grind);unfold nf;cases e<;>cases ec<;>simp [z6,db,dR]
      rw [M];exact CX Te
     ·grind
     ·intro l b;refine aeR _ _ ?_;have M:nf a eQ gG d1 d2 (.int fW mc) vB (.tuple #[.int fW mc,goInt oo]) (goInt oo) l b true false=(nf a eQ gG d1 d2 (.int fW mc) vB (.tuple #[.int fW mc,goInt oo]) (goInt oo) l b false false).put (some d1) (.tuple #[.int fW mc,goInt oo]):=rfl;rw [M];exact CX (by rw [aen];omega)
    ·exact hm.1.elim
   ·rename_i as5;exfalso;have:rG C.aZ T bd Ψ (s.i_ hi.dst ui) jc=none:=by
     have m_:w9 (.int fW c)=.val (.int fW) c:=by simp [w9,lI]
     simp only [rG,a6,CF,a_,m_];simp
    rw [this] at hm;exact hm.1
  ·exfalso;have:rG C.aZ T bd Ψ s hi=none:=by simp only [rG,kr]
   rw [this] at hm;exact hm.1
 grind
theorem aeT {β:Type} {L:List (aE->A β)} (kr:L≠[]) {o:Oper} (a2:eO C.P T) (c0:kP C.P bd) (dY:nK C.P C.aZ Ψ) (xP:m9 o C.nt=true) {O:β->Prop} {s:aE} {a:Act} {w:World} (W:cG C s a w)
  (hm:∀ k∈L,A.cp (FZ C.aZ T bd Ψ ops o s k) O) {K:Act->World->Prop} (kS:∀ s' a' w',cG C s' a' w'->(∀ k∈L,A.cp (k s') O)->K a' w'):o.guard=none/\o.wpIn (eX C.r) 0 C.P a w K Q:=by
 obtain ⟨hR,nD⟩:=List.exists_mem_of_ne_nil L kr;have bh:∀ i,o.dst=some i->i<C.nt:=λi U=>by
  have:=xP;simp only [m9,Bool.and_eq_true] at this;grind
 unfold FZ at hm;split at hm
 ·exact (hm hR nD).1.elim
 ·rename_i aL;refine ⟨aL,?_⟩;split at hm
  ·rename_i res g1;obtain ⟨κ,F,ft⟩:=W;have hm:∀ k∈L,res.cD/\res.c/\A.cp (k (s.i_ o.dst res)) O:=λk ak=>by
    have:=hm k ak;rw [sJ λaf=>(Gl (ops:=ops) (tg:=[]) (s:=s) (λp ar=>by cases ar) (gk:=none) (λk ak=>by cases ak) af).run s.ag res g1,sJ λaf=>(zJ af).run s.ag res g1] at this;omega
   exact Oper.wpIn_mono (λa' w' bc=>kS _ a' w' bc λk ak=>(hm k ak).2.2) (xj a2 c0 xP g1 a w κ F Q ft (hm hR nD).1 (hm hR nD).2.1)
  ·split at hm
   ·rename_i ck oV;obtain ⟨h5,oN,lJ⟩:=LD a2 c0 dY bh oV;have hm:∀ k∈L,ck.cD/\A.cp ck.m λy=>A.cp (k (ck.st y)) O:=λk ak=>by
     have:=hm k ak;rw [sJ λaf=>lJ (Kr af),A.gf] at this;omega
    refine h5 a w Q _ W (hm hR nD).1 ⟨(hm hR nD).2.1,λy aJ a' w' bc=>kS _ a' w' bc λk ak=>(hm k ak).2.2 y aJ⟩
   ·exact (hm hR nD).1.elim
theorem aeU {ops:List Oper} {done:List Nat} {i:Nat}:i∈vM ops done<->i<ops.length/\i ∉ done/\∃ o,ops[i]?=some o/\∀ j∈jn o,j∈done:=by
 unfold vM;grind
theorem Tf {ops:List Oper}:∀ (f:Nat) (done:List Nat),rH ops f done≠[]
 | 0,done=>by simp [rH]
 | f+1,done=>by
  unfold rH;split
  ·simp
  ·rename_i l aw;cases hc:vM ops done with
   | nil=>grind
   | cons i cb=>
    rw [List.flatMap_cons];intro h;rw [List.append_eq_nil_iff,List.map_eq_nil_iff] at h;exact Tf f _ h.1
theorem Tg {bj:Array Bool} {done:List Nat} (cH:bj.size=ops.size) (aw:∀ i,bj.getD i false=done.contains i):Region.ready .any ops bj=vM ops.toList done:=by
 unfold Region.ready vM;rw [Array.length_toList];refine List.filter_congr λi U=>?_;have U:i<ops.size:=by grind
 have M:bj.getD i true=done.contains i:=by
  grind
 rw [M];congr 1;have al:ops.toList[i]?=some ops[i]:=by simp
 rw [al,Array.getElem?_eq_getElem U];show ops[i].after.all _=(jn ops[i]).all _;rw [Bool.eq_iff_iff,Array.all_eq_true',List.all_eq_true];unfold jn;grind
theorem aeV {β:Type} (a2:eO C.P T) (c0:kP C.P bd) (dY:nK C.P C.aZ Ψ) (aN:∀ o∈ops.toList,m9 o C.nt=true) {k:aE->A β} {O:β->Prop} (ak:∀ s' a' w',cG C s' a' w'->A.cp (k s') O->Q .normal a' w'):∀ (cQ:Nat) (done:List Nat) (bj:Array Bool) (s:aE) (a:Act) (w:World),bj.size=ops.size->(∀ i,bj.getD i false=done.contains i)->FY ops.toList cQ done=true->
  cG C s a w->(∀ l∈rH ops.toList cQ done,A.cp (zV C.aZ T bd Ψ ops l s k) O)->wpAnyIn (eX C.r) 0 C.P .any ops Q cQ bj a w:=by
 intro cQ;induction cQ with
 | zero=>
  intro done bj s a w cH aw aL W hm;have t':=Tg (ops:=ops) cH aw;refine ⟨?_,ak s a w W (hm [] (by simp [rH]))⟩;rw [t'];exact List.isEmpty_iff.1 aL
 | succ cQ aO=>
  intro done bj s a w cH aw aL W hm;have t':=Tg (ops:=ops) cH aw;refine ⟨λaW=>?_,λi U=>?_⟩
  ·rw [t'] at aW;refine ak s a w W (hm [] ?_);unfold rH;grind
  ·rw [t'] at U;obtain ⟨qu,lI,o,al,_⟩:=aeU.1 U;have qu:i<ops.size:=by omega
   have jb:ops[i]?=some o:=by grind
   have LX:o∈ops.toList:=List.mem_of_getElem? al;have g6:∀ l∈rH ops.toList cQ (i::done),A.cp (FZ C.aZ T bd Ψ ops o s λs'=>zV C.aZ T bd Ψ ops l s' k) O:=λl hle=>by
    have:=hm (i::l) (by
     unfold rH;grind)
    unfold zV at this;grind
   obtain ⟨ek,ht⟩:=aeT (Q:=Q) (L:=(rH ops.toList cQ (i::done)).map λl=>λs'=>zV C.aZ T bd Ψ ops l s' k) (by simpa using Tf cQ (i::done)) a2 c0 dY (aN o LX) W
    (λk' aeW=>by obtain ⟨l,hle,rfl⟩:=List.mem_map.1 aeW;exact g6 l hle)
    (K:=wpAnyIn (eX C.r) 0 C.P .any ops Q cQ (bj.setIfInBounds i true)) λs' a' w' bc Sd=>by
     refine aO (i::done) _ s' a' w' (by grind) (λj=>?_) ?_ bc λl hle=>Sd _ (List.mem_map.2 ⟨l,hle,rfl⟩)
     ·by_cases e:j=i
      ·simp_all
      ·rw [getD_set_ne false (Ne.symm e),aw j];simp [e]
     ·unfold FY at aL;grind
   unfold wpOpIn;rw [jb];simp only;have hw:Region.wanted o (yielded ops a.tmps)=true:=by unfold Region.wanted;rw [ek]
   grind
theorem aeX {β:Type} {id:Nat} (fu:C.P.follows .mixedOrders=true) (a2:eO C.P T) (c0:kP C.P bd) (dY:nK C.P C.aZ Ψ) (aN:∀ o∈ops.toList,m9 o C.nt=true) {k:aE->A β} {O:β->Prop}
  (ak:∀ s' a' w',cG C s' a' w'->A.cp (k s') O->Q .normal a' w') {a:Act} {w:World} (W:cG C s a w) (hm:A.cp (K1 C.aZ T bd Ψ ops s k) O):(Code.region id ops true).wpIn (eX C.r) 0 C.P Q a w:=by
 unfold K1 at hm;split at hm
 ·rename_i l s' aA;split at hm
  ·rename_i cm;obtain ⟨M,aa⟩:=SO _ hm;refine wpIn_region_any fu ?_;obtain ⟨κ,F,ft⟩:=W;refine aej a2 c0 aN aA cm (λr W p ar=>M p (List.mem_flatMap.2 ⟨r,W,ar⟩)) (λa' w' bc=>ak s' a' w' bc aa) ops.size (Array.replicate ops.size false) a _ (by simp) (λj o _ aw=>?_) ?_ ⟨κ,F,?_⟩
   ·have:(Array.replicate ops.size false).getD j false=false:=by
     rw [Array.getD_eq_getD_getElem?,Array.getElem?_replicate];grind
    grind
   ·grind
   ·have:j8 l s (λj=>(Array.replicate ops.size false).getD j false)=s:=by
     unfold j8;rw [List.filter_eq_nil_iff.2 λp _=>?_]
     ·rfl
     ·simp only [Array.getD_eq_getD_getElem?,Array.getElem?_replicate];grind
    rw [this];exact ft.drew
  ·exact hm.1.elim
 ·split at hm
  ·rename_i l s' aA;split at hm
   ·rename_i cm;rw [Bool.and_eq_true] at cm;obtain ⟨M,aa⟩:=SO _ hm;refine wpIn_region_any fu ?_;obtain ⟨κ,F,ft⟩:=W;have cont:(mM ops.toList<=ops.size/\∀ j,mM ops.toList<=j->j<ops.size->∀ i,i<mM ops.toList->i∈(ja ops.toList).getD j [])/\∀ (cQ:Nat) (bj:Array Bool) a' w',bj.size=ops.size->(∀ i,bj.getD i false=decide (i<mM ops.toList))->ops.size - mM ops.toList<=cQ->cG C s' a' w'->wpAnyIn (eX C.r) 0 C.P .any ops Q cQ bj a' w':=by
     by_cases sE:FX ops.toList=true
     ·have LY:mM ops.toList=ops.size - 5:=by unfold mM;grind
      obtain ⟨aK,bq⟩:=aeD (Q:=Q) sE LY a2 c0 dY aN ak aa;grind
     ·have LY:mM ops.toList=zU (ja ops.toList) ops.toList.length:=by unfold mM;grind
      obtain ⟨rA,jw⟩:=SR (ja ops.toList) ops.toList.length;have rA:mM ops.toList<=ops.size:=by grind
      have jw:∀ j,mM ops.toList<=j->j<ops.size->∀ i,i<j->i∈(ja ops.toList).getD j []:=λj M aa=>jw j (by omega) (by omega);refine ⟨⟨rA,λj M aa i U=>jw j M aa i (by omega)⟩,λcQ bj a' w' cH gv qD bc=>?_⟩;refine aef cm.2 jw (ops.size - mM ops.toList) (mM ops.toList) cQ bj a' w' (Nat.le_refl _) (by omega) cH gv qD ?_;have hlen:(ops.toList.drop (mM ops.toList)).length=ops.size - mM ops.toList:=by simp
      rw [<-hlen];exact LI (Q:=Q) a2 c0 dY aN ak _ _ [] s' a' w' rfl (λp ar=>by cases ar) bc aa
    obtain ⟨⟨rA,jw⟩,as6⟩:=cont;refine aez rA a2 c0 aN aA cm.1 jw (λr W p ar=>M p (List.mem_flatMap.2 ⟨r,W,ar⟩)) (λcQ bj a' w' cH gv qD bc=>?_) ops.size (Array.replicate ops.size false) a _ (by simp) (λj o _ aw=>?_) (λi _=>?_) ?_ ⟨κ,F,?_⟩
    ·grind
    ·have:(Array.replicate ops.size false).getD j false=false:=by
      rw [Array.getD_eq_getD_getElem?,Array.getElem?_replicate];grind
     grind
    ·rw [Array.getD_eq_getD_getElem?,Array.getElem?_replicate];grind
    ·grind
    ·have:j8 l s (λj=>(Array.replicate ops.size false).getD j false)=s:=by
      unfold j8;rw [List.filter_eq_nil_iff.2 λp _=>?_]
      ·rfl
      ·simp only [Array.getD_eq_getD_getElem?,Array.getElem?_replicate];grind
     rw [this];exact ft.drew
   ·exact hm.1.elim
  ·unfold RX at hm;split at hm
   ·rename_i lR;refine wpIn_region_any fu ?_;obtain ⟨κ,F,ft⟩:=W;refine aeV a2 c0 dY aN ak ops.size [] (Array.replicate ops.size false) s a _ (by simp) (λi=>?_) lR ⟨κ,F,ft.drew⟩ λl hle=>⟨hm.1 _ (List.mem_map.2 ⟨l,hle,rfl⟩),λy aJ=>hm.2 y ⟨_,List.mem_map.2 ⟨l,hle,rfl⟩,aJ⟩⟩
    rw [Array.getD_eq_getD_getElem?,Array.getElem?_replicate];grind
   ·exact hm.1.elim
end
end Go.Fer
namespace Go.Fer
open Go.RowKit
theorem h7 {β:Type} {O:β->Prop} (h:A.cp (A.fail:A β) O):False:=h.1
theorem uj {β:Type} {sh:dX} {s:aE} {k:sh.aq->A β} {O:β->Prop} (h:A.cp (sh.nH s k) O):∃ G,sh.kp s=some G/\A.cp (k G) O:=by
 unfold dX.nH at h;split at h
 ·grind
 ·exact (h7 h).elim
def oY (B:Nat):Deferred:={ target:=.collected B,args:=#[] }
structure oq where
 w:World
 K:Nat->Prop
 ms:List Nat
def cf.h6 (C:cf) (u:oq):cf:={ C with w0:=u.w,K0:=u.K,dfr:=u.ms.map oY++C.dfr }
structure cf.kU (C:cf) (u:oq):Prop where
 sN:∀ B∈u.ms,u.K B/\u.w.heap[B]?=some (.deferred (some []))
 e7:∀ B∈u.ms,¬C.K0 B/\C.w0.heap.size<=B
 nM:u.ms.Nodup
 hR:∀ r,C.K0 r->u.K r
 fF:∀ r,C.K0 r->u.w.heap[r]?=C.w0.heap[r]?
 size:C.w0.heap.size<=u.w.heap.size
 fi:dA C.w0 u.w
def cf.ik (C:cf):oq:=⟨C.w0,C.K0,[]⟩
theorem cf.xU (C:cf):C.kU C.ik:=⟨λ_ h=>by simp [cf.ik] at h,λ_ h=>by simp [cf.ik] at h,List.nodup_nil,λ_ h=>h,λ_ _=>rfl,Nat.le_refl _,dA.refl _⟩
def oq.then (u v:oq):oq:=⟨v.w,v.K,v.ms++u.ms⟩
theorem cf.Ab (C:cf) (u v:oq):(C.h6 u).h6 v=C.h6 (u.then v):=by
 simp [cf.h6,oq.then]
theorem cf.kU.then {C:cf} {u v:oq} (h:C.kU u) (k:(C.h6 u).kU v):C.kU (u.then v) where
 sN:=λB a6=>by
  rcases List.mem_append.1 a6 with a6 | a6
  ·exact k.sN B a6
  ·obtain ⟨M,aa⟩:=h.sN B a6;exact ⟨k.hR B M,(k.fF B M).trans aa⟩
 e7:=λB a6=>by
  rcases List.mem_append.1 a6 with a6 | a6
  ·obtain ⟨M,aa⟩:=k.e7 B a6;exact ⟨λan=>M (h.hR B an),Nat.le_trans h.size aa⟩
  ·exact h.e7 B a6
 nM:=List.nodup_append.2 ⟨k.nM,h.nM,λa bf b af e=>(k.e7 a bf).1 (e ▸ (h.sN b af).1)⟩
 hR:=λr W=>k.hR r (h.hR r W)
 fF:=λr W=>(k.fF r (h.hR r W)).trans (h.fF r W)
 size:=Nat.le_trans h.size k.size
 fi:=h.fi.trans k.fi
theorem bl.Th {C:cf} {s:aE} {a:Act} {w:World} {κ:Nat->bD} {F F':Nat->Prop} (h:bl C s a w κ F) {w0 w':World} {F0 K0:Nat->Prop} {nt:Nat} {dfr:List Deferred} {r:Option Nat} {sl:Nat->aP} {a':Act}
    (LZ:a'.tmps.size=nt) (L0:a'.defers=dfr) (uk:nt<=fP) (dr:∀ i,bw C.P s.ag κ F w (sl i) (a'.tmps.getD i undef)) (oQ:∀ l aM L n st,sl b_≠.a5 l aM L n st)
    (heq:∀ r,F r\/(∃ b,(s.ag b).body.cd (κ b)=true/\(κ b).ag=r)->w'.heap[r]?=w.heap[r]?) (cH:w.heap.size<=w'.heap.size)
    (bB:∀ r,F r->F' r) (j6:∀ r,F' r->r<w'.heap.size) (Dh:∀ b,(s.ag b).body.cd (κ b)=true->¬F' (κ b).ag)
    (L1:∀ r,F' r->F0 r\/¬K0 r) (L2:∀ r,F0 r->F' r) (Di:∀ r,K0 r->r<w0.heap.size) (um:∀ r,K0 r->w'.heap[r]?=w0.heap[r]?) (hM:∀ b,(s.ag b).body.cd (κ b)=true->¬K0 (κ b).ag)
    (kt:w0.heap.size<=w'.heap.size) (hc:dA w0 w') :
    bl { C with w0:=w0,F0:=F0,K0:=K0,nt:=nt,dfr:=dfr,r:=r } ⟨sl,s.ag⟩ a' w' κ F':=by
  have he:c6 F w w':=⟨cH,λr W=>heq r (.inl W)⟩
  exact {
          eB:=LZ,dfr:=L0,b3:=λi=>bw.nw (gT.refl _ _) bB he (dr i)
          bI:=λb=>cO.mA (h.bI b) (gT.refl _ _) bB he rfl rfl λal=>heq _ (.inr ⟨b,al,rfl⟩)
          ad:=λb af=>⟨Nat.lt_of_lt_of_le (h.ad b af).1 cH,Dh b af,hM b af⟩,inj:=h.inj,dM:=j6
          iY:=L1,j2:=L2,jI:=Di,fF:=um,size:=kt,fi:=hc,hF:=uk,m1:=h.m1,lC:=h.lC,m2:=h.m2,mC:=h.mC,fQ:=λl aM L n st e=>(oQ l aM L n st e).elim,l2:=h.l2 }
theorem bl.vU {C:cf} {s:aE} {a:Act} {w:World} {κ:Nat->bD} {F:Nat->Prop} (h:bl C s a w κ F) {w0 w':World} {F0 K0:Nat->Prop} {nt:Nat} {dfr:List Deferred} {r:Option Nat} {sl:Nat->aP} {a':Act}
  (LZ:a'.tmps.size=nt) (L0:a'.defers=dfr) (uk:nt<=fP) (dr:∀ i,bw C.P s.ag κ F w (sl i) (a'.tmps.getD i undef)) (oQ:∀ l aM L n st,sl b_≠.a5 l aM L n st)
  (heq:∀ r,F r\/(∃ b,(s.ag b).body.cd (κ b)=true/\(κ b).ag=r)->w'.heap[r]?=w.heap[r]?) (cH:w.heap.size<=w'.heap.size)
  (L1:∀ r,F r->F0 r\/¬K0 r) (L2:∀ r,F0 r->F r) (Di:∀ r,K0 r->r<w0.heap.size) (um:∀ r,K0 r->w'.heap[r]?=w0.heap[r]?) (hM:∀ b,(s.ag b).body.cd (κ b)=true->¬K0 (κ b).ag)
  (kt:w0.heap.size<=w'.heap.size) (hc:dA w0 w') :
  bl { C with w0:=w0,F0:=F0,K0:=K0,nt:=nt,dfr:=dfr,r:=r } ⟨sl,s.ag⟩ a' w' κ F:=
 h.Th LZ L0 uk dr oQ heq cH (λ_ h=>h) (λr W=>Nat.lt_of_lt_of_le (h.dM r W) cH) (λb af=>(h.ad b af).2.1) L1 L2 Di um hM kt hc
theorem bl.GG {C:cf} {s:aE} {a:Act} {w:World} {κ:Nat->bD} {F:Nat->Prop} (h:bl C s a w κ F) {w0 w':World} {K0:Nat->Prop} {r:Option Nat}
    (kS:∀ r,K0 r->C.K0 r) (heq:∀ r,F r\/¬C.K0 r->w'.heap[r]?=w.heap[r]?) (cH:w.heap.size<=w'.heap.size) (xV:dA w w')
    (Di:∀ r,K0 r->r<w0.heap.size) (um:∀ r,K0 r->w'.heap[r]?=w0.heap[r]?) (kt:w0.heap.size<=w'.heap.size) (hc:dA w0 w') :
    bl { C with w0:=w0,K0:=K0,r:=r } s a w' κ F:=by
  have he:c6 F w w':=⟨cH,λr W=>heq r (.inl W)⟩
  have j6:∀ r,F r->r<w'.heap.size:=λr W=>Nat.lt_of_lt_of_le (h.dM r W) cH;exact {
          eB:=h.eB,dfr:=h.dfr,b3:=λi=>bw.nw (gT.refl _ _) (λ_ h=>h) he (h.b3 i)
          bI:=λb=>cO.mA (h.bI b) (gT.refl _ _) (λ_ h=>h) he rfl rfl λal=>heq _ (.inr (h.ad b al).2.2)
          ad:=λb af=>⟨Nat.lt_of_lt_of_le (h.ad b af).1 cH,(h.ad b af).2.1,λk=>(h.ad b af).2.2 (kS _ k)⟩,inj:=h.inj,dM:=j6
          iY:=λr W=>(h.iY r W).imp id λk k'=>k (kS r k'),j2:=h.j2,jI:=Di,fF:=um,size:=kt,fi:=hc,hF:=h.hF,m1:=h.m1,lC:=h.lC,m2:=h.m2,mC:=h.mC
          fQ:=λl aM L n st e=>by
            obtain ⟨M,aa,Y,an,a8,bV⟩:=h.fQ l aM L n st e;exact ⟨M,aa,Y,λr W=>⟨Nat.lt_of_lt_of_le (an r W).1 cH,(an r W).2.1,λk=>(an r W).2.2 (kS r k)⟩,a8,aa.Jx bV (λ_ h=>h) (λr W=>heq r (W.imp id λaJ=>(an r aJ).2.2)) cH xV j6 λr ax aJ=>(an r aJ).2.1 ax⟩
          l2:=h.l2 }
theorem Ti {P:Program} {H:Nat->bS} {κ:Nat->bD} {F:Nat->Prop} {w:World} {aM:ai} {x:aM.aq}:∀ (ps:List Tmp) (args:List Value) (j:Nat) (f:Nat->aP) (oX:Array Value),ps.length=args.length->(∀ p∈ps,p<oX.size)->
  (∀ i,bw P H κ F w (f i) (oX.getD i undef))->(∀ i,i<args.length->bw P H κ F w (k9 aM x (j+i)) (args.getD i undef))->
  ∀ i,bw P H κ F w (zW aM x ps j f i) (((ps.zip args).foldl (λtmps p=>tmps.setIfInBounds p.1 p.2) oX).getD i undef)
 | [],[],_,_,_,_,_,ax,_,i=>ax i
 | p::ps,v::args,j,f,oX,aw,ar,ax,aj,i=>by
  simp only [zW,List.zip_cons_cons,List.foldl_cons];refine Ti ps args (j+1) _ _ (by grind) (λq bt=>by grind) (λi=>?_) (λi U=>?_) i
  ·rw [Array.getD_eq_getD_getElem?,Array.getElem?_setIfInBounds];by_cases e:i=p
   ·grind
   ·rw [if_neg e,if_neg (Ne.symm e)];simp_all
  ·have:=aj (i+1) (by grind);grind
theorem aeY {ps:List Tmp} {args:List Value}:∀ {oX:Array Value},((ps.zip args).foldl (λtmps p=>tmps.setIfInBounds p.1 p.2) oX).size=oX.size:=by
 generalize ps.zip args=l;induction l with
 | nil=>simp
 | cons p l aO=>grind
end Go.Fer
namespace Go.Fer
open Go.RowKit
def sO:dc->Option Code
 | .normal=>none
 | .exit id=>some (.exit id)
 | .ret=>some .ret
def fM (fn:FuncId) (oX:Array Value) (ps:Array Tmp) (assign body:Code) (B:Nat) (st:LoopState) (e:dc):Loop:=
 { state:=st,pending:=sO e,fn:=fn,tmps:=oX,params:=ps,assign:=assign,body:=body,defers:=B }
def GH (P:Program) (aZ:eG) (nt:Nat) (assign body:Code) (l:Nat) {rout:dX} (run:aE->A (dc×rout.aq)):Prop:=
 ∀ (C1:cf),C1.P=P->C1.aZ=aZ->C1.nt=nt->C1.r=some l->∀ (s1:aE) (bN:Act) (cn:World) (qG:dc×rout.aq->Prop),cG C1 s1 bN cn->A.cp (run s1) qG->
  assign.wpIn (eX (some l)) 0 P (Exit.then (λb1 c8=>∃ u s2,C1.kU u/\cG (C1.h6 u) s2 b1 c8/\
   ∀ (h8:cf),h8.P=P->h8.aZ=aZ->h8.nt=nt->h8.r=some l->∀ (c8:World),cG h8 s2 b1 c8->
    body.wpIn (eX (some l)) 0 P (λe bC fL=>∃ (a9:dc) (v:oq) (gl:aE) (bA:rout.aq),e=a9.qx/\h8.kU v/\cG (h8.h6 v) gl bC fL/\rout.kp gl=some bA/\qG (a9,bA)) b1 c8) (λ_ _ _=>False)) bN cn
theorem aeZ {ts:List (Nat×cE)} {R:Type} (h:ts.isEmpty=true) (g:Nat->Nat×Nat) (z:oR ts R) (i:Nat):gF (e9 g ts z).1 i=.undef:=by
 cases ts with
 | nil=>rfl
 | cons p ts=>cases h
theorem ae0 {P:Program} {l:Nat} {R:Ending->World->Prop} {e:dc} {a:Act} {w:World} {r:Loop} (h:w.heap[l]?=some (.loop r))
  (vV:R (.returned (.bool (sO e).isNone)) (w.putObj l (.loop { r with state:=if (sO e).isNone then .ready else .done,pending:=sO e }))):roundPost P l R e.qx a w:=by
 cases e with
 | normal=>exact ⟨_,_,run_endRound none h,vV⟩
 | exit id=>exact ⟨_,_,run_endRound (some (.exit id)) h,vV⟩
 | ret=>exact ⟨_,_,run_endRound (some .ret) h,vV⟩
theorem ae1 {CI:cf} {sh rin rout:dX} {aM:ai} {ps:Array Tmp} {assign body:Code} {a:Act} {bb:World} {κ:Nat->bD} {F:Nat->Prop} {G:sh.aq} {fn:FuncId} {l B:Nat} {x:aM.aq} {args:List Value} {run:aE->A (dc×rout.aq)}
  {Or:dc×sh.aq->Prop} {Y Z:Nat->Prop} (ae2:Z l)
  (W:bl CI (sh.st G) a bb κ F) (er:oj sh rout aM ps.toList a.tmps.size=true) (Dj:GH CI.P CI.aZ a.tmps.size assign body l run) (hm:A.cp (t_ sh rin rout aM ps.toList G x run) Or)
  (aw:bb.heap[l]?=some (.loop (fM fn a.tmps ps assign body B .ready .normal))) (ae3:¬F l) (qq:∀ b,((sh.st G).ag b).body.cd (κ b)=true->Y (κ b).ag/\¬Z (κ b).ag) (ep:gS CI.P aM F bb args x) :
  ∃ tmps,(Instr.yield l args.toArray).run CI.P bb=.ok (.round l fn tmps assign body) bb/\RoundIn Fence.wide 0 CI.P l fn tmps assign body bb λe n7=>
   ∃ (dC:dc) (jv:sh.aq) (κ':Nat->bD) (F':Nat->Prop) (o:Obj),e=.returned (.bool (sO dC).isNone)/\Or (dC,jv)/\n7.heap[l]?=some (.loop (fM fn a.tmps ps assign body B (if (sO dC).isNone then .ready else .done) dC))/\
    bl { CI with w0:=bb.putObj l o,F0:=F,K0:=λr=>r<bb.heap.size/\(Z r\/¬Y r) } (sh.st jv) a n7 κ' F':=by
 simp only [oj,Bool.and_eq_true,decide_eq_true_eq,Bool.not_eq_true',List.all_eq_true] at er;obtain ⟨⟨⟨⟨aS,aY⟩,bK⟩,fe⟩,rv⟩:=er;have Ac:l<bb.heap.size:=(Array.getElem?_eq_some_iff.1 aw).1;obtain ⟨iy,GI⟩:=tR (H:=(sh.st G).ag) (κ:=κ) aM ep bK;have oQ:(sh.st G).aD b_=.undef:=xG sh.b3 de G b_ aY;have Fk:(Array.zip ps args.toArray).foldl (λtmps (x:Tmp×Value)=>match x with | (t,a)=>tmps.setIfInBounds t a) a.tmps=(ps.toList.zip args).foldl (λtmps p=>tmps.setIfInBounds p.1 p.2) a.tmps:=by
  rw [<-Array.foldl_toList];simp
 refine ⟨(ps.toList.zip args).foldl (λtmps p=>tmps.setIfInBounds p.1 p.2) a.tmps,?_,?_⟩
 ·rw [<-Fk];exact run_yield aw (by show args.toArray.size=ps.size;grind)
 have ae4:bl { CI with w0:=bb,F0:=F,K0:=λr=>r<bb.heap.size/\(Z r\/¬Y r) } (sh.st G) a bb κ F:=
  W.vU W.eB W.dfr W.hF W.b3 (λl aM L n st e=>by have e:(sh.st G).aD b_=.a5 l aM L n st:=e;grind) (λ_ _=>rfl) (Nat.le_refl _) (λ_ h=>.inl h) (λ_ h=>h) (λ_ h=>h.1) (λ_ _=>rfl)
   (λb af h=>h.2.elim (qq b af).2 λh=>h (qq b af).1) (Nat.le_refl _) (dA.refl _)
 unfold t_ at hm;split at hm
 ·rename_i aQ b8 ae5;split at hm
  ·rename_i cm;rw [A.gf] at hm;have g5:bl { CI with w0:=bb,F0:=F,K0:=λr=>r<bb.heap.size/\(Z r\/¬Y r),nt:=a.tmps.size,dfr:=[],r:=none } ⟨(xA (sh.st G) aM x ps.toList).aD,(sh.st G).ag⟩ { tmps:=(ps.toList.zip args).foldl (λtmps p=>tmps.setIfInBounds p.1 p.2) a.tmps,defers:=[] } bb κ F:=by
    refine W.vU aeY rfl (by rw [W.eB];exact W.hF) (λi=>?_) (λcP lg fx j4 gw e=>?_) (λ_ _=>rfl) (Nat.le_refl _) (λ_ h=>.inl h) (λ_ h=>h) (λ_ h=>h.1) (λ_ _=>rfl)
     (λb af h=>h.2.elim (qq b af).2 λh=>h (qq b af).1) (Nat.le_refl _) (dA.refl _)
    ·show bw CI.P (sh.st G).ag κ F bb (if i=b_ then (sh.st G).aD b_ else zW aM x ps.toList 0 (sh.st G).aD i) _;split
     ·rw [oQ];trivial
     ·exact Ti ps.toList args 0 _ _ (by omega) (λp ar=>by grind) W.b3 (λi U=>by grind) i
    ·have e:(if b_=b_ then (sh.st G).aD b_ else zW aM x ps.toList 0 (sh.st G).aD b_)=.a5 cP lg fx j4 gw:=e;grind
   obtain ⟨F',ad,ha,ix,f1,bc,hM,Dk,as7,CW,Lu⟩:=Su (c:=vN rin rout) ae4 g5 (by rfl) ae5 rfl cm;have L3:l<bb.heap.size/\(Z l\/¬Y l):=⟨Ac,.inl ae2⟩
   have Tj:¬F' l:=λh=>(bc.iY l h).elim ae3 λh=>h L3;have ae6:¬ad l:=λh=>by
    obtain ⟨b,M,aa⟩:=hM l h;exact (bc.ad b M).2.2 (aa ▸ L3)
   have ae7:¬ha l:=λh=>(Dk.low l h).2.2 L3;have Tk:l<bb.heap.size/\¬ad l/\¬ha l:=⟨Ac,ae6,ae7⟩
   have ae8:bl { rK CI bb F' a.tmps.size ad ha ix with r:=some l } (rin.st aQ) _ bb _ F':=CW.GG (w0:=bb) (w':=bb) (K0:=λr=>r<bb.heap.size/\¬ad r/\¬ha r) (r:=some l) (λ_ h=>h) (λ_ _=>rfl) (Nat.le_refl _) (dA.refl _) (λ_ h=>h.1) (λ_ _=>rfl) (Nat.le_refl _) (dA.refl _);refine roundIn_of_wpIn trivial ?_;refine wpIn_mono (Dj { rK CI bb F' a.tmps.size ad ha ix with r:=some l } rfl rfl rfl rfl (rin.st aQ) _ bb _ ⟨_,_,ae8⟩ hm) λe b1 c8 bt=>?_;cases e with
   | normal=>
    obtain ⟨u,s2,hu,⟨nJ,F2,cV⟩,b9⟩:=bt;have sP:u.K l:=hu.hR l Tk;have h3:c8.heap[l]?=some (.loop (fM fn a.tmps ps assign body B .ready .normal)):=(cV.fF l sP).trans ((hu.fF l Tk).trans aw);refine ⟨_,run_beginRound h3 rfl,?_⟩;have ae9:l<c8.heap.size:=(Array.getElem?_eq_some_iff.1 h3).1;have ae_:¬F2 l:=λh=>(cV.iY l h).elim Tj λh=>h sP;have Ad:=cV.GG (w0:=c8.putObj l (.loop (fM fn a.tmps ps assign body B .busy .normal))) (w':=c8.putObj l (.loop (fM fn a.tmps ps assign body B .busy .normal))) (K0:=u.K) (r:=some l) (λ_ h=>h)
     (λr h=>World.putObj_heap_other λe=>by
      subst e;exact h.elim ae_ λh=>h sP) (by simp) ⟨rfl,rfl,rfl⟩ (λr h=>by
       have:=cV.jI r h;have:=cV.size;simp;omega) (λ_ _=>rfl) (Nat.le_refl _) (dA.refl _)
    refine wpIn_mono (b9 { ({ rK CI bb F' a.tmps.size ad ha ix with r:=some l }:cf).h6 u with w0:=c8.putObj l (.loop (fM fn a.tmps ps assign body B .busy .normal)),K0:=u.K,r:=some l } rfl rfl rfl rfl _ ⟨nJ,F2,Ad⟩) λe bC fL ⟨a9,v,gl,bA,he,aj,⟨GJ,Tl,ng⟩,jO,GK⟩=>?_;subst he;obtain ⟨GJ,Tm,f4,oZ⟩:=dX.zZ jO ng;have B7:v.K l:=aj.hR l sP;have GL:fL.heap[l]?=some (.loop (fM fn a.tmps ps assign body B .busy .normal)):=(oZ.fF l B7).trans ((aj.fF l sP).trans (World.putObj_heap_same ae9));have Tn:l<fL.heap.size:=(Array.getElem?_eq_some_iff.1 GL).1;have as8:¬Tm l:=λh=>(oZ.iY l h).elim Tj λh=>h B7;generalize hA:(if (sO a9).isNone then LoopState.ready else .done)=gw;refine ae0 GL ?_;rw [hA];have CY:bl { CI with w0:=bb.putObj l (.loop (fM fn a.tmps ps assign body B gw a9)),F0:=F,K0:=λr=>r<bb.heap.size/\(Z r\/¬Y r) } ((sh.st G).cL b8) a (bb.putObj l (.loop (fM fn a.tmps ps assign body B gw a9))) κ F':=
     bc.GG (λ_ h=>h) (λr h=>World.putObj_heap_other λe=>by
      grind) (by simp) ⟨rfl,rfl,rfl⟩ (λr h=>by simpa using h.1) (λ_ _=>rfl) (Nat.le_refl _) (dA.refl _)
    have z4:bb.heap.size<=fL.heap.size:=by
     have M:=hu.size;have aa:=cV.size;have an:=aj.size;have a8:=oZ.size;have M:bb.heap.size<=u.w.heap.size:=M;have aa:u.w.heap.size<=c8.heap.size:=aa;have an:(c8.putObj l (.loop (fM fn a.tmps ps assign body B .busy .normal))).heap.size<=v.w.heap.size:=an;have a8:v.w.heap.size<=fL.heap.size:=a8;simp only [World.putObj_size] at an;omega
    have xW:dA bb fL:=by
     have M:dA bb u.w:=hu.fi;have aa:dA u.w c8:=cV.fi;have an:dA c8 v.w:=⟨aj.fi.os,aj.fi.tape,aj.fi.output⟩
     exact M.trans (aa.trans (an.trans oZ.fi))
    have ae':∀ i,(rout.st bA).aD i=.undef:=λi=>aeZ aS de bA i;have m_:∀ r,(r<(bb.putObj l (.loop (fM fn a.tmps ps assign body B gw a9))).heap.size/\¬ad r/\¬ha r)->(r<bb.heap.size/\¬ad r/\¬ha r):=λr h=>⟨by simpa using h.1,h.2⟩
    have iC:=oZ.vU (w0:=bb.putObj l (.loop (fM fn a.tmps ps assign body B gw a9))) (w':=fL.putObj l (.loop (fM fn a.tmps ps assign body B gw a9))) (F0:=F') (K0:=λr=>r<(bb.putObj l (.loop (fM fn a.tmps ps assign body B gw a9))).heap.size/\¬ad r/\¬ha r) (nt:=0) (dfr:=[]) (r:=none) (sl:=(rout.st bA).aD) (a':={ tmps:=#[],defers:=[] }) rfl rfl (Nat.zero_le _)
     (λi=>by rw [ae'];trivial) (λl aM L n st e=>by grind)
     (λr h=>World.putObj_heap_other λe=>by
      subst e;rcases h with h | ⟨b,M,aa⟩
      ·grind
      ·exact (oZ.ad b M).2.2 (aa ▸ B7)) (by simp) (λr h=>(oZ.iY r h).imp id λh dx=>h (aj.hR r (hu.hR r (m_ r dx)))) oZ.j2 (λr h=>h.1)
     (λr h=>by
      by_cases e:r=l
      ·subst e;rw [World.putObj_heap_same Tn,World.putObj_heap_same Ac]
      ·rw [World.putObj_heap_other e,World.putObj_heap_other e];have M:u.K r:=hu.hR r (m_ r h);exact (oZ.fF r (aj.hR r M)).trans ((aj.fF r M).trans ((World.putObj_heap_other e).trans ((cV.fF r M).trans (hu.fF r (m_ r h))))))
     (λb af h=>(oZ.ad b af).2.2 (aj.hR _ (hu.hR _ (m_ _ h)))) (by simpa using z4) ⟨xW.os,xW.tape,xW.output⟩
    obtain ⟨κn,qB,_⟩:=Lu (bb.putObj l (.loop (fM fn a.tmps ps assign body B gw a9))) (bb.putObj l (.loop (fM fn a.tmps ps assign body B gw a9))) CY ⟨λcP lg fx j4 gw e=>(by
      grind),λr h=>⟨by simpa using (Dk.low r h).1,(Dk.low r h).2⟩,Dk.ad,Dk.Ga⟩ bA [] (fL.putObj l (.loop (fM fn a.tmps ps assign body B gw a9))) GJ Tm iC
    obtain ⟨jv,L4,afa⟩:=uj GK;obtain ⟨κn,afb,_,afc⟩:=dX.zZ L4 qB;exact ⟨a9,jv,κn,afb,(.loop (fM fn a.tmps ps assign body B gw a9)),rfl,A.ez.1 afa,by rw [hA];exact World.putObj_heap_same Tn,afc⟩
   | _=>exact bt.elim
  ·exact hm.1.elim
 ·exact hm.1.elim
theorem To {w:World} {o iz:Obj} {r:Nat} (h:r<w.heap.size):((w.alloc o).alloc iz).heap[r]?=w.heap[r]?:=
 (qk _ _ (by simp;omega)).trans (qk _ _ h)
def afd (C CI:cf) {β:Type} (sh rin rout:dX) (aM:ai) (D:List aM.aq->Prop) (ps:Array Tmp) (assign body:Code) (a:Act) (fn:FuncId) (l B:Nat) (run:aE->A (dc×rout.aq)) (k:dc->aE->A β) (O:β->Prop)
  (st:Bool) (F Y:Nat->Prop) (bb:World):Prop:=
 ∃ (e:dc) (G:sh.aq) (κ:Nat->bD),bl CI (sh.st G) a bb κ F/\bb.heap[l]?=some (.loop (fM fn a.tmps ps assign body B (if st then .done else .ready) e))/\bb.heap[B]?=some (.deferred (some []))/\
  (∀ b,((sh.st G).ag b).body.cd (κ b)=true->Y (κ b).ag/\¬((κ b).ag=l\/(κ b).ag=B))/\Y l/\Y B/\¬F l/\¬F B/\C.P=CI.P/\
  (st=false->e=.normal/\∀ R,D R->A.cp (ju (λG y=>t_ sh rin rout aM ps.toList G y run) R G) λp=>A.cp (k p.1 (sh.st p.2)) O)/\(st=true->e≠.normal/\A.cp (k e (sh.st G)) O)
theorem Tp {C CI:cf} {β:Type} {sh rin rout:dX} {aM:ai} {S:List aM.aq->Prop} {ps:Array Tmp} {assign body:Code} {a:Act} {fn:FuncId} {l B:Nat} {run:aE->A (dc×rout.aq)} {k:dc->aE->A β} {O:β->Prop}
  (kS:CI.K0=λ_=>False) (afe:l≠B) (er:oj sh rout aM ps.toList a.tmps.size=true) (Dj:GH CI.P CI.aZ a.tmps.size assign body l run) :
  EW CI.P (gS CI.P aM) l S λpre=>afd C CI sh rin rout aM (λR=>S (pre++R)) ps assign body a fn l B run k O where
 BE:=λ{pre st F F' Y w w'} h bB heq cH kl j6 Dh=>by
  have hc:dA w w':=⟨kl.1,kl.2.1,kl.2.2⟩
  obtain ⟨e,G,κ,W,M,aa,an,a8,bV,d_,hL,mw,pn⟩:=h;have oQ:(sh.st G).aD b_=.undef:=by
   simp only [oj,Bool.and_eq_true,Bool.not_eq_true'] at er;exact xG sh.b3 de G b_ er.1.1.1.2
  have uo:∀ r,CI.K0 r->False:=λr h=>by grind
  refine ⟨e,G,κ,?_,(heq l (.inr a8)).trans M,(heq B (.inr bV)).trans aa,an,a8,bV,λh=>Dh l h a8,λh=>Dh B h bV,mw,pn⟩;exact W.Th W.eB W.dfr W.hF W.b3 (λcP lg fx j4 gw e=>by have e:(sh.st G).aD b_=.a5 cP lg fx j4 gw:=e;grind)
   (λr bc=>heq r (bc.imp id λ⟨b,af,e⟩=>e ▸ (an b af).1)) cH bB j6 (λb af ax=>Dh _ ax (an b af).1) (λr _=>.inr (uo r)) (λr h=>bB r (W.j2 r h)) (λr h=>(uo r h).elim) (λr h=>(uo r h).elim) (λb _=>uo _)
   (Nat.le_trans W.size cH) (W.fi.trans hc)
 yield:=λ{pre F Y w args x} h j6 Tq au ep=>by
  obtain ⟨uq,L5⟩:=au;obtain ⟨e,G,κ,W,M,aa,an,a8,bV,d_,hL,mw,pn,_⟩:=h;obtain ⟨rfl,hm⟩:=pn rfl;have oQ:∀ G:sh.aq,(sh.st G).aD b_=.undef:=λG=>by
   simp only [oj,Bool.and_eq_true,Bool.not_eq_true'] at er;exact xG sh.b3 de G b_ er.1.1.1.2
  have uo:∀ r,CI.K0 r->False:=λr h=>by grind
  have hm:A.cp (t_ sh rin rout aM ps.toList G x run) λp=>∀ T,S (pre++x::T)->A.cp (match p.1 with
    | .normal=>ju (λG y=>t_ sh rin rout aM ps.toList G y run) T p.2
    | .exit id=>A.pure (.exit id,p.2)
    | .ret=>A.pure (.ret,p.2)) λp=>A.cp (k p.1 (sh.st p.2)) O:=by
   have M:=λT a2=>A.gf.1 (hm (x::T) a2);exact ⟨(M uq L5).1,λy aJ T a2=>(M T a2).2 y aJ⟩
  obtain ⟨tmps,aJ,aff⟩:=ae1 (Z:=λr=>r=l\/r=B) (.inl rfl) W er Dj hm M d_ an ep;refine ⟨fn,tmps,assign,body,aJ,aff.mono λa9 n7 ⟨dC,jv,κ',F',o,he,GK,vW,bc⟩=>?_⟩;have Ac:l<w.heap.size:=(Tq l a8).1;have L6:B<w.heap.size:=(Tq B bV).1;have ek:∀ r,F r->F' r:=bc.j2;have ht:∀ r,F' r->F r\/Y r\/w.heap.size<=r:=λr cV=>by
   rcases bc.iY r cV with h | h
   ·exact .inl h
   ·by_cases cq:r<w.heap.size
    ·by_cases aJ:Y r
     ·exact .inr (.inl aJ)
     ·exact (h ⟨cq,.inr aJ⟩).elim
    ·exact .inr (.inr (Nat.le_of_not_lt cq))
  have Tr:∀ r,r<w.heap.size->¬F r->(r=l\/r=B)->¬F' r:=λr cq ax bm rN=>(bc.iY r rN).elim ax λh=>h ⟨cq,.inl bm⟩;have Ts:¬F' l:=Tr l Ac d_ (.inl rfl);have vR:¬F' B:=Tr B L6 hL (.inr rfl);have Tt:∀ b,((sh.st jv).ag b).body.cd (κ' b)=true->¬((κ' b).ag=l\/(κ' b).ag=B)/\(Y (κ' b).ag\/w.heap.size<=(κ' b).ag):=λb af=>by
   have ak:=(bc.ad b af).2.2;grind
  have GM:w.heap.size<=n7.heap.size:=by have:=bc.size;simpa using this
  have gc:dA w n7:=⟨bc.fi.os,bc.fi.tape,bc.fi.output⟩
  have as9:∀ T,pre++[x]++T=pre++x::T:=λT=>by simp
  refine ⟨(sO dC).isNone,F',λr=>(∃ b,((sh.st jv).ag b).body.cd (κ' b)=true/\(κ' b).ag=r)\/r=l\/r=B,he,ek,ht,bc.dM,λr cq aJ=>?_,λr cV=>?_,GM,⟨gc.os,gc.tape,gc.output⟩,?_⟩
  ·have cI:r≠l:=λe=>aJ (e ▸ a8);exact (bc.fF r ⟨cq,.inr aJ⟩).trans (World.putObj_heap_other cI)
  ·rcases cV with ⟨b,af,rfl⟩ | rfl | rfl
   ·exact ⟨(Tt b af).2,(bc.ad b af).1,(bc.ad b af).2.1⟩
   ·exact ⟨.inl a8,Nat.lt_of_lt_of_le Ac GM,Ts⟩
   ·exact ⟨.inl bV,Nat.lt_of_lt_of_le L6 GM,vR⟩
  ·refine ⟨dC,jv,κ',?_,?_,?_,λb af=>⟨.inl ⟨b,af,rfl⟩,(Tt b af).1⟩,.inr (.inl rfl),.inr (.inr rfl),Ts,vR,mw,λhA=>?_,λhA=>?_⟩
   ·exact bc.vU bc.eB bc.dfr bc.hF bc.b3 (λcP lg fx j4 gw e=>by have e:(sh.st jv).aD b_=.a5 cP lg fx j4 gw:=e;grind) (λ_ _=>rfl) (Nat.le_refl _) (λr _=>.inr (uo r)) (λr h=>ek r (W.j2 r h))
     (λr h=>(uo r h).elim) (λr h=>(uo r h).elim) (λb _=>uo _) (Nat.le_trans W.size GM) (W.fi.trans gc)
   ·grind
   ·exact (bc.fF B ⟨L6,.inl (.inr rfl)⟩).trans ((World.putObj_heap_other (Ne.symm afe)).trans aa)
   ·cases dC with
    | normal=>grind
    | _=>cases hA
   ·cases dC with
    | normal=>cases hA
    | exit id=>exact ⟨by simp,(GK uq L5).2 _ rfl⟩
    | ret=>exact ⟨by simp,(GK uq L5).2 _ rfl⟩
theorem Tu {P:Program} {l:Nat} {aM:ai} {S:List aM.aq->Prop} {I:List aM.aq->Bool->(Nat->Prop)->(Nat->Prop)->World->Prop} (h:EW P (gS P aM) l S I):mB.k6 P ⟨l,aM,S,I⟩ where
 BE:=λM aa an a8 bV d_ hL=>h.BE M aa an a8 ⟨bV.os,bV.tape,bV.output⟩ d_ hL
 yield:=λM aa an a8 bV=>YieldAt.mono (h.yield M aa an a8 bV) λ_ _ ⟨b,F',ha,aS,aY,bK,fe,rv,CU,Tv,Dl,L7⟩=>⟨b,F',ha,aS,aY,bK,fe,rv,CU,Tv,⟨Dl.1,Dl.2.1,Dl.2.2⟩,L7⟩
end Go.Fer
namespace Go.Fer
open Go.RowKit
theorem afg {C:cf} (ks:C.r=none) {β:Type} {s:aE} {a:Act} {w:World} (W:cG C s a w) {g:Operand} {ps:Array Tmp} {assign body:Code} {rJ n:Nat} {fr:Nat->aP} (aL:a_ C.aZ s.aD g=.sc rJ n fr) {ic:xt} (Tw:z7 C.P rJ ic)
    {x:ic.ts.aq} {b8:List Nat} (au:(j3 ic.ts ((List.range n).map fr)).run s.ag=some (x,b8)) {sh rin rout:dX} (er:oj sh rout ic.aM ps.toList C.nt=true) {ot:sh.aq} (om:sh.kp (s.cL b8)=some ot) (hh:ic.pre x)
    {run:aE->A (dc×rout.aq)} {k:dc->aE->A β} {O:β->Prop} (hm:A.cp (ju (λG y=>t_ sh rin rout ic.aM ps.toList G y run) (ic.seq x) ot) λp=>A.cp (k p.1 (sh.st p.2)) O)
    (Dj:∀ l,GH C.P C.aZ C.nt assign body l run) {Q:Exit->Act->World->Prop}
    (ak:∀ u,C.kU u->∀ e s' a' w',cG (C.h6 u) s' a' w'->A.cp (k e s') O->Q e.qx a' w'):(Code.rangeFunc g ps assign body).wpIn (eX C.r) 0 C.P Q a w:=by
  obtain ⟨κ,F,W⟩:=W;obtain ⟨F1,f1,g5,f2⟩:=bl.mH (qt _ au) W;obtain ⟨κ,F2,f3,cV⟩:=dX.zZ om g5;have aj:=kN W g;rw [aL] at aj;obtain ⟨aH,si,kJ,as_⟩:=aj;have afh:gS C.P ic.ts F1 w aH x:=vF W.bI f1 ic.ts au f2 (by grind) λi U eA=>by
    grind
  have oQ:∀ G:sh.aq,(sh.st G).aD b_=.undef:=λG=>by
    simp only [oj,Bool.and_eq_true,Bool.not_eq_true'] at er;exact xG sh.b3 de G b_ er.1.1.1.2
  rw [ks];refine wpIn_rangeFunc λfn _=>?_;have a6:w.heap.size<((w.alloc (.deferred (some []))).alloc (.loop (fM fn a.tmps ps assign body w.heap.size .ready .normal))).heap.size:=by simp;omega
  have aw:w.heap.size+1<((w.alloc (.deferred (some []))).alloc (.loop (fM fn a.tmps ps assign body w.heap.size .ready .normal))).heap.size:=by simp
  have Dm:((w.alloc (.deferred (some []))).alloc (.loop (fM fn a.tmps ps assign body w.heap.size .ready .normal))).heap[w.heap.size+1]?=some (.loop (fM fn a.tmps ps assign body w.heap.size .ready .normal)):=by
    have:=ri (w.alloc (.deferred (some []))) (.loop (fM fn a.tmps ps assign body w.heap.size .ready .normal));simp_all
  have Dn:((w.alloc (.deferred (some []))).alloc (.loop (fM fn a.tmps ps assign body w.heap.size .ready .normal))).heap[w.heap.size]?=some (.deferred (some [])):=
    (qk _ _ (by simp)).trans (ri w _)
  have ur:∀ r,r<w.heap.size->((w.alloc (.deferred (some []))).alloc (.loop (fM fn a.tmps ps assign body w.heap.size .ready .normal))).heap[r]?=w.heap[r]?:=λr h=>To h;have Dp:(Instr.enterLoop fn a.tmps ps assign body none).run C.P w=.ok (w.heap.size+1,[oY w.heap.size]) ((w.alloc (.deferred (some []))).alloc (.loop (fM fn a.tmps ps assign body w.heap.size .ready .normal))):=run_enterLoop_outer fn a.tmps ps assign body;have xV:dA w ((w.alloc (.deferred (some []))).alloc (.loop (fM fn a.tmps ps assign body w.heap.size .ready .normal))):=⟨rfl,rfl,rfl⟩
  have L8:((w.alloc (.deferred (some []))).alloc (.loop (fM fn a.tmps ps assign body w.heap.size .ready .normal))).heap.size=w.heap.size+2:=by simp
  generalize (w.alloc (.deferred (some []))).alloc (.loop (fM fn a.tmps ps assign body w.heap.size .ready .normal))=cn at a6 aw Dm Dn ur Dp xV L8;have rM:c6 F2 w cn:=⟨by omega,λr h=>ur r (cV.dM r h)⟩
  have ep:gS C.P ic.ts F2 cn aH x:=(afh.mono f3 (c6.refl _ _)).mono (λ_ h=>h) rM;have fs:bl { C with w0:=cn,F0:=F2,K0:=λ_=>False } (sh.st ot) a cn κ F2:=
    cV.vU cV.eB cV.dfr cV.hF cV.b3 (λcP lg fx j4 gw e=>by have e:(sh.st ot).aD b_=.a5 cP lg fx j4 gw:=e;grind)
      (λr h=>ur r (by
        rcases h with h | ⟨b,af,rfl⟩
        · exact cV.dM r h
        · exact (cV.ad b af).1)) (by omega) (λ_ h=>.inl h) (λ_ h=>h) (λ_ h=>h.elim) (λ_ h=>h.elim) (λ_ _ h=>h) (Nat.le_refl _) (dA.refl _)
  have L9:=Tu (Tp (S:=λT=>T=ic.seq x) (C:=C) (CI:={ C with w0:=cn,F0:=F2,K0:=λ_=>False }) (sh:=sh) (rin:=rin) (rout:=rout) (ps:=ps) (assign:=assign) (body:=body) (a:=a) (fn:=fn) (l:=w.heap.size+1) (B:=w.heap.size) (run:=run) (k:=k) (O:=O)
    rfl (by omega) (by rw [W.eB];omega) (by rw [W.eB];grind))
  have dr:∀ b,((sh.st ot).ag b).body.cd (κ b)=true->¬((κ b).ag=w.heap.size+1\/(κ b).ag=w.heap.size):=λb af h=>by
    have:=(cV.ad b af).1;omega
  have vY:=Tw.mZ (w.heap.size+1) _ F2 (λr=>(∃ b,((sh.st ot).ag b).body.cd (κ b)=true/\(κ b).ag=r)\/r=w.heap.size+1\/r=w.heap.size) cn aH x ep hh L9 (λr h=>fs.dM r h)
    (λr h=>by
      rcases h with ⟨b,af,rfl⟩ | rfl | rfl
      · exact ⟨(fs.ad b af).1,(fs.ad b af).2.1⟩
      · exact ⟨aw,λh=>by have:=cV.dM _ h;omega⟩
      · exact ⟨a6,λh=>by have:=cV.dM _ h;omega⟩)
    ⟨.normal,ot,κ,fs,Dm,Dn,λb af=>⟨.inl ⟨b,af,rfl⟩,dr b af⟩,.inr (.inl rfl),.inr (.inr rfl),λh=>by have:=cV.dM _ h;omega,λh=>by have:=cV.dM _ h;omega,rfl,λ_=>⟨rfl,λR vV=>by grind⟩,λh=>by cases h⟩
  refine ⟨w.heap.size+1,[oY w.heap.size],cn,{ target:=.fn (.func rJ) #[],args:=aH.toArray++#[.func (.yield (w.heap.size+1)) #[] #[]] },cn,rJ,(aH++[Value.func (.yield (w.heap.size+1)) #[] #[]]).toArray,cn,Dp,?_,λ_ _=>trivial,?_,λh=>(by cases h),callsIn_wide.2 (vY.mono λe fL ⟨v,j4,st,F',ha,he,hA,hinv,ek,ht,iD,nc,sH,xJ,vP⟩=>?_)⟩
  · have e:a.eval (.const (.func (.yield (w.heap.size+1)) #[] #[]))=.func (.yield (w.heap.size+1)) #[] #[]:=rfl
    simp [resolve,si,Deferred.ofValue,e]
  · have:=Tw.enter (aH++[Value.func (.yield (w.heap.size+1)) #[] #[]]).toArray cn
    simpa [invoke] using this
  subst he;obtain ⟨e,G,κ',ng,M,aa,an,a8,bV,d_,hL,_,mw,pn⟩:=hinv;refine ⟨sO e,_,run_endLoop M (by cases st<;>simp [fM]),?_⟩;have GL:w.heap.size+1<fL.heap.size:=(Array.getElem?_eq_some_iff.1 M).1;generalize be:Obj.loop _=cD;have iC:A.cp (k e (sh.st G)) O:=by
    cases st with
    | true=>grind
    | false=>
      obtain ⟨rfl,fK⟩:=mw rfl;exact (fK [] (show j4++[]=ic.seq x by grind)).2 _ rfl
  have vO:∀ r,C.K0 r->r<w.heap.size:=λr h=>Nat.lt_of_lt_of_le (W.jI r h) W.size;have um:∀ r,C.K0 r->(fL.putObj (w.heap.size+1) cD).heap[r]?=C.w0.heap[r]?:=λr h=>by
    have cq:=vO r h;rw [World.putObj_heap_other (by omega),nc r (by omega) λaJ=>?_,ur r cq]
    · exact W.fF r h
    · rcases aJ with ⟨b,af,rfl⟩ | rfl | rfl
      · exact (cV.ad b af).2.2 h
      · omega
      · omega
  have xW:dA C.w0 (fL.putObj (w.heap.size+1) cD):=by
    have:=(W.fi.trans xV).trans vP;exact ⟨this.os,this.tape,this.output⟩
  have Ae:C.kU ⟨fL.putObj (w.heap.size+1) cD,λr=>C.K0 r\/r=w.heap.size,[w.heap.size]⟩:=
    { sN := λB a6 => by
        have:B=w.heap.size:=by grind
        subst this;exact ⟨.inr rfl,(World.putObj_heap_other (by omega)).trans aa⟩
      e7:=λB a6=>by
        have:B=w.heap.size:=by grind
        subst this;exact ⟨λh=>by grind,W.size⟩
      nM:=by simp
      hR:=λ_ h=>.inl h
      fF:=um
      size:=by have:=W.size;simp;omega
      fi:=xW }
  have qB:cG (C.h6 ⟨fL.putObj (w.heap.size+1) cD,λr=>C.K0 r\/r=w.heap.size,[w.heap.size]⟩) (sh.st G) { a with defers:=[oY w.heap.size]++a.defers } (fL.putObj (w.heap.size+1) cD):=by
    have L_:∀ r,F' r->C.F0 r\/¬(C.K0 r\/r=w.heap.size):=λr bc=>by
      rcases ht r bc with h | h | h
      · rcases cV.iY r h with dx | dx
        · exact .inl dx
        · exact .inr λak=>ak.elim dx λe=>by have:=cV.dM r h;omega
      · rcases h with ⟨b,af,rfl⟩ | rfl | rfl
        · exact .inr λak=>ak.elim (cV.ad b af).2.2 λe=>dr b af (.inr e)
        · exact (d_ bc).elim
        · exact (hL bc).elim
      grind
    refine ⟨κ',F',ng.vU (r:=C.r) ng.eB (by show [oY w.heap.size]++a.defers=_;rw [W.dfr];rfl) ng.hF ng.b3 (λcP lg fx j4 gw e=>by have e:(sh.st G).aD b_=.a5 cP lg fx j4 gw:=e;grind)
      (λr h=>World.putObj_heap_other λe=>by
        grind) (by simp) L_ (λr h=>ek r (cV.j2 r h)) (λr h=>?_) (λ_ _=>rfl) (λb af h=>?_) (Nat.le_refl _) (dA.refl _)⟩
    · simp only [World.putObj_size]
      grind
    · rcases h with h | h
      · rcases (sH _ (an b af).1).1 with aJ | aJ
        · rcases aJ with ⟨bg,dq,e⟩ | e | e
          · exact (cV.ad bg dq).2.2 (e ▸ h)
          · exact (an b af).2 (.inl e)
          · exact (an b af).2 (.inr e)
        grind
      grind
  have bt:=ak _ Ae e _ _ _ qB iC;cases e with
  | normal=>exact bt
  | exit id=>exact wpIn_exit bt
  | ret=>exact wpIn_ret bt
theorem afi {C:cf} (ks:C.r=none) {β:Type} {s:aE} {a:Act} {w:World} (W:cG C s a w) {g:Operand} {ps:Array Tmp} {assign body:Code} {aM:ai} {S:List aM.aq->Prop} (aL:a_ C.aZ s.aD g=.val (.cj aM) S)
    {sh rin rout:dX} (er:oj sh rout aM ps.toList C.nt=true) {ot:sh.aq} (om:sh.kp s=some ot) (cI:∃ L,S L)
    {run:aE->A (dc×rout.aq)} {k:dc->aE->A β} {O:β->Prop} (hm:∀ L,S L->A.cp (ju (λG y=>t_ sh rin rout aM ps.toList G y run) L ot) λp=>A.cp (k p.1 (sh.st p.2)) O)
    (Dj:∀ l,GH C.P C.aZ C.nt assign body l run) {Q:Exit->Act->World->Prop}
    (ak:∀ u,C.kU u->∀ e s' a' w',cG (C.h6 u) s' a' w'->A.cp (k e s') O->Q e.qx a' w'):(Code.rangeFunc g ps assign body).wpIn (eX C.r) 0 C.P Q a w:=by
  obtain ⟨κ,F,W⟩:=W;obtain ⟨κ,F2,f3,cV⟩:=dX.zZ om W;have aj:=kN W g;rw [aL] at aj;have si:=gp _ f3 (c6.refl _ _) ((fa rfl).1 aj).2;simp only [bM] at si;obtain ⟨u,hu,_,afj⟩:=si;have hu:=(List.cons.inj hu).1;have oQ:∀ G:sh.aq,(sh.st G).aD b_=.undef:=λG=>by
    simp only [oj,Bool.and_eq_true,Bool.not_eq_true'] at er;exact xG sh.b3 de G b_ er.1.1.1.2
  rw [ks];refine wpIn_rangeFunc λfn _=>?_;have a6:w.heap.size<((w.alloc (.deferred (some []))).alloc (.loop (fM fn a.tmps ps assign body w.heap.size .ready .normal))).heap.size:=by simp;omega
  have aw:w.heap.size+1<((w.alloc (.deferred (some []))).alloc (.loop (fM fn a.tmps ps assign body w.heap.size .ready .normal))).heap.size:=by simp
  have Dm:((w.alloc (.deferred (some []))).alloc (.loop (fM fn a.tmps ps assign body w.heap.size .ready .normal))).heap[w.heap.size+1]?=some (.loop (fM fn a.tmps ps assign body w.heap.size .ready .normal)):=by
    have:=ri (w.alloc (.deferred (some []))) (.loop (fM fn a.tmps ps assign body w.heap.size .ready .normal));simp_all
  have Dn:((w.alloc (.deferred (some []))).alloc (.loop (fM fn a.tmps ps assign body w.heap.size .ready .normal))).heap[w.heap.size]?=some (.deferred (some [])):=
    (qk _ _ (by simp)).trans (ri w _)
  have ur:∀ r,r<w.heap.size->((w.alloc (.deferred (some []))).alloc (.loop (fM fn a.tmps ps assign body w.heap.size .ready .normal))).heap[r]?=w.heap[r]?:=λr h=>To h;have Dp:(Instr.enterLoop fn a.tmps ps assign body none).run C.P w=.ok (w.heap.size+1,[oY w.heap.size]) ((w.alloc (.deferred (some []))).alloc (.loop (fM fn a.tmps ps assign body w.heap.size .ready .normal))):=run_enterLoop_outer fn a.tmps ps assign body;have xV:dA w ((w.alloc (.deferred (some []))).alloc (.loop (fM fn a.tmps ps assign body w.heap.size .ready .normal))):=⟨rfl,rfl,rfl⟩
  have L8:((w.alloc (.deferred (some []))).alloc (.loop (fM fn a.tmps ps assign body w.heap.size .ready .normal))).heap.size=w.heap.size+2:=by simp
  generalize (w.alloc (.deferred (some []))).alloc (.loop (fM fn a.tmps ps assign body w.heap.size .ready .normal))=cn at a6 aw Dm Dn ur Dp xV L8;have rM:c6 F2 w cn:=⟨by omega,λr h=>ur r (cV.dM r h)⟩
  have fs:bl { C with w0:=cn,F0:=F2,K0:=λ_=>False } (sh.st ot) a cn κ F2:=
    cV.vU cV.eB cV.dfr cV.hF cV.b3 (λcP lg fx j4 gw e=>by have e:(sh.st ot).aD b_=.a5 cP lg fx j4 gw:=e;grind)
      (λr h=>ur r (by
        rcases h with h | ⟨b,af,rfl⟩
        · exact cV.dM r h
        · exact (cV.ad b af).1)) (by omega) (λ_ h=>.inl h) (λ_ h=>h) (λ_ h=>h.elim) (λ_ h=>h.elim) (λ_ _ h=>h) (Nat.le_refl _) (dA.refl _)
  have L9:=Tp (S:=S) (C:=C) (CI:={ C with w0:=cn,F0:=F2,K0:=λ_=>False }) (sh:=sh) (rin:=rin) (rout:=rout) (ps:=ps) (assign:=assign) (body:=body) (a:=a) (fn:=fn) (l:=w.heap.size+1) (B:=w.heap.size) (run:=run) (k:=k) (O:=O)
    rfl (by omega) (by rw [W.eB];omega) (by rw [W.eB];grind)
  have dr:∀ b,((sh.st ot).ag b).body.cd (κ b)=true->¬((κ b).ag=w.heap.size+1\/(κ b).ag=w.heap.size):=λb af h=>by
    have:=(cV.ad b af).1;omega
  obtain ⟨rJ,caps,afk,sE,Lg⟩:=afj F2 cn (λ_ h=>h) rM (λr h=>fs.dM r h) cI;have vY:=Lg (w.heap.size+1) _ (λr=>(∃ b,((sh.st ot).ag b).body.cd (κ b)=true/\(κ b).ag=r)\/r=w.heap.size+1\/r=w.heap.size)
    (λr h=>by
      rcases h with ⟨b,af,rfl⟩ | rfl | rfl
      · exact ⟨(fs.ad b af).1,(fs.ad b af).2.1⟩
      · exact ⟨aw,λh=>by have:=cV.dM _ h;omega⟩
      · exact ⟨a6,λh=>by have:=cV.dM _ h;omega⟩)
    L9 ⟨.normal,ot,κ,fs,Dm,Dn,λb af=>⟨.inl ⟨b,af,rfl⟩,dr b af⟩,.inr (.inl rfl),.inr (.inr rfl),λh=>by have:=cV.dM _ h;omega,λh=>by have:=cV.dM _ h;omega,rfl,λ_=>⟨rfl,λR vV=>hm R vV⟩,λh=>by cases h⟩
  refine ⟨w.heap.size+1,[oY w.heap.size],cn,{ target:=.fn (.func rJ) caps,args:=#[.func (.yield (w.heap.size+1)) #[] #[]] },cn,rJ,#[Value.func (.yield (w.heap.size+1)) #[] #[]]++caps,cn,Dp,?_,λ_ _=>trivial,?_,λh=>(by cases h),callsIn_wide.2 (vY.mono λe fL ⟨v,pre,st,F',ha,he,hA,hinv,ek,ht,iD,nc,sH,xJ,L'⟩=>?_)⟩
  · have e:a.eval (.const (.func (.yield (w.heap.size+1)) #[] #[]))=.func (.yield (w.heap.size+1)) #[] #[]:=rfl
    simp [resolve,hu,afk,Deferred.ofValue,e]
  · have:=sE (#[Value.func (.yield (w.heap.size+1)) #[] #[]]++caps) cn
    simpa [invoke] using this
  have vP:dA cn fL:=⟨L'.1,L'.2.1,L'.2.2⟩
  subst he;obtain ⟨e,G,κ',ng,M,aa,an,a8,bV,d_,hL,_,mw,pn⟩:=hinv;refine ⟨sO e,_,run_endLoop M (by cases st<;>simp [fM]),?_⟩;have GL:w.heap.size+1<fL.heap.size:=(Array.getElem?_eq_some_iff.1 M).1;generalize be:Obj.loop _=cD;have iC:A.cp (k e (sh.st G)) O:=by
    cases st with
    | true=>grind
    | false=>
      obtain ⟨rfl,fK⟩:=mw rfl;exact (fK [] (show S (pre++[]) by grind)).2 _ rfl
  have vO:∀ r,C.K0 r->r<w.heap.size:=λr h=>Nat.lt_of_lt_of_le (W.jI r h) W.size;have um:∀ r,C.K0 r->(fL.putObj (w.heap.size+1) cD).heap[r]?=C.w0.heap[r]?:=λr h=>by
    have cq:=vO r h;rw [World.putObj_heap_other (by omega),nc r (by omega) λaJ=>?_,ur r cq]
    · exact W.fF r h
    · rcases aJ with ⟨b,af,rfl⟩ | rfl | rfl
      · exact (cV.ad b af).2.2 h
      · omega
      · omega
  have xW:dA C.w0 (fL.putObj (w.heap.size+1) cD):=by
    have:=(W.fi.trans xV).trans vP;exact ⟨this.os,this.tape,this.output⟩
  have Ae:C.kU ⟨fL.putObj (w.heap.size+1) cD,λr=>C.K0 r\/r=w.heap.size,[w.heap.size]⟩:=
    { sN := λB a6 => by
        have:B=w.heap.size:=by grind
        subst this;exact ⟨.inr rfl,(World.putObj_heap_other (by omega)).trans aa⟩
      e7:=λB a6=>by
        have:B=w.heap.size:=by grind
        subst this;exact ⟨λh=>by grind,W.size⟩
      nM:=by simp
      hR:=λ_ h=>.inl h
      fF:=um
      size:=by have:=W.size;simp;omega
      fi:=xW }
  have qB:cG (C.h6 ⟨fL.putObj (w.heap.size+1) cD,λr=>C.K0 r\/r=w.heap.size,[w.heap.size]⟩) (sh.st G) { a with defers:=[oY w.heap.size]++a.defers } (fL.putObj (w.heap.size+1) cD):=by
    have L_:∀ r,F' r->C.F0 r\/¬(C.K0 r\/r=w.heap.size):=λr bc=>by
      rcases ht r bc with h | h | h
      · rcases cV.iY r h with dx | dx
        · exact .inl dx
        · exact .inr λak=>ak.elim dx λe=>by have:=cV.dM r h;omega
      · rcases h with ⟨b,af,rfl⟩ | rfl | rfl
        · exact .inr λak=>ak.elim (cV.ad b af).2.2 λe=>dr b af (.inr e)
        · exact (d_ bc).elim
        · exact (hL bc).elim
      grind
    refine ⟨κ',F',ng.vU (r:=C.r) ng.eB (by show [oY w.heap.size]++a.defers=_;rw [W.dfr];rfl) ng.hF ng.b3 (λcP lg fx j4 gw e=>by have e:(sh.st G).aD b_=.a5 cP lg fx j4 gw:=e;grind)
      (λr h=>World.putObj_heap_other λe=>by
        grind) (by simp) L_ (λr h=>ek r (cV.j2 r h)) (λr h=>?_) (λ_ _=>rfl) (λb af h=>?_) (Nat.le_refl _) (dA.refl _)⟩
    · simp only [World.putObj_size]
      grind
    · rcases h with h | h
      · rcases (sH _ (an b af).1).1 with aJ | aJ
        · rcases aJ with ⟨bg,dq,e⟩ | e | e
          · exact (cV.ad bg dq).2.2 (e ▸ h)
          · exact (an b af).2 (.inl e)
          · exact (an b af).2 (.inr e)
        grind
      grind
  have bt:=ak _ Ae e _ _ _ qB iC;cases e with
  | normal=>exact bt
  | exit id=>exact wpIn_exit bt
  | ret=>exact wpIn_ret bt
end Go.Fer
namespace Go.Fer
open Go.RowKit
open A (ab)
section
variable {F:Fence} {n:Nat} {P:Program} {Q:Exit->Act->World->Prop} {a:Act} {w:World}
theorem afl {c:Code} {GN β:Type} {body:GN->A (ab GN β)} {O:β->Prop} (I:GN->Act->World->Prop)
  (round:∀ G a w,I G a w->(body G).dU->(∀ r,(body G).bP (.done r)->O r)->c.wpIn F n P (Exit.then (λa' w'=>∃ jv,(body G).bP (.next jv)/\I jv a' w') Q) a w)
  {G:GN} (aA:A.BC body G) (al:∀ r,A.y2 body G r->O r) (fs:I G a w):(Code.loop c).wpIn F n P Q a w:=by
 intro b k cs vZ af W;have key:∀ G,A.BC body G->(∀ r,A.y2 body G r->O r)->∀ a w,I G a w->
   ∃ e a' w',Q e a' w'/\ArrivesIn (Machine.fenced P F) P (lone (b.atR a (.code c::.inLoop c::k)) cs w) b k cs e a' w':=by
  intro G aA;induction aA with
  | mk G h _ aO=>
   intro al a w fs;obtain ⟨e,mP,mQ,bt,fI⟩:=round G a w fs h (λr W=>al r (.done _ _ W)) b (.inLoop c::k) cs vZ af W;cases e with
   | normal=>
    obtain ⟨jv,uu,afm⟩:=bt;obtain ⟨Ma,Mb,Mc,Md,Me⟩:=aO jv uu (λr W=>al r (.next _ _ _ uu W)) mP mQ afm;exact ⟨Ma,Mb,Mc,Md,.of_steps (StepsIn.trans fI (.one (fenced_calm af W rfl) stepR_inLoop)) Me⟩
   | exit id=>exact ⟨_,mP,mQ,bt,.pass (x:=.inLoop c) rfl (λ_ _=>.inl (by simp)) fI⟩
   | goto l=>exact ⟨_,mP,mQ,bt,.pass (x:=.inLoop c) rfl (λ_ _=>.inl (by simp)) fI⟩
   | ret=>exact ⟨_,mP,mQ,bt,.pass (x:=.inLoop c) rfl (λ_ _=>.inl (by simp)) fI⟩
   | panic Mf=>exact ⟨_,mP,mQ,bt,.pass (x:=.inLoop c) rfl (λ_ _=>.inl (by simp)) fI⟩
   | outgrown=>exact ⟨_,mP,mQ,bt,.pass (x:=.inLoop c) rfl (λ_ _=>.inl (by simp)) fI⟩
 obtain ⟨e,a',w',bt,fI⟩:=key G aA al a w fs;exact ⟨e,a',w',bt,.of_steps (.one (fenced_calm af W rfl) stepR_loop) fI⟩
theorem afn {p q:Prop} (bt:q) (h:q->p):p/\q:=⟨h bt,bt⟩
def GO (F:Fence) (n:Nat) (P:Program) (c:Code) (Q:Exit->Act->World->Prop) (a:Act) (w:World):Prop:=
 ∀ (b:Frame) (k:List Item) (cs:List Frame),b.roundOf=F.round->F.fn b.fn->F.room (cs.length+1+n)->
  ∃ e a' w',Q e a' w'/\ArrivesIn (Machine.fenced P F) P (lone (b.atR a (.code c::.inLoop c::k)) cs w) b k cs e a' w'
theorem afo {c:Code} (h:GO F n P c Q a w):(Code.loop c).wpIn F n P Q a w:=λb k cs vZ af W=>by
 obtain ⟨e,a',w',bt,fI⟩:=h b k cs vZ af W;exact ⟨e,a',w',bt,.of_steps (.one (fenced_calm af W rfl) stepR_loop) fI⟩
theorem afp {c:Code} (h:c.wpIn F n P (Exit.then (λa' w'=>GO F n P c Q a' w') Q) a w):GO F n P c Q a w:=λb k cs vZ af W=>by
 obtain ⟨e,mP,mQ,bt,fI⟩:=h b (.inLoop c::k) cs vZ af W;cases e with
 | normal=>
  obtain ⟨Ma,Mb,Mc,Md,Me⟩:=bt b k cs vZ af W;exact ⟨Ma,Mb,Mc,Md,.of_steps (StepsIn.trans fI (.one (fenced_calm af W rfl) stepR_inLoop)) Me⟩
 | exit id=>exact ⟨_,mP,mQ,bt,.pass (x:=.inLoop c) rfl (λ_ _=>.inl (by simp)) fI⟩
 | goto l=>exact ⟨_,mP,mQ,bt,.pass (x:=.inLoop c) rfl (λ_ _=>.inl (by simp)) fI⟩
 | ret=>exact ⟨_,mP,mQ,bt,.pass (x:=.inLoop c) rfl (λ_ _=>.inl (by simp)) fI⟩
 | panic Mf=>exact ⟨_,mP,mQ,bt,.pass (x:=.inLoop c) rfl (λ_ _=>.inl (by simp)) fI⟩
 | outgrown=>exact ⟨_,mP,mQ,bt,.pass (x:=.inLoop c) rfl (λ_ _=>.inl (by simp)) fI⟩
theorem Af {b:Frame} {k:List Item} {cs:List Frame} {c:Code}:step P (lone (b.atR a (.code (.scope c)::k)) cs w)=.next (lone (b.atR a (.code c::.inScope c::k)) cs w):=
 step_lone_go (by rfl)
theorem afq {b:Frame} {k:List Item} {cs:List Frame} {c:Code}:step P (lone (b.atR a (.inScope c::k)) cs w)=.next (lone (b.atR a k) cs w):=
 step_lone_go (by rfl)
theorem afr {c:Code} (h:c.wpIn F n P (Exit.noGoto Q) a w):(Code.scope c).wpIn F n P Q a w:=by
 intro b k cs vZ af W;have aW:(lone (b.atR a (.code (.scope c)::k)) cs w).fenced P F:=fenced_calm af W rfl;obtain ⟨e,mP,mQ,bt,fI⟩:=h b (.inScope c::k) cs vZ af W;cases e with
 | normal=>exact ⟨.normal,mP,mQ,bt,.head aW Af (StepsIn.trans fI (.one (fenced_calm af W rfl) afq))⟩
 | exit id=>
  have au:exitTo id (.inScope c::k)=exitTo id k:=by rfl
  exact ⟨.exit id,mP,mQ,bt,λk' ak=>.head aW Af (fI.1 k' (by grind)),λbc ak=>let ⟨k₁,M,aa⟩:=fI.2 bc (by grind);⟨k₁,M,.head aW Af aa⟩⟩
 | goto l=>exact bt.elim
 | ret=>exact ⟨.ret,mP,mQ,bt,.of_steps (.one aW Af) fI⟩
 | panic Mf=>exact ⟨.panic Mf,mP,mQ,bt,.of_steps (.one aW Af) fI⟩
 | outgrown=>exact ⟨.outgrown,mP,mQ,bt,.of_steps (.one aW Af) fI⟩
end
section
variable {T:Nat->ai} {bd:Nat->Option aU} {Ψ:Nat->Option iA}
def Mg {G β:Type} (m:A (ab G β)) (O:β->Prop) (st:ab G β):Prop:=
 match st with
 | .next s=>m.bP (.next s)
 | .done r=>O r
theorem afs:∀ (ann:dS),(∀ (C:cf) (_:C.P.follows .mixedOrders=true) (_:eO C.P T) (_:kP C.P bd) (_:nK C.P C.aZ Ψ) (_:C.r=none\/ann.e8=true) {β:Type} (c:Code) (s:aE) (k:dc->aE->A β) (O:β->Prop) (Q:Exit->Act->World->Prop) (a:Act) (w:World),mN C.nt c=true->cG C s a w->A.cp (fZ C.aZ T bd Ψ ann c s k) O->(∀ u,C.kU u->∀ e s' a' w',cG (C.h6 u) s' a' w'->A.cp (k e s') O->Q e.qx a' w')->c.wpIn (eX C.r) 0 C.P Q a w)/\(ann.rI=true->∀ (C:cf) (_:C.P.follows .mixedOrders=true) (_:eO C.P T) (_:kP C.P bd) (_:nK C.P C.aZ Ψ) (_:C.r=none\/ann.e8=true) {β:Type} (c:Code) (s:aE) (k:dc->aE->A β) (O:β->Prop) (Q:Exit->Act->World->Prop) (a:Act) (w:World),mN C.nt c=true->cG C s a w->A.cp (fZ C.aZ T bd Ψ ann (.loop c) s k) O->(∀ u,C.kU u->∀ e s' a' w',cG (C.h6 u) s' a' w'->A.cp (k e s') O->Q e.qx a' w')->GO (eX C.r) 0 C.P c Q a w):=by
 intro ann;induction ann with
 | fS=>
  refine ⟨?_,λ_ C fu a2 c0 dY gW β c s k O Q a w hc W hm ak=>by unfold fZ at hm;exact (h7 hm).elim⟩;intro C fu a2 c0 dY gW β c s k O Q a w hc W hm ak;unfold fZ at hm;split at hm
  ·rename_i id ops draw;cases draw with
   | true=>exact aeX fu a2 (aee c0 dY) dY (λo al=>List.all_eq_true.1 hc o al) (λs' a' w' bc fK=>ak C.ik C.xU .normal s' a' w' bc fK) W hm
   | false=>
    refine wpIn_region ?_;have:=LI (Q:=Q) (ops:=ops) a2 c0 dY (λo al=>List.all_eq_true.1 hc o al) (k:=k .normal) (O:=O) (λs' a' w' bc fK=>ak C.ik C.xU .normal s' a' w' bc fK) ops.toList 0 [] s a w (by simp) (λp ar=>by cases ar) W hm;rw [List.range_eq_range'];omega
  ·exact wpIn_skip (ak C.ik C.xU .normal s a w W hm)
  ·exact wpIn_label (ak C.ik C.xU .normal s a w W hm)
  ·exact wpIn_exit (ak C.ik C.xU (.exit _) s a w W hm)
  ·exact wpIn_ret (ak C.ik C.xU .ret s a w W hm)
  ·exact (h7 hm).elim
 | seq x y h9 me=>
  have h9:=h9.1;have me:=me.1;refine ⟨?_,λh=>by simp [dS.rI] at h⟩;intro C fu a2 c0 dY gW β c s k O Q a w hc W hm ak;have mR:C.r=none\/x.e8=true:=gW.imp id λh=>by simp only [dS.e8,Bool.and_eq_true] at h;grind
  have qH:C.r=none\/y.e8=true:=gW.imp id λh=>by simp only [dS.e8,Bool.and_eq_true] at h;grind
  unfold fZ at hm;split at hm
  ·rename_i ou Ag;simp only [mN,Bool.and_eq_true] at hc;refine wpIn_seq (h9 C fu a2 c0 dY mR ou s _ O _ a w hc.1 W hm λu hu e s' a' w' bc fK=>?_);cases e with
   | normal=>exact me (C.h6 u) fu a2 c0 dY qH Ag s' k O Q a' w' hc.2 bc fK λv aj=>by rw [cf.Ab];exact ak _ (hu.then aj)
   | exit id=>exact ak u hu (.exit id) s' a' w' bc fK
   | ret=>exact ak u hu .ret s' a' w' bc fK
  ·exact (h7 hm).elim
 | xy sh x y h9 me=>
  have h9:=h9.1;have me:=me.1;refine ⟨?_,λh=>by simp [dS.rI] at h⟩;intro C fu a2 c0 dY gW β c s k O Q a w hc W hm ak;have mR:C.r=none\/x.e8=true:=gW.imp id λh=>by simp only [dS.e8,Bool.and_eq_true] at h;grind
  have qH:C.r=none\/y.e8=true:=gW.imp id λh=>by simp only [dS.e8,Bool.and_eq_true] at h;grind
  unfold fZ at hm;split at hm
  ·rename_i ou Ag;simp only [mN,Bool.and_eq_true] at hc;rw [A.gf] at hm;refine wpIn_seq (h9 C fu a2 c0 dY mR ou s _ _ _ a w hc.1 W hm λu hu e s' a' w' bc fK=>?_);cases e with
   | normal=>
    obtain ⟨G,om,aa⟩:=uj fK;have an:=A.ez.1 aa;exact me (C.h6 u) fu a2 c0 dY qH Ag _ k O Q a' w' hc.2 (dX.zX om bc) an λv aj=>by rw [cf.Ab];exact ak _ (hu.then aj)
   | exit id=>
    simp only [xz,A.gf,A.ez,ab.bx] at fK;exact ak u hu (.exit id) s' a' w' bc fK
   | ret=>
    simp only [xz,A.gf,A.ez,ab.bx] at fK;exact ak u hu .ret s' a' w' bc fK
  ·exact (h7 hm).elim
 | cond x y h9 me=>
  have h9:=h9.1;have me:=me.1;refine ⟨?_,λh=>by simp [dS.rI] at h⟩;intro C fu a2 c0 dY gW β c s k O Q a w hc W hm ak;have mR:C.r=none\/x.e8=true:=gW.imp id λh=>by simp only [dS.e8,Bool.and_eq_true] at h;grind
  have qH:C.r=none\/y.e8=true:=gW.imp id λh=>by simp only [dS.e8,Bool.and_eq_true] at h;grind
  unfold fZ at hm;split at hm
  ·rename_i co ou Ag;simp only [mN,Bool.and_eq_true] at hc;unfold R0 at hm;split at hm
   ·rename_i t hu;obtain ⟨κ,F,ft⟩:=W;have aj:=kN ft co;rw [hu] at aj;refine wpIn_cond_split (gh.1 aj) (λaR=>?_) (λaR=>?_)
    ·subst aR;exact h9 C fu a2 c0 dY mR ou s k O Q a w hc.1 ⟨κ,F,ft⟩ hm ak
    ·subst aR;exact me C fu a2 c0 dY qH Ag s k O Q a w hc.2 ⟨κ,F,ft⟩ hm ak
   ·rename_i g t hu;rw [A.mx] at hm;obtain ⟨be,hm⟩:=hm;obtain ⟨κ,F,ft⟩:=W;have aj:=kN ft co;rw [hu] at aj;refine wpIn_cond_split (gh.1 (aj.1 be)) (λaR=>?_) (λaR=>?_)
    ·subst aR;exact h9 C fu a2 c0 dY mR ou s k O Q a w hc.1 ⟨κ,F,ft⟩ hm ak
    ·subst aR;exact me C fu a2 c0 dY qH Ag s k O Q a w hc.2 ⟨κ,F,ft⟩ hm ak
   ·exact (h7 hm).elim
  ·exact (h7 hm).elim
 | block x h9=>
  have h9:=h9.1;refine ⟨?_,λh=>by simp [dS.rI] at h⟩;intro C fu a2 c0 dY gW β c s k O Q a w hc W hm ak;have mR:C.r=none\/x.e8=true:=gW;unfold fZ at hm;split at hm
  ·rename_i id ou;refine wpIn_block (h9 C fu a2 c0 dY mR ou s _ O _ a w hc W hm λu hu e s' a' w' bc fK=>?_);cases e with
   | normal=>exact ak u hu .normal s' a' w' bc fK
   | exit F3=>
    simp only [RZ] at fK;simp only [dc.qx,Exit.inBlock];split at fK
    ·rename_i e;rw [if_pos e];exact ak u hu .normal s' a' w' bc fK
    ·rename_i e;rw [if_neg e];exact ak u hu (.exit F3) s' a' w' bc fK
   | ret=>exact ak u hu .ret s' a' w' bc fK
  ·exact (h7 hm).elim
 | loop sh x h9=>
  have h9:=h9.1;refine ⟨?_,λh=>by simp [dS.rI] at h⟩;intro C fu a2 c0 dY gW β c s k O Q a w hc W hm ak;have mR:C.r=none\/x.e8=true:=gW;unfold fZ at hm;split at hm
  ·rename_i ou;obtain ⟨G,om,aa⟩:=uj hm;refine afl (I:=λG a w=>∃ u,C.kU u/\cG (C.h6 u) (sh.st G) a w) (O:=O) (λG a w ⟨v,aj,fs⟩ xe C6=>?_) aa.1 aa.2 ⟨C.ik,C.xU,dX.zX om W⟩;refine h9 (C.h6 v) fu a2 c0 dY mR ou (sh.st G) _ (Mg (fZ C.aZ T bd Ψ x ou (sh.st G) (xz k λs'=>sh.nH s' λjv=>A.pure (ab.next jv))) O) _ a w hc fs ⟨xe,λst hA=>?_⟩ λu hu e s' a' w' bc fK=>?_
   ·cases st with
    | next jv=>exact hA
    | done r=>exact C6 r hA
   ·cases e with
    | normal=>
     obtain ⟨jv,L4,an⟩:=uj fK;have a8:=A.ez.1 an;exact ⟨jv,a8,_,aj.then hu,by rw [<-cf.Ab];exact dX.zX L4 bc⟩
    | exit id=>
     simp only [xz,A.gf,A.ez,Mg] at fK;exact ak _ (aj.then hu) (.exit id) s' a' w' (by rw [<-cf.Ab];omega) fK
    | ret=>
     simp only [xz,A.gf,A.ez,Mg] at fK;exact ak _ (aj.then hu) .ret s' a' w' (by rw [<-cf.Ab];omega) fK
  ·exact (h7 hm).elim
 | scope x h9=>
  have h9:=h9.1;refine ⟨?_,λh=>by simp [dS.rI] at h⟩;intro C fu a2 c0 dY gW β c s k O Q a w hc W hm ak;have mR:C.r=none\/x.e8=true:=gW;unfold fZ at hm;split at hm
  ·rename_i ou;refine afr (h9 C fu a2 c0 dY mR ou s _ O _ a w hc W hm λu hu e s' a' w' bc fK=>?_);have:=ak u hu e s' a' w' bc fK;cases e<;>exact this
  ·exact (h7 hm).elim
 | range sh rin rout x y h9 me=>
  have h9:=h9.1;have me:=me.1;refine ⟨?_,λh=>by simp [dS.rI] at h⟩;intro C fu a2 c0 dY gW β c s k O Q a w hc W hm ak;unfold fZ at hm;split at hm
  ·rename_i g ps assign body;simp only [mN,Bool.and_eq_true,List.all_eq_true,decide_eq_true_eq] at hc;obtain ⟨as',Tx,uv⟩:=hc;split at hm
   ·rename_i rJ n fr aL;split at hm
    ·rename_i ic aft;split at hm
     ·rename_i ata b8 au;split at hm
      ·rename_i er;simp only [Bool.and_eq_true] at er;obtain ⟨er,mR,qH⟩:=er;obtain ⟨G,om,aa⟩:=uj hm;rw [A.mx,A.gf] at aa;simp only [R1] at aa;have ks:C.r=none:=gW.resolve_right λh=>by cases h
       have Mh:oj sh rout ic.aM ps.toList C.nt=true:=by
        simp only [oj,Bool.and_eq_true,List.all_eq_true,decide_eq_true_eq] at er ⊢;grind
       refine afg ks W aL (dY rJ _ aft) au Mh om aa.1 aa.2 (λl=>?_) ak;intro C1 m8 tM uk nE s1 bN cn qG kQ j_;have h:=h9 C1 (m8 ▸ fu) (m8 ▸ a2) (m8 ▸ c0) (by grind) (.inr mR) assign s1 (F4 λs2=>fZ C.aZ T bd Ψ y body s2 λe gl=>rout.nH gl λbA=>A.pure (e,bA)) qG
        (Exit.then (λb1 c8=>∃ u s2,C1.kU u/\cG (C1.h6 u) s2 b1 c8/\
         ∀ (h8:cf),h8.P=C.P->h8.aZ=C.aZ->h8.nt=C.nt->h8.r=some l->∀ (c8:World),cG h8 s2 b1 c8->
          body.wpIn (eX (some l)) 0 C.P (λe bC fL=>∃ (a9:dc) (v:oq) (gl:aE) (bA:rout.aq),e=a9.qx/\h8.kU v/\cG (h8.h6 v) gl bC fL/\rout.kp gl=some bA/\qG (a9,bA)) b1 c8) (λ_ _ _=>False)) bN cn (uk ▸ Tx) kQ (tM ▸ j_)
        λu hu e s2 b1 c8 cV oW=>?_
       ·grind
       ·cases e with
        | normal=>
         refine ⟨u,s2,hu,cV,λh8 xX Mi Mj afu c8 ng=>?_⟩;have h:=me h8 (xX ▸ fu) (xX ▸ a2) (xX ▸ c0) (by grind) (.inr qH) body s2 (λe gl=>rout.nH gl λbA=>A.pure (e,bA)) qG
          (λe bC fL=>∃ (a9:dc) (v:oq) (gl:aE) (bA:rout.aq),e=a9.qx/\h8.kU v/\cG (h8.h6 v) gl bC fL/\rout.kp gl=some bA/\qG (a9,bA)) b1 c8 (Mj ▸ uv) ng (Mi ▸ oW) λv aj e gl bC fL oZ Mk=>by
           obtain ⟨bA,jO,bV⟩:=uj Mk;exact ⟨e,v,gl,bA,rfl,aj,oZ,jO,A.ez.1 bV⟩
         grind
        | exit id=>exact (h7 oW).elim
        | ret=>exact (h7 oW).elim
      ·exact (h7 hm).elim
     ·exact (h7 hm).elim
    ·exact (h7 hm).elim
   ·rename_i aM S aL;split at hm
    ·rename_i er;simp only [Bool.and_eq_true] at er;obtain ⟨er,mR,qH⟩:=er;obtain ⟨G,om,aa⟩:=uj hm;rw [A.gf] at aa;have ks:C.r=none:=gW.resolve_right λh=>by cases h
     have Mh:oj sh rout aM ps.toList C.nt=true:=by
      simp only [oj,Bool.and_eq_true,List.all_eq_true,decide_eq_true_eq] at er ⊢;grind
     refine afi ks W aL Mh om aa.1 (λL kr=>by have an:=A.gf.1 (aa.2 L kr);simp only [R1] at an;exact an) (λl=>?_) ak;intro C1 m8 tM uk nE s1 bN cn qG kQ j_;have h:=h9 C1 (m8 ▸ fu) (m8 ▸ a2) (m8 ▸ c0) (by grind) (.inr mR) assign s1 (F4 λs2=>fZ C.aZ T bd Ψ y body s2 λe gl=>rout.nH gl λbA=>A.pure (e,bA)) qG
      (Exit.then (λb1 c8=>∃ u s2,C1.kU u/\cG (C1.h6 u) s2 b1 c8/\
       ∀ (h8:cf),h8.P=C.P->h8.aZ=C.aZ->h8.nt=C.nt->h8.r=some l->∀ (c8:World),cG h8 s2 b1 c8->
        body.wpIn (eX (some l)) 0 C.P (λe bC fL=>∃ (a9:dc) (v:oq) (gl:aE) (bA:rout.aq),e=a9.qx/\h8.kU v/\cG (h8.h6 v) gl bC fL/\rout.kp gl=some bA/\qG (a9,bA)) b1 c8) (λ_ _ _=>False)) bN cn (uk ▸ Tx) kQ (tM ▸ j_)
      λu hu e s2 b1 c8 cV oW=>?_
     ·grind
     ·cases e with
      | normal=>
       refine ⟨u,s2,hu,cV,λh8 xX Mi Mj afu c8 ng=>?_⟩;have h:=me h8 (xX ▸ fu) (xX ▸ a2) (xX ▸ c0) (by grind) (.inr qH) body s2 (λe gl=>rout.nH gl λbA=>A.pure (e,bA)) qG
        (λe bC fL=>∃ (a9:dc) (v:oq) (gl:aE) (bA:rout.aq),e=a9.qx/\h8.kU v/\cG (h8.h6 v) gl bC fL/\rout.kp gl=some bA/\qG (a9,bA)) b1 c8 (Mj ▸ uv) ng (Mi ▸ oW) λv aj e gl bC fL oZ Mk=>by
         obtain ⟨bA,jO,bV⟩:=uj Mk;exact ⟨e,v,gl,bA,rfl,aj,oZ,jO,A.ez.1 bV⟩
       grind
      | exit id=>exact (h7 oW).elim
      | ret=>exact (h7 oW).elim
    ·exact (h7 hm).elim
   ·exact (h7 hm).elim
  ·exact (h7 hm).elim
 | oi x y h9 me=>
  refine afn (λ_ C fu a2 c0 dY gW β c s k O Q a w hc W hm ak=>?_) λkey C fu a2 c0 dY gW β c s k O Q a w hc W hm ak=>?_
  ·have mR:C.r=none\/x.e8=true:=gW.imp id λh=>by simp only [dS.e8,Bool.and_eq_true] at h;grind
   have qH:C.r=none\/y.e8=true:=gW.imp id λh=>by simp only [dS.e8,Bool.and_eq_true] at h;grind
   unfold fZ at hm;simp only at hm;split at hm
   ·rename_i hu;refine afp (h9.1 C fu a2 c0 dY mR c s _ O _ a w hc W hm λu xD e s' a' w' bc fK=>?_);cases e with
    | normal=>exact me.2 hu (C.h6 u) fu a2 c0 dY qH c s' k O Q a' w' hc bc fK λv aj=>by rw [cf.Ab];exact ak _ (xD.then aj)
    | exit id=>exact ak u xD (.exit id) s' a' w' bc fK
    | ret=>exact ak u xD .ret s' a' w' bc fK
   ·exact (h7 hm).elim
  ·cases c with
   | loop ou=>exact afo (key rfl C fu a2 c0 dY gW ou s k O Q a w hc W hm ak)
   | _=>unfold fZ at hm;exact (h7 hm).elim
 | num i n x aO=>
  have aO:=aO.1;refine ⟨?_,λh=>by simp [dS.rI] at h⟩;intro C fu a2 c0 dY gW β c s k O Q a w hc W hm ak;unfold fZ at hm;split at hm
  ·rename_i v f aj;rw [A.mx] at hm;have h:=hm.2;rw [acG aj hm.1] at h;exact aO C fu a2 c0 dY gW c s k O Q a w hc W h ak
  ·exact (h7 hm).elim
 | split i off n x aO=>
  have aO:=aO.1;refine ⟨?_,λh=>by simp [dS.rI] at h⟩;intro C fu a2 c0 dY gW β c s k O Q a w hc W hm ak;unfold fZ at hm;split at hm
  ·rename_i v f aj;rw [A.mx] at hm;have h:=RW hm.2 hm.1.1 hm.1.2;rw [acF aj hm.1.1] at h;exact aO C fu a2 c0 dY gW c s k O Q a w hc W h ak
  ·exact (h7 hm).elim
theorem Ty (ann:dS):∀ (C:cf) (_:C.P.follows .mixedOrders=true) (_:eO C.P T) (_:kP C.P bd) (_:nK C.P C.aZ Ψ) (_:C.r=none\/ann.e8=true) {β:Type} (c:Code) (s:aE) (k:dc->aE->A β) (O:β->Prop) (Q:Exit->Act->World->Prop) (a:Act) (w:World),mN C.nt c=true->cG C s a w->A.cp (fZ C.aZ T bd Ψ ann c s k) O->(∀ u,C.kU u->∀ e s' a' w',cG (C.h6 u) s' a' w'->A.cp (k e s') O->Q e.qx a' w')->c.wpIn (eX C.r) 0 C.P Q a w:=(afs ann).1
end
end Go.Fer
namespace Go.Fer
open Go.RowKit
def Dq (T:Nat->ai) (s:aE):List ResultVar->Option (List aP)
 | []=>some []
 | r::l=>match Dq T s l with
  | none=>none
  | some aH=>match r with
   | .tmp t=>some (s.aD t::aH)
   | .cell a ty=>match (ze (T ty) (s.aD a)).run s.ag with
    | some v=>some (v::aH)
    | none=>none
def Ml (t:ai) (n:Nat):Bool:=
 match t with
 | .aG _ _=>n != 1
 | .da=>n == 0
 | _=>n == 1
def v3 (T:Nat->ai) (lf:List ResultVar) (a5:ai) (e:dc) (s:aE):A a5.aq:=
 match e with
 | .exit _=>A.fail
 | _=>match Dq T s lf with
  | some avs=>match (j3 a5 avs).run s.ag with
   | some (y,_)=>A.pure y
   | none=>A.fail
  | none=>A.fail
def Ah (t:ai) (x:t.aq) (n:Nat):List (Nat×aP):=(List.range n).map λi=>(i,k9 t x i)
def sQ (t:ai):Nat:=if t=.da then 0 else kK t
def pO (t:ai) (x:t.aq):aE:=RM (Ah t x (sQ t)) []
def Ai (a1:eG) (T:Nat->ai) (bd:Nat->Option aU) (Ψ:Nat->Option iA) (fn:Func) (c:Code) (ann:dS) (ts a5:ai) (x:ts.aq):A a5.aq:=
 fZ a1 T bd Ψ ann c (pO ts x) (v3 T fn.results.toList a5)
def GP (av:aP):aP:=match av with | .val (.bQ e) p=>.fb e (p.getD e.ee) | v=>v
def Dr (av:aP):Prop:=match av with | .val (.bQ _) p=>p.isSome=true | _=>True
def GQ (n:Nat) (s:aE):aE:=⟨λi=>if i<n\/fP<i then s.aD i else GP (s.aD i),s.ag⟩
def Ds (n:Nat) (s:aE):Prop:=∀ i,¬(i<n\/fP<i)->Dr (s.aD i)
def afv (a1:eG) (T:Nat->ai) (bd:Nat->Option aU) (Ψ:Nat->Option iA) (fn:Func) (c:Code) (ann:dS) (n:Nat) (ts a5:ai) (x:ts.aq):A a5.aq:=
 A.ah (Ds n (pO ts x)) (fZ a1 T bd Ψ ann c (GQ n (pO ts x)) (v3 T fn.results.toList a5))
def Dt (fn:Func) (c:Code) (ts a5:ai):Bool:=
 mN fn.ntmps c && Ml a5 fn.results.size && decide (sQ ts <= fn.ntmps) && !(fn.name == "runtime.NumGoroutine") && decide (fn.ntmps <= fP)
def Aj:List (Option Nat)->List aP->Option (List aP)
 | [],[]=>some []
 | none::g,v::aH=>match Aj g aH with
  | some l=>some (v::l)
  | none=>none
 | some n::g,v::aH=>match v,Aj g aH with
  | .agg m f,some l=>if m=n then some ((List.range n).map f++l) else none
  | _,_=>none
 | _,_=>none
def Mm (T:Nat->ai) (lf:List ResultVar) (lQ:List (Option Nat)) (bP:dX) (e:dc) (s:aE):A bP.aq:=
 match e with
 | .exit _=>A.fail
 | _=>match Dq T s lf with
  | some avs=>match Aj lQ avs with
   | some l=>match decide (l.length<=fP) with
    | true=>bP.nH (sx s l) λbA=>A.pure bA
    | false=>A.fail
   | none=>A.fail
  | none=>A.fail
def Mn (a1:eG) (T:Nat->ai) (bd:Nat->Option aU) (Ψ:Nat->Option iA) (fn:Func) (c:Code) (ann:dS) (cM bP:dX) (lQ:List (Option Nat)) (G:cM.aq):A bP.aq:=
 fZ a1 T bd Ψ ann c (cM.st G) (Mm T fn.results.toList lQ bP)
def GR (fn:Func) (c:Code) (lh:Nat) (lQ:List (Option Nat)):Bool:=
 mN fn.ntmps c && decide (fn.results.size = lQ.length) && decide (lh <= fn.ntmps) && !(fn.name == "runtime.NumGoroutine") && decide (fn.ntmps <= fP)
section
variable {C:cf} {T:Nat->ai} {bd:Nat->Option aU} {Ψ:Nat->Option iA}
def Ak (tmps:Array Value) (r:ResultVar):Sem Value:=
 match r with
 | .tmp t=>pure (tmps.getD t undef)
 | .cell b t=>do loadVar t (<-asAddr (tmps.getD b undef))
theorem Tz (fn:Func) (tmps:Array Value):results fn tmps=(fn.results.mapM (Ak tmps) >>= λaH=>pure (if h:aH.size=1 then aH[0] else .tuple aH)):=by
 rfl
theorem TA (a2:eO C.P T) {s:aE} {a:Act} {w:World} {κ:Nat->bD} {F:Nat->Prop} (W:bl C s a w κ F):∀ (lf:List ResultVar) {avs:List aP},Dq T s lf=some avs->
  ∃ aH:List Value,(lf.mapM (Ak a.tmps)).run C.P w=.ok aH w/\aH.length=lf.length/\avs.length=lf.length/\
   ∀ i (h:i<avs.length) (dx:i<aH.length),bw C.P s.ag κ F w avs[i] aH[i]:=by
 intro lf;induction lf with
 | nil=>intro avs h;cases h;simp
 | cons r lf aO=>
  intro avs h;simp only [Dq] at h;split at h
  ·cases h
  ·rename_i l aw;obtain ⟨aH,M,aa,an,a8⟩:=aO aw;have one:∃ av v,avs=av::l/\(Ak a.tmps r).run C.P w=.ok v w/\bw C.P s.ag κ F w av v:=by
    split at h
    ·rename_i t;cases h;exact ⟨_,_,rfl,rfl,W.b3 t⟩
    ·rename_i b ty;split at h
     ·rename_i v aj;cases h;obtain ⟨u,aS,aY⟩:=QQ a2 W aj (W.b3 b);refine ⟨v,u,rfl,?_,aY⟩;unfold Instr.loadAt at aS;unfold Ak;simp only;generalize a.tmps.getD b Go.undef=z at aS ⊢;cases z with
      | pointer p=>
       cases p with
       | none=>simp [Instr.sureAddr] at aS
       | some p=>simpa [Instr.sureAddr,asAddr] using aS
      | _=>simp [Instr.sureAddr] at aS
     grind
   obtain ⟨av,v,rfl,aS,aY⟩:=one;refine ⟨v::aH,?_,by grind,by grind,λi U eA=>?_⟩
   ·simp_all
   grind
theorem afw (a2:eO C.P T) {fn:Func} {a5:ai} (uw:Ml a5 fn.results.size=true) {e:dc} {s:aE} {a:Act} {w:World} {O:a5.aq->Prop} (W:cG C s a w) (hm:A.cp (v3 T fn.results.toList a5 e s) O) :
  (∀ id,e≠.exit id)/\∃ κ F v y,bl C s a w κ F/\(results fn a.tmps).run C.P w=.ok v w/\O y/\∃ F',(∀ r,F' r->C.F0 r\/¬C.K0 r)/\(∀ r,F' r->r<w.heap.size)/\vn C.P a5 F' w v y:=by
 obtain ⟨κ,F,W⟩:=W;unfold v3 at hm;split at hm
 ·exact (h7 hm).elim
 ·rename_i cI;refine ⟨λid he=>cI id he,?_⟩;split at hm
  ·rename_i avs Mo;split at hm
   ·rename_i y l aJ;obtain ⟨aH,M,aa,an,a8⟩:=TA a2 W _ Mo;obtain ⟨F',f1,bc,f2⟩:=bl.mH (qt _ aJ) W;have ep:=vF (F':=F') W.bI f1 a5 aJ f2 (by omega) a8;have dj:(results fn a.tmps).run C.P w=.ok (if h:aH.toArray.size=1 then aH.toArray[0] else .tuple aH.toArray) w:=by
     rw [Tz,Sem.run_bind];have:(fn.results.mapM (Ak a.tmps)).run C.P w=.ok aH.toArray w:=by
      rw [Array.mapM_eq_mapM_toList,map_eq_pure_bind,Sem.run_bind,M];rfl
     simp_all
    refine ⟨κ,F,_,y,W,dj,A.ez.1 hm,F',bc.iY,bc.dM,aH,?_,ep⟩;have cH:aH.length=fn.results.size:=by omega
    rw [<-cH] at uw;clear dj ep M a8 aa cH aJ;have one:aH.length=1->aH=[if h:aH.toArray.size=1 then aH.toArray[0] else .tuple aH.toArray]:=by
     intro h;match aH,h with
     | [v],_=>rfl
    cases a5<;>simp only [Ml,beq_iff_eq,bne_iff_ne,ne_eq] at uw<;>simp only [y3];case aG=>rw [dif_neg (by simpa using uw)]
    case da=>
     have:aH=[]:=List.length_eq_zero_iff.1 uw;subst this;exact ⟨rfl,rfl⟩
    all_goals exact one uw
   ·exact (h7 hm).elim
  ·exact (h7 hm).elim
theorem TB {l:List (Nat×aP)} {i:Nat}:gF l i=.undef\/(i,gF l i)∈l:=by
 induction l with
 | nil=>exact .inl rfl
 | cons p l aO=>
  simp only [gF];grind
theorem TC {P : Program} {k : FuncId} {fn : Func} {c : Code} (ax : P.funcs[k]? = some fn) (af : fn.body = some c) (aI : (fn.name == "runtime.NumGoroutine") = false) (args : Array Value) (w : World) :
  (callFunc k args).run P w=.ok (.enter k args) w:=by
 have aI : ¬ fn.name = "runtime.NumGoroutine" := by grind
 simp [callFunc,ax,af,aI]
def pP (w:World):List Nat->World
 | []=>w
 | B::ms=>pP (w.putObj B (.deferred none)) ms
theorem TD:∀ (ms:List Nat) (w:World),(pP w ms).heap.size=w.heap.size
 | [],_=>rfl
 | _::ms,_=>(TD ms _).trans World.putObj_size
theorem Mp:∀ (ms:List Nat) (w:World) {r:Nat},r ∉ ms->(pP w ms).heap[r]?=w.heap[r]?
 | [],_,_,_=>rfl
 | B::ms,w,r,h=>by
  simp only [List.mem_cons,not_or] at h;exact (Mp ms _ h.2).trans (World.putObj_heap_other h.1)
theorem TE:∀ (ms:List Nat) (w:World),dA w (pP w ms)
 | [],w=>dA.refl w
 | B::ms,w=>by
  have h:dA w (w.putObj B (.deferred none)):=⟨rfl,rfl,rfl⟩
  exact h.trans (TE ms _)
theorem Mq {P:Program} {fn:Func} {tmps:Array Value} {R:Ending->World->Prop}:∀ (ms:List Nat) (w:World),ms.Nodup->(∀ B∈ms,w.heap[B]?=some (.deferred (some [])))->
  (∃ v,(results fn tmps).run P (pP w ms)=.ok v (pP w ms)/\R (.returned v) (pP w ms))->LeavesInM Fence.wide 0 P fn tmps R (ms.map oY) .returning w
 | [],w,_,_,h=>h
 | B::ms,w,aI,a6,h=>by
  simp only [List.nodup_cons] at aI;refine ⟨by simp,.inl ⟨B,_,rfl,run_takeDeferred (a6 B (by simp)),?_⟩⟩;exact Mq ms _ aI.2 (λafx dx=>(World.putObj_heap_other λe=>aI.1 (by grind)).trans (a6 afx (List.mem_cons_of_mem _ dx))) h
theorem cG.TF {u:oq} {s:aE} {a:Act} {w:World} (hu:C.kU u) (afy:∀ r,C.F0 r->r<C.w0.heap.size) (vO:∀ r,C.K0 r->r<C.w0.heap.size) (h:cG (C.h6 u) s a w) :
  cG { C with dfr:=u.ms.map oY++C.dfr } s a (pP w u.ms)/\a.defers=u.ms.map oY++C.dfr/\∀ B∈u.ms,w.heap[B]?=some (.deferred (some [])):=by
 obtain ⟨κ,F,h⟩:=h;have atb:∀ B∈u.ms,¬F B:=λB a6 ax=>by
  obtain ⟨M,_⟩:=hu.sN B a6;rcases h.iY B ax with aa | aa
  ·have:=afy B aa;have:=(hu.e7 B a6).2;omega
  ·exact aa M
 have cH:=TD u.ms w;have hc:=TE u.ms w;refine ⟨⟨κ,F,h.GG (w0:=C.w0) (w':=pP w u.ms) (K0:=C.K0) (r:=C.r) (λr W=>hu.hR r W) (λr W=>Mp _ _ λhm=>?_) (Nat.le_of_eq cH.symm) hc vO (λr W=>?_) ?_ ?_⟩,h.dfr,λB a6=>?_⟩
 ·rcases W with W | W
  ·grind
  ·exact W (hu.sN r hm).1
 ·exact (Mp _ _ λhm=>(hu.e7 r hm).1 W).trans ((h.fF r (hu.hR r W)).trans (hu.fF r W))
 ·rw [cH];exact Nat.le_trans hu.size h.size
 ·exact (hu.fi.trans h.fi).trans hc
 ·exact (h.fF B (hu.sN B a6).1).trans (hu.sN B a6).2
theorem TG {P:Program} {a1:eG} (fu:P.follows .mixedOrders=true) {k:FuncId} {fn:Func} {c:Code} {ann:dS} {ts a5:ai} {sh:ts.aq->A a5.aq} (a2:eO P T) (iQ:qg P a1) (c0:kP P bd) (dY:nK P a1 Ψ) (ax:P.funcs[k]?=some fn) (af:fn.body=some c)
    (cm:Dt fn c ts a5=true) {s0:ts.aq->aE} {pre:ts.aq->Prop} (kt:∀ x C a w,cG C (pO ts x) a w->pre x->cG C (s0 x) a w)
    (pQ:∀ x,A.bz (A.ah (pre x) (fZ a1 T bd Ψ ann c (s0 x) (v3 T fn.results.toList a5))) (sh x)):jk P k ts a5 sh:=by
  simp only [Dt,Bool.and_eq_true,Bool.not_eq_true',decide_eq_true_eq] at cm;obtain ⟨⟨⟨⟨Mr,uw⟩,afz⟩,Ms⟩,ue⟩:=cm;refine ⟨TC ax af Ms,λF w args x bB ep xe=>?_⟩;obtain ⟨⟨hh,M⟩,aa⟩:=pQ x xe;have hlen:args.length=sQ ts/\∀ i,i<sQ ts->∀ (H:Nat->bS) (κ:Nat->bD),bw P H κ F w (k9 ts x i) (args.getD i Go.undef):=by
    unfold sQ;split
    · rename_i e
      subst e
      have:args=[]:=ep.1
      grind
    · rename_i e
      exact ⟨(tR (H:=λ_=>⟨0,.gK⟩) (κ:=λ_=>⟨0,0,0,false⟩) ts ep e).1,λi U H κ=>(tR ts ep e).2 i U⟩
  let C:cf:={ P:=P,w0:=w,F0:=F,K0:=λr=>r<w.heap.size,nt:=fn.ntmps,r:=none,dfr:=[],ix:=λ_=>none,ck:=⟨0,.da,λ_=>False,λ_ _ _ _ _=>False⟩,aZ:=a1 }
  let ch:Act:={ tmps:=args.toArray++Array.replicate (fn.ntmps - args.toArray.size) undef,defers:=[] }
  let afA:Nat->bD:=λ_=>⟨0,0,0,false⟩
  have sG:∀ i,(pO ts x).aD i=.undef\/(i<sQ ts/\(pO ts x).aD i=k9 ts x i):=λi=>by
    rcases TB (l:=Ah ts x (sQ ts)) (i:=i) with e | e
    · exact .inl e
    · refine .inr ?_
      generalize bm:gF (Ah ts x (sQ ts)) i=z at e
      simp only [Ah,List.mem_map,List.mem_range,Prod.mk.injEq] at e
      obtain ⟨j,aC,rfl,rfl⟩:=e
      exact ⟨aC,bm⟩
  have W:cG C (pO ts x) ch w:=by
    refine ⟨afA, F, { eB := ?_, dfr := rfl, b3 := λi => ?_, bI := λb => trivial, ad := λb af => (by cases af), inj := λb bg af _ _ => (by cases af), dM := bB, iY := λr W => .inl W, j2 := λr W => W, jI := λr W => W, fF := λr _ => rfl, size := Nat.le_refl _, fi := dA.refl w,hF:=ue,m1:=λb r h=>(by cases h),lC:=λb r h=>(by cases h),m2:=λb k h=>(by cases h),mC:=λb k h=>(by cases h),fQ:=λl aM L n st e=>?_,l2:=iQ }⟩
    · grind
    · rcases sG i with e | ⟨U,e⟩
      · rw [e];simp only [bw]
      · rw [e]
        have:ch.tmps.getD i Go.undef=args.getD i Go.undef:=by
          have eA:i<args.length:=by omega
          simp [ch,Array.getD_eq_getD_getElem?,List.getD_eq_getElem?_getD,Array.getElem?_append,eA]
        grind
    · rcases sG b_ with h | ⟨h,_⟩
      · grind
      · unfold b_ fP at *;omega
  refine callsIn_wide.1 (callsIn_of_wp_marks (F:=Fence.wide) (n:=0) ax af trivial ?_);have hw:=Ty ann C fu a2 c0 dY (.inl rfl) (k:=v3 T fn.results.toList a5) (O:=(fZ a1 T bd Ψ ann c (s0 x) (v3 T fn.results.toList a5)).bP) (Q:=bodyPostM Fence.wide 0 P fn λe w'=>∃ v y,e=.returned v/\(sh x).bP y/\vn P a5 (y4 F w w') w' v y/\Below w.heap.size w w') c (s0 x) ch w Mr (kt x C ch w W hh) ⟨M,λ_ h=>h⟩;refine hw λu hu e s' a' w' bc hm=>?_;obtain ⟨cV,aN,a6⟩:=cG.TF hu bB (λ_ h=>h) bc;obtain ⟨cI,κ,F1,v,y,ft,dj,aJ,F',f1,f2,g1⟩:=afw (C:={ C with dfr:=u.ms.map oY++C.dfr }) a2 uw cV hm;have oh:LeavesInM Fence.wide 0 P fn a'.tmps (λe w'=>∃ v y,e=.returned v/\(sh x).bP y/\vn P a5 (y4 F w w') w' v y/\Below w.heap.size w w') a'.defers .returning w':=by
    rw [aN];simp only [C,List.append_nil];refine Mq u.ms w' hu.nM a6 ⟨v,dj,v,y,rfl,aa y aJ,?_,ft.fi.os,ft.fi.tape,ft.fi.output,ft.size,ft.fF⟩;obtain ⟨aH,aS,aY,bK⟩:=g1;refine ⟨aH,aS,aY,gp a5 (λr W=>?_) (c6.refl _ _) bK⟩;rcases f1 r W with h | h
    · exact .inl h
    · exact .inr ⟨Nat.le_of_not_lt h,f2 r W⟩
  cases e with
  | normal=>exact oh
  | exit id=>grind
  | ret=>exact oh
theorem afB {P:Program} {a1:eG} (fu:P.follows .mixedOrders=true) {k:FuncId} {fn:Func} {c:Code} {ann:dS} {ts a5:ai} {sh:ts.aq->A a5.aq} (a2:eO P T) (iQ:qg P a1) (c0:kP P bd) (dY:nK P a1 Ψ) (ax:P.funcs[k]?=some fn) (af:fn.body=some c)
  (cm:Dt fn c ts a5=true) (pQ:∀ x,A.bz (Ai a1 T bd Ψ fn c ann ts a5 x) (sh x)):jk P k ts a5 sh:=
 TG fu a2 iQ c0 dY ax af cm (ann:=ann) (s0:=pO ts) (pre:=λ_=>True) (λ_ _ _ _ h _=>h) λx aA=>⟨⟨trivial,(pQ x aA).1⟩,(pQ x aA).2⟩
theorem afC {C:cf} {s:aE} {a:Act} {w:World} {n:Nat} (h:cG C s a w) (hc:Ds n s):cG C (GQ n s) a w:=by
 obtain ⟨κ,F,W⟩:=h;refine ⟨κ,F,{ W with b3:=λi=>?_,eB:=W.eB,dfr:=W.dfr,bI:=W.bI,fQ:=λl aM L m st e=>?_ }⟩
 ·show bw C.P s.ag κ F w (if i<n\/fP<i then s.aD i else GP (s.aD i)) _;split
  ·exact W.b3 i
  ·rename_i U;have aj:=W.b3 i;have ar:=hc i U;unfold GP;unfold Dr at ar;split
   ·rename_i e p he;rw [he] at aj ar;have ar:p.isSome=true:=ar;obtain ⟨_,aj⟩:=(fa rfl).1 aj;simp only [bM] at aj;rcases aj with ⟨_,rfl⟩ | ⟨q,y,bn,bt,rfl,aS,aY⟩
    ·cases ar
    ·exact ⟨q,bn,(List.cons.inj bt).1,aS,aY⟩
   omega
 ·have e:(if b_<n\/fP<b_ then s.aD b_ else GP (s.aD b_))=.a5 l aM L m st:=e;rw [if_pos (.inr (by decide))] at e;exact W.fQ l aM L m st e
theorem afD {P:Program} {a1:eG} (fu:P.follows .mixedOrders=true) {k:FuncId} {fn:Func} {c:Code} {ann:dS} {n:Nat} {ts a5:ai} {sh:ts.aq->A a5.aq} (a2:eO P T) (iQ:qg P a1) (c0:kP P bd) (dY:nK P a1 Ψ) (ax:P.funcs[k]?=some fn) (af:fn.body=some c)
  (cm:Dt fn c ts a5=true) (pQ:∀ x,A.bz (afv a1 T bd Ψ fn c ann n ts a5 x) (sh x)):jk P k ts a5 sh:=
 TG fu a2 iQ c0 dY ax af cm (ann:=ann) (s0:=λx=>GQ n (pO ts x)) (pre:=λx=>Ds n (pO ts x)) (λ_ _ _ _ h ar=>afC h ar) pQ
theorem Mt {H:Nat->bS} {κ:Nat->bD} {F:Nat->Prop} {w:World} {P:Program}:∀ (g:List (Option Nat)) {avs l:List aP} {us:List Value},Aj g avs=some l->avs.length=us.length->(∀ i (h:i<avs.length) (dx:i<us.length),bw P H κ F w avs[i] us[i])->
  ∃ aH:List Value,CO g us aH/\l.length=aH.length/\∀ i,i<aH.length->bw P H κ F w (l.getD i .undef) (aH.getD i undef)
 | [],[],l,us,h,aw,_=>by
  cases h;have:us=[]:=List.eq_nil_of_length_eq_zero aw.symm;subst this;exact ⟨[],rfl,rfl,λi U=>by cases U⟩
 | [],_::_,_,_,h,_,_=>by cases h
 | none::_,[],_,_,h,_,_=>by cases h
 | some _::_,[],_,_,h,_,_=>by cases h
 | none::g,av::avs,l,[],_,aw,_=>by cases aw
 | some n::g,av::avs,l,[],_,aw,_=>by cases aw
 | none::g,av::avs,l,u::us,h,aw,aj=>by
  simp only [Aj] at h;split at h
  ·rename_i cP vW;cases h;obtain ⟨aH,M,aa,an⟩:=Mt g vW (by grind) λi h dx=>aj (i+1) (Nat.succ_lt_succ h) (Nat.succ_lt_succ dx);refine ⟨u::aH,⟨aH,rfl,M⟩,by grind,λi U=>?_⟩;cases i with
   | zero=>exact aj 0 (Nat.zero_lt_succ _) (Nat.zero_lt_succ _)
   | succ i=>grind
  grind
 | some n::g,av::avs,l,u::us,h,aw,aj=>by
  simp only [Aj] at h;split at h
  ·rename_i m f cP vW;split at h
   ·rename_i Rt;cases h;subst Rt;obtain ⟨aH,M,aa,an⟩:=Mt g vW (by grind) λi h dx=>aj (i+1) (Nat.succ_lt_succ h) (Nat.succ_lt_succ dx);obtain ⟨cs,aS,aY,bK⟩:bw P H κ F w (.agg m f) u:=aj 0 (Nat.zero_lt_succ _) (Nat.zero_lt_succ _);refine ⟨cs++aH,⟨cs.toArray,aH,aS,by omega,λc hc=>?_,by simp,M⟩,by grind,λi U=>?_⟩
    ·obtain ⟨j,aC,rfl⟩:=List.mem_iff_getElem.1 (by omega:c∈cs);grind
    grind
   grind
  grind
theorem TH {P:Program} {a1:eG} (fu:P.follows .mixedOrders=true) {k:FuncId} {fn:Func} {c:Code} {ann:dS} {ic:fY} (a2:eO P T) (c0:kP P bd) (dY:nK P a1 Ψ) (ax:P.funcs[k]?=some fn) (af:fn.body=some c)
  (cm:GR fn c ic.lh ic.lQ=true) (pQ:∀ G,A.bz (Mn a1 T bd Ψ fn c ann ic.cM ic.bP ic.lQ G) (ic.sh G)):hj P a1 k ic:=by
 simp only [GR,Bool.and_eq_true,Bool.not_eq_true',decide_eq_true_eq] at cm;obtain ⟨⟨⟨⟨Mr,uw⟩,afz⟩,Ms⟩,ue⟩:=cm;refine ⟨TC ax af Ms,λC a w κ F G m8 TI ks rL rz iQ W xe=>?_⟩;subst m8;subst TI;subst iQ;obtain ⟨M,aa⟩:=pQ G xe;have atc:a.tmps.size=ic.lh:=W.eB.trans rz;have fU:∀ i,(a.tmps++Array.replicate (fn.ntmps - a.tmps.size) undef).getD i undef=a.tmps.getD i undef:=λi=>by
  simp only [Array.getD_eq_getD_getElem?,Array.getElem?_append];grind
 have bc:bl { C with nt:=fn.ntmps,dfr:=[],r:=none } (ic.cM.st G) { tmps:=a.tmps++Array.replicate (fn.ntmps - a.tmps.size) undef,defers:=[] } C.w0 κ F:=
  { W with eB:=(by grind),dfr:=rfl,hF:=ue,b3:=λi=>(by rw [fU];exact W.b3 i),bI:=W.bI }
 refine callsIn_wide.1 (callsIn_of_wp_marks (F:=Fence.wide) (n:=0) ax af trivial ?_);have hw:=Ty ann { C with nt:=fn.ntmps,dfr:=[],r:=none } fu a2 c0 dY (.inl rfl) (k:=Mm T fn.results.toList ic.lQ ic.bP) (O:=(Mn C.aZ T bd Ψ fn c ann ic.cM ic.bP ic.lQ G).bP)
  (Q:=bodyPostM Fence.wide 0 C.P fn λe w'=>∃ v bA aH κ' F',e=.returned v/\(ic.sh G).bP bA/\CP ic.lQ v aH/\bl { C with nt:=aH.length } (ic.bP.st bA) { tmps:=aH.toArray,defers:=[] } w' κ' F') c (ic.cM.st G) _ C.w0 Mr ⟨κ,F,bc⟩ ⟨M,λ_ h=>h⟩
 refine hw λu hu e s' a' w' bc hm=>?_;obtain ⟨⟨nJ,F2,cV⟩,aN,a6⟩:=cG.TF hu (λr h=>W.dM r (W.j2 r h)) W.jI bc;have key:(∀ id,e≠.exit id)/\LeavesInM Fence.wide 0 C.P fn a'.tmps (λe w'=>∃ v bA aH κ' F',e=.returned v/\(ic.sh G).bP bA/\CP ic.lQ v aH/\bl { C with nt:=aH.length } (ic.bP.st bA) { tmps:=aH.toArray,defers:=[] } w' κ' F') a'.defers .returning w':=by
  unfold Mm at hm;split at hm
  ·exact (h7 hm).elim
  ·rename_i cI;refine ⟨λid he=>cI id he,?_⟩;split at hm
   ·rename_i avs Mo;split at hm
    ·rename_i l aw;split at hm
     ·rename_i cq;have cq:l.length<=fP:=of_decide_eq_true cq;obtain ⟨us,aS,aY,bK,fe⟩:=TA (C:={ C with nt:=fn.ntmps,dfr:=u.ms.map oY++[],r:=none }) a2 cV _ Mo;obtain ⟨aH,ek,ht,iD⟩:=Mt ic.lQ aw (by omega) fe;obtain ⟨bA,jO,bV⟩:=uj hm;have bf:=cV.args (avs:=l) (us:=aH) (by omega) ht iD;obtain ⟨GJ,Tl,_,ng⟩:=dX.zZ jO bf;rw [aN];simp only [List.append_nil];have dj:(results fn a'.tmps).run C.P (pP w' u.ms)=.ok (if us.length=1 then us.getD 0 undef else .tuple us.toArray) (pP w' u.ms):=by
       rw [Tz,Sem.run_bind];have:(fn.results.mapM (Ak a'.tmps)).run C.P (pP w' u.ms)=.ok us.toArray (pP w' u.ms):=by
        rw [Array.mapM_eq_mapM_toList,map_eq_pure_bind,Sem.run_bind,aS];rfl
       rw [this];simp only [Result.andThen_ok,Sem.run_pure,List.size_toArray];grind
      refine Mq u.ms w' hu.nM a6 ⟨_,dj,_,bA,aH,GJ,Tl,rfl,aa bA (A.ez.1 bV),⟨us,?_,rfl,ek⟩,?_⟩
      ·rw [aY];simpa using uw
      ·have e:({ C with nt:=aH.length }:cf)={ C with nt:=aH.length,dfr:=[],r:=none }:=by
        cases C;simp only at ks rL;subst ks;subst rL;rfl
       rw [e];exact ng
     ·exact (h7 hm).elim
    ·exact (h7 hm).elim
   ·exact (h7 hm).elim
 cases e with
 | normal=>exact key.2
 | exit id=>grind
 | ret=>exact key.2
end
def qI:List (Nat×ai)->Nat->ai
 | [],_=>.da
 | p::l,i=>if i=p.1 then p.2 else qI l i
def TJ (P:Program) (l:List (Nat×ai)):Bool:=l.all λp=>cx P p.2 (.inl p.1)
theorem afE {P:Program} {l:List (Nat×ai)} (h:TJ P l=true):eO P (qI l):=by
 intro id;induction l with
 | nil=>exact .inl rfl
 | cons p l aO=>
  simp only [TJ,List.all_cons,Bool.and_eq_true] at h;simp only [qI];split
  ·rename_i e;subst e;exact .inr h.1
  ·exact aO h.2
end Go.Fer
