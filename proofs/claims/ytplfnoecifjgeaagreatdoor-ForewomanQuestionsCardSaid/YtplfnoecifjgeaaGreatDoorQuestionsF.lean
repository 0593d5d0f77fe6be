/- Part 6 of the proof of Questions: shallow programs of Go functions, and what they compute. No condition. -/
import Derived.Test.YtplfnoecifjgeaaGreatDoorQuestionsE
import Derived.Lib.AtoiAll
import Derived.Lib.ItoaLen
import Derived.Lib.Join
noncomputable section
namespace Go.Fer
open A (W)
set_option linter.unusedVariables false
set_option linter.unusedSimpArgs false
theorem HU {al:Type} {p q:al->Bool}:∀ {l:List al},(∀ x∈l,p x=q x)->l.all p=l.all q
 | [],_=>rfl
 | x::l,h=>by
  grind
theorem anq (x):A.le (aiY x) (cp.sh x):=A.bx λ_=>rfl
theorem anr (x):A.le (aiZ cp.sh x) (oQ.sh x):=A.bx λ_=>YA x
abbrev x3:aO:=⟨bu,de,λ_=>True,qx⟩
theorem ans (x):A.le (Va cp.sh x) (x3.sh x):=A.bx λ_=>by
 unfold Va;simp only [aO.sh,cp,A.dI,A.bw,x3,qx]
theorem ant (x):A.le (aiV cp.sh x) (pF.sh x):=A.bx λh=>Yy x.1 x.2 h
theorem anu (x):A.le (U_ cp.sh x) (rs.sh x):=A.bx λh=>by
 obtain ⟨w,m,k⟩:=x;change gM w at h;have:=Yz w m k h;unfold G7 at this;unfold U_;simp only [aO.sh,AH,A.dI,A.bH h,cp,A.bw,bZ] at this ⊢;have ak:=h.2.1;have hw:=bG (n:=(w.2.1.length:Int) - 1) (by omega) (by omega);simp only [hw,rr];exact this
theorem anv (x):A.le (aiX x) (ui.sh x):=A.bx λh=>YB x h
theorem anw (l:z1') (n:Int) (h:l.length<2 ^ 63):M8 (l,n)=A.pure (hL (λy=>decide (n=y)) l 0):=by
 unfold M8;rw [A.gA l (λi (b:Int)=>(l,n,(l.length:Int),b,())) (λy (i:Int)=>if decide (n=y)=true then (.done (.done i):W Int (W Unit Int)) else .next (i+1)) (λ_=>.next ()) (λi b=>b=(i:Int)) 0 ?_ ?_ ?_ ?_]
 ·rw [z' (λy=>decide (n=y))];by_cases ba:(l.any λy=>decide (n=y))=true
  ·simp_all
  ·rw [if_neg ba,DE l 0 ba];simp
 ·rfl
 ·rfl
 ·intro i M b aa;subst aa;have hw:=bG (n:=(i:Int)+1) (by omega) (by omega);refine ⟨?_,λbf dh=>?_⟩
  ·simp only [bZ,cY M,if_true,dm M,cJ M,A.bw,A.aJ,ct,hw];split<;>rfl
  grind
 simp
abbrev HV:aO:=⟨.aA fS bu,bu,λx=>x.1.length<2 ^ 63,λx=>hL (λy=>decide (x.2=y)) x.1 0⟩
theorem anx (x):A.le (M8 x) (HV.sh x):=A.bx λh=>anw x.1 x.2 h
theorem anz (x):A.le (U7 HV.sh x) (oK.sh x):=A.bx λh=>by
 unfold U7;simp only [aO.sh,HV,A.dI];rw [A.bH (by exact h),z_ _ _ _ (by omega)];grind
theorem anA (x):A.le (U' x3.sh oQ.sh x) ((⟨kC,de,λ_=>True,ru⟩:aO).sh x):=A.bx λ_=>by
 unfold U';simp only [aO.sh,x3,oQ,A.dI,A.iY,A.bw,implies_true,vj,ru]
abbrev HW:aO:=⟨kC,de,λ_=>True,ru⟩
theorem anB (x):A.le (Vb ui.sh (jw bu).sh x3.sh oQ.sh x) (sK.sh x):=A.bx λh=>by
 unfold Vb;simp only [aO.sh,ui,oQ,jw,x3,A.dI,A.iY,A.bw,implies_true,A.gI];rw [A.bH (by exact λ_=>⟨h,λy _=>⟨_,A.bU trivial _⟩⟩),A.bH (by omega)];simp only [vj,bZ];refine congrArg A.pure ?_;show _=pG x;unfold pG;grind
abbrev AL:aO:=⟨.aA kX (.bI (.fn qw .bool)),de,λx=>∃ f,x.2=some f/\x.1.length<2 ^ 63/\∀ y∈x.1,∃ b,f y=A.pure b,λx=>decide ((x.1.length:Int)<=4)&&x.1.all λy=>((x.2.getD λ_=>A.fail) y).val false⟩
theorem anC (x):A.le (Vc (jw qw).sh x) (AL.sh x):=A.bx λh=>by
 obtain ⟨m,o⟩:=x;obtain ⟨f,aw,G,V⟩:=h;change o=some f at aw;subst aw;unfold Vc;simp only [aO.sh,jw,A.dI,A.iY,Option.getD_some];simp_all
abbrev AM:aO:=⟨.aA jU (.bI kD),de,λx=>∃ w,x.2=some w/\gM w,λx=>sJ (x.2.getD ([],[],0,[])) x.1⟩
theorem anD (x):A.le (Vd pF.sh rs.sh cp.sh x) (AM.sh x):=A.bx λh=>by
 obtain ⟨t,o⟩:=x;obtain ⟨w,aw,G⟩:=h;change o=some w at aw;subst aw;unfold Vd;simp only [aO.sh,pF,rs,cp,A.dI,A.iY,Option.getD_some,A.bH G,G,implies_true,A.bw,vj,AM,sJ]
theorem anE (x):A.le (U9 cp.sh (jw kC).sh (jw kX).sh (jw jU).sh AL.sh AM.sh HW.sh sK.sh x) (sL.sh x):=A.bx λh=>by
 have aY:gM x:=h;obtain ⟨G,V,ah,a7⟩:=(h:gM x)
 unfold U9;have d1:∀ s,HW.sh s=A.pure (ru s):=λ_=>rfl;have d2:∀ m∈x.2.1,AL.sh (m,some sK.sh)=A.pure (qy m):=λm hm=>by
  refine (A.bU ⟨_,rfl,(a7 m hm).1,λy aS=>⟨_,A.bU ((a7 m hm).2 y aS) _⟩⟩ _).trans (congrArg A.pure ?_);simp only [AL,Option.getD_some,qy,aO.sh,A.gI];grind
 have d3:∀ t,AM.sh (t,some x)=A.pure (sJ x t):=λt=>A.bU ⟨_,rfl,aY⟩ _;have ca:(x.1.all λy=>(HW.sh y).val false)=x.1.all ru:=HU λs _=>A.gI;have a2:(x.2.1.all λy=>(AL.sh (y,some sK.sh)).val false)=x.2.1.all qy:=HU λm hm=>(congrArg (λz:A Bool=>z.val false) (d2 m hm)).trans A.fE;have a3:(x.2.2.2.all λy=>(AM.sh (y,some x)).val false)=x.2.2.2.all (sJ x):=HU λt _=>A.gI;have aF:∀ y,(jw kC).sh y=A.dR ((jw kC).pre y) ((jw kC).g y):=λ_=>rfl;have bB:∀ y,(jw kX).sh y=A.dR ((jw kX).pre y) ((jw kX).g y):=λ_=>rfl;have di:∀ y,(jw jU).sh y=A.dR ((jw jU).pre y) ((jw jU).g y):=λ_=>rfl;have gv:∀ y,cp.sh y=A.pure (cp.g y):=λ_=>rfl;simp only [aF,bB,di,gv,A.dI,A.iY,A.kO,A.aJ];rw [A.bH (by grind),A.bH (by grind),A.bH (by exact λ_=>⟨ah,λy _=>⟨_,d3 y⟩⟩)];simp only [vj,bZ];refine congrArg A.pure ?_;show _=kY x;rw [ca,a2,a3];unfold kY vL;grind
end Go.Fer
namespace Go.Fer
open A (W)
set_option linter.unusedVariables false
set_option linter.unusedSimpArgs false
def oR (m:z5') (k:Int×Int×Int):Option Int:=Option.map (λx=>x.2) (List.find? (λp=>decide (k.1=p.1.1)&&(decide (k.2.1=p.1.2.1)&&decide (k.2.2=p.1.2.2))) m)
def uo (m:z4') (k:Int):Option Int:=Option.map (λx=>x.2) (List.find? (λp=>decide (k=p.1)) m)
theorem HX {a b:Int×Int×Int}:(decide (a.1=b.1)&&(decide (a.2.1=b.2.1)&&decide (a.2.2=b.2.2)))=decide (a=b):=by
 grind
theorem anF (k):oR [] k=none:=rfl
theorem YK (k:Int×Int×Int) (v:Int) (k':Int×Int×Int):∀ m,oR (vl m k v) k'=if k'=k then some v else oR m k'
 | []=>by
  show oR [(k,v)] k'=_;by_cases h:k'=k<;>simp [oR,HX,h]
 | p::m=>by
  have aM:=YK k v k' m;show oR (if (decide (k.1=p.1.1)&&(decide (k.2.1=p.1.2.1)&&decide (k.2.2=p.1.2.2)))=true then (p.1,v)::m else p::vl m k v) k'=_;rw [HX];by_cases h:k=p.1
  ·subst h;by_cases ds:k'=p.1<;>simp [oR,HX,ds]
  ·simp only [h,decide_false,Bool.false_eq_true,if_false];simp only [oR,HX,List.find?_cons] at aM ⊢;grind
theorem YL (k v k':Int):∀ m,uo (e9 m k v) k'=if k'=k then some v else uo m k'
 | []=>by
  show uo [(k,v)] k'=_;by_cases h:k'=k<;>simp [uo,h]
 | p::m=>by
  have aM:=YL k v k' m;show uo (if decide (k=p.1)=true then (p.1,v)::m else p::e9 m k v) k'=_;by_cases h:k=p.1
  ·subst h;by_cases ds:k'=p.1<;>simp [uo,ds]
  ·simp only [h,decide_false,Bool.false_eq_true,if_false];simp only [uo,List.find?_cons] at aM ⊢;grind
def pH (t:mw):Int×Int×Int:=(t.1,t.2.1,t.2.2.1)
theorem HY {a b:mw}:nc a b=true<->pH a=pH b/\a.2.2.2≠b.2.2.2:=by
 simp only [nc,Bool.and_eq_true,decide_eq_true_eq,pH,Prod.mk.injEq];omega
theorem YM (l:List mw):nV l=true<->l.Pairwise λa b=>nc a b=false:=by
 unfold nV;rw [List.pairwise_iff_getElem];simp only [List.all_eq_true,List.mem_range,Bool.not_eq_true'];grind
def HZ (m:z5') (pre:List mw):Prop:=∀ k v,oR m k=some v<->(∃ t∈pre,pH t=k/\t.2.2.2=v)
def D8 (m:z5') (t:mw):Bool:=Option.isSome (oR m (pH t))&&decide (Option.getD (oR m (pH t)) 0≠t.2.2.2)
theorem YN {m pre} (h:HZ m pre) (ar:pre.Pairwise λa b=>nc a b=false) (t:mw):D8 m t=true<->∃ a∈pre,nc a t=true:=by
 unfold D8;cases ak:oR m (pH t) with
 | none=>
  simp only [Option.isSome_none,Bool.false_and,Bool.false_eq_true,false_iff];rintro ⟨a,ba,hc⟩;have:=(h (pH t) a.2.2.2).2 ⟨a,ba,(HY.1 hc).1,rfl⟩;grind
 | some v=>
  simp only [Option.isSome_some,Bool.true_and,Option.getD_some,decide_eq_true_eq];obtain ⟨b,aa,ao,af⟩:=(h _ _).1 ak;constructor
  ·intro ez;exact ⟨b,aa,HY.2 ⟨ao,by omega⟩⟩
  ·rintro ⟨a,ba,hc⟩ rfl;obtain ⟨bF,c2⟩:=HY.1 hc;have:=(h (pH t) a.2.2.2).2 ⟨a,ba,bF,rfl⟩;grind
theorem anG {m pre} (h:HZ m pre) {t:mw} (aa:∀ a∈pre,nc a t=false):HZ (vl m (pH t) t.2.2.2) (pre++[t]):=by
 intro k v;rw [YK];by_cases ao:k=pH t
 ·rw [if_pos ao];constructor
  ·grind
  ·rintro ⟨a,ba,G,V⟩;rcases List.mem_append.1 ba with ba | ba
   ·have hc:=aa a ba;have:¬nc a t=true:=by grind
    rw [HY] at this;grind
   grind
 ·rw [if_neg ao,h];grind
theorem YO:∀ (cm:List mw) (m) (pre:List mw),HZ m pre->(pre.Pairwise λa b=>nc a b=false)->
  eX (λt m=>if D8 m t=true then (.done (.done 71):W _ (W Unit Int)) else .next (vl m (pH t) t.2.2.2)) (λ_=>.next ()) cm m=if nV (pre++cm)=true then .next () else .done 71
 | [],m,pre,h,ar=>by
  have:=(YM pre).2 ar;simp [eX,this]
 | t::cm,m,pre,h,ar=>by
  simp only [eX];by_cases aa:D8 m t=true
  ·simp only [aa,if_true];obtain ⟨a,ba,hc⟩:=(YN h ar t).1 aa;have:¬nV (pre++t::cm)=true:=by
    rw [YM,List.pairwise_append];grind
   grind
  ·have aD:∀ a∈pre,nc a t=false:=λa ba=>by
    have:=λhc=>aa ((YN h ar t).2 ⟨a,ba,hc⟩);grind
   simp only [aa,Bool.false_eq_true,if_false];have BJ:(pre++[t]).Pairwise λa b=>nc a b=false:=by
    grind
   have:=YO cm _ (pre++[t]) (anG h aD) BJ;grind
theorem anH (w:bp) (h:gM w):M9 sL.sh w=A.pure (cL w):=by
 have aG:=h;obtain ⟨G,V,ah,a7⟩:=h;unfold M9;simp only [aO.sh,sL,A.dI,A.bH aG];unfold cL;cases hw:kY w with
 | false=>simp
 | true=>
  simp only [Bool.not_true,Bool.false_eq_true,if_false,if_true];rw [A.dK w.2.2.2 (λi (m:z5')=>(w.2.2.2,(w.2.2.2.length:Int),(i:Int),m,())) (λt m=>if D8 m t=true then (.done (.done 71):W _ (W Unit Int)) else .next (vl m (pH t) t.2.2.2)) (λ_=>.next ()) [] ?_ ?_ ?_]
  ·rw [YO w.2.2.2 [] [] (λk v=>by simp [anF]) (by simp)];simp only [List.nil_append];by_cases aL:nV w.2.2.2=true<;>simp [aL]
  ·rfl
  ·intro i M m;have hZ:=bG (n:=(i:Int)+1) (by omega) (by omega);simp only [bZ,cY M,if_true,dm M,cJ M,A.bw,A.aJ,ct,hZ];exact UX (mk:=λm=>(w.2.2.2,(w.2.2.2.length:Int),(i:Int)+1,m,()))
  simp
theorem anI (x):A.le (M9 sL.sh x) (hX.sh x):=A.bx λh=>anH x h
theorem anJ (w:bp) (i n m k:Int) (hw:qA w) (M:gW w i=true) (hm:iM w m k=true):Vf cp.sh oK.sh (w,i,n,m,k)=A.pure (vM w i n m k):=anm w i n m k hw M hm
theorem anK (x):A.le (Vf cp.sh oK.sh x) (D4.sh x):=A.bx λh=>anJ x.1 x.2.1 x.2.2.1 x.2.2.2.1 x.2.2.2.2 h.1 h.2.1 h.2.2
abbrev x4:aO:=⟨.aA jU (.aA (.bI bu) (.aA (.bI kD) (.bI bu))),de,λx=>∃ i w n,x.2=(some i,some w,some n)/\qA w/\gW w i=true/\iM w x.1.2.1 x.1.2.2.1=true,λx=>uk (x.2.2.1.getD ([],[],0,[])) (x.2.1.getD 0) (x.2.2.2.getD 0) x.1⟩
theorem anL (x):A.le (Ve D4.sh x) (x4.sh x):=A.bx λh=>by
 obtain ⟨t,o⟩:=x;obtain ⟨i,w,n,aw,hw,M,hm⟩:=h;change o=_ at aw;subst aw;unfold Ve;simp only [aO.sh,A.nW,A.gI,Option.getD_some,and_true,true_and,and_self,imp_self,A.bw,ne_eq];by_cases aL:t.1=i
 ·have ar:qA w/\gW w i=true/\iM w t.2.1 t.2.2.1=true:=⟨hw,M,hm⟩
  simp [uk,aL,ar,A.bH ar]
 ·simp [uk,aL]
def pI (w:bp):List (z1'):=(List.range w.1.length).map λ(i:Nat)=>gX w (i:Int)
def hp (w:bp) (b_:Bool):Option qp×Int:=if eI w b_≠0 then (none,eI w b_) else (some (w,pI w),0)
abbrev AN:aO:=⟨.aA kD de,.aA (.bI (.st (.aA kD (.slice fS)))) bu,λx=>gM x.1,λx=>hp x.1 x.2⟩
theorem anM {w:bp} {i:Int}:gX w i=(et (gC w i).2.2.1 (gC w i).2.2.2).filter λn=>w.2.2.2.all (uk w i n):=by
 unfold gX;refine List.filter_congr λn aD=>?_;rw [so] at aD;simp [OP,aD]
theorem YP {w:bp}:∀ (l:List Nat) (acc:List (z1')),eX (λ(i:Nat) (acc:List (z1'))=>if decide (((gX w (i:Int)).length:Int)=0)=true then (.done (.done (none,(3:Int))):W _ (W (List HP×List (List vJ)×Int×List mw×List (z1')×Unit) (Option qp×Int))) else .next (acc++[gX w (i:Int)])) (λacc=>.next (w.1,w.2.1,w.2.2.1,w.2.2.2,acc,())) l acc
  =if (l.all λ(i:Nat)=>!decide (((gX w (i:Int)).length:Int)=0))=true then .next (w.1,w.2.1,w.2.2.1,w.2.2.2,acc++l.map (λ(i:Nat)=>gX w (i:Int)),()) else .done (none,3)
 | [],acc=>by simp [eX]
 | i::l,acc=>by
  simp only [eX,List.all_cons,List.map_cons];by_cases h:((gX w (i:Int)).length:Int)=0
  ·simp [h]
  ·simp only [h,decide_false,Bool.false_eq_true,if_false,Bool.not_false,Bool.true_and];rw [YP l];simp
theorem anN (w:bp) (b_:Bool) (h:gM w):Nb hX.sh (jw jU).sh x4.sh (w,b_)=A.pure (hp w b_):=by
 unfold Nb hp eI;simp only [aO.sh,A.dI,A.bH h];by_cases hc:cL w=0
 ·have hw:qA w:=⟨h,OQ hc⟩
  have anO:=D3 hw.2;simp only [hc,ne_eq,not_true,decide_false,Bool.false_eq_true,if_false];cases b_ with
  | false=>simp
  | true=>
   simp only [Bool.not_true,Bool.false_eq_true,if_false,Bool.true_eq_false];rw [A.gA (List.range w.1.length) (λi (acc:List (z1'))=>(w.1,(w.1.length:Int),(i:Int),w,w.1,w.2.1,w.2.2.1,w.2.2.2,acc,())) (λ(i:Nat) (acc:List (z1'))=>if decide (((gX w (i:Int)).length:Int)=0)=true then (.done (.done (none,(3:Int))):W _ (W (List HP×List (List vJ)×Int×List mw×List (z1')×Unit) (Option qp×Int))) else .next (acc++[gX w (i:Int)])) (λacc=>.next (w.1,w.2.1,w.2.2.1,w.2.2.2,acc,())) (λi acc=>acc.length<=i) [] ?_ ?_ ?_ ?_]
   ·rw [YP];have e:((List.range w.1.length).all λ(i:Nat)=>!decide (((gX w (i:Int)).length:Int)=0))=vN w:=rfl;rw [e];by_cases aL:vN w=true<;>simp [aL,pI]
   ·rfl
   ·simp
   ·intro i M acc OR;have M:i<w.1.length:=by grind
    have nT:=ano M;have ak:=YE hw.2 nT;have hZ:=bG (n:=(i:Int)+1) (by omega) (by omega);have aC:w.1[i]=gC w (i:Int):=by simp [gC,List.getD_eq_getElem?_getD,M]
    refine ⟨?_,λbf aa=>?_⟩
    ·simp only [bZ,cY M,if_true,dm M,cJ M,A.bw,aC,List.getElem_range];rw [A.gA (et (gC w (i:Int)).2.2.1 (gC w (i:Int)).2.2.2) (λk (l:z1')=>(w.1,(w.1.length:Int),(i:Int),w,(i:Int),gC w (i:Int),l,(gC w (i:Int)).2.2.1+(k:Int),w.1,w.2.1,w.2.2.1,w.2.2.2,acc,())) (λn l=>.next (if w.2.2.2.all (uk w (i:Int) n)=true then l++[n] else l)) (λl=>.next (w.1,(w.1.length:Int),(i:Int),w,l,w.1,w.2.1,w.2.2.1,w.2.2.2,acc,())) (λk l=>l.length<=k) [] ?_ ?_ ?_ ?_]
     ·rw [er,UU];simp only [A.aJ,A.b2,List.nil_append];rw [<-anM];by_cases bl:((gX w (i:Int)).length:Int)=0
      ·simp [bl]
      ·have lJ:cn (acc.length+(0+1)):=by unfold cn;omega
       simp_all
     ·simp
     ·simp
     ·intro k ao l anP;have vu:k<1000:=by rw [xG] at ao;omega
      have rU:(gC w (i:Int)).2.2.1+(k:Int)<=(gC w (i:Int)).2.2.2:=by rw [xG] at ao;omega
      have D9:=bG (n:=(gC w (i:Int)).2.2.1+((k:Int)+1)) (by omega) (by omega);have lJ:cn (l.length+(0+1)):=by unfold cn;omega
      refine ⟨?_,λbf aa=>?_⟩
      ·have lF:∀ t∈w.2.2.2,x4.sh (t,some (i:Int),some w,some ((gC w (i:Int)).2.2.1+(k:Int)))=A.pure (uk w (i:Int) ((gC w (i:Int)).2.2.1+(k:Int)) t):=λt aL=>A.bU ⟨_,_,_,rfl,hw,nT,(anl hw.2 aL).2⟩ _;simp only [rU,decide_true,if_true,Dj];rw [A.bH (by exact ⟨h.2.2.1,λt aL=>⟨_,lF t aL⟩⟩)];have e:(w.2.2.2.all λy=>(A.dR (x4.pre (y,some (i:Int),some w,some ((gC w (i:Int)).2.2.1+(k:Int)))) (x4.g (y,some (i:Int),some w,some ((gC w (i:Int)).2.2.1+(k:Int))))).val false)=w.2.2.2.all (uk w (i:Int) ((gC w (i:Int)).2.2.1+(k:Int))):=HU λt aL=>A.gI;rw [e];by_cases aa:w.2.2.2.all (uk w (i:Int) ((gC w (i:Int)).2.2.1+(k:Int)))=true
       ·simp only [aa,if_true,ct,jn,A.bH lJ,A.aJ,A.b2,D9,W.hj,Int.natCast_add,Int.natCast_one,Int.add_assoc]
       ·simp only [aa,Bool.false_eq_true,if_false,ct,jn,A.aJ,A.b2,D9,W.hj,Int.natCast_add,Int.natCast_one,Int.add_assoc]
      grind
     ·intro l anP;have:¬(gC w (i:Int)).2.2.1+((et (gC w (i:Int)).2.2.1 (gC w (i:Int)).2.2.2).length:Int)<=(gC w (i:Int)).2.2.2:=by rw [xG];omega
      simp only [this,decide_false,Bool.false_eq_true,if_false,A.aJ]
    grind
   simp
 grind
theorem anQ (x):A.le (Nb hX.sh (jw jU).sh x4.sh x) (AN.sh x):=A.bx λh=>anN x.1 x.2 h
theorem anR (x):A.le (Vg x) (HT.sh x):=A.bx λ_=>by
 unfold Vg;simp only [HS,decide_eq_true_eq];grind
theorem YQ (w:bp):(pI w).length=w.1.length:=by simp [pI]
theorem OS {w:bp} {i:Int} (h:gW w i=true):List.getD (pI w) i.toNat []=gX w i:=by
 rw [uh] at h;have:i.toNat<w.1.length:=by omega
 have e:((i.toNat:Nat):Int)=i:=by omega
 simp [pI,List.getD_eq_getElem?_getD,this,e]
abbrev anS:ad:=.bI (.st (.aA kD (.slice fS)))
def anT (o:Option qp) (w:bp):Prop:=o=some (w,pI w)/\qA w
abbrev H0:aO:=⟨.aA anS (.aA bu (.aA bu bu)),bu,λx=>∃ w,anT x.1 w/\gW w x.2.1=true/\iM w x.2.2.1 x.2.2.2=true,λx=>um ((x.1.getD (([],[],0,[]),[])).1) x.2.1 x.2.2.1 x.2.2.2⟩
theorem anU (w:bp) (i m k:Int) (hw:qA w) (M:gW w i=true) (hm:iM w m k=true):Nc D4.sh HT.sh (some (w,pI w),i,m,k)=A.pure (um w i m k):=by
 unfold Nc;have lJ:=YF hw M;have cf:0<=i/\i<((pI w).length:Int):=by rw [YQ];exact uh.1 M
 simp only [Option.isSome_some,Option.getD_some,A.bw,bZ,OS M,A.bH cf];rw [A.gA (gX w i) (λj (n:Int)=>(some (w,pI w),i,m,k,n,gX w i,((gX w i).length:Int),(j:Int),())) (λx n=>.next (if vM w i x m k=true then n+1 else n)) (λn=>.next (some (w,pI w),i,n,())) (λj n=>0<=n/\n<=(j:Int)) 0 ?_ ?_ ?_ ?_]
 ·rw [er,YH];simp only [A.aJ,A.b2,Option.isSome_some,Option.getD_some,A.bw,A.bH cf,OS M,aO.sh,A.dI,Int.zero_add];rfl
 ·rfl
 ·simp
 ·intro j aH n aD;have anV:=bG (n:=(j:Int)+1) (by omega) (by omega);have AO:=bG (n:=n+1) (by omega) (by omega);have ar:qA w/\gW w i=true/\iM w m k=true:=⟨hw,M,hm⟩
  refine ⟨?_,λbf aa=>?_⟩
  ·simp only [cY aH,if_true,dm aH,cJ aH,A.bw,Option.isSome_some,Option.getD_some,aO.sh,A.dI,A.bH ar,ct,AO];cases vM w i (gX w i)[j] m k<;>simp [anV]
  grind
 simp
theorem anW (x):A.le (Nc D4.sh HT.sh x) (H0.sh x):=A.bx λh=>by
 obtain ⟨o,i,m,k⟩:=x;obtain ⟨w,⟨aw,hw⟩,M,hm⟩:=h;change o=_ at aw;subst aw;exact anU w i m k hw M hm
theorem YR {w:bp} {b_:Bool} (h:eI w b_=0):hp w b_=(some (w,pI w),0):=by simp [hp,h]
theorem YS {w:bp} {b_:Bool} (h:eI w b_≠0):hp w b_=(none,eI w b_):=by simp [hp,h]
theorem anX (w:bp) (i:Int) (h:gM w):M_ AN.sh pF.sh (w,i)=A.pure (vO w i):=by
 unfold M_ vO;simp only [aO.sh,A.nW,A.gI,h,A.bw];by_cases ao:eI w (gW w i)=0
 ·have hw:=YG h ao;have M:=(D5 ao).2.1;have ar:=anp (D5 ao).2.2 M;have lJ:=YF hw M;have hZ:=bG (n:=((gX w i).length:Int) - 1) (by omega) (by omega);have aF:(((gX w i).length:Int) - 1).toNat=(gX w i).length - 1:=by omega
  have sj:0<=i/\i<((pI w).length:Int):=by rw [YQ];exact uh.1 M
  have cf:(0:Int)<=0/\(0:Int)<((gX w i).length:Int):=by omega
  have cF:(0:Int)<=((gX w i).length:Int) - 1/\((gX w i).length:Int) - 1<((gX w i).length:Int):=by omega
  simp only [YR ao,ao,ne_eq,not_true,decide_false,Bool.false_eq_true,if_false,Option.isSome_some,Option.getD_some,A.bw,bZ,OS M,A.bH sj,hZ,aF,A.bH cF];simp_all
 ·simp [YS ao,ao]
theorem anY (x):A.le (M_ AN.sh pF.sh x) (x2.sh x):=A.bx λh=>anX x.1 x.2 h
theorem anZ (w:bp) (i m k:Int) (h:gM w):M' AN.sh pF.sh rs.sh H0.sh (w,i,m,k)=A.pure (qB w i m k):=by
 unfold M' qB;simp only [aO.sh,A.nW,A.gI,h,A.bw,and_true,and_self,imp_self,true_and];by_cases ao:eI w (gW w i&&iM w m k)=0
 ·have hw:=YG h ao;have M:=(D5 ao).2.1;simp only [Bool.and_eq_true] at M;simp only [YR ao,ao,ne_eq,not_true,decide_false,Bool.false_eq_true,if_false,A.dI];rw [A.bH (by exact ⟨w,⟨rfl,hw⟩,M.1,M.2⟩)];rfl
 ·simp [YS ao,ao]
theorem an0 (x):A.le (M' AN.sh pF.sh rs.sh H0.sh x) (AK.sh x):=A.bx λh=>anZ x.1 x.2.1 x.2.2.1 x.2.2.2 h
end Go.Fer
namespace Go.Fer
open A (W)
set_option linter.unusedVariables false
set_option linter.unusedSimpArgs false
theorem OT {n:Int} (G:0<=n) (V:n<18446744073709551616):IntKind.u64.wrap n=n:=by
 show (if (false&&decide (n % 2 ^ 64>=(2 ^ (64 - 1):Int)))=true then n % 2 ^ 64 - 2 ^ 64 else n % 2 ^ 64)=n;grind
theorem YT:∀ (n:Nat) (l:z1'),l.Nodup->(∀ x∈l,0<=x/\x<(n:Int))->l.length<=n
 | 0,l,_,h=>by
  cases l with
  | nil=>simp
  | cons x l=>have:=h x (by simp);omega
 | n+1,l,aD,h=>by
  have V:=YT n (l.erase (n:Int)) (aD.erase _) λx aj=>by
   grind
  grind
end Go.Fer
namespace Go.Fer
open A (W)
set_option linter.unusedVariables false
set_option linter.unusedSimpArgs false
theorem A.an1 {D aK:Type} {body:D->A (W D aK)} {p:aK->Prop} {s0:D} (n:Nat) (I:Nat->D->Prop) (aY:I 0 s0)
  (aG:∀ i,i<n->∀ s,I i s->A.cv (body s) λst=>match st with | .next s'=>I (i+1) s' | .done r=>p r)
  (aw:∀ s,I n s->A.cv (body s) λst=>match st with | .next _=>False | .done r=>p r):A.cv (A.loop body s0) p:=by
 have key:∀ k i s,n - i=k->i<=n->I i s->A.cv (A.loop body s) p:=by
  intro k;induction k with
  | zero=>
   intro i s ao M h;have:i=n:=by omega
   subst this;rw [A.Bl,A.fT];refine (aw s h).mono λy aS=>?_;cases y with
   | next s'=>grind
   | done r=>exact A.ea.2 aS
  | succ k aM=>
   intro i s ao M h;rw [A.Bl,A.fT];refine (aG i (by omega) s h).mono λy aS=>?_;cases y with
   | next s'=>grind
   | done r=>exact A.ea.2 aS
 grind
end Go.Fer
namespace Go.Fer
open A (W)
set_option linter.unusedVariables false
set_option linter.unusedSimpArgs false
def OU (x:Int×Int):Int:=IntKind.wrap .u64
 (Add.add (IntKind.wrap .u64 (Add.add (IntKind.wrap .u64 (jd .u64 x.1 32*jd .u64 x.2 32)) (jd .u64 (IntKind.wrap .u64 (Add.add (IntKind.wrap
 .u64 (jd .u64 x.1 32*lC .u64 x.2 4294967295)) (jd .u64 (IntKind.wrap .u64 (lC .u64 x.1 4294967295*lC .u64 x.2 4294967295)) 32))) 32)))
 (jd .u64 (IntKind.wrap .u64 (Add.add (lC .u64 (IntKind.wrap .u64 (Add.add (IntKind.wrap .u64 (jd .u64 x.1 32*lC .u64 x.2 4294967295)) (jd
 .u64 (IntKind.wrap .u64 (lC .u64 x.1 4294967295*lC .u64 x.2 4294967295)) 32))) 4294967295) (IntKind.wrap .u64 (lC .u64 x.1 4294967295*jd
 .u64 x.2 32)))) 32))
def H2:Nat->Bool
 | 0=>true
 | n+1=>decide (OU (1,(n:Int))=0)&&H2 n
theorem YU:∀ (N n:Nat),H2 N=true->n<N->OU (1,(n:Int))=0
 | 0,n,_,h=>by omega
 | N+1,n,hc,h=>by
  simp only [H2,Bool.and_eq_true,decide_eq_true_eq] at hc;by_cases e:n=N
  ·grind
  ·exact YU N n hc.2 (by omega)
end Go.Fer
namespace Go.Fer
open A (W)
set_option linter.unusedVariables false
set_option linter.unusedSimpArgs false
theorem an2 {al β aK:Type} {f:al->β->W β aK} {fin:β->aK} (I:Nat->β->Prop) (Q:aK->Prop) (l:List al) (b:β) (aY:I 0 b)
  (aG:∀ i (h:i<l.length) b,I i b->match f l[i] b with | .next bf=>I (i+1) bf | .done r=>Q r) (aw:∀ b,I l.length b->Q (fin b)):Q (eX f fin l b):=by
 have key:∀ (k:Nat) (r:List al) (b:β),k<=l.length->r=l.drop k->I k b->Q (eX f fin r b):=by
  intro k r;induction r generalizing k with
  | nil=>
   intro b ao U eF;have:k=l.length:=by have:=congrArg List.length U;grind
   subst this;exact aw b eF
  | cons x r aM=>
   intro b ao U eF;have ch:k<l.length:=by
    grind
   rw [List.drop_eq_getElem_cons ch] at U;injection U with aj U
   have G:=aG k ch b eF;rw [<-aj] at G;simp only [eX];grind
 grind
def cP (m:z4') (k:Int):Int:=(uo m k).getD 0
theorem an3 (m:z4') (k:Int):Option.getD (Option.map (λx=>x.2) (List.find? (λp=>decide (k=p.1)) m)) 0=cP m k:=rfl
theorem AP (k v k':Int) (m:z4'):cP (e9 m k v) k'=if k'=k then v else cP m k':=by
 unfold cP;rw [YL];grind
def rv (n:Nat) (m:z4'):Nat:=(List.range n).countP λ(s:Nat)=>decide (cP m (s:Int)=0)
theorem YV {p q:Nat->Bool} {s:Nat} (h:∀ x,x≠s->p x=q x) (ar:p s=true) (br:q s=false):∀ (l:List Nat),l.Nodup->s∈l->l.countP p=l.countP q+1
 | [],_,aG=>by cases aG
 | x::l,aD,aG=>by
  rw [List.nodup_cons] at aD;rw [List.countP_cons,List.countP_cons];by_cases e:x=s
  ·subst e;have:l.countP p=l.countP q:=List.countP_congr λy aS=>by
    grind
   grind
  ·have:=YV h ar br l aD.2 (by grind);grind
theorem YW {n:Nat} {m:z4'} {s v:Int} (aY:0<=s) (aD:s<(n:Int)) (hm:cP m s=0) (af:v≠0):rv n m=rv n (e9 m s v)+1:=by
 unfold rv;refine YV (s:=s.toNat) (λx aj=>?_) ?_ ?_ _ List.nodup_range (by grind)
 ·rw [AP,if_neg (by omega)]
 ·grind
 ·rw [AP,if_pos (by omega)];grind
theorem YX {n:Nat} {a b:z4'} (h:∀ k,0<=cP a k/\cP a k<=cP b k):rv n b<=rv n a:=by
 unfold rv;refine List.countP_mono_left λx _ aj=>?_;grind
abbrev kZ:=z1'×z4'
end Go.Fer
namespace Go.Fer
open A (W)
set_option linter.unusedVariables false
set_option linter.unusedSimpArgs false
def W.uq {β aK jl:Type} (g:aK->jl):W β aK->W β jl
 | .next b=>.next b
 | .done r=>.done (g r)
def x5 {al β aK:Type} (f:al->β->W β aK):List al->β->W β aK
 | [],b=>.next b
 | x::l,b=>match f x b with
  | .next bf=>x5 f l bf
  | .done r=>.done r
def W.fin {β aK:Type} (n:β->aK):W β aK->aK
 | .next b=>n b
 | .done r=>r
theorem OV {al β aK:Type} {f:al->β->W β aK} {n:β->aK}:∀ (l:List al) (b:β),eX f n l b=W.fin n (x5 f l b)
 | [],b=>rfl
 | x::l,b=>by
  simp only [eX,x5];cases f x b with
  | next bf=>exact OV l bf
  | done r=>rfl
theorem YY {al β aK jl:Type} {f:al->β->W β aK} {g:aK->jl}:∀ (l:List al) (b:β),x5 (λx b=>W.uq g (f x b)) l b=W.uq g (x5 f l b)
 | [],b=>rfl
 | x::l,b=>by
  simp only [x5];cases f x b with
  | next bf=>exact YY l bf
  | done r=>rfl
end Go.Fer
namespace Go.Fer
open A (W)
set_option linter.unusedVariables false
set_option linter.unusedSimpArgs false
def an4 (w:bp):Prop:=w.1.length<=2000000/\w.2.1.length<=2000000/\w.2.2.2.length<=2000000/\∀ m∈w.2.1,m.length<=2000000/\∀ s∈m,s.2.1.length<=2000000
end Go.Fer
namespace Go.Fer
open A (W)
set_option linter.unusedVariables false
set_option linter.unusedSimpArgs false
def x6 (m:List (Int×z1'×Int×Int)):Bool:=decide ((m.length:Int) > 20)||m.any λs=>decide ((s.2.1.length:Int) > 20)
def lZ (w:bp):Bool:=
 if (decide ((w.1.length:Int) > 40)||decide ((w.2.1.length:Int) > 40)||decide ((w.2.2.2.length:Int) > 60))=true then true
 else if w.2.1.any x6=true then true
 else if cL w≠0 then false
 else if (w.1.any λs=>decide (IntKind.i64.wrap (s.2.2.2 - s.2.2.1)>=50))=true then true
 else decide ((w.1.length:Int) > 6)||decide ((w.2.1.length:Int) > 4)||decide ((w.2.2.2.length:Int) > 10)
abbrev vG:aO:=⟨kD,de,gM,lZ⟩
theorem an5 (w:bp) (h:gM w):Nf hX.sh w=A.pure (lZ w):=by
 unfold Nf lZ;simp only [bZ];by_cases G:(decide ((w.1.length:Int) > 40)||decide ((w.2.1.length:Int) > 40)||decide ((w.2.2.2.length:Int) > 60))=true
 ·grind
 ·rw [if_neg G,if_neg G];have ak:=h;obtain ⟨dx,dP,oh,ur⟩:=h;rw [A.dK w.2.1 (λi (_:Unit)=>((i:Int),w,())) (λm u=>if x6 m=true then .done (.done true) else .next u) (λ_=>.next (w,())) () ?_ ?_ ?_]
  ·rw [rj];by_cases V:w.2.1.any x6=true
   ·simp only [V,if_true,A.aJ,A.pr]
   ·simp only [V,Bool.false_eq_true,if_false,A.aJ,A.b2,aO.sh,A.dI,A.bH ak];by_cases ah:cL w=0
    ·simp only [ah,ne_eq,not_true,decide_false,Bool.false_eq_true,if_false];rw [A.dK w.1 (λi (_:Unit)=>((i:Int),w,())) (λs u=>if decide (IntKind.i64.wrap (s.2.2.2 - s.2.2.1)>=50)=true then .done (.done true) else .next u) (λ_=>.next (w,())) () ?_ ?_ ?_]
     ·rw [rj];by_cases a7:(w.1.any λs=>decide (IntKind.i64.wrap (s.2.2.2 - s.2.2.1)>=50))=true
      ·simp_all
      ·simp only [a7,Bool.false_eq_true,if_false,A.aJ,A.b2]
     ·rfl
     ·intro i M u;have lr:=bG (n:=(i:Int)+1) (by omega) (by omega);simp only [bZ,cY M,if_true,cJ M,A.bw,dm M,A.aJ,ct,lr];exact mW (mk:=λ_:Unit=>((i:Int)+1,w,()))
     simp
    grind
  ·rfl
  ·intro i M u;have lr:=bG (n:=(i:Int)+1) (by omega) (by omega);have hm:=ur _ (List.getElem_mem M);simp only [bZ,cY M,if_true,cJ M,A.bw,dm M,A.aJ];by_cases bM:decide ((w.2.1[i].length:Int) > 20)=true
   ·have aw:x6 w.2.1[i]=true:=by unfold x6;grind
    simp_all
   ·have aw:x6 w.2.1[i]=w.2.1[i].any λs=>decide ((s.2.1.length:Int) > 20):=by unfold x6;grind
    rw [if_neg bM];rw [A.dK w.2.1[i] (λk (_:Unit)=>((i:Int),(k:Int),w,())) (λs u=>if decide ((s.2.1.length:Int) > 20)=true then .done (.done (.done (.done true))) else .next u) (λ_=>.next ((i:Int),w,())) () ?_ ?_ ?_]
    ·rw [rj,aw];by_cases dr:(w.2.1[i].any λs=>decide ((s.2.1.length:Int) > 20))=true
     ·simp_all
     ·simp only [dr,Bool.false_eq_true,if_false,A.aJ,A.b2,ct,lr];rfl
    ·rfl
    ·intro k ao u;have mv:=bG (n:=(k:Int)+1) (by omega) (by omega);simp only [cJ M,A.bw,dm M,cY ao,if_true,cJ ao,dm ao,A.aJ,ct,mv];exact mW (mk:=λ_:Unit=>((i:Int),(k:Int)+1,w,()))
    simp_all
  simp
theorem an6 (x):A.le (Nf hX.sh x) (vG.sh x):=A.bx λh=>an5 x h
def H3:bp:=([(1,2,300,310),(1,3,305,305),(2,1,50,60),(1,2,320,330)],[[(1,[2,3],300,306),(2,[1],40,58)],[(1,[2],310,326)]],5,[(0,1,0,0)])
abbrev OW:aO:=⟨.cQ,kD,λ_=>True,λ_=>H3⟩
theorem an7 (x):A.le (ai3 x) (OW.sh x):=A.bx λ_=>rfl
theorem an8:gM H3:=by
 refine ⟨by decide,by decide,by decide,?_⟩;intro m hm;simp only [H3,List.mem_cons,List.not_mem_nil,or_false] at hm;grind
end Go.Fer
namespace Go.Fer
open A (W)
set_option linter.unusedVariables false
set_option linter.unusedSimpArgs false
abbrev nd:ad:=.st (.aA bu (.aA bu (.aA bu (.aA bu fS))))
abbrev mx:ad:=.st (.aA fS (.aA mr (.aA bu (.aA bu bu))))
abbrev pJ:ad:=.st (.aA bu (.aA bu bu))
abbrev l0:ad:=.st (.aA kD (.aA fS (.aA (.slice nd) (.aA (.slice mx) (.aA (.slice pJ) bu)))))
def fu (s:bJ):Prop:=gM s.1/\s.2.1.length<2 ^ 63/\s.2.2.1.length<2 ^ 63/\s.2.2.2.1.length<2 ^ 63/\s.2.2.2.2.1.length<2 ^ 63/\(∀ p∈s.2.2.1,p.2.2.2.2.length<2 ^ 63)/\∀ x∈s.2.2.2.1,x.1.length<2 ^ 63
def b3 (n aZ M:Int):Bool:=decide (aZ<=n)&&decide (n<=M)
def jV (n:Int):Bool:=b3 n 0 99
def jW (p:Int->Bool) (l:z1'):Bool:=(List.range l.length).all λi=>p (l.getD i 0)&&!(decide (0<i)&&decide (l.getD i 0<=l.getD (i - 1) 0))
def D_ (w:bp) (m:Int) (n:Int):Bool:=decide (0<=n)&&decide (n<((jv w m).length:Int))
def pK (w:bp) (p:dy):Bool:=jV p.1&&jV p.2.1&&jV p.2.2.1&&n0 w p.2.2.2.1&&jW (D_ w p.2.2.2.1) p.2.2.2.2
def oS (x:dN):Bool:=b3 (x.1.length:Int) 1 8&&jW jV x.1&&jV x.2.1.1&&jV x.2.1.2&&decide (x.2.1.1<=x.2.1.2)&&jV x.2.2.1&&jV x.2.2.2.1&&b3 x.2.2.2.2 0 100000
def oT (w:bp) (d:Dr):Bool:=jV d.1&&gW w d.2.1&&b3 d.2.2 1 10
def nf (s:bJ):Bool:=decide ((s.2.1.length:Int)=(s.1.1.length:Int))&&(s.2.1.all λn=>b3 n 0 10)&&decide ((s.2.2.1.length:Int)<=8)&&s.2.2.1.all (pK s.1)&&decide ((s.2.2.2.1.length:Int)<=6)&&s.2.2.2.1.all oS&&decide ((s.2.2.2.2.1.length:Int)<=8)&&s.2.2.2.2.1.all (oT s.1)&&jV s.2.2.2.2.2
def ja (s:bJ):Int:=if cL s.1≠0 then cL s.1 else if nf s=true then 0 else 80
theorem an9 (x):A.le (ajn x) (cp.sh x):=A.bx λ_=>rfl
theorem an_ (x):A.le (ajh x) (cp.sh x):=A.bx λ_=>rfl
abbrev ry:aO:=⟨bu,de,λ_=>True,jV⟩
theorem an' (x):A.le (Vz cp.sh x) (ry.sh x):=A.bx λ_=>by
 unfold Vz;simp [aO.sh,cp,jV,b3]
theorem aoa (x):A.le (VD cp.sh x) (ry.sh x):=A.bx λ_=>by
 unfold VD;simp [aO.sh,cp,jV,b3]
abbrev H4:aO:=⟨.aA fS (.fn bu .bool),de,λx=>x.1.length<2 ^ 63/\∀ y∈x.1,∃ b,x.2 y=A.pure b,λx=>jW (λy=>(x.2 y).val false) x.1⟩
theorem aob (x):A.le (VA x) (H4.sh x):=A.bx λh=>by
 obtain ⟨l,f⟩:=x;obtain ⟨G,V⟩:=h;change l.length<2 ^ 63 at G;change ∀ y∈l,∃ b,f y=A.pure b at V;unfold VA;rw [A.dK (List.range l.length) (λi (_:Unit)=>(l,f,l,(l.length:Int),(i:Int),())) (λi b=>if (!((f (l.getD i 0)).val false&&!(decide (0<i)&&decide (l.getD i 0<=l.getD (i - 1) 0))))=true then .done (.done false) else .next b) (λ_=>.next ()) () ?_ ?_ ?_]
 ·rw [kP (q:=λi=>(f (l.getD i 0)).val false&&!(decide (0<i)&&decide (l.getD i 0<=l.getD (i - 1) 0))) _ _ (λ_=>rfl)];show _=A.pure (jW (λy=>(f y).val false) l);unfold jW;cases (List.range l.length).all λi=>(f (l.getD i 0)).val false&&!(decide (0<i)&&decide (l.getD i 0<=l.getD (i - 1) 0))<;>simp
 ·rfl
 ·intro i M b;have M:i<l.length:=by grind
  have hw:=bG (n:=(i:Int)+1) (by omega) (by omega);have gR:=bG (n:=(i:Int) - 1) (by omega) (by omega);have bB:((i:Int) - 1).toNat=i - 1:=by omega
  obtain ⟨c,hc⟩:=V _ (List.getElem_mem M);have js:l.getD i 0=l[i]:=by grind
  have sA:(decide ((i:Int) > 0))=decide (0<i):=by simp
  simp only [bZ,cY M,if_true,List.getElem_range,dm M,cJ M,A.bw,js,hc,A.fE,A.aJ,ct,hw,gR,bB,sA];rw [A.bH (by grind)];cases c<;>cases (decide (0<i)&&decide (l[i]<=l.getD (i - 1) 0))<;>rfl
 simp
abbrev H5:aO:=⟨.aA fS bu,de,λx=>x.1.length<2 ^ 63,λx=>jW (λn=>b3 n 0 x.2) x.1⟩
theorem aoc (x):A.le (VG x) (H5.sh x):=A.bx λh=>by
 obtain ⟨l,m⟩:=x;change l.length<2 ^ 63 at h;unfold VG;rw [A.dK (List.range l.length) (λi (_:Unit)=>(l,m,(i:Int),())) (λi b=>if (!(b3 (l.getD i 0) 0 m&&!(decide (0<i)&&decide (l.getD i 0<=l.getD (i - 1) 0))))=true then .done (.done false) else .next b) (λ_=>.next ()) () ?_ ?_ ?_]
 ·rw [kP (q:=λi=>b3 (l.getD i 0) 0 m&&!(decide (0<i)&&decide (l.getD i 0<=l.getD (i - 1) 0))) _ _ (λ_=>rfl)];show _=A.pure (jW (λn=>b3 n 0 m) l);unfold jW;cases (List.range l.length).all λi=>b3 (l.getD i 0) 0 m&&!(decide (0<i)&&decide (l.getD i 0<=l.getD (i - 1) 0))<;>simp
 ·rfl
 ·intro i M b;have M:i<l.length:=by grind
  have hw:=bG (n:=(i:Int)+1) (by omega) (by omega);have gR:=bG (n:=(i:Int) - 1) (by omega) (by omega);have bB:((i:Int) - 1).toNat=i - 1:=by omega
  have js:l.getD i 0=l[i]:=by grind
  have sA:(decide ((i:Int) > 0))=decide (0<i):=by simp
  simp only [bZ,cY M,if_true,List.getElem_range,dm M,cJ M,A.bw,js,A.aJ,ct,hw,gR,bB,sA];have sj:0<i->(0:Int)<=(i:Int) - 1/\(i:Int) - 1<(l.length:Int):=by omega
  generalize l.getD (i - 1) 0=B;generalize l[i]=aN;by_cases ij:aN<0<;>by_cases tx:aN > m<;>by_cases aY:0<i<;>by_cases aT:aN<=B<;>simp_all [b3,W.hj,A.bH]<;>(grind)<;>(grind)
 simp
end Go.Fer
namespace Go.Fer
open A (W)
set_option linter.unusedVariables false
set_option linter.unusedSimpArgs false
theorem OX {p q:Int->Bool} {l:z1'} (h:∀ y∈l,p y=q y):jW p l=jW q l:=by
 unfold jW;grind
theorem aod (n:Int) (k:Nat):b3 n 0 ((k:Int) - 1)=(decide (0<=n)&&decide (n<(k:Int))):=by
 unfold b3;grind
theorem aoe (a b:Int):decide (a > b)=!decide (a<=b):=by grind
abbrev D':aO:=⟨.aA bu (.aA (.bI kD) (.bI nd)),de,λx=>∃ w p,x.2=(some w,some p)/\gM w/\n0 w p.2.2.2.1=true,λx=>D_ (x.2.1.getD ([],[],0,[])) (x.2.2.getD (0,0,0,0,[])).2.2.2.1 x.1⟩
theorem aof (x):A.le (VB cp.sh x) (D'.sh x):=A.bx λh=>by
 obtain ⟨n,o⟩:=x;obtain ⟨w,p,aw,hw,hm⟩:=h;change o=_ at aw;subst aw;unfold VB;have r:=HQ.1 hm;have ak:=HR hw p.2.2.2.1;have hZ:=bG (n:=((jv w p.2.2.2.1).length:Int) - 1) (by omega) (by omega);unfold jv at hZ;simp only [aO.sh,cp,Option.getD_some,bZ,r,and_self,A.bw,hZ,A.dI,rr];rfl
abbrev Ea:aO:=⟨.aA nd (.bI kD),de,λx=>x.1.2.2.2.2.length<2 ^ 63/\∃ w,x.2=some w/\gM w,λx=>!pK (x.2.getD ([],[],0,[])) x.1⟩
theorem aog (x):A.le (Vy cp.sh ry.sh H4.sh D'.sh x) (Ea.sh x):=A.bx λh=>by
 obtain ⟨p,o⟩:=x;obtain ⟨ar,w,aw,hw⟩:=h;change o=_ at aw;change p.2.2.2.2.length<2 ^ 63 at ar;subst aw;unfold Vy;have ak:=hw.2.1;have hZ:=bG (n:=((w.2.1.length:Int)) - 1) (by omega) (by omega);have aF:(decide (0<=p.2.2.2.1)&&decide (p.2.2.2.1<(w.2.1.length:Int)))=n0 w p.2.2.2.1:=rfl;simp only [aO.sh,cp,Option.getD_some,bZ,A.bw,hZ,A.dI,A.iY,rr,implies_true,qo,aF];have key:n0 w p.2.2.2.1=true->(jW (λy=>(A.dR (D'.pre (y,some w,some p)) (D'.g (y,some w,some p))).val false) p.2.2.2.2)=jW (D_ w p.2.2.2.1) p.2.2.2.2:=λhm=>OX λy aS=>A.gI;rw [A.bH]
 ·show A.pure _=A.pure _;congr 1;show _=!pK w p;unfold pK;simp
 ·intro cR;have hm:n0 w p.2.2.2.1=true:=by
   grind
  exact ⟨ar,λy aS=>⟨_,A.bU ⟨w,p,rfl,hw,hm⟩ _⟩⟩
abbrev Eb:aO:=⟨mx,de,λx=>x.1.length<2 ^ 63,λx=>!oS x⟩
theorem aoh (x):A.le (VC cp.sh ry.sh H4.sh ry.sh x) (Eb.sh x):=A.bx λh=>by
 unfold VC;have key:(jW (λy=>(A.dR (ry.pre y) (ry.g y)).val false) x.1)=jW jV x.1:=OX λy aS=>A.gI;simp only [aO.sh,cp,bZ,A.bw,A.dI,A.iY,implies_true,qo];rw [A.bH]
 ·show A.pure _=A.pure (!oS x);congr 1;unfold oS;rw [key];have e:decide (x.2.1.1 > x.2.1.2)=!decide (x.2.1.1<=x.2.1.2):=by grind
  rw [e];show _=!(b3 (x.1.length:Int) 1 8&&_&&_&&_&&_&&_&&_&&_);unfold b3;simp
 ·exact λ_=>⟨h,λy aS=>⟨_,A.bU trivial _⟩⟩
abbrev Ec:aO:=⟨.aA pJ (.bI kD),de,λx=>∃ w,x.2=some w/\gM w,λx=>!oT (x.2.getD ([],[],0,[])) x.1⟩
theorem aoi (x):A.le (VE cp.sh ry.sh x) (Ec.sh x):=A.bx λh=>by
 obtain ⟨d,o⟩:=x;obtain ⟨w,aw,hw⟩:=h;change o=_ at aw;subst aw;unfold VE;have ak:=hw.1;have hZ:=bG (n:=((w.1.length:Int)) - 1) (by omega) (by omega);simp only [aO.sh,cp,Option.getD_some,bZ,A.bw,hZ,A.dI,A.iY,rr,implies_true,qo];show A.pure _=A.pure (!oT w d);congr 1;unfold oT gW b3;simp
abbrev Ed:aO:=⟨bu,de,λ_=>True,λn=>!b3 n 0 10⟩
theorem aoj (x):A.le (VF cp.sh x) (Ed.sh x):=A.bx λ_=>by
 unfold VF;simp [aO.sh,cp,b3]
theorem H6 {al:Type} {p q:al->Bool} {l:List al} (h:∀ x∈l,p x=!q x):l.any p=!l.all q:=by
 grind
abbrev OY:aO:=⟨l0,de,fu,nf⟩
theorem aok (x):A.le (Vr ry.sh (iZ bu).sh (iZ nd).sh (iZ mx).sh (iZ pJ).sh Ea.sh Ec.sh Eb.sh Ed.sh x) (OY.sh x):=A.bx λh=>by
 obtain ⟨G,V,ah,a7,bM,dr,fY⟩:=h;unfold Vr;simp only [aO.sh,bZ,A.bw,A.dI,A.iY,implies_true];have aU:(x.2.1.any λy=>(A.dR (Ed.pre y) (Ed.g y)).val false)=!x.2.1.all λn=>b3 n 0 10:=H6 λy _=>A.gI;have aX:(x.2.2.1.any λy=>(A.dR (Ea.pre (y,some x.1)) (Ea.g (y,some x.1))).val false)=!x.2.2.1.all (pK x.1):=H6 λy _=>A.gI;have bP:(x.2.2.2.1.any λy=>(A.dR (Eb.pre y) (Eb.g y)).val false)=!x.2.2.2.1.all oS:=H6 λy _=>A.gI;have gx:(x.2.2.2.2.1.any λy=>(A.dR (Ec.pre (y,some x.1)) (Ec.g (y,some x.1))).val false)=!x.2.2.2.2.1.all (oT x.1):=H6 λy _=>A.gI;rw [A.bH,A.bH,A.bH,A.bH]
 ·show A.pure _=A.pure (nf x);congr 1;unfold nf;grind
 ·exact λ_=>⟨bM,λy aS=>⟨_,A.bU ⟨_,rfl,G⟩ _⟩⟩
 ·exact λ_=>⟨a7,λy aS=>⟨_,A.bU (fY y aS) _⟩⟩
 ·exact λ_=>⟨ah,λy aS=>⟨_,A.bU ⟨dr y aS,_,rfl,G⟩ _⟩⟩
 ·exact λ_=>⟨V,λy aS=>⟨_,A.bU trivial _⟩⟩
abbrev pL:aO:=⟨l0,bu,fu,ja⟩
theorem aol (x):A.le (Vk hX.sh OY.sh x) (pL.sh x):=A.bx λh=>by
 unfold Vk;simp only [aO.sh,A.dI,A.bH h.1];show _=A.pure (ja x);unfold ja;by_cases hc:cL x.1=0
 ·simp only [hc,ne_eq,not_true,decide_false,Bool.false_eq_true,if_false,A.bH h];grind
 grind
abbrev H7:aO:=⟨.aA l0 nd,de,λx=>fu x.1/\x.2.2.2.2.2.length<2 ^ 63,λx=>pK x.1.1 x.2⟩
theorem aom (x):A.le (Vs cp.sh H5.sh x) (H7.sh x):=A.bx λh=>by
 obtain ⟨s,p⟩:=x;obtain ⟨aG,ar⟩:=h;change fu s at aG;change p.2.2.2.2.length<2 ^ 63 at ar;unfold Vs;have ak:=aG.1.2.1;have gh:=HR aG.1 p.2.2.2.1;have hZ:=bG (n:=((s.1.2.1.length:Int)) - 1) (by omega) (by omega);have D9:=bG (n:=((jv s.1 p.2.2.2.1).length:Int) - 1) (by omega) (by omega);unfold jv at D9;have aF:(decide (0<=p.2.2.2.1)&&decide (p.2.2.2.1<(s.1.2.1.length:Int)))=n0 s.1 p.2.2.2.1:=rfl;simp only [aO.sh,cp,bZ,A.bw,hZ,D9,A.dI,A.iY,rr,implies_true,qo,aF,A.nW,A.gI];show _=A.pure (pK s.1 p);unfold pK;have DJ:jW (λn=>b3 n 0 (((List.getD s.1.2.1 (Int.toNat p.2.2.2.1) []).length:Int) - 1)) p.2.2.2.2=jW (D_ s.1 p.2.2.2.1) p.2.2.2.2:=OX λy _=>aod y _;rw [DJ];cases hm:n0 s.1 p.2.2.2.1
 ·simp
 ·have r:=HQ.1 hm;rw [A.bH r,A.bH (by exact ar)];unfold jV b3;grind
abbrev H8:aO:=⟨mx,de,λx=>x.1.length<2 ^ 63,oS⟩
theorem aon (x):A.le (Vt cp.sh H5.sh x) (H8.sh x):=A.bx λh=>by
 unfold Vt;simp only [aO.sh,cp,bZ,A.bw,A.dI,A.iY,implies_true];rw [A.bH (by omega)];show A.pure _=A.pure (oS x);congr 1;unfold oS;have DJ:jW (λn=>b3 n 0 99) x.1=jW jV x.1:=rfl;rw [DJ];unfold jV b3;grind
theorem aoo (x):A.le (Vl hX.sh cp.sh H7.sh H8.sh x) (pL.sh x):=A.bx λh=>by
 have aG:=h;obtain ⟨G,V,ah,a7,bM,dr,fY⟩:=h;unfold Vl;simp only [aO.sh,A.dI,A.bH G];show _=A.pure (ja x);unfold ja;by_cases hc:cL x.1=0
 ·simp only [hc,ne_eq,not_true,decide_false,Bool.false_eq_true,if_false,cp,A.iY,A.dI,implies_true,A.bw,bZ,qo,decide_not];have e:(!decide ((x.2.1.length:Int)=(x.1.1.length:Int))||decide ((x.2.2.1.length:Int) > 8)||decide ((x.2.2.2.1.length:Int) > 6)||decide ((x.2.2.2.2.1.length:Int) > 8)||!(decide (0<=x.2.2.2.2.2)&&decide (x.2.2.2.2.2<=99)))=!(decide ((x.2.1.length:Int)=(x.1.1.length:Int))&&decide ((x.2.2.1.length:Int)<=8)&&decide ((x.2.2.2.1.length:Int)<=6)&&decide ((x.2.2.2.2.1.length:Int)<=8)&&jV x.2.2.2.2.2):=by
   simp only [aoe,jV,b3,Bool.not_and]
  rw [e];by_cases cR:(decide ((x.2.1.length:Int)=(x.1.1.length:Int))&&decide ((x.2.2.1.length:Int)<=8)&&decide ((x.2.2.2.1.length:Int)<=6)&&decide ((x.2.2.2.2.1.length:Int)<=8)&&jV x.2.2.2.2.2)=true
  ·rw [if_neg (by grind)]
   ·rw [A.dK x.2.1 (λi (_:Unit)=>((i:Int),x,())) (λn b=>if (!b3 n 0 10)=true then .done (.done (80:Int)) else .next b) (λ_=>.next (x,())) () ?_ ?_ ?_]
    ·rw [kP (q:=λn=>b3 n 0 10) _ _ (λ_=>rfl)];cases ij:x.2.1.all λn=>b3 n 0 10 with
     | false=>simp [nf,ij]
     | true=>
      simp only [A.aJ,if_true,A.b2];rw [A.dK x.2.2.1 (λi (_:Unit)=>((i:Int),x,())) (λp b=>if (!pK x.1 p)=true then .done (.done (80:Int)) else .next b) (λ_=>.next (x,())) () ?_ ?_ ?_]
      ·rw [kP (q:=pK x.1) _ _ (λ_=>rfl)];cases aT:x.2.2.1.all (pK x.1) with
       | false=>simp [nf,aT]
       | true=>
        simp only [A.aJ,if_true,A.b2];rw [A.dK x.2.2.2.1 (λi (_:Unit)=>((i:Int),x,())) (λp b=>if (!oS p)=true then .done (.done (80:Int)) else .next b) (λ_=>.next (x,())) () ?_ ?_ ?_]
        ·rw [kP (q:=oS) _ _ (λ_=>rfl)];cases ji:x.2.2.2.1.all oS with
         | false=>simp [nf,ji]
         | true=>
          simp only [A.aJ,if_true,A.b2];rw [A.dK x.2.2.2.2.1 (λi (_:Unit)=>((i:Int),x,())) (λp b=>if (!oT x.1 p)=true then .done (.done (80:Int)) else .next b) (λ_=>.next ()) () ?_ ?_ ?_]
          ·rw [kP (q:=oT x.1) _ _ (λ_=>rfl)];simp only [Bool.and_eq_true] at cR;cases ON:x.2.2.2.2.1.all (oT x.1)<;>simp [nf,ij,aT,ji,ON,cR]
          ·rfl
          ·intro i M b;have hw:=bG (n:=(i:Int)+1) (by omega) (by omega);have ak:=G.1;have hZ:=bG (n:=((x.1.1.length:Int)) - 1) (by omega) (by omega);simp only [bZ,cY M,if_true,dm M,cJ M,A.bw,A.aJ,ct,hw,hZ,qo,rr];have e:(!(decide (0<=(x.2.2.2.2.1[i]).1)&&decide ((x.2.2.2.2.1[i]).1<=99))||!(decide (0<=(x.2.2.2.2.1[i]).2.1)&&decide ((x.2.2.2.2.1[i]).2.1<(x.1.1.length:Int)))||!(decide (1<=(x.2.2.2.2.1[i]).2.2)&&decide ((x.2.2.2.2.1[i]).2.2<=10)))=!oT x.1 x.2.2.2.2.1[i]:=by
            unfold oT jV gW b3;simp
           rw [e];exact mW (mk:=λ_:Unit=>((i:Int)+1,x,()))
          simp
        ·rfl
        ·intro i M b;have hw:=bG (n:=(i:Int)+1) (by omega) (by omega);simp only [bZ,cY M,if_true,dm M,cJ M,A.bw,A.aJ,ct,hw,A.bH (show H8.pre x.2.2.2.1[i] from fY _ (List.getElem_mem M))];exact mW (mk:=λ_:Unit=>((i:Int)+1,x,()))
        simp
      ·rfl
      ·intro i M b;have hw:=bG (n:=(i:Int)+1) (by omega) (by omega);simp only [bZ,cY M,if_true,dm M,cJ M,A.bw,A.aJ,ct,hw,A.nW,A.gI,A.bH (show H7.pre (x,x.2.2.1[i]) from ⟨aG,dr _ (List.getElem_mem M)⟩)];exact mW (mk:=λ_:Unit=>((i:Int)+1,x,()))
      simp
    ·rfl
    ·intro i M b;have hw:=bG (n:=(i:Int)+1) (by omega) (by omega);simp only [bZ,cY M,if_true,dm M,cJ M,A.bw,A.aJ,ct,hw];exact mW (mk:=λ_:Unit=>((i:Int)+1,x,()))
    simp
  ·rw [if_pos (by grind)]
   ·have:nf x=false:=by
     unfold nf;grind
    grind
 grind
end Go.Fer
namespace Go.Fer
open A (W)
set_option linter.unusedVariables false
set_option linter.unusedSimpArgs false
theorem aop:H2 201=true:=by decide +kernel
abbrev sM:aO:=⟨.aA (.int .u64) (.int .u64),.aA (.int .u64) (.int .u64),λx=>x.1=1/\0<=x.2/\x.2<=200,λx=>(0,x.2)⟩
theorem aoq (x):A.le (U8 x) (sM.sh x):=A.bx λh=>by
 obtain ⟨a,b⟩:=x;obtain ⟨G,V,ah⟩:=h;change a=1 at G;change 0<=b at V;change b<=200 at ah;subst G;have aY:=YU 201 b.toNat aop (by omega);rw [Int.toNat_of_nonneg V] at aY;have hw:=OT (n:=1*b) (by omega) (by omega);have aor:((0:Int)<=32)=True:=by simp
 unfold U8;simp only [aor,A.bw];show A.pure (OU (1,b),IntKind.wrap .u64 (1*b))=_;grind
theorem aos (aot) (x):A.le (U6 aot sM.sh x) (sM.sh x):=A.bx λh=>by
 unfold U6;simp only [aO.sh,A.dI];simp_all
section
variable {al β:Type}
theorem aou (a d:al) (m J:Nat) (G:1<=m) (V:m<J) :
  List.take m (List.replicate m a++List.replicate (J - m) d)++List.take (J - m) (List.take m (List.replicate m a++List.replicate (J - m) d))++
   List.drop (m+(List.take (J - m) (List.take m (List.replicate m a++List.replicate (J - m) d))).length) (List.replicate m a++List.replicate (J - m) d)
  =List.replicate (m+min (J - m) m) a++List.replicate (J - (m+min (J - m) m)) d:=by
 have aF:List.take m (List.replicate m a++List.replicate (J - m) d)=List.replicate m a:=by
  simp
 rw [aF,List.take_replicate,List.replicate_append_replicate,List.length_replicate,List.drop_append,List.length_replicate];have bB:List.drop (m+min (J - m) m) (List.replicate m a)=[]:=by simp
 grind
def YZ (d:al) (fin:List al->A β) (xJ:Int×Int->A (Int×Int)) (x:List al) (n:Int):A β:=
 A.bind (if decide (n<0)=true then A.ae False (A.ae False (A.pure (W.next (x,n,())))) else A.pure (W.next (x,n,())))
 (W.bC λ(D:List al×Int×Unit)=>A.bind (xJ (IntKind.wrap .u64 (Int.ofNat (List.length D.1)),IntKind.wrap .u64 D.2.1)) λy
 =>A.bind (if (decide (y.1 > 0)||decide (y.2 > 9223372036854775807))=true then A.ae False (A.ae False (A.pure (W.next (D.1,y.2,())))) else
 A.pure (W.next (D.1,y.2,()))) (W.bC λ(D:List al×Int×Unit)=>A.ae (0<=IntKind.wrap .i64 D.2.1/\IntKind.wrap .i64 D.2.1=
 IntKind.wrap .i64 D.2.1/\cn (Int.toNat (IntKind.wrap .i64 D.2.1))) (A.ae True (A.bind (A.loop (λ(D:Int×List al×Unit)=>if decide (D.1
 < Int.ofNat (List.length D.2.1))=true then A.ae (0<=D.1/\D.1<=Int.ofNat (List.length D.2.1)/\Int.ofNat (List.length D.2.1)<=Int.ofNat
 (List.length D.2.1)) (A.ae ((0:Int)<=0/\0<=D.1/\D.1<=Int.ofNat (List.length D.2.1)) (A.ae True (A.pure (W.next (IntKind.wrap .i64
 (Add.add D.1 (Int.ofNat (if Int.toNat (Int.ofNat (List.length D.2.1)) - Int.toNat D.1<=List.length (List.take (Int.toNat D.1) D.2.1) then Int.toNat
 (Int.ofNat (List.length D.2.1)) - Int.toNat D.1 else List.length (List.take (Int.toNat D.1) D.2.1)))),List.take (Int.toNat D.1) D.2.1++List.take
 (Int.toNat (Int.ofNat (List.length D.2.1)) - Int.toNat D.1) (List.take (Int.toNat D.1) D.2.1)++List.drop (Add.add (Int.toNat D.1) (List.length
 (List.take (Int.toNat (Int.ofNat (List.length D.2.1)) - Int.toNat D.1) (List.take (Int.toNat D.1) D.2.1)))) D.2.1,()))))) else A.bind (A.pure
 (W.next (D.2.1,()))) λr=>A.pure (W.done r)) (Int.ofNat (if List.length (List.replicate (Int.toNat (IntKind.wrap .i64 D.2.1)) d) - 0<=
 List.length D.1 then List.length (List.replicate (Int.toNat (IntKind.wrap .i64 D.2.1)) d) - 0 else List.length D.1),[]++List.take (List.length
 (List.replicate (Int.toNat (IntKind.wrap .i64 D.2.1)) d) - 0) D.1++List.drop (Add.add 0 (List.length (List.take (List.length (List.replicate
 (Int.toNat (IntKind.wrap .i64 D.2.1)) d) - 0) D.1))) (List.replicate (Int.toNat (IntKind.wrap .i64 D.2.1)) d),())) (W.bC λ(D:List al×
 Unit)=>fin D.1)))))
theorem OZ (d a:al) (LS:List al->β) (n:Int) (V:0<=n) (ah:n<=200):A.cv (YZ d (λl=>A.pure (LS l)) sM.sh [a] n) λy=>y=LS (List.replicate n.toNat a):=by
 obtain ⟨J,rfl⟩:=Int.eq_ofNat_of_zero_le V;have H9:decide ((J:Int)<0)=false:=by simp
 have lL:IntKind.u64.wrap (Int.ofNat ([a]:List al).length)=1:=OT (by simp) (by simp);have aov:=OT (n:=(J:Int)) (by omega) (by omega);have lr:=bG (n:=(J:Int)) (by omega) (by omega);have ar:sM.pre (1,(J:Int)):=⟨rfl,V,ah⟩
 have aow:decide ((J:Int) > 9223372036854775807)=false:=by grind
 have lJ:cn J:=by unfold cn;omega
 have U:0<=(J:Int)/\True/\cn (Int.toNat (J:Int)):=⟨V,trivial,by grind⟩
 unfold YZ;simp only [H9,Bool.false_eq_true,if_false,A.aJ,A.b2,lL,aov,aO.sh,A.dI];rw [A.bH (by grind)];simp only [gt_iff_lt,Int.lt_irrefl,decide_false,Bool.false_or,Bool.false_eq_true,if_false,A.aJ,A.b2,lr];have aox:decide ((9223372036854775807:Int)<(J:Int))=false:=aow;simp only [aox,Bool.false_eq_true,if_false,A.aJ,A.b2,lr];rw [A.bH U];simp only [A.bw,A.fT,Int.toNat_natCast,List.length_replicate,Nat.sub_zero,List.nil_append,List.length_singleton,bZ,jn,Nat.zero_add];refine A.Bn (λs=>∃ m:Nat,(1<=m\/J=0)/\m<=J/\s=((m:Int),List.replicate m a++List.replicate (J - m) d,())) (λs=>J - s.1.toNat) ?_ _ ?_
 ·rintro s ⟨m,hm,axe,rfl⟩;have hlen:(List.replicate m a++List.replicate (J - m) d).length=J:=by grind
  simp only [hlen];by_cases ch:m<J
  ·have gH:0<=(m:Int)/\(m:Int)<=(J:Int)/\(J:Int)<=(J:Int):=by omega
   have cI:(0:Int)<=0/\0<=(m:Int)/\(m:Int)<=(J:Int):=by omega
   have kd:1<=m:=by omega
   have Y0:(List.take m (List.replicate m a++List.replicate (J - m) d)).length=m:=by simp
   simp only [cY ch,if_true,A.bH gH,A.bH cI,A.bw,Int.toNat_natCast,Y0,ct];rw [A.ea,aou a d m J kd ch];have aoy:(if J - m<=m then J - m else m)=min (J - m) m:=by rfl
   rw [aoy];have gR:=bG (n:=(m:Int)+((min (J - m) m:Nat):Int)) (by omega) (by omega);refine ⟨⟨m+min (J - m) m,.inl (by omega),by omega,?_⟩,?_⟩
   ·rw [gR];simp
   ·simp only [gR];omega
  ·have:m=J:=by omega
   subst this;simp only [Int.lt_irrefl,decide_false,Bool.false_eq_true,if_false,A.aJ,A.ea,A.b2,Nat.sub_self,List.replicate_zero,List.append_nil]
 ·by_cases axf:J=0
  ·grind
  ·refine ⟨1,.inl (Nat.le_refl _),by omega,?_⟩;grind
end
abbrev H_:aO:=⟨.aA fS bu,fS,λx=>x.1=[-1]/\0<=x.2/\x.2<=200,λx=>List.replicate x.2.toNat (-1)⟩
theorem aoz (x):A.le (ai' sM.sh x) (H_.sh x):=A.sn λh=>by
 obtain ⟨l,n⟩:=x;obtain ⟨G,V,ah⟩:=h;change l=[-1] at G;subst G;exact OZ (0:Int) (-1) (λl=>l) n V ah
def vQ (x:z1'×Int×Unit):A (z1'×Unit):=A.dR (x.1=[-1]/\0<=x.2.1/\x.2.1<=200) (List.replicate x.2.1.toNat (-1),())
theorem Y1 (x):A.le (ajp sM.sh x) (vQ x):=A.sn λh=>by
 obtain ⟨l,n,u⟩:=x;obtain ⟨G,V,ah⟩:=h;change l=[-1] at G;subst G;exact OZ (0:Int) (-1) (λl=>(l,())) n V ah
abbrev Ia:ad:=.st (.aA bu bu)
abbrev Ib:aO:=⟨.aA (.slice Ia) bu,.slice Ia,λx=>x.1.length=1/\0<=x.2/\x.2<=200,λx=>List.replicate x.2.toNat (x.1.getD 0 (0,0))⟩
theorem aoA (x):A.le (ajm sM.sh x) (Ib.sh x):=A.sn λh=>by
 obtain ⟨l,n⟩:=x;obtain ⟨G,V,ah⟩:=h;change l.length=1 at G;obtain ⟨a,rfl⟩:=List.length_eq_one_iff.1 G;exact OZ ((0,0):Int×Int) a (λl=>l) n V ah
end Go.Fer
namespace Go.Fer
open A (W)
set_option linter.unusedVariables false
set_option linter.unusedSimpArgs false
def x7 (s:bJ) (n:Int):Bool:=decide (0<=n)&&decide (n<(s.2.2.2.1.length:Int))
def x8 (s:bJ) (n:Int):Bool:=decide (0<=n)&&decide (n<(s.2.2.1.length:Int))
theorem aoB {s:bJ} {n:Int}:x7 s n=true<->0<=n/\n<(s.2.2.2.1.length:Int):=by simp [x7]
theorem aoC {s:bJ} {n:Int}:x8 s n=true<->0<=n/\n<(s.2.2.1.length:Int):=by simp [x8]
abbrev O0:aO:=⟨.aA l0 bu,de,λx=>fu x.1,λx=>x7 x.1 x.2⟩
abbrev O1:aO:=⟨.aA l0 bu,de,λx=>fu x.1,λx=>x8 x.1 x.2⟩
theorem aoD (x):A.le (Vp cp.sh x) (O0.sh x):=A.bx λh=>by
 have ak:=h.2.2.2.1;have hw:=bG (n:=(x.1.2.2.2.1.length:Int) - 1) (by omega) (by omega);unfold Vp;simp [aO.sh,cp,hw,x7,rr]
theorem aoE (x):A.le (Vu cp.sh x) (O1.sh x):=A.bx λh=>by
 have ak:=h.2.2.1;have hw:=bG (n:=(x.1.2.2.1.length:Int) - 1) (by omega) (by omega);unfold Vu;simp [aO.sh,cp,hw,x8,rr]
def sN (x:dN) (p:dy):Int:=if (!x.1.contains p.1||!b3 p.2.1 x.2.1.1 x.2.1.2)=true then 0 else if p.2.2.1=x.2.2.1 then 1 else if p.2.2.1=0 then 2 else 0
abbrev vR:aO:=⟨.aA mx nd,bu,λx=>x.1.1.length<2 ^ 63,λx=>sN x.1 x.2⟩
theorem aoF (x):A.le (Vv cp.sh oK.sh x) (vR.sh x):=A.bx λh=>by
 unfold Vv;simp only [aO.sh,cp,oK,A.dI,A.iY,implies_true,A.bw,qo];rw [A.bH (by exact h)];show _=A.pure (sN x.1 x.2);unfold sN b3;grind
def vS (s:bJ) (l:z1') (i:Nat):Bool:=decide (l.getD i 0=-1)||(x8 s (l.getD i 0)&&!(l.take i).contains (l.getD i 0))
def vT (s:bJ) (l:z1'):Bool:=((List.range l.length).all (vS s l))&&decide ((l.length:Int)=(s.2.2.2.1.length:Int))
abbrev Ic:aO:=⟨.aA l0 fS,de,λx=>fu x.1/\x.2.length<2 ^ 63,λx=>vT x.1 x.2⟩
theorem aoG (x):A.le (Vw O1.sh oK.sh x) (Ic.sh x):=A.bx λh=>by
 obtain ⟨s,l⟩:=x;obtain ⟨aG,ak⟩:=h;change fu s at aG;change l.length<2 ^ 63 at ak;unfold Vw;rw [A.dK (List.range l.length) (λi (_:Unit)=>(l,l,(l.length:Int),(i:Int),s,())) (λi b=>if (!vS s l i)=true then .done (.done false) else .next b) (λ_=>.next (l,s,())) () ?_ ?_ ?_]
 ·rw [kP (q:=vS s l) _ _ (λ_=>rfl)];show _=A.pure (vT s l);unfold vT;cases (List.range l.length).all (vS s l)<;>simp
 ·simp
 ·intro i M b;have M:i<l.length:=by grind
  have hw:=bG (n:=(i:Int)+1) (by omega) (by omega);obtain ⟨aN,js⟩:∃ aN,l.getD i 0=aN:=⟨_,rfl⟩
  have cH:vS s l i=(decide (aN=-1)||(x8 s aN&&!(l.take i).contains aN)):=by unfold vS;rw [js]
  simp only [bZ,cY M,if_true,List.getElem_range,cJ M,A.bw,aO.sh,A.dI,A.iY,Int.toNat_natCast,js];rw [A.bH (by grind),A.bH,A.bH]
  ·simp only [A.aJ,ct,hw,vS,js];by_cases G:aN=-1
   ·simp_all
   ·cases V:x8 s aN<;>cases ah:(l.take i).contains aN<;>simp [G,V,ah,W.hj]
  ·intro _;show (l.take i).length<2 ^ 63;rw [List.length_take];omega
  ·intro cR;exact ⟨⟨cR,trivial,cR⟩,⟨by omega,by omega,by omega⟩,trivial⟩
 simp
end Go.Fer
namespace Go.Fer
open A (W)
set_option linter.unusedVariables false
set_option linter.unusedSimpArgs false
def k0 (s:bJ) (b_:Bool):Int:=if ja s≠0 then ja s else if b_=false then 1 else eI s.1 true
theorem Y2 {s:bJ} (h:ja s=0):cL s.1=0/\nf s=true:=by
 unfold ja at h;grind
theorem AQ {s:bJ} {b_:Bool} (h:k0 s b_=0):ja s=0/\b_=true/\eI s.1 true=0/\vN s.1=true:=by
 unfold k0 at h;by_cases he:ja s=0
 ·rw [if_neg (by omega)] at h;cases b_ with
  | false=>grind
  | true=>
   simp only [Bool.true_eq_false,if_false] at h;exact ⟨he,rfl,h,(D5 h).2.2⟩
 omega
structure l1 (s:bJ):Prop where
 hd:fu s
 sG:qA s.1
 Ee:s.2.1.length=s.1.1.length
 O2:∀ n∈s.2.1,0<=n/\n<=10
 Ie:s.2.2.1.length<=8
 aoH:∀ p∈s.2.2.1,pK s.1 p=true
 uu:s.2.2.2.1.length<=6
 Y3:∀ x∈s.2.2.2.1,oS x=true
 O3:s.2.2.2.2.1.length<=8
 Y4:∀ d∈s.2.2.2.2.1,oT s.1 d=true
 aoI:0<=s.2.2.2.2.2/\s.2.2.2.2.2<=99
theorem AR {s:bJ} (aG:fu s) (h:ja s=0):l1 s:=by
 obtain ⟨G,V⟩:=Y2 h;simp only [nf,Bool.and_eq_true,decide_eq_true_eq,List.all_eq_true,b3,jV] at V;obtain ⟨⟨⟨⟨⟨⟨⟨⟨aU,aX⟩,bP⟩,gx⟩,o'⟩,xi⟩,GL⟩,C6⟩,Mj⟩:=V;exact ⟨aG,⟨aG.1,OQ G⟩,by omega,aX,by omega,gx,by omega,xi,by omega,C6,Mj⟩
theorem l1.Y5 {s:bJ} (h:l1 s):s.1.1.length<=10:=(D3 h.sG.2).1
def If (w:bp) (t:z5') (q:Int×Int×Int):z5':=if um w q.1 q.2.1 q.2.2=1 then vl t q (IntKind.i64.wrap ((oR t q).getD 0+1)) else t
def Y6 (w:bp) (i m:Nat) (t:z5'):z5':=(List.range (jv w (m:Int)).length).foldl (λt (k:Nat)=>If w t ((i:Int),(m:Int),(k:Int))) t
def Y7 (w:bp) (i:Nat) (t:z5'):z5':=(List.range w.2.1.length).foldl (λt m=>Y6 w i m t) t
def uv (w:bp) (n:Nat):z5':=(List.range n).foldl (λt i=>Y7 w i t) []
def ls (p:Int×Int) (n:Int):z4':=List.replicate n.toNat p
def Ef (l:z1'):z4':=(List.range l.length).flatMap λ(i:Nat)=>ls ((i:Int),0) (l.getD i 0)
def Y8 (l:List Dr):z4':=l.flatMap λd=>ls (d.2.1,d.1) d.2.2
def O4 (s:bJ):z4':=Ef s.2.1++Y8 s.2.2.2.2.1
def dn (s:bJ):dv:=(s,O4 s,uv s.1 s.2.1.length)
def x9 (s:bJ) (b_:Bool):Option dv×Int:=if k0 s b_≠0 then (none,k0 s b_) else (some (dn s),0)
theorem O5 {al β:Type} (f:al->List β):∀ (l:List al) (b:List β),l.foldl (λb x=>b++f x) b=b++l.flatMap f
 | [],b=>by simp
 | x::l,b=>by rw [List.foldl_cons,O5 f l,List.flatMap_cons,List.append_assoc]
abbrev aoJ:ad:=.st (.aA bu (.aA bu bu))
abbrev vU:ad:=.bI (.st (.aA l0 (.aA (.slice Ia) (.map aoJ bu))))
abbrev AS:aO:=⟨.aA l0 de,.aA vU bu,λx=>fu x.1,λx=>x9 x.1 x.2⟩
theorem aoK (s:bJ) (b_:Bool) (aG:fu s):Nk pL.sh x2.sh AK.sh Ib.sh (s,b_)=A.pure (x9 s b_):=by
 unfold Nk x9 k0;simp only [aO.sh,A.dI,A.bH aG];by_cases he:ja s=0
 ·have af:=AR aG he;simp only [he,ne_eq,not_true,decide_false,Bool.false_eq_true,if_false];cases b_ with
  | false=>simp
  | true=>
   simp only [Bool.not_true,Bool.false_eq_true,if_false,Bool.true_eq_false];refine Eq.trans (congrArg (λm=>A.bind m _) (show _=(if eI s.1 true≠0 then A.pure (W.done ((none:Option dv),eI s.1 true)) else A.pure (W.next (s,([]:z5'),s.1.1,s.1.2.1,s.1.2.2.1,s.1.2.2.2,s.2.1,s.2.2.1,s.2.2.2.1,s.2.2.2.2.1,s.2.2.2.2.2,()))) from ?_)) ?_
   ·by_cases bl:s.2.1.length=0
    ·have aL:eI s.1 true=0:=by
      unfold eI;have aY:s.1.1.length=0:=by rw [<-af.Ee];exact bl
      have:vN s.1=true:=by unfold vN;grind
      simp [(Y2 he).1,this]
     grind
    ·have G:decide (Int.ofNat (List.length s.2.1) > 0)=true:=by grind
     have V:gW s.1 0=true:=by rw [uh];have:=af.Ee;omega
     rw [if_pos G,A.bH aG.1];unfold vO;rw [V];by_cases ao:eI s.1 true=0
     ·simp [ao]
     ·simp [ao]
   by_cases yE:eI s.1 true=0
   ·simp only [yE,ne_eq,not_true,if_false,A.aJ,A.b2];have axg:=af.Y5;have fi:=af.Ee;have aoL:s.1.2.1.length<=6:=(D3 af.sG.2).2.1;rw [A.dK (List.range s.2.1.length) (λi t=>((s.2.1.length:Int),(i:Int),s,t,s.1.1,s.1.2.1,s.1.2.2.1,s.1.2.2.2,s.2.1,s.2.2.1,s.2.2.2.1,s.2.2.2.2.1,s.2.2.2.2.2,())) (λi t=>.next (Y7 s.1 i t)) (λt=>.next (s,t,s.1.1,s.1.2.1,s.1.2.2.1,s.1.2.2.2,s.2.1,s.2.2.1,s.2.2.2.1,s.2.2.2.2.1,s.2.2.2.2.2,())) [] ?_ ?_ ?_]
    ·rw [er];simp only [A.aJ,A.b2];rw [A.gA (List.range s.2.1.length) (λi acc=>(s.2.1,(s.2.1.length:Int),(i:Int),s,uv s.1 s.2.1.length,s.1.1,s.1.2.1,s.1.2.2.1,s.1.2.2.2,s.2.1,s.2.2.1,s.2.2.2.1,s.2.2.2.2.1,s.2.2.2.2.2,acc,())) (λi acc=>.next (acc++ls ((i:Int),0) (s.2.1.getD i 0))) (λacc=>.next (s,uv s.1 s.2.1.length,s.1.1,s.1.2.1,s.1.2.2.1,s.1.2.2.2,s.2.1,s.2.2.1,s.2.2.2.1,s.2.2.2.2.1,s.2.2.2.2.2,acc,())) (λi acc=>acc.length<=10*i) [] ?_ ?_ ?_ ?_]
     ·rw [er,O5];simp only [A.aJ,A.b2,List.nil_append];have gj:(Ef s.2.1).length<=100:=by
       have:∀ (l:List Nat),(∀ i∈l,i<s.2.1.length)->(l.flatMap λ(i:Nat)=>ls ((i:Int),0) (s.2.1.getD i 0)).length<=10*l.length:=by
        intro l;induction l with
        | nil=>simp
        | cons i l aM=>
         intro ak;have G:=aM λj aH=>ak j (by grind);have V:=ak i (by simp);have ah:=af.O2 _ (List.getElem_mem V);have js:s.2.1.getD i 0=s.2.1[i]:=by grind
         rw [List.flatMap_cons,List.length_append,List.length_cons,js];simp only [ls,List.length_replicate];simp only [ls] at G;omega
       have:=this (List.range s.2.1.length) (λi M=>by grind);rw [List.length_range] at this;unfold Ef;omega
      rw [A.gA s.2.2.2.2.1 (λi acc=>(s.2.2.2.2.1,(s.2.2.2.2.1.length:Int),(i:Int),uv s.1 s.2.1.length,s.1.1,s.1.2.1,s.1.2.2.1,s.1.2.2.2,s.2.1,s.2.2.1,s.2.2.2.1,s.2.2.2.2.1,s.2.2.2.2.2,acc,())) (λd acc=>.next (acc++ls (d.2.1,d.1) d.2.2)) (λacc=>.next (uv s.1 s.2.1.length,s.1.1,s.1.2.1,s.1.2.2.1,s.1.2.2.2,s.2.1,s.2.2.1,s.2.2.2.1,s.2.2.2.2.1,s.2.2.2.2.2,acc,())) (λi acc=>acc.length<=100+10*i) (Ef s.2.1) ?_ ?_ ?_ ?_]
      ·rw [er,O5,A.aJ,A.b2];rfl
      ·rfl
      ·omega
      ·intro i M acc OR;have axh:=af.O3;have hZ:=bG (n:=(i:Int)+1) (by omega) (by omega);have ay:=af.Y4 _ (List.getElem_mem M);have CL:1<=s.2.2.2.2.1[i].2.2/\s.2.2.2.2.1[i].2.2<=10:=by
        simp only [oT,b3,Bool.and_eq_true,decide_eq_true_eq] at ay;omega
       have hlen:(ls (s.2.2.2.2.1[i].2.1,s.2.2.2.2.1[i].1) s.2.2.2.2.1[i].2.2).length<=10:=by simp only [ls,List.length_replicate];omega
       have lJ:cn (acc.length+(ls (s.2.2.2.2.1[i].2.1,s.2.2.2.2.1[i].1) s.2.2.2.2.1[i].2.2).length):=by unfold cn;omega
       refine ⟨?_,λbf aa=>?_⟩
       ·simp only [bZ,cY M,if_true,dm M,cJ M,A.bw,A.nW,A.gI,ct,jn,hZ];rw [A.bH (by grind),A.bH (by exact lJ)];rfl
       grind
      simp
     ·rfl
     ·simp
     ·intro i M acc OR;have M:i<s.2.1.length:=by grind
      have hZ:=bG (n:=(i:Int)+1) (by omega) (by omega);have js:s.2.1.getD i 0=s.2.1[i]:=by grind
      have CL:=af.O2 _ (List.getElem_mem M);have hlen:(ls ((i:Int),0) s.2.1[i]).length<=10:=by simp only [ls,List.length_replicate];omega
      have lJ:cn (acc.length+(ls ((i:Int),0) s.2.1[i]).length):=by unfold cn;omega
      refine ⟨?_,λbf aa=>?_⟩
      ·simp only [bZ,cY M,if_true,dm M,cJ M,A.bw,A.nW,A.gI,ct,jn,hZ,List.getElem_range,js];rw [A.bH (by grind),A.bH (by exact lJ)];rfl
      grind
     simp
    ·simp
    ·intro i M t;have M:i<s.2.1.length:=by grind
     have hZ:=bG (n:=(i:Int)+1) (by omega) (by omega);simp only [bZ,cY M,if_true,List.getElem_range];rw [A.dK (List.range s.1.2.1.length) (λm t=>((i:Int),(s.2.1.length:Int),(i:Int),s.1.2.1,(s.1.2.1.length:Int),(m:Int),s,t,s.1.1,s.1.2.1,s.1.2.2.1,s.1.2.2.2,s.2.1,s.2.2.1,s.2.2.2.1,s.2.2.2.2.1,s.2.2.2.2.2,())) (λm t=>.next (Y6 s.1 i m t)) (λt=>.next ((s.2.1.length:Int),(i:Int),s,t,s.1.1,s.1.2.1,s.1.2.2.1,s.1.2.2.2,s.2.1,s.2.2.1,s.2.2.2.1,s.2.2.2.2.1,s.2.2.2.2.2,())) t ?_ ?_ ?_]
     ·rw [er];simp only [A.aJ,A.b2,ct,hZ];rfl
     ·rfl
     ·intro m hm t;have hm:m<s.1.2.1.length:=by grind
      have Ig:=bG (n:=(m:Int)+1) (by omega) (by omega);have aoM:s.1.2.1[m]=jv s.1 (m:Int):=by simp [jv,List.getD_eq_getElem?_getD,hm]
      simp only [bZ,cY hm,if_true,List.getElem_range,cJ hm,A.bw,dm hm,aoM];have AI:=HR aG.1 (m:Int);rw [A.dK (List.range (jv s.1 (m:Int)).length) (λk t=>((i:Int),(m:Int),(s.2.1.length:Int),(i:Int),s.1.2.1,(s.1.2.1.length:Int),(m:Int),((jv s.1 (m:Int)).length:Int),(k:Int),s,t,s.1.1,s.1.2.1,s.1.2.2.1,s.1.2.2.2,s.2.1,s.2.2.1,s.2.2.2.1,s.2.2.2.2.1,s.2.2.2.2.2,())) (λk t=>.next (If s.1 t ((i:Int),(m:Int),(k:Int)))) (λt=>.next ((i:Int),(s.2.1.length:Int),(i:Int),s.1.2.1,(s.1.2.1.length:Int),(m:Int),s,t,s.1.1,s.1.2.1,s.1.2.2.1,s.1.2.2.2,s.2.1,s.2.2.1,s.2.2.2.1,s.2.2.2.2.1,s.2.2.2.2.2,())) t ?_ ?_ ?_]
      ·rw [er];simp only [A.aJ,A.b2,ct,Ig];rfl
      ·rfl
      ·intro k ao t;have ao:k<(jv s.1 (m:Int)).length:=by grind
       have mv:=bG (n:=(k:Int)+1) (by omega) (by omega);have nT:gW s.1 (i:Int)=true:=by rw [uh];omega
       have aoN:iM s.1 (m:Int) (k:Int)=true:=by rw [AG];omega
       have aw:qB s.1 (i:Int) (m:Int) (k:Int)=(um s.1 (i:Int) (m:Int) (k:Int),0):=by simp [qB,nT,aoN,yE]
       simp only [cY ao,if_true,List.getElem_range];simp only [aw,A.bH aG.1,decide_eq_true_eq];by_cases G:um s.1 (i:Int) (m:Int) (k:Int)=1
       ·simp only [G,if_true,and_self,A.bw,A.aJ,A.b2,ct,mv,W.hj,If];rfl
       ·simp only [G,if_false,A.aJ,A.b2,ct,mv,W.hj,If];rfl
      simp
     simp
    simp
   ·simp [yE]
 grind
theorem aoO (x):A.le (Nk pL.sh x2.sh AK.sh Ib.sh x) (AS.sh x):=A.bx λh=>aoK x.1 x.2 h
end Go.Fer
namespace Go.Fer
open A (W)
set_option linter.unusedVariables false
set_option linter.unusedSimpArgs false
theorem aoP {p:Int->Bool} {l:z1'} (h:jW p l=true):∀ x∈l,p x=true:=by
 intro x aj;obtain ⟨i,M,rfl⟩:=List.mem_iff_getElem.1 aj;unfold jW at h;simp_all
theorem aoQ {p:Int->Bool} {l:z1'} (h:jW p l=true):l.Pairwise (·<·):=by
 unfold jW at h;rw [List.all_eq_true] at h;have step:∀ i,i+1<l.length->l.getD i 0<l.getD (i+1) 0:=λi M=>by
  grind
 have key:∀ j i,i<j->j<l.length->l.getD i 0<l.getD j 0:=by
  intro j;induction j with
  | zero=>omega
  | succ j aM=>
   grind
 rw [List.pairwise_iff_getElem];grind
theorem O6 {s:bJ} (af:l1 s) {p:dy} (ar:p∈s.2.2.1):n0 s.1 p.2.2.2.1=true/\p.2.2.2.2.length<=4/\∀ k∈p.2.2.2.2,iM s.1 p.2.2.2.1 k=true:=by
 have h:=af.aoH p ar;simp only [pK,Bool.and_eq_true] at h;obtain ⟨⟨_,hm⟩,U⟩:=h;have fB:∀ k∈p.2.2.2.2,iM s.1 p.2.2.2.1 k=true:=λk ao=>by
  have:=aoP U k ao;rw [AG];simp only [D_,Bool.and_eq_true,decide_eq_true_eq] at this;exact ⟨HQ.1 hm,this⟩
 refine ⟨hm,?_,fB⟩;have aoR:=aoQ U;have tt:p.2.2.2.2.Nodup:=aoR.imp λh e=>by omega
 cases aa:p.2.2.2.2 with
 | nil=>simp
 | cons k l=>
  rw [<-aa];have a7:=ani af.sG.2 (fB k (by grind));have:=YT (jv s.1 p.2.2.2.1).length p.2.2.2.2 tt λk ao=>by
   have:=AG.1 (fB k ao);omega
  omega
abbrev rz:Type:=Int×Int×Int
abbrev aoS:dN:=([],(0,0),0,0,0)
abbrev aoT:dy:=(0,0,0,0,[])
abbrev x_:dv:=((([],[],0,[]),[],[],[],[],0),[],[])
def my (s:bJ) (i:Int):dN:=s.2.2.2.1.getD i.toNat aoS
def ng (s:bJ) (i:Int):dy:=s.2.2.1.getD i.toNat aoT
def vV (s:bJ) (x:dN) (p:dy):Option Int:=if sN x p=0 then none else if (if sN x p=2 then x.2.2.2.1 - s.2.2.2.2.2 else x.2.2.2.1)<0 then none else some (if sN x p=2 then x.2.2.2.1 - s.2.2.2.2.2 else x.2.2.2.1)
def oU (s:bJ) (cx:z1') (i:Nat):Option (List rz):=if cx.getD i 0<0 then some [] else (vV s (my s (i:Int)) (ng s (cx.getD i 0))).map λd=>(ng s (cx.getD i 0)).2.2.2.2.map λk=>((ng s (cx.getD i 0)).2.2.2.1,k,d)
def lu (s:bJ) (cx:z1'):List rz×Bool:=if ((List.range cx.length).all λi=>(oU s cx i).isSome)=true then ((List.range cx.length).flatMap λi=>(oU s cx i).getD [],true) else ([],false)
def n1 (s:bJ) (cx:z1'):Prop:=cx.length<=s.2.2.2.1.length/\∀ p∈cx,p<(s.2.2.1.length:Int)
def n2 (o:Option dv):bJ:=(o.getD x_).1
def vW (o:Option dv) (s:bJ):Prop:=o=some (dn s)/\l1 s
theorem O7 {s:bJ} {i:Nat} (h:i<s.2.2.2.1.length):my s (i:Int)∈s.2.2.2.1:=by
 simp [my,List.getD_eq_getElem?_getD,h]
theorem Y9 {s:bJ} {i:Int} (aY:0<=i) (h:i<(s.2.2.1.length:Int)):ng s i∈s.2.2.1:=xF aY h
theorem Y_ {s:bJ} (af:l1 s) {x:dN} (aj:x∈s.2.2.2.1):(0<=x.2.2.2.1/\x.2.2.2.1<=99)/\(0<=x.2.2.2.2/\x.2.2.2.2<=100000):=by
 have:=af.Y3 x aj;simp only [oS,jV,b3,Bool.and_eq_true,decide_eq_true_eq] at this;omega
theorem Y' {s:bJ} (af:l1 s) {cx:z1'} (ar:n1 s cx) {i:Nat} (M:i<cx.length) {l:List rz} (h:oU s cx i=some l):l.length<=4:=by
 unfold oU at h;split at h
 ·grind
 ·rename_i H9;rw [Option.map_eq_some_iff] at h;obtain ⟨d,_,rfl⟩:=h;rw [List.length_map];have hm:cx.getD i 0∈cx:=by grind
  exact (O6 af (Y9 (by omega) (ar.2 _ hm))).2.1
def AT {al β aK:Type} (f:al->Option (List β)) (r:aK) (x:al) (b:List β):W (List β) aK:=if (f x).isSome=true then .next (b++(f x).getD []) else .done r
theorem Eg {al β aK:Type} {f:al->Option (List β)} {r:aK} {x:al} {b y:List β} (h:f x=some y):AT f r x b=.next (b++y):=by simp [AT,h]
theorem Ih {al β aK:Type} {f:al->Option (List β)} {r:aK} {x:al} {b:List β} (h:f x=none):AT f r x b=.done r:=by simp [AT,h]
theorem Za {al β aK:Type} {f:al->Option (List β)} {r:aK} {fin:List β->aK}:∀ (l:List al) (b:List β),eX (AT f r) fin l b=if (l.all λx=>(f x).isSome)=true then fin (b++l.flatMap λx=>(f x).getD []) else r
 | [],b=>by simp [eX]
 | x::l,b=>by
  simp only [eX];cases h:f x with
  | none=>simp [Ih h,h]
  | some y=>
   have:=Za (f:=f) (r:=r) (fin:=fin) l (b++y);simp only [Eg h,List.all_cons,h,Option.isSome_some,Bool.true_and,List.flatMap_cons,Option.getD_some];grind
abbrev Ii:ad:=.st (.aA bu (.aA bu bu))
abbrev Ij:aO:=⟨.aA vU fS,.aA (.slice Ii) de,λx=>∃ s,vW x.1 s/\n1 s x.2,λx=>lu (n2 x.1) x.2⟩
theorem aoU (s:bJ) (af:l1 s) (cx:z1') (ar:n1 s cx):Nl vR.sh (some (dn s),cx)=A.pure (lu s cx):=by
 unfold Nl;have AU:=af.uu;have axi:=ar.1;simp only [Option.isSome_some,Option.getD_some,A.bw];rw [A.gA (List.range cx.length) (λi acc=>(some (dn s),cx,(cx.length:Int),(i:Int),acc,())) (AT (oU s cx) (.done ([],false))) (λacc=>.next (acc,())) (λi acc=>acc.length<=4*i) [] ?_ ?_ ?_ ?_]
 ·rw [Za];unfold lu;by_cases h:((List.range cx.length).all λi=>(oU s cx i).isSome)=true
  ·simp [h]
  ·simp [h]
 ·rfl
 ·simp
 ·intro i M acc OR;have M:i<cx.length:=by grind
  have sO:i<s.2.2.2.1.length:=by omega
  have hZ:=bG (n:=(i:Int)+1) (by omega) (by omega);have Ik:=O7 sO;rw [List.getElem_range];obtain ⟨aN,aoV⟩:∃ aN,cx.getD i 0=aN:=⟨_,rfl⟩
  have aoW:aN∈cx:=by grind
  refine ⟨?_,λbf aa=>?_⟩
  ·simp only [bZ,cY M,if_true,Int.toNat_natCast,aoV,cJ M,A.bw,Option.isSome_some,Option.getD_some];by_cases H9:aN<0
   ·have mN:oU s cx i=some []:=by unfold oU;grind
    rw [Eg mN];simp_all
   ·have ij:aN<(s.2.2.1.length:Int):=ar.2 aN aoW;have aoX:=Y9 (s:=s) (by omega) ij;have gH:0<=aN/\aN<(s.2.2.1.length:Int):=⟨by omega,ij⟩
    have gj:(dn s).1=s:=rfl;have AV:List.getD s.2.2.2.1 i ([],(0,0),0,0,0)=my s (i:Int):=rfl;have O8:List.getD s.2.2.1 aN.toNat (0,0,0,0,[])=ng s aN:=rfl;simp only [H9,decide_false,Bool.false_eq_true,if_false,gj,cJ sO,A.bH gH,A.bw,aO.sh,A.dI,AV,O8];have mN:oU s cx i=(vV s (my s (i:Int)) (ng s aN)).map λd=>(ng s aN).2.2.2.2.map λk=>((ng s aN).2.2.2.1,k,d):=by unfold oU;grind
    rw [A.bH (show vR.pre (my s (i:Int),ng s aN) from af.hd.2.2.2.2.2.2 _ Ik)];obtain ⟨axj,_⟩:=Y_ af Ik;have lN:=af.aoI;obtain ⟨aoL,iz,CC⟩:=O6 af aoX;have aoY:=bG (n:=(my s (i:Int)).2.2.2.1 - s.2.2.2.2.2) (by omega) (by omega);generalize my s (i:Int)=x at *
    generalize ng s aN=p at *
    by_cases aY:sN x p=0
    ·have ay:vV s x p=none:=by unfold vV;grind
     rw [ay] at mN;rw [Ih mN];simp only [aY,decide_true,if_true,A.aJ,A.pr,W.hj]
    ·by_cases V:sN x p=2;all_goals simp only [aY,V,decide_true,decide_false,Bool.false_eq_true,if_false,if_true,A.aJ,A.b2,aoY,Int.reduceEq]
     ·have ay:vV s x p=(if x.2.2.2.1 - s.2.2.2.2.2<0 then none else some (x.2.2.2.1 - s.2.2.2.2.2)):=by unfold vV;grind
      generalize x.2.2.2.1 - s.2.2.2.2.2=d at *
      by_cases q6:d<0
      ·rw [if_pos q6] at ay;rw [ay] at mN;rw [Ih mN];simp_all
      ·rw [if_neg q6] at ay;rw [ay] at mN;rw [Eg mN];simp only [q6,decide_false,Bool.false_eq_true,if_false];rw [A.gA p.2.2.2.2 (λk acc=>(some (dn s),d,cx,(cx.length:Int),(i:Int),p.2.2.2.2,(p.2.2.2.2.length:Int),(k:Int),acc,p,())) (λk acc=>.next (acc++[(p.2.2.2.1,k,d)])) (λacc=>.next (some (dn s),cx,(cx.length:Int),(i:Int),acc,())) (λk x'=>x'.length<=4*i+k) acc ?_ ?_ ?_ ?_]
       ·rw [er,xE];simp_all
       ·rfl
       ·omega
       ·intro k ao x' aoZ;have mv:=bG (n:=(k:Int)+1) (by omega) (by omega);have lJ:cn (x'.length+(0+1)):=by unfold cn;omega
        refine ⟨?_,λbf aa=>?_⟩
        ·simp_all
        grind
       simp
     ·have ay:vV s x p=(if x.2.2.2.1<0 then none else some x.2.2.2.1):=by unfold vV;grind
      generalize x.2.2.2.1=d at *
      by_cases q6:d<0
      ·omega
      ·rw [if_neg q6] at ay;rw [ay] at mN;rw [Eg mN];simp only [q6,decide_false,Bool.false_eq_true,if_false];rw [A.gA p.2.2.2.2 (λk acc=>(some (dn s),d,cx,(cx.length:Int),(i:Int),p.2.2.2.2,(p.2.2.2.2.length:Int),(k:Int),acc,p,())) (λk acc=>.next (acc++[(p.2.2.2.1,k,d)])) (λacc=>.next (some (dn s),cx,(cx.length:Int),(i:Int),acc,())) (λk x'=>x'.length<=4*i+k) acc ?_ ?_ ?_ ?_]
       ·rw [er,xE];simp_all
       ·rfl
       ·omega
       ·intro k ao x' aoZ;have mv:=bG (n:=(k:Int)+1) (by omega) (by omega);have lJ:cn (x'.length+(0+1)):=by unfold cn;omega
        refine ⟨?_,λbf aa=>?_⟩
        ·simp_all
        grind
       simp
  ·cases mN:oU s cx i with
   | none=>rw [Ih mN] at aa;cases aa
   | some y=>
    rw [Eg mN] at aa;cases aa;have:=Y' af ar M mN;grind
 simp
theorem ao0 (x):A.le (Nl vR.sh x) (Ij.sh x):=A.bx λh=>by
 obtain ⟨o,cx⟩:=x;obtain ⟨s,⟨aw,af⟩,ar⟩:=h;change o=_ at aw;subst aw;exact aoU s af cx ar
def rA (s:bJ) (cx:z1'):Int:=((List.range cx.length).map λ(i:Nat)=>if cx.getD i 0=-1 then 0 else (my s (i:Int)).2.2.2.2).foldl (·+·) 0
abbrev sP:aO:=⟨.aA vU fS,bu,λx=>∃ s,vW x.1 s/\x.2.length<=s.2.2.2.1.length,λx=>rA (n2 x.1) x.2⟩
theorem ao1 (s:bJ) (af:l1 s) (cx:z1') (ar:cx.length<=s.2.2.2.1.length):Ns (some (dn s),cx)=A.pure (rA s cx):=by
 unfold Ns;have AU:=af.uu;rw [A.gA (List.range cx.length) (λi (n:Int)=>(some (dn s),n,cx,(cx.length:Int),(i:Int),())) (λ(i:Nat) n=>.next (n+if cx.getD i 0=-1 then 0 else (my s (i:Int)).2.2.2.2)) (λn=>.next (n,())) (λi n=>0<=n/\n<=100000*i) 0 ?_ ?_ ?_ ?_]
 ·rw [er];unfold rA;rw [List.foldl_map,A.aJ,A.b2]
 ·rfl
 ·simp
 ·intro i M n aD;have M:i<cx.length:=by grind
  have sO:i<s.2.2.2.1.length:=by omega
  have hZ:=bG (n:=(i:Int)+1) (by omega) (by omega);obtain ⟨_,ow⟩:=Y_ af (O7 sO);have AV:List.getD s.2.2.2.1 i ([],(0,0),0,0,0)=my s (i:Int):=rfl;have AO:=bG (n:=n+(my s (i:Int)).2.2.2.2) (by omega) (by omega);have gj:(dn s).1=s:=rfl;rw [List.getElem_range];refine ⟨?_,λbf aa=>?_⟩
  ·simp only [bZ,cY M,if_true,Int.toNat_natCast,cJ M,cJ sO,A.bw,Option.isSome_some,Option.getD_some,ct,gj,AV];by_cases G:cx.getD i 0=-1
   ·simp only [G,ne_eq,not_true,decide_false,Bool.false_eq_true,if_false,if_true,A.aJ,A.b2,hZ,Int.add_zero,W.hj];rfl
   ·simp only [G,ne_eq,not_false_iff,decide_true,if_false,if_true,cJ sO,A.bw,A.aJ,A.b2,hZ,AO,W.hj];rfl
  grind
 simp
theorem ao2 (x):A.le (Ns x) (sP.sh x):=A.bx λh=>by
 obtain ⟨o,cx⟩:=x;obtain ⟨s,⟨aw,af⟩,ar⟩:=h;change o=_ at aw;subst aw;exact ao1 s af cx ar
end Go.Fer
namespace Go.Fer
open A (W)
set_option linter.unusedVariables false
set_option linter.unusedSimpArgs false
theorem Eh {l:z1'} {j i:Nat} {s:Int} (aH:j<l.length):(l.set j s).getD i 0=if i=j then s else l.getD i 0:=by
 grind
end Go.Fer
namespace Go.Fer
open A (W)
set_option linter.unusedVariables false
set_option linter.unusedSimpArgs false
theorem ao3 {J i:Nat} (h:i<J):(List.replicate J (-1:Int)).getD i 0=-1:=by
 grind
end Go.Fer
namespace Go.Fer
open A (W)
set_option linter.unusedVariables false
set_option linter.unusedSimpArgs false
theorem Zb (a b:Int):(if a=b then 1 else 0)=(if b=a then 1 else (0:Nat)):=by
 grind
def gN (g:z1') (j:Int):Nat:=g.countP λx=>decide (x=j)
theorem O9:∀ {g:z1'} {i:Nat} {x:Int} (j:Int),i<g.length->gN (g.set i x) j+(if g.getD i 0=j then 1 else 0)=gN g j+(if x=j then 1 else 0)
 | [],i,x,j,h=>by grind
 | y::g,0,x,j,h=>by
  unfold gN;grind
 | y::g,i+1,x,j,h=>by
  have:=O9 (g:=g) (i:=i) (x:=x) j (by grind);unfold gN at *
  grind
theorem ao4 {g:z1'} {i:Nat} {j:Int} (M:i<g.length) (h:g.getD i 0=j):0<gN g j:=by
 unfold gN;grind
def n3 (gd:Nat->Int->Bool) (rec:Int->kZ->Bool×kZ) (an:Int) (i:Nat) (st:kZ):W kZ (Bool×kZ):=
 if (decide (cP st.2 (i:Int) > 0)||!gd i an)=true then .next st
 else if decide (st.1.getD i 0=-1)=true then .done (true,(st.1.set i an,e9 st.2 (i:Int) (cP st.2 (i:Int)+1)))
 else if (rec (st.1.getD i 0) (st.1,e9 st.2 (i:Int) (cP st.2 (i:Int)+1))).1=true then .done (true,((rec (st.1.getD i 0) (st.1,e9 st.2 (i:Int) (cP st.2 (i:Int)+1))).2.1.set i an,(rec (st.1.getD i 0) (st.1,e9 st.2 (i:Int) (cP st.2 (i:Int)+1))).2.2))
 else .next (rec (st.1.getD i 0) (st.1,e9 st.2 (i:Int) (cP st.2 (i:Int)+1))).2
def jX (gd:Nat->Int->Bool) (m:Nat):Nat->Int->kZ->Bool×kZ
 | 0=>λ_ st=>(false,st)
 | f+1=>λan st=>eX (n3 gd (jX gd m f) an) (λst=>(false,st)) (List.range m) st
def O_ (m J:Nat) (g:z1'):Prop:=∀ i,i<m->g.getD i 0=-1\/(0<=g.getD i 0/\g.getD i 0<(J:Int))
structure ya (m J f:Nat) (st:kZ):Prop where
 len:st.1.length=m
 l2:O_ m J st.1
 seen:∀ k,0<=cP st.2 k/\cP st.2 k<=1
 cd:rv m st.2<f
structure O' (m J:Nat) (st r:kZ):Prop where
 len:r.1.length=m
 l2:O_ m J r.1
 seen:∀ k,cP st.2 k<=cP r.2 k/\cP r.2 k<=1
def Zc (gd:Nat->Int->Bool) (m:Nat) (g:z1') (C:Int->Prop):Prop:=∀ j,C j->∀ i,i<m->gd i j=true->g.getD i 0≠-1/\C (g.getD i 0)
def Zd (gd:Nat->Int->Bool) (m:Nat) (g:z1') (s s':z4'):Prop:=∀ i,i<m->cP s (i:Int)=0->1<=cP s' (i:Int)->g.getD i 0≠-1/\∀ k,k<m->gd k (g.getD i 0)=true->1<=cP s' (k:Int)
structure Pa (gd:Nat->Int->Bool) (m:Nat) (an:Int) (st:kZ) (r:Bool×kZ):Prop where
 Pb:r.1=false->r.2.1=st.1/\(∀ i,i<m->gd i an=true->1<=cP r.2.2 (i:Int))/\Zd gd m st.1 st.2 r.2.2
 Ze:r.1=true->(∀ i,i<m->r.2.1.getD i 0=st.1.getD i 0\/(cP st.2 (i:Int)=0/\gd i (r.2.1.getD i 0)=true))/\∀ j,j≠-1->gN r.2.1 j=gN st.1 j+(if j=an then 1 else 0)
 cl:∀ C,Zc gd m st.1 C->(C an->r.1=false)/\(r.1=true->∀ i,i<m->r.2.1.getD i 0≠st.1.getD i 0->∀ c,C c->gd i c=false)
def Zf (gd:Nat->Int->Bool) (m J f:Nat) (rec:Int->kZ->Bool×kZ):Prop:=∀ an st,0<=an->an<(J:Int)->ya m J f st->O' m J st (rec an st).2/\Pa gd m an st (rec an st)
theorem ao5 {gd:Nat->Int->Bool} {m J f:Nat} {rec:Int->kZ->Bool×kZ} (DS:Zf gd m J f rec) {an:Int} (Zg:0<=an) (Zh:an<(J:Int)) {st:kZ} (aY:ya m J (f+1) st) :
  O' m J st (eX (n3 gd rec an) (λst=>(false,st)) (List.range m) st).2/\Pa gd m an st (eX (n3 gd rec an) (λst=>(false,st)) (List.range m) st):=by
 refine an2 (λk b=>b.1=st.1/\(∀ q,cP st.2 q<=cP b.2 q/\cP b.2 q<=1)/\(∀ i,i<k->i<m->gd i an=true->1<=cP b.2 (i:Int))/\Zd gd m st.1 st.2 b.2)
  (λr:Bool×kZ=>O' m J st r.2/\Pa gd m an st r) (List.range m) st ⟨rfl,λq=>⟨Int.le_refl _,(aY.seen q).2⟩,λi M=>by omega,λi _ G V=>by omega⟩ (λi M b aa=>?_) λb aa=>?_
 ·obtain ⟨hw,na,Il,k8⟩:=aa;have M:i<m:=by grind
  rw [List.getElem_range];have u7:∀ q,0<=cP b.2 q:=λq=>Int.le_trans (aY.seen q).1 (na q).1;unfold n3;by_cases hc:(decide (cP b.2 (i:Int) > 0)||!gd i an)=true
  ·grind
  ·rw [if_neg hc];simp only [Bool.or_eq_true,not_or,decide_eq_true_eq,Bool.not_eq_true',Bool.not_eq_false] at hc;obtain ⟨bl,aC⟩:=hc;have bl:cP b.2 (i:Int)=0:=by grind
   have Kw:cP st.2 (i:Int)=0:=by have:=(na i).1;have:=(aY.seen i).1;omega
   have p7:i<st.1.length:=by rw [aY.len];exact M
   have kd:∀ q,cP b.2 q<=cP (e9 b.2 (i:Int) (cP b.2 (i:Int)+1)) q/\cP (e9 b.2 (i:Int) (cP b.2 (i:Int)+1)) q<=1:=λq=>by
    have:=na q;rw [AP];omega
   have axk:cP (e9 b.2 (i:Int) (cP b.2 (i:Int)+1)) (i:Int)=1:=by rw [AP,if_pos rfl,bl];rfl
   by_cases aw:st.1.getD i 0=-1
   ·rw [hw,if_pos (by grind)];refine ⟨⟨by show (st.1.set i an).length=m;rw [List.length_set];exact aY.len,λk ao=>?_,λq=>⟨Int.le_trans (na q).1 (kd q).1,(kd q).2⟩⟩,λh=>(by cases h),λ_=>⟨λk ao=>?_,λj aH=>?_⟩,λC ji=>⟨λPc=>?_,λ_ k ao ez c hc=>?_⟩⟩
    ·show (st.1.set i an).getD k 0=-1\/(0<=(st.1.set i an).getD k 0/\(st.1.set i an).getD k 0<(J:Int))
     rw [Eh p7];split
     ·omega
     ·exact aY.l2 k ao
    ·grind
    ·have:=O9 (x:=an) j p7;grind
    ·exact absurd aw (ji an Pc i M aC).1
    ·change (st.1.set i an).getD k 0≠_ at ez;rw [Eh p7] at ez;split at ez
     ·rename_i e;subst e;cases Pd:gd k c with
      | false=>rfl
      | true=>exact absurd aw (ji c hc k M Pd).1
     omega
   ·rw [hw,if_neg (by grind)];have iH:=(aY.l2 i M).resolve_left aw;have vY:ya m J f (st.1,e9 b.2 (i:Int) (cP b.2 (i:Int)+1)):=by
     refine ⟨aY.len,aY.l2,λq=>⟨Int.le_trans (u7 q) (kd q).1,(kd q).2⟩,?_⟩;have G:=YW (n:=m) (m:=b.2) (s:=(i:Int)) (v:=cP b.2 (i:Int)+1) (by omega) (by omega) bl (by omega);have V:=YX (n:=m) (a:=st.2) (b:=b.2) λk=>⟨(aY.seen k).1,(na k).1⟩
     have ah:=aY.cd;grind
    obtain ⟨ar,U⟩:=DS (st.1.getD i 0) _ iH.1 iH.2 vY;revert ar U;generalize rec (st.1.getD i 0) (st.1,e9 b.2 (i:Int) (cP b.2 (i:Int)+1))=r;intro ar U;have xm:∀ q,cP (e9 b.2 (i:Int) (cP b.2 (i:Int)+1)) q<=cP r.2.2 q:=λq=>(ar.seen q).1;by_cases bM:r.1=true
    ·rw [if_pos bM];obtain ⟨kM,AW⟩:=U.Ze bM;have tA:i<r.2.1.length:=by rw [ar.len];exact M
     have B4:r.2.1.getD i 0=st.1.getD i 0:=by
      grind
     refine ⟨⟨by show (r.2.1.set i an).length=m;rw [List.length_set];exact ar.len,λk ao=>?_,λq=>⟨Int.le_trans (na q).1 (Int.le_trans (kd q).1 (xm q)),(ar.seen q).2⟩⟩,λh=>(by cases h),λ_=>⟨λk ao=>?_,λj aH=>?_⟩,λC ji=>⟨λPc=>?_,λ_ k ao ez c hc=>?_⟩⟩
     ·show (r.2.1.set i an).getD k 0=-1\/(0<=(r.2.1.set i an).getD k 0/\(r.2.1.set i an).getD k 0<(J:Int))
      rw [Eh tA];split
      ·omega
      ·exact ar.l2 k ao
     ·show (r.2.1.set i an).getD k 0=_\/(_/\gd k ((r.2.1.set i an).getD k 0)=true)
      rw [Eh tA];split
      ·grind
      ·rcases kM k ao with e | ⟨aF,bB⟩
       ·grind
       ·right;refine ⟨?_,bB⟩;have a:=(kd (k:Int)).1;have d:=na (k:Int);have c:=(aY.seen (k:Int)).1;grind
     ·have a:=O9 (x:=an) j tA;have d:=AW j aH;change gN r.2.1 j=gN st.1 j+_ at d;rw [B4] at a;show gN (r.2.1.set i an) j=_;rw [Zb j an];rw [Zb j (st.1.getD i 0)] at d;omega
     ·have:=(U.cl C ji).1 (ji an Pc i M aC).2;grind
     ·change (r.2.1.set i an).getD k 0≠_ at ez;rw [Eh tA] at ez;split at ez
      ·rename_i e;subst e;cases Pd:gd k c with
       | false=>rfl
       | true=>
        have:=(U.cl C ji).1 (ji c hc k M Pd).2;grind
      ·exact (U.cl C ji).2 bM k ao ez c hc
    ·rw [if_neg bM];have Cv:r.1=false:=by grind
     obtain ⟨Cx,axl,ao6⟩:=U.Pb Cv;refine ⟨Cx,λq=>⟨Int.le_trans (na q).1 (Int.le_trans (kd q).1 (xm q)),(ar.seen q).2⟩,λk ao Pe Gi=>?_,λk Pe cX aF=>?_⟩
     ·grind
     ·by_cases e:k=i
      ·grind
      ·by_cases bB:1<=cP b.2 (k:Int)
       ·obtain ⟨a,c⟩:=k8 k Pe cX bB;grind
       ·refine ao6 k Pe ?_ aF;show cP (e9 b.2 (i:Int) (cP b.2 (i:Int)+1)) (k:Int)=0;rw [AP,if_neg (by omega)];grind
 ·obtain ⟨hw,na,Il,k8⟩:=aa;rw [List.length_range] at Il;refine ⟨⟨by rw [hw];exact aY.len,by rw [hw];exact aY.l2,na⟩,λ_=>⟨hw,λi M aC=>Il i M M aC,k8⟩,λh=>(by cases h),λC ji=>⟨λ_=>rfl,λh=>(by cases h)⟩⟩
theorem Pf {gd:Nat->Int->Bool} {m J:Nat}:∀ f,Zf gd m J f (jX gd m f)
 | 0=>λan st _ _ h=>absurd h.cd (by omega)
 | f+1=>λan st aY G h=>ao5 (Pf f) aY G h
def yb (gd:Nat->Int->Bool) (m F:Nat) (st:z1'×Int) (j:Nat):z1'×Int:=((jX gd m F (j:Int) (st.1,[])).2.1,if (jX gd m F (j:Int) (st.1,[])).1=true then st.2 else st.2+1)
def Pg (gd:Nat->Int->Bool) (m J F:Nat):z1'×Int:=(List.range J).foldl (yb gd m F) (List.replicate m (-1),0)
structure Ei (gd:Nat->Int->Bool) (m J k:Nat) (st:z1'×Int):Prop where
 len:st.1.length=m
 l2:∀ i,i<m->st.1.getD i 0=-1\/(0<=st.1.getD i 0/\st.1.getD i 0<(k:Int)/\gd i (st.1.getD i 0)=true)
 one:∀ j,0<=j->gN st.1 j<=1
 num:st.2=(((List.range k).countP λ(j:Nat)=>decide (gN st.1 (j:Int)=0):Nat):Int)
 Zi:∃ C,Zc gd m st.1 C/\(∀ c,C c->0<=c/\c<(k:Int))/\∀ j:Nat,j<k->gN st.1 (j:Int)=0->C (j:Int)
theorem Zj {gd:Nat->Int->Bool} {m J F k:Nat} (bo:m<F) (ao:k<J) {st:z1'×Int} (h:Ei gd m J k st):Ei gd m J (k+1) (yb gd m F st k):=by
 obtain ⟨g,n⟩:=st;have hu:rv m []<=m:=by
  unfold rv;exact Nat.le_trans List.countP_le_length (by simp)
 have vY:ya m J F (g,[]):=⟨h.len,λi M=>by have:=h.l2 i M;grind,λq=>⟨Int.le_refl _,by show (0:Int)<=1;decide⟩,by grind⟩
 obtain ⟨ar,U⟩:=Pf F (k:Int) (g,[]) (by omega) (by omega) vY;unfold yb;revert ar U;generalize jX gd m F (k:Int) (g,[])=r;intro ar U;have lM:gN g (k:Int)=0:=by
  unfold gN;rw [List.countP_eq_zero];intro x aj;obtain ⟨i,M,rfl⟩:=List.mem_iff_getElem.1 aj;have:=h.l2 i (by rw [<-h.len];exact M);grind
 obtain ⟨C,ji,axm,axn⟩:=h.Zi;by_cases aa:r.1=true
 ·obtain ⟨kM,AW⟩:=U.Ze aa;have axo:=(U.cl C ji).2 aa;refine ⟨ar.len,λi M=>?_,λj aH=>?_,?_,C,λc tJ i M Ej=>?_,λc tJ=>?_,λj aH hu=>?_⟩
  ·show r.2.1.getD i 0=-1\/_;rcases kM i M with e | ⟨aF,bB⟩
   ·rw [e];rcases h.l2 i M with a | a
    ·exact .inl a
    ·exact .inr ⟨a.1,by have:=a.2.1;show g.getD i 0<_;change g.getD i 0<_ at this;omega,a.2.2⟩
   ·by_cases kd:r.2.1.getD i 0=-1
    ·omega
    ·refine .inr ⟨?_,?_,bB⟩
     ·have:=(ar.l2 i M).resolve_left kd;grind
     ·have G:=AW _ kd;have V:0<gN r.2.1 (r.2.1.getD i 0):=ao4 (by rw [ar.len];exact M) rfl;by_cases e:r.2.1.getD i 0=(k:Int)
      ·grind
      ·rw [if_neg e] at G;have ah:0<gN g (r.2.1.getD i 0):=by grind
       unfold gN at ah;rw [List.countP_pos_iff] at ah;obtain ⟨x,aj,e5⟩:=ah;obtain ⟨q,br,rfl⟩:=List.mem_iff_getElem.1 aj;have:=h.l2 q (by rw [<-h.len];exact br);grind
  ·have G:=AW j (by omega);have V:=h.one j aH;change gN r.2.1 j=gN g j+_ at G;change gN g j<=1 at V;show gN r.2.1 j<=1;by_cases e:j=(k:Int)
   ·subst e;rw [if_pos rfl] at G;omega
   ·rw [if_neg e] at G;omega
  ·rw [if_pos aa];have G:=h.num;change n=_ at G;show n=_;rw [G,List.range_succ,List.countP_append];have V:∀ j:Nat,j<k->gN r.2.1 (j:Int)=gN g (j:Int):=λj aH=>by
    have:=AW (j:Int) (by omega);rw [if_neg (by omega)] at this;omega
   have ah:gN r.2.1 (k:Int)=1:=by
    grind
   have a7:(List.range k).countP (λ(j:Nat)=>decide (gN r.2.1 (j:Int)=0))=(List.range k).countP (λ(j:Nat)=>decide (gN g (j:Int)=0)):=List.countP_congr λj aH=>by grind
   simp_all
  ·show r.2.1.getD i 0≠-1/\C (r.2.1.getD i 0);by_cases e:r.2.1.getD i 0=g.getD i 0
   ·rw [e];exact ji c tJ i M Ej
   grind
  ·grind
  ·change gN r.2.1 (j:Int)=0 at hu;have G:=AW (j:Int) (by omega);change gN r.2.1 _=gN g _+_ at G;by_cases e:j=k
   ·grind
   ·rw [if_neg (by omega)] at G;grind
 ·have Cv:r.1=false:=by grind
  obtain ⟨hw,Il,k8⟩:=U.Pb Cv;change r.2.1=g at hw;simp only [hw];refine ⟨h.len,λi M=>?_,h.one,?_,λc=>C c\/c=(k:Int)\/∃ i,i<m/\1<=cP r.2.2 (i:Int)/\c=g.getD i 0,λc tJ i M Ej=>?_,λc tJ=>?_,λj aH hu=>?_⟩
  ·rcases h.l2 i M with a | a
   ·exact .inl a
   ·exact .inr ⟨a.1,by have:=a.2.1;show g.getD i 0<_;change g.getD i 0<_ at this;omega,a.2.2⟩
  ·rw [if_neg aa];have G:=h.num;change n=_ at G;show n+1=_;rw [G,List.range_succ,List.countP_append];grind
  ·have aD:1<=cP r.2.2 (i:Int)->g.getD i 0≠-1/\(C (g.getD i 0)\/g.getD i 0=(k:Int)\/∃ q,q<m/\1<=cP r.2.2 (q:Int)/\g.getD i 0=g.getD q 0):=λaG=>⟨(k8 i M rfl aG).1,.inr (.inr ⟨i,M,aG,rfl⟩)⟩
   rcases tJ with e | e | ⟨q,br,aG,e⟩
   ·exact ⟨(ji c e i M Ej).1,.inl (ji c e i M Ej).2⟩
   ·grind
   ·subst e;exact aD ((k8 q br rfl aG).2 i M Ej)
  ·rcases tJ with e | e | ⟨q,br,aG,e⟩
   ·grind
   ·omega
   ·have:=(h.l2 q br).resolve_left (k8 q br rfl aG).1;grind
  grind
theorem ao7 (gd:Nat->Int->Bool) (m J F:Nat) (bo:m<F):Ei gd m J J (Pg gd m J F):=by
 unfold Pg;have key:∀ k,k<=J->Ei gd m J k ((List.range k).foldl (yb gd m F) (List.replicate m (-1),0)):=by
  intro k;induction k with
  | zero=>
   intro _;refine ⟨by simp,λi M=>.inl (ao3 M),λj aH=>?_,by simp,λ_=>False,λ_ h=>h.elim,λ_ h=>h.elim,λj aH=>by omega⟩;show gN (List.replicate m (-1)) j<=1;have:gN (List.replicate m (-1)) j=0:=by
    unfold gN;grind
   omega
  | succ k aM=>
   intro ao;rw [List.range_succ,List.foldl_append];exact Zj bo (by omega) (aM (by omega))
 grind
end Go.Fer
namespace Go.Fer
open A (W)
set_option linter.unusedVariables false
set_option linter.unusedSimpArgs false
def rB (t:dv) (sp:Int×Int) (j:rz):Bool:=decide (sp.2<=j.2.2)&&decide ((oR t.2.2 (sp.1,j.1,j.2.1)).getD 0 > 0)
abbrev AX:aO:=⟨.aA vU (.aA Ia Ii),de,λx=>∃ t,x.1=some t,λx=>rB (x.1.getD x_) x.2.1 x.2.2⟩
theorem ao8 (x):A.le (Vx x) (AX.sh x):=A.bx λh=>by
 obtain ⟨o,sp,j⟩:=x;obtain ⟨t,aw⟩:=h;change o=_ at aw;subst aw;unfold Vx;simp only [Option.isSome_some,Option.getD_some,and_true,true_and,and_self,imp_self,implies_true,A.bw];rfl
def Ek (t:dv) (l:List rz):Bool:=l.all λj=>(List.range t.1.2.1.length).any λ(i:Nat)=>rB t ((i:Int),0) j
abbrev Ph:aO:=⟨.aA vU (.slice Ii),de,λx=>∃ t,x.1=some t/\t.1.2.1.length<2 ^ 63/\x.2.length<2 ^ 63,λx=>Ek (x.1.getD x_) x.2⟩
theorem ao9 (t:dv) (l:List rz) (G:t.1.2.1.length<2 ^ 63) (V:l.length<2 ^ 63):Nn AX.sh (some t,l)=A.pure (Ek t l):=by
 unfold Nn;rw [A.dK l (λi (_:Unit)=>(some t,l,(l.length:Int),(i:Int),())) (λj b=>if (!(List.range t.1.2.1.length).any λ(i:Nat)=>rB t ((i:Int),0) j)=true then .done (.done false) else .next b) (λ_=>.next ()) () ?_ ?_ ?_]
 ·rw [kP (q:=λj=>(List.range t.1.2.1.length).any λ(i:Nat)=>rB t ((i:Int),0) j) _ _ (λ_=>rfl)];unfold Ek;cases l.all λj=>(List.range t.1.2.1.length).any λ(i:Nat)=>rB t ((i:Int),0) j<;>simp
 ·rfl
 ·intro i M b;have hw:=bG (n:=(i:Int)+1) (by omega) (by omega);simp only [bZ,cY M,if_true,dm M,cJ M,A.bw,Option.isSome_some,Option.getD_some];rw [A.dK (List.range t.1.2.1.length) (λk (b:Bool)=>(some t,b,l,(l.length:Int),(i:Int),(t.1.2.1.length:Int),(k:Int),l[i],())) (λ(k:Nat) b=>.next (b||rB t ((k:Int),0) l[i])) (λb=>.next (some t,b,l,(l.length:Int),(i:Int),())) false ?_ ?_ ?_]
  ·rw [er];have e:∀ (r:List Nat) (b:Bool),r.foldl (λ(b:Bool) (k:Nat)=>b||rB t ((k:Int),0) l[i]) b=(b||r.any λ(k:Nat)=>rB t ((k:Int),0) l[i]):=by
    intro r;induction r with
    | nil=>simp
    | cons k r aM=>grind
   rw [e,Bool.false_or];simp only [A.aJ,A.b2];cases (List.range t.1.2.1.length).any λ(k:Nat)=>rB t ((k:Int),0) l[i]<;>simp [W.hj,hw]
  ·rfl
  ·intro k ao b;have ao:k<t.1.2.1.length:=by grind
   have mv:=bG (n:=(k:Int)+1) (by omega) (by omega);simp only [cY ao,if_true,List.getElem_range,aO.sh,A.iY,A.dI];rw [A.bH (by simp)];simp only [Option.getD_some,ct,mv,W.hj];grind
  simp
 simp
theorem ao_ (x):A.le (Nn AX.sh x) (Ph.sh x):=A.bx λh=>by
 obtain ⟨o,l⟩:=x;obtain ⟨t,aw,G,V⟩:=h;change o=_ at aw;subst aw;exact ao9 t l G V
def gY (t:dv) (l:List rz) (i:Nat) (j:Int):Bool:=rB t (t.2.1.getD i (0,0)) (l.getD j.toNat (0,0,0))
abbrev Pj:=Option dv×List rz×Int×z4'×z1'×Unit
abbrev Zk:=Bool×z4'×z1'×Unit
def uw (r:Bool×kZ):Zk:=(r.1,r.2.2,r.2.1,())
def Pk (f:Nat) (x:Pj):Prop:=∃ t,x.1=some t/\t.2.1.length<=200/\x.2.1.length<=1000/\0<=x.2.2.1/\x.2.2.1<(x.2.1.length:Int)/\ya t.2.1.length x.2.1.length f (x.2.2.2.2.1,x.2.2.2.1)
def ux (f:Nat) (x:Pj):A Zk:=A.dR (Pk f x) (uw (jX (gY (x.1.getD x_) x.2.1) (x.1.getD x_).2.1.length f x.2.2.1 (x.2.2.2.2.1,x.2.2.2.1)))
theorem ao' {t:dv} {l:List rz} (hm:t.2.1.length<=200) (ak:l.length<=1000) {f:Nat} {an:Int} (Zg:0<=an) (Zh:an<(l.length:Int)) {st:kZ} (aY:ya t.2.1.length l.length (f+1) st) :
  Nv AX.sh (ux f) (some t,l,an,st.2,st.1,())=A.pure (uw (jX (gY t l) t.2.1.length (f+1) an st)):=by
 have DS:=Pf (gd:=gY t l) (m:=t.2.1.length) (J:=l.length) f;unfold Nv;simp only [bZ,A.bw,an3,Option.isSome_some,Option.getD_some];rw [A.gA (List.range t.2.1.length) (λi (b:kZ)=>(some t,l,an,t.2.1,(t.2.1.length:Int),(i:Int),b.2,b.1,())) (λi b=>W.uq (λr=>.done (uw r)) (n3 (gY t l) (jX (gY t l) t.2.1.length f) an i b)) (λb=>.next (b.2,b.1,())) (λi b=>b.1=st.1/\∀ q,cP st.2 q<=cP b.2 q/\cP b.2 q<=1) st ?_ ?_ ?_ ?_]
 ·show _=A.pure (uw (eX (n3 (gY t l) (jX (gY t l) t.2.1.length f) an) (λst=>(false,st)) (List.range t.2.1.length) st));rw [OV,OV,YY];cases x5 (n3 (gY t l) (jX (gY t l) t.2.1.length f) an) (List.range t.2.1.length) st<;>(simp only [W.uq,W.fin,A.aJ,A.b2,A.pr];try rfl)
 ·rfl
 ·exact ⟨rfl,λq=>⟨Int.le_refl _,(aY.seen q).2⟩⟩
 ·intro i M b aa;have M:i<t.2.1.length:=by grind
  have lr:=bG (n:=(i:Int)+1) (by omega) (by omega);rw [List.getElem_range];have apa:b.1.length=t.2.1.length:=by rw [aa.1];exact aY.len
  have eL:i<b.1.length:=by omega
  have apb:0<=an/\an<(l.length:Int):=⟨Zg,Zh⟩
  have kM:=aa.2 (i:Int);have mU:=aY.seen (i:Int);simp only [bZ,cY M,if_true,cJ M,cJ eL,A.bw,apb,aO.sh,A.nW,A.gI,Int.toNat_natCast,Option.getD_some];have y0:rB t (t.2.1.getD i (0,0)) (l.getD an.toNat (0,0,0))=gY t l i an:=rfl;rw [y0];have apc:(∃ cU,(some t:Option dv)=some cU)=True:=by simp
  simp only [apc,and_true,true_and,and_self,imp_self,implies_true,A.bw];by_cases Im:cP b.2 (i:Int) > 0
  ·have hu:n3 (gY t l) (jX (gY t l) t.2.1.length f) an i b=.next b:=by unfold n3;grind
   rw [hu];refine ⟨?_,λbf dh=>by cases dh;exact aa⟩;simp only [Im,decide_true,Bool.true_or,if_true,A.aJ,A.b2,ct,lr,W.hj,W.uq,Bool.not_true,Bool.false_eq_true,false_imp_iff,Bool.true_eq_false,A.bw,and_self,implies_true];rfl
  ·by_cases aC:gY t l i an=true
   ·have bl:cP b.2 (i:Int)=0:=by omega
    have Ig:=bG (n:=cP b.2 (i:Int)+1) (by omega) (by omega);have kd:∀ q,cP b.2 q<=cP (e9 b.2 (i:Int) (cP b.2 (i:Int)+1)) q/\cP (e9 b.2 (i:Int) (cP b.2 (i:Int)+1)) q<=1:=λq=>by
     have:=aa.2 q;rw [AP];omega
    have J_:¬(decide (cP b.2 (i:Int) > 0)||!gY t l i an)=true:=by grind
    by_cases aw:b.1.getD i 0=-1
    ·have hu:n3 (gY t l) (jX (gY t l) t.2.1.length f) an i b=.done (true,(b.1.set i an,e9 b.2 (i:Int) (cP b.2 (i:Int)+1))):=by
      unfold n3;grind
     rw [hu];refine ⟨?_,λbf dh=>by cases dh⟩;simp only [Im,aC,aw,decide_true,decide_false,Bool.not_true,Bool.not_false,Bool.or_self,Bool.false_eq_true,if_false,if_true,false_imp_iff,Bool.true_eq_false,Bool.true_or,A.bw,A.aJ,A.pr,ct,Ig,cJ eL,W.hj,W.uq,and_self,implies_true,true_imp_iff];rfl
    ·have axp:=aY.l2 i M;have aH:0<=b.1.getD i 0/\b.1.getD i 0<(l.length:Int):=by grind
     have vY:ya t.2.1.length l.length f (b.1,e9 b.2 (i:Int) (cP b.2 (i:Int)+1)):=by
      refine ⟨apa,?_,λk=>⟨?_,(kd k).2⟩,?_⟩
      ·show O_ _ _ b.1;rw [aa.1];exact aY.l2
      ·have:=(kd k).1;have:=aa.2 k;have:=(aY.seen k).1;grind
      ·have G:=YW (n:=t.2.1.length) (m:=b.2) (s:=(i:Int)) (v:=cP b.2 (i:Int)+1) (by omega) (by omega) bl (by omega);have V:=YX (n:=t.2.1.length) (a:=st.2) (b:=b.2) λk=>⟨(aY.seen k).1,(aa.2 k).1⟩
       have ah:=aY.cd;grind
     obtain ⟨zJ,apd⟩:=DS (b.1.getD i 0) (b.1,e9 b.2 (i:Int) (cP b.2 (i:Int)+1)) aH.1 aH.2 vY;have gG:Pk f (some t,l,b.1.getD i 0,e9 b.2 (i:Int) (cP b.2 (i:Int)+1),b.1,()):=⟨t,rfl,hm,ak,aH.1,aH.2,vY⟩
     have ve:ux f (some t,l,b.1.getD i 0,e9 b.2 (i:Int) (cP b.2 (i:Int)+1),b.1,())=A.pure (uw (jX (gY t l) t.2.1.length f (b.1.getD i 0) (b.1,e9 b.2 (i:Int) (cP b.2 (i:Int)+1)))):=A.bU gG _;simp only [Im,aC,aw,decide_true,decide_false,Bool.not_true,Bool.not_false,Bool.or_self,Bool.false_eq_true,if_false,if_true,false_imp_iff,Bool.true_eq_false,Bool.false_or,A.bw,ct,Ig,and_self,implies_true,true_imp_iff,ve,A.aJ];have tA:(jX (gY t l) t.2.1.length f (b.1.getD i 0) (b.1,e9 b.2 (i:Int) (cP b.2 (i:Int)+1))).2.1.length=t.2.1.length:=zJ.len;have axq:=zJ.seen;have axr:=apd.Pb;have Zl:n3 (gY t l) (jX (gY t l) t.2.1.length f) an i b=if (jX (gY t l) t.2.1.length f (b.1.getD i 0) (b.1,e9 b.2 (i:Int) (cP b.2 (i:Int)+1))).1=true then .done (true,((jX (gY t l) t.2.1.length f (b.1.getD i 0) (b.1,e9 b.2 (i:Int) (cP b.2 (i:Int)+1))).2.1.set i an,(jX (gY t l) t.2.1.length f (b.1.getD i 0) (b.1,e9 b.2 (i:Int) (cP b.2 (i:Int)+1))).2.2)) else .next (jX (gY t l) t.2.1.length f (b.1.getD i 0) (b.1,e9 b.2 (i:Int) (cP b.2 (i:Int)+1))).2:=by
      unfold n3;grind
     rw [Zl];clear Zl ve;generalize jX (gY t l) t.2.1.length f (b.1.getD i 0) (b.1,e9 b.2 (i:Int) (cP b.2 (i:Int)+1))=r at *
     obtain ⟨ok,g',s'⟩:=r;have p7:i<g'.length:=by grind
     cases ok with
     | true=>
      refine ⟨?_,λbf dh=>by cases dh⟩;simp only [uw,if_true,cJ p7,A.bw,A.aJ,A.pr,W.hj,W.uq]
     | false=>
      refine ⟨?_,λbf dh=>?_⟩
      ·simp only [uw,Bool.false_eq_true,if_false,A.aJ,A.b2,ct,lr,W.hj,W.uq];rfl
      ·cases dh;grind
   ·have hu:n3 (gY t l) (jX (gY t l) t.2.1.length f) an i b=.next b:=by unfold n3;grind
    rw [hu];refine ⟨?_,λbf dh=>by cases dh;exact aa⟩;simp only [Im,aC,decide_false,Bool.not_false,Bool.or_true,if_true,A.aJ,A.b2,ct,lr,W.hj,W.uq,Bool.false_eq_true,A.bw,and_self,implies_true];rfl
 simp
theorem ape (f:Nat) (x):A.le (Nv AX.sh (ux f) x) (ux (f+1) x):=A.bx λh=>by
 obtain ⟨o,l,an,seen,g,u⟩:=x;obtain ⟨t,aw,hm,ak,aY,G,vY⟩:=h;change o=_ at aw;subst aw;exact ao' (st:=(g,seen)) hm ak aY G vY
theorem apf (x:Pj):¬(ux 0 x).cr:=λ⟨_,_,_,_,_,_,h⟩=>absurd h.cd (by omega)
def yc (t:dv) (l:List rz):Int:=(Pg (gY t l) t.2.1.length l.length 201).2
abbrev Io:aO:=⟨.aA vU (.slice Ii),bu,λx=>∃ t,x.1=some t/\t.2.1.length<=200/\x.2.length<=1000,λx=>yc (x.1.getD x_) x.2⟩
theorem apg (t:dv) (l:List rz) (hm:t.2.1.length<=200) (ak:l.length<=1000):No vQ (ux 201) (some t,l)=A.pure (yc t l):=by
 unfold No;simp only [bZ,Option.isSome_some,Option.getD_some,A.bw];unfold vQ;simp only [A.dI];rw [A.bH (by grind)];simp only [Int.toNat_natCast];rw [A.gA (List.range l.length) (λi (b:z1'×Int)=>(some t,l,b.2,(l.length:Int),(i:Int),b.1,())) (λi b=>.next (yb (gY t l) t.2.1.length 201 b i)) (λb=>.next (b.2,())) (λi b=>Ei (gY t l) t.2.1.length l.length i b/\0<=b.2/\b.2<=(i:Int)) (List.replicate t.2.1.length (-1),0) ?_ ?_ ?_ ?_]
 ·rw [er,A.aJ,A.b2];rfl
 ·rfl
 ·refine ⟨?_,by simp⟩;have:=ao7 (gY t l) t.2.1.length 0 201 (by omega);exact ⟨this.len,this.l2,this.one,this.num,this.Zi⟩
 ·intro i M b aa;have M:i<l.length:=by grind
  have lr:=bG (n:=(i:Int)+1) (by omega) (by omega);rw [List.getElem_range];obtain ⟨g,n⟩:=b;obtain ⟨aa,r0,p8⟩:=aa;change 0<=n at r0;change n<=(i:Int) at p8;have AO:=bG (n:=n+1) (by omega) (by omega);have gG:Pk 201 (some t,l,(i:Int),[],g,()):=by
   refine ⟨t,rfl,hm,ak,Int.natCast_nonneg i,Int.ofNat_lt.2 M,aa.len,λk ao=>?_,λk=>by show 0<=cP [] k/\cP [] k<=1;simp [cP,uo],?_⟩
   ·rcases aa.l2 k ao with h | h
    ·exact .inl h
    ·exact .inr ⟨h.1,Int.lt_trans h.2.1 (Int.ofNat_lt.2 M)⟩
   ·have:rv t.2.1.length []<=t.2.1.length:=by
     unfold rv;exact Nat.le_trans List.countP_le_length (by simp)
    grind
  have ve:ux 201 (some t,l,(i:Int),[],g,())=A.pure (uw (jX (gY t l) t.2.1.length 201 (i:Int) (g,[]))):=A.bU gG _;have CP:=Zj (F:=201) (by omega) M aa;refine ⟨?_,λbf dh=>?_⟩
  ·simp only [cY M,if_true,ve,A.aJ,uw];unfold yb;cases cH:(jX (gY t l) t.2.1.length 201 (i:Int) (g,[])).1 with
   | true=>
    simp_all
   | false=>
    simp_all
  ·cases dh;refine ⟨CP,?_⟩;have aF:(0:Int)<=n+1:=by omega
   have bB:n+1<=((i+1:Nat):Int):=by omega
   have di:n<=((i+1:Nat):Int):=by omega
   unfold yb;omega
 simp
theorem aph (x):A.le (No vQ (ux 201) x) (Io.sh x):=A.bx λh=>by
 obtain ⟨o,l⟩:=x;obtain ⟨t,aw,G,V⟩:=h;change o=_ at aw;subst aw;exact apg t l G V
theorem Zm {s:bJ} (af:l1 s):(O4 s).length<=200:=by
 have G:∀ (l:List Nat),(∀ i∈l,i<s.2.1.length)->(l.flatMap λ(i:Nat)=>ls ((i:Int),0) (s.2.1.getD i 0)).length<=10*l.length:=by
  intro l;induction l with
  | nil=>simp
  | cons i l aM=>
   intro ak;have G:=aM λj aH=>ak j (by grind);have V:=ak i (by simp);have ah:=af.O2 _ (List.getElem_mem V);have js:s.2.1.getD i 0=s.2.1[i]:=by grind
   rw [List.flatMap_cons,List.length_append,List.length_cons,js];simp only [ls,List.length_replicate];simp only [ls] at G;omega
 have V:∀ (l:List Dr),(∀ d∈l,oT s.1 d=true)->(l.flatMap λd=>ls (d.2.1,d.1) d.2.2).length<=10*l.length:=by
  intro l;induction l with
  | nil=>simp
  | cons d l aM=>
   intro ak;have G:=aM λj aH=>ak j (by grind);have ah:=ak d (by simp);simp only [oT,b3,Bool.and_eq_true,decide_eq_true_eq] at ah;rw [List.flatMap_cons,List.length_append,List.length_cons];simp only [ls,List.length_replicate];simp only [ls] at G;omega
 have a:=G (List.range s.2.1.length) λi M=>by grind
 have b:=V s.2.2.2.2.1 af.Y4;have c:=af.Y5;have d:=af.O3;have e:=af.Ee;unfold O4 Ef Y8;grind
theorem Zn {s:bJ} (af:l1 s) {cx:z1'} (ar:n1 s cx):(lu s cx).1.length<=24:=by
 unfold lu;split
 ·have:∀ (l:List Nat),(∀ i∈l,i<cx.length)->(l.flatMap λi=>(oU s cx i).getD []).length<=4*l.length:=by
   intro l;induction l with
   | nil=>simp
   | cons i l aM=>
    intro ak;have G:=aM λj aH=>ak j (by grind);have V:=ak i (by simp);rw [List.flatMap_cons,List.length_append,List.length_cons];have:((oU s cx i).getD []).length<=4:=by
     cases h:oU s cx i with
     | none=>simp
     | some y=>exact Y' af ar V h
    omega
  have a:=this (List.range cx.length) λi M=>by grind
  rw [List.length_range] at a;have:=ar.1;have:=af.uu;grind
 ·simp
def pM (s:bJ) (cx:z1'):Bool:=(lu s cx).2&&decide (yc (dn s) (lu s cx).1=0)
abbrev vZ:aO:=⟨.aA vU fS,de,λx=>∃ s,vW x.1 s/\n1 s x.2,λx=>pM (n2 x.1) x.2⟩
theorem api (x):A.le (Vq Ij.sh Io.sh x) (vZ.sh x):=A.bx λh=>by
 obtain ⟨o,cx⟩:=x;obtain ⟨s,⟨aw,af⟩,ar⟩:=h;change o=_ at aw;subst aw;unfold Vq;simp only [aO.sh,A.dI,A.iY];rw [A.bH (by exact ⟨s,⟨rfl,af⟩,ar⟩),A.bH (by exact λ_=>⟨dn s,rfl,Zm af,Nat.le_trans (Zn af ar) (by omega)⟩)];show A.pure ((lu s cx).2&&decide ((if (lu s cx).2=true then yc (dn s) (lu s cx).1 else 0)=0))=A.pure (pM s cx);unfold pM;grind
end Go.Fer
namespace Go.Fer
open A (W)
set_option linter.unusedVariables false
set_option linter.unusedSimpArgs false
def AY (s:bJ) (first:z1') (p:Nat):Bool:=!(first.contains (p:Int)||decide (sN (my s (first.length:Int)) (ng s (p:Int))=0))
def kh (s:bJ) (e:Int):Nat->z1'->List (z1')
 | 0,first=>[first]
 | n+1,first=>((List.range s.2.2.1.length).flatMap λp=>if AY s first p=true then kh s e n (first++[(p:Int)]) else [])++(if e=0 then [] else kh s e n (first++[-1]))
abbrev Zo:Type:=Nat×(List (z1')->Prop)×List (z1')×Bool
abbrev Pl:Type:=Option dv×z1'×Int×Nat×Zo×Unit
abbrev Zp:Type:=Bool×Zo×Unit
structure Pm (f:Nat) (x:Pl) (s:bJ) (n:Nat) (a b:List (z1')):Prop where
 axs:vW x.1 s
 len:x.2.1.length+n=s.2.2.2.1.length
 cd:n<f
 axt:x.2.2.2.2.1.1=x.2.2.2.1
 bC:x.2.2.2.2.1.2.2.2=false
 seq:x.2.2.2.2.1.2.1=λT=>T=a++kh s x.2.2.1 n x.2.1++b
 pos:x.2.2.2.2.1.2.2.1=a
def apj (x:Pl) (y:Zp):Prop:=y.2.1.1=x.2.2.2.1/\y.2.1.2.1=x.2.2.2.2.1.2.1/\(y.1=true->y.2.1.2.2.2=false/\y.2.1.2.2.1=x.2.2.2.2.1.2.2.1++kh (n2 x.1) x.2.2.1 ((n2 x.1).2.2.2.1.length - x.2.1.length) x.2.1)/\(y.1=false->y.2.1.2.2.2=true)
def rC (f:Nat) (x:Pl):A Zp:=⟨∃ s n a b,Pm f x s n a b,apj x⟩
def l3 (s:bJ) (e:Int) (n:Nat) (first:z1') (k:Nat):List (z1'):=(List.range k).flatMap λp=>if AY s first p=true then kh s e n (first++[(p:Int)]) else []
theorem Ip (s:bJ) (e:Int) (n:Nat) (first:z1') (k:Nat):l3 s e n first (k+1)=l3 s e n first k++(if AY s first k=true then kh s e n (first++[(k:Int)]) else []):=by
 unfold l3;rw [List.range_succ,List.flatMap_append];simp
theorem apk (s:bJ) (e:Int) (n:Nat) (first:z1') {k m:Nat} (h:k<=m):∃ t,l3 s e n first m=l3 s e n first k++t:=by
 induction m with
 | zero=>simp_all
 | succ m aM=>
  by_cases ao:k=m+1
  ·simp_all
  ·obtain ⟨t,aL⟩:=aM (by omega);rw [Ip,aL,List.append_assoc];simp
theorem apl {f:Nat} {s:bJ} (af:l1 s) {first:z1'} {e:Int} {l:Nat} {L:List (z1')->Prop} {n:Nat} (hlen:first.length+n=s.2.2.2.1.length) (aw:n<f+1) {a b:List (z1')} (iG:L=λT=>T=a++kh s e n first++b) :
  A.cv (Nw vR.sh (rC f) oK.sh (some (dn s),first,e,l,(l,L,a,false),())) λy=>y.2.1.1=l/\y.2.1.2.1=L/\(y.1=true->y.2.1.2.2.2=false/\y.2.1.2.2.1=a++kh s e n first)/\(y.1=false->y.2.1.2.2.2=true):=by
 have gj:(dn s).1=s:=rfl;have AU:=af.uu;have apm:=af.Ie;unfold Nw;simp only [Option.isSome_some,Option.getD_some,A.bw,bZ,gj];cases n with
 | zero=>
  have ay:decide ((first.length:Int)=(s.2.2.2.1.length:Int))=true:=by grind
  have aC:∃ T,L (a++first::T):=⟨b,by rw [iG];show _=_;simp [kh]⟩
  simp only [ay,if_true,true_and,and_self];rw [A.bH aC,A.fT];refine ⟨⟨true,trivial⟩,λy _=>A.ea.2 ?_⟩;refine ⟨rfl,rfl,λh=>?_,λh=>?_⟩
  ·change y=true at h;subst h;exact ⟨rfl,rfl⟩
  grind
 | succ n=>
  have ay:decide ((first.length:Int)=(s.2.2.2.1.length:Int))=false:=by grind
  simp only [ay,Bool.false_eq_true,if_false,A.fT];obtain ⟨z,bl⟩:∃ z,kh s e (n+1) first=l3 s e n first s.2.2.1.length++z:=⟨_,rfl⟩
  refine A.an1 s.2.2.1.length (λk q=>q=(some (dn s),first,e,l,(first.length:Int),s.2.2.1,(s.2.2.1.length:Int),(k:Int),(l,L,a++l3 s e n first k,false),())) ?_ ?_ ?_
  ·show _=_;simp [l3]
  ·rintro k ao q rfl;have mv:=bG (n:=(k:Int)+1) (by omega) (by omega);have fO:first.length<2 ^ 63:=by omega
   have sO:first.length<s.2.2.2.1.length:=by omega
   have Ik:=O7 sO;have AV:List.getD s.2.2.2.1 first.length ([],(0,0),0,0,0)=my s (first.length:Int):=rfl
   have O8:s.2.2.1[k]=ng s (k:Int):=by simp [ng,List.getD_eq_getElem?_getD,ao]
   have nT:vR.pre (my s (first.length:Int),ng s (k:Int)):=af.hd.2.2.2.2.2.2 _ Ik;have apn:(first.length<2 ^ 63)=True:=by grind
   simp only [cY ao,if_true,cJ ao,dm ao,A.bw,aO.sh,A.nW,A.gI,apn,gj,Int.toNat_natCast,cJ sO,AV,O8,and_true,true_and,and_self,imp_self,implies_true];have apo:((my s (first.length:Int)).1.length<2 ^ 63)=True:=by grind
   have apq:List.getD s.2.2.1 k (0,0,0,0,[])=ng s (k:Int):=rfl;have ez:first.contains (k:Int)=false->(!first.contains (k:Int))=true:=λh=>by grind
   have iH:((0:Int)<=0/\0<=(first.length:Int)/\(first.length:Int)<=(first.length:Int))=True:=by simp
   have kK:List.take first.length first=first:=List.take_length
   have lJ:(0<Add.add 0 1/\cn (Add.add first.length (Add.add 0 1))):=⟨by decide,by show cn (first.length+1);unfold cn;omega⟩
   have ij:(first.contains (k:Int)||decide (sN (my s (first.length:Int)) (ng s (k:Int))=0))=!AY s first k:=by unfold AY;simp
   have jL:first.contains (k:Int)=first.contains (k:Int):=rfl
   simp only [Option.isSome_some,Option.getD_some,gj,cJ sO,AV,apq,apo,and_true,true_and,and_self,imp_self,implies_true,A.bw,A.bH ez,ij,iH,kK];rw [A.bH (by omega)];obtain ⟨t,aL⟩:=apk s e n first (show k+1<=s.2.2.1.length by omega)
   cases aD:AY s first k with
   | false=>
    simp only [Bool.not_false,if_true,A.aJ,A.b2,A.ea,ct,mv];show _=_;rw [Ip,aD];simp
   | true=>
    rw [Ip,aD,if_pos rfl] at aL;simp only [Bool.not_true,Bool.false_eq_true,if_false,A.fT];have DU:Pm f (some (dn s),first++[(k:Int)],e,l,(l,L,a++l3 s e n first k,false),()) s n (a++l3 s e n first k) (t++z++b):=by
     refine ⟨⟨rfl,af⟩,by grind,by omega,rfl,rfl,?_,rfl⟩;grind
    refine ⟨⟨s,n,_,_,DU⟩,λy aS=>?_⟩;obtain ⟨JR,⟨Zq,Zr,Pn,ys⟩,apr⟩:=y;obtain ⟨dx,dP,oh,ur⟩:=aS;change Zq=l at dx;change Zr=L at dP;subst dx;subst dP;cases JR with
    | false=>
     have a7:ys=true:=ur rfl;subst a7;simp only [Bool.not_false,if_true,A.aJ,A.ea,A.pr];simp
    | true=>
     obtain ⟨bM,dr⟩:=oh rfl;change ys=false at bM;change Pn=(a++l3 s e n first k)++kh s e (s.2.2.2.1.length - (first++[(k:Int)]).length) (first++[(k:Int)]) at dr;have u7:s.2.2.2.1.length - (first++[(k:Int)]).length=n:=by grind
     rw [u7] at dr;subst bM;subst dr;simp only [Bool.not_true,Bool.false_eq_true,if_false,A.aJ,A.ea,A.b2,ct,mv];show _=_;rw [Ip,aD,if_pos rfl];simp
  ·rintro q rfl;have kK:List.take first.length first=first:=List.take_length
   have iH:((0:Int)<=0/\0<=(first.length:Int)/\(first.length:Int)=(first.length:Int)/\(first.length:Int)<=(first.length:Int))=True:=by simp
   have lJ:(0<Add.add 0 1/\cn (Add.add first.length (Add.add 0 1))):=⟨by decide,by show cn (first.length+1);unfold cn;omega⟩
   simp only [Int.lt_irrefl,decide_false,Bool.false_eq_true,if_false,A.aJ,A.ea,A.b2,iH,kK,Int.toNat_natCast,and_true];by_cases he:e=0
   ·have yY:kh s e (n+1) first=l3 s e n first s.2.2.1.length:=by
     show l3 s e n first s.2.2.1.length++(if e=0 then [] else kh s e n (first++[-1]))=_
     grind
    simp only [he,decide_true,Bool.not_true,Bool.false_eq_true,if_false,false_imp_iff,A.bw,Bool.true_or,A.ea,Bool.true_eq_false,and_self,implies_true];grind
   ·have yY:kh s e (n+1) first=l3 s e n first s.2.2.1.length++kh s e n (first++[-1]):=by
     show l3 s e n first s.2.2.1.length++(if e=0 then [] else kh s e n (first++[-1]))=_
     grind
    simp only [he,decide_false,Bool.not_false,if_true,true_imp_iff,A.bw,Bool.false_or,and_self,implies_true];rw [A.bH (by simp),A.bH (by omega)];have DU:Pm f (some (dn s),first++[-1],e,l,(l,L,a++l3 s e n first s.2.2.1.length,false),()) s n (a++l3 s e n first s.2.2.1.length) b:=by
     refine ⟨⟨rfl,af⟩,by grind,by omega,rfl,rfl,?_,rfl⟩;grind
    rw [A.fT];refine ⟨⟨s,n,_,_,DU⟩,λy aS=>A.ea.2 ?_⟩;obtain ⟨JR,⟨Zq,Zr,Pn,ys⟩,apr⟩:=y;obtain ⟨dx,dP,oh,ur⟩:=aS;refine ⟨dx,dP,λh=>?_,ur⟩;obtain ⟨bM,dr⟩:=oh h;change Pn=(a++l3 s e n first s.2.2.1.length)++kh s e (s.2.2.2.1.length - (first++[(-1:Int)]).length) (first++[-1]) at dr;grind
theorem aps (f:Nat) (x):A.le (Nw vR.sh (rC f) oK.sh x) (rC (f+1) x):=λh=>by
 obtain ⟨o,first,e,l,⟨dG,L,p,st⟩,u⟩:=x;obtain ⟨s,n,a,b,ar⟩:=h;obtain ⟨⟨aw,af⟩,G,V,ah,a7,bM,dr⟩:=ar;change o=_ at aw;change dG=l at ah;change st=false at a7;change p=a at dr;change L=_ at bM;change first.length+n=_ at G
 change _ at bM;subst aw;subst ah;subst a7;subst dr;have u7:(n2 (some (dn s))).2.2.2.1.length - first.length=n:=by show s.2.2.2.1.length - first.length=n;omega
 refine A.cv.mono (apl af G V bM) λy aS=>⟨aS.1,aS.2.1,λh=>?_,aS.2.2.2⟩
 obtain ⟨aU,aX⟩:=aS.2.2.1 h;refine ⟨aU,?_⟩;rw [aX];show _=p++kh (n2 (some (dn s))) e ((n2 (some (dn s))).2.2.2.1.length - first.length) first
 rw [u7];rfl
theorem apt (x):¬(rC 0 x).cr:=λ⟨s,n,a,b,h⟩=>by have:=h.cd;omega
def lv (e:Int) (s:bJ):List (z1'):=kh s e s.2.2.2.1.length []
def yd (o:Option dv):Prop:=∃ s,vW o s
def Iq (o:Option dv):List (z1'):=lv 1 (n2 o)
def Po (o:Option dv):List (z1'):=lv 0 (n2 o)
theorem apu (s:bJ) (af:l1 s) (l:Nat):A.cv (Hb (rC 10) (some (dn s),l,(l,(λT=>T=lv 1 s),[],false),())) λy=>y.1.1=l/\y.1.2.1=(λT=>T=lv 1 s)/\(y.1.2.2.2=false->y.1.2.2.1=lv 1 s):=by
 unfold Hb;rw [A.fT];have AU:=af.uu;refine ⟨⟨s,s.2.2.2.1.length,[],[],⟨rfl,af⟩,by simp,by omega,rfl,rfl,by show (λT=>T=lv 1 s)=_;simp [lv],rfl⟩,λy aS=>A.ea.2 ?_⟩;obtain ⟨dx,dP,oh,ur⟩:=aS;refine ⟨dx,dP,λh=>?_⟩;cases G:y.1 with
 | false=>grind
 | true=>
  obtain ⟨_,ah⟩:=oh G;show y.2.1.2.2.1=_;rw [ah];rfl
theorem apv (s:bJ) (af:l1 s) (l:Nat):A.cv (Hc (rC 10) (some (dn s),l,(l,(λT=>T=lv 0 s),[],false),())) λy=>y.1.1=l/\y.1.2.1=(λT=>T=lv 0 s)/\(y.1.2.2.2=false->y.1.2.2.1=lv 0 s):=by
 unfold Hc;rw [A.fT];have AU:=af.uu;refine ⟨⟨s,s.2.2.2.1.length,[],[],⟨rfl,af⟩,by simp,by omega,rfl,rfl,by show (λT=>T=lv 0 s)=_;simp [lv],rfl⟩,λy aS=>A.ea.2 ?_⟩;obtain ⟨dx,dP,oh,ur⟩:=aS;refine ⟨dx,dP,λh=>?_⟩;cases G:y.1 with
 | false=>grind
 | true=>
  obtain ⟨_,ah⟩:=oh G;show y.2.1.2.2.1=_;rw [ah];rfl
end Go.Fer
namespace Go.Fer
open A (W)
set_option linter.unusedVariables false
set_option linter.unusedSimpArgs false
theorem Pp {D al:Type} {body:D->al->A (dd×D)} (g:D->al->D) (I:D->Prop):∀ (l:List al) (s:D),I s->(∀ x∈l,∀ s,I s->body s x=A.pure (dd.normal,g s x)/\I (g s x))->jK body l s=A.pure (dd.normal,l.foldl g s)
 | [],s,_,_=>rfl
 | x::l,s,eF,h=>by
  obtain ⟨G,V⟩:=h x (by simp) s eF;unfold jK;rw [G,A.aJ];exact Pp g I l (g s x) V λy aS=>h y (List.mem_cons_of_mem _ aS)
theorem Pq {s:bJ} {e:Int}:∀ {n:Nat} {first y:z1'},y∈kh s e n first->y.length=first.length+n/\∀ p∈y,p∈first\/p=-1\/(0<=p/\p<(s.2.2.1.length:Int))
 | 0,first,y,h=>by
  simp only [kh,List.mem_singleton] at h;grind
 | n+1,first,y,h=>by
  simp only [kh,List.mem_append,List.mem_flatMap,List.mem_range] at h;rcases h with ⟨p,ar,h⟩ | h
  ·split at h
   ·obtain ⟨G,V⟩:=Pq h;grind
   grind
  ·split at h
   ·cases h
   ·obtain ⟨G,V⟩:=Pq h;grind
theorem Pr {s:bJ} {e:Int} {y:z1'} (h:y∈lv e s):y.length=s.2.2.2.1.length/\n1 s y:=by
 obtain ⟨G,V⟩:=Pq h;have G:y.length=s.2.2.2.1.length:=by grind
 refine ⟨G,by omega,λp ar=>?_⟩;grind
theorem apw (s:bJ):n1 s (List.replicate s.2.2.2.1.length (-1)):=⟨by simp,λp ar=>by grind⟩
def sQ (s:bJ) (b y:z1'):z1':=if (decide (rA s y > rA s b)&&pM s y)=true then y else b
def El (s:bJ):z1':=(lv 1 s).foldl (sQ s) (List.replicate s.2.2.2.1.length (-1))
theorem Zs {s:bJ}:∀ (l:List (z1')) (b:z1'),(∀ y∈l,y.length=s.2.2.2.1.length/\n1 s y)->(b.length=s.2.2.2.1.length/\n1 s b)->((l.foldl (sQ s) b).length=s.2.2.2.1.length/\n1 s (l.foldl (sQ s) b))
 | [],b,_,aa=>aa
 | y::l,b,ak,aa=>by
  rw [List.foldl_cons];refine Zs l _ (λz bl=>ak z (List.mem_cons_of_mem _ bl)) ?_;unfold sQ;grind
theorem apx (s:bJ):(El s).length=s.2.2.2.1.length/\n1 s (El s):=Zs _ _ (λ_ h=>Pr h) ⟨by simp,apw s⟩
abbrev Ps:aO:=⟨vU,fS,λo=>∃ s,vW o s,λo=>El (n2 o)⟩
theorem apy (s:bJ) (af:l1 s):Nr H_.sh vZ.sh sP.sh yd Iq (some (dn s))=A.pure (El s):=by
 unfold Nr;have AU:=af.uu;have gj:(dn s).1=s:=rfl;have gG:yd (some (dn s)):=⟨s,rfl,af⟩
 have Pt:Iq (some (dn s))=lv 1 s:=rfl;simp only [Option.isSome_some,Option.getD_some,A.bw,bZ,gj,aO.sh,A.dI,Pt];rw [A.bH (by grind),A.bH gG];simp only [Int.toNat_natCast];rw [Pp (λ(b:Option dv×z1'×Unit) (y:z1')=>(some (dn s),sQ s b.2.1 y,())) (λb=>b.1=some (dn s)/\b.2.1.length=s.2.2.2.1.length) (lv 1 s) (some (dn s),List.replicate s.2.2.2.1.length (-1),()) ⟨rfl,by simp⟩ ?_]
 ·have aw:∀ (l:List (z1')) (b:z1'),l.foldl (λ(b:Option dv×z1'×Unit) (y:z1')=>(some (dn s),sQ s b.2.1 y,())) (some (dn s),b,())=(some (dn s),l.foldl (sQ s) b,()):=by
   intro l;induction l with
   | nil=>simp
   | cons y l aM=>grind
  rw [aw,A.aJ];rfl
 ·intro y aS b aa;obtain ⟨dB,eu,apz⟩:=b;obtain ⟨mg,qR⟩:=aa;change dB=_ at mg;change eu.length=_ at qR;subst mg;obtain ⟨xk,r'⟩:=Pr aS;have jG:sP.pre (some (dn s),y):=⟨s,⟨rfl,af⟩,by grind⟩
  have p5:sP.pre (some (dn s),eu):=⟨s,⟨rfl,af⟩,by grind⟩
  have mb:vZ.pre (some (dn s),y):=⟨s,⟨rfl,af⟩,r'⟩
  have aF:sP.g (some (dn s),y)=rA s y:=rfl;have bB:sP.g (some (dn s),eu)=rA s eu:=rfl;have di:vZ.g (some (dn s),y)=pM s y:=rfl;refine ⟨?_,rfl,?_⟩
  ·simp only [A.nW,A.gI,A.bH jG,A.bH p5,aF,bB,di,mb,and_true,true_and,and_self,imp_self,implies_true,A.bw,sQ];have dx:∀ c:Prop,(c->c/\(∃ nh,vW (some (dn s)) nh/\n1 nh y)):=λc h=>⟨h,mb⟩
   rw [A.bH (dx _)];have aF:n2 (some (dn s))=s:=rfl;simp only [aF];cases hc:(decide (rA s y > rA s eu)&&pM s y)<;>simp
  ·show (sQ s eu y).length=_;unfold sQ;grind
theorem apA (x):A.le (Nr H_.sh vZ.sh sP.sh yd Iq x) (Ps.sh x):=A.bx λh=>by
 obtain ⟨s,aw,af⟩:=h;subst aw;exact apy s af
theorem Ir {s:bJ} {b_:Bool} (h:k0 s b_=0):x9 s b_=(some (dn s),0):=by simp [x9,h]
theorem Is {s:bJ} {b_:Bool} (h:k0 s b_≠0):x9 s b_=(none,k0 s b_):=by simp [x9,h]
def ye (s:bJ) (b_:Bool):Int×Int:=if k0 s b_≠0 then (0,k0 s b_) else (rA s (El s),0)
abbrev Pu:aO:=⟨.aA l0 de,.aA bu bu,λx=>fu x.1,λx=>ye x.1 x.2⟩
theorem apB (x):A.le (Vo AS.sh Ps.sh sP.sh x) (Pu.sh x):=A.bx λh=>by
 unfold Vo;show _=A.pure (ye x.1 x.2);unfold ye;simp only [aO.sh,A.dI];rw [A.bH (by exact h)];by_cases ao:k0 x.1 x.2=0
 ·have af:=AR h (AQ ao).1;simp only [Ir ao,ao,ne_eq,not_true,decide_false,Bool.false_eq_true,if_false];rw [A.bH (by exact ⟨x.1,rfl,af⟩),A.bH (by exact ⟨x.1,⟨rfl,af⟩,Nat.le_of_eq (apx x.1).1⟩)];rfl
 ·simp [Is ao,ao]
abbrev It:aO:=⟨l0,.aA bu bu,fu,λs=>ye s true⟩
theorem apC (x):A.le (Vh Pu.sh x) (It.sh x):=A.bx λh=>by
 unfold Vh;simp only [aO.sh,A.dI];simp_all
def AZ (s:bJ) (n:Int) (y:z1'):Int:=if (!(lu s y).2||!Ek (dn s) (lu s y).1)=true then n else if (decide (n=-1)||decide (yc (dn s) (lu s y).1<n))=true then yc (dn s) (lu s y).1 else n
def Iu (s:bJ):Int:=(lv 0 s).foldl (AZ s) (-1)
def A0 (s:bJ):Int×Int:=if k0 s true≠0 then (0,k0 s true) else if Iu s=-1 then (0,3) else (Iu s,0)
abbrev Iv:aO:=⟨l0,.aA bu bu,fu,A0⟩
theorem apD (x):A.le (Vi AS.sh yd Po Ij.sh Ph.sh Io.sh x) (Iv.sh x):=A.bx λh=>by
 unfold Vi;show _=A.pure (A0 x);unfold A0;simp only [aO.sh,A.dI];rw [A.bH (by exact h)];by_cases ao:k0 x true=0
 ·have af:=AR h (AQ ao).1;have gG:yd (some (dn x)):=⟨x,rfl,af⟩
  have Pt:Po (some (dn x))=lv 0 x:=rfl;simp only [Ir ao,ao,ne_eq,not_true,decide_false,Bool.false_eq_true,if_false,Pt];rw [A.bH gG];rw [Pp (λ(b:Option dv×Int×Unit) (y:z1')=>(some (dn x),AZ x b.2.1 y,())) (λb=>b.1=some (dn x)) (lv 0 x) (some (dn x),-1,()) rfl ?_]
  ·have aw:∀ (l:List (z1')) (b:Int),l.foldl (λ(b:Option dv×Int×Unit) (y:z1')=>(some (dn x),AZ x b.2.1 y,())) (some (dn x),b,())=(some (dn x),l.foldl (AZ x) b,()):=by
    intro l;induction l with
    | nil=>simp
    | cons y l aM=>grind
   rw [aw,A.aJ];show (if decide (Iu x=-1)=true then A.pure ((0:Int),(3:Int)) else A.pure (Iu x,0))=_;grind
  ·intro y aS b aa;obtain ⟨dB,eu,apz⟩:=b;change dB=_ at aa;subst aa;obtain ⟨xk,r'⟩:=Pr aS;refine ⟨?_,rfl⟩;have zD:=Zn af r';have jG:∃ nh,vW (some (dn x)) nh/\n1 nh y:=⟨x,⟨rfl,af⟩,r'⟩
   have fi:(dn x).1.2.1.length<2 ^ 63:=h.2.1;have p5:∃ t,some (dn x)=some t/\t.1.2.1.length<2 ^ 63/\(lu x y).1.length<2 ^ 63:=⟨_,rfl,fi,by omega⟩
   have mb:∃ t,some (dn x)=some t/\t.2.1.length<=200/\(lu x y).1.length<=1000:=⟨_,rfl,Zm af,by omega⟩
   have aF:n2 (some (dn x))=x:=rfl;have bB:Option.getD (some (dn x)) x_=dn x:=rfl;simp only [A.iY,A.dI,aF,bB];rw [A.bH jG];simp only [p5,implies_true,A.bw];rw [A.bH (by exact mb)];show _=A.pure (dd.normal,some (dn x),AZ x eu y,());unfold AZ;cases G:(lu x y).2
   ·simp
   ·cases V:Ek (dn x) (lu x y).1
    ·simp
    ·simp only [Bool.not_true,Bool.not_false,if_true,Bool.or_self,Bool.false_eq_true,if_false];cases ah:(decide (eu=-1)||decide (yc (dn x) (lu x y).1<eu))<;>simp
 ·simp [Is ao,ao]
def ni (s:bJ) (w p:Int):z1':=(List.replicate s.2.2.2.1.length (-1)).set w.toNat p
def Zt (s:bJ) (w:Int):z1':=((List.range s.2.2.1.length).filter λ(p:Nat)=>pM s (ni s w (p:Int))).map λ(p:Nat)=>(p:Int)
def uy (s:bJ) (w:Int):z1'×Int:=if k0 s (x7 s w)≠0 then ([],k0 s (x7 s w)) else (Zt s w,0)
abbrev Iw:aO:=⟨.aA l0 bu,.aA fS bu,λx=>fu x.1,λx=>uy x.1 x.2⟩
theorem Zu {al β:Type} {p:al->Bool} {g:al->β}:∀ (l:List al) (b:List β),l.foldl (λb x=>if p x=true then b++[g x] else b) b=b++(l.filter p).map g
 | [],b=>by simp
 | x::l,b=>by
  simp only [List.foldl_cons,List.filter_cons];rw [Zu l];grind
theorem apE {s:bJ} {w:Int} {p:Nat} (ar:p<s.2.2.1.length):n1 s (ni s w (p:Int)):=by
 refine ⟨by simp [ni],λq br=>?_⟩;unfold ni at br;grind
theorem apF (x):A.le (Vj AS.sh O0.sh vQ vZ.sh x) (Iw.sh x):=A.bx λh=>by
 obtain ⟨s,w⟩:=x;change fu s at h;unfold Vj;show _=A.pure (uy s w);unfold uy;simp only [aO.sh,A.nW,A.gI];rw [A.bH (by exact h),A.bH (by exact h)];by_cases ao:k0 s (x7 s w)=0
 ·have af:=AR h (AQ ao).1;have hw:=aoB.1 (AQ ao).2.1;have AU:=af.uu;have apm:=af.Ie;simp only [Ir ao,ao,ne_eq,not_true,decide_false,Bool.false_eq_true,if_false];unfold vQ;simp only [A.dI,bZ];rw [A.bH (by grind)];simp only [Int.toNat_natCast];rw [A.gA (List.range s.2.2.1.length) (λi (b:z1'×z1')=>(w,some (dn s),(s.2.2.1.length:Int),(i:Int),b.1,b.2,())) (λ(p:Nat) b=>.next (if pM s (ni s w (p:Int))=true then b.1++[(p:Int)] else b.1,ni s w (p:Int))) (λb=>.next (b.1,())) (λi b=>b.1.length<=i/\∀ p,b.2.set w.toNat p=ni s w p) ([],List.replicate s.2.2.2.1.length (-1)) ?_ ?_ ?_ ?_]
  ·rw [er];have aw:∀ (l:List Nat) (b:z1'×z1'),(l.foldl (λb (p:Nat)=>(if pM s (ni s w (p:Int))=true then b.1++[(p:Int)] else b.1,ni s w (p:Int))) b).1=l.foldl (λb (p:Nat)=>if pM s (ni s w (p:Int))=true then b++[(p:Int)] else b) b.1:=by
    intro l;induction l with
    | nil=>simp
    | cons p l aM=>grind
   rw [aw,Zu,A.aJ,A.b2];rfl
  ·rfl
  ·exact ⟨Nat.le_refl _,λp=>rfl⟩
  ·intro i M b aa;have M:i<s.2.2.1.length:=by grind
   have lr:=bG (n:=(i:Int)+1) (by omega) (by omega);obtain ⟨dB,eu⟩:=b;obtain ⟨mg,qR⟩:=aa;change dB.length<=i at mg;change ∀ p,eu.set w.toNat p=ni s w p at qR;have lJ:cn (dB.length+(0+1)):=by unfold cn;omega
   have hlen:eu.length=s.2.2.2.1.length:=by
    have:=congrArg List.length (qR 0);simpa [ni] using this
   have xq:0<=w/\w<(eu.length:Int):=by omega
   rw [List.getElem_range];refine ⟨?_,λbf dh=>?_⟩
   ·simp only [cY M,if_true,xq,and_self,A.bw,A.dI,qR];rw [A.bH (by exact ⟨s,⟨rfl,af⟩,apE M⟩)];have aF:n2 (some (dn s))=s:=rfl;simp only [aF,ct,jn,A.bH lJ];cases pM s (ni s w (i:Int))<;>simp [W.hj,lr]
   ·cases dh;refine ⟨?_,λp=>?_⟩
    ·grind
    ·show (ni s w (i:Int)).set w.toNat p=ni s w p;unfold ni;simp
  simp
 ·simp [Is ao,ao]
def A1 (s:bJ) (cx:z1'):Int×Int:=if k0 s (vT s cx)≠0 then (0,k0 s (vT s cx)) else if (!pM s cx)=true then (0,3) else (rA s cx,0)
abbrev Ix:aO:=⟨.aA l0 fS,.aA bu bu,λx=>fu x.1/\x.2.length<2 ^ 63,λx=>A1 x.1 x.2⟩
theorem apG {s:bJ} {cx:z1'} (h:vT s cx=true):cx.length=s.2.2.2.1.length/\n1 s cx:=by
 unfold vT at h;simp only [Bool.and_eq_true,List.all_eq_true,List.mem_range,decide_eq_true_eq] at h;obtain ⟨G,V⟩:=h;refine ⟨by omega,by omega,λp ar=>?_⟩;obtain ⟨i,M,rfl⟩:=List.mem_iff_getElem.1 ar;have:=G i M;have js:cx.getD i 0=cx[i]:=by grind
 unfold vS at this;simp only [js,Bool.or_eq_true,decide_eq_true_eq,Bool.and_eq_true,aoC] at this;omega
theorem apH (x):A.le (Vn AS.sh vZ.sh Ic.sh sP.sh x) (Ix.sh x):=A.bx λh=>by
 obtain ⟨s,cx⟩:=x;obtain ⟨aG,ak⟩:=h;unfold Vn;show _=A.pure (A1 s cx);unfold A1;simp only [aO.sh,A.nW,A.gI];have ar:Ic.pre (s,cx):=⟨aG,ak⟩
 rw [A.bH (by exact ar),A.bH (by exact aG)];by_cases ao:k0 s (vT s cx)=0
 ·have af:=AR aG (AQ ao).1;obtain ⟨apI,xm⟩:=apG (AQ ao).2.1;simp only [Ir ao,ao,ne_eq,not_true,decide_false,Bool.false_eq_true,if_false,A.dI];rw [A.bH (by exact ⟨s,⟨rfl,af⟩,xm⟩)];have aF:n2 (some (dn s))=s:=rfl;simp only [aF];cases aw:pM s cx with
  | false=>simp
  | true=>
   simp only [Bool.not_true,Bool.false_eq_true,if_false];rw [A.bH (by exact ⟨s,⟨rfl,af⟩,Nat.le_of_eq apI⟩)]
 ·simp [Is ao,ao]
end Go.Fer
namespace Go.Fer
open A (W)
set_option linter.unusedVariables false
set_option linter.unusedSimpArgs false
def Em (s:bJ):Prop:=an4 s.1/\s.2.1.length<=2000000/\s.2.2.1.length<=2000000/\s.2.2.2.1.length<=2000000/\s.2.2.2.2.1.length<=2000000/\(∀ p∈s.2.2.1,p.2.2.2.2.length<=2000000)/\∀ x∈s.2.2.2.1,x.1.length<=2000000
theorem apJ {s:bJ} (af:l1 s):Em s:=by
 have anO:=D3 af.sG.2;refine ⟨⟨by omega,by omega,by omega,λm hm=>?_⟩,by have:=af.Ee;omega,by have:=af.Ie;omega,by have:=af.uu;omega,by have:=af.O3;omega,λp ar=>by have:=(O6 af ar).2.1;omega,λx aj=>?_⟩
 ·have kM:=(AJ af.sG.2).2.2.1 m hm;simp only [qy,Bool.and_eq_true,Bool.not_eq_true',decide_eq_false_iff_not,List.all_eq_true] at kM;refine ⟨by omega,λs' rT=>?_⟩;have:=kM.2 s' rT;simp only [pG,Bool.and_eq_true,decide_eq_true_eq] at this;omega
 ·have:=af.Y3 x aj;simp only [oS,b3,Bool.and_eq_true,decide_eq_true_eq] at this;omega
end Go.Fer
namespace Go.Fer
open A (W)
set_option linter.unusedVariables false
set_option linter.unusedSimpArgs false
def Zv (s:bJ):Int:=(s.2.2.1.map λp=>(p.2.2.2.2.length:Int)).foldl (·+·) 0
def uz (s:bJ):Bool:=
 if (lZ s.1||decide ((s.2.1.length:Int) > 40)||decide ((s.2.2.1.length:Int) > 40)||decide ((s.2.2.2.1.length:Int) > 40)||decide ((s.2.2.2.2.1.length:Int) > 40))=true then true
 else if (s.2.2.1.any λp=>decide ((p.2.2.2.2.length:Int) > 40))=true then true
 else if (s.2.2.2.1.any λx=>decide ((x.1.length:Int) > 40))=true then true
 else if ja s≠0 then false
 else decide ((s.2.2.2.1.length:Int) > 3)||decide ((s.2.2.1.length:Int) > 4)||decide ((s.2.2.2.2.1.length:Int) > 3)||decide (Zv s > 4)
abbrev Iy:aO:=⟨l0,de,fu,uz⟩
theorem apK (x):A.le (Yw pL.sh vG.sh x) (Iy.sh x):=A.bx λh=>by
 change fu x at h;unfold Yw;show _=A.pure (uz x);unfold uz;simp only [aO.sh,A.dI,bZ];rw [A.bH (by exact h.1)];obtain ⟨g1,eo,g3,g4,g5,g6,g7⟩:=id h;by_cases G:(lZ x.1||decide ((x.2.1.length:Int) > 40)||decide ((x.2.2.1.length:Int) > 40)||decide ((x.2.2.2.1.length:Int) > 40)||decide ((x.2.2.2.2.1.length:Int) > 40))=true
 ·grind
 ·rw [if_neg G,if_neg G];simp only [Bool.or_eq_true,decide_eq_true_eq,not_or] at G;rw [A.dK x.2.2.1 (λi (_:Unit)=>((i:Int),x,())) (λp u=>if decide ((p.2.2.2.2.length:Int) > 40)=true then .done (.done true) else .next u) (λ_=>.next (x,())) () ?_ ?_ ?_]
  ·rw [rj (p:=λp:dy=>decide ((p.2.2.2.2.length:Int) > 40))];by_cases V:(x.2.2.1.any λp=>decide ((p.2.2.2.2.length:Int) > 40))=true
   ·simp only [V,if_true,A.aJ,A.pr]
   ·simp only [V,Bool.false_eq_true,if_false,A.aJ,A.b2];rw [A.dK x.2.2.2.1 (λi (_:Unit)=>((i:Int),x,())) (λp u=>if decide ((p.1.length:Int) > 40)=true then .done (.done true) else .next u) (λ_=>.next (x,())) () ?_ ?_ ?_]
    ·rw [rj (p:=λp:dN=>decide ((p.1.length:Int) > 40))];by_cases ah:(x.2.2.2.1.any λx=>decide ((x.1.length:Int) > 40))=true
     ·simp only [ah,if_true,A.aJ,A.pr]
     ·simp only [ah,Bool.false_eq_true,if_false,A.aJ,A.b2];rw [A.bH (by exact h)];by_cases he:ja x=0
      ·simp only [he,ne_eq,not_true,decide_false,Bool.false_eq_true,if_false];have aa:∀ p∈x.2.2.1,p.2.2.2.2.length<=40:=λp ar=>by
        grind
       rw [A.gA x.2.2.1 (λi (n:Int)=>(n,(i:Int),x,())) (λp n=>.next (n+(p.2.2.2.2.length:Int))) (λn=>.next (n,x,())) (λi n=>0<=n/\n<=40*i) 0 ?_ ?_ ?_ ?_]
       ·rw [er,A.aJ,A.b2];unfold Zv;rw [List.foldl_map]
       ·rfl
       ·simp
       ·intro i M n aD;have lr:=bG (n:=(i:Int)+1) (by omega) (by omega);have axu:=aa _ (List.getElem_mem M);have AO:=bG (n:=n+(x.2.2.1[i].2.2.2.2.length:Int)) (by omega) (by omega);refine ⟨?_,λbf dh=>?_⟩
        ·simp only [cY M,if_true,cJ M,A.bw,dm M,ct,lr,AO];rfl
        grind
       simp
      grind
    ·rfl
    ·intro i M u;have lr:=bG (n:=(i:Int)+1) (by omega) (by omega);simp only [cY M,if_true,cJ M,A.bw,dm M,A.aJ,ct,lr];exact mW (mk:=λ_:Unit=>((i:Int)+1,x,()))
    simp
  ·rfl
  ·intro i M u;have lr:=bG (n:=(i:Int)+1) (by omega) (by omega);simp only [cY M,if_true,cJ M,A.bw,dm M,A.aJ,ct,lr];exact mW (mk:=λ_:Unit=>((i:Int)+1,x,()))
  simp
def A2:bJ:=(H3,[1,0,0,0],[(1,60,0,0,[0]),(1,60,7,0,[]),(2,65,0,1,[0]),(2,60,0,0,[0,1])],[([1],(55,65),7,3,500),([1,2],(60,60),0,5,400),([2],(60,70),9,8,700),([2],(65,65),0,5,300)],[(4,2,1),(6,3,1)],2)
abbrev Iz:aO:=⟨.cQ,l0,λ_=>True,λ_=>A2⟩
theorem apL (x):A.le (Yx OW.sh x) (Iz.sh x):=A.bx λ_=>by
 unfold Yx;simp only [aO.sh,A.dI,A.bw];rfl
theorem apM:fu A2:=by
 refine ⟨an8,by decide,by decide,by decide,by decide,?_,?_⟩
 ·intro p ar;simp only [A2,List.mem_cons,List.not_mem_nil,or_false] at ar;grind
 ·intro x aj;simp only [A2,List.mem_cons,List.not_mem_nil,or_false] at aj;grind
end Go.Fer
namespace Go.Fer.H
open A (W)
set_option linter.unusedVariables false
def Zw (z7:a6->A Int) (NF:List bb->A (List bb×Bool)) (apN:List (List bb)->A (List bb)) (apO:List (z1')×Unit->A (z1'×Unit)) (NH:z1'×Unit->A (z1'×Unit)) (apP:z1'×Unit->A ((Nat×Nat)×z1'×Unit)) (IA:z4'->A (z4')) (x:a6×List bb×z1'):A (a6×Int):=
 letI a:=x.1.2.2.2;A.bind (z7 x.1) λy=>if decide (y≠0)=true then A.pure (([],[],[],[],0,0,0,0,0,0,0),y) else A.bind (z7 (x.1.1,x.2.1,x.2.2,a)) λy=>if decide (y≠0)=true then A.pure (([],[],[],[],0,0,0,0,0,0,0),y) else A.bind (apN [x.1.2.1,x.2.1]) λy=>A.bind (NF y) λy=>if (!y.2)=true then A.pure (([],[],[],[],0,0,0,0,0,0,0),91) else A.bind (apO ([x.1.2.2.1,x.2.2],())) λbV=>A.bind (NH (bV.1,())) λdL=>A.bind (apP (dL.1,())) λgB=>if (decide (Int.ofNat (List.length y.1) > 12)||decide (Int.ofNat (gB.1.2-gB.1.1) > 12))=true then A.pure (([],[],[],[],0,0,0,0,0,0,0),90) else A.ae (IA x.1.1).cr (A.ae (IA a.1).cr (A.pure ((A.val (IA x.1.1) [],y.1,List.drop gB.1.1 (List.take gB.1.2 gB.2.1),A.val (IA a.1) [],a.2),0)))
def Zx (apQ:Int×Unit->A (List bb×Unit)) (x:List (List bb)):A (List bb):=
 A.bind (A.loop (λ(D:List (List bb)×Int×List (List bb)×Int×Int×Unit)=>letI d:=D.2.2;letI b:=d.2.2.1;letI a:=IntKind.wrap .i64 (Add.add D.2.1 (Int.ofNat (List.length (List.getD d.1 (Int.toNat b) []))));if decide (b<d.2.1)=true then A.bind (A.ae (0<=b/\b<Int.ofNat (List.length d.1)) (if decide (a<0)=true then A.ae False (A.ae False (A.pure (W.next (D.1,a,d.1,d.2.1,b,())))) else A.pure (W.next (D.1,a,d.1,d.2.1,b,())))) (W.bC (λ(D:List (List bb)×Int×List (List bb)×Int×Int×Unit)=>A.pure (W.next (D.1,D.2.1,D.2.2.1,D.2.2.2.1,IntKind.wrap .i64 (Add.add D.2.2.2.2.1 1),())))) else A.bind (A.pure (W.next (D.1,D.2.1,()))) λr=>A.pure (W.done r)) (x,0,x,Int.ofNat (List.length x),0,())) (W.bC (λ(D:List (List bb)×Int×Unit)=>A.bind (apQ (D.2.1,())) λy=>A.bind (A.loop (λ(D:List (List bb)×Int×Int×List bb×Unit)=>letI e:=D.2.2;letI c:=List.getD D.1 (Int.toNat e.1) [];if decide (e.1<D.2.1)=true then A.ae (0<=e.1/\e.1<Int.ofNat (List.length D.1)) (A.ae (cn (Add.add (List.length e.2.1) (List.length c))) (A.pure (W.next (D.1,D.2.1,IntKind.wrap .i64 (Add.add e.1 1),e.2.1++c,())))) else A.bind (A.pure (W.next (e.2.1,()))) λr=>A.pure (W.done r)) (D.1,Int.ofNat (List.length D.1),0,y.1,())) (W.bC (λ(D:List bb×Unit)=>A.pure D.1))))
def Zy (apR:Int×Unit->A (z1'×Unit)) (x:List (z1')×Unit):A (z1'×Unit):=
 A.bind (A.loop (λ(D:List (z1')×Int×List (z1')×Int×Int×Unit)=>letI d:=D.2.2;letI b:=d.2.2.1;letI a:=IntKind.wrap .i64 (Add.add D.2.1 (Int.ofNat (List.length (List.getD d.1 (Int.toNat b) []))));if decide (b<d.2.1)=true then A.bind (A.ae (0<=b/\b<Int.ofNat (List.length d.1)) (if decide (a<0)=true then A.ae False (A.ae False (A.pure (W.next (D.1,a,d.1,d.2.1,b,())))) else A.pure (W.next (D.1,a,d.1,d.2.1,b,())))) (W.bC (λ(D:List (z1')×Int×List (z1')×Int×Int×Unit)=>A.pure (W.next (D.1,D.2.1,D.2.2.1,D.2.2.2.1,IntKind.wrap .i64 (Add.add D.2.2.2.2.1 1),())))) else A.bind (A.pure (W.next (D.1,D.2.1,()))) λr=>A.pure (W.done r)) (x.1,0,x.1,Int.ofNat (List.length x.1),0,())) (W.bC (λ(D:List (z1')×Int×Unit)=>A.bind (apR (D.2.1,())) λy=>A.bind (A.loop (λ(D:List (z1')×Int×Int×z1'×Unit)=>letI e:=D.2.2;letI c:=List.getD D.1 (Int.toNat e.1) [];if decide (e.1<D.2.1)=true then A.ae (0<=e.1/\e.1<Int.ofNat (List.length D.1)) (A.ae (cn (Add.add (List.length e.2.1) (List.length c))) (A.pure (W.next (D.1,D.2.1,IntKind.wrap .i64 (Add.add e.1 1),e.2.1++c,())))) else A.bind (A.pure (W.next (e.2.1,()))) λr=>A.pure (W.done r)) (D.1,Int.ofNat (List.length D.1),0,y.1,())) (W.bC (λ(D:z1'×Unit)=>A.pure (D.1,())))))
def apS (x:z1'×Unit):A ((Nat×Nat)×z1'×Unit):=
 if decide (Int.ofNat (List.length x.1)<2)=true then A.pure ((0,List.length x.1),x.1,()) else A.bind (A.loop (λ(D:Int×z1'×Unit)=>letI l:=D.1;letI j:=D.2.1;letI g:=IntKind.wrap .i64 (l-1);letI b:=Int.ofNat (List.length j);if decide (l<b)=true then A.bind (A.ae (0<=l/\l<b) (A.ae (0<=g/\g<b) (if decide (List.getD j (Int.toNat l) 0=List.getD j (Int.toNat g) 0)=true then A.ae (0<=l/\l<=b/\b<=b) (A.bind (A.loop (λ(D:Int×(Nat×Nat)×Int×z1'×Unit)=>letI k:=D.2.1;letI e:=D.2.2;letI i:=IntKind.wrap .i64 (e.1-1);letI h:=List.getD e.2.1 (Add.add k.1 (Int.toNat e.1)) 0;letI d:=Int.ofNat (k.2-k.1);if decide (e.1<d)=true then A.bind (A.ae (0<=e.1/\e.1<d) (A.ae (0<=i/\i<d) (if decide (h≠List.getD e.2.1 (Add.add k.1 (Int.toNat i)) 0)=true then A.ae (0<=e.1/\e.1<d) (A.ae (0<=D.1/\D.1<Int.ofNat (List.length e.2.1)) (A.pure (W.next (IntKind.wrap .i64 (Add.add D.1 1),k,e.1,List.set e.2.1 (Int.toNat D.1) h,())))) else A.pure (W.next (D.1,k,e.1,e.2.1,()))))) (W.bC (λ(D:Int×(Nat×Nat)×Int×z1'×Unit)=>A.pure (W.next (D.1,D.2.1,IntKind.wrap .i64 (Add.add D.2.2.1 1),D.2.2.2.1,())))) else A.bind (A.pure (W.next (D.1,e.2.1,()))) λr=>A.pure (W.done r)) (l,(Int.toNat l,Int.toNat b),1,j,())) (W.bC (λ(D:Int×z1'×Unit)=>letI f:=Int.toNat D.1;letI c:=Int.ofNat (List.length D.2.1);letI a:=List.take f D.2.1++List.replicate (Int.toNat c-f) 0++List.drop (Add.add f (List.length (List.replicate (Int.toNat c-f) (0:Int)))) D.2.1;A.ae (0<=D.1/\D.1<=c/\c<=c) (A.ae True (A.ae ((0:Int)<=0/\0<=D.1/\D.1<=Int.ofNat (List.length a)) (A.bind (A.bind (A.bind (A.pure ((Int.toNat 0,f),a,())) (λr=>A.pure (W.done r))) (λr=>A.pure (W.done r))) (λr=>A.pure (W.done r)))))))) else A.pure (W.next (l,j,()))))) (W.bC (λ(D:Int×z1'×Unit)=>A.pure (W.next (IntKind.wrap .i64 (Add.add D.1 1),D.2.1,())))) else A.bind (A.pure (W.next (j,()))) λr=>A.pure (W.done r)) (1,x.1,())) (W.bC (λ(D:z1'×Unit)=>A.pure ((0,List.length D.1),D.1,())))
end Go.Fer.H
namespace Go.Fer.H
open A (W)
set_option linter.unusedVariables false
set_option linter.unusedSimpArgs false
def IB (x:Int×Unit):A (z1'×Unit):=A.dR (0<=x.1/\x.1<60000) ([],())
def IC (x:Int×Unit):A (List bb×Unit):=A.dR (0<=x.1/\x.1<60000) ([],())
section
variable {al gq:Type}
def ID (g:Int×Unit->A (List al×Unit)) (x:List (List al)) (k:List al->A gq):A gq:=
 A.bind (A.loop (λ(D:List (List al)×Int×List (List al)×Int×Int×Unit)=>if decide (D.2.2.2.2.1<D.2.2.2.1)=true then A.bind (A.ae (0<=D.2.2.2.2.1/\
 D.2.2.2.2.1<Int.ofNat (List.length D.2.2.1)) (if decide (IntKind.wrap .i64 (Add.add D.2.1 (Int.ofNat (List.length (List.getD D.2.2.1 (Int.toNat D.2.2.2.2.1) [])))) <
 0)=true then A.ae False (A.ae False (A.pure (W.next (D.1,IntKind.wrap .i64 (Add.add D.2.1 (Int.ofNat (List.length (List.getD D.2.2.1 (Int.toNat D.2.2.2.2.1)
 [])))),D.2.2.1,D.2.2.2.1,D.2.2.2.2.1,())))) else A.pure (W.next (D.1,IntKind.wrap .i64 (Add.add D.2.1 (Int.ofNat (List.length (List.getD D.2.2.1 (Int.toNat
 D.2.2.2.2.1) [])))),D.2.2.1,D.2.2.2.1,D.2.2.2.2.1,())))) (W.bC λ(D:List (List al)×Int×List (List al)×Int×Int×Unit)=>A.pure (W.next (D.1,D.2.1,D.2.2.1,D.2.2.2.1,IntKind.wrap .i64 (Add.add D.2.2.2.2.1 1),()))) else A.bind (A.pure (W.next (D.1,D.2.1,()))) λr=>A.pure (W.done r)) (x,0,x,Int.ofNat
 (List.length x),0,())) (W.bC λ(D:List (List al)×Int×Unit)=>A.bind (g (D.2.1,())) λy=>A.bind (A.loop (λ(D:List (List al)×Int×Int×List al×
 Unit)=>if decide (D.2.2.1<D.2.1)=true then A.ae (0<=D.2.2.1/\D.2.2.1<Int.ofNat (List.length D.1)) (A.ae (cn (Add.add (List.length D.2.2.2.1) (List.length
 (List.getD D.1 (Int.toNat D.2.2.1) [])))) (A.pure (W.next (D.1,D.2.1,IntKind.wrap .i64 (Add.add D.2.2.1 1),D.2.2.2.1++List.getD D.1 (Int.toNat D.2.2.1) [],())))) else A.bind (A.pure (W.next (D.2.2.2.1,()))) λr=>A.pure (W.done r)) (D.1,Int.ofNat (List.length D.1),0,y.1,())) (W.bC λ(D:List al×Unit)
 =>k D.1))
theorem Zz:∀ (l:List (List al)) (b:List al),l.foldl (λb x=>b++x) b=b++l.flatten
 | [],b=>by simp
 | x::l,b=>by simp [Zz l]
theorem ZA (g:Int×Unit->A (List al×Unit)) (aC:∀ n,0<=n->n<60000->g (n,())=A.pure ([],())) (x:List (List al)) (k:List al->A gq) (G:x.length<=2) (V:∀ l∈x,l.length<=40):ID g x k=k x.flatten:=by
 unfold ID;rw [A.gA x (λi (n:Int)=>(x,n,x,(x.length:Int),(i:Int),())) (λl n=>.next (n+(l.length:Int))) (λn=>.next (x,n,())) (λi n=>0<=n/\n<=40*(i:Int)) 0 ?_ ?_ ?_ ?_]
 ·rw [er,A.aJ,A.b2];have aG:∀ (l:List (List al)) (n:Int),0<=n->(∀ y∈l,y.length<=40)->0<=l.foldl (λn y=>n+(y.length:Int)) n/\l.foldl (λn y=>n+(y.length:Int)) n<=n+40*(l.length:Int):=by
   intro l;induction l with
   | nil=>simp
   | cons y l aM=>
    grind
  obtain ⟨dB,eu⟩:=aG x 0 (Int.le_refl _) V;rw [aC _ dB (by omega),A.aJ];rw [A.gA x (λi (b:List al)=>(x,(x.length:Int),(i:Int),b,())) (λl b=>.next (b++l)) (λb=>.next (b,())) (λi b=>b.length<=40*i) [] ?_ ?_ ?_ ?_]
  ·rw [er,A.aJ,A.b2,Zz];rfl
  ·rfl
  ·simp
  ·intro i M b aa;have hw:=bG (n:=(i:Int)+1) (by omega) (by omega);have ak:=V _ (List.getElem_mem M);refine ⟨?_,λbf dh=>?_⟩
   ·simp only [bZ,cY M,if_true,dm M,cJ M,A.bw,ct,hw];rw [A.bH (hV (by grind))];rfl
   grind
  simp
 ·rfl
 ·omega
 ·intro i M n aD;have hw:=bG (n:=(i:Int)+1) (by omega) (by omega);have ak:=V _ (List.getElem_mem M);have gR:=bG (n:=n+(x[i].length:Int)) (by omega) (by omega);have ay:decide (n+(x[i].length:Int)<0)=false:=by grind
  refine ⟨?_,λbf dh=>?_⟩
  ·simp only [bZ,cY M,if_true,dm M,cJ M,A.bw,ct,hw,gR,ay,Bool.false_eq_true,if_false,A.aJ,A.b2];rfl
  grind
 simp
end
abbrev IE:aO:=⟨.slice (.slice hl),.slice hl,λx=>x.length<=2/\∀ l∈x,l.length<=40,λx=>x.flatten⟩
theorem apT (x):A.le (Zx IC x) (IE.sh x):=A.bx λh=>
 (show Zx IC x=ID IC x A.pure from rfl).trans (ZA _ (λn a b=>A.bU ⟨a,b⟩ _) x _ h.1 h.2)
def IF (x:List (z1')×Unit):A (z1'×Unit):=A.dR (x.1.length<=2/\∀ l∈x.1,l.length<=40) (x.1.flatten,())
theorem apU (x):A.le (Zy IB x) (IF x):=A.bx λh=>
 (show Zy IB x=ID IB x.1 (λl=>A.pure (l,())) from rfl).trans (ZA _ (λn a b=>A.bU ⟨a,b⟩ _) x.1 _ h.1 h.2)
def n5 (l:z1') (j:Nat):Bool:=decide (j=0)||decide (l.getD j 0≠l.getD (j - 1) 0)
def fs (l:z1') (p:Nat):z1':=((List.range p).filter (n5 l)).map λj=>l.getD j 0
theorem Pv (l:z1') (p:Nat):fs l (p+1)=fs l p++if n5 l p=true then [l.getD p 0] else []:=by
 unfold fs;rw [List.range_succ,List.filter_append,List.map_append];grind
theorem apV (l:z1') (p:Nat):(fs l p).length<=p:=by
 unfold fs;grind
def En {R:Type}:Int×(Nat×Nat)×Int×z1'×Unit->A (W (Int×(Nat×Nat)×Int×z1'×Unit) (W (Int×z1'×Unit) R)):=
 (λ(D:Int×(Nat×Nat)×Int×z1'×Unit)=>if decide (D.2.2.1<Int.ofNat (D.2.1.2 - D.2.1.1))=true then A.bind (A.ae (0<=D.2.2.1/\D.2.2.1<Int.ofNat
 (D.2.1.2 - D.2.1.1)) (A.ae (0<=IntKind.wrap .i64 (D.2.2.1 - 1)/\IntKind.wrap .i64 (D.2.2.1 - 1)<Int.ofNat (D.2.1.2 - D.2.1.1)) (if decide (List.getD D.2.2.2.1
 (Add.add D.2.1.1 (Int.toNat D.2.2.1)) 0≠List.getD D.2.2.2.1 (Add.add D.2.1.1 (Int.toNat (IntKind.wrap .i64 (D.2.2.1 - 1)))) 0)=true then A.ae (0<=D.2.2.1/\D.2.2.1
 < Int.ofNat (D.2.1.2 - D.2.1.1)) (A.ae (0<=D.1/\D.1<Int.ofNat (List.length D.2.2.2.1)) (A.pure (W.next (IntKind.wrap .i64 (Add.add D.1 1),D.2.1,D.2.2.1,List.set D.2.2.2.1 (Int.toNat D.1) (List.getD D.2.2.2.1 (Add.add D.2.1.1 (Int.toNat D.2.2.1)) 0),())))) else A.pure (W.next (D.1,D.2.1,D.2.2.1,D.2.2.2.1,())))))
 (W.bC λ(D:Int×(Nat×Nat)×Int×z1'×Unit)=>A.pure (W.next (D.1,D.2.1,IntKind.wrap .i64 (Add.add D.2.2.1 1),D.2.2.2.1,()))) else A.bind
 (A.pure (W.next (D.1,D.2.2.2.1,()))) λr=>A.pure (W.done r))
def v7:Int×z1'×Unit->A (W (Int×z1'×Unit) (W (z1'×Unit) ((Nat×Nat)×z1'×Unit))):=
 (λ(D:Int×z1'×Unit)=>if decide (D.1<Int.ofNat (List.length D.2.1))=true then A.bind (A.ae (0<=D.1/\D.1<Int.ofNat (List.length D.2.1)) (A.ae (0<=
 IntKind.wrap .i64 (D.1 - 1)/\IntKind.wrap .i64 (D.1 - 1)<Int.ofNat (List.length D.2.1)) (if decide (List.getD D.2.1 (Int.toNat D.1) 0=List.getD D.2.1 (Int.toNat
 (IntKind.wrap .i64 (D.1 - 1))) 0)=true then A.ae (0<=D.1/\D.1<=Int.ofNat (List.length D.2.1)/\Int.ofNat (List.length D.2.1)<=Int.ofNat (List.length D.2.1))
 (A.bind (A.loop En (D.1,(Int.toNat D.1,Int.toNat (Int.ofNat (List.length D.2.1))),1,D.2.1,())) (W.bC λ(D:Int×z1'×Unit)=>A.ae (0<=D.1/\D.1<=
 Int.ofNat (List.length D.2.1)/\Int.ofNat (List.length D.2.1)<=Int.ofNat (List.length D.2.1)) (A.ae True (A.ae ((0:Int)<=0/\0<=D.1/\D.1<=Int.ofNat (List.length
 (List.take (Int.toNat D.1) D.2.1++List.replicate (Int.toNat (Int.ofNat (List.length D.2.1)) - Int.toNat D.1) 0++List.drop (Add.add (Int.toNat D.1) (List.length
 (List.replicate (Int.toNat (Int.ofNat (List.length D.2.1)) - Int.toNat D.1) (0:Int)))) D.2.1))) (A.bind (A.bind (A.bind (A.pure ((Int.toNat 0,Int.toNat D.1),List.take
 (Int.toNat D.1) D.2.1++List.replicate (Int.toNat (Int.ofNat (List.length D.2.1)) - Int.toNat D.1) 0++List.drop (Add.add (Int.toNat D.1) (List.length (List.replicate
 (Int.toNat (Int.ofNat (List.length D.2.1)) - Int.toNat D.1) (0:Int)))) D.2.1,())) λr=>A.pure (W.done r)) λr=>A.pure (W.done r)) λr=>A.pure (W.done
 r)))))) else A.pure (W.next (D.1,D.2.1,()))))) (W.bC λ(D:Int×z1'×Unit)=>A.pure (W.next (IntKind.wrap .i64 (Add.add D.1 1),D.2.1,()))) else
 A.bind (A.pure (W.next (D.2.1,()))) λr=>A.pure (W.done r))
structure yf (l:z1') (p:Nat) (m:z1'):Prop where
 len:m.length=l.length
 BT:m.take (fs l p).length=fs l p
 lt:(fs l p).length<p
 cm:∀ j,p<=j+1->m.getD j 0=l.getD j 0
theorem apW {al:Type} {l:List al} {i j:Nat} {v d:al} (h:i<l.length):(l.set i v).getD j d=if j=i then v else l.getD j d:=by
 grind
theorem yf.step {l m:z1'} {p:Nat} (h:yf l p m) (ar:p<l.length):yf l (p+1) (if n5 l p=true then m.set (fs l p).length (l.getD p 0) else m):=by
 have G:=h.lt;have V:=h.len;have hc:=Pv l p;by_cases ao:n5 l p=true
 ·rw [if_pos ao] at hc ⊢;refine ⟨by grind,?_,?_,λj aH=>?_⟩
  ·rw [hc,List.length_append,List.length_singleton];have aL:=h.BT;generalize fs l p=c at aL G;apply List.ext_getElem?;intro j;rw [List.getElem?_take,List.getElem?_append,List.getElem?_set];grind
  ·grind
  ·rw [apW (by omega),if_neg (by omega)];exact h.cm j (by omega)
 ·rw [if_neg ao,List.append_nil] at hc;rw [if_neg ao];refine ⟨V,by rw [hc];exact h.BT,by grind,λj aH=>h.cm j (by omega)⟩
theorem apX {R:Type} {l m:z1'} {k p:Nat} (ak:l.length<60000) (ao:k<p) (lM:0<k) (h:yf l p m) (ar:p<l.length) :
  En (R:=R) (((fs l p).length:Nat),(k,l.length),((p - k:Nat):Int),m,())=A.pure (.next (((fs l (p+1)).length:Nat),(k,l.length),((p+1 - k:Nat):Int),(if n5 l p=true then m.set (fs l p).length (l.getD p 0) else m),())):=by
 have G:=h.lt;have V:=h.len;have hc:=Pv l p;have cj:=bG (n:=((p - k:Nat):Int) - 1) (by omega) (by omega);have c6:IntKind.wrap .i64 (((p - k:Nat):Int)+1)=((p+1 - k:Nat):Int):=(bG (by omega) (by omega)).trans (by omega);have eV:=bG (n:=(((fs l p).length:Nat):Int)+1) (by omega) (by omega);have d1:decide (((p - k:Nat):Int)<((l.length - k:Nat):Int))=true:=by grind
 have cf:(0:Int)<=((p - k:Nat):Int)/\((p - k:Nat):Int)<((l.length - k:Nat):Int):=by omega
 have cF:(0:Int)<=((p - k:Nat):Int) - 1/\((p - k:Nat):Int) - 1<((l.length - k:Nat):Int):=by omega
 have ep:(0:Int)<=(((fs l p).length:Nat):Int)/\(((fs l p).length:Nat):Int)<(m.length:Int):=by omega
 have aF:k+(((p - k:Nat):Int)).toNat=p:=by omega
 have bB:k+(((p - k:Nat):Int) - 1).toNat=p - 1:=by omega
 have g1:=h.cm p (by omega);have eo:=h.cm (p - 1) (by omega);have y4:n5 l p=decide (l.getD p 0≠l.getD (p - 1) 0):=by
  unfold n5;grind
 unfold En;simp only [bZ,d1,if_true,cj,cf,cF,and_self,A.bw,ct,jn,aF,bB,g1,eo,<-y4];by_cases IG:n5 l p=true
 ·rw [if_pos IG] at hc;simp only [IG,if_true,ep,and_self,A.bw,A.aJ,A.b2,c6,eV,Int.toNat_natCast,decide_true];rw [hc];simp
 ·rw [if_neg IG,List.append_nil] at hc;simp only [IG,if_false,A.aJ,A.b2,c6,Bool.false_eq_true,decide_true,if_true];rw [hc]
theorem apY {R:Type} {l:z1'} {k:Nat} (ak:l.length<60000) (lM:0<k):∀ (n p:Nat) (m:z1'),l.length - p=n->p<=l.length->k<p->yf l p m->
  ∃ dw,yf l l.length dw/\A.loop (En (R:=R)) (((fs l p).length:Nat),(k,l.length),((p - k:Nat):Int),m,())=A.pure (.next (((fs l l.length).length:Nat),dw,())):=by
 intro n;induction n with
 | zero=>
  intro p m aD ar ao h;have:p=l.length:=by omega
  subst this;refine ⟨m,h,A.s8 ?_⟩;unfold En;simp
 | succ n aM=>
  intro p m aD ar ao h;have ar:p<l.length:=by omega
  obtain ⟨dw,G,V⟩:=aM (p+1) _ (by omega) ar (by omega) (h.step ar);exact ⟨dw,G,(A.Bm (apX ak ao lM h ar)).trans V⟩
def v8 (l:z1'):(Nat×Nat)×z1'×Unit:=((0,(fs l l.length).length),fs l l.length++List.replicate (l.length - (fs l l.length).length) 0,())
theorem apZ {l:z1'} (ak:l.length<60000):∀ (n p:Nat),l.length - p=n->p<=l.length->0<p->fs l p=l.take p->
  A.bind (A.loop v7 ((p:Int),l,())) (W.bC λ(D:z1'×Unit)=>A.pure ((0,List.length D.1),D.1,()))=A.pure (v8 l):=by
 intro n;induction n with
 | zero=>
  intro p aD ar aY hc;have:p=l.length:=by omega
  subst this;rw [List.take_length] at hc;have aa:v7 ((l.length:Int),l,())=A.pure (.done (.next (l,()))):=by
   unfold v7;simp
  rw [A.s8 aa,A.aJ,A.b2];unfold v8;simp_all
 | succ n aM=>
  intro p aD ar aY hc;have ar:p<l.length:=by omega
  have cj:=bG (n:=(p:Int) - 1) (by omega) (by omega);have c6:=bG (n:=(p:Int)+1) (by omega) (by omega);have cF:(0:Int)<=(p:Int) - 1/\(p:Int) - 1<(l.length:Int):=by omega
  have aF:((p:Int) - 1).toNat=p - 1:=by omega
  have y4:n5 l p=decide (l.getD p 0≠l.getD (p - 1) 0):=by
   unfold n5;rw [show decide (p=0)=false by grind,Bool.false_or]
  have o5:=Pv l p;have Y0:(l.take p).length=p:=by grind
  by_cases ao:n5 l p=true
  ·have ez:¬l.getD p 0=l.getD (p - 1) 0:=by grind
   have aa:v7 ((p:Int),l,())=A.pure (.next (((p+1:Nat):Int),l,())):=by
    unfold v7;simp_all
   rw [A.Bm aa];refine aM (p+1) (by omega) ar (by omega) ?_;simp_all
  ·have heq:l.getD p 0=l.getD (p - 1) 0:=by grind
   rw [if_neg ao,List.append_nil] at o5;have eF:yf l (p+1) l:=⟨rfl,by grind,by grind,λ_ _=>rfl⟩
   obtain ⟨dw,G,V⟩:=apY (R:=W (Int×z1'×Unit) (W (Int×z1'×Unit) (W (z1'×Unit) ((Nat×Nat)×z1'×Unit)))) ak aY (l.length - (p+1)) (p+1) l rfl ar (by omega) eF;rw [show (fs l (p+1)).length=p by grind,show p+1 - p=1 from by omega] at V;have lF:=apV l l.length;have amr:=G.len;have kK:=G.BT;have ep:(0:Int)<=((fs l l.length).length:Int)/\((fs l l.length).length:Int)<=(dw.length:Int):=by omega
   have jf:List.take (fs l l.length).length dw++List.replicate (dw.length - (fs l l.length).length) 0++List.drop ((fs l l.length).length+(List.replicate (dw.length - (fs l l.length).length) (0:Int)).length) dw=fs l l.length++List.replicate (l.length - (fs l l.length).length) 0:=by
    simp_all
   have aa:v7 ((p:Int),l,())=A.pure (.done (.done (v8 l))):=by
    unfold v7;simp only [bZ,cY ar,if_true,cJ ar,A.bw,cj,cF,and_self,aF,Int.toNat_natCast,heq,decide_true];rw [A.bH (by omega)];erw [V];simp only [A.aJ,A.b2,bZ,Int.toNat_natCast,jn,jf,A.bw];rw [A.bH ⟨ep.1,ep.2,Int.le_refl _⟩,A.bH ⟨Int.le_refl _,ep.1,by grind⟩];simp only [A.aJ,A.pr,jf];rfl
   rw [A.s8 aa,A.aJ,A.pr]
def IH (x:z1'×Unit):A ((Nat×Nat)×z1'×Unit):=A.dR (x.1.length<60000) (v8 x.1)
theorem ap0 (x):A.le (apS x) (IH x):=A.bx λh=>by
 obtain ⟨l,u⟩:=x;change l.length<60000 at h;show (if decide (Int.ofNat l.length<2)=true then A.pure ((0,l.length),l,()) else A.bind (A.loop v7 (1,l,())) (W.bC λ(D:z1'×Unit)=>A.pure ((0,List.length D.1),D.1,())))=A.pure (v8 l);have nH:∀ l:z1',l.length<2->fs l l.length=l:=λl ak=>by
  match l,ak with
  | [],_=>rfl
  | [a],_=>rfl
 by_cases V:l.length<2
 ·have ay:decide (Int.ofNat l.length<2)=true:=by grind
  rw [if_pos ay];unfold v8;simp_all
 ·have ay:¬decide (Int.ofNat l.length<2)=true:=by grind
  rw [if_neg ay];refine apZ h (l.length - 1) 1 rfl (by omega) (by omega) ?_;match l,V with
  | a::l,_=>rfl
  | [],V=>grind
end Go.Fer.H
namespace Go.Fer.H
open A (W)
set_option linter.unusedVariables false
set_option linter.unusedSimpArgs false
theorem ap1 {l:z1'}:∀ j,j<l.length->l.getD j 0∈fs l l.length:=by
 intro j;induction j with
 | zero=>
  intro h;unfold fs;exact List.mem_map.2 ⟨0,List.mem_filter.2 ⟨by grind,by rfl⟩,rfl⟩
 | succ j aM=>
  intro h;by_cases ao:n5 l (j+1)=true
  ·unfold fs;grind
  ·have:l.getD (j+1) 0=l.getD j 0:=by
    unfold n5 at ao;grind
   grind
theorem ap2 {l:z1'} {x:Int}:x∈fs l l.length<->x∈l:=by
 constructor
 ·intro h;unfold fs at h;grind
 ·intro h;obtain ⟨j,aH,rfl⟩:=List.mem_iff_getElem.1 h;rw [<-sB (d:=0) aH];exact ap1 j aH
theorem ap3 {l:z1'} (h:l.Pairwise (·<=·)):(fs l l.length).Pairwise (·<·):=by
 unfold fs;rw [List.pairwise_map];have U:((List.range l.length).filter (n5 l)).Pairwise (·<·):=List.Pairwise.filter _ List.pairwise_lt_range;refine List.Pairwise.imp_of_mem ?_ U;intro i j M aH y9;obtain ⟨ap4,iW⟩:=List.mem_filter.1 aH;have ap4:j<l.length:=by grind
 have ez:l.getD j 0≠l.getD (j - 1) 0:=by
  unfold n5 at iW;grind
 have aG:=List.pairwise_iff_getElem.1 h;grind
def rD (a b:z1'):z1':=(et 0 99).filter λid=>a.contains id||b.contains id
theorem ZB (a b:Int):(et a b).Pairwise (·<·):=by
 unfold et;rw [List.pairwise_map];exact (List.pairwise_lt_range).imp λh=>by omega
theorem ap5 {a b:z1'} (ba:a.Pairwise (·<·)) (aa:b.Pairwise (·<·)) (h:∀ x,x∈a<->x∈b):a=b:=by
 have ap6:a.Nodup:=ba.imp λh=>by omega
 have mi:b.Nodup:=aa.imp λh=>by omega
 have ar:=(List.perm_ext_iff_of_nodup ap6 mi).2 h;rw [<-Ab (ba.imp λh=>by omega) (List.Perm.refl a)];exact Ab (aa.imp λh=>by omega) ar
theorem ap7 {a b:z1'} (ba:∀ x∈a,b3 x 0 99=true) (aa:∀ x∈b,b3 x 0 99=true):fs (fq ho (a++b)) (fq ho (a++b)).length=rD a b:=by
 refine ap5 (ap3 (NV _)) (List.Pairwise.filter _ (ZB 0 99)) λx=>?_;rw [ap2,WG];unfold rD;simp only [List.mem_append,List.mem_filter,so,Bool.or_eq_true,List.contains_iff_mem];refine ⟨λh=>⟨?_,h⟩,λh=>h.2⟩;rcases h with h | h
 ·exact oJ.1 (ba x h)
 ·exact oJ.1 (aa x h)
abbrev II:a6:=([],[],[],[],0,0,0,0,0,0,0)
def nj (c:a6) (more:List bb) (gZ:z1'):a6:=(c.1,more,gZ,c.2.2.2)
def n6 (c:a6) (more:List bb) (gZ:z1'):a6×Int:=
 if cL c≠0 then (II,cL c) else if cL (nj c more gZ)≠0 then (II,cL (nj c more gZ)) else
 if kV (c.2.1++more)=true then (II,91) else
 if (decide (Int.ofNat (gS (c.2.1++more)).length > 12)||decide (Int.ofNat (rD c.2.2.1 gZ).length > 12))=true then (II,90) else (nj c (gS (c.2.1++more)) (rD c.2.2.1 gZ),0)
abbrev A3:aO:=⟨.aA jr (.aA (.slice hl) fS),.aA jr bu,λx=>iN x.1/\x.2.1.length<2 ^ 63/\x.2.2.length<2 ^ 63,λx=>n6 x.1 x.2.1 x.2.2⟩
abbrev Eo:aO:=⟨.slice mr,.slice mr,λx=>x.length<65536,λx=>x⟩
theorem ap8 (x):A.le (V_ x) (Eo.sh x):=A.sn λh=>by
 unfold V_;rw [A.fT];refine ⟨⟨false,by simp⟩,λb aa=>?_⟩;change b=true->x=[] at aa;cases b with
 | true=>rw [aa rfl];exact A.ea.2 rfl
 | false=>
  simp only [Bool.false_eq_true,if_false];exact A.kF.2 ⟨hV (by grind),A.ea.2 (by simp)⟩
structure ZC (c:a6):Prop where
 ec:c.1.length<=3
 ef:c.2.1.length<=12
 jF:c.2.2.1.length<=12
 n4:c.2.2.2.1.length<=4
 ids:∀ s∈c.2.1,b3 s.1 0 99=true
 gZ:∀ n∈c.2.2.1,b3 n 0 99=true
 cl:kV c.2.1=false
theorem IJ {c:a6} (h:cL c=0):ZC c:=by
 unfold cL at h;by_cases hc:jR c=true
 ·rw [if_pos hc] at h;have lF:kV c.2.1=false:=by
   grind
  have M:=Hu hc;unfold jR sz at hc;simp only [Bool.and_eq_true,List.all_eq_true,Bool.not_eq_true',Bool.or_eq_false_iff,decide_eq_false_iff_not] at hc;obtain ⟨⟨⟨⟨⟨bl,_⟩,_⟩,V⟩,ah⟩,_⟩:=hc;exact ⟨by omega,by omega,by omega,by omega,M.2,ah,lF⟩
 grind
theorem ap9 {a b:List bb} (ba:a.length<=12) (aa:b.length<=12) (G:∀ s∈a,b3 s.1 0 99=true) (V:∀ s∈b,b3 s.1 0 99=true):vw (a++b):=
 ⟨by grind,λs aG=>(List.mem_append.1 aG).elim (G s) (V s)⟩
theorem ap_ (x):A.le (Zw hX.sh Ak.sh IE.sh IF xQ IH Eo.sh x) (A3.sh x):=A.bx λh=>by
 obtain ⟨c,more,gZ⟩:=x;obtain ⟨G,V,ah⟩:=h;change iN c at G;change more.length<2 ^ 63 at V;change gZ.length<2 ^ 63 at ah;have tB:iN (nj c more gZ):=⟨G.1,V,ah,G.2.2.2⟩
 unfold Zw;show _=A.pure (n6 c more gZ);unfold n6;rw [show hX.sh (c,more,gZ).1=A.pure (cL c) from A.bU G _,A.aJ];by_cases aF:cL c=0
 ·have g1:=IJ aF;rw [show hX.sh ((c,more,gZ).1.1,(c,more,gZ).2.1,(c,more,gZ).2.2,(c,more,gZ).1.2.2.2)=A.pure (cL (nj c more gZ)) from A.bU tB _,A.aJ];by_cases bB:cL (nj c more gZ)=0
  ·have eo:=IJ bB;have ef:more.length<=12:=eo.ef;have jF:gZ.length<=12:=eo.jF;have p5:=g1.ef;have mb:=g1.jF;have M:vw (c.2.1++more):=ap9 g1.ef eo.ef g1.ids eo.ids;rw [if_neg (by grind),if_neg (by grind),if_neg (by omega),if_neg (by omega)];rw [show IE.sh [(c,more,gZ).1.2.1,(c,more,gZ).2.1]=A.pure (c.2.1++more) from (A.bU ⟨by simp,by grind⟩ _).trans (congrArg A.pure (by simp)),A.aJ];rw [show Ak.sh (c.2.1++more)=A.pure (if kV (c.2.1++more)=true then ([],false) else (gS (c.2.1++more),true)) from A.bU M _,A.aJ];cases hc:kV (c.2.1++more) with
   | true=>simp
   | false=>
    simp only [Bool.false_eq_true,if_false,Bool.not_true];rw [show IF ([c.2.2.1,gZ],())=A.pure (c.2.2.1++gZ,()) from (A.bU ⟨by simp,by grind⟩ _).trans (congrArg A.pure (by simp)),A.aJ];rw [show xQ ((c.2.2.1++gZ,()):z1'×Unit)=A.pure (fq ho (c.2.2.1++gZ),()) from A.bU (by grind) _,A.aJ];rw [show IH ((fq ho (c.2.2.1++gZ),()):z1'×Unit)=A.pure (v8 (fq ho (c.2.2.1++gZ))) from A.bU (by show (fq ho (c.2.2.1++gZ)).length<_;rw [Hn];grind) _,A.aJ];have ia:=ap7 g1.gZ eo.gZ;unfold v8;rw [show (fs (fq ho (c.2.2.1++gZ)) (fq ho (c.2.2.1++gZ)).length)=rD c.2.2.1 gZ from ia];simp only [Nat.sub_zero,List.drop_zero,List.take_left];rw [show Eo.sh c.1=A.pure c.1 from A.bU (by have:=g1.ec;omega) _,show Eo.sh c.2.2.2.1=A.pure c.2.2.2.1 from A.bU (by have:=g1.n4;omega) _];simp only [A.jc,A.fE,A.bw];split<;>rfl
  grind
 grind
end Go.Fer.H
namespace Go.Fer.ax
open A (W)
set_option linter.unusedVariables false
set_option linter.unusedSimpArgs false
abbrev sR:ad:=.slice .str
abbrev v_:ad:=.st (.aA l0 H.jr)
def cT:aQ->List aQ
 | []=>[[]]
 | c::s=>if c=32 then []::cT s else match cT s with
  | []=>[[c]]
  | w::l=>(c::w)::l
theorem uA:∀ (s:aQ),1<=(cT s).length/\(cT s).length<=s.length+1
 | []=>by simp [cT]
 | c::s=>by
  have:=uA s;unfold cT;grind
theorem ZD:∀ (s:aQ) {w:aQ},w∈cT s->w.length<=s.length
 | [],w,h=>by simp [cT] at h;simp [h]
 | c::s,w,h=>by
  have aM:=@ZD s;unfold cT at h;grind
def fX:aQ->Int->Int
 | [],n=>n
 | c::s,n=>if (decide ((c.toNat:Int)<48)||decide ((c.toNat:Int) > 57))=true then -1 else fX s (10*n+((c.toNat:Int) - 48))
def fj (s:aQ):Int:=if (decide (s.length=0)||decide (s.length > 6)||decide (s.length > 1)&&decide ((s.getD 0 0).toNat=48))=true then -1 else fX s 0
theorem Pw:∀ (s:aQ) (n:Int) (k:Nat),0<=n->n<10 ^ k->fX s n<10 ^ (k+s.length)/\-1<=fX s n
 | [],n,k,aY,G=>by simp [fX];omega
 | c::s,n,k,aY,G=>by
  unfold fX;have ar:(0:Int)<10 ^ (k+(c::s).length):=Int.pow_pos (by decide);split
  ·omega
  ·rename_i hc;simp only [Bool.or_eq_true,decide_eq_true_eq,not_or] at hc;have:=Pw s (10*n+((c.toNat:Int) - 48)) (k+1) (by omega) (by omega);grind
theorem ap' (s:aQ):-1<=fj s/\fj s<=999999:=by
 unfold fj;split
 ·omega
 ·rename_i h;simp only [Bool.or_eq_true,decide_eq_true_eq,not_or] at h;have:=Pw s 0 0 (by decide) (by decide);have V:(10:Int) ^ (0+s.length)<=10 ^ 6:=by
   have:=Nat.pow_le_pow_right (n:=10) (by decide) (show 0+s.length<=6 by omega);grind
  omega
def sS (s:aQ):Int:=match Go.Lib.atoiAll s with
 | .ok v=>v
 | .range=>Go.Lib.atoiSat s
 | _=>0
def q2 (s:aQ):Int×Bool:=(sS s,decide (0<=fj s))
def IK (l:List aQ):Option (z1'):=if l.all (λw=>decide (0<=fj w))=true then some (l.map fj) else none
def rE (n:Int):aQ:=Go.Lib.itoa (IntKind.wrap .i64 n)
theorem Px (n:Int):(rE n).length<=21:=by
 have:=p2 .i64 n;exact Go.Lib.itoa_length_le _ this.1 this.2
abbrev IL:aQ:=[111,107]
abbrev A4:aQ:=[110,111]
abbrev ZE:aQ:=[110,111,110,101]
abbrev ZF:aQ:=[115,104,111,112]
abbrev aqa:aQ:=[108,105,97,114]
abbrev aqb:aQ:=[63]
def rF (l:z1'):aQ:=if l=[] then ZE else Go.Lib.join (l.map rE) [32]
def qC (e:Int) (l:z1'):aQ:=if e=0 then rF l else if e=3 then ZE else A4
def yg (x:(Int×Int)×Int):aQ:=qC x.2 [x.1.1,x.1.2]
abbrev bq (l:z1') (i:Nat):Int:=l.getD i 0
def sT (d:bc) (m:List H.bb) (v:z1'):aQ×bc:=if (H.n6 d.2 m v).2≠0 then (A4,d) else (IL,(d.1,(H.n6 d.2 m v).1))
def n7 (d:bc) (s:bJ):aQ×bc:=if ja s≠0 then (A4,d) else (IL,(s,d.2))
def Py (d:bc) (l:z1'):aQ×bc:=sT d [(bq l 0,bq l 1,bq l 2,1,bq l 3,bq l 4)] []
def Pz (d:bc) (l:z1'):aQ×bc:=sT d [(bq l 0,bq l 1,bq l 2,2,bq l 3,0)] []
def PA (d:bc) (l:z1'):aQ×bc:=sT d [] l
def PB (d:bc) (l:z1'):aQ×bc:=(yg (H.HB d.2 (bq l 0)),d)
def PC (d:bc) (l:z1'):aQ×bc:=(yg (H.HD d.2 (bq l 0)),d)
def PD (d:bc) (l:z1'):aQ×bc:=(yg (H.HF d.2 (bq l 0)),d)
def PE (d:bc) (l:z1'):aQ×bc:=(yg (H.HH d.2 (bq l 0)),d)
def PF (r:z1'×Int):aQ:=if (decide (r.2≠0)||decide (r.1.getD 0 0>=0))=true then qC r.2 r.1 else if r.1.length=1 then ZF else ZF++[32]++rF (r.1.drop 1)
def PG (d:bc) (l:z1'):aQ×bc:=(PF (H.rp d.2 (bq l 0) (bq l 1)),d)
def PH (r:z1'×z1'×Int):aQ:=if r.2.2≠0 then qC r.2.2 [] else rF r.1++[32,47,32]++rF r.2.1
def PI (d:bc) (l:z1'):aQ×bc:=(PH (H.sE d.2 (bq l 0)),d)
def nk (w:bp) (t:Int×Int×Int×Int):bp:=(w.1,w.2.1,w.2.2.1,w.2.2.2++[t])
def yh (d:bc) (l:z1'):aQ×bc:=
 if cL (nk d.1.1 (bq l 0,bq l 1,bq l 2,bq l 3))≠0 then (A4,d) else if (vO (nk d.1.1 (bq l 0,bq l 1,bq l 2,bq l 3)) (bq l 0)).2≠0 then (aqa,d)
 else (IL,((nk d.1.1 (bq l 0,bq l 1,bq l 2,bq l 3),d.1.2),d.2))
def uv (r:Int×Int):aQ:=if r.2≠0 then qC r.2 [] else List.getD [[],[115,117,114,101,108,121],[110,101,118,101,114],[112,101,114,104,97,112,115]] r.1.toNat []
def PJ (d:bc) (l:z1'):aQ×bc:=(uv (qB d.1.1 (bq l 0) (bq l 1) (bq l 2)),d)
def yi (d:bc) (l:z1'):aQ×bc:=if bq l 0>=(d.1.2.1.length:Int) then (A4,d) else n7 d (d.1.1,d.1.2.1.set (bq l 0).toNat (d.1.2.1.getD (bq l 0).toNat 0+bq l 1),d.1.2.2)
def PK (d:bc) (l:z1'):aQ×bc:=n7 d (d.1.1,d.1.2.1,d.1.2.2.1,d.1.2.2.2.1,d.1.2.2.2.2.1++[(bq l 0,bq l 1,bq l 2)],d.1.2.2.2.2.2)
def PL (d:bc) (l:z1'):aQ×bc:=n7 d (d.1.1,d.1.2.1,d.1.2.2.1++[(bq l 0,bq l 1,bq l 2,bq l 3,l.drop 4)],d.1.2.2.2)
def PM (d:bc) (l:z1'):aQ×bc:=n7 d (d.1.1,d.1.2.1,d.1.2.2.1,d.1.2.2.2.1++[(l.drop 5,(bq l 0,bq l 1),bq l 2,bq l 3,bq l 4)],d.1.2.2.2.2)
def yj (d:bc) (l:z1'):aQ×bc:=if bq l 0>=(d.1.2.2.2.1.length:Int) then (A4,d) else (IL,((d.1.1,d.1.2.1,d.1.2.2.1,d.1.2.2.2.1.eraseIdx (bq l 0).toNat,d.1.2.2.2.2),d.2))
def PN (d:bc) (l:z1'):aQ×bc:=(qC (uy d.1 (bq l 0)).2 (uy d.1 (bq l 0)).1,d)
def PO (d:bc) (l:z1'):aQ×bc:=(qC (A1 d.1 (l.map (· - 1))).2 [(A1 d.1 (l.map (· - 1))).1],d)
def PQ (d:bc) (_:z1'):aQ×bc:=(qC (ye d.1 true).2 [(ye d.1 true).1],d)
def PR (d:bc) (_:z1'):aQ×bc:=(qC (A0 d.1).2 [(A0 d.1).1],d)
def v':Nat->bc->z1'->aQ×bc
 | 0=>Py | 1=>Pz | 2=>PA | 3=>PB | 4=>PC | 5=>PD | 6=>PE | 7=>PG | 8=>PI | 9=>yh
 | 10=>PJ | 11=>yi | 12=>PK | 13=>PL | 14=>PM | 15=>yj | 16=>PN | 17=>PO | 18=>PQ | _=>PR
def ki:List (aQ×Int×Bool):=[([108,101,110,100],5,false),([98,97,99,107],4,false),([118,111,105,100],1,false),([108,97,115,116,115],1,false),([102,101,101],1,false),([111,119,101,115],1,false),([104,101,108,100],1,false),([119,104,101,114,101],2,false),([109,105,115,115,105,110,103],1,false),([116,114,105,97,108],4,false),([102,105,116,115],3,false),([115,116,111,99,107],2,false),([99,111,109,101,115],3,false),([112,105,101,99,101],4,true),([119,105,115,104],5,true),([100,114,111,112],1,false),([99,97,110],1,false),([116,97,107,101,115],0,true),([109,111,115,116],0,false),([101,120,116,114,97],0,false)]
def oV (w:aQ):List (aQ×Int×Bool)->Nat->Option (Int×Bool×Nat)
 | [],_=>none
 | p::l,i=>if w=p.1 then some (p.2.1,p.2.2,i) else oV w l (i+1)
def Ep (s:aQ):Option (Nat×z1'):=
 match oV ((cT s).getD 0 []) ki 0 with
 | none=>none
 | some (k,m,j)=>if (decide (((cT s).length:Int) - 1<k)||decide (((cT s).length:Int) - 1 > k)&&!m)=true then none else (IK ((cT s).drop 1)).map λl=>(j,l)
def mz (d:bc) (s:aQ):aQ×bc:=match Ep s with
 | none=>(aqb,d)
 | some (j,l)=>v' j d l
def gm:bc->List aQ->List aQ×bc
 | d,[]=>([],d)
 | d,s::l=>((mz d s).1::(gm (mz d s).2 l).1,(gm (mz d s).2 l).2)
theorem PS (d:bc) (a:List aQ):(gm d a).1.length=a.length:=by
 induction a generalizing d with
 | nil=>rfl
 | cons s a aM=>simp only [gm,List.length_cons,aM]
def jY (d:bc):Int:=if (decide (ja d.1≠0)||decide (H.cL d.2≠0))=true then 120 else 0
def hp (d:bc):bc:=(d.1,(H.n6 d.2 [] []).1)
abbrev ZG:bc:=((([],[],0,[]),[],[],[],[],0),[],[],[],[],0,0,0,0,0,0,0)
def wa (d:bc) (l:List aQ):List aQ×bc×Int:=
 if jY d≠0 then ([],ZG,jY d) else if l.length > 40 then ([],ZG,2) else ((gm (hp d) l).1,(gm (hp d) l).2,0)
structure dz (d:bc):Prop where
 hd:fu d.1
 yk:ja d.1=0
 yl:H.cL d.2=0
 A5:H.kg d.2.1<=60
theorem dz.val {d:bc} (h:dz d):l1 d.1:=AR h.hd h.yk
theorem dz.aqc {d:bc} (h:dz d):jY d=0:=by simp [jY,h.yk,h.yl]
theorem dz.aqd {d:bc} (h:dz d):H.ZC d.2:=H.IJ h.yl
theorem dz.gL {d:bc} (h:dz d):H.gL d.2:=by
 have:=h.aqd;exact ⟨⟨by have:=this.ec;omega,by have:=this.ef;omega,by have:=this.jF;omega,by have:=this.n4;omega⟩,λ_=>h.A5⟩
theorem dz.iN {d:bc} (h:dz d):H.iN d.2:=h.gL.hd
structure eB (k:Nat) (l:z1'):Prop where
 PT:k<=l.length
 IM:l.length<=10000
 num:∀ n∈l,0<=n/\n<=999999
theorem eB.bq {k:Nat} {l:z1'} (h:eB k l) (i:Nat):0<=bq l i/\bq l i<=999999:=by
 rcases Nat.lt_or_ge i l.length with M | M
 ·have:=h.num l[i] (by simp);grind
 ·grind
end Go.Fer.ax
namespace Go.Fer.ax
open A (W)
open H (hV)
set_option linter.unusedVariables false
set_option linter.unusedSimpArgs false
abbrev IN:aO:=⟨.int .i64,.str,λ_=>True,rE⟩
abbrev Er:aO:=⟨.aA sR .str,.str,λx=>x.1.length<=60000/\(∀ w∈x.1,w.length<=21)/\x.2.length=1,λx=>Go.Lib.join x.1 x.2⟩
theorem ZH:∀ (l:List aQ) (s:aQ) (n:Nat),(∀ w∈l,w.length<=n)->(Go.Lib.join l s).length<=l.length*(n+s.length)
 | [],s,n,h=>by simp [Go.Lib.join_nil]
 | x::r,s,n,h=>by
  rw [Go.Lib.join_cons];have aL:∀ (r:List aQ),(∀ w∈r,w.length<=n)->(Go.Lib.joinTail s r).length<=r.length*(n+s.length):=by
   intro r;induction r with
   | nil=>intro _;simp [Go.Lib.joinTail]
   | cons y r aM=>
    intro h;have G:=aM λw hw=>h w (by grind);have V:=h y (by simp);simp only [Go.Lib.joinTail,List.map_cons,List.flatten_cons,List.length_append,List.length_cons,Nat.succ_mul] at G ⊢;omega
  have G:=aL r λw hw=>h w (by grind);have V:=h x (by simp);simp only [List.length_append,List.length_cons,Nat.succ_mul];omega
theorem PU (l:z1'):(rF l).length<=l.length*22+4:=by
 unfold rF;split
 ·simp
 ·have:=ZH (l.map rE) [32] 21 λw hw=>by
   obtain ⟨n,_,rfl⟩:=List.mem_map.1 hw;exact Px n
  grind
abbrev ym:aO:=⟨fS,.str,λx=>x.length<=60000,rF⟩
theorem aqe (x):A.le (X1 IN.sh Er.sh x) (ym.sh x):=A.bx λh=>by
 change x.length<=60000 at h;unfold X1;show _=A.pure (rF x);unfold rF;by_cases aj:x=[]
 ·grind
 ·have ak:x.length≠0:=by grind
  rw [if_neg (by grind),if_neg aj];rw [A.gA x (λi (o:List aQ)=>(x,(x.length:Int),(i:Int),o,())) (λn o=>.next (o++[rE n])) (λo=>.next (o,())) (λi o=>o.length=i) [] ?_ rfl ?_ ?_]
  ·rw [er,xE,List.nil_append,A.aJ,A.b2];rw [show Er.sh (x.map rE,[32])=A.pure (Go.Lib.join (x.map rE) [32]) from A.bU ⟨by grind,λw hw=>by
    obtain ⟨n,_,rfl⟩:=List.mem_map.1 hw;exact Px n,rfl⟩ _,A.aJ]
  ·rfl
  ·intro i M o ag;have hw:=bG (n:=(i:Int)+1) (by omega) (by omega);refine ⟨?_,λbf dh=>?_⟩
   ·simp only [bZ,cY M,if_true,dm M,cJ M,A.bw,ct,hw];rw [show IN.sh x[i]=A.pure (rE x[i]) from rfl,A.aJ,A.bH (hV (by grind))];rfl
   ·grind
  simp
abbrev qD:aO:=⟨.aA (.int .i64) fS,.str,λx=>x.2.length<=60000,λx=>qC x.1 x.2⟩
theorem aqf (x):A.le (X0 ym.sh x) (qD.sh x):=A.bx λh=>by
 change x.2.length<=60000 at h;unfold X0;show _=A.pure (qC x.1 x.2);unfold qC;rw [show ym.sh x.2=A.pure (rF x.2) from A.bU h _,A.aJ];grind
abbrev yn:aO:=⟨.aA mr (.int .i64),.str,λ_=>True,yg⟩
theorem aqg (x):A.le (XZ qD.sh x) (yn.sh x):=A.bx λ_=>by
 unfold XZ;rw [show qD.sh (x.2,[x.1.1,x.1.2])=A.pure (yg x) from A.bU (show 2<=60000 by decide) _,A.aJ]
theorem yo {e:Int} {l:z1'} (h:l.length<=60000):qD.sh (e,l)=A.pure (qC e l):=A.bU h _
theorem PV {l:z1'} (h:l.length<=60000):ym.sh l=A.pure (rF l):=A.bU h _
theorem IP (x:(Int×Int)×Int):yn.sh x=A.pure (yg x):=rfl
def ft (k:Nat) (g:bc->z1'->aQ×bc) (x:z1'×bc×Unit):A (aQ×bc×Unit):=A.dR (dz x.2.1/\eB k x.1) ((g x.2.1 x.1).1,(g x.2.1 x.1).2,())
theorem nl:Int.toNat 0=0:=rfl
theorem nm:Int.toNat 1=1:=rfl
theorem nn:Int.toNat 2=2:=rfl
theorem np:Int.toNat 3=3:=rfl
theorem nq:Int.toNat 4=4:=rfl
theorem nr:Int.toNat 5=5:=rfl
theorem ns {al:Type} {k:Nat} {l:z1'} (h:eB k l) (m:A al) (i:Int) (M:0<=i/\i<(k:Int)):A.ae (0<=i/\i<Int.ofNat l.length) m=m:=
 A.bH ⟨M.1,by have:=h.PT;grind⟩ m
def A6 (x:List H.bb×z1'×bc×Unit):A (aQ×bc×Unit):=A.dR (dz x.2.2.1/\x.1.length<2 ^ 63/\x.2.1.length<2 ^ 63) ((sT x.2.2.1 x.1 x.2.1).1,(sT x.2.2.1 x.1 x.2.1).2,())
theorem aqh (x):A.le (XV H.A3.sh x) (A6 x):=A.bx λh=>by
 obtain ⟨m,v,d,⟨⟩⟩:=x;obtain ⟨ay,G,V⟩:=h;unfold XV;rw [A.bw,show H.A3.sh (d.2,m,v)=A.pure (H.n6 d.2 m v) from A.bU ⟨ay.iN,G,V⟩ _,A.aJ];unfold sT;by_cases e:(H.n6 d.2 m v).2=0<;>simp [e]
theorem PW {d:bc} (ay:dz d) (m:List H.bb) (v:z1') (G:m.length<2 ^ 63) (V:v.length<2 ^ 63):A6 (m,v,d,())=A.pure ((sT d m v).1,(sT d m v).2,()):=A.bU ⟨ay,G,V⟩ _
theorem aqi (x):A.le (XU A6 x) (ft 5 Py x):=A.bx λh=>by
 obtain ⟨l,d,⟨⟩⟩:=x;obtain ⟨ay,ak⟩:dz d/\eB _ l:=h;unfold XU;simp (disch:=decide) only [ns ak,A.bw,nl,nm,nn,np,nq,nr];rw [PW ay _ _ (by simp) (by simp),A.aJ];rfl
theorem aqj (x):A.le (XW A6 x) (ft 4 Pz x):=A.bx λh=>by
 obtain ⟨l,d,⟨⟩⟩:=x;obtain ⟨ay,ak⟩:dz d/\eB _ l:=h;unfold XW;simp (disch:=decide) only [ns ak,A.bw,nl,nm,nn,np,nq,nr];rw [PW ay _ _ (by simp) (by simp),A.aJ];rfl
theorem Oc (x):A.le (XX A6 x) (ft 1 PA x):=A.bx λh=>by
 obtain ⟨l,d,⟨⟩⟩:=x;obtain ⟨ay,ak⟩:dz d/\eB _ l:=h;unfold XX;rw [PW ay _ _ (by simp) (show l.length<2 ^ 63 by have:=ak.IM;omega),A.aJ];rfl
theorem aqk (x):A.le (XY H.HC.sh yn.sh x) (ft 1 PB x):=A.bx λh=>by
 obtain ⟨l,d,⟨⟩⟩:=x;obtain ⟨ay,ak⟩:dz d/\eB _ l:=h;unfold XY;simp (disch:=decide) only [ns ak,A.bw,nl,nm,nn,np,nq,nr];rw [show H.HC.sh (d.2,bq l 0)=A.pure _ from A.bU ay.gL _];simp only [A.jc,A.fE,A.bw,IP];rfl
theorem aql (x):A.le (X2 H.HE.sh yn.sh x) (ft 1 PC x):=A.bx λh=>by
 obtain ⟨l,d,⟨⟩⟩:=x;obtain ⟨ay,ak⟩:dz d/\eB _ l:=h;unfold X2;simp (disch:=decide) only [ns ak,A.bw,nl,nm,nn,np,nq,nr];rw [show H.HE.sh (d.2,bq l 0)=A.pure _ from A.bU ay.gL _];simp only [A.jc,A.fE,A.bw,IP];rfl
theorem aqm (x):A.le (X3 H.HG.sh yn.sh x) (ft 1 PD x):=A.bx λh=>by
 obtain ⟨l,d,⟨⟩⟩:=x;obtain ⟨ay,ak⟩:dz d/\eB _ l:=h;unfold X3;simp (disch:=decide) only [ns ak,A.bw,nl,nm,nn,np,nq,nr];rw [show H.HG.sh (d.2,bq l 0)=A.pure _ from A.bU ay.gL _];simp only [A.jc,A.fE,A.bw,IP];rfl
theorem aqn (x):A.le (X4 H.HI.sh yn.sh x) (ft 1 PE x):=A.bx λh=>by
 obtain ⟨l,d,⟨⟩⟩:=x;obtain ⟨ay,ak⟩:dz d/\eB _ l:=h;unfold X4;simp (disch:=decide) only [ns ak,A.bw,nl,nm,nn,np,nq,nr];rw [show H.HI.sh (d.2,bq l 0)=A.pure _ from A.bU ay.gL _];simp only [A.jc,A.fE,A.bw,IP];rfl
theorem PX {a b:Int}:(et a b).length=(b+1 - a).toNat:=by simp [et];omega
theorem aqo (c:H.a6) (u t:Int):(H.rp c u t).1.length<=101:=Nat.le_trans (List.length_filter_le ..) (by rw [PX];decide)
theorem aqp {c:H.a6} {u t:Int} (h:(H.rp c u t).2=0):0<(H.rp c u t).1.length:=by
 unfold H.rp at h ⊢;rcases H.Ay c (H.vz u t) with ⟨G,_⟩ | ⟨G,V,ah,a7⟩
 ·omega
 ·have aC:=H.oN V;have cH:(0<=u/\u<=9)/\0<=t/\t<=9999:=by
   unfold H.vz at ah;rw [Bool.and_eq_true,H.oJ,H.oJ] at ah;exact ah
  have ez:H.cM c≠[]:=by
   intro he;unfold H.eI at G;grind
  obtain ⟨w,T,aV⟩:=List.exists_cons_of_ne_nil ez;have hw:H.iL c w=true:=H.vF (by grind);have ao:=H.XL aC hw cH.1 t;have aa:-1<=H.lq c w u t/\H.lq c w u t<=99:=by
   rcases H.Oz c w u t with h | ⟨s,aG,h⟩
   ·omega
   ·rw [h];obtain ⟨e,he,rfl⟩:=List.mem_map.1 aG;have:=H.Ow aC (List.mem_filter.1 he).1;omega
  refine List.length_pos_of_mem (a:=H.lq c w u t) (List.mem_filter.2 ⟨so.2 aa,?_⟩);rw [List.contains_iff_mem];unfold H.N8;grind
theorem aqq (x):A.le (X5 H.HJ.sh qD.sh ym.sh x) (ft 2 PG x):=A.bx λh=>by
 obtain ⟨l,d,⟨⟩⟩:=x;obtain ⟨ay,ak⟩:dz d/\eB _ l:=h;unfold X5;simp (disch:=decide) only [ns ak,A.bw,nl,nm,nn,np,nq,nr];have G:=aqo d.2 (bq l 0) (bq l 1);have V:=aqp (c:=d.2) (u:=bq l 0) (t:=bq l 1);have hc:H.HJ.sh (d.2,bq l 0,bq l 1)=A.pure (H.rp d.2 (bq l 0) (bq l 1)):=A.bU ay.gL _;simp only [hc];show _=A.pure (PF (H.rp d.2 (bq l 0) (bq l 1)),d,());generalize H.rp d.2 (bq l 0) (bq l 1)=r at *
 simp only [A.jc,A.fE,A.bw];rw [A.bH (λaa=>⟨⟨aa,trivial⟩,⟨by decide,by grind⟩,trivial⟩),yo (by omega),A.aJ];unfold PF;by_cases e:(decide (r.2≠0)||decide (r.1.getD 0 0>=0))=true
 ·grind
 ·rw [if_neg e,if_neg e];have cX:r.2=0:=by grind
  have ar:=V cX;by_cases aF:r.1.length=1
  ·grind
  ·rw [if_neg (by grind),if_neg aF];rw [A.bH ⟨by decide,by grind,Int.le_refl _⟩];have pB:List.take (Int.ofNat r.1.length).toNat r.1=r.1:=by simp
   rw [pB];rw [PV (by grind),A.aJ];have lJ:=PU (r.1.drop 1);rw [A.bH (hV (by grind))];rfl
theorem aqr (c:H.a6) (t:Int):(H.sE c t).1.length<=10/\(H.sE c t).2.1.length<=10:=by
 unfold H.sE;split
 ·simp
 ·exact ⟨Nat.le_trans (List.length_filter_le ..) (by rw [PX];decide),Nat.le_trans (List.length_filter_le ..) (by rw [PX];decide)⟩
theorem aqs (x):A.le (X6 H.HK.sh qD.sh ym.sh x) (ft 1 PI x):=A.bx λh=>by
 obtain ⟨l,d,⟨⟩⟩:=x;obtain ⟨ay,ak⟩:dz d/\eB _ l:=h;unfold X6;simp (disch:=decide) only [ns ak,A.bw,nl,nm,nn,np,nq,nr];have G:=aqr d.2 (bq l 0);have hc:H.HK.sh (d.2,bq l 0)=A.pure (H.sE d.2 (bq l 0)):=A.bU ay.gL _;simp only [hc];show _=A.pure (PH (H.sE d.2 (bq l 0)),d,());generalize H.sE d.2 (bq l 0)=r at *
 simp only [A.jc,A.fE,A.bw];rw [yo (by simp),PV (by omega),PV (by omega)];have e_:=PU r.1;have pU:=PU r.2.1;unfold PH;by_cases e:r.2.2=0
 ·simp only [A.aJ];rw [A.bH (hV (by grind)),A.bH (hV (by grind))];simp [e]
 ·simp [e]
theorem aqt (w:bp) (i m k:Int):0<=um w i m k/\um w i m k<4:=by
 unfold um HS;grind
theorem aqu (x):A.le (X8 AK.sh qD.sh x) (ft 3 PJ x):=A.bx λh=>by
 obtain ⟨l,d,⟨⟩⟩:=x;obtain ⟨ay,ak⟩:dz d/\eB _ l:=h;unfold X8;simp (disch:=decide) only [ns ak,A.bw,nl,nm,nn,np,nq,nr];have hc:AK.sh (d.1.1,bq l 0,bq l 1,bq l 2)=A.pure (qB d.1.1 (bq l 0) (bq l 1) (bq l 2)):=A.bU ay.hd.1 _;simp only [hc];show _=A.pure (uv (qB d.1.1 (bq l 0) (bq l 1) (bq l 2)),d,());have G:0<=(qB d.1.1 (bq l 0) (bq l 1) (bq l 2)).1/\(qB d.1.1 (bq l 0) (bq l 1) (bq l 2)).1<4:=by
  have:=aqt d.1.1 (bq l 0) (bq l 1) (bq l 2);unfold qB;grind
 generalize qB d.1.1 (bq l 0) (bq l 1) (bq l 2)=r at *
 simp only [A.jc,A.fE,A.bw];rw [yo (by simp),A.bH ⟨G.1,G.2⟩];unfold uv;by_cases e:r.2=0<;>simp [e]
theorem aqv {s:bJ} (h:l1 s) (w:Int):(uy s w).1.length<=2000:=by
 have:=h.Ie;unfold uy Zt;grind
theorem aqw (x):A.le (Ye Iw.sh qD.sh x) (ft 1 PN x):=A.bx λh=>by
 obtain ⟨l,d,⟨⟩⟩:=x;obtain ⟨ay,ak⟩:dz d/\eB _ l:=h;unfold Ye;simp (disch:=decide) only [ns ak,A.bw,nl,nm,nn,np,nq,nr];rw [show Iw.sh (d.1,bq l 0)=A.pure (uy d.1 (bq l 0)) from A.bU ay.hd _];have:=aqv ay.val (bq l 0);simp only [A.jc,A.fE,A.bw];rw [yo (show (uy d.1 (bq l 0)).1.length<=60000 by omega),A.aJ];rfl
def IQ (x:z1'×Unit):A (z1'×Unit):=A.dR (x.1.length<=3000000) x
theorem aqx (x):A.le (Yf Ix.sh IQ qD.sh x) (ft 0 PO x):=A.bx λh=>by
 obtain ⟨l,d,⟨⟩⟩:=x;obtain ⟨ay,ak⟩:dz d/\eB _ l:=h;have hm:=ak.IM;change l.length<=10000 at hm;unfold Yf;rw [show IQ (l,())=A.pure (l,()) from A.bU (by grind) _,A.aJ];rw [A.gA l (λi (o:z1')=>((l.length:Int),(i:Int),o++l.drop i,d,())) (λn o=>.next (o++[n - 1])) (λo=>.next (o,d,())) (λi o=>o.length=i) [] ?_ rfl ?_ ?_]
 ·rw [er,xE,List.nil_append,A.aJ,A.b2,A.bw];rw [show Ix.sh (d.1,l.map (· - 1))=A.pure (A1 d.1 (l.map (· - 1))) from A.bU ⟨ay.hd,by grind⟩ _,A.aJ,yo (by simp),A.aJ];rfl
 ·simp
 ·intro i M o ag;have hw:=bG (n:=(i:Int)+1) (by omega) (by omega);have aD:=ak.num l[i] (by simp);have gR:=bG (n:=l[i] - 1) (by omega) (by omega);subst ag;have ch:o.length<(o++l.drop o.length).length:=by grind
  have aC:(o++l.drop o.length)[o.length]=l[o.length]:=by simp
  have aG:(o++l.drop o.length).set o.length (l[o.length] - 1)=o++[l[o.length] - 1]++l.drop (o.length+1):=by
   rw [List.set_append_right _ _ (Nat.le_refl _),Nat.sub_self,List.drop_eq_getElem_cons M,List.set_cons_zero,List.append_assoc];rfl
  refine ⟨?_,λbf dh=>?_⟩
  ·simp only [bZ,cY M,if_true,cJ ch,A.bw,ct,hw];rw [show (o++l.drop o.length).getD (Int.toNat (o.length:Int)) 0=l[o.length] by grind,gR,Int.toNat_natCast,aG];rfl
  ·grind
 simp
theorem aqy (x):A.le (Yg It.sh qD.sh x) (ft 0 PQ x):=A.bx λh=>by
 obtain ⟨l,d,⟨⟩⟩:=x;obtain ⟨ay,ak⟩:dz d/\eB _ l:=h;unfold Yg;rw [A.bw,show It.sh d.1=A.pure (ye d.1 true) from A.bU ay.hd _,A.aJ,yo (by simp),A.aJ];rfl
theorem aqz (x):A.le (Yh Iv.sh qD.sh x) (ft 0 PR x):=A.bx λh=>by
 obtain ⟨l,d,⟨⟩⟩:=x;obtain ⟨ay,ak⟩:dz d/\eB _ l:=h;unfold Yh;rw [A.bw,show Iv.sh d.1=A.pure (A0 d.1) from A.bU ay.hd _,A.aJ,yo (by simp),A.aJ];rfl
end Go.Fer.ax
namespace Go.Fer.ax
open A (W)
open H (hV)
set_option linter.unusedVariables false
set_option linter.unusedSimpArgs false
def PY {al:Type} (x:List al×Unit):A (List al×Unit):=A.bind (A.any λ(b:Bool)=>b=true->x.1=[]) λ(y:Bool)=>if y=true then A.pure ([],()) else A.ae (cn (Add.add 0 (List.length x.1))) (A.pure ([]++x.1,()))
abbrev fK (t:ad):aO:=⟨.slice t,.slice t,λx=>x.length<=3000000,λx=>x⟩
def qE {al:Type} (x:List al×Unit):A (List al×Unit):=A.dR (x.1.length<=3000000) x
theorem wb {al:Type} (x:List al×Unit):A.le (PY x) (qE x):=A.sn λh=>by
 unfold PY;rw [A.fT];refine ⟨⟨false,by simp⟩,λb aa=>?_⟩;change b=true->x.1=[] at aa;obtain ⟨l,⟨⟩⟩:=x;cases b with
 | true=>rw [show l=[] from aa rfl];exact A.ea.2 rfl
 | false=>
  simp only [Bool.false_eq_true,if_false];exact A.kF.2 ⟨by change l.length<=3000000 at h;simp only [jn,cn];omega,A.ea.2 (by simp)⟩
theorem aqA (x:z1'×Unit):A.le (PY x) (IQ x):=wb x
def ZI {al:Type} (z:al) (x:Int×Int×List al×Unit):A ((Nat×Nat)×List al×Unit):=
 A.ae (0<=x.1/\x.1<=x.2.1/\x.2.1<=Int.ofNat (List.length x.2.2.1)/\Int.ofNat (List.length x.2.2.1)<=Int.ofNat (List.length x.2.2.1)) (if decide
 (x.1=x.2.1)=true then A.pure ((0,List.length x.2.2.1),x.2.2.1,()) else A.ae ((0:Int)<=0/\0<=x.1/\x.1<=Int.ofNat (List.length x.2.2.1))
 (A.ae (0<=x.2.1/\x.2.1<=Int.ofNat (List.length x.2.2.1)/\Int.ofNat (List.length x.2.2.1)<=Int.ofNat (List.length x.2.2.1)) (A.ae (Add.add
 (Int.toNat x.1) (List.length (List.drop (Int.toNat x.2.1) (List.take (Int.toNat (Int.ofNat (List.length x.2.2.1))) x.2.2.1)))<=List.length x.2.2.1)
 (A.ae (0<=Int.ofNat (Add.add (Int.toNat x.1) (List.length (List.drop (Int.toNat x.2.1) (List.take (Int.toNat (Int.ofNat (List.length x.2.2.1)))
 x.2.2.1))) - Int.toNat 0)/\Int.ofNat (Add.add (Int.toNat x.1) (List.length (List.drop (Int.toNat x.2.1) (List.take (Int.toNat (Int.ofNat (List.length
 x.2.2.1))) x.2.2.1))) - Int.toNat 0)<=Int.ofNat (List.length x.2.2.1)/\Int.ofNat (List.length x.2.2.1)<=Int.ofNat (List.length (List.take
 (Int.toNat x.1) x.2.2.1++List.drop (Int.toNat x.2.1) (List.take (Int.toNat (Int.ofNat (List.length x.2.2.1))) x.2.2.1)++List.drop (Add.add
 (Int.toNat x.1) (List.length (List.drop (Int.toNat x.2.1) (List.take (Int.toNat (Int.ofNat (List.length x.2.2.1))) x.2.2.1)))) x.2.2.1) - Int.toNat
 0)) (A.ae True (A.pure ((Int.toNat 0,Add.add (Int.toNat x.1) (List.length (List.drop (Int.toNat x.2.1) (List.take (Int.toNat (Int.ofNat (List.length
 x.2.2.1))) x.2.2.1)))),List.take (Add.add (Int.toNat 0) (Int.toNat (Int.ofNat (Add.add (Int.toNat x.1) (List.length (List.drop (Int.toNat x.2.1)
 (List.take (Int.toNat (Int.ofNat (List.length x.2.2.1))) x.2.2.1))) - Int.toNat 0)))) (List.take (Int.toNat x.1) x.2.2.1++List.drop (Int.toNat
 x.2.1) (List.take (Int.toNat (Int.ofNat (List.length x.2.2.1))) x.2.2.1)++List.drop (Add.add (Int.toNat x.1) (List.length (List.drop (Int.toNat
 x.2.1) (List.take (Int.toNat (Int.ofNat (List.length x.2.2.1))) x.2.2.1)))) x.2.2.1)++List.replicate (Add.add (Int.toNat 0) (Int.toNat (Int.ofNat
 (List.length x.2.2.1))) - Add.add (Int.toNat 0) (Int.toNat (Int.ofNat (Add.add (Int.toNat x.1) (List.length (List.drop (Int.toNat x.2.1) (List.take
 (Int.toNat (Int.ofNat (List.length x.2.2.1))) x.2.2.1))) - Int.toNat 0)))) z++List.drop (Add.add (Add.add (Int.toNat 0) (Int.toNat (Int.ofNat
 (Add.add (Int.toNat x.1) (List.length (List.drop (Int.toNat x.2.1) (List.take (Int.toNat (Int.ofNat (List.length x.2.2.1))) x.2.2.1))) - Int.toNat
 0)))) (List.length (List.replicate (Add.add (Int.toNat 0) (Int.toNat (Int.ofNat (List.length x.2.2.1))) - Add.add (Int.toNat 0) (Int.toNat (Int.ofNat
 (Add.add (Int.toNat x.1) (List.length (List.drop (Int.toNat x.2.1) (List.take (Int.toNat (Int.ofNat (List.length x.2.2.1))) x.2.2.1))) - Int.toNat
 0)))) z))) (List.take (Int.toNat x.1) x.2.2.1++List.drop (Int.toNat x.2.1) (List.take (Int.toNat (Int.ofNat (List.length x.2.2.1))) x.2.2.1)++
 List.drop (Add.add (Int.toNat x.1) (List.length (List.drop (Int.toNat x.2.1) (List.take (Int.toNat (Int.ofNat (List.length x.2.2.1))) x.2.2.1))))
 x.2.2.1),())))))))
def IS {al:Type} (z:al) (x:Int×Int×List al×Unit):A ((Nat×Nat)×List al×Unit):=A.dR (0<=x.1/\x.2.1=x.1+1/\x.1<(x.2.2.1.length:Int)/\x.2.2.1.length<=3000000) ((0,x.2.2.1.length - 1),x.2.2.1.eraseIdx x.1.toNat++[z],())
theorem aqB {al:Type} (z:al) (x):A.le (ZI z x) (IS z x):=A.bx λh=>by
 obtain ⟨i,j,l,⟨⟩⟩:=x;obtain ⟨aY,G,V,ah⟩:0<=i/\j=i+1/\i<(l.length:Int)/\l.length<=3000000:=h;subst G;obtain ⟨n,rfl⟩:∃ n:Nat,i=n:=⟨i.toNat,by omega⟩
 have aD:n<l.length:=by omega
 have aF:((n:Int)+1).toNat=n+1:=by omega
 unfold ZI;simp only [bZ,Int.toNat_natCast,aF,List.take_length,jn,Int.toNat_zero,Nat.sub_zero,Nat.zero_add,List.length_drop];have bB:n+(l.length - (n+1))=l.length - 1:=by omega
 have di:(l.take n++l.drop (n+1)++l.drop (l.length - 1))=l.eraseIdx n++l.drop (l.length - 1):=by rw [List.eraseIdx_eq_take_drop_succ]
 have gv:(l.eraseIdx n).length=l.length - 1:=by rw [List.length_eraseIdx_of_lt aD]
 have h1:l.length - (l.length - 1)=1:=by omega
 rw [A.bH (by omega),if_neg (by simp;omega),A.bH (by omega),A.bH (by omega),A.bH (by omega)];rw [bB,di,A.bH (by simp [gv]),A.bw];show _=A.pure ((0,l.length - 1),l.eraseIdx n++[z],());have mC:(l.eraseIdx n++l.drop (l.length - 1)).take (l.length - 1)=l.eraseIdx n:=by rw [List.take_append_of_le_length (by omega),List.take_of_length_le (by omega)]
 have BK:(l.eraseIdx n++l.drop (l.length - 1)).drop l.length=[]:=List.drop_eq_nil_of_le (by simp [gv]);simp only [h1,mC,List.replicate_one,List.length_cons,List.length_nil,Nat.zero_add];rw [show l.length - 1+1=l.length by omega,BK,List.append_nil]
def wc (x:bJ×Unit):A vH:=A.dR (Em x.1) (iK x.1)
theorem IT {x:z1'} (h:x.length<=2000000):H.oL.sh x=A.pure x:=A.bU (by show List.length x<=3000000;omega) _
theorem yp {t:ad} {x:(ad.slice t).ai} (h:List.length x<=2000000):(fK t).sh x=A.pure x:=A.bU (by show List.length x<=3000000;omega) _
theorem ZJ {gq:Type} {s:bJ} (h:Em s) (fin:bJ->A gq):HO (fK kC).sh (fK kX).sh (fK jU).sh qE H.oL.sh (fK nd).sh (fK mx).sh (fK pJ).sh s fin=fin s:=by
 obtain ⟨⟨cj,c6,eV,Ap⟩,V,ah,a7,bM,dr,fY⟩:=h;obtain ⟨⟨sp,mk,cut,aW⟩,st,jZ,k1,rG,iU⟩:=s;change sp.length<=2000000 at cj;change mk.length<=2000000 at c6;change aW.length<=2000000 at eV;change ∀ m∈mk,m.length<=2000000/\∀ s∈m,s.2.1.length<=2000000 at Ap;change st.length<=2000000 at V;change jZ.length<=2000000 at ah;change k1.length<=2000000 at a7;change rG.length<=2000000 at bM;change ∀ p∈jZ,p.2.2.2.2.length<=2000000 at dr;change ∀ p∈k1,p.1.length<=2000000 at fY;have aU:(fK kC).sh sp=A.pure sp:=yp cj;have aX:(fK kX).sh mk=A.pure mk:=yp c6;have bP:(fK jU).sh aW=A.pure aW:=yp eV;have gx:H.oL.sh st=A.pure st:=IT V;have o':(fK nd).sh jZ=A.pure jZ:=yp ah;have xi:(fK mx).sh k1=A.pure k1:=yp a7;have GL:(fK pJ).sh rG=A.pure rG:=yp bM;unfold HO;simp only [aU,aX,bP,A.jc,A.fE,A.bw];rw [A.dK mk (λi (_:Unit)=>((mk.length:Int),(i:Int),cut,st,jZ,k1,rG,iU,0,0,sp,mk,aW,())) (λp b=>.next b) (λ_=>.next (cut,st,jZ,k1,rG,iU,0,0,sp,mk,aW,())) () ?_ ?_ ?_]
 ·rw [er,A.aJ,A.b2];simp only [gx,o',xi,GL,A.jc,A.fE,A.bw];rw [A.dK jZ (λi (_:Unit)=>((jZ.length:Int),(i:Int),cut,iU,0,0,sp,mk,aW,st,jZ,k1,rG,())) (λp b=>.next b) (λ_=>.next (cut,iU,0,0,sp,mk,aW,st,jZ,k1,rG,())) () ?_ ?_ ?_]
  ·rw [er,A.aJ,A.b2];rw [A.dK k1 (λi (_:Unit)=>((k1.length:Int),(i:Int),cut,iU,0,0,sp,mk,aW,st,jZ,k1,rG,())) (λp b=>.next b) (λ_=>.next (cut,iU,0,0,sp,mk,aW,st,jZ,k1,rG,())) () ?_ ?_ ?_]
   ·rw [er,A.aJ,A.b2]
   ·rfl
   ·intro i M b;have hw:=bG (n:=(i:Int)+1) (by omega) (by omega);have hc:H.oL.sh k1[i].1=A.pure k1[i].1:=IT (fY _ (List.getElem_mem M));have o8:k1.set i (k1[i].1,k1[i].2)=k1:=List.set_getElem_self M;simp only [bZ,cY M,if_true,dm M,cJ M,A.bw,ct,hw];simp only [hc,A.jc,A.fE,A.bw,Int.toNat_natCast,o8];rfl
   ·simp
  ·rfl
  ·intro i M b;have hw:=bG (n:=(i:Int)+1) (by omega) (by omega);have hc:H.oL.sh jZ[i].2.2.2.2=A.pure jZ[i].2.2.2.2:=IT (dr _ (List.getElem_mem M));have o8:jZ.set i (jZ[i].1,jZ[i].2.1,jZ[i].2.2.1,jZ[i].2.2.2.1,jZ[i].2.2.2.2)=jZ:=List.set_getElem_self M;simp only [bZ,cY M,if_true,dm M,cJ M,A.bw,ct,hw];simp only [hc,A.jc,A.fE,A.bw,Int.toNat_natCast,o8];rfl
  ·simp
 ·rfl
 ·intro i M b;have hw:=bG (n:=(i:Int)+1) (by omega) (by omega);obtain ⟨hm,aG⟩:=Ap _ (List.getElem_mem M);have hc:qE (mk[i],())=A.pure (mk[i],()):=A.bU (by show mk[i].length<=3000000;omega) _;have aqC:mk.set i mk[i]=mk:=List.set_getElem_self M;simp only [bZ,cY M,if_true,dm M,cJ M,A.bw,ct,hc,A.aJ];simp only [Int.toNat_natCast];rw [A.dK mk[i] (λj (_:Unit)=>(i,(mk.length:Int),(i:Int),(mk[i].length:Int),(j:Int),cut,st,jZ,k1,rG,iU,0,0,sp,(mk,i),aW,mk[i],())) (λp b=>.next b) (λ_=>.next ((mk.length:Int),(i:Int),cut,st,jZ,k1,rG,iU,0,0,sp,(mk,i),aW,mk[i],())) () ?_ ?_ ?_]
  ·rw [er,A.aJ,A.b2];simp only [hw,aqC];rfl
  ·rfl
  ·intro j aH b;have hw:=bG (n:=(j:Int)+1) (by omega) (by omega);have hc:H.oL.sh mk[i][j].2.1=A.pure mk[i][j].2.1:=IT (aG _ (List.getElem_mem aH));have o8:mk[i].set j (mk[i][j].1,mk[i][j].2.1,mk[i][j].2.2)=mk[i]:=List.set_getElem_self aH;simp only [Prod.c8,Prod.fp,Prod.gJ,bZ,cY aH,if_true,dm aH,cJ aH,A.bw,ct,hw];simp only [hc,A.jc,A.fE,A.bw,Int.toNat_natCast,o8];rfl
  ·simp
 ·simp
theorem aqD (x):A.le (am2 (fK kC).sh (fK kX).sh (fK jU).sh qE H.oL.sh (fK nd).sh (fK mx).sh (fK pJ).sh x) (wc x):=A.bx λh=>ZJ h _
abbrev IU:aO:=⟨l0,l0,Em,λs=>s⟩
theorem aqE (x):A.le (am1 (fK kC).sh (fK kX).sh (fK jU).sh qE H.oL.sh (fK nd).sh (fK mx).sh (fK pJ).sh x) (IU.sh x):=A.bx λh=>ZJ h _
end Go.Fer.ax
namespace Go.Fer.ax
open A (W)
open H (hV)
set_option linter.unusedVariables false
set_option linter.unusedSimpArgs false
def we (x:bJ×bc×Unit):A (aQ×bc×Unit):=A.dR (dz x.2.1/\fu x.1) ((n7 x.2.1 x.1).1,(n7 x.2.1 x.1).2,())
theorem aqF (x):A.le (X_ pL.sh x) (we x):=A.bx λh=>by
 obtain ⟨s,d,⟨⟩⟩:=x;obtain ⟨ay,aG⟩:dz d/\fu s:=h;unfold X_;rw [show pL.sh s=A.pure (ja s) from A.bU aG _,A.aJ];show _=A.pure ((n7 d s).1,(n7 d s).2,());unfold n7;by_cases e:ja s=0<;>simp [e]
theorem aqG {d:bc} (ay:dz d) {s:bJ} (aG:fu s):we (s,d,())=A.pure ((n7 d s).1,(n7 d s).2,()):=A.bU ⟨ay,aG⟩ _
theorem IV {d:bc} (ay:dz d) (s:bJ) (aG:fu s):A.bind (we (s,d,())) (λy=>A.pure (y.1,y.2.1,()))=A.pure ((n7 d s).1,(n7 d s).2,()):=by rw [aqG ay aG,A.aJ]
theorem dz.copy {d:bc} (h:dz d):Em d.1:=apJ h.val
theorem Es {d:bc} (h:dz d):wc (d.1,())=A.pure (iK d.1):=A.bU h.copy _
theorem aqH (x):A.le (X7 x2.sh wc hX.sh x) (ft 4 yh x):=A.bx λh=>by
 obtain ⟨l,d,⟨⟩⟩:=x;obtain ⟨ay,ak⟩:dz d/\eB _ l:=h;have hc:=ay.copy;have aG:gM (nk d.1.1 (bq l 0,bq l 1,bq l 2,bq l 3)):=⟨ay.hd.1.1,ay.hd.1.2.1,by have:=hc.1.2.2.1;simp only [nk,List.length_append,List.length_cons,List.length_nil];omega,ay.hd.1.2.2.2⟩
 unfold X7;rw [A.bw,Es ay,A.aJ];simp (disch:=decide) only [ns ak,A.bw,nl,nm,nn,np,nq,nr];rw [A.bH (by have:=hc.1.2.2.1;simp only [jn,cn,iK];omega)];show A.bind (hX.sh (nk d.1.1 (bq l 0,bq l 1,bq l 2,bq l 3))) _=A.pure ((yh d l).1,(yh d l).2,());rw [show hX.sh (nk d.1.1 (bq l 0,bq l 1,bq l 2,bq l 3))=A.pure (cL (nk d.1.1 (bq l 0,bq l 1,bq l 2,bq l 3))) from A.bU aG _,A.aJ];have hlen:x2.sh (nk d.1.1 (bq l 0,bq l 1,bq l 2,bq l 3),bq l 0)=A.pure (vO (nk d.1.1 (bq l 0,bq l 1,bq l 2,bq l 3)) (bq l 0)):=A.bU aG _;have B3:x2.sh (((iK d.1).1,(iK d.1).2.1,(iK d.1).2.2.1,(iK d.1).2.2.2.2.1++[(bq l 0,bq l 1,bq l 2,bq l 3)]),bq l 0)=A.pure (vO (nk d.1.1 (bq l 0,bq l 1,bq l 2,bq l 3)) (bq l 0)):=hlen;simp only [B3,A.jc,A.fE,A.bw];unfold yh;by_cases e:cL (nk d.1.1 (bq l 0,bq l 1,bq l 2,bq l 3))=0
 ·by_cases bB:(vO (nk d.1.1 (bq l 0,bq l 1,bq l 2,bq l 3)) (bq l 0)).2=0
  ·simp only [e,bB,ne_eq,not_true_eq_false,decide_false,Bool.false_eq_true,if_false];rfl
  grind
 grind
theorem aqI (x):A.le (X9 wc we x) (ft 2 yi x):=A.bx λh=>by
 obtain ⟨l,d,⟨⟩⟩:=x;obtain ⟨ay,ak⟩:dz d/\eB _ l:=h;have hc:=ay.copy;unfold X9;rw [A.bw,Es ay,A.aJ];simp (disch:=decide) only [ns ak,A.bw,nl,nm,nn,np,nq,nr];show _=A.pure ((yi d l).1,(yi d l).2,());unfold yi;have aY:=ak.bq 0;have G:=ak.bq 1;by_cases e:bq l 0>=(d.1.2.1.length:Int)
 ·rw [if_pos (by simpa [iK] using e),if_pos e]
 ·rw [if_neg (by simpa [iK] using e),if_neg e];have aD:(bq l 0).toNat<d.1.2.1.length:=by omega
  rw [A.bH ⟨aY.1,by show bq l 0<(d.1.2.1.length:Int);omega⟩,A.bH ⟨aY.1,by show bq l 0<(d.1.2.1.length:Int);omega⟩];have af:∀ n∈d.1.2.1,0<=n/\n<=10:=λn aD=>by
   have:=ay.val.sG.2;have fN:=ay.yk;unfold ja at fN;grind [nf,b3]
  have aa:=af _ (List.getElem_mem aD);have aC:d.1.2.1.getD (bq l 0).toNat 0=d.1.2.1[(bq l 0).toNat]:=by grind
  have hw:=bG (n:=d.1.2.1.getD (bq l 0).toNat 0+bq l 1) (by omega) (by omega);have gR:IntKind.wrap .i64 (Add.add ((iK d.1).2.2.2.2.2.1.getD (bq l 0).toNat 0) (bq l 1))=d.1.2.1.getD (bq l 0).toNat 0+bq l 1:=hw;rw [gR];exact IV ay (d.1.1,d.1.2.1.set (bq l 0).toNat (d.1.2.1.getD (bq l 0).toNat 0+bq l 1),d.1.2.2) ⟨ay.hd.1,by show (List.set d.1.2.1 _ _).length<_;rw [List.length_set];exact ay.hd.2.1,ay.hd.2.2⟩
theorem aqJ (x):A.le (X' wc we x) (ft 3 PK x):=A.bx λh=>by
 obtain ⟨l,d,⟨⟩⟩:=x;obtain ⟨ay,ak⟩:dz d/\eB _ l:=h;have hc:=ay.copy;have bM:=hc.2.2.2.2.1;obtain ⟨eE,dO,eH,oy,sU,sV,sW⟩:=ay.hd;unfold X';rw [A.bw,Es ay,A.aJ];simp (disch:=decide) only [ns ak,A.bw,nl,nm,nn,np,nq,nr];rw [A.bH (by simp only [jn,cn,iK];omega)];exact IV ay (d.1.1,d.1.2.1,d.1.2.2.1,d.1.2.2.2.1,d.1.2.2.2.2.1++[(bq l 0,bq l 1,bq l 2)],d.1.2.2.2.2.2) ⟨eE,dO,eH,oy,by grind,sV,sW⟩
theorem aqK (x):A.le (Ya wc we x) (ft 4 PL x):=A.bx λh=>by
 obtain ⟨l,d,⟨⟩⟩:=x;obtain ⟨ay,ak⟩:dz d/\eB _ l:=h;have hc:=ay.copy;have bM:=hc.2.2.1;have hm:=ak.IM;have hle:4<=l.length:=ak.PT;obtain ⟨eE,dO,eH,oy,sU,sV,sW⟩:=ay.hd;unfold Ya;rw [A.bw,Es ay,A.aJ];simp (disch:=decide) only [ns ak,A.bw,nl,nm,nn,np,nq,nr];rw [A.bH ⟨by decide,by grind,Int.le_refl _⟩,A.bH (by simp only [jn,cn,iK];omega)];simp only [bZ,Int.toNat_natCast,List.take_length];exact IV ay (d.1.1,d.1.2.1,d.1.2.2.1++[(bq l 0,bq l 1,bq l 2,bq l 3,l.drop 4)],d.1.2.2.2) ⟨eE,dO,by grind,oy,sU,λp ar=>by
  grind,sW⟩
theorem aqL (x):A.le (Yb wc we x) (ft 5 PM x):=A.bx λh=>by
 obtain ⟨l,d,⟨⟩⟩:=x;obtain ⟨ay,ak⟩:dz d/\eB _ l:=h;have hc:=ay.copy;have bM:=hc.2.2.2.1;have hm:=ak.IM;have hle:5<=l.length:=ak.PT;obtain ⟨eE,dO,eH,oy,sU,sV,sW⟩:=ay.hd;unfold Yb;rw [A.bw,Es ay,A.aJ];simp (disch:=decide) only [ns ak,A.bw,nl,nm,nn,np,nq,nr];rw [A.bH ⟨by decide,by grind,Int.le_refl _⟩,A.bH (by simp only [jn,cn,iK];omega)];simp only [bZ,Int.toNat_natCast,List.take_length];exact IV ay (d.1.1,d.1.2.1,d.1.2.2.1,d.1.2.2.2.1++[(l.drop 5,(bq l 0,bq l 1),bq l 2,bq l 3,bq l 4)],d.1.2.2.2.2) ⟨eE,dO,eH,by grind,sU,sV,λp ar=>by
  grind⟩
abbrev IW:dN:=([],(0,0),0,0,0)
theorem aqM (x):A.le (Yc (fK mx).sh (IS IW) x) (ft 1 yj x):=A.bx λh=>by
 obtain ⟨l,d,⟨⟩⟩:=x;obtain ⟨ay,ak⟩:dz d/\eB _ l:=h;have hc:=ay.copy.2.2.2.1;have aY:=ak.bq 0;unfold Yc;simp (disch:=decide) only [ns ak,A.bw,nl,nm,nn,np,nq,nr];show _=A.pure ((yj d l).1,(yj d l).2,());unfold yj;by_cases e:bq l 0>=(d.1.2.2.2.1.length:Int)
 ·grind
 ·rw [if_neg (by grind),if_neg e];have lF:(fK mx).sh d.1.2.2.2.1=A.pure d.1.2.2.2.1:=yp hc;have hw:=bG (n:=bq l 0+1) (by omega) (by omega);simp only [lF,A.jc,A.fE,A.bw,ct,hw];rw [show IS IW (bq l 0,bq l 0+1,d.1.2.2.2.1,())=A.pure _ from A.bU ⟨aY.1,rfl,by grind,by grind⟩ _,A.aJ];grind
theorem ZK {c:H.a6} {m:List H.bb} {v:z1'} (h:(H.n6 c m v).2=0):H.cL c=0/\H.cL (H.n6 c m v).1=0/\(H.n6 c m v).1=H.nj c (H.gS (c.2.1++m)) (H.rD c.2.2.1 v):=by
 unfold H.n6 at h ⊢;split at h
 ·omega
 split at h
 ·omega
 split at h
 ·omega
 split at h
 ·omega
 rename_i ca a2 a3 a4;rw [if_neg ca,if_neg a2,if_neg a3,if_neg a4];have dB:H.cL c=0:=by omega
 have eu:H.cL (H.nj c m v)=0:=by omega
 refine ⟨dB,?_,rfl⟩;have g1:H.jR c=true:=by unfold H.cL at dB;grind
 have eo:H.jR (H.nj c m v)=true:=by unfold H.cL at eu;grind
 have aD:H.kV (H.gS (c.2.1++m))=false:=by
  rw [H.Aj];have:=(H.Aj (c.2.1++m)).1 (by grind);exact λa ba b aa=>this a (H.DK ba) b (H.DK aa)
 have lN:H.jR (H.nj c (H.gS (c.2.1++m)) (H.rD c.2.2.1 v))=true:=by
  unfold H.jR H.sz at g1 eo ⊢;simp only [Bool.and_eq_true,List.all_eq_true,Bool.not_eq_true',Bool.or_eq_false_iff,H.nj] at g1 eo ⊢;obtain ⟨⟨⟨⟨⟨⟨⟨⟨og,z2⟩,z3⟩,z4⟩,z5⟩,aU⟩,aX⟩,bP⟩,gx⟩:=g1;obtain ⟨⟨⟨⟨_,_⟩,aqN⟩,axv⟩,_⟩:=eo;simp only [Bool.or_eq_true,not_or,bZ,Bool.not_eq_true] at a4;refine ⟨⟨⟨⟨⟨⟨⟨⟨og,a4.1⟩,a4.2⟩,z4⟩,z5⟩,aU⟩,λs aG=>?_⟩,λn aD=>?_⟩,gx⟩
  ·rcases List.mem_append.1 (H.DK aG) with h | h
   ·exact aX s h
   ·exact aqN s h
  ·have:=(List.mem_filter.1 aD).2;grind
 unfold H.cL;rw [if_pos lN,if_neg (by show ¬H.kV (H.gS (c.2.1++m))=true;grind)]
theorem PZ {d:bc} (ay:dz d) (m:List H.bb) (v:z1'):dz (sT d m v).2:=by
 unfold sT;split
 ·exact ay
 ·rename_i h;obtain ⟨G,V,ah⟩:=ZK (c:=d.2) (m:=m) (v:=v) (by omega);exact ⟨ay.hd,ay.yk,V,by rw [ah];exact ay.A5⟩
theorem IX {d:bc} (ay:dz d) {s:bJ} (aG:fu s):dz (n7 d s).2:=by
 unfold n7;split
 ·exact ay
 ·rename_i h;exact ⟨aG,by grind,ay.yl,ay.A5⟩
theorem aqO {d:bc} (ay:dz d) {l:z1'} (ak:l.length<=10000) (j:Nat):dz (v' j d l).2:=by
 have hc:=ay.copy;obtain ⟨eE,dO,eH,oy,sU,sV,sW⟩:=ay.hd;obtain ⟨bF,c2,c3,c4,c5,lE,oe⟩:=ay.copy;unfold v';split<;>try exact ay
 ·exact PZ ay _ _
 ·exact PZ ay _ _
 ·exact PZ ay _ _
 ·unfold yh;split
  ·exact ay
  split
  ·exact ay
  rename_i h _;have h:cL (nk d.1.1 (bq l 0,bq l 1,bq l 2,bq l 3))=0:=by omega
  refine ⟨⟨⟨eE.1,eE.2.1,by have:=hc.1.2.2.1;simp only [nk,List.length_append,List.length_cons,List.length_nil];omega,eE.2.2.2⟩,dO,eH,oy,sU,sV,sW⟩,?_,ay.yl,ay.A5⟩;have aG:=ay.yk;unfold ja at aG ⊢;rw [if_neg (by omega)];have:nf (nk d.1.1 (bq l 0,bq l 1,bq l 2,bq l 3),d.1.2)=nf d.1:=rfl;grind
 ·unfold yi;split
  ·exact ay
  ·exact IX ay ⟨eE,by grind,eH,oy,sU,sV,sW⟩
 ·exact IX ay ⟨eE,dO,eH,oy,by grind,sV,sW⟩
 ·exact IX ay ⟨eE,dO,by grind,oy,sU,λp ar=>by
   grind,sW⟩
 ·exact IX ay ⟨eE,dO,eH,by grind,sU,sV,λp ar=>by
   grind⟩
 ·unfold yj;split
  ·exact ay
  ·refine ⟨⟨eE,dO,eH,by grind,sU,sV,λp ar=>sW p (List.mem_of_mem_eraseIdx ar)⟩,?_,ay.yl,ay.A5⟩;have aG:=ay.yk;unfold ja at aG ⊢;split at aG
   ·omega
   ·rename_i uJ;rw [if_neg uJ];split at aG
    ·rename_i af;rw [if_pos];unfold nf at af ⊢;simp only [Bool.and_eq_true,List.all_eq_true,decide_eq_true_eq] at af ⊢;obtain ⟨⟨⟨⟨⟨⟨⟨⟨dx,dP⟩,oh⟩,ur⟩,c8⟩,fp⟩,gJ⟩,iq⟩,jP⟩:=af;exact ⟨⟨⟨⟨⟨⟨⟨⟨dx,dP⟩,oh⟩,ur⟩,by grind⟩,λx aj=>fp x (List.mem_of_mem_eraseIdx aj)⟩,gJ⟩,iq⟩,jP⟩
    omega
end Go.Fer.ax
namespace Go.Fer.ax
open A (W)
open H (hV)
set_option linter.unusedVariables false
set_option linter.unusedSimpArgs false
theorem ZL:∀ (s:aQ) (n k:Nat),n<10 ^ k->k+s.length<=18->0<=fX s n->Go.Lib.parseUint10 n s=.ok (fX s n).toNat
 | [],n,k,_,_,_=>by rfl
 | c::s,n,k,G,V,ah=>by
  unfold fX at ah ⊢;split at ah
  ·omega
  ·rename_i hc;rw [if_neg hc];simp only [Bool.or_eq_true,decide_eq_true_eq,not_or] at hc;have GF:48<=c.toNat/\c.toNat<=57:=by omega
   have ao:(10:Nat) ^ (k+1)<=10 ^ 18:=Nat.pow_le_pow_right (by decide) (by grind);have WM:(10:Nat) ^ (k+1)=10 ^ k*10:=Nat.pow_succ ..;have e:10*(n:Int)+((c.toNat:Int) - 48)=((n*10+(c.toNat - 48):Nat):Int):=by omega
   rw [e] at ah ⊢;unfold Go.Lib.parseUint10;rw [if_pos GF,if_neg (by omega),if_neg (by omega)];exact ZL s _ (k+1) (by omega) (by grind) ah
theorem P0 {s:aQ} (h:0<=fj s):Go.Lib.atoiAll s=.ok (fj s):=by
 unfold fj at h ⊢;split at h
 ·omega
 ·rename_i aa;rw [if_neg aa];simp only [Bool.or_eq_true,decide_eq_true_eq,not_or] at aa;obtain ⟨⟨aY,dr⟩,_⟩:=aa;cases s with
  | nil=>grind
  | cons c r=>
   have ar:=ZL (c::r) 0 0 (by decide) (by omega) h;have ak:=Pw (c::r) 0 0 (by decide) (by decide);have gh:(10:Int) ^ (0+(c::r).length)<=10 ^ 6:=by
    have:=Nat.pow_le_pow_right (n:=10) (by decide) (show 0+(c::r).length<=6 by omega);grind
   have ay:¬(decide ((c.toNat:Int)<48)||decide ((c.toNat:Int) > 57))=true:=by
    intro hc;unfold fX at h;grind
   simp only [Bool.or_eq_true,decide_eq_true_eq,not_or] at ay;unfold Go.Lib.atoiAll;simp only;rw [if_neg (by omega)];unfold Go.Lib.parseMag;grind
theorem aqP {s:aQ} (h:0<=fj s):sS s=fj s:=by
 unfold sS;rw [P0 h]
abbrev Et:aO:=⟨.str,.aA (.int .i64) .bool,λx=>x.length<=10000,q2⟩
abbrev IY:aO:=⟨.aA .str .str,sR,λx=>x.1.length<=10000/\x.2=[32],λx=>cT x.1⟩
abbrev aqQ:ad:=.st (.aA bu (.aA .bool .ej))
def IZ:List (aQ×Int×Bool)->Nat->List (aQ×AE)
 | [],_=>[]
 | p::l,i=>(p.1,p.2.1,p.2.2,some (119+i))::IZ l (i+1)
def wg:List (aQ×AE):=IZ ki 0
abbrev I0:aO:=⟨.cQ,.map .str aqQ,λ_=>True,λ_=>wg⟩
theorem aqR (x):A.le (amC x) (I0.sh x):=A.bx λ_=>congrArg A.pure (show _=wg by decide +kernel)
theorem ZM (w:aQ):∀ (l:List (aQ×Int×Bool)) (i:Nat),((IZ l i).find? λp=>decide (w=p.1)).map (λx=>x.2)=(oV w l i).map λr=>(r.1,r.2.1,some (119+r.2.2))
 | [],_=>rfl
 | p::l,i=>by
  unfold IZ oV;rw [List.find?_cons];by_cases h:w=p.1
  ·simp [h]
  ·simp [h,ZM w l (i+1)]
theorem P1 {w:aQ}:∀ {l:List (aQ×Int×Bool)} {i:Nat} {r:Int×Bool×Nat},oV w l i=some r->i<=r.2.2/\r.2.2<i+l.length/\l[r.2.2 - i]?=some (w,r.1,r.2.1)
 | [],_,_,h=>by simp [oV] at h
 | p::l,i,r,h=>by
  unfold oV at h;split at h
  ·grind
  ·have:=P1 h;grind
def I1 (j:Nat):Nat:=(ki.getD j ([],0,false)).2.1.toNat
def Eu (k:Nat):z1'×bc×Unit->A (aQ×bc×Unit):=ft (I1 (k - 119)) (v' (k - 119))
theorem ZN:∀ p∈ki,0<=p.2.1:=by decide
def I2 (x:List (aQ×AE)×aQ×bc×Unit):A (aQ×bc×Unit):=A.dR (x.1=wg/\x.2.1.length<=10000/\dz x.2.2.1) ((mz x.2.2.1 x.2.1).1,(mz x.2.2.1 x.2.1).2,())
theorem aqS {l:List aQ} (h:l.all (λw=>decide (0<=fj w))=true):l.map sS=l.map fj:=List.map_congr_left λw hw=>aqP (by grind)
theorem ZO {aK:Type} (r:aK) (fin:z1'->aK):∀ (l:List aQ) (b:z1'),eX (λw b=>if (!decide (0<=fj w))=true then .done r else .next (b++[sS w])) fin l b=if l.all (λw=>decide (0<=fj w))=true then fin (b++l.map sS) else r
 | [],b=>by simp [eX]
 | w::l,b=>by
  unfold eX;rw [List.all_cons,List.map_cons];cases h:decide (0<=fj w) with
  | true=>
   simp only [Bool.not_true,Bool.false_eq_true,if_false,Bool.true_and];rw [ZO r fin l,List.append_assoc];rfl
  | false=>rfl
theorem aqT (x):A.le (XT IY.sh Et.sh Eu x) (I2 x):=A.bx λh=>by
 obtain ⟨aqU,s,d,⟨⟩⟩:=x;obtain ⟨af,aG,ay⟩:aqU=wg/\s.length<=10000/\dz d:=h;subst af;unfold XT;show _=A.pure ((mz d s).1,(mz d s).2,());rw [show IY.sh (s,[32])=A.pure (cT s) from A.bU ⟨aG,rfl⟩ _,A.aJ];have ak:=uA s;rw [A.bH ⟨by decide,by grind⟩];have aw:((wg.find? λp=>decide ((cT s).getD (Int.toNat 0) []=p.1)).map λx=>x.2)=(oV ((cT s).getD 0 []) ki 0).map λr=>(r.1,r.2.1,some (119+r.2.2)):=ZM _ _ _;have hw:=bG (n:=((cT s).length:Int) - 1) (by omega) (by omega);simp only [aw,bZ,hw];unfold mz Ep;cases F4:oV ((cT s).getD 0 []) ki 0 with
 | none=>simp
 | some r=>
  obtain ⟨k,m,j⟩:=r;obtain ⟨_,aH,ao⟩:=P1 F4;simp only [Option.map_some,Option.isSome_some,Option.getD_some,Bool.not_true,Bool.false_or];by_cases aa:(decide (((cT s).length:Int) - 1<k)||decide (((cT s).length:Int) - 1 > k)&&!m)=true
  ·grind
  ·rw [if_neg aa,if_neg aa];rw [A.bH ⟨by decide,by omega,Int.le_refl _⟩];simp only [Int.toNat_natCast,List.take_length,show Int.toNat 1=1 from rfl];have uU:((cT s).drop 1).length=(cT s).length - 1:=by simp
   rw [A.gA ((cT s).drop 1) (λi (o:z1')=>((cT s).drop 1,(((cT s).drop 1).length:Int),(i:Int),(k,m,some (119+j)),o,d,())) (λw o=>if (!decide (0<=fj w))=true then .done (.done ([63],d,())) else .next (o++[sS w])) (λo=>.next ((k,m,some (119+j)),o,d,())) (λi o=>o.length=i) [] ?_ rfl ?_ ?_]
   ·rw [ZO,A.aJ];unfold IK;by_cases ba:((cT s).drop 1).all (λw=>decide (0<=fj w))=true
    ·rw [if_pos ba,if_pos ba,A.b2,aqS ba,List.nil_append];rw [A.bH]
     ·have yE:0<=k:=ZN _ (List.mem_of_getElem? ao);have ch:I1 j=k.toNat:=by
       unfold I1;grind
      have cH:eB (I1 j) (((cT s).drop 1).map fj):=by
       simp only [Bool.or_eq_true,decide_eq_true_eq,not_or] at aa;refine ⟨by grind,by grind,λn aD=>?_⟩;obtain ⟨w,hw,rfl⟩:=List.mem_map.1 aD;have:=List.all_eq_true.1 ba w hw;exact ⟨by grind,(ap' w).2⟩
      have axw:Eu (119+j) (((cT s).drop 1).map fj,d,())=A.pure ((v' j d (((cT s).drop 1).map fj)).1,(v' j d (((cT s).drop 1).map fj)).2,()):=by
       unfold Eu;rw [show 119+j - 119=j by omega];exact A.bU ⟨ay,cH⟩ _
      simp_all
     ·have:j<20:=by simpa [ki] using aH
      exact ⟨119+j,by
       have e:∀ j:Fin 20,(119+j.val)∈[119,120,121,122,123,124,125,126,127,128,129,130,131,132,133,134,135,136,137,138]:=by decide
       exact e ⟨j,this⟩,rfl⟩
    ·rw [if_neg ba,if_neg ba];rfl
   ·rfl
   ·intro i M o ag;have hw:=bG (n:=(i:Int)+1) (by omega) (by omega);refine ⟨?_,λbf dh=>?_⟩
    ·simp only [cY M,if_true,dm M,cJ M,A.bw,ct,hw];rw [show Et.sh ((cT s).drop 1)[i]=A.pure (q2 ((cT s).drop 1)[i]) from A.bU (Nat.le_trans (ZD s (List.mem_of_mem_drop (List.getElem_mem M))) aG) _,A.aJ];unfold q2;by_cases aD:0<=fj ((cT s).drop 1)[i]
     ·simp only [aD,decide_true,Bool.not_true,Bool.false_eq_true,if_false];rw [A.bH (hV (by grind))];rfl
     simp_all
    grind
   simp
theorem ZP {d:bc} (ay:dz d) {s:aQ} (aG:s.length<=10000):dz (mz d s).2:=by
 unfold mz;split
 ·exact ay
 ·rename_i j l ar;refine aqO ay ?_ j;unfold Ep at ar;split at ar
  ·grind
  ·split at ar
   ·grind
   ·unfold IK at ar;have:=uA s;grind
end Go.Fer.ax
namespace Go.Fer.ax
open A (W)
open H (hV)
set_option linter.unusedVariables false
set_option linter.unusedSimpArgs false
abbrev sX:aO:=⟨v_,.int .i64,λd=>fu d.1/\H.iN d.2,jY⟩
theorem aqV (x):A.le (XQ pL.sh H.hX.sh x) (sX.sh x):=A.bx λh=>by
 obtain ⟨G,V⟩:fu x.1/\H.iN x.2:=h;unfold XQ;rw [show pL.sh x.1=A.pure (ja x.1) from A.bU G _,A.aJ,show H.hX.sh x.2=A.pure (H.cL x.2) from A.bU V _,A.kO,A.aJ];show _=A.pure (jY x);unfold jY;grind
theorem aqW (l:List H.bb):(H.gS l).length<=l.length:=by
 have qW:(H.gS l).map (·.1) ⊆ l.map (·.1):=by
  intro x aj;obtain ⟨s,aG,rfl⟩:=List.mem_map.1 aj;exact List.mem_map_of_mem (H.DK aG)
 have:=(H.Xs l).length_le_of_subset qW;grind
theorem aqX (l:z1'):(H.rD l []).length<=l.length:=by
 unfold H.rD;have aD:((et 0 99).filter λid=>l.contains id||List.contains [] id).Nodup:=((H.ZB 0 99).imp λh=>by omega:(et 0 99).Nodup).filter _;refine aD.length_le_of_subset λx aj=>?_;grind
theorem ZQ {c:H.a6} (h:H.cL c=0):H.n6 c [] []=(H.nj c (H.gS c.2.1) (H.rD c.2.2.1 []),0):=by
 have M:=H.IJ h;have g:H.jR c=true:=by unfold H.cL at h;grind
 have V:H.cL (H.nj c [] [])=0:=by
  have:H.jR (H.nj c [] [])=true:=by
   unfold H.jR H.sz at g ⊢;simp only [Bool.and_eq_true,List.all_eq_true,Bool.not_eq_true',Bool.or_eq_false_iff,H.nj] at g ⊢;grind
  unfold H.cL;rw [if_pos this];rfl
 have e_:=aqW c.2.1;have pU:=aqX c.2.2.1;have ef:=M.ef;have jF:=M.jF;unfold H.n6;rw [if_neg (by simp [h]),if_neg (by omega),List.append_nil,if_neg (by rw [M.cl];decide),if_neg];grind
theorem aqY {d:bc} (h:dz d):hp d=(d.1,H.nj d.2 (H.gS d.2.2.1) (H.rD d.2.2.2.1 [])):=by
 unfold hp;rw [ZQ h.yl]
theorem ZR {d:bc} (h:dz d):dz (hp d):=by
 have:=ZK (c:=d.2) (m:=[]) (v:=[]) (by rw [ZQ h.yl]);exact ⟨h.hd,h.yk,this.2.1,by rw [aqY h];exact h.A5⟩
theorem ZS {p:bc->Prop} {q:aQ->Prop} (ar:∀ d s,p d->q s->p (mz d s).2):∀ (l:List aQ) (d:bc),p d->(∀ s∈l,q s)->p (gm d l).2
 | [],d,h,_=>h
 | s::l,d,h,br=>ZS ar l _ (ar d s h (br s (by simp))) λt aL=>br t (by grind)
theorem aqZ {d:bc} (h:dz d) {l:List aQ} (ak:∀ s∈l,s.length<=10000):dz (gm d l).2:=ZS (p:=dz) (λd s h aG=>ZP h aG) l d h ak
def uc (x:bc×Unit):A (bc×Unit):=A.dR (dz x.1) (hp x.1,())
theorem Ob (x):A.le (XR H.A3.sh IU.sh x) (uc x):=A.bx λh=>by
 obtain ⟨d,⟨⟩⟩:=x;have h:dz d:=h;unfold XR;rw [show H.A3.sh (d.2,[],[])=A.pure (H.n6 d.2 [] []) from A.bU ⟨h.iN,by simp,by simp⟩ _,A.aJ];rw [show IU.sh d.1=A.pure d.1 from A.bU h.copy _];simp only [A.jc,A.fE,A.bw];rfl
abbrev ZT (x:bc×List aQ):Prop:=fu x.1.1/\H.gL x.1.2/\x.2.length<2 ^ 63/\∀ s∈x.2,s.length<=10000
theorem ZU {d:bc} (G:fu d.1) (V:H.gL d.2) (h:jY d=0):dz d:=by
 unfold jY at h;split at h
 ·omega
 ·rename_i aa;simp only [Bool.or_eq_true,decide_eq_true_eq,not_or,ne_eq,Decidable.not_not] at aa;exact ⟨G,aa.1,aa.2,V.2 aa.2⟩
abbrev uB:aO:=⟨.aA v_ sR,.aA sR (.aA v_ (.int .i64)),ZT,λx=>wa x.1 x.2⟩
theorem ZV:∀ (l:List aQ) (o:List aQ) (d:bc),l.foldl (λ(p:List aQ×bc) s=>(p.1++[(mz p.2 s).1],(mz p.2 s).2)) (o,d)=(o++(gm d l).1,(gm d l).2)
 | [],o,d=>by simp [gm]
 | s::l,o,d=>by
  rw [List.foldl_cons,ZV l];simp [gm]
theorem aq0 (x):A.le (XP sX.sh uc I0.sh I2 x) (uB.sh x):=A.bx λh=>by
 obtain ⟨d,l⟩:=x;obtain ⟨G,V,ah,a7⟩:ZT (d,l):=h;unfold XP;show _=A.pure (wa d l);unfold wa;rw [show sX.sh d=A.pure (jY d) from A.bU ⟨G,V.hd⟩ _,A.aJ];by_cases e:jY d=0
 ·rw [if_neg (show ¬decide (jY d≠0)=true by grind),if_neg (show ¬jY d≠0 by omega)];have ay:=ZU G V e;by_cases bB:l.length > 40
  ·grind
  ·rw [if_neg (show ¬decide (Int.ofNat l.length > 40)=true by grind),if_neg bB];rw [show uc (d,())=A.pure (hp d,()) from A.bU ay _,A.aJ,show I0.sh ()=A.pure wg from rfl,A.aJ];rw [A.gA l (λi (p:List aQ×bc)=>(wg,l,(l.length:Int),(i:Int),p.1,0,0,0,0,0,0,0,0,0,p.2,())) (λs p=>.next (p.1++[(mz p.2 s).1],(mz p.2 s).2)) (λp=>.next (p.1,0,0,0,0,0,0,0,0,0,p.2,())) (λi p=>dz p.2/\p.1.length=i) ([],hp d) ?_ ⟨ZR ay,rfl⟩ ?_ ?_]
   ·rw [er,ZV,A.aJ,A.b2,A.bw,List.nil_append]
   ·rfl
   ·rintro i M ⟨o,uK⟩ ⟨wB,ag⟩;have hw:=bG (n:=(i:Int)+1) (by omega) (by omega);have aG:=a7 _ (List.getElem_mem M);change dz uK at wB;change o.length=i at ag;refine ⟨?_,λbf dh=>?_⟩
    ·simp only [bZ,cY M,if_true,dm M,cJ M,A.bw,ct,hw];rw [show I2 (wg,l[i],uK,())=A.pure _ from A.bU ⟨rfl,aG,wB⟩ _,A.aJ,A.bH (hV (by grind))];rfl
    ·simp only [W.next.injEq] at dh;subst dh;exact ⟨ZP wB aG,by grind⟩
   simp
 grind
end Go.Fer.ax
namespace Go.Fer.ax
open A (W)
set_option linter.unusedVariables false
set_option linter.unusedSimpArgs false
def oW:bc:=(A2,[(0,0)],[],[],[],10,30,100,500,1000,2000,300)
def ZW (aq1:Unit->A bJ) (x:Unit):A bc:=A.bind (aq1 ()) λy=>A.pure (y,[(0,0)],[],[],[],10,30,100,500,1000,2000,300)
abbrev I3:aO:=⟨.cQ,v_,λ_=>True,λ_=>oW⟩
theorem aq2 (x):A.le (ZW Iz.sh x) (I3.sh x):=A.bx λ_=>by
 unfold ZW;rw [show Iz.sh ()=A.pure A2 from rfl,A.aJ];rfl
def pk:List aQ:=[[108,101,110,100,32,49,32,48,32,49,48,48,32,51,32,55],[98,97,99,107,32,50,32,48,32,49,55,49,32,51],[102,101,101,32,49],[119,104,101,114,101,32,51,32,49,55,49],[116,114,105,97,108,32,49,32,48,32,48,32,48],[115,116,111,99,107,32,48,32,49],[101,120,116,114,97],[100,114,111,112,32,51],[101,120,116,114,97]]
def I4:List aQ:=[[111,107],[111,107],[51,48,48,32,51,48,48],[115,104,111,112],[108,105,97,114],[111,107],[49],[111,107],[48]]
theorem aq3:jY oW=0:=by decide +kernel
theorem P2:(gm (hp oW) pk).1=I4/\(gm (hp oW) pk).2.2.2.1.length=2/\(gm (hp oW) pk).2.1.2.2.2.1.length=3:=by decide +kernel
end Go.Fer.ax
namespace Go.Fer.ax
open A (W)
open H (hV)
set_option linter.unusedVariables false
set_option linter.unusedSimpArgs false
theorem aq4 (x):A.le (XO H.hX.sh pL.sh x) (sX.sh x):=A.bx λh=>by
 obtain ⟨G,V⟩:fu x.1/\H.iN x.2:=h;unfold XO;rw [show pL.sh x.1=A.pure (ja x.1) from A.bU G _,A.aJ,show H.hX.sh x.2=A.pure (H.cL x.2) from A.bU V _,A.kO,A.aJ];show _=A.pure (jY x);unfold jY;grind
theorem ZX (c:UInt8):c.1.1.1=c.toNat:=rfl
theorem aq5 {n:Int} (h:0<=n) (V:n<=255):IntKind.wrap .u8 n=n:=by
 show (if (false&&decide (n % 2 ^ 8>=(2 ^ (8 - 1):Int)))=true then n % 2 ^ 8 - 2 ^ 8 else n % 2 ^ 8)=n;grind
theorem P3 {al β aK:Type} {p:al->Bool} {r:aK} {g:al->β->β} {fin:β->aK}:∀ (l:List al) (b:β),eX (λx b=>if p x=true then .done r else .next (g x b)) fin l b=if l.any p=true then r else fin (l.foldl (λb x=>g x b) b)
 | [],b=>rfl
 | x::l,b=>by
  unfold eX;rw [List.any_cons,List.foldl_cons];cases h:p x with
  | true=>rfl
  | false=>
   simp only [Bool.false_eq_true,if_false,Bool.false_or];exact P3 l (g x b)
def yq (c:UInt8):Bool:=decide ((c.toNat:Int)<48)||decide ((c.toNat:Int) > 57)
theorem aq6 (c:UInt8) (s:aQ) (n:Int):fX (c::s) n=if yq c=true then -1 else fX s (10*n+((c.toNat:Int) - 48)):=rfl
theorem ZY {aK:Type} {r:aK} {fin:Int->aK}:∀ (s:aQ) (n:Int),0<=n->eX (λc n=>if yq c=true then .done r else .next (10*n+((c.toNat:Int) - 48))) fin s n=if fX s n=-1 then r else fin (fX s n)
 | [],n,h=>by
  show fin n=if n=-1 then r else fin n
  grind
 | c::s,n,h=>by
  rw [aq6];unfold eX;by_cases hc:yq c=true
  ·grind
  ·have oA:=hc;unfold yq at oA;simp only [Bool.or_eq_true,decide_eq_true_eq,not_or] at oA;simp only [hc];exact ZY s _ (by omega)
abbrev I5:aO:=⟨.str,.int .i64,λ_=>True,fj⟩
theorem aq7 (x):A.le (Yq x) (I5.sh x):=A.bx λ_=>by
 unfold Yq;show _=A.pure (fj x);unfold fj;simp only [bZ,ZX,show Int.toNat 0=0 from rfl];rw [A.bH (λaa=>⟨⟨aa,trivial⟩,⟨Int.le_refl _,by grind⟩,trivial⟩)];have e:(decide ((x.length:Int)=0)||decide ((x.length:Int) > 6)||decide ((x.length:Int) > 1)&&decide (((x.getD 0 0).toNat:Int)=48))=(decide (x.length=0)||decide (x.length > 6)||decide (x.length > 1)&&decide ((x.getD 0 0).toNat=48)):=by
  grind
 rw [e];by_cases aa:(decide (x.length=0)||decide (x.length > 6)||decide (x.length > 1)&&decide ((x.getD 0 0).toNat=48))=true
 ·grind
 ·rw [if_neg aa,if_neg aa];have dr:x.length<=6:=by
   grind
  rw [A.gA x (λi (n:Int)=>(x,n,(i:Int),())) (λc n=>if yq c=true then .done (.done (-1)) else .next (10*n+((c.toNat:Int) - 48))) (λn=>.next (n,())) (λi n=>0<=n/\n<10 ^ i) 0 ?_ ⟨Int.le_refl _,by decide⟩ ?_ ?_]
  ·rw [ZY _ _ (Int.le_refl _),A.aJ];by_cases ay:fX x 0=-1
   ·rw [if_pos ay,ay];rfl
   ·rw [if_neg ay];rfl
  ·rfl
  ·rintro i M n ⟨aY,G⟩;have hw:=bG (n:=(i:Int)+1) (by omega) (by omega);have ar:(10:Int) ^ i<=10 ^ 5:=by
    have:=Nat.pow_le_pow_right (n:=10) (by decide) (show i<=5 by omega);grind
   have xm:(10:Int) ^ (i+1)=10 ^ i*10:=Int.pow_succ ..;refine ⟨?_,λbf dh=>?_⟩
   ·simp only [cY M,if_true,dm M,cJ M,A.bw,ct,hw];rw [A.bH (λh=>⟨⟨h,h⟩,trivial,trivial⟩)];by_cases hc:yq x[i]=true
    ·rw [if_pos hc];have oA:(decide ((x[i].toNat:Int)<48)||decide ((x[i].toNat:Int) > 57))=true:=hc;simp_all
    ·rw [if_neg hc];have oA:¬(decide ((x[i].toNat:Int)<48)||decide ((x[i].toNat:Int) > 57))=true:=hc;rw [if_neg oA];simp only [Bool.or_eq_true,decide_eq_true_eq,not_or] at oA;rw [aq5 (by omega) (by omega),bG (n:=(x[i].toNat:Int) - 48) (by omega) (by omega),bG (n:=10*n) (by omega) (by omega),bG (n:=10*n+((x[i].toNat:Int) - 48)) (by omega) (by omega)];rfl
   ·split at dh
    ·grind
    ·rename_i hc;unfold yq at hc;grind
  simp
def A7 (o:List aQ) (c:UInt8):List aQ:=if c=32 then o++[[]] else o.set (o.length - 1) (o.getD (o.length - 1) []++[c])
theorem P4:∀ (s:aQ) (o:List aQ) (w:aQ),s.foldl A7 (o++[w])=o++(match cT s with | []=>[w] | v::l=>(w++v)::l)
 | [],o,w=>by simp [cT]
 | c::s,o,w=>by
  rw [List.foldl_cons];unfold cT;by_cases hc:c=32
  ·rw [if_pos hc,show A7 (o++[w]) c=o++[w]++[[]] from if_pos hc];have:=P4 s (o++[w]) [];rw [this];have ak:=uA s;grind
  ·rw [if_neg hc,show A7 (o++[w]) c=_ from if_neg hc];have e:(o++[w]).set ((o++[w]).length - 1) ((o++[w]).getD ((o++[w]).length - 1) []++[c])=o++[w++[c]]:=by
    simp
   rw [e];have:=P4 s o (w++[c]);rw [this];have ak:=uA s;cases h:cT s with
   | nil=>exact absurd ak.1 (by rw [h];decide)
   | cons v l=>simp
abbrev I6:aO:=⟨.str,sR,λx=>x.length<=10000,cT⟩
theorem aq8 (x):A.le (Yp x) (I6.sh x):=A.bx λh=>by
 change x.length<=10000 at h;unfold Yp;show _=A.pure (cT x);rw [A.gA x (λi (o:List aQ)=>(x,(i:Int),o,())) (λc o=>.next (A7 o c)) (λo=>.next (o,())) (λi o=>1<=o.length/\o.length<=i+1/\∀ w∈o,w.length<=i) [[]] ?_ ⟨by decide,by decide,by simp⟩ ?_ ?_]
 ·rw [er,A.aJ,A.b2];have:=P4 x [] [];rw [List.nil_append] at this;rw [this];have ak:=uA x;grind
 ·rfl
 ·rintro i M o ⟨G,V,ah⟩;have hw:=bG (n:=(i:Int)+1) (by omega) (by omega);have gR:=bG (n:=(o.length:Int) - 1) (by omega) (by omega);have aF:((o.length:Int) - 1).toNat=o.length - 1:=by omega
  have bB:((i:Int)+1).toNat=i+1:=by omega
  have aq9:o.length - 1<o.length:=by omega
  have aC:o.getD (o.length - 1) []=o[o.length - 1]:=by grind
  have axx:=ah _ (List.getElem_mem aq9);have ay:(x.take (i+1)).drop i=[x[i]]:=by rw [List.drop_take,List.drop_eq_getElem_cons M,Nat.add_sub_cancel_left];rfl
  refine ⟨?_,λbf dh=>?_⟩
  ·simp only [bZ,cY M,if_true,dm M,cJ M,A.bw,ct,hw,gR,aF,ZX];unfold A7;by_cases hc:x[i]=32
   ·have oA:decide ((x[i].toNat:Int)=32)=true:=by simp_all
    rw [if_pos oA,if_pos hc,A.bH (hV (by grind))];simp_all
   ·have oA:¬decide ((x[i].toNat:Int)=32)=true:=by
     intro h;apply hc;simp only [decide_eq_true_eq] at h;exact UInt8.toNat_inj.1 (show x[i].toNat=32 by omega)
    rw [if_neg oA,if_neg hc];rw [A.bH (by omega),A.bH (by omega),bB,Int.toNat_natCast,ay,A.bH (hV (by grind)),A.bH (by omega)];simp_all
  ·simp only [W.next.injEq] at dh;subst dh;unfold A7;grind
 simp
end Go.Fer.ax
namespace Go.Fer.ax
open A (W)
open H (hV)
set_option linter.unusedVariables false
set_option linter.unusedSimpArgs false
def pN:List aQ×z1'×z1':=(ki.map (·.1),ki.map (·.2.1),ki.map λp=>if p.2.2=true then -1 else p.2.1)
abbrev I7:aO:=⟨.cQ,.aA sR (.aA fS fS),λ_=>True,λ_=>pN⟩
theorem aq_ (x):A.le (amV x) (I7.sh x):=A.bx λ_=>congrArg A.pure (show _=pN by rfl)
def A8 (k:Int) (m:Bool) (n:Nat):Bool:=decide ((n:Int)>=k)&&(decide ((if m=true then -1 else k)<(0:Int))||decide ((n:Int)<=if m=true then -1 else k))
def n8 (s:aQ):aQ×z1'×Bool:=
 if ((cT s).drop 1).any (λw=>decide (fj w<0))=true then ([],[],false) else
 match oV ((cT s).getD 0 []) ki 0 with
 | none=>([],[],false)
 | some (k,m,_)=>((cT s).getD 0 [],((cT s).drop 1).map fj,A8 k m ((cT s).drop 1).length)
theorem ZZ {aK:Type} {w:aQ} {g:Int->Bool->aK} {r:aK}:∀ (l:List (aQ×Int×Bool)) (i:Nat),eX (λp (_:Unit)=>if decide (p.1=w)=true then .done (g p.2.1 p.2.2) else .next ()) (λ_=>r) l ()=match oV w l i with | none=>r | some q=>g q.1 q.2.1
 | [],_=>rfl
 | p::l,i=>by
  unfold eX oV;by_cases h:p.1=w
  ·simp [h]
  ·have V:¬w=p.1:=λe=>h e.symm;simp only [h,decide_false,Bool.false_eq_true,if_false,V];exact ZZ l (i+1)
abbrev A9:aO:=⟨.str,.aA .str (.aA fS .bool),λx=>x.length<=10000,n8⟩
theorem aq' (x):A.le (Yo I6.sh I5.sh I7.sh x) (A9.sh x):=A.bx λh=>by
 change x.length<=10000 at h;unfold Yo;show _=A.pure (n8 x);unfold n8;rw [show I6.sh x=A.pure (cT x) from A.bU h _,A.aJ];have ak:=uA x;have aj:List.length x<=10000:=h;have uU:((cT x).drop 1).length=(cT x).length - 1:=by simp
 rw [A.gA ((cT x).drop 1) (λi (o:z1')=>(cT x,((1+i:Nat):Int),o,())) (λw o=>if decide (fj w<0)=true then .done (.done ([],[],false)) else .next (o++[fj w])) (λo=>.next (cT x,o,())) (λi o=>o.length=i) [] ?_ rfl ?_ ?_]
 ·rw [P3,A.aJ];by_cases ba:((cT x).drop 1).any (λw=>decide (fj w<0))=true
  ·rw [if_pos ba,if_pos ba];rfl
  ·rw [if_neg ba,if_neg ba,A.b2,xE,List.nil_append];rw [show I7.sh ()=A.pure pN from rfl,A.aJ];generalize mV:((cT x).drop 1).map fj=A_;have aD:A_.length=((cT x).drop 1).length:=by grind
   rw [<-aD];rw [A.gA ki (λi (_:Unit)=>(cT x,pN.1,pN.2.1,pN.2.2,(i:Int),A_,())) (λp (_:Unit)=>if decide (p.1=(cT x).getD 0 [])=true then .done (.done ((cT x).getD 0 [],A_,A8 p.2.1 p.2.2 A_.length)) else .next ()) (λ_=>.next ()) (λ_ _=>True) () ?_ trivial ?_ ?_]
   ·rw [ZZ (g:=λk m=>W.done ((cT x).getD 0 [],A_,A8 k m A_.length)) ki 0,A.aJ];cases oV ((cT x).getD 0 []) ki 0<;>rfl
   ·rfl
   ·intro i M _ _;have axy:i<20:=M;have hw:=bG (n:=(i:Int)+1) (by omega) (by omega);have e_:i<pN.1.length:=M;have pU:i<pN.2.1.length:=M;have P5:i<pN.2.2.length:=M;have g1:pN.1[i]'e_=(ki[i]'M).1:=List.getElem_map ..;have eo:pN.2.1[i]'pU=(ki[i]'M).2.1:=List.getElem_map ..;have g3:pN.2.2[i]'P5=if (ki[i]'M).2.2=true then -1 else (ki[i]'M).2.1:=List.getElem_map ..
    have ar:((0:Int)<=0/\(0:Int)<((cT x).length:Int))=True:=eq_true ⟨by decide,by omega⟩;refine ⟨?_,λ_ _=>trivial⟩;simp only [bZ,cY e_,if_true,dm e_,dm pU,dm P5,cJ e_,cJ pU,cJ P5,ar,A.bw,ct,hw,g1,eo,g3,show Int.toNat 0=0 from rfl];by_cases hc:decide ((ki[i]'M).1=(cT x).getD 0 [])=true
    ·rw [if_pos hc,if_pos hc];unfold A8;simp_all
    simp_all
   ·intro _ _;simp [pN]
 ·rfl
 ·intro i M o ag;have dt:1+i<(cT x).length:=by omega
  have hw:=bG (n:=((1+i:Nat):Int)+1) (by omega) (by omega);have aC:(cT x)[1+i]=((cT x).drop 1)[i]:=by grind
  refine ⟨?_,λbf dh=>?_⟩
  ·simp only [bZ,cY dt,if_true,dm dt,cJ dt,A.bw,ct,hw,aC];rw [show I5.sh ((cT x).drop 1)[i]=A.pure (fj ((cT x).drop 1)[i]) from rfl,A.aJ];by_cases aD:decide (fj ((cT x).drop 1)[i]<0)=true
   ·simp_all
   ·rw [if_neg aD,if_neg aD,A.bH (hV (by grind))];rfl
  grind
 simp_all
theorem P6 {s:aQ} (h:s.length<=10000):A9.sh s=A.pure (n8 s):=A.bU h _
theorem ara {k:Int} {m:Bool} {n:Nat} (ao:0<=k):A8 k m n=!(decide ((n:Int)<k)||decide ((n:Int) > k)&&!m):=by
 unfold A8;grind
theorem arb {s:aQ} {j:Nat} {l:z1'} (h:Ep s=some (j,l)):∃ p,ki[j]?=some p/\n8 s=(p.1,l,true):=by
 unfold Ep at h;have ak:=uA s;cases aw:oV ((cT s).getD 0 []) ki 0 with
 | none=>grind
 | some q=>
  obtain ⟨k,m,i⟩:=q;rw [aw] at h;simp only at h;obtain ⟨_,aH,ao⟩:=P1 aw;have lM:0<=k:=ZN _ (List.mem_of_getElem? ao);split at h
  ·grind
  ·rename_i aa;unfold IK at h;split at h
   ·rename_i ba;simp only [Option.map_some,Option.some.injEq,Prod.mk.injEq] at h;obtain ⟨rfl,rfl⟩:=h;refine ⟨_,ao,?_⟩;unfold n8;rw [if_neg,aw]
    ·simp only;rw [ara lM];have:(((cT s).drop 1).length:Int)=((cT s).length:Int) - 1:=by grind
     rw [this];grind
    grind
   grind
def Z0 (w:aQ):Bool:=decide (w=[108,101,110,100])||(decide (w=[98,97,99,107])||(decide (w=[118,111,105,100])||(decide (w=[116,114,105,97,108])||(decide (w=[115,116,111,99,107])||(decide (w=[99,111,109,101,115])||(decide (w=[112,105,101,99,101])||(decide (w=[119,105,115,104])||decide (w=[100,114,111,112]))))))))
def pO (s:aQ):Bool:=if Z0 (n8 s).1=true then !(n8 s).2.2 else true
abbrev I8:aO:=⟨.str,.str,λx=>x.length<=10000,λx=>(n8 x).1⟩
theorem arc (x):A.le (Yv A9.sh x) (I8.sh x):=A.bx λh=>by
 unfold Yv;rw [P6 h,A.aJ]
abbrev Ev:aO:=⟨.str,.bool,λx=>x.length<=10000,pO⟩
theorem ard (q dB eu kj nx s5 I9 I_ I' P7:Bool):A.bind (if dB=true then A.pure (W.next (q,dB,())) else if eu=true then A.pure (W.next (q,eu,())) else if kj=true then A.pure (W.next (q,kj,())) else if nx=true then A.pure (W.next (q,nx,())) else if s5=true then A.pure (W.next (q,s5,())) else if I9=true then A.pure (W.next (q,I9,())) else if I_=true then A.pure (W.next (q,I_,())) else if I'=true then A.pure (W.next (q,I',())) else A.pure (W.next (q,P7,()))) (W.bC λ(D:Bool×Bool×Unit)=>if D.2.1=true then A.pure !D.1 else A.pure true)=A.pure (if (dB||(eu||(kj||(nx||(s5||(I9||(I_||(I'||P7))))))))=true then !q else true):=by
 rcases Bool.eq_false_or_eq_true dB with h | h
 ·simp_all
 subst h;rcases Bool.eq_false_or_eq_true eu with h | h
 ·simp_all
 subst h;rcases Bool.eq_false_or_eq_true kj with h | h
 ·simp_all
 subst h;rcases Bool.eq_false_or_eq_true nx with h | h
 ·simp_all
 subst h;rcases Bool.eq_false_or_eq_true s5 with h | h
 ·simp_all
 subst h;rcases Bool.eq_false_or_eq_true I9 with h | h
 ·simp_all
 subst h;rcases Bool.eq_false_or_eq_true I_ with h | h
 ·simp_all
 subst h;cases I'<;>cases P7<;>simp
theorem are (x):A.le (Yu I8.sh A9.sh x) (Ev.sh x):=A.bx λh=>by
 unfold Yu;rw [P6 h,A.aJ,show I8.sh x=A.pure (n8 x).1 from A.bU h _,A.aJ];exact ard ..
theorem arf {s:aQ} (h:s.length<=10000):Ev.sh s=A.pure (pO s):=A.bU h _
theorem arh {j:Nat} (aH:Z0 (ki.getD j ([],0,false)).1=false) (d:bc) (l:z1'):(v' j d l).2=d:=by
 unfold v';split<;>first | rfl | exact absurd aH (by decide)
theorem Z1 {s:aQ} (h:pO s=true) (d:bc):(mz d s).2=d:=by
 unfold mz;split
 ·rfl
 ·rename_i j l ar;obtain ⟨p,aH,U⟩:=arb ar;refine arh ?_ d l;unfold pO at h;grind
end Go.Fer.ax
