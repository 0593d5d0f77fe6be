/- Part 6 of the proof of Replayed: shallow programs of Go functions, and what they compute. No condition. -/
import Derived.Test.YtplfnoecifjgeaaGreatDoorReplayedE
import Derived.Lib.AtoiAll
import Derived.Lib.ItoaLen
import Derived.Lib.Join
noncomputable section
set_option linter.unusedVariables false
set_option linter.unusedSimpArgs false
namespace Go.Fer
open M (aa)
theorem HP{aj:Type}{p q:aj->Bool}:∀ {l:List aj},(∀ x∈l,p x=q x)->l.all p=l.all q
 | [],_=>rfl
 | x::l,h=>by
  grind
theorem ano(x):M.le (aiV x) (b4.sh x):=M.bh λ_=>rfl
theorem anp(x):M.le (aiW b4.sh x) (oC.sh x):=M.bh λ_=>Yo x
abbrev x2:aJ:=⟨tI,cQ,λ_=>True,qk⟩
theorem anq(x):M.le (U0 b4.sh x) (x2.sh x):=M.bh λ_=>by
 unfold U0;simp only[aJ.sh,b4,M.dm,M.bg,x2,qk]
theorem anr(x):M.le (aiS b4.sh x) (pv.sh x):=M.bh λh=>Ym x.1 x.2 h
theorem ant(x):M.le (UY b4.sh x) (rj.sh x):=M.bh λh=>by
 obtain⟨w,m,k⟩:=x;change gv w at h;have:=Yn w m k h;unfold G3 at this;unfold UY;simp only[aJ.sh,AE,M.dm,M.bp h,b4,M.bg,bJ]at this ⊢;have ai:=h.2.1;have hw:=bo (n:=(w.2.1.length:Int) - 1) (by omega) (by omega);simp only[hw,ri];exact this
theorem anu(x):M.le (aiU x) (uc.sh x):=M.bh λh=>Yp x h
theorem anv(l:z1')(n:Int)(h:l.length<2 ^ 63):M0 (l,n)=M.pure (hr (λy=>decide (n=y)) l 0):=by
 unfold M0;rw[M.gg l (λi (b:Int)=>(l,n,(l.length:Int),b,())) (λy (i:Int)=>if decide (n=y)=true then (.done (.done i):aa Int (aa Unit Int)) else .next (i+1)) (λ_=>.next ()) (λi b=>b=(i:Int)) 0 ?_ ?_ ?_ ?_]
 ·rw[z7 (λy=>decide (n=y))];by_cases aU:(l.any λy=>decide (n=y))=true
  ·simp_all
  ·rw[if_neg aU,DA l 0 aU];simp
 ·rfl
 ·rfl
 ·intro i G b ab;subst ab;have hw:=bo (n:=(i:Int)+1) (by omega) (by omega);refine⟨?_,λaZ cS=>?_⟩
  ·simp only[bJ,cE G,if_true,cT G,cq G,M.bg,M.aE,b7,hw];split<;>rfl
  grind
 simp
abbrev HQ:aJ:=⟨.ax fF tI,tI,λx=>x.1.length<2 ^ 63,λx=>hr (λy=>decide (x.2=y)) x.1 0⟩
theorem anw(x):M.le (M0 x) (HQ.sh x):=M.bh λh=>anv x.1 x.2 h
theorem anx(x):M.le (UU HQ.sh x) (ox.sh x):=M.bh λh=>by
 unfold UU;simp only[aJ.sh,HQ,M.dm];rw[M.bp (by exact h),z6 _ _ _ (by omega)];grind
theorem anz(x):M.le (UZ x2.sh oC.sh x) ((⟨ko,cQ,λ_=>True,rk⟩:aJ).sh x):=M.bh λ_=>by
 unfold UZ;simp only[aJ.sh,x2,oC,M.dm,M.iN,M.bg,implies_true,vf,rk]
abbrev HR:aJ:=⟨ko,cQ,λ_=>True,rk⟩
theorem anA(x):M.le (U1 uc.sh (fcAllF tI).sh x2.sh oC.sh x) (sB.sh x):=M.bh λh=>by
 unfold U1;simp only[aJ.sh,uc,oC,fcAllF,x2,M.dm,M.iN,M.bg,implies_true,M.gp];rw[M.bp (by exact λ_=>⟨h,λy _=>⟨_,M.bF trivial _⟩⟩),M.bp (by omega)];simp only[vf,bJ];refine congrArg M.pure ?_;show _=pw x;unfold pw;grind
abbrev AI:aJ:=⟨.ax kK (.bq (.fn tSlot .bool)),cQ,λx=>∃ f,x.2=some f/\x.1.length<2 ^ 63/\∀ y∈x.1,∃ b,f y=M.pure b,λx=>decide ((x.1.length:Int)<=4)&&x.1.all λy=>((x.2.getD λ_=>M.fail) y).val false⟩
theorem anB(x):M.le (U2 (fcAllF tSlot).sh x) (AI.sh x):=M.bh λh=>by
 obtain⟨m,o⟩:=x;obtain⟨f,ar,h1,h2⟩:=h;change o=some f at ar;subst ar;unfold U2;simp only[aJ.sh,fcAllF,M.dm,M.iN,Option.getD_some];simp_all
abbrev AJ:aJ:=⟨.ax jJ (.bq kp),cQ,λx=>∃ w,x.2=some w/\gv w,λx=>sA (x.2.getD ([],[],0,[])) x.1⟩
theorem anC(x):M.le (U3 pv.sh rj.sh b4.sh x) (AJ.sh x):=M.bh λh=>by
 obtain⟨t,o⟩:=x;obtain⟨w,ar,h1⟩:=h;change o=some w at ar;subst ar;unfold U3;simp only[aJ.sh,pv,rj,b4,M.dm,M.iN,Option.getD_some,M.bp h1,h1,implies_true,M.bg,vf,AJ,sA]
theorem anD(x):M.le (UX b4.sh (fcAllF ko).sh (fcAllF kK).sh (fcAllF jJ).sh AI.sh AJ.sh HR.sh sB.sh x) (sC.sh x):=M.bh λh=>by
 have h0:gv x:=h;obtain⟨h1,h2,h3,aR⟩:=(h:gv x)
 unfold UX;have d1:∀ s,HR.sh s=M.pure (rk s):=λ_=>rfl;have d2:∀ m∈x.2.1,AI.sh (m,some sB.sh)=M.pure (ql m):=λm an=>by
  refine (M.bF ⟨_,rfl,(aR m an).1,λy aM=>⟨_,M.bF ((aR m an).2 y aM) _⟩⟩ _).trans (congrArg M.pure ?_);simp only[AI,Option.getD_some,ql,aJ.sh,M.gp];grind
 have d3:∀ t,AJ.sh (t,some x)=M.pure (sA x t):=λt=>M.bF ⟨_,rfl,h0⟩ _;have bT:(x.1.all λy=>(HR.sh y).val false)=x.1.all rk:=HP λs _=>M.gp;have a2:(x.2.1.all λy=>(AI.sh (y,some sB.sh)).val false)=x.2.1.all ql:=HP λm an=>(congrArg (λz:M Bool=>z.val false) (d2 m an)).trans M.fp;have a3:(x.2.2.2.all λy=>(AJ.sh (y,some x)).val false)=x.2.2.2.all (sA x):=HP λt _=>M.gp;have e1:∀ y,(fcAllF ko).sh y=M.du ((fcAllF ko).pre y) ((fcAllF ko).g y):=λ_=>rfl;have e2:∀ y,(fcAllF kK).sh y=M.du ((fcAllF kK).pre y) ((fcAllF kK).g y):=λ_=>rfl;have e3:∀ y,(fcAllF jJ).sh y=M.du ((fcAllF jJ).pre y) ((fcAllF jJ).g y):=λ_=>rfl;have e4:∀ y,b4.sh y=M.pure (b4.g y):=λ_=>rfl;simp only[e1,e2,e3,e4,M.dm,M.iN,M.kB,M.aE];rw[M.bp (by grind),M.bp (by grind),M.bp (by exact λ_=>⟨h3,λy _=>⟨_,d3 y⟩⟩)];simp only[vf,bJ];refine congrArg M.pure ?_;show _=kL x;rw[bT,a2,a3];unfold kL vH;grind
def oD(m:z5')(k:Int×Int×Int):Option Int:=Option.map (λx=>x.2) (List.find? (λp=>decide (k.1=p.1.1)&&(decide (k.2.1=p.1.2.1)&&decide (k.2.2=p.1.2.2))) m)
def ug(m:z4')(k:Int):Option Int:=Option.map (λx=>x.2) (List.find? (λp=>decide (k=p.1)) m)
theorem HS{a b:Int×Int×Int}:(decide (a.1=b.1)&&(decide (a.2.1=b.2.1)&&decide (a.2.2=b.2.2)))=decide (a=b):=by
 grind
theorem anE(k):oD [] k=none:=rfl
theorem Yy(k:Int×Int×Int)(v:Int)(k':Int×Int×Int):∀ m,oD (vh m k v) k'=if k'=k then some v else oD m k'
 | []=>by
  show oD [(k,v)] k'=_;by_cases h:k'=k<;>simp[oD,HS,h]
 | p::m=>by
  have aG:=Yy k v k' m;show oD (if (decide (k.1=p.1.1)&&(decide (k.2.1=p.1.2.1)&&decide (k.2.2=p.1.2.2)))=true then (p.1,v)::m else p::vh m k v) k'=_;rw[HS];by_cases h:k=p.1
  ·subst h;by_cases cZ:k'=p.1<;>simp[oD,HS,cZ]
  ·simp only[h,decide_false,Bool.false_eq_true,if_false];simp only[oD,HS,List.find?_cons]at aG ⊢;grind
theorem Yz(k v k':Int):∀ m,ug (eN m k v) k'=if k'=k then some v else ug m k'
 | []=>by
  show ug [(k,v)] k'=_;by_cases h:k'=k<;>simp[ug,h]
 | p::m=>by
  have aG:=Yz k v k' m;show ug (if decide (k=p.1)=true then (p.1,v)::m else p::eN m k v) k'=_;by_cases h:k=p.1
  ·subst h;by_cases cZ:k'=p.1<;>simp[ug,cZ]
  ·simp only[h,decide_false,Bool.false_eq_true,if_false];simp only[ug,List.find?_cons]at aG ⊢;grind
def px(t:mg):Int×Int×Int:=(t.1,t.2.1,t.2.2.1)
theorem HT{a b:mg}:mQ a b=true<->px a=px b/\a.2.2.2≠b.2.2.2:=by
 simp only[mQ,Bool.and_eq_true,decide_eq_true_eq,px,Prod.mk.injEq];omega
theorem YA(l:List mg):nI l=true<->l.Pairwise λa b=>mQ a b=false:=by
 unfold nI;rw[List.pairwise_iff_getElem];simp only[List.all_eq_true,List.mem_range,Bool.not_eq_true'];grind
def HU(m:z5')(pre:List mg):Prop:=∀ k v,oD m k=some v<->(∃ t∈pre,px t=k/\t.2.2.2=v)
def D2(m:z5')(t:mg):Bool:=Option.isSome (oD m (px t))&&decide (Option.getD (oD m (px t)) 0≠t.2.2.2)
theorem YB{m pre}(h:HU m pre)(hp:pre.Pairwise λa b=>mQ a b=false)(t:mg):D2 m t=true<->∃ a∈pre,mQ a t=true:=by
 unfold D2;cases ai:oD m (px t) with
 | none=>
  simp only[Option.isSome_none,Bool.false_and,Bool.false_eq_true,false_iff];rintro⟨a,aU,hc⟩;have:=(h (px t) a.2.2.2).2 ⟨a,aU,(HT.1 hc).1,rfl⟩;grind
 | some v=>
  simp only[Option.isSome_some,Bool.true_and,Option.getD_some,decide_eq_true_eq];obtain⟨b,ab,ao,hv⟩:=(h _ _).1 ai;constructor
  ·intro dZ;exact⟨b,ab,HT.2 ⟨ao,by omega⟩⟩
  ·rintro⟨a,aU,hc⟩ rfl;obtain⟨c1,c2⟩:=HT.1 hc;have:=(h (px t) a.2.2.2).2 ⟨a,aU,c1,rfl⟩;grind
theorem anF{m pre}(h:HU m pre){t:mg}(ab:∀ a∈pre,mQ a t=false):HU (vh m (px t) t.2.2.2) (pre++[t]):=by
 intro k v;rw[Yy];by_cases ao:k=px t
 ·rw[if_pos ao];constructor
  ·grind
  ·rintro⟨a,aU,h1,h2⟩;rcases List.mem_append.1 aU with aU | aU
   ·have hc:=ab a aU;have:¬mQ a t=true:=by grind
    rw[HT]at this;grind
   grind
 ·rw[if_neg ao,h];grind
theorem YC:∀ (bY:List mg) (m) (pre:List mg),HU m pre->(pre.Pairwise λa b=>mQ a b=false)->
  eD (λt m=>if D2 m t=true then (.done (.done 71):aa _ (aa Unit Int)) else .next (vh m (px t) t.2.2.2)) (λ_=>.next ()) bY m=if nI (pre++bY)=true then .next () else .done 71
 | [],m,pre,h,hp=>by
  have:=(YA pre).2 hp;simp[eD,this]
 | t::bY,m,pre,h,hp=>by
  simp only[eD];by_cases ab:D2 m t=true
  ·simp only[ab,if_true];obtain⟨a,aU,hc⟩:=(YB h hp t).1 ab;have:¬nI (pre++t::bY)=true:=by
    rw[YA,List.pairwise_append];grind
   grind
  ·have aA:∀ a∈pre,mQ a t=false:=λa aU=>by
    have:=λhc=>ab ((YB h hp t).2 ⟨a,aU,hc⟩);grind
   simp only[ab,Bool.false_eq_true,if_false];have BH:(pre++[t]).Pairwise λa b=>mQ a b=false:=by
    grind
   have:=YC bY _ (pre++[t]) (anF h aA) BH;grind
theorem anG(w:bc)(h:gv w):M1 sC.sh w=M.pure (cu w):=by
 have hs:=h;obtain⟨h1,h2,h3,aR⟩:=h;unfold M1;simp only[aJ.sh,sC,M.dm,M.bp hs];unfold cu;cases hw:kL w with
 | false=>simp
 | true=>
  simp only[Bool.not_true,Bool.false_eq_true,if_false,if_true];rw[M.dk w.2.2.2 (λi (m:z5')=>(w.2.2.2,(w.2.2.2.length:Int),(i:Int),m,())) (λt m=>if D2 m t=true then (.done (.done 71):aa _ (aa Unit Int)) else .next (vh m (px t) t.2.2.2)) (λ_=>.next ()) [] ?_ ?_ ?_]
  ·rw[YC w.2.2.2 [] [] (λk v=>by simp[anE]) (by simp)];simp only[List.nil_append];by_cases aH:nI w.2.2.2=true<;>simp[aH]
  ·rfl
  ·intro i G m;have hK:=bo (n:=(i:Int)+1) (by omega) (by omega);simp only[bJ,cE G,if_true,cT G,cq G,M.bg,M.aE,b7,hK];exact UK (mk:=λm=>(w.2.2.2,(w.2.2.2.length:Int),(i:Int)+1,m,()))
  simp
theorem anH(x):M.le (M1 sC.sh x) (hI.sh x):=M.bh λh=>anG x h
theorem anI(w:bc)(i n m k:Int)(hw:qn w)(G:gG w i=true)(an:iB w m k=true):U5 b4.sh ox.sh (w,i,n,m,k)=M.pure (vI w i n m k):=ank w i n m k hw G an
theorem anJ(x):M.le (U5 b4.sh ox.sh x) (fcFitsAt.sh x):=M.bh λh=>anI x.1 x.2.1 x.2.2.1 x.2.2.2.1 x.2.2.2.2 h.1 h.2.1 h.2.2
abbrev x3:aJ:=⟨.ax jJ (.ax (.bq tI) (.ax (.bq kp) (.bq tI))),cQ,λx=>∃ i w n,x.2=(some i,some w,some n)/\qn w/\gG w i=true/\iB w x.1.2.1 x.1.2.2.1=true,λx=>ue (x.2.2.1.getD ([],[],0,[])) (x.2.1.getD 0) (x.2.2.2.getD 0) x.1⟩
theorem anK(x):M.le (U4 fcFitsAt.sh x) (x3.sh x):=M.bh λh=>by
 obtain⟨t,o⟩:=x;obtain⟨i,w,n,ar,hw,G,an⟩:=h;change o=_ at ar;subst ar;unfold U4;simp only[aJ.sh,M.nJ,M.gp,Option.getD_some,and_true,true_and,and_self,imp_self,M.bg,ne_eq];by_cases aH:t.1=i
 ·have hp:qn w/\gG w i=true/\iB w t.2.1 t.2.2.1=true:=⟨hw,G,an⟩
  simp[ue,aH,hp,M.bp hp]
 ·simp[ue,aH]
def py(w:bc):List (z1'):=(List.range w.1.length).map λ(i:Nat)=>gH w (i:Int)
def fi(w:bc)(bS:Bool):Option qf×Int:=if eh w bS≠0 then (none,eh w bS) else (some (w,py w),0)
abbrev AK:aJ:=⟨.ax kp cQ,.ax (.bq (.st (.ax kp (.slice fF)))) tI,λx=>gv x.1,λx=>fi x.1 x.2⟩
theorem anL{w:bc}{i:Int}:gH w i=(dT (gh w i).2.2.1 (gh w i).2.2.2).filter λn=>w.2.2.2.all (ue w i n):=by
 unfold gH;refine List.filter_congr λn aA=>?_;rw[sc]at aA;simp[OF,aA]
theorem YD{w:bc}:∀ (l:List Nat) (acc:List (z1')),eD (λ(i:Nat) (acc:List (z1'))=>if decide (((gH w (i:Int)).length:Int)=0)=true then (.done (.done (none,(3:Int))):aa _ (aa (List HK×List (List vF)×Int×List mg×List (z1')×Unit) (Option qf×Int))) else .next (acc++[gH w (i:Int)])) (λacc=>.next (w.1,w.2.1,w.2.2.1,w.2.2.2,acc,())) l acc
  =if (l.all λ(i:Nat)=>!decide (((gH w (i:Int)).length:Int)=0))=true then .next (w.1,w.2.1,w.2.2.1,w.2.2.2,acc++l.map (λ(i:Nat)=>gH w (i:Int)),()) else .done (none,3)
 | [],acc=>by simp[eD]
 | i::l,acc=>by
  simp only[eD,List.all_cons,List.map_cons];by_cases h:((gH w (i:Int)).length:Int)=0
  ·simp[h]
  ·simp only[h,decide_false,Bool.false_eq_true,if_false,Bool.not_false,Bool.true_and];rw[YD l];simp
theorem anM(w:bc)(bS:Bool)(h:gv w):M5 hI.sh (fcAllF jJ).sh x3.sh (w,bS)=M.pure (fi w bS):=by
 unfold M5 fi eh;simp only[aJ.sh,M.dm,M.bp h];by_cases hc:cu w=0
 ·have hw:qn w:=⟨h,OG hc⟩
  have anN:=DY hw.2;simp only[hc,ne_eq,not_true,decide_false,Bool.false_eq_true,if_false];cases bS with
  | false=>simp
  | true=>
   simp only[Bool.not_true,Bool.false_eq_true,if_false,Bool.true_eq_false];rw[M.gg (List.range w.1.length) (λi (acc:List (z1'))=>(w.1,(w.1.length:Int),(i:Int),w,w.1,w.2.1,w.2.2.1,w.2.2.2,acc,())) (λ(i:Nat) (acc:List (z1'))=>if decide (((gH w (i:Int)).length:Int)=0)=true then (.done (.done (none,(3:Int))):aa _ (aa (List HK×List (List vF)×Int×List mg×List (z1')×Unit) (Option qf×Int))) else .next (acc++[gH w (i:Int)])) (λacc=>.next (w.1,w.2.1,w.2.2.1,w.2.2.2,acc,())) (λi acc=>acc.length<=i) [] ?_ ?_ ?_ ?_]
   ·rw[YD];have e:((List.range w.1.length).all λ(i:Nat)=>!decide (((gH w (i:Int)).length:Int)=0))=vJ w:=rfl;rw[e];by_cases aH:vJ w=true<;>simp[aH,py]
   ·rfl
   ·simp
   ·intro i G acc OH;have G:i<w.1.length:=by grind
    have nH:=anl G;have ai:=Ys hw.2 nH;have hK:=bo (n:=(i:Int)+1) (by omega) (by omega);have az:w.1[i]=gh w (i:Int):=by simp[gh,List.getD_eq_getElem?_getD,G]
    refine⟨?_,λaZ ab=>?_⟩
    ·simp only[bJ,cE G,if_true,cT G,cq G,M.bg,az,List.getElem_range];rw[M.gg (dT (gh w (i:Int)).2.2.1 (gh w (i:Int)).2.2.2) (λk (l:z1')=>(w.1,(w.1.length:Int),(i:Int),w,(i:Int),gh w (i:Int),l,(gh w (i:Int)).2.2.1+(k:Int),w.1,w.2.1,w.2.2.1,w.2.2.2,acc,())) (λn l=>.next (if w.2.2.2.all (ue w (i:Int) n)=true then l++[n] else l)) (λl=>.next (w.1,(w.1.length:Int),(i:Int),w,l,w.1,w.2.1,w.2.2.1,w.2.2.2,acc,())) (λk l=>l.length<=k) [] ?_ ?_ ?_ ?_]
     ·rw[dM,UI];simp only[M.aE,M.bK,List.nil_append];rw[<-anL];by_cases a_:((gH w (i:Int)).length:Int)=0
      ·simp[a_]
      ·have lv:b6 (acc.length+(0+1)):=by unfold b6;omega
       simp_all
     ·simp
     ·simp
     ·intro k ao l anO;have vq:k<1000:=by rw[xF]at ao;omega
      have rL:(gh w (i:Int)).2.2.1+(k:Int)<=(gh w (i:Int)).2.2.2:=by rw[xF]at ao;omega
      have D3:=bo (n:=(gh w (i:Int)).2.2.1+((k:Int)+1)) (by omega) (by omega);have lv:b6 (l.length+(0+1)):=by unfold b6;omega
      refine⟨?_,λaZ ab=>?_⟩
      ·have lq:∀ t∈w.2.2.2,x3.sh (t,some (i:Int),some w,some ((gh w (i:Int)).2.2.1+(k:Int)))=M.pure (ue w (i:Int) ((gh w (i:Int)).2.2.1+(k:Int)) t):=λt aH=>M.bF ⟨_,_,_,rfl,hw,nH,(anj hw.2 aH).2⟩ _;simp only[rL,decide_true,if_true,Df];rw[M.bp (by exact⟨h.2.2.1,λt aH=>⟨_,lq t aH⟩⟩)];have e:(w.2.2.2.all λy=>(M.du (x3.pre (y,some (i:Int),some w,some ((gh w (i:Int)).2.2.1+(k:Int)))) (x3.g (y,some (i:Int),some w,some ((gh w (i:Int)).2.2.1+(k:Int))))).val false)=w.2.2.2.all (ue w (i:Int) ((gh w (i:Int)).2.2.1+(k:Int))):=HP λt aH=>M.gp;rw[e];by_cases ab:w.2.2.2.all (ue w (i:Int) ((gh w (i:Int)).2.2.1+(k:Int)))=true
       ·simp only[ab,if_true,b7,jC,M.bp lv,M.aE,M.bK,D3,aa.gS,Int.natCast_add,Int.natCast_one,Int.add_assoc]
       ·simp only[ab,Bool.false_eq_true,if_false,b7,jC,M.aE,M.bK,D3,aa.gS,Int.natCast_add,Int.natCast_one,Int.add_assoc]
      grind
     ·intro l anO;have:¬(gh w (i:Int)).2.2.1+((dT (gh w (i:Int)).2.2.1 (gh w (i:Int)).2.2.2).length:Int)<=(gh w (i:Int)).2.2.2:=by rw[xF];omega
      simp only[this,decide_false,Bool.false_eq_true,if_false,M.aE]
    grind
   simp
 grind
theorem anP(x):M.le (M5 hI.sh (fcAllF jJ).sh x3.sh x) (AK.sh x):=M.bh λh=>anM x.1 x.2 h
theorem anQ(x):M.le (U6 x) (HO.sh x):=M.bh λ_=>by
 unfold U6;simp only[HN,decide_eq_true_eq];grind
theorem YE(w:bc):(py w).length=w.1.length:=by simp[py]
theorem OI{w:bc}{i:Int}(h:gG w i=true):List.getD (py w) i.toNat []=gH w i:=by
 rw[ub]at h;have:i.toNat<w.1.length:=by omega
 have e:((i.toNat:Nat):Int)=i:=by omega
 simp[py,List.getD_eq_getElem?_getD,this,e]
abbrev anR:ae:=.bq (.st (.ax kp (.slice fF)))
def anS(o:Option qf)(w:bc):Prop:=o=some (w,py w)/\qn w
abbrev HV:aJ:=⟨.ax anR (.ax tI (.ax tI tI)),tI,λx=>∃ w,anS x.1 w/\gG w x.2.1=true/\iB w x.2.2.1 x.2.2.2=true,λx=>uf ((x.1.getD (([],[],0,[]),[])).1) x.2.1 x.2.2.1 x.2.2.2⟩
theorem anT(w:bc)(i m k:Int)(hw:qn w)(G:gG w i=true)(an:iB w m k=true):M6 fcFitsAt.sh HO.sh (some (w,py w),i,m,k)=M.pure (uf w i m k):=by
 unfold M6;have lv:=Yt hw G;have bX:0<=i/\i<((py w).length:Int):=by rw[YE];exact ub.1 G
 simp only[Option.isSome_some,Option.getD_some,M.bg,bJ,OI G,M.bp bX];rw[M.gg (gH w i) (λj (n:Int)=>(some (w,py w),i,m,k,n,gH w i,((gH w i).length:Int),(j:Int),())) (λx n=>.next (if vI w i x m k=true then n+1 else n)) (λn=>.next (some (w,py w),i,n,())) (λj n=>0<=n/\n<=(j:Int)) 0 ?_ ?_ ?_ ?_]
 ·rw[dM,Yv];simp only[M.aE,M.bK,Option.isSome_some,Option.getD_some,M.bg,M.bp bX,OI G,aJ.sh,M.dm,Int.zero_add];rfl
 ·rfl
 ·simp
 ·intro j aC n aA;have anU:=bo (n:=(j:Int)+1) (by omega) (by omega);have AL:=bo (n:=n+1) (by omega) (by omega);have hp:qn w/\gG w i=true/\iB w m k=true:=⟨hw,G,an⟩
  refine⟨?_,λaZ ab=>?_⟩
  ·simp only[cE aC,if_true,cT aC,cq aC,M.bg,Option.isSome_some,Option.getD_some,aJ.sh,M.dm,M.bp hp,b7,AL];cases vI w i (gH w i)[j] m k<;>simp[anU]
  grind
 simp
theorem anV(x):M.le (M6 fcFitsAt.sh HO.sh x) (HV.sh x):=M.bh λh=>by
 obtain⟨o,i,m,k⟩:=x;obtain⟨w,⟨ar,hw⟩,G,an⟩:=h;change o=_ at ar;subst ar;exact anT w i m k hw G an
theorem YF{w:bc}{bS:Bool}(h:eh w bS=0):fi w bS=(some (w,py w),0):=by simp[fi,h]
theorem YG{w:bc}{bS:Bool}(h:eh w bS≠0):fi w bS=(none,eh w bS):=by simp[fi,h]
theorem anW(w:bc)(i:Int)(h:gv w):M2 AK.sh pv.sh (w,i)=M.pure (vK w i):=by
 unfold M2 vK;simp only[aJ.sh,M.nJ,M.gp,h,M.bg];by_cases ao:eh w (gG w i)=0
 ·have hw:=Yu h ao;have G:=(DZ ao).2.1;have hp:=anm (DZ ao).2.2 G;have lv:=Yt hw G;have hK:=bo (n:=((gH w i).length:Int) - 1) (by omega) (by omega);have e1:(((gH w i).length:Int) - 1).toNat=(gH w i).length - 1:=by omega
  have r':0<=i/\i<((py w).length:Int):=by rw[YE];exact ub.1 G
  have bX:(0:Int)<=0/\(0:Int)<((gH w i).length:Int):=by omega
  have cn:(0:Int)<=((gH w i).length:Int) - 1/\((gH w i).length:Int) - 1<((gH w i).length:Int):=by omega
  simp only[YF ao,ao,ne_eq,not_true,decide_false,Bool.false_eq_true,if_false,Option.isSome_some,Option.getD_some,M.bg,bJ,OI G,M.bp r',hK,e1,M.bp cn];simp_all
 ·simp[YG ao,ao]
theorem anX(x):M.le (M2 AK.sh pv.sh x) (x1.sh x):=M.bh λh=>anW x.1 x.2 h
theorem anY(w:bc)(i m k:Int)(h:gv w):M3 AK.sh pv.sh rj.sh HV.sh (w,i,m,k)=M.pure (qo w i m k):=by
 unfold M3 qo;simp only[aJ.sh,M.nJ,M.gp,h,M.bg,and_true,and_self,imp_self,true_and];by_cases ao:eh w (gG w i&&iB w m k)=0
 ·have hw:=Yu h ao;have G:=(DZ ao).2.1;simp only[Bool.and_eq_true]at G;simp only[YF ao,ao,ne_eq,not_true,decide_false,Bool.false_eq_true,if_false,M.dm];rw[M.bp (by exact⟨w,⟨rfl,hw⟩,G.1,G.2⟩)];rfl
 ·simp[YG ao,ao]
theorem anZ(x):M.le (M3 AK.sh pv.sh rj.sh HV.sh x) (AH.sh x):=M.bh λh=>anY x.1 x.2.1 x.2.2.1 x.2.2.2 h
theorem OJ{n:Int}(h1:0<=n)(h2:n<18446744073709551616):IntKind.u64.wrap n=n:=by
 show (if (false&&decide (n % 2 ^ 64>=(2 ^ (64 - 1):Int)))=true then n % 2 ^ 64 - 2 ^ 64 else n % 2 ^ 64)=n;grind
theorem OK:∀ (n:Nat) (l:z1'),l.Nodup->(∀ x∈l,0<=x/\x<(n:Int))->l.length<=n
 | 0,l,_,h=>by
  cases l with
  | nil=>simp
  | cons x l=>have:=h x (by simp);omega
 | n+1,l,aA,h=>by
  have h2:=OK n (l.erase (n:Int)) (aA.erase _) λx hx=>by
   grind
  grind
def an0(l:z1'):Prop:=∀ x∈l,0<=x/\x<16
def YH(l:z1'):Prop:=l.Nodup/\an0 l
theorem YH.len{l:z1'}(h:YH l):l.length<=16:=OK 16 l h.1 h.2
theorem M.an1{A aF:Type}{body:A->M (aa A aF)}{p:aF->Prop}{s0:A}(n:Nat)(I:Nat->A->Prop)(h0:I 0 s0)
  (hs:∀ i,i<n->∀ s,I i s->M.b_ (body s) λst=>match st with | .next s'=>I (i+1) s' | .done r=>p r)
  (ar:∀ s,I n s->M.b_ (body s) λst=>match st with | .next _=>False | .done r=>p r):M.b_ (M.loop body s0) p:=by
 have key:∀ k i s,n - i=k->i<=n->I i s->M.b_ (M.loop body s) p:=by
  intro k;induction k with
  | zero=>
   intro i s ao G h;have:i=n:=by omega
   subst this;rw[M.Bj,M.fG];refine (ar s h).mono λy aM=>?_;cases y with
   | next s'=>grind
   | done r=>exact M.dE.2 aM
  | succ k aG=>
   intro i s ao G h;rw[M.Bj,M.fG];refine (hs i (by omega) s h).mono λy aM=>?_;cases y with
   | next s'=>grind
   | done r=>exact M.dE.2 aM
 grind
def OL(x:Int×Int):Int:=IntKind.wrap .u64
 (Add.add (IntKind.wrap .u64 (Add.add (IntKind.wrap .u64 (iV .u64 x.1 32*iV .u64 x.2 32)) (iV .u64 (IntKind.wrap .u64 (Add.add (IntKind.wrap
 .u64 (iV .u64 x.1 32*lk .u64 x.2 4294967295)) (iV .u64 (IntKind.wrap .u64 (lk .u64 x.1 4294967295*lk .u64 x.2 4294967295)) 32))) 32)))
 (iV .u64 (IntKind.wrap .u64 (Add.add (lk .u64 (IntKind.wrap .u64 (Add.add (IntKind.wrap .u64 (iV .u64 x.1 32*lk .u64 x.2 4294967295)) (iV
 .u64 (IntKind.wrap .u64 (lk .u64 x.1 4294967295*lk .u64 x.2 4294967295)) 32))) 4294967295) (IntKind.wrap .u64 (lk .u64 x.1 4294967295*iV
 .u64 x.2 32)))) 32))
def HW:Nat->Bool
 | 0=>true
 | n+1=>decide (OL (1,(n:Int))=0)&&HW n
theorem YI:∀ (N n:Nat),HW N=true->n<N->OL (1,(n:Int))=0
 | 0,n,_,h=>by omega
 | N+1,n,hc,h=>by
  simp only[HW,Bool.and_eq_true,decide_eq_true_eq]at hc;by_cases e:n=N
  ·grind
  ·exact YI N n hc.2 (by omega)
def OM(work:z1')(s:Int):z1':=((List.range work.length).filter λj=>decide (work.getD j 0=s)).map λ(j:Nat)=>(j:Int)
theorem an2{aj β aF:Type}{f:aj->β->aa β aF}{fin:β->aF}(I:Nat->β->Prop)(Q:aF->Prop)(l:List aj)(b:β)(h0:I 0 b)
  (hs:∀ i (h:i<l.length) b,I i b->match f l[i] b with | .next aZ=>I (i+1) aZ | .done r=>Q r) (ar:∀ b,I l.length b->Q (fin b)):Q (eD f fin l b):=by
 have key:∀ (k:Nat) (r:List aj) (b:β),k<=l.length->r=l.drop k->I k b->Q (eD f fin r b):=by
  intro k r;induction r generalizing k with
  | nil=>
   intro b ao V ee;have:k=l.length:=by have:=congrArg List.length V;grind
   subst this;exact ar b ee
  | cons x r aG=>
   intro b ao V ee;have bZ:k<l.length:=by
    grind
   rw[List.drop_eq_getElem_cons bZ]at V;injection V with hx V
   have h1:=hs k bZ b ee;rw[<-hx]at h1;simp only[eD];grind
 grind
def cx(m:z4')(k:Int):Int:=(ug m k).getD 0
theorem an3(m:z4')(k:Int):Option.getD (Option.map (λx=>x.2) (List.find? (λp=>decide (k=p.1)) m)) 0=cx m k:=rfl
theorem AM(k v k':Int)(m:z4'):cx (eN m k v) k'=if k'=k then v else cx m k':=by
 unfold cx;rw[Yz];grind
def rl(n:Nat)(m:z4'):Nat:=(List.range n).countP λ(s:Nat)=>decide (cx m (s:Int)=0)
theorem YJ{p q:Nat->Bool}{s:Nat}(h:∀ x,x≠s->p x=q x)(hp:p s=true)(be:q s=false):∀ (l:List Nat),l.Nodup->s∈l->l.countP p=l.countP q+1
 | [],_,hs=>by cases hs
 | x::l,aA,hs=>by
  rw[List.nodup_cons]at aA;rw[List.countP_cons,List.countP_cons];by_cases e:x=s
  ·subst e;have:l.countP p=l.countP q:=List.countP_congr λy aM=>by
    grind
   grind
  ·have:=YJ h hp be l aA.2 (by grind);grind
theorem YK{n:Nat}{m:z4'}{s v:Int}(h0:0<=s)(aA:s<(n:Int))(an:cx m s=0)(hv:v≠0):rl n m=rl n (eN m s v)+1:=by
 unfold rl;refine YJ (s:=s.toNat) (λx hx=>?_) ?_ ?_ _ List.nodup_range (by grind)
 ·rw[AM,if_neg (by omega)]
 ·grind
 ·rw[AM,if_pos (by omega)];grind
theorem YL{n:Nat}{a b:z4'}(h:∀ k,0<=cx a k/\cx a k<=cx b k):rl n b<=rl n a:=by
 unfold rl;refine List.countP_mono_left λx _ hx=>?_;grind
abbrev kM:=z1'×z4'
def aa.uh{β aF ja:Type}(g:aF->ja):aa β aF->aa β ja
 | .next b=>.next b
 | .done r=>.done (g r)
def x4{aj β aF:Type}(f:aj->β->aa β aF):List aj->β->aa β aF
 | [],b=>.next b
 | x::l,b=>match f x b with
  | .next aZ=>x4 f l aZ
  | .done r=>.done r
def aa.fin{β aF:Type}(n:β->aF):aa β aF->aF
 | .next b=>n b
 | .done r=>r
theorem ON{aj β aF:Type}{f:aj->β->aa β aF}{n:β->aF}:∀ (l:List aj) (b:β),eD f n l b=aa.fin n (x4 f l b)
 | [],b=>rfl
 | x::l,b=>by
  simp only[eD,x4];cases f x b with
  | next aZ=>exact ON l aZ
  | done r=>rfl
theorem YM{aj β aF ja:Type}{f:aj->β->aa β aF}{g:aF->ja}:∀ (l:List aj) (b:β),x4 (λx b=>aa.uh g (f x b)) l b=aa.uh g (x4 f l b)
 | [],b=>rfl
 | x::l,b=>by
  simp only[x4];cases f x b with
  | next aZ=>exact YM l aZ
  | done r=>rfl
def an4(w:bc):Prop:=w.1.length<=2000000/\w.2.1.length<=2000000/\w.2.2.2.length<=2000000/\∀ m∈w.2.1,m.length<=2000000/\∀ s∈m,s.2.1.length<=2000000
def x5(m:List (Int×z1'×Int×Int)):Bool:=decide ((m.length:Int) > 20)||m.any λs=>decide ((s.2.1.length:Int) > 20)
def lM(w:bc):Bool:=
 if (decide ((w.1.length:Int) > 40)||decide ((w.2.1.length:Int) > 40)||decide ((w.2.2.2.length:Int) > 60))=true then true
 else if w.2.1.any x5=true then true
 else if cu w≠0 then false
 else if (w.1.any λs=>decide (IntKind.i64.wrap (s.2.2.2 - s.2.2.1)>=50))=true then true
 else decide ((w.1.length:Int) > 6)||decide ((w.2.1.length:Int) > 4)||decide ((w.2.2.2.length:Int) > 10)
abbrev vA:aJ:=⟨kp,cQ,gv,lM⟩
theorem an5(w:bc)(h:gv w):M8 hI.sh w=M.pure (lM w):=by
 unfold M8 lM;simp only[bJ];by_cases h1:(decide ((w.1.length:Int) > 40)||decide ((w.2.1.length:Int) > 40)||decide ((w.2.2.2.length:Int) > 60))=true
 ·grind
 ·rw[if_neg h1,if_neg h1];have ai:=h;obtain⟨c_,q2,q3,ui⟩:=h;rw[M.dk w.2.1 (λi (_:Unit)=>((i:Int),w,())) (λm u=>if x5 m=true then .done (.done true) else .next u) (λ_=>.next (w,())) () ?_ ?_ ?_]
  ·rw[q9];by_cases h2:w.2.1.any x5=true
   ·simp only[h2,if_true,M.aE,M.pb]
   ·simp only[h2,Bool.false_eq_true,if_false,M.aE,M.bK,aJ.sh,M.dm,M.bp ai];by_cases h3:cu w=0
    ·simp only[h3,ne_eq,not_true,decide_false,Bool.false_eq_true,if_false];rw[M.dk w.1 (λi (_:Unit)=>((i:Int),w,())) (λs u=>if decide (IntKind.i64.wrap (s.2.2.2 - s.2.2.1)>=50)=true then .done (.done true) else .next u) (λ_=>.next (w,())) () ?_ ?_ ?_]
     ·rw[q9];by_cases aR:(w.1.any λs=>decide (IntKind.i64.wrap (s.2.2.2 - s.2.2.1)>=50))=true
      ·simp_all
      ·simp only[aR,Bool.false_eq_true,if_false,M.aE,M.bK]
     ·rfl
     ·intro i G u;have k_:=bo (n:=(i:Int)+1) (by omega) (by omega);simp only[bJ,cE G,if_true,cq G,M.bg,cT G,M.aE,b7,k_];exact mI (mk:=λ_:Unit=>((i:Int)+1,w,()))
     simp
    grind
  ·rfl
  ·intro i G u;have k_:=bo (n:=(i:Int)+1) (by omega) (by omega);have an:=ui _ (List.getElem_mem G);simp only[bJ,cE G,if_true,cq G,M.bg,cT G,M.aE];by_cases bw:decide ((w.2.1[i].length:Int) > 20)=true
   ·have ar:x5 w.2.1[i]=true:=by unfold x5;grind
    simp_all
   ·have ar:x5 w.2.1[i]=w.2.1[i].any λs=>decide ((s.2.1.length:Int) > 20):=by unfold x5;grind
    rw[if_neg bw];rw[M.dk w.2.1[i] (λk (_:Unit)=>((i:Int),(k:Int),w,())) (λs u=>if decide ((s.2.1.length:Int) > 20)=true then .done (.done (.done (.done true))) else .next u) (λ_=>.next ((i:Int),w,())) () ?_ ?_ ?_]
    ·rw[q9,ar];by_cases cY:(w.2.1[i].any λs=>decide ((s.2.1.length:Int) > 20))=true
     ·simp_all
     ·simp only[cY,Bool.false_eq_true,if_false,M.aE,M.bK,b7,k_];rfl
    ·rfl
    ·intro k ao u;have mf:=bo (n:=(k:Int)+1) (by omega) (by omega);simp only[cq G,M.bg,cT G,cE ao,if_true,cq ao,cT ao,M.aE,b7,mf];exact mI (mk:=λ_:Unit=>((i:Int),(k:Int)+1,w,()))
    simp_all
  simp
theorem an6(x):M.le (M8 hI.sh x) (vA.sh x):=M.bh λh=>an5 x h
def HX:bc:=([(1,2,300,310),(1,3,305,305),(2,1,50,60),(1,2,320,330)],[[(1,[2,3],300,306),(2,[1],40,58)],[(1,[2],310,326)]],5,[(0,1,0,0)])
abbrev OO:aJ:=⟨.cy,kp,λ_=>True,λ_=>HX⟩
theorem an7(x):M.le (ai0 x) (OO.sh x):=M.bh λ_=>rfl
theorem an8:gv HX:=by
 refine⟨by decide,by decide,by decide,?_⟩;intro m an;simp only[HX,List.mem_cons,List.not_mem_nil,or_false]at an;grind
abbrev mR:ae:=.st (.ax tI (.ax tI (.ax tI (.ax tI fF))))
abbrev tWi:ae:=.st (.ax fF (.ax mc (.ax tI (.ax tI tI))))
abbrev pz:ae:=.st (.ax tI (.ax tI tI))
abbrev lN:ae:=.st (.ax kp (.ax fF (.ax (.slice mR) (.ax (.slice tWi) (.ax (.slice pz) tI)))))
def e'(s:br):Prop:=gv s.1/\s.2.1.length<2 ^ 63/\s.2.2.1.length<2 ^ 63/\s.2.2.2.1.length<2 ^ 63/\s.2.2.2.2.1.length<2 ^ 63/\(∀ p∈s.2.2.1,p.2.2.2.2.length<2 ^ 63)/\∀ x∈s.2.2.2.1,x.1.length<2 ^ 63
def bM(n lo G:Int):Bool:=decide (lo<=n)&&decide (n<=G)
def jK(n:Int):Bool:=bM n 0 99
def jL(p:Int->Bool)(l:z1'):Bool:=(List.range l.length).all λi=>p (l.getD i 0)&&!(decide (0<i)&&decide (l.getD i 0<=l.getD (i - 1) 0))
def D4(w:bc)(m:Int)(n:Int):Bool:=decide (0<=n)&&decide (n<((ji w m).length:Int))
def pA(w:bc)(p:da):Bool:=jK p.1&&jK p.2.1&&jK p.2.2.1&&nN w p.2.2.2.1&&jL (D4 w p.2.2.2.1) p.2.2.2.2
def oE(x:dq):Bool:=bM (x.1.length:Int) 1 8&&jL jK x.1&&jK x.2.1.1&&jK x.2.1.2&&decide (x.2.1.1<=x.2.1.2)&&jK x.2.2.1&&jK x.2.2.2.1&&bM x.2.2.2.2 0 100000
def oF(w:bc)(d:Dm):Bool:=jK d.1&&gG w d.2.1&&bM d.2.2 1 10
def mS(s:br):Bool:=decide ((s.2.1.length:Int)=(s.1.1.length:Int))&&(s.2.1.all λn=>bM n 0 10)&&decide ((s.2.2.1.length:Int)<=8)&&s.2.2.1.all (pA s.1)&&decide ((s.2.2.2.1.length:Int)<=6)&&s.2.2.2.1.all oE&&decide ((s.2.2.2.2.1.length:Int)<=8)&&s.2.2.2.2.1.all (oF s.1)&&jK s.2.2.2.2.2
def iR(s:br):Int:=if cu s.1≠0 then cu s.1 else if mS s=true then 0 else 80
theorem an9(x):M.le (ajk x) (b4.sh x):=M.bh λ_=>rfl
theorem an_(x):M.le (aje x) (b4.sh x):=M.bh λ_=>rfl
abbrev fcHund:aJ:=⟨tI,cQ,λ_=>True,jK⟩
theorem an'(x):M.le (Vn b4.sh x) (fcHund.sh x):=M.bh λ_=>by
 unfold Vn;simp[aJ.sh,b4,jK,bM]
theorem aoa(x):M.le (Vr b4.sh x) (fcHund.sh x):=M.bh λ_=>by
 unfold Vr;simp[aJ.sh,b4,jK,bM]
abbrev fcRising:aJ:=⟨.ax fF (.fn tI .bool),cQ,λx=>x.1.length<2 ^ 63/\∀ y∈x.1,∃ b,x.2 y=M.pure b,λx=>jL (λy=>(x.2 y).val false) x.1⟩
theorem aob(x):M.le (Vo x) (fcRising.sh x):=M.bh λh=>by
 obtain⟨l,f⟩:=x;obtain⟨h1,h2⟩:=h;change l.length<2 ^ 63 at h1;change ∀ y∈l,∃ b,f y=M.pure b at h2;unfold Vo;rw[M.dk (List.range l.length) (λi (_:Unit)=>(l,f,l,(l.length:Int),(i:Int),())) (λi b=>if (!((f (l.getD i 0)).val false&&!(decide (0<i)&&decide (l.getD i 0<=l.getD (i - 1) 0))))=true then .done (.done false) else .next b) (λ_=>.next ()) () ?_ ?_ ?_]
 ·rw[kC (q:=λi=>(f (l.getD i 0)).val false&&!(decide (0<i)&&decide (l.getD i 0<=l.getD (i - 1) 0))) _ _ (λ_=>rfl)];show _=M.pure (jL (λy=>(f y).val false) l);unfold jL;cases (List.range l.length).all λi=>(f (l.getD i 0)).val false&&!(decide (0<i)&&decide (l.getD i 0<=l.getD (i - 1) 0))<;>simp
 ·rfl
 ·intro i G b;have G:i<l.length:=by grind
  have hw:=bo (n:=(i:Int)+1) (by omega) (by omega);have gA:=bo (n:=(i:Int) - 1) (by omega) (by omega);have e2:((i:Int) - 1).toNat=i - 1:=by omega
  obtain⟨c,hc⟩:=h2 _ (List.getElem_mem G);have jf:l.getD i 0=l[i]:=by grind
  have ep:(decide ((i:Int) > 0))=decide (0<i):=by simp
  simp only[bJ,cE G,if_true,List.getElem_range,cT G,cq G,M.bg,jf,hc,M.fp,M.aE,b7,hw,gA,e2,ep];rw[M.bp (by grind)];cases c<;>cases (decide (0<i)&&decide (l[i]<=l.getD (i - 1) 0))<;>rfl
 simp
abbrev HY:aJ:=⟨.ax fF tI,cQ,λx=>x.1.length<2 ^ 63,λx=>jL (λn=>bM n 0 x.2) x.1⟩
theorem aoc(x):M.le (Vu x) (HY.sh x):=M.bh λh=>by
 obtain⟨l,m⟩:=x;change l.length<2 ^ 63 at h;unfold Vu;rw[M.dk (List.range l.length) (λi (_:Unit)=>(l,m,(i:Int),())) (λi b=>if (!(bM (l.getD i 0) 0 m&&!(decide (0<i)&&decide (l.getD i 0<=l.getD (i - 1) 0))))=true then .done (.done false) else .next b) (λ_=>.next ()) () ?_ ?_ ?_]
 ·rw[kC (q:=λi=>bM (l.getD i 0) 0 m&&!(decide (0<i)&&decide (l.getD i 0<=l.getD (i - 1) 0))) _ _ (λ_=>rfl)];show _=M.pure (jL (λn=>bM n 0 m) l);unfold jL;cases (List.range l.length).all λi=>bM (l.getD i 0) 0 m&&!(decide (0<i)&&decide (l.getD i 0<=l.getD (i - 1) 0))<;>simp
 ·rfl
 ·intro i G b;have G:i<l.length:=by grind
  have hw:=bo (n:=(i:Int)+1) (by omega) (by omega);have gA:=bo (n:=(i:Int) - 1) (by omega) (by omega);have e2:((i:Int) - 1).toNat=i - 1:=by omega
  have jf:l.getD i 0=l[i]:=by grind
  have ep:(decide ((i:Int) > 0))=decide (0<i):=by simp
  simp only[bJ,cE G,if_true,List.getElem_range,cT G,cq G,M.bg,jf,M.aE,b7,hw,gA,e2,ep];have r':0<i->(0:Int)<=(i:Int) - 1/\(i:Int) - 1<(l.length:Int):=by omega
  generalize l.getD (i - 1) 0=B;generalize l[i]=aI;by_cases h5:aI<0<;>by_cases tm:aI > m<;>by_cases h0:0<i<;>by_cases aN:aI<=B<;>simp_all[bM,aa.gS,M.bp]<;>(grind)<;>(grind)
 simp
theorem OP{p q:Int->Bool}{l:z1'}(h:∀ y∈l,p y=q y):jL p l=jL q l:=by
 unfold jL;grind
theorem aod(n:Int)(k:Nat):bM n 0 ((k:Int) - 1)=(decide (0<=n)&&decide (n<(k:Int))):=by
 unfold bM;grind
theorem aoe(a b:Int):decide (a > b)=!decide (a<=b):=by grind
abbrev D5:aJ:=⟨.ax tI (.ax (.bq kp) (.bq mR)),cQ,λx=>∃ w p,x.2=(some w,some p)/\gv w/\nN w p.2.2.2.1=true,λx=>D4 (x.2.1.getD ([],[],0,[])) (x.2.2.getD (0,0,0,0,[])).2.2.2.1 x.1⟩
theorem aof(x):M.le (Vp b4.sh x) (D5.sh x):=M.bh λh=>by
 obtain⟨n,o⟩:=x;obtain⟨w,p,ar,hw,an⟩:=h;change o=_ at ar;subst ar;unfold Vp;have r:=HL.1 an;have ai:=HM hw p.2.2.2.1;have hK:=bo (n:=((ji w p.2.2.2.1).length:Int) - 1) (by omega) (by omega);unfold ji at hK;simp only[aJ.sh,b4,Option.getD_some,bJ,r,and_self,M.bg,hK,M.dm,ri];rfl
abbrev D6:aJ:=⟨.ax mR (.bq kp),cQ,λx=>x.1.2.2.2.2.length<2 ^ 63/\∃ w,x.2=some w/\gv w,λx=>!pA (x.2.getD ([],[],0,[])) x.1⟩
theorem aog(x):M.le (Vm b4.sh fcHund.sh fcRising.sh D5.sh x) (D6.sh x):=M.bh λh=>by
 obtain⟨p,o⟩:=x;obtain⟨hp,w,ar,hw⟩:=h;change o=_ at ar;change p.2.2.2.2.length<2 ^ 63 at hp;subst ar;unfold Vm;have ai:=hw.2.1;have hK:=bo (n:=((w.2.1.length:Int)) - 1) (by omega) (by omega);have e1:(decide (0<=p.2.2.2.1)&&decide (p.2.2.2.1<(w.2.1.length:Int)))=nN w p.2.2.2.1:=rfl;simp only[aJ.sh,b4,Option.getD_some,bJ,M.bg,hK,M.dm,M.iN,ri,implies_true,qe,e1];have key:nN w p.2.2.2.1=true->(jL (λy=>(M.du (D5.pre (y,some w,some p)) (D5.g (y,some w,some p))).val false) p.2.2.2.2)=jL (D4 w p.2.2.2.1) p.2.2.2.2:=λan=>OP λy aM=>M.gp;rw[M.bp]
 ·show M.pure _=M.pure _;congr 1;show _=!pA w p;unfold pA;simp
 ·intro cz;have an:nN w p.2.2.2.1=true:=by
   grind
  exact⟨hp,λy aM=>⟨_,M.bF ⟨w,p,rfl,hw,an⟩ _⟩⟩
abbrev D7:aJ:=⟨tWi,cQ,λx=>x.1.length<2 ^ 63,λx=>!oE x⟩
theorem aoh(x):M.le (Vq b4.sh fcHund.sh fcRising.sh fcHund.sh x) (D7.sh x):=M.bh λh=>by
 unfold Vq;have key:(jL (λy=>(M.du (fcHund.pre y) (fcHund.g y)).val false) x.1)=jL jK x.1:=OP λy aM=>M.gp;simp only[aJ.sh,b4,bJ,M.bg,M.dm,M.iN,implies_true,qe];rw[M.bp]
 ·show M.pure _=M.pure (!oE x);congr 1;unfold oE;rw[key];have e:decide (x.2.1.1 > x.2.1.2)=!decide (x.2.1.1<=x.2.1.2):=by grind
  rw[e];show _=!(bM (x.1.length:Int) 1 8&&_&&_&&_&&_&&_&&_&&_);unfold bM;simp
 ·exact λ_=>⟨h,λy aM=>⟨_,M.bF trivial _⟩⟩
abbrev D8:aJ:=⟨.ax pz (.bq kp),cQ,λx=>∃ w,x.2=some w/\gv w,λx=>!oF (x.2.getD ([],[],0,[])) x.1⟩
theorem aoi(x):M.le (Vs b4.sh fcHund.sh x) (D8.sh x):=M.bh λh=>by
 obtain⟨d,o⟩:=x;obtain⟨w,ar,hw⟩:=h;change o=_ at ar;subst ar;unfold Vs;have ai:=hw.1;have hK:=bo (n:=((w.1.length:Int)) - 1) (by omega) (by omega);simp only[aJ.sh,b4,Option.getD_some,bJ,M.bg,hK,M.dm,M.iN,ri,implies_true,qe];show M.pure _=M.pure (!oF w d);congr 1;unfold oF gG bM;simp
abbrev D9:aJ:=⟨tI,cQ,λ_=>True,λn=>!bM n 0 10⟩
theorem aoj(x):M.le (Vt b4.sh x) (D9.sh x):=M.bh λ_=>by
 unfold Vt;simp[aJ.sh,b4,bM]
theorem HZ{aj:Type}{p q:aj->Bool}{l:List aj}(h:∀ x∈l,p x=!q x):l.any p=!l.all q:=by
 grind
abbrev OQ:aJ:=⟨lN,cQ,e',mS⟩
theorem aok(x):M.le (Vf fcHund.sh (iO tI).sh (iO mR).sh (iO tWi).sh (iO pz).sh D6.sh D8.sh D7.sh D9.sh x) (OQ.sh x):=M.bh λh=>by
 obtain⟨h1,h2,h3,aR,bw,cY,fK⟩:=h;unfold Vf;simp only[aJ.sh,bJ,M.bg,M.dm,M.iN,implies_true];have aO:(x.2.1.any λy=>(M.du (D9.pre y) (D9.g y)).val false)=!x.2.1.all λn=>bM n 0 10:=HZ λy _=>M.gp;have aP:(x.2.2.1.any λy=>(M.du (D6.pre (y,some x.1)) (D6.g (y,some x.1))).val false)=!x.2.2.1.all (pA x.1):=HZ λy _=>M.gp;have bA:(x.2.2.2.1.any λy=>(M.du (D7.pre y) (D7.g y)).val false)=!x.2.2.2.1.all oE:=HZ λy _=>M.gp;have ga:(x.2.2.2.2.1.any λy=>(M.du (D8.pre (y,some x.1)) (D8.g (y,some x.1))).val false)=!x.2.2.2.2.1.all (oF x.1):=HZ λy _=>M.gp;rw[M.bp,M.bp,M.bp,M.bp]
 ·show M.pure _=M.pure (mS x);congr 1;unfold mS;grind
 ·exact λ_=>⟨bw,λy aM=>⟨_,M.bF ⟨_,rfl,h1⟩ _⟩⟩
 ·exact λ_=>⟨aR,λy aM=>⟨_,M.bF (fK y aM) _⟩⟩
 ·exact λ_=>⟨h3,λy aM=>⟨_,M.bF ⟨cY y aM,_,rfl,h1⟩ _⟩⟩
 ·exact λ_=>⟨h2,λy aM=>⟨_,M.bF trivial _⟩⟩
abbrev pB:aJ:=⟨lN,tI,e',iR⟩
theorem aol(x):M.le (U_ hI.sh OQ.sh x) (pB.sh x):=M.bh λh=>by
 unfold U_;simp only[aJ.sh,M.dm,M.bp h.1];show _=M.pure (iR x);unfold iR;by_cases hc:cu x.1=0
 ·simp only[hc,ne_eq,not_true,decide_false,Bool.false_eq_true,if_false,M.bp h];grind
 grind
abbrev H0:aJ:=⟨.ax lN mR,cQ,λx=>e' x.1/\x.2.2.2.2.2.length<2 ^ 63,λx=>pA x.1.1 x.2⟩
theorem aom(x):M.le (Vg b4.sh HY.sh x) (H0.sh x):=M.bh λh=>by
 obtain⟨s,p⟩:=x;obtain⟨hs,hp⟩:=h;change e' s at hs;change p.2.2.2.2.length<2 ^ 63 at hp;unfold Vg;have ai:=hs.1.2.1;have fS:=HM hs.1 p.2.2.2.1;have hK:=bo (n:=((s.1.2.1.length:Int)) - 1) (by omega) (by omega);have D3:=bo (n:=((ji s.1 p.2.2.2.1).length:Int) - 1) (by omega) (by omega);unfold ji at D3;have e1:(decide (0<=p.2.2.2.1)&&decide (p.2.2.2.1<(s.1.2.1.length:Int)))=nN s.1 p.2.2.2.1:=rfl;simp only[aJ.sh,b4,bJ,M.bg,hK,D3,M.dm,M.iN,ri,implies_true,qe,e1,M.nJ,M.gp];show _=M.pure (pA s.1 p);unfold pA;have er:jL (λn=>bM n 0 (((List.getD s.1.2.1 (Int.toNat p.2.2.2.1) []).length:Int) - 1)) p.2.2.2.2=jL (D4 s.1 p.2.2.2.1) p.2.2.2.2:=OP λy _=>aod y _;rw[er];cases an:nN s.1 p.2.2.2.1
 ·simp
 ·have r:=HL.1 an;rw[M.bp r,M.bp (by exact hp)];unfold jK bM;grind
abbrev H2:aJ:=⟨tWi,cQ,λx=>x.1.length<2 ^ 63,oE⟩
theorem aon(x):M.le (Vh b4.sh HY.sh x) (H2.sh x):=M.bh λh=>by
 unfold Vh;simp only[aJ.sh,b4,bJ,M.bg,M.dm,M.iN,implies_true];rw[M.bp (by omega)];show M.pure _=M.pure (oE x);congr 1;unfold oE;have er:jL (λn=>bM n 0 99) x.1=jL jK x.1:=rfl;rw[er];unfold jK bM;grind
theorem aoo(x):M.le (U' hI.sh b4.sh H0.sh H2.sh x) (pB.sh x):=M.bh λh=>by
 have hs:=h;obtain⟨h1,h2,h3,aR,bw,cY,fK⟩:=h;unfold U';simp only[aJ.sh,M.dm,M.bp h1];show _=M.pure (iR x);unfold iR;by_cases hc:cu x.1=0
 ·simp only[hc,ne_eq,not_true,decide_false,Bool.false_eq_true,if_false,b4,M.iN,M.dm,implies_true,M.bg,bJ,qe,decide_not];have e:(!decide ((x.2.1.length:Int)=(x.1.1.length:Int))||decide ((x.2.2.1.length:Int) > 8)||decide ((x.2.2.2.1.length:Int) > 6)||decide ((x.2.2.2.2.1.length:Int) > 8)||!(decide (0<=x.2.2.2.2.2)&&decide (x.2.2.2.2.2<=99)))=!(decide ((x.2.1.length:Int)=(x.1.1.length:Int))&&decide ((x.2.2.1.length:Int)<=8)&&decide ((x.2.2.2.1.length:Int)<=6)&&decide ((x.2.2.2.2.1.length:Int)<=8)&&jK x.2.2.2.2.2):=by
   simp only[aoe,jK,bM,Bool.not_and]
  rw[e];by_cases cz:(decide ((x.2.1.length:Int)=(x.1.1.length:Int))&&decide ((x.2.2.1.length:Int)<=8)&&decide ((x.2.2.2.1.length:Int)<=6)&&decide ((x.2.2.2.2.1.length:Int)<=8)&&jK x.2.2.2.2.2)=true
  ·rw[if_neg (by grind)]
   ·rw[M.dk x.2.1 (λi (_:Unit)=>((i:Int),x,())) (λn b=>if (!bM n 0 10)=true then .done (.done (80:Int)) else .next b) (λ_=>.next (x,())) () ?_ ?_ ?_]
    ·rw[kC (q:=λn=>bM n 0 10) _ _ (λ_=>rfl)];cases h5:x.2.1.all λn=>bM n 0 10 with
     | false=>simp[mS,h5]
     | true=>
      simp only[M.aE,if_true,M.bK];rw[M.dk x.2.2.1 (λi (_:Unit)=>((i:Int),x,())) (λp b=>if (!pA x.1 p)=true then .done (.done (80:Int)) else .next b) (λ_=>.next (x,())) () ?_ ?_ ?_]
      ·rw[kC (q:=pA x.1) _ _ (λ_=>rfl)];cases aN:x.2.2.1.all (pA x.1) with
       | false=>simp[mS,aN]
       | true=>
        simp only[M.aE,if_true,M.bK];rw[M.dk x.2.2.2.1 (λi (_:Unit)=>((i:Int),x,())) (λp b=>if (!oE p)=true then .done (.done (80:Int)) else .next b) (λ_=>.next (x,())) () ?_ ?_ ?_]
        ·rw[kC (q:=oE) _ _ (λ_=>rfl)];cases iZ:x.2.2.2.1.all oE with
         | false=>simp[mS,iZ]
         | true=>
          simp only[M.aE,if_true,M.bK];rw[M.dk x.2.2.2.2.1 (λi (_:Unit)=>((i:Int),x,())) (λp b=>if (!oF x.1 p)=true then .done (.done (80:Int)) else .next b) (λ_=>.next ()) () ?_ ?_ ?_]
          ·rw[kC (q:=oF x.1) _ _ (λ_=>rfl)];simp only[Bool.and_eq_true]at cz;cases hD:x.2.2.2.2.1.all (oF x.1)<;>simp[mS,h5,aN,iZ,hD,cz]
          ·rfl
          ·intro i G b;have hw:=bo (n:=(i:Int)+1) (by omega) (by omega);have ai:=h1.1;have hK:=bo (n:=((x.1.1.length:Int)) - 1) (by omega) (by omega);simp only[bJ,cE G,if_true,cT G,cq G,M.bg,M.aE,b7,hw,hK,qe,ri];have e:(!(decide (0<=(x.2.2.2.2.1[i]).1)&&decide ((x.2.2.2.2.1[i]).1<=99))||!(decide (0<=(x.2.2.2.2.1[i]).2.1)&&decide ((x.2.2.2.2.1[i]).2.1<(x.1.1.length:Int)))||!(decide (1<=(x.2.2.2.2.1[i]).2.2)&&decide ((x.2.2.2.2.1[i]).2.2<=10)))=!oF x.1 x.2.2.2.2.1[i]:=by
            unfold oF jK gG bM;simp
           rw[e];exact mI (mk:=λ_:Unit=>((i:Int)+1,x,()))
          simp
        ·rfl
        ·intro i G b;have hw:=bo (n:=(i:Int)+1) (by omega) (by omega);simp only[bJ,cE G,if_true,cT G,cq G,M.bg,M.aE,b7,hw,M.bp (show H2.pre x.2.2.2.1[i] from fK _ (List.getElem_mem G))];exact mI (mk:=λ_:Unit=>((i:Int)+1,x,()))
        simp
      ·rfl
      ·intro i G b;have hw:=bo (n:=(i:Int)+1) (by omega) (by omega);simp only[bJ,cE G,if_true,cT G,cq G,M.bg,M.aE,b7,hw,M.nJ,M.gp,M.bp (show H0.pre (x,x.2.2.1[i]) from⟨hs,cY _ (List.getElem_mem G)⟩)];exact mI (mk:=λ_:Unit=>((i:Int)+1,x,()))
      simp
    ·rfl
    ·intro i G b;have hw:=bo (n:=(i:Int)+1) (by omega) (by omega);simp only[bJ,cE G,if_true,cT G,cq G,M.bg,M.aE,b7,hw];exact mI (mk:=λ_:Unit=>((i:Int)+1,x,()))
    simp
  ·rw[if_pos (by grind)]
   ·have:mS x=false:=by
     unfold mS;grind
    grind
 grind
theorem aop:HW 201=true:=by decide +kernel
abbrev sD:aJ:=⟨.ax (.int .u64) (.int .u64),.ax (.int .u64) (.int .u64),λx=>x.1=1/\0<=x.2/\x.2<=200,λx=>(0,x.2)⟩
theorem aoq(x):M.le (UW x) (sD.sh x):=M.bh λh=>by
 obtain⟨a,b⟩:=x;obtain⟨h1,h2,h3⟩:=h;change a=1 at h1;change 0<=b at h2;change b<=200 at h3;subst h1;have h0:=YI 201 b.toNat aop (by omega);rw[Int.toNat_of_nonneg h2]at h0;have hw:=OJ (n:=1*b) (by omega) (by omega);have aor:((0:Int)<=32)=True:=by simp
 unfold UW;simp only[aor,M.bg];show M.pure (OL (1,b),IntKind.wrap .u64 (1*b))=_;grind
theorem aos(aot)(x):M.le (UT aot sD.sh x) (sD.sh x):=M.bh λh=>by
 unfold UT;simp only[aJ.sh,M.dm];simp_all
section
variable {aj β:Type}
theorem aou(a d:aj)(m J:Nat)(h1:1<=m)(h2:m<J) :
  List.take m (List.replicate m a++List.replicate (J - m) d)++List.take (J - m) (List.take m (List.replicate m a++List.replicate (J - m) d))++
   List.drop (m+(List.take (J - m) (List.take m (List.replicate m a++List.replicate (J - m) d))).length) (List.replicate m a++List.replicate (J - m) d)
  =List.replicate (m+min (J - m) m) a++List.replicate (J - (m+min (J - m) m)) d:=by
 have e1:List.take m (List.replicate m a++List.replicate (J - m) d)=List.replicate m a:=by
  simp
 rw[e1,List.take_replicate,List.replicate_append_replicate,List.length_replicate,List.drop_append,List.length_replicate];have e2:List.drop (m+min (J - m) m) (List.replicate m a)=[]:=by simp
 grind
def YN(d:aj)(fin:List aj->M β)(xI:Int×Int->M (Int×Int))(x:List aj)(n:Int):M β:=
 M.bind (if decide (n<0)=true then M.af False (M.af False (M.pure (aa.next (x,n,())))) else M.pure (aa.next (x,n,())))
 (aa.bl λ(A:List aj×Int×Unit)=>M.bind (xI (IntKind.wrap .u64 (Int.ofNat (List.length A.1)),IntKind.wrap .u64 A.2.1)) λy
 =>M.bind (if (decide (y.1 > 0)||decide (y.2 > 9223372036854775807))=true then M.af False (M.af False (M.pure (aa.next (A.1,y.2,())))) else
 M.pure (aa.next (A.1,y.2,()))) (aa.bl λ(A:List aj×Int×Unit)=>M.af (0<=IntKind.wrap .i64 A.2.1/\IntKind.wrap .i64 A.2.1=
 IntKind.wrap .i64 A.2.1/\b6 (Int.toNat (IntKind.wrap .i64 A.2.1))) (M.af True (M.bind (M.loop (λ(A:Int×List aj×Unit)=>if decide (A.1
 < Int.ofNat (List.length A.2.1))=true then M.af (0<=A.1/\A.1<=Int.ofNat (List.length A.2.1)/\Int.ofNat (List.length A.2.1)<=Int.ofNat
 (List.length A.2.1)) (M.af ((0:Int)<=0/\0<=A.1/\A.1<=Int.ofNat (List.length A.2.1)) (M.af True (M.pure (aa.next (IntKind.wrap .i64
 (Add.add A.1 (Int.ofNat (if Int.toNat (Int.ofNat (List.length A.2.1)) - Int.toNat A.1<=List.length (List.take (Int.toNat A.1) A.2.1) then Int.toNat
 (Int.ofNat (List.length A.2.1)) - Int.toNat A.1 else List.length (List.take (Int.toNat A.1) A.2.1)))),List.take (Int.toNat A.1) A.2.1++List.take
 (Int.toNat (Int.ofNat (List.length A.2.1)) - Int.toNat A.1) (List.take (Int.toNat A.1) A.2.1)++List.drop (Add.add (Int.toNat A.1) (List.length
 (List.take (Int.toNat (Int.ofNat (List.length A.2.1)) - Int.toNat A.1) (List.take (Int.toNat A.1) A.2.1)))) A.2.1,()))))) else M.bind (M.pure
 (aa.next (A.2.1,()))) λr=>M.pure (aa.done r)) (Int.ofNat (if List.length (List.replicate (Int.toNat (IntKind.wrap .i64 A.2.1)) d) - 0<=
 List.length A.1 then List.length (List.replicate (Int.toNat (IntKind.wrap .i64 A.2.1)) d) - 0 else List.length A.1),[]++List.take (List.length
 (List.replicate (Int.toNat (IntKind.wrap .i64 A.2.1)) d) - 0) A.1++List.drop (Add.add 0 (List.length (List.take (List.length (List.replicate
 (Int.toNat (IntKind.wrap .i64 A.2.1)) d) - 0) A.1))) (List.replicate (Int.toNat (IntKind.wrap .i64 A.2.1)) d),())) (aa.bl λ(A:List aj×
 Unit)=>fin A.1)))))
theorem OR(d a:aj)(LK:List aj->β)(n:Int)(h2:0<=n)(h3:n<=200):M.b_ (YN d (λl=>M.pure (LK l)) sD.sh [a] n) λy=>y=LK (List.replicate n.toNat a):=by
 obtain⟨J,rfl⟩:=Int.eq_ofNat_of_zero_le h2;have H3:decide ((J:Int)<0)=false:=by simp
 have ly:IntKind.u64.wrap (Int.ofNat ([a]:List aj).length)=1:=OJ (by simp) (by simp);have aov:=OJ (n:=(J:Int)) (by omega) (by omega);have k_:=bo (n:=(J:Int)) (by omega) (by omega);have hp:sD.pre (1,(J:Int)):=⟨rfl,h2,h3⟩
 have aow:decide ((J:Int) > 9223372036854775807)=false:=by grind
 have lv:b6 J:=by unfold b6;omega
 have V:0<=(J:Int)/\True/\b6 (Int.toNat (J:Int)):=⟨h2,trivial,by grind⟩
 unfold YN;simp only[H3,Bool.false_eq_true,if_false,M.aE,M.bK,ly,aov,aJ.sh,M.dm];rw[M.bp (by grind)];simp only[gt_iff_lt,Int.lt_irrefl,decide_false,Bool.false_or,Bool.false_eq_true,if_false,M.aE,M.bK,k_];have aox:decide ((9223372036854775807:Int)<(J:Int))=false:=aow;simp only[aox,Bool.false_eq_true,if_false,M.aE,M.bK,k_];rw[M.bp V];simp only[M.bg,M.fG,Int.toNat_natCast,List.length_replicate,Nat.sub_zero,List.nil_append,List.length_singleton,bJ,jC,Nat.zero_add];refine M.Bl (λs=>∃ m:Nat,(1<=m\/J=0)/\m<=J/\s=((m:Int),List.replicate m a++List.replicate (J - m) d,())) (λs=>J - s.1.toNat) ?_ _ ?_
 ·rintro s ⟨m,an,axp,rfl⟩;have hlen:(List.replicate m a++List.replicate (J - m) d).length=J:=by grind
  simp only[hlen];by_cases bZ:m<J
  ·have gn:0<=(m:Int)/\(m:Int)<=(J:Int)/\(J:Int)<=(J:Int):=by omega
   have cr:(0:Int)<=0/\0<=(m:Int)/\(m:Int)<=(J:Int):=by omega
   have j2:1<=m:=by omega
   have YO:(List.take m (List.replicate m a++List.replicate (J - m) d)).length=m:=by simp
   simp only[cE bZ,if_true,M.bp gn,M.bp cr,M.bg,Int.toNat_natCast,YO,b7];rw[M.dE,aou a d m J j2 bZ];have aoy:(if J - m<=m then J - m else m)=min (J - m) m:=by rfl
   rw[aoy];have gA:=bo (n:=(m:Int)+((min (J - m) m:Nat):Int)) (by omega) (by omega);refine⟨⟨m+min (J - m) m,.inl (by omega),by omega,?_⟩,?_⟩
   ·rw[gA];simp
   ·simp only[gA];omega
  ·have:m=J:=by omega
   subst this;simp only[Int.lt_irrefl,decide_false,Bool.false_eq_true,if_false,M.aE,M.dE,M.bK,Nat.sub_self,List.replicate_zero,List.append_nil]
 ·by_cases axq:J=0
  ·grind
  ·refine⟨1,.inl (Nat.le_refl _),by omega,?_⟩;grind
end
abbrev H4:aJ:=⟨.ax fF tI,fF,λx=>x.1=[-1]/\0<=x.2/\x.2<=200,λx=>List.replicate x.2.toNat (-1)⟩
theorem aoz(x):M.le (ai8 sD.sh x) (H4.sh x):=M.sb λh=>by
 obtain⟨l,n⟩:=x;obtain⟨h1,h2,h3⟩:=h;change l=[-1]at h1;subst h1;exact OR (0:Int) (-1) (λl=>l) n h2 h3
def vM(x:z1'×Int×Unit):M (z1'×Unit):=M.du (x.1=[-1]/\0<=x.2.1/\x.2.1<=200) (List.replicate x.2.1.toNat (-1),())
theorem YP(x):M.le (ajm sD.sh x) (vM x):=M.sb λh=>by
 obtain⟨l,n,u⟩:=x;obtain⟨h1,h2,h3⟩:=h;change l=[-1]at h1;subst h1;exact OR (0:Int) (-1) (λl=>(l,())) n h2 h3
abbrev H5:ae:=.st (.ax tI tI)
abbrev H6:aJ:=⟨.ax (.slice H5) tI,.slice H5,λx=>x.1.length=1/\0<=x.2/\x.2<=200,λx=>List.replicate x.2.toNat (x.1.getD 0 (0,0))⟩
theorem aoA(x):M.le (ajj sD.sh x) (H6.sh x):=M.sb λh=>by
 obtain⟨l,n⟩:=x;obtain⟨h1,h2,h3⟩:=h;change l.length=1 at h1;obtain⟨a,rfl⟩:=List.length_eq_one_iff.1 h1;exact OR ((0,0):Int×Int) a (λl=>l) n h2 h3
end Go.Fer
namespace Go.Fer
open M (aa)
def x6(s:br)(n:Int):Bool:=decide (0<=n)&&decide (n<(s.2.2.2.1.length:Int))
def x7(s:br)(n:Int):Bool:=decide (0<=n)&&decide (n<(s.2.2.1.length:Int))
theorem aoB{s:br}{n:Int}:x6 s n=true<->0<=n/\n<(s.2.2.2.1.length:Int):=by simp[x6]
theorem aoC{s:br}{n:Int}:x7 s n=true<->0<=n/\n<(s.2.2.1.length:Int):=by simp[x7]
abbrev OS:aJ:=⟨.ax lN tI,cQ,λx=>e' x.1,λx=>x6 x.1 x.2⟩
abbrev OT:aJ:=⟨.ax lN tI,cQ,λx=>e' x.1,λx=>x7 x.1 x.2⟩
theorem aoD(x):M.le (Vd b4.sh x) (OS.sh x):=M.bh λh=>by
 have ai:=h.2.2.2.1;have hw:=bo (n:=(x.1.2.2.2.1.length:Int) - 1) (by omega) (by omega);unfold Vd;simp[aJ.sh,b4,hw,x6,ri]
theorem aoE(x):M.le (Vi b4.sh x) (OT.sh x):=M.bh λh=>by
 have ai:=h.2.2.1;have hw:=bo (n:=(x.1.2.2.1.length:Int) - 1) (by omega) (by omega);unfold Vi;simp[aJ.sh,b4,hw,x7,ri]
def sE(x:dq)(p:da):Int:=if (!x.1.contains p.1||!bM p.2.1 x.2.1.1 x.2.1.2)=true then 0 else if p.2.2.1=x.2.2.1 then 1 else if p.2.2.1=0 then 2 else 0
abbrev vN:aJ:=⟨.ax tWi mR,tI,λx=>x.1.1.length<2 ^ 63,λx=>sE x.1 x.2⟩
theorem aoF(x):M.le (Vj b4.sh ox.sh x) (vN.sh x):=M.bh λh=>by
 unfold Vj;simp only[aJ.sh,b4,ox,M.dm,M.iN,implies_true,M.bg,qe];rw[M.bp (by exact h)];show _=M.pure (sE x.1 x.2);unfold sE bM;grind
def vO(s:br)(l:z1')(i:Nat):Bool:=decide (l.getD i 0=-1)||(x7 s (l.getD i 0)&&!(l.take i).contains (l.getD i 0))
def vP(s:br)(l:z1'):Bool:=((List.range l.length).all (vO s l))&&decide ((l.length:Int)=(s.2.2.2.1.length:Int))
abbrev H7:aJ:=⟨.ax lN fF,cQ,λx=>e' x.1/\x.2.length<2 ^ 63,λx=>vP x.1 x.2⟩
theorem aoG(x):M.le (Vk OT.sh ox.sh x) (H7.sh x):=M.bh λh=>by
 obtain⟨s,l⟩:=x;obtain⟨hs,ai⟩:=h;change e' s at hs;change l.length<2 ^ 63 at ai;unfold Vk;rw[M.dk (List.range l.length) (λi (_:Unit)=>(l,l,(l.length:Int),(i:Int),s,())) (λi b=>if (!vO s l i)=true then .done (.done false) else .next b) (λ_=>.next (l,s,())) () ?_ ?_ ?_]
 ·rw[kC (q:=vO s l) _ _ (λ_=>rfl)];show _=M.pure (vP s l);unfold vP;cases (List.range l.length).all (vO s l)<;>simp
 ·simp
 ·intro i G b;have G:i<l.length:=by grind
  have hw:=bo (n:=(i:Int)+1) (by omega) (by omega);obtain⟨aI,jf⟩:∃ aI,l.getD i 0=aI:=⟨_,rfl⟩
  have cp:vO s l i=(decide (aI=-1)||(x7 s aI&&!(l.take i).contains aI)):=by unfold vO;rw[jf]
  simp only[bJ,cE G,if_true,List.getElem_range,cq G,M.bg,aJ.sh,M.dm,M.iN,Int.toNat_natCast,jf];rw[M.bp (by grind),M.bp,M.bp]
  ·simp only[M.aE,b7,hw,vO,jf];by_cases h1:aI=-1
   ·simp_all
   ·cases h2:x7 s aI<;>cases h3:(l.take i).contains aI<;>simp[h1,h2,h3,aa.gS]
  ·intro _;show (l.take i).length<2 ^ 63;rw[List.length_take];omega
  ·intro cz;exact⟨⟨cz,trivial,cz⟩,⟨by omega,by omega,by omega⟩,trivial⟩
 simp
def kN(s:br)(bS:Bool):Int:=if iR s≠0 then iR s else if bS=false then 1 else eh s.1 true
theorem YQ{s:br}(h:iR s=0):cu s.1=0/\mS s=true:=by
 unfold iR at h;grind
theorem AN{s:br}{bS:Bool}(h:kN s bS=0):iR s=0/\bS=true/\eh s.1 true=0/\vJ s.1=true:=by
 unfold kN at h;by_cases he:iR s=0
 ·rw[if_neg (by omega)]at h;cases bS with
  | false=>grind
  | true=>
   simp only[Bool.true_eq_false,if_false]at h;exact⟨he,rfl,h,(DZ h).2.2⟩
 omega
structure lO(s:br):Prop where
 gN:e' s
 sw:qn s.1
 D_:s.2.1.length=s.1.1.length
 qp:∀ n∈s.2.1,0<=n/\n<=10
 H8:s.2.2.1.length<=8
 aoH:∀ p∈s.2.2.1,pA s.1 p=true
 uj:s.2.2.2.1.length<=6
 YR:∀ x∈s.2.2.2.1,oE x=true
 OU:s.2.2.2.2.1.length<=8
 YS:∀ d∈s.2.2.2.2.1,oF s.1 d=true
 aoI:0<=s.2.2.2.2.2/\s.2.2.2.2.2<=99
theorem AO{s:br}(hs:e' s)(h:iR s=0):lO s:=by
 obtain⟨h1,h2⟩:=YQ h;simp only[mS,Bool.and_eq_true,decide_eq_true_eq,List.all_eq_true,bM,jK]at h2;obtain⟨⟨⟨⟨⟨⟨⟨⟨aO,aP⟩,bA⟩,ga⟩,oY⟩,xh⟩,GH⟩,C2⟩,Mb⟩:=h2;exact⟨hs,⟨hs.1,OG h1⟩,by omega,aP,by omega,ga,by omega,xh,by omega,C2,Mb⟩
theorem lO.YT{s:br}(h:lO s):s.1.1.length<=10:=(DY h.sw.2).1
def H9(w:bc)(t:z5')(q:Int×Int×Int):z5':=if uf w q.1 q.2.1 q.2.2=1 then vh t q (IntKind.i64.wrap ((oD t q).getD 0+1)) else t
def YU(w:bc)(i m:Nat)(t:z5'):z5':=(List.range (ji w (m:Int)).length).foldl (λt (k:Nat)=>H9 w t ((i:Int),(m:Int),(k:Int))) t
def YV(w:bc)(i:Nat)(t:z5'):z5':=(List.range w.2.1.length).foldl (λt m=>YU w i m t) t
def rm(w:bc)(n:Nat):z5':=(List.range n).foldl (λt i=>YV w i t) []
def la(p:Int×Int)(n:Int):z4':=List.replicate n.toNat p
def D'(l:z1'):z4':=(List.range l.length).flatMap λ(i:Nat)=>la ((i:Int),0) (l.getD i 0)
def YW(l:List Dm):z4':=l.flatMap λd=>la (d.2.1,d.1) d.2.2
def OV(s:br):z4':=D' s.2.1++YW s.2.2.2.2.1
def cW(s:br):Sto:=(s,OV s,rm s.1 s.2.1.length)
def x8(s:br)(bS:Bool):Option Sto×Int:=if kN s bS≠0 then (none,kN s bS) else (some (cW s),0)
theorem OW{aj β:Type}(f:aj->List β):∀ (l:List aj) (b:List β),l.foldl (λb x=>b++f x) b=b++l.flatMap f
 | [],b=>by simp
 | x::l,b=>by rw[List.foldl_cons,OW f l,List.flatMap_cons,List.append_assoc]
abbrev aoJ:ae:=.st (.ax tI (.ax tI tI))
abbrev vQ:ae:=.bq (.st (.ax lN (.ax (.slice H5) (.map aoJ tI))))
abbrev AP:aJ:=⟨.ax lN cQ,.ax vQ tI,λx=>e' x.1,λx=>x8 x.1 x.2⟩
theorem aoK(s:br)(bS:Bool)(hs:e' s):Nb pB.sh x1.sh AH.sh H6.sh (s,bS)=M.pure (x8 s bS):=by
 unfold Nb x8 kN;simp only[aJ.sh,M.dm,M.bp hs];by_cases he:iR s=0
 ·have hv:=AO hs he;simp only[he,ne_eq,not_true,decide_false,Bool.false_eq_true,if_false];cases bS with
  | false=>simp
  | true=>
   simp only[Bool.not_true,Bool.false_eq_true,if_false,Bool.true_eq_false];refine Eq.trans (congrArg (λm=>M.bind m _) (show _=(if eh s.1 true≠0 then M.pure (aa.done ((none:Option Sto),eh s.1 true)) else M.pure (aa.next (s,([]:z5'),s.1.1,s.1.2.1,s.1.2.2.1,s.1.2.2.2,s.2.1,s.2.2.1,s.2.2.2.1,s.2.2.2.2.1,s.2.2.2.2.2,()))) from ?_)) ?_
   ·by_cases a_:s.2.1.length=0
    ·have aH:eh s.1 true=0:=by
      unfold eh;have h0:s.1.1.length=0:=by rw[<-hv.D_];exact a_
      have:vJ s.1=true:=by unfold vJ;grind
      simp[(YQ he).1,this]
     grind
    ·have h1:decide (Int.ofNat (List.length s.2.1) > 0)=true:=by grind
     have h2:gG s.1 0=true:=by rw[ub];have:=hv.D_;omega
     rw[if_pos h1,M.bp hs.1];unfold vK;rw[h2];by_cases ao:eh s.1 true=0
     ·simp[ao]
     ·simp[ao]
   by_cases yD:eh s.1 true=0
   ·simp only[yD,ne_eq,not_true,if_false,M.aE,M.bK];have axr:=hv.YT;have hsl:=hv.D_;have aoL:s.1.2.1.length<=6:=(DY hv.sw.2).2.1;rw[M.dk (List.range s.2.1.length) (λi t=>((s.2.1.length:Int),(i:Int),s,t,s.1.1,s.1.2.1,s.1.2.2.1,s.1.2.2.2,s.2.1,s.2.2.1,s.2.2.2.1,s.2.2.2.2.1,s.2.2.2.2.2,())) (λi t=>.next (YV s.1 i t)) (λt=>.next (s,t,s.1.1,s.1.2.1,s.1.2.2.1,s.1.2.2.2,s.2.1,s.2.2.1,s.2.2.2.1,s.2.2.2.2.1,s.2.2.2.2.2,())) [] ?_ ?_ ?_]
    ·rw[dM];simp only[M.aE,M.bK];rw[M.gg (List.range s.2.1.length) (λi acc=>(s.2.1,(s.2.1.length:Int),(i:Int),s,rm s.1 s.2.1.length,s.1.1,s.1.2.1,s.1.2.2.1,s.1.2.2.2,s.2.1,s.2.2.1,s.2.2.2.1,s.2.2.2.2.1,s.2.2.2.2.2,acc,())) (λi acc=>.next (acc++la ((i:Int),0) (s.2.1.getD i 0))) (λacc=>.next (s,rm s.1 s.2.1.length,s.1.1,s.1.2.1,s.1.2.2.1,s.1.2.2.2,s.2.1,s.2.2.1,s.2.2.2.1,s.2.2.2.2.1,s.2.2.2.2.2,acc,())) (λi acc=>acc.length<=10*i) [] ?_ ?_ ?_ ?_]
     ·rw[dM,OW];simp only[M.aE,M.bK,List.nil_append];have fU:(D' s.2.1).length<=100:=by
       have:∀ (l:List Nat),(∀ i∈l,i<s.2.1.length)->(l.flatMap λ(i:Nat)=>la ((i:Int),0) (s.2.1.getD i 0)).length<=10*l.length:=by
        intro l;induction l with
        | nil=>simp
        | cons i l aG=>
         intro ai;have h1:=aG λj aC=>ai j (by grind);have h2:=ai i (by simp);have h3:=hv.qp _ (List.getElem_mem h2);have jf:s.2.1.getD i 0=s.2.1[i]:=by grind
         rw[List.flatMap_cons,List.length_append,List.length_cons,jf];simp only[la,List.length_replicate];simp only[la]at h1;omega
       have:=this (List.range s.2.1.length) (λi G=>by grind);rw[List.length_range]at this;unfold D';omega
      rw[M.gg s.2.2.2.2.1 (λi acc=>(s.2.2.2.2.1,(s.2.2.2.2.1.length:Int),(i:Int),rm s.1 s.2.1.length,s.1.1,s.1.2.1,s.1.2.2.1,s.1.2.2.2,s.2.1,s.2.2.1,s.2.2.2.1,s.2.2.2.2.1,s.2.2.2.2.2,acc,())) (λd acc=>.next (acc++la (d.2.1,d.1) d.2.2)) (λacc=>.next (rm s.1 s.2.1.length,s.1.1,s.1.2.1,s.1.2.2.1,s.1.2.2.2,s.2.1,s.2.2.1,s.2.2.2.1,s.2.2.2.2.1,s.2.2.2.2.2,acc,())) (λi acc=>acc.length<=100+10*i) (D' s.2.1) ?_ ?_ ?_ ?_]
      ·rw[dM,OW,M.aE,M.bK];rfl
      ·rfl
      ·omega
      ·intro i G acc OH;have axs:=hv.OU;have hK:=bo (n:=(i:Int)+1) (by omega) (by omega);have au:=hv.YS _ (List.getElem_mem G);have CG:1<=s.2.2.2.2.1[i].2.2/\s.2.2.2.2.1[i].2.2<=10:=by
        simp only[oF,bM,Bool.and_eq_true,decide_eq_true_eq]at au;omega
       have hlen:(la (s.2.2.2.2.1[i].2.1,s.2.2.2.2.1[i].1) s.2.2.2.2.1[i].2.2).length<=10:=by simp only[la,List.length_replicate];omega
       have lv:b6 (acc.length+(la (s.2.2.2.2.1[i].2.1,s.2.2.2.2.1[i].1) s.2.2.2.2.1[i].2.2).length):=by unfold b6;omega
       refine⟨?_,λaZ ab=>?_⟩
       ·simp only[bJ,cE G,if_true,cT G,cq G,M.bg,M.nJ,M.gp,b7,jC,hK];rw[M.bp (by grind),M.bp (by exact lv)];rfl
       grind
      simp
     ·rfl
     ·simp
     ·intro i G acc OH;have G:i<s.2.1.length:=by grind
      have hK:=bo (n:=(i:Int)+1) (by omega) (by omega);have jf:s.2.1.getD i 0=s.2.1[i]:=by grind
      have CG:=hv.qp _ (List.getElem_mem G);have hlen:(la ((i:Int),0) s.2.1[i]).length<=10:=by simp only[la,List.length_replicate];omega
      have lv:b6 (acc.length+(la ((i:Int),0) s.2.1[i]).length):=by unfold b6;omega
      refine⟨?_,λaZ ab=>?_⟩
      ·simp only[bJ,cE G,if_true,cT G,cq G,M.bg,M.nJ,M.gp,b7,jC,hK,List.getElem_range,jf];rw[M.bp (by grind),M.bp (by exact lv)];rfl
      grind
     simp
    ·simp
    ·intro i G t;have G:i<s.2.1.length:=by grind
     have hK:=bo (n:=(i:Int)+1) (by omega) (by omega);simp only[bJ,cE G,if_true,List.getElem_range];rw[M.dk (List.range s.1.2.1.length) (λm t=>((i:Int),(s.2.1.length:Int),(i:Int),s.1.2.1,(s.1.2.1.length:Int),(m:Int),s,t,s.1.1,s.1.2.1,s.1.2.2.1,s.1.2.2.2,s.2.1,s.2.2.1,s.2.2.2.1,s.2.2.2.2.1,s.2.2.2.2.2,())) (λm t=>.next (YU s.1 i m t)) (λt=>.next ((s.2.1.length:Int),(i:Int),s,t,s.1.1,s.1.2.1,s.1.2.2.1,s.1.2.2.2,s.2.1,s.2.2.1,s.2.2.2.1,s.2.2.2.2.1,s.2.2.2.2.2,())) t ?_ ?_ ?_]
     ·rw[dM];simp only[M.aE,M.bK,b7,hK];rfl
     ·rfl
     ·intro m an t;have an:m<s.1.2.1.length:=by grind
      have H_:=bo (n:=(m:Int)+1) (by omega) (by omega);have aoM:s.1.2.1[m]=ji s.1 (m:Int):=by simp[ji,List.getD_eq_getElem?_getD,an]
      simp only[bJ,cE an,if_true,List.getElem_range,cq an,M.bg,cT an,aoM];have AF:=HM hs.1 (m:Int);rw[M.dk (List.range (ji s.1 (m:Int)).length) (λk t=>((i:Int),(m:Int),(s.2.1.length:Int),(i:Int),s.1.2.1,(s.1.2.1.length:Int),(m:Int),((ji s.1 (m:Int)).length:Int),(k:Int),s,t,s.1.1,s.1.2.1,s.1.2.2.1,s.1.2.2.2,s.2.1,s.2.2.1,s.2.2.2.1,s.2.2.2.2.1,s.2.2.2.2.2,())) (λk t=>.next (H9 s.1 t ((i:Int),(m:Int),(k:Int)))) (λt=>.next ((i:Int),(s.2.1.length:Int),(i:Int),s.1.2.1,(s.1.2.1.length:Int),(m:Int),s,t,s.1.1,s.1.2.1,s.1.2.2.1,s.1.2.2.2,s.2.1,s.2.2.1,s.2.2.2.1,s.2.2.2.2.1,s.2.2.2.2.2,())) t ?_ ?_ ?_]
      ·rw[dM];simp only[M.aE,M.bK,b7,H_];rfl
      ·rfl
      ·intro k ao t;have ao:k<(ji s.1 (m:Int)).length:=by grind
       have mf:=bo (n:=(k:Int)+1) (by omega) (by omega);have nH:gG s.1 (i:Int)=true:=by rw[ub];omega
       have aoN:iB s.1 (m:Int) (k:Int)=true:=by rw[AD];omega
       have ar:qo s.1 (i:Int) (m:Int) (k:Int)=(uf s.1 (i:Int) (m:Int) (k:Int),0):=by simp[qo,nH,aoN,yD]
       simp only[cE ao,if_true,List.getElem_range];simp only[ar,M.bp hs.1,decide_eq_true_eq];by_cases h1:uf s.1 (i:Int) (m:Int) (k:Int)=1
       ·simp only[h1,if_true,and_self,M.bg,M.aE,M.bK,b7,mf,aa.gS,H9];rfl
       ·simp only[h1,if_false,M.aE,M.bK,b7,mf,aa.gS,H9];rfl
      simp
     simp
    simp
   ·simp[yD]
 grind
theorem aoO(x):M.le (Nb pB.sh x1.sh AH.sh H6.sh x) (AP.sh x):=M.bh λh=>aoK x.1 x.2 h
theorem aoP{p:Int->Bool}{l:z1'}(h:jL p l=true):∀ x∈l,p x=true:=by
 intro x hx;obtain⟨i,G,rfl⟩:=List.mem_iff_getElem.1 hx;unfold jL at h;simp_all
theorem aoQ{p:Int->Bool}{l:z1'}(h:jL p l=true):l.Pairwise (·<·):=by
 unfold jL at h;rw[List.all_eq_true]at h;have step:∀ i,i+1<l.length->l.getD i 0<l.getD (i+1) 0:=λi G=>by
  grind
 have key:∀ j i,i<j->j<l.length->l.getD i 0<l.getD j 0:=by
  intro j;induction j with
  | zero=>omega
  | succ j aG=>
   grind
 rw[List.pairwise_iff_getElem];grind
theorem OX{s:br}(hv:lO s){p:da}(hp:p∈s.2.2.1):nN s.1 p.2.2.2.1=true/\p.2.2.2.2.length<=4/\∀ k∈p.2.2.2.2,iB s.1 p.2.2.2.1 k=true:=by
 have h:=hv.aoH p hp;simp only[pA,Bool.and_eq_true]at h;obtain⟨⟨_,an⟩,V⟩:=h;have fj:∀ k∈p.2.2.2.2,iB s.1 p.2.2.2.1 k=true:=λk ao=>by
  have:=aoP V k ao;rw[AD];simp only[D4,Bool.and_eq_true,decide_eq_true_eq]at this;exact⟨HL.1 an,this⟩
 refine⟨an,?_,fj⟩;have aoR:=aoQ V;have ti:p.2.2.2.2.Nodup:=aoR.imp λh e=>by omega
 cases ab:p.2.2.2.2 with
 | nil=>simp
 | cons k l=>
  rw[<-ab];have aR:=ang hv.sw.2 (fj k (by grind));have:=OK (ji s.1 p.2.2.2.1).length p.2.2.2.2 ti λk ao=>by
   have:=AD.1 (fj k ao);omega
  omega
abbrev rn:Type:=Int×Int×Int
abbrev aoS:dq:=([],(0,0),0,0,0)
abbrev aoT:da:=(0,0,0,0,[])
abbrev x9:Sto:=((([],[],0,[]),[],[],[],[],0),[],[])
def mh(s:br)(i:Int):dq:=s.2.2.2.1.getD i.toNat aoS
def mT(s:br)(i:Int):da:=s.2.2.1.getD i.toNat aoT
def vR(s:br)(x:dq)(p:da):Option Int:=if sE x p=0 then none else if (if sE x p=2 then x.2.2.2.1 - s.2.2.2.2.2 else x.2.2.2.1)<0 then none else some (if sE x p=2 then x.2.2.2.1 - s.2.2.2.2.2 else x.2.2.2.1)
def oG(s:br)(ca:z1')(i:Nat):Option (List rn):=if ca.getD i 0<0 then some [] else (vR s (mh s (i:Int)) (mT s (ca.getD i 0))).map λd=>(mT s (ca.getD i 0)).2.2.2.2.map λk=>((mT s (ca.getD i 0)).2.2.2.1,k,d)
def lb(s:br)(ca:z1'):List rn×Bool:=if ((List.range ca.length).all λi=>(oG s ca i).isSome)=true then ((List.range ca.length).flatMap λi=>(oG s ca i).getD [],true) else ([],false)
def nO(s:br)(ca:z1'):Prop:=ca.length<=s.2.2.2.1.length/\∀ p∈ca,p<(s.2.2.1.length:Int)
def nP(o:Option Sto):br:=(o.getD x9).1
def vS(o:Option Sto)(s:br):Prop:=o=some (cW s)/\lO s
theorem OY{s:br}{i:Nat}(h:i<s.2.2.2.1.length):mh s (i:Int)∈s.2.2.2.1:=by
 simp[mh,List.getD_eq_getElem?_getD,h]
theorem YX{s:br}{i:Int}(h0:0<=i)(h:i<(s.2.2.1.length:Int)):mT s i∈s.2.2.1:=xE h0 h
theorem YY{s:br}(hv:lO s){x:dq}(hx:x∈s.2.2.2.1):(0<=x.2.2.2.1/\x.2.2.2.1<=99)/\(0<=x.2.2.2.2/\x.2.2.2.2<=100000):=by
 have:=hv.YR x hx;simp only[oE,jK,bM,Bool.and_eq_true,decide_eq_true_eq]at this;omega
theorem YZ{s:br}(hv:lO s){ca:z1'}(hp:nO s ca){i:Nat}(G:i<ca.length){l:List rn}(h:oG s ca i=some l):l.length<=4:=by
 unfold oG at h;split at h
 ·grind
 ·rename_i H3;rw[Option.map_eq_some_iff]at h;obtain⟨d,_,rfl⟩:=h;rw[List.length_map];have an:ca.getD i 0∈ca:=by grind
  exact (OX hv (YX (by omega) (hp.2 _ an))).2.1
def AQ{aj β aF:Type}(f:aj->Option (List β))(r:aF)(x:aj)(b:List β):aa (List β) aF:=if (f x).isSome=true then .next (b++(f x).getD []) else .done r
theorem Ea{aj β aF:Type}{f:aj->Option (List β)}{r:aF}{x:aj}{b y:List β}(h:f x=some y):AQ f r x b=.next (b++y):=by simp[AQ,h]
theorem Ia{aj β aF:Type}{f:aj->Option (List β)}{r:aF}{x:aj}{b:List β}(h:f x=none):AQ f r x b=.done r:=by simp[AQ,h]
theorem Y0{aj β aF:Type}{f:aj->Option (List β)}{r:aF}{fin:List β->aF}:∀ (l:List aj) (b:List β),eD (AQ f r) fin l b=if (l.all λx=>(f x).isSome)=true then fin (b++l.flatMap λx=>(f x).getD []) else r
 | [],b=>by simp[eD]
 | x::l,b=>by
  simp only[eD];cases h:f x with
  | none=>simp[Ia h,h]
  | some y=>
   have:=Y0 (f:=f) (r:=r) (fin:=fin) l (b++y);simp only[Ea h,List.all_cons,h,Option.isSome_some,Bool.true_and,List.flatMap_cons,Option.getD_some];grind
abbrev Ib:ae:=.st (.ax tI (.ax tI tI))
abbrev Ic:aJ:=⟨.ax vQ fF,.ax (.slice Ib) cQ,λx=>∃ s,vS x.1 s/\nO s x.2,λx=>lb (nP x.1) x.2⟩
theorem aoU(s:br)(hv:lO s)(ca:z1')(hp:nO s ca):Nc vN.sh (some (cW s),ca)=M.pure (lb s ca):=by
 unfold Nc;have AR:=hv.uj;have axt:=hp.1;simp only[Option.isSome_some,Option.getD_some,M.bg];rw[M.gg (List.range ca.length) (λi acc=>(some (cW s),ca,(ca.length:Int),(i:Int),acc,())) (AQ (oG s ca) (.done ([],false))) (λacc=>.next (acc,())) (λi acc=>acc.length<=4*i) [] ?_ ?_ ?_ ?_]
 ·rw[Y0];unfold lb;by_cases h:((List.range ca.length).all λi=>(oG s ca i).isSome)=true
  ·simp[h]
  ·simp[h]
 ·rfl
 ·simp
 ·intro i G acc OH;have G:i<ca.length:=by grind
  have sF:i<s.2.2.2.1.length:=by omega
  have hK:=bo (n:=(i:Int)+1) (by omega) (by omega);have Ie:=OY sF;rw[List.getElem_range];obtain⟨aI,aoV⟩:∃ aI,ca.getD i 0=aI:=⟨_,rfl⟩
  have aoW:aI∈ca:=by grind
  refine⟨?_,λaZ ab=>?_⟩
  ·simp only[bJ,cE G,if_true,Int.toNat_natCast,aoV,cq G,M.bg,Option.isSome_some,Option.getD_some];by_cases H3:aI<0
   ·have mz:oG s ca i=some []:=by unfold oG;grind
    rw[Ea mz];simp_all
   ·have h5:aI<(s.2.2.1.length:Int):=hp.2 aI aoW;have aoX:=YX (s:=s) (by omega) h5;have gn:0<=aI/\aI<(s.2.2.1.length:Int):=⟨by omega,h5⟩
    have fU:(cW s).1=s:=rfl;have AS:List.getD s.2.2.2.1 i ([],(0,0),0,0,0)=mh s (i:Int):=rfl;have OZ:List.getD s.2.2.1 aI.toNat (0,0,0,0,[])=mT s aI:=rfl;simp only[H3,decide_false,Bool.false_eq_true,if_false,fU,cq sF,M.bp gn,M.bg,aJ.sh,M.dm,AS,OZ];have mz:oG s ca i=(vR s (mh s (i:Int)) (mT s aI)).map λd=>(mT s aI).2.2.2.2.map λk=>((mT s aI).2.2.2.1,k,d):=by unfold oG;grind
    rw[M.bp (show vN.pre (mh s (i:Int),mT s aI) from hv.gN.2.2.2.2.2.2 _ Ie)];obtain⟨axu,_⟩:=YY hv Ie;have lA:=hv.aoI;obtain⟨aoL,ij,Cy⟩:=OX hv aoX;have aoY:=bo (n:=(mh s (i:Int)).2.2.2.1 - s.2.2.2.2.2) (by omega) (by omega);generalize mh s (i:Int)=x at *
    generalize mT s aI=p at *
    by_cases h0:sE x p=0
    ·have au:vR s x p=none:=by unfold vR;grind
     rw[au]at mz;rw[Ia mz];simp only[h0,decide_true,if_true,M.aE,M.pb,aa.gS]
    ·by_cases h2:sE x p=2;all_goals simp only[h0,h2,decide_true,decide_false,Bool.false_eq_true,if_false,if_true,M.aE,M.bK,aoY,Int.reduceEq]
     ·have au:vR s x p=(if x.2.2.2.1 - s.2.2.2.2.2<0 then none else some (x.2.2.2.1 - s.2.2.2.2.2)):=by unfold vR;grind
      generalize x.2.2.2.1 - s.2.2.2.2.2=d at *
      by_cases qW:d<0
      ·rw[if_pos qW]at au;rw[au]at mz;rw[Ia mz];simp_all
      ·rw[if_neg qW]at au;rw[au]at mz;rw[Ea mz];simp only[qW,decide_false,Bool.false_eq_true,if_false];rw[M.gg p.2.2.2.2 (λk acc=>(some (cW s),d,ca,(ca.length:Int),(i:Int),p.2.2.2.2,(p.2.2.2.2.length:Int),(k:Int),acc,p,())) (λk acc=>.next (acc++[(p.2.2.2.1,k,d)])) (λacc=>.next (some (cW s),ca,(ca.length:Int),(i:Int),acc,())) (λk x_=>x_.length<=4*i+k) acc ?_ ?_ ?_ ?_]
       ·rw[dM,xD];simp_all
       ·rfl
       ·omega
       ·intro k ao x_ aoZ;have mf:=bo (n:=(k:Int)+1) (by omega) (by omega);have lv:b6 (x_.length+(0+1)):=by unfold b6;omega
        refine⟨?_,λaZ ab=>?_⟩
        ·simp_all
        grind
       simp
     ·have au:vR s x p=(if x.2.2.2.1<0 then none else some x.2.2.2.1):=by unfold vR;grind
      generalize x.2.2.2.1=d at *
      by_cases qW:d<0
      ·omega
      ·rw[if_neg qW]at au;rw[au]at mz;rw[Ea mz];simp only[qW,decide_false,Bool.false_eq_true,if_false];rw[M.gg p.2.2.2.2 (λk acc=>(some (cW s),d,ca,(ca.length:Int),(i:Int),p.2.2.2.2,(p.2.2.2.2.length:Int),(k:Int),acc,p,())) (λk acc=>.next (acc++[(p.2.2.2.1,k,d)])) (λacc=>.next (some (cW s),ca,(ca.length:Int),(i:Int),acc,())) (λk x_=>x_.length<=4*i+k) acc ?_ ?_ ?_ ?_]
       ·rw[dM,xD];simp_all
       ·rfl
       ·omega
       ·intro k ao x_ aoZ;have mf:=bo (n:=(k:Int)+1) (by omega) (by omega);have lv:b6 (x_.length+(0+1)):=by unfold b6;omega
        refine⟨?_,λaZ ab=>?_⟩
        ·simp_all
        grind
       simp
  ·cases mz:oG s ca i with
   | none=>rw[Ia mz]at ab;cases ab
   | some y=>
    rw[Ea mz]at ab;cases ab;have:=YZ hv hp G mz;grind
 simp
theorem ao0(x):M.le (Nc vN.sh x) (Ic.sh x):=M.bh λh=>by
 obtain⟨o,ca⟩:=x;obtain⟨s,⟨ar,hv⟩,hp⟩:=h;change o=_ at ar;subst ar;exact aoU s hv ca hp
def rp(s:br)(ca:z1'):Int:=((List.range ca.length).map λ(i:Nat)=>if ca.getD i 0=-1 then 0 else (mh s (i:Int)).2.2.2.2).foldl (·+·) 0
abbrev sG:aJ:=⟨.ax vQ fF,tI,λx=>∃ s,vS x.1 s/\x.2.length<=s.2.2.2.1.length,λx=>rp (nP x.1) x.2⟩
theorem ao1(s:br)(hv:lO s)(ca:z1')(hp:ca.length<=s.2.2.2.1.length):Nj (some (cW s),ca)=M.pure (rp s ca):=by
 unfold Nj;have AR:=hv.uj;rw[M.gg (List.range ca.length) (λi (n:Int)=>(some (cW s),n,ca,(ca.length:Int),(i:Int),())) (λ(i:Nat) n=>.next (n+if ca.getD i 0=-1 then 0 else (mh s (i:Int)).2.2.2.2)) (λn=>.next (n,())) (λi n=>0<=n/\n<=100000*i) 0 ?_ ?_ ?_ ?_]
 ·rw[dM];unfold rp;rw[List.foldl_map,M.aE,M.bK]
 ·rfl
 ·simp
 ·intro i G n aA;have G:i<ca.length:=by grind
  have sF:i<s.2.2.2.1.length:=by omega
  have hK:=bo (n:=(i:Int)+1) (by omega) (by omega);obtain⟨_,oa⟩:=YY hv (OY sF);have AS:List.getD s.2.2.2.1 i ([],(0,0),0,0,0)=mh s (i:Int):=rfl;have AL:=bo (n:=n+(mh s (i:Int)).2.2.2.2) (by omega) (by omega);have fU:(cW s).1=s:=rfl;rw[List.getElem_range];refine⟨?_,λaZ ab=>?_⟩
  ·simp only[bJ,cE G,if_true,Int.toNat_natCast,cq G,cq sF,M.bg,Option.isSome_some,Option.getD_some,b7,fU,AS];by_cases h1:ca.getD i 0=-1
   ·simp only[h1,ne_eq,not_true,decide_false,Bool.false_eq_true,if_false,if_true,M.aE,M.bK,hK,Int.add_zero,aa.gS];rfl
   ·simp only[h1,ne_eq,not_false_iff,decide_true,if_false,if_true,cq sF,M.bg,M.aE,M.bK,hK,AL,aa.gS];rfl
  grind
 simp
theorem ao2(x):M.le (Nj x) (sG.sh x):=M.bh λh=>by
 obtain⟨o,ca⟩:=x;obtain⟨s,⟨ar,hv⟩,hp⟩:=h;change o=_ at ar;subst ar;exact ao1 s hv ca hp
theorem Eb{l:z1'}{j i:Nat}{s:Int}(aC:j<l.length):(l.set j s).getD i 0=if i=j then s else l.getD i 0:=by
 grind
abbrev Y1(fit:List (z1'))(j:Int):z1':=fit.getD j.toNat []
def ao3(qp work:z1')(s:Int):Prop:=qp.getD s.toNat 0<=((OM work s).length:Int)
def ao4(fit:List (z1'))(qp work:z1')(C:Int->Prop):Prop:=∀ j,C j->∀ s∈Y1 fit j,ao3 qp work s/\∀ h∈OM work s,C h
def ao5(n:Nat)(qp work:z1'):Prop:=∀ s,0<=s->s<(n:Int)->((OM work s).length:Int)<=qp.getD s.toNat 0
structure axv(n:Nat)(fit:List (z1'))(qp:z1')(k:Nat)(work:z1'):Prop where
 len:work.length=fit.length
 val:ao5 n qp work
 mem:∀ i:Nat,i<fit.length->work.getD i 0=-1\/work.getD i 0∈Y1 fit (i:Int)
 bY:∀ i:Nat,k<=i->i<fit.length->work.getD i 0=-1
 O0:∃ C,ao4 fit qp work C/\(∀ c,C c->0<=c/\c<(k:Int))/\∀ i:Nat,i<k->work.getD i 0=-1->C (i:Int)
theorem ao6{J i:Nat}(h:i<J):(List.replicate J (-1:Int)).getD i 0=-1:=by
 grind
theorem Y2(a b:Int):(if a=b then 1 else 0)=(if b=a then 1 else (0:Nat)):=by
 grind
def gw(g:z1')(j:Int):Nat:=g.countP λx=>decide (x=j)
theorem O1:∀ {g:z1'} {i:Nat} {x:Int} (j:Int),i<g.length->gw (g.set i x) j+(if g.getD i 0=j then 1 else 0)=gw g j+(if x=j then 1 else 0)
 | [],i,x,j,h=>by grind
 | y::g,0,x,j,h=>by
  unfold gw;grind
 | y::g,i+1,x,j,h=>by
  have:=O1 (g:=g) (i:=i) (x:=x) j (by grind);unfold gw at *
  grind
theorem ao7{g:z1'}{i:Nat}{j:Int}(G:i<g.length)(h:g.getD i 0=j):0<gw g j:=by
 unfold gw;grind
def nQ(gd:Nat->Int->Bool)(rec:Int->kM->Bool×kM)(own:Int)(i:Nat)(st:kM):aa kM (Bool×kM):=
 if (decide (cx st.2 (i:Int) > 0)||!gd i own)=true then .next st
 else if decide (st.1.getD i 0=-1)=true then .done (true,(st.1.set i own,eN st.2 (i:Int) (cx st.2 (i:Int)+1)))
 else if (rec (st.1.getD i 0) (st.1,eN st.2 (i:Int) (cx st.2 (i:Int)+1))).1=true then .done (true,((rec (st.1.getD i 0) (st.1,eN st.2 (i:Int) (cx st.2 (i:Int)+1))).2.1.set i own,(rec (st.1.getD i 0) (st.1,eN st.2 (i:Int) (cx st.2 (i:Int)+1))).2.2))
 else .next (rec (st.1.getD i 0) (st.1,eN st.2 (i:Int) (cx st.2 (i:Int)+1))).2
def jM(gd:Nat->Int->Bool)(m:Nat):Nat->Int->kM->Bool×kM
 | 0=>λ_ st=>(false,st)
 | f+1=>λown st=>eD (nQ gd (jM gd m f) own) (λst=>(false,st)) (List.range m) st
def O2(m J:Nat)(g:z1'):Prop:=∀ i,i<m->g.getD i 0=-1\/(0<=g.getD i 0/\g.getD i 0<(J:Int))
structure x'(m J f:Nat)(st:kM):Prop where
 len:st.1.length=m
 lP:O2 m J st.1
 seen:∀ k,0<=cx st.2 k/\cx st.2 k<=1
 bW:rl m st.2<f
structure O3(m J:Nat)(st r:kM):Prop where
 len:r.1.length=m
 lP:O2 m J r.1
 seen:∀ k,cx st.2 k<=cx r.2 k/\cx r.2 k<=1
def Y3(gd:Nat->Int->Bool)(m:Nat)(g:z1')(C:Int->Prop):Prop:=∀ j,C j->∀ i,i<m->gd i j=true->g.getD i 0≠-1/\C (g.getD i 0)
def Y4(gd:Nat->Int->Bool)(m:Nat)(g:z1')(s s':z4'):Prop:=∀ i,i<m->cx s (i:Int)=0->1<=cx s' (i:Int)->g.getD i 0≠-1/\∀ k,k<m->gd k (g.getD i 0)=true->1<=cx s' (k:Int)
structure O4(gd:Nat->Int->Bool)(m:Nat)(own:Int)(st:kM)(r:Bool×kM):Prop where
 no:r.1=false->r.2.1=st.1/\(∀ i,i<m->gd i own=true->1<=cx r.2.2 (i:Int))/\Y4 gd m st.1 st.2 r.2.2
 Y5:r.1=true->(∀ i,i<m->r.2.1.getD i 0=st.1.getD i 0\/(cx st.2 (i:Int)=0/\gd i (r.2.1.getD i 0)=true))/\∀ j,j≠-1->gw r.2.1 j=gw st.1 j+(if j=own then 1 else 0)
 cl:∀ C,Y3 gd m st.1 C->(C own->r.1=false)/\(r.1=true->∀ i,i<m->r.2.1.getD i 0≠st.1.getD i 0->∀ c,C c->gd i c=false)
def Y6(gd:Nat->Int->Bool)(m J f:Nat)(rec:Int->kM->Bool×kM):Prop:=∀ own st,0<=own->own<(J:Int)->x' m J f st->O3 m J st (rec own st).2/\O4 gd m own st (rec own st)
theorem ao8{gd:Nat->Int->Bool}{m J f:Nat}{rec:Int->kM->Bool×kM}(DN:Y6 gd m J f rec){own:Int}(Y7:0<=own)(Y8:own<(J:Int)){st:kM}(h0:x' m J (f+1) st) :
  O3 m J st (eD (nQ gd rec own) (λst=>(false,st)) (List.range m) st).2/\O4 gd m own st (eD (nQ gd rec own) (λst=>(false,st)) (List.range m) st):=by
 refine an2 (λk b=>b.1=st.1/\(∀ q,cx st.2 q<=cx b.2 q/\cx b.2 q<=1)/\(∀ i,i<k->i<m->gd i own=true->1<=cx b.2 (i:Int))/\Y4 gd m st.1 st.2 b.2)
  (λr:Bool×kM=>O3 m J st r.2/\O4 gd m own st r) (List.range m) st ⟨rfl,λq=>⟨Int.le_refl _,(h0.seen q).2⟩,λi G=>by omega,λi _ h1 h2=>by omega⟩ (λi G b ab=>?_) λb ab=>?_
 ·obtain⟨hw,mO,If,kU⟩:=ab;have G:i<m:=by grind
  rw[List.getElem_range];have u2:∀ q,0<=cx b.2 q:=λq=>Int.le_trans (h0.seen q).1 (mO q).1;unfold nQ;by_cases hc:(decide (cx b.2 (i:Int) > 0)||!gd i own)=true
  ·grind
  ·rw[if_neg hc];simp only[Bool.or_eq_true,not_or,decide_eq_true_eq,Bool.not_eq_true',Bool.not_eq_false]at hc;obtain⟨a_,az⟩:=hc;have a_:cx b.2 (i:Int)=0:=by grind
   have Ko:cx st.2 (i:Int)=0:=by have:=(mO i).1;have:=(h0.seen i).1;omega
   have pX:i<st.1.length:=by rw[h0.len];exact G
   have j2:∀ q,cx b.2 q<=cx (eN b.2 (i:Int) (cx b.2 (i:Int)+1)) q/\cx (eN b.2 (i:Int) (cx b.2 (i:Int)+1)) q<=1:=λq=>by
    have:=mO q;rw[AM];omega
   have axw:cx (eN b.2 (i:Int) (cx b.2 (i:Int)+1)) (i:Int)=1:=by rw[AM,if_pos rfl,a_];rfl
   by_cases ar:st.1.getD i 0=-1
   ·rw[hw,if_pos (by grind)];refine⟨⟨by show (st.1.set i own).length=m;rw[List.length_set];exact h0.len,λk ao=>?_,λq=>⟨Int.le_trans (mO q).1 (j2 q).1,(j2 q).2⟩⟩,λh=>(by cases h),λ_=>⟨λk ao=>?_,λj aC=>?_⟩,λC iZ=>⟨λO5=>?_,λ_ k ao dZ c hc=>?_⟩⟩
    ·show (st.1.set i own).getD k 0=-1\/(0<=(st.1.set i own).getD k 0/\(st.1.set i own).getD k 0<(J:Int))
     rw[Eb pX];split
     ·omega
     ·exact h0.lP k ao
    ·grind
    ·have:=O1 (x:=own) j pX;grind
    ·exact absurd ar (iZ own O5 i G az).1
    ·change (st.1.set i own).getD k 0≠_ at dZ;rw[Eb pX]at dZ;split at dZ
     ·rename_i e;subst e;cases O6:gd k c with
      | false=>rfl
      | true=>exact absurd ar (iZ c hc k G O6).1
     omega
   ·rw[hw,if_neg (by grind)];have iw:=(h0.lP i G).resolve_left ar;have vT:x' m J f (st.1,eN b.2 (i:Int) (cx b.2 (i:Int)+1)):=by
     refine⟨h0.len,h0.lP,λq=>⟨Int.le_trans (u2 q) (j2 q).1,(j2 q).2⟩,?_⟩;have h1:=YK (n:=m) (m:=b.2) (s:=(i:Int)) (v:=cx b.2 (i:Int)+1) (by omega) (by omega) a_ (by omega);have h2:=YL (n:=m) (a:=st.2) (b:=b.2) λk=>⟨(h0.seen k).1,(mO k).1⟩
     have h3:=h0.bW;grind
    obtain⟨hp,V⟩:=DN (st.1.getD i 0) _ iw.1 iw.2 vT;revert hp V;generalize rec (st.1.getD i 0) (st.1,eN b.2 (i:Int) (cx b.2 (i:Int)+1))=r;intro hp V;have xl:∀ q,cx (eN b.2 (i:Int) (cx b.2 (i:Int)+1)) q<=cx r.2.2 q:=λq=>(hp.seen q).1;by_cases bw:r.1=true
    ·rw[if_pos bw];obtain⟨kz,AT⟩:=V.Y5 bw;have tp:i<r.2.1.length:=by rw[hp.len];exact G
     have B1:r.2.1.getD i 0=st.1.getD i 0:=by
      grind
     refine⟨⟨by show (r.2.1.set i own).length=m;rw[List.length_set];exact hp.len,λk ao=>?_,λq=>⟨Int.le_trans (mO q).1 (Int.le_trans (j2 q).1 (xl q)),(hp.seen q).2⟩⟩,λh=>(by cases h),λ_=>⟨λk ao=>?_,λj aC=>?_⟩,λC iZ=>⟨λO5=>?_,λ_ k ao dZ c hc=>?_⟩⟩
     ·show (r.2.1.set i own).getD k 0=-1\/(0<=(r.2.1.set i own).getD k 0/\(r.2.1.set i own).getD k 0<(J:Int))
      rw[Eb tp];split
      ·omega
      ·exact hp.lP k ao
     ·show (r.2.1.set i own).getD k 0=_\/(_/\gd k ((r.2.1.set i own).getD k 0)=true)
      rw[Eb tp];split
      ·grind
      ·rcases kz k ao with e | ⟨e1,e2⟩
       ·grind
       ·right;refine⟨?_,e2⟩;have a:=(j2 (k:Int)).1;have d:=mO (k:Int);have c:=(h0.seen (k:Int)).1;grind
     ·have a:=O1 (x:=own) j tp;have d:=AT j aC;change gw r.2.1 j=gw st.1 j+_ at d;rw[B1]at a;show gw (r.2.1.set i own) j=_;rw[Y2 j own];rw[Y2 j (st.1.getD i 0)]at d;omega
     ·have:=(V.cl C iZ).1 (iZ own O5 i G az).2;grind
     ·change (r.2.1.set i own).getD k 0≠_ at dZ;rw[Eb tp]at dZ;split at dZ
      ·rename_i e;subst e;cases O6:gd k c with
       | false=>rfl
       | true=>
        have:=(V.cl C iZ).1 (iZ c hc k G O6).2;grind
      ·exact (V.cl C iZ).2 bw k ao dZ c hc
    ·rw[if_neg bw];have Cr:r.1=false:=by grind
     obtain⟨Ct,axx,ao9⟩:=V.no Cr;refine⟨Ct,λq=>⟨Int.le_trans (mO q).1 (Int.le_trans (j2 q).1 (xl q)),(hp.seen q).2⟩,λk ao O7 Ge=>?_,λk O7 e0 e1=>?_⟩
     ·grind
     ·by_cases e:k=i
      ·grind
      ·by_cases e2:1<=cx b.2 (k:Int)
       ·obtain⟨a,c⟩:=kU k O7 e0 e2;grind
       ·refine ao9 k O7 ?_ e1;show cx (eN b.2 (i:Int) (cx b.2 (i:Int)+1)) (k:Int)=0;rw[AM,if_neg (by omega)];grind
 ·obtain⟨hw,mO,If,kU⟩:=ab;rw[List.length_range]at If;refine⟨⟨by rw[hw];exact h0.len,by rw[hw];exact h0.lP,mO⟩,λ_=>⟨hw,λi G az=>If i G G az,kU⟩,λh=>(by cases h),λC iZ=>⟨λ_=>rfl,λh=>(by cases h)⟩⟩
theorem O8{gd:Nat->Int->Bool}{m J:Nat}:∀ f,Y6 gd m J f (jM gd m f)
 | 0=>λown st _ _ h=>absurd h.bW (by omega)
 | f+1=>λown st h0 h1 h=>ao8 (O8 f) h0 h1 h
def ya(gd:Nat->Int->Bool)(m F:Nat)(st:z1'×Int)(j:Nat):z1'×Int:=((jM gd m F (j:Int) (st.1,[])).2.1,if (jM gd m F (j:Int) (st.1,[])).1=true then st.2 else st.2+1)
def O9(gd:Nat->Int->Bool)(m J F:Nat):z1'×Int:=(List.range J).foldl (ya gd m F) (List.replicate m (-1),0)
structure Ec(gd:Nat->Int->Bool)(m J k:Nat)(st:z1'×Int):Prop where
 len:st.1.length=m
 lP:∀ i,i<m->st.1.getD i 0=-1\/(0<=st.1.getD i 0/\st.1.getD i 0<(k:Int)/\gd i (st.1.getD i 0)=true)
 one:∀ j,0<=j->gw st.1 j<=1
 num:st.2=(((List.range k).countP λ(j:Nat)=>decide (gw st.1 (j:Int)=0):Nat):Int)
 O0:∃ C,Y3 gd m st.1 C/\(∀ c,C c->0<=c/\c<(k:Int))/\∀ j:Nat,j<k->gw st.1 (j:Int)=0->C (j:Int)
theorem Y9{gd:Nat->Int->Bool}{m J F k:Nat}(bb:m<F)(ao:k<J){st:z1'×Int}(h:Ec gd m J k st):Ec gd m J (k+1) (ya gd m F st k):=by
 obtain⟨g,n⟩:=st;have hu:rl m []<=m:=by
  unfold rl;exact Nat.le_trans List.countP_le_length (by simp)
 have vT:x' m J F (g,[]):=⟨h.len,λi G=>by have:=h.lP i G;grind,λq=>⟨Int.le_refl _,by show (0:Int)<=1;decide⟩,by grind⟩
 obtain⟨hp,V⟩:=O8 F (k:Int) (g,[]) (by omega) (by omega) vT;unfold ya;revert hp V;generalize jM gd m F (k:Int) (g,[])=r;intro hp V;have lz:gw g (k:Int)=0:=by
  unfold gw;rw[List.countP_eq_zero];intro x hx;obtain⟨i,G,rfl⟩:=List.mem_iff_getElem.1 hx;have:=h.lP i (by rw[<-h.len];exact G);grind
 obtain⟨C,iZ,axy,axz⟩:=h.O0;by_cases ab:r.1=true
 ·obtain⟨kz,AT⟩:=V.Y5 ab;have axA:=(V.cl C iZ).2 ab;refine⟨hp.len,λi G=>?_,λj aC=>?_,?_,C,λc tB i G Ed=>?_,λc tB=>?_,λj aC hu=>?_⟩
  ·show r.2.1.getD i 0=-1\/_;rcases kz i G with e | ⟨e1,e2⟩
   ·rw[e];rcases h.lP i G with a | a
    ·exact .inl a
    ·exact .inr ⟨a.1,by have:=a.2.1;show g.getD i 0<_;change g.getD i 0<_ at this;omega,a.2.2⟩
   ·by_cases j2:r.2.1.getD i 0=-1
    ·omega
    ·refine .inr ⟨?_,?_,e2⟩
     ·have:=(hp.lP i G).resolve_left j2;grind
     ·have h1:=AT _ j2;have h2:0<gw r.2.1 (r.2.1.getD i 0):=ao7 (by rw[hp.len];exact G) rfl;by_cases e:r.2.1.getD i 0=(k:Int)
      ·grind
      ·rw[if_neg e]at h1;have h3:0<gw g (r.2.1.getD i 0):=by grind
       unfold gw at h3;rw[List.countP_pos_iff]at h3;obtain⟨x,hx,eK⟩:=h3;obtain⟨q,be,rfl⟩:=List.mem_iff_getElem.1 hx;have:=h.lP q (by rw[<-h.len];exact be);grind
  ·have h1:=AT j (by omega);have h2:=h.one j aC;change gw r.2.1 j=gw g j+_ at h1;change gw g j<=1 at h2;show gw r.2.1 j<=1;by_cases e:j=(k:Int)
   ·subst e;rw[if_pos rfl]at h1;omega
   ·rw[if_neg e]at h1;omega
  ·rw[if_pos ab];have h1:=h.num;change n=_ at h1;show n=_;rw[h1,List.range_succ,List.countP_append];have h2:∀ j:Nat,j<k->gw r.2.1 (j:Int)=gw g (j:Int):=λj aC=>by
    have:=AT (j:Int) (by omega);rw[if_neg (by omega)]at this;omega
   have h3:gw r.2.1 (k:Int)=1:=by
    grind
   have aR:(List.range k).countP (λ(j:Nat)=>decide (gw r.2.1 (j:Int)=0))=(List.range k).countP (λ(j:Nat)=>decide (gw g (j:Int)=0)):=List.countP_congr λj aC=>by grind
   simp_all
  ·show r.2.1.getD i 0≠-1/\C (r.2.1.getD i 0);by_cases e:r.2.1.getD i 0=g.getD i 0
   ·rw[e];exact iZ c tB i G Ed
   grind
  ·grind
  ·change gw r.2.1 (j:Int)=0 at hu;have h1:=AT (j:Int) (by omega);change gw r.2.1 _=gw g _+_ at h1;by_cases e:j=k
   ·grind
   ·rw[if_neg (by omega)]at h1;grind
 ·have Cr:r.1=false:=by grind
  obtain⟨hw,If,kU⟩:=V.no Cr;change r.2.1=g at hw;simp only[hw];refine⟨h.len,λi G=>?_,h.one,?_,λc=>C c\/c=(k:Int)\/∃ i,i<m/\1<=cx r.2.2 (i:Int)/\c=g.getD i 0,λc tB i G Ed=>?_,λc tB=>?_,λj aC hu=>?_⟩
  ·rcases h.lP i G with a | a
   ·exact .inl a
   ·exact .inr ⟨a.1,by have:=a.2.1;show g.getD i 0<_;change g.getD i 0<_ at this;omega,a.2.2⟩
  ·rw[if_neg ab];have h1:=h.num;change n=_ at h1;show n+1=_;rw[h1,List.range_succ,List.countP_append];grind
  ·have aA:1<=cx r.2.2 (i:Int)->g.getD i 0≠-1/\(C (g.getD i 0)\/g.getD i 0=(k:Int)\/∃ q,q<m/\1<=cx r.2.2 (q:Int)/\g.getD i 0=g.getD q 0):=λhs=>⟨(kU i G rfl hs).1,.inr (.inr ⟨i,G,hs,rfl⟩)⟩
   rcases tB with e | e | ⟨q,be,hs,e⟩
   ·exact⟨(iZ c e i G Ed).1,.inl (iZ c e i G Ed).2⟩
   ·grind
   ·subst e;exact aA ((kU q be rfl hs).2 i G Ed)
  ·rcases tB with e | e | ⟨q,be,hs,e⟩
   ·grind
   ·omega
   ·have:=(h.lP q be).resolve_left (kU q be rfl hs).1;grind
  grind
theorem ao_(gd:Nat->Int->Bool)(m J F:Nat)(bb:m<F):Ec gd m J J (O9 gd m J F):=by
 unfold O9;have key:∀ k,k<=J->Ec gd m J k ((List.range k).foldl (ya gd m F) (List.replicate m (-1),0)):=by
  intro k;induction k with
  | zero=>
   intro _;refine⟨by simp,λi G=>.inl (ao6 G),λj aC=>?_,by simp,λ_=>False,λ_ h=>h.elim,λ_ h=>h.elim,λj aC=>by omega⟩;show gw (List.replicate m (-1)) j<=1;have:gw (List.replicate m (-1)) j=0:=by
    unfold gw;grind
   omega
  | succ k aG=>
   intro ao;rw[List.range_succ,List.foldl_append];exact Y9 bb (by omega) (aG (by omega))
 grind
def rq(t:Sto)(sp:Int×Int)(j:rn):Bool:=decide (sp.2<=j.2.2)&&decide ((oD t.2.2 (sp.1,j.1,j.2.1)).getD 0 > 0)
abbrev fcGood:aJ:=⟨.ax vQ (.ax H5 Ib),cQ,λx=>∃ t,x.1=some t,λx=>rq (x.1.getD x9) x.2.1 x.2.2⟩
theorem ao'(x):M.le (Vl x) (fcGood.sh x):=M.bh λh=>by
 obtain⟨o,sp,j⟩:=x;obtain⟨t,ar⟩:=h;change o=_ at ar;subst ar;unfold Vl;simp only[Option.isSome_some,Option.getD_some,and_true,true_and,and_self,imp_self,implies_true,M.bg];rfl
def Ee(t:Sto)(l:List rn):Bool:=l.all λj=>(List.range t.1.2.1.length).any λ(i:Nat)=>rq t ((i:Int),0) j
abbrev O_:aJ:=⟨.ax vQ (.slice Ib),cQ,λx=>∃ t,x.1=some t/\t.1.2.1.length<2 ^ 63/\x.2.length<2 ^ 63,λx=>Ee (x.1.getD x9) x.2⟩
theorem apa(t:Sto)(l:List rn)(h1:t.1.2.1.length<2 ^ 63)(h2:l.length<2 ^ 63):Nd fcGood.sh (some t,l)=M.pure (Ee t l):=by
 unfold Nd;rw[M.dk l (λi (_:Unit)=>(some t,l,(l.length:Int),(i:Int),())) (λj b=>if (!(List.range t.1.2.1.length).any λ(i:Nat)=>rq t ((i:Int),0) j)=true then .done (.done false) else .next b) (λ_=>.next ()) () ?_ ?_ ?_]
 ·rw[kC (q:=λj=>(List.range t.1.2.1.length).any λ(i:Nat)=>rq t ((i:Int),0) j) _ _ (λ_=>rfl)];unfold Ee;cases l.all λj=>(List.range t.1.2.1.length).any λ(i:Nat)=>rq t ((i:Int),0) j<;>simp
 ·rfl
 ·intro i G b;have hw:=bo (n:=(i:Int)+1) (by omega) (by omega);simp only[bJ,cE G,if_true,cT G,cq G,M.bg,Option.isSome_some,Option.getD_some];rw[M.dk (List.range t.1.2.1.length) (λk (b:Bool)=>(some t,b,l,(l.length:Int),(i:Int),(t.1.2.1.length:Int),(k:Int),l[i],())) (λ(k:Nat) b=>.next (b||rq t ((k:Int),0) l[i])) (λb=>.next (some t,b,l,(l.length:Int),(i:Int),())) false ?_ ?_ ?_]
  ·rw[dM];have e:∀ (r:List Nat) (b:Bool),r.foldl (λ(b:Bool) (k:Nat)=>b||rq t ((k:Int),0) l[i]) b=(b||r.any λ(k:Nat)=>rq t ((k:Int),0) l[i]):=by
    intro r;induction r with
    | nil=>simp
    | cons k r aG=>grind
   rw[e,Bool.false_or];simp only[M.aE,M.bK];cases (List.range t.1.2.1.length).any λ(k:Nat)=>rq t ((k:Int),0) l[i]<;>simp[aa.gS,hw]
  ·rfl
  ·intro k ao b;have ao:k<t.1.2.1.length:=by grind
   have mf:=bo (n:=(k:Int)+1) (by omega) (by omega);simp only[cE ao,if_true,List.getElem_range,aJ.sh,M.iN,M.dm];rw[M.bp (by simp)];simp only[Option.getD_some,b7,mf,aa.gS];grind
  simp
 simp
theorem apb(x):M.le (Nd fcGood.sh x) (O_.sh x):=M.bh λh=>by
 obtain⟨o,l⟩:=x;obtain⟨t,ar,h1,h2⟩:=h;change o=_ at ar;subst ar;exact apa t l h1 h2
def gI(t:Sto)(l:List rn)(i:Nat)(j:Int):Bool:=rq t (t.2.1.getD i (0,0)) (l.getD j.toNat (0,0,0))
abbrev O':=Option Sto×List rn×Int×z4'×z1'×Unit
abbrev Y_:=Bool×z4'×z1'×Unit
def uk(r:Bool×kM):Y_:=(r.1,r.2.2,r.2.1,())
def Pa(f:Nat)(x:O'):Prop:=∃ t,x.1=some t/\t.2.1.length<=200/\x.2.1.length<=1000/\0<=x.2.2.1/\x.2.2.1<(x.2.1.length:Int)/\x' t.2.1.length x.2.1.length f (x.2.2.2.2.1,x.2.2.2.1)
def um(f:Nat)(x:O'):M Y_:=M.du (Pa f x) (uk (jM (gI (x.1.getD x9) x.2.1) (x.1.getD x9).2.1.length f x.2.2.1 (x.2.2.2.2.1,x.2.2.2.1)))
theorem apc{t:Sto}{l:List rn}(an:t.2.1.length<=200)(ai:l.length<=1000){f:Nat}{own:Int}(Y7:0<=own)(Y8:own<(l.length:Int)){st:kM}(h0:x' t.2.1.length l.length (f+1) st) :
  Nn fcGood.sh (um f) (some t,l,own,st.2,st.1,())=M.pure (uk (jM (gI t l) t.2.1.length (f+1) own st)):=by
 have DN:=O8 (gd:=gI t l) (m:=t.2.1.length) (J:=l.length) f;unfold Nn;simp only[bJ,M.bg,an3,Option.isSome_some,Option.getD_some];rw[M.gg (List.range t.2.1.length) (λi (b:kM)=>(some t,l,own,t.2.1,(t.2.1.length:Int),(i:Int),b.2,b.1,())) (λi b=>aa.uh (λr=>.done (uk r)) (nQ (gI t l) (jM (gI t l) t.2.1.length f) own i b)) (λb=>.next (b.2,b.1,())) (λi b=>b.1=st.1/\∀ q,cx st.2 q<=cx b.2 q/\cx b.2 q<=1) st ?_ ?_ ?_ ?_]
 ·show _=M.pure (uk (eD (nQ (gI t l) (jM (gI t l) t.2.1.length f) own) (λst=>(false,st)) (List.range t.2.1.length) st));rw[ON,ON,YM];cases x4 (nQ (gI t l) (jM (gI t l) t.2.1.length f) own) (List.range t.2.1.length) st<;>(simp only[aa.uh,aa.fin,M.aE,M.bK,M.pb];try rfl)
 ·rfl
 ·exact⟨rfl,λq=>⟨Int.le_refl _,(h0.seen q).2⟩⟩
 ·intro i G b ab;have G:i<t.2.1.length:=by grind
  have k_:=bo (n:=(i:Int)+1) (by omega) (by omega);rw[List.getElem_range];have apd:b.1.length=t.2.1.length:=by rw[ab.1];exact h0.len
  have ej:i<b.1.length:=by omega
  have ape:0<=own/\own<(l.length:Int):=⟨Y7,Y8⟩
  have kz:=ab.2 (i:Int);have mG:=h0.seen (i:Int);simp only[bJ,cE G,if_true,cq G,cq ej,M.bg,ape,aJ.sh,M.nJ,M.gp,Int.toNat_natCast,Option.getD_some];have yZ:rq t (t.2.1.getD i (0,0)) (l.getD own.toNat (0,0,0))=gI t l i own:=rfl;rw[yZ];have apf:(∃ cC,(some t:Option Sto)=some cC)=True:=by simp
  simp only[apf,and_true,true_and,and_self,imp_self,implies_true,M.bg];by_cases Ig:cx b.2 (i:Int) > 0
  ·have hu:nQ (gI t l) (jM (gI t l) t.2.1.length f) own i b=.next b:=by unfold nQ;grind
   rw[hu];refine⟨?_,λaZ cS=>by cases cS;exact ab⟩;simp only[Ig,decide_true,Bool.true_or,if_true,M.aE,M.bK,b7,k_,aa.gS,aa.uh,Bool.not_true,Bool.false_eq_true,false_imp_iff,Bool.true_eq_false,M.bg,and_self,implies_true];rfl
  ·by_cases az:gI t l i own=true
   ·have a_:cx b.2 (i:Int)=0:=by omega
    have H_:=bo (n:=cx b.2 (i:Int)+1) (by omega) (by omega);have j2:∀ q,cx b.2 q<=cx (eN b.2 (i:Int) (cx b.2 (i:Int)+1)) q/\cx (eN b.2 (i:Int) (cx b.2 (i:Int)+1)) q<=1:=λq=>by
     have:=ab.2 q;rw[AM];omega
    have J2:¬(decide (cx b.2 (i:Int) > 0)||!gI t l i own)=true:=by grind
    by_cases ar:b.1.getD i 0=-1
    ·have hu:nQ (gI t l) (jM (gI t l) t.2.1.length f) own i b=.done (true,(b.1.set i own,eN b.2 (i:Int) (cx b.2 (i:Int)+1))):=by
      unfold nQ;grind
     rw[hu];refine⟨?_,λaZ cS=>by cases cS⟩;simp only[Ig,az,ar,decide_true,decide_false,Bool.not_true,Bool.not_false,Bool.or_self,Bool.false_eq_true,if_false,if_true,false_imp_iff,Bool.true_eq_false,Bool.true_or,M.bg,M.aE,M.pb,b7,H_,cq ej,aa.gS,aa.uh,and_self,implies_true,true_imp_iff];rfl
    ·have axB:=h0.lP i G;have aC:0<=b.1.getD i 0/\b.1.getD i 0<(l.length:Int):=by grind
     have vT:x' t.2.1.length l.length f (b.1,eN b.2 (i:Int) (cx b.2 (i:Int)+1)):=by
      refine⟨apd,?_,λk=>⟨?_,(j2 k).2⟩,?_⟩
      ·show O2 _ _ b.1;rw[ab.1];exact h0.lP
      ·have:=(j2 k).1;have:=ab.2 k;have:=(h0.seen k).1;grind
      ·have h1:=YK (n:=t.2.1.length) (m:=b.2) (s:=(i:Int)) (v:=cx b.2 (i:Int)+1) (by omega) (by omega) a_ (by omega);have h2:=YL (n:=t.2.1.length) (a:=st.2) (b:=b.2) λk=>⟨(h0.seen k).1,(ab.2 k).1⟩
       have h3:=h0.bW;grind
     obtain⟨zG,apg⟩:=DN (b.1.getD i 0) (b.1,eN b.2 (i:Int) (cx b.2 (i:Int)+1)) aC.1 aC.2 vT;have gm:Pa f (some t,l,b.1.getD i 0,eN b.2 (i:Int) (cx b.2 (i:Int)+1),b.1,()):=⟨t,rfl,an,ai,aC.1,aC.2,vT⟩
     have u':um f (some t,l,b.1.getD i 0,eN b.2 (i:Int) (cx b.2 (i:Int)+1),b.1,())=M.pure (uk (jM (gI t l) t.2.1.length f (b.1.getD i 0) (b.1,eN b.2 (i:Int) (cx b.2 (i:Int)+1)))):=M.bF gm _;simp only[Ig,az,ar,decide_true,decide_false,Bool.not_true,Bool.not_false,Bool.or_self,Bool.false_eq_true,if_false,if_true,false_imp_iff,Bool.true_eq_false,Bool.false_or,M.bg,b7,H_,and_self,implies_true,true_imp_iff,u',M.aE];have tp:(jM (gI t l) t.2.1.length f (b.1.getD i 0) (b.1,eN b.2 (i:Int) (cx b.2 (i:Int)+1))).2.1.length=t.2.1.length:=zG.len;have axC:=zG.seen;have axD:=apg.no;have Y':nQ (gI t l) (jM (gI t l) t.2.1.length f) own i b=if (jM (gI t l) t.2.1.length f (b.1.getD i 0) (b.1,eN b.2 (i:Int) (cx b.2 (i:Int)+1))).1=true then .done (true,((jM (gI t l) t.2.1.length f (b.1.getD i 0) (b.1,eN b.2 (i:Int) (cx b.2 (i:Int)+1))).2.1.set i own,(jM (gI t l) t.2.1.length f (b.1.getD i 0) (b.1,eN b.2 (i:Int) (cx b.2 (i:Int)+1))).2.2)) else .next (jM (gI t l) t.2.1.length f (b.1.getD i 0) (b.1,eN b.2 (i:Int) (cx b.2 (i:Int)+1))).2:=by
      unfold nQ;grind
     rw[Y'];clear Y' u';generalize jM (gI t l) t.2.1.length f (b.1.getD i 0) (b.1,eN b.2 (i:Int) (cx b.2 (i:Int)+1))=r at *
     obtain⟨ok,g',s'⟩:=r;have pX:i<g'.length:=by grind
     cases ok with
     | true=>
      refine⟨?_,λaZ cS=>by cases cS⟩;simp only[uk,if_true,cq pX,M.bg,M.aE,M.pb,aa.gS,aa.uh]
     | false=>
      refine⟨?_,λaZ cS=>?_⟩
      ·simp only[uk,Bool.false_eq_true,if_false,M.aE,M.bK,b7,k_,aa.gS,aa.uh];rfl
      ·cases cS;grind
   ·have hu:nQ (gI t l) (jM (gI t l) t.2.1.length f) own i b=.next b:=by unfold nQ;grind
    rw[hu];refine⟨?_,λaZ cS=>by cases cS;exact ab⟩;simp only[Ig,az,decide_false,Bool.not_false,Bool.or_true,if_true,M.aE,M.bK,b7,k_,aa.gS,aa.uh,Bool.false_eq_true,M.bg,and_self,implies_true];rfl
 simp
theorem aph(f:Nat)(x):M.le (Nn fcGood.sh (um f) x) (um (f+1) x):=M.bh λh=>by
 obtain⟨o,l,own,seen,g,u⟩:=x;obtain⟨t,ar,an,ai,h0,h1,vT⟩:=h;change o=_ at ar;subst ar;exact apc (st:=(g,seen)) an ai h0 h1 vT
theorem api(x:O'):¬(um 0 x).b8:=λ⟨_,_,_,_,_,_,h⟩=>absurd h.bW (by omega)
def yb(t:Sto)(l:List rn):Int:=(O9 (gI t l) t.2.1.length l.length 201).2
abbrev Ih:aJ:=⟨.ax vQ (.slice Ib),tI,λx=>∃ t,x.1=some t/\t.2.1.length<=200/\x.2.length<=1000,λx=>yb (x.1.getD x9) x.2⟩
theorem apj(t:Sto)(l:List rn)(an:t.2.1.length<=200)(ai:l.length<=1000):Nf vM (um 201) (some t,l)=M.pure (yb t l):=by
 unfold Nf;simp only[bJ,Option.isSome_some,Option.getD_some,M.bg];unfold vM;simp only[M.dm];rw[M.bp (by grind)];simp only[Int.toNat_natCast];rw[M.gg (List.range l.length) (λi (b:z1'×Int)=>(some t,l,b.2,(l.length:Int),(i:Int),b.1,())) (λi b=>.next (ya (gI t l) t.2.1.length 201 b i)) (λb=>.next (b.2,())) (λi b=>Ec (gI t l) t.2.1.length l.length i b/\0<=b.2/\b.2<=(i:Int)) (List.replicate t.2.1.length (-1),0) ?_ ?_ ?_ ?_]
 ·rw[dM,M.aE,M.bK];rfl
 ·rfl
 ·refine⟨?_,by simp⟩;have:=ao_ (gI t l) t.2.1.length 0 201 (by omega);exact⟨this.len,this.lP,this.one,this.num,this.O0⟩
 ·intro i G b ab;have G:i<l.length:=by grind
  have k_:=bo (n:=(i:Int)+1) (by omega) (by omega);rw[List.getElem_range];obtain⟨g,n⟩:=b;obtain⟨ab,rR,pY⟩:=ab;change 0<=n at rR;change n<=(i:Int) at pY;have AL:=bo (n:=n+1) (by omega) (by omega);have gm:Pa 201 (some t,l,(i:Int),[],g,()):=by
   refine⟨t,rfl,an,ai,Int.natCast_nonneg i,Int.ofNat_lt.2 G,ab.len,λk ao=>?_,λk=>by show 0<=cx [] k/\cx [] k<=1;simp[cx,ug],?_⟩
   ·rcases ab.lP k ao with h | h
    ·exact .inl h
    ·exact .inr ⟨h.1,Int.lt_trans h.2.1 (Int.ofNat_lt.2 G)⟩
   ·have:rl t.2.1.length []<=t.2.1.length:=by
     unfold rl;exact Nat.le_trans List.countP_le_length (by simp)
    grind
  have u':um 201 (some t,l,(i:Int),[],g,())=M.pure (uk (jM (gI t l) t.2.1.length 201 (i:Int) (g,[]))):=M.bF gm _;have CL:=Y9 (F:=201) (by omega) G ab;refine⟨?_,λaZ cS=>?_⟩
  ·simp only[cE G,if_true,u',M.aE,uk];unfold ya;cases cp:(jM (gI t l) t.2.1.length 201 (i:Int) (g,[])).1 with
   | true=>
    simp_all
   | false=>
    simp_all
  ·cases cS;refine⟨CL,?_⟩;have e1:(0:Int)<=n+1:=by omega
   have e2:n+1<=((i+1:Nat):Int):=by omega
   have e3:n<=((i+1:Nat):Int):=by omega
   unfold ya;omega
 simp
theorem apk(x):M.le (Nf vM (um 201) x) (Ih.sh x):=M.bh λh=>by
 obtain⟨o,l⟩:=x;obtain⟨t,ar,h1,h2⟩:=h;change o=_ at ar;subst ar;exact apj t l h1 h2
theorem Za{s:br}(hv:lO s):(OV s).length<=200:=by
 have h1:∀ (l:List Nat),(∀ i∈l,i<s.2.1.length)->(l.flatMap λ(i:Nat)=>la ((i:Int),0) (s.2.1.getD i 0)).length<=10*l.length:=by
  intro l;induction l with
  | nil=>simp
  | cons i l aG=>
   intro ai;have h1:=aG λj aC=>ai j (by grind);have h2:=ai i (by simp);have h3:=hv.qp _ (List.getElem_mem h2);have jf:s.2.1.getD i 0=s.2.1[i]:=by grind
   rw[List.flatMap_cons,List.length_append,List.length_cons,jf];simp only[la,List.length_replicate];simp only[la]at h1;omega
 have h2:∀ (l:List Dm),(∀ d∈l,oF s.1 d=true)->(l.flatMap λd=>la (d.2.1,d.1) d.2.2).length<=10*l.length:=by
  intro l;induction l with
  | nil=>simp
  | cons d l aG=>
   intro ai;have h1:=aG λj aC=>ai j (by grind);have h3:=ai d (by simp);simp only[oF,bM,Bool.and_eq_true,decide_eq_true_eq]at h3;rw[List.flatMap_cons,List.length_append,List.length_cons];simp only[la,List.length_replicate];simp only[la]at h1;omega
 have a:=h1 (List.range s.2.1.length) λi G=>by grind
 have b:=h2 s.2.2.2.2.1 hv.YS;have c:=hv.YT;have d:=hv.OU;have e:=hv.D_;unfold OV D' YW;grind
theorem Zb{s:br}(hv:lO s){ca:z1'}(hp:nO s ca):(lb s ca).1.length<=24:=by
 unfold lb;split
 ·have:∀ (l:List Nat),(∀ i∈l,i<ca.length)->(l.flatMap λi=>(oG s ca i).getD []).length<=4*l.length:=by
   intro l;induction l with
   | nil=>simp
   | cons i l aG=>
    intro ai;have h1:=aG λj aC=>ai j (by grind);have h2:=ai i (by simp);rw[List.flatMap_cons,List.length_append,List.length_cons];have:((oG s ca i).getD []).length<=4:=by
     cases h:oG s ca i with
     | none=>simp
     | some y=>exact YZ hv hp h2 h
    omega
  have a:=this (List.range ca.length) λi G=>by grind
  rw[List.length_range]at a;have:=hp.1;have:=hv.uj;grind
 ·simp
def pC(s:br)(ca:z1'):Bool:=(lb s ca).2&&decide (yb (cW s) (lb s ca).1=0)
abbrev vU:aJ:=⟨.ax vQ fF,cQ,λx=>∃ s,vS x.1 s/\nO s x.2,λx=>pC (nP x.1) x.2⟩
theorem apl(x):M.le (Ve Ic.sh Ih.sh x) (vU.sh x):=M.bh λh=>by
 obtain⟨o,ca⟩:=x;obtain⟨s,⟨ar,hv⟩,hp⟩:=h;change o=_ at ar;subst ar;unfold Ve;simp only[aJ.sh,M.dm,M.iN];rw[M.bp (by exact⟨s,⟨rfl,hv⟩,hp⟩),M.bp (by exact λ_=>⟨cW s,rfl,Za hv,Nat.le_trans (Zb hv hp) (by omega)⟩)];show M.pure ((lb s ca).2&&decide ((if (lb s ca).2=true then yb (cW s) (lb s ca).1 else 0)=0))=M.pure (pC s ca);unfold pC;grind
def AU(s:br)(first:z1')(p:Nat):Bool:=!(first.contains (p:Int)||decide (sE (mh s (first.length:Int)) (mT s (p:Int))=0))
def j6(s:br)(e:Int):Nat->z1'->List (z1')
 | 0,first=>[first]
 | n+1,first=>((List.range s.2.2.1.length).flatMap λp=>if AU s first p=true then j6 s e n (first++[(p:Int)]) else [])++(if e=0 then [] else j6 s e n (first++[-1]))
abbrev Zc:Type:=Nat×(List (z1')->Prop)×List (z1')×Bool
abbrev Pb:Type:=Option Sto×z1'×Int×Nat×Zc×Unit
abbrev Zd:Type:=Bool×Zc×Unit
structure Pc(f:Nat)(x:Pb)(s:br)(n:Nat)(a b:List (z1')):Prop where
 axE:vS x.1 s
 len:x.2.1.length+n=s.2.2.2.1.length
 bW:n<f
 axF:x.2.2.2.2.1.1=x.2.2.2.1
 bl:x.2.2.2.2.1.2.2.2=false
 seq:x.2.2.2.2.1.2.1=λT=>T=a++j6 s x.2.2.1 n x.2.1++b
 pos:x.2.2.2.2.1.2.2.1=a
def apm(x:Pb)(y:Zd):Prop:=y.2.1.1=x.2.2.2.1/\y.2.1.2.1=x.2.2.2.2.1.2.1/\(y.1=true->y.2.1.2.2.2=false/\y.2.1.2.2.1=x.2.2.2.2.1.2.2.1++j6 (nP x.1) x.2.2.1 ((nP x.1).2.2.2.1.length - x.2.1.length) x.2.1)/\(y.1=false->y.2.1.2.2.2=true)
def rr(f:Nat)(x:Pb):M Zd:=⟨∃ s n a b,Pc f x s n a b,apm x⟩
def lQ(s:br)(e:Int)(n:Nat)(first:z1')(k:Nat):List (z1'):=(List.range k).flatMap λp=>if AU s first p=true then j6 s e n (first++[(p:Int)]) else []
theorem Ii(s:br)(e:Int)(n:Nat)(first:z1')(k:Nat):lQ s e n first (k+1)=lQ s e n first k++(if AU s first k=true then j6 s e n (first++[(k:Int)]) else []):=by
 unfold lQ;rw[List.range_succ,List.flatMap_append];simp
theorem apn(s:br)(e:Int)(n:Nat)(first:z1'){k m:Nat}(h:k<=m):∃ t,lQ s e n first m=lQ s e n first k++t:=by
 induction m with
 | zero=>simp_all
 | succ m aG=>
  by_cases ao:k=m+1
  ·simp_all
  ·obtain⟨t,aH⟩:=aG (by omega);rw[Ii,aH,List.append_assoc];simp
theorem apo{f:Nat}{s:br}(hv:lO s){first:z1'}{e:Int}{l:Nat}{L:List (z1')->Prop}{n:Nat}(hlen:first.length+n=s.2.2.2.1.length)(ar:n<f+1){a b:List (z1')}(iv:L=λT=>T=a++j6 s e n first++b) :
  M.b_ (No vN.sh (rr f) ox.sh (some (cW s),first,e,l,(l,L,a,false),())) λy=>y.2.1.1=l/\y.2.1.2.1=L/\(y.1=true->y.2.1.2.2.2=false/\y.2.1.2.2.1=a++j6 s e n first)/\(y.1=false->y.2.1.2.2.2=true):=by
 have fU:(cW s).1=s:=rfl;have AR:=hv.uj;have apq:=hv.H8;unfold No;simp only[Option.isSome_some,Option.getD_some,M.bg,bJ,fU];cases n with
 | zero=>
  have au:decide ((first.length:Int)=(s.2.2.2.1.length:Int))=true:=by grind
  have az:∃ T,L (a++first::T):=⟨b,by rw[iv];show _=_;simp[j6]⟩
  simp only[au,if_true,true_and,and_self];rw[M.bp az,M.fG];refine⟨⟨true,trivial⟩,λy _=>M.dE.2 ?_⟩;refine⟨rfl,rfl,λh=>?_,λh=>?_⟩
  ·change y=true at h;subst h;exact⟨rfl,rfl⟩
  grind
 | succ n=>
  have au:decide ((first.length:Int)=(s.2.2.2.1.length:Int))=false:=by grind
  simp only[au,Bool.false_eq_true,if_false,M.fG];obtain⟨z,a_⟩:∃ z,j6 s e (n+1) first=lQ s e n first s.2.2.1.length++z:=⟨_,rfl⟩
  refine M.an1 s.2.2.1.length (λk q=>q=(some (cW s),first,e,l,(first.length:Int),s.2.2.1,(s.2.2.1.length:Int),(k:Int),(l,L,a++lQ s e n first k,false),())) ?_ ?_ ?_
  ·show _=_;simp[lQ]
  ·rintro k ao q rfl;have mf:=bo (n:=(k:Int)+1) (by omega) (by omega);have fB:first.length<2 ^ 63:=by omega
   have sF:first.length<s.2.2.2.1.length:=by omega
   have Ie:=OY sF;have AS:List.getD s.2.2.2.1 first.length ([],(0,0),0,0,0)=mh s (first.length:Int):=rfl
   have OZ:s.2.2.1[k]=mT s (k:Int):=by simp[mT,List.getD_eq_getElem?_getD,ao]
   have nH:vN.pre (mh s (first.length:Int),mT s (k:Int)):=hv.gN.2.2.2.2.2.2 _ Ie;have apr:(first.length<2 ^ 63)=True:=by grind
   simp only[cE ao,if_true,cq ao,cT ao,M.bg,aJ.sh,M.nJ,M.gp,apr,fU,Int.toNat_natCast,cq sF,AS,OZ,and_true,true_and,and_self,imp_self,implies_true];have aps:((mh s (first.length:Int)).1.length<2 ^ 63)=True:=by grind
   have apt:List.getD s.2.2.1 k (0,0,0,0,[])=mT s (k:Int):=rfl;have dZ:first.contains (k:Int)=false->(!first.contains (k:Int))=true:=λh=>by grind
   have iw:((0:Int)<=0/\0<=(first.length:Int)/\(first.length:Int)<=(first.length:Int))=True:=by simp
   have kx:List.take first.length first=first:=List.take_length
   have lv:(0<Add.add 0 1/\b6 (Add.add first.length (Add.add 0 1))):=⟨by decide,by show b6 (first.length+1);unfold b6;omega⟩
   have h5:(first.contains (k:Int)||decide (sE (mh s (first.length:Int)) (mT s (k:Int))=0))=!AU s first k:=by unfold AU;simp
   have jz:first.contains (k:Int)=first.contains (k:Int):=rfl
   simp only[Option.isSome_some,Option.getD_some,fU,cq sF,AS,apt,aps,and_true,true_and,and_self,imp_self,implies_true,M.bg,M.bp dZ,h5,iw,kx];rw[M.bp (by omega)];obtain⟨t,aH⟩:=apn s e n first (show k+1<=s.2.2.1.length by omega)
   cases aA:AU s first k with
   | false=>
    simp only[Bool.not_false,if_true,M.aE,M.bK,M.dE,b7,mf];show _=_;rw[Ii,aA];simp
   | true=>
    rw[Ii,aA,if_pos rfl]at aH;simp only[Bool.not_true,Bool.false_eq_true,if_false,M.fG];have DP:Pc f (some (cW s),first++[(k:Int)],e,l,(l,L,a++lQ s e n first k,false),()) s n (a++lQ s e n first k) (t++z++b):=by
     refine⟨⟨rfl,hv⟩,by grind,by omega,rfl,rfl,?_,rfl⟩;grind
    refine⟨⟨s,n,_,_,DP⟩,λy aM=>?_⟩;obtain⟨JJ,⟨yl,Ze,Pd,ys⟩,apu⟩:=y;obtain⟨c_,q2,q3,ui⟩:=aM;change yl=l at c_;change Ze=L at q2;subst c_;subst q2;cases JJ with
    | false=>
     have aR:ys=true:=ui rfl;subst aR;simp only[Bool.not_false,if_true,M.aE,M.dE,M.pb];simp
    | true=>
     obtain⟨bw,cY⟩:=q3 rfl;change ys=false at bw;change Pd=(a++lQ s e n first k)++j6 s e (s.2.2.2.1.length - (first++[(k:Int)]).length) (first++[(k:Int)]) at cY;have u2:s.2.2.2.1.length - (first++[(k:Int)]).length=n:=by grind
     rw[u2]at cY;subst bw;subst cY;simp only[Bool.not_true,Bool.false_eq_true,if_false,M.aE,M.dE,M.bK,b7,mf];show _=_;rw[Ii,aA,if_pos rfl];simp
  ·rintro q rfl;have kx:List.take first.length first=first:=List.take_length
   have iw:((0:Int)<=0/\0<=(first.length:Int)/\(first.length:Int)=(first.length:Int)/\(first.length:Int)<=(first.length:Int))=True:=by simp
   have lv:(0<Add.add 0 1/\b6 (Add.add first.length (Add.add 0 1))):=⟨by decide,by show b6 (first.length+1);unfold b6;omega⟩
   simp only[Int.lt_irrefl,decide_false,Bool.false_eq_true,if_false,M.aE,M.dE,M.bK,iw,kx,Int.toNat_natCast,and_true];by_cases he:e=0
   ·have yX:j6 s e (n+1) first=lQ s e n first s.2.2.1.length:=by
     show lQ s e n first s.2.2.1.length++(if e=0 then [] else j6 s e n (first++[-1]))=_
     grind
    simp only[he,decide_true,Bool.not_true,Bool.false_eq_true,if_false,false_imp_iff,M.bg,Bool.true_or,M.dE,Bool.true_eq_false,and_self,implies_true];grind
   ·have yX:j6 s e (n+1) first=lQ s e n first s.2.2.1.length++j6 s e n (first++[-1]):=by
     show lQ s e n first s.2.2.1.length++(if e=0 then [] else j6 s e n (first++[-1]))=_
     grind
    simp only[he,decide_false,Bool.not_false,if_true,true_imp_iff,M.bg,Bool.false_or,and_self,implies_true];rw[M.bp (by simp),M.bp (by omega)];have DP:Pc f (some (cW s),first++[-1],e,l,(l,L,a++lQ s e n first s.2.2.1.length,false),()) s n (a++lQ s e n first s.2.2.1.length) b:=by
     refine⟨⟨rfl,hv⟩,by grind,by omega,rfl,rfl,?_,rfl⟩;grind
    rw[M.fG];refine⟨⟨s,n,_,_,DP⟩,λy aM=>M.dE.2 ?_⟩;obtain⟨JJ,⟨yl,Ze,Pd,ys⟩,apu⟩:=y;obtain⟨c_,q2,q3,ui⟩:=aM;refine⟨c_,q2,λh=>?_,ui⟩;obtain⟨bw,cY⟩:=q3 h;change Pd=(a++lQ s e n first s.2.2.1.length)++j6 s e (s.2.2.2.1.length - (first++[(-1:Int)]).length) (first++[-1]) at cY;grind
theorem apv(f:Nat)(x):M.le (No vN.sh (rr f) ox.sh x) (rr (f+1) x):=λh=>by
 obtain⟨o,first,e,l,⟨l',L,p,st⟩,u⟩:=x;obtain⟨s,n,a,b,hp⟩:=h;obtain⟨⟨ar,hv⟩,h1,h2,h3,aR,bw,cY⟩:=hp;change o=_ at ar;change l'=l at h3;change st=false at aR;change p=a at cY;change L=_ at bw;change first.length+n=_ at h1
 change _ at bw;subst ar;subst h3;subst aR;subst cY;have u2:(nP (some (cW s))).2.2.2.1.length - first.length=n:=by show s.2.2.2.1.length - first.length=n;omega
 refine M.b_.mono (apo hv h1 h2 bw) λy aM=>⟨aM.1,aM.2.1,λh=>?_,aM.2.2.2⟩
 obtain⟨aO,aP⟩:=aM.2.2.1 h;refine⟨aO,?_⟩;rw[aP];show _=p++j6 (nP (some (cW s))) e ((nP (some (cW s))).2.2.2.1.length - first.length) first
 rw[u2];rfl
theorem apw(x):¬(rr 0 x).b8:=λ⟨s,n,a,b,h⟩=>by have:=h.bW;omega
def ld(e:Int)(s:br):List (z1'):=j6 s e s.2.2.2.1.length []
def yc(o:Option Sto):Prop:=∃ s,vS o s
def Ij(o:Option Sto):List (z1'):=ld 1 (nP o)
def Pe(o:Option Sto):List (z1'):=ld 0 (nP o)
theorem apx(s:br)(hv:lO s)(l:Nat):M.b_ (G9 (rr 10) (some (cW s),l,(l,(λT=>T=ld 1 s),[],false),())) λy=>y.1.1=l/\y.1.2.1=(λT=>T=ld 1 s)/\(y.1.2.2.2=false->y.1.2.2.1=ld 1 s):=by
 unfold G9;rw[M.fG];have AR:=hv.uj;refine⟨⟨s,s.2.2.2.1.length,[],[],⟨rfl,hv⟩,by simp,by omega,rfl,rfl,by show (λT=>T=ld 1 s)=_;simp[ld],rfl⟩,λy aM=>M.dE.2 ?_⟩;obtain⟨c_,q2,q3,ui⟩:=aM;refine⟨c_,q2,λh=>?_⟩;cases h1:y.1 with
 | false=>grind
 | true=>
  obtain⟨_,h3⟩:=q3 h1;show y.2.1.2.2.1=_;rw[h3];rfl
theorem apy(s:br)(hv:lO s)(l:Nat):M.b_ (G_ (rr 10) (some (cW s),l,(l,(λT=>T=ld 0 s),[],false),())) λy=>y.1.1=l/\y.1.2.1=(λT=>T=ld 0 s)/\(y.1.2.2.2=false->y.1.2.2.1=ld 0 s):=by
 unfold G_;rw[M.fG];have AR:=hv.uj;refine⟨⟨s,s.2.2.2.1.length,[],[],⟨rfl,hv⟩,by simp,by omega,rfl,rfl,by show (λT=>T=ld 0 s)=_;simp[ld],rfl⟩,λy aM=>M.dE.2 ?_⟩;obtain⟨c_,q2,q3,ui⟩:=aM;refine⟨c_,q2,λh=>?_⟩;cases h1:y.1 with
 | false=>grind
 | true=>
  obtain⟨_,h3⟩:=q3 h1;show y.2.1.2.2.1=_;rw[h3];rfl
theorem Pf{A aj:Type}{body:A->aj->M (cP×A)}(g:A->aj->A)(I:A->Prop):∀ (l:List aj) (s:A),I s->(∀ x∈l,∀ s,I s->body s x=M.pure (cP.normal,g s x)/\I (g s x))->jy body l s=M.pure (cP.normal,l.foldl g s)
 | [],s,_,_=>rfl
 | x::l,s,ee,h=>by
  obtain⟨h1,h2⟩:=h x (by simp) s ee;unfold jy;rw[h1,M.aE];exact Pf g I l (g s x) h2 λy aM=>h y (List.mem_cons_of_mem _ aM)
theorem Pg{s:br}{e:Int}:∀ {n:Nat} {first y:z1'},y∈j6 s e n first->y.length=first.length+n/\∀ p∈y,p∈first\/p=-1\/(0<=p/\p<(s.2.2.1.length:Int))
 | 0,first,y,h=>by
  simp only[j6,List.mem_singleton]at h;grind
 | n+1,first,y,h=>by
  simp only[j6,List.mem_append,List.mem_flatMap,List.mem_range]at h;rcases h with⟨p,hp,h⟩ | h
  ·split at h
   ·obtain⟨h1,h2⟩:=Pg h;grind
   grind
  ·split at h
   ·cases h
   ·obtain⟨h1,h2⟩:=Pg h;grind
theorem Ph{s:br}{e:Int}{y:z1'}(h:y∈ld e s):y.length=s.2.2.2.1.length/\nO s y:=by
 obtain⟨h1,h2⟩:=Pg h;have h1:y.length=s.2.2.2.1.length:=by grind
 refine⟨h1,by omega,λp hp=>?_⟩;grind
theorem apz(s:br):nO s (List.replicate s.2.2.2.1.length (-1)):=⟨by simp,λp hp=>by grind⟩
def sH(s:br)(b y:z1'):z1':=if (decide (rp s y > rp s b)&&pC s y)=true then y else b
def Ef(s:br):z1':=(ld 1 s).foldl (sH s) (List.replicate s.2.2.2.1.length (-1))
theorem Zf{s:br}:∀ (l:List (z1')) (b:z1'),(∀ y∈l,y.length=s.2.2.2.1.length/\nO s y)->(b.length=s.2.2.2.1.length/\nO s b)->((l.foldl (sH s) b).length=s.2.2.2.1.length/\nO s (l.foldl (sH s) b))
 | [],b,_,ab=>ab
 | y::l,b,ai,ab=>by
  rw[List.foldl_cons];refine Zf l _ (λz a_=>ai z (List.mem_cons_of_mem _ a_)) ?_;unfold sH;grind
theorem apA(s:br):(Ef s).length=s.2.2.2.1.length/\nO s (Ef s):=Zf _ _ (λ_ h=>Ph h) ⟨by simp,apz s⟩
abbrev Pj:aJ:=⟨vQ,fF,λo=>∃ s,vS o s,λo=>Ef (nP o)⟩
theorem apB(s:br)(hv:lO s):Ni H4.sh vU.sh sG.sh yc Ij (some (cW s))=M.pure (Ef s):=by
 unfold Ni;have AR:=hv.uj;have fU:(cW s).1=s:=rfl;have gm:yc (some (cW s)):=⟨s,rfl,hv⟩
 have Pk:Ij (some (cW s))=ld 1 s:=rfl;simp only[Option.isSome_some,Option.getD_some,M.bg,bJ,fU,aJ.sh,M.dm,Pk];rw[M.bp (by grind),M.bp gm];simp only[Int.toNat_natCast];rw[Pf (λ(b:Option Sto×z1'×Unit) (y:z1')=>(some (cW s),sH s b.2.1 y,())) (λb=>b.1=some (cW s)/\b.2.1.length=s.2.2.2.1.length) (ld 1 s) (some (cW s),List.replicate s.2.2.2.1.length (-1),()) ⟨rfl,by simp⟩ ?_]
 ·have ar:∀ (l:List (z1')) (b:z1'),l.foldl (λ(b:Option Sto×z1'×Unit) (y:z1')=>(some (cW s),sH s b.2.1 y,())) (some (cW s),b,())=(some (cW s),l.foldl (sH s) b,()):=by
   intro l;induction l with
   | nil=>simp
   | cons y l aG=>grind
  rw[ar,M.aE];rfl
 ·intro y aM b ab;obtain⟨dd,dV,apC⟩:=b;obtain⟨l4,qH⟩:=ab;change dd=_ at l4;change dV.length=_ at qH;subst l4;obtain⟨xj,r2⟩:=Ph aM;have ju:sG.pre (some (cW s),y):=⟨s,⟨rfl,hv⟩,by grind⟩
  have pV:sG.pre (some (cW s),dV):=⟨s,⟨rfl,hv⟩,by grind⟩
  have l0:vU.pre (some (cW s),y):=⟨s,⟨rfl,hv⟩,r2⟩
  have e1:sG.g (some (cW s),y)=rp s y:=rfl;have e2:sG.g (some (cW s),dV)=rp s dV:=rfl;have e3:vU.g (some (cW s),y)=pC s y:=rfl;refine⟨?_,rfl,?_⟩
  ·simp only[M.nJ,M.gp,M.bp ju,M.bp pV,e1,e2,e3,l0,and_true,true_and,and_self,imp_self,implies_true,M.bg,sH];have c_:∀ c:Prop,(c->c/\(∃ mU,vS (some (cW s)) mU/\nO mU y)):=λc h=>⟨h,l0⟩
   rw[M.bp (c_ _)];have e1:nP (some (cW s))=s:=rfl;simp only[e1];cases hc:(decide (rp s y > rp s dV)&&pC s y)<;>simp
  ·show (sH s dV y).length=_;unfold sH;grind
theorem apD(x):M.le (Ni H4.sh vU.sh sG.sh yc Ij x) (Pj.sh x):=M.bh λh=>by
 obtain⟨s,ar,hv⟩:=h;subst ar;exact apB s hv
theorem Ik{s:br}{bS:Bool}(h:kN s bS=0):x8 s bS=(some (cW s),0):=by simp[x8,h]
theorem Il{s:br}{bS:Bool}(h:kN s bS≠0):x8 s bS=(none,kN s bS):=by simp[x8,h]
def yd(s:br)(bS:Bool):Int×Int:=if kN s bS≠0 then (0,kN s bS) else (rp s (Ef s),0)
abbrev Pl:aJ:=⟨.ax lN cQ,.ax tI tI,λx=>e' x.1,λx=>yd x.1 x.2⟩
theorem apE(x):M.le (Vc AP.sh Pj.sh sG.sh x) (Pl.sh x):=M.bh λh=>by
 unfold Vc;show _=M.pure (yd x.1 x.2);unfold yd;simp only[aJ.sh,M.dm];rw[M.bp (by exact h)];by_cases ao:kN x.1 x.2=0
 ·have hv:=AO h (AN ao).1;simp only[Ik ao,ao,ne_eq,not_true,decide_false,Bool.false_eq_true,if_false];rw[M.bp (by exact⟨x.1,rfl,hv⟩),M.bp (by exact⟨x.1,⟨rfl,hv⟩,Nat.le_of_eq (apA x.1).1⟩)];rfl
 ·simp[Il ao,ao]
abbrev Im:aJ:=⟨lN,.ax tI tI,e',λs=>yd s true⟩
theorem apF(x):M.le (U7 Pl.sh x) (Im.sh x):=M.bh λh=>by
 unfold U7;simp only[aJ.sh,M.dm];simp_all
def AV(s:br)(n:Int)(y:z1'):Int:=if (!(lb s y).2||!Ee (cW s) (lb s y).1)=true then n else if (decide (n=-1)||decide (yb (cW s) (lb s y).1<n))=true then yb (cW s) (lb s y).1 else n
def Ip(s:br):Int:=(ld 0 s).foldl (AV s) (-1)
def AW(s:br):Int×Int:=if kN s true≠0 then (0,kN s true) else if Ip s=-1 then (0,3) else (Ip s,0)
abbrev Iq:aJ:=⟨lN,.ax tI tI,e',AW⟩
theorem apG(x):M.le (U8 AP.sh yc Pe Ic.sh O_.sh Ih.sh x) (Iq.sh x):=M.bh λh=>by
 unfold U8;show _=M.pure (AW x);unfold AW;simp only[aJ.sh,M.dm];rw[M.bp (by exact h)];by_cases ao:kN x true=0
 ·have hv:=AO h (AN ao).1;have gm:yc (some (cW x)):=⟨x,rfl,hv⟩
  have Pk:Pe (some (cW x))=ld 0 x:=rfl;simp only[Ik ao,ao,ne_eq,not_true,decide_false,Bool.false_eq_true,if_false,Pk];rw[M.bp gm];rw[Pf (λ(b:Option Sto×Int×Unit) (y:z1')=>(some (cW x),AV x b.2.1 y,())) (λb=>b.1=some (cW x)) (ld 0 x) (some (cW x),-1,()) rfl ?_]
  ·have ar:∀ (l:List (z1')) (b:Int),l.foldl (λ(b:Option Sto×Int×Unit) (y:z1')=>(some (cW x),AV x b.2.1 y,())) (some (cW x),b,())=(some (cW x),l.foldl (AV x) b,()):=by
    intro l;induction l with
    | nil=>simp
    | cons y l aG=>grind
   rw[ar,M.aE];show (if decide (Ip x=-1)=true then M.pure ((0:Int),(3:Int)) else M.pure (Ip x,0))=_;grind
  ·intro y aM b ab;obtain⟨dd,dV,apC⟩:=b;change dd=_ at ab;subst ab;obtain⟨xj,r2⟩:=Ph aM;refine⟨?_,rfl⟩;have zA:=Zb hv r2;have ju:∃ mU,vS (some (cW x)) mU/\nO mU y:=⟨x,⟨rfl,hv⟩,r2⟩
   have hsl:(cW x).1.2.1.length<2 ^ 63:=h.2.1;have pV:∃ t,some (cW x)=some t/\t.1.2.1.length<2 ^ 63/\(lb x y).1.length<2 ^ 63:=⟨_,rfl,hsl,by omega⟩
   have l0:∃ t,some (cW x)=some t/\t.2.1.length<=200/\(lb x y).1.length<=1000:=⟨_,rfl,Za hv,by omega⟩
   have e1:nP (some (cW x))=x:=rfl;have e2:Option.getD (some (cW x)) x9=cW x:=rfl;simp only[M.iN,M.dm,e1,e2];rw[M.bp ju];simp only[pV,implies_true,M.bg];rw[M.bp (by exact l0)];show _=M.pure (cP.normal,some (cW x),AV x dV y,());unfold AV;cases h1:(lb x y).2
   ·simp
   ·cases h2:Ee (cW x) (lb x y).1
    ·simp
    ·simp only[Bool.not_true,Bool.not_false,if_true,Bool.or_self,Bool.false_eq_true,if_false];cases h3:(decide (dV=-1)||decide (yb (cW x) (lb x y).1<dV))<;>simp
 ·simp[Il ao,ao]
def mV(s:br)(w p:Int):z1':=(List.replicate s.2.2.2.1.length (-1)).set w.toNat p
def Zg(s:br)(w:Int):z1':=((List.range s.2.2.1.length).filter λ(p:Nat)=>pC s (mV s w (p:Int))).map λ(p:Nat)=>(p:Int)
def uo(s:br)(w:Int):z1'×Int:=if kN s (x6 s w)≠0 then ([],kN s (x6 s w)) else (Zg s w,0)
abbrev Ir:aJ:=⟨.ax lN tI,.ax fF tI,λx=>e' x.1,λx=>uo x.1 x.2⟩
theorem Zh{aj β:Type}{p:aj->Bool}{g:aj->β}:∀ (l:List aj) (b:List β),l.foldl (λb x=>if p x=true then b++[g x] else b) b=b++(l.filter p).map g
 | [],b=>by simp
 | x::l,b=>by
  simp only[List.foldl_cons,List.filter_cons];rw[Zh l];grind
theorem apH{s:br}{w:Int}{p:Nat}(hp:p<s.2.2.1.length):nO s (mV s w (p:Int)):=by
 refine⟨by simp[mV],λq be=>?_⟩;unfold mV at be;grind
theorem apI(x):M.le (U9 AP.sh OS.sh vM vU.sh x) (Ir.sh x):=M.bh λh=>by
 obtain⟨s,w⟩:=x;change e' s at h;unfold U9;show _=M.pure (uo s w);unfold uo;simp only[aJ.sh,M.nJ,M.gp];rw[M.bp (by exact h),M.bp (by exact h)];by_cases ao:kN s (x6 s w)=0
 ·have hv:=AO h (AN ao).1;have hw:=aoB.1 (AN ao).2.1;have AR:=hv.uj;have apq:=hv.H8;simp only[Ik ao,ao,ne_eq,not_true,decide_false,Bool.false_eq_true,if_false];unfold vM;simp only[M.dm,bJ];rw[M.bp (by grind)];simp only[Int.toNat_natCast];rw[M.gg (List.range s.2.2.1.length) (λi (b:z1'×z1')=>(w,some (cW s),(s.2.2.1.length:Int),(i:Int),b.1,b.2,())) (λ(p:Nat) b=>.next (if pC s (mV s w (p:Int))=true then b.1++[(p:Int)] else b.1,mV s w (p:Int))) (λb=>.next (b.1,())) (λi b=>b.1.length<=i/\∀ p,b.2.set w.toNat p=mV s w p) ([],List.replicate s.2.2.2.1.length (-1)) ?_ ?_ ?_ ?_]
  ·rw[dM];have ar:∀ (l:List Nat) (b:z1'×z1'),(l.foldl (λb (p:Nat)=>(if pC s (mV s w (p:Int))=true then b.1++[(p:Int)] else b.1,mV s w (p:Int))) b).1=l.foldl (λb (p:Nat)=>if pC s (mV s w (p:Int))=true then b++[(p:Int)] else b) b.1:=by
    intro l;induction l with
    | nil=>simp
    | cons p l aG=>grind
   rw[ar,Zh,M.aE,M.bK];rfl
  ·rfl
  ·exact⟨Nat.le_refl _,λp=>rfl⟩
  ·intro i G b ab;have G:i<s.2.2.1.length:=by grind
   have k_:=bo (n:=(i:Int)+1) (by omega) (by omega);obtain⟨dd,dV⟩:=b;obtain⟨l4,qH⟩:=ab;change dd.length<=i at l4;change ∀ p,dV.set w.toNat p=mV s w p at qH;have lv:b6 (dd.length+(0+1)):=by unfold b6;omega
   have hlen:dV.length=s.2.2.2.1.length:=by
    have:=congrArg List.length (qH 0);simpa [mV]using this
   have xp:0<=w/\w<(dV.length:Int):=by omega
   rw[List.getElem_range];refine⟨?_,λaZ cS=>?_⟩
   ·simp only[cE G,if_true,xp,and_self,M.bg,M.dm,qH];rw[M.bp (by exact⟨s,⟨rfl,hv⟩,apH G⟩)];have e1:nP (some (cW s))=s:=rfl;simp only[e1,b7,jC,M.bp lv];cases pC s (mV s w (i:Int))<;>simp[aa.gS,k_]
   ·cases cS;refine⟨?_,λp=>?_⟩
    ·grind
    ·show (mV s w (i:Int)).set w.toNat p=mV s w p;unfold mV;simp
  simp
 ·simp[Il ao,ao]
def AX(s:br)(ca:z1'):Int×Int:=if kN s (vP s ca)≠0 then (0,kN s (vP s ca)) else if (!pC s ca)=true then (0,3) else (rp s ca,0)
abbrev Is:aJ:=⟨.ax lN fF,.ax tI tI,λx=>e' x.1/\x.2.length<2 ^ 63,λx=>AX x.1 x.2⟩
theorem apJ{s:br}{ca:z1'}(h:vP s ca=true):ca.length=s.2.2.2.1.length/\nO s ca:=by
 unfold vP at h;simp only[Bool.and_eq_true,List.all_eq_true,List.mem_range,decide_eq_true_eq]at h;obtain⟨h1,h2⟩:=h;refine⟨by omega,by omega,λp hp=>?_⟩;obtain⟨i,G,rfl⟩:=List.mem_iff_getElem.1 hp;have:=h1 i G;have jf:ca.getD i 0=ca[i]:=by grind
 unfold vO at this;simp only[jf,Bool.or_eq_true,decide_eq_true_eq,Bool.and_eq_true,aoC]at this;omega
theorem apK(x):M.le (Vb AP.sh vU.sh H7.sh sG.sh x) (Is.sh x):=M.bh λh=>by
 obtain⟨s,ca⟩:=x;obtain⟨hs,ai⟩:=h;unfold Vb;show _=M.pure (AX s ca);unfold AX;simp only[aJ.sh,M.nJ,M.gp];have hp:H7.pre (s,ca):=⟨hs,ai⟩
 rw[M.bp (by exact hp),M.bp (by exact hs)];by_cases ao:kN s (vP s ca)=0
 ·have hv:=AO hs (AN ao).1;obtain⟨apL,xl⟩:=apJ (AN ao).2.1;simp only[Ik ao,ao,ne_eq,not_true,decide_false,Bool.false_eq_true,if_false,M.dm];rw[M.bp (by exact⟨s,⟨rfl,hv⟩,xl⟩)];have e1:nP (some (cW s))=s:=rfl;simp only[e1];cases ar:pC s ca with
  | false=>simp
  | true=>
   simp only[Bool.not_true,Bool.false_eq_true,if_false];rw[M.bp (by exact⟨s,⟨rfl,hv⟩,Nat.le_of_eq apL⟩)]
 ·simp[Il ao,ao]
def Eg(s:br):Prop:=an4 s.1/\s.2.1.length<=2000000/\s.2.2.1.length<=2000000/\s.2.2.2.1.length<=2000000/\s.2.2.2.2.1.length<=2000000/\(∀ p∈s.2.2.1,p.2.2.2.2.length<=2000000)/\∀ x∈s.2.2.2.1,x.1.length<=2000000
theorem apM{s:br}(hv:lO s):Eg s:=by
 have anN:=DY hv.sw.2;refine⟨⟨by omega,by omega,by omega,λm an=>?_⟩,by have:=hv.D_;omega,by have:=hv.H8;omega,by have:=hv.uj;omega,by have:=hv.OU;omega,λp hp=>by have:=(OX hv hp).2.1;omega,λx hx=>?_⟩
 ·have kz:=(AG hv.sw.2).2.2.1 m an;simp only[ql,Bool.and_eq_true,Bool.not_eq_true',decide_eq_false_iff_not,List.all_eq_true]at kz;refine⟨by omega,λs' rK=>?_⟩;have:=kz.2 s' rK;simp only[pw,Bool.and_eq_true,decide_eq_true_eq]at this;omega
 ·have:=hv.YR x hx;simp only[oE,bM,Bool.and_eq_true,decide_eq_true_eq]at this;omega
def Zi(s:br):Int:=(s.2.2.1.map λp=>(p.2.2.2.2.length:Int)).foldl (·+·) 0
def uq(s:br):Bool:=
 if (lM s.1||decide ((s.2.1.length:Int) > 40)||decide ((s.2.2.1.length:Int) > 40)||decide ((s.2.2.2.1.length:Int) > 40)||decide ((s.2.2.2.2.1.length:Int) > 40))=true then true
 else if (s.2.2.1.any λp=>decide ((p.2.2.2.2.length:Int) > 40))=true then true
 else if (s.2.2.2.1.any λx=>decide ((x.1.length:Int) > 40))=true then true
 else if iR s≠0 then false
 else decide ((s.2.2.2.1.length:Int) > 3)||decide ((s.2.2.1.length:Int) > 4)||decide ((s.2.2.2.2.1.length:Int) > 3)||decide (Zi s > 4)
abbrev It:aJ:=⟨lN,cQ,e',uq⟩
theorem apN(x):M.le (Yk pB.sh vA.sh x) (It.sh x):=M.bh λh=>by
 change e' x at h;unfold Yk;show _=M.pure (uq x);unfold uq;simp only[aJ.sh,M.dm,bJ];rw[M.bp (by exact h.1)];obtain⟨g1,dR,g3,g4,g5,g6,g7⟩:=id h;by_cases h1:(lM x.1||decide ((x.2.1.length:Int) > 40)||decide ((x.2.2.1.length:Int) > 40)||decide ((x.2.2.2.1.length:Int) > 40)||decide ((x.2.2.2.2.1.length:Int) > 40))=true
 ·grind
 ·rw[if_neg h1,if_neg h1];simp only[Bool.or_eq_true,decide_eq_true_eq,not_or]at h1;rw[M.dk x.2.2.1 (λi (_:Unit)=>((i:Int),x,())) (λp u=>if decide ((p.2.2.2.2.length:Int) > 40)=true then .done (.done true) else .next u) (λ_=>.next (x,())) () ?_ ?_ ?_]
  ·rw[q9 (p:=λp:da=>decide ((p.2.2.2.2.length:Int) > 40))];by_cases h2:(x.2.2.1.any λp=>decide ((p.2.2.2.2.length:Int) > 40))=true
   ·simp only[h2,if_true,M.aE,M.pb]
   ·simp only[h2,Bool.false_eq_true,if_false,M.aE,M.bK];rw[M.dk x.2.2.2.1 (λi (_:Unit)=>((i:Int),x,())) (λp u=>if decide ((p.1.length:Int) > 40)=true then .done (.done true) else .next u) (λ_=>.next (x,())) () ?_ ?_ ?_]
    ·rw[q9 (p:=λp:dq=>decide ((p.1.length:Int) > 40))];by_cases h3:(x.2.2.2.1.any λx=>decide ((x.1.length:Int) > 40))=true
     ·simp only[h3,if_true,M.aE,M.pb]
     ·simp only[h3,Bool.false_eq_true,if_false,M.aE,M.bK];rw[M.bp (by exact h)];by_cases he:iR x=0
      ·simp only[he,ne_eq,not_true,decide_false,Bool.false_eq_true,if_false];have ab:∀ p∈x.2.2.1,p.2.2.2.2.length<=40:=λp hp=>by
        grind
       rw[M.gg x.2.2.1 (λi (n:Int)=>(n,(i:Int),x,())) (λp n=>.next (n+(p.2.2.2.2.length:Int))) (λn=>.next (n,x,())) (λi n=>0<=n/\n<=40*i) 0 ?_ ?_ ?_ ?_]
       ·rw[dM,M.aE,M.bK];unfold Zi;rw[List.foldl_map]
       ·rfl
       ·simp
       ·intro i G n aA;have k_:=bo (n:=(i:Int)+1) (by omega) (by omega);have axG:=ab _ (List.getElem_mem G);have AL:=bo (n:=n+(x.2.2.1[i].2.2.2.2.length:Int)) (by omega) (by omega);refine⟨?_,λaZ cS=>?_⟩
        ·simp only[cE G,if_true,cq G,M.bg,cT G,b7,k_,AL];rfl
        grind
       simp
      grind
    ·rfl
    ·intro i G u;have k_:=bo (n:=(i:Int)+1) (by omega) (by omega);simp only[cE G,if_true,cq G,M.bg,cT G,M.aE,b7,k_];exact mI (mk:=λ_:Unit=>((i:Int)+1,x,()))
    simp
  ·rfl
  ·intro i G u;have k_:=bo (n:=(i:Int)+1) (by omega) (by omega);simp only[cE G,if_true,cq G,M.bg,cT G,M.aE,b7,k_];exact mI (mk:=λ_:Unit=>((i:Int)+1,x,()))
  simp
def AY:br:=(HX,[1,0,0,0],[(1,60,0,0,[0]),(1,60,7,0,[]),(2,65,0,1,[0]),(2,60,0,0,[0,1])],[([1],(55,65),7,3,500),([1,2],(60,60),0,5,400),([2],(60,70),9,8,700),([2],(65,65),0,5,300)],[(4,2,1),(6,3,1)],2)
abbrev Iu:aJ:=⟨.cy,lN,λ_=>True,λ_=>AY⟩
theorem apO(x):M.le (Yl OO.sh x) (Iu.sh x):=M.bh λ_=>by
 unfold Yl;simp only[aJ.sh,M.dm,M.bg];rfl
theorem apP:e' AY:=by
 refine⟨an8,by decide,by decide,by decide,by decide,?_,?_⟩
 ·intro p hp;simp only[AY,List.mem_cons,List.not_mem_nil,or_false]at hp;grind
 ·intro x hx;simp only[AY,List.mem_cons,List.not_mem_nil,or_false]at hx;grind
end Go.Fer
namespace Go.Fer.H
open M (aa)
def Zj(zZ:aQ->M Int)(Nw:List aV->M (List aV×Bool))(apQ:List (List aV)->M (List aV))(apR:List (z1')×Unit->M (z1'×Unit))(Ny:z1'×Unit->M (z1'×Unit))(apS:z1'×Unit->M ((Nat×Nat)×z1'×Unit))(Iv:z4'->M (z4'))(x:aQ×List aV×z1'):M (aQ×Int):=
 letI a:=x.1.2.2.2;M.bind (zZ x.1) λy=>if decide (y≠0)=true then M.pure (([],[],[],[],0,0,0,0,0,0,0),y) else M.bind (zZ (x.1.1,x.2.1,x.2.2,a)) λy=>if decide (y≠0)=true then M.pure (([],[],[],[],0,0,0,0,0,0,0),y) else M.bind (apQ [x.1.2.1,x.2.1]) λy=>M.bind (Nw y) λy=>if (!y.2)=true then M.pure (([],[],[],[],0,0,0,0,0,0,0),91) else M.bind (apR ([x.1.2.2.1,x.2.2],())) λbG=>M.bind (Ny (bG.1,())) λds=>M.bind (apS (ds.1,())) λgB=>if (decide (Int.ofNat (List.length y.1) > 12)||decide (Int.ofNat (gB.1.2-gB.1.1) > 12))=true then M.pure (([],[],[],[],0,0,0,0,0,0,0),90) else M.af (Iv x.1.1).b8 (M.af (Iv a.1).b8 (M.pure ((M.val (Iv x.1.1) [],y.1,List.drop gB.1.1 (List.take gB.1.2 gB.2.1),M.val (Iv a.1) [],a.2),0)))
def Zk(apT:Int×Unit->M (List aV×Unit))(x:List (List aV)):M (List aV):=
 M.bind (M.loop (λ(A:List (List aV)×Int×List (List aV)×Int×Int×Unit)=>letI d:=A.2.2;letI b:=d.2.2.1;letI a:=IntKind.wrap .i64 (Add.add A.2.1 (Int.ofNat (List.length (List.getD d.1 (Int.toNat b) []))));if decide (b<d.2.1)=true then M.bind (M.af (0<=b/\b<Int.ofNat (List.length d.1)) (if decide (a<0)=true then M.af False (M.af False (M.pure (aa.next (A.1,a,d.1,d.2.1,b,())))) else M.pure (aa.next (A.1,a,d.1,d.2.1,b,())))) (aa.bl (λ(A:List (List aV)×Int×List (List aV)×Int×Int×Unit)=>M.pure (aa.next (A.1,A.2.1,A.2.2.1,A.2.2.2.1,IntKind.wrap .i64 (Add.add A.2.2.2.2.1 1),())))) else M.bind (M.pure (aa.next (A.1,A.2.1,()))) λr=>M.pure (aa.done r)) (x,0,x,Int.ofNat (List.length x),0,())) (aa.bl (λ(A:List (List aV)×Int×Unit)=>M.bind (apT (A.2.1,())) λy=>M.bind (M.loop (λ(A:List (List aV)×Int×Int×List aV×Unit)=>letI e:=A.2.2;letI c:=List.getD A.1 (Int.toNat e.1) [];if decide (e.1<A.2.1)=true then M.af (0<=e.1/\e.1<Int.ofNat (List.length A.1)) (M.af (b6 (Add.add (List.length e.2.1) (List.length c))) (M.pure (aa.next (A.1,A.2.1,IntKind.wrap .i64 (Add.add e.1 1),e.2.1++c,())))) else M.bind (M.pure (aa.next (e.2.1,()))) λr=>M.pure (aa.done r)) (A.1,Int.ofNat (List.length A.1),0,y.1,())) (aa.bl (λ(A:List aV×Unit)=>M.pure A.1))))
def Zl(apU:Int×Unit->M (z1'×Unit))(x:List (z1')×Unit):M (z1'×Unit):=
 M.bind (M.loop (λ(A:List (z1')×Int×List (z1')×Int×Int×Unit)=>letI d:=A.2.2;letI b:=d.2.2.1;letI a:=IntKind.wrap .i64 (Add.add A.2.1 (Int.ofNat (List.length (List.getD d.1 (Int.toNat b) []))));if decide (b<d.2.1)=true then M.bind (M.af (0<=b/\b<Int.ofNat (List.length d.1)) (if decide (a<0)=true then M.af False (M.af False (M.pure (aa.next (A.1,a,d.1,d.2.1,b,())))) else M.pure (aa.next (A.1,a,d.1,d.2.1,b,())))) (aa.bl (λ(A:List (z1')×Int×List (z1')×Int×Int×Unit)=>M.pure (aa.next (A.1,A.2.1,A.2.2.1,A.2.2.2.1,IntKind.wrap .i64 (Add.add A.2.2.2.2.1 1),())))) else M.bind (M.pure (aa.next (A.1,A.2.1,()))) λr=>M.pure (aa.done r)) (x.1,0,x.1,Int.ofNat (List.length x.1),0,())) (aa.bl (λ(A:List (z1')×Int×Unit)=>M.bind (apU (A.2.1,())) λy=>M.bind (M.loop (λ(A:List (z1')×Int×Int×z1'×Unit)=>letI e:=A.2.2;letI c:=List.getD A.1 (Int.toNat e.1) [];if decide (e.1<A.2.1)=true then M.af (0<=e.1/\e.1<Int.ofNat (List.length A.1)) (M.af (b6 (Add.add (List.length e.2.1) (List.length c))) (M.pure (aa.next (A.1,A.2.1,IntKind.wrap .i64 (Add.add e.1 1),e.2.1++c,())))) else M.bind (M.pure (aa.next (e.2.1,()))) λr=>M.pure (aa.done r)) (A.1,Int.ofNat (List.length A.1),0,y.1,())) (aa.bl (λ(A:z1'×Unit)=>M.pure (A.1,())))))
def apV(x:z1'×Unit):M ((Nat×Nat)×z1'×Unit):=
 if decide (Int.ofNat (List.length x.1)<2)=true then M.pure ((0,List.length x.1),x.1,()) else M.bind (M.loop (λ(A:Int×z1'×Unit)=>letI l:=A.1;letI j:=A.2.1;letI g:=IntKind.wrap .i64 (l-1);letI b:=Int.ofNat (List.length j);if decide (l<b)=true then M.bind (M.af (0<=l/\l<b) (M.af (0<=g/\g<b) (if decide (List.getD j (Int.toNat l) 0=List.getD j (Int.toNat g) 0)=true then M.af (0<=l/\l<=b/\b<=b) (M.bind (M.loop (λ(A:Int×(Nat×Nat)×Int×z1'×Unit)=>letI k:=A.2.1;letI e:=A.2.2;letI i:=IntKind.wrap .i64 (e.1-1);letI h:=List.getD e.2.1 (Add.add k.1 (Int.toNat e.1)) 0;letI d:=Int.ofNat (k.2-k.1);if decide (e.1<d)=true then M.bind (M.af (0<=e.1/\e.1<d) (M.af (0<=i/\i<d) (if decide (h≠List.getD e.2.1 (Add.add k.1 (Int.toNat i)) 0)=true then M.af (0<=e.1/\e.1<d) (M.af (0<=A.1/\A.1<Int.ofNat (List.length e.2.1)) (M.pure (aa.next (IntKind.wrap .i64 (Add.add A.1 1),k,e.1,List.set e.2.1 (Int.toNat A.1) h,())))) else M.pure (aa.next (A.1,k,e.1,e.2.1,()))))) (aa.bl (λ(A:Int×(Nat×Nat)×Int×z1'×Unit)=>M.pure (aa.next (A.1,A.2.1,IntKind.wrap .i64 (Add.add A.2.2.1 1),A.2.2.2.1,())))) else M.bind (M.pure (aa.next (A.1,e.2.1,()))) λr=>M.pure (aa.done r)) (l,(Int.toNat l,Int.toNat b),1,j,())) (aa.bl (λ(A:Int×z1'×Unit)=>letI f:=Int.toNat A.1;letI c:=Int.ofNat (List.length A.2.1);letI a:=List.take f A.2.1++List.replicate (Int.toNat c-f) 0++List.drop (Add.add f (List.length (List.replicate (Int.toNat c-f) (0:Int)))) A.2.1;M.af (0<=A.1/\A.1<=c/\c<=c) (M.af True (M.af ((0:Int)<=0/\0<=A.1/\A.1<=Int.ofNat (List.length a)) (M.bind (M.bind (M.bind (M.pure ((Int.toNat 0,f),a,())) (λr=>M.pure (aa.done r))) (λr=>M.pure (aa.done r))) (λr=>M.pure (aa.done r)))))))) else M.pure (aa.next (l,j,()))))) (aa.bl (λ(A:Int×z1'×Unit)=>M.pure (aa.next (IntKind.wrap .i64 (Add.add A.1 1),A.2.1,())))) else M.bind (M.pure (aa.next (j,()))) λr=>M.pure (aa.done r)) (1,x.1,())) (aa.bl (λ(A:z1'×Unit)=>M.pure ((0,List.length A.1),A.1,())))
def Iw(x:Int×Unit):M (z1'×Unit):=M.du (0<=x.1/\x.1<60000) ([],())
def Ix(x:Int×Unit):M (List aV×Unit):=M.du (0<=x.1/\x.1<60000) ([],())
section
variable {aj fY:Type}
def Iy(g:Int×Unit->M (List aj×Unit))(x:List (List aj))(k:List aj->M fY):M fY:=
 M.bind (M.loop (λ(A:List (List aj)×Int×List (List aj)×Int×Int×Unit)=>if decide (A.2.2.2.2.1<A.2.2.2.1)=true then M.bind (M.af (0<=A.2.2.2.2.1/\
 A.2.2.2.2.1<Int.ofNat (List.length A.2.2.1)) (if decide (IntKind.wrap .i64 (Add.add A.2.1 (Int.ofNat (List.length (List.getD A.2.2.1 (Int.toNat A.2.2.2.2.1) [])))) <
 0)=true then M.af False (M.af False (M.pure (aa.next (A.1,IntKind.wrap .i64 (Add.add A.2.1 (Int.ofNat (List.length (List.getD A.2.2.1 (Int.toNat A.2.2.2.2.1)
 [])))),A.2.2.1,A.2.2.2.1,A.2.2.2.2.1,())))) else M.pure (aa.next (A.1,IntKind.wrap .i64 (Add.add A.2.1 (Int.ofNat (List.length (List.getD A.2.2.1 (Int.toNat
 A.2.2.2.2.1) [])))),A.2.2.1,A.2.2.2.1,A.2.2.2.2.1,())))) (aa.bl λ(A:List (List aj)×Int×List (List aj)×Int×Int×Unit)=>M.pure (aa.next (A.1,A.2.1,A.2.2.1,A.2.2.2.1,IntKind.wrap .i64 (Add.add A.2.2.2.2.1 1),()))) else M.bind (M.pure (aa.next (A.1,A.2.1,()))) λr=>M.pure (aa.done r)) (x,0,x,Int.ofNat
 (List.length x),0,())) (aa.bl λ(A:List (List aj)×Int×Unit)=>M.bind (g (A.2.1,())) λy=>M.bind (M.loop (λ(A:List (List aj)×Int×Int×List aj×
 Unit)=>if decide (A.2.2.1<A.2.1)=true then M.af (0<=A.2.2.1/\A.2.2.1<Int.ofNat (List.length A.1)) (M.af (b6 (Add.add (List.length A.2.2.2.1) (List.length
 (List.getD A.1 (Int.toNat A.2.2.1) [])))) (M.pure (aa.next (A.1,A.2.1,IntKind.wrap .i64 (Add.add A.2.2.1 1),A.2.2.2.1++List.getD A.1 (Int.toNat A.2.2.1) [],())))) else M.bind (M.pure (aa.next (A.2.2.2.1,()))) λr=>M.pure (aa.done r)) (A.1,Int.ofNat (List.length A.1),0,y.1,())) (aa.bl λ(A:List aj×Unit)
 =>k A.1))
theorem Zm:∀ (l:List (List aj)) (b:List aj),l.foldl (λb x=>b++x) b=b++l.flatten
 | [],b=>by simp
 | x::l,b=>by simp[Zm l]
theorem Zn(g:Int×Unit->M (List aj×Unit))(az:∀ n,0<=n->n<60000->g (n,())=M.pure ([],()))(x:List (List aj))(k:List aj->M fY)(h1:x.length<=2)(h2:∀ l∈x,l.length<=40):Iy g x k=k x.flatten:=by
 unfold Iy;rw[M.gg x (λi (n:Int)=>(x,n,x,(x.length:Int),(i:Int),())) (λl n=>.next (n+(l.length:Int))) (λn=>.next (x,n,())) (λi n=>0<=n/\n<=40*(i:Int)) 0 ?_ ?_ ?_ ?_]
 ·rw[dM,M.aE,M.bK];have hs:∀ (l:List (List aj)) (n:Int),0<=n->(∀ y∈l,y.length<=40)->0<=l.foldl (λn y=>n+(y.length:Int)) n/\l.foldl (λn y=>n+(y.length:Int)) n<=n+40*(l.length:Int):=by
   intro l;induction l with
   | nil=>simp
   | cons y l aG=>
    grind
  obtain⟨dd,dV⟩:=hs x 0 (Int.le_refl _) h2;rw[az _ dd (by omega),M.aE];rw[M.gg x (λi (b:List aj)=>(x,(x.length:Int),(i:Int),b,())) (λl b=>.next (b++l)) (λb=>.next (b,())) (λi b=>b.length<=40*i) [] ?_ ?_ ?_ ?_]
  ·rw[dM,M.aE,M.bK,Zm];rfl
  ·rfl
  ·simp
  ·intro i G b ab;have hw:=bo (n:=(i:Int)+1) (by omega) (by omega);have ai:=h2 _ (List.getElem_mem G);refine⟨?_,λaZ cS=>?_⟩
   ·simp only[bJ,cE G,if_true,cT G,cq G,M.bg,b7,hw];rw[M.bp (hG (by grind))];rfl
   grind
  simp
 ·rfl
 ·omega
 ·intro i G n aA;have hw:=bo (n:=(i:Int)+1) (by omega) (by omega);have ai:=h2 _ (List.getElem_mem G);have gA:=bo (n:=n+(x[i].length:Int)) (by omega) (by omega);have au:decide (n+(x[i].length:Int)<0)=false:=by grind
  refine⟨?_,λaZ cS=>?_⟩
  ·simp only[bJ,cE G,if_true,cT G,cq G,M.bg,b7,hw,gA,au,Bool.false_eq_true,if_false,M.aE,M.bK];rfl
  grind
 simp
end
abbrev Iz:aJ:=⟨.slice (.slice gU),.slice gU,λx=>x.length<=2/\∀ l∈x,l.length<=40,λx=>x.flatten⟩
theorem apW(x):M.le (Zk Ix x) (Iz.sh x):=M.bh λh=>
 (show Zk Ix x=Iy Ix x M.pure from rfl).trans (Zn _ (λn a b=>M.bF ⟨a,b⟩ _) x _ h.1 h.2)
def IA(x:List (z1')×Unit):M (z1'×Unit):=M.du (x.1.length<=2/\∀ l∈x.1,l.length<=40) (x.1.flatten,())
theorem apX(x):M.le (Zl Iw x) (IA x):=M.bh λh=>
 (show Zl Iw x=Iy Iw x.1 (λl=>M.pure (l,())) from rfl).trans (Zn _ (λn a b=>M.bF ⟨a,b⟩ _) x.1 _ h.1 h.2)
def nR(l:z1')(j:Nat):Bool:=decide (j=0)||decide (l.getD j 0≠l.getD (j - 1) 0)
def e_(l:z1')(p:Nat):z1':=((List.range p).filter (nR l)).map λj=>l.getD j 0
theorem Pm(l:z1')(p:Nat):e_ l (p+1)=e_ l p++if nR l p=true then [l.getD p 0] else []:=by
 unfold e_;rw[List.range_succ,List.filter_append,List.map_append];grind
theorem apY(l:z1')(p:Nat):(e_ l p).length<=p:=by
 unfold e_;grind
def Eh{R:Type}:Int×(Nat×Nat)×Int×z1'×Unit->M (aa (Int×(Nat×Nat)×Int×z1'×Unit) (aa (Int×z1'×Unit) R)):=
 (λ(A:Int×(Nat×Nat)×Int×z1'×Unit)=>if decide (A.2.2.1<Int.ofNat (A.2.1.2 - A.2.1.1))=true then M.bind (M.af (0<=A.2.2.1/\A.2.2.1<Int.ofNat
 (A.2.1.2 - A.2.1.1)) (M.af (0<=IntKind.wrap .i64 (A.2.2.1 - 1)/\IntKind.wrap .i64 (A.2.2.1 - 1)<Int.ofNat (A.2.1.2 - A.2.1.1)) (if decide (List.getD A.2.2.2.1
 (Add.add A.2.1.1 (Int.toNat A.2.2.1)) 0≠List.getD A.2.2.2.1 (Add.add A.2.1.1 (Int.toNat (IntKind.wrap .i64 (A.2.2.1 - 1)))) 0)=true then M.af (0<=A.2.2.1/\A.2.2.1
 < Int.ofNat (A.2.1.2 - A.2.1.1)) (M.af (0<=A.1/\A.1<Int.ofNat (List.length A.2.2.2.1)) (M.pure (aa.next (IntKind.wrap .i64 (Add.add A.1 1),A.2.1,A.2.2.1,List.set A.2.2.2.1 (Int.toNat A.1) (List.getD A.2.2.2.1 (Add.add A.2.1.1 (Int.toNat A.2.2.1)) 0),())))) else M.pure (aa.next (A.1,A.2.1,A.2.2.1,A.2.2.2.1,())))))
 (aa.bl λ(A:Int×(Nat×Nat)×Int×z1'×Unit)=>M.pure (aa.next (A.1,A.2.1,IntKind.wrap .i64 (Add.add A.2.2.1 1),A.2.2.2.1,()))) else M.bind
 (M.pure (aa.next (A.1,A.2.2.2.1,()))) λr=>M.pure (aa.done r))
def vV:Int×z1'×Unit->M (aa (Int×z1'×Unit) (aa (z1'×Unit) ((Nat×Nat)×z1'×Unit))):=
 (λ(A:Int×z1'×Unit)=>if decide (A.1<Int.ofNat (List.length A.2.1))=true then M.bind (M.af (0<=A.1/\A.1<Int.ofNat (List.length A.2.1)) (M.af (0<=
 IntKind.wrap .i64 (A.1 - 1)/\IntKind.wrap .i64 (A.1 - 1)<Int.ofNat (List.length A.2.1)) (if decide (List.getD A.2.1 (Int.toNat A.1) 0=List.getD A.2.1 (Int.toNat
 (IntKind.wrap .i64 (A.1 - 1))) 0)=true then M.af (0<=A.1/\A.1<=Int.ofNat (List.length A.2.1)/\Int.ofNat (List.length A.2.1)<=Int.ofNat (List.length A.2.1))
 (M.bind (M.loop Eh (A.1,(Int.toNat A.1,Int.toNat (Int.ofNat (List.length A.2.1))),1,A.2.1,())) (aa.bl λ(A:Int×z1'×Unit)=>M.af (0<=A.1/\A.1<=
 Int.ofNat (List.length A.2.1)/\Int.ofNat (List.length A.2.1)<=Int.ofNat (List.length A.2.1)) (M.af True (M.af ((0:Int)<=0/\0<=A.1/\A.1<=Int.ofNat (List.length
 (List.take (Int.toNat A.1) A.2.1++List.replicate (Int.toNat (Int.ofNat (List.length A.2.1)) - Int.toNat A.1) 0++List.drop (Add.add (Int.toNat A.1) (List.length
 (List.replicate (Int.toNat (Int.ofNat (List.length A.2.1)) - Int.toNat A.1) (0:Int)))) A.2.1))) (M.bind (M.bind (M.bind (M.pure ((Int.toNat 0,Int.toNat A.1),List.take
 (Int.toNat A.1) A.2.1++List.replicate (Int.toNat (Int.ofNat (List.length A.2.1)) - Int.toNat A.1) 0++List.drop (Add.add (Int.toNat A.1) (List.length (List.replicate
 (Int.toNat (Int.ofNat (List.length A.2.1)) - Int.toNat A.1) (0:Int)))) A.2.1,())) λr=>M.pure (aa.done r)) λr=>M.pure (aa.done r)) λr=>M.pure (aa.done
 r)))))) else M.pure (aa.next (A.1,A.2.1,()))))) (aa.bl λ(A:Int×z1'×Unit)=>M.pure (aa.next (IntKind.wrap .i64 (Add.add A.1 1),A.2.1,()))) else
 M.bind (M.pure (aa.next (A.2.1,()))) λr=>M.pure (aa.done r))
structure ye(l:z1')(p:Nat)(m:z1'):Prop where
 len:m.length=l.length
 BQ:m.take (e_ l p).length=e_ l p
 lt:(e_ l p).length<p
 bY:∀ j,p<=j+1->m.getD j 0=l.getD j 0
theorem apZ{aj:Type}{l:List aj}{i j:Nat}{v d:aj}(h:i<l.length):(l.set i v).getD j d=if j=i then v else l.getD j d:=by
 grind
theorem ye.step{l m:z1'}{p:Nat}(h:ye l p m)(hp:p<l.length):ye l (p+1) (if nR l p=true then m.set (e_ l p).length (l.getD p 0) else m):=by
 have h1:=h.lt;have h2:=h.len;have hc:=Pm l p;by_cases ao:nR l p=true
 ·rw[if_pos ao]at hc ⊢;refine⟨by grind,?_,?_,λj aC=>?_⟩
  ·rw[hc,List.length_append,List.length_singleton];have aH:=h.BQ;generalize e_ l p=c at aH h1;apply List.ext_getElem?;intro j;rw[List.getElem?_take,List.getElem?_append,List.getElem?_set];grind
  ·grind
  ·rw[apZ (by omega),if_neg (by omega)];exact h.bY j (by omega)
 ·rw[if_neg ao,List.append_nil]at hc;rw[if_neg ao];refine⟨h2,by rw[hc];exact h.BQ,by grind,λj aC=>h.bY j (by omega)⟩
theorem ap0{R:Type}{l m:z1'}{k p:Nat}(ai:l.length<60000)(ao:k<p)(lz:0<k)(h:ye l p m)(hp:p<l.length) :
  Eh (R:=R) (((e_ l p).length:Nat),(k,l.length),((p - k:Nat):Int),m,())=M.pure (.next (((e_ l (p+1)).length:Nat),(k,l.length),((p+1 - k:Nat):Int),(if nR l p=true then m.set (e_ l p).length (l.getD p 0) else m),())):=by
 have h1:=h.lt;have h2:=h.len;have hc:=Pm l p;have b1:=bo (n:=((p - k:Nat):Int) - 1) (by omega) (by omega);have cI:IntKind.wrap .i64 (((p - k:Nat):Int)+1)=((p+1 - k:Nat):Int):=(bo (by omega) (by omega)).trans (by omega);have eC:=bo (n:=(((e_ l p).length:Nat):Int)+1) (by omega) (by omega);have d1:decide (((p - k:Nat):Int)<((l.length - k:Nat):Int))=true:=by grind
 have bX:(0:Int)<=((p - k:Nat):Int)/\((p - k:Nat):Int)<((l.length - k:Nat):Int):=by omega
 have cn:(0:Int)<=((p - k:Nat):Int) - 1/\((p - k:Nat):Int) - 1<((l.length - k:Nat):Int):=by omega
 have dS:(0:Int)<=(((e_ l p).length:Nat):Int)/\(((e_ l p).length:Nat):Int)<(m.length:Int):=by omega
 have e1:k+(((p - k:Nat):Int)).toNat=p:=by omega
 have e2:k+(((p - k:Nat):Int) - 1).toNat=p - 1:=by omega
 have g1:=h.bY p (by omega);have dR:=h.bY (p - 1) (by omega);have y3:nR l p=decide (l.getD p 0≠l.getD (p - 1) 0):=by
  unfold nR;grind
 unfold Eh;simp only[bJ,d1,if_true,b1,bX,cn,and_self,M.bg,b7,jC,e1,e2,g1,dR,<-y3];by_cases IB:nR l p=true
 ·rw[if_pos IB]at hc;simp only[IB,if_true,dS,and_self,M.bg,M.aE,M.bK,cI,eC,Int.toNat_natCast,decide_true];rw[hc];simp
 ·rw[if_neg IB,List.append_nil]at hc;simp only[IB,if_false,M.aE,M.bK,cI,Bool.false_eq_true,decide_true,if_true];rw[hc]
theorem ap1{R:Type}{l:z1'}{k:Nat}(ai:l.length<60000)(lz:0<k):∀ (n p:Nat) (m:z1'),l.length - p=n->p<=l.length->k<p->ye l p m->
  ∃ c8,ye l l.length c8/\M.loop (Eh (R:=R)) (((e_ l p).length:Nat),(k,l.length),((p - k:Nat):Int),m,())=M.pure (.next (((e_ l l.length).length:Nat),c8,())):=by
 intro n;induction n with
 | zero=>
  intro p m aA hp ao h;have:p=l.length:=by omega
  subst this;refine⟨m,h,M.sT ?_⟩;unfold Eh;simp
 | succ n aG=>
  intro p m aA hp ao h;have hp:p<l.length:=by omega
  obtain⟨c8,h1,h2⟩:=aG (p+1) _ (by omega) hp (by omega) (h.step hp);exact⟨c8,h1,(M.Bk (ap0 ai ao lz h hp)).trans h2⟩
def vW(l:z1'):(Nat×Nat)×z1'×Unit:=((0,(e_ l l.length).length),e_ l l.length++List.replicate (l.length - (e_ l l.length).length) 0,())
theorem ap2{l:z1'}(ai:l.length<60000):∀ (n p:Nat),l.length - p=n->p<=l.length->0<p->e_ l p=l.take p->
  M.bind (M.loop vV ((p:Int),l,())) (aa.bl λ(A:z1'×Unit)=>M.pure ((0,List.length A.1),A.1,()))=M.pure (vW l):=by
 intro n;induction n with
 | zero=>
  intro p aA hp h0 hc;have:p=l.length:=by omega
  subst this;rw[List.take_length]at hc;have ab:vV ((l.length:Int),l,())=M.pure (.done (.next (l,()))):=by
   unfold vV;simp
  rw[M.sT ab,M.aE,M.bK];unfold vW;simp_all
 | succ n aG=>
  intro p aA hp h0 hc;have hp:p<l.length:=by omega
  have b1:=bo (n:=(p:Int) - 1) (by omega) (by omega);have cI:=bo (n:=(p:Int)+1) (by omega) (by omega);have cn:(0:Int)<=(p:Int) - 1/\(p:Int) - 1<(l.length:Int):=by omega
  have e1:((p:Int) - 1).toNat=p - 1:=by omega
  have y3:nR l p=decide (l.getD p 0≠l.getD (p - 1) 0):=by
   unfold nR;rw[show decide (p=0)=false by grind,Bool.false_or]
  have oR:=Pm l p;have YO:(l.take p).length=p:=by grind
  by_cases ao:nR l p=true
  ·have dZ:¬l.getD p 0=l.getD (p - 1) 0:=by grind
   have ab:vV ((p:Int),l,())=M.pure (.next (((p+1:Nat):Int),l,())):=by
    unfold vV;simp_all
   rw[M.Bk ab];refine aG (p+1) (by omega) hp (by omega) ?_;simp_all
  ·have heq:l.getD p 0=l.getD (p - 1) 0:=by grind
   rw[if_neg ao,List.append_nil]at oR;have ee:ye l (p+1) l:=⟨rfl,by grind,by grind,λ_ _=>rfl⟩
   obtain⟨c8,h1,h2⟩:=ap1 (R:=aa (Int×z1'×Unit) (aa (Int×z1'×Unit) (aa (z1'×Unit) ((Nat×Nat)×z1'×Unit)))) ai h0 (l.length - (p+1)) (p+1) l rfl hp (by omega) ee;rw[show (e_ l (p+1)).length=p by grind,show p+1 - p=1 from by omega]at h2;have lq:=apY l l.length;have amo:=h1.len;have kx:=h1.BQ;have dS:(0:Int)<=((e_ l l.length).length:Int)/\((e_ l l.length).length:Int)<=(c8.length:Int):=by omega
   have iX:List.take (e_ l l.length).length c8++List.replicate (c8.length - (e_ l l.length).length) 0++List.drop ((e_ l l.length).length+(List.replicate (c8.length - (e_ l l.length).length) (0:Int)).length) c8=e_ l l.length++List.replicate (l.length - (e_ l l.length).length) 0:=by
    simp_all
   have ab:vV ((p:Int),l,())=M.pure (.done (.done (vW l))):=by
    unfold vV;simp only[bJ,cE hp,if_true,cq hp,M.bg,b1,cn,and_self,e1,Int.toNat_natCast,heq,decide_true];rw[M.bp (by omega)];erw [h2];simp only[M.aE,M.bK,bJ,Int.toNat_natCast,jC,iX,M.bg];rw[M.bp ⟨dS.1,dS.2,Int.le_refl _⟩,M.bp ⟨Int.le_refl _,dS.1,by grind⟩];simp only[M.aE,M.pb,iX];rfl
   rw[M.sT ab,M.aE,M.pb]
def IC(x:z1'×Unit):M ((Nat×Nat)×z1'×Unit):=M.du (x.1.length<60000) (vW x.1)
theorem ap3(x):M.le (apV x) (IC x):=M.bh λh=>by
 obtain⟨l,u⟩:=x;change l.length<60000 at h;show (if decide (Int.ofNat l.length<2)=true then M.pure ((0,l.length),l,()) else M.bind (M.loop vV (1,l,())) (aa.bl λ(A:z1'×Unit)=>M.pure ((0,List.length A.1),A.1,())))=M.pure (vW l);have nu:∀ l:z1',l.length<2->e_ l l.length=l:=λl ai=>by
  match l,ai with
  | [],_=>rfl
  | [a],_=>rfl
 by_cases h2:l.length<2
 ·have au:decide (Int.ofNat l.length<2)=true:=by grind
  rw[if_pos au];unfold vW;simp_all
 ·have au:¬decide (Int.ofNat l.length<2)=true:=by grind
  rw[if_neg au];refine ap2 h (l.length - 1) 1 rfl (by omega) (by omega) ?_;match l,h2 with
  | a::l,_=>rfl
  | [],h2=>grind
end Go.Fer.H
namespace Go.Fer.H
open M (aa)
theorem ap4{l:z1'}:∀ j,j<l.length->l.getD j 0∈e_ l l.length:=by
 intro j;induction j with
 | zero=>
  intro h;unfold e_;exact List.mem_map.2 ⟨0,List.mem_filter.2 ⟨by grind,by rfl⟩,rfl⟩
 | succ j aG=>
  intro h;by_cases ao:nR l (j+1)=true
  ·unfold e_;grind
  ·have:l.getD (j+1) 0=l.getD j 0:=by
    unfold nR at ao;grind
   grind
theorem ap5{l:z1'}{x:Int}:x∈e_ l l.length<->x∈l:=by
 constructor
 ·intro h;unfold e_ at h;grind
 ·intro h;obtain⟨j,aC,rfl⟩:=List.mem_iff_getElem.1 h;rw[<-sq (d:=0) aC];exact ap4 j aC
theorem ap6{l:z1'}(h:l.Pairwise (·<=·)):(e_ l l.length).Pairwise (·<·):=by
 unfold e_;rw[List.pairwise_map];have V:((List.range l.length).filter (nR l)).Pairwise (·<·):=List.Pairwise.filter _ List.pairwise_lt_range;refine List.Pairwise.imp_of_mem ?_ V;intro i j G aC y8;obtain⟨ap7,iK⟩:=List.mem_filter.1 aC;have ap7:j<l.length:=by grind
 have dZ:l.getD j 0≠l.getD (j - 1) 0:=by
  unfold nR at iK;grind
 have hs:=List.pairwise_iff_getElem.1 h;grind
def rs(a b:z1'):z1':=(dT 0 99).filter λid=>a.contains id||b.contains id
theorem Zo(a b:Int):(dT a b).Pairwise (·<·):=by
 unfold dT;rw[List.pairwise_map];exact (List.pairwise_lt_range).imp λh=>by omega
theorem ap8{a b:z1'}(aU:a.Pairwise (·<·))(ab:b.Pairwise (·<·))(h:∀ x,x∈a<->x∈b):a=b:=by
 have ap9:a.Nodup:=aU.imp λh=>by omega
 have l6:b.Nodup:=ab.imp λh=>by omega
 have hp:=(List.perm_ext_iff_of_nodup ap9 l6).2 h;rw[<-z_ (aU.imp λh=>by omega) (List.Perm.refl a)];exact z_ (ab.imp λh=>by omega) hp
theorem ap_{a b:z1'}(aU:∀ x∈a,bM x 0 99=true)(ab:∀ x∈b,bM x 0 99=true):e_ (e7 gW (a++b)) (e7 gW (a++b)).length=rs a b:=by
 refine ap8 (ap6 (NN _)) (List.Pairwise.filter _ (Zo 0 99)) λx=>?_;rw[ap5,Wt];unfold rs;simp only[List.mem_append,List.mem_filter,sc,Bool.or_eq_true,List.contains_iff_mem];refine⟨λh=>⟨?_,h⟩,λh=>h.2⟩;rcases h with h | h
 ·exact ov.1 (aU x h)
 ·exact ov.1 (ab x h)
abbrev ID:aQ:=([],[],[],[],0,0,0,0,0,0,0)
def mW(c:aQ)(more:List aV)(gJ:z1'):aQ:=(c.1,more,gJ,c.2.2.2)
def nS(c:aQ)(more:List aV)(gJ:z1'):aQ×Int:=
 if cu c≠0 then (ID,cu c) else if cu (mW c more gJ)≠0 then (ID,cu (mW c more gJ)) else
 if kI (c.2.1++more)=true then (ID,91) else
 if (decide (Int.ofNat (gC (c.2.1++more)).length > 12)||decide (Int.ofNat (rs c.2.2.1 gJ).length > 12))=true then (ID,90) else (mW c (gC (c.2.1++more)) (rs c.2.2.1 gJ),0)
abbrev AZ:aJ:=⟨.ax je (.ax (.slice gU) fF),.ax je tI,λx=>iC x.1/\x.2.1.length<2 ^ 63/\x.2.2.length<2 ^ 63,λx=>nS x.1 x.2.1 x.2.2⟩
abbrev Ei:aJ:=⟨.slice mc,.slice mc,λx=>x.length<65536,λx=>x⟩
theorem ap'(x):M.le (VY x) (Ei.sh x):=M.sb λh=>by
 unfold VY;rw[M.fG];refine⟨⟨false,by simp⟩,λb ab=>?_⟩;change b=true->x=[]at ab;cases b with
 | true=>rw[ab rfl];exact M.dE.2 rfl
 | false=>
  simp only[Bool.false_eq_true,if_false];exact M.kr.2 ⟨hG (by grind),M.dE.2 (by simp)⟩
structure Zp(c:aQ):Prop where
 dG:c.1.length<=3
 dJ:c.2.1.length<=12
 jt:c.2.2.1.length<=12
 n4:c.2.2.2.1.length<=4
 ids:∀ s∈c.2.1,bM s.1 0 99=true
 gJ:∀ n∈c.2.2.1,bM n 0 99=true
 cl:kI c.2.1=false
theorem IE{c:aQ}(h:cu c=0):Zp c:=by
 unfold cu at h;by_cases hc:jG c=true
 ·rw[if_pos hc]at h;have lq:kI c.2.1=false:=by
   grind
  have G:=Hp hc;unfold jG so at hc;simp only[Bool.and_eq_true,List.all_eq_true,Bool.not_eq_true',Bool.or_eq_false_iff,decide_eq_false_iff_not]at hc;obtain⟨⟨⟨⟨⟨a_,_⟩,_⟩,h2⟩,h3⟩,_⟩:=hc;exact⟨by omega,by omega,by omega,by omega,G.2,h3,lq⟩
 grind
theorem aqa{a b:List aV}(aU:a.length<=12)(ab:b.length<=12)(h1:∀ s∈a,bM s.1 0 99=true)(h2:∀ s∈b,bM s.1 0 99=true):vs (a++b):=
 ⟨by grind,λs hs=>(List.mem_append.1 hs).elim (h1 s) (h2 s)⟩
theorem aqb(x):M.le (Zj hI.sh Ah.sh Iz.sh IA xP IC Ei.sh x) (AZ.sh x):=M.bh λh=>by
 obtain⟨c,more,gJ⟩:=x;obtain⟨h1,h2,h3⟩:=h;change iC c at h1;change more.length<2 ^ 63 at h2;change gJ.length<2 ^ 63 at h3;have tq:iC (mW c more gJ):=⟨h1.1,h2,h3,h1.2.2.2⟩
 unfold Zj;show _=M.pure (nS c more gJ);unfold nS;rw[show hI.sh (c,more,gJ).1=M.pure (cu c) from M.bF h1 _,M.aE];by_cases e1:cu c=0
 ·have g1:=IE e1;rw[show hI.sh ((c,more,gJ).1.1,(c,more,gJ).2.1,(c,more,gJ).2.2,(c,more,gJ).1.2.2.2)=M.pure (cu (mW c more gJ)) from M.bF tq _,M.aE];by_cases e2:cu (mW c more gJ)=0
  ·have dR:=IE e2;have dJ:more.length<=12:=dR.dJ;have jt:gJ.length<=12:=dR.jt;have pV:=g1.dJ;have l0:=g1.jt;have G:vs (c.2.1++more):=aqa g1.dJ dR.dJ g1.ids dR.ids;rw[if_neg (by grind),if_neg (by grind),if_neg (by omega),if_neg (by omega)];rw[show Iz.sh [(c,more,gJ).1.2.1,(c,more,gJ).2.1]=M.pure (c.2.1++more) from (M.bF ⟨by simp,by grind⟩ _).trans (congrArg M.pure (by simp)),M.aE];rw[show Ah.sh (c.2.1++more)=M.pure (if kI (c.2.1++more)=true then ([],false) else (gC (c.2.1++more),true)) from M.bF G _,M.aE];cases hc:kI (c.2.1++more) with
   | true=>simp
   | false=>
    simp only[Bool.false_eq_true,if_false,Bool.not_true];rw[show IA ([c.2.2.1,gJ],())=M.pure (c.2.2.1++gJ,()) from (M.bF ⟨by simp,by grind⟩ _).trans (congrArg M.pure (by simp)),M.aE];rw[show xP ((c.2.2.1++gJ,()):z1'×Unit)=M.pure (e7 gW (c.2.2.1++gJ),()) from M.bF (by grind) _,M.aE];rw[show IC ((e7 gW (c.2.2.1++gJ),()):z1'×Unit)=M.pure (vW (e7 gW (c.2.2.1++gJ))) from M.bF (by show (e7 gW (c.2.2.1++gJ)).length<_;rw[Hi];grind) _,M.aE];have hW:=ap_ g1.gJ dR.gJ;unfold vW;rw[show (e_ (e7 gW (c.2.2.1++gJ)) (e7 gW (c.2.2.1++gJ)).length)=rs c.2.2.1 gJ from hW];simp only[Nat.sub_zero,List.drop_zero,List.take_left];rw[show Ei.sh c.1=M.pure c.1 from M.bF (by have:=g1.dG;omega) _,show Ei.sh c.2.2.2.1=M.pure c.2.2.2.1 from M.bF (by have:=g1.n4;omega) _];simp only[M.iT,M.fp,M.bg];split<;>rfl
  grind
 grind
end Go.Fer.H
namespace Go.Fer.W
open M (aa)
abbrev sI:ae:=.slice .str
abbrev vY:ae:=.st (.ax lN H.je)
def cB:aK->List aK
 | []=>[[]]
 | c::s=>if c=32 then []::cB s else match cB s with
  | []=>[[c]]
  | w::l=>(c::w)::l
theorem ur:∀ (s:aK),1<=(cB s).length/\(cB s).length<=s.length+1
 | []=>by simp[cB]
 | c::s=>by
  have:=ur s;unfold cB;grind
theorem Zq:∀ (s:aK) {w:aK},w∈cB s->w.length<=s.length
 | [],w,h=>by simp[cB]at h;simp[h]
 | c::s,w,h=>by
  have aG:=@Zq s;unfold cB at h;grind
def fJ:aK->Int->Int
 | [],n=>n
 | c::s,n=>if (decide ((c.toNat:Int)<48)||decide ((c.toNat:Int) > 57))=true then -1 else fJ s (10*n+((c.toNat:Int) - 48))
def eW(s:aK):Int:=if (decide (s.length=0)||decide (s.length > 6)||decide (s.length > 1)&&decide ((s.getD 0 0).toNat=48))=true then -1 else fJ s 0
theorem Pn:∀ (s:aK) (n:Int) (k:Nat),0<=n->n<10 ^ k->fJ s n<10 ^ (k+s.length)/\-1<=fJ s n
 | [],n,k,h0,h1=>by simp[fJ];omega
 | c::s,n,k,h0,h1=>by
  unfold fJ;have hp:(0:Int)<10 ^ (k+(c::s).length):=Int.pow_pos (by decide);split
  ·omega
  ·rename_i hc;simp only[Bool.or_eq_true,decide_eq_true_eq,not_or]at hc;have:=Pn s (10*n+((c.toNat:Int) - 48)) (k+1) (by omega) (by omega);grind
theorem aqc(s:aK):-1<=eW s/\eW s<=999999:=by
 unfold eW;split
 ·omega
 ·rename_i h;simp only[Bool.or_eq_true,decide_eq_true_eq,not_or]at h;have:=Pn s 0 0 (by decide) (by decide);have h2:(10:Int) ^ (0+s.length)<=10 ^ 6:=by
   have:=Nat.pow_le_pow_right (n:=10) (by decide) (show 0+s.length<=6 by omega);grind
  omega
def sJ(s:aK):Int:=match Go.Lib.atoiAll s with
 | .ok v=>v
 | .range=>Go.Lib.atoiSat s
 | _=>0
def qS(s:aK):Int×Bool:=(sJ s,decide (0<=eW s))
def IF(l:List aK):Option (z1'):=if l.all (λw=>decide (0<=eW w))=true then some (l.map eW) else none
def pD(n:Int):aK:=Go.Lib.itoa (IntKind.wrap .i64 n)
theorem Po(n:Int):(pD n).length<=21:=by
 have:=pS .i64 n;exact Go.Lib.itoa_length_le _ this.1 this.2
abbrev mi:aK:=[111,107]
abbrev A0:aK:=[110,111]
abbrev Zr:aK:=[110,111,110,101]
abbrev Zs:aK:=[115,104,111,112]
abbrev aqd:aK:=[108,105,97,114]
abbrev Zt:aK:=[63]
def pE(l:z1'):aK:=if l=[] then Zr else Go.Lib.join (l.map pD) [32]
def oH(e:Int)(l:z1'):aK:=if e=0 then pE l else if e=3 then Zr else A0
def yf(x:(Int×Int)×Int):aK:=oH x.2 [x.1.1,x.1.2]
abbrev bd(l:z1')(i:Nat):Int:=l.getD i 0
def pF(d:aW)(m:List H.aV)(v:z1'):aK×aW:=if (H.nS d.2 m v).2≠0 then (A0,d) else (mi,(d.1,(H.nS d.2 m v).1))
def lR(d:aW)(s:br):aK×aW:=if iR s≠0 then (A0,d) else (mi,(s,d.2))
def Pp(d:aW)(l:z1'):aK×aW:=pF d [(bd l 0,bd l 1,bd l 2,1,bd l 3,bd l 4)] []
def Pq(d:aW)(l:z1'):aK×aW:=pF d [(bd l 0,bd l 1,bd l 2,2,bd l 3,0)] []
def Pr(d:aW)(l:z1'):aK×aW:=pF d [] l
def Ps(d:aW)(l:z1'):aK×aW:=(yf (H.Hw d.2 (bd l 0)),d)
def Pt(d:aW)(l:z1'):aK×aW:=(yf (H.Hy d.2 (bd l 0)),d)
def Pu(d:aW)(l:z1'):aK×aW:=(yf (H.HA d.2 (bd l 0)),d)
def Pv(d:aW)(l:z1'):aK×aW:=(yf (H.HC d.2 (bd l 0)),d)
def Ej(r:z1'×Int):aK:=if (decide (r.2≠0)||decide (r.1.getD 0 0>=0))=true then oH r.2 r.1 else if r.1.length=1 then Zs else Zs++[32]++pE (r.1.drop 1)
def Pw(d:aW)(l:z1'):aK×aW:=(Ej (H.rf d.2 (bd l 0) (bd l 1)),d)
def Ek(r:z1'×z1'×Int):aK:=if r.2.2≠0 then oH r.2.2 [] else pE r.1++[32,47,32]++pE r.2.1
def Px(d:aW)(l:z1'):aK×aW:=(Ek (H.su d.2 (bd l 0)),d)
def mX(w:bc)(t:Int×Int×Int×Int):bc:=(w.1,w.2.1,w.2.2.1,w.2.2.2++[t])
def vZ(d:aW)(l:z1'):aK×aW:=
 if cu (mX d.1.1 (bd l 0,bd l 1,bd l 2,bd l 3))≠0 then (A0,d) else if (vK (mX d.1.1 (bd l 0,bd l 1,bd l 2,bd l 3)) (bd l 0)).2≠0 then (aqd,d)
 else (mi,((mX d.1.1 (bd l 0,bd l 1,bd l 2,bd l 3),d.1.2),d.2))
def rm(r:Int×Int):aK:=if r.2≠0 then oH r.2 [] else List.getD [[],[115,117,114,101,108,121],[110,101,118,101,114],[112,101,114,104,97,112,115]] r.1.toNat []
def Py(d:aW)(l:z1'):aK×aW:=(rm (qo d.1.1 (bd l 0) (bd l 1) (bd l 2)),d)
def v7(d:aW)(l:z1'):aK×aW:=if bd l 0>=(d.1.2.1.length:Int) then (A0,d) else lR d (d.1.1,d.1.2.1.set (bd l 0).toNat (d.1.2.1.getD (bd l 0).toNat 0+bd l 1),d.1.2.2)
def Pz(d:aW)(l:z1'):aK×aW:=lR d (d.1.1,d.1.2.1,d.1.2.2.1,d.1.2.2.2.1,d.1.2.2.2.2.1++[(bd l 0,bd l 1,bd l 2)],d.1.2.2.2.2.2)
def PA(d:aW)(l:z1'):aK×aW:=lR d (d.1.1,d.1.2.1,d.1.2.2.1++[(bd l 0,bd l 1,bd l 2,bd l 3,l.drop 4)],d.1.2.2.2)
def PB(d:aW)(l:z1'):aK×aW:=lR d (d.1.1,d.1.2.1,d.1.2.2.1,d.1.2.2.2.1++[(l.drop 5,(bd l 0,bd l 1),bd l 2,bd l 3,bd l 4)],d.1.2.2.2.2)
def v8(d:aW)(l:z1'):aK×aW:=if bd l 0>=(d.1.2.2.2.1.length:Int) then (A0,d) else (mi,((d.1.1,d.1.2.1,d.1.2.2.1,d.1.2.2.2.1.eraseIdx (bd l 0).toNat,d.1.2.2.2.2),d.2))
def PC(d:aW)(l:z1'):aK×aW:=(oH (uo d.1 (bd l 0)).2 (uo d.1 (bd l 0)).1,d)
def PD(d:aW)(l:z1'):aK×aW:=(oH (AX d.1 (l.map (· - 1))).2 [(AX d.1 (l.map (· - 1))).1],d)
def PE(d:aW)(_:z1'):aK×aW:=(oH (yd d.1 true).2 [(yd d.1 true).1],d)
def PF(d:aW)(_:z1'):aK×aW:=(oH (AW d.1).2 [(AW d.1).1],d)
def ru:Nat->aW->z1'->aK×aW
 | 0=>Pp | 1=>Pq | 2=>Pr | 3=>Ps | 4=>Pt | 5=>Pu | 6=>Pv | 7=>Pw | 8=>Px | 9=>vZ
 | 10=>Py | 11=>v7 | 12=>Pz | 13=>PA | 14=>PB | 15=>v8 | 16=>PC | 17=>PD | 18=>PE | _=>PF
def j7:List (aK×Int×Bool):=[([108,101,110,100],5,false),([98,97,99,107],4,false),([118,111,105,100],1,false),([108,97,115,116,115],1,false),([102,101,101],1,false),([111,119,101,115],1,false),([104,101,108,100],1,false),([119,104,101,114,101],2,false),([109,105,115,115,105,110,103],1,false),([116,114,105,97,108],4,false),([102,105,116,115],3,false),([115,116,111,99,107],2,false),([99,111,109,101,115],3,false),([112,105,101,99,101],4,true),([119,105,115,104],5,true),([100,114,111,112],1,false),([99,97,110],1,false),([116,97,107,101,115],0,true),([109,111,115,116],0,false),([101,120,116,114,97],0,false)]
def oI(w:aK):List (aK×Int×Bool)->Nat->Option (Int×Bool×Nat)
 | [],_=>none
 | p::l,i=>if w=p.1 then some (p.2.1,p.2.2,i) else oI w l (i+1)
def A1(s:aK):Option (Nat×z1'):=
 match oI ((cB s).getD 0 []) j7 0 with
 | none=>none
 | some (k,m,j)=>if (decide (((cB s).length:Int) - 1<k)||decide (((cB s).length:Int) - 1 > k)&&!m)=true then none else (IF ((cB s).drop 1)).map λl=>(j,l)
def jj(d:aW)(s:aK):aK×aW:=match A1 s with
 | none=>(Zt,d)
 | some (j,l)=>ru j d l
def fw:aW->List aK->List aK×aW
 | d,[]=>([],d)
 | d,s::l=>((jj d s).1::(fw (jj d s).2 l).1,(fw (jj d s).2 l).2)
theorem PG(d:aW)(a:List aK):(fw d a).1.length=a.length:=by
 induction a generalizing d with
 | nil=>rfl
 | cons s a aG=>simp only[fw,List.length_cons,aG]
def jN(d:aW):Int:=if (decide (iR d.1≠0)||decide (H.cu d.2≠0))=true then 120 else 0
def fi(d:aW):aW:=(d.1,(H.nS d.2 [] []).1)
abbrev Zu:aW:=((([],[],0,[]),[],[],[],[],0),[],[],[],[],0,0,0,0,0,0,0)
def v_(d:aW)(l:List aK):List aK×aW×Int:=
 if jN d≠0 then ([],Zu,jN d) else if l.length > 40 then ([],Zu,2) else ((fw (fi d) l).1,(fw (fi d) l).2,0)
structure db(d:aW):Prop where
 gN:e' d.1
 yg:iR d.1=0
 yh:H.cu d.2=0
 A2:H.j5 d.2.1<=60
theorem db.val{d:aW}(h:db d):lO d.1:=AO h.gN h.yg
theorem db.aqe{d:aW}(h:db d):jN d=0:=by simp[jN,h.yg,h.yh]
theorem db.aqf{d:aW}(h:db d):H.Zp d.2:=H.IE h.yh
theorem db.gu{d:aW}(h:db d):H.gu d.2:=by
 have:=h.aqf;exact⟨⟨by have:=this.dG;omega,by have:=this.dJ;omega,by have:=this.jt;omega,by have:=this.n4;omega⟩,λ_=>h.A2⟩
theorem db.iC{d:aW}(h:db d):H.iC d.2:=h.gu.gN
structure d'(k:Nat)(l:z1'):Prop where
 PH:k<=l.length
 IG:l.length<=10000
 num:∀ n∈l,0<=n/\n<=999999
theorem d'.bd{k:Nat}{l:z1'}(h:d' k l)(i:Nat):0<=bd l i/\bd l i<=999999:=by
 rcases Nat.lt_or_ge i l.length with G | G
 ·have:=h.num l[i] (by simp);grind
 ·grind
end Go.Fer.W
namespace Go.Fer.W
open M (aa)
open H (hG)
abbrev IH:aJ:=⟨.int .i64,.str,λ_=>True,pD⟩
abbrev El:aJ:=⟨.ax sI .str,.str,λx=>x.1.length<=60000/\(∀ w∈x.1,w.length<=21)/\x.2.length=1,λx=>Go.Lib.join x.1 x.2⟩
theorem Zv:∀ (l:List aK) (s:aK) (n:Nat),(∀ w∈l,w.length<=n)->(Go.Lib.join l s).length<=l.length*(n+s.length)
 | [],s,n,h=>by simp[Go.Lib.join_nil]
 | x::r,s,n,h=>by
  rw[Go.Lib.join_cons];have aH:∀ (r:List aK),(∀ w∈r,w.length<=n)->(Go.Lib.joinTail s r).length<=r.length*(n+s.length):=by
   intro r;induction r with
   | nil=>intro _;simp[Go.Lib.joinTail]
   | cons y r aG=>
    intro h;have h1:=aG λw hw=>h w (by grind);have h2:=h y (by simp);simp only[Go.Lib.joinTail,List.map_cons,List.flatten_cons,List.length_append,List.length_cons,Nat.succ_mul]at h1 ⊢;omega
  have h1:=aH r λw hw=>h w (by grind);have h2:=h x (by simp);simp only[List.length_append,List.length_cons,Nat.succ_mul];omega
theorem PI(l:z1'):(pE l).length<=l.length*22+4:=by
 unfold pE;split
 ·simp
 ·have:=Zv (l.map pD) [32] 21 λw hw=>by
   obtain⟨n,_,rfl⟩:=List.mem_map.1 hw;exact Po n
  grind
abbrev yi:aJ:=⟨fF,.str,λx=>x.length<=60000,pE⟩
theorem aqg(x):M.le (XP IH.sh El.sh x) (yi.sh x):=M.bh λh=>by
 change x.length<=60000 at h;unfold XP;show _=M.pure (pE x);unfold pE;by_cases hx:x=[]
 ·grind
 ·have ai:x.length≠0:=by grind
  rw[if_neg (by grind),if_neg hx];rw[M.gg x (λi (o:List aK)=>(x,(x.length:Int),(i:Int),o,())) (λn o=>.next (o++[pD n])) (λo=>.next (o,())) (λi o=>o.length=i) [] ?_ rfl ?_ ?_]
  ·rw[dM,xD,List.nil_append,M.aE,M.bK];rw[show El.sh (x.map pD,[32])=M.pure (Go.Lib.join (x.map pD) [32]) from M.bF ⟨by grind,λw hw=>by
    obtain⟨n,_,rfl⟩:=List.mem_map.1 hw;exact Po n,rfl⟩ _,M.aE]
  ·rfl
  ·intro i G o ag;have hw:=bo (n:=(i:Int)+1) (by omega) (by omega);refine⟨?_,λaZ cS=>?_⟩
   ·simp only[bJ,cE G,if_true,cT G,cq G,M.bg,b7,hw];rw[show IH.sh x[i]=M.pure (pD x[i]) from rfl,M.aE,M.bp (hG (by grind))];rfl
   ·grind
  simp
abbrev qq:aJ:=⟨.ax (.int .i64) fF,.str,λx=>x.2.length<=60000,λx=>oH x.1 x.2⟩
theorem aqh(x):M.le (XO yi.sh x) (qq.sh x):=M.bh λh=>by
 change x.2.length<=60000 at h;unfold XO;show _=M.pure (oH x.1 x.2);unfold oH;rw[show yi.sh x.2=M.pure (pE x.2) from M.bF h _,M.aE];grind
abbrev yj:aJ:=⟨.ax mc (.int .i64),.str,λ_=>True,yf⟩
theorem aqi(x):M.le (XN qq.sh x) (yj.sh x):=M.bh λ_=>by
 unfold XN;rw[show qq.sh (x.2,[x.1.1,x.1.2])=M.pure (yf x) from M.bF (show 2<=60000 by decide) _,M.aE]
theorem yk{e:Int}{l:z1'}(h:l.length<=60000):qq.sh (e,l)=M.pure (oH e l):=M.bF h _
theorem PJ{l:z1'}(h:l.length<=60000):yi.sh l=M.pure (pE l):=M.bF h _
theorem II(x:(Int×Int)×Int):yj.sh x=M.pure (yf x):=rfl
def shD(k:Nat)(g:aW->z1'->aK×aW)(x:z1'×aW×Unit):M (aK×aW×Unit):=M.du (db x.2.1/\d' k x.1) ((g x.2.1 x.1).1,(g x.2.1 x.1).2,())
theorem mY:Int.toNat 0=0:=rfl
theorem mZ:Int.toNat 1=1:=rfl
theorem m_:Int.toNat 2=2:=rfl
theorem m':Int.toNat 3=3:=rfl
theorem na:Int.toNat 4=4:=rfl
theorem nb:Int.toNat 5=5:=rfl
theorem nc{aj:Type}{k:Nat}{l:z1'}(h:d' k l)(m:M aj)(i:Int)(G:0<=i/\i<(k:Int)):M.af (0<=i/\i<Int.ofNat l.length) m=m:=
 M.bp ⟨G.1,by have:=h.PH;grind⟩ m
def A3(x:List H.aV×z1'×aW×Unit):M (aK×aW×Unit):=M.du (db x.2.2.1/\x.1.length<2 ^ 63/\x.2.1.length<2 ^ 63) ((pF x.2.2.1 x.1 x.2.1).1,(pF x.2.2.1 x.1 x.2.1).2,())
theorem aqj(x):M.le (XJ H.AZ.sh x) (A3 x):=M.bh λh=>by
 obtain⟨m,v,d,⟨⟩⟩:=x;obtain⟨au,h1,h2⟩:=h;unfold XJ;rw[M.bg,show H.AZ.sh (d.2,m,v)=M.pure (H.nS d.2 m v) from M.bF ⟨au.iC,h1,h2⟩ _,M.aE];unfold pF;by_cases e:(H.nS d.2 m v).2=0<;>simp[e]
theorem PK{d:aW}(au:db d)(m:List H.aV)(v:z1')(h1:m.length<2 ^ 63)(h2:v.length<2 ^ 63):A3 (m,v,d,())=M.pure ((pF d m v).1,(pF d m v).2,()):=M.bF ⟨au,h1,h2⟩ _
theorem aqk(x):M.le (XI A3 x) (shD 5 Pp x):=M.bh λh=>by
 obtain⟨l,d,⟨⟩⟩:=x;obtain⟨au,ai⟩:db d/\d' _ l:=h;unfold XI;simp (disch:=decide) only [nc ai,M.bg,mY,mZ,m_,m',na,nb];rw[PK au _ _ (by simp) (by simp),M.aE];rfl
theorem aql(x):M.le (XK A3 x) (shD 4 Pq x):=M.bh λh=>by
 obtain⟨l,d,⟨⟩⟩:=x;obtain⟨au,ai⟩:db d/\d' _ l:=h;unfold XK;simp (disch:=decide) only [nc ai,M.bg,mY,mZ,m_,m',na,nb];rw[PK au _ _ (by simp) (by simp),M.aE];rfl
theorem N5(x):M.le (XL A3 x) (shD 1 Pr x):=M.bh λh=>by
 obtain⟨l,d,⟨⟩⟩:=x;obtain⟨au,ai⟩:db d/\d' _ l:=h;unfold XL;rw[PK au _ _ (by simp) (show l.length<2 ^ 63 by have:=ai.IG;omega),M.aE];rfl
theorem aqm(x):M.le (XM H.Hx.sh yj.sh x) (shD 1 Ps x):=M.bh λh=>by
 obtain⟨l,d,⟨⟩⟩:=x;obtain⟨au,ai⟩:db d/\d' _ l:=h;unfold XM;simp (disch:=decide) only [nc ai,M.bg,mY,mZ,m_,m',na,nb];rw[show H.Hx.sh (d.2,bd l 0)=M.pure _ from M.bF au.gu _];simp only[M.iT,M.fp,M.bg,II];rfl
theorem aqn(x):M.le (XQ H.Hz.sh yj.sh x) (shD 1 Pt x):=M.bh λh=>by
 obtain⟨l,d,⟨⟩⟩:=x;obtain⟨au,ai⟩:db d/\d' _ l:=h;unfold XQ;simp (disch:=decide) only [nc ai,M.bg,mY,mZ,m_,m',na,nb];rw[show H.Hz.sh (d.2,bd l 0)=M.pure _ from M.bF au.gu _];simp only[M.iT,M.fp,M.bg,II];rfl
theorem aqo(x):M.le (XR H.HB.sh yj.sh x) (shD 1 Pu x):=M.bh λh=>by
 obtain⟨l,d,⟨⟩⟩:=x;obtain⟨au,ai⟩:db d/\d' _ l:=h;unfold XR;simp (disch:=decide) only [nc ai,M.bg,mY,mZ,m_,m',na,nb];rw[show H.HB.sh (d.2,bd l 0)=M.pure _ from M.bF au.gu _];simp only[M.iT,M.fp,M.bg,II];rfl
theorem aqp(x):M.le (XS H.HD.sh yj.sh x) (shD 1 Pv x):=M.bh λh=>by
 obtain⟨l,d,⟨⟩⟩:=x;obtain⟨au,ai⟩:db d/\d' _ l:=h;unfold XS;simp (disch:=decide) only [nc ai,M.bg,mY,mZ,m_,m',na,nb];rw[show H.HD.sh (d.2,bd l 0)=M.pure _ from M.bF au.gu _];simp only[M.iT,M.fp,M.bg,II];rfl
theorem PL{a b:Int}:(dT a b).length=(b+1 - a).toNat:=by simp[dT];omega
theorem aqq(c:H.aQ)(u t:Int):(H.rf c u t).1.length<=101:=Nat.le_trans (List.length_filter_le ..) (by rw[PL];decide)
theorem aqr{c:H.aQ}{u t:Int}(h:(H.rf c u t).2=0):0<(H.rf c u t).1.length:=by
 unfold H.rf at h ⊢;rcases H.Av c (H.vv u t) with⟨h1,_⟩ | ⟨h1,h2,h3,aR⟩
 ·omega
 ·have az:=H.oz h2;have cp:(0<=u/\u<=9)/\0<=t/\t<=9999:=by
   unfold H.vv at h3;rw[Bool.and_eq_true,H.ov,H.ov]at h3;exact h3
  have dZ:H.cv c≠[]:=by
   intro he;unfold H.eh at h1;grind
  obtain⟨w,T,hT⟩:=List.exists_cons_of_ne_nil dZ;have hw:H.iA c w=true:=H.vz (by grind);have ao:=H.Xz az hw cp.1 t;have ab:-1<=H.k9 c w u t/\H.k9 c w u t<=99:=by
   rcases H.On c w u t with h | ⟨s,hs,h⟩
   ·omega
   ·rw[h];obtain⟨e,he,rfl⟩:=List.mem_map.1 hs;have:=H.Oj az (List.mem_filter.1 he).1;omega
  refine List.length_pos_of_mem (a:=H.k9 c w u t) (List.mem_filter.2 ⟨sc.2 ab,?_⟩);rw[List.contains_iff_mem];unfold H.NZ;grind
theorem aqs(x):M.le (XT H.HE.sh qq.sh yi.sh x) (shD 2 Pw x):=M.bh λh=>by
 obtain⟨l,d,⟨⟩⟩:=x;obtain⟨au,ai⟩:db d/\d' _ l:=h;unfold XT;simp (disch:=decide) only [nc ai,M.bg,mY,mZ,m_,m',na,nb];have h1:=aqq d.2 (bd l 0) (bd l 1);have h2:=aqr (c:=d.2) (u:=bd l 0) (t:=bd l 1);have hc:H.HE.sh (d.2,bd l 0,bd l 1)=M.pure (H.rf d.2 (bd l 0) (bd l 1)):=M.bF au.gu _;simp only[hc];show _=M.pure (Ej (H.rf d.2 (bd l 0) (bd l 1)),d,());generalize H.rf d.2 (bd l 0) (bd l 1)=r at *
 simp only[M.iT,M.fp,M.bg];rw[M.bp (λab=>⟨⟨ab,trivial⟩,⟨by decide,by grind⟩,trivial⟩),yk (by omega),M.aE];unfold Ej;by_cases e:(decide (r.2≠0)||decide (r.1.getD 0 0>=0))=true
 ·grind
 ·rw[if_neg e,if_neg e];have e0:r.2=0:=by grind
  have hp:=h2 e0;by_cases e1:r.1.length=1
  ·grind
  ·rw[if_neg (by grind),if_neg e1];rw[M.bp ⟨by decide,by grind,Int.le_refl _⟩];have pn:List.take (Int.ofNat r.1.length).toNat r.1=r.1:=by simp
   rw[pn];rw[PJ (by grind),M.aE];have lv:=PI (r.1.drop 1);rw[M.bp (hG (by grind))];rfl
theorem aqt(c:H.aQ)(t:Int):(H.su c t).1.length<=10/\(H.su c t).2.1.length<=10:=by
 unfold H.su;split
 ·simp
 ·exact⟨Nat.le_trans (List.length_filter_le ..) (by rw[PL];decide),Nat.le_trans (List.length_filter_le ..) (by rw[PL];decide)⟩
theorem aqu(x):M.le (XU H.HF.sh qq.sh yi.sh x) (shD 1 Px x):=M.bh λh=>by
 obtain⟨l,d,⟨⟩⟩:=x;obtain⟨au,ai⟩:db d/\d' _ l:=h;unfold XU;simp (disch:=decide) only [nc ai,M.bg,mY,mZ,m_,m',na,nb];have h1:=aqt d.2 (bd l 0);have hc:H.HF.sh (d.2,bd l 0)=M.pure (H.su d.2 (bd l 0)):=M.bF au.gu _;simp only[hc];show _=M.pure (Ek (H.su d.2 (bd l 0)),d,());generalize H.su d.2 (bd l 0)=r at *
 simp only[M.iT,M.fp,M.bg];rw[yk (by simp),PJ (by omega),PJ (by omega)];have eO:=PI r.1;have pL:=PI r.2.1;unfold Ek;by_cases e:r.2.2=0
 ·simp only[M.aE];rw[M.bp (hG (by grind)),M.bp (hG (by grind))];simp[e]
 ·simp[e]
theorem aqv(w:bc)(i m k:Int):0<=uf w i m k/\uf w i m k<4:=by
 unfold uf HN;grind
theorem aqw(x):M.le (XW AH.sh qq.sh x) (shD 3 Py x):=M.bh λh=>by
 obtain⟨l,d,⟨⟩⟩:=x;obtain⟨au,ai⟩:db d/\d' _ l:=h;unfold XW;simp (disch:=decide) only [nc ai,M.bg,mY,mZ,m_,m',na,nb];have hc:AH.sh (d.1.1,bd l 0,bd l 1,bd l 2)=M.pure (qo d.1.1 (bd l 0) (bd l 1) (bd l 2)):=M.bF au.gN.1 _;simp only[hc];show _=M.pure (rm (qo d.1.1 (bd l 0) (bd l 1) (bd l 2)),d,());have h1:0<=(qo d.1.1 (bd l 0) (bd l 1) (bd l 2)).1/\(qo d.1.1 (bd l 0) (bd l 1) (bd l 2)).1<4:=by
  have:=aqv d.1.1 (bd l 0) (bd l 1) (bd l 2);unfold qo;grind
 generalize qo d.1.1 (bd l 0) (bd l 1) (bd l 2)=r at *
 simp only[M.iT,M.fp,M.bg];rw[yk (by simp),M.bp ⟨h1.1,h1.2⟩];unfold rm;by_cases e:r.2=0<;>simp[e]
theorem aqx{s:br}(h:lO s)(w:Int):(uo s w).1.length<=2000:=by
 have:=h.H8;unfold uo Zg;grind
theorem aqy(x):M.le (X4 Ir.sh qq.sh x) (shD 1 PC x):=M.bh λh=>by
 obtain⟨l,d,⟨⟩⟩:=x;obtain⟨au,ai⟩:db d/\d' _ l:=h;unfold X4;simp (disch:=decide) only [nc ai,M.bg,mY,mZ,m_,m',na,nb];rw[show Ir.sh (d.1,bd l 0)=M.pure (uo d.1 (bd l 0)) from M.bF au.gN _];have:=aqx au.val (bd l 0);simp only[M.iT,M.fp,M.bg];rw[yk (show (uo d.1 (bd l 0)).1.length<=60000 by omega),M.aE];rfl
def IJ(x:z1'×Unit):M (z1'×Unit):=M.du (x.1.length<=3000000) x
theorem aqz(x):M.le (X5 Is.sh IJ qq.sh x) (shD 0 PD x):=M.bh λh=>by
 obtain⟨l,d,⟨⟩⟩:=x;obtain⟨au,ai⟩:db d/\d' _ l:=h;have an:=ai.IG;change l.length<=10000 at an;unfold X5;rw[show IJ (l,())=M.pure (l,()) from M.bF (by grind) _,M.aE];rw[M.gg l (λi (o:z1')=>((l.length:Int),(i:Int),o++l.drop i,d,())) (λn o=>.next (o++[n - 1])) (λo=>.next (o,d,())) (λi o=>o.length=i) [] ?_ rfl ?_ ?_]
 ·rw[dM,xD,List.nil_append,M.aE,M.bK,M.bg];rw[show Is.sh (d.1,l.map (· - 1))=M.pure (AX d.1 (l.map (· - 1))) from M.bF ⟨au.gN,by grind⟩ _,M.aE,yk (by simp),M.aE];rfl
 ·simp
 ·intro i G o ag;have hw:=bo (n:=(i:Int)+1) (by omega) (by omega);have aA:=ai.num l[i] (by simp);have gA:=bo (n:=l[i] - 1) (by omega) (by omega);subst ag;have bZ:o.length<(o++l.drop o.length).length:=by grind
  have az:(o++l.drop o.length)[o.length]=l[o.length]:=by simp
  have hs:(o++l.drop o.length).set o.length (l[o.length] - 1)=o++[l[o.length] - 1]++l.drop (o.length+1):=by
   rw[List.set_append_right _ _ (Nat.le_refl _),Nat.sub_self,List.drop_eq_getElem_cons G,List.set_cons_zero,List.append_assoc];rfl
  refine⟨?_,λaZ cS=>?_⟩
  ·simp only[bJ,cE G,if_true,cq bZ,M.bg,b7,hw];rw[show (o++l.drop o.length).getD (Int.toNat (o.length:Int)) 0=l[o.length] by grind,gA,Int.toNat_natCast,hs];rfl
  ·grind
 simp
theorem aqA(x):M.le (X6 Im.sh qq.sh x) (shD 0 PE x):=M.bh λh=>by
 obtain⟨l,d,⟨⟩⟩:=x;obtain⟨au,ai⟩:db d/\d' _ l:=h;unfold X6;rw[M.bg,show Im.sh d.1=M.pure (yd d.1 true) from M.bF au.gN _,M.aE,yk (by simp),M.aE];rfl
theorem aqB(x):M.le (X7 Iq.sh qq.sh x) (shD 0 PF x):=M.bh λh=>by
 obtain⟨l,d,⟨⟩⟩:=x;obtain⟨au,ai⟩:db d/\d' _ l:=h;unfold X7;rw[M.bg,show Iq.sh d.1=M.pure (AW d.1) from M.bF au.gN _,M.aE,yk (by simp),M.aE];rfl
def PM{aj:Type}(x:List aj×Unit):M (List aj×Unit):=M.bind (M.any λ(b:Bool)=>b=true->x.1=[]) λ(y:Bool)=>if y=true then M.pure ([],()) else M.af (b6 (Add.add 0 (List.length x.1))) (M.pure ([]++x.1,()))
abbrev fx(t:ae):aJ:=⟨.slice t,.slice t,λx=>x.length<=3000000,λx=>x⟩
def qt{aj:Type}(x:List aj×Unit):M (List aj×Unit):=M.du (x.1.length<=3000000) x
theorem v'{aj:Type}(x:List aj×Unit):M.le (PM x) (qt x):=M.sb λh=>by
 unfold PM;rw[M.fG];refine⟨⟨false,by simp⟩,λb ab=>?_⟩;change b=true->x.1=[]at ab;obtain⟨l,⟨⟩⟩:=x;cases b with
 | true=>rw[show l=[] from ab rfl];exact M.dE.2 rfl
 | false=>
  simp only[Bool.false_eq_true,if_false];exact M.kr.2 ⟨by change l.length<=3000000 at h;simp only[jC,b6];omega,M.dE.2 (by simp)⟩
theorem aqC(x:z1'×Unit):M.le (PM x) (IJ x):=v' x
def Zw{aj:Type}(z:aj)(x:Int×Int×List aj×Unit):M ((Nat×Nat)×List aj×Unit):=
 M.af (0<=x.1/\x.1<=x.2.1/\x.2.1<=Int.ofNat (List.length x.2.2.1)/\Int.ofNat (List.length x.2.2.1)<=Int.ofNat (List.length x.2.2.1)) (if decide
 (x.1=x.2.1)=true then M.pure ((0,List.length x.2.2.1),x.2.2.1,()) else M.af ((0:Int)<=0/\0<=x.1/\x.1<=Int.ofNat (List.length x.2.2.1))
 (M.af (0<=x.2.1/\x.2.1<=Int.ofNat (List.length x.2.2.1)/\Int.ofNat (List.length x.2.2.1)<=Int.ofNat (List.length x.2.2.1)) (M.af (Add.add
 (Int.toNat x.1) (List.length (List.drop (Int.toNat x.2.1) (List.take (Int.toNat (Int.ofNat (List.length x.2.2.1))) x.2.2.1)))<=List.length x.2.2.1)
 (M.af (0<=Int.ofNat (Add.add (Int.toNat x.1) (List.length (List.drop (Int.toNat x.2.1) (List.take (Int.toNat (Int.ofNat (List.length x.2.2.1)))
 x.2.2.1))) - Int.toNat 0)/\Int.ofNat (Add.add (Int.toNat x.1) (List.length (List.drop (Int.toNat x.2.1) (List.take (Int.toNat (Int.ofNat (List.length
 x.2.2.1))) x.2.2.1))) - Int.toNat 0)<=Int.ofNat (List.length x.2.2.1)/\Int.ofNat (List.length x.2.2.1)<=Int.ofNat (List.length (List.take
 (Int.toNat x.1) x.2.2.1++List.drop (Int.toNat x.2.1) (List.take (Int.toNat (Int.ofNat (List.length x.2.2.1))) x.2.2.1)++List.drop (Add.add
 (Int.toNat x.1) (List.length (List.drop (Int.toNat x.2.1) (List.take (Int.toNat (Int.ofNat (List.length x.2.2.1))) x.2.2.1)))) x.2.2.1) - Int.toNat
 0)) (M.af True (M.pure ((Int.toNat 0,Add.add (Int.toNat x.1) (List.length (List.drop (Int.toNat x.2.1) (List.take (Int.toNat (Int.ofNat (List.length
 x.2.2.1))) x.2.2.1)))),List.take (Add.add (Int.toNat 0) (Int.toNat (Int.ofNat (Add.add (Int.toNat x.1) (List.length (List.drop (Int.toNat x.2.1)
 (List.take (Int.toNat (Int.ofNat (List.length x.2.2.1))) x.2.2.1))) - Int.toNat 0)))) (List.take (Int.toNat x.1) x.2.2.1++List.drop (Int.toNat
 x.2.1) (List.take (Int.toNat (Int.ofNat (List.length x.2.2.1))) x.2.2.1)++List.drop (Add.add (Int.toNat x.1) (List.length (List.drop (Int.toNat
 x.2.1) (List.take (Int.toNat (Int.ofNat (List.length x.2.2.1))) x.2.2.1)))) x.2.2.1)++List.replicate (Add.add (Int.toNat 0) (Int.toNat (Int.ofNat
 (List.length x.2.2.1))) - Add.add (Int.toNat 0) (Int.toNat (Int.ofNat (Add.add (Int.toNat x.1) (List.length (List.drop (Int.toNat x.2.1) (List.take
 (Int.toNat (Int.ofNat (List.length x.2.2.1))) x.2.2.1))) - Int.toNat 0)))) z++List.drop (Add.add (Add.add (Int.toNat 0) (Int.toNat (Int.ofNat
 (Add.add (Int.toNat x.1) (List.length (List.drop (Int.toNat x.2.1) (List.take (Int.toNat (Int.ofNat (List.length x.2.2.1))) x.2.2.1))) - Int.toNat
 0)))) (List.length (List.replicate (Add.add (Int.toNat 0) (Int.toNat (Int.ofNat (List.length x.2.2.1))) - Add.add (Int.toNat 0) (Int.toNat (Int.ofNat
 (Add.add (Int.toNat x.1) (List.length (List.drop (Int.toNat x.2.1) (List.take (Int.toNat (Int.ofNat (List.length x.2.2.1))) x.2.2.1))) - Int.toNat
 0)))) z))) (List.take (Int.toNat x.1) x.2.2.1++List.drop (Int.toNat x.2.1) (List.take (Int.toNat (Int.ofNat (List.length x.2.2.1))) x.2.2.1)++
 List.drop (Add.add (Int.toNat x.1) (List.length (List.drop (Int.toNat x.2.1) (List.take (Int.toNat (Int.ofNat (List.length x.2.2.1))) x.2.2.1))))
 x.2.2.1),())))))))
def IK{aj:Type}(z:aj)(x:Int×Int×List aj×Unit):M ((Nat×Nat)×List aj×Unit):=M.du (0<=x.1/\x.2.1=x.1+1/\x.1<(x.2.2.1.length:Int)/\x.2.2.1.length<=3000000) ((0,x.2.2.1.length - 1),x.2.2.1.eraseIdx x.1.toNat++[z],())
theorem aqD{aj:Type}(z:aj)(x):M.le (Zw z x) (IK z x):=M.bh λh=>by
 obtain⟨i,j,l,⟨⟩⟩:=x;obtain⟨h0,h1,h2,h3⟩:0<=i/\j=i+1/\i<(l.length:Int)/\l.length<=3000000:=h;subst h1;obtain⟨n,rfl⟩:∃ n:Nat,i=n:=⟨i.toNat,by omega⟩
 have aA:n<l.length:=by omega
 have e1:((n:Int)+1).toNat=n+1:=by omega
 unfold Zw;simp only[bJ,Int.toNat_natCast,e1,List.take_length,jC,Int.toNat_zero,Nat.sub_zero,Nat.zero_add,List.length_drop];have e2:n+(l.length - (n+1))=l.length - 1:=by omega
 have e3:(l.take n++l.drop (n+1)++l.drop (l.length - 1))=l.eraseIdx n++l.drop (l.length - 1):=by rw[List.eraseIdx_eq_take_drop_succ]
 have e4:(l.eraseIdx n).length=l.length - 1:=by rw[List.length_eraseIdx_of_lt aA]
 have dB:l.length - (l.length - 1)=1:=by omega
 rw[M.bp (by omega),if_neg (by simp;omega),M.bp (by omega),M.bp (by omega),M.bp (by omega)];rw[e2,e3,M.bp (by simp[e4]),M.bg];show _=M.pure ((0,l.length - 1),l.eraseIdx n++[z],());have kO:(l.eraseIdx n++l.drop (l.length - 1)).take (l.length - 1)=l.eraseIdx n:=by rw[List.take_append_of_le_length (by omega),List.take_of_length_le (by omega)]
 have s7:(l.eraseIdx n++l.drop (l.length - 1)).drop l.length=[]:=List.drop_eq_nil_of_le (by simp[e4]);simp only[dB,kO,List.replicate_one,List.length_cons,List.length_nil,Nat.zero_add];rw[show l.length - 1+1=l.length by omega,s7,List.append_nil]
def wa(x:br×Unit):M vC:=M.du (Eg x.1) (iz x.1)
theorem IL{x:z1'}(h:x.length<=2000000):H.fcClone.sh x=M.pure x:=M.bF (by show List.length x<=3000000;omega) _
theorem ym{t:ae}{x:(ae.slice t).ah}(h:List.length x<=2000000):(fx t).sh x=M.pure x:=M.bF (by show List.length x<=3000000;omega) _
theorem Zx{fY:Type}{s:br}(h:Eg s)(fin:br->M fY):HJ (fx ko).sh (fx kK).sh (fx jJ).sh qt H.fcClone.sh (fx mR).sh (fx tWi).sh (fx pz).sh s fin=fin s:=by
 obtain⟨⟨b1,cI,eC,Am⟩,h2,h3,aR,bw,cY,fK⟩:=h;obtain⟨⟨sp,mk,cut,tr⟩,st,jO,wi,de,iI⟩:=s;change sp.length<=2000000 at b1;change mk.length<=2000000 at cI;change tr.length<=2000000 at eC;change ∀ m∈mk,m.length<=2000000/\∀ s∈m,s.2.1.length<=2000000 at Am;change st.length<=2000000 at h2;change jO.length<=2000000 at h3;change wi.length<=2000000 at aR;change de.length<=2000000 at bw;change ∀ p∈jO,p.2.2.2.2.length<=2000000 at cY;change ∀ p∈wi,p.1.length<=2000000 at fK;have aO:(fx ko).sh sp=M.pure sp:=ym b1;have aP:(fx kK).sh mk=M.pure mk:=ym cI;have bA:(fx jJ).sh tr=M.pure tr:=ym eC;have ga:H.fcClone.sh st=M.pure st:=IL h2;have oY:(fx mR).sh jO=M.pure jO:=ym h3;have xh:(fx tWi).sh wi=M.pure wi:=ym aR;have GH:(fx pz).sh de=M.pure de:=ym bw;unfold HJ;simp only[aO,aP,bA,M.iT,M.fp,M.bg];rw[M.dk mk (λi (_:Unit)=>((mk.length:Int),(i:Int),cut,st,jO,wi,de,iI,0,0,sp,mk,tr,())) (λp b=>.next b) (λ_=>.next (cut,st,jO,wi,de,iI,0,0,sp,mk,tr,())) () ?_ ?_ ?_]
 ·rw[dM,M.aE,M.bK];simp only[ga,oY,xh,GH,M.iT,M.fp,M.bg];rw[M.dk jO (λi (_:Unit)=>((jO.length:Int),(i:Int),cut,iI,0,0,sp,mk,tr,st,jO,wi,de,())) (λp b=>.next b) (λ_=>.next (cut,iI,0,0,sp,mk,tr,st,jO,wi,de,())) () ?_ ?_ ?_]
  ·rw[dM,M.aE,M.bK];rw[M.dk wi (λi (_:Unit)=>((wi.length:Int),(i:Int),cut,iI,0,0,sp,mk,tr,st,jO,wi,de,())) (λp b=>.next b) (λ_=>.next (cut,iI,0,0,sp,mk,tr,st,jO,wi,de,())) () ?_ ?_ ?_]
   ·rw[dM,M.aE,M.bK]
   ·rfl
   ·intro i G b;have hw:=bo (n:=(i:Int)+1) (by omega) (by omega);have hc:H.fcClone.sh wi[i].1=M.pure wi[i].1:=IL (fK _ (List.getElem_mem G));have oV:wi.set i (wi[i].1,wi[i].2)=wi:=List.set_getElem_self G;simp only[bJ,cE G,if_true,cT G,cq G,M.bg,b7,hw];simp only[hc,M.iT,M.fp,M.bg,Int.toNat_natCast,oV];rfl
   ·simp
  ·rfl
  ·intro i G b;have hw:=bo (n:=(i:Int)+1) (by omega) (by omega);have hc:H.fcClone.sh jO[i].2.2.2.2=M.pure jO[i].2.2.2.2:=IL (cY _ (List.getElem_mem G));have oV:jO.set i (jO[i].1,jO[i].2.1,jO[i].2.2.1,jO[i].2.2.2.1,jO[i].2.2.2.2)=jO:=List.set_getElem_self G;simp only[bJ,cE G,if_true,cT G,cq G,M.bg,b7,hw];simp only[hc,M.iT,M.fp,M.bg,Int.toNat_natCast,oV];rfl
  ·simp
 ·rfl
 ·intro i G b;have hw:=bo (n:=(i:Int)+1) (by omega) (by omega);obtain⟨an,hs⟩:=Am _ (List.getElem_mem G);have hc:qt (mk[i],())=M.pure (mk[i],()):=M.bF (by show mk[i].length<=3000000;omega) _;have aqE:mk.set i mk[i]=mk:=List.set_getElem_self G;simp only[bJ,cE G,if_true,cT G,cq G,M.bg,b7,hc,M.aE];simp only[Int.toNat_natCast];rw[M.dk mk[i] (λj (_:Unit)=>(i,(mk.length:Int),(i:Int),(mk[i].length:Int),(j:Int),cut,st,jO,wi,de,iI,0,0,sp,(mk,i),tr,mk[i],())) (λp b=>.next b) (λ_=>.next ((mk.length:Int),(i:Int),cut,st,jO,wi,de,iI,0,0,sp,(mk,i),tr,mk[i],())) () ?_ ?_ ?_]
  ·rw[dM,M.aE,M.bK];simp only[hw,aqE];rfl
  ·rfl
  ·intro j aC b;have hw:=bo (n:=(j:Int)+1) (by omega) (by omega);have hc:H.fcClone.sh mk[i][j].2.1=M.pure mk[i][j].2.1:=IL (hs _ (List.getElem_mem aC));have oV:mk[i].set j (mk[i][j].1,mk[i][j].2.1,mk[i][j].2.2)=mk[i]:=List.set_getElem_self aC;simp only[Prod.cK,Prod.e6,Prod.gq,bJ,cE aC,if_true,cT aC,cq aC,M.bg,b7,hw];simp only[hc,M.iT,M.fp,M.bg,Int.toNat_natCast,oV];rfl
  ·simp
 ·simp
theorem sClo(x):M.le (am0 (fx ko).sh (fx kK).sh (fx jJ).sh qt H.fcClone.sh (fx mR).sh (fx tWi).sh (fx pz).sh x) (wa x):=M.bh λh=>Zx h _
abbrev IM:aJ:=⟨lN,lN,Eg,λs=>s⟩
theorem aqF(x):M.le (amZ (fx ko).sh (fx kK).sh (fx jJ).sh qt H.fcClone.sh (fx mR).sh (fx tWi).sh (fx pz).sh x) (IM.sh x):=M.bh λh=>Zx h _
def wb(x:br×aW×Unit):M (aK×aW×Unit):=M.du (db x.2.1/\e' x.1) ((lR x.2.1 x.1).1,(lR x.2.1 x.1).2,())
theorem aqG(x):M.le (XY pB.sh x) (wb x):=M.bh λh=>by
 obtain⟨s,d,⟨⟩⟩:=x;obtain⟨au,hs⟩:db d/\e' s:=h;unfold XY;rw[show pB.sh s=M.pure (iR s) from M.bF hs _,M.aE];show _=M.pure ((lR d s).1,(lR d s).2,());unfold lR;by_cases e:iR s=0<;>simp[e]
theorem aqH{d:aW}(au:db d){s:br}(hs:e' s):wb (s,d,())=M.pure ((lR d s).1,(lR d s).2,()):=M.bF ⟨au,hs⟩ _
theorem IN{d:aW}(au:db d)(s:br)(hs:e' s):M.bind (wb (s,d,())) (λy=>M.pure (y.1,y.2.1,()))=M.pure ((lR d s).1,(lR d s).2,()):=by rw[aqH au hs,M.aE]
theorem db.copy{d:aW}(h:db d):Eg d.1:=apM h.val
theorem Em{d:aW}(h:db d):wa (d.1,())=M.pure (iz d.1):=M.bF h.copy _
theorem aqI(x):M.le (XV x1.sh wa hI.sh x) (shD 4 vZ x):=M.bh λh=>by
 obtain⟨l,d,⟨⟩⟩:=x;obtain⟨au,ai⟩:db d/\d' _ l:=h;have hc:=au.copy;have hs:gv (mX d.1.1 (bd l 0,bd l 1,bd l 2,bd l 3)):=⟨au.gN.1.1,au.gN.1.2.1,by have:=hc.1.2.2.1;simp only[mX,List.length_append,List.length_cons,List.length_nil];omega,au.gN.1.2.2.2⟩
 unfold XV;rw[M.bg,Em au,M.aE];simp (disch:=decide) only [nc ai,M.bg,mY,mZ,m_,m',na,nb];rw[M.bp (by have:=hc.1.2.2.1;simp only[jC,b6,iz];omega)];show M.bind (hI.sh (mX d.1.1 (bd l 0,bd l 1,bd l 2,bd l 3))) _=M.pure ((vZ d l).1,(vZ d l).2,());rw[show hI.sh (mX d.1.1 (bd l 0,bd l 1,bd l 2,bd l 3))=M.pure (cu (mX d.1.1 (bd l 0,bd l 1,bd l 2,bd l 3))) from M.bF hs _,M.aE];have hlen:x1.sh (mX d.1.1 (bd l 0,bd l 1,bd l 2,bd l 3),bd l 0)=M.pure (vK (mX d.1.1 (bd l 0,bd l 1,bd l 2,bd l 3)) (bd l 0)):=M.bF hs _;have B0:x1.sh (((iz d.1).1,(iz d.1).2.1,(iz d.1).2.2.1,(iz d.1).2.2.2.2.1++[(bd l 0,bd l 1,bd l 2,bd l 3)]),bd l 0)=M.pure (vK (mX d.1.1 (bd l 0,bd l 1,bd l 2,bd l 3)) (bd l 0)):=hlen;simp only[B0,M.iT,M.fp,M.bg];unfold vZ;by_cases e:cu (mX d.1.1 (bd l 0,bd l 1,bd l 2,bd l 3))=0
 ·by_cases e2:(vK (mX d.1.1 (bd l 0,bd l 1,bd l 2,bd l 3)) (bd l 0)).2=0
  ·simp only[e,e2,ne_eq,not_true_eq_false,decide_false,Bool.false_eq_true,if_false];rfl
  grind
 grind
theorem aqJ(x):M.le (XX wa wb x) (shD 2 v7 x):=M.bh λh=>by
 obtain⟨l,d,⟨⟩⟩:=x;obtain⟨au,ai⟩:db d/\d' _ l:=h;have hc:=au.copy;unfold XX;rw[M.bg,Em au,M.aE];simp (disch:=decide) only [nc ai,M.bg,mY,mZ,m_,m',na,nb];show _=M.pure ((v7 d l).1,(v7 d l).2,());unfold v7;have h0:=ai.bd 0;have h1:=ai.bd 1;by_cases e:bd l 0>=(d.1.2.1.length:Int)
 ·rw[if_pos (by simpa [iz]using e),if_pos e]
 ·rw[if_neg (by simpa [iz]using e),if_neg e];have aA:(bd l 0).toNat<d.1.2.1.length:=by omega
  rw[M.bp ⟨h0.1,by show bd l 0<(d.1.2.1.length:Int);omega⟩,M.bp ⟨h0.1,by show bd l 0<(d.1.2.1.length:Int);omega⟩];have hv:∀ n∈d.1.2.1,0<=n/\n<=10:=λn aA=>by
   have:=au.val.sw.2;have fA:=au.yg;unfold iR at fA;grind [mS,bM]
  have ab:=hv _ (List.getElem_mem aA);have az:d.1.2.1.getD (bd l 0).toNat 0=d.1.2.1[(bd l 0).toNat]:=by grind
  have hw:=bo (n:=d.1.2.1.getD (bd l 0).toNat 0+bd l 1) (by omega) (by omega);have gA:IntKind.wrap .i64 (Add.add ((iz d.1).2.2.2.2.2.1.getD (bd l 0).toNat 0) (bd l 1))=d.1.2.1.getD (bd l 0).toNat 0+bd l 1:=hw;rw[gA];exact IN au (d.1.1,d.1.2.1.set (bd l 0).toNat (d.1.2.1.getD (bd l 0).toNat 0+bd l 1),d.1.2.2) ⟨au.gN.1,by show (List.set d.1.2.1 _ _).length<_;rw[List.length_set];exact au.gN.2.1,au.gN.2.2⟩
theorem aqK(x):M.le (XZ wa wb x) (shD 3 Pz x):=M.bh λh=>by
 obtain⟨l,d,⟨⟩⟩:=x;obtain⟨au,ai⟩:db d/\d' _ l:=h;have hc:=au.copy;have bw:=hc.2.2.2.2.1;obtain⟨ed,dr,eg,od,sK,sL,sM⟩:=au.gN;unfold XZ;rw[M.bg,Em au,M.aE];simp (disch:=decide) only [nc ai,M.bg,mY,mZ,m_,m',na,nb];rw[M.bp (by simp only[jC,b6,iz];omega)];exact IN au (d.1.1,d.1.2.1,d.1.2.2.1,d.1.2.2.2.1,d.1.2.2.2.2.1++[(bd l 0,bd l 1,bd l 2)],d.1.2.2.2.2.2) ⟨ed,dr,eg,od,by grind,sL,sM⟩
theorem aqL(x):M.le (X0 wa wb x) (shD 4 PA x):=M.bh λh=>by
 obtain⟨l,d,⟨⟩⟩:=x;obtain⟨au,ai⟩:db d/\d' _ l:=h;have hc:=au.copy;have bw:=hc.2.2.1;have an:=ai.IG;have hle:4<=l.length:=ai.PH;obtain⟨ed,dr,eg,od,sK,sL,sM⟩:=au.gN;unfold X0;rw[M.bg,Em au,M.aE];simp (disch:=decide) only [nc ai,M.bg,mY,mZ,m_,m',na,nb];rw[M.bp ⟨by decide,by grind,Int.le_refl _⟩,M.bp (by simp only[jC,b6,iz];omega)];simp only[bJ,Int.toNat_natCast,List.take_length];exact IN au (d.1.1,d.1.2.1,d.1.2.2.1++[(bd l 0,bd l 1,bd l 2,bd l 3,l.drop 4)],d.1.2.2.2) ⟨ed,dr,by grind,od,sK,λp hp=>by
  grind,sM⟩
theorem aqM(x):M.le (X1 wa wb x) (shD 5 PB x):=M.bh λh=>by
 obtain⟨l,d,⟨⟩⟩:=x;obtain⟨au,ai⟩:db d/\d' _ l:=h;have hc:=au.copy;have bw:=hc.2.2.2.1;have an:=ai.IG;have hle:5<=l.length:=ai.PH;obtain⟨ed,dr,eg,od,sK,sL,sM⟩:=au.gN;unfold X1;rw[M.bg,Em au,M.aE];simp (disch:=decide) only [nc ai,M.bg,mY,mZ,m_,m',na,nb];rw[M.bp ⟨by decide,by grind,Int.le_refl _⟩,M.bp (by simp only[jC,b6,iz];omega)];simp only[bJ,Int.toNat_natCast,List.take_length];exact IN au (d.1.1,d.1.2.1,d.1.2.2.1,d.1.2.2.2.1++[(l.drop 5,(bd l 0,bd l 1),bd l 2,bd l 3,bd l 4)],d.1.2.2.2.2) ⟨ed,dr,eg,by grind,sK,sL,λp hp=>by
  grind⟩
abbrev IP:dq:=([],(0,0),0,0,0)
theorem aqN(x):M.le (X2 (fx tWi).sh (IK IP) x) (shD 1 v8 x):=M.bh λh=>by
 obtain⟨l,d,⟨⟩⟩:=x;obtain⟨au,ai⟩:db d/\d' _ l:=h;have hc:=au.copy.2.2.2.1;have h0:=ai.bd 0;unfold X2;simp (disch:=decide) only [nc ai,M.bg,mY,mZ,m_,m',na,nb];show _=M.pure ((v8 d l).1,(v8 d l).2,());unfold v8;by_cases e:bd l 0>=(d.1.2.2.2.1.length:Int)
 ·grind
 ·rw[if_neg (by grind),if_neg e];have lq:(fx tWi).sh d.1.2.2.2.1=M.pure d.1.2.2.2.1:=ym hc;have hw:=bo (n:=bd l 0+1) (by omega) (by omega);simp only[lq,M.iT,M.fp,M.bg,b7,hw];rw[show IK IP (bd l 0,bd l 0+1,d.1.2.2.2.1,())=M.pure _ from M.bF ⟨h0.1,rfl,by grind,by grind⟩ _,M.aE];grind
theorem Zy{c:H.aQ}{m:List H.aV}{v:z1'}(h:(H.nS c m v).2=0):H.cu c=0/\H.cu (H.nS c m v).1=0/\(H.nS c m v).1=H.mW c (H.gC (c.2.1++m)) (H.rs c.2.2.1 v):=by
 unfold H.nS at h ⊢;split at h
 ·omega
 split at h
 ·omega
 split at h
 ·omega
 split at h
 ·omega
 rename_i bT a2 a3 a4;rw[if_neg bT,if_neg a2,if_neg a3,if_neg a4];have dd:H.cu c=0:=by omega
 have dV:H.cu (H.mW c m v)=0:=by omega
 refine⟨dd,?_,rfl⟩;have g1:H.jG c=true:=by unfold H.cu at dd;grind
 have dR:H.jG (H.mW c m v)=true:=by unfold H.cu at dV;grind
 have aA:H.kI (H.gC (c.2.1++m))=false:=by
  rw[H.Ag];have:=(H.Ag (c.2.1++m)).1 (by grind);exact λa aU b ab=>this a (H.DF aU) b (H.DF ab)
 have lA:H.jG (H.mW c (H.gC (c.2.1++m)) (H.rs c.2.2.1 v))=true:=by
  unfold H.jG H.so at g1 dR ⊢;simp only[Bool.and_eq_true,List.all_eq_true,Bool.not_eq_true',Bool.or_eq_false_iff,H.mW]at g1 dR ⊢;obtain⟨⟨⟨⟨⟨⟨⟨⟨n2,z2⟩,z3⟩,z4⟩,z5⟩,aO⟩,aP⟩,bA⟩,ga⟩:=g1;obtain⟨⟨⟨⟨_,_⟩,aqO⟩,axH⟩,_⟩:=dR;simp only[Bool.or_eq_true,not_or,bJ,Bool.not_eq_true]at a4;refine⟨⟨⟨⟨⟨⟨⟨⟨n2,a4.1⟩,a4.2⟩,z4⟩,z5⟩,aO⟩,λs hs=>?_⟩,λn aA=>?_⟩,ga⟩
  ·rcases List.mem_append.1 (H.DF hs) with h | h
   ·exact aP s h
   ·exact aqO s h
  ·have:=(List.mem_filter.1 aA).2;grind
 unfold H.cu;rw[if_pos lA,if_neg (by show ¬H.kI (H.gC (c.2.1++m))=true;grind)]
theorem PN{d:aW}(au:db d)(m:List H.aV)(v:z1'):db (pF d m v).2:=by
 unfold pF;split
 ·exact au
 ·rename_i h;obtain⟨h1,h2,h3⟩:=Zy (c:=d.2) (m:=m) (v:=v) (by omega);exact⟨au.gN,au.yg,h2,by rw[h3];exact au.A2⟩
theorem IQ{d:aW}(au:db d){s:br}(hs:e' s):db (lR d s).2:=by
 unfold lR;split
 ·exact au
 ·rename_i h;exact⟨hs,by grind,au.yh,au.A2⟩
theorem aqP{d:aW}(au:db d){l:z1'}(ai:l.length<=10000)(j:Nat):db (ru j d l).2:=by
 have hc:=au.copy;obtain⟨ed,dr,eg,od,sK,sL,sM⟩:=au.gN;obtain⟨c1,c2,c3,c4,c5,lp,n1⟩:=au.copy;unfold ru;split<;>try exact au
 ·exact PN au _ _
 ·exact PN au _ _
 ·exact PN au _ _
 ·unfold vZ;split
  ·exact au
  split
  ·exact au
  rename_i h _;have h:cu (mX d.1.1 (bd l 0,bd l 1,bd l 2,bd l 3))=0:=by omega
  refine⟨⟨⟨ed.1,ed.2.1,by have:=hc.1.2.2.1;simp only[mX,List.length_append,List.length_cons,List.length_nil];omega,ed.2.2.2⟩,dr,eg,od,sK,sL,sM⟩,?_,au.yh,au.A2⟩;have hs:=au.yg;unfold iR at hs ⊢;rw[if_neg (by omega)];have:mS (mX d.1.1 (bd l 0,bd l 1,bd l 2,bd l 3),d.1.2)=mS d.1:=rfl;grind
 ·unfold v7;split
  ·exact au
  ·exact IQ au ⟨ed,by grind,eg,od,sK,sL,sM⟩
 ·exact IQ au ⟨ed,dr,eg,od,by grind,sL,sM⟩
 ·exact IQ au ⟨ed,dr,by grind,od,sK,λp hp=>by
   grind,sM⟩
 ·exact IQ au ⟨ed,dr,eg,by grind,sK,sL,λp hp=>by
   grind⟩
 ·unfold v8;split
  ·exact au
  ·refine⟨⟨ed,dr,eg,by grind,sK,sL,λp hp=>sM p (List.mem_of_mem_eraseIdx hp)⟩,?_,au.yh,au.A2⟩;have hs:=au.yg;unfold iR at hs ⊢;split at hs
   ·omega
   ·rename_i uE;rw[if_neg uE];split at hs
    ·rename_i hv;rw[if_pos];unfold mS at hv ⊢;simp only[Bool.and_eq_true,List.all_eq_true,decide_eq_true_eq]at hv ⊢;obtain⟨⟨⟨⟨⟨⟨⟨⟨c_,q2⟩,q3⟩,ui⟩,cK⟩,e6⟩,gq⟩,h9⟩,jE⟩:=hv;exact⟨⟨⟨⟨⟨⟨⟨⟨c_,q2⟩,q3⟩,ui⟩,by grind⟩,λx hx=>e6 x (List.mem_of_mem_eraseIdx hx)⟩,gq⟩,h9⟩,jE⟩
    omega
theorem Zz:∀ (s:aK) (n k:Nat),n<10 ^ k->k+s.length<=18->0<=fJ s n->Go.Lib.parseUint10 n s=.ok (fJ s n).toNat
 | [],n,k,_,_,_=>by rfl
 | c::s,n,k,h1,h2,h3=>by
  unfold fJ at h3 ⊢;split at h3
  ·omega
  ·rename_i hc;rw[if_neg hc];simp only[Bool.or_eq_true,decide_eq_true_eq,not_or]at hc;have GA:48<=c.toNat/\c.toNat<=57:=by omega
   have ao:(10:Nat) ^ (k+1)<=10 ^ 18:=Nat.pow_le_pow_right (by decide) (by grind);have Wz:(10:Nat) ^ (k+1)=10 ^ k*10:=Nat.pow_succ ..;have e:10*(n:Int)+((c.toNat:Int) - 48)=((n*10+(c.toNat - 48):Nat):Int):=by omega
   rw[e]at h3 ⊢;unfold Go.Lib.parseUint10;rw[if_pos GA,if_neg (by omega),if_neg (by omega)];exact Zz s _ (k+1) (by omega) (by grind) h3
theorem PO{s:aK}(h:0<=eW s):Go.Lib.atoiAll s=.ok (eW s):=by
 unfold eW at h ⊢;split at h
 ·omega
 ·rename_i ab;rw[if_neg ab];simp only[Bool.or_eq_true,decide_eq_true_eq,not_or]at ab;obtain⟨⟨h0,cY⟩,_⟩:=ab;cases s with
  | nil=>grind
  | cons c r=>
   have hp:=Zz (c::r) 0 0 (by decide) (by omega) h;have ai:=Pn (c::r) 0 0 (by decide) (by decide);have fS:(10:Int) ^ (0+(c::r).length)<=10 ^ 6:=by
    have:=Nat.pow_le_pow_right (n:=10) (by decide) (show 0+(c::r).length<=6 by omega);grind
   have au:¬(decide ((c.toNat:Int)<48)||decide ((c.toNat:Int) > 57))=true:=by
    intro hc;unfold fJ at h;grind
   simp only[Bool.or_eq_true,decide_eq_true_eq,not_or]at au;unfold Go.Lib.atoiAll;simp only;rw[if_neg (by omega)];unfold Go.Lib.parseMag;grind
theorem aqQ{s:aK}(h:0<=eW s):sJ s=eW s:=by
 unfold sJ;rw[PO h]
abbrev En:aJ:=⟨.str,.ax (.int .i64) .bool,λx=>x.length<=10000,qS⟩
abbrev IS:aJ:=⟨.ax .str .str,sI,λx=>x.1.length<=10000/\x.2=[32],λx=>cB x.1⟩
abbrev aqR:ae:=.st (.ax tI (.ax .bool .dO))
def IT:List (aK×Int×Bool)->Nat->List (aK×AA)
 | [],_=>[]
 | p::l,i=>(p.1,p.2.1,p.2.2,some (119+i))::IT l (i+1)
def wc:List (aK×AA):=IT j7 0
abbrev IU:aJ:=⟨.cy,.map .str aqR,λ_=>True,λ_=>wc⟩
theorem aqS(x):M.le (amz x) (IU.sh x):=M.bh λ_=>congrArg M.pure (show _=wc by decide +kernel)
theorem ZA(w:aK):∀ (l:List (aK×Int×Bool)) (i:Nat),((IT l i).find? λp=>decide (w=p.1)).map (λx=>x.2)=(oI w l i).map λr=>(r.1,r.2.1,some (119+r.2.2))
 | [],_=>rfl
 | p::l,i=>by
  unfold IT oI;rw[List.find?_cons];by_cases h:w=p.1
  ·simp[h]
  ·simp[h,ZA w l (i+1)]
theorem PQ{w:aK}:∀ {l:List (aK×Int×Bool)} {i:Nat} {r:Int×Bool×Nat},oI w l i=some r->i<=r.2.2/\r.2.2<i+l.length/\l[r.2.2 - i]?=some (w,r.1,r.2.1)
 | [],_,_,h=>by simp[oI]at h
 | p::l,i,r,h=>by
  unfold oI at h;split at h
  ·grind
  ·have:=PQ h;grind
def IV(j:Nat):Nat:=(j7.getD j ([],0,false)).2.1.toNat
def Eo(k:Nat):z1'×aW×Unit->M (aK×aW×Unit):=shD (IV (k - 119)) (ru (k - 119))
theorem ZB:∀ p∈j7,0<=p.2.1:=by decide
def IW(x:List (aK×AA)×aK×aW×Unit):M (aK×aW×Unit):=M.du (x.1=wc/\x.2.1.length<=10000/\db x.2.2.1) ((jj x.2.2.1 x.2.1).1,(jj x.2.2.1 x.2.1).2,())
theorem aqT{l:List aK}(h:l.all (λw=>decide (0<=eW w))=true):l.map sJ=l.map eW:=List.map_congr_left λw hw=>aqQ (by grind)
theorem ZC{aF:Type}(r:aF)(fin:z1'->aF):∀ (l:List aK) (b:z1'),eD (λw b=>if (!decide (0<=eW w))=true then .done r else .next (b++[sJ w])) fin l b=if l.all (λw=>decide (0<=eW w))=true then fin (b++l.map sJ) else r
 | [],b=>by simp[eD]
 | w::l,b=>by
  unfold eD;rw[List.all_cons,List.map_cons];cases h:decide (0<=eW w) with
  | true=>
   simp only[Bool.not_true,Bool.false_eq_true,if_false,Bool.true_and];rw[ZC r fin l,List.append_assoc];rfl
  | false=>rfl
theorem aqU(x):M.le (XH IS.sh En.sh Eo x) (IW x):=M.bh λh=>by
 obtain⟨aqV,s,d,⟨⟩⟩:=x;obtain⟨hv,hs,au⟩:aqV=wc/\s.length<=10000/\db d:=h;subst hv;unfold XH;show _=M.pure ((jj d s).1,(jj d s).2,());rw[show IS.sh (s,[32])=M.pure (cB s) from M.bF ⟨hs,rfl⟩ _,M.aE];have ai:=ur s;rw[M.bp ⟨by decide,by grind⟩];have ar:((wc.find? λp=>decide ((cB s).getD (Int.toNat 0) []=p.1)).map λx=>x.2)=(oI ((cB s).getD 0 []) j7 0).map λr=>(r.1,r.2.1,some (119+r.2.2)):=ZA _ _ _;have hw:=bo (n:=((cB s).length:Int) - 1) (by omega) (by omega);simp only[ar,bJ,hw];unfold jj A1;cases F1:oI ((cB s).getD 0 []) j7 0 with
 | none=>simp
 | some r=>
  obtain⟨k,m,j⟩:=r;obtain⟨_,aC,ao⟩:=PQ F1;simp only[Option.map_some,Option.isSome_some,Option.getD_some,Bool.not_true,Bool.false_or];by_cases ab:(decide (((cB s).length:Int) - 1<k)||decide (((cB s).length:Int) - 1 > k)&&!m)=true
  ·grind
  ·rw[if_neg ab,if_neg ab];rw[M.bp ⟨by decide,by omega,Int.le_refl _⟩];simp only[Int.toNat_natCast,List.take_length,show Int.toNat 1=1 from rfl];have uP:((cB s).drop 1).length=(cB s).length - 1:=by simp
   rw[M.gg ((cB s).drop 1) (λi (o:z1')=>((cB s).drop 1,(((cB s).drop 1).length:Int),(i:Int),(k,m,some (119+j)),o,d,())) (λw o=>if (!decide (0<=eW w))=true then .done (.done ([63],d,())) else .next (o++[sJ w])) (λo=>.next ((k,m,some (119+j)),o,d,())) (λi o=>o.length=i) [] ?_ rfl ?_ ?_]
   ·rw[ZC,M.aE];unfold IF;by_cases aU:((cB s).drop 1).all (λw=>decide (0<=eW w))=true
    ·rw[if_pos aU,if_pos aU,M.bK,aqT aU,List.nil_append];rw[M.bp]
     ·have yD:0<=k:=ZB _ (List.mem_of_getElem? ao);have bZ:IV j=k.toNat:=by
       unfold IV;grind
      have cp:d' (IV j) (((cB s).drop 1).map eW):=by
       simp only[Bool.or_eq_true,decide_eq_true_eq,not_or]at ab;refine⟨by grind,by grind,λn aA=>?_⟩;obtain⟨w,hw,rfl⟩:=List.mem_map.1 aA;have:=List.all_eq_true.1 aU w hw;exact⟨by grind,(aqc w).2⟩
      have axI:Eo (119+j) (((cB s).drop 1).map eW,d,())=M.pure ((ru j d (((cB s).drop 1).map eW)).1,(ru j d (((cB s).drop 1).map eW)).2,()):=by
       unfold Eo;rw[show 119+j - 119=j by omega];exact M.bF ⟨au,cp⟩ _
      simp_all
     ·have:j<20:=by simpa [j7]using aC
      exact⟨119+j,by
       have e:∀ j:Fin 20,(119+j.val)∈[119,120,121,122,123,124,125,126,127,128,129,130,131,132,133,134,135,136,137,138]:=by decide
       exact e ⟨j,this⟩,rfl⟩
    ·rw[if_neg aU,if_neg aU];rfl
   ·rfl
   ·intro i G o ag;have hw:=bo (n:=(i:Int)+1) (by omega) (by omega);refine⟨?_,λaZ cS=>?_⟩
    ·simp only[cE G,if_true,cT G,cq G,M.bg,b7,hw];rw[show En.sh ((cB s).drop 1)[i]=M.pure (qS ((cB s).drop 1)[i]) from M.bF (Nat.le_trans (Zq s (List.mem_of_mem_drop (List.getElem_mem G))) hs) _,M.aE];unfold qS;by_cases aA:0<=eW ((cB s).drop 1)[i]
     ·simp only[aA,decide_true,Bool.not_true,Bool.false_eq_true,if_false];rw[M.bp (hG (by grind))];rfl
     simp_all
    grind
   simp
theorem ZD{d:aW}(au:db d){s:aK}(hs:s.length<=10000):db (jj d s).2:=by
 unfold jj;split
 ·exact au
 ·rename_i j l hp;refine aqP au ?_ j;unfold A1 at hp;split at hp
  ·grind
  ·split at hp
   ·grind
   ·unfold IF at hp;have:=ur s;grind
abbrev sN:aJ:=⟨vY,.int .i64,λd=>e' d.1/\H.iC d.2,jN⟩
theorem aqW(x):M.le (XE pB.sh H.hI.sh x) (sN.sh x):=M.bh λh=>by
 obtain⟨h1,h2⟩:e' x.1/\H.iC x.2:=h;unfold XE;rw[show pB.sh x.1=M.pure (iR x.1) from M.bF h1 _,M.aE,show H.hI.sh x.2=M.pure (H.cu x.2) from M.bF h2 _,M.kB,M.aE];show _=M.pure (jN x);unfold jN;grind
theorem aqX(l:List H.aV):(H.gC l).length<=l.length:=by
 have qM:(H.gC l).map (·.1) ⊆ l.map (·.1):=by
  intro x hx;obtain⟨s,hs,rfl⟩:=List.mem_map.1 hx;exact List.mem_map_of_mem (H.DF hs)
 have:=(H.Xg l).length_le_of_subset qM;grind
theorem aqY(l:z1'):(H.rs l []).length<=l.length:=by
 unfold H.rs;have aA:((dT 0 99).filter λid=>l.contains id||List.contains [] id).Nodup:=((H.Zo 0 99).imp λh=>by omega:(dT 0 99).Nodup).filter _;refine aA.length_le_of_subset λx hx=>?_;grind
theorem ZE{c:H.aQ}(h:H.cu c=0):H.nS c [] []=(H.mW c (H.gC c.2.1) (H.rs c.2.2.1 []),0):=by
 have G:=H.IE h;have g:H.jG c=true:=by unfold H.cu at h;grind
 have h2:H.cu (H.mW c [] [])=0:=by
  have:H.jG (H.mW c [] [])=true:=by
   unfold H.jG H.so at g ⊢;simp only[Bool.and_eq_true,List.all_eq_true,Bool.not_eq_true',Bool.or_eq_false_iff,H.mW]at g ⊢;grind
  unfold H.cu;rw[if_pos this];rfl
 have eO:=aqX c.2.1;have pL:=aqY c.2.2.1;have dJ:=G.dJ;have jt:=G.jt;unfold H.nS;rw[if_neg (by simp[h]),if_neg (by omega),List.append_nil,if_neg (by rw[G.cl];decide),if_neg];grind
theorem aqZ{d:aW}(h:db d):fi d=(d.1,H.mW d.2 (H.gC d.2.2.1) (H.rs d.2.2.2.1 [])):=by
 unfold fi;rw[ZE h.yh]
theorem ZF{d:aW}(h:db d):db (fi d):=by
 have:=Zy (c:=d.2) (m:=[]) (v:=[]) (by rw[ZE h.yh]);exact⟨h.gN,h.yg,this.2.1,by rw[aqZ h];exact h.A2⟩
theorem ZG{p:aW->Prop}{q:aK->Prop}(hp:∀ d s,p d->q s->p (jj d s).2):∀ (l:List aK) (d:aW),p d->(∀ s∈l,q s)->p (fw d l).2
 | [],d,h,_=>h
 | s::l,d,h,be=>ZG hp l _ (hp d s h (be s (by simp))) λt aH=>be t (by grind)
theorem aq0{d:aW}(h:db d){l:List aK}(ai:∀ s∈l,s.length<=10000):db (fw d l).2:=ZG (p:=db) (λd s h hs=>ZD h hs) l d h ai
def tY(x:aW×Unit):M (aW×Unit):=M.du (db x.1) (fi x.1,())
theorem N4(x):M.le (XF H.AZ.sh IM.sh x) (tY x):=M.bh λh=>by
 obtain⟨d,⟨⟩⟩:=x;have h:db d:=h;unfold XF;rw[show H.AZ.sh (d.2,[],[])=M.pure (H.nS d.2 [] []) from M.bF ⟨h.iC,by simp,by simp⟩ _,M.aE];rw[show IM.sh d.1=M.pure d.1 from M.bF h.copy _];simp only[M.iT,M.fp,M.bg];rfl
abbrev ZH(x:aW×List aK):Prop:=e' x.1.1/\H.gu x.1.2/\x.2.length<2 ^ 63/\∀ s∈x.2,s.length<=10000
theorem ZI{d:aW}(h1:e' d.1)(h2:H.gu d.2)(h:jN d=0):db d:=by
 unfold jN at h;split at h
 ·omega
 ·rename_i ab;simp only[Bool.or_eq_true,decide_eq_true_eq,not_or,ne_eq,Decidable.not_not]at ab;exact⟨h1,ab.1,ab.2,h2.2 ab.2⟩
abbrev uu:aJ:=⟨.ax vY sI,.ax sI (.ax vY (.int .i64)),ZH,λx=>v_ x.1 x.2⟩
theorem ZJ:∀ (l:List aK) (o:List aK) (d:aW),l.foldl (λ(p:List aK×aW) s=>(p.1++[(jj p.2 s).1],(jj p.2 s).2)) (o,d)=(o++(fw d l).1,(fw d l).2)
 | [],o,d=>by simp[fw]
 | s::l,o,d=>by
  rw[List.foldl_cons,ZJ l];simp[fw]
theorem aq1(x):M.le (XD sN.sh tY IU.sh IW x) (uu.sh x):=M.bh λh=>by
 obtain⟨d,l⟩:=x;obtain⟨h1,h2,h3,aR⟩:ZH (d,l):=h;unfold XD;show _=M.pure (v_ d l);unfold v_;rw[show sN.sh d=M.pure (jN d) from M.bF ⟨h1,h2.gN⟩ _,M.aE];by_cases e:jN d=0
 ·rw[if_neg (show ¬decide (jN d≠0)=true by grind),if_neg (show ¬jN d≠0 by omega)];have au:=ZI h1 h2 e;by_cases e2:l.length > 40
  ·grind
  ·rw[if_neg (show ¬decide (Int.ofNat l.length > 40)=true by grind),if_neg e2];rw[show tY (d,())=M.pure (fi d,()) from M.bF au _,M.aE,show IU.sh ()=M.pure wc from rfl,M.aE];rw[M.gg l (λi (p:List aK×aW)=>(wc,l,(l.length:Int),(i:Int),p.1,0,0,0,0,0,0,0,0,0,p.2,())) (λs p=>.next (p.1++[(jj p.2 s).1],(jj p.2 s).2)) (λp=>.next (p.1,0,0,0,0,0,0,0,0,0,p.2,())) (λi p=>db p.2/\p.1.length=i) ([],fi d) ?_ ⟨ZF au,rfl⟩ ?_ ?_]
   ·rw[dM,ZJ,M.aE,M.bK,M.bg,List.nil_append]
   ·rfl
   ·rintro i G ⟨o,uF⟩ ⟨wA,ag⟩;have hw:=bo (n:=(i:Int)+1) (by omega) (by omega);have hs:=aR _ (List.getElem_mem G);change db uF at wA;change o.length=i at ag;refine⟨?_,λaZ cS=>?_⟩
    ·simp only[bJ,cE G,if_true,cT G,cq G,M.bg,b7,hw];rw[show IW (wc,l[i],uF,())=M.pure _ from M.bF ⟨rfl,hs,wA⟩ _,M.aE,M.bp (hG (by grind))];rfl
    ·simp only[aa.next.injEq]at cS;subst cS;exact⟨ZD wA hs,by grind⟩
   simp
 grind
end Go.Fer.W
namespace Go.Fer.W
open M (aa)
def oJ:aW:=(AY,[(0,0)],[],[],[],10,30,100,500,1000,2000,300)
def ZK(aq2:Unit->M br)(x:Unit):M aW:=M.bind (aq2 ()) λy=>M.pure (y,[(0,0)],[],[],[],10,30,100,500,1000,2000,300)
abbrev IX:aJ:=⟨.cy,vY,λ_=>True,λ_=>oJ⟩
theorem aq3(x):M.le (ZK Iu.sh x) (IX.sh x):=M.bh λ_=>by
 unfold ZK;rw[show Iu.sh ()=M.pure AY from rfl,M.aE];rfl
def o9:List aK:=[[108,101,110,100,32,49,32,48,32,49,48,48,32,51,32,55],[98,97,99,107,32,50,32,48,32,49,55,49,32,51],[102,101,101,32,49],[119,104,101,114,101,32,51,32,49,55,49],[116,114,105,97,108,32,49,32,48,32,48,32,48],[115,116,111,99,107,32,48,32,49],[101,120,116,114,97],[100,114,111,112,32,51],[101,120,116,114,97]]
def IY:List aK:=[[111,107],[111,107],[51,48,48,32,51,48,48],[115,104,111,112],[108,105,97,114],[111,107],[49],[111,107],[48]]
theorem aq4:jN oJ=0:=by decide +kernel
theorem PR:(fw (fi oJ) o9).1=IY/\(fw (fi oJ) o9).2.2.2.1.length=2/\(fw (fi oJ) o9).2.1.2.2.2.1.length=3:=by decide +kernel
end Go.Fer.W
namespace Go.Fer.W
open M (aa)
open H (hG)
theorem aq5(x):M.le (XC H.hI.sh pB.sh x) (sN.sh x):=M.bh λh=>by
 obtain⟨h1,h2⟩:e' x.1/\H.iC x.2:=h;unfold XC;rw[show pB.sh x.1=M.pure (iR x.1) from M.bF h1 _,M.aE,show H.hI.sh x.2=M.pure (H.cu x.2) from M.bF h2 _,M.kB,M.aE];show _=M.pure (jN x);unfold jN;grind
theorem ZL(c:UInt8):c.1.1.1=c.toNat:=rfl
theorem aq6{n:Int}(h:0<=n)(h2:n<=255):IntKind.wrap .u8 n=n:=by
 show (if (false&&decide (n % 2 ^ 8>=(2 ^ (8 - 1):Int)))=true then n % 2 ^ 8 - 2 ^ 8 else n % 2 ^ 8)=n;grind
theorem PS{aj β aF:Type}{p:aj->Bool}{r:aF}{g:aj->β->β}{fin:β->aF}:∀ (l:List aj) (b:β),eD (λx b=>if p x=true then .done r else .next (g x b)) fin l b=if l.any p=true then r else fin (l.foldl (λb x=>g x b) b)
 | [],b=>rfl
 | x::l,b=>by
  unfold eD;rw[List.any_cons,List.foldl_cons];cases h:p x with
  | true=>rfl
  | false=>
   simp only[Bool.false_eq_true,if_false,Bool.false_or];exact PS l (g x b)
def yn(c:UInt8):Bool:=decide ((c.toNat:Int)<48)||decide ((c.toNat:Int) > 57)
theorem aq7(c:UInt8)(s:aK)(n:Int):fJ (c::s) n=if yn c=true then -1 else fJ s (10*n+((c.toNat:Int) - 48)):=rfl
theorem ZM{aF:Type}{r:aF}{fin:Int->aF}:∀ (s:aK) (n:Int),0<=n->eD (λc n=>if yn c=true then .done r else .next (10*n+((c.toNat:Int) - 48))) fin s n=if fJ s n=-1 then r else fin (fJ s n)
 | [],n,h=>by
  show fin n=if n=-1 then r else fin n
  grind
 | c::s,n,h=>by
  rw[aq7];unfold eD;by_cases hc:yn c=true
  ·grind
  ·have og:=hc;unfold yn at og;simp only[Bool.or_eq_true,decide_eq_true_eq,not_or]at og;simp only[hc];exact ZM s _ (by omega)
abbrev IZ:aJ:=⟨.str,.int .i64,λ_=>True,eW⟩
theorem aq8(x):M.le (Ye x) (IZ.sh x):=M.bh λ_=>by
 unfold Ye;show _=M.pure (eW x);unfold eW;simp only[bJ,ZL,show Int.toNat 0=0 from rfl];rw[M.bp (λab=>⟨⟨ab,trivial⟩,⟨Int.le_refl _,by grind⟩,trivial⟩)];have e:(decide ((x.length:Int)=0)||decide ((x.length:Int) > 6)||decide ((x.length:Int) > 1)&&decide (((x.getD 0 0).toNat:Int)=48))=(decide (x.length=0)||decide (x.length > 6)||decide (x.length > 1)&&decide ((x.getD 0 0).toNat=48)):=by
  grind
 rw[e];by_cases ab:(decide (x.length=0)||decide (x.length > 6)||decide (x.length > 1)&&decide ((x.getD 0 0).toNat=48))=true
 ·grind
 ·rw[if_neg ab,if_neg ab];have cY:x.length<=6:=by
   grind
  rw[M.gg x (λi (n:Int)=>(x,n,(i:Int),())) (λc n=>if yn c=true then .done (.done (-1)) else .next (10*n+((c.toNat:Int) - 48))) (λn=>.next (n,())) (λi n=>0<=n/\n<10 ^ i) 0 ?_ ⟨Int.le_refl _,by decide⟩ ?_ ?_]
  ·rw[ZM _ _ (Int.le_refl _),M.aE];by_cases au:fJ x 0=-1
   ·rw[if_pos au,au];rfl
   ·rw[if_neg au];rfl
  ·rfl
  ·rintro i G n ⟨h0,h1⟩;have hw:=bo (n:=(i:Int)+1) (by omega) (by omega);have hp:(10:Int) ^ i<=10 ^ 5:=by
    have:=Nat.pow_le_pow_right (n:=10) (by decide) (show i<=5 by omega);grind
   have xl:(10:Int) ^ (i+1)=10 ^ i*10:=Int.pow_succ ..;refine⟨?_,λaZ cS=>?_⟩
   ·simp only[cE G,if_true,cT G,cq G,M.bg,b7,hw];rw[M.bp (λh=>⟨⟨h,h⟩,trivial,trivial⟩)];by_cases hc:yn x[i]=true
    ·rw[if_pos hc];have og:(decide ((x[i].toNat:Int)<48)||decide ((x[i].toNat:Int) > 57))=true:=hc;simp_all
    ·rw[if_neg hc];have og:¬(decide ((x[i].toNat:Int)<48)||decide ((x[i].toNat:Int) > 57))=true:=hc;rw[if_neg og];simp only[Bool.or_eq_true,decide_eq_true_eq,not_or]at og;rw[aq6 (by omega) (by omega),bo (n:=(x[i].toNat:Int) - 48) (by omega) (by omega),bo (n:=10*n) (by omega) (by omega),bo (n:=10*n+((x[i].toNat:Int) - 48)) (by omega) (by omega)];rfl
   ·split at cS
    ·grind
    ·rename_i hc;unfold yn at hc;grind
  simp
def A4(o:List aK)(c:UInt8):List aK:=if c=32 then o++[[]] else o.set (o.length - 1) (o.getD (o.length - 1) []++[c])
theorem PT:∀ (s:aK) (o:List aK) (w:aK),s.foldl A4 (o++[w])=o++(match cB s with | []=>[w] | v::l=>(w++v)::l)
 | [],o,w=>by simp[cB]
 | c::s,o,w=>by
  rw[List.foldl_cons];unfold cB;by_cases hc:c=32
  ·rw[if_pos hc,show A4 (o++[w]) c=o++[w]++[[]] from if_pos hc];have:=PT s (o++[w]) [];rw[this];have ai:=ur s;grind
  ·rw[if_neg hc,show A4 (o++[w]) c=_ from if_neg hc];have e:(o++[w]).set ((o++[w]).length - 1) ((o++[w]).getD ((o++[w]).length - 1) []++[c])=o++[w++[c]]:=by
    simp
   rw[e];have:=PT s o (w++[c]);rw[this];have ai:=ur s;cases h:cB s with
   | nil=>exact absurd ai.1 (by rw[h];decide)
   | cons v l=>simp
abbrev I0:aJ:=⟨.str,sI,λx=>x.length<=10000,cB⟩
theorem aq9(x):M.le (Yd x) (I0.sh x):=M.bh λh=>by
 change x.length<=10000 at h;unfold Yd;show _=M.pure (cB x);rw[M.gg x (λi (o:List aK)=>(x,(i:Int),o,())) (λc o=>.next (A4 o c)) (λo=>.next (o,())) (λi o=>1<=o.length/\o.length<=i+1/\∀ w∈o,w.length<=i) [[]] ?_ ⟨by decide,by decide,by simp⟩ ?_ ?_]
 ·rw[dM,M.aE,M.bK];have:=PT x [] [];rw[List.nil_append]at this;rw[this];have ai:=ur x;grind
 ·rfl
 ·rintro i G o ⟨h1,h2,h3⟩;have hw:=bo (n:=(i:Int)+1) (by omega) (by omega);have gA:=bo (n:=(o.length:Int) - 1) (by omega) (by omega);have e1:((o.length:Int) - 1).toNat=o.length - 1:=by omega
  have e2:((i:Int)+1).toNat=i+1:=by omega
  have aq_:o.length - 1<o.length:=by omega
  have az:o.getD (o.length - 1) []=o[o.length - 1]:=by grind
  have axJ:=h3 _ (List.getElem_mem aq_);have au:(x.take (i+1)).drop i=[x[i]]:=by rw[List.drop_take,List.drop_eq_getElem_cons G,Nat.add_sub_cancel_left];rfl
  refine⟨?_,λaZ cS=>?_⟩
  ·simp only[bJ,cE G,if_true,cT G,cq G,M.bg,b7,hw,gA,e1,ZL];unfold A4;by_cases hc:x[i]=32
   ·have og:decide ((x[i].toNat:Int)=32)=true:=by simp_all
    rw[if_pos og,if_pos hc,M.bp (hG (by grind))];simp_all
   ·have og:¬decide ((x[i].toNat:Int)=32)=true:=by
     intro h;apply hc;simp only[decide_eq_true_eq]at h;exact UInt8.toNat_inj.1 (show x[i].toNat=32 by omega)
    rw[if_neg og,if_neg hc];rw[M.bp (by omega),M.bp (by omega),e2,Int.toNat_natCast,au,M.bp (hG (by grind)),M.bp (by omega)];simp_all
  ·simp only[aa.next.injEq]at cS;subst cS;unfold A4;grind
 simp
def pG:List aK×z1'×z1':=(j7.map (·.1),j7.map (·.2.1),j7.map λp=>if p.2.2=true then -1 else p.2.1)
abbrev I1:aJ:=⟨.cy,.ax sI (.ax fF fF),λ_=>True,λ_=>pG⟩
theorem aq'(x):M.le (amS x) (I1.sh x):=M.bh λ_=>congrArg M.pure (show _=pG by rfl)
def A5(k:Int)(m:Bool)(n:Nat):Bool:=decide ((n:Int)>=k)&&(decide ((if m=true then -1 else k)<(0:Int))||decide ((n:Int)<=if m=true then -1 else k))
def nT(s:aK):aK×z1'×Bool:=
 if ((cB s).drop 1).any (λw=>decide (eW w<0))=true then ([],[],false) else
 match oI ((cB s).getD 0 []) j7 0 with
 | none=>([],[],false)
 | some (k,m,_)=>((cB s).getD 0 [],((cB s).drop 1).map eW,A5 k m ((cB s).drop 1).length)
theorem ZN{aF:Type}{w:aK}{g:Int->Bool->aF}{r:aF}:∀ (l:List (aK×Int×Bool)) (i:Nat),eD (λp (_:Unit)=>if decide (p.1=w)=true then .done (g p.2.1 p.2.2) else .next ()) (λ_=>r) l ()=match oI w l i with | none=>r | some q=>g q.1 q.2.1
 | [],_=>rfl
 | p::l,i=>by
  unfold eD oI;by_cases h:p.1=w
  ·simp[h]
  ·have h2:¬w=p.1:=λe=>h e.symm;simp only[h,decide_false,Bool.false_eq_true,if_false,h2];exact ZN l (i+1)
abbrev A6:aJ:=⟨.str,.ax .str (.ax fF .bool),λx=>x.length<=10000,nT⟩
theorem ara(x):M.le (Yc I0.sh IZ.sh I1.sh x) (A6.sh x):=M.bh λh=>by
 change x.length<=10000 at h;unfold Yc;show _=M.pure (nT x);unfold nT;rw[show I0.sh x=M.pure (cB x) from M.bF h _,M.aE];have ai:=ur x;have hx:List.length x<=10000:=h;have uP:((cB x).drop 1).length=(cB x).length - 1:=by simp
 rw[M.gg ((cB x).drop 1) (λi (o:z1')=>(cB x,((1+i:Nat):Int),o,())) (λw o=>if decide (eW w<0)=true then .done (.done ([],[],false)) else .next (o++[eW w])) (λo=>.next (cB x,o,())) (λi o=>o.length=i) [] ?_ rfl ?_ ?_]
 ·rw[PS,M.aE];by_cases aU:((cB x).drop 1).any (λw=>decide (eW w<0))=true
  ·rw[if_pos aU,if_pos aU];rfl
  ·rw[if_neg aU,if_neg aU,M.bK,xD,List.nil_append];rw[show I1.sh ()=M.pure pG from rfl,M.aE];generalize mH:((cB x).drop 1).map eW=A7;have aA:A7.length=((cB x).drop 1).length:=by grind
   rw[<-aA];rw[M.gg j7 (λi (_:Unit)=>(cB x,pG.1,pG.2.1,pG.2.2,(i:Int),A7,())) (λp (_:Unit)=>if decide (p.1=(cB x).getD 0 [])=true then .done (.done ((cB x).getD 0 [],A7,A5 p.2.1 p.2.2 A7.length)) else .next ()) (λ_=>.next ()) (λ_ _=>True) () ?_ trivial ?_ ?_]
   ·rw[ZN (g:=λk m=>aa.done ((cB x).getD 0 [],A7,A5 k m A7.length)) j7 0,M.aE];cases oI ((cB x).getD 0 []) j7 0<;>rfl
   ·rfl
   ·intro i G _ _;have axK:i<20:=G;have hw:=bo (n:=(i:Int)+1) (by omega) (by omega);have eO:i<pG.1.length:=G;have pL:i<pG.2.1.length:=G;have PU:i<pG.2.2.length:=G;have g1:pG.1[i]'eO=(j7[i]'G).1:=List.getElem_map ..;have dR:pG.2.1[i]'pL=(j7[i]'G).2.1:=List.getElem_map ..;have g3:pG.2.2[i]'PU=if (j7[i]'G).2.2=true then -1 else (j7[i]'G).2.1:=List.getElem_map ..
    have hp:((0:Int)<=0/\(0:Int)<((cB x).length:Int))=True:=eq_true ⟨by decide,by omega⟩;refine⟨?_,λ_ _=>trivial⟩;simp only[bJ,cE eO,if_true,cT eO,cT pL,cT PU,cq eO,cq pL,cq PU,hp,M.bg,b7,hw,g1,dR,g3,show Int.toNat 0=0 from rfl];by_cases hc:decide ((j7[i]'G).1=(cB x).getD 0 [])=true
    ·rw[if_pos hc,if_pos hc];unfold A5;simp_all
    simp_all
   ·intro _ _;simp[pG]
 ·rfl
 ·intro i G o ag;have c6:1+i<(cB x).length:=by omega
  have hw:=bo (n:=((1+i:Nat):Int)+1) (by omega) (by omega);have az:(cB x)[1+i]=((cB x).drop 1)[i]:=by grind
  refine⟨?_,λaZ cS=>?_⟩
  ·simp only[bJ,cE c6,if_true,cT c6,cq c6,M.bg,b7,hw,az];rw[show IZ.sh ((cB x).drop 1)[i]=M.pure (eW ((cB x).drop 1)[i]) from rfl,M.aE];by_cases aA:decide (eW ((cB x).drop 1)[i]<0)=true
   ·simp_all
   ·rw[if_neg aA,if_neg aA,M.bp (hG (by grind))];rfl
  grind
 simp_all
theorem PV{s:aK}(h:s.length<=10000):A6.sh s=M.pure (nT s):=M.bF h _
theorem arb{k:Int}{m:Bool}{n:Nat}(ao:0<=k):A5 k m n=!(decide ((n:Int)<k)||decide ((n:Int) > k)&&!m):=by
 unfold A5;grind
theorem arc{s:aK}{j:Nat}{l:z1'}(h:A1 s=some (j,l)):∃ p,j7[j]?=some p/\nT s=(p.1,l,true):=by
 unfold A1 at h;have ai:=ur s;cases ar:oI ((cB s).getD 0 []) j7 0 with
 | none=>grind
 | some q=>
  obtain⟨k,m,i⟩:=q;rw[ar]at h;simp only at h;obtain⟨_,aC,ao⟩:=PQ ar;have lz:0<=k:=ZB _ (List.mem_of_getElem? ao);split at h
  ·grind
  ·rename_i ab;unfold IF at h;split at h
   ·rename_i aU;simp only[Option.map_some,Option.some.injEq,Prod.mk.injEq]at h;obtain⟨rfl,rfl⟩:=h;refine⟨_,ao,?_⟩;unfold nT;rw[if_neg,ar]
    ·simp only;rw[arb lz];have:(((cB s).drop 1).length:Int)=((cB s).length:Int) - 1:=by grind
     rw[this];grind
    grind
   grind
def ZO(w:aK):Bool:=decide (w=[108,101,110,100])||(decide (w=[98,97,99,107])||(decide (w=[118,111,105,100])||(decide (w=[116,114,105,97,108])||(decide (w=[115,116,111,99,107])||(decide (w=[99,111,109,101,115])||(decide (w=[112,105,101,99,101])||(decide (w=[119,105,115,104])||decide (w=[100,114,111,112]))))))))
def A8(s:aK):Bool:=if ZO (nT s).1=true then !(nT s).2.2 else true
abbrev I2:aJ:=⟨.str,.str,λx=>x.length<=10000,λx=>(nT x).1⟩
theorem ard(x):M.le (Yi A6.sh x) (I2.sh x):=M.bh λh=>by
 unfold Yi;rw[PV h,M.aE]
abbrev Ep:aJ:=⟨.str,.bool,λx=>x.length<=10000,A8⟩
theorem are(q dd dV j8 nh sQ I3 I4 I5 PW:Bool):M.bind (if dd=true then M.pure (aa.next (q,dd,())) else if dV=true then M.pure (aa.next (q,dV,())) else if j8=true then M.pure (aa.next (q,j8,())) else if nh=true then M.pure (aa.next (q,nh,())) else if sQ=true then M.pure (aa.next (q,sQ,())) else if I3=true then M.pure (aa.next (q,I3,())) else if I4=true then M.pure (aa.next (q,I4,())) else if I5=true then M.pure (aa.next (q,I5,())) else M.pure (aa.next (q,PW,()))) (aa.bl λ(A:Bool×Bool×Unit)=>if A.2.1=true then M.pure !A.1 else M.pure true)=M.pure (if (dd||(dV||(j8||(nh||(sQ||(I3||(I4||(I5||PW))))))))=true then !q else true):=by
 rcases Bool.eq_false_or_eq_true dd with h | h
 ·simp_all
 subst h;rcases Bool.eq_false_or_eq_true dV with h | h
 ·simp_all
 subst h;rcases Bool.eq_false_or_eq_true j8 with h | h
 ·simp_all
 subst h;rcases Bool.eq_false_or_eq_true nh with h | h
 ·simp_all
 subst h;rcases Bool.eq_false_or_eq_true sQ with h | h
 ·simp_all
 subst h;rcases Bool.eq_false_or_eq_true I3 with h | h
 ·simp_all
 subst h;rcases Bool.eq_false_or_eq_true I4 with h | h
 ·simp_all
 subst h;cases I5<;>cases PW<;>simp
theorem arf(x):M.le (Yh I2.sh A6.sh x) (Ep.sh x):=M.bh λh=>by
 unfold Yh;rw[PV h,M.aE,show I2.sh x=M.pure (nT x).1 from M.bF h _,M.aE];exact are ..
theorem arh{s:aK}(h:s.length<=10000):Ep.sh s=M.pure (A8 s):=M.bF h _
end Go.Fer.W
