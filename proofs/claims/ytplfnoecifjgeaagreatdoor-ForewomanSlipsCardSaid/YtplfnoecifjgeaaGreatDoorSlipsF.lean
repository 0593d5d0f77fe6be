/- Part 6 of the proof of Slips: shallow programs of Go functions, and what they compute. No condition. -/
import Derived.Test.YtplfnoecifjgeaaGreatDoorSlipsE
import Derived.Lib.AtoiAll
import Derived.Lib.ItoaLen
import Derived.Lib.Join
noncomputable section
set_option linter.unusedVariables false
set_option linter.unusedSimpArgs false
namespace Go.Fer
open M (ab)
theorem H7{aq:Type}{p q:aq->Bool}:∀ {l:List aq},(∀ x∈l,p x=q x)->l.all p=l.all q
 | [],_=>rfl
 | x::l,h=>by
  grind
theorem anO(x):M.le (ajk x) (b8.sh x):=M.bj λ_=>rfl
theorem anP(x):M.le (ajl b8.sh x) (oK.sh x):=M.bj λ_=>YK x
abbrev x':aL:=⟨tI,cU,λ_=>True,qu⟩
theorem anQ(x):M.le (Vm b8.sh x) (x'.sh x):=M.bj λ_=>by
 unfold Vm;simp only[aL.sh,b8,M.dq,M.bg,x',qu]
theorem anR(x):M.le (ajh b8.sh x) (pE.sh x):=M.bj λh=>YI x.1 x.2 h
theorem anS(x):M.le (Vk b8.sh x) (rs.sh x):=M.bj λh=>by
 obtain⟨w,m,k⟩:=x;change gy w at h;have:=YJ w m k h;unfold Hf at this;unfold Vk;simp only[aL.sh,AV,M.dq,M.bp h,b8,M.bg,bI]at this ⊢;have an:=h.2.1;have hw:=bn (n:=(w.2.1.length:Int) - 1) (by omega) (by omega);simp only[hw,rr];exact this
theorem anT(x):M.le (ajj x) (um.sh x):=M.bj λh=>YL x h
theorem anU(l:z1')(n:Int)(h:l.length<2 ^ 63):Nf (l,n)=M.pure (hA (λy=>decide (n=y)) l 0):=by
 unfold Nf;rw[M.gj l (λi (b:Int)=>(l,n,(l.length:Int),b,())) (λy (i:Int)=>if decide (n=y)=true then (.done (.done i):ab Int (ab Unit Int)) else .next (i+1)) (λ_=>.next ()) (λi b=>b=(i:Int)) 0 ?_ ?_ ?_ ?_]
 ·rw[Ao (λy=>decide (n=y))];by_cases aU:(l.any λy=>decide (n=y))=true
  ·simp_all
  ·rw[if_neg aU,DS l 0 aU];simp
 ·rfl
 ·rfl
 ·intro i G b ad;subst ad;have hw:=bn (n:=(i:Int)+1) (by omega) (by omega);refine⟨?_,λa1 cQ=>?_⟩
  ·simp only[bI,cG G,if_true,c6 G,cq G,M.bg,M.aE,b4,hw];split<;>rfl
  grind
 simp
abbrev H8:aL:=⟨.ay fI tI,tI,λx=>x.1.length<2 ^ 63,λx=>hA (λy=>decide (x.2=y)) x.1 0⟩
theorem anV(x):M.le (Nf x) (H8.sh x):=M.bj λh=>anU x.1 x.2 h
theorem anW(x):M.le (Vh H8.sh x) (oF.sh x):=M.bj λh=>by
 unfold Vh;simp only[aL.sh,H8,M.dq];rw[M.bp (by exact h),An _ _ _ (by omega)];grind
theorem anX(x):M.le (Vl x'.sh oK.sh x) ((⟨ky,cU,λ_=>True,ru⟩:aL).sh x):=M.bj λ_=>by
 unfold Vl;simp only[aL.sh,x',oK,M.dq,M.iT,M.bg,implies_true,vp,ru]
abbrev H9:aL:=⟨ky,cU,λ_=>True,ru⟩
theorem anY(x):M.le (Vn um.sh (fcAllF tI).sh x'.sh oK.sh x) (sI.sh x):=M.bj λh=>by
 unfold Vn;simp only[aL.sh,um,oK,fcAllF,x',M.dq,M.iT,M.bg,implies_true,M.gu];rw[M.bp (by exact λ_=>⟨h,λy _=>⟨_,M.bF trivial _⟩⟩),M.bp (by omega)];simp only[vp,bI];refine congrArg M.pure ?_;show _=pF x;unfold pF;grind
abbrev AZ:aL:=⟨.ay kS (.br (.fn tSlot .bool)),cU,λx=>∃ f,x.2=some f/\x.1.length<2 ^ 63/\∀ y∈x.1,∃ b,f y=M.pure b,λx=>decide ((x.1.length:Int)<=4)&&x.1.all λy=>((x.2.getD λ_=>M.fail) y).val false⟩
theorem anZ(x):M.le (Vo (fcAllF tSlot).sh x) (AZ.sh x):=M.bj λh=>by
 obtain⟨m,o⟩:=x;obtain⟨f,au,h1,h2⟩:=h;change o=some f at au;subst au;unfold Vo;simp only[aL.sh,fcAllF,M.dq,M.iT,Option.getD_some];simp_all
abbrev A0:aL:=⟨.ay jO (.br kz),cU,λx=>∃ w,x.2=some w/\gy w,λx=>sH (x.2.getD ([],[],0,[])) x.1⟩
theorem an0(x):M.le (Vp pE.sh rs.sh b8.sh x) (A0.sh x):=M.bj λh=>by
 obtain⟨t,o⟩:=x;obtain⟨w,au,h1⟩:=h;change o=some w at au;subst au;unfold Vp;simp only[aL.sh,pE,rs,b8,M.dq,M.iT,Option.getD_some,M.bp h1,h1,implies_true,M.bg,vp,A0,sH]
theorem an1(x):M.le (Vj b8.sh (fcAllF ky).sh (fcAllF kS).sh (fcAllF jO).sh AZ.sh A0.sh H9.sh sI.sh x) (sJ.sh x):=M.bj λh=>by
 have h0:gy x:=h;obtain⟨h1,h2,h3,aT⟩:=(h:gy x)
 unfold Vj;have d1:∀ s,H9.sh s=M.pure (ru s):=λ_=>rfl;have d2:∀ m∈x.2.1,AZ.sh (m,some sI.sh)=M.pure (qv m):=λm ao=>by
  refine (M.bF ⟨_,rfl,(aT m ao).1,λy aO=>⟨_,M.bF ((aT m ao).2 y aO) _⟩⟩ _).trans (congrArg M.pure ?_);simp only[AZ,Option.getD_some,qv,aL.sh,M.gu];grind
 have d3:∀ t,A0.sh (t,some x)=M.pure (sH x t):=λt=>M.bF ⟨_,rfl,h0⟩ _;have bR:(x.1.all λy=>(H9.sh y).val false)=x.1.all ru:=H7 λs _=>M.gu;have a2:(x.2.1.all λy=>(AZ.sh (y,some sI.sh)).val false)=x.2.1.all qv:=H7 λm ao=>(congrArg (λz:M Bool=>z.val false) (d2 m ao)).trans M.fg;have a3:(x.2.2.2.all λy=>(A0.sh (y,some x)).val false)=x.2.2.2.all (sH x):=H7 λt _=>M.gu;have e1:∀ y,(fcAllF ky).sh y=M.dx ((fcAllF ky).pre y) ((fcAllF ky).g y):=λ_=>rfl;have e2:∀ y,(fcAllF kS).sh y=M.dx ((fcAllF kS).pre y) ((fcAllF kS).g y):=λ_=>rfl;have e3:∀ y,(fcAllF jO).sh y=M.dx ((fcAllF jO).pre y) ((fcAllF jO).g y):=λ_=>rfl;have e4:∀ y,b8.sh y=M.pure (b8.g y):=λ_=>rfl;simp only[e1,e2,e3,e4,M.dq,M.iT,M.ku,M.aE];rw[M.bp (by grind),M.bp (by grind),M.bp (by exact λ_=>⟨h3,λy _=>⟨_,d3 y⟩⟩)];simp only[vp,bI];refine congrArg M.pure ?_;show _=kT x;rw[bR,a2,a3];unfold kT vR;grind
def oL(m:z5')(k:Int×Int×Int):Option Int:=Option.map (λx=>x.2) (List.find? (λp=>decide (k.1=p.1.1)&&(decide (k.2.1=p.1.2.1)&&decide (k.2.2=p.1.2.2))) m)
def uu(m:z4')(k:Int):Option Int:=Option.map (λx=>x.2) (List.find? (λp=>decide (k=p.1)) m)
theorem H_{a b:Int×Int×Int}:(decide (a.1=b.1)&&(decide (a.2.1=b.2.1)&&decide (a.2.2=b.2.2)))=decide (a=b):=by
 grind
theorem an2(k):oL [] k=none:=rfl
theorem YU(k:Int×Int×Int)(v:Int)(k':Int×Int×Int):∀ m,oL (vr m k v) k'=if k'=k then some v else oL m k'
 | []=>by
  show oL [(k,v)] k'=_;by_cases h:k'=k<;>simp[oL,H_,h]
 | p::m=>by
  have aJ:=YU k v k' m;show oL (if (decide (k.1=p.1.1)&&(decide (k.2.1=p.1.2.1)&&decide (k.2.2=p.1.2.2)))=true then (p.1,v)::m else p::vr m k v) k'=_;rw[H_];by_cases h:k=p.1
  ·subst h;by_cases da:k'=p.1<;>simp[oL,H_,da]
  ·simp only[h,decide_false,Bool.false_eq_true,if_false];simp only[oL,H_,List.find?_cons]at aJ ⊢;grind
theorem YV(k v k':Int):∀ m,uu (eV m k v) k'=if k'=k then some v else uu m k'
 | []=>by
  show uu [(k,v)] k'=_;by_cases h:k'=k<;>simp[uu,h]
 | p::m=>by
  have aJ:=YV k v k' m;show uu (if decide (k=p.1)=true then (p.1,v)::m else p::eV m k v) k'=_;by_cases h:k=p.1
  ·subst h;by_cases da:k'=p.1<;>simp[uu,da]
  ·simp only[h,decide_false,Bool.false_eq_true,if_false];simp only[uu,List.find?_cons]at aJ ⊢;grind
def pG(t:mr):Int×Int×Int:=(t.1,t.2.1,t.2.2.1)
theorem Ia{a b:mr}:mY a b=true<->pG a=pG b/\a.2.2.2≠b.2.2.2:=by
 simp only[mY,Bool.and_eq_true,decide_eq_true_eq,pG,Prod.mk.injEq];omega
theorem YW(l:List mr):nQ l=true<->l.Pairwise λa b=>mY a b=false:=by
 unfold nQ;rw[List.pairwise_iff_getElem];simp only[List.all_eq_true,List.mem_range,Bool.not_eq_true'];grind
def Ib(m:z5')(pre:List mr):Prop:=∀ k v,oL m k=some v<->(∃ t∈pre,pG t=k/\t.2.2.2=v)
def Eh(m:z5')(t:mr):Bool:=Option.isSome (oL m (pG t))&&decide (Option.getD (oL m (pG t)) 0≠t.2.2.2)
theorem YX{m pre}(h:Ib m pre)(hp:pre.Pairwise λa b=>mY a b=false)(t:mr):Eh m t=true<->∃ a∈pre,mY a t=true:=by
 unfold Eh;cases an:oL m (pG t) with
 | none=>
  simp only[Option.isSome_none,Bool.false_and,Bool.false_eq_true,false_iff];rintro⟨a,aU,hc⟩;have:=(h (pG t) a.2.2.2).2 ⟨a,aU,(Ia.1 hc).1,rfl⟩;grind
 | some v=>
  simp only[Option.isSome_some,Bool.true_and,Option.getD_some,decide_eq_true_eq];obtain⟨b,ad,aj,hv⟩:=(h _ _).1 an;constructor
  ·intro dY;exact⟨b,ad,Ia.2 ⟨aj,by omega⟩⟩
  ·rintro⟨a,aU,hc⟩ rfl;obtain⟨c1,c2⟩:=Ia.1 hc;have:=(h (pG t) a.2.2.2).2 ⟨a,aU,c1,rfl⟩;grind
theorem an3{m pre}(h:Ib m pre){t:mr}(ad:∀ a∈pre,mY a t=false):Ib (vr m (pG t) t.2.2.2) (pre++[t]):=by
 intro k v;rw[YU];by_cases aj:k=pG t
 ·rw[if_pos aj];constructor
  ·grind
  ·rintro⟨a,aU,h1,h2⟩;rcases List.mem_append.1 aU with aU | aU
   ·have hc:=ad a aU;have:¬mY a t=true:=by grind
    rw[Ia]at this;grind
   grind
 ·rw[if_neg aj,h];grind
theorem YY:∀ (b5:List mr) (m) (pre:List mr),Ib m pre->(pre.Pairwise λa b=>mY a b=false)->
  eI (λt m=>if Eh m t=true then (.done (.done 71):ab _ (ab Unit Int)) else .next (vr m (pG t) t.2.2.2)) (λ_=>.next ()) b5 m=if nQ (pre++b5)=true then .next () else .done 71
 | [],m,pre,h,hp=>by
  have:=(YW pre).2 hp;simp[eI,this]
 | t::b5,m,pre,h,hp=>by
  simp only[eI];by_cases ad:Eh m t=true
  ·simp only[ad,if_true];obtain⟨a,aU,hc⟩:=(YX h hp t).1 ad;have:¬nQ (pre++t::b5)=true:=by
    rw[YW,List.pairwise_append];grind
   grind
  ·have aB:∀ a∈pre,mY a t=false:=λa aU=>by
    have:=λhc=>ad ((YX h hp t).2 ⟨a,aU,hc⟩);grind
   simp only[ad,Bool.false_eq_true,if_false];have BY:(pre++[t]).Pairwise λa b=>mY a b=false:=by
    grind
   have:=YY b5 _ (pre++[t]) (an3 h aB) BY;grind
theorem an4(w:be)(h:gy w):Ng sJ.sh w=M.pure (b_ w):=by
 have hs:=h;obtain⟨h1,h2,h3,aT⟩:=h;unfold Ng;simp only[aL.sh,sJ,M.dq,M.bp hs];unfold b_;cases hw:kT w with
 | false=>simp
 | true=>
  simp only[Bool.not_true,Bool.false_eq_true,if_false,if_true];rw[M.dj w.2.2.2 (λi (m:z5')=>(w.2.2.2,(w.2.2.2.length:Int),(i:Int),m,())) (λt m=>if Eh m t=true then (.done (.done 71):ab _ (ab Unit Int)) else .next (vr m (pG t) t.2.2.2)) (λ_=>.next ()) [] ?_ ?_ ?_]
  ·rw[YY w.2.2.2 [] [] (λk v=>by simp[an2]) (by simp)];simp only[List.nil_append];by_cases aI:nQ w.2.2.2=true<;>simp[aI]
  ·rfl
  ·intro i G m;have hQ:=bn (n:=(i:Int)+1) (by omega) (by omega);simp only[bI,cG G,if_true,c6 G,cq G,M.bg,M.aE,b4,hQ];exact U9 (mk:=λm=>(w.2.2.2,(w.2.2.2.length:Int),(i:Int)+1,m,()))
  simp
theorem an5(x):M.le (Ng sJ.sh x) (hO.sh x):=M.bj λh=>an4 x h
theorem an6(w:be)(i n m k:Int)(hw:qx w)(G:gJ w i=true)(ao:iJ w m k=true):Vr b8.sh oF.sh (w,i,n,m,k)=M.pure (vS w i n m k):=anL w i n m k hw G ao
theorem an7(x):M.le (Vr b8.sh oF.sh x) (fcFitsAt.sh x):=M.bj λh=>an6 x.1 x.2.1 x.2.2.1 x.2.2.2.1 x.2.2.2.2 h.1 h.2.1 h.2.2
abbrev ya:aL:=⟨.ay jO (.ay (.br tI) (.ay (.br kz) (.br tI))),cU,λx=>∃ i w n,x.2=(some i,some w,some n)/\qx w/\gJ w i=true/\iJ w x.1.2.1 x.1.2.2.1=true,λx=>uq (x.2.2.1.getD ([],[],0,[])) (x.2.1.getD 0) (x.2.2.2.getD 0) x.1⟩
theorem an8(x):M.le (Vq fcFitsAt.sh x) (ya.sh x):=M.bj λh=>by
 obtain⟨t,o⟩:=x;obtain⟨i,w,n,au,hw,G,ao⟩:=h;change o=_ at au;subst au;unfold Vq;simp only[aL.sh,M.nR,M.gu,Option.getD_some,and_true,true_and,and_self,imp_self,M.bg,ne_eq];by_cases aI:t.1=i
 ·have hp:qx w/\gJ w i=true/\iJ w t.2.1 t.2.2.1=true:=⟨hw,G,ao⟩
  simp[uq,aI,hp,M.bp hp]
 ·simp[uq,aI]
def pH(w:be):List (z1'):=(List.range w.1.length).map λ(i:Nat)=>gK w (i:Int)
def dK(w:be)(bU:Bool):Option ql×Int:=if et w bU≠0 then (none,et w bU) else (some (w,pH w),0)
abbrev A1:aL:=⟨.ay kz cU,.ay (.br (.st (.ay kz (.slice fI)))) tI,λx=>gy x.1,λx=>dK x.1 x.2⟩
theorem an9{w:be}{i:Int}:gK w i=(dM (gl w i).2.2.1 (gl w i).2.2.2).filter λn=>w.2.2.2.all (uq w i n):=by
 unfold gK;refine List.filter_congr λn aB=>?_;rw[oz]at aB;simp[OX,aB]
theorem YZ{w:be}:∀ (l:List Nat) (acc:List (z1')),eI (λ(i:Nat) (acc:List (z1'))=>if decide (((gK w (i:Int)).length:Int)=0)=true then (.done (.done (none,(3:Int))):ab _ (ab (List H2×List (List vP)×Int×List mr×List (z1')×Unit) (Option ql×Int))) else .next (acc++[gK w (i:Int)])) (λacc=>.next (w.1,w.2.1,w.2.2.1,w.2.2.2,acc,())) l acc
  =if (l.all λ(i:Nat)=>!decide (((gK w (i:Int)).length:Int)=0))=true then .next (w.1,w.2.1,w.2.2.1,w.2.2.2,acc++l.map (λ(i:Nat)=>gK w (i:Int)),()) else .done (none,3)
 | [],acc=>by simp[eI]
 | i::l,acc=>by
  simp only[eI,List.all_cons,List.map_cons];by_cases h:((gK w (i:Int)).length:Int)=0
  ·simp[h]
  ·simp only[h,decide_false,Bool.false_eq_true,if_false,Bool.not_false,Bool.true_and];rw[YZ l];simp
theorem an_(w:be)(bU:Bool)(h:gy w):Nk hO.sh (fcAllF jO).sh ya.sh (w,bU)=M.pure (dK w bU):=by
 unfold Nk dK et;simp only[aL.sh,M.dq,M.bp h];by_cases hc:b_ w=0
 ·have hw:qx w:=⟨h,OY hc⟩
  have an':=Ed hw.2;simp only[hc,ne_eq,not_true,decide_false,Bool.false_eq_true,if_false];cases bU with
  | false=>simp
  | true=>
   simp only[Bool.not_true,Bool.false_eq_true,if_false,Bool.true_eq_false];rw[M.gj (List.range w.1.length) (λi (acc:List (z1'))=>(w.1,(w.1.length:Int),(i:Int),w,w.1,w.2.1,w.2.2.1,w.2.2.2,acc,())) (λ(i:Nat) (acc:List (z1'))=>if decide (((gK w (i:Int)).length:Int)=0)=true then (.done (.done (none,(3:Int))):ab _ (ab (List H2×List (List vP)×Int×List mr×List (z1')×Unit) (Option ql×Int))) else .next (acc++[gK w (i:Int)])) (λacc=>.next (w.1,w.2.1,w.2.2.1,w.2.2.2,acc,())) (λi acc=>acc.length<=i) [] ?_ ?_ ?_ ?_]
   ·rw[YZ];have e:((List.range w.1.length).all λ(i:Nat)=>!decide (((gK w (i:Int)).length:Int)=0))=vT w:=rfl;rw[e];by_cases aI:vT w=true<;>simp[aI,pH]
   ·rfl
   ·simp
   ·intro i G acc OZ;have G:i<w.1.length:=by grind
    have nP:=anM G;have an:=YO hw.2 nP;have hQ:=bn (n:=(i:Int)+1) (by omega) (by omega);have aA:w.1[i]=gl w (i:Int):=by simp[gl,List.getD_eq_getElem?_getD,G]
    refine⟨?_,λa1 ad=>?_⟩
    ·simp only[bI,cG G,if_true,c6 G,cq G,M.bg,aA,List.getElem_range];rw[M.gj (dM (gl w (i:Int)).2.2.1 (gl w (i:Int)).2.2.2) (λk (l:z1')=>(w.1,(w.1.length:Int),(i:Int),w,(i:Int),gl w (i:Int),l,(gl w (i:Int)).2.2.1+(k:Int),w.1,w.2.1,w.2.2.1,w.2.2.2,acc,())) (λn l=>.next (if w.2.2.2.all (uq w (i:Int) n)=true then l++[n] else l)) (λl=>.next (w.1,(w.1.length:Int),(i:Int),w,l,w.1,w.2.1,w.2.2.1,w.2.2.2,acc,())) (λk l=>l.length<=k) [] ?_ ?_ ?_ ?_]
     ·rw[dZ,U7];simp only[M.aE,M.bL,List.nil_append];rw[<-an9];by_cases ba:((gK w (i:Int)).length:Int)=0
      ·simp[ba]
      ·have lF:b2 (acc.length+(0+1)):=by unfold b2;omega
       simp_all
     ·simp
     ·simp
     ·intro k aj l aoa;have vz:k<1000:=by rw[xP]at aj;omega
      have rS:(gl w (i:Int)).2.2.1+(k:Int)<=(gl w (i:Int)).2.2.2:=by rw[xP]at aj;omega
      have Ei:=bn (n:=(gl w (i:Int)).2.2.1+((k:Int)+1)) (by omega) (by omega);have lF:b2 (l.length+(0+1)):=by unfold b2;omega
      refine⟨?_,λa1 ad=>?_⟩
      ·have lB:∀ t∈w.2.2.2,ya.sh (t,some (i:Int),some w,some ((gl w (i:Int)).2.2.1+(k:Int)))=M.pure (uq w (i:Int) ((gl w (i:Int)).2.2.1+(k:Int)) t):=λt aI=>M.bF ⟨_,_,_,rfl,hw,nP,(anK hw.2 aI).2⟩ _;simp only[rS,decide_true,if_true,Dy];rw[M.bp (by exact⟨h.2.2.1,λt aI=>⟨_,lB t aI⟩⟩)];have e:(w.2.2.2.all λy=>(M.dx (ya.pre (y,some (i:Int),some w,some ((gl w (i:Int)).2.2.1+(k:Int)))) (ya.g (y,some (i:Int),some w,some ((gl w (i:Int)).2.2.1+(k:Int))))).val false)=w.2.2.2.all (uq w (i:Int) ((gl w (i:Int)).2.2.1+(k:Int))):=H7 λt aI=>M.gu;rw[e];by_cases ad:w.2.2.2.all (uq w (i:Int) ((gl w (i:Int)).2.2.1+(k:Int)))=true
       ·simp only[ad,if_true,b4,iE,M.bp lF,M.aE,M.bL,Ei,ab.gV,Int.natCast_add,Int.natCast_one,Int.add_assoc]
       ·simp only[ad,Bool.false_eq_true,if_false,b4,iE,M.aE,M.bL,Ei,ab.gV,Int.natCast_add,Int.natCast_one,Int.add_assoc]
      grind
     ·intro l aoa;have:¬(gl w (i:Int)).2.2.1+((dM (gl w (i:Int)).2.2.1 (gl w (i:Int)).2.2.2).length:Int)<=(gl w (i:Int)).2.2.2:=by rw[xP];omega
      simp only[this,decide_false,Bool.false_eq_true,if_false,M.aE]
    grind
   simp
 grind
theorem aob(x):M.le (Nk hO.sh (fcAllF jO).sh ya.sh x) (A1.sh x):=M.bj λh=>an_ x.1 x.2 h
theorem aoc(x):M.le (Vs x) (H6.sh x):=M.bj λ_=>by
 unfold Vs;simp only[H5,decide_eq_true_eq];grind
theorem Y0(w:be):(pH w).length=w.1.length:=by simp[pH]
theorem O0{w:be}{i:Int}(h:gJ w i=true):List.getD (pH w) i.toNat []=gK w i:=by
 rw[uk]at h;have:i.toNat<w.1.length:=by omega
 have e:((i.toNat:Nat):Int)=i:=by omega
 simp[pH,List.getD_eq_getElem?_getD,this,e]
abbrev aod:af:=.br (.st (.ay kz (.slice fI)))
def aoe(o:Option ql)(w:be):Prop:=o=some (w,pH w)/\qx w
abbrev Ic:aL:=⟨.ay aod (.ay tI (.ay tI tI)),tI,λx=>∃ w,aoe x.1 w/\gJ w x.2.1=true/\iJ w x.2.2.1 x.2.2.2=true,λx=>ur ((x.1.getD (([],[],0,[]),[])).1) x.2.1 x.2.2.1 x.2.2.2⟩
theorem aof(w:be)(i m k:Int)(hw:qx w)(G:gJ w i=true)(ao:iJ w m k=true):Nl fcFitsAt.sh H6.sh (some (w,pH w),i,m,k)=M.pure (ur w i m k):=by
 unfold Nl;have lF:=YP hw G;have b3:0<=i/\i<((pH w).length:Int):=by rw[Y0];exact uk.1 G
 simp only[Option.isSome_some,Option.getD_some,M.bg,bI,O0 G,M.bp b3];rw[M.gj (gK w i) (λj (n:Int)=>(some (w,pH w),i,m,k,n,gK w i,((gK w i).length:Int),(j:Int),())) (λx n=>.next (if vS w i x m k=true then n+1 else n)) (λn=>.next (some (w,pH w),i,n,())) (λj n=>0<=n/\n<=(j:Int)) 0 ?_ ?_ ?_ ?_]
 ·rw[dZ,YR];simp only[M.aE,M.bL,Option.isSome_some,Option.getD_some,M.bg,M.bp b3,O0 G,aL.sh,M.dq,Int.zero_add];rfl
 ·rfl
 ·simp
 ·intro j aD n aB;have aog:=bn (n:=(j:Int)+1) (by omega) (by omega);have A2:=bn (n:=n+1) (by omega) (by omega);have hp:qx w/\gJ w i=true/\iJ w m k=true:=⟨hw,G,ao⟩
  refine⟨?_,λa1 ad=>?_⟩
  ·simp only[cG aD,if_true,c6 aD,cq aD,M.bg,Option.isSome_some,Option.getD_some,aL.sh,M.dq,M.bp hp,b4,A2];cases vS w i (gK w i)[j] m k<;>simp[aog]
  grind
 simp
theorem aoh(x):M.le (Nl fcFitsAt.sh H6.sh x) (Ic.sh x):=M.bj λh=>by
 obtain⟨o,i,m,k⟩:=x;obtain⟨w,⟨au,hw⟩,G,ao⟩:=h;change o=_ at au;subst au;exact aof w i m k hw G ao
theorem Y1{w:be}{bU:Bool}(h:et w bU=0):dK w bU=(some (w,pH w),0):=by simp[dK,h]
theorem Y2{w:be}{bU:Bool}(h:et w bU≠0):dK w bU=(none,et w bU):=by simp[dK,h]
theorem aoi(w:be)(i:Int)(h:gy w):Nh A1.sh pE.sh (w,i)=M.pure (vU w i):=by
 unfold Nh vU;simp only[aL.sh,M.nR,M.gu,h,M.bg];by_cases aj:et w (gJ w i)=0
 ·have hw:=YQ h aj;have G:=(Ee aj).2.1;have hp:=anN (Ee aj).2.2 G;have lF:=YP hw G;have hQ:=bn (n:=((gK w i).length:Int) - 1) (by omega) (by omega);have e1:(((gK w i).length:Int) - 1).toNat=(gK w i).length - 1:=by omega
  have si:0<=i/\i<((pH w).length:Int):=by rw[Y0];exact uk.1 G
  have b3:(0:Int)<=0/\(0:Int)<((gK w i).length:Int):=by omega
  have cr:(0:Int)<=((gK w i).length:Int) - 1/\((gK w i).length:Int) - 1<((gK w i).length:Int):=by omega
  simp only[Y1 aj,aj,ne_eq,not_true,decide_false,Bool.false_eq_true,if_false,Option.isSome_some,Option.getD_some,M.bg,bI,O0 G,M.bp si,hQ,e1,M.bp cr];simp_all
 ·simp[Y2 aj,aj]
theorem aoj(x):M.le (Nh A1.sh pE.sh x) (x_.sh x):=M.bj λh=>aoi x.1 x.2 h
theorem aok(w:be)(i m k:Int)(h:gy w):Ni A1.sh pE.sh rs.sh Ic.sh (w,i,m,k)=M.pure (qy w i m k):=by
 unfold Ni qy;simp only[aL.sh,M.nR,M.gu,h,M.bg,and_true,and_self,imp_self,true_and];by_cases aj:et w (gJ w i&&iJ w m k)=0
 ·have hw:=YQ h aj;have G:=(Ee aj).2.1;simp only[Bool.and_eq_true]at G;simp only[Y1 aj,aj,ne_eq,not_true,decide_false,Bool.false_eq_true,if_false,M.dq];rw[M.bp (by exact⟨w,⟨rfl,hw⟩,G.1,G.2⟩)];rfl
 ·simp[Y2 aj,aj]
theorem aol(x):M.le (Ni A1.sh pE.sh rs.sh Ic.sh x) (AY.sh x):=M.bj λh=>aok x.1 x.2.1 x.2.2.1 x.2.2.2 h
theorem O1{n:Int}(h1:0<=n)(h2:n<18446744073709551616):IntKind.u64.wrap n=n:=by
 show (if (false&&decide (n % 2 ^ 64>=(2 ^ (64 - 1):Int)))=true then n % 2 ^ 64 - 2 ^ 64 else n % 2 ^ 64)=n;grind
theorem O2:∀ (n:Nat) (l:z1'),l.Nodup->(∀ x∈l,0<=x/\x<(n:Int))->l.length<=n
 | 0,l,_,h=>by
  cases l with
  | nil=>simp
  | cons x l=>have:=h x (by simp);omega
 | n+1,l,aB,h=>by
  have h2:=O2 n (l.erase (n:Int)) (aB.erase _) λx hx=>by
   grind
  grind
def aom(l:z1'):Prop:=∀ x∈l,0<=x/\x<16
def Y3(l:z1'):Prop:=l.Nodup/\aom l
theorem Y3.len{l:z1'}(h:Y3 l):l.length<=16:=O2 16 l h.1 h.2
theorem M.aon{A aG:Type}{body:A->M (ab A aG)}{p:aG->Prop}{s0:A}(n:Nat)(I:Nat->A->Prop)(h0:I 0 s0)
  (hs:∀ i,i<n->∀ s,I i s->M.ca (body s) λst=>match st with | .next s'=>I (i+1) s' | .done r=>p r)
  (au:∀ s,I n s->M.ca (body s) λst=>match st with | .next _=>False | .done r=>p r):M.ca (M.loop body s0) p:=by
 have key:∀ k i s,n - i=k->i<=n->I i s->M.ca (M.loop body s) p:=by
  intro k;induction k with
  | zero=>
   intro i s aj G h;have:i=n:=by omega
   subst this;rw[M.BA,M.fJ];refine (au s h).mono λy aO=>?_;cases y with
   | next s'=>grind
   | done r=>exact M.dI.2 aO
  | succ k aJ=>
   intro i s aj G h;rw[M.BA,M.fJ];refine (hs i (by omega) s h).mono λy aO=>?_;cases y with
   | next s'=>grind
   | done r=>exact M.dI.2 aO
 grind
def O3(x:Int×Int):Int:=IntKind.wrap .u64
 (Add.add (IntKind.wrap .u64 (Add.add (IntKind.wrap .u64 (i' .u64 x.1 32*i' .u64 x.2 32)) (i' .u64 (IntKind.wrap .u64 (Add.add (IntKind.wrap
 .u64 (i' .u64 x.1 32*ly .u64 x.2 4294967295)) (i' .u64 (IntKind.wrap .u64 (ly .u64 x.1 4294967295*ly .u64 x.2 4294967295)) 32))) 32)))
 (i' .u64 (IntKind.wrap .u64 (Add.add (ly .u64 (IntKind.wrap .u64 (Add.add (IntKind.wrap .u64 (i' .u64 x.1 32*ly .u64 x.2 4294967295)) (i'
 .u64 (IntKind.wrap .u64 (ly .u64 x.1 4294967295*ly .u64 x.2 4294967295)) 32))) 4294967295) (IntKind.wrap .u64 (ly .u64 x.1 4294967295*i'
 .u64 x.2 32)))) 32))
def Ie:Nat->Bool
 | 0=>true
 | n+1=>decide (O3 (1,(n:Int))=0)&&Ie n
theorem Y4:∀ (N n:Nat),Ie N=true->n<N->O3 (1,(n:Int))=0
 | 0,n,_,h=>by omega
 | N+1,n,hc,h=>by
  simp only[Ie,Bool.and_eq_true,decide_eq_true_eq]at hc;by_cases e:n=N
  ·grind
  ·exact Y4 N n hc.2 (by omega)
def O4(work:z1')(s:Int):z1':=((List.range work.length).filter λj=>decide (work.getD j 0=s)).map λ(j:Nat)=>(j:Int)
theorem aoo{aq β aG:Type}{f:aq->β->ab β aG}{fin:β->aG}(I:Nat->β->Prop)(Q:aG->Prop)(l:List aq)(b:β)(h0:I 0 b)
  (hs:∀ i (h:i<l.length) b,I i b->match f l[i] b with | .next a1=>I (i+1) a1 | .done r=>Q r) (au:∀ b,I l.length b->Q (fin b)):Q (eI f fin l b):=by
 have key:∀ (k:Nat) (r:List aq) (b:β),k<=l.length->r=l.drop k->I k b->Q (eI f fin r b):=by
  intro k r;induction r generalizing k with
  | nil=>
   intro b aj aa ei;have:k=l.length:=by have:=congrArg List.length aa;grind
   subst this;exact au b ei
  | cons x r aJ=>
   intro b aj aa ei;have bX:k<l.length:=by
    grind
   rw[List.drop_eq_getElem_cons bX]at aa;injection aa with hx aa
   have h1:=hs k bX b ei;rw[<-hx]at h1;simp only[eI];grind
 grind
def cz(m:z4')(k:Int):Int:=(uu m k).getD 0
theorem aop(m:z4')(k:Int):Option.getD (Option.map (λx=>x.2) (List.find? (λp=>decide (k=p.1)) m)) 0=cz m k:=rfl
theorem A3(k v k':Int)(m:z4'):cz (eV m k v) k'=if k'=k then v else cz m k':=by
 unfold cz;rw[YV];grind
def rv(n:Nat)(m:z4'):Nat:=(List.range n).countP λ(s:Nat)=>decide (cz m (s:Int)=0)
theorem Y5{p q:Nat->Bool}{s:Nat}(h:∀ x,x≠s->p x=q x)(hp:p s=true)(bf:q s=false):∀ (l:List Nat),l.Nodup->s∈l->l.countP p=l.countP q+1
 | [],_,hs=>by cases hs
 | x::l,aB,hs=>by
  rw[List.nodup_cons]at aB;rw[List.countP_cons,List.countP_cons];by_cases e:x=s
  ·subst e;have:l.countP p=l.countP q:=List.countP_congr λy aO=>by
    grind
   grind
  ·have:=Y5 h hp bf l aB.2 (by grind);grind
theorem Y6{n:Nat}{m:z4'}{s v:Int}(h0:0<=s)(aB:s<(n:Int))(ao:cz m s=0)(hv:v≠0):rv n m=rv n (eV m s v)+1:=by
 unfold rv;refine Y5 (s:=s.toNat) (λx hx=>?_) ?_ ?_ _ List.nodup_range (by grind)
 ·rw[A3,if_neg (by omega)]
 ·grind
 ·rw[A3,if_pos (by omega)];grind
theorem Y7{n:Nat}{a b:z4'}(h:∀ k,0<=cz a k/\cz a k<=cz b k):rv n b<=rv n a:=by
 unfold rv;refine List.countP_mono_left λx _ hx=>?_;grind
abbrev kU:=z1'×z4'
def ab.uv{β aG jh:Type}(g:aG->jh):ab β aG->ab β jh
 | .next b=>.next b
 | .done r=>.done (g r)
def yb{aq β aG:Type}(f:aq->β->ab β aG):List aq->β->ab β aG
 | [],b=>.next b
 | x::l,b=>match f x b with
  | .next a1=>yb f l a1
  | .done r=>.done r
def ab.fin{β aG:Type}(n:β->aG):ab β aG->aG
 | .next b=>n b
 | .done r=>r
theorem O5{aq β aG:Type}{f:aq->β->ab β aG}{n:β->aG}:∀ (l:List aq) (b:β),eI f n l b=ab.fin n (yb f l b)
 | [],b=>rfl
 | x::l,b=>by
  simp only[eI,yb];cases f x b with
  | next a1=>exact O5 l a1
  | done r=>rfl
theorem Y8{aq β aG jh:Type}{f:aq->β->ab β aG}{g:aG->jh}:∀ (l:List aq) (b:β),yb (λx b=>ab.uv g (f x b)) l b=ab.uv g (yb f l b)
 | [],b=>rfl
 | x::l,b=>by
  simp only[yb];cases f x b with
  | next a1=>exact Y8 l a1
  | done r=>rfl
def aoq(w:be):Prop:=w.1.length<=2000000/\w.2.1.length<=2000000/\w.2.2.2.length<=2000000/\∀ m∈w.2.1,m.length<=2000000/\∀ s∈m,s.2.1.length<=2000000
def yc(m:List (Int×z1'×Int×Int)):Bool:=decide ((m.length:Int) > 20)||m.any λs=>decide ((s.2.1.length:Int) > 20)
def lV(w:be):Bool:=
 if (decide ((w.1.length:Int) > 40)||decide ((w.2.1.length:Int) > 40)||decide ((w.2.2.2.length:Int) > 60))=true then true
 else if w.2.1.any yc=true then true
 else if b_ w≠0 then false
 else if (w.1.any λs=>decide (IntKind.i64.wrap (s.2.2.2 - s.2.2.1)>=50))=true then true
 else decide ((w.1.length:Int) > 6)||decide ((w.2.1.length:Int) > 4)||decide ((w.2.2.2.length:Int) > 10)
abbrev vM:aL:=⟨kz,cU,gy,lV⟩
theorem aor(w:be)(h:gy w):No hO.sh w=M.pure (lV w):=by
 unfold No lV;simp only[bI];by_cases h1:(decide ((w.1.length:Int) > 40)||decide ((w.2.1.length:Int) > 40)||decide ((w.2.2.2.length:Int) > 60))=true
 ·grind
 ·rw[if_neg h1,if_neg h1];have an:=h;obtain⟨cR,q2,q3,uw⟩:=h;rw[M.dj w.2.1 (λi (_:Unit)=>((i:Int),w,())) (λm u=>if yc m=true then .done (.done true) else .next u) (λ_=>.next (w,())) () ?_ ?_ ?_]
  ·rw[po];by_cases h2:w.2.1.any yc=true
   ·simp only[h2,if_true,M.aE,M.pn]
   ·simp only[h2,Bool.false_eq_true,if_false,M.aE,M.bL,aL.sh,M.dq,M.bp an];by_cases h3:b_ w=0
    ·simp only[h3,ne_eq,not_true,decide_false,Bool.false_eq_true,if_false];rw[M.dj w.1 (λi (_:Unit)=>((i:Int),w,())) (λs u=>if decide (IntKind.i64.wrap (s.2.2.2 - s.2.2.1)>=50)=true then .done (.done true) else .next u) (λ_=>.next (w,())) () ?_ ?_ ?_]
     ·rw[po];by_cases aT:(w.1.any λs=>decide (IntKind.i64.wrap (s.2.2.2 - s.2.2.1)>=50))=true
      ·simp_all
      ·simp only[aT,Bool.false_eq_true,if_false,M.aE,M.bL]
     ·rfl
     ·intro i G u;have lk:=bn (n:=(i:Int)+1) (by omega) (by omega);simp only[bI,cG G,if_true,cq G,M.bg,c6 G,M.aE,b4,lk];exact mQ (mk:=λ_:Unit=>((i:Int)+1,w,()))
     simp
    grind
  ·rfl
  ·intro i G u;have lk:=bn (n:=(i:Int)+1) (by omega) (by omega);have ao:=uw _ (List.getElem_mem G);simp only[bI,cG G,if_true,cq G,M.bg,c6 G,M.aE];by_cases bx:decide ((w.2.1[i].length:Int) > 20)=true
   ·have au:yc w.2.1[i]=true:=by unfold yc;grind
    simp_all
   ·have au:yc w.2.1[i]=w.2.1[i].any λs=>decide ((s.2.1.length:Int) > 20):=by unfold yc;grind
    rw[if_neg bx];rw[M.dj w.2.1[i] (λk (_:Unit)=>((i:Int),(k:Int),w,())) (λs u=>if decide ((s.2.1.length:Int) > 20)=true then .done (.done (.done (.done true))) else .next u) (λ_=>.next ((i:Int),w,())) () ?_ ?_ ?_]
    ·rw[po,au];by_cases c_:(w.2.1[i].any λs=>decide ((s.2.1.length:Int) > 20))=true
     ·simp_all
     ·simp only[c_,Bool.false_eq_true,if_false,M.aE,M.bL,b4,lk];rfl
    ·rfl
    ·intro k aj u;have mq:=bn (n:=(k:Int)+1) (by omega) (by omega);simp only[cq G,M.bg,c6 G,cG aj,if_true,cq aj,c6 aj,M.aE,b4,mq];exact mQ (mk:=λ_:Unit=>((i:Int),(k:Int)+1,w,()))
    simp_all
  simp
theorem aos(x):M.le (No hO.sh x) (vM.sh x):=M.bj λh=>aor x h
def If:be:=([(1,2,300,310),(1,3,305,305),(2,1,50,60),(1,2,320,330)],[[(1,[2,3],300,306),(2,[1],40,58)],[(1,[2],310,326)]],5,[(0,1,0,0)])
abbrev O6:aL:=⟨.cA,kz,λ_=>True,λ_=>If⟩
theorem aot(x):M.le (ajp x) (O6.sh x):=M.bj λ_=>rfl
theorem aou:gy If:=by
 refine⟨by decide,by decide,by decide,?_⟩;intro m ao;simp only[If,List.mem_cons,List.not_mem_nil,or_false]at ao;grind
abbrev mZ:af:=.st (.ay tI (.ay tI (.ay tI (.ay tI fI))))
abbrev tWi:af:=.st (.ay fI (.ay mn (.ay tI (.ay tI tI))))
abbrev pI:af:=.st (.ay tI (.ay tI tI))
abbrev lW:af:=.st (.ay kz (.ay fI (.ay (.slice mZ) (.ay (.slice tWi) (.ay (.slice pI) tI)))))
def e'(s:bt):Prop:=gy s.1/\s.2.1.length<2 ^ 63/\s.2.2.1.length<2 ^ 63/\s.2.2.2.1.length<2 ^ 63/\s.2.2.2.2.1.length<2 ^ 63/\(∀ p∈s.2.2.1,p.2.2.2.2.length<2 ^ 63)/\∀ x∈s.2.2.2.1,x.1.length<2 ^ 63
def bM(n lo G:Int):Bool:=decide (lo<=n)&&decide (n<=G)
def jP(n:Int):Bool:=bM n 0 99
def jQ(p:Int->Bool)(l:z1'):Bool:=(List.range l.length).all λi=>p (l.getD i 0)&&!(decide (0<i)&&decide (l.getD i 0<=l.getD (i - 1) 0))
def Ej(w:be)(m:Int)(n:Int):Bool:=decide (0<=n)&&decide (n<((jq w m).length:Int))
def pJ(w:be)(p:dh):Bool:=jP p.1&&jP p.2.1&&jP p.2.2.1&&nW w p.2.2.2.1&&jQ (Ej w p.2.2.2.1) p.2.2.2.2
def oM(x:dt):Bool:=bM (x.1.length:Int) 1 8&&jQ jP x.1&&jP x.2.1.1&&jP x.2.1.2&&decide (x.2.1.1<=x.2.1.2)&&jP x.2.2.1&&jP x.2.2.2.1&&bM x.2.2.2.2 0 100000
def oN(w:be)(d:DF):Bool:=jP d.1&&gJ w d.2.1&&bM d.2.2 1 10
def m_(s:bt):Bool:=decide ((s.2.1.length:Int)=(s.1.1.length:Int))&&(s.2.1.all λn=>bM n 0 10)&&decide ((s.2.2.1.length:Int)<=8)&&s.2.2.1.all (pJ s.1)&&decide ((s.2.2.2.1.length:Int)<=6)&&s.2.2.2.1.all oM&&decide ((s.2.2.2.2.1.length:Int)<=8)&&s.2.2.2.2.1.all (oN s.1)&&jP s.2.2.2.2.2
def iX(s:bt):Int:=if b_ s.1≠0 then b_ s.1 else if m_ s=true then 0 else 80
theorem aov(x):M.le (ajL x) (b8.sh x):=M.bj λ_=>rfl
theorem aow(x):M.le (ajF x) (b8.sh x):=M.bj λ_=>rfl
abbrev fcHund:aL:=⟨tI,cU,λ_=>True,jP⟩
theorem aox(x):M.le (VL b8.sh x) (fcHund.sh x):=M.bj λ_=>by
 unfold VL;simp[aL.sh,b8,jP,bM]
theorem aoy(x):M.le (VP b8.sh x) (fcHund.sh x):=M.bj λ_=>by
 unfold VP;simp[aL.sh,b8,jP,bM]
abbrev fcRising:aL:=⟨.ay fI (.fn tI .bool),cU,λx=>x.1.length<2 ^ 63/\∀ y∈x.1,∃ b,x.2 y=M.pure b,λx=>jQ (λy=>(x.2 y).val false) x.1⟩
theorem aoz(x):M.le (VM x) (fcRising.sh x):=M.bj λh=>by
 obtain⟨l,f⟩:=x;obtain⟨h1,h2⟩:=h;change l.length<2 ^ 63 at h1;change ∀ y∈l,∃ b,f y=M.pure b at h2;unfold VM;rw[M.dj (List.range l.length) (λi (_:Unit)=>(l,f,l,(l.length:Int),(i:Int),())) (λi b=>if (!((f (l.getD i 0)).val false&&!(decide (0<i)&&decide (l.getD i 0<=l.getD (i - 1) 0))))=true then .done (.done false) else .next b) (λ_=>.next ()) () ?_ ?_ ?_]
 ·rw[kL (q:=λi=>(f (l.getD i 0)).val false&&!(decide (0<i)&&decide (l.getD i 0<=l.getD (i - 1) 0))) _ _ (λ_=>rfl)];show _=M.pure (jQ (λy=>(f y).val false) l);unfold jQ;cases (List.range l.length).all λi=>(f (l.getD i 0)).val false&&!(decide (0<i)&&decide (l.getD i 0<=l.getD (i - 1) 0))<;>simp
 ·rfl
 ·intro i G b;have G:i<l.length:=by grind
  have hw:=bn (n:=(i:Int)+1) (by omega) (by omega);have gD:=bn (n:=(i:Int) - 1) (by omega) (by omega);have e2:((i:Int) - 1).toNat=i - 1:=by omega
  obtain⟨c,hc⟩:=h2 _ (List.getElem_mem G);have jm:l.getD i 0=l[i]:=by grind
  have ep:(decide ((i:Int) > 0))=decide (0<i):=by simp
  simp only[bI,cG G,if_true,List.getElem_range,c6 G,cq G,M.bg,jm,hc,M.fg,M.aE,b4,hw,gD,e2,ep];rw[M.bp (by grind)];cases c<;>cases (decide (0<i)&&decide (l[i]<=l.getD (i - 1) 0))<;>rfl
 simp
abbrev Ig:aL:=⟨.ay fI tI,cU,λx=>x.1.length<2 ^ 63,λx=>jQ (λn=>bM n 0 x.2) x.1⟩
theorem aoA(x):M.le (VS x) (Ig.sh x):=M.bj λh=>by
 obtain⟨l,m⟩:=x;change l.length<2 ^ 63 at h;unfold VS;rw[M.dj (List.range l.length) (λi (_:Unit)=>(l,m,(i:Int),())) (λi b=>if (!(bM (l.getD i 0) 0 m&&!(decide (0<i)&&decide (l.getD i 0<=l.getD (i - 1) 0))))=true then .done (.done false) else .next b) (λ_=>.next ()) () ?_ ?_ ?_]
 ·rw[kL (q:=λi=>bM (l.getD i 0) 0 m&&!(decide (0<i)&&decide (l.getD i 0<=l.getD (i - 1) 0))) _ _ (λ_=>rfl)];show _=M.pure (jQ (λn=>bM n 0 m) l);unfold jQ;cases (List.range l.length).all λi=>bM (l.getD i 0) 0 m&&!(decide (0<i)&&decide (l.getD i 0<=l.getD (i - 1) 0))<;>simp
 ·rfl
 ·intro i G b;have G:i<l.length:=by grind
  have hw:=bn (n:=(i:Int)+1) (by omega) (by omega);have gD:=bn (n:=(i:Int) - 1) (by omega) (by omega);have e2:((i:Int) - 1).toNat=i - 1:=by omega
  have jm:l.getD i 0=l[i]:=by grind
  have ep:(decide ((i:Int) > 0))=decide (0<i):=by simp
  simp only[bI,cG G,if_true,List.getElem_range,c6 G,cq G,M.bg,jm,M.aE,b4,hw,gD,e2,ep];have si:0<i->(0:Int)<=(i:Int) - 1/\(i:Int) - 1<(l.length:Int):=by omega
  generalize l.getD (i - 1) 0=B;generalize l[i]=aK;by_cases hI:aK<0<;>by_cases rY:aK > m<;>by_cases h0:0<i<;>by_cases aN:aK<=B<;>simp_all[bM,ab.gV,M.bp]<;>(grind)<;>(grind)
 simp
theorem O7{p q:Int->Bool}{l:z1'}(h:∀ y∈l,p y=q y):jQ p l=jQ q l:=by
 unfold jQ;grind
theorem aoB(n:Int)(k:Nat):bM n 0 ((k:Int) - 1)=(decide (0<=n)&&decide (n<(k:Int))):=by
 unfold bM;grind
theorem aoC(a b:Int):decide (a > b)=!decide (a<=b):=by grind
abbrev Ek:aL:=⟨.ay tI (.ay (.br kz) (.br mZ)),cU,λx=>∃ w p,x.2=(some w,some p)/\gy w/\nW w p.2.2.2.1=true,λx=>Ej (x.2.1.getD ([],[],0,[])) (x.2.2.getD (0,0,0,0,[])).2.2.2.1 x.1⟩
theorem aoD(x):M.le (VN b8.sh x) (Ek.sh x):=M.bj λh=>by
 obtain⟨n,o⟩:=x;obtain⟨w,p,au,hw,ao⟩:=h;change o=_ at au;subst au;unfold VN;have r:=H3.1 ao;have an:=H4 hw p.2.2.2.1;have hQ:=bn (n:=((jq w p.2.2.2.1).length:Int) - 1) (by omega) (by omega);unfold jq at hQ;simp only[aL.sh,b8,Option.getD_some,bI,r,and_self,M.bg,hQ,M.dq,rr];rfl
abbrev El:aL:=⟨.ay mZ (.br kz),cU,λx=>x.1.2.2.2.2.length<2 ^ 63/\∃ w,x.2=some w/\gy w,λx=>!pJ (x.2.getD ([],[],0,[])) x.1⟩
theorem aoE(x):M.le (VK b8.sh fcHund.sh fcRising.sh Ek.sh x) (El.sh x):=M.bj λh=>by
 obtain⟨p,o⟩:=x;obtain⟨hp,w,au,hw⟩:=h;change o=_ at au;change p.2.2.2.2.length<2 ^ 63 at hp;subst au;unfold VK;have an:=hw.2.1;have hQ:=bn (n:=((w.2.1.length:Int)) - 1) (by omega) (by omega);have e1:(decide (0<=p.2.2.2.1)&&decide (p.2.2.2.1<(w.2.1.length:Int)))=nW w p.2.2.2.1:=rfl;simp only[aL.sh,b8,Option.getD_some,bI,M.bg,hQ,M.dq,M.iT,rr,implies_true,qk,e1];have key:nW w p.2.2.2.1=true->(jQ (λy=>(M.dx (Ek.pre (y,some w,some p)) (Ek.g (y,some w,some p))).val false) p.2.2.2.2)=jQ (Ej w p.2.2.2.1) p.2.2.2.2:=λao=>O7 λy aO=>M.gu;rw[M.bp]
 ·show M.pure _=M.pure _;congr 1;show _=!pJ w p;unfold pJ;simp
 ·intro cB;have ao:nW w p.2.2.2.1=true:=by
   grind
  exact⟨hp,λy aO=>⟨_,M.bF ⟨w,p,rfl,hw,ao⟩ _⟩⟩
abbrev Em:aL:=⟨tWi,cU,λx=>x.1.length<2 ^ 63,λx=>!oM x⟩
theorem aoF(x):M.le (VO b8.sh fcHund.sh fcRising.sh fcHund.sh x) (Em.sh x):=M.bj λh=>by
 unfold VO;have key:(jQ (λy=>(M.dx (fcHund.pre y) (fcHund.g y)).val false) x.1)=jQ jP x.1:=O7 λy aO=>M.gu;simp only[aL.sh,b8,bI,M.bg,M.dq,M.iT,implies_true,qk];rw[M.bp]
 ·show M.pure _=M.pure (!oM x);congr 1;unfold oM;rw[key];have e:decide (x.2.1.1 > x.2.1.2)=!decide (x.2.1.1<=x.2.1.2):=by grind
  rw[e];show _=!(bM (x.1.length:Int) 1 8&&_&&_&&_&&_&&_&&_&&_);unfold bM;simp
 ·exact λ_=>⟨h,λy aO=>⟨_,M.bF trivial _⟩⟩
abbrev En:aL:=⟨.ay pI (.br kz),cU,λx=>∃ w,x.2=some w/\gy w,λx=>!oN (x.2.getD ([],[],0,[])) x.1⟩
theorem aoG(x):M.le (VQ b8.sh fcHund.sh x) (En.sh x):=M.bj λh=>by
 obtain⟨d,o⟩:=x;obtain⟨w,au,hw⟩:=h;change o=_ at au;subst au;unfold VQ;have an:=hw.1;have hQ:=bn (n:=((w.1.length:Int)) - 1) (by omega) (by omega);simp only[aL.sh,b8,Option.getD_some,bI,M.bg,hQ,M.dq,M.iT,rr,implies_true,qk];show M.pure _=M.pure (!oN w d);congr 1;unfold oN gJ bM;simp
abbrev Eo:aL:=⟨tI,cU,λ_=>True,λn=>!bM n 0 10⟩
theorem aoH(x):M.le (VR b8.sh x) (Eo.sh x):=M.bj λ_=>by
 unfold VR;simp[aL.sh,b8,bM]
theorem Ih{aq:Type}{p q:aq->Bool}{l:List aq}(h:∀ x∈l,p x=!q x):l.any p=!l.all q:=by
 grind
abbrev O8:aL:=⟨lW,cU,e',m_⟩
theorem aoI(x):M.le (VD fcHund.sh (iU tI).sh (iU mZ).sh (iU tWi).sh (iU pI).sh El.sh En.sh Em.sh Eo.sh x) (O8.sh x):=M.bj λh=>by
 obtain⟨h1,h2,h3,aT,bx,c_,fN⟩:=h;unfold VD;simp only[aL.sh,bI,M.bg,M.dq,M.iT,implies_true];have aP:(x.2.1.any λy=>(M.dx (Eo.pre y) (Eo.g y)).val false)=!x.2.1.all λn=>bM n 0 10:=Ih λy _=>M.gu;have aQ:(x.2.2.1.any λy=>(M.dx (El.pre (y,some x.1)) (El.g (y,some x.1))).val false)=!x.2.2.1.all (pJ x.1):=Ih λy _=>M.gu;have bB:(x.2.2.2.1.any λy=>(M.dx (Em.pre y) (Em.g y)).val false)=!x.2.2.2.1.all oM:=Ih λy _=>M.gu;have gf:(x.2.2.2.2.1.any λy=>(M.dx (En.pre (y,some x.1)) (En.g (y,some x.1))).val false)=!x.2.2.2.2.1.all (oN x.1):=Ih λy _=>M.gu;rw[M.bp,M.bp,M.bp,M.bp]
 ·show M.pure _=M.pure (m_ x);congr 1;unfold m_;grind
 ·exact λ_=>⟨bx,λy aO=>⟨_,M.bF ⟨_,rfl,h1⟩ _⟩⟩
 ·exact λ_=>⟨aT,λy aO=>⟨_,M.bF (fN y aO) _⟩⟩
 ·exact λ_=>⟨h3,λy aO=>⟨_,M.bF ⟨c_ y aO,_,rfl,h1⟩ _⟩⟩
 ·exact λ_=>⟨h2,λy aO=>⟨_,M.bF trivial _⟩⟩
abbrev pK:aL:=⟨lW,tI,e',iX⟩
theorem aoJ(x):M.le (Vw hO.sh O8.sh x) (pK.sh x):=M.bj λh=>by
 unfold Vw;simp only[aL.sh,M.dq,M.bp h.1];show _=M.pure (iX x);unfold iX;by_cases hc:b_ x.1=0
 ·simp only[hc,ne_eq,not_true,decide_false,Bool.false_eq_true,if_false,M.bp h];grind
 grind
abbrev Ii:aL:=⟨.ay lW mZ,cU,λx=>e' x.1/\x.2.2.2.2.2.length<2 ^ 63,λx=>pJ x.1.1 x.2⟩
theorem aoK(x):M.le (VE b8.sh Ig.sh x) (Ii.sh x):=M.bj λh=>by
 obtain⟨s,p⟩:=x;obtain⟨hs,hp⟩:=h;change e' s at hs;change p.2.2.2.2.length<2 ^ 63 at hp;unfold VE;have an:=hs.1.2.1;have fV:=H4 hs.1 p.2.2.2.1;have hQ:=bn (n:=((s.1.2.1.length:Int)) - 1) (by omega) (by omega);have Ei:=bn (n:=((jq s.1 p.2.2.2.1).length:Int) - 1) (by omega) (by omega);unfold jq at Ei;have e1:(decide (0<=p.2.2.2.1)&&decide (p.2.2.2.1<(s.1.2.1.length:Int)))=nW s.1 p.2.2.2.1:=rfl;simp only[aL.sh,b8,bI,M.bg,hQ,Ei,M.dq,M.iT,rr,implies_true,qk,e1,M.nR,M.gu];show _=M.pure (pJ s.1 p);unfold pJ;have er:jQ (λn=>bM n 0 (((List.getD s.1.2.1 (Int.toNat p.2.2.2.1) []).length:Int) - 1)) p.2.2.2.2=jQ (Ej s.1 p.2.2.2.1) p.2.2.2.2:=O7 λy _=>aoB y _;rw[er];cases ao:nW s.1 p.2.2.2.1
 ·simp
 ·have r:=H3.1 ao;rw[M.bp r,M.bp (by exact hp)];unfold jP bM;grind
abbrev Ij:aL:=⟨tWi,cU,λx=>x.1.length<2 ^ 63,oM⟩
theorem aoL(x):M.le (VF b8.sh Ig.sh x) (Ij.sh x):=M.bj λh=>by
 unfold VF;simp only[aL.sh,b8,bI,M.bg,M.dq,M.iT,implies_true];rw[M.bp (by omega)];show M.pure _=M.pure (oM x);congr 1;unfold oM;have er:jQ (λn=>bM n 0 99) x.1=jQ jP x.1:=rfl;rw[er];unfold jP bM;grind
theorem aoM(x):M.le (Vx hO.sh b8.sh Ii.sh Ij.sh x) (pK.sh x):=M.bj λh=>by
 have hs:=h;obtain⟨h1,h2,h3,aT,bx,c_,fN⟩:=h;unfold Vx;simp only[aL.sh,M.dq,M.bp h1];show _=M.pure (iX x);unfold iX;by_cases hc:b_ x.1=0
 ·simp only[hc,ne_eq,not_true,decide_false,Bool.false_eq_true,if_false,b8,M.iT,M.dq,implies_true,M.bg,bI,qk,decide_not];have e:(!decide ((x.2.1.length:Int)=(x.1.1.length:Int))||decide ((x.2.2.1.length:Int) > 8)||decide ((x.2.2.2.1.length:Int) > 6)||decide ((x.2.2.2.2.1.length:Int) > 8)||!(decide (0<=x.2.2.2.2.2)&&decide (x.2.2.2.2.2<=99)))=!(decide ((x.2.1.length:Int)=(x.1.1.length:Int))&&decide ((x.2.2.1.length:Int)<=8)&&decide ((x.2.2.2.1.length:Int)<=6)&&decide ((x.2.2.2.2.1.length:Int)<=8)&&jP x.2.2.2.2.2):=by
   simp only[aoC,jP,bM,Bool.not_and]
  rw[e];by_cases cB:(decide ((x.2.1.length:Int)=(x.1.1.length:Int))&&decide ((x.2.2.1.length:Int)<=8)&&decide ((x.2.2.2.1.length:Int)<=6)&&decide ((x.2.2.2.2.1.length:Int)<=8)&&jP x.2.2.2.2.2)=true
  ·rw[if_neg (by grind)]
   ·rw[M.dj x.2.1 (λi (_:Unit)=>((i:Int),x,())) (λn b=>if (!bM n 0 10)=true then .done (.done (80:Int)) else .next b) (λ_=>.next (x,())) () ?_ ?_ ?_]
    ·rw[kL (q:=λn=>bM n 0 10) _ _ (λ_=>rfl)];cases hI:x.2.1.all λn=>bM n 0 10 with
     | false=>simp[m_,hI]
     | true=>
      simp only[M.aE,if_true,M.bL];rw[M.dj x.2.2.1 (λi (_:Unit)=>((i:Int),x,())) (λp b=>if (!pJ x.1 p)=true then .done (.done (80:Int)) else .next b) (λ_=>.next (x,())) () ?_ ?_ ?_]
      ·rw[kL (q:=pJ x.1) _ _ (λ_=>rfl)];cases aN:x.2.2.1.all (pJ x.1) with
       | false=>simp[m_,aN]
       | true=>
        simp only[M.aE,if_true,M.bL];rw[M.dj x.2.2.2.1 (λi (_:Unit)=>((i:Int),x,())) (λp b=>if (!oM p)=true then .done (.done (80:Int)) else .next b) (λ_=>.next (x,())) () ?_ ?_ ?_]
        ·rw[kL (q:=oM) _ _ (λ_=>rfl)];cases jd:x.2.2.2.1.all oM with
         | false=>simp[m_,jd]
         | true=>
          simp only[M.aE,if_true,M.bL];rw[M.dj x.2.2.2.2.1 (λi (_:Unit)=>((i:Int),x,())) (λp b=>if (!oN x.1 p)=true then .done (.done (80:Int)) else .next b) (λ_=>.next ()) () ?_ ?_ ?_]
          ·rw[kL (q:=oN x.1) _ _ (λ_=>rfl)];simp only[Bool.and_eq_true]at cB;cases hD:x.2.2.2.2.1.all (oN x.1)<;>simp[m_,hI,aN,jd,hD,cB]
          ·rfl
          ·intro i G b;have hw:=bn (n:=(i:Int)+1) (by omega) (by omega);have an:=h1.1;have hQ:=bn (n:=((x.1.1.length:Int)) - 1) (by omega) (by omega);simp only[bI,cG G,if_true,c6 G,cq G,M.bg,M.aE,b4,hw,hQ,qk,rr];have e:(!(decide (0<=(x.2.2.2.2.1[i]).1)&&decide ((x.2.2.2.2.1[i]).1<=99))||!(decide (0<=(x.2.2.2.2.1[i]).2.1)&&decide ((x.2.2.2.2.1[i]).2.1<(x.1.1.length:Int)))||!(decide (1<=(x.2.2.2.2.1[i]).2.2)&&decide ((x.2.2.2.2.1[i]).2.2<=10)))=!oN x.1 x.2.2.2.2.1[i]:=by
            unfold oN jP gJ bM;simp
           rw[e];exact mQ (mk:=λ_:Unit=>((i:Int)+1,x,()))
          simp
        ·rfl
        ·intro i G b;have hw:=bn (n:=(i:Int)+1) (by omega) (by omega);simp only[bI,cG G,if_true,c6 G,cq G,M.bg,M.aE,b4,hw,M.bp (show Ij.pre x.2.2.2.1[i] from fN _ (List.getElem_mem G))];exact mQ (mk:=λ_:Unit=>((i:Int)+1,x,()))
        simp
      ·rfl
      ·intro i G b;have hw:=bn (n:=(i:Int)+1) (by omega) (by omega);simp only[bI,cG G,if_true,c6 G,cq G,M.bg,M.aE,b4,hw,M.nR,M.gu,M.bp (show Ii.pre (x,x.2.2.1[i]) from⟨hs,c_ _ (List.getElem_mem G)⟩)];exact mQ (mk:=λ_:Unit=>((i:Int)+1,x,()))
      simp
    ·rfl
    ·intro i G b;have hw:=bn (n:=(i:Int)+1) (by omega) (by omega);simp only[bI,cG G,if_true,c6 G,cq G,M.bg,M.aE,b4,hw];exact mQ (mk:=λ_:Unit=>((i:Int)+1,x,()))
    simp
  ·rw[if_pos (by grind)]
   ·have:m_ x=false:=by
     unfold m_;grind
    grind
 grind
theorem aoN:Ie 201=true:=by decide +kernel
abbrev sK:aL:=⟨.ay (.int .u64) (.int .u64),.ay (.int .u64) (.int .u64),λx=>x.1=1/\0<=x.2/\x.2<=200,λx=>(0,x.2)⟩
theorem aoO(x):M.le (Vi x) (sK.sh x):=M.bj λh=>by
 obtain⟨a,b⟩:=x;obtain⟨h1,h2,h3⟩:=h;change a=1 at h1;change 0<=b at h2;change b<=200 at h3;subst h1;have h0:=Y4 201 b.toNat aoN (by omega);rw[Int.toNat_of_nonneg h2]at h0;have hw:=O1 (n:=1*b) (by omega) (by omega);have aoP:((0:Int)<=32)=True:=by simp
 unfold Vi;simp only[aoP,M.bg];show M.pure (O3 (1,b),IntKind.wrap .u64 (1*b))=_;grind
theorem aoQ(aoR)(x):M.le (Vg aoR sK.sh x) (sK.sh x):=M.bj λh=>by
 unfold Vg;simp only[aL.sh,M.dq];simp_all
section
variable {aq β:Type}
theorem aoS(a d:aq)(m J:Nat)(h1:1<=m)(h2:m<J) :
  List.take m (List.replicate m a++List.replicate (J - m) d)++List.take (J - m) (List.take m (List.replicate m a++List.replicate (J - m) d))++
   List.drop (m+(List.take (J - m) (List.take m (List.replicate m a++List.replicate (J - m) d))).length) (List.replicate m a++List.replicate (J - m) d)
  =List.replicate (m+min (J - m) m) a++List.replicate (J - (m+min (J - m) m)) d:=by
 have e1:List.take m (List.replicate m a++List.replicate (J - m) d)=List.replicate m a:=by
  simp
 rw[e1,List.take_replicate,List.replicate_append_replicate,List.length_replicate,List.drop_append,List.length_replicate];have e2:List.drop (m+min (J - m) m) (List.replicate m a)=[]:=by simp
 grind
def Y9(d:aq)(fin:List aq->M β)(xR:Int×Int->M (Int×Int))(x:List aq)(n:Int):M β:=
 M.bind (if decide (n<0)=true then M.ag False (M.ag False (M.pure (ab.next (x,n,())))) else M.pure (ab.next (x,n,())))
 (ab.bm λ(A:List aq×Int×Unit)=>M.bind (xR (IntKind.wrap .u64 (Int.ofNat (List.length A.1)),IntKind.wrap .u64 A.2.1)) λy
 =>M.bind (if (decide (y.1 > 0)||decide (y.2 > 9223372036854775807))=true then M.ag False (M.ag False (M.pure (ab.next (A.1,y.2,())))) else
 M.pure (ab.next (A.1,y.2,()))) (ab.bm λ(A:List aq×Int×Unit)=>M.ag (0<=IntKind.wrap .i64 A.2.1/\IntKind.wrap .i64 A.2.1=
 IntKind.wrap .i64 A.2.1/\b2 (Int.toNat (IntKind.wrap .i64 A.2.1))) (M.ag True (M.bind (M.loop (λ(A:Int×List aq×Unit)=>if decide (A.1
 < Int.ofNat (List.length A.2.1))=true then M.ag (0<=A.1/\A.1<=Int.ofNat (List.length A.2.1)/\Int.ofNat (List.length A.2.1)<=Int.ofNat
 (List.length A.2.1)) (M.ag ((0:Int)<=0/\0<=A.1/\A.1<=Int.ofNat (List.length A.2.1)) (M.ag True (M.pure (ab.next (IntKind.wrap .i64
 (Add.add A.1 (Int.ofNat (if Int.toNat (Int.ofNat (List.length A.2.1)) - Int.toNat A.1<=List.length (List.take (Int.toNat A.1) A.2.1) then Int.toNat
 (Int.ofNat (List.length A.2.1)) - Int.toNat A.1 else List.length (List.take (Int.toNat A.1) A.2.1)))),List.take (Int.toNat A.1) A.2.1++List.take
 (Int.toNat (Int.ofNat (List.length A.2.1)) - Int.toNat A.1) (List.take (Int.toNat A.1) A.2.1)++List.drop (Add.add (Int.toNat A.1) (List.length
 (List.take (Int.toNat (Int.ofNat (List.length A.2.1)) - Int.toNat A.1) (List.take (Int.toNat A.1) A.2.1)))) A.2.1,()))))) else M.bind (M.pure
 (ab.next (A.2.1,()))) λr=>M.pure (ab.done r)) (Int.ofNat (if List.length (List.replicate (Int.toNat (IntKind.wrap .i64 A.2.1)) d) - 0<=
 List.length A.1 then List.length (List.replicate (Int.toNat (IntKind.wrap .i64 A.2.1)) d) - 0 else List.length A.1),[]++List.take (List.length
 (List.replicate (Int.toNat (IntKind.wrap .i64 A.2.1)) d) - 0) A.1++List.drop (Add.add 0 (List.length (List.take (List.length (List.replicate
 (Int.toNat (IntKind.wrap .i64 A.2.1)) d) - 0) A.1))) (List.replicate (Int.toNat (IntKind.wrap .i64 A.2.1)) d),())) (ab.bm λ(A:List aq×
 Unit)=>fin A.1)))))
theorem O9(d a:aq)(L1:List aq->β)(n:Int)(h2:0<=n)(h3:n<=200):M.ca (Y9 d (λl=>M.pure (L1 l)) sK.sh [a] n) λy=>y=L1 (List.replicate n.toNat a):=by
 obtain⟨J,rfl⟩:=Int.eq_ofNat_of_zero_le h2;have Ik:decide ((J:Int)<0)=false:=by simp
 have lH:IntKind.u64.wrap (Int.ofNat ([a]:List aq).length)=1:=O1 (by simp) (by simp);have aoT:=O1 (n:=(J:Int)) (by omega) (by omega);have lk:=bn (n:=(J:Int)) (by omega) (by omega);have hp:sK.pre (1,(J:Int)):=⟨rfl,h2,h3⟩
 have aoU:decide ((J:Int) > 9223372036854775807)=false:=by grind
 have lF:b2 J:=by unfold b2;omega
 have aa:0<=(J:Int)/\True/\b2 (Int.toNat (J:Int)):=⟨h2,trivial,by grind⟩
 unfold Y9;simp only[Ik,Bool.false_eq_true,if_false,M.aE,M.bL,lH,aoT,aL.sh,M.dq];rw[M.bp (by grind)];simp only[gt_iff_lt,Int.lt_irrefl,decide_false,Bool.false_or,Bool.false_eq_true,if_false,M.aE,M.bL,lk];have aoV:decide ((9223372036854775807:Int)<(J:Int))=false:=aoU;simp only[aoV,Bool.false_eq_true,if_false,M.aE,M.bL,lk];rw[M.bp aa];simp only[M.bg,M.fJ,Int.toNat_natCast,List.length_replicate,Nat.sub_zero,List.nil_append,List.length_singleton,bI,iE,Nat.zero_add];refine M.BC (λs=>∃ m:Nat,(1<=m\/J=0)/\m<=J/\s=((m:Int),List.replicate m a++List.replicate (J - m) d,())) (λs=>J - s.1.toNat) ?_ _ ?_
 ·rintro s ⟨m,ao,axM,rfl⟩;have hlen:(List.replicate m a++List.replicate (J - m) d).length=J:=by grind
  simp only[hlen];by_cases bX:m<J
  ·have gr:0<=(m:Int)/\(m:Int)<=(J:Int)/\(J:Int)<=(J:Int):=by omega
   have cu:(0:Int)<=0/\0<=(m:Int)/\(m:Int)<=(J:Int):=by omega
   have j_:1<=m:=by omega
   have Y_:(List.take m (List.replicate m a++List.replicate (J - m) d)).length=m:=by simp
   simp only[cG bX,if_true,M.bp gr,M.bp cu,M.bg,Int.toNat_natCast,Y_,b4];rw[M.dI,aoS a d m J j_ bX];have aoW:(if J - m<=m then J - m else m)=min (J - m) m:=by rfl
   rw[aoW];have gD:=bn (n:=(m:Int)+((min (J - m) m:Nat):Int)) (by omega) (by omega);refine⟨⟨m+min (J - m) m,.inl (by omega),by omega,?_⟩,?_⟩
   ·rw[gD];simp
   ·simp only[gD];omega
  ·have:m=J:=by omega
   subst this;simp only[Int.lt_irrefl,decide_false,Bool.false_eq_true,if_false,M.aE,M.dI,M.bL,Nat.sub_self,List.replicate_zero,List.append_nil]
 ·by_cases axN:J=0
  ·grind
  ·refine⟨1,.inl (Nat.le_refl _),by omega,?_⟩;grind
end
abbrev Il:aL:=⟨.ay fI tI,fI,λx=>x.1=[-1]/\0<=x.2/\x.2<=200,λx=>List.replicate x.2.toNat (-1)⟩
theorem aoX(x):M.le (ajx sK.sh x) (Il.sh x):=M.sk λh=>by
 obtain⟨l,n⟩:=x;obtain⟨h1,h2,h3⟩:=h;change l=[-1]at h1;subst h1;exact O9 (0:Int) (-1) (λl=>l) n h2 h3
def vW(x:z1'×Int×Unit):M (z1'×Unit):=M.dx (x.1=[-1]/\0<=x.2.1/\x.2.1<=200) (List.replicate x.2.1.toNat (-1),())
theorem Y'(x):M.le (ajN sK.sh x) (vW x):=M.sk λh=>by
 obtain⟨l,n,u⟩:=x;obtain⟨h1,h2,h3⟩:=h;change l=[-1]at h1;subst h1;exact O9 (0:Int) (-1) (λl=>(l,())) n h2 h3
abbrev Im:af:=.st (.ay tI tI)
abbrev Ip:aL:=⟨.ay (.slice Im) tI,.slice Im,λx=>x.1.length=1/\0<=x.2/\x.2<=200,λx=>List.replicate x.2.toNat (x.1.getD 0 (0,0))⟩
theorem aoY(x):M.le (ajK sK.sh x) (Ip.sh x):=M.sk λh=>by
 obtain⟨l,n⟩:=x;obtain⟨h1,h2,h3⟩:=h;change l.length=1 at h1;obtain⟨a,rfl⟩:=List.length_eq_one_iff.1 h1;exact O9 ((0,0):Int×Int) a (λl=>l) n h2 h3
end Go.Fer
namespace Go.Fer
open M (ab)
def yd(s:bt)(n:Int):Bool:=decide (0<=n)&&decide (n<(s.2.2.2.1.length:Int))
def ye(s:bt)(n:Int):Bool:=decide (0<=n)&&decide (n<(s.2.2.1.length:Int))
theorem aoZ{s:bt}{n:Int}:yd s n=true<->0<=n/\n<(s.2.2.2.1.length:Int):=by simp[yd]
theorem ao0{s:bt}{n:Int}:ye s n=true<->0<=n/\n<(s.2.2.1.length:Int):=by simp[ye]
abbrev O_:aL:=⟨.ay lW tI,cU,λx=>e' x.1,λx=>yd x.1 x.2⟩
abbrev O':aL:=⟨.ay lW tI,cU,λx=>e' x.1,λx=>ye x.1 x.2⟩
theorem ao1(x):M.le (VB b8.sh x) (O_.sh x):=M.bj λh=>by
 have an:=h.2.2.2.1;have hw:=bn (n:=(x.1.2.2.2.1.length:Int) - 1) (by omega) (by omega);unfold VB;simp[aL.sh,b8,hw,yd,rr]
theorem ao2(x):M.le (VG b8.sh x) (O'.sh x):=M.bj λh=>by
 have an:=h.2.2.1;have hw:=bn (n:=(x.1.2.2.1.length:Int) - 1) (by omega) (by omega);unfold VG;simp[aL.sh,b8,hw,ye,rr]
def sL(x:dt)(p:dh):Int:=if (!x.1.contains p.1||!bM p.2.1 x.2.1.1 x.2.1.2)=true then 0 else if p.2.2.1=x.2.2.1 then 1 else if p.2.2.1=0 then 2 else 0
abbrev vY:aL:=⟨.ay tWi mZ,tI,λx=>x.1.1.length<2 ^ 63,λx=>sL x.1 x.2⟩
theorem ao3(x):M.le (VH b8.sh oF.sh x) (vY.sh x):=M.bj λh=>by
 unfold VH;simp only[aL.sh,b8,oF,M.dq,M.iT,implies_true,M.bg,qk];rw[M.bp (by exact h)];show _=M.pure (sL x.1 x.2);unfold sL bM;grind
def vZ(s:bt)(l:z1')(i:Nat):Bool:=decide (l.getD i 0=-1)||(ye s (l.getD i 0)&&!(l.take i).contains (l.getD i 0))
def v7(s:bt)(l:z1'):Bool:=((List.range l.length).all (vZ s l))&&decide ((l.length:Int)=(s.2.2.2.1.length:Int))
abbrev Iq:aL:=⟨.ay lW fI,cU,λx=>e' x.1/\x.2.length<2 ^ 63,λx=>v7 x.1 x.2⟩
theorem ao4(x):M.le (VI O'.sh oF.sh x) (Iq.sh x):=M.bj λh=>by
 obtain⟨s,l⟩:=x;obtain⟨hs,an⟩:=h;change e' s at hs;change l.length<2 ^ 63 at an;unfold VI;rw[M.dj (List.range l.length) (λi (_:Unit)=>(l,l,(l.length:Int),(i:Int),s,())) (λi b=>if (!vZ s l i)=true then .done (.done false) else .next b) (λ_=>.next (l,s,())) () ?_ ?_ ?_]
 ·rw[kL (q:=vZ s l) _ _ (λ_=>rfl)];show _=M.pure (v7 s l);unfold v7;cases (List.range l.length).all (vZ s l)<;>simp
 ·simp
 ·intro i G b;have G:i<l.length:=by grind
  have hw:=bn (n:=(i:Int)+1) (by omega) (by omega);obtain⟨aK,jm⟩:∃ aK,l.getD i 0=aK:=⟨_,rfl⟩
  have ct:vZ s l i=(decide (aK=-1)||(ye s aK&&!(l.take i).contains aK)):=by unfold vZ;rw[jm]
  simp only[bI,cG G,if_true,List.getElem_range,cq G,M.bg,aL.sh,M.dq,M.iT,Int.toNat_natCast,jm];rw[M.bp (by grind),M.bp,M.bp]
  ·simp only[M.aE,b4,hw,vZ,jm];by_cases h1:aK=-1
   ·simp_all
   ·cases h2:ye s aK<;>cases h3:(l.take i).contains aK<;>simp[h1,h2,h3,ab.gV]
  ·intro _;show (l.take i).length<2 ^ 63;rw[List.length_take];omega
  ·intro cB;exact⟨⟨cB,trivial,cB⟩,⟨by omega,by omega,by omega⟩,trivial⟩
 simp
def kV(s:bt)(bU:Bool):Int:=if iX s≠0 then iX s else if bU=false then 1 else et s.1 true
theorem Za{s:bt}(h:iX s=0):b_ s.1=0/\m_ s=true:=by
 unfold iX at h;grind
theorem A4{s:bt}{bU:Bool}(h:kV s bU=0):iX s=0/\bU=true/\et s.1 true=0/\vT s.1=true:=by
 unfold kV at h;by_cases he:iX s=0
 ·rw[if_neg (by omega)]at h;cases bU with
  | false=>grind
  | true=>
   simp only[Bool.true_eq_false,if_false]at h;exact⟨he,rfl,h,(Ee h).2.2⟩
 omega
structure lX(s:bt):Prop where
 gQ:e' s
 sE:qx s.1
 Ep:s.2.1.length=s.1.1.length
 qz:∀ n∈s.2.1,0<=n/\n<=10
 Ir:s.2.2.1.length<=8
 ao5:∀ p∈s.2.2.1,pJ s.1 p=true
 ux:s.2.2.2.1.length<=6
 Zb:∀ x∈s.2.2.2.1,oM x=true
 Pa:s.2.2.2.2.1.length<=8
 Zc:∀ d∈s.2.2.2.2.1,oN s.1 d=true
 ao6:0<=s.2.2.2.2.2/\s.2.2.2.2.2<=99
theorem A5{s:bt}(hs:e' s)(h:iX s=0):lX s:=by
 obtain⟨h1,h2⟩:=Za h;simp only[m_,Bool.and_eq_true,decide_eq_true_eq,List.all_eq_true,bM,jP]at h2;obtain⟨⟨⟨⟨⟨⟨⟨⟨aP,aQ⟩,bB⟩,gf⟩,o5⟩,xr⟩,GW⟩,Di⟩,Mr⟩:=h2;exact⟨hs,⟨hs.1,OY h1⟩,by omega,aQ,by omega,gf,by omega,xr,by omega,Di,Mr⟩
theorem lX.Zd{s:bt}(h:lX s):s.1.1.length<=10:=(Ed h.sE.2).1
def Is(w:be)(t:z5')(q:Int×Int×Int):z5':=if ur w q.1 q.2.1 q.2.2=1 then vr t q (IntKind.i64.wrap ((oL t q).getD 0+1)) else t
def Ze(w:be)(i m:Nat)(t:z5'):z5':=(List.range (jq w (m:Int)).length).foldl (λt (k:Nat)=>Is w t ((i:Int),(m:Int),(k:Int))) t
def Zf(w:be)(i:Nat)(t:z5'):z5':=(List.range w.2.1.length).foldl (λt m=>Ze w i m t) t
def uy(w:be)(n:Nat):z5':=(List.range n).foldl (λt i=>Zf w i t) []
def ln(p:Int×Int)(n:Int):z4':=List.replicate n.toNat p
def Er(l:z1'):z4':=(List.range l.length).flatMap λ(i:Nat)=>ln ((i:Int),0) (l.getD i 0)
def Zg(l:List DF):z4':=l.flatMap λd=>ln (d.2.1,d.1) d.2.2
def Pb(s:bt):z4':=Er s.2.1++Zg s.2.2.2.2.1
def c7(s:bt):Sto:=(s,Pb s,uy s.1 s.2.1.length)
def yf(s:bt)(bU:Bool):Option Sto×Int:=if kV s bU≠0 then (none,kV s bU) else (some (c7 s),0)
theorem Pc{aq β:Type}(f:aq->List β):∀ (l:List aq) (b:List β),l.foldl (λb x=>b++f x) b=b++l.flatMap f
 | [],b=>by simp
 | x::l,b=>by rw[List.foldl_cons,Pc f l,List.flatMap_cons,List.append_assoc]
abbrev ao7:af:=.st (.ay tI (.ay tI tI))
abbrev v8:af:=.br (.st (.ay lW (.ay (.slice Im) (.map ao7 tI))))
abbrev A6:aL:=⟨.ay lW cU,.ay v8 tI,λx=>e' x.1,λx=>yf x.1 x.2⟩
theorem ao8(s:bt)(bU:Bool)(hs:e' s):Nt pK.sh x_.sh AY.sh Ip.sh (s,bU)=M.pure (yf s bU):=by
 unfold Nt yf kV;simp only[aL.sh,M.dq,M.bp hs];by_cases he:iX s=0
 ·have hv:=A5 hs he;simp only[he,ne_eq,not_true,decide_false,Bool.false_eq_true,if_false];cases bU with
  | false=>simp
  | true=>
   simp only[Bool.not_true,Bool.false_eq_true,if_false,Bool.true_eq_false];refine Eq.trans (congrArg (λm=>M.bind m _) (show _=(if et s.1 true≠0 then M.pure (ab.done ((none:Option Sto),et s.1 true)) else M.pure (ab.next (s,([]:z5'),s.1.1,s.1.2.1,s.1.2.2.1,s.1.2.2.2,s.2.1,s.2.2.1,s.2.2.2.1,s.2.2.2.2.1,s.2.2.2.2.2,()))) from ?_)) ?_
   ·by_cases ba:s.2.1.length=0
    ·have aI:et s.1 true=0:=by
      unfold et;have h0:s.1.1.length=0:=by rw[<-hv.Ep];exact ba
      have:vT s.1=true:=by unfold vT;grind
      simp[(Za he).1,this]
     grind
    ·have h1:decide (Int.ofNat (List.length s.2.1) > 0)=true:=by grind
     have h2:gJ s.1 0=true:=by rw[uk];have:=hv.Ep;omega
     rw[if_pos h1,M.bp hs.1];unfold vU;rw[h2];by_cases aj:et s.1 true=0
     ·simp[aj]
     ·simp[aj]
   by_cases yU:et s.1 true=0
   ·simp only[yU,ne_eq,not_true,if_false,M.aE,M.bL];have axO:=hv.Zd;have hsl:=hv.Ep;have ao9:s.1.2.1.length<=6:=(Ed hv.sE.2).2.1;rw[M.dj (List.range s.2.1.length) (λi t=>((s.2.1.length:Int),(i:Int),s,t,s.1.1,s.1.2.1,s.1.2.2.1,s.1.2.2.2,s.2.1,s.2.2.1,s.2.2.2.1,s.2.2.2.2.1,s.2.2.2.2.2,())) (λi t=>.next (Zf s.1 i t)) (λt=>.next (s,t,s.1.1,s.1.2.1,s.1.2.2.1,s.1.2.2.2,s.2.1,s.2.2.1,s.2.2.2.1,s.2.2.2.2.1,s.2.2.2.2.2,())) [] ?_ ?_ ?_]
    ·rw[dZ];simp only[M.aE,M.bL];rw[M.gj (List.range s.2.1.length) (λi acc=>(s.2.1,(s.2.1.length:Int),(i:Int),s,uy s.1 s.2.1.length,s.1.1,s.1.2.1,s.1.2.2.1,s.1.2.2.2,s.2.1,s.2.2.1,s.2.2.2.1,s.2.2.2.2.1,s.2.2.2.2.2,acc,())) (λi acc=>.next (acc++ln ((i:Int),0) (s.2.1.getD i 0))) (λacc=>.next (s,uy s.1 s.2.1.length,s.1.1,s.1.2.1,s.1.2.2.1,s.1.2.2.2,s.2.1,s.2.2.1,s.2.2.2.1,s.2.2.2.2.1,s.2.2.2.2.2,acc,())) (λi acc=>acc.length<=10*i) [] ?_ ?_ ?_ ?_]
     ·rw[dZ,Pc];simp only[M.aE,M.bL,List.nil_append];have fF:(Er s.2.1).length<=100:=by
       have:∀ (l:List Nat),(∀ i∈l,i<s.2.1.length)->(l.flatMap λ(i:Nat)=>ln ((i:Int),0) (s.2.1.getD i 0)).length<=10*l.length:=by
        intro l;induction l with
        | nil=>simp
        | cons i l aJ=>
         intro an;have h1:=aJ λj aD=>an j (by grind);have h2:=an i (by simp);have h3:=hv.qz _ (List.getElem_mem h2);have jm:s.2.1.getD i 0=s.2.1[i]:=by grind
         rw[List.flatMap_cons,List.length_append,List.length_cons,jm];simp only[ln,List.length_replicate];simp only[ln]at h1;omega
       have:=this (List.range s.2.1.length) (λi G=>by grind);rw[List.length_range]at this;unfold Er;omega
      rw[M.gj s.2.2.2.2.1 (λi acc=>(s.2.2.2.2.1,(s.2.2.2.2.1.length:Int),(i:Int),uy s.1 s.2.1.length,s.1.1,s.1.2.1,s.1.2.2.1,s.1.2.2.2,s.2.1,s.2.2.1,s.2.2.2.1,s.2.2.2.2.1,s.2.2.2.2.2,acc,())) (λd acc=>.next (acc++ln (d.2.1,d.1) d.2.2)) (λacc=>.next (uy s.1 s.2.1.length,s.1.1,s.1.2.1,s.1.2.2.1,s.1.2.2.2,s.2.1,s.2.2.1,s.2.2.2.1,s.2.2.2.2.1,s.2.2.2.2.2,acc,())) (λi acc=>acc.length<=100+10*i) (Er s.2.1) ?_ ?_ ?_ ?_]
      ·rw[dZ,Pc,M.aE,M.bL];rfl
      ·rfl
      ·omega
      ·intro i G acc OZ;have axP:=hv.Pa;have hQ:=bn (n:=(i:Int)+1) (by omega) (by omega);have aw:=hv.Zc _ (List.getElem_mem G);have CZ:1<=s.2.2.2.2.1[i].2.2/\s.2.2.2.2.1[i].2.2<=10:=by
        simp only[oN,bM,Bool.and_eq_true,decide_eq_true_eq]at aw;omega
       have hlen:(ln (s.2.2.2.2.1[i].2.1,s.2.2.2.2.1[i].1) s.2.2.2.2.1[i].2.2).length<=10:=by simp only[ln,List.length_replicate];omega
       have lF:b2 (acc.length+(ln (s.2.2.2.2.1[i].2.1,s.2.2.2.2.1[i].1) s.2.2.2.2.1[i].2.2).length):=by unfold b2;omega
       refine⟨?_,λa1 ad=>?_⟩
       ·simp only[bI,cG G,if_true,c6 G,cq G,M.bg,M.nR,M.gu,b4,iE,hQ];rw[M.bp (by grind),M.bp (by exact lF)];rfl
       grind
      simp
     ·rfl
     ·simp
     ·intro i G acc OZ;have G:i<s.2.1.length:=by grind
      have hQ:=bn (n:=(i:Int)+1) (by omega) (by omega);have jm:s.2.1.getD i 0=s.2.1[i]:=by grind
      have CZ:=hv.qz _ (List.getElem_mem G);have hlen:(ln ((i:Int),0) s.2.1[i]).length<=10:=by simp only[ln,List.length_replicate];omega
      have lF:b2 (acc.length+(ln ((i:Int),0) s.2.1[i]).length):=by unfold b2;omega
      refine⟨?_,λa1 ad=>?_⟩
      ·simp only[bI,cG G,if_true,c6 G,cq G,M.bg,M.nR,M.gu,b4,iE,hQ,List.getElem_range,jm];rw[M.bp (by grind),M.bp (by exact lF)];rfl
      grind
     simp
    ·simp
    ·intro i G t;have G:i<s.2.1.length:=by grind
     have hQ:=bn (n:=(i:Int)+1) (by omega) (by omega);simp only[bI,cG G,if_true,List.getElem_range];rw[M.dj (List.range s.1.2.1.length) (λm t=>((i:Int),(s.2.1.length:Int),(i:Int),s.1.2.1,(s.1.2.1.length:Int),(m:Int),s,t,s.1.1,s.1.2.1,s.1.2.2.1,s.1.2.2.2,s.2.1,s.2.2.1,s.2.2.2.1,s.2.2.2.2.1,s.2.2.2.2.2,())) (λm t=>.next (Ze s.1 i m t)) (λt=>.next ((s.2.1.length:Int),(i:Int),s,t,s.1.1,s.1.2.1,s.1.2.2.1,s.1.2.2.2,s.2.1,s.2.2.1,s.2.2.2.1,s.2.2.2.2.1,s.2.2.2.2.2,())) t ?_ ?_ ?_]
     ·rw[dZ];simp only[M.aE,M.bL,b4,hQ];rfl
     ·rfl
     ·intro m ao t;have ao:m<s.1.2.1.length:=by grind
      have It:=bn (n:=(m:Int)+1) (by omega) (by omega);have ao_:s.1.2.1[m]=jq s.1 (m:Int):=by simp[jq,List.getD_eq_getElem?_getD,ao]
      simp only[bI,cG ao,if_true,List.getElem_range,cq ao,M.bg,c6 ao,ao_];have AW:=H4 hs.1 (m:Int);rw[M.dj (List.range (jq s.1 (m:Int)).length) (λk t=>((i:Int),(m:Int),(s.2.1.length:Int),(i:Int),s.1.2.1,(s.1.2.1.length:Int),(m:Int),((jq s.1 (m:Int)).length:Int),(k:Int),s,t,s.1.1,s.1.2.1,s.1.2.2.1,s.1.2.2.2,s.2.1,s.2.2.1,s.2.2.2.1,s.2.2.2.2.1,s.2.2.2.2.2,())) (λk t=>.next (Is s.1 t ((i:Int),(m:Int),(k:Int)))) (λt=>.next ((i:Int),(s.2.1.length:Int),(i:Int),s.1.2.1,(s.1.2.1.length:Int),(m:Int),s,t,s.1.1,s.1.2.1,s.1.2.2.1,s.1.2.2.2,s.2.1,s.2.2.1,s.2.2.2.1,s.2.2.2.2.1,s.2.2.2.2.2,())) t ?_ ?_ ?_]
      ·rw[dZ];simp only[M.aE,M.bL,b4,It];rfl
      ·rfl
      ·intro k aj t;have aj:k<(jq s.1 (m:Int)).length:=by grind
       have mq:=bn (n:=(k:Int)+1) (by omega) (by omega);have nP:gJ s.1 (i:Int)=true:=by rw[uk];omega
       have ao':iJ s.1 (m:Int) (k:Int)=true:=by rw[AU];omega
       have au:qy s.1 (i:Int) (m:Int) (k:Int)=(ur s.1 (i:Int) (m:Int) (k:Int),0):=by simp[qy,nP,ao',yU]
       simp only[cG aj,if_true,List.getElem_range];simp only[au,M.bp hs.1,decide_eq_true_eq];by_cases h1:ur s.1 (i:Int) (m:Int) (k:Int)=1
       ·simp only[h1,if_true,and_self,M.bg,M.aE,M.bL,b4,mq,ab.gV,Is];rfl
       ·simp only[h1,if_false,M.aE,M.bL,b4,mq,ab.gV,Is];rfl
      simp
     simp
    simp
   ·simp[yU]
 grind
theorem apa(x):M.le (Nt pK.sh x_.sh AY.sh Ip.sh x) (A6.sh x):=M.bj λh=>ao8 x.1 x.2 h
theorem apb{p:Int->Bool}{l:z1'}(h:jQ p l=true):∀ x∈l,p x=true:=by
 intro x hx;obtain⟨i,G,rfl⟩:=List.mem_iff_getElem.1 hx;unfold jQ at h;simp_all
theorem apc{p:Int->Bool}{l:z1'}(h:jQ p l=true):l.Pairwise (·<·):=by
 unfold jQ at h;rw[List.all_eq_true]at h;have step:∀ i,i+1<l.length->l.getD i 0<l.getD (i+1) 0:=λi G=>by
  grind
 have key:∀ j i,i<j->j<l.length->l.getD i 0<l.getD j 0:=by
  intro j;induction j with
  | zero=>omega
  | succ j aJ=>
   grind
 rw[List.pairwise_iff_getElem];grind
theorem Pd{s:bt}(hv:lX s){p:dh}(hp:p∈s.2.2.1):nW s.1 p.2.2.2.1=true/\p.2.2.2.2.length<=4/\∀ k∈p.2.2.2.2,iJ s.1 p.2.2.2.1 k=true:=by
 have h:=hv.ao5 p hp;simp only[pJ,Bool.and_eq_true]at h;obtain⟨⟨_,ao⟩,aa⟩:=h;have eJ:∀ k∈p.2.2.2.2,iJ s.1 p.2.2.2.1 k=true:=λk aj=>by
  have:=apb aa k aj;rw[AU];simp only[Ej,Bool.and_eq_true,decide_eq_true_eq]at this;exact⟨H3.1 ao,this⟩
 refine⟨ao,?_,eJ⟩;have apd:=apc aa;have tq:p.2.2.2.2.Nodup:=apd.imp λh e=>by omega
 cases ad:p.2.2.2.2 with
 | nil=>simp
 | cons k l=>
  rw[<-ad];have aT:=anH hv.sE.2 (eJ k (by grind));have:=O2 (jq s.1 p.2.2.2.1).length p.2.2.2.2 tq λk aj=>by
   have:=AU.1 (eJ k aj);omega
  omega
abbrev ry:Type:=Int×Int×Int
abbrev ape:dt:=([],(0,0),0,0,0)
abbrev apf:dh:=(0,0,0,0,[])
abbrev yg:Sto:=((([],[],0,[]),[],[],[],[],0),[],[])
def mu(s:bt)(i:Int):dt:=s.2.2.2.1.getD i.toNat ape
def m'(s:bt)(i:Int):dh:=s.2.2.1.getD i.toNat apf
def v_(s:bt)(x:dt)(p:dh):Option Int:=if sL x p=0 then none else if (if sL x p=2 then x.2.2.2.1 - s.2.2.2.2.2 else x.2.2.2.1)<0 then none else some (if sL x p=2 then x.2.2.2.1 - s.2.2.2.2.2 else x.2.2.2.1)
def oO(s:bt)(cc:z1')(i:Nat):Option (List ry):=if cc.getD i 0<0 then some [] else (v_ s (mu s (i:Int)) (m' s (cc.getD i 0))).map λd=>(m' s (cc.getD i 0)).2.2.2.2.map λk=>((m' s (cc.getD i 0)).2.2.2.1,k,d)
def lp(s:bt)(cc:z1'):List ry×Bool:=if ((List.range cc.length).all λi=>(oO s cc i).isSome)=true then ((List.range cc.length).flatMap λi=>(oO s cc i).getD [],true) else ([],false)
def nX(s:bt)(cc:z1'):Prop:=cc.length<=s.2.2.2.1.length/\∀ p∈cc,p<(s.2.2.1.length:Int)
def nY(o:Option Sto):bt:=(o.getD yg).1
def v'(o:Option Sto)(s:bt):Prop:=o=some (c7 s)/\lX s
theorem Pe{s:bt}{i:Nat}(h:i<s.2.2.2.1.length):mu s (i:Int)∈s.2.2.2.1:=by
 simp[mu,List.getD_eq_getElem?_getD,h]
theorem Zh{s:bt}{i:Int}(h0:0<=i)(h:i<(s.2.2.1.length:Int)):m' s i∈s.2.2.1:=xO h0 h
theorem Zi{s:bt}(hv:lX s){x:dt}(hx:x∈s.2.2.2.1):(0<=x.2.2.2.1/\x.2.2.2.1<=99)/\(0<=x.2.2.2.2/\x.2.2.2.2<=100000):=by
 have:=hv.Zb x hx;simp only[oM,jP,bM,Bool.and_eq_true,decide_eq_true_eq]at this;omega
theorem Zj{s:bt}(hv:lX s){cc:z1'}(hp:nX s cc){i:Nat}(G:i<cc.length){l:List ry}(h:oO s cc i=some l):l.length<=4:=by
 unfold oO at h;split at h
 ·grind
 ·rename_i Ik;rw[Option.map_eq_some_iff]at h;obtain⟨d,_,rfl⟩:=h;rw[List.length_map];have ao:cc.getD i 0∈cc:=by grind
  exact (Pd hv (Zh (by omega) (hp.2 _ ao))).2.1
def A7{aq β aG:Type}(f:aq->Option (List β))(r:aG)(x:aq)(b:List β):ab (List β) aG:=if (f x).isSome=true then .next (b++(f x).getD []) else .done r
theorem Es{aq β aG:Type}{f:aq->Option (List β)}{r:aG}{x:aq}{b y:List β}(h:f x=some y):A7 f r x b=.next (b++y):=by simp[A7,h]
theorem Iu{aq β aG:Type}{f:aq->Option (List β)}{r:aG}{x:aq}{b:List β}(h:f x=none):A7 f r x b=.done r:=by simp[A7,h]
theorem Zk{aq β aG:Type}{f:aq->Option (List β)}{r:aG}{fin:List β->aG}:∀ (l:List aq) (b:List β),eI (A7 f r) fin l b=if (l.all λx=>(f x).isSome)=true then fin (b++l.flatMap λx=>(f x).getD []) else r
 | [],b=>by simp[eI]
 | x::l,b=>by
  simp only[eI];cases h:f x with
  | none=>simp[Iu h,h]
  | some y=>
   have:=Zk (f:=f) (r:=r) (fin:=fin) l (b++y);simp only[Es h,List.all_cons,h,Option.isSome_some,Bool.true_and,List.flatMap_cons,Option.getD_some];grind
abbrev Iv:af:=.st (.ay tI (.ay tI tI))
abbrev Iw:aL:=⟨.ay v8 fI,.ay (.slice Iv) cU,λx=>∃ s,v' x.1 s/\nX s x.2,λx=>lp (nY x.1) x.2⟩
theorem apg(s:bt)(hv:lX s)(cc:z1')(hp:nX s cc):Nu vY.sh (some (c7 s),cc)=M.pure (lp s cc):=by
 unfold Nu;have A8:=hv.ux;have axQ:=hp.1;simp only[Option.isSome_some,Option.getD_some,M.bg];rw[M.gj (List.range cc.length) (λi acc=>(some (c7 s),cc,(cc.length:Int),(i:Int),acc,())) (A7 (oO s cc) (.done ([],false))) (λacc=>.next (acc,())) (λi acc=>acc.length<=4*i) [] ?_ ?_ ?_ ?_]
 ·rw[Zk];unfold lp;by_cases h:((List.range cc.length).all λi=>(oO s cc i).isSome)=true
  ·simp[h]
  ·simp[h]
 ·rfl
 ·simp
 ·intro i G acc OZ;have G:i<cc.length:=by grind
  have sM:i<s.2.2.2.1.length:=by omega
  have hQ:=bn (n:=(i:Int)+1) (by omega) (by omega);have Ix:=Pe sM;rw[List.getElem_range];obtain⟨aK,aph⟩:∃ aK,cc.getD i 0=aK:=⟨_,rfl⟩
  have api:aK∈cc:=by grind
  refine⟨?_,λa1 ad=>?_⟩
  ·simp only[bI,cG G,if_true,Int.toNat_natCast,aph,cq G,M.bg,Option.isSome_some,Option.getD_some];by_cases Ik:aK<0
   ·have mH:oO s cc i=some []:=by unfold oO;grind
    rw[Es mH];simp_all
   ·have hI:aK<(s.2.2.1.length:Int):=hp.2 aK api;have apj:=Zh (s:=s) (by omega) hI;have gr:0<=aK/\aK<(s.2.2.1.length:Int):=⟨by omega,hI⟩
    have fF:(c7 s).1=s:=rfl;have A9:List.getD s.2.2.2.1 i ([],(0,0),0,0,0)=mu s (i:Int):=rfl;have Pf:List.getD s.2.2.1 aK.toNat (0,0,0,0,[])=m' s aK:=rfl;simp only[Ik,decide_false,Bool.false_eq_true,if_false,fF,cq sM,M.bp gr,M.bg,aL.sh,M.dq,A9,Pf];have mH:oO s cc i=(v_ s (mu s (i:Int)) (m' s aK)).map λd=>(m' s aK).2.2.2.2.map λk=>((m' s aK).2.2.2.1,k,d):=by unfold oO;grind
    rw[M.bp (show vY.pre (mu s (i:Int),m' s aK) from hv.gQ.2.2.2.2.2.2 _ Ix)];obtain⟨axR,_⟩:=Zi hv Ix;have lJ:=hv.ao6;obtain⟨ao9,iw,CR⟩:=Pd hv apj;have Pg:=bn (n:=(mu s (i:Int)).2.2.2.1 - s.2.2.2.2.2) (by omega) (by omega);generalize mu s (i:Int)=x at *
    generalize m' s aK=p at *
    by_cases h0:sL x p=0
    ·have aw:v_ s x p=none:=by unfold v_;grind
     rw[aw]at mH;rw[Iu mH];simp only[h0,decide_true,if_true,M.aE,M.pn,ab.gV]
    ·by_cases h2:sL x p=2;all_goals simp only[h0,h2,decide_true,decide_false,Bool.false_eq_true,if_false,if_true,M.aE,M.bL,Pg,Int.reduceEq]
     ·have aw:v_ s x p=(if x.2.2.2.1 - s.2.2.2.2.2<0 then none else some (x.2.2.2.1 - s.2.2.2.2.2)):=by unfold v_;grind
      generalize x.2.2.2.1 - s.2.2.2.2.2=d at *
      by_cases q7:d<0
      ·rw[if_pos q7]at aw;rw[aw]at mH;rw[Iu mH];simp_all
      ·rw[if_neg q7]at aw;rw[aw]at mH;rw[Es mH];simp only[q7,decide_false,Bool.false_eq_true,if_false];rw[M.gj p.2.2.2.2 (λk acc=>(some (c7 s),d,cc,(cc.length:Int),(i:Int),p.2.2.2.2,(p.2.2.2.2.length:Int),(k:Int),acc,p,())) (λk acc=>.next (acc++[(p.2.2.2.1,k,d)])) (λacc=>.next (some (c7 s),cc,(cc.length:Int),(i:Int),acc,())) (λk yh=>yh.length<=4*i+k) acc ?_ ?_ ?_ ?_]
       ·rw[dZ,xN];simp_all
       ·rfl
       ·omega
       ·intro k aj yh apk;have mq:=bn (n:=(k:Int)+1) (by omega) (by omega);have lF:b2 (yh.length+(0+1)):=by unfold b2;omega
        refine⟨?_,λa1 ad=>?_⟩
        ·simp_all
        grind
       simp
     ·have aw:v_ s x p=(if x.2.2.2.1<0 then none else some x.2.2.2.1):=by unfold v_;grind
      generalize x.2.2.2.1=d at *
      by_cases q7:d<0
      ·omega
      ·rw[if_neg q7]at aw;rw[aw]at mH;rw[Es mH];simp only[q7,decide_false,Bool.false_eq_true,if_false];rw[M.gj p.2.2.2.2 (λk acc=>(some (c7 s),d,cc,(cc.length:Int),(i:Int),p.2.2.2.2,(p.2.2.2.2.length:Int),(k:Int),acc,p,())) (λk acc=>.next (acc++[(p.2.2.2.1,k,d)])) (λacc=>.next (some (c7 s),cc,(cc.length:Int),(i:Int),acc,())) (λk yh=>yh.length<=4*i+k) acc ?_ ?_ ?_ ?_]
       ·rw[dZ,xN];simp_all
       ·rfl
       ·omega
       ·intro k aj yh apk;have mq:=bn (n:=(k:Int)+1) (by omega) (by omega);have lF:b2 (yh.length+(0+1)):=by unfold b2;omega
        refine⟨?_,λa1 ad=>?_⟩
        ·simp_all
        grind
       simp
  ·cases mH:oO s cc i with
   | none=>rw[Iu mH]at ad;cases ad
   | some y=>
    rw[Es mH]at ad;cases ad;have:=Zj hv hp G mH;grind
 simp
theorem apl(x):M.le (Nu vY.sh x) (Iw.sh x):=M.bj λh=>by
 obtain⟨o,cc⟩:=x;obtain⟨s,⟨au,hv⟩,hp⟩:=h;change o=_ at au;subst au;exact apg s hv cc hp
def rz(s:bt)(cc:z1'):Int:=((List.range cc.length).map λ(i:Nat)=>if cc.getD i 0=-1 then 0 else (mu s (i:Int)).2.2.2.2).foldl (·+·) 0
abbrev sN:aL:=⟨.ay v8 fI,tI,λx=>∃ s,v' x.1 s/\x.2.length<=s.2.2.2.1.length,λx=>rz (nY x.1) x.2⟩
theorem apm(s:bt)(hv:lX s)(cc:z1')(hp:cc.length<=s.2.2.2.1.length):NA (some (c7 s),cc)=M.pure (rz s cc):=by
 unfold NA;have A8:=hv.ux;rw[M.gj (List.range cc.length) (λi (n:Int)=>(some (c7 s),n,cc,(cc.length:Int),(i:Int),())) (λ(i:Nat) n=>.next (n+if cc.getD i 0=-1 then 0 else (mu s (i:Int)).2.2.2.2)) (λn=>.next (n,())) (λi n=>0<=n/\n<=100000*i) 0 ?_ ?_ ?_ ?_]
 ·rw[dZ];unfold rz;rw[List.foldl_map,M.aE,M.bL]
 ·rfl
 ·simp
 ·intro i G n aB;have G:i<cc.length:=by grind
  have sM:i<s.2.2.2.1.length:=by omega
  have hQ:=bn (n:=(i:Int)+1) (by omega) (by omega);obtain⟨_,om⟩:=Zi hv (Pe sM);have A9:List.getD s.2.2.2.1 i ([],(0,0),0,0,0)=mu s (i:Int):=rfl;have A2:=bn (n:=n+(mu s (i:Int)).2.2.2.2) (by omega) (by omega);have fF:(c7 s).1=s:=rfl;rw[List.getElem_range];refine⟨?_,λa1 ad=>?_⟩
  ·simp only[bI,cG G,if_true,Int.toNat_natCast,cq G,cq sM,M.bg,Option.isSome_some,Option.getD_some,b4,fF,A9];by_cases h1:cc.getD i 0=-1
   ·simp only[h1,ne_eq,not_true,decide_false,Bool.false_eq_true,if_false,if_true,M.aE,M.bL,hQ,Int.add_zero,ab.gV];rfl
   ·simp only[h1,ne_eq,not_false_iff,decide_true,if_false,if_true,cq sM,M.bg,M.aE,M.bL,hQ,A2,ab.gV];rfl
  grind
 simp
theorem apn(x):M.le (NA x) (sN.sh x):=M.bj λh=>by
 obtain⟨o,cc⟩:=x;obtain⟨s,⟨au,hv⟩,hp⟩:=h;change o=_ at au;subst au;exact apm s hv cc hp
theorem Et{l:z1'}{j i:Nat}{s:Int}(aD:j<l.length):(l.set j s).getD i 0=if i=j then s else l.getD i 0:=by
 grind
abbrev Zl(fit:List (z1'))(j:Int):z1':=fit.getD j.toNat []
def apo(qz work:z1')(s:Int):Prop:=qz.getD s.toNat 0<=((O4 work s).length:Int)
def apq(fit:List (z1'))(qz work:z1')(C:Int->Prop):Prop:=∀ j,C j->∀ s∈Zl fit j,apo qz work s/\∀ h∈O4 work s,C h
def apr(n:Nat)(qz work:z1'):Prop:=∀ s,0<=s->s<(n:Int)->((O4 work s).length:Int)<=qz.getD s.toNat 0
structure axS(n:Nat)(fit:List (z1'))(qz:z1')(k:Nat)(work:z1'):Prop where
 len:work.length=fit.length
 val:apr n qz work
 mem:∀ i:Nat,i<fit.length->work.getD i 0=-1\/work.getD i 0∈Zl fit (i:Int)
 b5:∀ i:Nat,k<=i->i<fit.length->work.getD i 0=-1
 Ph:∃ C,apq fit qz work C/\(∀ c,C c->0<=c/\c<(k:Int))/\∀ i:Nat,i<k->work.getD i 0=-1->C (i:Int)
theorem aps{J i:Nat}(h:i<J):(List.replicate J (-1:Int)).getD i 0=-1:=by
 grind
theorem Zm(a b:Int):(if a=b then 1 else 0)=(if b=a then 1 else (0:Nat)):=by
 grind
def gz(g:z1')(j:Int):Nat:=g.countP λx=>decide (x=j)
theorem Pj:∀ {g:z1'} {i:Nat} {x:Int} (j:Int),i<g.length->gz (g.set i x) j+(if g.getD i 0=j then 1 else 0)=gz g j+(if x=j then 1 else 0)
 | [],i,x,j,h=>by grind
 | y::g,0,x,j,h=>by
  unfold gz;grind
 | y::g,i+1,x,j,h=>by
  have:=Pj (g:=g) (i:=i) (x:=x) j (by grind);unfold gz at *
  grind
theorem apt{g:z1'}{i:Nat}{j:Int}(G:i<g.length)(h:g.getD i 0=j):0<gz g j:=by
 unfold gz;grind
def nZ(gd:Nat->Int->Bool)(rec:Int->kU->Bool×kU)(own:Int)(i:Nat)(st:kU):ab kU (Bool×kU):=
 if (decide (cz st.2 (i:Int) > 0)||!gd i own)=true then .next st
 else if decide (st.1.getD i 0=-1)=true then .done (true,(st.1.set i own,eV st.2 (i:Int) (cz st.2 (i:Int)+1)))
 else if (rec (st.1.getD i 0) (st.1,eV st.2 (i:Int) (cz st.2 (i:Int)+1))).1=true then .done (true,((rec (st.1.getD i 0) (st.1,eV st.2 (i:Int) (cz st.2 (i:Int)+1))).2.1.set i own,(rec (st.1.getD i 0) (st.1,eV st.2 (i:Int) (cz st.2 (i:Int)+1))).2.2))
 else .next (rec (st.1.getD i 0) (st.1,eV st.2 (i:Int) (cz st.2 (i:Int)+1))).2
def jR(gd:Nat->Int->Bool)(m:Nat):Nat->Int->kU->Bool×kU
 | 0=>λ_ st=>(false,st)
 | f+1=>λown st=>eI (nZ gd (jR gd m f) own) (λst=>(false,st)) (List.range m) st
def Pk(m J:Nat)(g:z1'):Prop:=∀ i,i<m->g.getD i 0=-1\/(0<=g.getD i 0/\g.getD i 0<(J:Int))
structure yi(m J f:Nat)(st:kU):Prop where
 len:st.1.length=m
 lY:Pk m J st.1
 seen:∀ k,0<=cz st.2 k/\cz st.2 k<=1
 bZ:rv m st.2<f
structure Pl(m J:Nat)(st r:kU):Prop where
 len:r.1.length=m
 lY:Pk m J r.1
 seen:∀ k,cz st.2 k<=cz r.2 k/\cz r.2 k<=1
def Zn(gd:Nat->Int->Bool)(m:Nat)(g:z1')(C:Int->Prop):Prop:=∀ j,C j->∀ i,i<m->gd i j=true->g.getD i 0≠-1/\C (g.getD i 0)
def Zo(gd:Nat->Int->Bool)(m:Nat)(g:z1')(s s':z4'):Prop:=∀ i,i<m->cz s (i:Int)=0->1<=cz s' (i:Int)->g.getD i 0≠-1/\∀ k,k<m->gd k (g.getD i 0)=true->1<=cz s' (k:Int)
structure Pm(gd:Nat->Int->Bool)(m:Nat)(own:Int)(st:kU)(r:Bool×kU):Prop where
 no:r.1=false->r.2.1=st.1/\(∀ i,i<m->gd i own=true->1<=cz r.2.2 (i:Int))/\Zo gd m st.1 st.2 r.2.2
 Zp:r.1=true->(∀ i,i<m->r.2.1.getD i 0=st.1.getD i 0\/(cz st.2 (i:Int)=0/\gd i (r.2.1.getD i 0)=true))/\∀ j,j≠-1->gz r.2.1 j=gz st.1 j+(if j=own then 1 else 0)
 cl:∀ C,Zn gd m st.1 C->(C own->r.1=false)/\(r.1=true->∀ i,i<m->r.2.1.getD i 0≠st.1.getD i 0->∀ c,C c->gd i c=false)
def Zq(gd:Nat->Int->Bool)(m J f:Nat)(rec:Int->kU->Bool×kU):Prop:=∀ own st,0<=own->own<(J:Int)->yi m J f st->Pl m J st (rec own st).2/\Pm gd m own st (rec own st)
theorem apu{gd:Nat->Int->Bool}{m J f:Nat}{rec:Int->kU->Bool×kU}(D4:Zq gd m J f rec){own:Int}(Zr:0<=own)(Zs:own<(J:Int)){st:kU}(h0:yi m J (f+1) st) :
  Pl m J st (eI (nZ gd rec own) (λst=>(false,st)) (List.range m) st).2/\Pm gd m own st (eI (nZ gd rec own) (λst=>(false,st)) (List.range m) st):=by
 refine aoo (λk b=>b.1=st.1/\(∀ q,cz st.2 q<=cz b.2 q/\cz b.2 q<=1)/\(∀ i,i<k->i<m->gd i own=true->1<=cz b.2 (i:Int))/\Zo gd m st.1 st.2 b.2)
  (λr:Bool×kU=>Pl m J st r.2/\Pm gd m own st r) (List.range m) st ⟨rfl,λq=>⟨Int.le_refl _,(h0.seen q).2⟩,λi G=>by omega,λi _ h1 h2=>by omega⟩ (λi G b ad=>?_) λb ad=>?_
 ·obtain⟨hw,mW,Iy,k2⟩:=ad;have G:i<m:=by grind
  rw[List.getElem_range];have u':∀ q,0<=cz b.2 q:=λq=>Int.le_trans (h0.seen q).1 (mW q).1;unfold nZ;by_cases hc:(decide (cz b.2 (i:Int) > 0)||!gd i own)=true
  ·grind
  ·rw[if_neg hc];simp only[Bool.or_eq_true,not_or,decide_eq_true_eq,Bool.not_eq_true',Bool.not_eq_false]at hc;obtain⟨ba,aA⟩:=hc;have ba:cz b.2 (i:Int)=0:=by grind
   have KF:cz st.2 (i:Int)=0:=by have:=(mW i).1;have:=(h0.seen i).1;omega
   have p3:i<st.1.length:=by rw[h0.len];exact G
   have j_:∀ q,cz b.2 q<=cz (eV b.2 (i:Int) (cz b.2 (i:Int)+1)) q/\cz (eV b.2 (i:Int) (cz b.2 (i:Int)+1)) q<=1:=λq=>by
    have:=mW q;rw[A3];omega
   have axT:cz (eV b.2 (i:Int) (cz b.2 (i:Int)+1)) (i:Int)=1:=by rw[A3,if_pos rfl,ba];rfl
   by_cases au:st.1.getD i 0=-1
   ·rw[hw,if_pos (by grind)];refine⟨⟨by show (st.1.set i own).length=m;rw[List.length_set];exact h0.len,λk aj=>?_,λq=>⟨Int.le_trans (mW q).1 (j_ q).1,(j_ q).2⟩⟩,λh=>(by cases h),λ_=>⟨λk aj=>?_,λj aD=>?_⟩,λC jd=>⟨λPn=>?_,λ_ k aj dY c hc=>?_⟩⟩
    ·show (st.1.set i own).getD k 0=-1\/(0<=(st.1.set i own).getD k 0/\(st.1.set i own).getD k 0<(J:Int))
     rw[Et p3];split
     ·omega
     ·exact h0.lY k aj
    ·grind
    ·have:=Pj (x:=own) j p3;grind
    ·exact absurd au (jd own Pn i G aA).1
    ·change (st.1.set i own).getD k 0≠_ at dY;rw[Et p3]at dY;split at dY
     ·rename_i e;subst e;cases Po:gd k c with
      | false=>rfl
      | true=>exact absurd au (jd c hc k G Po).1
     omega
   ·rw[hw,if_neg (by grind)];have iD:=(h0.lY i G).resolve_left au;have wa:yi m J f (st.1,eV b.2 (i:Int) (cz b.2 (i:Int)+1)):=by
     refine⟨h0.len,h0.lY,λq=>⟨Int.le_trans (u' q) (j_ q).1,(j_ q).2⟩,?_⟩;have h1:=Y6 (n:=m) (m:=b.2) (s:=(i:Int)) (v:=cz b.2 (i:Int)+1) (by omega) (by omega) ba (by omega);have h2:=Y7 (n:=m) (a:=st.2) (b:=b.2) λk=>⟨(h0.seen k).1,(mW k).1⟩
     have h3:=h0.bZ;grind
    obtain⟨hp,aa⟩:=D4 (st.1.getD i 0) _ iD.1 iD.2 wa;revert hp aa;generalize rec (st.1.getD i 0) (st.1,eV b.2 (i:Int) (cz b.2 (i:Int)+1))=r;intro hp aa;have xw:∀ q,cz (eV b.2 (i:Int) (cz b.2 (i:Int)+1)) q<=cz r.2.2 q:=λq=>(hp.seen q).1;by_cases bx:r.1=true
    ·rw[if_pos bx];obtain⟨je,A_⟩:=aa.Zp bx;have tx:i<r.2.1.length:=by rw[hp.len];exact G
     have Cg:r.2.1.getD i 0=st.1.getD i 0:=by
      grind
     refine⟨⟨by show (r.2.1.set i own).length=m;rw[List.length_set];exact hp.len,λk aj=>?_,λq=>⟨Int.le_trans (mW q).1 (Int.le_trans (j_ q).1 (xw q)),(hp.seen q).2⟩⟩,λh=>(by cases h),λ_=>⟨λk aj=>?_,λj aD=>?_⟩,λC jd=>⟨λPn=>?_,λ_ k aj dY c hc=>?_⟩⟩
     ·show (r.2.1.set i own).getD k 0=-1\/(0<=(r.2.1.set i own).getD k 0/\(r.2.1.set i own).getD k 0<(J:Int))
      rw[Et tx];split
      ·omega
      ·exact hp.lY k aj
     ·show (r.2.1.set i own).getD k 0=_\/(_/\gd k ((r.2.1.set i own).getD k 0)=true)
      rw[Et tx];split
      ·grind
      ·rcases je k aj with e | ⟨e1,e2⟩
       ·grind
       ·right;refine⟨?_,e2⟩;have a:=(j_ (k:Int)).1;have d:=mW (k:Int);have c:=(h0.seen (k:Int)).1;grind
     ·have a:=Pj (x:=own) j tx;have d:=A_ j aD;change gz r.2.1 j=gz st.1 j+_ at d;rw[Cg]at a;show gz (r.2.1.set i own) j=_;rw[Zm j own];rw[Zm j (st.1.getD i 0)]at d;omega
     ·have:=(aa.cl C jd).1 (jd own Pn i G aA).2;grind
     ·change (r.2.1.set i own).getD k 0≠_ at dY;rw[Et tx]at dY;split at dY
      ·rename_i e;subst e;cases Po:gd k c with
       | false=>rfl
       | true=>
        have:=(aa.cl C jd).1 (jd c hc k G Po).2;grind
      ·exact (aa.cl C jd).2 bx k aj dY c hc
    ·rw[if_neg bx];have CJ:r.1=false:=by grind
     obtain⟨CL,axU,apv⟩:=aa.no CJ;refine⟨CL,λq=>⟨Int.le_trans (mW q).1 (Int.le_trans (j_ q).1 (xw q)),(hp.seen q).2⟩,λk aj Pp Gt=>?_,λk Pp e0 e1=>?_⟩
     ·grind
     ·by_cases e:k=i
      ·grind
      ·by_cases e2:1<=cz b.2 (k:Int)
       ·obtain⟨a,c⟩:=k2 k Pp e0 e2;grind
       ·refine apv k Pp ?_ e1;show cz (eV b.2 (i:Int) (cz b.2 (i:Int)+1)) (k:Int)=0;rw[A3,if_neg (by omega)];grind
 ·obtain⟨hw,mW,Iy,k2⟩:=ad;rw[List.length_range]at Iy;refine⟨⟨by rw[hw];exact h0.len,by rw[hw];exact h0.lY,mW⟩,λ_=>⟨hw,λi G aA=>Iy i G G aA,k2⟩,λh=>(by cases h),λC jd=>⟨λ_=>rfl,λh=>(by cases h)⟩⟩
theorem Pq{gd:Nat->Int->Bool}{m J:Nat}:∀ f,Zq gd m J f (jR gd m f)
 | 0=>λown st _ _ h=>absurd h.bZ (by omega)
 | f+1=>λown st h0 h1 h=>apu (Pq f) h0 h1 h
def yj(gd:Nat->Int->Bool)(m F:Nat)(st:z1'×Int)(j:Nat):z1'×Int:=((jR gd m F (j:Int) (st.1,[])).2.1,if (jR gd m F (j:Int) (st.1,[])).1=true then st.2 else st.2+1)
def Pr(gd:Nat->Int->Bool)(m J F:Nat):z1'×Int:=(List.range J).foldl (yj gd m F) (List.replicate m (-1),0)
structure Eu(gd:Nat->Int->Bool)(m J k:Nat)(st:z1'×Int):Prop where
 len:st.1.length=m
 lY:∀ i,i<m->st.1.getD i 0=-1\/(0<=st.1.getD i 0/\st.1.getD i 0<(k:Int)/\gd i (st.1.getD i 0)=true)
 one:∀ j,0<=j->gz st.1 j<=1
 num:st.2=(((List.range k).countP λ(j:Nat)=>decide (gz st.1 (j:Int)=0):Nat):Int)
 Ph:∃ C,Zn gd m st.1 C/\(∀ c,C c->0<=c/\c<(k:Int))/\∀ j:Nat,j<k->gz st.1 (j:Int)=0->C (j:Int)
theorem Zt{gd:Nat->Int->Bool}{m J F k:Nat}(bd:m<F)(aj:k<J){st:z1'×Int}(h:Eu gd m J k st):Eu gd m J (k+1) (yj gd m F st k):=by
 obtain⟨g,n⟩:=st;have hu:rv m []<=m:=by
  unfold rv;exact Nat.le_trans List.countP_le_length (by simp)
 have wa:yi m J F (g,[]):=⟨h.len,λi G=>by have:=h.lY i G;grind,λq=>⟨Int.le_refl _,by show (0:Int)<=1;decide⟩,by grind⟩
 obtain⟨hp,aa⟩:=Pq F (k:Int) (g,[]) (by omega) (by omega) wa;unfold yj;revert hp aa;generalize jR gd m F (k:Int) (g,[])=r;intro hp aa;have lI:gz g (k:Int)=0:=by
  unfold gz;rw[List.countP_eq_zero];intro x hx;obtain⟨i,G,rfl⟩:=List.mem_iff_getElem.1 hx;have:=h.lY i (by rw[<-h.len];exact G);grind
 obtain⟨C,jd,axV,axW⟩:=h.Ph;by_cases ad:r.1=true
 ·obtain⟨je,A_⟩:=aa.Zp ad;have axX:=(aa.cl C jd).2 ad;refine⟨hp.len,λi G=>?_,λj aD=>?_,?_,C,λc tH i G Ev=>?_,λc tH=>?_,λj aD hu=>?_⟩
  ·show r.2.1.getD i 0=-1\/_;rcases je i G with e | ⟨e1,e2⟩
   ·rw[e];rcases h.lY i G with a | a
    ·exact .inl a
    ·exact .inr ⟨a.1,by have:=a.2.1;show g.getD i 0<_;change g.getD i 0<_ at this;omega,a.2.2⟩
   ·by_cases j_:r.2.1.getD i 0=-1
    ·omega
    ·refine .inr ⟨?_,?_,e2⟩
     ·have:=(hp.lY i G).resolve_left j_;grind
     ·have h1:=A_ _ j_;have h2:0<gz r.2.1 (r.2.1.getD i 0):=apt (by rw[hp.len];exact G) rfl;by_cases e:r.2.1.getD i 0=(k:Int)
      ·grind
      ·rw[if_neg e]at h1;have h3:0<gz g (r.2.1.getD i 0):=by grind
       unfold gz at h3;rw[List.countP_pos_iff]at h3;obtain⟨x,hx,eS⟩:=h3;obtain⟨q,bf,rfl⟩:=List.mem_iff_getElem.1 hx;have:=h.lY q (by rw[<-h.len];exact bf);grind
  ·have h1:=A_ j (by omega);have h2:=h.one j aD;change gz r.2.1 j=gz g j+_ at h1;change gz g j<=1 at h2;show gz r.2.1 j<=1;by_cases e:j=(k:Int)
   ·subst e;rw[if_pos rfl]at h1;omega
   ·rw[if_neg e]at h1;omega
  ·rw[if_pos ad];have h1:=h.num;change n=_ at h1;show n=_;rw[h1,List.range_succ,List.countP_append];have h2:∀ j:Nat,j<k->gz r.2.1 (j:Int)=gz g (j:Int):=λj aD=>by
    have:=A_ (j:Int) (by omega);rw[if_neg (by omega)]at this;omega
   have h3:gz r.2.1 (k:Int)=1:=by
    grind
   have aT:(List.range k).countP (λ(j:Nat)=>decide (gz r.2.1 (j:Int)=0))=(List.range k).countP (λ(j:Nat)=>decide (gz g (j:Int)=0)):=List.countP_congr λj aD=>by grind
   simp_all
  ·show r.2.1.getD i 0≠-1/\C (r.2.1.getD i 0);by_cases e:r.2.1.getD i 0=g.getD i 0
   ·rw[e];exact jd c tH i G Ev
   grind
  ·grind
  ·change gz r.2.1 (j:Int)=0 at hu;have h1:=A_ (j:Int) (by omega);change gz r.2.1 _=gz g _+_ at h1;by_cases e:j=k
   ·grind
   ·rw[if_neg (by omega)]at h1;grind
 ·have CJ:r.1=false:=by grind
  obtain⟨hw,Iy,k2⟩:=aa.no CJ;change r.2.1=g at hw;simp only[hw];refine⟨h.len,λi G=>?_,h.one,?_,λc=>C c\/c=(k:Int)\/∃ i,i<m/\1<=cz r.2.2 (i:Int)/\c=g.getD i 0,λc tH i G Ev=>?_,λc tH=>?_,λj aD hu=>?_⟩
  ·rcases h.lY i G with a | a
   ·exact .inl a
   ·exact .inr ⟨a.1,by have:=a.2.1;show g.getD i 0<_;change g.getD i 0<_ at this;omega,a.2.2⟩
  ·rw[if_neg ad];have h1:=h.num;change n=_ at h1;show n+1=_;rw[h1,List.range_succ,List.countP_append];grind
  ·have aB:1<=cz r.2.2 (i:Int)->g.getD i 0≠-1/\(C (g.getD i 0)\/g.getD i 0=(k:Int)\/∃ q,q<m/\1<=cz r.2.2 (q:Int)/\g.getD i 0=g.getD q 0):=λhs=>⟨(k2 i G rfl hs).1,.inr (.inr ⟨i,G,hs,rfl⟩)⟩
   rcases tH with e | e | ⟨q,bf,hs,e⟩
   ·exact⟨(jd c e i G Ev).1,.inl (jd c e i G Ev).2⟩
   ·grind
   ·subst e;exact aB ((k2 q bf rfl hs).2 i G Ev)
  ·rcases tH with e | e | ⟨q,bf,hs,e⟩
   ·grind
   ·omega
   ·have:=(h.lY q bf).resolve_left (k2 q bf rfl hs).1;grind
  grind
theorem apw(gd:Nat->Int->Bool)(m J F:Nat)(bd:m<F):Eu gd m J J (Pr gd m J F):=by
 unfold Pr;have key:∀ k,k<=J->Eu gd m J k ((List.range k).foldl (yj gd m F) (List.replicate m (-1),0)):=by
  intro k;induction k with
  | zero=>
   intro _;refine⟨by simp,λi G=>.inl (aps G),λj aD=>?_,by simp,λ_=>False,λ_ h=>h.elim,λ_ h=>h.elim,λj aD=>by omega⟩;show gz (List.replicate m (-1)) j<=1;have:gz (List.replicate m (-1)) j=0:=by
    unfold gz;grind
   omega
  | succ k aJ=>
   intro aj;rw[List.range_succ,List.foldl_append];exact Zt bd (by omega) (aJ (by omega))
 grind
def rA(t:Sto)(sp:Int×Int)(j:ry):Bool:=decide (sp.2<=j.2.2)&&decide ((oL t.2.2 (sp.1,j.1,j.2.1)).getD 0 > 0)
abbrev fcGood:aL:=⟨.ay v8 (.ay Im Iv),cU,λx=>∃ t,x.1=some t,λx=>rA (x.1.getD yg) x.2.1 x.2.2⟩
theorem apx(x):M.le (VJ x) (fcGood.sh x):=M.bj λh=>by
 obtain⟨o,sp,j⟩:=x;obtain⟨t,au⟩:=h;change o=_ at au;subst au;unfold VJ;simp only[Option.isSome_some,Option.getD_some,and_true,true_and,and_self,imp_self,implies_true,M.bg];rfl
def Ew(t:Sto)(l:List ry):Bool:=l.all λj=>(List.range t.1.2.1.length).any λ(i:Nat)=>rA t ((i:Int),0) j
abbrev Ps:aL:=⟨.ay v8 (.slice Iv),cU,λx=>∃ t,x.1=some t/\t.1.2.1.length<2 ^ 63/\x.2.length<2 ^ 63,λx=>Ew (x.1.getD yg) x.2⟩
theorem apy(t:Sto)(l:List ry)(h1:t.1.2.1.length<2 ^ 63)(h2:l.length<2 ^ 63):Nv fcGood.sh (some t,l)=M.pure (Ew t l):=by
 unfold Nv;rw[M.dj l (λi (_:Unit)=>(some t,l,(l.length:Int),(i:Int),())) (λj b=>if (!(List.range t.1.2.1.length).any λ(i:Nat)=>rA t ((i:Int),0) j)=true then .done (.done false) else .next b) (λ_=>.next ()) () ?_ ?_ ?_]
 ·rw[kL (q:=λj=>(List.range t.1.2.1.length).any λ(i:Nat)=>rA t ((i:Int),0) j) _ _ (λ_=>rfl)];unfold Ew;cases l.all λj=>(List.range t.1.2.1.length).any λ(i:Nat)=>rA t ((i:Int),0) j<;>simp
 ·rfl
 ·intro i G b;have hw:=bn (n:=(i:Int)+1) (by omega) (by omega);simp only[bI,cG G,if_true,c6 G,cq G,M.bg,Option.isSome_some,Option.getD_some];rw[M.dj (List.range t.1.2.1.length) (λk (b:Bool)=>(some t,b,l,(l.length:Int),(i:Int),(t.1.2.1.length:Int),(k:Int),l[i],())) (λ(k:Nat) b=>.next (b||rA t ((k:Int),0) l[i])) (λb=>.next (some t,b,l,(l.length:Int),(i:Int),())) false ?_ ?_ ?_]
  ·rw[dZ];have e:∀ (r:List Nat) (b:Bool),r.foldl (λ(b:Bool) (k:Nat)=>b||rA t ((k:Int),0) l[i]) b=(b||r.any λ(k:Nat)=>rA t ((k:Int),0) l[i]):=by
    intro r;induction r with
    | nil=>simp
    | cons k r aJ=>grind
   rw[e,Bool.false_or];simp only[M.aE,M.bL];cases (List.range t.1.2.1.length).any λ(k:Nat)=>rA t ((k:Int),0) l[i]<;>simp[ab.gV,hw]
  ·rfl
  ·intro k aj b;have aj:k<t.1.2.1.length:=by grind
   have mq:=bn (n:=(k:Int)+1) (by omega) (by omega);simp only[cG aj,if_true,List.getElem_range,aL.sh,M.iT,M.dq];rw[M.bp (by simp)];simp only[Option.getD_some,b4,mq,ab.gV];grind
  simp
 simp
theorem apz(x):M.le (Nv fcGood.sh x) (Ps.sh x):=M.bj λh=>by
 obtain⟨o,l⟩:=x;obtain⟨t,au,h1,h2⟩:=h;change o=_ at au;subst au;exact apy t l h1 h2
def gL(t:Sto)(l:List ry)(i:Nat)(j:Int):Bool:=rA t (t.2.1.getD i (0,0)) (l.getD j.toNat (0,0,0))
abbrev Pt:=Option Sto×List ry×Int×z4'×z1'×Unit
abbrev Zu:=Bool×z4'×z1'×Unit
def uz(r:Bool×kU):Zu:=(r.1,r.2.2,r.2.1,())
def Pu(f:Nat)(x:Pt):Prop:=∃ t,x.1=some t/\t.2.1.length<=200/\x.2.1.length<=1000/\0<=x.2.2.1/\x.2.2.1<(x.2.1.length:Int)/\yi t.2.1.length x.2.1.length f (x.2.2.2.2.1,x.2.2.2.1)
def uA(f:Nat)(x:Pt):M Zu:=M.dx (Pu f x) (uz (jR (gL (x.1.getD yg) x.2.1) (x.1.getD yg).2.1.length f x.2.2.1 (x.2.2.2.2.1,x.2.2.2.1)))
theorem apA{t:Sto}{l:List ry}(ao:t.2.1.length<=200)(an:l.length<=1000){f:Nat}{own:Int}(Zr:0<=own)(Zs:own<(l.length:Int)){st:kU}(h0:yi t.2.1.length l.length (f+1) st) :
  ND fcGood.sh (uA f) (some t,l,own,st.2,st.1,())=M.pure (uz (jR (gL t l) t.2.1.length (f+1) own st)):=by
 have D4:=Pq (gd:=gL t l) (m:=t.2.1.length) (J:=l.length) f;unfold ND;simp only[bI,M.bg,aop,Option.isSome_some,Option.getD_some];rw[M.gj (List.range t.2.1.length) (λi (b:kU)=>(some t,l,own,t.2.1,(t.2.1.length:Int),(i:Int),b.2,b.1,())) (λi b=>ab.uv (λr=>.done (uz r)) (nZ (gL t l) (jR (gL t l) t.2.1.length f) own i b)) (λb=>.next (b.2,b.1,())) (λi b=>b.1=st.1/\∀ q,cz st.2 q<=cz b.2 q/\cz b.2 q<=1) st ?_ ?_ ?_ ?_]
 ·show _=M.pure (uz (eI (nZ (gL t l) (jR (gL t l) t.2.1.length f) own) (λst=>(false,st)) (List.range t.2.1.length) st));rw[O5,O5,Y8];cases yb (nZ (gL t l) (jR (gL t l) t.2.1.length f) own) (List.range t.2.1.length) st<;>(simp only[ab.uv,ab.fin,M.aE,M.bL,M.pn];try rfl)
 ·rfl
 ·exact⟨rfl,λq=>⟨Int.le_refl _,(h0.seen q).2⟩⟩
 ·intro i G b ad;have G:i<t.2.1.length:=by grind
  have lk:=bn (n:=(i:Int)+1) (by omega) (by omega);rw[List.getElem_range];have apB:b.1.length=t.2.1.length:=by rw[ad.1];exact h0.len
  have ev:i<b.1.length:=by omega
  have apC:0<=own/\own<(l.length:Int):=⟨Zr,Zs⟩
  have je:=ad.2 (i:Int);have mO:=h0.seen (i:Int);simp only[bI,cG G,if_true,cq G,cq ev,M.bg,apC,aL.sh,M.nR,M.gu,Int.toNat_natCast,Option.getD_some];have ze:rA t (t.2.1.getD i (0,0)) (l.getD own.toNat (0,0,0))=gL t l i own:=rfl;rw[ze];have apD:(∃ cE,(some t:Option Sto)=some cE)=True:=by simp
  simp only[apD,and_true,true_and,and_self,imp_self,implies_true,M.bg];by_cases Iz:cz b.2 (i:Int) > 0
  ·have hu:nZ (gL t l) (jR (gL t l) t.2.1.length f) own i b=.next b:=by unfold nZ;grind
   rw[hu];refine⟨?_,λa1 cQ=>by cases cQ;exact ad⟩;simp only[Iz,decide_true,Bool.true_or,if_true,M.aE,M.bL,b4,lk,ab.gV,ab.uv,Bool.not_true,Bool.false_eq_true,false_imp_iff,Bool.true_eq_false,M.bg,and_self,implies_true];rfl
  ·by_cases aA:gL t l i own=true
   ·have ba:cz b.2 (i:Int)=0:=by omega
    have It:=bn (n:=cz b.2 (i:Int)+1) (by omega) (by omega);have j_:∀ q,cz b.2 q<=cz (eV b.2 (i:Int) (cz b.2 (i:Int)+1)) q/\cz (eV b.2 (i:Int) (cz b.2 (i:Int)+1)) q<=1:=λq=>by
     have:=ad.2 q;rw[A3];omega
    have Kh:¬(decide (cz b.2 (i:Int) > 0)||!gL t l i own)=true:=by grind
    by_cases au:b.1.getD i 0=-1
    ·have hu:nZ (gL t l) (jR (gL t l) t.2.1.length f) own i b=.done (true,(b.1.set i own,eV b.2 (i:Int) (cz b.2 (i:Int)+1))):=by
      unfold nZ;grind
     rw[hu];refine⟨?_,λa1 cQ=>by cases cQ⟩;simp only[Iz,aA,au,decide_true,decide_false,Bool.not_true,Bool.not_false,Bool.or_self,Bool.false_eq_true,if_false,if_true,false_imp_iff,Bool.true_eq_false,Bool.true_or,M.bg,M.aE,M.pn,b4,It,cq ev,ab.gV,ab.uv,and_self,implies_true,true_imp_iff];rfl
    ·have axY:=h0.lY i G;have aD:0<=b.1.getD i 0/\b.1.getD i 0<(l.length:Int):=by grind
     have wa:yi t.2.1.length l.length f (b.1,eV b.2 (i:Int) (cz b.2 (i:Int)+1)):=by
      refine⟨apB,?_,λk=>⟨?_,(j_ k).2⟩,?_⟩
      ·show Pk _ _ b.1;rw[ad.1];exact h0.lY
      ·have:=(j_ k).1;have:=ad.2 k;have:=(h0.seen k).1;grind
      ·have h1:=Y6 (n:=t.2.1.length) (m:=b.2) (s:=(i:Int)) (v:=cz b.2 (i:Int)+1) (by omega) (by omega) ba (by omega);have h2:=Y7 (n:=t.2.1.length) (a:=st.2) (b:=b.2) λk=>⟨(h0.seen k).1,(ad.2 k).1⟩
       have h3:=h0.bZ;grind
     obtain⟨zY,apE⟩:=D4 (b.1.getD i 0) (b.1,eV b.2 (i:Int) (cz b.2 (i:Int)+1)) aD.1 aD.2 wa;have gq:Pu f (some t,l,b.1.getD i 0,eV b.2 (i:Int) (cz b.2 (i:Int)+1),b.1,()):=⟨t,rfl,ao,an,aD.1,aD.2,wa⟩
     have vk:uA f (some t,l,b.1.getD i 0,eV b.2 (i:Int) (cz b.2 (i:Int)+1),b.1,())=M.pure (uz (jR (gL t l) t.2.1.length f (b.1.getD i 0) (b.1,eV b.2 (i:Int) (cz b.2 (i:Int)+1)))):=M.bF gq _;simp only[Iz,aA,au,decide_true,decide_false,Bool.not_true,Bool.not_false,Bool.or_self,Bool.false_eq_true,if_false,if_true,false_imp_iff,Bool.true_eq_false,Bool.false_or,M.bg,b4,It,and_self,implies_true,true_imp_iff,vk,M.aE];have tx:(jR (gL t l) t.2.1.length f (b.1.getD i 0) (b.1,eV b.2 (i:Int) (cz b.2 (i:Int)+1))).2.1.length=t.2.1.length:=zY.len;have axZ:=zY.seen;have ax0:=apE.no;have Zv:nZ (gL t l) (jR (gL t l) t.2.1.length f) own i b=if (jR (gL t l) t.2.1.length f (b.1.getD i 0) (b.1,eV b.2 (i:Int) (cz b.2 (i:Int)+1))).1=true then .done (true,((jR (gL t l) t.2.1.length f (b.1.getD i 0) (b.1,eV b.2 (i:Int) (cz b.2 (i:Int)+1))).2.1.set i own,(jR (gL t l) t.2.1.length f (b.1.getD i 0) (b.1,eV b.2 (i:Int) (cz b.2 (i:Int)+1))).2.2)) else .next (jR (gL t l) t.2.1.length f (b.1.getD i 0) (b.1,eV b.2 (i:Int) (cz b.2 (i:Int)+1))).2:=by
      unfold nZ;grind
     rw[Zv];clear Zv vk;generalize jR (gL t l) t.2.1.length f (b.1.getD i 0) (b.1,eV b.2 (i:Int) (cz b.2 (i:Int)+1))=r at *
     obtain⟨ok,g',s'⟩:=r;have p3:i<g'.length:=by grind
     cases ok with
     | true=>
      refine⟨?_,λa1 cQ=>by cases cQ⟩;simp only[uz,if_true,cq p3,M.bg,M.aE,M.pn,ab.gV,ab.uv]
     | false=>
      refine⟨?_,λa1 cQ=>?_⟩
      ·simp only[uz,Bool.false_eq_true,if_false,M.aE,M.bL,b4,lk,ab.gV,ab.uv];rfl
      ·cases cQ;grind
   ·have hu:nZ (gL t l) (jR (gL t l) t.2.1.length f) own i b=.next b:=by unfold nZ;grind
    rw[hu];refine⟨?_,λa1 cQ=>by cases cQ;exact ad⟩;simp only[Iz,aA,decide_false,Bool.not_false,Bool.or_true,if_true,M.aE,M.bL,b4,lk,ab.gV,ab.uv,Bool.false_eq_true,M.bg,and_self,implies_true];rfl
 simp
theorem apF(f:Nat)(x):M.le (ND fcGood.sh (uA f) x) (uA (f+1) x):=M.bj λh=>by
 obtain⟨o,l,own,seen,g,u⟩:=x;obtain⟨t,au,ao,an,h0,h1,wa⟩:=h;change o=_ at au;subst au;exact apA (st:=(g,seen)) ao an h0 h1 wa
theorem apG(x:Pt):¬(uA 0 x).b1:=λ⟨_,_,_,_,_,_,h⟩=>absurd h.bZ (by omega)
def yk(t:Sto)(l:List ry):Int:=(Pr (gL t l) t.2.1.length l.length 201).2
abbrev IA:aL:=⟨.ay v8 (.slice Iv),tI,λx=>∃ t,x.1=some t/\t.2.1.length<=200/\x.2.length<=1000,λx=>yk (x.1.getD yg) x.2⟩
theorem apH(t:Sto)(l:List ry)(ao:t.2.1.length<=200)(an:l.length<=1000):Nw vW (uA 201) (some t,l)=M.pure (yk t l):=by
 unfold Nw;simp only[bI,Option.isSome_some,Option.getD_some,M.bg];unfold vW;simp only[M.dq];rw[M.bp (by grind)];simp only[Int.toNat_natCast];rw[M.gj (List.range l.length) (λi (b:z1'×Int)=>(some t,l,b.2,(l.length:Int),(i:Int),b.1,())) (λi b=>.next (yj (gL t l) t.2.1.length 201 b i)) (λb=>.next (b.2,())) (λi b=>Eu (gL t l) t.2.1.length l.length i b/\0<=b.2/\b.2<=(i:Int)) (List.replicate t.2.1.length (-1),0) ?_ ?_ ?_ ?_]
 ·rw[dZ,M.aE,M.bL];rfl
 ·rfl
 ·refine⟨?_,by simp⟩;have:=apw (gL t l) t.2.1.length 0 201 (by omega);exact⟨this.len,this.lY,this.one,this.num,this.Ph⟩
 ·intro i G b ad;have G:i<l.length:=by grind
  have lk:=bn (n:=(i:Int)+1) (by omega) (by omega);rw[List.getElem_range];obtain⟨g,n⟩:=b;obtain⟨ad,rZ,p4⟩:=ad;change 0<=n at rZ;change n<=(i:Int) at p4;have A2:=bn (n:=n+1) (by omega) (by omega);have gq:Pu 201 (some t,l,(i:Int),[],g,()):=by
   refine⟨t,rfl,ao,an,Int.natCast_nonneg i,Int.ofNat_lt.2 G,ad.len,λk aj=>?_,λk=>by show 0<=cz [] k/\cz [] k<=1;simp[cz,uu],?_⟩
   ·rcases ad.lY k aj with h | h
    ·exact .inl h
    ·exact .inr ⟨h.1,Int.lt_trans h.2.1 (Int.ofNat_lt.2 G)⟩
   ·have:rv t.2.1.length []<=t.2.1.length:=by
     unfold rv;exact Nat.le_trans List.countP_le_length (by simp)
    grind
  have vk:uA 201 (some t,l,(i:Int),[],g,())=M.pure (uz (jR (gL t l) t.2.1.length 201 (i:Int) (g,[]))):=M.bF gq _;have C4:=Zt (F:=201) (by omega) G ad;refine⟨?_,λa1 cQ=>?_⟩
  ·simp only[cG G,if_true,vk,M.aE,uz];unfold yj;cases ct:(jR (gL t l) t.2.1.length 201 (i:Int) (g,[])).1 with
   | true=>
    simp_all
   | false=>
    simp_all
  ·cases cQ;refine⟨C4,?_⟩;have e1:(0:Int)<=n+1:=by omega
   have e2:n+1<=((i+1:Nat):Int):=by omega
   have e3:n<=((i+1:Nat):Int):=by omega
   unfold yj;omega
 simp
theorem apI(x):M.le (Nw vW (uA 201) x) (IA.sh x):=M.bj λh=>by
 obtain⟨o,l⟩:=x;obtain⟨t,au,h1,h2⟩:=h;change o=_ at au;subst au;exact apH t l h1 h2
theorem Zw{s:bt}(hv:lX s):(Pb s).length<=200:=by
 have h1:∀ (l:List Nat),(∀ i∈l,i<s.2.1.length)->(l.flatMap λ(i:Nat)=>ln ((i:Int),0) (s.2.1.getD i 0)).length<=10*l.length:=by
  intro l;induction l with
  | nil=>simp
  | cons i l aJ=>
   intro an;have h1:=aJ λj aD=>an j (by grind);have h2:=an i (by simp);have h3:=hv.qz _ (List.getElem_mem h2);have jm:s.2.1.getD i 0=s.2.1[i]:=by grind
   rw[List.flatMap_cons,List.length_append,List.length_cons,jm];simp only[ln,List.length_replicate];simp only[ln]at h1;omega
 have h2:∀ (l:List DF),(∀ d∈l,oN s.1 d=true)->(l.flatMap λd=>ln (d.2.1,d.1) d.2.2).length<=10*l.length:=by
  intro l;induction l with
  | nil=>simp
  | cons d l aJ=>
   intro an;have h1:=aJ λj aD=>an j (by grind);have h3:=an d (by simp);simp only[oN,bM,Bool.and_eq_true,decide_eq_true_eq]at h3;rw[List.flatMap_cons,List.length_append,List.length_cons];simp only[ln,List.length_replicate];simp only[ln]at h1;omega
 have a:=h1 (List.range s.2.1.length) λi G=>by grind
 have b:=h2 s.2.2.2.2.1 hv.Zc;have c:=hv.Zd;have d:=hv.Pa;have e:=hv.Ep;unfold Pb Er Zg;grind
theorem Zx{s:bt}(hv:lX s){cc:z1'}(hp:nX s cc):(lp s cc).1.length<=24:=by
 unfold lp;split
 ·have:∀ (l:List Nat),(∀ i∈l,i<cc.length)->(l.flatMap λi=>(oO s cc i).getD []).length<=4*l.length:=by
   intro l;induction l with
   | nil=>simp
   | cons i l aJ=>
    intro an;have h1:=aJ λj aD=>an j (by grind);have h2:=an i (by simp);rw[List.flatMap_cons,List.length_append,List.length_cons];have:((oO s cc i).getD []).length<=4:=by
     cases h:oO s cc i with
     | none=>simp
     | some y=>exact Zj hv hp h2 h
    omega
  have a:=this (List.range cc.length) λi G=>by grind
  rw[List.length_range]at a;have:=hp.1;have:=hv.ux;grind
 ·simp
def pL(s:bt)(cc:z1'):Bool:=(lp s cc).2&&decide (yk (c7 s) (lp s cc).1=0)
abbrev wb:aL:=⟨.ay v8 fI,cU,λx=>∃ s,v' x.1 s/\nX s x.2,λx=>pL (nY x.1) x.2⟩
theorem apJ(x):M.le (VC Iw.sh IA.sh x) (wb.sh x):=M.bj λh=>by
 obtain⟨o,cc⟩:=x;obtain⟨s,⟨au,hv⟩,hp⟩:=h;change o=_ at au;subst au;unfold VC;simp only[aL.sh,M.dq,M.iT];rw[M.bp (by exact⟨s,⟨rfl,hv⟩,hp⟩),M.bp (by exact λ_=>⟨c7 s,rfl,Zw hv,Nat.le_trans (Zx hv hp) (by omega)⟩)];show M.pure ((lp s cc).2&&decide ((if (lp s cc).2=true then yk (c7 s) (lp s cc).1 else 0)=0))=M.pure (pL s cc);unfold pL;grind
def A'(s:bt)(first:z1')(p:Nat):Bool:=!(first.contains (p:Int)||decide (sL (mu s (first.length:Int)) (m' s (p:Int))=0))
def ke(s:bt)(e:Int):Nat->z1'->List (z1')
 | 0,first=>[first]
 | n+1,first=>((List.range s.2.2.1.length).flatMap λp=>if A' s first p=true then ke s e n (first++[(p:Int)]) else [])++(if e=0 then [] else ke s e n (first++[-1]))
abbrev Zy:Type:=Nat×(List (z1')->Prop)×List (z1')×Bool
abbrev Pv:Type:=Option Sto×z1'×Int×Nat×Zy×Unit
abbrev Zz:Type:=Bool×Zy×Unit
structure Pw(f:Nat)(x:Pv)(s:bt)(n:Nat)(a b:List (z1')):Prop where
 ax1:v' x.1 s
 len:x.2.1.length+n=s.2.2.2.1.length
 bZ:n<f
 ax2:x.2.2.2.2.1.1=x.2.2.2.1
 bm:x.2.2.2.2.1.2.2.2=false
 seq:x.2.2.2.2.1.2.1=λT=>T=a++ke s x.2.2.1 n x.2.1++b
 pos:x.2.2.2.2.1.2.2.1=a
def apK(x:Pv)(y:Zz):Prop:=y.2.1.1=x.2.2.2.1/\y.2.1.2.1=x.2.2.2.2.1.2.1/\(y.1=true->y.2.1.2.2.2=false/\y.2.1.2.2.1=x.2.2.2.2.1.2.2.1++ke (nY x.1) x.2.2.1 ((nY x.1).2.2.2.1.length - x.2.1.length) x.2.1)/\(y.1=false->y.2.1.2.2.2=true)
def rB(f:Nat)(x:Pv):M Zz:=⟨∃ s n a b,Pw f x s n a b,apK x⟩
def lZ(s:bt)(e:Int)(n:Nat)(first:z1')(k:Nat):List (z1'):=(List.range k).flatMap λp=>if A' s first p=true then ke s e n (first++[(p:Int)]) else []
theorem IB(s:bt)(e:Int)(n:Nat)(first:z1')(k:Nat):lZ s e n first (k+1)=lZ s e n first k++(if A' s first k=true then ke s e n (first++[(k:Int)]) else []):=by
 unfold lZ;rw[List.range_succ,List.flatMap_append];simp
theorem apL(s:bt)(e:Int)(n:Nat)(first:z1'){k m:Nat}(h:k<=m):∃ t,lZ s e n first m=lZ s e n first k++t:=by
 induction m with
 | zero=>simp_all
 | succ m aJ=>
  by_cases aj:k=m+1
  ·simp_all
  ·obtain⟨t,aI⟩:=aJ (by omega);rw[IB,aI,List.append_assoc];simp
theorem apM{f:Nat}{s:bt}(hv:lX s){first:z1'}{e:Int}{l:Nat}{L:List (z1')->Prop}{n:Nat}(hlen:first.length+n=s.2.2.2.1.length)(au:n<f+1){a b:List (z1')}(gh:L=λT=>T=a++ke s e n first++b) :
  M.ca (NF vY.sh (rB f) oF.sh (some (c7 s),first,e,l,(l,L,a,false),())) λy=>y.2.1.1=l/\y.2.1.2.1=L/\(y.1=true->y.2.1.2.2.2=false/\y.2.1.2.2.1=a++ke s e n first)/\(y.1=false->y.2.1.2.2.2=true):=by
 have fF:(c7 s).1=s:=rfl;have A8:=hv.ux;have apN:=hv.Ir;unfold NF;simp only[Option.isSome_some,Option.getD_some,M.bg,bI,fF];cases n with
 | zero=>
  have aw:decide ((first.length:Int)=(s.2.2.2.1.length:Int))=true:=by grind
  have aA:∃ T,L (a++first::T):=⟨b,by rw[gh];show _=_;simp[ke]⟩
  simp only[aw,if_true,true_and,and_self];rw[M.bp aA,M.fJ];refine⟨⟨true,trivial⟩,λy _=>M.dI.2 ?_⟩;refine⟨rfl,rfl,λh=>?_,λh=>?_⟩
  ·change y=true at h;subst h;exact⟨rfl,rfl⟩
  grind
 | succ n=>
  have aw:decide ((first.length:Int)=(s.2.2.2.1.length:Int))=false:=by grind
  simp only[aw,Bool.false_eq_true,if_false,M.fJ];obtain⟨z,ba⟩:∃ z,ke s e (n+1) first=lZ s e n first s.2.2.1.length++z:=⟨_,rfl⟩
  refine M.aon s.2.2.1.length (λk q=>q=(some (c7 s),first,e,l,(first.length:Int),s.2.2.1,(s.2.2.1.length:Int),(k:Int),(l,L,a++lZ s e n first k,false),())) ?_ ?_ ?_
  ·show _=_;simp[lZ]
  ·rintro k aj q rfl;have mq:=bn (n:=(k:Int)+1) (by omega) (by omega);have fD:first.length<2 ^ 63:=by omega
   have sM:first.length<s.2.2.2.1.length:=by omega
   have Ix:=Pe sM;have A9:List.getD s.2.2.2.1 first.length ([],(0,0),0,0,0)=mu s (first.length:Int):=rfl
   have Pf:s.2.2.1[k]=m' s (k:Int):=by simp[m',List.getD_eq_getElem?_getD,aj]
   have nP:vY.pre (mu s (first.length:Int),m' s (k:Int)):=hv.gQ.2.2.2.2.2.2 _ Ix;have apO:(first.length<2 ^ 63)=True:=by grind
   simp only[cG aj,if_true,cq aj,c6 aj,M.bg,aL.sh,M.nR,M.gu,apO,fF,Int.toNat_natCast,cq sM,A9,Pf,and_true,true_and,and_self,imp_self,implies_true];have apP:((mu s (first.length:Int)).1.length<2 ^ 63)=True:=by grind
   have apQ:List.getD s.2.2.1 k (0,0,0,0,[])=m' s (k:Int):=rfl;have dY:first.contains (k:Int)=false->(!first.contains (k:Int))=true:=λh=>by grind
   have iD:((0:Int)<=0/\0<=(first.length:Int)/\(first.length:Int)<=(first.length:Int))=True:=by simp
   have kI:List.take first.length first=first:=List.take_length
   have lF:(0<Add.add 0 1/\b2 (Add.add first.length (Add.add 0 1))):=⟨by decide,by show b2 (first.length+1);unfold b2;omega⟩
   have hI:(first.contains (k:Int)||decide (sL (mu s (first.length:Int)) (m' s (k:Int))=0))=!A' s first k:=by unfold A';simp
   have jF:first.contains (k:Int)=first.contains (k:Int):=rfl
   simp only[Option.isSome_some,Option.getD_some,fF,cq sM,A9,apQ,apP,and_true,true_and,and_self,imp_self,implies_true,M.bg,M.bp dY,hI,iD,kI];rw[M.bp (by omega)];obtain⟨t,aI⟩:=apL s e n first (show k+1<=s.2.2.1.length by omega)
   cases aB:A' s first k with
   | false=>
    simp only[Bool.not_false,if_true,M.aE,M.bL,M.dI,b4,mq];show _=_;rw[IB,aB];simp
   | true=>
    rw[IB,aB,if_pos rfl]at aI;simp only[Bool.not_true,Bool.false_eq_true,if_false,M.fJ];have D6:Pw f (some (c7 s),first++[(k:Int)],e,l,(l,L,a++lZ s e n first k,false),()) s n (a++lZ s e n first k) (t++z++b):=by
     refine⟨⟨rfl,hv⟩,by grind,by omega,rfl,rfl,?_,rfl⟩;grind
    refine⟨⟨s,n,_,_,D6⟩,λy aO=>?_⟩;obtain⟨J0,⟨yl,ZA,Px,ys⟩,apR⟩:=y;obtain⟨cR,q2,q3,uw⟩:=aO;change yl=l at cR;change ZA=L at q2;subst cR;subst q2;cases J0 with
    | false=>
     have aT:ys=true:=uw rfl;subst aT;simp only[Bool.not_false,if_true,M.aE,M.dI,M.pn];simp
    | true=>
     obtain⟨bx,c_⟩:=q3 rfl;change ys=false at bx;change Px=(a++lZ s e n first k)++ke s e (s.2.2.2.1.length - (first++[(k:Int)]).length) (first++[(k:Int)]) at c_;have u':s.2.2.2.1.length - (first++[(k:Int)]).length=n:=by grind
     rw[u']at c_;subst bx;subst c_;simp only[Bool.not_true,Bool.false_eq_true,if_false,M.aE,M.dI,M.bL,b4,mq];show _=_;rw[IB,aB,if_pos rfl];simp
  ·rintro q rfl;have kI:List.take first.length first=first:=List.take_length
   have iD:((0:Int)<=0/\0<=(first.length:Int)/\(first.length:Int)=(first.length:Int)/\(first.length:Int)<=(first.length:Int))=True:=by simp
   have lF:(0<Add.add 0 1/\b2 (Add.add first.length (Add.add 0 1))):=⟨by decide,by show b2 (first.length+1);unfold b2;omega⟩
   simp only[Int.lt_irrefl,decide_false,Bool.false_eq_true,if_false,M.aE,M.dI,M.bL,iD,kI,Int.toNat_natCast,and_true];by_cases he:e=0
   ·have zc:ke s e (n+1) first=lZ s e n first s.2.2.1.length:=by
     show lZ s e n first s.2.2.1.length++(if e=0 then [] else ke s e n (first++[-1]))=_
     grind
    simp only[he,decide_true,Bool.not_true,Bool.false_eq_true,if_false,false_imp_iff,M.bg,Bool.true_or,M.dI,Bool.true_eq_false,and_self,implies_true];grind
   ·have zc:ke s e (n+1) first=lZ s e n first s.2.2.1.length++ke s e n (first++[-1]):=by
     show lZ s e n first s.2.2.1.length++(if e=0 then [] else ke s e n (first++[-1]))=_
     grind
    simp only[he,decide_false,Bool.not_false,if_true,true_imp_iff,M.bg,Bool.false_or,and_self,implies_true];rw[M.bp (by simp),M.bp (by omega)];have D6:Pw f (some (c7 s),first++[-1],e,l,(l,L,a++lZ s e n first s.2.2.1.length,false),()) s n (a++lZ s e n first s.2.2.1.length) b:=by
     refine⟨⟨rfl,hv⟩,by grind,by omega,rfl,rfl,?_,rfl⟩;grind
    rw[M.fJ];refine⟨⟨s,n,_,_,D6⟩,λy aO=>M.dI.2 ?_⟩;obtain⟨J0,⟨yl,ZA,Px,ys⟩,apR⟩:=y;obtain⟨cR,q2,q3,uw⟩:=aO;refine⟨cR,q2,λh=>?_,uw⟩;obtain⟨bx,c_⟩:=q3 h;change Px=(a++lZ s e n first s.2.2.1.length)++ke s e (s.2.2.2.1.length - (first++[(-1:Int)]).length) (first++[-1]) at c_;grind
theorem apS(f:Nat)(x):M.le (NF vY.sh (rB f) oF.sh x) (rB (f+1) x):=λh=>by
 obtain⟨o,first,e,l,⟨l',L,p,st⟩,u⟩:=x;obtain⟨s,n,a,b,hp⟩:=h;obtain⟨⟨au,hv⟩,h1,h2,h3,aT,bx,c_⟩:=hp;change o=_ at au;change l'=l at h3;change st=false at aT;change p=a at c_;change L=_ at bx;change first.length+n=_ at h1
 change _ at bx;subst au;subst h3;subst aT;subst c_;have u':(nY (some (c7 s))).2.2.2.1.length - first.length=n:=by show s.2.2.2.1.length - first.length=n;omega
 refine M.ca.mono (apM hv h1 h2 bx) λy aO=>⟨aO.1,aO.2.1,λh=>?_,aO.2.2.2⟩
 obtain⟨aP,aQ⟩:=aO.2.2.1 h;refine⟨aP,?_⟩;rw[aQ];show _=p++ke (nY (some (c7 s))) e ((nY (some (c7 s))).2.2.2.1.length - first.length) first
 rw[u'];rfl
theorem apT(x):¬(rB 0 x).b1:=λ⟨s,n,a,b,h⟩=>by have:=h.bZ;omega
def lq(e:Int)(s:bt):List (z1'):=ke s e s.2.2.2.1.length []
def ym(o:Option Sto):Prop:=∃ s,v' o s
def IC(o:Option Sto):List (z1'):=lq 1 (nY o)
def Py(o:Option Sto):List (z1'):=lq 0 (nY o)
theorem apU(s:bt)(hv:lX s)(l:Nat):M.ca (Hl (rB 10) (some (c7 s),l,(l,(λT=>T=lq 1 s),[],false),())) λy=>y.1.1=l/\y.1.2.1=(λT=>T=lq 1 s)/\(y.1.2.2.2=false->y.1.2.2.1=lq 1 s):=by
 unfold Hl;rw[M.fJ];have A8:=hv.ux;refine⟨⟨s,s.2.2.2.1.length,[],[],⟨rfl,hv⟩,by simp,by omega,rfl,rfl,by show (λT=>T=lq 1 s)=_;simp[lq],rfl⟩,λy aO=>M.dI.2 ?_⟩;obtain⟨cR,q2,q3,uw⟩:=aO;refine⟨cR,q2,λh=>?_⟩;cases h1:y.1 with
 | false=>grind
 | true=>
  obtain⟨_,h3⟩:=q3 h1;show y.2.1.2.2.1=_;rw[h3];rfl
theorem apV(s:bt)(hv:lX s)(l:Nat):M.ca (Hm (rB 10) (some (c7 s),l,(l,(λT=>T=lq 0 s),[],false),())) λy=>y.1.1=l/\y.1.2.1=(λT=>T=lq 0 s)/\(y.1.2.2.2=false->y.1.2.2.1=lq 0 s):=by
 unfold Hm;rw[M.fJ];have A8:=hv.ux;refine⟨⟨s,s.2.2.2.1.length,[],[],⟨rfl,hv⟩,by simp,by omega,rfl,rfl,by show (λT=>T=lq 0 s)=_;simp[lq],rfl⟩,λy aO=>M.dI.2 ?_⟩;obtain⟨cR,q2,q3,uw⟩:=aO;refine⟨cR,q2,λh=>?_⟩;cases h1:y.1 with
 | false=>grind
 | true=>
  obtain⟨_,h3⟩:=q3 h1;show y.2.1.2.2.1=_;rw[h3];rfl
theorem Pz{A aq:Type}{body:A->aq->M (cT×A)}(g:A->aq->A)(I:A->Prop):∀ (l:List aq) (s:A),I s->(∀ x∈l,∀ s,I s->body s x=M.pure (cT.normal,g s x)/\I (g s x))->jE body l s=M.pure (cT.normal,l.foldl g s)
 | [],s,_,_=>rfl
 | x::l,s,ei,h=>by
  obtain⟨h1,h2⟩:=h x (by simp) s ei;unfold jE;rw[h1,M.aE];exact Pz g I l (g s x) h2 λy aO=>h y (List.mem_cons_of_mem _ aO)
theorem PA{s:bt}{e:Int}:∀ {n:Nat} {first y:z1'},y∈ke s e n first->y.length=first.length+n/\∀ p∈y,p∈first\/p=-1\/(0<=p/\p<(s.2.2.1.length:Int))
 | 0,first,y,h=>by
  simp only[ke,List.mem_singleton]at h;grind
 | n+1,first,y,h=>by
  simp only[ke,List.mem_append,List.mem_flatMap,List.mem_range]at h;rcases h with⟨p,hp,h⟩ | h
  ·split at h
   ·obtain⟨h1,h2⟩:=PA h;grind
   grind
  ·split at h
   ·cases h
   ·obtain⟨h1,h2⟩:=PA h;grind
theorem PB{s:bt}{e:Int}{y:z1'}(h:y∈lq e s):y.length=s.2.2.2.1.length/\nX s y:=by
 obtain⟨h1,h2⟩:=PA h;have h1:y.length=s.2.2.2.1.length:=by grind
 refine⟨h1,by omega,λp hp=>?_⟩;grind
theorem apW(s:bt):nX s (List.replicate s.2.2.2.1.length (-1)):=⟨by simp,λp hp=>by grind⟩
def sO(s:bt)(b y:z1'):z1':=if (decide (rz s y > rz s b)&&pL s y)=true then y else b
def Ex(s:bt):z1':=(lq 1 s).foldl (sO s) (List.replicate s.2.2.2.1.length (-1))
theorem ZB{s:bt}:∀ (l:List (z1')) (b:z1'),(∀ y∈l,y.length=s.2.2.2.1.length/\nX s y)->(b.length=s.2.2.2.1.length/\nX s b)->((l.foldl (sO s) b).length=s.2.2.2.1.length/\nX s (l.foldl (sO s) b))
 | [],b,_,ad=>ad
 | y::l,b,an,ad=>by
  rw[List.foldl_cons];refine ZB l _ (λz ba=>an z (List.mem_cons_of_mem _ ba)) ?_;unfold sO;grind
theorem apX(s:bt):(Ex s).length=s.2.2.2.1.length/\nX s (Ex s):=ZB _ _ (λ_ h=>PB h) ⟨by simp,apW s⟩
abbrev PC:aL:=⟨v8,fI,λo=>∃ s,v' o s,λo=>Ex (nY o)⟩
theorem apY(s:bt)(hv:lX s):Nz Il.sh wb.sh sN.sh ym IC (some (c7 s))=M.pure (Ex s):=by
 unfold Nz;have A8:=hv.ux;have fF:(c7 s).1=s:=rfl;have gq:ym (some (c7 s)):=⟨s,rfl,hv⟩
 have PD:IC (some (c7 s))=lq 1 s:=rfl;simp only[Option.isSome_some,Option.getD_some,M.bg,bI,fF,aL.sh,M.dq,PD];rw[M.bp (by grind),M.bp gq];simp only[Int.toNat_natCast];rw[Pz (λ(b:Option Sto×z1'×Unit) (y:z1')=>(some (c7 s),sO s b.2.1 y,())) (λb=>b.1=some (c7 s)/\b.2.1.length=s.2.2.2.1.length) (lq 1 s) (some (c7 s),List.replicate s.2.2.2.1.length (-1),()) ⟨rfl,by simp⟩ ?_]
 ·have au:∀ (l:List (z1')) (b:z1'),l.foldl (λ(b:Option Sto×z1'×Unit) (y:z1')=>(some (c7 s),sO s b.2.1 y,())) (some (c7 s),b,())=(some (c7 s),l.foldl (sO s) b,()):=by
   intro l;induction l with
   | nil=>simp
   | cons y l aJ=>grind
  rw[au,M.aE];rfl
 ·intro y aO b ad;obtain⟨dd,dN,apZ⟩:=b;obtain⟨mc,qQ⟩:=ad;change dd=_ at mc;change dN.length=_ at qQ;subst mc;obtain⟨xu,r_⟩:=PB aO;have jA:sN.pre (some (c7 s),y):=⟨s,⟨rfl,hv⟩,by grind⟩
  have p1:sN.pre (some (c7 s),dN):=⟨s,⟨rfl,hv⟩,by grind⟩
  have l9:wb.pre (some (c7 s),y):=⟨s,⟨rfl,hv⟩,r_⟩
  have e1:sN.g (some (c7 s),y)=rz s y:=rfl;have e2:sN.g (some (c7 s),dN)=rz s dN:=rfl;have e3:wb.g (some (c7 s),y)=pL s y:=rfl;refine⟨?_,rfl,?_⟩
  ·simp only[M.nR,M.gu,M.bp jA,M.bp p1,e1,e2,e3,l9,and_true,true_and,and_self,imp_self,implies_true,M.bg,sO];have cR:∀ c:Prop,(c->c/\(∃ na,v' (some (c7 s)) na/\nX na y)):=λc h=>⟨h,l9⟩
   rw[M.bp (cR _)];have e1:nY (some (c7 s))=s:=rfl;simp only[e1];cases hc:(decide (rz s y > rz s dN)&&pL s y)<;>simp
  ·show (sO s dN y).length=_;unfold sO;grind
theorem ap0(x):M.le (Nz Il.sh wb.sh sN.sh ym IC x) (PC.sh x):=M.bj λh=>by
 obtain⟨s,au,hv⟩:=h;subst au;exact apY s hv
theorem ID{s:bt}{bU:Bool}(h:kV s bU=0):yf s bU=(some (c7 s),0):=by simp[yf,h]
theorem IE{s:bt}{bU:Bool}(h:kV s bU≠0):yf s bU=(none,kV s bU):=by simp[yf,h]
def yn(s:bt)(bU:Bool):Int×Int:=if kV s bU≠0 then (0,kV s bU) else (rz s (Ex s),0)
abbrev PE:aL:=⟨.ay lW cU,.ay tI tI,λx=>e' x.1,λx=>yn x.1 x.2⟩
theorem ap1(x):M.le (VA A6.sh PC.sh sN.sh x) (PE.sh x):=M.bj λh=>by
 unfold VA;show _=M.pure (yn x.1 x.2);unfold yn;simp only[aL.sh,M.dq];rw[M.bp (by exact h)];by_cases aj:kV x.1 x.2=0
 ·have hv:=A5 h (A4 aj).1;simp only[ID aj,aj,ne_eq,not_true,decide_false,Bool.false_eq_true,if_false];rw[M.bp (by exact⟨x.1,rfl,hv⟩),M.bp (by exact⟨x.1,⟨rfl,hv⟩,Nat.le_of_eq (apX x.1).1⟩)];rfl
 ·simp[IE aj,aj]
abbrev IF:aL:=⟨lW,.ay tI tI,e',λs=>yn s true⟩
theorem ap2(x):M.le (Vt PE.sh x) (IF.sh x):=M.bj λh=>by
 unfold Vt;simp only[aL.sh,M.dq];simp_all
def Ba(s:bt)(n:Int)(y:z1'):Int:=if (!(lp s y).2||!Ew (c7 s) (lp s y).1)=true then n else if (decide (n=-1)||decide (yk (c7 s) (lp s y).1<n))=true then yk (c7 s) (lp s y).1 else n
def IG(s:bt):Int:=(lq 0 s).foldl (Ba s) (-1)
def Bb(s:bt):Int×Int:=if kV s true≠0 then (0,kV s true) else if IG s=-1 then (0,3) else (IG s,0)
abbrev IH:aL:=⟨lW,.ay tI tI,e',Bb⟩
theorem ap3(x):M.le (Vu A6.sh ym Py Iw.sh Ps.sh IA.sh x) (IH.sh x):=M.bj λh=>by
 unfold Vu;show _=M.pure (Bb x);unfold Bb;simp only[aL.sh,M.dq];rw[M.bp (by exact h)];by_cases aj:kV x true=0
 ·have hv:=A5 h (A4 aj).1;have gq:ym (some (c7 x)):=⟨x,rfl,hv⟩
  have PD:Py (some (c7 x))=lq 0 x:=rfl;simp only[ID aj,aj,ne_eq,not_true,decide_false,Bool.false_eq_true,if_false,PD];rw[M.bp gq];rw[Pz (λ(b:Option Sto×Int×Unit) (y:z1')=>(some (c7 x),Ba x b.2.1 y,())) (λb=>b.1=some (c7 x)) (lq 0 x) (some (c7 x),-1,()) rfl ?_]
  ·have au:∀ (l:List (z1')) (b:Int),l.foldl (λ(b:Option Sto×Int×Unit) (y:z1')=>(some (c7 x),Ba x b.2.1 y,())) (some (c7 x),b,())=(some (c7 x),l.foldl (Ba x) b,()):=by
    intro l;induction l with
    | nil=>simp
    | cons y l aJ=>grind
   rw[au,M.aE];show (if decide (IG x=-1)=true then M.pure ((0:Int),(3:Int)) else M.pure (IG x,0))=_;grind
  ·intro y aO b ad;obtain⟨dd,dN,apZ⟩:=b;change dd=_ at ad;subst ad;obtain⟨xu,r_⟩:=PB aO;refine⟨?_,rfl⟩;have zR:=Zx hv r_;have jA:∃ na,v' (some (c7 x)) na/\nX na y:=⟨x,⟨rfl,hv⟩,r_⟩
   have hsl:(c7 x).1.2.1.length<2 ^ 63:=h.2.1;have p1:∃ t,some (c7 x)=some t/\t.1.2.1.length<2 ^ 63/\(lp x y).1.length<2 ^ 63:=⟨_,rfl,hsl,by omega⟩
   have l9:∃ t,some (c7 x)=some t/\t.2.1.length<=200/\(lp x y).1.length<=1000:=⟨_,rfl,Zw hv,by omega⟩
   have e1:nY (some (c7 x))=x:=rfl;have e2:Option.getD (some (c7 x)) yg=c7 x:=rfl;simp only[M.iT,M.dq,e1,e2];rw[M.bp jA];simp only[p1,implies_true,M.bg];rw[M.bp (by exact l9)];show _=M.pure (cT.normal,some (c7 x),Ba x dN y,());unfold Ba;cases h1:(lp x y).2
   ·simp
   ·cases h2:Ew (c7 x) (lp x y).1
    ·simp
    ·simp only[Bool.not_true,Bool.not_false,if_true,Bool.or_self,Bool.false_eq_true,if_false];cases h3:(decide (dN=-1)||decide (yk (c7 x) (lp x y).1<dN))<;>simp
 ·simp[IE aj,aj]
def nb(s:bt)(w p:Int):z1':=(List.replicate s.2.2.2.1.length (-1)).set w.toNat p
def ZC(s:bt)(w:Int):z1':=((List.range s.2.2.1.length).filter λ(p:Nat)=>pL s (nb s w (p:Int))).map λ(p:Nat)=>(p:Int)
def uB(s:bt)(w:Int):z1'×Int:=if kV s (yd s w)≠0 then ([],kV s (yd s w)) else (ZC s w,0)
abbrev II:aL:=⟨.ay lW tI,.ay fI tI,λx=>e' x.1,λx=>uB x.1 x.2⟩
theorem ZD{aq β:Type}{p:aq->Bool}{g:aq->β}:∀ (l:List aq) (b:List β),l.foldl (λb x=>if p x=true then b++[g x] else b) b=b++(l.filter p).map g
 | [],b=>by simp
 | x::l,b=>by
  simp only[List.foldl_cons,List.filter_cons];rw[ZD l];grind
theorem ap4{s:bt}{w:Int}{p:Nat}(hp:p<s.2.2.1.length):nX s (nb s w (p:Int)):=by
 refine⟨by simp[nb],λq bf=>?_⟩;unfold nb at bf;grind
theorem ap5(x):M.le (Vv A6.sh O_.sh vW wb.sh x) (II.sh x):=M.bj λh=>by
 obtain⟨s,w⟩:=x;change e' s at h;unfold Vv;show _=M.pure (uB s w);unfold uB;simp only[aL.sh,M.nR,M.gu];rw[M.bp (by exact h),M.bp (by exact h)];by_cases aj:kV s (yd s w)=0
 ·have hv:=A5 h (A4 aj).1;have hw:=aoZ.1 (A4 aj).2.1;have A8:=hv.ux;have apN:=hv.Ir;simp only[ID aj,aj,ne_eq,not_true,decide_false,Bool.false_eq_true,if_false];unfold vW;simp only[M.dq,bI];rw[M.bp (by grind)];simp only[Int.toNat_natCast];rw[M.gj (List.range s.2.2.1.length) (λi (b:z1'×z1')=>(w,some (c7 s),(s.2.2.1.length:Int),(i:Int),b.1,b.2,())) (λ(p:Nat) b=>.next (if pL s (nb s w (p:Int))=true then b.1++[(p:Int)] else b.1,nb s w (p:Int))) (λb=>.next (b.1,())) (λi b=>b.1.length<=i/\∀ p,b.2.set w.toNat p=nb s w p) ([],List.replicate s.2.2.2.1.length (-1)) ?_ ?_ ?_ ?_]
  ·rw[dZ];have au:∀ (l:List Nat) (b:z1'×z1'),(l.foldl (λb (p:Nat)=>(if pL s (nb s w (p:Int))=true then b.1++[(p:Int)] else b.1,nb s w (p:Int))) b).1=l.foldl (λb (p:Nat)=>if pL s (nb s w (p:Int))=true then b++[(p:Int)] else b) b.1:=by
    intro l;induction l with
    | nil=>simp
    | cons p l aJ=>grind
   rw[au,ZD,M.aE,M.bL];rfl
  ·rfl
  ·exact⟨Nat.le_refl _,λp=>rfl⟩
  ·intro i G b ad;have G:i<s.2.2.1.length:=by grind
   have lk:=bn (n:=(i:Int)+1) (by omega) (by omega);obtain⟨dd,dN⟩:=b;obtain⟨mc,qQ⟩:=ad;change dd.length<=i at mc;change ∀ p,dN.set w.toNat p=nb s w p at qQ;have lF:b2 (dd.length+(0+1)):=by unfold b2;omega
   have hlen:dN.length=s.2.2.2.1.length:=by
    have:=congrArg List.length (qQ 0);simpa [nb]using this
   have xA:0<=w/\w<(dN.length:Int):=by omega
   rw[List.getElem_range];refine⟨?_,λa1 cQ=>?_⟩
   ·simp only[cG G,if_true,xA,and_self,M.bg,M.dq,qQ];rw[M.bp (by exact⟨s,⟨rfl,hv⟩,ap4 G⟩)];have e1:nY (some (c7 s))=s:=rfl;simp only[e1,b4,iE,M.bp lF];cases pL s (nb s w (i:Int))<;>simp[ab.gV,lk]
   ·cases cQ;refine⟨?_,λp=>?_⟩
    ·grind
    ·show (nb s w (i:Int)).set w.toNat p=nb s w p;unfold nb;simp
  simp
 ·simp[IE aj,aj]
def Bc(s:bt)(cc:z1'):Int×Int:=if kV s (v7 s cc)≠0 then (0,kV s (v7 s cc)) else if (!pL s cc)=true then (0,3) else (rz s cc,0)
abbrev IJ:aL:=⟨.ay lW fI,.ay tI tI,λx=>e' x.1/\x.2.length<2 ^ 63,λx=>Bc x.1 x.2⟩
theorem ap6{s:bt}{cc:z1'}(h:v7 s cc=true):cc.length=s.2.2.2.1.length/\nX s cc:=by
 unfold v7 at h;simp only[Bool.and_eq_true,List.all_eq_true,List.mem_range,decide_eq_true_eq]at h;obtain⟨h1,h2⟩:=h;refine⟨by omega,by omega,λp hp=>?_⟩;obtain⟨i,G,rfl⟩:=List.mem_iff_getElem.1 hp;have:=h1 i G;have jm:cc.getD i 0=cc[i]:=by grind
 unfold vZ at this;simp only[jm,Bool.or_eq_true,decide_eq_true_eq,Bool.and_eq_true,ao0]at this;omega
theorem ap7(x):M.le (Vz A6.sh wb.sh Iq.sh sN.sh x) (IJ.sh x):=M.bj λh=>by
 obtain⟨s,cc⟩:=x;obtain⟨hs,an⟩:=h;unfold Vz;show _=M.pure (Bc s cc);unfold Bc;simp only[aL.sh,M.nR,M.gu];have hp:Iq.pre (s,cc):=⟨hs,an⟩
 rw[M.bp (by exact hp),M.bp (by exact hs)];by_cases aj:kV s (v7 s cc)=0
 ·have hv:=A5 hs (A4 aj).1;obtain⟨ap8,xw⟩:=ap6 (A4 aj).2.1;simp only[ID aj,aj,ne_eq,not_true,decide_false,Bool.false_eq_true,if_false,M.dq];rw[M.bp (by exact⟨s,⟨rfl,hv⟩,xw⟩)];have e1:nY (some (c7 s))=s:=rfl;simp only[e1];cases au:pL s cc with
  | false=>simp
  | true=>
   simp only[Bool.not_true,Bool.false_eq_true,if_false];rw[M.bp (by exact⟨s,⟨rfl,hv⟩,Nat.le_of_eq ap8⟩)]
 ·simp[IE aj,aj]
def Ey(s:bt):Prop:=aoq s.1/\s.2.1.length<=2000000/\s.2.2.1.length<=2000000/\s.2.2.2.1.length<=2000000/\s.2.2.2.2.1.length<=2000000/\(∀ p∈s.2.2.1,p.2.2.2.2.length<=2000000)/\∀ x∈s.2.2.2.1,x.1.length<=2000000
theorem ap9{s:bt}(hv:lX s):Ey s:=by
 have an':=Ed hv.sE.2;refine⟨⟨by omega,by omega,by omega,λm ao=>?_⟩,by have:=hv.Ep;omega,by have:=hv.Ir;omega,by have:=hv.ux;omega,by have:=hv.Pa;omega,λp hp=>by have:=(Pd hv hp).2.1;omega,λx hx=>?_⟩
 ·have je:=(AX hv.sE.2).2.2.1 m ao;simp only[qv,Bool.and_eq_true,Bool.not_eq_true',decide_eq_false_iff_not,List.all_eq_true]at je;refine⟨by omega,λs' rR=>?_⟩;have:=je.2 s' rR;simp only[pF,Bool.and_eq_true,decide_eq_true_eq]at this;omega
 ·have:=hv.Zb x hx;simp only[oM,bM,Bool.and_eq_true,decide_eq_true_eq]at this;omega
def ZE(s:bt):Int:=(s.2.2.1.map λp=>(p.2.2.2.2.length:Int)).foldl (·+·) 0
def uC(s:bt):Bool:=
 if (lV s.1||decide ((s.2.1.length:Int) > 40)||decide ((s.2.2.1.length:Int) > 40)||decide ((s.2.2.2.1.length:Int) > 40)||decide ((s.2.2.2.2.1.length:Int) > 40))=true then true
 else if (s.2.2.1.any λp=>decide ((p.2.2.2.2.length:Int) > 40))=true then true
 else if (s.2.2.2.1.any λx=>decide ((x.1.length:Int) > 40))=true then true
 else if iX s≠0 then false
 else decide ((s.2.2.2.1.length:Int) > 3)||decide ((s.2.2.1.length:Int) > 4)||decide ((s.2.2.2.2.1.length:Int) > 3)||decide (ZE s > 4)
abbrev IK:aL:=⟨lW,cU,e',uC⟩
theorem ap_(x):M.le (YG pK.sh vM.sh x) (IK.sh x):=M.bj λh=>by
 change e' x at h;unfold YG;show _=M.pure (uC x);unfold uC;simp only[aL.sh,M.dq,bI];rw[M.bp (by exact h.1)];obtain⟨g1,dW,g3,g4,g5,g6,g7⟩:=id h;by_cases h1:(lV x.1||decide ((x.2.1.length:Int) > 40)||decide ((x.2.2.1.length:Int) > 40)||decide ((x.2.2.2.1.length:Int) > 40)||decide ((x.2.2.2.2.1.length:Int) > 40))=true
 ·grind
 ·rw[if_neg h1,if_neg h1];simp only[Bool.or_eq_true,decide_eq_true_eq,not_or]at h1;rw[M.dj x.2.2.1 (λi (_:Unit)=>((i:Int),x,())) (λp u=>if decide ((p.2.2.2.2.length:Int) > 40)=true then .done (.done true) else .next u) (λ_=>.next (x,())) () ?_ ?_ ?_]
  ·rw[po (p:=λp:dh=>decide ((p.2.2.2.2.length:Int) > 40))];by_cases h2:(x.2.2.1.any λp=>decide ((p.2.2.2.2.length:Int) > 40))=true
   ·simp only[h2,if_true,M.aE,M.pn]
   ·simp only[h2,Bool.false_eq_true,if_false,M.aE,M.bL];rw[M.dj x.2.2.2.1 (λi (_:Unit)=>((i:Int),x,())) (λp u=>if decide ((p.1.length:Int) > 40)=true then .done (.done true) else .next u) (λ_=>.next (x,())) () ?_ ?_ ?_]
    ·rw[po (p:=λp:dt=>decide ((p.1.length:Int) > 40))];by_cases h3:(x.2.2.2.1.any λx=>decide ((x.1.length:Int) > 40))=true
     ·simp only[h3,if_true,M.aE,M.pn]
     ·simp only[h3,Bool.false_eq_true,if_false,M.aE,M.bL];rw[M.bp (by exact h)];by_cases he:iX x=0
      ·simp only[he,ne_eq,not_true,decide_false,Bool.false_eq_true,if_false];have ad:∀ p∈x.2.2.1,p.2.2.2.2.length<=40:=λp hp=>by
        grind
       rw[M.gj x.2.2.1 (λi (n:Int)=>(n,(i:Int),x,())) (λp n=>.next (n+(p.2.2.2.2.length:Int))) (λn=>.next (n,x,())) (λi n=>0<=n/\n<=40*i) 0 ?_ ?_ ?_ ?_]
       ·rw[dZ,M.aE,M.bL];unfold ZE;rw[List.foldl_map]
       ·rfl
       ·simp
       ·intro i G n aB;have lk:=bn (n:=(i:Int)+1) (by omega) (by omega);have ax3:=ad _ (List.getElem_mem G);have A2:=bn (n:=n+(x.2.2.1[i].2.2.2.2.length:Int)) (by omega) (by omega);refine⟨?_,λa1 cQ=>?_⟩
        ·simp only[cG G,if_true,cq G,M.bg,c6 G,b4,lk,A2];rfl
        grind
       simp
      grind
    ·rfl
    ·intro i G u;have lk:=bn (n:=(i:Int)+1) (by omega) (by omega);simp only[cG G,if_true,cq G,M.bg,c6 G,M.aE,b4,lk];exact mQ (mk:=λ_:Unit=>((i:Int)+1,x,()))
    simp
  ·rfl
  ·intro i G u;have lk:=bn (n:=(i:Int)+1) (by omega) (by omega);simp only[cG G,if_true,cq G,M.bg,c6 G,M.aE,b4,lk];exact mQ (mk:=λ_:Unit=>((i:Int)+1,x,()))
  simp
def Bd:bt:=(If,[1,0,0,0],[(1,60,0,0,[0]),(1,60,7,0,[]),(2,65,0,1,[0]),(2,60,0,0,[0,1])],[([1],(55,65),7,3,500),([1,2],(60,60),0,5,400),([2],(60,70),9,8,700),([2],(65,65),0,5,300)],[(4,2,1),(6,3,1)],2)
abbrev IL:aL:=⟨.cA,lW,λ_=>True,λ_=>Bd⟩
theorem ap'(x):M.le (YH O6.sh x) (IL.sh x):=M.bj λ_=>by
 unfold YH;simp only[aL.sh,M.dq,M.bg];rfl
theorem aqa:e' Bd:=by
 refine⟨aou,by decide,by decide,by decide,by decide,?_,?_⟩
 ·intro p hp;simp only[Bd,List.mem_cons,List.not_mem_nil,or_false]at hp;grind
 ·intro x hx;simp only[Bd,List.mem_cons,List.not_mem_nil,or_false]at hx;grind
end Go.Fer
namespace Go.Fer.H
open M (ab)
def ZF(Al:aR->M Int)(NN:List aS->M (List aS×Bool))(aqb:List (List aS)->M (List aS))(aqc:List (z1')×Unit->M (z1'×Unit))(NP:z1'×Unit->M (z1'×Unit))(aqd:z1'×Unit->M ((Nat×Nat)×z1'×Unit))(IM:z4'->M (z4'))(x:aR×List aS×z1'):M (aR×Int):=
 letI a:=x.1.2.2.2;M.bind (Al x.1) λy=>if decide (y≠0)=true then M.pure (([],[],[],[],0,0,0,0,0,0,0),y) else M.bind (Al (x.1.1,x.2.1,x.2.2,a)) λy=>if decide (y≠0)=true then M.pure (([],[],[],[],0,0,0,0,0,0,0),y) else M.bind (aqb [x.1.2.1,x.2.1]) λy=>M.bind (NN y) λy=>if (!y.2)=true then M.pure (([],[],[],[],0,0,0,0,0,0,0),91) else M.bind (aqc ([x.1.2.2.1,x.2.2],())) λbH=>M.bind (NP (bH.1,())) λdv=>M.bind (aqd (dv.1,())) λgE=>if (decide (Int.ofNat (List.length y.1) > 12)||decide (Int.ofNat (gE.1.2-gE.1.1) > 12))=true then M.pure (([],[],[],[],0,0,0,0,0,0,0),90) else M.ag (IM x.1.1).b1 (M.ag (IM a.1).b1 (M.pure ((M.val (IM x.1.1) [],y.1,List.drop gE.1.1 (List.take gE.1.2 gE.2.1),M.val (IM a.1) [],a.2),0)))
def ZG(aqe:Int×Unit->M (List aS×Unit))(x:List (List aS)):M (List aS):=
 M.bind (M.loop (λ(A:List (List aS)×Int×List (List aS)×Int×Int×Unit)=>letI d:=A.2.2;letI b:=d.2.2.1;letI a:=IntKind.wrap .i64 (Add.add A.2.1 (Int.ofNat (List.length (List.getD d.1 (Int.toNat b) []))));if decide (b<d.2.1)=true then M.bind (M.ag (0<=b/\b<Int.ofNat (List.length d.1)) (if decide (a<0)=true then M.ag False (M.ag False (M.pure (ab.next (A.1,a,d.1,d.2.1,b,())))) else M.pure (ab.next (A.1,a,d.1,d.2.1,b,())))) (ab.bm (λ(A:List (List aS)×Int×List (List aS)×Int×Int×Unit)=>M.pure (ab.next (A.1,A.2.1,A.2.2.1,A.2.2.2.1,IntKind.wrap .i64 (Add.add A.2.2.2.2.1 1),())))) else M.bind (M.pure (ab.next (A.1,A.2.1,()))) λr=>M.pure (ab.done r)) (x,0,x,Int.ofNat (List.length x),0,())) (ab.bm (λ(A:List (List aS)×Int×Unit)=>M.bind (aqe (A.2.1,())) λy=>M.bind (M.loop (λ(A:List (List aS)×Int×Int×List aS×Unit)=>letI e:=A.2.2;letI c:=List.getD A.1 (Int.toNat e.1) [];if decide (e.1<A.2.1)=true then M.ag (0<=e.1/\e.1<Int.ofNat (List.length A.1)) (M.ag (b2 (Add.add (List.length e.2.1) (List.length c))) (M.pure (ab.next (A.1,A.2.1,IntKind.wrap .i64 (Add.add e.1 1),e.2.1++c,())))) else M.bind (M.pure (ab.next (e.2.1,()))) λr=>M.pure (ab.done r)) (A.1,Int.ofNat (List.length A.1),0,y.1,())) (ab.bm (λ(A:List aS×Unit)=>M.pure A.1))))
def ZH(aqf:Int×Unit->M (z1'×Unit))(x:List (z1')×Unit):M (z1'×Unit):=
 M.bind (M.loop (λ(A:List (z1')×Int×List (z1')×Int×Int×Unit)=>letI d:=A.2.2;letI b:=d.2.2.1;letI a:=IntKind.wrap .i64 (Add.add A.2.1 (Int.ofNat (List.length (List.getD d.1 (Int.toNat b) []))));if decide (b<d.2.1)=true then M.bind (M.ag (0<=b/\b<Int.ofNat (List.length d.1)) (if decide (a<0)=true then M.ag False (M.ag False (M.pure (ab.next (A.1,a,d.1,d.2.1,b,())))) else M.pure (ab.next (A.1,a,d.1,d.2.1,b,())))) (ab.bm (λ(A:List (z1')×Int×List (z1')×Int×Int×Unit)=>M.pure (ab.next (A.1,A.2.1,A.2.2.1,A.2.2.2.1,IntKind.wrap .i64 (Add.add A.2.2.2.2.1 1),())))) else M.bind (M.pure (ab.next (A.1,A.2.1,()))) λr=>M.pure (ab.done r)) (x.1,0,x.1,Int.ofNat (List.length x.1),0,())) (ab.bm (λ(A:List (z1')×Int×Unit)=>M.bind (aqf (A.2.1,())) λy=>M.bind (M.loop (λ(A:List (z1')×Int×Int×z1'×Unit)=>letI e:=A.2.2;letI c:=List.getD A.1 (Int.toNat e.1) [];if decide (e.1<A.2.1)=true then M.ag (0<=e.1/\e.1<Int.ofNat (List.length A.1)) (M.ag (b2 (Add.add (List.length e.2.1) (List.length c))) (M.pure (ab.next (A.1,A.2.1,IntKind.wrap .i64 (Add.add e.1 1),e.2.1++c,())))) else M.bind (M.pure (ab.next (e.2.1,()))) λr=>M.pure (ab.done r)) (A.1,Int.ofNat (List.length A.1),0,y.1,())) (ab.bm (λ(A:z1'×Unit)=>M.pure (A.1,())))))
def aqg(x:z1'×Unit):M ((Nat×Nat)×z1'×Unit):=
 if decide (Int.ofNat (List.length x.1)<2)=true then M.pure ((0,List.length x.1),x.1,()) else M.bind (M.loop (λ(A:Int×z1'×Unit)=>letI l:=A.1;letI j:=A.2.1;letI g:=IntKind.wrap .i64 (l-1);letI b:=Int.ofNat (List.length j);if decide (l<b)=true then M.bind (M.ag (0<=l/\l<b) (M.ag (0<=g/\g<b) (if decide (List.getD j (Int.toNat l) 0=List.getD j (Int.toNat g) 0)=true then M.ag (0<=l/\l<=b/\b<=b) (M.bind (M.loop (λ(A:Int×(Nat×Nat)×Int×z1'×Unit)=>letI k:=A.2.1;letI e:=A.2.2;letI i:=IntKind.wrap .i64 (e.1-1);letI h:=List.getD e.2.1 (Add.add k.1 (Int.toNat e.1)) 0;letI d:=Int.ofNat (k.2-k.1);if decide (e.1<d)=true then M.bind (M.ag (0<=e.1/\e.1<d) (M.ag (0<=i/\i<d) (if decide (h≠List.getD e.2.1 (Add.add k.1 (Int.toNat i)) 0)=true then M.ag (0<=e.1/\e.1<d) (M.ag (0<=A.1/\A.1<Int.ofNat (List.length e.2.1)) (M.pure (ab.next (IntKind.wrap .i64 (Add.add A.1 1),k,e.1,List.set e.2.1 (Int.toNat A.1) h,())))) else M.pure (ab.next (A.1,k,e.1,e.2.1,()))))) (ab.bm (λ(A:Int×(Nat×Nat)×Int×z1'×Unit)=>M.pure (ab.next (A.1,A.2.1,IntKind.wrap .i64 (Add.add A.2.2.1 1),A.2.2.2.1,())))) else M.bind (M.pure (ab.next (A.1,e.2.1,()))) λr=>M.pure (ab.done r)) (l,(Int.toNat l,Int.toNat b),1,j,())) (ab.bm (λ(A:Int×z1'×Unit)=>letI f:=Int.toNat A.1;letI c:=Int.ofNat (List.length A.2.1);letI a:=List.take f A.2.1++List.replicate (Int.toNat c-f) 0++List.drop (Add.add f (List.length (List.replicate (Int.toNat c-f) (0:Int)))) A.2.1;M.ag (0<=A.1/\A.1<=c/\c<=c) (M.ag True (M.ag ((0:Int)<=0/\0<=A.1/\A.1<=Int.ofNat (List.length a)) (M.bind (M.bind (M.bind (M.pure ((Int.toNat 0,f),a,())) (λr=>M.pure (ab.done r))) (λr=>M.pure (ab.done r))) (λr=>M.pure (ab.done r)))))))) else M.pure (ab.next (l,j,()))))) (ab.bm (λ(A:Int×z1'×Unit)=>M.pure (ab.next (IntKind.wrap .i64 (Add.add A.1 1),A.2.1,())))) else M.bind (M.pure (ab.next (j,()))) λr=>M.pure (ab.done r)) (1,x.1,())) (ab.bm (λ(A:z1'×Unit)=>M.pure ((0,List.length A.1),A.1,())))
def IN(x:Int×Unit):M (z1'×Unit):=M.dx (0<=x.1/\x.1<60000) ([],())
def IP(x:Int×Unit):M (List aS×Unit):=M.dx (0<=x.1/\x.1<60000) ([],())
section
variable {aq f_:Type}
def IQ(g:Int×Unit->M (List aq×Unit))(x:List (List aq))(k:List aq->M f_):M f_:=
 M.bind (M.loop (λ(A:List (List aq)×Int×List (List aq)×Int×Int×Unit)=>if decide (A.2.2.2.2.1<A.2.2.2.1)=true then M.bind (M.ag (0<=A.2.2.2.2.1/\
 A.2.2.2.2.1<Int.ofNat (List.length A.2.2.1)) (if decide (IntKind.wrap .i64 (Add.add A.2.1 (Int.ofNat (List.length (List.getD A.2.2.1 (Int.toNat A.2.2.2.2.1) [])))) <
 0)=true then M.ag False (M.ag False (M.pure (ab.next (A.1,IntKind.wrap .i64 (Add.add A.2.1 (Int.ofNat (List.length (List.getD A.2.2.1 (Int.toNat A.2.2.2.2.1)
 [])))),A.2.2.1,A.2.2.2.1,A.2.2.2.2.1,())))) else M.pure (ab.next (A.1,IntKind.wrap .i64 (Add.add A.2.1 (Int.ofNat (List.length (List.getD A.2.2.1 (Int.toNat
 A.2.2.2.2.1) [])))),A.2.2.1,A.2.2.2.1,A.2.2.2.2.1,())))) (ab.bm λ(A:List (List aq)×Int×List (List aq)×Int×Int×Unit)=>M.pure (ab.next (A.1,A.2.1,A.2.2.1,A.2.2.2.1,IntKind.wrap .i64 (Add.add A.2.2.2.2.1 1),()))) else M.bind (M.pure (ab.next (A.1,A.2.1,()))) λr=>M.pure (ab.done r)) (x,0,x,Int.ofNat
 (List.length x),0,())) (ab.bm λ(A:List (List aq)×Int×Unit)=>M.bind (g (A.2.1,())) λy=>M.bind (M.loop (λ(A:List (List aq)×Int×Int×List aq×
 Unit)=>if decide (A.2.2.1<A.2.1)=true then M.ag (0<=A.2.2.1/\A.2.2.1<Int.ofNat (List.length A.1)) (M.ag (b2 (Add.add (List.length A.2.2.2.1) (List.length
 (List.getD A.1 (Int.toNat A.2.2.1) [])))) (M.pure (ab.next (A.1,A.2.1,IntKind.wrap .i64 (Add.add A.2.2.1 1),A.2.2.2.1++List.getD A.1 (Int.toNat A.2.2.1) [],())))) else M.bind (M.pure (ab.next (A.2.2.2.1,()))) λr=>M.pure (ab.done r)) (A.1,Int.ofNat (List.length A.1),0,y.1,())) (ab.bm λ(A:List aq×Unit)
 =>k A.1))
theorem ZI:∀ (l:List (List aq)) (b:List aq),l.foldl (λb x=>b++x) b=b++l.flatten
 | [],b=>by simp
 | x::l,b=>by simp[ZI l]
theorem ZJ(g:Int×Unit->M (List aq×Unit))(aA:∀ n,0<=n->n<60000->g (n,())=M.pure ([],()))(x:List (List aq))(k:List aq->M f_)(h1:x.length<=2)(h2:∀ l∈x,l.length<=40):IQ g x k=k x.flatten:=by
 unfold IQ;rw[M.gj x (λi (n:Int)=>(x,n,x,(x.length:Int),(i:Int),())) (λl n=>.next (n+(l.length:Int))) (λn=>.next (x,n,())) (λi n=>0<=n/\n<=40*(i:Int)) 0 ?_ ?_ ?_ ?_]
 ·rw[dZ,M.aE,M.bL];have hs:∀ (l:List (List aq)) (n:Int),0<=n->(∀ y∈l,y.length<=40)->0<=l.foldl (λn y=>n+(y.length:Int)) n/\l.foldl (λn y=>n+(y.length:Int)) n<=n+40*(l.length:Int):=by
   intro l;induction l with
   | nil=>simp
   | cons y l aJ=>
    grind
  obtain⟨dd,dN⟩:=hs x 0 (Int.le_refl _) h2;rw[aA _ dd (by omega),M.aE];rw[M.gj x (λi (b:List aq)=>(x,(x.length:Int),(i:Int),b,())) (λl b=>.next (b++l)) (λb=>.next (b,())) (λi b=>b.length<=40*i) [] ?_ ?_ ?_ ?_]
  ·rw[dZ,M.aE,M.bL,ZI];rfl
  ·rfl
  ·simp
  ·intro i G b ad;have hw:=bn (n:=(i:Int)+1) (by omega) (by omega);have an:=h2 _ (List.getElem_mem G);refine⟨?_,λa1 cQ=>?_⟩
   ·simp only[bI,cG G,if_true,c6 G,cq G,M.bg,b4,hw];rw[M.bp (gF (by grind))];rfl
   grind
  simp
 ·rfl
 ·omega
 ·intro i G n aB;have hw:=bn (n:=(i:Int)+1) (by omega) (by omega);have an:=h2 _ (List.getElem_mem G);have gD:=bn (n:=n+(x[i].length:Int)) (by omega) (by omega);have aw:decide (n+(x[i].length:Int)<0)=false:=by grind
  refine⟨?_,λa1 cQ=>?_⟩
  ·simp only[bI,cG G,if_true,c6 G,cq G,M.bg,b4,hw,gD,aw,Bool.false_eq_true,if_false,M.aE,M.bL];rfl
  grind
 simp
end
abbrev IS:aL:=⟨.slice (.slice gX),.slice gX,λx=>x.length<=2/\∀ l∈x,l.length<=40,λx=>x.flatten⟩
theorem aqh(x):M.le (ZG IP x) (IS.sh x):=M.bj λh=>
 (show ZG IP x=IQ IP x M.pure from rfl).trans (ZJ _ (λn a b=>M.bF ⟨a,b⟩ _) x _ h.1 h.2)
def IT(x:List (z1')×Unit):M (z1'×Unit):=M.dx (x.1.length<=2/\∀ l∈x.1,l.length<=40) (x.1.flatten,())
theorem aqi(x):M.le (ZH IN x) (IT x):=M.bj λh=>
 (show ZH IN x=IQ IN x.1 (λl=>M.pure (l,())) from rfl).trans (ZJ _ (λn a b=>M.bF ⟨a,b⟩ _) x.1 _ h.1 h.2)
def n0(l:z1')(j:Nat):Bool:=decide (j=0)||decide (l.getD j 0≠l.getD (j - 1) 0)
def fj(l:z1')(p:Nat):z1':=((List.range p).filter (n0 l)).map λj=>l.getD j 0
theorem PF(l:z1')(p:Nat):fj l (p+1)=fj l p++if n0 l p=true then [l.getD p 0] else []:=by
 unfold fj;rw[List.range_succ,List.filter_append,List.map_append];grind
theorem aqj(l:z1')(p:Nat):(fj l p).length<=p:=by
 unfold fj;grind
def Ez{R:Type}:Int×(Nat×Nat)×Int×z1'×Unit->M (ab (Int×(Nat×Nat)×Int×z1'×Unit) (ab (Int×z1'×Unit) R)):=
 (λ(A:Int×(Nat×Nat)×Int×z1'×Unit)=>if decide (A.2.2.1<Int.ofNat (A.2.1.2 - A.2.1.1))=true then M.bind (M.ag (0<=A.2.2.1/\A.2.2.1<Int.ofNat
 (A.2.1.2 - A.2.1.1)) (M.ag (0<=IntKind.wrap .i64 (A.2.2.1 - 1)/\IntKind.wrap .i64 (A.2.2.1 - 1)<Int.ofNat (A.2.1.2 - A.2.1.1)) (if decide (List.getD A.2.2.2.1
 (Add.add A.2.1.1 (Int.toNat A.2.2.1)) 0≠List.getD A.2.2.2.1 (Add.add A.2.1.1 (Int.toNat (IntKind.wrap .i64 (A.2.2.1 - 1)))) 0)=true then M.ag (0<=A.2.2.1/\A.2.2.1
 < Int.ofNat (A.2.1.2 - A.2.1.1)) (M.ag (0<=A.1/\A.1<Int.ofNat (List.length A.2.2.2.1)) (M.pure (ab.next (IntKind.wrap .i64 (Add.add A.1 1),A.2.1,A.2.2.1,List.set A.2.2.2.1 (Int.toNat A.1) (List.getD A.2.2.2.1 (Add.add A.2.1.1 (Int.toNat A.2.2.1)) 0),())))) else M.pure (ab.next (A.1,A.2.1,A.2.2.1,A.2.2.2.1,())))))
 (ab.bm λ(A:Int×(Nat×Nat)×Int×z1'×Unit)=>M.pure (ab.next (A.1,A.2.1,IntKind.wrap .i64 (Add.add A.2.2.1 1),A.2.2.2.1,()))) else M.bind
 (M.pure (ab.next (A.1,A.2.2.2.1,()))) λr=>M.pure (ab.done r))
def wc:Int×z1'×Unit->M (ab (Int×z1'×Unit) (ab (z1'×Unit) ((Nat×Nat)×z1'×Unit))):=
 (λ(A:Int×z1'×Unit)=>if decide (A.1<Int.ofNat (List.length A.2.1))=true then M.bind (M.ag (0<=A.1/\A.1<Int.ofNat (List.length A.2.1)) (M.ag (0<=
 IntKind.wrap .i64 (A.1 - 1)/\IntKind.wrap .i64 (A.1 - 1)<Int.ofNat (List.length A.2.1)) (if decide (List.getD A.2.1 (Int.toNat A.1) 0=List.getD A.2.1 (Int.toNat
 (IntKind.wrap .i64 (A.1 - 1))) 0)=true then M.ag (0<=A.1/\A.1<=Int.ofNat (List.length A.2.1)/\Int.ofNat (List.length A.2.1)<=Int.ofNat (List.length A.2.1))
 (M.bind (M.loop Ez (A.1,(Int.toNat A.1,Int.toNat (Int.ofNat (List.length A.2.1))),1,A.2.1,())) (ab.bm λ(A:Int×z1'×Unit)=>M.ag (0<=A.1/\A.1<=
 Int.ofNat (List.length A.2.1)/\Int.ofNat (List.length A.2.1)<=Int.ofNat (List.length A.2.1)) (M.ag True (M.ag ((0:Int)<=0/\0<=A.1/\A.1<=Int.ofNat (List.length
 (List.take (Int.toNat A.1) A.2.1++List.replicate (Int.toNat (Int.ofNat (List.length A.2.1)) - Int.toNat A.1) 0++List.drop (Add.add (Int.toNat A.1) (List.length
 (List.replicate (Int.toNat (Int.ofNat (List.length A.2.1)) - Int.toNat A.1) (0:Int)))) A.2.1))) (M.bind (M.bind (M.bind (M.pure ((Int.toNat 0,Int.toNat A.1),List.take
 (Int.toNat A.1) A.2.1++List.replicate (Int.toNat (Int.ofNat (List.length A.2.1)) - Int.toNat A.1) 0++List.drop (Add.add (Int.toNat A.1) (List.length (List.replicate
 (Int.toNat (Int.ofNat (List.length A.2.1)) - Int.toNat A.1) (0:Int)))) A.2.1,())) λr=>M.pure (ab.done r)) λr=>M.pure (ab.done r)) λr=>M.pure (ab.done
 r)))))) else M.pure (ab.next (A.1,A.2.1,()))))) (ab.bm λ(A:Int×z1'×Unit)=>M.pure (ab.next (IntKind.wrap .i64 (Add.add A.1 1),A.2.1,()))) else
 M.bind (M.pure (ab.next (A.2.1,()))) λr=>M.pure (ab.done r))
structure yo(l:z1')(p:Nat)(m:z1'):Prop where
 len:m.length=l.length
 B7:m.take (fj l p).length=fj l p
 lt:(fj l p).length<p
 b5:∀ j,p<=j+1->m.getD j 0=l.getD j 0
theorem aqk{aq:Type}{l:List aq}{i j:Nat}{v d:aq}(h:i<l.length):(l.set i v).getD j d=if j=i then v else l.getD j d:=by
 grind
theorem yo.step{l m:z1'}{p:Nat}(h:yo l p m)(hp:p<l.length):yo l (p+1) (if n0 l p=true then m.set (fj l p).length (l.getD p 0) else m):=by
 have h1:=h.lt;have h2:=h.len;have hc:=PF l p;by_cases aj:n0 l p=true
 ·rw[if_pos aj]at hc ⊢;refine⟨by grind,?_,?_,λj aD=>?_⟩
  ·rw[hc,List.length_append,List.length_singleton];have aI:=h.B7;generalize fj l p=c at aI h1;apply List.ext_getElem?;intro j;rw[List.getElem?_take,List.getElem?_append,List.getElem?_set];grind
  ·grind
  ·rw[aqk (by omega),if_neg (by omega)];exact h.b5 j (by omega)
 ·rw[if_neg aj,List.append_nil]at hc;rw[if_neg aj];refine⟨h2,by rw[hc];exact h.B7,by grind,λj aD=>h.b5 j (by omega)⟩
theorem aql{R:Type}{l m:z1'}{k p:Nat}(an:l.length<60000)(aj:k<p)(lI:0<k)(h:yo l p m)(hp:p<l.length) :
  Ez (R:=R) (((fj l p).length:Nat),(k,l.length),((p - k:Nat):Int),m,())=M.pure (.next (((fj l (p+1)).length:Nat),(k,l.length),((p+1 - k:Nat):Int),(if n0 l p=true then m.set (fj l p).length (l.getD p 0) else m),())):=by
 have h1:=h.lt;have h2:=h.len;have hc:=PF l p;have bY:=bn (n:=((p - k:Nat):Int) - 1) (by omega) (by omega);have cy:IntKind.wrap .i64 (((p - k:Nat):Int)+1)=((p+1 - k:Nat):Int):=(bn (by omega) (by omega)).trans (by omega);have eo:=bn (n:=(((fj l p).length:Nat):Int)+1) (by omega) (by omega);have d1:decide (((p - k:Nat):Int)<((l.length - k:Nat):Int))=true:=by grind
 have b3:(0:Int)<=((p - k:Nat):Int)/\((p - k:Nat):Int)<((l.length - k:Nat):Int):=by omega
 have cr:(0:Int)<=((p - k:Nat):Int) - 1/\((p - k:Nat):Int) - 1<((l.length - k:Nat):Int):=by omega
 have dX:(0:Int)<=(((fj l p).length:Nat):Int)/\(((fj l p).length:Nat):Int)<(m.length:Int):=by omega
 have e1:k+(((p - k:Nat):Int)).toNat=p:=by omega
 have e2:k+(((p - k:Nat):Int) - 1).toNat=p - 1:=by omega
 have g1:=h.b5 p (by omega);have dW:=h.b5 (p - 1) (by omega);have zi:n0 l p=decide (l.getD p 0≠l.getD (p - 1) 0):=by
  unfold n0;grind
 unfold Ez;simp only[bI,d1,if_true,bY,b3,cr,and_self,M.bg,b4,iE,e1,e2,g1,dW,<-zi];by_cases IU:n0 l p=true
 ·rw[if_pos IU]at hc;simp only[IU,if_true,dX,and_self,M.bg,M.aE,M.bL,cy,eo,Int.toNat_natCast,decide_true];rw[hc];simp
 ·rw[if_neg IU,List.append_nil]at hc;simp only[IU,if_false,M.aE,M.bL,cy,Bool.false_eq_true,decide_true,if_true];rw[hc]
theorem aqm{R:Type}{l:z1'}{k:Nat}(an:l.length<60000)(lI:0<k):∀ (n p:Nat) (m:z1'),l.length - p=n->p<=l.length->k<p->yo l p m->
  ∃ df,yo l l.length df/\M.loop (Ez (R:=R)) (((fj l p).length:Nat),(k,l.length),((p - k:Nat):Int),m,())=M.pure (.next (((fj l l.length).length:Nat),df,())):=by
 intro n;induction n with
 | zero=>
  intro p m aB hp aj h;have:p=l.length:=by omega
  subst this;refine⟨m,h,M.s4 ?_⟩;unfold Ez;simp
 | succ n aJ=>
  intro p m aB hp aj h;have hp:p<l.length:=by omega
  obtain⟨df,h1,h2⟩:=aJ (p+1) _ (by omega) hp (by omega) (h.step hp);exact⟨df,h1,(M.BB (aql an aj lI h hp)).trans h2⟩
def we(l:z1'):(Nat×Nat)×z1'×Unit:=((0,(fj l l.length).length),fj l l.length++List.replicate (l.length - (fj l l.length).length) 0,())
theorem aqn{l:z1'}(an:l.length<60000):∀ (n p:Nat),l.length - p=n->p<=l.length->0<p->fj l p=l.take p->
  M.bind (M.loop wc ((p:Int),l,())) (ab.bm λ(A:z1'×Unit)=>M.pure ((0,List.length A.1),A.1,()))=M.pure (we l):=by
 intro n;induction n with
 | zero=>
  intro p aB hp h0 hc;have:p=l.length:=by omega
  subst this;rw[List.take_length]at hc;have ad:wc ((l.length:Int),l,())=M.pure (.done (.next (l,()))):=by
   unfold wc;simp
  rw[M.s4 ad,M.aE,M.bL];unfold we;simp_all
 | succ n aJ=>
  intro p aB hp h0 hc;have hp:p<l.length:=by omega
  have bY:=bn (n:=(p:Int) - 1) (by omega) (by omega);have cy:=bn (n:=(p:Int)+1) (by omega) (by omega);have cr:(0:Int)<=(p:Int) - 1/\(p:Int) - 1<(l.length:Int):=by omega
  have e1:((p:Int) - 1).toNat=p - 1:=by omega
  have zi:n0 l p=decide (l.getD p 0≠l.getD (p - 1) 0):=by
   unfold n0;rw[show decide (p=0)=false by grind,Bool.false_or]
  have oY:=PF l p;have Y_:(l.take p).length=p:=by grind
  by_cases aj:n0 l p=true
  ·have dY:¬l.getD p 0=l.getD (p - 1) 0:=by grind
   have ad:wc ((p:Int),l,())=M.pure (.next (((p+1:Nat):Int),l,())):=by
    unfold wc;simp_all
   rw[M.BB ad];refine aJ (p+1) (by omega) hp (by omega) ?_;simp_all
  ·have heq:l.getD p 0=l.getD (p - 1) 0:=by grind
   rw[if_neg aj,List.append_nil]at oY;have ei:yo l (p+1) l:=⟨rfl,by grind,by grind,λ_ _=>rfl⟩
   obtain⟨df,h1,h2⟩:=aqm (R:=ab (Int×z1'×Unit) (ab (Int×z1'×Unit) (ab (z1'×Unit) ((Nat×Nat)×z1'×Unit)))) an h0 (l.length - (p+1)) (p+1) l rfl hp (by omega) ei;rw[show (fj l (p+1)).length=p by grind,show p+1 - p=1 from by omega]at h2;have lB:=aqj l l.length;have amP:=h1.len;have kI:=h1.B7;have dX:(0:Int)<=((fj l l.length).length:Int)/\((fj l l.length).length:Int)<=(df.length:Int):=by omega
   have jb:List.take (fj l l.length).length df++List.replicate (df.length - (fj l l.length).length) 0++List.drop ((fj l l.length).length+(List.replicate (df.length - (fj l l.length).length) (0:Int)).length) df=fj l l.length++List.replicate (l.length - (fj l l.length).length) 0:=by
    simp_all
   have ad:wc ((p:Int),l,())=M.pure (.done (.done (we l))):=by
    unfold wc;simp only[bI,cG hp,if_true,cq hp,M.bg,bY,cr,and_self,e1,Int.toNat_natCast,heq,decide_true];rw[M.bp (by omega)];erw [h2];simp only[M.aE,M.bL,bI,Int.toNat_natCast,iE,jb,M.bg];rw[M.bp ⟨dX.1,dX.2,Int.le_refl _⟩,M.bp ⟨Int.le_refl _,dX.1,by grind⟩];simp only[M.aE,M.pn,jb];rfl
   rw[M.s4 ad,M.aE,M.pn]
def IV(x:z1'×Unit):M ((Nat×Nat)×z1'×Unit):=M.dx (x.1.length<60000) (we x.1)
theorem aqo(x):M.le (aqg x) (IV x):=M.bj λh=>by
 obtain⟨l,u⟩:=x;change l.length<60000 at h;show (if decide (Int.ofNat l.length<2)=true then M.pure ((0,l.length),l,()) else M.bind (M.loop wc (1,l,())) (ab.bm λ(A:z1'×Unit)=>M.pure ((0,List.length A.1),A.1,())))=M.pure (we l);have nC:∀ l:z1',l.length<2->fj l l.length=l:=λl an=>by
  match l,an with
  | [],_=>rfl
  | [a],_=>rfl
 by_cases h2:l.length<2
 ·have aw:decide (Int.ofNat l.length<2)=true:=by grind
  rw[if_pos aw];unfold we;simp_all
 ·have aw:¬decide (Int.ofNat l.length<2)=true:=by grind
  rw[if_neg aw];refine aqn h (l.length - 1) 1 rfl (by omega) (by omega) ?_;match l,h2 with
  | a::l,_=>rfl
  | [],h2=>grind
end Go.Fer.H
namespace Go.Fer.H
open M (ab)
theorem aqp{l:z1'}:∀ j,j<l.length->l.getD j 0∈fj l l.length:=by
 intro j;induction j with
 | zero=>
  intro h;unfold fj;exact List.mem_map.2 ⟨0,List.mem_filter.2 ⟨by grind,by rfl⟩,rfl⟩
 | succ j aJ=>
  intro h;by_cases aj:n0 l (j+1)=true
  ·unfold fj;grind
  ·have:l.getD (j+1) 0=l.getD j 0:=by
    unfold n0 at aj;grind
   grind
theorem aqq{l:z1'}{x:Int}:x∈fj l l.length<->x∈l:=by
 constructor
 ·intro h;unfold fj at h;grind
 ·intro h;obtain⟨j,aD,rfl⟩:=List.mem_iff_getElem.1 h;rw[<-sz (d:=0) aD];exact aqp j aD
theorem aqr{l:z1'}(h:l.Pairwise (·<=·)):(fj l l.length).Pairwise (·<·):=by
 unfold fj;rw[List.pairwise_map];have aa:((List.range l.length).filter (n0 l)).Pairwise (·<·):=List.Pairwise.filter _ List.pairwise_lt_range;refine List.Pairwise.imp_of_mem ?_ aa;intro i j G aD zn;obtain⟨aqs,h9⟩:=List.mem_filter.1 aD;have aqs:j<l.length:=by grind
 have dY:l.getD j 0≠l.getD (j - 1) 0:=by
  unfold n0 at h9;grind
 have hs:=List.pairwise_iff_getElem.1 h;grind
def hB(a b:z1'):z1':=(dM 0 99).filter λid=>a.contains id||b.contains id
theorem PG(a b:Int):(dM a b).Pairwise (·<·):=by
 unfold dM;rw[List.pairwise_map];exact (List.pairwise_lt_range).imp λh=>by omega
theorem aqt{a b:z1'}(aU:a.Pairwise (·<·))(ad:b.Pairwise (·<·))(h:∀ x,x∈a<->x∈b):a=b:=by
 have aqu:a.Nodup:=aU.imp λh=>by omega
 have mf:b.Nodup:=ad.imp λh=>by omega
 have hp:=(List.perm_ext_iff_of_nodup aqu mf).2 h;rw[<-Aq (aU.imp λh=>by omega) (List.Perm.refl a)];exact Aq (ad.imp λh=>by omega) hp
theorem aqv{a b:z1'}(aU:∀ x∈a,bM x 0 99=true)(ad:∀ x∈b,bM x 0 99=true):fj (fi gZ (a++b)) (fi gZ (a++b)).length=hB a b:=by
 refine aqt (aqr (N3 _)) (List.Pairwise.filter _ (PG 0 99)) λx=>?_;rw[aqq,WT];unfold hB;simp only[List.mem_append,List.mem_filter,oz,Bool.or_eq_true,List.contains_iff_mem];refine⟨λh=>⟨?_,h⟩,λh=>h.2⟩;rcases h with h | h
 ·exact nT.1 (aU x h)
 ·exact nT.1 (ad x h)
abbrev wg:aR:=([],[],[],[],0,0,0,0,0,0,0)
def iY(c:aR)(more:List aS)(gM:z1'):aR:=(c.1,more,gM,c.2.2.2)
def kW(c:aR)(more:List aS)(gM:z1'):aR×Int:=
 if b_ c≠0 then (wg,b_ c) else if b_ (iY c more gM)≠0 then (wg,b_ (iY c more gM)) else
 if ka (c.2.1++more)=true then (wg,91) else
 if (decide (Int.ofNat (db (c.2.1++more)).length > 12)||decide (Int.ofNat (hB c.2.2.1 gM).length > 12))=true then (wg,90) else (iY c (db (c.2.1++more)) (hB c.2.2.1 gM),0)
abbrev Be:aL:=⟨.ay jl (.ay (.slice gX) fI),.ay jl tI,λx=>ij x.1/\x.2.1.length<2 ^ 63/\x.2.2.length<2 ^ 63,λx=>kW x.1 x.2.1 x.2.2⟩
abbrev EA:aL:=⟨.slice mn,.slice mn,λx=>x.length<65536,λx=>x⟩
theorem aqw(x):M.le (Wk x) (EA.sh x):=M.sk λh=>by
 unfold Wk;rw[M.fJ];refine⟨⟨false,by simp⟩,λb ad=>?_⟩;change b=true->x=[]at ad;cases b with
 | true=>rw[ad rfl];exact M.dI.2 rfl
 | false=>
  simp only[Bool.false_eq_true,if_false];exact M.kD.2 ⟨gF (by grind),M.dI.2 (by simp)⟩
structure ZK(c:aR):Prop where
 dA:c.1.length<=3
 dB:c.2.1.length<=12
 iu:c.2.2.1.length<=12
 n4:c.2.2.2.1.length<=4
 ids:∀ s∈c.2.1,bM s.1 0 99=true
 gM:∀ n∈c.2.2.1,bM n 0 99=true
 cl:ka c.2.1=false
theorem EB{c:aR}(h:b_ c=0):ZK c:=by
 unfold b_ at h;by_cases hc:jL c=true
 ·rw[if_pos hc]at h;have lB:ka c.2.1=false:=by
   grind
  have G:=HD hc;unfold jL sx at hc;simp only[Bool.and_eq_true,List.all_eq_true,Bool.not_eq_true',Bool.or_eq_false_iff,decide_eq_false_iff_not]at hc;obtain⟨⟨⟨⟨⟨ba,_⟩,_⟩,h2⟩,h3⟩,_⟩:=hc;exact⟨by omega,by omega,by omega,by omega,G.2,h3,lB⟩
 grind
theorem aqx{a b:List aS}(aU:a.length<=12)(ad:b.length<=12)(h1:∀ s∈a,bM s.1 0 99=true)(h2:∀ s∈b,bM s.1 0 99=true):vC (a++b):=
 ⟨by grind,λs hs=>(List.mem_append.1 hs).elim (h1 s) (h2 s)⟩
theorem aqy(x):M.le (ZF hO.sh Ax.sh IS.sh IT xY IV EA.sh x) (Be.sh x):=M.bj λh=>by
 obtain⟨c,more,gM⟩:=x;obtain⟨h1,h2,h3⟩:=h;change ij c at h1;change more.length<2 ^ 63 at h2;change gM.length<2 ^ 63 at h3;have tz:ij (iY c more gM):=⟨h1.1,h2,h3,h1.2.2.2⟩
 unfold ZF;show _=M.pure (kW c more gM);unfold kW;rw[show hO.sh (c,more,gM).1=M.pure (b_ c) from M.bF h1 _,M.aE];by_cases e1:b_ c=0
 ·have g1:=EB e1;rw[show hO.sh ((c,more,gM).1.1,(c,more,gM).2.1,(c,more,gM).2.2,(c,more,gM).1.2.2.2)=M.pure (b_ (iY c more gM)) from M.bF tz _,M.aE];by_cases e2:b_ (iY c more gM)=0
  ·have dW:=EB e2;have dB:more.length<=12:=dW.dB;have iu:gM.length<=12:=dW.iu;have p1:=g1.dB;have l9:=g1.iu;have G:vC (c.2.1++more):=aqx g1.dB dW.dB g1.ids dW.ids;rw[if_neg (by grind),if_neg (by grind),if_neg (by omega),if_neg (by omega)];rw[show IS.sh [(c,more,gM).1.2.1,(c,more,gM).2.1]=M.pure (c.2.1++more) from (M.bF ⟨by simp,by grind⟩ _).trans (congrArg M.pure (by simp)),M.aE];rw[show Ax.sh (c.2.1++more)=M.pure (if ka (c.2.1++more)=true then ([],false) else (db (c.2.1++more),true)) from M.bF G _,M.aE];cases hc:ka (c.2.1++more) with
   | true=>simp
   | false=>
    simp only[Bool.false_eq_true,if_false,Bool.not_true];rw[show IT ([c.2.2.1,gM],())=M.pure (c.2.2.1++gM,()) from (M.bF ⟨by simp,by grind⟩ _).trans (congrArg M.pure (by simp)),M.aE];rw[show xY ((c.2.2.1++gM,()):z1'×Unit)=M.pure (fi gZ (c.2.2.1++gM),()) from M.bF (by grind) _,M.aE];rw[show IV ((fi gZ (c.2.2.1++gM),()):z1'×Unit)=M.pure (we (fi gZ (c.2.2.1++gM))) from M.bF (by show (fi gZ (c.2.2.1++gM)).length<_;rw[Hw];grind) _,M.aE];have h5:=aqv g1.gM dW.gM;unfold we;rw[show (fj (fi gZ (c.2.2.1++gM)) (fi gZ (c.2.2.1++gM)).length)=hB c.2.2.1 gM from h5];simp only[Nat.sub_zero,List.drop_zero,List.take_left];rw[show EA.sh c.1=M.pure c.1 from M.bF (by have:=g1.dA;omega) _,show EA.sh c.2.2.2.1=M.pure c.2.2.2.1 from M.bF (by have:=g1.n4;omega) _];simp only[M.ik,M.fg,M.bg];split<;>rfl
  grind
 grind
end Go.Fer.H
namespace Go.Fer.W
open M (ab)
abbrev sP:af:=.slice .str
abbrev wh:af:=.st (.ay lW H.jl)
def cD:aH->List aH
 | []=>[[]]
 | c::s=>if c=32 then []::cD s else match cD s with
  | []=>[[c]]
  | w::l=>(c::w)::l
theorem uD:∀ (s:aH),1<=(cD s).length/\(cD s).length<=s.length+1
 | []=>by simp[cD]
 | c::s=>by
  have:=uD s;unfold cD;grind
theorem ZL:∀ (s:aH) {w:aH},w∈cD s->w.length<=s.length
 | [],w,h=>by simp[cD]at h;simp[h]
 | c::s,w,h=>by
  have aJ:=@ZL s;unfold cD at h;grind
def fM:aH->Int->Int
 | [],n=>n
 | c::s,n=>if (decide ((c.toNat:Int)<48)||decide ((c.toNat:Int) > 57))=true then -1 else fM s (10*n+((c.toNat:Int) - 48))
def e_(s:aH):Int:=if (decide (s.length=0)||decide (s.length > 6)||decide (s.length > 1)&&decide ((s.getD 0 0).toNat=48))=true then -1 else fM s 0
theorem PH:∀ (s:aH) (n:Int) (k:Nat),0<=n->n<10 ^ k->fM s n<10 ^ (k+s.length)/\-1<=fM s n
 | [],n,k,h0,h1=>by simp[fM];omega
 | c::s,n,k,h0,h1=>by
  unfold fM;have hp:(0:Int)<10 ^ (k+(c::s).length):=Int.pow_pos (by decide);split
  ·omega
  ·rename_i hc;simp only[Bool.or_eq_true,decide_eq_true_eq,not_or]at hc;have:=PH s (10*n+((c.toNat:Int) - 48)) (k+1) (by omega) (by omega);grind
theorem aqz(s:aH):-1<=e_ s/\e_ s<=999999:=by
 unfold e_;split
 ·omega
 ·rename_i h;simp only[Bool.or_eq_true,decide_eq_true_eq,not_or]at h;have:=PH s 0 0 (by decide) (by decide);have h2:(10:Int) ^ (0+s.length)<=10 ^ 6:=by
   have:=Nat.pow_le_pow_right (n:=10) (by decide) (show 0+s.length<=6 by omega);grind
  omega
def sQ(s:aH):Int:=match Go.Lib.atoiAll s with
 | .ok v=>v
 | .range=>Go.Lib.atoiSat s
 | _=>0
def q1(s:aH):Int×Bool:=(sQ s,decide (0<=e_ s))
def IW(l:List aH):Option (z1'):=if l.all (λw=>decide (0<=e_ w))=true then some (l.map e_) else none
def rC(n:Int):aH:=Go.Lib.itoa (IntKind.wrap .i64 n)
theorem PI(n:Int):(rC n).length<=21:=by
 have:=pY .i64 n;exact Go.Lib.itoa_length_le _ this.1 this.2
abbrev mv:aH:=[111,107]
abbrev yp:aH:=[110,111]
abbrev ZM:aH:=[110,111,110,101]
abbrev ZN:aH:=[115,104,111,112]
abbrev aqA:aH:=[108,105,97,114]
abbrev ZO:aH:=[63]
def rD(l:z1'):aH:=if l=[] then ZM else Go.Lib.join (l.map rC) [32]
def qA(e:Int)(l:z1'):aH:=if e=0 then rD l else if e=3 then ZM else yp
def yq(x:(Int×Int)×Int):aH:=qA x.2 [x.1.1,x.1.2]
abbrev bb(l:z1')(i:Nat):Int:=l.getD i 0
def pM(d:aX)(m:List H.aS)(v:z1'):aH×aX:=if (H.kW d.2 m v).2≠0 then (yp,d) else (mv,(d.1,(H.kW d.2 m v).1))
def n1(d:aX)(s:bt):aH×aX:=if iX s≠0 then (yp,d) else (mv,(s,d.2))
def PJ(d:aX)(l:z1'):aH×aX:=pM d [(bb l 0,bb l 1,bb l 2,1,bb l 3,bb l 4)] []
def PK(d:aX)(l:z1'):aH×aX:=pM d [(bb l 0,bb l 1,bb l 2,2,bb l 3,0)] []
def PL(d:aX)(l:z1'):aH×aX:=pM d [] l
def PM(d:aX)(l:z1'):aH×aX:=(yq (H.HK d.2 (bb l 0)),d)
def PN(d:aX)(l:z1'):aH×aX:=(yq (H.HM d.2 (bb l 0)),d)
def PO(d:aX)(l:z1'):aH×aX:=(yq (H.HO d.2 (bb l 0)),d)
def PQ(d:aX)(l:z1'):aH×aX:=(yq (H.HQ d.2 (bb l 0)),d)
def PR(r:z1'×Int):aH:=if (decide (r.2≠0)||decide (r.1.getD 0 0>=0))=true then qA r.2 r.1 else if r.1.length=1 then ZN else ZN++[32]++rD (r.1.drop 1)
def PS(d:aX)(l:z1'):aH×aX:=(PR (H.rp d.2 (bb l 0) (bb l 1)),d)
def PT(r:z1'×z1'×Int):aH:=if r.2.2≠0 then qA r.2.2 [] else rD r.1++[32,47,32]++rD r.2.1
def PU(d:aX)(l:z1'):aH×aX:=(PT (H.sC d.2 (bb l 0)),d)
def nc(w:be)(t:Int×Int×Int×Int):be:=(w.1,w.2.1,w.2.2.1,w.2.2.2++[t])
def yr(d:aX)(l:z1'):aH×aX:=
 if b_ (nc d.1.1 (bb l 0,bb l 1,bb l 2,bb l 3))≠0 then (yp,d) else if (vU (nc d.1.1 (bb l 0,bb l 1,bb l 2,bb l 3)) (bb l 0)).2≠0 then (aqA,d)
 else (mv,((nc d.1.1 (bb l 0,bb l 1,bb l 2,bb l 3),d.1.2),d.2))
def uy(r:Int×Int):aH:=if r.2≠0 then qA r.2 [] else List.getD [[],[115,117,114,101,108,121],[110,101,118,101,114],[112,101,114,104,97,112,115]] r.1.toNat []
def PV(d:aX)(l:z1'):aH×aX:=(uy (qy d.1.1 (bb l 0) (bb l 1) (bb l 2)),d)
def yt(d:aX)(l:z1'):aH×aX:=if bb l 0>=(d.1.2.1.length:Int) then (yp,d) else n1 d (d.1.1,d.1.2.1.set (bb l 0).toNat (d.1.2.1.getD (bb l 0).toNat 0+bb l 1),d.1.2.2)
def PW(d:aX)(l:z1'):aH×aX:=n1 d (d.1.1,d.1.2.1,d.1.2.2.1,d.1.2.2.2.1,d.1.2.2.2.2.1++[(bb l 0,bb l 1,bb l 2)],d.1.2.2.2.2.2)
def PX(d:aX)(l:z1'):aH×aX:=n1 d (d.1.1,d.1.2.1,d.1.2.2.1++[(bb l 0,bb l 1,bb l 2,bb l 3,l.drop 4)],d.1.2.2.2)
def PY(d:aX)(l:z1'):aH×aX:=n1 d (d.1.1,d.1.2.1,d.1.2.2.1,d.1.2.2.2.1++[(l.drop 5,(bb l 0,bb l 1),bb l 2,bb l 3,bb l 4)],d.1.2.2.2.2)
def yu(d:aX)(l:z1'):aH×aX:=if bb l 0>=(d.1.2.2.2.1.length:Int) then (yp,d) else (mv,((d.1.1,d.1.2.1,d.1.2.2.1,d.1.2.2.2.1.eraseIdx (bb l 0).toNat,d.1.2.2.2.2),d.2))
def PZ(d:aX)(l:z1'):aH×aX:=(qA (uB d.1 (bb l 0)).2 (uB d.1 (bb l 0)).1,d)
def P0(d:aX)(l:z1'):aH×aX:=(qA (Bc d.1 (l.map (· - 1))).2 [(Bc d.1 (l.map (· - 1))).1],d)
def P1(d:aX)(_:z1'):aH×aX:=(qA (yn d.1 true).2 [(yn d.1 true).1],d)
def P2(d:aX)(_:z1'):aH×aX:=(qA (Bb d.1).2 [(Bb d.1).1],d)
def Bf:Nat->aX->z1'->aH×aX
 | 0=>PJ | 1=>PK | 2=>PL | 3=>PM | 4=>PN | 5=>PO | 6=>PQ | 7=>PS | 8=>PU | 9=>yr
 | 10=>PV | 11=>yt | 12=>PW | 13=>PX | 14=>PY | 15=>yu | 16=>PZ | 17=>P0 | 18=>P1 | _=>P2
def jS:List (aH×Int×Bool):=[([108,101,110,100],5,false),([98,97,99,107],4,false),([118,111,105,100],1,false),([108,97,115,116,115],1,false),([102,101,101],1,false),([111,119,101,115],1,false),([104,101,108,100],1,false),([119,104,101,114,101],2,false),([109,105,115,115,105,110,103],1,false),([116,114,105,97,108],4,false),([102,105,116,115],3,false),([115,116,111,99,107],2,false),([99,111,109,101,115],3,false),([112,105,101,99,101],4,true),([119,105,115,104],5,true),([100,114,111,112],1,false),([99,97,110],1,false),([116,97,107,101,115],0,true),([109,111,115,116],0,false),([101,120,116,114,97],0,false)]
def oP(w:aH):List (aH×Int×Bool)->Nat->Option (Int×Bool×Nat)
 | [],_=>none
 | p::l,i=>if w=p.1 then some (p.2.1,p.2.2,i) else oP w l (i+1)
def wj(s:aH):Option (Nat×z1'):=
 match oP ((cD s).getD 0 []) jS 0 with
 | none=>none
 | some (k,m,j)=>if (decide (((cD s).length:Int) - 1<k)||decide (((cD s).length:Int) - 1 > k)&&!m)=true then none else (IW ((cD s).drop 1)).map λl=>(j,l)
def kA(d:aX)(s:aH):aH×aX:=match wj s with
 | none=>(ZO,d)
 | some (j,l)=>Bf j d l
def cO:aX->List aH->List aH×aX
 | d,[]=>([],d)
 | d,s::l=>((kA d s).1::(cO (kA d s).2 l).1,(cO (kA d s).2 l).2)
theorem aqB(d:aX)(a b:List aH):cO d (a++b)=((cO d a).1++(cO (cO d a).2 b).1,(cO (cO d a).2 b).2):=by
 induction a generalizing d with
 | nil=>rfl
 | cons s a aJ=>simp only[List.cons_append,cO,aJ]
theorem IX(d:aX)(a:List aH):(cO d a).1.length=a.length:=by
 induction a generalizing d with
 | nil=>rfl
 | cons s a aJ=>simp only[cO,List.length_cons,aJ]
def jT(d:aX):Int:=if (decide (iX d.1≠0)||decide (H.b_ d.2≠0))=true then 120 else 0
def dK(d:aX):aX:=(d.1,(H.kW d.2 [] []).1)
abbrev ZP:aX:=((([],[],0,[]),[],[],[],[],0),[],[],[],[],0,0,0,0,0,0,0)
def wk(d:aX)(l:List aH):List aH×aX×Int:=
 if jT d≠0 then ([],ZP,jT d) else if l.length > 40 then ([],ZP,2) else ((cO (dK d) l).1,(cO (dK d) l).2,0)
structure cW(d:aX):Prop where
 gQ:e' d.1
 yv:iX d.1=0
 wm:H.b_ d.2=0
 Bg:H.kd d.2.1<=60
theorem cW.val{d:aX}(h:cW d):lX d.1:=A5 h.gQ h.yv
theorem cW.ZQ{d:aX}(h:cW d):jT d=0:=by simp[jT,h.yv,h.wm]
theorem cW.ZR{d:aX}(h:cW d):H.ZK d.2:=H.EB h.wm
theorem cW.gx{d:aX}(h:cW d):H.gx d.2:=by
 have:=h.ZR;exact⟨⟨by have:=this.dA;omega,by have:=this.dB;omega,by have:=this.iu;omega,by have:=this.n4;omega⟩,λ_=>h.Bg⟩
theorem cW.ij{d:aX}(h:cW d):H.ij d.2:=h.gx.gQ
structure ee(k:Nat)(l:z1'):Prop where
 P3:k<=l.length
 IY:l.length<=10000
 num:∀ n∈l,0<=n/\n<=999999
theorem ee.bb{k:Nat}{l:z1'}(h:ee k l)(i:Nat):0<=bb l i/\bb l i<=999999:=by
 rcases Nat.lt_or_ge i l.length with G | G
 ·have:=h.num l[i] (by simp);grind
 ·grind
end Go.Fer.W
namespace Go.Fer.W
open M (ab)
open H (gF)
abbrev IZ:aL:=⟨.int .i64,.str,λ_=>True,rC⟩
abbrev EC:aL:=⟨.ay sP .str,.str,λx=>x.1.length<=60000/\(∀ w∈x.1,w.length<=21)/\x.2.length=1,λx=>Go.Lib.join x.1 x.2⟩
theorem ZS:∀ (l:List aH) (s:aH) (n:Nat),(∀ w∈l,w.length<=n)->(Go.Lib.join l s).length<=l.length*(n+s.length)
 | [],s,n,h=>by simp[Go.Lib.join_nil]
 | x::r,s,n,h=>by
  rw[Go.Lib.join_cons];have aI:∀ (r:List aH),(∀ w∈r,w.length<=n)->(Go.Lib.joinTail s r).length<=r.length*(n+s.length):=by
   intro r;induction r with
   | nil=>intro _;simp[Go.Lib.joinTail]
   | cons y r aJ=>
    intro h;have h1:=aJ λw hw=>h w (by grind);have h2:=h y (by simp);simp only[Go.Lib.joinTail,List.map_cons,List.flatten_cons,List.length_append,List.length_cons,Nat.succ_mul]at h1 ⊢;omega
  have h1:=aI r λw hw=>h w (by grind);have h2:=h x (by simp);simp only[List.length_append,List.length_cons,Nat.succ_mul];omega
theorem P4(l:z1'):(rD l).length<=l.length*22+4:=by
 unfold rD;split
 ·simp
 ·have:=ZS (l.map rC) [32] 21 λw hw=>by
   obtain⟨n,_,rfl⟩:=List.mem_map.1 hw;exact PI n
  grind
abbrev yw:aL:=⟨fI,.str,λx=>x.length<=60000,rD⟩
theorem aqC(x):M.le (Ya IZ.sh EC.sh x) (yw.sh x):=M.bj λh=>by
 change x.length<=60000 at h;unfold Ya;show _=M.pure (rD x);unfold rD;by_cases hx:x=[]
 ·grind
 ·have an:x.length≠0:=by grind
  rw[if_neg (by grind),if_neg hx];rw[M.gj x (λi (o:List aH)=>(x,(x.length:Int),(i:Int),o,())) (λn o=>.next (o++[rC n])) (λo=>.next (o,())) (λi o=>o.length=i) [] ?_ rfl ?_ ?_]
  ·rw[dZ,xN,List.nil_append,M.aE,M.bL];rw[show EC.sh (x.map rC,[32])=M.pure (Go.Lib.join (x.map rC) [32]) from M.bF ⟨by grind,λw hw=>by
    obtain⟨n,_,rfl⟩:=List.mem_map.1 hw;exact PI n,rfl⟩ _,M.aE]
  ·rfl
  ·intro i G o ah;have hw:=bn (n:=(i:Int)+1) (by omega) (by omega);refine⟨?_,λa1 cQ=>?_⟩
   ·simp only[bI,cG G,if_true,c6 G,cq G,M.bg,b4,hw];rw[show IZ.sh x[i]=M.pure (rC x[i]) from rfl,M.aE,M.bp (gF (by grind))];rfl
   ·grind
  simp
abbrev qB:aL:=⟨.ay (.int .i64) fI,.str,λx=>x.2.length<=60000,λx=>qA x.1 x.2⟩
theorem aqD(x):M.le (X' yw.sh x) (qB.sh x):=M.bj λh=>by
 change x.2.length<=60000 at h;unfold X';show _=M.pure (qA x.1 x.2);unfold qA;rw[show yw.sh x.2=M.pure (rD x.2) from M.bF h _,M.aE];grind
abbrev yx:aL:=⟨.ay mn (.int .i64),.str,λ_=>True,yq⟩
theorem aqE(x):M.le (X_ qB.sh x) (yx.sh x):=M.bj λ_=>by
 unfold X_;rw[show qB.sh (x.2,[x.1.1,x.1.2])=M.pure (yq x) from M.bF (show 2<=60000 by decide) _,M.aE]
theorem yy{e:Int}{l:z1'}(h:l.length<=60000):qB.sh (e,l)=M.pure (qA e l):=M.bF h _
theorem P5{l:z1'}(h:l.length<=60000):yw.sh l=M.pure (rD l):=M.bF h _
theorem I0(x:(Int×Int)×Int):yx.sh x=M.pure (yq x):=rfl
def shD(k:Nat)(g:aX->z1'->aH×aX)(x:z1'×aX×Unit):M (aH×aX×Unit):=M.dx (cW x.2.1/\ee k x.1) ((g x.2.1 x.1).1,(g x.2.1 x.1).2,())
theorem nd:Int.toNat 0=0:=rfl
theorem nf:Int.toNat 1=1:=rfl
theorem ng:Int.toNat 2=2:=rfl
theorem nh:Int.toNat 3=3:=rfl
theorem ni:Int.toNat 4=4:=rfl
theorem nj:Int.toNat 5=5:=rfl
theorem nk{aq:Type}{k:Nat}{l:z1'}(h:ee k l)(m:M aq)(i:Int)(G:0<=i/\i<(k:Int)):M.ag (0<=i/\i<Int.ofNat l.length) m=m:=
 M.bp ⟨G.1,by have:=h.P3;grind⟩ m
def Bh(x:List H.aS×z1'×aX×Unit):M (aH×aX×Unit):=M.dx (cW x.2.2.1/\x.1.length<2 ^ 63/\x.2.1.length<2 ^ 63) ((pM x.2.2.1 x.1 x.2.1).1,(pM x.2.2.1 x.1 x.2.1).2,())
theorem aqF(x):M.le (X6 H.Be.sh x) (Bh x):=M.bj λh=>by
 obtain⟨m,v,d,⟨⟩⟩:=x;obtain⟨aw,h1,h2⟩:=h;unfold X6;rw[M.bg,show H.Be.sh (d.2,m,v)=M.pure (H.kW d.2 m v) from M.bF ⟨aw.ij,h1,h2⟩ _,M.aE];unfold pM;by_cases e:(H.kW d.2 m v).2=0<;>simp[e]
theorem P6{d:aX}(aw:cW d)(m:List H.aS)(v:z1')(h1:m.length<2 ^ 63)(h2:v.length<2 ^ 63):Bh (m,v,d,())=M.pure ((pM d m v).1,(pM d m v).2,()):=M.bF ⟨aw,h1,h2⟩ _
theorem aqG(x):M.le (X5 Bh x) (shD 5 PJ x):=M.bj λh=>by
 obtain⟨l,d,⟨⟩⟩:=x;obtain⟨aw,an⟩:cW d/\ee _ l:=h;unfold X5;simp (disch:=decide) only [nk an,M.bg,nd,nf,ng,nh,ni,nj];rw[P6 aw _ _ (by simp) (by simp),M.aE];rfl
theorem aqH(x):M.le (X7 Bh x) (shD 4 PK x):=M.bj λh=>by
 obtain⟨l,d,⟨⟩⟩:=x;obtain⟨aw,an⟩:cW d/\ee _ l:=h;unfold X7;simp (disch:=decide) only [nk an,M.bg,nd,nf,ng,nh,ni,nj];rw[P6 aw _ _ (by simp) (by simp),M.aE];rfl
theorem Oj(x):M.le (X8 Bh x) (shD 1 PL x):=M.bj λh=>by
 obtain⟨l,d,⟨⟩⟩:=x;obtain⟨aw,an⟩:cW d/\ee _ l:=h;unfold X8;rw[P6 aw _ _ (by simp) (show l.length<2 ^ 63 by have:=an.IY;omega),M.aE];rfl
theorem aqI(x):M.le (X9 H.HL.sh yx.sh x) (shD 1 PM x):=M.bj λh=>by
 obtain⟨l,d,⟨⟩⟩:=x;obtain⟨aw,an⟩:cW d/\ee _ l:=h;unfold X9;simp (disch:=decide) only [nk an,M.bg,nd,nf,ng,nh,ni,nj];rw[show H.HL.sh (d.2,bb l 0)=M.pure _ from M.bF aw.gx _];simp only[M.ik,M.fg,M.bg,I0];rfl
theorem aqJ(x):M.le (Yb H.HN.sh yx.sh x) (shD 1 PN x):=M.bj λh=>by
 obtain⟨l,d,⟨⟩⟩:=x;obtain⟨aw,an⟩:cW d/\ee _ l:=h;unfold Yb;simp (disch:=decide) only [nk an,M.bg,nd,nf,ng,nh,ni,nj];rw[show H.HN.sh (d.2,bb l 0)=M.pure _ from M.bF aw.gx _];simp only[M.ik,M.fg,M.bg,I0];rfl
theorem aqK(x):M.le (Yc H.HP.sh yx.sh x) (shD 1 PO x):=M.bj λh=>by
 obtain⟨l,d,⟨⟩⟩:=x;obtain⟨aw,an⟩:cW d/\ee _ l:=h;unfold Yc;simp (disch:=decide) only [nk an,M.bg,nd,nf,ng,nh,ni,nj];rw[show H.HP.sh (d.2,bb l 0)=M.pure _ from M.bF aw.gx _];simp only[M.ik,M.fg,M.bg,I0];rfl
theorem aqL(x):M.le (Yd H.HR.sh yx.sh x) (shD 1 PQ x):=M.bj λh=>by
 obtain⟨l,d,⟨⟩⟩:=x;obtain⟨aw,an⟩:cW d/\ee _ l:=h;unfold Yd;simp (disch:=decide) only [nk an,M.bg,nd,nf,ng,nh,ni,nj];rw[show H.HR.sh (d.2,bb l 0)=M.pure _ from M.bF aw.gx _];simp only[M.ik,M.fg,M.bg,I0];rfl
theorem P7{a b:Int}:(dM a b).length=(b+1 - a).toNat:=by simp[dM];omega
theorem aqM(c:H.aR)(u t:Int):(H.rp c u t).1.length<=101:=Nat.le_trans (List.length_filter_le ..) (by rw[P7];decide)
theorem aqN{c:H.aR}{u t:Int}(h:(H.rp c u t).2=0):0<(H.rp c u t).1.length:=by
 unfold H.rp at h ⊢;rcases H.AK c (H.vH u t) with⟨h1,_⟩ | ⟨h1,h2,h3,aT⟩
 ·omega
 ·have aA:=H.oH h2;have ct:(0<=u/\u<=9)/\0<=t/\t<=9999:=by
   unfold H.vH at h3;rw[Bool.and_eq_true,H.nT,H.nT]at h3;exact h3
  have dY:H.cw c≠[]:=by
   intro he;unfold H.et at h1;grind
  obtain⟨w,T,hT⟩:=List.exists_cons_of_ne_nil dY;have hw:H.iI c w=true:=H.vL (by grind);have aj:=H.XW aA hw ct.1 t;have ad:-1<=H.lj c w u t/\H.lj c w u t<=99:=by
   rcases H.OH c w u t with h | ⟨s,hs,h⟩
   ·omega
   ·rw[h];obtain⟨e,he,rfl⟩:=List.mem_map.1 hs;have:=H.OE aA (List.mem_filter.1 he).1;omega
  refine List.length_pos_of_mem (a:=H.lj c w u t) (List.mem_filter.2 ⟨oz.2 ad,?_⟩);rw[List.contains_iff_mem];unfold H.Od;grind
theorem aqO(x):M.le (Ye H.HS.sh qB.sh yw.sh x) (shD 2 PS x):=M.bj λh=>by
 obtain⟨l,d,⟨⟩⟩:=x;obtain⟨aw,an⟩:cW d/\ee _ l:=h;unfold Ye;simp (disch:=decide) only [nk an,M.bg,nd,nf,ng,nh,ni,nj];have h1:=aqM d.2 (bb l 0) (bb l 1);have h2:=aqN (c:=d.2) (u:=bb l 0) (t:=bb l 1);have hc:H.HS.sh (d.2,bb l 0,bb l 1)=M.pure (H.rp d.2 (bb l 0) (bb l 1)):=M.bF aw.gx _;simp only[hc];show _=M.pure (PR (H.rp d.2 (bb l 0) (bb l 1)),d,());generalize H.rp d.2 (bb l 0) (bb l 1)=r at *
 simp only[M.ik,M.fg,M.bg];rw[M.bp (λad=>⟨⟨ad,trivial⟩,⟨by decide,by grind⟩,trivial⟩),yy (by omega),M.aE];unfold PR;by_cases e:(decide (r.2≠0)||decide (r.1.getD 0 0>=0))=true
 ·grind
 ·rw[if_neg e,if_neg e];have e0:r.2=0:=by grind
  have hp:=h2 e0;by_cases e1:r.1.length=1
  ·grind
  ·rw[if_neg (by grind),if_neg e1];rw[M.bp ⟨by decide,by grind,Int.le_refl _⟩];have pA:List.take (Int.ofNat r.1.length).toNat r.1=r.1:=by simp
   rw[pA];rw[P5 (by grind),M.aE];have lF:=P4 (r.1.drop 1);rw[M.bp (gF (by grind))];rfl
theorem aqP(c:H.aR)(t:Int):(H.sC c t).1.length<=10/\(H.sC c t).2.1.length<=10:=by
 unfold H.sC;split
 ·simp
 ·exact⟨Nat.le_trans (List.length_filter_le ..) (by rw[P7];decide),Nat.le_trans (List.length_filter_le ..) (by rw[P7];decide)⟩
theorem aqQ(x):M.le (Yf H.HT.sh qB.sh yw.sh x) (shD 1 PU x):=M.bj λh=>by
 obtain⟨l,d,⟨⟩⟩:=x;obtain⟨aw,an⟩:cW d/\ee _ l:=h;unfold Yf;simp (disch:=decide) only [nk an,M.bg,nd,nf,ng,nh,ni,nj];have h1:=aqP d.2 (bb l 0);have hc:H.HT.sh (d.2,bb l 0)=M.pure (H.sC d.2 (bb l 0)):=M.bF aw.gx _;simp only[hc];show _=M.pure (PT (H.sC d.2 (bb l 0)),d,());generalize H.sC d.2 (bb l 0)=r at *
 simp only[M.ik,M.fg,M.bg];rw[yy (by simp),P5 (by omega),P5 (by omega)];have eB:=P4 r.1;have ns:=P4 r.2.1;unfold PT;by_cases e:r.2.2=0
 ·simp only[M.aE];rw[M.bp (gF (by grind)),M.bp (gF (by grind))];simp[e]
 ·simp[e]
theorem aqR(w:be)(i m k:Int):0<=ur w i m k/\ur w i m k<4:=by
 unfold ur H5;grind
theorem aqS(x):M.le (Yh AY.sh qB.sh x) (shD 3 PV x):=M.bj λh=>by
 obtain⟨l,d,⟨⟩⟩:=x;obtain⟨aw,an⟩:cW d/\ee _ l:=h;unfold Yh;simp (disch:=decide) only [nk an,M.bg,nd,nf,ng,nh,ni,nj];have hc:AY.sh (d.1.1,bb l 0,bb l 1,bb l 2)=M.pure (qy d.1.1 (bb l 0) (bb l 1) (bb l 2)):=M.bF aw.gQ.1 _;simp only[hc];show _=M.pure (uy (qy d.1.1 (bb l 0) (bb l 1) (bb l 2)),d,());have h1:0<=(qy d.1.1 (bb l 0) (bb l 1) (bb l 2)).1/\(qy d.1.1 (bb l 0) (bb l 1) (bb l 2)).1<4:=by
  have:=aqR d.1.1 (bb l 0) (bb l 1) (bb l 2);unfold qy;grind
 generalize qy d.1.1 (bb l 0) (bb l 1) (bb l 2)=r at *
 simp only[M.ik,M.fg,M.bg];rw[yy (by simp),M.bp ⟨h1.1,h1.2⟩];unfold uy;by_cases e:r.2=0<;>simp[e]
theorem aqT{s:bt}(h:lX s)(w:Int):(uB s w).1.length<=2000:=by
 have:=h.Ir;unfold uB ZC;grind
theorem aqU(x):M.le (Yp II.sh qB.sh x) (shD 1 PZ x):=M.bj λh=>by
 obtain⟨l,d,⟨⟩⟩:=x;obtain⟨aw,an⟩:cW d/\ee _ l:=h;unfold Yp;simp (disch:=decide) only [nk an,M.bg,nd,nf,ng,nh,ni,nj];rw[show II.sh (d.1,bb l 0)=M.pure (uB d.1 (bb l 0)) from M.bF aw.gQ _];have:=aqT aw.val (bb l 0);simp only[M.ik,M.fg,M.bg];rw[yy (show (uB d.1 (bb l 0)).1.length<=60000 by omega),M.aE];rfl
def I1(x:z1'×Unit):M (z1'×Unit):=M.dx (x.1.length<=3000000) x
theorem aqV(x):M.le (Yq IJ.sh I1 qB.sh x) (shD 0 P0 x):=M.bj λh=>by
 obtain⟨l,d,⟨⟩⟩:=x;obtain⟨aw,an⟩:cW d/\ee _ l:=h;have ao:=an.IY;change l.length<=10000 at ao;unfold Yq;rw[show I1 (l,())=M.pure (l,()) from M.bF (by grind) _,M.aE];rw[M.gj l (λi (o:z1')=>((l.length:Int),(i:Int),o++l.drop i,d,())) (λn o=>.next (o++[n - 1])) (λo=>.next (o,d,())) (λi o=>o.length=i) [] ?_ rfl ?_ ?_]
 ·rw[dZ,xN,List.nil_append,M.aE,M.bL,M.bg];rw[show IJ.sh (d.1,l.map (· - 1))=M.pure (Bc d.1 (l.map (· - 1))) from M.bF ⟨aw.gQ,by grind⟩ _,M.aE,yy (by simp),M.aE];rfl
 ·simp
 ·intro i G o ah;have hw:=bn (n:=(i:Int)+1) (by omega) (by omega);have aB:=an.num l[i] (by simp);have gD:=bn (n:=l[i] - 1) (by omega) (by omega);subst ah;have bX:o.length<(o++l.drop o.length).length:=by grind
  have aA:(o++l.drop o.length)[o.length]=l[o.length]:=by simp
  have hs:(o++l.drop o.length).set o.length (l[o.length] - 1)=o++[l[o.length] - 1]++l.drop (o.length+1):=by
   rw[List.set_append_right _ _ (Nat.le_refl _),Nat.sub_self,List.drop_eq_getElem_cons G,List.set_cons_zero,List.append_assoc];rfl
  refine⟨?_,λa1 cQ=>?_⟩
  ·simp only[bI,cG G,if_true,cq bX,M.bg,b4,hw];rw[show (o++l.drop o.length).getD (Int.toNat (o.length:Int)) 0=l[o.length] by grind,gD,Int.toNat_natCast,hs];rfl
  ·grind
 simp
theorem aqW(x):M.le (Yr IF.sh qB.sh x) (shD 0 P1 x):=M.bj λh=>by
 obtain⟨l,d,⟨⟩⟩:=x;obtain⟨aw,an⟩:cW d/\ee _ l:=h;unfold Yr;rw[M.bg,show IF.sh d.1=M.pure (yn d.1 true) from M.bF aw.gQ _,M.aE,yy (by simp),M.aE];rfl
theorem aqX(x):M.le (Ys IH.sh qB.sh x) (shD 0 P2 x):=M.bj λh=>by
 obtain⟨l,d,⟨⟩⟩:=x;obtain⟨aw,an⟩:cW d/\ee _ l:=h;unfold Ys;rw[M.bg,show IH.sh d.1=M.pure (Bb d.1) from M.bF aw.gQ _,M.aE,yy (by simp),M.aE];rfl
def P8{aq:Type}(x:List aq×Unit):M (List aq×Unit):=M.bind (M.any λ(b:Bool)=>b=true->x.1=[]) λ(y:Bool)=>if y=true then M.pure ([],()) else M.ag (b2 (Add.add 0 (List.length x.1))) (M.pure ([]++x.1,()))
abbrev fz(t:af):aL:=⟨.slice t,.slice t,λx=>x.length<=3000000,λx=>x⟩
def qC{aq:Type}(x:List aq×Unit):M (List aq×Unit):=M.dx (x.1.length<=3000000) x
theorem wo{aq:Type}(x:List aq×Unit):M.le (P8 x) (qC x):=M.sk λh=>by
 unfold P8;rw[M.fJ];refine⟨⟨false,by simp⟩,λb ad=>?_⟩;change b=true->x.1=[]at ad;obtain⟨l,⟨⟩⟩:=x;cases b with
 | true=>rw[show l=[] from ad rfl];exact M.dI.2 rfl
 | false=>
  simp only[Bool.false_eq_true,if_false];exact M.kD.2 ⟨by change l.length<=3000000 at h;simp only[iE,b2];omega,M.dI.2 (by simp)⟩
theorem aqY(x:z1'×Unit):M.le (P8 x) (I1 x):=wo x
def ZT{aq:Type}(z:aq)(x:Int×Int×List aq×Unit):M ((Nat×Nat)×List aq×Unit):=
 M.ag (0<=x.1/\x.1<=x.2.1/\x.2.1<=Int.ofNat (List.length x.2.2.1)/\Int.ofNat (List.length x.2.2.1)<=Int.ofNat (List.length x.2.2.1)) (if decide
 (x.1=x.2.1)=true then M.pure ((0,List.length x.2.2.1),x.2.2.1,()) else M.ag ((0:Int)<=0/\0<=x.1/\x.1<=Int.ofNat (List.length x.2.2.1))
 (M.ag (0<=x.2.1/\x.2.1<=Int.ofNat (List.length x.2.2.1)/\Int.ofNat (List.length x.2.2.1)<=Int.ofNat (List.length x.2.2.1)) (M.ag (Add.add
 (Int.toNat x.1) (List.length (List.drop (Int.toNat x.2.1) (List.take (Int.toNat (Int.ofNat (List.length x.2.2.1))) x.2.2.1)))<=List.length x.2.2.1)
 (M.ag (0<=Int.ofNat (Add.add (Int.toNat x.1) (List.length (List.drop (Int.toNat x.2.1) (List.take (Int.toNat (Int.ofNat (List.length x.2.2.1)))
 x.2.2.1))) - Int.toNat 0)/\Int.ofNat (Add.add (Int.toNat x.1) (List.length (List.drop (Int.toNat x.2.1) (List.take (Int.toNat (Int.ofNat (List.length
 x.2.2.1))) x.2.2.1))) - Int.toNat 0)<=Int.ofNat (List.length x.2.2.1)/\Int.ofNat (List.length x.2.2.1)<=Int.ofNat (List.length (List.take
 (Int.toNat x.1) x.2.2.1++List.drop (Int.toNat x.2.1) (List.take (Int.toNat (Int.ofNat (List.length x.2.2.1))) x.2.2.1)++List.drop (Add.add
 (Int.toNat x.1) (List.length (List.drop (Int.toNat x.2.1) (List.take (Int.toNat (Int.ofNat (List.length x.2.2.1))) x.2.2.1)))) x.2.2.1) - Int.toNat
 0)) (M.ag True (M.pure ((Int.toNat 0,Add.add (Int.toNat x.1) (List.length (List.drop (Int.toNat x.2.1) (List.take (Int.toNat (Int.ofNat (List.length
 x.2.2.1))) x.2.2.1)))),List.take (Add.add (Int.toNat 0) (Int.toNat (Int.ofNat (Add.add (Int.toNat x.1) (List.length (List.drop (Int.toNat x.2.1)
 (List.take (Int.toNat (Int.ofNat (List.length x.2.2.1))) x.2.2.1))) - Int.toNat 0)))) (List.take (Int.toNat x.1) x.2.2.1++List.drop (Int.toNat
 x.2.1) (List.take (Int.toNat (Int.ofNat (List.length x.2.2.1))) x.2.2.1)++List.drop (Add.add (Int.toNat x.1) (List.length (List.drop (Int.toNat
 x.2.1) (List.take (Int.toNat (Int.ofNat (List.length x.2.2.1))) x.2.2.1)))) x.2.2.1)++List.replicate (Add.add (Int.toNat 0) (Int.toNat (Int.ofNat
 (List.length x.2.2.1))) - Add.add (Int.toNat 0) (Int.toNat (Int.ofNat (Add.add (Int.toNat x.1) (List.length (List.drop (Int.toNat x.2.1) (List.take
 (Int.toNat (Int.ofNat (List.length x.2.2.1))) x.2.2.1))) - Int.toNat 0)))) z++List.drop (Add.add (Add.add (Int.toNat 0) (Int.toNat (Int.ofNat
 (Add.add (Int.toNat x.1) (List.length (List.drop (Int.toNat x.2.1) (List.take (Int.toNat (Int.ofNat (List.length x.2.2.1))) x.2.2.1))) - Int.toNat
 0)))) (List.length (List.replicate (Add.add (Int.toNat 0) (Int.toNat (Int.ofNat (List.length x.2.2.1))) - Add.add (Int.toNat 0) (Int.toNat (Int.ofNat
 (Add.add (Int.toNat x.1) (List.length (List.drop (Int.toNat x.2.1) (List.take (Int.toNat (Int.ofNat (List.length x.2.2.1))) x.2.2.1))) - Int.toNat
 0)))) z))) (List.take (Int.toNat x.1) x.2.2.1++List.drop (Int.toNat x.2.1) (List.take (Int.toNat (Int.ofNat (List.length x.2.2.1))) x.2.2.1)++
 List.drop (Add.add (Int.toNat x.1) (List.length (List.drop (Int.toNat x.2.1) (List.take (Int.toNat (Int.ofNat (List.length x.2.2.1))) x.2.2.1))))
 x.2.2.1),())))))))
def I2{aq:Type}(z:aq)(x:Int×Int×List aq×Unit):M ((Nat×Nat)×List aq×Unit):=M.dx (0<=x.1/\x.2.1=x.1+1/\x.1<(x.2.2.1.length:Int)/\x.2.2.1.length<=3000000) ((0,x.2.2.1.length - 1),x.2.2.1.eraseIdx x.1.toNat++[z],())
theorem aqZ{aq:Type}(z:aq)(x):M.le (ZT z x) (I2 z x):=M.bj λh=>by
 obtain⟨i,j,l,⟨⟩⟩:=x;obtain⟨h0,h1,h2,h3⟩:0<=i/\j=i+1/\i<(l.length:Int)/\l.length<=3000000:=h;subst h1;obtain⟨n,rfl⟩:∃ n:Nat,i=n:=⟨i.toNat,by omega⟩
 have aB:n<l.length:=by omega
 have e1:((n:Int)+1).toNat=n+1:=by omega
 unfold ZT;simp only[bI,Int.toNat_natCast,e1,List.take_length,iE,Int.toNat_zero,Nat.sub_zero,Nat.zero_add,List.length_drop];have e2:n+(l.length - (n+1))=l.length - 1:=by omega
 have e3:(l.take n++l.drop (n+1)++l.drop (l.length - 1))=l.eraseIdx n++l.drop (l.length - 1):=by rw[List.eraseIdx_eq_take_drop_succ]
 have e4:(l.eraseIdx n).length=l.length - 1:=by rw[List.length_eraseIdx_of_lt aB]
 have eP:l.length - (l.length - 1)=1:=by omega
 rw[M.bp (by omega),if_neg (by simp;omega),M.bp (by omega),M.bp (by omega),M.bp (by omega)];rw[e2,e3,M.bp (by simp[e4]),M.bg];show _=M.pure ((0,l.length - 1),l.eraseIdx n++[z],());have jV:(l.eraseIdx n++l.drop (l.length - 1)).take (l.length - 1)=l.eraseIdx n:=by rw[List.take_append_of_le_length (by omega),List.take_of_length_le (by omega)]
 have ko:(l.eraseIdx n++l.drop (l.length - 1)).drop l.length=[]:=List.drop_eq_nil_of_le (by simp[e4]);simp only[eP,jV,List.replicate_one,List.length_cons,List.length_nil,Nat.zero_add];rw[show l.length - 1+1=l.length by omega,ko,List.append_nil]
def wq(x:bt×Unit):M vN:=M.dx (Ey x.1) (iH x.1)
theorem I3{x:z1'}(h:x.length<=2000000):H.fcClone.sh x=M.pure x:=M.bF (by show List.length x<=3000000;omega) _
theorem yA{t:af}{x:(af.slice t).ai}(h:List.length x<=2000000):(fz t).sh x=M.pure x:=M.bF (by show List.length x<=3000000;omega) _
theorem ZU{f_:Type}{s:bt}(h:Ey s)(fin:bt->M f_):H0 (fz ky).sh (fz kS).sh (fz jO).sh qC H.fcClone.sh (fz mZ).sh (fz tWi).sh (fz pI).sh s fin=fin s:=by
 obtain⟨⟨bY,cy,eo,ub⟩,h2,h3,aT,bx,c_,fN⟩:=h;obtain⟨⟨sp,mk,cut,tr⟩,st,jU,wi,de,iP⟩:=s;change sp.length<=2000000 at bY;change mk.length<=2000000 at cy;change tr.length<=2000000 at eo;change ∀ m∈mk,m.length<=2000000/\∀ s∈m,s.2.1.length<=2000000 at ub;change st.length<=2000000 at h2;change jU.length<=2000000 at h3;change wi.length<=2000000 at aT;change de.length<=2000000 at bx;change ∀ p∈jU,p.2.2.2.2.length<=2000000 at c_;change ∀ p∈wi,p.1.length<=2000000 at fN;have aP:(fz ky).sh sp=M.pure sp:=yA bY;have aQ:(fz kS).sh mk=M.pure mk:=yA cy;have bB:(fz jO).sh tr=M.pure tr:=yA eo;have gf:H.fcClone.sh st=M.pure st:=I3 h2;have o5:(fz mZ).sh jU=M.pure jU:=yA h3;have xr:(fz tWi).sh wi=M.pure wi:=yA aT;have GW:(fz pI).sh de=M.pure de:=yA bx;unfold H0;simp only[aP,aQ,bB,M.ik,M.fg,M.bg];rw[M.dj mk (λi (_:Unit)=>((mk.length:Int),(i:Int),cut,st,jU,wi,de,iP,0,0,sp,mk,tr,())) (λp b=>.next b) (λ_=>.next (cut,st,jU,wi,de,iP,0,0,sp,mk,tr,())) () ?_ ?_ ?_]
 ·rw[dZ,M.aE,M.bL];simp only[gf,o5,xr,GW,M.ik,M.fg,M.bg];rw[M.dj jU (λi (_:Unit)=>((jU.length:Int),(i:Int),cut,iP,0,0,sp,mk,tr,st,jU,wi,de,())) (λp b=>.next b) (λ_=>.next (cut,iP,0,0,sp,mk,tr,st,jU,wi,de,())) () ?_ ?_ ?_]
  ·rw[dZ,M.aE,M.bL];rw[M.dj wi (λi (_:Unit)=>((wi.length:Int),(i:Int),cut,iP,0,0,sp,mk,tr,st,jU,wi,de,())) (λp b=>.next b) (λ_=>.next (cut,iP,0,0,sp,mk,tr,st,jU,wi,de,())) () ?_ ?_ ?_]
   ·rw[dZ,M.aE,M.bL]
   ·rfl
   ·intro i G b;have hw:=bn (n:=(i:Int)+1) (by omega) (by omega);have hc:H.fcClone.sh wi[i].1=M.pure wi[i].1:=I3 (fN _ (List.getElem_mem G));have o2:wi.set i (wi[i].1,wi[i].2)=wi:=List.set_getElem_self G;simp only[bI,cG G,if_true,c6 G,cq G,M.bg,b4,hw];simp only[hc,M.ik,M.fg,M.bg,Int.toNat_natCast,o2];rfl
   ·simp
  ·rfl
  ·intro i G b;have hw:=bn (n:=(i:Int)+1) (by omega) (by omega);have hc:H.fcClone.sh jU[i].2.2.2.2=M.pure jU[i].2.2.2.2:=I3 (c_ _ (List.getElem_mem G));have o2:jU.set i (jU[i].1,jU[i].2.1,jU[i].2.2.1,jU[i].2.2.2.1,jU[i].2.2.2.2)=jU:=List.set_getElem_self G;simp only[bI,cG G,if_true,c6 G,cq G,M.bg,b4,hw];simp only[hc,M.ik,M.fg,M.bg,Int.toNat_natCast,o2];rfl
  ·simp
 ·rfl
 ·intro i G b;have hw:=bn (n:=(i:Int)+1) (by omega) (by omega);obtain⟨ao,hs⟩:=ub _ (List.getElem_mem G);have hc:qC (mk[i],())=M.pure (mk[i],()):=M.bF (by show mk[i].length<=3000000;omega) _;have aq0:mk.set i mk[i]=mk:=List.set_getElem_self G;simp only[bI,cG G,if_true,c6 G,cq G,M.bg,b4,hc,M.aE];simp only[Int.toNat_natCast];rw[M.dj mk[i] (λj (_:Unit)=>(i,(mk.length:Int),(i:Int),(mk[i].length:Int),(j:Int),cut,st,jU,wi,de,iP,0,0,sp,(mk,i),tr,mk[i],())) (λp b=>.next b) (λ_=>.next ((mk.length:Int),(i:Int),cut,st,jU,wi,de,iP,0,0,sp,(mk,i),tr,mk[i],())) () ?_ ?_ ?_]
  ·rw[dZ,M.aE,M.bL];simp only[hw,aq0];rfl
  ·rfl
  ·intro j aD b;have hw:=bn (n:=(j:Int)+1) (by omega) (by omega);have hc:H.fcClone.sh mk[i][j].2.1=M.pure mk[i][j].2.1:=I3 (hs _ (List.getElem_mem aD));have o2:mk[i].set j (mk[i][j].1,mk[i][j].2.1,mk[i][j].2.2)=mk[i]:=List.set_getElem_self aD;simp only[Prod.cI,Prod.fh,Prod.gv,bI,cG aD,if_true,c6 aD,cq aD,M.bg,b4,hw];simp only[hc,M.ik,M.fg,M.bg,Int.toNat_natCast,o2];rfl
  ·simp
 ·simp
theorem sClo(x):M.le (ano (fz ky).sh (fz kS).sh (fz jO).sh qC H.fcClone.sh (fz mZ).sh (fz tWi).sh (fz pI).sh x) (wq x):=M.bj λh=>ZU h _
abbrev I4:aL:=⟨lW,lW,Ey,λs=>s⟩
theorem aq1(x):M.le (anm (fz ky).sh (fz kS).sh (fz jO).sh qC H.fcClone.sh (fz mZ).sh (fz tWi).sh (fz pI).sh x) (I4.sh x):=M.bj λh=>ZU h _
def wu(x:bt×aX×Unit):M (aH×aX×Unit):=M.dx (cW x.2.1/\e' x.1) ((n1 x.2.1 x.1).1,(n1 x.2.1 x.1).2,())
theorem aq2(x):M.le (Yj pK.sh x) (wu x):=M.bj λh=>by
 obtain⟨s,d,⟨⟩⟩:=x;obtain⟨aw,hs⟩:cW d/\e' s:=h;unfold Yj;rw[show pK.sh s=M.pure (iX s) from M.bF hs _,M.aE];show _=M.pure ((n1 d s).1,(n1 d s).2,());unfold n1;by_cases e:iX s=0<;>simp[e]
theorem aq3{d:aX}(aw:cW d){s:bt}(hs:e' s):wu (s,d,())=M.pure ((n1 d s).1,(n1 d s).2,()):=M.bF ⟨aw,hs⟩ _
theorem I5{d:aX}(aw:cW d)(s:bt)(hs:e' s):M.bind (wu (s,d,())) (λy=>M.pure (y.1,y.2.1,()))=M.pure ((n1 d s).1,(n1 d s).2,()):=by rw[aq3 aw hs,M.aE]
theorem cW.copy{d:aX}(h:cW d):Ey d.1:=ap9 h.val
theorem ED{d:aX}(h:cW d):wq (d.1,())=M.pure (iH d.1):=M.bF h.copy _
theorem aq4(x):M.le (Yg x_.sh wq hO.sh x) (shD 4 yr x):=M.bj λh=>by
 obtain⟨l,d,⟨⟩⟩:=x;obtain⟨aw,an⟩:cW d/\ee _ l:=h;have hc:=aw.copy;have hs:gy (nc d.1.1 (bb l 0,bb l 1,bb l 2,bb l 3)):=⟨aw.gQ.1.1,aw.gQ.1.2.1,by have:=hc.1.2.2.1;simp only[nc,List.length_append,List.length_cons,List.length_nil];omega,aw.gQ.1.2.2.2⟩
 unfold Yg;rw[M.bg,ED aw,M.aE];simp (disch:=decide) only [nk an,M.bg,nd,nf,ng,nh,ni,nj];rw[M.bp (by have:=hc.1.2.2.1;simp only[iE,b2,iH];omega)];show M.bind (hO.sh (nc d.1.1 (bb l 0,bb l 1,bb l 2,bb l 3))) _=M.pure ((yr d l).1,(yr d l).2,());rw[show hO.sh (nc d.1.1 (bb l 0,bb l 1,bb l 2,bb l 3))=M.pure (b_ (nc d.1.1 (bb l 0,bb l 1,bb l 2,bb l 3))) from M.bF hs _,M.aE];have hlen:x_.sh (nc d.1.1 (bb l 0,bb l 1,bb l 2,bb l 3),bb l 0)=M.pure (vU (nc d.1.1 (bb l 0,bb l 1,bb l 2,bb l 3)) (bb l 0)):=M.bF hs _;have Cf:x_.sh (((iH d.1).1,(iH d.1).2.1,(iH d.1).2.2.1,(iH d.1).2.2.2.2.1++[(bb l 0,bb l 1,bb l 2,bb l 3)]),bb l 0)=M.pure (vU (nc d.1.1 (bb l 0,bb l 1,bb l 2,bb l 3)) (bb l 0)):=hlen;simp only[Cf,M.ik,M.fg,M.bg];unfold yr;by_cases e:b_ (nc d.1.1 (bb l 0,bb l 1,bb l 2,bb l 3))=0
 ·by_cases e2:(vU (nc d.1.1 (bb l 0,bb l 1,bb l 2,bb l 3)) (bb l 0)).2=0
  ·simp only[e,e2,ne_eq,not_true_eq_false,decide_false,Bool.false_eq_true,if_false];rfl
  grind
 grind
theorem aq5(x):M.le (Yi wq wu x) (shD 2 yt x):=M.bj λh=>by
 obtain⟨l,d,⟨⟩⟩:=x;obtain⟨aw,an⟩:cW d/\ee _ l:=h;have hc:=aw.copy;unfold Yi;rw[M.bg,ED aw,M.aE];simp (disch:=decide) only [nk an,M.bg,nd,nf,ng,nh,ni,nj];show _=M.pure ((yt d l).1,(yt d l).2,());unfold yt;have h0:=an.bb 0;have h1:=an.bb 1;by_cases e:bb l 0>=(d.1.2.1.length:Int)
 ·rw[if_pos (by simpa [iH]using e),if_pos e]
 ·rw[if_neg (by simpa [iH]using e),if_neg e];have aB:(bb l 0).toNat<d.1.2.1.length:=by omega
  rw[M.bp ⟨h0.1,by show bb l 0<(d.1.2.1.length:Int);omega⟩,M.bp ⟨h0.1,by show bb l 0<(d.1.2.1.length:Int);omega⟩];have hv:∀ n∈d.1.2.1,0<=n/\n<=10:=λn aB=>by
   have:=aw.val.sE.2;have fC:=aw.yv;unfold iX at fC;grind [m_,bM]
  have ad:=hv _ (List.getElem_mem aB);have aA:d.1.2.1.getD (bb l 0).toNat 0=d.1.2.1[(bb l 0).toNat]:=by grind
  have hw:=bn (n:=d.1.2.1.getD (bb l 0).toNat 0+bb l 1) (by omega) (by omega);have gD:IntKind.wrap .i64 (Add.add ((iH d.1).2.2.2.2.2.1.getD (bb l 0).toNat 0) (bb l 1))=d.1.2.1.getD (bb l 0).toNat 0+bb l 1:=hw;rw[gD];exact I5 aw (d.1.1,d.1.2.1.set (bb l 0).toNat (d.1.2.1.getD (bb l 0).toNat 0+bb l 1),d.1.2.2) ⟨aw.gQ.1,by show (List.set d.1.2.1 _ _).length<_;rw[List.length_set];exact aw.gQ.2.1,aw.gQ.2.2⟩
theorem aq6(x):M.le (Yk wq wu x) (shD 3 PW x):=M.bj λh=>by
 obtain⟨l,d,⟨⟩⟩:=x;obtain⟨aw,an⟩:cW d/\ee _ l:=h;have hc:=aw.copy;have bx:=hc.2.2.2.2.1;obtain⟨eh,du,ek,oq,sR,sS,sT⟩:=aw.gQ;unfold Yk;rw[M.bg,ED aw,M.aE];simp (disch:=decide) only [nk an,M.bg,nd,nf,ng,nh,ni,nj];rw[M.bp (by simp only[iE,b2,iH];omega)];exact I5 aw (d.1.1,d.1.2.1,d.1.2.2.1,d.1.2.2.2.1,d.1.2.2.2.2.1++[(bb l 0,bb l 1,bb l 2)],d.1.2.2.2.2.2) ⟨eh,du,ek,oq,by grind,sS,sT⟩
theorem aq7(x):M.le (Yl wq wu x) (shD 4 PX x):=M.bj λh=>by
 obtain⟨l,d,⟨⟩⟩:=x;obtain⟨aw,an⟩:cW d/\ee _ l:=h;have hc:=aw.copy;have bx:=hc.2.2.1;have ao:=an.IY;have hle:4<=l.length:=an.P3;obtain⟨eh,du,ek,oq,sR,sS,sT⟩:=aw.gQ;unfold Yl;rw[M.bg,ED aw,M.aE];simp (disch:=decide) only [nk an,M.bg,nd,nf,ng,nh,ni,nj];rw[M.bp ⟨by decide,by grind,Int.le_refl _⟩,M.bp (by simp only[iE,b2,iH];omega)];simp only[bI,Int.toNat_natCast,List.take_length];exact I5 aw (d.1.1,d.1.2.1,d.1.2.2.1++[(bb l 0,bb l 1,bb l 2,bb l 3,l.drop 4)],d.1.2.2.2) ⟨eh,du,by grind,oq,sR,λp hp=>by
  grind,sT⟩
theorem aq8(x):M.le (Ym wq wu x) (shD 5 PY x):=M.bj λh=>by
 obtain⟨l,d,⟨⟩⟩:=x;obtain⟨aw,an⟩:cW d/\ee _ l:=h;have hc:=aw.copy;have bx:=hc.2.2.2.1;have ao:=an.IY;have hle:5<=l.length:=an.P3;obtain⟨eh,du,ek,oq,sR,sS,sT⟩:=aw.gQ;unfold Ym;rw[M.bg,ED aw,M.aE];simp (disch:=decide) only [nk an,M.bg,nd,nf,ng,nh,ni,nj];rw[M.bp ⟨by decide,by grind,Int.le_refl _⟩,M.bp (by simp only[iE,b2,iH];omega)];simp only[bI,Int.toNat_natCast,List.take_length];exact I5 aw (d.1.1,d.1.2.1,d.1.2.2.1,d.1.2.2.2.1++[(l.drop 5,(bb l 0,bb l 1),bb l 2,bb l 3,bb l 4)],d.1.2.2.2.2) ⟨eh,du,ek,by grind,sR,sS,λp hp=>by
  grind⟩
abbrev I6:dt:=([],(0,0),0,0,0)
theorem aq9(x):M.le (Yn (fz tWi).sh (I2 I6) x) (shD 1 yu x):=M.bj λh=>by
 obtain⟨l,d,⟨⟩⟩:=x;obtain⟨aw,an⟩:cW d/\ee _ l:=h;have hc:=aw.copy.2.2.2.1;have h0:=an.bb 0;unfold Yn;simp (disch:=decide) only [nk an,M.bg,nd,nf,ng,nh,ni,nj];show _=M.pure ((yu d l).1,(yu d l).2,());unfold yu;by_cases e:bb l 0>=(d.1.2.2.2.1.length:Int)
 ·grind
 ·rw[if_neg (by grind),if_neg e];have lB:(fz tWi).sh d.1.2.2.2.1=M.pure d.1.2.2.2.1:=yA hc;have hw:=bn (n:=bb l 0+1) (by omega) (by omega);simp only[lB,M.ik,M.fg,M.bg,b4,hw];rw[show I2 I6 (bb l 0,bb l 0+1,d.1.2.2.2.1,())=M.pure _ from M.bF ⟨h0.1,rfl,by grind,by grind⟩ _,M.aE];grind
theorem ZV{c:H.aR}{m:List H.aS}{v:z1'}(h:(H.kW c m v).2=0):H.b_ c=0/\H.b_ (H.kW c m v).1=0/\(H.kW c m v).1=H.iY c (H.db (c.2.1++m)) (H.hB c.2.2.1 v):=by
 unfold H.kW at h ⊢;split at h
 ·omega
 split at h
 ·omega
 split at h
 ·omega
 split at h
 ·omega
 rename_i bR a2 a3 a4;rw[if_neg bR,if_neg a2,if_neg a3,if_neg a4];have dd:H.b_ c=0:=by omega
 have dN:H.b_ (H.iY c m v)=0:=by omega
 refine⟨dd,?_,rfl⟩;have g1:H.jL c=true:=by unfold H.b_ at dd;grind
 have dW:H.jL (H.iY c m v)=true:=by unfold H.b_ at dN;grind
 have aB:H.ka (H.db (c.2.1++m))=false:=by
  rw[H.ua];have:=(H.ua (c.2.1++m)).1 (by grind);exact λa aU b ad=>this a (H.vD aU) b (H.vD ad)
 have lJ:H.jL (H.iY c (H.db (c.2.1++m)) (H.hB c.2.2.1 v))=true:=by
  unfold H.jL H.sx at g1 dW ⊢;simp only[Bool.and_eq_true,List.all_eq_true,Bool.not_eq_true',Bool.or_eq_false_iff,H.iY]at g1 dW ⊢;obtain⟨⟨⟨⟨⟨⟨⟨⟨n',z2⟩,z3⟩,z4⟩,z5⟩,aP⟩,aQ⟩,bB⟩,gf⟩:=g1;obtain⟨⟨⟨⟨_,_⟩,P9⟩,ZW⟩,_⟩:=dW;simp only[Bool.or_eq_true,not_or,bI,Bool.not_eq_true]at a4;refine⟨⟨⟨⟨⟨⟨⟨⟨n',a4.1⟩,a4.2⟩,z4⟩,z5⟩,aP⟩,λs hs=>?_⟩,λn aB=>?_⟩,gf⟩
  ·rcases List.mem_append.1 (H.vD hs) with h | h
   ·exact aQ s h
   ·exact P9 s h
  ·have:=(List.mem_filter.1 aB).2;grind
 unfold H.b_;rw[if_pos lJ,if_neg (by show ¬H.ka (H.db (c.2.1++m))=true;grind)]
theorem P_{d:aX}(aw:cW d)(m:List H.aS)(v:z1'):cW (pM d m v).2:=by
 unfold pM;split
 ·exact aw
 ·rename_i h;obtain⟨h1,h2,h3⟩:=ZV (c:=d.2) (m:=m) (v:=v) (by omega);exact⟨aw.gQ,aw.yv,h2,by rw[h3];exact aw.Bg⟩
theorem I7{d:aX}(aw:cW d){s:bt}(hs:e' s):cW (n1 d s).2:=by
 unfold n1;split
 ·exact aw
 ·rename_i h;exact⟨hs,by grind,aw.wm,aw.Bg⟩
theorem aq_{d:aX}(aw:cW d){l:z1'}(an:l.length<=10000)(j:Nat):cW (Bf j d l).2:=by
 have hc:=aw.copy;obtain⟨eh,du,ek,oq,sR,sS,sT⟩:=aw.gQ;obtain⟨c1,c2,c3,c4,c5,lA,n_⟩:=aw.copy;unfold Bf;split<;>try exact aw
 ·exact P_ aw _ _
 ·exact P_ aw _ _
 ·exact P_ aw _ _
 ·unfold yr;split
  ·exact aw
  split
  ·exact aw
  rename_i h _;have h:b_ (nc d.1.1 (bb l 0,bb l 1,bb l 2,bb l 3))=0:=by omega
  refine⟨⟨⟨eh.1,eh.2.1,by have:=hc.1.2.2.1;simp only[nc,List.length_append,List.length_cons,List.length_nil];omega,eh.2.2.2⟩,du,ek,oq,sR,sS,sT⟩,?_,aw.wm,aw.Bg⟩;have hs:=aw.yv;unfold iX at hs ⊢;rw[if_neg (by omega)];have:m_ (nc d.1.1 (bb l 0,bb l 1,bb l 2,bb l 3),d.1.2)=m_ d.1:=rfl;grind
 ·unfold yt;split
  ·exact aw
  ·exact I7 aw ⟨eh,by grind,ek,oq,sR,sS,sT⟩
 ·exact I7 aw ⟨eh,du,ek,oq,by grind,sS,sT⟩
 ·exact I7 aw ⟨eh,du,by grind,oq,sR,λp hp=>by
   grind,sT⟩
 ·exact I7 aw ⟨eh,du,ek,by grind,sR,sS,λp hp=>by
   grind⟩
 ·unfold yu;split
  ·exact aw
  ·refine⟨⟨eh,du,ek,by grind,sR,sS,λp hp=>sT p (List.mem_of_mem_eraseIdx hp)⟩,?_,aw.wm,aw.Bg⟩;have hs:=aw.yv;unfold iX at hs ⊢;split at hs
   ·omega
   ·rename_i uN;rw[if_neg uN];split at hs
    ·rename_i hv;rw[if_pos];unfold m_ at hv ⊢;simp only[Bool.and_eq_true,List.all_eq_true,decide_eq_true_eq]at hv ⊢;obtain⟨⟨⟨⟨⟨⟨⟨⟨cR,q2⟩,q3⟩,uw⟩,cI⟩,fh⟩,gv⟩,ig⟩,jJ⟩:=hv;exact⟨⟨⟨⟨⟨⟨⟨⟨cR,q2⟩,q3⟩,uw⟩,by grind⟩,λx hx=>fh x (List.mem_of_mem_eraseIdx hx)⟩,gv⟩,ig⟩,jJ⟩
    omega
theorem ZX:∀ (s:aH) (n k:Nat),n<10 ^ k->k+s.length<=18->0<=fM s n->Go.Lib.parseUint10 n s=.ok (fM s n).toNat
 | [],n,k,_,_,_=>by rfl
 | c::s,n,k,h1,h2,h3=>by
  unfold fM at h3 ⊢;split at h3
  ·omega
  ·rename_i hc;rw[if_neg hc];simp only[Bool.or_eq_true,decide_eq_true_eq,not_or]at hc;have GP:48<=c.toNat/\c.toNat<=57:=by omega
   have aj:(10:Nat) ^ (k+1)<=10 ^ 18:=Nat.pow_le_pow_right (by decide) (by grind);have WZ:(10:Nat) ^ (k+1)=10 ^ k*10:=Nat.pow_succ ..;have e:10*(n:Int)+((c.toNat:Int) - 48)=((n*10+(c.toNat - 48):Nat):Int):=by omega
   rw[e]at h3 ⊢;unfold Go.Lib.parseUint10;rw[if_pos GP,if_neg (by omega),if_neg (by omega)];exact ZX s _ (k+1) (by omega) (by grind) h3
theorem P'{s:aH}(h:0<=e_ s):Go.Lib.atoiAll s=.ok (e_ s):=by
 unfold e_ at h ⊢;split at h
 ·omega
 ·rename_i ad;rw[if_neg ad];simp only[Bool.or_eq_true,decide_eq_true_eq,not_or]at ad;obtain⟨⟨h0,c_⟩,_⟩:=ad;cases s with
  | nil=>grind
  | cons c r=>
   have hp:=ZX (c::r) 0 0 (by decide) (by omega) h;have an:=PH (c::r) 0 0 (by decide) (by decide);have fV:(10:Int) ^ (0+(c::r).length)<=10 ^ 6:=by
    have:=Nat.pow_le_pow_right (n:=10) (by decide) (show 0+(c::r).length<=6 by omega);grind
   have aw:¬(decide ((c.toNat:Int)<48)||decide ((c.toNat:Int) > 57))=true:=by
    intro hc;unfold fM at h;grind
   simp only[Bool.or_eq_true,decide_eq_true_eq,not_or]at aw;unfold Go.Lib.atoiAll;simp only;rw[if_neg (by omega)];unfold Go.Lib.parseMag;grind
theorem aq'{s:aH}(h:0<=e_ s):sQ s=e_ s:=by
 unfold sQ;rw[P' h]
abbrev EE:aL:=⟨.str,.ay (.int .i64) .bool,λx=>x.length<=10000,q1⟩
abbrev I8:aL:=⟨.ay .str .str,sP,λx=>x.1.length<=10000/\x.2=[32],λx=>cD x.1⟩
abbrev ara:af:=.st (.ay tI (.ay .bool .dT))
def I9:List (aH×Int×Bool)->Nat->List (aH×AP)
 | [],_=>[]
 | p::l,i=>(p.1,p.2.1,p.2.2,some (119+i))::I9 l (i+1)
def wv:List (aH×AP):=I9 jS 0
abbrev I_:aL:=⟨.cA,.map .str ara,λ_=>True,λ_=>wv⟩
theorem arb(x):M.le (am0 x) (I_.sh x):=M.bj λ_=>congrArg M.pure (show _=wv by decide +kernel)
theorem ZY(w:aH):∀ (l:List (aH×Int×Bool)) (i:Nat),((I9 l i).find? λp=>decide (w=p.1)).map (λx=>x.2)=(oP w l i).map λr=>(r.1,r.2.1,some (119+r.2.2))
 | [],_=>rfl
 | p::l,i=>by
  unfold I9 oP;rw[List.find?_cons];by_cases h:w=p.1
  ·simp[h]
  ·simp[h,ZY w l (i+1)]
theorem Qa{w:aH}:∀ {l:List (aH×Int×Bool)} {i:Nat} {r:Int×Bool×Nat},oP w l i=some r->i<=r.2.2/\r.2.2<i+l.length/\l[r.2.2 - i]?=some (w,r.1,r.2.1)
 | [],_,_,h=>by simp[oP]at h
 | p::l,i,r,h=>by
  unfold oP at h;split at h
  ·grind
  ·have:=Qa h;grind
def I'(j:Nat):Nat:=(jS.getD j ([],0,false)).2.1.toNat
def EF(k:Nat):z1'×aX×Unit->M (aH×aX×Unit):=shD (I' (k - 119)) (Bf (k - 119))
theorem ZZ:∀ p∈jS,0<=p.2.1:=by decide
def Ja(x:List (aH×AP)×aH×aX×Unit):M (aH×aX×Unit):=M.dx (x.1=wv/\x.2.1.length<=10000/\cW x.2.2.1) ((kA x.2.2.1 x.2.1).1,(kA x.2.2.1 x.2.1).2,())
theorem arc{l:List aH}(h:l.all (λw=>decide (0<=e_ w))=true):l.map sQ=l.map e_:=List.map_congr_left λw hw=>aq' (by grind)
theorem Z0{aG:Type}(r:aG)(fin:z1'->aG):∀ (l:List aH) (b:z1'),eI (λw b=>if (!decide (0<=e_ w))=true then .done r else .next (b++[sQ w])) fin l b=if l.all (λw=>decide (0<=e_ w))=true then fin (b++l.map sQ) else r
 | [],b=>by simp[eI]
 | w::l,b=>by
  unfold eI;rw[List.all_cons,List.map_cons];cases h:decide (0<=e_ w) with
  | true=>
   simp only[Bool.not_true,Bool.false_eq_true,if_false,Bool.true_and];rw[Z0 r fin l,List.append_assoc];rfl
  | false=>rfl
theorem ard(x):M.le (X4 I8.sh EE.sh EF x) (Ja x):=M.bj λh=>by
 obtain⟨are,s,d,⟨⟩⟩:=x;obtain⟨hv,hs,aw⟩:are=wv/\s.length<=10000/\cW d:=h;subst hv;unfold X4;show _=M.pure ((kA d s).1,(kA d s).2,());rw[show I8.sh (s,[32])=M.pure (cD s) from M.bF ⟨hs,rfl⟩ _,M.aE];have an:=uD s;rw[M.bp ⟨by decide,by grind⟩];have au:((wv.find? λp=>decide ((cD s).getD (Int.toNat 0) []=p.1)).map λx=>x.2)=(oP ((cD s).getD 0 []) jS 0).map λr=>(r.1,r.2.1,some (119+r.2.2)):=ZY _ _ _;have hw:=bn (n:=((cD s).length:Int) - 1) (by omega) (by omega);simp only[au,bI,hw];unfold kA wj;cases Ge:oP ((cD s).getD 0 []) jS 0 with
 | none=>simp
 | some r=>
  obtain⟨k,m,j⟩:=r;obtain⟨_,aD,aj⟩:=Qa Ge;simp only[Option.map_some,Option.isSome_some,Option.getD_some,Bool.not_true,Bool.false_or];by_cases ad:(decide (((cD s).length:Int) - 1<k)||decide (((cD s).length:Int) - 1 > k)&&!m)=true
  ·grind
  ·rw[if_neg ad,if_neg ad];rw[M.bp ⟨by decide,by omega,Int.le_refl _⟩];simp only[Int.toNat_natCast,List.take_length,show Int.toNat 1=1 from rfl];have uY:((cD s).drop 1).length=(cD s).length - 1:=by simp
   rw[M.gj ((cD s).drop 1) (λi (o:z1')=>((cD s).drop 1,(((cD s).drop 1).length:Int),(i:Int),(k,m,some (119+j)),o,d,())) (λw o=>if (!decide (0<=e_ w))=true then .done (.done ([63],d,())) else .next (o++[sQ w])) (λo=>.next ((k,m,some (119+j)),o,d,())) (λi o=>o.length=i) [] ?_ rfl ?_ ?_]
   ·rw[Z0,M.aE];unfold IW;by_cases aU:((cD s).drop 1).all (λw=>decide (0<=e_ w))=true
    ·rw[if_pos aU,if_pos aU,M.bL,arc aU,List.nil_append];rw[M.bp]
     ·have yU:0<=k:=ZZ _ (List.mem_of_getElem? aj);have bX:I' j=k.toNat:=by
       unfold I';grind
      have ct:ee (I' j) (((cD s).drop 1).map e_):=by
       simp only[Bool.or_eq_true,decide_eq_true_eq,not_or]at ad;refine⟨by grind,by grind,λn aB=>?_⟩;obtain⟨w,hw,rfl⟩:=List.mem_map.1 aB;have:=List.all_eq_true.1 aU w hw;exact⟨by grind,(aqz w).2⟩
      have ax4:EF (119+j) (((cD s).drop 1).map e_,d,())=M.pure ((Bf j d (((cD s).drop 1).map e_)).1,(Bf j d (((cD s).drop 1).map e_)).2,()):=by
       unfold EF;rw[show 119+j - 119=j by omega];exact M.bF ⟨aw,ct⟩ _
      simp_all
     ·have:j<20:=by simpa [jS]using aD
      exact⟨119+j,by
       have e:∀ j:Fin 20,(119+j.val)∈[119,120,121,122,123,124,125,126,127,128,129,130,131,132,133,134,135,136,137,138]:=by decide
       exact e ⟨j,this⟩,rfl⟩
    ·rw[if_neg aU,if_neg aU];rfl
   ·rfl
   ·intro i G o ah;have hw:=bn (n:=(i:Int)+1) (by omega) (by omega);refine⟨?_,λa1 cQ=>?_⟩
    ·simp only[cG G,if_true,c6 G,cq G,M.bg,b4,hw];rw[show EE.sh ((cD s).drop 1)[i]=M.pure (q1 ((cD s).drop 1)[i]) from M.bF (Nat.le_trans (ZL s (List.mem_of_mem_drop (List.getElem_mem G))) hs) _,M.aE];unfold q1;by_cases aB:0<=e_ ((cD s).drop 1)[i]
     ·simp only[aB,decide_true,Bool.not_true,Bool.false_eq_true,if_false];rw[M.bp (gF (by grind))];rfl
     simp_all
    grind
   simp
theorem Qb{d:aX}(aw:cW d){s:aH}(hs:s.length<=10000):cW (kA d s).2:=by
 unfold kA;split
 ·exact aw
 ·rename_i j l hp;refine aq_ aw ?_ j;unfold wj at hp;split at hp
  ·grind
  ·split at hp
   ·grind
   ·unfold IW at hp;have:=uD s;grind
abbrev sU:aL:=⟨wh,.int .i64,λd=>e' d.1/\H.ij d.2,jT⟩
theorem arf(x):M.le (X1 pK.sh H.hO.sh x) (sU.sh x):=M.bj λh=>by
 obtain⟨h1,h2⟩:e' x.1/\H.ij x.2:=h;unfold X1;rw[show pK.sh x.1=M.pure (iX x.1) from M.bF h1 _,M.aE,show H.hO.sh x.2=M.pure (H.b_ x.2) from M.bF h2 _,M.ku,M.aE];show _=M.pure (jT x);unfold jT;grind
theorem Z1{l:List H.aS}{k:Int}(aj:0<=k/\k<=99):(H.db l).find? (λs=>s.1 == k)=l.find? λs=>s.1 == k:=by
 have aB:=H.HV l;have ao:∀ s,l.find? (λs=>s.1 == k)=some s->s∈H.db l:=λs hs=>List.mem_filterMap.2 ⟨k,oz.2 aj,hs⟩;cases h:l.find? (λs=>s.1 == k) with
 | none=>
  rw[List.find?_eq_none]at h ⊢;exact λs hs=>h s (H.vD hs)
 | some s=>
  have hs:=ao s h;have he:s.1=k:=by grind
  cases h2:(H.db l).find? (λs=>s.1 == k) with
  | none=>
   grind
  | some t=>
   have aI:=List.mem_of_find?_eq_some h2;have ax5:t.1=k:=by grind
   have hp:(H.db l).Pairwise λa b=>a.1≠b.1:=by
    grind
   by_cases fF:t=s
   ·rw[fF]
   ·exfalso;have key:∀ (L:List H.aS),L.Pairwise (λa b=>a.1≠b.1)->t∈L->s∈L->t=s:=by
     intro L gh h1 h2;induction L with
     | nil=>grind
     | cons a L aJ=>
      rw[List.pairwise_cons]at gh;grind
    grind
theorem Qc{aq β:Type}{f g:aq->Option β}:∀ (l:List aq),(∀ a∈l,f a=g a)->l.filterMap f=l.filterMap g
 | [],_=>rfl
 | a::l,h=>by
  rw[List.filterMap_cons,List.filterMap_cons,h a (by simp),Qc l λb ad=>h b (by grind)]
theorem arh(l:List H.aS):H.db (H.db l)=H.db l:=by
 conv=>lhs;unfold H.db
 conv=>rhs;unfold H.db
 exact Qc _ λk aj=>Z1 (oz.1 aj)
theorem ari(a b:z1'):H.hB (H.hB a b) []=H.hB a b:=by
 unfold H.hB;refine List.filter_congr λk aj=>?_;grind
theorem arj(l:List H.aS):(H.db l).length<=l.length:=by
 have qV:(H.db l).map (·.1) ⊆ l.map (·.1):=by
  intro x hx;obtain⟨s,hs,rfl⟩:=List.mem_map.1 hx;exact List.mem_map_of_mem (H.vD hs)
 have:=(H.HV l).length_le_of_subset qV;grind
theorem ark(l:z1'):(H.hB l []).length<=l.length:=by
 unfold H.hB;have aB:((dM 0 99).filter λid=>l.contains id||List.contains [] id).Nodup:=((H.PG 0 99).imp λh=>by omega:(dM 0 99).Nodup).filter _;refine aB.length_le_of_subset λx hx=>?_;grind
theorem Z2{c:H.aR}(h:H.b_ c=0):H.kW c [] []=(H.iY c (H.db c.2.1) (H.hB c.2.2.1 []),0):=by
 have G:=H.EB h;have g:H.jL c=true:=by unfold H.b_ at h;grind
 have h2:H.b_ (H.iY c [] [])=0:=by
  have:H.jL (H.iY c [] [])=true:=by
   unfold H.jL H.sx at g ⊢;simp only[Bool.and_eq_true,List.all_eq_true,Bool.not_eq_true',Bool.or_eq_false_iff,H.iY]at g ⊢;grind
  unfold H.b_;rw[if_pos this];rfl
 have eB:=arj c.2.1;have ns:=ark c.2.2.1;have dB:=G.dB;have iu:=G.iu;unfold H.kW;rw[if_neg (by simp[h]),if_neg (by omega),List.append_nil,if_neg (by rw[G.cl];decide),if_neg];grind
structure Jb(d:aX):Prop where
 Z3:H.db d.2.2.1=d.2.2.1
 Z4:H.hB d.2.2.2.1 []=d.2.2.2.1
theorem Z5{d:aX}(h:cW d):dK d=(d.1,H.iY d.2 (H.db d.2.2.1) (H.hB d.2.2.2.1 [])):=by
 unfold dK;rw[Z2 h.wm]
theorem Z6{d:aX}(h:cW d):cW (dK d):=by
 have:=ZV (c:=d.2) (m:=[]) (v:=[]) (by rw[Z2 h.wm]);exact⟨h.gQ,h.yv,this.2.1,by rw[Z5 h];exact h.Bg⟩
theorem arl{d:aX}(h:cW d):Jb (dK d):=by
 rw[Z5 h];exact⟨arh _,ari _ _⟩
theorem Z7{p:aX->Prop}{q:aH->Prop}(hp:∀ d s,p d->q s->p (kA d s).2):∀ (l:List aH) (d:aX),p d->(∀ s∈l,q s)->p (cO d l).2
 | [],d,h,_=>h
 | s::l,d,h,bf=>Z7 hp l _ (hp d s h (bf s (by simp))) λt aI=>bf t (by grind)
theorem Z8{d:aX}(h:cW d){l:List aH}(an:∀ s∈l,s.length<=10000):cW (cO d l).2:=Z7 (p:=cW) (λd s h hs=>Qb h hs) l d h an
def uf(x:aX×Unit):M (aX×Unit):=M.dx (cW x.1) (dK x.1,())
theorem Oi(x):M.le (X2 H.Be.sh I4.sh x) (uf x):=M.bj λh=>by
 obtain⟨d,⟨⟩⟩:=x;have h:cW d:=h;unfold X2;rw[show H.Be.sh (d.2,[],[])=M.pure (H.kW d.2 [] []) from M.bF ⟨h.ij,by simp,by simp⟩ _,M.aE];rw[show I4.sh d.1=M.pure d.1 from M.bF h.copy _];simp only[M.ik,M.fg,M.bg];rfl
abbrev Z9(x:aX×List aH):Prop:=e' x.1.1/\H.gx x.1.2/\x.2.length<2 ^ 63/\∀ s∈x.2,s.length<=10000
theorem Z_{d:aX}(h1:e' d.1)(h2:H.gx d.2)(h:jT d=0):cW d:=by
 unfold jT at h;split at h
 ·omega
 ·rename_i ad;simp only[Bool.or_eq_true,decide_eq_true_eq,not_or,ne_eq,Decidable.not_not]at ad;exact⟨h1,ad.1,ad.2,h2.2 ad.2⟩
abbrev uE:aL:=⟨.ay wh sP,.ay sP (.ay wh (.int .i64)),Z9,λx=>wk x.1 x.2⟩
theorem Z':∀ (l:List aH) (o:List aH) (d:aX),l.foldl (λ(p:List aH×aX) s=>(p.1++[(kA p.2 s).1],(kA p.2 s).2)) (o,d)=(o++(cO d l).1,(cO d l).2)
 | [],o,d=>by simp[cO]
 | s::l,o,d=>by
  rw[List.foldl_cons,Z' l];simp[cO]
theorem arn(x):M.le (X0 sU.sh uf I_.sh Ja x) (uE.sh x):=M.bj λh=>by
 obtain⟨d,l⟩:=x;obtain⟨h1,h2,h3,aT⟩:Z9 (d,l):=h;unfold X0;show _=M.pure (wk d l);unfold wk;rw[show sU.sh d=M.pure (jT d) from M.bF ⟨h1,h2.gQ⟩ _,M.aE];by_cases e:jT d=0
 ·rw[if_neg (show ¬decide (jT d≠0)=true by grind),if_neg (show ¬jT d≠0 by omega)];have aw:=Z_ h1 h2 e;by_cases e2:l.length > 40
  ·grind
  ·rw[if_neg (show ¬decide (Int.ofNat l.length > 40)=true by grind),if_neg e2];rw[show uf (d,())=M.pure (dK d,()) from M.bF aw _,M.aE,show I_.sh ()=M.pure wv from rfl,M.aE];rw[M.gj l (λi (p:List aH×aX)=>(wv,l,(l.length:Int),(i:Int),p.1,0,0,0,0,0,0,0,0,0,p.2,())) (λs p=>.next (p.1++[(kA p.2 s).1],(kA p.2 s).2)) (λp=>.next (p.1,0,0,0,0,0,0,0,0,0,p.2,())) (λi p=>cW p.2/\p.1.length=i) ([],dK d) ?_ ⟨Z6 aw,rfl⟩ ?_ ?_]
   ·rw[dZ,Z',M.aE,M.bL,M.bg,List.nil_append]
   ·rfl
   ·rintro i G ⟨o,uO⟩ ⟨wM,ah⟩;have hw:=bn (n:=(i:Int)+1) (by omega) (by omega);have hs:=aT _ (List.getElem_mem G);change cW uO at wM;change o.length=i at ah;refine⟨?_,λa1 cQ=>?_⟩
    ·simp only[bI,cG G,if_true,c6 G,cq G,M.bg,b4,hw];rw[show Ja (wv,l[i],uO,())=M.pure _ from M.bF ⟨rfl,hs,wM⟩ _,M.aE,M.bp (gF (by grind))];rfl
    ·simp only[ab.next.injEq]at cQ;subst cQ;exact⟨Qb wM hs,by grind⟩
   simp
 grind
end Go.Fer.W
namespace Go.Fer.W
open M (ab)
def oQ:aX:=(Bd,[(0,0)],[],[],[],10,30,100,500,1000,2000,300)
def aaa(aro:Unit->M bt)(x:Unit):M aX:=M.bind (aro ()) λy=>M.pure (y,[(0,0)],[],[],[],10,30,100,500,1000,2000,300)
abbrev Jc:aL:=⟨.cA,wh,λ_=>True,λ_=>oQ⟩
theorem arp(x):M.le (aaa IL.sh x) (Jc.sh x):=M.bj λ_=>by
 unfold aaa;rw[show IL.sh ()=M.pure Bd from rfl,M.aE];rfl
def pg:List aH:=[[108,101,110,100,32,49,32,48,32,49,48,48,32,51,32,55],[98,97,99,107,32,50,32,48,32,49,55,49,32,51],[102,101,101,32,49],[119,104,101,114,101,32,51,32,49,55,49],[116,114,105,97,108,32,49,32,48,32,48,32,48],[115,116,111,99,107,32,48,32,49],[101,120,116,114,97],[100,114,111,112,32,51],[101,120,116,114,97]]
def Jd:List aH:=[[111,107],[111,107],[51,48,48,32,51,48,48],[115,104,111,112],[108,105,97,114],[111,107],[49],[111,107],[48]]
theorem arq:jT oQ=0:=by decide +kernel
theorem Qd:(cO (dK oQ) pg).1=Jd/\(cO (dK oQ) pg).2.2.2.1.length=2/\(cO (dK oQ) pg).2.1.2.2.2.1.length=3:=by decide +kernel
end Go.Fer.W
namespace Go.Fer.W
open M (ab)
open H (gF)
theorem ars(x):M.le (XZ H.hO.sh pK.sh x) (sU.sh x):=M.bj λh=>by
 obtain⟨h1,h2⟩:e' x.1/\H.ij x.2:=h;unfold XZ;rw[show pK.sh x.1=M.pure (iX x.1) from M.bF h1 _,M.aE,show H.hO.sh x.2=M.pure (H.b_ x.2) from M.bF h2 _,M.ku,M.aE];show _=M.pure (jT x);unfold jT;grind
theorem aab(c:UInt8):c.1.1.1=c.toNat:=rfl
theorem art{n:Int}(h:0<=n)(h2:n<=255):IntKind.wrap .u8 n=n:=by
 show (if (false&&decide (n % 2 ^ 8>=(2 ^ (8 - 1):Int)))=true then n % 2 ^ 8 - 2 ^ 8 else n % 2 ^ 8)=n;grind
theorem Je{aq β aG:Type}{p:aq->Bool}{r:aG}{g:aq->β->β}{fin:β->aG}:∀ (l:List aq) (b:β),eI (λx b=>if p x=true then .done r else .next (g x b)) fin l b=if l.any p=true then r else fin (l.foldl (λb x=>g x b) b)
 | [],b=>rfl
 | x::l,b=>by
  unfold eI;rw[List.any_cons,List.foldl_cons];cases h:p x with
  | true=>rfl
  | false=>
   simp only[Bool.false_eq_true,if_false,Bool.false_or];exact Je l (g x b)
def yB(c:UInt8):Bool:=decide ((c.toNat:Int)<48)||decide ((c.toNat:Int) > 57)
theorem aru(c:UInt8)(s:aH)(n:Int):fM (c::s) n=if yB c=true then -1 else fM s (10*n+((c.toNat:Int) - 48)):=rfl
theorem aac{aG:Type}{r:aG}{fin:Int->aG}:∀ (s:aH) (n:Int),0<=n->eI (λc n=>if yB c=true then .done r else .next (10*n+((c.toNat:Int) - 48))) fin s n=if fM s n=-1 then r else fin (fM s n)
 | [],n,h=>by
  show fin n=if n=-1 then r else fin n
  grind
 | c::s,n,h=>by
  rw[aru];unfold eI;by_cases hc:yB c=true
  ·grind
  ·have ou:=hc;unfold yB at ou;simp only[Bool.or_eq_true,decide_eq_true_eq,not_or]at ou;simp only[hc];exact aac s _ (by omega)
abbrev Jf:aL:=⟨.str,.int .i64,λ_=>True,e_⟩
theorem arv(x):M.le (YB x) (Jf.sh x):=M.bj λ_=>by
 unfold YB;show _=M.pure (e_ x);unfold e_;simp only[bI,aab,show Int.toNat 0=0 from rfl];rw[M.bp (λad=>⟨⟨ad,trivial⟩,⟨Int.le_refl _,by grind⟩,trivial⟩)];have e:(decide ((x.length:Int)=0)||decide ((x.length:Int) > 6)||decide ((x.length:Int) > 1)&&decide (((x.getD 0 0).toNat:Int)=48))=(decide (x.length=0)||decide (x.length > 6)||decide (x.length > 1)&&decide ((x.getD 0 0).toNat=48)):=by
  grind
 rw[e];by_cases ad:(decide (x.length=0)||decide (x.length > 6)||decide (x.length > 1)&&decide ((x.getD 0 0).toNat=48))=true
 ·grind
 ·rw[if_neg ad,if_neg ad];have c_:x.length<=6:=by
   grind
  rw[M.gj x (λi (n:Int)=>(x,n,(i:Int),())) (λc n=>if yB c=true then .done (.done (-1)) else .next (10*n+((c.toNat:Int) - 48))) (λn=>.next (n,())) (λi n=>0<=n/\n<10 ^ i) 0 ?_ ⟨Int.le_refl _,by decide⟩ ?_ ?_]
  ·rw[aac _ _ (Int.le_refl _),M.aE];by_cases aw:fM x 0=-1
   ·rw[if_pos aw,aw];rfl
   ·rw[if_neg aw];rfl
  ·rfl
  ·rintro i G n ⟨h0,h1⟩;have hw:=bn (n:=(i:Int)+1) (by omega) (by omega);have hp:(10:Int) ^ i<=10 ^ 5:=by
    have:=Nat.pow_le_pow_right (n:=10) (by decide) (show i<=5 by omega);grind
   have xw:(10:Int) ^ (i+1)=10 ^ i*10:=Int.pow_succ ..;refine⟨?_,λa1 cQ=>?_⟩
   ·simp only[cG G,if_true,c6 G,cq G,M.bg,b4,hw];rw[M.bp (λh=>⟨⟨h,h⟩,trivial,trivial⟩)];by_cases hc:yB x[i]=true
    ·rw[if_pos hc];have ou:(decide ((x[i].toNat:Int)<48)||decide ((x[i].toNat:Int) > 57))=true:=hc;simp_all
    ·rw[if_neg hc];have ou:¬(decide ((x[i].toNat:Int)<48)||decide ((x[i].toNat:Int) > 57))=true:=hc;rw[if_neg ou];simp only[Bool.or_eq_true,decide_eq_true_eq,not_or]at ou;rw[art (by omega) (by omega),bn (n:=(x[i].toNat:Int) - 48) (by omega) (by omega),bn (n:=10*n) (by omega) (by omega),bn (n:=10*n+((x[i].toNat:Int) - 48)) (by omega) (by omega)];rfl
   ·split at cQ
    ·grind
    ·rename_i hc;unfold yB at hc;grind
  simp
def Bi(o:List aH)(c:UInt8):List aH:=if c=32 then o++[[]] else o.set (o.length - 1) (o.getD (o.length - 1) []++[c])
theorem Qe:∀ (s:aH) (o:List aH) (w:aH),s.foldl Bi (o++[w])=o++(match cD s with | []=>[w] | v::l=>(w++v)::l)
 | [],o,w=>by simp[cD]
 | c::s,o,w=>by
  rw[List.foldl_cons];unfold cD;by_cases hc:c=32
  ·rw[if_pos hc,show Bi (o++[w]) c=o++[w]++[[]] from if_pos hc];have:=Qe s (o++[w]) [];rw[this];have an:=uD s;grind
  ·rw[if_neg hc,show Bi (o++[w]) c=_ from if_neg hc];have e:(o++[w]).set ((o++[w]).length - 1) ((o++[w]).getD ((o++[w]).length - 1) []++[c])=o++[w++[c]]:=by
    simp
   rw[e];have:=Qe s o (w++[c]);rw[this];have an:=uD s;cases h:cD s with
   | nil=>exact absurd an.1 (by rw[h];decide)
   | cons v l=>simp
abbrev Jg:aL:=⟨.str,sP,λx=>x.length<=10000,cD⟩
theorem arw(x):M.le (YA x) (Jg.sh x):=M.bj λh=>by
 change x.length<=10000 at h;unfold YA;show _=M.pure (cD x);rw[M.gj x (λi (o:List aH)=>(x,(i:Int),o,())) (λc o=>.next (Bi o c)) (λo=>.next (o,())) (λi o=>1<=o.length/\o.length<=i+1/\∀ w∈o,w.length<=i) [[]] ?_ ⟨by decide,by decide,by simp⟩ ?_ ?_]
 ·rw[dZ,M.aE,M.bL];have:=Qe x [] [];rw[List.nil_append]at this;rw[this];have an:=uD x;grind
 ·rfl
 ·rintro i G o ⟨h1,h2,h3⟩;have hw:=bn (n:=(i:Int)+1) (by omega) (by omega);have gD:=bn (n:=(o.length:Int) - 1) (by omega) (by omega);have e1:((o.length:Int) - 1).toNat=o.length - 1:=by omega
  have e2:((i:Int)+1).toNat=i+1:=by omega
  have arx:o.length - 1<o.length:=by omega
  have aA:o.getD (o.length - 1) []=o[o.length - 1]:=by grind
  have ax6:=h3 _ (List.getElem_mem arx);have aw:(x.take (i+1)).drop i=[x[i]]:=by rw[List.drop_take,List.drop_eq_getElem_cons G,Nat.add_sub_cancel_left];rfl
  refine⟨?_,λa1 cQ=>?_⟩
  ·simp only[bI,cG G,if_true,c6 G,cq G,M.bg,b4,hw,gD,e1,aab];unfold Bi;by_cases hc:x[i]=32
   ·have ou:decide ((x[i].toNat:Int)=32)=true:=by simp_all
    rw[if_pos ou,if_pos hc,M.bp (gF (by grind))];simp_all
   ·have ou:¬decide ((x[i].toNat:Int)=32)=true:=by
     intro h;apply hc;simp only[decide_eq_true_eq]at h;exact UInt8.toNat_inj.1 (show x[i].toNat=32 by omega)
    rw[if_neg ou,if_neg hc];rw[M.bp (by omega),M.bp (by omega),e2,Int.toNat_natCast,aw,M.bp (gF (by grind)),M.bp (by omega)];simp_all
  ·simp only[ab.next.injEq]at cQ;subst cQ;unfold Bi;grind
 simp
end Go.Fer.W
