/- Part 6 of the proof of Answers: shallow programs of Go functions, and what they compute. No condition. -/
import Derived.Test.YtplfnoecifjgeaaGreatDoorAnswersE
import Derived.Lib.AtoiAll
import Derived.Lib.ItoaLen
import Derived.Lib.Join
noncomputable section
set_option linter.unusedVariables false
set_option linter.unusedSimpArgs false
namespace Go.Fer
open A (V)
def pb(m:z5')(k:Int×Int×Int):Option Int:=Option.map (λx=>x.2) (List.find? (λp=>decide (k.1=p.1.1)&&(decide (k.2.1=p.1.2.1)&&decide (k.2.2=p.1.2.2))) m)
def u2(m:z4')(k:Int):Option Int:=Option.map (λx=>x.2) (List.find? (λp=>decide (k=p.1)) m)
theorem IQ{a b:Int×Int×Int}:(decide (a.1=b.1)&&(decide (a.2.1=b.2.1)&&decide (a.2.2=b.2.2)))=decide (a=b):=by
 grind
theorem aoJ(k):pb [] k=none:=rfl
theorem Zu(k:Int×Int×Int)(v:Int)(k':Int×Int×Int):∀ m,pb (vY m k v) k'=if k'=k then some v else pb m k'
 | []=>by
  show pb [(k,v)] k'=_;by_cases h:k'=k<;>simp[pb,IQ,h]
 | p::m=>by
  have aH:=Zu k v k' m;show pb (if (decide (k.1=p.1.1)&&(decide (k.2.1=p.1.2.1)&&decide (k.2.2=p.1.2.2)))=true then (p.1,v)::m else p::vY m k v) k'=_;rw[IQ];by_cases h:k=p.1
  ·subst h;by_cases ds:k'=p.1<;>simp[pb,IQ,ds]
  ·simp only[h,decide_false,Bool.false_eq_true,if_false];simp only[pb,IQ,List.find?_cons]at aH ⊢;grind
theorem Zv(k v k':Int):∀ m,u2 (e' m k v) k'=if k'=k then some v else u2 m k'
 | []=>by
  show u2 [(k,v)] k'=_;by_cases h:k'=k<;>simp[u2,h]
 | p::m=>by
  have aH:=Zv k v k' m;show u2 (if decide (k=p.1)=true then (p.1,v)::m else p::e' m k v) k'=_;by_cases h:k=p.1
  ·subst h;by_cases ds:k'=p.1<;>simp[u2,ds]
  ·simp only[h,decide_false,Bool.false_eq_true,if_false];simp only[u2,List.find?_cons]at aH ⊢;grind
def p6(t:mL):Int×Int×Int:=(t.1,t.2.1,t.2.2.1)
theorem IS{a b:mL}:nw a b=true<->p6 a=p6 b/\a.2.2.2≠b.2.2.2:=by
 simp only[nw,Bool.and_eq_true,decide_eq_true_eq,p6,Prod.mk.injEq];omega
theorem Zw(l:List mL):oc l=true<->l.Pairwise λa b=>nw a b=false:=by
 unfold oc;rw[List.pairwise_iff_getElem];simp only[List.all_eq_true,List.mem_range,Bool.not_eq_true'];grind
def IT(m:z5')(pre:List mL):Prop:=∀ k v,pb m k=some v<->(∃ t∈pre,p6 t=k/\t.2.2.2=v)
def E5(m:z5')(t:mL):Bool:=Option.isSome (pb m (p6 t))&&decide (Option.getD (pb m (p6 t)) 0≠t.2.2.2)
theorem Zx{m pre}(h:IT m pre)(an:pre.Pairwise λa b=>nw a b=false)(t:mL):E5 m t=true<->∃ a∈pre,nw a t=true:=by
 unfold E5;cases ai:pb m (p6 t) with
 | none=>
  simp only[Option.isSome_none,Bool.false_and,Bool.false_eq_true,false_iff];rintro⟨a,a8,hc⟩;have:=(h (p6 t) a.2.2.2).2 ⟨a,a8,(IS.1 hc).1,rfl⟩;grind
 | some v=>
  simp only[Option.isSome_some,Bool.true_and,Option.getD_some,decide_eq_true_eq];obtain⟨b,W,al,ae⟩:=(h _ _).1 ai;constructor
  ·intro eB;exact⟨b,W,IS.2 ⟨al,by omega⟩⟩
  ·rintro⟨a,a8,hc⟩ rfl;obtain⟨bC,c2⟩:=IS.1 hc;have:=(h (p6 t) a.2.2.2).2 ⟨a,a8,bC,rfl⟩;grind
theorem aoK{m pre}(h:IT m pre){t:mL}(W:∀ a∈pre,nw a t=false):IT (vY m (p6 t) t.2.2.2) (pre++[t]):=by
 intro k v;rw[Zu];by_cases al:k=p6 t
 ·rw[if_pos al];constructor
  ·grind
  ·rintro⟨a,a8,E,U⟩;rcases List.mem_append.1 a8 with a8 | a8
   ·have hc:=W a a8;have:¬nw a t=true:=by grind
    rw[IS]at this;grind
   grind
 ·rw[if_neg al,h];grind
theorem Zy:∀ (ck:List mL) (m) (pre:List mL),IT m pre->(pre.Pairwise λa b=>nw a b=false)->
  eX (λt m=>if E5 m t=true then (.done (.done 71):V _ (V Unit Int)) else .next (vY m (p6 t) t.2.2.2)) (λ_=>.next ()) ck m=if oc (pre++ck)=true then .next () else .done 71
 | [],m,pre,h,an=>by
  have:=(Zw pre).2 an;simp[eX,this]
 | t::ck,m,pre,h,an=>by
  simp only[eX];by_cases W:E5 m t=true
  ·simp only[W,if_true];obtain⟨a,a8,hc⟩:=(Zx h an t).1 W;have:¬oc (pre++t::ck)=true:=by
    rw[Zw,List.pairwise_append];grind
   grind
  ·have au:∀ a∈pre,nw a t=false:=λa a8=>by
    have:=λhc=>W ((Zx h an t).2 ⟨a,a8,hc⟩);grind
   simp only[W,Bool.false_eq_true,if_false];have Cz:(pre++[t]).Pairwise λa b=>nw a b=false:=by
    grind
   have:=Zy ck _ (pre++[t]) (aoK h au) Cz;grind
theorem aoL(w:bz)(h:ht w):N_ tn.sh w=A.pure (cN w):=by
 have aD:=h;obtain⟨E,U,ag,a6⟩:=h;unfold N_;simp only[aM.sh,tn,A.dG,A.bt aD];unfold cN;cases hw:k9 w with
 | false=>simp
 | true=>
  simp only[Bool.not_true,Bool.false_eq_true,if_false,if_true];rw[A.et w.2.2.2 (λi (m:z5')=>(w.2.2.2,(w.2.2.2.length:Int),(i:Int),m,())) (λt m=>if E5 m t=true then (.done (.done 71):V _ (V Unit Int)) else .next (vY m (p6 t) t.2.2.2)) (λ_=>.next ()) [] ?_ ?_ ?_]
  ·rw[Zy w.2.2.2 [] [] (λk v=>by simp[aoJ]) (by simp)];simp only[List.nil_append];by_cases aL:oc w.2.2.2=true<;>simp[aL]
  ·rfl
  ·intro i G m;have h4:=bF (n:=(i:Int)+1) (by omega) (by omega);simp only[bW,cX G,if_true,dk G,cH G,A.bn,A.aF,cn,h4];exact Vz (mk:=λm=>(w.2.2.2,(w.2.2.2.length:Int),(i:Int)+1,m,()))
  simp
theorem aoM(x):A.le (N_ tn.sh x) (h2.sh x):=A.bu λh=>aoL x h
theorem aoN(w:bz)(i n m k:Int)(hw:q5 w)(G:hb w i=true)(hm:iT w m k=true):VT cp.sh o7.sh (w,i,n,m,k)=A.pure (wB w i n m k):=aos w i n m k hw G hm
theorem aoO(x):A.le (VT cp.sh o7.sh x) (E1.sh x):=A.bu λh=>aoN x.1 x.2.1 x.2.2.1 x.2.2.2.1 x.2.2.2.2 h.1 h.2.1 h.2.2
abbrev yQ:aM:=⟨.az j0 (.az (.bG bq) (.az (.bG lD) (.bG bq))),dj,λx=>∃ i w n,x.2=(some i,some w,some n)/\q5 w/\hb w i=true/\iT w x.1.2.1 x.1.2.2.1=true,λx=>uZ (x.2.2.1.getD ([],[],0,[])) (x.2.1.getD 0) (x.2.2.2.getD 0) x.1⟩
theorem aoP(x):A.le (VS E1.sh x) (yQ.sh x):=A.bu λh=>by
 obtain⟨t,o⟩:=x;obtain⟨i,w,n,ar,hw,G,hm⟩:=h;change o=_ at ar;subst ar;unfold VS;simp only[aM.sh,A.od,A.gQ,Option.getD_some,and_true,true_and,and_self,imp_self,A.bn,ne_eq];by_cases aL:t.1=i
 ·have an:q5 w/\hb w i=true/\iT w t.2.1 t.2.2.1=true:=⟨hw,G,hm⟩
  simp[uZ,aL,an,A.bt an]
 ·simp[uZ,aL]
def p7(w:bz):List (z1'):=(List.range w.1.length).map λ(i:Nat)=>hd w (i:Int)
def jh(w:bz)(cb:Bool):Option qS×Int:=if eE w cb≠0 then (none,eE w cb) else (some (w,p7 w),0)
abbrev BA:aM:=⟨.az lD dj,.az (.bG (.st (.az lD (.slice fO)))) bq,λx=>ht x.1,λx=>jh x.1 x.2⟩
theorem aoQ{w:bz}{i:Int}:hd w i=(ee (gI w i).2.2.1 (gI w i).2.2.2).filter λn=>w.2.2.2.all (uZ w i n):=by
 unfold hd;refine List.filter_congr λn au=>?_;rw[pT]at au;simp[PG,au]
theorem Zz{w:bz}:∀ (l:List Nat) (acc:List (z1')),eX (λ(i:Nat) (acc:List (z1'))=>if decide (((hd w (i:Int)).length:Int)=0)=true then (.done (.done (none,(3:Int))):V _ (V (List IH×List (List wy)×Int×List mL×List (z1')×Unit) (Option qS×Int))) else .next (acc++[hd w (i:Int)])) (λacc=>.next (w.1,w.2.1,w.2.2.1,w.2.2.2,acc,())) l acc
  =if (l.all λ(i:Nat)=>!decide (((hd w (i:Int)).length:Int)=0))=true then .next (w.1,w.2.1,w.2.2.1,w.2.2.2,acc++l.map (λ(i:Nat)=>hd w (i:Int)),()) else .done (none,3)
 | [],acc=>by simp[eX]
 | i::l,acc=>by
  simp only[eX,List.all_cons,List.map_cons];by_cases h:((hd w (i:Int)).length:Int)=0
  ·simp[h]
  ·simp only[h,decide_false,Bool.false_eq_true,if_false,Bool.not_false,Bool.true_and];rw[Zz l];simp
theorem aoR(w:bz)(cb:Bool)(h:ht w):Oc h2.sh (jB j0).sh yQ.sh (w,cb)=A.pure (jh w cb):=by
 unfold Oc jh eE;simp only[aM.sh,A.dG,A.bt h];by_cases hc:cN w=0
 ·have hw:q5 w:=⟨h,PH hc⟩
  have aoS:=E0 hw.2;simp only[hc,ne_eq,not_true,decide_false,Bool.false_eq_true,if_false];cases cb with
  | false=>simp
  | true=>
   simp only[Bool.not_true,Bool.false_eq_true,if_false,Bool.true_eq_false];rw[A.gv (List.range w.1.length) (λi (acc:List (z1'))=>(w.1,(w.1.length:Int),(i:Int),w,w.1,w.2.1,w.2.2.1,w.2.2.2,acc,())) (λ(i:Nat) (acc:List (z1'))=>if decide (((hd w (i:Int)).length:Int)=0)=true then (.done (.done (none,(3:Int))):V _ (V (List IH×List (List wy)×Int×List mL×List (z1')×Unit) (Option qS×Int))) else .next (acc++[hd w (i:Int)])) (λacc=>.next (w.1,w.2.1,w.2.2.1,w.2.2.2,acc,())) (λi acc=>acc.length<=i) [] ?_ ?_ ?_ ?_]
   ·rw[Zz];have e:((List.range w.1.length).all λ(i:Nat)=>!decide (((hd w (i:Int)).length:Int)=0))=wC w:=rfl;rw[e];by_cases aL:wC w=true<;>simp[aL,p7]
   ·rfl
   ·simp
   ·intro i G acc PI;have G:i<w.1.length:=by grind
    have oa:=aot G;have ai:=Zo hw.2 oa;have h4:=bF (n:=(i:Int)+1) (by omega) (by omega);have aB:w.1[i]=gI w (i:Int):=by simp[gI,List.getD_eq_getElem?_getD,G]
    refine⟨?_,λbd W=>?_⟩
    ·simp only[bW,cX G,if_true,dk G,cH G,A.bn,aB,List.getElem_range];rw[A.gv (ee (gI w (i:Int)).2.2.1 (gI w (i:Int)).2.2.2) (λk (l:z1')=>(w.1,(w.1.length:Int),(i:Int),w,(i:Int),gI w (i:Int),l,(gI w (i:Int)).2.2.1+(k:Int),w.1,w.2.1,w.2.2.1,w.2.2.2,acc,())) (λn l=>.next (if w.2.2.2.all (uZ w (i:Int) n)=true then l++[n] else l)) (λl=>.next (w.1,(w.1.length:Int),(i:Int),w,l,w.1,w.2.1,w.2.2.1,w.2.2.2,acc,())) (λk l=>l.length<=k) [] ?_ ?_ ?_ ?_]
     ·rw[fr,Vx];simp only[A.aF,A.b2,List.nil_append];rw[<-aoQ];by_cases bj:((hd w (i:Int)).length:Int)=0
      ·simp[bj]
      ·have lT:b9 (acc.length+(0+1)):=by unfold b9;omega
       simp_all
     ·simp
     ·simp
     ·intro k al l aoT;have wc:k<1000:=by rw[yh]at al;omega
      have sv:(gI w (i:Int)).2.2.1+(k:Int)<=(gI w (i:Int)).2.2.2:=by rw[yh]at al;omega
      have E6:=bF (n:=(gI w (i:Int)).2.2.1+((k:Int)+1)) (by omega) (by omega);have lT:b9 (l.length+(0+1)):=by unfold b9;omega
      refine⟨?_,λbd W=>?_⟩
      ·have lP:∀ t∈w.2.2.2,yQ.sh (t,some (i:Int),some w,some ((gI w (i:Int)).2.2.1+(k:Int)))=A.pure (uZ w (i:Int) ((gI w (i:Int)).2.2.1+(k:Int)) t):=λt aL=>A.bO ⟨_,_,_,rfl,hw,oa,(aor hw.2 aL).2⟩ _;simp only[sv,decide_true,if_true,D_];rw[A.bt (by exact⟨h.2.2.1,λt aL=>⟨_,lP t aL⟩⟩)];have e:(w.2.2.2.all λy=>(A.dP (yQ.pre (y,some (i:Int),some w,some ((gI w (i:Int)).2.2.1+(k:Int)))) (yQ.g (y,some (i:Int),some w,some ((gI w (i:Int)).2.2.1+(k:Int))))).val false)=w.2.2.2.all (uZ w (i:Int) ((gI w (i:Int)).2.2.1+(k:Int))):=IM λt aL=>A.gQ;rw[e];by_cases W:w.2.2.2.all (uZ w (i:Int) ((gI w (i:Int)).2.2.1+(k:Int)))=true
       ·simp only[W,if_true,cn,gY,A.bt lT,A.aF,A.b2,E6,V.ho,Int.natCast_add,Int.natCast_one,Int.add_assoc]
       ·simp only[W,Bool.false_eq_true,if_false,cn,gY,A.aF,A.b2,E6,V.ho,Int.natCast_add,Int.natCast_one,Int.add_assoc]
      grind
     ·intro l aoT;have:¬(gI w (i:Int)).2.2.1+((ee (gI w (i:Int)).2.2.1 (gI w (i:Int)).2.2.2).length:Int)<=(gI w (i:Int)).2.2.2:=by rw[yh];omega
      simp only[this,decide_false,Bool.false_eq_true,if_false,A.aF]
    grind
   simp
 grind
theorem aoU(x):A.le (Oc h2.sh (jB j0).sh yQ.sh x) (BA.sh x):=A.bu λh=>aoR x.1 x.2 h
theorem aoV(x):A.le (VU x) (IL.sh x):=A.bu λ_=>by
 unfold VU;simp only[IK,decide_eq_true_eq];grind
theorem ZA(w:bz):(p7 w).length=w.1.length:=by simp[p7]
theorem PJ{w:bz}{i:Int}(h:hb w i=true):List.getD (p7 w) i.toNat []=hd w i:=by
 rw[uW]at h;have:i.toNat<w.1.length:=by omega
 have e:((i.toNat:Nat):Int)=i:=by omega
 simp[p7,List.getD_eq_getElem?_getD,this,e]
abbrev aoW:ab:=.bG (.st (.az lD (.slice fO)))
def aoX(o:Option qS)(w:bz):Prop:=o=some (w,p7 w)/\q5 w
abbrev IU:aM:=⟨.az aoW (.az bq (.az bq bq)),bq,λx=>∃ w,aoX x.1 w/\hb w x.2.1=true/\iT w x.2.2.1 x.2.2.2=true,λx=>u0 ((x.1.getD (([],[],0,[]),[])).1) x.2.1 x.2.2.1 x.2.2.2⟩
theorem aoY(w:bz)(i m k:Int)(hw:q5 w)(G:hb w i=true)(hm:iT w m k=true):Od E1.sh IL.sh (some (w,p7 w),i,m,k)=A.pure (u0 w i m k):=by
 unfold Od;have lT:=Zp hw G;have cf:0<=i/\i<((p7 w).length:Int):=by rw[ZA];exact uW.1 G
 simp only[Option.isSome_some,Option.getD_some,A.bn,bW,PJ G,A.bt cf];rw[A.gv (hd w i) (λj (n:Int)=>(some (w,p7 w),i,m,k,n,hd w i,((hd w i).length:Int),(j:Int),())) (λx n=>.next (if wB w i x m k=true then n+1 else n)) (λn=>.next (some (w,p7 w),i,n,())) (λj n=>0<=n/\n<=(j:Int)) 0 ?_ ?_ ?_ ?_]
 ·rw[fr,Zr];simp only[A.aF,A.b2,Option.isSome_some,Option.getD_some,A.bn,A.bt cf,PJ G,aM.sh,A.dG,Int.zero_add];rfl
 ·rfl
 ·simp
 ·intro j aE n au;have aoZ:=bF (n:=(j:Int)+1) (by omega) (by omega);have BB:=bF (n:=n+1) (by omega) (by omega);have an:q5 w/\hb w i=true/\iT w m k=true:=⟨hw,G,hm⟩
  refine⟨?_,λbd W=>?_⟩
  ·simp only[cX aE,if_true,dk aE,cH aE,A.bn,Option.isSome_some,Option.getD_some,aM.sh,A.dG,A.bt an,cn,BB];cases wB w i (hd w i)[j] m k<;>simp[aoZ]
  grind
 simp
theorem ao0(x):A.le (Od E1.sh IL.sh x) (IU.sh x):=A.bu λh=>by
 obtain⟨o,i,m,k⟩:=x;obtain⟨w,⟨ar,hw⟩,G,hm⟩:=h;change o=_ at ar;subst ar;exact aoY w i m k hw G hm
theorem ZB{w:bz}{cb:Bool}(h:eE w cb=0):jh w cb=(some (w,p7 w),0):=by simp[jh,h]
theorem ZC{w:bz}{cb:Bool}(h:eE w cb≠0):jh w cb=(none,eE w cb):=by simp[jh,h]
theorem ao1(w:bz)(i:Int)(h:ht w):N' BA.sh p4.sh (w,i)=A.pure (wD w i):=by
 unfold N' wD;simp only[aM.sh,A.od,A.gQ,h,A.bn];by_cases al:eE w (hb w i)=0
 ·have hw:=Zq h al;have G:=(E2 al).2.1;have an:=aou (E2 al).2.2 G;have lT:=Zp hw G;have h4:=bF (n:=((hd w i).length:Int) - 1) (by omega) (by omega);have ax:(((hd w i).length:Int) - 1).toNat=(hd w i).length - 1:=by omega
  have sV:0<=i/\i<((p7 w).length:Int):=by rw[ZA];exact uW.1 G
  have cf:(0:Int)<=0/\(0:Int)<((hd w i).length:Int):=by omega
  have cI:(0:Int)<=((hd w i).length:Int) - 1/\((hd w i).length:Int) - 1<((hd w i).length:Int):=by omega
  simp only[ZB al,al,ne_eq,not_true,decide_false,Bool.false_eq_true,if_false,Option.isSome_some,Option.getD_some,A.bn,bW,PJ G,A.bt sV,h4,ax,A.bt cI];simp_all
 ·simp[ZC al,al]
theorem ao2(x):A.le (N' BA.sh p4.sh x) (yO.sh x):=A.bu λh=>ao1 x.1 x.2 h
theorem ao3(w:bz)(i m k:Int)(h:ht w):Oa BA.sh p4.sh r1.sh IU.sh (w,i,m,k)=A.pure (mb w i m k):=by
 unfold Oa mb;simp only[aM.sh,A.od,A.gQ,h,A.bn,and_true,and_self,imp_self,true_and];by_cases al:eE w (hb w i&&iT w m k)=0
 ·have hw:=Zq h al;have G:=(E2 al).2.1;simp only[Bool.and_eq_true]at G;simp only[ZB al,al,ne_eq,not_true,decide_false,Bool.false_eq_true,if_false,A.dG];rw[A.bt (by exact⟨w,⟨rfl,hw⟩,G.1,G.2⟩)];rfl
 ·simp[ZC al,al]
theorem ao4(x):A.le (Oa BA.sh p4.sh r1.sh IU.sh x) (u1.sh x):=A.bu λh=>ao3 x.1 x.2.1 x.2.2.1 x.2.2.2 h
theorem PK{n:Int}(E:0<=n)(U:n<18446744073709551616):IntKind.u64.wrap n=n:=by
 show (if (false&&decide (n % 2 ^ 64>=(2 ^ (64 - 1):Int)))=true then n % 2 ^ 64 - 2 ^ 64 else n % 2 ^ 64)=n;grind
theorem PL:∀ (n:Nat) (l:z1'),l.Nodup->(∀ x∈l,0<=x/\x<(n:Int))->l.length<=n
 | 0,l,_,h=>by
  cases l with
  | nil=>simp
  | cons x l=>have:=h x (by simp);omega
 | n+1,l,au,h=>by
  have U:=PL n (l.erase (n:Int)) (au.erase _) λx ah=>by
   grind
  grind
def ao5(l:z1'):Prop:=∀ x∈l,0<=x/\x<16
def ZD(l:z1'):Prop:=l.Nodup/\ao5 l
theorem ZD.len{l:z1'}(h:ZD l):l.length<=16:=PL 16 l h.1 h.2
theorem A.ao6{D aI:Type}{body:D->A (V D aI)}{p:aI->Prop}{s0:D}(n:Nat)(I:Nat->D->Prop)(aT:I 0 s0)
  (aD:∀ i,i<n->∀ s,I i s->A.cu (body s) λst=>match st with | .next s'=>I (i+1) s' | .done r=>p r)
  (ar:∀ s,I n s->A.cu (body s) λst=>match st with | .next _=>False | .done r=>p r):A.cu (A.loop body s0) p:=by
 have key:∀ k i s,n - i=k->i<=n->I i s->A.cu (A.loop body s) p:=by
  intro k;induction k with
  | zero=>
   intro i s al G h;have:i=n:=by omega
   subst this;rw[A.Cc,A.fY];refine (ar s h).mono λy aR=>?_;cases y with
   | next s'=>grind
   | done r=>exact A.d_.2 aR
  | succ k aH=>
   intro i s al G h;rw[A.Cc,A.fY];refine (aD i (by omega) s h).mono λy aR=>?_;cases y with
   | next s'=>grind
   | done r=>exact A.d_.2 aR
 grind
def PM(x:Int×Int):Int:=IntKind.wrap .u64
 (Add.add (IntKind.wrap .u64 (Add.add (IntKind.wrap .u64 (jl .u64 x.1 32*jl .u64 x.2 32)) (jl .u64 (IntKind.wrap .u64 (Add.add (IntKind.wrap
 .u64 (jl .u64 x.1 32*lM .u64 x.2 4294967295)) (jl .u64 (IntKind.wrap .u64 (lM .u64 x.1 4294967295*lM .u64 x.2 4294967295)) 32))) 32)))
 (jl .u64 (IntKind.wrap .u64 (Add.add (lM .u64 (IntKind.wrap .u64 (Add.add (IntKind.wrap .u64 (jl .u64 x.1 32*lM .u64 x.2 4294967295)) (jl
 .u64 (IntKind.wrap .u64 (lM .u64 x.1 4294967295*lM .u64 x.2 4294967295)) 32))) 4294967295) (IntKind.wrap .u64 (lM .u64 x.1 4294967295*jl
 .u64 x.2 32)))) 32))
def IV:Nat->Bool
 | 0=>true
 | n+1=>decide (PM (1,(n:Int))=0)&&IV n
theorem ZE:∀ (N n:Nat),IV N=true->n<N->PM (1,(n:Int))=0
 | 0,n,_,h=>by omega
 | N+1,n,hc,h=>by
  simp only[IV,Bool.and_eq_true,decide_eq_true_eq]at hc;by_cases e:n=N
  ·grind
  ·exact ZE N n hc.2 (by omega)
def PN(work:z1')(s:Int):z1':=((List.range work.length).filter λj=>decide (work.getD j 0=s)).map λ(j:Nat)=>(j:Int)
theorem ao7{ak β aI:Type}{f:ak->β->V β aI}{fin:β->aI}(I:Nat->β->Prop)(Q:aI->Prop)(l:List ak)(b:β)(aT:I 0 b)
  (aD:∀ i (h:i<l.length) b,I i b->match f l[i] b with | .next bd=>I (i+1) bd | .done r=>Q r) (ar:∀ b,I l.length b->Q (fin b)):Q (eX f fin l b):=by
 have key:∀ (k:Nat) (r:List ak) (b:β),k<=l.length->r=l.drop k->I k b->Q (eX f fin r b):=by
  intro k r;induction r generalizing k with
  | nil=>
   intro b al M ez;have:k=l.length:=by have:=congrArg List.length M;grind
   subst this;exact ar b ez
  | cons x r aH=>
   intro b al M ez;have cj:k<l.length:=by
    grind
   rw[List.drop_eq_getElem_cons cj]at M;injection M with ah M
   have E:=aD k cj b ez;rw[<-ah]at E;simp only[eX];grind
 grind
def cR(m:z4')(k:Int):Int:=(u2 m k).getD 0
theorem ao8(m:z4')(k:Int):Option.getD (Option.map (λx=>x.2) (List.find? (λp=>decide (k=p.1)) m)) 0=cR m k:=rfl
theorem BC(k v k':Int)(m:z4'):cR (e' m k v) k'=if k'=k then v else cR m k':=by
 unfold cR;rw[Zv];grind
def r3(n:Nat)(m:z4'):Nat:=(List.range n).countP λ(s:Nat)=>decide (cR m (s:Int)=0)
theorem ZF{p q:Nat->Bool}{s:Nat}(h:∀ x,x≠s->p x=q x)(an:p s=true)(bp:q s=false):∀ (l:List Nat),l.Nodup->s∈l->l.countP p=l.countP q+1
 | [],_,aD=>by cases aD
 | x::l,au,aD=>by
  rw[List.nodup_cons]at au;rw[List.countP_cons,List.countP_cons];by_cases e:x=s
  ·subst e;have:l.countP p=l.countP q:=List.countP_congr λy aR=>by
    grind
   grind
  ·have:=ZF h an bp l au.2 (by grind);grind
theorem ZG{n:Nat}{m:z4'}{s v:Int}(aT:0<=s)(au:s<(n:Int))(hm:cR m s=0)(ae:v≠0):r3 n m=r3 n (e' m s v)+1:=by
 unfold r3;refine ZF (s:=s.toNat) (λx ah=>?_) ?_ ?_ _ List.nodup_range (by grind)
 ·rw[BC,if_neg (by omega)]
 ·grind
 ·rw[BC,if_pos (by omega)];grind
theorem ZH{n:Nat}{a b:z4'}(h:∀ k,0<=cR a k/\cR a k<=cR b k):r3 n b<=r3 n a:=by
 unfold r3;refine List.countP_mono_left λx _ ah=>?_;grind
abbrev k_:=z1'×z4'
def V.u3{β aI jt:Type}(g:aI->jt):V β aI->V β jt
 | .next b=>.next b
 | .done r=>.done (g r)
def yR{ak β aI:Type}(f:ak->β->V β aI):List ak->β->V β aI
 | [],b=>.next b
 | x::l,b=>match f x b with
  | .next bd=>yR f l bd
  | .done r=>.done r
def V.fin{β aI:Type}(n:β->aI):V β aI->aI
 | .next b=>n b
 | .done r=>r
theorem PO{ak β aI:Type}{f:ak->β->V β aI}{n:β->aI}:∀ (l:List ak) (b:β),eX f n l b=V.fin n (yR f l b)
 | [],b=>rfl
 | x::l,b=>by
  simp only[eX,yR];cases f x b with
  | next bd=>exact PO l bd
  | done r=>rfl
theorem ZI{ak β aI jt:Type}{f:ak->β->V β aI}{g:aI->jt}:∀ (l:List ak) (b:β),yR (λx b=>V.u3 g (f x b)) l b=V.u3 g (yR f l b)
 | [],b=>rfl
 | x::l,b=>by
  simp only[yR];cases f x b with
  | next bd=>exact ZI l bd
  | done r=>rfl
def ao9(w:bz):Prop:=w.1.length<=2000000/\w.2.1.length<=2000000/\w.2.2.2.length<=2000000/\∀ m∈w.2.1,m.length<=2000000/\∀ s∈m,s.2.1.length<=2000000
def yS(m:List (Int×z1'×Int×Int)):Bool:=decide ((m.length:Int) > 20)||m.any λs=>decide ((s.2.1.length:Int) > 20)
def ma(w:bz):Bool:=
 if (decide ((w.1.length:Int) > 40)||decide ((w.2.1.length:Int) > 40)||decide ((w.2.2.2.length:Int) > 60))=true then true
 else if w.2.1.any yS=true then true
 else if cN w≠0 then false
 else if (w.1.any λs=>decide (IntKind.i64.wrap (s.2.2.2 - s.2.2.1)>=50))=true then true
 else decide ((w.1.length:Int) > 6)||decide ((w.2.1.length:Int) > 4)||decide ((w.2.2.2.length:Int) > 10)
abbrev wu:aM:=⟨lD,dj,ht,ma⟩
theorem ao_(w:bz)(h:ht w):Of h2.sh w=A.pure (ma w):=by
 unfold Of ma;simp only[bW];by_cases E:(decide ((w.1.length:Int) > 40)||decide ((w.2.1.length:Int) > 40)||decide ((w.2.2.2.length:Int) > 60))=true
 ·grind
 ·rw[if_neg E,if_neg E];have ai:=h;obtain⟨df,dJ,mX,r4⟩:=h;rw[A.et w.2.1 (λi (_:Unit)=>((i:Int),w,())) (λm u=>if yS m=true then .done (.done true) else .next u) (λ_=>.next (w,())) () ?_ ?_ ?_]
  ·rw[rU];by_cases U:w.2.1.any yS=true
   ·simp only[U,if_true,A.aF,A.pS]
   ·simp only[U,Bool.false_eq_true,if_false,A.aF,A.b2,aM.sh,A.dG,A.bt ai];by_cases ag:cN w=0
    ·simp only[ag,ne_eq,not_true,decide_false,Bool.false_eq_true,if_false];rw[A.et w.1 (λi (_:Unit)=>((i:Int),w,())) (λs u=>if decide (IntKind.i64.wrap (s.2.2.2 - s.2.2.1)>=50)=true then .done (.done true) else .next u) (λ_=>.next (w,())) () ?_ ?_ ?_]
     ·rw[rU];by_cases a6:(w.1.any λs=>decide (IntKind.i64.wrap (s.2.2.2 - s.2.2.1)>=50))=true
      ·simp_all
      ·simp only[a6,Bool.false_eq_true,if_false,A.aF,A.b2]
     ·rfl
     ·intro i G u;have lE:=bF (n:=(i:Int)+1) (by omega) (by omega);simp only[bW,cX G,if_true,cH G,A.bn,dk G,A.aF,cn,lE];exact nj (mk:=λ_:Unit=>((i:Int)+1,w,()))
     simp
    grind
  ·rfl
  ·intro i G u;have lE:=bF (n:=(i:Int)+1) (by omega) (by omega);have hm:=r4 _ (List.getElem_mem G);simp only[bW,cX G,if_true,cH G,A.bn,dk G,A.aF];by_cases bM:decide ((w.2.1[i].length:Int) > 20)=true
   ·have ar:yS w.2.1[i]=true:=by unfold yS;grind
    simp_all
   ·have ar:yS w.2.1[i]=w.2.1[i].any λs=>decide ((s.2.1.length:Int) > 20):=by unfold yS;grind
    rw[if_neg bM];rw[A.et w.2.1[i] (λk (_:Unit)=>((i:Int),(k:Int),w,())) (λs u=>if decide ((s.2.1.length:Int) > 20)=true then .done (.done (.done (.done true))) else .next u) (λ_=>.next ((i:Int),w,())) () ?_ ?_ ?_]
    ·rw[rU,ar];by_cases dt:(w.2.1[i].any λs=>decide ((s.2.1.length:Int) > 20))=true
     ·simp_all
     ·simp only[dt,Bool.false_eq_true,if_false,A.aF,A.b2,cn,lE];rfl
    ·rfl
    ·intro k al u;have mK:=bF (n:=(k:Int)+1) (by omega) (by omega);simp only[cH G,A.bn,dk G,cX al,if_true,cH al,dk al,A.aF,cn,mK];exact nj (mk:=λ_:Unit=>((i:Int),(k:Int)+1,w,()))
    simp_all
  simp
theorem ao'(x):A.le (Of h2.sh x) (wu.sh x):=A.bu λh=>ao_ x h
def IW:bz:=([(1,2,300,310),(1,3,305,305),(2,1,50,60),(1,2,320,330)],[[(1,[2,3],300,306),(2,[1],40,58)],[(1,[2],310,326)]],5,[(0,1,0,0)])
abbrev PQ:aM:=⟨.cS,lD,λ_=>True,λ_=>IW⟩
theorem apa(x):A.le (aj_ x) (PQ.sh x):=A.bu λ_=>rfl
theorem apb:ht IW:=by
 refine⟨by decide,by decide,by decide,?_⟩;intro m hm;simp only[IW,List.mem_cons,List.not_mem_nil,or_false]at hm;grind
abbrev nx:ab:=.st (.az bq (.az bq (.az bq (.az bq fO))))
abbrev mM:ab:=.st (.az fO (.az l7 (.az bq (.az bq bq))))
abbrev p8:ab:=.st (.az bq (.az bq bq))
abbrev mc:ab:=.st (.az lD (.az fO (.az (.slice nx) (.az (.slice mM) (.az (.slice p8) bq)))))
def fE(s:bI):Prop:=ht s.1/\s.2.1.length<2 ^ 63/\s.2.2.1.length<2 ^ 63/\s.2.2.2.1.length<2 ^ 63/\s.2.2.2.2.1.length<2 ^ 63/\(∀ p∈s.2.2.1,p.2.2.2.2.length<2 ^ 63)/\∀ x∈s.2.2.2.1,x.1.length<2 ^ 63
def bZ(n aX G:Int):Bool:=decide (aX<=n)&&decide (n<=G)
def j1(n:Int):Bool:=bZ n 0 99
def j2(p:Int->Bool)(l:z1'):Bool:=(List.range l.length).all λi=>p (l.getD i 0)&&!(decide (0<i)&&decide (l.getD i 0<=l.getD (i - 1) 0))
def E7(w:bz)(m:Int)(n:Int):Bool:=decide (0<=n)&&decide (n<((jA w m).length:Int))
def p9(w:bz)(p:dx):Bool:=j1 p.1&&j1 p.2.1&&j1 p.2.2.1&&oo w p.2.2.2.1&&j2 (E7 w p.2.2.2.1) p.2.2.2.2
def pc(x:dL):Bool:=bZ (x.1.length:Int) 1 8&&j2 j1 x.1&&j1 x.2.1.1&&j1 x.2.1.2&&decide (x.2.1.1<=x.2.1.2)&&j1 x.2.2.1&&j1 x.2.2.2.1&&bZ x.2.2.2.2 0 100000
def pd(w:bz)(d:Ef):Bool:=j1 d.1&&hb w d.2.1&&bZ d.2.2 1 10
def ny(s:bI):Bool:=decide ((s.2.1.length:Int)=(s.1.1.length:Int))&&(s.2.1.all λn=>bZ n 0 10)&&decide ((s.2.2.1.length:Int)<=8)&&s.2.2.1.all (p9 s.1)&&decide ((s.2.2.2.1.length:Int)<=6)&&s.2.2.2.1.all pc&&decide ((s.2.2.2.2.1.length:Int)<=8)&&s.2.2.2.2.1.all (pd s.1)&&j1 s.2.2.2.2.2
def ji(s:bI):Int:=if cN s.1≠0 then cN s.1 else if ny s=true then 0 else 80
theorem apc(x):A.le (aku x) (cp.sh x):=A.bu λ_=>rfl
theorem apd(x):A.le (ako x) (cp.sh x):=A.bu λ_=>rfl
abbrev r5:aM:=⟨bq,dj,λ_=>True,j1⟩
theorem ape(x):A.le (Wb cp.sh x) (r5.sh x):=A.bu λ_=>by
 unfold Wb;simp[aM.sh,cp,j1,bZ]
theorem apf(x):A.le (Wf cp.sh x) (r5.sh x):=A.bu λ_=>by
 unfold Wf;simp[aM.sh,cp,j1,bZ]
abbrev IX:aM:=⟨.az fO (.fn bq .bool),dj,λx=>x.1.length<2 ^ 63/\∀ y∈x.1,∃ b,x.2 y=A.pure b,λx=>j2 (λy=>(x.2 y).val false) x.1⟩
theorem apg(x):A.le (Wc x) (IX.sh x):=A.bu λh=>by
 obtain⟨l,f⟩:=x;obtain⟨E,U⟩:=h;change l.length<2 ^ 63 at E;change ∀ y∈l,∃ b,f y=A.pure b at U;unfold Wc;rw[A.et (List.range l.length) (λi (_:Unit)=>(l,f,l,(l.length:Int),(i:Int),())) (λi b=>if (!((f (l.getD i 0)).val false&&!(decide (0<i)&&decide (l.getD i 0<=l.getD (i - 1) 0))))=true then .done (.done false) else .next b) (λ_=>.next ()) () ?_ ?_ ?_]
 ·rw[k0 (q:=λi=>(f (l.getD i 0)).val false&&!(decide (0<i)&&decide (l.getD i 0<=l.getD (i - 1) 0))) _ _ (λ_=>rfl)];show _=A.pure (j2 (λy=>(f y).val false) l);unfold j2;cases (List.range l.length).all λi=>(f (l.getD i 0)).val false&&!(decide (0<i)&&decide (l.getD i 0<=l.getD (i - 1) 0))<;>simp
 ·rfl
 ·intro i G b;have G:i<l.length:=by grind
  have hw:=bF (n:=(i:Int)+1) (by omega) (by omega);have gX:=bF (n:=(i:Int) - 1) (by omega) (by omega);have aO:((i:Int) - 1).toNat=i - 1:=by omega
  obtain⟨c,hc⟩:=U _ (List.getElem_mem G);have jx:l.getD i 0=l[i]:=by grind
  have tb:(decide ((i:Int) > 0))=decide (0<i):=by simp
  simp only[bW,cX G,if_true,List.getElem_range,dk G,cH G,A.bn,jx,hc,A.e4,A.aF,cn,hw,gX,aO,tb];rw[A.bt (by grind)];cases c<;>cases (decide (0<i)&&decide (l[i]<=l.getD (i - 1) 0))<;>rfl
 simp
abbrev IY:aM:=⟨.az fO bq,dj,λx=>x.1.length<2 ^ 63,λx=>j2 (λn=>bZ n 0 x.2) x.1⟩
theorem aph(x):A.le (Wi x) (IY.sh x):=A.bu λh=>by
 obtain⟨l,m⟩:=x;change l.length<2 ^ 63 at h;unfold Wi;rw[A.et (List.range l.length) (λi (_:Unit)=>(l,m,(i:Int),())) (λi b=>if (!(bZ (l.getD i 0) 0 m&&!(decide (0<i)&&decide (l.getD i 0<=l.getD (i - 1) 0))))=true then .done (.done false) else .next b) (λ_=>.next ()) () ?_ ?_ ?_]
 ·rw[k0 (q:=λi=>bZ (l.getD i 0) 0 m&&!(decide (0<i)&&decide (l.getD i 0<=l.getD (i - 1) 0))) _ _ (λ_=>rfl)];show _=A.pure (j2 (λn=>bZ n 0 m) l);unfold j2;cases (List.range l.length).all λi=>bZ (l.getD i 0) 0 m&&!(decide (0<i)&&decide (l.getD i 0<=l.getD (i - 1) 0))<;>simp
 ·rfl
 ·intro i G b;have G:i<l.length:=by grind
  have hw:=bF (n:=(i:Int)+1) (by omega) (by omega);have gX:=bF (n:=(i:Int) - 1) (by omega) (by omega);have aO:((i:Int) - 1).toNat=i - 1:=by omega
  have jx:l.getD i 0=l[i]:=by grind
  have tb:(decide ((i:Int) > 0))=decide (0<i):=by simp
  simp only[bW,cX G,if_true,List.getElem_range,dk G,cH G,A.bn,jx,A.aF,cn,hw,gX,aO,tb];have sV:0<i->(0:Int)<=(i:Int) - 1/\(i:Int) - 1<(l.length:Int):=by omega
  generalize l.getD (i - 1) 0=B;generalize l[i]=aJ;by_cases ir:aJ<0<;>by_cases uf:aJ > m<;>by_cases aT:0<i<;>by_cases aS:aJ<=B<;>simp_all[bZ,V.ho,A.bt]<;>(grind)<;>(grind)
 simp
theorem PR{p q:Int->Bool}{l:z1'}(h:∀ y∈l,p y=q y):j2 p l=j2 q l:=by
 unfold j2;grind
theorem api(n:Int)(k:Nat):bZ n 0 ((k:Int) - 1)=(decide (0<=n)&&decide (n<(k:Int))):=by
 unfold bZ;grind
theorem apj(a b:Int):decide (a > b)=!decide (a<=b):=by grind
abbrev E8:aM:=⟨.az bq (.az (.bG lD) (.bG nx)),dj,λx=>∃ w p,x.2=(some w,some p)/\ht w/\oo w p.2.2.2.1=true,λx=>E7 (x.2.1.getD ([],[],0,[])) (x.2.2.getD (0,0,0,0,[])).2.2.2.1 x.1⟩
theorem apk(x):A.le (Wd cp.sh x) (E8.sh x):=A.bu λh=>by
 obtain⟨n,o⟩:=x;obtain⟨w,p,ar,hw,hm⟩:=h;change o=_ at ar;subst ar;unfold Wd;have r:=II.1 hm;have ai:=IJ hw p.2.2.2.1;have h4:=bF (n:=((jA w p.2.2.2.1).length:Int) - 1) (by omega) (by omega);unfold jA at h4;simp only[aM.sh,cp,Option.getD_some,bW,r,and_self,A.bn,h4,A.dG,r0];rfl
abbrev E9:aM:=⟨.az nx (.bG lD),dj,λx=>x.1.2.2.2.2.length<2 ^ 63/\∃ w,x.2=some w/\ht w,λx=>!p9 (x.2.getD ([],[],0,[])) x.1⟩
theorem apl(x):A.le (Wa cp.sh r5.sh IX.sh E8.sh x) (E9.sh x):=A.bu λh=>by
 obtain⟨p,o⟩:=x;obtain⟨an,w,ar,hw⟩:=h;change o=_ at ar;change p.2.2.2.2.length<2 ^ 63 at an;subst ar;unfold Wa;have ai:=hw.2.1;have h4:=bF (n:=((w.2.1.length:Int)) - 1) (by omega) (by omega);have ax:(decide (0<=p.2.2.2.1)&&decide (p.2.2.2.1<(w.2.1.length:Int)))=oo w p.2.2.2.1:=rfl;simp only[aM.sh,cp,Option.getD_some,bW,A.bn,h4,A.dG,A.jd,r0,implies_true,qR,ax];have key:oo w p.2.2.2.1=true->(j2 (λy=>(A.dP (E8.pre (y,some w,some p)) (E8.g (y,some w,some p))).val false) p.2.2.2.2)=j2 (E7 w p.2.2.2.1) p.2.2.2.2:=λhm=>PR λy aR=>A.gQ;rw[A.bt]
 ·show A.pure _=A.pure _;congr 1;show _=!p9 w p;unfold p9;simp
 ·intro cT;have hm:oo w p.2.2.2.1=true:=by
   grind
  exact⟨an,λy aR=>⟨_,A.bO ⟨w,p,rfl,hw,hm⟩ _⟩⟩
abbrev E_:aM:=⟨mM,dj,λx=>x.1.length<2 ^ 63,λx=>!pc x⟩
theorem apm(x):A.le (We cp.sh r5.sh IX.sh r5.sh x) (E_.sh x):=A.bu λh=>by
 unfold We;have key:(j2 (λy=>(A.dP (r5.pre y) (r5.g y)).val false) x.1)=j2 j1 x.1:=PR λy aR=>A.gQ;simp only[aM.sh,cp,bW,A.bn,A.dG,A.jd,implies_true,qR];rw[A.bt]
 ·show A.pure _=A.pure (!pc x);congr 1;unfold pc;rw[key];have e:decide (x.2.1.1 > x.2.1.2)=!decide (x.2.1.1<=x.2.1.2):=by grind
  rw[e];show _=!(bZ (x.1.length:Int) 1 8&&_&&_&&_&&_&&_&&_&&_);unfold bZ;simp
 ·exact λ_=>⟨h,λy aR=>⟨_,A.bO trivial _⟩⟩
abbrev E':aM:=⟨.az p8 (.bG lD),dj,λx=>∃ w,x.2=some w/\ht w,λx=>!pd (x.2.getD ([],[],0,[])) x.1⟩
theorem apn(x):A.le (Wg cp.sh r5.sh x) (E'.sh x):=A.bu λh=>by
 obtain⟨d,o⟩:=x;obtain⟨w,ar,hw⟩:=h;change o=_ at ar;subst ar;unfold Wg;have ai:=hw.1;have h4:=bF (n:=((w.1.length:Int)) - 1) (by omega) (by omega);simp only[aM.sh,cp,Option.getD_some,bW,A.bn,h4,A.dG,A.jd,r0,implies_true,qR];show A.pure _=A.pure (!pd w d);congr 1;unfold pd hb bZ;simp
abbrev Fa:aM:=⟨bq,dj,λ_=>True,λn=>!bZ n 0 10⟩
theorem apo(x):A.le (Wh cp.sh x) (Fa.sh x):=A.bu λ_=>by
 unfold Wh;simp[aM.sh,cp,bZ]
theorem IZ{ak:Type}{p q:ak->Bool}{l:List ak}(h:∀ x∈l,p x=!q x):l.any p=!l.all q:=by
 grind
abbrev PS:aM:=⟨mc,dj,fE,ny⟩
theorem apq(x):A.le (V5 r5.sh (je bq).sh (je nx).sh (je mM).sh (je p8).sh E9.sh E'.sh E_.sh Fa.sh x) (PS.sh x):=A.bu λh=>by
 obtain⟨E,U,ag,a6,bM,dt,gK⟩:=h;unfold V5;simp only[aM.sh,bW,A.bn,A.dG,A.jd,implies_true];have aQ:(x.2.1.any λy=>(A.dP (Fa.pre y) (Fa.g y)).val false)=!x.2.1.all λn=>bZ n 0 10:=IZ λy _=>A.gQ;have aV:(x.2.2.1.any λy=>(A.dP (E9.pre (y,some x.1)) (E9.g (y,some x.1))).val false)=!x.2.2.1.all (p9 x.1):=IZ λy _=>A.gQ;have bK:(x.2.2.2.1.any λy=>(A.dP (E_.pre y) (E_.g y)).val false)=!x.2.2.2.1.all pc:=IZ λy _=>A.gQ;have fz:(x.2.2.2.2.1.any λy=>(A.dP (E'.pre (y,some x.1)) (E'.g (y,some x.1))).val false)=!x.2.2.2.2.1.all (pd x.1):=IZ λy _=>A.gQ;rw[A.bt,A.bt,A.bt,A.bt]
 ·show A.pure _=A.pure (ny x);congr 1;unfold ny;grind
 ·exact λ_=>⟨bM,λy aR=>⟨_,A.bO ⟨_,rfl,E⟩ _⟩⟩
 ·exact λ_=>⟨a6,λy aR=>⟨_,A.bO (gK y aR) _⟩⟩
 ·exact λ_=>⟨ag,λy aR=>⟨_,A.bO ⟨dt y aR,_,rfl,E⟩ _⟩⟩
 ·exact λ_=>⟨U,λy aR=>⟨_,A.bO trivial _⟩⟩
abbrev p_:aM:=⟨mc,bq,fE,ji⟩
theorem apr(x):A.le (VY h2.sh PS.sh x) (p_.sh x):=A.bu λh=>by
 unfold VY;simp only[aM.sh,A.dG,A.bt h.1];show _=A.pure (ji x);unfold ji;by_cases hc:cN x.1=0
 ·simp only[hc,ne_eq,not_true,decide_false,Bool.false_eq_true,if_false,A.bt h];grind
 grind
abbrev I0:aM:=⟨.az mc nx,dj,λx=>fE x.1/\x.2.2.2.2.2.length<2 ^ 63,λx=>p9 x.1.1 x.2⟩
theorem aps(x):A.le (V6 cp.sh IY.sh x) (I0.sh x):=A.bu λh=>by
 obtain⟨s,p⟩:=x;obtain⟨aD,an⟩:=h;change fE s at aD;change p.2.2.2.2.length<2 ^ 63 at an;unfold V6;have ai:=aD.1.2.1;have gq:=IJ aD.1 p.2.2.2.1;have h4:=bF (n:=((s.1.2.1.length:Int)) - 1) (by omega) (by omega);have E6:=bF (n:=((jA s.1 p.2.2.2.1).length:Int) - 1) (by omega) (by omega);unfold jA at E6;have ax:(decide (0<=p.2.2.2.1)&&decide (p.2.2.2.1<(s.1.2.1.length:Int)))=oo s.1 p.2.2.2.1:=rfl;simp only[aM.sh,cp,bW,A.bn,h4,E6,A.dG,A.jd,r0,implies_true,qR,ax,A.od,A.gQ];show _=A.pure (p9 s.1 p);unfold p9;have Ex:j2 (λn=>bZ n 0 (((List.getD s.1.2.1 (Int.toNat p.2.2.2.1) []).length:Int) - 1)) p.2.2.2.2=j2 (E7 s.1 p.2.2.2.1) p.2.2.2.2:=PR λy _=>api y _;rw[Ex];cases hm:oo s.1 p.2.2.2.1
 ·simp
 ·have r:=II.1 hm;rw[A.bt r,A.bt (by exact an)];unfold j1 bZ;grind
abbrev I1:aM:=⟨mM,dj,λx=>x.1.length<2 ^ 63,pc⟩
theorem apt(x):A.le (V7 cp.sh IY.sh x) (I1.sh x):=A.bu λh=>by
 unfold V7;simp only[aM.sh,cp,bW,A.bn,A.dG,A.jd,implies_true];rw[A.bt (by omega)];show A.pure _=A.pure (pc x);congr 1;unfold pc;have Ex:j2 (λn=>bZ n 0 99) x.1=j2 j1 x.1:=rfl;rw[Ex];unfold j1 bZ;grind
theorem apu(x):A.le (VZ h2.sh cp.sh I0.sh I1.sh x) (p_.sh x):=A.bu λh=>by
 have aD:=h;obtain⟨E,U,ag,a6,bM,dt,gK⟩:=h;unfold VZ;simp only[aM.sh,A.dG,A.bt E];show _=A.pure (ji x);unfold ji;by_cases hc:cN x.1=0
 ·simp only[hc,ne_eq,not_true,decide_false,Bool.false_eq_true,if_false,cp,A.jd,A.dG,implies_true,A.bn,bW,qR,decide_not];have e:(!decide ((x.2.1.length:Int)=(x.1.1.length:Int))||decide ((x.2.2.1.length:Int) > 8)||decide ((x.2.2.2.1.length:Int) > 6)||decide ((x.2.2.2.2.1.length:Int) > 8)||!(decide (0<=x.2.2.2.2.2)&&decide (x.2.2.2.2.2<=99)))=!(decide ((x.2.1.length:Int)=(x.1.1.length:Int))&&decide ((x.2.2.1.length:Int)<=8)&&decide ((x.2.2.2.1.length:Int)<=6)&&decide ((x.2.2.2.2.1.length:Int)<=8)&&j1 x.2.2.2.2.2):=by
   simp only[apj,j1,bZ,Bool.not_and]
  rw[e];by_cases cT:(decide ((x.2.1.length:Int)=(x.1.1.length:Int))&&decide ((x.2.2.1.length:Int)<=8)&&decide ((x.2.2.2.1.length:Int)<=6)&&decide ((x.2.2.2.2.1.length:Int)<=8)&&j1 x.2.2.2.2.2)=true
  ·rw[if_neg (by grind)]
   ·rw[A.et x.2.1 (λi (_:Unit)=>((i:Int),x,())) (λn b=>if (!bZ n 0 10)=true then .done (.done (80:Int)) else .next b) (λ_=>.next (x,())) () ?_ ?_ ?_]
    ·rw[k0 (q:=λn=>bZ n 0 10) _ _ (λ_=>rfl)];cases ir:x.2.1.all λn=>bZ n 0 10 with
     | false=>simp[ny,ir]
     | true=>
      simp only[A.aF,if_true,A.b2];rw[A.et x.2.2.1 (λi (_:Unit)=>((i:Int),x,())) (λp b=>if (!p9 x.1 p)=true then .done (.done (80:Int)) else .next b) (λ_=>.next (x,())) () ?_ ?_ ?_]
      ·rw[k0 (q:=p9 x.1) _ _ (λ_=>rfl)];cases aS:x.2.2.1.all (p9 x.1) with
       | false=>simp[ny,aS]
       | true=>
        simp only[A.aF,if_true,A.b2];rw[A.et x.2.2.2.1 (λi (_:Unit)=>((i:Int),x,())) (λp b=>if (!pc p)=true then .done (.done (80:Int)) else .next b) (λ_=>.next (x,())) () ?_ ?_ ?_]
        ·rw[k0 (q:=pc) _ _ (λ_=>rfl)];cases jq:x.2.2.2.1.all pc with
         | false=>simp[ny,jq]
         | true=>
          simp only[A.aF,if_true,A.b2];rw[A.et x.2.2.2.2.1 (λi (_:Unit)=>((i:Int),x,())) (λp b=>if (!pd x.1 p)=true then .done (.done (80:Int)) else .next b) (λ_=>.next ()) () ?_ ?_ ?_]
          ·rw[k0 (q:=pd x.1) _ _ (λ_=>rfl)];simp only[Bool.and_eq_true]at cT;cases PE:x.2.2.2.2.1.all (pd x.1)<;>simp[ny,ir,aS,jq,PE,cT]
          ·rfl
          ·intro i G b;have hw:=bF (n:=(i:Int)+1) (by omega) (by omega);have ai:=E.1;have h4:=bF (n:=((x.1.1.length:Int)) - 1) (by omega) (by omega);simp only[bW,cX G,if_true,dk G,cH G,A.bn,A.aF,cn,hw,h4,qR,r0];have e:(!(decide (0<=(x.2.2.2.2.1[i]).1)&&decide ((x.2.2.2.2.1[i]).1<=99))||!(decide (0<=(x.2.2.2.2.1[i]).2.1)&&decide ((x.2.2.2.2.1[i]).2.1<(x.1.1.length:Int)))||!(decide (1<=(x.2.2.2.2.1[i]).2.2)&&decide ((x.2.2.2.2.1[i]).2.2<=10)))=!pd x.1 x.2.2.2.2.1[i]:=by
            unfold pd j1 hb bZ;simp
           rw[e];exact nj (mk:=λ_:Unit=>((i:Int)+1,x,()))
          simp
        ·rfl
        ·intro i G b;have hw:=bF (n:=(i:Int)+1) (by omega) (by omega);simp only[bW,cX G,if_true,dk G,cH G,A.bn,A.aF,cn,hw,A.bt (show I1.pre x.2.2.2.1[i] from gK _ (List.getElem_mem G))];exact nj (mk:=λ_:Unit=>((i:Int)+1,x,()))
        simp
      ·rfl
      ·intro i G b;have hw:=bF (n:=(i:Int)+1) (by omega) (by omega);simp only[bW,cX G,if_true,dk G,cH G,A.bn,A.aF,cn,hw,A.od,A.gQ,A.bt (show I0.pre (x,x.2.2.1[i]) from⟨aD,dt _ (List.getElem_mem G)⟩)];exact nj (mk:=λ_:Unit=>((i:Int)+1,x,()))
      simp
    ·rfl
    ·intro i G b;have hw:=bF (n:=(i:Int)+1) (by omega) (by omega);simp only[bW,cX G,if_true,dk G,cH G,A.bn,A.aF,cn,hw];exact nj (mk:=λ_:Unit=>((i:Int)+1,x,()))
    simp
  ·rw[if_pos (by grind)]
   ·have:ny x=false:=by
     unfold ny;grind
    grind
 grind
theorem apv:IV 201=true:=by decide +kernel
abbrev tp:aM:=⟨.az (.int .u64) (.int .u64),.az (.int .u64) (.int .u64),λx=>x.1=1/\0<=x.2/\x.2<=200,λx=>(0,x.2)⟩
theorem apw(x):A.le (VK x) (tp.sh x):=A.bu λh=>by
 obtain⟨a,b⟩:=x;obtain⟨E,U,ag⟩:=h;change a=1 at E;change 0<=b at U;change b<=200 at ag;subst E;have aT:=ZE 201 b.toNat apv (by omega);rw[Int.toNat_of_nonneg U]at aT;have hw:=PK (n:=1*b) (by omega) (by omega);have apx:((0:Int)<=32)=True:=by simp
 unfold VK;simp only[apx,A.bn];show A.pure (PM (1,b),IntKind.wrap .u64 (1*b))=_;grind
theorem apy(apz)(x):A.le (VI apz tp.sh x) (tp.sh x):=A.bu λh=>by
 unfold VI;simp only[aM.sh,A.dG];simp_all
section
variable {ak β:Type}
theorem apA(a d:ak)(m J:Nat)(E:1<=m)(U:m<J) :
  List.take m (List.replicate m a++List.replicate (J - m) d)++List.take (J - m) (List.take m (List.replicate m a++List.replicate (J - m) d))++
   List.drop (m+(List.take (J - m) (List.take m (List.replicate m a++List.replicate (J - m) d))).length) (List.replicate m a++List.replicate (J - m) d)
  =List.replicate (m+min (J - m) m) a++List.replicate (J - (m+min (J - m) m)) d:=by
 have ax:List.take m (List.replicate m a++List.replicate (J - m) d)=List.replicate m a:=by
  simp
 rw[ax,List.take_replicate,List.replicate_append_replicate,List.length_replicate,List.drop_append,List.length_replicate];have aO:List.drop (m+min (J - m) m) (List.replicate m a)=[]:=by simp
 grind
def ZJ(d:ak)(fin:List ak->A β)(yj:Int×Int->A (Int×Int))(x:List ak)(n:Int):A β:=
 A.bind (if decide (n<0)=true then A.ad False (A.ad False (A.pure (V.next (x,n,())))) else A.pure (V.next (x,n,())))
 (V.bD λ(D:List ak×Int×Unit)=>A.bind (yj (IntKind.wrap .u64 (Int.ofNat (List.length D.1)),IntKind.wrap .u64 D.2.1)) λy
 =>A.bind (if (decide (y.1 > 0)||decide (y.2 > 9223372036854775807))=true then A.ad False (A.ad False (A.pure (V.next (D.1,y.2,())))) else
 A.pure (V.next (D.1,y.2,()))) (V.bD λ(D:List ak×Int×Unit)=>A.ad (0<=IntKind.wrap .i64 D.2.1/\IntKind.wrap .i64 D.2.1=
 IntKind.wrap .i64 D.2.1/\b9 (Int.toNat (IntKind.wrap .i64 D.2.1))) (A.ad True (A.bind (A.loop (λ(D:Int×List ak×Unit)=>if decide (D.1
 < Int.ofNat (List.length D.2.1))=true then A.ad (0<=D.1/\D.1<=Int.ofNat (List.length D.2.1)/\Int.ofNat (List.length D.2.1)<=Int.ofNat
 (List.length D.2.1)) (A.ad ((0:Int)<=0/\0<=D.1/\D.1<=Int.ofNat (List.length D.2.1)) (A.ad True (A.pure (V.next (IntKind.wrap .i64
 (Add.add D.1 (Int.ofNat (if Int.toNat (Int.ofNat (List.length D.2.1)) - Int.toNat D.1<=List.length (List.take (Int.toNat D.1) D.2.1) then Int.toNat
 (Int.ofNat (List.length D.2.1)) - Int.toNat D.1 else List.length (List.take (Int.toNat D.1) D.2.1)))),List.take (Int.toNat D.1) D.2.1++List.take
 (Int.toNat (Int.ofNat (List.length D.2.1)) - Int.toNat D.1) (List.take (Int.toNat D.1) D.2.1)++List.drop (Add.add (Int.toNat D.1) (List.length
 (List.take (Int.toNat (Int.ofNat (List.length D.2.1)) - Int.toNat D.1) (List.take (Int.toNat D.1) D.2.1)))) D.2.1,()))))) else A.bind (A.pure
 (V.next (D.2.1,()))) λr=>A.pure (V.done r)) (Int.ofNat (if List.length (List.replicate (Int.toNat (IntKind.wrap .i64 D.2.1)) d) - 0<=
 List.length D.1 then List.length (List.replicate (Int.toNat (IntKind.wrap .i64 D.2.1)) d) - 0 else List.length D.1),[]++List.take (List.length
 (List.replicate (Int.toNat (IntKind.wrap .i64 D.2.1)) d) - 0) D.1++List.drop (Add.add 0 (List.length (List.take (List.length (List.replicate
 (Int.toNat (IntKind.wrap .i64 D.2.1)) d) - 0) D.1))) (List.replicate (Int.toNat (IntKind.wrap .i64 D.2.1)) d),())) (V.bD λ(D:List ak×
 Unit)=>fin D.1)))))
theorem PT(d a:ak)(MR:List ak->β)(n:Int)(U:0<=n)(ag:n<=200):A.cu (ZJ d (λl=>A.pure (MR l)) tp.sh [a] n) λy=>y=MR (List.replicate n.toNat a):=by
 obtain⟨J,rfl⟩:=Int.eq_ofNat_of_zero_le U;have I2:decide ((J:Int)<0)=false:=by simp
 have lV:IntKind.u64.wrap (Int.ofNat ([a]:List ak).length)=1:=PK (by simp) (by simp);have apB:=PK (n:=(J:Int)) (by omega) (by omega);have lE:=bF (n:=(J:Int)) (by omega) (by omega);have an:tp.pre (1,(J:Int)):=⟨rfl,U,ag⟩
 have apC:decide ((J:Int) > 9223372036854775807)=false:=by grind
 have lT:b9 J:=by unfold b9;omega
 have M:0<=(J:Int)/\True/\b9 (Int.toNat (J:Int)):=⟨U,trivial,by grind⟩
 unfold ZJ;simp only[I2,Bool.false_eq_true,if_false,A.aF,A.b2,lV,apB,aM.sh,A.dG];rw[A.bt (by grind)];simp only[gt_iff_lt,Int.lt_irrefl,decide_false,Bool.false_or,Bool.false_eq_true,if_false,A.aF,A.b2,lE];have apD:decide ((9223372036854775807:Int)<(J:Int))=false:=apC;simp only[apD,Bool.false_eq_true,if_false,A.aF,A.b2,lE];rw[A.bt M];simp only[A.bn,A.fY,Int.toNat_natCast,List.length_replicate,Nat.sub_zero,List.nil_append,List.length_singleton,bW,gY,Nat.zero_add];refine A.Cd (λs=>∃ m:Nat,(1<=m\/J=0)/\m<=J/\s=((m:Int),List.replicate m a++List.replicate (J - m) d,())) (λs=>J - s.1.toNat) ?_ _ ?_
 ·rintro s ⟨m,hm,ayO,rfl⟩;have hlen:(List.replicate m a++List.replicate (J - m) d).length=J:=by grind
  simp only[hlen];by_cases cj:m<J
  ·have gP:0<=(m:Int)/\(m:Int)<=(J:Int)/\(J:Int)<=(J:Int):=by omega
   have cL:(0:Int)<=0/\0<=(m:Int)/\(m:Int)<=(J:Int):=by omega
   have km:1<=m:=by omega
   have ZK:(List.take m (List.replicate m a++List.replicate (J - m) d)).length=m:=by simp
   simp only[cX cj,if_true,A.bt gP,A.bt cL,A.bn,Int.toNat_natCast,ZK,cn];rw[A.d_,apA a d m J km cj];have apE:(if J - m<=m then J - m else m)=min (J - m) m:=by rfl
   rw[apE];have gX:=bF (n:=(m:Int)+((min (J - m) m:Nat):Int)) (by omega) (by omega);refine⟨⟨m+min (J - m) m,.inl (by omega),by omega,?_⟩,?_⟩
   ·rw[gX];simp
   ·simp only[gX];omega
  ·have:m=J:=by omega
   subst this;simp only[Int.lt_irrefl,decide_false,Bool.false_eq_true,if_false,A.aF,A.d_,A.b2,Nat.sub_self,List.replicate_zero,List.append_nil]
 ·by_cases ayP:J=0
  ·grind
  ·refine⟨1,.inl (Nat.le_refl _),by omega,?_⟩;grind
end
abbrev I3:aM:=⟨.az fO bq,fO,λx=>x.1=[-1]/\0<=x.2/\x.2<=200,λx=>List.replicate x.2.toNat (-1)⟩
theorem apF(x):A.le (akg tp.sh x) (I3.sh x):=A.sX λh=>by
 obtain⟨l,n⟩:=x;obtain⟨E,U,ag⟩:=h;change l=[-1]at E;subst E;exact PT (0:Int) (-1) (λl=>l) n U ag
def wG(x:z1'×Int×Unit):A (z1'×Unit):=A.dP (x.1=[-1]/\0<=x.2.1/\x.2.1<=200) (List.replicate x.2.1.toNat (-1),())
theorem ZL(x):A.le (akw tp.sh x) (wG x):=A.sX λh=>by
 obtain⟨l,n,u⟩:=x;obtain⟨E,U,ag⟩:=h;change l=[-1]at E;subst E;exact PT (0:Int) (-1) (λl=>(l,())) n U ag
abbrev I4:ab:=.st (.az bq bq)
abbrev I5:aM:=⟨.az (.slice I4) bq,.slice I4,λx=>x.1.length=1/\0<=x.2/\x.2<=200,λx=>List.replicate x.2.toNat (x.1.getD 0 (0,0))⟩
theorem apG(x):A.le (akt tp.sh x) (I5.sh x):=A.sX λh=>by
 obtain⟨l,n⟩:=x;obtain⟨E,U,ag⟩:=h;change l.length=1 at E;obtain⟨a,rfl⟩:=List.length_eq_one_iff.1 E;exact PT ((0,0):Int×Int) a (λl=>l) n U ag
end Go.Fer
namespace Go.Fer
open A (V)
def yT(s:bI)(n:Int):Bool:=decide (0<=n)&&decide (n<(s.2.2.2.1.length:Int))
def yU(s:bI)(n:Int):Bool:=decide (0<=n)&&decide (n<(s.2.2.1.length:Int))
theorem apH{s:bI}{n:Int}:yT s n=true<->0<=n/\n<(s.2.2.2.1.length:Int):=by simp[yT]
theorem apI{s:bI}{n:Int}:yU s n=true<->0<=n/\n<(s.2.2.1.length:Int):=by simp[yU]
abbrev PU:aM:=⟨.az mc bq,dj,λx=>fE x.1,λx=>yT x.1 x.2⟩
abbrev PV:aM:=⟨.az mc bq,dj,λx=>fE x.1,λx=>yU x.1 x.2⟩
theorem apJ(x):A.le (V3 cp.sh x) (PU.sh x):=A.bu λh=>by
 have ai:=h.2.2.2.1;have hw:=bF (n:=(x.1.2.2.2.1.length:Int) - 1) (by omega) (by omega);unfold V3;simp[aM.sh,cp,hw,yT,r0]
theorem apK(x):A.le (V8 cp.sh x) (PV.sh x):=A.bu λh=>by
 have ai:=h.2.2.1;have hw:=bF (n:=(x.1.2.2.1.length:Int) - 1) (by omega) (by omega);unfold V8;simp[aM.sh,cp,hw,yU,r0]
def tq(x:dL)(p:dx):Int:=if (!x.1.contains p.1||!bZ p.2.1 x.2.1.1 x.2.1.2)=true then 0 else if p.2.2.1=x.2.2.1 then 1 else if p.2.2.1=0 then 2 else 0
abbrev wH:aM:=⟨.az mM nx,bq,λx=>x.1.1.length<2 ^ 63,λx=>tq x.1 x.2⟩
theorem apL(x):A.le (V9 cp.sh o7.sh x) (wH.sh x):=A.bu λh=>by
 unfold V9;simp only[aM.sh,cp,o7,A.dG,A.jd,implies_true,A.bn,qR];rw[A.bt (by exact h)];show _=A.pure (tq x.1 x.2);unfold tq bZ;grind
def wI(s:bI)(l:z1')(i:Nat):Bool:=decide (l.getD i 0=-1)||(yU s (l.getD i 0)&&!(l.take i).contains (l.getD i 0))
def wJ(s:bI)(l:z1'):Bool:=((List.range l.length).all (wI s l))&&decide ((l.length:Int)=(s.2.2.2.1.length:Int))
abbrev I6:aM:=⟨.az mc fO,dj,λx=>fE x.1/\x.2.length<2 ^ 63,λx=>wJ x.1 x.2⟩
theorem apM(x):A.le (V_ PV.sh o7.sh x) (I6.sh x):=A.bu λh=>by
 obtain⟨s,l⟩:=x;obtain⟨aD,ai⟩:=h;change fE s at aD;change l.length<2 ^ 63 at ai;unfold V_;rw[A.et (List.range l.length) (λi (_:Unit)=>(l,l,(l.length:Int),(i:Int),s,())) (λi b=>if (!wI s l i)=true then .done (.done false) else .next b) (λ_=>.next (l,s,())) () ?_ ?_ ?_]
 ·rw[k0 (q:=wI s l) _ _ (λ_=>rfl)];show _=A.pure (wJ s l);unfold wJ;cases (List.range l.length).all (wI s l)<;>simp
 ·simp
 ·intro i G b;have G:i<l.length:=by grind
  have hw:=bF (n:=(i:Int)+1) (by omega) (by omega);obtain⟨aJ,jx⟩:∃ aJ,l.getD i 0=aJ:=⟨_,rfl⟩
  have cK:wI s l i=(decide (aJ=-1)||(yU s aJ&&!(l.take i).contains aJ)):=by unfold wI;rw[jx]
  simp only[bW,cX G,if_true,List.getElem_range,cH G,A.bn,aM.sh,A.dG,A.jd,Int.toNat_natCast,jx];rw[A.bt (by grind),A.bt,A.bt]
  ·simp only[A.aF,cn,hw,wI,jx];by_cases E:aJ=-1
   ·simp_all
   ·cases U:yU s aJ<;>cases ag:(l.take i).contains aJ<;>simp[E,U,ag,V.ho]
  ·intro _;show (l.take i).length<2 ^ 63;rw[List.length_take];omega
  ·intro cT;exact⟨⟨cT,trivial,cT⟩,⟨by omega,by omega,by omega⟩,trivial⟩
 simp
def la(s:bI)(cb:Bool):Int:=if ji s≠0 then ji s else if cb=false then 1 else eE s.1 true
theorem ZM{s:bI}(h:ji s=0):cN s.1=0/\ny s=true:=by
 unfold ji at h;grind
theorem BD{s:bI}{cb:Bool}(h:la s cb=0):ji s=0/\cb=true/\eE s.1 true=0/\wC s.1=true:=by
 unfold la at h;by_cases he:ji s=0
 ·rw[if_neg (by omega)]at h;cases cb with
  | false=>grind
  | true=>
   simp only[Bool.true_eq_false,if_false]at h;exact⟨he,rfl,h,(E2 h).2.2⟩
 omega
structure me(s:bI):Prop where
 gp:fE s
 ti:q5 s.1
 Fb:s.2.1.length=s.1.1.length
 q6:∀ n∈s.2.1,0<=n/\n<=10
 Fc:s.2.2.1.length<=8
 apN:∀ p∈s.2.2.1,p9 s.1 p=true
 tr:s.2.2.2.1.length<=6
 ZN:∀ x∈s.2.2.2.1,pc x=true
 PW:s.2.2.2.2.1.length<=8
 ZO:∀ d∈s.2.2.2.2.1,pd s.1 d=true
 apO:0<=s.2.2.2.2.2/\s.2.2.2.2.2<=99
theorem BE{s:bI}(aD:fE s)(h:ji s=0):me s:=by
 obtain⟨E,U⟩:=ZM h;simp only[ny,Bool.and_eq_true,decide_eq_true_eq,List.all_eq_true,bZ,j1]at U;obtain⟨⟨⟨⟨⟨⟨⟨⟨aQ,aV⟩,bK⟩,fz⟩,pD⟩,xW⟩,HK⟩,DV⟩,Ni⟩:=U;exact⟨aD,⟨aD.1,PH E⟩,by omega,aV,by omega,fz,by omega,xW,by omega,DV,Ni⟩
theorem me.ZP{s:bI}(h:me s):s.1.1.length<=10:=(E0 h.ti.2).1
def I7(w:bz)(t:z5')(q:Int×Int×Int):z5':=if u0 w q.1 q.2.1 q.2.2=1 then vY t q (IntKind.i64.wrap ((pb t q).getD 0+1)) else t
def ZQ(w:bz)(i m:Nat)(t:z5'):z5':=(List.range (jA w (m:Int)).length).foldl (λt (k:Nat)=>I7 w t ((i:Int),(m:Int),(k:Int))) t
def ZR(w:bz)(i:Nat)(t:z5'):z5':=(List.range w.2.1.length).foldl (λt m=>ZQ w i m t) t
def pe(w:bz)(n:Nat):z5':=(List.range n).foldl (λt i=>ZR w i t) []
def lF(p:Int×Int)(n:Int):z4':=List.replicate n.toNat p
def Fe(l:z1'):z4':=(List.range l.length).flatMap λ(i:Nat)=>lF ((i:Int),0) (l.getD i 0)
def ZS(l:List Ef):z4':=l.flatMap λd=>lF (d.2.1,d.1) d.2.2
def PX(s:bI):z4':=Fe s.2.1++ZS s.2.2.2.2.1
def db(s:bI):dv:=(s,PX s,pe s.1 s.2.1.length)
def yV(s:bI)(cb:Bool):Option dv×Int:=if la s cb≠0 then (none,la s cb) else (some (db s),0)
theorem PY{ak β:Type}(f:ak->List β):∀ (l:List ak) (b:List β),l.foldl (λb x=>b++f x) b=b++l.flatMap f
 | [],b=>by simp
 | x::l,b=>by rw[List.foldl_cons,PY f l,List.flatMap_cons,List.append_assoc]
abbrev apP:ab:=.st (.az bq (.az bq bq))
abbrev wK:ab:=.bG (.st (.az mc (.az (.slice I4) (.map apP bq))))
abbrev BF:aM:=⟨.az mc dj,.az wK bq,λx=>fE x.1,λx=>yV x.1 x.2⟩
theorem apQ(s:bI)(cb:Bool)(aD:fE s):Ol p_.sh yO.sh u1.sh I5.sh (s,cb)=A.pure (yV s cb):=by
 unfold Ol yV la;simp only[aM.sh,A.dG,A.bt aD];by_cases he:ji s=0
 ·have ae:=BE aD he;simp only[he,ne_eq,not_true,decide_false,Bool.false_eq_true,if_false];cases cb with
  | false=>simp
  | true=>
   simp only[Bool.not_true,Bool.false_eq_true,if_false,Bool.true_eq_false];refine Eq.trans (congrArg (λm=>A.bind m _) (show _=(if eE s.1 true≠0 then A.pure (V.done ((none:Option dv),eE s.1 true)) else A.pure (V.next (s,([]:z5'),s.1.1,s.1.2.1,s.1.2.2.1,s.1.2.2.2,s.2.1,s.2.2.1,s.2.2.2.1,s.2.2.2.2.1,s.2.2.2.2.2,()))) from ?_)) ?_
   ·by_cases bj:s.2.1.length=0
    ·have aL:eE s.1 true=0:=by
      unfold eE;have aT:s.1.1.length=0:=by rw[<-ae.Fb];exact bj
      have:wC s.1=true:=by unfold wC;grind
      simp[(ZM he).1,this]
     grind
    ·have E:decide (Int.ofNat (List.length s.2.1) > 0)=true:=by grind
     have U:hb s.1 0=true:=by rw[uW];have:=ae.Fb;omega
     rw[if_pos E,A.bt aD.1];unfold wD;rw[U];by_cases al:eE s.1 true=0
     ·simp[al]
     ·simp[al]
   by_cases zt:eE s.1 true=0
   ·simp only[zt,ne_eq,not_true,if_false,A.aF,A.b2];have ayQ:=ae.ZP;have fj:=ae.Fb;have apR:s.1.2.1.length<=6:=(E0 ae.ti.2).2.1;rw[A.et (List.range s.2.1.length) (λi t=>((s.2.1.length:Int),(i:Int),s,t,s.1.1,s.1.2.1,s.1.2.2.1,s.1.2.2.2,s.2.1,s.2.2.1,s.2.2.2.1,s.2.2.2.2.1,s.2.2.2.2.2,())) (λi t=>.next (ZR s.1 i t)) (λt=>.next (s,t,s.1.1,s.1.2.1,s.1.2.2.1,s.1.2.2.2,s.2.1,s.2.2.1,s.2.2.2.1,s.2.2.2.2.1,s.2.2.2.2.2,())) [] ?_ ?_ ?_]
    ·rw[fr];simp only[A.aF,A.b2];rw[A.gv (List.range s.2.1.length) (λi acc=>(s.2.1,(s.2.1.length:Int),(i:Int),s,pe s.1 s.2.1.length,s.1.1,s.1.2.1,s.1.2.2.1,s.1.2.2.2,s.2.1,s.2.2.1,s.2.2.2.1,s.2.2.2.2.1,s.2.2.2.2.2,acc,())) (λi acc=>.next (acc++lF ((i:Int),0) (s.2.1.getD i 0))) (λacc=>.next (s,pe s.1 s.2.1.length,s.1.1,s.1.2.1,s.1.2.2.1,s.1.2.2.2,s.2.1,s.2.2.1,s.2.2.2.1,s.2.2.2.2.1,s.2.2.2.2.2,acc,())) (λi acc=>acc.length<=10*i) [] ?_ ?_ ?_ ?_]
     ·rw[fr,PY];simp only[A.aF,A.b2,List.nil_append];have gu:(Fe s.2.1).length<=100:=by
       have:∀ (l:List Nat),(∀ i∈l,i<s.2.1.length)->(l.flatMap λ(i:Nat)=>lF ((i:Int),0) (s.2.1.getD i 0)).length<=10*l.length:=by
        intro l;induction l with
        | nil=>simp
        | cons i l aH=>
         intro ai;have E:=aH λj aE=>ai j (by grind);have U:=ai i (by simp);have ag:=ae.q6 _ (List.getElem_mem U);have jx:s.2.1.getD i 0=s.2.1[i]:=by grind
         rw[List.flatMap_cons,List.length_append,List.length_cons,jx];simp only[lF,List.length_replicate];simp only[lF]at E;omega
       have:=this (List.range s.2.1.length) (λi G=>by grind);rw[List.length_range]at this;unfold Fe;omega
      rw[A.gv s.2.2.2.2.1 (λi acc=>(s.2.2.2.2.1,(s.2.2.2.2.1.length:Int),(i:Int),pe s.1 s.2.1.length,s.1.1,s.1.2.1,s.1.2.2.1,s.1.2.2.2,s.2.1,s.2.2.1,s.2.2.2.1,s.2.2.2.2.1,s.2.2.2.2.2,acc,())) (λd acc=>.next (acc++lF (d.2.1,d.1) d.2.2)) (λacc=>.next (pe s.1 s.2.1.length,s.1.1,s.1.2.1,s.1.2.2.1,s.1.2.2.2,s.2.1,s.2.2.1,s.2.2.2.1,s.2.2.2.2.1,s.2.2.2.2.2,acc,())) (λi acc=>acc.length<=100+10*i) (Fe s.2.1) ?_ ?_ ?_ ?_]
      ·rw[fr,PY,A.aF,A.b2];rfl
      ·rfl
      ·omega
      ·intro i G acc PI;have ayR:=ae.PW;have h4:=bF (n:=(i:Int)+1) (by omega) (by omega);have aq:=ae.ZO _ (List.getElem_mem G);have DB:1<=s.2.2.2.2.1[i].2.2/\s.2.2.2.2.1[i].2.2<=10:=by
        simp only[pd,bZ,Bool.and_eq_true,decide_eq_true_eq]at aq;omega
       have hlen:(lF (s.2.2.2.2.1[i].2.1,s.2.2.2.2.1[i].1) s.2.2.2.2.1[i].2.2).length<=10:=by simp only[lF,List.length_replicate];omega
       have lT:b9 (acc.length+(lF (s.2.2.2.2.1[i].2.1,s.2.2.2.2.1[i].1) s.2.2.2.2.1[i].2.2).length):=by unfold b9;omega
       refine⟨?_,λbd W=>?_⟩
       ·simp only[bW,cX G,if_true,dk G,cH G,A.bn,A.od,A.gQ,cn,gY,h4];rw[A.bt (by grind),A.bt (by exact lT)];rfl
       grind
      simp
     ·rfl
     ·simp
     ·intro i G acc PI;have G:i<s.2.1.length:=by grind
      have h4:=bF (n:=(i:Int)+1) (by omega) (by omega);have jx:s.2.1.getD i 0=s.2.1[i]:=by grind
      have DB:=ae.q6 _ (List.getElem_mem G);have hlen:(lF ((i:Int),0) s.2.1[i]).length<=10:=by simp only[lF,List.length_replicate];omega
      have lT:b9 (acc.length+(lF ((i:Int),0) s.2.1[i]).length):=by unfold b9;omega
      refine⟨?_,λbd W=>?_⟩
      ·simp only[bW,cX G,if_true,dk G,cH G,A.bn,A.od,A.gQ,cn,gY,h4,List.getElem_range,jx];rw[A.bt (by grind),A.bt (by exact lT)];rfl
      grind
     simp
    ·simp
    ·intro i G t;have G:i<s.2.1.length:=by grind
     have h4:=bF (n:=(i:Int)+1) (by omega) (by omega);simp only[bW,cX G,if_true,List.getElem_range];rw[A.et (List.range s.1.2.1.length) (λm t=>((i:Int),(s.2.1.length:Int),(i:Int),s.1.2.1,(s.1.2.1.length:Int),(m:Int),s,t,s.1.1,s.1.2.1,s.1.2.2.1,s.1.2.2.2,s.2.1,s.2.2.1,s.2.2.2.1,s.2.2.2.2.1,s.2.2.2.2.2,())) (λm t=>.next (ZQ s.1 i m t)) (λt=>.next ((s.2.1.length:Int),(i:Int),s,t,s.1.1,s.1.2.1,s.1.2.2.1,s.1.2.2.2,s.2.1,s.2.2.1,s.2.2.2.1,s.2.2.2.2.1,s.2.2.2.2.2,())) t ?_ ?_ ?_]
     ·rw[fr];simp only[A.aF,A.b2,cn,h4];rfl
     ·rfl
     ·intro m hm t;have hm:m<s.1.2.1.length:=by grind
      have I8:=bF (n:=(m:Int)+1) (by omega) (by omega);have apS:s.1.2.1[m]=jA s.1 (m:Int):=by simp[jA,List.getD_eq_getElem?_getD,hm]
      simp only[bW,cX hm,if_true,List.getElem_range,cH hm,A.bn,dk hm,apS];have Bw:=IJ aD.1 (m:Int);rw[A.et (List.range (jA s.1 (m:Int)).length) (λk t=>((i:Int),(m:Int),(s.2.1.length:Int),(i:Int),s.1.2.1,(s.1.2.1.length:Int),(m:Int),((jA s.1 (m:Int)).length:Int),(k:Int),s,t,s.1.1,s.1.2.1,s.1.2.2.1,s.1.2.2.2,s.2.1,s.2.2.1,s.2.2.2.1,s.2.2.2.2.1,s.2.2.2.2.2,())) (λk t=>.next (I7 s.1 t ((i:Int),(m:Int),(k:Int)))) (λt=>.next ((i:Int),(s.2.1.length:Int),(i:Int),s.1.2.1,(s.1.2.1.length:Int),(m:Int),s,t,s.1.1,s.1.2.1,s.1.2.2.1,s.1.2.2.2,s.2.1,s.2.2.1,s.2.2.2.1,s.2.2.2.2.1,s.2.2.2.2.2,())) t ?_ ?_ ?_]
      ·rw[fr];simp only[A.aF,A.b2,cn,I8];rfl
      ·rfl
      ·intro k al t;have al:k<(jA s.1 (m:Int)).length:=by grind
       have mK:=bF (n:=(k:Int)+1) (by omega) (by omega);have oa:hb s.1 (i:Int)=true:=by rw[uW];omega
       have apT:iT s.1 (m:Int) (k:Int)=true:=by rw[Bu];omega
       have ar:mb s.1 (i:Int) (m:Int) (k:Int)=(u0 s.1 (i:Int) (m:Int) (k:Int),0):=by simp[mb,oa,apT,zt]
       simp only[cX al,if_true,List.getElem_range];simp only[ar,A.bt aD.1,decide_eq_true_eq];by_cases E:u0 s.1 (i:Int) (m:Int) (k:Int)=1
       ·simp only[E,if_true,and_self,A.bn,A.aF,A.b2,cn,mK,V.ho,I7];rfl
       ·simp only[E,if_false,A.aF,A.b2,cn,mK,V.ho,I7];rfl
      simp
     simp
    simp
   ·simp[zt]
 grind
theorem apU(x):A.le (Ol p_.sh yO.sh u1.sh I5.sh x) (BF.sh x):=A.bu λh=>apQ x.1 x.2 h
theorem apV{p:Int->Bool}{l:z1'}(h:j2 p l=true):∀ x∈l,p x=true:=by
 intro x ah;obtain⟨i,G,rfl⟩:=List.mem_iff_getElem.1 ah;unfold j2 at h;simp_all
theorem apW{p:Int->Bool}{l:z1'}(h:j2 p l=true):l.Pairwise (·<·):=by
 unfold j2 at h;rw[List.all_eq_true]at h;have step:∀ i,i+1<l.length->l.getD i 0<l.getD (i+1) 0:=λi G=>by
  grind
 have key:∀ j i,i<j->j<l.length->l.getD i 0<l.getD j 0:=by
  intro j;induction j with
  | zero=>omega
  | succ j aH=>
   grind
 rw[List.pairwise_iff_getElem];grind
theorem PZ{s:bI}(ae:me s){p:dx}(an:p∈s.2.2.1):oo s.1 p.2.2.2.1=true/\p.2.2.2.2.length<=4/\∀ k∈p.2.2.2.2,iT s.1 p.2.2.2.1 k=true:=by
 have h:=ae.apN p an;simp only[p9,Bool.and_eq_true]at h;obtain⟨⟨_,hm⟩,M⟩:=h;have fF:∀ k∈p.2.2.2.2,iT s.1 p.2.2.2.1 k=true:=λk al=>by
  have:=apV M k al;rw[Bu];simp only[E7,Bool.and_eq_true,decide_eq_true_eq]at this;exact⟨II.1 hm,this⟩
 refine⟨hm,?_,fF⟩;have apX:=apW M;have ub:p.2.2.2.2.Nodup:=apX.imp λh e=>by omega
 cases W:p.2.2.2.2 with
 | nil=>simp
 | cons k l=>
  rw[<-W];have a6:=aoo ae.ti.2 (fF k (by grind));have:=PL (jA s.1 p.2.2.2.1).length p.2.2.2.2 ub λk al=>by
   have:=Bu.1 (fF k al);omega
  omega
abbrev r6:Type:=Int×Int×Int
abbrev apY:dL:=([],(0,0),0,0,0)
abbrev apZ:dx:=(0,0,0,0,[])
abbrev yW:dv:=((([],[],0,[]),[],[],[],[],0),[],[])
def mf(s:bI)(i:Int):dL:=s.2.2.2.1.getD i.toNat apY
def nz(s:bI)(i:Int):dx:=s.2.2.1.getD i.toNat apZ
def wL(s:bI)(x:dL)(p:dx):Option Int:=if tq x p=0 then none else if (if tq x p=2 then x.2.2.2.1 - s.2.2.2.2.2 else x.2.2.2.1)<0 then none else some (if tq x p=2 then x.2.2.2.1 - s.2.2.2.2.2 else x.2.2.2.1)
def pf(s:bI)(cx:z1')(i:Nat):Option (List r6):=if cx.getD i 0<0 then some [] else (wL s (mf s (i:Int)) (nz s (cx.getD i 0))).map λd=>(nz s (cx.getD i 0)).2.2.2.2.map λk=>((nz s (cx.getD i 0)).2.2.2.1,k,d)
def jC(s:bI)(cx:z1'):List r6×Bool:=if ((List.range cx.length).all λi=>(pf s cx i).isSome)=true then ((List.range cx.length).flatMap λi=>(pf s cx i).getD [],true) else ([],false)
def nA(s:bI)(cx:z1'):Prop:=cx.length<=s.2.2.2.1.length/\∀ p∈cx,p<(s.2.2.1.length:Int)
def oq(o:Option dv):bI:=(o.getD yW).1
def wM(o:Option dv)(s:bI):Prop:=o=some (db s)/\me s
theorem I9{s:bI}{i:Nat}(h:i<s.2.2.2.1.length):mf s (i:Int)∈s.2.2.2.1:=by
 simp[mf,List.getD_eq_getElem?_getD,h]
theorem ZT{s:bI}{i:Int}(aT:0<=i)(h:i<(s.2.2.1.length:Int)):nz s i∈s.2.2.1:=yg aT h
theorem P0{s:bI}(ae:me s){x:dL}(ah:x∈s.2.2.2.1):(0<=x.2.2.2.1/\x.2.2.2.1<=99)/\(0<=x.2.2.2.2/\x.2.2.2.2<=100000):=by
 have:=ae.ZN x ah;simp only[pc,j1,bZ,Bool.and_eq_true,decide_eq_true_eq]at this;omega
theorem ZU{s:bI}(ae:me s){cx:z1'}(an:nA s cx){i:Nat}(G:i<cx.length){l:List r6}(h:pf s cx i=some l):l.length<=4:=by
 unfold pf at h;split at h
 ·grind
 ·rename_i I2;rw[Option.map_eq_some_iff]at h;obtain⟨d,_,rfl⟩:=h;rw[List.length_map];have hm:cx.getD i 0∈cx:=by grind
  exact (PZ ae (ZT (by omega) (an.2 _ hm))).2.1
def BG{ak β aI:Type}(f:ak->Option (List β))(r:aI)(x:ak)(b:List β):V (List β) aI:=if (f x).isSome=true then .next (b++(f x).getD []) else .done r
theorem Ff{ak β aI:Type}{f:ak->Option (List β)}{r:aI}{x:ak}{b y:List β}(h:f x=some y):BG f r x b=.next (b++y):=by simp[BG,h]
theorem I_{ak β aI:Type}{f:ak->Option (List β)}{r:aI}{x:ak}{b:List β}(h:f x=none):BG f r x b=.done r:=by simp[BG,h]
theorem ZV{ak β aI:Type}{f:ak->Option (List β)}{r:aI}{fin:List β->aI}:∀ (l:List ak) (b:List β),eX (BG f r) fin l b=if (l.all λx=>(f x).isSome)=true then fin (b++l.flatMap λx=>(f x).getD []) else r
 | [],b=>by simp[eX]
 | x::l,b=>by
  simp only[eX];cases h:f x with
  | none=>simp[I_ h,h]
  | some y=>
   have:=ZV (f:=f) (r:=r) (fin:=fin) l (b++y);simp only[Ff h,List.all_cons,h,Option.isSome_some,Bool.true_and,List.flatMap_cons,Option.getD_some];grind
abbrev I':ab:=.st (.az bq (.az bq bq))
abbrev Ja:aM:=⟨.az wK fO,.az (.slice I') dj,λx=>∃ s,wM x.1 s/\nA s x.2,λx=>jC (oq x.1) x.2⟩
theorem ap0(s:bI)(ae:me s)(cx:z1')(an:nA s cx):Om wH.sh (some (db s),cx)=A.pure (jC s cx):=by
 unfold Om;have BH:=ae.tr;have ayS:=an.1;simp only[Option.isSome_some,Option.getD_some,A.bn];rw[A.gv (List.range cx.length) (λi acc=>(some (db s),cx,(cx.length:Int),(i:Int),acc,())) (BG (pf s cx) (.done ([],false))) (λacc=>.next (acc,())) (λi acc=>acc.length<=4*i) [] ?_ ?_ ?_ ?_]
 ·rw[ZV];unfold jC;by_cases h:((List.range cx.length).all λi=>(pf s cx i).isSome)=true
  ·simp[h]
  ·simp[h]
 ·rfl
 ·simp
 ·intro i G acc PI;have G:i<cx.length:=by grind
  have tt:i<s.2.2.2.1.length:=by omega
  have h4:=bF (n:=(i:Int)+1) (by omega) (by omega);have Jb:=I9 tt;rw[List.getElem_range];obtain⟨aJ,ap1⟩:∃ aJ,cx.getD i 0=aJ:=⟨_,rfl⟩
  have ap2:aJ∈cx:=by grind
  refine⟨?_,λbd W=>?_⟩
  ·simp only[bW,cX G,if_true,Int.toNat_natCast,ap1,cH G,A.bn,Option.isSome_some,Option.getD_some];by_cases I2:aJ<0
   ·have m_:pf s cx i=some []:=by unfold pf;grind
    rw[Ff m_];simp_all
   ·have ir:aJ<(s.2.2.1.length:Int):=an.2 aJ ap2;have ap3:=ZT (s:=s) (by omega) ir;have gP:0<=aJ/\aJ<(s.2.2.1.length:Int):=⟨by omega,ir⟩
    have gu:(db s).1=s:=rfl;have BI:List.getD s.2.2.2.1 i ([],(0,0),0,0,0)=mf s (i:Int):=rfl;have P1:List.getD s.2.2.1 aJ.toNat (0,0,0,0,[])=nz s aJ:=rfl;simp only[I2,decide_false,Bool.false_eq_true,if_false,gu,cH tt,A.bt gP,A.bn,aM.sh,A.dG,BI,P1];have m_:pf s cx i=(wL s (mf s (i:Int)) (nz s aJ)).map λd=>(nz s aJ).2.2.2.2.map λk=>((nz s aJ).2.2.2.1,k,d):=by unfold pf;grind
    rw[A.bt (show wH.pre (mf s (i:Int),nz s aJ) from ae.gp.2.2.2.2.2.2 _ Jb)];obtain⟨ayT,_⟩:=P0 ae Jb;have lW:=ae.apO;obtain⟨apR,iG,Dt⟩:=PZ ae ap3;have ap4:=bF (n:=(mf s (i:Int)).2.2.2.1 - s.2.2.2.2.2) (by omega) (by omega);generalize mf s (i:Int)=x at *
    generalize nz s aJ=p at *
    by_cases aT:tq x p=0
    ·have aq:wL s x p=none:=by unfold wL;grind
     rw[aq]at m_;rw[I_ m_];simp only[aT,decide_true,if_true,A.aF,A.pS,V.ho]
    ·by_cases U:tq x p=2;all_goals simp only[aT,U,decide_true,decide_false,Bool.false_eq_true,if_false,if_true,A.aF,A.b2,ap4,Int.reduceEq]
     ·have aq:wL s x p=(if x.2.2.2.1 - s.2.2.2.2.2<0 then none else some (x.2.2.2.1 - s.2.2.2.2.2)):=by unfold wL;grind
      generalize x.2.2.2.1 - s.2.2.2.2.2=d at *
      by_cases rJ:d<0
      ·rw[if_pos rJ]at aq;rw[aq]at m_;rw[I_ m_];simp_all
      ·rw[if_neg rJ]at aq;rw[aq]at m_;rw[Ff m_];simp only[rJ,decide_false,Bool.false_eq_true,if_false];rw[A.gv p.2.2.2.2 (λk acc=>(some (db s),d,cx,(cx.length:Int),(i:Int),p.2.2.2.2,(p.2.2.2.2.length:Int),(k:Int),acc,p,())) (λk acc=>.next (acc++[(p.2.2.2.1,k,d)])) (λacc=>.next (some (db s),cx,(cx.length:Int),(i:Int),acc,())) (λk yX=>yX.length<=4*i+k) acc ?_ ?_ ?_ ?_]
       ·rw[fr,yf];simp_all
       ·rfl
       ·omega
       ·intro k al yX ap5;have mK:=bF (n:=(k:Int)+1) (by omega) (by omega);have lT:b9 (yX.length+(0+1)):=by unfold b9;omega
        refine⟨?_,λbd W=>?_⟩
        ·simp_all
        grind
       simp
     ·have aq:wL s x p=(if x.2.2.2.1<0 then none else some x.2.2.2.1):=by unfold wL;grind
      generalize x.2.2.2.1=d at *
      by_cases rJ:d<0
      ·omega
      ·rw[if_neg rJ]at aq;rw[aq]at m_;rw[Ff m_];simp only[rJ,decide_false,Bool.false_eq_true,if_false];rw[A.gv p.2.2.2.2 (λk acc=>(some (db s),d,cx,(cx.length:Int),(i:Int),p.2.2.2.2,(p.2.2.2.2.length:Int),(k:Int),acc,p,())) (λk acc=>.next (acc++[(p.2.2.2.1,k,d)])) (λacc=>.next (some (db s),cx,(cx.length:Int),(i:Int),acc,())) (λk yX=>yX.length<=4*i+k) acc ?_ ?_ ?_ ?_]
       ·rw[fr,yf];simp_all
       ·rfl
       ·omega
       ·intro k al yX ap5;have mK:=bF (n:=(k:Int)+1) (by omega) (by omega);have lT:b9 (yX.length+(0+1)):=by unfold b9;omega
        refine⟨?_,λbd W=>?_⟩
        ·simp_all
        grind
       simp
  ·cases m_:pf s cx i with
   | none=>rw[I_ m_]at W;cases W
   | some y=>
    rw[Ff m_]at W;cases W;have:=ZU ae an G m_;grind
 simp
theorem ap6(x):A.le (Om wH.sh x) (Ja.sh x):=A.bu λh=>by
 obtain⟨o,cx⟩:=x;obtain⟨s,⟨ar,ae⟩,an⟩:=h;change o=_ at ar;subst ar;exact ap0 s ae cx an
def pg(s:bI)(cx:z1'):Int:=((List.range cx.length).map λ(i:Nat)=>if cx.getD i 0=-1 then 0 else (mf s (i:Int)).2.2.2.2).foldl (·+·) 0
abbrev tu:aM:=⟨.az wK fO,bq,λx=>∃ s,wM x.1 s/\x.2.length<=s.2.2.2.1.length,λx=>pg (oq x.1) x.2⟩
theorem ap7(s:bI)(ae:me s)(cx:z1')(an:cx.length<=s.2.2.2.1.length):Ov (some (db s),cx)=A.pure (pg s cx):=by
 unfold Ov;have BH:=ae.tr;rw[A.gv (List.range cx.length) (λi (n:Int)=>(some (db s),n,cx,(cx.length:Int),(i:Int),())) (λ(i:Nat) n=>.next (n+if cx.getD i 0=-1 then 0 else (mf s (i:Int)).2.2.2.2)) (λn=>.next (n,())) (λi n=>0<=n/\n<=100000*i) 0 ?_ ?_ ?_ ?_]
 ·rw[fr];unfold pg;rw[List.foldl_map,A.aF,A.b2]
 ·rfl
 ·simp
 ·intro i G n au;have G:i<cx.length:=by grind
  have tt:i<s.2.2.2.1.length:=by omega
  have h4:=bF (n:=(i:Int)+1) (by omega) (by omega);obtain⟨_,oT⟩:=P0 ae (I9 tt);have BI:List.getD s.2.2.2.1 i ([],(0,0),0,0,0)=mf s (i:Int):=rfl;have BB:=bF (n:=n+(mf s (i:Int)).2.2.2.2) (by omega) (by omega);have gu:(db s).1=s:=rfl;rw[List.getElem_range];refine⟨?_,λbd W=>?_⟩
  ·simp only[bW,cX G,if_true,Int.toNat_natCast,cH G,cH tt,A.bn,Option.isSome_some,Option.getD_some,cn,gu,BI];by_cases E:cx.getD i 0=-1
   ·simp only[E,ne_eq,not_true,decide_false,Bool.false_eq_true,if_false,if_true,A.aF,A.b2,h4,Int.add_zero,V.ho];rfl
   ·simp only[E,ne_eq,not_false_iff,decide_true,if_false,if_true,cH tt,A.bn,A.aF,A.b2,h4,BB,V.ho];rfl
  grind
 simp
theorem ap8(x):A.le (Ov x) (tu.sh x):=A.bu λh=>by
 obtain⟨o,cx⟩:=x;obtain⟨s,⟨ar,ae⟩,an⟩:=h;change o=_ at ar;subst ar;exact ap7 s ae cx an
theorem Fg{l:z1'}{j i:Nat}{s:Int}(aE:j<l.length):(l.set j s).getD i 0=if i=j then s else l.getD i 0:=by
 grind
abbrev ZW(fit:List (z1'))(j:Int):z1':=fit.getD j.toNat []
def ap9(q6 work:z1')(s:Int):Prop:=q6.getD s.toNat 0<=((PN work s).length:Int)
def ap_(fit:List (z1'))(q6 work:z1')(C:Int->Prop):Prop:=∀ j,C j->∀ s∈ZW fit j,ap9 q6 work s/\∀ h∈PN work s,C h
def ap'(n:Nat)(q6 work:z1'):Prop:=∀ s,0<=s->s<(n:Int)->((PN work s).length:Int)<=q6.getD s.toNat 0
structure ayU(n:Nat)(fit:List (z1'))(q6:z1')(k:Nat)(work:z1'):Prop where
 len:work.length=fit.length
 val:ap' n q6 work
 mem:∀ i:Nat,i<fit.length->work.getD i 0=-1\/work.getD i 0∈ZW fit (i:Int)
 ck:∀ i:Nat,k<=i->i<fit.length->work.getD i 0=-1
 P2:∃ C,ap_ fit q6 work C/\(∀ c,C c->0<=c/\c<(k:Int))/\∀ i:Nat,i<k->work.getD i 0=-1->C (i:Int)
theorem aqa{J i:Nat}(h:i<J):(List.replicate J (-1:Int)).getD i 0=-1:=by
 grind
theorem ZX(a b:Int):(if a=b then 1 else 0)=(if b=a then 1 else (0:Nat)):=by
 grind
def gS(g:z1')(j:Int):Nat:=g.countP λx=>decide (x=j)
theorem P3:∀ {g:z1'} {i:Nat} {x:Int} (j:Int),i<g.length->gS (g.set i x) j+(if g.getD i 0=j then 1 else 0)=gS g j+(if x=j then 1 else 0)
 | [],i,x,j,h=>by grind
 | y::g,0,x,j,h=>by
  unfold gS;grind
 | y::g,i+1,x,j,h=>by
  have:=P3 (g:=g) (i:=i) (x:=x) j (by grind);unfold gS at *
  grind
theorem aqb{g:z1'}{i:Nat}{j:Int}(G:i<g.length)(h:g.getD i 0=j):0<gS g j:=by
 unfold gS;grind
def ot(gd:Nat->Int->Bool)(rec:Int->k_->Bool×k_)(own:Int)(i:Nat)(st:k_):V k_ (Bool×k_):=
 if (decide (cR st.2 (i:Int) > 0)||!gd i own)=true then .next st
 else if decide (st.1.getD i 0=-1)=true then .done (true,(st.1.set i own,e' st.2 (i:Int) (cR st.2 (i:Int)+1)))
 else if (rec (st.1.getD i 0) (st.1,e' st.2 (i:Int) (cR st.2 (i:Int)+1))).1=true then .done (true,((rec (st.1.getD i 0) (st.1,e' st.2 (i:Int) (cR st.2 (i:Int)+1))).2.1.set i own,(rec (st.1.getD i 0) (st.1,e' st.2 (i:Int) (cR st.2 (i:Int)+1))).2.2))
 else .next (rec (st.1.getD i 0) (st.1,e' st.2 (i:Int) (cR st.2 (i:Int)+1))).2
def j3(gd:Nat->Int->Bool)(m:Nat):Nat->Int->k_->Bool×k_
 | 0=>λ_ st=>(false,st)
 | f+1=>λown st=>eX (ot gd (j3 gd m f) own) (λst=>(false,st)) (List.range m) st
def P4(m J:Nat)(g:z1'):Prop:=∀ i,i<m->g.getD i 0=-1\/(0<=g.getD i 0/\g.getD i 0<(J:Int))
structure yY(m J f:Nat)(st:k_):Prop where
 len:st.1.length=m
 mg:P4 m J st.1
 seen:∀ k,0<=cR st.2 k/\cR st.2 k<=1
 ch:r3 m st.2<f
structure P5(m J:Nat)(st r:k_):Prop where
 len:r.1.length=m
 mg:P4 m J r.1
 seen:∀ k,cR st.2 k<=cR r.2 k/\cR r.2 k<=1
def ZY(gd:Nat->Int->Bool)(m:Nat)(g:z1')(C:Int->Prop):Prop:=∀ j,C j->∀ i,i<m->gd i j=true->g.getD i 0≠-1/\C (g.getD i 0)
def ZZ(gd:Nat->Int->Bool)(m:Nat)(g:z1')(s s':z4'):Prop:=∀ i,i<m->cR s (i:Int)=0->1<=cR s' (i:Int)->g.getD i 0≠-1/\∀ k,k<m->gd k (g.getD i 0)=true->1<=cR s' (k:Int)
structure P6(gd:Nat->Int->Bool)(m:Nat)(own:Int)(st:k_)(r:Bool×k_):Prop where
 P7:r.1=false->r.2.1=st.1/\(∀ i,i<m->gd i own=true->1<=cR r.2.2 (i:Int))/\ZZ gd m st.1 st.2 r.2.2
 Z0:r.1=true->(∀ i,i<m->r.2.1.getD i 0=st.1.getD i 0\/(cR st.2 (i:Int)=0/\gd i (r.2.1.getD i 0)=true))/\∀ j,j≠-1->gS r.2.1 j=gS st.1 j+(if j=own then 1 else 0)
 cl:∀ C,ZY gd m st.1 C->(C own->r.1=false)/\(r.1=true->∀ i,i<m->r.2.1.getD i 0≠st.1.getD i 0->∀ c,C c->gd i c=false)
def Z1(gd:Nat->Int->Bool)(m J f:Nat)(rec:Int->k_->Bool×k_):Prop:=∀ own st,0<=own->own<(J:Int)->yY m J f st->P5 m J st (rec own st).2/\P6 gd m own st (rec own st)
theorem aqc{gd:Nat->Int->Bool}{m J f:Nat}{rec:Int->k_->Bool×k_}(EH:Z1 gd m J f rec){own:Int}(Z2:0<=own)(Z3:own<(J:Int)){st:k_}(aT:yY m J (f+1) st) :
  P5 m J st (eX (ot gd rec own) (λst=>(false,st)) (List.range m) st).2/\P6 gd m own st (eX (ot gd rec own) (λst=>(false,st)) (List.range m) st):=by
 refine ao7 (λk b=>b.1=st.1/\(∀ q,cR st.2 q<=cR b.2 q/\cR b.2 q<=1)/\(∀ i,i<k->i<m->gd i own=true->1<=cR b.2 (i:Int))/\ZZ gd m st.1 st.2 b.2)
  (λr:Bool×k_=>P5 m J st r.2/\P6 gd m own st r) (List.range m) st ⟨rfl,λq=>⟨Int.le_refl _,(aT.seen q).2⟩,λi G=>by omega,λi _ E U=>by omega⟩ (λi G b W=>?_) λb W=>?_
 ·obtain⟨hw,nr,Jc,ln⟩:=W;have G:i<m:=by grind
  rw[List.getElem_range];have vI:∀ q,0<=cR b.2 q:=λq=>Int.le_trans (aT.seen q).1 (nr q).1;unfold ot;by_cases hc:(decide (cR b.2 (i:Int) > 0)||!gd i own)=true
  ·grind
  ·rw[if_neg hc];simp only[Bool.or_eq_true,not_or,decide_eq_true_eq,Bool.not_eq_true',Bool.not_eq_false]at hc;obtain⟨bj,aB⟩:=hc;have bj:cR b.2 (i:Int)=0:=by grind
   have Lu:cR st.2 (i:Int)=0:=by have:=(nr i).1;have:=(aT.seen i).1;omega
   have qz:i<st.1.length:=by rw[aT.len];exact G
   have km:∀ q,cR b.2 q<=cR (e' b.2 (i:Int) (cR b.2 (i:Int)+1)) q/\cR (e' b.2 (i:Int) (cR b.2 (i:Int)+1)) q<=1:=λq=>by
    have:=nr q;rw[BC];omega
   have ayV:cR (e' b.2 (i:Int) (cR b.2 (i:Int)+1)) (i:Int)=1:=by rw[BC,if_pos rfl,bj];rfl
   by_cases ar:st.1.getD i 0=-1
   ·rw[hw,if_pos (by grind)];refine⟨⟨by show (st.1.set i own).length=m;rw[List.length_set];exact aT.len,λk al=>?_,λq=>⟨Int.le_trans (nr q).1 (km q).1,(km q).2⟩⟩,λh=>(by cases h),λ_=>⟨λk al=>?_,λj aE=>?_⟩,λC jq=>⟨λP8=>?_,λ_ k al eB c hc=>?_⟩⟩
    ·show (st.1.set i own).getD k 0=-1\/(0<=(st.1.set i own).getD k 0/\(st.1.set i own).getD k 0<(J:Int))
     rw[Fg qz];split
     ·omega
     ·exact aT.mg k al
    ·grind
    ·have:=P3 (x:=own) j qz;grind
    ·exact absurd ar (jq own P8 i G aB).1
    ·change (st.1.set i own).getD k 0≠_ at eB;rw[Fg qz]at eB;split at eB
     ·rename_i e;subst e;cases P9:gd k c with
      | false=>rfl
      | true=>exact absurd ar (jq c hc k G P9).1
     omega
   ·rw[hw,if_neg (by grind)];have iP:=(aT.mg i G).resolve_left ar;have wN:yY m J f (st.1,e' b.2 (i:Int) (cR b.2 (i:Int)+1)):=by
     refine⟨aT.len,aT.mg,λq=>⟨Int.le_trans (vI q) (km q).1,(km q).2⟩,?_⟩;have E:=ZG (n:=m) (m:=b.2) (s:=(i:Int)) (v:=cR b.2 (i:Int)+1) (by omega) (by omega) bj (by omega);have U:=ZH (n:=m) (a:=st.2) (b:=b.2) λk=>⟨(aT.seen k).1,(nr k).1⟩
     have ag:=aT.ch;grind
    obtain⟨an,M⟩:=EH (st.1.getD i 0) _ iP.1 iP.2 wN;revert an M;generalize rec (st.1.getD i 0) (st.1,e' b.2 (i:Int) (cR b.2 (i:Int)+1))=r;intro an M;have x0:∀ q,cR (e' b.2 (i:Int) (cR b.2 (i:Int)+1)) q<=cR r.2.2 q:=λq=>(an.seen q).1;by_cases bM:r.1=true
    ·rw[if_pos bM];obtain⟨kY,BJ⟩:=M.Z0 bM;have uh:i<r.2.1.length:=by rw[an.len];exact G
     have CU:r.2.1.getD i 0=st.1.getD i 0:=by
      grind
     refine⟨⟨by show (r.2.1.set i own).length=m;rw[List.length_set];exact an.len,λk al=>?_,λq=>⟨Int.le_trans (nr q).1 (Int.le_trans (km q).1 (x0 q)),(an.seen q).2⟩⟩,λh=>(by cases h),λ_=>⟨λk al=>?_,λj aE=>?_⟩,λC jq=>⟨λP8=>?_,λ_ k al eB c hc=>?_⟩⟩
     ·show (r.2.1.set i own).getD k 0=-1\/(0<=(r.2.1.set i own).getD k 0/\(r.2.1.set i own).getD k 0<(J:Int))
      rw[Fg uh];split
      ·omega
      ·exact an.mg k al
     ·show (r.2.1.set i own).getD k 0=_\/(_/\gd k ((r.2.1.set i own).getD k 0)=true)
      rw[Fg uh];split
      ·grind
      ·rcases kY k al with e | ⟨ax,aO⟩
       ·grind
       ·right;refine⟨?_,aO⟩;have a:=(km (k:Int)).1;have d:=nr (k:Int);have c:=(aT.seen (k:Int)).1;grind
     ·have a:=P3 (x:=own) j uh;have d:=BJ j aE;change gS r.2.1 j=gS st.1 j+_ at d;rw[CU]at a;show gS (r.2.1.set i own) j=_;rw[ZX j own];rw[ZX j (st.1.getD i 0)]at d;omega
     ·have:=(M.cl C jq).1 (jq own P8 i G aB).2;grind
     ·change (r.2.1.set i own).getD k 0≠_ at eB;rw[Fg uh]at eB;split at eB
      ·rename_i e;subst e;cases P9:gd k c with
       | false=>rfl
       | true=>
        have:=(M.cl C jq).1 (jq c hc k G P9).2;grind
      ·exact (M.cl C jq).2 bM k al eB c hc
    ·rw[if_neg bM];have Dl:r.1=false:=by grind
     obtain⟨Dn,ayW,aqd⟩:=M.P7 Dl;refine⟨Dn,λq=>⟨Int.le_trans (nr q).1 (Int.le_trans (km q).1 (x0 q)),(an.seen q).2⟩,λk al P_ Hj=>?_,λk P_ bE ax=>?_⟩
     ·grind
     ·by_cases e:k=i
      ·grind
      ·by_cases aO:1<=cR b.2 (k:Int)
       ·obtain⟨a,c⟩:=ln k P_ bE aO;grind
       ·refine aqd k P_ ?_ ax;show cR (e' b.2 (i:Int) (cR b.2 (i:Int)+1)) (k:Int)=0;rw[BC,if_neg (by omega)];grind
 ·obtain⟨hw,nr,Jc,ln⟩:=W;rw[List.length_range]at Jc;refine⟨⟨by rw[hw];exact aT.len,by rw[hw];exact aT.mg,nr⟩,λ_=>⟨hw,λi G aB=>Jc i G G aB,ln⟩,λh=>(by cases h),λC jq=>⟨λ_=>rfl,λh=>(by cases h)⟩⟩
theorem P'{gd:Nat->Int->Bool}{m J:Nat}:∀ f,Z1 gd m J f (j3 gd m f)
 | 0=>λown st _ _ h=>absurd h.ch (by omega)
 | f+1=>λown st aT E h=>aqc (P' f) aT E h
def qa(gd:Nat->Int->Bool)(m F:Nat)(st:z1'×Int)(j:Nat):z1'×Int:=((j3 gd m F (j:Int) (st.1,[])).2.1,if (j3 gd m F (j:Int) (st.1,[])).1=true then st.2 else st.2+1)
def yZ(gd:Nat->Int->Bool)(m J F:Nat):z1'×Int:=(List.range J).foldl (qa gd m F) (List.replicate m (-1),0)
structure Fh(gd:Nat->Int->Bool)(m J k:Nat)(st:z1'×Int):Prop where
 len:st.1.length=m
 mg:∀ i,i<m->st.1.getD i 0=-1\/(0<=st.1.getD i 0/\st.1.getD i 0<(k:Int)/\gd i (st.1.getD i 0)=true)
 one:∀ j,0<=j->gS st.1 j<=1
 num:st.2=(((List.range k).countP λ(j:Nat)=>decide (gS st.1 (j:Int)=0):Nat):Int)
 P2:∃ C,ZY gd m st.1 C/\(∀ c,C c->0<=c/\c<(k:Int))/\∀ j:Nat,j<k->gS st.1 (j:Int)=0->C (j:Int)
theorem Z4{gd:Nat->Int->Bool}{m J F k:Nat}(bm:m<F)(al:k<J){st:z1'×Int}(h:Fh gd m J k st):Fh gd m J (k+1) (qa gd m F st k):=by
 obtain⟨g,n⟩:=st;have hu:r3 m []<=m:=by
  unfold r3;exact Nat.le_trans List.countP_le_length (by simp)
 have wN:yY m J F (g,[]):=⟨h.len,λi G=>by have:=h.mg i G;grind,λq=>⟨Int.le_refl _,by show (0:Int)<=1;decide⟩,by grind⟩
 obtain⟨an,M⟩:=P' F (k:Int) (g,[]) (by omega) (by omega) wN;unfold qa;revert an M;generalize j3 gd m F (k:Int) (g,[])=r;intro an M;have m':gS g (k:Int)=0:=by
  unfold gS;rw[List.countP_eq_zero];intro x ah;obtain⟨i,G,rfl⟩:=List.mem_iff_getElem.1 ah;have:=h.mg i (by rw[<-h.len];exact G);grind
 obtain⟨C,jq,ayX,ayY⟩:=h.P2;by_cases W:r.1=true
 ·obtain⟨kY,BJ⟩:=M.Z0 W;have ayZ:=(M.cl C jq).2 W;refine⟨an.len,λi G=>?_,λj aE=>?_,?_,C,λc uu i G Fi=>?_,λc uu=>?_,λj aE hu=>?_⟩
  ·show r.2.1.getD i 0=-1\/_;rcases kY i G with e | ⟨ax,aO⟩
   ·rw[e];rcases h.mg i G with a | a
    ·exact .inl a
    ·exact .inr ⟨a.1,by have:=a.2.1;show g.getD i 0<_;change g.getD i 0<_ at this;omega,a.2.2⟩
   ·by_cases km:r.2.1.getD i 0=-1
    ·omega
    ·refine .inr ⟨?_,?_,aO⟩
     ·have:=(an.mg i G).resolve_left km;grind
     ·have E:=BJ _ km;have U:0<gS r.2.1 (r.2.1.getD i 0):=aqb (by rw[an.len];exact G) rfl;by_cases e:r.2.1.getD i 0=(k:Int)
      ·grind
      ·rw[if_neg e]at E;have ag:0<gS g (r.2.1.getD i 0):=by grind
       unfold gS at ag;rw[List.countP_pos_iff]at ag;obtain⟨x,ah,e7⟩:=ag;obtain⟨q,bp,rfl⟩:=List.mem_iff_getElem.1 ah;have:=h.mg q (by rw[<-h.len];exact bp);grind
  ·have E:=BJ j (by omega);have U:=h.one j aE;change gS r.2.1 j=gS g j+_ at E;change gS g j<=1 at U;show gS r.2.1 j<=1;by_cases e:j=(k:Int)
   ·subst e;rw[if_pos rfl]at E;omega
   ·rw[if_neg e]at E;omega
  ·rw[if_pos W];have E:=h.num;change n=_ at E;show n=_;rw[E,List.range_succ,List.countP_append];have U:∀ j:Nat,j<k->gS r.2.1 (j:Int)=gS g (j:Int):=λj aE=>by
    have:=BJ (j:Int) (by omega);rw[if_neg (by omega)]at this;omega
   have ag:gS r.2.1 (k:Int)=1:=by
    grind
   have a6:(List.range k).countP (λ(j:Nat)=>decide (gS r.2.1 (j:Int)=0))=(List.range k).countP (λ(j:Nat)=>decide (gS g (j:Int)=0)):=List.countP_congr λj aE=>by grind
   simp_all
  ·show r.2.1.getD i 0≠-1/\C (r.2.1.getD i 0);by_cases e:r.2.1.getD i 0=g.getD i 0
   ·rw[e];exact jq c uu i G Fi
   grind
  ·grind
  ·change gS r.2.1 (j:Int)=0 at hu;have E:=BJ (j:Int) (by omega);change gS r.2.1 _=gS g _+_ at E;by_cases e:j=k
   ·grind
   ·rw[if_neg (by omega)]at E;grind
 ·have Dl:r.1=false:=by grind
  obtain⟨hw,Jc,ln⟩:=M.P7 Dl;change r.2.1=g at hw;simp only[hw];refine⟨h.len,λi G=>?_,h.one,?_,λc=>C c\/c=(k:Int)\/∃ i,i<m/\1<=cR r.2.2 (i:Int)/\c=g.getD i 0,λc uu i G Fi=>?_,λc uu=>?_,λj aE hu=>?_⟩
  ·rcases h.mg i G with a | a
   ·exact .inl a
   ·exact .inr ⟨a.1,by have:=a.2.1;show g.getD i 0<_;change g.getD i 0<_ at this;omega,a.2.2⟩
  ·rw[if_neg W];have E:=h.num;change n=_ at E;show n+1=_;rw[E,List.range_succ,List.countP_append];grind
  ·have au:1<=cR r.2.2 (i:Int)->g.getD i 0≠-1/\(C (g.getD i 0)\/g.getD i 0=(k:Int)\/∃ q,q<m/\1<=cR r.2.2 (q:Int)/\g.getD i 0=g.getD q 0):=λaD=>⟨(ln i G rfl aD).1,.inr (.inr ⟨i,G,aD,rfl⟩)⟩
   rcases uu with e | e | ⟨q,bp,aD,e⟩
   ·exact⟨(jq c e i G Fi).1,.inl (jq c e i G Fi).2⟩
   ·grind
   ·subst e;exact au ((ln q bp rfl aD).2 i G Fi)
  ·rcases uu with e | e | ⟨q,bp,aD,e⟩
   ·grind
   ·omega
   ·have:=(h.mg q bp).resolve_left (ln q bp rfl aD).1;grind
  grind
theorem aqe(gd:Nat->Int->Bool)(m J F:Nat)(bm:m<F):Fh gd m J J (yZ gd m J F):=by
 unfold yZ;have key:∀ k,k<=J->Fh gd m J k ((List.range k).foldl (qa gd m F) (List.replicate m (-1),0)):=by
  intro k;induction k with
  | zero=>
   intro _;refine⟨by simp,λi G=>.inl (aqa G),λj aE=>?_,by simp,λ_=>False,λ_ h=>h.elim,λ_ h=>h.elim,λj aE=>by omega⟩;show gS (List.replicate m (-1)) j<=1;have:gS (List.replicate m (-1)) j=0:=by
    unfold gS;grind
   omega
  | succ k aH=>
   intro al;rw[List.range_succ,List.foldl_append];exact Z4 bm (by omega) (aH (by omega))
 grind
def r7(t:dv)(sp:Int×Int)(j:r6):Bool:=decide (sp.2<=j.2.2)&&decide ((pb t.2.2 (sp.1,j.1,j.2.1)).getD 0 > 0)
abbrev BK:aM:=⟨.az wK (.az I4 I'),dj,λx=>∃ t,x.1=some t,λx=>r7 (x.1.getD yW) x.2.1 x.2.2⟩
theorem aqf(x):A.le (V' x) (BK.sh x):=A.bu λh=>by
 obtain⟨o,sp,j⟩:=x;obtain⟨t,ar⟩:=h;change o=_ at ar;subst ar;unfold V';simp only[Option.isSome_some,Option.getD_some,and_true,true_and,and_self,imp_self,implies_true,A.bn];rfl
def Fj(t:dv)(l:List r6):Bool:=l.all λj=>(List.range t.1.2.1.length).any λ(i:Nat)=>r7 t ((i:Int),0) j
abbrev Qa:aM:=⟨.az wK (.slice I'),dj,λx=>∃ t,x.1=some t/\t.1.2.1.length<2 ^ 63/\x.2.length<2 ^ 63,λx=>Fj (x.1.getD yW) x.2⟩
theorem aqg(t:dv)(l:List r6)(E:t.1.2.1.length<2 ^ 63)(U:l.length<2 ^ 63):On BK.sh (some t,l)=A.pure (Fj t l):=by
 unfold On;rw[A.et l (λi (_:Unit)=>(some t,l,(l.length:Int),(i:Int),())) (λj b=>if (!(List.range t.1.2.1.length).any λ(i:Nat)=>r7 t ((i:Int),0) j)=true then .done (.done false) else .next b) (λ_=>.next ()) () ?_ ?_ ?_]
 ·rw[k0 (q:=λj=>(List.range t.1.2.1.length).any λ(i:Nat)=>r7 t ((i:Int),0) j) _ _ (λ_=>rfl)];unfold Fj;cases l.all λj=>(List.range t.1.2.1.length).any λ(i:Nat)=>r7 t ((i:Int),0) j<;>simp
 ·rfl
 ·intro i G b;have hw:=bF (n:=(i:Int)+1) (by omega) (by omega);simp only[bW,cX G,if_true,dk G,cH G,A.bn,Option.isSome_some,Option.getD_some];rw[A.et (List.range t.1.2.1.length) (λk (b:Bool)=>(some t,b,l,(l.length:Int),(i:Int),(t.1.2.1.length:Int),(k:Int),l[i],())) (λ(k:Nat) b=>.next (b||r7 t ((k:Int),0) l[i])) (λb=>.next (some t,b,l,(l.length:Int),(i:Int),())) false ?_ ?_ ?_]
  ·rw[fr];have e:∀ (r:List Nat) (b:Bool),r.foldl (λ(b:Bool) (k:Nat)=>b||r7 t ((k:Int),0) l[i]) b=(b||r.any λ(k:Nat)=>r7 t ((k:Int),0) l[i]):=by
    intro r;induction r with
    | nil=>simp
    | cons k r aH=>grind
   rw[e,Bool.false_or];simp only[A.aF,A.b2];cases (List.range t.1.2.1.length).any λ(k:Nat)=>r7 t ((k:Int),0) l[i]<;>simp[V.ho,hw]
  ·rfl
  ·intro k al b;have al:k<t.1.2.1.length:=by grind
   have mK:=bF (n:=(k:Int)+1) (by omega) (by omega);simp only[cX al,if_true,List.getElem_range,aM.sh,A.jd,A.dG];rw[A.bt (by simp)];simp only[Option.getD_some,cn,mK,V.ho];grind
  simp
 simp
theorem aqh(x):A.le (On BK.sh x) (Qa.sh x):=A.bu λh=>by
 obtain⟨o,l⟩:=x;obtain⟨t,ar,E,U⟩:=h;change o=_ at ar;subst ar;exact aqg t l E U
def gJ(t:dv)(l:List r6)(i:Nat)(j:Int):Bool:=r7 t (t.2.1.getD i (0,0)) (l.getD j.toNat (0,0,0))
abbrev Qb:=Option dv×List r6×Int×z4'×z1'×Unit
abbrev Z5:=Bool×z4'×z1'×Unit
def u4(r:Bool×k_):Z5:=(r.1,r.2.2,r.2.1,())
def Qc(f:Nat)(x:Qb):Prop:=∃ t,x.1=some t/\t.2.1.length<=200/\x.2.1.length<=1000/\0<=x.2.2.1/\x.2.2.1<(x.2.1.length:Int)/\yY t.2.1.length x.2.1.length f (x.2.2.2.2.1,x.2.2.2.1)
def u5(f:Nat)(x:Qb):A Z5:=A.dP (Qc f x) (u4 (j3 (gJ (x.1.getD yW) x.2.1) (x.1.getD yW).2.1.length f x.2.2.1 (x.2.2.2.2.1,x.2.2.2.1)))
theorem aqi{t:dv}{l:List r6}(hm:t.2.1.length<=200)(ai:l.length<=1000){f:Nat}{own:Int}(Z2:0<=own)(Z3:own<(l.length:Int)){st:k_}(aT:yY t.2.1.length l.length (f+1) st) :
  Ox BK.sh (u5 f) (some t,l,own,st.2,st.1,())=A.pure (u4 (j3 (gJ t l) t.2.1.length (f+1) own st)):=by
 have EH:=P' (gd:=gJ t l) (m:=t.2.1.length) (J:=l.length) f;unfold Ox;simp only[bW,A.bn,ao8,Option.isSome_some,Option.getD_some];rw[A.gv (List.range t.2.1.length) (λi (b:k_)=>(some t,l,own,t.2.1,(t.2.1.length:Int),(i:Int),b.2,b.1,())) (λi b=>V.u3 (λr=>.done (u4 r)) (ot (gJ t l) (j3 (gJ t l) t.2.1.length f) own i b)) (λb=>.next (b.2,b.1,())) (λi b=>b.1=st.1/\∀ q,cR st.2 q<=cR b.2 q/\cR b.2 q<=1) st ?_ ?_ ?_ ?_]
 ·show _=A.pure (u4 (eX (ot (gJ t l) (j3 (gJ t l) t.2.1.length f) own) (λst=>(false,st)) (List.range t.2.1.length) st));rw[PO,PO,ZI];cases yR (ot (gJ t l) (j3 (gJ t l) t.2.1.length f) own) (List.range t.2.1.length) st<;>(simp only[V.u3,V.fin,A.aF,A.b2,A.pS];try rfl)
 ·rfl
 ·exact⟨rfl,λq=>⟨Int.le_refl _,(aT.seen q).2⟩⟩
 ·intro i G b W;have G:i<t.2.1.length:=by grind
  have lE:=bF (n:=(i:Int)+1) (by omega) (by omega);rw[List.getElem_range];have aqj:b.1.length=t.2.1.length:=by rw[W.1];exact aT.len
  have eL:i<b.1.length:=by omega
  have aqk:0<=own/\own<(l.length:Int):=⟨Z2,Z3⟩
  have kY:=W.2 (i:Int);have nh:=aT.seen (i:Int);simp only[bW,cX G,if_true,cH G,cH eL,A.bn,aqk,aM.sh,A.od,A.gQ,Int.toNat_natCast,Option.getD_some];have zP:r7 t (t.2.1.getD i (0,0)) (l.getD own.toNat (0,0,0))=gJ t l i own:=rfl;rw[zP];have aql:(∃ cV,(some t:Option dv)=some cV)=True:=by simp
  simp only[aql,and_true,true_and,and_self,imp_self,implies_true,A.bn];by_cases Jd:cR b.2 (i:Int) > 0
  ·have hu:ot (gJ t l) (j3 (gJ t l) t.2.1.length f) own i b=.next b:=by unfold ot;grind
   rw[hu];refine⟨?_,λbd dd=>by cases dd;exact W⟩;simp only[Jd,decide_true,Bool.true_or,if_true,A.aF,A.b2,cn,lE,V.ho,V.u3,Bool.not_true,Bool.false_eq_true,false_imp_iff,Bool.true_eq_false,A.bn,and_self,implies_true];rfl
  ·by_cases aB:gJ t l i own=true
   ·have bj:cR b.2 (i:Int)=0:=by omega
    have I8:=bF (n:=cR b.2 (i:Int)+1) (by omega) (by omega);have km:∀ q,cR b.2 q<=cR (e' b.2 (i:Int) (cR b.2 (i:Int)+1)) q/\cR (e' b.2 (i:Int) (cR b.2 (i:Int)+1)) q<=1:=λq=>by
     have:=W.2 q;rw[BC];omega
    have K8:¬(decide (cR b.2 (i:Int) > 0)||!gJ t l i own)=true:=by grind
    by_cases ar:b.1.getD i 0=-1
    ·have hu:ot (gJ t l) (j3 (gJ t l) t.2.1.length f) own i b=.done (true,(b.1.set i own,e' b.2 (i:Int) (cR b.2 (i:Int)+1))):=by
      unfold ot;grind
     rw[hu];refine⟨?_,λbd dd=>by cases dd⟩;simp only[Jd,aB,ar,decide_true,decide_false,Bool.not_true,Bool.not_false,Bool.or_self,Bool.false_eq_true,if_false,if_true,false_imp_iff,Bool.true_eq_false,Bool.true_or,A.bn,A.aF,A.pS,cn,I8,cH eL,V.ho,V.u3,and_self,implies_true,true_imp_iff];rfl
    ·have ay0:=aT.mg i G;have aE:0<=b.1.getD i 0/\b.1.getD i 0<(l.length:Int):=by grind
     have wN:yY t.2.1.length l.length f (b.1,e' b.2 (i:Int) (cR b.2 (i:Int)+1)):=by
      refine⟨aqj,?_,λk=>⟨?_,(km k).2⟩,?_⟩
      ·show P4 _ _ b.1;rw[W.1];exact aT.mg
      ·have:=(km k).1;have:=W.2 k;have:=(aT.seen k).1;grind
      ·have E:=ZG (n:=t.2.1.length) (m:=b.2) (s:=(i:Int)) (v:=cR b.2 (i:Int)+1) (by omega) (by omega) bj (by omega);have U:=ZH (n:=t.2.1.length) (a:=st.2) (b:=b.2) λk=>⟨(aT.seen k).1,(W.2 k).1⟩
       have ag:=aT.ch;grind
     obtain⟨AE,aqm⟩:=EH (b.1.getD i 0) (b.1,e' b.2 (i:Int) (cR b.2 (i:Int)+1)) aE.1 aE.2 wN;have gO:Qc f (some t,l,b.1.getD i 0,e' b.2 (i:Int) (cR b.2 (i:Int)+1),b.1,()):=⟨t,rfl,hm,ai,aE.1,aE.2,wN⟩
     have vQ:u5 f (some t,l,b.1.getD i 0,e' b.2 (i:Int) (cR b.2 (i:Int)+1),b.1,())=A.pure (u4 (j3 (gJ t l) t.2.1.length f (b.1.getD i 0) (b.1,e' b.2 (i:Int) (cR b.2 (i:Int)+1)))):=A.bO gO _;simp only[Jd,aB,ar,decide_true,decide_false,Bool.not_true,Bool.not_false,Bool.or_self,Bool.false_eq_true,if_false,if_true,false_imp_iff,Bool.true_eq_false,Bool.false_or,A.bn,cn,I8,and_self,implies_true,true_imp_iff,vQ,A.aF];have uh:(j3 (gJ t l) t.2.1.length f (b.1.getD i 0) (b.1,e' b.2 (i:Int) (cR b.2 (i:Int)+1))).2.1.length=t.2.1.length:=AE.len;have ay1:=AE.seen;have ay2:=aqm.P7;have Z6:ot (gJ t l) (j3 (gJ t l) t.2.1.length f) own i b=if (j3 (gJ t l) t.2.1.length f (b.1.getD i 0) (b.1,e' b.2 (i:Int) (cR b.2 (i:Int)+1))).1=true then .done (true,((j3 (gJ t l) t.2.1.length f (b.1.getD i 0) (b.1,e' b.2 (i:Int) (cR b.2 (i:Int)+1))).2.1.set i own,(j3 (gJ t l) t.2.1.length f (b.1.getD i 0) (b.1,e' b.2 (i:Int) (cR b.2 (i:Int)+1))).2.2)) else .next (j3 (gJ t l) t.2.1.length f (b.1.getD i 0) (b.1,e' b.2 (i:Int) (cR b.2 (i:Int)+1))).2:=by
      unfold ot;grind
     rw[Z6];clear Z6 vQ;generalize j3 (gJ t l) t.2.1.length f (b.1.getD i 0) (b.1,e' b.2 (i:Int) (cR b.2 (i:Int)+1))=r at *
     obtain⟨ok,g',s'⟩:=r;have qz:i<g'.length:=by grind
     cases ok with
     | true=>
      refine⟨?_,λbd dd=>by cases dd⟩;simp only[u4,if_true,cH qz,A.bn,A.aF,A.pS,V.ho,V.u3]
     | false=>
      refine⟨?_,λbd dd=>?_⟩
      ·simp only[u4,Bool.false_eq_true,if_false,A.aF,A.b2,cn,lE,V.ho,V.u3];rfl
      ·cases dd;grind
   ·have hu:ot (gJ t l) (j3 (gJ t l) t.2.1.length f) own i b=.next b:=by unfold ot;grind
    rw[hu];refine⟨?_,λbd dd=>by cases dd;exact W⟩;simp only[Jd,aB,decide_false,Bool.not_false,Bool.or_true,if_true,A.aF,A.b2,cn,lE,V.ho,V.u3,Bool.false_eq_true,A.bn,and_self,implies_true];rfl
 simp
theorem aqn(f:Nat)(x):A.le (Ox BK.sh (u5 f) x) (u5 (f+1) x):=A.bu λh=>by
 obtain⟨o,l,own,seen,g,u⟩:=x;obtain⟨t,ar,hm,ai,aT,E,wN⟩:=h;change o=_ at ar;subst ar;exact aqi (st:=(g,seen)) hm ai aT E wN
theorem aqo(x:Qb):¬(u5 0 x).b1:=λ⟨_,_,_,_,_,_,h⟩=>absurd h.ch (by omega)
def wO(t:dv)(l:List r6):Int:=(yZ (gJ t l) t.2.1.length l.length 201).2
abbrev Je:aM:=⟨.az wK (.slice I'),bq,λx=>∃ t,x.1=some t/\t.2.1.length<=200/\x.2.length<=1000,λx=>wO (x.1.getD yW) x.2⟩
theorem aqp(t:dv)(l:List r6)(hm:t.2.1.length<=200)(ai:l.length<=1000):Oo wG (u5 201) (some t,l)=A.pure (wO t l):=by
 unfold Oo;simp only[bW,Option.isSome_some,Option.getD_some,A.bn];unfold wG;simp only[A.dG];rw[A.bt (by grind)];simp only[Int.toNat_natCast];rw[A.gv (List.range l.length) (λi (b:z1'×Int)=>(some t,l,b.2,(l.length:Int),(i:Int),b.1,())) (λi b=>.next (qa (gJ t l) t.2.1.length 201 b i)) (λb=>.next (b.2,())) (λi b=>Fh (gJ t l) t.2.1.length l.length i b/\0<=b.2/\b.2<=(i:Int)) (List.replicate t.2.1.length (-1),0) ?_ ?_ ?_ ?_]
 ·rw[fr,A.aF,A.b2];rfl
 ·rfl
 ·refine⟨?_,by simp⟩;have:=aqe (gJ t l) t.2.1.length 0 201 (by omega);exact⟨this.len,this.mg,this.one,this.num,this.P2⟩
 ·intro i G b W;have G:i<l.length:=by grind
  have lE:=bF (n:=(i:Int)+1) (by omega) (by omega);rw[List.getElem_range];obtain⟨g,n⟩:=b;obtain⟨W,sB,qA⟩:=W;change 0<=n at sB;change n<=(i:Int) at qA;have BB:=bF (n:=n+1) (by omega) (by omega);have gO:Qc 201 (some t,l,(i:Int),[],g,()):=by
   refine⟨t,rfl,hm,ai,Int.natCast_nonneg i,Int.ofNat_lt.2 G,W.len,λk al=>?_,λk=>by show 0<=cR [] k/\cR [] k<=1;simp[cR,u2],?_⟩
   ·rcases W.mg k al with h | h
    ·exact .inl h
    ·exact .inr ⟨h.1,Int.lt_trans h.2.1 (Int.ofNat_lt.2 G)⟩
   ·have:r3 t.2.1.length []<=t.2.1.length:=by
     unfold r3;exact Nat.le_trans List.countP_le_length (by simp)
    grind
  have vQ:u5 201 (some t,l,(i:Int),[],g,())=A.pure (u4 (j3 (gJ t l) t.2.1.length 201 (i:Int) (g,[]))):=A.bO gO _;have DF:=Z4 (F:=201) (by omega) G W;refine⟨?_,λbd dd=>?_⟩
  ·simp only[cX G,if_true,vQ,A.aF,u4];unfold qa;cases cK:(j3 (gJ t l) t.2.1.length 201 (i:Int) (g,[])).1 with
   | true=>
    simp_all
   | false=>
    simp_all
  ·cases dd;refine⟨DF,?_⟩;have ax:(0:Int)<=n+1:=by omega
   have aO:n+1<=((i+1:Nat):Int):=by omega
   have cv:n<=((i+1:Nat):Int):=by omega
   unfold qa;omega
 simp
theorem aqq(x):A.le (Oo wG (u5 201) x) (Je.sh x):=A.bu λh=>by
 obtain⟨o,l⟩:=x;obtain⟨t,ar,E,U⟩:=h;change o=_ at ar;subst ar;exact aqp t l E U
theorem Z7{s:bI}(ae:me s):(PX s).length<=200:=by
 have E:∀ (l:List Nat),(∀ i∈l,i<s.2.1.length)->(l.flatMap λ(i:Nat)=>lF ((i:Int),0) (s.2.1.getD i 0)).length<=10*l.length:=by
  intro l;induction l with
  | nil=>simp
  | cons i l aH=>
   intro ai;have E:=aH λj aE=>ai j (by grind);have U:=ai i (by simp);have ag:=ae.q6 _ (List.getElem_mem U);have jx:s.2.1.getD i 0=s.2.1[i]:=by grind
   rw[List.flatMap_cons,List.length_append,List.length_cons,jx];simp only[lF,List.length_replicate];simp only[lF]at E;omega
 have U:∀ (l:List Ef),(∀ d∈l,pd s.1 d=true)->(l.flatMap λd=>lF (d.2.1,d.1) d.2.2).length<=10*l.length:=by
  intro l;induction l with
  | nil=>simp
  | cons d l aH=>
   intro ai;have E:=aH λj aE=>ai j (by grind);have ag:=ai d (by simp);simp only[pd,bZ,Bool.and_eq_true,decide_eq_true_eq]at ag;rw[List.flatMap_cons,List.length_append,List.length_cons];simp only[lF,List.length_replicate];simp only[lF]at E;omega
 have a:=E (List.range s.2.1.length) λi G=>by grind
 have b:=U s.2.2.2.2.1 ae.ZO;have c:=ae.ZP;have d:=ae.PW;have e:=ae.Fb;unfold PX Fe ZS;grind
theorem Qd{s:bI}(ae:me s){cx:z1'}(an:nA s cx):(jC s cx).1.length<=24:=by
 unfold jC;split
 ·have:∀ (l:List Nat),(∀ i∈l,i<cx.length)->(l.flatMap λi=>(pf s cx i).getD []).length<=4*l.length:=by
   intro l;induction l with
   | nil=>simp
   | cons i l aH=>
    intro ai;have E:=aH λj aE=>ai j (by grind);have U:=ai i (by simp);rw[List.flatMap_cons,List.length_append,List.length_cons];have:((pf s cx i).getD []).length<=4:=by
     cases h:pf s cx i with
     | none=>simp
     | some y=>exact ZU ae an U h
    omega
  have a:=this (List.range cx.length) λi G=>by grind
  rw[List.length_range]at a;have:=an.1;have:=ae.tr;grind
 ·simp
def qb(s:bI)(cx:z1'):Bool:=(jC s cx).2&&decide (wO (db s) (jC s cx).1=0)
abbrev wP:aM:=⟨.az wK fO,dj,λx=>∃ s,wM x.1 s/\nA s x.2,λx=>qb (oq x.1) x.2⟩
theorem aqr(x):A.le (V4 Ja.sh Je.sh x) (wP.sh x):=A.bu λh=>by
 obtain⟨o,cx⟩:=x;obtain⟨s,⟨ar,ae⟩,an⟩:=h;change o=_ at ar;subst ar;unfold V4;simp only[aM.sh,A.dG,A.jd];rw[A.bt (by exact⟨s,⟨rfl,ae⟩,an⟩),A.bt (by exact λ_=>⟨db s,rfl,Z7 ae,Nat.le_trans (Qd ae an) (by omega)⟩)];show A.pure ((jC s cx).2&&decide ((if (jC s cx).2=true then wO (db s) (jC s cx).1 else 0)=0))=A.pure (qb s cx);unfold qb;grind
def BL(s:bI)(first:z1')(p:Nat):Bool:=!(first.contains (p:Int)||decide (tq (mf s (first.length:Int)) (nz s (p:Int))=0))
def ks(s:bI)(e:Int):Nat->z1'->List (z1')
 | 0,first=>[first]
 | n+1,first=>((List.range s.2.2.1.length).flatMap λp=>if BL s first p=true then ks s e n (first++[(p:Int)]) else [])++(if e=0 then [] else ks s e n (first++[-1]))
abbrev Z8:Type:=Nat×(List (z1')->Prop)×List (z1')×Bool
abbrev Qe:Type:=Option dv×z1'×Int×Nat×Z8×Unit
abbrev Z9:Type:=Bool×Z8×Unit
structure Qf(f:Nat)(x:Qe)(s:bI)(n:Nat)(a b:List (z1')):Prop where
 ay3:wM x.1 s
 len:x.2.1.length+n=s.2.2.2.1.length
 ch:n<f
 ay4:x.2.2.2.2.1.1=x.2.2.2.1
 bD:x.2.2.2.2.1.2.2.2=false
 seq:x.2.2.2.2.1.2.1=λT=>T=a++ks s x.2.2.1 n x.2.1++b
 pos:x.2.2.2.2.1.2.2.1=a
def aqs(x:Qe)(y:Z9):Prop:=y.2.1.1=x.2.2.2.1/\y.2.1.2.1=x.2.2.2.2.1.2.1/\(y.1=true->y.2.1.2.2.2=false/\y.2.1.2.2.1=x.2.2.2.2.1.2.2.1++ks (oq x.1) x.2.2.1 ((oq x.1).2.2.2.1.length - x.2.1.length) x.2.1)/\(y.1=false->y.2.1.2.2.2=true)
def r8(f:Nat)(x:Qe):A Z9:=⟨∃ s n a b,Qf f x s n a b,aqs x⟩
def mh(s:bI)(e:Int)(n:Nat)(first:z1')(k:Nat):List (z1'):=(List.range k).flatMap λp=>if BL s first p=true then ks s e n (first++[(p:Int)]) else []
theorem Jf(s:bI)(e:Int)(n:Nat)(first:z1')(k:Nat):mh s e n first (k+1)=mh s e n first k++(if BL s first k=true then ks s e n (first++[(k:Int)]) else []):=by
 unfold mh;rw[List.range_succ,List.flatMap_append];simp
theorem aqt(s:bI)(e:Int)(n:Nat)(first:z1'){k m:Nat}(h:k<=m):∃ t,mh s e n first m=mh s e n first k++t:=by
 induction m with
 | zero=>simp_all
 | succ m aH=>
  by_cases al:k=m+1
  ·simp_all
  ·obtain⟨t,aL⟩:=aH (by omega);rw[Jf,aL,List.append_assoc];simp
theorem aqu{f:Nat}{s:bI}(ae:me s){first:z1'}{e:Int}{l:Nat}{L:List (z1')->Prop}{n:Nat}(hlen:first.length+n=s.2.2.2.1.length)(ar:n<f+1){a b:List (z1')}(iO:L=λT=>T=a++ks s e n first++b) :
  A.cu (Oy wH.sh (r8 f) o7.sh (some (db s),first,e,l,(l,L,a,false),())) λy=>y.2.1.1=l/\y.2.1.2.1=L/\(y.1=true->y.2.1.2.2.2=false/\y.2.1.2.2.1=a++ks s e n first)/\(y.1=false->y.2.1.2.2.2=true):=by
 have gu:(db s).1=s:=rfl;have BH:=ae.tr;have aqv:=ae.Fc;unfold Oy;simp only[Option.isSome_some,Option.getD_some,A.bn,bW,gu];cases n with
 | zero=>
  have aq:decide ((first.length:Int)=(s.2.2.2.1.length:Int))=true:=by grind
  have aB:∃ T,L (a++first::T):=⟨b,by rw[iO];show _=_;simp[ks]⟩
  simp only[aq,if_true,true_and,and_self];rw[A.bt aB,A.fY];refine⟨⟨true,trivial⟩,λy _=>A.d_.2 ?_⟩;refine⟨rfl,rfl,λh=>?_,λh=>?_⟩
  ·change y=true at h;subst h;exact⟨rfl,rfl⟩
  grind
 | succ n=>
  have aq:decide ((first.length:Int)=(s.2.2.2.1.length:Int))=false:=by grind
  simp only[aq,Bool.false_eq_true,if_false,A.fY];obtain⟨z,bj⟩:∃ z,ks s e (n+1) first=mh s e n first s.2.2.1.length++z:=⟨_,rfl⟩
  refine A.ao6 s.2.2.1.length (λk q=>q=(some (db s),first,e,l,(first.length:Int),s.2.2.1,(s.2.2.1.length:Int),(k:Int),(l,L,a++mh s e n first k,false),())) ?_ ?_ ?_
  ·show _=_;simp[mh]
  ·rintro k al q rfl;have mK:=bF (n:=(k:Int)+1) (by omega) (by omega);have fT:first.length<2 ^ 63:=by omega
   have tt:first.length<s.2.2.2.1.length:=by omega
   have Jb:=I9 tt;have BI:List.getD s.2.2.2.1 first.length ([],(0,0),0,0,0)=mf s (first.length:Int):=rfl
   have P1:s.2.2.1[k]=nz s (k:Int):=by simp[nz,List.getD_eq_getElem?_getD,al]
   have oa:wH.pre (mf s (first.length:Int),nz s (k:Int)):=ae.gp.2.2.2.2.2.2 _ Jb;have aqw:(first.length<2 ^ 63)=True:=by grind
   simp only[cX al,if_true,cH al,dk al,A.bn,aM.sh,A.od,A.gQ,aqw,gu,Int.toNat_natCast,cH tt,BI,P1,and_true,true_and,and_self,imp_self,implies_true];have aqx:((mf s (first.length:Int)).1.length<2 ^ 63)=True:=by grind
   have aqy:List.getD s.2.2.1 k (0,0,0,0,[])=nz s (k:Int):=rfl;have eB:first.contains (k:Int)=false->(!first.contains (k:Int))=true:=λh=>by grind
   have iP:((0:Int)<=0/\0<=(first.length:Int)/\(first.length:Int)<=(first.length:Int))=True:=by simp
   have kW:List.take first.length first=first:=List.take_length
   have lT:(0<Add.add 0 1/\b9 (Add.add first.length (Add.add 0 1))):=⟨by decide,by show b9 (first.length+1);unfold b9;omega⟩
   have ir:(first.contains (k:Int)||decide (tq (mf s (first.length:Int)) (nz s (k:Int))=0))=!BL s first k:=by unfold BL;simp
   have jR:first.contains (k:Int)=first.contains (k:Int):=rfl
   simp only[Option.isSome_some,Option.getD_some,gu,cH tt,BI,aqy,aqx,and_true,true_and,and_self,imp_self,implies_true,A.bn,A.bt eB,ir,iP,kW];rw[A.bt (by omega)];obtain⟨t,aL⟩:=aqt s e n first (show k+1<=s.2.2.1.length by omega)
   cases au:BL s first k with
   | false=>
    simp only[Bool.not_false,if_true,A.aF,A.b2,A.d_,cn,mK];show _=_;rw[Jf,au];simp
   | true=>
    rw[Jf,au,if_pos rfl]at aL;simp only[Bool.not_true,Bool.false_eq_true,if_false,A.fY];have EJ:Qf f (some (db s),first++[(k:Int)],e,l,(l,L,a++mh s e n first k,false),()) s n (a++mh s e n first k) (t++z++b):=by
     refine⟨⟨rfl,ae⟩,by grind,by omega,rfl,rfl,?_,rfl⟩;grind
    refine⟨⟨s,n,_,_,EJ⟩,λy aR=>?_⟩;obtain⟨rn,⟨Z_,Z',Qg,ys⟩,aqz⟩:=y;obtain⟨df,dJ,mX,r4⟩:=aR;change Z_=l at df;change Z'=L at dJ;subst df;subst dJ;cases rn with
    | false=>
     have a6:ys=true:=r4 rfl;subst a6;simp only[Bool.not_false,if_true,A.aF,A.d_,A.pS];simp
    | true=>
     obtain⟨bM,dt⟩:=mX rfl;change ys=false at bM;change Qg=(a++mh s e n first k)++ks s e (s.2.2.2.1.length - (first++[(k:Int)]).length) (first++[(k:Int)]) at dt;have vI:s.2.2.2.1.length - (first++[(k:Int)]).length=n:=by grind
     rw[vI]at dt;subst bM;subst dt;simp only[Bool.not_true,Bool.false_eq_true,if_false,A.aF,A.d_,A.b2,cn,mK];show _=_;rw[Jf,au,if_pos rfl];simp
  ·rintro q rfl;have kW:List.take first.length first=first:=List.take_length
   have iP:((0:Int)<=0/\0<=(first.length:Int)/\(first.length:Int)=(first.length:Int)/\(first.length:Int)<=(first.length:Int))=True:=by simp
   have lT:(0<Add.add 0 1/\b9 (Add.add first.length (Add.add 0 1))):=⟨by decide,by show b9 (first.length+1);unfold b9;omega⟩
   simp only[Int.lt_irrefl,decide_false,Bool.false_eq_true,if_false,A.aF,A.d_,A.b2,iP,kW,Int.toNat_natCast,and_true];by_cases he:e=0
   ·have zN:ks s e (n+1) first=mh s e n first s.2.2.1.length:=by
     show mh s e n first s.2.2.1.length++(if e=0 then [] else ks s e n (first++[-1]))=_
     grind
    simp only[he,decide_true,Bool.not_true,Bool.false_eq_true,if_false,false_imp_iff,A.bn,Bool.true_or,A.d_,Bool.true_eq_false,and_self,implies_true];grind
   ·have zN:ks s e (n+1) first=mh s e n first s.2.2.1.length++ks s e n (first++[-1]):=by
     show mh s e n first s.2.2.1.length++(if e=0 then [] else ks s e n (first++[-1]))=_
     grind
    simp only[he,decide_false,Bool.not_false,if_true,true_imp_iff,A.bn,Bool.false_or,and_self,implies_true];rw[A.bt (by simp),A.bt (by omega)];have EJ:Qf f (some (db s),first++[-1],e,l,(l,L,a++mh s e n first s.2.2.1.length,false),()) s n (a++mh s e n first s.2.2.1.length) b:=by
     refine⟨⟨rfl,ae⟩,by grind,by omega,rfl,rfl,?_,rfl⟩;grind
    rw[A.fY];refine⟨⟨s,n,_,_,EJ⟩,λy aR=>A.d_.2 ?_⟩;obtain⟨rn,⟨Z_,Z',Qg,ys⟩,aqz⟩:=y;obtain⟨df,dJ,mX,r4⟩:=aR;refine⟨df,dJ,λh=>?_,r4⟩;obtain⟨bM,dt⟩:=mX h;change Qg=(a++mh s e n first s.2.2.1.length)++ks s e (s.2.2.2.1.length - (first++[(-1:Int)]).length) (first++[-1]) at dt;grind
theorem aqA(f:Nat)(x):A.le (Oy wH.sh (r8 f) o7.sh x) (r8 (f+1) x):=λh=>by
 obtain⟨o,first,e,l,⟨dE,L,p,st⟩,u⟩:=x;obtain⟨s,n,a,b,an⟩:=h;obtain⟨⟨ar,ae⟩,E,U,ag,a6,bM,dt⟩:=an;change o=_ at ar;change dE=l at ag;change st=false at a6;change p=a at dt;change L=_ at bM;change first.length+n=_ at E
 change _ at bM;subst ar;subst ag;subst a6;subst dt;have vI:(oq (some (db s))).2.2.2.1.length - first.length=n:=by show s.2.2.2.1.length - first.length=n;omega
 refine A.cu.mono (aqu ae E U bM) λy aR=>⟨aR.1,aR.2.1,λh=>?_,aR.2.2.2⟩
 obtain⟨aQ,aV⟩:=aR.2.2.1 h;refine⟨aQ,?_⟩;rw[aV];show _=p++ks (oq (some (db s))) e ((oq (some (db s))).2.2.2.1.length - first.length) first
 rw[vI];rfl
theorem aqB(x):¬(r8 0 x).b1:=λ⟨s,n,a,b,h⟩=>by have:=h.ch;omega
def lb(e:Int)(s:bI):List (z1'):=ks s e s.2.2.2.1.length []
def y0(o:Option dv):Prop:=∃ s,wM o s
def Jg(o:Option dv):List (z1'):=lb 1 (oq o)
def Qh(o:Option dv):List (z1'):=lb 0 (oq o)
theorem aqC(s:bI)(ae:me s)(l:Nat):A.cu (Ib (r8 10) (some (db s),l,(l,(λT=>T=lb 1 s),[],false),())) λy=>y.1.1=l/\y.1.2.1=(λT=>T=lb 1 s)/\(y.1.2.2.2=false->y.1.2.2.1=lb 1 s):=by
 unfold Ib;rw[A.fY];have BH:=ae.tr;refine⟨⟨s,s.2.2.2.1.length,[],[],⟨rfl,ae⟩,by simp,by omega,rfl,rfl,by show (λT=>T=lb 1 s)=_;simp[lb],rfl⟩,λy aR=>A.d_.2 ?_⟩;obtain⟨df,dJ,mX,r4⟩:=aR;refine⟨df,dJ,λh=>?_⟩;cases E:y.1 with
 | false=>grind
 | true=>
  obtain⟨_,ag⟩:=mX E;show y.2.1.2.2.1=_;rw[ag];rfl
theorem aqD(s:bI)(ae:me s)(l:Nat):A.cu (Ic (r8 10) (some (db s),l,(l,(λT=>T=lb 0 s),[],false),())) λy=>y.1.1=l/\y.1.2.1=(λT=>T=lb 0 s)/\(y.1.2.2.2=false->y.1.2.2.1=lb 0 s):=by
 unfold Ic;rw[A.fY];have BH:=ae.tr;refine⟨⟨s,s.2.2.2.1.length,[],[],⟨rfl,ae⟩,by simp,by omega,rfl,rfl,by show (λT=>T=lb 0 s)=_;simp[lb],rfl⟩,λy aR=>A.d_.2 ?_⟩;obtain⟨df,dJ,mX,r4⟩:=aR;refine⟨df,dJ,λh=>?_⟩;cases E:y.1 with
 | false=>grind
 | true=>
  obtain⟨_,ag⟩:=mX E;show y.2.1.2.2.1=_;rw[ag];rfl
theorem Qi{D ak:Type}{body:D->ak->A (di×D)}(g:D->ak->D)(I:D->Prop):∀ (l:List ak) (s:D),I s->(∀ x∈l,∀ s,I s->body s x=A.pure (di.normal,g s x)/\I (g s x))->jQ body l s=A.pure (di.normal,l.foldl g s)
 | [],s,_,_=>rfl
 | x::l,s,ez,h=>by
  obtain⟨E,U⟩:=h x (by simp) s ez;unfold jQ;rw[E,A.aF];exact Qi g I l (g s x) U λy aR=>h y (List.mem_cons_of_mem _ aR)
theorem Qj{s:bI}{e:Int}:∀ {n:Nat} {first y:z1'},y∈ks s e n first->y.length=first.length+n/\∀ p∈y,p∈first\/p=-1\/(0<=p/\p<(s.2.2.1.length:Int))
 | 0,first,y,h=>by
  simp only[ks,List.mem_singleton]at h;grind
 | n+1,first,y,h=>by
  simp only[ks,List.mem_append,List.mem_flatMap,List.mem_range]at h;rcases h with⟨p,an,h⟩ | h
  ·split at h
   ·obtain⟨E,U⟩:=Qj h;grind
   grind
  ·split at h
   ·cases h
   ·obtain⟨E,U⟩:=Qj h;grind
theorem Jh{s:bI}{e:Int}{y:z1'}(h:y∈lb e s):y.length=s.2.2.2.1.length/\nA s y:=by
 obtain⟨E,U⟩:=Qj h;have E:y.length=s.2.2.2.1.length:=by grind
 refine⟨E,by omega,λp an=>?_⟩;grind
theorem aqE(s:bI):nA s (List.replicate s.2.2.2.1.length (-1)):=⟨by simp,λp an=>by grind⟩
def tv(s:bI)(b y:z1'):z1':=if (decide (pg s y > pg s b)&&qb s y)=true then y else b
def u6(s:bI):z1':=(lb 1 s).foldl (tv s) (List.replicate s.2.2.2.1.length (-1))
theorem aaa{s:bI}:∀ (l:List (z1')) (b:z1'),(∀ y∈l,y.length=s.2.2.2.1.length/\nA s y)->(b.length=s.2.2.2.1.length/\nA s b)->((l.foldl (tv s) b).length=s.2.2.2.1.length/\nA s (l.foldl (tv s) b))
 | [],b,_,W=>W
 | y::l,b,ai,W=>by
  rw[List.foldl_cons];refine aaa l _ (λz bj=>ai z (List.mem_cons_of_mem _ bj)) ?_;unfold tv;grind
theorem aab(s:bI):(u6 s).length=s.2.2.2.1.length/\nA s (u6 s):=aaa _ _ (λ_ h=>Jh h) ⟨by simp,aqE s⟩
abbrev Qk:aM:=⟨wK,fO,λo=>∃ s,wM o s,λo=>u6 (oq o)⟩
theorem aqF(s:bI)(ae:me s):Ou I3.sh wP.sh tu.sh y0 Jg (some (db s))=A.pure (u6 s):=by
 unfold Ou;have BH:=ae.tr;have gu:(db s).1=s:=rfl;have gO:y0 (some (db s)):=⟨s,rfl,ae⟩
 have Ql:Jg (some (db s))=lb 1 s:=rfl;simp only[Option.isSome_some,Option.getD_some,A.bn,bW,gu,aM.sh,A.dG,Ql];rw[A.bt (by grind),A.bt gO];simp only[Int.toNat_natCast];rw[Qi (λ(b:Option dv×z1'×Unit) (y:z1')=>(some (db s),tv s b.2.1 y,())) (λb=>b.1=some (db s)/\b.2.1.length=s.2.2.2.1.length) (lb 1 s) (some (db s),List.replicate s.2.2.2.1.length (-1),()) ⟨rfl,by simp⟩ ?_]
 ·have ar:∀ (l:List (z1')) (b:z1'),l.foldl (λ(b:Option dv×z1'×Unit) (y:z1')=>(some (db s),tv s b.2.1 y,())) (some (db s),b,())=(some (db s),l.foldl (tv s) b,()):=by
   intro l;induction l with
   | nil=>simp
   | cons y l aH=>grind
  rw[ar,A.aF];rfl
 ·intro y aR b W;obtain⟨dr,eb,aqG⟩:=b;obtain⟨mB,rs⟩:=W;change dr=_ at mB;change eb.length=_ at rs;subst mB;obtain⟨xY,sM⟩:=Jh aR;have jM:tu.pre (some (db s),y):=⟨s,⟨rfl,ae⟩,by grind⟩
  have qx:tu.pre (some (db s),eb):=⟨s,⟨rfl,ae⟩,by grind⟩
  have mx:wP.pre (some (db s),y):=⟨s,⟨rfl,ae⟩,sM⟩
  have ax:tu.g (some (db s),y)=pg s y:=rfl;have aO:tu.g (some (db s),eb)=pg s eb:=rfl;have cv:wP.g (some (db s),y)=qb s y:=rfl;refine⟨?_,rfl,?_⟩
  ·simp only[A.od,A.gQ,A.bt jM,A.bt qx,ax,aO,cv,mx,and_true,true_and,and_self,imp_self,implies_true,A.bn,tv];have df:∀ c:Prop,(c->c/\(∃ nB,wM (some (db s)) nB/\nA nB y)):=λc h=>⟨h,mx⟩
   rw[A.bt (df _)];have ax:oq (some (db s))=s:=rfl;simp only[ax];cases hc:(decide (pg s y > pg s eb)&&qb s y)<;>simp
  ·show (tv s eb y).length=_;unfold tv;grind
theorem aqH(x):A.le (Ou I3.sh wP.sh tu.sh y0 Jg x) (Qk.sh x):=A.bu λh=>by
 obtain⟨s,ar,ae⟩:=h;subst ar;exact aqF s ae
theorem Ji{s:bI}{cb:Bool}(h:la s cb=0):yV s cb=(some (db s),0):=by simp[yV,h]
theorem Jj{s:bI}{cb:Bool}(h:la s cb≠0):yV s cb=(none,la s cb):=by simp[yV,h]
def ph(s:bI)(cb:Bool):Int×Int:=if la s cb≠0 then (0,la s cb) else (pg s (u6 s),0)
abbrev Qm:aM:=⟨.az mc dj,.az bq bq,λx=>fE x.1,λx=>ph x.1 x.2⟩
theorem aqI(x):A.le (V2 BF.sh Qk.sh tu.sh x) (Qm.sh x):=A.bu λh=>by
 unfold V2;show _=A.pure (ph x.1 x.2);unfold ph;simp only[aM.sh,A.dG];rw[A.bt (by exact h)];by_cases al:la x.1 x.2=0
 ·have ae:=BE h (BD al).1;simp only[Ji al,al,ne_eq,not_true,decide_false,Bool.false_eq_true,if_false];rw[A.bt (by exact⟨x.1,rfl,ae⟩),A.bt (by exact⟨x.1,⟨rfl,ae⟩,Nat.le_of_eq (aab x.1).1⟩)];rfl
 ·simp[Jj al,al]
abbrev y1:aM:=⟨mc,.az bq bq,fE,λs=>ph s true⟩
theorem aqJ(x):A.le (VV Qm.sh x) (y1.sh x):=A.bu λh=>by
 unfold VV;simp only[aM.sh,A.dG];simp_all
def u7(s:bI)(n:Int)(y:z1'):Int:=if (!(jC s y).2||!Fj (db s) (jC s y).1)=true then n else if (decide (n=-1)||decide (wO (db s) (jC s y).1<n))=true then wO (db s) (jC s y).1 else n
def u9(s:bI):Int:=(lb 0 s).foldl (u7 s) (-1)
def qc(s:bI):Int×Int:=if la s true≠0 then (0,la s true) else if u9 s=-1 then (0,3) else (u9 s,0)
abbrev y2:aM:=⟨mc,.az bq bq,fE,qc⟩
theorem aqK(x):A.le (VW BF.sh y0 Qh Ja.sh Qa.sh Je.sh x) (y2.sh x):=A.bu λh=>by
 unfold VW;show _=A.pure (qc x);unfold qc;simp only[aM.sh,A.dG];rw[A.bt (by exact h)];by_cases al:la x true=0
 ·have ae:=BE h (BD al).1;have gO:y0 (some (db x)):=⟨x,rfl,ae⟩
  have Ql:Qh (some (db x))=lb 0 x:=rfl;simp only[Ji al,al,ne_eq,not_true,decide_false,Bool.false_eq_true,if_false,Ql];rw[A.bt gO];rw[Qi (λ(b:Option dv×Int×Unit) (y:z1')=>(some (db x),u7 x b.2.1 y,())) (λb=>b.1=some (db x)) (lb 0 x) (some (db x),-1,()) rfl ?_]
  ·have ar:∀ (l:List (z1')) (b:Int),l.foldl (λ(b:Option dv×Int×Unit) (y:z1')=>(some (db x),u7 x b.2.1 y,())) (some (db x),b,())=(some (db x),l.foldl (u7 x) b,()):=by
    intro l;induction l with
    | nil=>simp
    | cons y l aH=>grind
   rw[ar,A.aF];show (if decide (u9 x=-1)=true then A.pure ((0:Int),(3:Int)) else A.pure (u9 x,0))=_;grind
  ·intro y aR b W;obtain⟨dr,eb,aqG⟩:=b;change dr=_ at W;subst W;obtain⟨xY,sM⟩:=Jh aR;refine⟨?_,rfl⟩;have Ax:=Qd ae sM;have jM:∃ nB,wM (some (db x)) nB/\nA nB y:=⟨x,⟨rfl,ae⟩,sM⟩
   have fj:(db x).1.2.1.length<2 ^ 63:=h.2.1;have qx:∃ t,some (db x)=some t/\t.1.2.1.length<2 ^ 63/\(jC x y).1.length<2 ^ 63:=⟨_,rfl,fj,by omega⟩
   have mx:∃ t,some (db x)=some t/\t.2.1.length<=200/\(jC x y).1.length<=1000:=⟨_,rfl,Z7 ae,by omega⟩
   have ax:oq (some (db x))=x:=rfl;have aO:Option.getD (some (db x)) yW=db x:=rfl;simp only[A.jd,A.dG,ax,aO];rw[A.bt jM];simp only[qx,implies_true,A.bn];rw[A.bt (by exact mx)];show _=A.pure (di.normal,some (db x),u7 x eb y,());unfold u7;cases E:(jC x y).2
   ·simp
   ·cases U:Fj (db x) (jC x y).1
    ·simp
    ·simp only[Bool.not_true,Bool.not_false,if_true,Bool.or_self,Bool.false_eq_true,if_false];cases ag:(decide (eb=-1)||decide (wO (db x) (jC x y).1<eb))<;>simp
 ·simp[Jj al,al]
def nC(s:bI)(w p:Int):z1':=(List.replicate s.2.2.2.1.length (-1)).set w.toNat p
def Qn(s:bI)(w:Int):z1':=((List.range s.2.2.1.length).filter λ(p:Nat)=>qb s (nC s w (p:Int))).map λ(p:Nat)=>(p:Int)
def ou(s:bI)(w:Int):z1'×Int:=if la s (yT s w)≠0 then ([],la s (yT s w)) else (Qn s w,0)
abbrev y3:aM:=⟨.az mc bq,.az fO bq,λx=>fE x.1,λx=>ou x.1 x.2⟩
theorem aac{ak β:Type}{p:ak->Bool}{g:ak->β}:∀ (l:List ak) (b:List β),l.foldl (λb x=>if p x=true then b++[g x] else b) b=b++(l.filter p).map g
 | [],b=>by simp
 | x::l,b=>by
  simp only[List.foldl_cons,List.filter_cons];rw[aac l];grind
theorem aqL{s:bI}{w:Int}{p:Nat}(an:p<s.2.2.1.length):nA s (nC s w (p:Int)):=by
 refine⟨by simp[nC],λq bp=>?_⟩;unfold nC at bp;grind
theorem aqM(x):A.le (VX BF.sh PU.sh wG wP.sh x) (y3.sh x):=A.bu λh=>by
 obtain⟨s,w⟩:=x;change fE s at h;unfold VX;show _=A.pure (ou s w);unfold ou;simp only[aM.sh,A.od,A.gQ];rw[A.bt (by exact h),A.bt (by exact h)];by_cases al:la s (yT s w)=0
 ·have ae:=BE h (BD al).1;have hw:=apH.1 (BD al).2.1;have BH:=ae.tr;have aqv:=ae.Fc;simp only[Ji al,al,ne_eq,not_true,decide_false,Bool.false_eq_true,if_false];unfold wG;simp only[A.dG,bW];rw[A.bt (by grind)];simp only[Int.toNat_natCast];rw[A.gv (List.range s.2.2.1.length) (λi (b:z1'×z1')=>(w,some (db s),(s.2.2.1.length:Int),(i:Int),b.1,b.2,())) (λ(p:Nat) b=>.next (if qb s (nC s w (p:Int))=true then b.1++[(p:Int)] else b.1,nC s w (p:Int))) (λb=>.next (b.1,())) (λi b=>b.1.length<=i/\∀ p,b.2.set w.toNat p=nC s w p) ([],List.replicate s.2.2.2.1.length (-1)) ?_ ?_ ?_ ?_]
  ·rw[fr];have ar:∀ (l:List Nat) (b:z1'×z1'),(l.foldl (λb (p:Nat)=>(if qb s (nC s w (p:Int))=true then b.1++[(p:Int)] else b.1,nC s w (p:Int))) b).1=l.foldl (λb (p:Nat)=>if qb s (nC s w (p:Int))=true then b++[(p:Int)] else b) b.1:=by
    intro l;induction l with
    | nil=>simp
    | cons p l aH=>grind
   rw[ar,aac,A.aF,A.b2];rfl
  ·rfl
  ·exact⟨Nat.le_refl _,λp=>rfl⟩
  ·intro i G b W;have G:i<s.2.2.1.length:=by grind
   have lE:=bF (n:=(i:Int)+1) (by omega) (by omega);obtain⟨dr,eb⟩:=b;obtain⟨mB,rs⟩:=W;change dr.length<=i at mB;change ∀ p,eb.set w.toNat p=nC s w p at rs;have lT:b9 (dr.length+(0+1)):=by unfold b9;omega
   have hlen:eb.length=s.2.2.2.1.length:=by
    have:=congrArg List.length (rs 0);simpa [nC]using this
   have x4:0<=w/\w<(eb.length:Int):=by omega
   rw[List.getElem_range];refine⟨?_,λbd dd=>?_⟩
   ·simp only[cX G,if_true,x4,and_self,A.bn,A.dG,rs];rw[A.bt (by exact⟨s,⟨rfl,ae⟩,aqL G⟩)];have ax:oq (some (db s))=s:=rfl;simp only[ax,cn,gY,A.bt lT];cases qb s (nC s w (i:Int))<;>simp[V.ho,lE]
   ·cases dd;refine⟨?_,λp=>?_⟩
    ·grind
    ·show (nC s w (i:Int)).set w.toNat p=nC s w p;unfold nC;simp
  simp
 ·simp[Jj al,al]
def BM(s:bI)(cx:z1'):Int×Int:=if la s (wJ s cx)≠0 then (0,la s (wJ s cx)) else if (!qb s cx)=true then (0,3) else (pg s cx,0)
abbrev Jk:aM:=⟨.az mc fO,.az bq bq,λx=>fE x.1/\x.2.length<2 ^ 63,λx=>BM x.1 x.2⟩
theorem aqN{s:bI}{cx:z1'}(h:wJ s cx=true):cx.length=s.2.2.2.1.length/\nA s cx:=by
 unfold wJ at h;simp only[Bool.and_eq_true,List.all_eq_true,List.mem_range,decide_eq_true_eq]at h;obtain⟨E,U⟩:=h;refine⟨by omega,by omega,λp an=>?_⟩;obtain⟨i,G,rfl⟩:=List.mem_iff_getElem.1 an;have:=E i G;have jx:cx.getD i 0=cx[i]:=by grind
 unfold wI at this;simp only[jx,Bool.or_eq_true,decide_eq_true_eq,Bool.and_eq_true,apI]at this;omega
theorem aqO(x):A.le (V1 BF.sh wP.sh I6.sh tu.sh x) (Jk.sh x):=A.bu λh=>by
 obtain⟨s,cx⟩:=x;obtain⟨aD,ai⟩:=h;unfold V1;show _=A.pure (BM s cx);unfold BM;simp only[aM.sh,A.od,A.gQ];have an:I6.pre (s,cx):=⟨aD,ai⟩
 rw[A.bt (by exact an),A.bt (by exact aD)];by_cases al:la s (wJ s cx)=0
 ·have ae:=BE aD (BD al).1;obtain⟨aqP,x0⟩:=aqN (BD al).2.1;simp only[Ji al,al,ne_eq,not_true,decide_false,Bool.false_eq_true,if_false,A.dG];rw[A.bt (by exact⟨s,⟨rfl,ae⟩,x0⟩)];have ax:oq (some (db s))=s:=rfl;simp only[ax];cases ar:qb s cx with
  | false=>simp
  | true=>
   simp only[Bool.not_true,Bool.false_eq_true,if_false];rw[A.bt (by exact⟨s,⟨rfl,ae⟩,Nat.le_of_eq aqP⟩)]
 ·simp[Jj al,al]
def Fk(s:bI):Prop:=ao9 s.1/\s.2.1.length<=2000000/\s.2.2.1.length<=2000000/\s.2.2.2.1.length<=2000000/\s.2.2.2.2.1.length<=2000000/\(∀ p∈s.2.2.1,p.2.2.2.2.length<=2000000)/\∀ x∈s.2.2.2.1,x.1.length<=2000000
theorem aqQ{s:bI}(ae:me s):Fk s:=by
 have aoS:=E0 ae.ti.2;refine⟨⟨by omega,by omega,by omega,λm hm=>?_⟩,by have:=ae.Fb;omega,by have:=ae.Fc;omega,by have:=ae.tr;omega,by have:=ae.PW;omega,λp an=>by have:=(PZ ae an).2.1;omega,λx ah=>?_⟩
 ·have kY:=(Bx ae.ti.2).2.2.1 m hm;simp only[q3,Bool.and_eq_true,Bool.not_eq_true',decide_eq_false_iff_not,List.all_eq_true]at kY;refine⟨by omega,λs' su=>?_⟩;have:=kY.2 s' su;simp only[p5,Bool.and_eq_true,decide_eq_true_eq]at this;omega
 ·have:=ae.ZN x ah;simp only[pc,bZ,Bool.and_eq_true,decide_eq_true_eq]at this;omega
def aad(s:bI):Int:=(s.2.2.1.map λp=>(p.2.2.2.2.length:Int)).foldl (·+·) 0
def u_(s:bI):Bool:=
 if (ma s.1||decide ((s.2.1.length:Int) > 40)||decide ((s.2.2.1.length:Int) > 40)||decide ((s.2.2.2.1.length:Int) > 40)||decide ((s.2.2.2.2.1.length:Int) > 40))=true then true
 else if (s.2.2.1.any λp=>decide ((p.2.2.2.2.length:Int) > 40))=true then true
 else if (s.2.2.2.1.any λx=>decide ((x.1.length:Int) > 40))=true then true
 else if ji s≠0 then false
 else decide ((s.2.2.2.1.length:Int) > 3)||decide ((s.2.2.1.length:Int) > 4)||decide ((s.2.2.2.2.1.length:Int) > 3)||decide (aad s > 4)
abbrev Jl:aM:=⟨mc,dj,fE,u_⟩
theorem aqR(x):A.le (Zg p_.sh wu.sh x) (Jl.sh x):=A.bu λh=>by
 change fE x at h;unfold Zg;show _=A.pure (u_ x);unfold u_;simp only[aM.sh,A.dG,bW];rw[A.bt (by exact h.1)];obtain⟨g1,eh,g3,g4,g5,g6,g7⟩:=id h;by_cases E:(ma x.1||decide ((x.2.1.length:Int) > 40)||decide ((x.2.2.1.length:Int) > 40)||decide ((x.2.2.2.1.length:Int) > 40)||decide ((x.2.2.2.2.1.length:Int) > 40))=true
 ·grind
 ·rw[if_neg E,if_neg E];simp only[Bool.or_eq_true,decide_eq_true_eq,not_or]at E;rw[A.et x.2.2.1 (λi (_:Unit)=>((i:Int),x,())) (λp u=>if decide ((p.2.2.2.2.length:Int) > 40)=true then .done (.done true) else .next u) (λ_=>.next (x,())) () ?_ ?_ ?_]
  ·rw[rU (p:=λp:dx=>decide ((p.2.2.2.2.length:Int) > 40))];by_cases U:(x.2.2.1.any λp=>decide ((p.2.2.2.2.length:Int) > 40))=true
   ·simp only[U,if_true,A.aF,A.pS]
   ·simp only[U,Bool.false_eq_true,if_false,A.aF,A.b2];rw[A.et x.2.2.2.1 (λi (_:Unit)=>((i:Int),x,())) (λp u=>if decide ((p.1.length:Int) > 40)=true then .done (.done true) else .next u) (λ_=>.next (x,())) () ?_ ?_ ?_]
    ·rw[rU (p:=λp:dL=>decide ((p.1.length:Int) > 40))];by_cases ag:(x.2.2.2.1.any λx=>decide ((x.1.length:Int) > 40))=true
     ·simp only[ag,if_true,A.aF,A.pS]
     ·simp only[ag,Bool.false_eq_true,if_false,A.aF,A.b2];rw[A.bt (by exact h)];by_cases he:ji x=0
      ·simp only[he,ne_eq,not_true,decide_false,Bool.false_eq_true,if_false];have W:∀ p∈x.2.2.1,p.2.2.2.2.length<=40:=λp an=>by
        grind
       rw[A.gv x.2.2.1 (λi (n:Int)=>(n,(i:Int),x,())) (λp n=>.next (n+(p.2.2.2.2.length:Int))) (λn=>.next (n,x,())) (λi n=>0<=n/\n<=40*i) 0 ?_ ?_ ?_ ?_]
       ·rw[fr,A.aF,A.b2];unfold aad;rw[List.foldl_map]
       ·rfl
       ·simp
       ·intro i G n au;have lE:=bF (n:=(i:Int)+1) (by omega) (by omega);have ay5:=W _ (List.getElem_mem G);have BB:=bF (n:=n+(x.2.2.1[i].2.2.2.2.length:Int)) (by omega) (by omega);refine⟨?_,λbd dd=>?_⟩
        ·simp only[cX G,if_true,cH G,A.bn,dk G,cn,lE,BB];rfl
        grind
       simp
      grind
    ·rfl
    ·intro i G u;have lE:=bF (n:=(i:Int)+1) (by omega) (by omega);simp only[cX G,if_true,cH G,A.bn,dk G,A.aF,cn,lE];exact nj (mk:=λ_:Unit=>((i:Int)+1,x,()))
    simp
  ·rfl
  ·intro i G u;have lE:=bF (n:=(i:Int)+1) (by omega) (by omega);simp only[cX G,if_true,cH G,A.bn,dk G,A.aF,cn,lE];exact nj (mk:=λ_:Unit=>((i:Int)+1,x,()))
  simp
def BN:bI:=(IW,[1,0,0,0],[(1,60,0,0,[0]),(1,60,7,0,[]),(2,65,0,1,[0]),(2,60,0,0,[0,1])],[([1],(55,65),7,3,500),([1,2],(60,60),0,5,400),([2],(60,70),9,8,700),([2],(65,65),0,5,300)],[(4,2,1),(6,3,1)],2)
abbrev Jm:aM:=⟨.cS,mc,λ_=>True,λ_=>BN⟩
theorem aqS(x):A.le (Zh PQ.sh x) (Jm.sh x):=A.bu λ_=>by
 unfold Zh;simp only[aM.sh,A.dG,A.bn];rfl
theorem aqT:fE BN:=by
 refine⟨apb,by decide,by decide,by decide,by decide,?_,?_⟩
 ·intro p an;simp only[BN,List.mem_cons,List.not_mem_nil,or_false]at an;grind
 ·intro x ah;simp only[BN,List.mem_cons,List.not_mem_nil,or_false]at ah;grind
end Go.Fer
namespace Go.Fer.H
open A (V)
def aae(AX:a1->A Int)(OF:List a7->A (List a7×Bool))(aqU:List (List a7)->A (List a7))(aqV:List (z1')×Unit->A (z1'×Unit))(OH:z1'×Unit->A (z1'×Unit))(aqW:z1'×Unit->A ((Nat×Nat)×z1'×Unit))(Jn:z4'->A (z4'))(x:a1×List a7×z1'):A (a1×Int):=
 letI a:=x.1.2.2.2;A.bind (AX x.1) λy=>if decide (y≠0)=true then A.pure (([],[],[],[],0,0,0,0,0,0,0),y) else A.bind (AX (x.1.1,x.2.1,x.2.2,a)) λy=>if decide (y≠0)=true then A.pure (([],[],[],[],0,0,0,0,0,0,0),y) else A.bind (aqU [x.1.2.1,x.2.1]) λy=>A.bind (OF y) λy=>if (!y.2)=true then A.pure (([],[],[],[],0,0,0,0,0,0,0),91) else A.bind (aqV ([x.1.2.2.1,x.2.2],())) λb3=>A.bind (OH (b3.1,())) λdK=>A.bind (aqW (dK.1,())) λga=>if (decide (Int.ofNat (List.length y.1) > 12)||decide (Int.ofNat (ga.1.2-ga.1.1) > 12))=true then A.pure (([],[],[],[],0,0,0,0,0,0,0),90) else A.ad (Jn x.1.1).b1 (A.ad (Jn a.1).b1 (A.pure ((A.val (Jn x.1.1) [],y.1,List.drop ga.1.1 (List.take ga.1.2 ga.2.1),A.val (Jn a.1) [],a.2),0)))
def aaf(aqX:Int×Unit->A (List a7×Unit))(x:List (List a7)):A (List a7):=
 A.bind (A.loop (λ(D:List (List a7)×Int×List (List a7)×Int×Int×Unit)=>letI d:=D.2.2;letI b:=d.2.2.1;letI a:=IntKind.wrap .i64 (Add.add D.2.1 (Int.ofNat (List.length (List.getD d.1 (Int.toNat b) []))));if decide (b<d.2.1)=true then A.bind (A.ad (0<=b/\b<Int.ofNat (List.length d.1)) (if decide (a<0)=true then A.ad False (A.ad False (A.pure (V.next (D.1,a,d.1,d.2.1,b,())))) else A.pure (V.next (D.1,a,d.1,d.2.1,b,())))) (V.bD (λ(D:List (List a7)×Int×List (List a7)×Int×Int×Unit)=>A.pure (V.next (D.1,D.2.1,D.2.2.1,D.2.2.2.1,IntKind.wrap .i64 (Add.add D.2.2.2.2.1 1),())))) else A.bind (A.pure (V.next (D.1,D.2.1,()))) λr=>A.pure (V.done r)) (x,0,x,Int.ofNat (List.length x),0,())) (V.bD (λ(D:List (List a7)×Int×Unit)=>A.bind (aqX (D.2.1,())) λy=>A.bind (A.loop (λ(D:List (List a7)×Int×Int×List a7×Unit)=>letI e:=D.2.2;letI c:=List.getD D.1 (Int.toNat e.1) [];if decide (e.1<D.2.1)=true then A.ad (0<=e.1/\e.1<Int.ofNat (List.length D.1)) (A.ad (b9 (Add.add (List.length e.2.1) (List.length c))) (A.pure (V.next (D.1,D.2.1,IntKind.wrap .i64 (Add.add e.1 1),e.2.1++c,())))) else A.bind (A.pure (V.next (e.2.1,()))) λr=>A.pure (V.done r)) (D.1,Int.ofNat (List.length D.1),0,y.1,())) (V.bD (λ(D:List a7×Unit)=>A.pure D.1))))
def aag(aqY:Int×Unit->A (z1'×Unit))(x:List (z1')×Unit):A (z1'×Unit):=
 A.bind (A.loop (λ(D:List (z1')×Int×List (z1')×Int×Int×Unit)=>letI d:=D.2.2;letI b:=d.2.2.1;letI a:=IntKind.wrap .i64 (Add.add D.2.1 (Int.ofNat (List.length (List.getD d.1 (Int.toNat b) []))));if decide (b<d.2.1)=true then A.bind (A.ad (0<=b/\b<Int.ofNat (List.length d.1)) (if decide (a<0)=true then A.ad False (A.ad False (A.pure (V.next (D.1,a,d.1,d.2.1,b,())))) else A.pure (V.next (D.1,a,d.1,d.2.1,b,())))) (V.bD (λ(D:List (z1')×Int×List (z1')×Int×Int×Unit)=>A.pure (V.next (D.1,D.2.1,D.2.2.1,D.2.2.2.1,IntKind.wrap .i64 (Add.add D.2.2.2.2.1 1),())))) else A.bind (A.pure (V.next (D.1,D.2.1,()))) λr=>A.pure (V.done r)) (x.1,0,x.1,Int.ofNat (List.length x.1),0,())) (V.bD (λ(D:List (z1')×Int×Unit)=>A.bind (aqY (D.2.1,())) λy=>A.bind (A.loop (λ(D:List (z1')×Int×Int×z1'×Unit)=>letI e:=D.2.2;letI c:=List.getD D.1 (Int.toNat e.1) [];if decide (e.1<D.2.1)=true then A.ad (0<=e.1/\e.1<Int.ofNat (List.length D.1)) (A.ad (b9 (Add.add (List.length e.2.1) (List.length c))) (A.pure (V.next (D.1,D.2.1,IntKind.wrap .i64 (Add.add e.1 1),e.2.1++c,())))) else A.bind (A.pure (V.next (e.2.1,()))) λr=>A.pure (V.done r)) (D.1,Int.ofNat (List.length D.1),0,y.1,())) (V.bD (λ(D:z1'×Unit)=>A.pure (D.1,())))))
def aqZ(x:z1'×Unit):A ((Nat×Nat)×z1'×Unit):=
 if decide (Int.ofNat (List.length x.1)<2)=true then A.pure ((0,List.length x.1),x.1,()) else A.bind (A.loop (λ(D:Int×z1'×Unit)=>letI l:=D.1;letI j:=D.2.1;letI g:=IntKind.wrap .i64 (l-1);letI b:=Int.ofNat (List.length j);if decide (l<b)=true then A.bind (A.ad (0<=l/\l<b) (A.ad (0<=g/\g<b) (if decide (List.getD j (Int.toNat l) 0=List.getD j (Int.toNat g) 0)=true then A.ad (0<=l/\l<=b/\b<=b) (A.bind (A.loop (λ(D:Int×(Nat×Nat)×Int×z1'×Unit)=>letI k:=D.2.1;letI e:=D.2.2;letI i:=IntKind.wrap .i64 (e.1-1);letI h:=List.getD e.2.1 (Add.add k.1 (Int.toNat e.1)) 0;letI d:=Int.ofNat (k.2-k.1);if decide (e.1<d)=true then A.bind (A.ad (0<=e.1/\e.1<d) (A.ad (0<=i/\i<d) (if decide (h≠List.getD e.2.1 (Add.add k.1 (Int.toNat i)) 0)=true then A.ad (0<=e.1/\e.1<d) (A.ad (0<=D.1/\D.1<Int.ofNat (List.length e.2.1)) (A.pure (V.next (IntKind.wrap .i64 (Add.add D.1 1),k,e.1,List.set e.2.1 (Int.toNat D.1) h,())))) else A.pure (V.next (D.1,k,e.1,e.2.1,()))))) (V.bD (λ(D:Int×(Nat×Nat)×Int×z1'×Unit)=>A.pure (V.next (D.1,D.2.1,IntKind.wrap .i64 (Add.add D.2.2.1 1),D.2.2.2.1,())))) else A.bind (A.pure (V.next (D.1,e.2.1,()))) λr=>A.pure (V.done r)) (l,(Int.toNat l,Int.toNat b),1,j,())) (V.bD (λ(D:Int×z1'×Unit)=>letI f:=Int.toNat D.1;letI c:=Int.ofNat (List.length D.2.1);letI a:=List.take f D.2.1++List.replicate (Int.toNat c-f) 0++List.drop (Add.add f (List.length (List.replicate (Int.toNat c-f) (0:Int)))) D.2.1;A.ad (0<=D.1/\D.1<=c/\c<=c) (A.ad True (A.ad ((0:Int)<=0/\0<=D.1/\D.1<=Int.ofNat (List.length a)) (A.bind (A.bind (A.bind (A.pure ((Int.toNat 0,f),a,())) (λr=>A.pure (V.done r))) (λr=>A.pure (V.done r))) (λr=>A.pure (V.done r)))))))) else A.pure (V.next (l,j,()))))) (V.bD (λ(D:Int×z1'×Unit)=>A.pure (V.next (IntKind.wrap .i64 (Add.add D.1 1),D.2.1,())))) else A.bind (A.pure (V.next (j,()))) λr=>A.pure (V.done r)) (1,x.1,())) (V.bD (λ(D:z1'×Unit)=>A.pure ((0,List.length D.1),D.1,())))
def Jo(x:Int×Unit):A (z1'×Unit):=A.dP (0<=x.1/\x.1<60000) ([],())
def Jp(x:Int×Unit):A (List a7×Unit):=A.dP (0<=x.1/\x.1<60000) ([],())
section
variable {ak gA:Type}
def Jq(g:Int×Unit->A (List ak×Unit))(x:List (List ak))(k:List ak->A gA):A gA:=
 A.bind (A.loop (λ(D:List (List ak)×Int×List (List ak)×Int×Int×Unit)=>if decide (D.2.2.2.2.1<D.2.2.2.1)=true then A.bind (A.ad (0<=D.2.2.2.2.1/\
 D.2.2.2.2.1<Int.ofNat (List.length D.2.2.1)) (if decide (IntKind.wrap .i64 (Add.add D.2.1 (Int.ofNat (List.length (List.getD D.2.2.1 (Int.toNat D.2.2.2.2.1) [])))) <
 0)=true then A.ad False (A.ad False (A.pure (V.next (D.1,IntKind.wrap .i64 (Add.add D.2.1 (Int.ofNat (List.length (List.getD D.2.2.1 (Int.toNat D.2.2.2.2.1)
 [])))),D.2.2.1,D.2.2.2.1,D.2.2.2.2.1,())))) else A.pure (V.next (D.1,IntKind.wrap .i64 (Add.add D.2.1 (Int.ofNat (List.length (List.getD D.2.2.1 (Int.toNat
 D.2.2.2.2.1) [])))),D.2.2.1,D.2.2.2.1,D.2.2.2.2.1,())))) (V.bD λ(D:List (List ak)×Int×List (List ak)×Int×Int×Unit)=>A.pure (V.next (D.1,D.2.1,D.2.2.1,D.2.2.2.1,IntKind.wrap .i64 (Add.add D.2.2.2.2.1 1),()))) else A.bind (A.pure (V.next (D.1,D.2.1,()))) λr=>A.pure (V.done r)) (x,0,x,Int.ofNat
 (List.length x),0,())) (V.bD λ(D:List (List ak)×Int×Unit)=>A.bind (g (D.2.1,())) λy=>A.bind (A.loop (λ(D:List (List ak)×Int×Int×List ak×
 Unit)=>if decide (D.2.2.1<D.2.1)=true then A.ad (0<=D.2.2.1/\D.2.2.1<Int.ofNat (List.length D.1)) (A.ad (b9 (Add.add (List.length D.2.2.2.1) (List.length
 (List.getD D.1 (Int.toNat D.2.2.1) [])))) (A.pure (V.next (D.1,D.2.1,IntKind.wrap .i64 (Add.add D.2.2.1 1),D.2.2.2.1++List.getD D.1 (Int.toNat D.2.2.1) [],())))) else A.bind (A.pure (V.next (D.2.2.2.1,()))) λr=>A.pure (V.done r)) (D.1,Int.ofNat (List.length D.1),0,y.1,())) (V.bD λ(D:List ak×Unit)
 =>k D.1))
theorem aah:∀ (l:List (List ak)) (b:List ak),l.foldl (λb x=>b++x) b=b++l.flatten
 | [],b=>by simp
 | x::l,b=>by simp[aah l]
theorem aai(g:Int×Unit->A (List ak×Unit))(aB:∀ n,0<=n->n<60000->g (n,())=A.pure ([],()))(x:List (List ak))(k:List ak->A gA)(E:x.length<=2)(U:∀ l∈x,l.length<=40):Jq g x k=k x.flatten:=by
 unfold Jq;rw[A.gv x (λi (n:Int)=>(x,n,x,(x.length:Int),(i:Int),())) (λl n=>.next (n+(l.length:Int))) (λn=>.next (x,n,())) (λi n=>0<=n/\n<=40*(i:Int)) 0 ?_ ?_ ?_ ?_]
 ·rw[fr,A.aF,A.b2];have aD:∀ (l:List (List ak)) (n:Int),0<=n->(∀ y∈l,y.length<=40)->0<=l.foldl (λn y=>n+(y.length:Int)) n/\l.foldl (λn y=>n+(y.length:Int)) n<=n+40*(l.length:Int):=by
   intro l;induction l with
   | nil=>simp
   | cons y l aH=>
    grind
  obtain⟨dr,eb⟩:=aD x 0 (Int.le_refl _) U;rw[aB _ dr (by omega),A.aF];rw[A.gv x (λi (b:List ak)=>(x,(x.length:Int),(i:Int),b,())) (λl b=>.next (b++l)) (λb=>.next (b,())) (λi b=>b.length<=40*i) [] ?_ ?_ ?_ ?_]
  ·rw[fr,A.aF,A.b2,aah];rfl
  ·rfl
  ·simp
  ·intro i G b W;have hw:=bF (n:=(i:Int)+1) (by omega) (by omega);have ai:=U _ (List.getElem_mem G);refine⟨?_,λbd dd=>?_⟩
   ·simp only[bW,cX G,if_true,dk G,cH G,A.bn,cn,hw];rw[A.bt (fs (by grind))];rfl
   grind
  simp
 ·rfl
 ·omega
 ·intro i G n au;have hw:=bF (n:=(i:Int)+1) (by omega) (by omega);have ai:=U _ (List.getElem_mem G);have gX:=bF (n:=n+(x[i].length:Int)) (by omega) (by omega);have aq:decide (n+(x[i].length:Int)<0)=false:=by grind
  refine⟨?_,λbd dd=>?_⟩
  ·simp only[bW,cX G,if_true,dk G,cH G,A.bn,cn,hw,gX,aq,Bool.false_eq_true,if_false,A.aF,A.b2];rfl
  grind
 simp
end
abbrev Jr:aM:=⟨.slice (.slice hq),.slice hq,λx=>x.length<=2/\∀ l∈x,l.length<=40,λx=>x.flatten⟩
theorem aq0(x):A.le (aaf Jp x) (Jr.sh x):=A.bu λh=>
 (show aaf Jp x=Jq Jp x A.pure from rfl).trans (aai _ (λn a b=>A.bO ⟨a,b⟩ _) x _ h.1 h.2)
def Js(x:List (z1')×Unit):A (z1'×Unit):=A.dP (x.1.length<=2/\∀ l∈x.1,l.length<=40) (x.1.flatten,())
theorem aq1(x):A.le (aag Jo x) (Js x):=A.bu λh=>
 (show aag Jo x=Jq Jo x.1 (λl=>A.pure (l,())) from rfl).trans (aai _ (λn a b=>A.bO ⟨a,b⟩ _) x.1 _ h.1 h.2)
def ov(l:z1')(j:Nat):Bool:=decide (j=0)||decide (l.getD j 0≠l.getD (j - 1) 0)
def fu(l:z1')(p:Nat):z1':=((List.range p).filter (ov l)).map λj=>l.getD j 0
theorem Qo(l:z1')(p:Nat):fu l (p+1)=fu l p++if ov l p=true then [l.getD p 0] else []:=by
 unfold fu;rw[List.range_succ,List.filter_append,List.map_append];grind
theorem aq2(l:z1')(p:Nat):(fu l p).length<=p:=by
 unfold fu;grind
def Fl{R:Type}:Int×(Nat×Nat)×Int×z1'×Unit->A (V (Int×(Nat×Nat)×Int×z1'×Unit) (V (Int×z1'×Unit) R)):=
 (λ(D:Int×(Nat×Nat)×Int×z1'×Unit)=>if decide (D.2.2.1<Int.ofNat (D.2.1.2 - D.2.1.1))=true then A.bind (A.ad (0<=D.2.2.1/\D.2.2.1<Int.ofNat
 (D.2.1.2 - D.2.1.1)) (A.ad (0<=IntKind.wrap .i64 (D.2.2.1 - 1)/\IntKind.wrap .i64 (D.2.2.1 - 1)<Int.ofNat (D.2.1.2 - D.2.1.1)) (if decide (List.getD D.2.2.2.1
 (Add.add D.2.1.1 (Int.toNat D.2.2.1)) 0≠List.getD D.2.2.2.1 (Add.add D.2.1.1 (Int.toNat (IntKind.wrap .i64 (D.2.2.1 - 1)))) 0)=true then A.ad (0<=D.2.2.1/\D.2.2.1
 < Int.ofNat (D.2.1.2 - D.2.1.1)) (A.ad (0<=D.1/\D.1<Int.ofNat (List.length D.2.2.2.1)) (A.pure (V.next (IntKind.wrap .i64 (Add.add D.1 1),D.2.1,D.2.2.1,List.set D.2.2.2.1 (Int.toNat D.1) (List.getD D.2.2.2.1 (Add.add D.2.1.1 (Int.toNat D.2.2.1)) 0),())))) else A.pure (V.next (D.1,D.2.1,D.2.2.1,D.2.2.2.1,())))))
 (V.bD λ(D:Int×(Nat×Nat)×Int×z1'×Unit)=>A.pure (V.next (D.1,D.2.1,IntKind.wrap .i64 (Add.add D.2.2.1 1),D.2.2.2.1,()))) else A.bind
 (A.pure (V.next (D.1,D.2.2.2.1,()))) λr=>A.pure (V.done r))
def wQ:Int×z1'×Unit->A (V (Int×z1'×Unit) (V (z1'×Unit) ((Nat×Nat)×z1'×Unit))):=
 (λ(D:Int×z1'×Unit)=>if decide (D.1<Int.ofNat (List.length D.2.1))=true then A.bind (A.ad (0<=D.1/\D.1<Int.ofNat (List.length D.2.1)) (A.ad (0<=
 IntKind.wrap .i64 (D.1 - 1)/\IntKind.wrap .i64 (D.1 - 1)<Int.ofNat (List.length D.2.1)) (if decide (List.getD D.2.1 (Int.toNat D.1) 0=List.getD D.2.1 (Int.toNat
 (IntKind.wrap .i64 (D.1 - 1))) 0)=true then A.ad (0<=D.1/\D.1<=Int.ofNat (List.length D.2.1)/\Int.ofNat (List.length D.2.1)<=Int.ofNat (List.length D.2.1))
 (A.bind (A.loop Fl (D.1,(Int.toNat D.1,Int.toNat (Int.ofNat (List.length D.2.1))),1,D.2.1,())) (V.bD λ(D:Int×z1'×Unit)=>A.ad (0<=D.1/\D.1<=
 Int.ofNat (List.length D.2.1)/\Int.ofNat (List.length D.2.1)<=Int.ofNat (List.length D.2.1)) (A.ad True (A.ad ((0:Int)<=0/\0<=D.1/\D.1<=Int.ofNat (List.length
 (List.take (Int.toNat D.1) D.2.1++List.replicate (Int.toNat (Int.ofNat (List.length D.2.1)) - Int.toNat D.1) 0++List.drop (Add.add (Int.toNat D.1) (List.length
 (List.replicate (Int.toNat (Int.ofNat (List.length D.2.1)) - Int.toNat D.1) (0:Int)))) D.2.1))) (A.bind (A.bind (A.bind (A.pure ((Int.toNat 0,Int.toNat D.1),List.take
 (Int.toNat D.1) D.2.1++List.replicate (Int.toNat (Int.ofNat (List.length D.2.1)) - Int.toNat D.1) 0++List.drop (Add.add (Int.toNat D.1) (List.length (List.replicate
 (Int.toNat (Int.ofNat (List.length D.2.1)) - Int.toNat D.1) (0:Int)))) D.2.1,())) λr=>A.pure (V.done r)) λr=>A.pure (V.done r)) λr=>A.pure (V.done
 r)))))) else A.pure (V.next (D.1,D.2.1,()))))) (V.bD λ(D:Int×z1'×Unit)=>A.pure (V.next (IntKind.wrap .i64 (Add.add D.1 1),D.2.1,()))) else
 A.bind (A.pure (V.next (D.2.1,()))) λr=>A.pure (V.done r))
structure y4(l:z1')(p:Nat)(m:z1'):Prop where
 len:m.length=l.length
 CJ:m.take (fu l p).length=fu l p
 lt:(fu l p).length<p
 ck:∀ j,p<=j+1->m.getD j 0=l.getD j 0
theorem aq3{ak:Type}{l:List ak}{i j:Nat}{v d:ak}(h:i<l.length):(l.set i v).getD j d=if j=i then v else l.getD j d:=by
 grind
theorem y4.step{l m:z1'}{p:Nat}(h:y4 l p m)(an:p<l.length):y4 l (p+1) (if ov l p=true then m.set (fu l p).length (l.getD p 0) else m):=by
 have E:=h.lt;have U:=h.len;have hc:=Qo l p;by_cases al:ov l p=true
 ·rw[if_pos al]at hc ⊢;refine⟨by grind,?_,?_,λj aE=>?_⟩
  ·rw[hc,List.length_append,List.length_singleton];have aL:=h.CJ;generalize fu l p=c at aL E;apply List.ext_getElem?;intro j;rw[List.getElem?_take,List.getElem?_append,List.getElem?_set];grind
  ·grind
  ·rw[aq3 (by omega),if_neg (by omega)];exact h.ck j (by omega)
 ·rw[if_neg al,List.append_nil]at hc;rw[if_neg al];refine⟨U,by rw[hc];exact h.CJ,by grind,λj aE=>h.ck j (by omega)⟩
theorem aq4{R:Type}{l m:z1'}{k p:Nat}(ai:l.length<60000)(al:k<p)(m':0<k)(h:y4 l p m)(an:p<l.length) :
  Fl (R:=R) (((fu l p).length:Nat),(k,l.length),((p - k:Nat):Int),m,())=A.pure (.next (((fu l (p+1)).length:Nat),(k,l.length),((p+1 - k:Nat):Int),(if ov l p=true then m.set (fu l p).length (l.getD p 0) else m),())):=by
 have E:=h.lt;have U:=h.len;have hc:=Qo l p;have b_:=bF (n:=((p - k:Nat):Int) - 1) (by omega) (by omega);have c7:IntKind.wrap .i64 (((p - k:Nat):Int)+1)=((p+1 - k:Nat):Int):=(bF (by omega) (by omega)).trans (by omega);have eV:=bF (n:=(((fu l p).length:Nat):Int)+1) (by omega) (by omega);have d1:decide (((p - k:Nat):Int)<((l.length - k:Nat):Int))=true:=by grind
 have cf:(0:Int)<=((p - k:Nat):Int)/\((p - k:Nat):Int)<((l.length - k:Nat):Int):=by omega
 have cI:(0:Int)<=((p - k:Nat):Int) - 1/\((p - k:Nat):Int) - 1<((l.length - k:Nat):Int):=by omega
 have er:(0:Int)<=(((fu l p).length:Nat):Int)/\(((fu l p).length:Nat):Int)<(m.length:Int):=by omega
 have ax:k+(((p - k:Nat):Int)).toNat=p:=by omega
 have aO:k+(((p - k:Nat):Int) - 1).toNat=p - 1:=by omega
 have g1:=h.ck p (by omega);have eh:=h.ck (p - 1) (by omega);have zT:ov l p=decide (l.getD p 0≠l.getD (p - 1) 0):=by
  unfold ov;grind
 unfold Fl;simp only[bW,d1,if_true,b_,cf,cI,and_self,A.bn,cn,gY,ax,aO,g1,eh,<-zT];by_cases Jt:ov l p=true
 ·rw[if_pos Jt]at hc;simp only[Jt,if_true,er,and_self,A.bn,A.aF,A.b2,c7,eV,Int.toNat_natCast,decide_true];rw[hc];simp
 ·rw[if_neg Jt,List.append_nil]at hc;simp only[Jt,if_false,A.aF,A.b2,c7,Bool.false_eq_true,decide_true,if_true];rw[hc]
theorem aq5{R:Type}{l:z1'}{k:Nat}(ai:l.length<60000)(m':0<k):∀ (n p:Nat) (m:z1'),l.length - p=n->p<=l.length->k<p->y4 l p m->
  ∃ dw,y4 l l.length dw/\A.loop (Fl (R:=R)) (((fu l p).length:Nat),(k,l.length),((p - k:Nat):Int),m,())=A.pure (.next (((fu l l.length).length:Nat),dw,())):=by
 intro n;induction n with
 | zero=>
  intro p m au an al h;have:p=l.length:=by omega
  subst this;refine⟨m,h,A.sc ?_⟩;unfold Fl;simp
 | succ n aH=>
  intro p m au an al h;have an:p<l.length:=by omega
  obtain⟨dw,E,U⟩:=aH (p+1) _ (by omega) an (by omega) (h.step an);exact⟨dw,E,(A.zo (aq4 ai al m' h an)).trans U⟩
def wR(l:z1'):(Nat×Nat)×z1'×Unit:=((0,(fu l l.length).length),fu l l.length++List.replicate (l.length - (fu l l.length).length) 0,())
theorem aq6{l:z1'}(ai:l.length<60000):∀ (n p:Nat),l.length - p=n->p<=l.length->0<p->fu l p=l.take p->
  A.bind (A.loop wQ ((p:Int),l,())) (V.bD λ(D:z1'×Unit)=>A.pure ((0,List.length D.1),D.1,()))=A.pure (wR l):=by
 intro n;induction n with
 | zero=>
  intro p au an aT hc;have:p=l.length:=by omega
  subst this;rw[List.take_length]at hc;have W:wQ ((l.length:Int),l,())=A.pure (.done (.next (l,()))):=by
   unfold wQ;simp
  rw[A.sc W,A.aF,A.b2];unfold wR;simp_all
 | succ n aH=>
  intro p au an aT hc;have an:p<l.length:=by omega
  have b_:=bF (n:=(p:Int) - 1) (by omega) (by omega);have c7:=bF (n:=(p:Int)+1) (by omega) (by omega);have cI:(0:Int)<=(p:Int) - 1/\(p:Int) - 1<(l.length:Int):=by omega
  have ax:((p:Int) - 1).toNat=p - 1:=by omega
  have zT:ov l p=decide (l.getD p 0≠l.getD (p - 1) 0):=by
   unfold ov;rw[show decide (p=0)=false by grind,Bool.false_or]
  have px:=Qo l p;have ZK:(l.take p).length=p:=by grind
  by_cases al:ov l p=true
  ·have eB:¬l.getD p 0=l.getD (p - 1) 0:=by grind
   have W:wQ ((p:Int),l,())=A.pure (.next (((p+1:Nat):Int),l,())):=by
    unfold wQ;simp_all
   rw[A.zo W];refine aH (p+1) (by omega) an (by omega) ?_;simp_all
  ·have heq:l.getD p 0=l.getD (p - 1) 0:=by grind
   rw[if_neg al,List.append_nil]at px;have ez:y4 l (p+1) l:=⟨rfl,by grind,by grind,λ_ _=>rfl⟩
   obtain⟨dw,E,U⟩:=aq5 (R:=V (Int×z1'×Unit) (V (Int×z1'×Unit) (V (z1'×Unit) ((Nat×Nat)×z1'×Unit)))) ai aT (l.length - (p+1)) (p+1) l rfl an (by omega) ez;rw[show (fu l (p+1)).length=p by grind,show p+1 - p=1 from by omega]at U;have lP:=aq2 l l.length;have anC:=E.len;have kW:=E.CJ;have er:(0:Int)<=((fu l l.length).length:Int)/\((fu l l.length).length:Int)<=(dw.length:Int):=by omega
   have jn:List.take (fu l l.length).length dw++List.replicate (dw.length - (fu l l.length).length) 0++List.drop ((fu l l.length).length+(List.replicate (dw.length - (fu l l.length).length) (0:Int)).length) dw=fu l l.length++List.replicate (l.length - (fu l l.length).length) 0:=by
    simp_all
   have W:wQ ((p:Int),l,())=A.pure (.done (.done (wR l))):=by
    unfold wQ;simp only[bW,cX an,if_true,cH an,A.bn,b_,cI,and_self,ax,Int.toNat_natCast,heq,decide_true];rw[A.bt (by omega)];erw [U];simp only[A.aF,A.b2,bW,Int.toNat_natCast,gY,jn,A.bn];rw[A.bt ⟨er.1,er.2,Int.le_refl _⟩,A.bt ⟨Int.le_refl _,er.1,by grind⟩];simp only[A.aF,A.pS,jn];rfl
   rw[A.sc W,A.aF,A.pS]
def Ju(x:z1'×Unit):A ((Nat×Nat)×z1'×Unit):=A.dP (x.1.length<60000) (wR x.1)
theorem aq7(x):A.le (aqZ x) (Ju x):=A.bu λh=>by
 obtain⟨l,u⟩:=x;change l.length<60000 at h;show (if decide (Int.ofNat l.length<2)=true then A.pure ((0,l.length),l,()) else A.bind (A.loop wQ (1,l,())) (V.bD λ(D:z1'×Unit)=>A.pure ((0,List.length D.1),D.1,())))=A.pure (wR l);have nY:∀ l:z1',l.length<2->fu l l.length=l:=λl ai=>by
  match l,ai with
  | [],_=>rfl
  | [a],_=>rfl
 by_cases U:l.length<2
 ·have aq:decide (Int.ofNat l.length<2)=true:=by grind
  rw[if_pos aq];unfold wR;simp_all
 ·have aq:¬decide (Int.ofNat l.length<2)=true:=by grind
  rw[if_neg aq];refine aq6 h (l.length - 1) 1 rfl (by omega) (by omega) ?_;match l,U with
  | a::l,_=>rfl
  | [],U=>grind
end Go.Fer.H
namespace Go.Fer.H
open A (V)
theorem aq8{l:z1'}:∀ j,j<l.length->l.getD j 0∈fu l l.length:=by
 intro j;induction j with
 | zero=>
  intro h;unfold fu;exact List.mem_map.2 ⟨0,List.mem_filter.2 ⟨by grind,by rfl⟩,rfl⟩
 | succ j aH=>
  intro h;by_cases al:ov l (j+1)=true
  ·unfold fu;grind
  ·have:l.getD (j+1) 0=l.getD j 0:=by
    unfold ov at al;grind
   grind
theorem aq9{l:z1'}{x:Int}:x∈fu l l.length<->x∈l:=by
 constructor
 ·intro h;unfold fu at h;grind
 ·intro h;obtain⟨j,aE,rfl⟩:=List.mem_iff_getElem.1 h;rw[<-tc (d:=0) aE];exact aq8 j aE
theorem aq_{l:z1'}(h:l.Pairwise (·<=·)):(fu l l.length).Pairwise (·<·):=by
 unfold fu;rw[List.pairwise_map];have M:((List.range l.length).filter (ov l)).Pairwise (·<·):=List.Pairwise.filter _ List.pairwise_lt_range;refine List.Pairwise.imp_of_mem ?_ M;intro i j G aE zY;obtain⟨aq',ja⟩:=List.mem_filter.1 aE;have aq':j<l.length:=by grind
 have eB:l.getD j 0≠l.getD (j - 1) 0:=by
  unfold ov at ja;grind
 have aD:=List.pairwise_iff_getElem.1 h;grind
def r9(a b:z1'):z1':=(ee 0 99).filter λid=>a.contains id||b.contains id
theorem Qp(a b:Int):(ee a b).Pairwise (·<·):=by
 unfold ee;rw[List.pairwise_map];exact (List.pairwise_lt_range).imp λh=>by omega
theorem ara{a b:z1'}(a8:a.Pairwise (·<·))(W:b.Pairwise (·<·))(h:∀ x,x∈a<->x∈b):a=b:=by
 have arb:a.Nodup:=a8.imp λh=>by omega
 have mD:b.Nodup:=W.imp λh=>by omega
 have an:=(List.perm_ext_iff_of_nodup arb mD).2 h;rw[<-A2 (a8.imp λh=>by omega) (List.Perm.refl a)];exact A2 (W.imp λh=>by omega) an
theorem arc{a b:z1'}(a8:∀ x∈a,bZ x 0 99=true)(W:∀ x∈b,bZ x 0 99=true):fu (ft hs (a++b)) (ft hs (a++b)).length=r9 a b:=by
 refine ara (aq_ (OV _)) (List.Pairwise.filter _ (Qp 0 99)) λx=>?_;rw[aq9,Xj];unfold r9;simp only[List.mem_append,List.mem_filter,pT,Bool.or_eq_true,List.contains_iff_mem];refine⟨λh=>⟨?_,h⟩,λh=>h.2⟩;rcases h with h | h
 ·exact og.1 (a8 x h)
 ·exact og.1 (W x h)
abbrev Jv:a1:=([],[],[],[],0,0,0,0,0,0,0)
def nD(c:a1)(more:List a7)(hf:z1'):a1:=(c.1,more,hf,c.2.2.2)
def ow(c:a1)(more:List a7)(hf:z1'):a1×Int:=
 if cN c≠0 then (Jv,cN c) else if cN (nD c more hf)≠0 then (Jv,cN (nD c more hf)) else
 if k6 (c.2.1++more)=true then (Jv,91) else
 if (decide (Int.ofNat (gZ (c.2.1++more)).length > 12)||decide (Int.ofNat (r9 c.2.2.1 hf).length > 12))=true then (Jv,90) else (nD c (gZ (c.2.1++more)) (r9 c.2.2.1 hf),0)
abbrev BO:aM:=⟨.az kp (.az (.slice hq) fO),.az kp bq,λx=>j6 x.1/\x.2.1.length<2 ^ 63/\x.2.2.length<2 ^ 63,λx=>ow x.1 x.2.1 x.2.2⟩
abbrev Fm:aM:=⟨.slice l7,.slice l7,λx=>x.length<65536,λx=>x⟩
theorem ard(x):A.le (WN x) (Fm.sh x):=A.sX λh=>by
 unfold WN;rw[A.fY];refine⟨⟨false,by simp⟩,λb W=>?_⟩;change b=true->x=[]at W;cases b with
 | true=>rw[W rfl];exact A.d_.2 rfl
 | false=>
  simp only[Bool.false_eq_true,if_false];exact A.kR.2 ⟨fs (by grind),A.d_.2 (by simp)⟩
structure aaj(c:a1):Prop where
 dN:c.1.length<=3
 ei:c.2.1.length<=12
 jL:c.2.2.1.length<=12
 n4:c.2.2.2.1.length<=4
 ids:∀ s∈c.2.1,bZ s.1 0 99=true
 hf:∀ n∈c.2.2.1,bZ n 0 99=true
 cl:k6 c.2.1=false
theorem Jw{c:a1}(h:cN c=0):aaj c:=by
 unfold cN at h;by_cases hc:jY c=true
 ·rw[if_pos hc]at h;have lP:k6 c.2.1=false:=by
   grind
  have G:=Iw hc;unfold jY ta at hc;simp only[Bool.and_eq_true,List.all_eq_true,Bool.not_eq_true',Bool.or_eq_false_iff,decide_eq_false_iff_not]at hc;obtain⟨⟨⟨⟨⟨bj,_⟩,_⟩,U⟩,ag⟩,_⟩:=hc;exact⟨by omega,by omega,by omega,by omega,G.2,ag,lP⟩
 grind
theorem are{a b:List a7}(a8:a.length<=12)(W:b.length<=12)(E:∀ s∈a,bZ s.1 0 99=true)(U:∀ s∈b,bZ s.1 0 99=true):wg (a++b):=
 ⟨by grind,λs aD=>(List.mem_append.1 aD).elim (E s) (U s)⟩
theorem arf(x):A.le (aae h2.sh A'.sh Jr.sh Js yq Ju Fm.sh x) (BO.sh x):=A.bu λh=>by
 obtain⟨c,more,hf⟩:=x;obtain⟨E,U,ag⟩:=h;change j6 c at E;change more.length<2 ^ 63 at U;change hf.length<2 ^ 63 at ag;have ui:j6 (nD c more hf):=⟨E.1,U,ag,E.2.2.2⟩
 unfold aae;show _=A.pure (ow c more hf);unfold ow;rw[show h2.sh (c,more,hf).1=A.pure (cN c) from A.bO E _,A.aF];by_cases ax:cN c=0
 ·have g1:=Jw ax;rw[show h2.sh ((c,more,hf).1.1,(c,more,hf).2.1,(c,more,hf).2.2,(c,more,hf).1.2.2.2)=A.pure (cN (nD c more hf)) from A.bO ui _,A.aF];by_cases aO:cN (nD c more hf)=0
  ·have eh:=Jw aO;have ei:more.length<=12:=eh.ei;have jL:hf.length<=12:=eh.jL;have qx:=g1.ei;have mx:=g1.jL;have G:wg (c.2.1++more):=are g1.ei eh.ei g1.ids eh.ids;rw[if_neg (by grind),if_neg (by grind),if_neg (by omega),if_neg (by omega)];rw[show Jr.sh [(c,more,hf).1.2.1,(c,more,hf).2.1]=A.pure (c.2.1++more) from (A.bO ⟨by simp,by grind⟩ _).trans (congrArg A.pure (by simp)),A.aF];rw[show A'.sh (c.2.1++more)=A.pure (if k6 (c.2.1++more)=true then ([],false) else (gZ (c.2.1++more),true)) from A.bO G _,A.aF];cases hc:k6 (c.2.1++more) with
   | true=>simp
   | false=>
    simp only[Bool.false_eq_true,if_false,Bool.not_true];rw[show Js ([c.2.2.1,hf],())=A.pure (c.2.2.1++hf,()) from (A.bO ⟨by simp,by grind⟩ _).trans (congrArg A.pure (by simp)),A.aF];rw[show yq ((c.2.2.1++hf,()):z1'×Unit)=A.pure (ft hs (c.2.2.1++hf),()) from A.bO (by grind) _,A.aF];rw[show Ju ((ft hs (c.2.2.1++hf),()):z1'×Unit)=A.pure (wR (ft hs (c.2.2.1++hf))) from A.bO (by show (ft hs (c.2.2.1++hf)).length<_;rw[Ip];grind) _,A.aF];have ij:=arc g1.hf eh.hf;unfold wR;rw[show (fu (ft hs (c.2.2.1++hf)) (ft hs (c.2.2.1++hf)).length)=r9 c.2.2.1 hf from ij];simp only[Nat.sub_zero,List.drop_zero,List.take_left];rw[show Fm.sh c.1=A.pure c.1 from A.bO (by have:=g1.dN;omega) _,show Fm.sh c.2.2.2.1=A.pure c.2.2.2.1 from A.bO (by have:=g1.n4;omega) _];simp only[A.hQ,A.e4,A.bn];split<;>rfl
  grind
 grind
end Go.Fer.H
namespace Go.Fer.aw
open A (V)
abbrev tw:ab:=.slice .str
abbrev BP:ab:=.st (.az mc H.kp)
def cE:aK->List aK
 | []=>[[]]
 | c::s=>if c=32 then []::cE s else match cE s with
  | []=>[[c]]
  | w::l=>(c::w)::l
theorem u':∀ (s:aK),1<=(cE s).length/\(cE s).length<=s.length+1
 | []=>by simp[cE]
 | c::s=>by
  have:=u' s;unfold cE;grind
theorem aak:∀ (s:aK) {w:aK},w∈cE s->w.length<=s.length
 | [],w,h=>by simp[cE]at h;simp[h]
 | c::s,w,h=>by
  have aH:=@aak s;unfold cE at h;grind
def gb:aK->Int->Int
 | [],n=>n
 | c::s,n=>if (decide ((c.toNat:Int)<48)||decide ((c.toNat:Int) > 57))=true then -1 else gb s (10*n+((c.toNat:Int) - 48))
def eY(s:aK):Int:=if (decide (s.length=0)||decide (s.length > 6)||decide (s.length > 1)&&decide ((s.getD 0 0).toNat=48))=true then -1 else gb s 0
theorem Qq:∀ (s:aK) (n:Int) (k:Nat),0<=n->n<10 ^ k->gb s n<10 ^ (k+s.length)/\-1<=gb s n
 | [],n,k,aT,E=>by simp[gb];omega
 | c::s,n,k,aT,E=>by
  unfold gb;have an:(0:Int)<10 ^ (k+(c::s).length):=Int.pow_pos (by decide);split
  ·omega
  ·rename_i hc;simp only[Bool.or_eq_true,decide_eq_true_eq,not_or]at hc;have:=Qq s (10*n+((c.toNat:Int) - 48)) (k+1) (by omega) (by omega);grind
theorem arh(s:aK):-1<=eY s/\eY s<=999999:=by
 unfold eY;split
 ·omega
 ·rename_i h;simp only[Bool.or_eq_true,decide_eq_true_eq,not_or]at h;have:=Qq s 0 0 (by decide) (by decide);have U:(10:Int) ^ (0+s.length)<=10 ^ 6:=by
   have:=Nat.pow_le_pow_right (n:=10) (by decide) (show 0+s.length<=6 by omega);grind
  omega
def tx(s:aK):Int:=match Go.Lib.atoiAll s with
 | .ok v=>v
 | .range=>Go.Lib.atoiSat s
 | _=>0
def rG(s:aK):Int×Bool:=(tx s,decide (0<=eY s))
def Fo(l:List aK):Option (z1'):=if l.all (λw=>decide (0<=eY w))=true then some (l.map eY) else none
def qd(n:Int):aK:=Go.Lib.itoa (IntKind.wrap .i64 n)
theorem Qr(n:Int):(qd n).length<=21:=by
 have:=qu .i64 n;exact Go.Lib.itoa_length_le _ this.1 this.2
abbrev Jx:aK:=[111,107]
abbrev y5:aK:=[110,111]
abbrev Jy:aK:=[110,111,110,101]
abbrev Fp:aK:=[115,104,111,112]
abbrev ari:aK:=[108,105,97,114]
abbrev arj:aK:=[63]
def mi(l:z1'):aK:=if l=[] then Jy else Go.Lib.join (l.map qd) [32]
def gy(e:Int)(l:z1'):aK:=if e=0 then mi l else if e=3 then Jy else y5
def ox(x:(Int×Int)×Int):aK:=gy x.2 [x.1.1,x.1.2]
abbrev bo(l:z1')(i:Nat):Int:=l.getD i 0
def tz(d:ba)(m:List H.a7)(v:z1'):aK×ba:=if (H.ow d.2 m v).2≠0 then (y5,d) else (Jx,(d.1,(H.ow d.2 m v).1))
def oy(d:ba)(s:bI):aK×ba:=if ji s≠0 then (y5,d) else (Jx,(s,d.2))
def Qs(d:ba)(l:z1'):aK×ba:=tz d [(bo l 0,bo l 1,bo l 2,1,bo l 3,bo l 4)] []
def Qt(d:ba)(l:z1'):aK×ba:=tz d [(bo l 0,bo l 1,bo l 2,2,bo l 3,0)] []
def Qu(d:ba)(l:z1'):aK×ba:=tz d [] l
def Jz(d:ba)(l:z1'):aK×ba:=(ox (H.qX d.2 (bo l 0)),d)
def JA(d:ba)(l:z1'):aK×ba:=(ox (H.qY d.2 (bo l 0)),d)
def JB(d:ba)(l:z1'):aK×ba:=(ox (H.qZ d.2 (bo l 0)),d)
def JC(d:ba)(l:z1'):aK×ba:=(ox (H.q0 d.2 (bo l 0)),d)
def BQ(r:z1'×Int):aK:=if (decide (r.2≠0)||decide (r.1.getD 0 0>=0))=true then gy r.2 r.1 else if r.1.length=1 then Fp else Fp++[32]++mi (r.1.drop 1)
def JD(d:ba)(l:z1'):aK×ba:=(BQ (H.nn d.2 (bo l 0) (bo l 1)),d)
def BR(r:z1'×z1'×Int):aK:=if r.2.2≠0 then gy r.2.2 [] else mi r.1++[32,47,32]++mi r.2.1
def JE(d:ba)(l:z1'):aK×ba:=(BR (H.np d.2 (bo l 0)),d)
def nE(w:bz)(t:Int×Int×Int×Int):bz:=(w.1,w.2.1,w.2.2.1,w.2.2.2++[t])
def y6(d:ba)(l:z1'):aK×ba:=
 if cN (nE d.1.1 (bo l 0,bo l 1,bo l 2,bo l 3))≠0 then (y5,d) else if (wD (nE d.1.1 (bo l 0,bo l 1,bo l 2,bo l 3)) (bo l 0)).2≠0 then (ari,d)
 else (Jx,((nE d.1.1 (bo l 0,bo l 1,bo l 2,bo l 3),d.1.2),d.2))
def pe(r:Int×Int):aK:=if r.2≠0 then gy r.2 [] else List.getD [[],[115,117,114,101,108,121],[110,101,118,101,114],[112,101,114,104,97,112,115]] r.1.toNat []
def JF(d:ba)(l:z1'):aK×ba:=(pe (mb d.1.1 (bo l 0) (bo l 1) (bo l 2)),d)
def y7(d:ba)(l:z1'):aK×ba:=if bo l 0>=(d.1.2.1.length:Int) then (y5,d) else oy d (d.1.1,d.1.2.1.set (bo l 0).toNat (d.1.2.1.getD (bo l 0).toNat 0+bo l 1),d.1.2.2)
def Qv(d:ba)(l:z1'):aK×ba:=oy d (d.1.1,d.1.2.1,d.1.2.2.1,d.1.2.2.2.1,d.1.2.2.2.2.1++[(bo l 0,bo l 1,bo l 2)],d.1.2.2.2.2.2)
def Qw(d:ba)(l:z1'):aK×ba:=oy d (d.1.1,d.1.2.1,d.1.2.2.1++[(bo l 0,bo l 1,bo l 2,bo l 3,l.drop 4)],d.1.2.2.2)
def Qx(d:ba)(l:z1'):aK×ba:=oy d (d.1.1,d.1.2.1,d.1.2.2.1,d.1.2.2.2.1++[(l.drop 5,(bo l 0,bo l 1),bo l 2,bo l 3,bo l 4)],d.1.2.2.2.2)
def y8(d:ba)(l:z1'):aK×ba:=if bo l 0>=(d.1.2.2.2.1.length:Int) then (y5,d) else (Jx,((d.1.1,d.1.2.1,d.1.2.2.1,d.1.2.2.2.1.eraseIdx (bo l 0).toNat,d.1.2.2.2.2),d.2))
def JG(d:ba)(l:z1'):aK×ba:=(gy (ou d.1 (bo l 0)).2 (ou d.1 (bo l 0)).1,d)
def Qy(d:ba)(l:z1'):aK×ba:=(gy (BM d.1 (l.map (· - 1))).2 [(BM d.1 (l.map (· - 1))).1],d)
def JH(d:ba)(_:z1'):aK×ba:=(gy (ph d.1 true).2 [(ph d.1 true).1],d)
def JI(d:ba)(_:z1'):aK×ba:=(gy (qc d.1).2 [(qc d.1).1],d)
def y9:Nat->ba->z1'->aK×ba
 | 0=>Qs | 1=>Qt | 2=>Qu | 3=>Jz | 4=>JA | 5=>JB | 6=>JC | 7=>JD | 8=>JE | 9=>y6
 | 10=>JF | 11=>y7 | 12=>Qv | 13=>Qw | 14=>Qx | 15=>y8 | 16=>JG | 17=>Qy | 18=>JH | _=>JI
def kP:List (aK×Int×Bool):=[([108,101,110,100],5,false),([98,97,99,107],4,false),([118,111,105,100],1,false),([108,97,115,116,115],1,false),([102,101,101],1,false),([111,119,101,115],1,false),([104,101,108,100],1,false),([119,104,101,114,101],2,false),([109,105,115,115,105,110,103],1,false),([116,114,105,97,108],4,false),([102,105,116,115],3,false),([115,116,111,99,107],2,false),([99,111,109,101,115],3,false),([112,105,101,99,101],4,true),([119,105,115,104],5,true),([100,114,111,112],1,false),([99,97,110],1,false),([116,97,107,101,115],0,true),([109,111,115,116],0,false),([101,120,116,114,97],0,false)]
def oz(w:aK):List (aK×Int×Bool)->Nat->Option (Int×Bool×Nat)
 | [],_=>none
 | p::l,i=>if w=p.1 then some (p.2.1,p.2.2,i) else oz w l (i+1)
def Fq(s:aK):Option (Nat×z1'):=
 match oz ((cE s).getD 0 []) kP 0 with
 | none=>none
 | some (k,m,j)=>if (decide (((cE s).length:Int) - 1<k)||decide (((cE s).length:Int) - 1 > k)&&!m)=true then none else (Fo ((cE s).drop 1)).map λl=>(j,l)
def iA(d:ba)(s:aK):aK×ba:=match Fq s with
 | none=>(arj,d)
 | some (j,l)=>y9 j d l
def h5:ba->List aK->List aK×ba
 | d,[]=>([],d)
 | d,s::l=>((iA d s).1::(h5 (iA d s).2 l).1,(h5 (iA d s).2 l).2)
theorem ark(d:ba)(a b:List aK):h5 d (a++b)=((h5 d a).1++(h5 (h5 d a).2 b).1,(h5 (h5 d a).2 b).2):=by
 induction a generalizing d with
 | nil=>rfl
 | cons s a aH=>simp only[List.cons_append,h5,aH]
theorem arl(d:ba)(a:List aK):(h5 d a).1.length=a.length:=by
 induction a generalizing d with
 | nil=>rfl
 | cons s a aH=>simp only[h5,List.length_cons,aH]
def jj(d:ba):Int:=if (decide (ji d.1≠0)||decide (H.cN d.2≠0))=true then 120 else 0
def jh(d:ba):ba:=(d.1,(H.ow d.2 [] []).1)
abbrev aal:ba:=((([],[],0,[]),[],[],[],[],0),[],[],[],[],0,0,0,0,0,0,0)
def wS(d:ba)(l:List aK):List aK×ba×Int:=
 if jj d≠0 then ([],aal,jj d) else if l.length > 40 then ([],aal,2) else ((h5 (jh d) l).1,(h5 (jh d) l).2,0)
structure c_(d:ba):Prop where
 gp:fE d.1
 y_:ji d.1=0
 q7:H.cN d.2=0
 BS:H.kr d.2.1<=60
theorem c_.val{d:ba}(h:c_ d):me d.1:=BE h.gp h.y_
theorem c_.aam{d:ba}(h:c_ d):jj d=0:=by simp[jj,h.y_,h.q7]
theorem c_.arn{d:ba}(h:c_ d):H.aaj d.2:=H.Jw h.q7
theorem c_.fD{d:ba}(h:c_ d):H.fD d.2:=by
 have:=h.arn;exact⟨⟨by have:=this.dN;omega,by have:=this.ei;omega,by have:=this.jL;omega,by have:=this.n4;omega⟩,λ_=>h.BS⟩
theorem c_.j6{d:ba}(h:c_ d):H.j6 d.2:=h.fD.gp
structure eD(k:Nat)(l:z1'):Prop where
 Qz:k<=l.length
 JJ:l.length<=10000
 num:∀ n∈l,0<=n/\n<=999999
theorem eD.bo{k:Nat}{l:z1'}(h:eD k l)(i:Nat):0<=bo l i/\bo l i<=999999:=by
 rcases Nat.lt_or_ge i l.length with G | G
 ·have:=h.num l[i] (by simp);grind
 ·grind
end Go.Fer.aw
namespace Go.Fer.aw
open A (V)
open H (fs)
abbrev JK:aM:=⟨.int .i64,.str,λ_=>True,qd⟩
abbrev Fs:aM:=⟨.az tw .str,.str,λx=>x.1.length<=60000/\(∀ w∈x.1,w.length<=21)/\x.2.length=1,λx=>Go.Lib.join x.1 x.2⟩
theorem aan:∀ (l:List aK) (s:aK) (n:Nat),(∀ w∈l,w.length<=n)->(Go.Lib.join l s).length<=l.length*(n+s.length)
 | [],s,n,h=>by simp[Go.Lib.join_nil]
 | x::r,s,n,h=>by
  rw[Go.Lib.join_cons];have aL:∀ (r:List aK),(∀ w∈r,w.length<=n)->(Go.Lib.joinTail s r).length<=r.length*(n+s.length):=by
   intro r;induction r with
   | nil=>intro _;simp[Go.Lib.joinTail]
   | cons y r aH=>
    intro h;have E:=aH λw hw=>h w (by grind);have U:=h y (by simp);simp only[Go.Lib.joinTail,List.map_cons,List.flatten_cons,List.length_append,List.length_cons,Nat.succ_mul]at E ⊢;omega
  have E:=aL r λw hw=>h w (by grind);have U:=h x (by simp);simp only[List.length_append,List.length_cons,Nat.succ_mul];omega
theorem Ft(l:z1'):(mi l).length<=l.length*22+4:=by
 unfold mi;split
 ·simp
 ·have:=aan (l.map qd) [32] 21 λw hw=>by
   obtain⟨n,_,rfl⟩:=List.mem_map.1 hw;exact Qr n
  grind
abbrev y':aM:=⟨fO,.str,λx=>x.length<=60000,mi⟩
theorem aro(x):A.le (YC JK.sh Fs.sh x) (y'.sh x):=A.bu λh=>by
 change x.length<=60000 at h;unfold YC;show _=A.pure (mi x);unfold mi;by_cases ah:x=[]
 ·grind
 ·have ai:x.length≠0:=by grind
  rw[if_neg (by grind),if_neg ah];rw[A.gv x (λi (o:List aK)=>(x,(x.length:Int),(i:Int),o,())) (λn o=>.next (o++[qd n])) (λo=>.next (o,())) (λi o=>o.length=i) [] ?_ rfl ?_ ?_]
  ·rw[fr,yf,List.nil_append,A.aF,A.b2];rw[show Fs.sh (x.map qd,[32])=A.pure (Go.Lib.join (x.map qd) [32]) from A.bO ⟨by grind,λw hw=>by
    obtain⟨n,_,rfl⟩:=List.mem_map.1 hw;exact Qr n,rfl⟩ _,A.aF]
  ·rfl
  ·intro i G o af;have hw:=bF (n:=(i:Int)+1) (by omega) (by omega);refine⟨?_,λbd dd=>?_⟩
   ·simp only[bW,cX G,if_true,dk G,cH G,A.bn,cn,hw];rw[show JK.sh x[i]=A.pure (qd x[i]) from rfl,A.aF,A.bt (fs (by grind))];rfl
   ·grind
  simp
abbrev q8:aM:=⟨.az (.int .i64) fO,.str,λx=>x.2.length<=60000,λx=>gy x.1 x.2⟩
theorem arp(x):A.le (YB y'.sh x) (q8.sh x):=A.bu λh=>by
 change x.2.length<=60000 at h;unfold YB;show _=A.pure (gy x.1 x.2);unfold gy;rw[show y'.sh x.2=A.pure (mi x.2) from A.bO h _,A.aF];grind
abbrev za:aM:=⟨.az l7 (.int .i64),.str,λ_=>True,ox⟩
theorem arq(x):A.le (YA q8.sh x) (za.sh x):=A.bu λ_=>by
 unfold YA;rw[show q8.sh (x.2,[x.1.1,x.1.2])=A.pure (ox x) from A.bO (show 2<=60000 by decide) _,A.aF]
theorem zb{e:Int}{l:z1'}(h:l.length<=60000):q8.sh (e,l)=A.pure (gy e l):=A.bO h _
theorem QA{l:z1'}(h:l.length<=60000):y'.sh l=A.pure (mi l):=A.bO h _
theorem JL(x:(Int×Int)×Int):za.sh x=A.pure (ox x):=rfl
def fv(k:Nat)(g:ba->z1'->aK×ba)(x:z1'×ba×Unit):A (aK×ba×Unit):=A.dP (c_ x.2.1/\eD k x.1) ((g x.2.1 x.1).1,(g x.2.1 x.1).2,())
theorem nF:Int.toNat 0=0:=rfl
theorem nG:Int.toNat 1=1:=rfl
theorem nH:Int.toNat 2=2:=rfl
theorem nI:Int.toNat 3=3:=rfl
theorem nJ:Int.toNat 4=4:=rfl
theorem nK:Int.toNat 5=5:=rfl
theorem nL{ak:Type}{k:Nat}{l:z1'}(h:eD k l)(m:A ak)(i:Int)(G:0<=i/\i<(k:Int)):A.ad (0<=i/\i<Int.ofNat l.length) m=m:=
 A.bt ⟨G.1,by have:=h.Qz;grind⟩ m
def BT(x:List H.a7×z1'×ba×Unit):A (aK×ba×Unit):=A.dP (c_ x.2.2.1/\x.1.length<2 ^ 63/\x.2.1.length<2 ^ 63) ((tz x.2.2.1 x.1 x.2.1).1,(tz x.2.2.1 x.1 x.2.1).2,())
theorem ars(x):A.le (Yw H.BO.sh x) (BT x):=A.bu λh=>by
 obtain⟨m,v,d,⟨⟩⟩:=x;obtain⟨aq,E,U⟩:=h;unfold Yw;rw[A.bn,show H.BO.sh (d.2,m,v)=A.pure (H.ow d.2 m v) from A.bO ⟨aq.j6,E,U⟩ _,A.aF];unfold tz;by_cases e:(H.ow d.2 m v).2=0<;>simp[e]
theorem QB{d:ba}(aq:c_ d)(m:List H.a7)(v:z1')(E:m.length<2 ^ 63)(U:v.length<2 ^ 63):BT (m,v,d,())=A.pure ((tz d m v).1,(tz d m v).2,()):=A.bO ⟨aq,E,U⟩ _
theorem art(x):A.le (Yv BT x) (fv 5 Qs x):=A.bu λh=>by
 obtain⟨l,d,⟨⟩⟩:=x;obtain⟨aq,ai⟩:c_ d/\eD _ l:=h;unfold Yv;simp (disch:=decide) only [nL ai,A.bn,nF,nG,nH,nI,nJ,nK];rw[QB aq _ _ (by simp) (by simp),A.aF];rfl
theorem aru(x):A.le (Yx BT x) (fv 4 Qt x):=A.bu λh=>by
 obtain⟨l,d,⟨⟩⟩:=x;obtain⟨aq,ai⟩:c_ d/\eD _ l:=h;unfold Yx;simp (disch:=decide) only [nL ai,A.bn,nF,nG,nH,nI,nJ,nK];rw[QB aq _ _ (by simp) (by simp),A.aF];rfl
theorem Pa(x):A.le (Yy BT x) (fv 1 Qu x):=A.bu λh=>by
 obtain⟨l,d,⟨⟩⟩:=x;obtain⟨aq,ai⟩:c_ d/\eD _ l:=h;unfold Yy;rw[QB aq _ _ (by simp) (show l.length<2 ^ 63 by have:=ai.JJ;omega),A.aF];rfl
theorem arv(x):A.le (Yz H.yy.sh za.sh x) (fv 1 Jz x):=A.bu λh=>by
 obtain⟨l,d,⟨⟩⟩:=x;obtain⟨aq,ai⟩:c_ d/\eD _ l:=h;unfold Yz;simp (disch:=decide) only [nL ai,A.bn,nF,nG,nH,nI,nJ,nK];rw[show H.yy.sh (d.2,bo l 0)=A.pure _ from A.bO aq.fD _];simp only[A.hQ,A.e4,A.bn,JL];rfl
theorem arw(x):A.le (YD H.yz.sh za.sh x) (fv 1 JA x):=A.bu λh=>by
 obtain⟨l,d,⟨⟩⟩:=x;obtain⟨aq,ai⟩:c_ d/\eD _ l:=h;unfold YD;simp (disch:=decide) only [nL ai,A.bn,nF,nG,nH,nI,nJ,nK];rw[show H.yz.sh (d.2,bo l 0)=A.pure _ from A.bO aq.fD _];simp only[A.hQ,A.e4,A.bn,JL];rfl
theorem arx(x):A.le (YE H.yA.sh za.sh x) (fv 1 JB x):=A.bu λh=>by
 obtain⟨l,d,⟨⟩⟩:=x;obtain⟨aq,ai⟩:c_ d/\eD _ l:=h;unfold YE;simp (disch:=decide) only [nL ai,A.bn,nF,nG,nH,nI,nJ,nK];rw[show H.yA.sh (d.2,bo l 0)=A.pure _ from A.bO aq.fD _];simp only[A.hQ,A.e4,A.bn,JL];rfl
theorem ary(x):A.le (YF H.yB.sh za.sh x) (fv 1 JC x):=A.bu λh=>by
 obtain⟨l,d,⟨⟩⟩:=x;obtain⟨aq,ai⟩:c_ d/\eD _ l:=h;unfold YF;simp (disch:=decide) only [nL ai,A.bn,nF,nG,nH,nI,nJ,nK];rw[show H.yB.sh (d.2,bo l 0)=A.pure _ from A.bO aq.fD _];simp only[A.hQ,A.e4,A.bn,JL];rfl
theorem QC{a b:Int}:(ee a b).length=(b+1 - a).toNat:=by simp[ee];omega
theorem aao(c:H.a1)(u t:Int):(H.nn c u t).1.length<=101:=Nat.le_trans (List.length_filter_le ..) (by rw[QC];decide)
theorem aap{c:H.a1}{u t:Int}(h:(H.nn c u t).2=0):0<(H.nn c u t).1.length:=by
 unfold H.nn at h ⊢;rcases H.yG c (H.wj u t) with⟨E,_⟩ | ⟨E,U,ag,a6⟩
 ·omega
 ·have aB:=H.l9 U;have cK:(0<=u/\u<=9)/\0<=t/\t<=9999:=by
   unfold H.wj at ag;rw[Bool.and_eq_true,H.og,H.og]at ag;exact ag
  have eB:H.cO c≠[]:=by
   intro he;unfold H.eE at E;grind
  obtain⟨w,T,aU⟩:=List.exists_cons_of_ne_nil eB;have hw:H.iy c w=true:=H.uT (by grind);have al:=H.Ym aB hw cK.1 t;have W:-1<=H.lB c w u t/\H.lB c w u t<=99:=by
   rcases H.Pt c w u t with h | ⟨s,aD,h⟩
   ·omega
   ·rw[h];obtain⟨e,he,rfl⟩:=List.mem_map.1 aD;have:=H.Pq aB (List.mem_filter.1 he).1;omega
  refine List.length_pos_of_mem (a:=H.lB c w u t) (List.mem_filter.2 ⟨pT.2 W,?_⟩);rw[List.contains_iff_mem];unfold H.O6;grind
theorem arz(x):A.le (YG H.yC.sh q8.sh y'.sh x) (fv 2 JD x):=A.bu λh=>by
 obtain⟨l,d,⟨⟩⟩:=x;obtain⟨aq,ai⟩:c_ d/\eD _ l:=h;unfold YG;simp (disch:=decide) only [nL ai,A.bn,nF,nG,nH,nI,nJ,nK];have E:=aao d.2 (bo l 0) (bo l 1);have U:=aap (c:=d.2) (u:=bo l 0) (t:=bo l 1);have hc:H.yC.sh (d.2,bo l 0,bo l 1)=A.pure (H.nn d.2 (bo l 0) (bo l 1)):=A.bO aq.fD _;simp only[hc];show _=A.pure (BQ (H.nn d.2 (bo l 0) (bo l 1)),d,());generalize H.nn d.2 (bo l 0) (bo l 1)=r at *
 simp only[A.hQ,A.e4,A.bn];rw[A.bt (λW=>⟨⟨W,trivial⟩,⟨by decide,by grind⟩,trivial⟩),zb (by omega),A.aF];unfold BQ;by_cases e:(decide (r.2≠0)||decide (r.1.getD 0 0>=0))=true
 ·grind
 ·rw[if_neg e,if_neg e];have bE:r.2=0:=by grind
  have an:=U bE;by_cases ax:r.1.length=1
  ·grind
  ·rw[if_neg (by grind),if_neg ax];rw[A.bt ⟨by decide,by grind,Int.le_refl _⟩];have p1:List.take (Int.ofNat r.1.length).toNat r.1=r.1:=by simp
   rw[p1];rw[QA (by grind),A.aF];have lT:=Ft (r.1.drop 1);rw[A.bt (fs (by grind))];rfl
theorem aaq(c:H.a1)(t:Int):(H.np c t).1.length<=10/\(H.np c t).2.1.length<=10:=by
 unfold H.np;split
 ·simp
 ·exact⟨Nat.le_trans (List.length_filter_le ..) (by rw[QC];decide),Nat.le_trans (List.length_filter_le ..) (by rw[QC];decide)⟩
theorem arA(x):A.le (YH H.yD.sh q8.sh y'.sh x) (fv 1 JE x):=A.bu λh=>by
 obtain⟨l,d,⟨⟩⟩:=x;obtain⟨aq,ai⟩:c_ d/\eD _ l:=h;unfold YH;simp (disch:=decide) only [nL ai,A.bn,nF,nG,nH,nI,nJ,nK];have E:=aaq d.2 (bo l 0);have hc:H.yD.sh (d.2,bo l 0)=A.pure (H.np d.2 (bo l 0)):=A.bO aq.fD _;simp only[hc];show _=A.pure (BR (H.np d.2 (bo l 0)),d,());generalize H.np d.2 (bo l 0)=r at *
 simp only[A.hQ,A.e4,A.bn];rw[zb (by simp),QA (by omega),QA (by omega)];have ey:=Ft r.1;have pn:=Ft r.2.1;unfold BR;by_cases e:r.2.2=0
 ·simp only[A.aF];rw[A.bt (fs (by grind)),A.bt (fs (by grind))];simp[e]
 ·simp[e]
theorem aar(w:bz)(i m k:Int):0<=u0 w i m k/\u0 w i m k<4:=by
 unfold u0 IK;grind
theorem arB(x):A.le (YJ u1.sh q8.sh x) (fv 3 JF x):=A.bu λh=>by
 obtain⟨l,d,⟨⟩⟩:=x;obtain⟨aq,ai⟩:c_ d/\eD _ l:=h;unfold YJ;simp (disch:=decide) only [nL ai,A.bn,nF,nG,nH,nI,nJ,nK];have hc:u1.sh (d.1.1,bo l 0,bo l 1,bo l 2)=A.pure (mb d.1.1 (bo l 0) (bo l 1) (bo l 2)):=A.bO aq.gp.1 _;simp only[hc];show _=A.pure (pe (mb d.1.1 (bo l 0) (bo l 1) (bo l 2)),d,());have E:0<=(mb d.1.1 (bo l 0) (bo l 1) (bo l 2)).1/\(mb d.1.1 (bo l 0) (bo l 1) (bo l 2)).1<4:=by
  have:=aar d.1.1 (bo l 0) (bo l 1) (bo l 2);unfold mb;grind
 generalize mb d.1.1 (bo l 0) (bo l 1) (bo l 2)=r at *
 simp only[A.hQ,A.e4,A.bn];rw[zb (by simp),A.bt ⟨E.1,E.2⟩];unfold pe;by_cases e:r.2=0<;>simp[e]
theorem aas{s:bI}(h:me s)(w:Int):(ou s w).1.length<=2000:=by
 have:=h.Fc;unfold ou Qn;grind
theorem arC(x):A.le (YR y3.sh q8.sh x) (fv 1 JG x):=A.bu λh=>by
 obtain⟨l,d,⟨⟩⟩:=x;obtain⟨aq,ai⟩:c_ d/\eD _ l:=h;unfold YR;simp (disch:=decide) only [nL ai,A.bn,nF,nG,nH,nI,nJ,nK];rw[show y3.sh (d.1,bo l 0)=A.pure (ou d.1 (bo l 0)) from A.bO aq.gp _];have:=aas aq.val (bo l 0);simp only[A.hQ,A.e4,A.bn];rw[zb (show (ou d.1 (bo l 0)).1.length<=60000 by omega),A.aF];rfl
def JM(x:z1'×Unit):A (z1'×Unit):=A.dP (x.1.length<=3000000) x
theorem arD(x):A.le (YS Jk.sh JM q8.sh x) (fv 0 Qy x):=A.bu λh=>by
 obtain⟨l,d,⟨⟩⟩:=x;obtain⟨aq,ai⟩:c_ d/\eD _ l:=h;have hm:=ai.JJ;change l.length<=10000 at hm;unfold YS;rw[show JM (l,())=A.pure (l,()) from A.bO (by grind) _,A.aF];rw[A.gv l (λi (o:z1')=>((l.length:Int),(i:Int),o++l.drop i,d,())) (λn o=>.next (o++[n - 1])) (λo=>.next (o,d,())) (λi o=>o.length=i) [] ?_ rfl ?_ ?_]
 ·rw[fr,yf,List.nil_append,A.aF,A.b2,A.bn];rw[show Jk.sh (d.1,l.map (· - 1))=A.pure (BM d.1 (l.map (· - 1))) from A.bO ⟨aq.gp,by grind⟩ _,A.aF,zb (by simp),A.aF];rfl
 ·simp
 ·intro i G o af;have hw:=bF (n:=(i:Int)+1) (by omega) (by omega);have au:=ai.num l[i] (by simp);have gX:=bF (n:=l[i] - 1) (by omega) (by omega);subst af;have cj:o.length<(o++l.drop o.length).length:=by grind
  have aB:(o++l.drop o.length)[o.length]=l[o.length]:=by simp
  have aD:(o++l.drop o.length).set o.length (l[o.length] - 1)=o++[l[o.length] - 1]++l.drop (o.length+1):=by
   rw[List.set_append_right _ _ (Nat.le_refl _),Nat.sub_self,List.drop_eq_getElem_cons G,List.set_cons_zero,List.append_assoc];rfl
  refine⟨?_,λbd dd=>?_⟩
  ·simp only[bW,cX G,if_true,cH cj,A.bn,cn,hw];rw[show (o++l.drop o.length).getD (Int.toNat (o.length:Int)) 0=l[o.length] by grind,gX,Int.toNat_natCast,aD];rfl
  ·grind
 simp
theorem arE(x):A.le (YT y1.sh q8.sh x) (fv 0 JH x):=A.bu λh=>by
 obtain⟨l,d,⟨⟩⟩:=x;obtain⟨aq,ai⟩:c_ d/\eD _ l:=h;unfold YT;rw[A.bn,show y1.sh d.1=A.pure (ph d.1 true) from A.bO aq.gp _,A.aF,zb (by simp),A.aF];rfl
theorem arF(x):A.le (YU y2.sh q8.sh x) (fv 0 JI x):=A.bu λh=>by
 obtain⟨l,d,⟨⟩⟩:=x;obtain⟨aq,ai⟩:c_ d/\eD _ l:=h;unfold YU;rw[A.bn,show y2.sh d.1=A.pure (qc d.1) from A.bO aq.gp _,A.aF,zb (by simp),A.aF];rfl
def QD{ak:Type}(x:List ak×Unit):A (List ak×Unit):=A.bind (A.any λ(b:Bool)=>b=true->x.1=[]) λ(y:Bool)=>if y=true then A.pure ([],()) else A.ad (b9 (Add.add 0 (List.length x.1))) (A.pure ([]++x.1,()))
abbrev fP(t:ab):aM:=⟨.slice t,.slice t,λx=>x.length<=3000000,λx=>x⟩
def q9{ak:Type}(x:List ak×Unit):A (List ak×Unit):=A.dP (x.1.length<=3000000) x
theorem wT{ak:Type}(x:List ak×Unit):A.le (QD x) (q9 x):=A.sX λh=>by
 unfold QD;rw[A.fY];refine⟨⟨false,by simp⟩,λb W=>?_⟩;change b=true->x.1=[]at W;obtain⟨l,⟨⟩⟩:=x;cases b with
 | true=>rw[show l=[] from W rfl];exact A.d_.2 rfl
 | false=>
  simp only[Bool.false_eq_true,if_false];exact A.kR.2 ⟨by change l.length<=3000000 at h;simp only[gY,b9];omega,A.d_.2 (by simp)⟩
theorem arG(x:z1'×Unit):A.le (QD x) (JM x):=wT x
def aat{ak:Type}(z:ak)(x:Int×Int×List ak×Unit):A ((Nat×Nat)×List ak×Unit):=
 A.ad (0<=x.1/\x.1<=x.2.1/\x.2.1<=Int.ofNat (List.length x.2.2.1)/\Int.ofNat (List.length x.2.2.1)<=Int.ofNat (List.length x.2.2.1)) (if decide
 (x.1=x.2.1)=true then A.pure ((0,List.length x.2.2.1),x.2.2.1,()) else A.ad ((0:Int)<=0/\0<=x.1/\x.1<=Int.ofNat (List.length x.2.2.1))
 (A.ad (0<=x.2.1/\x.2.1<=Int.ofNat (List.length x.2.2.1)/\Int.ofNat (List.length x.2.2.1)<=Int.ofNat (List.length x.2.2.1)) (A.ad (Add.add
 (Int.toNat x.1) (List.length (List.drop (Int.toNat x.2.1) (List.take (Int.toNat (Int.ofNat (List.length x.2.2.1))) x.2.2.1)))<=List.length x.2.2.1)
 (A.ad (0<=Int.ofNat (Add.add (Int.toNat x.1) (List.length (List.drop (Int.toNat x.2.1) (List.take (Int.toNat (Int.ofNat (List.length x.2.2.1)))
 x.2.2.1))) - Int.toNat 0)/\Int.ofNat (Add.add (Int.toNat x.1) (List.length (List.drop (Int.toNat x.2.1) (List.take (Int.toNat (Int.ofNat (List.length
 x.2.2.1))) x.2.2.1))) - Int.toNat 0)<=Int.ofNat (List.length x.2.2.1)/\Int.ofNat (List.length x.2.2.1)<=Int.ofNat (List.length (List.take
 (Int.toNat x.1) x.2.2.1++List.drop (Int.toNat x.2.1) (List.take (Int.toNat (Int.ofNat (List.length x.2.2.1))) x.2.2.1)++List.drop (Add.add
 (Int.toNat x.1) (List.length (List.drop (Int.toNat x.2.1) (List.take (Int.toNat (Int.ofNat (List.length x.2.2.1))) x.2.2.1)))) x.2.2.1) - Int.toNat
 0)) (A.ad True (A.pure ((Int.toNat 0,Add.add (Int.toNat x.1) (List.length (List.drop (Int.toNat x.2.1) (List.take (Int.toNat (Int.ofNat (List.length
 x.2.2.1))) x.2.2.1)))),List.take (Add.add (Int.toNat 0) (Int.toNat (Int.ofNat (Add.add (Int.toNat x.1) (List.length (List.drop (Int.toNat x.2.1)
 (List.take (Int.toNat (Int.ofNat (List.length x.2.2.1))) x.2.2.1))) - Int.toNat 0)))) (List.take (Int.toNat x.1) x.2.2.1++List.drop (Int.toNat
 x.2.1) (List.take (Int.toNat (Int.ofNat (List.length x.2.2.1))) x.2.2.1)++List.drop (Add.add (Int.toNat x.1) (List.length (List.drop (Int.toNat
 x.2.1) (List.take (Int.toNat (Int.ofNat (List.length x.2.2.1))) x.2.2.1)))) x.2.2.1)++List.replicate (Add.add (Int.toNat 0) (Int.toNat (Int.ofNat
 (List.length x.2.2.1))) - Add.add (Int.toNat 0) (Int.toNat (Int.ofNat (Add.add (Int.toNat x.1) (List.length (List.drop (Int.toNat x.2.1) (List.take
 (Int.toNat (Int.ofNat (List.length x.2.2.1))) x.2.2.1))) - Int.toNat 0)))) z++List.drop (Add.add (Add.add (Int.toNat 0) (Int.toNat (Int.ofNat
 (Add.add (Int.toNat x.1) (List.length (List.drop (Int.toNat x.2.1) (List.take (Int.toNat (Int.ofNat (List.length x.2.2.1))) x.2.2.1))) - Int.toNat
 0)))) (List.length (List.replicate (Add.add (Int.toNat 0) (Int.toNat (Int.ofNat (List.length x.2.2.1))) - Add.add (Int.toNat 0) (Int.toNat (Int.ofNat
 (Add.add (Int.toNat x.1) (List.length (List.drop (Int.toNat x.2.1) (List.take (Int.toNat (Int.ofNat (List.length x.2.2.1))) x.2.2.1))) - Int.toNat
 0)))) z))) (List.take (Int.toNat x.1) x.2.2.1++List.drop (Int.toNat x.2.1) (List.take (Int.toNat (Int.ofNat (List.length x.2.2.1))) x.2.2.1)++
 List.drop (Add.add (Int.toNat x.1) (List.length (List.drop (Int.toNat x.2.1) (List.take (Int.toNat (Int.ofNat (List.length x.2.2.1))) x.2.2.1))))
 x.2.2.1),())))))))
def JN{ak:Type}(z:ak)(x:Int×Int×List ak×Unit):A ((Nat×Nat)×List ak×Unit):=A.dP (0<=x.1/\x.2.1=x.1+1/\x.1<(x.2.2.1.length:Int)/\x.2.2.1.length<=3000000) ((0,x.2.2.1.length - 1),x.2.2.1.eraseIdx x.1.toNat++[z],())
theorem arH{ak:Type}(z:ak)(x):A.le (aat z x) (JN z x):=A.bu λh=>by
 obtain⟨i,j,l,⟨⟩⟩:=x;obtain⟨aT,E,U,ag⟩:0<=i/\j=i+1/\i<(l.length:Int)/\l.length<=3000000:=h;subst E;obtain⟨n,rfl⟩:∃ n:Nat,i=n:=⟨i.toNat,by omega⟩
 have au:n<l.length:=by omega
 have ax:((n:Int)+1).toNat=n+1:=by omega
 unfold aat;simp only[bW,Int.toNat_natCast,ax,List.take_length,gY,Int.toNat_zero,Nat.sub_zero,Nat.zero_add,List.length_drop];have aO:n+(l.length - (n+1))=l.length - 1:=by omega
 have cv:(l.take n++l.drop (n+1)++l.drop (l.length - 1))=l.eraseIdx n++l.drop (l.length - 1):=by rw[List.eraseIdx_eq_take_drop_succ]
 have ec:(l.eraseIdx n).length=l.length - 1:=by rw[List.length_eraseIdx_of_lt au]
 have gV:l.length - (l.length - 1)=1:=by omega
 rw[A.bt (by omega),if_neg (by simp;omega),A.bt (by omega),A.bt (by omega),A.bt (by omega)];rw[aO,cv,A.bt (by simp[ec]),A.bn];show _=A.pure ((0,l.length - 1),l.eraseIdx n++[z],());have j7:(l.eraseIdx n++l.drop (l.length - 1)).take (l.length - 1)=l.eraseIdx n:=by rw[List.take_append_of_le_length (by omega),List.take_of_length_le (by omega)]
 have so:(l.eraseIdx n++l.drop (l.length - 1)).drop l.length=[]:=List.drop_eq_nil_of_le (by simp[ec]);simp only[gV,j7,List.replicate_one,List.length_cons,List.length_nil,Nat.zero_add];rw[show l.length - 1+1=l.length by omega,so,List.append_nil]
def wU(x:bI×Unit):A wv:=A.dP (Fk x.1) (iR x.1)
theorem JO{x:z1'}(h:x.length<=2000000):H.o8.sh x=A.pure x:=A.bO (by show List.length x<=3000000;omega) _
theorem zc{t:ab}{x:(ab.slice t).aj}(h:List.length x<=2000000):(fP t).sh x=A.pure x:=A.bO (by show List.length x<=3000000;omega) _
theorem aau{gA:Type}{s:bI}(h:Fk s)(fin:bI->A gA):IG (fP kO).sh (fP k8).sh (fP j0).sh q9 H.o8.sh (fP nx).sh (fP mM).sh (fP p8).sh s fin=fin s:=by
 obtain⟨⟨b_,c7,eV,Be⟩,U,ag,a6,bM,dt,gK⟩:=h;obtain⟨⟨sp,mk,cut,aW⟩,st,j4,ld,r_,i_⟩:=s;change sp.length<=2000000 at b_;change mk.length<=2000000 at c7;change aW.length<=2000000 at eV;change ∀ m∈mk,m.length<=2000000/\∀ s∈m,s.2.1.length<=2000000 at Be;change st.length<=2000000 at U;change j4.length<=2000000 at ag;change ld.length<=2000000 at a6;change r_.length<=2000000 at bM;change ∀ p∈j4,p.2.2.2.2.length<=2000000 at dt;change ∀ p∈ld,p.1.length<=2000000 at gK;have aQ:(fP kO).sh sp=A.pure sp:=zc b_;have aV:(fP k8).sh mk=A.pure mk:=zc c7;have bK:(fP j0).sh aW=A.pure aW:=zc eV;have fz:H.o8.sh st=A.pure st:=JO U;have pD:(fP nx).sh j4=A.pure j4:=zc ag;have xW:(fP mM).sh ld=A.pure ld:=zc a6;have HK:(fP p8).sh r_=A.pure r_:=zc bM;unfold IG;simp only[aQ,aV,bK,A.hQ,A.e4,A.bn];rw[A.et mk (λi (_:Unit)=>((mk.length:Int),(i:Int),cut,st,j4,ld,r_,i_,0,0,sp,mk,aW,())) (λp b=>.next b) (λ_=>.next (cut,st,j4,ld,r_,i_,0,0,sp,mk,aW,())) () ?_ ?_ ?_]
 ·rw[fr,A.aF,A.b2];simp only[fz,pD,xW,HK,A.hQ,A.e4,A.bn];rw[A.et j4 (λi (_:Unit)=>((j4.length:Int),(i:Int),cut,i_,0,0,sp,mk,aW,st,j4,ld,r_,())) (λp b=>.next b) (λ_=>.next (cut,i_,0,0,sp,mk,aW,st,j4,ld,r_,())) () ?_ ?_ ?_]
  ·rw[fr,A.aF,A.b2];rw[A.et ld (λi (_:Unit)=>((ld.length:Int),(i:Int),cut,i_,0,0,sp,mk,aW,st,j4,ld,r_,())) (λp b=>.next b) (λ_=>.next (cut,i_,0,0,sp,mk,aW,st,j4,ld,r_,())) () ?_ ?_ ?_]
   ·rw[fr,A.aF,A.b2]
   ·rfl
   ·intro i G b;have hw:=bF (n:=(i:Int)+1) (by omega) (by omega);have hc:H.o8.sh ld[i].1=A.pure ld[i].1:=JO (gK _ (List.getElem_mem G));have pA:ld.set i (ld[i].1,ld[i].2)=ld:=List.set_getElem_self G;simp only[bW,cX G,if_true,dk G,cH G,A.bn,cn,hw];simp only[hc,A.hQ,A.e4,A.bn,Int.toNat_natCast,pA];rfl
   ·simp
  ·rfl
  ·intro i G b;have hw:=bF (n:=(i:Int)+1) (by omega) (by omega);have hc:H.o8.sh j4[i].2.2.2.2=A.pure j4[i].2.2.2.2:=JO (dt _ (List.getElem_mem G));have pA:j4.set i (j4[i].1,j4[i].2.1,j4[i].2.2.1,j4[i].2.2.2.1,j4[i].2.2.2.2)=j4:=List.set_getElem_self G;simp only[bW,cX G,if_true,dk G,cH G,A.bn,cn,hw];simp only[hc,A.hQ,A.e4,A.bn,Int.toNat_natCast,pA];rfl
  ·simp
 ·rfl
 ·intro i G b;have hw:=bF (n:=(i:Int)+1) (by omega) (by omega);obtain⟨hm,aD⟩:=Be _ (List.getElem_mem G);have hc:q9 (mk[i],())=A.pure (mk[i],()):=A.bO (by show mk[i].length<=3000000;omega) _;have arI:mk.set i mk[i]=mk:=List.set_getElem_self G;simp only[bW,cX G,if_true,dk G,cH G,A.bn,cn,hc,A.aF];simp only[Int.toNat_natCast];rw[A.et mk[i] (λj (_:Unit)=>(i,(mk.length:Int),(i:Int),(mk[i].length:Int),(j:Int),cut,st,j4,ld,r_,i_,0,0,sp,(mk,i),aW,mk[i],())) (λp b=>.next b) (λ_=>.next ((mk.length:Int),(i:Int),cut,st,j4,ld,r_,i_,0,0,sp,(mk,i),aW,mk[i],())) () ?_ ?_ ?_]
  ·rw[fr,A.aF,A.b2];simp only[hw,arI];rfl
  ·rfl
  ·intro j aE b;have hw:=bF (n:=(j:Int)+1) (by omega) (by omega);have hc:H.o8.sh mk[i][j].2.1=A.pure mk[i][j].2.1:=JO (aD _ (List.getElem_mem aE));have pA:mk[i].set j (mk[i][j].1,mk[i][j].2.1,mk[i][j].2.2)=mk[i]:=List.set_getElem_self aE;simp only[Prod.cY,Prod.fa,Prod.gw,bW,cX aE,if_true,dk aE,cH aE,A.bn,cn,hw];simp only[hc,A.hQ,A.e4,A.bn,Int.toNat_natCast,pA];rfl
  ·simp
 ·simp
theorem arJ(x):A.le (an9 (fP kO).sh (fP k8).sh (fP j0).sh q9 H.o8.sh (fP nx).sh (fP mM).sh (fP p8).sh x) (wU x):=A.bu λh=>aau h _
abbrev JP:aM:=⟨mc,mc,Fk,λs=>s⟩
theorem arK(x):A.le (an8 (fP kO).sh (fP k8).sh (fP j0).sh q9 H.o8.sh (fP nx).sh (fP mM).sh (fP p8).sh x) (JP.sh x):=A.bu λh=>aau h _
def wV(x:bI×ba×Unit):A (aK×ba×Unit):=A.dP (c_ x.2.1/\fE x.1) ((oy x.2.1 x.1).1,(oy x.2.1 x.1).2,())
theorem arL(x):A.le (YL p_.sh x) (wV x):=A.bu λh=>by
 obtain⟨s,d,⟨⟩⟩:=x;obtain⟨aq,aD⟩:c_ d/\fE s:=h;unfold YL;rw[show p_.sh s=A.pure (ji s) from A.bO aD _,A.aF];show _=A.pure ((oy d s).1,(oy d s).2,());unfold oy;by_cases e:ji s=0<;>simp[e]
theorem arM{d:ba}(aq:c_ d){s:bI}(aD:fE s):wV (s,d,())=A.pure ((oy d s).1,(oy d s).2,()):=A.bO ⟨aq,aD⟩ _
theorem JQ{d:ba}(aq:c_ d)(s:bI)(aD:fE s):A.bind (wV (s,d,())) (λy=>A.pure (y.1,y.2.1,()))=A.pure ((oy d s).1,(oy d s).2,()):=by rw[arM aq aD,A.aF]
theorem c_.copy{d:ba}(h:c_ d):Fk d.1:=aqQ h.val
theorem Fu{d:ba}(h:c_ d):wU (d.1,())=A.pure (iR d.1):=A.bO h.copy _
theorem arN(x):A.le (YI yO.sh wU h2.sh x) (fv 4 y6 x):=A.bu λh=>by
 obtain⟨l,d,⟨⟩⟩:=x;obtain⟨aq,ai⟩:c_ d/\eD _ l:=h;have hc:=aq.copy;have aD:ht (nE d.1.1 (bo l 0,bo l 1,bo l 2,bo l 3)):=⟨aq.gp.1.1,aq.gp.1.2.1,by have:=hc.1.2.2.1;simp only[nE,List.length_append,List.length_cons,List.length_nil];omega,aq.gp.1.2.2.2⟩
 unfold YI;rw[A.bn,Fu aq,A.aF];simp (disch:=decide) only [nL ai,A.bn,nF,nG,nH,nI,nJ,nK];rw[A.bt (by have:=hc.1.2.2.1;simp only[gY,b9,iR];omega)];show A.bind (h2.sh (nE d.1.1 (bo l 0,bo l 1,bo l 2,bo l 3))) _=A.pure ((y6 d l).1,(y6 d l).2,());rw[show h2.sh (nE d.1.1 (bo l 0,bo l 1,bo l 2,bo l 3))=A.pure (cN (nE d.1.1 (bo l 0,bo l 1,bo l 2,bo l 3))) from A.bO aD _,A.aF];have hlen:yO.sh (nE d.1.1 (bo l 0,bo l 1,bo l 2,bo l 3),bo l 0)=A.pure (wD (nE d.1.1 (bo l 0,bo l 1,bo l 2,bo l 3)) (bo l 0)):=A.bO aD _;have CT:yO.sh (((iR d.1).1,(iR d.1).2.1,(iR d.1).2.2.1,(iR d.1).2.2.2.2.1++[(bo l 0,bo l 1,bo l 2,bo l 3)]),bo l 0)=A.pure (wD (nE d.1.1 (bo l 0,bo l 1,bo l 2,bo l 3)) (bo l 0)):=hlen;simp only[CT,A.hQ,A.e4,A.bn];unfold y6;by_cases e:cN (nE d.1.1 (bo l 0,bo l 1,bo l 2,bo l 3))=0
 ·by_cases aO:(wD (nE d.1.1 (bo l 0,bo l 1,bo l 2,bo l 3)) (bo l 0)).2=0
  ·simp only[e,aO,ne_eq,not_true_eq_false,decide_false,Bool.false_eq_true,if_false];rfl
  grind
 grind
theorem arO(x):A.le (YK wU wV x) (fv 2 y7 x):=A.bu λh=>by
 obtain⟨l,d,⟨⟩⟩:=x;obtain⟨aq,ai⟩:c_ d/\eD _ l:=h;have hc:=aq.copy;unfold YK;rw[A.bn,Fu aq,A.aF];simp (disch:=decide) only [nL ai,A.bn,nF,nG,nH,nI,nJ,nK];show _=A.pure ((y7 d l).1,(y7 d l).2,());unfold y7;have aT:=ai.bo 0;have E:=ai.bo 1;by_cases e:bo l 0>=(d.1.2.1.length:Int)
 ·rw[if_pos (by simpa [iR]using e),if_pos e]
 ·rw[if_neg (by simpa [iR]using e),if_neg e];have au:(bo l 0).toNat<d.1.2.1.length:=by omega
  rw[A.bt ⟨aT.1,by show bo l 0<(d.1.2.1.length:Int);omega⟩,A.bt ⟨aT.1,by show bo l 0<(d.1.2.1.length:Int);omega⟩];have ae:∀ n∈d.1.2.1,0<=n/\n<=10:=λn au=>by
   have:=aq.val.ti.2;have fS:=aq.y_;unfold ji at fS;grind [ny,bZ]
  have W:=ae _ (List.getElem_mem au);have aB:d.1.2.1.getD (bo l 0).toNat 0=d.1.2.1[(bo l 0).toNat]:=by grind
  have hw:=bF (n:=d.1.2.1.getD (bo l 0).toNat 0+bo l 1) (by omega) (by omega);have gX:IntKind.wrap .i64 (Add.add ((iR d.1).2.2.2.2.2.1.getD (bo l 0).toNat 0) (bo l 1))=d.1.2.1.getD (bo l 0).toNat 0+bo l 1:=hw;rw[gX];exact JQ aq (d.1.1,d.1.2.1.set (bo l 0).toNat (d.1.2.1.getD (bo l 0).toNat 0+bo l 1),d.1.2.2) ⟨aq.gp.1,by show (List.set d.1.2.1 _ _).length<_;rw[List.length_set];exact aq.gp.2.1,aq.gp.2.2⟩
theorem arP(x):A.le (YM wU wV x) (fv 3 Qv x):=A.bu λh=>by
 obtain⟨l,d,⟨⟩⟩:=x;obtain⟨aq,ai⟩:c_ d/\eD _ l:=h;have hc:=aq.copy;have bM:=hc.2.2.2.2.1;obtain⟨ev,dM,eI,oV,oA,q_,tA⟩:=aq.gp;unfold YM;rw[A.bn,Fu aq,A.aF];simp (disch:=decide) only [nL ai,A.bn,nF,nG,nH,nI,nJ,nK];rw[A.bt (by simp only[gY,b9,iR];omega)];exact JQ aq (d.1.1,d.1.2.1,d.1.2.2.1,d.1.2.2.2.1,d.1.2.2.2.2.1++[(bo l 0,bo l 1,bo l 2)],d.1.2.2.2.2.2) ⟨ev,dM,eI,oV,by grind,q_,tA⟩
theorem arQ(x):A.le (YN wU wV x) (fv 4 Qw x):=A.bu λh=>by
 obtain⟨l,d,⟨⟩⟩:=x;obtain⟨aq,ai⟩:c_ d/\eD _ l:=h;have hc:=aq.copy;have bM:=hc.2.2.1;have hm:=ai.JJ;have hle:4<=l.length:=ai.Qz;obtain⟨ev,dM,eI,oV,oA,q_,tA⟩:=aq.gp;unfold YN;rw[A.bn,Fu aq,A.aF];simp (disch:=decide) only [nL ai,A.bn,nF,nG,nH,nI,nJ,nK];rw[A.bt ⟨by decide,by grind,Int.le_refl _⟩,A.bt (by simp only[gY,b9,iR];omega)];simp only[bW,Int.toNat_natCast,List.take_length];exact JQ aq (d.1.1,d.1.2.1,d.1.2.2.1++[(bo l 0,bo l 1,bo l 2,bo l 3,l.drop 4)],d.1.2.2.2) ⟨ev,dM,by grind,oV,oA,λp an=>by
  grind,tA⟩
theorem arR(x):A.le (YO wU wV x) (fv 5 Qx x):=A.bu λh=>by
 obtain⟨l,d,⟨⟩⟩:=x;obtain⟨aq,ai⟩:c_ d/\eD _ l:=h;have hc:=aq.copy;have bM:=hc.2.2.2.1;have hm:=ai.JJ;have hle:5<=l.length:=ai.Qz;obtain⟨ev,dM,eI,oV,oA,q_,tA⟩:=aq.gp;unfold YO;rw[A.bn,Fu aq,A.aF];simp (disch:=decide) only [nL ai,A.bn,nF,nG,nH,nI,nJ,nK];rw[A.bt ⟨by decide,by grind,Int.le_refl _⟩,A.bt (by simp only[gY,b9,iR];omega)];simp only[bW,Int.toNat_natCast,List.take_length];exact JQ aq (d.1.1,d.1.2.1,d.1.2.2.1,d.1.2.2.2.1++[(l.drop 5,(bo l 0,bo l 1),bo l 2,bo l 3,bo l 4)],d.1.2.2.2.2) ⟨ev,dM,eI,by grind,oA,q_,λp an=>by
  grind⟩
abbrev JR:dL:=([],(0,0),0,0,0)
theorem arS(x):A.le (YP (fP mM).sh (JN JR) x) (fv 1 y8 x):=A.bu λh=>by
 obtain⟨l,d,⟨⟩⟩:=x;obtain⟨aq,ai⟩:c_ d/\eD _ l:=h;have hc:=aq.copy.2.2.2.1;have aT:=ai.bo 0;unfold YP;simp (disch:=decide) only [nL ai,A.bn,nF,nG,nH,nI,nJ,nK];show _=A.pure ((y8 d l).1,(y8 d l).2,());unfold y8;by_cases e:bo l 0>=(d.1.2.2.2.1.length:Int)
 ·grind
 ·rw[if_neg (by grind),if_neg e];have lP:(fP mM).sh d.1.2.2.2.1=A.pure d.1.2.2.2.1:=zc hc;have hw:=bF (n:=bo l 0+1) (by omega) (by omega);simp only[lP,A.hQ,A.e4,A.bn,cn,hw];rw[show JN JR (bo l 0,bo l 0+1,d.1.2.2.2.1,())=A.pure _ from A.bO ⟨aT.1,rfl,by grind,by grind⟩ _,A.aF];grind
theorem aav{c:H.a1}{m:List H.a7}{v:z1'}(h:(H.ow c m v).2=0):H.cN c=0/\H.cN (H.ow c m v).1=0/\(H.ow c m v).1=H.nD c (H.gZ (c.2.1++m)) (H.r9 c.2.2.1 v):=by
 unfold H.ow at h ⊢;split at h
 ·omega
 split at h
 ·omega
 split at h
 ·omega
 split at h
 ·omega
 rename_i b' a2 a3 a4;rw[if_neg b',if_neg a2,if_neg a3,if_neg a4];have dr:H.cN c=0:=by omega
 have eb:H.cN (H.nD c m v)=0:=by omega
 refine⟨dr,?_,rfl⟩;have g1:H.jY c=true:=by unfold H.cN at dr;grind
 have eh:H.jY (H.nD c m v)=true:=by unfold H.cN at eb;grind
 have au:H.k6 (H.gZ (c.2.1++m))=false:=by
  rw[H.A_];have:=(H.A_ (c.2.1++m)).1 (by grind);exact λa a8 b W=>this a (H.Ez a8) b (H.Ez W)
 have lW:H.jY (H.nD c (H.gZ (c.2.1++m)) (H.r9 c.2.2.1 v))=true:=by
  unfold H.jY H.ta at g1 eh ⊢;simp only[Bool.and_eq_true,List.all_eq_true,Bool.not_eq_true',Bool.or_eq_false_iff,H.nD]at g1 eh ⊢;obtain⟨⟨⟨⟨⟨⟨⟨⟨ke,z2⟩,z3⟩,z4⟩,z5⟩,aQ⟩,aV⟩,bK⟩,fz⟩:=g1;obtain⟨⟨⟨⟨_,_⟩,arT⟩,ay6⟩,_⟩:=eh;simp only[Bool.or_eq_true,not_or,bW,Bool.not_eq_true]at a4;refine⟨⟨⟨⟨⟨⟨⟨⟨ke,a4.1⟩,a4.2⟩,z4⟩,z5⟩,aQ⟩,λs aD=>?_⟩,λn au=>?_⟩,fz⟩
  ·rcases List.mem_append.1 (H.Ez aD) with h | h
   ·exact aV s h
   ·exact arT s h
  ·have:=(List.mem_filter.1 au).2;grind
 unfold H.cN;rw[if_pos lW,if_neg (by show ¬H.k6 (H.gZ (c.2.1++m))=true;grind)]
theorem QE{d:ba}(aq:c_ d)(m:List H.a7)(v:z1'):c_ (tz d m v).2:=by
 unfold tz;split
 ·exact aq
 ·rename_i h;obtain⟨E,U,ag⟩:=aav (c:=d.2) (m:=m) (v:=v) (by omega);exact⟨aq.gp,aq.y_,U,by rw[ag];exact aq.BS⟩
theorem JS{d:ba}(aq:c_ d){s:bI}(aD:fE s):c_ (oy d s).2:=by
 unfold oy;split
 ·exact aq
 ·rename_i h;exact⟨aD,by grind,aq.q7,aq.BS⟩
theorem arU{d:ba}(aq:c_ d){l:z1'}(ai:l.length<=10000)(j:Nat):c_ (y9 j d l).2:=by
 have hc:=aq.copy;obtain⟨ev,dM,eI,oV,oA,q_,tA⟩:=aq.gp;obtain⟨bC,c2,c3,c4,c5,lO,oK⟩:=aq.copy;unfold y9;split<;>try exact aq
 ·exact QE aq _ _
 ·exact QE aq _ _
 ·exact QE aq _ _
 ·unfold y6;split
  ·exact aq
  split
  ·exact aq
  rename_i h _;have h:cN (nE d.1.1 (bo l 0,bo l 1,bo l 2,bo l 3))=0:=by omega
  refine⟨⟨⟨ev.1,ev.2.1,by have:=hc.1.2.2.1;simp only[nE,List.length_append,List.length_cons,List.length_nil];omega,ev.2.2.2⟩,dM,eI,oV,oA,q_,tA⟩,?_,aq.q7,aq.BS⟩;have aD:=aq.y_;unfold ji at aD ⊢;rw[if_neg (by omega)];have:ny (nE d.1.1 (bo l 0,bo l 1,bo l 2,bo l 3),d.1.2)=ny d.1:=rfl;grind
 ·unfold y7;split
  ·exact aq
  ·exact JS aq ⟨ev,by grind,eI,oV,oA,q_,tA⟩
 ·exact JS aq ⟨ev,dM,eI,oV,by grind,q_,tA⟩
 ·exact JS aq ⟨ev,dM,by grind,oV,oA,λp an=>by
   grind,tA⟩
 ·exact JS aq ⟨ev,dM,eI,by grind,oA,q_,λp an=>by
   grind⟩
 ·unfold y8;split
  ·exact aq
  ·refine⟨⟨ev,dM,eI,by grind,oA,q_,λp an=>tA p (List.mem_of_mem_eraseIdx an)⟩,?_,aq.q7,aq.BS⟩;have aD:=aq.y_;unfold ji at aD ⊢;split at aD
   ·omega
   ·rename_i vj;rw[if_neg vj];split at aD
    ·rename_i ae;rw[if_pos];unfold ny at ae ⊢;simp only[Bool.and_eq_true,List.all_eq_true,decide_eq_true_eq]at ae ⊢;obtain⟨⟨⟨⟨⟨⟨⟨⟨df,dJ⟩,mX⟩,r4⟩,cY⟩,fa⟩,gw⟩,h0⟩,jV⟩:=ae;exact⟨⟨⟨⟨⟨⟨⟨⟨df,dJ⟩,mX⟩,r4⟩,by grind⟩,λx ah=>fa x (List.mem_of_mem_eraseIdx ah)⟩,gw⟩,h0⟩,jV⟩
    omega
theorem aaw:∀ (s:aK) (n k:Nat),n<10 ^ k->k+s.length<=18->0<=gb s n->Go.Lib.parseUint10 n s=.ok (gb s n).toNat
 | [],n,k,_,_,_=>by rfl
 | c::s,n,k,E,U,ag=>by
  unfold gb at ag ⊢;split at ag
  ·omega
  ·rename_i hc;rw[if_neg hc];simp only[Bool.or_eq_true,decide_eq_true_eq,not_or]at hc;have HE:48<=c.toNat/\c.toNat<=57:=by omega
   have al:(10:Nat) ^ (k+1)<=10 ^ 18:=Nat.pow_le_pow_right (by decide) (by grind);have Xp:(10:Nat) ^ (k+1)=10 ^ k*10:=Nat.pow_succ ..;have e:10*(n:Int)+((c.toNat:Int) - 48)=((n*10+(c.toNat - 48):Nat):Int):=by omega
   rw[e]at ag ⊢;unfold Go.Lib.parseUint10;rw[if_pos HE,if_neg (by omega),if_neg (by omega)];exact aaw s _ (k+1) (by omega) (by grind) ag
theorem QF{s:aK}(h:0<=eY s):Go.Lib.atoiAll s=.ok (eY s):=by
 unfold eY at h ⊢;split at h
 ·omega
 ·rename_i W;rw[if_neg W];simp only[Bool.or_eq_true,decide_eq_true_eq,not_or]at W;obtain⟨⟨aT,dt⟩,_⟩:=W;cases s with
  | nil=>grind
  | cons c r=>
   have an:=aaw (c::r) 0 0 (by decide) (by omega) h;have ai:=Qq (c::r) 0 0 (by decide) (by decide);have gq:(10:Int) ^ (0+(c::r).length)<=10 ^ 6:=by
    have:=Nat.pow_le_pow_right (n:=10) (by decide) (show 0+(c::r).length<=6 by omega);grind
   have aq:¬(decide ((c.toNat:Int)<48)||decide ((c.toNat:Int) > 57))=true:=by
    intro hc;unfold gb at h;grind
   simp only[Bool.or_eq_true,decide_eq_true_eq,not_or]at aq;unfold Go.Lib.atoiAll;simp only;rw[if_neg (by omega)];unfold Go.Lib.parseMag;grind
theorem arV{s:aK}(h:0<=eY s):tx s=eY s:=by
 unfold tx;rw[QF h]
abbrev Fv:aM:=⟨.str,.az (.int .i64) .bool,λx=>x.length<=10000,rG⟩
abbrev JT:aM:=⟨.az .str .str,tw,λx=>x.1.length<=10000/\x.2=[32],λx=>cE x.1⟩
abbrev arW:ab:=.st (.az bq (.az .bool .en))
def JU:List (aK×Int×Bool)->Nat->List (aK×Bs)
 | [],_=>[]
 | p::l,i=>(p.1,p.2.1,p.2.2,some (119+i))::JU l (i+1)
def wW:List (aK×Bs):=JU kP 0
abbrev JV:aM:=⟨.cS,.map .str arW,λ_=>True,λ_=>wW⟩
theorem arX(x):A.le (anN x) (JV.sh x):=A.bu λ_=>congrArg A.pure (show _=wW by decide +kernel)
theorem aax(w:aK):∀ (l:List (aK×Int×Bool)) (i:Nat),((JU l i).find? λp=>decide (w=p.1)).map (λx=>x.2)=(oz w l i).map λr=>(r.1,r.2.1,some (119+r.2.2))
 | [],_=>rfl
 | p::l,i=>by
  unfold JU oz;rw[List.find?_cons];by_cases h:w=p.1
  ·simp[h]
  ·simp[h,aax w l (i+1)]
theorem aay{w:aK}:∀ {l:List (aK×Int×Bool)} {i:Nat} {r:Int×Bool×Nat},oz w l i=some r->i<=r.2.2/\r.2.2<i+l.length/\l[r.2.2 - i]?=some (w,r.1,r.2.1)
 | [],_,_,h=>by simp[oz]at h
 | p::l,i,r,h=>by
  unfold oz at h;split at h
  ·grind
  ·have:=aay h;grind
def JW(j:Nat):Nat:=(kP.getD j ([],0,false)).2.1.toNat
def Fw(k:Nat):z1'×ba×Unit->A (aK×ba×Unit):=fv (JW (k - 119)) (y9 (k - 119))
theorem arY:∀ p∈kP,0<=p.2.1:=by decide
def JX(x:List (aK×Bs)×aK×ba×Unit):A (aK×ba×Unit):=A.dP (x.1=wW/\x.2.1.length<=10000/\c_ x.2.2.1) ((iA x.2.2.1 x.2.1).1,(iA x.2.2.1 x.2.1).2,())
theorem arZ{l:List aK}(h:l.all (λw=>decide (0<=eY w))=true):l.map tx=l.map eY:=List.map_congr_left λw hw=>arV (by grind)
theorem aaz{aI:Type}(r:aI)(fin:z1'->aI):∀ (l:List aK) (b:z1'),eX (λw b=>if (!decide (0<=eY w))=true then .done r else .next (b++[tx w])) fin l b=if l.all (λw=>decide (0<=eY w))=true then fin (b++l.map tx) else r
 | [],b=>by simp[eX]
 | w::l,b=>by
  unfold eX;rw[List.all_cons,List.map_cons];cases h:decide (0<=eY w) with
  | true=>
   simp only[Bool.not_true,Bool.false_eq_true,if_false,Bool.true_and];rw[aaz r fin l,List.append_assoc];rfl
  | false=>rfl
theorem ar0(x):A.le (Yu JT.sh Fv.sh Fw x) (JX x):=A.bu λh=>by
 obtain⟨ar1,s,d,⟨⟩⟩:=x;obtain⟨ae,aD,aq⟩:ar1=wW/\s.length<=10000/\c_ d:=h;subst ae;unfold Yu;show _=A.pure ((iA d s).1,(iA d s).2,());rw[show JT.sh (s,[32])=A.pure (cE s) from A.bO ⟨aD,rfl⟩ _,A.aF];have ai:=u' s;rw[A.bt ⟨by decide,by grind⟩];have ar:((wW.find? λp=>decide ((cE s).getD (Int.toNat 0) []=p.1)).map λx=>x.2)=(oz ((cE s).getD 0 []) kP 0).map λr=>(r.1,r.2.1,some (119+r.2.2)):=aax _ _ _;have hw:=bF (n:=((cE s).length:Int) - 1) (by omega) (by omega);simp only[ar,bW,hw];unfold iA Fq;cases G6:oz ((cE s).getD 0 []) kP 0 with
 | none=>simp
 | some r=>
  obtain⟨k,m,j⟩:=r;obtain⟨_,aE,al⟩:=aay G6;simp only[Option.map_some,Option.isSome_some,Option.getD_some,Bool.not_true,Bool.false_or];by_cases W:(decide (((cE s).length:Int) - 1<k)||decide (((cE s).length:Int) - 1 > k)&&!m)=true
  ·grind
  ·rw[if_neg W,if_neg W];rw[A.bt ⟨by decide,by omega,Int.le_refl _⟩];simp only[Int.toNat_natCast,List.take_length,show Int.toNat 1=1 from rfl];have vu:((cE s).drop 1).length=(cE s).length - 1:=by simp
   rw[A.gv ((cE s).drop 1) (λi (o:z1')=>((cE s).drop 1,(((cE s).drop 1).length:Int),(i:Int),(k,m,some (119+j)),o,d,())) (λw o=>if (!decide (0<=eY w))=true then .done (.done ([63],d,())) else .next (o++[tx w])) (λo=>.next ((k,m,some (119+j)),o,d,())) (λi o=>o.length=i) [] ?_ rfl ?_ ?_]
   ·rw[aaz,A.aF];unfold Fo;by_cases a8:((cE s).drop 1).all (λw=>decide (0<=eY w))=true
    ·rw[if_pos a8,if_pos a8,A.b2,arZ a8,List.nil_append];rw[A.bt]
     ·have zt:0<=k:=arY _ (List.mem_of_getElem? al);have cj:JW j=k.toNat:=by
       unfold JW;grind
      have cK:eD (JW j) (((cE s).drop 1).map eY):=by
       simp only[Bool.or_eq_true,decide_eq_true_eq,not_or]at W;refine⟨by grind,by grind,λn au=>?_⟩;obtain⟨w,hw,rfl⟩:=List.mem_map.1 au;have:=List.all_eq_true.1 a8 w hw;exact⟨by grind,(arh w).2⟩
      have ay7:Fw (119+j) (((cE s).drop 1).map eY,d,())=A.pure ((y9 j d (((cE s).drop 1).map eY)).1,(y9 j d (((cE s).drop 1).map eY)).2,()):=by
       unfold Fw;rw[show 119+j - 119=j by omega];exact A.bO ⟨aq,cK⟩ _
      simp_all
     ·have:j<20:=by simpa [kP]using aE
      exact⟨119+j,by
       have e:∀ j:Fin 20,(119+j.val)∈[119,120,121,122,123,124,125,126,127,128,129,130,131,132,133,134,135,136,137,138]:=by decide
       exact e ⟨j,this⟩,rfl⟩
    ·rw[if_neg a8,if_neg a8];rfl
   ·rfl
   ·intro i G o af;have hw:=bF (n:=(i:Int)+1) (by omega) (by omega);refine⟨?_,λbd dd=>?_⟩
    ·simp only[cX G,if_true,dk G,cH G,A.bn,cn,hw];rw[show Fv.sh ((cE s).drop 1)[i]=A.pure (rG ((cE s).drop 1)[i]) from A.bO (Nat.le_trans (aak s (List.mem_of_mem_drop (List.getElem_mem G))) aD) _,A.aF];unfold rG;by_cases au:0<=eY ((cE s).drop 1)[i]
     ·simp only[au,decide_true,Bool.not_true,Bool.false_eq_true,if_false];rw[A.bt (fs (by grind))];rfl
     simp_all
    grind
   simp
theorem aaA{d:ba}(aq:c_ d){s:aK}(aD:s.length<=10000):c_ (iA d s).2:=by
 unfold iA;split
 ·exact aq
 ·rename_i j l an;refine arU aq ?_ j;unfold Fq at an;split at an
  ·grind
  ·split at an
   ·grind
   ·unfold Fo at an;have:=u' s;grind
abbrev pj:aM:=⟨BP,.int .i64,λd=>fE d.1/\H.j6 d.2,jj⟩
theorem ar2(x):A.le (Yr p_.sh H.h2.sh x) (pj.sh x):=A.bu λh=>by
 obtain⟨E,U⟩:fE x.1/\H.j6 x.2:=h;unfold Yr;rw[show p_.sh x.1=A.pure (ji x.1) from A.bO E _,A.aF,show H.h2.sh x.2=A.pure (H.cN x.2) from A.bO U _,A.kn,A.aF];show _=A.pure (jj x);unfold jj;grind
theorem ar3(l:List H.a7):(H.gZ l).length<=l.length:=by
 have rA:(H.gZ l).map (·.1) ⊆ l.map (·.1):=by
  intro x ah;obtain⟨s,aD,rfl⟩:=List.mem_map.1 ah;exact List.mem_map_of_mem (H.Ez aD)
 have:=(H.X5 l).length_le_of_subset rA;grind
theorem ar4(l:z1'):(H.r9 l []).length<=l.length:=by
 unfold H.r9;have au:((ee 0 99).filter λid=>l.contains id||List.contains [] id).Nodup:=((H.Qp 0 99).imp λh=>by omega:(ee 0 99).Nodup).filter _;refine au.length_le_of_subset λx ah=>?_;grind
theorem aaB{c:H.a1}(h:H.cN c=0):H.ow c [] []=(H.nD c (H.gZ c.2.1) (H.r9 c.2.2.1 []),0):=by
 have G:=H.Jw h;have g:H.jY c=true:=by unfold H.cN at h;grind
 have U:H.cN (H.nD c [] [])=0:=by
  have:H.jY (H.nD c [] [])=true:=by
   unfold H.jY H.ta at g ⊢;simp only[Bool.and_eq_true,List.all_eq_true,Bool.not_eq_true',Bool.or_eq_false_iff,H.nD]at g ⊢;grind
  unfold H.cN;rw[if_pos this];rfl
 have ey:=ar3 c.2.1;have pn:=ar4 c.2.2.1;have ei:=G.ei;have jL:=G.jL;unfold H.ow;rw[if_neg (by simp[h]),if_neg (by omega),List.append_nil,if_neg (by rw[G.cl];decide),if_neg];grind
theorem ar5{d:ba}(h:c_ d):jh d=(d.1,H.nD d.2 (H.gZ d.2.2.1) (H.r9 d.2.2.2.1 [])):=by
 unfold jh;rw[aaB h.q7]
theorem aaC{d:ba}(h:c_ d):c_ (jh d):=by
 have:=aav (c:=d.2) (m:=[]) (v:=[]) (by rw[aaB h.q7]);exact⟨h.gp,h.y_,this.2.1,by rw[ar5 h];exact h.BS⟩
theorem aaD{p:ba->Prop}{q:aK->Prop}(an:∀ d s,p d->q s->p (iA d s).2):∀ (l:List aK) (d:ba),p d->(∀ s∈l,q s)->p (h5 d l).2
 | [],d,h,_=>h
 | s::l,d,h,bp=>aaD an l _ (an d s h (bp s (by simp))) λt aL=>bp t (by grind)
theorem ar6{d:ba}(h:c_ d){l:List aK}(ai:∀ s∈l,s.length<=10000):c_ (h5 d l).2:=aaD (p:=c_) (λd s h aD=>aaA h aD) l d h ai
def uP(x:ba×Unit):A (ba×Unit):=A.dP (c_ x.1) (jh x.1,())
theorem O'(x):A.le (Ys H.BO.sh JP.sh x) (uP x):=A.bu λh=>by
 obtain⟨d,⟨⟩⟩:=x;have h:c_ d:=h;unfold Ys;rw[show H.BO.sh (d.2,[],[])=A.pure (H.ow d.2 [] []) from A.bO ⟨h.j6,by simp,by simp⟩ _,A.aF];rw[show JP.sh d.1=A.pure d.1 from A.bO h.copy _];simp only[A.hQ,A.e4,A.bn];rfl
abbrev aaE(x:ba×List aK):Prop:=fE x.1.1/\H.fD x.1.2/\x.2.length<2 ^ 63/\∀ s∈x.2,s.length<=10000
theorem aaF{d:ba}(E:fE d.1)(U:H.fD d.2)(h:jj d=0):c_ d:=by
 unfold jj at h;split at h
 ·omega
 ·rename_i W;simp only[Bool.or_eq_true,decide_eq_true_eq,not_or,ne_eq,Decidable.not_not]at W;exact⟨E,W.1,W.2,U.2 W.2⟩
abbrev va:aM:=⟨.az BP tw,.az tw (.az BP (.int .i64)),aaE,λx=>wS x.1 x.2⟩
theorem aaG:∀ (l:List aK) (o:List aK) (d:ba),l.foldl (λ(p:List aK×ba) s=>(p.1++[(iA p.2 s).1],(iA p.2 s).2)) (o,d)=(o++(h5 d l).1,(h5 d l).2)
 | [],o,d=>by simp[h5]
 | s::l,o,d=>by
  rw[List.foldl_cons,aaG l];simp[h5]
theorem ar7(x):A.le (Yq pj.sh uP JV.sh JX x) (va.sh x):=A.bu λh=>by
 obtain⟨d,l⟩:=x;obtain⟨E,U,ag,a6⟩:aaE (d,l):=h;unfold Yq;show _=A.pure (wS d l);unfold wS;rw[show pj.sh d=A.pure (jj d) from A.bO ⟨E,U.gp⟩ _,A.aF];by_cases e:jj d=0
 ·rw[if_neg (show ¬decide (jj d≠0)=true by grind),if_neg (show ¬jj d≠0 by omega)];have aq:=aaF E U e;by_cases aO:l.length > 40
  ·grind
  ·rw[if_neg (show ¬decide (Int.ofNat l.length > 40)=true by grind),if_neg aO];rw[show uP (d,())=A.pure (jh d,()) from A.bO aq _,A.aF,show JV.sh ()=A.pure wW from rfl,A.aF];rw[A.gv l (λi (p:List aK×ba)=>(wW,l,(l.length:Int),(i:Int),p.1,0,0,0,0,0,0,0,0,0,p.2,())) (λs p=>.next (p.1++[(iA p.2 s).1],(iA p.2 s).2)) (λp=>.next (p.1,0,0,0,0,0,0,0,0,0,p.2,())) (λi p=>c_ p.2/\p.1.length=i) ([],jh d) ?_ ⟨aaC aq,rfl⟩ ?_ ?_]
   ·rw[fr,aaG,A.aF,A.b2,A.bn,List.nil_append]
   ·rfl
   ·rintro i G ⟨o,vk⟩ ⟨xf,af⟩;have hw:=bF (n:=(i:Int)+1) (by omega) (by omega);have aD:=a6 _ (List.getElem_mem G);change c_ vk at xf;change o.length=i at af;refine⟨?_,λbd dd=>?_⟩
    ·simp only[bW,cX G,if_true,dk G,cH G,A.bn,cn,hw];rw[show JX (wW,l[i],vk,())=A.pure _ from A.bO ⟨rfl,aD,xf⟩ _,A.aF,A.bt (fs (by grind))];rfl
    ·simp only[V.next.injEq]at dd;subst dd;exact⟨aaA xf aD,by grind⟩
   simp
 grind
end Go.Fer.aw
namespace Go.Fer.aw
open A (V)
def pk:ba:=(BN,[(0,0)],[],[],[],10,30,100,500,1000,2000,300)
def aaH(ar8:Unit->A bI)(x:Unit):A ba:=A.bind (ar8 ()) λy=>A.pure (y,[(0,0)],[],[],[],10,30,100,500,1000,2000,300)
abbrev JY:aM:=⟨.cS,BP,λ_=>True,λ_=>pk⟩
theorem ar9(x):A.le (aaH Jm.sh x) (JY.sh x):=A.bu λ_=>by
 unfold aaH;rw[show Jm.sh ()=A.pure BN from rfl,A.aF];rfl
def pO:List aK:=[[108,101,110,100,32,49,32,48,32,49,48,48,32,51,32,55],[98,97,99,107,32,50,32,48,32,49,55,49,32,51],[102,101,101,32,49],[119,104,101,114,101,32,51,32,49,55,49],[116,114,105,97,108,32,49,32,48,32,48,32,48],[115,116,111,99,107,32,48,32,49],[101,120,116,114,97],[100,114,111,112,32,51],[101,120,116,114,97]]
def JZ:List aK:=[[111,107],[111,107],[51,48,48,32,51,48,48],[115,104,111,112],[108,105,97,114],[111,107],[49],[111,107],[48]]
theorem ar_:jj pk=0:=by decide +kernel
theorem QG:(h5 (jh pk) pO).1=JZ/\(h5 (jh pk) pO).2.2.2.1.length=2/\(h5 (jh pk) pO).2.1.2.2.2.1.length=3:=by decide +kernel
end Go.Fer.aw
namespace Go.Fer.aw
open A (V)
open H (fs)
theorem ar'(x):A.le (Yp H.h2.sh p_.sh x) (pj.sh x):=A.bu λh=>by
 obtain⟨E,U⟩:fE x.1/\H.j6 x.2:=h;unfold Yp;rw[show p_.sh x.1=A.pure (ji x.1) from A.bO E _,A.aF,show H.h2.sh x.2=A.pure (H.cN x.2) from A.bO U _,A.kn,A.aF];show _=A.pure (jj x);unfold jj;grind
theorem aaI(c:UInt8):c.1.1.1=c.toNat:=rfl
theorem aaJ{n:Int}(h:0<=n)(U:n<=255):IntKind.wrap .u8 n=n:=by
 show (if (false&&decide (n % 2 ^ 8>=(2 ^ (8 - 1):Int)))=true then n % 2 ^ 8 - 2 ^ 8 else n % 2 ^ 8)=n;grind
theorem QH{ak β aI:Type}{p:ak->Bool}{r:aI}{g:ak->β->β}{fin:β->aI}:∀ (l:List ak) (b:β),eX (λx b=>if p x=true then .done r else .next (g x b)) fin l b=if l.any p=true then r else fin (l.foldl (λb x=>g x b) b)
 | [],b=>rfl
 | x::l,b=>by
  unfold eX;rw[List.any_cons,List.foldl_cons];cases h:p x with
  | true=>rfl
  | false=>
   simp only[Bool.false_eq_true,if_false,Bool.false_or];exact QH l (g x b)
def zd(c:UInt8):Bool:=decide ((c.toNat:Int)<48)||decide ((c.toNat:Int) > 57)
theorem asa(c:UInt8)(s:aK)(n:Int):gb (c::s) n=if zd c=true then -1 else gb s (10*n+((c.toNat:Int) - 48)):=rfl
theorem aaK{aI:Type}{r:aI}{fin:Int->aI}:∀ (s:aK) (n:Int),0<=n->eX (λc n=>if zd c=true then .done r else .next (10*n+((c.toNat:Int) - 48))) fin s n=if gb s n=-1 then r else fin (gb s n)
 | [],n,h=>by
  show fin n=if n=-1 then r else fin n
  grind
 | c::s,n,h=>by
  rw[asa];unfold eX;by_cases hc:zd c=true
  ·grind
  ·have oX:=hc;unfold zd at oX;simp only[Bool.or_eq_true,decide_eq_true_eq,not_or]at oX;simp only[hc];exact aaK s _ (by omega)
abbrev J0:aM:=⟨.str,.int .i64,λ_=>True,eY⟩
theorem asb(x):A.le (YZ x) (J0.sh x):=A.bu λ_=>by
 unfold YZ;show _=A.pure (eY x);unfold eY;simp only[bW,aaI,show Int.toNat 0=0 from rfl];rw[A.bt (λW=>⟨⟨W,trivial⟩,⟨Int.le_refl _,by grind⟩,trivial⟩)];have e:(decide ((x.length:Int)=0)||decide ((x.length:Int) > 6)||decide ((x.length:Int) > 1)&&decide (((x.getD 0 0).toNat:Int)=48))=(decide (x.length=0)||decide (x.length > 6)||decide (x.length > 1)&&decide ((x.getD 0 0).toNat=48)):=by
  grind
 rw[e];by_cases W:(decide (x.length=0)||decide (x.length > 6)||decide (x.length > 1)&&decide ((x.getD 0 0).toNat=48))=true
 ·grind
 ·rw[if_neg W,if_neg W];have dt:x.length<=6:=by
   grind
  rw[A.gv x (λi (n:Int)=>(x,n,(i:Int),())) (λc n=>if zd c=true then .done (.done (-1)) else .next (10*n+((c.toNat:Int) - 48))) (λn=>.next (n,())) (λi n=>0<=n/\n<10 ^ i) 0 ?_ ⟨Int.le_refl _,by decide⟩ ?_ ?_]
  ·rw[aaK _ _ (Int.le_refl _),A.aF];by_cases aq:gb x 0=-1
   ·rw[if_pos aq,aq];rfl
   ·rw[if_neg aq];rfl
  ·rfl
  ·rintro i G n ⟨aT,E⟩;have hw:=bF (n:=(i:Int)+1) (by omega) (by omega);have an:(10:Int) ^ i<=10 ^ 5:=by
    have:=Nat.pow_le_pow_right (n:=10) (by decide) (show i<=5 by omega);grind
   have x0:(10:Int) ^ (i+1)=10 ^ i*10:=Int.pow_succ ..;refine⟨?_,λbd dd=>?_⟩
   ·simp only[cX G,if_true,dk G,cH G,A.bn,cn,hw];rw[A.bt (λh=>⟨⟨h,h⟩,trivial,trivial⟩)];by_cases hc:zd x[i]=true
    ·rw[if_pos hc];have oX:(decide ((x[i].toNat:Int)<48)||decide ((x[i].toNat:Int) > 57))=true:=hc;simp_all
    ·rw[if_neg hc];have oX:¬(decide ((x[i].toNat:Int)<48)||decide ((x[i].toNat:Int) > 57))=true:=hc;rw[if_neg oX];simp only[Bool.or_eq_true,decide_eq_true_eq,not_or]at oX;rw[aaJ (by omega) (by omega),bF (n:=(x[i].toNat:Int) - 48) (by omega) (by omega),bF (n:=10*n) (by omega) (by omega),bF (n:=10*n+((x[i].toNat:Int) - 48)) (by omega) (by omega)];rfl
   ·split at dd
    ·grind
    ·rename_i hc;unfold zd at hc;grind
  simp
def BU(o:List aK)(c:UInt8):List aK:=if c=32 then o++[[]] else o.set (o.length - 1) (o.getD (o.length - 1) []++[c])
theorem QI:∀ (s:aK) (o:List aK) (w:aK),s.foldl BU (o++[w])=o++(match cE s with | []=>[w] | v::l=>(w++v)::l)
 | [],o,w=>by simp[cE]
 | c::s,o,w=>by
  rw[List.foldl_cons];unfold cE;by_cases hc:c=32
  ·rw[if_pos hc,show BU (o++[w]) c=o++[w]++[[]] from if_pos hc];have:=QI s (o++[w]) [];rw[this];have ai:=u' s;grind
  ·rw[if_neg hc,show BU (o++[w]) c=_ from if_neg hc];have e:(o++[w]).set ((o++[w]).length - 1) ((o++[w]).getD ((o++[w]).length - 1) []++[c])=o++[w++[c]]:=by
    simp
   rw[e];have:=QI s o (w++[c]);rw[this];have ai:=u' s;cases h:cE s with
   | nil=>exact absurd ai.1 (by rw[h];decide)
   | cons v l=>simp
abbrev J1:aM:=⟨.str,tw,λx=>x.length<=10000,cE⟩
theorem asc(x):A.le (YY x) (J1.sh x):=A.bu λh=>by
 change x.length<=10000 at h;unfold YY;show _=A.pure (cE x);rw[A.gv x (λi (o:List aK)=>(x,(i:Int),o,())) (λc o=>.next (BU o c)) (λo=>.next (o,())) (λi o=>1<=o.length/\o.length<=i+1/\∀ w∈o,w.length<=i) [[]] ?_ ⟨by decide,by decide,by simp⟩ ?_ ?_]
 ·rw[fr,A.aF,A.b2];have:=QI x [] [];rw[List.nil_append]at this;rw[this];have ai:=u' x;grind
 ·rfl
 ·rintro i G o ⟨E,U,ag⟩;have hw:=bF (n:=(i:Int)+1) (by omega) (by omega);have gX:=bF (n:=(o.length:Int) - 1) (by omega) (by omega);have ax:((o.length:Int) - 1).toNat=o.length - 1:=by omega
  have aO:((i:Int)+1).toNat=i+1:=by omega
  have asd:o.length - 1<o.length:=by omega
  have aB:o.getD (o.length - 1) []=o[o.length - 1]:=by grind
  have ay8:=ag _ (List.getElem_mem asd);have aq:(x.take (i+1)).drop i=[x[i]]:=by rw[List.drop_take,List.drop_eq_getElem_cons G,Nat.add_sub_cancel_left];rfl
  refine⟨?_,λbd dd=>?_⟩
  ·simp only[bW,cX G,if_true,dk G,cH G,A.bn,cn,hw,gX,ax,aaI];unfold BU;by_cases hc:x[i]=32
   ·have oX:decide ((x[i].toNat:Int)=32)=true:=by simp_all
    rw[if_pos oX,if_pos hc,A.bt (fs (by grind))];simp_all
   ·have oX:¬decide ((x[i].toNat:Int)=32)=true:=by
     intro h;apply hc;simp only[decide_eq_true_eq]at h;exact UInt8.toNat_inj.1 (show x[i].toNat=32 by omega)
    rw[if_neg oX,if_neg hc];rw[A.bt (by omega),A.bt (by omega),aO,Int.toNat_natCast,aq,A.bt (fs (by grind)),A.bt (by omega)];simp_all
  ·simp only[V.next.injEq]at dd;subst dd;unfold BU;grind
 simp
def qe:List aK×z1'×z1':=(kP.map (·.1),kP.map (·.2.1),kP.map λp=>if p.2.2=true then -1 else p.2.1)
abbrev J2:aM:=⟨.cS,.az tw (.az fO fO),λ_=>True,λ_=>qe⟩
theorem ase(x):A.le (an3 x) (J2.sh x):=A.bu λ_=>congrArg A.pure (show _=qe by rfl)
def J3(k:Int)(m:Bool)(n:Nat):Bool:=decide ((n:Int)>=k)&&(decide ((if m=true then -1 else k)<(0:Int))||decide ((n:Int)<=if m=true then -1 else k))
def vb(s:aK):aK×z1'×Bool:=
 if ((cE s).drop 1).any (λw=>decide (eY w<0))=true then ([],[],false) else
 match oz ((cE s).getD 0 []) kP 0 with
 | none=>([],[],false)
 | some (k,m,_)=>((cE s).getD 0 [],((cE s).drop 1).map eY,J3 k m ((cE s).drop 1).length)
theorem aaL{aI:Type}{w:aK}{g:Int->Bool->aI}{r:aI}:∀ (l:List (aK×Int×Bool)) (i:Nat),eX (λp (_:Unit)=>if decide (p.1=w)=true then .done (g p.2.1 p.2.2) else .next ()) (λ_=>r) l ()=match oz w l i with | none=>r | some q=>g q.1 q.2.1
 | [],_=>rfl
 | p::l,i=>by
  unfold eX oz;by_cases h:p.1=w
  ·simp[h]
  ·have U:¬w=p.1:=λe=>h e.symm;simp only[h,decide_false,Bool.false_eq_true,if_false,U];exact aaL l (i+1)
abbrev J4:aM:=⟨.str,.az .str (.az fO .bool),λx=>x.length<=10000,vb⟩
theorem asf(x):A.le (YX J1.sh J0.sh J2.sh x) (J4.sh x):=A.bu λh=>by
 change x.length<=10000 at h;unfold YX;show _=A.pure (vb x);unfold vb;rw[show J1.sh x=A.pure (cE x) from A.bO h _,A.aF];have ai:=u' x;have ah:List.length x<=10000:=h;have vu:((cE x).drop 1).length=(cE x).length - 1:=by simp
 rw[A.gv ((cE x).drop 1) (λi (o:z1')=>(cE x,((1+i:Nat):Int),o,())) (λw o=>if decide (eY w<0)=true then .done (.done ([],[],false)) else .next (o++[eY w])) (λo=>.next (cE x,o,())) (λi o=>o.length=i) [] ?_ rfl ?_ ?_]
 ·rw[QH,A.aF];by_cases a8:((cE x).drop 1).any (λw=>decide (eY w<0))=true
  ·rw[if_pos a8,if_pos a8];rfl
  ·rw[if_neg a8,if_neg a8,A.b2,yf,List.nil_append];rw[show J2.sh ()=A.pure qe from rfl,A.aF];generalize ni:((cE x).drop 1).map eY=BV;have au:BV.length=((cE x).drop 1).length:=by grind
   rw[<-au];rw[A.gv kP (λi (_:Unit)=>(cE x,qe.1,qe.2.1,qe.2.2,(i:Int),BV,())) (λp (_:Unit)=>if decide (p.1=(cE x).getD 0 [])=true then .done (.done ((cE x).getD 0 [],BV,J3 p.2.1 p.2.2 BV.length)) else .next ()) (λ_=>.next ()) (λ_ _=>True) () ?_ trivial ?_ ?_]
   ·rw[aaL (g:=λk m=>V.done ((cE x).getD 0 [],BV,J3 k m BV.length)) kP 0,A.aF];cases oz ((cE x).getD 0 []) kP 0<;>rfl
   ·rfl
   ·intro i G _ _;have ay9:i<20:=G;have hw:=bF (n:=(i:Int)+1) (by omega) (by omega);have ey:i<qe.1.length:=G;have pn:i<qe.2.1.length:=G;have zm:i<qe.2.2.length:=G;have g1:qe.1[i]'ey=(kP[i]'G).1:=List.getElem_map ..;have eh:qe.2.1[i]'pn=(kP[i]'G).2.1:=List.getElem_map ..;have g3:qe.2.2[i]'zm=if (kP[i]'G).2.2=true then -1 else (kP[i]'G).2.1:=List.getElem_map ..
    have an:((0:Int)<=0/\(0:Int)<((cE x).length:Int))=True:=eq_true ⟨by decide,by omega⟩;refine⟨?_,λ_ _=>trivial⟩;simp only[bW,cX ey,if_true,dk ey,dk pn,dk zm,cH ey,cH pn,cH zm,an,A.bn,cn,hw,g1,eh,g3,show Int.toNat 0=0 from rfl];by_cases hc:decide ((kP[i]'G).1=(cE x).getD 0 [])=true
    ·rw[if_pos hc,if_pos hc];unfold J3;simp_all
    simp_all
   ·intro _ _;simp[qe]
 ·rfl
 ·intro i G o af;have dz:1+i<(cE x).length:=by omega
  have hw:=bF (n:=((1+i:Nat):Int)+1) (by omega) (by omega);have aB:(cE x)[1+i]=((cE x).drop 1)[i]:=by grind
  refine⟨?_,λbd dd=>?_⟩
  ·simp only[bW,cX dz,if_true,dk dz,cH dz,A.bn,cn,hw,aB];rw[show J0.sh ((cE x).drop 1)[i]=A.pure (eY ((cE x).drop 1)[i]) from rfl,A.aF];by_cases au:decide (eY ((cE x).drop 1)[i]<0)=true
   ·simp_all
   ·rw[if_neg au,if_neg au,A.bt (fs (by grind))];rfl
  grind
 simp_all
theorem asg{s:aK}(h:s.length<=10000):J4.sh s=A.pure (vb s):=A.bO h _
abbrev ze:aM:=⟨.az tw tw,.bool,λx=>x.1.length<2 ^ 63,λx=>decide (x.1=x.2)⟩
theorem ash(a b:List aK)(h:a.length=b.length):((List.range a.length).any λi=>decide (a.getD i []≠b.getD i []))=!decide (a=b):=by
 rw[Bool.eq_iff_iff];simp only[List.any_eq_true,List.mem_range,decide_eq_true_eq,Bool.not_eq_true',decide_eq_false_iff_not];constructor
 ·grind
 ·intro eB;refine Classical.byContradiction λfF=>eB (List.ext_getElem h λi E U=>?_);simp_all
theorem asi(x):A.le (Y1 x) (ze.sh x):=A.bu λh=>by
 obtain⟨a,b⟩:=x;change a.length<2 ^ 63 at h;unfold Y1;show _=A.pure (decide (a=b));by_cases ai:a.length=b.length
 ·rw[if_neg (by grind)];rw[A.et (List.range a.length) (λi (_:Unit)=>(a,b,(i:Int),())) (λi (_:Unit)=>if decide (a.getD i []≠b.getD i [])=true then .done (.done false) else .next ()) (λ_=>.next ()) () ?_ ?_ ?_]
  ·rw[rU,ash a b ai,A.aF];cases decide (a=b)<;>rfl
  ·rfl
  ·intro i G _;have G:i<a.length:=by grind
   have W:i<b.length:=by omega
   have hw:=bF (n:=(i:Int)+1) (by omega) (by omega);simp only[List.getElem_range,bW,cX G,if_true,cH G,cH W,A.bn,cn,hw,Int.toNat_natCast];by_cases hc:decide (a.getD i []≠b.getD i [])=true
   ·rw[if_pos hc,if_pos hc,A.aF,A.aF];rfl
   ·rw[if_neg hc,if_neg hc];rfl
  simp
 ·rw[if_pos (show decide (Int.ofNat a.length≠Int.ofNat b.length)=true by grind),show decide (a=b)=false from decide_eq_false λe=>ai (by rw[e])]
theorem Fx{a b:List aK}(h:a.length<2 ^ 63):ze.sh (a,b)=A.pure (decide (a=b)):=A.bO h _
abbrev Fy:Type:=Int×Int×Int×Int
def QJ(s:aK)(c:Fy):Fy:=
 if (!(vb s).2.2)=true then c else if decide ((vb s).1=[119,105,115,104])=true then (IntKind.wrap .i64 (c.1+1),c.2)
 else if decide ((vb s).1=[112,105,101,99,101])=true then (c.1,IntKind.wrap .i64 (c.2.1+1),c.2.2.1,IntKind.wrap .i64 (c.2.2.2+IntKind.wrap .i64 (((vb s).2.1.length:Int) - 4)))
 else if decide ((vb s).1=[99,111,109,101,115])=true then (c.1,c.2.1,IntKind.wrap .i64 (c.2.2.1+1),c.2.2.2) else c
def aaM(d:ba):Fy:=((d.1.2.2.2.1.length:Int),(d.1.2.2.1.length:Int),(d.1.2.2.2.2.1.length:Int),d.1.2.2.1.foldl (λn p=>IntKind.wrap .i64 (n+(p.2.2.2.2.length:Int))) 0)
def asj(c:Fy):Bool:=decide (c.1 > 3)||decide (c.2.1 > 4)||decide (c.2.2.1 > 3)||decide (c.2.2.2 > 4)
def tB(d:ba)(l:List aK):Bool:=
 if (u_ d.1||H.ma d.2||decide ((l.length:Int) > 60))=true then true else if (l.any λs=>decide ((s.length:Int) > 80))=true then true
 else decide (jj d=0)&&asj (l.foldl (λc s=>QJ s c) (aaM d))
abbrev J5(x:ba×List aK):Prop:=fE x.1.1/\H.j6 x.1.2/\x.2.length<2 ^ 63
abbrev J6:aM:=⟨.az BP tw,.bool,J5,λx=>tB x.1 x.2⟩
theorem asl(x):A.le (YW pj.sh Jl.sh H.wu.sh J4.sh x) (J6.sh x):=A.bu λh=>by
 obtain⟨d,l⟩:=x;obtain⟨E,U,ag⟩:J5 (d,l):=h;have iU:d.1.2.2.1.length<2 ^ 63:=E.2.2.1;change l.length<2 ^ 63 at ag;unfold YW;show _=A.pure (tB d l);unfold tB;rw[show Jl.sh d.1=A.pure (u_ d.1) from A.bO E _,A.aF,show H.wu.sh d.2=A.pure (H.ma d.2) from A.bO U _,A.kn,A.aF];have e:(u_ d.1||(if (!u_ d.1)=true then H.ma d.2 else false)||decide (Int.ofNat l.length > 60))=(u_ d.1||H.ma d.2||decide ((l.length:Int) > 60)):=by grind
 rw[e];by_cases ar:(u_ d.1||H.ma d.2||decide ((l.length:Int) > 60))=true
 ·grind
 ·rw[if_neg ar,if_neg ar];rw[A.et d.1.2.2.1 (λi (n:Int)=>(l,(d.1.2.2.2.1.length:Int),(d.1.2.2.1.length:Int),(d.1.2.2.2.2.1.length:Int),n,(i:Int),d,())) (λp n=>.next (IntKind.wrap .i64 (n+(p.2.2.2.2.length:Int)))) (λn=>.next (l,(d.1.2.2.2.1.length:Int),(d.1.2.2.1.length:Int),(d.1.2.2.2.2.1.length:Int),n,d,())) 0 ?_ ?_ ?_]
  ·rw[fr,A.aF,A.b2];rw[A.et l (λi (c:Fy)=>(l,c.1,c.2.1,c.2.2.1,c.2.2.2,(i:Int),d,())) (λs c=>if decide ((s.length:Int) > 80)=true then .done (.done true) else .next (QJ s c)) (λc=>.next (c.1,c.2.1,c.2.2.1,c.2.2.2,d,())) (aaM d) ?_ ?_ ?_]
   ·rw[QH,A.aF];by_cases a8:(l.any λs=>decide ((s.length:Int) > 80))=true
    ·simp_all
    ·rw[if_neg a8,if_neg a8,A.b2];rw[show pj.sh d=A.pure (jj d) from A.bO ⟨E,U⟩ _,A.aF];rfl
   ·rfl
   ·intro i G c;have hw:=bF (n:=(i:Int)+1) (by omega) (by omega);simp only[Prod.cY,Prod.fa,Prod.gw,bW,cX G,if_true,dk G,cH G,A.bn,cn];by_cases hc:decide ((l[i].length:Int) > 80)=true
    ·simp_all
    ·rw[if_neg hc,if_neg hc];rw[asg (by grind),A.aF];unfold QJ;split
     ·simp_all
     ·split
      ·simp_all
      ·split
       ·simp_all
       ·split
        ·rw[A.aF,A.b2];simp only[hw];rfl
        ·rw[A.aF,A.b2];simp only[hw];rfl
   simp
  ·rfl
  ·intro i G n;have hw:=bF (n:=(i:Int)+1) (by omega) (by omega);simp_all
  simp
abbrev Fz:aM:=⟨.az BP (.az tw (.int .i64)),.bool,λx=>J5 (x.1,x.2.1),λx=>!tB x.1 x.2.1&&decide (jj x.1=0)&&decide ((x.2.1.length:Int)<=x.2.2)⟩
theorem asm(x):A.le (YV J6.sh pj.sh x) (Fz.sh x):=A.bu λh=>by
 obtain⟨d,l,n⟩:=x;obtain⟨E,U,ag⟩:J5 (d,l):=h;unfold YV;rw[show J6.sh (d,l)=A.pure (tB d l) from A.bO ⟨E,U,ag⟩ _,A.aF,show pj.sh d=A.pure (jj d) from A.bO ⟨E,U⟩ _,A.kn,A.aF];grind
theorem asn{d:ba}{l:List aK}{n:Int}(E:fE d.1)(U:H.j6 d.2)(h:(!tB d l&&decide (jj d=0)&&decide ((l.length:Int)<=n))=true):c_ d/\(l.length:Int)<=n/\∀ s∈l,s.length<=80:=by
 simp only[Bool.and_eq_true,Bool.not_eq_true',decide_eq_true_eq]at h;obtain⟨⟨ar,he⟩,au⟩:=h;unfold tB at ar;split at ar
 ·grind
 ·rename_i a8;split at ar
  ·grind
  ·rename_i W;simp only[Bool.or_eq_true,not_or,Bool.not_eq_true]at a8;refine⟨aaF E (H.anI a8.1.2) he,au,λs aD=>?_⟩;grind
theorem aso:fE pk.1/\H.j6 pk.2:=⟨aqT,by decide,by decide,by decide,by decide⟩
theorem asp:H.fD pk.2:=⟨⟨by decide,by decide,by decide,by decide⟩,λ_=>by decide +kernel⟩
abbrev FA:aM:=⟨.cS,.bool,λ_=>True,λ_=>true⟩
theorem asq:wS pk pO=(JZ,(h5 (jh pk) pO).2,0):=by
 unfold wS;rw[if_neg (by rw[ar_];decide),if_neg (by decide),QG.1]
theorem asr(x):A.le (Y0 va.sh ze.sh JY.sh x) (FA.sh x):=A.bu λ_=>by
 unfold Y0;rw[show JY.sh ()=A.pure pk from rfl,A.aF];show A.bind (va.sh (pk,pO)) _=A.pure true;rw[show va.sh (pk,pO)=A.pure (wS pk pO) from A.bO ⟨aso.1,asp,by decide,by decide⟩ _,A.aF,asq];show A.bind (ct (decide ((0:Int)=0)) (ze.sh (JZ,JZ)) false) _=_;rw[Fx (by decide),A.kn,A.aF];simp only[bW,QG.2.1,QG.2.2];simp
theorem ass:FA.sh ()=A.pure true:=rfl
theorem ast{d:ba}(aq:c_ d){l:List aK}(ay_:l.length<=40)(ai:∀ s∈l,s.length<=10000):va.sh (d,l)=A.pure ((h5 (jh d) l).1,(h5 (jh d) l).2,0):=by
 have e:va.sh (d,l)=A.pure (wS d l):=A.bO ⟨aq.gp,aq.fD,by show l.length<2 ^ 63;omega,ai⟩ _;rw[e];unfold wS;rw[if_neg (by rw[aq.aam];decide),if_neg (by omega)]
theorem HA{d:ba}{l:List aK}{n:Int}(E:fE d.1)(U:H.j6 d.2)(ag:l.length<2 ^ 63):Fz.sh (d,l,n)=A.pure (!tB d l&&decide (jj d=0)&&decide ((l.length:Int)<=n)):=A.bO ⟨E,U,ag⟩ _
end Go.Fer.aw
