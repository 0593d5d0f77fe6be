/- Part 6 of the proof of Halves: shallow programs of Go functions, and what they compute. No condition. -/
import Derived.Test.YtplfnoecifjgeaaGreatDoorHalvesE
import Derived.Lib.AtoiAll
import Derived.Lib.ItoaLen
import Derived.Lib.Join
noncomputable section
set_option linter.unusedVariables false
set_option linter.unusedSimpArgs false
namespace Go.Fer
open M (V)
theorem HI{ai:Type}{p q:ai->Bool}:∀ {l:List ai},(∀ x∈l,p x=q x)->l.all p=l.all q
 | [],_=>rfl
 | x::l,h=>by
  grind
theorem ana(x):M.le (aiM x) (b5.sh x):=M.bj λ_=>rfl
theorem anb(x):M.le (aiN b5.sh x) (oB.sh x):=M.bj λ_=>Yi x
abbrev xZ:aJ:=⟨tI,cP,λ_=>True,qg⟩
theorem anc(x):M.le (UX b5.sh x) (xZ.sh x):=M.bj λ_=>by
 unfold UX;simp only[aJ.sh,b5,M.dj,M.bf,xZ,qg]
theorem ane(x):M.le (aiJ b5.sh x) (po.sh x):=M.bj λh=>Yg x.1 x.2 h
theorem anf(x):M.le (UU b5.sh x) (rf.sh x):=M.bj λh=>by
 obtain⟨w,m,k⟩:=x;change gu w at h;have:=Yh w m k h;unfold GW at this;unfold UU;simp only[aJ.sh,AF,M.dj,M.bn h,b5,M.bf,bH]at this ⊢;have ah:=h.2.1;have hw:=bo (n:=(w.2.1.length:Int) - 1) (by omega) (by omega);simp only[hw,re];exact this
theorem ang(x):M.le (aiL x) (tZ.sh x):=M.bj λh=>Yj x h
theorem anh(l:z1')(n:Int)(h:l.length<2 ^ 63):MS (l,n)=M.pure (hq (λy=>decide (n=y)) l 0):=by
 unfold MS;rw[M.gn l (λi (b:Int)=>(l,n,(l.length:Int),b,())) (λy (i:Int)=>if decide (n=y)=true then (.done (.done i):V Int (V Unit Int)) else .next (i+1)) (λ_=>.next ()) (λi b=>b=(i:Int)) 0 ?_ ?_ ?_ ?_]
 ·rw[z7 (λy=>decide (n=y))];by_cases aU:(l.any λy=>decide (n=y))=true
  ·simp_all
  ·rw[if_neg aU,Dw l 0 aU];simp
 ·rfl
 ·rfl
 ·intro i E b aa;subst aa;have hw:=bo (n:=(i:Int)+1) (by omega) (by omega);refine⟨?_,λaZ cY=>?_⟩
  ·simp only[bH,cH E,if_true,cZ E,cv E,M.bf,M.aE,b8,hw];split<;>rfl
  grind
 simp
abbrev HJ:aJ:=⟨.aw fE tI,tI,λx=>x.1.length<2 ^ 63,λx=>hq (λy=>decide (x.2=y)) x.1 0⟩
theorem ani(x):M.le (MS x) (HJ.sh x):=M.bj λh=>anh x.1 x.2 h
theorem anj(x):M.le (UR HJ.sh x) (ov.sh x):=M.bj λh=>by
 unfold UR;simp only[aJ.sh,HJ,M.dj];rw[M.bn (by exact h),z6 _ _ _ (by omega)];grind
theorem ank(x):M.le (UW xZ.sh oB.sh x) ((⟨kl,cP,λ_=>True,rh⟩:aJ).sh x):=M.bj λ_=>by
 unfold UW;simp only[aJ.sh,xZ,oB,M.dj,M.iN,M.bf,implies_true,u9,rh]
abbrev HK:aJ:=⟨kl,cP,λ_=>True,rh⟩
theorem anl(x):M.le (UY tZ.sh (fcAllF tI).sh xZ.sh oB.sh x) (sw.sh x):=M.bj λh=>by
 unfold UY;simp only[aJ.sh,tZ,oB,fcAllF,xZ,M.dj,M.iN,M.bf,implies_true,M.gm];rw[M.bn (by exact λ_=>⟨h,λy _=>⟨_,M.bE trivial _⟩⟩),M.bn (by omega)];simp only[u9,bH];refine congrArg M.pure ?_;show _=pq x;unfold pq;grind
abbrev AJ:aJ:=⟨.aw kG (.bp (.fn tSlot .bool)),cP,λx=>∃ f,x.2=some f/\x.1.length<2 ^ 63/\∀ y∈x.1,∃ b,f y=M.pure b,λx=>decide ((x.1.length:Int)<=4)&&x.1.all λy=>((x.2.getD λ_=>M.fail) y).val false⟩
theorem anm(x):M.le (UZ (fcAllF tSlot).sh x) (AJ.sh x):=M.bj λh=>by
 obtain⟨m,o⟩:=x;obtain⟨f,aq,h1,h2⟩:=h;change o=some f at aq;subst aq;unfold UZ;simp only[aJ.sh,fcAllF,M.dj,M.iN,Option.getD_some];simp_all
abbrev AK:aJ:=⟨.aw jH (.bp km),cP,λx=>∃ w,x.2=some w/\gu w,λx=>sv (x.2.getD ([],[],0,[])) x.1⟩
theorem ano(x):M.le (U0 po.sh rf.sh b5.sh x) (AK.sh x):=M.bj λh=>by
 obtain⟨t,o⟩:=x;obtain⟨w,aq,h1⟩:=h;change o=some w at aq;subst aq;unfold U0;simp only[aJ.sh,po,rf,b5,M.dj,M.iN,Option.getD_some,M.bn h1,h1,implies_true,M.bf,u9,AK,sv]
theorem anp(x):M.le (UT b5.sh (fcAllF kl).sh (fcAllF kG).sh (fcAllF jH).sh AJ.sh AK.sh HK.sh sw.sh x) (sx.sh x):=M.bj λh=>by
 have h0:gu x:=h;obtain⟨h1,h2,h3,aQ⟩:=(h:gu x)
 unfold UT;have d1:∀ s,HK.sh s=M.pure (rh s):=λ_=>rfl;have d2:∀ m∈x.2.1,AJ.sh (m,some sw.sh)=M.pure (qh m):=λm aj=>by
  refine (M.bE ⟨_,rfl,(aQ m aj).1,λy aK=>⟨_,M.bE ((aQ m aj).2 y aK) _⟩⟩ _).trans (congrArg M.pure ?_);simp only[AJ,Option.getD_some,qh,aJ.sh,M.gm];grind
 have d3:∀ t,AK.sh (t,some x)=M.pure (sv x t):=λt=>M.bE ⟨_,rfl,h0⟩ _;have bT:(x.1.all λy=>(HK.sh y).val false)=x.1.all rh:=HI λs _=>M.gm;have a2:(x.2.1.all λy=>(AJ.sh (y,some sw.sh)).val false)=x.2.1.all qh:=HI λm aj=>(congrArg (λz:M Bool=>z.val false) (d2 m aj)).trans M.fg;have a3:(x.2.2.2.all λy=>(AK.sh (y,some x)).val false)=x.2.2.2.all (sv x):=HI λt _=>M.gm;have e1:∀ y,(fcAllF kl).sh y=M.dt ((fcAllF kl).pre y) ((fcAllF kl).g y):=λ_=>rfl;have e2:∀ y,(fcAllF kG).sh y=M.dt ((fcAllF kG).pre y) ((fcAllF kG).g y):=λ_=>rfl;have e3:∀ y,(fcAllF jH).sh y=M.dt ((fcAllF jH).pre y) ((fcAllF jH).g y):=λ_=>rfl;have e4:∀ y,b5.sh y=M.pure (b5.g y):=λ_=>rfl;simp only[e1,e2,e3,e4,M.dj,M.iN,M.ki,M.aE];rw[M.bn (by grind),M.bn (by grind),M.bn (by exact λ_=>⟨h3,λy _=>⟨_,d3 y⟩⟩)];simp only[u9,bH];refine congrArg M.pure ?_;show _=kH x;rw[bT,a2,a3];unfold kH vz;grind
def oC(m:z5')(k:Int×Int×Int):Option Int:=Option.map (λx=>x.2) (List.find? (λp=>decide (k.1=p.1.1)&&(decide (k.2.1=p.1.2.1)&&decide (k.2.2=p.1.2.2))) m)
def ub(m:z4')(k:Int):Option Int:=Option.map (λx=>x.2) (List.find? (λp=>decide (k=p.1)) m)
theorem HL{a b:Int×Int×Int}:(decide (a.1=b.1)&&(decide (a.2.1=b.2.1)&&decide (a.2.2=b.2.2)))=decide (a=b):=by
 grind
theorem anq(k):oC [] k=none:=rfl
theorem Ys(k:Int×Int×Int)(v:Int)(k':Int×Int×Int):∀ m,oC (u' m k v) k'=if k'=k then some v else oC m k'
 | []=>by
  show oC [(k,v)] k'=_;by_cases h:k'=k<;>simp[oC,HL,h]
 | p::m=>by
  have aG:=Ys k v k' m;show oC (if (decide (k.1=p.1.1)&&(decide (k.2.1=p.1.2.1)&&decide (k.2.2=p.1.2.2)))=true then (p.1,v)::m else p::u' m k v) k'=_;rw[HL];by_cases h:k=p.1
  ·subst h;by_cases cX:k'=p.1<;>simp[oC,HL,cX]
  ·simp only[h,decide_false,Bool.false_eq_true,if_false];simp only[oC,HL,List.find?_cons]at aG ⊢;grind
theorem Yt(k v k':Int):∀ m,ub (eN m k v) k'=if k'=k then some v else ub m k'
 | []=>by
  show ub [(k,v)] k'=_;by_cases h:k'=k<;>simp[ub,h]
 | p::m=>by
  have aG:=Yt k v k' m;show ub (if decide (k=p.1)=true then (p.1,v)::m else p::eN m k v) k'=_;by_cases h:k=p.1
  ·subst h;by_cases cX:k'=p.1<;>simp[ub,cX]
  ·simp only[h,decide_false,Bool.false_eq_true,if_false];simp only[ub,List.find?_cons]at aG ⊢;grind
def pt(t:mb):Int×Int×Int:=(t.1,t.2.1,t.2.2.1)
theorem HM{a b:mb}:mP a b=true<->pt a=pt b/\a.2.2.2≠b.2.2.2:=by
 simp only[mP,Bool.and_eq_true,decide_eq_true_eq,pt,Prod.mk.injEq];omega
theorem Yu(l:List mb):nH l=true<->l.Pairwise λa b=>mP a b=false:=by
 unfold nH;rw[List.pairwise_iff_getElem];simp only[List.all_eq_true,List.mem_range,Bool.not_eq_true'];grind
def HN(m:z5')(pre:List mb):Prop:=∀ k v,oC m k=some v<->(∃ t∈pre,pt t=k/\t.2.2.2=v)
def DX(m:z5')(t:mb):Bool:=Option.isSome (oC m (pt t))&&decide (Option.getD (oC m (pt t)) 0≠t.2.2.2)
theorem Yv{m pre}(h:HN m pre)(hp:pre.Pairwise λa b=>mP a b=false)(t:mb):DX m t=true<->∃ a∈pre,mP a t=true:=by
 unfold DX;cases ah:oC m (pt t) with
 | none=>
  simp only[Option.isSome_none,Bool.false_and,Bool.false_eq_true,false_iff];rintro⟨a,aU,hc⟩;have:=(h (pt t) a.2.2.2).2 ⟨a,aU,(HM.1 hc).1,rfl⟩;grind
 | some v=>
  simp only[Option.isSome_some,Bool.true_and,Option.getD_some,decide_eq_true_eq];obtain⟨b,aa,an,hv⟩:=(h _ _).1 ah;constructor
  ·intro dX;exact⟨b,aa,HM.2 ⟨an,by omega⟩⟩
  ·rintro⟨a,aU,hc⟩ rfl;obtain⟨c1,c2⟩:=HM.1 hc;have:=(h (pt t) a.2.2.2).2 ⟨a,aU,c1,rfl⟩;grind
theorem anr{m pre}(h:HN m pre){t:mb}(aa:∀ a∈pre,mP a t=false):HN (u' m (pt t) t.2.2.2) (pre++[t]):=by
 intro k v;rw[Ys];by_cases an:k=pt t
 ·rw[if_pos an];constructor
  ·grind
  ·rintro⟨a,aU,h1,h2⟩;rcases List.mem_append.1 aU with aU | aU
   ·have hc:=aa a aU;have:¬mP a t=true:=by grind
    rw[HM]at this;grind
   grind
 ·rw[if_neg an,h];grind
theorem Yw:∀ (bZ:List mb) (m) (pre:List mb),HN m pre->(pre.Pairwise λa b=>mP a b=false)->
  eB (λt m=>if DX m t=true then (.done (.done 71):V _ (V Unit Int)) else .next (u' m (pt t) t.2.2.2)) (λ_=>.next ()) bZ m=if nH (pre++bZ)=true then .next () else .done 71
 | [],m,pre,h,hp=>by
  have:=(Yu pre).2 hp;simp[eB,this]
 | t::bZ,m,pre,h,hp=>by
  simp only[eB];by_cases aa:DX m t=true
  ·simp only[aa,if_true];obtain⟨a,aU,hc⟩:=(Yv h hp t).1 aa;have:¬nH (pre++t::bZ)=true:=by
    rw[Yu,List.pairwise_append];grind
   grind
  ·have ax:∀ a∈pre,mP a t=false:=λa aU=>by
    have:=λhc=>aa ((Yv h hp t).2 ⟨a,aU,hc⟩);grind
   simp only[aa,Bool.false_eq_true,if_false];have BD:(pre++[t]).Pairwise λa b=>mP a b=false:=by
    grind
   have:=Yw bZ _ (pre++[t]) (anr h ax) BD;grind
theorem ant(w:bb)(h:gu w):MT sx.sh w=M.pure (cr w):=by
 have hs:=h;obtain⟨h1,h2,h3,aQ⟩:=h;unfold MT;simp only[aJ.sh,sx,M.dj,M.bn hs];unfold cr;cases hw:kH w with
 | false=>simp
 | true=>
  simp only[Bool.not_true,Bool.false_eq_true,if_false,if_true];rw[M.dm w.2.2.2 (λi (m:z5')=>(w.2.2.2,(w.2.2.2.length:Int),(i:Int),m,())) (λt m=>if DX m t=true then (.done (.done 71):V _ (V Unit Int)) else .next (u' m (pt t) t.2.2.2)) (λ_=>.next ()) [] ?_ ?_ ?_]
  ·rw[Yw w.2.2.2 [] [] (λk v=>by simp[anq]) (by simp)];simp only[List.nil_append];by_cases aF:nH w.2.2.2=true<;>simp[aF]
  ·rfl
  ·intro i E m;have hJ:=bo (n:=(i:Int)+1) (by omega) (by omega);simp only[bH,cH E,if_true,cZ E,cv E,M.bf,M.aE,b8,hJ];exact UH (mk:=λm=>(w.2.2.2,(w.2.2.2.length:Int),(i:Int)+1,m,()))
  simp
theorem anu(x):M.le (MT sx.sh x) (hH.sh x):=M.bj λh=>ant x h
theorem anv(w:bb)(i n m k:Int)(hw:qj w)(E:gE w i=true)(aj:iB w m k=true):U2 b5.sh ov.sh (w,i,n,m,k)=M.pure (vA w i n m k):=am9 w i n m k hw E aj
theorem anw(x):M.le (U2 b5.sh ov.sh x) (fcFitsAt.sh x):=M.bj λh=>anv x.1 x.2.1 x.2.2.1 x.2.2.2.1 x.2.2.2.2 h.1 h.2.1 h.2.2
abbrev x0:aJ:=⟨.aw jH (.aw (.bp tI) (.aw (.bp km) (.bp tI))),cP,λx=>∃ i w n,x.2=(some i,some w,some n)/\qj w/\gE w i=true/\iB w x.1.2.1 x.1.2.2.1=true,λx=>t' (x.2.2.1.getD ([],[],0,[])) (x.2.1.getD 0) (x.2.2.2.getD 0) x.1⟩
theorem anx(x):M.le (U1 fcFitsAt.sh x) (x0.sh x):=M.bj λh=>by
 obtain⟨t,o⟩:=x;obtain⟨i,w,n,aq,hw,E,aj⟩:=h;change o=_ at aq;subst aq;unfold U1;simp only[aJ.sh,M.nI,M.gm,Option.getD_some,and_true,true_and,and_self,imp_self,M.bf,ne_eq];by_cases aF:t.1=i
 ·have hp:qj w/\gE w i=true/\iB w t.2.1 t.2.2.1=true:=⟨hw,E,aj⟩
  simp[t',aF,hp,M.bn hp]
 ·simp[t',aF]
def pv(w:bb):List (z1'):=(List.range w.1.length).map λ(i:Nat)=>gF w (i:Int)
def g_(w:bb)(bR:Bool):Option qb×Int:=if ef w bR≠0 then (none,ef w bR) else (some (w,pv w),0)
abbrev AL:aJ:=⟨.aw km cP,.aw (.bp (.st (.aw km (.slice fE)))) tI,λx=>gu x.1,λx=>g_ x.1 x.2⟩
theorem anz{w:bb}{i:Int}:gF w i=(dR (gf w i).2.2.1 (gf w i).2.2.2).filter λn=>w.2.2.2.all (t' w i n):=by
 unfold gF;refine List.filter_congr λn ax=>?_;rw[qa]at ax;simp[Ox,ax]
theorem Yx{w:bb}:∀ (l:List Nat) (acc:List (z1')),eB (λ(i:Nat) (acc:List (z1'))=>if decide (((gF w (i:Int)).length:Int)=0)=true then (.done (.done (none,(3:Int))):V _ (V (List HD×List (List vx)×Int×List mb×List (z1')×Unit) (Option qb×Int))) else .next (acc++[gF w (i:Int)])) (λacc=>.next (w.1,w.2.1,w.2.2.1,w.2.2.2,acc,())) l acc
  =if (l.all λ(i:Nat)=>!decide (((gF w (i:Int)).length:Int)=0))=true then .next (w.1,w.2.1,w.2.2.1,w.2.2.2,acc++l.map (λ(i:Nat)=>gF w (i:Int)),()) else .done (none,3)
 | [],acc=>by simp[eB]
 | i::l,acc=>by
  simp only[eB,List.all_cons,List.map_cons];by_cases h:((gF w (i:Int)).length:Int)=0
  ·simp[h]
  ·simp only[h,decide_false,Bool.false_eq_true,if_false,Bool.not_false,Bool.true_and];rw[Yx l];simp
theorem anA(w:bb)(bR:Bool)(h:gu w):MX hH.sh (fcAllF jH).sh x0.sh (w,bR)=M.pure (g_ w bR):=by
 unfold MX g_ ef;simp only[aJ.sh,M.dj,M.bn h];by_cases hc:cr w=0
 ·have hw:qj w:=⟨h,Oy hc⟩
  have anB:=DT hw.2;simp only[hc,ne_eq,not_true,decide_false,Bool.false_eq_true,if_false];cases bR with
  | false=>simp
  | true=>
   simp only[Bool.not_true,Bool.false_eq_true,if_false,Bool.true_eq_false];rw[M.gn (List.range w.1.length) (λi (acc:List (z1'))=>(w.1,(w.1.length:Int),(i:Int),w,w.1,w.2.1,w.2.2.1,w.2.2.2,acc,())) (λ(i:Nat) (acc:List (z1'))=>if decide (((gF w (i:Int)).length:Int)=0)=true then (.done (.done (none,(3:Int))):V _ (V (List HD×List (List vx)×Int×List mb×List (z1')×Unit) (Option qb×Int))) else .next (acc++[gF w (i:Int)])) (λacc=>.next (w.1,w.2.1,w.2.2.1,w.2.2.2,acc,())) (λi acc=>acc.length<=i) [] ?_ ?_ ?_ ?_]
   ·rw[Yx];have e:((List.range w.1.length).all λ(i:Nat)=>!decide (((gF w (i:Int)).length:Int)=0))=vC w:=rfl;rw[e];by_cases aF:vC w=true<;>simp[aF,pv]
   ·rfl
   ·simp
   ·intro i E acc Oz;have E:i<w.1.length:=by grind
    have nG:=am_ E;have ah:=Ym hw.2 nG;have hJ:=bo (n:=(i:Int)+1) (by omega) (by omega);have az:w.1[i]=gf w (i:Int):=by simp[gf,List.getD_eq_getElem?_getD,E]
    refine⟨?_,λaZ aa=>?_⟩
    ·simp only[bH,cH E,if_true,cZ E,cv E,M.bf,az,List.getElem_range];rw[M.gn (dR (gf w (i:Int)).2.2.1 (gf w (i:Int)).2.2.2) (λk (l:z1')=>(w.1,(w.1.length:Int),(i:Int),w,(i:Int),gf w (i:Int),l,(gf w (i:Int)).2.2.1+(k:Int),w.1,w.2.1,w.2.2.1,w.2.2.2,acc,())) (λn l=>.next (if w.2.2.2.all (t' w (i:Int) n)=true then l++[n] else l)) (λl=>.next (w.1,(w.1.length:Int),(i:Int),w,l,w.1,w.2.1,w.2.2.1,w.2.2.2,acc,())) (λk l=>l.length<=k) [] ?_ ?_ ?_ ?_]
     ·rw[dV,UF];simp only[M.aE,M.bL,List.nil_append];rw[<-anz];by_cases a8:((gF w (i:Int)).length:Int)=0
      ·simp[a8]
      ·have lr:bX (acc.length+(0+1)):=by unfold bX;omega
       simp_all
     ·simp
     ·simp
     ·intro k an l anC;have vj:k<1000:=by rw[xB]at an;omega
      have rI:(gf w (i:Int)).2.2.1+(k:Int)<=(gf w (i:Int)).2.2.2:=by rw[xB]at an;omega
      have DY:=bo (n:=(gf w (i:Int)).2.2.1+((k:Int)+1)) (by omega) (by omega);have lr:bX (l.length+(0+1)):=by unfold bX;omega
      refine⟨?_,λaZ aa=>?_⟩
      ·have lk:∀ t∈w.2.2.2,x0.sh (t,some (i:Int),some w,some ((gf w (i:Int)).2.2.1+(k:Int)))=M.pure (t' w (i:Int) ((gf w (i:Int)).2.2.1+(k:Int)) t):=λt aF=>M.bE ⟨_,_,_,rfl,hw,nG,(am8 hw.2 aF).2⟩ _;simp only[rI,decide_true,if_true,Db];rw[M.bn (by exact⟨h.2.2.1,λt aF=>⟨_,lk t aF⟩⟩)];have e:(w.2.2.2.all λy=>(M.dt (x0.pre (y,some (i:Int),some w,some ((gf w (i:Int)).2.2.1+(k:Int)))) (x0.g (y,some (i:Int),some w,some ((gf w (i:Int)).2.2.1+(k:Int))))).val false)=w.2.2.2.all (t' w (i:Int) ((gf w (i:Int)).2.2.1+(k:Int))):=HI λt aF=>M.gm;rw[e];by_cases aa:w.2.2.2.all (t' w (i:Int) ((gf w (i:Int)).2.2.1+(k:Int)))=true
       ·simp only[aa,if_true,b8,j1,M.bn lr,M.aE,M.bL,DY,V.gQ,Int.natCast_add,Int.natCast_one,Int.add_assoc]
       ·simp only[aa,Bool.false_eq_true,if_false,b8,j1,M.aE,M.bL,DY,V.gQ,Int.natCast_add,Int.natCast_one,Int.add_assoc]
      grind
     ·intro l anC;have:¬(gf w (i:Int)).2.2.1+((dR (gf w (i:Int)).2.2.1 (gf w (i:Int)).2.2.2).length:Int)<=(gf w (i:Int)).2.2.2:=by rw[xB];omega
      simp only[this,decide_false,Bool.false_eq_true,if_false,M.aE]
    grind
   simp
 grind
theorem anD(x):M.le (MX hH.sh (fcAllF jH).sh x0.sh x) (AL.sh x):=M.bj λh=>anA x.1 x.2 h
theorem anE(x):M.le (U3 x) (HH.sh x):=M.bj λ_=>by
 unfold U3;simp only[HG,decide_eq_true_eq];grind
theorem Yy(w:bb):(pv w).length=w.1.length:=by simp[pv]
theorem OA{w:bb}{i:Int}(h:gE w i=true):List.getD (pv w) i.toNat []=gF w i:=by
 rw[tY]at h;have:i.toNat<w.1.length:=by omega
 have e:((i.toNat:Nat):Int)=i:=by omega
 simp[pv,List.getD_eq_getElem?_getD,this,e]
abbrev anF:ad:=.bp (.st (.aw km (.slice fE)))
def anG(o:Option qb)(w:bb):Prop:=o=some (w,pv w)/\qj w
abbrev HO:aJ:=⟨.aw anF (.aw tI (.aw tI tI)),tI,λx=>∃ w,anG x.1 w/\gE w x.2.1=true/\iB w x.2.2.1 x.2.2.2=true,λx=>ua ((x.1.getD (([],[],0,[]),[])).1) x.2.1 x.2.2.1 x.2.2.2⟩
theorem anH(w:bb)(i m k:Int)(hw:qj w)(E:gE w i=true)(aj:iB w m k=true):MY fcFitsAt.sh HH.sh (some (w,pv w),i,m,k)=M.pure (ua w i m k):=by
 unfold MY;have lr:=Yn hw E;have bY:0<=i/\i<((pv w).length:Int):=by rw[Yy];exact tY.1 E
 simp only[Option.isSome_some,Option.getD_some,M.bf,bH,OA E,M.bn bY];rw[M.gn (gF w i) (λj (n:Int)=>(some (w,pv w),i,m,k,n,gF w i,((gF w i).length:Int),(j:Int),())) (λx n=>.next (if vA w i x m k=true then n+1 else n)) (λn=>.next (some (w,pv w),i,n,())) (λj n=>0<=n/\n<=(j:Int)) 0 ?_ ?_ ?_ ?_]
 ·rw[dV,Yp];simp only[M.aE,M.bL,Option.isSome_some,Option.getD_some,M.bf,M.bn bY,OA E,aJ.sh,M.dj,Int.zero_add];rfl
 ·rfl
 ·simp
 ·intro j aB n ax;have anI:=bo (n:=(j:Int)+1) (by omega) (by omega);have AM:=bo (n:=n+1) (by omega) (by omega);have hp:qj w/\gE w i=true/\iB w m k=true:=⟨hw,E,aj⟩
  refine⟨?_,λaZ aa=>?_⟩
  ·simp only[cH aB,if_true,cZ aB,cv aB,M.bf,Option.isSome_some,Option.getD_some,aJ.sh,M.dj,M.bn hp,b8,AM];cases vA w i (gF w i)[j] m k<;>simp[anI]
  grind
 simp
theorem anJ(x):M.le (MY fcFitsAt.sh HH.sh x) (HO.sh x):=M.bj λh=>by
 obtain⟨o,i,m,k⟩:=x;obtain⟨w,⟨aq,hw⟩,E,aj⟩:=h;change o=_ at aq;subst aq;exact anH w i m k hw E aj
theorem Yz{w:bb}{bR:Bool}(h:ef w bR=0):g_ w bR=(some (w,pv w),0):=by simp[g_,h]
theorem YA{w:bb}{bR:Bool}(h:ef w bR≠0):g_ w bR=(none,ef w bR):=by simp[g_,h]
theorem anK(w:bb)(i:Int)(h:gu w):MU AL.sh po.sh (w,i)=M.pure (vD w i):=by
 unfold MU vD;simp only[aJ.sh,M.nI,M.gm,h,M.bf];by_cases an:ef w (gE w i)=0
 ·have hw:=Yo h an;have E:=(DU an).2.1;have hp:=am' (DU an).2.2 E;have lr:=Yn hw E;have hJ:=bo (n:=((gF w i).length:Int) - 1) (by omega) (by omega);have e1:(((gF w i).length:Int) - 1).toNat=(gF w i).length - 1:=by omega
  have r8:0<=i/\i<((pv w).length:Int):=by rw[Yy];exact tY.1 E
  have bY:(0:Int)<=0/\(0:Int)<((gF w i).length:Int):=by omega
  have cm:(0:Int)<=((gF w i).length:Int) - 1/\((gF w i).length:Int) - 1<((gF w i).length:Int):=by omega
  simp only[Yz an,an,ne_eq,not_true,decide_false,Bool.false_eq_true,if_false,Option.isSome_some,Option.getD_some,M.bf,bH,OA E,M.bn r8,hJ,e1,M.bn cm];simp_all
 ·simp[YA an,an]
theorem anL(x):M.le (MU AL.sh po.sh x) (xY.sh x):=M.bj λh=>anK x.1 x.2 h
theorem anM(w:bb)(i m k:Int)(h:gu w):MV AL.sh po.sh rf.sh HO.sh (w,i,m,k)=M.pure (qk w i m k):=by
 unfold MV qk;simp only[aJ.sh,M.nI,M.gm,h,M.bf,and_true,and_self,imp_self,true_and];by_cases an:ef w (gE w i&&iB w m k)=0
 ·have hw:=Yo h an;have E:=(DU an).2.1;simp only[Bool.and_eq_true]at E;simp only[Yz an,an,ne_eq,not_true,decide_false,Bool.false_eq_true,if_false,M.dj];rw[M.bn (by exact⟨w,⟨rfl,hw⟩,E.1,E.2⟩)];rfl
 ·simp[YA an,an]
theorem anN(x):M.le (MV AL.sh po.sh rf.sh HO.sh x) (AI.sh x):=M.bj λh=>anM x.1 x.2.1 x.2.2.1 x.2.2.2 h
theorem OB{n:Int}(h1:0<=n)(h2:n<18446744073709551616):IntKind.u64.wrap n=n:=by
 show (if (false&&decide (n % 2 ^ 64>=(2 ^ (64 - 1):Int)))=true then n % 2 ^ 64 - 2 ^ 64 else n % 2 ^ 64)=n;grind
theorem OD:∀ (n:Nat) (l:z1'),l.Nodup->(∀ x∈l,0<=x/\x<(n:Int))->l.length<=n
 | 0,l,_,h=>by
  cases l with
  | nil=>simp
  | cons x l=>have:=h x (by simp);omega
 | n+1,l,ax,h=>by
  have h2:=OD n (l.erase (n:Int)) (ax.erase _) λx hx=>by
   grind
  grind
def anO(l:z1'):Prop:=∀ x∈l,0<=x/\x<16
def YB(l:z1'):Prop:=l.Nodup/\anO l
theorem YB.len{l:z1'}(h:YB l):l.length<=16:=OD 16 l h.1 h.2
theorem M.anP{A aD:Type}{body:A->M (V A aD)}{p:aD->Prop}{s0:A}(n:Nat)(I:Nat->A->Prop)(h0:I 0 s0)
  (hs:∀ i,i<n->∀ s,I i s->M.b9 (body s) λst=>match st with | .next s'=>I (i+1) s' | .done r=>p r)
  (aq:∀ s,I n s->M.b9 (body s) λst=>match st with | .next _=>False | .done r=>p r):M.b9 (M.loop body s0) p:=by
 have key:∀ k i s,n - i=k->i<=n->I i s->M.b9 (M.loop body s) p:=by
  intro k;induction k with
  | zero=>
   intro i s an E h;have:i=n:=by omega
   subst this;rw[M.Bf,M.fF];refine (aq s h).mono λy aK=>?_;cases y with
   | next s'=>grind
   | done r=>exact M.dC.2 aK
  | succ k aG=>
   intro i s an E h;rw[M.Bf,M.fF];refine (hs i (by omega) s h).mono λy aK=>?_;cases y with
   | next s'=>grind
   | done r=>exact M.dC.2 aK
 grind
def OE(x:Int×Int):Int:=IntKind.wrap .u64
 (Add.add (IntKind.wrap .u64 (Add.add (IntKind.wrap .u64 (iU .u64 x.1 32*iU .u64 x.2 32)) (iU .u64 (IntKind.wrap .u64 (Add.add (IntKind.wrap
 .u64 (iU .u64 x.1 32*lg .u64 x.2 4294967295)) (iU .u64 (IntKind.wrap .u64 (lg .u64 x.1 4294967295*lg .u64 x.2 4294967295)) 32))) 32)))
 (iU .u64 (IntKind.wrap .u64 (Add.add (lg .u64 (IntKind.wrap .u64 (Add.add (IntKind.wrap .u64 (iU .u64 x.1 32*lg .u64 x.2 4294967295)) (iU
 .u64 (IntKind.wrap .u64 (lg .u64 x.1 4294967295*lg .u64 x.2 4294967295)) 32))) 4294967295) (IntKind.wrap .u64 (lg .u64 x.1 4294967295*iU
 .u64 x.2 32)))) 32))
def HP:Nat->Bool
 | 0=>true
 | n+1=>decide (OE (1,(n:Int))=0)&&HP n
theorem YC:∀ (N n:Nat),HP N=true->n<N->OE (1,(n:Int))=0
 | 0,n,_,h=>by omega
 | N+1,n,hc,h=>by
  simp only[HP,Bool.and_eq_true,decide_eq_true_eq]at hc;by_cases e:n=N
  ·grind
  ·exact YC N n hc.2 (by omega)
def OF(work:z1')(s:Int):z1':=((List.range work.length).filter λj=>decide (work.getD j 0=s)).map λ(j:Nat)=>(j:Int)
theorem anQ{ai β aD:Type}{f:ai->β->V β aD}{fin:β->aD}(I:Nat->β->Prop)(Q:aD->Prop)(l:List ai)(b:β)(h0:I 0 b)
  (hs:∀ i (h:i<l.length) b,I i b->match f l[i] b with | .next aZ=>I (i+1) aZ | .done r=>Q r) (aq:∀ b,I l.length b->Q (fin b)):Q (eB f fin l b):=by
 have key:∀ (k:Nat) (r:List ai) (b:β),k<=l.length->r=l.drop k->I k b->Q (eB f fin r b):=by
  intro k r;induction r generalizing k with
  | nil=>
   intro b an G eb;have:k=l.length:=by have:=congrArg List.length G;grind
   subst this;exact aq b eb
  | cons x r aG=>
   intro b an G eb;have b1:k<l.length:=by
    grind
   rw[List.drop_eq_getElem_cons b1]at G;injection G with hx G
   have h1:=hs k b1 b eb;rw[<-hx]at h1;simp only[eB];grind
 grind
def cw(m:z4')(k:Int):Int:=(ub m k).getD 0
theorem anR(m:z4')(k:Int):Option.getD (Option.map (λx=>x.2) (List.find? (λp=>decide (k=p.1)) m)) 0=cw m k:=rfl
theorem AN(k v k':Int)(m:z4'):cw (eN m k v) k'=if k'=k then v else cw m k':=by
 unfold cw;rw[Yt];grind
def ri(n:Nat)(m:z4'):Nat:=(List.range n).countP λ(s:Nat)=>decide (cw m (s:Int)=0)
theorem YD{p q:Nat->Bool}{s:Nat}(h:∀ x,x≠s->p x=q x)(hp:p s=true)(bd:q s=false):∀ (l:List Nat),l.Nodup->s∈l->l.countP p=l.countP q+1
 | [],_,hs=>by cases hs
 | x::l,ax,hs=>by
  rw[List.nodup_cons]at ax;rw[List.countP_cons,List.countP_cons];by_cases e:x=s
  ·subst e;have:l.countP p=l.countP q:=List.countP_congr λy aK=>by
    grind
   grind
  ·have:=YD h hp bd l ax.2 (by grind);grind
theorem YE{n:Nat}{m:z4'}{s v:Int}(h0:0<=s)(ax:s<(n:Int))(aj:cw m s=0)(hv:v≠0):ri n m=ri n (eN m s v)+1:=by
 unfold ri;refine YD (s:=s.toNat) (λx hx=>?_) ?_ ?_ _ List.nodup_range (by grind)
 ·rw[AN,if_neg (by omega)]
 ·grind
 ·rw[AN,if_pos (by omega)];grind
theorem YF{n:Nat}{a b:z4'}(h:∀ k,0<=cw a k/\cw a k<=cw b k):ri n b<=ri n a:=by
 unfold ri;refine List.countP_mono_left λx _ hx=>?_;grind
abbrev kI:=z1'×z4'
def V.uc{β aD i':Type}(g:aD->i'):V β aD->V β i'
 | .next b=>.next b
 | .done r=>.done (g r)
def x1{ai β aD:Type}(f:ai->β->V β aD):List ai->β->V β aD
 | [],b=>.next b
 | x::l,b=>match f x b with
  | .next aZ=>x1 f l aZ
  | .done r=>.done r
def V.fin{β aD:Type}(n:β->aD):V β aD->aD
 | .next b=>n b
 | .done r=>r
theorem OG{ai β aD:Type}{f:ai->β->V β aD}{n:β->aD}:∀ (l:List ai) (b:β),eB f n l b=V.fin n (x1 f l b)
 | [],b=>rfl
 | x::l,b=>by
  simp only[eB,x1];cases f x b with
  | next aZ=>exact OG l aZ
  | done r=>rfl
theorem YG{ai β aD i':Type}{f:ai->β->V β aD}{g:aD->i'}:∀ (l:List ai) (b:β),x1 (λx b=>V.uc g (f x b)) l b=V.uc g (x1 f l b)
 | [],b=>rfl
 | x::l,b=>by
  simp only[x1];cases f x b with
  | next aZ=>exact YG l aZ
  | done r=>rfl
def anS(w:bb):Prop:=w.1.length<=2000000/\w.2.1.length<=2000000/\w.2.2.2.length<=2000000/\∀ m∈w.2.1,m.length<=2000000/\∀ s∈m,s.2.1.length<=2000000
def x2(m:List (Int×z1'×Int×Int)):Bool:=decide ((m.length:Int) > 20)||m.any λs=>decide ((s.2.1.length:Int) > 20)
def lI(w:bb):Bool:=
 if (decide ((w.1.length:Int) > 40)||decide ((w.2.1.length:Int) > 40)||decide ((w.2.2.2.length:Int) > 60))=true then true
 else if w.2.1.any x2=true then true
 else if cr w≠0 then false
 else if (w.1.any λs=>decide (IntKind.i64.wrap (s.2.2.2 - s.2.2.1)>=50))=true then true
 else decide ((w.1.length:Int) > 6)||decide ((w.2.1.length:Int) > 4)||decide ((w.2.2.2.length:Int) > 10)
abbrev vt:aJ:=⟨km,cP,gu,lI⟩
theorem anT(w:bb)(h:gu w):M0 hH.sh w=M.pure (lI w):=by
 unfold M0 lI;simp only[bH];by_cases h1:(decide ((w.1.length:Int) > 40)||decide ((w.2.1.length:Int) > 40)||decide ((w.2.2.2.length:Int) > 60))=true
 ·grind
 ·rw[if_neg h1,if_neg h1];have ah:=h;obtain⟨c8,q2,q3,ud⟩:=h;rw[M.dm w.2.1 (λi (_:Unit)=>((i:Int),w,())) (λm u=>if x2 m=true then .done (.done true) else .next u) (λ_=>.next (w,())) () ?_ ?_ ?_]
  ·rw[q6];by_cases h2:w.2.1.any x2=true
   ·simp only[h2,if_true,M.aE,M.o_]
   ·simp only[h2,Bool.false_eq_true,if_false,M.aE,M.bL,aJ.sh,M.dj,M.bn ah];by_cases h3:cr w=0
    ·simp only[h3,ne_eq,not_true,decide_false,Bool.false_eq_true,if_false];rw[M.dm w.1 (λi (_:Unit)=>((i:Int),w,())) (λs u=>if decide (IntKind.i64.wrap (s.2.2.2 - s.2.2.1)>=50)=true then .done (.done true) else .next u) (λ_=>.next (w,())) () ?_ ?_ ?_]
     ·rw[q6];by_cases aQ:(w.1.any λs=>decide (IntKind.i64.wrap (s.2.2.2 - s.2.2.1)>=50))=true
      ·simp_all
      ·simp only[aQ,Bool.false_eq_true,if_false,M.aE,M.bL]
     ·rfl
     ·intro i E u;have k6:=bo (n:=(i:Int)+1) (by omega) (by omega);simp only[bH,cH E,if_true,cv E,M.bf,cZ E,M.aE,b8,k6];exact mH (mk:=λ_:Unit=>((i:Int)+1,w,()))
     simp
    grind
  ·rfl
  ·intro i E u;have k6:=bo (n:=(i:Int)+1) (by omega) (by omega);have aj:=ud _ (List.getElem_mem E);simp only[bH,cH E,if_true,cv E,M.bf,cZ E,M.aE];by_cases bu:decide ((w.2.1[i].length:Int) > 20)=true
   ·have aq:x2 w.2.1[i]=true:=by unfold x2;grind
    simp_all
   ·have aq:x2 w.2.1[i]=w.2.1[i].any λs=>decide ((s.2.1.length:Int) > 20):=by unfold x2;grind
    rw[if_neg bu];rw[M.dm w.2.1[i] (λk (_:Unit)=>((i:Int),(k:Int),w,())) (λs u=>if decide ((s.2.1.length:Int) > 20)=true then .done (.done (.done (.done true))) else .next u) (λ_=>.next ((i:Int),w,())) () ?_ ?_ ?_]
    ·rw[q6,aq];by_cases cW:(w.2.1[i].any λs=>decide ((s.2.1.length:Int) > 20))=true
     ·simp_all
     ·simp only[cW,Bool.false_eq_true,if_false,M.aE,M.bL,b8,k6];rfl
    ·rfl
    ·intro k an u;have ma:=bo (n:=(k:Int)+1) (by omega) (by omega);simp only[cv E,M.bf,cZ E,cH an,if_true,cv an,cZ an,M.aE,b8,ma];exact mH (mk:=λ_:Unit=>((i:Int),(k:Int)+1,w,()))
    simp_all
  simp
theorem anU(x):M.le (M0 hH.sh x) (vt.sh x):=M.bj λh=>anT x h
def HQ:bb:=([(1,2,300,310),(1,3,305,305),(2,1,50,60),(1,2,320,330)],[[(1,[2,3],300,306),(2,[1],40,58)],[(1,[2],310,326)]],5,[(0,1,0,0)])
abbrev OH:aJ:=⟨.cx,km,λ_=>True,λ_=>HQ⟩
theorem anV(x):M.le (aiR x) (OH.sh x):=M.bj λ_=>rfl
theorem anW:gu HQ:=by
 refine⟨by decide,by decide,by decide,?_⟩;intro m aj;simp only[HQ,List.mem_cons,List.not_mem_nil,or_false]at aj;grind
abbrev mQ:ad:=.st (.aw tI (.aw tI (.aw tI (.aw tI fE))))
abbrev tWi:ad:=.st (.aw fE (.aw l9 (.aw tI (.aw tI tI))))
abbrev pw:ad:=.st (.aw tI (.aw tI tI))
abbrev lK:ad:=.st (.aw km (.aw fE (.aw (.slice mQ) (.aw (.slice tWi) (.aw (.slice pw) tI)))))
def e'(s:bq):Prop:=gu s.1/\s.2.1.length<2 ^ 63/\s.2.2.1.length<2 ^ 63/\s.2.2.2.1.length<2 ^ 63/\s.2.2.2.2.1.length<2 ^ 63/\(∀ p∈s.2.2.1,p.2.2.2.2.length<2 ^ 63)/\∀ x∈s.2.2.2.1,x.1.length<2 ^ 63
def bK(n lo E:Int):Bool:=decide (lo<=n)&&decide (n<=E)
def jI(n:Int):Bool:=bK n 0 99
def jJ(p:Int->Bool)(l:z1'):Bool:=(List.range l.length).all λi=>p (l.getD i 0)&&!(decide (0<i)&&decide (l.getD i 0<=l.getD (i - 1) 0))
def DZ(w:bb)(m:Int)(n:Int):Bool:=decide (0<=n)&&decide (n<((jh w m).length:Int))
def px(w:bb)(p:c_):Bool:=jI p.1&&jI p.2.1&&jI p.2.2.1&&nM w p.2.2.2.1&&jJ (DZ w p.2.2.2.1) p.2.2.2.2
def oD(x:dp):Bool:=bK (x.1.length:Int) 1 8&&jJ jI x.1&&jI x.2.1.1&&jI x.2.1.2&&decide (x.2.1.1<=x.2.1.2)&&jI x.2.2.1&&jI x.2.2.2.1&&bK x.2.2.2.2 0 100000
def oE(w:bb)(d:Di):Bool:=jI d.1&&gE w d.2.1&&bK d.2.2 1 10
def mR(s:bq):Bool:=decide ((s.2.1.length:Int)=(s.1.1.length:Int))&&(s.2.1.all λn=>bK n 0 10)&&decide ((s.2.2.1.length:Int)<=8)&&s.2.2.1.all (px s.1)&&decide ((s.2.2.2.1.length:Int)<=6)&&s.2.2.2.1.all oD&&decide ((s.2.2.2.2.1.length:Int)<=8)&&s.2.2.2.2.1.all (oE s.1)&&jI s.2.2.2.2.2
def iR(s:bq):Int:=if cr s.1≠0 then cr s.1 else if mR s=true then 0 else 80
theorem anX(x):M.le (ajb x) (b5.sh x):=M.bj λ_=>rfl
theorem anY(x):M.le (ai7 x) (b5.sh x):=M.bj λ_=>rfl
abbrev fcHund:aJ:=⟨tI,cP,λ_=>True,jI⟩
theorem anZ(x):M.le (Vk b5.sh x) (fcHund.sh x):=M.bj λ_=>by
 unfold Vk;simp[aJ.sh,b5,jI,bK]
theorem an0(x):M.le (Vo b5.sh x) (fcHund.sh x):=M.bj λ_=>by
 unfold Vo;simp[aJ.sh,b5,jI,bK]
abbrev fcRising:aJ:=⟨.aw fE (.fn tI .bool),cP,λx=>x.1.length<2 ^ 63/\∀ y∈x.1,∃ b,x.2 y=M.pure b,λx=>jJ (λy=>(x.2 y).val false) x.1⟩
theorem an1(x):M.le (Vl x) (fcRising.sh x):=M.bj λh=>by
 obtain⟨l,f⟩:=x;obtain⟨h1,h2⟩:=h;change l.length<2 ^ 63 at h1;change ∀ y∈l,∃ b,f y=M.pure b at h2;unfold Vl;rw[M.dm (List.range l.length) (λi (_:Unit)=>(l,f,l,(l.length:Int),(i:Int),())) (λi b=>if (!((f (l.getD i 0)).val false&&!(decide (0<i)&&decide (l.getD i 0<=l.getD (i - 1) 0))))=true then .done (.done false) else .next b) (λ_=>.next ()) () ?_ ?_ ?_]
 ·rw[ky (q:=λi=>(f (l.getD i 0)).val false&&!(decide (0<i)&&decide (l.getD i 0<=l.getD (i - 1) 0))) _ _ (λ_=>rfl)];show _=M.pure (jJ (λy=>(f y).val false) l);unfold jJ;cases (List.range l.length).all λi=>(f (l.getD i 0)).val false&&!(decide (0<i)&&decide (l.getD i 0<=l.getD (i - 1) 0))<;>simp
 ·rfl
 ·intro i E b;have E:i<l.length:=by grind
  have hw:=bo (n:=(i:Int)+1) (by omega) (by omega);have gA:=bo (n:=(i:Int) - 1) (by omega) (by omega);have e2:((i:Int) - 1).toNat=i - 1:=by omega
  obtain⟨c,hc⟩:=h2 _ (List.getElem_mem E);have je:l.getD i 0=l[i]:=by grind
  have ep:(decide ((i:Int) > 0))=decide (0<i):=by simp
  simp only[bH,cH E,if_true,List.getElem_range,cZ E,cv E,M.bf,je,hc,M.fg,M.aE,b8,hw,gA,e2,ep];rw[M.bn (by grind)];cases c<;>cases (decide (0<i)&&decide (l[i]<=l.getD (i - 1) 0))<;>rfl
 simp
abbrev HR:aJ:=⟨.aw fE tI,cP,λx=>x.1.length<2 ^ 63,λx=>jJ (λn=>bK n 0 x.2) x.1⟩
theorem an2(x):M.le (Vr x) (HR.sh x):=M.bj λh=>by
 obtain⟨l,m⟩:=x;change l.length<2 ^ 63 at h;unfold Vr;rw[M.dm (List.range l.length) (λi (_:Unit)=>(l,m,(i:Int),())) (λi b=>if (!(bK (l.getD i 0) 0 m&&!(decide (0<i)&&decide (l.getD i 0<=l.getD (i - 1) 0))))=true then .done (.done false) else .next b) (λ_=>.next ()) () ?_ ?_ ?_]
 ·rw[ky (q:=λi=>bK (l.getD i 0) 0 m&&!(decide (0<i)&&decide (l.getD i 0<=l.getD (i - 1) 0))) _ _ (λ_=>rfl)];show _=M.pure (jJ (λn=>bK n 0 m) l);unfold jJ;cases (List.range l.length).all λi=>bK (l.getD i 0) 0 m&&!(decide (0<i)&&decide (l.getD i 0<=l.getD (i - 1) 0))<;>simp
 ·rfl
 ·intro i E b;have E:i<l.length:=by grind
  have hw:=bo (n:=(i:Int)+1) (by omega) (by omega);have gA:=bo (n:=(i:Int) - 1) (by omega) (by omega);have e2:((i:Int) - 1).toNat=i - 1:=by omega
  have je:l.getD i 0=l[i]:=by grind
  have ep:(decide ((i:Int) > 0))=decide (0<i):=by simp
  simp only[bH,cH E,if_true,List.getElem_range,cZ E,cv E,M.bf,je,M.aE,b8,hw,gA,e2,ep];have r8:0<i->(0:Int)<=(i:Int) - 1/\(i:Int) - 1<(l.length:Int):=by omega
  generalize l.getD (i - 1) 0=B;generalize l[i]=aH;by_cases h5:aH<0<;>by_cases tf:aH > m<;>by_cases h0:0<i<;>by_cases aL:aH<=B<;>simp_all[bK,V.gQ,M.bn]<;>(grind)<;>(grind)
 simp
theorem OI{p q:Int->Bool}{l:z1'}(h:∀ y∈l,p y=q y):jJ p l=jJ q l:=by
 unfold jJ;grind
theorem an3(n:Int)(k:Nat):bK n 0 ((k:Int) - 1)=(decide (0<=n)&&decide (n<(k:Int))):=by
 unfold bK;grind
theorem an4(a b:Int):decide (a > b)=!decide (a<=b):=by grind
abbrev D0:aJ:=⟨.aw tI (.aw (.bp km) (.bp mQ)),cP,λx=>∃ w p,x.2=(some w,some p)/\gu w/\nM w p.2.2.2.1=true,λx=>DZ (x.2.1.getD ([],[],0,[])) (x.2.2.getD (0,0,0,0,[])).2.2.2.1 x.1⟩
theorem an5(x):M.le (Vm b5.sh x) (D0.sh x):=M.bj λh=>by
 obtain⟨n,o⟩:=x;obtain⟨w,p,aq,hw,aj⟩:=h;change o=_ at aq;subst aq;unfold Vm;have r:=HE.1 aj;have ah:=HF hw p.2.2.2.1;have hJ:=bo (n:=((jh w p.2.2.2.1).length:Int) - 1) (by omega) (by omega);unfold jh at hJ;simp only[aJ.sh,b5,Option.getD_some,bH,r,and_self,M.bf,hJ,M.dj,re];rfl
abbrev D1:aJ:=⟨.aw mQ (.bp km),cP,λx=>x.1.2.2.2.2.length<2 ^ 63/\∃ w,x.2=some w/\gu w,λx=>!px (x.2.getD ([],[],0,[])) x.1⟩
theorem an6(x):M.le (Vj b5.sh fcHund.sh fcRising.sh D0.sh x) (D1.sh x):=M.bj λh=>by
 obtain⟨p,o⟩:=x;obtain⟨hp,w,aq,hw⟩:=h;change o=_ at aq;change p.2.2.2.2.length<2 ^ 63 at hp;subst aq;unfold Vj;have ah:=hw.2.1;have hJ:=bo (n:=((w.2.1.length:Int)) - 1) (by omega) (by omega);have e1:(decide (0<=p.2.2.2.1)&&decide (p.2.2.2.1<(w.2.1.length:Int)))=nM w p.2.2.2.1:=rfl;simp only[aJ.sh,b5,Option.getD_some,bH,M.bf,hJ,M.dj,M.iN,re,implies_true,p_,e1];have key:nM w p.2.2.2.1=true->(jJ (λy=>(M.dt (D0.pre (y,some w,some p)) (D0.g (y,some w,some p))).val false) p.2.2.2.2)=jJ (DZ w p.2.2.2.1) p.2.2.2.2:=λaj=>OI λy aK=>M.gm;rw[M.bn]
 ·show M.pure _=M.pure _;congr 1;show _=!px w p;unfold px;simp
 ·intro cy;have aj:nM w p.2.2.2.1=true:=by
   grind
  exact⟨hp,λy aK=>⟨_,M.bE ⟨w,p,rfl,hw,aj⟩ _⟩⟩
abbrev D2:aJ:=⟨tWi,cP,λx=>x.1.length<2 ^ 63,λx=>!oD x⟩
theorem an7(x):M.le (Vn b5.sh fcHund.sh fcRising.sh fcHund.sh x) (D2.sh x):=M.bj λh=>by
 unfold Vn;have key:(jJ (λy=>(M.dt (fcHund.pre y) (fcHund.g y)).val false) x.1)=jJ jI x.1:=OI λy aK=>M.gm;simp only[aJ.sh,b5,bH,M.bf,M.dj,M.iN,implies_true,p_];rw[M.bn]
 ·show M.pure _=M.pure (!oD x);congr 1;unfold oD;rw[key];have e:decide (x.2.1.1 > x.2.1.2)=!decide (x.2.1.1<=x.2.1.2):=by grind
  rw[e];show _=!(bK (x.1.length:Int) 1 8&&_&&_&&_&&_&&_&&_&&_);unfold bK;simp
 ·exact λ_=>⟨h,λy aK=>⟨_,M.bE trivial _⟩⟩
abbrev D3:aJ:=⟨.aw pw (.bp km),cP,λx=>∃ w,x.2=some w/\gu w,λx=>!oE (x.2.getD ([],[],0,[])) x.1⟩
theorem an8(x):M.le (Vp b5.sh fcHund.sh x) (D3.sh x):=M.bj λh=>by
 obtain⟨d,o⟩:=x;obtain⟨w,aq,hw⟩:=h;change o=_ at aq;subst aq;unfold Vp;have ah:=hw.1;have hJ:=bo (n:=((w.1.length:Int)) - 1) (by omega) (by omega);simp only[aJ.sh,b5,Option.getD_some,bH,M.bf,hJ,M.dj,M.iN,re,implies_true,p_];show M.pure _=M.pure (!oE w d);congr 1;unfold oE gE bK;simp
abbrev D4:aJ:=⟨tI,cP,λ_=>True,λn=>!bK n 0 10⟩
theorem an9(x):M.le (Vq b5.sh x) (D4.sh x):=M.bj λ_=>by
 unfold Vq;simp[aJ.sh,b5,bK]
theorem HS{ai:Type}{p q:ai->Bool}{l:List ai}(h:∀ x∈l,p x=!q x):l.any p=!l.all q:=by
 grind
abbrev OJ:aJ:=⟨lK,cP,e',mR⟩
theorem an_(x):M.le (Vc fcHund.sh (iO tI).sh (iO mQ).sh (iO tWi).sh (iO pw).sh D1.sh D3.sh D2.sh D4.sh x) (OJ.sh x):=M.bj λh=>by
 obtain⟨h1,h2,h3,aQ,bu,cW,fK⟩:=h;unfold Vc;simp only[aJ.sh,bH,M.bf,M.dj,M.iN,implies_true];have aM:(x.2.1.any λy=>(M.dt (D4.pre y) (D4.g y)).val false)=!x.2.1.all λn=>bK n 0 10:=HS λy _=>M.gm;have aO:(x.2.2.1.any λy=>(M.dt (D1.pre (y,some x.1)) (D1.g (y,some x.1))).val false)=!x.2.2.1.all (px x.1):=HS λy _=>M.gm;have bz:(x.2.2.2.1.any λy=>(M.dt (D2.pre y) (D2.g y)).val false)=!x.2.2.2.1.all oD:=HS λy _=>M.gm;have f':(x.2.2.2.2.1.any λy=>(M.dt (D3.pre (y,some x.1)) (D3.g (y,some x.1))).val false)=!x.2.2.2.2.1.all (oE x.1):=HS λy _=>M.gm;rw[M.bn,M.bn,M.bn,M.bn]
 ·show M.pure _=M.pure (mR x);congr 1;unfold mR;grind
 ·exact λ_=>⟨bu,λy aK=>⟨_,M.bE ⟨_,rfl,h1⟩ _⟩⟩
 ·exact λ_=>⟨aQ,λy aK=>⟨_,M.bE (fK y aK) _⟩⟩
 ·exact λ_=>⟨h3,λy aK=>⟨_,M.bE ⟨cW y aK,_,rfl,h1⟩ _⟩⟩
 ·exact λ_=>⟨h2,λy aK=>⟨_,M.bE trivial _⟩⟩
abbrev py:aJ:=⟨lK,tI,e',iR⟩
theorem an'(x):M.le (U7 hH.sh OJ.sh x) (py.sh x):=M.bj λh=>by
 unfold U7;simp only[aJ.sh,M.dj,M.bn h.1];show _=M.pure (iR x);unfold iR;by_cases hc:cr x.1=0
 ·simp only[hc,ne_eq,not_true,decide_false,Bool.false_eq_true,if_false,M.bn h];grind
 grind
abbrev HT:aJ:=⟨.aw lK mQ,cP,λx=>e' x.1/\x.2.2.2.2.2.length<2 ^ 63,λx=>px x.1.1 x.2⟩
theorem aoa(x):M.le (Vd b5.sh HR.sh x) (HT.sh x):=M.bj λh=>by
 obtain⟨s,p⟩:=x;obtain⟨hs,hp⟩:=h;change e' s at hs;change p.2.2.2.2.length<2 ^ 63 at hp;unfold Vd;have ah:=hs.1.2.1;have fS:=HF hs.1 p.2.2.2.1;have hJ:=bo (n:=((s.1.2.1.length:Int)) - 1) (by omega) (by omega);have DY:=bo (n:=((jh s.1 p.2.2.2.1).length:Int) - 1) (by omega) (by omega);unfold jh at DY;have e1:(decide (0<=p.2.2.2.1)&&decide (p.2.2.2.1<(s.1.2.1.length:Int)))=nM s.1 p.2.2.2.1:=rfl;simp only[aJ.sh,b5,bH,M.bf,hJ,DY,M.dj,M.iN,re,implies_true,p_,e1,M.nI,M.gm];show _=M.pure (px s.1 p);unfold px;have er:jJ (λn=>bK n 0 (((List.getD s.1.2.1 (Int.toNat p.2.2.2.1) []).length:Int) - 1)) p.2.2.2.2=jJ (DZ s.1 p.2.2.2.1) p.2.2.2.2:=OI λy _=>an3 y _;rw[er];cases aj:nM s.1 p.2.2.2.1
 ·simp
 ·have r:=HE.1 aj;rw[M.bn r,M.bn (by exact hp)];unfold jI bK;grind
abbrev HU:aJ:=⟨tWi,cP,λx=>x.1.length<2 ^ 63,oD⟩
theorem aob(x):M.le (Ve b5.sh HR.sh x) (HU.sh x):=M.bj λh=>by
 unfold Ve;simp only[aJ.sh,b5,bH,M.bf,M.dj,M.iN,implies_true];rw[M.bn (by omega)];show M.pure _=M.pure (oD x);congr 1;unfold oD;have er:jJ (λn=>bK n 0 99) x.1=jJ jI x.1:=rfl;rw[er];unfold jI bK;grind
theorem aoc(x):M.le (U8 hH.sh b5.sh HT.sh HU.sh x) (py.sh x):=M.bj λh=>by
 have hs:=h;obtain⟨h1,h2,h3,aQ,bu,cW,fK⟩:=h;unfold U8;simp only[aJ.sh,M.dj,M.bn h1];show _=M.pure (iR x);unfold iR;by_cases hc:cr x.1=0
 ·simp only[hc,ne_eq,not_true,decide_false,Bool.false_eq_true,if_false,b5,M.iN,M.dj,implies_true,M.bf,bH,p_,decide_not];have e:(!decide ((x.2.1.length:Int)=(x.1.1.length:Int))||decide ((x.2.2.1.length:Int) > 8)||decide ((x.2.2.2.1.length:Int) > 6)||decide ((x.2.2.2.2.1.length:Int) > 8)||!(decide (0<=x.2.2.2.2.2)&&decide (x.2.2.2.2.2<=99)))=!(decide ((x.2.1.length:Int)=(x.1.1.length:Int))&&decide ((x.2.2.1.length:Int)<=8)&&decide ((x.2.2.2.1.length:Int)<=6)&&decide ((x.2.2.2.2.1.length:Int)<=8)&&jI x.2.2.2.2.2):=by
   simp only[an4,jI,bK,Bool.not_and]
  rw[e];by_cases cy:(decide ((x.2.1.length:Int)=(x.1.1.length:Int))&&decide ((x.2.2.1.length:Int)<=8)&&decide ((x.2.2.2.1.length:Int)<=6)&&decide ((x.2.2.2.2.1.length:Int)<=8)&&jI x.2.2.2.2.2)=true
  ·rw[if_neg (by grind)]
   ·rw[M.dm x.2.1 (λi (_:Unit)=>((i:Int),x,())) (λn b=>if (!bK n 0 10)=true then .done (.done (80:Int)) else .next b) (λ_=>.next (x,())) () ?_ ?_ ?_]
    ·rw[ky (q:=λn=>bK n 0 10) _ _ (λ_=>rfl)];cases h5:x.2.1.all λn=>bK n 0 10 with
     | false=>simp[mR,h5]
     | true=>
      simp only[M.aE,if_true,M.bL];rw[M.dm x.2.2.1 (λi (_:Unit)=>((i:Int),x,())) (λp b=>if (!px x.1 p)=true then .done (.done (80:Int)) else .next b) (λ_=>.next (x,())) () ?_ ?_ ?_]
      ·rw[ky (q:=px x.1) _ _ (λ_=>rfl)];cases aL:x.2.2.1.all (px x.1) with
       | false=>simp[mR,aL]
       | true=>
        simp only[M.aE,if_true,M.bL];rw[M.dm x.2.2.2.1 (λi (_:Unit)=>((i:Int),x,())) (λp b=>if (!oD p)=true then .done (.done (80:Int)) else .next b) (λ_=>.next (x,())) () ?_ ?_ ?_]
        ·rw[ky (q:=oD) _ _ (λ_=>rfl)];cases iY:x.2.2.2.1.all oD with
         | false=>simp[mR,iY]
         | true=>
          simp only[M.aE,if_true,M.bL];rw[M.dm x.2.2.2.2.1 (λi (_:Unit)=>((i:Int),x,())) (λp b=>if (!oE x.1 p)=true then .done (.done (80:Int)) else .next b) (λ_=>.next ()) () ?_ ?_ ?_]
          ·rw[ky (q:=oE x.1) _ _ (λ_=>rfl)];simp only[Bool.and_eq_true]at cy;cases hD:x.2.2.2.2.1.all (oE x.1)<;>simp[mR,h5,aL,iY,hD,cy]
          ·rfl
          ·intro i E b;have hw:=bo (n:=(i:Int)+1) (by omega) (by omega);have ah:=h1.1;have hJ:=bo (n:=((x.1.1.length:Int)) - 1) (by omega) (by omega);simp only[bH,cH E,if_true,cZ E,cv E,M.bf,M.aE,b8,hw,hJ,p_,re];have e:(!(decide (0<=(x.2.2.2.2.1[i]).1)&&decide ((x.2.2.2.2.1[i]).1<=99))||!(decide (0<=(x.2.2.2.2.1[i]).2.1)&&decide ((x.2.2.2.2.1[i]).2.1<(x.1.1.length:Int)))||!(decide (1<=(x.2.2.2.2.1[i]).2.2)&&decide ((x.2.2.2.2.1[i]).2.2<=10)))=!oE x.1 x.2.2.2.2.1[i]:=by
            unfold oE jI gE bK;simp
           rw[e];exact mH (mk:=λ_:Unit=>((i:Int)+1,x,()))
          simp
        ·rfl
        ·intro i E b;have hw:=bo (n:=(i:Int)+1) (by omega) (by omega);simp only[bH,cH E,if_true,cZ E,cv E,M.bf,M.aE,b8,hw,M.bn (show HU.pre x.2.2.2.1[i] from fK _ (List.getElem_mem E))];exact mH (mk:=λ_:Unit=>((i:Int)+1,x,()))
        simp
      ·rfl
      ·intro i E b;have hw:=bo (n:=(i:Int)+1) (by omega) (by omega);simp only[bH,cH E,if_true,cZ E,cv E,M.bf,M.aE,b8,hw,M.nI,M.gm,M.bn (show HT.pre (x,x.2.2.1[i]) from⟨hs,cW _ (List.getElem_mem E)⟩)];exact mH (mk:=λ_:Unit=>((i:Int)+1,x,()))
      simp
    ·rfl
    ·intro i E b;have hw:=bo (n:=(i:Int)+1) (by omega) (by omega);simp only[bH,cH E,if_true,cZ E,cv E,M.bf,M.aE,b8,hw];exact mH (mk:=λ_:Unit=>((i:Int)+1,x,()))
    simp
  ·rw[if_pos (by grind)]
   ·have:mR x=false:=by
     unfold mR;grind
    grind
 grind
theorem aod:HP 201=true:=by decide +kernel
abbrev sz:aJ:=⟨.aw (.int .u64) (.int .u64),.aw (.int .u64) (.int .u64),λx=>x.1=1/\0<=x.2/\x.2<=200,λx=>(0,x.2)⟩
theorem aoe(x):M.le (US x) (sz.sh x):=M.bj λh=>by
 obtain⟨a,b⟩:=x;obtain⟨h1,h2,h3⟩:=h;change a=1 at h1;change 0<=b at h2;change b<=200 at h3;subst h1;have h0:=YC 201 b.toNat aod (by omega);rw[Int.toNat_of_nonneg h2]at h0;have hw:=OB (n:=1*b) (by omega) (by omega);have aof:((0:Int)<=32)=True:=by simp
 unfold US;simp only[aof,M.bf];show M.pure (OE (1,b),IntKind.wrap .u64 (1*b))=_;grind
theorem aog(aoh)(x):M.le (UQ aoh sz.sh x) (sz.sh x):=M.bj λh=>by
 unfold UQ;simp only[aJ.sh,M.dj];simp_all
section
variable {ai β:Type}
theorem aoi(a d:ai)(m J:Nat)(h1:1<=m)(h2:m<J) :
  List.take m (List.replicate m a++List.replicate (J - m) d)++List.take (J - m) (List.take m (List.replicate m a++List.replicate (J - m) d))++
   List.drop (m+(List.take (J - m) (List.take m (List.replicate m a++List.replicate (J - m) d))).length) (List.replicate m a++List.replicate (J - m) d)
  =List.replicate (m+min (J - m) m) a++List.replicate (J - (m+min (J - m) m)) d:=by
 have e1:List.take m (List.replicate m a++List.replicate (J - m) d)=List.replicate m a:=by
  simp
 rw[e1,List.take_replicate,List.replicate_append_replicate,List.length_replicate,List.drop_append,List.length_replicate];have e2:List.drop (m+min (J - m) m) (List.replicate m a)=[]:=by simp
 grind
def YH(d:ai)(fin:List ai->M β)(xE:Int×Int->M (Int×Int))(x:List ai)(n:Int):M β:=
 M.bind (if decide (n<0)=true then M.ae False (M.ae False (M.pure (V.next (x,n,())))) else M.pure (V.next (x,n,())))
 (V.bm λ(A:List ai×Int×Unit)=>M.bind (xE (IntKind.wrap .u64 (Int.ofNat (List.length A.1)),IntKind.wrap .u64 A.2.1)) λy
 =>M.bind (if (decide (y.1 > 0)||decide (y.2 > 9223372036854775807))=true then M.ae False (M.ae False (M.pure (V.next (A.1,y.2,())))) else
 M.pure (V.next (A.1,y.2,()))) (V.bm λ(A:List ai×Int×Unit)=>M.ae (0<=IntKind.wrap .i64 A.2.1/\IntKind.wrap .i64 A.2.1=
 IntKind.wrap .i64 A.2.1/\bX (Int.toNat (IntKind.wrap .i64 A.2.1))) (M.ae True (M.bind (M.loop (λ(A:Int×List ai×Unit)=>if decide (A.1
 < Int.ofNat (List.length A.2.1))=true then M.ae (0<=A.1/\A.1<=Int.ofNat (List.length A.2.1)/\Int.ofNat (List.length A.2.1)<=Int.ofNat
 (List.length A.2.1)) (M.ae ((0:Int)<=0/\0<=A.1/\A.1<=Int.ofNat (List.length A.2.1)) (M.ae True (M.pure (V.next (IntKind.wrap .i64
 (Add.add A.1 (Int.ofNat (if Int.toNat (Int.ofNat (List.length A.2.1)) - Int.toNat A.1<=List.length (List.take (Int.toNat A.1) A.2.1) then Int.toNat
 (Int.ofNat (List.length A.2.1)) - Int.toNat A.1 else List.length (List.take (Int.toNat A.1) A.2.1)))),List.take (Int.toNat A.1) A.2.1++List.take
 (Int.toNat (Int.ofNat (List.length A.2.1)) - Int.toNat A.1) (List.take (Int.toNat A.1) A.2.1)++List.drop (Add.add (Int.toNat A.1) (List.length
 (List.take (Int.toNat (Int.ofNat (List.length A.2.1)) - Int.toNat A.1) (List.take (Int.toNat A.1) A.2.1)))) A.2.1,()))))) else M.bind (M.pure
 (V.next (A.2.1,()))) λr=>M.pure (V.done r)) (Int.ofNat (if List.length (List.replicate (Int.toNat (IntKind.wrap .i64 A.2.1)) d) - 0<=
 List.length A.1 then List.length (List.replicate (Int.toNat (IntKind.wrap .i64 A.2.1)) d) - 0 else List.length A.1),[]++List.take (List.length
 (List.replicate (Int.toNat (IntKind.wrap .i64 A.2.1)) d) - 0) A.1++List.drop (Add.add 0 (List.length (List.take (List.length (List.replicate
 (Int.toNat (IntKind.wrap .i64 A.2.1)) d) - 0) A.1))) (List.replicate (Int.toNat (IntKind.wrap .i64 A.2.1)) d),())) (V.bm λ(A:List ai×
 Unit)=>fin A.1)))))
theorem OK(d a:ai)(LB:List ai->β)(n:Int)(h2:0<=n)(h3:n<=200):M.b9 (YH d (λl=>M.pure (LB l)) sz.sh [a] n) λy=>y=LB (List.replicate n.toNat a):=by
 obtain⟨J,rfl⟩:=Int.eq_ofNat_of_zero_le h2;have HV:decide ((J:Int)<0)=false:=by simp
 have lu:IntKind.u64.wrap (Int.ofNat ([a]:List ai).length)=1:=OB (by simp) (by simp);have aoj:=OB (n:=(J:Int)) (by omega) (by omega);have k6:=bo (n:=(J:Int)) (by omega) (by omega);have hp:sz.pre (1,(J:Int)):=⟨rfl,h2,h3⟩
 have aok:decide ((J:Int) > 9223372036854775807)=false:=by grind
 have lr:bX J:=by unfold bX;omega
 have G:0<=(J:Int)/\True/\bX (Int.toNat (J:Int)):=⟨h2,trivial,by grind⟩
 unfold YH;simp only[HV,Bool.false_eq_true,if_false,M.aE,M.bL,lu,aoj,aJ.sh,M.dj];rw[M.bn (by grind)];simp only[gt_iff_lt,Int.lt_irrefl,decide_false,Bool.false_or,Bool.false_eq_true,if_false,M.aE,M.bL,k6];have aol:decide ((9223372036854775807:Int)<(J:Int))=false:=aok;simp only[aol,Bool.false_eq_true,if_false,M.aE,M.bL,k6];rw[M.bn G];simp only[M.bf,M.fF,Int.toNat_natCast,List.length_replicate,Nat.sub_zero,List.nil_append,List.length_singleton,bH,j1,Nat.zero_add];refine M.Bh (λs=>∃ m:Nat,(1<=m\/J=0)/\m<=J/\s=((m:Int),List.replicate m a++List.replicate (J - m) d,())) (λs=>J - s.1.toNat) ?_ _ ?_
 ·rintro s ⟨m,aj,aw4,rfl⟩;have hlen:(List.replicate m a++List.replicate (J - m) d).length=J:=by grind
  simp only[hlen];by_cases b1:m<J
  ·have gl:0<=(m:Int)/\(m:Int)<=(J:Int)/\(J:Int)<=(J:Int):=by omega
   have cp:(0:Int)<=0/\0<=(m:Int)/\(m:Int)<=(J:Int):=by omega
   have j0:1<=m:=by omega
   have YI:(List.take m (List.replicate m a++List.replicate (J - m) d)).length=m:=by simp
   simp only[cH b1,if_true,M.bn gl,M.bn cp,M.bf,Int.toNat_natCast,YI,b8];rw[M.dC,aoi a d m J j0 b1];have aom:(if J - m<=m then J - m else m)=min (J - m) m:=by rfl
   rw[aom];have gA:=bo (n:=(m:Int)+((min (J - m) m:Nat):Int)) (by omega) (by omega);refine⟨⟨m+min (J - m) m,.inl (by omega),by omega,?_⟩,?_⟩
   ·rw[gA];simp
   ·simp only[gA];omega
  ·have:m=J:=by omega
   subst this;simp only[Int.lt_irrefl,decide_false,Bool.false_eq_true,if_false,M.aE,M.dC,M.bL,Nat.sub_self,List.replicate_zero,List.append_nil]
 ·by_cases aw5:J=0
  ·grind
  ·refine⟨1,.inl (Nat.le_refl _),by omega,?_⟩;grind
end
abbrev HW:aJ:=⟨.aw fE tI,fE,λx=>x.1=[-1]/\0<=x.2/\x.2<=200,λx=>List.replicate x.2.toNat (-1)⟩
theorem aon(x):M.le (aiZ sz.sh x) (HW.sh x):=M.r_ λh=>by
 obtain⟨l,n⟩:=x;obtain⟨h1,h2,h3⟩:=h;change l=[-1]at h1;subst h1;exact OK (0:Int) (-1) (λl=>l) n h2 h3
def vG(x:z1'×Int×Unit):M (z1'×Unit):=M.dt (x.1=[-1]/\0<=x.2.1/\x.2.1<=200) (List.replicate x.2.1.toNat (-1),())
theorem YJ(x):M.le (ajd sz.sh x) (vG x):=M.r_ λh=>by
 obtain⟨l,n,u⟩:=x;obtain⟨h1,h2,h3⟩:=h;change l=[-1]at h1;subst h1;exact OK (0:Int) (-1) (λl=>(l,())) n h2 h3
abbrev HX:ad:=.st (.aw tI tI)
abbrev HY:aJ:=⟨.aw (.slice HX) tI,.slice HX,λx=>x.1.length=1/\0<=x.2/\x.2<=200,λx=>List.replicate x.2.toNat (x.1.getD 0 (0,0))⟩
theorem aoo(x):M.le (aja sz.sh x) (HY.sh x):=M.r_ λh=>by
 obtain⟨l,n⟩:=x;obtain⟨h1,h2,h3⟩:=h;change l.length=1 at h1;obtain⟨a,rfl⟩:=List.length_eq_one_iff.1 h1;exact OK ((0,0):Int×Int) a (λl=>l) n h2 h3
end Go.Fer
namespace Go.Fer
open M (V)
def x3(s:bq)(n:Int):Bool:=decide (0<=n)&&decide (n<(s.2.2.2.1.length:Int))
def x4(s:bq)(n:Int):Bool:=decide (0<=n)&&decide (n<(s.2.2.1.length:Int))
theorem aop{s:bq}{n:Int}:x3 s n=true<->0<=n/\n<(s.2.2.2.1.length:Int):=by simp[x3]
theorem aoq{s:bq}{n:Int}:x4 s n=true<->0<=n/\n<(s.2.2.1.length:Int):=by simp[x4]
abbrev OL:aJ:=⟨.aw lK tI,cP,λx=>e' x.1,λx=>x3 x.1 x.2⟩
abbrev OM:aJ:=⟨.aw lK tI,cP,λx=>e' x.1,λx=>x4 x.1 x.2⟩
theorem aor(x):M.le (Va b5.sh x) (OL.sh x):=M.bj λh=>by
 have ah:=h.2.2.2.1;have hw:=bo (n:=(x.1.2.2.2.1.length:Int) - 1) (by omega) (by omega);unfold Va;simp[aJ.sh,b5,hw,x3,re]
theorem aos(x):M.le (Vf b5.sh x) (OM.sh x):=M.bj λh=>by
 have ah:=h.2.2.1;have hw:=bo (n:=(x.1.2.2.1.length:Int) - 1) (by omega) (by omega);unfold Vf;simp[aJ.sh,b5,hw,x4,re]
def sA(x:dp)(p:c_):Int:=if (!x.1.contains p.1||!bK p.2.1 x.2.1.1 x.2.1.2)=true then 0 else if p.2.2.1=x.2.2.1 then 1 else if p.2.2.1=0 then 2 else 0
abbrev vH:aJ:=⟨.aw tWi mQ,tI,λx=>x.1.1.length<2 ^ 63,λx=>sA x.1 x.2⟩
theorem aot(x):M.le (Vg b5.sh ov.sh x) (vH.sh x):=M.bj λh=>by
 unfold Vg;simp only[aJ.sh,b5,ov,M.dj,M.iN,implies_true,M.bf,p_];rw[M.bn (by exact h)];show _=M.pure (sA x.1 x.2);unfold sA bK;grind
def vI(s:bq)(l:z1')(i:Nat):Bool:=decide (l.getD i 0=-1)||(x4 s (l.getD i 0)&&!(l.take i).contains (l.getD i 0))
def vJ(s:bq)(l:z1'):Bool:=((List.range l.length).all (vI s l))&&decide ((l.length:Int)=(s.2.2.2.1.length:Int))
abbrev HZ:aJ:=⟨.aw lK fE,cP,λx=>e' x.1/\x.2.length<2 ^ 63,λx=>vJ x.1 x.2⟩
theorem aou(x):M.le (Vh OM.sh ov.sh x) (HZ.sh x):=M.bj λh=>by
 obtain⟨s,l⟩:=x;obtain⟨hs,ah⟩:=h;change e' s at hs;change l.length<2 ^ 63 at ah;unfold Vh;rw[M.dm (List.range l.length) (λi (_:Unit)=>(l,l,(l.length:Int),(i:Int),s,())) (λi b=>if (!vI s l i)=true then .done (.done false) else .next b) (λ_=>.next (l,s,())) () ?_ ?_ ?_]
 ·rw[ky (q:=vI s l) _ _ (λ_=>rfl)];show _=M.pure (vJ s l);unfold vJ;cases (List.range l.length).all (vI s l)<;>simp
 ·simp
 ·intro i E b;have E:i<l.length:=by grind
  have hw:=bo (n:=(i:Int)+1) (by omega) (by omega);obtain⟨aH,je⟩:∃ aH,l.getD i 0=aH:=⟨_,rfl⟩
  have cn:vI s l i=(decide (aH=-1)||(x4 s aH&&!(l.take i).contains aH)):=by unfold vI;rw[je]
  simp only[bH,cH E,if_true,List.getElem_range,cv E,M.bf,aJ.sh,M.dj,M.iN,Int.toNat_natCast,je];rw[M.bn (by grind),M.bn,M.bn]
  ·simp only[M.aE,b8,hw,vI,je];by_cases h1:aH=-1
   ·simp_all
   ·cases h2:x4 s aH<;>cases h3:(l.take i).contains aH<;>simp[h1,h2,h3,V.gQ]
  ·intro _;show (l.take i).length<2 ^ 63;rw[List.length_take];omega
  ·intro cy;exact⟨⟨cy,trivial,cy⟩,⟨by omega,by omega,by omega⟩,trivial⟩
 simp
def kJ(s:bq)(bR:Bool):Int:=if iR s≠0 then iR s else if bR=false then 1 else ef s.1 true
theorem YK{s:bq}(h:iR s=0):cr s.1=0/\mR s=true:=by
 unfold iR at h;grind
theorem AO{s:bq}{bR:Bool}(h:kJ s bR=0):iR s=0/\bR=true/\ef s.1 true=0/\vC s.1=true:=by
 unfold kJ at h;by_cases he:iR s=0
 ·rw[if_neg (by omega)]at h;cases bR with
  | false=>grind
  | true=>
   simp only[Bool.true_eq_false,if_false]at h;exact⟨he,rfl,h,(DU h).2.2⟩
 omega
structure lL(s:bq):Prop where
 gz:e' s
 sr:qj s.1
 D5:s.2.1.length=s.1.1.length
 ql:∀ n∈s.2.1,0<=n/\n<=10
 H0:s.2.2.1.length<=8
 aov:∀ p∈s.2.2.1,px s.1 p=true
 ue:s.2.2.2.1.length<=6
 YL:∀ x∈s.2.2.2.1,oD x=true
 ON:s.2.2.2.2.1.length<=8
 YM:∀ d∈s.2.2.2.2.1,oE s.1 d=true
 aow:0<=s.2.2.2.2.2/\s.2.2.2.2.2<=99
theorem AP{s:bq}(hs:e' s)(h:iR s=0):lL s:=by
 obtain⟨h1,h2⟩:=YK h;simp only[mR,Bool.and_eq_true,decide_eq_true_eq,List.all_eq_true,bK,jI]at h2;obtain⟨⟨⟨⟨⟨⟨⟨⟨aM,aO⟩,bz⟩,f'⟩,oV⟩,xd⟩,Gz⟩,CX⟩,L4⟩:=h2;exact⟨hs,⟨hs.1,Oy h1⟩,by omega,aO,by omega,f',by omega,xd,by omega,CX,L4⟩
theorem lL.YN{s:bq}(h:lL s):s.1.1.length<=10:=(DT h.sr.2).1
def H2(w:bb)(t:z5')(q:Int×Int×Int):z5':=if ua w q.1 q.2.1 q.2.2=1 then u' t q (IntKind.i64.wrap ((oC t q).getD 0+1)) else t
def YO(w:bb)(i m:Nat)(t:z5'):z5':=(List.range (jh w (m:Int)).length).foldl (λt (k:Nat)=>H2 w t ((i:Int),(m:Int),(k:Int))) t
def YP(w:bb)(i:Nat)(t:z5'):z5':=(List.range w.2.1.length).foldl (λt m=>YO w i m t) t
def uf(w:bb)(n:Nat):z5':=(List.range n).foldl (λt i=>YP w i t) []
def k7(p:Int×Int)(n:Int):z4':=List.replicate n.toNat p
def D6(l:z1'):z4':=(List.range l.length).flatMap λ(i:Nat)=>k7 ((i:Int),0) (l.getD i 0)
def YQ(l:List Di):z4':=l.flatMap λd=>k7 (d.2.1,d.1) d.2.2
def OO(s:bq):z4':=D6 s.2.1++YQ s.2.2.2.2.1
def cT(s:bq):Sto:=(s,OO s,uf s.1 s.2.1.length)
def x5(s:bq)(bR:Bool):Option Sto×Int:=if kJ s bR≠0 then (none,kJ s bR) else (some (cT s),0)
theorem OP{ai β:Type}(f:ai->List β):∀ (l:List ai) (b:List β),l.foldl (λb x=>b++f x) b=b++l.flatMap f
 | [],b=>by simp
 | x::l,b=>by rw[List.foldl_cons,OP f l,List.flatMap_cons,List.append_assoc]
abbrev aox:ad:=.st (.aw tI (.aw tI tI))
abbrev vK:ad:=.bp (.st (.aw lK (.aw (.slice HX) (.map aox tI))))
abbrev AQ:aJ:=⟨.aw lK cP,.aw vK tI,λx=>e' x.1,λx=>x5 x.1 x.2⟩
theorem aoy(s:bq)(bR:Bool)(hs:e' s):M5 py.sh xY.sh AI.sh HY.sh (s,bR)=M.pure (x5 s bR):=by
 unfold M5 x5 kJ;simp only[aJ.sh,M.dj,M.bn hs];by_cases he:iR s=0
 ·have hv:=AP hs he;simp only[he,ne_eq,not_true,decide_false,Bool.false_eq_true,if_false];cases bR with
  | false=>simp
  | true=>
   simp only[Bool.not_true,Bool.false_eq_true,if_false,Bool.true_eq_false];refine Eq.trans (congrArg (λm=>M.bind m _) (show _=(if ef s.1 true≠0 then M.pure (V.done ((none:Option Sto),ef s.1 true)) else M.pure (V.next (s,([]:z5'),s.1.1,s.1.2.1,s.1.2.2.1,s.1.2.2.2,s.2.1,s.2.2.1,s.2.2.2.1,s.2.2.2.2.1,s.2.2.2.2.2,()))) from ?_)) ?_
   ·by_cases a8:s.2.1.length=0
    ·have aF:ef s.1 true=0:=by
      unfold ef;have h0:s.1.1.length=0:=by rw[<-hv.D5];exact a8
      have:vC s.1=true:=by unfold vC;grind
      simp[(YK he).1,this]
     grind
    ·have h1:decide (Int.ofNat (List.length s.2.1) > 0)=true:=by grind
     have h2:gE s.1 0=true:=by rw[tY];have:=hv.D5;omega
     rw[if_pos h1,M.bn hs.1];unfold vD;rw[h2];by_cases an:ef s.1 true=0
     ·simp[an]
     ·simp[an]
   by_cases yD:ef s.1 true=0
   ·simp only[yD,ne_eq,not_true,if_false,M.aE,M.bL];have aw6:=hv.YN;have hsl:=hv.D5;have aoz:s.1.2.1.length<=6:=(DT hv.sr.2).2.1;rw[M.dm (List.range s.2.1.length) (λi t=>((s.2.1.length:Int),(i:Int),s,t,s.1.1,s.1.2.1,s.1.2.2.1,s.1.2.2.2,s.2.1,s.2.2.1,s.2.2.2.1,s.2.2.2.2.1,s.2.2.2.2.2,())) (λi t=>.next (YP s.1 i t)) (λt=>.next (s,t,s.1.1,s.1.2.1,s.1.2.2.1,s.1.2.2.2,s.2.1,s.2.2.1,s.2.2.2.1,s.2.2.2.2.1,s.2.2.2.2.2,())) [] ?_ ?_ ?_]
    ·rw[dV];simp only[M.aE,M.bL];rw[M.gn (List.range s.2.1.length) (λi acc=>(s.2.1,(s.2.1.length:Int),(i:Int),s,uf s.1 s.2.1.length,s.1.1,s.1.2.1,s.1.2.2.1,s.1.2.2.2,s.2.1,s.2.2.1,s.2.2.2.1,s.2.2.2.2.1,s.2.2.2.2.2,acc,())) (λi acc=>.next (acc++k7 ((i:Int),0) (s.2.1.getD i 0))) (λacc=>.next (s,uf s.1 s.2.1.length,s.1.1,s.1.2.1,s.1.2.2.1,s.1.2.2.2,s.2.1,s.2.2.1,s.2.2.2.1,s.2.2.2.2.1,s.2.2.2.2.2,acc,())) (λi acc=>acc.length<=10*i) [] ?_ ?_ ?_ ?_]
     ·rw[dV,OP];simp only[M.aE,M.bL,List.nil_append];have fB:(D6 s.2.1).length<=100:=by
       have:∀ (l:List Nat),(∀ i∈l,i<s.2.1.length)->(l.flatMap λ(i:Nat)=>k7 ((i:Int),0) (s.2.1.getD i 0)).length<=10*l.length:=by
        intro l;induction l with
        | nil=>simp
        | cons i l aG=>
         intro ah;have h1:=aG λj aB=>ah j (by grind);have h2:=ah i (by simp);have h3:=hv.ql _ (List.getElem_mem h2);have je:s.2.1.getD i 0=s.2.1[i]:=by grind
         rw[List.flatMap_cons,List.length_append,List.length_cons,je];simp only[k7,List.length_replicate];simp only[k7]at h1;omega
       have:=this (List.range s.2.1.length) (λi E=>by grind);rw[List.length_range]at this;unfold D6;omega
      rw[M.gn s.2.2.2.2.1 (λi acc=>(s.2.2.2.2.1,(s.2.2.2.2.1.length:Int),(i:Int),uf s.1 s.2.1.length,s.1.1,s.1.2.1,s.1.2.2.1,s.1.2.2.2,s.2.1,s.2.2.1,s.2.2.2.1,s.2.2.2.2.1,s.2.2.2.2.2,acc,())) (λd acc=>.next (acc++k7 (d.2.1,d.1) d.2.2)) (λacc=>.next (uf s.1 s.2.1.length,s.1.1,s.1.2.1,s.1.2.2.1,s.1.2.2.2,s.2.1,s.2.2.1,s.2.2.2.1,s.2.2.2.2.1,s.2.2.2.2.2,acc,())) (λi acc=>acc.length<=100+10*i) (D6 s.2.1) ?_ ?_ ?_ ?_]
      ·rw[dV,OP,M.aE,M.bL];rfl
      ·rfl
      ·omega
      ·intro i E acc Oz;have aw7:=hv.ON;have hJ:=bo (n:=(i:Int)+1) (by omega) (by omega);have ar:=hv.YM _ (List.getElem_mem E);have CC:1<=s.2.2.2.2.1[i].2.2/\s.2.2.2.2.1[i].2.2<=10:=by
        simp only[oE,bK,Bool.and_eq_true,decide_eq_true_eq]at ar;omega
       have hlen:(k7 (s.2.2.2.2.1[i].2.1,s.2.2.2.2.1[i].1) s.2.2.2.2.1[i].2.2).length<=10:=by simp only[k7,List.length_replicate];omega
       have lr:bX (acc.length+(k7 (s.2.2.2.2.1[i].2.1,s.2.2.2.2.1[i].1) s.2.2.2.2.1[i].2.2).length):=by unfold bX;omega
       refine⟨?_,λaZ aa=>?_⟩
       ·simp only[bH,cH E,if_true,cZ E,cv E,M.bf,M.nI,M.gm,b8,j1,hJ];rw[M.bn (by grind),M.bn (by exact lr)];rfl
       grind
      simp
     ·rfl
     ·simp
     ·intro i E acc Oz;have E:i<s.2.1.length:=by grind
      have hJ:=bo (n:=(i:Int)+1) (by omega) (by omega);have je:s.2.1.getD i 0=s.2.1[i]:=by grind
      have CC:=hv.ql _ (List.getElem_mem E);have hlen:(k7 ((i:Int),0) s.2.1[i]).length<=10:=by simp only[k7,List.length_replicate];omega
      have lr:bX (acc.length+(k7 ((i:Int),0) s.2.1[i]).length):=by unfold bX;omega
      refine⟨?_,λaZ aa=>?_⟩
      ·simp only[bH,cH E,if_true,cZ E,cv E,M.bf,M.nI,M.gm,b8,j1,hJ,List.getElem_range,je];rw[M.bn (by grind),M.bn (by exact lr)];rfl
      grind
     simp
    ·simp
    ·intro i E t;have E:i<s.2.1.length:=by grind
     have hJ:=bo (n:=(i:Int)+1) (by omega) (by omega);simp only[bH,cH E,if_true,List.getElem_range];rw[M.dm (List.range s.1.2.1.length) (λm t=>((i:Int),(s.2.1.length:Int),(i:Int),s.1.2.1,(s.1.2.1.length:Int),(m:Int),s,t,s.1.1,s.1.2.1,s.1.2.2.1,s.1.2.2.2,s.2.1,s.2.2.1,s.2.2.2.1,s.2.2.2.2.1,s.2.2.2.2.2,())) (λm t=>.next (YO s.1 i m t)) (λt=>.next ((s.2.1.length:Int),(i:Int),s,t,s.1.1,s.1.2.1,s.1.2.2.1,s.1.2.2.2,s.2.1,s.2.2.1,s.2.2.2.1,s.2.2.2.2.1,s.2.2.2.2.2,())) t ?_ ?_ ?_]
     ·rw[dV];simp only[M.aE,M.bL,b8,hJ];rfl
     ·rfl
     ·intro m aj t;have aj:m<s.1.2.1.length:=by grind
      have H3:=bo (n:=(m:Int)+1) (by omega) (by omega);have aoA:s.1.2.1[m]=jh s.1 (m:Int):=by simp[jh,List.getD_eq_getElem?_getD,aj]
      simp only[bH,cH aj,if_true,List.getElem_range,cv aj,M.bf,cZ aj,aoA];have AG:=HF hs.1 (m:Int);rw[M.dm (List.range (jh s.1 (m:Int)).length) (λk t=>((i:Int),(m:Int),(s.2.1.length:Int),(i:Int),s.1.2.1,(s.1.2.1.length:Int),(m:Int),((jh s.1 (m:Int)).length:Int),(k:Int),s,t,s.1.1,s.1.2.1,s.1.2.2.1,s.1.2.2.2,s.2.1,s.2.2.1,s.2.2.2.1,s.2.2.2.2.1,s.2.2.2.2.2,())) (λk t=>.next (H2 s.1 t ((i:Int),(m:Int),(k:Int)))) (λt=>.next ((i:Int),(s.2.1.length:Int),(i:Int),s.1.2.1,(s.1.2.1.length:Int),(m:Int),s,t,s.1.1,s.1.2.1,s.1.2.2.1,s.1.2.2.2,s.2.1,s.2.2.1,s.2.2.2.1,s.2.2.2.2.1,s.2.2.2.2.2,())) t ?_ ?_ ?_]
      ·rw[dV];simp only[M.aE,M.bL,b8,H3];rfl
      ·rfl
      ·intro k an t;have an:k<(jh s.1 (m:Int)).length:=by grind
       have ma:=bo (n:=(k:Int)+1) (by omega) (by omega);have nG:gE s.1 (i:Int)=true:=by rw[tY];omega
       have aoB:iB s.1 (m:Int) (k:Int)=true:=by rw[AE];omega
       have aq:qk s.1 (i:Int) (m:Int) (k:Int)=(ua s.1 (i:Int) (m:Int) (k:Int),0):=by simp[qk,nG,aoB,yD]
       simp only[cH an,if_true,List.getElem_range];simp only[aq,M.bn hs.1,decide_eq_true_eq];by_cases h1:ua s.1 (i:Int) (m:Int) (k:Int)=1
       ·simp only[h1,if_true,and_self,M.bf,M.aE,M.bL,b8,ma,V.gQ,H2];rfl
       ·simp only[h1,if_false,M.aE,M.bL,b8,ma,V.gQ,H2];rfl
      simp
     simp
    simp
   ·simp[yD]
 grind
theorem aoC(x):M.le (M5 py.sh xY.sh AI.sh HY.sh x) (AQ.sh x):=M.bj λh=>aoy x.1 x.2 h
theorem aoD{p:Int->Bool}{l:z1'}(h:jJ p l=true):∀ x∈l,p x=true:=by
 intro x hx;obtain⟨i,E,rfl⟩:=List.mem_iff_getElem.1 hx;unfold jJ at h;simp_all
theorem aoE{p:Int->Bool}{l:z1'}(h:jJ p l=true):l.Pairwise (·<·):=by
 unfold jJ at h;rw[List.all_eq_true]at h;have step:∀ i,i+1<l.length->l.getD i 0<l.getD (i+1) 0:=λi E=>by
  grind
 have key:∀ j i,i<j->j<l.length->l.getD i 0<l.getD j 0:=by
  intro j;induction j with
  | zero=>omega
  | succ j aG=>
   grind
 rw[List.pairwise_iff_getElem];grind
theorem OQ{s:bq}(hv:lL s){p:c_}(hp:p∈s.2.2.1):nM s.1 p.2.2.2.1=true/\p.2.2.2.2.length<=4/\∀ k∈p.2.2.2.2,iB s.1 p.2.2.2.1 k=true:=by
 have h:=hv.aov p hp;simp only[px,Bool.and_eq_true]at h;obtain⟨⟨_,aj⟩,G⟩:=h;have fj:∀ k∈p.2.2.2.2,iB s.1 p.2.2.2.1 k=true:=λk an=>by
  have:=aoD G k an;rw[AE];simp only[DZ,Bool.and_eq_true,decide_eq_true_eq]at this;exact⟨HE.1 aj,this⟩
 refine⟨aj,?_,fj⟩;have aoF:=aoE G;have ta:p.2.2.2.2.Nodup:=aoF.imp λh e=>by omega
 cases aa:p.2.2.2.2 with
 | nil=>simp
 | cons k l=>
  rw[<-aa];have aQ:=am5 hv.sr.2 (fj k (by grind));have:=OD (jh s.1 p.2.2.2.1).length p.2.2.2.2 ta λk an=>by
   have:=AE.1 (fj k an);omega
  omega
abbrev rj:Type:=Int×Int×Int
abbrev aoG:dp:=([],(0,0),0,0,0)
abbrev aoH:c_:=(0,0,0,0,[])
abbrev x6:Sto:=((([],[],0,[]),[],[],[],[],0),[],[])
def mc(s:bq)(i:Int):dp:=s.2.2.2.1.getD i.toNat aoG
def mS(s:bq)(i:Int):c_:=s.2.2.1.getD i.toNat aoH
def vL(s:bq)(x:dp)(p:c_):Option Int:=if sA x p=0 then none else if (if sA x p=2 then x.2.2.2.1 - s.2.2.2.2.2 else x.2.2.2.1)<0 then none else some (if sA x p=2 then x.2.2.2.1 - s.2.2.2.2.2 else x.2.2.2.1)
def oF(s:bq)(b':z1')(i:Nat):Option (List rj):=if b'.getD i 0<0 then some [] else (vL s (mc s (i:Int)) (mS s (b'.getD i 0))).map λd=>(mS s (b'.getD i 0)).2.2.2.2.map λk=>((mS s (b'.getD i 0)).2.2.2.1,k,d)
def k8(s:bq)(b':z1'):List rj×Bool:=if ((List.range b'.length).all λi=>(oF s b' i).isSome)=true then ((List.range b'.length).flatMap λi=>(oF s b' i).getD [],true) else ([],false)
def nN(s:bq)(b':z1'):Prop:=b'.length<=s.2.2.2.1.length/\∀ p∈b',p<(s.2.2.1.length:Int)
def nO(o:Option Sto):bq:=(o.getD x6).1
def vM(o:Option Sto)(s:bq):Prop:=o=some (cT s)/\lL s
theorem OR{s:bq}{i:Nat}(h:i<s.2.2.2.1.length):mc s (i:Int)∈s.2.2.2.1:=by
 simp[mc,List.getD_eq_getElem?_getD,h]
theorem YR{s:bq}{i:Int}(h0:0<=i)(h:i<(s.2.2.1.length:Int)):mS s i∈s.2.2.1:=xA h0 h
theorem YS{s:bq}(hv:lL s){x:dp}(hx:x∈s.2.2.2.1):(0<=x.2.2.2.1/\x.2.2.2.1<=99)/\(0<=x.2.2.2.2/\x.2.2.2.2<=100000):=by
 have:=hv.YL x hx;simp only[oD,jI,bK,Bool.and_eq_true,decide_eq_true_eq]at this;omega
theorem YT{s:bq}(hv:lL s){b':z1'}(hp:nN s b'){i:Nat}(E:i<b'.length){l:List rj}(h:oF s b' i=some l):l.length<=4:=by
 unfold oF at h;split at h
 ·grind
 ·rename_i HV;rw[Option.map_eq_some_iff]at h;obtain⟨d,_,rfl⟩:=h;rw[List.length_map];have aj:b'.getD i 0∈b':=by grind
  exact (OQ hv (YR (by omega) (hp.2 _ aj))).2.1
def AR{ai β aD:Type}(f:ai->Option (List β))(r:aD)(x:ai)(b:List β):V (List β) aD:=if (f x).isSome=true then .next (b++(f x).getD []) else .done r
theorem D7{ai β aD:Type}{f:ai->Option (List β)}{r:aD}{x:ai}{b y:List β}(h:f x=some y):AR f r x b=.next (b++y):=by simp[AR,h]
theorem H4{ai β aD:Type}{f:ai->Option (List β)}{r:aD}{x:ai}{b:List β}(h:f x=none):AR f r x b=.done r:=by simp[AR,h]
theorem YU{ai β aD:Type}{f:ai->Option (List β)}{r:aD}{fin:List β->aD}:∀ (l:List ai) (b:List β),eB (AR f r) fin l b=if (l.all λx=>(f x).isSome)=true then fin (b++l.flatMap λx=>(f x).getD []) else r
 | [],b=>by simp[eB]
 | x::l,b=>by
  simp only[eB];cases h:f x with
  | none=>simp[H4 h,h]
  | some y=>
   have:=YU (f:=f) (r:=r) (fin:=fin) l (b++y);simp only[D7 h,List.all_cons,h,Option.isSome_some,Bool.true_and,List.flatMap_cons,Option.getD_some];grind
abbrev H5:ad:=.st (.aw tI (.aw tI tI))
abbrev H6:aJ:=⟨.aw vK fE,.aw (.slice H5) cP,λx=>∃ s,vM x.1 s/\nN s x.2,λx=>k8 (nO x.1) x.2⟩
theorem aoI(s:bq)(hv:lL s)(b':z1')(hp:nN s b'):M6 vH.sh (some (cT s),b')=M.pure (k8 s b'):=by
 unfold M6;have AS:=hv.ue;have aw8:=hp.1;simp only[Option.isSome_some,Option.getD_some,M.bf];rw[M.gn (List.range b'.length) (λi acc=>(some (cT s),b',(b'.length:Int),(i:Int),acc,())) (AR (oF s b') (.done ([],false))) (λacc=>.next (acc,())) (λi acc=>acc.length<=4*i) [] ?_ ?_ ?_ ?_]
 ·rw[YU];unfold k8;by_cases h:((List.range b'.length).all λi=>(oF s b' i).isSome)=true
  ·simp[h]
  ·simp[h]
 ·rfl
 ·simp
 ·intro i E acc Oz;have E:i<b'.length:=by grind
  have sB:i<s.2.2.2.1.length:=by omega
  have hJ:=bo (n:=(i:Int)+1) (by omega) (by omega);have H7:=OR sB;rw[List.getElem_range];obtain⟨aH,aoJ⟩:∃ aH,b'.getD i 0=aH:=⟨_,rfl⟩
  have aoK:aH∈b':=by grind
  refine⟨?_,λaZ aa=>?_⟩
  ·simp only[bH,cH E,if_true,Int.toNat_natCast,aoJ,cv E,M.bf,Option.isSome_some,Option.getD_some];by_cases HV:aH<0
   ·have mx:oF s b' i=some []:=by unfold oF;grind
    rw[D7 mx];simp_all
   ·have h5:aH<(s.2.2.1.length:Int):=hp.2 aH aoK;have aoL:=YR (s:=s) (by omega) h5;have gl:0<=aH/\aH<(s.2.2.1.length:Int):=⟨by omega,h5⟩
    have fB:(cT s).1=s:=rfl;have AT:List.getD s.2.2.2.1 i ([],(0,0),0,0,0)=mc s (i:Int):=rfl;have OS:List.getD s.2.2.1 aH.toNat (0,0,0,0,[])=mS s aH:=rfl;simp only[HV,decide_false,Bool.false_eq_true,if_false,fB,cv sB,M.bn gl,M.bf,aJ.sh,M.dj,AT,OS];have mx:oF s b' i=(vL s (mc s (i:Int)) (mS s aH)).map λd=>(mS s aH).2.2.2.2.map λk=>((mS s aH).2.2.2.1,k,d):=by unfold oF;grind
    rw[M.bn (show vH.pre (mc s (i:Int),mS s aH) from hv.gz.2.2.2.2.2.2 _ H7)];obtain⟨aw9,_⟩:=YS hv H7;have lv:=hv.aow;obtain⟨aoz,ik,Cu⟩:=OQ hv aoL;have aoM:=bo (n:=(mc s (i:Int)).2.2.2.1 - s.2.2.2.2.2) (by omega) (by omega);generalize mc s (i:Int)=x at *
    generalize mS s aH=p at *
    by_cases h0:sA x p=0
    ·have ar:vL s x p=none:=by unfold vL;grind
     rw[ar]at mx;rw[H4 mx];simp only[h0,decide_true,if_true,M.aE,M.o_,V.gQ]
    ·by_cases h2:sA x p=2;all_goals simp only[h0,h2,decide_true,decide_false,Bool.false_eq_true,if_false,if_true,M.aE,M.bL,aoM,Int.reduceEq]
     ·have ar:vL s x p=(if x.2.2.2.1 - s.2.2.2.2.2<0 then none else some (x.2.2.2.1 - s.2.2.2.2.2)):=by unfold vL;grind
      generalize x.2.2.2.1 - s.2.2.2.2.2=d at *
      by_cases qT:d<0
      ·rw[if_pos qT]at ar;rw[ar]at mx;rw[H4 mx];simp_all
      ·rw[if_neg qT]at ar;rw[ar]at mx;rw[D7 mx];simp only[qT,decide_false,Bool.false_eq_true,if_false];rw[M.gn p.2.2.2.2 (λk acc=>(some (cT s),d,b',(b'.length:Int),(i:Int),p.2.2.2.2,(p.2.2.2.2.length:Int),(k:Int),acc,p,())) (λk acc=>.next (acc++[(p.2.2.2.1,k,d)])) (λacc=>.next (some (cT s),b',(b'.length:Int),(i:Int),acc,())) (λk x7=>x7.length<=4*i+k) acc ?_ ?_ ?_ ?_]
       ·rw[dV,xz];simp_all
       ·rfl
       ·omega
       ·intro k an x7 aoN;have ma:=bo (n:=(k:Int)+1) (by omega) (by omega);have lr:bX (x7.length+(0+1)):=by unfold bX;omega
        refine⟨?_,λaZ aa=>?_⟩
        ·simp_all
        grind
       simp
     ·have ar:vL s x p=(if x.2.2.2.1<0 then none else some x.2.2.2.1):=by unfold vL;grind
      generalize x.2.2.2.1=d at *
      by_cases qT:d<0
      ·omega
      ·rw[if_neg qT]at ar;rw[ar]at mx;rw[D7 mx];simp only[qT,decide_false,Bool.false_eq_true,if_false];rw[M.gn p.2.2.2.2 (λk acc=>(some (cT s),d,b',(b'.length:Int),(i:Int),p.2.2.2.2,(p.2.2.2.2.length:Int),(k:Int),acc,p,())) (λk acc=>.next (acc++[(p.2.2.2.1,k,d)])) (λacc=>.next (some (cT s),b',(b'.length:Int),(i:Int),acc,())) (λk x7=>x7.length<=4*i+k) acc ?_ ?_ ?_ ?_]
       ·rw[dV,xz];simp_all
       ·rfl
       ·omega
       ·intro k an x7 aoN;have ma:=bo (n:=(k:Int)+1) (by omega) (by omega);have lr:bX (x7.length+(0+1)):=by unfold bX;omega
        refine⟨?_,λaZ aa=>?_⟩
        ·simp_all
        grind
       simp
  ·cases mx:oF s b' i with
   | none=>rw[H4 mx]at aa;cases aa
   | some y=>
    rw[D7 mx]at aa;cases aa;have:=YT hv hp E mx;grind
 simp
theorem aoO(x):M.le (M6 vH.sh x) (H6.sh x):=M.bj λh=>by
 obtain⟨o,b'⟩:=x;obtain⟨s,⟨aq,hv⟩,hp⟩:=h;change o=_ at aq;subst aq;exact aoI s hv b' hp
def rk(s:bq)(b':z1'):Int:=((List.range b'.length).map λ(i:Nat)=>if b'.getD i 0=-1 then 0 else (mc s (i:Int)).2.2.2.2).foldl (·+·) 0
abbrev sC:aJ:=⟨.aw vK fE,tI,λx=>∃ s,vM x.1 s/\x.2.length<=s.2.2.2.1.length,λx=>rk (nO x.1) x.2⟩
theorem aoP(s:bq)(hv:lL s)(b':z1')(hp:b'.length<=s.2.2.2.1.length):Na (some (cT s),b')=M.pure (rk s b'):=by
 unfold Na;have AS:=hv.ue;rw[M.gn (List.range b'.length) (λi (n:Int)=>(some (cT s),n,b',(b'.length:Int),(i:Int),())) (λ(i:Nat) n=>.next (n+if b'.getD i 0=-1 then 0 else (mc s (i:Int)).2.2.2.2)) (λn=>.next (n,())) (λi n=>0<=n/\n<=100000*i) 0 ?_ ?_ ?_ ?_]
 ·rw[dV];unfold rk;rw[List.foldl_map,M.aE,M.bL]
 ·rfl
 ·simp
 ·intro i E n ax;have E:i<b'.length:=by grind
  have sB:i<s.2.2.2.1.length:=by omega
  have hJ:=bo (n:=(i:Int)+1) (by omega) (by omega);obtain⟨_,n'⟩:=YS hv (OR sB);have AT:List.getD s.2.2.2.1 i ([],(0,0),0,0,0)=mc s (i:Int):=rfl;have AM:=bo (n:=n+(mc s (i:Int)).2.2.2.2) (by omega) (by omega);have fB:(cT s).1=s:=rfl;rw[List.getElem_range];refine⟨?_,λaZ aa=>?_⟩
  ·simp only[bH,cH E,if_true,Int.toNat_natCast,cv E,cv sB,M.bf,Option.isSome_some,Option.getD_some,b8,fB,AT];by_cases h1:b'.getD i 0=-1
   ·simp only[h1,ne_eq,not_true,decide_false,Bool.false_eq_true,if_false,if_true,M.aE,M.bL,hJ,Int.add_zero,V.gQ];rfl
   ·simp only[h1,ne_eq,not_false_iff,decide_true,if_false,if_true,cv sB,M.bf,M.aE,M.bL,hJ,AM,V.gQ];rfl
  grind
 simp
theorem aoQ(x):M.le (Na x) (sC.sh x):=M.bj λh=>by
 obtain⟨o,b'⟩:=x;obtain⟨s,⟨aq,hv⟩,hp⟩:=h;change o=_ at aq;subst aq;exact aoP s hv b' hp
theorem D8{l:z1'}{j i:Nat}{s:Int}(aB:j<l.length):(l.set j s).getD i 0=if i=j then s else l.getD i 0:=by
 grind
abbrev YV(fit:List (z1'))(j:Int):z1':=fit.getD j.toNat []
def aoR(ql work:z1')(s:Int):Prop:=ql.getD s.toNat 0<=((OF work s).length:Int)
def aoS(fit:List (z1'))(ql work:z1')(C:Int->Prop):Prop:=∀ j,C j->∀ s∈YV fit j,aoR ql work s/\∀ h∈OF work s,C h
def aoT(n:Nat)(ql work:z1'):Prop:=∀ s,0<=s->s<(n:Int)->((OF work s).length:Int)<=ql.getD s.toNat 0
structure aw_(n:Nat)(fit:List (z1'))(ql:z1')(k:Nat)(work:z1'):Prop where
 len:work.length=fit.length
 val:aoT n ql work
 mem:∀ i:Nat,i<fit.length->work.getD i 0=-1\/work.getD i 0∈YV fit (i:Int)
 bZ:∀ i:Nat,k<=i->i<fit.length->work.getD i 0=-1
 OT:∃ C,aoS fit ql work C/\(∀ c,C c->0<=c/\c<(k:Int))/\∀ i:Nat,i<k->work.getD i 0=-1->C (i:Int)
theorem aoU{J i:Nat}(h:i<J):(List.replicate J (-1:Int)).getD i 0=-1:=by
 grind
theorem YW(a b:Int):(if a=b then 1 else 0)=(if b=a then 1 else (0:Nat)):=by
 grind
def gv(g:z1')(j:Int):Nat:=g.countP λx=>decide (x=j)
theorem OU:∀ {g:z1'} {i:Nat} {x:Int} (j:Int),i<g.length->gv (g.set i x) j+(if g.getD i 0=j then 1 else 0)=gv g j+(if x=j then 1 else 0)
 | [],i,x,j,h=>by grind
 | y::g,0,x,j,h=>by
  unfold gv;grind
 | y::g,i+1,x,j,h=>by
  have:=OU (g:=g) (i:=i) (x:=x) j (by grind);unfold gv at *
  grind
theorem aoV{g:z1'}{i:Nat}{j:Int}(E:i<g.length)(h:g.getD i 0=j):0<gv g j:=by
 unfold gv;grind
def nP(gd:Nat->Int->Bool)(rec:Int->kI->Bool×kI)(own:Int)(i:Nat)(st:kI):V kI (Bool×kI):=
 if (decide (cw st.2 (i:Int) > 0)||!gd i own)=true then .next st
 else if decide (st.1.getD i 0=-1)=true then .done (true,(st.1.set i own,eN st.2 (i:Int) (cw st.2 (i:Int)+1)))
 else if (rec (st.1.getD i 0) (st.1,eN st.2 (i:Int) (cw st.2 (i:Int)+1))).1=true then .done (true,((rec (st.1.getD i 0) (st.1,eN st.2 (i:Int) (cw st.2 (i:Int)+1))).2.1.set i own,(rec (st.1.getD i 0) (st.1,eN st.2 (i:Int) (cw st.2 (i:Int)+1))).2.2))
 else .next (rec (st.1.getD i 0) (st.1,eN st.2 (i:Int) (cw st.2 (i:Int)+1))).2
def jK(gd:Nat->Int->Bool)(m:Nat):Nat->Int->kI->Bool×kI
 | 0=>λ_ st=>(false,st)
 | f+1=>λown st=>eB (nP gd (jK gd m f) own) (λst=>(false,st)) (List.range m) st
def OV(m J:Nat)(g:z1'):Prop:=∀ i,i<m->g.getD i 0=-1\/(0<=g.getD i 0/\g.getD i 0<(J:Int))
structure x8(m J f:Nat)(st:kI):Prop where
 len:st.1.length=m
 lM:OV m J st.1
 seen:∀ k,0<=cw st.2 k/\cw st.2 k<=1
 bW:ri m st.2<f
structure OW(m J:Nat)(st r:kI):Prop where
 len:r.1.length=m
 lM:OV m J r.1
 seen:∀ k,cw st.2 k<=cw r.2 k/\cw r.2 k<=1
def YX(gd:Nat->Int->Bool)(m:Nat)(g:z1')(C:Int->Prop):Prop:=∀ j,C j->∀ i,i<m->gd i j=true->g.getD i 0≠-1/\C (g.getD i 0)
def YY(gd:Nat->Int->Bool)(m:Nat)(g:z1')(s s':z4'):Prop:=∀ i,i<m->cw s (i:Int)=0->1<=cw s' (i:Int)->g.getD i 0≠-1/\∀ k,k<m->gd k (g.getD i 0)=true->1<=cw s' (k:Int)
structure OX(gd:Nat->Int->Bool)(m:Nat)(own:Int)(st:kI)(r:Bool×kI):Prop where
 no:r.1=false->r.2.1=st.1/\(∀ i,i<m->gd i own=true->1<=cw r.2.2 (i:Int))/\YY gd m st.1 st.2 r.2.2
 YZ:r.1=true->(∀ i,i<m->r.2.1.getD i 0=st.1.getD i 0\/(cw st.2 (i:Int)=0/\gd i (r.2.1.getD i 0)=true))/\∀ j,j≠-1->gv r.2.1 j=gv st.1 j+(if j=own then 1 else 0)
 cl:∀ C,YX gd m st.1 C->(C own->r.1=false)/\(r.1=true->∀ i,i<m->r.2.1.getD i 0≠st.1.getD i 0->∀ c,C c->gd i c=false)
def Y0(gd:Nat->Int->Bool)(m J f:Nat)(rec:Int->kI->Bool×kI):Prop:=∀ own st,0<=own->own<(J:Int)->x8 m J f st->OW m J st (rec own st).2/\OX gd m own st (rec own st)
theorem aoW{gd:Nat->Int->Bool}{m J f:Nat}{rec:Int->kI->Bool×kI}(DI:Y0 gd m J f rec){own:Int}(Y1:0<=own)(Y2:own<(J:Int)){st:kI}(h0:x8 m J (f+1) st) :
  OW m J st (eB (nP gd rec own) (λst=>(false,st)) (List.range m) st).2/\OX gd m own st (eB (nP gd rec own) (λst=>(false,st)) (List.range m) st):=by
 refine anQ (λk b=>b.1=st.1/\(∀ q,cw st.2 q<=cw b.2 q/\cw b.2 q<=1)/\(∀ i,i<k->i<m->gd i own=true->1<=cw b.2 (i:Int))/\YY gd m st.1 st.2 b.2)
  (λr:Bool×kI=>OW m J st r.2/\OX gd m own st r) (List.range m) st ⟨rfl,λq=>⟨Int.le_refl _,(h0.seen q).2⟩,λi E=>by omega,λi _ h1 h2=>by omega⟩ (λi E b aa=>?_) λb aa=>?_
 ·obtain⟨hw,mN,H8,kQ⟩:=aa;have E:i<m:=by grind
  rw[List.getElem_range];have uV:∀ q,0<=cw b.2 q:=λq=>Int.le_trans (h0.seen q).1 (mN q).1;unfold nP;by_cases hc:(decide (cw b.2 (i:Int) > 0)||!gd i own)=true
  ·grind
  ·rw[if_neg hc];simp only[Bool.or_eq_true,not_or,decide_eq_true_eq,Bool.not_eq_true',Bool.not_eq_false]at hc;obtain⟨a8,az⟩:=hc;have a8:cw b.2 (i:Int)=0:=by grind
   have Kf:cw st.2 (i:Int)=0:=by have:=(mN i).1;have:=(h0.seen i).1;omega
   have pS:i<st.1.length:=by rw[h0.len];exact E
   have j0:∀ q,cw b.2 q<=cw (eN b.2 (i:Int) (cw b.2 (i:Int)+1)) q/\cw (eN b.2 (i:Int) (cw b.2 (i:Int)+1)) q<=1:=λq=>by
    have:=mN q;rw[AN];omega
   have aw':cw (eN b.2 (i:Int) (cw b.2 (i:Int)+1)) (i:Int)=1:=by rw[AN,if_pos rfl,a8];rfl
   by_cases aq:st.1.getD i 0=-1
   ·rw[hw,if_pos (by grind)];refine⟨⟨by show (st.1.set i own).length=m;rw[List.length_set];exact h0.len,λk an=>?_,λq=>⟨Int.le_trans (mN q).1 (j0 q).1,(j0 q).2⟩⟩,λh=>(by cases h),λ_=>⟨λk an=>?_,λj aB=>?_⟩,λC iY=>⟨λOY=>?_,λ_ k an dX c hc=>?_⟩⟩
    ·show (st.1.set i own).getD k 0=-1\/(0<=(st.1.set i own).getD k 0/\(st.1.set i own).getD k 0<(J:Int))
     rw[D8 pS];split
     ·omega
     ·exact h0.lM k an
    ·grind
    ·have:=OU (x:=own) j pS;grind
    ·exact absurd aq (iY own OY i E az).1
    ·change (st.1.set i own).getD k 0≠_ at dX;rw[D8 pS]at dX;split at dX
     ·rename_i e;subst e;cases OZ:gd k c with
      | false=>rfl
      | true=>exact absurd aq (iY c hc k E OZ).1
     omega
   ·rw[hw,if_neg (by grind)];have iw:=(h0.lM i E).resolve_left aq;have vN:x8 m J f (st.1,eN b.2 (i:Int) (cw b.2 (i:Int)+1)):=by
     refine⟨h0.len,h0.lM,λq=>⟨Int.le_trans (uV q) (j0 q).1,(j0 q).2⟩,?_⟩;have h1:=YE (n:=m) (m:=b.2) (s:=(i:Int)) (v:=cw b.2 (i:Int)+1) (by omega) (by omega) a8 (by omega);have h2:=YF (n:=m) (a:=st.2) (b:=b.2) λk=>⟨(h0.seen k).1,(mN k).1⟩
     have h3:=h0.bW;grind
    obtain⟨hp,G⟩:=DI (st.1.getD i 0) _ iw.1 iw.2 vN;revert hp G;generalize rec (st.1.getD i 0) (st.1,eN b.2 (i:Int) (cw b.2 (i:Int)+1))=r;intro hp G;have xh:∀ q,cw (eN b.2 (i:Int) (cw b.2 (i:Int)+1)) q<=cw r.2.2 q:=λq=>(hp.seen q).1;by_cases bu:r.1=true
    ·rw[if_pos bu];obtain⟨kv,AU⟩:=G.YZ bu;have tj:i<r.2.1.length:=by rw[hp.len];exact E
     have BX:r.2.1.getD i 0=st.1.getD i 0:=by
      grind
     refine⟨⟨by show (r.2.1.set i own).length=m;rw[List.length_set];exact hp.len,λk an=>?_,λq=>⟨Int.le_trans (mN q).1 (Int.le_trans (j0 q).1 (xh q)),(hp.seen q).2⟩⟩,λh=>(by cases h),λ_=>⟨λk an=>?_,λj aB=>?_⟩,λC iY=>⟨λOY=>?_,λ_ k an dX c hc=>?_⟩⟩
     ·show (r.2.1.set i own).getD k 0=-1\/(0<=(r.2.1.set i own).getD k 0/\(r.2.1.set i own).getD k 0<(J:Int))
      rw[D8 tj];split
      ·omega
      ·exact hp.lM k an
     ·show (r.2.1.set i own).getD k 0=_\/(_/\gd k ((r.2.1.set i own).getD k 0)=true)
      rw[D8 tj];split
      ·grind
      ·rcases kv k an with e | ⟨e1,e2⟩
       ·grind
       ·right;refine⟨?_,e2⟩;have a:=(j0 (k:Int)).1;have d:=mN (k:Int);have c:=(h0.seen (k:Int)).1;grind
     ·have a:=OU (x:=own) j tj;have d:=AU j aB;change gv r.2.1 j=gv st.1 j+_ at d;rw[BX]at a;show gv (r.2.1.set i own) j=_;rw[YW j own];rw[YW j (st.1.getD i 0)]at d;omega
     ·have:=(G.cl C iY).1 (iY own OY i E az).2;grind
     ·change (r.2.1.set i own).getD k 0≠_ at dX;rw[D8 tj]at dX;split at dX
      ·rename_i e;subst e;cases OZ:gd k c with
       | false=>rfl
       | true=>
        have:=(G.cl C iY).1 (iY c hc k E OZ).2;grind
      ·exact (G.cl C iY).2 bu k an dX c hc
    ·rw[if_neg bu];have Cn:r.1=false:=by grind
     obtain⟨Cp,axa,aoX⟩:=G.no Cn;refine⟨Cp,λq=>⟨Int.le_trans (mN q).1 (Int.le_trans (j0 q).1 (xh q)),(hp.seen q).2⟩,λk an O0 F8=>?_,λk O0 e0 e1=>?_⟩
     ·grind
     ·by_cases e:k=i
      ·grind
      ·by_cases e2:1<=cw b.2 (k:Int)
       ·obtain⟨a,c⟩:=kQ k O0 e0 e2;grind
       ·refine aoX k O0 ?_ e1;show cw (eN b.2 (i:Int) (cw b.2 (i:Int)+1)) (k:Int)=0;rw[AN,if_neg (by omega)];grind
 ·obtain⟨hw,mN,H8,kQ⟩:=aa;rw[List.length_range]at H8;refine⟨⟨by rw[hw];exact h0.len,by rw[hw];exact h0.lM,mN⟩,λ_=>⟨hw,λi E az=>H8 i E E az,kQ⟩,λh=>(by cases h),λC iY=>⟨λ_=>rfl,λh=>(by cases h)⟩⟩
theorem O1{gd:Nat->Int->Bool}{m J:Nat}:∀ f,Y0 gd m J f (jK gd m f)
 | 0=>λown st _ _ h=>absurd h.bW (by omega)
 | f+1=>λown st h0 h1 h=>aoW (O1 f) h0 h1 h
def x9(gd:Nat->Int->Bool)(m F:Nat)(st:z1'×Int)(j:Nat):z1'×Int:=((jK gd m F (j:Int) (st.1,[])).2.1,if (jK gd m F (j:Int) (st.1,[])).1=true then st.2 else st.2+1)
def O2(gd:Nat->Int->Bool)(m J F:Nat):z1'×Int:=(List.range J).foldl (x9 gd m F) (List.replicate m (-1),0)
structure D9(gd:Nat->Int->Bool)(m J k:Nat)(st:z1'×Int):Prop where
 len:st.1.length=m
 lM:∀ i,i<m->st.1.getD i 0=-1\/(0<=st.1.getD i 0/\st.1.getD i 0<(k:Int)/\gd i (st.1.getD i 0)=true)
 one:∀ j,0<=j->gv st.1 j<=1
 num:st.2=(((List.range k).countP λ(j:Nat)=>decide (gv st.1 (j:Int)=0):Nat):Int)
 OT:∃ C,YX gd m st.1 C/\(∀ c,C c->0<=c/\c<(k:Int))/\∀ j:Nat,j<k->gv st.1 (j:Int)=0->C (j:Int)
theorem Y3{gd:Nat->Int->Bool}{m J F k:Nat}(ba:m<F)(an:k<J){st:z1'×Int}(h:D9 gd m J k st):D9 gd m J (k+1) (x9 gd m F st k):=by
 obtain⟨g,n⟩:=st;have hu:ri m []<=m:=by
  unfold ri;exact Nat.le_trans List.countP_le_length (by simp)
 have vN:x8 m J F (g,[]):=⟨h.len,λi E=>by have:=h.lM i E;grind,λq=>⟨Int.le_refl _,by show (0:Int)<=1;decide⟩,by grind⟩
 obtain⟨hp,G⟩:=O1 F (k:Int) (g,[]) (by omega) (by omega) vN;unfold x9;revert hp G;generalize jK gd m F (k:Int) (g,[])=r;intro hp G;have my:gv g (k:Int)=0:=by
  unfold gv;rw[List.countP_eq_zero];intro x hx;obtain⟨i,E,rfl⟩:=List.mem_iff_getElem.1 hx;have:=h.lM i (by rw[<-h.len];exact E);grind
 obtain⟨C,iY,axb,axc⟩:=h.OT;by_cases aa:r.1=true
 ·obtain⟨kv,AU⟩:=G.YZ aa;have axd:=(G.cl C iY).2 aa;refine⟨hp.len,λi E=>?_,λj aB=>?_,?_,C,λc tv i E D_=>?_,λc tv=>?_,λj aB hu=>?_⟩
  ·show r.2.1.getD i 0=-1\/_;rcases kv i E with e | ⟨e1,e2⟩
   ·rw[e];rcases h.lM i E with a | a
    ·exact .inl a
    ·exact .inr ⟨a.1,by have:=a.2.1;show g.getD i 0<_;change g.getD i 0<_ at this;omega,a.2.2⟩
   ·by_cases j0:r.2.1.getD i 0=-1
    ·omega
    ·refine .inr ⟨?_,?_,e2⟩
     ·have:=(hp.lM i E).resolve_left j0;grind
     ·have h1:=AU _ j0;have h2:0<gv r.2.1 (r.2.1.getD i 0):=aoV (by rw[hp.len];exact E) rfl;by_cases e:r.2.1.getD i 0=(k:Int)
      ·grind
      ·rw[if_neg e]at h1;have h3:0<gv g (r.2.1.getD i 0):=by grind
       unfold gv at h3;rw[List.countP_pos_iff]at h3;obtain⟨x,hx,eK⟩:=h3;obtain⟨q,bd,rfl⟩:=List.mem_iff_getElem.1 hx;have:=h.lM q (by rw[<-h.len];exact bd);grind
  ·have h1:=AU j (by omega);have h2:=h.one j aB;change gv r.2.1 j=gv g j+_ at h1;change gv g j<=1 at h2;show gv r.2.1 j<=1;by_cases e:j=(k:Int)
   ·subst e;rw[if_pos rfl]at h1;omega
   ·rw[if_neg e]at h1;omega
  ·rw[if_pos aa];have h1:=h.num;change n=_ at h1;show n=_;rw[h1,List.range_succ,List.countP_append];have h2:∀ j:Nat,j<k->gv r.2.1 (j:Int)=gv g (j:Int):=λj aB=>by
    have:=AU (j:Int) (by omega);rw[if_neg (by omega)]at this;omega
   have h3:gv r.2.1 (k:Int)=1:=by
    grind
   have aQ:(List.range k).countP (λ(j:Nat)=>decide (gv r.2.1 (j:Int)=0))=(List.range k).countP (λ(j:Nat)=>decide (gv g (j:Int)=0)):=List.countP_congr λj aB=>by grind
   simp_all
  ·show r.2.1.getD i 0≠-1/\C (r.2.1.getD i 0);by_cases e:r.2.1.getD i 0=g.getD i 0
   ·rw[e];exact iY c tv i E D_
   grind
  ·grind
  ·change gv r.2.1 (j:Int)=0 at hu;have h1:=AU (j:Int) (by omega);change gv r.2.1 _=gv g _+_ at h1;by_cases e:j=k
   ·grind
   ·rw[if_neg (by omega)]at h1;grind
 ·have Cn:r.1=false:=by grind
  obtain⟨hw,H8,kQ⟩:=G.no Cn;change r.2.1=g at hw;simp only[hw];refine⟨h.len,λi E=>?_,h.one,?_,λc=>C c\/c=(k:Int)\/∃ i,i<m/\1<=cw r.2.2 (i:Int)/\c=g.getD i 0,λc tv i E D_=>?_,λc tv=>?_,λj aB hu=>?_⟩
  ·rcases h.lM i E with a | a
   ·exact .inl a
   ·exact .inr ⟨a.1,by have:=a.2.1;show g.getD i 0<_;change g.getD i 0<_ at this;omega,a.2.2⟩
  ·rw[if_neg aa];have h1:=h.num;change n=_ at h1;show n+1=_;rw[h1,List.range_succ,List.countP_append];grind
  ·have ax:1<=cw r.2.2 (i:Int)->g.getD i 0≠-1/\(C (g.getD i 0)\/g.getD i 0=(k:Int)\/∃ q,q<m/\1<=cw r.2.2 (q:Int)/\g.getD i 0=g.getD q 0):=λhs=>⟨(kQ i E rfl hs).1,.inr (.inr ⟨i,E,hs,rfl⟩)⟩
   rcases tv with e | e | ⟨q,bd,hs,e⟩
   ·exact⟨(iY c e i E D_).1,.inl (iY c e i E D_).2⟩
   ·grind
   ·subst e;exact ax ((kQ q bd rfl hs).2 i E D_)
  ·rcases tv with e | e | ⟨q,bd,hs,e⟩
   ·grind
   ·omega
   ·have:=(h.lM q bd).resolve_left (kQ q bd rfl hs).1;grind
  grind
theorem aoY(gd:Nat->Int->Bool)(m J F:Nat)(ba:m<F):D9 gd m J J (O2 gd m J F):=by
 unfold O2;have key:∀ k,k<=J->D9 gd m J k ((List.range k).foldl (x9 gd m F) (List.replicate m (-1),0)):=by
  intro k;induction k with
  | zero=>
   intro _;refine⟨by simp,λi E=>.inl (aoU E),λj aB=>?_,by simp,λ_=>False,λ_ h=>h.elim,λ_ h=>h.elim,λj aB=>by omega⟩;show gv (List.replicate m (-1)) j<=1;have:gv (List.replicate m (-1)) j=0:=by
    unfold gv;grind
   omega
  | succ k aG=>
   intro an;rw[List.range_succ,List.foldl_append];exact Y3 ba (by omega) (aG (by omega))
 grind
def rl(t:Sto)(sp:Int×Int)(j:rj):Bool:=decide (sp.2<=j.2.2)&&decide ((oC t.2.2 (sp.1,j.1,j.2.1)).getD 0 > 0)
abbrev fcGood:aJ:=⟨.aw vK (.aw HX H5),cP,λx=>∃ t,x.1=some t,λx=>rl (x.1.getD x6) x.2.1 x.2.2⟩
theorem aoZ(x):M.le (Vi x) (fcGood.sh x):=M.bj λh=>by
 obtain⟨o,sp,j⟩:=x;obtain⟨t,aq⟩:=h;change o=_ at aq;subst aq;unfold Vi;simp only[Option.isSome_some,Option.getD_some,and_true,true_and,and_self,imp_self,implies_true,M.bf];rfl
def D'(t:Sto)(l:List rj):Bool:=l.all λj=>(List.range t.1.2.1.length).any λ(i:Nat)=>rl t ((i:Int),0) j
abbrev O3:aJ:=⟨.aw vK (.slice H5),cP,λx=>∃ t,x.1=some t/\t.1.2.1.length<2 ^ 63/\x.2.length<2 ^ 63,λx=>D' (x.1.getD x6) x.2⟩
theorem ao0(t:Sto)(l:List rj)(h1:t.1.2.1.length<2 ^ 63)(h2:l.length<2 ^ 63):M7 fcGood.sh (some t,l)=M.pure (D' t l):=by
 unfold M7;rw[M.dm l (λi (_:Unit)=>(some t,l,(l.length:Int),(i:Int),())) (λj b=>if (!(List.range t.1.2.1.length).any λ(i:Nat)=>rl t ((i:Int),0) j)=true then .done (.done false) else .next b) (λ_=>.next ()) () ?_ ?_ ?_]
 ·rw[ky (q:=λj=>(List.range t.1.2.1.length).any λ(i:Nat)=>rl t ((i:Int),0) j) _ _ (λ_=>rfl)];unfold D';cases l.all λj=>(List.range t.1.2.1.length).any λ(i:Nat)=>rl t ((i:Int),0) j<;>simp
 ·rfl
 ·intro i E b;have hw:=bo (n:=(i:Int)+1) (by omega) (by omega);simp only[bH,cH E,if_true,cZ E,cv E,M.bf,Option.isSome_some,Option.getD_some];rw[M.dm (List.range t.1.2.1.length) (λk (b:Bool)=>(some t,b,l,(l.length:Int),(i:Int),(t.1.2.1.length:Int),(k:Int),l[i],())) (λ(k:Nat) b=>.next (b||rl t ((k:Int),0) l[i])) (λb=>.next (some t,b,l,(l.length:Int),(i:Int),())) false ?_ ?_ ?_]
  ·rw[dV];have e:∀ (r:List Nat) (b:Bool),r.foldl (λ(b:Bool) (k:Nat)=>b||rl t ((k:Int),0) l[i]) b=(b||r.any λ(k:Nat)=>rl t ((k:Int),0) l[i]):=by
    intro r;induction r with
    | nil=>simp
    | cons k r aG=>grind
   rw[e,Bool.false_or];simp only[M.aE,M.bL];cases (List.range t.1.2.1.length).any λ(k:Nat)=>rl t ((k:Int),0) l[i]<;>simp[V.gQ,hw]
  ·rfl
  ·intro k an b;have an:k<t.1.2.1.length:=by grind
   have ma:=bo (n:=(k:Int)+1) (by omega) (by omega);simp only[cH an,if_true,List.getElem_range,aJ.sh,M.iN,M.dj];rw[M.bn (by simp)];simp only[Option.getD_some,b8,ma,V.gQ];grind
  simp
 simp
theorem ao1(x):M.le (M7 fcGood.sh x) (O3.sh x):=M.bj λh=>by
 obtain⟨o,l⟩:=x;obtain⟨t,aq,h1,h2⟩:=h;change o=_ at aq;subst aq;exact ao0 t l h1 h2
def gG(t:Sto)(l:List rj)(i:Nat)(j:Int):Bool:=rl t (t.2.1.getD i (0,0)) (l.getD j.toNat (0,0,0))
abbrev O4:=Option Sto×List rj×Int×z4'×z1'×Unit
abbrev Y4:=Bool×z4'×z1'×Unit
def ug(r:Bool×kI):Y4:=(r.1,r.2.2,r.2.1,())
def O5(f:Nat)(x:O4):Prop:=∃ t,x.1=some t/\t.2.1.length<=200/\x.2.1.length<=1000/\0<=x.2.2.1/\x.2.2.1<(x.2.1.length:Int)/\x8 t.2.1.length x.2.1.length f (x.2.2.2.2.1,x.2.2.2.1)
def uh(f:Nat)(x:O4):M Y4:=M.dt (O5 f x) (ug (jK (gG (x.1.getD x6) x.2.1) (x.1.getD x6).2.1.length f x.2.2.1 (x.2.2.2.2.1,x.2.2.2.1)))
theorem ao2{t:Sto}{l:List rj}(aj:t.2.1.length<=200)(ah:l.length<=1000){f:Nat}{own:Int}(Y1:0<=own)(Y2:own<(l.length:Int)){st:kI}(h0:x8 t.2.1.length l.length (f+1) st) :
  Nd fcGood.sh (uh f) (some t,l,own,st.2,st.1,())=M.pure (ug (jK (gG t l) t.2.1.length (f+1) own st)):=by
 have DI:=O1 (gd:=gG t l) (m:=t.2.1.length) (J:=l.length) f;unfold Nd;simp only[bH,M.bf,anR,Option.isSome_some,Option.getD_some];rw[M.gn (List.range t.2.1.length) (λi (b:kI)=>(some t,l,own,t.2.1,(t.2.1.length:Int),(i:Int),b.2,b.1,())) (λi b=>V.uc (λr=>.done (ug r)) (nP (gG t l) (jK (gG t l) t.2.1.length f) own i b)) (λb=>.next (b.2,b.1,())) (λi b=>b.1=st.1/\∀ q,cw st.2 q<=cw b.2 q/\cw b.2 q<=1) st ?_ ?_ ?_ ?_]
 ·show _=M.pure (ug (eB (nP (gG t l) (jK (gG t l) t.2.1.length f) own) (λst=>(false,st)) (List.range t.2.1.length) st));rw[OG,OG,YG];cases x1 (nP (gG t l) (jK (gG t l) t.2.1.length f) own) (List.range t.2.1.length) st<;>(simp only[V.uc,V.fin,M.aE,M.bL,M.o_];try rfl)
 ·rfl
 ·exact⟨rfl,λq=>⟨Int.le_refl _,(h0.seen q).2⟩⟩
 ·intro i E b aa;have E:i<t.2.1.length:=by grind
  have k6:=bo (n:=(i:Int)+1) (by omega) (by omega);rw[List.getElem_range];have ao3:b.1.length=t.2.1.length:=by rw[aa.1];exact h0.len
  have eh:i<b.1.length:=by omega
  have ao4:0<=own/\own<(l.length:Int):=⟨Y1,Y2⟩
  have kv:=aa.2 (i:Int);have mF:=h0.seen (i:Int);simp only[bH,cH E,if_true,cv E,cv eh,M.bf,ao4,aJ.sh,M.nI,M.gm,Int.toNat_natCast,Option.getD_some];have yZ:rl t (t.2.1.getD i (0,0)) (l.getD own.toNat (0,0,0))=gG t l i own:=rfl;rw[yZ];have ao5:(∃ cA,(some t:Option Sto)=some cA)=True:=by simp
  simp only[ao5,and_true,true_and,and_self,imp_self,implies_true,M.bf];by_cases H9:cw b.2 (i:Int) > 0
  ·have hu:nP (gG t l) (jK (gG t l) t.2.1.length f) own i b=.next b:=by unfold nP;grind
   rw[hu];refine⟨?_,λaZ cY=>by cases cY;exact aa⟩;simp only[H9,decide_true,Bool.true_or,if_true,M.aE,M.bL,b8,k6,V.gQ,V.uc,Bool.not_true,Bool.false_eq_true,false_imp_iff,Bool.true_eq_false,M.bf,and_self,implies_true];rfl
  ·by_cases az:gG t l i own=true
   ·have a8:cw b.2 (i:Int)=0:=by omega
    have H3:=bo (n:=cw b.2 (i:Int)+1) (by omega) (by omega);have j0:∀ q,cw b.2 q<=cw (eN b.2 (i:Int) (cw b.2 (i:Int)+1)) q/\cw (eN b.2 (i:Int) (cw b.2 (i:Int)+1)) q<=1:=λq=>by
     have:=aa.2 q;rw[AN];omega
    have JT:¬(decide (cw b.2 (i:Int) > 0)||!gG t l i own)=true:=by grind
    by_cases aq:b.1.getD i 0=-1
    ·have hu:nP (gG t l) (jK (gG t l) t.2.1.length f) own i b=.done (true,(b.1.set i own,eN b.2 (i:Int) (cw b.2 (i:Int)+1))):=by
      unfold nP;grind
     rw[hu];refine⟨?_,λaZ cY=>by cases cY⟩;simp only[H9,az,aq,decide_true,decide_false,Bool.not_true,Bool.not_false,Bool.or_self,Bool.false_eq_true,if_false,if_true,false_imp_iff,Bool.true_eq_false,Bool.true_or,M.bf,M.aE,M.o_,b8,H3,cv eh,V.gQ,V.uc,and_self,implies_true,true_imp_iff];rfl
    ·have axe:=h0.lM i E;have aB:0<=b.1.getD i 0/\b.1.getD i 0<(l.length:Int):=by grind
     have vN:x8 t.2.1.length l.length f (b.1,eN b.2 (i:Int) (cw b.2 (i:Int)+1)):=by
      refine⟨ao3,?_,λk=>⟨?_,(j0 k).2⟩,?_⟩
      ·show OV _ _ b.1;rw[aa.1];exact h0.lM
      ·have:=(j0 k).1;have:=aa.2 k;have:=(h0.seen k).1;grind
      ·have h1:=YE (n:=t.2.1.length) (m:=b.2) (s:=(i:Int)) (v:=cw b.2 (i:Int)+1) (by omega) (by omega) a8 (by omega);have h2:=YF (n:=t.2.1.length) (a:=st.2) (b:=b.2) λk=>⟨(h0.seen k).1,(aa.2 k).1⟩
       have h3:=h0.bW;grind
     obtain⟨zG,ao6⟩:=DI (b.1.getD i 0) (b.1,eN b.2 (i:Int) (cw b.2 (i:Int)+1)) aB.1 aB.2 vN;have gj:O5 f (some t,l,b.1.getD i 0,eN b.2 (i:Int) (cw b.2 (i:Int)+1),b.1,()):=⟨t,rfl,aj,ah,aB.1,aB.2,vN⟩
     have u3:uh f (some t,l,b.1.getD i 0,eN b.2 (i:Int) (cw b.2 (i:Int)+1),b.1,())=M.pure (ug (jK (gG t l) t.2.1.length f (b.1.getD i 0) (b.1,eN b.2 (i:Int) (cw b.2 (i:Int)+1)))):=M.bE gj _;simp only[H9,az,aq,decide_true,decide_false,Bool.not_true,Bool.not_false,Bool.or_self,Bool.false_eq_true,if_false,if_true,false_imp_iff,Bool.true_eq_false,Bool.false_or,M.bf,b8,H3,and_self,implies_true,true_imp_iff,u3,M.aE];have tj:(jK (gG t l) t.2.1.length f (b.1.getD i 0) (b.1,eN b.2 (i:Int) (cw b.2 (i:Int)+1))).2.1.length=t.2.1.length:=zG.len;have axf:=zG.seen;have axg:=ao6.no;have Y5:nP (gG t l) (jK (gG t l) t.2.1.length f) own i b=if (jK (gG t l) t.2.1.length f (b.1.getD i 0) (b.1,eN b.2 (i:Int) (cw b.2 (i:Int)+1))).1=true then .done (true,((jK (gG t l) t.2.1.length f (b.1.getD i 0) (b.1,eN b.2 (i:Int) (cw b.2 (i:Int)+1))).2.1.set i own,(jK (gG t l) t.2.1.length f (b.1.getD i 0) (b.1,eN b.2 (i:Int) (cw b.2 (i:Int)+1))).2.2)) else .next (jK (gG t l) t.2.1.length f (b.1.getD i 0) (b.1,eN b.2 (i:Int) (cw b.2 (i:Int)+1))).2:=by
      unfold nP;grind
     rw[Y5];clear Y5 u3;generalize jK (gG t l) t.2.1.length f (b.1.getD i 0) (b.1,eN b.2 (i:Int) (cw b.2 (i:Int)+1))=r at *
     obtain⟨ok,g',s'⟩:=r;have pS:i<g'.length:=by grind
     cases ok with
     | true=>
      refine⟨?_,λaZ cY=>by cases cY⟩;simp only[ug,if_true,cv pS,M.bf,M.aE,M.o_,V.gQ,V.uc]
     | false=>
      refine⟨?_,λaZ cY=>?_⟩
      ·simp only[ug,Bool.false_eq_true,if_false,M.aE,M.bL,b8,k6,V.gQ,V.uc];rfl
      ·cases cY;grind
   ·have hu:nP (gG t l) (jK (gG t l) t.2.1.length f) own i b=.next b:=by unfold nP;grind
    rw[hu];refine⟨?_,λaZ cY=>by cases cY;exact aa⟩;simp only[H9,az,decide_false,Bool.not_false,Bool.or_true,if_true,M.aE,M.bL,b8,k6,V.gQ,V.uc,Bool.false_eq_true,M.bf,and_self,implies_true];rfl
 simp
theorem ao7(f:Nat)(x):M.le (Nd fcGood.sh (uh f) x) (uh (f+1) x):=M.bj λh=>by
 obtain⟨o,l,own,seen,g,u⟩:=x;obtain⟨t,aq,aj,ah,h0,h1,vN⟩:=h;change o=_ at aq;subst aq;exact ao2 (st:=(g,seen)) aj ah h0 h1 vN
theorem ao8(x:O4):¬(uh 0 x).b4:=λ⟨_,_,_,_,_,_,h⟩=>absurd h.bW (by omega)
def x_(t:Sto)(l:List rj):Int:=(O2 (gG t l) t.2.1.length l.length 201).2
abbrev H_:aJ:=⟨.aw vK (.slice H5),tI,λx=>∃ t,x.1=some t/\t.2.1.length<=200/\x.2.length<=1000,λx=>x_ (x.1.getD x6) x.2⟩
theorem ao9(t:Sto)(l:List rj)(aj:t.2.1.length<=200)(ah:l.length<=1000):M8 vG (uh 201) (some t,l)=M.pure (x_ t l):=by
 unfold M8;simp only[bH,Option.isSome_some,Option.getD_some,M.bf];unfold vG;simp only[M.dj];rw[M.bn (by grind)];simp only[Int.toNat_natCast];rw[M.gn (List.range l.length) (λi (b:z1'×Int)=>(some t,l,b.2,(l.length:Int),(i:Int),b.1,())) (λi b=>.next (x9 (gG t l) t.2.1.length 201 b i)) (λb=>.next (b.2,())) (λi b=>D9 (gG t l) t.2.1.length l.length i b/\0<=b.2/\b.2<=(i:Int)) (List.replicate t.2.1.length (-1),0) ?_ ?_ ?_ ?_]
 ·rw[dV,M.aE,M.bL];rfl
 ·rfl
 ·refine⟨?_,by simp⟩;have:=aoY (gG t l) t.2.1.length 0 201 (by omega);exact⟨this.len,this.lM,this.one,this.num,this.OT⟩
 ·intro i E b aa;have E:i<l.length:=by grind
  have k6:=bo (n:=(i:Int)+1) (by omega) (by omega);rw[List.getElem_range];obtain⟨g,n⟩:=b;obtain⟨aa,rO,pT⟩:=aa;change 0<=n at rO;change n<=(i:Int) at pT;have AM:=bo (n:=n+1) (by omega) (by omega);have gj:O5 201 (some t,l,(i:Int),[],g,()):=by
   refine⟨t,rfl,aj,ah,Int.natCast_nonneg i,Int.ofNat_lt.2 E,aa.len,λk an=>?_,λk=>by show 0<=cw [] k/\cw [] k<=1;simp[cw,ub],?_⟩
   ·rcases aa.lM k an with h | h
    ·exact .inl h
    ·exact .inr ⟨h.1,Int.lt_trans h.2.1 (Int.ofNat_lt.2 E)⟩
   ·have:ri t.2.1.length []<=t.2.1.length:=by
     unfold ri;exact Nat.le_trans List.countP_le_length (by simp)
    grind
  have u3:uh 201 (some t,l,(i:Int),[],g,())=M.pure (ug (jK (gG t l) t.2.1.length 201 (i:Int) (g,[]))):=M.bE gj _;have CG:=Y3 (F:=201) (by omega) E aa;refine⟨?_,λaZ cY=>?_⟩
  ·simp only[cH E,if_true,u3,M.aE,ug];unfold x9;cases cn:(jK (gG t l) t.2.1.length 201 (i:Int) (g,[])).1 with
   | true=>
    simp_all
   | false=>
    simp_all
  ·cases cY;refine⟨CG,?_⟩;have e1:(0:Int)<=n+1:=by omega
   have e2:n+1<=((i+1:Nat):Int):=by omega
   have e3:n<=((i+1:Nat):Int):=by omega
   unfold x9;omega
 simp
theorem ao_(x):M.le (M8 vG (uh 201) x) (H_.sh x):=M.bj λh=>by
 obtain⟨o,l⟩:=x;obtain⟨t,aq,h1,h2⟩:=h;change o=_ at aq;subst aq;exact ao9 t l h1 h2
theorem Y6{s:bq}(hv:lL s):(OO s).length<=200:=by
 have h1:∀ (l:List Nat),(∀ i∈l,i<s.2.1.length)->(l.flatMap λ(i:Nat)=>k7 ((i:Int),0) (s.2.1.getD i 0)).length<=10*l.length:=by
  intro l;induction l with
  | nil=>simp
  | cons i l aG=>
   intro ah;have h1:=aG λj aB=>ah j (by grind);have h2:=ah i (by simp);have h3:=hv.ql _ (List.getElem_mem h2);have je:s.2.1.getD i 0=s.2.1[i]:=by grind
   rw[List.flatMap_cons,List.length_append,List.length_cons,je];simp only[k7,List.length_replicate];simp only[k7]at h1;omega
 have h2:∀ (l:List Di),(∀ d∈l,oE s.1 d=true)->(l.flatMap λd=>k7 (d.2.1,d.1) d.2.2).length<=10*l.length:=by
  intro l;induction l with
  | nil=>simp
  | cons d l aG=>
   intro ah;have h1:=aG λj aB=>ah j (by grind);have h3:=ah d (by simp);simp only[oE,bK,Bool.and_eq_true,decide_eq_true_eq]at h3;rw[List.flatMap_cons,List.length_append,List.length_cons];simp only[k7,List.length_replicate];simp only[k7]at h1;omega
 have a:=h1 (List.range s.2.1.length) λi E=>by grind
 have b:=h2 s.2.2.2.2.1 hv.YM;have c:=hv.YN;have d:=hv.ON;have e:=hv.D5;unfold OO D6 YQ;grind
theorem Y7{s:bq}(hv:lL s){b':z1'}(hp:nN s b'):(k8 s b').1.length<=24:=by
 unfold k8;split
 ·have:∀ (l:List Nat),(∀ i∈l,i<b'.length)->(l.flatMap λi=>(oF s b' i).getD []).length<=4*l.length:=by
   intro l;induction l with
   | nil=>simp
   | cons i l aG=>
    intro ah;have h1:=aG λj aB=>ah j (by grind);have h2:=ah i (by simp);rw[List.flatMap_cons,List.length_append,List.length_cons];have:((oF s b' i).getD []).length<=4:=by
     cases h:oF s b' i with
     | none=>simp
     | some y=>exact YT hv hp h2 h
    omega
  have a:=this (List.range b'.length) λi E=>by grind
  rw[List.length_range]at a;have:=hp.1;have:=hv.ue;grind
 ·simp
def pz(s:bq)(b':z1'):Bool:=(k8 s b').2&&decide (x_ (cT s) (k8 s b').1=0)
abbrev vO:aJ:=⟨.aw vK fE,cP,λx=>∃ s,vM x.1 s/\nN s x.2,λx=>pz (nO x.1) x.2⟩
theorem ao'(x):M.le (Vb H6.sh H_.sh x) (vO.sh x):=M.bj λh=>by
 obtain⟨o,b'⟩:=x;obtain⟨s,⟨aq,hv⟩,hp⟩:=h;change o=_ at aq;subst aq;unfold Vb;simp only[aJ.sh,M.dj,M.iN];rw[M.bn (by exact⟨s,⟨rfl,hv⟩,hp⟩),M.bn (by exact λ_=>⟨cT s,rfl,Y6 hv,Nat.le_trans (Y7 hv hp) (by omega)⟩)];show M.pure ((k8 s b').2&&decide ((if (k8 s b').2=true then x_ (cT s) (k8 s b').1 else 0)=0))=M.pure (pz s b');unfold pz;grind
def AV(s:bq)(first:z1')(p:Nat):Bool:=!(first.contains (p:Int)||decide (sA (mc s (first.length:Int)) (mS s (p:Int))=0))
def j5(s:bq)(e:Int):Nat->z1'->List (z1')
 | 0,first=>[first]
 | n+1,first=>((List.range s.2.2.1.length).flatMap λp=>if AV s first p=true then j5 s e n (first++[(p:Int)]) else [])++(if e=0 then [] else j5 s e n (first++[-1]))
abbrev Y8:Type:=Nat×(List (z1')->Prop)×List (z1')×Bool
abbrev O6:Type:=Option Sto×z1'×Int×Nat×Y8×Unit
abbrev Y9:Type:=Bool×Y8×Unit
structure O7(f:Nat)(x:O6)(s:bq)(n:Nat)(a b:List (z1')):Prop where
 axh:vM x.1 s
 len:x.2.1.length+n=s.2.2.2.1.length
 bW:n<f
 axi:x.2.2.2.2.1.1=x.2.2.2.1
 bm:x.2.2.2.2.1.2.2.2=false
 seq:x.2.2.2.2.1.2.1=λT=>T=a++j5 s x.2.2.1 n x.2.1++b
 pos:x.2.2.2.2.1.2.2.1=a
def apa(x:O6)(y:Y9):Prop:=y.2.1.1=x.2.2.2.1/\y.2.1.2.1=x.2.2.2.2.1.2.1/\(y.1=true->y.2.1.2.2.2=false/\y.2.1.2.2.1=x.2.2.2.2.1.2.2.1++j5 (nO x.1) x.2.2.1 ((nO x.1).2.2.2.1.length - x.2.1.length) x.2.1)/\(y.1=false->y.2.1.2.2.2=true)
def rm(f:Nat)(x:O6):M Y9:=⟨∃ s n a b,O7 f x s n a b,apa x⟩
def lN(s:bq)(e:Int)(n:Nat)(first:z1')(k:Nat):List (z1'):=(List.range k).flatMap λp=>if AV s first p=true then j5 s e n (first++[(p:Int)]) else []
theorem Ia(s:bq)(e:Int)(n:Nat)(first:z1')(k:Nat):lN s e n first (k+1)=lN s e n first k++(if AV s first k=true then j5 s e n (first++[(k:Int)]) else []):=by
 unfold lN;rw[List.range_succ,List.flatMap_append];simp
theorem apb(s:bq)(e:Int)(n:Nat)(first:z1'){k m:Nat}(h:k<=m):∃ t,lN s e n first m=lN s e n first k++t:=by
 induction m with
 | zero=>simp_all
 | succ m aG=>
  by_cases an:k=m+1
  ·simp_all
  ·obtain⟨t,aF⟩:=aG (by omega);rw[Ia,aF,List.append_assoc];simp
theorem apc{f:Nat}{s:bq}(hv:lL s){first:z1'}{e:Int}{l:Nat}{L:List (z1')->Prop}{n:Nat}(hlen:first.length+n=s.2.2.2.1.length)(aq:n<f+1){a b:List (z1')}(hU:L=λT=>T=a++j5 s e n first++b) :
  M.b9 (Nf vH.sh (rm f) ov.sh (some (cT s),first,e,l,(l,L,a,false),())) λy=>y.2.1.1=l/\y.2.1.2.1=L/\(y.1=true->y.2.1.2.2.2=false/\y.2.1.2.2.1=a++j5 s e n first)/\(y.1=false->y.2.1.2.2.2=true):=by
 have fB:(cT s).1=s:=rfl;have AS:=hv.ue;have apd:=hv.H0;unfold Nf;simp only[Option.isSome_some,Option.getD_some,M.bf,bH,fB];cases n with
 | zero=>
  have ar:decide ((first.length:Int)=(s.2.2.2.1.length:Int))=true:=by grind
  have az:∃ T,L (a++first::T):=⟨b,by rw[hU];show _=_;simp[j5]⟩
  simp only[ar,if_true,true_and,and_self];rw[M.bn az,M.fF];refine⟨⟨true,trivial⟩,λy _=>M.dC.2 ?_⟩;refine⟨rfl,rfl,λh=>?_,λh=>?_⟩
  ·change y=true at h;subst h;exact⟨rfl,rfl⟩
  grind
 | succ n=>
  have ar:decide ((first.length:Int)=(s.2.2.2.1.length:Int))=false:=by grind
  simp only[ar,Bool.false_eq_true,if_false,M.fF];obtain⟨z,a8⟩:∃ z,j5 s e (n+1) first=lN s e n first s.2.2.1.length++z:=⟨_,rfl⟩
  refine M.anP s.2.2.1.length (λk q=>q=(some (cT s),first,e,l,(first.length:Int),s.2.2.1,(s.2.2.1.length:Int),(k:Int),(l,L,a++lN s e n first k,false),())) ?_ ?_ ?_
  ·show _=_;simp[lN]
  ·rintro k an q rfl;have ma:=bo (n:=(k:Int)+1) (by omega) (by omega);have fz:first.length<2 ^ 63:=by omega
   have sB:first.length<s.2.2.2.1.length:=by omega
   have H7:=OR sB;have AT:List.getD s.2.2.2.1 first.length ([],(0,0),0,0,0)=mc s (first.length:Int):=rfl
   have OS:s.2.2.1[k]=mS s (k:Int):=by simp[mS,List.getD_eq_getElem?_getD,an]
   have nG:vH.pre (mc s (first.length:Int),mS s (k:Int)):=hv.gz.2.2.2.2.2.2 _ H7;have ape:(first.length<2 ^ 63)=True:=by grind
   simp only[cH an,if_true,cv an,cZ an,M.bf,aJ.sh,M.nI,M.gm,ape,fB,Int.toNat_natCast,cv sB,AT,OS,and_true,true_and,and_self,imp_self,implies_true];have apf:((mc s (first.length:Int)).1.length<2 ^ 63)=True:=by grind
   have apg:List.getD s.2.2.1 k (0,0,0,0,[])=mS s (k:Int):=rfl;have dX:first.contains (k:Int)=false->(!first.contains (k:Int))=true:=λh=>by grind
   have iw:((0:Int)<=0/\0<=(first.length:Int)/\(first.length:Int)<=(first.length:Int))=True:=by simp
   have kt:List.take first.length first=first:=List.take_length
   have lr:(0<Add.add 0 1/\bX (Add.add first.length (Add.add 0 1))):=⟨by decide,by show bX (first.length+1);unfold bX;omega⟩
   have h5:(first.contains (k:Int)||decide (sA (mc s (first.length:Int)) (mS s (k:Int))=0))=!AV s first k:=by unfold AV;simp
   have jy:first.contains (k:Int)=first.contains (k:Int):=rfl
   simp only[Option.isSome_some,Option.getD_some,fB,cv sB,AT,apg,apf,and_true,true_and,and_self,imp_self,implies_true,M.bf,M.bn dX,h5,iw,kt];rw[M.bn (by omega)];obtain⟨t,aF⟩:=apb s e n first (show k+1<=s.2.2.1.length by omega)
   cases ax:AV s first k with
   | false=>
    simp only[Bool.not_false,if_true,M.aE,M.bL,M.dC,b8,ma];show _=_;rw[Ia,ax];simp
   | true=>
    rw[Ia,ax,if_pos rfl]at aF;simp only[Bool.not_true,Bool.false_eq_true,if_false,M.fF];have DK:O7 f (some (cT s),first++[(k:Int)],e,l,(l,L,a++lN s e n first k,false),()) s n (a++lN s e n first k) (t++z++b):=by
     refine⟨⟨rfl,hv⟩,by grind,by omega,rfl,rfl,?_,rfl⟩;grind
    refine⟨⟨s,n,_,_,DK⟩,λy aK=>?_⟩;obtain⟨JA,⟨yl,Y_,O8,ys⟩,aph⟩:=y;obtain⟨c8,q2,q3,ud⟩:=aK;change yl=l at c8;change Y_=L at q2;subst c8;subst q2;cases JA with
    | false=>
     have aQ:ys=true:=ud rfl;subst aQ;simp only[Bool.not_false,if_true,M.aE,M.dC,M.o_];simp
    | true=>
     obtain⟨bu,cW⟩:=q3 rfl;change ys=false at bu;change O8=(a++lN s e n first k)++j5 s e (s.2.2.2.1.length - (first++[(k:Int)]).length) (first++[(k:Int)]) at cW;have uV:s.2.2.2.1.length - (first++[(k:Int)]).length=n:=by grind
     rw[uV]at cW;subst bu;subst cW;simp only[Bool.not_true,Bool.false_eq_true,if_false,M.aE,M.dC,M.bL,b8,ma];show _=_;rw[Ia,ax,if_pos rfl];simp
  ·rintro q rfl;have kt:List.take first.length first=first:=List.take_length
   have iw:((0:Int)<=0/\0<=(first.length:Int)/\(first.length:Int)=(first.length:Int)/\(first.length:Int)<=(first.length:Int))=True:=by simp
   have lr:(0<Add.add 0 1/\bX (Add.add first.length (Add.add 0 1))):=⟨by decide,by show bX (first.length+1);unfold bX;omega⟩
   simp only[Int.lt_irrefl,decide_false,Bool.false_eq_true,if_false,M.aE,M.dC,M.bL,iw,kt,Int.toNat_natCast,and_true];by_cases he:e=0
   ·have yX:j5 s e (n+1) first=lN s e n first s.2.2.1.length:=by
     show lN s e n first s.2.2.1.length++(if e=0 then [] else j5 s e n (first++[-1]))=_
     grind
    simp only[he,decide_true,Bool.not_true,Bool.false_eq_true,if_false,false_imp_iff,M.bf,Bool.true_or,M.dC,Bool.true_eq_false,and_self,implies_true];grind
   ·have yX:j5 s e (n+1) first=lN s e n first s.2.2.1.length++j5 s e n (first++[-1]):=by
     show lN s e n first s.2.2.1.length++(if e=0 then [] else j5 s e n (first++[-1]))=_
     grind
    simp only[he,decide_false,Bool.not_false,if_true,true_imp_iff,M.bf,Bool.false_or,and_self,implies_true];rw[M.bn (by simp),M.bn (by omega)];have DK:O7 f (some (cT s),first++[-1],e,l,(l,L,a++lN s e n first s.2.2.1.length,false),()) s n (a++lN s e n first s.2.2.1.length) b:=by
     refine⟨⟨rfl,hv⟩,by grind,by omega,rfl,rfl,?_,rfl⟩;grind
    rw[M.fF];refine⟨⟨s,n,_,_,DK⟩,λy aK=>M.dC.2 ?_⟩;obtain⟨JA,⟨yl,Y_,O8,ys⟩,aph⟩:=y;obtain⟨c8,q2,q3,ud⟩:=aK;refine⟨c8,q2,λh=>?_,ud⟩;obtain⟨bu,cW⟩:=q3 h;change O8=(a++lN s e n first s.2.2.1.length)++j5 s e (s.2.2.2.1.length - (first++[(-1:Int)]).length) (first++[-1]) at cW;grind
theorem api(f:Nat)(x):M.le (Nf vH.sh (rm f) ov.sh x) (rm (f+1) x):=λh=>by
 obtain⟨o,first,e,l,⟨l',L,p,st⟩,u⟩:=x;obtain⟨s,n,a,b,hp⟩:=h;obtain⟨⟨aq,hv⟩,h1,h2,h3,aQ,bu,cW⟩:=hp;change o=_ at aq;change l'=l at h3;change st=false at aQ;change p=a at cW;change L=_ at bu;change first.length+n=_ at h1
 change _ at bu;subst aq;subst h3;subst aQ;subst cW;have uV:(nO (some (cT s))).2.2.2.1.length - first.length=n:=by show s.2.2.2.1.length - first.length=n;omega
 refine M.b9.mono (apc hv h1 h2 bu) λy aK=>⟨aK.1,aK.2.1,λh=>?_,aK.2.2.2⟩
 obtain⟨aM,aO⟩:=aK.2.2.1 h;refine⟨aM,?_⟩;rw[aO];show _=p++j5 (nO (some (cT s))) e ((nO (some (cT s))).2.2.2.1.length - first.length) first
 rw[uV];rfl
theorem apj(x):¬(rm 0 x).b4:=λ⟨s,n,a,b,h⟩=>by have:=h.bW;omega
def k9(e:Int)(s:bq):List (z1'):=j5 s e s.2.2.2.1.length []
def x'(o:Option Sto):Prop:=∃ s,vM o s
def Ib(o:Option Sto):List (z1'):=k9 1 (nO o)
def O9(o:Option Sto):List (z1'):=k9 0 (nO o)
theorem apk(s:bq)(hv:lL s)(l:Nat):M.b9 (G2 (rm 10) (some (cT s),l,(l,(λT=>T=k9 1 s),[],false),())) λy=>y.1.1=l/\y.1.2.1=(λT=>T=k9 1 s)/\(y.1.2.2.2=false->y.1.2.2.1=k9 1 s):=by
 unfold G2;rw[M.fF];have AS:=hv.ue;refine⟨⟨s,s.2.2.2.1.length,[],[],⟨rfl,hv⟩,by simp,by omega,rfl,rfl,by show (λT=>T=k9 1 s)=_;simp[k9],rfl⟩,λy aK=>M.dC.2 ?_⟩;obtain⟨c8,q2,q3,ud⟩:=aK;refine⟨c8,q2,λh=>?_⟩;cases h1:y.1 with
 | false=>grind
 | true=>
  obtain⟨_,h3⟩:=q3 h1;show y.2.1.2.2.1=_;rw[h3];rfl
theorem apl(s:bq)(hv:lL s)(l:Nat):M.b9 (G3 (rm 10) (some (cT s),l,(l,(λT=>T=k9 0 s),[],false),())) λy=>y.1.1=l/\y.1.2.1=(λT=>T=k9 0 s)/\(y.1.2.2.2=false->y.1.2.2.1=k9 0 s):=by
 unfold G3;rw[M.fF];have AS:=hv.ue;refine⟨⟨s,s.2.2.2.1.length,[],[],⟨rfl,hv⟩,by simp,by omega,rfl,rfl,by show (λT=>T=k9 0 s)=_;simp[k9],rfl⟩,λy aK=>M.dC.2 ?_⟩;obtain⟨c8,q2,q3,ud⟩:=aK;refine⟨c8,q2,λh=>?_⟩;cases h1:y.1 with
 | false=>grind
 | true=>
  obtain⟨_,h3⟩:=q3 h1;show y.2.1.2.2.1=_;rw[h3];rfl
theorem O_{A ai:Type}{body:A->ai->M (cO×A)}(g:A->ai->A)(I:A->Prop):∀ (l:List ai) (s:A),I s->(∀ x∈l,∀ s,I s->body s x=M.pure (cO.normal,g s x)/\I (g s x))->jx body l s=M.pure (cO.normal,l.foldl g s)
 | [],s,_,_=>rfl
 | x::l,s,eb,h=>by
  obtain⟨h1,h2⟩:=h x (by simp) s eb;unfold jx;rw[h1,M.aE];exact O_ g I l (g s x) h2 λy aK=>h y (List.mem_cons_of_mem _ aK)
theorem O'{s:bq}{e:Int}:∀ {n:Nat} {first y:z1'},y∈j5 s e n first->y.length=first.length+n/\∀ p∈y,p∈first\/p=-1\/(0<=p/\p<(s.2.2.1.length:Int))
 | 0,first,y,h=>by
  simp only[j5,List.mem_singleton]at h;grind
 | n+1,first,y,h=>by
  simp only[j5,List.mem_append,List.mem_flatMap,List.mem_range]at h;rcases h with⟨p,hp,h⟩ | h
  ·split at h
   ·obtain⟨h1,h2⟩:=O' h;grind
   grind
  ·split at h
   ·cases h
   ·obtain⟨h1,h2⟩:=O' h;grind
theorem Pa{s:bq}{e:Int}{y:z1'}(h:y∈k9 e s):y.length=s.2.2.2.1.length/\nN s y:=by
 obtain⟨h1,h2⟩:=O' h;have h1:y.length=s.2.2.2.1.length:=by grind
 refine⟨h1,by omega,λp hp=>?_⟩;grind
theorem apm(s:bq):nN s (List.replicate s.2.2.2.1.length (-1)):=⟨by simp,λp hp=>by grind⟩
def sD(s:bq)(b y:z1'):z1':=if (decide (rk s y > rk s b)&&pz s y)=true then y else b
def Ea(s:bq):z1':=(k9 1 s).foldl (sD s) (List.replicate s.2.2.2.1.length (-1))
theorem Y'{s:bq}:∀ (l:List (z1')) (b:z1'),(∀ y∈l,y.length=s.2.2.2.1.length/\nN s y)->(b.length=s.2.2.2.1.length/\nN s b)->((l.foldl (sD s) b).length=s.2.2.2.1.length/\nN s (l.foldl (sD s) b))
 | [],b,_,aa=>aa
 | y::l,b,ah,aa=>by
  rw[List.foldl_cons];refine Y' l _ (λz a8=>ah z (List.mem_cons_of_mem _ a8)) ?_;unfold sD;grind
theorem apn(s:bq):(Ea s).length=s.2.2.2.1.length/\nN s (Ea s):=Y' _ _ (λ_ h=>Pa h) ⟨by simp,apm s⟩
abbrev Pb:aJ:=⟨vK,fE,λo=>∃ s,vM o s,λo=>Ea (nO o)⟩
theorem apo(s:bq)(hv:lL s):M' HW.sh vO.sh sC.sh x' Ib (some (cT s))=M.pure (Ea s):=by
 unfold M';have AS:=hv.ue;have fB:(cT s).1=s:=rfl;have gj:x' (some (cT s)):=⟨s,rfl,hv⟩
 have Pc:Ib (some (cT s))=k9 1 s:=rfl;simp only[Option.isSome_some,Option.getD_some,M.bf,bH,fB,aJ.sh,M.dj,Pc];rw[M.bn (by grind),M.bn gj];simp only[Int.toNat_natCast];rw[O_ (λ(b:Option Sto×z1'×Unit) (y:z1')=>(some (cT s),sD s b.2.1 y,())) (λb=>b.1=some (cT s)/\b.2.1.length=s.2.2.2.1.length) (k9 1 s) (some (cT s),List.replicate s.2.2.2.1.length (-1),()) ⟨rfl,by simp⟩ ?_]
 ·have aq:∀ (l:List (z1')) (b:z1'),l.foldl (λ(b:Option Sto×z1'×Unit) (y:z1')=>(some (cT s),sD s b.2.1 y,())) (some (cT s),b,())=(some (cT s),l.foldl (sD s) b,()):=by
   intro l;induction l with
   | nil=>simp
   | cons y l aG=>grind
  rw[aq,M.aE];rfl
 ·intro y aK b aa;obtain⟨dr,eC,apq⟩:=b;obtain⟨l0,pQ⟩:=aa;change dr=_ at l0;change eC.length=_ at pQ;subst l0;obtain⟨xf,rZ⟩:=Pa aK;have jt:sC.pre (some (cT s),y):=⟨s,⟨rfl,hv⟩,by grind⟩
  have pP:sC.pre (some (cT s),eC):=⟨s,⟨rfl,hv⟩,by grind⟩
  have lW:vO.pre (some (cT s),y):=⟨s,⟨rfl,hv⟩,rZ⟩
  have e1:sC.g (some (cT s),y)=rk s y:=rfl;have e2:sC.g (some (cT s),eC)=rk s eC:=rfl;have e3:vO.g (some (cT s),y)=pz s y:=rfl;refine⟨?_,rfl,?_⟩
  ·simp only[M.nI,M.gm,M.bn jt,M.bn pP,e1,e2,e3,lW,and_true,true_and,and_self,imp_self,implies_true,M.bf,sD];have c8:∀ c:Prop,(c->c/\(∃ mT,vM (some (cT s)) mT/\nN mT y)):=λc h=>⟨h,lW⟩
   rw[M.bn (c8 _)];have e1:nO (some (cT s))=s:=rfl;simp only[e1];cases hc:(decide (rk s y > rk s eC)&&pz s y)<;>simp
  ·show (sD s eC y).length=_;unfold sD;grind
theorem apr(x):M.le (M' HW.sh vO.sh sC.sh x' Ib x) (Pb.sh x):=M.bj λh=>by
 obtain⟨s,aq,hv⟩:=h;subst aq;exact apo s hv
theorem Ic{s:bq}{bR:Bool}(h:kJ s bR=0):x5 s bR=(some (cT s),0):=by simp[x5,h]
theorem Ie{s:bq}{bR:Bool}(h:kJ s bR≠0):x5 s bR=(none,kJ s bR):=by simp[x5,h]
def ya(s:bq)(bR:Bool):Int×Int:=if kJ s bR≠0 then (0,kJ s bR) else (rk s (Ea s),0)
abbrev Pd:aJ:=⟨.aw lK cP,.aw tI tI,λx=>e' x.1,λx=>ya x.1 x.2⟩
theorem aps(x):M.le (U' AQ.sh Pb.sh sC.sh x) (Pd.sh x):=M.bj λh=>by
 unfold U';show _=M.pure (ya x.1 x.2);unfold ya;simp only[aJ.sh,M.dj];rw[M.bn (by exact h)];by_cases an:kJ x.1 x.2=0
 ·have hv:=AP h (AO an).1;simp only[Ic an,an,ne_eq,not_true,decide_false,Bool.false_eq_true,if_false];rw[M.bn (by exact⟨x.1,rfl,hv⟩),M.bn (by exact⟨x.1,⟨rfl,hv⟩,Nat.le_of_eq (apn x.1).1⟩)];rfl
 ·simp[Ie an,an]
abbrev If:aJ:=⟨lK,.aw tI tI,e',λs=>ya s true⟩
theorem apt(x):M.le (U4 Pd.sh x) (If.sh x):=M.bj λh=>by
 unfold U4;simp only[aJ.sh,M.dj];simp_all
def AW(s:bq)(n:Int)(y:z1'):Int:=if (!(k8 s y).2||!D' (cT s) (k8 s y).1)=true then n else if (decide (n=-1)||decide (x_ (cT s) (k8 s y).1<n))=true then x_ (cT s) (k8 s y).1 else n
def Ig(s:bq):Int:=(k9 0 s).foldl (AW s) (-1)
def AX(s:bq):Int×Int:=if kJ s true≠0 then (0,kJ s true) else if Ig s=-1 then (0,3) else (Ig s,0)
abbrev Ih:aJ:=⟨lK,.aw tI tI,e',AX⟩
theorem apu(x):M.le (U5 AQ.sh x' O9 H6.sh O3.sh H_.sh x) (Ih.sh x):=M.bj λh=>by
 unfold U5;show _=M.pure (AX x);unfold AX;simp only[aJ.sh,M.dj];rw[M.bn (by exact h)];by_cases an:kJ x true=0
 ·have hv:=AP h (AO an).1;have gj:x' (some (cT x)):=⟨x,rfl,hv⟩
  have Pc:O9 (some (cT x))=k9 0 x:=rfl;simp only[Ic an,an,ne_eq,not_true,decide_false,Bool.false_eq_true,if_false,Pc];rw[M.bn gj];rw[O_ (λ(b:Option Sto×Int×Unit) (y:z1')=>(some (cT x),AW x b.2.1 y,())) (λb=>b.1=some (cT x)) (k9 0 x) (some (cT x),-1,()) rfl ?_]
  ·have aq:∀ (l:List (z1')) (b:Int),l.foldl (λ(b:Option Sto×Int×Unit) (y:z1')=>(some (cT x),AW x b.2.1 y,())) (some (cT x),b,())=(some (cT x),l.foldl (AW x) b,()):=by
    intro l;induction l with
    | nil=>simp
    | cons y l aG=>grind
   rw[aq,M.aE];show (if decide (Ig x=-1)=true then M.pure ((0:Int),(3:Int)) else M.pure (Ig x,0))=_;grind
  ·intro y aK b aa;obtain⟨dr,eC,apq⟩:=b;change dr=_ at aa;subst aa;obtain⟨xf,rZ⟩:=Pa aK;refine⟨?_,rfl⟩;have zA:=Y7 hv rZ;have jt:∃ mT,vM (some (cT x)) mT/\nN mT y:=⟨x,⟨rfl,hv⟩,rZ⟩
   have hsl:(cT x).1.2.1.length<2 ^ 63:=h.2.1;have pP:∃ t,some (cT x)=some t/\t.1.2.1.length<2 ^ 63/\(k8 x y).1.length<2 ^ 63:=⟨_,rfl,hsl,by omega⟩
   have lW:∃ t,some (cT x)=some t/\t.2.1.length<=200/\(k8 x y).1.length<=1000:=⟨_,rfl,Y6 hv,by omega⟩
   have e1:nO (some (cT x))=x:=rfl;have e2:Option.getD (some (cT x)) x6=cT x:=rfl;simp only[M.iN,M.dj,e1,e2];rw[M.bn jt];simp only[pP,implies_true,M.bf];rw[M.bn (by exact lW)];show _=M.pure (cO.normal,some (cT x),AW x eC y,());unfold AW;cases h1:(k8 x y).2
   ·simp
   ·cases h2:D' (cT x) (k8 x y).1
    ·simp
    ·simp only[Bool.not_true,Bool.not_false,if_true,Bool.or_self,Bool.false_eq_true,if_false];cases h3:(decide (eC=-1)||decide (x_ (cT x) (k8 x y).1<eC))<;>simp
 ·simp[Ie an,an]
def mU(s:bq)(w p:Int):z1':=(List.replicate s.2.2.2.1.length (-1)).set w.toNat p
def Za(s:bq)(w:Int):z1':=((List.range s.2.2.1.length).filter λ(p:Nat)=>pz s (mU s w (p:Int))).map λ(p:Nat)=>(p:Int)
def ui(s:bq)(w:Int):z1'×Int:=if kJ s (x3 s w)≠0 then ([],kJ s (x3 s w)) else (Za s w,0)
abbrev Ii:aJ:=⟨.aw lK tI,.aw fE tI,λx=>e' x.1,λx=>ui x.1 x.2⟩
theorem Zb{ai β:Type}{p:ai->Bool}{g:ai->β}:∀ (l:List ai) (b:List β),l.foldl (λb x=>if p x=true then b++[g x] else b) b=b++(l.filter p).map g
 | [],b=>by simp
 | x::l,b=>by
  simp only[List.foldl_cons,List.filter_cons];rw[Zb l];grind
theorem apv{s:bq}{w:Int}{p:Nat}(hp:p<s.2.2.1.length):nN s (mU s w (p:Int)):=by
 refine⟨by simp[mU],λq bd=>?_⟩;unfold mU at bd;grind
theorem apw(x):M.le (U6 AQ.sh OL.sh vG vO.sh x) (Ii.sh x):=M.bj λh=>by
 obtain⟨s,w⟩:=x;change e' s at h;unfold U6;show _=M.pure (ui s w);unfold ui;simp only[aJ.sh,M.nI,M.gm];rw[M.bn (by exact h),M.bn (by exact h)];by_cases an:kJ s (x3 s w)=0
 ·have hv:=AP h (AO an).1;have hw:=aop.1 (AO an).2.1;have AS:=hv.ue;have apd:=hv.H0;simp only[Ic an,an,ne_eq,not_true,decide_false,Bool.false_eq_true,if_false];unfold vG;simp only[M.dj,bH];rw[M.bn (by grind)];simp only[Int.toNat_natCast];rw[M.gn (List.range s.2.2.1.length) (λi (b:z1'×z1')=>(w,some (cT s),(s.2.2.1.length:Int),(i:Int),b.1,b.2,())) (λ(p:Nat) b=>.next (if pz s (mU s w (p:Int))=true then b.1++[(p:Int)] else b.1,mU s w (p:Int))) (λb=>.next (b.1,())) (λi b=>b.1.length<=i/\∀ p,b.2.set w.toNat p=mU s w p) ([],List.replicate s.2.2.2.1.length (-1)) ?_ ?_ ?_ ?_]
  ·rw[dV];have aq:∀ (l:List Nat) (b:z1'×z1'),(l.foldl (λb (p:Nat)=>(if pz s (mU s w (p:Int))=true then b.1++[(p:Int)] else b.1,mU s w (p:Int))) b).1=l.foldl (λb (p:Nat)=>if pz s (mU s w (p:Int))=true then b++[(p:Int)] else b) b.1:=by
    intro l;induction l with
    | nil=>simp
    | cons p l aG=>grind
   rw[aq,Zb,M.aE,M.bL];rfl
  ·rfl
  ·exact⟨Nat.le_refl _,λp=>rfl⟩
  ·intro i E b aa;have E:i<s.2.2.1.length:=by grind
   have k6:=bo (n:=(i:Int)+1) (by omega) (by omega);obtain⟨dr,eC⟩:=b;obtain⟨l0,pQ⟩:=aa;change dr.length<=i at l0;change ∀ p,eC.set w.toNat p=mU s w p at pQ;have lr:bX (dr.length+(0+1)):=by unfold bX;omega
   have hlen:eC.length=s.2.2.2.1.length:=by
    have:=congrArg List.length (pQ 0);simpa [mU]using this
   have xl:0<=w/\w<(eC.length:Int):=by omega
   rw[List.getElem_range];refine⟨?_,λaZ cY=>?_⟩
   ·simp only[cH E,if_true,xl,and_self,M.bf,M.dj,pQ];rw[M.bn (by exact⟨s,⟨rfl,hv⟩,apv E⟩)];have e1:nO (some (cT s))=s:=rfl;simp only[e1,b8,j1,M.bn lr];cases pz s (mU s w (i:Int))<;>simp[V.gQ,k6]
   ·cases cY;refine⟨?_,λp=>?_⟩
    ·grind
    ·show (mU s w (i:Int)).set w.toNat p=mU s w p;unfold mU;simp
  simp
 ·simp[Ie an,an]
def AY(s:bq)(b':z1'):Int×Int:=if kJ s (vJ s b')≠0 then (0,kJ s (vJ s b')) else if (!pz s b')=true then (0,3) else (rk s b',0)
abbrev Ij:aJ:=⟨.aw lK fE,.aw tI tI,λx=>e' x.1/\x.2.length<2 ^ 63,λx=>AY x.1 x.2⟩
theorem apx{s:bq}{b':z1'}(h:vJ s b'=true):b'.length=s.2.2.2.1.length/\nN s b':=by
 unfold vJ at h;simp only[Bool.and_eq_true,List.all_eq_true,List.mem_range,decide_eq_true_eq]at h;obtain⟨h1,h2⟩:=h;refine⟨by omega,by omega,λp hp=>?_⟩;obtain⟨i,E,rfl⟩:=List.mem_iff_getElem.1 hp;have:=h1 i E;have je:b'.getD i 0=b'[i]:=by grind
 unfold vI at this;simp only[je,Bool.or_eq_true,decide_eq_true_eq,Bool.and_eq_true,aoq]at this;omega
theorem apy(x):M.le (U_ AQ.sh vO.sh HZ.sh sC.sh x) (Ij.sh x):=M.bj λh=>by
 obtain⟨s,b'⟩:=x;obtain⟨hs,ah⟩:=h;unfold U_;show _=M.pure (AY s b');unfold AY;simp only[aJ.sh,M.nI,M.gm];have hp:HZ.pre (s,b'):=⟨hs,ah⟩
 rw[M.bn (by exact hp),M.bn (by exact hs)];by_cases an:kJ s (vJ s b')=0
 ·have hv:=AP hs (AO an).1;obtain⟨apz,xh⟩:=apx (AO an).2.1;simp only[Ic an,an,ne_eq,not_true,decide_false,Bool.false_eq_true,if_false,M.dj];rw[M.bn (by exact⟨s,⟨rfl,hv⟩,xh⟩)];have e1:nO (some (cT s))=s:=rfl;simp only[e1];cases aq:pz s b' with
  | false=>simp
  | true=>
   simp only[Bool.not_true,Bool.false_eq_true,if_false];rw[M.bn (by exact⟨s,⟨rfl,hv⟩,Nat.le_of_eq apz⟩)]
 ·simp[Ie an,an]
def Eb(s:bq):Prop:=anS s.1/\s.2.1.length<=2000000/\s.2.2.1.length<=2000000/\s.2.2.2.1.length<=2000000/\s.2.2.2.2.1.length<=2000000/\(∀ p∈s.2.2.1,p.2.2.2.2.length<=2000000)/\∀ x∈s.2.2.2.1,x.1.length<=2000000
theorem apA{s:bq}(hv:lL s):Eb s:=by
 have anB:=DT hv.sr.2;refine⟨⟨by omega,by omega,by omega,λm aj=>?_⟩,by have:=hv.D5;omega,by have:=hv.H0;omega,by have:=hv.ue;omega,by have:=hv.ON;omega,λp hp=>by have:=(OQ hv hp).2.1;omega,λx hx=>?_⟩
 ·have kv:=(AH hv.sr.2).2.2.1 m aj;simp only[qh,Bool.and_eq_true,Bool.not_eq_true',decide_eq_false_iff_not,List.all_eq_true]at kv;refine⟨by omega,λs' rH=>?_⟩;have:=kv.2 s' rH;simp only[pq,Bool.and_eq_true,decide_eq_true_eq]at this;omega
 ·have:=hv.YL x hx;simp only[oD,bK,Bool.and_eq_true,decide_eq_true_eq]at this;omega
def Zc(s:bq):Int:=(s.2.2.1.map λp=>(p.2.2.2.2.length:Int)).foldl (·+·) 0
def uj(s:bq):Bool:=
 if (lI s.1||decide ((s.2.1.length:Int) > 40)||decide ((s.2.2.1.length:Int) > 40)||decide ((s.2.2.2.1.length:Int) > 40)||decide ((s.2.2.2.2.1.length:Int) > 40))=true then true
 else if (s.2.2.1.any λp=>decide ((p.2.2.2.2.length:Int) > 40))=true then true
 else if (s.2.2.2.1.any λx=>decide ((x.1.length:Int) > 40))=true then true
 else if iR s≠0 then false
 else decide ((s.2.2.2.1.length:Int) > 3)||decide ((s.2.2.1.length:Int) > 4)||decide ((s.2.2.2.2.1.length:Int) > 3)||decide (Zc s > 4)
abbrev Ik:aJ:=⟨lK,cP,e',uj⟩
theorem apB(x):M.le (Ye py.sh vt.sh x) (Ik.sh x):=M.bj λh=>by
 change e' x at h;unfold Ye;show _=M.pure (uj x);unfold uj;simp only[aJ.sh,M.dj,bH];rw[M.bn (by exact h.1)];obtain⟨g1,dP,g3,g4,g5,g6,g7⟩:=id h;by_cases h1:(lI x.1||decide ((x.2.1.length:Int) > 40)||decide ((x.2.2.1.length:Int) > 40)||decide ((x.2.2.2.1.length:Int) > 40)||decide ((x.2.2.2.2.1.length:Int) > 40))=true
 ·grind
 ·rw[if_neg h1,if_neg h1];simp only[Bool.or_eq_true,decide_eq_true_eq,not_or]at h1;rw[M.dm x.2.2.1 (λi (_:Unit)=>((i:Int),x,())) (λp u=>if decide ((p.2.2.2.2.length:Int) > 40)=true then .done (.done true) else .next u) (λ_=>.next (x,())) () ?_ ?_ ?_]
  ·rw[q6 (p:=λp:c_=>decide ((p.2.2.2.2.length:Int) > 40))];by_cases h2:(x.2.2.1.any λp=>decide ((p.2.2.2.2.length:Int) > 40))=true
   ·simp only[h2,if_true,M.aE,M.o_]
   ·simp only[h2,Bool.false_eq_true,if_false,M.aE,M.bL];rw[M.dm x.2.2.2.1 (λi (_:Unit)=>((i:Int),x,())) (λp u=>if decide ((p.1.length:Int) > 40)=true then .done (.done true) else .next u) (λ_=>.next (x,())) () ?_ ?_ ?_]
    ·rw[q6 (p:=λp:dp=>decide ((p.1.length:Int) > 40))];by_cases h3:(x.2.2.2.1.any λx=>decide ((x.1.length:Int) > 40))=true
     ·simp only[h3,if_true,M.aE,M.o_]
     ·simp only[h3,Bool.false_eq_true,if_false,M.aE,M.bL];rw[M.bn (by exact h)];by_cases he:iR x=0
      ·simp only[he,ne_eq,not_true,decide_false,Bool.false_eq_true,if_false];have aa:∀ p∈x.2.2.1,p.2.2.2.2.length<=40:=λp hp=>by
        grind
       rw[M.gn x.2.2.1 (λi (n:Int)=>(n,(i:Int),x,())) (λp n=>.next (n+(p.2.2.2.2.length:Int))) (λn=>.next (n,x,())) (λi n=>0<=n/\n<=40*i) 0 ?_ ?_ ?_ ?_]
       ·rw[dV,M.aE,M.bL];unfold Zc;rw[List.foldl_map]
       ·rfl
       ·simp
       ·intro i E n ax;have k6:=bo (n:=(i:Int)+1) (by omega) (by omega);have axj:=aa _ (List.getElem_mem E);have AM:=bo (n:=n+(x.2.2.1[i].2.2.2.2.length:Int)) (by omega) (by omega);refine⟨?_,λaZ cY=>?_⟩
        ·simp only[cH E,if_true,cv E,M.bf,cZ E,b8,k6,AM];rfl
        grind
       simp
      grind
    ·rfl
    ·intro i E u;have k6:=bo (n:=(i:Int)+1) (by omega) (by omega);simp only[cH E,if_true,cv E,M.bf,cZ E,M.aE,b8,k6];exact mH (mk:=λ_:Unit=>((i:Int)+1,x,()))
    simp
  ·rfl
  ·intro i E u;have k6:=bo (n:=(i:Int)+1) (by omega) (by omega);simp only[cH E,if_true,cv E,M.bf,cZ E,M.aE,b8,k6];exact mH (mk:=λ_:Unit=>((i:Int)+1,x,()))
  simp
def AZ:bq:=(HQ,[1,0,0,0],[(1,60,0,0,[0]),(1,60,7,0,[]),(2,65,0,1,[0]),(2,60,0,0,[0,1])],[([1],(55,65),7,3,500),([1,2],(60,60),0,5,400),([2],(60,70),9,8,700),([2],(65,65),0,5,300)],[(4,2,1),(6,3,1)],2)
abbrev Il:aJ:=⟨.cx,lK,λ_=>True,λ_=>AZ⟩
theorem apC(x):M.le (Yf OH.sh x) (Il.sh x):=M.bj λ_=>by
 unfold Yf;simp only[aJ.sh,M.dj,M.bf];rfl
theorem apD:e' AZ:=by
 refine⟨anW,by decide,by decide,by decide,by decide,?_,?_⟩
 ·intro p hp;simp only[AZ,List.mem_cons,List.not_mem_nil,or_false]at hp;grind
 ·intro x hx;simp only[AZ,List.mem_cons,List.not_mem_nil,or_false]at hx;grind
end Go.Fer
namespace Go.Fer.H
open M (V)
def Zd(zZ:aP->M Int)(No:List aT->M (List aT×Bool))(apE:List (List aT)->M (List aT))(apF:List (z1')×Unit->M (z1'×Unit))(Nq:z1'×Unit->M (z1'×Unit))(apG:z1'×Unit->M ((Nat×Nat)×z1'×Unit))(Im:z4'->M (z4'))(x:aP×List aT×z1'):M (aP×Int):=
 letI a:=x.1.2.2.2;M.bind (zZ x.1) λy=>if decide (y≠0)=true then M.pure (([],[],[],[],0,0,0,0,0,0,0),y) else M.bind (zZ (x.1.1,x.2.1,x.2.2,a)) λy=>if decide (y≠0)=true then M.pure (([],[],[],[],0,0,0,0,0,0,0),y) else M.bind (apE [x.1.2.1,x.2.1]) λy=>M.bind (No y) λy=>if (!y.2)=true then M.pure (([],[],[],[],0,0,0,0,0,0,0),91) else M.bind (apF ([x.1.2.2.1,x.2.2],())) λbJ=>M.bind (Nq (bJ.1,())) λdi=>M.bind (apG (di.1,())) λfI=>if (decide (Int.ofNat (List.length y.1) > 12)||decide (Int.ofNat (fI.1.2-fI.1.1) > 12))=true then M.pure (([],[],[],[],0,0,0,0,0,0,0),90) else M.ae (Im x.1.1).b4 (M.ae (Im a.1).b4 (M.pure ((M.val (Im x.1.1) [],y.1,List.drop fI.1.1 (List.take fI.1.2 fI.2.1),M.val (Im a.1) [],a.2),0)))
def Ze(apH:Int×Unit->M (List aT×Unit))(x:List (List aT)):M (List aT):=
 M.bind (M.loop (λ(A:List (List aT)×Int×List (List aT)×Int×Int×Unit)=>letI d:=A.2.2;letI b:=d.2.2.1;letI a:=IntKind.wrap .i64 (Add.add A.2.1 (Int.ofNat (List.length (List.getD d.1 (Int.toNat b) []))));if decide (b<d.2.1)=true then M.bind (M.ae (0<=b/\b<Int.ofNat (List.length d.1)) (if decide (a<0)=true then M.ae False (M.ae False (M.pure (V.next (A.1,a,d.1,d.2.1,b,())))) else M.pure (V.next (A.1,a,d.1,d.2.1,b,())))) (V.bm (λ(A:List (List aT)×Int×List (List aT)×Int×Int×Unit)=>M.pure (V.next (A.1,A.2.1,A.2.2.1,A.2.2.2.1,IntKind.wrap .i64 (Add.add A.2.2.2.2.1 1),())))) else M.bind (M.pure (V.next (A.1,A.2.1,()))) λr=>M.pure (V.done r)) (x,0,x,Int.ofNat (List.length x),0,())) (V.bm (λ(A:List (List aT)×Int×Unit)=>M.bind (apH (A.2.1,())) λy=>M.bind (M.loop (λ(A:List (List aT)×Int×Int×List aT×Unit)=>letI e:=A.2.2;letI c:=List.getD A.1 (Int.toNat e.1) [];if decide (e.1<A.2.1)=true then M.ae (0<=e.1/\e.1<Int.ofNat (List.length A.1)) (M.ae (bX (Add.add (List.length e.2.1) (List.length c))) (M.pure (V.next (A.1,A.2.1,IntKind.wrap .i64 (Add.add e.1 1),e.2.1++c,())))) else M.bind (M.pure (V.next (e.2.1,()))) λr=>M.pure (V.done r)) (A.1,Int.ofNat (List.length A.1),0,y.1,())) (V.bm (λ(A:List aT×Unit)=>M.pure A.1))))
def Zf(apI:Int×Unit->M (z1'×Unit))(x:List (z1')×Unit):M (z1'×Unit):=
 M.bind (M.loop (λ(A:List (z1')×Int×List (z1')×Int×Int×Unit)=>letI d:=A.2.2;letI b:=d.2.2.1;letI a:=IntKind.wrap .i64 (Add.add A.2.1 (Int.ofNat (List.length (List.getD d.1 (Int.toNat b) []))));if decide (b<d.2.1)=true then M.bind (M.ae (0<=b/\b<Int.ofNat (List.length d.1)) (if decide (a<0)=true then M.ae False (M.ae False (M.pure (V.next (A.1,a,d.1,d.2.1,b,())))) else M.pure (V.next (A.1,a,d.1,d.2.1,b,())))) (V.bm (λ(A:List (z1')×Int×List (z1')×Int×Int×Unit)=>M.pure (V.next (A.1,A.2.1,A.2.2.1,A.2.2.2.1,IntKind.wrap .i64 (Add.add A.2.2.2.2.1 1),())))) else M.bind (M.pure (V.next (A.1,A.2.1,()))) λr=>M.pure (V.done r)) (x.1,0,x.1,Int.ofNat (List.length x.1),0,())) (V.bm (λ(A:List (z1')×Int×Unit)=>M.bind (apI (A.2.1,())) λy=>M.bind (M.loop (λ(A:List (z1')×Int×Int×z1'×Unit)=>letI e:=A.2.2;letI c:=List.getD A.1 (Int.toNat e.1) [];if decide (e.1<A.2.1)=true then M.ae (0<=e.1/\e.1<Int.ofNat (List.length A.1)) (M.ae (bX (Add.add (List.length e.2.1) (List.length c))) (M.pure (V.next (A.1,A.2.1,IntKind.wrap .i64 (Add.add e.1 1),e.2.1++c,())))) else M.bind (M.pure (V.next (e.2.1,()))) λr=>M.pure (V.done r)) (A.1,Int.ofNat (List.length A.1),0,y.1,())) (V.bm (λ(A:z1'×Unit)=>M.pure (A.1,())))))
def apJ(x:z1'×Unit):M ((Nat×Nat)×z1'×Unit):=
 if decide (Int.ofNat (List.length x.1)<2)=true then M.pure ((0,List.length x.1),x.1,()) else M.bind (M.loop (λ(A:Int×z1'×Unit)=>letI l:=A.1;letI j:=A.2.1;letI g:=IntKind.wrap .i64 (l-1);letI b:=Int.ofNat (List.length j);if decide (l<b)=true then M.bind (M.ae (0<=l/\l<b) (M.ae (0<=g/\g<b) (if decide (List.getD j (Int.toNat l) 0=List.getD j (Int.toNat g) 0)=true then M.ae (0<=l/\l<=b/\b<=b) (M.bind (M.loop (λ(A:Int×(Nat×Nat)×Int×z1'×Unit)=>letI k:=A.2.1;letI e:=A.2.2;letI i:=IntKind.wrap .i64 (e.1-1);letI h:=List.getD e.2.1 (Add.add k.1 (Int.toNat e.1)) 0;letI d:=Int.ofNat (k.2-k.1);if decide (e.1<d)=true then M.bind (M.ae (0<=e.1/\e.1<d) (M.ae (0<=i/\i<d) (if decide (h≠List.getD e.2.1 (Add.add k.1 (Int.toNat i)) 0)=true then M.ae (0<=e.1/\e.1<d) (M.ae (0<=A.1/\A.1<Int.ofNat (List.length e.2.1)) (M.pure (V.next (IntKind.wrap .i64 (Add.add A.1 1),k,e.1,List.set e.2.1 (Int.toNat A.1) h,())))) else M.pure (V.next (A.1,k,e.1,e.2.1,()))))) (V.bm (λ(A:Int×(Nat×Nat)×Int×z1'×Unit)=>M.pure (V.next (A.1,A.2.1,IntKind.wrap .i64 (Add.add A.2.2.1 1),A.2.2.2.1,())))) else M.bind (M.pure (V.next (A.1,e.2.1,()))) λr=>M.pure (V.done r)) (l,(Int.toNat l,Int.toNat b),1,j,())) (V.bm (λ(A:Int×z1'×Unit)=>letI f:=Int.toNat A.1;letI c:=Int.ofNat (List.length A.2.1);letI a:=List.take f A.2.1++List.replicate (Int.toNat c-f) 0++List.drop (Add.add f (List.length (List.replicate (Int.toNat c-f) (0:Int)))) A.2.1;M.ae (0<=A.1/\A.1<=c/\c<=c) (M.ae True (M.ae ((0:Int)<=0/\0<=A.1/\A.1<=Int.ofNat (List.length a)) (M.bind (M.bind (M.bind (M.pure ((Int.toNat 0,f),a,())) (λr=>M.pure (V.done r))) (λr=>M.pure (V.done r))) (λr=>M.pure (V.done r)))))))) else M.pure (V.next (l,j,()))))) (V.bm (λ(A:Int×z1'×Unit)=>M.pure (V.next (IntKind.wrap .i64 (Add.add A.1 1),A.2.1,())))) else M.bind (M.pure (V.next (j,()))) λr=>M.pure (V.done r)) (1,x.1,())) (V.bm (λ(A:z1'×Unit)=>M.pure ((0,List.length A.1),A.1,())))
def Ip(x:Int×Unit):M (z1'×Unit):=M.dt (0<=x.1/\x.1<60000) ([],())
def Iq(x:Int×Unit):M (List aT×Unit):=M.dt (0<=x.1/\x.1<60000) ([],())
section
variable {ai fX:Type}
def Ir(g:Int×Unit->M (List ai×Unit))(x:List (List ai))(k:List ai->M fX):M fX:=
 M.bind (M.loop (λ(A:List (List ai)×Int×List (List ai)×Int×Int×Unit)=>if decide (A.2.2.2.2.1<A.2.2.2.1)=true then M.bind (M.ae (0<=A.2.2.2.2.1/\
 A.2.2.2.2.1<Int.ofNat (List.length A.2.2.1)) (if decide (IntKind.wrap .i64 (Add.add A.2.1 (Int.ofNat (List.length (List.getD A.2.2.1 (Int.toNat A.2.2.2.2.1) [])))) <
 0)=true then M.ae False (M.ae False (M.pure (V.next (A.1,IntKind.wrap .i64 (Add.add A.2.1 (Int.ofNat (List.length (List.getD A.2.2.1 (Int.toNat A.2.2.2.2.1)
 [])))),A.2.2.1,A.2.2.2.1,A.2.2.2.2.1,())))) else M.pure (V.next (A.1,IntKind.wrap .i64 (Add.add A.2.1 (Int.ofNat (List.length (List.getD A.2.2.1 (Int.toNat
 A.2.2.2.2.1) [])))),A.2.2.1,A.2.2.2.1,A.2.2.2.2.1,())))) (V.bm λ(A:List (List ai)×Int×List (List ai)×Int×Int×Unit)=>M.pure (V.next (A.1,A.2.1,A.2.2.1,A.2.2.2.1,IntKind.wrap .i64 (Add.add A.2.2.2.2.1 1),()))) else M.bind (M.pure (V.next (A.1,A.2.1,()))) λr=>M.pure (V.done r)) (x,0,x,Int.ofNat
 (List.length x),0,())) (V.bm λ(A:List (List ai)×Int×Unit)=>M.bind (g (A.2.1,())) λy=>M.bind (M.loop (λ(A:List (List ai)×Int×Int×List ai×
 Unit)=>if decide (A.2.2.1<A.2.1)=true then M.ae (0<=A.2.2.1/\A.2.2.1<Int.ofNat (List.length A.1)) (M.ae (bX (Add.add (List.length A.2.2.2.1) (List.length
 (List.getD A.1 (Int.toNat A.2.2.1) [])))) (M.pure (V.next (A.1,A.2.1,IntKind.wrap .i64 (Add.add A.2.2.1 1),A.2.2.2.1++List.getD A.1 (Int.toNat A.2.2.1) [],())))) else M.bind (M.pure (V.next (A.2.2.2.1,()))) λr=>M.pure (V.done r)) (A.1,Int.ofNat (List.length A.1),0,y.1,())) (V.bm λ(A:List ai×Unit)
 =>k A.1))
theorem Zg:∀ (l:List (List ai)) (b:List ai),l.foldl (λb x=>b++x) b=b++l.flatten
 | [],b=>by simp
 | x::l,b=>by simp[Zg l]
theorem Zh(g:Int×Unit->M (List ai×Unit))(az:∀ n,0<=n->n<60000->g (n,())=M.pure ([],()))(x:List (List ai))(k:List ai->M fX)(h1:x.length<=2)(h2:∀ l∈x,l.length<=40):Ir g x k=k x.flatten:=by
 unfold Ir;rw[M.gn x (λi (n:Int)=>(x,n,x,(x.length:Int),(i:Int),())) (λl n=>.next (n+(l.length:Int))) (λn=>.next (x,n,())) (λi n=>0<=n/\n<=40*(i:Int)) 0 ?_ ?_ ?_ ?_]
 ·rw[dV,M.aE,M.bL];have hs:∀ (l:List (List ai)) (n:Int),0<=n->(∀ y∈l,y.length<=40)->0<=l.foldl (λn y=>n+(y.length:Int)) n/\l.foldl (λn y=>n+(y.length:Int)) n<=n+40*(l.length:Int):=by
   intro l;induction l with
   | nil=>simp
   | cons y l aG=>
    grind
  obtain⟨dr,eC⟩:=hs x 0 (Int.le_refl _) h2;rw[az _ dr (by omega),M.aE];rw[M.gn x (λi (b:List ai)=>(x,(x.length:Int),(i:Int),b,())) (λl b=>.next (b++l)) (λb=>.next (b,())) (λi b=>b.length<=40*i) [] ?_ ?_ ?_ ?_]
  ·rw[dV,M.aE,M.bL,Zg];rfl
  ·rfl
  ·simp
  ·intro i E b aa;have hw:=bo (n:=(i:Int)+1) (by omega) (by omega);have ah:=h2 _ (List.getElem_mem E);refine⟨?_,λaZ cY=>?_⟩
   ·simp only[bH,cH E,if_true,cZ E,cv E,M.bf,b8,hw];rw[M.bn (hr (by grind))];rfl
   grind
  simp
 ·rfl
 ·omega
 ·intro i E n ax;have hw:=bo (n:=(i:Int)+1) (by omega) (by omega);have ah:=h2 _ (List.getElem_mem E);have gA:=bo (n:=n+(x[i].length:Int)) (by omega) (by omega);have ar:decide (n+(x[i].length:Int)<0)=false:=by grind
  refine⟨?_,λaZ cY=>?_⟩
  ·simp only[bH,cH E,if_true,cZ E,cv E,M.bf,b8,hw,gA,ar,Bool.false_eq_true,if_false,M.aE,M.bL];rfl
  grind
 simp
end
abbrev Is:aJ:=⟨.slice (.slice gS),.slice gS,λx=>x.length<=2/\∀ l∈x,l.length<=40,λx=>x.flatten⟩
theorem apK(x):M.le (Ze Iq x) (Is.sh x):=M.bj λh=>
 (show Ze Iq x=Ir Iq x M.pure from rfl).trans (Zh _ (λn a b=>M.bE ⟨a,b⟩ _) x _ h.1 h.2)
def It(x:List (z1')×Unit):M (z1'×Unit):=M.dt (x.1.length<=2/\∀ l∈x.1,l.length<=40) (x.1.flatten,())
theorem apL(x):M.le (Zf Ip x) (It x):=M.bj λh=>
 (show Zf Ip x=Ir Ip x.1 (λl=>M.pure (l,())) from rfl).trans (Zh _ (λn a b=>M.bE ⟨a,b⟩ _) x.1 _ h.1 h.2)
def nQ(l:z1')(j:Nat):Bool:=decide (j=0)||decide (l.getD j 0≠l.getD (j - 1) 0)
def e_(l:z1')(p:Nat):z1':=((List.range p).filter (nQ l)).map λj=>l.getD j 0
theorem Pe(l:z1')(p:Nat):e_ l (p+1)=e_ l p++if nQ l p=true then [l.getD p 0] else []:=by
 unfold e_;rw[List.range_succ,List.filter_append,List.map_append];grind
theorem apM(l:z1')(p:Nat):(e_ l p).length<=p:=by
 unfold e_;grind
def Ec{R:Type}:Int×(Nat×Nat)×Int×z1'×Unit->M (V (Int×(Nat×Nat)×Int×z1'×Unit) (V (Int×z1'×Unit) R)):=
 (λ(A:Int×(Nat×Nat)×Int×z1'×Unit)=>if decide (A.2.2.1<Int.ofNat (A.2.1.2 - A.2.1.1))=true then M.bind (M.ae (0<=A.2.2.1/\A.2.2.1<Int.ofNat
 (A.2.1.2 - A.2.1.1)) (M.ae (0<=IntKind.wrap .i64 (A.2.2.1 - 1)/\IntKind.wrap .i64 (A.2.2.1 - 1)<Int.ofNat (A.2.1.2 - A.2.1.1)) (if decide (List.getD A.2.2.2.1
 (Add.add A.2.1.1 (Int.toNat A.2.2.1)) 0≠List.getD A.2.2.2.1 (Add.add A.2.1.1 (Int.toNat (IntKind.wrap .i64 (A.2.2.1 - 1)))) 0)=true then M.ae (0<=A.2.2.1/\A.2.2.1
 < Int.ofNat (A.2.1.2 - A.2.1.1)) (M.ae (0<=A.1/\A.1<Int.ofNat (List.length A.2.2.2.1)) (M.pure (V.next (IntKind.wrap .i64 (Add.add A.1 1),A.2.1,A.2.2.1,List.set A.2.2.2.1 (Int.toNat A.1) (List.getD A.2.2.2.1 (Add.add A.2.1.1 (Int.toNat A.2.2.1)) 0),())))) else M.pure (V.next (A.1,A.2.1,A.2.2.1,A.2.2.2.1,())))))
 (V.bm λ(A:Int×(Nat×Nat)×Int×z1'×Unit)=>M.pure (V.next (A.1,A.2.1,IntKind.wrap .i64 (Add.add A.2.2.1 1),A.2.2.2.1,()))) else M.bind
 (M.pure (V.next (A.1,A.2.2.2.1,()))) λr=>M.pure (V.done r))
def vP:Int×z1'×Unit->M (V (Int×z1'×Unit) (V (z1'×Unit) ((Nat×Nat)×z1'×Unit))):=
 (λ(A:Int×z1'×Unit)=>if decide (A.1<Int.ofNat (List.length A.2.1))=true then M.bind (M.ae (0<=A.1/\A.1<Int.ofNat (List.length A.2.1)) (M.ae (0<=
 IntKind.wrap .i64 (A.1 - 1)/\IntKind.wrap .i64 (A.1 - 1)<Int.ofNat (List.length A.2.1)) (if decide (List.getD A.2.1 (Int.toNat A.1) 0=List.getD A.2.1 (Int.toNat
 (IntKind.wrap .i64 (A.1 - 1))) 0)=true then M.ae (0<=A.1/\A.1<=Int.ofNat (List.length A.2.1)/\Int.ofNat (List.length A.2.1)<=Int.ofNat (List.length A.2.1))
 (M.bind (M.loop Ec (A.1,(Int.toNat A.1,Int.toNat (Int.ofNat (List.length A.2.1))),1,A.2.1,())) (V.bm λ(A:Int×z1'×Unit)=>M.ae (0<=A.1/\A.1<=
 Int.ofNat (List.length A.2.1)/\Int.ofNat (List.length A.2.1)<=Int.ofNat (List.length A.2.1)) (M.ae True (M.ae ((0:Int)<=0/\0<=A.1/\A.1<=Int.ofNat (List.length
 (List.take (Int.toNat A.1) A.2.1++List.replicate (Int.toNat (Int.ofNat (List.length A.2.1)) - Int.toNat A.1) 0++List.drop (Add.add (Int.toNat A.1) (List.length
 (List.replicate (Int.toNat (Int.ofNat (List.length A.2.1)) - Int.toNat A.1) (0:Int)))) A.2.1))) (M.bind (M.bind (M.bind (M.pure ((Int.toNat 0,Int.toNat A.1),List.take
 (Int.toNat A.1) A.2.1++List.replicate (Int.toNat (Int.ofNat (List.length A.2.1)) - Int.toNat A.1) 0++List.drop (Add.add (Int.toNat A.1) (List.length (List.replicate
 (Int.toNat (Int.ofNat (List.length A.2.1)) - Int.toNat A.1) (0:Int)))) A.2.1,())) λr=>M.pure (V.done r)) λr=>M.pure (V.done r)) λr=>M.pure (V.done
 r)))))) else M.pure (V.next (A.1,A.2.1,()))))) (V.bm λ(A:Int×z1'×Unit)=>M.pure (V.next (IntKind.wrap .i64 (Add.add A.1 1),A.2.1,()))) else
 M.bind (M.pure (V.next (A.2.1,()))) λr=>M.pure (V.done r))
structure yb(l:z1')(p:Nat)(m:z1'):Prop where
 len:m.length=l.length
 BM:m.take (e_ l p).length=e_ l p
 lt:(e_ l p).length<p
 bZ:∀ j,p<=j+1->m.getD j 0=l.getD j 0
theorem apN{ai:Type}{l:List ai}{i j:Nat}{v d:ai}(h:i<l.length):(l.set i v).getD j d=if j=i then v else l.getD j d:=by
 grind
theorem yb.step{l m:z1'}{p:Nat}(h:yb l p m)(hp:p<l.length):yb l (p+1) (if nQ l p=true then m.set (e_ l p).length (l.getD p 0) else m):=by
 have h1:=h.lt;have h2:=h.len;have hc:=Pe l p;by_cases an:nQ l p=true
 ·rw[if_pos an]at hc ⊢;refine⟨by grind,?_,?_,λj aB=>?_⟩
  ·rw[hc,List.length_append,List.length_singleton];have aF:=h.BM;generalize e_ l p=c at aF h1;apply List.ext_getElem?;intro j;rw[List.getElem?_take,List.getElem?_append,List.getElem?_set];grind
  ·grind
  ·rw[apN (by omega),if_neg (by omega)];exact h.bZ j (by omega)
 ·rw[if_neg an,List.append_nil]at hc;rw[if_neg an];refine⟨h2,by rw[hc];exact h.BM,by grind,λj aB=>h.bZ j (by omega)⟩
theorem apO{R:Type}{l m:z1'}{k p:Nat}(ah:l.length<60000)(an:k<p)(my:0<k)(h:yb l p m)(hp:p<l.length) :
  Ec (R:=R) (((e_ l p).length:Nat),(k,l.length),((p - k:Nat):Int),m,())=M.pure (.next (((e_ l (p+1)).length:Nat),(k,l.length),((p+1 - k:Nat):Int),(if nQ l p=true then m.set (e_ l p).length (l.getD p 0) else m),())):=by
 have h1:=h.lt;have h2:=h.len;have hc:=Pe l p;have b2:=bo (n:=((p - k:Nat):Int) - 1) (by omega) (by omega);have cF:IntKind.wrap .i64 (((p - k:Nat):Int)+1)=((p+1 - k:Nat):Int):=(bo (by omega) (by omega)).trans (by omega);have eA:=bo (n:=(((e_ l p).length:Nat):Int)+1) (by omega) (by omega);have d1:decide (((p - k:Nat):Int)<((l.length - k:Nat):Int))=true:=by grind
 have bY:(0:Int)<=((p - k:Nat):Int)/\((p - k:Nat):Int)<((l.length - k:Nat):Int):=by omega
 have cm:(0:Int)<=((p - k:Nat):Int) - 1/\((p - k:Nat):Int) - 1<((l.length - k:Nat):Int):=by omega
 have dQ:(0:Int)<=(((e_ l p).length:Nat):Int)/\(((e_ l p).length:Nat):Int)<(m.length:Int):=by omega
 have e1:k+(((p - k:Nat):Int)).toNat=p:=by omega
 have e2:k+(((p - k:Nat):Int) - 1).toNat=p - 1:=by omega
 have g1:=h.bZ p (by omega);have dP:=h.bZ (p - 1) (by omega);have y3:nQ l p=decide (l.getD p 0≠l.getD (p - 1) 0):=by
  unfold nQ;grind
 unfold Ec;simp only[bH,d1,if_true,b2,bY,cm,and_self,M.bf,b8,j1,e1,e2,g1,dP,<-y3];by_cases Iu:nQ l p=true
 ·rw[if_pos Iu]at hc;simp only[Iu,if_true,dQ,and_self,M.bf,M.aE,M.bL,cF,eA,Int.toNat_natCast,decide_true];rw[hc];simp
 ·rw[if_neg Iu,List.append_nil]at hc;simp only[Iu,if_false,M.aE,M.bL,cF,Bool.false_eq_true,decide_true,if_true];rw[hc]
theorem apP{R:Type}{l:z1'}{k:Nat}(ah:l.length<60000)(my:0<k):∀ (n p:Nat) (m:z1'),l.length - p=n->p<=l.length->k<p->yb l p m->
  ∃ c7,yb l l.length c7/\M.loop (Ec (R:=R)) (((e_ l p).length:Nat),(k,l.length),((p - k:Nat):Int),m,())=M.pure (.next (((e_ l l.length).length:Nat),c7,())):=by
 intro n;induction n with
 | zero=>
  intro p m ax hp an h;have:p=l.length:=by omega
  subst this;refine⟨m,h,M.sO ?_⟩;unfold Ec;simp
 | succ n aG=>
  intro p m ax hp an h;have hp:p<l.length:=by omega
  obtain⟨c7,h1,h2⟩:=aG (p+1) _ (by omega) hp (by omega) (h.step hp);exact⟨c7,h1,(M.Bg (apO ah an my h hp)).trans h2⟩
def vQ(l:z1'):(Nat×Nat)×z1'×Unit:=((0,(e_ l l.length).length),e_ l l.length++List.replicate (l.length - (e_ l l.length).length) 0,())
theorem apQ{l:z1'}(ah:l.length<60000):∀ (n p:Nat),l.length - p=n->p<=l.length->0<p->e_ l p=l.take p->
  M.bind (M.loop vP ((p:Int),l,())) (V.bm λ(A:z1'×Unit)=>M.pure ((0,List.length A.1),A.1,()))=M.pure (vQ l):=by
 intro n;induction n with
 | zero=>
  intro p ax hp h0 hc;have:p=l.length:=by omega
  subst this;rw[List.take_length]at hc;have aa:vP ((l.length:Int),l,())=M.pure (.done (.next (l,()))):=by
   unfold vP;simp
  rw[M.sO aa,M.aE,M.bL];unfold vQ;simp_all
 | succ n aG=>
  intro p ax hp h0 hc;have hp:p<l.length:=by omega
  have b2:=bo (n:=(p:Int) - 1) (by omega) (by omega);have cF:=bo (n:=(p:Int)+1) (by omega) (by omega);have cm:(0:Int)<=(p:Int) - 1/\(p:Int) - 1<(l.length:Int):=by omega
  have e1:((p:Int) - 1).toNat=p - 1:=by omega
  have y3:nQ l p=decide (l.getD p 0≠l.getD (p - 1) 0):=by
   unfold nQ;rw[show decide (p=0)=false by grind,Bool.false_or]
  have oO:=Pe l p;have YI:(l.take p).length=p:=by grind
  by_cases an:nQ l p=true
  ·have dX:¬l.getD p 0=l.getD (p - 1) 0:=by grind
   have aa:vP ((p:Int),l,())=M.pure (.next (((p+1:Nat):Int),l,())):=by
    unfold vP;simp_all
   rw[M.Bg aa];refine aG (p+1) (by omega) hp (by omega) ?_;simp_all
  ·have heq:l.getD p 0=l.getD (p - 1) 0:=by grind
   rw[if_neg an,List.append_nil]at oO;have eb:yb l (p+1) l:=⟨rfl,by grind,by grind,λ_ _=>rfl⟩
   obtain⟨c7,h1,h2⟩:=apP (R:=V (Int×z1'×Unit) (V (Int×z1'×Unit) (V (z1'×Unit) ((Nat×Nat)×z1'×Unit)))) ah h0 (l.length - (p+1)) (p+1) l rfl hp (by omega) eb;rw[show (e_ l (p+1)).length=p by grind,show p+1 - p=1 from by omega]at h2;have lk:=apM l l.length;have amf:=h1.len;have kt:=h1.BM;have dQ:(0:Int)<=((e_ l l.length).length:Int)/\((e_ l l.length).length:Int)<=(c7.length:Int):=by omega
   have iW:List.take (e_ l l.length).length c7++List.replicate (c7.length - (e_ l l.length).length) 0++List.drop ((e_ l l.length).length+(List.replicate (c7.length - (e_ l l.length).length) (0:Int)).length) c7=e_ l l.length++List.replicate (l.length - (e_ l l.length).length) 0:=by
    simp_all
   have aa:vP ((p:Int),l,())=M.pure (.done (.done (vQ l))):=by
    unfold vP;simp only[bH,cH hp,if_true,cv hp,M.bf,b2,cm,and_self,e1,Int.toNat_natCast,heq,decide_true];rw[M.bn (by omega)];erw [h2];simp only[M.aE,M.bL,bH,Int.toNat_natCast,j1,iW,M.bf];rw[M.bn ⟨dQ.1,dQ.2,Int.le_refl _⟩,M.bn ⟨Int.le_refl _,dQ.1,by grind⟩];simp only[M.aE,M.o_,iW];rfl
   rw[M.sO aa,M.aE,M.o_]
def Iv(x:z1'×Unit):M ((Nat×Nat)×z1'×Unit):=M.dt (x.1.length<60000) (vQ x.1)
theorem apR(x):M.le (apJ x) (Iv x):=M.bj λh=>by
 obtain⟨l,u⟩:=x;change l.length<60000 at h;show (if decide (Int.ofNat l.length<2)=true then M.pure ((0,l.length),l,()) else M.bind (M.loop vP (1,l,())) (V.bm λ(A:z1'×Unit)=>M.pure ((0,List.length A.1),A.1,())))=M.pure (vQ l);have ns:∀ l:z1',l.length<2->e_ l l.length=l:=λl ah=>by
  match l,ah with
  | [],_=>rfl
  | [a],_=>rfl
 by_cases h2:l.length<2
 ·have ar:decide (Int.ofNat l.length<2)=true:=by grind
  rw[if_pos ar];unfold vQ;simp_all
 ·have ar:¬decide (Int.ofNat l.length<2)=true:=by grind
  rw[if_neg ar];refine apQ h (l.length - 1) 1 rfl (by omega) (by omega) ?_;match l,h2 with
  | a::l,_=>rfl
  | [],h2=>grind
end Go.Fer.H
namespace Go.Fer.H
open M (V)
theorem apS{l:z1'}:∀ j,j<l.length->l.getD j 0∈e_ l l.length:=by
 intro j;induction j with
 | zero=>
  intro h;unfold e_;exact List.mem_map.2 ⟨0,List.mem_filter.2 ⟨by grind,by rfl⟩,rfl⟩
 | succ j aG=>
  intro h;by_cases an:nQ l (j+1)=true
  ·unfold e_;grind
  ·have:l.getD (j+1) 0=l.getD j 0:=by
    unfold nQ at an;grind
   grind
theorem apT{l:z1'}{x:Int}:x∈e_ l l.length<->x∈l:=by
 constructor
 ·intro h;unfold e_ at h;grind
 ·intro h;obtain⟨j,aB,rfl⟩:=List.mem_iff_getElem.1 h;rw[<-sj (d:=0) aB];exact apS j aB
theorem apU{l:z1'}(h:l.Pairwise (·<=·)):(e_ l l.length).Pairwise (·<·):=by
 unfold e_;rw[List.pairwise_map];have G:((List.range l.length).filter (nQ l)).Pairwise (·<·):=List.Pairwise.filter _ List.pairwise_lt_range;refine List.Pairwise.imp_of_mem ?_ G;intro i j E aB y8;obtain⟨apV,iK⟩:=List.mem_filter.1 aB;have apV:j<l.length:=by grind
 have dX:l.getD j 0≠l.getD (j - 1) 0:=by
  unfold nQ at iK;grind
 have hs:=List.pairwise_iff_getElem.1 h;grind
def mV(a b:z1'):z1':=(dR 0 99).filter λid=>a.contains id||b.contains id
theorem Zi(a b:Int):(dR a b).Pairwise (·<·):=by
 unfold dR;rw[List.pairwise_map];exact (List.pairwise_lt_range).imp λh=>by omega
theorem apW{a b:z1'}(aU:a.Pairwise (·<·))(aa:b.Pairwise (·<·))(h:∀ x,x∈a<->x∈b):a=b:=by
 have apX:a.Nodup:=aU.imp λh=>by omega
 have l2:b.Nodup:=aa.imp λh=>by omega
 have hp:=(List.perm_ext_iff_of_nodup apX l2).2 h;rw[<-z_ (aU.imp λh=>by omega) (List.Perm.refl a)];exact z_ (aa.imp λh=>by omega) hp
theorem apY{a b:z1'}(aU:∀ x∈a,bK x 0 99=true)(aa:∀ x∈b,bK x 0 99=true):e_ (e7 gU (a++b)) (e7 gU (a++b)).length=mV a b:=by
 refine apW (apU (NF _)) (List.Pairwise.filter _ (Zi 0 99)) λx=>?_;rw[apT,Wq];unfold mV;simp only[List.mem_append,List.mem_filter,qa,Bool.or_eq_true,List.contains_iff_mem];refine⟨λh=>⟨?_,h⟩,λh=>h.2⟩;rcases h with h | h
 ·exact ou.1 (aU x h)
 ·exact ou.1 (aa x h)
abbrev Iw:aP:=([],[],[],[],0,0,0,0,0,0,0)
def mW(c:aP)(more:List aT)(gH:z1'):aP:=(c.1,more,gH,c.2.2.2)
def nR(c:aP)(more:List aT)(gH:z1'):aP×Int:=
 if cr c≠0 then (Iw,cr c) else if cr (mW c more gH)≠0 then (Iw,cr (mW c more gH)) else
 if kE (c.2.1++more)=true then (Iw,91) else
 if (decide (Int.ofNat (eO (c.2.1++more)).length > 12)||decide (Int.ofNat (mV c.2.2.1 gH).length > 12))=true then (Iw,90) else (mW c (eO (c.2.1++more)) (mV c.2.2.1 gH),0)
abbrev A0:aJ:=⟨.aw jd (.aw (.slice gS) fE),.aw jd tI,λx=>h' x.1/\x.2.1.length<2 ^ 63/\x.2.2.length<2 ^ 63,λx=>nR x.1 x.2.1 x.2.2⟩
abbrev Ed:aJ:=⟨.slice l9,.slice l9,λx=>x.length<65536,λx=>x⟩
theorem apZ(x):M.le (VV x) (Ed.sh x):=M.r_ λh=>by
 unfold VV;rw[M.fF];refine⟨⟨false,by simp⟩,λb aa=>?_⟩;change b=true->x=[]at aa;cases b with
 | true=>rw[aa rfl];exact M.dC.2 rfl
 | false=>
  simp only[Bool.false_eq_true,if_false];exact M.ko.2 ⟨hr (by grind),M.dC.2 (by simp)⟩
structure Zj(c:aP):Prop where
 dF:c.1.length<=3
 dI:c.2.1.length<=12
 js:c.2.2.1.length<=12
 n4:c.2.2.2.1.length<=4
 ids:∀ s∈c.2.1,bK s.1 0 99=true
 gH:∀ n∈c.2.2.1,bK n 0 99=true
 cl:kE c.2.1=false
theorem Ix{c:aP}(h:cr c=0):Zj c:=by
 unfold cr at h;by_cases hc:jE c=true
 ·rw[if_pos hc]at h;have lk:kE c.2.1=false:=by
   grind
  have E:=Hi hc;unfold jE si at hc;simp only[Bool.and_eq_true,List.all_eq_true,Bool.not_eq_true',Bool.or_eq_false_iff,decide_eq_false_iff_not]at hc;obtain⟨⟨⟨⟨⟨a8,_⟩,_⟩,h2⟩,h3⟩,_⟩:=hc;exact⟨by omega,by omega,by omega,by omega,E.2,h3,lk⟩
 grind
theorem ap0{a b:List aT}(aU:a.length<=12)(aa:b.length<=12)(h1:∀ s∈a,bK s.1 0 99=true)(h2:∀ s∈b,bK s.1 0 99=true):vl (a++b):=
 ⟨by grind,λs hs=>(List.mem_append.1 hs).elim (h1 s) (h2 s)⟩
theorem ap1(x):M.le (Zd hH.sh Ah.sh Is.sh It xL Iv Ed.sh x) (A0.sh x):=M.bj λh=>by
 obtain⟨c,more,gH⟩:=x;obtain⟨h1,h2,h3⟩:=h;change h' c at h1;change more.length<2 ^ 63 at h2;change gH.length<2 ^ 63 at h3;have tk:h' (mW c more gH):=⟨h1.1,h2,h3,h1.2.2.2⟩
 unfold Zd;show _=M.pure (nR c more gH);unfold nR;rw[show hH.sh (c,more,gH).1=M.pure (cr c) from M.bE h1 _,M.aE];by_cases e1:cr c=0
 ·have g1:=Ix e1;rw[show hH.sh ((c,more,gH).1.1,(c,more,gH).2.1,(c,more,gH).2.2,(c,more,gH).1.2.2.2)=M.pure (cr (mW c more gH)) from M.bE tk _,M.aE];by_cases e2:cr (mW c more gH)=0
  ·have dP:=Ix e2;have dI:more.length<=12:=dP.dI;have js:gH.length<=12:=dP.js;have pP:=g1.dI;have lW:=g1.js;have E:vl (c.2.1++more):=ap0 g1.dI dP.dI g1.ids dP.ids;rw[if_neg (by grind),if_neg (by grind),if_neg (by omega),if_neg (by omega)];rw[show Is.sh [(c,more,gH).1.2.1,(c,more,gH).2.1]=M.pure (c.2.1++more) from (M.bE ⟨by simp,by grind⟩ _).trans (congrArg M.pure (by simp)),M.aE];rw[show Ah.sh (c.2.1++more)=M.pure (if kE (c.2.1++more)=true then ([],false) else (eO (c.2.1++more),true)) from M.bE E _,M.aE];cases hc:kE (c.2.1++more) with
   | true=>simp
   | false=>
    simp only[Bool.false_eq_true,if_false,Bool.not_true];rw[show It ([c.2.2.1,gH],())=M.pure (c.2.2.1++gH,()) from (M.bE ⟨by simp,by grind⟩ _).trans (congrArg M.pure (by simp)),M.aE];rw[show xL ((c.2.2.1++gH,()):z1'×Unit)=M.pure (e7 gU (c.2.2.1++gH),()) from M.bE (by grind) _,M.aE];rw[show Iv ((e7 gU (c.2.2.1++gH),()):z1'×Unit)=M.pure (vQ (e7 gU (c.2.2.1++gH))) from M.bE (by show (e7 gU (c.2.2.1++gH)).length<_;rw[Hb];grind) _,M.aE];have hW:=apY g1.gH dP.gH;unfold vQ;rw[show (e_ (e7 gU (c.2.2.1++gH)) (e7 gU (c.2.2.1++gH)).length)=mV c.2.2.1 gH from hW];simp only[Nat.sub_zero,List.drop_zero,List.take_left];rw[show Ed.sh c.1=M.pure c.1 from M.bE (by have:=g1.dF;omega) _,show Ed.sh c.2.2.2.1=M.pure c.2.2.2.1 from M.bE (by have:=g1.n4;omega) _];simp only[M.iC,M.fg,M.bf];split<;>rfl
  grind
 grind
end Go.Fer.H
namespace Go.Fer.W
open M (V)
abbrev sE:ad:=.slice .str
abbrev vR:ad:=.st (.aw lK H.jd)
def cJ:aN->List aN
 | []=>[[]]
 | c::s=>if c=32 then []::cJ s else match cJ s with
  | []=>[[c]]
  | w::l=>(c::w)::l
theorem vS:∀ (s:aN),1<=(cJ s).length/\(cJ s).length<=s.length+1
 | []=>by simp[cJ]
 | c::s=>by
  have:=vS s;unfold cJ;grind
theorem Zk:∀ (s:aN) {w:aN},w∈cJ s->w.length<=s.length
 | [],w,h=>by simp[cJ]at h;simp[h]
 | c::s,w,h=>by
  have aG:=@Zk s;unfold cJ at h;grind
def fJ:aN->Int->Int
 | [],n=>n
 | c::s,n=>if (decide ((c.toNat:Int)<48)||decide ((c.toNat:Int) > 57))=true then -1 else fJ s (10*n+((c.toNat:Int) - 48))
def eW(s:aN):Int:=if (decide (s.length=0)||decide (s.length > 6)||decide (s.length > 1)&&decide ((s.getD 0 0).toNat=48))=true then -1 else fJ s 0
theorem Pf:∀ (s:aN) (n:Int) (k:Nat),0<=n->n<10 ^ k->fJ s n<10 ^ (k+s.length)/\-1<=fJ s n
 | [],n,k,h0,h1=>by simp[fJ];omega
 | c::s,n,k,h0,h1=>by
  unfold fJ;have hp:(0:Int)<10 ^ (k+(c::s).length):=Int.pow_pos (by decide);split
  ·omega
  ·rename_i hc;simp only[Bool.or_eq_true,decide_eq_true_eq,not_or]at hc;have:=Pf s (10*n+((c.toNat:Int) - 48)) (k+1) (by omega) (by omega);grind
theorem ap2(s:aN):-1<=eW s/\eW s<=999999:=by
 unfold eW;split
 ·omega
 ·rename_i h;simp only[Bool.or_eq_true,decide_eq_true_eq,not_or]at h;have:=Pf s 0 0 (by decide) (by decide);have h2:(10:Int) ^ (0+s.length)<=10 ^ 6:=by
   have:=Nat.pow_le_pow_right (n:=10) (by decide) (show 0+s.length<=6 by omega);grind
  omega
def sF(s:aN):Int:=match Go.Lib.atoiAll s with
 | .ok v=>v
 | .range=>Go.Lib.atoiSat s
 | _=>0
def qP(s:aN):Int×Bool:=(sF s,decide (0<=eW s))
def Pg(l:List aN):Option (z1'):=if l.all (λw=>decide (0<=eW w))=true then some (l.map eW) else none
def rn(n:Int):aN:=Go.Lib.itoa (IntKind.wrap .i64 n)
theorem Ph(n:Int):(rn n).length<=21:=by
 have:=pM .i64 n;exact Go.Lib.itoa_length_le _ this.1 this.2
abbrev Iy:aN:=[111,107]
abbrev A1:aN:=[110,111]
abbrev Zl:aN:=[110,111,110,101]
abbrev Zm:aN:=[115,104,111,112]
abbrev ap3:aN:=[108,105,97,114]
abbrev ap4:aN:=[63]
def rp(l:z1'):aN:=if l=[] then Zl else Go.Lib.join (l.map rn) [32]
def qm(e:Int)(l:z1'):aN:=if e=0 then rp l else if e=3 then Zl else A1
def yc(x:(Int×Int)×Int):aN:=qm x.2 [x.1.1,x.1.2]
abbrev bc(l:z1')(i:Nat):Int:=l.getD i 0
def qn(d:aV)(m:List H.aT)(v:z1'):aN×aV:=if (H.nR d.2 m v).2≠0 then (A1,d) else (Iy,(d.1,(H.nR d.2 m v).1))
def me(d:aV)(s:bq):aN×aV:=if iR s≠0 then (A1,d) else (Iy,(s,d.2))
def Pj(d:aV)(l:z1'):aN×aV:=qn d [(bc l 0,bc l 1,bc l 2,1,bc l 3,bc l 4)] []
def Pk(d:aV)(l:z1'):aN×aV:=qn d [(bc l 0,bc l 1,bc l 2,2,bc l 3,0)] []
def Pl(d:aV)(l:z1'):aN×aV:=qn d [] l
def Pm(d:aV)(l:z1'):aN×aV:=(yc (H.Hp d.2 (bc l 0)),d)
def Pn(d:aV)(l:z1'):aN×aV:=(yc (H.Hr d.2 (bc l 0)),d)
def Po(d:aV)(l:z1'):aN×aV:=(yc (H.Ht d.2 (bc l 0)),d)
def Pp(d:aV)(l:z1'):aN×aV:=(yc (H.Hv d.2 (bc l 0)),d)
def Pq(r:z1'×Int):aN:=if (decide (r.2≠0)||decide (r.1.getD 0 0>=0))=true then qm r.2 r.1 else if r.1.length=1 then Zm else Zm++[32]++rp (r.1.drop 1)
def Pr(d:aV)(l:z1'):aN×aV:=(Pq (H.ra d.2 (bc l 0) (bc l 1)),d)
def Ps(r:z1'×z1'×Int):aN:=if r.2.2≠0 then qm r.2.2 [] else rp r.1++[32,47,32]++rp r.2.1
def Pt(d:aV)(l:z1'):aN×aV:=(Ps (H.so d.2 (bc l 0)),d)
def mX(w:bb)(t:Int×Int×Int×Int):bb:=(w.1,w.2.1,w.2.2.1,w.2.2.2++[t])
def vT(d:aV)(l:z1'):aN×aV:=
 if cr (mX d.1.1 (bc l 0,bc l 1,bc l 2,bc l 3))≠0 then (A1,d) else if (vD (mX d.1.1 (bc l 0,bc l 1,bc l 2,bc l 3)) (bc l 0)).2≠0 then (ap3,d)
 else (Iy,((mX d.1.1 (bc l 0,bc l 1,bc l 2,bc l 3),d.1.2),d.2))
def uf(r:Int×Int):aN:=if r.2≠0 then qm r.2 [] else List.getD [[],[115,117,114,101,108,121],[110,101,118,101,114],[112,101,114,104,97,112,115]] r.1.toNat []
def Pu(d:aV)(l:z1'):aN×aV:=(uf (qk d.1.1 (bc l 0) (bc l 1) (bc l 2)),d)
def vU(d:aV)(l:z1'):aN×aV:=if bc l 0>=(d.1.2.1.length:Int) then (A1,d) else me d (d.1.1,d.1.2.1.set (bc l 0).toNat (d.1.2.1.getD (bc l 0).toNat 0+bc l 1),d.1.2.2)
def Pv(d:aV)(l:z1'):aN×aV:=me d (d.1.1,d.1.2.1,d.1.2.2.1,d.1.2.2.2.1,d.1.2.2.2.2.1++[(bc l 0,bc l 1,bc l 2)],d.1.2.2.2.2.2)
def Pw(d:aV)(l:z1'):aN×aV:=me d (d.1.1,d.1.2.1,d.1.2.2.1++[(bc l 0,bc l 1,bc l 2,bc l 3,l.drop 4)],d.1.2.2.2)
def Px(d:aV)(l:z1'):aN×aV:=me d (d.1.1,d.1.2.1,d.1.2.2.1,d.1.2.2.2.1++[(l.drop 5,(bc l 0,bc l 1),bc l 2,bc l 3,bc l 4)],d.1.2.2.2.2)
def vV(d:aV)(l:z1'):aN×aV:=if bc l 0>=(d.1.2.2.2.1.length:Int) then (A1,d) else (Iy,((d.1.1,d.1.2.1,d.1.2.2.1,d.1.2.2.2.1.eraseIdx (bc l 0).toNat,d.1.2.2.2.2),d.2))
def Py(d:aV)(l:z1'):aN×aV:=(qm (ui d.1 (bc l 0)).2 (ui d.1 (bc l 0)).1,d)
def Pz(d:aV)(l:z1'):aN×aV:=(qm (AY d.1 (l.map (· - 1))).2 [(AY d.1 (l.map (· - 1))).1],d)
def PA(d:aV)(_:z1'):aN×aV:=(qm (ya d.1 true).2 [(ya d.1 true).1],d)
def PB(d:aV)(_:z1'):aN×aV:=(qm (AX d.1).2 [(AX d.1).1],d)
def vW:Nat->aV->z1'->aN×aV
 | 0=>Pj | 1=>Pk | 2=>Pl | 3=>Pm | 4=>Pn | 5=>Po | 6=>Pp | 7=>Pr | 8=>Pt | 9=>vT
 | 10=>Pu | 11=>vU | 12=>Pv | 13=>Pw | 14=>Px | 15=>vV | 16=>Py | 17=>Pz | 18=>PA | _=>PB
def k_:List (aN×Int×Bool):=[([108,101,110,100],5,false),([98,97,99,107],4,false),([118,111,105,100],1,false),([108,97,115,116,115],1,false),([102,101,101],1,false),([111,119,101,115],1,false),([104,101,108,100],1,false),([119,104,101,114,101],2,false),([109,105,115,115,105,110,103],1,false),([116,114,105,97,108],4,false),([102,105,116,115],3,false),([115,116,111,99,107],2,false),([99,111,109,101,115],3,false),([112,105,101,99,101],4,true),([119,105,115,104],5,true),([100,114,111,112],1,false),([99,97,110],1,false),([116,97,107,101,115],0,true),([109,111,115,116],0,false),([101,120,116,114,97],0,false)]
def pA(w:aN):List (aN×Int×Bool)->Nat->Option (Int×Bool×Nat)
 | [],_=>none
 | p::l,i=>if w=p.1 then some (p.2.1,p.2.2,i) else pA w l (i+1)
def PC(s:aN):Option (Nat×z1'):=
 match pA ((cJ s).getD 0 []) k_ 0 with
 | none=>none
 | some (k,m,j)=>if (decide (((cJ s).length:Int) - 1<k)||decide (((cJ s).length:Int) - 1 > k)&&!m)=true then none else (Pg ((cJ s).drop 1)).map λl=>(j,l)
def mf(d:aV)(s:aN):aN×aV:=match PC s with
 | none=>(ap4,d)
 | some (j,l)=>vW j d l
def gI:aV->List aN->List aN×aV
 | d,[]=>([],d)
 | d,s::l=>((mf d s).1::(gI (mf d s).2 l).1,(gI (mf d s).2 l).2)
theorem ap5(d:aV)(a b:List aN):gI d (a++b)=((gI d a).1++(gI (gI d a).2 b).1,(gI (gI d a).2 b).2):=by
 induction a generalizing d with
 | nil=>rfl
 | cons s a aG=>simp only[List.cons_append,gI,aG]
theorem Zn(d:aV)(a:List aN):(gI d a).1.length=a.length:=by
 induction a generalizing d with
 | nil=>rfl
 | cons s a aG=>simp only[gI,List.length_cons,aG]
def ji(d:aV):Int:=if (decide (iR d.1≠0)||decide (H.cr d.2≠0))=true then 120 else 0
def g_(d:aV):aV:=(d.1,(H.nR d.2 [] []).1)
abbrev Zo:aV:=((([],[],0,[]),[],[],[],[],0),[],[],[],[],0,0,0,0,0,0,0)
def vY(d:aV)(l:List aN):List aN×aV×Int:=
 if ji d≠0 then ([],Zo,ji d) else if l.length > 40 then ([],Zo,2) else ((gI (g_ d) l).1,(gI (g_ d) l).2,0)
structure cU(d:aV):Prop where
 gz:e' d.1
 yd:iR d.1=0
 ye:H.cr d.2=0
 A2:H.j4 d.2.1<=60
theorem cU.val{d:aV}(h:cU d):lL d.1:=AP h.gz h.yd
theorem cU.Zp{d:aV}(h:cU d):ji d=0:=by simp[ji,h.yd,h.ye]
theorem cU.ap6{d:aV}(h:cU d):H.Zj d.2:=H.Ix h.ye
theorem cU.gr{d:aV}(h:cU d):H.gr d.2:=by
 have:=h.ap6;exact⟨⟨by have:=this.dF;omega,by have:=this.dI;omega,by have:=this.js;omega,by have:=this.n4;omega⟩,λ_=>h.A2⟩
theorem cU.h'{d:aV}(h:cU d):H.h' d.2:=h.gr.gz
structure dZ(k:Nat)(l:z1'):Prop where
 PD:k<=l.length
 Iz:l.length<=10000
 num:∀ n∈l,0<=n/\n<=999999
theorem dZ.bc{k:Nat}{l:z1'}(h:dZ k l)(i:Nat):0<=bc l i/\bc l i<=999999:=by
 rcases Nat.lt_or_ge i l.length with E | E
 ·have:=h.num l[i] (by simp);grind
 ·grind
end Go.Fer.W
namespace Go.Fer.W
open M (V)
open H (hr)
abbrev IA:aJ:=⟨.int .i64,.str,λ_=>True,rn⟩
abbrev Ee:aJ:=⟨.aw sE .str,.str,λx=>x.1.length<=60000/\(∀ w∈x.1,w.length<=21)/\x.2.length=1,λx=>Go.Lib.join x.1 x.2⟩
theorem Zq:∀ (l:List aN) (s:aN) (n:Nat),(∀ w∈l,w.length<=n)->(Go.Lib.join l s).length<=l.length*(n+s.length)
 | [],s,n,h=>by simp[Go.Lib.join_nil]
 | x::r,s,n,h=>by
  rw[Go.Lib.join_cons];have aF:∀ (r:List aN),(∀ w∈r,w.length<=n)->(Go.Lib.joinTail s r).length<=r.length*(n+s.length):=by
   intro r;induction r with
   | nil=>intro _;simp[Go.Lib.joinTail]
   | cons y r aG=>
    intro h;have h1:=aG λw hw=>h w (by grind);have h2:=h y (by simp);simp only[Go.Lib.joinTail,List.map_cons,List.flatten_cons,List.length_append,List.length_cons,Nat.succ_mul]at h1 ⊢;omega
  have h1:=aF r λw hw=>h w (by grind);have h2:=h x (by simp);simp only[List.length_append,List.length_cons,Nat.succ_mul];omega
theorem PE(l:z1'):(rp l).length<=l.length*22+4:=by
 unfold rp;split
 ·simp
 ·have:=Zq (l.map rn) [32] 21 λw hw=>by
   obtain⟨n,_,rfl⟩:=List.mem_map.1 hw;exact Ph n
  grind
abbrev yf:aJ:=⟨fE,.str,λx=>x.length<=60000,rp⟩
theorem ap7(x):M.le (XM IA.sh Ee.sh x) (yf.sh x):=M.bj λh=>by
 change x.length<=60000 at h;unfold XM;show _=M.pure (rp x);unfold rp;by_cases hx:x=[]
 ·grind
 ·have ah:x.length≠0:=by grind
  rw[if_neg (by grind),if_neg hx];rw[M.gn x (λi (o:List aN)=>(x,(x.length:Int),(i:Int),o,())) (λn o=>.next (o++[rn n])) (λo=>.next (o,())) (λi o=>o.length=i) [] ?_ rfl ?_ ?_]
  ·rw[dV,xz,List.nil_append,M.aE,M.bL];rw[show Ee.sh (x.map rn,[32])=M.pure (Go.Lib.join (x.map rn) [32]) from M.bE ⟨by grind,λw hw=>by
    obtain⟨n,_,rfl⟩:=List.mem_map.1 hw;exact Ph n,rfl⟩ _,M.aE]
  ·rfl
  ·intro i E o af;have hw:=bo (n:=(i:Int)+1) (by omega) (by omega);refine⟨?_,λaZ cY=>?_⟩
   ·simp only[bH,cH E,if_true,cZ E,cv E,M.bf,b8,hw];rw[show IA.sh x[i]=M.pure (rn x[i]) from rfl,M.aE,M.bn (hr (by grind))];rfl
   ·grind
  simp
abbrev qo:aJ:=⟨.aw (.int .i64) fE,.str,λx=>x.2.length<=60000,λx=>qm x.1 x.2⟩
theorem ap8(x):M.le (XL yf.sh x) (qo.sh x):=M.bj λh=>by
 change x.2.length<=60000 at h;unfold XL;show _=M.pure (qm x.1 x.2);unfold qm;rw[show yf.sh x.2=M.pure (rp x.2) from M.bE h _,M.aE];grind
abbrev yg:aJ:=⟨.aw l9 (.int .i64),.str,λ_=>True,yc⟩
theorem ap9(x):M.le (XK qo.sh x) (yg.sh x):=M.bj λ_=>by
 unfold XK;rw[show qo.sh (x.2,[x.1.1,x.1.2])=M.pure (yc x) from M.bE (show 2<=60000 by decide) _,M.aE]
theorem yh{e:Int}{l:z1'}(h:l.length<=60000):qo.sh (e,l)=M.pure (qm e l):=M.bE h _
theorem PF{l:z1'}(h:l.length<=60000):yf.sh l=M.pure (rp l):=M.bE h _
theorem IB(x:(Int×Int)×Int):yg.sh x=M.pure (yc x):=rfl
def shD(k:Nat)(g:aV->z1'->aN×aV)(x:z1'×aV×Unit):M (aN×aV×Unit):=M.dt (cU x.2.1/\dZ k x.1) ((g x.2.1 x.1).1,(g x.2.1 x.1).2,())
theorem mY:Int.toNat 0=0:=rfl
theorem mZ:Int.toNat 1=1:=rfl
theorem m_:Int.toNat 2=2:=rfl
theorem m':Int.toNat 3=3:=rfl
theorem na:Int.toNat 4=4:=rfl
theorem nb:Int.toNat 5=5:=rfl
theorem nc{ai:Type}{k:Nat}{l:z1'}(h:dZ k l)(m:M ai)(i:Int)(E:0<=i/\i<(k:Int)):M.ae (0<=i/\i<Int.ofNat l.length) m=m:=
 M.bn ⟨E.1,by have:=h.PD;grind⟩ m
def A3(x:List H.aT×z1'×aV×Unit):M (aN×aV×Unit):=M.dt (cU x.2.2.1/\x.1.length<2 ^ 63/\x.2.1.length<2 ^ 63) ((qn x.2.2.1 x.1 x.2.1).1,(qn x.2.2.1 x.1 x.2.1).2,())
theorem ap_(x):M.le (XG H.A0.sh x) (A3 x):=M.bj λh=>by
 obtain⟨m,v,d,⟨⟩⟩:=x;obtain⟨ar,h1,h2⟩:=h;unfold XG;rw[M.bf,show H.A0.sh (d.2,m,v)=M.pure (H.nR d.2 m v) from M.bE ⟨ar.h',h1,h2⟩ _,M.aE];unfold qn;by_cases e:(H.nR d.2 m v).2=0<;>simp[e]
theorem PG{d:aV}(ar:cU d)(m:List H.aT)(v:z1')(h1:m.length<2 ^ 63)(h2:v.length<2 ^ 63):A3 (m,v,d,())=M.pure ((qn d m v).1,(qn d m v).2,()):=M.bE ⟨ar,h1,h2⟩ _
theorem ap'(x):M.le (XF A3 x) (shD 5 Pj x):=M.bj λh=>by
 obtain⟨l,d,⟨⟩⟩:=x;obtain⟨ar,ah⟩:cU d/\dZ _ l:=h;unfold XF;simp (disch:=decide) only [nc ah,M.bf,mY,mZ,m_,m',na,nb];rw[PG ar _ _ (by simp) (by simp),M.aE];rfl
theorem aqa(x):M.le (XH A3 x) (shD 4 Pk x):=M.bj λh=>by
 obtain⟨l,d,⟨⟩⟩:=x;obtain⟨ar,ah⟩:cU d/\dZ _ l:=h;unfold XH;simp (disch:=decide) only [nc ah,M.bf,mY,mZ,m_,m',na,nb];rw[PG ar _ _ (by simp) (by simp),M.aE];rfl
theorem NX(x):M.le (XI A3 x) (shD 1 Pl x):=M.bj λh=>by
 obtain⟨l,d,⟨⟩⟩:=x;obtain⟨ar,ah⟩:cU d/\dZ _ l:=h;unfold XI;rw[PG ar _ _ (by simp) (show l.length<2 ^ 63 by have:=ah.Iz;omega),M.aE];rfl
theorem aqb(x):M.le (XJ H.Hq.sh yg.sh x) (shD 1 Pm x):=M.bj λh=>by
 obtain⟨l,d,⟨⟩⟩:=x;obtain⟨ar,ah⟩:cU d/\dZ _ l:=h;unfold XJ;simp (disch:=decide) only [nc ah,M.bf,mY,mZ,m_,m',na,nb];rw[show H.Hq.sh (d.2,bc l 0)=M.pure _ from M.bE ar.gr _];simp only[M.iC,M.fg,M.bf,IB];rfl
theorem aqc(x):M.le (XN H.Hs.sh yg.sh x) (shD 1 Pn x):=M.bj λh=>by
 obtain⟨l,d,⟨⟩⟩:=x;obtain⟨ar,ah⟩:cU d/\dZ _ l:=h;unfold XN;simp (disch:=decide) only [nc ah,M.bf,mY,mZ,m_,m',na,nb];rw[show H.Hs.sh (d.2,bc l 0)=M.pure _ from M.bE ar.gr _];simp only[M.iC,M.fg,M.bf,IB];rfl
theorem aqd(x):M.le (XO H.Hu.sh yg.sh x) (shD 1 Po x):=M.bj λh=>by
 obtain⟨l,d,⟨⟩⟩:=x;obtain⟨ar,ah⟩:cU d/\dZ _ l:=h;unfold XO;simp (disch:=decide) only [nc ah,M.bf,mY,mZ,m_,m',na,nb];rw[show H.Hu.sh (d.2,bc l 0)=M.pure _ from M.bE ar.gr _];simp only[M.iC,M.fg,M.bf,IB];rfl
theorem aqe(x):M.le (XP H.Hw.sh yg.sh x) (shD 1 Pp x):=M.bj λh=>by
 obtain⟨l,d,⟨⟩⟩:=x;obtain⟨ar,ah⟩:cU d/\dZ _ l:=h;unfold XP;simp (disch:=decide) only [nc ah,M.bf,mY,mZ,m_,m',na,nb];rw[show H.Hw.sh (d.2,bc l 0)=M.pure _ from M.bE ar.gr _];simp only[M.iC,M.fg,M.bf,IB];rfl
theorem PH{a b:Int}:(dR a b).length=(b+1 - a).toNat:=by simp[dR];omega
theorem aqf(c:H.aP)(u t:Int):(H.ra c u t).1.length<=101:=Nat.le_trans (List.length_filter_le ..) (by rw[PH];decide)
theorem aqg{c:H.aP}{u t:Int}(h:(H.ra c u t).2=0):0<(H.ra c u t).1.length:=by
 unfold H.ra at h ⊢;rcases H.Aw c (H.vo u t) with⟨h1,_⟩ | ⟨h1,h2,h3,aQ⟩
 ·omega
 ·have az:=H.oy h2;have cn:(0<=u/\u<=9)/\0<=t/\t<=9999:=by
   unfold H.vo at h3;rw[Bool.and_eq_true,H.ou,H.ou]at h3;exact h3
  have dX:H.ct c≠[]:=by
   intro he;unfold H.ef at h1;grind
  obtain⟨w,T,hT⟩:=List.exists_cons_of_ne_nil dX;have hw:H.iA c w=true:=H.vs (by grind);have an:=H.Xv az hw cn.1 t;have aa:-1<=H.k5 c w u t/\H.k5 c w u t<=99:=by
   rcases H.Of c w u t with h | ⟨s,hs,h⟩
   ·omega
   ·rw[h];obtain⟨e,he,rfl⟩:=List.mem_map.1 hs;have:=H.Oc az (List.mem_filter.1 he).1;omega
  refine List.length_pos_of_mem (a:=H.k5 c w u t) (List.mem_filter.2 ⟨qa.2 aa,?_⟩);rw[List.contains_iff_mem];unfold H.NR;grind
theorem aqh(x):M.le (XQ H.Hx.sh qo.sh yf.sh x) (shD 2 Pr x):=M.bj λh=>by
 obtain⟨l,d,⟨⟩⟩:=x;obtain⟨ar,ah⟩:cU d/\dZ _ l:=h;unfold XQ;simp (disch:=decide) only [nc ah,M.bf,mY,mZ,m_,m',na,nb];have h1:=aqf d.2 (bc l 0) (bc l 1);have h2:=aqg (c:=d.2) (u:=bc l 0) (t:=bc l 1);have hc:H.Hx.sh (d.2,bc l 0,bc l 1)=M.pure (H.ra d.2 (bc l 0) (bc l 1)):=M.bE ar.gr _;simp only[hc];show _=M.pure (Pq (H.ra d.2 (bc l 0) (bc l 1)),d,());generalize H.ra d.2 (bc l 0) (bc l 1)=r at *
 simp only[M.iC,M.fg,M.bf];rw[M.bn (λaa=>⟨⟨aa,trivial⟩,⟨by decide,by grind⟩,trivial⟩),yh (by omega),M.aE];unfold Pq;by_cases e:(decide (r.2≠0)||decide (r.1.getD 0 0>=0))=true
 ·grind
 ·rw[if_neg e,if_neg e];have e0:r.2=0:=by grind
  have hp:=h2 e0;by_cases e1:r.1.length=1
  ·grind
  ·rw[if_neg (by grind),if_neg e1];rw[M.bn ⟨by decide,by grind,Int.le_refl _⟩];have ph:List.take (Int.ofNat r.1.length).toNat r.1=r.1:=by simp
   rw[ph];rw[PF (by grind),M.aE];have lr:=PE (r.1.drop 1);rw[M.bn (hr (by grind))];rfl
theorem aqi(c:H.aP)(t:Int):(H.so c t).1.length<=10/\(H.so c t).2.1.length<=10:=by
 unfold H.so;split
 ·simp
 ·exact⟨Nat.le_trans (List.length_filter_le ..) (by rw[PH];decide),Nat.le_trans (List.length_filter_le ..) (by rw[PH];decide)⟩
theorem aqj(x):M.le (XR H.Hy.sh qo.sh yf.sh x) (shD 1 Pt x):=M.bj λh=>by
 obtain⟨l,d,⟨⟩⟩:=x;obtain⟨ar,ah⟩:cU d/\dZ _ l:=h;unfold XR;simp (disch:=decide) only [nc ah,M.bf,mY,mZ,m_,m',na,nb];have h1:=aqi d.2 (bc l 0);have hc:H.Hy.sh (d.2,bc l 0)=M.pure (H.so d.2 (bc l 0)):=M.bE ar.gr _;simp only[hc];show _=M.pure (Ps (H.so d.2 (bc l 0)),d,());generalize H.so d.2 (bc l 0)=r at *
 simp only[M.iC,M.fg,M.bf];rw[yh (by simp),PF (by omega),PF (by omega)];have eD:=PE r.1;have nU:=PE r.2.1;unfold Ps;by_cases e:r.2.2=0
 ·simp only[M.aE];rw[M.bn (hr (by grind)),M.bn (hr (by grind))];simp[e]
 ·simp[e]
theorem aqk(w:bb)(i m k:Int):0<=ua w i m k/\ua w i m k<4:=by
 unfold ua HG;grind
theorem aql(x):M.le (XT AI.sh qo.sh x) (shD 3 Pu x):=M.bj λh=>by
 obtain⟨l,d,⟨⟩⟩:=x;obtain⟨ar,ah⟩:cU d/\dZ _ l:=h;unfold XT;simp (disch:=decide) only [nc ah,M.bf,mY,mZ,m_,m',na,nb];have hc:AI.sh (d.1.1,bc l 0,bc l 1,bc l 2)=M.pure (qk d.1.1 (bc l 0) (bc l 1) (bc l 2)):=M.bE ar.gz.1 _;simp only[hc];show _=M.pure (uf (qk d.1.1 (bc l 0) (bc l 1) (bc l 2)),d,());have h1:0<=(qk d.1.1 (bc l 0) (bc l 1) (bc l 2)).1/\(qk d.1.1 (bc l 0) (bc l 1) (bc l 2)).1<4:=by
  have:=aqk d.1.1 (bc l 0) (bc l 1) (bc l 2);unfold qk;grind
 generalize qk d.1.1 (bc l 0) (bc l 1) (bc l 2)=r at *
 simp only[M.iC,M.fg,M.bf];rw[yh (by simp),M.bn ⟨h1.1,h1.2⟩];unfold uf;by_cases e:r.2=0<;>simp[e]
theorem aqm{s:bq}(h:lL s)(w:Int):(ui s w).1.length<=2000:=by
 have:=h.H0;unfold ui Za;grind
theorem aqn(x):M.le (X1 Ii.sh qo.sh x) (shD 1 Py x):=M.bj λh=>by
 obtain⟨l,d,⟨⟩⟩:=x;obtain⟨ar,ah⟩:cU d/\dZ _ l:=h;unfold X1;simp (disch:=decide) only [nc ah,M.bf,mY,mZ,m_,m',na,nb];rw[show Ii.sh (d.1,bc l 0)=M.pure (ui d.1 (bc l 0)) from M.bE ar.gz _];have:=aqm ar.val (bc l 0);simp only[M.iC,M.fg,M.bf];rw[yh (show (ui d.1 (bc l 0)).1.length<=60000 by omega),M.aE];rfl
def IC(x:z1'×Unit):M (z1'×Unit):=M.dt (x.1.length<=3000000) x
theorem aqo(x):M.le (X2 Ij.sh IC qo.sh x) (shD 0 Pz x):=M.bj λh=>by
 obtain⟨l,d,⟨⟩⟩:=x;obtain⟨ar,ah⟩:cU d/\dZ _ l:=h;have aj:=ah.Iz;change l.length<=10000 at aj;unfold X2;rw[show IC (l,())=M.pure (l,()) from M.bE (by grind) _,M.aE];rw[M.gn l (λi (o:z1')=>((l.length:Int),(i:Int),o++l.drop i,d,())) (λn o=>.next (o++[n - 1])) (λo=>.next (o,d,())) (λi o=>o.length=i) [] ?_ rfl ?_ ?_]
 ·rw[dV,xz,List.nil_append,M.aE,M.bL,M.bf];rw[show Ij.sh (d.1,l.map (· - 1))=M.pure (AY d.1 (l.map (· - 1))) from M.bE ⟨ar.gz,by grind⟩ _,M.aE,yh (by simp),M.aE];rfl
 ·simp
 ·intro i E o af;have hw:=bo (n:=(i:Int)+1) (by omega) (by omega);have ax:=ah.num l[i] (by simp);have gA:=bo (n:=l[i] - 1) (by omega) (by omega);subst af;have b1:o.length<(o++l.drop o.length).length:=by grind
  have az:(o++l.drop o.length)[o.length]=l[o.length]:=by simp
  have hs:(o++l.drop o.length).set o.length (l[o.length] - 1)=o++[l[o.length] - 1]++l.drop (o.length+1):=by
   rw[List.set_append_right _ _ (Nat.le_refl _),Nat.sub_self,List.drop_eq_getElem_cons E,List.set_cons_zero,List.append_assoc];rfl
  refine⟨?_,λaZ cY=>?_⟩
  ·simp only[bH,cH E,if_true,cv b1,M.bf,b8,hw];rw[show (o++l.drop o.length).getD (Int.toNat (o.length:Int)) 0=l[o.length] by grind,gA,Int.toNat_natCast,hs];rfl
  ·grind
 simp
theorem aqp(x):M.le (X3 If.sh qo.sh x) (shD 0 PA x):=M.bj λh=>by
 obtain⟨l,d,⟨⟩⟩:=x;obtain⟨ar,ah⟩:cU d/\dZ _ l:=h;unfold X3;rw[M.bf,show If.sh d.1=M.pure (ya d.1 true) from M.bE ar.gz _,M.aE,yh (by simp),M.aE];rfl
theorem aqq(x):M.le (X4 Ih.sh qo.sh x) (shD 0 PB x):=M.bj λh=>by
 obtain⟨l,d,⟨⟩⟩:=x;obtain⟨ar,ah⟩:cU d/\dZ _ l:=h;unfold X4;rw[M.bf,show Ih.sh d.1=M.pure (AX d.1) from M.bE ar.gz _,M.aE,yh (by simp),M.aE];rfl
def PI{ai:Type}(x:List ai×Unit):M (List ai×Unit):=M.bind (M.any λ(b:Bool)=>b=true->x.1=[]) λ(y:Bool)=>if y=true then M.pure ([],()) else M.ae (bX (Add.add 0 (List.length x.1))) (M.pure ([]++x.1,()))
abbrev fv(t:ad):aJ:=⟨.slice t,.slice t,λx=>x.length<=3000000,λx=>x⟩
def qp{ai:Type}(x:List ai×Unit):M (List ai×Unit):=M.dt (x.1.length<=3000000) x
theorem vZ{ai:Type}(x:List ai×Unit):M.le (PI x) (qp x):=M.r_ λh=>by
 unfold PI;rw[M.fF];refine⟨⟨false,by simp⟩,λb aa=>?_⟩;change b=true->x.1=[]at aa;obtain⟨l,⟨⟩⟩:=x;cases b with
 | true=>rw[show l=[] from aa rfl];exact M.dC.2 rfl
 | false=>
  simp only[Bool.false_eq_true,if_false];exact M.ko.2 ⟨by change l.length<=3000000 at h;simp only[j1,bX];omega,M.dC.2 (by simp)⟩
theorem aqr(x:z1'×Unit):M.le (PI x) (IC x):=vZ x
def Zr{ai:Type}(z:ai)(x:Int×Int×List ai×Unit):M ((Nat×Nat)×List ai×Unit):=
 M.ae (0<=x.1/\x.1<=x.2.1/\x.2.1<=Int.ofNat (List.length x.2.2.1)/\Int.ofNat (List.length x.2.2.1)<=Int.ofNat (List.length x.2.2.1)) (if decide
 (x.1=x.2.1)=true then M.pure ((0,List.length x.2.2.1),x.2.2.1,()) else M.ae ((0:Int)<=0/\0<=x.1/\x.1<=Int.ofNat (List.length x.2.2.1))
 (M.ae (0<=x.2.1/\x.2.1<=Int.ofNat (List.length x.2.2.1)/\Int.ofNat (List.length x.2.2.1)<=Int.ofNat (List.length x.2.2.1)) (M.ae (Add.add
 (Int.toNat x.1) (List.length (List.drop (Int.toNat x.2.1) (List.take (Int.toNat (Int.ofNat (List.length x.2.2.1))) x.2.2.1)))<=List.length x.2.2.1)
 (M.ae (0<=Int.ofNat (Add.add (Int.toNat x.1) (List.length (List.drop (Int.toNat x.2.1) (List.take (Int.toNat (Int.ofNat (List.length x.2.2.1)))
 x.2.2.1))) - Int.toNat 0)/\Int.ofNat (Add.add (Int.toNat x.1) (List.length (List.drop (Int.toNat x.2.1) (List.take (Int.toNat (Int.ofNat (List.length
 x.2.2.1))) x.2.2.1))) - Int.toNat 0)<=Int.ofNat (List.length x.2.2.1)/\Int.ofNat (List.length x.2.2.1)<=Int.ofNat (List.length (List.take
 (Int.toNat x.1) x.2.2.1++List.drop (Int.toNat x.2.1) (List.take (Int.toNat (Int.ofNat (List.length x.2.2.1))) x.2.2.1)++List.drop (Add.add
 (Int.toNat x.1) (List.length (List.drop (Int.toNat x.2.1) (List.take (Int.toNat (Int.ofNat (List.length x.2.2.1))) x.2.2.1)))) x.2.2.1) - Int.toNat
 0)) (M.ae True (M.pure ((Int.toNat 0,Add.add (Int.toNat x.1) (List.length (List.drop (Int.toNat x.2.1) (List.take (Int.toNat (Int.ofNat (List.length
 x.2.2.1))) x.2.2.1)))),List.take (Add.add (Int.toNat 0) (Int.toNat (Int.ofNat (Add.add (Int.toNat x.1) (List.length (List.drop (Int.toNat x.2.1)
 (List.take (Int.toNat (Int.ofNat (List.length x.2.2.1))) x.2.2.1))) - Int.toNat 0)))) (List.take (Int.toNat x.1) x.2.2.1++List.drop (Int.toNat
 x.2.1) (List.take (Int.toNat (Int.ofNat (List.length x.2.2.1))) x.2.2.1)++List.drop (Add.add (Int.toNat x.1) (List.length (List.drop (Int.toNat
 x.2.1) (List.take (Int.toNat (Int.ofNat (List.length x.2.2.1))) x.2.2.1)))) x.2.2.1)++List.replicate (Add.add (Int.toNat 0) (Int.toNat (Int.ofNat
 (List.length x.2.2.1))) - Add.add (Int.toNat 0) (Int.toNat (Int.ofNat (Add.add (Int.toNat x.1) (List.length (List.drop (Int.toNat x.2.1) (List.take
 (Int.toNat (Int.ofNat (List.length x.2.2.1))) x.2.2.1))) - Int.toNat 0)))) z++List.drop (Add.add (Add.add (Int.toNat 0) (Int.toNat (Int.ofNat
 (Add.add (Int.toNat x.1) (List.length (List.drop (Int.toNat x.2.1) (List.take (Int.toNat (Int.ofNat (List.length x.2.2.1))) x.2.2.1))) - Int.toNat
 0)))) (List.length (List.replicate (Add.add (Int.toNat 0) (Int.toNat (Int.ofNat (List.length x.2.2.1))) - Add.add (Int.toNat 0) (Int.toNat (Int.ofNat
 (Add.add (Int.toNat x.1) (List.length (List.drop (Int.toNat x.2.1) (List.take (Int.toNat (Int.ofNat (List.length x.2.2.1))) x.2.2.1))) - Int.toNat
 0)))) z))) (List.take (Int.toNat x.1) x.2.2.1++List.drop (Int.toNat x.2.1) (List.take (Int.toNat (Int.ofNat (List.length x.2.2.1))) x.2.2.1)++
 List.drop (Add.add (Int.toNat x.1) (List.length (List.drop (Int.toNat x.2.1) (List.take (Int.toNat (Int.ofNat (List.length x.2.2.1))) x.2.2.1))))
 x.2.2.1),())))))))
def ID{ai:Type}(z:ai)(x:Int×Int×List ai×Unit):M ((Nat×Nat)×List ai×Unit):=M.dt (0<=x.1/\x.2.1=x.1+1/\x.1<(x.2.2.1.length:Int)/\x.2.2.1.length<=3000000) ((0,x.2.2.1.length - 1),x.2.2.1.eraseIdx x.1.toNat++[z],())
theorem aqs{ai:Type}(z:ai)(x):M.le (Zr z x) (ID z x):=M.bj λh=>by
 obtain⟨i,j,l,⟨⟩⟩:=x;obtain⟨h0,h1,h2,h3⟩:0<=i/\j=i+1/\i<(l.length:Int)/\l.length<=3000000:=h;subst h1;obtain⟨n,rfl⟩:∃ n:Nat,i=n:=⟨i.toNat,by omega⟩
 have ax:n<l.length:=by omega
 have e1:((n:Int)+1).toNat=n+1:=by omega
 unfold Zr;simp only[bH,Int.toNat_natCast,e1,List.take_length,j1,Int.toNat_zero,Nat.sub_zero,Nat.zero_add,List.length_drop];have e2:n+(l.length - (n+1))=l.length - 1:=by omega
 have e3:(l.take n++l.drop (n+1)++l.drop (l.length - 1))=l.eraseIdx n++l.drop (l.length - 1):=by rw[List.eraseIdx_eq_take_drop_succ]
 have e4:(l.eraseIdx n).length=l.length - 1:=by rw[List.length_eraseIdx_of_lt ax]
 have dD:l.length - (l.length - 1)=1:=by omega
 rw[M.bn (by omega),if_neg (by simp;omega),M.bn (by omega),M.bn (by omega),M.bn (by omega)];rw[e2,e3,M.bn (by simp[e4]),M.bf];show _=M.pure ((0,l.length - 1),l.eraseIdx n++[z],());have kK:(l.eraseIdx n++l.drop (l.length - 1)).take (l.length - 1)=l.eraseIdx n:=by rw[List.take_append_of_le_length (by omega),List.take_of_length_le (by omega)]
 have sZ:(l.eraseIdx n++l.drop (l.length - 1)).drop l.length=[]:=List.drop_eq_nil_of_le (by simp[e4]);simp only[dD,kK,List.replicate_one,List.length_cons,List.length_nil,Nat.zero_add];rw[show l.length - 1+1=l.length by omega,sZ,List.append_nil]
def v7(x:bq×Unit):M vu:=M.dt (Eb x.1) (iz x.1)
theorem IE{x:z1'}(h:x.length<=2000000):H.fcClone.sh x=M.pure x:=M.bE (by show List.length x<=3000000;omega) _
theorem yi{t:ad}{x:(ad.slice t).ag}(h:List.length x<=2000000):(fv t).sh x=M.pure x:=M.bE (by show List.length x<=3000000;omega) _
theorem Zs{fX:Type}{s:bq}(h:Eb s)(fin:bq->M fX):HC (fv kl).sh (fv kG).sh (fv jH).sh qp H.fcClone.sh (fv mQ).sh (fv tWi).sh (fv pw).sh s fin=fin s:=by
 obtain⟨⟨b2,cF,eA,An⟩,h2,h3,aQ,bu,cW,fK⟩:=h;obtain⟨⟨sp,mk,cut,tr⟩,st,jL,wi,de,iI⟩:=s;change sp.length<=2000000 at b2;change mk.length<=2000000 at cF;change tr.length<=2000000 at eA;change ∀ m∈mk,m.length<=2000000/\∀ s∈m,s.2.1.length<=2000000 at An;change st.length<=2000000 at h2;change jL.length<=2000000 at h3;change wi.length<=2000000 at aQ;change de.length<=2000000 at bu;change ∀ p∈jL,p.2.2.2.2.length<=2000000 at cW;change ∀ p∈wi,p.1.length<=2000000 at fK;have aM:(fv kl).sh sp=M.pure sp:=yi b2;have aO:(fv kG).sh mk=M.pure mk:=yi cF;have bz:(fv jH).sh tr=M.pure tr:=yi eA;have f':H.fcClone.sh st=M.pure st:=IE h2;have oV:(fv mQ).sh jL=M.pure jL:=yi h3;have xd:(fv tWi).sh wi=M.pure wi:=yi aQ;have Gz:(fv pw).sh de=M.pure de:=yi bu;unfold HC;simp only[aM,aO,bz,M.iC,M.fg,M.bf];rw[M.dm mk (λi (_:Unit)=>((mk.length:Int),(i:Int),cut,st,jL,wi,de,iI,0,0,sp,mk,tr,())) (λp b=>.next b) (λ_=>.next (cut,st,jL,wi,de,iI,0,0,sp,mk,tr,())) () ?_ ?_ ?_]
 ·rw[dV,M.aE,M.bL];simp only[f',oV,xd,Gz,M.iC,M.fg,M.bf];rw[M.dm jL (λi (_:Unit)=>((jL.length:Int),(i:Int),cut,iI,0,0,sp,mk,tr,st,jL,wi,de,())) (λp b=>.next b) (λ_=>.next (cut,iI,0,0,sp,mk,tr,st,jL,wi,de,())) () ?_ ?_ ?_]
  ·rw[dV,M.aE,M.bL];rw[M.dm wi (λi (_:Unit)=>((wi.length:Int),(i:Int),cut,iI,0,0,sp,mk,tr,st,jL,wi,de,())) (λp b=>.next b) (λ_=>.next (cut,iI,0,0,sp,mk,tr,st,jL,wi,de,())) () ?_ ?_ ?_]
   ·rw[dV,M.aE,M.bL]
   ·rfl
   ·intro i E b;have hw:=bo (n:=(i:Int)+1) (by omega) (by omega);have hc:H.fcClone.sh wi[i].1=M.pure wi[i].1:=IE (fK _ (List.getElem_mem E));have oR:wi.set i (wi[i].1,wi[i].2)=wi:=List.set_getElem_self E;simp only[bH,cH E,if_true,cZ E,cv E,M.bf,b8,hw];simp only[hc,M.iC,M.fg,M.bf,Int.toNat_natCast,oR];rfl
   ·simp
  ·rfl
  ·intro i E b;have hw:=bo (n:=(i:Int)+1) (by omega) (by omega);have hc:H.fcClone.sh jL[i].2.2.2.2=M.pure jL[i].2.2.2.2:=IE (cW _ (List.getElem_mem E));have oR:jL.set i (jL[i].1,jL[i].2.1,jL[i].2.2.1,jL[i].2.2.2.1,jL[i].2.2.2.2)=jL:=List.set_getElem_self E;simp only[bH,cH E,if_true,cZ E,cv E,M.bf,b8,hw];simp only[hc,M.iC,M.fg,M.bf,Int.toNat_natCast,oR];rfl
  ·simp
 ·rfl
 ·intro i E b;have hw:=bo (n:=(i:Int)+1) (by omega) (by omega);obtain⟨aj,hs⟩:=An _ (List.getElem_mem E);have hc:qp (mk[i],())=M.pure (mk[i],()):=M.bE (by show mk[i].length<=3000000;omega) _;have aqt:mk.set i mk[i]=mk:=List.set_getElem_self E;simp only[bH,cH E,if_true,cZ E,cv E,M.bf,b8,hc,M.aE];simp only[Int.toNat_natCast];rw[M.dm mk[i] (λj (_:Unit)=>(i,(mk.length:Int),(i:Int),(mk[i].length:Int),(j:Int),cut,st,jL,wi,de,iI,0,0,sp,(mk,i),tr,mk[i],())) (λp b=>.next b) (λ_=>.next ((mk.length:Int),(i:Int),cut,st,jL,wi,de,iI,0,0,sp,(mk,i),tr,mk[i],())) () ?_ ?_ ?_]
  ·rw[dV,M.aE,M.bL];simp only[hw,aqt];rfl
  ·rfl
  ·intro j aB b;have hw:=bo (n:=(j:Int)+1) (by omega) (by omega);have hc:H.fcClone.sh mk[i][j].2.1=M.pure mk[i][j].2.1:=IE (hs _ (List.getElem_mem aB));have oR:mk[i].set j (mk[i][j].1,mk[i][j].2.1,mk[i][j].2.2)=mk[i]:=List.set_getElem_self aB;simp only[Prod.cI,Prod.e6,Prod.gp,bH,cH aB,if_true,cZ aB,cv aB,M.bf,b8,hw];simp only[hc,M.iC,M.fg,M.bf,Int.toNat_natCast,oR];rfl
  ·simp
 ·simp
theorem sClo(x):M.le (amO (fv kl).sh (fv kG).sh (fv jH).sh qp H.fcClone.sh (fv mQ).sh (fv tWi).sh (fv pw).sh x) (v7 x):=M.bj λh=>Zs h _
abbrev IF:aJ:=⟨lK,lK,Eb,λs=>s⟩
theorem aqu(x):M.le (amN (fv kl).sh (fv kG).sh (fv jH).sh qp H.fcClone.sh (fv mQ).sh (fv tWi).sh (fv pw).sh x) (IF.sh x):=M.bj λh=>Zs h _
def v8(x:bq×aV×Unit):M (aN×aV×Unit):=M.dt (cU x.2.1/\e' x.1) ((me x.2.1 x.1).1,(me x.2.1 x.1).2,())
theorem aqv(x):M.le (XV py.sh x) (v8 x):=M.bj λh=>by
 obtain⟨s,d,⟨⟩⟩:=x;obtain⟨ar,hs⟩:cU d/\e' s:=h;unfold XV;rw[show py.sh s=M.pure (iR s) from M.bE hs _,M.aE];show _=M.pure ((me d s).1,(me d s).2,());unfold me;by_cases e:iR s=0<;>simp[e]
theorem aqw{d:aV}(ar:cU d){s:bq}(hs:e' s):v8 (s,d,())=M.pure ((me d s).1,(me d s).2,()):=M.bE ⟨ar,hs⟩ _
theorem IG{d:aV}(ar:cU d)(s:bq)(hs:e' s):M.bind (v8 (s,d,())) (λy=>M.pure (y.1,y.2.1,()))=M.pure ((me d s).1,(me d s).2,()):=by rw[aqw ar hs,M.aE]
theorem cU.copy{d:aV}(h:cU d):Eb d.1:=apA h.val
theorem Ef{d:aV}(h:cU d):v7 (d.1,())=M.pure (iz d.1):=M.bE h.copy _
theorem aqx(x):M.le (XS xY.sh v7 hH.sh x) (shD 4 vT x):=M.bj λh=>by
 obtain⟨l,d,⟨⟩⟩:=x;obtain⟨ar,ah⟩:cU d/\dZ _ l:=h;have hc:=ar.copy;have hs:gu (mX d.1.1 (bc l 0,bc l 1,bc l 2,bc l 3)):=⟨ar.gz.1.1,ar.gz.1.2.1,by have:=hc.1.2.2.1;simp only[mX,List.length_append,List.length_cons,List.length_nil];omega,ar.gz.1.2.2.2⟩
 unfold XS;rw[M.bf,Ef ar,M.aE];simp (disch:=decide) only [nc ah,M.bf,mY,mZ,m_,m',na,nb];rw[M.bn (by have:=hc.1.2.2.1;simp only[j1,bX,iz];omega)];show M.bind (hH.sh (mX d.1.1 (bc l 0,bc l 1,bc l 2,bc l 3))) _=M.pure ((vT d l).1,(vT d l).2,());rw[show hH.sh (mX d.1.1 (bc l 0,bc l 1,bc l 2,bc l 3))=M.pure (cr (mX d.1.1 (bc l 0,bc l 1,bc l 2,bc l 3))) from M.bE hs _,M.aE];have hlen:xY.sh (mX d.1.1 (bc l 0,bc l 1,bc l 2,bc l 3),bc l 0)=M.pure (vD (mX d.1.1 (bc l 0,bc l 1,bc l 2,bc l 3)) (bc l 0)):=M.bE hs _;have BW:xY.sh (((iz d.1).1,(iz d.1).2.1,(iz d.1).2.2.1,(iz d.1).2.2.2.2.1++[(bc l 0,bc l 1,bc l 2,bc l 3)]),bc l 0)=M.pure (vD (mX d.1.1 (bc l 0,bc l 1,bc l 2,bc l 3)) (bc l 0)):=hlen;simp only[BW,M.iC,M.fg,M.bf];unfold vT;by_cases e:cr (mX d.1.1 (bc l 0,bc l 1,bc l 2,bc l 3))=0
 ·by_cases e2:(vD (mX d.1.1 (bc l 0,bc l 1,bc l 2,bc l 3)) (bc l 0)).2=0
  ·simp only[e,e2,ne_eq,not_true_eq_false,decide_false,Bool.false_eq_true,if_false];rfl
  grind
 grind
theorem aqy(x):M.le (XU v7 v8 x) (shD 2 vU x):=M.bj λh=>by
 obtain⟨l,d,⟨⟩⟩:=x;obtain⟨ar,ah⟩:cU d/\dZ _ l:=h;have hc:=ar.copy;unfold XU;rw[M.bf,Ef ar,M.aE];simp (disch:=decide) only [nc ah,M.bf,mY,mZ,m_,m',na,nb];show _=M.pure ((vU d l).1,(vU d l).2,());unfold vU;have h0:=ah.bc 0;have h1:=ah.bc 1;by_cases e:bc l 0>=(d.1.2.1.length:Int)
 ·rw[if_pos (by simpa [iz]using e),if_pos e]
 ·rw[if_neg (by simpa [iz]using e),if_neg e];have ax:(bc l 0).toNat<d.1.2.1.length:=by omega
  rw[M.bn ⟨h0.1,by show bc l 0<(d.1.2.1.length:Int);omega⟩,M.bn ⟨h0.1,by show bc l 0<(d.1.2.1.length:Int);omega⟩];have hv:∀ n∈d.1.2.1,0<=n/\n<=10:=λn ax=>by
   have:=ar.val.sr.2;have fy:=ar.yd;unfold iR at fy;grind [mR,bK]
  have aa:=hv _ (List.getElem_mem ax);have az:d.1.2.1.getD (bc l 0).toNat 0=d.1.2.1[(bc l 0).toNat]:=by grind
  have hw:=bo (n:=d.1.2.1.getD (bc l 0).toNat 0+bc l 1) (by omega) (by omega);have gA:IntKind.wrap .i64 (Add.add ((iz d.1).2.2.2.2.2.1.getD (bc l 0).toNat 0) (bc l 1))=d.1.2.1.getD (bc l 0).toNat 0+bc l 1:=hw;rw[gA];exact IG ar (d.1.1,d.1.2.1.set (bc l 0).toNat (d.1.2.1.getD (bc l 0).toNat 0+bc l 1),d.1.2.2) ⟨ar.gz.1,by show (List.set d.1.2.1 _ _).length<_;rw[List.length_set];exact ar.gz.2.1,ar.gz.2.2⟩
theorem aqz(x):M.le (XW v7 v8 x) (shD 3 Pv x):=M.bj λh=>by
 obtain⟨l,d,⟨⟩⟩:=x;obtain⟨ar,ah⟩:cU d/\dZ _ l:=h;have hc:=ar.copy;have bu:=hc.2.2.2.2.1;obtain⟨ea,dq,ee,ob,sG,sH,sI⟩:=ar.gz;unfold XW;rw[M.bf,Ef ar,M.aE];simp (disch:=decide) only [nc ah,M.bf,mY,mZ,m_,m',na,nb];rw[M.bn (by simp only[j1,bX,iz];omega)];exact IG ar (d.1.1,d.1.2.1,d.1.2.2.1,d.1.2.2.2.1,d.1.2.2.2.2.1++[(bc l 0,bc l 1,bc l 2)],d.1.2.2.2.2.2) ⟨ea,dq,ee,ob,by grind,sH,sI⟩
theorem aqA(x):M.le (XX v7 v8 x) (shD 4 Pw x):=M.bj λh=>by
 obtain⟨l,d,⟨⟩⟩:=x;obtain⟨ar,ah⟩:cU d/\dZ _ l:=h;have hc:=ar.copy;have bu:=hc.2.2.1;have aj:=ah.Iz;have hle:4<=l.length:=ah.PD;obtain⟨ea,dq,ee,ob,sG,sH,sI⟩:=ar.gz;unfold XX;rw[M.bf,Ef ar,M.aE];simp (disch:=decide) only [nc ah,M.bf,mY,mZ,m_,m',na,nb];rw[M.bn ⟨by decide,by grind,Int.le_refl _⟩,M.bn (by simp only[j1,bX,iz];omega)];simp only[bH,Int.toNat_natCast,List.take_length];exact IG ar (d.1.1,d.1.2.1,d.1.2.2.1++[(bc l 0,bc l 1,bc l 2,bc l 3,l.drop 4)],d.1.2.2.2) ⟨ea,dq,by grind,ob,sG,λp hp=>by
  grind,sI⟩
theorem aqB(x):M.le (XY v7 v8 x) (shD 5 Px x):=M.bj λh=>by
 obtain⟨l,d,⟨⟩⟩:=x;obtain⟨ar,ah⟩:cU d/\dZ _ l:=h;have hc:=ar.copy;have bu:=hc.2.2.2.1;have aj:=ah.Iz;have hle:5<=l.length:=ah.PD;obtain⟨ea,dq,ee,ob,sG,sH,sI⟩:=ar.gz;unfold XY;rw[M.bf,Ef ar,M.aE];simp (disch:=decide) only [nc ah,M.bf,mY,mZ,m_,m',na,nb];rw[M.bn ⟨by decide,by grind,Int.le_refl _⟩,M.bn (by simp only[j1,bX,iz];omega)];simp only[bH,Int.toNat_natCast,List.take_length];exact IG ar (d.1.1,d.1.2.1,d.1.2.2.1,d.1.2.2.2.1++[(l.drop 5,(bc l 0,bc l 1),bc l 2,bc l 3,bc l 4)],d.1.2.2.2.2) ⟨ea,dq,ee,by grind,sG,sH,λp hp=>by
  grind⟩
abbrev IH:dp:=([],(0,0),0,0,0)
theorem aqC(x):M.le (XZ (fv tWi).sh (ID IH) x) (shD 1 vV x):=M.bj λh=>by
 obtain⟨l,d,⟨⟩⟩:=x;obtain⟨ar,ah⟩:cU d/\dZ _ l:=h;have hc:=ar.copy.2.2.2.1;have h0:=ah.bc 0;unfold XZ;simp (disch:=decide) only [nc ah,M.bf,mY,mZ,m_,m',na,nb];show _=M.pure ((vV d l).1,(vV d l).2,());unfold vV;by_cases e:bc l 0>=(d.1.2.2.2.1.length:Int)
 ·grind
 ·rw[if_neg (by grind),if_neg e];have lk:(fv tWi).sh d.1.2.2.2.1=M.pure d.1.2.2.2.1:=yi hc;have hw:=bo (n:=bc l 0+1) (by omega) (by omega);simp only[lk,M.iC,M.fg,M.bf,b8,hw];rw[show ID IH (bc l 0,bc l 0+1,d.1.2.2.2.1,())=M.pure _ from M.bE ⟨h0.1,rfl,by grind,by grind⟩ _,M.aE];grind
theorem PJ{c:H.aP}{m:List H.aT}{v:z1'}(h:(H.nR c m v).2=0):H.cr c=0/\H.cr (H.nR c m v).1=0/\(H.nR c m v).1=H.mW c (H.eO (c.2.1++m)) (H.mV c.2.2.1 v):=by
 unfold H.nR at h ⊢;split at h
 ·omega
 split at h
 ·omega
 split at h
 ·omega
 split at h
 ·omega
 rename_i bT a2 a3 a4;rw[if_neg bT,if_neg a2,if_neg a3,if_neg a4];have dr:H.cr c=0:=by omega
 have eC:H.cr (H.mW c m v)=0:=by omega
 refine⟨dr,?_,rfl⟩;have g1:H.jE c=true:=by unfold H.cr at dr;grind
 have dP:H.jE (H.mW c m v)=true:=by unfold H.cr at eC;grind
 have ax:H.kE (H.eO (c.2.1++m))=false:=by
  rw[H.Ag];have:=(H.Ag (c.2.1++m)).1 (by grind);exact λa aU b aa=>this a (H.Ak aU) b (H.Ak aa)
 have lv:H.jE (H.mW c (H.eO (c.2.1++m)) (H.mV c.2.2.1 v))=true:=by
  unfold H.jE H.si at g1 dP ⊢;simp only[Bool.and_eq_true,List.all_eq_true,Bool.not_eq_true',Bool.or_eq_false_iff,H.mW]at g1 dP ⊢;obtain⟨⟨⟨⟨⟨⟨⟨⟨n1,z2⟩,z3⟩,z4⟩,z5⟩,aM⟩,aO⟩,bz⟩,f'⟩:=g1;obtain⟨⟨⟨⟨_,_⟩,aqD⟩,axk⟩,_⟩:=dP;simp only[Bool.or_eq_true,not_or,bH,Bool.not_eq_true]at a4;refine⟨⟨⟨⟨⟨⟨⟨⟨n1,a4.1⟩,a4.2⟩,z4⟩,z5⟩,aM⟩,λs hs=>?_⟩,λn ax=>?_⟩,f'⟩
  ·rcases List.mem_append.1 (H.Ak hs) with h | h
   ·exact aO s h
   ·exact aqD s h
  ·have:=(List.mem_filter.1 ax).2;grind
 unfold H.cr;rw[if_pos lv,if_neg (by show ¬H.kE (H.eO (c.2.1++m))=true;grind)]
theorem PK{d:aV}(ar:cU d)(m:List H.aT)(v:z1'):cU (qn d m v).2:=by
 unfold qn;split
 ·exact ar
 ·rename_i h;obtain⟨h1,h2,h3⟩:=PJ (c:=d.2) (m:=m) (v:=v) (by omega);exact⟨ar.gz,ar.yd,h2,by rw[h3];exact ar.A2⟩
theorem II{d:aV}(ar:cU d){s:bq}(hs:e' s):cU (me d s).2:=by
 unfold me;split
 ·exact ar
 ·rename_i h;exact⟨hs,by grind,ar.ye,ar.A2⟩
theorem aqE{d:aV}(ar:cU d){l:z1'}(ah:l.length<=10000)(j:Nat):cU (vW j d l).2:=by
 have hc:=ar.copy;obtain⟨ea,dq,ee,ob,sG,sH,sI⟩:=ar.gz;obtain⟨c1,c2,c3,c4,c5,lj,n0⟩:=ar.copy;unfold vW;split<;>try exact ar
 ·exact PK ar _ _
 ·exact PK ar _ _
 ·exact PK ar _ _
 ·unfold vT;split
  ·exact ar
  split
  ·exact ar
  rename_i h _;have h:cr (mX d.1.1 (bc l 0,bc l 1,bc l 2,bc l 3))=0:=by omega
  refine⟨⟨⟨ea.1,ea.2.1,by have:=hc.1.2.2.1;simp only[mX,List.length_append,List.length_cons,List.length_nil];omega,ea.2.2.2⟩,dq,ee,ob,sG,sH,sI⟩,?_,ar.ye,ar.A2⟩;have hs:=ar.yd;unfold iR at hs ⊢;rw[if_neg (by omega)];have:mR (mX d.1.1 (bc l 0,bc l 1,bc l 2,bc l 3),d.1.2)=mR d.1:=rfl;grind
 ·unfold vU;split
  ·exact ar
  ·exact II ar ⟨ea,by grind,ee,ob,sG,sH,sI⟩
 ·exact II ar ⟨ea,dq,ee,ob,by grind,sH,sI⟩
 ·exact II ar ⟨ea,dq,by grind,ob,sG,λp hp=>by
   grind,sI⟩
 ·exact II ar ⟨ea,dq,ee,by grind,sG,sH,λp hp=>by
   grind⟩
 ·unfold vV;split
  ·exact ar
  ·refine⟨⟨ea,dq,ee,by grind,sG,sH,λp hp=>sI p (List.mem_of_mem_eraseIdx hp)⟩,?_,ar.ye,ar.A2⟩;have hs:=ar.yd;unfold iR at hs ⊢;split at hs
   ·omega
   ·rename_i uy;rw[if_neg uy];split at hs
    ·rename_i hv;rw[if_pos];unfold mR at hv ⊢;simp only[Bool.and_eq_true,List.all_eq_true,decide_eq_true_eq]at hv ⊢;obtain⟨⟨⟨⟨⟨⟨⟨⟨c8,q2⟩,q3⟩,ud⟩,cI⟩,e6⟩,gp⟩,h9⟩,jC⟩:=hv;exact⟨⟨⟨⟨⟨⟨⟨⟨c8,q2⟩,q3⟩,ud⟩,by grind⟩,λx hx=>e6 x (List.mem_of_mem_eraseIdx hx)⟩,gp⟩,h9⟩,jC⟩
    omega
theorem Zt:∀ (s:aN) (n k:Nat),n<10 ^ k->k+s.length<=18->0<=fJ s n->Go.Lib.parseUint10 n s=.ok (fJ s n).toNat
 | [],n,k,_,_,_=>by rfl
 | c::s,n,k,h1,h2,h3=>by
  unfold fJ at h3 ⊢;split at h3
  ·omega
  ·rename_i hc;rw[if_neg hc];simp only[Bool.or_eq_true,decide_eq_true_eq,not_or]at hc;have Gt:48<=c.toNat/\c.toNat<=57:=by omega
   have an:(10:Nat) ^ (k+1)<=10 ^ 18:=Nat.pow_le_pow_right (by decide) (by grind);have Ww:(10:Nat) ^ (k+1)=10 ^ k*10:=Nat.pow_succ ..;have e:10*(n:Int)+((c.toNat:Int) - 48)=((n*10+(c.toNat - 48):Nat):Int):=by omega
   rw[e]at h3 ⊢;unfold Go.Lib.parseUint10;rw[if_pos Gt,if_neg (by omega),if_neg (by omega)];exact Zt s _ (k+1) (by omega) (by grind) h3
theorem PL{s:aN}(h:0<=eW s):Go.Lib.atoiAll s=.ok (eW s):=by
 unfold eW at h ⊢;split at h
 ·omega
 ·rename_i aa;rw[if_neg aa];simp only[Bool.or_eq_true,decide_eq_true_eq,not_or]at aa;obtain⟨⟨h0,cW⟩,_⟩:=aa;cases s with
  | nil=>grind
  | cons c r=>
   have hp:=Zt (c::r) 0 0 (by decide) (by omega) h;have ah:=Pf (c::r) 0 0 (by decide) (by decide);have fS:(10:Int) ^ (0+(c::r).length)<=10 ^ 6:=by
    have:=Nat.pow_le_pow_right (n:=10) (by decide) (show 0+(c::r).length<=6 by omega);grind
   have ar:¬(decide ((c.toNat:Int)<48)||decide ((c.toNat:Int) > 57))=true:=by
    intro hc;unfold fJ at h;grind
   simp only[Bool.or_eq_true,decide_eq_true_eq,not_or]at ar;unfold Go.Lib.atoiAll;simp only;rw[if_neg (by omega)];unfold Go.Lib.parseMag;grind
theorem aqF{s:aN}(h:0<=eW s):sF s=eW s:=by
 unfold sF;rw[PL h]
abbrev Eg:aJ:=⟨.str,.aw (.int .i64) .bool,λx=>x.length<=10000,qP⟩
abbrev IJ:aJ:=⟨.aw .str .str,sE,λx=>x.1.length<=10000/\x.2=[32],λx=>cJ x.1⟩
abbrev aqG:ad:=.st (.aw tI (.aw .bool .dM))
def IK:List (aN×Int×Bool)->Nat->List (aN×AB)
 | [],_=>[]
 | p::l,i=>(p.1,p.2.1,p.2.2,some (119+i))::IK l (i+1)
def v_:List (aN×AB):=IK k_ 0
abbrev IL:aJ:=⟨.cx,.map .str aqG,λ_=>True,λ_=>v_⟩
theorem aqH(x):M.le (amr x) (IL.sh x):=M.bj λ_=>congrArg M.pure (show _=v_ by decide +kernel)
theorem Zu(w:aN):∀ (l:List (aN×Int×Bool)) (i:Nat),((IK l i).find? λp=>decide (w=p.1)).map (λx=>x.2)=(pA w l i).map λr=>(r.1,r.2.1,some (119+r.2.2))
 | [],_=>rfl
 | p::l,i=>by
  unfold IK pA;rw[List.find?_cons];by_cases h:w=p.1
  ·simp[h]
  ·simp[h,Zu w l (i+1)]
theorem Zv{w:aN}:∀ {l:List (aN×Int×Bool)} {i:Nat} {r:Int×Bool×Nat},pA w l i=some r->i<=r.2.2/\r.2.2<i+l.length/\l[r.2.2 - i]?=some (w,r.1,r.2.1)
 | [],_,_,h=>by simp[pA]at h
 | p::l,i,r,h=>by
  unfold pA at h;split at h
  ·grind
  ·have:=Zv h;grind
def IM(j:Nat):Nat:=(k_.getD j ([],0,false)).2.1.toNat
def Eh(k:Nat):z1'×aV×Unit->M (aN×aV×Unit):=shD (IM (k - 119)) (vW (k - 119))
theorem aqI:∀ p∈k_,0<=p.2.1:=by decide
def IN(x:List (aN×AB)×aN×aV×Unit):M (aN×aV×Unit):=M.dt (x.1=v_/\x.2.1.length<=10000/\cU x.2.2.1) ((mf x.2.2.1 x.2.1).1,(mf x.2.2.1 x.2.1).2,())
theorem aqJ{l:List aN}(h:l.all (λw=>decide (0<=eW w))=true):l.map sF=l.map eW:=List.map_congr_left λw hw=>aqF (by grind)
theorem Zw{aD:Type}(r:aD)(fin:z1'->aD):∀ (l:List aN) (b:z1'),eB (λw b=>if (!decide (0<=eW w))=true then .done r else .next (b++[sF w])) fin l b=if l.all (λw=>decide (0<=eW w))=true then fin (b++l.map sF) else r
 | [],b=>by simp[eB]
 | w::l,b=>by
  unfold eB;rw[List.all_cons,List.map_cons];cases h:decide (0<=eW w) with
  | true=>
   simp only[Bool.not_true,Bool.false_eq_true,if_false,Bool.true_and];rw[Zw r fin l,List.append_assoc];rfl
  | false=>rfl
theorem aqK(x):M.le (XE IJ.sh Eg.sh Eh x) (IN x):=M.bj λh=>by
 obtain⟨aqL,s,d,⟨⟩⟩:=x;obtain⟨hv,hs,ar⟩:aqL=v_/\s.length<=10000/\cU d:=h;subst hv;unfold XE;show _=M.pure ((mf d s).1,(mf d s).2,());rw[show IJ.sh (s,[32])=M.pure (cJ s) from M.bE ⟨hs,rfl⟩ _,M.aE];have ah:=vS s;rw[M.bn ⟨by decide,by grind⟩];have aq:((v_.find? λp=>decide ((cJ s).getD (Int.toNat 0) []=p.1)).map λx=>x.2)=(pA ((cJ s).getD 0 []) k_ 0).map λr=>(r.1,r.2.1,some (119+r.2.2)):=Zu _ _ _;have hw:=bo (n:=((cJ s).length:Int) - 1) (by omega) (by omega);simp only[aq,bH,hw];unfold mf PC;cases FT:pA ((cJ s).getD 0 []) k_ 0 with
 | none=>simp
 | some r=>
  obtain⟨k,m,j⟩:=r;obtain⟨_,aB,an⟩:=Zv FT;simp only[Option.map_some,Option.isSome_some,Option.getD_some,Bool.not_true,Bool.false_or];by_cases aa:(decide (((cJ s).length:Int) - 1<k)||decide (((cJ s).length:Int) - 1 > k)&&!m)=true
  ·grind
  ·rw[if_neg aa,if_neg aa];rw[M.bn ⟨by decide,by omega,Int.le_refl _⟩];simp only[Int.toNat_natCast,List.take_length,show Int.toNat 1=1 from rfl];have uJ:((cJ s).drop 1).length=(cJ s).length - 1:=by simp
   rw[M.gn ((cJ s).drop 1) (λi (o:z1')=>((cJ s).drop 1,(((cJ s).drop 1).length:Int),(i:Int),(k,m,some (119+j)),o,d,())) (λw o=>if (!decide (0<=eW w))=true then .done (.done ([63],d,())) else .next (o++[sF w])) (λo=>.next ((k,m,some (119+j)),o,d,())) (λi o=>o.length=i) [] ?_ rfl ?_ ?_]
   ·rw[Zw,M.aE];unfold Pg;by_cases aU:((cJ s).drop 1).all (λw=>decide (0<=eW w))=true
    ·rw[if_pos aU,if_pos aU,M.bL,aqJ aU,List.nil_append];rw[M.bn]
     ·have yD:0<=k:=aqI _ (List.mem_of_getElem? an);have b1:IM j=k.toNat:=by
       unfold IM;grind
      have cn:dZ (IM j) (((cJ s).drop 1).map eW):=by
       simp only[Bool.or_eq_true,decide_eq_true_eq,not_or]at aa;refine⟨by grind,by grind,λn ax=>?_⟩;obtain⟨w,hw,rfl⟩:=List.mem_map.1 ax;have:=List.all_eq_true.1 aU w hw;exact⟨by grind,(ap2 w).2⟩
      have axl:Eh (119+j) (((cJ s).drop 1).map eW,d,())=M.pure ((vW j d (((cJ s).drop 1).map eW)).1,(vW j d (((cJ s).drop 1).map eW)).2,()):=by
       unfold Eh;rw[show 119+j - 119=j by omega];exact M.bE ⟨ar,cn⟩ _
      simp_all
     ·have:j<20:=by simpa [k_]using aB
      exact⟨119+j,by
       have e:∀ j:Fin 20,(119+j.val)∈[119,120,121,122,123,124,125,126,127,128,129,130,131,132,133,134,135,136,137,138]:=by decide
       exact e ⟨j,this⟩,rfl⟩
    ·rw[if_neg aU,if_neg aU];rfl
   ·rfl
   ·intro i E o af;have hw:=bo (n:=(i:Int)+1) (by omega) (by omega);refine⟨?_,λaZ cY=>?_⟩
    ·simp only[cH E,if_true,cZ E,cv E,M.bf,b8,hw];rw[show Eg.sh ((cJ s).drop 1)[i]=M.pure (qP ((cJ s).drop 1)[i]) from M.bE (Nat.le_trans (Zk s (List.mem_of_mem_drop (List.getElem_mem E))) hs) _,M.aE];unfold qP;by_cases ax:0<=eW ((cJ s).drop 1)[i]
     ·simp only[ax,decide_true,Bool.not_true,Bool.false_eq_true,if_false];rw[M.bn (hr (by grind))];rfl
     simp_all
    grind
   simp
theorem Zx{d:aV}(ar:cU d){s:aN}(hs:s.length<=10000):cU (mf d s).2:=by
 unfold mf;split
 ·exact ar
 ·rename_i j l hp;refine aqE ar ?_ j;unfold PC at hp;split at hp
  ·grind
  ·split at hp
   ·grind
   ·unfold Pg at hp;have:=vS s;grind
abbrev oG:aJ:=⟨vR,.int .i64,λd=>e' d.1/\H.h' d.2,ji⟩
theorem aqM(x):M.le (XB py.sh H.hH.sh x) (oG.sh x):=M.bj λh=>by
 obtain⟨h1,h2⟩:e' x.1/\H.h' x.2:=h;unfold XB;rw[show py.sh x.1=M.pure (iR x.1) from M.bE h1 _,M.aE,show H.hH.sh x.2=M.pure (H.cr x.2) from M.bE h2 _,M.ki,M.aE];show _=M.pure (ji x);unfold ji;grind
theorem aqN{l:List H.aT}{k:Int}(an:0<=k/\k<=99):(H.eO l).find? (λs=>s.1 == k)=l.find? λs=>s.1 == k:=by
 have ax:=H.N1 l;have aj:∀ s,l.find? (λs=>s.1 == k)=some s->s∈H.eO l:=λs hs=>List.mem_filterMap.2 ⟨k,qa.2 an,hs⟩;cases h:l.find? (λs=>s.1 == k) with
 | none=>
  rw[List.find?_eq_none]at h ⊢;exact λs hs=>h s (H.Ak hs)
 | some s=>
  have hs:=aj s h;have he:s.1=k:=by grind
  cases h2:(H.eO l).find? (λs=>s.1 == k) with
  | none=>
   grind
  | some t=>
   have aF:=List.mem_of_find?_eq_some h2;have axm:t.1=k:=by grind
   have hp:(H.eO l).Pairwise λa b=>a.1≠b.1:=by
    grind
   by_cases fB:t=s
   ·rw[fB]
   ·exfalso;have key:∀ (L:List H.aT),L.Pairwise (λa b=>a.1≠b.1)->t∈L->s∈L->t=s:=by
     intro L hU h1 h2;induction L with
     | nil=>grind
     | cons a L aG=>
      rw[List.pairwise_cons]at hU;grind
    grind
theorem Zy{ai β:Type}{f g:ai->Option β}:∀ (l:List ai),(∀ a∈l,f a=g a)->l.filterMap f=l.filterMap g
 | [],_=>rfl
 | a::l,h=>by
  rw[List.filterMap_cons,List.filterMap_cons,h a (by simp),Zy l λb aa=>h b (by grind)]
theorem Zz(l:List H.aT):H.eO (H.eO l)=H.eO l:=by
 conv=>lhs;unfold H.eO
 conv=>rhs;unfold H.eO
 exact Zy _ λk an=>aqN (qa.1 an)
theorem ZA(a b:z1'):H.mV (H.mV a b) []=H.mV a b:=by
 unfold H.mV;refine List.filter_congr λk an=>?_;grind
theorem aqO(l:List H.aT):(H.eO l).length<=l.length:=by
 have qJ:(H.eO l).map (·.1) ⊆ l.map (·.1):=by
  intro x hx;obtain⟨s,hs,rfl⟩:=List.mem_map.1 hx;exact List.mem_map_of_mem (H.Ak hs)
 have:=(H.N1 l).length_le_of_subset qJ;grind
theorem aqP(l:z1'):(H.mV l []).length<=l.length:=by
 unfold H.mV;have ax:((dR 0 99).filter λid=>l.contains id||List.contains [] id).Nodup:=((H.Zi 0 99).imp λh=>by omega:(dR 0 99).Nodup).filter _;refine ax.length_le_of_subset λx hx=>?_;grind
theorem ZB{c:H.aP}(h:H.cr c=0):H.nR c [] []=(H.mW c (H.eO c.2.1) (H.mV c.2.2.1 []),0):=by
 have E:=H.Ix h;have g:H.jE c=true:=by unfold H.cr at h;grind
 have h2:H.cr (H.mW c [] [])=0:=by
  have:H.jE (H.mW c [] [])=true:=by
   unfold H.jE H.si at g ⊢;simp only[Bool.and_eq_true,List.all_eq_true,Bool.not_eq_true',Bool.or_eq_false_iff,H.mW]at g ⊢;grind
  unfold H.cr;rw[if_pos this];rfl
 have eD:=aqO c.2.1;have nU:=aqP c.2.2.1;have dI:=E.dI;have js:=E.js;unfold H.nR;rw[if_neg (by simp[h]),if_neg (by omega),List.append_nil,if_neg (by rw[E.cl];decide),if_neg];grind
structure pB(d:aV):Prop where
 IP:H.eO d.2.2.1=d.2.2.1
 IQ:H.mV d.2.2.2.1 []=d.2.2.2.1
theorem PM{d:aV}(h:cU d):g_ d=(d.1,H.mW d.2 (H.eO d.2.2.1) (H.mV d.2.2.2.1 [])):=by
 unfold g_;rw[ZB h.ye]
theorem ZC{d:aV}(h:cU d):cU (g_ d):=by
 have:=PJ (c:=d.2) (m:=[]) (v:=[]) (by rw[ZB h.ye]);exact⟨h.gz,h.yd,this.2.1,by rw[PM h];exact h.A2⟩
theorem aqQ{d:aV}(h:cU d):pB (g_ d):=by
 rw[PM h];exact⟨Zz _,ZA _ _⟩
theorem aqR{d:aV}(h:cU d)(ax:pB d):g_ d=d:=by
 rw[PM h,ax.IP,ax.IQ];rfl
theorem PN{d:aV}(ax:pB d)(m:List H.aT)(v:z1'):pB (qn d m v).2:=by
 unfold qn;split
 ·exact ax
 ·rename_i h;obtain⟨h1,h2,h3⟩:=PJ (c:=d.2) (m:=m) (v:=v) (by omega);rw[h3];exact⟨Zz _,ZA _ _⟩
theorem aqS{d:aV}(ax:pB d)(l:z1')(j:Nat):pB (vW j d l).2:=by
 have aF:∀ s:bq,pB (me d s).2:=λs=>by
  unfold me;split
  ·exact ax
  ·exact⟨ax.IP,ax.IQ⟩
 unfold vW;split<;>try exact ax
 ·exact PN ax _ _
 ·exact PN ax _ _
 ·exact PN ax _ _
 ·unfold vT;split
  ·exact ax
  split
  ·exact ax
  ·exact⟨ax.IP,ax.IQ⟩
 ·unfold vU;grind
 ·exact aF _
 ·exact aF _
 ·exact aF _
 ·unfold vV;split
  ·exact ax
  ·exact⟨ax.IP,ax.IQ⟩
theorem aqT{d:aV}(ax:pB d)(s:aN):pB (mf d s).2:=by
 unfold mf;split
 ·exact ax
 ·exact aqS ax _ _
theorem PO{p:aV->Prop}{q:aN->Prop}(hp:∀ d s,p d->q s->p (mf d s).2):∀ (l:List aN) (d:aV),p d->(∀ s∈l,q s)->p (gI d l).2
 | [],d,h,_=>h
 | s::l,d,h,bd=>PO hp l _ (hp d s h (bd s (by simp))) λt aF=>bd t (by grind)
theorem ZD{d:aV}(h:cU d){l:List aN}(ah:∀ s∈l,s.length<=10000):cU (gI d l).2:=PO (p:=cU) (λd s h hs=>Zx h hs) l d h ah
theorem aqU{d:aV}(h:pB d)(l:List aN):pB (gI d l).2:=PO (p:=pB) (q:=λ_=>True) (λd s h _=>aqT h s) l d h λ_ _=>trivial
def tT(x:aV×Unit):M (aV×Unit):=M.dt (cU x.1) (g_ x.1,())
theorem NW(x):M.le (XC H.A0.sh IF.sh x) (tT x):=M.bj λh=>by
 obtain⟨d,⟨⟩⟩:=x;have h:cU d:=h;unfold XC;rw[show H.A0.sh (d.2,[],[])=M.pure (H.nR d.2 [] []) from M.bE ⟨h.h',by simp,by simp⟩ _,M.aE];rw[show IF.sh d.1=M.pure d.1 from M.bE h.copy _];simp only[M.iC,M.fg,M.bf];rfl
abbrev ZE(x:aV×List aN):Prop:=e' x.1.1/\H.gr x.1.2/\x.2.length<2 ^ 63/\∀ s∈x.2,s.length<=10000
theorem ZF{d:aV}(h1:e' d.1)(h2:H.gr d.2)(h:ji d=0):cU d:=by
 unfold ji at h;split at h
 ·omega
 ·rename_i aa;simp only[Bool.or_eq_true,decide_eq_true_eq,not_or,ne_eq,Decidable.not_not]at aa;exact⟨h1,aa.1,aa.2,h2.2 aa.2⟩
abbrev sJ:aJ:=⟨.aw vR sE,.aw sE (.aw vR (.int .i64)),ZE,λx=>vY x.1 x.2⟩
theorem ZG:∀ (l:List aN) (o:List aN) (d:aV),l.foldl (λ(p:List aN×aV) s=>(p.1++[(mf p.2 s).1],(mf p.2 s).2)) (o,d)=(o++(gI d l).1,(gI d l).2)
 | [],o,d=>by simp[gI]
 | s::l,o,d=>by
  rw[List.foldl_cons,ZG l];simp[gI]
theorem aqV(x):M.le (XA oG.sh tT IL.sh IN x) (sJ.sh x):=M.bj λh=>by
 obtain⟨d,l⟩:=x;obtain⟨h1,h2,h3,aQ⟩:ZE (d,l):=h;unfold XA;show _=M.pure (vY d l);unfold vY;rw[show oG.sh d=M.pure (ji d) from M.bE ⟨h1,h2.gz⟩ _,M.aE];by_cases e:ji d=0
 ·rw[if_neg (show ¬decide (ji d≠0)=true by grind),if_neg (show ¬ji d≠0 by omega)];have ar:=ZF h1 h2 e;by_cases e2:l.length > 40
  ·grind
  ·rw[if_neg (show ¬decide (Int.ofNat l.length > 40)=true by grind),if_neg e2];rw[show tT (d,())=M.pure (g_ d,()) from M.bE ar _,M.aE,show IL.sh ()=M.pure v_ from rfl,M.aE];rw[M.gn l (λi (p:List aN×aV)=>(v_,l,(l.length:Int),(i:Int),p.1,0,0,0,0,0,0,0,0,0,p.2,())) (λs p=>.next (p.1++[(mf p.2 s).1],(mf p.2 s).2)) (λp=>.next (p.1,0,0,0,0,0,0,0,0,0,p.2,())) (λi p=>cU p.2/\p.1.length=i) ([],g_ d) ?_ ⟨ZC ar,rfl⟩ ?_ ?_]
   ·rw[dV,ZG,M.aE,M.bL,M.bf,List.nil_append]
   ·rfl
   ·rintro i E ⟨o,uz⟩ ⟨wv,af⟩;have hw:=bo (n:=(i:Int)+1) (by omega) (by omega);have hs:=aQ _ (List.getElem_mem E);change cU uz at wv;change o.length=i at af;refine⟨?_,λaZ cY=>?_⟩
    ·simp only[bH,cH E,if_true,cZ E,cv E,M.bf,b8,hw];rw[show IN (v_,l[i],uz,())=M.pure _ from M.bE ⟨rfl,hs,wv⟩ _,M.aE,M.bn (hr (by grind))];rfl
    ·simp only[V.next.injEq]at cY;subst cY;exact⟨Zx wv hs,by grind⟩
   simp
 grind
end Go.Fer.W
namespace Go.Fer.W
open M (V)
def oH:aV:=(AZ,[(0,0)],[],[],[],10,30,100,500,1000,2000,300)
def ZH(aqW:Unit->M bq)(x:Unit):M aV:=M.bind (aqW ()) λy=>M.pure (y,[(0,0)],[],[],[],10,30,100,500,1000,2000,300)
abbrev IS:aJ:=⟨.cx,vR,λ_=>True,λ_=>oH⟩
theorem aqX(x):M.le (ZH Il.sh x) (IS.sh x):=M.bj λ_=>by
 unfold ZH;rw[show Il.sh ()=M.pure AZ from rfl,M.aE];rfl
def o6:List aN:=[[108,101,110,100,32,49,32,48,32,49,48,48,32,51,32,55],[98,97,99,107,32,50,32,48,32,49,55,49,32,51],[102,101,101,32,49],[119,104,101,114,101,32,51,32,49,55,49],[116,114,105,97,108,32,49,32,48,32,48,32,48],[115,116,111,99,107,32,48,32,49],[101,120,116,114,97],[100,114,111,112,32,51],[101,120,116,114,97]]
def IT:List aN:=[[111,107],[111,107],[51,48,48,32,51,48,48],[115,104,111,112],[108,105,97,114],[111,107],[49],[111,107],[48]]
theorem aqY:ji oH=0:=by decide +kernel
theorem PQ:(gI (g_ oH) o6).1=IT/\(gI (g_ oH) o6).2.2.2.1.length=2/\(gI (g_ oH) o6).2.1.2.2.2.1.length=3:=by decide +kernel
end Go.Fer.W
namespace Go.Fer.W
open M (V)
open H (hr)
theorem aqZ(x):M.le (Xz H.hH.sh py.sh x) (oG.sh x):=M.bj λh=>by
 obtain⟨h1,h2⟩:e' x.1/\H.h' x.2:=h;unfold Xz;rw[show py.sh x.1=M.pure (iR x.1) from M.bE h1 _,M.aE,show H.hH.sh x.2=M.pure (H.cr x.2) from M.bE h2 _,M.ki,M.aE];show _=M.pure (ji x);unfold ji;grind
theorem ZI(c:UInt8):c.1.1.1=c.toNat:=rfl
theorem aq0{n:Int}(h:0<=n)(h2:n<=255):IntKind.wrap .u8 n=n:=by
 show (if (false&&decide (n % 2 ^ 8>=(2 ^ (8 - 1):Int)))=true then n % 2 ^ 8 - 2 ^ 8 else n % 2 ^ 8)=n;grind
theorem PR{ai β aD:Type}{p:ai->Bool}{r:aD}{g:ai->β->β}{fin:β->aD}:∀ (l:List ai) (b:β),eB (λx b=>if p x=true then .done r else .next (g x b)) fin l b=if l.any p=true then r else fin (l.foldl (λb x=>g x b) b)
 | [],b=>rfl
 | x::l,b=>by
  unfold eB;rw[List.any_cons,List.foldl_cons];cases h:p x with
  | true=>rfl
  | false=>
   simp only[Bool.false_eq_true,if_false,Bool.false_or];exact PR l (g x b)
def yj(c:UInt8):Bool:=decide ((c.toNat:Int)<48)||decide ((c.toNat:Int) > 57)
theorem aq1(c:UInt8)(s:aN)(n:Int):fJ (c::s) n=if yj c=true then -1 else fJ s (10*n+((c.toNat:Int) - 48)):=rfl
theorem ZJ{aD:Type}{r:aD}{fin:Int->aD}:∀ (s:aN) (n:Int),0<=n->eB (λc n=>if yj c=true then .done r else .next (10*n+((c.toNat:Int) - 48))) fin s n=if fJ s n=-1 then r else fin (fJ s n)
 | [],n,h=>by
  show fin n=if n=-1 then r else fin n
  grind
 | c::s,n,h=>by
  rw[aq1];unfold eB;by_cases hc:yj c=true
  ·grind
  ·have oe:=hc;unfold yj at oe;simp only[Bool.or_eq_true,decide_eq_true_eq,not_or]at oe;simp only[hc];exact ZJ s _ (by omega)
abbrev IU:aJ:=⟨.str,.int .i64,λ_=>True,eW⟩
theorem aq2(x):M.le (Yb x) (IU.sh x):=M.bj λ_=>by
 unfold Yb;show _=M.pure (eW x);unfold eW;simp only[bH,ZI,show Int.toNat 0=0 from rfl];rw[M.bn (λaa=>⟨⟨aa,trivial⟩,⟨Int.le_refl _,by grind⟩,trivial⟩)];have e:(decide ((x.length:Int)=0)||decide ((x.length:Int) > 6)||decide ((x.length:Int) > 1)&&decide (((x.getD 0 0).toNat:Int)=48))=(decide (x.length=0)||decide (x.length > 6)||decide (x.length > 1)&&decide ((x.getD 0 0).toNat=48)):=by
  grind
 rw[e];by_cases aa:(decide (x.length=0)||decide (x.length > 6)||decide (x.length > 1)&&decide ((x.getD 0 0).toNat=48))=true
 ·grind
 ·rw[if_neg aa,if_neg aa];have cW:x.length<=6:=by
   grind
  rw[M.gn x (λi (n:Int)=>(x,n,(i:Int),())) (λc n=>if yj c=true then .done (.done (-1)) else .next (10*n+((c.toNat:Int) - 48))) (λn=>.next (n,())) (λi n=>0<=n/\n<10 ^ i) 0 ?_ ⟨Int.le_refl _,by decide⟩ ?_ ?_]
  ·rw[ZJ _ _ (Int.le_refl _),M.aE];by_cases ar:fJ x 0=-1
   ·rw[if_pos ar,ar];rfl
   ·rw[if_neg ar];rfl
  ·rfl
  ·rintro i E n ⟨h0,h1⟩;have hw:=bo (n:=(i:Int)+1) (by omega) (by omega);have hp:(10:Int) ^ i<=10 ^ 5:=by
    have:=Nat.pow_le_pow_right (n:=10) (by decide) (show i<=5 by omega);grind
   have xh:(10:Int) ^ (i+1)=10 ^ i*10:=Int.pow_succ ..;refine⟨?_,λaZ cY=>?_⟩
   ·simp only[cH E,if_true,cZ E,cv E,M.bf,b8,hw];rw[M.bn (λh=>⟨⟨h,h⟩,trivial,trivial⟩)];by_cases hc:yj x[i]=true
    ·rw[if_pos hc];have oe:(decide ((x[i].toNat:Int)<48)||decide ((x[i].toNat:Int) > 57))=true:=hc;simp_all
    ·rw[if_neg hc];have oe:¬(decide ((x[i].toNat:Int)<48)||decide ((x[i].toNat:Int) > 57))=true:=hc;rw[if_neg oe];simp only[Bool.or_eq_true,decide_eq_true_eq,not_or]at oe;rw[aq0 (by omega) (by omega),bo (n:=(x[i].toNat:Int) - 48) (by omega) (by omega),bo (n:=10*n) (by omega) (by omega),bo (n:=10*n+((x[i].toNat:Int) - 48)) (by omega) (by omega)];rfl
   ·split at cY
    ·grind
    ·rename_i hc;unfold yj at hc;grind
  simp
def A4(o:List aN)(c:UInt8):List aN:=if c=32 then o++[[]] else o.set (o.length - 1) (o.getD (o.length - 1) []++[c])
theorem PS:∀ (s:aN) (o:List aN) (w:aN),s.foldl A4 (o++[w])=o++(match cJ s with | []=>[w] | v::l=>(w++v)::l)
 | [],o,w=>by simp[cJ]
 | c::s,o,w=>by
  rw[List.foldl_cons];unfold cJ;by_cases hc:c=32
  ·rw[if_pos hc,show A4 (o++[w]) c=o++[w]++[[]] from if_pos hc];have:=PS s (o++[w]) [];rw[this];have ah:=vS s;grind
  ·rw[if_neg hc,show A4 (o++[w]) c=_ from if_neg hc];have e:(o++[w]).set ((o++[w]).length - 1) ((o++[w]).getD ((o++[w]).length - 1) []++[c])=o++[w++[c]]:=by
    simp
   rw[e];have:=PS s o (w++[c]);rw[this];have ah:=vS s;cases h:cJ s with
   | nil=>exact absurd ah.1 (by rw[h];decide)
   | cons v l=>simp
abbrev IV:aJ:=⟨.str,sE,λx=>x.length<=10000,cJ⟩
theorem aq3(x):M.le (Ya x) (IV.sh x):=M.bj λh=>by
 change x.length<=10000 at h;unfold Ya;show _=M.pure (cJ x);rw[M.gn x (λi (o:List aN)=>(x,(i:Int),o,())) (λc o=>.next (A4 o c)) (λo=>.next (o,())) (λi o=>1<=o.length/\o.length<=i+1/\∀ w∈o,w.length<=i) [[]] ?_ ⟨by decide,by decide,by simp⟩ ?_ ?_]
 ·rw[dV,M.aE,M.bL];have:=PS x [] [];rw[List.nil_append]at this;rw[this];have ah:=vS x;grind
 ·rfl
 ·rintro i E o ⟨h1,h2,h3⟩;have hw:=bo (n:=(i:Int)+1) (by omega) (by omega);have gA:=bo (n:=(o.length:Int) - 1) (by omega) (by omega);have e1:((o.length:Int) - 1).toNat=o.length - 1:=by omega
  have e2:((i:Int)+1).toNat=i+1:=by omega
  have aq4:o.length - 1<o.length:=by omega
  have az:o.getD (o.length - 1) []=o[o.length - 1]:=by grind
  have axn:=h3 _ (List.getElem_mem aq4);have ar:(x.take (i+1)).drop i=[x[i]]:=by rw[List.drop_take,List.drop_eq_getElem_cons E,Nat.add_sub_cancel_left];rfl
  refine⟨?_,λaZ cY=>?_⟩
  ·simp only[bH,cH E,if_true,cZ E,cv E,M.bf,b8,hw,gA,e1,ZI];unfold A4;by_cases hc:x[i]=32
   ·have oe:decide ((x[i].toNat:Int)=32)=true:=by simp_all
    rw[if_pos oe,if_pos hc,M.bn (hr (by grind))];simp_all
   ·have oe:¬decide ((x[i].toNat:Int)=32)=true:=by
     intro h;apply hc;simp only[decide_eq_true_eq]at h;exact UInt8.toNat_inj.1 (show x[i].toNat=32 by omega)
    rw[if_neg oe,if_neg hc];rw[M.bn (by omega),M.bn (by omega),e2,Int.toNat_natCast,ar,M.bn (hr (by grind)),M.bn (by omega)];simp_all
  ·simp only[V.next.injEq]at cY;subst cY;unfold A4;grind
 simp
def pC:List aN×z1'×z1':=(k_.map (·.1),k_.map (·.2.1),k_.map λp=>if p.2.2=true then -1 else p.2.1)
abbrev IW:aJ:=⟨.cx,.aw sE (.aw fE fE),λ_=>True,λ_=>pC⟩
theorem aq5(x):M.le (amL x) (IW.sh x):=M.bj λ_=>congrArg M.pure (show _=pC by rfl)
def IX(k:Int)(m:Bool)(n:Nat):Bool:=decide ((n:Int)>=k)&&(decide ((if m=true then -1 else k)<(0:Int))||decide ((n:Int)<=if m=true then -1 else k))
def uk(s:aN):aN×z1'×Bool:=
 if ((cJ s).drop 1).any (λw=>decide (eW w<0))=true then ([],[],false) else
 match pA ((cJ s).getD 0 []) k_ 0 with
 | none=>([],[],false)
 | some (k,m,_)=>((cJ s).getD 0 [],((cJ s).drop 1).map eW,IX k m ((cJ s).drop 1).length)
theorem ZK{aD:Type}{w:aN}{g:Int->Bool->aD}{r:aD}:∀ (l:List (aN×Int×Bool)) (i:Nat),eB (λp (_:Unit)=>if decide (p.1=w)=true then .done (g p.2.1 p.2.2) else .next ()) (λ_=>r) l ()=match pA w l i with | none=>r | some q=>g q.1 q.2.1
 | [],_=>rfl
 | p::l,i=>by
  unfold eB pA;by_cases h:p.1=w
  ·simp[h]
  ·have h2:¬w=p.1:=λe=>h e.symm;simp only[h,decide_false,Bool.false_eq_true,if_false,h2];exact ZK l (i+1)
abbrev IY:aJ:=⟨.str,.aw .str (.aw fE .bool),λx=>x.length<=10000,uk⟩
theorem aq6(x):M.le (X' IV.sh IU.sh IW.sh x) (IY.sh x):=M.bj λh=>by
 change x.length<=10000 at h;unfold X';show _=M.pure (uk x);unfold uk;rw[show IV.sh x=M.pure (cJ x) from M.bE h _,M.aE];have ah:=vS x;have hx:List.length x<=10000:=h;have uJ:((cJ x).drop 1).length=(cJ x).length - 1:=by simp
 rw[M.gn ((cJ x).drop 1) (λi (o:z1')=>(cJ x,((1+i:Nat):Int),o,())) (λw o=>if decide (eW w<0)=true then .done (.done ([],[],false)) else .next (o++[eW w])) (λo=>.next (cJ x,o,())) (λi o=>o.length=i) [] ?_ rfl ?_ ?_]
 ·rw[PR,M.aE];by_cases aU:((cJ x).drop 1).any (λw=>decide (eW w<0))=true
  ·rw[if_pos aU,if_pos aU];rfl
  ·rw[if_neg aU,if_neg aU,M.bL,xz,List.nil_append];rw[show IW.sh ()=M.pure pC from rfl,M.aE];generalize mG:((cJ x).drop 1).map eW=A5;have ax:A5.length=((cJ x).drop 1).length:=by grind
   rw[<-ax];rw[M.gn k_ (λi (_:Unit)=>(cJ x,pC.1,pC.2.1,pC.2.2,(i:Int),A5,())) (λp (_:Unit)=>if decide (p.1=(cJ x).getD 0 [])=true then .done (.done ((cJ x).getD 0 [],A5,IX p.2.1 p.2.2 A5.length)) else .next ()) (λ_=>.next ()) (λ_ _=>True) () ?_ trivial ?_ ?_]
   ·rw[ZK (g:=λk m=>V.done ((cJ x).getD 0 [],A5,IX k m A5.length)) k_ 0,M.aE];cases pA ((cJ x).getD 0 []) k_ 0<;>rfl
   ·rfl
   ·intro i E _ _;have axo:i<20:=E;have hw:=bo (n:=(i:Int)+1) (by omega) (by omega);have eD:i<pC.1.length:=E;have nU:i<pC.2.1.length:=E;have yx:i<pC.2.2.length:=E;have g1:pC.1[i]'eD=(k_[i]'E).1:=List.getElem_map ..;have dP:pC.2.1[i]'nU=(k_[i]'E).2.1:=List.getElem_map ..;have g3:pC.2.2[i]'yx=if (k_[i]'E).2.2=true then -1 else (k_[i]'E).2.1:=List.getElem_map ..
    have hp:((0:Int)<=0/\(0:Int)<((cJ x).length:Int))=True:=eq_true ⟨by decide,by omega⟩;refine⟨?_,λ_ _=>trivial⟩;simp only[bH,cH eD,if_true,cZ eD,cZ nU,cZ yx,cv eD,cv nU,cv yx,hp,M.bf,b8,hw,g1,dP,g3,show Int.toNat 0=0 from rfl];by_cases hc:decide ((k_[i]'E).1=(cJ x).getD 0 [])=true
    ·rw[if_pos hc,if_pos hc];unfold IX;simp_all
    simp_all
   ·intro _ _;simp[pC]
 ·rfl
 ·intro i E o af;have db:1+i<(cJ x).length:=by omega
  have hw:=bo (n:=((1+i:Nat):Int)+1) (by omega) (by omega);have az:(cJ x)[1+i]=((cJ x).drop 1)[i]:=by grind
  refine⟨?_,λaZ cY=>?_⟩
  ·simp only[bH,cH db,if_true,cZ db,cv db,M.bf,b8,hw,az];rw[show IU.sh ((cJ x).drop 1)[i]=M.pure (eW ((cJ x).drop 1)[i]) from rfl,M.aE];by_cases ax:decide (eW ((cJ x).drop 1)[i]<0)=true
   ·simp_all
   ·rw[if_neg ax,if_neg ax,M.bn (hr (by grind))];rfl
  grind
 simp_all
theorem aq7{s:aN}(h:s.length<=10000):IY.sh s=M.pure (uk s):=M.bE h _
end Go.Fer.W
