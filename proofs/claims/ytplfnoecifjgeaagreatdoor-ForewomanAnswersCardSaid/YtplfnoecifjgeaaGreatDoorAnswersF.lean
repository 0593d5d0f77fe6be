/- Part 6 of the proof of Answers: shallow programs of Go functions, and what they compute. No condition. -/
import Derived.Test.YtplfnoecifjgeaaGreatDoorAnswersE
import Derived.Lib.AtoiAll
import Derived.Lib.ItoaLen
import Derived.Lib.Join
noncomputable section
set_option linter.unusedVariables false
set_option linter.unusedSimpArgs false
namespace Go.Fer
open A (V)
def pd(m:z5')(k:Int×Int×Int):Option Int:=Option.map (λx=>x.2) (List.find? (λp=>decide (k.1=p.1.1)&&(decide (k.2.1=p.1.2.1)&&decide (k.2.2=p.1.2.2))) m)
def u6(m:z4')(k:Int):Option Int:=Option.map (λx=>x.2) (List.find? (λp=>decide (k=p.1)) m)
theorem IV{a b:Int×Int×Int}:(decide (a.1=b.1)&&(decide (a.2.1=b.2.1)&&decide (a.2.2=b.2.2)))=decide (a=b):=by
 grind
theorem aoN(k):pd [] k=none:=rfl
theorem Zy(k:Int×Int×Int)(v:Int)(k':Int×Int×Int):∀ m,pd (v_ m k v) k'=if k'=k then some v else pd m k'
 | []=>by
  show pd [(k,v)] k'=_;by_cases h:k'=k<;>simp[pd,IV,h]
 | p::m=>by
  have aI:=Zy k v k' m;show pd (if (decide (k.1=p.1.1)&&(decide (k.2.1=p.1.2.1)&&decide (k.2.2=p.1.2.2)))=true then (p.1,v)::m else p::v_ m k v) k'=_;rw[IV];by_cases h:k=p.1
  ·subst h;by_cases dt:k'=p.1<;>simp[pd,IV,dt]
  ·simp only[h,decide_false,Bool.false_eq_true,if_false];simp only[pd,IV,List.find?_cons]at aI ⊢;grind
theorem Zz(k v k':Int):∀ m,u6 (fa m k v) k'=if k'=k then some v else u6 m k'
 | []=>by
  show u6 [(k,v)] k'=_;by_cases h:k'=k<;>simp[u6,h]
 | p::m=>by
  have aI:=Zz k v k' m;show u6 (if decide (k=p.1)=true then (p.1,v)::m else p::fa m k v) k'=_;by_cases h:k=p.1
  ·subst h;by_cases dt:k'=p.1<;>simp[u6,dt]
  ·simp only[h,decide_false,Bool.false_eq_true,if_false];simp only[u6,List.find?_cons]at aI ⊢;grind
def p9(t:mN):Int×Int×Int:=(t.1,t.2.1,t.2.2.1)
theorem IW{a b:mN}:ny a b=true<->p9 a=p9 b/\a.2.2.2≠b.2.2.2:=by
 simp only[ny,Bool.and_eq_true,decide_eq_true_eq,p9,Prod.mk.injEq];omega
theorem ZA(l:List mN):oe l=true<->l.Pairwise λa b=>ny a b=false:=by
 unfold oe;rw[List.pairwise_iff_getElem];simp only[List.all_eq_true,List.mem_range,Bool.not_eq_true'];grind
def IX(m:z5')(pre:List mN):Prop:=∀ k v,pd m k=some v<->(∃ t∈pre,p9 t=k/\t.2.2.2=v)
def E9(m:z5')(t:mN):Bool:=Option.isSome (pd m (p9 t))&&decide (Option.getD (pd m (p9 t)) 0≠t.2.2.2)
theorem ZB{m pre}(h:IX m pre)(ao:pre.Pairwise λa b=>ny a b=false)(t:mN):E9 m t=true<->∃ a∈pre,ny a t=true:=by
 unfold E9;cases ai:pd m (p9 t) with
 | none=>
  simp only[Option.isSome_none,Bool.false_and,Bool.false_eq_true,false_iff];rintro⟨a,a_,hc⟩;have:=(h (p9 t) a.2.2.2).2 ⟨a,a_,(IW.1 hc).1,rfl⟩;grind
 | some v=>
  simp only[Option.isSome_some,Bool.true_and,Option.getD_some,decide_eq_true_eq];obtain⟨b,W,al,ae⟩:=(h _ _).1 ai;constructor
  ·intro eC;exact⟨b,W,IW.2 ⟨al,by omega⟩⟩
  ·rintro⟨a,a_,hc⟩ rfl;obtain⟨bD,c2⟩:=IW.1 hc;have:=(h (p9 t) a.2.2.2).2 ⟨a,a_,bD,rfl⟩;grind
theorem aoO{m pre}(h:IX m pre){t:mN}(W:∀ a∈pre,ny a t=false):IX (v_ m (p9 t) t.2.2.2) (pre++[t]):=by
 intro k v;rw[Zy];by_cases al:k=p9 t
 ·rw[if_pos al];constructor
  ·grind
  ·rintro⟨a,a_,E,U⟩;rcases List.mem_append.1 a_ with a_ | a_
   ·have hc:=W a a_;have:¬ny a t=true:=by grind
    rw[IW]at this;grind
   grind
 ·rw[if_neg al,h];grind
theorem ZC:∀ (cm:List mN) (m) (pre:List mN),IX m pre->(pre.Pairwise λa b=>ny a b=false)->
  eY (λt m=>if E9 m t=true then (.done (.done 71):V _ (V Unit Int)) else .next (v_ m (p9 t) t.2.2.2)) (λ_=>.next ()) cm m=if oe (pre++cm)=true then .next () else .done 71
 | [],m,pre,h,ao=>by
  have:=(ZA pre).2 ao;simp[eY,this]
 | t::cm,m,pre,h,ao=>by
  simp only[eY];by_cases W:E9 m t=true
  ·simp only[W,if_true];obtain⟨a,a_,hc⟩:=(ZB h ao t).1 W;have:¬oe (pre++t::cm)=true:=by
    rw[ZA,List.pairwise_append];grind
   grind
  ·have aw:∀ a∈pre,ny a t=false:=λa a_=>by
    have:=λhc=>W ((ZB h ao t).2 ⟨a,a_,hc⟩);grind
   simp only[W,Bool.false_eq_true,if_false];have CD:(pre++[t]).Pairwise λa b=>ny a b=false:=by
    grind
   have:=ZC cm _ (pre++[t]) (aoO h aw) CD;grind
theorem aoP(w:bA)(h:hv w):Oc tt.sh w=A.pure (cO w):=by
 have aE:=h;obtain⟨E,U,ag,a7⟩:=h;unfold Oc;simp only[aN.sh,tt,A.dH,A.bu aE];unfold cO;cases hw:k_ w with
 | false=>simp
 | true=>
  simp only[Bool.not_true,Bool.false_eq_true,if_false,if_true];rw[A.eu w.2.2.2 (λi (m:z5')=>(w.2.2.2,(w.2.2.2.length:Int),(i:Int),m,())) (λt m=>if E9 m t=true then (.done (.done 71):V _ (V Unit Int)) else .next (v_ m (p9 t) t.2.2.2)) (λ_=>.next ()) [] ?_ ?_ ?_]
  ·rw[ZC w.2.2.2 [] [] (λk v=>by simp[aoN]) (by simp)];simp only[List.nil_append];by_cases aM:oe w.2.2.2=true<;>simp[aM]
  ·rfl
  ·intro i G m;have h5:=bG (n:=(i:Int)+1) (by omega) (by omega);simp only[bX,cY G,if_true,dm G,cI G,A.bo,A.aG,cp,h5];exact VD (mk:=λm=>(w.2.2.2,(w.2.2.2.length:Int),(i:Int)+1,m,()))
  simp
theorem aoQ(x):A.le (Oc tt.sh x) (h3.sh x):=A.bw λh=>aoP x h
theorem aoR(w:bA)(i n m k:Int)(hw:q8 w)(G:hd w i=true)(hm:iU w m k=true):VX cq.sh o9.sh (w,i,n,m,k)=A.pure (wG w i n m k):=aow w i n m k hw G hm
theorem aoS(x):A.le (VX cq.sh o9.sh x) (E5.sh x):=A.bw λh=>aoR x.1 x.2.1 x.2.2.1 x.2.2.2.1 x.2.2.2.2 h.1 h.2.1 h.2.2
abbrev yU:aN:=⟨.aA j1 (.aA (.bH br) (.aA (.bH lF) (.bH br))),dk,λx=>∃ i w n,x.2=(some i,some w,some n)/\q8 w/\hd w i=true/\iU w x.1.2.1 x.1.2.2.1=true,λx=>u3 (x.2.2.1.getD ([],[],0,[])) (x.2.1.getD 0) (x.2.2.2.getD 0) x.1⟩
theorem aoT(x):A.le (VW E5.sh x) (yU.sh x):=A.bw λh=>by
 obtain⟨t,o⟩:=x;obtain⟨i,w,n,au,hw,G,hm⟩:=h;change o=_ at au;subst au;unfold VW;simp only[aN.sh,A.og,A.gR,Option.getD_some,and_true,true_and,and_self,imp_self,A.bo,ne_eq];by_cases aM:t.1=i
 ·have ao:q8 w/\hd w i=true/\iU w t.2.1 t.2.2.1=true:=⟨hw,G,hm⟩
  simp[u3,aM,ao,A.bu ao]
 ·simp[u3,aM]
def p_(w:bA):List (z1'):=(List.range w.1.length).map λ(i:Nat)=>hf w (i:Int)
def ji(w:bA)(cc:Bool):Option qV×Int:=if eF w cc≠0 then (none,eF w cc) else (some (w,p_ w),0)
abbrev BE:aN:=⟨.aA lF dk,.aA (.bH (.st (.aA lF (.slice fP)))) br,λx=>hv x.1,λx=>ji x.1 x.2⟩
theorem aoU{w:bA}{i:Int}:hf w i=(ef (gJ w i).2.2.1 (gJ w i).2.2.2).filter λn=>w.2.2.2.all (u3 w i n):=by
 unfold hf;refine List.filter_congr λn aw=>?_;rw[pW]at aw;simp[PK,aw]
theorem ZD{w:bA}:∀ (l:List Nat) (acc:List (z1')),eY (λ(i:Nat) (acc:List (z1'))=>if decide (((hf w (i:Int)).length:Int)=0)=true then (.done (.done (none,(3:Int))):V _ (V (List IL×List (List wC)×Int×List mN×List (z1')×Unit) (Option qV×Int))) else .next (acc++[hf w (i:Int)])) (λacc=>.next (w.1,w.2.1,w.2.2.1,w.2.2.2,acc,())) l acc
  =if (l.all λ(i:Nat)=>!decide (((hf w (i:Int)).length:Int)=0))=true then .next (w.1,w.2.1,w.2.2.1,w.2.2.2,acc++l.map (λ(i:Nat)=>hf w (i:Int)),()) else .done (none,3)
 | [],acc=>by simp[eY]
 | i::l,acc=>by
  simp only[eY,List.all_cons,List.map_cons];by_cases h:((hf w (i:Int)).length:Int)=0
  ·simp[h]
  ·simp only[h,decide_false,Bool.false_eq_true,if_false,Bool.not_false,Bool.true_and];rw[ZD l];simp
theorem aoV(w:bA)(cc:Bool)(h:hv w):Og h3.sh (jC j1).sh yU.sh (w,cc)=A.pure (ji w cc):=by
 unfold Og ji eF;simp only[aN.sh,A.dH,A.bu h];by_cases hc:cO w=0
 ·have hw:q8 w:=⟨h,PL hc⟩
  have aoW:=E4 hw.2;simp only[hc,ne_eq,not_true,decide_false,Bool.false_eq_true,if_false];cases cc with
  | false=>simp
  | true=>
   simp only[Bool.not_true,Bool.false_eq_true,if_false,Bool.true_eq_false];rw[A.gw (List.range w.1.length) (λi (acc:List (z1'))=>(w.1,(w.1.length:Int),(i:Int),w,w.1,w.2.1,w.2.2.1,w.2.2.2,acc,())) (λ(i:Nat) (acc:List (z1'))=>if decide (((hf w (i:Int)).length:Int)=0)=true then (.done (.done (none,(3:Int))):V _ (V (List IL×List (List wC)×Int×List mN×List (z1')×Unit) (Option qV×Int))) else .next (acc++[hf w (i:Int)])) (λacc=>.next (w.1,w.2.1,w.2.2.1,w.2.2.2,acc,())) (λi acc=>acc.length<=i) [] ?_ ?_ ?_ ?_]
   ·rw[ZD];have e:((List.range w.1.length).all λ(i:Nat)=>!decide (((hf w (i:Int)).length:Int)=0))=wH w:=rfl;rw[e];by_cases aM:wH w=true<;>simp[aM,p_]
   ·rfl
   ·simp
   ·intro i G acc PM;have G:i<w.1.length:=by grind
    have oc:=aox G;have ai:=Zs hw.2 oc;have h5:=bG (n:=(i:Int)+1) (by omega) (by omega);have aC:w.1[i]=gJ w (i:Int):=by simp[gJ,List.getD_eq_getElem?_getD,G]
    refine⟨?_,λbe W=>?_⟩
    ·simp only[bX,cY G,if_true,dm G,cI G,A.bo,aC,List.getElem_range];rw[A.gw (ef (gJ w (i:Int)).2.2.1 (gJ w (i:Int)).2.2.2) (λk (l:z1')=>(w.1,(w.1.length:Int),(i:Int),w,(i:Int),gJ w (i:Int),l,(gJ w (i:Int)).2.2.1+(k:Int),w.1,w.2.1,w.2.2.1,w.2.2.2,acc,())) (λn l=>.next (if w.2.2.2.all (u3 w (i:Int) n)=true then l++[n] else l)) (λl=>.next (w.1,(w.1.length:Int),(i:Int),w,l,w.1,w.2.1,w.2.2.1,w.2.2.2,acc,())) (λk l=>l.length<=k) [] ?_ ?_ ?_ ?_]
     ·rw[fs,VB];simp only[A.aG,A.b3,List.nil_append];rw[<-aoU];by_cases bk:((hf w (i:Int)).length:Int)=0
      ·simp[bk]
      ·have lV:b_ (acc.length+(0+1)):=by unfold b_;omega
       simp_all
     ·simp
     ·simp
     ·intro k al l aoX;have wi:k<1000:=by rw[yl]at al;omega
      have sz:(gJ w (i:Int)).2.2.1+(k:Int)<=(gJ w (i:Int)).2.2.2:=by rw[yl]at al;omega
      have E_:=bG (n:=(gJ w (i:Int)).2.2.1+((k:Int)+1)) (by omega) (by omega);have lV:b_ (l.length+(0+1)):=by unfold b_;omega
      refine⟨?_,λbe W=>?_⟩
      ·have lR:∀ t∈w.2.2.2,yU.sh (t,some (i:Int),some w,some ((gJ w (i:Int)).2.2.1+(k:Int)))=A.pure (u3 w (i:Int) ((gJ w (i:Int)).2.2.1+(k:Int)) t):=λt aM=>A.bP ⟨_,_,_,rfl,hw,oc,(aov hw.2 aM).2⟩ _;simp only[sz,decide_true,if_true,Ec];rw[A.bu (by exact⟨h.2.2.1,λt aM=>⟨_,lR t aM⟩⟩)];have e:(w.2.2.2.all λy=>(A.dQ (yU.pre (y,some (i:Int),some w,some ((gJ w (i:Int)).2.2.1+(k:Int)))) (yU.g (y,some (i:Int),some w,some ((gJ w (i:Int)).2.2.1+(k:Int))))).val false)=w.2.2.2.all (u3 w (i:Int) ((gJ w (i:Int)).2.2.1+(k:Int))):=IS λt aM=>A.gR;rw[e];by_cases W:w.2.2.2.all (u3 w (i:Int) ((gJ w (i:Int)).2.2.1+(k:Int)))=true
       ·simp only[W,if_true,cp,gZ,A.bu lV,A.aG,A.b3,E_,V.hp,Int.natCast_add,Int.natCast_one,Int.add_assoc]
       ·simp only[W,Bool.false_eq_true,if_false,cp,gZ,A.aG,A.b3,E_,V.hp,Int.natCast_add,Int.natCast_one,Int.add_assoc]
      grind
     ·intro l aoX;have:¬(gJ w (i:Int)).2.2.1+((ef (gJ w (i:Int)).2.2.1 (gJ w (i:Int)).2.2.2).length:Int)<=(gJ w (i:Int)).2.2.2:=by rw[yl];omega
      simp only[this,decide_false,Bool.false_eq_true,if_false,A.aG]
    grind
   simp
 grind
theorem aoY(x):A.le (Og h3.sh (jC j1).sh yU.sh x) (BE.sh x):=A.bw λh=>aoV x.1 x.2 h
theorem aoZ(x):A.le (VY x) (IQ.sh x):=A.bw λ_=>by
 unfold VY;simp only[IP,decide_eq_true_eq];grind
theorem ZE(w:bA):(p_ w).length=w.1.length:=by simp[p_]
theorem PN{w:bA}{i:Int}(h:hd w i=true):List.getD (p_ w) i.toNat []=hf w i:=by
 rw[u0]at h;have:i.toNat<w.1.length:=by omega
 have e:((i.toNat:Nat):Int)=i:=by omega
 simp[p_,List.getD_eq_getElem?_getD,this,e]
abbrev ao0:ab:=.bH (.st (.aA lF (.slice fP)))
def ao1(o:Option qV)(w:bA):Prop:=o=some (w,p_ w)/\q8 w
abbrev IY:aN:=⟨.aA ao0 (.aA br (.aA br br)),br,λx=>∃ w,ao1 x.1 w/\hd w x.2.1=true/\iU w x.2.2.1 x.2.2.2=true,λx=>u4 ((x.1.getD (([],[],0,[]),[])).1) x.2.1 x.2.2.1 x.2.2.2⟩
theorem ao2(w:bA)(i m k:Int)(hw:q8 w)(G:hd w i=true)(hm:iU w m k=true):Oh E5.sh IQ.sh (some (w,p_ w),i,m,k)=A.pure (u4 w i m k):=by
 unfold Oh;have lV:=Zt hw G;have cg:0<=i/\i<((p_ w).length:Int):=by rw[ZE];exact u0.1 G
 simp only[Option.isSome_some,Option.getD_some,A.bo,bX,PN G,A.bu cg];rw[A.gw (hf w i) (λj (n:Int)=>(some (w,p_ w),i,m,k,n,hf w i,((hf w i).length:Int),(j:Int),())) (λx n=>.next (if wG w i x m k=true then n+1 else n)) (λn=>.next (some (w,p_ w),i,n,())) (λj n=>0<=n/\n<=(j:Int)) 0 ?_ ?_ ?_ ?_]
 ·rw[fs,Zv];simp only[A.aG,A.b3,Option.isSome_some,Option.getD_some,A.bo,A.bu cg,PN G,aN.sh,A.dH,Int.zero_add];rfl
 ·rfl
 ·simp
 ·intro j aF n aw;have ao3:=bG (n:=(j:Int)+1) (by omega) (by omega);have BF:=bG (n:=n+1) (by omega) (by omega);have ao:q8 w/\hd w i=true/\iU w m k=true:=⟨hw,G,hm⟩
  refine⟨?_,λbe W=>?_⟩
  ·simp only[cY aF,if_true,dm aF,cI aF,A.bo,Option.isSome_some,Option.getD_some,aN.sh,A.dH,A.bu ao,cp,BF];cases wG w i (hf w i)[j] m k<;>simp[ao3]
  grind
 simp
theorem ao4(x):A.le (Oh E5.sh IQ.sh x) (IY.sh x):=A.bw λh=>by
 obtain⟨o,i,m,k⟩:=x;obtain⟨w,⟨au,hw⟩,G,hm⟩:=h;change o=_ at au;subst au;exact ao2 w i m k hw G hm
theorem ZF{w:bA}{cc:Bool}(h:eF w cc=0):ji w cc=(some (w,p_ w),0):=by simp[ji,h]
theorem ZG{w:bA}{cc:Bool}(h:eF w cc≠0):ji w cc=(none,eF w cc):=by simp[ji,h]
theorem ao5(w:bA)(i:Int)(h:hv w):Od BE.sh p7.sh (w,i)=A.pure (wI w i):=by
 unfold Od wI;simp only[aN.sh,A.og,A.gR,h,A.bo];by_cases al:eF w (hd w i)=0
 ·have hw:=Zu h al;have G:=(E6 al).2.1;have ao:=aoy (E6 al).2.2 G;have lV:=Zt hw G;have h5:=bG (n:=((hf w i).length:Int) - 1) (by omega) (by omega);have ay:(((hf w i).length:Int) - 1).toNat=(hf w i).length - 1:=by omega
  have sZ:0<=i/\i<((p_ w).length:Int):=by rw[ZE];exact u0.1 G
  have cg:(0:Int)<=0/\(0:Int)<((hf w i).length:Int):=by omega
  have cJ:(0:Int)<=((hf w i).length:Int) - 1/\((hf w i).length:Int) - 1<((hf w i).length:Int):=by omega
  simp only[ZF al,al,ne_eq,not_true,decide_false,Bool.false_eq_true,if_false,Option.isSome_some,Option.getD_some,A.bo,bX,PN G,A.bu sZ,h5,ay,A.bu cJ];simp_all
 ·simp[ZG al,al]
theorem ao6(x):A.le (Od BE.sh p7.sh x) (yS.sh x):=A.bw λh=>ao5 x.1 x.2 h
theorem ao7(w:bA)(i m k:Int)(h:hv w):Oe BE.sh p7.sh r5.sh IY.sh (w,i,m,k)=A.pure (me w i m k):=by
 unfold Oe me;simp only[aN.sh,A.og,A.gR,h,A.bo,and_true,and_self,imp_self,true_and];by_cases al:eF w (hd w i&&iU w m k)=0
 ·have hw:=Zu h al;have G:=(E6 al).2.1;simp only[Bool.and_eq_true]at G;simp only[ZF al,al,ne_eq,not_true,decide_false,Bool.false_eq_true,if_false,A.dH];rw[A.bu (by exact⟨w,⟨rfl,hw⟩,G.1,G.2⟩)];rfl
 ·simp[ZG al,al]
theorem ao8(x):A.le (Oe BE.sh p7.sh r5.sh IY.sh x) (u5.sh x):=A.bw λh=>ao7 x.1 x.2.1 x.2.2.1 x.2.2.2 h
theorem PO{n:Int}(E:0<=n)(U:n<18446744073709551616):IntKind.u64.wrap n=n:=by
 show (if (false&&decide (n % 2 ^ 64>=(2 ^ (64 - 1):Int)))=true then n % 2 ^ 64 - 2 ^ 64 else n % 2 ^ 64)=n;grind
theorem PQ:∀ (n:Nat) (l:z1'),l.Nodup->(∀ x∈l,0<=x/\x<(n:Int))->l.length<=n
 | 0,l,_,h=>by
  cases l with
  | nil=>simp
  | cons x l=>have:=h x (by simp);omega
 | n+1,l,aw,h=>by
  have U:=PQ n (l.erase (n:Int)) (aw.erase _) λx ah=>by
   grind
  grind
def ao9(l:z1'):Prop:=∀ x∈l,0<=x/\x<16
def ZH(l:z1'):Prop:=l.Nodup/\ao9 l
theorem ZH.len{l:z1'}(h:ZH l):l.length<=16:=PQ 16 l h.1 h.2
theorem A.ao_{D aJ:Type}{body:D->A (V D aJ)}{p:aJ->Prop}{s0:D}(n:Nat)(I:Nat->D->Prop)(aU:I 0 s0)
  (aE:∀ i,i<n->∀ s,I i s->A.cv (body s) λst=>match st with | .next s'=>I (i+1) s' | .done r=>p r)
  (au:∀ s,I n s->A.cv (body s) λst=>match st with | .next _=>False | .done r=>p r):A.cv (A.loop body s0) p:=by
 have key:∀ k i s,n - i=k->i<=n->I i s->A.cv (A.loop body s) p:=by
  intro k;induction k with
  | zero=>
   intro i s al G h;have:i=n:=by omega
   subst this;rw[A.Cg,A.fZ];refine (au s h).mono λy aS=>?_;cases y with
   | next s'=>grind
   | done r=>exact A.d'.2 aS
  | succ k aI=>
   intro i s al G h;rw[A.Cg,A.fZ];refine (aE i (by omega) s h).mono λy aS=>?_;cases y with
   | next s'=>grind
   | done r=>exact A.d'.2 aS
 grind
def PR(x:Int×Int):Int:=IntKind.wrap .u64
 (Add.add (IntKind.wrap .u64 (Add.add (IntKind.wrap .u64 (jm .u64 x.1 32*jm .u64 x.2 32)) (jm .u64 (IntKind.wrap .u64 (Add.add (IntKind.wrap
 .u64 (jm .u64 x.1 32*lO .u64 x.2 4294967295)) (jm .u64 (IntKind.wrap .u64 (lO .u64 x.1 4294967295*lO .u64 x.2 4294967295)) 32))) 32)))
 (jm .u64 (IntKind.wrap .u64 (Add.add (lO .u64 (IntKind.wrap .u64 (Add.add (IntKind.wrap .u64 (jm .u64 x.1 32*lO .u64 x.2 4294967295)) (jm
 .u64 (IntKind.wrap .u64 (lO .u64 x.1 4294967295*lO .u64 x.2 4294967295)) 32))) 4294967295) (IntKind.wrap .u64 (lO .u64 x.1 4294967295*jm
 .u64 x.2 32)))) 32))
def IZ:Nat->Bool
 | 0=>true
 | n+1=>decide (PR (1,(n:Int))=0)&&IZ n
theorem ZI:∀ (N n:Nat),IZ N=true->n<N->PR (1,(n:Int))=0
 | 0,n,_,h=>by omega
 | N+1,n,hc,h=>by
  simp only[IZ,Bool.and_eq_true,decide_eq_true_eq]at hc;by_cases e:n=N
  ·grind
  ·exact ZI N n hc.2 (by omega)
def PS(work:z1')(s:Int):z1':=((List.range work.length).filter λj=>decide (work.getD j 0=s)).map λ(j:Nat)=>(j:Int)
theorem ao'{ak β aJ:Type}{f:ak->β->V β aJ}{fin:β->aJ}(I:Nat->β->Prop)(Q:aJ->Prop)(l:List ak)(b:β)(aU:I 0 b)
  (aE:∀ i (h:i<l.length) b,I i b->match f l[i] b with | .next be=>I (i+1) be | .done r=>Q r) (au:∀ b,I l.length b->Q (fin b)):Q (eY f fin l b):=by
 have key:∀ (k:Nat) (r:List ak) (b:β),k<=l.length->r=l.drop k->I k b->Q (eY f fin r b):=by
  intro k r;induction r generalizing k with
  | nil=>
   intro b al M eA;have:k=l.length:=by have:=congrArg List.length M;grind
   subst this;exact au b eA
  | cons x r aI=>
   intro b al M eA;have ck:k<l.length:=by
    grind
   rw[List.drop_eq_getElem_cons ck]at M;injection M with ah M
   have E:=aE k ck b eA;rw[<-ah]at E;simp only[eY];grind
 grind
def cS(m:z4')(k:Int):Int:=(u6 m k).getD 0
theorem apa(m:z4')(k:Int):Option.getD (Option.map (λx=>x.2) (List.find? (λp=>decide (k=p.1)) m)) 0=cS m k:=rfl
theorem BG(k v k':Int)(m:z4'):cS (fa m k v) k'=if k'=k then v else cS m k':=by
 unfold cS;rw[Zz];grind
def r7(n:Nat)(m:z4'):Nat:=(List.range n).countP λ(s:Nat)=>decide (cS m (s:Int)=0)
theorem ZJ{p q:Nat->Bool}{s:Nat}(h:∀ x,x≠s->p x=q x)(ao:p s=true)(bq:q s=false):∀ (l:List Nat),l.Nodup->s∈l->l.countP p=l.countP q+1
 | [],_,aE=>by cases aE
 | x::l,aw,aE=>by
  rw[List.nodup_cons]at aw;rw[List.countP_cons,List.countP_cons];by_cases e:x=s
  ·subst e;have:l.countP p=l.countP q:=List.countP_congr λy aS=>by
    grind
   grind
  ·have:=ZJ h ao bq l aw.2 (by grind);grind
theorem ZK{n:Nat}{m:z4'}{s v:Int}(aU:0<=s)(aw:s<(n:Int))(hm:cS m s=0)(ae:v≠0):r7 n m=r7 n (fa m s v)+1:=by
 unfold r7;refine ZJ (s:=s.toNat) (λx ah=>?_) ?_ ?_ _ List.nodup_range (by grind)
 ·rw[BG,if_neg (by omega)]
 ·grind
 ·rw[BG,if_pos (by omega)];grind
theorem ZL{n:Nat}{a b:z4'}(h:∀ k,0<=cS a k/\cS a k<=cS b k):r7 n b<=r7 n a:=by
 unfold r7;refine List.countP_mono_left λx _ ah=>?_;grind
abbrev la:=z1'×z4'
def V.u7{β aJ ju:Type}(g:aJ->ju):V β aJ->V β ju
 | .next b=>.next b
 | .done r=>.done (g r)
def yV{ak β aJ:Type}(f:ak->β->V β aJ):List ak->β->V β aJ
 | [],b=>.next b
 | x::l,b=>match f x b with
  | .next be=>yV f l be
  | .done r=>.done r
def V.fin{β aJ:Type}(n:β->aJ):V β aJ->aJ
 | .next b=>n b
 | .done r=>r
theorem PT{ak β aJ:Type}{f:ak->β->V β aJ}{n:β->aJ}:∀ (l:List ak) (b:β),eY f n l b=V.fin n (yV f l b)
 | [],b=>rfl
 | x::l,b=>by
  simp only[eY,yV];cases f x b with
  | next be=>exact PT l be
  | done r=>rfl
theorem ZM{ak β aJ ju:Type}{f:ak->β->V β aJ}{g:aJ->ju}:∀ (l:List ak) (b:β),yV (λx b=>V.u7 g (f x b)) l b=V.u7 g (yV f l b)
 | [],b=>rfl
 | x::l,b=>by
  simp only[yV];cases f x b with
  | next be=>exact ZM l be
  | done r=>rfl
def apb(w:bA):Prop:=w.1.length<=2000000/\w.2.1.length<=2000000/\w.2.2.2.length<=2000000/\∀ m∈w.2.1,m.length<=2000000/\∀ s∈m,s.2.1.length<=2000000
def yW(m:List (Int×z1'×Int×Int)):Bool:=decide ((m.length:Int) > 20)||m.any λs=>decide ((s.2.1.length:Int) > 20)
def mc(w:bA):Bool:=
 if (decide ((w.1.length:Int) > 40)||decide ((w.2.1.length:Int) > 40)||decide ((w.2.2.2.length:Int) > 60))=true then true
 else if w.2.1.any yW=true then true
 else if cO w≠0 then false
 else if (w.1.any λs=>decide (IntKind.i64.wrap (s.2.2.2 - s.2.2.1)>=50))=true then true
 else decide ((w.1.length:Int) > 6)||decide ((w.2.1.length:Int) > 4)||decide ((w.2.2.2.length:Int) > 10)
abbrev wz:aN:=⟨lF,dk,hv,mc⟩
theorem apc(w:bA)(h:hv w):Oj h3.sh w=A.pure (mc w):=by
 unfold Oj mc;simp only[bX];by_cases E:(decide ((w.1.length:Int) > 40)||decide ((w.2.1.length:Int) > 40)||decide ((w.2.2.2.length:Int) > 60))=true
 ·grind
 ·rw[if_neg E,if_neg E];have ai:=h;obtain⟨dh,dK,mZ,r8⟩:=h;rw[A.eu w.2.1 (λi (_:Unit)=>((i:Int),w,())) (λm u=>if yW m=true then .done (.done true) else .next u) (λ_=>.next (w,())) () ?_ ?_ ?_]
  ·rw[rY];by_cases U:w.2.1.any yW=true
   ·simp only[U,if_true,A.aG,A.pV]
   ·simp only[U,Bool.false_eq_true,if_false,A.aG,A.b3,aN.sh,A.dH,A.bu ai];by_cases ag:cO w=0
    ·simp only[ag,ne_eq,not_true,decide_false,Bool.false_eq_true,if_false];rw[A.eu w.1 (λi (_:Unit)=>((i:Int),w,())) (λs u=>if decide (IntKind.i64.wrap (s.2.2.2 - s.2.2.1)>=50)=true then .done (.done true) else .next u) (λ_=>.next (w,())) () ?_ ?_ ?_]
     ·rw[rY];by_cases a7:(w.1.any λs=>decide (IntKind.i64.wrap (s.2.2.2 - s.2.2.1)>=50))=true
      ·simp_all
      ·simp only[a7,Bool.false_eq_true,if_false,A.aG,A.b3]
     ·rfl
     ·intro i G u;have lG:=bG (n:=(i:Int)+1) (by omega) (by omega);simp only[bX,cY G,if_true,cI G,A.bo,dm G,A.aG,cp,lG];exact nl (mk:=λ_:Unit=>((i:Int)+1,w,()))
     simp
    grind
  ·rfl
  ·intro i G u;have lG:=bG (n:=(i:Int)+1) (by omega) (by omega);have hm:=r8 _ (List.getElem_mem G);simp only[bX,cY G,if_true,cI G,A.bo,dm G,A.aG];by_cases bN:decide ((w.2.1[i].length:Int) > 20)=true
   ·have au:yW w.2.1[i]=true:=by unfold yW;grind
    simp_all
   ·have au:yW w.2.1[i]=w.2.1[i].any λs=>decide ((s.2.1.length:Int) > 20):=by unfold yW;grind
    rw[if_neg bN];rw[A.eu w.2.1[i] (λk (_:Unit)=>((i:Int),(k:Int),w,())) (λs u=>if decide ((s.2.1.length:Int) > 20)=true then .done (.done (.done (.done true))) else .next u) (λ_=>.next ((i:Int),w,())) () ?_ ?_ ?_]
    ·rw[rY,au];by_cases du:(w.2.1[i].any λs=>decide ((s.2.1.length:Int) > 20))=true
     ·simp_all
     ·simp only[du,Bool.false_eq_true,if_false,A.aG,A.b3,cp,lG];rfl
    ·rfl
    ·intro k al u;have mM:=bG (n:=(k:Int)+1) (by omega) (by omega);simp only[cI G,A.bo,dm G,cY al,if_true,cI al,dm al,A.aG,cp,mM];exact nl (mk:=λ_:Unit=>((i:Int),(k:Int)+1,w,()))
    simp_all
  simp
theorem apd(x):A.le (Oj h3.sh x) (wz.sh x):=A.bw λh=>apc x h
def I0:bA:=([(1,2,300,310),(1,3,305,305),(2,1,50,60),(1,2,320,330)],[[(1,[2,3],300,306),(2,[1],40,58)],[(1,[2],310,326)]],5,[(0,1,0,0)])
abbrev PU:aN:=⟨.cT,lF,λ_=>True,λ_=>I0⟩
theorem ape(x):A.le (akc x) (PU.sh x):=A.bw λ_=>rfl
theorem apf:hv I0:=by
 refine⟨by decide,by decide,by decide,?_⟩;intro m hm;simp only[I0,List.mem_cons,List.not_mem_nil,or_false]at hm;grind
abbrev nz:ab:=.st (.aA br (.aA br (.aA br (.aA br fP))))
abbrev mO:ab:=.st (.aA fP (.aA l9 (.aA br (.aA br br))))
abbrev qa:ab:=.st (.aA br (.aA br br))
abbrev mf:ab:=.st (.aA lF (.aA fP (.aA (.slice nz) (.aA (.slice mO) (.aA (.slice qa) br)))))
def fF(s:bJ):Prop:=hv s.1/\s.2.1.length<2 ^ 63/\s.2.2.1.length<2 ^ 63/\s.2.2.2.1.length<2 ^ 63/\s.2.2.2.2.1.length<2 ^ 63/\(∀ p∈s.2.2.1,p.2.2.2.2.length<2 ^ 63)/\∀ x∈s.2.2.2.1,x.1.length<2 ^ 63
def b1(n aY G:Int):Bool:=decide (aY<=n)&&decide (n<=G)
def j2(n:Int):Bool:=b1 n 0 99
def j3(p:Int->Bool)(l:z1'):Bool:=(List.range l.length).all λi=>p (l.getD i 0)&&!(decide (0<i)&&decide (l.getD i 0<=l.getD (i - 1) 0))
def E'(w:bA)(m:Int)(n:Int):Bool:=decide (0<=n)&&decide (n<((jB w m).length:Int))
def qb(w:bA)(p:dy):Bool:=j2 p.1&&j2 p.2.1&&j2 p.2.2.1&&ot w p.2.2.2.1&&j3 (E' w p.2.2.2.1) p.2.2.2.2
def pe(x:dM):Bool:=b1 (x.1.length:Int) 1 8&&j3 j2 x.1&&j2 x.2.1.1&&j2 x.2.1.2&&decide (x.2.1.1<=x.2.1.2)&&j2 x.2.2.1&&j2 x.2.2.2.1&&b1 x.2.2.2.2 0 100000
def pf(w:bA)(d:Ej):Bool:=j2 d.1&&hd w d.2.1&&b1 d.2.2 1 10
def nA(s:bJ):Bool:=decide ((s.2.1.length:Int)=(s.1.1.length:Int))&&(s.2.1.all λn=>b1 n 0 10)&&decide ((s.2.2.1.length:Int)<=8)&&s.2.2.1.all (qb s.1)&&decide ((s.2.2.2.1.length:Int)<=6)&&s.2.2.2.1.all pe&&decide ((s.2.2.2.2.1.length:Int)<=8)&&s.2.2.2.2.1.all (pf s.1)&&j2 s.2.2.2.2.2
def jj(s:bJ):Int:=if cO s.1≠0 then cO s.1 else if nA s=true then 0 else 80
theorem apg(x):A.le (aky x) (cq.sh x):=A.bw λ_=>rfl
theorem aph(x):A.le (aks x) (cq.sh x):=A.bw λ_=>rfl
abbrev r9:aN:=⟨br,dk,λ_=>True,j2⟩
theorem api(x):A.le (Wf cq.sh x) (r9.sh x):=A.bw λ_=>by
 unfold Wf;simp[aN.sh,cq,j2,b1]
theorem apj(x):A.le (Wj cq.sh x) (r9.sh x):=A.bw λ_=>by
 unfold Wj;simp[aN.sh,cq,j2,b1]
abbrev I1:aN:=⟨.aA fP (.fn br .bool),dk,λx=>x.1.length<2 ^ 63/\∀ y∈x.1,∃ b,x.2 y=A.pure b,λx=>j3 (λy=>(x.2 y).val false) x.1⟩
theorem apk(x):A.le (Wg x) (I1.sh x):=A.bw λh=>by
 obtain⟨l,f⟩:=x;obtain⟨E,U⟩:=h;change l.length<2 ^ 63 at E;change ∀ y∈l,∃ b,f y=A.pure b at U;unfold Wg;rw[A.eu (List.range l.length) (λi (_:Unit)=>(l,f,l,(l.length:Int),(i:Int),())) (λi b=>if (!((f (l.getD i 0)).val false&&!(decide (0<i)&&decide (l.getD i 0<=l.getD (i - 1) 0))))=true then .done (.done false) else .next b) (λ_=>.next ()) () ?_ ?_ ?_]
 ·rw[k1 (q:=λi=>(f (l.getD i 0)).val false&&!(decide (0<i)&&decide (l.getD i 0<=l.getD (i - 1) 0))) _ _ (λ_=>rfl)];show _=A.pure (j3 (λy=>(f y).val false) l);unfold j3;cases (List.range l.length).all λi=>(f (l.getD i 0)).val false&&!(decide (0<i)&&decide (l.getD i 0<=l.getD (i - 1) 0))<;>simp
 ·rfl
 ·intro i G b;have G:i<l.length:=by grind
  have hw:=bG (n:=(i:Int)+1) (by omega) (by omega);have gY:=bG (n:=(i:Int) - 1) (by omega) (by omega);have aP:((i:Int) - 1).toNat=i - 1:=by omega
  obtain⟨c,hc⟩:=U _ (List.getElem_mem G);have jy:l.getD i 0=l[i]:=by grind
  have tf:(decide ((i:Int) > 0))=decide (0<i):=by simp
  simp only[bX,cY G,if_true,List.getElem_range,dm G,cI G,A.bo,jy,hc,A.e5,A.aG,cp,hw,gY,aP,tf];rw[A.bu (by grind)];cases c<;>cases (decide (0<i)&&decide (l[i]<=l.getD (i - 1) 0))<;>rfl
 simp
abbrev I2:aN:=⟨.aA fP br,dk,λx=>x.1.length<2 ^ 63,λx=>j3 (λn=>b1 n 0 x.2) x.1⟩
theorem apl(x):A.le (Wm x) (I2.sh x):=A.bw λh=>by
 obtain⟨l,m⟩:=x;change l.length<2 ^ 63 at h;unfold Wm;rw[A.eu (List.range l.length) (λi (_:Unit)=>(l,m,(i:Int),())) (λi b=>if (!(b1 (l.getD i 0) 0 m&&!(decide (0<i)&&decide (l.getD i 0<=l.getD (i - 1) 0))))=true then .done (.done false) else .next b) (λ_=>.next ()) () ?_ ?_ ?_]
 ·rw[k1 (q:=λi=>b1 (l.getD i 0) 0 m&&!(decide (0<i)&&decide (l.getD i 0<=l.getD (i - 1) 0))) _ _ (λ_=>rfl)];show _=A.pure (j3 (λn=>b1 n 0 m) l);unfold j3;cases (List.range l.length).all λi=>b1 (l.getD i 0) 0 m&&!(decide (0<i)&&decide (l.getD i 0<=l.getD (i - 1) 0))<;>simp
 ·rfl
 ·intro i G b;have G:i<l.length:=by grind
  have hw:=bG (n:=(i:Int)+1) (by omega) (by omega);have gY:=bG (n:=(i:Int) - 1) (by omega) (by omega);have aP:((i:Int) - 1).toNat=i - 1:=by omega
  have jy:l.getD i 0=l[i]:=by grind
  have tf:(decide ((i:Int) > 0))=decide (0<i):=by simp
  simp only[bX,cY G,if_true,List.getElem_range,dm G,cI G,A.bo,jy,A.aG,cp,hw,gY,aP,tf];have sZ:0<i->(0:Int)<=(i:Int) - 1/\(i:Int) - 1<(l.length:Int):=by omega
  generalize l.getD (i - 1) 0=B;generalize l[i]=aK;by_cases iu:aK<0<;>by_cases uj:aK > m<;>by_cases aU:0<i<;>by_cases aT:aK<=B<;>simp_all[b1,V.hp,A.bu]<;>(grind)<;>(grind)
 simp
theorem PV{p q:Int->Bool}{l:z1'}(h:∀ y∈l,p y=q y):j3 p l=j3 q l:=by
 unfold j3;grind
theorem apm(n:Int)(k:Nat):b1 n 0 ((k:Int) - 1)=(decide (0<=n)&&decide (n<(k:Int))):=by
 unfold b1;grind
theorem apn(a b:Int):decide (a > b)=!decide (a<=b):=by grind
abbrev Fa:aN:=⟨.aA br (.aA (.bH lF) (.bH nz)),dk,λx=>∃ w p,x.2=(some w,some p)/\hv w/\ot w p.2.2.2.1=true,λx=>E' (x.2.1.getD ([],[],0,[])) (x.2.2.getD (0,0,0,0,[])).2.2.2.1 x.1⟩
theorem apo(x):A.le (Wh cq.sh x) (Fa.sh x):=A.bw λh=>by
 obtain⟨n,o⟩:=x;obtain⟨w,p,au,hw,hm⟩:=h;change o=_ at au;subst au;unfold Wh;have r:=IM.1 hm;have ai:=IN hw p.2.2.2.1;have h5:=bG (n:=((jB w p.2.2.2.1).length:Int) - 1) (by omega) (by omega);unfold jB at h5;simp only[aN.sh,cq,Option.getD_some,bX,r,and_self,A.bo,h5,A.dH,r4];rfl
abbrev Fb:aN:=⟨.aA nz (.bH lF),dk,λx=>x.1.2.2.2.2.length<2 ^ 63/\∃ w,x.2=some w/\hv w,λx=>!qb (x.2.getD ([],[],0,[])) x.1⟩
theorem apq(x):A.le (We cq.sh r9.sh I1.sh Fa.sh x) (Fb.sh x):=A.bw λh=>by
 obtain⟨p,o⟩:=x;obtain⟨ao,w,au,hw⟩:=h;change o=_ at au;change p.2.2.2.2.length<2 ^ 63 at ao;subst au;unfold We;have ai:=hw.2.1;have h5:=bG (n:=((w.2.1.length:Int)) - 1) (by omega) (by omega);have ay:(decide (0<=p.2.2.2.1)&&decide (p.2.2.2.1<(w.2.1.length:Int)))=ot w p.2.2.2.1:=rfl;simp only[aN.sh,cq,Option.getD_some,bX,A.bo,h5,A.dH,A.je,r4,implies_true,qU,ay];have key:ot w p.2.2.2.1=true->(j3 (λy=>(A.dQ (Fa.pre (y,some w,some p)) (Fa.g (y,some w,some p))).val false) p.2.2.2.2)=j3 (E' w p.2.2.2.1) p.2.2.2.2:=λhm=>PV λy aS=>A.gR;rw[A.bu]
 ·show A.pure _=A.pure _;congr 1;show _=!qb w p;unfold qb;simp
 ·intro cU;have hm:ot w p.2.2.2.1=true:=by
   grind
  exact⟨ao,λy aS=>⟨_,A.bP ⟨w,p,rfl,hw,hm⟩ _⟩⟩
abbrev Fc:aN:=⟨mO,dk,λx=>x.1.length<2 ^ 63,λx=>!pe x⟩
theorem apr(x):A.le (Wi cq.sh r9.sh I1.sh r9.sh x) (Fc.sh x):=A.bw λh=>by
 unfold Wi;have key:(j3 (λy=>(A.dQ (r9.pre y) (r9.g y)).val false) x.1)=j3 j2 x.1:=PV λy aS=>A.gR;simp only[aN.sh,cq,bX,A.bo,A.dH,A.je,implies_true,qU];rw[A.bu]
 ·show A.pure _=A.pure (!pe x);congr 1;unfold pe;rw[key];have e:decide (x.2.1.1 > x.2.1.2)=!decide (x.2.1.1<=x.2.1.2):=by grind
  rw[e];show _=!(b1 (x.1.length:Int) 1 8&&_&&_&&_&&_&&_&&_&&_);unfold b1;simp
 ·exact λ_=>⟨h,λy aS=>⟨_,A.bP trivial _⟩⟩
abbrev Fe:aN:=⟨.aA qa (.bH lF),dk,λx=>∃ w,x.2=some w/\hv w,λx=>!pf (x.2.getD ([],[],0,[])) x.1⟩
theorem aps(x):A.le (Wk cq.sh r9.sh x) (Fe.sh x):=A.bw λh=>by
 obtain⟨d,o⟩:=x;obtain⟨w,au,hw⟩:=h;change o=_ at au;subst au;unfold Wk;have ai:=hw.1;have h5:=bG (n:=((w.1.length:Int)) - 1) (by omega) (by omega);simp only[aN.sh,cq,Option.getD_some,bX,A.bo,h5,A.dH,A.je,r4,implies_true,qU];show A.pure _=A.pure (!pf w d);congr 1;unfold pf hd b1;simp
abbrev Ff:aN:=⟨br,dk,λ_=>True,λn=>!b1 n 0 10⟩
theorem apt(x):A.le (Wl cq.sh x) (Ff.sh x):=A.bw λ_=>by
 unfold Wl;simp[aN.sh,cq,b1]
theorem I3{ak:Type}{p q:ak->Bool}{l:List ak}(h:∀ x∈l,p x=!q x):l.any p=!l.all q:=by
 grind
abbrev PW:aN:=⟨mf,dk,fF,nA⟩
theorem apu(x):A.le (V9 r9.sh (jf br).sh (jf nz).sh (jf mO).sh (jf qa).sh Fb.sh Fe.sh Fc.sh Ff.sh x) (PW.sh x):=A.bw λh=>by
 obtain⟨E,U,ag,a7,bN,du,gL⟩:=h;unfold V9;simp only[aN.sh,bX,A.bo,A.dH,A.je,implies_true];have aR:(x.2.1.any λy=>(A.dQ (Ff.pre y) (Ff.g y)).val false)=!x.2.1.all λn=>b1 n 0 10:=I3 λy _=>A.gR;have aW:(x.2.2.1.any λy=>(A.dQ (Fb.pre (y,some x.1)) (Fb.g (y,some x.1))).val false)=!x.2.2.1.all (qb x.1):=I3 λy _=>A.gR;have bL:(x.2.2.2.1.any λy=>(A.dQ (Fc.pre y) (Fc.g y)).val false)=!x.2.2.2.1.all pe:=I3 λy _=>A.gR;have fA:(x.2.2.2.2.1.any λy=>(A.dQ (Fe.pre (y,some x.1)) (Fe.g (y,some x.1))).val false)=!x.2.2.2.2.1.all (pf x.1):=I3 λy _=>A.gR;rw[A.bu,A.bu,A.bu,A.bu]
 ·show A.pure _=A.pure (nA x);congr 1;unfold nA;grind
 ·exact λ_=>⟨bN,λy aS=>⟨_,A.bP ⟨_,rfl,E⟩ _⟩⟩
 ·exact λ_=>⟨a7,λy aS=>⟨_,A.bP (gL y aS) _⟩⟩
 ·exact λ_=>⟨ag,λy aS=>⟨_,A.bP ⟨du y aS,_,rfl,E⟩ _⟩⟩
 ·exact λ_=>⟨U,λy aS=>⟨_,A.bP trivial _⟩⟩
abbrev qc:aN:=⟨mf,br,fF,jj⟩
theorem apv(x):A.le (V2 h3.sh PW.sh x) (qc.sh x):=A.bw λh=>by
 unfold V2;simp only[aN.sh,A.dH,A.bu h.1];show _=A.pure (jj x);unfold jj;by_cases hc:cO x.1=0
 ·simp only[hc,ne_eq,not_true,decide_false,Bool.false_eq_true,if_false,A.bu h];grind
 grind
abbrev I4:aN:=⟨.aA mf nz,dk,λx=>fF x.1/\x.2.2.2.2.2.length<2 ^ 63,λx=>qb x.1.1 x.2⟩
theorem apw(x):A.le (V_ cq.sh I2.sh x) (I4.sh x):=A.bw λh=>by
 obtain⟨s,p⟩:=x;obtain⟨aE,ao⟩:=h;change fF s at aE;change p.2.2.2.2.length<2 ^ 63 at ao;unfold V_;have ai:=aE.1.2.1;have gr:=IN aE.1 p.2.2.2.1;have h5:=bG (n:=((s.1.2.1.length:Int)) - 1) (by omega) (by omega);have E_:=bG (n:=((jB s.1 p.2.2.2.1).length:Int) - 1) (by omega) (by omega);unfold jB at E_;have ay:(decide (0<=p.2.2.2.1)&&decide (p.2.2.2.1<(s.1.2.1.length:Int)))=ot s.1 p.2.2.2.1:=rfl;simp only[aN.sh,cq,bX,A.bo,h5,E_,A.dH,A.je,r4,implies_true,qU,ay,A.og,A.gR];show _=A.pure (qb s.1 p);unfold qb;have EB:j3 (λn=>b1 n 0 (((List.getD s.1.2.1 (Int.toNat p.2.2.2.1) []).length:Int) - 1)) p.2.2.2.2=j3 (E' s.1 p.2.2.2.1) p.2.2.2.2:=PV λy _=>apm y _;rw[EB];cases hm:ot s.1 p.2.2.2.1
 ·simp
 ·have r:=IM.1 hm;rw[A.bu r,A.bu (by exact ao)];unfold j2 b1;grind
abbrev I5:aN:=⟨mO,dk,λx=>x.1.length<2 ^ 63,pe⟩
theorem apx(x):A.le (V' cq.sh I2.sh x) (I5.sh x):=A.bw λh=>by
 unfold V';simp only[aN.sh,cq,bX,A.bo,A.dH,A.je,implies_true];rw[A.bu (by omega)];show A.pure _=A.pure (pe x);congr 1;unfold pe;have EB:j3 (λn=>b1 n 0 99) x.1=j3 j2 x.1:=rfl;rw[EB];unfold j2 b1;grind
theorem apy(x):A.le (V3 h3.sh cq.sh I4.sh I5.sh x) (qc.sh x):=A.bw λh=>by
 have aE:=h;obtain⟨E,U,ag,a7,bN,du,gL⟩:=h;unfold V3;simp only[aN.sh,A.dH,A.bu E];show _=A.pure (jj x);unfold jj;by_cases hc:cO x.1=0
 ·simp only[hc,ne_eq,not_true,decide_false,Bool.false_eq_true,if_false,cq,A.je,A.dH,implies_true,A.bo,bX,qU,decide_not];have e:(!decide ((x.2.1.length:Int)=(x.1.1.length:Int))||decide ((x.2.2.1.length:Int) > 8)||decide ((x.2.2.2.1.length:Int) > 6)||decide ((x.2.2.2.2.1.length:Int) > 8)||!(decide (0<=x.2.2.2.2.2)&&decide (x.2.2.2.2.2<=99)))=!(decide ((x.2.1.length:Int)=(x.1.1.length:Int))&&decide ((x.2.2.1.length:Int)<=8)&&decide ((x.2.2.2.1.length:Int)<=6)&&decide ((x.2.2.2.2.1.length:Int)<=8)&&j2 x.2.2.2.2.2):=by
   simp only[apn,j2,b1,Bool.not_and]
  rw[e];by_cases cU:(decide ((x.2.1.length:Int)=(x.1.1.length:Int))&&decide ((x.2.2.1.length:Int)<=8)&&decide ((x.2.2.2.1.length:Int)<=6)&&decide ((x.2.2.2.2.1.length:Int)<=8)&&j2 x.2.2.2.2.2)=true
  ·rw[if_neg (by grind)]
   ·rw[A.eu x.2.1 (λi (_:Unit)=>((i:Int),x,())) (λn b=>if (!b1 n 0 10)=true then .done (.done (80:Int)) else .next b) (λ_=>.next (x,())) () ?_ ?_ ?_]
    ·rw[k1 (q:=λn=>b1 n 0 10) _ _ (λ_=>rfl)];cases iu:x.2.1.all λn=>b1 n 0 10 with
     | false=>simp[nA,iu]
     | true=>
      simp only[A.aG,if_true,A.b3];rw[A.eu x.2.2.1 (λi (_:Unit)=>((i:Int),x,())) (λp b=>if (!qb x.1 p)=true then .done (.done (80:Int)) else .next b) (λ_=>.next (x,())) () ?_ ?_ ?_]
      ·rw[k1 (q:=qb x.1) _ _ (λ_=>rfl)];cases aT:x.2.2.1.all (qb x.1) with
       | false=>simp[nA,aT]
       | true=>
        simp only[A.aG,if_true,A.b3];rw[A.eu x.2.2.2.1 (λi (_:Unit)=>((i:Int),x,())) (λp b=>if (!pe p)=true then .done (.done (80:Int)) else .next b) (λ_=>.next (x,())) () ?_ ?_ ?_]
        ·rw[k1 (q:=pe) _ _ (λ_=>rfl)];cases jr:x.2.2.2.1.all pe with
         | false=>simp[nA,jr]
         | true=>
          simp only[A.aG,if_true,A.b3];rw[A.eu x.2.2.2.2.1 (λi (_:Unit)=>((i:Int),x,())) (λp b=>if (!pf x.1 p)=true then .done (.done (80:Int)) else .next b) (λ_=>.next ()) () ?_ ?_ ?_]
          ·rw[k1 (q:=pf x.1) _ _ (λ_=>rfl)];simp only[Bool.and_eq_true]at cU;cases PI:x.2.2.2.2.1.all (pf x.1)<;>simp[nA,iu,aT,jr,PI,cU]
          ·rfl
          ·intro i G b;have hw:=bG (n:=(i:Int)+1) (by omega) (by omega);have ai:=E.1;have h5:=bG (n:=((x.1.1.length:Int)) - 1) (by omega) (by omega);simp only[bX,cY G,if_true,dm G,cI G,A.bo,A.aG,cp,hw,h5,qU,r4];have e:(!(decide (0<=(x.2.2.2.2.1[i]).1)&&decide ((x.2.2.2.2.1[i]).1<=99))||!(decide (0<=(x.2.2.2.2.1[i]).2.1)&&decide ((x.2.2.2.2.1[i]).2.1<(x.1.1.length:Int)))||!(decide (1<=(x.2.2.2.2.1[i]).2.2)&&decide ((x.2.2.2.2.1[i]).2.2<=10)))=!pf x.1 x.2.2.2.2.1[i]:=by
            unfold pf j2 hd b1;simp
           rw[e];exact nl (mk:=λ_:Unit=>((i:Int)+1,x,()))
          simp
        ·rfl
        ·intro i G b;have hw:=bG (n:=(i:Int)+1) (by omega) (by omega);simp only[bX,cY G,if_true,dm G,cI G,A.bo,A.aG,cp,hw,A.bu (show I5.pre x.2.2.2.1[i] from gL _ (List.getElem_mem G))];exact nl (mk:=λ_:Unit=>((i:Int)+1,x,()))
        simp
      ·rfl
      ·intro i G b;have hw:=bG (n:=(i:Int)+1) (by omega) (by omega);simp only[bX,cY G,if_true,dm G,cI G,A.bo,A.aG,cp,hw,A.og,A.gR,A.bu (show I4.pre (x,x.2.2.1[i]) from⟨aE,du _ (List.getElem_mem G)⟩)];exact nl (mk:=λ_:Unit=>((i:Int)+1,x,()))
      simp
    ·rfl
    ·intro i G b;have hw:=bG (n:=(i:Int)+1) (by omega) (by omega);simp only[bX,cY G,if_true,dm G,cI G,A.bo,A.aG,cp,hw];exact nl (mk:=λ_:Unit=>((i:Int)+1,x,()))
    simp
  ·rw[if_pos (by grind)]
   ·have:nA x=false:=by
     unfold nA;grind
    grind
 grind
theorem apz:IZ 201=true:=by decide +kernel
abbrev tu:aN:=⟨.aA (.int .u64) (.int .u64),.aA (.int .u64) (.int .u64),λx=>x.1=1/\0<=x.2/\x.2<=200,λx=>(0,x.2)⟩
theorem apA(x):A.le (VO x) (tu.sh x):=A.bw λh=>by
 obtain⟨a,b⟩:=x;obtain⟨E,U,ag⟩:=h;change a=1 at E;change 0<=b at U;change b<=200 at ag;subst E;have aU:=ZI 201 b.toNat apz (by omega);rw[Int.toNat_of_nonneg U]at aU;have hw:=PO (n:=1*b) (by omega) (by omega);have apB:((0:Int)<=32)=True:=by simp
 unfold VO;simp only[apB,A.bo];show A.pure (PR (1,b),IntKind.wrap .u64 (1*b))=_;grind
theorem apC(apD)(x):A.le (VM apD tu.sh x) (tu.sh x):=A.bw λh=>by
 unfold VM;simp only[aN.sh,A.dH];simp_all
section
variable {ak β:Type}
theorem apE(a d:ak)(m J:Nat)(E:1<=m)(U:m<J) :
  List.take m (List.replicate m a++List.replicate (J - m) d)++List.take (J - m) (List.take m (List.replicate m a++List.replicate (J - m) d))++
   List.drop (m+(List.take (J - m) (List.take m (List.replicate m a++List.replicate (J - m) d))).length) (List.replicate m a++List.replicate (J - m) d)
  =List.replicate (m+min (J - m) m) a++List.replicate (J - (m+min (J - m) m)) d:=by
 have ay:List.take m (List.replicate m a++List.replicate (J - m) d)=List.replicate m a:=by
  simp
 rw[ay,List.take_replicate,List.replicate_append_replicate,List.length_replicate,List.drop_append,List.length_replicate];have aP:List.drop (m+min (J - m) m) (List.replicate m a)=[]:=by simp
 grind
def ZN(d:ak)(fin:List ak->A β)(yn:Int×Int->A (Int×Int))(x:List ak)(n:Int):A β:=
 A.bind (if decide (n<0)=true then A.ad False (A.ad False (A.pure (V.next (x,n,())))) else A.pure (V.next (x,n,())))
 (V.bE λ(D:List ak×Int×Unit)=>A.bind (yn (IntKind.wrap .u64 (Int.ofNat (List.length D.1)),IntKind.wrap .u64 D.2.1)) λy
 =>A.bind (if (decide (y.1 > 0)||decide (y.2 > 9223372036854775807))=true then A.ad False (A.ad False (A.pure (V.next (D.1,y.2,())))) else
 A.pure (V.next (D.1,y.2,()))) (V.bE λ(D:List ak×Int×Unit)=>A.ad (0<=IntKind.wrap .i64 D.2.1/\IntKind.wrap .i64 D.2.1=
 IntKind.wrap .i64 D.2.1/\b_ (Int.toNat (IntKind.wrap .i64 D.2.1))) (A.ad True (A.bind (A.loop (λ(D:Int×List ak×Unit)=>if decide (D.1
 < Int.ofNat (List.length D.2.1))=true then A.ad (0<=D.1/\D.1<=Int.ofNat (List.length D.2.1)/\Int.ofNat (List.length D.2.1)<=Int.ofNat
 (List.length D.2.1)) (A.ad ((0:Int)<=0/\0<=D.1/\D.1<=Int.ofNat (List.length D.2.1)) (A.ad True (A.pure (V.next (IntKind.wrap .i64
 (Add.add D.1 (Int.ofNat (if Int.toNat (Int.ofNat (List.length D.2.1)) - Int.toNat D.1<=List.length (List.take (Int.toNat D.1) D.2.1) then Int.toNat
 (Int.ofNat (List.length D.2.1)) - Int.toNat D.1 else List.length (List.take (Int.toNat D.1) D.2.1)))),List.take (Int.toNat D.1) D.2.1++List.take
 (Int.toNat (Int.ofNat (List.length D.2.1)) - Int.toNat D.1) (List.take (Int.toNat D.1) D.2.1)++List.drop (Add.add (Int.toNat D.1) (List.length
 (List.take (Int.toNat (Int.ofNat (List.length D.2.1)) - Int.toNat D.1) (List.take (Int.toNat D.1) D.2.1)))) D.2.1,()))))) else A.bind (A.pure
 (V.next (D.2.1,()))) λr=>A.pure (V.done r)) (Int.ofNat (if List.length (List.replicate (Int.toNat (IntKind.wrap .i64 D.2.1)) d) - 0<=
 List.length D.1 then List.length (List.replicate (Int.toNat (IntKind.wrap .i64 D.2.1)) d) - 0 else List.length D.1),[]++List.take (List.length
 (List.replicate (Int.toNat (IntKind.wrap .i64 D.2.1)) d) - 0) D.1++List.drop (Add.add 0 (List.length (List.take (List.length (List.replicate
 (Int.toNat (IntKind.wrap .i64 D.2.1)) d) - 0) D.1))) (List.replicate (Int.toNat (IntKind.wrap .i64 D.2.1)) d),())) (V.bE λ(D:List ak×
 Unit)=>fin D.1)))))
theorem PX(d a:ak)(MV:List ak->β)(n:Int)(U:0<=n)(ag:n<=200):A.cv (ZN d (λl=>A.pure (MV l)) tu.sh [a] n) λy=>y=MV (List.replicate n.toNat a):=by
 obtain⟨J,rfl⟩:=Int.eq_ofNat_of_zero_le U;have I6:decide ((J:Int)<0)=false:=by simp
 have lX:IntKind.u64.wrap (Int.ofNat ([a]:List ak).length)=1:=PO (by simp) (by simp);have apF:=PO (n:=(J:Int)) (by omega) (by omega);have lG:=bG (n:=(J:Int)) (by omega) (by omega);have ao:tu.pre (1,(J:Int)):=⟨rfl,U,ag⟩
 have apG:decide ((J:Int) > 9223372036854775807)=false:=by grind
 have lV:b_ J:=by unfold b_;omega
 have M:0<=(J:Int)/\True/\b_ (Int.toNat (J:Int)):=⟨U,trivial,by grind⟩
 unfold ZN;simp only[I6,Bool.false_eq_true,if_false,A.aG,A.b3,lX,apF,aN.sh,A.dH];rw[A.bu (by grind)];simp only[gt_iff_lt,Int.lt_irrefl,decide_false,Bool.false_or,Bool.false_eq_true,if_false,A.aG,A.b3,lG];have apH:decide ((9223372036854775807:Int)<(J:Int))=false:=apG;simp only[apH,Bool.false_eq_true,if_false,A.aG,A.b3,lG];rw[A.bu M];simp only[A.bo,A.fZ,Int.toNat_natCast,List.length_replicate,Nat.sub_zero,List.nil_append,List.length_singleton,bX,gZ,Nat.zero_add];refine A.Ch (λs=>∃ m:Nat,(1<=m\/J=0)/\m<=J/\s=((m:Int),List.replicate m a++List.replicate (J - m) d,())) (λs=>J - s.1.toNat) ?_ _ ?_
 ·rintro s ⟨m,hm,ayS,rfl⟩;have hlen:(List.replicate m a++List.replicate (J - m) d).length=J:=by grind
  simp only[hlen];by_cases ck:m<J
  ·have gQ:0<=(m:Int)/\(m:Int)<=(J:Int)/\(J:Int)<=(J:Int):=by omega
   have cM:(0:Int)<=0/\0<=(m:Int)/\(m:Int)<=(J:Int):=by omega
   have kn:1<=m:=by omega
   have ZO:(List.take m (List.replicate m a++List.replicate (J - m) d)).length=m:=by simp
   simp only[cY ck,if_true,A.bu gQ,A.bu cM,A.bo,Int.toNat_natCast,ZO,cp];rw[A.d',apE a d m J kn ck];have apI:(if J - m<=m then J - m else m)=min (J - m) m:=by rfl
   rw[apI];have gY:=bG (n:=(m:Int)+((min (J - m) m:Nat):Int)) (by omega) (by omega);refine⟨⟨m+min (J - m) m,.inl (by omega),by omega,?_⟩,?_⟩
   ·rw[gY];simp
   ·simp only[gY];omega
  ·have:m=J:=by omega
   subst this;simp only[Int.lt_irrefl,decide_false,Bool.false_eq_true,if_false,A.aG,A.d',A.b3,Nat.sub_self,List.replicate_zero,List.append_nil]
 ·by_cases ayT:J=0
  ·grind
  ·refine⟨1,.inl (Nat.le_refl _),by omega,?_⟩;grind
end
abbrev I7:aN:=⟨.aA fP br,fP,λx=>x.1=[-1]/\0<=x.2/\x.2<=200,λx=>List.replicate x.2.toNat (-1)⟩
theorem apJ(x):A.le (akk tu.sh x) (I7.sh x):=A.s4 λh=>by
 obtain⟨l,n⟩:=x;obtain⟨E,U,ag⟩:=h;change l=[-1]at E;subst E;exact PX (0:Int) (-1) (λl=>l) n U ag
def wK(x:z1'×Int×Unit):A (z1'×Unit):=A.dQ (x.1=[-1]/\0<=x.2.1/\x.2.1<=200) (List.replicate x.2.1.toNat (-1),())
theorem ZP(x):A.le (akA tu.sh x) (wK x):=A.s4 λh=>by
 obtain⟨l,n,u⟩:=x;obtain⟨E,U,ag⟩:=h;change l=[-1]at E;subst E;exact PX (0:Int) (-1) (λl=>(l,())) n U ag
abbrev I8:ab:=.st (.aA br br)
abbrev I9:aN:=⟨.aA (.slice I8) br,.slice I8,λx=>x.1.length=1/\0<=x.2/\x.2<=200,λx=>List.replicate x.2.toNat (x.1.getD 0 (0,0))⟩
theorem apK(x):A.le (akx tu.sh x) (I9.sh x):=A.s4 λh=>by
 obtain⟨l,n⟩:=x;obtain⟨E,U,ag⟩:=h;change l.length=1 at E;obtain⟨a,rfl⟩:=List.length_eq_one_iff.1 E;exact PX ((0,0):Int×Int) a (λl=>l) n U ag
end Go.Fer
namespace Go.Fer
open A (V)
def yX(s:bJ)(n:Int):Bool:=decide (0<=n)&&decide (n<(s.2.2.2.1.length:Int))
def yY(s:bJ)(n:Int):Bool:=decide (0<=n)&&decide (n<(s.2.2.1.length:Int))
theorem apL{s:bJ}{n:Int}:yX s n=true<->0<=n/\n<(s.2.2.2.1.length:Int):=by simp[yX]
theorem apM{s:bJ}{n:Int}:yY s n=true<->0<=n/\n<(s.2.2.1.length:Int):=by simp[yY]
abbrev PY:aN:=⟨.aA mf br,dk,λx=>fF x.1,λx=>yX x.1 x.2⟩
abbrev PZ:aN:=⟨.aA mf br,dk,λx=>fF x.1,λx=>yY x.1 x.2⟩
theorem apN(x):A.le (V7 cq.sh x) (PY.sh x):=A.bw λh=>by
 have ai:=h.2.2.2.1;have hw:=bG (n:=(x.1.2.2.2.1.length:Int) - 1) (by omega) (by omega);unfold V7;simp[aN.sh,cq,hw,yX,r4]
theorem apO(x):A.le (Wa cq.sh x) (PZ.sh x):=A.bw λh=>by
 have ai:=h.2.2.1;have hw:=bG (n:=(x.1.2.2.1.length:Int) - 1) (by omega) (by omega);unfold Wa;simp[aN.sh,cq,hw,yY,r4]
def tv(x:dM)(p:dy):Int:=if (!x.1.contains p.1||!b1 p.2.1 x.2.1.1 x.2.1.2)=true then 0 else if p.2.2.1=x.2.2.1 then 1 else if p.2.2.1=0 then 2 else 0
abbrev wL:aN:=⟨.aA mO nz,br,λx=>x.1.1.length<2 ^ 63,λx=>tv x.1 x.2⟩
theorem apP(x):A.le (Wb cq.sh o9.sh x) (wL.sh x):=A.bw λh=>by
 unfold Wb;simp only[aN.sh,cq,o9,A.dH,A.je,implies_true,A.bo,qU];rw[A.bu (by exact h)];show _=A.pure (tv x.1 x.2);unfold tv b1;grind
def wM(s:bJ)(l:z1')(i:Nat):Bool:=decide (l.getD i 0=-1)||(yY s (l.getD i 0)&&!(l.take i).contains (l.getD i 0))
def wN(s:bJ)(l:z1'):Bool:=((List.range l.length).all (wM s l))&&decide ((l.length:Int)=(s.2.2.2.1.length:Int))
abbrev I_:aN:=⟨.aA mf fP,dk,λx=>fF x.1/\x.2.length<2 ^ 63,λx=>wN x.1 x.2⟩
theorem apQ(x):A.le (Wc PZ.sh o9.sh x) (I_.sh x):=A.bw λh=>by
 obtain⟨s,l⟩:=x;obtain⟨aE,ai⟩:=h;change fF s at aE;change l.length<2 ^ 63 at ai;unfold Wc;rw[A.eu (List.range l.length) (λi (_:Unit)=>(l,l,(l.length:Int),(i:Int),s,())) (λi b=>if (!wM s l i)=true then .done (.done false) else .next b) (λ_=>.next (l,s,())) () ?_ ?_ ?_]
 ·rw[k1 (q:=wM s l) _ _ (λ_=>rfl)];show _=A.pure (wN s l);unfold wN;cases (List.range l.length).all (wM s l)<;>simp
 ·simp
 ·intro i G b;have G:i<l.length:=by grind
  have hw:=bG (n:=(i:Int)+1) (by omega) (by omega);obtain⟨aK,jy⟩:∃ aK,l.getD i 0=aK:=⟨_,rfl⟩
  have cL:wM s l i=(decide (aK=-1)||(yY s aK&&!(l.take i).contains aK)):=by unfold wM;rw[jy]
  simp only[bX,cY G,if_true,List.getElem_range,cI G,A.bo,aN.sh,A.dH,A.je,Int.toNat_natCast,jy];rw[A.bu (by grind),A.bu,A.bu]
  ·simp only[A.aG,cp,hw,wM,jy];by_cases E:aK=-1
   ·simp_all
   ·cases U:yY s aK<;>cases ag:(l.take i).contains aK<;>simp[E,U,ag,V.hp]
  ·intro _;show (l.take i).length<2 ^ 63;rw[List.length_take];omega
  ·intro cU;exact⟨⟨cU,trivial,cU⟩,⟨by omega,by omega,by omega⟩,trivial⟩
 simp
def lb(s:bJ)(cc:Bool):Int:=if jj s≠0 then jj s else if cc=false then 1 else eF s.1 true
theorem ZQ{s:bJ}(h:jj s=0):cO s.1=0/\nA s=true:=by
 unfold jj at h;grind
theorem BH{s:bJ}{cc:Bool}(h:lb s cc=0):jj s=0/\cc=true/\eF s.1 true=0/\wH s.1=true:=by
 unfold lb at h;by_cases he:jj s=0
 ·rw[if_neg (by omega)]at h;cases cc with
  | false=>grind
  | true=>
   simp only[Bool.true_eq_false,if_false]at h;exact⟨he,rfl,h,(E6 h).2.2⟩
 omega
structure mg(s:bJ):Prop where
 gq:fF s
 tm:q8 s.1
 Fg:s.2.1.length=s.1.1.length
 q9:∀ n∈s.2.1,0<=n/\n<=10
 Fh:s.2.2.1.length<=8
 apR:∀ p∈s.2.2.1,qb s.1 p=true
 tw:s.2.2.2.1.length<=6
 ZR:∀ x∈s.2.2.2.1,pe x=true
 P0:s.2.2.2.2.1.length<=8
 ZS:∀ d∈s.2.2.2.2.1,pf s.1 d=true
 apS:0<=s.2.2.2.2.2/\s.2.2.2.2.2<=99
theorem BI{s:bJ}(aE:fF s)(h:jj s=0):mg s:=by
 obtain⟨E,U⟩:=ZQ h;simp only[nA,Bool.and_eq_true,decide_eq_true_eq,List.all_eq_true,b1,j2]at U;obtain⟨⟨⟨⟨⟨⟨⟨⟨aR,aW⟩,bL⟩,fA⟩,pG⟩,x0⟩,HO⟩,DZ⟩,Nn⟩:=U;exact⟨aE,⟨aE.1,PL E⟩,by omega,aW,by omega,fA,by omega,x0,by omega,DZ,Nn⟩
theorem mg.ZT{s:bJ}(h:mg s):s.1.1.length<=10:=(E4 h.tm.2).1
def I'(w:bA)(t:z5')(q:Int×Int×Int):z5':=if u4 w q.1 q.2.1 q.2.2=1 then v_ t q (IntKind.i64.wrap ((pd t q).getD 0+1)) else t
def ZU(w:bA)(i m:Nat)(t:z5'):z5':=(List.range (jB w (m:Int)).length).foldl (λt (k:Nat)=>I' w t ((i:Int),(m:Int),(k:Int))) t
def ZV(w:bA)(i:Nat)(t:z5'):z5':=(List.range w.2.1.length).foldl (λt m=>ZU w i m t) t
def pg(w:bA)(n:Nat):z5':=(List.range n).foldl (λt i=>ZV w i t) []
def lH(p:Int×Int)(n:Int):z4':=List.replicate n.toNat p
def Fi(l:z1'):z4':=(List.range l.length).flatMap λ(i:Nat)=>lH ((i:Int),0) (l.getD i 0)
def ZW(l:List Ej):z4':=l.flatMap λd=>lH (d.2.1,d.1) d.2.2
def P1(s:bJ):z4':=Fi s.2.1++ZW s.2.2.2.2.1
def dc(s:bJ):dw:=(s,P1 s,pg s.1 s.2.1.length)
def yZ(s:bJ)(cc:Bool):Option dw×Int:=if lb s cc≠0 then (none,lb s cc) else (some (dc s),0)
theorem P2{ak β:Type}(f:ak->List β):∀ (l:List ak) (b:List β),l.foldl (λb x=>b++f x) b=b++l.flatMap f
 | [],b=>by simp
 | x::l,b=>by rw[List.foldl_cons,P2 f l,List.flatMap_cons,List.append_assoc]
abbrev apT:ab:=.st (.aA br (.aA br br))
abbrev wO:ab:=.bH (.st (.aA mf (.aA (.slice I8) (.map apT br))))
abbrev BJ:aN:=⟨.aA mf dk,.aA wO br,λx=>fF x.1,λx=>yZ x.1 x.2⟩
theorem apU(s:bJ)(cc:Bool)(aE:fF s):Oq qc.sh yS.sh u5.sh I9.sh (s,cc)=A.pure (yZ s cc):=by
 unfold Oq yZ lb;simp only[aN.sh,A.dH,A.bu aE];by_cases he:jj s=0
 ·have ae:=BI aE he;simp only[he,ne_eq,not_true,decide_false,Bool.false_eq_true,if_false];cases cc with
  | false=>simp
  | true=>
   simp only[Bool.not_true,Bool.false_eq_true,if_false,Bool.true_eq_false];refine Eq.trans (congrArg (λm=>A.bind m _) (show _=(if eF s.1 true≠0 then A.pure (V.done ((none:Option dw),eF s.1 true)) else A.pure (V.next (s,([]:z5'),s.1.1,s.1.2.1,s.1.2.2.1,s.1.2.2.2,s.2.1,s.2.2.1,s.2.2.2.1,s.2.2.2.2.1,s.2.2.2.2.2,()))) from ?_)) ?_
   ·by_cases bk:s.2.1.length=0
    ·have aM:eF s.1 true=0:=by
      unfold eF;have aU:s.1.1.length=0:=by rw[<-ae.Fg];exact bk
      have:wH s.1=true:=by unfold wH;grind
      simp[(ZQ he).1,this]
     grind
    ·have E:decide (Int.ofNat (List.length s.2.1) > 0)=true:=by grind
     have U:hd s.1 0=true:=by rw[u0];have:=ae.Fg;omega
     rw[if_pos E,A.bu aE.1];unfold wI;rw[U];by_cases al:eF s.1 true=0
     ·simp[al]
     ·simp[al]
   by_cases zx:eF s.1 true=0
   ·simp only[zx,ne_eq,not_true,if_false,A.aG,A.b3];have ayU:=ae.ZT;have fk:=ae.Fg;have apV:s.1.2.1.length<=6:=(E4 ae.tm.2).2.1;rw[A.eu (List.range s.2.1.length) (λi t=>((s.2.1.length:Int),(i:Int),s,t,s.1.1,s.1.2.1,s.1.2.2.1,s.1.2.2.2,s.2.1,s.2.2.1,s.2.2.2.1,s.2.2.2.2.1,s.2.2.2.2.2,())) (λi t=>.next (ZV s.1 i t)) (λt=>.next (s,t,s.1.1,s.1.2.1,s.1.2.2.1,s.1.2.2.2,s.2.1,s.2.2.1,s.2.2.2.1,s.2.2.2.2.1,s.2.2.2.2.2,())) [] ?_ ?_ ?_]
    ·rw[fs];simp only[A.aG,A.b3];rw[A.gw (List.range s.2.1.length) (λi acc=>(s.2.1,(s.2.1.length:Int),(i:Int),s,pg s.1 s.2.1.length,s.1.1,s.1.2.1,s.1.2.2.1,s.1.2.2.2,s.2.1,s.2.2.1,s.2.2.2.1,s.2.2.2.2.1,s.2.2.2.2.2,acc,())) (λi acc=>.next (acc++lH ((i:Int),0) (s.2.1.getD i 0))) (λacc=>.next (s,pg s.1 s.2.1.length,s.1.1,s.1.2.1,s.1.2.2.1,s.1.2.2.2,s.2.1,s.2.2.1,s.2.2.2.1,s.2.2.2.2.1,s.2.2.2.2.2,acc,())) (λi acc=>acc.length<=10*i) [] ?_ ?_ ?_ ?_]
     ·rw[fs,P2];simp only[A.aG,A.b3,List.nil_append];have gv:(Fi s.2.1).length<=100:=by
       have:∀ (l:List Nat),(∀ i∈l,i<s.2.1.length)->(l.flatMap λ(i:Nat)=>lH ((i:Int),0) (s.2.1.getD i 0)).length<=10*l.length:=by
        intro l;induction l with
        | nil=>simp
        | cons i l aI=>
         intro ai;have E:=aI λj aF=>ai j (by grind);have U:=ai i (by simp);have ag:=ae.q9 _ (List.getElem_mem U);have jy:s.2.1.getD i 0=s.2.1[i]:=by grind
         rw[List.flatMap_cons,List.length_append,List.length_cons,jy];simp only[lH,List.length_replicate];simp only[lH]at E;omega
       have:=this (List.range s.2.1.length) (λi G=>by grind);rw[List.length_range]at this;unfold Fi;omega
      rw[A.gw s.2.2.2.2.1 (λi acc=>(s.2.2.2.2.1,(s.2.2.2.2.1.length:Int),(i:Int),pg s.1 s.2.1.length,s.1.1,s.1.2.1,s.1.2.2.1,s.1.2.2.2,s.2.1,s.2.2.1,s.2.2.2.1,s.2.2.2.2.1,s.2.2.2.2.2,acc,())) (λd acc=>.next (acc++lH (d.2.1,d.1) d.2.2)) (λacc=>.next (pg s.1 s.2.1.length,s.1.1,s.1.2.1,s.1.2.2.1,s.1.2.2.2,s.2.1,s.2.2.1,s.2.2.2.1,s.2.2.2.2.1,s.2.2.2.2.2,acc,())) (λi acc=>acc.length<=100+10*i) (Fi s.2.1) ?_ ?_ ?_ ?_]
      ·rw[fs,P2,A.aG,A.b3];rfl
      ·rfl
      ·omega
      ·intro i G acc PM;have ayV:=ae.P0;have h5:=bG (n:=(i:Int)+1) (by omega) (by omega);have ar:=ae.ZS _ (List.getElem_mem G);have DF:1<=s.2.2.2.2.1[i].2.2/\s.2.2.2.2.1[i].2.2<=10:=by
        simp only[pf,b1,Bool.and_eq_true,decide_eq_true_eq]at ar;omega
       have hlen:(lH (s.2.2.2.2.1[i].2.1,s.2.2.2.2.1[i].1) s.2.2.2.2.1[i].2.2).length<=10:=by simp only[lH,List.length_replicate];omega
       have lV:b_ (acc.length+(lH (s.2.2.2.2.1[i].2.1,s.2.2.2.2.1[i].1) s.2.2.2.2.1[i].2.2).length):=by unfold b_;omega
       refine⟨?_,λbe W=>?_⟩
       ·simp only[bX,cY G,if_true,dm G,cI G,A.bo,A.og,A.gR,cp,gZ,h5];rw[A.bu (by grind),A.bu (by exact lV)];rfl
       grind
      simp
     ·rfl
     ·simp
     ·intro i G acc PM;have G:i<s.2.1.length:=by grind
      have h5:=bG (n:=(i:Int)+1) (by omega) (by omega);have jy:s.2.1.getD i 0=s.2.1[i]:=by grind
      have DF:=ae.q9 _ (List.getElem_mem G);have hlen:(lH ((i:Int),0) s.2.1[i]).length<=10:=by simp only[lH,List.length_replicate];omega
      have lV:b_ (acc.length+(lH ((i:Int),0) s.2.1[i]).length):=by unfold b_;omega
      refine⟨?_,λbe W=>?_⟩
      ·simp only[bX,cY G,if_true,dm G,cI G,A.bo,A.og,A.gR,cp,gZ,h5,List.getElem_range,jy];rw[A.bu (by grind),A.bu (by exact lV)];rfl
      grind
     simp
    ·simp
    ·intro i G t;have G:i<s.2.1.length:=by grind
     have h5:=bG (n:=(i:Int)+1) (by omega) (by omega);simp only[bX,cY G,if_true,List.getElem_range];rw[A.eu (List.range s.1.2.1.length) (λm t=>((i:Int),(s.2.1.length:Int),(i:Int),s.1.2.1,(s.1.2.1.length:Int),(m:Int),s,t,s.1.1,s.1.2.1,s.1.2.2.1,s.1.2.2.2,s.2.1,s.2.2.1,s.2.2.2.1,s.2.2.2.2.1,s.2.2.2.2.2,())) (λm t=>.next (ZU s.1 i m t)) (λt=>.next ((s.2.1.length:Int),(i:Int),s,t,s.1.1,s.1.2.1,s.1.2.2.1,s.1.2.2.2,s.2.1,s.2.2.1,s.2.2.2.1,s.2.2.2.2.1,s.2.2.2.2.2,())) t ?_ ?_ ?_]
     ·rw[fs];simp only[A.aG,A.b3,cp,h5];rfl
     ·rfl
     ·intro m hm t;have hm:m<s.1.2.1.length:=by grind
      have Ja:=bG (n:=(m:Int)+1) (by omega) (by omega);have apW:s.1.2.1[m]=jB s.1 (m:Int):=by simp[jB,List.getD_eq_getElem?_getD,hm]
      simp only[bX,cY hm,if_true,List.getElem_range,cI hm,A.bo,dm hm,apW];have BA:=IN aE.1 (m:Int);rw[A.eu (List.range (jB s.1 (m:Int)).length) (λk t=>((i:Int),(m:Int),(s.2.1.length:Int),(i:Int),s.1.2.1,(s.1.2.1.length:Int),(m:Int),((jB s.1 (m:Int)).length:Int),(k:Int),s,t,s.1.1,s.1.2.1,s.1.2.2.1,s.1.2.2.2,s.2.1,s.2.2.1,s.2.2.2.1,s.2.2.2.2.1,s.2.2.2.2.2,())) (λk t=>.next (I' s.1 t ((i:Int),(m:Int),(k:Int)))) (λt=>.next ((i:Int),(s.2.1.length:Int),(i:Int),s.1.2.1,(s.1.2.1.length:Int),(m:Int),s,t,s.1.1,s.1.2.1,s.1.2.2.1,s.1.2.2.2,s.2.1,s.2.2.1,s.2.2.2.1,s.2.2.2.2.1,s.2.2.2.2.2,())) t ?_ ?_ ?_]
      ·rw[fs];simp only[A.aG,A.b3,cp,Ja];rfl
      ·rfl
      ·intro k al t;have al:k<(jB s.1 (m:Int)).length:=by grind
       have mM:=bG (n:=(k:Int)+1) (by omega) (by omega);have oc:hd s.1 (i:Int)=true:=by rw[u0];omega
       have apX:iU s.1 (m:Int) (k:Int)=true:=by rw[By];omega
       have au:me s.1 (i:Int) (m:Int) (k:Int)=(u4 s.1 (i:Int) (m:Int) (k:Int),0):=by simp[me,oc,apX,zx]
       simp only[cY al,if_true,List.getElem_range];simp only[au,A.bu aE.1,decide_eq_true_eq];by_cases E:u4 s.1 (i:Int) (m:Int) (k:Int)=1
       ·simp only[E,if_true,and_self,A.bo,A.aG,A.b3,cp,mM,V.hp,I'];rfl
       ·simp only[E,if_false,A.aG,A.b3,cp,mM,V.hp,I'];rfl
      simp
     simp
    simp
   ·simp[zx]
 grind
theorem apY(x):A.le (Oq qc.sh yS.sh u5.sh I9.sh x) (BJ.sh x):=A.bw λh=>apU x.1 x.2 h
theorem apZ{p:Int->Bool}{l:z1'}(h:j3 p l=true):∀ x∈l,p x=true:=by
 intro x ah;obtain⟨i,G,rfl⟩:=List.mem_iff_getElem.1 ah;unfold j3 at h;simp_all
theorem ap0{p:Int->Bool}{l:z1'}(h:j3 p l=true):l.Pairwise (·<·):=by
 unfold j3 at h;rw[List.all_eq_true]at h;have step:∀ i,i+1<l.length->l.getD i 0<l.getD (i+1) 0:=λi G=>by
  grind
 have key:∀ j i,i<j->j<l.length->l.getD i 0<l.getD j 0:=by
  intro j;induction j with
  | zero=>omega
  | succ j aI=>
   grind
 rw[List.pairwise_iff_getElem];grind
theorem P3{s:bJ}(ae:mg s){p:dy}(ao:p∈s.2.2.1):ot s.1 p.2.2.2.1=true/\p.2.2.2.2.length<=4/\∀ k∈p.2.2.2.2,iU s.1 p.2.2.2.1 k=true:=by
 have h:=ae.apR p ao;simp only[qb,Bool.and_eq_true]at h;obtain⟨⟨_,hm⟩,M⟩:=h;have fG:∀ k∈p.2.2.2.2,iU s.1 p.2.2.2.1 k=true:=λk al=>by
  have:=apZ M k al;rw[By];simp only[E',Bool.and_eq_true,decide_eq_true_eq]at this;exact⟨IM.1 hm,this⟩
 refine⟨hm,?_,fG⟩;have ap1:=ap0 M;have uf:p.2.2.2.2.Nodup:=ap1.imp λh e=>by omega
 cases W:p.2.2.2.2 with
 | nil=>simp
 | cons k l=>
  rw[<-W];have a7:=aos ae.tm.2 (fG k (by grind));have:=PQ (jB s.1 p.2.2.2.1).length p.2.2.2.2 uf λk al=>by
   have:=By.1 (fG k al);omega
  omega
abbrev r_:Type:=Int×Int×Int
abbrev ap2:dM:=([],(0,0),0,0,0)
abbrev ap3:dy:=(0,0,0,0,[])
abbrev y0:dw:=((([],[],0,[]),[],[],[],[],0),[],[])
def mh(s:bJ)(i:Int):dM:=s.2.2.2.1.getD i.toNat ap2
def nB(s:bJ)(i:Int):dy:=s.2.2.1.getD i.toNat ap3
def wP(s:bJ)(x:dM)(p:dy):Option Int:=if tv x p=0 then none else if (if tv x p=2 then x.2.2.2.1 - s.2.2.2.2.2 else x.2.2.2.1)<0 then none else some (if tv x p=2 then x.2.2.2.1 - s.2.2.2.2.2 else x.2.2.2.1)
def ph(s:bJ)(cy:z1')(i:Nat):Option (List r_):=if cy.getD i 0<0 then some [] else (wP s (mh s (i:Int)) (nB s (cy.getD i 0))).map λd=>(nB s (cy.getD i 0)).2.2.2.2.map λk=>((nB s (cy.getD i 0)).2.2.2.1,k,d)
def jD(s:bJ)(cy:z1'):List r_×Bool:=if ((List.range cy.length).all λi=>(ph s cy i).isSome)=true then ((List.range cy.length).flatMap λi=>(ph s cy i).getD [],true) else ([],false)
def nC(s:bJ)(cy:z1'):Prop:=cy.length<=s.2.2.2.1.length/\∀ p∈cy,p<(s.2.2.1.length:Int)
def ou(o:Option dw):bJ:=(o.getD y0).1
def wQ(o:Option dw)(s:bJ):Prop:=o=some (dc s)/\mg s
theorem Jb{s:bJ}{i:Nat}(h:i<s.2.2.2.1.length):mh s (i:Int)∈s.2.2.2.1:=by
 simp[mh,List.getD_eq_getElem?_getD,h]
theorem ZX{s:bJ}{i:Int}(aU:0<=i)(h:i<(s.2.2.1.length:Int)):nB s i∈s.2.2.1:=yk aU h
theorem P4{s:bJ}(ae:mg s){x:dM}(ah:x∈s.2.2.2.1):(0<=x.2.2.2.1/\x.2.2.2.1<=99)/\(0<=x.2.2.2.2/\x.2.2.2.2<=100000):=by
 have:=ae.ZR x ah;simp only[pe,j2,b1,Bool.and_eq_true,decide_eq_true_eq]at this;omega
theorem ZY{s:bJ}(ae:mg s){cy:z1'}(ao:nC s cy){i:Nat}(G:i<cy.length){l:List r_}(h:ph s cy i=some l):l.length<=4:=by
 unfold ph at h;split at h
 ·grind
 ·rename_i I6;rw[Option.map_eq_some_iff]at h;obtain⟨d,_,rfl⟩:=h;rw[List.length_map];have hm:cy.getD i 0∈cy:=by grind
  exact (P3 ae (ZX (by omega) (ao.2 _ hm))).2.1
def BK{ak β aJ:Type}(f:ak->Option (List β))(r:aJ)(x:ak)(b:List β):V (List β) aJ:=if (f x).isSome=true then .next (b++(f x).getD []) else .done r
theorem Fj{ak β aJ:Type}{f:ak->Option (List β)}{r:aJ}{x:ak}{b y:List β}(h:f x=some y):BK f r x b=.next (b++y):=by simp[BK,h]
theorem Jc{ak β aJ:Type}{f:ak->Option (List β)}{r:aJ}{x:ak}{b:List β}(h:f x=none):BK f r x b=.done r:=by simp[BK,h]
theorem ZZ{ak β aJ:Type}{f:ak->Option (List β)}{r:aJ}{fin:List β->aJ}:∀ (l:List ak) (b:List β),eY (BK f r) fin l b=if (l.all λx=>(f x).isSome)=true then fin (b++l.flatMap λx=>(f x).getD []) else r
 | [],b=>by simp[eY]
 | x::l,b=>by
  simp only[eY];cases h:f x with
  | none=>simp[Jc h,h]
  | some y=>
   have:=ZZ (f:=f) (r:=r) (fin:=fin) l (b++y);simp only[Fj h,List.all_cons,h,Option.isSome_some,Bool.true_and,List.flatMap_cons,Option.getD_some];grind
abbrev Jd:ab:=.st (.aA br (.aA br br))
abbrev Je:aN:=⟨.aA wO fP,.aA (.slice Jd) dk,λx=>∃ s,wQ x.1 s/\nC s x.2,λx=>jD (ou x.1) x.2⟩
theorem ap4(s:bJ)(ae:mg s)(cy:z1')(ao:nC s cy):Ot wL.sh (some (dc s),cy)=A.pure (jD s cy):=by
 unfold Ot;have BL:=ae.tw;have ayW:=ao.1;simp only[Option.isSome_some,Option.getD_some,A.bo];rw[A.gw (List.range cy.length) (λi acc=>(some (dc s),cy,(cy.length:Int),(i:Int),acc,())) (BK (ph s cy) (.done ([],false))) (λacc=>.next (acc,())) (λi acc=>acc.length<=4*i) [] ?_ ?_ ?_ ?_]
 ·rw[ZZ];unfold jD;by_cases h:((List.range cy.length).all λi=>(ph s cy i).isSome)=true
  ·simp[h]
  ·simp[h]
 ·rfl
 ·simp
 ·intro i G acc PM;have G:i<cy.length:=by grind
  have tx:i<s.2.2.2.1.length:=by omega
  have h5:=bG (n:=(i:Int)+1) (by omega) (by omega);have Jf:=Jb tx;rw[List.getElem_range];obtain⟨aK,ap5⟩:∃ aK,cy.getD i 0=aK:=⟨_,rfl⟩
  have ap6:aK∈cy:=by grind
  refine⟨?_,λbe W=>?_⟩
  ·simp only[bX,cY G,if_true,Int.toNat_natCast,ap5,cI G,A.bo,Option.isSome_some,Option.getD_some];by_cases I6:aK<0
   ·have na:ph s cy i=some []:=by unfold ph;grind
    rw[Fj na];simp_all
   ·have iu:aK<(s.2.2.1.length:Int):=ao.2 aK ap6;have ap7:=ZX (s:=s) (by omega) iu;have gQ:0<=aK/\aK<(s.2.2.1.length:Int):=⟨by omega,iu⟩
    have gv:(dc s).1=s:=rfl;have BM:List.getD s.2.2.2.1 i ([],(0,0),0,0,0)=mh s (i:Int):=rfl;have P5:List.getD s.2.2.1 aK.toNat (0,0,0,0,[])=nB s aK:=rfl;simp only[I6,decide_false,Bool.false_eq_true,if_false,gv,cI tx,A.bu gQ,A.bo,aN.sh,A.dH,BM,P5];have na:ph s cy i=(wP s (mh s (i:Int)) (nB s aK)).map λd=>(nB s aK).2.2.2.2.map λk=>((nB s aK).2.2.2.1,k,d):=by unfold ph;grind
    rw[A.bu (show wL.pre (mh s (i:Int),nB s aK) from ae.gq.2.2.2.2.2.2 _ Jf)];obtain⟨ayX,_⟩:=P4 ae Jf;have lY:=ae.apS;obtain⟨apV,iH,Dx⟩:=P3 ae ap7;have ap8:=bG (n:=(mh s (i:Int)).2.2.2.1 - s.2.2.2.2.2) (by omega) (by omega);generalize mh s (i:Int)=x at *
    generalize nB s aK=p at *
    by_cases aU:tv x p=0
    ·have ar:wP s x p=none:=by unfold wP;grind
     rw[ar]at na;rw[Jc na];simp only[aU,decide_true,if_true,A.aG,A.pV,V.hp]
    ·by_cases U:tv x p=2;all_goals simp only[aU,U,decide_true,decide_false,Bool.false_eq_true,if_false,if_true,A.aG,A.b3,ap8,Int.reduceEq]
     ·have ar:wP s x p=(if x.2.2.2.1 - s.2.2.2.2.2<0 then none else some (x.2.2.2.1 - s.2.2.2.2.2)):=by unfold wP;grind
      generalize x.2.2.2.1 - s.2.2.2.2.2=d at *
      by_cases rN:d<0
      ·rw[if_pos rN]at ar;rw[ar]at na;rw[Jc na];simp_all
      ·rw[if_neg rN]at ar;rw[ar]at na;rw[Fj na];simp only[rN,decide_false,Bool.false_eq_true,if_false];rw[A.gw p.2.2.2.2 (λk acc=>(some (dc s),d,cy,(cy.length:Int),(i:Int),p.2.2.2.2,(p.2.2.2.2.length:Int),(k:Int),acc,p,())) (λk acc=>.next (acc++[(p.2.2.2.1,k,d)])) (λacc=>.next (some (dc s),cy,(cy.length:Int),(i:Int),acc,())) (λk y1=>y1.length<=4*i+k) acc ?_ ?_ ?_ ?_]
       ·rw[fs,yj];simp_all
       ·rfl
       ·omega
       ·intro k al y1 ap9;have mM:=bG (n:=(k:Int)+1) (by omega) (by omega);have lV:b_ (y1.length+(0+1)):=by unfold b_;omega
        refine⟨?_,λbe W=>?_⟩
        ·simp_all
        grind
       simp
     ·have ar:wP s x p=(if x.2.2.2.1<0 then none else some x.2.2.2.1):=by unfold wP;grind
      generalize x.2.2.2.1=d at *
      by_cases rN:d<0
      ·omega
      ·rw[if_neg rN]at ar;rw[ar]at na;rw[Fj na];simp only[rN,decide_false,Bool.false_eq_true,if_false];rw[A.gw p.2.2.2.2 (λk acc=>(some (dc s),d,cy,(cy.length:Int),(i:Int),p.2.2.2.2,(p.2.2.2.2.length:Int),(k:Int),acc,p,())) (λk acc=>.next (acc++[(p.2.2.2.1,k,d)])) (λacc=>.next (some (dc s),cy,(cy.length:Int),(i:Int),acc,())) (λk y1=>y1.length<=4*i+k) acc ?_ ?_ ?_ ?_]
       ·rw[fs,yj];simp_all
       ·rfl
       ·omega
       ·intro k al y1 ap9;have mM:=bG (n:=(k:Int)+1) (by omega) (by omega);have lV:b_ (y1.length+(0+1)):=by unfold b_;omega
        refine⟨?_,λbe W=>?_⟩
        ·simp_all
        grind
       simp
  ·cases na:ph s cy i with
   | none=>rw[Jc na]at W;cases W
   | some y=>
    rw[Fj na]at W;cases W;have:=ZY ae ao G na;grind
 simp
theorem ap_(x):A.le (Ot wL.sh x) (Je.sh x):=A.bw λh=>by
 obtain⟨o,cy⟩:=x;obtain⟨s,⟨au,ae⟩,ao⟩:=h;change o=_ at au;subst au;exact ap4 s ae cy ao
def pj(s:bJ)(cy:z1'):Int:=((List.range cy.length).map λ(i:Nat)=>if cy.getD i 0=-1 then 0 else (mh s (i:Int)).2.2.2.2).foldl (·+·) 0
abbrev tz:aN:=⟨.aA wO fP,br,λx=>∃ s,wQ x.1 s/\x.2.length<=s.2.2.2.1.length,λx=>pj (ou x.1) x.2⟩
theorem ap'(s:bJ)(ae:mg s)(cy:z1')(ao:cy.length<=s.2.2.2.1.length):Oz (some (dc s),cy)=A.pure (pj s cy):=by
 unfold Oz;have BL:=ae.tw;rw[A.gw (List.range cy.length) (λi (n:Int)=>(some (dc s),n,cy,(cy.length:Int),(i:Int),())) (λ(i:Nat) n=>.next (n+if cy.getD i 0=-1 then 0 else (mh s (i:Int)).2.2.2.2)) (λn=>.next (n,())) (λi n=>0<=n/\n<=100000*i) 0 ?_ ?_ ?_ ?_]
 ·rw[fs];unfold pj;rw[List.foldl_map,A.aG,A.b3]
 ·rfl
 ·simp
 ·intro i G n aw;have G:i<cy.length:=by grind
  have tx:i<s.2.2.2.1.length:=by omega
  have h5:=bG (n:=(i:Int)+1) (by omega) (by omega);obtain⟨_,oV⟩:=P4 ae (Jb tx);have BM:List.getD s.2.2.2.1 i ([],(0,0),0,0,0)=mh s (i:Int):=rfl;have BF:=bG (n:=n+(mh s (i:Int)).2.2.2.2) (by omega) (by omega);have gv:(dc s).1=s:=rfl;rw[List.getElem_range];refine⟨?_,λbe W=>?_⟩
  ·simp only[bX,cY G,if_true,Int.toNat_natCast,cI G,cI tx,A.bo,Option.isSome_some,Option.getD_some,cp,gv,BM];by_cases E:cy.getD i 0=-1
   ·simp only[E,ne_eq,not_true,decide_false,Bool.false_eq_true,if_false,if_true,A.aG,A.b3,h5,Int.add_zero,V.hp];rfl
   ·simp only[E,ne_eq,not_false_iff,decide_true,if_false,if_true,cI tx,A.bo,A.aG,A.b3,h5,BF,V.hp];rfl
  grind
 simp
theorem aqa(x):A.le (Oz x) (tz.sh x):=A.bw λh=>by
 obtain⟨o,cy⟩:=x;obtain⟨s,⟨au,ae⟩,ao⟩:=h;change o=_ at au;subst au;exact ap' s ae cy ao
theorem Fk{l:z1'}{j i:Nat}{s:Int}(aF:j<l.length):(l.set j s).getD i 0=if i=j then s else l.getD i 0:=by
 grind
abbrev Z0(fit:List (z1'))(j:Int):z1':=fit.getD j.toNat []
def aqb(q9 work:z1')(s:Int):Prop:=q9.getD s.toNat 0<=((PS work s).length:Int)
def aqc(fit:List (z1'))(q9 work:z1')(C:Int->Prop):Prop:=∀ j,C j->∀ s∈Z0 fit j,aqb q9 work s/\∀ h∈PS work s,C h
def aqd(n:Nat)(q9 work:z1'):Prop:=∀ s,0<=s->s<(n:Int)->((PS work s).length:Int)<=q9.getD s.toNat 0
structure ayY(n:Nat)(fit:List (z1'))(q9:z1')(k:Nat)(work:z1'):Prop where
 len:work.length=fit.length
 val:aqd n q9 work
 mem:∀ i:Nat,i<fit.length->work.getD i 0=-1\/work.getD i 0∈Z0 fit (i:Int)
 cm:∀ i:Nat,k<=i->i<fit.length->work.getD i 0=-1
 P6:∃ C,aqc fit q9 work C/\(∀ c,C c->0<=c/\c<(k:Int))/\∀ i:Nat,i<k->work.getD i 0=-1->C (i:Int)
theorem aqe{J i:Nat}(h:i<J):(List.replicate J (-1:Int)).getD i 0=-1:=by
 grind
theorem Z1(a b:Int):(if a=b then 1 else 0)=(if b=a then 1 else (0:Nat)):=by
 grind
def gT(g:z1')(j:Int):Nat:=g.countP λx=>decide (x=j)
theorem P7:∀ {g:z1'} {i:Nat} {x:Int} (j:Int),i<g.length->gT (g.set i x) j+(if g.getD i 0=j then 1 else 0)=gT g j+(if x=j then 1 else 0)
 | [],i,x,j,h=>by grind
 | y::g,0,x,j,h=>by
  unfold gT;grind
 | y::g,i+1,x,j,h=>by
  have:=P7 (g:=g) (i:=i) (x:=x) j (by grind);unfold gT at *
  grind
theorem aqf{g:z1'}{i:Nat}{j:Int}(G:i<g.length)(h:g.getD i 0=j):0<gT g j:=by
 unfold gT;grind
def ov(gd:Nat->Int->Bool)(rec:Int->la->Bool×la)(an:Int)(i:Nat)(st:la):V la (Bool×la):=
 if (decide (cS st.2 (i:Int) > 0)||!gd i an)=true then .next st
 else if decide (st.1.getD i 0=-1)=true then .done (true,(st.1.set i an,fa st.2 (i:Int) (cS st.2 (i:Int)+1)))
 else if (rec (st.1.getD i 0) (st.1,fa st.2 (i:Int) (cS st.2 (i:Int)+1))).1=true then .done (true,((rec (st.1.getD i 0) (st.1,fa st.2 (i:Int) (cS st.2 (i:Int)+1))).2.1.set i an,(rec (st.1.getD i 0) (st.1,fa st.2 (i:Int) (cS st.2 (i:Int)+1))).2.2))
 else .next (rec (st.1.getD i 0) (st.1,fa st.2 (i:Int) (cS st.2 (i:Int)+1))).2
def j4(gd:Nat->Int->Bool)(m:Nat):Nat->Int->la->Bool×la
 | 0=>λ_ st=>(false,st)
 | f+1=>λan st=>eY (ov gd (j4 gd m f) an) (λst=>(false,st)) (List.range m) st
def P8(m J:Nat)(g:z1'):Prop:=∀ i,i<m->g.getD i 0=-1\/(0<=g.getD i 0/\g.getD i 0<(J:Int))
structure y2(m J f:Nat)(st:la):Prop where
 len:st.1.length=m
 mi:P8 m J st.1
 seen:∀ k,0<=cS st.2 k/\cS st.2 k<=1
 cj:r7 m st.2<f
structure P9(m J:Nat)(st r:la):Prop where
 len:r.1.length=m
 mi:P8 m J r.1
 seen:∀ k,cS st.2 k<=cS r.2 k/\cS r.2 k<=1
def Z2(gd:Nat->Int->Bool)(m:Nat)(g:z1')(C:Int->Prop):Prop:=∀ j,C j->∀ i,i<m->gd i j=true->g.getD i 0≠-1/\C (g.getD i 0)
def Z3(gd:Nat->Int->Bool)(m:Nat)(g:z1')(s s':z4'):Prop:=∀ i,i<m->cS s (i:Int)=0->1<=cS s' (i:Int)->g.getD i 0≠-1/\∀ k,k<m->gd k (g.getD i 0)=true->1<=cS s' (k:Int)
structure P_(gd:Nat->Int->Bool)(m:Nat)(an:Int)(st:la)(r:Bool×la):Prop where
 P':r.1=false->r.2.1=st.1/\(∀ i,i<m->gd i an=true->1<=cS r.2.2 (i:Int))/\Z3 gd m st.1 st.2 r.2.2
 Z4:r.1=true->(∀ i,i<m->r.2.1.getD i 0=st.1.getD i 0\/(cS st.2 (i:Int)=0/\gd i (r.2.1.getD i 0)=true))/\∀ j,j≠-1->gT r.2.1 j=gT st.1 j+(if j=an then 1 else 0)
 cl:∀ C,Z2 gd m st.1 C->(C an->r.1=false)/\(r.1=true->∀ i,i<m->r.2.1.getD i 0≠st.1.getD i 0->∀ c,C c->gd i c=false)
def Z5(gd:Nat->Int->Bool)(m J f:Nat)(rec:Int->la->Bool×la):Prop:=∀ an st,0<=an->an<(J:Int)->y2 m J f st->P9 m J st (rec an st).2/\P_ gd m an st (rec an st)
theorem aqg{gd:Nat->Int->Bool}{m J f:Nat}{rec:Int->la->Bool×la}(EL:Z5 gd m J f rec){an:Int}(Z6:0<=an)(Z7:an<(J:Int)){st:la}(aU:y2 m J (f+1) st) :
  P9 m J st (eY (ov gd rec an) (λst=>(false,st)) (List.range m) st).2/\P_ gd m an st (eY (ov gd rec an) (λst=>(false,st)) (List.range m) st):=by
 refine ao' (λk b=>b.1=st.1/\(∀ q,cS st.2 q<=cS b.2 q/\cS b.2 q<=1)/\(∀ i,i<k->i<m->gd i an=true->1<=cS b.2 (i:Int))/\Z3 gd m st.1 st.2 b.2)
  (λr:Bool×la=>P9 m J st r.2/\P_ gd m an st r) (List.range m) st ⟨rfl,λq=>⟨Int.le_refl _,(aU.seen q).2⟩,λi G=>by omega,λi _ E U=>by omega⟩ (λi G b W=>?_) λb W=>?_
 ·obtain⟨hw,nu,Jg,lp⟩:=W;have G:i<m:=by grind
  rw[List.getElem_range];have vM:∀ q,0<=cS b.2 q:=λq=>Int.le_trans (aU.seen q).1 (nu q).1;unfold ov;by_cases hc:(decide (cS b.2 (i:Int) > 0)||!gd i an)=true
  ·grind
  ·rw[if_neg hc];simp only[Bool.or_eq_true,not_or,decide_eq_true_eq,Bool.not_eq_true',Bool.not_eq_false]at hc;obtain⟨bk,aC⟩:=hc;have bk:cS b.2 (i:Int)=0:=by grind
   have Ly:cS st.2 (i:Int)=0:=by have:=(nu i).1;have:=(aU.seen i).1;omega
   have qC:i<st.1.length:=by rw[aU.len];exact G
   have kn:∀ q,cS b.2 q<=cS (fa b.2 (i:Int) (cS b.2 (i:Int)+1)) q/\cS (fa b.2 (i:Int) (cS b.2 (i:Int)+1)) q<=1:=λq=>by
    have:=nu q;rw[BG];omega
   have ayZ:cS (fa b.2 (i:Int) (cS b.2 (i:Int)+1)) (i:Int)=1:=by rw[BG,if_pos rfl,bk];rfl
   by_cases au:st.1.getD i 0=-1
   ·rw[hw,if_pos (by grind)];refine⟨⟨by show (st.1.set i an).length=m;rw[List.length_set];exact aU.len,λk al=>?_,λq=>⟨Int.le_trans (nu q).1 (kn q).1,(kn q).2⟩⟩,λh=>(by cases h),λ_=>⟨λk al=>?_,λj aF=>?_⟩,λC jr=>⟨λQa=>?_,λ_ k al eC c hc=>?_⟩⟩
    ·show (st.1.set i an).getD k 0=-1\/(0<=(st.1.set i an).getD k 0/\(st.1.set i an).getD k 0<(J:Int))
     rw[Fk qC];split
     ·omega
     ·exact aU.mi k al
    ·grind
    ·have:=P7 (x:=an) j qC;grind
    ·exact absurd au (jr an Qa i G aC).1
    ·change (st.1.set i an).getD k 0≠_ at eC;rw[Fk qC]at eC;split at eC
     ·rename_i e;subst e;cases Qb:gd k c with
      | false=>rfl
      | true=>exact absurd au (jr c hc k G Qb).1
     omega
   ·rw[hw,if_neg (by grind)];have iQ:=(aU.mi i G).resolve_left au;have wR:y2 m J f (st.1,fa b.2 (i:Int) (cS b.2 (i:Int)+1)):=by
     refine⟨aU.len,aU.mi,λq=>⟨Int.le_trans (vM q) (kn q).1,(kn q).2⟩,?_⟩;have E:=ZK (n:=m) (m:=b.2) (s:=(i:Int)) (v:=cS b.2 (i:Int)+1) (by omega) (by omega) bk (by omega);have U:=ZL (n:=m) (a:=st.2) (b:=b.2) λk=>⟨(aU.seen k).1,(nu k).1⟩
     have ag:=aU.cj;grind
    obtain⟨ao,M⟩:=EL (st.1.getD i 0) _ iQ.1 iQ.2 wR;revert ao M;generalize rec (st.1.getD i 0) (st.1,fa b.2 (i:Int) (cS b.2 (i:Int)+1))=r;intro ao M;have x4:∀ q,cS (fa b.2 (i:Int) (cS b.2 (i:Int)+1)) q<=cS r.2.2 q:=λq=>(ao.seen q).1;by_cases bN:r.1=true
    ·rw[if_pos bN];obtain⟨kZ,BN⟩:=M.Z4 bN;have um:i<r.2.1.length:=by rw[ao.len];exact G
     have CY:r.2.1.getD i 0=st.1.getD i 0:=by
      grind
     refine⟨⟨by show (r.2.1.set i an).length=m;rw[List.length_set];exact ao.len,λk al=>?_,λq=>⟨Int.le_trans (nu q).1 (Int.le_trans (kn q).1 (x4 q)),(ao.seen q).2⟩⟩,λh=>(by cases h),λ_=>⟨λk al=>?_,λj aF=>?_⟩,λC jr=>⟨λQa=>?_,λ_ k al eC c hc=>?_⟩⟩
     ·show (r.2.1.set i an).getD k 0=-1\/(0<=(r.2.1.set i an).getD k 0/\(r.2.1.set i an).getD k 0<(J:Int))
      rw[Fk um];split
      ·omega
      ·exact ao.mi k al
     ·show (r.2.1.set i an).getD k 0=_\/(_/\gd k ((r.2.1.set i an).getD k 0)=true)
      rw[Fk um];split
      ·grind
      ·rcases kZ k al with e | ⟨ay,aP⟩
       ·grind
       ·right;refine⟨?_,aP⟩;have a:=(kn (k:Int)).1;have d:=nu (k:Int);have c:=(aU.seen (k:Int)).1;grind
     ·have a:=P7 (x:=an) j um;have d:=BN j aF;change gT r.2.1 j=gT st.1 j+_ at d;rw[CY]at a;show gT (r.2.1.set i an) j=_;rw[Z1 j an];rw[Z1 j (st.1.getD i 0)]at d;omega
     ·have:=(M.cl C jr).1 (jr an Qa i G aC).2;grind
     ·change (r.2.1.set i an).getD k 0≠_ at eC;rw[Fk um]at eC;split at eC
      ·rename_i e;subst e;cases Qb:gd k c with
       | false=>rfl
       | true=>
        have:=(M.cl C jr).1 (jr c hc k G Qb).2;grind
      ·exact (M.cl C jr).2 bN k al eC c hc
    ·rw[if_neg bN];have Dq:r.1=false:=by grind
     obtain⟨Ds,ay0,aqh⟩:=M.P' Dq;refine⟨Ds,λq=>⟨Int.le_trans (nu q).1 (Int.le_trans (kn q).1 (x4 q)),(ao.seen q).2⟩,λk al Qc Hn=>?_,λk Qc bF ay=>?_⟩
     ·grind
     ·by_cases e:k=i
      ·grind
      ·by_cases aP:1<=cS b.2 (k:Int)
       ·obtain⟨a,c⟩:=lp k Qc bF aP;grind
       ·refine aqh k Qc ?_ ay;show cS (fa b.2 (i:Int) (cS b.2 (i:Int)+1)) (k:Int)=0;rw[BG,if_neg (by omega)];grind
 ·obtain⟨hw,nu,Jg,lp⟩:=W;rw[List.length_range]at Jg;refine⟨⟨by rw[hw];exact aU.len,by rw[hw];exact aU.mi,nu⟩,λ_=>⟨hw,λi G aC=>Jg i G G aC,lp⟩,λh=>(by cases h),λC jr=>⟨λ_=>rfl,λh=>(by cases h)⟩⟩
theorem Qd{gd:Nat->Int->Bool}{m J:Nat}:∀ f,Z5 gd m J f (j4 gd m f)
 | 0=>λan st _ _ h=>absurd h.cj (by omega)
 | f+1=>λan st aU E h=>aqg (Qd f) aU E h
def qd(gd:Nat->Int->Bool)(m F:Nat)(st:z1'×Int)(j:Nat):z1'×Int:=((j4 gd m F (j:Int) (st.1,[])).2.1,if (j4 gd m F (j:Int) (st.1,[])).1=true then st.2 else st.2+1)
def y3(gd:Nat->Int->Bool)(m J F:Nat):z1'×Int:=(List.range J).foldl (qd gd m F) (List.replicate m (-1),0)
structure Fl(gd:Nat->Int->Bool)(m J k:Nat)(st:z1'×Int):Prop where
 len:st.1.length=m
 mi:∀ i,i<m->st.1.getD i 0=-1\/(0<=st.1.getD i 0/\st.1.getD i 0<(k:Int)/\gd i (st.1.getD i 0)=true)
 one:∀ j,0<=j->gT st.1 j<=1
 num:st.2=(((List.range k).countP λ(j:Nat)=>decide (gT st.1 (j:Int)=0):Nat):Int)
 P6:∃ C,Z2 gd m st.1 C/\(∀ c,C c->0<=c/\c<(k:Int))/\∀ j:Nat,j<k->gT st.1 (j:Int)=0->C (j:Int)
theorem Z8{gd:Nat->Int->Bool}{m J F k:Nat}(bn:m<F)(al:k<J){st:z1'×Int}(h:Fl gd m J k st):Fl gd m J (k+1) (qd gd m F st k):=by
 obtain⟨g,n⟩:=st;have hu:r7 m []<=m:=by
  unfold r7;exact Nat.le_trans List.countP_le_length (by simp)
 have wR:y2 m J F (g,[]):=⟨h.len,λi G=>by have:=h.mi i G;grind,λq=>⟨Int.le_refl _,by show (0:Int)<=1;decide⟩,by grind⟩
 obtain⟨ao,M⟩:=Qd F (k:Int) (g,[]) (by omega) (by omega) wR;unfold qd;revert ao M;generalize j4 gd m F (k:Int) (g,[])=r;intro ao M;have nb:gT g (k:Int)=0:=by
  unfold gT;rw[List.countP_eq_zero];intro x ah;obtain⟨i,G,rfl⟩:=List.mem_iff_getElem.1 ah;have:=h.mi i (by rw[<-h.len];exact G);grind
 obtain⟨C,jr,ay1,ay2⟩:=h.P6;by_cases W:r.1=true
 ·obtain⟨kZ,BN⟩:=M.Z4 W;have ay3:=(M.cl C jr).2 W;refine⟨ao.len,λi G=>?_,λj aF=>?_,?_,C,λc uy i G Fm=>?_,λc uy=>?_,λj aF hu=>?_⟩
  ·show r.2.1.getD i 0=-1\/_;rcases kZ i G with e | ⟨ay,aP⟩
   ·rw[e];rcases h.mi i G with a | a
    ·exact .inl a
    ·exact .inr ⟨a.1,by have:=a.2.1;show g.getD i 0<_;change g.getD i 0<_ at this;omega,a.2.2⟩
   ·by_cases kn:r.2.1.getD i 0=-1
    ·omega
    ·refine .inr ⟨?_,?_,aP⟩
     ·have:=(ao.mi i G).resolve_left kn;grind
     ·have E:=BN _ kn;have U:0<gT r.2.1 (r.2.1.getD i 0):=aqf (by rw[ao.len];exact G) rfl;by_cases e:r.2.1.getD i 0=(k:Int)
      ·grind
      ·rw[if_neg e]at E;have ag:0<gT g (r.2.1.getD i 0):=by grind
       unfold gT at ag;rw[List.countP_pos_iff]at ag;obtain⟨x,ah,e8⟩:=ag;obtain⟨q,bq,rfl⟩:=List.mem_iff_getElem.1 ah;have:=h.mi q (by rw[<-h.len];exact bq);grind
  ·have E:=BN j (by omega);have U:=h.one j aF;change gT r.2.1 j=gT g j+_ at E;change gT g j<=1 at U;show gT r.2.1 j<=1;by_cases e:j=(k:Int)
   ·subst e;rw[if_pos rfl]at E;omega
   ·rw[if_neg e]at E;omega
  ·rw[if_pos W];have E:=h.num;change n=_ at E;show n=_;rw[E,List.range_succ,List.countP_append];have U:∀ j:Nat,j<k->gT r.2.1 (j:Int)=gT g (j:Int):=λj aF=>by
    have:=BN (j:Int) (by omega);rw[if_neg (by omega)]at this;omega
   have ag:gT r.2.1 (k:Int)=1:=by
    grind
   have a7:(List.range k).countP (λ(j:Nat)=>decide (gT r.2.1 (j:Int)=0))=(List.range k).countP (λ(j:Nat)=>decide (gT g (j:Int)=0)):=List.countP_congr λj aF=>by grind
   simp_all
  ·show r.2.1.getD i 0≠-1/\C (r.2.1.getD i 0);by_cases e:r.2.1.getD i 0=g.getD i 0
   ·rw[e];exact jr c uy i G Fm
   grind
  ·grind
  ·change gT r.2.1 (j:Int)=0 at hu;have E:=BN (j:Int) (by omega);change gT r.2.1 _=gT g _+_ at E;by_cases e:j=k
   ·grind
   ·rw[if_neg (by omega)]at E;grind
 ·have Dq:r.1=false:=by grind
  obtain⟨hw,Jg,lp⟩:=M.P' Dq;change r.2.1=g at hw;simp only[hw];refine⟨h.len,λi G=>?_,h.one,?_,λc=>C c\/c=(k:Int)\/∃ i,i<m/\1<=cS r.2.2 (i:Int)/\c=g.getD i 0,λc uy i G Fm=>?_,λc uy=>?_,λj aF hu=>?_⟩
  ·rcases h.mi i G with a | a
   ·exact .inl a
   ·exact .inr ⟨a.1,by have:=a.2.1;show g.getD i 0<_;change g.getD i 0<_ at this;omega,a.2.2⟩
  ·rw[if_neg W];have E:=h.num;change n=_ at E;show n+1=_;rw[E,List.range_succ,List.countP_append];grind
  ·have aw:1<=cS r.2.2 (i:Int)->g.getD i 0≠-1/\(C (g.getD i 0)\/g.getD i 0=(k:Int)\/∃ q,q<m/\1<=cS r.2.2 (q:Int)/\g.getD i 0=g.getD q 0):=λaE=>⟨(lp i G rfl aE).1,.inr (.inr ⟨i,G,aE,rfl⟩)⟩
   rcases uy with e | e | ⟨q,bq,aE,e⟩
   ·exact⟨(jr c e i G Fm).1,.inl (jr c e i G Fm).2⟩
   ·grind
   ·subst e;exact aw ((lp q bq rfl aE).2 i G Fm)
  ·rcases uy with e | e | ⟨q,bq,aE,e⟩
   ·grind
   ·omega
   ·have:=(h.mi q bq).resolve_left (lp q bq rfl aE).1;grind
  grind
theorem aqi(gd:Nat->Int->Bool)(m J F:Nat)(bn:m<F):Fl gd m J J (y3 gd m J F):=by
 unfold y3;have key:∀ k,k<=J->Fl gd m J k ((List.range k).foldl (qd gd m F) (List.replicate m (-1),0)):=by
  intro k;induction k with
  | zero=>
   intro _;refine⟨by simp,λi G=>.inl (aqe G),λj aF=>?_,by simp,λ_=>False,λ_ h=>h.elim,λ_ h=>h.elim,λj aF=>by omega⟩;show gT (List.replicate m (-1)) j<=1;have:gT (List.replicate m (-1)) j=0:=by
    unfold gT;grind
   omega
  | succ k aI=>
   intro al;rw[List.range_succ,List.foldl_append];exact Z8 bn (by omega) (aI (by omega))
 grind
def r'(t:dw)(sp:Int×Int)(j:r_):Bool:=decide (sp.2<=j.2.2)&&decide ((pd t.2.2 (sp.1,j.1,j.2.1)).getD 0 > 0)
abbrev BO:aN:=⟨.aA wO (.aA I8 Jd),dk,λx=>∃ t,x.1=some t,λx=>r' (x.1.getD y0) x.2.1 x.2.2⟩
theorem aqj(x):A.le (Wd x) (BO.sh x):=A.bw λh=>by
 obtain⟨o,sp,j⟩:=x;obtain⟨t,au⟩:=h;change o=_ at au;subst au;unfold Wd;simp only[Option.isSome_some,Option.getD_some,and_true,true_and,and_self,imp_self,implies_true,A.bo];rfl
def Fo(t:dw)(l:List r_):Bool:=l.all λj=>(List.range t.1.2.1.length).any λ(i:Nat)=>r' t ((i:Int),0) j
abbrev Qe:aN:=⟨.aA wO (.slice Jd),dk,λx=>∃ t,x.1=some t/\t.1.2.1.length<2 ^ 63/\x.2.length<2 ^ 63,λx=>Fo (x.1.getD y0) x.2⟩
theorem aqk(t:dw)(l:List r_)(E:t.1.2.1.length<2 ^ 63)(U:l.length<2 ^ 63):Ou BO.sh (some t,l)=A.pure (Fo t l):=by
 unfold Ou;rw[A.eu l (λi (_:Unit)=>(some t,l,(l.length:Int),(i:Int),())) (λj b=>if (!(List.range t.1.2.1.length).any λ(i:Nat)=>r' t ((i:Int),0) j)=true then .done (.done false) else .next b) (λ_=>.next ()) () ?_ ?_ ?_]
 ·rw[k1 (q:=λj=>(List.range t.1.2.1.length).any λ(i:Nat)=>r' t ((i:Int),0) j) _ _ (λ_=>rfl)];unfold Fo;cases l.all λj=>(List.range t.1.2.1.length).any λ(i:Nat)=>r' t ((i:Int),0) j<;>simp
 ·rfl
 ·intro i G b;have hw:=bG (n:=(i:Int)+1) (by omega) (by omega);simp only[bX,cY G,if_true,dm G,cI G,A.bo,Option.isSome_some,Option.getD_some];rw[A.eu (List.range t.1.2.1.length) (λk (b:Bool)=>(some t,b,l,(l.length:Int),(i:Int),(t.1.2.1.length:Int),(k:Int),l[i],())) (λ(k:Nat) b=>.next (b||r' t ((k:Int),0) l[i])) (λb=>.next (some t,b,l,(l.length:Int),(i:Int),())) false ?_ ?_ ?_]
  ·rw[fs];have e:∀ (r:List Nat) (b:Bool),r.foldl (λ(b:Bool) (k:Nat)=>b||r' t ((k:Int),0) l[i]) b=(b||r.any λ(k:Nat)=>r' t ((k:Int),0) l[i]):=by
    intro r;induction r with
    | nil=>simp
    | cons k r aI=>grind
   rw[e,Bool.false_or];simp only[A.aG,A.b3];cases (List.range t.1.2.1.length).any λ(k:Nat)=>r' t ((k:Int),0) l[i]<;>simp[V.hp,hw]
  ·rfl
  ·intro k al b;have al:k<t.1.2.1.length:=by grind
   have mM:=bG (n:=(k:Int)+1) (by omega) (by omega);simp only[cY al,if_true,List.getElem_range,aN.sh,A.je,A.dH];rw[A.bu (by simp)];simp only[Option.getD_some,cp,mM,V.hp];grind
  simp
 simp
theorem aql(x):A.le (Ou BO.sh x) (Qe.sh x):=A.bw λh=>by
 obtain⟨o,l⟩:=x;obtain⟨t,au,E,U⟩:=h;change o=_ at au;subst au;exact aqk t l E U
def gK(t:dw)(l:List r_)(i:Nat)(j:Int):Bool:=r' t (t.2.1.getD i (0,0)) (l.getD j.toNat (0,0,0))
abbrev Qf:=Option dw×List r_×Int×z4'×z1'×Unit
abbrev Z9:=Bool×z4'×z1'×Unit
def u9(r:Bool×la):Z9:=(r.1,r.2.2,r.2.1,())
def Qg(f:Nat)(x:Qf):Prop:=∃ t,x.1=some t/\t.2.1.length<=200/\x.2.1.length<=1000/\0<=x.2.2.1/\x.2.2.1<(x.2.1.length:Int)/\y2 t.2.1.length x.2.1.length f (x.2.2.2.2.1,x.2.2.2.1)
def u_(f:Nat)(x:Qf):A Z9:=A.dQ (Qg f x) (u9 (j4 (gK (x.1.getD y0) x.2.1) (x.1.getD y0).2.1.length f x.2.2.1 (x.2.2.2.2.1,x.2.2.2.1)))
theorem aqm{t:dw}{l:List r_}(hm:t.2.1.length<=200)(ai:l.length<=1000){f:Nat}{an:Int}(Z6:0<=an)(Z7:an<(l.length:Int)){st:la}(aU:y2 t.2.1.length l.length (f+1) st) :
  OB BO.sh (u_ f) (some t,l,an,st.2,st.1,())=A.pure (u9 (j4 (gK t l) t.2.1.length (f+1) an st)):=by
 have EL:=Qd (gd:=gK t l) (m:=t.2.1.length) (J:=l.length) f;unfold OB;simp only[bX,A.bo,apa,Option.isSome_some,Option.getD_some];rw[A.gw (List.range t.2.1.length) (λi (b:la)=>(some t,l,an,t.2.1,(t.2.1.length:Int),(i:Int),b.2,b.1,())) (λi b=>V.u7 (λr=>.done (u9 r)) (ov (gK t l) (j4 (gK t l) t.2.1.length f) an i b)) (λb=>.next (b.2,b.1,())) (λi b=>b.1=st.1/\∀ q,cS st.2 q<=cS b.2 q/\cS b.2 q<=1) st ?_ ?_ ?_ ?_]
 ·show _=A.pure (u9 (eY (ov (gK t l) (j4 (gK t l) t.2.1.length f) an) (λst=>(false,st)) (List.range t.2.1.length) st));rw[PT,PT,ZM];cases yV (ov (gK t l) (j4 (gK t l) t.2.1.length f) an) (List.range t.2.1.length) st<;>(simp only[V.u7,V.fin,A.aG,A.b3,A.pV];try rfl)
 ·rfl
 ·exact⟨rfl,λq=>⟨Int.le_refl _,(aU.seen q).2⟩⟩
 ·intro i G b W;have G:i<t.2.1.length:=by grind
  have lG:=bG (n:=(i:Int)+1) (by omega) (by omega);rw[List.getElem_range];have aqn:b.1.length=t.2.1.length:=by rw[W.1];exact aU.len
  have eM:i<b.1.length:=by omega
  have aqo:0<=an/\an<(l.length:Int):=⟨Z6,Z7⟩
  have kZ:=W.2 (i:Int);have nj:=aU.seen (i:Int);simp only[bX,cY G,if_true,cI G,cI eM,A.bo,aqo,aN.sh,A.og,A.gR,Int.toNat_natCast,Option.getD_some];have zT:r' t (t.2.1.getD i (0,0)) (l.getD an.toNat (0,0,0))=gK t l i an:=rfl;rw[zT];have aqp:(∃ cW,(some t:Option dw)=some cW)=True:=by simp
  simp only[aqp,and_true,true_and,and_self,imp_self,implies_true,A.bo];by_cases Jh:cS b.2 (i:Int) > 0
  ·have hu:ov (gK t l) (j4 (gK t l) t.2.1.length f) an i b=.next b:=by unfold ov;grind
   rw[hu];refine⟨?_,λbe de=>by cases de;exact W⟩;simp only[Jh,decide_true,Bool.true_or,if_true,A.aG,A.b3,cp,lG,V.hp,V.u7,Bool.not_true,Bool.false_eq_true,false_imp_iff,Bool.true_eq_false,A.bo,and_self,implies_true];rfl
  ·by_cases aC:gK t l i an=true
   ·have bk:cS b.2 (i:Int)=0:=by omega
    have Ja:=bG (n:=cS b.2 (i:Int)+1) (by omega) (by omega);have kn:∀ q,cS b.2 q<=cS (fa b.2 (i:Int) (cS b.2 (i:Int)+1)) q/\cS (fa b.2 (i:Int) (cS b.2 (i:Int)+1)) q<=1:=λq=>by
     have:=W.2 q;rw[BG];omega
    have La:¬(decide (cS b.2 (i:Int) > 0)||!gK t l i an)=true:=by grind
    by_cases au:b.1.getD i 0=-1
    ·have hu:ov (gK t l) (j4 (gK t l) t.2.1.length f) an i b=.done (true,(b.1.set i an,fa b.2 (i:Int) (cS b.2 (i:Int)+1))):=by
      unfold ov;grind
     rw[hu];refine⟨?_,λbe de=>by cases de⟩;simp only[Jh,aC,au,decide_true,decide_false,Bool.not_true,Bool.not_false,Bool.or_self,Bool.false_eq_true,if_false,if_true,false_imp_iff,Bool.true_eq_false,Bool.true_or,A.bo,A.aG,A.pV,cp,Ja,cI eM,V.hp,V.u7,and_self,implies_true,true_imp_iff];rfl
    ·have ay4:=aU.mi i G;have aF:0<=b.1.getD i 0/\b.1.getD i 0<(l.length:Int):=by grind
     have wR:y2 t.2.1.length l.length f (b.1,fa b.2 (i:Int) (cS b.2 (i:Int)+1)):=by
      refine⟨aqn,?_,λk=>⟨?_,(kn k).2⟩,?_⟩
      ·show P8 _ _ b.1;rw[W.1];exact aU.mi
      ·have:=(kn k).1;have:=W.2 k;have:=(aU.seen k).1;grind
      ·have E:=ZK (n:=t.2.1.length) (m:=b.2) (s:=(i:Int)) (v:=cS b.2 (i:Int)+1) (by omega) (by omega) bk (by omega);have U:=ZL (n:=t.2.1.length) (a:=st.2) (b:=b.2) λk=>⟨(aU.seen k).1,(W.2 k).1⟩
       have ag:=aU.cj;grind
     obtain⟨AI,aqq⟩:=EL (b.1.getD i 0) (b.1,fa b.2 (i:Int) (cS b.2 (i:Int)+1)) aF.1 aF.2 wR;have gP:Qg f (some t,l,b.1.getD i 0,fa b.2 (i:Int) (cS b.2 (i:Int)+1),b.1,()):=⟨t,rfl,hm,ai,aF.1,aF.2,wR⟩
     have vU:u_ f (some t,l,b.1.getD i 0,fa b.2 (i:Int) (cS b.2 (i:Int)+1),b.1,())=A.pure (u9 (j4 (gK t l) t.2.1.length f (b.1.getD i 0) (b.1,fa b.2 (i:Int) (cS b.2 (i:Int)+1)))):=A.bP gP _;simp only[Jh,aC,au,decide_true,decide_false,Bool.not_true,Bool.not_false,Bool.or_self,Bool.false_eq_true,if_false,if_true,false_imp_iff,Bool.true_eq_false,Bool.false_or,A.bo,cp,Ja,and_self,implies_true,true_imp_iff,vU,A.aG];have um:(j4 (gK t l) t.2.1.length f (b.1.getD i 0) (b.1,fa b.2 (i:Int) (cS b.2 (i:Int)+1))).2.1.length=t.2.1.length:=AI.len;have ay5:=AI.seen;have ay6:=aqq.P';have Z_:ov (gK t l) (j4 (gK t l) t.2.1.length f) an i b=if (j4 (gK t l) t.2.1.length f (b.1.getD i 0) (b.1,fa b.2 (i:Int) (cS b.2 (i:Int)+1))).1=true then .done (true,((j4 (gK t l) t.2.1.length f (b.1.getD i 0) (b.1,fa b.2 (i:Int) (cS b.2 (i:Int)+1))).2.1.set i an,(j4 (gK t l) t.2.1.length f (b.1.getD i 0) (b.1,fa b.2 (i:Int) (cS b.2 (i:Int)+1))).2.2)) else .next (j4 (gK t l) t.2.1.length f (b.1.getD i 0) (b.1,fa b.2 (i:Int) (cS b.2 (i:Int)+1))).2:=by
      unfold ov;grind
     rw[Z_];clear Z_ vU;generalize j4 (gK t l) t.2.1.length f (b.1.getD i 0) (b.1,fa b.2 (i:Int) (cS b.2 (i:Int)+1))=r at *
     obtain⟨ok,g',s'⟩:=r;have qC:i<g'.length:=by grind
     cases ok with
     | true=>
      refine⟨?_,λbe de=>by cases de⟩;simp only[u9,if_true,cI qC,A.bo,A.aG,A.pV,V.hp,V.u7]
     | false=>
      refine⟨?_,λbe de=>?_⟩
      ·simp only[u9,Bool.false_eq_true,if_false,A.aG,A.b3,cp,lG,V.hp,V.u7];rfl
      ·cases de;grind
   ·have hu:ov (gK t l) (j4 (gK t l) t.2.1.length f) an i b=.next b:=by unfold ov;grind
    rw[hu];refine⟨?_,λbe de=>by cases de;exact W⟩;simp only[Jh,aC,decide_false,Bool.not_false,Bool.or_true,if_true,A.aG,A.b3,cp,lG,V.hp,V.u7,Bool.false_eq_true,A.bo,and_self,implies_true];rfl
 simp
theorem aqr(f:Nat)(x):A.le (OB BO.sh (u_ f) x) (u_ (f+1) x):=A.bw λh=>by
 obtain⟨o,l,an,seen,g,u⟩:=x;obtain⟨t,au,hm,ai,aU,E,wR⟩:=h;change o=_ at au;subst au;exact aqm (st:=(g,seen)) hm ai aU E wR
theorem aqs(x:Qf):¬(u_ 0 x).b2:=λ⟨_,_,_,_,_,_,h⟩=>absurd h.cj (by omega)
def wS(t:dw)(l:List r_):Int:=(y3 (gK t l) t.2.1.length l.length 201).2
abbrev Ji:aN:=⟨.aA wO (.slice Jd),br,λx=>∃ t,x.1=some t/\t.2.1.length<=200/\x.2.length<=1000,λx=>wS (x.1.getD y0) x.2⟩
theorem aqt(t:dw)(l:List r_)(hm:t.2.1.length<=200)(ai:l.length<=1000):Ov wK (u_ 201) (some t,l)=A.pure (wS t l):=by
 unfold Ov;simp only[bX,Option.isSome_some,Option.getD_some,A.bo];unfold wK;simp only[A.dH];rw[A.bu (by grind)];simp only[Int.toNat_natCast];rw[A.gw (List.range l.length) (λi (b:z1'×Int)=>(some t,l,b.2,(l.length:Int),(i:Int),b.1,())) (λi b=>.next (qd (gK t l) t.2.1.length 201 b i)) (λb=>.next (b.2,())) (λi b=>Fl (gK t l) t.2.1.length l.length i b/\0<=b.2/\b.2<=(i:Int)) (List.replicate t.2.1.length (-1),0) ?_ ?_ ?_ ?_]
 ·rw[fs,A.aG,A.b3];rfl
 ·rfl
 ·refine⟨?_,by simp⟩;have:=aqi (gK t l) t.2.1.length 0 201 (by omega);exact⟨this.len,this.mi,this.one,this.num,this.P6⟩
 ·intro i G b W;have G:i<l.length:=by grind
  have lG:=bG (n:=(i:Int)+1) (by omega) (by omega);rw[List.getElem_range];obtain⟨g,n⟩:=b;obtain⟨W,sF,qD⟩:=W;change 0<=n at sF;change n<=(i:Int) at qD;have BF:=bG (n:=n+1) (by omega) (by omega);have gP:Qg 201 (some t,l,(i:Int),[],g,()):=by
   refine⟨t,rfl,hm,ai,Int.natCast_nonneg i,Int.ofNat_lt.2 G,W.len,λk al=>?_,λk=>by show 0<=cS [] k/\cS [] k<=1;simp[cS,u6],?_⟩
   ·rcases W.mi k al with h | h
    ·exact .inl h
    ·exact .inr ⟨h.1,Int.lt_trans h.2.1 (Int.ofNat_lt.2 G)⟩
   ·have:r7 t.2.1.length []<=t.2.1.length:=by
     unfold r7;exact Nat.le_trans List.countP_le_length (by simp)
    grind
  have vU:u_ 201 (some t,l,(i:Int),[],g,())=A.pure (u9 (j4 (gK t l) t.2.1.length 201 (i:Int) (g,[]))):=A.bP gP _;have DJ:=Z8 (F:=201) (by omega) G W;refine⟨?_,λbe de=>?_⟩
  ·simp only[cY G,if_true,vU,A.aG,u9];unfold qd;cases cL:(j4 (gK t l) t.2.1.length 201 (i:Int) (g,[])).1 with
   | true=>
    simp_all
   | false=>
    simp_all
  ·cases de;refine⟨DJ,?_⟩;have ay:(0:Int)<=n+1:=by omega
   have aP:n+1<=((i+1:Nat):Int):=by omega
   have cw:n<=((i+1:Nat):Int):=by omega
   unfold qd;omega
 simp
theorem aqu(x):A.le (Ov wK (u_ 201) x) (Ji.sh x):=A.bw λh=>by
 obtain⟨o,l⟩:=x;obtain⟨t,au,E,U⟩:=h;change o=_ at au;subst au;exact aqt t l E U
theorem Z'{s:bJ}(ae:mg s):(P1 s).length<=200:=by
 have E:∀ (l:List Nat),(∀ i∈l,i<s.2.1.length)->(l.flatMap λ(i:Nat)=>lH ((i:Int),0) (s.2.1.getD i 0)).length<=10*l.length:=by
  intro l;induction l with
  | nil=>simp
  | cons i l aI=>
   intro ai;have E:=aI λj aF=>ai j (by grind);have U:=ai i (by simp);have ag:=ae.q9 _ (List.getElem_mem U);have jy:s.2.1.getD i 0=s.2.1[i]:=by grind
   rw[List.flatMap_cons,List.length_append,List.length_cons,jy];simp only[lH,List.length_replicate];simp only[lH]at E;omega
 have U:∀ (l:List Ej),(∀ d∈l,pf s.1 d=true)->(l.flatMap λd=>lH (d.2.1,d.1) d.2.2).length<=10*l.length:=by
  intro l;induction l with
  | nil=>simp
  | cons d l aI=>
   intro ai;have E:=aI λj aF=>ai j (by grind);have ag:=ai d (by simp);simp only[pf,b1,Bool.and_eq_true,decide_eq_true_eq]at ag;rw[List.flatMap_cons,List.length_append,List.length_cons];simp only[lH,List.length_replicate];simp only[lH]at E;omega
 have a:=E (List.range s.2.1.length) λi G=>by grind
 have b:=U s.2.2.2.2.1 ae.ZS;have c:=ae.ZT;have d:=ae.P0;have e:=ae.Fg;unfold P1 Fi ZW;grind
theorem Qh{s:bJ}(ae:mg s){cy:z1'}(ao:nC s cy):(jD s cy).1.length<=24:=by
 unfold jD;split
 ·have:∀ (l:List Nat),(∀ i∈l,i<cy.length)->(l.flatMap λi=>(ph s cy i).getD []).length<=4*l.length:=by
   intro l;induction l with
   | nil=>simp
   | cons i l aI=>
    intro ai;have E:=aI λj aF=>ai j (by grind);have U:=ai i (by simp);rw[List.flatMap_cons,List.length_append,List.length_cons];have:((ph s cy i).getD []).length<=4:=by
     cases h:ph s cy i with
     | none=>simp
     | some y=>exact ZY ae ao U h
    omega
  have a:=this (List.range cy.length) λi G=>by grind
  rw[List.length_range]at a;have:=ao.1;have:=ae.tw;grind
 ·simp
def qe(s:bJ)(cy:z1'):Bool:=(jD s cy).2&&decide (wS (dc s) (jD s cy).1=0)
abbrev wT:aN:=⟨.aA wO fP,dk,λx=>∃ s,wQ x.1 s/\nC s x.2,λx=>qe (ou x.1) x.2⟩
theorem aqv(x):A.le (V8 Je.sh Ji.sh x) (wT.sh x):=A.bw λh=>by
 obtain⟨o,cy⟩:=x;obtain⟨s,⟨au,ae⟩,ao⟩:=h;change o=_ at au;subst au;unfold V8;simp only[aN.sh,A.dH,A.je];rw[A.bu (by exact⟨s,⟨rfl,ae⟩,ao⟩),A.bu (by exact λ_=>⟨dc s,rfl,Z' ae,Nat.le_trans (Qh ae ao) (by omega)⟩)];show A.pure ((jD s cy).2&&decide ((if (jD s cy).2=true then wS (dc s) (jD s cy).1 else 0)=0))=A.pure (qe s cy);unfold qe;grind
def BP(s:bJ)(first:z1')(p:Nat):Bool:=!(first.contains (p:Int)||decide (tv (mh s (first.length:Int)) (nB s (p:Int))=0))
def kt(s:bJ)(e:Int):Nat->z1'->List (z1')
 | 0,first=>[first]
 | n+1,first=>((List.range s.2.2.1.length).flatMap λp=>if BP s first p=true then kt s e n (first++[(p:Int)]) else [])++(if e=0 then [] else kt s e n (first++[-1]))
abbrev aaa:Type:=Nat×(List (z1')->Prop)×List (z1')×Bool
abbrev Qi:Type:=Option dw×z1'×Int×Nat×aaa×Unit
abbrev aab:Type:=Bool×aaa×Unit
structure Qj(f:Nat)(x:Qi)(s:bJ)(n:Nat)(a b:List (z1')):Prop where
 ay7:wQ x.1 s
 len:x.2.1.length+n=s.2.2.2.1.length
 cj:n<f
 ay8:x.2.2.2.2.1.1=x.2.2.2.1
 bE:x.2.2.2.2.1.2.2.2=false
 seq:x.2.2.2.2.1.2.1=λT=>T=a++kt s x.2.2.1 n x.2.1++b
 pos:x.2.2.2.2.1.2.2.1=a
def aqw(x:Qi)(y:aab):Prop:=y.2.1.1=x.2.2.2.1/\y.2.1.2.1=x.2.2.2.2.1.2.1/\(y.1=true->y.2.1.2.2.2=false/\y.2.1.2.2.1=x.2.2.2.2.1.2.2.1++kt (ou x.1) x.2.2.1 ((ou x.1).2.2.2.1.length - x.2.1.length) x.2.1)/\(y.1=false->y.2.1.2.2.2=true)
def sa(f:Nat)(x:Qi):A aab:=⟨∃ s n a b,Qj f x s n a b,aqw x⟩
def mj(s:bJ)(e:Int)(n:Nat)(first:z1')(k:Nat):List (z1'):=(List.range k).flatMap λp=>if BP s first p=true then kt s e n (first++[(p:Int)]) else []
theorem Jj(s:bJ)(e:Int)(n:Nat)(first:z1')(k:Nat):mj s e n first (k+1)=mj s e n first k++(if BP s first k=true then kt s e n (first++[(k:Int)]) else []):=by
 unfold mj;rw[List.range_succ,List.flatMap_append];simp
theorem aqx(s:bJ)(e:Int)(n:Nat)(first:z1'){k m:Nat}(h:k<=m):∃ t,mj s e n first m=mj s e n first k++t:=by
 induction m with
 | zero=>simp_all
 | succ m aI=>
  by_cases al:k=m+1
  ·simp_all
  ·obtain⟨t,aM⟩:=aI (by omega);rw[Jj,aM,List.append_assoc];simp
theorem aqy{f:Nat}{s:bJ}(ae:mg s){first:z1'}{e:Int}{l:Nat}{L:List (z1')->Prop}{n:Nat}(hlen:first.length+n=s.2.2.2.1.length)(au:n<f+1){a b:List (z1')}(iP:L=λT=>T=a++kt s e n first++b) :
  A.cv (OC wL.sh (sa f) o9.sh (some (dc s),first,e,l,(l,L,a,false),())) λy=>y.2.1.1=l/\y.2.1.2.1=L/\(y.1=true->y.2.1.2.2.2=false/\y.2.1.2.2.1=a++kt s e n first)/\(y.1=false->y.2.1.2.2.2=true):=by
 have gv:(dc s).1=s:=rfl;have BL:=ae.tw;have aqz:=ae.Fh;unfold OC;simp only[Option.isSome_some,Option.getD_some,A.bo,bX,gv];cases n with
 | zero=>
  have ar:decide ((first.length:Int)=(s.2.2.2.1.length:Int))=true:=by grind
  have aC:∃ T,L (a++first::T):=⟨b,by rw[iP];show _=_;simp[kt]⟩
  simp only[ar,if_true,true_and,and_self];rw[A.bu aC,A.fZ];refine⟨⟨true,trivial⟩,λy _=>A.d'.2 ?_⟩;refine⟨rfl,rfl,λh=>?_,λh=>?_⟩
  ·change y=true at h;subst h;exact⟨rfl,rfl⟩
  grind
 | succ n=>
  have ar:decide ((first.length:Int)=(s.2.2.2.1.length:Int))=false:=by grind
  simp only[ar,Bool.false_eq_true,if_false,A.fZ];obtain⟨z,bk⟩:∃ z,kt s e (n+1) first=mj s e n first s.2.2.1.length++z:=⟨_,rfl⟩
  refine A.ao_ s.2.2.1.length (λk q=>q=(some (dc s),first,e,l,(first.length:Int),s.2.2.1,(s.2.2.1.length:Int),(k:Int),(l,L,a++mj s e n first k,false),())) ?_ ?_ ?_
  ·show _=_;simp[mj]
  ·rintro k al q rfl;have mM:=bG (n:=(k:Int)+1) (by omega) (by omega);have fU:first.length<2 ^ 63:=by omega
   have tx:first.length<s.2.2.2.1.length:=by omega
   have Jf:=Jb tx;have BM:List.getD s.2.2.2.1 first.length ([],(0,0),0,0,0)=mh s (first.length:Int):=rfl
   have P5:s.2.2.1[k]=nB s (k:Int):=by simp[nB,List.getD_eq_getElem?_getD,al]
   have oc:wL.pre (mh s (first.length:Int),nB s (k:Int)):=ae.gq.2.2.2.2.2.2 _ Jf;have aqA:(first.length<2 ^ 63)=True:=by grind
   simp only[cY al,if_true,cI al,dm al,A.bo,aN.sh,A.og,A.gR,aqA,gv,Int.toNat_natCast,cI tx,BM,P5,and_true,true_and,and_self,imp_self,implies_true];have aqB:((mh s (first.length:Int)).1.length<2 ^ 63)=True:=by grind
   have aqC:List.getD s.2.2.1 k (0,0,0,0,[])=nB s (k:Int):=rfl;have eC:first.contains (k:Int)=false->(!first.contains (k:Int))=true:=λh=>by grind
   have iQ:((0:Int)<=0/\0<=(first.length:Int)/\(first.length:Int)<=(first.length:Int))=True:=by simp
   have kX:List.take first.length first=first:=List.take_length
   have lV:(0<Add.add 0 1/\b_ (Add.add first.length (Add.add 0 1))):=⟨by decide,by show b_ (first.length+1);unfold b_;omega⟩
   have iu:(first.contains (k:Int)||decide (tv (mh s (first.length:Int)) (nB s (k:Int))=0))=!BP s first k:=by unfold BP;simp
   have jS:first.contains (k:Int)=first.contains (k:Int):=rfl
   simp only[Option.isSome_some,Option.getD_some,gv,cI tx,BM,aqC,aqB,and_true,true_and,and_self,imp_self,implies_true,A.bo,A.bu eC,iu,iQ,kX];rw[A.bu (by omega)];obtain⟨t,aM⟩:=aqx s e n first (show k+1<=s.2.2.1.length by omega)
   cases aw:BP s first k with
   | false=>
    simp only[Bool.not_false,if_true,A.aG,A.b3,A.d',cp,mM];show _=_;rw[Jj,aw];simp
   | true=>
    rw[Jj,aw,if_pos rfl]at aM;simp only[Bool.not_true,Bool.false_eq_true,if_false,A.fZ];have EN:Qj f (some (dc s),first++[(k:Int)],e,l,(l,L,a++mj s e n first k,false),()) s n (a++mj s e n first k) (t++z++b):=by
     refine⟨⟨rfl,ae⟩,by grind,by omega,rfl,rfl,?_,rfl⟩;grind
    refine⟨⟨s,n,_,_,EN⟩,λy aS=>?_⟩;obtain⟨rs,⟨aac,aad,Qk,ys⟩,aqD⟩:=y;obtain⟨dh,dK,mZ,r8⟩:=aS;change aac=l at dh;change aad=L at dK;subst dh;subst dK;cases rs with
    | false=>
     have a7:ys=true:=r8 rfl;subst a7;simp only[Bool.not_false,if_true,A.aG,A.d',A.pV];simp
    | true=>
     obtain⟨bN,du⟩:=mZ rfl;change ys=false at bN;change Qk=(a++mj s e n first k)++kt s e (s.2.2.2.1.length - (first++[(k:Int)]).length) (first++[(k:Int)]) at du;have vM:s.2.2.2.1.length - (first++[(k:Int)]).length=n:=by grind
     rw[vM]at du;subst bN;subst du;simp only[Bool.not_true,Bool.false_eq_true,if_false,A.aG,A.d',A.b3,cp,mM];show _=_;rw[Jj,aw,if_pos rfl];simp
  ·rintro q rfl;have kX:List.take first.length first=first:=List.take_length
   have iQ:((0:Int)<=0/\0<=(first.length:Int)/\(first.length:Int)=(first.length:Int)/\(first.length:Int)<=(first.length:Int))=True:=by simp
   have lV:(0<Add.add 0 1/\b_ (Add.add first.length (Add.add 0 1))):=⟨by decide,by show b_ (first.length+1);unfold b_;omega⟩
   simp only[Int.lt_irrefl,decide_false,Bool.false_eq_true,if_false,A.aG,A.d',A.b3,iQ,kX,Int.toNat_natCast,and_true];by_cases he:e=0
   ·have zR:kt s e (n+1) first=mj s e n first s.2.2.1.length:=by
     show mj s e n first s.2.2.1.length++(if e=0 then [] else kt s e n (first++[-1]))=_
     grind
    simp only[he,decide_true,Bool.not_true,Bool.false_eq_true,if_false,false_imp_iff,A.bo,Bool.true_or,A.d',Bool.true_eq_false,and_self,implies_true];grind
   ·have zR:kt s e (n+1) first=mj s e n first s.2.2.1.length++kt s e n (first++[-1]):=by
     show mj s e n first s.2.2.1.length++(if e=0 then [] else kt s e n (first++[-1]))=_
     grind
    simp only[he,decide_false,Bool.not_false,if_true,true_imp_iff,A.bo,Bool.false_or,and_self,implies_true];rw[A.bu (by simp),A.bu (by omega)];have EN:Qj f (some (dc s),first++[-1],e,l,(l,L,a++mj s e n first s.2.2.1.length,false),()) s n (a++mj s e n first s.2.2.1.length) b:=by
     refine⟨⟨rfl,ae⟩,by grind,by omega,rfl,rfl,?_,rfl⟩;grind
    rw[A.fZ];refine⟨⟨s,n,_,_,EN⟩,λy aS=>A.d'.2 ?_⟩;obtain⟨rs,⟨aac,aad,Qk,ys⟩,aqD⟩:=y;obtain⟨dh,dK,mZ,r8⟩:=aS;refine⟨dh,dK,λh=>?_,r8⟩;obtain⟨bN,du⟩:=mZ h;change Qk=(a++mj s e n first s.2.2.1.length)++kt s e (s.2.2.2.1.length - (first++[(-1:Int)]).length) (first++[-1]) at du;grind
theorem aqE(f:Nat)(x):A.le (OC wL.sh (sa f) o9.sh x) (sa (f+1) x):=λh=>by
 obtain⟨o,first,e,l,⟨dF,L,p,st⟩,u⟩:=x;obtain⟨s,n,a,b,ao⟩:=h;obtain⟨⟨au,ae⟩,E,U,ag,a7,bN,du⟩:=ao;change o=_ at au;change dF=l at ag;change st=false at a7;change p=a at du;change L=_ at bN;change first.length+n=_ at E
 change _ at bN;subst au;subst ag;subst a7;subst du;have vM:(ou (some (dc s))).2.2.2.1.length - first.length=n:=by show s.2.2.2.1.length - first.length=n;omega
 refine A.cv.mono (aqy ae E U bN) λy aS=>⟨aS.1,aS.2.1,λh=>?_,aS.2.2.2⟩
 obtain⟨aR,aW⟩:=aS.2.2.1 h;refine⟨aR,?_⟩;rw[aW];show _=p++kt (ou (some (dc s))) e ((ou (some (dc s))).2.2.2.1.length - first.length) first
 rw[vM];rfl
theorem aqF(x):¬(sa 0 x).b2:=λ⟨s,n,a,b,h⟩=>by have:=h.cj;omega
def ld(e:Int)(s:bJ):List (z1'):=kt s e s.2.2.2.1.length []
def y4(o:Option dw):Prop:=∃ s,wQ o s
def Jk(o:Option dw):List (z1'):=ld 1 (ou o)
def Ql(o:Option dw):List (z1'):=ld 0 (ou o)
theorem aqG(s:bJ)(ae:mg s)(l:Nat):A.cv (Ig (sa 10) (some (dc s),l,(l,(λT=>T=ld 1 s),[],false),())) λy=>y.1.1=l/\y.1.2.1=(λT=>T=ld 1 s)/\(y.1.2.2.2=false->y.1.2.2.1=ld 1 s):=by
 unfold Ig;rw[A.fZ];have BL:=ae.tw;refine⟨⟨s,s.2.2.2.1.length,[],[],⟨rfl,ae⟩,by simp,by omega,rfl,rfl,by show (λT=>T=ld 1 s)=_;simp[ld],rfl⟩,λy aS=>A.d'.2 ?_⟩;obtain⟨dh,dK,mZ,r8⟩:=aS;refine⟨dh,dK,λh=>?_⟩;cases E:y.1 with
 | false=>grind
 | true=>
  obtain⟨_,ag⟩:=mZ E;show y.2.1.2.2.1=_;rw[ag];rfl
theorem aqH(s:bJ)(ae:mg s)(l:Nat):A.cv (Ih (sa 10) (some (dc s),l,(l,(λT=>T=ld 0 s),[],false),())) λy=>y.1.1=l/\y.1.2.1=(λT=>T=ld 0 s)/\(y.1.2.2.2=false->y.1.2.2.1=ld 0 s):=by
 unfold Ih;rw[A.fZ];have BL:=ae.tw;refine⟨⟨s,s.2.2.2.1.length,[],[],⟨rfl,ae⟩,by simp,by omega,rfl,rfl,by show (λT=>T=ld 0 s)=_;simp[ld],rfl⟩,λy aS=>A.d'.2 ?_⟩;obtain⟨dh,dK,mZ,r8⟩:=aS;refine⟨dh,dK,λh=>?_⟩;cases E:y.1 with
 | false=>grind
 | true=>
  obtain⟨_,ag⟩:=mZ E;show y.2.1.2.2.1=_;rw[ag];rfl
theorem Qm{D ak:Type}{body:D->ak->A (dj×D)}(g:D->ak->D)(I:D->Prop):∀ (l:List ak) (s:D),I s->(∀ x∈l,∀ s,I s->body s x=A.pure (dj.normal,g s x)/\I (g s x))->jR body l s=A.pure (dj.normal,l.foldl g s)
 | [],s,_,_=>rfl
 | x::l,s,eA,h=>by
  obtain⟨E,U⟩:=h x (by simp) s eA;unfold jR;rw[E,A.aG];exact Qm g I l (g s x) U λy aS=>h y (List.mem_cons_of_mem _ aS)
theorem Qn{s:bJ}{e:Int}:∀ {n:Nat} {first y:z1'},y∈kt s e n first->y.length=first.length+n/\∀ p∈y,p∈first\/p=-1\/(0<=p/\p<(s.2.2.1.length:Int))
 | 0,first,y,h=>by
  simp only[kt,List.mem_singleton]at h;grind
 | n+1,first,y,h=>by
  simp only[kt,List.mem_append,List.mem_flatMap,List.mem_range]at h;rcases h with⟨p,ao,h⟩ | h
  ·split at h
   ·obtain⟨E,U⟩:=Qn h;grind
   grind
  ·split at h
   ·cases h
   ·obtain⟨E,U⟩:=Qn h;grind
theorem Jl{s:bJ}{e:Int}{y:z1'}(h:y∈ld e s):y.length=s.2.2.2.1.length/\nC s y:=by
 obtain⟨E,U⟩:=Qn h;have E:y.length=s.2.2.2.1.length:=by grind
 refine⟨E,by omega,λp ao=>?_⟩;grind
theorem aqI(s:bJ):nC s (List.replicate s.2.2.2.1.length (-1)):=⟨by simp,λp ao=>by grind⟩
def tA(s:bJ)(b y:z1'):z1':=if (decide (pj s y > pj s b)&&qe s y)=true then y else b
def u'(s:bJ):z1':=(ld 1 s).foldl (tA s) (List.replicate s.2.2.2.1.length (-1))
theorem aae{s:bJ}:∀ (l:List (z1')) (b:z1'),(∀ y∈l,y.length=s.2.2.2.1.length/\nC s y)->(b.length=s.2.2.2.1.length/\nC s b)->((l.foldl (tA s) b).length=s.2.2.2.1.length/\nC s (l.foldl (tA s) b))
 | [],b,_,W=>W
 | y::l,b,ai,W=>by
  rw[List.foldl_cons];refine aae l _ (λz bk=>ai z (List.mem_cons_of_mem _ bk)) ?_;unfold tA;grind
theorem aaf(s:bJ):(u' s).length=s.2.2.2.1.length/\nC s (u' s):=aae _ _ (λ_ h=>Jl h) ⟨by simp,aqI s⟩
abbrev Qo:aN:=⟨wO,fP,λo=>∃ s,wQ o s,λo=>u' (ou o)⟩
theorem aqJ(s:bJ)(ae:mg s):Oy I7.sh wT.sh tz.sh y4 Jk (some (dc s))=A.pure (u' s):=by
 unfold Oy;have BL:=ae.tw;have gv:(dc s).1=s:=rfl;have gP:y4 (some (dc s)):=⟨s,rfl,ae⟩
 have Qp:Jk (some (dc s))=ld 1 s:=rfl;simp only[Option.isSome_some,Option.getD_some,A.bo,bX,gv,aN.sh,A.dH,Qp];rw[A.bu (by grind),A.bu gP];simp only[Int.toNat_natCast];rw[Qm (λ(b:Option dw×z1'×Unit) (y:z1')=>(some (dc s),tA s b.2.1 y,())) (λb=>b.1=some (dc s)/\b.2.1.length=s.2.2.2.1.length) (ld 1 s) (some (dc s),List.replicate s.2.2.2.1.length (-1),()) ⟨rfl,by simp⟩ ?_]
 ·have au:∀ (l:List (z1')) (b:z1'),l.foldl (λ(b:Option dw×z1'×Unit) (y:z1')=>(some (dc s),tA s b.2.1 y,())) (some (dc s),b,())=(some (dc s),l.foldl (tA s) b,()):=by
   intro l;induction l with
   | nil=>simp
   | cons y l aI=>grind
  rw[au,A.aG];rfl
 ·intro y aS b W;obtain⟨ds,ec,aqK⟩:=b;obtain⟨mD,rz⟩:=W;change ds=_ at mD;change ec.length=_ at rz;subst mD;obtain⟨x2,sQ⟩:=Jl aS;have jN:tz.pre (some (dc s),y):=⟨s,⟨rfl,ae⟩,by grind⟩
  have qA:tz.pre (some (dc s),ec):=⟨s,⟨rfl,ae⟩,by grind⟩
  have mz:wT.pre (some (dc s),y):=⟨s,⟨rfl,ae⟩,sQ⟩
  have ay:tz.g (some (dc s),y)=pj s y:=rfl;have aP:tz.g (some (dc s),ec)=pj s ec:=rfl;have cw:wT.g (some (dc s),y)=qe s y:=rfl;refine⟨?_,rfl,?_⟩
  ·simp only[A.og,A.gR,A.bu jN,A.bu qA,ay,aP,cw,mz,and_true,true_and,and_self,imp_self,implies_true,A.bo,tA];have dh:∀ c:Prop,(c->c/\(∃ nD,wQ (some (dc s)) nD/\nC nD y)):=λc h=>⟨h,mz⟩
   rw[A.bu (dh _)];have ay:ou (some (dc s))=s:=rfl;simp only[ay];cases hc:(decide (pj s y > pj s ec)&&qe s y)<;>simp
  ·show (tA s ec y).length=_;unfold tA;grind
theorem aqL(x):A.le (Oy I7.sh wT.sh tz.sh y4 Jk x) (Qo.sh x):=A.bw λh=>by
 obtain⟨s,au,ae⟩:=h;subst au;exact aqJ s ae
theorem Jm{s:bJ}{cc:Bool}(h:lb s cc=0):yZ s cc=(some (dc s),0):=by simp[yZ,h]
theorem Jn{s:bJ}{cc:Bool}(h:lb s cc≠0):yZ s cc=(none,lb s cc):=by simp[yZ,h]
def pk(s:bJ)(cc:Bool):Int×Int:=if lb s cc≠0 then (0,lb s cc) else (pj s (u' s),0)
abbrev Qq:aN:=⟨.aA mf dk,.aA br br,λx=>fF x.1,λx=>pk x.1 x.2⟩
theorem aqM(x):A.le (V6 BJ.sh Qo.sh tz.sh x) (Qq.sh x):=A.bw λh=>by
 unfold V6;show _=A.pure (pk x.1 x.2);unfold pk;simp only[aN.sh,A.dH];rw[A.bu (by exact h)];by_cases al:lb x.1 x.2=0
 ·have ae:=BI h (BH al).1;simp only[Jm al,al,ne_eq,not_true,decide_false,Bool.false_eq_true,if_false];rw[A.bu (by exact⟨x.1,rfl,ae⟩),A.bu (by exact⟨x.1,⟨rfl,ae⟩,Nat.le_of_eq (aaf x.1).1⟩)];rfl
 ·simp[Jn al,al]
abbrev y5:aN:=⟨mf,.aA br br,fF,λs=>pk s true⟩
theorem aqN(x):A.le (VZ Qq.sh x) (y5.sh x):=A.bw λh=>by
 unfold VZ;simp only[aN.sh,A.dH];simp_all
def va(s:bJ)(n:Int)(y:z1'):Int:=if (!(jD s y).2||!Fo (dc s) (jD s y).1)=true then n else if (decide (n=-1)||decide (wS (dc s) (jD s y).1<n))=true then wS (dc s) (jD s y).1 else n
def vb(s:bJ):Int:=(ld 0 s).foldl (va s) (-1)
def qf(s:bJ):Int×Int:=if lb s true≠0 then (0,lb s true) else if vb s=-1 then (0,3) else (vb s,0)
abbrev y6:aN:=⟨mf,.aA br br,fF,qf⟩
theorem aqO(x):A.le (V0 BJ.sh y4 Ql Je.sh Qe.sh Ji.sh x) (y6.sh x):=A.bw λh=>by
 unfold V0;show _=A.pure (qf x);unfold qf;simp only[aN.sh,A.dH];rw[A.bu (by exact h)];by_cases al:lb x true=0
 ·have ae:=BI h (BH al).1;have gP:y4 (some (dc x)):=⟨x,rfl,ae⟩
  have Qp:Ql (some (dc x))=ld 0 x:=rfl;simp only[Jm al,al,ne_eq,not_true,decide_false,Bool.false_eq_true,if_false,Qp];rw[A.bu gP];rw[Qm (λ(b:Option dw×Int×Unit) (y:z1')=>(some (dc x),va x b.2.1 y,())) (λb=>b.1=some (dc x)) (ld 0 x) (some (dc x),-1,()) rfl ?_]
  ·have au:∀ (l:List (z1')) (b:Int),l.foldl (λ(b:Option dw×Int×Unit) (y:z1')=>(some (dc x),va x b.2.1 y,())) (some (dc x),b,())=(some (dc x),l.foldl (va x) b,()):=by
    intro l;induction l with
    | nil=>simp
    | cons y l aI=>grind
   rw[au,A.aG];show (if decide (vb x=-1)=true then A.pure ((0:Int),(3:Int)) else A.pure (vb x,0))=_;grind
  ·intro y aS b W;obtain⟨ds,ec,aqK⟩:=b;change ds=_ at W;subst W;obtain⟨x2,sQ⟩:=Jl aS;refine⟨?_,rfl⟩;have AB:=Qh ae sQ;have jN:∃ nD,wQ (some (dc x)) nD/\nC nD y:=⟨x,⟨rfl,ae⟩,sQ⟩
   have fk:(dc x).1.2.1.length<2 ^ 63:=h.2.1;have qA:∃ t,some (dc x)=some t/\t.1.2.1.length<2 ^ 63/\(jD x y).1.length<2 ^ 63:=⟨_,rfl,fk,by omega⟩
   have mz:∃ t,some (dc x)=some t/\t.2.1.length<=200/\(jD x y).1.length<=1000:=⟨_,rfl,Z' ae,by omega⟩
   have ay:ou (some (dc x))=x:=rfl;have aP:Option.getD (some (dc x)) y0=dc x:=rfl;simp only[A.je,A.dH,ay,aP];rw[A.bu jN];simp only[qA,implies_true,A.bo];rw[A.bu (by exact mz)];show _=A.pure (dj.normal,some (dc x),va x ec y,());unfold va;cases E:(jD x y).2
   ·simp
   ·cases U:Fo (dc x) (jD x y).1
    ·simp
    ·simp only[Bool.not_true,Bool.not_false,if_true,Bool.or_self,Bool.false_eq_true,if_false];cases ag:(decide (ec=-1)||decide (wS (dc x) (jD x y).1<ec))<;>simp
 ·simp[Jn al,al]
def nE(s:bJ)(w p:Int):z1':=(List.replicate s.2.2.2.1.length (-1)).set w.toNat p
def Qr(s:bJ)(w:Int):z1':=((List.range s.2.2.1.length).filter λ(p:Nat)=>qe s (nE s w (p:Int))).map λ(p:Nat)=>(p:Int)
def ow(s:bJ)(w:Int):z1'×Int:=if lb s (yX s w)≠0 then ([],lb s (yX s w)) else (Qr s w,0)
abbrev y7:aN:=⟨.aA mf br,.aA fP br,λx=>fF x.1,λx=>ow x.1 x.2⟩
theorem aag{ak β:Type}{p:ak->Bool}{g:ak->β}:∀ (l:List ak) (b:List β),l.foldl (λb x=>if p x=true then b++[g x] else b) b=b++(l.filter p).map g
 | [],b=>by simp
 | x::l,b=>by
  simp only[List.foldl_cons,List.filter_cons];rw[aag l];grind
theorem aqP{s:bJ}{w:Int}{p:Nat}(ao:p<s.2.2.1.length):nC s (nE s w (p:Int)):=by
 refine⟨by simp[nE],λq bq=>?_⟩;unfold nE at bq;grind
theorem aqQ(x):A.le (V1 BJ.sh PY.sh wK wT.sh x) (y7.sh x):=A.bw λh=>by
 obtain⟨s,w⟩:=x;change fF s at h;unfold V1;show _=A.pure (ow s w);unfold ow;simp only[aN.sh,A.og,A.gR];rw[A.bu (by exact h),A.bu (by exact h)];by_cases al:lb s (yX s w)=0
 ·have ae:=BI h (BH al).1;have hw:=apL.1 (BH al).2.1;have BL:=ae.tw;have aqz:=ae.Fh;simp only[Jm al,al,ne_eq,not_true,decide_false,Bool.false_eq_true,if_false];unfold wK;simp only[A.dH,bX];rw[A.bu (by grind)];simp only[Int.toNat_natCast];rw[A.gw (List.range s.2.2.1.length) (λi (b:z1'×z1')=>(w,some (dc s),(s.2.2.1.length:Int),(i:Int),b.1,b.2,())) (λ(p:Nat) b=>.next (if qe s (nE s w (p:Int))=true then b.1++[(p:Int)] else b.1,nE s w (p:Int))) (λb=>.next (b.1,())) (λi b=>b.1.length<=i/\∀ p,b.2.set w.toNat p=nE s w p) ([],List.replicate s.2.2.2.1.length (-1)) ?_ ?_ ?_ ?_]
  ·rw[fs];have au:∀ (l:List Nat) (b:z1'×z1'),(l.foldl (λb (p:Nat)=>(if qe s (nE s w (p:Int))=true then b.1++[(p:Int)] else b.1,nE s w (p:Int))) b).1=l.foldl (λb (p:Nat)=>if qe s (nE s w (p:Int))=true then b++[(p:Int)] else b) b.1:=by
    intro l;induction l with
    | nil=>simp
    | cons p l aI=>grind
   rw[au,aag,A.aG,A.b3];rfl
  ·rfl
  ·exact⟨Nat.le_refl _,λp=>rfl⟩
  ·intro i G b W;have G:i<s.2.2.1.length:=by grind
   have lG:=bG (n:=(i:Int)+1) (by omega) (by omega);obtain⟨ds,ec⟩:=b;obtain⟨mD,rz⟩:=W;change ds.length<=i at mD;change ∀ p,ec.set w.toNat p=nE s w p at rz;have lV:b_ (ds.length+(0+1)):=by unfold b_;omega
   have hlen:ec.length=s.2.2.2.1.length:=by
    have:=congrArg List.length (rz 0);simpa [nE]using this
   have x8:0<=w/\w<(ec.length:Int):=by omega
   rw[List.getElem_range];refine⟨?_,λbe de=>?_⟩
   ·simp only[cY G,if_true,x8,and_self,A.bo,A.dH,rz];rw[A.bu (by exact⟨s,⟨rfl,ae⟩,aqP G⟩)];have ay:ou (some (dc s))=s:=rfl;simp only[ay,cp,gZ,A.bu lV];cases qe s (nE s w (i:Int))<;>simp[V.hp,lG]
   ·cases de;refine⟨?_,λp=>?_⟩
    ·grind
    ·show (nE s w (i:Int)).set w.toNat p=nE s w p;unfold nE;simp
  simp
 ·simp[Jn al,al]
def BQ(s:bJ)(cy:z1'):Int×Int:=if lb s (wN s cy)≠0 then (0,lb s (wN s cy)) else if (!qe s cy)=true then (0,3) else (pj s cy,0)
abbrev Jo:aN:=⟨.aA mf fP,.aA br br,λx=>fF x.1/\x.2.length<2 ^ 63,λx=>BQ x.1 x.2⟩
theorem aqR{s:bJ}{cy:z1'}(h:wN s cy=true):cy.length=s.2.2.2.1.length/\nC s cy:=by
 unfold wN at h;simp only[Bool.and_eq_true,List.all_eq_true,List.mem_range,decide_eq_true_eq]at h;obtain⟨E,U⟩:=h;refine⟨by omega,by omega,λp ao=>?_⟩;obtain⟨i,G,rfl⟩:=List.mem_iff_getElem.1 ao;have:=E i G;have jy:cy.getD i 0=cy[i]:=by grind
 unfold wM at this;simp only[jy,Bool.or_eq_true,decide_eq_true_eq,Bool.and_eq_true,apM]at this;omega
theorem aqS(x):A.le (V5 BJ.sh wT.sh I_.sh tz.sh x) (Jo.sh x):=A.bw λh=>by
 obtain⟨s,cy⟩:=x;obtain⟨aE,ai⟩:=h;unfold V5;show _=A.pure (BQ s cy);unfold BQ;simp only[aN.sh,A.og,A.gR];have ao:I_.pre (s,cy):=⟨aE,ai⟩
 rw[A.bu (by exact ao),A.bu (by exact aE)];by_cases al:lb s (wN s cy)=0
 ·have ae:=BI aE (BH al).1;obtain⟨aqT,x4⟩:=aqR (BH al).2.1;simp only[Jm al,al,ne_eq,not_true,decide_false,Bool.false_eq_true,if_false,A.dH];rw[A.bu (by exact⟨s,⟨rfl,ae⟩,x4⟩)];have ay:ou (some (dc s))=s:=rfl;simp only[ay];cases au:qe s cy with
  | false=>simp
  | true=>
   simp only[Bool.not_true,Bool.false_eq_true,if_false];rw[A.bu (by exact⟨s,⟨rfl,ae⟩,Nat.le_of_eq aqT⟩)]
 ·simp[Jn al,al]
def Fp(s:bJ):Prop:=apb s.1/\s.2.1.length<=2000000/\s.2.2.1.length<=2000000/\s.2.2.2.1.length<=2000000/\s.2.2.2.2.1.length<=2000000/\(∀ p∈s.2.2.1,p.2.2.2.2.length<=2000000)/\∀ x∈s.2.2.2.1,x.1.length<=2000000
theorem aqU{s:bJ}(ae:mg s):Fp s:=by
 have aoW:=E4 ae.tm.2;refine⟨⟨by omega,by omega,by omega,λm hm=>?_⟩,by have:=ae.Fg;omega,by have:=ae.Fh;omega,by have:=ae.tw;omega,by have:=ae.P0;omega,λp ao=>by have:=(P3 ae ao).2.1;omega,λx ah=>?_⟩
 ·have kZ:=(BB ae.tm.2).2.2.1 m hm;simp only[q6,Bool.and_eq_true,Bool.not_eq_true',decide_eq_false_iff_not,List.all_eq_true]at kZ;refine⟨by omega,λs' sy=>?_⟩;have:=kZ.2 s' sy;simp only[p8,Bool.and_eq_true,decide_eq_true_eq]at this;omega
 ·have:=ae.ZR x ah;simp only[pe,b1,Bool.and_eq_true,decide_eq_true_eq]at this;omega
def aah(s:bJ):Int:=(s.2.2.1.map λp=>(p.2.2.2.2.length:Int)).foldl (·+·) 0
def vc(s:bJ):Bool:=
 if (mc s.1||decide ((s.2.1.length:Int) > 40)||decide ((s.2.2.1.length:Int) > 40)||decide ((s.2.2.2.1.length:Int) > 40)||decide ((s.2.2.2.2.1.length:Int) > 40))=true then true
 else if (s.2.2.1.any λp=>decide ((p.2.2.2.2.length:Int) > 40))=true then true
 else if (s.2.2.2.1.any λx=>decide ((x.1.length:Int) > 40))=true then true
 else if jj s≠0 then false
 else decide ((s.2.2.2.1.length:Int) > 3)||decide ((s.2.2.1.length:Int) > 4)||decide ((s.2.2.2.2.1.length:Int) > 3)||decide (aah s > 4)
abbrev Jp:aN:=⟨mf,dk,fF,vc⟩
theorem aqV(x):A.le (Zk qc.sh wz.sh x) (Jp.sh x):=A.bw λh=>by
 change fF x at h;unfold Zk;show _=A.pure (vc x);unfold vc;simp only[aN.sh,A.dH,bX];rw[A.bu (by exact h.1)];obtain⟨g1,ei,g3,g4,g5,g6,g7⟩:=id h;by_cases E:(mc x.1||decide ((x.2.1.length:Int) > 40)||decide ((x.2.2.1.length:Int) > 40)||decide ((x.2.2.2.1.length:Int) > 40)||decide ((x.2.2.2.2.1.length:Int) > 40))=true
 ·grind
 ·rw[if_neg E,if_neg E];simp only[Bool.or_eq_true,decide_eq_true_eq,not_or]at E;rw[A.eu x.2.2.1 (λi (_:Unit)=>((i:Int),x,())) (λp u=>if decide ((p.2.2.2.2.length:Int) > 40)=true then .done (.done true) else .next u) (λ_=>.next (x,())) () ?_ ?_ ?_]
  ·rw[rY (p:=λp:dy=>decide ((p.2.2.2.2.length:Int) > 40))];by_cases U:(x.2.2.1.any λp=>decide ((p.2.2.2.2.length:Int) > 40))=true
   ·simp only[U,if_true,A.aG,A.pV]
   ·simp only[U,Bool.false_eq_true,if_false,A.aG,A.b3];rw[A.eu x.2.2.2.1 (λi (_:Unit)=>((i:Int),x,())) (λp u=>if decide ((p.1.length:Int) > 40)=true then .done (.done true) else .next u) (λ_=>.next (x,())) () ?_ ?_ ?_]
    ·rw[rY (p:=λp:dM=>decide ((p.1.length:Int) > 40))];by_cases ag:(x.2.2.2.1.any λx=>decide ((x.1.length:Int) > 40))=true
     ·simp only[ag,if_true,A.aG,A.pV]
     ·simp only[ag,Bool.false_eq_true,if_false,A.aG,A.b3];rw[A.bu (by exact h)];by_cases he:jj x=0
      ·simp only[he,ne_eq,not_true,decide_false,Bool.false_eq_true,if_false];have W:∀ p∈x.2.2.1,p.2.2.2.2.length<=40:=λp ao=>by
        grind
       rw[A.gw x.2.2.1 (λi (n:Int)=>(n,(i:Int),x,())) (λp n=>.next (n+(p.2.2.2.2.length:Int))) (λn=>.next (n,x,())) (λi n=>0<=n/\n<=40*i) 0 ?_ ?_ ?_ ?_]
       ·rw[fs,A.aG,A.b3];unfold aah;rw[List.foldl_map]
       ·rfl
       ·simp
       ·intro i G n aw;have lG:=bG (n:=(i:Int)+1) (by omega) (by omega);have ay9:=W _ (List.getElem_mem G);have BF:=bG (n:=n+(x.2.2.1[i].2.2.2.2.length:Int)) (by omega) (by omega);refine⟨?_,λbe de=>?_⟩
        ·simp only[cY G,if_true,cI G,A.bo,dm G,cp,lG,BF];rfl
        grind
       simp
      grind
    ·rfl
    ·intro i G u;have lG:=bG (n:=(i:Int)+1) (by omega) (by omega);simp only[cY G,if_true,cI G,A.bo,dm G,A.aG,cp,lG];exact nl (mk:=λ_:Unit=>((i:Int)+1,x,()))
    simp
  ·rfl
  ·intro i G u;have lG:=bG (n:=(i:Int)+1) (by omega) (by omega);simp only[cY G,if_true,cI G,A.bo,dm G,A.aG,cp,lG];exact nl (mk:=λ_:Unit=>((i:Int)+1,x,()))
  simp
def BR:bJ:=(I0,[1,0,0,0],[(1,60,0,0,[0]),(1,60,7,0,[]),(2,65,0,1,[0]),(2,60,0,0,[0,1])],[([1],(55,65),7,3,500),([1,2],(60,60),0,5,400),([2],(60,70),9,8,700),([2],(65,65),0,5,300)],[(4,2,1),(6,3,1)],2)
abbrev Jq:aN:=⟨.cT,mf,λ_=>True,λ_=>BR⟩
theorem aqW(x):A.le (Zl PU.sh x) (Jq.sh x):=A.bw λ_=>by
 unfold Zl;simp only[aN.sh,A.dH,A.bo];rfl
theorem aqX:fF BR:=by
 refine⟨apf,by decide,by decide,by decide,by decide,?_,?_⟩
 ·intro p ao;simp only[BR,List.mem_cons,List.not_mem_nil,or_false]at ao;grind
 ·intro x ah;simp only[BR,List.mem_cons,List.not_mem_nil,or_false]at ah;grind
end Go.Fer
namespace Go.Fer.H
open A (V)
def aai(A1:a6->A Int)(OJ:List a8->A (List a8×Bool))(aqY:List (List a8)->A (List a8))(aqZ:List (z1')×Unit->A (z1'×Unit))(OL:z1'×Unit->A (z1'×Unit))(aq0:z1'×Unit->A ((Nat×Nat)×z1'×Unit))(Jr:z4'->A (z4'))(x:a6×List a8×z1'):A (a6×Int):=
 letI a:=x.1.2.2.2;A.bind (A1 x.1) λy=>if decide (y≠0)=true then A.pure (([],[],[],[],0,0,0,0,0,0,0),y) else A.bind (A1 (x.1.1,x.2.1,x.2.2,a)) λy=>if decide (y≠0)=true then A.pure (([],[],[],[],0,0,0,0,0,0,0),y) else A.bind (aqY [x.1.2.1,x.2.1]) λy=>A.bind (OJ y) λy=>if (!y.2)=true then A.pure (([],[],[],[],0,0,0,0,0,0,0),91) else A.bind (aqZ ([x.1.2.2.1,x.2.2],())) λb4=>A.bind (OL (b4.1,())) λdL=>A.bind (aq0 (dL.1,())) λgb=>if (decide (Int.ofNat (List.length y.1) > 12)||decide (Int.ofNat (gb.1.2-gb.1.1) > 12))=true then A.pure (([],[],[],[],0,0,0,0,0,0,0),90) else A.ad (Jr x.1.1).b2 (A.ad (Jr a.1).b2 (A.pure ((A.val (Jr x.1.1) [],y.1,List.drop gb.1.1 (List.take gb.1.2 gb.2.1),A.val (Jr a.1) [],a.2),0)))
def aaj(aq1:Int×Unit->A (List a8×Unit))(x:List (List a8)):A (List a8):=
 A.bind (A.loop (λ(D:List (List a8)×Int×List (List a8)×Int×Int×Unit)=>letI d:=D.2.2;letI b:=d.2.2.1;letI a:=IntKind.wrap .i64 (Add.add D.2.1 (Int.ofNat (List.length (List.getD d.1 (Int.toNat b) []))));if decide (b<d.2.1)=true then A.bind (A.ad (0<=b/\b<Int.ofNat (List.length d.1)) (if decide (a<0)=true then A.ad False (A.ad False (A.pure (V.next (D.1,a,d.1,d.2.1,b,())))) else A.pure (V.next (D.1,a,d.1,d.2.1,b,())))) (V.bE (λ(D:List (List a8)×Int×List (List a8)×Int×Int×Unit)=>A.pure (V.next (D.1,D.2.1,D.2.2.1,D.2.2.2.1,IntKind.wrap .i64 (Add.add D.2.2.2.2.1 1),())))) else A.bind (A.pure (V.next (D.1,D.2.1,()))) λr=>A.pure (V.done r)) (x,0,x,Int.ofNat (List.length x),0,())) (V.bE (λ(D:List (List a8)×Int×Unit)=>A.bind (aq1 (D.2.1,())) λy=>A.bind (A.loop (λ(D:List (List a8)×Int×Int×List a8×Unit)=>letI e:=D.2.2;letI c:=List.getD D.1 (Int.toNat e.1) [];if decide (e.1<D.2.1)=true then A.ad (0<=e.1/\e.1<Int.ofNat (List.length D.1)) (A.ad (b_ (Add.add (List.length e.2.1) (List.length c))) (A.pure (V.next (D.1,D.2.1,IntKind.wrap .i64 (Add.add e.1 1),e.2.1++c,())))) else A.bind (A.pure (V.next (e.2.1,()))) λr=>A.pure (V.done r)) (D.1,Int.ofNat (List.length D.1),0,y.1,())) (V.bE (λ(D:List a8×Unit)=>A.pure D.1))))
def aak(aq2:Int×Unit->A (z1'×Unit))(x:List (z1')×Unit):A (z1'×Unit):=
 A.bind (A.loop (λ(D:List (z1')×Int×List (z1')×Int×Int×Unit)=>letI d:=D.2.2;letI b:=d.2.2.1;letI a:=IntKind.wrap .i64 (Add.add D.2.1 (Int.ofNat (List.length (List.getD d.1 (Int.toNat b) []))));if decide (b<d.2.1)=true then A.bind (A.ad (0<=b/\b<Int.ofNat (List.length d.1)) (if decide (a<0)=true then A.ad False (A.ad False (A.pure (V.next (D.1,a,d.1,d.2.1,b,())))) else A.pure (V.next (D.1,a,d.1,d.2.1,b,())))) (V.bE (λ(D:List (z1')×Int×List (z1')×Int×Int×Unit)=>A.pure (V.next (D.1,D.2.1,D.2.2.1,D.2.2.2.1,IntKind.wrap .i64 (Add.add D.2.2.2.2.1 1),())))) else A.bind (A.pure (V.next (D.1,D.2.1,()))) λr=>A.pure (V.done r)) (x.1,0,x.1,Int.ofNat (List.length x.1),0,())) (V.bE (λ(D:List (z1')×Int×Unit)=>A.bind (aq2 (D.2.1,())) λy=>A.bind (A.loop (λ(D:List (z1')×Int×Int×z1'×Unit)=>letI e:=D.2.2;letI c:=List.getD D.1 (Int.toNat e.1) [];if decide (e.1<D.2.1)=true then A.ad (0<=e.1/\e.1<Int.ofNat (List.length D.1)) (A.ad (b_ (Add.add (List.length e.2.1) (List.length c))) (A.pure (V.next (D.1,D.2.1,IntKind.wrap .i64 (Add.add e.1 1),e.2.1++c,())))) else A.bind (A.pure (V.next (e.2.1,()))) λr=>A.pure (V.done r)) (D.1,Int.ofNat (List.length D.1),0,y.1,())) (V.bE (λ(D:z1'×Unit)=>A.pure (D.1,())))))
def aq3(x:z1'×Unit):A ((Nat×Nat)×z1'×Unit):=
 if decide (Int.ofNat (List.length x.1)<2)=true then A.pure ((0,List.length x.1),x.1,()) else A.bind (A.loop (λ(D:Int×z1'×Unit)=>letI l:=D.1;letI j:=D.2.1;letI g:=IntKind.wrap .i64 (l-1);letI b:=Int.ofNat (List.length j);if decide (l<b)=true then A.bind (A.ad (0<=l/\l<b) (A.ad (0<=g/\g<b) (if decide (List.getD j (Int.toNat l) 0=List.getD j (Int.toNat g) 0)=true then A.ad (0<=l/\l<=b/\b<=b) (A.bind (A.loop (λ(D:Int×(Nat×Nat)×Int×z1'×Unit)=>letI k:=D.2.1;letI e:=D.2.2;letI i:=IntKind.wrap .i64 (e.1-1);letI h:=List.getD e.2.1 (Add.add k.1 (Int.toNat e.1)) 0;letI d:=Int.ofNat (k.2-k.1);if decide (e.1<d)=true then A.bind (A.ad (0<=e.1/\e.1<d) (A.ad (0<=i/\i<d) (if decide (h≠List.getD e.2.1 (Add.add k.1 (Int.toNat i)) 0)=true then A.ad (0<=e.1/\e.1<d) (A.ad (0<=D.1/\D.1<Int.ofNat (List.length e.2.1)) (A.pure (V.next (IntKind.wrap .i64 (Add.add D.1 1),k,e.1,List.set e.2.1 (Int.toNat D.1) h,())))) else A.pure (V.next (D.1,k,e.1,e.2.1,()))))) (V.bE (λ(D:Int×(Nat×Nat)×Int×z1'×Unit)=>A.pure (V.next (D.1,D.2.1,IntKind.wrap .i64 (Add.add D.2.2.1 1),D.2.2.2.1,())))) else A.bind (A.pure (V.next (D.1,e.2.1,()))) λr=>A.pure (V.done r)) (l,(Int.toNat l,Int.toNat b),1,j,())) (V.bE (λ(D:Int×z1'×Unit)=>letI f:=Int.toNat D.1;letI c:=Int.ofNat (List.length D.2.1);letI a:=List.take f D.2.1++List.replicate (Int.toNat c-f) 0++List.drop (Add.add f (List.length (List.replicate (Int.toNat c-f) (0:Int)))) D.2.1;A.ad (0<=D.1/\D.1<=c/\c<=c) (A.ad True (A.ad ((0:Int)<=0/\0<=D.1/\D.1<=Int.ofNat (List.length a)) (A.bind (A.bind (A.bind (A.pure ((Int.toNat 0,f),a,())) (λr=>A.pure (V.done r))) (λr=>A.pure (V.done r))) (λr=>A.pure (V.done r)))))))) else A.pure (V.next (l,j,()))))) (V.bE (λ(D:Int×z1'×Unit)=>A.pure (V.next (IntKind.wrap .i64 (Add.add D.1 1),D.2.1,())))) else A.bind (A.pure (V.next (j,()))) λr=>A.pure (V.done r)) (1,x.1,())) (V.bE (λ(D:z1'×Unit)=>A.pure ((0,List.length D.1),D.1,())))
def Js(x:Int×Unit):A (z1'×Unit):=A.dQ (0<=x.1/\x.1<60000) ([],())
def Jt(x:Int×Unit):A (List a8×Unit):=A.dQ (0<=x.1/\x.1<60000) ([],())
section
variable {ak gB:Type}
def Ju(g:Int×Unit->A (List ak×Unit))(x:List (List ak))(k:List ak->A gB):A gB:=
 A.bind (A.loop (λ(D:List (List ak)×Int×List (List ak)×Int×Int×Unit)=>if decide (D.2.2.2.2.1<D.2.2.2.1)=true then A.bind (A.ad (0<=D.2.2.2.2.1/\
 D.2.2.2.2.1<Int.ofNat (List.length D.2.2.1)) (if decide (IntKind.wrap .i64 (Add.add D.2.1 (Int.ofNat (List.length (List.getD D.2.2.1 (Int.toNat D.2.2.2.2.1) [])))) <
 0)=true then A.ad False (A.ad False (A.pure (V.next (D.1,IntKind.wrap .i64 (Add.add D.2.1 (Int.ofNat (List.length (List.getD D.2.2.1 (Int.toNat D.2.2.2.2.1)
 [])))),D.2.2.1,D.2.2.2.1,D.2.2.2.2.1,())))) else A.pure (V.next (D.1,IntKind.wrap .i64 (Add.add D.2.1 (Int.ofNat (List.length (List.getD D.2.2.1 (Int.toNat
 D.2.2.2.2.1) [])))),D.2.2.1,D.2.2.2.1,D.2.2.2.2.1,())))) (V.bE λ(D:List (List ak)×Int×List (List ak)×Int×Int×Unit)=>A.pure (V.next (D.1,D.2.1,D.2.2.1,D.2.2.2.1,IntKind.wrap .i64 (Add.add D.2.2.2.2.1 1),()))) else A.bind (A.pure (V.next (D.1,D.2.1,()))) λr=>A.pure (V.done r)) (x,0,x,Int.ofNat
 (List.length x),0,())) (V.bE λ(D:List (List ak)×Int×Unit)=>A.bind (g (D.2.1,())) λy=>A.bind (A.loop (λ(D:List (List ak)×Int×Int×List ak×
 Unit)=>if decide (D.2.2.1<D.2.1)=true then A.ad (0<=D.2.2.1/\D.2.2.1<Int.ofNat (List.length D.1)) (A.ad (b_ (Add.add (List.length D.2.2.2.1) (List.length
 (List.getD D.1 (Int.toNat D.2.2.1) [])))) (A.pure (V.next (D.1,D.2.1,IntKind.wrap .i64 (Add.add D.2.2.1 1),D.2.2.2.1++List.getD D.1 (Int.toNat D.2.2.1) [],())))) else A.bind (A.pure (V.next (D.2.2.2.1,()))) λr=>A.pure (V.done r)) (D.1,Int.ofNat (List.length D.1),0,y.1,())) (V.bE λ(D:List ak×Unit)
 =>k D.1))
theorem aal:∀ (l:List (List ak)) (b:List ak),l.foldl (λb x=>b++x) b=b++l.flatten
 | [],b=>by simp
 | x::l,b=>by simp[aal l]
theorem aam(g:Int×Unit->A (List ak×Unit))(aC:∀ n,0<=n->n<60000->g (n,())=A.pure ([],()))(x:List (List ak))(k:List ak->A gB)(E:x.length<=2)(U:∀ l∈x,l.length<=40):Ju g x k=k x.flatten:=by
 unfold Ju;rw[A.gw x (λi (n:Int)=>(x,n,x,(x.length:Int),(i:Int),())) (λl n=>.next (n+(l.length:Int))) (λn=>.next (x,n,())) (λi n=>0<=n/\n<=40*(i:Int)) 0 ?_ ?_ ?_ ?_]
 ·rw[fs,A.aG,A.b3];have aE:∀ (l:List (List ak)) (n:Int),0<=n->(∀ y∈l,y.length<=40)->0<=l.foldl (λn y=>n+(y.length:Int)) n/\l.foldl (λn y=>n+(y.length:Int)) n<=n+40*(l.length:Int):=by
   intro l;induction l with
   | nil=>simp
   | cons y l aI=>
    grind
  obtain⟨ds,ec⟩:=aE x 0 (Int.le_refl _) U;rw[aC _ ds (by omega),A.aG];rw[A.gw x (λi (b:List ak)=>(x,(x.length:Int),(i:Int),b,())) (λl b=>.next (b++l)) (λb=>.next (b,())) (λi b=>b.length<=40*i) [] ?_ ?_ ?_ ?_]
  ·rw[fs,A.aG,A.b3,aal];rfl
  ·rfl
  ·simp
  ·intro i G b W;have hw:=bG (n:=(i:Int)+1) (by omega) (by omega);have ai:=U _ (List.getElem_mem G);refine⟨?_,λbe de=>?_⟩
   ·simp only[bX,cY G,if_true,dm G,cI G,A.bo,cp,hw];rw[A.bu (ft (by grind))];rfl
   grind
  simp
 ·rfl
 ·omega
 ·intro i G n aw;have hw:=bG (n:=(i:Int)+1) (by omega) (by omega);have ai:=U _ (List.getElem_mem G);have gY:=bG (n:=n+(x[i].length:Int)) (by omega) (by omega);have ar:decide (n+(x[i].length:Int)<0)=false:=by grind
  refine⟨?_,λbe de=>?_⟩
  ·simp only[bX,cY G,if_true,dm G,cI G,A.bo,cp,hw,gY,ar,Bool.false_eq_true,if_false,A.aG,A.b3];rfl
  grind
 simp
end
abbrev Jv:aN:=⟨.slice (.slice hr),.slice hr,λx=>x.length<=2/\∀ l∈x,l.length<=40,λx=>x.flatten⟩
theorem aq4(x):A.le (aaj Jt x) (Jv.sh x):=A.bw λh=>
 (show aaj Jt x=Ju Jt x A.pure from rfl).trans (aam _ (λn a b=>A.bP ⟨a,b⟩ _) x _ h.1 h.2)
def Jw(x:List (z1')×Unit):A (z1'×Unit):=A.dQ (x.1.length<=2/\∀ l∈x.1,l.length<=40) (x.1.flatten,())
theorem aq5(x):A.le (aak Js x) (Jw x):=A.bw λh=>
 (show aak Js x=Ju Js x.1 (λl=>A.pure (l,())) from rfl).trans (aam _ (λn a b=>A.bP ⟨a,b⟩ _) x.1 _ h.1 h.2)
def ox(l:z1')(j:Nat):Bool:=decide (j=0)||decide (l.getD j 0≠l.getD (j - 1) 0)
def fv(l:z1')(p:Nat):z1':=((List.range p).filter (ox l)).map λj=>l.getD j 0
theorem Qs(l:z1')(p:Nat):fv l (p+1)=fv l p++if ox l p=true then [l.getD p 0] else []:=by
 unfold fv;rw[List.range_succ,List.filter_append,List.map_append];grind
theorem aq6(l:z1')(p:Nat):(fv l p).length<=p:=by
 unfold fv;grind
def Fq{R:Type}:Int×(Nat×Nat)×Int×z1'×Unit->A (V (Int×(Nat×Nat)×Int×z1'×Unit) (V (Int×z1'×Unit) R)):=
 (λ(D:Int×(Nat×Nat)×Int×z1'×Unit)=>if decide (D.2.2.1<Int.ofNat (D.2.1.2 - D.2.1.1))=true then A.bind (A.ad (0<=D.2.2.1/\D.2.2.1<Int.ofNat
 (D.2.1.2 - D.2.1.1)) (A.ad (0<=IntKind.wrap .i64 (D.2.2.1 - 1)/\IntKind.wrap .i64 (D.2.2.1 - 1)<Int.ofNat (D.2.1.2 - D.2.1.1)) (if decide (List.getD D.2.2.2.1
 (Add.add D.2.1.1 (Int.toNat D.2.2.1)) 0≠List.getD D.2.2.2.1 (Add.add D.2.1.1 (Int.toNat (IntKind.wrap .i64 (D.2.2.1 - 1)))) 0)=true then A.ad (0<=D.2.2.1/\D.2.2.1
 < Int.ofNat (D.2.1.2 - D.2.1.1)) (A.ad (0<=D.1/\D.1<Int.ofNat (List.length D.2.2.2.1)) (A.pure (V.next (IntKind.wrap .i64 (Add.add D.1 1),D.2.1,D.2.2.1,List.set D.2.2.2.1 (Int.toNat D.1) (List.getD D.2.2.2.1 (Add.add D.2.1.1 (Int.toNat D.2.2.1)) 0),())))) else A.pure (V.next (D.1,D.2.1,D.2.2.1,D.2.2.2.1,())))))
 (V.bE λ(D:Int×(Nat×Nat)×Int×z1'×Unit)=>A.pure (V.next (D.1,D.2.1,IntKind.wrap .i64 (Add.add D.2.2.1 1),D.2.2.2.1,()))) else A.bind
 (A.pure (V.next (D.1,D.2.2.2.1,()))) λr=>A.pure (V.done r))
def wU:Int×z1'×Unit->A (V (Int×z1'×Unit) (V (z1'×Unit) ((Nat×Nat)×z1'×Unit))):=
 (λ(D:Int×z1'×Unit)=>if decide (D.1<Int.ofNat (List.length D.2.1))=true then A.bind (A.ad (0<=D.1/\D.1<Int.ofNat (List.length D.2.1)) (A.ad (0<=
 IntKind.wrap .i64 (D.1 - 1)/\IntKind.wrap .i64 (D.1 - 1)<Int.ofNat (List.length D.2.1)) (if decide (List.getD D.2.1 (Int.toNat D.1) 0=List.getD D.2.1 (Int.toNat
 (IntKind.wrap .i64 (D.1 - 1))) 0)=true then A.ad (0<=D.1/\D.1<=Int.ofNat (List.length D.2.1)/\Int.ofNat (List.length D.2.1)<=Int.ofNat (List.length D.2.1))
 (A.bind (A.loop Fq (D.1,(Int.toNat D.1,Int.toNat (Int.ofNat (List.length D.2.1))),1,D.2.1,())) (V.bE λ(D:Int×z1'×Unit)=>A.ad (0<=D.1/\D.1<=
 Int.ofNat (List.length D.2.1)/\Int.ofNat (List.length D.2.1)<=Int.ofNat (List.length D.2.1)) (A.ad True (A.ad ((0:Int)<=0/\0<=D.1/\D.1<=Int.ofNat (List.length
 (List.take (Int.toNat D.1) D.2.1++List.replicate (Int.toNat (Int.ofNat (List.length D.2.1)) - Int.toNat D.1) 0++List.drop (Add.add (Int.toNat D.1) (List.length
 (List.replicate (Int.toNat (Int.ofNat (List.length D.2.1)) - Int.toNat D.1) (0:Int)))) D.2.1))) (A.bind (A.bind (A.bind (A.pure ((Int.toNat 0,Int.toNat D.1),List.take
 (Int.toNat D.1) D.2.1++List.replicate (Int.toNat (Int.ofNat (List.length D.2.1)) - Int.toNat D.1) 0++List.drop (Add.add (Int.toNat D.1) (List.length (List.replicate
 (Int.toNat (Int.ofNat (List.length D.2.1)) - Int.toNat D.1) (0:Int)))) D.2.1,())) λr=>A.pure (V.done r)) λr=>A.pure (V.done r)) λr=>A.pure (V.done
 r)))))) else A.pure (V.next (D.1,D.2.1,()))))) (V.bE λ(D:Int×z1'×Unit)=>A.pure (V.next (IntKind.wrap .i64 (Add.add D.1 1),D.2.1,()))) else
 A.bind (A.pure (V.next (D.2.1,()))) λr=>A.pure (V.done r))
structure y8(l:z1')(p:Nat)(m:z1'):Prop where
 len:m.length=l.length
 CN:m.take (fv l p).length=fv l p
 lt:(fv l p).length<p
 cm:∀ j,p<=j+1->m.getD j 0=l.getD j 0
theorem aq7{ak:Type}{l:List ak}{i j:Nat}{v d:ak}(h:i<l.length):(l.set i v).getD j d=if j=i then v else l.getD j d:=by
 grind
theorem y8.step{l m:z1'}{p:Nat}(h:y8 l p m)(ao:p<l.length):y8 l (p+1) (if ox l p=true then m.set (fv l p).length (l.getD p 0) else m):=by
 have E:=h.lt;have U:=h.len;have hc:=Qs l p;by_cases al:ox l p=true
 ·rw[if_pos al]at hc ⊢;refine⟨by grind,?_,?_,λj aF=>?_⟩
  ·rw[hc,List.length_append,List.length_singleton];have aM:=h.CN;generalize fv l p=c at aM E;apply List.ext_getElem?;intro j;rw[List.getElem?_take,List.getElem?_append,List.getElem?_set];grind
  ·grind
  ·rw[aq7 (by omega),if_neg (by omega)];exact h.cm j (by omega)
 ·rw[if_neg al,List.append_nil]at hc;rw[if_neg al];refine⟨U,by rw[hc];exact h.CN,by grind,λj aF=>h.cm j (by omega)⟩
theorem aq8{R:Type}{l m:z1'}{k p:Nat}(ai:l.length<60000)(al:k<p)(nb:0<k)(h:y8 l p m)(ao:p<l.length) :
  Fq (R:=R) (((fv l p).length:Nat),(k,l.length),((p - k:Nat):Int),m,())=A.pure (.next (((fv l (p+1)).length:Nat),(k,l.length),((p+1 - k:Nat):Int),(if ox l p=true then m.set (fv l p).length (l.getD p 0) else m),())):=by
 have E:=h.lt;have U:=h.len;have hc:=Qs l p;have b':=bG (n:=((p - k:Nat):Int) - 1) (by omega) (by omega);have c8:IntKind.wrap .i64 (((p - k:Nat):Int)+1)=((p+1 - k:Nat):Int):=(bG (by omega) (by omega)).trans (by omega);have eW:=bG (n:=(((fv l p).length:Nat):Int)+1) (by omega) (by omega);have d1:decide (((p - k:Nat):Int)<((l.length - k:Nat):Int))=true:=by grind
 have cg:(0:Int)<=((p - k:Nat):Int)/\((p - k:Nat):Int)<((l.length - k:Nat):Int):=by omega
 have cJ:(0:Int)<=((p - k:Nat):Int) - 1/\((p - k:Nat):Int) - 1<((l.length - k:Nat):Int):=by omega
 have et:(0:Int)<=(((fv l p).length:Nat):Int)/\(((fv l p).length:Nat):Int)<(m.length:Int):=by omega
 have ay:k+(((p - k:Nat):Int)).toNat=p:=by omega
 have aP:k+(((p - k:Nat):Int) - 1).toNat=p - 1:=by omega
 have g1:=h.cm p (by omega);have ei:=h.cm (p - 1) (by omega);have zX:ox l p=decide (l.getD p 0≠l.getD (p - 1) 0):=by
  unfold ox;grind
 unfold Fq;simp only[bX,d1,if_true,b',cg,cJ,and_self,A.bo,cp,gZ,ay,aP,g1,ei,<-zX];by_cases Jx:ox l p=true
 ·rw[if_pos Jx]at hc;simp only[Jx,if_true,et,and_self,A.bo,A.aG,A.b3,c8,eW,Int.toNat_natCast,decide_true];rw[hc];simp
 ·rw[if_neg Jx,List.append_nil]at hc;simp only[Jx,if_false,A.aG,A.b3,c8,Bool.false_eq_true,decide_true,if_true];rw[hc]
theorem aq9{R:Type}{l:z1'}{k:Nat}(ai:l.length<60000)(nb:0<k):∀ (n p:Nat) (m:z1'),l.length - p=n->p<=l.length->k<p->y8 l p m->
  ∃ dx,y8 l l.length dx/\A.loop (Fq (R:=R)) (((fv l p).length:Nat),(k,l.length),((p - k:Nat):Int),m,())=A.pure (.next (((fv l l.length).length:Nat),dx,())):=by
 intro n;induction n with
 | zero=>
  intro p m aw ao al h;have:p=l.length:=by omega
  subst this;refine⟨m,h,A.sg ?_⟩;unfold Fq;simp
 | succ n aI=>
  intro p m aw ao al h;have ao:p<l.length:=by omega
  obtain⟨dx,E,U⟩:=aI (p+1) _ (by omega) ao (by omega) (h.step ao);exact⟨dx,E,(A.zt (aq8 ai al nb h ao)).trans U⟩
def wV(l:z1'):(Nat×Nat)×z1'×Unit:=((0,(fv l l.length).length),fv l l.length++List.replicate (l.length - (fv l l.length).length) 0,())
theorem aq_{l:z1'}(ai:l.length<60000):∀ (n p:Nat),l.length - p=n->p<=l.length->0<p->fv l p=l.take p->
  A.bind (A.loop wU ((p:Int),l,())) (V.bE λ(D:z1'×Unit)=>A.pure ((0,List.length D.1),D.1,()))=A.pure (wV l):=by
 intro n;induction n with
 | zero=>
  intro p aw ao aU hc;have:p=l.length:=by omega
  subst this;rw[List.take_length]at hc;have W:wU ((l.length:Int),l,())=A.pure (.done (.next (l,()))):=by
   unfold wU;simp
  rw[A.sg W,A.aG,A.b3];unfold wV;simp_all
 | succ n aI=>
  intro p aw ao aU hc;have ao:p<l.length:=by omega
  have b':=bG (n:=(p:Int) - 1) (by omega) (by omega);have c8:=bG (n:=(p:Int)+1) (by omega) (by omega);have cJ:(0:Int)<=(p:Int) - 1/\(p:Int) - 1<(l.length:Int):=by omega
  have ay:((p:Int) - 1).toNat=p - 1:=by omega
  have zX:ox l p=decide (l.getD p 0≠l.getD (p - 1) 0):=by
   unfold ox;rw[show decide (p=0)=false by grind,Bool.false_or]
  have pA:=Qs l p;have ZO:(l.take p).length=p:=by grind
  by_cases al:ox l p=true
  ·have eC:¬l.getD p 0=l.getD (p - 1) 0:=by grind
   have W:wU ((p:Int),l,())=A.pure (.next (((p+1:Nat):Int),l,())):=by
    unfold wU;simp_all
   rw[A.zt W];refine aI (p+1) (by omega) ao (by omega) ?_;simp_all
  ·have heq:l.getD p 0=l.getD (p - 1) 0:=by grind
   rw[if_neg al,List.append_nil]at pA;have eA:y8 l (p+1) l:=⟨rfl,by grind,by grind,λ_ _=>rfl⟩
   obtain⟨dx,E,U⟩:=aq9 (R:=V (Int×z1'×Unit) (V (Int×z1'×Unit) (V (z1'×Unit) ((Nat×Nat)×z1'×Unit)))) ai aU (l.length - (p+1)) (p+1) l rfl ao (by omega) eA;rw[show (fv l (p+1)).length=p by grind,show p+1 - p=1 from by omega]at U;have lR:=aq6 l l.length;have anG:=E.len;have kX:=E.CN;have et:(0:Int)<=((fv l l.length).length:Int)/\((fv l l.length).length:Int)<=(dx.length:Int):=by omega
   have jo:List.take (fv l l.length).length dx++List.replicate (dx.length - (fv l l.length).length) 0++List.drop ((fv l l.length).length+(List.replicate (dx.length - (fv l l.length).length) (0:Int)).length) dx=fv l l.length++List.replicate (l.length - (fv l l.length).length) 0:=by
    simp_all
   have W:wU ((p:Int),l,())=A.pure (.done (.done (wV l))):=by
    unfold wU;simp only[bX,cY ao,if_true,cI ao,A.bo,b',cJ,and_self,ay,Int.toNat_natCast,heq,decide_true];rw[A.bu (by omega)];erw [U];simp only[A.aG,A.b3,bX,Int.toNat_natCast,gZ,jo,A.bo];rw[A.bu ⟨et.1,et.2,Int.le_refl _⟩,A.bu ⟨Int.le_refl _,et.1,by grind⟩];simp only[A.aG,A.pV,jo];rfl
   rw[A.sg W,A.aG,A.pV]
def Jy(x:z1'×Unit):A ((Nat×Nat)×z1'×Unit):=A.dQ (x.1.length<60000) (wV x.1)
theorem aq'(x):A.le (aq3 x) (Jy x):=A.bw λh=>by
 obtain⟨l,u⟩:=x;change l.length<60000 at h;show (if decide (Int.ofNat l.length<2)=true then A.pure ((0,l.length),l,()) else A.bind (A.loop wU (1,l,())) (V.bE λ(D:z1'×Unit)=>A.pure ((0,List.length D.1),D.1,())))=A.pure (wV l);have n0:∀ l:z1',l.length<2->fv l l.length=l:=λl ai=>by
  match l,ai with
  | [],_=>rfl
  | [a],_=>rfl
 by_cases U:l.length<2
 ·have ar:decide (Int.ofNat l.length<2)=true:=by grind
  rw[if_pos ar];unfold wV;simp_all
 ·have ar:¬decide (Int.ofNat l.length<2)=true:=by grind
  rw[if_neg ar];refine aq_ h (l.length - 1) 1 rfl (by omega) (by omega) ?_;match l,U with
  | a::l,_=>rfl
  | [],U=>grind
end Go.Fer.H
namespace Go.Fer.H
open A (V)
theorem ara{l:z1'}:∀ j,j<l.length->l.getD j 0∈fv l l.length:=by
 intro j;induction j with
 | zero=>
  intro h;unfold fv;exact List.mem_map.2 ⟨0,List.mem_filter.2 ⟨by grind,by rfl⟩,rfl⟩
 | succ j aI=>
  intro h;by_cases al:ox l (j+1)=true
  ·unfold fv;grind
  ·have:l.getD (j+1) 0=l.getD j 0:=by
    unfold ox at al;grind
   grind
theorem arb{l:z1'}{x:Int}:x∈fv l l.length<->x∈l:=by
 constructor
 ·intro h;unfold fv at h;grind
 ·intro h;obtain⟨j,aF,rfl⟩:=List.mem_iff_getElem.1 h;rw[<-th (d:=0) aF];exact ara j aF
theorem arc{l:z1'}(h:l.Pairwise (·<=·)):(fv l l.length).Pairwise (·<·):=by
 unfold fv;rw[List.pairwise_map];have M:((List.range l.length).filter (ox l)).Pairwise (·<·):=List.Pairwise.filter _ List.pairwise_lt_range;refine List.Pairwise.imp_of_mem ?_ M;intro i j G aF z7;obtain⟨ard,jb⟩:=List.mem_filter.1 aF;have ard:j<l.length:=by grind
 have eC:l.getD j 0≠l.getD (j - 1) 0:=by
  unfold ox at jb;grind
 have aE:=List.pairwise_iff_getElem.1 h;grind
def sb(a b:z1'):z1':=(ef 0 99).filter λid=>a.contains id||b.contains id
theorem Qt(a b:Int):(ef a b).Pairwise (·<·):=by
 unfold ef;rw[List.pairwise_map];exact (List.pairwise_lt_range).imp λh=>by omega
theorem are{a b:z1'}(a_:a.Pairwise (·<·))(W:b.Pairwise (·<·))(h:∀ x,x∈a<->x∈b):a=b:=by
 have arf:a.Nodup:=a_.imp λh=>by omega
 have mF:b.Nodup:=W.imp λh=>by omega
 have ao:=(List.perm_ext_iff_of_nodup arf mF).2 h;rw[<-A6 (a_.imp λh=>by omega) (List.Perm.refl a)];exact A6 (W.imp λh=>by omega) ao
theorem arh{a b:z1'}(a_:∀ x∈a,b1 x 0 99=true)(W:∀ x∈b,b1 x 0 99=true):fv (fu ht (a++b)) (fu ht (a++b)).length=sb a b:=by
 refine are (arc (OZ _)) (List.Pairwise.filter _ (Qt 0 99)) λx=>?_;rw[arb,Xn];unfold sb;simp only[List.mem_append,List.mem_filter,pW,Bool.or_eq_true,List.contains_iff_mem];refine⟨λh=>⟨?_,h⟩,λh=>h.2⟩;rcases h with h | h
 ·exact oi.1 (a_ x h)
 ·exact oi.1 (W x h)
abbrev Jz:a6:=([],[],[],[],0,0,0,0,0,0,0)
def nF(c:a6)(more:List a8)(hg:z1'):a6:=(c.1,more,hg,c.2.2.2)
def oy(c:a6)(more:List a8)(hg:z1'):a6×Int:=
 if cO c≠0 then (Jz,cO c) else if cO (nF c more hg)≠0 then (Jz,cO (nF c more hg)) else
 if k7 (c.2.1++more)=true then (Jz,91) else
 if (decide (Int.ofNat (g_ (c.2.1++more)).length > 12)||decide (Int.ofNat (sb c.2.2.1 hg).length > 12))=true then (Jz,90) else (nF c (g_ (c.2.1++more)) (sb c.2.2.1 hg),0)
abbrev BS:aN:=⟨.aA kq (.aA (.slice hr) fP),.aA kq br,λx=>j7 x.1/\x.2.1.length<2 ^ 63/\x.2.2.length<2 ^ 63,λx=>oy x.1 x.2.1 x.2.2⟩
abbrev Fs:aN:=⟨.slice l9,.slice l9,λx=>x.length<65536,λx=>x⟩
theorem ari(x):A.le (WS x) (Fs.sh x):=A.s4 λh=>by
 unfold WS;rw[A.fZ];refine⟨⟨false,by simp⟩,λb W=>?_⟩;change b=true->x=[]at W;cases b with
 | true=>rw[W rfl];exact A.d'.2 rfl
 | false=>
  simp only[Bool.false_eq_true,if_false];exact A.kS.2 ⟨ft (by grind),A.d'.2 (by simp)⟩
structure aan(c:a6):Prop where
 dO:c.1.length<=3
 ej:c.2.1.length<=12
 jM:c.2.2.1.length<=12
 n4:c.2.2.2.1.length<=4
 ids:∀ s∈c.2.1,b1 s.1 0 99=true
 hg:∀ n∈c.2.2.1,b1 n 0 99=true
 cl:k7 c.2.1=false
theorem JA{c:a6}(h:cO c=0):aan c:=by
 unfold cO at h;by_cases hc:jZ c=true
 ·rw[if_pos hc]at h;have lR:k7 c.2.1=false:=by
   grind
  have G:=IA hc;unfold jZ te at hc;simp only[Bool.and_eq_true,List.all_eq_true,Bool.not_eq_true',Bool.or_eq_false_iff,decide_eq_false_iff_not]at hc;obtain⟨⟨⟨⟨⟨bk,_⟩,_⟩,U⟩,ag⟩,_⟩:=hc;exact⟨by omega,by omega,by omega,by omega,G.2,ag,lR⟩
 grind
theorem arj{a b:List a8}(a_:a.length<=12)(W:b.length<=12)(E:∀ s∈a,b1 s.1 0 99=true)(U:∀ s∈b,b1 s.1 0 99=true):wk (a++b):=
 ⟨by grind,λs aE=>(List.mem_append.1 aE).elim (E s) (U s)⟩
theorem ark(x):A.le (aai h3.sh Bd.sh Jv.sh Jw yv Jy Fs.sh x) (BS.sh x):=A.bw λh=>by
 obtain⟨c,more,hg⟩:=x;obtain⟨E,U,ag⟩:=h;change j7 c at E;change more.length<2 ^ 63 at U;change hg.length<2 ^ 63 at ag;have uo:j7 (nF c more hg):=⟨E.1,U,ag,E.2.2.2⟩
 unfold aai;show _=A.pure (oy c more hg);unfold oy;rw[show h3.sh (c,more,hg).1=A.pure (cO c) from A.bP E _,A.aG];by_cases ay:cO c=0
 ·have g1:=JA ay;rw[show h3.sh ((c,more,hg).1.1,(c,more,hg).2.1,(c,more,hg).2.2,(c,more,hg).1.2.2.2)=A.pure (cO (nF c more hg)) from A.bP uo _,A.aG];by_cases aP:cO (nF c more hg)=0
  ·have ei:=JA aP;have ej:more.length<=12:=ei.ej;have jM:hg.length<=12:=ei.jM;have qA:=g1.ej;have mz:=g1.jM;have G:wk (c.2.1++more):=arj g1.ej ei.ej g1.ids ei.ids;rw[if_neg (by grind),if_neg (by grind),if_neg (by omega),if_neg (by omega)];rw[show Jv.sh [(c,more,hg).1.2.1,(c,more,hg).2.1]=A.pure (c.2.1++more) from (A.bP ⟨by simp,by grind⟩ _).trans (congrArg A.pure (by simp)),A.aG];rw[show Bd.sh (c.2.1++more)=A.pure (if k7 (c.2.1++more)=true then ([],false) else (g_ (c.2.1++more),true)) from A.bP G _,A.aG];cases hc:k7 (c.2.1++more) with
   | true=>simp
   | false=>
    simp only[Bool.false_eq_true,if_false,Bool.not_true];rw[show Jw ([c.2.2.1,hg],())=A.pure (c.2.2.1++hg,()) from (A.bP ⟨by simp,by grind⟩ _).trans (congrArg A.pure (by simp)),A.aG];rw[show yv ((c.2.2.1++hg,()):z1'×Unit)=A.pure (fu ht (c.2.2.1++hg),()) from A.bP (by grind) _,A.aG];rw[show Jy ((fu ht (c.2.2.1++hg),()):z1'×Unit)=A.pure (wV (fu ht (c.2.2.1++hg))) from A.bP (by show (fu ht (c.2.2.1++hg)).length<_;rw[It];grind) _,A.aG];have ik:=arh g1.hg ei.hg;unfold wV;rw[show (fv (fu ht (c.2.2.1++hg)) (fu ht (c.2.2.1++hg)).length)=sb c.2.2.1 hg from ik];simp only[Nat.sub_zero,List.drop_zero,List.take_left];rw[show Fs.sh c.1=A.pure c.1 from A.bP (by have:=g1.dO;omega) _,show Fs.sh c.2.2.2.1=A.pure c.2.2.2.1 from A.bP (by have:=g1.n4;omega) _];simp only[A.hR,A.e5,A.bo];split<;>rfl
  grind
 grind
end Go.Fer.H
namespace Go.Fer.ax
open A (V)
abbrev tB:ab:=.slice .str
abbrev BT:ab:=.st (.aA mf H.kq)
def cF:aL->List aL
 | []=>[[]]
 | c::s=>if c=32 then []::cF s else match cF s with
  | []=>[[c]]
  | w::l=>(c::w)::l
theorem vd:∀ (s:aL),1<=(cF s).length/\(cF s).length<=s.length+1
 | []=>by simp[cF]
 | c::s=>by
  have:=vd s;unfold cF;grind
theorem aao:∀ (s:aL) {w:aL},w∈cF s->w.length<=s.length
 | [],w,h=>by simp[cF]at h;simp[h]
 | c::s,w,h=>by
  have aI:=@aao s;unfold cF at h;grind
def gf:aL->Int->Int
 | [],n=>n
 | c::s,n=>if (decide ((c.toNat:Int)<48)||decide ((c.toNat:Int) > 57))=true then -1 else gf s (10*n+((c.toNat:Int) - 48))
def eZ(s:aL):Int:=if (decide (s.length=0)||decide (s.length > 6)||decide (s.length > 1)&&decide ((s.getD 0 0).toNat=48))=true then -1 else gf s 0
theorem Qu:∀ (s:aL) (n:Int) (k:Nat),0<=n->n<10 ^ k->gf s n<10 ^ (k+s.length)/\-1<=gf s n
 | [],n,k,aU,E=>by simp[gf];omega
 | c::s,n,k,aU,E=>by
  unfold gf;have ao:(0:Int)<10 ^ (k+(c::s).length):=Int.pow_pos (by decide);split
  ·omega
  ·rename_i hc;simp only[Bool.or_eq_true,decide_eq_true_eq,not_or]at hc;have:=Qu s (10*n+((c.toNat:Int) - 48)) (k+1) (by omega) (by omega);grind
theorem arl(s:aL):-1<=eZ s/\eZ s<=999999:=by
 unfold eZ;split
 ·omega
 ·rename_i h;simp only[Bool.or_eq_true,decide_eq_true_eq,not_or]at h;have:=Qu s 0 0 (by decide) (by decide);have U:(10:Int) ^ (0+s.length)<=10 ^ 6:=by
   have:=Nat.pow_le_pow_right (n:=10) (by decide) (show 0+s.length<=6 by omega);grind
  omega
def tC(s:aL):Int:=match Go.Lib.atoiAll s with
 | .ok v=>v
 | .range=>Go.Lib.atoiSat s
 | _=>0
def rK(s:aL):Int×Bool:=(tC s,decide (0<=eZ s))
def Ft(l:List aL):Option (z1'):=if l.all (λw=>decide (0<=eZ w))=true then some (l.map eZ) else none
def qg(n:Int):aL:=Go.Lib.itoa (IntKind.wrap .i64 n)
theorem Qv(n:Int):(qg n).length<=21:=by
 have:=qx .i64 n;exact Go.Lib.itoa_length_le _ this.1 this.2
abbrev JB:aL:=[111,107]
abbrev y9:aL:=[110,111]
abbrev JC:aL:=[110,111,110,101]
abbrev Fu:aL:=[115,104,111,112]
abbrev arn:aL:=[108,105,97,114]
abbrev aro:aL:=[63]
def ml(l:z1'):aL:=if l=[] then JC else Go.Lib.join (l.map qg) [32]
def gz(e:Int)(l:z1'):aL:=if e=0 then ml l else if e=3 then JC else y9
def oz(x:(Int×Int)×Int):aL:=gz x.2 [x.1.1,x.1.2]
abbrev bp(l:z1')(i:Nat):Int:=l.getD i 0
def tD(d:bb)(m:List H.a8)(v:z1'):aL×bb:=if (H.oy d.2 m v).2≠0 then (y9,d) else (JB,(d.1,(H.oy d.2 m v).1))
def oA(d:bb)(s:bJ):aL×bb:=if jj s≠0 then (y9,d) else (JB,(s,d.2))
def Qw(d:bb)(l:z1'):aL×bb:=tD d [(bp l 0,bp l 1,bp l 2,1,bp l 3,bp l 4)] []
def Qx(d:bb)(l:z1'):aL×bb:=tD d [(bp l 0,bp l 1,bp l 2,2,bp l 3,0)] []
def Qy(d:bb)(l:z1'):aL×bb:=tD d [] l
def JD(d:bb)(l:z1'):aL×bb:=(oz (H.q0 d.2 (bp l 0)),d)
def JE(d:bb)(l:z1'):aL×bb:=(oz (H.q1 d.2 (bp l 0)),d)
def JF(d:bb)(l:z1'):aL×bb:=(oz (H.q2 d.2 (bp l 0)),d)
def JG(d:bb)(l:z1'):aL×bb:=(oz (H.q3 d.2 (bp l 0)),d)
def BU(r:z1'×Int):aL:=if (decide (r.2≠0)||decide (r.1.getD 0 0>=0))=true then gz r.2 r.1 else if r.1.length=1 then Fu else Fu++[32]++ml (r.1.drop 1)
def JH(d:bb)(l:z1'):aL×bb:=(BU (H.nq d.2 (bp l 0) (bp l 1)),d)
def BV(r:z1'×z1'×Int):aL:=if r.2.2≠0 then gz r.2.2 [] else ml r.1++[32,47,32]++ml r.2.1
def JI(d:bb)(l:z1'):aL×bb:=(BV (H.nr d.2 (bp l 0)),d)
def nG(w:bA)(t:Int×Int×Int×Int):bA:=(w.1,w.2.1,w.2.2.1,w.2.2.2++[t])
def y_(d:bb)(l:z1'):aL×bb:=
 if cO (nG d.1.1 (bp l 0,bp l 1,bp l 2,bp l 3))≠0 then (y9,d) else if (wI (nG d.1.1 (bp l 0,bp l 1,bp l 2,bp l 3)) (bp l 0)).2≠0 then (arn,d)
 else (JB,((nG d.1.1 (bp l 0,bp l 1,bp l 2,bp l 3),d.1.2),d.2))
def pg(r:Int×Int):aL:=if r.2≠0 then gz r.2 [] else List.getD [[],[115,117,114,101,108,121],[110,101,118,101,114],[112,101,114,104,97,112,115]] r.1.toNat []
def JJ(d:bb)(l:z1'):aL×bb:=(pg (me d.1.1 (bp l 0) (bp l 1) (bp l 2)),d)
def y'(d:bb)(l:z1'):aL×bb:=if bp l 0>=(d.1.2.1.length:Int) then (y9,d) else oA d (d.1.1,d.1.2.1.set (bp l 0).toNat (d.1.2.1.getD (bp l 0).toNat 0+bp l 1),d.1.2.2)
def Qz(d:bb)(l:z1'):aL×bb:=oA d (d.1.1,d.1.2.1,d.1.2.2.1,d.1.2.2.2.1,d.1.2.2.2.2.1++[(bp l 0,bp l 1,bp l 2)],d.1.2.2.2.2.2)
def QA(d:bb)(l:z1'):aL×bb:=oA d (d.1.1,d.1.2.1,d.1.2.2.1++[(bp l 0,bp l 1,bp l 2,bp l 3,l.drop 4)],d.1.2.2.2)
def QB(d:bb)(l:z1'):aL×bb:=oA d (d.1.1,d.1.2.1,d.1.2.2.1,d.1.2.2.2.1++[(l.drop 5,(bp l 0,bp l 1),bp l 2,bp l 3,bp l 4)],d.1.2.2.2.2)
def za(d:bb)(l:z1'):aL×bb:=if bp l 0>=(d.1.2.2.2.1.length:Int) then (y9,d) else (JB,((d.1.1,d.1.2.1,d.1.2.2.1,d.1.2.2.2.1.eraseIdx (bp l 0).toNat,d.1.2.2.2.2),d.2))
def JK(d:bb)(l:z1'):aL×bb:=(gz (ow d.1 (bp l 0)).2 (ow d.1 (bp l 0)).1,d)
def QC(d:bb)(l:z1'):aL×bb:=(gz (BQ d.1 (l.map (· - 1))).2 [(BQ d.1 (l.map (· - 1))).1],d)
def JL(d:bb)(_:z1'):aL×bb:=(gz (pk d.1 true).2 [(pk d.1 true).1],d)
def JM(d:bb)(_:z1'):aL×bb:=(gz (qf d.1).2 [(qf d.1).1],d)
def zb:Nat->bb->z1'->aL×bb
 | 0=>Qw | 1=>Qx | 2=>Qy | 3=>JD | 4=>JE | 5=>JF | 6=>JG | 7=>JH | 8=>JI | 9=>y_
 | 10=>JJ | 11=>y' | 12=>Qz | 13=>QA | 14=>QB | 15=>za | 16=>JK | 17=>QC | 18=>JL | _=>JM
def kQ:List (aL×Int×Bool):=[([108,101,110,100],5,false),([98,97,99,107],4,false),([118,111,105,100],1,false),([108,97,115,116,115],1,false),([102,101,101],1,false),([111,119,101,115],1,false),([104,101,108,100],1,false),([119,104,101,114,101],2,false),([109,105,115,115,105,110,103],1,false),([116,114,105,97,108],4,false),([102,105,116,115],3,false),([115,116,111,99,107],2,false),([99,111,109,101,115],3,false),([112,105,101,99,101],4,true),([119,105,115,104],5,true),([100,114,111,112],1,false),([99,97,110],1,false),([116,97,107,101,115],0,true),([109,111,115,116],0,false),([101,120,116,114,97],0,false)]
def oB(w:aL):List (aL×Int×Bool)->Nat->Option (Int×Bool×Nat)
 | [],_=>none
 | p::l,i=>if w=p.1 then some (p.2.1,p.2.2,i) else oB w l (i+1)
def Fv(s:aL):Option (Nat×z1'):=
 match oB ((cF s).getD 0 []) kQ 0 with
 | none=>none
 | some (k,m,j)=>if (decide (((cF s).length:Int) - 1<k)||decide (((cF s).length:Int) - 1 > k)&&!m)=true then none else (Ft ((cF s).drop 1)).map λl=>(j,l)
def iB(d:bb)(s:aL):aL×bb:=match Fv s with
 | none=>(aro,d)
 | some (j,l)=>zb j d l
def h6:bb->List aL->List aL×bb
 | d,[]=>([],d)
 | d,s::l=>((iB d s).1::(h6 (iB d s).2 l).1,(h6 (iB d s).2 l).2)
theorem arp(d:bb)(a b:List aL):h6 d (a++b)=((h6 d a).1++(h6 (h6 d a).2 b).1,(h6 (h6 d a).2 b).2):=by
 induction a generalizing d with
 | nil=>rfl
 | cons s a aI=>simp only[List.cons_append,h6,aI]
theorem arq(d:bb)(a:List aL):(h6 d a).1.length=a.length:=by
 induction a generalizing d with
 | nil=>rfl
 | cons s a aI=>simp only[h6,List.length_cons,aI]
def jk(d:bb):Int:=if (decide (jj d.1≠0)||decide (H.cO d.2≠0))=true then 120 else 0
def ji(d:bb):bb:=(d.1,(H.oy d.2 [] []).1)
abbrev aap:bb:=((([],[],0,[]),[],[],[],[],0),[],[],[],[],0,0,0,0,0,0,0)
def wW(d:bb)(l:List aL):List aL×bb×Int:=
 if jk d≠0 then ([],aap,jk d) else if l.length > 40 then ([],aap,2) else ((h6 (ji d) l).1,(h6 (ji d) l).2,0)
structure da(d:bb):Prop where
 gq:fF d.1
 zc:jj d.1=0
 q_:H.cO d.2=0
 BW:H.ks d.2.1<=60
theorem da.val{d:bb}(h:da d):mg d.1:=BI h.gq h.zc
theorem da.aaq{d:bb}(h:da d):jk d=0:=by simp[jk,h.zc,h.q_]
theorem da.ars{d:bb}(h:da d):H.aan d.2:=H.JA h.q_
theorem da.fE{d:bb}(h:da d):H.fE d.2:=by
 have:=h.ars;exact⟨⟨by have:=this.dO;omega,by have:=this.ej;omega,by have:=this.jM;omega,by have:=this.n4;omega⟩,λ_=>h.BW⟩
theorem da.j7{d:bb}(h:da d):H.j7 d.2:=h.fE.gq
structure eE(k:Nat)(l:z1'):Prop where
 QD:k<=l.length
 JN:l.length<=10000
 num:∀ n∈l,0<=n/\n<=999999
theorem eE.bp{k:Nat}{l:z1'}(h:eE k l)(i:Nat):0<=bp l i/\bp l i<=999999:=by
 rcases Nat.lt_or_ge i l.length with G | G
 ·have:=h.num l[i] (by simp);grind
 ·grind
end Go.Fer.ax
namespace Go.Fer.ax
open A (V)
open H (ft)
abbrev JO:aN:=⟨.int .i64,.str,λ_=>True,qg⟩
abbrev Fw:aN:=⟨.aA tB .str,.str,λx=>x.1.length<=60000/\(∀ w∈x.1,w.length<=21)/\x.2.length=1,λx=>Go.Lib.join x.1 x.2⟩
theorem aar:∀ (l:List aL) (s:aL) (n:Nat),(∀ w∈l,w.length<=n)->(Go.Lib.join l s).length<=l.length*(n+s.length)
 | [],s,n,h=>by simp[Go.Lib.join_nil]
 | x::r,s,n,h=>by
  rw[Go.Lib.join_cons];have aM:∀ (r:List aL),(∀ w∈r,w.length<=n)->(Go.Lib.joinTail s r).length<=r.length*(n+s.length):=by
   intro r;induction r with
   | nil=>intro _;simp[Go.Lib.joinTail]
   | cons y r aI=>
    intro h;have E:=aI λw hw=>h w (by grind);have U:=h y (by simp);simp only[Go.Lib.joinTail,List.map_cons,List.flatten_cons,List.length_append,List.length_cons,Nat.succ_mul]at E ⊢;omega
  have E:=aM r λw hw=>h w (by grind);have U:=h x (by simp);simp only[List.length_append,List.length_cons,Nat.succ_mul];omega
theorem Fx(l:z1'):(ml l).length<=l.length*22+4:=by
 unfold ml;split
 ·simp
 ·have:=aar (l.map qg) [32] 21 λw hw=>by
   obtain⟨n,_,rfl⟩:=List.mem_map.1 hw;exact Qv n
  grind
abbrev zd:aN:=⟨fP,.str,λx=>x.length<=60000,ml⟩
theorem art(x):A.le (YG JO.sh Fw.sh x) (zd.sh x):=A.bw λh=>by
 change x.length<=60000 at h;unfold YG;show _=A.pure (ml x);unfold ml;by_cases ah:x=[]
 ·grind
 ·have ai:x.length≠0:=by grind
  rw[if_neg (by grind),if_neg ah];rw[A.gw x (λi (o:List aL)=>(x,(x.length:Int),(i:Int),o,())) (λn o=>.next (o++[qg n])) (λo=>.next (o,())) (λi o=>o.length=i) [] ?_ rfl ?_ ?_]
  ·rw[fs,yj,List.nil_append,A.aG,A.b3];rw[show Fw.sh (x.map qg,[32])=A.pure (Go.Lib.join (x.map qg) [32]) from A.bP ⟨by grind,λw hw=>by
    obtain⟨n,_,rfl⟩:=List.mem_map.1 hw;exact Qv n,rfl⟩ _,A.aG]
  ·rfl
  ·intro i G o af;have hw:=bG (n:=(i:Int)+1) (by omega) (by omega);refine⟨?_,λbe de=>?_⟩
   ·simp only[bX,cY G,if_true,dm G,cI G,A.bo,cp,hw];rw[show JO.sh x[i]=A.pure (qg x[i]) from rfl,A.aG,A.bu (ft (by grind))];rfl
   ·grind
  simp
abbrev ra:aN:=⟨.aA (.int .i64) fP,.str,λx=>x.2.length<=60000,λx=>gz x.1 x.2⟩
theorem aru(x):A.le (YF zd.sh x) (ra.sh x):=A.bw λh=>by
 change x.2.length<=60000 at h;unfold YF;show _=A.pure (gz x.1 x.2);unfold gz;rw[show zd.sh x.2=A.pure (ml x.2) from A.bP h _,A.aG];grind
abbrev ze:aN:=⟨.aA l9 (.int .i64),.str,λ_=>True,oz⟩
theorem arv(x):A.le (YE ra.sh x) (ze.sh x):=A.bw λ_=>by
 unfold YE;rw[show ra.sh (x.2,[x.1.1,x.1.2])=A.pure (oz x) from A.bP (show 2<=60000 by decide) _,A.aG]
theorem zf{e:Int}{l:z1'}(h:l.length<=60000):ra.sh (e,l)=A.pure (gz e l):=A.bP h _
theorem QE{l:z1'}(h:l.length<=60000):zd.sh l=A.pure (ml l):=A.bP h _
theorem JP(x:(Int×Int)×Int):ze.sh x=A.pure (oz x):=rfl
def fw(k:Nat)(g:bb->z1'->aL×bb)(x:z1'×bb×Unit):A (aL×bb×Unit):=A.dQ (da x.2.1/\eE k x.1) ((g x.2.1 x.1).1,(g x.2.1 x.1).2,())
theorem nH:Int.toNat 0=0:=rfl
theorem nI:Int.toNat 1=1:=rfl
theorem nJ:Int.toNat 2=2:=rfl
theorem nK:Int.toNat 3=3:=rfl
theorem nL:Int.toNat 4=4:=rfl
theorem nM:Int.toNat 5=5:=rfl
theorem nN{ak:Type}{k:Nat}{l:z1'}(h:eE k l)(m:A ak)(i:Int)(G:0<=i/\i<(k:Int)):A.ad (0<=i/\i<Int.ofNat l.length) m=m:=
 A.bu ⟨G.1,by have:=h.QD;grind⟩ m
def BX(x:List H.a8×z1'×bb×Unit):A (aL×bb×Unit):=A.dQ (da x.2.2.1/\x.1.length<2 ^ 63/\x.2.1.length<2 ^ 63) ((tD x.2.2.1 x.1 x.2.1).1,(tD x.2.2.1 x.1 x.2.1).2,())
theorem arw(x):A.le (YA H.BS.sh x) (BX x):=A.bw λh=>by
 obtain⟨m,v,d,⟨⟩⟩:=x;obtain⟨ar,E,U⟩:=h;unfold YA;rw[A.bo,show H.BS.sh (d.2,m,v)=A.pure (H.oy d.2 m v) from A.bP ⟨ar.j7,E,U⟩ _,A.aG];unfold tD;by_cases e:(H.oy d.2 m v).2=0<;>simp[e]
theorem QF{d:bb}(ar:da d)(m:List H.a8)(v:z1')(E:m.length<2 ^ 63)(U:v.length<2 ^ 63):BX (m,v,d,())=A.pure ((tD d m v).1,(tD d m v).2,()):=A.bP ⟨ar,E,U⟩ _
theorem arx(x):A.le (Yz BX x) (fw 5 Qw x):=A.bw λh=>by
 obtain⟨l,d,⟨⟩⟩:=x;obtain⟨ar,ai⟩:da d/\eE _ l:=h;unfold Yz;simp (disch:=decide) only [nN ai,A.bo,nH,nI,nJ,nK,nL,nM];rw[QF ar _ _ (by simp) (by simp),A.aG];rfl
theorem ary(x):A.le (YB BX x) (fw 4 Qx x):=A.bw λh=>by
 obtain⟨l,d,⟨⟩⟩:=x;obtain⟨ar,ai⟩:da d/\eE _ l:=h;unfold YB;simp (disch:=decide) only [nN ai,A.bo,nH,nI,nJ,nK,nL,nM];rw[QF ar _ _ (by simp) (by simp),A.aG];rfl
theorem Pe(x):A.le (YC BX x) (fw 1 Qy x):=A.bw λh=>by
 obtain⟨l,d,⟨⟩⟩:=x;obtain⟨ar,ai⟩:da d/\eE _ l:=h;unfold YC;rw[QF ar _ _ (by simp) (show l.length<2 ^ 63 by have:=ai.JN;omega),A.aG];rfl
theorem arz(x):A.le (YD H.yC.sh ze.sh x) (fw 1 JD x):=A.bw λh=>by
 obtain⟨l,d,⟨⟩⟩:=x;obtain⟨ar,ai⟩:da d/\eE _ l:=h;unfold YD;simp (disch:=decide) only [nN ai,A.bo,nH,nI,nJ,nK,nL,nM];rw[show H.yC.sh (d.2,bp l 0)=A.pure _ from A.bP ar.fE _];simp only[A.hR,A.e5,A.bo,JP];rfl
theorem arA(x):A.le (YH H.yD.sh ze.sh x) (fw 1 JE x):=A.bw λh=>by
 obtain⟨l,d,⟨⟩⟩:=x;obtain⟨ar,ai⟩:da d/\eE _ l:=h;unfold YH;simp (disch:=decide) only [nN ai,A.bo,nH,nI,nJ,nK,nL,nM];rw[show H.yD.sh (d.2,bp l 0)=A.pure _ from A.bP ar.fE _];simp only[A.hR,A.e5,A.bo,JP];rfl
theorem arB(x):A.le (YI H.yE.sh ze.sh x) (fw 1 JF x):=A.bw λh=>by
 obtain⟨l,d,⟨⟩⟩:=x;obtain⟨ar,ai⟩:da d/\eE _ l:=h;unfold YI;simp (disch:=decide) only [nN ai,A.bo,nH,nI,nJ,nK,nL,nM];rw[show H.yE.sh (d.2,bp l 0)=A.pure _ from A.bP ar.fE _];simp only[A.hR,A.e5,A.bo,JP];rfl
theorem arC(x):A.le (YJ H.yF.sh ze.sh x) (fw 1 JG x):=A.bw λh=>by
 obtain⟨l,d,⟨⟩⟩:=x;obtain⟨ar,ai⟩:da d/\eE _ l:=h;unfold YJ;simp (disch:=decide) only [nN ai,A.bo,nH,nI,nJ,nK,nL,nM];rw[show H.yF.sh (d.2,bp l 0)=A.pure _ from A.bP ar.fE _];simp only[A.hR,A.e5,A.bo,JP];rfl
theorem QG{a b:Int}:(ef a b).length=(b+1 - a).toNat:=by simp[ef];omega
theorem aas(c:H.a6)(u t:Int):(H.nq c u t).1.length<=101:=Nat.le_trans (List.length_filter_le ..) (by rw[QG];decide)
theorem aat{c:H.a6}{u t:Int}(h:(H.nq c u t).2=0):0<(H.nq c u t).1.length:=by
 unfold H.nq at h ⊢;rcases H.yK c (H.wq u t) with⟨E,_⟩ | ⟨E,U,ag,a7⟩
 ·omega
 ·have aC:=H.l' U;have cL:(0<=u/\u<=9)/\0<=t/\t<=9999:=by
   unfold H.wq at ag;rw[Bool.and_eq_true,H.oi,H.oi]at ag;exact ag
  have eC:H.cP c≠[]:=by
   intro he;unfold H.eF at E;grind
  obtain⟨w,T,aV⟩:=List.exists_cons_of_ne_nil eC;have hw:H.iz c w=true:=H.uX (by grind);have al:=H.Yq aC hw cL.1 t;have W:-1<=H.lD c w u t/\H.lD c w u t<=99:=by
   rcases H.Px c w u t with h | ⟨s,aE,h⟩
   ·omega
   ·rw[h];obtain⟨e,he,rfl⟩:=List.mem_map.1 aE;have:=H.Pu aC (List.mem_filter.1 he).1;omega
  refine List.length_pos_of_mem (a:=H.lD c w u t) (List.mem_filter.2 ⟨pW.2 W,?_⟩);rw[List.contains_iff_mem];unfold H.O_;grind
theorem arD(x):A.le (YK H.yG.sh ra.sh zd.sh x) (fw 2 JH x):=A.bw λh=>by
 obtain⟨l,d,⟨⟩⟩:=x;obtain⟨ar,ai⟩:da d/\eE _ l:=h;unfold YK;simp (disch:=decide) only [nN ai,A.bo,nH,nI,nJ,nK,nL,nM];have E:=aas d.2 (bp l 0) (bp l 1);have U:=aat (c:=d.2) (u:=bp l 0) (t:=bp l 1);have hc:H.yG.sh (d.2,bp l 0,bp l 1)=A.pure (H.nq d.2 (bp l 0) (bp l 1)):=A.bP ar.fE _;simp only[hc];show _=A.pure (BU (H.nq d.2 (bp l 0) (bp l 1)),d,());generalize H.nq d.2 (bp l 0) (bp l 1)=r at *
 simp only[A.hR,A.e5,A.bo];rw[A.bu (λW=>⟨⟨W,trivial⟩,⟨by decide,by grind⟩,trivial⟩),zf (by omega),A.aG];unfold BU;by_cases e:(decide (r.2≠0)||decide (r.1.getD 0 0>=0))=true
 ·grind
 ·rw[if_neg e,if_neg e];have bF:r.2=0:=by grind
  have ao:=U bF;by_cases ay:r.1.length=1
  ·grind
  ·rw[if_neg (by grind),if_neg ay];rw[A.bu ⟨by decide,by grind,Int.le_refl _⟩];have p4:List.take (Int.ofNat r.1.length).toNat r.1=r.1:=by simp
   rw[p4];rw[QE (by grind),A.aG];have lV:=Fx (r.1.drop 1);rw[A.bu (ft (by grind))];rfl
theorem aau(c:H.a6)(t:Int):(H.nr c t).1.length<=10/\(H.nr c t).2.1.length<=10:=by
 unfold H.nr;split
 ·simp
 ·exact⟨Nat.le_trans (List.length_filter_le ..) (by rw[QG];decide),Nat.le_trans (List.length_filter_le ..) (by rw[QG];decide)⟩
theorem arE(x):A.le (YL H.yH.sh ra.sh zd.sh x) (fw 1 JI x):=A.bw λh=>by
 obtain⟨l,d,⟨⟩⟩:=x;obtain⟨ar,ai⟩:da d/\eE _ l:=h;unfold YL;simp (disch:=decide) only [nN ai,A.bo,nH,nI,nJ,nK,nL,nM];have E:=aau d.2 (bp l 0);have hc:H.yH.sh (d.2,bp l 0)=A.pure (H.nr d.2 (bp l 0)):=A.bP ar.fE _;simp only[hc];show _=A.pure (BV (H.nr d.2 (bp l 0)),d,());generalize H.nr d.2 (bp l 0)=r at *
 simp only[A.hR,A.e5,A.bo];rw[zf (by simp),QE (by omega),QE (by omega)];have ez:=Fx r.1;have pr:=Fx r.2.1;unfold BV;by_cases e:r.2.2=0
 ·simp only[A.aG];rw[A.bu (ft (by grind)),A.bu (ft (by grind))];simp[e]
 ·simp[e]
theorem aav(w:bA)(i m k:Int):0<=u4 w i m k/\u4 w i m k<4:=by
 unfold u4 IP;grind
theorem arF(x):A.le (YN u5.sh ra.sh x) (fw 3 JJ x):=A.bw λh=>by
 obtain⟨l,d,⟨⟩⟩:=x;obtain⟨ar,ai⟩:da d/\eE _ l:=h;unfold YN;simp (disch:=decide) only [nN ai,A.bo,nH,nI,nJ,nK,nL,nM];have hc:u5.sh (d.1.1,bp l 0,bp l 1,bp l 2)=A.pure (me d.1.1 (bp l 0) (bp l 1) (bp l 2)):=A.bP ar.gq.1 _;simp only[hc];show _=A.pure (pg (me d.1.1 (bp l 0) (bp l 1) (bp l 2)),d,());have E:0<=(me d.1.1 (bp l 0) (bp l 1) (bp l 2)).1/\(me d.1.1 (bp l 0) (bp l 1) (bp l 2)).1<4:=by
  have:=aav d.1.1 (bp l 0) (bp l 1) (bp l 2);unfold me;grind
 generalize me d.1.1 (bp l 0) (bp l 1) (bp l 2)=r at *
 simp only[A.hR,A.e5,A.bo];rw[zf (by simp),A.bu ⟨E.1,E.2⟩];unfold pg;by_cases e:r.2=0<;>simp[e]
theorem aaw{s:bJ}(h:mg s)(w:Int):(ow s w).1.length<=2000:=by
 have:=h.Fh;unfold ow Qr;grind
theorem arG(x):A.le (YV y7.sh ra.sh x) (fw 1 JK x):=A.bw λh=>by
 obtain⟨l,d,⟨⟩⟩:=x;obtain⟨ar,ai⟩:da d/\eE _ l:=h;unfold YV;simp (disch:=decide) only [nN ai,A.bo,nH,nI,nJ,nK,nL,nM];rw[show y7.sh (d.1,bp l 0)=A.pure (ow d.1 (bp l 0)) from A.bP ar.gq _];have:=aaw ar.val (bp l 0);simp only[A.hR,A.e5,A.bo];rw[zf (show (ow d.1 (bp l 0)).1.length<=60000 by omega),A.aG];rfl
def JQ(x:z1'×Unit):A (z1'×Unit):=A.dQ (x.1.length<=3000000) x
theorem arH(x):A.le (YW Jo.sh JQ ra.sh x) (fw 0 QC x):=A.bw λh=>by
 obtain⟨l,d,⟨⟩⟩:=x;obtain⟨ar,ai⟩:da d/\eE _ l:=h;have hm:=ai.JN;change l.length<=10000 at hm;unfold YW;rw[show JQ (l,())=A.pure (l,()) from A.bP (by grind) _,A.aG];rw[A.gw l (λi (o:z1')=>((l.length:Int),(i:Int),o++l.drop i,d,())) (λn o=>.next (o++[n - 1])) (λo=>.next (o,d,())) (λi o=>o.length=i) [] ?_ rfl ?_ ?_]
 ·rw[fs,yj,List.nil_append,A.aG,A.b3,A.bo];rw[show Jo.sh (d.1,l.map (· - 1))=A.pure (BQ d.1 (l.map (· - 1))) from A.bP ⟨ar.gq,by grind⟩ _,A.aG,zf (by simp),A.aG];rfl
 ·simp
 ·intro i G o af;have hw:=bG (n:=(i:Int)+1) (by omega) (by omega);have aw:=ai.num l[i] (by simp);have gY:=bG (n:=l[i] - 1) (by omega) (by omega);subst af;have ck:o.length<(o++l.drop o.length).length:=by grind
  have aC:(o++l.drop o.length)[o.length]=l[o.length]:=by simp
  have aE:(o++l.drop o.length).set o.length (l[o.length] - 1)=o++[l[o.length] - 1]++l.drop (o.length+1):=by
   rw[List.set_append_right _ _ (Nat.le_refl _),Nat.sub_self,List.drop_eq_getElem_cons G,List.set_cons_zero,List.append_assoc];rfl
  refine⟨?_,λbe de=>?_⟩
  ·simp only[bX,cY G,if_true,cI ck,A.bo,cp,hw];rw[show (o++l.drop o.length).getD (Int.toNat (o.length:Int)) 0=l[o.length] by grind,gY,Int.toNat_natCast,aE];rfl
  ·grind
 simp
theorem arI(x):A.le (YX y5.sh ra.sh x) (fw 0 JL x):=A.bw λh=>by
 obtain⟨l,d,⟨⟩⟩:=x;obtain⟨ar,ai⟩:da d/\eE _ l:=h;unfold YX;rw[A.bo,show y5.sh d.1=A.pure (pk d.1 true) from A.bP ar.gq _,A.aG,zf (by simp),A.aG];rfl
theorem arJ(x):A.le (YY y6.sh ra.sh x) (fw 0 JM x):=A.bw λh=>by
 obtain⟨l,d,⟨⟩⟩:=x;obtain⟨ar,ai⟩:da d/\eE _ l:=h;unfold YY;rw[A.bo,show y6.sh d.1=A.pure (qf d.1) from A.bP ar.gq _,A.aG,zf (by simp),A.aG];rfl
def QH{ak:Type}(x:List ak×Unit):A (List ak×Unit):=A.bind (A.any λ(b:Bool)=>b=true->x.1=[]) λ(y:Bool)=>if y=true then A.pure ([],()) else A.ad (b_ (Add.add 0 (List.length x.1))) (A.pure ([]++x.1,()))
abbrev fQ(t:ab):aN:=⟨.slice t,.slice t,λx=>x.length<=3000000,λx=>x⟩
def rb{ak:Type}(x:List ak×Unit):A (List ak×Unit):=A.dQ (x.1.length<=3000000) x
theorem wX{ak:Type}(x:List ak×Unit):A.le (QH x) (rb x):=A.s4 λh=>by
 unfold QH;rw[A.fZ];refine⟨⟨false,by simp⟩,λb W=>?_⟩;change b=true->x.1=[]at W;obtain⟨l,⟨⟩⟩:=x;cases b with
 | true=>rw[show l=[] from W rfl];exact A.d'.2 rfl
 | false=>
  simp only[Bool.false_eq_true,if_false];exact A.kS.2 ⟨by change l.length<=3000000 at h;simp only[gZ,b_];omega,A.d'.2 (by simp)⟩
theorem arK(x:z1'×Unit):A.le (QH x) (JQ x):=wX x
def aax{ak:Type}(z:ak)(x:Int×Int×List ak×Unit):A ((Nat×Nat)×List ak×Unit):=
 A.ad (0<=x.1/\x.1<=x.2.1/\x.2.1<=Int.ofNat (List.length x.2.2.1)/\Int.ofNat (List.length x.2.2.1)<=Int.ofNat (List.length x.2.2.1)) (if decide
 (x.1=x.2.1)=true then A.pure ((0,List.length x.2.2.1),x.2.2.1,()) else A.ad ((0:Int)<=0/\0<=x.1/\x.1<=Int.ofNat (List.length x.2.2.1))
 (A.ad (0<=x.2.1/\x.2.1<=Int.ofNat (List.length x.2.2.1)/\Int.ofNat (List.length x.2.2.1)<=Int.ofNat (List.length x.2.2.1)) (A.ad (Add.add
 (Int.toNat x.1) (List.length (List.drop (Int.toNat x.2.1) (List.take (Int.toNat (Int.ofNat (List.length x.2.2.1))) x.2.2.1)))<=List.length x.2.2.1)
 (A.ad (0<=Int.ofNat (Add.add (Int.toNat x.1) (List.length (List.drop (Int.toNat x.2.1) (List.take (Int.toNat (Int.ofNat (List.length x.2.2.1)))
 x.2.2.1))) - Int.toNat 0)/\Int.ofNat (Add.add (Int.toNat x.1) (List.length (List.drop (Int.toNat x.2.1) (List.take (Int.toNat (Int.ofNat (List.length
 x.2.2.1))) x.2.2.1))) - Int.toNat 0)<=Int.ofNat (List.length x.2.2.1)/\Int.ofNat (List.length x.2.2.1)<=Int.ofNat (List.length (List.take
 (Int.toNat x.1) x.2.2.1++List.drop (Int.toNat x.2.1) (List.take (Int.toNat (Int.ofNat (List.length x.2.2.1))) x.2.2.1)++List.drop (Add.add
 (Int.toNat x.1) (List.length (List.drop (Int.toNat x.2.1) (List.take (Int.toNat (Int.ofNat (List.length x.2.2.1))) x.2.2.1)))) x.2.2.1) - Int.toNat
 0)) (A.ad True (A.pure ((Int.toNat 0,Add.add (Int.toNat x.1) (List.length (List.drop (Int.toNat x.2.1) (List.take (Int.toNat (Int.ofNat (List.length
 x.2.2.1))) x.2.2.1)))),List.take (Add.add (Int.toNat 0) (Int.toNat (Int.ofNat (Add.add (Int.toNat x.1) (List.length (List.drop (Int.toNat x.2.1)
 (List.take (Int.toNat (Int.ofNat (List.length x.2.2.1))) x.2.2.1))) - Int.toNat 0)))) (List.take (Int.toNat x.1) x.2.2.1++List.drop (Int.toNat
 x.2.1) (List.take (Int.toNat (Int.ofNat (List.length x.2.2.1))) x.2.2.1)++List.drop (Add.add (Int.toNat x.1) (List.length (List.drop (Int.toNat
 x.2.1) (List.take (Int.toNat (Int.ofNat (List.length x.2.2.1))) x.2.2.1)))) x.2.2.1)++List.replicate (Add.add (Int.toNat 0) (Int.toNat (Int.ofNat
 (List.length x.2.2.1))) - Add.add (Int.toNat 0) (Int.toNat (Int.ofNat (Add.add (Int.toNat x.1) (List.length (List.drop (Int.toNat x.2.1) (List.take
 (Int.toNat (Int.ofNat (List.length x.2.2.1))) x.2.2.1))) - Int.toNat 0)))) z++List.drop (Add.add (Add.add (Int.toNat 0) (Int.toNat (Int.ofNat
 (Add.add (Int.toNat x.1) (List.length (List.drop (Int.toNat x.2.1) (List.take (Int.toNat (Int.ofNat (List.length x.2.2.1))) x.2.2.1))) - Int.toNat
 0)))) (List.length (List.replicate (Add.add (Int.toNat 0) (Int.toNat (Int.ofNat (List.length x.2.2.1))) - Add.add (Int.toNat 0) (Int.toNat (Int.ofNat
 (Add.add (Int.toNat x.1) (List.length (List.drop (Int.toNat x.2.1) (List.take (Int.toNat (Int.ofNat (List.length x.2.2.1))) x.2.2.1))) - Int.toNat
 0)))) z))) (List.take (Int.toNat x.1) x.2.2.1++List.drop (Int.toNat x.2.1) (List.take (Int.toNat (Int.ofNat (List.length x.2.2.1))) x.2.2.1)++
 List.drop (Add.add (Int.toNat x.1) (List.length (List.drop (Int.toNat x.2.1) (List.take (Int.toNat (Int.ofNat (List.length x.2.2.1))) x.2.2.1))))
 x.2.2.1),())))))))
def JR{ak:Type}(z:ak)(x:Int×Int×List ak×Unit):A ((Nat×Nat)×List ak×Unit):=A.dQ (0<=x.1/\x.2.1=x.1+1/\x.1<(x.2.2.1.length:Int)/\x.2.2.1.length<=3000000) ((0,x.2.2.1.length - 1),x.2.2.1.eraseIdx x.1.toNat++[z],())
theorem arL{ak:Type}(z:ak)(x):A.le (aax z x) (JR z x):=A.bw λh=>by
 obtain⟨i,j,l,⟨⟩⟩:=x;obtain⟨aU,E,U,ag⟩:0<=i/\j=i+1/\i<(l.length:Int)/\l.length<=3000000:=h;subst E;obtain⟨n,rfl⟩:∃ n:Nat,i=n:=⟨i.toNat,by omega⟩
 have aw:n<l.length:=by omega
 have ay:((n:Int)+1).toNat=n+1:=by omega
 unfold aax;simp only[bX,Int.toNat_natCast,ay,List.take_length,gZ,Int.toNat_zero,Nat.sub_zero,Nat.zero_add,List.length_drop];have aP:n+(l.length - (n+1))=l.length - 1:=by omega
 have cw:(l.take n++l.drop (n+1)++l.drop (l.length - 1))=l.eraseIdx n++l.drop (l.length - 1):=by rw[List.eraseIdx_eq_take_drop_succ]
 have ed:(l.eraseIdx n).length=l.length - 1:=by rw[List.length_eraseIdx_of_lt aw]
 have gW:l.length - (l.length - 1)=1:=by omega
 rw[A.bu (by omega),if_neg (by simp;omega),A.bu (by omega),A.bu (by omega),A.bu (by omega)];rw[aP,cw,A.bu (by simp[ed]),A.bo];show _=A.pure ((0,l.length - 1),l.eraseIdx n++[z],());have j8:(l.eraseIdx n++l.drop (l.length - 1)).take (l.length - 1)=l.eraseIdx n:=by rw[List.take_append_of_le_length (by omega),List.take_of_length_le (by omega)]
 have su:(l.eraseIdx n++l.drop (l.length - 1)).drop l.length=[]:=List.drop_eq_nil_of_le (by simp[ed]);simp only[gW,j8,List.replicate_one,List.length_cons,List.length_nil,Nat.zero_add];rw[show l.length - 1+1=l.length by omega,su,List.append_nil]
def wY(x:bJ×Unit):A wA:=A.dQ (Fp x.1) (iS x.1)
theorem JS{x:z1'}(h:x.length<=2000000):H.o_.sh x=A.pure x:=A.bP (by show List.length x<=3000000;omega) _
theorem zg{t:ab}{x:(ab.slice t).aj}(h:List.length x<=2000000):(fQ t).sh x=A.pure x:=A.bP (by show List.length x<=3000000;omega) _
theorem aay{gB:Type}{s:bJ}(h:Fp s)(fin:bJ->A gB):IK (fQ kP).sh (fQ k9).sh (fQ j1).sh rb H.o_.sh (fQ nz).sh (fQ mO).sh (fQ qa).sh s fin=fin s:=by
 obtain⟨⟨b',c8,eW,Bi⟩,U,ag,a7,bN,du,gL⟩:=h;obtain⟨⟨sp,mk,cut,aX⟩,st,j5,lf,sc,i'⟩:=s;change sp.length<=2000000 at b';change mk.length<=2000000 at c8;change aX.length<=2000000 at eW;change ∀ m∈mk,m.length<=2000000/\∀ s∈m,s.2.1.length<=2000000 at Bi;change st.length<=2000000 at U;change j5.length<=2000000 at ag;change lf.length<=2000000 at a7;change sc.length<=2000000 at bN;change ∀ p∈j5,p.2.2.2.2.length<=2000000 at du;change ∀ p∈lf,p.1.length<=2000000 at gL;have aR:(fQ kP).sh sp=A.pure sp:=zg b';have aW:(fQ k9).sh mk=A.pure mk:=zg c8;have bL:(fQ j1).sh aX=A.pure aX:=zg eW;have fA:H.o_.sh st=A.pure st:=JS U;have pG:(fQ nz).sh j5=A.pure j5:=zg ag;have x0:(fQ mO).sh lf=A.pure lf:=zg a7;have HO:(fQ qa).sh sc=A.pure sc:=zg bN;unfold IK;simp only[aR,aW,bL,A.hR,A.e5,A.bo];rw[A.eu mk (λi (_:Unit)=>((mk.length:Int),(i:Int),cut,st,j5,lf,sc,i',0,0,sp,mk,aX,())) (λp b=>.next b) (λ_=>.next (cut,st,j5,lf,sc,i',0,0,sp,mk,aX,())) () ?_ ?_ ?_]
 ·rw[fs,A.aG,A.b3];simp only[fA,pG,x0,HO,A.hR,A.e5,A.bo];rw[A.eu j5 (λi (_:Unit)=>((j5.length:Int),(i:Int),cut,i',0,0,sp,mk,aX,st,j5,lf,sc,())) (λp b=>.next b) (λ_=>.next (cut,i',0,0,sp,mk,aX,st,j5,lf,sc,())) () ?_ ?_ ?_]
  ·rw[fs,A.aG,A.b3];rw[A.eu lf (λi (_:Unit)=>((lf.length:Int),(i:Int),cut,i',0,0,sp,mk,aX,st,j5,lf,sc,())) (λp b=>.next b) (λ_=>.next (cut,i',0,0,sp,mk,aX,st,j5,lf,sc,())) () ?_ ?_ ?_]
   ·rw[fs,A.aG,A.b3]
   ·rfl
   ·intro i G b;have hw:=bG (n:=(i:Int)+1) (by omega) (by omega);have hc:H.o_.sh lf[i].1=A.pure lf[i].1:=JS (gL _ (List.getElem_mem G));have pD:lf.set i (lf[i].1,lf[i].2)=lf:=List.set_getElem_self G;simp only[bX,cY G,if_true,dm G,cI G,A.bo,cp,hw];simp only[hc,A.hR,A.e5,A.bo,Int.toNat_natCast,pD];rfl
   ·simp
  ·rfl
  ·intro i G b;have hw:=bG (n:=(i:Int)+1) (by omega) (by omega);have hc:H.o_.sh j5[i].2.2.2.2=A.pure j5[i].2.2.2.2:=JS (du _ (List.getElem_mem G));have pD:j5.set i (j5[i].1,j5[i].2.1,j5[i].2.2.1,j5[i].2.2.2.1,j5[i].2.2.2.2)=j5:=List.set_getElem_self G;simp only[bX,cY G,if_true,dm G,cI G,A.bo,cp,hw];simp only[hc,A.hR,A.e5,A.bo,Int.toNat_natCast,pD];rfl
  ·simp
 ·rfl
 ·intro i G b;have hw:=bG (n:=(i:Int)+1) (by omega) (by omega);obtain⟨hm,aE⟩:=Bi _ (List.getElem_mem G);have hc:rb (mk[i],())=A.pure (mk[i],()):=A.bP (by show mk[i].length<=3000000;omega) _;have arM:mk.set i mk[i]=mk:=List.set_getElem_self G;simp only[bX,cY G,if_true,dm G,cI G,A.bo,cp,hc,A.aG];simp only[Int.toNat_natCast];rw[A.eu mk[i] (λj (_:Unit)=>(i,(mk.length:Int),(i:Int),(mk[i].length:Int),(j:Int),cut,st,j5,lf,sc,i',0,0,sp,(mk,i),aX,mk[i],())) (λp b=>.next b) (λ_=>.next ((mk.length:Int),(i:Int),cut,st,j5,lf,sc,i',0,0,sp,(mk,i),aX,mk[i],())) () ?_ ?_ ?_]
  ·rw[fs,A.aG,A.b3];simp only[hw,arM];rfl
  ·rfl
  ·intro j aF b;have hw:=bG (n:=(j:Int)+1) (by omega) (by omega);have hc:H.o_.sh mk[i][j].2.1=A.pure mk[i][j].2.1:=JS (aE _ (List.getElem_mem aF));have pD:mk[i].set j (mk[i][j].1,mk[i][j].2.1,mk[i][j].2.2)=mk[i]:=List.set_getElem_self aF;simp only[Prod.cZ,Prod.fb,Prod.gx,bX,cY aF,if_true,dm aF,cI aF,A.bo,cp,hw];simp only[hc,A.hR,A.e5,A.bo,Int.toNat_natCast,pD];rfl
  ·simp
 ·simp
theorem arN(x):A.le (aob (fQ kP).sh (fQ k9).sh (fQ j1).sh rb H.o_.sh (fQ nz).sh (fQ mO).sh (fQ qa).sh x) (wY x):=A.bw λh=>aay h _
abbrev JT:aN:=⟨mf,mf,Fp,λs=>s⟩
theorem arO(x):A.le (aoa (fQ kP).sh (fQ k9).sh (fQ j1).sh rb H.o_.sh (fQ nz).sh (fQ mO).sh (fQ qa).sh x) (JT.sh x):=A.bw λh=>aay h _
def wZ(x:bJ×bb×Unit):A (aL×bb×Unit):=A.dQ (da x.2.1/\fF x.1) ((oA x.2.1 x.1).1,(oA x.2.1 x.1).2,())
theorem arP(x):A.le (YP qc.sh x) (wZ x):=A.bw λh=>by
 obtain⟨s,d,⟨⟩⟩:=x;obtain⟨ar,aE⟩:da d/\fF s:=h;unfold YP;rw[show qc.sh s=A.pure (jj s) from A.bP aE _,A.aG];show _=A.pure ((oA d s).1,(oA d s).2,());unfold oA;by_cases e:jj s=0<;>simp[e]
theorem arQ{d:bb}(ar:da d){s:bJ}(aE:fF s):wZ (s,d,())=A.pure ((oA d s).1,(oA d s).2,()):=A.bP ⟨ar,aE⟩ _
theorem JU{d:bb}(ar:da d)(s:bJ)(aE:fF s):A.bind (wZ (s,d,())) (λy=>A.pure (y.1,y.2.1,()))=A.pure ((oA d s).1,(oA d s).2,()):=by rw[arQ ar aE,A.aG]
theorem da.copy{d:bb}(h:da d):Fp d.1:=aqU h.val
theorem Fy{d:bb}(h:da d):wY (d.1,())=A.pure (iS d.1):=A.bP h.copy _
theorem arR(x):A.le (YM yS.sh wY h3.sh x) (fw 4 y_ x):=A.bw λh=>by
 obtain⟨l,d,⟨⟩⟩:=x;obtain⟨ar,ai⟩:da d/\eE _ l:=h;have hc:=ar.copy;have aE:hv (nG d.1.1 (bp l 0,bp l 1,bp l 2,bp l 3)):=⟨ar.gq.1.1,ar.gq.1.2.1,by have:=hc.1.2.2.1;simp only[nG,List.length_append,List.length_cons,List.length_nil];omega,ar.gq.1.2.2.2⟩
 unfold YM;rw[A.bo,Fy ar,A.aG];simp (disch:=decide) only [nN ai,A.bo,nH,nI,nJ,nK,nL,nM];rw[A.bu (by have:=hc.1.2.2.1;simp only[gZ,b_,iS];omega)];show A.bind (h3.sh (nG d.1.1 (bp l 0,bp l 1,bp l 2,bp l 3))) _=A.pure ((y_ d l).1,(y_ d l).2,());rw[show h3.sh (nG d.1.1 (bp l 0,bp l 1,bp l 2,bp l 3))=A.pure (cO (nG d.1.1 (bp l 0,bp l 1,bp l 2,bp l 3))) from A.bP aE _,A.aG];have hlen:yS.sh (nG d.1.1 (bp l 0,bp l 1,bp l 2,bp l 3),bp l 0)=A.pure (wI (nG d.1.1 (bp l 0,bp l 1,bp l 2,bp l 3)) (bp l 0)):=A.bP aE _;have CX:yS.sh (((iS d.1).1,(iS d.1).2.1,(iS d.1).2.2.1,(iS d.1).2.2.2.2.1++[(bp l 0,bp l 1,bp l 2,bp l 3)]),bp l 0)=A.pure (wI (nG d.1.1 (bp l 0,bp l 1,bp l 2,bp l 3)) (bp l 0)):=hlen;simp only[CX,A.hR,A.e5,A.bo];unfold y_;by_cases e:cO (nG d.1.1 (bp l 0,bp l 1,bp l 2,bp l 3))=0
 ·by_cases aP:(wI (nG d.1.1 (bp l 0,bp l 1,bp l 2,bp l 3)) (bp l 0)).2=0
  ·simp only[e,aP,ne_eq,not_true_eq_false,decide_false,Bool.false_eq_true,if_false];rfl
  grind
 grind
theorem arS(x):A.le (YO wY wZ x) (fw 2 y' x):=A.bw λh=>by
 obtain⟨l,d,⟨⟩⟩:=x;obtain⟨ar,ai⟩:da d/\eE _ l:=h;have hc:=ar.copy;unfold YO;rw[A.bo,Fy ar,A.aG];simp (disch:=decide) only [nN ai,A.bo,nH,nI,nJ,nK,nL,nM];show _=A.pure ((y' d l).1,(y' d l).2,());unfold y';have aU:=ai.bp 0;have E:=ai.bp 1;by_cases e:bp l 0>=(d.1.2.1.length:Int)
 ·rw[if_pos (by simpa [iS]using e),if_pos e]
 ·rw[if_neg (by simpa [iS]using e),if_neg e];have aw:(bp l 0).toNat<d.1.2.1.length:=by omega
  rw[A.bu ⟨aU.1,by show bp l 0<(d.1.2.1.length:Int);omega⟩,A.bu ⟨aU.1,by show bp l 0<(d.1.2.1.length:Int);omega⟩];have ae:∀ n∈d.1.2.1,0<=n/\n<=10:=λn aw=>by
   have:=ar.val.tm.2;have fT:=ar.zc;unfold jj at fT;grind [nA,b1]
  have W:=ae _ (List.getElem_mem aw);have aC:d.1.2.1.getD (bp l 0).toNat 0=d.1.2.1[(bp l 0).toNat]:=by grind
  have hw:=bG (n:=d.1.2.1.getD (bp l 0).toNat 0+bp l 1) (by omega) (by omega);have gY:IntKind.wrap .i64 (Add.add ((iS d.1).2.2.2.2.2.1.getD (bp l 0).toNat 0) (bp l 1))=d.1.2.1.getD (bp l 0).toNat 0+bp l 1:=hw;rw[gY];exact JU ar (d.1.1,d.1.2.1.set (bp l 0).toNat (d.1.2.1.getD (bp l 0).toNat 0+bp l 1),d.1.2.2) ⟨ar.gq.1,by show (List.set d.1.2.1 _ _).length<_;rw[List.length_set];exact ar.gq.2.1,ar.gq.2.2⟩
theorem arT(x):A.le (YQ wY wZ x) (fw 3 Qz x):=A.bw λh=>by
 obtain⟨l,d,⟨⟩⟩:=x;obtain⟨ar,ai⟩:da d/\eE _ l:=h;have hc:=ar.copy;have bN:=hc.2.2.2.2.1;obtain⟨ew,dN,eJ,oX,oC,re,tE⟩:=ar.gq;unfold YQ;rw[A.bo,Fy ar,A.aG];simp (disch:=decide) only [nN ai,A.bo,nH,nI,nJ,nK,nL,nM];rw[A.bu (by simp only[gZ,b_,iS];omega)];exact JU ar (d.1.1,d.1.2.1,d.1.2.2.1,d.1.2.2.2.1,d.1.2.2.2.2.1++[(bp l 0,bp l 1,bp l 2)],d.1.2.2.2.2.2) ⟨ew,dN,eJ,oX,by grind,re,tE⟩
theorem arU(x):A.le (YR wY wZ x) (fw 4 QA x):=A.bw λh=>by
 obtain⟨l,d,⟨⟩⟩:=x;obtain⟨ar,ai⟩:da d/\eE _ l:=h;have hc:=ar.copy;have bN:=hc.2.2.1;have hm:=ai.JN;have hle:4<=l.length:=ai.QD;obtain⟨ew,dN,eJ,oX,oC,re,tE⟩:=ar.gq;unfold YR;rw[A.bo,Fy ar,A.aG];simp (disch:=decide) only [nN ai,A.bo,nH,nI,nJ,nK,nL,nM];rw[A.bu ⟨by decide,by grind,Int.le_refl _⟩,A.bu (by simp only[gZ,b_,iS];omega)];simp only[bX,Int.toNat_natCast,List.take_length];exact JU ar (d.1.1,d.1.2.1,d.1.2.2.1++[(bp l 0,bp l 1,bp l 2,bp l 3,l.drop 4)],d.1.2.2.2) ⟨ew,dN,by grind,oX,oC,λp ao=>by
  grind,tE⟩
theorem arV(x):A.le (YS wY wZ x) (fw 5 QB x):=A.bw λh=>by
 obtain⟨l,d,⟨⟩⟩:=x;obtain⟨ar,ai⟩:da d/\eE _ l:=h;have hc:=ar.copy;have bN:=hc.2.2.2.1;have hm:=ai.JN;have hle:5<=l.length:=ai.QD;obtain⟨ew,dN,eJ,oX,oC,re,tE⟩:=ar.gq;unfold YS;rw[A.bo,Fy ar,A.aG];simp (disch:=decide) only [nN ai,A.bo,nH,nI,nJ,nK,nL,nM];rw[A.bu ⟨by decide,by grind,Int.le_refl _⟩,A.bu (by simp only[gZ,b_,iS];omega)];simp only[bX,Int.toNat_natCast,List.take_length];exact JU ar (d.1.1,d.1.2.1,d.1.2.2.1,d.1.2.2.2.1++[(l.drop 5,(bp l 0,bp l 1),bp l 2,bp l 3,bp l 4)],d.1.2.2.2.2) ⟨ew,dN,eJ,by grind,oC,re,λp ao=>by
  grind⟩
abbrev JV:dM:=([],(0,0),0,0,0)
theorem arW(x):A.le (YT (fQ mO).sh (JR JV) x) (fw 1 za x):=A.bw λh=>by
 obtain⟨l,d,⟨⟩⟩:=x;obtain⟨ar,ai⟩:da d/\eE _ l:=h;have hc:=ar.copy.2.2.2.1;have aU:=ai.bp 0;unfold YT;simp (disch:=decide) only [nN ai,A.bo,nH,nI,nJ,nK,nL,nM];show _=A.pure ((za d l).1,(za d l).2,());unfold za;by_cases e:bp l 0>=(d.1.2.2.2.1.length:Int)
 ·grind
 ·rw[if_neg (by grind),if_neg e];have lR:(fQ mO).sh d.1.2.2.2.1=A.pure d.1.2.2.2.1:=zg hc;have hw:=bG (n:=bp l 0+1) (by omega) (by omega);simp only[lR,A.hR,A.e5,A.bo,cp,hw];rw[show JR JV (bp l 0,bp l 0+1,d.1.2.2.2.1,())=A.pure _ from A.bP ⟨aU.1,rfl,by grind,by grind⟩ _,A.aG];grind
theorem aaz{c:H.a6}{m:List H.a8}{v:z1'}(h:(H.oy c m v).2=0):H.cO c=0/\H.cO (H.oy c m v).1=0/\(H.oy c m v).1=H.nF c (H.g_ (c.2.1++m)) (H.sb c.2.2.1 v):=by
 unfold H.oy at h ⊢;split at h
 ·omega
 split at h
 ·omega
 split at h
 ·omega
 split at h
 ·omega
 rename_i ca a2 a3 a4;rw[if_neg ca,if_neg a2,if_neg a3,if_neg a4];have ds:H.cO c=0:=by omega
 have ec:H.cO (H.nF c m v)=0:=by omega
 refine⟨ds,?_,rfl⟩;have g1:H.jZ c=true:=by unfold H.cO at ds;grind
 have ei:H.jZ (H.nF c m v)=true:=by unfold H.cO at ec;grind
 have aw:H.k7 (H.g_ (c.2.1++m))=false:=by
  rw[H.Bc];have:=(H.Bc (c.2.1++m)).1 (by grind);exact λa a_ b W=>this a (H.ED a_) b (H.ED W)
 have lY:H.jZ (H.nF c (H.g_ (c.2.1++m)) (H.sb c.2.2.1 v))=true:=by
  unfold H.jZ H.te at g1 ei ⊢;simp only[Bool.and_eq_true,List.all_eq_true,Bool.not_eq_true',Bool.or_eq_false_iff,H.nF]at g1 ei ⊢;obtain⟨⟨⟨⟨⟨⟨⟨⟨kf,z2⟩,z3⟩,z4⟩,z5⟩,aR⟩,aW⟩,bL⟩,fA⟩:=g1;obtain⟨⟨⟨⟨_,_⟩,arX⟩,ay_⟩,_⟩:=ei;simp only[Bool.or_eq_true,not_or,bX,Bool.not_eq_true]at a4;refine⟨⟨⟨⟨⟨⟨⟨⟨kf,a4.1⟩,a4.2⟩,z4⟩,z5⟩,aR⟩,λs aE=>?_⟩,λn aw=>?_⟩,fA⟩
  ·rcases List.mem_append.1 (H.ED aE) with h | h
   ·exact aW s h
   ·exact arX s h
  ·have:=(List.mem_filter.1 aw).2;grind
 unfold H.cO;rw[if_pos lY,if_neg (by show ¬H.k7 (H.g_ (c.2.1++m))=true;grind)]
theorem QI{d:bb}(ar:da d)(m:List H.a8)(v:z1'):da (tD d m v).2:=by
 unfold tD;split
 ·exact ar
 ·rename_i h;obtain⟨E,U,ag⟩:=aaz (c:=d.2) (m:=m) (v:=v) (by omega);exact⟨ar.gq,ar.zc,U,by rw[ag];exact ar.BW⟩
theorem JW{d:bb}(ar:da d){s:bJ}(aE:fF s):da (oA d s).2:=by
 unfold oA;split
 ·exact ar
 ·rename_i h;exact⟨aE,by grind,ar.q_,ar.BW⟩
theorem arY{d:bb}(ar:da d){l:z1'}(ai:l.length<=10000)(j:Nat):da (zb j d l).2:=by
 have hc:=ar.copy;obtain⟨ew,dN,eJ,oX,oC,re,tE⟩:=ar.gq;obtain⟨bD,c2,c3,c4,c5,lQ,oM⟩:=ar.copy;unfold zb;split<;>try exact ar
 ·exact QI ar _ _
 ·exact QI ar _ _
 ·exact QI ar _ _
 ·unfold y_;split
  ·exact ar
  split
  ·exact ar
  rename_i h _;have h:cO (nG d.1.1 (bp l 0,bp l 1,bp l 2,bp l 3))=0:=by omega
  refine⟨⟨⟨ew.1,ew.2.1,by have:=hc.1.2.2.1;simp only[nG,List.length_append,List.length_cons,List.length_nil];omega,ew.2.2.2⟩,dN,eJ,oX,oC,re,tE⟩,?_,ar.q_,ar.BW⟩;have aE:=ar.zc;unfold jj at aE ⊢;rw[if_neg (by omega)];have:nA (nG d.1.1 (bp l 0,bp l 1,bp l 2,bp l 3),d.1.2)=nA d.1:=rfl;grind
 ·unfold y';split
  ·exact ar
  ·exact JW ar ⟨ew,by grind,eJ,oX,oC,re,tE⟩
 ·exact JW ar ⟨ew,dN,eJ,oX,by grind,re,tE⟩
 ·exact JW ar ⟨ew,dN,by grind,oX,oC,λp ao=>by
   grind,tE⟩
 ·exact JW ar ⟨ew,dN,eJ,by grind,oC,re,λp ao=>by
   grind⟩
 ·unfold za;split
  ·exact ar
  ·refine⟨⟨ew,dN,eJ,by grind,oC,re,λp ao=>tE p (List.mem_of_mem_eraseIdx ao)⟩,?_,ar.q_,ar.BW⟩;have aE:=ar.zc;unfold jj at aE ⊢;split at aE
   ·omega
   ·rename_i vn;rw[if_neg vn];split at aE
    ·rename_i ae;rw[if_pos];unfold nA at ae ⊢;simp only[Bool.and_eq_true,List.all_eq_true,decide_eq_true_eq]at ae ⊢;obtain⟨⟨⟨⟨⟨⟨⟨⟨dh,dK⟩,mZ⟩,r8⟩,cZ⟩,fb⟩,gx⟩,h1⟩,jW⟩:=ae;exact⟨⟨⟨⟨⟨⟨⟨⟨dh,dK⟩,mZ⟩,r8⟩,by grind⟩,λx ah=>fb x (List.mem_of_mem_eraseIdx ah)⟩,gx⟩,h1⟩,jW⟩
    omega
theorem aaA:∀ (s:aL) (n k:Nat),n<10 ^ k->k+s.length<=18->0<=gf s n->Go.Lib.parseUint10 n s=.ok (gf s n).toNat
 | [],n,k,_,_,_=>by rfl
 | c::s,n,k,E,U,ag=>by
  unfold gf at ag ⊢;split at ag
  ·omega
  ·rename_i hc;rw[if_neg hc];simp only[Bool.or_eq_true,decide_eq_true_eq,not_or]at hc;have HI:48<=c.toNat/\c.toNat<=57:=by omega
   have al:(10:Nat) ^ (k+1)<=10 ^ 18:=Nat.pow_le_pow_right (by decide) (by grind);have Xt:(10:Nat) ^ (k+1)=10 ^ k*10:=Nat.pow_succ ..;have e:10*(n:Int)+((c.toNat:Int) - 48)=((n*10+(c.toNat - 48):Nat):Int):=by omega
   rw[e]at ag ⊢;unfold Go.Lib.parseUint10;rw[if_pos HI,if_neg (by omega),if_neg (by omega)];exact aaA s _ (k+1) (by omega) (by grind) ag
theorem QJ{s:aL}(h:0<=eZ s):Go.Lib.atoiAll s=.ok (eZ s):=by
 unfold eZ at h ⊢;split at h
 ·omega
 ·rename_i W;rw[if_neg W];simp only[Bool.or_eq_true,decide_eq_true_eq,not_or]at W;obtain⟨⟨aU,du⟩,_⟩:=W;cases s with
  | nil=>grind
  | cons c r=>
   have ao:=aaA (c::r) 0 0 (by decide) (by omega) h;have ai:=Qu (c::r) 0 0 (by decide) (by decide);have gr:(10:Int) ^ (0+(c::r).length)<=10 ^ 6:=by
    have:=Nat.pow_le_pow_right (n:=10) (by decide) (show 0+(c::r).length<=6 by omega);grind
   have ar:¬(decide ((c.toNat:Int)<48)||decide ((c.toNat:Int) > 57))=true:=by
    intro hc;unfold gf at h;grind
   simp only[Bool.or_eq_true,decide_eq_true_eq,not_or]at ar;unfold Go.Lib.atoiAll;simp only;rw[if_neg (by omega)];unfold Go.Lib.parseMag;grind
theorem arZ{s:aL}(h:0<=eZ s):tC s=eZ s:=by
 unfold tC;rw[QJ h]
abbrev Fz:aN:=⟨.str,.aA (.int .i64) .bool,λx=>x.length<=10000,rK⟩
abbrev JX:aN:=⟨.aA .str .str,tB,λx=>x.1.length<=10000/\x.2=[32],λx=>cF x.1⟩
abbrev ar0:ab:=.st (.aA br (.aA .bool .eo))
def JY:List (aL×Int×Bool)->Nat->List (aL×Bw)
 | [],_=>[]
 | p::l,i=>(p.1,p.2.1,p.2.2,some (119+i))::JY l (i+1)
def w1:List (aL×Bw):=JY kQ 0
abbrev JZ:aN:=⟨.cT,.map .str ar0,λ_=>True,λ_=>w1⟩
theorem ar1(x):A.le (anR x) (JZ.sh x):=A.bw λ_=>congrArg A.pure (show _=w1 by decide +kernel)
theorem aaB(w:aL):∀ (l:List (aL×Int×Bool)) (i:Nat),((JY l i).find? λp=>decide (w=p.1)).map (λx=>x.2)=(oB w l i).map λr=>(r.1,r.2.1,some (119+r.2.2))
 | [],_=>rfl
 | p::l,i=>by
  unfold JY oB;rw[List.find?_cons];by_cases h:w=p.1
  ·simp[h]
  ·simp[h,aaB w l (i+1)]
theorem aaC{w:aL}:∀ {l:List (aL×Int×Bool)} {i:Nat} {r:Int×Bool×Nat},oB w l i=some r->i<=r.2.2/\r.2.2<i+l.length/\l[r.2.2 - i]?=some (w,r.1,r.2.1)
 | [],_,_,h=>by simp[oB]at h
 | p::l,i,r,h=>by
  unfold oB at h;split at h
  ·grind
  ·have:=aaC h;grind
def J0(j:Nat):Nat:=(kQ.getD j ([],0,false)).2.1.toNat
def FA(k:Nat):z1'×bb×Unit->A (aL×bb×Unit):=fw (J0 (k - 119)) (zb (k - 119))
theorem ar2:∀ p∈kQ,0<=p.2.1:=by decide
def J1(x:List (aL×Bw)×aL×bb×Unit):A (aL×bb×Unit):=A.dQ (x.1=w1/\x.2.1.length<=10000/\da x.2.2.1) ((iB x.2.2.1 x.2.1).1,(iB x.2.2.1 x.2.1).2,())
theorem ar3{l:List aL}(h:l.all (λw=>decide (0<=eZ w))=true):l.map tC=l.map eZ:=List.map_congr_left λw hw=>arZ (by grind)
theorem aaD{aJ:Type}(r:aJ)(fin:z1'->aJ):∀ (l:List aL) (b:z1'),eY (λw b=>if (!decide (0<=eZ w))=true then .done r else .next (b++[tC w])) fin l b=if l.all (λw=>decide (0<=eZ w))=true then fin (b++l.map tC) else r
 | [],b=>by simp[eY]
 | w::l,b=>by
  unfold eY;rw[List.all_cons,List.map_cons];cases h:decide (0<=eZ w) with
  | true=>
   simp only[Bool.not_true,Bool.false_eq_true,if_false,Bool.true_and];rw[aaD r fin l,List.append_assoc];rfl
  | false=>rfl
theorem ar4(x):A.le (Yy JX.sh Fz.sh FA x) (J1 x):=A.bw λh=>by
 obtain⟨ar5,s,d,⟨⟩⟩:=x;obtain⟨ae,aE,ar⟩:ar5=w1/\s.length<=10000/\da d:=h;subst ae;unfold Yy;show _=A.pure ((iB d s).1,(iB d s).2,());rw[show JX.sh (s,[32])=A.pure (cF s) from A.bP ⟨aE,rfl⟩ _,A.aG];have ai:=vd s;rw[A.bu ⟨by decide,by grind⟩];have au:((w1.find? λp=>decide ((cF s).getD (Int.toNat 0) []=p.1)).map λx=>x.2)=(oB ((cF s).getD 0 []) kQ 0).map λr=>(r.1,r.2.1,some (119+r.2.2)):=aaB _ _ _;have hw:=bG (n:=((cF s).length:Int) - 1) (by omega) (by omega);simp only[au,bX,hw];unfold iB Fv;cases G_:oB ((cF s).getD 0 []) kQ 0 with
 | none=>simp
 | some r=>
  obtain⟨k,m,j⟩:=r;obtain⟨_,aF,al⟩:=aaC G_;simp only[Option.map_some,Option.isSome_some,Option.getD_some,Bool.not_true,Bool.false_or];by_cases W:(decide (((cF s).length:Int) - 1<k)||decide (((cF s).length:Int) - 1 > k)&&!m)=true
  ·grind
  ·rw[if_neg W,if_neg W];rw[A.bu ⟨by decide,by omega,Int.le_refl _⟩];simp only[Int.toNat_natCast,List.take_length,show Int.toNat 1=1 from rfl];have vy:((cF s).drop 1).length=(cF s).length - 1:=by simp
   rw[A.gw ((cF s).drop 1) (λi (o:z1')=>((cF s).drop 1,(((cF s).drop 1).length:Int),(i:Int),(k,m,some (119+j)),o,d,())) (λw o=>if (!decide (0<=eZ w))=true then .done (.done ([63],d,())) else .next (o++[tC w])) (λo=>.next ((k,m,some (119+j)),o,d,())) (λi o=>o.length=i) [] ?_ rfl ?_ ?_]
   ·rw[aaD,A.aG];unfold Ft;by_cases a_:((cF s).drop 1).all (λw=>decide (0<=eZ w))=true
    ·rw[if_pos a_,if_pos a_,A.b3,ar3 a_,List.nil_append];rw[A.bu]
     ·have zx:0<=k:=ar2 _ (List.mem_of_getElem? al);have ck:J0 j=k.toNat:=by
       unfold J0;grind
      have cL:eE (J0 j) (((cF s).drop 1).map eZ):=by
       simp only[Bool.or_eq_true,decide_eq_true_eq,not_or]at W;refine⟨by grind,by grind,λn aw=>?_⟩;obtain⟨w,hw,rfl⟩:=List.mem_map.1 aw;have:=List.all_eq_true.1 a_ w hw;exact⟨by grind,(arl w).2⟩
      have ay':FA (119+j) (((cF s).drop 1).map eZ,d,())=A.pure ((zb j d (((cF s).drop 1).map eZ)).1,(zb j d (((cF s).drop 1).map eZ)).2,()):=by
       unfold FA;rw[show 119+j - 119=j by omega];exact A.bP ⟨ar,cL⟩ _
      simp_all
     ·have:j<20:=by simpa [kQ]using aF
      exact⟨119+j,by
       have e:∀ j:Fin 20,(119+j.val)∈[119,120,121,122,123,124,125,126,127,128,129,130,131,132,133,134,135,136,137,138]:=by decide
       exact e ⟨j,this⟩,rfl⟩
    ·rw[if_neg a_,if_neg a_];rfl
   ·rfl
   ·intro i G o af;have hw:=bG (n:=(i:Int)+1) (by omega) (by omega);refine⟨?_,λbe de=>?_⟩
    ·simp only[cY G,if_true,dm G,cI G,A.bo,cp,hw];rw[show Fz.sh ((cF s).drop 1)[i]=A.pure (rK ((cF s).drop 1)[i]) from A.bP (Nat.le_trans (aao s (List.mem_of_mem_drop (List.getElem_mem G))) aE) _,A.aG];unfold rK;by_cases aw:0<=eZ ((cF s).drop 1)[i]
     ·simp only[aw,decide_true,Bool.not_true,Bool.false_eq_true,if_false];rw[A.bu (ft (by grind))];rfl
     simp_all
    grind
   simp
theorem aaE{d:bb}(ar:da d){s:aL}(aE:s.length<=10000):da (iB d s).2:=by
 unfold iB;split
 ·exact ar
 ·rename_i j l ao;refine arY ar ?_ j;unfold Fv at ao;split at ao
  ·grind
  ·split at ao
   ·grind
   ·unfold Ft at ao;have:=vd s;grind
abbrev pn:aN:=⟨BT,.int .i64,λd=>fF d.1/\H.j7 d.2,jk⟩
theorem ar6(x):A.le (Yv qc.sh H.h3.sh x) (pn.sh x):=A.bw λh=>by
 obtain⟨E,U⟩:fF x.1/\H.j7 x.2:=h;unfold Yv;rw[show qc.sh x.1=A.pure (jj x.1) from A.bP E _,A.aG,show H.h3.sh x.2=A.pure (H.cO x.2) from A.bP U _,A.ko,A.aG];show _=A.pure (jk x);unfold jk;grind
theorem ar7(l:List H.a8):(H.g_ l).length<=l.length:=by
 have rE:(H.g_ l).map (·.1) ⊆ l.map (·.1):=by
  intro x ah;obtain⟨s,aE,rfl⟩:=List.mem_map.1 ah;exact List.mem_map_of_mem (H.ED aE)
 have:=(H.X9 l).length_le_of_subset rE;grind
theorem ar8(l:z1'):(H.sb l []).length<=l.length:=by
 unfold H.sb;have aw:((ef 0 99).filter λid=>l.contains id||List.contains [] id).Nodup:=((H.Qt 0 99).imp λh=>by omega:(ef 0 99).Nodup).filter _;refine aw.length_le_of_subset λx ah=>?_;grind
theorem aaF{c:H.a6}(h:H.cO c=0):H.oy c [] []=(H.nF c (H.g_ c.2.1) (H.sb c.2.2.1 []),0):=by
 have G:=H.JA h;have g:H.jZ c=true:=by unfold H.cO at h;grind
 have U:H.cO (H.nF c [] [])=0:=by
  have:H.jZ (H.nF c [] [])=true:=by
   unfold H.jZ H.te at g ⊢;simp only[Bool.and_eq_true,List.all_eq_true,Bool.not_eq_true',Bool.or_eq_false_iff,H.nF]at g ⊢;grind
  unfold H.cO;rw[if_pos this];rfl
 have ez:=ar7 c.2.1;have pr:=ar8 c.2.2.1;have ej:=G.ej;have jM:=G.jM;unfold H.oy;rw[if_neg (by simp[h]),if_neg (by omega),List.append_nil,if_neg (by rw[G.cl];decide),if_neg];grind
theorem ar9{d:bb}(h:da d):ji d=(d.1,H.nF d.2 (H.g_ d.2.2.1) (H.sb d.2.2.2.1 [])):=by
 unfold ji;rw[aaF h.q_]
theorem aaG{d:bb}(h:da d):da (ji d):=by
 have:=aaz (c:=d.2) (m:=[]) (v:=[]) (by rw[aaF h.q_]);exact⟨h.gq,h.zc,this.2.1,by rw[ar9 h];exact h.BW⟩
theorem aaH{p:bb->Prop}{q:aL->Prop}(ao:∀ d s,p d->q s->p (iB d s).2):∀ (l:List aL) (d:bb),p d->(∀ s∈l,q s)->p (h6 d l).2
 | [],d,h,_=>h
 | s::l,d,h,bq=>aaH ao l _ (ao d s h (bq s (by simp))) λt aM=>bq t (by grind)
theorem ar_{d:bb}(h:da d){l:List aL}(ai:∀ s∈l,s.length<=10000):da (h6 d l).2:=aaH (p:=da) (λd s h aE=>aaE h aE) l d h ai
def uT(x:bb×Unit):A (bb×Unit):=A.dQ (da x.1) (ji x.1,())
theorem Pd(x):A.le (Yw H.BS.sh JT.sh x) (uT x):=A.bw λh=>by
 obtain⟨d,⟨⟩⟩:=x;have h:da d:=h;unfold Yw;rw[show H.BS.sh (d.2,[],[])=A.pure (H.oy d.2 [] []) from A.bP ⟨h.j7,by simp,by simp⟩ _,A.aG];rw[show JT.sh d.1=A.pure d.1 from A.bP h.copy _];simp only[A.hR,A.e5,A.bo];rfl
abbrev aaI(x:bb×List aL):Prop:=fF x.1.1/\H.fE x.1.2/\x.2.length<2 ^ 63/\∀ s∈x.2,s.length<=10000
theorem aaJ{d:bb}(E:fF d.1)(U:H.fE d.2)(h:jk d=0):da d:=by
 unfold jk at h;split at h
 ·omega
 ·rename_i W;simp only[Bool.or_eq_true,decide_eq_true_eq,not_or,ne_eq,Decidable.not_not]at W;exact⟨E,W.1,W.2,U.2 W.2⟩
abbrev ve:aN:=⟨.aA BT tB,.aA tB (.aA BT (.int .i64)),aaI,λx=>wW x.1 x.2⟩
theorem aaK:∀ (l:List aL) (o:List aL) (d:bb),l.foldl (λ(p:List aL×bb) s=>(p.1++[(iB p.2 s).1],(iB p.2 s).2)) (o,d)=(o++(h6 d l).1,(h6 d l).2)
 | [],o,d=>by simp[h6]
 | s::l,o,d=>by
  rw[List.foldl_cons,aaK l];simp[h6]
theorem ar'(x):A.le (Yu pn.sh uT JZ.sh J1 x) (ve.sh x):=A.bw λh=>by
 obtain⟨d,l⟩:=x;obtain⟨E,U,ag,a7⟩:aaI (d,l):=h;unfold Yu;show _=A.pure (wW d l);unfold wW;rw[show pn.sh d=A.pure (jk d) from A.bP ⟨E,U.gq⟩ _,A.aG];by_cases e:jk d=0
 ·rw[if_neg (show ¬decide (jk d≠0)=true by grind),if_neg (show ¬jk d≠0 by omega)];have ar:=aaJ E U e;by_cases aP:l.length > 40
  ·grind
  ·rw[if_neg (show ¬decide (Int.ofNat l.length > 40)=true by grind),if_neg aP];rw[show uT (d,())=A.pure (ji d,()) from A.bP ar _,A.aG,show JZ.sh ()=A.pure w1 from rfl,A.aG];rw[A.gw l (λi (p:List aL×bb)=>(w1,l,(l.length:Int),(i:Int),p.1,0,0,0,0,0,0,0,0,0,p.2,())) (λs p=>.next (p.1++[(iB p.2 s).1],(iB p.2 s).2)) (λp=>.next (p.1,0,0,0,0,0,0,0,0,0,p.2,())) (λi p=>da p.2/\p.1.length=i) ([],ji d) ?_ ⟨aaG ar,rfl⟩ ?_ ?_]
   ·rw[fs,aaK,A.aG,A.b3,A.bo,List.nil_append]
   ·rfl
   ·rintro i G ⟨o,vo⟩ ⟨xj,af⟩;have hw:=bG (n:=(i:Int)+1) (by omega) (by omega);have aE:=a7 _ (List.getElem_mem G);change da vo at xj;change o.length=i at af;refine⟨?_,λbe de=>?_⟩
    ·simp only[bX,cY G,if_true,dm G,cI G,A.bo,cp,hw];rw[show J1 (w1,l[i],vo,())=A.pure _ from A.bP ⟨rfl,aE,xj⟩ _,A.aG,A.bu (ft (by grind))];rfl
    ·simp only[V.next.injEq]at de;subst de;exact⟨aaE xj aE,by grind⟩
   simp
 grind
end Go.Fer.ax
namespace Go.Fer.ax
open A (V)
def po:bb:=(BR,[(0,0)],[],[],[],10,30,100,500,1000,2000,300)
def aaL(asa:Unit->A bJ)(x:Unit):A bb:=A.bind (asa ()) λy=>A.pure (y,[(0,0)],[],[],[],10,30,100,500,1000,2000,300)
abbrev J2:aN:=⟨.cT,BT,λ_=>True,λ_=>po⟩
theorem asb(x):A.le (aaL Jq.sh x) (J2.sh x):=A.bw λ_=>by
 unfold aaL;rw[show Jq.sh ()=A.pure BR from rfl,A.aG];rfl
def pR:List aL:=[[108,101,110,100,32,49,32,48,32,49,48,48,32,51,32,55],[98,97,99,107,32,50,32,48,32,49,55,49,32,51],[102,101,101,32,49],[119,104,101,114,101,32,51,32,49,55,49],[116,114,105,97,108,32,49,32,48,32,48,32,48],[115,116,111,99,107,32,48,32,49],[101,120,116,114,97],[100,114,111,112,32,51],[101,120,116,114,97]]
def J3:List aL:=[[111,107],[111,107],[51,48,48,32,51,48,48],[115,104,111,112],[108,105,97,114],[111,107],[49],[111,107],[48]]
theorem asc:jk po=0:=by decide +kernel
theorem QK:(h6 (ji po) pR).1=J3/\(h6 (ji po) pR).2.2.2.1.length=2/\(h6 (ji po) pR).2.1.2.2.2.1.length=3:=by decide +kernel
end Go.Fer.ax
namespace Go.Fer.ax
open A (V)
open H (ft)
theorem asd(x):A.le (Yt H.h3.sh qc.sh x) (pn.sh x):=A.bw λh=>by
 obtain⟨E,U⟩:fF x.1/\H.j7 x.2:=h;unfold Yt;rw[show qc.sh x.1=A.pure (jj x.1) from A.bP E _,A.aG,show H.h3.sh x.2=A.pure (H.cO x.2) from A.bP U _,A.ko,A.aG];show _=A.pure (jk x);unfold jk;grind
theorem aaM(c:UInt8):c.1.1.1=c.toNat:=rfl
theorem aaN{n:Int}(h:0<=n)(U:n<=255):IntKind.wrap .u8 n=n:=by
 show (if (false&&decide (n % 2 ^ 8>=(2 ^ (8 - 1):Int)))=true then n % 2 ^ 8 - 2 ^ 8 else n % 2 ^ 8)=n;grind
theorem QL{ak β aJ:Type}{p:ak->Bool}{r:aJ}{g:ak->β->β}{fin:β->aJ}:∀ (l:List ak) (b:β),eY (λx b=>if p x=true then .done r else .next (g x b)) fin l b=if l.any p=true then r else fin (l.foldl (λb x=>g x b) b)
 | [],b=>rfl
 | x::l,b=>by
  unfold eY;rw[List.any_cons,List.foldl_cons];cases h:p x with
  | true=>rfl
  | false=>
   simp only[Bool.false_eq_true,if_false,Bool.false_or];exact QL l (g x b)
def zh(c:UInt8):Bool:=decide ((c.toNat:Int)<48)||decide ((c.toNat:Int) > 57)
theorem ase(c:UInt8)(s:aL)(n:Int):gf (c::s) n=if zh c=true then -1 else gf s (10*n+((c.toNat:Int) - 48)):=rfl
theorem aaO{aJ:Type}{r:aJ}{fin:Int->aJ}:∀ (s:aL) (n:Int),0<=n->eY (λc n=>if zh c=true then .done r else .next (10*n+((c.toNat:Int) - 48))) fin s n=if gf s n=-1 then r else fin (gf s n)
 | [],n,h=>by
  show fin n=if n=-1 then r else fin n
  grind
 | c::s,n,h=>by
  rw[ase];unfold eY;by_cases hc:zh c=true
  ·grind
  ·have oZ:=hc;unfold zh at oZ;simp only[Bool.or_eq_true,decide_eq_true_eq,not_or]at oZ;simp only[hc];exact aaO s _ (by omega)
abbrev J4:aN:=⟨.str,.int .i64,λ_=>True,eZ⟩
theorem asf(x):A.le (Y3 x) (J4.sh x):=A.bw λ_=>by
 unfold Y3;show _=A.pure (eZ x);unfold eZ;simp only[bX,aaM,show Int.toNat 0=0 from rfl];rw[A.bu (λW=>⟨⟨W,trivial⟩,⟨Int.le_refl _,by grind⟩,trivial⟩)];have e:(decide ((x.length:Int)=0)||decide ((x.length:Int) > 6)||decide ((x.length:Int) > 1)&&decide (((x.getD 0 0).toNat:Int)=48))=(decide (x.length=0)||decide (x.length > 6)||decide (x.length > 1)&&decide ((x.getD 0 0).toNat=48)):=by
  grind
 rw[e];by_cases W:(decide (x.length=0)||decide (x.length > 6)||decide (x.length > 1)&&decide ((x.getD 0 0).toNat=48))=true
 ·grind
 ·rw[if_neg W,if_neg W];have du:x.length<=6:=by
   grind
  rw[A.gw x (λi (n:Int)=>(x,n,(i:Int),())) (λc n=>if zh c=true then .done (.done (-1)) else .next (10*n+((c.toNat:Int) - 48))) (λn=>.next (n,())) (λi n=>0<=n/\n<10 ^ i) 0 ?_ ⟨Int.le_refl _,by decide⟩ ?_ ?_]
  ·rw[aaO _ _ (Int.le_refl _),A.aG];by_cases ar:gf x 0=-1
   ·rw[if_pos ar,ar];rfl
   ·rw[if_neg ar];rfl
  ·rfl
  ·rintro i G n ⟨aU,E⟩;have hw:=bG (n:=(i:Int)+1) (by omega) (by omega);have ao:(10:Int) ^ i<=10 ^ 5:=by
    have:=Nat.pow_le_pow_right (n:=10) (by decide) (show i<=5 by omega);grind
   have x4:(10:Int) ^ (i+1)=10 ^ i*10:=Int.pow_succ ..;refine⟨?_,λbe de=>?_⟩
   ·simp only[cY G,if_true,dm G,cI G,A.bo,cp,hw];rw[A.bu (λh=>⟨⟨h,h⟩,trivial,trivial⟩)];by_cases hc:zh x[i]=true
    ·rw[if_pos hc];have oZ:(decide ((x[i].toNat:Int)<48)||decide ((x[i].toNat:Int) > 57))=true:=hc;simp_all
    ·rw[if_neg hc];have oZ:¬(decide ((x[i].toNat:Int)<48)||decide ((x[i].toNat:Int) > 57))=true:=hc;rw[if_neg oZ];simp only[Bool.or_eq_true,decide_eq_true_eq,not_or]at oZ;rw[aaN (by omega) (by omega),bG (n:=(x[i].toNat:Int) - 48) (by omega) (by omega),bG (n:=10*n) (by omega) (by omega),bG (n:=10*n+((x[i].toNat:Int) - 48)) (by omega) (by omega)];rfl
   ·split at de
    ·grind
    ·rename_i hc;unfold zh at hc;grind
  simp
def BY(o:List aL)(c:UInt8):List aL:=if c=32 then o++[[]] else o.set (o.length - 1) (o.getD (o.length - 1) []++[c])
theorem QM:∀ (s:aL) (o:List aL) (w:aL),s.foldl BY (o++[w])=o++(match cF s with | []=>[w] | v::l=>(w++v)::l)
 | [],o,w=>by simp[cF]
 | c::s,o,w=>by
  rw[List.foldl_cons];unfold cF;by_cases hc:c=32
  ·rw[if_pos hc,show BY (o++[w]) c=o++[w]++[[]] from if_pos hc];have:=QM s (o++[w]) [];rw[this];have ai:=vd s;grind
  ·rw[if_neg hc,show BY (o++[w]) c=_ from if_neg hc];have e:(o++[w]).set ((o++[w]).length - 1) ((o++[w]).getD ((o++[w]).length - 1) []++[c])=o++[w++[c]]:=by
    simp
   rw[e];have:=QM s o (w++[c]);rw[this];have ai:=vd s;cases h:cF s with
   | nil=>exact absurd ai.1 (by rw[h];decide)
   | cons v l=>simp
abbrev J5:aN:=⟨.str,tB,λx=>x.length<=10000,cF⟩
theorem asg(x):A.le (Y2 x) (J5.sh x):=A.bw λh=>by
 change x.length<=10000 at h;unfold Y2;show _=A.pure (cF x);rw[A.gw x (λi (o:List aL)=>(x,(i:Int),o,())) (λc o=>.next (BY o c)) (λo=>.next (o,())) (λi o=>1<=o.length/\o.length<=i+1/\∀ w∈o,w.length<=i) [[]] ?_ ⟨by decide,by decide,by simp⟩ ?_ ?_]
 ·rw[fs,A.aG,A.b3];have:=QM x [] [];rw[List.nil_append]at this;rw[this];have ai:=vd x;grind
 ·rfl
 ·rintro i G o ⟨E,U,ag⟩;have hw:=bG (n:=(i:Int)+1) (by omega) (by omega);have gY:=bG (n:=(o.length:Int) - 1) (by omega) (by omega);have ay:((o.length:Int) - 1).toNat=o.length - 1:=by omega
  have aP:((i:Int)+1).toNat=i+1:=by omega
  have ash:o.length - 1<o.length:=by omega
  have aC:o.getD (o.length - 1) []=o[o.length - 1]:=by grind
  have aza:=ag _ (List.getElem_mem ash);have ar:(x.take (i+1)).drop i=[x[i]]:=by rw[List.drop_take,List.drop_eq_getElem_cons G,Nat.add_sub_cancel_left];rfl
  refine⟨?_,λbe de=>?_⟩
  ·simp only[bX,cY G,if_true,dm G,cI G,A.bo,cp,hw,gY,ay,aaM];unfold BY;by_cases hc:x[i]=32
   ·have oZ:decide ((x[i].toNat:Int)=32)=true:=by simp_all
    rw[if_pos oZ,if_pos hc,A.bu (ft (by grind))];simp_all
   ·have oZ:¬decide ((x[i].toNat:Int)=32)=true:=by
     intro h;apply hc;simp only[decide_eq_true_eq]at h;exact UInt8.toNat_inj.1 (show x[i].toNat=32 by omega)
    rw[if_neg oZ,if_neg hc];rw[A.bu (by omega),A.bu (by omega),aP,Int.toNat_natCast,ar,A.bu (ft (by grind)),A.bu (by omega)];simp_all
  ·simp only[V.next.injEq]at de;subst de;unfold BY;grind
 simp
def qh:List aL×z1'×z1':=(kQ.map (·.1),kQ.map (·.2.1),kQ.map λp=>if p.2.2=true then -1 else p.2.1)
abbrev J6:aN:=⟨.cT,.aA tB (.aA fP fP),λ_=>True,λ_=>qh⟩
theorem asi(x):A.le (an7 x) (J6.sh x):=A.bw λ_=>congrArg A.pure (show _=qh by rfl)
def J7(k:Int)(m:Bool)(n:Nat):Bool:=decide ((n:Int)>=k)&&(decide ((if m=true then -1 else k)<(0:Int))||decide ((n:Int)<=if m=true then -1 else k))
def vf(s:aL):aL×z1'×Bool:=
 if ((cF s).drop 1).any (λw=>decide (eZ w<0))=true then ([],[],false) else
 match oB ((cF s).getD 0 []) kQ 0 with
 | none=>([],[],false)
 | some (k,m,_)=>((cF s).getD 0 [],((cF s).drop 1).map eZ,J7 k m ((cF s).drop 1).length)
theorem aaP{aJ:Type}{w:aL}{g:Int->Bool->aJ}{r:aJ}:∀ (l:List (aL×Int×Bool)) (i:Nat),eY (λp (_:Unit)=>if decide (p.1=w)=true then .done (g p.2.1 p.2.2) else .next ()) (λ_=>r) l ()=match oB w l i with | none=>r | some q=>g q.1 q.2.1
 | [],_=>rfl
 | p::l,i=>by
  unfold eY oB;by_cases h:p.1=w
  ·simp[h]
  ·have U:¬w=p.1:=λe=>h e.symm;simp only[h,decide_false,Bool.false_eq_true,if_false,U];exact aaP l (i+1)
abbrev J8:aN:=⟨.str,.aA .str (.aA fP .bool),λx=>x.length<=10000,vf⟩
theorem asj(x):A.le (Y1 J5.sh J4.sh J6.sh x) (J8.sh x):=A.bw λh=>by
 change x.length<=10000 at h;unfold Y1;show _=A.pure (vf x);unfold vf;rw[show J5.sh x=A.pure (cF x) from A.bP h _,A.aG];have ai:=vd x;have ah:List.length x<=10000:=h;have vy:((cF x).drop 1).length=(cF x).length - 1:=by simp
 rw[A.gw ((cF x).drop 1) (λi (o:z1')=>(cF x,((1+i:Nat):Int),o,())) (λw o=>if decide (eZ w<0)=true then .done (.done ([],[],false)) else .next (o++[eZ w])) (λo=>.next (cF x,o,())) (λi o=>o.length=i) [] ?_ rfl ?_ ?_]
 ·rw[QL,A.aG];by_cases a_:((cF x).drop 1).any (λw=>decide (eZ w<0))=true
  ·rw[if_pos a_,if_pos a_];rfl
  ·rw[if_neg a_,if_neg a_,A.b3,yj,List.nil_append];rw[show J6.sh ()=A.pure qh from rfl,A.aG];generalize nk:((cF x).drop 1).map eZ=BZ;have aw:BZ.length=((cF x).drop 1).length:=by grind
   rw[<-aw];rw[A.gw kQ (λi (_:Unit)=>(cF x,qh.1,qh.2.1,qh.2.2,(i:Int),BZ,())) (λp (_:Unit)=>if decide (p.1=(cF x).getD 0 [])=true then .done (.done ((cF x).getD 0 [],BZ,J7 p.2.1 p.2.2 BZ.length)) else .next ()) (λ_=>.next ()) (λ_ _=>True) () ?_ trivial ?_ ?_]
   ·rw[aaP (g:=λk m=>V.done ((cF x).getD 0 [],BZ,J7 k m BZ.length)) kQ 0,A.aG];cases oB ((cF x).getD 0 []) kQ 0<;>rfl
   ·rfl
   ·intro i G _ _;have azb:i<20:=G;have hw:=bG (n:=(i:Int)+1) (by omega) (by omega);have ez:i<qh.1.length:=G;have pr:i<qh.2.1.length:=G;have zq:i<qh.2.2.length:=G;have g1:qh.1[i]'ez=(kQ[i]'G).1:=List.getElem_map ..;have ei:qh.2.1[i]'pr=(kQ[i]'G).2.1:=List.getElem_map ..;have g3:qh.2.2[i]'zq=if (kQ[i]'G).2.2=true then -1 else (kQ[i]'G).2.1:=List.getElem_map ..
    have ao:((0:Int)<=0/\(0:Int)<((cF x).length:Int))=True:=eq_true ⟨by decide,by omega⟩;refine⟨?_,λ_ _=>trivial⟩;simp only[bX,cY ez,if_true,dm ez,dm pr,dm zq,cI ez,cI pr,cI zq,ao,A.bo,cp,hw,g1,ei,g3,show Int.toNat 0=0 from rfl];by_cases hc:decide ((kQ[i]'G).1=(cF x).getD 0 [])=true
    ·rw[if_pos hc,if_pos hc];unfold J7;simp_all
    simp_all
   ·intro _ _;simp[qh]
 ·rfl
 ·intro i G o af;have dA:1+i<(cF x).length:=by omega
  have hw:=bG (n:=((1+i:Nat):Int)+1) (by omega) (by omega);have aC:(cF x)[1+i]=((cF x).drop 1)[i]:=by grind
  refine⟨?_,λbe de=>?_⟩
  ·simp only[bX,cY dA,if_true,dm dA,cI dA,A.bo,cp,hw,aC];rw[show J4.sh ((cF x).drop 1)[i]=A.pure (eZ ((cF x).drop 1)[i]) from rfl,A.aG];by_cases aw:decide (eZ ((cF x).drop 1)[i]<0)=true
   ·simp_all
   ·rw[if_neg aw,if_neg aw,A.bu (ft (by grind))];rfl
  grind
 simp_all
theorem asl{s:aL}(h:s.length<=10000):J8.sh s=A.pure (vf s):=A.bP h _
abbrev zi:aN:=⟨.aA tB tB,.bool,λx=>x.1.length<2 ^ 63,λx=>decide (x.1=x.2)⟩
theorem asm(a b:List aL)(h:a.length=b.length):((List.range a.length).any λi=>decide (a.getD i []≠b.getD i []))=!decide (a=b):=by
 rw[Bool.eq_iff_iff];simp only[List.any_eq_true,List.mem_range,decide_eq_true_eq,Bool.not_eq_true',decide_eq_false_iff_not];constructor
 ·grind
 ·intro eC;refine Classical.byContradiction λfG=>eC (List.ext_getElem h λi E U=>?_);simp_all
theorem asn(x):A.le (Y5 x) (zi.sh x):=A.bw λh=>by
 obtain⟨a,b⟩:=x;change a.length<2 ^ 63 at h;unfold Y5;show _=A.pure (decide (a=b));by_cases ai:a.length=b.length
 ·rw[if_neg (by grind)];rw[A.eu (List.range a.length) (λi (_:Unit)=>(a,b,(i:Int),())) (λi (_:Unit)=>if decide (a.getD i []≠b.getD i [])=true then .done (.done false) else .next ()) (λ_=>.next ()) () ?_ ?_ ?_]
  ·rw[rY,asm a b ai,A.aG];cases decide (a=b)<;>rfl
  ·rfl
  ·intro i G _;have G:i<a.length:=by grind
   have W:i<b.length:=by omega
   have hw:=bG (n:=(i:Int)+1) (by omega) (by omega);simp only[List.getElem_range,bX,cY G,if_true,cI G,cI W,A.bo,cp,hw,Int.toNat_natCast];by_cases hc:decide (a.getD i []≠b.getD i [])=true
   ·rw[if_pos hc,if_pos hc,A.aG,A.aG];rfl
   ·rw[if_neg hc,if_neg hc];rfl
  simp
 ·rw[if_pos (show decide (Int.ofNat a.length≠Int.ofNat b.length)=true by grind),show decide (a=b)=false from decide_eq_false λe=>ai (by rw[e])]
theorem FB{a b:List aL}(h:a.length<2 ^ 63):zi.sh (a,b)=A.pure (decide (a=b)):=A.bP h _
abbrev FC:Type:=Int×Int×Int×Int
def QN(s:aL)(c:FC):FC:=
 if (!(vf s).2.2)=true then c else if decide ((vf s).1=[119,105,115,104])=true then (IntKind.wrap .i64 (c.1+1),c.2)
 else if decide ((vf s).1=[112,105,101,99,101])=true then (c.1,IntKind.wrap .i64 (c.2.1+1),c.2.2.1,IntKind.wrap .i64 (c.2.2.2+IntKind.wrap .i64 (((vf s).2.1.length:Int) - 4)))
 else if decide ((vf s).1=[99,111,109,101,115])=true then (c.1,c.2.1,IntKind.wrap .i64 (c.2.2.1+1),c.2.2.2) else c
def aaQ(d:bb):FC:=((d.1.2.2.2.1.length:Int),(d.1.2.2.1.length:Int),(d.1.2.2.2.2.1.length:Int),d.1.2.2.1.foldl (λn p=>IntKind.wrap .i64 (n+(p.2.2.2.2.length:Int))) 0)
def aso(c:FC):Bool:=decide (c.1 > 3)||decide (c.2.1 > 4)||decide (c.2.2.1 > 3)||decide (c.2.2.2 > 4)
def tF(d:bb)(l:List aL):Bool:=
 if (vc d.1||H.mc d.2||decide ((l.length:Int) > 60))=true then true else if (l.any λs=>decide ((s.length:Int) > 80))=true then true
 else decide (jk d=0)&&aso (l.foldl (λc s=>QN s c) (aaQ d))
abbrev J9(x:bb×List aL):Prop:=fF x.1.1/\H.j7 x.1.2/\x.2.length<2 ^ 63
abbrev J_:aN:=⟨.aA BT tB,.bool,J9,λx=>tF x.1 x.2⟩
theorem asp(x):A.le (Y0 pn.sh Jp.sh H.wz.sh J8.sh x) (J_.sh x):=A.bw λh=>by
 obtain⟨d,l⟩:=x;obtain⟨E,U,ag⟩:J9 (d,l):=h;have iV:d.1.2.2.1.length<2 ^ 63:=E.2.2.1;change l.length<2 ^ 63 at ag;unfold Y0;show _=A.pure (tF d l);unfold tF;rw[show Jp.sh d.1=A.pure (vc d.1) from A.bP E _,A.aG,show H.wz.sh d.2=A.pure (H.mc d.2) from A.bP U _,A.ko,A.aG];have e:(vc d.1||(if (!vc d.1)=true then H.mc d.2 else false)||decide (Int.ofNat l.length > 60))=(vc d.1||H.mc d.2||decide ((l.length:Int) > 60)):=by grind
 rw[e];by_cases au:(vc d.1||H.mc d.2||decide ((l.length:Int) > 60))=true
 ·grind
 ·rw[if_neg au,if_neg au];rw[A.eu d.1.2.2.1 (λi (n:Int)=>(l,(d.1.2.2.2.1.length:Int),(d.1.2.2.1.length:Int),(d.1.2.2.2.2.1.length:Int),n,(i:Int),d,())) (λp n=>.next (IntKind.wrap .i64 (n+(p.2.2.2.2.length:Int)))) (λn=>.next (l,(d.1.2.2.2.1.length:Int),(d.1.2.2.1.length:Int),(d.1.2.2.2.2.1.length:Int),n,d,())) 0 ?_ ?_ ?_]
  ·rw[fs,A.aG,A.b3];rw[A.eu l (λi (c:FC)=>(l,c.1,c.2.1,c.2.2.1,c.2.2.2,(i:Int),d,())) (λs c=>if decide ((s.length:Int) > 80)=true then .done (.done true) else .next (QN s c)) (λc=>.next (c.1,c.2.1,c.2.2.1,c.2.2.2,d,())) (aaQ d) ?_ ?_ ?_]
   ·rw[QL,A.aG];by_cases a_:(l.any λs=>decide ((s.length:Int) > 80))=true
    ·simp_all
    ·rw[if_neg a_,if_neg a_,A.b3];rw[show pn.sh d=A.pure (jk d) from A.bP ⟨E,U⟩ _,A.aG];rfl
   ·rfl
   ·intro i G c;have hw:=bG (n:=(i:Int)+1) (by omega) (by omega);simp only[Prod.cZ,Prod.fb,Prod.gx,bX,cY G,if_true,dm G,cI G,A.bo,cp];by_cases hc:decide ((l[i].length:Int) > 80)=true
    ·simp_all
    ·rw[if_neg hc,if_neg hc];rw[asl (by grind),A.aG];unfold QN;split
     ·simp_all
     ·split
      ·simp_all
      ·split
       ·simp_all
       ·split
        ·rw[A.aG,A.b3];simp only[hw];rfl
        ·rw[A.aG,A.b3];simp only[hw];rfl
   simp
  ·rfl
  ·intro i G n;have hw:=bG (n:=(i:Int)+1) (by omega) (by omega);simp_all
  simp
abbrev FD:aN:=⟨.aA BT (.aA tB (.int .i64)),.bool,λx=>J9 (x.1,x.2.1),λx=>!tF x.1 x.2.1&&decide (jk x.1=0)&&decide ((x.2.1.length:Int)<=x.2.2)⟩
theorem asq(x):A.le (YZ J_.sh pn.sh x) (FD.sh x):=A.bw λh=>by
 obtain⟨d,l,n⟩:=x;obtain⟨E,U,ag⟩:J9 (d,l):=h;unfold YZ;rw[show J_.sh (d,l)=A.pure (tF d l) from A.bP ⟨E,U,ag⟩ _,A.aG,show pn.sh d=A.pure (jk d) from A.bP ⟨E,U⟩ _,A.ko,A.aG];grind
theorem asr{d:bb}{l:List aL}{n:Int}(E:fF d.1)(U:H.j7 d.2)(h:(!tF d l&&decide (jk d=0)&&decide ((l.length:Int)<=n))=true):da d/\(l.length:Int)<=n/\∀ s∈l,s.length<=80:=by
 simp only[Bool.and_eq_true,Bool.not_eq_true',decide_eq_true_eq]at h;obtain⟨⟨au,he⟩,aw⟩:=h;unfold tF at au;split at au
 ·grind
 ·rename_i a_;split at au
  ·grind
  ·rename_i W;simp only[Bool.or_eq_true,not_or,Bool.not_eq_true]at a_;refine⟨aaJ E (H.anM a_.1.2) he,aw,λs aE=>?_⟩;grind
theorem ass:fF po.1/\H.j7 po.2:=⟨aqX,by decide,by decide,by decide,by decide⟩
theorem ast:H.fE po.2:=⟨⟨by decide,by decide,by decide,by decide⟩,λ_=>by decide +kernel⟩
abbrev FE:aN:=⟨.cT,.bool,λ_=>True,λ_=>true⟩
theorem asu:wW po pR=(J3,(h6 (ji po) pR).2,0):=by
 unfold wW;rw[if_neg (by rw[asc];decide),if_neg (by decide),QK.1]
theorem asv(x):A.le (Y4 ve.sh zi.sh J2.sh x) (FE.sh x):=A.bw λ_=>by
 unfold Y4;rw[show J2.sh ()=A.pure po from rfl,A.aG];show A.bind (ve.sh (po,pR)) _=A.pure true;rw[show ve.sh (po,pR)=A.pure (wW po pR) from A.bP ⟨ass.1,ast,by decide,by decide⟩ _,A.aG,asu];show A.bind (cu (decide ((0:Int)=0)) (zi.sh (J3,J3)) false) _=_;rw[FB (by decide),A.ko,A.aG];simp only[bX,QK.2.1,QK.2.2];simp
theorem asw:FE.sh ()=A.pure true:=rfl
theorem asx{d:bb}(ar:da d){l:List aL}(azc:l.length<=40)(ai:∀ s∈l,s.length<=10000):ve.sh (d,l)=A.pure ((h6 (ji d) l).1,(h6 (ji d) l).2,0):=by
 have e:ve.sh (d,l)=A.pure (wW d l):=A.bP ⟨ar.gq,ar.fE,by show l.length<2 ^ 63;omega,ai⟩ _;rw[e];unfold wW;rw[if_neg (by rw[ar.aaq];decide),if_neg (by omega)]
theorem HE{d:bb}{l:List aL}{n:Int}(E:fF d.1)(U:H.j7 d.2)(ag:l.length<2 ^ 63):FD.sh (d,l,n)=A.pure (!tF d l&&decide (jk d=0)&&decide ((l.length:Int)<=n)):=A.bP ⟨E,U,ag⟩ _
end Go.Fer.ax
