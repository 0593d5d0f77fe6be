/- Part 6 of the proof of Dropped: shallow programs of Go functions, and what they compute. No condition. -/
import Derived.Test.YtplfnoecifjgeaaGreatDoorDroppedE
import Derived.Lib.AtoiAll
import Derived.Lib.ItoaLen
import Derived.Lib.Join
noncomputable section
set_option linter.unusedVariables false
set_option linter.unusedSimpArgs false
namespace Go.Fer
open A (W)
def oX(m:z5')(k:Int×Int×Int):Option Int:=Option.map (λx=>x.2) (List.find? (λp=>decide (k.1=p.1.1)&&(decide (k.2.1=p.1.2.1)&&decide (k.2.2=p.1.2.2))) m)
def uJ(m:z4')(k:Int):Option Int:=Option.map (λx=>x.2) (List.find? (λp=>decide (k=p.1)) m)
theorem Ir{a b:Int×Int×Int}:(decide (a.1=b.1)&&(decide (a.2.1=b.2.1)&&decide (a.2.2=b.2.2)))=decide (a=b):=by
 grind
theorem aom(k):oX [] k=none:=rfl
theorem Zc(k:Int×Int×Int)(v:Int)(k':Int×Int×Int):∀ m,oX (vD m k v) k'=if k'=k then some v else oX m k'
 | []=>by
  show oX [(k,v)] k'=_;by_cases h:k'=k<;>simp[oX,Ir,h]
 | p::m=>by
  have aJ:=Zc k v k' m;show oX (if (decide (k.1=p.1.1)&&(decide (k.2.1=p.1.2.1)&&decide (k.2.2=p.1.2.2)))=true then (p.1,v)::m else p::vD m k v) k'=_;rw[Ir];by_cases h:k=p.1
  ·subst h;by_cases de:k'=p.1<;>simp[oX,Ir,de]
  ·simp only[h,decide_false,Bool.false_eq_true,if_false];simp only[oX,Ir,List.find?_cons]at aJ ⊢;grind
theorem Zd(k v k':Int):∀ m,uJ (fb m k v) k'=if k'=k then some v else uJ m k'
 | []=>by
  show uJ [(k,v)] k'=_;by_cases h:k'=k<;>simp[uJ,h]
 | p::m=>by
  have aJ:=Zd k v k' m;show uJ (if decide (k=p.1)=true then (p.1,v)::m else p::fb m k v) k'=_;by_cases h:k=p.1
  ·subst h;by_cases de:k'=p.1<;>simp[uJ,de]
  ·simp only[h,decide_false,Bool.false_eq_true,if_false];simp only[uJ,List.find?_cons]at aJ ⊢;grind
def pK(t:mD):Int×Int×Int:=(t.1,t.2.1,t.2.2.1)
theorem Is{a b:mD}:nj a b=true<->pK a=pK b/\a.2.2.2≠b.2.2.2:=by
 simp only[nj,Bool.and_eq_true,decide_eq_true_eq,pK,Prod.mk.injEq];omega
theorem Ze(l:List mD):n2 l=true<->l.Pairwise λa b=>nj a b=false:=by
 unfold n2;rw[List.pairwise_iff_getElem];simp only[List.all_eq_true,List.mem_range,Bool.not_eq_true'];grind
def It(m:z5')(pre:List mD):Prop:=∀ k v,oX m k=some v<->(∃ t∈pre,pK t=k/\t.2.2.2=v)
def Ew(m:z5')(t:mD):Bool:=Option.isSome (oX m (pK t))&&decide (Option.getD (oX m (pK t)) 0≠t.2.2.2)
theorem Zf{m pre}(h:It m pre)(ao:pre.Pairwise λa b=>nj a b=false)(t:mD):Ew m t=true<->∃ a∈pre,nj a t=true:=by
 unfold Ew;cases ak:oX m (pK t) with
 | none=>
  simp only[Option.isSome_none,Bool.false_and,Bool.false_eq_true,false_iff];rintro⟨a,bb,hc⟩;have:=(h (pK t) a.2.2.2).2 ⟨a,bb,(Is.1 hc).1,rfl⟩;grind
 | some v=>
  simp only[Option.isSome_some,Bool.true_and,Option.getD_some,decide_eq_true_eq];obtain⟨b,aa,an,af⟩:=(h _ _).1 ak;constructor
  ·intro eD;exact⟨b,aa,Is.2 ⟨an,by omega⟩⟩
  ·rintro⟨a,bb,hc⟩ rfl;obtain⟨bF,c2⟩:=Is.1 hc;have:=(h (pK t) a.2.2.2).2 ⟨a,bb,bF,rfl⟩;grind
theorem aon{m pre}(h:It m pre){t:mD}(aa:∀ a∈pre,nj a t=false):It (vD m (pK t) t.2.2.2) (pre++[t]):=by
 intro k v;rw[Zc];by_cases an:k=pK t
 ·rw[if_pos an];constructor
  ·grind
  ·rintro⟨a,bb,E,U⟩;rcases List.mem_append.1 bb with bb | bb
   ·have hc:=aa a bb;have:¬nj a t=true:=by grind
    rw[Is]at this;grind
   grind
 ·rw[if_neg an,h];grind
theorem Zg:∀ (ch:List mD) (m) (pre:List mD),It m pre->(pre.Pairwise λa b=>nj a b=false)->
  e0 (λt m=>if Ew m t=true then (.done (.done 71):W _ (W Unit Int)) else .next (vD m (pK t) t.2.2.2)) (λ_=>.next ()) ch m=if n2 (pre++ch)=true then .next () else .done 71
 | [],m,pre,h,ao=>by
  have:=(Ze pre).2 ao;simp[e0,this]
 | t::ch,m,pre,h,ao=>by
  simp only[e0];by_cases aa:Ew m t=true
  ·simp only[aa,if_true];obtain⟨a,bb,hc⟩:=(Zf h ao t).1 aa;have:¬n2 (pre++t::ch)=true:=by
    rw[Ze,List.pairwise_append];grind
   grind
  ·have aA:∀ a∈pre,nj a t=false:=λa bb=>by
    have:=λhc=>aa ((Zf h ao t).2 ⟨a,bb,hc⟩);grind
   simp only[aa,Bool.false_eq_true,if_false];have B_:(pre++[t]).Pairwise λa b=>nj a b=false:=by
    grind
   have:=Zg ch _ (pre++[t]) (aon h aA) B_;grind
theorem aoo(w:bo)(h:gQ w):Nx s4.sh w=A.pure (cP w):=by
 have aD:=h;obtain⟨E,U,ah,aZ⟩:=h;unfold Nx;simp only[aP.sh,s4,A.dJ,A.bz aD];unfold cP;cases hw:k0 w with
 | false=>simp
 | true=>
  simp only[Bool.not_true,Bool.false_eq_true,if_false,if_true];rw[A.dL w.2.2.2 (λi (m:z5')=>(w.2.2.2,(w.2.2.2.length:Int),(i:Int),m,())) (λt m=>if Ew m t=true then (.done (.done 71):W _ (W Unit Int)) else .next (vD m (pK t) t.2.2.2)) (λ_=>.next ()) [] ?_ ?_ ?_]
  ·rw[Zg w.2.2.2 [] [] (λk v=>by simp[aom]) (by simp)];simp only[List.nil_append];by_cases aK:n2 w.2.2.2=true<;>simp[aK]
  ·rfl
  ·intro i G m;have h4:=bC (n:=(i:Int)+1) (by omega) (by omega);simp only[bW,cZ G,if_true,dm G,cL G,A.br,A.aH,cm,h4];exact Vr (mk:=λm=>(w.2.2.2,(w.2.2.2.length:Int),(i:Int)+1,m,()))
  simp
theorem aop(x):A.le (Nx s4.sh x) (h2.sh x):=A.bw λh=>aoo x h
theorem aoq(w:bo)(i n m k:Int)(hw:qD w)(G:g_ w i=true)(hm:iO w m k=true):VL ct.sh oQ.sh (w,i,n,m,k)=A.pure (wa w i n m k):=an7 w i n m k hw G hm
theorem aor(x):A.le (VL ct.sh oQ.sh x) (Es.sh x):=A.bw λh=>aoq x.1 x.2.1 x.2.2.1 x.2.2.2.1 x.2.2.2.2 h.1 h.2.1 h.2.2
abbrev yk:aP:=⟨.az jW (.az (.bH bx) (.az (.bH kE) (.bH bx))),dk,λx=>∃ i w n,x.2=(some i,some w,some n)/\qD w/\g_ w i=true/\iO w x.1.2.1 x.1.2.2.1=true,λx=>uH (x.2.2.1.getD ([],[],0,[])) (x.2.1.getD 0) (x.2.2.2.getD 0) x.1⟩
theorem aos(x):A.le (VK Es.sh x) (yk.sh x):=A.bw λh=>by
 obtain⟨t,o⟩:=x;obtain⟨i,w,n,ar,hw,G,hm⟩:=h;change o=_ at ar;subst ar;unfold VK;simp only[aP.sh,A.n3,A.gN,Option.getD_some,and_true,true_and,and_self,imp_self,A.br,ne_eq];by_cases aK:t.1=i
 ·have ao:qD w/\g_ w i=true/\iO w t.2.1 t.2.2.1=true:=⟨hw,G,hm⟩
  simp[uH,aK,ao,A.bz ao]
 ·simp[uH,aK]
def pL(w:bo):List (z1'):=(List.range w.1.length).map λ(i:Nat)=>ha w (i:Int)
def ft(w:bo)(cb:Bool):Option qu×Int:=if eK w cb≠0 then (none,eK w cb) else (some (w,pL w),0)
abbrev A':aP:=⟨.az kE dk,.az (.bH (.st (.az kE (.slice fP)))) bx,λx=>gQ x.1,λx=>ft x.1 x.2⟩
theorem aot{w:bo}{i:Int}:ha w i=(ev (gG w i).2.2.1 (gG w i).2.2.2).filter λn=>w.2.2.2.all (uH w i n):=by
 unfold ha;refine List.filter_congr λn aA=>?_;rw[sG]at aA;simp[Pc,aA]
theorem Zh{w:bo}:∀ (l:List Nat) (acc:List (z1')),e0 (λ(i:Nat) (acc:List (z1'))=>if decide (((ha w (i:Int)).length:Int)=0)=true then (.done (.done (none,(3:Int))):W _ (W (List Ii×List (List v8)×Int×List mD×List (z1')×Unit) (Option qu×Int))) else .next (acc++[ha w (i:Int)])) (λacc=>.next (w.1,w.2.1,w.2.2.1,w.2.2.2,acc,())) l acc
  =if (l.all λ(i:Nat)=>!decide (((ha w (i:Int)).length:Int)=0))=true then .next (w.1,w.2.1,w.2.2.1,w.2.2.2,acc++l.map (λ(i:Nat)=>ha w (i:Int)),()) else .done (none,3)
 | [],acc=>by simp[e0]
 | i::l,acc=>by
  simp only[e0,List.all_cons,List.map_cons];by_cases h:((ha w (i:Int)).length:Int)=0
  ·simp[h]
  ·simp only[h,decide_false,Bool.false_eq_true,if_false,Bool.not_false,Bool.true_and];rw[Zh l];simp
theorem aou(w:bo)(cb:Bool)(h:gQ w):NB h2.sh (jz jW).sh yk.sh (w,cb)=A.pure (ft w cb):=by
 unfold NB ft eK;simp only[aP.sh,A.dJ,A.bz h];by_cases hc:cP w=0
 ·have hw:qD w:=⟨h,Pd hc⟩
  have aov:=Er hw.2;simp only[hc,ne_eq,not_true,decide_false,Bool.false_eq_true,if_false];cases cb with
  | false=>simp
  | true=>
   simp only[Bool.not_true,Bool.false_eq_true,if_false,Bool.true_eq_false];rw[A.f_ (List.range w.1.length) (λi (acc:List (z1'))=>(w.1,(w.1.length:Int),(i:Int),w,w.1,w.2.1,w.2.2.1,w.2.2.2,acc,())) (λ(i:Nat) (acc:List (z1'))=>if decide (((ha w (i:Int)).length:Int)=0)=true then (.done (.done (none,(3:Int))):W _ (W (List Ii×List (List v8)×Int×List mD×List (z1')×Unit) (Option qu×Int))) else .next (acc++[ha w (i:Int)])) (λacc=>.next (w.1,w.2.1,w.2.2.1,w.2.2.2,acc,())) (λi acc=>acc.length<=i) [] ?_ ?_ ?_ ?_]
   ·rw[Zh];have e:((List.range w.1.length).all λ(i:Nat)=>!decide (((ha w (i:Int)).length:Int)=0))=wb w:=rfl;rw[e];by_cases aK:wb w=true<;>simp[aK,pL]
   ·rfl
   ·simp
   ·intro i G acc Pe;have G:i<w.1.length:=by grind
    have n0:=an8 G;have ak:=Y8 hw.2 n0;have h4:=bC (n:=(i:Int)+1) (by omega) (by omega);have aC:w.1[i]=gG w (i:Int):=by simp[gG,List.getD_eq_getElem?_getD,G]
    refine⟨?_,λbe aa=>?_⟩
    ·simp only[bW,cZ G,if_true,dm G,cL G,A.br,aC,List.getElem_range];rw[A.f_ (ev (gG w (i:Int)).2.2.1 (gG w (i:Int)).2.2.2) (λk (l:z1')=>(w.1,(w.1.length:Int),(i:Int),w,(i:Int),gG w (i:Int),l,(gG w (i:Int)).2.2.1+(k:Int),w.1,w.2.1,w.2.2.1,w.2.2.2,acc,())) (λn l=>.next (if w.2.2.2.all (uH w (i:Int) n)=true then l++[n] else l)) (λl=>.next (w.1,(w.1.length:Int),(i:Int),w,l,w.1,w.2.1,w.2.2.1,w.2.2.2,acc,())) (λk l=>l.length<=k) [] ?_ ?_ ?_ ?_]
     ·rw[ej,Vp];simp only[A.aH,A.b2,List.nil_append];rw[<-aot];by_cases bk:((ha w (i:Int)).length:Int)=0
      ·simp[bk]
      ·have lP:b6 (acc.length+(0+1)):=by unfold b6;omega
       simp_all
     ·simp
     ·simp
     ·intro k an l aow;have vN:k<1000:=by rw[xX]at an;omega
      have r_:(gG w (i:Int)).2.2.1+(k:Int)<=(gG w (i:Int)).2.2.2:=by rw[xX]at an;omega
      have Ex:=bC (n:=(gG w (i:Int)).2.2.1+((k:Int)+1)) (by omega) (by omega);have lP:b6 (l.length+(0+1)):=by unfold b6;omega
      refine⟨?_,λbe aa=>?_⟩
      ·have lL:∀ t∈w.2.2.2,yk.sh (t,some (i:Int),some w,some ((gG w (i:Int)).2.2.1+(k:Int)))=A.pure (uH w (i:Int) ((gG w (i:Int)).2.2.1+(k:Int)) t):=λt aK=>A.bR ⟨_,_,_,rfl,hw,n0,(an6 hw.2 aK).2⟩ _;simp only[r_,decide_true,if_true,DI];rw[A.bz (by exact⟨h.2.2.1,λt aK=>⟨_,lL t aK⟩⟩)];have e:(w.2.2.2.all λy=>(A.dI (yk.pre (y,some (i:Int),some w,some ((gG w (i:Int)).2.2.1+(k:Int)))) (yk.g (y,some (i:Int),some w,some ((gG w (i:Int)).2.2.1+(k:Int))))).val false)=w.2.2.2.all (uH w (i:Int) ((gG w (i:Int)).2.2.1+(k:Int))):=Io λt aK=>A.gN;rw[e];by_cases aa:w.2.2.2.all (uH w (i:Int) ((gG w (i:Int)).2.2.1+(k:Int)))=true
       ·simp only[aa,if_true,cm,hM,A.bz lP,A.aH,A.b2,Ex,W.ho,Int.natCast_add,Int.natCast_one,Int.add_assoc]
       ·simp only[aa,Bool.false_eq_true,if_false,cm,hM,A.aH,A.b2,Ex,W.ho,Int.natCast_add,Int.natCast_one,Int.add_assoc]
      grind
     ·intro l aow;have:¬(gG w (i:Int)).2.2.1+((ev (gG w (i:Int)).2.2.1 (gG w (i:Int)).2.2.2).length:Int)<=(gG w (i:Int)).2.2.2:=by rw[xX];omega
      simp only[this,decide_false,Bool.false_eq_true,if_false,A.aH]
    grind
   simp
 grind
theorem aox(x):A.le (NB h2.sh (jz jW).sh yk.sh x) (A'.sh x):=A.bw λh=>aou x.1 x.2 h
theorem aoy(x):A.le (VM x) (Im.sh x):=A.bw λ_=>by
 unfold VM;simp only[Il,decide_eq_true_eq];grind
theorem Zi(w:bo):(pL w).length=w.1.length:=by simp[pL]
theorem Pf{w:bo}{i:Int}(h:g_ w i=true):List.getD (pL w) i.toNat []=ha w i:=by
 rw[uE]at h;have:i.toNat<w.1.length:=by omega
 have e:((i.toNat:Nat):Int)=i:=by omega
 simp[pL,List.getD_eq_getElem?_getD,this,e]
abbrev aoz:ad:=.bH (.st (.az kE (.slice fP)))
def aoA(o:Option qu)(w:bo):Prop:=o=some (w,pL w)/\qD w
abbrev Iu:aP:=⟨.az aoz (.az bx (.az bx bx)),bx,λx=>∃ w,aoA x.1 w/\g_ w x.2.1=true/\iO w x.2.2.1 x.2.2.2=true,λx=>uI ((x.1.getD (([],[],0,[]),[])).1) x.2.1 x.2.2.1 x.2.2.2⟩
theorem aoB(w:bo)(i m k:Int)(hw:qD w)(G:g_ w i=true)(hm:iO w m k=true):NC Es.sh Im.sh (some (w,pL w),i,m,k)=A.pure (uI w i m k):=by
 unfold NC;have lP:=Y9 hw G;have cj:0<=i/\i<((pL w).length:Int):=by rw[Zi];exact uE.1 G
 simp only[Option.isSome_some,Option.getD_some,A.br,bW,Pf G,A.bz cj];rw[A.f_ (ha w i) (λj (n:Int)=>(some (w,pL w),i,m,k,n,ha w i,((ha w i).length:Int),(j:Int),())) (λx n=>.next (if wa w i x m k=true then n+1 else n)) (λn=>.next (some (w,pL w),i,n,())) (λj n=>0<=n/\n<=(j:Int)) 0 ?_ ?_ ?_ ?_]
 ·rw[ej,Y'];simp only[A.aH,A.b2,Option.isSome_some,Option.getD_some,A.br,A.bz cj,Pf G,aP.sh,A.dJ,Int.zero_add];rfl
 ·rfl
 ·simp
 ·intro j aG n aA;have aoC:=bC (n:=(j:Int)+1) (by omega) (by omega);have Ba:=bC (n:=n+1) (by omega) (by omega);have ao:qD w/\g_ w i=true/\iO w m k=true:=⟨hw,G,hm⟩
  refine⟨?_,λbe aa=>?_⟩
  ·simp only[cZ aG,if_true,dm aG,cL aG,A.br,Option.isSome_some,Option.getD_some,aP.sh,A.dJ,A.bz ao,cm,Ba];cases wa w i (ha w i)[j] m k<;>simp[aoC]
  grind
 simp
theorem aoD(x):A.le (NC Es.sh Im.sh x) (Iu.sh x):=A.bw λh=>by
 obtain⟨o,i,m,k⟩:=x;obtain⟨w,⟨ar,hw⟩,G,hm⟩:=h;change o=_ at ar;subst ar;exact aoB w i m k hw G hm
theorem Zj{w:bo}{cb:Bool}(h:eK w cb=0):ft w cb=(some (w,pL w),0):=by simp[ft,h]
theorem Zk{w:bo}{cb:Bool}(h:eK w cb≠0):ft w cb=(none,eK w cb):=by simp[ft,h]
theorem aoE(w:bo)(i:Int)(h:gQ w):Ny A'.sh pI.sh (w,i)=A.pure (wc w i):=by
 unfold Ny wc;simp only[aP.sh,A.n3,A.gN,h,A.br];by_cases an:eK w (g_ w i)=0
 ·have hw:=Y_ h an;have G:=(Et an).2.1;have ao:=an9 (Et an).2.2 G;have lP:=Y9 hw G;have h4:=bC (n:=((ha w i).length:Int) - 1) (by omega) (by omega);have ay:(((ha w i).length:Int) - 1).toNat=(ha w i).length - 1:=by omega
  have sD:0<=i/\i<((pL w).length:Int):=by rw[Zi];exact uE.1 G
  have cj:(0:Int)<=0/\(0:Int)<((ha w i).length:Int):=by omega
  have cK:(0:Int)<=((ha w i).length:Int) - 1/\((ha w i).length:Int) - 1<((ha w i).length:Int):=by omega
  simp only[Zj an,an,ne_eq,not_true,decide_false,Bool.false_eq_true,if_false,Option.isSome_some,Option.getD_some,A.br,bW,Pf G,A.bz sD,h4,ay,A.bz cK];simp_all
 ·simp[Zk an,an]
theorem aoF(x):A.le (Ny A'.sh pI.sh x) (yi.sh x):=A.bw λh=>aoE x.1 x.2 h
theorem aoG(w:bo)(i m k:Int)(h:gQ w):Nz A'.sh pI.sh rG.sh Iu.sh (w,i,m,k)=A.pure (qE w i m k):=by
 unfold Nz qE;simp only[aP.sh,A.n3,A.gN,h,A.br,and_true,and_self,imp_self,true_and];by_cases an:eK w (g_ w i&&iO w m k)=0
 ·have hw:=Y_ h an;have G:=(Et an).2.1;simp only[Bool.and_eq_true]at G;simp only[Zj an,an,ne_eq,not_true,decide_false,Bool.false_eq_true,if_false,A.dJ];rw[A.bz (by exact⟨w,⟨rfl,hw⟩,G.1,G.2⟩)];rfl
 ·simp[Zk an,an]
theorem aoH(x):A.le (Nz A'.sh pI.sh rG.sh Iu.sh x) (A8.sh x):=A.bw λh=>aoG x.1 x.2.1 x.2.2.1 x.2.2.2 h
theorem Pg{n:Int}(E:0<=n)(U:n<18446744073709551616):IntKind.u64.wrap n=n:=by
 show (if (false&&decide (n % 2 ^ 64>=(2 ^ (64 - 1):Int)))=true then n % 2 ^ 64 - 2 ^ 64 else n % 2 ^ 64)=n;grind
theorem Zl:∀ (n:Nat) (l:z1'),l.Nodup->(∀ x∈l,0<=x/\x<(n:Int))->l.length<=n
 | 0,l,_,h=>by
  cases l with
  | nil=>simp
  | cons x l=>have:=h x (by simp);omega
 | n+1,l,aA,h=>by
  have U:=Zl n (l.erase (n:Int)) (aA.erase _) λx ai=>by
   grind
  grind
theorem A.aoI{D aI:Type}{body:D->A (W D aI)}{p:aI->Prop}{s0:D}(n:Nat)(I:Nat->D->Prop)(aX:I 0 s0)
  (aD:∀ i,i<n->∀ s,I i s->A.cw (body s) λst=>match st with | .next s'=>I (i+1) s' | .done r=>p r)
  (ar:∀ s,I n s->A.cw (body s) λst=>match st with | .next _=>False | .done r=>p r):A.cw (A.loop body s0) p:=by
 have key:∀ k i s,n - i=k->i<=n->I i s->A.cw (A.loop body s) p:=by
  intro k;induction k with
  | zero=>
   intro i s an G h;have:i=n:=by omega
   subst this;rw[A.BN,A.fX];refine (ar s h).mono λy aS=>?_;cases y with
   | next s'=>grind
   | done r=>exact A.d'.2 aS
  | succ k aJ=>
   intro i s an G h;rw[A.BN,A.fX];refine (aD i (by omega) s h).mono λy aS=>?_;cases y with
   | next s'=>grind
   | done r=>exact A.d'.2 aS
 grind
def Ph(x:Int×Int):Int:=IntKind.wrap .u64
 (Add.add (IntKind.wrap .u64 (Add.add (IntKind.wrap .u64 (ji .u64 x.1 32*ji .u64 x.2 32)) (ji .u64 (IntKind.wrap .u64 (Add.add (IntKind.wrap
 .u64 (ji .u64 x.1 32*lI .u64 x.2 4294967295)) (ji .u64 (IntKind.wrap .u64 (lI .u64 x.1 4294967295*lI .u64 x.2 4294967295)) 32))) 32)))
 (ji .u64 (IntKind.wrap .u64 (Add.add (lI .u64 (IntKind.wrap .u64 (Add.add (IntKind.wrap .u64 (ji .u64 x.1 32*lI .u64 x.2 4294967295)) (ji
 .u64 (IntKind.wrap .u64 (lI .u64 x.1 4294967295*lI .u64 x.2 4294967295)) 32))) 4294967295) (IntKind.wrap .u64 (lI .u64 x.1 4294967295*ji
 .u64 x.2 32)))) 32))
def Iv:Nat->Bool
 | 0=>true
 | n+1=>decide (Ph (1,(n:Int))=0)&&Iv n
theorem Zm:∀ (N n:Nat),Iv N=true->n<N->Ph (1,(n:Int))=0
 | 0,n,_,h=>by omega
 | N+1,n,hc,h=>by
  simp only[Iv,Bool.and_eq_true,decide_eq_true_eq]at hc;by_cases e:n=N
  ·grind
  ·exact Zm N n hc.2 (by omega)
theorem aoJ{al β aI:Type}{f:al->β->W β aI}{fin:β->aI}(I:Nat->β->Prop)(Q:aI->Prop)(l:List al)(b:β)(aX:I 0 b)
  (aD:∀ i (h:i<l.length) b,I i b->match f l[i] b with | .next be=>I (i+1) be | .done r=>Q r) (ar:∀ b,I l.length b->Q (fin b)):Q (e0 f fin l b):=by
 have key:∀ (k:Nat) (r:List al) (b:β),k<=l.length->r=l.drop k->I k b->Q (e0 f fin r b):=by
  intro k r;induction r generalizing k with
  | nil=>
   intro b an M eA;have:k=l.length:=by have:=congrArg List.length M;grind
   subst this;exact ar b eA
  | cons x r aJ=>
   intro b an M eA;have cc:k<l.length:=by
    grind
   rw[List.drop_eq_getElem_cons cc]at M;injection M with ai M
   have E:=aD k cc b eA;rw[<-ai]at E;simp only[e0];grind
 grind
def cU(m:z4')(k:Int):Int:=(uJ m k).getD 0
theorem aoK(m:z4')(k:Int):Option.getD (Option.map (λx=>x.2) (List.find? (λp=>decide (k=p.1)) m)) 0=cU m k:=rfl
theorem Bb(k v k':Int)(m:z4'):cU (fb m k v) k'=if k'=k then v else cU m k':=by
 unfold cU;rw[Zd];grind
def rI(n:Nat)(m:z4'):Nat:=(List.range n).countP λ(s:Nat)=>decide (cU m (s:Int)=0)
theorem Zn{p q:Nat->Bool}{s:Nat}(h:∀ x,x≠s->p x=q x)(ao:p s=true)(bq:q s=false):∀ (l:List Nat),l.Nodup->s∈l->l.countP p=l.countP q+1
 | [],_,aD=>by cases aD
 | x::l,aA,aD=>by
  rw[List.nodup_cons]at aA;rw[List.countP_cons,List.countP_cons];by_cases e:x=s
  ·subst e;have:l.countP p=l.countP q:=List.countP_congr λy aS=>by
    grind
   grind
  ·have:=Zn h ao bq l aA.2 (by grind);grind
theorem Zo{n:Nat}{m:z4'}{s v:Int}(aX:0<=s)(aA:s<(n:Int))(hm:cU m s=0)(af:v≠0):rI n m=rI n (fb m s v)+1:=by
 unfold rI;refine Zn (s:=s.toNat) (λx ai=>?_) ?_ ?_ _ List.nodup_range (by grind)
 ·rw[Bb,if_neg (by omega)]
 ·grind
 ·rw[Bb,if_pos (by omega)];grind
theorem Zp{n:Nat}{a b:z4'}(h:∀ k,0<=cU a k/\cU a k<=cU b k):rI n b<=rI n a:=by
 unfold rI;refine List.countP_mono_left λx _ ai=>?_;grind
abbrev k1:=z1'×z4'
def W.uK{β aI jr:Type}(g:aI->jr):W β aI->W β jr
 | .next b=>.next b
 | .done r=>.done (g r)
def yl{al β aI:Type}(f:al->β->W β aI):List al->β->W β aI
 | [],b=>.next b
 | x::l,b=>match f x b with
  | .next be=>yl f l be
  | .done r=>.done r
def W.fin{β aI:Type}(n:β->aI):W β aI->aI
 | .next b=>n b
 | .done r=>r
theorem Pj{al β aI:Type}{f:al->β->W β aI}{n:β->aI}:∀ (l:List al) (b:β),e0 f n l b=W.fin n (yl f l b)
 | [],b=>rfl
 | x::l,b=>by
  simp only[e0,yl];cases f x b with
  | next be=>exact Pj l be
  | done r=>rfl
theorem Zq{al β aI jr:Type}{f:al->β->W β aI}{g:aI->jr}:∀ (l:List al) (b:β),yl (λx b=>W.uK g (f x b)) l b=W.uK g (yl f l b)
 | [],b=>rfl
 | x::l,b=>by
  simp only[yl];cases f x b with
  | next be=>exact Zq l be
  | done r=>rfl
def aoL(w:bo):Prop:=w.1.length<=2000000/\w.2.1.length<=2000000/\w.2.2.2.length<=2000000/\∀ m∈w.2.1,m.length<=2000000/\∀ s∈m,s.2.1.length<=2000000
def ym(m:List (Int×z1'×Int×Int)):Bool:=decide ((m.length:Int) > 20)||m.any λs=>decide ((s.2.1.length:Int) > 20)
def l4(w:bo):Bool:=
 if (decide ((w.1.length:Int) > 40)||decide ((w.2.1.length:Int) > 40)||decide ((w.2.2.2.length:Int) > 60))=true then true
 else if w.2.1.any ym=true then true
 else if cP w≠0 then false
 else if (w.1.any λs=>decide (IntKind.i64.wrap (s.2.2.2 - s.2.2.1)>=50))=true then true
 else decide ((w.1.length:Int) > 6)||decide ((w.2.1.length:Int) > 4)||decide ((w.2.2.2.length:Int) > 10)
abbrev vY:aP:=⟨kE,dk,gQ,l4⟩
theorem aoM(w:bo)(h:gQ w):NF h2.sh w=A.pure (l4 w):=by
 unfold NF l4;simp only[bW];by_cases E:(decide ((w.1.length:Int) > 40)||decide ((w.2.1.length:Int) > 40)||decide ((w.2.2.2.length:Int) > 60))=true
 ·grind
 ·rw[if_neg E,if_neg E];have ak:=h;obtain⟨du,dF,ou,uL⟩:=h;rw[A.dL w.2.1 (λi (_:Unit)=>((i:Int),w,())) (λm u=>if ym m=true then .done (.done true) else .next u) (λ_=>.next (w,())) () ?_ ?_ ?_]
  ·rw[rv];by_cases U:w.2.1.any ym=true
   ·simp only[U,if_true,A.aH,A.pw]
   ·simp only[U,Bool.false_eq_true,if_false,A.aH,A.b2,aP.sh,A.dJ,A.bz ak];by_cases ah:cP w=0
    ·simp only[ah,ne_eq,not_true,decide_false,Bool.false_eq_true,if_false];rw[A.dL w.1 (λi (_:Unit)=>((i:Int),w,())) (λs u=>if decide (IntKind.i64.wrap (s.2.2.2 - s.2.2.1)>=50)=true then .done (.done true) else .next u) (λ_=>.next (w,())) () ?_ ?_ ?_]
     ·rw[rv];by_cases aZ:(w.1.any λs=>decide (IntKind.i64.wrap (s.2.2.2 - s.2.2.1)>=50))=true
      ·simp_all
      ·simp only[aZ,Bool.false_eq_true,if_false,A.aH,A.b2]
     ·rfl
     ·intro i G u;have lx:=bC (n:=(i:Int)+1) (by omega) (by omega);simp only[bW,cZ G,if_true,cL G,A.br,dm G,A.aH,cm,lx];exact na (mk:=λ_:Unit=>((i:Int)+1,w,()))
     simp
    grind
  ·rfl
  ·intro i G u;have lx:=bC (n:=(i:Int)+1) (by omega) (by omega);have hm:=uL _ (List.getElem_mem G);simp only[bW,cZ G,if_true,cL G,A.br,dm G,A.aH];by_cases bM:decide ((w.2.1[i].length:Int) > 20)=true
   ·have ar:ym w.2.1[i]=true:=by unfold ym;grind
    simp_all
   ·have ar:ym w.2.1[i]=w.2.1[i].any λs=>decide ((s.2.1.length:Int) > 20):=by unfold ym;grind
    rw[if_neg bM];rw[A.dL w.2.1[i] (λk (_:Unit)=>((i:Int),(k:Int),w,())) (λs u=>if decide ((s.2.1.length:Int) > 20)=true then .done (.done (.done (.done true))) else .next u) (λ_=>.next ((i:Int),w,())) () ?_ ?_ ?_]
    ·rw[rv,ar];by_cases dt:(w.2.1[i].any λs=>decide ((s.2.1.length:Int) > 20))=true
     ·simp_all
     ·simp only[dt,Bool.false_eq_true,if_false,A.aH,A.b2,cm,lx];rfl
    ·rfl
    ·intro k an u;have mC:=bC (n:=(k:Int)+1) (by omega) (by omega);simp only[cL G,A.br,dm G,cZ an,if_true,cL an,dm an,A.aH,cm,mC];exact na (mk:=λ_:Unit=>((i:Int),(k:Int)+1,w,()))
    simp_all
  simp
theorem aoN(x):A.le (NF h2.sh x) (vY.sh x):=A.bw λh=>aoM x h
def Iw:bo:=([(1,2,300,310),(1,3,305,305),(2,1,50,60),(1,2,320,330)],[[(1,[2,3],300,306),(2,[1],40,58)],[(1,[2],310,326)]],5,[(0,1,0,0)])
abbrev Pk:aP:=⟨.cV,kE,λ_=>True,λ_=>Iw⟩
theorem aoO(x):A.le (ajQ x) (Pk.sh x):=A.bw λ_=>rfl
theorem aoP:gQ Iw:=by
 refine⟨by decide,by decide,by decide,?_⟩;intro m hm;simp only[Iw,List.mem_cons,List.not_mem_nil,or_false]at hm;grind
abbrev nk:ad:=.st (.az bx (.az bx (.az bx (.az bx fP))))
abbrev mE:ad:=.st (.az fP (.az mA (.az bx (.az bx bx))))
abbrev pM:ad:=.st (.az bx (.az bx bx))
abbrev l5:ad:=.st (.az kE (.az fP (.az (.slice nk) (.az (.slice mE) (.az (.slice pM) bx)))))
def fx(s:bI):Prop:=gQ s.1/\s.2.1.length<2 ^ 63/\s.2.2.1.length<2 ^ 63/\s.2.2.2.1.length<2 ^ 63/\s.2.2.2.2.1.length<2 ^ 63/\(∀ p∈s.2.2.1,p.2.2.2.2.length<2 ^ 63)/\∀ x∈s.2.2.2.1,x.1.length<2 ^ 63
def b4(n aT G:Int):Bool:=decide (aT<=n)&&decide (n<=G)
def jX(n:Int):Bool:=b4 n 0 99
def jY(p:Int->Bool)(l:z1'):Bool:=(List.range l.length).all λi=>p (l.getD i 0)&&!(decide (0<i)&&decide (l.getD i 0<=l.getD (i - 1) 0))
def Ey(w:bo)(m:Int)(n:Int):Bool:=decide (0<=n)&&decide (n<((jy w m).length:Int))
def pN(w:bo)(p:dy):Bool:=jX p.1&&jX p.2.1&&jX p.2.2.1&&n8 w p.2.2.2.1&&jY (Ey w p.2.2.2.1) p.2.2.2.2
def oY(x:dN):Bool:=b4 (x.1.length:Int) 1 8&&jY jX x.1&&jX x.2.1.1&&jX x.2.1.2&&decide (x.2.1.1<=x.2.1.2)&&jX x.2.2.1&&jX x.2.2.2.1&&b4 x.2.2.2.2 0 100000
def oZ(w:bo)(d:DO):Bool:=jX d.1&&g_ w d.2.1&&b4 d.2.2 1 10
def nl(s:bI):Bool:=decide ((s.2.1.length:Int)=(s.1.1.length:Int))&&(s.2.1.all λn=>b4 n 0 10)&&decide ((s.2.2.1.length:Int)<=8)&&s.2.2.1.all (pN s.1)&&decide ((s.2.2.2.1.length:Int)<=6)&&s.2.2.2.1.all oY&&decide ((s.2.2.2.2.1.length:Int)<=8)&&s.2.2.2.2.1.all (oZ s.1)&&jX s.2.2.2.2.2
def jf(s:bI):Int:=if cP s.1≠0 then cP s.1 else if nl s=true then 0 else 80
theorem aoQ(x):A.le (aka x) (ct.sh x):=A.bw λ_=>rfl
theorem aoR(x):A.le (aj6 x) (ct.sh x):=A.bw λ_=>rfl
abbrev rJ:aP:=⟨bx,dk,λ_=>True,jX⟩
theorem aoS(x):A.le (V5 ct.sh x) (rJ.sh x):=A.bw λ_=>by
 unfold V5;simp[aP.sh,ct,jX,b4]
theorem aoT(x):A.le (V9 ct.sh x) (rJ.sh x):=A.bw λ_=>by
 unfold V9;simp[aP.sh,ct,jX,b4]
abbrev Ix:aP:=⟨.az fP (.fn bx .bool),dk,λx=>x.1.length<2 ^ 63/\∀ y∈x.1,∃ b,x.2 y=A.pure b,λx=>jY (λy=>(x.2 y).val false) x.1⟩
theorem aoU(x):A.le (V6 x) (Ix.sh x):=A.bw λh=>by
 obtain⟨l,f⟩:=x;obtain⟨E,U⟩:=h;change l.length<2 ^ 63 at E;change ∀ y∈l,∃ b,f y=A.pure b at U;unfold V6;rw[A.dL (List.range l.length) (λi (_:Unit)=>(l,f,l,(l.length:Int),(i:Int),())) (λi b=>if (!((f (l.getD i 0)).val false&&!(decide (0<i)&&decide (l.getD i 0<=l.getD (i - 1) 0))))=true then .done (.done false) else .next b) (λ_=>.next ()) () ?_ ?_ ?_]
 ·rw[kR (q:=λi=>(f (l.getD i 0)).val false&&!(decide (0<i)&&decide (l.getD i 0<=l.getD (i - 1) 0))) _ _ (λ_=>rfl)];show _=A.pure (jY (λy=>(f y).val false) l);unfold jY;cases (List.range l.length).all λi=>(f (l.getD i 0)).val false&&!(decide (0<i)&&decide (l.getD i 0<=l.getD (i - 1) 0))<;>simp
 ·rfl
 ·intro i G b;have G:i<l.length:=by grind
  have hw:=bC (n:=(i:Int)+1) (by omega) (by omega);have gE:=bC (n:=(i:Int) - 1) (by omega) (by omega);have aN:((i:Int) - 1).toNat=i - 1:=by omega
  obtain⟨c,hc⟩:=U _ (List.getElem_mem G);have iM:l.getD i 0=l[i]:=by grind
  have sQ:(decide ((i:Int) > 0))=decide (0<i):=by simp
  simp only[bW,cZ G,if_true,List.getElem_range,dm G,cL G,A.br,iM,hc,A.fD,A.aH,cm,hw,gE,aN,sQ];rw[A.bz (by grind)];cases c<;>cases (decide (0<i)&&decide (l[i]<=l.getD (i - 1) 0))<;>rfl
 simp
abbrev Iy:aP:=⟨.az fP bx,dk,λx=>x.1.length<2 ^ 63,λx=>jY (λn=>b4 n 0 x.2) x.1⟩
theorem aoV(x):A.le (Wa x) (Iy.sh x):=A.bw λh=>by
 obtain⟨l,m⟩:=x;change l.length<2 ^ 63 at h;unfold Wa;rw[A.dL (List.range l.length) (λi (_:Unit)=>(l,m,(i:Int),())) (λi b=>if (!(b4 (l.getD i 0) 0 m&&!(decide (0<i)&&decide (l.getD i 0<=l.getD (i - 1) 0))))=true then .done (.done false) else .next b) (λ_=>.next ()) () ?_ ?_ ?_]
 ·rw[kR (q:=λi=>b4 (l.getD i 0) 0 m&&!(decide (0<i)&&decide (l.getD i 0<=l.getD (i - 1) 0))) _ _ (λ_=>rfl)];show _=A.pure (jY (λn=>b4 n 0 m) l);unfold jY;cases (List.range l.length).all λi=>b4 (l.getD i 0) 0 m&&!(decide (0<i)&&decide (l.getD i 0<=l.getD (i - 1) 0))<;>simp
 ·rfl
 ·intro i G b;have G:i<l.length:=by grind
  have hw:=bC (n:=(i:Int)+1) (by omega) (by omega);have gE:=bC (n:=(i:Int) - 1) (by omega) (by omega);have aN:((i:Int) - 1).toNat=i - 1:=by omega
  have iM:l.getD i 0=l[i]:=by grind
  have sQ:(decide ((i:Int) > 0))=decide (0<i):=by simp
  simp only[bW,cZ G,if_true,List.getElem_range,dm G,cL G,A.br,iM,A.aH,cm,hw,gE,aN,sQ];have sD:0<i->(0:Int)<=(i:Int) - 1/\(i:Int) - 1<(l.length:Int):=by omega
  generalize l.getD (i - 1) 0=B;generalize l[i]=aL;by_cases hH:aL<0<;>by_cases tP:aL > m<;>by_cases aX:0<i<;>by_cases aU:aL<=B<;>simp_all[b4,W.ho,A.bz]<;>(grind)<;>(grind)
 simp
theorem Pl{p q:Int->Bool}{l:z1'}(h:∀ y∈l,p y=q y):jY p l=jY q l:=by
 unfold jY;grind
theorem aoW(n:Int)(k:Nat):b4 n 0 ((k:Int) - 1)=(decide (0<=n)&&decide (n<(k:Int))):=by
 unfold b4;grind
theorem aoX(a b:Int):decide (a > b)=!decide (a<=b):=by grind
abbrev Ez:aP:=⟨.az bx (.az (.bH kE) (.bH nk)),dk,λx=>∃ w p,x.2=(some w,some p)/\gQ w/\n8 w p.2.2.2.1=true,λx=>Ey (x.2.1.getD ([],[],0,[])) (x.2.2.getD (0,0,0,0,[])).2.2.2.1 x.1⟩
theorem aoY(x):A.le (V7 ct.sh x) (Ez.sh x):=A.bw λh=>by
 obtain⟨n,o⟩:=x;obtain⟨w,p,ar,hw,hm⟩:=h;change o=_ at ar;subst ar;unfold V7;have r:=Ij.1 hm;have ak:=Ik hw p.2.2.2.1;have h4:=bC (n:=((jy w p.2.2.2.1).length:Int) - 1) (by omega) (by omega);unfold jy at h4;simp only[aP.sh,ct,Option.getD_some,bW,r,and_self,A.br,h4,A.dJ,rF];rfl
abbrev EA:aP:=⟨.az nk (.bH kE),dk,λx=>x.1.2.2.2.2.length<2 ^ 63/\∃ w,x.2=some w/\gQ w,λx=>!pN (x.2.getD ([],[],0,[])) x.1⟩
theorem aoZ(x):A.le (V4 ct.sh rJ.sh Ix.sh Ez.sh x) (EA.sh x):=A.bw λh=>by
 obtain⟨p,o⟩:=x;obtain⟨ao,w,ar,hw⟩:=h;change o=_ at ar;change p.2.2.2.2.length<2 ^ 63 at ao;subst ar;unfold V4;have ak:=hw.2.1;have h4:=bC (n:=((w.2.1.length:Int)) - 1) (by omega) (by omega);have ay:(decide (0<=p.2.2.2.1)&&decide (p.2.2.2.1<(w.2.1.length:Int)))=n8 w p.2.2.2.1:=rfl;simp only[aP.sh,ct,Option.getD_some,bW,A.br,h4,A.dJ,A.jb,rF,implies_true,qt,ay];have key:n8 w p.2.2.2.1=true->(jY (λy=>(A.dI (Ez.pre (y,some w,some p)) (Ez.g (y,some w,some p))).val false) p.2.2.2.2)=jY (Ey w p.2.2.2.1) p.2.2.2.2:=λhm=>Pl λy aS=>A.gN;rw[A.bz]
 ·show A.pure _=A.pure _;congr 1;show _=!pN w p;unfold pN;simp
 ·intro c7;have hm:n8 w p.2.2.2.1=true:=by
   grind
  exact⟨ao,λy aS=>⟨_,A.bR ⟨w,p,rfl,hw,hm⟩ _⟩⟩
abbrev EB:aP:=⟨mE,dk,λx=>x.1.length<2 ^ 63,λx=>!oY x⟩
theorem ao0(x):A.le (V8 ct.sh rJ.sh Ix.sh rJ.sh x) (EB.sh x):=A.bw λh=>by
 unfold V8;have key:(jY (λy=>(A.dI (rJ.pre y) (rJ.g y)).val false) x.1)=jY jX x.1:=Pl λy aS=>A.gN;simp only[aP.sh,ct,bW,A.br,A.dJ,A.jb,implies_true,qt];rw[A.bz]
 ·show A.pure _=A.pure (!oY x);congr 1;unfold oY;rw[key];have e:decide (x.2.1.1 > x.2.1.2)=!decide (x.2.1.1<=x.2.1.2):=by grind
  rw[e];show _=!(b4 (x.1.length:Int) 1 8&&_&&_&&_&&_&&_&&_&&_);unfold b4;simp
 ·exact λ_=>⟨h,λy aS=>⟨_,A.bR trivial _⟩⟩
abbrev EC:aP:=⟨.az pM (.bH kE),dk,λx=>∃ w,x.2=some w/\gQ w,λx=>!oZ (x.2.getD ([],[],0,[])) x.1⟩
theorem ao1(x):A.le (V_ ct.sh rJ.sh x) (EC.sh x):=A.bw λh=>by
 obtain⟨d,o⟩:=x;obtain⟨w,ar,hw⟩:=h;change o=_ at ar;subst ar;unfold V_;have ak:=hw.1;have h4:=bC (n:=((w.1.length:Int)) - 1) (by omega) (by omega);simp only[aP.sh,ct,Option.getD_some,bW,A.br,h4,A.dJ,A.jb,rF,implies_true,qt];show A.pure _=A.pure (!oZ w d);congr 1;unfold oZ g_ b4;simp
abbrev ED:aP:=⟨bx,dk,λ_=>True,λn=>!b4 n 0 10⟩
theorem ao2(x):A.le (V' ct.sh x) (ED.sh x):=A.bw λ_=>by
 unfold V';simp[aP.sh,ct,b4]
theorem Iz{al:Type}{p q:al->Bool}{l:List al}(h:∀ x∈l,p x=!q x):l.any p=!l.all q:=by
 grind
abbrev Pm:aP:=⟨l5,dk,fx,nl⟩
theorem ao3(x):A.le (VX rJ.sh (jc bx).sh (jc nk).sh (jc mE).sh (jc pM).sh EA.sh EC.sh EB.sh ED.sh x) (Pm.sh x):=A.bw λh=>by
 obtain⟨E,U,ah,aZ,bM,dt,gb⟩:=h;unfold VX;simp only[aP.sh,bW,A.br,A.dJ,A.jb,implies_true];have aW:(x.2.1.any λy=>(A.dI (ED.pre y) (ED.g y)).val false)=!x.2.1.all λn=>b4 n 0 10:=Iz λy _=>A.gN;have aY:(x.2.2.1.any λy=>(A.dI (EA.pre (y,some x.1)) (EA.g (y,some x.1))).val false)=!x.2.2.1.all (pN x.1):=Iz λy _=>A.gN;have bO:(x.2.2.2.1.any λy=>(A.dI (EB.pre y) (EB.g y)).val false)=!x.2.2.2.1.all oY:=Iz λy _=>A.gN;have gC:(x.2.2.2.2.1.any λy=>(A.dI (EC.pre (y,some x.1)) (EC.g (y,some x.1))).val false)=!x.2.2.2.2.1.all (oZ x.1):=Iz λy _=>A.gN;rw[A.bz,A.bz,A.bz,A.bz]
 ·show A.pure _=A.pure (nl x);congr 1;unfold nl;grind
 ·exact λ_=>⟨bM,λy aS=>⟨_,A.bR ⟨_,rfl,E⟩ _⟩⟩
 ·exact λ_=>⟨aZ,λy aS=>⟨_,A.bR (gb y aS) _⟩⟩
 ·exact λ_=>⟨ah,λy aS=>⟨_,A.bR ⟨dt y aS,_,rfl,E⟩ _⟩⟩
 ·exact λ_=>⟨U,λy aS=>⟨_,A.bR trivial _⟩⟩
abbrev pO:aP:=⟨l5,bx,fx,jf⟩
theorem ao4(x):A.le (VQ h2.sh Pm.sh x) (pO.sh x):=A.bw λh=>by
 unfold VQ;simp only[aP.sh,A.dJ,A.bz h.1];show _=A.pure (jf x);unfold jf;by_cases hc:cP x.1=0
 ·simp only[hc,ne_eq,not_true,decide_false,Bool.false_eq_true,if_false,A.bz h];grind
 grind
abbrev IA:aP:=⟨.az l5 nk,dk,λx=>fx x.1/\x.2.2.2.2.2.length<2 ^ 63,λx=>pN x.1.1 x.2⟩
theorem ao5(x):A.le (VY ct.sh Iy.sh x) (IA.sh x):=A.bw λh=>by
 obtain⟨s,p⟩:=x;obtain⟨aD,ao⟩:=h;change fx s at aD;change p.2.2.2.2.length<2 ^ 63 at ao;unfold VY;have ak:=aD.1.2.1;have gn:=Ik aD.1 p.2.2.2.1;have h4:=bC (n:=((s.1.2.1.length:Int)) - 1) (by omega) (by omega);have Ex:=bC (n:=((jy s.1 p.2.2.2.1).length:Int) - 1) (by omega) (by omega);unfold jy at Ex;have ay:(decide (0<=p.2.2.2.1)&&decide (p.2.2.2.1<(s.1.2.1.length:Int)))=n8 s.1 p.2.2.2.1:=rfl;simp only[aP.sh,ct,bW,A.br,h4,Ex,A.dJ,A.jb,rF,implies_true,qt,ay,A.n3,A.gN];show _=A.pure (pN s.1 p);unfold pN;have D6:jY (λn=>b4 n 0 (((List.getD s.1.2.1 (Int.toNat p.2.2.2.1) []).length:Int) - 1)) p.2.2.2.2=jY (Ey s.1 p.2.2.2.1) p.2.2.2.2:=Pl λy _=>aoW y _;rw[D6];cases hm:n8 s.1 p.2.2.2.1
 ·simp
 ·have r:=Ij.1 hm;rw[A.bz r,A.bz (by exact ao)];unfold jX b4;grind
abbrev IB:aP:=⟨mE,dk,λx=>x.1.length<2 ^ 63,oY⟩
theorem ao6(x):A.le (VZ ct.sh Iy.sh x) (IB.sh x):=A.bw λh=>by
 unfold VZ;simp only[aP.sh,ct,bW,A.br,A.dJ,A.jb,implies_true];rw[A.bz (by omega)];show A.pure _=A.pure (oY x);congr 1;unfold oY;have D6:jY (λn=>b4 n 0 99) x.1=jY jX x.1:=rfl;rw[D6];unfold jX b4;grind
theorem ao7(x):A.le (VR h2.sh ct.sh IA.sh IB.sh x) (pO.sh x):=A.bw λh=>by
 have aD:=h;obtain⟨E,U,ah,aZ,bM,dt,gb⟩:=h;unfold VR;simp only[aP.sh,A.dJ,A.bz E];show _=A.pure (jf x);unfold jf;by_cases hc:cP x.1=0
 ·simp only[hc,ne_eq,not_true,decide_false,Bool.false_eq_true,if_false,ct,A.jb,A.dJ,implies_true,A.br,bW,qt,decide_not];have e:(!decide ((x.2.1.length:Int)=(x.1.1.length:Int))||decide ((x.2.2.1.length:Int) > 8)||decide ((x.2.2.2.1.length:Int) > 6)||decide ((x.2.2.2.2.1.length:Int) > 8)||!(decide (0<=x.2.2.2.2.2)&&decide (x.2.2.2.2.2<=99)))=!(decide ((x.2.1.length:Int)=(x.1.1.length:Int))&&decide ((x.2.2.1.length:Int)<=8)&&decide ((x.2.2.2.1.length:Int)<=6)&&decide ((x.2.2.2.2.1.length:Int)<=8)&&jX x.2.2.2.2.2):=by
   simp only[aoX,jX,b4,Bool.not_and]
  rw[e];by_cases c7:(decide ((x.2.1.length:Int)=(x.1.1.length:Int))&&decide ((x.2.2.1.length:Int)<=8)&&decide ((x.2.2.2.1.length:Int)<=6)&&decide ((x.2.2.2.2.1.length:Int)<=8)&&jX x.2.2.2.2.2)=true
  ·rw[if_neg (by grind)]
   ·rw[A.dL x.2.1 (λi (_:Unit)=>((i:Int),x,())) (λn b=>if (!b4 n 0 10)=true then .done (.done (80:Int)) else .next b) (λ_=>.next (x,())) () ?_ ?_ ?_]
    ·rw[kR (q:=λn=>b4 n 0 10) _ _ (λ_=>rfl)];cases hH:x.2.1.all λn=>b4 n 0 10 with
     | false=>simp[nl,hH]
     | true=>
      simp only[A.aH,if_true,A.b2];rw[A.dL x.2.2.1 (λi (_:Unit)=>((i:Int),x,())) (λp b=>if (!pN x.1 p)=true then .done (.done (80:Int)) else .next b) (λ_=>.next (x,())) () ?_ ?_ ?_]
      ·rw[kR (q:=pN x.1) _ _ (λ_=>rfl)];cases aU:x.2.2.1.all (pN x.1) with
       | false=>simp[nl,aU]
       | true=>
        simp only[A.aH,if_true,A.b2];rw[A.dL x.2.2.2.1 (λi (_:Unit)=>((i:Int),x,())) (λp b=>if (!oY p)=true then .done (.done (80:Int)) else .next b) (λ_=>.next (x,())) () ?_ ?_ ?_]
        ·rw[kR (q:=oY) _ _ (λ_=>rfl)];cases jn:x.2.2.2.1.all oY with
         | false=>simp[nl,jn]
         | true=>
          simp only[A.aH,if_true,A.b2];rw[A.dL x.2.2.2.2.1 (λi (_:Unit)=>((i:Int),x,())) (λp b=>if (!oZ x.1 p)=true then .done (.done (80:Int)) else .next b) (λ_=>.next ()) () ?_ ?_ ?_]
          ·rw[kR (q:=oZ x.1) _ _ (λ_=>rfl)];simp only[Bool.and_eq_true]at c7;cases Ep:x.2.2.2.2.1.all (oZ x.1)<;>simp[nl,hH,aU,jn,Ep,c7]
          ·rfl
          ·intro i G b;have hw:=bC (n:=(i:Int)+1) (by omega) (by omega);have ak:=E.1;have h4:=bC (n:=((x.1.1.length:Int)) - 1) (by omega) (by omega);simp only[bW,cZ G,if_true,dm G,cL G,A.br,A.aH,cm,hw,h4,qt,rF];have e:(!(decide (0<=(x.2.2.2.2.1[i]).1)&&decide ((x.2.2.2.2.1[i]).1<=99))||!(decide (0<=(x.2.2.2.2.1[i]).2.1)&&decide ((x.2.2.2.2.1[i]).2.1<(x.1.1.length:Int)))||!(decide (1<=(x.2.2.2.2.1[i]).2.2)&&decide ((x.2.2.2.2.1[i]).2.2<=10)))=!oZ x.1 x.2.2.2.2.1[i]:=by
            unfold oZ jX g_ b4;simp
           rw[e];exact na (mk:=λ_:Unit=>((i:Int)+1,x,()))
          simp
        ·rfl
        ·intro i G b;have hw:=bC (n:=(i:Int)+1) (by omega) (by omega);simp only[bW,cZ G,if_true,dm G,cL G,A.br,A.aH,cm,hw,A.bz (show IB.pre x.2.2.2.1[i] from gb _ (List.getElem_mem G))];exact na (mk:=λ_:Unit=>((i:Int)+1,x,()))
        simp
      ·rfl
      ·intro i G b;have hw:=bC (n:=(i:Int)+1) (by omega) (by omega);simp only[bW,cZ G,if_true,dm G,cL G,A.br,A.aH,cm,hw,A.n3,A.gN,A.bz (show IA.pre (x,x.2.2.1[i]) from⟨aD,dt _ (List.getElem_mem G)⟩)];exact na (mk:=λ_:Unit=>((i:Int)+1,x,()))
      simp
    ·rfl
    ·intro i G b;have hw:=bC (n:=(i:Int)+1) (by omega) (by omega);simp only[bW,cZ G,if_true,dm G,cL G,A.br,A.aH,cm,hw];exact na (mk:=λ_:Unit=>((i:Int)+1,x,()))
    simp
  ·rw[if_pos (by grind)]
   ·have:nl x=false:=by
     unfold nl;grind
    grind
 grind
theorem ao8:Iv 201=true:=by decide +kernel
abbrev s5:aP:=⟨.az (.int .u64) (.int .u64),.az (.int .u64) (.int .u64),λx=>x.1=1/\0<=x.2/\x.2<=200,λx=>(0,x.2)⟩
theorem ao9(x):A.le (VC x) (s5.sh x):=A.bw λh=>by
 obtain⟨a,b⟩:=x;obtain⟨E,U,ah⟩:=h;change a=1 at E;change 0<=b at U;change b<=200 at ah;subst E;have aX:=Zm 201 b.toNat ao8 (by omega);rw[Int.toNat_of_nonneg U]at aX;have hw:=Pg (n:=1*b) (by omega) (by omega);have ao_:((0:Int)<=32)=True:=by simp
 unfold VC;simp only[ao_,A.br];show A.pure (Ph (1,b),IntKind.wrap .u64 (1*b))=_;grind
theorem ao'(apa)(x):A.le (VA apa s5.sh x) (s5.sh x):=A.bw λh=>by
 unfold VA;simp only[aP.sh,A.dJ];simp_all
section
variable {al β:Type}
theorem apb(a d:al)(m J:Nat)(E:1<=m)(U:m<J) :
  List.take m (List.replicate m a++List.replicate (J - m) d)++List.take (J - m) (List.take m (List.replicate m a++List.replicate (J - m) d))++
   List.drop (m+(List.take (J - m) (List.take m (List.replicate m a++List.replicate (J - m) d))).length) (List.replicate m a++List.replicate (J - m) d)
  =List.replicate (m+min (J - m) m) a++List.replicate (J - (m+min (J - m) m)) d:=by
 have ay:List.take m (List.replicate m a++List.replicate (J - m) d)=List.replicate m a:=by
  simp
 rw[ay,List.take_replicate,List.replicate_append_replicate,List.length_replicate,List.drop_append,List.length_replicate];have aN:List.drop (m+min (J - m) m) (List.replicate m a)=[]:=by simp
 grind
def Zr(d:al)(fin:List al->A β)(x1:Int×Int->A (Int×Int))(x:List al)(n:Int):A β:=
 A.bind (if decide (n<0)=true then A.ae False (A.ae False (A.pure (W.next (x,n,())))) else A.pure (W.next (x,n,())))
 (W.bB λ(D:List al×Int×Unit)=>A.bind (x1 (IntKind.wrap .u64 (Int.ofNat (List.length D.1)),IntKind.wrap .u64 D.2.1)) λy
 =>A.bind (if (decide (y.1 > 0)||decide (y.2 > 9223372036854775807))=true then A.ae False (A.ae False (A.pure (W.next (D.1,y.2,())))) else
 A.pure (W.next (D.1,y.2,()))) (W.bB λ(D:List al×Int×Unit)=>A.ae (0<=IntKind.wrap .i64 D.2.1/\IntKind.wrap .i64 D.2.1=
 IntKind.wrap .i64 D.2.1/\b6 (Int.toNat (IntKind.wrap .i64 D.2.1))) (A.ae True (A.bind (A.loop (λ(D:Int×List al×Unit)=>if decide (D.1
 < Int.ofNat (List.length D.2.1))=true then A.ae (0<=D.1/\D.1<=Int.ofNat (List.length D.2.1)/\Int.ofNat (List.length D.2.1)<=Int.ofNat
 (List.length D.2.1)) (A.ae ((0:Int)<=0/\0<=D.1/\D.1<=Int.ofNat (List.length D.2.1)) (A.ae True (A.pure (W.next (IntKind.wrap .i64
 (Add.add D.1 (Int.ofNat (if Int.toNat (Int.ofNat (List.length D.2.1)) - Int.toNat D.1<=List.length (List.take (Int.toNat D.1) D.2.1) then Int.toNat
 (Int.ofNat (List.length D.2.1)) - Int.toNat D.1 else List.length (List.take (Int.toNat D.1) D.2.1)))),List.take (Int.toNat D.1) D.2.1++List.take
 (Int.toNat (Int.ofNat (List.length D.2.1)) - Int.toNat D.1) (List.take (Int.toNat D.1) D.2.1)++List.drop (Add.add (Int.toNat D.1) (List.length
 (List.take (Int.toNat (Int.ofNat (List.length D.2.1)) - Int.toNat D.1) (List.take (Int.toNat D.1) D.2.1)))) D.2.1,()))))) else A.bind (A.pure
 (W.next (D.2.1,()))) λr=>A.pure (W.done r)) (Int.ofNat (if List.length (List.replicate (Int.toNat (IntKind.wrap .i64 D.2.1)) d) - 0<=
 List.length D.1 then List.length (List.replicate (Int.toNat (IntKind.wrap .i64 D.2.1)) d) - 0 else List.length D.1),[]++List.take (List.length
 (List.replicate (Int.toNat (IntKind.wrap .i64 D.2.1)) d) - 0) D.1++List.drop (Add.add 0 (List.length (List.take (List.length (List.replicate
 (Int.toNat (IntKind.wrap .i64 D.2.1)) d) - 0) D.1))) (List.replicate (Int.toNat (IntKind.wrap .i64 D.2.1)) d),())) (W.bB λ(D:List al×
 Unit)=>fin D.1)))))
theorem Pn(d a:al)(Mg:List al->β)(n:Int)(U:0<=n)(ah:n<=200):A.cw (Zr d (λl=>A.pure (Mg l)) s5.sh [a] n) λy=>y=Mg (List.replicate n.toNat a):=by
 obtain⟨J,rfl⟩:=Int.eq_ofNat_of_zero_le U;have IC:decide ((J:Int)<0)=false:=by simp
 have lR:IntKind.u64.wrap (Int.ofNat ([a]:List al).length)=1:=Pg (by simp) (by simp);have apc:=Pg (n:=(J:Int)) (by omega) (by omega);have lx:=bC (n:=(J:Int)) (by omega) (by omega);have ao:s5.pre (1,(J:Int)):=⟨rfl,U,ah⟩
 have apd:decide ((J:Int) > 9223372036854775807)=false:=by grind
 have lP:b6 J:=by unfold b6;omega
 have M:0<=(J:Int)/\True/\b6 (Int.toNat (J:Int)):=⟨U,trivial,by grind⟩
 unfold Zr;simp only[IC,Bool.false_eq_true,if_false,A.aH,A.b2,lR,apc,aP.sh,A.dJ];rw[A.bz (by grind)];simp only[gt_iff_lt,Int.lt_irrefl,decide_false,Bool.false_or,Bool.false_eq_true,if_false,A.aH,A.b2,lx];have ape:decide ((9223372036854775807:Int)<(J:Int))=false:=apd;simp only[ape,Bool.false_eq_true,if_false,A.aH,A.b2,lx];rw[A.bz M];simp only[A.br,A.fX,Int.toNat_natCast,List.length_replicate,Nat.sub_zero,List.nil_append,List.length_singleton,bW,hM,Nat.zero_add];refine A.BO (λs=>∃ m:Nat,(1<=m\/J=0)/\m<=J/\s=((m:Int),List.replicate m a++List.replicate (J - m) d,())) (λs=>J - s.1.toNat) ?_ _ ?_
 ·rintro s ⟨m,hm,ax5,rfl⟩;have hlen:(List.replicate m a++List.replicate (J - m) d).length=J:=by grind
  simp only[hlen];by_cases cc:m<J
  ·have gM:0<=(m:Int)/\(m:Int)<=(J:Int)/\(J:Int)<=(J:Int):=by omega
   have cM:(0:Int)<=0/\0<=(m:Int)/\(m:Int)<=(J:Int):=by omega
   have kg:1<=m:=by omega
   have Zs:(List.take m (List.replicate m a++List.replicate (J - m) d)).length=m:=by simp
   simp only[cZ cc,if_true,A.bz gM,A.bz cM,A.br,Int.toNat_natCast,Zs,cm];rw[A.d',apb a d m J kg cc];have apf:(if J - m<=m then J - m else m)=min (J - m) m:=by rfl
   rw[apf];have gE:=bC (n:=(m:Int)+((min (J - m) m:Nat):Int)) (by omega) (by omega);refine⟨⟨m+min (J - m) m,.inl (by omega),by omega,?_⟩,?_⟩
   ·rw[gE];simp
   ·simp only[gE];omega
  ·have:m=J:=by omega
   subst this;simp only[Int.lt_irrefl,decide_false,Bool.false_eq_true,if_false,A.aH,A.d',A.b2,Nat.sub_self,List.replicate_zero,List.append_nil]
 ·by_cases ax6:J=0
  ·grind
  ·refine⟨1,.inl (Nat.le_refl _),by omega,?_⟩;grind
end
abbrev ID:aP:=⟨.az fP bx,fP,λx=>x.1=[-1]/\0<=x.2/\x.2<=200,λx=>List.replicate x.2.toNat (-1)⟩
theorem apg(x):A.le (ajY s5.sh x) (ID.sh x):=A.sF λh=>by
 obtain⟨l,n⟩:=x;obtain⟨E,U,ah⟩:=h;change l=[-1]at E;subst E;exact Pn (0:Int) (-1) (λl=>l) n U ah
def wg(x:z1'×Int×Unit):A (z1'×Unit):=A.dI (x.1=[-1]/\0<=x.2.1/\x.2.1<=200) (List.replicate x.2.1.toNat (-1),())
theorem Zt(x):A.le (akc s5.sh x) (wg x):=A.sF λh=>by
 obtain⟨l,n,u⟩:=x;obtain⟨E,U,ah⟩:=h;change l=[-1]at E;subst E;exact Pn (0:Int) (-1) (λl=>(l,())) n U ah
abbrev IE:ad:=.st (.az bx bx)
abbrev IF:aP:=⟨.az (.slice IE) bx,.slice IE,λx=>x.1.length=1/\0<=x.2/\x.2<=200,λx=>List.replicate x.2.toNat (x.1.getD 0 (0,0))⟩
theorem aph(x):A.le (aj' s5.sh x) (IF.sh x):=A.sF λh=>by
 obtain⟨l,n⟩:=x;obtain⟨E,U,ah⟩:=h;change l.length=1 at E;obtain⟨a,rfl⟩:=List.length_eq_one_iff.1 E;exact Pn ((0,0):Int×Int) a (λl=>l) n U ah
end Go.Fer
namespace Go.Fer
open A (W)
def yn(s:bI)(n:Int):Bool:=decide (0<=n)&&decide (n<(s.2.2.2.1.length:Int))
def yo(s:bI)(n:Int):Bool:=decide (0<=n)&&decide (n<(s.2.2.1.length:Int))
theorem api{s:bI}{n:Int}:yn s n=true<->0<=n/\n<(s.2.2.2.1.length:Int):=by simp[yn]
theorem apj{s:bI}{n:Int}:yo s n=true<->0<=n/\n<(s.2.2.1.length:Int):=by simp[yo]
abbrev Po:aP:=⟨.az l5 bx,dk,λx=>fx x.1,λx=>yn x.1 x.2⟩
abbrev Pp:aP:=⟨.az l5 bx,dk,λx=>fx x.1,λx=>yo x.1 x.2⟩
theorem apk(x):A.le (VV ct.sh x) (Po.sh x):=A.bw λh=>by
 have ak:=h.2.2.2.1;have hw:=bC (n:=(x.1.2.2.2.1.length:Int) - 1) (by omega) (by omega);unfold VV;simp[aP.sh,ct,hw,yn,rF]
theorem apl(x):A.le (V0 ct.sh x) (Pp.sh x):=A.bw λh=>by
 have ak:=h.2.2.1;have hw:=bC (n:=(x.1.2.2.1.length:Int) - 1) (by omega) (by omega);unfold V0;simp[aP.sh,ct,hw,yo,rF]
def s6(x:dN)(p:dy):Int:=if (!x.1.contains p.1||!b4 p.2.1 x.2.1.1 x.2.1.2)=true then 0 else if p.2.2.1=x.2.2.1 then 1 else if p.2.2.1=0 then 2 else 0
abbrev wh:aP:=⟨.az mE nk,bx,λx=>x.1.1.length<2 ^ 63,λx=>s6 x.1 x.2⟩
theorem apm(x):A.le (V1 ct.sh oQ.sh x) (wh.sh x):=A.bw λh=>by
 unfold V1;simp only[aP.sh,ct,oQ,A.dJ,A.jb,implies_true,A.br,qt];rw[A.bz (by exact h)];show _=A.pure (s6 x.1 x.2);unfold s6 b4;grind
def wi(s:bI)(l:z1')(i:Nat):Bool:=decide (l.getD i 0=-1)||(yo s (l.getD i 0)&&!(l.take i).contains (l.getD i 0))
def wj(s:bI)(l:z1'):Bool:=((List.range l.length).all (wi s l))&&decide ((l.length:Int)=(s.2.2.2.1.length:Int))
abbrev IG:aP:=⟨.az l5 fP,dk,λx=>fx x.1/\x.2.length<2 ^ 63,λx=>wj x.1 x.2⟩
theorem apn(x):A.le (V2 Pp.sh oQ.sh x) (IG.sh x):=A.bw λh=>by
 obtain⟨s,l⟩:=x;obtain⟨aD,ak⟩:=h;change fx s at aD;change l.length<2 ^ 63 at ak;unfold V2;rw[A.dL (List.range l.length) (λi (_:Unit)=>(l,l,(l.length:Int),(i:Int),s,())) (λi b=>if (!wi s l i)=true then .done (.done false) else .next b) (λ_=>.next (l,s,())) () ?_ ?_ ?_]
 ·rw[kR (q:=wi s l) _ _ (λ_=>rfl)];show _=A.pure (wj s l);unfold wj;cases (List.range l.length).all (wi s l)<;>simp
 ·simp
 ·intro i G b;have G:i<l.length:=by grind
  have hw:=bC (n:=(i:Int)+1) (by omega) (by omega);obtain⟨aL,iM⟩:∃ aL,l.getD i 0=aL:=⟨_,rfl⟩
  have cC:wi s l i=(decide (aL=-1)||(yo s aL&&!(l.take i).contains aL)):=by unfold wi;rw[iM]
  simp only[bW,cZ G,if_true,List.getElem_range,cL G,A.br,aP.sh,A.dJ,A.jb,Int.toNat_natCast,iM];rw[A.bz (by grind),A.bz,A.bz]
  ·simp only[A.aH,cm,hw,wi,iM];by_cases E:aL=-1
   ·simp_all
   ·cases U:yo s aL<;>cases ah:(l.take i).contains aL<;>simp[E,U,ah,W.ho]
  ·intro _;show (l.take i).length<2 ^ 63;rw[List.length_take];omega
  ·intro c7;exact⟨⟨c7,trivial,c7⟩,⟨by omega,by omega,by omega⟩,trivial⟩
 simp
def k2(s:bI)(cb:Bool):Int:=if jf s≠0 then jf s else if cb=false then 1 else eK s.1 true
theorem Zu{s:bI}(h:jf s=0):cP s.1=0/\nl s=true:=by
 unfold jf at h;grind
theorem Bc{s:bI}{cb:Bool}(h:k2 s cb=0):jf s=0/\cb=true/\eK s.1 true=0/\wb s.1=true:=by
 unfold k2 at h;by_cases he:jf s=0
 ·rw[if_neg (by omega)]at h;cases cb with
  | false=>grind
  | true=>
   simp only[Bool.true_eq_false,if_false]at h;exact⟨he,rfl,h,(Et h).2.2⟩
 omega
structure l6(s:bI):Prop where
 gL:fx s
 sW:qD s.1
 EE:s.2.1.length=s.1.1.length
 Pq:∀ n∈s.2.1,0<=n/\n<=10
 IH:s.2.2.1.length<=8
 apo:∀ p∈s.2.2.1,pN s.1 p=true
 s7:s.2.2.2.1.length<=6
 Zv:∀ x∈s.2.2.2.1,oY x=true
 Pr:s.2.2.2.2.1.length<=8
 Zw:∀ d∈s.2.2.2.2.1,oZ s.1 d=true
 apq:0<=s.2.2.2.2.2/\s.2.2.2.2.2<=99
theorem Bd{s:bI}(aD:fx s)(h:jf s=0):l6 s:=by
 obtain⟨E,U⟩:=Zu h;simp only[nl,Bool.and_eq_true,decide_eq_true_eq,List.all_eq_true,b4,jX]at U;obtain⟨⟨⟨⟨⟨⟨⟨⟨aW,aY⟩,bO⟩,gC⟩,pc⟩,xB⟩,Hc⟩,Dt⟩,MH⟩:=U;exact⟨aD,⟨aD.1,Pd E⟩,by omega,aY,by omega,gC,by omega,xB,by omega,Dt,MH⟩
theorem l6.Zx{s:bI}(h:l6 s):s.1.1.length<=10:=(Er h.sW.2).1
def II(w:bo)(t:z5')(q:Int×Int×Int):z5':=if uI w q.1 q.2.1 q.2.2=1 then vD t q (IntKind.i64.wrap ((oX t q).getD 0+1)) else t
def Zy(w:bo)(i m:Nat)(t:z5'):z5':=(List.range (jy w (m:Int)).length).foldl (λt (k:Nat)=>II w t ((i:Int),(m:Int),(k:Int))) t
def Zz(w:bo)(i:Nat)(t:z5'):z5':=(List.range w.2.1.length).foldl (λt m=>Zy w i m t) t
def uM(w:bo)(n:Nat):z5':=(List.range n).foldl (λt i=>Zz w i t) []
def ly(p:Int×Int)(n:Int):z4':=List.replicate n.toNat p
def EF(l:z1'):z4':=(List.range l.length).flatMap λ(i:Nat)=>ly ((i:Int),0) (l.getD i 0)
def ZA(l:List DO):z4':=l.flatMap λd=>ly (d.2.1,d.1) d.2.2
def Ps(s:bI):z4':=EF s.2.1++ZA s.2.2.2.2.1
def dq(s:bI):dw:=(s,Ps s,uM s.1 s.2.1.length)
def yp(s:bI)(cb:Bool):Option dw×Int:=if k2 s cb≠0 then (none,k2 s cb) else (some (dq s),0)
theorem Pt{al β:Type}(f:al->List β):∀ (l:List al) (b:List β),l.foldl (λb x=>b++f x) b=b++l.flatMap f
 | [],b=>by simp
 | x::l,b=>by rw[List.foldl_cons,Pt f l,List.flatMap_cons,List.append_assoc]
abbrev apr:ad:=.st (.az bx (.az bx bx))
abbrev wk:ad:=.bH (.st (.az l5 (.az (.slice IE) (.map apr bx))))
abbrev Be:aP:=⟨.az l5 dk,.az wk bx,λx=>fx x.1,λx=>yp x.1 x.2⟩
theorem aps(s:bI)(cb:Bool)(aD:fx s):NK pO.sh yi.sh A8.sh IF.sh (s,cb)=A.pure (yp s cb):=by
 unfold NK yp k2;simp only[aP.sh,A.dJ,A.bz aD];by_cases he:jf s=0
 ·have af:=Bd aD he;simp only[he,ne_eq,not_true,decide_false,Bool.false_eq_true,if_false];cases cb with
  | false=>simp
  | true=>
   simp only[Bool.not_true,Bool.false_eq_true,if_false,Bool.true_eq_false];refine Eq.trans (congrArg (λm=>A.bind m _) (show _=(if eK s.1 true≠0 then A.pure (W.done ((none:Option dw),eK s.1 true)) else A.pure (W.next (s,([]:z5'),s.1.1,s.1.2.1,s.1.2.2.1,s.1.2.2.2,s.2.1,s.2.2.1,s.2.2.2.1,s.2.2.2.2.1,s.2.2.2.2.2,()))) from ?_)) ?_
   ·by_cases bk:s.2.1.length=0
    ·have aK:eK s.1 true=0:=by
      unfold eK;have aX:s.1.1.length=0:=by rw[<-af.EE];exact bk
      have:wb s.1=true:=by unfold wb;grind
      simp[(Zu he).1,this]
     grind
    ·have E:decide (Int.ofNat (List.length s.2.1) > 0)=true:=by grind
     have U:g_ s.1 0=true:=by rw[uE];have:=af.EE;omega
     rw[if_pos E,A.bz aD.1];unfold wc;rw[U];by_cases an:eK s.1 true=0
     ·simp[an]
     ·simp[an]
   by_cases y0:eK s.1 true=0
   ·simp only[y0,ne_eq,not_true,if_false,A.aH,A.b2];have ax7:=af.Zx;have fk:=af.EE;have apt:s.1.2.1.length<=6:=(Er af.sW.2).2.1;rw[A.dL (List.range s.2.1.length) (λi t=>((s.2.1.length:Int),(i:Int),s,t,s.1.1,s.1.2.1,s.1.2.2.1,s.1.2.2.2,s.2.1,s.2.2.1,s.2.2.2.1,s.2.2.2.2.1,s.2.2.2.2.2,())) (λi t=>.next (Zz s.1 i t)) (λt=>.next (s,t,s.1.1,s.1.2.1,s.1.2.2.1,s.1.2.2.2,s.2.1,s.2.2.1,s.2.2.2.1,s.2.2.2.2.1,s.2.2.2.2.2,())) [] ?_ ?_ ?_]
    ·rw[ej];simp only[A.aH,A.b2];rw[A.f_ (List.range s.2.1.length) (λi acc=>(s.2.1,(s.2.1.length:Int),(i:Int),s,uM s.1 s.2.1.length,s.1.1,s.1.2.1,s.1.2.2.1,s.1.2.2.2,s.2.1,s.2.2.1,s.2.2.2.1,s.2.2.2.2.1,s.2.2.2.2.2,acc,())) (λi acc=>.next (acc++ly ((i:Int),0) (s.2.1.getD i 0))) (λacc=>.next (s,uM s.1 s.2.1.length,s.1.1,s.1.2.1,s.1.2.2.1,s.1.2.2.2,s.2.1,s.2.2.1,s.2.2.2.1,s.2.2.2.2.1,s.2.2.2.2.2,acc,())) (λi acc=>acc.length<=10*i) [] ?_ ?_ ?_ ?_]
     ·rw[ej,Pt];simp only[A.aH,A.b2,List.nil_append];have gq:(EF s.2.1).length<=100:=by
       have:∀ (l:List Nat),(∀ i∈l,i<s.2.1.length)->(l.flatMap λ(i:Nat)=>ly ((i:Int),0) (s.2.1.getD i 0)).length<=10*l.length:=by
        intro l;induction l with
        | nil=>simp
        | cons i l aJ=>
         intro ak;have E:=aJ λj aG=>ak j (by grind);have U:=ak i (by simp);have ah:=af.Pq _ (List.getElem_mem U);have iM:s.2.1.getD i 0=s.2.1[i]:=by grind
         rw[List.flatMap_cons,List.length_append,List.length_cons,iM];simp only[ly,List.length_replicate];simp only[ly]at E;omega
       have:=this (List.range s.2.1.length) (λi G=>by grind);rw[List.length_range]at this;unfold EF;omega
      rw[A.f_ s.2.2.2.2.1 (λi acc=>(s.2.2.2.2.1,(s.2.2.2.2.1.length:Int),(i:Int),uM s.1 s.2.1.length,s.1.1,s.1.2.1,s.1.2.2.1,s.1.2.2.2,s.2.1,s.2.2.1,s.2.2.2.1,s.2.2.2.2.1,s.2.2.2.2.2,acc,())) (λd acc=>.next (acc++ly (d.2.1,d.1) d.2.2)) (λacc=>.next (uM s.1 s.2.1.length,s.1.1,s.1.2.1,s.1.2.2.1,s.1.2.2.2,s.2.1,s.2.2.1,s.2.2.2.1,s.2.2.2.2.1,s.2.2.2.2.2,acc,())) (λi acc=>acc.length<=100+10*i) (EF s.2.1) ?_ ?_ ?_ ?_]
      ·rw[ej,Pt,A.aH,A.b2];rfl
      ·rfl
      ·omega
      ·intro i G acc Pe;have ax8:=af.Pr;have h4:=bC (n:=(i:Int)+1) (by omega) (by omega);have aw:=af.Zw _ (List.getElem_mem G);have C9:1<=s.2.2.2.2.1[i].2.2/\s.2.2.2.2.1[i].2.2<=10:=by
        simp only[oZ,b4,Bool.and_eq_true,decide_eq_true_eq]at aw;omega
       have hlen:(ly (s.2.2.2.2.1[i].2.1,s.2.2.2.2.1[i].1) s.2.2.2.2.1[i].2.2).length<=10:=by simp only[ly,List.length_replicate];omega
       have lP:b6 (acc.length+(ly (s.2.2.2.2.1[i].2.1,s.2.2.2.2.1[i].1) s.2.2.2.2.1[i].2.2).length):=by unfold b6;omega
       refine⟨?_,λbe aa=>?_⟩
       ·simp only[bW,cZ G,if_true,dm G,cL G,A.br,A.n3,A.gN,cm,hM,h4];rw[A.bz (by grind),A.bz (by exact lP)];rfl
       grind
      simp
     ·rfl
     ·simp
     ·intro i G acc Pe;have G:i<s.2.1.length:=by grind
      have h4:=bC (n:=(i:Int)+1) (by omega) (by omega);have iM:s.2.1.getD i 0=s.2.1[i]:=by grind
      have C9:=af.Pq _ (List.getElem_mem G);have hlen:(ly ((i:Int),0) s.2.1[i]).length<=10:=by simp only[ly,List.length_replicate];omega
      have lP:b6 (acc.length+(ly ((i:Int),0) s.2.1[i]).length):=by unfold b6;omega
      refine⟨?_,λbe aa=>?_⟩
      ·simp only[bW,cZ G,if_true,dm G,cL G,A.br,A.n3,A.gN,cm,hM,h4,List.getElem_range,iM];rw[A.bz (by grind),A.bz (by exact lP)];rfl
      grind
     simp
    ·simp
    ·intro i G t;have G:i<s.2.1.length:=by grind
     have h4:=bC (n:=(i:Int)+1) (by omega) (by omega);simp only[bW,cZ G,if_true,List.getElem_range];rw[A.dL (List.range s.1.2.1.length) (λm t=>((i:Int),(s.2.1.length:Int),(i:Int),s.1.2.1,(s.1.2.1.length:Int),(m:Int),s,t,s.1.1,s.1.2.1,s.1.2.2.1,s.1.2.2.2,s.2.1,s.2.2.1,s.2.2.2.1,s.2.2.2.2.1,s.2.2.2.2.2,())) (λm t=>.next (Zy s.1 i m t)) (λt=>.next ((s.2.1.length:Int),(i:Int),s,t,s.1.1,s.1.2.1,s.1.2.2.1,s.1.2.2.2,s.2.1,s.2.2.1,s.2.2.2.1,s.2.2.2.2.1,s.2.2.2.2.2,())) t ?_ ?_ ?_]
     ·rw[ej];simp only[A.aH,A.b2,cm,h4];rfl
     ·rfl
     ·intro m hm t;have hm:m<s.1.2.1.length:=by grind
      have IJ:=bC (n:=(m:Int)+1) (by omega) (by omega);have apu:s.1.2.1[m]=jy s.1 (m:Int):=by simp[jy,List.getD_eq_getElem?_getD,hm]
      simp only[bW,cZ hm,if_true,List.getElem_range,cL hm,A.br,dm hm,apu];have A6:=Ik aD.1 (m:Int);rw[A.dL (List.range (jy s.1 (m:Int)).length) (λk t=>((i:Int),(m:Int),(s.2.1.length:Int),(i:Int),s.1.2.1,(s.1.2.1.length:Int),(m:Int),((jy s.1 (m:Int)).length:Int),(k:Int),s,t,s.1.1,s.1.2.1,s.1.2.2.1,s.1.2.2.2,s.2.1,s.2.2.1,s.2.2.2.1,s.2.2.2.2.1,s.2.2.2.2.2,())) (λk t=>.next (II s.1 t ((i:Int),(m:Int),(k:Int)))) (λt=>.next ((i:Int),(s.2.1.length:Int),(i:Int),s.1.2.1,(s.1.2.1.length:Int),(m:Int),s,t,s.1.1,s.1.2.1,s.1.2.2.1,s.1.2.2.2,s.2.1,s.2.2.1,s.2.2.2.1,s.2.2.2.2.1,s.2.2.2.2.2,())) t ?_ ?_ ?_]
      ·rw[ej];simp only[A.aH,A.b2,cm,IJ];rfl
      ·rfl
      ·intro k an t;have an:k<(jy s.1 (m:Int)).length:=by grind
       have mC:=bC (n:=(k:Int)+1) (by omega) (by omega);have n0:g_ s.1 (i:Int)=true:=by rw[uE];omega
       have apv:iO s.1 (m:Int) (k:Int)=true:=by rw[A4];omega
       have ar:qE s.1 (i:Int) (m:Int) (k:Int)=(uI s.1 (i:Int) (m:Int) (k:Int),0):=by simp[qE,n0,apv,y0]
       simp only[cZ an,if_true,List.getElem_range];simp only[ar,A.bz aD.1,decide_eq_true_eq];by_cases E:uI s.1 (i:Int) (m:Int) (k:Int)=1
       ·simp only[E,if_true,and_self,A.br,A.aH,A.b2,cm,mC,W.ho,II];rfl
       ·simp only[E,if_false,A.aH,A.b2,cm,mC,W.ho,II];rfl
      simp
     simp
    simp
   ·simp[y0]
 grind
theorem apw(x):A.le (NK pO.sh yi.sh A8.sh IF.sh x) (Be.sh x):=A.bw λh=>aps x.1 x.2 h
theorem apx{p:Int->Bool}{l:z1'}(h:jY p l=true):∀ x∈l,p x=true:=by
 intro x ai;obtain⟨i,G,rfl⟩:=List.mem_iff_getElem.1 ai;unfold jY at h;simp_all
theorem apy{p:Int->Bool}{l:z1'}(h:jY p l=true):l.Pairwise (·<·):=by
 unfold jY at h;rw[List.all_eq_true]at h;have step:∀ i,i+1<l.length->l.getD i 0<l.getD (i+1) 0:=λi G=>by
  grind
 have key:∀ j i,i<j->j<l.length->l.getD i 0<l.getD j 0:=by
  intro j;induction j with
  | zero=>omega
  | succ j aJ=>
   grind
 rw[List.pairwise_iff_getElem];grind
theorem Pu{s:bI}(af:l6 s){p:dy}(ao:p∈s.2.2.1):n8 s.1 p.2.2.2.1=true/\p.2.2.2.2.length<=4/\∀ k∈p.2.2.2.2,iO s.1 p.2.2.2.1 k=true:=by
 have h:=af.apo p ao;simp only[pN,Bool.and_eq_true]at h;obtain⟨⟨_,hm⟩,M⟩:=h;have fG:∀ k∈p.2.2.2.2,iO s.1 p.2.2.2.1 k=true:=λk an=>by
  have:=apx M k an;rw[A4];simp only[Ey,Bool.and_eq_true,decide_eq_true_eq]at this;exact⟨Ij.1 hm,this⟩
 refine⟨hm,?_,fG⟩;have apz:=apy M;have tL:p.2.2.2.2.Nodup:=apz.imp λh e=>by omega
 cases aa:p.2.2.2.2 with
 | nil=>simp
 | cons k l=>
  rw[<-aa];have aZ:=an3 af.sW.2 (fG k (by grind));have:=Zl (jy s.1 p.2.2.2.1).length p.2.2.2.2 tL λk an=>by
   have:=A4.1 (fG k an);omega
  omega
abbrev rK:Type:=Int×Int×Int
abbrev apA:dN:=([],(0,0),0,0,0)
abbrev apB:dy:=(0,0,0,0,[])
abbrev yq:dw:=((([],[],0,[]),[],[],[],[],0),[],[])
def mF(s:bI)(i:Int):dN:=s.2.2.2.1.getD i.toNat apA
def nm(s:bI)(i:Int):dy:=s.2.2.1.getD i.toNat apB
def wm(s:bI)(x:dN)(p:dy):Option Int:=if s6 x p=0 then none else if (if s6 x p=2 then x.2.2.2.1 - s.2.2.2.2.2 else x.2.2.2.1)<0 then none else some (if s6 x p=2 then x.2.2.2.1 - s.2.2.2.2.2 else x.2.2.2.1)
def o0(s:bI)(cz:z1')(i:Nat):Option (List rK):=if cz.getD i 0<0 then some [] else (wm s (mF s (i:Int)) (nm s (cz.getD i 0))).map λd=>(nm s (cz.getD i 0)).2.2.2.2.map λk=>((nm s (cz.getD i 0)).2.2.2.1,k,d)
def lz(s:bI)(cz:z1'):List rK×Bool:=if ((List.range cz.length).all λi=>(o0 s cz i).isSome)=true then ((List.range cz.length).flatMap λi=>(o0 s cz i).getD [],true) else ([],false)
def n9(s:bI)(cz:z1'):Prop:=cz.length<=s.2.2.2.1.length/\∀ p∈cz,p<(s.2.2.1.length:Int)
def n_(o:Option dw):bI:=(o.getD yq).1
def wo(o:Option dw)(s:bI):Prop:=o=some (dq s)/\l6 s
theorem Pv{s:bI}{i:Nat}(h:i<s.2.2.2.1.length):mF s (i:Int)∈s.2.2.2.1:=by
 simp[mF,List.getD_eq_getElem?_getD,h]
theorem ZB{s:bI}{i:Int}(aX:0<=i)(h:i<(s.2.2.1.length:Int)):nm s i∈s.2.2.1:=xW aX h
theorem ZC{s:bI}(af:l6 s){x:dN}(ai:x∈s.2.2.2.1):(0<=x.2.2.2.1/\x.2.2.2.1<=99)/\(0<=x.2.2.2.2/\x.2.2.2.2<=100000):=by
 have:=af.Zv x ai;simp only[oY,jX,b4,Bool.and_eq_true,decide_eq_true_eq]at this;omega
theorem ZD{s:bI}(af:l6 s){cz:z1'}(ao:n9 s cz){i:Nat}(G:i<cz.length){l:List rK}(h:o0 s cz i=some l):l.length<=4:=by
 unfold o0 at h;split at h
 ·grind
 ·rename_i IC;rw[Option.map_eq_some_iff]at h;obtain⟨d,_,rfl⟩:=h;rw[List.length_map];have hm:cz.getD i 0∈cz:=by grind
  exact (Pu af (ZB (by omega) (ao.2 _ hm))).2.1
def Bf{al β aI:Type}(f:al->Option (List β))(r:aI)(x:al)(b:List β):W (List β) aI:=if (f x).isSome=true then .next (b++(f x).getD []) else .done r
theorem EG{al β aI:Type}{f:al->Option (List β)}{r:aI}{x:al}{b y:List β}(h:f x=some y):Bf f r x b=.next (b++y):=by simp[Bf,h]
theorem IK{al β aI:Type}{f:al->Option (List β)}{r:aI}{x:al}{b:List β}(h:f x=none):Bf f r x b=.done r:=by simp[Bf,h]
theorem ZE{al β aI:Type}{f:al->Option (List β)}{r:aI}{fin:List β->aI}:∀ (l:List al) (b:List β),e0 (Bf f r) fin l b=if (l.all λx=>(f x).isSome)=true then fin (b++l.flatMap λx=>(f x).getD []) else r
 | [],b=>by simp[e0]
 | x::l,b=>by
  simp only[e0];cases h:f x with
  | none=>simp[IK h,h]
  | some y=>
   have:=ZE (f:=f) (r:=r) (fin:=fin) l (b++y);simp only[EG h,List.all_cons,h,Option.isSome_some,Bool.true_and,List.flatMap_cons,Option.getD_some];grind
abbrev IL:ad:=.st (.az bx (.az bx bx))
abbrev IM:aP:=⟨.az wk fP,.az (.slice IL) dk,λx=>∃ s,wo x.1 s/\n9 s x.2,λx=>lz (n_ x.1) x.2⟩
theorem apC(s:bI)(af:l6 s)(cz:z1')(ao:n9 s cz):NL wh.sh (some (dq s),cz)=A.pure (lz s cz):=by
 unfold NL;have Bg:=af.s7;have ax9:=ao.1;simp only[Option.isSome_some,Option.getD_some,A.br];rw[A.f_ (List.range cz.length) (λi acc=>(some (dq s),cz,(cz.length:Int),(i:Int),acc,())) (Bf (o0 s cz) (.done ([],false))) (λacc=>.next (acc,())) (λi acc=>acc.length<=4*i) [] ?_ ?_ ?_ ?_]
 ·rw[ZE];unfold lz;by_cases h:((List.range cz.length).all λi=>(o0 s cz i).isSome)=true
  ·simp[h]
  ·simp[h]
 ·rfl
 ·simp
 ·intro i G acc Pe;have G:i<cz.length:=by grind
  have s8:i<s.2.2.2.1.length:=by omega
  have h4:=bC (n:=(i:Int)+1) (by omega) (by omega);have IN:=Pv s8;rw[List.getElem_range];obtain⟨aL,apD⟩:∃ aL,cz.getD i 0=aL:=⟨_,rfl⟩
  have apE:aL∈cz:=by grind
  refine⟨?_,λbe aa=>?_⟩
  ·simp only[bW,cZ G,if_true,Int.toNat_natCast,apD,cL G,A.br,Option.isSome_some,Option.getD_some];by_cases IC:aL<0
   ·have mS:o0 s cz i=some []:=by unfold o0;grind
    rw[EG mS];simp_all
   ·have hH:aL<(s.2.2.1.length:Int):=ao.2 aL apE;have apF:=ZB (s:=s) (by omega) hH;have gM:0<=aL/\aL<(s.2.2.1.length:Int):=⟨by omega,hH⟩
    have gq:(dq s).1=s:=rfl;have Bh:List.getD s.2.2.2.1 i ([],(0,0),0,0,0)=mF s (i:Int):=rfl;have Pw:List.getD s.2.2.1 aL.toNat (0,0,0,0,[])=nm s aL:=rfl;simp only[IC,decide_false,Bool.false_eq_true,if_false,gq,cL s8,A.bz gM,A.br,aP.sh,A.dJ,Bh,Pw];have mS:o0 s cz i=(wm s (mF s (i:Int)) (nm s aL)).map λd=>(nm s aL).2.2.2.2.map λk=>((nm s aL).2.2.2.1,k,d):=by unfold o0;grind
    rw[A.bz (show wh.pre (mF s (i:Int),nm s aL) from af.gL.2.2.2.2.2.2 _ IN)];obtain⟨ax_,_⟩:=ZC af IN;have lS:=af.apq;obtain⟨apt,iC,CZ⟩:=Pu af apF;have apG:=bC (n:=(mF s (i:Int)).2.2.2.1 - s.2.2.2.2.2) (by omega) (by omega);generalize mF s (i:Int)=x at *
    generalize nm s aL=p at *
    by_cases aX:s6 x p=0
    ·have aw:wm s x p=none:=by unfold wm;grind
     rw[aw]at mS;rw[IK mS];simp only[aX,decide_true,if_true,A.aH,A.pw,W.ho]
    ·by_cases U:s6 x p=2;all_goals simp only[aX,U,decide_true,decide_false,Bool.false_eq_true,if_false,if_true,A.aH,A.b2,apG,Int.reduceEq]
     ·have aw:wm s x p=(if x.2.2.2.1 - s.2.2.2.2.2<0 then none else some (x.2.2.2.1 - s.2.2.2.2.2)):=by unfold wm;grind
      generalize x.2.2.2.1 - s.2.2.2.2.2=d at *
      by_cases ri:d<0
      ·rw[if_pos ri]at aw;rw[aw]at mS;rw[IK mS];simp_all
      ·rw[if_neg ri]at aw;rw[aw]at mS;rw[EG mS];simp only[ri,decide_false,Bool.false_eq_true,if_false];rw[A.f_ p.2.2.2.2 (λk acc=>(some (dq s),d,cz,(cz.length:Int),(i:Int),p.2.2.2.2,(p.2.2.2.2.length:Int),(k:Int),acc,p,())) (λk acc=>.next (acc++[(p.2.2.2.1,k,d)])) (λacc=>.next (some (dq s),cz,(cz.length:Int),(i:Int),acc,())) (λk yr=>yr.length<=4*i+k) acc ?_ ?_ ?_ ?_]
       ·rw[ej,xV];simp_all
       ·rfl
       ·omega
       ·intro k an yr apH;have mC:=bC (n:=(k:Int)+1) (by omega) (by omega);have lP:b6 (yr.length+(0+1)):=by unfold b6;omega
        refine⟨?_,λbe aa=>?_⟩
        ·simp_all
        grind
       simp
     ·have aw:wm s x p=(if x.2.2.2.1<0 then none else some x.2.2.2.1):=by unfold wm;grind
      generalize x.2.2.2.1=d at *
      by_cases ri:d<0
      ·omega
      ·rw[if_neg ri]at aw;rw[aw]at mS;rw[EG mS];simp only[ri,decide_false,Bool.false_eq_true,if_false];rw[A.f_ p.2.2.2.2 (λk acc=>(some (dq s),d,cz,(cz.length:Int),(i:Int),p.2.2.2.2,(p.2.2.2.2.length:Int),(k:Int),acc,p,())) (λk acc=>.next (acc++[(p.2.2.2.1,k,d)])) (λacc=>.next (some (dq s),cz,(cz.length:Int),(i:Int),acc,())) (λk yr=>yr.length<=4*i+k) acc ?_ ?_ ?_ ?_]
       ·rw[ej,xV];simp_all
       ·rfl
       ·omega
       ·intro k an yr apH;have mC:=bC (n:=(k:Int)+1) (by omega) (by omega);have lP:b6 (yr.length+(0+1)):=by unfold b6;omega
        refine⟨?_,λbe aa=>?_⟩
        ·simp_all
        grind
       simp
  ·cases mS:o0 s cz i with
   | none=>rw[IK mS]at aa;cases aa
   | some y=>
    rw[EG mS]at aa;cases aa;have:=ZD af ao G mS;grind
 simp
theorem apI(x):A.le (NL wh.sh x) (IM.sh x):=A.bw λh=>by
 obtain⟨o,cz⟩:=x;obtain⟨s,⟨ar,af⟩,ao⟩:=h;change o=_ at ar;subst ar;exact apC s af cz ao
def rL(s:bI)(cz:z1'):Int:=((List.range cz.length).map λ(i:Nat)=>if cz.getD i 0=-1 then 0 else (mF s (i:Int)).2.2.2.2).foldl (·+·) 0
abbrev s9:aP:=⟨.az wk fP,bx,λx=>∃ s,wo x.1 s/\x.2.length<=s.2.2.2.1.length,λx=>rL (n_ x.1) x.2⟩
theorem apJ(s:bI)(af:l6 s)(cz:z1')(ao:cz.length<=s.2.2.2.1.length):NR (some (dq s),cz)=A.pure (rL s cz):=by
 unfold NR;have Bg:=af.s7;rw[A.f_ (List.range cz.length) (λi (n:Int)=>(some (dq s),n,cz,(cz.length:Int),(i:Int),())) (λ(i:Nat) n=>.next (n+if cz.getD i 0=-1 then 0 else (mF s (i:Int)).2.2.2.2)) (λn=>.next (n,())) (λi n=>0<=n/\n<=100000*i) 0 ?_ ?_ ?_ ?_]
 ·rw[ej];unfold rL;rw[List.foldl_map,A.aH,A.b2]
 ·rfl
 ·simp
 ·intro i G n aA;have G:i<cz.length:=by grind
  have s8:i<s.2.2.2.1.length:=by omega
  have h4:=bC (n:=(i:Int)+1) (by omega) (by omega);obtain⟨_,oC⟩:=ZC af (Pv s8);have Bh:List.getD s.2.2.2.1 i ([],(0,0),0,0,0)=mF s (i:Int):=rfl;have Ba:=bC (n:=n+(mF s (i:Int)).2.2.2.2) (by omega) (by omega);have gq:(dq s).1=s:=rfl;rw[List.getElem_range];refine⟨?_,λbe aa=>?_⟩
  ·simp only[bW,cZ G,if_true,Int.toNat_natCast,cL G,cL s8,A.br,Option.isSome_some,Option.getD_some,cm,gq,Bh];by_cases E:cz.getD i 0=-1
   ·simp only[E,ne_eq,not_true,decide_false,Bool.false_eq_true,if_false,if_true,A.aH,A.b2,h4,Int.add_zero,W.ho];rfl
   ·simp only[E,ne_eq,not_false_iff,decide_true,if_false,if_true,cL s8,A.br,A.aH,A.b2,h4,Ba,W.ho];rfl
  grind
 simp
theorem apK(x):A.le (NR x) (s9.sh x):=A.bw λh=>by
 obtain⟨o,cz⟩:=x;obtain⟨s,⟨ar,af⟩,ao⟩:=h;change o=_ at ar;subst ar;exact apJ s af cz ao
theorem EH{l:z1'}{j i:Nat}{s:Int}(aG:j<l.length):(l.set j s).getD i 0=if i=j then s else l.getD i 0:=by
 grind
theorem apL{J i:Nat}(h:i<J):(List.replicate J (-1:Int)).getD i 0=-1:=by
 grind
theorem ZF(a b:Int):(if a=b then 1 else 0)=(if b=a then 1 else (0:Nat)):=by
 grind
def gR(g:z1')(j:Int):Nat:=g.countP λx=>decide (x=j)
theorem Px:∀ {g:z1'} {i:Nat} {x:Int} (j:Int),i<g.length->gR (g.set i x) j+(if g.getD i 0=j then 1 else 0)=gR g j+(if x=j then 1 else 0)
 | [],i,x,j,h=>by grind
 | y::g,0,x,j,h=>by
  unfold gR;grind
 | y::g,i+1,x,j,h=>by
  have:=Px (g:=g) (i:=i) (x:=x) j (by grind);unfold gR at *
  grind
theorem apM{g:z1'}{i:Nat}{j:Int}(G:i<g.length)(h:g.getD i 0=j):0<gR g j:=by
 unfold gR;grind
def n'(gd:Nat->Int->Bool)(rec:Int->k1->Bool×k1)(own:Int)(i:Nat)(st:k1):W k1 (Bool×k1):=
 if (decide (cU st.2 (i:Int) > 0)||!gd i own)=true then .next st
 else if decide (st.1.getD i 0=-1)=true then .done (true,(st.1.set i own,fb st.2 (i:Int) (cU st.2 (i:Int)+1)))
 else if (rec (st.1.getD i 0) (st.1,fb st.2 (i:Int) (cU st.2 (i:Int)+1))).1=true then .done (true,((rec (st.1.getD i 0) (st.1,fb st.2 (i:Int) (cU st.2 (i:Int)+1))).2.1.set i own,(rec (st.1.getD i 0) (st.1,fb st.2 (i:Int) (cU st.2 (i:Int)+1))).2.2))
 else .next (rec (st.1.getD i 0) (st.1,fb st.2 (i:Int) (cU st.2 (i:Int)+1))).2
def jZ(gd:Nat->Int->Bool)(m:Nat):Nat->Int->k1->Bool×k1
 | 0=>λ_ st=>(false,st)
 | f+1=>λown st=>e0 (n' gd (jZ gd m f) own) (λst=>(false,st)) (List.range m) st
def Py(m J:Nat)(g:z1'):Prop:=∀ i,i<m->g.getD i 0=-1\/(0<=g.getD i 0/\g.getD i 0<(J:Int))
structure yt(m J f:Nat)(st:k1):Prop where
 len:st.1.length=m
 l7:Py m J st.1
 seen:∀ k,0<=cU st.2 k/\cU st.2 k<=1
 cg:rI m st.2<f
structure Pz(m J:Nat)(st r:k1):Prop where
 len:r.1.length=m
 l7:Py m J r.1
 seen:∀ k,cU st.2 k<=cU r.2 k/\cU r.2 k<=1
def ZG(gd:Nat->Int->Bool)(m:Nat)(g:z1')(C:Int->Prop):Prop:=∀ j,C j->∀ i,i<m->gd i j=true->g.getD i 0≠-1/\C (g.getD i 0)
def ZH(gd:Nat->Int->Bool)(m:Nat)(g:z1')(s s':z4'):Prop:=∀ i,i<m->cU s (i:Int)=0->1<=cU s' (i:Int)->g.getD i 0≠-1/\∀ k,k<m->gd k (g.getD i 0)=true->1<=cU s' (k:Int)
structure PA(gd:Nat->Int->Bool)(m:Nat)(own:Int)(st:k1)(r:Bool×k1):Prop where
 PB:r.1=false->r.2.1=st.1/\(∀ i,i<m->gd i own=true->1<=cU r.2.2 (i:Int))/\ZH gd m st.1 st.2 r.2.2
 ZI:r.1=true->(∀ i,i<m->r.2.1.getD i 0=st.1.getD i 0\/(cU st.2 (i:Int)=0/\gd i (r.2.1.getD i 0)=true))/\∀ j,j≠-1->gR r.2.1 j=gR st.1 j+(if j=own then 1 else 0)
 cl:∀ C,ZG gd m st.1 C->(C own->r.1=false)/\(r.1=true->∀ i,i<m->r.2.1.getD i 0≠st.1.getD i 0->∀ c,C c->gd i c=false)
def ZJ(gd:Nat->Int->Bool)(m J f:Nat)(rec:Int->k1->Bool×k1):Prop:=∀ own st,0<=own->own<(J:Int)->yt m J f st->Pz m J st (rec own st).2/\PA gd m own st (rec own st)
theorem apN{gd:Nat->Int->Bool}{m J f:Nat}{rec:Int->k1->Bool×k1}(Ee:ZJ gd m J f rec){own:Int}(ZK:0<=own)(ZL:own<(J:Int)){st:k1}(aX:yt m J (f+1) st) :
  Pz m J st (e0 (n' gd rec own) (λst=>(false,st)) (List.range m) st).2/\PA gd m own st (e0 (n' gd rec own) (λst=>(false,st)) (List.range m) st):=by
 refine aoJ (λk b=>b.1=st.1/\(∀ q,cU st.2 q<=cU b.2 q/\cU b.2 q<=1)/\(∀ i,i<k->i<m->gd i own=true->1<=cU b.2 (i:Int))/\ZH gd m st.1 st.2 b.2)
  (λr:Bool×k1=>Pz m J st r.2/\PA gd m own st r) (List.range m) st ⟨rfl,λq=>⟨Int.le_refl _,(aX.seen q).2⟩,λi G=>by omega,λi _ E U=>by omega⟩ (λi G b aa=>?_) λb aa=>?_
 ·obtain⟨hw,nh,IP,lb⟩:=aa;have G:i<m:=by grind
  rw[List.getElem_range];have vo:∀ q,0<=cU b.2 q:=λq=>Int.le_trans (aX.seen q).1 (nh q).1;unfold n';by_cases hc:(decide (cU b.2 (i:Int) > 0)||!gd i own)=true
  ·grind
  ·rw[if_neg hc];simp only[Bool.or_eq_true,not_or,decide_eq_true_eq,Bool.not_eq_true',Bool.not_eq_false]at hc;obtain⟨bk,aC⟩:=hc;have bk:cU b.2 (i:Int)=0:=by grind
   have KU:cU st.2 (i:Int)=0:=by have:=(nh i).1;have:=(aX.seen i).1;omega
   have qa:i<st.1.length:=by rw[aX.len];exact G
   have kg:∀ q,cU b.2 q<=cU (fb b.2 (i:Int) (cU b.2 (i:Int)+1)) q/\cU (fb b.2 (i:Int) (cU b.2 (i:Int)+1)) q<=1:=λq=>by
    have:=nh q;rw[Bb];omega
   have ax':cU (fb b.2 (i:Int) (cU b.2 (i:Int)+1)) (i:Int)=1:=by rw[Bb,if_pos rfl,bk];rfl
   by_cases ar:st.1.getD i 0=-1
   ·rw[hw,if_pos (by grind)];refine⟨⟨by show (st.1.set i own).length=m;rw[List.length_set];exact aX.len,λk an=>?_,λq=>⟨Int.le_trans (nh q).1 (kg q).1,(kg q).2⟩⟩,λh=>(by cases h),λ_=>⟨λk an=>?_,λj aG=>?_⟩,λC jn=>⟨λPC=>?_,λ_ k an eD c hc=>?_⟩⟩
    ·show (st.1.set i own).getD k 0=-1\/(0<=(st.1.set i own).getD k 0/\(st.1.set i own).getD k 0<(J:Int))
     rw[EH qa];split
     ·omega
     ·exact aX.l7 k an
    ·grind
    ·have:=Px (x:=own) j qa;grind
    ·exact absurd ar (jn own PC i G aC).1
    ·change (st.1.set i own).getD k 0≠_ at eD;rw[EH qa]at eD;split at eD
     ·rename_i e;subst e;cases PD:gd k c with
      | false=>rfl
      | true=>exact absurd ar (jn c hc k G PD).1
     omega
   ·rw[hw,if_neg (by grind)];have iI:=(aX.l7 i G).resolve_left ar;have wq:yt m J f (st.1,fb b.2 (i:Int) (cU b.2 (i:Int)+1)):=by
     refine⟨aX.len,aX.l7,λq=>⟨Int.le_trans (vo q) (kg q).1,(kg q).2⟩,?_⟩;have E:=Zo (n:=m) (m:=b.2) (s:=(i:Int)) (v:=cU b.2 (i:Int)+1) (by omega) (by omega) bk (by omega);have U:=Zp (n:=m) (a:=st.2) (b:=b.2) λk=>⟨(aX.seen k).1,(nh k).1⟩
     have ah:=aX.cg;grind
    obtain⟨ao,M⟩:=Ee (st.1.getD i 0) _ iI.1 iI.2 wq;revert ao M;generalize rec (st.1.getD i 0) (st.1,fb b.2 (i:Int) (cU b.2 (i:Int)+1))=r;intro ao M;have xF:∀ q,cU (fb b.2 (i:Int) (cU b.2 (i:Int)+1)) q<=cU r.2.2 q:=λq=>(ao.seen q).1;by_cases bM:r.1=true
    ·rw[if_pos bM];obtain⟨kP,Bi⟩:=M.ZI bM;have tR:i<r.2.1.length:=by rw[ao.len];exact G
     have Cr:r.2.1.getD i 0=st.1.getD i 0:=by
      grind
     refine⟨⟨by show (r.2.1.set i own).length=m;rw[List.length_set];exact ao.len,λk an=>?_,λq=>⟨Int.le_trans (nh q).1 (Int.le_trans (kg q).1 (xF q)),(ao.seen q).2⟩⟩,λh=>(by cases h),λ_=>⟨λk an=>?_,λj aG=>?_⟩,λC jn=>⟨λPC=>?_,λ_ k an eD c hc=>?_⟩⟩
     ·show (r.2.1.set i own).getD k 0=-1\/(0<=(r.2.1.set i own).getD k 0/\(r.2.1.set i own).getD k 0<(J:Int))
      rw[EH tR];split
      ·omega
      ·exact ao.l7 k an
     ·show (r.2.1.set i own).getD k 0=_\/(_/\gd k ((r.2.1.set i own).getD k 0)=true)
      rw[EH tR];split
      ·grind
      ·rcases kP k an with e | ⟨ay,aN⟩
       ·grind
       ·right;refine⟨?_,aN⟩;have a:=(kg (k:Int)).1;have d:=nh (k:Int);have c:=(aX.seen (k:Int)).1;grind
     ·have a:=Px (x:=own) j tR;have d:=Bi j aG;change gR r.2.1 j=gR st.1 j+_ at d;rw[Cr]at a;show gR (r.2.1.set i own) j=_;rw[ZF j own];rw[ZF j (st.1.getD i 0)]at d;omega
     ·have:=(M.cl C jn).1 (jn own PC i G aC).2;grind
     ·change (r.2.1.set i own).getD k 0≠_ at eD;rw[EH tR]at eD;split at eD
      ·rename_i e;subst e;cases PD:gd k c with
       | false=>rfl
       | true=>
        have:=(M.cl C jn).1 (jn c hc k G PD).2;grind
      ·exact (M.cl C jn).2 bM k an eD c hc
    ·rw[if_neg bM];have CT:r.1=false:=by grind
     obtain⟨LR,aya,apO⟩:=M.PB CT;refine⟨LR,λq=>⟨Int.le_trans (nh q).1 (Int.le_trans (kg q).1 (xF q)),(ao.seen q).2⟩,λk an PE GM=>?_,λk PE bG ay=>?_⟩
     ·grind
     ·by_cases e:k=i
      ·grind
      ·by_cases aN:1<=cU b.2 (k:Int)
       ·obtain⟨a,c⟩:=lb k PE bG aN;grind
       ·refine apO k PE ?_ ay;show cU (fb b.2 (i:Int) (cU b.2 (i:Int)+1)) (k:Int)=0;rw[Bb,if_neg (by omega)];grind
 ·obtain⟨hw,nh,IP,lb⟩:=aa;rw[List.length_range]at IP;refine⟨⟨by rw[hw];exact aX.len,by rw[hw];exact aX.l7,nh⟩,λ_=>⟨hw,λi G aC=>IP i G G aC,lb⟩,λh=>(by cases h),λC jn=>⟨λ_=>rfl,λh=>(by cases h)⟩⟩
theorem PF{gd:Nat->Int->Bool}{m J:Nat}:∀ f,ZJ gd m J f (jZ gd m f)
 | 0=>λown st _ _ h=>absurd h.cg (by omega)
 | f+1=>λown st aX E h=>apN (PF f) aX E h
def yu(gd:Nat->Int->Bool)(m F:Nat)(st:z1'×Int)(j:Nat):z1'×Int:=((jZ gd m F (j:Int) (st.1,[])).2.1,if (jZ gd m F (j:Int) (st.1,[])).1=true then st.2 else st.2+1)
def PG(gd:Nat->Int->Bool)(m J F:Nat):z1'×Int:=(List.range J).foldl (yu gd m F) (List.replicate m (-1),0)
structure EI(gd:Nat->Int->Bool)(m J k:Nat)(st:z1'×Int):Prop where
 len:st.1.length=m
 l7:∀ i,i<m->st.1.getD i 0=-1\/(0<=st.1.getD i 0/\st.1.getD i 0<(k:Int)/\gd i (st.1.getD i 0)=true)
 one:∀ j,0<=j->gR st.1 j<=1
 num:st.2=(((List.range k).countP λ(j:Nat)=>decide (gR st.1 (j:Int)=0):Nat):Int)
 ZM:∃ C,ZG gd m st.1 C/\(∀ c,C c->0<=c/\c<(k:Int))/\∀ j:Nat,j<k->gR st.1 (j:Int)=0->C (j:Int)
theorem ZN{gd:Nat->Int->Bool}{m J F k:Nat}(bn:m<F)(an:k<J){st:z1'×Int}(h:EI gd m J k st):EI gd m J (k+1) (yu gd m F st k):=by
 obtain⟨g,n⟩:=st;have hu:rI m []<=m:=by
  unfold rI;exact Nat.le_trans List.countP_le_length (by simp)
 have wq:yt m J F (g,[]):=⟨h.len,λi G=>by have:=h.l7 i G;grind,λq=>⟨Int.le_refl _,by show (0:Int)<=1;decide⟩,by grind⟩
 obtain⟨ao,M⟩:=PF F (k:Int) (g,[]) (by omega) (by omega) wq;unfold yu;revert ao M;generalize jZ gd m F (k:Int) (g,[])=r;intro ao M;have mT:gR g (k:Int)=0:=by
  unfold gR;rw[List.countP_eq_zero];intro x ai;obtain⟨i,G,rfl⟩:=List.mem_iff_getElem.1 ai;have:=h.l7 i (by rw[<-h.len];exact G);grind
 obtain⟨C,jn,ayb,ayc⟩:=h.ZM;by_cases aa:r.1=true
 ·obtain⟨kP,Bi⟩:=M.ZI aa;have ayd:=(M.cl C jn).2 aa;refine⟨ao.len,λi G=>?_,λj aG=>?_,?_,C,λc ua i G EJ=>?_,λc ua=>?_,λj aG hu=>?_⟩
  ·show r.2.1.getD i 0=-1\/_;rcases kP i G with e | ⟨ay,aN⟩
   ·rw[e];rcases h.l7 i G with a | a
    ·exact .inl a
    ·exact .inr ⟨a.1,by have:=a.2.1;show g.getD i 0<_;change g.getD i 0<_ at this;omega,a.2.2⟩
   ·by_cases kg:r.2.1.getD i 0=-1
    ·omega
    ·refine .inr ⟨?_,?_,aN⟩
     ·have:=(ao.l7 i G).resolve_left kg;grind
     ·have E:=Bi _ kg;have U:0<gR r.2.1 (r.2.1.getD i 0):=apM (by rw[ao.len];exact G) rfl;by_cases e:r.2.1.getD i 0=(k:Int)
      ·grind
      ·rw[if_neg e]at E;have ah:0<gR g (r.2.1.getD i 0):=by grind
       unfold gR at ah;rw[List.countP_pos_iff]at ah;obtain⟨x,ai,e_⟩:=ah;obtain⟨q,bq,rfl⟩:=List.mem_iff_getElem.1 ai;have:=h.l7 q (by rw[<-h.len];exact bq);grind
  ·have E:=Bi j (by omega);have U:=h.one j aG;change gR r.2.1 j=gR g j+_ at E;change gR g j<=1 at U;show gR r.2.1 j<=1;by_cases e:j=(k:Int)
   ·subst e;rw[if_pos rfl]at E;omega
   ·rw[if_neg e]at E;omega
  ·rw[if_pos aa];have E:=h.num;change n=_ at E;show n=_;rw[E,List.range_succ,List.countP_append];have U:∀ j:Nat,j<k->gR r.2.1 (j:Int)=gR g (j:Int):=λj aG=>by
    have:=Bi (j:Int) (by omega);rw[if_neg (by omega)]at this;omega
   have ah:gR r.2.1 (k:Int)=1:=by
    grind
   have aZ:(List.range k).countP (λ(j:Nat)=>decide (gR r.2.1 (j:Int)=0))=(List.range k).countP (λ(j:Nat)=>decide (gR g (j:Int)=0)):=List.countP_congr λj aG=>by grind
   simp_all
  ·show r.2.1.getD i 0≠-1/\C (r.2.1.getD i 0);by_cases e:r.2.1.getD i 0=g.getD i 0
   ·rw[e];exact jn c ua i G EJ
   grind
  ·grind
  ·change gR r.2.1 (j:Int)=0 at hu;have E:=Bi (j:Int) (by omega);change gR r.2.1 _=gR g _+_ at E;by_cases e:j=k
   ·grind
   ·rw[if_neg (by omega)]at E;grind
 ·have CT:r.1=false:=by grind
  obtain⟨hw,IP,lb⟩:=M.PB CT;change r.2.1=g at hw;simp only[hw];refine⟨h.len,λi G=>?_,h.one,?_,λc=>C c\/c=(k:Int)\/∃ i,i<m/\1<=cU r.2.2 (i:Int)/\c=g.getD i 0,λc ua i G EJ=>?_,λc ua=>?_,λj aG hu=>?_⟩
  ·rcases h.l7 i G with a | a
   ·exact .inl a
   ·exact .inr ⟨a.1,by have:=a.2.1;show g.getD i 0<_;change g.getD i 0<_ at this;omega,a.2.2⟩
  ·rw[if_neg aa];have E:=h.num;change n=_ at E;show n+1=_;rw[E,List.range_succ,List.countP_append];grind
  ·have aA:1<=cU r.2.2 (i:Int)->g.getD i 0≠-1/\(C (g.getD i 0)\/g.getD i 0=(k:Int)\/∃ q,q<m/\1<=cU r.2.2 (q:Int)/\g.getD i 0=g.getD q 0):=λaD=>⟨(lb i G rfl aD).1,.inr (.inr ⟨i,G,aD,rfl⟩)⟩
   rcases ua with e | e | ⟨q,bq,aD,e⟩
   ·exact⟨(jn c e i G EJ).1,.inl (jn c e i G EJ).2⟩
   ·grind
   ·subst e;exact aA ((lb q bq rfl aD).2 i G EJ)
  ·rcases ua with e | e | ⟨q,bq,aD,e⟩
   ·grind
   ·omega
   ·have:=(h.l7 q bq).resolve_left (lb q bq rfl aD).1;grind
  grind
theorem apP(gd:Nat->Int->Bool)(m J F:Nat)(bn:m<F):EI gd m J J (PG gd m J F):=by
 unfold PG;have key:∀ k,k<=J->EI gd m J k ((List.range k).foldl (yu gd m F) (List.replicate m (-1),0)):=by
  intro k;induction k with
  | zero=>
   intro _;refine⟨by simp,λi G=>.inl (apL G),λj aG=>?_,by simp,λ_=>False,λ_ h=>h.elim,λ_ h=>h.elim,λj aG=>by omega⟩;show gR (List.replicate m (-1)) j<=1;have:gR (List.replicate m (-1)) j=0:=by
    unfold gR;grind
   omega
  | succ k aJ=>
   intro an;rw[List.range_succ,List.foldl_append];exact ZN bn (by omega) (aJ (by omega))
 grind
def rM(t:dw)(sp:Int×Int)(j:rK):Bool:=decide (sp.2<=j.2.2)&&decide ((oX t.2.2 (sp.1,j.1,j.2.1)).getD 0 > 0)
abbrev Bj:aP:=⟨.az wk (.az IE IL),dk,λx=>∃ t,x.1=some t,λx=>rM (x.1.getD yq) x.2.1 x.2.2⟩
theorem apQ(x):A.le (V3 x) (Bj.sh x):=A.bw λh=>by
 obtain⟨o,sp,j⟩:=x;obtain⟨t,ar⟩:=h;change o=_ at ar;subst ar;unfold V3;simp only[Option.isSome_some,Option.getD_some,and_true,true_and,and_self,imp_self,implies_true,A.br];rfl
def EK(t:dw)(l:List rK):Bool:=l.all λj=>(List.range t.1.2.1.length).any λ(i:Nat)=>rM t ((i:Int),0) j
abbrev PH:aP:=⟨.az wk (.slice IL),dk,λx=>∃ t,x.1=some t/\t.1.2.1.length<2 ^ 63/\x.2.length<2 ^ 63,λx=>EK (x.1.getD yq) x.2⟩
theorem apR(t:dw)(l:List rK)(E:t.1.2.1.length<2 ^ 63)(U:l.length<2 ^ 63):NM Bj.sh (some t,l)=A.pure (EK t l):=by
 unfold NM;rw[A.dL l (λi (_:Unit)=>(some t,l,(l.length:Int),(i:Int),())) (λj b=>if (!(List.range t.1.2.1.length).any λ(i:Nat)=>rM t ((i:Int),0) j)=true then .done (.done false) else .next b) (λ_=>.next ()) () ?_ ?_ ?_]
 ·rw[kR (q:=λj=>(List.range t.1.2.1.length).any λ(i:Nat)=>rM t ((i:Int),0) j) _ _ (λ_=>rfl)];unfold EK;cases l.all λj=>(List.range t.1.2.1.length).any λ(i:Nat)=>rM t ((i:Int),0) j<;>simp
 ·rfl
 ·intro i G b;have hw:=bC (n:=(i:Int)+1) (by omega) (by omega);simp only[bW,cZ G,if_true,dm G,cL G,A.br,Option.isSome_some,Option.getD_some];rw[A.dL (List.range t.1.2.1.length) (λk (b:Bool)=>(some t,b,l,(l.length:Int),(i:Int),(t.1.2.1.length:Int),(k:Int),l[i],())) (λ(k:Nat) b=>.next (b||rM t ((k:Int),0) l[i])) (λb=>.next (some t,b,l,(l.length:Int),(i:Int),())) false ?_ ?_ ?_]
  ·rw[ej];have e:∀ (r:List Nat) (b:Bool),r.foldl (λ(b:Bool) (k:Nat)=>b||rM t ((k:Int),0) l[i]) b=(b||r.any λ(k:Nat)=>rM t ((k:Int),0) l[i]):=by
    intro r;induction r with
    | nil=>simp
    | cons k r aJ=>grind
   rw[e,Bool.false_or];simp only[A.aH,A.b2];cases (List.range t.1.2.1.length).any λ(k:Nat)=>rM t ((k:Int),0) l[i]<;>simp[W.ho,hw]
  ·rfl
  ·intro k an b;have an:k<t.1.2.1.length:=by grind
   have mC:=bC (n:=(k:Int)+1) (by omega) (by omega);simp only[cZ an,if_true,List.getElem_range,aP.sh,A.jb,A.dJ];rw[A.bz (by simp)];simp only[Option.getD_some,cm,mC,W.ho];grind
  simp
 simp
theorem apS(x):A.le (NM Bj.sh x) (PH.sh x):=A.bw λh=>by
 obtain⟨o,l⟩:=x;obtain⟨t,ar,E,U⟩:=h;change o=_ at ar;subst ar;exact apR t l E U
def hb(t:dw)(l:List rK)(i:Nat)(j:Int):Bool:=rM t (t.2.1.getD i (0,0)) (l.getD j.toNat (0,0,0))
abbrev PI:=Option dw×List rK×Int×z4'×z1'×Unit
abbrev ZO:=Bool×z4'×z1'×Unit
def uN(r:Bool×k1):ZO:=(r.1,r.2.2,r.2.1,())
def PJ(f:Nat)(x:PI):Prop:=∃ t,x.1=some t/\t.2.1.length<=200/\x.2.1.length<=1000/\0<=x.2.2.1/\x.2.2.1<(x.2.1.length:Int)/\yt t.2.1.length x.2.1.length f (x.2.2.2.2.1,x.2.2.2.1)
def uO(f:Nat)(x:PI):A ZO:=A.dI (PJ f x) (uN (jZ (hb (x.1.getD yq) x.2.1) (x.1.getD yq).2.1.length f x.2.2.1 (x.2.2.2.2.1,x.2.2.2.1)))
theorem apT{t:dw}{l:List rK}(hm:t.2.1.length<=200)(ak:l.length<=1000){f:Nat}{own:Int}(ZK:0<=own)(ZL:own<(l.length:Int)){st:k1}(aX:yt t.2.1.length l.length (f+1) st) :
  NU Bj.sh (uO f) (some t,l,own,st.2,st.1,())=A.pure (uN (jZ (hb t l) t.2.1.length (f+1) own st)):=by
 have Ee:=PF (gd:=hb t l) (m:=t.2.1.length) (J:=l.length) f;unfold NU;simp only[bW,A.br,aoK,Option.isSome_some,Option.getD_some];rw[A.f_ (List.range t.2.1.length) (λi (b:k1)=>(some t,l,own,t.2.1,(t.2.1.length:Int),(i:Int),b.2,b.1,())) (λi b=>W.uK (λr=>.done (uN r)) (n' (hb t l) (jZ (hb t l) t.2.1.length f) own i b)) (λb=>.next (b.2,b.1,())) (λi b=>b.1=st.1/\∀ q,cU st.2 q<=cU b.2 q/\cU b.2 q<=1) st ?_ ?_ ?_ ?_]
 ·show _=A.pure (uN (e0 (n' (hb t l) (jZ (hb t l) t.2.1.length f) own) (λst=>(false,st)) (List.range t.2.1.length) st));rw[Pj,Pj,Zq];cases yl (n' (hb t l) (jZ (hb t l) t.2.1.length f) own) (List.range t.2.1.length) st<;>(simp only[W.uK,W.fin,A.aH,A.b2,A.pw];try rfl)
 ·rfl
 ·exact⟨rfl,λq=>⟨Int.le_refl _,(aX.seen q).2⟩⟩
 ·intro i G b aa;have G:i<t.2.1.length:=by grind
  have lx:=bC (n:=(i:Int)+1) (by omega) (by omega);rw[List.getElem_range];have apU:b.1.length=t.2.1.length:=by rw[aa.1];exact aX.len
  have eM:i<b.1.length:=by omega
  have apV:0<=own/\own<(l.length:Int):=⟨ZK,ZL⟩
  have kP:=aa.2 (i:Int);have m_:=aX.seen (i:Int);simp only[bW,cZ G,if_true,cL G,cL eM,A.br,apV,aP.sh,A.n3,A.gN,Int.toNat_natCast,Option.getD_some];have zj:rM t (t.2.1.getD i (0,0)) (l.getD own.toNat (0,0,0))=hb t l i own:=rfl;rw[zj];have apW:(∃ c1,(some t:Option dw)=some c1)=True:=by simp
  simp only[apW,and_true,true_and,and_self,imp_self,implies_true,A.br];by_cases IQ:cU b.2 (i:Int) > 0
  ·have hu:n' (hb t l) (jZ (hb t l) t.2.1.length f) own i b=.next b:=by unfold n';grind
   rw[hu];refine⟨?_,λbe cW=>by cases cW;exact aa⟩;simp only[IQ,decide_true,Bool.true_or,if_true,A.aH,A.b2,cm,lx,W.ho,W.uK,Bool.not_true,Bool.false_eq_true,false_imp_iff,Bool.true_eq_false,A.br,and_self,implies_true];rfl
  ·by_cases aC:hb t l i own=true
   ·have bk:cU b.2 (i:Int)=0:=by omega
    have IJ:=bC (n:=cU b.2 (i:Int)+1) (by omega) (by omega);have kg:∀ q,cU b.2 q<=cU (fb b.2 (i:Int) (cU b.2 (i:Int)+1)) q/\cU (fb b.2 (i:Int) (cU b.2 (i:Int)+1)) q<=1:=λq=>by
     have:=aa.2 q;rw[Bb];omega
    have Kv:¬(decide (cU b.2 (i:Int) > 0)||!hb t l i own)=true:=by grind
    by_cases ar:b.1.getD i 0=-1
    ·have hu:n' (hb t l) (jZ (hb t l) t.2.1.length f) own i b=.done (true,(b.1.set i own,fb b.2 (i:Int) (cU b.2 (i:Int)+1))):=by
      unfold n';grind
     rw[hu];refine⟨?_,λbe cW=>by cases cW⟩;simp only[IQ,aC,ar,decide_true,decide_false,Bool.not_true,Bool.not_false,Bool.or_self,Bool.false_eq_true,if_false,if_true,false_imp_iff,Bool.true_eq_false,Bool.true_or,A.br,A.aH,A.pw,cm,IJ,cL eM,W.ho,W.uK,and_self,implies_true,true_imp_iff];rfl
    ·have aye:=aX.l7 i G;have aG:0<=b.1.getD i 0/\b.1.getD i 0<(l.length:Int):=by grind
     have wq:yt t.2.1.length l.length f (b.1,fb b.2 (i:Int) (cU b.2 (i:Int)+1)):=by
      refine⟨apU,?_,λk=>⟨?_,(kg k).2⟩,?_⟩
      ·show Py _ _ b.1;rw[aa.1];exact aX.l7
      ·have:=(kg k).1;have:=aa.2 k;have:=(aX.seen k).1;grind
      ·have E:=Zo (n:=t.2.1.length) (m:=b.2) (s:=(i:Int)) (v:=cU b.2 (i:Int)+1) (by omega) (by omega) bk (by omega);have U:=Zp (n:=t.2.1.length) (a:=st.2) (b:=b.2) λk=>⟨(aX.seen k).1,(aa.2 k).1⟩
       have ah:=aX.cg;grind
     obtain⟨Ab,apX⟩:=Ee (b.1.getD i 0) (b.1,fb b.2 (i:Int) (cU b.2 (i:Int)+1)) aG.1 aG.2 wq;have gH:PJ f (some t,l,b.1.getD i 0,fb b.2 (i:Int) (cU b.2 (i:Int)+1),b.1,()):=⟨t,rfl,hm,ak,aG.1,aG.2,wq⟩
     have vw:uO f (some t,l,b.1.getD i 0,fb b.2 (i:Int) (cU b.2 (i:Int)+1),b.1,())=A.pure (uN (jZ (hb t l) t.2.1.length f (b.1.getD i 0) (b.1,fb b.2 (i:Int) (cU b.2 (i:Int)+1)))):=A.bR gH _;simp only[IQ,aC,ar,decide_true,decide_false,Bool.not_true,Bool.not_false,Bool.or_self,Bool.false_eq_true,if_false,if_true,false_imp_iff,Bool.true_eq_false,Bool.false_or,A.br,cm,IJ,and_self,implies_true,true_imp_iff,vw,A.aH];have tR:(jZ (hb t l) t.2.1.length f (b.1.getD i 0) (b.1,fb b.2 (i:Int) (cU b.2 (i:Int)+1))).2.1.length=t.2.1.length:=Ab.len;have ayf:=Ab.seen;have ayg:=apX.PB;have ZP:n' (hb t l) (jZ (hb t l) t.2.1.length f) own i b=if (jZ (hb t l) t.2.1.length f (b.1.getD i 0) (b.1,fb b.2 (i:Int) (cU b.2 (i:Int)+1))).1=true then .done (true,((jZ (hb t l) t.2.1.length f (b.1.getD i 0) (b.1,fb b.2 (i:Int) (cU b.2 (i:Int)+1))).2.1.set i own,(jZ (hb t l) t.2.1.length f (b.1.getD i 0) (b.1,fb b.2 (i:Int) (cU b.2 (i:Int)+1))).2.2)) else .next (jZ (hb t l) t.2.1.length f (b.1.getD i 0) (b.1,fb b.2 (i:Int) (cU b.2 (i:Int)+1))).2:=by
      unfold n';grind
     rw[ZP];clear ZP vw;generalize jZ (hb t l) t.2.1.length f (b.1.getD i 0) (b.1,fb b.2 (i:Int) (cU b.2 (i:Int)+1))=r at *
     obtain⟨ok,g',s'⟩:=r;have qa:i<g'.length:=by grind
     cases ok with
     | true=>
      refine⟨?_,λbe cW=>by cases cW⟩;simp only[uN,if_true,cL qa,A.br,A.aH,A.pw,W.ho,W.uK]
     | false=>
      refine⟨?_,λbe cW=>?_⟩
      ·simp only[uN,Bool.false_eq_true,if_false,A.aH,A.b2,cm,lx,W.ho,W.uK];rfl
      ·cases cW;grind
   ·have hu:n' (hb t l) (jZ (hb t l) t.2.1.length f) own i b=.next b:=by unfold n';grind
    rw[hu];refine⟨?_,λbe cW=>by cases cW;exact aa⟩;simp only[IQ,aC,decide_false,Bool.not_false,Bool.or_true,if_true,A.aH,A.b2,cm,lx,W.ho,W.uK,Bool.false_eq_true,A.br,and_self,implies_true];rfl
 simp
theorem apY(f:Nat)(x):A.le (NU Bj.sh (uO f) x) (uO (f+1) x):=A.bw λh=>by
 obtain⟨o,l,own,seen,g,u⟩:=x;obtain⟨t,ar,hm,ak,aX,E,wq⟩:=h;change o=_ at ar;subst ar;exact apT (st:=(g,seen)) hm ak aX E wq
theorem apZ(x:PI):¬(uO 0 x).cq:=λ⟨_,_,_,_,_,_,h⟩=>absurd h.cg (by omega)
def yv(t:dw)(l:List rK):Int:=(PG (hb t l) t.2.1.length l.length 201).2
abbrev IS:aP:=⟨.az wk (.slice IL),bx,λx=>∃ t,x.1=some t/\t.2.1.length<=200/\x.2.length<=1000,λx=>yv (x.1.getD yq) x.2⟩
theorem ap0(t:dw)(l:List rK)(hm:t.2.1.length<=200)(ak:l.length<=1000):NN wg (uO 201) (some t,l)=A.pure (yv t l):=by
 unfold NN;simp only[bW,Option.isSome_some,Option.getD_some,A.br];unfold wg;simp only[A.dJ];rw[A.bz (by grind)];simp only[Int.toNat_natCast];rw[A.f_ (List.range l.length) (λi (b:z1'×Int)=>(some t,l,b.2,(l.length:Int),(i:Int),b.1,())) (λi b=>.next (yu (hb t l) t.2.1.length 201 b i)) (λb=>.next (b.2,())) (λi b=>EI (hb t l) t.2.1.length l.length i b/\0<=b.2/\b.2<=(i:Int)) (List.replicate t.2.1.length (-1),0) ?_ ?_ ?_ ?_]
 ·rw[ej,A.aH,A.b2];rfl
 ·rfl
 ·refine⟨?_,by simp⟩;have:=apP (hb t l) t.2.1.length 0 201 (by omega);exact⟨this.len,this.l7,this.one,this.num,this.ZM⟩
 ·intro i G b aa;have G:i<l.length:=by grind
  have lx:=bC (n:=(i:Int)+1) (by omega) (by omega);rw[List.getElem_range];obtain⟨g,n⟩:=b;obtain⟨aa,se,qb⟩:=aa;change 0<=n at se;change n<=(i:Int) at qb;have Ba:=bC (n:=n+1) (by omega) (by omega);have gH:PJ 201 (some t,l,(i:Int),[],g,()):=by
   refine⟨t,rfl,hm,ak,Int.natCast_nonneg i,Int.ofNat_lt.2 G,aa.len,λk an=>?_,λk=>by show 0<=cU [] k/\cU [] k<=1;simp[cU,uJ],?_⟩
   ·rcases aa.l7 k an with h | h
    ·exact .inl h
    ·exact .inr ⟨h.1,Int.lt_trans h.2.1 (Int.ofNat_lt.2 G)⟩
   ·have:rI t.2.1.length []<=t.2.1.length:=by
     unfold rI;exact Nat.le_trans List.countP_le_length (by simp)
    grind
  have vw:uO 201 (some t,l,(i:Int),[],g,())=A.pure (uN (jZ (hb t l) t.2.1.length 201 (i:Int) (g,[]))):=A.bR gH _;have Db:=ZN (F:=201) (by omega) G aa;refine⟨?_,λbe cW=>?_⟩
  ·simp only[cZ G,if_true,vw,A.aH,uN];unfold yu;cases cC:(jZ (hb t l) t.2.1.length 201 (i:Int) (g,[])).1 with
   | true=>
    simp_all
   | false=>
    simp_all
  ·cases cW;refine⟨Db,?_⟩;have ay:(0:Int)<=n+1:=by omega
   have aN:n+1<=((i+1:Nat):Int):=by omega
   have cA:n<=((i+1:Nat):Int):=by omega
   unfold yu;omega
 simp
theorem ap1(x):A.le (NN wg (uO 201) x) (IS.sh x):=A.bw λh=>by
 obtain⟨o,l⟩:=x;obtain⟨t,ar,E,U⟩:=h;change o=_ at ar;subst ar;exact ap0 t l E U
theorem ZQ{s:bI}(af:l6 s):(Ps s).length<=200:=by
 have E:∀ (l:List Nat),(∀ i∈l,i<s.2.1.length)->(l.flatMap λ(i:Nat)=>ly ((i:Int),0) (s.2.1.getD i 0)).length<=10*l.length:=by
  intro l;induction l with
  | nil=>simp
  | cons i l aJ=>
   intro ak;have E:=aJ λj aG=>ak j (by grind);have U:=ak i (by simp);have ah:=af.Pq _ (List.getElem_mem U);have iM:s.2.1.getD i 0=s.2.1[i]:=by grind
   rw[List.flatMap_cons,List.length_append,List.length_cons,iM];simp only[ly,List.length_replicate];simp only[ly]at E;omega
 have U:∀ (l:List DO),(∀ d∈l,oZ s.1 d=true)->(l.flatMap λd=>ly (d.2.1,d.1) d.2.2).length<=10*l.length:=by
  intro l;induction l with
  | nil=>simp
  | cons d l aJ=>
   intro ak;have E:=aJ λj aG=>ak j (by grind);have ah:=ak d (by simp);simp only[oZ,b4,Bool.and_eq_true,decide_eq_true_eq]at ah;rw[List.flatMap_cons,List.length_append,List.length_cons];simp only[ly,List.length_replicate];simp only[ly]at E;omega
 have a:=E (List.range s.2.1.length) λi G=>by grind
 have b:=U s.2.2.2.2.1 af.Zw;have c:=af.Zx;have d:=af.Pr;have e:=af.EE;unfold Ps EF ZA;grind
theorem ZR{s:bI}(af:l6 s){cz:z1'}(ao:n9 s cz):(lz s cz).1.length<=24:=by
 unfold lz;split
 ·have:∀ (l:List Nat),(∀ i∈l,i<cz.length)->(l.flatMap λi=>(o0 s cz i).getD []).length<=4*l.length:=by
   intro l;induction l with
   | nil=>simp
   | cons i l aJ=>
    intro ak;have E:=aJ λj aG=>ak j (by grind);have U:=ak i (by simp);rw[List.flatMap_cons,List.length_append,List.length_cons];have:((o0 s cz i).getD []).length<=4:=by
     cases h:o0 s cz i with
     | none=>simp
     | some y=>exact ZD af ao U h
    omega
  have a:=this (List.range cz.length) λi G=>by grind
  rw[List.length_range]at a;have:=ao.1;have:=af.s7;grind
 ·simp
def pP(s:bI)(cz:z1'):Bool:=(lz s cz).2&&decide (yv (dq s) (lz s cz).1=0)
abbrev wu:aP:=⟨.az wk fP,dk,λx=>∃ s,wo x.1 s/\n9 s x.2,λx=>pP (n_ x.1) x.2⟩
theorem ap2(x):A.le (VW IM.sh IS.sh x) (wu.sh x):=A.bw λh=>by
 obtain⟨o,cz⟩:=x;obtain⟨s,⟨ar,af⟩,ao⟩:=h;change o=_ at ar;subst ar;unfold VW;simp only[aP.sh,A.dJ,A.jb];rw[A.bz (by exact⟨s,⟨rfl,af⟩,ao⟩),A.bz (by exact λ_=>⟨dq s,rfl,ZQ af,Nat.le_trans (ZR af ao) (by omega)⟩)];show A.pure ((lz s cz).2&&decide ((if (lz s cz).2=true then yv (dq s) (lz s cz).1 else 0)=0))=A.pure (pP s cz);unfold pP;grind
def Bk(s:bI)(first:z1')(p:Nat):Bool:=!(first.contains (p:Int)||decide (s6 (mF s (first.length:Int)) (nm s (p:Int))=0))
def kk(s:bI)(e:Int):Nat->z1'->List (z1')
 | 0,first=>[first]
 | n+1,first=>((List.range s.2.2.1.length).flatMap λp=>if Bk s first p=true then kk s e n (first++[(p:Int)]) else [])++(if e=0 then [] else kk s e n (first++[-1]))
abbrev ZS:Type:=Nat×(List (z1')->Prop)×List (z1')×Bool
abbrev PK:Type:=Option dw×z1'×Int×Nat×ZS×Unit
abbrev ZT:Type:=Bool×ZS×Unit
structure PL(f:Nat)(x:PK)(s:bI)(n:Nat)(a b:List (z1')):Prop where
 ayh:wo x.1 s
 len:x.2.1.length+n=s.2.2.2.1.length
 cg:n<f
 ayi:x.2.2.2.2.1.1=x.2.2.2.1
 bB:x.2.2.2.2.1.2.2.2=false
 seq:x.2.2.2.2.1.2.1=λT=>T=a++kk s x.2.2.1 n x.2.1++b
 pos:x.2.2.2.2.1.2.2.1=a
def ap3(x:PK)(y:ZT):Prop:=y.2.1.1=x.2.2.2.1/\y.2.1.2.1=x.2.2.2.2.1.2.1/\(y.1=true->y.2.1.2.2.2=false/\y.2.1.2.2.1=x.2.2.2.2.1.2.2.1++kk (n_ x.1) x.2.2.1 ((n_ x.1).2.2.2.1.length - x.2.1.length) x.2.1)/\(y.1=false->y.2.1.2.2.2=true)
def rN(f:Nat)(x:PK):A ZT:=⟨∃ s n a b,PL f x s n a b,ap3 x⟩
def l8(s:bI)(e:Int)(n:Nat)(first:z1')(k:Nat):List (z1'):=(List.range k).flatMap λp=>if Bk s first p=true then kk s e n (first++[(p:Int)]) else []
theorem IT(s:bI)(e:Int)(n:Nat)(first:z1')(k:Nat):l8 s e n first (k+1)=l8 s e n first k++(if Bk s first k=true then kk s e n (first++[(k:Int)]) else []):=by
 unfold l8;rw[List.range_succ,List.flatMap_append];simp
theorem ap4(s:bI)(e:Int)(n:Nat)(first:z1'){k m:Nat}(h:k<=m):∃ t,l8 s e n first m=l8 s e n first k++t:=by
 induction m with
 | zero=>simp_all
 | succ m aJ=>
  by_cases an:k=m+1
  ·simp_all
  ·obtain⟨t,aK⟩:=aJ (by omega);rw[IT,aK,List.append_assoc];simp
theorem ap5{f:Nat}{s:bI}(af:l6 s){first:z1'}{e:Int}{l:Nat}{L:List (z1')->Prop}{n:Nat}(hlen:first.length+n=s.2.2.2.1.length)(ar:n<f+1){a b:List (z1')}(hK:L=λT=>T=a++kk s e n first++b) :
  A.cw (NV wh.sh (rN f) oQ.sh (some (dq s),first,e,l,(l,L,a,false),())) λy=>y.2.1.1=l/\y.2.1.2.1=L/\(y.1=true->y.2.1.2.2.2=false/\y.2.1.2.2.1=a++kk s e n first)/\(y.1=false->y.2.1.2.2.2=true):=by
 have gq:(dq s).1=s:=rfl;have Bg:=af.s7;have ap6:=af.IH;unfold NV;simp only[Option.isSome_some,Option.getD_some,A.br,bW,gq];cases n with
 | zero=>
  have aw:decide ((first.length:Int)=(s.2.2.2.1.length:Int))=true:=by grind
  have aC:∃ T,L (a++first::T):=⟨b,by rw[hK];show _=_;simp[kk]⟩
  simp only[aw,if_true,true_and,and_self];rw[A.bz aC,A.fX];refine⟨⟨true,trivial⟩,λy _=>A.d'.2 ?_⟩;refine⟨rfl,rfl,λh=>?_,λh=>?_⟩
  ·change y=true at h;subst h;exact⟨rfl,rfl⟩
  grind
 | succ n=>
  have aw:decide ((first.length:Int)=(s.2.2.2.1.length:Int))=false:=by grind
  simp only[aw,Bool.false_eq_true,if_false,A.fX];obtain⟨z,bk⟩:∃ z,kk s e (n+1) first=l8 s e n first s.2.2.1.length++z:=⟨_,rfl⟩
  refine A.aoI s.2.2.1.length (λk q=>q=(some (dq s),first,e,l,(first.length:Int),s.2.2.1,(s.2.2.1.length:Int),(k:Int),(l,L,a++l8 s e n first k,false),())) ?_ ?_ ?_
  ·show _=_;simp[l8]
  ·rintro k an q rfl;have mC:=bC (n:=(k:Int)+1) (by omega) (by omega);have fB:first.length<2 ^ 63:=by omega
   have s8:first.length<s.2.2.2.1.length:=by omega
   have IN:=Pv s8;have Bh:List.getD s.2.2.2.1 first.length ([],(0,0),0,0,0)=mF s (first.length:Int):=rfl
   have Pw:s.2.2.1[k]=nm s (k:Int):=by simp[nm,List.getD_eq_getElem?_getD,an]
   have n0:wh.pre (mF s (first.length:Int),nm s (k:Int)):=af.gL.2.2.2.2.2.2 _ IN;have ap7:(first.length<2 ^ 63)=True:=by grind
   simp only[cZ an,if_true,cL an,dm an,A.br,aP.sh,A.n3,A.gN,ap7,gq,Int.toNat_natCast,cL s8,Bh,Pw,and_true,true_and,and_self,imp_self,implies_true];have ap8:((mF s (first.length:Int)).1.length<2 ^ 63)=True:=by grind
   have ap9:List.getD s.2.2.1 k (0,0,0,0,[])=nm s (k:Int):=rfl;have eD:first.contains (k:Int)=false->(!first.contains (k:Int))=true:=λh=>by grind
   have iI:((0:Int)<=0/\0<=(first.length:Int)/\(first.length:Int)<=(first.length:Int))=True:=by simp
   have kN:List.take first.length first=first:=List.take_length
   have lP:(0<Add.add 0 1/\b6 (Add.add first.length (Add.add 0 1))):=⟨by decide,by show b6 (first.length+1);unfold b6;omega⟩
   have hH:(first.contains (k:Int)||decide (s6 (mF s (first.length:Int)) (nm s (k:Int))=0))=!Bk s first k:=by unfold Bk;simp
   have jN:first.contains (k:Int)=first.contains (k:Int):=rfl
   simp only[Option.isSome_some,Option.getD_some,gq,cL s8,Bh,ap9,ap8,and_true,true_and,and_self,imp_self,implies_true,A.br,A.bz eD,hH,iI,kN];rw[A.bz (by omega)];obtain⟨t,aK⟩:=ap4 s e n first (show k+1<=s.2.2.1.length by omega)
   cases aA:Bk s first k with
   | false=>
    simp only[Bool.not_false,if_true,A.aH,A.b2,A.d',cm,mC];show _=_;rw[IT,aA];simp
   | true=>
    rw[IT,aA,if_pos rfl]at aK;simp only[Bool.not_true,Bool.false_eq_true,if_false,A.fX];have Eg:PL f (some (dq s),first++[(k:Int)],e,l,(l,L,a++l8 s e n first k,false),()) s n (a++l8 s e n first k) (t++z++b):=by
     refine⟨⟨rfl,af⟩,by grind,by omega,rfl,rfl,?_,rfl⟩;grind
    refine⟨⟨s,n,_,_,Eg⟩,λy aS=>?_⟩;obtain⟨Kc,⟨ZU,ZV,PM,ys⟩,ap_⟩:=y;obtain⟨du,dF,ou,uL⟩:=aS;change ZU=l at du;change ZV=L at dF;subst du;subst dF;cases Kc with
    | false=>
     have aZ:ys=true:=uL rfl;subst aZ;simp only[Bool.not_false,if_true,A.aH,A.d',A.pw];simp
    | true=>
     obtain⟨bM,dt⟩:=ou rfl;change ys=false at bM;change PM=(a++l8 s e n first k)++kk s e (s.2.2.2.1.length - (first++[(k:Int)]).length) (first++[(k:Int)]) at dt;have vo:s.2.2.2.1.length - (first++[(k:Int)]).length=n:=by grind
     rw[vo]at dt;subst bM;subst dt;simp only[Bool.not_true,Bool.false_eq_true,if_false,A.aH,A.d',A.b2,cm,mC];show _=_;rw[IT,aA,if_pos rfl];simp
  ·rintro q rfl;have kN:List.take first.length first=first:=List.take_length
   have iI:((0:Int)<=0/\0<=(first.length:Int)/\(first.length:Int)=(first.length:Int)/\(first.length:Int)<=(first.length:Int))=True:=by simp
   have lP:(0<Add.add 0 1/\b6 (Add.add first.length (Add.add 0 1))):=⟨by decide,by show b6 (first.length+1);unfold b6;omega⟩
   simp only[Int.lt_irrefl,decide_false,Bool.false_eq_true,if_false,A.aH,A.d',A.b2,iI,kN,Int.toNat_natCast,and_true];by_cases he:e=0
   ·have zh:kk s e (n+1) first=l8 s e n first s.2.2.1.length:=by
     show l8 s e n first s.2.2.1.length++(if e=0 then [] else kk s e n (first++[-1]))=_
     grind
    simp only[he,decide_true,Bool.not_true,Bool.false_eq_true,if_false,false_imp_iff,A.br,Bool.true_or,A.d',Bool.true_eq_false,and_self,implies_true];grind
   ·have zh:kk s e (n+1) first=l8 s e n first s.2.2.1.length++kk s e n (first++[-1]):=by
     show l8 s e n first s.2.2.1.length++(if e=0 then [] else kk s e n (first++[-1]))=_
     grind
    simp only[he,decide_false,Bool.not_false,if_true,true_imp_iff,A.br,Bool.false_or,and_self,implies_true];rw[A.bz (by simp),A.bz (by omega)];have Eg:PL f (some (dq s),first++[-1],e,l,(l,L,a++l8 s e n first s.2.2.1.length,false),()) s n (a++l8 s e n first s.2.2.1.length) b:=by
     refine⟨⟨rfl,af⟩,by grind,by omega,rfl,rfl,?_,rfl⟩;grind
    rw[A.fX];refine⟨⟨s,n,_,_,Eg⟩,λy aS=>A.d'.2 ?_⟩;obtain⟨Kc,⟨ZU,ZV,PM,ys⟩,ap_⟩:=y;obtain⟨du,dF,ou,uL⟩:=aS;refine⟨du,dF,λh=>?_,uL⟩;obtain⟨bM,dt⟩:=ou h;change PM=(a++l8 s e n first s.2.2.1.length)++kk s e (s.2.2.2.1.length - (first++[(-1:Int)]).length) (first++[-1]) at dt;grind
theorem ap'(f:Nat)(x):A.le (NV wh.sh (rN f) oQ.sh x) (rN (f+1) x):=λh=>by
 obtain⟨o,first,e,l,⟨dG,L,p,st⟩,u⟩:=x;obtain⟨s,n,a,b,ao⟩:=h;obtain⟨⟨ar,af⟩,E,U,ah,aZ,bM,dt⟩:=ao;change o=_ at ar;change dG=l at ah;change st=false at aZ;change p=a at dt;change L=_ at bM;change first.length+n=_ at E
 change _ at bM;subst ar;subst ah;subst aZ;subst dt;have vo:(n_ (some (dq s))).2.2.2.1.length - first.length=n:=by show s.2.2.2.1.length - first.length=n;omega
 refine A.cw.mono (ap5 af E U bM) λy aS=>⟨aS.1,aS.2.1,λh=>?_,aS.2.2.2⟩
 obtain⟨aW,aY⟩:=aS.2.2.1 h;refine⟨aW,?_⟩;rw[aY];show _=p++kk (n_ (some (dq s))) e ((n_ (some (dq s))).2.2.2.1.length - first.length) first
 rw[vo];rfl
theorem aqa(x):¬(rN 0 x).cq:=λ⟨s,n,a,b,h⟩=>by have:=h.cg;omega
def lA(e:Int)(s:bI):List (z1'):=kk s e s.2.2.2.1.length []
def yw(o:Option dw):Prop:=∃ s,wo o s
def IU(o:Option dw):List (z1'):=lA 1 (n_ o)
def PN(o:Option dw):List (z1'):=lA 0 (n_ o)
theorem aqb(s:bI)(af:l6 s)(l:Nat):A.cw (HD (rN 10) (some (dq s),l,(l,(λT=>T=lA 1 s),[],false),())) λy=>y.1.1=l/\y.1.2.1=(λT=>T=lA 1 s)/\(y.1.2.2.2=false->y.1.2.2.1=lA 1 s):=by
 unfold HD;rw[A.fX];have Bg:=af.s7;refine⟨⟨s,s.2.2.2.1.length,[],[],⟨rfl,af⟩,by simp,by omega,rfl,rfl,by show (λT=>T=lA 1 s)=_;simp[lA],rfl⟩,λy aS=>A.d'.2 ?_⟩;obtain⟨du,dF,ou,uL⟩:=aS;refine⟨du,dF,λh=>?_⟩;cases E:y.1 with
 | false=>grind
 | true=>
  obtain⟨_,ah⟩:=ou E;show y.2.1.2.2.1=_;rw[ah];rfl
theorem aqc(s:bI)(af:l6 s)(l:Nat):A.cw (HE (rN 10) (some (dq s),l,(l,(λT=>T=lA 0 s),[],false),())) λy=>y.1.1=l/\y.1.2.1=(λT=>T=lA 0 s)/\(y.1.2.2.2=false->y.1.2.2.1=lA 0 s):=by
 unfold HE;rw[A.fX];have Bg:=af.s7;refine⟨⟨s,s.2.2.2.1.length,[],[],⟨rfl,af⟩,by simp,by omega,rfl,rfl,by show (λT=>T=lA 0 s)=_;simp[lA],rfl⟩,λy aS=>A.d'.2 ?_⟩;obtain⟨du,dF,ou,uL⟩:=aS;refine⟨du,dF,λh=>?_⟩;cases E:y.1 with
 | false=>grind
 | true=>
  obtain⟨_,ah⟩:=ou E;show y.2.1.2.2.1=_;rw[ah];rfl
theorem PO{D al:Type}{body:D->al->A (dj×D)}(g:D->al->D)(I:D->Prop):∀ (l:List al) (s:D),I s->(∀ x∈l,∀ s,I s->body s x=A.pure (dj.normal,g s x)/\I (g s x))->jM body l s=A.pure (dj.normal,l.foldl g s)
 | [],s,_,_=>rfl
 | x::l,s,eA,h=>by
  obtain⟨E,U⟩:=h x (by simp) s eA;unfold jM;rw[E,A.aH];exact PO g I l (g s x) U λy aS=>h y (List.mem_cons_of_mem _ aS)
theorem PQ{s:bI}{e:Int}:∀ {n:Nat} {first y:z1'},y∈kk s e n first->y.length=first.length+n/\∀ p∈y,p∈first\/p=-1\/(0<=p/\p<(s.2.2.1.length:Int))
 | 0,first,y,h=>by
  simp only[kk,List.mem_singleton]at h;grind
 | n+1,first,y,h=>by
  simp only[kk,List.mem_append,List.mem_flatMap,List.mem_range]at h;rcases h with⟨p,ao,h⟩ | h
  ·split at h
   ·obtain⟨E,U⟩:=PQ h;grind
   grind
  ·split at h
   ·cases h
   ·obtain⟨E,U⟩:=PQ h;grind
theorem PR{s:bI}{e:Int}{y:z1'}(h:y∈lA e s):y.length=s.2.2.2.1.length/\n9 s y:=by
 obtain⟨E,U⟩:=PQ h;have E:y.length=s.2.2.2.1.length:=by grind
 refine⟨E,by omega,λp ao=>?_⟩;grind
theorem aqd(s:bI):n9 s (List.replicate s.2.2.2.1.length (-1)):=⟨by simp,λp ao=>by grind⟩
def s_(s:bI)(b y:z1'):z1':=if (decide (rL s y > rL s b)&&pP s y)=true then y else b
def EL(s:bI):z1':=(lA 1 s).foldl (s_ s) (List.replicate s.2.2.2.1.length (-1))
theorem ZW{s:bI}:∀ (l:List (z1')) (b:z1'),(∀ y∈l,y.length=s.2.2.2.1.length/\n9 s y)->(b.length=s.2.2.2.1.length/\n9 s b)->((l.foldl (s_ s) b).length=s.2.2.2.1.length/\n9 s (l.foldl (s_ s) b))
 | [],b,_,aa=>aa
 | y::l,b,ak,aa=>by
  rw[List.foldl_cons];refine ZW l _ (λz bk=>ak z (List.mem_cons_of_mem _ bk)) ?_;unfold s_;grind
theorem aqe(s:bI):(EL s).length=s.2.2.2.1.length/\n9 s (EL s):=ZW _ _ (λ_ h=>PR h) ⟨by simp,aqd s⟩
abbrev PS:aP:=⟨wk,fP,λo=>∃ s,wo o s,λo=>EL (n_ o)⟩
theorem aqf(s:bI)(af:l6 s):NQ ID.sh wu.sh s9.sh yw IU (some (dq s))=A.pure (EL s):=by
 unfold NQ;have Bg:=af.s7;have gq:(dq s).1=s:=rfl;have gH:yw (some (dq s)):=⟨s,rfl,af⟩
 have PT:IU (some (dq s))=lA 1 s:=rfl;simp only[Option.isSome_some,Option.getD_some,A.br,bW,gq,aP.sh,A.dJ,PT];rw[A.bz (by grind),A.bz gH];simp only[Int.toNat_natCast];rw[PO (λ(b:Option dw×z1'×Unit) (y:z1')=>(some (dq s),s_ s b.2.1 y,())) (λb=>b.1=some (dq s)/\b.2.1.length=s.2.2.2.1.length) (lA 1 s) (some (dq s),List.replicate s.2.2.2.1.length (-1),()) ⟨rfl,by simp⟩ ?_]
 ·have ar:∀ (l:List (z1')) (b:z1'),l.foldl (λ(b:Option dw×z1'×Unit) (y:z1')=>(some (dq s),s_ s b.2.1 y,())) (some (dq s),b,())=(some (dq s),l.foldl (s_ s) b,()):=by
   intro l;induction l with
   | nil=>simp
   | cons y l aJ=>grind
  rw[ar,A.aH];rfl
 ·intro y aS b aa;obtain⟨dP,e2,aqg⟩:=b;obtain⟨mo,q1⟩:=aa;change dP=_ at mo;change e2.length=_ at q1;subst mo;obtain⟨xD,su⟩:=PR aS;have jJ:s9.pre (some (dq s),y):=⟨s,⟨rfl,af⟩,by grind⟩
  have p9:s9.pre (some (dq s),e2):=⟨s,⟨rfl,af⟩,by grind⟩
  have mj:wu.pre (some (dq s),y):=⟨s,⟨rfl,af⟩,su⟩
  have ay:s9.g (some (dq s),y)=rL s y:=rfl;have aN:s9.g (some (dq s),e2)=rL s e2:=rfl;have cA:wu.g (some (dq s),y)=pP s y:=rfl;refine⟨?_,rfl,?_⟩
  ·simp only[A.n3,A.gN,A.bz jJ,A.bz p9,ay,aN,cA,mj,and_true,true_and,and_self,imp_self,implies_true,A.br,s_];have du:∀ c:Prop,(c->c/\(∃ nn,wo (some (dq s)) nn/\n9 nn y)):=λc h=>⟨h,mj⟩
   rw[A.bz (du _)];have ay:n_ (some (dq s))=s:=rfl;simp only[ay];cases hc:(decide (rL s y > rL s e2)&&pP s y)<;>simp
  ·show (s_ s e2 y).length=_;unfold s_;grind
theorem aqh(x):A.le (NQ ID.sh wu.sh s9.sh yw IU x) (PS.sh x):=A.bw λh=>by
 obtain⟨s,ar,af⟩:=h;subst ar;exact aqf s af
theorem IV{s:bI}{cb:Bool}(h:k2 s cb=0):yp s cb=(some (dq s),0):=by simp[yp,h]
theorem IW{s:bI}{cb:Bool}(h:k2 s cb≠0):yp s cb=(none,k2 s cb):=by simp[yp,h]
def yx(s:bI)(cb:Bool):Int×Int:=if k2 s cb≠0 then (0,k2 s cb) else (rL s (EL s),0)
abbrev PU:aP:=⟨.az l5 dk,.az bx bx,λx=>fx x.1,λx=>yx x.1 x.2⟩
theorem aqi(x):A.le (VU Be.sh PS.sh s9.sh x) (PU.sh x):=A.bw λh=>by
 unfold VU;show _=A.pure (yx x.1 x.2);unfold yx;simp only[aP.sh,A.dJ];rw[A.bz (by exact h)];by_cases an:k2 x.1 x.2=0
 ·have af:=Bd h (Bc an).1;simp only[IV an,an,ne_eq,not_true,decide_false,Bool.false_eq_true,if_false];rw[A.bz (by exact⟨x.1,rfl,af⟩),A.bz (by exact⟨x.1,⟨rfl,af⟩,Nat.le_of_eq (aqe x.1).1⟩)];rfl
 ·simp[IW an,an]
abbrev IX:aP:=⟨l5,.az bx bx,fx,λs=>yx s true⟩
theorem aqj(x):A.le (VN PU.sh x) (IX.sh x):=A.bw λh=>by
 unfold VN;simp only[aP.sh,A.dJ];simp_all
def Bl(s:bI)(n:Int)(y:z1'):Int:=if (!(lz s y).2||!EK (dq s) (lz s y).1)=true then n else if (decide (n=-1)||decide (yv (dq s) (lz s y).1<n))=true then yv (dq s) (lz s y).1 else n
def IY(s:bI):Int:=(lA 0 s).foldl (Bl s) (-1)
def Bm(s:bI):Int×Int:=if k2 s true≠0 then (0,k2 s true) else if IY s=-1 then (0,3) else (IY s,0)
abbrev IZ:aP:=⟨l5,.az bx bx,fx,Bm⟩
theorem aqk(x):A.le (VO Be.sh yw PN IM.sh PH.sh IS.sh x) (IZ.sh x):=A.bw λh=>by
 unfold VO;show _=A.pure (Bm x);unfold Bm;simp only[aP.sh,A.dJ];rw[A.bz (by exact h)];by_cases an:k2 x true=0
 ·have af:=Bd h (Bc an).1;have gH:yw (some (dq x)):=⟨x,rfl,af⟩
  have PT:PN (some (dq x))=lA 0 x:=rfl;simp only[IV an,an,ne_eq,not_true,decide_false,Bool.false_eq_true,if_false,PT];rw[A.bz gH];rw[PO (λ(b:Option dw×Int×Unit) (y:z1')=>(some (dq x),Bl x b.2.1 y,())) (λb=>b.1=some (dq x)) (lA 0 x) (some (dq x),-1,()) rfl ?_]
  ·have ar:∀ (l:List (z1')) (b:Int),l.foldl (λ(b:Option dw×Int×Unit) (y:z1')=>(some (dq x),Bl x b.2.1 y,())) (some (dq x),b,())=(some (dq x),l.foldl (Bl x) b,()):=by
    intro l;induction l with
    | nil=>simp
    | cons y l aJ=>grind
   rw[ar,A.aH];show (if decide (IY x=-1)=true then A.pure ((0:Int),(3:Int)) else A.pure (IY x,0))=_;grind
  ·intro y aS b aa;obtain⟨dP,e2,aqg⟩:=b;change dP=_ at aa;subst aa;obtain⟨xD,su⟩:=PR aS;refine⟨?_,rfl⟩;have z6:=ZR af su;have jJ:∃ nn,wo (some (dq x)) nn/\n9 nn y:=⟨x,⟨rfl,af⟩,su⟩
   have fk:(dq x).1.2.1.length<2 ^ 63:=h.2.1;have p9:∃ t,some (dq x)=some t/\t.1.2.1.length<2 ^ 63/\(lz x y).1.length<2 ^ 63:=⟨_,rfl,fk,by omega⟩
   have mj:∃ t,some (dq x)=some t/\t.2.1.length<=200/\(lz x y).1.length<=1000:=⟨_,rfl,ZQ af,by omega⟩
   have ay:n_ (some (dq x))=x:=rfl;have aN:Option.getD (some (dq x)) yq=dq x:=rfl;simp only[A.jb,A.dJ,ay,aN];rw[A.bz jJ];simp only[p9,implies_true,A.br];rw[A.bz (by exact mj)];show _=A.pure (dj.normal,some (dq x),Bl x e2 y,());unfold Bl;cases E:(lz x y).2
   ·simp
   ·cases U:EK (dq x) (lz x y).1
    ·simp
    ·simp only[Bool.not_true,Bool.not_false,if_true,Bool.or_self,Bool.false_eq_true,if_false];cases ah:(decide (e2=-1)||decide (yv (dq x) (lz x y).1<e2))<;>simp
 ·simp[IW an,an]
def np(s:bI)(w p:Int):z1':=(List.replicate s.2.2.2.1.length (-1)).set w.toNat p
def ZX(s:bI)(w:Int):z1':=((List.range s.2.2.1.length).filter λ(p:Nat)=>pP s (np s w (p:Int))).map λ(p:Nat)=>(p:Int)
def uP(s:bI)(w:Int):z1'×Int:=if k2 s (yn s w)≠0 then ([],k2 s (yn s w)) else (ZX s w,0)
abbrev I0:aP:=⟨.az l5 bx,.az fP bx,λx=>fx x.1,λx=>uP x.1 x.2⟩
theorem ZY{al β:Type}{p:al->Bool}{g:al->β}:∀ (l:List al) (b:List β),l.foldl (λb x=>if p x=true then b++[g x] else b) b=b++(l.filter p).map g
 | [],b=>by simp
 | x::l,b=>by
  simp only[List.foldl_cons,List.filter_cons];rw[ZY l];grind
theorem aql{s:bI}{w:Int}{p:Nat}(ao:p<s.2.2.1.length):n9 s (np s w (p:Int)):=by
 refine⟨by simp[np],λq bq=>?_⟩;unfold np at bq;grind
theorem aqm(x):A.le (VP Be.sh Po.sh wg wu.sh x) (I0.sh x):=A.bw λh=>by
 obtain⟨s,w⟩:=x;change fx s at h;unfold VP;show _=A.pure (uP s w);unfold uP;simp only[aP.sh,A.n3,A.gN];rw[A.bz (by exact h),A.bz (by exact h)];by_cases an:k2 s (yn s w)=0
 ·have af:=Bd h (Bc an).1;have hw:=api.1 (Bc an).2.1;have Bg:=af.s7;have ap6:=af.IH;simp only[IV an,an,ne_eq,not_true,decide_false,Bool.false_eq_true,if_false];unfold wg;simp only[A.dJ,bW];rw[A.bz (by grind)];simp only[Int.toNat_natCast];rw[A.f_ (List.range s.2.2.1.length) (λi (b:z1'×z1')=>(w,some (dq s),(s.2.2.1.length:Int),(i:Int),b.1,b.2,())) (λ(p:Nat) b=>.next (if pP s (np s w (p:Int))=true then b.1++[(p:Int)] else b.1,np s w (p:Int))) (λb=>.next (b.1,())) (λi b=>b.1.length<=i/\∀ p,b.2.set w.toNat p=np s w p) ([],List.replicate s.2.2.2.1.length (-1)) ?_ ?_ ?_ ?_]
  ·rw[ej];have ar:∀ (l:List Nat) (b:z1'×z1'),(l.foldl (λb (p:Nat)=>(if pP s (np s w (p:Int))=true then b.1++[(p:Int)] else b.1,np s w (p:Int))) b).1=l.foldl (λb (p:Nat)=>if pP s (np s w (p:Int))=true then b++[(p:Int)] else b) b.1:=by
    intro l;induction l with
    | nil=>simp
    | cons p l aJ=>grind
   rw[ar,ZY,A.aH,A.b2];rfl
  ·rfl
  ·exact⟨Nat.le_refl _,λp=>rfl⟩
  ·intro i G b aa;have G:i<s.2.2.1.length:=by grind
   have lx:=bC (n:=(i:Int)+1) (by omega) (by omega);obtain⟨dP,e2⟩:=b;obtain⟨mo,q1⟩:=aa;change dP.length<=i at mo;change ∀ p,e2.set w.toNat p=np s w p at q1;have lP:b6 (dP.length+(0+1)):=by unfold b6;omega
   have hlen:e2.length=s.2.2.2.1.length:=by
    have:=congrArg List.length (q1 0);simpa [np]using this
   have xJ:0<=w/\w<(e2.length:Int):=by omega
   rw[List.getElem_range];refine⟨?_,λbe cW=>?_⟩
   ·simp only[cZ G,if_true,xJ,and_self,A.br,A.dJ,q1];rw[A.bz (by exact⟨s,⟨rfl,af⟩,aql G⟩)];have ay:n_ (some (dq s))=s:=rfl;simp only[ay,cm,hM,A.bz lP];cases pP s (np s w (i:Int))<;>simp[W.ho,lx]
   ·cases cW;refine⟨?_,λp=>?_⟩
    ·grind
    ·show (np s w (i:Int)).set w.toNat p=np s w p;unfold np;simp
  simp
 ·simp[IW an,an]
def Bn(s:bI)(cz:z1'):Int×Int:=if k2 s (wj s cz)≠0 then (0,k2 s (wj s cz)) else if (!pP s cz)=true then (0,3) else (rL s cz,0)
abbrev I1:aP:=⟨.az l5 fP,.az bx bx,λx=>fx x.1/\x.2.length<2 ^ 63,λx=>Bn x.1 x.2⟩
theorem aqn{s:bI}{cz:z1'}(h:wj s cz=true):cz.length=s.2.2.2.1.length/\n9 s cz:=by
 unfold wj at h;simp only[Bool.and_eq_true,List.all_eq_true,List.mem_range,decide_eq_true_eq]at h;obtain⟨E,U⟩:=h;refine⟨by omega,by omega,λp ao=>?_⟩;obtain⟨i,G,rfl⟩:=List.mem_iff_getElem.1 ao;have:=E i G;have iM:cz.getD i 0=cz[i]:=by grind
 unfold wi at this;simp only[iM,Bool.or_eq_true,decide_eq_true_eq,Bool.and_eq_true,apj]at this;omega
theorem aqo(x):A.le (VT Be.sh wu.sh IG.sh s9.sh x) (I1.sh x):=A.bw λh=>by
 obtain⟨s,cz⟩:=x;obtain⟨aD,ak⟩:=h;unfold VT;show _=A.pure (Bn s cz);unfold Bn;simp only[aP.sh,A.n3,A.gN];have ao:IG.pre (s,cz):=⟨aD,ak⟩
 rw[A.bz (by exact ao),A.bz (by exact aD)];by_cases an:k2 s (wj s cz)=0
 ·have af:=Bd aD (Bc an).1;obtain⟨aqp,xF⟩:=aqn (Bc an).2.1;simp only[IV an,an,ne_eq,not_true,decide_false,Bool.false_eq_true,if_false,A.dJ];rw[A.bz (by exact⟨s,⟨rfl,af⟩,xF⟩)];have ay:n_ (some (dq s))=s:=rfl;simp only[ay];cases ar:pP s cz with
  | false=>simp
  | true=>
   simp only[Bool.not_true,Bool.false_eq_true,if_false];rw[A.bz (by exact⟨s,⟨rfl,af⟩,Nat.le_of_eq aqp⟩)]
 ·simp[IW an,an]
def EM(s:bI):Prop:=aoL s.1/\s.2.1.length<=2000000/\s.2.2.1.length<=2000000/\s.2.2.2.1.length<=2000000/\s.2.2.2.2.1.length<=2000000/\(∀ p∈s.2.2.1,p.2.2.2.2.length<=2000000)/\∀ x∈s.2.2.2.1,x.1.length<=2000000
theorem aqq{s:bI}(af:l6 s):EM s:=by
 have aov:=Er af.sW.2;refine⟨⟨by omega,by omega,by omega,λm hm=>?_⟩,by have:=af.EE;omega,by have:=af.IH;omega,by have:=af.s7;omega,by have:=af.Pr;omega,λp ao=>by have:=(Pu af ao).2.1;omega,λx ai=>?_⟩
 ·have kP:=(A7 af.sW.2).2.2.1 m hm;simp only[qB,Bool.and_eq_true,Bool.not_eq_true',decide_eq_false_iff_not,List.all_eq_true]at kP;refine⟨by omega,λs' r9=>?_⟩;have:=kP.2 s' r9;simp only[pJ,Bool.and_eq_true,decide_eq_true_eq]at this;omega
 ·have:=af.Zv x ai;simp only[oY,b4,Bool.and_eq_true,decide_eq_true_eq]at this;omega
def ZZ(s:bI):Int:=(s.2.2.1.map λp=>(p.2.2.2.2.length:Int)).foldl (·+·) 0
def uQ(s:bI):Bool:=
 if (l4 s.1||decide ((s.2.1.length:Int) > 40)||decide ((s.2.2.1.length:Int) > 40)||decide ((s.2.2.2.1.length:Int) > 40)||decide ((s.2.2.2.2.1.length:Int) > 40))=true then true
 else if (s.2.2.1.any λp=>decide ((p.2.2.2.2.length:Int) > 40))=true then true
 else if (s.2.2.2.1.any λx=>decide ((x.1.length:Int) > 40))=true then true
 else if jf s≠0 then false
 else decide ((s.2.2.2.1.length:Int) > 3)||decide ((s.2.2.1.length:Int) > 4)||decide ((s.2.2.2.2.1.length:Int) > 3)||decide (ZZ s > 4)
abbrev I2:aP:=⟨l5,dk,fx,uQ⟩
theorem aqr(x):A.le (Y0 pO.sh vY.sh x) (I2.sh x):=A.bw λh=>by
 change fx x at h;unfold Y0;show _=A.pure (uQ x);unfold uQ;simp only[aP.sh,A.dJ,bW];rw[A.bz (by exact h.1)];obtain⟨g1,et,g3,g4,g5,g6,g7⟩:=id h;by_cases E:(l4 x.1||decide ((x.2.1.length:Int) > 40)||decide ((x.2.2.1.length:Int) > 40)||decide ((x.2.2.2.1.length:Int) > 40)||decide ((x.2.2.2.2.1.length:Int) > 40))=true
 ·grind
 ·rw[if_neg E,if_neg E];simp only[Bool.or_eq_true,decide_eq_true_eq,not_or]at E;rw[A.dL x.2.2.1 (λi (_:Unit)=>((i:Int),x,())) (λp u=>if decide ((p.2.2.2.2.length:Int) > 40)=true then .done (.done true) else .next u) (λ_=>.next (x,())) () ?_ ?_ ?_]
  ·rw[rv (p:=λp:dy=>decide ((p.2.2.2.2.length:Int) > 40))];by_cases U:(x.2.2.1.any λp=>decide ((p.2.2.2.2.length:Int) > 40))=true
   ·simp only[U,if_true,A.aH,A.pw]
   ·simp only[U,Bool.false_eq_true,if_false,A.aH,A.b2];rw[A.dL x.2.2.2.1 (λi (_:Unit)=>((i:Int),x,())) (λp u=>if decide ((p.1.length:Int) > 40)=true then .done (.done true) else .next u) (λ_=>.next (x,())) () ?_ ?_ ?_]
    ·rw[rv (p:=λp:dN=>decide ((p.1.length:Int) > 40))];by_cases ah:(x.2.2.2.1.any λx=>decide ((x.1.length:Int) > 40))=true
     ·simp only[ah,if_true,A.aH,A.pw]
     ·simp only[ah,Bool.false_eq_true,if_false,A.aH,A.b2];rw[A.bz (by exact h)];by_cases he:jf x=0
      ·simp only[he,ne_eq,not_true,decide_false,Bool.false_eq_true,if_false];have aa:∀ p∈x.2.2.1,p.2.2.2.2.length<=40:=λp ao=>by
        grind
       rw[A.f_ x.2.2.1 (λi (n:Int)=>(n,(i:Int),x,())) (λp n=>.next (n+(p.2.2.2.2.length:Int))) (λn=>.next (n,x,())) (λi n=>0<=n/\n<=40*i) 0 ?_ ?_ ?_ ?_]
       ·rw[ej,A.aH,A.b2];unfold ZZ;rw[List.foldl_map]
       ·rfl
       ·simp
       ·intro i G n aA;have lx:=bC (n:=(i:Int)+1) (by omega) (by omega);have ayj:=aa _ (List.getElem_mem G);have Ba:=bC (n:=n+(x.2.2.1[i].2.2.2.2.length:Int)) (by omega) (by omega);refine⟨?_,λbe cW=>?_⟩
        ·simp only[cZ G,if_true,cL G,A.br,dm G,cm,lx,Ba];rfl
        grind
       simp
      grind
    ·rfl
    ·intro i G u;have lx:=bC (n:=(i:Int)+1) (by omega) (by omega);simp only[cZ G,if_true,cL G,A.br,dm G,A.aH,cm,lx];exact na (mk:=λ_:Unit=>((i:Int)+1,x,()))
    simp
  ·rfl
  ·intro i G u;have lx:=bC (n:=(i:Int)+1) (by omega) (by omega);simp only[cZ G,if_true,cL G,A.br,dm G,A.aH,cm,lx];exact na (mk:=λ_:Unit=>((i:Int)+1,x,()))
  simp
def Bo:bI:=(Iw,[1,0,0,0],[(1,60,0,0,[0]),(1,60,7,0,[]),(2,65,0,1,[0]),(2,60,0,0,[0,1])],[([1],(55,65),7,3,500),([1,2],(60,60),0,5,400),([2],(60,70),9,8,700),([2],(65,65),0,5,300)],[(4,2,1),(6,3,1)],2)
abbrev I3:aP:=⟨.cV,l5,λ_=>True,λ_=>Bo⟩
theorem aqs(x):A.le (Y1 Pk.sh x) (I3.sh x):=A.bw λ_=>by
 unfold Y1;simp only[aP.sh,A.dJ,A.br];rfl
theorem aqt:fx Bo:=by
 refine⟨aoP,by decide,by decide,by decide,by decide,?_,?_⟩
 ·intro p ao;simp only[Bo,List.mem_cons,List.not_mem_nil,or_false]at ao;grind
 ·intro x ai;simp only[Bo,List.mem_cons,List.not_mem_nil,or_false]at ai;grind
end Go.Fer
namespace Go.Fer.H
open A (W)
def Z0(Av:a6->A Int)(N2:List ba->A (List ba×Bool))(aqu:List (List ba)->A (List ba))(aqv:List (z1')×Unit->A (z1'×Unit))(N4:z1'×Unit->A (z1'×Unit))(aqw:z1'×Unit->A ((Nat×Nat)×z1'×Unit))(I4:z4'->A (z4'))(x:a6×List ba×z1'):A (a6×Int):=
 letI a:=x.1.2.2.2;A.bind (Av x.1) λy=>if decide (y≠0)=true then A.pure (([],[],[],[],0,0,0,0,0,0,0),y) else A.bind (Av (x.1.1,x.2.1,x.2.2,a)) λy=>if decide (y≠0)=true then A.pure (([],[],[],[],0,0,0,0,0,0,0),y) else A.bind (aqu [x.1.2.1,x.2.1]) λy=>A.bind (N2 y) λy=>if (!y.2)=true then A.pure (([],[],[],[],0,0,0,0,0,0,0),91) else A.bind (aqv ([x.1.2.2.1,x.2.2],())) λbZ=>A.bind (N4 (bZ.1,())) λdv=>A.bind (aqw (dv.1,())) λf'=>if (decide (Int.ofNat (List.length y.1) > 12)||decide (Int.ofNat (f'.1.2-f'.1.1) > 12))=true then A.pure (([],[],[],[],0,0,0,0,0,0,0),90) else A.ae (I4 x.1.1).cq (A.ae (I4 a.1).cq (A.pure ((A.val (I4 x.1.1) [],y.1,List.drop f'.1.1 (List.take f'.1.2 f'.2.1),A.val (I4 a.1) [],a.2),0)))
def Z1(aqx:Int×Unit->A (List ba×Unit))(x:List (List ba)):A (List ba):=
 A.bind (A.loop (λ(D:List (List ba)×Int×List (List ba)×Int×Int×Unit)=>letI d:=D.2.2;letI b:=d.2.2.1;letI a:=IntKind.wrap .i64 (Add.add D.2.1 (Int.ofNat (List.length (List.getD d.1 (Int.toNat b) []))));if decide (b<d.2.1)=true then A.bind (A.ae (0<=b/\b<Int.ofNat (List.length d.1)) (if decide (a<0)=true then A.ae False (A.ae False (A.pure (W.next (D.1,a,d.1,d.2.1,b,())))) else A.pure (W.next (D.1,a,d.1,d.2.1,b,())))) (W.bB (λ(D:List (List ba)×Int×List (List ba)×Int×Int×Unit)=>A.pure (W.next (D.1,D.2.1,D.2.2.1,D.2.2.2.1,IntKind.wrap .i64 (Add.add D.2.2.2.2.1 1),())))) else A.bind (A.pure (W.next (D.1,D.2.1,()))) λr=>A.pure (W.done r)) (x,0,x,Int.ofNat (List.length x),0,())) (W.bB (λ(D:List (List ba)×Int×Unit)=>A.bind (aqx (D.2.1,())) λy=>A.bind (A.loop (λ(D:List (List ba)×Int×Int×List ba×Unit)=>letI e:=D.2.2;letI c:=List.getD D.1 (Int.toNat e.1) [];if decide (e.1<D.2.1)=true then A.ae (0<=e.1/\e.1<Int.ofNat (List.length D.1)) (A.ae (b6 (Add.add (List.length e.2.1) (List.length c))) (A.pure (W.next (D.1,D.2.1,IntKind.wrap .i64 (Add.add e.1 1),e.2.1++c,())))) else A.bind (A.pure (W.next (e.2.1,()))) λr=>A.pure (W.done r)) (D.1,Int.ofNat (List.length D.1),0,y.1,())) (W.bB (λ(D:List ba×Unit)=>A.pure D.1))))
def Z2(aqy:Int×Unit->A (z1'×Unit))(x:List (z1')×Unit):A (z1'×Unit):=
 A.bind (A.loop (λ(D:List (z1')×Int×List (z1')×Int×Int×Unit)=>letI d:=D.2.2;letI b:=d.2.2.1;letI a:=IntKind.wrap .i64 (Add.add D.2.1 (Int.ofNat (List.length (List.getD d.1 (Int.toNat b) []))));if decide (b<d.2.1)=true then A.bind (A.ae (0<=b/\b<Int.ofNat (List.length d.1)) (if decide (a<0)=true then A.ae False (A.ae False (A.pure (W.next (D.1,a,d.1,d.2.1,b,())))) else A.pure (W.next (D.1,a,d.1,d.2.1,b,())))) (W.bB (λ(D:List (z1')×Int×List (z1')×Int×Int×Unit)=>A.pure (W.next (D.1,D.2.1,D.2.2.1,D.2.2.2.1,IntKind.wrap .i64 (Add.add D.2.2.2.2.1 1),())))) else A.bind (A.pure (W.next (D.1,D.2.1,()))) λr=>A.pure (W.done r)) (x.1,0,x.1,Int.ofNat (List.length x.1),0,())) (W.bB (λ(D:List (z1')×Int×Unit)=>A.bind (aqy (D.2.1,())) λy=>A.bind (A.loop (λ(D:List (z1')×Int×Int×z1'×Unit)=>letI e:=D.2.2;letI c:=List.getD D.1 (Int.toNat e.1) [];if decide (e.1<D.2.1)=true then A.ae (0<=e.1/\e.1<Int.ofNat (List.length D.1)) (A.ae (b6 (Add.add (List.length e.2.1) (List.length c))) (A.pure (W.next (D.1,D.2.1,IntKind.wrap .i64 (Add.add e.1 1),e.2.1++c,())))) else A.bind (A.pure (W.next (e.2.1,()))) λr=>A.pure (W.done r)) (D.1,Int.ofNat (List.length D.1),0,y.1,())) (W.bB (λ(D:z1'×Unit)=>A.pure (D.1,())))))
def aqz(x:z1'×Unit):A ((Nat×Nat)×z1'×Unit):=
 if decide (Int.ofNat (List.length x.1)<2)=true then A.pure ((0,List.length x.1),x.1,()) else A.bind (A.loop (λ(D:Int×z1'×Unit)=>letI l:=D.1;letI j:=D.2.1;letI g:=IntKind.wrap .i64 (l-1);letI b:=Int.ofNat (List.length j);if decide (l<b)=true then A.bind (A.ae (0<=l/\l<b) (A.ae (0<=g/\g<b) (if decide (List.getD j (Int.toNat l) 0=List.getD j (Int.toNat g) 0)=true then A.ae (0<=l/\l<=b/\b<=b) (A.bind (A.loop (λ(D:Int×(Nat×Nat)×Int×z1'×Unit)=>letI k:=D.2.1;letI e:=D.2.2;letI i:=IntKind.wrap .i64 (e.1-1);letI h:=List.getD e.2.1 (Add.add k.1 (Int.toNat e.1)) 0;letI d:=Int.ofNat (k.2-k.1);if decide (e.1<d)=true then A.bind (A.ae (0<=e.1/\e.1<d) (A.ae (0<=i/\i<d) (if decide (h≠List.getD e.2.1 (Add.add k.1 (Int.toNat i)) 0)=true then A.ae (0<=e.1/\e.1<d) (A.ae (0<=D.1/\D.1<Int.ofNat (List.length e.2.1)) (A.pure (W.next (IntKind.wrap .i64 (Add.add D.1 1),k,e.1,List.set e.2.1 (Int.toNat D.1) h,())))) else A.pure (W.next (D.1,k,e.1,e.2.1,()))))) (W.bB (λ(D:Int×(Nat×Nat)×Int×z1'×Unit)=>A.pure (W.next (D.1,D.2.1,IntKind.wrap .i64 (Add.add D.2.2.1 1),D.2.2.2.1,())))) else A.bind (A.pure (W.next (D.1,e.2.1,()))) λr=>A.pure (W.done r)) (l,(Int.toNat l,Int.toNat b),1,j,())) (W.bB (λ(D:Int×z1'×Unit)=>letI f:=Int.toNat D.1;letI c:=Int.ofNat (List.length D.2.1);letI a:=List.take f D.2.1++List.replicate (Int.toNat c-f) 0++List.drop (Add.add f (List.length (List.replicate (Int.toNat c-f) (0:Int)))) D.2.1;A.ae (0<=D.1/\D.1<=c/\c<=c) (A.ae True (A.ae ((0:Int)<=0/\0<=D.1/\D.1<=Int.ofNat (List.length a)) (A.bind (A.bind (A.bind (A.pure ((Int.toNat 0,f),a,())) (λr=>A.pure (W.done r))) (λr=>A.pure (W.done r))) (λr=>A.pure (W.done r)))))))) else A.pure (W.next (l,j,()))))) (W.bB (λ(D:Int×z1'×Unit)=>A.pure (W.next (IntKind.wrap .i64 (Add.add D.1 1),D.2.1,())))) else A.bind (A.pure (W.next (j,()))) λr=>A.pure (W.done r)) (1,x.1,())) (W.bB (λ(D:z1'×Unit)=>A.pure ((0,List.length D.1),D.1,())))
def I5(x:Int×Unit):A (z1'×Unit):=A.dI (0<=x.1/\x.1<60000) ([],())
def I6(x:Int×Unit):A (List ba×Unit):=A.dI (0<=x.1/\x.1<60000) ([],())
section
variable {al gy:Type}
def I7(g:Int×Unit->A (List al×Unit))(x:List (List al))(k:List al->A gy):A gy:=
 A.bind (A.loop (λ(D:List (List al)×Int×List (List al)×Int×Int×Unit)=>if decide (D.2.2.2.2.1<D.2.2.2.1)=true then A.bind (A.ae (0<=D.2.2.2.2.1/\
 D.2.2.2.2.1<Int.ofNat (List.length D.2.2.1)) (if decide (IntKind.wrap .i64 (Add.add D.2.1 (Int.ofNat (List.length (List.getD D.2.2.1 (Int.toNat D.2.2.2.2.1) [])))) <
 0)=true then A.ae False (A.ae False (A.pure (W.next (D.1,IntKind.wrap .i64 (Add.add D.2.1 (Int.ofNat (List.length (List.getD D.2.2.1 (Int.toNat D.2.2.2.2.1)
 [])))),D.2.2.1,D.2.2.2.1,D.2.2.2.2.1,())))) else A.pure (W.next (D.1,IntKind.wrap .i64 (Add.add D.2.1 (Int.ofNat (List.length (List.getD D.2.2.1 (Int.toNat
 D.2.2.2.2.1) [])))),D.2.2.1,D.2.2.2.1,D.2.2.2.2.1,())))) (W.bB λ(D:List (List al)×Int×List (List al)×Int×Int×Unit)=>A.pure (W.next (D.1,D.2.1,D.2.2.1,D.2.2.2.1,IntKind.wrap .i64 (Add.add D.2.2.2.2.1 1),()))) else A.bind (A.pure (W.next (D.1,D.2.1,()))) λr=>A.pure (W.done r)) (x,0,x,Int.ofNat
 (List.length x),0,())) (W.bB λ(D:List (List al)×Int×Unit)=>A.bind (g (D.2.1,())) λy=>A.bind (A.loop (λ(D:List (List al)×Int×Int×List al×
 Unit)=>if decide (D.2.2.1<D.2.1)=true then A.ae (0<=D.2.2.1/\D.2.2.1<Int.ofNat (List.length D.1)) (A.ae (b6 (Add.add (List.length D.2.2.2.1) (List.length
 (List.getD D.1 (Int.toNat D.2.2.1) [])))) (A.pure (W.next (D.1,D.2.1,IntKind.wrap .i64 (Add.add D.2.2.1 1),D.2.2.2.1++List.getD D.1 (Int.toNat D.2.2.1) [],())))) else A.bind (A.pure (W.next (D.2.2.2.1,()))) λr=>A.pure (W.done r)) (D.1,Int.ofNat (List.length D.1),0,y.1,())) (W.bB λ(D:List al×Unit)
 =>k D.1))
theorem Z3:∀ (l:List (List al)) (b:List al),l.foldl (λb x=>b++x) b=b++l.flatten
 | [],b=>by simp
 | x::l,b=>by simp[Z3 l]
theorem Z4(g:Int×Unit->A (List al×Unit))(aC:∀ n,0<=n->n<60000->g (n,())=A.pure ([],()))(x:List (List al))(k:List al->A gy)(E:x.length<=2)(U:∀ l∈x,l.length<=40):I7 g x k=k x.flatten:=by
 unfold I7;rw[A.f_ x (λi (n:Int)=>(x,n,x,(x.length:Int),(i:Int),())) (λl n=>.next (n+(l.length:Int))) (λn=>.next (x,n,())) (λi n=>0<=n/\n<=40*(i:Int)) 0 ?_ ?_ ?_ ?_]
 ·rw[ej,A.aH,A.b2];have aD:∀ (l:List (List al)) (n:Int),0<=n->(∀ y∈l,y.length<=40)->0<=l.foldl (λn y=>n+(y.length:Int)) n/\l.foldl (λn y=>n+(y.length:Int)) n<=n+40*(l.length:Int):=by
   intro l;induction l with
   | nil=>simp
   | cons y l aJ=>
    grind
  obtain⟨dP,e2⟩:=aD x 0 (Int.le_refl _) U;rw[aC _ dP (by omega),A.aH];rw[A.f_ x (λi (b:List al)=>(x,(x.length:Int),(i:Int),b,())) (λl b=>.next (b++l)) (λb=>.next (b,())) (λi b=>b.length<=40*i) [] ?_ ?_ ?_ ?_]
  ·rw[ej,A.aH,A.b2,Z3];rfl
  ·rfl
  ·simp
  ·intro i G b aa;have hw:=bC (n:=(i:Int)+1) (by omega) (by omega);have ak:=U _ (List.getElem_mem G);refine⟨?_,λbe cW=>?_⟩
   ·simp only[bW,cZ G,if_true,dm G,cL G,A.br,cm,hw];rw[A.bz (gv (by grind))];rfl
   grind
  simp
 ·rfl
 ·omega
 ·intro i G n aA;have hw:=bC (n:=(i:Int)+1) (by omega) (by omega);have ak:=U _ (List.getElem_mem G);have gE:=bC (n:=n+(x[i].length:Int)) (by omega) (by omega);have aw:decide (n+(x[i].length:Int)<0)=false:=by grind
  refine⟨?_,λbe cW=>?_⟩
  ·simp only[bW,cZ G,if_true,dm G,cL G,A.br,cm,hw,gE,aw,Bool.false_eq_true,if_false,A.aH,A.b2];rfl
  grind
 simp
end
abbrev I8:aP:=⟨.slice (.slice hq),.slice hq,λx=>x.length<=2/\∀ l∈x,l.length<=40,λx=>x.flatten⟩
theorem aqA(x):A.le (Z1 I6 x) (I8.sh x):=A.bw λh=>
 (show Z1 I6 x=I7 I6 x A.pure from rfl).trans (Z4 _ (λn a b=>A.bR ⟨a,b⟩ _) x _ h.1 h.2)
def I9(x:List (z1')×Unit):A (z1'×Unit):=A.dI (x.1.length<=2/\∀ l∈x.1,l.length<=40) (x.1.flatten,())
theorem aqB(x):A.le (Z2 I5 x) (I9 x):=A.bw λh=>
 (show Z2 I5 x=I7 I5 x.1 (λl=>A.pure (l,())) from rfl).trans (Z4 _ (λn a b=>A.bR ⟨a,b⟩ _) x.1 _ h.1 h.2)
def oa(l:z1')(j:Nat):Bool:=decide (j=0)||decide (l.getD j 0≠l.getD (j - 1) 0)
def fu(l:z1')(p:Nat):z1':=((List.range p).filter (oa l)).map λj=>l.getD j 0
theorem PV(l:z1')(p:Nat):fu l (p+1)=fu l p++if oa l p=true then [l.getD p 0] else []:=by
 unfold fu;rw[List.range_succ,List.filter_append,List.map_append];grind
theorem aqC(l:z1')(p:Nat):(fu l p).length<=p:=by
 unfold fu;grind
def EN{R:Type}:Int×(Nat×Nat)×Int×z1'×Unit->A (W (Int×(Nat×Nat)×Int×z1'×Unit) (W (Int×z1'×Unit) R)):=
 (λ(D:Int×(Nat×Nat)×Int×z1'×Unit)=>if decide (D.2.2.1<Int.ofNat (D.2.1.2 - D.2.1.1))=true then A.bind (A.ae (0<=D.2.2.1/\D.2.2.1<Int.ofNat
 (D.2.1.2 - D.2.1.1)) (A.ae (0<=IntKind.wrap .i64 (D.2.2.1 - 1)/\IntKind.wrap .i64 (D.2.2.1 - 1)<Int.ofNat (D.2.1.2 - D.2.1.1)) (if decide (List.getD D.2.2.2.1
 (Add.add D.2.1.1 (Int.toNat D.2.2.1)) 0≠List.getD D.2.2.2.1 (Add.add D.2.1.1 (Int.toNat (IntKind.wrap .i64 (D.2.2.1 - 1)))) 0)=true then A.ae (0<=D.2.2.1/\D.2.2.1
 < Int.ofNat (D.2.1.2 - D.2.1.1)) (A.ae (0<=D.1/\D.1<Int.ofNat (List.length D.2.2.2.1)) (A.pure (W.next (IntKind.wrap .i64 (Add.add D.1 1),D.2.1,D.2.2.1,List.set D.2.2.2.1 (Int.toNat D.1) (List.getD D.2.2.2.1 (Add.add D.2.1.1 (Int.toNat D.2.2.1)) 0),())))) else A.pure (W.next (D.1,D.2.1,D.2.2.1,D.2.2.2.1,())))))
 (W.bB λ(D:Int×(Nat×Nat)×Int×z1'×Unit)=>A.pure (W.next (D.1,D.2.1,IntKind.wrap .i64 (Add.add D.2.2.1 1),D.2.2.2.1,()))) else A.bind
 (A.pure (W.next (D.1,D.2.2.2.1,()))) λr=>A.pure (W.done r))
def wv:Int×z1'×Unit->A (W (Int×z1'×Unit) (W (z1'×Unit) ((Nat×Nat)×z1'×Unit))):=
 (λ(D:Int×z1'×Unit)=>if decide (D.1<Int.ofNat (List.length D.2.1))=true then A.bind (A.ae (0<=D.1/\D.1<Int.ofNat (List.length D.2.1)) (A.ae (0<=
 IntKind.wrap .i64 (D.1 - 1)/\IntKind.wrap .i64 (D.1 - 1)<Int.ofNat (List.length D.2.1)) (if decide (List.getD D.2.1 (Int.toNat D.1) 0=List.getD D.2.1 (Int.toNat
 (IntKind.wrap .i64 (D.1 - 1))) 0)=true then A.ae (0<=D.1/\D.1<=Int.ofNat (List.length D.2.1)/\Int.ofNat (List.length D.2.1)<=Int.ofNat (List.length D.2.1))
 (A.bind (A.loop EN (D.1,(Int.toNat D.1,Int.toNat (Int.ofNat (List.length D.2.1))),1,D.2.1,())) (W.bB λ(D:Int×z1'×Unit)=>A.ae (0<=D.1/\D.1<=
 Int.ofNat (List.length D.2.1)/\Int.ofNat (List.length D.2.1)<=Int.ofNat (List.length D.2.1)) (A.ae True (A.ae ((0:Int)<=0/\0<=D.1/\D.1<=Int.ofNat (List.length
 (List.take (Int.toNat D.1) D.2.1++List.replicate (Int.toNat (Int.ofNat (List.length D.2.1)) - Int.toNat D.1) 0++List.drop (Add.add (Int.toNat D.1) (List.length
 (List.replicate (Int.toNat (Int.ofNat (List.length D.2.1)) - Int.toNat D.1) (0:Int)))) D.2.1))) (A.bind (A.bind (A.bind (A.pure ((Int.toNat 0,Int.toNat D.1),List.take
 (Int.toNat D.1) D.2.1++List.replicate (Int.toNat (Int.ofNat (List.length D.2.1)) - Int.toNat D.1) 0++List.drop (Add.add (Int.toNat D.1) (List.length (List.replicate
 (Int.toNat (Int.ofNat (List.length D.2.1)) - Int.toNat D.1) (0:Int)))) D.2.1,())) λr=>A.pure (W.done r)) λr=>A.pure (W.done r)) λr=>A.pure (W.done
 r)))))) else A.pure (W.next (D.1,D.2.1,()))))) (W.bB λ(D:Int×z1'×Unit)=>A.pure (W.next (IntKind.wrap .i64 (Add.add D.1 1),D.2.1,()))) else
 A.bind (A.pure (W.next (D.2.1,()))) λr=>A.pure (W.done r))
structure yy(l:z1')(p:Nat)(m:z1'):Prop where
 len:m.length=l.length
 Cg:m.take (fu l p).length=fu l p
 lt:(fu l p).length<p
 ch:∀ j,p<=j+1->m.getD j 0=l.getD j 0
theorem aqD{al:Type}{l:List al}{i j:Nat}{v d:al}(h:i<l.length):(l.set i v).getD j d=if j=i then v else l.getD j d:=by
 grind
theorem yy.step{l m:z1'}{p:Nat}(h:yy l p m)(ao:p<l.length):yy l (p+1) (if oa l p=true then m.set (fu l p).length (l.getD p 0) else m):=by
 have E:=h.lt;have U:=h.len;have hc:=PV l p;by_cases an:oa l p=true
 ·rw[if_pos an]at hc ⊢;refine⟨by grind,?_,?_,λj aG=>?_⟩
  ·rw[hc,List.length_append,List.length_singleton];have aK:=h.Cg;generalize fu l p=c at aK E;apply List.ext_getElem?;intro j;rw[List.getElem?_take,List.getElem?_append,List.getElem?_set];grind
  ·grind
  ·rw[aqD (by omega),if_neg (by omega)];exact h.ch j (by omega)
 ·rw[if_neg an,List.append_nil]at hc;rw[if_neg an];refine⟨U,by rw[hc];exact h.Cg,by grind,λj aG=>h.ch j (by omega)⟩
theorem aqE{R:Type}{l m:z1'}{k p:Nat}(ak:l.length<60000)(an:k<p)(mT:0<k)(h:yy l p m)(ao:p<l.length) :
  EN (R:=R) (((fu l p).length:Nat),(k,l.length),((p - k:Nat):Int),m,())=A.pure (.next (((fu l (p+1)).length:Nat),(k,l.length),((p+1 - k:Nat):Int),(if oa l p=true then m.set (fu l p).length (l.getD p 0) else m),())):=by
 have E:=h.lt;have U:=h.len;have hc:=PV l p;have cn:=bC (n:=((p - k:Nat):Int) - 1) (by omega) (by omega);have da:IntKind.wrap .i64 (((p - k:Nat):Int)+1)=((p+1 - k:Nat):Int):=(bC (by omega) (by omega)).trans (by omega);have eY:=bC (n:=(((fu l p).length:Nat):Int)+1) (by omega) (by omega);have d1:decide (((p - k:Nat):Int)<((l.length - k:Nat):Int))=true:=by grind
 have cj:(0:Int)<=((p - k:Nat):Int)/\((p - k:Nat):Int)<((l.length - k:Nat):Int):=by omega
 have cK:(0:Int)<=((p - k:Nat):Int) - 1/\((p - k:Nat):Int) - 1<((l.length - k:Nat):Int):=by omega
 have eu:(0:Int)<=(((fu l p).length:Nat):Int)/\(((fu l p).length:Nat):Int)<(m.length:Int):=by omega
 have ay:k+(((p - k:Nat):Int)).toNat=p:=by omega
 have aN:k+(((p - k:Nat):Int) - 1).toNat=p - 1:=by omega
 have g1:=h.ch p (by omega);have et:=h.ch (p - 1) (by omega);have zn:oa l p=decide (l.getD p 0≠l.getD (p - 1) 0):=by
  unfold oa;grind
 unfold EN;simp only[bW,d1,if_true,cn,cj,cK,and_self,A.br,cm,hM,ay,aN,g1,et,<-zn];by_cases I_:oa l p=true
 ·rw[if_pos I_]at hc;simp only[I_,if_true,eu,and_self,A.br,A.aH,A.b2,da,eY,Int.toNat_natCast,decide_true];rw[hc];simp
 ·rw[if_neg I_,List.append_nil]at hc;simp only[I_,if_false,A.aH,A.b2,da,Bool.false_eq_true,decide_true,if_true];rw[hc]
theorem aqF{R:Type}{l:z1'}{k:Nat}(ak:l.length<60000)(mT:0<k):∀ (n p:Nat) (m:z1'),l.length - p=n->p<=l.length->k<p->yy l p m->
  ∃ dx,yy l l.length dx/\A.loop (EN (R:=R)) (((fu l p).length:Nat),(k,l.length),((p - k:Nat):Int),m,())=A.pure (.next (((fu l l.length).length:Nat),dx,())):=by
 intro n;induction n with
 | zero=>
  intro p m aA ao an h;have:p=l.length:=by omega
  subst this;refine⟨m,h,A.rX ?_⟩;unfold EN;simp
 | succ n aJ=>
  intro p m aA ao an h;have ao:p<l.length:=by omega
  obtain⟨dx,E,U⟩:=aJ (p+1) _ (by omega) ao (by omega) (h.step ao);exact⟨dx,E,(A.yW (aqE ak an mT h ao)).trans U⟩
def wx(l:z1'):(Nat×Nat)×z1'×Unit:=((0,(fu l l.length).length),fu l l.length++List.replicate (l.length - (fu l l.length).length) 0,())
theorem aqG{l:z1'}(ak:l.length<60000):∀ (n p:Nat),l.length - p=n->p<=l.length->0<p->fu l p=l.take p->
  A.bind (A.loop wv ((p:Int),l,())) (W.bB λ(D:z1'×Unit)=>A.pure ((0,List.length D.1),D.1,()))=A.pure (wx l):=by
 intro n;induction n with
 | zero=>
  intro p aA ao aX hc;have:p=l.length:=by omega
  subst this;rw[List.take_length]at hc;have aa:wv ((l.length:Int),l,())=A.pure (.done (.next (l,()))):=by
   unfold wv;simp
  rw[A.rX aa,A.aH,A.b2];unfold wx;simp_all
 | succ n aJ=>
  intro p aA ao aX hc;have ao:p<l.length:=by omega
  have cn:=bC (n:=(p:Int) - 1) (by omega) (by omega);have da:=bC (n:=(p:Int)+1) (by omega) (by omega);have cK:(0:Int)<=(p:Int) - 1/\(p:Int) - 1<(l.length:Int):=by omega
  have ay:((p:Int) - 1).toNat=p - 1:=by omega
  have zn:oa l p=decide (l.getD p 0≠l.getD (p - 1) 0):=by
   unfold oa;rw[show decide (p=0)=false by grind,Bool.false_or]
  have nJ:=PV l p;have Zs:(l.take p).length=p:=by grind
  by_cases an:oa l p=true
  ·have eD:¬l.getD p 0=l.getD (p - 1) 0:=by grind
   have aa:wv ((p:Int),l,())=A.pure (.next (((p+1:Nat):Int),l,())):=by
    unfold wv;simp_all
   rw[A.yW aa];refine aJ (p+1) (by omega) ao (by omega) ?_;simp_all
  ·have heq:l.getD p 0=l.getD (p - 1) 0:=by grind
   rw[if_neg an,List.append_nil]at nJ;have eA:yy l (p+1) l:=⟨rfl,by grind,by grind,λ_ _=>rfl⟩
   obtain⟨dx,E,U⟩:=aqF (R:=W (Int×z1'×Unit) (W (Int×z1'×Unit) (W (z1'×Unit) ((Nat×Nat)×z1'×Unit)))) ak aX (l.length - (p+1)) (p+1) l rfl ao (by omega) eA;rw[show (fu l (p+1)).length=p by grind,show p+1 - p=1 from by omega]at U;have lL:=aqC l l.length;have anf:=E.len;have kN:=E.Cg;have eu:(0:Int)<=((fu l l.length).length:Int)/\((fu l l.length).length:Int)<=(dx.length:Int):=by omega
   have jk:List.take (fu l l.length).length dx++List.replicate (dx.length - (fu l l.length).length) 0++List.drop ((fu l l.length).length+(List.replicate (dx.length - (fu l l.length).length) (0:Int)).length) dx=fu l l.length++List.replicate (l.length - (fu l l.length).length) 0:=by
    simp_all
   have aa:wv ((p:Int),l,())=A.pure (.done (.done (wx l))):=by
    unfold wv;simp only[bW,cZ ao,if_true,cL ao,A.br,cn,cK,and_self,ay,Int.toNat_natCast,heq,decide_true];rw[A.bz (by omega)];erw [U];simp only[A.aH,A.b2,bW,Int.toNat_natCast,hM,jk,A.br];rw[A.bz ⟨eu.1,eu.2,Int.le_refl _⟩,A.bz ⟨Int.le_refl _,eu.1,by grind⟩];simp only[A.aH,A.pw,jk];rfl
   rw[A.rX aa,A.aH,A.pw]
def I'(x:z1'×Unit):A ((Nat×Nat)×z1'×Unit):=A.dI (x.1.length<60000) (wx x.1)
theorem aqH(x):A.le (aqz x) (I' x):=A.bw λh=>by
 obtain⟨l,u⟩:=x;change l.length<60000 at h;show (if decide (Int.ofNat l.length<2)=true then A.pure ((0,l.length),l,()) else A.bind (A.loop wv (1,l,())) (W.bB λ(D:z1'×Unit)=>A.pure ((0,List.length D.1),D.1,())))=A.pure (wx l);have nM:∀ l:z1',l.length<2->fu l l.length=l:=λl ak=>by
  match l,ak with
  | [],_=>rfl
  | [a],_=>rfl
 by_cases U:l.length<2
 ·have aw:decide (Int.ofNat l.length<2)=true:=by grind
  rw[if_pos aw];unfold wx;simp_all
 ·have aw:¬decide (Int.ofNat l.length<2)=true:=by grind
  rw[if_neg aw];refine aqG h (l.length - 1) 1 rfl (by omega) (by omega) ?_;match l,U with
  | a::l,_=>rfl
  | [],U=>grind
end Go.Fer.H
namespace Go.Fer.H
open A (W)
theorem aqI{l:z1'}:∀ j,j<l.length->l.getD j 0∈fu l l.length:=by
 intro j;induction j with
 | zero=>
  intro h;unfold fu;exact List.mem_map.2 ⟨0,List.mem_filter.2 ⟨by grind,by rfl⟩,rfl⟩
 | succ j aJ=>
  intro h;by_cases an:oa l (j+1)=true
  ·unfold fu;grind
  ·have:l.getD (j+1) 0=l.getD j 0:=by
    unfold oa at an;grind
   grind
theorem aqJ{l:z1'}{x:Int}:x∈fu l l.length<->x∈l:=by
 constructor
 ·intro h;unfold fu at h;grind
 ·intro h;obtain⟨j,aG,rfl⟩:=List.mem_iff_getElem.1 h;rw[<-sR (d:=0) aG];exact aqI j aG
theorem aqK{l:z1'}(h:l.Pairwise (·<=·)):(fu l l.length).Pairwise (·<·):=by
 unfold fu;rw[List.pairwise_map];have M:((List.range l.length).filter (oa l)).Pairwise (·<·):=List.Pairwise.filter _ List.pairwise_lt_range;refine List.Pairwise.imp_of_mem ?_ M;intro i j G aG zu;obtain⟨aqL,iZ⟩:=List.mem_filter.1 aG;have aqL:j<l.length:=by grind
 have eD:l.getD j 0≠l.getD (j - 1) 0:=by
  unfold oa at iZ;grind
 have aD:=List.pairwise_iff_getElem.1 h;grind
def rO(a b:z1'):z1':=(ev 0 99).filter λid=>a.contains id||b.contains id
theorem Z5(a b:Int):(ev a b).Pairwise (·<·):=by
 unfold ev;rw[List.pairwise_map];exact (List.pairwise_lt_range).imp λh=>by omega
theorem aqM{a b:z1'}(bb:a.Pairwise (·<·))(aa:b.Pairwise (·<·))(h:∀ x,x∈a<->x∈b):a=b:=by
 have aqN:a.Nodup:=bb.imp λh=>by omega
 have mr:b.Nodup:=aa.imp λh=>by omega
 have ao:=(List.perm_ext_iff_of_nodup aqN mr).2 h;rw[<-AA (bb.imp λh=>by omega) (List.Perm.refl a)];exact AA (aa.imp λh=>by omega) ao
theorem aqO{a b:z1'}(bb:∀ x∈a,b4 x 0 99=true)(aa:∀ x∈b,b4 x 0 99=true):fu (fr hs (a++b)) (fr hs (a++b)).length=rO a b:=by
 refine aqM (aqK (Og _)) (List.Pairwise.filter _ (Z5 0 99)) λx=>?_;rw[aqJ,Xb];unfold rO;simp only[List.mem_append,List.mem_filter,sG,Bool.or_eq_true,List.contains_iff_mem];refine⟨λh=>⟨?_,h⟩,λh=>h.2⟩;rcases h with h | h
 ·exact oP.1 (bb x h)
 ·exact oP.1 (aa x h)
abbrev Ja:a6:=([],[],[],[],0,0,0,0,0,0,0)
def nq(c:a6)(more:List ba)(hd:z1'):a6:=(c.1,more,hd,c.2.2.2)
def ob(c:a6)(more:List ba)(hd:z1'):a6×Int:=
 if cP c≠0 then (Ja,cP c) else if cP (nq c more hd)≠0 then (Ja,cP (nq c more hd)) else
 if kX (c.2.1++more)=true then (Ja,91) else
 if (decide (Int.ofNat (gW (c.2.1++more)).length > 12)||decide (Int.ofNat (rO c.2.2.1 hd).length > 12))=true then (Ja,90) else (nq c (gW (c.2.1++more)) (rO c.2.2.1 hd),0)
abbrev Bp:aP:=⟨.az jv (.az (.slice hq) fP),.az jv bx,λx=>iR x.1/\x.2.1.length<2 ^ 63/\x.2.2.length<2 ^ 63,λx=>ob x.1 x.2.1 x.2.2⟩
abbrev EO:aP:=⟨.slice mA,.slice mA,λx=>x.length<65536,λx=>x⟩
theorem aqP(x):A.le (WE x) (EO.sh x):=A.sF λh=>by
 unfold WE;rw[A.fX];refine⟨⟨false,by simp⟩,λb aa=>?_⟩;change b=true->x=[]at aa;cases b with
 | true=>rw[aa rfl];exact A.d'.2 rfl
 | false=>
  simp only[Bool.false_eq_true,if_false];exact A.kI.2 ⟨gv (by grind),A.d'.2 (by simp)⟩
structure Z6(c:a6):Prop where
 ee:c.1.length<=3
 eh:c.2.1.length<=12
 jI:c.2.2.1.length<=12
 n4:c.2.2.2.1.length<=4
 ids:∀ s∈c.2.1,b4 s.1 0 99=true
 hd:∀ n∈c.2.2.1,b4 n 0 99=true
 cl:kX c.2.1=false
theorem Jb{c:a6}(h:cP c=0):Z6 c:=by
 unfold cP at h;by_cases hc:jT c=true
 ·rw[if_pos hc]at h;have lL:kX c.2.1=false:=by
   grind
  have G:=HX hc;unfold jT sP at hc;simp only[Bool.and_eq_true,List.all_eq_true,Bool.not_eq_true',Bool.or_eq_false_iff,decide_eq_false_iff_not]at hc;obtain⟨⟨⟨⟨⟨bk,_⟩,_⟩,U⟩,ah⟩,_⟩:=hc;exact⟨by omega,by omega,by omega,by omega,G.2,ah,lL⟩
 grind
theorem aqQ{a b:List ba}(bb:a.length<=12)(aa:b.length<=12)(E:∀ s∈a,b4 s.1 0 99=true)(U:∀ s∈b,b4 s.1 0 99=true):vP (a++b):=
 ⟨by grind,λs aD=>(List.mem_append.1 aD).elim (E s) (U s)⟩
theorem aqR(x):A.le (Z0 h2.sh AK.sh I8.sh I9 x8 I' EO.sh x) (Bp.sh x):=A.bw λh=>by
 obtain⟨c,more,hd⟩:=x;obtain⟨E,U,ah⟩:=h;change iR c at E;change more.length<2 ^ 63 at U;change hd.length<2 ^ 63 at ah;have tS:iR (nq c more hd):=⟨E.1,U,ah,E.2.2.2⟩
 unfold Z0;show _=A.pure (ob c more hd);unfold ob;rw[show h2.sh (c,more,hd).1=A.pure (cP c) from A.bR E _,A.aH];by_cases ay:cP c=0
 ·have g1:=Jb ay;rw[show h2.sh ((c,more,hd).1.1,(c,more,hd).2.1,(c,more,hd).2.2,(c,more,hd).1.2.2.2)=A.pure (cP (nq c more hd)) from A.bR tS _,A.aH];by_cases aN:cP (nq c more hd)=0
  ·have et:=Jb aN;have eh:more.length<=12:=et.eh;have jI:hd.length<=12:=et.jI;have p9:=g1.eh;have mj:=g1.jI;have G:vP (c.2.1++more):=aqQ g1.eh et.eh g1.ids et.ids;rw[if_neg (by grind),if_neg (by grind),if_neg (by omega),if_neg (by omega)];rw[show I8.sh [(c,more,hd).1.2.1,(c,more,hd).2.1]=A.pure (c.2.1++more) from (A.bR ⟨by simp,by grind⟩ _).trans (congrArg A.pure (by simp)),A.aH];rw[show AK.sh (c.2.1++more)=A.pure (if kX (c.2.1++more)=true then ([],false) else (gW (c.2.1++more),true)) from A.bR G _,A.aH];cases hc:kX (c.2.1++more) with
   | true=>simp
   | false=>
    simp only[Bool.false_eq_true,if_false,Bool.not_true];rw[show I9 ([c.2.2.1,hd],())=A.pure (c.2.2.1++hd,()) from (A.bR ⟨by simp,by grind⟩ _).trans (congrArg A.pure (by simp)),A.aH];rw[show x8 ((c.2.2.1++hd,()):z1'×Unit)=A.pure (fr hs (c.2.2.1++hd),()) from A.bR (by grind) _,A.aH];rw[show I' ((fr hs (c.2.2.1++hd),()):z1'×Unit)=A.pure (wx (fr hs (c.2.2.1++hd))) from A.bR (by show (fr hs (c.2.2.1++hd)).length<_;rw[HQ];grind) _,A.aH];have ie:=aqO g1.hd et.hd;unfold wx;rw[show (fu (fr hs (c.2.2.1++hd)) (fr hs (c.2.2.1++hd)).length)=rO c.2.2.1 hd from ie];simp only[Nat.sub_zero,List.drop_zero,List.take_left];rw[show EO.sh c.1=A.pure c.1 from A.bR (by have:=g1.ee;omega) _,show EO.sh c.2.2.2.1=A.pure c.2.2.2.1 from A.bR (by have:=g1.n4;omega) _];simp only[A.iS,A.fD,A.br];split<;>rfl
  grind
 grind
end Go.Fer.H
namespace Go.Fer.au
open A (W)
abbrev ta:ad:=.slice .str
abbrev wy:ad:=.st (.az l5 H.jv)
def cH:aM->List aM
 | []=>[[]]
 | c::s=>if c=32 then []::cH s else match cH s with
  | []=>[[c]]
  | w::l=>(c::w)::l
theorem uR:∀ (s:aM),1<=(cH s).length/\(cH s).length<=s.length+1
 | []=>by simp[cH]
 | c::s=>by
  have:=uR s;unfold cH;grind
theorem Z7:∀ (s:aM) {w:aM},w∈cH s->w.length<=s.length
 | [],w,h=>by simp[cH]at h;simp[h]
 | c::s,w,h=>by
  have aJ:=@Z7 s;unfold cH at h;grind
def ga:aM->Int->Int
 | [],n=>n
 | c::s,n=>if (decide ((c.toNat:Int)<48)||decide ((c.toNat:Int) > 57))=true then -1 else ga s (10*n+((c.toNat:Int) - 48))
def e1(s:aM):Int:=if (decide (s.length=0)||decide (s.length > 6)||decide (s.length > 1)&&decide ((s.getD 0 0).toNat=48))=true then -1 else ga s 0
theorem PW:∀ (s:aM) (n:Int) (k:Nat),0<=n->n<10 ^ k->ga s n<10 ^ (k+s.length)/\-1<=ga s n
 | [],n,k,aX,E=>by simp[ga];omega
 | c::s,n,k,aX,E=>by
  unfold ga;have ao:(0:Int)<10 ^ (k+(c::s).length):=Int.pow_pos (by decide);split
  ·omega
  ·rename_i hc;simp only[Bool.or_eq_true,decide_eq_true_eq,not_or]at hc;have:=PW s (10*n+((c.toNat:Int) - 48)) (k+1) (by omega) (by omega);grind
theorem aqS(s:aM):-1<=e1 s/\e1 s<=999999:=by
 unfold e1;split
 ·omega
 ·rename_i h;simp only[Bool.or_eq_true,decide_eq_true_eq,not_or]at h;have:=PW s 0 0 (by decide) (by decide);have U:(10:Int) ^ (0+s.length)<=10 ^ 6:=by
   have:=Nat.pow_le_pow_right (n:=10) (by decide) (show 0+s.length<=6 by omega);grind
  omega
def tb(s:aM):Int:=match Go.Lib.atoiAll s with
 | .ok v=>v
 | .range=>Go.Lib.atoiSat s
 | _=>0
def rb(s:aM):Int×Bool:=(tb s,decide (0<=e1 s))
def EP(l:List aM):Option (z1'):=if l.all (λw=>decide (0<=e1 w))=true then some (l.map e1) else none
def rP(n:Int):aM:=Go.Lib.itoa (IntKind.wrap .i64 n)
theorem PX(n:Int):(rP n).length<=21:=by
 have:=p6 .i64 n;exact Go.Lib.itoa_length_le _ this.1 this.2
abbrev oc:aM:=[111,107]
abbrev yz:aM:=[110,111]
abbrev Z8:aM:=[110,111,110,101]
abbrev PY:aM:=[115,104,111,112]
abbrev aqT:aM:=[108,105,97,114]
abbrev aqU:aM:=[63]
def rQ(l:z1'):aM:=if l=[] then Z8 else Go.Lib.join (l.map rP) [32]
def qF(e:Int)(l:z1'):aM:=if e=0 then rQ l else if e=3 then Z8 else yz
def yA(x:(Int×Int)×Int):aM:=qF x.2 [x.1.1,x.1.2]
abbrev bp(l:z1')(i:Nat):Int:=l.getD i 0
def pQ(d:a_)(m:List H.ba)(v:z1'):aM×a_:=if (H.ob d.2 m v).2≠0 then (yz,d) else (oc,(d.1,(H.ob d.2 m v).1))
def lB(d:a_)(s:bI):aM×a_:=if jf s≠0 then (yz,d) else (oc,(s,d.2))
def PZ(d:a_)(l:z1'):aM×a_:=pQ d [(bp l 0,bp l 1,bp l 2,1,bp l 3,bp l 4)] []
def P0(d:a_)(l:z1'):aM×a_:=pQ d [(bp l 0,bp l 1,bp l 2,2,bp l 3,0)] []
def P1(d:a_)(l:z1'):aM×a_:=pQ d [] l
def P2(d:a_)(l:z1'):aM×a_:=(yA (H.H5 d.2 (bp l 0)),d)
def P3(d:a_)(l:z1'):aM×a_:=(yA (H.H7 d.2 (bp l 0)),d)
def P4(d:a_)(l:z1'):aM×a_:=(yA (H.H9 d.2 (bp l 0)),d)
def P5(d:a_)(l:z1'):aM×a_:=(yA (H.Ia d.2 (bp l 0)),d)
def P6(r:z1'×Int):aM:=if (decide (r.2≠0)||decide (r.1.getD 0 0>=0))=true then qF r.2 r.1 else if r.1.length=1 then PY else PY++[32]++rQ (r.1.drop 1)
def P7(d:a_)(l:z1'):aM×a_:=(P6 (H.rC d.2 (bp l 0) (bp l 1)),d)
def P8(r:z1'×z1'×Int):aM:=if r.2.2≠0 then qF r.2.2 [] else rQ r.1++[32,47,32]++rQ r.2.1
def P9(d:a_)(l:z1'):aM×a_:=(P8 (H.sU d.2 (bp l 0)),d)
def nr(w:bo)(t:Int×Int×Int×Int):bo:=(w.1,w.2.1,w.2.2.1,w.2.2.2++[t])
def wz(d:a_)(l:z1'):aM×a_:=
 if cP (nr d.1.1 (bp l 0,bp l 1,bp l 2,bp l 3))≠0 then (yz,d) else if (wc (nr d.1.1 (bp l 0,bp l 1,bp l 2,bp l 3)) (bp l 0)).2≠0 then (aqT,d)
 else (oc,((nr d.1.1 (bp l 0,bp l 1,bp l 2,bp l 3),d.1.2),d.2))
def uM(r:Int×Int):aM:=if r.2≠0 then qF r.2 [] else List.getD [[],[115,117,114,101,108,121],[110,101,118,101,114],[112,101,114,104,97,112,115]] r.1.toNat []
def P_(d:a_)(l:z1'):aM×a_:=(uM (qE d.1.1 (bp l 0) (bp l 1) (bp l 2)),d)
def wA(d:a_)(l:z1'):aM×a_:=if bp l 0>=(d.1.2.1.length:Int) then (yz,d) else lB d (d.1.1,d.1.2.1.set (bp l 0).toNat (d.1.2.1.getD (bp l 0).toNat 0+bp l 1),d.1.2.2)
def P'(d:a_)(l:z1'):aM×a_:=lB d (d.1.1,d.1.2.1,d.1.2.2.1,d.1.2.2.2.1,d.1.2.2.2.2.1++[(bp l 0,bp l 1,bp l 2)],d.1.2.2.2.2.2)
def Qa(d:a_)(l:z1'):aM×a_:=lB d (d.1.1,d.1.2.1,d.1.2.2.1++[(bp l 0,bp l 1,bp l 2,bp l 3,l.drop 4)],d.1.2.2.2)
def qG(d:a_)(l:z1'):aM×a_:=lB d (d.1.1,d.1.2.1,d.1.2.2.1,d.1.2.2.2.1++[(l.drop 5,(bp l 0,bp l 1),bp l 2,bp l 3,bp l 4)],d.1.2.2.2.2)
def rR(d:a_)(l:z1'):aM×a_:=if bp l 0>=(d.1.2.2.2.1.length:Int) then (yz,d) else (oc,((d.1.1,d.1.2.1,d.1.2.2.1,d.1.2.2.2.1.eraseIdx (bp l 0).toNat,d.1.2.2.2.2),d.2))
def Qb(d:a_)(l:z1'):aM×a_:=(qF (uP d.1 (bp l 0)).2 (uP d.1 (bp l 0)).1,d)
def Qc(d:a_)(l:z1'):aM×a_:=(qF (Bn d.1 (l.map (· - 1))).2 [(Bn d.1 (l.map (· - 1))).1],d)
def Qd(d:a_)(_:z1'):aM×a_:=(qF (yx d.1 true).2 [(yx d.1 true).1],d)
def Qe(d:a_)(_:z1'):aM×a_:=(qF (Bm d.1).2 [(Bm d.1).1],d)
def tc:Nat->a_->z1'->aM×a_
 | 0=>PZ | 1=>P0 | 2=>P1 | 3=>P2 | 4=>P3 | 5=>P4 | 6=>P5 | 7=>P7 | 8=>P9 | 9=>wz
 | 10=>P_ | 11=>wA | 12=>P' | 13=>Qa | 14=>qG | 15=>rR | 16=>Qb | 17=>Qc | 18=>Qd | _=>Qe
def kF:List (aM×Int×Bool):=[([108,101,110,100],5,false),([98,97,99,107],4,false),([118,111,105,100],1,false),([108,97,115,116,115],1,false),([102,101,101],1,false),([111,119,101,115],1,false),([104,101,108,100],1,false),([119,104,101,114,101],2,false),([109,105,115,115,105,110,103],1,false),([116,114,105,97,108],4,false),([102,105,116,115],3,false),([115,116,111,99,107],2,false),([99,111,109,101,115],3,false),([112,105,101,99,101],4,true),([119,105,115,104],5,true),([100,114,111,112],1,false),([99,97,110],1,false),([116,97,107,101,115],0,true),([109,111,115,116],0,false),([101,120,116,114,97],0,false)]
def od(w:aM):List (aM×Int×Bool)->Nat->Option (Int×Bool×Nat)
 | [],_=>none
 | p::l,i=>if w=p.1 then some (p.2.1,p.2.2,i) else od w l (i+1)
def ER(s:aM):Option (Nat×z1'):=
 match od ((cH s).getD 0 []) kF 0 with
 | none=>none
 | some (k,m,j)=>if (decide (((cH s).length:Int) - 1<k)||decide (((cH s).length:Int) - 1 > k)&&!m)=true then none else (EP ((cH s).drop 1)).map λl=>(j,l)
def jg(d:a_)(s:aM):aM×a_:=match ER s with
 | none=>(aqU,d)
 | some (j,l)=>tc j d l
def fv:a_->List aM->List aM×a_
 | d,[]=>([],d)
 | d,s::l=>((jg d s).1::(fv (jg d s).2 l).1,(fv (jg d s).2 l).2)
theorem Z9(d:a_)(a b:List aM):fv d (a++b)=((fv d a).1++(fv (fv d a).2 b).1,(fv (fv d a).2 b).2):=by
 induction a generalizing d with
 | nil=>rfl
 | cons s a aJ=>simp only[List.cons_append,fv,aJ]
theorem aqV(d:a_)(a:List aM):(fv d a).1.length=a.length:=by
 induction a generalizing d with
 | nil=>rfl
 | cons s a aJ=>simp only[fv,List.length_cons,aJ]
def iv(d:a_):Int:=if (decide (jf d.1≠0)||decide (H.cP d.2≠0))=true then 120 else 0
def ft(d:a_):a_:=(d.1,(H.ob d.2 [] []).1)
abbrev Z_:a_:=((([],[],0,[]),[],[],[],[],0),[],[],[],[],0,0,0,0,0,0,0)
def lC(d:a_)(l:List aM):List aM×a_×Int:=
 if iv d≠0 then ([],Z_,iv d) else if l.length > 40 then ([],Z_,2) else ((fv (ft d) l).1,(fv (ft d) l).2,0)
structure ds(d:a_):Prop where
 gL:fx d.1
 yB:jf d.1=0
 yC:H.cP d.2=0
 Bq:H.kj d.2.1<=60
theorem ds.val{d:a_}(h:ds d):l6 d.1:=Bd h.gL h.yB
theorem ds.Z'{d:a_}(h:ds d):iv d=0:=by simp[iv,h.yB,h.yC]
theorem ds.aqW{d:a_}(h:ds d):H.Z6 d.2:=H.Jb h.yC
theorem ds.gF{d:a_}(h:ds d):H.gF d.2:=by
 have:=h.aqW;exact⟨⟨by have:=this.ee;omega,by have:=this.eh;omega,by have:=this.jI;omega,by have:=this.n4;omega⟩,λ_=>h.Bq⟩
theorem ds.iR{d:a_}(h:ds d):H.iR d.2:=h.gF.gL
structure eF(k:Nat)(l:z1'):Prop where
 Qf:k<=l.length
 Jc:l.length<=10000
 num:∀ n∈l,0<=n/\n<=999999
theorem eF.bp{k:Nat}{l:z1'}(h:eF k l)(i:Nat):0<=bp l i/\bp l i<=999999:=by
 rcases Nat.lt_or_ge i l.length with G | G
 ·have:=h.num l[i] (by simp);grind
 ·grind
end Go.Fer.au
namespace Go.Fer.au
open A (W)
open H (gv)
abbrev Jd:aP:=⟨.int .i64,.str,λ_=>True,rP⟩
abbrev ES:aP:=⟨.az ta .str,.str,λx=>x.1.length<=60000/\(∀ w∈x.1,w.length<=21)/\x.2.length=1,λx=>Go.Lib.join x.1 x.2⟩
theorem aaa:∀ (l:List aM) (s:aM) (n:Nat),(∀ w∈l,w.length<=n)->(Go.Lib.join l s).length<=l.length*(n+s.length)
 | [],s,n,h=>by simp[Go.Lib.join_nil]
 | x::r,s,n,h=>by
  rw[Go.Lib.join_cons];have aK:∀ (r:List aM),(∀ w∈r,w.length<=n)->(Go.Lib.joinTail s r).length<=r.length*(n+s.length):=by
   intro r;induction r with
   | nil=>intro _;simp[Go.Lib.joinTail]
   | cons y r aJ=>
    intro h;have E:=aJ λw hw=>h w (by grind);have U:=h y (by simp);simp only[Go.Lib.joinTail,List.map_cons,List.flatten_cons,List.length_append,List.length_cons,Nat.succ_mul]at E ⊢;omega
  have E:=aK r λw hw=>h w (by grind);have U:=h x (by simp);simp only[List.length_append,List.length_cons,Nat.succ_mul];omega
theorem Qg(l:z1'):(rQ l).length<=l.length*22+4:=by
 unfold rQ;split
 ·simp
 ·have:=aaa (l.map rP) [32] 21 λw hw=>by
   obtain⟨n,_,rfl⟩:=List.mem_map.1 hw;exact PX n
  grind
abbrev yD:aP:=⟨fP,.str,λx=>x.length<=60000,rQ⟩
theorem aqX(x):A.le (Yu Jd.sh ES.sh x) (yD.sh x):=A.bw λh=>by
 change x.length<=60000 at h;unfold Yu;show _=A.pure (rQ x);unfold rQ;by_cases ai:x=[]
 ·grind
 ·have ak:x.length≠0:=by grind
  rw[if_neg (by grind),if_neg ai];rw[A.f_ x (λi (o:List aM)=>(x,(x.length:Int),(i:Int),o,())) (λn o=>.next (o++[rP n])) (λo=>.next (o,())) (λi o=>o.length=i) [] ?_ rfl ?_ ?_]
  ·rw[ej,xV,List.nil_append,A.aH,A.b2];rw[show ES.sh (x.map rP,[32])=A.pure (Go.Lib.join (x.map rP) [32]) from A.bR ⟨by grind,λw hw=>by
    obtain⟨n,_,rfl⟩:=List.mem_map.1 hw;exact PX n,rfl⟩ _,A.aH]
  ·rfl
  ·intro i G o ag;have hw:=bC (n:=(i:Int)+1) (by omega) (by omega);refine⟨?_,λbe cW=>?_⟩
   ·simp only[bW,cZ G,if_true,dm G,cL G,A.br,cm,hw];rw[show Jd.sh x[i]=A.pure (rP x[i]) from rfl,A.aH,A.bz (gv (by grind))];rfl
   ·grind
  simp
abbrev qH:aP:=⟨.az (.int .i64) fP,.str,λx=>x.2.length<=60000,λx=>qF x.1 x.2⟩
theorem aqY(x):A.le (Yt yD.sh x) (qH.sh x):=A.bw λh=>by
 change x.2.length<=60000 at h;unfold Yt;show _=A.pure (qF x.1 x.2);unfold qF;rw[show yD.sh x.2=A.pure (rQ x.2) from A.bR h _,A.aH];grind
abbrev yE:aP:=⟨.az mA (.int .i64),.str,λ_=>True,yA⟩
theorem aqZ(x):A.le (Ys qH.sh x) (yE.sh x):=A.bw λ_=>by
 unfold Ys;rw[show qH.sh (x.2,[x.1.1,x.1.2])=A.pure (yA x) from A.bR (show 2<=60000 by decide) _,A.aH]
theorem yF{e:Int}{l:z1'}(h:l.length<=60000):qH.sh (e,l)=A.pure (qF e l):=A.bR h _
theorem Qh{l:z1'}(h:l.length<=60000):yD.sh l=A.pure (rQ l):=A.bR h _
theorem Je(x:(Int×Int)×Int):yE.sh x=A.pure (yA x):=rfl
def fw(k:Nat)(g:a_->z1'->aM×a_)(x:z1'×a_×Unit):A (aM×a_×Unit):=A.dI (ds x.2.1/\eF k x.1) ((g x.2.1 x.1).1,(g x.2.1 x.1).2,())
theorem ns:Int.toNat 0=0:=rfl
theorem nu:Int.toNat 1=1:=rfl
theorem nv:Int.toNat 2=2:=rfl
theorem nw:Int.toNat 3=3:=rfl
theorem nx:Int.toNat 4=4:=rfl
theorem ny:Int.toNat 5=5:=rfl
theorem nz{al:Type}{k:Nat}{l:z1'}(h:eF k l)(m:A al)(i:Int)(G:0<=i/\i<(k:Int)):A.ae (0<=i/\i<Int.ofNat l.length) m=m:=
 A.bz ⟨G.1,by have:=h.Qf;grind⟩ m
def Br(x:List H.ba×z1'×a_×Unit):A (aM×a_×Unit):=A.dI (ds x.2.2.1/\x.1.length<2 ^ 63/\x.2.1.length<2 ^ 63) ((pQ x.2.2.1 x.1 x.2.1).1,(pQ x.2.2.1 x.1 x.2.1).2,())
theorem aq0(x):A.le (Yo H.Bp.sh x) (Br x):=A.bw λh=>by
 obtain⟨m,v,d,⟨⟩⟩:=x;obtain⟨aw,E,U⟩:=h;unfold Yo;rw[A.br,show H.Bp.sh (d.2,m,v)=A.pure (H.ob d.2 m v) from A.bR ⟨aw.iR,E,U⟩ _,A.aH];unfold pQ;by_cases e:(H.ob d.2 m v).2=0<;>simp[e]
theorem Qi{d:a_}(aw:ds d)(m:List H.ba)(v:z1')(E:m.length<2 ^ 63)(U:v.length<2 ^ 63):Br (m,v,d,())=A.pure ((pQ d m v).1,(pQ d m v).2,()):=A.bR ⟨aw,E,U⟩ _
theorem aq1(x):A.le (Yn Br x) (fw 5 PZ x):=A.bw λh=>by
 obtain⟨l,d,⟨⟩⟩:=x;obtain⟨aw,ak⟩:ds d/\eF _ l:=h;unfold Yn;simp (disch:=decide) only [nz ak,A.br,ns,nu,nv,nw,nx,ny];rw[Qi aw _ _ (by simp) (by simp),A.aH];rfl
theorem aq2(x):A.le (Yp Br x) (fw 4 P0 x):=A.bw λh=>by
 obtain⟨l,d,⟨⟩⟩:=x;obtain⟨aw,ak⟩:ds d/\eF _ l:=h;unfold Yp;simp (disch:=decide) only [nz ak,A.br,ns,nu,nv,nw,nx,ny];rw[Qi aw _ _ (by simp) (by simp),A.aH];rfl
theorem OD(x):A.le (Yq Br x) (fw 1 P1 x):=A.bw λh=>by
 obtain⟨l,d,⟨⟩⟩:=x;obtain⟨aw,ak⟩:ds d/\eF _ l:=h;unfold Yq;rw[Qi aw _ _ (by simp) (show l.length<2 ^ 63 by have:=ak.Jc;omega),A.aH];rfl
theorem aq3(x):A.le (Yr H.H6.sh yE.sh x) (fw 1 P2 x):=A.bw λh=>by
 obtain⟨l,d,⟨⟩⟩:=x;obtain⟨aw,ak⟩:ds d/\eF _ l:=h;unfold Yr;simp (disch:=decide) only [nz ak,A.br,ns,nu,nv,nw,nx,ny];rw[show H.H6.sh (d.2,bp l 0)=A.pure _ from A.bR aw.gF _];simp only[A.iS,A.fD,A.br,Je];rfl
theorem aq4(x):A.le (Yv H.H8.sh yE.sh x) (fw 1 P3 x):=A.bw λh=>by
 obtain⟨l,d,⟨⟩⟩:=x;obtain⟨aw,ak⟩:ds d/\eF _ l:=h;unfold Yv;simp (disch:=decide) only [nz ak,A.br,ns,nu,nv,nw,nx,ny];rw[show H.H8.sh (d.2,bp l 0)=A.pure _ from A.bR aw.gF _];simp only[A.iS,A.fD,A.br,Je];rfl
theorem aq5(x):A.le (Yw H.H_.sh yE.sh x) (fw 1 P4 x):=A.bw λh=>by
 obtain⟨l,d,⟨⟩⟩:=x;obtain⟨aw,ak⟩:ds d/\eF _ l:=h;unfold Yw;simp (disch:=decide) only [nz ak,A.br,ns,nu,nv,nw,nx,ny];rw[show H.H_.sh (d.2,bp l 0)=A.pure _ from A.bR aw.gF _];simp only[A.iS,A.fD,A.br,Je];rfl
theorem aq6(x):A.le (Yx H.Ib.sh yE.sh x) (fw 1 P5 x):=A.bw λh=>by
 obtain⟨l,d,⟨⟩⟩:=x;obtain⟨aw,ak⟩:ds d/\eF _ l:=h;unfold Yx;simp (disch:=decide) only [nz ak,A.br,ns,nu,nv,nw,nx,ny];rw[show H.Ib.sh (d.2,bp l 0)=A.pure _ from A.bR aw.gF _];simp only[A.iS,A.fD,A.br,Je];rfl
theorem Qj{a b:Int}:(ev a b).length=(b+1 - a).toNat:=by simp[ev];omega
theorem aq7(c:H.a6)(u t:Int):(H.rC c u t).1.length<=101:=Nat.le_trans (List.length_filter_le ..) (by rw[Qj];decide)
theorem aq8{c:H.a6}{u t:Int}(h:(H.rC c u t).2=0):0<(H.rC c u t).1.length:=by
 unfold H.rC at h ⊢;rcases H.AX c (H.vS u t) with⟨E,_⟩ | ⟨E,U,ah,aZ⟩
 ·omega
 ·have aC:=H.oT U;have cC:(0<=u/\u<=9)/\0<=t/\t<=9999:=by
   unfold H.vS at ah;rw[Bool.and_eq_true,H.oP,H.oP]at ah;exact ah
  have eD:H.cQ c≠[]:=by
   intro he;unfold H.eK at E;grind
  obtain⟨w,T,aV⟩:=List.exists_cons_of_ne_nil eD;have hw:H.iN c w=true:=H.vW (by grind);have an:=H.Ye aC hw cC.1 t;have aa:-1<=H.lv c w u t/\H.lv c w u t<=99:=by
   rcases H.OW c w u t with h | ⟨s,aD,h⟩
   ·omega
   ·rw[h];obtain⟨e,he,rfl⟩:=List.mem_map.1 aD;have:=H.OT aC (List.mem_filter.1 he).1;omega
  refine List.length_pos_of_mem (a:=H.lv c w u t) (List.mem_filter.2 ⟨sG.2 aa,?_⟩);rw[List.contains_iff_mem];unfold H.Ox;grind
theorem aq9(x):A.le (Yy H.Ic.sh qH.sh yD.sh x) (fw 2 P7 x):=A.bw λh=>by
 obtain⟨l,d,⟨⟩⟩:=x;obtain⟨aw,ak⟩:ds d/\eF _ l:=h;unfold Yy;simp (disch:=decide) only [nz ak,A.br,ns,nu,nv,nw,nx,ny];have E:=aq7 d.2 (bp l 0) (bp l 1);have U:=aq8 (c:=d.2) (u:=bp l 0) (t:=bp l 1);have hc:H.Ic.sh (d.2,bp l 0,bp l 1)=A.pure (H.rC d.2 (bp l 0) (bp l 1)):=A.bR aw.gF _;simp only[hc];show _=A.pure (P6 (H.rC d.2 (bp l 0) (bp l 1)),d,());generalize H.rC d.2 (bp l 0) (bp l 1)=r at *
 simp only[A.iS,A.fD,A.br];rw[A.bz (λaa=>⟨⟨aa,trivial⟩,⟨by decide,by grind⟩,trivial⟩),yF (by omega),A.aH];unfold P6;by_cases e:(decide (r.2≠0)||decide (r.1.getD 0 0>=0))=true
 ·grind
 ·rw[if_neg e,if_neg e];have bG:r.2=0:=by grind
  have ao:=U bG;by_cases ay:r.1.length=1
  ·grind
  ·rw[if_neg (by grind),if_neg ay];rw[A.bz ⟨by decide,by grind,Int.le_refl _⟩];have pE:List.take (Int.ofNat r.1.length).toNat r.1=r.1:=by simp
   rw[pE];rw[Qh (by grind),A.aH];have lP:=Qg (r.1.drop 1);rw[A.bz (gv (by grind))];rfl
theorem aq_(c:H.a6)(t:Int):(H.sU c t).1.length<=10/\(H.sU c t).2.1.length<=10:=by
 unfold H.sU;split
 ·simp
 ·exact⟨Nat.le_trans (List.length_filter_le ..) (by rw[Qj];decide),Nat.le_trans (List.length_filter_le ..) (by rw[Qj];decide)⟩
theorem aq'(x):A.le (Yz H.Ie.sh qH.sh yD.sh x) (fw 1 P9 x):=A.bw λh=>by
 obtain⟨l,d,⟨⟩⟩:=x;obtain⟨aw,ak⟩:ds d/\eF _ l:=h;unfold Yz;simp (disch:=decide) only [nz ak,A.br,ns,nu,nv,nw,nx,ny];have E:=aq_ d.2 (bp l 0);have hc:H.Ie.sh (d.2,bp l 0)=A.pure (H.sU d.2 (bp l 0)):=A.bR aw.gF _;simp only[hc];show _=A.pure (P8 (H.sU d.2 (bp l 0)),d,());generalize H.sU d.2 (bp l 0)=r at *
 simp only[A.iS,A.fD,A.br];rw[yF (by simp),Qh (by omega),Qh (by omega)];have fc:=Qg r.1;have pY:=Qg r.2.1;unfold P8;by_cases e:r.2.2=0
 ·simp only[A.aH];rw[A.bz (gv (by grind)),A.bz (gv (by grind))];simp[e]
 ·simp[e]
theorem ara(w:bo)(i m k:Int):0<=uI w i m k/\uI w i m k<4:=by
 unfold uI Il;grind
theorem arb(x):A.le (YB A8.sh qH.sh x) (fw 3 P_ x):=A.bw λh=>by
 obtain⟨l,d,⟨⟩⟩:=x;obtain⟨aw,ak⟩:ds d/\eF _ l:=h;unfold YB;simp (disch:=decide) only [nz ak,A.br,ns,nu,nv,nw,nx,ny];have hc:A8.sh (d.1.1,bp l 0,bp l 1,bp l 2)=A.pure (qE d.1.1 (bp l 0) (bp l 1) (bp l 2)):=A.bR aw.gL.1 _;simp only[hc];show _=A.pure (uM (qE d.1.1 (bp l 0) (bp l 1) (bp l 2)),d,());have E:0<=(qE d.1.1 (bp l 0) (bp l 1) (bp l 2)).1/\(qE d.1.1 (bp l 0) (bp l 1) (bp l 2)).1<4:=by
  have:=ara d.1.1 (bp l 0) (bp l 1) (bp l 2);unfold qE;grind
 generalize qE d.1.1 (bp l 0) (bp l 1) (bp l 2)=r at *
 simp only[A.iS,A.fD,A.br];rw[yF (by simp),A.bz ⟨E.1,E.2⟩];unfold uM;by_cases e:r.2=0<;>simp[e]
theorem arc{s:bI}(h:l6 s)(w:Int):(uP s w).1.length<=2000:=by
 have:=h.IH;unfold uP ZX;grind
theorem ard(x):A.le (YJ I0.sh qH.sh x) (fw 1 Qb x):=A.bw λh=>by
 obtain⟨l,d,⟨⟩⟩:=x;obtain⟨aw,ak⟩:ds d/\eF _ l:=h;unfold YJ;simp (disch:=decide) only [nz ak,A.br,ns,nu,nv,nw,nx,ny];rw[show I0.sh (d.1,bp l 0)=A.pure (uP d.1 (bp l 0)) from A.bR aw.gL _];have:=arc aw.val (bp l 0);simp only[A.iS,A.fD,A.br];rw[yF (show (uP d.1 (bp l 0)).1.length<=60000 by omega),A.aH];rfl
def Jf(x:z1'×Unit):A (z1'×Unit):=A.dI (x.1.length<=3000000) x
theorem are(x):A.le (YK I1.sh Jf qH.sh x) (fw 0 Qc x):=A.bw λh=>by
 obtain⟨l,d,⟨⟩⟩:=x;obtain⟨aw,ak⟩:ds d/\eF _ l:=h;have hm:=ak.Jc;change l.length<=10000 at hm;unfold YK;rw[show Jf (l,())=A.pure (l,()) from A.bR (by grind) _,A.aH];rw[A.f_ l (λi (o:z1')=>((l.length:Int),(i:Int),o++l.drop i,d,())) (λn o=>.next (o++[n - 1])) (λo=>.next (o,d,())) (λi o=>o.length=i) [] ?_ rfl ?_ ?_]
 ·rw[ej,xV,List.nil_append,A.aH,A.b2,A.br];rw[show I1.sh (d.1,l.map (· - 1))=A.pure (Bn d.1 (l.map (· - 1))) from A.bR ⟨aw.gL,by grind⟩ _,A.aH,yF (by simp),A.aH];rfl
 ·simp
 ·intro i G o ag;have hw:=bC (n:=(i:Int)+1) (by omega) (by omega);have aA:=ak.num l[i] (by simp);have gE:=bC (n:=l[i] - 1) (by omega) (by omega);subst ag;have cc:o.length<(o++l.drop o.length).length:=by grind
  have aC:(o++l.drop o.length)[o.length]=l[o.length]:=by simp
  have aD:(o++l.drop o.length).set o.length (l[o.length] - 1)=o++[l[o.length] - 1]++l.drop (o.length+1):=by
   rw[List.set_append_right _ _ (Nat.le_refl _),Nat.sub_self,List.drop_eq_getElem_cons G,List.set_cons_zero,List.append_assoc];rfl
  refine⟨?_,λbe cW=>?_⟩
  ·simp only[bW,cZ G,if_true,cL cc,A.br,cm,hw];rw[show (o++l.drop o.length).getD (Int.toNat (o.length:Int)) 0=l[o.length] by grind,gE,Int.toNat_natCast,aD];rfl
  ·grind
 simp
theorem arf(x):A.le (YL IX.sh qH.sh x) (fw 0 Qd x):=A.bw λh=>by
 obtain⟨l,d,⟨⟩⟩:=x;obtain⟨aw,ak⟩:ds d/\eF _ l:=h;unfold YL;rw[A.br,show IX.sh d.1=A.pure (yx d.1 true) from A.bR aw.gL _,A.aH,yF (by simp),A.aH];rfl
theorem arh(x):A.le (YM IZ.sh qH.sh x) (fw 0 Qe x):=A.bw λh=>by
 obtain⟨l,d,⟨⟩⟩:=x;obtain⟨aw,ak⟩:ds d/\eF _ l:=h;unfold YM;rw[A.br,show IZ.sh d.1=A.pure (Bm d.1) from A.bR aw.gL _,A.aH,yF (by simp),A.aH];rfl
def Qk{al:Type}(x:List al×Unit):A (List al×Unit):=A.bind (A.any λ(b:Bool)=>b=true->x.1=[]) λ(y:Bool)=>if y=true then A.pure ([],()) else A.ae (b6 (Add.add 0 (List.length x.1))) (A.pure ([]++x.1,()))
abbrev fQ(t:ad):aP:=⟨.slice t,.slice t,λx=>x.length<=3000000,λx=>x⟩
def qI{al:Type}(x:List al×Unit):A (List al×Unit):=A.dI (x.1.length<=3000000) x
theorem wB{al:Type}(x:List al×Unit):A.le (Qk x) (qI x):=A.sF λh=>by
 unfold Qk;rw[A.fX];refine⟨⟨false,by simp⟩,λb aa=>?_⟩;change b=true->x.1=[]at aa;obtain⟨l,⟨⟩⟩:=x;cases b with
 | true=>rw[show l=[] from aa rfl];exact A.d'.2 rfl
 | false=>
  simp only[Bool.false_eq_true,if_false];exact A.kI.2 ⟨by change l.length<=3000000 at h;simp only[hM,b6];omega,A.d'.2 (by simp)⟩
theorem ari(x:z1'×Unit):A.le (Qk x) (Jf x):=wB x
def aab{al:Type}(z:al)(x:Int×Int×List al×Unit):A ((Nat×Nat)×List al×Unit):=
 A.ae (0<=x.1/\x.1<=x.2.1/\x.2.1<=Int.ofNat (List.length x.2.2.1)/\Int.ofNat (List.length x.2.2.1)<=Int.ofNat (List.length x.2.2.1)) (if decide
 (x.1=x.2.1)=true then A.pure ((0,List.length x.2.2.1),x.2.2.1,()) else A.ae ((0:Int)<=0/\0<=x.1/\x.1<=Int.ofNat (List.length x.2.2.1))
 (A.ae (0<=x.2.1/\x.2.1<=Int.ofNat (List.length x.2.2.1)/\Int.ofNat (List.length x.2.2.1)<=Int.ofNat (List.length x.2.2.1)) (A.ae (Add.add
 (Int.toNat x.1) (List.length (List.drop (Int.toNat x.2.1) (List.take (Int.toNat (Int.ofNat (List.length x.2.2.1))) x.2.2.1)))<=List.length x.2.2.1)
 (A.ae (0<=Int.ofNat (Add.add (Int.toNat x.1) (List.length (List.drop (Int.toNat x.2.1) (List.take (Int.toNat (Int.ofNat (List.length x.2.2.1)))
 x.2.2.1))) - Int.toNat 0)/\Int.ofNat (Add.add (Int.toNat x.1) (List.length (List.drop (Int.toNat x.2.1) (List.take (Int.toNat (Int.ofNat (List.length
 x.2.2.1))) x.2.2.1))) - Int.toNat 0)<=Int.ofNat (List.length x.2.2.1)/\Int.ofNat (List.length x.2.2.1)<=Int.ofNat (List.length (List.take
 (Int.toNat x.1) x.2.2.1++List.drop (Int.toNat x.2.1) (List.take (Int.toNat (Int.ofNat (List.length x.2.2.1))) x.2.2.1)++List.drop (Add.add
 (Int.toNat x.1) (List.length (List.drop (Int.toNat x.2.1) (List.take (Int.toNat (Int.ofNat (List.length x.2.2.1))) x.2.2.1)))) x.2.2.1) - Int.toNat
 0)) (A.ae True (A.pure ((Int.toNat 0,Add.add (Int.toNat x.1) (List.length (List.drop (Int.toNat x.2.1) (List.take (Int.toNat (Int.ofNat (List.length
 x.2.2.1))) x.2.2.1)))),List.take (Add.add (Int.toNat 0) (Int.toNat (Int.ofNat (Add.add (Int.toNat x.1) (List.length (List.drop (Int.toNat x.2.1)
 (List.take (Int.toNat (Int.ofNat (List.length x.2.2.1))) x.2.2.1))) - Int.toNat 0)))) (List.take (Int.toNat x.1) x.2.2.1++List.drop (Int.toNat
 x.2.1) (List.take (Int.toNat (Int.ofNat (List.length x.2.2.1))) x.2.2.1)++List.drop (Add.add (Int.toNat x.1) (List.length (List.drop (Int.toNat
 x.2.1) (List.take (Int.toNat (Int.ofNat (List.length x.2.2.1))) x.2.2.1)))) x.2.2.1)++List.replicate (Add.add (Int.toNat 0) (Int.toNat (Int.ofNat
 (List.length x.2.2.1))) - Add.add (Int.toNat 0) (Int.toNat (Int.ofNat (Add.add (Int.toNat x.1) (List.length (List.drop (Int.toNat x.2.1) (List.take
 (Int.toNat (Int.ofNat (List.length x.2.2.1))) x.2.2.1))) - Int.toNat 0)))) z++List.drop (Add.add (Add.add (Int.toNat 0) (Int.toNat (Int.ofNat
 (Add.add (Int.toNat x.1) (List.length (List.drop (Int.toNat x.2.1) (List.take (Int.toNat (Int.ofNat (List.length x.2.2.1))) x.2.2.1))) - Int.toNat
 0)))) (List.length (List.replicate (Add.add (Int.toNat 0) (Int.toNat (Int.ofNat (List.length x.2.2.1))) - Add.add (Int.toNat 0) (Int.toNat (Int.ofNat
 (Add.add (Int.toNat x.1) (List.length (List.drop (Int.toNat x.2.1) (List.take (Int.toNat (Int.ofNat (List.length x.2.2.1))) x.2.2.1))) - Int.toNat
 0)))) z))) (List.take (Int.toNat x.1) x.2.2.1++List.drop (Int.toNat x.2.1) (List.take (Int.toNat (Int.ofNat (List.length x.2.2.1))) x.2.2.1)++
 List.drop (Add.add (Int.toNat x.1) (List.length (List.drop (Int.toNat x.2.1) (List.take (Int.toNat (Int.ofNat (List.length x.2.2.1))) x.2.2.1))))
 x.2.2.1),())))))))
def Jg{al:Type}(z:al)(x:Int×Int×List al×Unit):A ((Nat×Nat)×List al×Unit):=A.dI (0<=x.1/\x.2.1=x.1+1/\x.1<(x.2.2.1.length:Int)/\x.2.2.1.length<=3000000) ((0,x.2.2.1.length - 1),x.2.2.1.eraseIdx x.1.toNat++[z],())
theorem arj{al:Type}(z:al)(x):A.le (aab z x) (Jg z x):=A.bw λh=>by
 obtain⟨i,j,l,⟨⟩⟩:=x;obtain⟨aX,E,U,ah⟩:0<=i/\j=i+1/\i<(l.length:Int)/\l.length<=3000000:=h;subst E;obtain⟨n,rfl⟩:∃ n:Nat,i=n:=⟨i.toNat,by omega⟩
 have aA:n<l.length:=by omega
 have ay:((n:Int)+1).toNat=n+1:=by omega
 unfold aab;simp only[bW,Int.toNat_natCast,ay,List.take_length,hM,Int.toNat_zero,Nat.sub_zero,Nat.zero_add,List.length_drop];have aN:n+(l.length - (n+1))=l.length - 1:=by omega
 have cA:(l.take n++l.drop (n+1)++l.drop (l.length - 1))=l.eraseIdx n++l.drop (l.length - 1):=by rw[List.eraseIdx_eq_take_drop_succ]
 have ea:(l.eraseIdx n).length=l.length - 1:=by rw[List.length_eraseIdx_of_lt aA]
 have dU:l.length - (l.length - 1)=1:=by omega
 rw[A.bz (by omega),if_neg (by simp;omega),A.bz (by omega),A.bz (by omega),A.bz (by omega)];rw[aN,cA,A.bz (by simp[ea]),A.br];show _=A.pure ((0,l.length - 1),l.eraseIdx n++[z],());have k5:(l.eraseIdx n++l.drop (l.length - 1)).take (l.length - 1)=l.eraseIdx n:=by rw[List.take_append_of_le_length (by omega),List.take_of_length_le (by omega)]
 have tC:(l.eraseIdx n++l.drop (l.length - 1)).drop l.length=[]:=List.drop_eq_nil_of_le (by simp[ea]);simp only[dU,k5,List.replicate_one,List.length_cons,List.length_nil,Nat.zero_add];rw[show l.length - 1+1=l.length by omega,tC,List.append_nil]
def wC(x:bI×Unit):A vZ:=A.dI (EM x.1) (iL x.1)
theorem Jh{x:z1'}(h:x.length<=2000000):H.oR.sh x=A.pure x:=A.bR (by show List.length x<=3000000;omega) _
theorem yG{t:ad}{x:(ad.slice t).aj}(h:List.length x<=2000000):(fQ t).sh x=A.pure x:=A.bR (by show List.length x<=3000000;omega) _
theorem aac{gy:Type}{s:bI}(h:EM s)(fin:bI->A gy):Ih (fQ kD).sh (fQ kZ).sh (fQ jW).sh qI H.oR.sh (fQ nk).sh (fQ mE).sh (fQ pM).sh s fin=fin s:=by
 obtain⟨⟨cn,da,eY,AP⟩,U,ah,aZ,bM,dt,gb⟩:=h;obtain⟨⟨sp,mk,cut,aR⟩,st,j0,k3,rS,iX⟩:=s;change sp.length<=2000000 at cn;change mk.length<=2000000 at da;change aR.length<=2000000 at eY;change ∀ m∈mk,m.length<=2000000/\∀ s∈m,s.2.1.length<=2000000 at AP;change st.length<=2000000 at U;change j0.length<=2000000 at ah;change k3.length<=2000000 at aZ;change rS.length<=2000000 at bM;change ∀ p∈j0,p.2.2.2.2.length<=2000000 at dt;change ∀ p∈k3,p.1.length<=2000000 at gb;have aW:(fQ kD).sh sp=A.pure sp:=yG cn;have aY:(fQ kZ).sh mk=A.pure mk:=yG da;have bO:(fQ jW).sh aR=A.pure aR:=yG eY;have gC:H.oR.sh st=A.pure st:=Jh U;have pc:(fQ nk).sh j0=A.pure j0:=yG ah;have xB:(fQ mE).sh k3=A.pure k3:=yG aZ;have Hc:(fQ pM).sh rS=A.pure rS:=yG bM;unfold Ih;simp only[aW,aY,bO,A.iS,A.fD,A.br];rw[A.dL mk (λi (_:Unit)=>((mk.length:Int),(i:Int),cut,st,j0,k3,rS,iX,0,0,sp,mk,aR,())) (λp b=>.next b) (λ_=>.next (cut,st,j0,k3,rS,iX,0,0,sp,mk,aR,())) () ?_ ?_ ?_]
 ·rw[ej,A.aH,A.b2];simp only[gC,pc,xB,Hc,A.iS,A.fD,A.br];rw[A.dL j0 (λi (_:Unit)=>((j0.length:Int),(i:Int),cut,iX,0,0,sp,mk,aR,st,j0,k3,rS,())) (λp b=>.next b) (λ_=>.next (cut,iX,0,0,sp,mk,aR,st,j0,k3,rS,())) () ?_ ?_ ?_]
  ·rw[ej,A.aH,A.b2];rw[A.dL k3 (λi (_:Unit)=>((k3.length:Int),(i:Int),cut,iX,0,0,sp,mk,aR,st,j0,k3,rS,())) (λp b=>.next b) (λ_=>.next (cut,iX,0,0,sp,mk,aR,st,j0,k3,rS,())) () ?_ ?_ ?_]
   ·rw[ej,A.aH,A.b2]
   ·rfl
   ·intro i G b;have hw:=bC (n:=(i:Int)+1) (by omega) (by omega);have hc:H.oR.sh k3[i].1=A.pure k3[i].1:=Jh (gb _ (List.getElem_mem G));have o':k3.set i (k3[i].1,k3[i].2)=k3:=List.set_getElem_self G;simp only[bW,cZ G,if_true,dm G,cL G,A.br,cm,hw];simp only[hc,A.iS,A.fD,A.br,Int.toNat_natCast,o'];rfl
   ·simp
  ·rfl
  ·intro i G b;have hw:=bC (n:=(i:Int)+1) (by omega) (by omega);have hc:H.oR.sh j0[i].2.2.2.2=A.pure j0[i].2.2.2.2:=Jh (dt _ (List.getElem_mem G));have o':j0.set i (j0[i].1,j0[i].2.1,j0[i].2.2.1,j0[i].2.2.2.1,j0[i].2.2.2.2)=j0:=List.set_getElem_self G;simp only[bW,cZ G,if_true,dm G,cL G,A.br,cm,hw];simp only[hc,A.iS,A.fD,A.br,Int.toNat_natCast,o'];rfl
  ·simp
 ·rfl
 ·intro i G b;have hw:=bC (n:=(i:Int)+1) (by omega) (by omega);obtain⟨hm,aD⟩:=AP _ (List.getElem_mem G);have hc:qI (mk[i],())=A.pure (mk[i],()):=A.bR (by show mk[i].length<=3000000;omega) _;have ark:mk.set i mk[i]=mk:=List.set_getElem_self G;simp only[bW,cZ G,if_true,dm G,cL G,A.br,cm,hc,A.aH];simp only[Int.toNat_natCast];rw[A.dL mk[i] (λj (_:Unit)=>(i,(mk.length:Int),(i:Int),(mk[i].length:Int),(j:Int),cut,st,j0,k3,rS,iX,0,0,sp,(mk,i),aR,mk[i],())) (λp b=>.next b) (λ_=>.next ((mk.length:Int),(i:Int),cut,st,j0,k3,rS,iX,0,0,sp,(mk,i),aR,mk[i],())) () ?_ ?_ ?_]
  ·rw[ej,A.aH,A.b2];simp only[hw,ark];rfl
  ·rfl
  ·intro j aG b;have hw:=bC (n:=(j:Int)+1) (by omega) (by omega);have hc:H.oR.sh mk[i][j].2.1=A.pure mk[i][j].2.1:=Jh (aD _ (List.getElem_mem aG));have o':mk[i].set j (mk[i][j].1,mk[i][j].2.1,mk[i][j].2.2)=mk[i]:=List.set_getElem_self aG;simp only[Prod.dc,Prod.fq,Prod.gO,bW,cZ aG,if_true,dm aG,cL aG,A.br,cm,hw];simp only[hc,A.iS,A.fD,A.br,Int.toNat_natCast,o'];rfl
  ·simp
 ·simp
theorem arl(x):A.le (anM (fQ kD).sh (fQ kZ).sh (fQ jW).sh qI H.oR.sh (fQ nk).sh (fQ mE).sh (fQ pM).sh x) (wC x):=A.bw λh=>aac h _
abbrev Ji:aP:=⟨l5,l5,EM,λs=>s⟩
theorem arn(x):A.le (anL (fQ kD).sh (fQ kZ).sh (fQ jW).sh qI H.oR.sh (fQ nk).sh (fQ mE).sh (fQ pM).sh x) (Ji.sh x):=A.bw λh=>aac h _
def wD(x:bI×a_×Unit):A (aM×a_×Unit):=A.dI (ds x.2.1/\fx x.1) ((lB x.2.1 x.1).1,(lB x.2.1 x.1).2,())
theorem aro(x):A.le (YD pO.sh x) (wD x):=A.bw λh=>by
 obtain⟨s,d,⟨⟩⟩:=x;obtain⟨aw,aD⟩:ds d/\fx s:=h;unfold YD;rw[show pO.sh s=A.pure (jf s) from A.bR aD _,A.aH];show _=A.pure ((lB d s).1,(lB d s).2,());unfold lB;by_cases e:jf s=0<;>simp[e]
theorem arp{d:a_}(aw:ds d){s:bI}(aD:fx s):wD (s,d,())=A.pure ((lB d s).1,(lB d s).2,()):=A.bR ⟨aw,aD⟩ _
theorem Jj{d:a_}(aw:ds d)(s:bI)(aD:fx s):A.bind (wD (s,d,())) (λy=>A.pure (y.1,y.2.1,()))=A.pure ((lB d s).1,(lB d s).2,()):=by rw[arp aw aD,A.aH]
theorem ds.copy{d:a_}(h:ds d):EM d.1:=aqq h.val
theorem ET{d:a_}(h:ds d):wC (d.1,())=A.pure (iL d.1):=A.bR h.copy _
theorem arq(x):A.le (YA yi.sh wC h2.sh x) (fw 4 wz x):=A.bw λh=>by
 obtain⟨l,d,⟨⟩⟩:=x;obtain⟨aw,ak⟩:ds d/\eF _ l:=h;have hc:=aw.copy;have aD:gQ (nr d.1.1 (bp l 0,bp l 1,bp l 2,bp l 3)):=⟨aw.gL.1.1,aw.gL.1.2.1,by have:=hc.1.2.2.1;simp only[nr,List.length_append,List.length_cons,List.length_nil];omega,aw.gL.1.2.2.2⟩
 unfold YA;rw[A.br,ET aw,A.aH];simp (disch:=decide) only [nz ak,A.br,ns,nu,nv,nw,nx,ny];rw[A.bz (by have:=hc.1.2.2.1;simp only[hM,b6,iL];omega)];show A.bind (h2.sh (nr d.1.1 (bp l 0,bp l 1,bp l 2,bp l 3))) _=A.pure ((wz d l).1,(wz d l).2,());rw[show h2.sh (nr d.1.1 (bp l 0,bp l 1,bp l 2,bp l 3))=A.pure (cP (nr d.1.1 (bp l 0,bp l 1,bp l 2,bp l 3))) from A.bR aD _,A.aH];have hlen:yi.sh (nr d.1.1 (bp l 0,bp l 1,bp l 2,bp l 3),bp l 0)=A.pure (wc (nr d.1.1 (bp l 0,bp l 1,bp l 2,bp l 3)) (bp l 0)):=A.bR aD _;have Cq:yi.sh (((iL d.1).1,(iL d.1).2.1,(iL d.1).2.2.1,(iL d.1).2.2.2.2.1++[(bp l 0,bp l 1,bp l 2,bp l 3)]),bp l 0)=A.pure (wc (nr d.1.1 (bp l 0,bp l 1,bp l 2,bp l 3)) (bp l 0)):=hlen;simp only[Cq,A.iS,A.fD,A.br];unfold wz;by_cases e:cP (nr d.1.1 (bp l 0,bp l 1,bp l 2,bp l 3))=0
 ·by_cases aN:(wc (nr d.1.1 (bp l 0,bp l 1,bp l 2,bp l 3)) (bp l 0)).2=0
  ·simp only[e,aN,ne_eq,not_true_eq_false,decide_false,Bool.false_eq_true,if_false];rfl
  grind
 grind
theorem ars(x):A.le (YC wC wD x) (fw 2 wA x):=A.bw λh=>by
 obtain⟨l,d,⟨⟩⟩:=x;obtain⟨aw,ak⟩:ds d/\eF _ l:=h;have hc:=aw.copy;unfold YC;rw[A.br,ET aw,A.aH];simp (disch:=decide) only [nz ak,A.br,ns,nu,nv,nw,nx,ny];show _=A.pure ((wA d l).1,(wA d l).2,());unfold wA;have aX:=ak.bp 0;have E:=ak.bp 1;by_cases e:bp l 0>=(d.1.2.1.length:Int)
 ·rw[if_pos (by simpa [iL]using e),if_pos e]
 ·rw[if_neg (by simpa [iL]using e),if_neg e];have aA:(bp l 0).toNat<d.1.2.1.length:=by omega
  rw[A.bz ⟨aX.1,by show bp l 0<(d.1.2.1.length:Int);omega⟩,A.bz ⟨aX.1,by show bp l 0<(d.1.2.1.length:Int);omega⟩];have af:∀ n∈d.1.2.1,0<=n/\n<=10:=λn aA=>by
   have:=aw.val.sW.2;have fT:=aw.yB;unfold jf at fT;grind [nl,b4]
  have aa:=af _ (List.getElem_mem aA);have aC:d.1.2.1.getD (bp l 0).toNat 0=d.1.2.1[(bp l 0).toNat]:=by grind
  have hw:=bC (n:=d.1.2.1.getD (bp l 0).toNat 0+bp l 1) (by omega) (by omega);have gE:IntKind.wrap .i64 (Add.add ((iL d.1).2.2.2.2.2.1.getD (bp l 0).toNat 0) (bp l 1))=d.1.2.1.getD (bp l 0).toNat 0+bp l 1:=hw;rw[gE];exact Jj aw (d.1.1,d.1.2.1.set (bp l 0).toNat (d.1.2.1.getD (bp l 0).toNat 0+bp l 1),d.1.2.2) ⟨aw.gL.1,by show (List.set d.1.2.1 _ _).length<_;rw[List.length_set];exact aw.gL.2.1,aw.gL.2.2⟩
theorem art(x):A.le (YE wC wD x) (fw 3 P' x):=A.bw λh=>by
 obtain⟨l,d,⟨⟩⟩:=x;obtain⟨aw,ak⟩:ds d/\eF _ l:=h;have hc:=aw.copy;have bM:=hc.2.2.2.2.1;obtain⟨eI,dO,eJ,oE,td,te,tf⟩:=aw.gL;unfold YE;rw[A.br,ET aw,A.aH];simp (disch:=decide) only [nz ak,A.br,ns,nu,nv,nw,nx,ny];rw[A.bz (by simp only[hM,b6,iL];omega)];exact Jj aw (d.1.1,d.1.2.1,d.1.2.2.1,d.1.2.2.2.1,d.1.2.2.2.2.1++[(bp l 0,bp l 1,bp l 2)],d.1.2.2.2.2.2) ⟨eI,dO,eJ,oE,by grind,te,tf⟩
theorem aru(x):A.le (YF wC wD x) (fw 4 Qa x):=A.bw λh=>by
 obtain⟨l,d,⟨⟩⟩:=x;obtain⟨aw,ak⟩:ds d/\eF _ l:=h;have hc:=aw.copy;have bM:=hc.2.2.1;have hm:=ak.Jc;have hle:4<=l.length:=ak.Qf;obtain⟨eI,dO,eJ,oE,td,te,tf⟩:=aw.gL;unfold YF;rw[A.br,ET aw,A.aH];simp (disch:=decide) only [nz ak,A.br,ns,nu,nv,nw,nx,ny];rw[A.bz ⟨by decide,by grind,Int.le_refl _⟩,A.bz (by simp only[hM,b6,iL];omega)];simp only[bW,Int.toNat_natCast,List.take_length];exact Jj aw (d.1.1,d.1.2.1,d.1.2.2.1++[(bp l 0,bp l 1,bp l 2,bp l 3,l.drop 4)],d.1.2.2.2) ⟨eI,dO,by grind,oE,td,λp ao=>by
  grind,tf⟩
theorem arv(x):A.le (YG wC wD x) (fw 5 qG x):=A.bw λh=>by
 obtain⟨l,d,⟨⟩⟩:=x;obtain⟨aw,ak⟩:ds d/\eF _ l:=h;have hc:=aw.copy;have bM:=hc.2.2.2.1;have hm:=ak.Jc;have hle:5<=l.length:=ak.Qf;obtain⟨eI,dO,eJ,oE,td,te,tf⟩:=aw.gL;unfold YG;rw[A.br,ET aw,A.aH];simp (disch:=decide) only [nz ak,A.br,ns,nu,nv,nw,nx,ny];rw[A.bz ⟨by decide,by grind,Int.le_refl _⟩,A.bz (by simp only[hM,b6,iL];omega)];simp only[bW,Int.toNat_natCast,List.take_length];exact Jj aw (d.1.1,d.1.2.1,d.1.2.2.1,d.1.2.2.2.1++[(l.drop 5,(bp l 0,bp l 1),bp l 2,bp l 3,bp l 4)],d.1.2.2.2.2) ⟨eI,dO,eJ,by grind,td,te,λp ao=>by
  grind⟩
abbrev Jk:dN:=([],(0,0),0,0,0)
theorem arw(x):A.le (YH (fQ mE).sh (Jg Jk) x) (fw 1 rR x):=A.bw λh=>by
 obtain⟨l,d,⟨⟩⟩:=x;obtain⟨aw,ak⟩:ds d/\eF _ l:=h;have hc:=aw.copy.2.2.2.1;have aX:=ak.bp 0;unfold YH;simp (disch:=decide) only [nz ak,A.br,ns,nu,nv,nw,nx,ny];show _=A.pure ((rR d l).1,(rR d l).2,());unfold rR;by_cases e:bp l 0>=(d.1.2.2.2.1.length:Int)
 ·grind
 ·rw[if_neg (by grind),if_neg e];have lL:(fQ mE).sh d.1.2.2.2.1=A.pure d.1.2.2.2.1:=yG hc;have hw:=bC (n:=bp l 0+1) (by omega) (by omega);simp only[lL,A.iS,A.fD,A.br,cm,hw];rw[show Jg Jk (bp l 0,bp l 0+1,d.1.2.2.2.1,())=A.pure _ from A.bR ⟨aX.1,rfl,by grind,by grind⟩ _,A.aH];grind
theorem aad{c:H.a6}{m:List H.ba}{v:z1'}(h:(H.ob c m v).2=0):H.cP c=0/\H.cP (H.ob c m v).1=0/\(H.ob c m v).1=H.nq c (H.gW (c.2.1++m)) (H.rO c.2.2.1 v):=by
 unfold H.ob at h ⊢;split at h
 ·omega
 split at h
 ·omega
 split at h
 ·omega
 split at h
 ·omega
 rename_i b9 a2 a3 a4;rw[if_neg b9,if_neg a2,if_neg a3,if_neg a4];have dP:H.cP c=0:=by omega
 have e2:H.cP (H.nq c m v)=0:=by omega
 refine⟨dP,?_,rfl⟩;have g1:H.jT c=true:=by unfold H.cP at dP;grind
 have et:H.jT (H.nq c m v)=true:=by unfold H.cP at e2;grind
 have aA:H.kX (H.gW (c.2.1++m))=false:=by
  rw[H.AJ];have:=(H.AJ (c.2.1++m)).1 (by grind);exact λa bb b aa=>this a (H.D7 bb) b (H.D7 aa)
 have lS:H.jT (H.nq c (H.gW (c.2.1++m)) (H.rO c.2.2.1 v))=true:=by
  unfold H.jT H.sP at g1 et ⊢;simp only[Bool.and_eq_true,List.all_eq_true,Bool.not_eq_true',Bool.or_eq_false_iff,H.nq]at g1 et ⊢;obtain⟨⟨⟨⟨⟨⟨⟨⟨ot,z2⟩,z3⟩,z4⟩,z5⟩,aW⟩,aY⟩,bO⟩,gC⟩:=g1;obtain⟨⟨⟨⟨_,_⟩,arx⟩,ayk⟩,_⟩:=et;simp only[Bool.or_eq_true,not_or,bW,Bool.not_eq_true]at a4;refine⟨⟨⟨⟨⟨⟨⟨⟨ot,a4.1⟩,a4.2⟩,z4⟩,z5⟩,aW⟩,λs aD=>?_⟩,λn aA=>?_⟩,gC⟩
  ·rcases List.mem_append.1 (H.D7 aD) with h | h
   ·exact aY s h
   ·exact arx s h
  ·have:=(List.mem_filter.1 aA).2;grind
 unfold H.cP;rw[if_pos lS,if_neg (by show ¬H.kX (H.gW (c.2.1++m))=true;grind)]
theorem Ql{d:a_}(aw:ds d)(m:List H.ba)(v:z1'):ds (pQ d m v).2:=by
 unfold pQ;split
 ·exact aw
 ·rename_i h;obtain⟨E,U,ah⟩:=aad (c:=d.2) (m:=m) (v:=v) (by omega);exact⟨aw.gL,aw.yB,U,by rw[ah];exact aw.Bq⟩
theorem Jl{d:a_}(aw:ds d){s:bI}(aD:fx s):ds (lB d s).2:=by
 unfold lB;split
 ·exact aw
 ·rename_i h;exact⟨aD,by grind,aw.yC,aw.Bq⟩
theorem ary{d:a_}(aw:ds d){l:z1'}(ak:l.length<=10000)(j:Nat):ds (tc j d l).2:=by
 have hc:=aw.copy;obtain⟨eI,dO,eJ,oE,td,te,tf⟩:=aw.gL;obtain⟨bF,c2,c3,c4,c5,lK,oq⟩:=aw.copy;unfold tc;split<;>try exact aw
 ·exact Ql aw _ _
 ·exact Ql aw _ _
 ·exact Ql aw _ _
 ·unfold wz;split
  ·exact aw
  split
  ·exact aw
  rename_i h _;have h:cP (nr d.1.1 (bp l 0,bp l 1,bp l 2,bp l 3))=0:=by omega
  refine⟨⟨⟨eI.1,eI.2.1,by have:=hc.1.2.2.1;simp only[nr,List.length_append,List.length_cons,List.length_nil];omega,eI.2.2.2⟩,dO,eJ,oE,td,te,tf⟩,?_,aw.yC,aw.Bq⟩;have aD:=aw.yB;unfold jf at aD ⊢;rw[if_neg (by omega)];have:nl (nr d.1.1 (bp l 0,bp l 1,bp l 2,bp l 3),d.1.2)=nl d.1:=rfl;grind
 ·unfold wA;split
  ·exact aw
  ·exact Jl aw ⟨eI,by grind,eJ,oE,td,te,tf⟩
 ·exact Jl aw ⟨eI,dO,eJ,oE,by grind,te,tf⟩
 ·exact Jl aw ⟨eI,dO,by grind,oE,td,λp ao=>by
   grind,tf⟩
 ·exact Jl aw ⟨eI,dO,eJ,by grind,td,te,λp ao=>by
   grind⟩
 ·unfold rR;split
  ·exact aw
  ·refine⟨⟨eI,dO,eJ,by grind,td,te,λp ao=>tf p (List.mem_of_mem_eraseIdx ao)⟩,?_,aw.yC,aw.Bq⟩;have aD:=aw.yB;unfold jf at aD ⊢;split at aD
   ·omega
   ·rename_i u3;rw[if_neg u3];split at aD
    ·rename_i af;rw[if_pos];unfold nl at af ⊢;simp only[Bool.and_eq_true,List.all_eq_true,decide_eq_true_eq]at af ⊢;obtain⟨⟨⟨⟨⟨⟨⟨⟨du,dF⟩,ou⟩,uL⟩,dc⟩,fq⟩,gO⟩,ir⟩,jR⟩:=af;exact⟨⟨⟨⟨⟨⟨⟨⟨du,dF⟩,ou⟩,uL⟩,by grind⟩,λx ai=>fq x (List.mem_of_mem_eraseIdx ai)⟩,gO⟩,ir⟩,jR⟩
    omega
theorem aae:∀ (s:aM) (n k:Nat),n<10 ^ k->k+s.length<=18->0<=ga s n->Go.Lib.parseUint10 n s=.ok (ga s n).toNat
 | [],n,k,_,_,_=>by rfl
 | c::s,n,k,E,U,ah=>by
  unfold ga at ah ⊢;split at ah
  ·omega
  ·rename_i hc;rw[if_neg hc];simp only[Bool.or_eq_true,decide_eq_true_eq,not_or]at hc;have G8:48<=c.toNat/\c.toNat<=57:=by omega
   have an:(10:Nat) ^ (k+1)<=10 ^ 18:=Nat.pow_le_pow_right (by decide) (by grind);have Xh:(10:Nat) ^ (k+1)=10 ^ k*10:=Nat.pow_succ ..;have e:10*(n:Int)+((c.toNat:Int) - 48)=((n*10+(c.toNat - 48):Nat):Int):=by omega
   rw[e]at ah ⊢;unfold Go.Lib.parseUint10;rw[if_pos G8,if_neg (by omega),if_neg (by omega)];exact aae s _ (k+1) (by omega) (by grind) ah
theorem Qm{s:aM}(h:0<=e1 s):Go.Lib.atoiAll s=.ok (e1 s):=by
 unfold e1 at h ⊢;split at h
 ·omega
 ·rename_i aa;rw[if_neg aa];simp only[Bool.or_eq_true,decide_eq_true_eq,not_or]at aa;obtain⟨⟨aX,dt⟩,_⟩:=aa;cases s with
  | nil=>grind
  | cons c r=>
   have ao:=aae (c::r) 0 0 (by decide) (by omega) h;have ak:=PW (c::r) 0 0 (by decide) (by decide);have gn:(10:Int) ^ (0+(c::r).length)<=10 ^ 6:=by
    have:=Nat.pow_le_pow_right (n:=10) (by decide) (show 0+(c::r).length<=6 by omega);grind
   have aw:¬(decide ((c.toNat:Int)<48)||decide ((c.toNat:Int) > 57))=true:=by
    intro hc;unfold ga at h;grind
   simp only[Bool.or_eq_true,decide_eq_true_eq,not_or]at aw;unfold Go.Lib.atoiAll;simp only;rw[if_neg (by omega)];unfold Go.Lib.parseMag;grind
theorem arz{s:aM}(h:0<=e1 s):tb s=e1 s:=by
 unfold tb;rw[Qm h]
abbrev EU:aP:=⟨.str,.az (.int .i64) .bool,λx=>x.length<=10000,rb⟩
abbrev Jm:aP:=⟨.az .str .str,ta,λx=>x.1.length<=10000/\x.2=[32],λx=>cH x.1⟩
abbrev arA:ad:=.st (.az bx (.az .bool .eo))
def Jn:List (aM×Int×Bool)->Nat->List (aM×A2)
 | [],_=>[]
 | p::l,i=>(p.1,p.2.1,p.2.2,some (119+i))::Jn l (i+1)
def rT:List (aM×A2):=Jn kF 0
abbrev Bs:aP:=⟨.cV,.map .str arA,λ_=>True,λ_=>rT⟩
theorem arB(x):A.le (anm x) (Bs.sh x):=A.bw λ_=>congrArg A.pure (show _=rT by decide +kernel)
theorem aaf(w:aM):∀ (l:List (aM×Int×Bool)) (i:Nat),((Jn l i).find? λp=>decide (w=p.1)).map (λx=>x.2)=(od w l i).map λr=>(r.1,r.2.1,some (119+r.2.2))
 | [],_=>rfl
 | p::l,i=>by
  unfold Jn od;rw[List.find?_cons];by_cases h:w=p.1
  ·simp[h]
  ·simp[h,aaf w l (i+1)]
theorem aag{w:aM}:∀ {l:List (aM×Int×Bool)} {i:Nat} {r:Int×Bool×Nat},od w l i=some r->i<=r.2.2/\r.2.2<i+l.length/\l[r.2.2 - i]?=some (w,r.1,r.2.1)
 | [],_,_,h=>by simp[od]at h
 | p::l,i,r,h=>by
  unfold od at h;split at h
  ·grind
  ·have:=aag h;grind
def Jo(j:Nat):Nat:=(kF.getD j ([],0,false)).2.1.toNat
def EV(k:Nat):z1'×a_×Unit->A (aM×a_×Unit):=fw (Jo (k - 119)) (tc (k - 119))
theorem arC:∀ p∈kF,0<=p.2.1:=by decide
def Bt(x:List (aM×A2)×aM×a_×Unit):A (aM×a_×Unit):=A.dI (x.1=rT/\x.2.1.length<=10000/\ds x.2.2.1) ((jg x.2.2.1 x.2.1).1,(jg x.2.2.1 x.2.1).2,())
theorem arD{l:List aM}(h:l.all (λw=>decide (0<=e1 w))=true):l.map tb=l.map e1:=List.map_congr_left λw hw=>arz (by grind)
theorem aah{aI:Type}(r:aI)(fin:z1'->aI):∀ (l:List aM) (b:z1'),e0 (λw b=>if (!decide (0<=e1 w))=true then .done r else .next (b++[tb w])) fin l b=if l.all (λw=>decide (0<=e1 w))=true then fin (b++l.map tb) else r
 | [],b=>by simp[e0]
 | w::l,b=>by
  unfold e0;rw[List.all_cons,List.map_cons];cases h:decide (0<=e1 w) with
  | true=>
   simp only[Bool.not_true,Bool.false_eq_true,if_false,Bool.true_and];rw[aah r fin l,List.append_assoc];rfl
  | false=>rfl
theorem arE(x):A.le (Ym Jm.sh EU.sh EV x) (Bt x):=A.bw λh=>by
 obtain⟨arF,s,d,⟨⟩⟩:=x;obtain⟨af,aD,aw⟩:arF=rT/\s.length<=10000/\ds d:=h;subst af;unfold Ym;show _=A.pure ((jg d s).1,(jg d s).2,());rw[show Jm.sh (s,[32])=A.pure (cH s) from A.bR ⟨aD,rfl⟩ _,A.aH];have ak:=uR s;rw[A.bz ⟨by decide,by grind⟩];have ar:((rT.find? λp=>decide ((cH s).getD (Int.toNat 0) []=p.1)).map λx=>x.2)=(od ((cH s).getD 0 []) kF 0).map λr=>(r.1,r.2.1,some (119+r.2.2)):=aaf _ _ _;have hw:=bC (n:=((cH s).length:Int) - 1) (by omega) (by omega);simp only[ar,bW,hw];unfold jg ER;cases Gw:od ((cH s).getD 0 []) kF 0 with
 | none=>simp
 | some r=>
  obtain⟨k,m,j⟩:=r;obtain⟨_,aG,an⟩:=aag Gw;simp only[Option.map_some,Option.isSome_some,Option.getD_some,Bool.not_true,Bool.false_or];by_cases aa:(decide (((cH s).length:Int) - 1<k)||decide (((cH s).length:Int) - 1 > k)&&!m)=true
  ·grind
  ·rw[if_neg aa,if_neg aa];rw[A.bz ⟨by decide,by omega,Int.le_refl _⟩];simp only[Int.toNat_natCast,List.take_length,show Int.toNat 1=1 from rfl];have vc:((cH s).drop 1).length=(cH s).length - 1:=by simp
   rw[A.f_ ((cH s).drop 1) (λi (o:z1')=>((cH s).drop 1,(((cH s).drop 1).length:Int),(i:Int),(k,m,some (119+j)),o,d,())) (λw o=>if (!decide (0<=e1 w))=true then .done (.done ([63],d,())) else .next (o++[tb w])) (λo=>.next ((k,m,some (119+j)),o,d,())) (λi o=>o.length=i) [] ?_ rfl ?_ ?_]
   ·rw[aah,A.aH];unfold EP;by_cases bb:((cH s).drop 1).all (λw=>decide (0<=e1 w))=true
    ·rw[if_pos bb,if_pos bb,A.b2,arD bb,List.nil_append];rw[A.bz]
     ·have y0:0<=k:=arC _ (List.mem_of_getElem? an);have cc:Jo j=k.toNat:=by
       unfold Jo;grind
      have cC:eF (Jo j) (((cH s).drop 1).map e1):=by
       simp only[Bool.or_eq_true,decide_eq_true_eq,not_or]at aa;refine⟨by grind,by grind,λn aA=>?_⟩;obtain⟨w,hw,rfl⟩:=List.mem_map.1 aA;have:=List.all_eq_true.1 bb w hw;exact⟨by grind,(aqS w).2⟩
      have ayl:EV (119+j) (((cH s).drop 1).map e1,d,())=A.pure ((tc j d (((cH s).drop 1).map e1)).1,(tc j d (((cH s).drop 1).map e1)).2,()):=by
       unfold EV;rw[show 119+j - 119=j by omega];exact A.bR ⟨aw,cC⟩ _
      simp_all
     ·have:j<20:=by simpa [kF]using aG
      exact⟨119+j,by
       have e:∀ j:Fin 20,(119+j.val)∈[119,120,121,122,123,124,125,126,127,128,129,130,131,132,133,134,135,136,137,138]:=by decide
       exact e ⟨j,this⟩,rfl⟩
    ·rw[if_neg bb,if_neg bb];rfl
   ·rfl
   ·intro i G o ag;have hw:=bC (n:=(i:Int)+1) (by omega) (by omega);refine⟨?_,λbe cW=>?_⟩
    ·simp only[cZ G,if_true,dm G,cL G,A.br,cm,hw];rw[show EU.sh ((cH s).drop 1)[i]=A.pure (rb ((cH s).drop 1)[i]) from A.bR (Nat.le_trans (Z7 s (List.mem_of_mem_drop (List.getElem_mem G))) aD) _,A.aH];unfold rb;by_cases aA:0<=e1 ((cH s).drop 1)[i]
     ·simp only[aA,decide_true,Bool.not_true,Bool.false_eq_true,if_false];rw[A.bz (gv (by grind))];rfl
     simp_all
    grind
   simp
theorem Qn{d:a_}(aw:ds d){s:aM}(aD:s.length<=10000):ds (jg d s).2:=by
 unfold jg;split
 ·exact aw
 ·rename_i j l ao;refine ary aw ?_ j;unfold ER at ao;split at ao
  ·grind
  ·split at ao
   ·grind
   ·unfold EP at ao;have:=uR s;grind
abbrev qJ:aP:=⟨wy,.int .i64,λd=>fx d.1/\H.iR d.2,iv⟩
theorem arG(x):A.le (Yj pO.sh H.h2.sh x) (qJ.sh x):=A.bw λh=>by
 obtain⟨E,U⟩:fx x.1/\H.iR x.2:=h;unfold Yj;rw[show pO.sh x.1=A.pure (jf x.1) from A.bR E _,A.aH,show H.h2.sh x.2=A.pure (H.cP x.2) from A.bR U _,A.kA,A.aH];show _=A.pure (iv x);unfold iv;grind
theorem arH(l:List H.ba):(H.gW l).length<=l.length:=by
 have q6:(H.gW l).map (·.1) ⊆ l.map (·.1):=by
  intro x ai;obtain⟨s,aD,rfl⟩:=List.mem_map.1 ai;exact List.mem_map_of_mem (H.D7 aD)
 have:=(H.XX l).length_le_of_subset q6;grind
theorem arI(l:z1'):(H.rO l []).length<=l.length:=by
 unfold H.rO;have aA:((ev 0 99).filter λid=>l.contains id||List.contains [] id).Nodup:=((H.Z5 0 99).imp λh=>by omega:(ev 0 99).Nodup).filter _;refine aA.length_le_of_subset λx ai=>?_;grind
theorem aai{c:H.a6}(h:H.cP c=0):H.ob c [] []=(H.nq c (H.gW c.2.1) (H.rO c.2.2.1 []),0):=by
 have G:=H.Jb h;have g:H.jT c=true:=by unfold H.cP at h;grind
 have U:H.cP (H.nq c [] [])=0:=by
  have:H.jT (H.nq c [] [])=true:=by
   unfold H.jT H.sP at g ⊢;simp only[Bool.and_eq_true,List.all_eq_true,Bool.not_eq_true',Bool.or_eq_false_iff,H.nq]at g ⊢;grind
  unfold H.cP;rw[if_pos this];rfl
 have fc:=arH c.2.1;have pY:=arI c.2.2.1;have eh:=G.eh;have jI:=G.jI;unfold H.ob;rw[if_neg (by simp[h]),if_neg (by omega),List.append_nil,if_neg (by rw[G.cl];decide),if_neg];grind
theorem arJ{d:a_}(h:ds d):ft d=(d.1,H.nq d.2 (H.gW d.2.2.1) (H.rO d.2.2.2.1 [])):=by
 unfold ft;rw[aai h.yC]
theorem Qo{d:a_}(h:ds d):ds (ft d):=by
 have:=aad (c:=d.2) (m:=[]) (v:=[]) (by rw[aai h.yC]);exact⟨h.gL,h.yB,this.2.1,by rw[arJ h];exact h.Bq⟩
theorem aaj{p:a_->Prop}{q:aM->Prop}(ao:∀ d s,p d->q s->p (jg d s).2):∀ (l:List aM) (d:a_),p d->(∀ s∈l,q s)->p (fv d l).2
 | [],d,h,_=>h
 | s::l,d,h,bq=>aaj ao l _ (ao d s h (bq s (by simp))) λt aK=>bq t (by grind)
theorem aak{d:a_}(h:ds d){l:List aM}(ak:∀ s∈l,s.length<=10000):ds (fv d l).2:=aaj (p:=ds) (λd s h aD=>Qn h aD) l d h ak
def rD(x:a_×Unit):A (a_×Unit):=A.dI (ds x.1) (ft x.1,())
theorem OC(x):A.le (Yk H.Bp.sh Ji.sh x) (rD x):=A.bw λh=>by
 obtain⟨d,⟨⟩⟩:=x;have h:ds d:=h;unfold Yk;rw[show H.Bp.sh (d.2,[],[])=A.pure (H.ob d.2 [] []) from A.bR ⟨h.iR,by simp,by simp⟩ _,A.aH];rw[show Ji.sh d.1=A.pure d.1 from A.bR h.copy _];simp only[A.iS,A.fD,A.br];rfl
abbrev Jp(x:a_×List aM):Prop:=fx x.1.1/\H.gF x.1.2/\x.2.length<2 ^ 63/\∀ s∈x.2,s.length<=10000
theorem Qp{d:a_}(E:fx d.1)(U:H.gF d.2)(h:iv d=0):ds d:=by
 unfold iv at h;split at h
 ·omega
 ·rename_i aa;simp only[Bool.or_eq_true,decide_eq_true_eq,not_or,ne_eq,Decidable.not_not]at aa;exact⟨E,aa.1,aa.2,U.2 aa.2⟩
abbrev rU:aP:=⟨.az wy ta,.az ta (.az wy (.int .i64)),Jp,λx=>lC x.1 x.2⟩
theorem Qq:∀ (l:List aM) (o:List aM) (d:a_),l.foldl (λ(p:List aM×a_) s=>(p.1++[(jg p.2 s).1],(jg p.2 s).2)) (o,d)=(o++(fv d l).1,(fv d l).2)
 | [],o,d=>by simp[fv]
 | s::l,o,d=>by
  rw[List.foldl_cons,Qq l];simp[fv]
theorem arK(x):A.le (Yi qJ.sh rD Bs.sh Bt x) (rU.sh x):=A.bw λh=>by
 obtain⟨d,l⟩:=x;obtain⟨E,U,ah,aZ⟩:Jp (d,l):=h;unfold Yi;show _=A.pure (lC d l);unfold lC;rw[show qJ.sh d=A.pure (iv d) from A.bR ⟨E,U.gL⟩ _,A.aH];by_cases e:iv d=0
 ·rw[if_neg (show ¬decide (iv d≠0)=true by grind),if_neg (show ¬iv d≠0 by omega)];have aw:=Qp E U e;by_cases aN:l.length > 40
  ·grind
  ·rw[if_neg (show ¬decide (Int.ofNat l.length > 40)=true by grind),if_neg aN];rw[show rD (d,())=A.pure (ft d,()) from A.bR aw _,A.aH,show Bs.sh ()=A.pure rT from rfl,A.aH];rw[A.f_ l (λi (p:List aM×a_)=>(rT,l,(l.length:Int),(i:Int),p.1,0,0,0,0,0,0,0,0,0,p.2,())) (λs p=>.next (p.1++[(jg p.2 s).1],(jg p.2 s).2)) (λp=>.next (p.1,0,0,0,0,0,0,0,0,0,p.2,())) (λi p=>ds p.2/\p.1.length=i) ([],ft d) ?_ ⟨Qo aw,rfl⟩ ?_ ?_]
   ·rw[ej,Qq,A.aH,A.b2,A.br,List.nil_append]
   ·rfl
   ·rintro i G ⟨o,qQ⟩ ⟨qO,ag⟩;have hw:=bC (n:=(i:Int)+1) (by omega) (by omega);have aD:=aZ _ (List.getElem_mem G);change ds qQ at qO;change o.length=i at ag;refine⟨?_,λbe cW=>?_⟩
    ·simp only[bW,cZ G,if_true,dm G,cL G,A.br,cm,hw];rw[show Bt (rT,l[i],qQ,())=A.pure _ from A.bR ⟨rfl,aD,qO⟩ _,A.aH,A.bz (gv (by grind))];rfl
    ·simp only[W.next.injEq]at cW;subst cW;exact⟨Qn qO aD,by grind⟩
   simp
 grind
end Go.Fer.au
namespace Go.Fer.au
open A (W)
def o1:a_:=(Bo,[(0,0)],[],[],[],10,30,100,500,1000,2000,300)
def aal(arL:Unit->A bI)(x:Unit):A a_:=A.bind (arL ()) λy=>A.pure (y,[(0,0)],[],[],[],10,30,100,500,1000,2000,300)
abbrev Jq:aP:=⟨.cV,wy,λ_=>True,λ_=>o1⟩
theorem arM(x):A.le (aal I3.sh x) (Jq.sh x):=A.bw λ_=>by
 unfold aal;rw[show I3.sh ()=A.pure Bo from rfl,A.aH];rfl
def pq:List aM:=[[108,101,110,100,32,49,32,48,32,49,48,48,32,51,32,55],[98,97,99,107,32,50,32,48,32,49,55,49,32,51],[102,101,101,32,49],[119,104,101,114,101,32,51,32,49,55,49],[116,114,105,97,108,32,49,32,48,32,48,32,48],[115,116,111,99,107,32,48,32,49],[101,120,116,114,97],[100,114,111,112,32,51],[101,120,116,114,97]]
def Jr:List aM:=[[111,107],[111,107],[51,48,48,32,51,48,48],[115,104,111,112],[108,105,97,114],[111,107],[49],[111,107],[48]]
theorem arN:iv o1=0:=by decide +kernel
theorem Qr:(fv (ft o1) pq).1=Jr/\(fv (ft o1) pq).2.2.2.1.length=2/\(fv (ft o1) pq).2.1.2.2.2.1.length=3:=by decide +kernel
end Go.Fer.au
namespace Go.Fer.au
open A (W)
open H (gv)
theorem arO(x):A.le (Yh H.h2.sh pO.sh x) (qJ.sh x):=A.bw λh=>by
 obtain⟨E,U⟩:fx x.1/\H.iR x.2:=h;unfold Yh;rw[show pO.sh x.1=A.pure (jf x.1) from A.bR E _,A.aH,show H.h2.sh x.2=A.pure (H.cP x.2) from A.bR U _,A.kA,A.aH];show _=A.pure (iv x);unfold iv;grind
theorem aam(c:UInt8):c.1.1.1=c.toNat:=rfl
theorem aan{n:Int}(h:0<=n)(U:n<=255):IntKind.wrap .u8 n=n:=by
 show (if (false&&decide (n % 2 ^ 8>=(2 ^ (8 - 1):Int)))=true then n % 2 ^ 8 - 2 ^ 8 else n % 2 ^ 8)=n;grind
theorem Js{al β aI:Type}{p:al->Bool}{r:aI}{g:al->β->β}{fin:β->aI}:∀ (l:List al) (b:β),e0 (λx b=>if p x=true then .done r else .next (g x b)) fin l b=if l.any p=true then r else fin (l.foldl (λb x=>g x b) b)
 | [],b=>rfl
 | x::l,b=>by
  unfold e0;rw[List.any_cons,List.foldl_cons];cases h:p x with
  | true=>rfl
  | false=>
   simp only[Bool.false_eq_true,if_false,Bool.false_or];exact Js l (g x b)
def yH(c:UInt8):Bool:=decide ((c.toNat:Int)<48)||decide ((c.toNat:Int) > 57)
theorem arP(c:UInt8)(s:aM)(n:Int):ga (c::s) n=if yH c=true then -1 else ga s (10*n+((c.toNat:Int) - 48)):=rfl
theorem aao{aI:Type}{r:aI}{fin:Int->aI}:∀ (s:aM) (n:Int),0<=n->e0 (λc n=>if yH c=true then .done r else .next (10*n+((c.toNat:Int) - 48))) fin s n=if ga s n=-1 then r else fin (ga s n)
 | [],n,h=>by
  show fin n=if n=-1 then r else fin n
  grind
 | c::s,n,h=>by
  rw[arP];unfold e0;by_cases hc:yH c=true
  ·grind
  ·have oG:=hc;unfold yH at oG;simp only[Bool.or_eq_true,decide_eq_true_eq,not_or]at oG;simp only[hc];exact aao s _ (by omega)
abbrev Jt:aP:=⟨.str,.int .i64,λ_=>True,e1⟩
theorem arQ(x):A.le (YV x) (Jt.sh x):=A.bw λ_=>by
 unfold YV;show _=A.pure (e1 x);unfold e1;simp only[bW,aam,show Int.toNat 0=0 from rfl];rw[A.bz (λaa=>⟨⟨aa,trivial⟩,⟨Int.le_refl _,by grind⟩,trivial⟩)];have e:(decide ((x.length:Int)=0)||decide ((x.length:Int) > 6)||decide ((x.length:Int) > 1)&&decide (((x.getD 0 0).toNat:Int)=48))=(decide (x.length=0)||decide (x.length > 6)||decide (x.length > 1)&&decide ((x.getD 0 0).toNat=48)):=by
  grind
 rw[e];by_cases aa:(decide (x.length=0)||decide (x.length > 6)||decide (x.length > 1)&&decide ((x.getD 0 0).toNat=48))=true
 ·grind
 ·rw[if_neg aa,if_neg aa];have dt:x.length<=6:=by
   grind
  rw[A.f_ x (λi (n:Int)=>(x,n,(i:Int),())) (λc n=>if yH c=true then .done (.done (-1)) else .next (10*n+((c.toNat:Int) - 48))) (λn=>.next (n,())) (λi n=>0<=n/\n<10 ^ i) 0 ?_ ⟨Int.le_refl _,by decide⟩ ?_ ?_]
  ·rw[aao _ _ (Int.le_refl _),A.aH];by_cases aw:ga x 0=-1
   ·rw[if_pos aw,aw];rfl
   ·rw[if_neg aw];rfl
  ·rfl
  ·rintro i G n ⟨aX,E⟩;have hw:=bC (n:=(i:Int)+1) (by omega) (by omega);have ao:(10:Int) ^ i<=10 ^ 5:=by
    have:=Nat.pow_le_pow_right (n:=10) (by decide) (show i<=5 by omega);grind
   have xF:(10:Int) ^ (i+1)=10 ^ i*10:=Int.pow_succ ..;refine⟨?_,λbe cW=>?_⟩
   ·simp only[cZ G,if_true,dm G,cL G,A.br,cm,hw];rw[A.bz (λh=>⟨⟨h,h⟩,trivial,trivial⟩)];by_cases hc:yH x[i]=true
    ·rw[if_pos hc];have oG:(decide ((x[i].toNat:Int)<48)||decide ((x[i].toNat:Int) > 57))=true:=hc;simp_all
    ·rw[if_neg hc];have oG:¬(decide ((x[i].toNat:Int)<48)||decide ((x[i].toNat:Int) > 57))=true:=hc;rw[if_neg oG];simp only[Bool.or_eq_true,decide_eq_true_eq,not_or]at oG;rw[aan (by omega) (by omega),bC (n:=(x[i].toNat:Int) - 48) (by omega) (by omega),bC (n:=10*n) (by omega) (by omega),bC (n:=10*n+((x[i].toNat:Int) - 48)) (by omega) (by omega)];rfl
   ·split at cW
    ·grind
    ·rename_i hc;unfold yH at hc;grind
  simp
def Bu(o:List aM)(c:UInt8):List aM:=if c=32 then o++[[]] else o.set (o.length - 1) (o.getD (o.length - 1) []++[c])
theorem Qs:∀ (s:aM) (o:List aM) (w:aM),s.foldl Bu (o++[w])=o++(match cH s with | []=>[w] | v::l=>(w++v)::l)
 | [],o,w=>by simp[cH]
 | c::s,o,w=>by
  rw[List.foldl_cons];unfold cH;by_cases hc:c=32
  ·rw[if_pos hc,show Bu (o++[w]) c=o++[w]++[[]] from if_pos hc];have:=Qs s (o++[w]) [];rw[this];have ak:=uR s;grind
  ·rw[if_neg hc,show Bu (o++[w]) c=_ from if_neg hc];have e:(o++[w]).set ((o++[w]).length - 1) ((o++[w]).getD ((o++[w]).length - 1) []++[c])=o++[w++[c]]:=by
    simp
   rw[e];have:=Qs s o (w++[c]);rw[this];have ak:=uR s;cases h:cH s with
   | nil=>exact absurd ak.1 (by rw[h];decide)
   | cons v l=>simp
abbrev Ju:aP:=⟨.str,ta,λx=>x.length<=10000,cH⟩
theorem arR(x):A.le (YU x) (Ju.sh x):=A.bw λh=>by
 change x.length<=10000 at h;unfold YU;show _=A.pure (cH x);rw[A.f_ x (λi (o:List aM)=>(x,(i:Int),o,())) (λc o=>.next (Bu o c)) (λo=>.next (o,())) (λi o=>1<=o.length/\o.length<=i+1/\∀ w∈o,w.length<=i) [[]] ?_ ⟨by decide,by decide,by simp⟩ ?_ ?_]
 ·rw[ej,A.aH,A.b2];have:=Qs x [] [];rw[List.nil_append]at this;rw[this];have ak:=uR x;grind
 ·rfl
 ·rintro i G o ⟨E,U,ah⟩;have hw:=bC (n:=(i:Int)+1) (by omega) (by omega);have gE:=bC (n:=(o.length:Int) - 1) (by omega) (by omega);have ay:((o.length:Int) - 1).toNat=o.length - 1:=by omega
  have aN:((i:Int)+1).toNat=i+1:=by omega
  have arS:o.length - 1<o.length:=by omega
  have aC:o.getD (o.length - 1) []=o[o.length - 1]:=by grind
  have aym:=ah _ (List.getElem_mem arS);have aw:(x.take (i+1)).drop i=[x[i]]:=by rw[List.drop_take,List.drop_eq_getElem_cons G,Nat.add_sub_cancel_left];rfl
  refine⟨?_,λbe cW=>?_⟩
  ·simp only[bW,cZ G,if_true,dm G,cL G,A.br,cm,hw,gE,ay,aam];unfold Bu;by_cases hc:x[i]=32
   ·have oG:decide ((x[i].toNat:Int)=32)=true:=by simp_all
    rw[if_pos oG,if_pos hc,A.bz (gv (by grind))];simp_all
   ·have oG:¬decide ((x[i].toNat:Int)=32)=true:=by
     intro h;apply hc;simp only[decide_eq_true_eq]at h;exact UInt8.toNat_inj.1 (show x[i].toNat=32 by omega)
    rw[if_neg oG,if_neg hc];rw[A.bz (by omega),A.bz (by omega),aN,Int.toNat_natCast,aw,A.bz (gv (by grind)),A.bz (by omega)];simp_all
  ·simp only[W.next.injEq]at cW;subst cW;unfold Bu;grind
 simp
def pR:List aM×z1'×z1':=(kF.map (·.1),kF.map (·.2.1),kF.map λp=>if p.2.2=true then -1 else p.2.1)
abbrev Jv:aP:=⟨.cV,.az ta (.az fP fP),λ_=>True,λ_=>pR⟩
theorem arT(x):A.le (anI x) (Jv.sh x):=A.bw λ_=>congrArg A.pure (show _=pR by rfl)
def Jw(k:Int)(m:Bool)(n:Nat):Bool:=decide ((n:Int)>=k)&&(decide ((if m=true then -1 else k)<(0:Int))||decide ((n:Int)<=if m=true then -1 else k))
def uS(s:aM):aM×z1'×Bool:=
 if ((cH s).drop 1).any (λw=>decide (e1 w<0))=true then ([],[],false) else
 match od ((cH s).getD 0 []) kF 0 with
 | none=>([],[],false)
 | some (k,m,_)=>((cH s).getD 0 [],((cH s).drop 1).map e1,Jw k m ((cH s).drop 1).length)
theorem aap{aI:Type}{w:aM}{g:Int->Bool->aI}{r:aI}:∀ (l:List (aM×Int×Bool)) (i:Nat),e0 (λp (_:Unit)=>if decide (p.1=w)=true then .done (g p.2.1 p.2.2) else .next ()) (λ_=>r) l ()=match od w l i with | none=>r | some q=>g q.1 q.2.1
 | [],_=>rfl
 | p::l,i=>by
  unfold e0 od;by_cases h:p.1=w
  ·simp[h]
  ·have U:¬w=p.1:=λe=>h e.symm;simp only[h,decide_false,Bool.false_eq_true,if_false,U];exact aap l (i+1)
abbrev Jx:aP:=⟨.str,.az .str (.az fP .bool),λx=>x.length<=10000,uS⟩
theorem arU(x):A.le (YT Ju.sh Jt.sh Jv.sh x) (Jx.sh x):=A.bw λh=>by
 change x.length<=10000 at h;unfold YT;show _=A.pure (uS x);unfold uS;rw[show Ju.sh x=A.pure (cH x) from A.bR h _,A.aH];have ak:=uR x;have ai:List.length x<=10000:=h;have vc:((cH x).drop 1).length=(cH x).length - 1:=by simp
 rw[A.f_ ((cH x).drop 1) (λi (o:z1')=>(cH x,((1+i:Nat):Int),o,())) (λw o=>if decide (e1 w<0)=true then .done (.done ([],[],false)) else .next (o++[e1 w])) (λo=>.next (cH x,o,())) (λi o=>o.length=i) [] ?_ rfl ?_ ?_]
 ·rw[Js,A.aH];by_cases bb:((cH x).drop 1).any (λw=>decide (e1 w<0))=true
  ·rw[if_pos bb,if_pos bb];rfl
  ·rw[if_neg bb,if_neg bb,A.b2,xV,List.nil_append];rw[show Jv.sh ()=A.pure pR from rfl,A.aH];generalize m':((cH x).drop 1).map e1=Bv;have aA:Bv.length=((cH x).drop 1).length:=by grind
   rw[<-aA];rw[A.f_ kF (λi (_:Unit)=>(cH x,pR.1,pR.2.1,pR.2.2,(i:Int),Bv,())) (λp (_:Unit)=>if decide (p.1=(cH x).getD 0 [])=true then .done (.done ((cH x).getD 0 [],Bv,Jw p.2.1 p.2.2 Bv.length)) else .next ()) (λ_=>.next ()) (λ_ _=>True) () ?_ trivial ?_ ?_]
   ·rw[aap (g:=λk m=>W.done ((cH x).getD 0 [],Bv,Jw k m Bv.length)) kF 0,A.aH];cases od ((cH x).getD 0 []) kF 0<;>rfl
   ·rfl
   ·intro i G _ _;have ayn:i<20:=G;have hw:=bC (n:=(i:Int)+1) (by omega) (by omega);have fc:i<pR.1.length:=G;have pY:i<pR.2.1.length:=G;have yU:i<pR.2.2.length:=G;have g1:pR.1[i]'fc=(kF[i]'G).1:=List.getElem_map ..;have et:pR.2.1[i]'pY=(kF[i]'G).2.1:=List.getElem_map ..;have g3:pR.2.2[i]'yU=if (kF[i]'G).2.2=true then -1 else (kF[i]'G).2.1:=List.getElem_map ..
    have ao:((0:Int)<=0/\(0:Int)<((cH x).length:Int))=True:=eq_true ⟨by decide,by omega⟩;refine⟨?_,λ_ _=>trivial⟩;simp only[bW,cZ fc,if_true,dm fc,dm pY,dm yU,cL fc,cL pY,cL yU,ao,A.br,cm,hw,g1,et,g3,show Int.toNat 0=0 from rfl];by_cases hc:decide ((kF[i]'G).1=(cH x).getD 0 [])=true
    ·rw[if_pos hc,if_pos hc];unfold Jw;simp_all
    simp_all
   ·intro _ _;simp[pR]
 ·rfl
 ·intro i G o ag;have dA:1+i<(cH x).length:=by omega
  have hw:=bC (n:=((1+i:Nat):Int)+1) (by omega) (by omega);have aC:(cH x)[1+i]=((cH x).drop 1)[i]:=by grind
  refine⟨?_,λbe cW=>?_⟩
  ·simp only[bW,cZ dA,if_true,dm dA,cL dA,A.br,cm,hw,aC];rw[show Jt.sh ((cH x).drop 1)[i]=A.pure (e1 ((cH x).drop 1)[i]) from rfl,A.aH];by_cases aA:decide (e1 ((cH x).drop 1)[i]<0)=true
   ·simp_all
   ·rw[if_neg aA,if_neg aA,A.bz (gv (by grind))];rfl
  grind
 simp_all
theorem arV{s:aM}(h:s.length<=10000):Jx.sh s=A.pure (uS s):=A.bR h _
end Go.Fer.au
