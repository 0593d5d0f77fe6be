/- Part 4 of the proof of TopFees: shallow programs of Go functions, and what they compute. No condition. -/
import Derived.Test.YtjjgkigajpocoaaGreatDoorTopFeesC
import Derived.RangeFuncIn
import Derived.RangeFuncRecord
import Derived.RangeFuncBound
import Derived.Scope
import Derived.RangeFuncLeaves
import Derived.OpenShut
import Derived.WideKeyArgs
import Derived.ChangeSame
import Derived.Test.YtjjgkigajpocoaaGreatDoorProg
import Derived.KernelRfl
noncomputable section
set_option linter.unusedVariables false
set_option linter.unusedSimpArgs false
namespace Go.Fer
open Go.RowKit
section
variable {C:cJ} {T:Nat->aa} {bs:Nat->Option aQ} {Psi:Nat->Option gw} {s:aE} {o:Oper} {Q:Exit->Act->World->Prop} {ops:Array Oper}
theorem arE{af:Type}{m:L af}(h:m.GY){d x:af}(an:m.a8 x):x=m.val d:=by
 unfold L.val;have he:∃ x,m.a8 x:=⟨x,an⟩
 rw[dif_pos he];exact h _ _ an he.choose_spec
theorem aa9(dq:lP C.P bs)(dK:pH C.P C.aW Psi):lP C.P (Lm bs Psi):=by
 intro k c h;unfold Lm at h;split at h
 ·rename_i dL Sg;split at h
  ·rename_i ay;cases h;simp only[amX,aQA]at ay;have h:=dK k _ Sg;obtain⟨E,M⟩:hI C.P k dL.ts dL.aS dL.sh/\(dL.Lj=true->∀ x,(dL.sh x).GY):=h;exact⟨λ_=>E.vs λx ax=>⟨ax,λy bf=>arE (M ay.1 x) bf⟩,λhe=>by rw[show qf dL.Lk.aS=qf dL.aS from rfl,ay.2]at he;cases he⟩
  grind
 ·rename_i gr hc;cases h;have h:qf c.aS=true/\GC C.P k c:=dK k _ hc;exact⟨λhe=>(by rw[h.1]at he;cases he),λ_=>h.2⟩
 ·cases h
 ·exact dq k c h
variable {bet:Type}
theorem L3{m:L bet}{O:bet->Prop}:∀ (l:List Prop),c8 (yP l m) O->(∀ p∈l,p)/\c8 m O:=by
 intro l;induction l with
 | nil=>intro h;exact⟨λp ak=>(by grind),h⟩
 | cons p l aR=>
  intro h;simp  [yP]at h;rw[ib]at h;grind
theorem aa_{c6 cM:Bool}{cA c:Prop}(E:c6=true->cA)(M:cM=true->c)(h:∀ p∈GU c6 cM cA c,p):cA/\c:=by
 unfold GU at h;constructor
 ·cases c6<;>simp_all
 ·cases cM<;>simp_all
variable {a:Act}{w:World}
theorem arF(aU:ei C.P T)(dq:lP C.P bs)(ay:m' o C.b3=true){r:eU}(h:vN C.aW T bs ops s o=some r)(hc:∀ p∈r.cs,p)(D:de C s a w){K:Act->World->Prop}
  (kL:∀ a' w',de C (r.jY s) a' w'->K a' w') :
  if Region.wanted o (yielded ops a.tmps) then o.wpIn (e0 C.r) 0 C.P a w K Q else (∀ f,o.about C.P w a.eval=some f->(e0 C.r).fn f)/\K (a.put o.dst undef) w:=by
 have bp:∀ i,o.dst=some i->i<C.b3:=λi G=>by
  have:=ay;simp  [m']at this;grind
 obtain⟨kap,F,hb⟩:=D;unfold vN at h;split at h
 ·grind
 ·rename_i g aB;rw[LW hb aB];split at h
  ·grind
  ·rename_i res gY;split at h
   ·cases h;obtain⟨E,M⟩:=aa_ (λU=>(Z3 U).run s.ab res gY) (λU=>(GR U).run s.ab res gY) hc;exact Oper.wpIn_mono kL (Dr aU dq ay gY a w kap F Q hb E M)
   ·rename_i b;split at h
    ·rename_i yX;cases h;have hc:∀ p∈GU (ux (bj C.aW s.aD) o&&(vM (bj C.aW s.aD) o&&!res.ht.Dn)) true (b=true->res.cA/\(res.c/\(use res.ht).1)) True,p:=hc;obtain⟨E,_⟩:=aa_ (λU=>by
      simp  at U;exact λ_=>⟨(Z3 U.1).run s.ab _ gY,(GR U.2.1).run s.ab _ gY,K1 U.2.2⟩) (λ_=>trivial) hc
     obtain⟨cA,c,ht,jG⟩:=res;subst yX;cases b with
     | true=>
      obtain⟨E,M,al⟩:=E rfl;refine Oper.wpIn_mono (λa' w' bm=>kL a' w' ?_) (Dr aU dq ay gY a w kap F Q hb E M);exact de.RO   bm bp λkap F v ag=>⟨λ_=>q7 ag al,λh=>(by grind)⟩
     | false=>
      exact⟨λ_ _=>trivial,kL _ _ ⟨kap,F,hb.set   bp ⟨λh=>(by grind),λ_=>rfl⟩⟩⟩
    grind
theorem aa'(cl:List (List Nat)):∀ n,DE cl n<=n/\∀ j,DE cl n<=j->j<n->∀ i,i<j->i∈cl.getD j []
 | 0=>⟨amY _,λj _ h=>by omega⟩
 | n+1=>by
  unfold DE;split
  ·obtain⟨E,M⟩:=aa' cl n;refine⟨by omega,λj aM Sq i G=>?_⟩;by_cases e:j=n
   ·simp_all
   grind
  grind
variable {n:Nat}
theorem arG(rr:Du ops.toList=true)(Sr:∀ j,n<=j->j<ops.size->∀ i,i<j->i∈(jM ops.toList).getD j []):∀ (k j cX:Nat) (listed:Array Bool) (a:Act) (w:World),n<=j->j+k=ops.size->listed.size=ops.size->
  (∀ i,listed.getD i false=decide (i<j))->k<=cX->wpOpsIn (e0 C.r) 0 C.P ops Q (List.range' j k) a w->wpAnyIn (e0 C.r) 0 C.P .any ops Q cX listed a w:=by
 intro k;induction k with
 | zero=>
  intro j cX listed a w arH arI cQ ai aC h;have D:∀ i,i ∉ Region.ready .any ops listed:=λi G=>by
   rw[mem_ready]at G;grind
  have fx:=List.eq_nil_iff_forall_not_mem.2 D;cases cX with
  | zero=>exact⟨fx,h⟩
  | succ cX=>exact⟨λ_=>h,λi G=>absurd G (D i)⟩
 | succ k aR=>
  intro j cX listed a w arH arI cQ ai aC h;have aM:j<ops.size:=by omega
  cases cX with
  | zero=>omega
  | succ cX=>
   have xy:∀ q o,ops[q]?=some o->listed.getD q false=true->∀ i∈lR o,listed.getD i false=true:=λq o au bC i G=>by
    have:=List.all_eq_true.1 rr q (by grind);grind
   have L4:∀ i,i∈Region.ready .any ops listed<->i=j:=λi=>by
    constructor
    ·intro G;rw[mem_ready]at G;obtain⟨aV,o,au,Hu⟩:=G;by_cases e:i=j
     ·omega
     ·have yY:∀ k∈lR o,listed.getD k false=true:=by
       intro k aj;obtain⟨e,he,uN⟩:=List.mem_filterMap.1 aj;grind
      have DO:∀ k∈(jM ops.toList).getD i [],listed.getD k false=true\/k=i:=by
       intro k aj;refine Dw (p:=λj=>listed.getD j false=true\/j=i) ops.toList [] (λj i G=>by grind) (λj gg hX k aj aM=>?_) i k aj (.inr rfl);grind
      grind
    ·rintro rfl;rw[mem_ready];refine⟨?_,ops[i],by simp,λe he U=>?_⟩
     ·grind
     ·have bh:e.on∈lR ops[i]:=List.mem_filterMap.2 ⟨e,by grind,by grind⟩;have:=List.all_eq_true.1 rr i (by grind);grind
   refine⟨λD=>?_,λi G=>?_⟩
   ·simp_all
   ·obtain rfl:=(L4 i).1 G;have gh:ops[i]?=some ops[i]:=by simp
    rw[aSd]at h;simp  [wpOpsIn,gh]at h;have next:∀ a w,wpOpsIn (e0 C.r) 0 C.P ops Q (List.range' (i+1) k) a w->wpAnyIn (e0 C.r) 0 C.P .any ops Q cX (listed.setIfInBounds i true) a w:=λa w dj=>by
     refine aR (i+1) cX _ a w (by omega) (by omega) (by grind) (λq=>?_) (by omega) dj;by_cases e:q=i
     ·simp_all
     ·rw[getD_set_ne false (Ne.symm e),ai,decide_eq_decide];omega
    unfold wpOpIn;rw[gh];simp;split
    ·rename_i hw;rw[if_pos hw]at h;exact Oper.wpIn_mono next h
    grind
def L5(n:Nat)(l b e x:Bool)(listed:Array Bool):Prop:=∀ i,listed.getD i false=(decide (i<n)||(l&&decide (i=n))||(b&&decide (i=n+1))||(e&&decide (i=n+2))||(x&&decide (i=n+3)))
def o1(a:Act)(e' hz d1 d2:Nat)(u vB vE vX:Value)(l b e x:Bool):Act:=
 let cH:=if l=true then a.put (some e') u else a
 let b1:=if b=true then cH.put (some hz) vB else cH
 let ek:=if e=true then b1.put (some d1) vE else b1
 if x=true then ek.put (some d2) vX else ek
theorem arJ(a:Act)(d:Option Nat)(v:Value):(a.put d v).tmps.size=a.tmps.size:=by cases d<;>simp[Act.put]
theorem arK(a:Act)(e' hz d1 d2:Nat)(u vB vE vX:Value)(l b e x:Bool):(o1 a e' hz d1 d2 u vB vE vX l b e x).tmps.size=a.tmps.size:=by
 unfold o1;cases l<;>cases b<;>cases e<;>cases x<;>simp[arJ]
theorem aba{e' hz d1 d2:Nat}{u vB vE vX:Value}{l b e x:Bool}{y:Operand}(E:y≠.tmp e')(M:y≠.tmp hz)(al:y≠.tmp d1)(a7:y≠.tmp d2):(o1 a e' hz d1 d2 u vB vE vX l b e x).eval y=a.eval y:=by
 unfold o1;cases l<;>cases b<;>cases e<;>cases x<;>simp[DM,E,M,al,a7]
theorem Hv{o:Oper}{w':World}{K:Act->World->Prop}{v:Value}(ay:∀ c,o.op≠.defer c)(h:(execOp a.eval o).run C.P w=.ok (.value v) w')(aj:o.wpIn (e0 C.r) 0 C.P a w K Q):K (a.put o.dst v) w':=by
 have:=aj.2;rw[Db ay,h]at this;exact this
theorem arL(abb:ops.size=n+5)(rr:Du ops.toList=true){ik kq jO kJ oq:Oper}(Bs:ops[n]?=some ik)(Bt:ops[n+1]?=some kq)(DP:ops[n+2]?=some jO)(Hw:ops[n+3]?=some kJ)(Hx:ops[n+4]?=some oq)
  (Hy:ik.guard=none) (Hz:kq.guard=none) (L6:jO.guard=none) (L7:kJ.guard=none) (L8:oq.guard=none) (HA:∀ c,ik.op≠.defer c) (L9:∀ c,kq.op≠.defer c) (L_:∀ c,jO.op≠.defer c) (L':∀ c,kJ.op≠.defer c)
  (hW:∀ q,q<5->∀ i,i<n->i∈(jM ops.toList).getD (n+q) []) (Ss:n∈(jM ops.toList).getD (n+1) []) (abc:n+2∈(jM ops.toList).getD (n+3) []) (DQ:∀ q,q<4->n+q∈(jM ops.toList).getD (n+4) [])
  (abd:∀ i∈lR jO,i<n) (abe:∀ i∈lR kJ,i<n\/i=n+2)
  {e' hz d1 d2:Nat} (vW:ik.dst=some e') (d_:kq.dst=some hz) (HB:jO.dst=some d1) (Ma:kJ.dst=some d2) (_n1:e'≠hz) (ej:e'≠d1) (jJ:e'≠d2) (n4:hz≠d1) (HC:hz≠d2)
  {a:Act} {w wE:World} {u vB vE vX:Value}
  (abf:∀ b e x,(execOp (o1 a e' hz d1 d2 u vB vE vX false b e x).eval ik).run C.P (if e=true then wE else w)=.ok (.value u) (if e=true then wE else w))
  (abg:∀ e x,(execOp (o1 a e' hz d1 d2 u vB vE vX true false e x).eval kq).run C.P (if e=true then wE else w)=.ok (.value vB) (if e=true then wE else w))
  (abh:∀ l b x,(execOp (o1 a e' hz d1 d2 u vB vE vX l b false x).eval jO).run C.P w=.ok (.value vE) wE)
  (abi:∀ l b,(execOp (o1 a e' hz d1 d2 u vB vE vX l b true false).eval kJ).run C.P wE=.ok (.value vX) wE)
  (h:wpOpsIn (e0 C.r) 0 C.P ops Q (List.range' n 5) a w):∀ (cX:Nat) (listed:Array Bool),listed.size=ops.size->(∀ i,listed.getD i false=decide (i<n))->5<=cX->wpAnyIn (e0 C.r) 0 C.P .any ops Q cX listed a w:=by
 let aK:=o1 a e' hz d1 d2 u vB vE vX;let W:=λe:Bool=>if e=true then wE else w
 have wt:∀ {o:Oper},o.guard=none->∀ a':Act,Region.wanted o (yielded ops a'.tmps)=true:=λh a'=>by unfold Region.wanted;rw[h]
 have uO:oq.wpIn (e0 C.r) 0 C.P (aK true true true true) wE (λa' w'=>Q .normal a' w') Q:=by
  have gS:List.range' n 5=[n,n+1,n+2,n+3,n+4]:=rfl;rw[gS]at h;simp only[wpOpsIn,Bs,Bt,DP,Hw,Hx,wt Hy,wt Hz,wt L6,wt L7,wt L8,if_true]at h;have E:=Hv (a:=aK false false false false) (w:=w) HA (abf false false false) h;rw[vW]at E;have M:=Hv (a:=aK true false false false) (w:=w) L9 (abg false false) E;rw[d_]at M;have al:=Hv (a:=aK true true false false) (w:=w) L_ (abh true true false) M;rw[HB]at al;have a7:=Hv (a:=aK true true true false) (w:=wE) L' (abi true true) al;rw[Ma]at a7;exact a7
 have arM:∀ {l b e x:Bool} {listed:Array Bool},L5 n l b e x listed->(b=true->l=true)->(x=true->e=true)->∀ q o,ops[q]?=some o->listed.getD q false=true->∀ i∈lR o,listed.getD i false=true:=by
  intro l b e x listed bq U an q o au bC i G;have arN:q<ops.size:=(Array.getElem?_eq_some_iff.1 au).1;have aMO:i<q:=by
   have:=List.all_eq_true.1 rr q (by grind);grind
  rw[bq]at bC ⊢;grind
 have aMP:∀ {listed:Array Bool} {i:Nat},listed.size=ops.size->i<ops.size->(listed[i]?.getD true=false<->listed.getD i false=false):=by
  intro listed i cQ G;rw[aQu,aRm (by omega)];rfl
 have arO:∀ {l b e x:Bool} {listed:Array Bool},L5 n l b e x listed->(b=true->l=true)->(x=true->e=true)->listed.size=ops.size->∀ i∈Region.ready .any ops listed,(i=n/\l=false)\/(i=n+1/\l=true/\b=false)\/(i=n+2/\e=false)\/(i=n+3/\e=true/\x=false)\/(i=n+4/\l=true/\b=true/\e=true/\x=true):=by
  intro l b e x listed bq U an cQ i G;have xy:=arM bq U an;rw[mem_ready]at G;obtain⟨aV,o,au,Hu⟩:=G;have bh:i<ops.size:=(Array.getElem?_eq_some_iff.1 au).1;have aV:listed.getD i false=false:=by
   grind
  have yY:∀ k∈lR o,listed.getD k false=true:=by
   intro k aj;obtain⟨e,he,uN⟩:=List.mem_filterMap.1 aj;split at uN
   ·rename_i U;cases uN;grind
   grind
  have DO:∀ k∈(jM ops.toList).getD i [],listed.getD k false=true\/k=i:=by
   intro k aj;refine Dw (p:=λj=>listed.getD j false=true\/j=i) ops.toList [] (λj i G=>by simp at G) (λj gg hX k aj aM=>?_) i k aj (.inr rfl);have qv:ops[j]?=some gg:=by grind
   rcases (by simpa using aM:listed.getD j false=true\/j=i) with aM | aM
   ·exact .inl (xy j gg qv aM k aj)
   ·subst aM;rw[au]at qv;cases qv;exact .inl (yY k aj)
  rw[bq]at aV;simp only[aQ5,Bool.and_eq_false_iff,aQE]at aV;obtain⟨⟨⟨⟨iG,aO⟩,aT⟩,b7⟩,gZ⟩:=aV;have bF:n<=i:=by omega
  have arP:i=n\/i=n+1\/i=n+2\/i=n+3\/i=n+4:=by omega
  have flag:∀ q,q<4->n+q∈(jM ops.toList).getD i []->n+q≠i->(if q=0 then l else if q=1 then b else if q=2 then e else x)=true:=by
   intro q bC hm eM;rcases DO _ hm with h | h
   ·rw[bq]at h;simp only[aQH,amX,am0]at h;rcases h with (((h | ⟨E,h⟩) | ⟨E,h⟩) | ⟨E,h⟩) | ⟨E,h⟩
    ·omega
    ·grind
    ·have:q=1:=by omega
     subst this;exact E
    ·have:q=2:=by omega
     subst this;exact E
    ·have:q=3:=by omega
     subst this;exact E
   omega
  rcases arP with rfl | rfl | rfl | rfl | rfl
  ·grind
  ·exact .inr (.inl ⟨rfl,flag 0 (by omega) Ss (by omega),by grind⟩)
  ·grind
  ·grind
  ·exact .inr (.inr (.inr (.inr ⟨rfl,flag 0 (by omega) (DQ 0 (by omega)) (by omega),flag 1 (by omega) (DQ 1 (by omega)) (by omega),flag 2 (by omega) (DQ 2 (by omega)) (by omega),flag 3 (by omega) (DQ 3 (by omega)) (by omega)⟩)))
 have arQ:∀ {l b e x:Bool} {listed:Array Bool},L5 n l b e x listed->(b=true->l=true)->(x=true->e=true)->listed.size=ops.size->Region.ready .any ops listed≠[]:=by
  intro l b e x listed bq U an cQ um;have mk:∀ i o,ops[i]?=some o->listed.getD i false=false->(∀ k∈lR o,listed.getD k false=true)->False:=by
   intro i o au aV ay;have bh:i<ops.size:=(Array.getElem?_eq_some_iff.1 au).1;have:i∈Region.ready .any ops listed:=by
    rw[mem_ready];refine⟨?_,o,au,λe he U=>ay e.on (List.mem_filterMap.2 ⟨e,by grind,by grind⟩)⟩;grind
   grind
  have lt:∀ q o,ops[q]?=some o->∀ i∈lR o,i<q:=by
   intro q o au i G;have arN:q<ops.size:=(Array.getElem?_eq_some_iff.1 au).1;have:=List.all_eq_true.1 rr q (by grind);rw[show ops.toList[q]?=some o by grind]at this;have:=List.all_eq_true.1 this i G;grind
  cases l with
  | false=>
   have sX:b=false:=by grind
   subst sX;exact mk n ik Bs (by rw[bq];simp) λk aj=>by rw[bq];grind
  | true=>
   cases b with
   | false=>exact mk (n+1) kq Bt (by rw[bq];simp) λk aj=>by rw[bq];grind
   | true=>
    cases e with
    | false=>
     have St:x=false:=by grind
     subst St;exact mk (n+2) jO DP (by rw[bq];simp) λk aj=>by rw[bq];grind
    | true=>
     cases x with
     | false=>exact mk (n+3) kJ Hw (by rw[bq];simp) λk aj=>by rw[bq];grind
     | true=>exact mk (n+4) oq Hx (by rw[bq];simp) λk aj=>by rw[bq];grind
 have HD:∀ {listed:Array Bool} (i:Nat),listed.size=ops.size->i<ops.size->∀ q,(listed.setIfInBounds i true).getD q false=(listed.getD q false||decide (q=i)):=by
  intro listed i cQ G q;by_cases e:q=i
  ·grind
  grind
 let cr:=λ(l b e x:Bool)=>∀ (cX:Nat) (listed:Array Bool),L5 n l b e x listed->listed.size=ops.size->5<=cX+(l.toNat+b.toNat+e.toNat+x.toNat)->wpAnyIn (e0 C.r) 0 C.P .any ops Q cX listed (aK l b e x) (W e);have step:∀ l b e x,(b=true->l=true)->(x=true->e=true)->(l=false->cr true b e x)->(l=true->b=false->cr l true e x)->(e=false->cr l b true x)->(e=true->x=false->cr l b e true)->cr l b e x:=by
  intro l b e x U an s1 s2 fh nd cX listed bq cQ s_;have aMQ:l.toNat<=1/\b.toNat<=1/\e.toNat<=1/\x.toNat<=1:=⟨Bool.toNat_le l,Bool.toNat_le b,Bool.toNat_le e,Bool.toNat_le x⟩
  cases cX with
  | zero=>omega
  | succ cX=>
   refine⟨λD=>absurd D (arQ bq U an cQ),λi G=>?_⟩;rcases arO bq U an cQ i G with⟨rfl,E⟩ | ⟨rfl,E,M⟩ | ⟨rfl,E⟩ | ⟨rfl,E,M⟩ | ⟨rfl,E,M,al,a7⟩
   ·subst E;have sX:b=false:=by grind
    subst sX;unfold wpOpIn;simp only[Bs,wt Hy,if_true];refine ig HA (abf false e x) ?_;rw[vW];have Gk:(aK false false e x).put (some e') u=aK true false e x:=by
     simp only[aK,o1];cases e<;>cases x<;>simp[LZ _ ej.symm,LZ _ jJ.symm]
    show wpAnyIn _ _ _ _ _ _ _ _ ((aK false false e x).put (some e') u) (W e);rw[Gk];refine s1 rfl cX _ (λq=>?_) (by grind) (by grind);rw[HD i cQ (by omega),bq];by_cases bC:q=i<;>simp[bC]
   ·subst E;subst M;unfold wpOpIn;simp only[Bt,wt Hz,if_true];refine ig L9 (abg e x) ?_;rw[d_];have Gk:(aK true false e x).put (some hz) vB=aK true true e x:=by
     simp only[aK,o1];cases e<;>cases x<;>simp[LZ _ n4.symm,LZ _ HC.symm]
    show wpAnyIn _ _ _ _ _ _ _ _ ((aK true false e x).put (some hz) vB) (W e);rw[Gk];refine s2 rfl rfl cX _ (λq=>?_) (by grind) (by grind);rw[HD (n+1) cQ (by omega),bq];by_cases bC:q=n+1<;>simp[bC]
   ·subst E;have St:x=false:=by grind
    subst St;unfold wpOpIn;simp only[DP,wt L6,if_true];refine ig L_ (abh l b false) ?_;rw[HB];show wpAnyIn _ _ _ _ _ _ _ _ (aK l b true false) (W true);refine fh rfl cX _ (λq=>?_) (by grind) (by grind);rw[HD (n+2) cQ (by omega),bq];simp
   ·subst E;subst M;unfold wpOpIn;simp only[Hw,wt L7,if_true];refine ig L' (abi l b) ?_;rw[Ma];show wpAnyIn _ _ _ _ _ _ _ _ (aK l b true true) (W true);refine nd rfl rfl cX _ (λq=>?_) (by grind) (by grind);rw[HD (n+3) cQ (by omega),bq];simp
   ·subst E;subst M;subst al;subst a7;unfold wpOpIn;simp only[Hx,wt L8,if_true];refine Oper.wpIn_mono (λa' w' bC=>?_) uO;have gA:∀ i,(listed.setIfInBounds (n+4) true).getD i false=decide (i<n+5):=λi=>by
     rw[HD (n+4) cQ (by omega),bq,Bool.eq_iff_iff];simp only[aQH,amX,am0,aSi];omega
    have D:∀ i,i ∉ Region.ready .any ops (listed.setIfInBounds (n+4) true):=λi G=>by
     rw[mem_ready]at G;obtain⟨aV,o,au,_⟩:=G;grind
    have fx:Region.ready .any ops (listed.setIfInBounds (n+4) true)=[]:=List.eq_nil_iff_forall_not_mem.2 D;cases cX with
    | zero=>exact⟨fx,bC⟩
    | succ cX=>exact⟨λ_=>bC,λi G=>absurd G (D i)⟩
 have f:∀ {p:Prop},(true:Bool)=false->p:=λh=>by cases h
 have kF:∀ {p:Prop},(false:Bool)=true->p:=λh=>by cases h
 have abj:cr true true true true:=step _ _ _ _ (λ_=>rfl) (λ_=>rfl) f (λ_=>f) f (λ_=>f);have abk:cr true true true false:=step _ _ _ _ (λ_=>rfl) (λ_=>rfl) f (λ_=>f) f (λ_ _=>abj);have arR:cr true true false false:=step _ _ _ _ (λ_=>rfl) kF f (λ_=>f) (λ_=>abk) kF;have abl:cr true false true true:=step _ _ _ _ (λ_=>rfl) (λ_=>rfl) f (λ_ _=>abj) f (λ_=>f);have abm:cr true false true false:=step _ _ _ _ (λ_=>rfl) (λ_=>rfl) f (λ_ _=>abk) f (λ_ _=>abl);have arS:cr true false false false:=step _ _ _ _ (λ_=>rfl) kF f (λ_ _=>arR) (λ_=>abm) kF;have arT:cr false false true true:=step _ _ _ _ kF (λ_=>rfl) (λ_=>abl) kF f (λ_=>f);have arU:cr false false true false:=step _ _ _ _ kF (λ_=>rfl) (λ_=>abm) kF f (λ_ _=>arT);have arV:cr false false false false:=step _ _ _ _ kF kF (λ_=>arS) kF (λ_=>arU) kF;intro cX listed cQ ai s_;exact arV cX listed (λi=>by grind) cQ (by omega)
theorem Su{m:Nat}(aA:n<=ops.size)(aU:ei C.P T)(dq:lP C.P bs)(ay:∀ o∈ops.toList,m' o C.b3=true){l:List eU}{s':aE}(hlen:l.length=(ops.toList.take n).length)(vy:s'=jZ l s)(abn:∀ i o,m<=i->(ops.toList.take n)[i]?=some o->∃ r,l[i]?=some r/\vN C.aW T bs ops (jZ (l.take i) s) o=some r)(b8:AZ (ops.toList.take n) l=true)(Sr:∀ j,n<=j->j<ops.size->∀ i,i<n->i∈(jM ops.toList).getD j [])
  (hc:∀ r∈l,∀ p∈r.cs,p) (qw:∀ (cX:Nat) (listed:Array Bool) a' w',listed.size=ops.size->(∀ i,listed.getD i false=decide (i<n))->ops.size - n<=cX->de C s' a' w'->wpAnyIn (e0 C.r) 0 C.P .any ops Q cX listed a' w'):∀ (cX:Nat) (listed:Array Bool) (a:Act) (w:World),listed.size=ops.size->
   (∀ j o,ops[j]?=some o->listed.getD j false=true->∀ i∈lR o,listed.getD i false=true)->(∀ i,n<=i->listed.getD i false=false)->(∀ i,i<m->listed.getD i false=true)->((List.range ops.size).filter λj=>!listed.getD j false).length<=cX->
   de C (na l s λj=>listed.getD j false) a w->wpAnyIn (e0 C.r) 0 C.P .any ops Q cX listed a w:=by
 have LV:(ops.toList.take n).length=n:=by grind
 have iJ:∀ i,i<n->(ops.toList.take n)[i]?=ops[i]?:=λi G=>by
  grind
 simp only[AZ,amX]at b8;obtain⟨rr,Sv⟩:=b8;have aMR:∀ j o,j<n->ops[j]?=some o->∀ i∈lR o,i<j:=by
  intro j o Sq au i G;have:=List.all_eq_true.1 rr j (by grind);grind
 have aMS:∀ i j x y,i<j->l[i]?=some x->l[j]?=some y->((jM (ops.toList.take n)).getD j []).contains i=true\/x.apart y=true:=by
  intro i j x y AX G aM;have HE:j<l.length:=(List.getElem?_eq_some_iff.1 aM).1;have:=List.all_eq_true.1 Sv j (by grind);grind
 intro cX;induction cX with
 | zero=>
  intro listed a w cQ _ ij _ arW hrel;have gA:∀ i,listed.getD i false=decide (i<n):=λi=>by
   by_cases G:i<n
   ·cases ai:listed.getD i false with
    | true=>grind
    | false=>
     exfalso;have:i∈(List.range ops.size).filter λj=>!listed.getD j false:=by
      grind
     grind
   grind
  refine qw 0 listed a w cQ gA ?_ ?_
  ·by_cases dx:n<ops.size
   ·have:n∈(List.range ops.size).filter λj=>!listed.getD j false:=by
     grind
    grind
   ·omega
  ·have:na l s (λj=>listed.getD j false)=s':=by
    rw[vy];unfold na;rw[List.filter_eq_self.2 λp ak=>?_,Lb];obtain⟨_,M⟩:=A4 ak;grind
   grind
 | succ cX aR=>
  intro listed a w cQ xy ij ta arW hrel;by_cases Sw:∀ i,i<n->listed.getD i false=true
  ·have gA:∀ i,listed.getD i false=decide (i<n):=λi=>by
    grind
   refine qw (cX+1) listed a w cQ gA ?_ ?_
   ·have E:(List.range' n (ops.size - n)).length<=((List.range ops.size).filter λj=>!listed.getD j false).length:=by
     have e:(List.range ops.size).filter (λj=>!listed.getD j false)=List.range' n (ops.size - n):=by
      have M:(List.range ops.size).filter (λj=>!listed.getD j false)=(List.range ops.size).filter λj=>decide (n<=j):=aRF λj _=>by
       grind
      rw[M];have al:List.range ops.size=List.range n++List.range' n (ops.size - n):=by
       rw[aRq,aRq];have:=(List.range'_append (s:=0) (m:=n) (n:=ops.size - n) (step:=1))
       grind
      rw[al,aRk,List.filter_eq_nil_iff.2 λj aM=>by grind,List.filter_eq_self.2 λj aM=>by grind];rfl
     grind
    grind
   ·have:na l s (λj=>listed.getD j false)=s':=by
     rw[vy];unfold na;rw[List.filter_eq_self.2 λp ak=>?_,Lb];obtain⟨_,M⟩:=A4 ak;grind
    grind
  ·refine⟨λD=>absurd ?_ Sw,λi G=>?_⟩
   ·intro j;induction j using Nat.strongRecOn with
    | _ j aMT=>
     intro aM;cases ai:listed.getD j false with
     | true=>rfl
     | false=>
      exfalso;have pB:j∈Region.ready .any ops listed:=by
       rw[mem_ready];refine⟨?_,ops[j],by simp,λe he U=>?_⟩
       ·grind
       ·have bh:e.on∈lR ops[j]:=List.mem_filterMap.2 ⟨e,by grind,by grind⟩;grind
      grind
   ·rw[mem_ready]at G;obtain⟨aV,o,au,Hu⟩:=G;have bh:i<ops.size:=(Array.getElem?_eq_some_iff.1 au).1;have DR:listed.getD i false=false:=by
     grind
    have pB:o∈ops.toList:=by
     grind
    have yY:∀ k∈lR o,listed.getD k false=true:=by
     intro k aj;obtain⟨e,he,uN⟩:=List.mem_filterMap.1 aj;split at uN
     ·rename_i U;cases uN;exact Hu e (by simpa using he) U
     ·cases uN
    have G:i<n:=by
     by_cases G:i<n
     ·exact G
     ·exfalso;have DO:∀ k∈(jM ops.toList).getD i [],listed.getD k false=true\/k=i:=by
       intro k aj;refine Dw (p:=λj=>listed.getD j false=true\/j=i) ops.toList [] (λj i G=>by simp at G) (λj gg hX k aj aM=>?_) i k aj (.inr rfl);have qv:ops[j]?=some gg:=by grind
       rcases (by simpa using aM:listed.getD j false=true\/j=i) with aM | aM
       ·exact .inl (xy j gg qv aM k aj)
       ·subst aM;rw[au]at qv;cases qv;exact .inl (yY k aj)
      grind
    obtain⟨r,D,hA⟩:=abn i o (aSe λh=>by rw[ta i h]at DR;cases DR) (by grind);have aMU:∀ j k,k∈(jM (ops.toList.take n)).getD j []->listed.getD j false=true->listed.getD k false=true:=by
     refine Dw (p:=λj=>listed.getD j false=true) (ops.toList.take n) [] (λj i G=>by simp at G) λj gg hX k aj aM=>?_;have Sq:j<n:=by grind
     exact xy j gg (by grind) (by simpa using aM) k aj
    have DO:∀ k∈(jM (ops.toList.take n)).getD i [],listed.getD k false=true\/k=i:=by
     intro k aj;refine Dw (p:=λj=>listed.getD j false=true\/j=i) (ops.toList.take n) [] (λj i G=>by simp at G) (λj gg hX k aj aM=>?_) i k aj (.inr rfl);have Sq:j<n:=by grind
     have qv:ops[j]?=some gg:=by grind
     rcases (by simpa using aM:listed.getD j false=true\/j=i) with aM | aM
     ·exact .inl (xy j gg qv aM k aj)
     ·subst aM;rw[au]at qv;cases qv;exact .inl (yY k aj)
    have hW:∀ j x,j<i->l[j]?=some x->listed.getD j false=false->x.apart r=true:=by
     grind
    have A5:∀ j x,i<j->l[j]?=some x->listed.getD j false=true->r.apart x=true:=by
     grind
    obtain⟨aO,aT,b7⟩:=apV (s:=s) (f:=λj=>listed.getD j false) D DR hW A5;have arX:=apY hA aO aT;unfold wpOpIn;rw[au];refine arF aU dq (ay o pB) arX (hc r (aRD D)) hrel λa' w' bm=>?_;have gh:∀ j,(listed.setIfInBounds i true).getD j false=if j=i then true else listed.getD j false:=by
     intro j;by_cases e:j=i
     ·subst e;rw[if_pos rfl,aQu,Array.getElem?_setIfInBounds_self_of_lt (by omega)];rfl
     ·rw[if_neg e,getD_set_ne false (Ne.symm e)]
    refine aR _ a' w' (by grind) (λj gg hX aM k aj=>?_) (λq bC=>by rw[gh,if_neg (by omega)];grind) (λq bC=>by rw[gh];split;rfl;exact ta q bC) ?_ ?_
    ·rw[gh]at aM ⊢;split
     ·rfl
     ·split at aM
      ·rename_i e;subst e;rw[au]at hX;cases hX;exact yY k aj
      ·exact xy j gg hX aM k aj
    ·have dx:((List.range ops.size).filter λj=>!(listed.setIfInBounds i true).getD j false).length<((List.range ops.size).filter λj=>!listed.getD j false).length:=by
      have aF:(List.range ops.size).filter (λj=>!(listed.setIfInBounds i true).getD j false)=((List.range ops.size).filter λj=>!listed.getD j false).filter λj=>decide (j≠i):=by
       rw[List.filter_filter];apply aRF;intro j _;rw[gh];simp
      rw[aF];have arY:i∈(List.range ops.size).filter λj=>!listed.getD j false:=by
       grind
      exact List.length_filter_lt_length_iff_exists.2 ⟨i,arY,by simp⟩
     omega
    ·have:na l s (λj=>(listed.setIfInBounds i true).getD j false)=r.jY (na l s λj=>listed.getD j false):=by
      rw[<-b7];congr 1;funext j;grind
     grind
theorem abo{listed:Array Bool}(cQ:listed.size=ops.size)(gA:∀ i,listed.getD i false=decide (i<ops.size))(qw:Q .normal a w):∀ cX,wpAnyIn (e0 C.r) 0 C.P .any ops Q cX listed a w:=by
 have ij:∀ i,i ∉ Region.ready .any ops listed:=λi G=>by
  rw[mem_ready]at G;obtain⟨aV,o,au,_⟩:=G;grind
 intro cX;cases cX with
 | zero=>exact⟨List.eq_nil_iff_forall_not_mem.2 ij,qw⟩
 | succ cX=>exact⟨λ_=>qw,λi G=>absurd G (ij i)⟩
theorem Sx{b:Bool}{p:Prop}{m:L bet}{O:bet->Prop}(h:c8 (yN b p m) O):c8 m O:=by
 cases b with
 | true=>exact h
 | false=>exact (ib.1 h).2
theorem arZ{ik kq jO kJ oq:Oper}(h:Rt ik kq jO kJ oq=true):∃ ty m x Mb Sy k c e' hz d1 d2 lS y,ik.op=.lookup ty m x false/\kq.op=.binOp .add Mb (.tmp e') (.const (.int k c)) Sy/\jO.op=.mapEntry ty m x/\kJ.op=.extract (.tmp d1) 1/\
  lS.op=.mapUpdate ty m x y/\DC jO kJ oq=some (lS,d1,d2)/\ik.dst=some e'/\kq.dst=some hz/\jO.dst=some d1/\kJ.dst=some d2/\gQ k c/\(e'≠hz/\e'≠d1/\e'≠d2/\hz≠d1/\hz≠d2/\d1≠d2)/\
  (m≠.tmp e'/\m≠.tmp hz/\m≠.tmp d1/\m≠.tmp d2)/\(x≠.tmp e'/\x≠.tmp hz/\x≠.tmp d1/\x≠.tmp d2)/\(∃ rq,m=.tmp rq)/\(∃ Sz,x=.tmp Sz)/\ik.guard=none/\kq.guard=none/\jO.guard=none/\kJ.guard=none/\oq.guard=none:=by
 unfold Rt at h;split at h
 ·rename_i ty m x Mb t k c Sy mW dz eS iJ a6 nJ;split at h
  ·rename_i e' hz lS d1 d2 vW d_ s_;simp only[am0]at h;obtain⟨rfl,rfl,bh,aF,bB,eH,ej,jJ,n4,HC,abp,s1,s2,cH,b1,ek,gp,dv,fc,ji,vn,c6,cM⟩:=h;obtain⟨aMV,aMW,aMX,aMY,f1,f2,f3,f4,f5,f6,f7,f8,f9,f10,f11,f12,dT,eo,ko⟩:=aa3 s_;obtain⟨rq,yW⟩:=Option.isSome_iff_exists.1 s1;obtain⟨Sz,abq⟩:=Option.isSome_iff_exists.1 s2;have em:=DN yW;have ex:=DN abq;have ar0:=DN (aF.trans yW);have ar1:=DN (bB.trans abq);rw[f1]at nJ;simp only[Op.mapEntry.injEq]at nJ;obtain⟨rfl,rfl,rfl⟩:=nJ;subst em;subst ex;subst ar0;subst ar1;refine⟨_,_,_,_,_,_,_,_,_,_,_,lS,_,iJ,a6,f1,f3,f7,s_,vW,d_,f2,f4,bh,⟨eH,ej,jJ,n4,HC,abp⟩,?_,?_,⟨_,rfl⟩,⟨_,rfl⟩,Option.isNone_iff_eq_none.1 c6,Option.isNone_iff_eq_none.1 cM,dT,eo,ko⟩
   ·simp only[j8,ne_eq,amZ]at cH b1 ek gp;exact⟨λe=>cH (by cases e;rfl),λe=>b1 (by cases e;rfl),λe=>ek (by cases e;rfl),λe=>gp (by cases e;rfl)⟩
   ·simp only[j8,ne_eq,amZ]at dv fc ji vn;exact⟨λe=>dv (by cases e;rfl),λe=>fc (by cases e;rfl),λe=>ji (by cases e;rfl),λe=>vn (by cases e;rfl)⟩
  grind
 grind
theorem abr(uH:LA ops.toList=true)(aA:n=ops.size - 5)(aU:ei C.P T)(dq:lP C.P bs)(dK:pH C.P C.aW Psi)(ay:∀ o∈ops.toList,m' o C.b3=true){k:aE->L bet}{O:bet->Prop}
  (aj:∀ s' a' w',de C s' a' w'->c8 (k s') O->Q .normal a' w') (hm:c8 (oY C.aW T bs Psi ops (ops.toList.drop n) [] s k) O) :
  (n<=ops.size/\∀ j,n<=j->j<ops.size->∀ i,i<n->i∈(jM ops.toList).getD j [])/\∀ (a:Act) (w:World),de C s a w->∀ (cX:Nat) (listed:Array Bool),listed.size=ops.size->(∀ i,listed.getD i false=decide (i<n))->ops.size - n<=cX->wpAnyIn (e0 C.r) 0 C.P .any ops Q cX listed a w:=by
 unfold LA at uH;rw[show ops.toList.length - 5=n by grind]at uH;split at uH
 ·rename_i ik kq jO kJ oq abt;simp only[amX,aQL,aR9,List.contains_eq_mem,am0,aQH]at uH;obtain⟨ar2,⟨⟨⟨⟨⟨rr,hW⟩,Ss⟩,abc⟩,DQ⟩,abd⟩,abe⟩:=uH;have abb:ops.size=n+5:=by
   have:=congrArg List.length abt;grind
  have HF:∀ q (o:Oper),[ik,kq,jO,kJ,oq][q]?=some o->ops[n+q]?=some o:=λq o h=>by
   grind
  have Bs:=HF 0 ik rfl;have Bt:=HF 1 kq rfl;have DP:=HF 2 jO rfl;have Hw:=HF 3 kJ rfl;have Hx:=HF 4 oq rfl;have mem:∀ {q o},ops[n+q]?=some o->o∈ops.toList:=λh=>by
   grind
  obtain⟨ty,m,x,Mb,Sy,gI,c,e',hz,d1,d2,lS,y,iJ,a6,nJ,yT,iI,xa,vW,d_,HB,Ma,bh,⟨eH,ej,jJ,n4,HC,abp⟩,⟨m1,m2,m3,m4⟩,⟨mD,q9,abu,ar3⟩,⟨rq,em⟩,⟨Sz,ex⟩,Hy,Hz,L6,L7,L8⟩:=arZ ar2;have HA:∀ c,ik.op≠.defer c:=by grind
  have L9:∀ c,kq.op≠.defer c:=by grind
  have L_:∀ c,jO.op≠.defer c:=by grind
  have L':∀ c,kJ.op≠.defer c:=by grind
  refine⟨⟨by omega,λj E M i G=>by have:=hW (j - n) (by omega) i G;simp_all⟩,λa w D cX listed cQ ai s_=>?_⟩;have abv:=Sl (Q:=Q) aU dq dK ay aj _ n [] s a w rfl (λp ak=>by cases ak) D hm;rw[show (ops.toList.drop n).length=5 by grind]at abv;rw[abt]at hm;obtain⟨kap,F,hb⟩:=D;have gd:∀ {o:Oper},o.guard=none->∀ s:aE,mi s.aD ops o.guard=some none:=λh s=>by rw[h];rfl
  have abw:∀ {o:Oper} {os},(∀ ty m x,o.op≠.mapEntry ty m x)->DD o os=none:=λ{o os} h=>by
   unfold DD;split
   ·unfold DC;simp
   ·rfl
  have LV:DD ik [kq,jO,kJ,oq]=none:=abw (by grind);unfold oY at hm;rw[LV]at hm;simp only[gd Hy]at hm;split at hm
  ·rename_i xz Mc;rw[Bq λU=>(Si (s:=s) (λp ak=>by cases ak) (gk:=none) (λk aj=>by cases aj) U).run s.ab xz Mc,Bq λU=>(GR U).run s.ab xz Mc]at hm;obtain⟨SA,ar4,hm⟩:=hm;have ar5:=Dr aU dq (ay ik (mem Bs)) Mc;have Bu:=Mc;simp only[iB,e4,iJ,cR,C_]at Bu;have ar6:(use (bj C.aW s.aD m)).1/\(use (bj C.aW s.aD x)).1/\xz.jG=[]/\∃ v u,xz.ht=.val v u:=by
    split at Bu
    ·rename_i qo aMZ aM0;split at Bu
     ·simp only[aG.gf,amU,c',aG.dF,amZ]at Bu;obtain⟨es,rX,⟨y,l⟩,bf,rfl⟩:=Bu;exact⟨SA.1,SA.2,rfl,_,_,rfl⟩
     ·cases Bu
    ·cases Bu
   obtain⟨Sn,Sp,abx,aby,abz,ar7⟩:=ar6;have ar8:DD kq [jO,kJ,oq]=none:=abw (by grind);unfold oY at hm;rw[ar8]at hm;simp only[gd Hz]at hm;split at hm
   ·rename_i SB ar9;have hm:=Sx (Sx hm);have yZ:=ar9;have aF:(s.jI ik.dst xz).aD e'=.val aby abz:=by rw[vW,aE.jI,aE.Sj,ar7]
    have pI:Aw (.int gI c)=.val (.int gI) c:=by simp[Aw,bh]
    have ar_:∃ cH,aby=.int gI/\SB.jG=[]/\cH=abz:=by
     simp only[iB,e4,a6,cR,bj,aF,pI,use,aN.oc,aN.w9]at yZ;split at yZ
     ·rename_i aO cH aT dv E M;split at E
      ·rename_i b7 abu al;cases M;cases al;cases E;split at yZ
       ·rename_i KB;simp only[C7,c',aG.dF,amZ]at yZ;grind
       ·cases yZ
      grind
     ·rename_i ij;exfalso;split at yZ
      ·grind
      ·simp only[aG.gf,amU]at yZ;obtain⟨⟨gr,iA⟩,E,M⟩:=yZ;simp only[Ga,aG.gf,amU,aG.dF]at E;grind
    obtain⟨nQ,rfl,abA,rfl⟩:=ar_;have hv:((s.jI ik.dst xz).jI kq.dst SB).ab=s.ab:=by
     simp only[aE.jI,abx,abA,aE.iC,vW,d_,aE.set]
    have e6:∀ {t:Nat},t≠e'->t≠hz->((s.jI ik.dst xz).jI kq.dst SB).aD t=s.aD t:=λ{t} E M=>by
     simp only[aE.jI,abx,abA,aE.iC];rw[aE.Hr (by grind),aE.Hr (by grind)]
    unfold oY at hm;rw[show DD jO [kJ,oq]=some (lS,d1,d2) from xa]at hm;simp only at hm;split at hm
    ·rename_i aM1 ar';obtain⟨u,o2,wE,abB⟩:=arC (s:=s) aU iJ nJ iI hv (by rw[em];exact e6 (λe=>m1 (by grind)) (λe=>m2 (by grind))) (by rw[ex];exact e6 (λe=>mD (by grind)) (λe=>q9 (by grind))) ar' hb Sn Sp;have asa:=(abB a rfl rfl).1;have asb:=Hv (K:=λa' w'=>de C (s.jI ik.dst xz) a' w') (Q:=Q) HA asa (ar5 a w kap F Q hb SA ar4);have abC:e'<a.tmps.size:=by
      have:=ay ik (mem Bs);simp only[m',amX]at this;have:=this.1;rw[vW]at this;have E:=hb.dY;grind
     have aM2:d1<a.tmps.size:=by
      have:=ay jO (mem DP);simp only[m',amX]at this;have:=this.1;rw[HB]at this;have E:=hb.dY;grind
     have hu:u=.int gI nQ:=by
      obtain⟨aqw,uy,gv⟩:=asb;have E:=gv.b5 e';rw[aF,vW]at E;have M:(a.put (some e') u).tmps.getD e' Go.undef=u:=Hn abC;rw[M]at E;exact (hR.1 E).1
     subst hu;let vB:Value:=.int gI (gI.wrap (nQ+c));have asc:∀ (a':Act) (w':World),a'.eval (.tmp e')=.int gI nQ->(execOp a'.eval kq).run C.P w'=.ok (.value vB) w':=λa' w' h=>by
      have M:a'.eval (.const (.int gI c))=.int gI c:=rfl;have al:(Go.binOp .add Mb (.int gI nQ) (.int gI c)).run C.P w'=.ok vB w':=by simp[Go.binOp,Op.intArith,vB]
      simp only[execOp,a6,h,M,Sem.run_bind,YZ,Result.andThen_ok,al,Sem.run_pure]
     have asd:∀ (a':Act) (w':World),a'.eval (.tmp d1)=.tuple #[.int gI nQ,goInt o2]->(execOp a'.eval kJ).run C.P w'=.ok (.value (goInt o2)) w':=λa' w' h=>by
      simp[execOp,yT,h,Instr.extract]
     have Sc:∀ l b e eS,(o1 a e' hz d1 d2 (.int gI nQ) vB (.tuple #[.int gI nQ,goInt o2]) (goInt o2) l b e eS).eval m=a.eval m:=λl b e eS=>aba m1 m2 m3 m4;have ase:∀ l b e eS,(o1 a e' hz d1 d2 (.int gI nQ) vB (.tuple #[.int gI nQ,goInt o2]) (goInt o2) l b e eS).eval x=a.eval x:=λl b e eS=>aba mD q9 abu ar3;refine arL (wE:=wE) (u:=.int gI nQ) (vB:=vB) (vE:=.tuple #[.int gI nQ,goInt o2]) (vX:=goInt o2) abb rr Bs Bt DP Hw Hx Hy Hz L6 L7 L8 HA L9 L_ L' hW Ss abc DQ abd abe vW d_ HB Ma eH ej jJ n4 HC ?_ ?_ ?_ ?_ abv cX listed cQ ai (by omega)
     ·intro b e eS;have:=abB _ (Sc false b e eS) (ase false b e eS);cases e
      ·exact this.1
      ·exact this.2.1
     ·intro e eS;refine asc _ _ ?_;have E:(o1 a e' hz d1 d2 (.int gI nQ) vB (.tuple #[.int gI nQ,goInt o2]) (goInt o2) true false e eS).eval (.tmp e')=(a.put (some e') (.int gI nQ)).eval (.tmp e'):=by
       have c6:Operand.tmp e'≠.tmp d1:=λh=>ej (by grind);have cM:Operand.tmp e'≠.tmp d2:=λh=>jJ (by grind);unfold o1;cases e<;>cases eS<;>simp[DM,c6,cM]
      rw[E];exact Hn abC
     ·grind
     ·intro l b;refine asd _ _ ?_;have E:o1 a e' hz d1 d2 (.int gI nQ) vB (.tuple #[.int gI nQ,goInt o2]) (goInt o2) l b true false=(o1 a e' hz d1 d2 (.int gI nQ) vB (.tuple #[.int gI nQ,goInt o2]) (goInt o2) l b false false).put (some d1) (.tuple #[.int gI nQ,goInt o2]):=rfl;rw[E];exact Hn (by rw[arK];omega)
    ·exact hm.1.elim
   ·rename_i aM3;exfalso;have:uB C.aW T bs Psi (s.jI ik.dst xz) kq=none:=by
     have pI:Aw (.int gI c)=.val (.int gI) c:=by simp[Aw,bh]
     simp only[uB,a6,G5,bj,pI];simp
    rw[this]at hm;exact hm.1
  ·exfalso;have:uB C.aW T bs Psi s ik=none:=by simp only[uB,iJ]
   rw[this]at hm;exact hm.1
 grind
def rs:eU:=⟨[],none,.undef,[],[],[]⟩
theorem Md(s:aE):∀ n,jZ (List.replicate n rs) s=s
 | 0=>rfl
 | n+1=>by
  show jZ (List.replicate n rs) (rs.jY s)=s;exact Md s n
theorem asf(Bv:LB ops.toList n=true)(aU:ei C.P T)(dq:lP C.P bs)(ay:∀ o∈ops.toList,m' o C.b3=true){o:Oper}(fQ:ops[n]?=some o){s1:aE}
  {K2:Act->World->Prop} (sV:∀ a w,de C s1 a w->Region.wanted o (yielded ops a.tmps)=true/\o.wpIn (e0 C.r) 0 C.P a w (λa' w'=>K2 a' w') Q)
  (r5:∀ a' w',K2 a' w'->∃ (vY s2:aE) (fR:List eU),de C vY a' w'/\xp C.aW T bs ops (ops.toList.drop (n+1)) vY=some (fR,s2)/\aam (jM ops.toList) (n+1) fR=true/\(∀ r∈fR,∀ p∈r.cs,p)/\∀ b1 dP,de C s2 b1 dP->Q .normal b1 dP)
  (cX:Nat) (listed:Array Bool) (a:Act) (w:World) (cQ:listed.size=ops.size) (ai:∀ i,listed.getD i false=decide (i<n)) (s_:ops.size - n<=cX) (D:de C s1 a w):wpAnyIn (e0 C.r) 0 C.P .any ops Q cX listed a w:=by
 simp only[LB,amX,am0]at Bv;obtain⟨rr,aA,Bv⟩:=Bv;have aA:n<ops.size:=by simpa using aA
 cases cX with
 | zero=>omega
 | succ cX=>
  have xy:∀ q o,ops[q]?=some o->listed.getD q false=true->∀ i∈lR o,listed.getD i false=true:=λq o au bC i G=>by
   rw[ai]at bC ⊢;have bC:q<n:=by simpa using bC
   have:=List.all_eq_true.1 rr q (by simp;omega);rw[show ops.toList[q]?=some o by simpa using au]at this;have:=List.all_eq_true.1 this i G;simp only[am0]at this ⊢;omega
  have asg:∀ i∈lR o,i<n:=λi G=>by
   have:=List.all_eq_true.1 rr n (by simp;omega);rw[show ops.toList[n]?=some o by simpa using fQ]at this;have:=List.all_eq_true.1 this i G;simpa using this
  have L4:∀ i,i∈Region.ready .any ops listed<->i=n:=λi=>by
   constructor
   ·intro G;rw[mem_ready]at G;obtain⟨aV,gg,au,Hu⟩:=G;have bh:i<ops.size:=(Array.getElem?_eq_some_iff.1 au).1;have DR:listed.getD i false=false:=by
     rw[aQu]at aV ⊢;rw[aRm (by omega)]at aV ⊢;exact aV
    rw[ai]at DR;have bF:n<=i:=by simpa using DR
    by_cases e:i=n
    ·exact e
    ·exfalso;have yY:∀ k∈lR gg,listed.getD k false=true:=by
      intro k aj;obtain⟨e,he,uN⟩:=List.mem_filterMap.1 aj;split at uN
      ·rename_i U;cases uN;exact Hu e (by simpa using he) U
      ·cases uN
     have DO:∀ k∈(jM ops.toList).getD i [],listed.getD k false=true\/k=i:=by
      intro k aj;refine Dw (p:=λj=>listed.getD j false=true\/j=i) ops.toList [] (λj i G=>by simp at G) (λj abD hX k aj aM=>?_) i k aj (.inr rfl);have qv:ops[j]?=some abD:=by simpa using hX
      rcases (by simpa using aM:listed.getD j false=true\/j=i) with aM | aM
      ·exact .inl (xy j abD qv aM k aj)
      ·subst aM;rw[au]at qv;cases qv;exact .inl (yY k aj)
     have hm:=List.all_eq_true.1 Bv i (by simpa using bh);simp only[amX,aQH,am0]at hm;rcases hm.2 with h | h
     ·omega
     ·rcases DO n (by simpa using h) with h | h
      ·rw[ai]at h;simp at h
      ·exact e h.symm
   ·rintro rfl;rw[mem_ready];refine⟨?_,o,fQ,λe he U=>?_⟩
    ·have E:=ai i;rw[aQu]at E ⊢;rw[aRm (by omega)]at E ⊢;rw[show decide (i<i)=false by simp]at E;exact E
    ·have:=asg e.on (List.mem_filterMap.2 ⟨e,by simpa using he,by simp[U]⟩);rw[ai];simpa using this
  refine⟨λh=>?_,λi G=>?_⟩
  ·have:=(L4 n).2 rfl;rw[h]at this;cases this
  ·obtain rfl:=(L4 i).1 G;obtain⟨dT,eo⟩:=sV a w D;unfold wpOpIn;rw[fQ];simp only;rw[if_pos dT];refine Oper.wpIn_mono (λa' w' aj=>?_) eo;obtain⟨vY,s2,fR,HG,hA,jL,q8,bC⟩:=r5 a' w' aj;obtain⟨aO,aT,b7⟩:=Q1 _ _ hA;have hy:(ops.toList.drop (i+1)).length=ops.size - (i+1):=by simp
   have gh:∀ j,(listed.setIfInBounds i true).getD j false=decide (j<=i):=by
    intro j;by_cases e:j=i
    ·subst e;rw[aQu,Array.getElem?_setIfInBounds_self_of_lt (by omega)];simp
    ·rw[getD_set_ne false (Ne.symm e),ai,decide_eq_decide];omega
   have ed:(List.replicate (i+1) rs).length=i+1:=aRg;have Sv:Z4 (jM ops.toList) (List.replicate (i+1) rs++fR)=true:=by
    refine List.all_eq_true.2 λj aM=>List.all_eq_true.2 λq bC=>?_;have aM:j<i+1+fR.length:=by simpa [ed]using aM
    have bC:q<j:=by simpa using bC
    by_cases ash:q<i+1
    ·have aF:(List.replicate (i+1) rs++fR)[q]?=some rs:=by
      rw[aQO (by omega)];simp[ash]
     have bB:∃ y,(List.replicate (i+1) rs++fR)[j]?=some y:=⟨_,am3 (by simp;omega)⟩
     obtain⟨y,bB⟩:=bB;rw[aF,bB];simp[eU.apart,Ds,rs,eU.pC,eU.oX]
    ·have:=List.all_eq_true.1 (List.all_eq_true.1 jL (j - (i+1)) (by simp;omega)) (q - (i+1)) (by simp;omega);rw[am8 (by omega),am8 (by omega),ed];rw[show i+1+(j - (i+1))=j by omega,show i+1+(q - (i+1))=q by omega]at this;exact this
   have e:ops.toList.take ops.size=ops.toList:=aQ4;refine Su (n:=ops.size) (m:=i+1) (l:=List.replicate (i+1) rs++fR) (s:=vY) (s':=s2) (amY _) aU dq ay (by rw[e,aQW,ed,aO,hy,aQK];omega) (by rw[GW,Md,aT]) (λj gg aM hX=>?_) (by rw[e];simp only[AZ,amX];exact⟨rr,Sv⟩) (λj E M=>by omega) (λr D p ak=>?_) (λcX listed a' w' cQ gA _ bm=>abo cQ gA (bC a' w' bm) cX) cX _ a' w' (by simpa using cQ) (λj gg hX aM k aj=>?_) (λj aM=>by rw[gh];simp;omega) (λj aM=>by rw[gh];simp;omega) ?_ ?_
   ·rw[e]at hX;obtain⟨r,cn,cN⟩:=b7 (j - (i+1)) gg (by rw[aRp,show i+1+(j - (i+1))=j by omega];exact hX);refine⟨r,by rw[am8 (by omega),ed];exact cn,?_⟩;rw[List.take_append,ed,aRv (by omega),GW,Md];exact cN
   ·rcases List.mem_append.1 D with h | h
    ·rw[(List.mem_replicate.1 h).2]at ak;cases ak
    ·exact q8 r h p ak
   ·rw[gh]at aM ⊢;have aM:j<=i:=by simpa using aM
    have:=List.all_eq_true.1 rr j (by simp;omega);rw[show ops.toList[j]?=some gg by simpa using hX]at this;have:=List.all_eq_true.1 this k aj;simp only[am0]at this ⊢;omega
   ·have M:(List.range ops.size).filter (λj=>!(listed.setIfInBounds i true).getD j false)=(List.range ops.size).filter λj=>decide (i+1<=j):=aRF λj _=>by
     rw[gh];by_cases h:j<=i
     ·have:¬i+1<=j:=by omega
      simp[h,this]
     ·have:i+1<=j:=by omega
      simp[h,this]
    rw[M];have al:List.range ops.size=List.range (i+1)++List.range' (i+1) (ops.size - (i+1)):=by
     rw[aRq,aRq];have:=(List.range'_append (s:=0) (m:=i+1) (n:=ops.size - (i+1)) (step:=1))
     rw[Nat.one_mul,aRt]at this;rw[this];congr 1;omega
    rw[al,aRk,List.filter_eq_nil_iff.2 λj aM=>by have:=List.mem_range.1 aM;simp;omega,aRa];refine am5 (aQ3 _ _) ?_;rw[List.length_range'];omega
   ·have:na (List.replicate (i+1) rs++fR) vY (λj=>(listed.setIfInBounds i true).getD j false)=vY:=by
     unfold na;rw[QZ,aRk,aQT,GW];have bB:(kp (0+(List.replicate (i+1) rs).length) fR).filter (λp=>(listed.setIfInBounds i true).getD p.1 false)=[]:=List.filter_eq_nil_iff.2 λp ak=>by
      obtain⟨E,_⟩:=A4 ak;rw[gh];simp only[am0];rw[ed]at E;omega
     rw[bB];have aF:∀ (l:List eU),(∀ r∈l,r=rs)->jZ l vY=vY:=λl ai=>by
      rw[List.eq_replicate_iff.2 ⟨rfl,ai⟩,Md]
     show jZ (((kp 0 (List.replicate (i+1) rs)).filter λp=>(listed.setIfInBounds i true).getD p.1 false).map (·.2)) vY=vY;refine aF _ λr D=>?_;obtain⟨p,ak,rfl⟩:=List.mem_map.1 D;obtain⟨_,M⟩:=A4 (List.mem_filter.1 ak).1;exact (List.mem_replicate.1 (aRD M)).2
    rw[this];exact HG
theorem SC(n j:Nat):(Array.replicate n false).getD j false=false:=by
 rw[aQu,aRG];grind
theorem abE(aU:ei C.P T)(dq:lP C.P bs)(dK:pH C.P C.aW Psi)(ay:∀ o∈ops.toList,m' o C.b3=true){k:aE->L bet}{O:bet->Prop}
  (aj:∀ s' a' w',de C s' a' w'->c8 (k s') O->Q .normal a' w') {a:Act} {w:World} (D:de C s a w) (hm:c8 (DF C.aW T bs Psi ops s k) O):wpAnyIn (e0 C.r) 0 C.P .any ops Q ops.size (Array.replicate ops.size false) a w.drew:=by
 obtain⟨kap,F,hb⟩:=D;have fQ:∀ {n:Nat} {l:List eU} {s':aE} {m:L bet},n<=ops.size->xp C.aW T bs ops (ops.toList.take n) s=some (l,s')->AZ (ops.toList.take n) l=true->(∀ j,n<=j->j<ops.size->∀ i,i<n->i∈(jM ops.toList).getD j [])->c8 (yP (l.flatMap eU.cs) m) O->
   (c8 m O->∀ (cX:Nat) (listed:Array Bool) a' w',listed.size=ops.size->(∀ i,listed.getD i false=decide (i<n))->ops.size - n<=cX->de C s' a' w'->wpAnyIn (e0 C.r) 0 C.P .any ops Q cX listed a' w')->wpAnyIn (e0 C.r) 0 C.P .any ops Q ops.size (Array.replicate ops.size false) a w.drew:=by
  intro n l s' m aA ax b8 Sr hm qw;obtain⟨E,M⟩:=L3 _ hm;obtain⟨aO,aT,b7⟩:=Q1 _ _ ax;refine Su (m:=0) aA aU dq ay aO aT (λi o _ h=>b7 i o h) b8 Sr (λr D p ak=>E p (List.mem_flatMap.2 ⟨r,D,ak⟩)) (qw M) ops.size _ a _ (by simp) (λj o _ ai=>by rw[SC]at ai;cases ai) (λi _=>SC _ i) (λ_ h=>by omega) (by grind) ⟨kap,F,?_⟩;have:na l s (λj=>(Array.replicate ops.size false).getD j false)=s:=by
   unfold na;rw[List.filter_eq_nil_iff.2 λp _=>by simp only[SC];decide];rfl
  rw[this];exact hb.drew
 unfold DF at hm;split at hm
 ·rename_i l s' ax;split at hm
  ·rename_i b8;have e:ops.toList.take ops.size=ops.toList:=aQ4;refine fQ (amY _) (e.symm ▸ ax) (e.symm ▸ b8) (λj E M=>by omega) hm λM cX listed a' w' cQ gA _ bm=>abo cQ gA (aj s' a' w' bm M) cX
  ·exact hm.1.elim
 ·split at hm
  ·rename_i l s' ax;split at hm
   ·rename_i b8;rw[amX]at b8;by_cases uH:LA ops.toList=true
    ·have HH:r3 ops.toList=ops.size - 5:=by unfold r3;grind
     refine fQ (by omega) ax b8.1 ?_ hm λM=>?_
     ·obtain⟨E,M⟩:=L3 _ hm;have:=abr (Q:=Q) uH HH aU dq dK ay aj M;grind
     ·have:=abr (Q:=Q) uH HH aU dq dK ay aj M;grind
    ·have HH:r3 ops.toList=DE (jM ops.toList) ops.toList.length:=by unfold r3;grind
     obtain⟨xd,jo⟩:=aa' (jM ops.toList) ops.toList.length;have xd:r3 ops.toList<=ops.size:=by grind
     have jo:∀ j,r3 ops.toList<=j->j<ops.size->∀ i,i<j->i∈(jM ops.toList).getD j []:=λj E M=>jo j (by omega) (by omega);refine fQ xd ax b8.1 (λj E M i G=>jo j E M i (by omega)) hm λM cX listed a' w' cQ gA s_ bm=>?_;refine arG b8.2 jo (ops.size - r3 ops.toList) (r3 ops.toList) cX listed a' w' (amY _) (by omega) cQ gA s_ ?_;have hlen:(ops.toList.drop (r3 ops.toList)).length=ops.size - r3 ops.toList:=by simp
     rw[<-hlen];exact Sl (Q:=Q) aU dq dK ay aj _ _ [] s' a' w' rfl (λp ak=>by cases ak) bm M
   ·exact hm.1.elim
  ·split at hm
   ·rename_i Bv;unfold aan at hm;split at hm
    ·rename_i l s1 ax;split at hm
     ·rename_i b8;split at hm
      ·rename_i o fQ;split at hm
       ·rename_i uL;split at hm
        ·rename_i cK rp;obtain⟨E,M⟩:=L3 _ hm;have asi:o∈ops.toList:=aRD (by simpa using fQ);have bp:∀ i,o.dst=some i->i<C.b3:=λi G=>by
          have:=ay o asi;simp only[m',amX]at this;have:=this.1;rw[G]at this;simpa using this
         obtain⟨fU,fW,mB⟩:=Sf aU dq dK bp rp;have be:cK.cA:=by
          cases aC:ux (bj C.aW s1.aD) o with
          | true=>exact mB (QT aC)
          | false=>rw[aC]at M;exact (ib.1 M).1
         have M:=Sx M;rw[fS]at M;have SD:=Bv;simp only[LB,amX,am0]at SD;have aA:LC C.aW T bs ops ops.toList s<ops.size:=by simpa using SD.2.1
         obtain⟨c6,cM,hU⟩:=Q1 _ _ ax;refine Su (m:=0) (Nat.le_of_lt aA) aU dq ay c6 cM (λi o _ h=>hU i o h) b8 (λj apJ iF i G=>?_) (λr D p ak=>E p (List.mem_flatMap.2 ⟨r,D,ak⟩)) (λcX listed a' w' cQ gA s_ bm=>?_) ops.size (Array.replicate ops.size false) a _ (by simp) (λj o _ ai=>?_) (λi _=>?_) (λ_ h=>by omega) ?_ ⟨kap,F,?_⟩
         ·have:=List.all_eq_true.1 SD.2.2 j (by simpa using iF);simp only[amX,aQH,am0]at this;rcases this.1 with h | h
          ·omega
          ·simpa using List.all_eq_true.1 h i (by simpa using G)
         ·refine asf Bv aU dq ay fQ (s1:=s1) (K2:=λa' w'=>∃ y,de C (cK.ae y) a' w'/\c8 _ O) (λa w D=>⟨?_,fU a w Q _ D be ⟨M.1,λy bf a' w' bm=>⟨y,bm,M.2 y bf⟩⟩⟩) (λa' w' ⟨y,HG,HI⟩=>?_) cX listed a' w' cQ gA s_ bm
          ·obtain⟨kap,F,D⟩:=D;rw[LW D uL];rfl
          ·split at HI
           ·rename_i fR s2 pA;split at HI
            ·rename_i jL;obtain⟨aO,aT⟩:=L3 _ HI;exact⟨_,s2,fR,HG,pA,jL,λr D p ak=>aO p (List.mem_flatMap.2 ⟨r,D,ak⟩),λb1 dP cY=>aj s2 b1 dP cY aT⟩
            ·exact HI.1.elim
           ·exact HI.1.elim
         ·have:(Array.replicate ops.size false).getD j false=false:=by
           rw[aQu,aRG];split<;>rfl
          rw[this]at ai;cases ai
         ·rw[aQu,aRG];split<;>rfl
         ·have:=aQ3 (λj=>!(Array.replicate ops.size false).getD j false) (List.range ops.size);simpa using this
         ·have:na l s (λj=>(Array.replicate ops.size false).getD j false)=s:=by
           unfold na;rw[List.filter_eq_nil_iff.2 λp _=>?_]
           ·rfl
           ·simp only[aQu,aRG];split<;>simp
          rw[this];exact hb.drew
        ·exact hm.1.elim
       ·exact hm.1.elim
      ·exact hm.1.elim
     ·exact hm.1.elim
    ·exact hm.1.elim
   exact hm.1.elim
theorem asj{id:Nat}(fi:C.P.follows .mixedOrders=true)(aU:ei C.P T)(dq:lP C.P bs)(dK:pH C.P C.aW Psi)(ay:∀ o∈ops.toList,m' o C.b3=true){k:aE->L bet}{O:bet->Prop}
  (aj:∀ s' a' w',de C s' a' w'->c8 (k s') O->Q .normal a' w') {a:Act} {w:World} (D:de C s a w) (hm:c8 (DF C.aW T bs Psi ops s k) O):(Code.region id ops true).wpIn (e0 C.r) 0 C.P Q a w:=
 wpIn_region_any fi (abE aU dq dK ay aj D hm)
theorem DS{ops:Array Oper}{j:Nat}{o:Oper}(h:ops[j]?=some o):(nM ops.toList).toArray[j]?=some (if j=0 then o else { o with after:=o.after.push ⟨0,.phase⟩ }):=by
 obtain⟨l⟩:=ops;cases l with
 | nil=>simp at h
 | cons x l=>
  cases j with
  | zero=>simpa [nM]using h
  | succ j=>
   simp only[aRn,aRi]at h;simp[nM,h]
theorem SE(ops:Array Oper):(nM ops.toList).toArray.size=ops.size:=by
 obtain⟨l⟩:=ops;cases l<;>simp[nM]
theorem asl{ops:Array Oper}{j:Nat}{kC:Oper}(h:(nM ops.toList).toArray[j]?=some kC):∃ o,ops[j]?=some o/\kC=if j=0 then o else { o with after:=o.after.push ⟨0,.phase⟩ }:=by
 have aM:j<ops.size:=by rw[<-SE];exact (Array.getElem?_eq_some_iff.1 h).1
 have:=DS (ops:=ops) (j:=j) (o:=ops[j]) (by simp[aM]);rw[h]at this;cases this;exact⟨ops[j],by simp[aM],rfl⟩
theorem asm(ops:Array Oper):yielded (nM ops.toList).toArray=yielded ops:=by
 funext t j;unfold yielded;cases h:ops[j]? with
 | none=>
  have:(nM ops.toList).toArray[j]?=none:=by
   rw[Array.getElem?_eq_none_iff,SE];exact Array.getElem?_eq_none_iff.1 h
  rw[this]
 | some o=>
  rw[DS h];by_cases aM:j=0
  ·rw[if_pos aM]
  ·rw[if_neg aM];rfl
theorem asn{F:Fence}{P:Program}:∀ (cX:Nat) (listed:Array Bool) (a:Act) (w:World),listed.getD 0 false=true->wpAnyIn F 0 P .any (nM ops.toList).toArray Q cX listed a w->wpAnyIn F 0 P .any ops Q cX listed a w:=by
 have ur:∀ (listed:Array Bool),listed.getD 0 false=true->∀ i,i∈Region.ready .any ops listed->i∈Region.ready .any (nM ops.toList).toArray listed:=by
  intro listed aV i G;rw[mem_ready]at G ⊢;obtain⟨E,o,au,M⟩:=G;refine⟨E,_,DS au,λe he U=>?_⟩;split at he
  ·exact M e he U
  ·rcases Array.mem_push.1 he with he | rfl
   ·exact M e he U
   ·exact aV
 have aso:∀ (listed:Array Bool),Region.ready .any ops listed=[]->Region.ready .any (nM ops.toList).toArray listed=[]:=by
  intro listed h;rw[List.eq_nil_iff_forall_not_mem]at h ⊢;intro i G;refine h i ?_;rw[mem_ready]at G ⊢;obtain⟨E,kC,au,M⟩:=G;obtain⟨o,hX,rfl⟩:=asl au;refine⟨E,o,hX,λe he U=>M e ?_ U⟩;split
  ·exact he
  ·exact Array.mem_push_of_mem _ he
 have asp:∀ (listed:Array Bool),listed.getD 0 false=true->Region.ready .any (nM ops.toList).toArray listed=[]->Region.ready .any ops listed=[]:=by
  intro listed aV h;rw[List.eq_nil_iff_forall_not_mem]at h ⊢;exact λi G=>h i (ur listed aV i G)
 intro cX;induction cX with
 | zero=>
  intro listed a w aV h;exact⟨asp listed aV h.1,h.2⟩
 | succ cX aR=>
  intro listed a w aV h;refine⟨λD=>h.1 (aso listed D),λi G=>?_⟩;have aj:=h.2 i (ur listed aV i G);have next:∀ a w,wpAnyIn F 0 P .any (nM ops.toList).toArray Q cX (listed.setIfInBounds i true) a w->wpAnyIn F 0 P .any ops Q cX (listed.setIfInBounds i true) a w:=λa w=>aR _ a w (getD_set_true aV)
  have aj:=wpOpIn_mono next aj
  unfold wpOpIn at aj ⊢;rw[mem_ready]at G;obtain⟨_,o,au,_⟩:=G;rw[au];rw[DS au,asm]at aj;by_cases sY:i=0
  ·rw[if_pos sY]at aj;exact aj
  ·rw[if_neg sY]at aj;exact aj
theorem asq{id:Nat}(fi:C.P.follows .mixedOrders=true)(asr:C.r=none)(aC:Ru ops=true)(aU:ei C.P T)(dq:lP C.P bs)(dK:pH C.P C.aW Psi)(ay:∀ o∈ops.toList,m' o C.b3=true){k:aE->L bet}{O:bet->Prop}
  (aj:∀ s' a' w',de C s' a' w'->c8 (k s') O->Q .normal a' w') {a:Act} {w:World} (D:de C s a w) (hm:c8 (DF C.aW T bs Psi (nM ops.toList).toArray s k) O):(Code.region id ops true).wpIn (e0 C.r) 0 C.P Q a w:=by
 refine wpIn_mono (Q:=λe a w=>e=.normal/\Q e a w) (wpIn_region_any fi ?_) λe a w h=>h.2;have kZ:=abE (Q:=λe a w=>e=.normal/\Q e a w) (ops:=(nM ops.toList).toArray) aU dq dK (λo au=>?_) (λs' a' w' E M=>⟨rfl,aj s' a' w' E M⟩) D hm
 ·rw[SE]at kZ;have r8:(e0 C.r).round=none:=by rw[asr];rfl
  unfold Ru at aC;split at aC
  ·cases aC
  ·rename_i o l ai;simp only[amX,aQL,aQH]at aC;obtain⟨E,M,al,a7,bR⟩:=aC;have aV:ops[0]?=some o:=by rw[<-aQP,ai];rfl
   obtain⟨m,hm⟩:∃ m,ops.size=m+1:=⟨l.length,by rw[<-aQK,ai];rfl⟩
   rw[hm]at kZ ⊢;have aB:o.guard=none:=by simpa using M
   have fx:∀ (ops:Array Oper),ops[0]?=some o->0∈Region.ready .any ops (Array.replicate (m+1) false):=λops h=>by
    rw[mem_ready];refine⟨by simp,o,h,λe he=>?_⟩;rw[Array.isEmpty_iff.1 al]at he;simp at he
   have sV:∃ x,o.op=.move x:=by
    revert E;cases o.op<;>simp
   obtain⟨x,an⟩:=sV;have bf:YieldsFenced C.P ops o (a.eval x) a:=⟨.inl ⟨by unfold Region.wanted;rw[aB],λw=>by simp[execOp,an]⟩,λw=>by unfold Oper.about;rw[an]⟩
   have hA:=kZ.2 0 (fx _ (by rw[DS aV];rfl));unfold wpOpIn at hA;rw[DS aV]at hA;simp only[if_true]at hA;rw[show Region.wanted o (yielded (nM ops.toList).toArray a.tmps)=true by unfold Region.wanted;rw[aB],if_pos rfl]at hA;have hA:wpAnyIn (e0 C.r) 0 C.P .any (nM ops.toList).toArray (λe a w=>e=.normal/\Q e a w) m ((Array.replicate (m+1) false).setIfInBounds 0 true) (a.put o.dst (a.eval x)) w.drew:=by
    have:=hA.2;rw[r8,Oper.semAt_none]at this;simpa [execOp,an,Oper.uponIn]using this
   refine wpAnyIn_first r8 aV (Region.noSelect_spec a7) (λc a w h=>by cases h.1) m _ a _ (λj vU abF ass _ he=>?_) (fx _ aV) bf (asn m _ _ _ (by simp) hA);have pB:vU∈l:=by
    rw[<-aQP,ai]at abF;cases j with
    | zero=>exact absurd rfl ass
    | succ j=>exact aRD abF
   rcases bR vU pB with h | h
   ·exfalso;have h:0∈lR vU:=by simpa using h
    obtain⟨e,ast,AW⟩:=List.mem_filterMap.1 h;split at AW
    ·rename_i U;exact he e (by simpa using ast) U (by simpa using AW)
    ·cases AW
   ·exact h
 ·have au:o∈(nM ops.toList):=by simpa using au
  obtain⟨ol⟩:=ops;cases ol with
  | nil=>cases au
  | cons x l=>
   rcases List.mem_cons.1 au with rfl | au
   ·exact ay _ (by simp)
   ·obtain⟨p,ak,rfl⟩:=List.mem_map.1 au;have:=ay p (by simp[ak]);exact this
end
end Go.Fer
namespace Go.Fer
open Go.RowKit
variable {bet:Type}
theorem il{O:bet->Prop}(h:c8 (eb:L bet) O):False:=h.1
variable {s:aE}
theorem xA{sh:eD}{k:sh.aq->L bet}{O:bet->Prop}(h:c8 (sh.pE s k) O):∃ A,sh.k0 s=some A/\c8 (k A) O:=by
 grind [eD.pE,il]
def uP(B:Nat):Deferred:={ target:=.collected B,args:=#[] }
structure qx where
 w:World
 K:Nat->Prop
 ms:List Nat
def cJ.i_(C:cJ)(u:qx):cJ:={ C with et:=u.w,K0:=u.K,dm:=u.ms.map uP++C.dm }
structure cJ.lT(C:cJ)(u:qx):Prop where
 vZ:∀ B∈u.ms,u.K B/\u.w.heap[B]?=some (.deferred (some []))
 fo:∀ B∈u.ms,¬C.K0 B/\C.et.heap.size<=B
 kt:u.ms.Nodup
 iG:∀ r,C.K0 r->u.K r
 e6:∀ r,C.K0 r->u.w.heap[r]?=C.et.heap[r]?
 size:C.et.heap.size<=u.w.heap.size
 eN:dN C.et u.w
def cJ.iD(C:cJ):qx:=⟨C.et,C.K0,[]⟩
theorem cJ.y0(C:cJ):C.lT C.iD:=⟨λ_ h=>by grind [cJ.iD],λ_ h=>by grind [cJ.iD],List.nodup_nil,λ_ h=>h,λ_ _=>rfl,amY _,dN.refl _⟩
def qx.then(u v:qx):qx:=⟨v.w,v.K,v.ms++u.ms⟩
theorem cJ.DT(C:cJ)(u v:qx):(C.i_ u).i_ v=C.i_ (u.then v):=by
 simp[cJ.i_,qx.then]
theorem cJ.lT.then{C:cJ}{u v:qx}(h:C.lT u)(k:(C.i_ u).lT v):C.lT (u.then v) where
 vZ:=λB a6=>by
  rcases List.mem_append.1 a6 with a6 | a6
  ·exact k.vZ B a6
  ·obtain⟨E,M⟩:=h.vZ B a6;exact⟨k.iG B E,(k.e6 B E).trans M⟩
 fo:=λB a6=>by
  rcases List.mem_append.1 a6 with a6 | a6
  ·obtain⟨E,M⟩:=k.fo B a6;exact⟨λal=>E (h.iG B al),am5 h.size M⟩
  ·exact h.fo B a6
 kt:=List.nodup_append.2 ⟨k.kt,h.kt,λa aZ b U e=>(k.fo a aZ).1 (e ▸ (h.vZ b U).1)⟩
 iG:=λr D=>k.iG r (h.iG r D)
 e6:=λr D=>(k.e6 r (h.iG r D)).trans (h.e6 r D)
 size:=am5 h.size k.size
 eN:=h.eN.trans k.eN
theorem Bw{sh:eD}(h:sh.bH.any (λp=>p.2.l_)=false)(A:sh.aq)(r:Nat):¬lk (sh.ae A).ab r:=λ⟨e,m,xs,E,_⟩=>by
 rcases Bk dB sh.bH (eV dB sh.b5 A).2 cG with⟨k,_⟩ | ⟨q,aO,aT,R,z,b7⟩
 ·have k:(sh.ae A).ab cG=_:=k;grind
 ·have b7:(sh.ae A).ab cG=_:=b7;rw[b7]at E;have DL:q.2.l_=true:=by
   obtain⟨c6,cM⟩:=q;cases cM<;>first | rfl | cases E
  grind
variable {a:Act}{w:World}{kap:Nat->bL}{F:Nat->Prop}{et:World}{w':World}{K0:Nat->Prop}{r:Option Nat}
theorem bx.abG{C:cJ}{F':Nat->Prop}(h:bx C s a w kap F){jE:Nat->Prop}{b3:Nat}{dm:List Deferred}{sl:Nat->aN}{a':Act}
    (SF:a'.tmps.size=b3) (SG:a'.defers=dm) (r9:b3<=fD) (fH:∀ i,bM C.P s.ab kap F w (sl i) (a'.tmps.getD i undef)) (ij:∀ l aK ad n ae,sl cd≠.aS l aK ad n ae)
    (heq:∀ r,F r\/(∃ b,(s.ab b).body.cg (kap b)=true/\(kap b).ab=r)->w'.heap[r]?=w.heap[r]?) (cQ:w.heap.size<=w'.heap.size)
    (bq:∀ r,F r->F' r) (mC:∀ r,F' r->r<w'.heap.size) (HJ:∀ b,(s.ab b).body.cg (kap b)=true->¬F' (kap b).ab)
    (SH:∀ r,F' r->jE r\/¬K0 r) (SI:∀ r,jE r->F' r) (HK:∀ r,K0 r->r<et.heap.size) (xB:∀ r,K0 r->w'.heap[r]?=et.heap[r]?) (eJ:∀ b,(s.ab b).body.cg (kap b)=true->¬K0 (kap b).ab)
    (qy:et.heap.size<=w'.heap.size) (hc:dN et w') (qu:∀ r,¬lk s.ab r) :
    bx { C with et:=et,jE:=jE,K0:=K0,b3:=b3,dm:=dm,r:=r } ⟨sl,s.ab⟩ a' w' kap F':=by
  have he:dk F w w':=⟨cQ,λr D=>heq r (.inl D)⟩
  exact {
          dY:=SF,dm:=SG,b5:=λi=>bM.later (fN.refl _ _) bq he (fH i)
          bH:=λb=>c1.lj (h.bH b) (fN.refl _ _) bq he rfl rfl λau=>heq _ (.inr ⟨b,au,rfl⟩)
          own:=λb U=>⟨aQt (h.own b U).1 cQ,HJ b U,eJ b U⟩,inj:=h.inj,du:=mC
          hT:=SH,iy:=SI,iz:=HK,e6:=xB,size:=qy,eN:=hc,hJ:=r9,ll:=h.ll,iY:=h.iY,ln:=h.ln,jF:=h.jF,e8:=λl aK ad n ae e=>(ij l aK ad n ae e).elim,bU:=λe m hm=>⟨(h.bU e m hm).1,λid xs an=>(qu id ⟨e,m,xs,hm,an⟩).elim⟩,j7:=h.j7,h4:=h.h4.mono bq he }
theorem bx.y1{C:cJ}(h:bx C s a w kap F){jE:Nat->Prop}{b3:Nat}{dm:List Deferred}{sl:Nat->aN}{a':Act}
  (SF:a'.tmps.size=b3) (SG:a'.defers=dm) (r9:b3<=fD) (fH:∀ i,bM C.P s.ab kap F w (sl i) (a'.tmps.getD i undef)) (ij:∀ l aK ad n ae,sl cd≠.aS l aK ad n ae)
  (heq:∀ r,F r\/(∃ b,(s.ab b).body.cg (kap b)=true/\(kap b).ab=r)->w'.heap[r]?=w.heap[r]?) (cQ:w.heap.size<=w'.heap.size)
  (SH:∀ r,F r->jE r\/¬K0 r) (SI:∀ r,jE r->F r) (HK:∀ r,K0 r->r<et.heap.size) (xB:∀ r,K0 r->w'.heap[r]?=et.heap[r]?) (eJ:∀ b,(s.ab b).body.cg (kap b)=true->¬K0 (kap b).ab)
  (qy:et.heap.size<=w'.heap.size) (hc:dN et w') (qu:∀ r,¬lk s.ab r) :
  bx { C with et:=et,jE:=jE,K0:=K0,b3:=b3,dm:=dm,r:=r } ⟨sl,s.ab⟩ a' w' kap F:=
 h.abG SF SG r9 fH ij heq cQ (λ_ h=>h) (λr D=>aQt (h.du r D) cQ) (λb U=>(h.own b U).2.1) SH SI HK xB eJ qy hc qu
theorem bx.Me{C:cJ}(h:bx C s a w kap F)
    (kL:∀ r,K0 r->C.K0 r) (heq:∀ r,F r\/¬C.K0 r->w'.heap[r]?=w.heap[r]?) (cQ:w.heap.size<=w'.heap.size) (Bx:dN w w')
    (HK:∀ r,K0 r->r<et.heap.size) (xB:∀ r,K0 r->w'.heap[r]?=et.heap[r]?) (qy:et.heap.size<=w'.heap.size) (hc:dN et w') :
    bx { C with et:=et,K0:=K0,r:=r } s a w' kap F:=by
  have he:dk F w w':=⟨cQ,λr D=>heq r (.inl D)⟩
  have mC:=λr D=>aQt (h.du r D) cQ;exact {
          dY:=h.dY,dm:=h.dm,b5:=λi=>bM.later (fN.refl _ _) (λ_ h=>h) he (h.b5 i)
          bH:=λb=>c1.lj (h.bH b) (fN.refl _ _) (λ_ h=>h) he rfl rfl λau=>heq _ (.inr (h.own b au).2.2)
          own:=λb U=>⟨aQt (h.own b U).1 cQ,(h.own b U).2.1,λk=>(h.own b U).2.2 (kL _ k)⟩,inj:=h.inj,du:=mC
          hT:=λr D=>(h.hT r D).imp id λk k'=>k (kL r k'),iy:=h.iy,iz:=HK,e6:=xB,size:=qy,eN:=hc,hJ:=h.hJ,ll:=h.ll,iY:=h.iY,ln:=h.ln,jF:=h.jF
          e8:=λl aK ad n ae e=>by
            obtain⟨E,M,Y,al,a7,bR⟩:=h.e8 l aK ad n ae e;exact⟨E,M,Y,λr D=>⟨aQt (al r D).1 cQ,(al r D).2.1,λk=>(al r D).2.2 (kL r k)⟩,a7,M.Kj bR (λ_ h=>h) (λr D=>heq r (D.imp id λbf=>(al r bf).2.2)) cQ Bx mC λr aC bf=>(al r bf).2.1 aC⟩
          bU:=λe m hm=>⟨(h.bU e m hm).1,λid xs an=>by
            obtain⟨mT,c6,cM,hU,lK,cv⟩:=(h.bU e m hm).2 id xs an;exact⟨mT,aQt c6 cQ,cM,λk=>hU (kL _ k),lK,cv.mono (λ_ h=>h) he (heq id (.inr hU))⟩⟩
          j7:=h.j7,h4:=h.h4.mono (λ_ h=>h) he }
theorem abH{P:Program}{H:Nat->b_}{kap:Nat->bL}{F:Nat->Prop}{w:World}{aK:aa}{x:aK.aq}:∀ (bw:List Tmp) (args:List Value) (j:Nat) (f:Nat->aN) (rq:Array Value),bw.length=args.length->(∀ p∈bw,p<rq.size)->
  (∀ i,bM P H kap F w (f i) (rq.getD i undef))->(∀ i,i<args.length->bM P H kap F w (kh aK x (j+i)) (args.getD i undef))->
  ∀ i,bM P H kap F w (G7 aK x bw j f i) (((bw.zip args).foldl (λtmps p=>tmps.setIfInBounds p.1 p.2) rq).getD i undef)
 | [],[],_,_,_,_,_,aC,_,i=>aC i
 | p::bw,v::args,j,f,rq,ai,ak,aC,ag,i=>by
  refine abH bw args (j+1) _ _ (by grind) (λq bC=>by grind) (λi=>?_) (λi G=>?_) i
  ·rw[aQu,Array.getElem?_setIfInBounds];by_cases e:i=p
   ·grind
   simp_all[Ne.symm]
  ·have:=ag (i+1) (by grind);grind
theorem asu{bw:List Tmp}{args:List Value}:∀ {rq:Array Value},((bw.zip args).foldl (λtmps p=>tmps.setIfInBounds p.1 p.2) rq).size=rq.size:=by
 generalize bw.zip args=l;induction l<;>grind
def v7:dU->Option Code
 | .normal=>none
 | .exit id=>some (.exit id)
 | .ret=>some .ret
def hN(fn:FuncId)(rq:Array Value)(bw:Array Tmp)(assign body:Code)(B:Nat)(ae:LoopState)(e:dU):Loop:=
 { state:=ae,pending:=v7 e,fn:=fn,tmps:=rq,params:=bw,assign:=assign,body:=body,defers:=B }
variable {ee:eD}
def Mf(P:Program)(aW:dX)(b3:Nat)(assign body:Code)(l:Nat)(run:aE->L (dU×ee.aq)):Prop:=
 ∀ (C1:cJ),C1.P=P->C1.aW=aW->C1.b3=b3->C1.r=some l->∀ (s1:aE) (cH:Act) (ch:World) (tb:dU×ee.aq->Prop),de C1 s1 cH ch->c8 (run s1) tb->
  assign.wpIn (e0 (some l)) 0 P (Exit.then (λb1 dP=>∃ u s2,C1.lT u/\de (C1.i_ u) s2 b1 dP/\
   ∀ (js:cJ),js.P=P->js.aW=aW->js.b3=b3->js.r=some l->∀ (dP:World),de js s2 b1 dP->
    body.wpIn (e0 (some l)) 0 P (λe ek hM=>∃ (a1:dU) (v:qx) (fh:aE) (bn:ee.aq),e=a1.r4/\js.lT v/\de (js.i_ v) fh ek hM/\ee.k0 fh=some bn/\tb (a1,bn)) b1 dP) (λ_ _ _=>False)) cH ch
theorem asv{ts:List (Nat×cf)}{R:Type}(h:ts.isEmpty=true)(g:Nat->z21')(z:rk ts R)(i:Nat):fw (eV g ts z).1 i=.undef:=by
 cases ts with
 | nil=>rfl
 | cons p ts=>grind
variable {l:Nat}
theorem asw{P:Program}{R:Ending->World->Prop}{e:dU}{r:Loop}(h:w.heap[l]?=some (.loop r))
  (fp:R (.returned (.bool (v7 e).isNone)) (w.putObj l (.loop { r with state:=if (v7 e).isNone then .ready else .done,pending:=v7 e }))):roundPost P l R e.r4 a w:=by
 cases e with
 | normal=>exact⟨_,_,run_endRound none h,fp⟩
 | exit id=>exact⟨_,_,run_endRound (some (.exit id)) h,fp⟩
 | ret=>exact⟨_,_,run_endRound (some .ret) h,fp⟩
variable {bw:Array Tmp}{aK:aa}{assign:Code}
theorem asx{CI:cJ}{sh rin:eD}{body:Code}{W:World}{A:sh.aq}{fn:FuncId}{B:Nat}{x:aK.aq}{args:List Value}{run:aE->L (dU×ee.aq)}
  {Or:dU×sh.aq->Prop} {Y Z:Nat->Prop} (asy:Z l)
  (D:bx CI (sh.ae A) a W kap F) (fg:nO sh ee aK bw.toList a.tmps.size=true) (HL:Mf CI.P CI.aW a.tmps.size assign body l run) (hm:c8 (xr sh rin ee aK bw.toList A x run) Or)
  (ai:W.heap[l]?=some (.loop (hN fn a.tmps bw assign body B .ready .normal))) (asz:¬F l) (bS:∀ b,((sh.ae A).ab b).body.cg (kap b)=true->Y (kap b).ab/\¬Z (kap b).ab) (fv:gB CI.P aK F W args x) :
  ∃ tmps,(Instr.yield l args.toArray).run CI.P W=.ok (.round l fn tmps assign body) W/\RoundIn Fence.wide 0 CI.P l fn tmps assign body W λe tc=>
   ∃ (bQ:dU) (kK:sh.aq) (bV:Nat->bL) (F':Nat->Prop) (o:Obj),e=.returned (.bool (v7 bQ).isNone)/\Or (bQ,kK)/\tc.heap[l]?=some (.loop (hN fn a.tmps bw assign body B (if (v7 bQ).isNone then .ready else .done) bQ))/\
    bx { CI with et:=W.putObj l o,jE:=F,K0:=λr=>r<W.heap.size/\(Z r\/¬Y r) } (sh.ae kK) a tc bV F':=by
 simp only[nO,amX,am0,aQA]at fg;obtain⟨⟨⟨⟨⟨aO,uJ,By⟩,aT⟩,b7⟩,gZ⟩,rh⟩:=fg;have Mg:=(Array.getElem?_eq_some_iff.1 ai).1;obtain⟨kg,DU⟩:=vD (H:=(sh.ae A).ab) (kap:=kap) aK fv b7;have ij:(sh.ae A).aD cd=.undef:=yS sh.b5 dB A cd aT;have KI:(Array.zip bw args.toArray).foldl (λtmps x=>match x with | (t,a)=>tmps.setIfInBounds t a) a.tmps=(bw.toList.zip args).foldl (λtmps p=>tmps.setIfInBounds p.1 p.2) a.tmps:=by
  rw[<-Array.foldl_toList];simp
 refine⟨(bw.toList.zip args).foldl (λtmps p=>tmps.setIfInBounds p.1 p.2) a.tmps,?_,?_⟩
 ·rw[<-KI];exact run_yield ai (by show args.toArray.size=bw.size;grind)
 have HG:bx { CI with et:=W,jE:=F,K0:=λr=>r<W.heap.size/\(Z r\/¬Y r) } (sh.ae A) a W kap F:=
  D.y1 D.dY D.dm D.hJ D.b5 (λl aK ad n ae e=>by have e:(sh.ae A).aD cd=.aS l aK ad n ae:=e;grind) (λ_ _=>rfl) (amY _) (λ_ h=>.inl h) (λ_ h=>h) (λ_ h=>h.1) (λ_ _=>rfl)
   (λb U h=>h.2.elim (bS b U).2 λh=>h (bS b U).1) (amY _) (dN.refl _) (Bw By A)
 unfold xr at hm;split at hm
 ·rename_i rho b' asA;split at hm
  ·rename_i b8;rw[fS]at hm;have gv:bx { CI with et:=W,jE:=F,K0:=λr=>r<W.heap.size/\(Z r\/¬Y r),b3:=a.tmps.size,dm:=[],r:=none } ⟨(Bd (sh.ae A) aK x bw.toList).aD,(sh.ae A).ab⟩ { tmps:=(bw.toList.zip args).foldl (λtmps p=>tmps.setIfInBounds p.1 p.2) a.tmps,defers:=[] } W kap F:=by
    refine D.y1 asu rfl (by rw[D.dY];exact D.hJ) (λi=>?_) (λev nb gj kD lx e=>?_) (λ_ _=>rfl) (amY _) (λ_ h=>.inl h) (λ_ h=>h) (λ_ h=>h.1) (λ_ _=>rfl)
     (λb U h=>h.2.elim (bS b U).2 λh=>h (bS b U).1) (amY _) (dN.refl _) (Bw By A)
    ·show bM CI.P (sh.ae A).ab kap F W (if i=cd then (sh.ae A).aD cd else G7 aK x bw.toList 0 (sh.ae A).aD i) _;split
     ·rw[ij];trivial
     ·exact abH bw.toList args 0 _ _ (by omega) (λp ak=>by grind) D.b5 (λi G=>by grind) i
    ·have e:(if cd=cd then (sh.ae A).aD cd else G7 aK x bw.toList 0 (sh.ae A).aD cd)=.aS ev nb gj kD lx:=e;grind
   obtain⟨F',own,jk,kf,f1,bm,eJ,DV,aaP,Hj,R9⟩:=aaR   HG gv (by rfl) asA rfl b8;have Mh:l<W.heap.size/\(Z l\/¬Y l):=⟨Mg,.inl asy⟩
   have abI:=λh=>(bm.hT l h).elim asz λh=>h Mh;have asB:¬own l:=λh=>by
    rcases eJ l h with⟨b,E,M⟩ | ak
    ·exact (bm.own b E).2.2 (M ▸ Mh)
    ·exact (bm.bU.n_ ak).2.2.2.1 Mh
   have asC:=λh=>(DV.low l h).2.2 Mh;have abJ:l<W.heap.size/\¬own l/\¬jk l:=⟨Mg,asB,asC⟩
   have Mi:=Hj.Me       (r:=some l) (λ_ h=>h) (λ_ _=>rfl) (amY _) (dN.refl _) (λ_ h=>h.1) (λ_ _=>rfl) (amY _) (dN.refl _);refine roundIn_of_wpIn trivial ?_;refine wpIn_mono (HL { vS CI W F' a.tmps.size own jk kf with r:=some l } rfl rfl rfl rfl (rin.ae rho) _ W _ ⟨_,_,Mi⟩ hm) λe b1 dP bC=>?_;cases e with
   | normal=>
    obtain⟨u,s2,hu,⟨pG,fX,cY⟩,cm⟩:=bC;have v8:=hu.iG l abJ;have hx:=(cY.e6 l v8).trans ((hu.e6 l abJ).trans ai);refine⟨_,run_beginRound hx rfl,?_⟩;have asD:=(Array.getElem?_eq_some_iff.1 hx).1;have asE:=λh=>(cY.hT l h).elim abI λh=>h v8;have td:=cY.Me   (w':=dP.putObj l (.loop (hN fn a.tmps bw assign body B .busy .normal)))   (r:=some l) (λ_ h=>h)
     (λr h=>World.putObj_heap_other λe=>by
      subst e;exact h.elim asE λh=>h v8) (by simp) ⟨rfl,rfl,rfl⟩ (λr h=>by
       have:=cY.iz r h;have:=cY.size;simp;omega) (λ_ _=>rfl) (amY _) (dN.refl _)
    refine wpIn_mono (cm { ({ vS CI W F' a.tmps.size own jk kf with r:=some l }).i_ u with et:=dP.putObj l (.loop (hN fn a.tmps bw assign body B .busy .normal)),K0:=u.K,r:=some l } rfl rfl rfl rfl _ ⟨pG,fX,td⟩) λe ek hM ⟨a1,v,fh,bn,he,ag,⟨Mj,abK,pJ⟩,gN,y2⟩=>?_;subst he;obtain⟨Mj,asF,f4,ru⟩:=eD.DH gN pJ;have AI:=ag.iG l v8;have abL:=(ru.e6 l AI).trans ((ag.e6 l v8).trans (World.putObj_heap_same asD));have aM4:=(Array.getElem?_eq_some_iff.1 abL).1;have aM5:=λh=>(ru.hT l h).elim abI λh=>h AI;generalize hA:(if (v7 a1).isNone then LoopState.ready else .done)=lx;refine asw abL ?_;rw[hA];have oo:bx { CI with et:=W.putObj l (.loop (hN fn a.tmps bw assign body B lx a1)),jE:=F,K0:=λr=>r<W.heap.size/\(Z r\/¬Y r) } ((sh.ae A).cE b') a (W.putObj l (.loop (hN fn a.tmps bw assign body B lx a1))) kap F':=
     bm.Me (λ_ h=>h) (λr h=>World.putObj_heap_other λe=>by
      grind) (by simp) ⟨rfl,rfl,rfl⟩ (λr h=>by simp_all) (λ_ _=>rfl) (amY _) (dN.refl _)
    have DK:W.heap.size<=hM.heap.size:=by
     have E:=hu.size;have M:=cY.size;have al:=ag.size;have a7:=ru.size;have E:W.heap.size<=u.w.heap.size:=E;have M:u.w.heap.size<=dP.heap.size:=M;have a7:v.w.heap.size<=hM.heap.size:=a7;simp  at al;omega
    have rj:=by
     have E:=hu.eN;have M:=cY.eN;have al:dN dP v.w:=⟨ag.eN.os,ag.eN.tape,ag.eN.output⟩
     exact E.trans (M.trans (al.trans ru.eN))
    have asG:∀ i,(ee.ae bn).aD i=.undef:=λi=>asv aO dB bn i;have pI:∀ r,(r<(W.putObj l (.loop (hN fn a.tmps bw assign body B lx a1))).heap.size/\¬own r/\¬jk r)->(r<W.heap.size/\¬own r/\¬jk r):=λr h=>⟨by simp_all,h.2⟩
    have iZ:=ru.y1   (w':=hM.putObj l (.loop (hN fn a.tmps bw assign body B lx a1)))   (K0:=λr=>r<(W.putObj l (.loop (hN fn a.tmps bw assign body B lx a1))).heap.size/\¬own r/\¬jk r)     (r:=none) (sl:=(ee.ae bn).aD) (a':={ tmps:=#[],defers:=[] }) rfl rfl (aQF _)
     (λi=>by rw[asG];trivial) (λl aK ad n ae e=>by grind)
     (λr h=>World.putObj_heap_other λe=>by
      subst e;rcases h with h | ⟨b,E,M⟩
      ·grind
      ·exact (ru.own b E).2.2 (M ▸ AI)) (by simp) (λr h=>(ru.hT r h).imp id λh e3=>h (ag.iG r (hu.iG r (pI r e3)))) ru.iy (λr h=>h.1)
     (λr h=>by
      by_cases e:r=l
      ·grind [World.putObj_heap_same]
      ·rw[World.putObj_heap_other e,World.putObj_heap_other e];have E:=hu.iG r (pI r h);exact (ru.e6 r (ag.iG r E)).trans ((ag.e6 r E).trans ((World.putObj_heap_other e).trans ((cY.e6 r E).trans (hu.e6 r (pI r h))))))
     (λb U h=>(ru.own b U).2.2 (ag.iG _ (hu.iG _ (pI _ h)))) (by simp_all) ⟨rj.os,rj.tape,rj.output⟩ (Bw uJ bn)
    obtain⟨kapn,qt,_⟩:=R9 (W.putObj l (.loop (hN fn a.tmps bw assign body B lx a1))) (W.putObj l (.loop (hN fn a.tmps bw assign body B lx a1))) oo ⟨λev nb gj kD lx e=>(by
      grind),λr h=>⟨by simpa using (DV.low r h).1,(DV.low r h).2⟩,DV.own,DV.LR,DV.bU⟩ bn [] (hM.putObj l (.loop (hN fn a.tmps bw assign body B lx a1))) Mj asF iZ
    obtain⟨kK,abM,aM6⟩:=xA y2;obtain⟨kapn,aM7,_,aM8⟩:=eD.DH abM qt;grind [hN,dR,World.putObj_heap_same]
   | _=>exact bC.elim
  ·exact hm.1.elim
 ·exact hm.1.elim
theorem abN{o gg:Obj}{r:Nat}(h:r<w.heap.size):((w.alloc o).alloc gg).heap[r]?=w.heap[r]?:=
 (rT _ _ (by simp;omega)).trans (rT _ _ h)
def asH(C CI:cJ)(sh rin ee:eD)(aK:aa)(ct:List aK.aq->Prop)(bw:Array Tmp)(assign body:Code)(a:Act)(fn:FuncId)(l B:Nat)(run:aE->L (dU×ee.aq))(k:dU->aE->L bet)(O:bet->Prop)
  (ae:Bool) (F Y:Nat->Prop) (W:World):Prop:=
 ∃ (e:dU) (A:sh.aq) (kap:Nat->bL),bx CI (sh.ae A) a W kap F/\W.heap[l]?=some (.loop (hN fn a.tmps bw assign body B (if ae then .done else .ready) e))/\W.heap[B]?=some (.deferred (some []))/\
  (∀ b,((sh.ae A).ab b).body.cg (kap b)=true->Y (kap b).ab/\¬((kap b).ab=l\/(kap b).ab=B))/\Y l/\Y B/\¬F l/\¬F B/\C.P=CI.P/\
  (ae=false->e=.normal/\∀ R,ct R->c8 (kr (λA y=>xr sh rin ee aK bw.toList A y run) R A) λp=>c8 (k p.1 (sh.ae p.2)) O)/\(ae=true->e≠.normal/\c8 (k e (sh.ae A)) O)
theorem abO{C CI:cJ}{sh rin:eD}{S:List aK.aq->Prop}{body:Code}{fn:FuncId}{B:Nat}{run:aE->L (dU×ee.aq)}{k:dU->aE->L bet}{O:bet->Prop}
  (kL:CI.K0=λ_=>False) (asI:l≠B) (fg:nO sh ee aK bw.toList a.tmps.size=true) (HL:Mf CI.P CI.aW a.tmps.size assign body l run) :
  Kd CI.P (gB CI.P aK) l S λpre=>asH C CI sh rin ee aK (λR=>S (pre++R)) bw assign body a fn l B run k O where
 F2:=λ{pre ae F F' Y w w'} h bq heq cQ kG mC HJ=>by
  have hc:dN w w':=⟨kG.1,kG.2.1,kG.2.2⟩
  obtain⟨e,A,kap,D,E,M,al,a7,bR,er,jj,ld,Ac⟩:=h;have ij:=by
   simp only[nO,amX,aQA]at fg;exact yS sh.b5 dB A cd fg.1.1.1.2
  have qu:∀ (A:sh.aq) r,¬lk (sh.ae A).ab r:=λA=>by
   grind [nO,Bw]
  have xC:∀ r,CI.K0 r->False:=λr h=>by grind
  refine⟨e,A,kap,?_,(heq l (.inr a7)).trans E,(heq B (.inr bR)).trans M,al,a7,bR,λh=>HJ l h a7,λh=>HJ B h bR,ld,Ac⟩;exact D.abG D.dY D.dm D.hJ D.b5 (λev nb gj kD lx e=>by grind)
   (λr bm=>heq r (bm.imp id λ⟨b,U,e⟩=>e ▸ (al b U).1)) cQ bq mC (λb U aC=>HJ _ aC (al b U).1) (λr _=>.inr (xC r)) (λr h=>bq r (D.iy r h)) (λr h=>(xC r h).elim) (λr h=>(xC r h).elim) (λb _=>xC _)
   (am5 D.size cQ) (D.eN.trans hc) (qu A)
 yield:=λ{pre F Y w args x} h mC abP an fv=>by
  obtain⟨SJ,SK⟩:=an;obtain⟨e,A,kap,D,E,M,al,a7,bR,er,jj,ld,Ac,_⟩:=h;obtain⟨rfl,hm⟩:=Ac rfl;have qu:∀ (A:sh.aq) r,¬lk (sh.ae A).ab r:=λA=>by
   grind [nO,Bw]
  have ij:∀ A,(sh.ae A).aD cd=.undef:=λA=>by
   simp only[nO,amX,aQA]at fg;exact yS sh.b5 dB A cd fg.1.1.1.2
  have xC:∀ r,CI.K0 r->False:=λr h=>by grind
  have hm:c8 (xr sh rin ee aK bw.toList A x run) λp=>∀ T,S (pre++x::T)->c8 (match p.1 with
    | .normal=>kr (λA y=>xr sh rin ee aK bw.toList A y run) T p.2
    | .exit id=>mpure (.exit id,p.2)
    | .ret=>mpure (.ret,p.2)) λp=>c8 (k p.1 (sh.ae p.2)) O:=by
   have E:=λT aU=>fS.1 (hm (x::T) aU);exact⟨(E SJ SK).1,λy bf T aU=>(E T aU).2 y bf⟩
  obtain⟨tmps,bf,asJ⟩:=asx (Z:=λr=>r=l\/r=B) (.inl rfl) D fg HL hm E er al fv;refine⟨fn,tmps,assign,body,bf,asJ.mono λa1 tc ⟨bQ,kK,bV,F',o,he,y2,r_,bm⟩=>?_⟩;have Mg:=(abP l a7).1;have abQ:=(abP B bR).1;have dT:=bm.iy;have eo:∀ r,F' r->F r\/Y r\/w.heap.size<=r:=λr cY=>by
   rcases bm.hT r cY with h | h<;>grind
  have abR:=λr dx aC bz vV=>(bm.hT r vV).elim aC λh=>h ⟨dx,.inl bz⟩;have asK:=abR l Mg er (.inl rfl);have Bt:=abR B abQ jj (.inr rfl);have abS:∀ b,((sh.ae kK).ab b).body.cg (bV b)=true->¬((bV b).ab=l\/(bV b).ab=B)/\(Y (bV b).ab\/w.heap.size<=(bV b).ab):=λb U=>by
   have aj:=(bm.own b U).2.2;grind
  have abT:w.heap.size<=tc.heap.size:=by have:=bm.size;simp_all
  have gc:dN w tc:=⟨bm.eN.os,bm.eN.tape,bm.eN.output⟩
  refine⟨(v7 bQ).isNone,F',λr=>(∃ b,((sh.ae kK).ab b).body.cg (bV b)=true/\(bV b).ab=r)\/r=l\/r=B,he,dT,eo,bm.du,λr dx bf=>?_,λr cY=>?_,abT,⟨gc.os,gc.tape,gc.output⟩,?_⟩
  ·have eM:r≠l:=λe=>bf (e ▸ a7);exact (bm.e6 r ⟨dx,.inr bf⟩).trans (World.putObj_heap_other eM)
  ·rcases cY with⟨b,U,rfl⟩ | rfl | rfl
   ·exact⟨(abS b U).2,(bm.own b U).1,(bm.own b U).2.1⟩
   ·grind
   grind
  ·refine⟨bQ,kK,bV,?_,?_,?_,λb U=>⟨.inl ⟨b,U,rfl⟩,(abS b U).1⟩,.inr (.inl rfl),.inr (.inr rfl),asK,Bt,ld,λhA=>?_,λhA=>?_⟩
   ·exact bm.y1 bm.dY bm.dm bm.hJ bm.b5 (λev nb gj kD lx e=>by have e:(sh.ae kK).aD cd=.aS ev nb gj kD lx:=e;grind) (λ_ _=>rfl) (amY _) (λr _=>.inr (xC r)) (λr h=>dT r (D.iy r h))
     (λr h=>(xC r h).elim) (λr h=>(xC r h).elim) (λb _=>xC _) (am5 D.size abT) (D.eN.trans gc) (qu kK)
   ·grind
   ·exact (bm.e6 B ⟨abQ,.inl (.inr rfl)⟩).trans ((World.putObj_heap_other (Ne.symm asI)).trans M)
   ·cases bQ with
    | normal=>grind
    | _=>cases hA
   ·cases bQ with
    | normal=>cases hA
    | exit id=>exact⟨by simp,(y2 SJ SK).2 _ rfl⟩
    | ret=>exact⟨by simp,(y2 SJ SK).2 _ rfl⟩
theorem abU{P:Program}{S:List aK.aq->Prop}{I:List aK.aq->Bool->(Nat->Prop)->(Nat->Prop)->World->Prop}(h:Kd P (gB P aK) l S I):n9.j5 P ⟨l,aK,S,I⟩ where
 F2:=λE M al a7 bR er jj=>h.F2 E M al a7 ⟨bR.os,bR.tape,bR.output⟩ er jj
 yield:=λE M al a7 bR=>YieldAt.mono (h.yield E M al a7 bR) λ_ _ ⟨b,F',jk,aO,aT,b7,gZ,rh,uJ,By,HM,SL⟩=>⟨b,F',jk,aO,aT,b7,gZ,rh,uJ,By,⟨HM.1,HM.2.1,HM.2.2⟩,SL⟩
theorem asL{C:cJ}(fx:C.r=none)(D:de C s a w){g:Operand}{body:Code}{uF n:Nat}{gC:Nat->aN}(aB:bj C.aW s.aD g=.vp uF n gC){ic:DB}(abV:Ho C.P uF ic)
    {x:ic.ts.aq} {b':List Nat} (an:(ki ic.ts ((List.range n).map gC)).run s.ab=some (x,b')) {sh rin ee:eD} (fg:nO sh ee ic.aK bw.toList C.b3=true) {o3:sh.aq} (qs:sh.k0 (s.cE b')=some o3) (hW:ic.pre x)
    {run:aE->L (dU×ee.aq)} {k:dU->aE->L bet} {O:bet->Prop} (hm:c8 (kr (λA y=>xr sh rin ee ic.aK bw.toList A y run) (ic.seq x) o3) λp=>c8 (k p.1 (sh.ae p.2)) O)
    (HL:∀ l,Mf C.P C.aW C.b3 assign body l run) {Q:Exit->Act->World->Prop}
    (aj:∀ u,C.lT u->∀ e s' a' w',de (C.i_ u) s' a' w'->c8 (k e s') O->Q e.r4 a' w'):(Code.rangeFunc g bw assign body).wpIn (e0 C.r) 0 C.P Q a w:=by
  obtain⟨kap,F,D⟩:=D;obtain⟨uy,f1,gv,f2⟩:=bx.mX (rZ _ an) D;obtain⟨kap,fX,f3,cY⟩:=eD.DH qs gv;have ag:=lO D g;rw[aB]at ag;obtain⟨aI,rU,jU,aq0⟩:=ag;have asM:gB C.P ic.ts uy w aI x:=xf D.bH f1 ic.ts an f2 (by grind) λi G ea=>by
    grind
  have ij:∀ A,(sh.ae A).aD cd=.undef:=λA=>by
    simp only[nO,amX,aQA]at fg;exact yS sh.b5 dB A cd fg.1.1.1.2
  have qu:∀ (A:sh.aq) r,¬lk (sh.ae A).ab r:=λA=>by
    simp only[nO,amX,aQA]at fg;exact Bw fg.1.1.1.1.2.2 A
  rw[fx];refine wpIn_rangeFunc λfn _=>?_;have a6:w.heap.size<((w.alloc (.deferred (some []))).alloc (.loop (hN fn a.tmps bw assign body w.heap.size .ready .normal))).heap.size:=by simp;omega
  have ai:w.heap.size+1<((w.alloc (.deferred (some []))).alloc (.loop (hN fn a.tmps bw assign body w.heap.size .ready .normal))).heap.size:=by simp
  have HN:((w.alloc (.deferred (some []))).alloc (.loop (hN fn a.tmps bw assign body w.heap.size .ready .normal))).heap[w.heap.size+1]?=some (.loop (hN fn a.tmps bw assign body w.heap.size .ready .normal)):=by
    have:=ua (w.alloc (.deferred (some []))) (.loop (hN fn a.tmps bw assign body w.heap.size .ready .normal));simp_all
  have HO:((w.alloc (.deferred (some []))).alloc (.loop (hN fn a.tmps bw assign body w.heap.size .ready .normal))).heap[w.heap.size]?=some (.deferred (some [])):=
    (rT _ _ (by simp)).trans (ua w _)
  have ta:∀ r,r<w.heap.size->((w.alloc (.deferred (some []))).alloc (.loop (hN fn a.tmps bw assign body w.heap.size .ready .normal))).heap[r]?=w.heap[r]?:=λr h=>abN h;have HP:(Instr.enterLoop fn a.tmps bw assign body none).run C.P w=.ok (w.heap.size+1,[uP w.heap.size]) ((w.alloc (.deferred (some []))).alloc (.loop (hN fn a.tmps bw assign body w.heap.size .ready .normal))):=run_enterLoop_outer fn a.tmps bw assign body;have Bx:dN w ((w.alloc (.deferred (some []))).alloc (.loop (hN fn a.tmps bw assign body w.heap.size .ready .normal))):=⟨rfl,rfl,rfl⟩
  have K6:((w.alloc (.deferred (some []))).alloc (.loop (hN fn a.tmps bw assign body w.heap.size .ready .normal))).heap.size=w.heap.size+2:=by simp
  generalize (w.alloc (.deferred (some []))).alloc (.loop (hN fn a.tmps bw assign body w.heap.size .ready .normal))=ch at a6 ai HN HO ta HP Bx K6;have r7:dk fX w ch:=⟨by omega,λr h=>ta r (cY.du r h)⟩
  have fv:=(asM.mono f3 (dk.refl _ _)).mono (λ_ h=>h) r7;have fk:bx { C with et:=ch,jE:=fX,K0:=λ_=>False } (sh.ae o3) a ch kap fX:=
    cY.y1 cY.dY cY.dm cY.hJ cY.b5 (λev nb gj kD lx e=>by have e:(sh.ae o3).aD cd=.aS ev nb gj kD lx:=e;grind)
      (λr h=>ta r (by
        rcases h with h | ⟨b,U,rfl⟩
        · exact cY.du r h
        · exact (cY.own b U).1)) (by omega) (λ_ h=>.inl h) (λ_ h=>h) (λ_ h=>h.elim) (λ_ h=>h.elim) (λ_ _ h=>h) (amY _) (dN.refl _) (qu o3)
  have SM:=abU (abO (S:=λT=>T=ic.seq x) (C:=C) (CI:={ C with et:=ch,jE:=fX,K0:=λ_=>False })   (rin:=rin)     (assign:=assign) (body:=body)   (fn:=fn) (l:=w.heap.size+1) (B:=w.heap.size) (run:=run) (k:=k) (O:=O)
    rfl (by omega) (by rw[D.dY];omega) (by rw[D.dY];grind))
  have fH:∀ b,((sh.ae o3).ab b).body.cg (kap b)=true->¬((kap b).ab=w.heap.size+1\/(kap b).ab=w.heap.size):=λb U h=>by
    have:=(cY.own b U).1;omega
  have DW:=abV.iv (w.heap.size+1) _ fX (λr=>(∃ b,((sh.ae o3).ab b).body.cg (kap b)=true/\(kap b).ab=r)\/r=w.heap.size+1\/r=w.heap.size) ch aI x fv hW SM (λr h=>fk.du r h) fk.h4
    (λr h=>by
      rcases h with⟨b,U,rfl⟩ | rfl | rfl
      · exact⟨(fk.own b U).1,(fk.own b U).2.1⟩
      · exact⟨ai,λh=>by have:=cY.du _ h;omega⟩
      · exact⟨a6,λh=>by have:=cY.du _ h;omega⟩)
    ⟨.normal,o3,kap,fk,HN,HO,λb U=>⟨.inl ⟨b,U,rfl⟩,fH b U⟩,.inr (.inl rfl),.inr (.inr rfl),λh=>by have:=cY.du _ h;omega,λh=>by have:=cY.du _ h;omega,rfl,λ_=>⟨rfl,λR fp=>by grind⟩,λh=>by grind⟩
  refine⟨w.heap.size+1,[uP w.heap.size],ch,{ target:=.fn (.func uF) #[],args:=aI.toArray++#[.func (.yield (w.heap.size+1)) #[] #[]] },ch,uF,(aI++[Value.func (.yield (w.heap.size+1)) #[] #[]]).toArray,ch,HP,?_,λ_ _=>trivial,?_,λh=>(by cases h),callsIn_wide.2 (DW.mono λe hM ⟨v,kD,ae,F',jk,he,hA,hinv,dT,eo,ko,g4,rf,xw,g7⟩=>?_)⟩
  · have e:a.eval (.const (.func (.yield (w.heap.size+1)) #[] #[]))=.func (.yield (w.heap.size+1)) #[] #[]:=rfl
    simp[resolve,rU,Deferred.ofValue,e]
  · have:=abV.enter (aI++[Value.func (.yield (w.heap.size+1)) #[] #[]]).toArray ch
    simpa [invoke]using this
  subst he;obtain⟨e,A,bV,pJ,E,M,al,a7,bR,er,jj,_,ld,Ac⟩:=hinv;refine⟨v7 e,_,run_endLoop E (by cases ae<;>simp[hN]),?_⟩;generalize be:Obj.loop _=cA;have iZ:c8 (k e (sh.ae A)) O:=by
    cases ae with
    | true=>grind
    | false=>
      obtain⟨rfl,hL⟩:=ld rfl;exact (hL [] (show kD++[]=ic.seq x by grind)).2 _ rfl
  have yU:=λr h=>aQt (D.iz r h) D.size;have xB:∀ r,C.K0 r->(hM.putObj (w.heap.size+1) cA).heap[r]?=C.et.heap[r]?:=λr h=>by
    have dx:=yU r h;rw[World.putObj_heap_other (by omega),g4 r (by omega) λbf=>?_,ta r dx]
    · exact D.e6 r h
    · rcases bf with⟨b,U,rfl⟩ | rfl | rfl
      · exact (cY.own b U).2.2 h
      · omega
      omega
  have rj:dN C.et (hM.putObj (w.heap.size+1) cA):=by
    have:=(D.eN.trans Bx).trans g7;exact⟨this.os,this.tape,this.output⟩
  have DX:C.lT ⟨hM.putObj (w.heap.size+1) cA,λr=>C.K0 r\/r=w.heap.size,[w.heap.size]⟩:=
    { vZ := λB a6 => by
        have:B=w.heap.size:=by grind
        subst this;exact⟨.inr rfl,(World.putObj_heap_other (by omega)).trans M⟩
      fo:=λB a6=>by
        have:B=w.heap.size:=by grind
        subst this;exact⟨λh=>by grind,D.size⟩
      kt:=by simp
      iG:=λ_ h=>.inl h
      e6:=xB
      size:=by have:=D.size;simp;omega
      eN:=rj }
  have qt:de (C.i_ ⟨hM.putObj (w.heap.size+1) cA,λr=>C.K0 r\/r=w.heap.size,[w.heap.size]⟩) (sh.ae A) { a with defers:=[uP w.heap.size]++a.defers } (hM.putObj (w.heap.size+1) cA):=by
    have SN:∀ r,F' r->C.jE r\/¬(C.K0 r\/r=w.heap.size):=λr bm=>by
      rcases eo r bm with h | h | h
      · rcases cY.hT r h with e3 | e3<;>grind
      · rcases h with⟨b,U,rfl⟩ | rfl | rfl
        · exact .inr λaj=>aj.elim (cY.own b U).2.2 λe=>fH b U (.inr e)
        · grind
        grind
      grind
    refine⟨bV,F',pJ.y1   pJ.dY (by rw[D.dm];rfl) pJ.hJ pJ.b5 (λev nb gj kD lx e=>by have e:(sh.ae A).aD cd=.aS ev nb gj kD lx:=e;grind)
      (λr h=>World.putObj_heap_other λe=>by
        grind) (by simp) SN (λr h=>dT r (cY.iy r h)) (λr h=>?_) (λ_ _=>rfl) (λb U h=>?_) (amY _) (dN.refl _) (qu A)⟩
    · simp
      grind
    · rcases h with h | h
      · rcases (rf _ (al b U).1).1 with bf | bf
        · rcases bf with⟨bk,dZ,e⟩ | e | e
          · exact (cY.own bk dZ).2.2 (e ▸ h)
          · grind
          grind
        grind
      grind
  have bC:=aj _ DX e _ _ _ qt iZ;cases e with
  | normal=>exact bC
  | exit id=>exact wpIn_exit bC
  | ret=>exact wpIn_ret bC
theorem asN{C:cJ}(fx:C.r=none)(D:de C s a w){g:Operand}{body:Code}{S:List aK.aq->Prop}(aB:bj C.aW s.aD g=.val (.cI aK) S)
    {sh rin ee:eD} (fg:nO sh ee aK bw.toList C.b3=true) {o3:sh.aq} (qs:sh.k0 s=some o3) (eM:∃ ad,S ad)
    {run:aE->L (dU×ee.aq)} {k:dU->aE->L bet} {O:bet->Prop} (hm:∀ ad,S ad->c8 (kr (λA y=>xr sh rin ee aK bw.toList A y run) ad o3) λp=>c8 (k p.1 (sh.ae p.2)) O)
    (HL:∀ l,Mf C.P C.aW C.b3 assign body l run) {Q:Exit->Act->World->Prop}
    (aj:∀ u,C.lT u->∀ e s' a' w',de (C.i_ u) s' a' w'->c8 (k e s') O->Q e.r4 a' w'):(Code.rangeFunc g bw assign body).wpIn (e0 C.r) 0 C.P Q a w:=by
  obtain⟨kap,F,D⟩:=D;obtain⟨kap,fX,f3,cY⟩:=eD.DH qs D;have ag:=lO D g;rw[aB]at ag;have rU:=fM _ f3 (dk.refl _ _) ((eh rfl).1 ag).2;obtain⟨u,hu,_,asO⟩:=rU;have hu:=(aQC hu).1;have ij:∀ A,(sh.ae A).aD cd=.undef:=λA=>by
    simp only[nO,amX,aQA]at fg;exact yS sh.b5 dB A cd fg.1.1.1.2
  have qu:∀ (A:sh.aq) r,¬lk (sh.ae A).ab r:=λA=>by
    simp only[nO,amX,aQA]at fg;exact Bw fg.1.1.1.1.2.2 A
  rw[fx];refine wpIn_rangeFunc λfn _=>?_;have a6:w.heap.size<((w.alloc (.deferred (some []))).alloc (.loop (hN fn a.tmps bw assign body w.heap.size .ready .normal))).heap.size:=by simp;omega
  have ai:w.heap.size+1<((w.alloc (.deferred (some []))).alloc (.loop (hN fn a.tmps bw assign body w.heap.size .ready .normal))).heap.size:=by simp
  have HN:((w.alloc (.deferred (some []))).alloc (.loop (hN fn a.tmps bw assign body w.heap.size .ready .normal))).heap[w.heap.size+1]?=some (.loop (hN fn a.tmps bw assign body w.heap.size .ready .normal)):=by
    have:=ua (w.alloc (.deferred (some []))) (.loop (hN fn a.tmps bw assign body w.heap.size .ready .normal));simp_all
  have HO:((w.alloc (.deferred (some []))).alloc (.loop (hN fn a.tmps bw assign body w.heap.size .ready .normal))).heap[w.heap.size]?=some (.deferred (some [])):=
    (rT _ _ (by simp)).trans (ua w _)
  have ta:∀ r,r<w.heap.size->((w.alloc (.deferred (some []))).alloc (.loop (hN fn a.tmps bw assign body w.heap.size .ready .normal))).heap[r]?=w.heap[r]?:=λr h=>abN h;have HP:(Instr.enterLoop fn a.tmps bw assign body none).run C.P w=.ok (w.heap.size+1,[uP w.heap.size]) ((w.alloc (.deferred (some []))).alloc (.loop (hN fn a.tmps bw assign body w.heap.size .ready .normal))):=run_enterLoop_outer fn a.tmps bw assign body;have Bx:dN w ((w.alloc (.deferred (some []))).alloc (.loop (hN fn a.tmps bw assign body w.heap.size .ready .normal))):=⟨rfl,rfl,rfl⟩
  have K6:((w.alloc (.deferred (some []))).alloc (.loop (hN fn a.tmps bw assign body w.heap.size .ready .normal))).heap.size=w.heap.size+2:=by simp
  generalize (w.alloc (.deferred (some []))).alloc (.loop (hN fn a.tmps bw assign body w.heap.size .ready .normal))=ch at a6 ai HN HO ta HP Bx K6;have r7:dk fX w ch:=⟨by omega,λr h=>ta r (cY.du r h)⟩
  have fk:bx { C with et:=ch,jE:=fX,K0:=λ_=>False } (sh.ae o3) a ch kap fX:=
    cY.y1 cY.dY cY.dm cY.hJ cY.b5 (λev nb gj kD lx e=>by have e:(sh.ae o3).aD cd=.aS ev nb gj kD lx:=e;grind)
      (λr h=>ta r (by
        rcases h with h | ⟨b,U,rfl⟩
        · exact cY.du r h
        · exact (cY.own b U).1)) (by omega) (λ_ h=>.inl h) (λ_ h=>h) (λ_ h=>h.elim) (λ_ h=>h.elim) (λ_ _ h=>h) (amY _) (dN.refl _) (qu o3)
  have SM:=abO (S:=S) (C:=C) (CI:={ C with et:=ch,jE:=fX,K0:=λ_=>False })   (rin:=rin)     (assign:=assign) (body:=body)   (fn:=fn) (l:=w.heap.size+1) (B:=w.heap.size) (run:=run) (k:=k) (O:=O)
    rfl (by omega) (by rw[D.dY];omega) (by rw[D.dY];grind)
  have fH:∀ b,((sh.ae o3).ab b).body.cg (kap b)=true->¬((kap b).ab=w.heap.size+1\/(kap b).ab=w.heap.size):=λb U h=>by
    have:=(cY.own b U).1;omega
  obtain⟨uF,dS,asP,uH,RP⟩:=asO fX ch (λ_ h=>h) r7 (λr h=>fk.du r h) fk.h4 eM;have DW:=RP (w.heap.size+1) _ (λr=>(∃ b,((sh.ae o3).ab b).body.cg (kap b)=true/\(kap b).ab=r)\/r=w.heap.size+1\/r=w.heap.size)
    (λr h=>by
      rcases h with⟨b,U,rfl⟩ | rfl | rfl
      · exact⟨(fk.own b U).1,(fk.own b U).2.1⟩
      · exact⟨ai,λh=>by have:=cY.du _ h;omega⟩
      · exact⟨a6,λh=>by have:=cY.du _ h;omega⟩)
    SM ⟨.normal,o3,kap,fk,HN,HO,λb U=>⟨.inl ⟨b,U,rfl⟩,fH b U⟩,.inr (.inl rfl),.inr (.inr rfl),λh=>by have:=cY.du _ h;omega,λh=>by have:=cY.du _ h;omega,rfl,λ_=>⟨rfl,λR fp=>hm R fp⟩,λh=>by grind⟩
  refine⟨w.heap.size+1,[uP w.heap.size],ch,{ target:=.fn (.func uF) dS,args:=#[.func (.yield (w.heap.size+1)) #[] #[]] },ch,uF,#[Value.func (.yield (w.heap.size+1)) #[] #[]]++dS,ch,HP,?_,λ_ _=>trivial,?_,λh=>(by cases h),callsIn_wide.2 (DW.mono λe hM ⟨v,pre,ae,F',jk,he,hA,hinv,dT,eo,ko,g4,rf,xw,SO⟩=>?_)⟩
  · have e:a.eval (.const (.func (.yield (w.heap.size+1)) #[] #[]))=.func (.yield (w.heap.size+1)) #[] #[]:=rfl
    simp[resolve,hu,asP,Deferred.ofValue,e]
  · have:=uH (#[Value.func (.yield (w.heap.size+1)) #[] #[]]++dS) ch
    simpa [invoke]using this
  have g7:dN ch hM:=⟨SO.1,SO.2.1,SO.2.2⟩
  subst he;obtain⟨e,A,bV,pJ,E,M,al,a7,bR,er,jj,_,ld,Ac⟩:=hinv;refine⟨v7 e,_,run_endLoop E (by cases ae<;>simp[hN]),?_⟩;generalize be:Obj.loop _=cA;have iZ:c8 (k e (sh.ae A)) O:=by
    cases ae with
    | true=>grind
    | false=>
      obtain⟨rfl,hL⟩:=ld rfl;exact (hL [] (show S (pre++[]) by grind)).2 _ rfl
  have yU:=λr h=>aQt (D.iz r h) D.size;have xB:∀ r,C.K0 r->(hM.putObj (w.heap.size+1) cA).heap[r]?=C.et.heap[r]?:=λr h=>by
    have dx:=yU r h;rw[World.putObj_heap_other (by omega),g4 r (by omega) λbf=>?_,ta r dx]
    · exact D.e6 r h
    · rcases bf with⟨b,U,rfl⟩ | rfl | rfl
      · exact (cY.own b U).2.2 h
      · omega
      omega
  have rj:dN C.et (hM.putObj (w.heap.size+1) cA):=by
    have:=(D.eN.trans Bx).trans g7;exact⟨this.os,this.tape,this.output⟩
  have DX:C.lT ⟨hM.putObj (w.heap.size+1) cA,λr=>C.K0 r\/r=w.heap.size,[w.heap.size]⟩:=
    { vZ := λB a6 => by
        have:B=w.heap.size:=by grind
        subst this;exact⟨.inr rfl,(World.putObj_heap_other (by omega)).trans M⟩
      fo:=λB a6=>by
        have:B=w.heap.size:=by grind
        subst this;exact⟨λh=>by grind,D.size⟩
      kt:=by simp
      iG:=λ_ h=>.inl h
      e6:=xB
      size:=by have:=D.size;simp;omega
      eN:=rj }
  have qt:de (C.i_ ⟨hM.putObj (w.heap.size+1) cA,λr=>C.K0 r\/r=w.heap.size,[w.heap.size]⟩) (sh.ae A) { a with defers:=[uP w.heap.size]++a.defers } (hM.putObj (w.heap.size+1) cA):=by
    have SN:∀ r,F' r->C.jE r\/¬(C.K0 r\/r=w.heap.size):=λr bm=>by
      rcases eo r bm with h | h | h
      · rcases cY.hT r h with e3 | e3<;>grind
      · rcases h with⟨b,U,rfl⟩ | rfl | rfl
        · exact .inr λaj=>aj.elim (cY.own b U).2.2 λe=>fH b U (.inr e)
        · grind
        grind
      grind
    refine⟨bV,F',pJ.y1   pJ.dY (by rw[D.dm];rfl) pJ.hJ pJ.b5 (λev nb gj kD lx e=>by have e:(sh.ae A).aD cd=.aS ev nb gj kD lx:=e;grind)
      (λr h=>World.putObj_heap_other λe=>by
        grind) (by simp) SN (λr h=>dT r (cY.iy r h)) (λr h=>?_) (λ_ _=>rfl) (λb U h=>?_) (amY _) (dN.refl _) (qu A)⟩
    · simp
      grind
    · rcases h with h | h
      · rcases (rf _ (al b U).1).1 with bf | bf
        · rcases bf with⟨bk,dZ,e⟩ | e | e
          · exact (cY.own bk dZ).2.2 (e ▸ h)
          · grind
          grind
        grind
      grind
  have bC:=aj _ DX e _ _ _ qt iZ;cases e with
  | normal=>exact bC
  | exit id=>exact wpIn_exit bC
  | ret=>exact wpIn_ret bC
section
variable {F:Fence} {n:Nat} {P:Program} {Q:Exit->Act->World->Prop} {a:Act} {w:World}
variable {c:Code}
theorem asQ{Mk:Type}{body:Mk->L (aL Mk bet)}{O:bet->Prop}(I:Mk->Act->World->Prop)
  (round:∀ A a w,I A a w->(body A).fr->(∀ r,(body A).a8 (.aX r)->O r)->c.wpIn F n P (Exit.then (λa' w'=>∃ kK,(body A).a8 (.az kK)/\I kK a' w') Q) a w)
  {A:Mk} (ax:F1 body A) (au:∀ r,CX body A r->O r) (fk:I A a w):(Code.loop c).wpIn F n P Q a w:=by
 intro b k cs r8 U D;have key:∀ A,F1 body A->(∀ r,CX body A r->O r)->∀ a w,I A a w->
   ∃ e a' w',Q e a' w'/\ArrivesIn (Machine.fenced P F) P (lone (b.atR a (.code c::.inLoop c::k)) cs w) b k cs e a' w':=by
  intro A ax;induction ax with
  | mk A h _ aR=>
   intro au a w fk;obtain⟨e,ot,ou,bC,gi⟩:=round A a w fk h (λr D=>au r (.aX _ _ D)) b (.inLoop c::k) cs r8 U D;cases e with
   | normal=>
    obtain⟨kK,qz,asR⟩:=bC;obtain⟨SP,SQ,SR,SS,SU⟩:=aR kK qz (λr D=>au r (.az _ _ _ qz D)) ot ou asR;exact⟨SP,SQ,SR,SS,.of_steps (StepsIn.trans gi (.one (fenced_calm U D rfl) stepR_inLoop)) SU⟩
   | exit id=>exact⟨_,ot,ou,bC,.pass   rfl (λ_ _=>.inl (by simp)) gi⟩
   | goto l=>exact⟨_,ot,ou,bC,.pass   rfl (λ_ _=>.inl (by simp)) gi⟩
   | ret=>exact⟨_,ot,ou,bC,.pass   rfl (λ_ _=>.inl (by simp)) gi⟩
   | panic SV=>exact⟨_,ot,ou,bC,.pass   rfl (λ_ _=>.inl (by simp)) gi⟩
   | outgrown=>exact⟨_,ot,ou,bC,.pass   rfl (λ_ _=>.inl (by simp)) gi⟩
 obtain⟨e,a',w',bC,gi⟩:=key A ax au a w fk;exact⟨e,a',w',bC,.of_steps (.one (fenced_calm U D rfl) stepR_loop) gi⟩
theorem asS{p q:Prop}(bC:q)(h:q->p):p/\q:=⟨h bC,bC⟩
def Ml(F:Fence)(n:Nat)(P:Program)(c:Code)(Q:Exit->Act->World->Prop)(a:Act)(w:World):Prop:=
 ∀ (b:Frame) (k:List Item) (cs:List Frame),b.roundOf=F.round->F.fn b.fn->F.room (cs.length+1+n)->
  ∃ e a' w',Q e a' w'/\ArrivesIn (Machine.fenced P F) P (lone (b.atR a (.code c::.inLoop c::k)) cs w) b k cs e a' w'
theorem asT(h:Ml F n P c Q a w):(Code.loop c).wpIn F n P Q a w:=λb k cs r8 U D=>by
 obtain⟨e,a',w',bC,gi⟩:=h b k cs r8 U D;exact⟨e,a',w',bC,.of_steps (.one (fenced_calm U D rfl) stepR_loop) gi⟩
theorem asU(h:c.wpIn F n P (Exit.then (λa' w'=>Ml F n P c Q a' w') Q) a w):Ml F n P c Q a w:=λb k cs r8 U D=>by
 obtain⟨e,ot,ou,bC,gi⟩:=h b (.inLoop c::k) cs r8 U D;cases e with
 | normal=>
  obtain⟨SP,SQ,SR,SS,SU⟩:=bC b k cs r8 U D;exact⟨SP,SQ,SR,SS,.of_steps (StepsIn.trans gi (.one (fenced_calm U D rfl) stepR_inLoop)) SU⟩
 | exit id=>exact⟨_,ot,ou,bC,.pass   rfl (λ_ _=>.inl (by simp)) gi⟩
 | goto l=>exact⟨_,ot,ou,bC,.pass   rfl (λ_ _=>.inl (by simp)) gi⟩
 | ret=>exact⟨_,ot,ou,bC,.pass   rfl (λ_ _=>.inl (by simp)) gi⟩
 | panic SV=>exact⟨_,ot,ou,bC,.pass   rfl (λ_ _=>.inl (by simp)) gi⟩
 | outgrown=>exact⟨_,ot,ou,bC,.pass   rfl (λ_ _=>.inl (by simp)) gi⟩
variable {b:Frame}
theorem DY{k:List Item}{cs:List Frame}:step P (lone (b.atR a (.code (.scope c)::k)) cs w)=.next (lone (b.atR a (.code c::.inScope c::k)) cs w):=
 step_lone_go (by rfl)
theorem asV{k:List Item}{cs:List Frame}:step P (lone (b.atR a (.inScope c::k)) cs w)=.next (lone (b.atR a k) cs w):=
 step_lone_go (by rfl)
theorem asW(h:c.wpIn F n P (Exit.noGoto Q) a w):(Code.scope c).wpIn F n P Q a w:=by
 intro b k cs r8 U D;have aV:(lone (b.atR a (.code (.scope c)::k)) cs w).fenced P F:=fenced_calm U D rfl;obtain⟨e,ot,ou,bC,gi⟩:=h b (.inScope c::k) cs r8 U D;cases e with
 | normal=>exact⟨.normal,ot,ou,bC,.head aV DY (StepsIn.trans gi (.one (fenced_calm U D rfl) asV))⟩
 | exit id=>
  have an:exitTo id (.inScope c::k)=exitTo id k:=by rfl
  exact⟨.exit id,ot,ou,bC,λk' aj=>.head aV DY (gi.1 k' (by grind)),λbm aj=>let ⟨k₁,E,M⟩:=gi.2 bm (by grind);⟨k₁,E,.head aV DY M⟩⟩
 | goto l=>exact bC.elim
 | ret=>exact⟨.ret,ot,ou,bC,.of_steps (.one aV DY) gi⟩
 | panic SV=>exact⟨.panic SV,ot,ou,bC,.of_steps (.one aV DY) gi⟩
 | outgrown=>exact⟨.outgrown,ot,ou,bC,.of_steps (.one aV DY) gi⟩
end
section
variable {T:Nat->aa} {bs:Nat->Option aQ} {Psi:Nat->Option gw}
def asX{A:Type}(m:L (aL A bet))(O:bet->Prop)(ae:aL A bet):Prop:=
 match ae with
 | .az s=>m.a8 (.az s)
 | .aX r=>O r
theorem asY{C:cJ}{s':aE}{i:Nat}(h:Rv s i=some s')(D:de C s a w):de C s' a w:=by
 obtain⟨kap,F,D⟩:=D;unfold Rv at h;split at h
 ·rename_i b g n off ax;split at h
  ·rename_i e xs cm;split at h
   ·rename_i aB;cases h;have ag:=D.b5 i;rw[ax]at ag;obtain⟨aO,aT,b7⟩:=ag.2 aB (by rw[cm];rfl);rw[cm]at aO b7;have a6:=D.bH b;unfold c1 at a6;rw[cm]at a6;obtain⟨cs,T,bI,c2,c3,c4,c5⟩:=a6.2 aT;have aO:n<xs.length:=aO;obtain⟨bE,d1,d2⟩:=c5 n aO;have d2:cw C.P (.slice e) F w bE xs[n]:=d2;obtain⟨u,rfl,hu⟩:=Kf   rfl d2;have oS:cs.getD ((kap b).off+n) Go.undef=u:=by
     simp_all[aa.size]
    have hx:fN s.ab kap (λq=>if q=b then (⟨g,.ie (.ae (.slice e)) xs n (.val (.slice e) (xs.getD n []))⟩) else s.ab q) kap:=
     po aB (λh=>by cases h) (λ_=>by rw[cm];exact⟨rfl,rfl,rfl⟩) (λh=>by cases h) (λh=>by cases h)
    have cY:=D.q5       (by grind [ca.cg]) (by grind [ca.cg]) hx (λh=>by cases h) (λh=>by cases h) (λ_ _=>rfl) rfl (dN.refl w) λH pw dx he=>
     ⟨aT,cs,T,bI,c2,c3,c4,⟨rfl,aO⟩,λj aM _=>c5 j aM,by rw[oS,show xs.getD n []=xs[n] by grind];exact (eh rfl).2 ⟨hu,d2⟩,by rw[oS];exact PV   rfl d2⟩
    refine⟨kap,F,{ cY with b5:=λj=>?_,dY:=cY.dY,dm:=cY.dm,bH:=cY.bH,e8:=λl aK ad m ae a1=>?_,bU:=w6.b5 cY.bU rfl λl aK ad m ae a1=>?_ }⟩
    ·show bM _ _ _ _ _ (if j=i then _ else _) _;split
     ·rename_i aM;subst aM;refine⟨⟨by simp,ag.1.2⟩,λ_ _=>?_⟩;simp only[if_true];exact⟨aO,aT,b7⟩
     ·exact cY.b5 j
    ·have a1:(if cd=i then _ else _)=aN.aS l aK ad m ae:=a1;split at a1
     ·grind
     ·exact cY.e8 l aK ad m ae a1
    ·have a1:(if cd=i then _ else _)=aN.aS l aK ad m ae:=a1;split at a1
     ·grind
     ·exact a1
   grind
  grind
 grind
theorem asZ{C:cJ}{s':aE}{b:Nat}(h:Rw s b=some s')(D:de C s a w):de C s' a w:=by
 obtain⟨kap,F,D⟩:=D;unfold Rw at h;split at h
 ·rename_i e xs n v cm;split at h
  ·rename_i y b' bf;split at h
   ·grind
   ·cases h;obtain⟨F',f1,bm,f2⟩:=bx.mX (pv bf) D;have QE:(s.cE b').ab b=s.ab b:=by grind [aE.cE]
    have a6:=D.bH b;have SW:=bm.bH b;unfold c1 at a6 SW;rw[QE,cm]at SW;rw[cm]at a6;obtain⟨aV,cs,T,bI,c2,c3,c4,c5,pt,rW,yA⟩:=SW;obtain⟨_,eA,ih,abW,_,_,_,_,_,as0,_⟩:=a6;rw[bI]at abW;cases abW;have yC:=oP D.bH f1 bf f2 as0;obtain⟨Mi,td⟩:=(eh rfl).1 yC;have hx:fN (s.cE b').ab kap (λq=>if q=b then (⟨(s.ab b).gen,.bo (.ae (.slice e)) (xs.set n y)⟩) else (s.cE b').ab q) kap:=
     po (by grind) (λh=>by cases h) (λ_=>by rw[QE,cm];exact⟨rfl,by simp[ca.len],rfl⟩) (λh=>by cases h) (λh=>by cases h)
    refine⟨kap,F',bm.q5     (by grind [ca.cg]) (by grind [ca.cg]) hx (λh=>by cases h) (λh=>by cases h) (λ_ _=>rfl) rfl (dN.refl w) λH pw dx he=>⟨λaA=>(by grind),λ_=>⟨cs,T,bI,c2,by grind,c4,λj aM=>?_⟩⟩⟩;by_cases w5:j=n
    ·subst w5;refine⟨[cs.getD ((kap b).off+j) Go.undef],λq bC=>?_,?_⟩
     ·have bC:q=0:=by grind
      have:(kap b).off+j<cs.size:=by
       grind
      simp_all
     ·rw[List.getElem_set_self];exact td
    grind
  grind
 grind
theorem as1:∀ (ann:cZ),(∀ (C:cJ) (_:C.P.follows .mixedOrders=true) (_:ei C.P T) (_:lP C.P bs) (_:pH C.P C.aW Psi) (_:C.r=none\/ann.fL=true) {bet:Type} (c:Code) (s:aE) (k:dU->aE->L bet) (O:bet->Prop) (Q:Exit->Act->World->Prop) (a:Act) (w:World),nP C.b3 c=true->de C s a w->c8 (fY C.aW T bs Psi ann c s k) O->(∀ u,C.lT u->∀ e s' a' w',de (C.i_ u) s' a' w'->c8 (k e s') O->Q e.r4 a' w')->c.wpIn (e0 C.r) 0 C.P Q a w)/\(ann.rl=true->∀ (C:cJ) (_:C.P.follows .mixedOrders=true) (_:ei C.P T) (_:lP C.P bs) (_:pH C.P C.aW Psi) (_:C.r=none\/ann.fL=true) {bet:Type} (c:Code) (s:aE) (k:dU->aE->L bet) (O:bet->Prop) (Q:Exit->Act->World->Prop) (a:Act) (w:World),nP C.b3 c=true->de C s a w->c8 (fY C.aW T bs Psi ann (.loop c) s k) O->(∀ u,C.lT u->∀ e s' a' w',de (C.i_ u) s' a' w'->c8 (k e s') O->Q e.r4 a' w')->Ml (e0 C.r) 0 C.P c Q a w):=by
 intro ann;induction ann with
 | fe=>
  refine⟨?_,λ_ C fi aU dq dK g_ bet c s k O Q a w hc D hm aj=>by exact (il hm).elim⟩;intro C fi aU dq dK g_ bet c s k O Q a w hc D hm aj;unfold fY at hm;split at hm
  ·rename_i id ops draw;cases draw with
   | true=>exact asj fi aU (aa9 dq dK) dK (λo au=>List.all_eq_true.1 hc o au) (λs' a' w' bm hL=>aj C.iD C.y0 .normal s' a' w' bm hL) D hm
   | false=>
    refine wpIn_region ?_;have:=Sl     aU dq dK (λo au=>List.all_eq_true.1 hc o au)     (λs' a' w' bm hL=>aj C.iD C.y0 .normal s' a' w' bm hL) ops.toList 0 [] s a w (by simp) (λp ak=>by grind) D hm;grind [List.range_eq_range']
  ·exact wpIn_skip (aj C.iD C.y0 .normal s a w D hm)
  ·exact wpIn_label (aj C.iD C.y0 .normal s a w D hm)
  ·exact wpIn_exit (aj C.iD C.y0 (.exit _) s a w D hm)
  ·exact wpIn_ret (aj C.iD C.y0 .ret s a w D hm)
  grind [il]
 | seq x y jt nR=>
  have jt:=jt.1;have nR:=nR.1;refine⟨?_,λh=>by grind [cZ.rl]⟩;intro C fi aU dq dK g_ bet c s k O Q a w hc D hm aj;have j9:C.r=none\/x.fL=true:=g_.imp id λh=>by grind [cZ.fL]
  have te:C.r=none\/y.fL=true:=g_.imp id λh=>by grind [cZ.fL]
  unfold fY at hm;split at hm
  ·rename_i qA DZ;simp  [nP]at hc;refine wpIn_seq (jt C fi aU dq dK j9 qA s _ O _ a w hc.1 D hm λu hu e s' a' w' bm hL=>?_);cases e with
   | normal=>exact nR (C.i_ u) fi aU dq dK te DZ s' k O Q a' w' hc.2 bm hL λv ag=>by rw[cJ.DT];exact aj _ (hu.then ag)
   | exit id=>exact aj u hu (.exit id) s' a' w' bm hL
   | ret=>exact aj u hu .ret s' a' w' bm hL
  grind [il]
 | join sh x y jt nR=>
  have jt:=jt.1;have nR:=nR.1;refine⟨?_,λh=>by grind [cZ.rl]⟩;intro C fi aU dq dK g_ bet c s k O Q a w hc D hm aj;have j9:C.r=none\/x.fL=true:=g_.imp id λh=>by grind [cZ.fL]
  have te:C.r=none\/y.fL=true:=g_.imp id λh=>by grind [cZ.fL]
  unfold fY at hm;split at hm
  ·rename_i qA DZ;simp  [nP]at hc;rw[fS]at hm;refine wpIn_seq (jt C fi aU dq dK j9 qA s _ _ _ a w hc.1 D hm λu hu e s' a' w' bm hL=>?_);cases e with
   | normal=>
    obtain⟨A,qs,M⟩:=xA hL;have al:=dR.1 M;exact nR (C.i_ u) fi aU dq dK te DZ _ k O Q a' w' hc.2 (eD.Bg qs bm) al λv ag=>by rw[cJ.DT];exact aj _ (hu.then ag)
   | exit id=>
    simp  [Bb,fS,dR,aL.fQ]at hL;exact aj u hu (.exit id) s' a' w' bm hL
   | ret=>
    simp  [Bb,fS,dR,aL.fQ]at hL;exact aj u hu .ret s' a' w' bm hL
  grind [il]
 | cond x y jt nR=>
  have jt:=jt.1;have nR:=nR.1;refine⟨?_,λh=>by grind [cZ.rl]⟩;intro C fi aU dq dK g_ bet c s k O Q a w hc D hm aj;have j9:C.r=none\/x.fL=true:=g_.imp id λh=>by grind [cZ.fL]
  have te:C.r=none\/y.fL=true:=g_.imp id λh=>by grind [cZ.fL]
  unfold fY at hm;split at hm
  ·rename_i co qA DZ;simp  [nP]at hc;unfold aaq at hm;split at hm
   ·rename_i t hu;obtain⟨kap,F,hb⟩:=D;have ag:=lO hb co;rw[hu]at ag;refine wpIn_cond_split (h2.1 ag) (λaH=>?_) (λaH=>?_)
    ·subst aH;exact jt C fi aU dq dK j9 qA s k O Q a w hc.1 ⟨kap,F,hb⟩ hm aj
    ·subst aH;exact nR C fi aU dq dK te DZ s k O Q a w hc.2 ⟨kap,F,hb⟩ hm aj
   ·rename_i g t hu;rw[ib]at hm;obtain⟨be,hm⟩:=hm;obtain⟨kap,F,hb⟩:=D;have ag:=lO hb co;rw[hu]at ag;refine wpIn_cond_split (h2.1 (ag.1 be)) (λaH=>?_) (λaH=>?_)
    ·subst aH;exact jt C fi aU dq dK j9 qA s k O Q a w hc.1 ⟨kap,F,hb⟩ hm aj
    ·subst aH;exact nR C fi aU dq dK te DZ s k O Q a w hc.2 ⟨kap,F,hb⟩ hm aj
   grind [il]
  grind [il]
 | block x jt=>
  have jt:=jt.1;refine⟨?_,λh=>by grind [cZ.rl]⟩;intro C fi aU dq dK g_ bet c s k O Q a w hc D hm aj;have j9:=g_;unfold fY at hm;split at hm
  ·rename_i id qA;refine wpIn_block (jt C fi aU dq dK j9 qA s _ O _ a w hc D hm λu hu e s' a' w' bm hL=>?_);cases e with
   | normal=>exact aj u hu .normal s' a' w' bm hL
   | exit sZ=>
    grind [aap,dU.r4,Exit.inBlock]
   | ret=>exact aj u hu .ret s' a' w' bm hL
  grind [il]
 | loop sh x jt=>
  have jt:=jt.1;refine⟨?_,λh=>by grind [cZ.rl]⟩;intro C fi aU dq dK g_ bet c s k O Q a w hc D hm aj;have j9:=g_;unfold fY at hm;split at hm
  ·rename_i qA;obtain⟨A,qs,M⟩:=xA hm;refine asQ (I:=λA a w=>∃ u,C.lT u/\de (C.i_ u) (sh.ae A) a w)   (λA a w ⟨v,ag,fk⟩ uu Sw=>?_) M.1 M.2 ⟨C.iD,C.y0,eD.Bg qs D⟩;refine jt (C.i_ v) fi aU dq dK j9 qA (sh.ae A) _ (asX (fY C.aW T bs Psi x qA (sh.ae A) (Bb k λs'=>sh.pE s' λkK=>mpure (aL.az kK))) O) _ a w hc fk ⟨uu,λae hA=>?_⟩ λu hu e s' a' w' bm hL=>?_
   ·cases ae with
    | az kK=>exact hA
    | aX r=>exact Sw r hA
   ·cases e with
    | normal=>
     obtain⟨kK,abM,al⟩:=xA hL;have a7:=dR.1 al;exact⟨kK,a7,_,ag.then hu,by grind [cJ.DT,eD.Bg]⟩
    | exit id=>
     simp  [Bb,fS,dR]at hL;exact aj _ (ag.then hu) (.exit id) s' a' w' (by grind [cJ.DT]) hL
    | ret=>
     simp  [Bb,fS,dR]at hL;exact aj _ (ag.then hu) .ret s' a' w' (by grind [cJ.DT]) hL
  grind [il]
 | scope x jt=>
  have jt:=jt.1;refine⟨?_,λh=>by grind [cZ.rl]⟩;intro C fi aU dq dK g_ bet c s k O Q a w hc D hm aj;have j9:=g_;unfold fY at hm;split at hm
  ·rename_i qA;refine asW (jt C fi aU dq dK j9 qA s _ O _ a w hc D hm λu hu e s' a' w' bm hL=>?_);have:=aj u hu e s' a' w' bm hL;cases e<;>exact this
  grind [il]
 | range sh rin ee x y jt nR=>
  have jt:=jt.1;have nR:=nR.1;refine⟨?_,λh=>by simp[cZ.rl]at h⟩;intro C fi aU dq dK g_ bet c s k O Q a w hc D hm aj;unfold fY at hm;split at hm
  ·rename_i g bw assign body;simp  [nP,am0]at hc;obtain⟨aM9,abX,abY⟩:=hc;split at hm
   ·rename_i uF n gC aB;split at hm
    ·rename_i ic as2;split at hm
     ·rename_i aM_ b' an;split at hm
      ·rename_i fg;simp  at fg;obtain⟨fg,j9,te⟩:=fg;obtain⟨A,qs,M⟩:=xA hm;rw[ib,fS]at M;simp  [aar]at M;have fx:=g_.resolve_right λh=>by cases h
       have SX:nO sh ee ic.aK bw.toList C.b3=true:=by
        simp  [nO,am0]at fg ⊢;grind
       refine asL fx D aB (dK uF _ as2) an SX qs M.1 M.2 (λl=>?_) aj;intro C1 jX vx r9 ed s1 cH ch tb hrel nc;have h:=jt C1 (jX ▸ fi) (jX ▸ aU) (jX ▸ dq) (by grind) (.inr j9) assign s1 (LG λs2=>fY C.aW T bs Psi y body s2 λe fh=>ee.pE fh λbn=>mpure (e,bn)) tb
        (Exit.then (λb1 dP=>∃ u s2,C1.lT u/\de (C1.i_ u) s2 b1 dP/\
         ∀ (js:cJ),js.P=C.P->js.aW=C.aW->js.b3=C.b3->js.r=some l->∀ (dP:World),de js s2 b1 dP->
          body.wpIn (e0 (some l)) 0 C.P (λe ek hM=>∃ (a1:dU) (v:qx) (fh:aE) (bn:ee.aq),e=a1.r4/\js.lT v/\de (js.i_ v) fh ek hM/\ee.k0 fh=some bn/\tb (a1,bn)) b1 dP) (λ_ _ _=>False)) cH ch (r9 ▸ abX) hrel (vx ▸ nc)
        λu hu e s2 b1 dP cY di=>?_
       ·grind
       ·cases e with
        | normal=>
         refine⟨u,s2,hu,cY,λjs Bz SY SZ as3 dP pJ=>?_⟩;have h:=nR js (Bz ▸ fi) (Bz ▸ aU) (Bz ▸ dq) (by grind) (.inr te) body s2 (λe fh=>ee.pE fh λbn=>mpure (e,bn)) tb
          (λe ek hM=>∃ (a1:dU) (v:qx) (fh:aE) (bn:ee.aq),e=a1.r4/\js.lT v/\de (js.i_ v) fh ek hM/\ee.k0 fh=some bn/\tb (a1,bn)) b1 dP (SZ ▸ abY) pJ (SY ▸ di) λv ag e fh ek hM ru Mm=>by
           obtain⟨bn,gN,bR⟩:=xA Mm;exact⟨e,v,fh,bn,rfl,ag,ru,gN,dR.1 bR⟩
         grind
        | exit id=>exact (il di).elim
        | ret=>exact (il di).elim
      ·exact (il hm).elim
     ·exact (il hm).elim
    ·exact (il hm).elim
   ·rename_i aK S aB;split at hm
    ·rename_i fg;simp  at fg;obtain⟨fg,j9,te⟩:=fg;obtain⟨A,qs,M⟩:=xA hm;rw[fS]at M;have fx:=g_.resolve_right λh=>by cases h
     have SX:nO sh ee aK bw.toList C.b3=true:=by
      simp  [nO,am0]at fg ⊢;grind
     refine asN fx D aB SX qs M.1 (λad iJ=>by have al:=fS.1 (M.2 ad iJ);simp  [aar]at al;omega) (λl=>?_) aj;intro C1 jX vx r9 ed s1 cH ch tb hrel nc;have h:=jt C1 (jX ▸ fi) (jX ▸ aU) (jX ▸ dq) (by grind) (.inr j9) assign s1 (LG λs2=>fY C.aW T bs Psi y body s2 λe fh=>ee.pE fh λbn=>mpure (e,bn)) tb
      (Exit.then (λb1 dP=>∃ u s2,C1.lT u/\de (C1.i_ u) s2 b1 dP/\
       ∀ (js:cJ),js.P=C.P->js.aW=C.aW->js.b3=C.b3->js.r=some l->∀ (dP:World),de js s2 b1 dP->
        body.wpIn (e0 (some l)) 0 C.P (λe ek hM=>∃ (a1:dU) (v:qx) (fh:aE) (bn:ee.aq),e=a1.r4/\js.lT v/\de (js.i_ v) fh ek hM/\ee.k0 fh=some bn/\tb (a1,bn)) b1 dP) (λ_ _ _=>False)) cH ch (r9 ▸ abX) hrel (vx ▸ nc)
      λu hu e s2 b1 dP cY di=>?_
     ·grind
     ·cases e with
      | normal=>
       refine⟨u,s2,hu,cY,λjs Bz SY SZ as3 dP pJ=>?_⟩;have h:=nR js (Bz ▸ fi) (Bz ▸ aU) (Bz ▸ dq) (by grind) (.inr te) body s2 (λe fh=>ee.pE fh λbn=>mpure (e,bn)) tb
        (λe ek hM=>∃ (a1:dU) (v:qx) (fh:aE) (bn:ee.aq),e=a1.r4/\js.lT v/\de (js.i_ v) fh ek hM/\ee.k0 fh=some bn/\tb (a1,bn)) b1 dP (SZ ▸ abY) pJ (SY ▸ di) λv ag e fh ek hM ru Mm=>by
         obtain⟨bn,gN,bR⟩:=xA Mm;exact⟨e,v,fh,bn,rfl,ag,ru,gN,dR.1 bR⟩
       grind
      | exit id=>exact (il di).elim
      | ret=>exact (il di).elim
    ·exact (il hm).elim
   ·exact (il hm).elim
  ·exact (il hm).elim
 | iP x y jt nR=>
  refine asS (λ_ C fi aU dq dK g_ bet c s k O Q a w hc D hm aj=>?_) λkey C fi aU dq dK g_ bet c s k O Q a w hc D hm aj=>?_
  ·have j9:C.r=none\/x.fL=true:=g_.imp id λh=>by simp  [cZ.fL]at h;grind
   have te:C.r=none\/y.fL=true:=g_.imp id λh=>by simp  [cZ.fL]at h;grind
   unfold fY at hm;simp  at hm;split at hm
   ·rename_i hu;refine asU (jt.1 C fi aU dq dK j9 c s _ O _ a w hc D hm λu LL e s' a' w' bm hL=>?_);cases e with
    | normal=>exact nR.2 hu (C.i_ u) fi aU dq dK te c s' k O Q a' w' hc bm hL λv ag=>by rw[cJ.DT];exact aj _ (LL.then ag)
    | exit id=>exact aj u LL (.exit id) s' a' w' bm hL
    | ret=>exact aj u LL .ret s' a' w' bm hL
   ·exact (il hm).elim
  ·cases c with
   | loop qA=>exact asT (key rfl C fi aU dq dK g_ qA s k O Q a w hc D hm aj)
   | _=>unfold fY at hm;exact (il hm).elim
 | LF=>
  refine⟨?_,λh=>by simp[cZ.rl]at h⟩;intro C fi aU dq dK g_ bet c s k O Q a w hc D hm aj;unfold fY at hm;split at hm
  ·split at hm
   ·rename_i h;rw[amX]at h;obtain⟨rfl,h⟩:=h;exact asq fi (g_.resolve_right (by simp[cZ.fL])) h aU (aa9 dq dK) dK (λo au=>List.all_eq_true.1 hc o au) (λs' a' w' bm hL=>aj C.iD C.y0 .normal s' a' w' bm hL) D hm
   ·exact (il hm).elim
  ·exact (il hm).elim
 | oW i x aR=>
  have aR:=aR.1;refine⟨?_,λh=>by simp[cZ.rl]at h⟩;intro C fi aU dq dK g_ bet c s k O Q a w hc D hm aj;unfold fY at hm;split at hm
  ·rename_i s' ag;exact aR C fi aU dq dK g_ c s' k O Q a w hc (asY ag D) hm aj
  ·exact (il hm).elim
 | LD b x aR=>
  have aR:=aR.1;refine⟨?_,λh=>by simp[cZ.rl]at h⟩;intro C fi aU dq dK g_ bet c s k O Q a w hc D hm aj;unfold fY at hm;split at hm
  ·rename_i s' ag;exact aR C fi aU dq dK g_ c s' k O Q a w hc (asZ ag D) hm aj
  ·exact (il hm).elim
 | num i n x aR=>
  have aR:=aR.1;refine⟨?_,λh=>by simp[cZ.rl]at h⟩;intro C fi aU dq dK g_ bet c s k O Q a w hc D hm aj;unfold fY at hm;split at hm
  ·rename_i v f ag;rw[ib]at hm;have h:=hm.2;rw[ap6 ag hm.1]at h;exact aR C fi aU dq dK g_ c s k O Q a w hc D h aj
  ·exact (il hm).elim
 | split i off n x aR=>
  have aR:=aR.1;refine⟨?_,λh=>by simp[cZ.rl]at h⟩;intro C fi aU dq dK g_ bet c s k O Q a w hc D hm aj;unfold fY at hm;split at hm
  ·rename_i v f ag;rw[ib]at hm;have h:=aal hm.2 hm.1.1 hm.1.2;rw[ap5 ag hm.1.1]at h;exact aR C fi aU dq dK g_ c s k O Q a w hc D h aj
  ·exact (il hm).elim
theorem abZ(ann:cZ):∀ (C:cJ) (_:C.P.follows .mixedOrders=true) (_:ei C.P T) (_:lP C.P bs) (_:pH C.P C.aW Psi) (_:C.r=none\/ann.fL=true) {bet:Type} (c:Code) (s:aE) (k:dU->aE->L bet) (O:bet->Prop) (Q:Exit->Act->World->Prop) (a:Act) (w:World),nP C.b3 c=true->de C s a w->c8 (fY C.aW T bs Psi ann c s k) O->(∀ u,C.lT u->∀ e s' a' w',de (C.i_ u) s' a' w'->c8 (k e s') O->Q e.r4 a' w')->c.wpIn (e0 C.r) 0 C.P Q a w:=(as1 ann).1
end
end Go.Fer
namespace Go.Fer
open Go.RowKit
def HQ(T:Nat->aa)(s:aE):List ResultVar->Option (List aN)
 | []=>some []
 | r::l=>match HQ T s l with
  | none=>none
  | some aI=>match r with
   | .tmp t=>some (s.aD t::aI)
   | .cell a ty=>match (C8 (T ty) (s.aD a)).run s.ab with
    | some v=>some (v::aI)
    | none=>none
def S0(t:aa)(n:Nat):Bool:=
 match t with
 | .aw _ _=>n != 1
 | .dc=>n == 0
 | _=>n == 1
def y3(T:Nat->aa)(mH:List ResultVar)(aS:aa)(e:dU)(s:aE):L aS.aq:=
 match e with
 | .exit _=>eb
 | _=>match HQ T s mH with
  | some cV=>match (ki aS cV).run s.ab with
   | some (y,_)=>mpure y
   | none=>eb
  | none=>eb
def HR(t:aa)(x:t.aq)(n:Nat):List (Nat×aN):=(List.range n).map λi=>(i,kh t x i)
def xD(t:aa):Nat:=if t=.dc then 0 else jV t
def r'(t:aa)(x:t.aq):aE:=Z8 (HR t x (xD t)) []
def D0(aJ:dX)(T:Nat->aa)(bs:Nat->Option aQ)(Psi:Nat->Option gw)(fn:Func)(c:Code)(ann:cZ)(ts aS:aa)(x:ts.aq):L aS.aq:=
 fY aJ T bs Psi ann c (r' ts x) (y3 T fn.results.toList aS)
def HS(av:aN):aN:=match av with | .val (.bP e) p=>.eL e (p.getD e.dW) | v=>v
def HT(av:aN):Prop:=match av with | .val (.bP _) p=>p.isSome=true | _=>True
def Mn(n:Nat)(s:aE):aE:=⟨λi=>if i<n\/fD<i then s.aD i else HS (s.aD i),s.ab⟩
def HU(n:Nat)(s:aE):Prop:=∀ i,¬(i<n\/fD<i)->HT (s.aD i)
def as4(aJ:dX)(T:Nat->aa)(bs:Nat->Option aQ)(Psi:Nat->Option gw)(fn:Func)(c:Code)(ann:cZ)(n:Nat)(ts aS:aa)(x:ts.aq):L aS.aq:=
 ah (HU n (r' ts x)) (fY aJ T bs Psi ann c (Mn n (r' ts x)) (y3 T fn.results.toList aS))
def HV(fn:Func)(c:Code)(ts aS:aa):Bool:=
 nP fn.ntmps c && S0 aS fn.results.size && decide (xD ts <= fn.ntmps) && !(fn.name == "runtime.NumGoroutine") && decide (fn.ntmps <= fD)
def D1:z10'->List aN->Option (List aN)
 | [],[]=>some []
 | none::g,v::aI=>match D1 g aI with
  | some l=>some (v::l)
  | none=>none
 | some n::g,v::aI=>match v,D1 g aI with
  | .agg m f,some l=>if m=n then some ((List.range n).map f++l) else none
  | _,_=>none
 | _,_=>none
def Mo(T:Nat->aa)(mH:List ResultVar)(lu:z10')(a8:eD)(e:dU)(s:aE):L a8.aq:=
 match e with
 | .exit _=>eb
 | _=>match HQ T s mH with
  | some cV=>match D1 lu cV with
   | some l=>match decide (l.length<=fD) with
    | true=>a8.pE (vO s l) λbn=>mpure bn
    | false=>eb
   | none=>eb
  | none=>eb
def Mp(aJ:dX)(T:Nat->aa)(bs:Nat->Option aQ)(Psi:Nat->Option gw)(fn:Func)(c:Code)(ann:cZ)(cC a8:eD)(lu:z10')(A:cC.aq):L a8.aq:=
 fY aJ T bs Psi ann c (cC.ae A) (Mo T fn.results.toList lu a8)
def D2(fn:Func)(c:Code)(k1:Nat)(lu:z10'):Bool:=
 nP fn.ntmps c && decide (fn.results.size = lu.length) && decide (k1 <= fn.ntmps) && !(fn.name == "runtime.NumGoroutine") && decide (fn.ntmps <= fD)
section
variable {C:cJ} {T:Nat->aa} {bs:Nat->Option aQ} {Psi:Nat->Option gw}
def D3(tmps:Array Value)(r:ResultVar):Sem Value:=
 match r with
 | .tmp t=>pure (tmps.getD t undef)
 | .cell b t=>do loadVar t (<-asAddr (tmps.getD b undef))
theorem ab0(fn:Func)(tmps:Array Value):results fn tmps=(fn.results.mapM (D3 tmps) >>= λaI=>pure (if h:aI.size=1 then aI[0] else .tuple aI)):=by
 rfl
variable {s:aE}{a:Act}{w:World}
theorem ab1(aU:ei C.P T){kap:Nat->bL}{F:Nat->Prop}(D:bx C s a w kap F):∀ (mH:List ResultVar) {cV:List aN},HQ T s mH=some cV->
  ∃ aI:List Value,(mH.mapM (D3 a.tmps)).run C.P w=.ok aI w/\aI.length=mH.length/\cV.length=mH.length/\
   ∀ i (h:i<cV.length) (e3:i<aI.length),bM C.P s.ab kap F w cV[i] aI[i]:=by
 intro mH;induction mH with
 | nil=>intro cV h;cases h;simp
 | cons r mH aR=>
  intro cV h;simp  [HQ]at h;split at h
  ·grind
  ·rename_i l ai;obtain⟨aI,E,M,al,a7⟩:=aR ai;have one:∃ av v,cV=av::l/\(D3 a.tmps r).run C.P w=.ok v w/\bM C.P s.ab kap F w av v:=by
    split at h
    ·rename_i t;cases h;exact⟨_,_,rfl,rfl,D.b5 t⟩
    ·rename_i b ty;split at h
     ·rename_i v ag;obtain⟨u,aO,aT⟩:=Y4 aU D ag (D.b5 b);unfold Instr.loadAt at aO;unfold D3;simp only;generalize a.tmps.getD b Go.undef=z at aO ⊢;cases z with
      | pointer p=>
       cases p with
       | none=>simp_all[Instr.sureAddr]
       | some p=>grind [Instr.sureAddr,asAddr]
      | _=>simp[Instr.sureAddr]at aO
     grind
   obtain⟨av,v,rfl,aO,aT⟩:=one;refine⟨v::aI,?_,by grind,by grind,λi G ea=>?_⟩
   ·simp_all
   grind
variable {fn:Func}{aS:aa}
theorem as5(aU:ei C.P T)(tf:S0 aS fn.results.size=true){e:dU}{O:aS.aq->Prop}(D:de C s a w)(hm:c8 (y3 T fn.results.toList aS e s) O) :
  (∀ id,e≠.exit id)/\∃ kap F v y,bx C s a w kap F/\(results fn a.tmps).run C.P w=.ok v w/\O y/\∃ F',(∀ r,F' r->C.jE r\/¬C.K0 r)/\(∀ r,F' r->r<w.heap.size)/\tW C.P aS F' w v y:=by
 obtain⟨kap,F,D⟩:=D;unfold y3 at hm;split at hm
 ·grind [il]
 ·rename_i eM;refine⟨λid he=>eM id he,?_⟩;split at hm
  ·rename_i cV S1;split at hm
   ·rename_i y l bf;obtain⟨aI,E,M,al,a7⟩:=ab1 aU D _ S1;obtain⟨F',f1,bm,f2⟩:=bx.mX (rZ _ bf) D;have fv:=xf (F':=F') D.bH f1 aS bf f2 (by omega) a7;have dA:(results fn a.tmps).run C.P w=.ok (if h:aI.toArray.size=1 then aI.toArray[0] else .tuple aI.toArray) w:=by
     rw[ab0];have:(fn.results.mapM (D3 a.tmps)).run C.P w=.ok aI.toArray w:=by
      rw[Array.mapM_eq_mapM_toList,map_eq_pure_bind,Sem.run_bind,E];rfl
     simp_all
    refine⟨kap,F,_,y,D,dA,dR.1 hm,F',bm.hT,bm.du,aI,?_,fv⟩;have cQ:aI.length=fn.results.size:=by omega
    rw[<-cQ]at tf;clear dA fv E a7 M cQ bf;have one:aI.length=1->aI=[if h:aI.toArray.size=1 then aI.toArray[0] else .tuple aI.toArray]:=by
     intro h;match aI,h with
     | [v],_=>rfl
    cases aS<;>simp only[S0,beq_iff_eq,bne_iff_ne,ne_eq]at tf<;>simp only[Kc];case aw=>grind
    case dc=>
     grind
    all_goals exact one tf
   grind [il]
  grind [il]
theorem S2{l:List (Nat×aN)}{i:Nat}:fw l i=.undef\/(i,fw l i)∈l:=by
 induction l with
 | nil=>exact .inl rfl
 | cons p l aR=>
  grind [fw]
theorem rv{P : Program}{k : FuncId}{fn : Func}{c : Code}(aC : P.funcs[k]? = some fn)(U : fn.body = some c)(aA : (fn.name == "runtime.NumGoroutine") = false)(args : Array Value)(w : World) :
  (callFunc k args).run P w=.ok (.enter k args) w:=by
 simp_all[callFunc]
def tg(w:World):List Nat->World
 | []=>w
 | B::ms=>tg (w.putObj B (.deferred none)) ms
theorem ab2:∀ (ms:List Nat) (w:World),(tg w ms).heap.size=w.heap.size
 | [],_=>rfl
 | _::ms,_=>(ab2 ms _).trans World.putObj_size
theorem S3:∀ (ms:List Nat) (w:World) {r:Nat},r ∉ ms->(tg w ms).heap[r]?=w.heap[r]?
 | [],_,_,_=>rfl
 | B::ms,w,r,h=>by
  simp  at h;exact (S3 ms _ h.2).trans (World.putObj_heap_other h.1)
theorem ab3:∀ (ms:List Nat) (w:World),dN w (tg w ms)
 | [],w=>dN.refl w
 | B::ms,w=>by
  have h:dN w (w.putObj B (.deferred none)):=⟨rfl,rfl,rfl⟩
  exact h.trans (ab3 ms _)
theorem S4{P:Program}{fn:Func}{tmps:Array Value}{R:Ending->World->Prop}:∀ (ms:List Nat) (w:World),ms.Nodup->(∀ B∈ms,w.heap[B]?=some (.deferred (some [])))->
  (∃ v,(results fn tmps).run P (tg w ms)=.ok v (tg w ms)/\R (.returned v) (tg w ms))->LeavesInM Fence.wide 0 P fn tmps R (ms.map uP) .returning w
 | [],w,_,_,h=>h
 | B::ms,w,aA,a6,h=>by
  simp  at aA;refine⟨by simp,.inl ⟨B,_,rfl,run_takeDeferred (a6 B (by simp)),?_⟩⟩;exact S4 ms _ aA.2 (λiT e3=>(World.putObj_heap_other λe=>aA.1 (by grind)).trans (a6 iT (am2 _ e3))) h
theorem de.ab4{u:qx}(hu:C.lT u)(as6:∀ r,C.jE r->r<C.et.heap.size)(yU:∀ r,C.K0 r->r<C.et.heap.size)(h:de (C.i_ u) s a w) :
  de { C with dm:=u.ms.map uP++C.dm } s a (tg w u.ms)/\a.defers=u.ms.map uP++C.dm/\∀ B∈u.ms,w.heap[B]?=some (.deferred (some [])):=by
 obtain⟨kap,F,h⟩:=h;have aM':∀ B∈u.ms,¬F B:=λB a6 aC=>by
  obtain⟨E,_⟩:=hu.vZ B a6;rcases h.hT B aC with M | M
  ·have:=as6 B M;have:=(hu.fo B a6).2;omega
  ·exact M E
 have cQ:=ab2 u.ms w;have hc:=ab3 u.ms w;refine⟨⟨kap,F,h.Me         (λr D=>hu.iG r D) (λr D=>S3 _ _ λhm=>?_) (aSb cQ.symm) hc yU (λr D=>?_) ?_ ?_⟩,h.dm,λB a6=>?_⟩
 ·rcases D with D | D
  ·grind
  ·exact D (hu.vZ r hm).1
 ·exact (S3 _ _ λhm=>(hu.fo r hm).1 D).trans ((h.e6 r (hu.iG r D)).trans (hu.e6 r D))
 ·rw[cQ];exact am5 hu.size h.size
 ·exact (hu.eN.trans h.eN).trans hc
 ·exact (h.e6 B (hu.vZ B a6).1).trans (hu.vZ B a6).2
variable {P:Program}{k:FuncId}{c:Code}{aJ:dX}{ann:cZ}{ts:aa}
theorem ab5(fi:P.follows .mixedOrders=true){sh:ts.aq->L aS.aq}(aU:ei P T)(iI:q2 P aJ)(dq:lP P bs)(dK:pH P aJ Psi)(aC:P.funcs[k]?=some fn)(U:fn.body=some c)
  (b8:HV fn c ts aS=true) {s0:ts.aq->aE} {pre:ts.aq->Prop} (qy:∀ x C a w,de C (r' ts x) a w->pre x->de C (s0 x) a w)
  (j6:∀ x,a_ (ah (pre x) (fY aJ T bs Psi ann c (s0 x) (y3 T fn.results.toList aS))) (sh x)):hI P k ts aS sh:=by
 simp only[HV,amX,aQA,am0]at b8;obtain⟨⟨⟨⟨HW,tf⟩,as7⟩,S5⟩,yW⟩:=b8;refine⟨rv aC U S5,λF w args x bq fm fv uu=>?_⟩;obtain⟨⟨hW,E⟩,M⟩:=j6 x uu;have hlen:args.length=xD ts/\∀ i,i<xD ts->∀ (H:Nat->b_) (kap:Nat->bL),bM P H kap F w (kh ts x i) (args.getD i Go.undef):=by
  unfold xD;split
  ·rename_i e;subst e;have:args=[]:=fv.1;grind
  ·rename_i e;exact⟨(vD (H:=λ_=>⟨0,.ez⟩) (kap:=λ_=>⟨0,0,0,false⟩) ts fv e).1,λi G H kap=>(vD ts fv e).2 i G⟩
 let C:cJ:={ P:=P,et:=w,jE:=F,K0:=λr=>r<w.heap.size,b3:=fn.ntmps,r:=none,dm:=[],kf:=λ_=>none,cK:=⟨0,.dc,λ_=>False,λ_ _ _ _ _=>False⟩,aW:=aJ }
 let a0:Act:={ tmps:=args.toArray++Array.replicate (fn.ntmps - args.toArray.size) undef,defers:=[] }
 let as8:Nat->bL:=λ_=>⟨0,0,0,false⟩
 have rn:∀ i,(r' ts x).aD i=.undef\/(i<xD ts/\(r' ts x).aD i=kh ts x i):=λi=>by
  rcases S2     with e | e
  ·exact .inl e
  ·refine .inr ?_;generalize bz:fw (HR ts x (xD ts)) i=z at e;simp  [HR]at e;obtain⟨j,aM,rfl,rfl⟩:=e;exact⟨aM,bz⟩
 have D:de C (r' ts x) a0 w:=by
  refine⟨as8,F,{ dY:=?_,dm:=rfl,b5:=λi=>?_,bH:=λb=>trivial,own:=λb U=>(by cases U),inj:=λb bk U _ _=>(by cases U),du:=bq,hT:=λr D=>.inl D,iy:=λr D=>D,iz:=λr D=>D,e6:=λr _=>rfl,size:=amY _,eN:=dN.refl w,hJ:=yW,ll:=λb r h=>(by grind),iY:=λb r h=>(by grind),ln:=λb k h=>(by grind),jF:=λb k h=>(by grind),e8:=λl aK ad n ae e=>?_,bU:=λe m hm=>(by cases hm),j7:=iI,h4:=fm }⟩
  ·grind
  ·rcases rn i with e | ⟨G,e⟩
   ·rw[e];simp  [bM]
   ·have:a0.tmps.getD i Go.undef=args.getD i Go.undef:=by
     have ea:i<args.length:=by omega
     simp[a0,Array.getElem?_append,ea]
    grind
  grind [cd,fD]
 refine callsIn_wide.1 (callsIn_of_wp_marks   (n:=0) aC U trivial ?_);have hw:=abZ ann C fi aU dq dK (.inl rfl) (k:=y3 T fn.results.toList aS) (O:=(fY aJ T bs Psi ann c (s0 x) (y3 T fn.results.toList aS)).a8) (Q:=bodyPostM Fence.wide 0 P fn λe w'=>∃ v y,e=.returned v/\(sh x).a8 y/\tW P aS (w2 F w w') w' v y/\Below w.heap.size w w') c (s0 x) a0 w HW (qy x C a0 w D hW) ⟨E,λ_ h=>h⟩;refine hw λu hu e s' a' w' bm hm=>?_;obtain⟨cY,ay,a6⟩:=de.ab4 hu bq (λ_ h=>h) bm;obtain⟨eM,kap,uy,v,y,hb,dA,bf,F',f1,f2,gY⟩:=as5   aU tf cY hm;have A5:LeavesInM Fence.wide 0 P fn a'.tmps (λe w'=>∃ v y,e=.returned v/\(sh x).a8 y/\tW P aS (w2 F w w') w' v y/\Below w.heap.size w w') a'.defers .returning w':=by
  rw[ay];simp only[C,aQD];refine S4 u.ms w' hu.kt a6 ⟨v,dA,v,y,rfl,M y bf,?_,hb.eN.os,hb.eN.tape,hb.eN.output,hb.size,hb.e6⟩;obtain⟨aI,aO,aT,b7⟩:=gY;refine⟨aI,aO,aT,fM aS (λr D=>?_) (dk.refl _ _) b7⟩;rcases f1 r D with h | h
  ·exact .inl h
  ·exact .inr ⟨aSe h,f2 r D⟩
 cases e with
 | normal=>exact A5
 | exit id=>grind
 | ret=>exact A5
theorem ab6(fi:P.follows .mixedOrders=true){sh:ts.aq->L aS.aq}(aU:ei P T)(iI:q2 P aJ)(dq:lP P bs)(dK:pH P aJ Psi)(aC:P.funcs[k]?=some fn)(U:fn.body=some c)
  (b8:HV fn c ts aS=true) (j6:∀ x,a_ (D0 aJ T bs Psi fn c ann ts aS x) (sh x)):hI P k ts aS sh:=
 ab5 fi aU iI dq dK aC U b8 (ann:=ann) (s0:=r' ts) (pre:=λ_=>True) (λ_ _ _ _ h _=>h) λx ax=>⟨⟨trivial,(j6 x ax).1⟩,(j6 x ax).2⟩
theorem as9{C:cJ}{n:Nat}(h:de C s a w)(hc:HU n s):de C (Mn n s) a w:=by
 obtain⟨kap,F,D⟩:=h;refine⟨kap,F,{ D with b5:=λi=>?_,dY:=D.dY,dm:=D.dm,bH:=D.bH,e8:=λl aK ad m ae e=>?_,bU:=D.bU.b5 rfl λl aK ad m ae e=>?_ }⟩
 ·show bM C.P s.ab kap F w (if i<n\/fD<i then s.aD i else HS (s.aD i)) _;split
  ·exact D.b5 i
  ·rename_i G;have ag:=D.b5 i;have ak:=hc i G;unfold HS;unfold HT at ak;split
   ·rename_i e p he;rw[he]at ag ak;obtain⟨_,ag⟩:=(eh rfl).1 ag;rcases ag with⟨_,rfl⟩ | ⟨q,y,bE,bC,rfl,aO,aT⟩
    ·grind
    ·exact⟨q,bE,(aQC bC).1,aO,aT⟩
   omega
 ·have e:(if cd<n\/fD<cd then s.aD cd else HS (s.aD cd))=.aS l aK ad m ae:=e;rw[if_pos (.inr (by decide))]at e;exact D.e8 l aK ad m ae e
 ·have e:(if cd<n\/fD<cd then s.aD cd else HS (s.aD cd))=.aS l aK ad m ae:=e;rw[if_pos (.inr (by decide))]at e;omega
theorem as_(fi:P.follows .mixedOrders=true){n:Nat}{sh:ts.aq->L aS.aq}(aU:ei P T)(iI:q2 P aJ)(dq:lP P bs)(dK:pH P aJ Psi)(aC:P.funcs[k]?=some fn)(U:fn.body=some c)
  (b8:HV fn c ts aS=true) (j6:∀ x,a_ (as4 aJ T bs Psi fn c ann n ts aS x) (sh x)):hI P k ts aS sh:=
 ab5 fi aU iI dq dK aC U b8 (ann:=ann) (s0:=λx=>Mn n (r' ts x)) (pre:=λx=>HU n (r' ts x)) (λ_ _ _ _ h ak=>as9 h ak) j6
theorem S6{H:Nat->b_}{kap:Nat->bL}{F:Nat->Prop}{w:World}{P:Program}:∀ (g:z10') {cV l:List aN} {us:List Value},D1 g cV=some l->cV.length=us.length->(∀ i (h:i<cV.length) (e3:i<us.length),bM P H kap F w cV[i] us[i])->
  ∃ aI:List Value,Ha g us aI/\l.length=aI.length/\∀ i,i<aI.length->bM P H kap F w (l.getD i .undef) (aI.getD i undef)
 | [],[],l,us,h,ai,_=>by
  cases h;have:=aQS ai.symm;subst this;exact⟨[],rfl,rfl,λi G=>by grind⟩
 | [],_::_,_,_,h,_,_=>by cases h
 | none::_,[],_,_,h,_,_=>by cases h
 | some _::_,[],_,_,h,_,_=>by cases h
 | none::g,av::cV,l,[],_,ai,_=>by grind
 | some n::g,av::cV,l,[],_,ai,_=>by grind
 | none::g,av::cV,l,u::us,h,ai,ag=>by
  simp  [D1]at h;split at h
  ·rename_i ev r_;cases h;obtain⟨aI,E,M,al⟩:=S6 g r_ (by grind) λi h e3=>ag (i+1) (aSf h) (aSf e3);refine⟨u::aI,⟨aI,rfl,E⟩,by grind,λi G=>?_⟩;cases i with
   | zero=>exact ag 0 (aSg _) (aSg _)
   | succ i=>grind
  grind
 | some n::g,av::cV,l,u::us,h,ai,ag=>by
  simp  [D1]at h;split at h
  ·rename_i m f ev r_;split at h
   ·rename_i b4;subst b4;obtain⟨aI,E,M,al⟩:=S6 g r_ (by grind) λi h e3=>ag (i+1) (aSf h) (aSf e3);obtain⟨cs,aO,aT,b7⟩:=ag 0 (aSg _) (aSg _);refine⟨cs++aI,⟨cs.toArray,aI,aO,by omega,λc hc=>?_,by simp,E⟩,by grind,λi G=>?_⟩
    ·grind [List.mem_iff_getElem]
    grind
   grind
  grind
def as'(P:Program)(aJ:dX)(T:Nat->aa)(fn:Func)(c:Code)(ic:cO):Prop:=
 ∀ (C:cJ) (A:ic.cC.aq) (Q:Exit->Act->World->Prop) (a:Act) (w:World),C.P=P->C.aW=aJ->C.b3=fn.ntmps->C.r=none->C.dm=[]->nP C.b3 c=true->de C (ic.cC.ae A) a w->(ic.sh A).fr->
  (∀ u,C.lT u->∀ e s' a' w',de (C.i_ u) s' a' w'->c8 (Mo T fn.results.toList ic.lu ic.a8 e s') (ic.sh A).a8->Q e.r4 a' w')->c.wpIn (e0 C.r) 0 C.P Q a w
theorem ata{ic:cO}(aU:ei P T)(aC:P.funcs[k]?=some fn)(U:fn.body=some c)
  (b8:D2 fn c ic.k1 ic.lu=true) (atb:as' P aJ T fn c ic):cW P aJ k ic:=by
 simp only[D2,amX,aQA,am0]at b8;obtain⟨⟨⟨⟨HW,tf⟩,as7⟩,S5⟩,yW⟩:=b8;refine⟨rv aC U S5,λC a w kap F A jX xE fx xv yH iI D uu=>?_⟩;subst jX;subst xE;subst iI;have aNa:=D.dY.trans yH;have gh:∀ i,(a.tmps++Array.replicate (fn.ntmps - a.tmps.size) undef).getD i undef=a.tmps.getD i undef:=λi=>by
  simp;grind
 have bm:bx { C with b3:=fn.ntmps,dm:=[],r:=none } (ic.cC.ae A) { tmps:=a.tmps++Array.replicate (fn.ntmps - a.tmps.size) undef,defers:=[] } C.et kap F:=
  { D with dY:=(by grind),dm:=rfl,hJ:=yW,b5:=λi=>(by rw[gh];exact D.b5 i),bH:=D.bH }
 refine callsIn_wide.1 (callsIn_of_wp_marks   (n:=0) aC U trivial ?_);refine atb { C with b3:=fn.ntmps,dm:=[],r:=none } A _ _ C.et rfl rfl rfl rfl rfl HW ⟨kap,F,bm⟩ uu λu hu e s' a' w' bm hm=>?_;obtain⟨⟨pG,fX,cY⟩,ay,a6⟩:=de.ab4 hu (λr h=>D.du r (D.iy r h)) D.iz bm;have key:(∀ id,e≠.exit id)/\LeavesInM Fence.wide 0 C.P fn a'.tmps (λe w'=>∃ v bn aI bV F',e=.returned v/\(ic.sh A).a8 bn/\LO ic.lu v aI/\bx { C with b3:=aI.length } (ic.a8.ae bn) { tmps:=aI.toArray,defers:=[] } w' bV F') a'.defers .returning w':=by
  unfold Mo at hm;split at hm
  ·grind [il]
  ·rename_i eM;refine⟨λid he=>eM id he,?_⟩;split at hm
   ·rename_i cV S1;split at hm
    ·rename_i l ai;split at hm
     ·rename_i dx;have dx:=aQR dx;obtain⟨us,aO,aT,b7,gZ⟩:=ab1 (C:={ C with b3:=fn.ntmps,dm:=u.ms.map uP++[],r:=none }) aU cY _ S1;obtain⟨aI,dT,eo,ko⟩:=S6 ic.lu ai (by omega) gZ;obtain⟨bn,gN,bR⟩:=xA hm;have aZ:=cY.args     (by omega) eo ko;obtain⟨Mj,abK,_,pJ⟩:=eD.DH gN aZ;rw[ay];simp only[aQD];have dA:(results fn a'.tmps).run C.P (tg w' u.ms)=.ok (if us.length=1 then us.getD 0 undef else .tuple us.toArray) (tg w' u.ms):=by
       rw[ab0,Sem.run_bind];have:(fn.results.mapM (D3 a'.tmps)).run C.P (tg w' u.ms)=.ok us.toArray (tg w' u.ms):=by
        rw[Array.mapM_eq_mapM_toList,map_eq_pure_bind,Sem.run_bind,aO];rfl
       rw[this];simp;grind
      refine S4 u.ms w' hu.kt a6 ⟨_,dA,_,bn,aI,Mj,abK,rfl,dR.1 bR,⟨us,?_,rfl,dT⟩,?_⟩<;>grind
     grind [il]
    grind [il]
   grind [il]
 cases e with
 | normal=>exact key.2
 | exit id=>grind
 | ret=>exact key.2
theorem S7(fi:P.follows .mixedOrders=true){ic:cO}(aU:ei P T)(dq:lP P bs)(dK:pH P aJ Psi)(aC:P.funcs[k]?=some fn)(U:fn.body=some c)
  (b8:D2 fn c ic.k1 ic.lu=true) (j6:∀ A,a_ (Mp aJ T bs Psi fn c ann ic.cC ic.a8 ic.lu A) (ic.sh A)):cW P aJ k ic:=
 ata aU aC U b8 λC A Q a w jX iI _ fx _ HW D uu aj=>by
  subst jX;subst iI;obtain⟨E,M⟩:=j6 A uu;exact abZ ann C fi aU dq dK (.inl fx) c (ic.cC.ae A) (Mo T fn.results.toList ic.lu ic.a8) (Mp C.aW T bs Psi fn c ann ic.cC ic.a8 ic.lu A).a8 Q a w HW D ⟨E,λ_ h=>h⟩ λu hu e s' a' w' bm hm=>aj u hu e s' a' w' bm ⟨hm.1,λy bf=>M y (hm.2 y bf)⟩
end
def ry:List (Nat×aa)->Nat->aa
 | [],_=>.dc
 | p::l,i=>if i=p.1 then p.2 else ry l i
def ab7(P:Program)(l:List (Nat×aa)):Bool:=l.all λp=>dh P p.2 (.inl p.1)
theorem ab8{P:Program}{l:List (Nat×aa)}(h:ab7 P l=true):ei P (ry l):=by
 intro id;induction l with
 | nil=>exact .inl rfl
 | cons p l aR=>
  simp only[ab7,aRd,amX]at h;simp  [ry];split
  ·rename_i e;subst e;exact .inr h.1
  ·exact aR h.2
end Go.Fer
namespace Go.Fer
open Go.RowKit
theorem ab9{P:Program}{aJ:dX}{k:FuncId}{c:cO}(h:cW P aJ k c)(iI:q2 P aJ){ic:DB}(mk:ic.ts.aq->Nat->(List ic.aK.aq->Prop)->c.cC.aq)(aA:c.k1=jV ic.ts+1)(jo:c.k1<=fD)(uM:ic.ts≠.dc)
    (fH:∀ x l ad i,(c.cC.ae (mk x l ad)).aD i=.undef\/(i<jV ic.ts/\(c.cC.ae (mk x l ad)).aD i=kh ic.ts x i)\/(i=jV ic.ts/\(c.cC.ae (mk x l ad)).aD i=.iw l)\/(i=cd/\(c.cC.ae (mk x l ad)).aD i=.aS l ic.aK ad [] false))
    (hv:c.cC.bH=[]) (qz:∀ bn,∃ n ae l ad,(c.a8.ae bn).aD cd=.aS l ic.aK ad n ae)
    (mY:∀ x l,ic.pre x->(c.sh (mk x l (λT=>T=ic.seq x))).fr/\∀ bn,(c.sh (mk x l (λT=>T=ic.seq x))).a8 bn->∀ ev gj n,(c.a8.ae bn).aD cd=.aS ev ic.aK gj n false->n=ic.seq x):Ho P k ic:=by
  refine⟨h.enter,λl I F Y w args x fv hW b8 bq fm jr fk=>?_⟩;obtain⟨kg,DU⟩:=vD (H:=λ_=>⟨0,.ez⟩) (kap:=λ_=>⟨0,0,0,false⟩) ic.ts fv uM;have om:∀ b,(c.cC.ae (mk x l (λT=>T=ic.seq x))).ab b=⟨0,.ez⟩:=λb=>by
    show eP (ha dB c.cC.bH (eV dB c.cC.b5 (mk x l (λT=>T=ic.seq x))).2) b=_;generalize (eV dB c.cC.b5 (mk x l (λT=>T=ic.seq x))).2=z;revert z;rw[hv];intro z;rfl
  have cQ:(args++[Value.func (.yield l) #[] #[]]).length=c.k1:=by grind
  have D:bx { P:=P,et:=w,jE:=F,K0:=λr=>r<w.heap.size/\¬Y r,b3:=c.k1,r:=none,dm:=[],kf:=λ_=>none,cK:=⟨l,ic.aK,λT=>T=ic.seq x,I⟩,aW:=aJ } (c.cC.ae (mk x l (λT=>T=ic.seq x)))
      { tmps:=(args++[Value.func (.yield l) #[] #[]]).toArray,defers:=[] } w (λ_=>⟨0,0,0,false⟩) F:=
    { dY := by omega
      dm:=rfl
      b5:=λi=>by
        rcases fH x l (λT=>T=ic.seq x) i with e | ⟨G,e⟩ | ⟨G,e⟩ | ⟨G,e⟩
        · rw[e];trivial
        · have:=(vD (H:=(c.cC.ae (mk x l (λT=>T=ic.seq x))).ab) (kap:=λ_=>⟨0,0,0,false⟩) ic.ts fv uM).2 i G
          simp_all[aQO]
        · rw[e]
          show (args++[Value.func (.yield l) #[] #[]]).toArray.getD i undef=_
          simp_all
        · rw[e];trivial
      bH:=λb=>by unfold c1;rw[om b];trivial
      own:=λb U=>by rw[om b]at U;cases U
      inj:=λb bk U _ _=>by rw[om b]at U;cases U
      du:=bq
      hT:=λr D=>.inl D
      iy:=λr D=>D
      iz:=λr D=>D.1
      e6:=λ_ _=>rfl
      size:=amY _
      eN:=dN.refl _
      hJ:=jo
      ll:=λb r h=>by grind
      iY:=λb r h=>by grind
      ln:=λb k h=>by grind
      jF:=λb k h=>by grind
      e8:=λev nb gj n ae e=>by
        rcases fH x l (λT=>T=ic.seq x) cd with a1 | ⟨G,_⟩ | ⟨G,_⟩ | ⟨_,a1⟩
        · grind
        · grind [cd,fD]
        · grind
        · rw[a1]at e
          cases e
          exact⟨⟨I,rfl⟩,b8,Y,λr D=>⟨(jr r D).1,(jr r D).2,λk=>k.2 D⟩,λb U=>(by rw[om b]at U;cases U),n9.C0.2 fk⟩
      bU:=λa1 m hm=>by grind
      j7:=iI,h4:=fm }
  obtain⟨ax,A5⟩:=mY x l hW;refine (h.iv _ _ w _ F _ rfl rfl rfl rfl rfl rfl D ax).mono λe w' ⟨v,bn,aI,bV,F',he,gN,_,bm⟩=>?_;obtain⟨n,ae,ev,gj,rn⟩:=qz bn;obtain⟨⟨atc,S8⟩,_,jk,al,a7,S9⟩:=bm.e8 ev ic.aK gj n ae rn;refine⟨v,n,ae,F',jk,he,λhA=>?_,n9.C0.1 S9,bm.iy,λr cY=>?_,bm.du,λr E M=>bm.e6 r ⟨E,M⟩,λr cY=>⟨?_,(al r cY).1,(al r cY).2.1⟩,bm.size,bm.eN⟩
  · grind
  · rcases bm.hT r cY with h | h<;>grind
  grind
theorem Mq{P:Program}{aJ:dX}{k:FuncId}{c:cO}(h:cW P aJ k c)(iI:q2 P aJ){cs:List aa}{aK:aa}{S:(h3 (cs.map .bP)).aq->List aK.aq->Prop}(mk:(h3 (cs.map .bP)).aq->Nat->(List aK.aq->Prop)->c.cC.aq)
    (aA:c.k1=jV (h3 (cs.map .bP))+1) (jo:c.k1<=fD) (uM:h3 (cs.map .bP)≠.dc)
    (fH:∀ x l ad i,(∃ T,S x T)->(c.cC.ae (mk x l ad)).aD i=.undef\/(i<jV (h3 (cs.map .bP))+1/\0<i/\∃ e y,(c.cC.ae (mk x l ad)).aD i=.eL e y/\kh (h3 (cs.map .bP)) x (i - 1)=.val (.bP e) (some y))\/(i=0/\(c.cC.ae (mk x l ad)).aD i=.iw l)\/(i=cd/\(c.cC.ae (mk x l ad)).aD i=.aS l aK ad [] false))
    (hv:c.cC.bH=[]) (qz:∀ bn,∃ n ae l ad,(c.a8.ae bn).aD cd=.aS l aK ad n ae)
    (mY:∀ x l,(∃ ad,S x ad)->(c.sh (mk x l (S x))).fr/\∀ bn,(c.sh (mk x l (S x))).a8 bn->∀ ev gj p,(c.a8.ae bn).aD cd=.aS ev aK gj p false->S x p):yr P k ⟨cs,aK,S⟩:=by
  refine⟨h.enter,λF w args x bq fm fv eM l ab_ Y jr atd ate=>?_⟩;have b8:=abU atd;obtain⟨kg,DU⟩:=vD (H:=λ_=>⟨0,.ez⟩) (kap:=λ_=>⟨0,0,0,false⟩) (h3 (cs.map .bP)) fv uM;have om:∀ b,(c.cC.ae (mk x l (S x))).ab b=⟨0,.ez⟩:=λb=>by
    show eP (ha dB c.cC.bH (eV dB c.cC.b5 (mk x l (S x))).2) b=_;generalize (eV dB c.cC.b5 (mk x l (S x))).2=z;revert z;rw[hv];intro z;rfl
  have cQ:(Value.func (.yield l) #[] #[]::args).length=c.k1:=by grind
  have D:bx { P:=P,et:=w,jE:=F,K0:=λr=>r<w.heap.size/\¬Y r,b3:=c.k1,r:=none,dm:=[],kf:=λ_=>none,cK:=⟨l,aK,S x,ab_⟩,aW:=aJ } (c.cC.ae (mk x l (S x)))
      { tmps:=(Value.func (.yield l) #[] #[]::args).toArray,defers:=[] } w (λ_=>⟨0,0,0,false⟩) F:=
    { dY := by omega
      dm:=rfl
      b5:=λi=>by
        rcases fH x l (S x) i eM with e | ⟨G,sY,n7,y,e,atf⟩ | ⟨G,e⟩ | ⟨G,e⟩
        · rw[e];trivial
        · rw[e]
          have:=(vD (H:=(c.cC.ae (mk x l (S x))).ab) (kap:=λ_=>⟨0,0,0,false⟩) (h3 (cs.map .bP)) fv uM).2 (i - 1) (by omega)
          have bB:(Value.func (.yield l) #[] #[]::args).toArray.getD i undef=args.getD (i - 1) undef:=by
            obtain⟨j,rfl⟩:∃ j,i=j+1:=⟨i - 1,by omega⟩
            simp
          rw[bB]
          rw[atf]at this
          obtain⟨_,ag⟩:=(eh rfl).1 this
          rcases ag with⟨_,aA⟩ | ⟨q,sW,bE,bC,Sb,aO,aT⟩
          · grind
          · cases Sb
            exact⟨q,bE,(aQC bC).1,aO,aT⟩
        · rw[e]
          subst G
          rfl
        · rw[e];trivial
      bH:=λb=>by unfold c1;rw[om b];trivial
      own:=λb U=>by rw[om b]at U;cases U
      inj:=λb bk U _ _=>by rw[om b]at U;cases U
      du:=bq
      hT:=λr D=>.inl D
      iy:=λr D=>D
      iz:=λr D=>D.1
      e6:=λ_ _=>rfl
      size:=amY _
      eN:=dN.refl _
      hJ:=jo
      ll:=λb r h=>by grind
      iY:=λb r h=>by grind
      ln:=λb k h=>by grind
      jF:=λb k h=>by grind
      e8:=λev nb gj n ae e=>by
        rcases fH x l (S x) cd eM with a1 | ⟨G,_⟩ | ⟨G,_⟩ | ⟨_,a1⟩
        · grind
        · grind
        · grind
        · rw[a1]at e
          cases e
          exact⟨⟨ab_,rfl⟩,b8,Y,λr D=>⟨(jr r D).1,(jr r D).2,λk=>k.2 D⟩,λb U=>(by rw[om b]at U;cases U),n9.C0.2 ate⟩
      bU:=λa1 m hm=>by grind
      j7:=iI,h4:=fm }
  obtain⟨ax,A5⟩:=mY x l eM;have gi:#[Value.func (.yield l) #[] #[]]++args.toArray=(Value.func (.yield l) #[] #[]::args).toArray:=by simp
  rw[gi];refine (h.iv _ _ w _ F _ rfl rfl rfl rfl rfl rfl D ax).mono λe w' ⟨v,bn,aI,bV,F',he,gN,_,bm⟩=>?_;obtain⟨n,ae,ev,gj,rn⟩:=qz bn;obtain⟨⟨atc,S8⟩,_,jk,al,a7,S9⟩:=bm.e8 ev aK gj n ae rn;refine⟨v,n,ae,F',jk,he,λhA=>?_,n9.C0.1 S9,bm.iy,λr cY=>?_,bm.du,λr E M=>bm.e6 r ⟨E,M⟩,λr cY=>⟨?_,(al r cY).1,(al r cY).2.1⟩,bm.size,⟨bm.eN.os,bm.eN.tape,bm.eN.output⟩⟩
  · grind
  · rcases bm.hT r cY with h | h<;>grind
  grind
end Go.Fer
namespace Go.Fer
open Go.RowKit Go.ChangeShapes Go.WideShapes
def aa.ju:aa->Bool
 | .bool | .int _ | .str | .dc=>true
 | .ae t=>t.ju
 | .aw a b=>a.ju&&b.ju
 | .slice e=>e.ju
 | _=>false
def aa.j5:(t:aa)->t.aq->Prop
 | .int k,x=>gQ k x
 | .str,x=>x.length<2 ^ 63
 | .ae t,x=>t.j5 x
 | .aw a b,x=>a.j5 x.1/\b.j5 x.2
 | .slice e,xs=>xs.length<2 ^ 63/\∀ y∈xs,e.j5 y
 | .array n e,xs=>xs.length=n/\∀ y∈xs,e.j5 y
 | _,_=>True
theorem D4{P:Program}{w:World}{F:Nat->Prop}:∀ (t:aa) {cs:List Value} {x:t.aq},cw P t F w cs x->t.j5 x
 | .bool,_,_,_=>trivial
 | .int _,_,_,h=>h.2
 | .str,_,_,h=>h.2
 | .dc,_,_,_=>trivial
 | .ae t,_,_,h=>by exact D4 t h
 | .aw a b,_,_,h=>by
  obtain⟨c,d,_,E,M⟩:=h;exact⟨D4 a E,D4 b M⟩
 | .slice e,_,xs,h=>by
  obtain⟨a,cap,_,E,M,al,a7⟩:=h;refine⟨by omega,λy bf=>?_⟩;obtain⟨i,G,rfl⟩:=List.mem_iff_getElem.1 bf;cases a with
  | none=>grind
  | some p=>
   obtain⟨bE,_,k⟩:=(a7 p rfl (by omega)).2.2 i G;exact D4 e k
 | .array n e,_,xs,h=>by
  obtain⟨gR,_,E,M,al⟩:=h;refine⟨M,λy bf=>?_⟩;obtain⟨i,G,rfl⟩:=List.mem_iff_getElem.1 bf;exact D4 e (al i G (by omega))
 | .bP _,_,_,_=>trivial
 | .map _ _,_,_,_=>trivial
 | .fn _ _,_,_,_=>trivial
 | .cI _,_,_,_=>trivial
 | .eY,_,_,_=>trivial
 | .cP _,_,_,_=>trivial
section
variable {H:Type} {enc:TypeId×Value->H} {P:Program} {w:World}
theorem cx.cells{t:aa}{id:TypeId}(h:cx P t id):P.cellsOf id=t.size:=by
 obtain⟨i,z,E,M,_⟩:=nF h.nE;simp[Program.cellsOf,E,M]
theorem ab'{a:Addr}{n:Nat}{bE:List Value}(h:w.cells? 0 a n=some bE)(aA:0<n):a.spot=none/\a.block<w.heap.size/\bE.length=n/\∀ j (aM:j<bE.length),w.cell? ⟨a.block,a.off+j,none⟩=some bE[j]:=by
 have U:=World.cells?_block h aA;have mj:a.spot=none:=by
  unfold World.cells? at h;split at h
  ·obtain⟨m,rfl⟩:∃ m,n=m+1:=⟨n - 1,by omega⟩
   rw[List.range_succ_eq_map]at h;simp  [amU]at h;obtain⟨v,ag,_⟩:=h;cases ax:a.spot with
   | none=>rfl
   | some x=>simp[World.cell?,Addr.add]at ag;grind
  omega
 unfold World.cells? at h;split at h
 ·have hlen:bE.length=n:=by
   have:∀ (l:List Nat) (r:List Value),l.mapM (λi=>w.cell? (a.add i))=some r->r.length=l.length:=by
    intro l;induction l with
    | nil=>simp
    | cons x l aR=>
     intro r D;simp  [amU,amZ]at D;grind
   grind
  refine⟨mj,U,hlen,λj aM=>?_⟩;have:∀ (l:List Nat) (r:List Value),l.mapM (λi=>w.cell? (a.add i))=some r->∀ j (E:j<l.length) (M:j<r.length),w.cell? (a.add l[j])=some r[j]:=by
   intro l;induction l with
   | nil=>simp
   | cons x l aR=>
    intro r D j E M;simp  [amU,amZ]at D;grind
  have Gk:a.add ((List.range n)[j]'(by grind))=⟨a.block,a.off+j,none⟩:=by
   cases a;subst mj;simp[Addr.add]
  grind
 omega
def th(w:World):Nat->Prop:=λr=>r<w.heap.size
def aa.rz(n:Nat):(t:aa)->t.aq->Prop
 | .ae t,x=>t.rz n x
 | .aw a b,x=>a.rz n x.1/\b.rz n x.2
 | .slice e,xs=>xs.length<=n/\∀ y∈xs,e.rz n y
 | _,_=>True
structure FV(b:DataW H->Nat):Prop where
 len:∀ e s,e.length<=b (.slice e s)
 J':∀ e s d,d∈e->b d<=b (.slice e s)
 Yw:∀ l d,d∈l->b d<=b (.agg l)
variable {b:DataW H->Nat} {N:Nat}
theorem atg(U:FV b)(t:aa):(t.ju=true->∀ {id:TypeId} {cX:Nat} {cs:List Value} {x:DataW H×List MemPlace},cx P t id->DataW.trod enc P w 0 (λ_=>true) true cX id cs=some x->b x.1<=N->∃ y,cw P t (th w) w cs y/\t.rz N y)/\
  (t.ju=true->∀ {l:List Field} {off n:Nat} {cs:List Value},dh P t (.inr (l,off))=true->(∀ f∈l,∃ x,DataW.trod enc P w 0 (λ_=>true) true n f.type ((cs.drop f.offset).take (P.cellsOf f.type))=some x/\b x.1<=N)->∃ y,cw P t (th w) w ((cs.drop off).take t.size) y/\t.rz N y):=by
 induction t with
 | bool=>
  refine⟨λ_ {id cX cs x} aH h _=>?_,λ_ {l off n cs} h=>by simp[dh]at h⟩;have hu:P.underlying id=some .bool:=by
   unfold cx at aH;simp  [dh]at aH;grind
  obtain⟨b,rfl,_⟩:=DataW.trod_bool hu h;exact⟨_,rfl,trivial⟩
 | int k=>
  refine⟨λ_ {id cX cs x} aH h _=>?_,λ_ {l off n cs} h=>by simp[dh]at h⟩;obtain⟨n,rfl,_,hw⟩:=DataW.trod_int aH.int h;simp  [Lit.wf,am0]at hw;exact⟨n,⟨rfl,hw⟩,trivial⟩
 | str=>
  refine⟨λ_ {id cX cs x} aH h _=>?_,λ_ {l off n cs} h=>by simp[dh]at h⟩;obtain⟨s,rfl,_,hw⟩:=DataW.trod_string aH.str h;refine⟨s.data.toList,⟨by simp,?_⟩,trivial⟩;have:s.data.toList.length=s.size:=by rfl
  have:maxLen<2 ^ 63:=by decide
  omega
 | dc=>exact⟨λ_ {id cX cs x} aH h _=>by simp[cx,dh]at aH,λ_ {l off n cs} h=>by simp[dh]at h⟩
 | ae t aR=>
  refine⟨λai {id cX cs x} aH h pK=>?_,λ_ {l off n cs} h=>by simp[dh]at h⟩;have S_:P.cellsOf id=t.size:=aH.cells;obtain⟨gC,hu⟩:=aH.ae;obtain⟨xs,n,_,rfl,hlen,ZM,aC⟩:=DataW.trod_struct hu h;unfold cx at aH;simp  [dh]at aH;obtain⟨_,aH⟩:=aH;rw[hu]at aH;have mC:∀ f∈gC.toList,∃ x,DataW.trod enc P w 0 (λ_=>true) true n f.type ((cs.drop f.offset).take (P.cellsOf f.type))=some x/\b x.1<=N:=by
   intro f ath;obtain⟨i,G,rfl⟩:=List.mem_iff_getElem.1 ath;have ea:i<gC.size:=by omega
   refine⟨xs[i]'(by omega),?_,am5 (U.Yw _ _ (aQ' (amV _))) pK⟩;rw[aC i _ (by simp)];simp
  simp  at aH;split at aH
  ·have aH:=aQR aH;subst aH;have:=by
    have:=hlen.trans S_;simpa [aa.size]using this
   subst this;exact⟨(),rfl,trivial⟩
  ·rename_i f g_;simp  at aH;obtain⟨⟨⟨aV,E⟩,_⟩,_⟩:=aH;obtain⟨x,an,ati⟩:=mC f (by grind);have hc:=cx.cells E;rw[aV,List.drop_zero,aRv (by omega)]at an;exact aR.1 ai E an ati
  ·obtain⟨y,bf⟩:=aR.2 ai aH mC;rw[List.drop_zero,aRv (by omega)]at bf;exact⟨y,bf⟩
 | aw a b hp gq=>
  refine⟨λ_ {id cX cs x} aH h _=>by simp[cx,dh]at aH,λai {l off n cs} aH h=>?_⟩;simp  [aa.ju]at ai;have join:∀ {y:a.aq} {z:b.aq},cw P a (th w) w ((cs.drop off).take a.size) y/\a.rz N y->cw P b (th w) w ((cs.drop (off+a.size)).take b.size) z/\b.rz N z->∃ y,cw P (.aw a b) (th w) w ((cs.drop off).take (aa.aw a b).size) y/\(aa.aw a b).rz N y:=by
   intro y z bf bz;refine⟨(y,z),⟨_,_,?_,bf.1,bz.1⟩,bf.2,bz.2⟩;simp  [aa.size];rw[List.take_add,List.drop_drop]
  match l,aH with
  | f::g::[],aH=>
   simp  [dh,bne_iff_ne]at aH;obtain⟨⟨⟨⟨aV,E⟩,_⟩,_⟩,⟨⟨⟨iG,aO⟩,_⟩,_⟩⟩:=aH;obtain⟨x,an,aA⟩:=h f (by simp);obtain⟨eS,oR,xk⟩:=h g (by simp);rw[cx.cells E]at an;rw[cx.cells aO]at oR;obtain⟨y,bf⟩:=hp.1 ai.1 E an aA;obtain⟨z,bz⟩:=gq.1 ai.2 aO oR xk;grind
  | f::g::e::gC,aH=>
   simp  [dh,bne_iff_ne]at aH;obtain⟨⟨⟨⟨aV,E⟩,_⟩,_⟩,aO⟩:=aH;obtain⟨x,an,aA⟩:=h f (by simp);rw[cx.cells E]at an;obtain⟨y,bf⟩:=hp.1 ai.1 E an aA;obtain⟨z,bz⟩:=gq.2 ai.2 aO λkF vV=>h kF (am2 _ vV);grind
 | slice e aR=>
  refine⟨λai {id cX cs x} aH h pK=>?_,λ_ {l off n cs} h=>by simp[dh]at h⟩;obtain⟨i,hu,he,cQ⟩:=aH.sl;have S_:=he.cells;rcases DataW.trod_slice hu h with⟨rfl,_⟩ | ⟨a,len,cap,elems,b9,n,rfl,rfl,an,_,Mr,xb,mG,gh,aca,_⟩
  ·exact⟨[],⟨none,0,rfl,amY _,by decide,λ_=>rfl,λp ak=>by omega⟩,aQF _,λy bf=>by grind⟩
  ·rw[an]at pK;have km:0<P.cellsOf i:=by omega
   have key:∀ j,j<len->∃ bE y,w.cells? 0 (a.add (j*P.cellsOf i)) (P.cellsOf i)=some bE/\cw P e (th w) w bE y/\e.rz N y:=by
    intro j aM;have:=gh j aM;rw[am3 (by omega)]at this;obtain⟨bE,E,M⟩:=Option.bind_eq_some_iff.1 this;obtain⟨y,bf⟩:=aR.1 ai he M (am5 (U.J' _ _ _ (aQ' (amV _))) pK);grind
   have atj:0<cap->a.spot=none/\a.block<w.heap.size:=by
    intro hc;have:∃ bE,w.cells? 0 (a.add (0*P.cellsOf i)) (P.cellsOf i)=some bE:=by
     by_cases KO:0<len
     ·grind
     ·obtain⟨m1,m2⟩:=aca rfl;have:=m2 0 (by omega);rw[am3 (by omega)]at this;obtain⟨bE,E,_⟩:=Option.bind_eq_some_iff.1 this;grind
    obtain⟨bE,E⟩:=this;have aF:a.add (0*P.cellsOf i)=a:=by unfold Addr.add;simp
    obtain⟨aO,aT,_⟩:=ab' E km;grind
   have:∃ br:List e.aq,br.length=len/\∀ j (aM:j<br.length),∃ bE,w.cells? 0 (a.add (j*P.cellsOf i)) (P.cellsOf i)=some bE/\cw P e (th w) w bE br[j]/\e.rz N br[j]:=by
    clear gh mG h Mr aca pK;induction len with
    | zero=>simp
    | succ m atk=>
     obtain⟨br,mc,dj⟩:=atk λj aM=>key j (by omega);obtain⟨bE,y,E,M⟩:=key m (by omega);refine⟨br++[y],by grind,λj aM=>?_⟩;grind
   have atl:len<=N:=by have:=U.len (elems.map (·.1)) (b9.map (·.1));grind
   obtain⟨br,rfl,mc⟩:=this;have AO:maxLen<2 ^ 63:=by decide
   refine⟨br,⟨some a,cap,rfl,Mr,by omega,(by simp),λp ak C6=>?_⟩,atl,λy bf=>by
    obtain⟨j,aM,rfl⟩:=List.mem_iff_getElem.1 bf;grind⟩
   cases ak;obtain⟨aO,aT⟩:=atj C6;refine⟨aT,aO,λj aM=>?_⟩;obtain⟨bE,d1,d2,_⟩:=mc j aM;obtain⟨m1,m2,m3,m4⟩:=ab' d1 km;refine⟨bE,⟨aT,rfl,λq bC=>?_⟩,d2⟩;have aF:a.add (j*P.cellsOf i)=⟨a.block,a.off+j*e.size,none⟩:=by
    rw[S_];cases a;subst aO;unfold Addr.add;simp
   grind
 | array n e aR=>exact⟨λh=>by simp[aa.ju]at h,λh=>by simp[aa.ju]at h⟩
 | bP e aR=>exact⟨λh=>by simp[aa.ju]at h,λh=>by simp[aa.ju]at h⟩
 | map k v Ai Aj=>exact⟨λh=>by simp[aa.ju]at h,λh=>by simp[aa.ju]at h⟩
 | fn a b hp gq=>exact⟨λh=>by simp[aa.ju]at h,λh=>by simp[aa.ju]at h⟩
 | cI a aR=>exact⟨λh=>by simp[aa.ju]at h,λh=>by simp[aa.ju]at h⟩
 | eY=>exact⟨λh=>by simp[aa.ju]at h,λh=>by simp[aa.ju]at h⟩
 | cP e aR=>exact⟨λh=>by simp[aa.ju]at h,λh=>by simp[aa.ju]at h⟩
theorem acb(U:FV b){t:aa}(ai:t.ju=true){id:TypeId}(aH:cx P t id){base:Nat}{v:Value}{d:DataW H}{bw:List MemPlace}(b8:Value.okWide P w .any base id v)
  (h:DataW.Trod enc P w 0 (λ_=>true) true id v d bw) (pK:b d<=N):∃ y,ft P t (th w) w v y/\t.rz N y:=by
 obtain⟨n,aA⟩:=h;obtain⟨y,bf,aC⟩:=(atg U t).1 ai aH aA pK;refine⟨y,⟨?_,bf⟩,aC⟩;cases t with
 | bool=>
  have hu:P.underlying id=some .bool:=by
   unfold cx at aH;simp  [dh]at aH;grind
  simp  [Value.okWide,Cell.okWide,Cell.ok]at b8;cases v<;>first | rfl | grind
 | int k=>
  simp  [Value.okWide,aH.int,Cell.okWide,Cell.ok]at b8;cases v<;>first | rfl | grind
 | str=>
  simp  [Value.okWide,aH.str,Cell.okWide,Cell.ok]at b8;cases v<;>first | rfl | grind
 | dc=>simp[cx,dh]at aH
 | ae t=>
  obtain⟨gC,hu⟩:=aH.ae;simp  [Value.okWide,hu]at b8;obtain⟨cs,rfl,hc,_⟩:=b8;exact⟨cs,rfl,hc.trans aH.cells⟩
 | aw a b=>simp[cx,dh]at aH
 | slice e=>
  obtain⟨i,hu,_⟩:=aH.sl;simp  [Value.okWide,Cell.okWide,Cell.ok]at b8;cases v<;>first | rfl | grind
 | array n e=>simp[aa.ju]at ai
 | bP e=>simp[aa.ju]at ai
 | map k v=>simp[aa.ju]at ai
 | fn a b=>simp[aa.ju]at ai
 | cI a=>simp[aa.ju]at ai
 | eY=>simp[aa.ju]at ai
 | cP e=>simp[aa.ju]at ai
def BA(P:Program):List TypeId->aa->Bool
 | [id],t=>dh P t (.inl id)&&t.ju
 | id::ids,.aw a b=>dh P a (.inl id)&&a.ju&&BA P ids b
 | _,_=>false
theorem acd(U:FV b):∀ (ids:List TypeId) (ts:aa) {base:Nat} {aI:List Value} {bE:List (DataW H)} {bw:List MemPlace},BA P ids ts=true->DataW.TrodAll enc P w 0 (λ_=>true) true ids aI bE bw->
  (∀ (j:Nat) t v,ids[j]?=some t->aI[j]?=some v->Value.okWide P w .any base t v)->(∀ d∈bE,b d<=N)->∃ x,gB P ts (th w) w aI x/\ts.rz N x
 | [],ts,_,aI,bE,bw,h,_,_,_=>by simp[BA]at h
 | [id],t,_,aI,bE,bw,h,kZ,b8,pK=>by
  simp  [BA]at h;obtain⟨v0,S',d0,Ta,KS,mT,rfl,rfl,rfl,aV,y4⟩:=trodAll_cons kZ;obtain⟨rfl,rfl,rfl⟩:=trodAll_nil y4;obtain⟨y,⟨Bo,xx⟩,aC⟩:=acb U h.2 h.1 (b8 0 id v0 rfl rfl) aV (pK _ (aRz ..));refine⟨y,⟨?_,by simp_all⟩,aC⟩;cases t<;>first | exact⟨v0,rfl,Bo⟩ | (simp[dh]at h;done)
 | id::ZY::ids,ts,base,aI,bE,bw,h,kZ,b8,pK=>by
  cases ts with
  | aw a b=>
   simp  [BA]at h;obtain⟨v0,S',d0,Ta,KS,mT,rfl,rfl,rfl,aV,y4⟩:=trodAll_cons kZ;obtain⟨y,⟨Bo,xx⟩,aC⟩:=acb U h.1.2 h.1.1 (b8 0 id v0 rfl rfl) aV (pK _ (aRz ..));obtain⟨z,⟨Ms,atm⟩,aB⟩:=acd U (ZY::ids) b h.2 y4 (λj t v E M=>b8 (j+1) t v (by grind) (by grind)) λd ay=>pK d (am2 _ ay);exact⟨(y,z),⟨⟨Bo,Ms⟩,_,_,anc _ _,xx,atm⟩,aC,aB⟩
  | _=>simp[BA]at h
theorem ace(ai:laidOutB P=true){w':World}{acf:Nat->Bool}:∀ (ids:List TypeId) {aI:List Value} {bE:List (DataW H)} {bw:List MemPlace},(ids.all λt=>P.readableRec t&&decide (t<P.types.size))=true->
  DataW.TrodAll enc P w 0 (λ_=>true) true ids aI bE bw->(∀ p∈bw,w.sameAt w' p)->(∀ p∈bw,acf p.block=true)->DataW.TrodAll enc P w' 0 acf true ids aI bE bw
 | [],_,_,_,_,h,_,_=>by
  obtain⟨rfl,rfl,rfl⟩:=trodAll_nil h;rfl
 | id::ids,aI,bE,bw,D,h,E,M=>by
  simp only[aRd,amX,am0]at D;obtain⟨v0,S',d0,Ta,KS,mT,rfl,rfl,rfl,aV,y4⟩:=trodAll_cons h;exact trodAll_cons_mk (Go.WideElems.Trod_stays ai D.1.1 D.1.2 aV (λp ak=>E p (aRC _ ak)) (λp ak=>M p (aRC _ ak)))
   (ace ai ids D.2 y4 (λp ak=>E p (aQY _ ak)) (λp ak=>M p (aQY _ ak)))
theorem am9(U:FV b){k:FuncId}{fn:Func}{ts:aa}{sh:ts.aq->L (aa.bool).aq}{spec:ChangeSpec}{rt:TypeId}(atn:laidOutB P=true)(AV:hI P k ts .bool sh)(ato:∀ x,ts.j5 x->ts.rz N x->c8 (sh x) λy=>y=true)
  (fv:BA P fn.params.toList ts=true) (atp:(fn.params.toList.all λt=>P.readableRec t&&decide (t<P.types.size))=true) (gY:fn.resultTypes=#[rt]) (atq:P.underlying rt=some .bool)
  (ag:spec.vars=[]) (ho:∀ (H:Type) (bE:List (DataW H)),bE.length=fn.params.size->spec.fn H bE={ results:=[.lit (.bool true)],args:=bE })
  {base:Nat} {args:Array Value} {bE gs:List (DataW H)} {before:List MemPlace} (BB:∀ (j:Nat) t v,fn.params[j]?=some t->args[j]?=some v->Value.okWide P w .any base t v)
  (wZ:DataW.Whole enc P fn.params.toList spec.vars false w args.toList bE gs before) (pK:∀ d∈bE,b d<=N) (fm:pj P (th w) w:=by exact λb U=>absurd (show b<0 from U) (Nat.not_lt_zero b)) :
  Calls P k args w λe tc=>∃ v,e=.returned v/\spec.post enc P fn false true false false w args v tc:=by
 have dx:=wZ.lt;have acg:=wZ;obtain⟨p,q,kZ,Tb,rfl,xa,_⟩:=wZ;have bC:gs=[]/\q=[]:=by
  rw[ag]at Tb;cases gs with
  | nil=>exact⟨rfl,Tb⟩
  | cons _ _=>exact Tb.elim
 obtain⟨rfl,rfl⟩:=bC;simp  at acg dx xa;obtain⟨x,an,aC⟩:=acd U fn.params.toList ts fv kZ (λj t v E M=>BB j t v (by grind) (by grind)) pK;obtain⟨ax,au⟩:=ato x (D4 ts an.2) aC;have hy:bE.length=fn.params.size:=by
  have:∀ (ids:List TypeId) {aI:List Value} {bE:List (DataW H)} {bw:List MemPlace},DataW.TrodAll enc P w 0 (λ_=>true) true ids aI bE bw->bE.length=ids.length:=by
   intro ids;induction ids with
   | nil=>intro aI bE bw h;obtain⟨rfl,rfl,rfl⟩:=trodAll_nil h;rfl
   | cons id ids aR=>intro aI bE bw h;obtain⟨v0,S',d0,Ta,KS,mT,rfl,rfl,rfl,aV,y4⟩:=trodAll_cons h;grind
  grind
 have hc:=AV.iv (th w) w args.toList x (λ_ h=>h) fm an ax;refine hc.mono λe tc ⟨v,y,he,bf,D,U⟩=>?_;obtain⟨aI,cn,cN⟩:=D;have atr:v=.bool true:=by
  subst cn;obtain⟨⟨u,hu,j6⟩,q_⟩:=cN;simp  [l8]at j6;simp  [cw]at q_;grind
 subst atr;have vL:∀ p'∈p,w.sameAt tc p':=by
  intro p' ak;have E:=U.block _ (dx p' ak);cases p' with
  | cell b off=>simp  [World.sameAt,World.cell?];simp  [MemPlace.block]at E;grind
  | map b=>exact E
 refine⟨_,he,bE,[],p,[],p,[],acg,?_,?_,?_,?_,λh=>by grind⟩
 ·rw[aQD,ho H bE hy,gY];exact trodAll_cons_mk (shut_bool atq true) trodAll_mk0
 ·rw[aQD,ho H bE hy];exact ace atn _ atp kZ vL λp' ak=>by grind
 ·rw[ag,aQD,ho H bE hy];rfl
 ·refine⟨U.os,U.output,λi G=>?_⟩;have E:=U.block i G;grind
end
section
variable {af bet fs A rho:Type}
abbrev bg(x:A):L (aL A bet):=mpure (.az x)
abbrev b4(x:rho):L (aL A (aL rho bet)):=ar (mpure (.az x)) λr=>mpure (.aX r)
abbrev pL(x:bet):L (aL A bet):=ar (mpure x) λr=>mpure (.aX r)
abbrev j0(m:L bet):L (aL A bet):=ar m λr=>mpure (.aX r)
abbrev ed(l:List af)(m:L bet):L bet:=ah (b2 (Add.add l.length (Add.add 0 1))) m
abbrev gF(l:List af)(m:L bet):L bet:=ah ((0:Int)<=0/\0<Int.ofNat l.length) m
abbrev bY(i:Int)(l:List af)(m:L bet):L bet:=ah (0<=i/\i<Int.ofNat l.length) m
abbrev gx(i:Int)(l:List af)(m n:L bet):L bet:=if decide (i<Int.ofNat l.length) then ah (0<=i/\i<Int.ofNat l.length) m else n
abbrev hy(i:Int)(l:List af)(m n:bet):bet:=if decide (i<Int.ofNat l.length) then m else n
abbrev bl(p:Prop)[Decidable p](m n:bet):bet:=if decide p then m else n
abbrev bJ(b:Bool)(m n:bet):bet:=if b then m else n
abbrev bS(f:A->L (aL A (aL rho bet)))(x:A)(g:rho->L bet):L bet:=ar (dI f x) (aL.fQ g)
abbrev cy(m:L (aL rho bet))(g:rho->L bet):L bet:=ar m (aL.fQ g)
abbrev bh(x:Int):Int:=IntKind.wrap .i64 (Add.add x 1)
abbrev e1(x y:Int):Int:=IntKind.wrap .i64 (Add.add x y)
abbrev cF(x y:Int):Int:=IntKind.wrap .i64 (x-y)
abbrev gG(l:List af)(d:af):af:=l.getD (Int.toNat 0) d
abbrev bF(l:List af)(i:Int)(d:af):af:=l.getD i.toNat d
abbrev aY(l:List af):Int:=Int.ofNat l.length
abbrev di(x:bet):L (aL A (aL rho bet)):=ar (ar (mpure x) λr=>mpure (.aX r)) λr=>mpure (.aX r)
abbrev fx(l:List af)(m:L bet):L bet:=ah (b2 (Add.add 0 l.length)) m
abbrev cj(b:Bool)(m:L af)(d:af)(f:af->L bet):L bet:=ar (uC b m d) f
abbrev rA(m:L Bool):Bool:=!(L.val m false)
abbrev nf(m:L Bool):Bool:=L.val m false
abbrev v_(m:L Int):Int:=L.val m 0
abbrev cu(x y:af)[Decidable (x=y)]:Bool:=decide (x=y)
abbrev jq(x y:af)[Decidable (x≠y)]:Bool:=decide (x≠y)
abbrev fZ(x y:Int):Bool:=decide (x<y)
abbrev dr(x y:Int):Bool:=decide (x>y)
abbrev hY(x y:Int):Bool:=decide (x<=y)
abbrev jL:L Bool:=mpure false
abbrev ku:L Bool:=mpure true
abbrev dy(c:L af)(m:L bet):L bet:=ah c.fr m
abbrev ho(f:af×bet->Bool)(l:List (af×bet)):Option bet:=Option.map (λx=>x.2) (List.find? f l)
abbrev vH(x y:Int):Int:=if x>y then x else y
end
end Go.Fer
namespace Go.Fer.Sk
open Go.Proofs
abbrev bX:aa:=.int .i64
abbrev cU:aa:=.int .i64
abbrev hd:aa:=.bool
abbrev e5:aa:=.int .u8
abbrev ats:aa:=.int .u8
abbrev att:aa:=.ae (.aw bX (.aw cU (.aw hd ats)))
abbrev kM:aa:=.str
abbrev atu:aa:=.str
abbrev atv:aa:=.str
abbrev atw:aa:=.int .i32
abbrev HX:aa:=.ae (.aw cU cU)
abbrev D5:aa:=.ae (.aw cU (.aw cU HX))
abbrev HY:aa:=.slice D5
abbrev gy:aa:=.slice cU
abbrev D6:aa:=.ae (.aw cU (.aw gy HX))
abbrev Mt:aa:=.slice D6
abbrev y5:aa:=.ae Mt
abbrev HZ:aa:=.slice y5
abbrev H0:aa:=.ae (.aw cU (.aw cU (.aw cU cU)))
abbrev Mu:aa:=.slice H0
abbrev qB:aa:=.ae (.aw HY (.aw HZ (.aw cU Mu)))
abbrev BC:aa:=.ae (.aw cU (.aw cU (.aw cU (.aw cU gy))))
abbrev Mv:aa:=.slice BC
abbrev y6:aa:=.ae (.aw gy (.aw HX (.aw cU (.aw cU cU))))
abbrev Mw:aa:=.slice y6
abbrev uQ:aa:=.ae (.aw cU (.aw cU cU))
abbrev H2:aa:=.slice uQ
abbrev t32:aa:=.ae (.aw qB (.aw gy (.aw Mv (.aw Mw (.aw H2 cU)))))
abbrev ti:aa:=.slice HX
abbrev ly:aa:=.ae (.aw cU (.aw cU (.aw cU (.aw cU (.aw cU cU)))))
abbrev qC:aa:=.slice ly
abbrev Tc:aa:=.ae (.aw cU (.aw cU (.aw cU (.aw cU (.aw cU (.aw cU cU))))))
abbrev wY:aa:=.ae (.aw ti (.aw qC (.aw gy (.aw ti Tc))))
abbrev Ad:aa:=.ae (.aw t32 wY)
abbrev nS:aa:=.slice kM
abbrev uR:aa:=.ae (.aw cU cU)
abbrev PS:aa:=.slice uR
abbrev atx:aa:=.fn nS hd
abbrev aty:aa:=.int .i64
abbrev Ka:aa:=.ae (.aw cU (.aw cU (.aw cU cU)))
abbrev ach:aa:=.fn kM hd
abbrev rB:aa:=.slice e5
abbrev tj:aa:=.ae Ad
abbrev atz:aa:=.bP tj
abbrev aci:aa:=.eY
abbrev Td:aa:=.ae (.aw cU (.aw hd aci))
abbrev Te:aa:=.map kM Td
abbrev atA:aa:=.slice cU
abbrev acj:aa:=.ae (.aw cU cU)
abbrev ack:aa:=.slice acj
abbrev acm:aa:=.ae (.aw cU (.aw cU cU))
abbrev acn:aa:=.map acm cU
abbrev H3:aa:=.ae (.aw t32 (.aw ack acn))
abbrev rC:aa:=.bP H3
abbrev atB:aa:=.fn gy hd
abbrev atC:aa:=.cI gy
abbrev aco:aa:=.ae (.aw cU (.aw cU cU))
abbrev atD:aa:=.slice aco
abbrev acp:aa:=.fn y6 hd
abbrev D7:aa:=.slice rB
abbrev acq:aa:=.slice D7
abbrev atE:aa:=.int .i64
abbrev atF:aa:=.ae (.aw cU cU)
abbrev acr:aa:=.bP (.array 153 .dc)
abbrev qD:aa:=.ae (.aw acr rB)
abbrev atG:aa:=.cI nS
abbrev atH:aa:=.cI nS
abbrev tk:aa:=.ae (.aw ly cU)
abbrev Tf:aa:=.slice tk
abbrev Tg:aa:=.array 10 Tf
abbrev H4:aa:=.ae (.aw gy Tg)
abbrev sa:aa:=.bP H4
abbrev Th:aa:=.slice sa
abbrev uS:aa:=.ae (.aw wY (.aw qC Th))
abbrev y7:aa:=.bP uS
abbrev acs:aa:=.fn cU hd
abbrev atI:aa:=.fn y7 hd
abbrev atJ:aa:=.fn (.aw ly cU) hd
abbrev atK:aa:=.cI (.aw ly cU)
abbrev acu:aa:=.fn sa (.aw cU hd)
abbrev Mx:aa:=.map cU cU
abbrev Ti:aa:=.cI cU
abbrev atL:aa:=.cI cU
abbrev Tj:aa:=.fn cU cU
abbrev atM:aa:=.slice cU
abbrev Tk:aa:=.fn rB hd
abbrev atN:aa:=.fn e5 hd
abbrev atO:aa:=.bP e5
abbrev atP:aa:=.bP qB
abbrev atQ:aa:=.bP y5
abbrev atS:aa:=.array 4 kM
abbrev Tl:aa:=.fn ly hd
abbrev My:aa:=.slice gy
abbrev BD:aa:=.ae (.aw qB My)
abbrev acv:aa:=.bP BD
abbrev acw:aa:=.int .u64
abbrev acx:aa:=.fn D6 hd
abbrev acy:aa:=.int .i64
abbrev acz:aa:=.ae (.aw cU (.aw cU cU))
abbrev atT:aa:=.map acz cU
abbrev acA:aa:=.fn BC hd
abbrev acB:aa:=.fn uQ hd
abbrev Mz:aa:=.map cU ly
abbrev acC:aa:=.slice qC
abbrev acD:aa:=.fn H0 hd
abbrev atU:aa:=.int .u32
abbrev acE:aa:=.int .u64
abbrev atV:aa:=.bP acy
abbrev acF:aa:=.fn D5 hd
abbrev acG:aa:=.fn y5 hd
abbrev atW:aa:=.int .i64
abbrev atX:aa:=.int .i64
abbrev H5:aa:=.fn (.aw tk tk) cU
abbrev acH:aa:=.int .u64
abbrev atY:aa:=.bP cU
abbrev atZ:aa:=.array 24 e5
abbrev at0:aa:=.bP acH
abbrev at1:aa:=.array 256 e5
abbrev acI:aa:=.ae (.aw e5 e5)
abbrev at2:aa:=.array 16 acI
abbrev acJ:aa:=.ae kM
abbrev at3:aa:=.bP acJ
abbrev at4:aa:=.array 20 acE
abbrev at5:aa:=.array 65 e5
abbrev at6:aa:=.array 32 e5
abbrev at7:aa:=.array 64 e5
abbrev aua:aa:=.int .u8
def xF:List (Nat×aa):=[(2,bX),(3,cU),(4,hd),(5,e5),(8,att),(9,kM),(10,atu),(11,atv),(21,atw),(22,HY),(23,HZ),(24,Mu),(26,qB),(27,gy),(28,Mv),(29,Mw),(30,H2),(32,t32),(33,ti),(34,qC),(36,Tc),(38,wY),(40,Ad),(41,nS),(42,PS),(43,atx),(45,aty),(60,Ka),(79,BC),(89,ach),(94,uR),(95,rB),(96,atz),(98,Te),(102,tj),(103,atA),(109,HX),(111,y6),(113,uQ),(116,ly),(123,rC),(127,atC),(128,atD),(141,acp),(142,acq),(146,D7),(147,atE),(149,atF),(153,acr),(155,qD),(156,atG),(157,atH),(167,aci),(170,Td),(177,D5),(179,H0),(180,Mt),(182,y5),(184,D6),(190,y7),(193,acs),(194,atI),(197,sa),(198,atK),(201,acu),(202,Mx),(203,Th),(205,uS),(207,tk),(211,Ti),(212,atL),(214,Tf),(215,Tg),(217,Tj),(218,acn),(219,ack),(221,H3),(225,acm),(228,acj),(230,atB),(234,aco),(236,atM),(241,Tk),(247,atN),(252,atO),(260,atP),(264,atQ),(275,atS),(284,Tl),(286,atJ),(288,H4),(291,acv),(295,My),(297,BD),(300,acw),(304,acx),(306,acy),(315,atT),(317,acz),(319,acA),(320,acB),(324,Mz),(327,acC),(343,acD),(346,atU),(349,acE),(352,atV),(353,acF),(355,acG),(363,atW),(375,atX),(383,H5),(385,acH),(389,atY),(397,atZ),(407,at0),(410,at1),(412,acI),(413,at2),(415,at3),(417,acJ),(419,at4),(420,at5),(428,at6),(429,at7),(437,aua)]
theorem qE:ei Tryz.prog (ry xF):=ab8 (by kernel_rfl)
theorem D8:Tryz.prog.follows .mixedOrders=true:=by kernel_rfl
def xG(_:Nat):Option aQ:=none
theorem D9:lP Tryz.prog xG:=λk c h=>by cases h
def dV:dX:={ tZ:=λ_=>none,t_:=λ_=>none }
theorem lz:q2 Tryz.prog dV where
 tZ:=λk v h=>by cases h
 t_:=λk v h=>by cases h
end Go.Fer.Sk
namespace Go.Fer
open Go.RowKit
def jN.mI(c:jN):aQ:=⟨c.ts,.aw c.aS .dc,λx=>(c.sh x).fr,λx=>((c.sh x).val c.aS.dW,())⟩
end Go.Fer
namespace Go.Fer
variable {af:Type}{p:Prop}
theorem aub{m n:L af}(h:n.fr->p)(k:a_ m n):a_ (ah p m) n:=λax=>⟨⟨h ax,(k ax).1⟩,(k ax).2⟩
theorem tl{o:Option af}{x:af}(h:o=some x):o.isSome=true:=by rw[h];rfl
def Tm(ts:aa)(x:ts.aq)(n:Nat):Nat->Prop
 | 0=>True
 | k+1=>Tm ts x n k/\HT (kh ts x (n+k))
theorem acK{ts:aa}{x:ts.aq}{n:Nat}:∀ {k:Nat},Tm ts x n k->∀ i,i<k->HT (kh ts x (n+i))
 | 0,_,i,h=>by omega
 | k+1,hc,i,h=>by
  by_cases e:i=k
  ·rw[e];exact hc.2
  ·exact acK hc.1 i (by omega)
theorem acL(ts:aa)(x:ts.aq):∀ (l:List Nat) (i:Nat),fw (l.map λi=>(i,kh ts x i)) i=if i∈l then kh ts x i else .undef
 | [],i=>by simp[fw]
 | j::l,i=>by
  simp only[aQ0,fw];by_cases e:i=j
  ·subst e;simp
  ·rw[if_neg e,acL ts x l i];simp[e]
theorem uT{ts:aa}{x:ts.aq}{n:Nat}(h:Tm ts x n (xD ts - n)):HU n (r' ts x):=λi G=>by
 show HT (fw (HR ts x (xD ts)) i);unfold HR;rw[acL];split
 ·rename_i hm;rw[aR9]at hm;have aA:¬i<n:=λh=>G (.inl h);have:=acK h (i - n) (by omega);rwa [show n+(i - n)=i by omega]at this
 ·trivial
theorem bA{n:Int}(E:-9223372036854775808<=n:=by omega)(M:n<9223372036854775808:=by omega):IntKind.i64.wrap n=n:=by
 show (if (true&&decide (n % 2 ^ 64>=(2 ^ (64 - 1):Int)))=true then n % 2 ^ 64 - 2 ^ 64 else n % 2 ^ 64)=n;grind
theorem dn(a b:Int):Add.add a b=a+b:=rfl
theorem kv(a b:Nat):Add.add a b=a+b:=rfl
theorem Tn(a b:List af):Append.append a b=a++b:=rfl
theorem cD(n:Nat):Int.ofNat n=(n:Int):=rfl
variable {x:Bool}{c:Bool}{d:Bool}
theorem v':(x||!(if (!x)=true then c else d))=(x||!c):=by grind
theorem To:(x||(if (!x)=true then c else d))=(x||c):=by grind
theorem xH:(x&&(if x=true then c else d))=(x&&c):=by grind
section
variable {af bet fs A rho:Type}
theorem bu{m:L af}{v:af}(h:p->m=mpure v):a_ m (eF p v):=λak=>by
 rw[h ak];exact⟨trivial,λ_ bf=>bf⟩
theorem tm{m:L af}{v:af}(h:p->c8 m λy=>y=v):a_ m (eF p v):=λak=>h ak
theorem iK{v d:af}:(eF p v).val d=v:=by
 unfold L.val;have h:∃ x,(eF p v).a8 x:=⟨v,rfl⟩
 rw[dif_pos h];exact h.choose_spec
theorem kN{v d:af}:(mpure v).val d=v:=iK (p:=True)
theorem sb{v:af}:(eF p v).fr=p:=rfl
theorem sc{v:af}:(eF p v).GY:=λ_ _ h k=>h.trans k.symm
theorem ml{g:Bool}{v d:af}:uC g (eF p v) d=eF (g=true->p) (if g=true then v else d):=by
 cases g
 ·exact (bO (by simp) _).symm
 ·simp[uC]
theorem ov{g:Bool}{v d:af}:uC g (mpure v) d=mpure (if g=true then v else d):=by cases g<;>rfl
theorem db{f:A->L bet}{x:A}:aL.fQ f (.az x:aL A bet)=f x:=rfl
theorem uU{f:A->L bet}{r:bet}:aL.fQ f (.aX r:aL A bet)=mpure r:=rfl
end
def fa{af bet rho:Type}(f:af->bet->aL bet rho)(fin:bet->rho):List af->bet->rho
 | [],b=>fin b
 | x::l,b=>match f x b with
  | .az bk=>fa f fin l bk
  | .aX r=>r
variable {A:Type}{bet:Type}{rho:Type}
def aL.pM(g:bet->A):aL bet rho->aL A rho
 | .az b=>.az (g b)
 | .aX r=>.aX r
theorem eW{body:A->L (aL A rho)}{s0:A}(l:List af)(mk:Nat->bet->A)(f:af->bet->aL bet rho)(fin:bet->rho)(I:Nat->bet->Prop)(b:bet)(qy:s0=mk 0 b)(aV:I 0 b)
  (ax:∀ i (h:i<l.length) b,I i b->body (mk i b)=mpure (aL.pM (mk (i+1)) (f l[i] b))/\∀ bk,f l[i] b=.az bk->I (i+1) bk)
  (aC:∀ b,I l.length b->body (mk l.length b)=mpure (.aX (fin b))):dI body s0=mpure (fa f fin l b):=by
 subst qy;have key:∀ (k:Nat) (r:List af) (b:bet),k<=l.length->r=l.drop k->I k b->dI body (mk k b)=mpure (fa f fin r b):=by
  intro k r;induction r generalizing k with
  | nil=>
   intro b aj D fk;have:k=l.length:=by have:=congrArg List.length D;grind
   subst this;exact vo (aC b fk)
  | cons x r aR=>
   intro b aj D fk;have dx:k<l.length:=by
    grind
   rw[aQy dx]at D;injection D with an D
   obtain⟨E,M⟩:=ax k dx b fk;rw[<-an]at E M;simp only[fa];cases vV:f x b with
   | az bk=>
    rw[vV]at E;rw[CY E];grind
   | aX jS=>
    rw[vV]at E;exact vo E
 grind
theorem e2{body:A->L (aL A rho)}{s0:A}(l:List af)(mk:Nat->bet->A)(f:af->bet->aL bet rho)(fin:bet->rho)(b:bet)(qy:s0=mk 0 b)
  (ax:∀ i (h:i<l.length) b,body (mk i b)=mpure (aL.pM (mk (i+1)) (f l[i] b)))
  (aC:∀ b,body (mk l.length b)=mpure (.aX (fin b))):dI body s0=mpure (fa f fin l b):=
 eW l mk f fin (λ_ _=>True) b qy trivial (λi h b _=>⟨ax i h b,λ_ _=>trivial⟩) λb _=>aC b
section
variable {af bet rho:Type}
theorem uV{p:af->Bool}{r:rho}{fin:bet->rho}:∀ (l:List af) (b:bet),fa (λx b=>if p x=true then .aX r else .az b) fin l b=if l.any p=true then r else fin b
 | [],b=>by rfl
 | x::l,b=>by
  simp only[fa,aRr,aQH];by_cases h:p x=true
  ·simp[h]
  ·have h:p x=false:=by grind
   simp only[h,amW,aQv,false_or];exact uV l b
theorem MA{p:af->Bool}{r:rho}{fin:bet->rho}:∀ (l:List af) (b:bet),fa (λx b=>if p x=true then .az b else .aX r) fin l b=if l.all p=true then fin b else r
 | [],b=>by rfl
 | x::l,b=>by
  simp only[fa,aRd,amX];by_cases h:p x=true
  ·simp only[h,if_true,aSi];exact MA l b
  grind
theorem ew{h:bet->af->bet}{fin:bet->rho}:∀ (l:List af) (b:bet),fa (λx b=>.az (h b x)) fin l b=fin (l.foldl h b)
 | [],b=>rfl
 | x::l,b=>by simp only[fa,aQQ];exact ew l (h b x)
theorem H6{p:af->Bool}:∀ (l:List af) (b:List af),l.foldl (λb x=>if p x=true then b++[x] else b) b=b++l.filter p
 | [],b=>by simp
 | x::l,b=>by
  simp only[aQQ,List.filter_cons];rw[H6 l];grind
theorem pN{fs:Type}{g:af->fs}:∀ (l:List af) (b:List fs),l.foldl (λb x=>b++[g x]) b=b++l.map g
 | [],b=>by simp
 | x::l,b=>by simp only[aQQ,aQ0];rw[pN l];simp
end
theorem acM{p q:af->Bool}(h:∀ x,p x=!q x)(l:List af):l.any p=!l.all q:=by
 grind
theorem ng{p q:af->Bool}{r:rho}{fin:bet->rho}(l:List af)(b:bet)(h:∀ x,p x=!q x):fa (λx b=>if p x=true then .aX r else .az b) fin l b=if l.all q=true then fin b else r:=by
 rw[uV,acM h];grind
theorem pO{mk:bet->A}{b:bet}{r:rho}:(if c=true then mpure (aL.aX r) else mpure (aL.az (mk b)))=mpure (aL.pM mk (if c=true then .aX r else .az b)):=by cases c<;>rfl
theorem acN{mk:bet->A}{b:bet}{r:rho}:(if c=true then mpure (aL.aX r) else mpure (aL.az (mk b)))=mpure (aL.pM mk (if c=true then .aX r else .az b)):=by cases c<;>rfl
variable {i:Nat}
theorem dQ{l:Nat}(h:i<l):decide ((i:Int)<(l:Int))=true:=by grind
theorem dH{l:Nat}(h:i<l):((0:Int)<=(i:Int)/\(i:Int)<(l:Int))=True:=by grind
theorem d'{l:List af}{d:af}(h:i<l.length):l.getD (Int.toNat (i:Int)) d=l[i]:=by
 grind
theorem BE{l:List af}{i:Int}{d:af}(aV:0<=i)(h:i<(l.length:Int)):l.getD i.toNat d∈l:=by
 grind
def fy(a b:Int):z1':=(List.range (b - a+1).toNat).map λ(i:Nat)=>a+(i:Int)
theorem D_(a b:Int):(fy a b).length=(b - a+1).toNat:=by simp[fy]
theorem H7{a b:Int}(h:i<(fy a b).length):(fy a b)[i]=a+i:=by simp[fy]
theorem rD{a b n:Int}:n∈fy a b<->a<=n/\n<=b:=by
 simp only[fy,aRY,aR9];constructor
 ·omega
 ·rintro⟨E,M⟩;exact⟨(n - a).toNat,by omega,by omega⟩
end Go.Fer
namespace Go.Fer.Sk
open Go.Proofs
abbrev pP:Type:=List (Nat×jN)
def rE{af:Type}:List (Nat×af)->Nat->Option af
 | [],_=>none
 | p::l,k=>if k=p.1 then some p.2 else rE l k
theorem uW{af:Type}{k:Nat}{c:af}:∀ {l:List (Nat×af)},rE l k=some c->(k,c)∈l
 | [],h=>by cases h
 | p::l,h=>by
  unfold rE at h;split at h
  ·rename_i e;cases h;subst e;simp
  ·exact am2 _ (uW h)
def tn(T:pP):List (Nat×gw)->Nat->Option gw
 | [],k=>match rE T k with
  | some c=>some (.dL c)
  | none=>none
 | p::l,k=>if k=p.1 then some p.2 else tn T l k
def acO(k:Nat)(c:jN):Prop:=hI Tryz.prog k c.ts c.aS c.sh/\(c.Lj=true->∀ x,(c.sh x).GY)
structure lU(T:pP):Type where
 ok:∀ p∈T,acO p.1 p.2
variable {T:pP}
abbrev auc(_:lU T):pP:=T
def aud:lU []:=⟨λp h=>by cases h⟩
variable {n:Nat}{c:jN}
def lU.cons(h:lU T)(k:acO n c):lU ((n,c)::T):=⟨λp ak=>by
 rcases List.mem_cons.1 ak with rfl | ak
 ·exact k
 ·exact h.ok p ak⟩
def BF(aJ:dX):List (Nat×gw)->Prop
 | []=>True
 | p::l=>p.2.j5 Tryz.prog aJ p.1/\BF aJ l
theorem lU.D'{aJ:dX}{T:pP}(h:lU T):∀ {sp:List (Nat×gw)},BF aJ sp->pH Tryz.prog aJ (tn T sp)
 | [],_,k,c,e=>by
  unfold tn at e;split at e
  ·rename_i gr hc;cases e;exact h.ok (k,gr) (uW hc)
  ·cases e
 | p::l,ax,k,c,e=>by
  unfold tn at e;split at e
  ·rename_i aj;cases e;subst aj;exact ax.1
  ·exact lU.D' h (sp:=l) ax.2 k c e
def Ea:aa->List aa
 | .dc=>[]
 | .aw a b=>a::Ea b
 | t=>[t]
def acP:aa->aa
 | .bP t=>t
 | t=>t
def acQ{ts acR:aa}(e:acR=ts){aS:aa}(sh:ts.aq->L aS.aq):acR.aq->L aS.aq:=e ▸ sh
def Tp(sd:Nat)(c:jN):Option Kh:=
 if h:((Ea c.ts).take sd).all aa.hQ=true/\h3 ((Ea c.ts).take sd++(((Ea c.ts).drop sd).map acP).map .bP)=c.ts then some ⟨(Ea c.ts).take sd,((Ea c.ts).drop sd).map acP,c.aS,acQ h.2 c.sh⟩ else none
def acS:z9'->Nat->Option Nat
 | [],_=>none
 | p::l,k=>if k=p.1 then some p.2 else acS l k
def Eb(T:pP)(cl:z9')(MB:List (Nat×Am)):dX where
 tZ:=λk=>match rE T k with
  | some c=>some ⟨c.ts,c.aS,c.sh⟩
  | none=>none
 t_:=λk=>match acS cl k with
  | some sd=>match rE T k with
   | some c=>Tp sd c
   | none=>none
  | none=>none
 An:=rE MB
def H8:List (Nat×Am)->Prop
 | []=>True
 | p::l=>yr Tryz.prog p.1 p.2/\H8 l
theorem H8.mem:∀ {l:List (Nat×Am)},H8 l->∀ p∈l,yr Tryz.prog p.1 p.2
 | [],_,p,h=>by cases h
 | q::l,h,p,ak=>by
  rcases List.mem_cons.1 ak with rfl | ak
  ·exact h.1
  ·exact H8.mem h.2 p ak
theorem aue{k sd:Nat}{v:Kh}(h:hI Tryz.prog k c.ts c.aS c.sh)(e:Tp sd c=some v):v.as.all aa.hQ=true/\hI Tryz.prog k (h3 (v.as++v.cs.map .bP)) v.aS v.sh:=by
 unfold Tp at e;split at e
 ·rename_i dj;cases e;refine⟨dj.1,?_⟩;have key:∀ (ts:aa) (e:ts=c.ts),hI Tryz.prog k ts c.aS (acQ e c.sh):=by rintro _ rfl;exact h
  exact key _ dj.2
 ·cases e
theorem lU.u(h:lU T)(cl:z9')(MB:List (Nat×Am))(G:H8 MB):q2 Tryz.prog (Eb T cl MB) where
 tZ:=λk v e=>by
  simp only[Eb]at e;split at e
  ·rename_i c hc;cases e;exact (h.ok (k,c) (uW hc)).1
  ·cases e
 t_:=λk v e=>by
  simp only[Eb]at e;split at e
  ·split at e
   ·rename_i c hc;exact aue (h.ok (k,c) (uW hc)).1 e
   ·cases e
  ·cases e
 An:=λk v e=>G.mem (k,v) (uW e)
abbrev rF(fn:Func):Code:=fn.body.getD .skip
variable {fn:Func}
theorem Ec(h:fn.body.isSome=true):fn.body=some (rF fn):=by
 unfold rF;cases e:fn.body with
 | none=>rw[e]at h;cases h
 | some b=>rfl
abbrev Ed(fn:Func)(ts aS:aa):Bool:=fn.body.isSome&&HV fn (rF fn) ts aS
variable {aJ:dX}
theorem MC(aU:lU T)(iI:q2 Tryz.prog aJ){sp:List (Nat×gw)}(mj:BF aJ sp)(aC:Tryz.prog.funcs[n]?=some fn){ts aS:aa}{sh:ts.aq->L aS.aq}{ann:cZ}{S:ts.aq->L aS.aq}(ax:∀ x,a_ (S x) (sh x))(b8:Ed fn ts aS=true)(ai:∀ x,D0 aJ (ry xF) xG (tn T sp) fn (rF fn) ann ts aS x=S x):hI Tryz.prog n ts aS sh:=
 have b8:=amX _ _ ▸ b8
 ab6 D8 qE iI D9 (aU.D' mj) aC (Ec b8.1) b8.2 λx=>FZ (F0 (ai x)) (ax x)
def mk(aU:lU T)(aC:Tryz.prog.funcs[n]?=some fn)(c:aQ)(ann:cZ){S:c.ts.aq->L c.aS.aq}(ax:∀ x,a_ (S x) (c.sh x))(b8:Ed fn c.ts c.aS=true:=by kernel_rfl)(ai:∀ x,D0 dV (ry xF) xG (tn T []) fn (rF fn) ann c.ts c.aS x=S x:=by intro x;kernel_rfl):lU ((n,c.dL)::T):=
 aU.cons ⟨MC aU lz (sp:=[]) trivial aC ax b8 ai,λ_ _=>sc⟩
def nT(aU:lU T)(cl:z9')(aC:Tryz.prog.funcs[n]?=some fn)(c:aQ)(ann:cZ){S:c.ts.aq->L c.aS.aq}(ax:∀ x,a_ (S x) (c.sh x))(b8:Ed fn c.ts c.aS=true:=by kernel_rfl)(ai:∀ x,D0 (Eb T cl []) (ry xF) xG (tn T []) fn (rF fn) ann c.ts c.aS x=S x:=by intro x;kernel_rfl):lU ((n,c.dL)::T):=
 aU.cons ⟨MC aU (aU.u cl [] trivial) (sp:=[]) trivial aC ax b8 ai,λ_ _=>sc⟩
def nU(aU:lU T)(iI:q2 Tryz.prog aJ)(sp:List (Nat×gw))(mj:BF aJ sp)(aC:Tryz.prog.funcs[n]?=some fn)(c:aQ)(ann:cZ){S:c.ts.aq->L c.aS.aq}(ax:∀ x,a_ (S x) (c.sh x))(b8:Ed fn c.ts c.aS=true:=by kernel_rfl)(ai:∀ x,D0 aJ (ry xF) xG (tn T sp) fn (rF fn) ann c.ts c.aS x=S x:=by intro x;kernel_rfl):lU ((n,c.dL)::T):=
 aU.cons ⟨MC aU iI mj aC ax b8 ai,λ_ _=>sc⟩
def lA(aU:lU T)(cl:z9')(aC:Tryz.prog.funcs[n]?=some fn)(c:aQ)(sd:Nat)(ann:cZ){S:c.ts.aq->L c.aS.aq}(ax:∀ x,a_ (S x) (c.sh x))(hc:∀ x,c.pre x->HU sd (r' c.ts x):=by intro x h;obtain⟨f,aC,_⟩:=h;exact uT ⟨trivial,tl aC⟩)(b8:Ed fn c.ts c.aS=true:=by kernel_rfl)
  (ai:∀ x,fY (Eb T cl []) (ry xF) xG (tn T []) ann (rF fn) (Mn sd (r' c.ts x)) (y3 (ry xF) fn.results.toList c.aS)=S x:=by intro x;kernel_rfl):lU ((n,c.dL)::T):=
 have b8:=amX _ _ ▸ b8
 aU.cons ⟨as_ (n:=sd) D8 qE (aU.u cl [] trivial) D9 (aU.D' (sp:=[]) trivial) aC (Ec b8.1) b8.2 λx=>aub (hc x) (FZ (F0 (ai x)) (ax x)),λ_ _=>sc⟩
variable {c:cO}
theorem ey(aU:lU T)(sp:List (Nat×gw))(mj:BF aJ sp)(aC:Tryz.prog.funcs[n]?=some fn)(ann:cZ){S:c.cC.aq->L c.a8.aq}(ax:∀ x,a_ (S x) (c.sh x))(b8:(fn.body.isSome&&D2 fn (rF fn) c.k1 c.lu)=true:=by kernel_rfl)(ai:∀ x,Mp aJ (ry xF) xG (tn T sp) fn (rF fn) ann c.cC c.a8 c.lu x=S x:=by intro x;kernel_rfl):cW Tryz.prog aJ n c:=
 have b8:=amX _ _ ▸ b8
 S7 D8 qE D9 (aU.D' mj) aC (Ec b8.1) b8.2 λx=>FZ (F0 (ai x)) (ax x)
theorem Tq(aC:Tryz.prog.funcs[n]?=some fn)(ax:∀ x,¬(c.sh x).fr)(b8:(fn.body.isSome&&D2 fn (rF fn) c.k1 c.lu)=true:=by kernel_rfl):cW Tryz.prog aJ n c:=
 have b8:=amX _ _ ▸ b8
 S7 D8 qE D9 (Psi:=λ_=>none) (λk c h=>by cases h) (ann:=.fe) aC (Ec b8.1) b8.2 λx h=>absurd h (ax x)
end Go.Fer.Sk
namespace Go.Fer
open Go.RowKit
theorem auf{P:Program}{aJ:dX}{k:FuncId}{ts e:aa}(uM:ts≠.dc){c:cO}(h:cW P aJ k c)(iI:q2 P aJ){sh:ts.aq->L (aa.slice e).aq}{b0:Nat}(mk:ts.aq->c.cC.aq)
    (Tr:∀ x,c.cC.ae (mk x)=⟨fw ((List.range (jV ts)).map λi=>(i,kh ts x i)),λ_=>⟨0,.ez⟩⟩) (aA:c.k1=jV ts) (jo:c.k1<=fD) (Ts:c.lu=[none]) (val:c.a8.aq->List e.aq)
    (qz:∀ bn,(c.a8.ae bn).aD 0=.own b0 0/\(c.a8.ae bn).ab b0=⟨0,.bo e (val bn)⟩)
    (mY:∀ x,(sh x).fr->(c.sh (mk x)).fr/\∀ bn,(c.sh (mk x)).a8 bn->val bn=(sh x).val (aa.slice e).dW):qf (jN.mI ⟨ts,.slice e,sh,true⟩).aS=true/\GC P k (jN.mI ⟨ts,.slice e,sh,true⟩):=by
  refine⟨rfl,h.enter,?_⟩;intro (x:ts.aq) (ax:(sh x).fr) y bf F w args bq fm (fv:gB P ts F w args x);cases bf;obtain⟨kg,DU⟩:=vD (H:=λ_=>⟨0,.ez⟩) (kap:=λ_=>⟨0,0,0,false⟩) ts fv uM;let C:cJ:={ P:=P,et:=w,jE:=F,K0:=λr=>r<w.heap.size,b3:=c.k1,r:=none,dm:=[],kf:=λ_=>none,cK:=⟨0,.dc,λ_=>False,λ_ _ _ _ _=>False⟩,aW:=aJ }
  have vT:∀ i,fw ((List.range (jV ts)).map λi=>(i,kh ts x i)) i=.undef\/(i<jV ts/\fw ((List.range (jV ts)).map λi=>(i,kh ts x i)) i=kh ts x i):=λi=>by
    rcases S2 (l:=(List.range (jV ts)).map λi=>(i,kh ts x i)) (i:=i) with e | e
    · exact .inl e
    · refine .inr ?_
      generalize bz:fw ((List.range (jV ts)).map λi=>(i,kh ts x i)) i=z at e
      simp only[aRY,aR9,aQx]at e
      obtain⟨j,aM,rfl,rfl⟩:=e
      exact⟨aM,rfl⟩
  have D:bx C (c.cC.ae (mk x)) { tmps:=args.toArray,defers:=[] } w (λ_=>⟨0,0,0,false⟩) F:=by
    rw[Tr];refine { dY := ?_, dm := rfl, b5 := λi => ?_, bH := λb => trivial, own := λb U => (by cases U), inj := λb bk U _ _ => (by cases U), du := bq, hT := λr D => .inl D, iy := λr D => D, iz := λr D => D, e6 := λr _ => rfl, size := amY _, eN := dN.refl w,hJ:=jo,ll:=λb r h=>(by cases h),iY:=λb r h=>(by cases h),ln:=λb k h=>(by cases h),jF:=λb k h=>(by cases h),e8:=λl aK ad n ae e=>?_,bU:=λe m hm=>(by cases hm),j7:=iI,h4:=fm }
    · grind
    · rcases vT i with e | ⟨G,e⟩
      · show bM _ _ _ _ _ (fw _ i) _
        rw[e];trivial
      · show bM _ _ _ _ _ (fw _ i) _
        rw[e]
        have:=DU i G
        simpa [aQu,am1]using this
    · rcases vT cd with h | ⟨h,_⟩
      · grind
      · unfold cd at h;unfold fD at jo;omega
  obtain⟨Hm,pA⟩:=mY x ax;refine (h.iv C _ w _ F (mk x) rfl rfl rfl rfl rfl rfl D Hm).mono λa1 w' ⟨v,bn,aI,bV,F',Ak,gN,uL,bm⟩=>?_;obtain⟨Tt,xI⟩:=qz bn;rw[Ts]at uL;obtain⟨us,nK,Hg,Bn⟩:=uL;obtain⟨u,rfl⟩:∃ u,us=[u]:=by
    match us,nK with
    | [u],_=>simp
  have MD:aI=[u]:=by
    obtain⟨_,MD,M⟩:=Bn;rw[MD,M]
  have ag:v=u:=by simpa using Hg
  have fH:=bm.b5 0;rw[Tt,MD]at fH;have Ee:u=(bV b0).slice ((c.a8.ae bn).ab b0).body.len:=by
    have:=fH.2 (by rw[xI]) (by rw[xI];rfl);simp_all
  rw[xI]at Ee;have a6:=bm.bH b0;unfold c1 at a6;rw[xI]at a6;obtain⟨E,M⟩:=a6;have BB:val bn=(sh x).val (aa.slice e).dW:=pA bn gN;refine⟨bV b0,F',by rw[Ak,ag,Ee];simp only[ca.len];rw[BB];rfl,bm.iy,λr acT=>?_,λaA=>?_,λaA=>?_,bm.eN.os,bm.eN.tape,bm.eN.output,bm.size,bm.e6⟩
  · rcases bm.hT r acT with dj | dj
    · exact .inl dj
    · exact .inr ⟨aSe dj,bm.du r acT⟩
  · have:=E aA
    rw[BB]at this
    exact this
  · have au:=bm.own b0 (by rw[xI];simp[ca.cg,aA])
    obtain⟨cs,T,bI,c2,c3,c4,c5⟩:=M aA
    rw[BB]at c3 c5
    exact⟨⟨aSe au.2.2,au.1,au.2.1⟩,cs,T,bI,c2,c3,c4,c5⟩
end Go.Fer
namespace Go.Fer
abbrev bZ:Type:=z12'
abbrev xJ:Type:=bZ×List (z1')
abbrev hf(l:z4')(a b:Int):z4':=oQ (k:=.int .i64) (v:=.int .i64) l a b
abbrev y8(l:z7')(a:z15')(b:Int):z7':=oQ (k:=.ae (.aw (.int .i64) (.aw (.int .i64) (.int .i64)))) (v:=.int .i64) l a b
def Tu{fs:Type}(x:bZ)(fin:bZ->L fs):L fs:=
 fx x.1 (fx x.2.2.2 (bS (λ(A:Int×bZ×Int×Int×z3'×z3'×List (List (z17'))×Unit)=>letI p:=A.2.1.2.1;letI m:=A.2.2.2;hy A.1 p (cy (bY A.1 p (fx (bF p A.1 []) (bS (λA=>letI n:=A.2.2.2;letI k:=n.2.2.2;letI l:=bF k.2.1 A.2.1 (0,[],0,0);gx A.2.1 k.2.1 (fx l.2.1 (bY A.2.1 k.2.1 (bg (A.1,bh A.2.1,A.2.2.1,n.1,n.2.1,n.2.2.1,k.1,List.set k.2.1 A.2.1.toNat (l.1,[]++l.2.1,l.2.2),k.2.2.1,())))) (b4 (A.1,A.2.2.1,n.1,n.2.1,n.2.2.1,k.1,k.2.1,k.2.2.1,()))) (A.1,0,A.2.1,A.2.2.1,m.1,m.2.1,m.2.2.1,[]++bF p A.1 [],m.2.2.2.1,()) (λA=>letI o:=A.2.2.2.2;ed o.2.2.2.1 (bg (A.1,A.2.1,A.2.2.1,A.2.2.2.1,o.1,o.2.1,o.2.2.2.1++[o.2.2.1],())))))) (λA=>letI q:=A.2.2.2;bg (bh A.1,A.2.1,A.2.2.1,q.1,q.2.1,q.2.2.1,q.2.2.2.1,()))) (b4 (A.2.2.1,m.1,m.2.1,m.2.2.1,m.2.2.2.1,()))) (0,x,0,x.2.2.1,[]++x.1,[]++x.2.2.2,[],()) (λA=>fin (A.2.2.1,A.2.2.2.2.1,A.2.1,A.2.2.2.1))))
variable (aug:z12'->L Bool) (Tv:z12'->L Int) (ME:z19'->L Bool) (auh:z12'->L (z11')) (aNb:z12'->L (List (z1'))) (aui:bZ×Int×Int->L Bool) (aNc:bZ×z1'×z4'->L Int) (aNd:z1'×List (z1')->L Int) (aNe:bZ×z4'->L (List (z1'))) (acU:bZ×Int->L Bool) (acV:bZ×Int×Int->L Bool) (MF:z12'->L Int) (auj:bZ×Int×Int×Int×Int->L Bool) (auk:bZ×z1'×z4'->L Bool) (acW:z1'->L Bool) (se:z15'->L Bool) (aul:bZ×Int->L Bool) (aNf:bZ×Bool->L Int) (aNg:bZ×Int×Int×Int->L Int) (aNh:bZ×z1'->L Bool) (aNi:bZ×List (z1')×z19'->L Int) (aNj:bZ×Int->L (List (z1'))) (acX:z11'->L Bool) (aum:z17'->L Bool) (aNk:bZ×Int->L (z1')) (aNl:z11'->L Int) (aNm:bZ×Int×Int×Int->L Int) (aun:z1'×(Int->L Bool)->L Int) (aNn:z4'×(z11'->L Bool)->L Int) (aNo:List (z17')×(z17'->L Bool)->L Int) (aNp:z3'×(z28'->L Bool)->L Int) (aNq:List (List (z17'))×(List (z17')->L Bool)->L Int) (aNr:z3'×(z28'->L Bool)->L Int) (acY:z19'->L Int) (Ef:z11'->L (z11'))
def Tw(x:bZ×Int):L Bool:=
 ar (se (x.2,0,cF (aY x.1.1) 1)) λy=>mpure y
def MG(x:bZ×Int×Int):L Bool:=
 ar (aul (x.1,x.2.1)) λy=>ah (y=true->(y=true/\y=true)/\(0<=x.2.1/\x.2.1<aY x.1.2.1)/\True) (cj y (se (x.2.2,0,cF (aY (bF x.1.2.1 x.2.1 [])) 1)) false (λcp=>mpure (y&&cp)))
def Tx(x:z12'):L Int:=
 ar (aug x) λy=>bJ (!y) (mpure 70) (bS (λA=>hy A.1 A.2.1.2.2.2 (bS (λA=>letI e:=A.2.2.1.2.2.2;letI g:=bF e A.1 (0,0,0,0);letI f:=bF e A.2.1 (0,0,0,0);bl (A.2.1<A.1) (bY A.2.1 e (bY A.1 e (bJ (cu f.1 g.1&&cu f.2.1 g.2.1&&cu f.2.2.1 g.2.2.1&&jq f.2.2.2 g.2.2.2) (j0 (j0 (di 71))) (bg (A.1,bh A.2.1,A.2.2.1,()))))) (b4 (A.1,A.2.2.1,()))) (A.1,0,A.2.1,()) (λA=>bg (bh A.1,A.2.1,()))) (b4 ())) (0,x,()) (λA=>mpure 0))
def acZ(x:bZ×Int×Int×Int×Int):L Bool:=
 letI h:=bF x.1.2.1 x.2.2.2.1 [];letI g:=bF x.1.1 x.2.1 (0,0,0,0);letI f:=bF h x.2.2.2.2 (0,[],0,0);letI i:=cu g.1 f.1;bY x.2.1 x.1.1 (bY x.2.2.2.1 x.1.2.1 (bY x.2.2.2.2 h (cj i (ME (f.2.1,g.2.1)) false (λy=>cj (i&&y) (se (x.2.2.1,f.2.2.1,e1 f.2.2.2 x.1.2.2.1)) false λcp=>mpure (i&&y&&cp)))))
def Ty(x:z1'):L Bool:=
 bS (λA=>gx A.2.1 A.1 (bY (cF A.2.1 1) A.1 (bl (bF A.1 A.2.1 0<=bF A.1 (cF A.2.1 1) 0) (di false) (bg (A.1,bh A.2.1,())))) (b4 ())) (x,1,()) λA=>ku
def auo(x:z15'):L Bool:=
 mpure (decide (x.1>=x.2.1)&&hY x.1 x.2.2)
def Tz(x:bZ×Int):L Bool:=
 ar (se (x.2,0,cF (aY x.1.2.1) 1)) λy=>mpure y
def TA(x:z12'):L Bool:=
 letI n:=dr (aY x.1) 10||dr (aY x.2.1) 6;cj (!n) (se (x.2.2.1,0,99)) false λy=>bJ (n||!y||dr (aY x.2.2.2) 30) jL (bS (λA=>letI l:=bF A.2.1.1 A.1 (0,0,0,0);gx A.1 A.2.1.1 (ar (se (l.1,0,9)) (λy=>cj (!(!y)) (se (l.2.1,0,9)) false λcp=>cj (!(!y||!cp)) (acX l.2.2) false λef=>bJ (!y||!cp||!ef) (di false) (bg (bh A.1,A.2.1,())))) (b4 (A.2.1,()))) (0,x,()) (λA=>bS (λA=>hy A.1 A.2.1.2.1 (cy (bY A.1 A.2.1.2.1 (bl (aY (bF A.2.1.2.1 A.1 []) > 4) (j0 (di false)) (dI (λA=>letI o:=A.2.2.1;letI m:=bF o.2.1 A.1 [];bY A.1 o.2.1 (hy A.2.1 m (bY A.1 o.2.1 (bY A.2.1 m (ar (aum (bF m A.2.1 (0,[],0,0))) (λy=>bJ (!y) (j0 (j0 (di false))) (bg (A.1,bh A.2.1,o,())))))) (b4 (A.1,o,())))) (A.1,0,A.2.1,())))) (λA=>bg (bh A.1,A.2.1,()))) (b4 (A.2.1,()))) (0,A.1,()) λA=>bS (λA=>letI k:=bF A.2.1.2.2.2 A.1 (0,0,0,0);gx A.1 A.2.1.2.2.2 (ar (acU (A.2.1,k.1)) (λy=>cj (!(!y)) (acV (A.2.1,k.2.1,k.2.2.1)) false λcp=>cj (!(!y||!cp)) (se (k.2.2.2,0,1)) false λef=>bJ (!y||!cp||!ef) (di false) (bg (bh A.1,A.2.1,())))) (b4 ())) (0,A.1,()) λA=>ku))
def TB(x:z11'):L Bool:=
 ar (se (x.1,0,x.2)) λy=>mpure (y&&hY x.2 999)
def TC(x:z17'):L Bool:=
 bS (λA=>gx A.1 A.2.1.2.1 (ar (se (bF A.2.1.2.1 A.1 0,0,9)) (λy=>if !y then di false else bg (bh A.1,A.2.1,()))) (b4 (A.2.1,()))) (0,x,()) λA=>ar (se (A.1.1,0,9)) λy=>letI c:=y&&hY (aY A.1.2.1) 4;cj c (acW A.1.2.1) false λcp=>cj (c&&cp) (acX A.1.2.2) false λef=>mpure (c&&cp&&ef)
def ac0(aNs:z11'->L (z11'))(aup:z11'->L (z11'))(x:z11'):L (z11'):=
 ar (aup x) λy=>mpure y
def ac1(x:z19'):L Bool:=
 ar (acY x) λy=>mpure (decide (y>=0))
def ac2(x:z11'):L (z11'):=
 ah ((0:Int)<=32) (ah ((0:Int)<=32) (ah ((0:Int)<=32) (ah ((0:Int)<=32) (ah ((0:Int)<=32) (mpure (IntKind.wrap .u64 (Add.add (IntKind.wrap .u64 (Add.add (IntKind.wrap .u64 (lp .u64 x.1 32*lp .u64 x.2 32)) (lp .u64 (IntKind.wrap .u64 (Add.add (IntKind.wrap .u64 (lp .u64 x.1 32*n' .u64 x.2 4294967295)) (lp .u64 (IntKind.wrap .u64 (n' .u64 x.1 4294967295*n' .u64 x.2 4294967295)) 32))) 32))) (lp .u64 (IntKind.wrap .u64 (Add.add (n' .u64 (IntKind.wrap .u64 (Add.add (IntKind.wrap .u64 (lp .u64 x.1 32*n' .u64 x.2 4294967295)) (lp .u64 (IntKind.wrap .u64 (n' .u64 x.1 4294967295*n' .u64 x.2 4294967295)) 32))) 4294967295) (IntKind.wrap .u64 (n' .u64 x.1 4294967295*lp .u64 x.2 32)))) 32)),IntKind.wrap .u64 (x.1*x.2)))))))
def TD(x:z19'):L Int:=
 bS (λA=>letI b:=A.2.2.2.1;bl (b<A.2.2.1) (bY b A.1 (bl (A.2.1=bF A.1 b 0) (di b) (bg (A.1,A.2.1,A.2.2.1,bh b,())))) (b4 ())) (x.1,x.2,aY x.1,0,()) λA=>mpure (-1)
end Go.Fer
namespace Go.Fer
variable (aNt:z12'->L (z19')) (aNu:Int->L Int) (aNv:Int->L (z1')) (auq:z12'->L Bool) (aNw:bZ×z1'×z4'->L (Option (List (z1')×z34')×Int)) (aNx:Option (List (z1')×z34')×Int->L (z1')) (aNy:Option (List (z1')×z34')×z25'->L (z14')) (ac3:bZ×Bool->L (Option xJ×Int)) (MH:bZ×Int->L Bool) (ac4:bZ×Int×Int->L Bool) (aur:z1'->L Bool) (aus:Option xJ×Int×Int×Int->L Int) (aut:z1'×(Int->L Bool)->L Bool) (aNz:z4'×(z11'->L Bool)->L Bool) (aNA:z1'×z25'->L (z14')) (y9:z15'->L Bool) (aNB:Option xJ×z1'×Int->L Int) (aNC:Int×Option bZ->L Bool) (auu:z3'×(z28'->L Bool)->L Bool) (auv:List (List (z17'))×(List (z17')->L Bool)->L Bool) (Eg:z12'->L Int) (ac5:z3'×(z28'->L Bool)->L Bool) (auw:List (z17')×Option (z17'->L Bool)->L Bool) (auy:(z28')×Option bZ->L Bool) (auz:z28'->L Bool) (auA:z17'->L Bool) (auB:(z28')×Option Int×Option bZ×Option Int->L Bool) (ac6:bZ×Int×Int×Int×Int->L Bool) (MI:z1'×(Int->L Bool)->L Bool) (aND:Int×Option (Int->L Bool)->L Bool) (auC:z11'->L Int) (aNE:Option xJ×z1'×Int->L (z4')) (aNF:z4'×(z11'->L Bool)->L Bool) (aNG:(z11')×Option (z11'->L Bool)->L Bool) (MJ:Int->L Bool) (ac7:z11'->L Bool) (auD aNH:List (z17')×(z17'->L Bool)->L Bool) (aNI:(z17')×Option (z17'->L Bool)->L Bool) (aNJ:z3'×(z28'->L Bool)->L Bool) (aNK:(z28')×Option (z28'->L Bool)->L Bool) (aNL:List (List (z17'))×(List (z17')->L Bool)->L Bool) (aNM:List (z17')×Option (List (z17')->L Bool)->L Bool) (aNN:z3'×(z28'->L Bool)->L Bool) (aNO:(z28')×Option (z28'->L Bool)->L Bool) (BG:z19'->L Bool) (aNP:Int×List (z1')×z1'×z14'->L (z1'×List (z1')×z1'×z14')) (aNQ:Int×List (z1')×z1'×z1'×z4'×Unit->L (Bool×List (z1')×z1'×z1'×z4'×Unit)) (aNR:(z11')×Option bZ->L Bool) (aNS:Int->L Bool)
def TE(x:z12'):L Int:=
 ar (auq x) λy=>bJ (!y) (mpure 70) (bS (λ(A:z3'×Int×Int×z7'×Unit)=>letI f:=A.2.2;letI d:=bF A.1 f.1 (0,0,0,0);letI e:=Option.map (λx=>x.2) (List.find? (λp=>cu d.1 p.1.1&&(cu d.2.1 p.1.2.1&&cu d.2.2.1 p.1.2.2)) f.2.1);bl (f.1<A.2.1) (bY f.1 A.1 (bJ (e.isSome&&jq (e.getD 0) d.2.2.2) (di 71) (bg (A.1,A.2.1,bh f.1,y8 f.2.1 (d.1,d.2.1,d.2.2.1) d.2.2.2,())))) (b4 ())) (x.2.2.2,aY x.2.2.2,0,[],()) (λA=>mpure 0))
def TF(x:bZ×Int):L (z23'):=
 letI d:=ac3 (x.1,nf (MH x));letI b:=L.val d (none,0);letI e:=(b.1.getD (([],[],0,[]),[])).2;letI c:=bF e x.2 [];dy (MH x) (dy d (bl (b.2≠0) (mpure ((0,0),b.2)) (ah b.1.isSome (bY x.2 e (gF c (bY (cF (aY c) 1) c (mpure ((gG c 0,c.getD (Int.toNat (cF (aY c) 1)) 0),0))))))))
def TG(x:bZ×Int×Int×Int):L (z11'):=
 letI g:=ac4 (x.1,x.2.2);letI f:=MH (x.1,x.2.1);letI c:=nf f;letI e:=c=true;letI d:=ac3 (x.1,c&&nf g);dy f (ah (e->(e/\e/\e/\True)/\g.fr/\True) (ah (True/\(e->e)) (dy d (bl ((L.val d (none,0)).2≠0) (mpure (0,(L.val d (none,0)).2)) (ar (aus ((L.val d (none,0)).1,x.2)) (λy=>mpure (y,0)))))))
def ac8(x:z12'):L Bool:=
 cj (hY (aY x.1) 10) (auu (x.1,auz)) false λy=>letI d:=hY (aY x.1) 10&&y&&hY (aY x.2.1) 6;cj d (auv (x.2.1,λx=>auw (x,some auA))) false λcp=>cj (d&&cp) (y9 (x.2.2.1,0,99)) false λef=>letI e:=d&&cp&&ef&&hY (aY x.2.2.2) 30;cj e (ac5 (x.2.2.2,λjv=>auy (jv,some x))) false λhg=>mpure (e&&hg)
def TH(x:bZ×Bool):L (Option xJ×Int):=
 ar (Eg x.1) λy=>bl (y≠0) (mpure (none,y)) (bJ (!x.2) (mpure (none,1)) (bS (λA=>letI t:=A.2.2.1;letI u:=bF A.1 t (0,0,0,0);letI n:=A.2.2.2.2;bl (t<A.2.1) (cy (bY t A.1 (bS (λA=>letI o:=A.2.2.2;letI l:=o.2.2.2;letI v:=l.2.2;letI p:=v.2.2;bl (l.2.1<=o.2.2.1.2.2.2) (cy (ar (ac5 (o.1.2.2.2,λx=>auB (x,some o.2.1,some o.1,some l.2.1))) (λy=>bJ y (ed l.1 (bg (A.1,A.2.1,A.2.2.1,o.1,o.2.1,o.2.2.1,l.1++[l.2.1],l.2.1,v.1,v.2.1,p.1,p.2.1,p.2.2.1,()))) (bg (A.1,A.2.1,A.2.2.1,o.1,o.2.1,o.2.2.1,l.1,l.2.1,v.1,v.2.1,p.1,p.2.1,p.2.2.1,())))) (λA=>letI w:=A.2.2.2;letI m:=w.2.2.2;bg (A.1,A.2.1,A.2.2.1,w.1,w.2.1,w.2.2.1,m.1,bh m.2.1,m.2.2.1,m.2.2.2.1,m.2.2.2.2.1,m.2.2.2.2.2.1,m.2.2.2.2.2.2.1,()))) (b4 (A.1,A.2.1,A.2.2.1,o.1,l.1,v.1,v.2.1,p.1,p.2.1,p.2.2.1,()))) (A.1,A.2.1,t,A.2.2.2.1,t,u,[],u.2.2.1,n.1,n.2.1,n.2.2.1,n.2.2.2.1,n.2.2.2.2.1,()) (λA=>letI q:=A.2.2.2.2;bl (aY q.1=0) (j0 (di (none,3))) (ah True (ed q.2.2.2.2.2.1 (ah True (bg (A.1,A.2.1,A.2.2.1,A.2.2.2.1,q.2.1,q.2.2.1,q.2.2.2.1,q.2.2.2.2.1,q.2.2.2.2.2.1++[q.1],())))))))) (λA=>letI s:=A.2.2.2.2;bg (A.1,A.2.1,bh A.2.2.1,A.2.2.2.1,s.1,s.2.1,s.2.2.1,s.2.2.2.1,s.2.2.2.2.1,()))) (b4 (n.1,n.2.1,n.2.2.1,n.2.2.2.1,n.2.2.2.2.1,()))) (x.1.1,aY x.1.1,0,x.1,x.1.1,x.1.2.1,x.1.2.2.1,x.1.2.2.2,[],()) (λA=>mpure (some ((A.1,A.2.1,A.2.2.1,A.2.2.2.1),A.2.2.2.2.1),0))))
def auE(x:bZ×Int):L Bool:=
 ar (y9 (x.2,0,cF (aY x.1.1) 1)) λy=>mpure y
def ac9(x:bZ×Int×Int):L Bool:=
 ar (y9 (x.2.1,0,cF (aY x.1.2.1) 1)) λy=>ah (y=true->(y=true/\y=true)/\(0<=x.2.1/\x.2.1<aY x.1.2.1)/\True) (cj y (y9 (x.2.2,0,cF (aY (bF x.1.2.1 x.2.1 [])) 1)) false (λcp=>mpure (y&&cp)))
def TI(x:Option xJ×Int×Int×Int):L Int:=
 letI i:=(x.1.getD (([],[],0,[]),[])).2;cy (ah x.1.isSome (bY x.2.1 i (dI (λA=>letI l:=A.2.2;letI h:=l.2.2;letI k:=h.2.2.2.1;bl (k<h.2.2.1) (cy (bY k h.2.1 (ah A.1.isSome (ar (ac6 ((A.1.getD (([],[],0,[]),[])).1,A.2.1,bF h.2.1 k 0,l.1,l.2.1)) (λy=>bJ y (bg (A.1,A.2.1,l.1,l.2.1,bh h.1,h.2.1,h.2.2.1,k,())) (bg (A.1,A.2.1,l.1,l.2.1,h.1,h.2.1,h.2.2.1,k,())))))) (λA=>letI m:=A.2.2.2;bg (A.1,A.2.1,A.2.2.1,m.1,m.2.1,m.2.2.1,m.2.2.2.1,bh m.2.2.2.2.1,()))) (b4 (A.1,A.2.1,h.1,()))) (x.1,x.2.1,x.2.2.1,x.2.2.2,0,bF i x.2.1 [],aY (bF i x.2.1 []),0,())))) λA=>letI j:=(A.1.getD (([],[],0,[]),[])).2;ah A.1.isSome (bY A.2.1 j (ar (auC (A.2.2.1,aY (bF j A.2.1 []))) (λy=>mpure y)))
def auF(x:z1'):L Bool:=
 bS (λA=>gx A.2.1 A.1 (bY (cF A.2.1 1) A.1 (bl (bF A.1 A.2.1 0<=bF A.1 (cF A.2.1 1) 0) (di false) (bg (A.1,bh A.2.1,())))) (b4 ())) (x,1,()) λA=>ku
def auG(x:z15'):L Bool:=
 mpure (hY x.2.1 x.1&&hY x.1 x.2.2)
def ac_(x:z28'):L Bool:=
 ar (MJ x.1) λy=>cj y (MJ x.2.1) false λcp=>cj (y&&cp) (ac7 x.2.2) false λef=>mpure (y&&cp&&ef)
def ac'(x:Int):L Bool:=
 ar (y9 (x,0,9)) λy=>mpure y
def auH(x:z11'):L Bool:=
 ar (y9 (x.1,0,x.2)) λy=>mpure (y&&hY x.2 999)
def ada(x:z17'):L Bool:=
 ar (MJ x.1) λy=>letI b:=y&&hY (aY x.2.1) 4;cj b (aut (x.2.1,MJ)) false λcp=>cj (b&&cp) (aur x.2.1) false λef=>cj (b&&cp&&ef) (ac7 x.2.2) false λhg=>mpure (b&&cp&&ef&&hg)
def adb(x:List (z17')×Option (z17'->L Bool)):L Bool:=
 letI b:=decide (aY x.1<=4);cj b (auD (x.1,x.2.getD λx=>{ fr:=False,a8:=λx=>False })) false λy=>mpure (b&&y)
def ade(x:(z28')×Option bZ):L Bool:=
 letI b:=x.2.getD ([],[],0,[]);ar (MH (b,x.1.1)) λy=>cj y (ac4 (b,x.1.2.1,x.1.2.2.1)) false λcp=>cj (y&&cp) (y9 (x.1.2.2.2,0,1)) false λef=>mpure (y&&cp&&ef)
def adf(x:(z28')×Option Int×Option bZ×Option Int):L Bool:=
 letI h:=jq x.1.1 (x.2.1.getD 0);letI g:=ac6 (x.2.2.1.getD ([],[],0,[]),x.2.1.getD 0,x.2.2.2.getD 0,x.1.2.1,x.1.2.2.1);letI f:=(!h)=true;letI i:=f->f/\True/\True;ah i (ah i (ah (f->(f/\f/\f/\f/\f/\True)/\g.fr/\True) (ah i (ah (f->(f/\True)/\True/\True) (ah (f->(f/\f)/\True/\True) (ah (True/\(h=false->f)) (mpure (h||cu (nf g) (cu x.1.2.2.2 1)))))))))
def adg(x:bZ×Int×Int×Int×Int):L Bool:=
 letI h:=bF x.1.2.1 x.2.2.2.1 [];letI g:=bF x.1.1 x.2.1 (0,0,0,0);letI f:=bF h x.2.2.2.2 (0,[],0,0);letI i:=cu g.1 f.1;bY x.2.1 x.1.1 (bY x.2.2.2.1 x.1.2.1 (bY x.2.2.2.2 h (cj i (BG (f.2.1,g.2.1)) false (λy=>cj (i&&y) (y9 (x.2.2.1,f.2.2.1,e1 f.2.2.2 x.1.2.2.1)) false λcp=>mpure (i&&y&&cp)))))
def adh(x:z11'):L Int:=
 bl (x.1=x.2) (mpure 1) (bl (x.1=0) (mpure 2) (mpure 3))
end Go.Fer
namespace Go.Fer
variable (aNT:z12'->L Bool) (aNU:Unit->L Bool) (aNV:z12'->L (z11')) (aNW:z12'->L (z19')) (aNX:bZ×Unit->L (Int×z3'×z3'×List (List (z17'))×Unit)) (ME:z19'->L Bool) (adi:z12'->L bZ) (auk:bZ×z1'×z4'->L Bool) (acU:bZ×Int->L Bool) (aNY:bZ×z1'×z4'->L (z11')) (acV:bZ×Int×Int->L Bool) (aNZ:z34'->L Bool) (adj:z12'->L Bool) (Eg:z12'->L Int) (auh:z12'->L (z11')) (aN0 aN1:z12'->L (z19')) (aN2 aN3:bZ×z1'->L Bool) (aN4:z34'->L Bool) (acW:z1'->L Bool) (MF:z12'->L Int) (MK aN5:bZ×Int->L (z23')) (ML auI:bZ×Int×Int×Int->L (z11')) (aN6:bZ×bZ->L Bool) (aN7 aN8:bZ×z1'×Int->L (z11')) (aN9:bZ×z1'->L Bool) (aN_:bZ×Int×Int×Int->L Bool) (aui:bZ×Int×Int->L Bool) (aN':z27'->L Bool) (auj:bZ×Int×Int×Int×Int->L Bool) (aOa:bZ×z1'×z4'->L (z11')) (aOb aOc:bZ×z1'×z4'->L (z19')) (aOd:bZ×z1'×z4'×z1'->L Int) (aOe:z4'×z1'->L Bool) (aOf:bZ×z1'×z4'×z1'->L Int) (aOg:bZ×(z1'×z4')×z1'->L Int) (Tv:z12'->L Int) (adk:Unit->L bZ) (aOh:Unit->L (z4'))
def TJ(x:z12'):L Bool:=
 if dr (aY x.1) 40||dr (aY x.2.1) 40||dr (aY x.2.2.2) 60 then ku else bS (λA=>hy A.1 A.2.1.2.1 (cy (bY A.1 A.2.1.2.1 (bl (aY (bF A.2.1.2.1 A.1 []) > 20) (j0 (di true)) (dI (λA=>letI j:=A.2.2.1;letI h:=bF j.2.1 A.1 [];bY A.1 j.2.1 (hy A.2.1 h (bY A.1 j.2.1 (bY A.2.1 h (bl (aY (bF h A.2.1 (0,[],0,0)).2.1 > 20) (j0 (j0 (di true))) (bg (A.1,bh A.2.1,j,()))))) (b4 (A.1,j,())))) (A.1,0,A.2.1,())))) (λA=>bg (bh A.1,A.2.1,()))) (b4 (A.2.1,()))) (0,x,()) λA=>ar (MF A.1) λy=>bl (y≠0) jL (bS (λA=>letI i:=(bF A.2.1.1 A.1 (0,0,0,0)).2.2;gx A.1 A.2.1.1 (bY A.1 A.2.1.1 (bl (cF i.2 i.1>=50) (di true) (bg (bh A.1,A.2.1,())))) (b4 (A.2.1,()))) (0,A.1,()) (λA=>mpure (dr (aY A.1.1) 6||dr (aY A.1.2.1) 4||dr (aY A.1.2.2.2) 10)))
def auJ(x:Unit):L bZ:=
 mpure ([(1,2,300,310),(1,3,305,305),(2,1,50,60),(1,2,320,330)],[[(1,[2,3],300,306),(2,[1],40,58)],[(1,[2],310,326)]],5,[(0,1,0,0)])
end Go.Fer
