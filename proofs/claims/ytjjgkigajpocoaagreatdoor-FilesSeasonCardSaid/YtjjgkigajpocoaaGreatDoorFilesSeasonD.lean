/- Part 4 of the proof of FilesSeason: shallow programs of Go functions, and what they compute. No condition. -/
import Derived.Test.YtjjgkigajpocoaaGreatDoorFilesSeasonC
import Derived.RangeFuncIn
import Derived.RangeFuncRecord
import Derived.RangeFuncBound
import Derived.Scope
import Derived.RangeFuncLeaves
import Derived.OpenShut
import Derived.WideKeyArgs
import Derived.ChangeSame
import Derived.Test.YtjjgkigajpocoaaGreatDoorProg
import Derived.KernelRfl
noncomputable section
set_option linter.unusedVariables false
set_option linter.unusedSimpArgs false
namespace Go.Fer
open Go.RowKit
section
variable {C:cF} {T:Nat->V} {bs:Nat->Option aN} {Psi:Nat->Option gq} {s:aC} {o:Oper} {Q:Exit->Act->World->Prop} {ops:Array Oper}
theorem aq2{af:Type}{m:M af}(h:m.GC){d x:af}(ao:m.a7 x):x=m.val d:=by
 unfold M.val;have he:∃ x,m.a7 x:=⟨x,ao⟩
 rw[dif_pos he];exact h _ _ ao he.choose_spec
theorem aaG(dn:lE C.P bs)(dD:pz C.P C.aU Psi):lE C.P (KS bs Psi):=by
 intro k c h;unfold KS at h;split at h
 ·rename_i dI RY;split at h
  ·rename_i aw;cases h;simp only[amn,aPH]at aw;have h:=dD k _ RY;obtain⟨E,L⟩:hD C.P k dI.ts dI.aR dI.sh/\(dI.KP=true->∀ x,(dI.sh x).GC):=h;exact⟨λ_=>E.u' λx ay=>⟨ay,λy a_=>aq2 (L aw.1 x) a_⟩,λhe=>by rw[show p7 dI.KQ.aR=p7 dI.aR from rfl,aw.2]at he;cases he⟩
  grind
 ·rename_i gl hc;cases h;have h:p7 c.aR=true/\Gh C.P k c:=dD k _ hc;exact⟨λhe=>(by rw[h.1]at he;cases he),λ_=>h.2⟩
 ·cases h
 ·exact dn k c h
variable {bet:Type}
theorem Lw{m:M bet}{O:bet->Prop}:∀ (l:List Prop),c6 (yE l m) O->(∀ p∈l,p)/\c6 m O:=by
 intro l;induction l with
 | nil=>intro h;exact⟨λp aj=>(by grind),h⟩
 | cons p l aO=>
  intro h;simp  [yE]at h;rw[h6]at h;grind
theorem aaH{cO cJ:Bool}{cy c:Prop}(E:cO=true->cy)(L:cJ=true->c)(h:∀ p∈Gy cO cJ cy c,p):cy/\c:=by
 unfold Gy at h;constructor
 ·cases cO<;>simp_all
 ·cases cJ<;>simp_all
variable {a:Act}{w:World}
theorem aq3(aT:ed C.P T)(dn:lE C.P bs)(aw:mU o C.bV=true){r:eT}(h:vr C.aU T bs ops s o=some r)(hc:∀ p∈r.cs,p)(D:dc C s a w){K:Act->World->Prop}
  (kG:∀ a' w',dc C (r.jV s) a' w'->K a' w') :
  if Region.wanted o (yielded ops a.tmps) then o.wpIn (eZ C.r) 0 C.P a w K Q else (∀ f,o.about C.P w a.eval=some f->(eZ C.r).fn f)/\K (a.put o.dst undef) w:=by
 have bh:∀ i,o.dst=some i->i<C.bV:=λi G=>by
  have:=aw;simp  [mU]at this;grind
 obtain⟨kap,F,gZ⟩:=D;unfold vr at h;split at h
 ·grind
 ·rename_i g aD;rw[Lq gZ aD];split at h
  ·grind
  ·rename_i res gW;split at h
   ·cases h;obtain⟨E,L⟩:=aaH (λU=>(Zy U).run s.aa res gW) (λU=>(Gw U).run s.aa res gW) hc;exact Oper.wpIn_mono kG (C6 aT dn aw gW a w kap F Q gZ E L)
   ·rename_i b;split at h
    ·rename_i yM;cases h;have hc:∀ p∈Gy (ud (be C.aU s.az) o&&(vq (be C.aU s.az) o&&!res.ho.C3)) true (b=true->res.cy/\(res.c/\(use res.ho).1)) True,p:=hc;obtain⟨E,_⟩:=aaH (λU=>by
      simp  at U;exact λ_=>⟨(Zy U.1).run s.aa _ gW,(Gw U.2.1).run s.aa _ gW,Kw U.2.2⟩) (λ_=>trivial) hc
     obtain⟨cy,c,ho,jC⟩:=res;subst yM;cases b with
     | true=>
      obtain⟨E,L,ak⟩:=E rfl;refine Oper.wpIn_mono (λa' w' bj=>kG a' w' ?_) (C6 aT dn aw gW a w kap F Q gZ E L);exact dc.Rr   bj bh λkap F v ae=>⟨λ_=>qN ae ak,λh=>(by grind)⟩
     | false=>
      exact⟨λ_ _=>trivial,kG _ _ ⟨kap,F,gZ.set   bh ⟨λh=>(by grind),λ_=>rfl⟩⟩⟩
    grind
theorem aaI(cl:List (List Nat)):∀ n,Dh cl n<=n/\∀ j,Dh cl n<=j->j<n->∀ i,i<j->i∈cl.getD j []
 | 0=>⟨amo _,λj _ h=>by omega⟩
 | n+1=>by
  unfold Dh;split
  ·obtain⟨E,L⟩:=aaI cl n;refine⟨by omega,λj aJ R6 i G=>?_⟩;by_cases e:j=n
   ·simp_all
   grind
  grind
variable {n:Nat}
theorem aq4(q4:C9 ops.toList=true)(R7:∀ j,n<=j->j<ops.size->∀ i,i<j->i∈(jG ops.toList).getD j []):∀ (k j cZ:Nat) (listed:Array Bool) (a:Act) (w:World),n<=j->j+k=ops.size->listed.size=ops.size->
  (∀ i,listed.getD i false=decide (i<j))->k<=cZ->wpOpsIn (eZ C.r) 0 C.P ops Q (List.range' j k) a w->wpAnyIn (eZ C.r) 0 C.P .any ops Q cZ listed a w:=by
 intro k;induction k with
 | zero=>
  intro j cZ listed a w aq5 aq6 cI ah ax h;have D:∀ i,i ∉ Region.ready .any ops listed:=λi G=>by
   rw[mem_ready]at G;grind
  have i':=List.eq_nil_iff_forall_not_mem.2 D;cases cZ with
  | zero=>exact⟨i',h⟩
  | succ cZ=>exact⟨λ_=>h,λi G=>absurd G (D i)⟩
 | succ k aO=>
  intro j cZ listed a w aq5 aq6 cI ah ax h;have aJ:j<ops.size:=by omega
  cases cZ with
  | zero=>omega
  | succ cZ=>
   have xl:∀ q o,ops[q]?=some o->listed.getD q false=true->∀ i∈lH o,listed.getD i false=true:=λq o ar bq i G=>by
    have:=List.all_eq_true.1 q4 q (by grind);grind
   have Lx:∀ i,i∈Region.ready .any ops listed<->i=j:=λi=>by
    constructor
    ·intro G;rw[mem_ready]at G;obtain⟨aV,o,ar,G'⟩:=G;by_cases e:i=j
     ·omega
     ·have yN:∀ k∈lH o,listed.getD k false=true:=by
       intro k an;obtain⟨e,he,uw⟩:=List.mem_filterMap.1 an;grind
      have Dt:∀ k∈(jG ops.toList).getD i [],listed.getD k false=true\/k=i:=by
       intro k an;refine C' (p:=λj=>listed.getD j false=true\/j=i) ops.toList [] (λj i G=>by grind) (λj f' hS k an aJ=>?_) i k an (.inr rfl);grind
      grind
    ·rintro rfl;rw[mem_ready];refine⟨?_,ops[i],by simp,λe he U=>?_⟩
     ·grind
     ·have a8:e.on∈lH ops[i]:=List.mem_filterMap.2 ⟨e,by grind,by grind⟩;have:=List.all_eq_true.1 q4 i (by grind);grind
   refine⟨λD=>?_,λi G=>?_⟩
   ·simp_all
   ·obtain rfl:=(Lx i).1 G;have fz:ops[i]?=some ops[i]:=by simp
    rw[aRm]at h;simp  [wpOpsIn,fz]at h;have next:∀ a w,wpOpsIn (eZ C.r) 0 C.P ops Q (List.range' (i+1) k) a w->wpAnyIn (eZ C.r) 0 C.P .any ops Q cZ (listed.setIfInBounds i true) a w:=λa w df=>by
     refine aO (i+1) cZ _ a w (by omega) (by omega) (by grind) (λq=>?_) (by omega) df;by_cases e:q=i
     ·simp_all
     ·rw[getD_set_ne false (Ne.symm e),ah,decide_eq_decide];omega
    unfold wpOpIn;rw[fz];simp;split
    ·rename_i hw;rw[if_pos hw]at h;exact Oper.wpIn_mono next h
    grind
def Ly(n:Nat)(l b e x:Bool)(listed:Array Bool):Prop:=∀ i,listed.getD i false=(decide (i<n)||(l&&decide (i=n))||(b&&decide (i=n+1))||(e&&decide (i=n+2))||(x&&decide (i=n+3)))
def oU(a:Act)(fa hr d1 d2:Nat)(u vB vE vX:Value)(l b e x:Bool):Act:=
 let cw:=if l=true then a.put (some fa) u else a
 let b2:=if b=true then cw.put (some hr) vB else cw
 let ef:=if e=true then b2.put (some d1) vE else b2
 if x=true then ef.put (some d2) vX else ef
theorem aq7(a:Act)(d:Option Nat)(v:Value):(a.put d v).tmps.size=a.tmps.size:=by cases d<;>simp[Act.put]
theorem aq8(a:Act)(fa hr d1 d2:Nat)(u vB vE vX:Value)(l b e x:Bool):(oU a fa hr d1 d2 u vB vE vX l b e x).tmps.size=a.tmps.size:=by
 unfold oU;cases l<;>cases b<;>cases e<;>cases x<;>simp[aq7]
theorem aaJ{fa hr d1 d2:Nat}{u vB vE vX:Value}{l b e x:Bool}{y:Operand}(E:y≠.tmp fa)(L:y≠.tmp hr)(ak:y≠.tmp d1)(aZ:y≠.tmp d2):(oU a fa hr d1 d2 u vB vE vX l b e x).eval y=a.eval y:=by
 unfold oU;cases l<;>cases b<;>cases e<;>cases x<;>simp[Dq,E,L,ak,aZ]
theorem Ha{o:Oper}{w':World}{K:Act->World->Prop}{v:Value}(aw:∀ c,o.op≠.defer c)(h:(execOp a.eval o).run C.P w=.ok (.value v) w')(an:o.wpIn (eZ C.r) 0 C.P a w K Q):K (a.put o.dst v) w':=by
 have:=an.2;rw[CQ aw,h]at this;exact this
theorem aq9(aaK:ops.size=n+5)(q4:C9 ops.toList=true){ia kk jI kE od:Oper}(Bb:ops[n]?=some ia)(Bc:ops[n+1]?=some kk)(Du:ops[n+2]?=some jI)(Hb:ops[n+3]?=some kE)(Hc:ops[n+4]?=some od)
  (Hd:ia.guard=none) (He:kk.guard=none) (Lz:jI.guard=none) (LA:kE.guard=none) (LB:od.guard=none) (Hf:∀ c,ia.op≠.defer c) (LC:∀ c,kk.op≠.defer c) (LD:∀ c,jI.op≠.defer c) (LF:∀ c,kE.op≠.defer c)
  (hq:∀ q,q<5->∀ i,i<n->i∈(jG ops.toList).getD (n+q) []) (R8:n∈(jG ops.toList).getD (n+1) []) (aaL:n+2∈(jG ops.toList).getD (n+3) []) (Dv:∀ q,q<4->n+q∈(jG ops.toList).getD (n+4) [])
  (aaM:∀ i∈lH jI,i<n) (aaN:∀ i∈lH kE,i<n\/i=n+2)
  {fa hr d1 d2:Nat} (vz:ia.dst=some fa) (dY:kk.dst=some hr) (Hg:jI.dst=some d1) (LG:kE.dst=some d2) (_n1:fa≠hr) (eC:fa≠d1) (lf:fa≠d2) (n4:hr≠d1) (Hh:hr≠d2)
  {a:Act} {w wE:World} {u vB vE vX:Value}
  (aaO:∀ b e x,(execOp (oU a fa hr d1 d2 u vB vE vX false b e x).eval ia).run C.P (if e=true then wE else w)=.ok (.value u) (if e=true then wE else w))
  (aaP:∀ e x,(execOp (oU a fa hr d1 d2 u vB vE vX true false e x).eval kk).run C.P (if e=true then wE else w)=.ok (.value vB) (if e=true then wE else w))
  (aaQ:∀ l b x,(execOp (oU a fa hr d1 d2 u vB vE vX l b false x).eval jI).run C.P w=.ok (.value vE) wE)
  (aaR:∀ l b,(execOp (oU a fa hr d1 d2 u vB vE vX l b true false).eval kE).run C.P wE=.ok (.value vX) wE)
  (h:wpOpsIn (eZ C.r) 0 C.P ops Q (List.range' n 5) a w):∀ (cZ:Nat) (listed:Array Bool),listed.size=ops.size->(∀ i,listed.getD i false=decide (i<n))->5<=cZ->wpAnyIn (eZ C.r) 0 C.P .any ops Q cZ listed a w:=by
 let aI:=oU a fa hr d1 d2 u vB vE vX;let W:=λe:Bool=>if e=true then wE else w
 have wt:∀ {o:Oper},o.guard=none->∀ a':Act,Region.wanted o (yielded ops a'.tmps)=true:=λh a'=>by unfold Region.wanted;rw[h]
 have ux:od.wpIn (eZ C.r) 0 C.P (aI true true true true) wE (λa' w'=>Q .normal a' w') Q:=by
  have ek:List.range' n 5=[n,n+1,n+2,n+3,n+4]:=rfl;rw[ek]at h;simp only[wpOpsIn,Bb,Bc,Du,Hb,Hc,wt Hd,wt He,wt Lz,wt LA,wt LB,if_true]at h;have E:=Ha (a:=aI false false false false) (w:=w) Hf (aaO false false false) h;rw[vz]at E;have L:=Ha (a:=aI true false false false) (w:=w) LC (aaP false false) E;rw[dY]at L;have ak:=Ha (a:=aI true true false false) (w:=w) LD (aaQ true true false) L;rw[Hg]at ak;have aZ:=Ha (a:=aI true true true false) (w:=wE) LF (aaR true true) ak;rw[LG]at aZ;exact aZ
 have aq_:∀ {l b e x:Bool} {listed:Array Bool},Ly n l b e x listed->(b=true->l=true)->(x=true->e=true)->∀ q o,ops[q]?=some o->listed.getD q false=true->∀ i∈lH o,listed.getD i false=true:=by
  intro l b e x listed bm U ao q o ar bq i G;have aq':q<ops.size:=(Array.getElem?_eq_some_iff.1 ar).1;have aLR:i<q:=by
   have:=List.all_eq_true.1 q4 q (by grind);grind
  rw[bm]at bq ⊢;grind
 have aLS:∀ {listed:Array Bool} {i:Nat},listed.size=ops.size->i<ops.size->(listed[i]?.getD true=false<->listed.getD i false=false):=by
  intro listed i cI G;rw[aPz,aQy (by omega)];rfl
 have ara:∀ {l b e x:Bool} {listed:Array Bool},Ly n l b e x listed->(b=true->l=true)->(x=true->e=true)->listed.size=ops.size->∀ i∈Region.ready .any ops listed,(i=n/\l=false)\/(i=n+1/\l=true/\b=false)\/(i=n+2/\e=false)\/(i=n+3/\e=true/\x=false)\/(i=n+4/\l=true/\b=true/\e=true/\x=true):=by
  intro l b e x listed bm U ao cI i G;have xl:=aq_ bm U ao;rw[mem_ready]at G;obtain⟨aV,o,ar,G'⟩:=G;have a8:i<ops.size:=(Array.getElem?_eq_some_iff.1 ar).1;have aV:listed.getD i false=false:=by
   grind
  have yN:∀ k∈lH o,listed.getD k false=true:=by
   intro k an;obtain⟨e,he,uw⟩:=List.mem_filterMap.1 an;split at uw
   ·rename_i U;cases uw;grind
   grind
  have Dt:∀ k∈(jG ops.toList).getD i [],listed.getD k false=true\/k=i:=by
   intro k an;refine C' (p:=λj=>listed.getD j false=true\/j=i) ops.toList [] (λj i G=>by simp at G) (λj f' hS k an aJ=>?_) i k an (.inr rfl);have qk:ops[j]?=some f':=by grind
   rcases (by simpa using aJ:listed.getD j false=true\/j=i) with aJ | aJ
   ·exact .inl (xl j f' qk aJ k an)
   ·subst aJ;rw[ar]at qk;cases qk;exact .inl (yN k an)
  rw[bm]at aV;simp only[aQg,Bool.and_eq_false_iff,aPT]at aV;obtain⟨⟨⟨⟨iC,aM⟩,aS⟩,b4⟩,hZ⟩:=aV;have bz:n<=i:=by omega
  have arb:i=n\/i=n+1\/i=n+2\/i=n+3\/i=n+4:=by omega
  have flag:∀ q,q<4->n+q∈(jG ops.toList).getD i []->n+q≠i->(if q=0 then l else if q=1 then b else if q=2 then e else x)=true:=by
   intro q bq hm eM;rcases Dt _ hm with h | h
   ·rw[bm]at h;simp only[aPO,amn,amq]at h;rcases h with (((h | ⟨E,h⟩) | ⟨E,h⟩) | ⟨E,h⟩) | ⟨E,h⟩
    ·omega
    ·grind
    ·have:q=1:=by omega
     subst this;exact E
    ·have:q=2:=by omega
     subst this;exact E
    ·have:q=3:=by omega
     subst this;exact E
   omega
  rcases arb with rfl | rfl | rfl | rfl | rfl
  ·grind
  ·exact .inr (.inl ⟨rfl,flag 0 (by omega) R8 (by omega),by grind⟩)
  ·grind
  ·grind
  ·exact .inr (.inr (.inr (.inr ⟨rfl,flag 0 (by omega) (Dv 0 (by omega)) (by omega),flag 1 (by omega) (Dv 1 (by omega)) (by omega),flag 2 (by omega) (Dv 2 (by omega)) (by omega),flag 3 (by omega) (Dv 3 (by omega)) (by omega)⟩)))
 have arc:∀ {l b e x:Bool} {listed:Array Bool},Ly n l b e x listed->(b=true->l=true)->(x=true->e=true)->listed.size=ops.size->Region.ready .any ops listed≠[]:=by
  intro l b e x listed bm U ao cI tZ;have mk:∀ i o,ops[i]?=some o->listed.getD i false=false->(∀ k∈lH o,listed.getD k false=true)->False:=by
   intro i o ar aV aw;have a8:i<ops.size:=(Array.getElem?_eq_some_iff.1 ar).1;have:i∈Region.ready .any ops listed:=by
    rw[mem_ready];refine⟨?_,o,ar,λe he U=>aw e.on (List.mem_filterMap.2 ⟨e,by grind,by grind⟩)⟩;grind
   grind
  have lt:∀ q o,ops[q]?=some o->∀ i∈lH o,i<q:=by
   intro q o ar i G;have aq':q<ops.size:=(Array.getElem?_eq_some_iff.1 ar).1;have:=List.all_eq_true.1 q4 q (by grind);rw[show ops.toList[q]?=some o by grind]at this;have:=List.all_eq_true.1 this i G;grind
  cases l with
  | false=>
   have sI:b=false:=by grind
   subst sI;exact mk n ia Bb (by rw[bm];simp) λk an=>by rw[bm];grind
  | true=>
   cases b with
   | false=>exact mk (n+1) kk Bc (by rw[bm];simp) λk an=>by rw[bm];grind
   | true=>
    cases e with
    | false=>
     have R9:x=false:=by grind
     subst R9;exact mk (n+2) jI Du (by rw[bm];simp) λk an=>by rw[bm];grind
    | true=>
     cases x with
     | false=>exact mk (n+3) kE Hb (by rw[bm];simp) λk an=>by rw[bm];grind
     | true=>exact mk (n+4) od Hc (by rw[bm];simp) λk an=>by rw[bm];grind
 have Hi:∀ {listed:Array Bool} (i:Nat),listed.size=ops.size->i<ops.size->∀ q,(listed.setIfInBounds i true).getD q false=(listed.getD q false||decide (q=i)):=by
  intro listed i cI G q;by_cases e:q=i
  ·grind
  grind
 let cq:=λ(l b e x:Bool)=>∀ (cZ:Nat) (listed:Array Bool),Ly n l b e x listed->listed.size=ops.size->5<=cZ+(l.toNat+b.toNat+e.toNat+x.toNat)->wpAnyIn (eZ C.r) 0 C.P .any ops Q cZ listed (aI l b e x) (W e);have step:∀ l b e x,(b=true->l=true)->(x=true->e=true)->(l=false->cq true b e x)->(l=true->b=false->cq l true e x)->(e=false->cq l b true x)->(e=true->x=false->cq l b e true)->cq l b e x:=by
  intro l b e x U ao s1 s2 e4 kH cZ listed bm cI sU;have aLT:l.toNat<=1/\b.toNat<=1/\e.toNat<=1/\x.toNat<=1:=⟨Bool.toNat_le l,Bool.toNat_le b,Bool.toNat_le e,Bool.toNat_le x⟩
  cases cZ with
  | zero=>omega
  | succ cZ=>
   refine⟨λD=>absurd D (arc bm U ao cI),λi G=>?_⟩;rcases ara bm U ao cI i G with⟨rfl,E⟩ | ⟨rfl,E,L⟩ | ⟨rfl,E⟩ | ⟨rfl,E,L⟩ | ⟨rfl,E,L,ak,aZ⟩
   ·subst E;have sI:b=false:=by grind
    subst sI;unfold wpOpIn;simp only[Bb,wt Hd,if_true];refine h8 Hf (aaO false e x) ?_;rw[vz];have FZ:(aI false false e x).put (some fa) u=aI true false e x:=by
     simp only[aI,oU];cases e<;>cases x<;>simp[Ls _ eC.symm,Ls _ lf.symm]
    show wpAnyIn _ _ _ _ _ _ _ _ ((aI false false e x).put (some fa) u) (W e);rw[FZ];refine s1 rfl cZ _ (λq=>?_) (by grind) (by grind);rw[Hi i cI (by omega),bm];by_cases bq:q=i<;>simp[bq]
   ·subst E;subst L;unfold wpOpIn;simp only[Bc,wt He,if_true];refine h8 LC (aaP e x) ?_;rw[dY];have FZ:(aI true false e x).put (some hr) vB=aI true true e x:=by
     simp only[aI,oU];cases e<;>cases x<;>simp[Ls _ n4.symm,Ls _ Hh.symm]
    show wpAnyIn _ _ _ _ _ _ _ _ ((aI true false e x).put (some hr) vB) (W e);rw[FZ];refine s2 rfl rfl cZ _ (λq=>?_) (by grind) (by grind);rw[Hi (n+1) cI (by omega),bm];by_cases bq:q=n+1<;>simp[bq]
   ·subst E;have R9:x=false:=by grind
    subst R9;unfold wpOpIn;simp only[Du,wt Lz,if_true];refine h8 LD (aaQ l b false) ?_;rw[Hg];show wpAnyIn _ _ _ _ _ _ _ _ (aI l b true false) (W true);refine e4 rfl cZ _ (λq=>?_) (by grind) (by grind);rw[Hi (n+2) cI (by omega),bm];simp
   ·subst E;subst L;unfold wpOpIn;simp only[Hb,wt LA,if_true];refine h8 LF (aaR l b) ?_;rw[LG];show wpAnyIn _ _ _ _ _ _ _ _ (aI l b true true) (W true);refine kH rfl rfl cZ _ (λq=>?_) (by grind) (by grind);rw[Hi (n+3) cI (by omega),bm];simp
   ·subst E;subst L;subst ak;subst aZ;unfold wpOpIn;simp only[Hc,wt LB,if_true];refine Oper.wpIn_mono (λa' w' bq=>?_) ux;have gu:∀ i,(listed.setIfInBounds (n+4) true).getD i false=decide (i<n+5):=λi=>by
     rw[Hi (n+4) cI (by omega),bm,aQU];simp only[aPO,amn,amq,aRq];omega
    have D:∀ i,i ∉ Region.ready .any ops (listed.setIfInBounds (n+4) true):=λi G=>by
     rw[mem_ready]at G;obtain⟨aV,o,ar,_⟩:=G;grind
    have i':Region.ready .any ops (listed.setIfInBounds (n+4) true)=[]:=List.eq_nil_iff_forall_not_mem.2 D;cases cZ with
    | zero=>exact⟨i',bq⟩
    | succ cZ=>exact⟨λ_=>bq,λi G=>absurd G (D i)⟩
 have f:∀ {p:Prop},(true:Bool)=false->p:=λh=>by cases h
 have kz:∀ {p:Prop},(false:Bool)=true->p:=λh=>by cases h
 have aaS:cq true true true true:=step _ _ _ _ (λ_=>rfl) (λ_=>rfl) f (λ_=>f) f (λ_=>f);have aaT:cq true true true false:=step _ _ _ _ (λ_=>rfl) (λ_=>rfl) f (λ_=>f) f (λ_ _=>aaS);have ard:cq true true false false:=step _ _ _ _ (λ_=>rfl) kz f (λ_=>f) (λ_=>aaT) kz;have aaU:cq true false true true:=step _ _ _ _ (λ_=>rfl) (λ_=>rfl) f (λ_ _=>aaS) f (λ_=>f);have aaV:cq true false true false:=step _ _ _ _ (λ_=>rfl) (λ_=>rfl) f (λ_ _=>aaT) f (λ_ _=>aaU);have are:cq true false false false:=step _ _ _ _ (λ_=>rfl) kz f (λ_ _=>ard) (λ_=>aaV) kz;have arf:cq false false true true:=step _ _ _ _ kz (λ_=>rfl) (λ_=>aaU) kz f (λ_=>f);have arh:cq false false true false:=step _ _ _ _ kz (λ_=>rfl) (λ_=>aaV) kz f (λ_ _=>arf);have ari:cq false false false false:=step _ _ _ _ kz kz (λ_=>are) kz (λ_=>arh) kz;intro cZ listed cI ah sU;exact ari cZ listed (λi=>by grind) cI (by omega)
theorem R_{m:Nat}(aA:n<=ops.size)(aT:ed C.P T)(dn:lE C.P bs)(aw:∀ o∈ops.toList,mU o C.bV=true){l:List eT}{s':aC}(hlen:l.length=(ops.toList.take n).length)(vf:s'=jW l s)(aaW:∀ i o,m<=i->(ops.toList.take n)[i]?=some o->∃ r,l[i]?=some r/\vr C.aU T bs ops (jW (l.take i) s) o=some r)(b5:AI (ops.toList.take n) l=true)(R7:∀ j,n<=j->j<ops.size->∀ i,i<n->i∈(jG ops.toList).getD j [])
  (hc:∀ r∈l,∀ p∈r.cs,p) (ql:∀ (cZ:Nat) (listed:Array Bool) a' w',listed.size=ops.size->(∀ i,listed.getD i false=decide (i<n))->ops.size - n<=cZ->dc C s' a' w'->wpAnyIn (eZ C.r) 0 C.P .any ops Q cZ listed a' w'):∀ (cZ:Nat) (listed:Array Bool) (a:Act) (w:World),listed.size=ops.size->
   (∀ j o,ops[j]?=some o->listed.getD j false=true->∀ i∈lH o,listed.getD i false=true)->(∀ i,n<=i->listed.getD i false=false)->(∀ i,i<m->listed.getD i false=true)->((List.range ops.size).filter λj=>!listed.getD j false).length<=cZ->
   dc C (mW l s λj=>listed.getD j false) a w->wpAnyIn (eZ C.r) 0 C.P .any ops Q cZ listed a w:=by
 have Lp:(ops.toList.take n).length=n:=by grind
 have kn:∀ i,i<n->(ops.toList.take n)[i]?=ops[i]?:=λi G=>by
  grind
 simp only[AI,amn]at b5;obtain⟨q4,R'⟩:=b5;have aLU:∀ j o,j<n->ops[j]?=some o->∀ i∈lH o,i<j:=by
  intro j o R6 ar i G;have:=List.all_eq_true.1 q4 j (by grind);grind
 have aLV:∀ i j x y,i<j->l[i]?=some x->l[j]?=some y->((jG (ops.toList.take n)).getD j []).contains i=true\/x.apart y=true:=by
  intro i j x y AG G aJ;have Hj:j<l.length:=(List.getElem?_eq_some_iff.1 aJ).1;have:=List.all_eq_true.1 R' j (by grind);grind
 intro cZ;induction cZ with
 | zero=>
  intro listed a w cI _ h_ _ arj n_;have gu:∀ i,listed.getD i false=decide (i<n):=λi=>by
   by_cases G:i<n
   ·cases ah:listed.getD i false with
    | true=>grind
    | false=>
     exfalso;have:i∈(List.range ops.size).filter λj=>!listed.getD j false:=by
      grind
     grind
   grind
  refine ql 0 listed a w cI gu ?_ ?_
  ·by_cases dk:n<ops.size
   ·have:n∈(List.range ops.size).filter λj=>!listed.getD j false:=by
     grind
    grind
   ·omega
  ·have:mW l s (λj=>listed.getD j false)=s':=by
    rw[vf];unfold mW;rw[List.filter_eq_self.2 λp aj=>?_,KH];obtain⟨_,L⟩:=AM aj;grind
   grind
 | succ cZ aO=>
  intro listed a w cI xl h_ sV arj n_;by_cases Sa:∀ i,i<n->listed.getD i false=true
  ·have gu:∀ i,listed.getD i false=decide (i<n):=λi=>by
    grind
   refine ql (cZ+1) listed a w cI gu ?_ ?_
   ·have E:(List.range' n (ops.size - n)).length<=((List.range ops.size).filter λj=>!listed.getD j false).length:=by
     have e:(List.range ops.size).filter (λj=>!listed.getD j false)=List.range' n (ops.size - n):=by
      have L:(List.range ops.size).filter (λj=>!listed.getD j false)=(List.range ops.size).filter λj=>decide (n<=j):=aQf λj _=>by
       grind
      rw[L];have ak:List.range ops.size=List.range n++List.range' n (ops.size - n):=by
       rw[aQB,aQB];have:=(List.range'_append (s:=0) (m:=n) (n:=ops.size - n) (step:=1))
       grind
      rw[ak,aQh,List.filter_eq_nil_iff.2 λj aJ=>by grind,List.filter_eq_self.2 λj aJ=>by grind];rfl
     grind
    grind
   ·have:mW l s (λj=>listed.getD j false)=s':=by
     rw[vf];unfold mW;rw[List.filter_eq_self.2 λp aj=>?_,KH];obtain⟨_,L⟩:=AM aj;grind
    grind
  ·refine⟨λD=>absurd ?_ Sa,λi G=>?_⟩
   ·intro j;induction j using Nat.strongRecOn with
    | _ j aLW=>
     intro aJ;cases ah:listed.getD j false with
     | true=>rfl
     | false=>
      exfalso;have ob:j∈Region.ready .any ops listed:=by
       rw[mem_ready];refine⟨?_,ops[j],by simp,λe he U=>?_⟩
       ·grind
       ·have a8:e.on∈lH ops[j]:=List.mem_filterMap.2 ⟨e,by grind,by grind⟩;grind
      grind
   ·rw[mem_ready]at G;obtain⟨aV,o,ar,G'⟩:=G;have a8:i<ops.size:=(Array.getElem?_eq_some_iff.1 ar).1;have Dw:listed.getD i false=false:=by
     grind
    have ob:o∈ops.toList:=by
     grind
    have yN:∀ k∈lH o,listed.getD k false=true:=by
     intro k an;obtain⟨e,he,uw⟩:=List.mem_filterMap.1 an;split at uw
     ·rename_i U;cases uw;exact G' e (by simpa using he) U
     ·cases uw
    have G:i<n:=by
     by_cases G:i<n
     ·exact G
     ·exfalso;have Dt:∀ k∈(jG ops.toList).getD i [],listed.getD k false=true\/k=i:=by
       intro k an;refine C' (p:=λj=>listed.getD j false=true\/j=i) ops.toList [] (λj i G=>by simp at G) (λj f' hS k an aJ=>?_) i k an (.inr rfl);have qk:ops[j]?=some f':=by grind
       rcases (by simpa using aJ:listed.getD j false=true\/j=i) with aJ | aJ
       ·exact .inl (xl j f' qk aJ k an)
       ·subst aJ;rw[ar]at qk;cases qk;exact .inl (yN k an)
      grind
    obtain⟨r,D,hs⟩:=aaW i o (aQY λh=>by rw[sV i h]at Dw;cases Dw) (by grind);have aLX:∀ j k,k∈(jG (ops.toList.take n)).getD j []->listed.getD j false=true->listed.getD k false=true:=by
     refine C' (p:=λj=>listed.getD j false=true) (ops.toList.take n) [] (λj i G=>by simp at G) λj f' hS k an aJ=>?_;have R6:j<n:=by grind
     exact xl j f' (by grind) (by simpa using aJ) k an
    have Dt:∀ k∈(jG (ops.toList.take n)).getD i [],listed.getD k false=true\/k=i:=by
     intro k an;refine C' (p:=λj=>listed.getD j false=true\/j=i) (ops.toList.take n) [] (λj i G=>by simp at G) (λj f' hS k an aJ=>?_) i k an (.inr rfl);have R6:j<n:=by grind
     have qk:ops[j]?=some f':=by grind
     rcases (by simpa using aJ:listed.getD j false=true\/j=i) with aJ | aJ
     ·exact .inl (xl j f' qk aJ k an)
     ·subst aJ;rw[ar]at qk;cases qk;exact .inl (yN k an)
    have hq:∀ j x,j<i->l[j]?=some x->listed.getD j false=false->x.apart r=true:=by
     grind
    have AN:∀ j x,i<j->l[j]?=some x->listed.getD j false=true->r.apart x=true:=by
     grind
    obtain⟨aM,aS,b4⟩:=apk (s:=s) (f:=λj=>listed.getD j false) D Dw hq AN;have ark:=apm hs aM aS;unfold wpOpIn;rw[ar];refine aq3 aT dn (aw o ob) ark (hc r (aQx D)) n_ λa' w' bj=>?_;have fz:∀ j,(listed.setIfInBounds i true).getD j false=if j=i then true else listed.getD j false:=by
     intro j;by_cases e:j=i
     ·subst e;rw[if_pos rfl,aPz,Array.getElem?_setIfInBounds_self_of_lt (by omega)];rfl
     ·rw[if_neg e,getD_set_ne false (Ne.symm e)]
    refine aO _ a' w' (by grind) (λj f' hS aJ k an=>?_) (λq bq=>by rw[fz,if_neg (by omega)];grind) (λq bq=>by rw[fz];split;rfl;exact sV q bq) ?_ ?_
    ·rw[fz]at aJ ⊢;split
     ·rfl
     ·split at aJ
      ·rename_i e;subst e;rw[ar]at hS;cases hS;exact yN k an
      ·exact xl j f' hS aJ k an
    ·have dk:((List.range ops.size).filter λj=>!(listed.setIfInBounds i true).getD j false).length<((List.range ops.size).filter λj=>!listed.getD j false).length:=by
      have aB:(List.range ops.size).filter (λj=>!(listed.setIfInBounds i true).getD j false)=((List.range ops.size).filter λj=>!listed.getD j false).filter λj=>decide (j≠i):=by
       rw[List.filter_filter];apply aQf;intro j _;rw[fz];simp
      rw[aB];have arl:i∈(List.range ops.size).filter λj=>!listed.getD j false:=by
       grind
      exact List.length_filter_lt_length_iff_exists.2 ⟨i,arl,by simp⟩
     omega
    ·have:mW l s (λj=>(listed.setIfInBounds i true).getD j false)=r.jV (mW l s λj=>listed.getD j false):=by
      rw[<-b4];congr 1;funext j;grind
     grind
theorem aaX{listed:Array Bool}(cI:listed.size=ops.size)(gu:∀ i,listed.getD i false=decide (i<ops.size))(ql:Q .normal a w):∀ cZ,wpAnyIn (eZ C.r) 0 C.P .any ops Q cZ listed a w:=by
 have h_:∀ i,i ∉ Region.ready .any ops listed:=λi G=>by
  rw[mem_ready]at G;obtain⟨aV,o,ar,_⟩:=G;grind
 intro cZ;cases cZ with
 | zero=>exact⟨List.eq_nil_iff_forall_not_mem.2 h_,ql⟩
 | succ cZ=>exact⟨λ_=>ql,λi G=>absurd G (h_ i)⟩
theorem Sb{b:Bool}{p:Prop}{m:M bet}{O:bet->Prop}(h:c6 (yC b p m) O):c6 m O:=by
 cases b with
 | true=>exact h
 | false=>exact (h6.1 h).2
theorem arn{ia kk jI kE od:Oper}(h:Q8 ia kk jI kE od=true):∃ ty m x LH Sc k c fa hr d1 d2 lI y,ia.op=.lookup ty m x false/\kk.op=.binOp .add LH (.tmp fa) (.const (.int k c)) Sc/\jI.op=.mapEntry ty m x/\kE.op=.extract (.tmp d1) 1/\
  lI.op=.mapUpdate ty m x y/\Df jI kE od=some (lI,d1,d2)/\ia.dst=some fa/\kk.dst=some hr/\jI.dst=some d1/\kE.dst=some d2/\gQ k c/\(fa≠hr/\fa≠d1/\fa≠d2/\hr≠d1/\hr≠d2/\d1≠d2)/\
  (m≠.tmp fa/\m≠.tmp hr/\m≠.tmp d1/\m≠.tmp d2)/\(x≠.tmp fa/\x≠.tmp hr/\x≠.tmp d1/\x≠.tmp d2)/\(∃ q3,m=.tmp q3)/\(∃ Sd,x=.tmp Sd)/\ia.guard=none/\kk.guard=none/\jI.guard=none/\kE.guard=none/\od.guard=none:=by
 unfold Q8 at h;split at h
 ·rename_i ty m x LH t k c Sc mQ dp eP kn aX my;split at h
  ·rename_i fa hr lI d1 d2 vz dY sU;simp only[amq]at h;obtain⟨rfl,rfl,a8,aB,bt,eB,eC,lf,n4,Hh,aaY,s1,s2,cw,b2,ef,gj,cY,fe,iV,u6,cO,cJ⟩:=h;obtain⟨aLY,aLZ,aL0,aL1,f1,f2,f3,f4,f5,f6,f7,f8,f9,f10,f11,f12,dx,ec,jF⟩:=aaA sU;obtain⟨q3,yL⟩:=Option.isSome_iff_exists.1 s1;obtain⟨Sd,aaZ⟩:=Option.isSome_iff_exists.1 s2;have em:=Dr yL;have ex:=Dr aaZ;have aro:=Dr (aB.trans yL);have arp:=Dr (bt.trans aaZ);rw[f1]at my;simp only[Op.mapEntry.injEq]at my;obtain⟨rfl,rfl,rfl⟩:=my;subst em;subst ex;subst aro;subst arp;refine⟨_,_,_,_,_,_,_,_,_,_,_,lI,_,kn,aX,f1,f3,f7,sU,vz,dY,f2,f4,a8,⟨eB,eC,lf,n4,Hh,aaY⟩,?_,?_,⟨_,rfl⟩,⟨_,rfl⟩,Option.isNone_iff_eq_none.1 cO,Option.isNone_iff_eq_none.1 cJ,dx,ec,jF⟩
   ·simp only[j4,ne_eq,amk]at cw b2 ef gj;exact⟨λe=>cw (by cases e;rfl),λe=>b2 (by cases e;rfl),λe=>ef (by cases e;rfl),λe=>gj (by cases e;rfl)⟩
   ·simp only[j4,ne_eq,amk]at cY fe iV u6;exact⟨λe=>cY (by cases e;rfl),λe=>fe (by cases e;rfl),λe=>iV (by cases e;rfl),λe=>u6 (by cases e;rfl)⟩
  grind
 grind
theorem aa0(um:K8 ops.toList=true)(aA:n=ops.size - 5)(aT:ed C.P T)(dn:lE C.P bs)(dD:pz C.P C.aU Psi)(aw:∀ o∈ops.toList,mU o C.bV=true){k:aC->M bet}{O:bet->Prop}
  (an:∀ s' a' w',dc C s' a' w'->c6 (k s') O->Q .normal a' w') (hm:c6 (oR C.aU T bs Psi ops (ops.toList.drop n) [] s k) O) :
  (n<=ops.size/\∀ j,n<=j->j<ops.size->∀ i,i<n->i∈(jG ops.toList).getD j [])/\∀ (a:Act) (w:World),dc C s a w->∀ (cZ:Nat) (listed:Array Bool),listed.size=ops.size->(∀ i,listed.getD i false=decide (i<n))->ops.size - n<=cZ->wpAnyIn (eZ C.r) 0 C.P .any ops Q cZ listed a w:=by
 unfold K8 at um;rw[show ops.toList.length - 5=n by grind]at um;split at um
 ·rename_i ia kk jI kE od aa1;simp only[amn,aP4,aRf,List.contains_eq_mem,amq,aPO]at um;obtain⟨arq,⟨⟨⟨⟨⟨q4,hq⟩,R8⟩,aaL⟩,Dv⟩,aaM⟩,aaN⟩:=um;have aaK:ops.size=n+5:=by
   have:=congrArg List.length aa1;grind
  have Hk:∀ q (o:Oper),[ia,kk,jI,kE,od][q]?=some o->ops[n+q]?=some o:=λq o h=>by
   grind
  have Bb:=Hk 0 ia rfl;have Bc:=Hk 1 kk rfl;have Du:=Hk 2 jI rfl;have Hb:=Hk 3 kE rfl;have Hc:=Hk 4 od rfl;have mem:∀ {q o},ops[n+q]?=some o->o∈ops.toList:=λh=>by
   grind
  obtain⟨ty,m,x,LH,Sc,gE,c,fa,hr,d1,d2,lI,y,kn,aX,my,yI,iM,wW,vz,dY,Hg,LG,a8,⟨eB,eC,lf,n4,Hh,aaY⟩,⟨m1,m2,m3,m4⟩,⟨mw,qP,aa2,ars⟩,⟨q3,em⟩,⟨Sd,ex⟩,Hd,He,Lz,LA,LB⟩:=arn arq;have Hf:∀ c,ia.op≠.defer c:=by grind
  have LC:∀ c,kk.op≠.defer c:=by grind
  have LD:∀ c,jI.op≠.defer c:=by grind
  have LF:∀ c,kE.op≠.defer c:=by grind
  refine⟨⟨by omega,λj E L i G=>by have:=hq (j - n) (by omega) i G;simp_all⟩,λa w D cZ listed cI ah sU=>?_⟩;have aa3:=R2 (Q:=Q) aT dn dD aw an _ n [] s a w rfl (λp aj=>by cases aj) D hm;rw[show (ops.toList.drop n).length=5 by grind]at aa3;rw[aa1]at hm;obtain⟨kap,F,gZ⟩:=D;have gd:∀ {o:Oper},o.guard=none->∀ s:aC,mb s.az ops o.guard=some none:=λh s=>by rw[h];rfl
  have aa4:∀ {o:Oper} {os},(∀ ty m x,o.op≠.mapEntry ty m x)->Dg o os=none:=λ{o os} h=>by
   unfold Dg;split
   ·unfold Df;simp
   ·rfl
  have Lp:Dg ia [kk,jI,kE,od]=none:=aa4 (by grind);unfold oR at hm;rw[Lp]at hm;simp only[gd Hd]at hm;split at hm
  ·rename_i xm LI;rw[A' λU=>(R0 (s:=s) (λp aj=>by cases aj) (gk:=none) (λk an=>by cases an) U).run s.aa xm LI,A' λU=>(Gw U).run s.aa xm LI]at hm;obtain⟨Se,art,hm⟩:=hm;have aru:=C6 aT dn (aw ia (mem Bb)) LI;have Bd:=LI;simp only[iv,e1,kn,cP,CN]at Bd;have arv:(use (be C.aU s.az m)).1/\(use (be C.aU s.az x)).1/\xm.jC=[]/\∃ v u,xm.ho=.val v u:=by
    split at Bd
    ·rename_i oa aL2 aL3;split at Bd
     ·simp only[aE.fZ,amj,da,aE.dy,amk]at Bd;obtain⟨es,rD,⟨y,l⟩,a_,rfl⟩:=Bd;exact⟨Se.1,Se.2,rfl,_,_,rfl⟩
     ·cases Bd
    ·cases Bd
   obtain⟨R4,R5,aa5,aa6,aa7,arw⟩:=arv;have arx:Dg kk [jI,kE,od]=none:=aa4 (by grind);unfold oR at hm;rw[arx]at hm;simp only[gd He]at hm;split at hm
   ·rename_i Sf ary;have hm:=Sb (Sb hm);have yO:=ary;have aB:(s.jE ia.dst xm).az fa=.val aa6 aa7:=by rw[vz,aC.jE,aC.R1,arw]
    have pA:Ae (.int gE c)=.val (.int gE) c:=by simp[Ae,a8]
    have arz:∃ cw,aa6=.int gE/\Sf.jC=[]/\cw=aa7:=by
     simp only[iv,e1,aX,cP,be,aB,pA,use,aL.n0,aL.wU]at yO;split at yO
     ·rename_i aM cw aS cY E L;split at E
      ·rename_i b4 aa2 ak;cases L;cases ak;cases E;split at yO
       ·rename_i F5;simp only[CK,da,aE.dy,amk]at yO;grind
       ·cases yO
      grind
     ·rename_i h_;exfalso;split at yO
      ·grind
      ·simp only[aE.fZ,amj]at yO;obtain⟨⟨gl,iu⟩,E,L⟩:=yO;simp only[FO,aE.fZ,amj,aE.dy]at E;grind
    obtain⟨nB,rfl,aa8,rfl⟩:=arz;have gK:((s.jE ia.dst xm).jE kk.dst Sf).aa=s.aa:=by
     simp only[aC.jE,aa5,aa8,aC.iw,vz,dY,aC.set]
    have e2:∀ {t:Nat},t≠fa->t≠hr->((s.jE ia.dst xm).jE kk.dst Sf).az t=s.az t:=λ{t} E L=>by
     simp only[aC.jE,aa5,aa8,aC.iw];rw[aC.G8 (by grind),aC.G8 (by grind)]
    unfold oR at hm;rw[show Dg jI [kE,od]=some (lI,d1,d2) from wW]at hm;simp only at hm;split at hm
    ·rename_i aL4 arA;obtain⟨u,oV,wE,aa9⟩:=aqZ (s:=s) aT kn my iM gK (by rw[em];exact e2 (λe=>m1 (by grind)) (λe=>m2 (by grind))) (by rw[ex];exact e2 (λe=>mw (by grind)) (λe=>qP (by grind))) arA gZ R4 R5;have arB:=(aa9 a rfl rfl).1;have arC:=Ha (K:=λa' w'=>dc C (s.jE ia.dst xm) a' w') (Q:=Q) Hf arB (aru a w kap F Q gZ Se art);have aa_:fa<a.tmps.size:=by
      have:=aw ia (mem Bb);simp only[mU,amn]at this;have:=this.1;rw[vz]at this;have E:=gZ.dX;grind
     have aL5:d1<a.tmps.size:=by
      have:=aw jI (mem Du);simp only[mU,amn]at this;have:=this.1;rw[Hg]at this;have E:=gZ.dX;grind
     have hu:u=.int gE nB:=by
      obtain⟨apX,ue,gn⟩:=arC;have E:=gn.bX fa;rw[aB,vz]at E;have L:(a.put (some fa) u).tmps.getD fa Go.undef=u:=G4 aa_;rw[L]at E;exact (hO.1 E).1
     subst hu;let vB:Value:=.int gE (gE.wrap (nB+c));have arD:∀ (a':Act) (w':World),a'.eval (.tmp fa)=.int gE nB->(execOp a'.eval kk).run C.P w'=.ok (.value vB) w':=λa' w' h=>by
      have L:a'.eval (.const (.int gE c))=.int gE c:=rfl;have ak:(Go.binOp .add LH (.int gE nB) (.int gE c)).run C.P w'=.ok vB w':=by simp[Go.binOp,Op.intArith,vB]
      simp only[execOp,aX,h,L,Sem.run_bind,Yv,Result.andThen_ok,ak,Sem.run_pure]
     have arE:∀ (a':Act) (w':World),a'.eval (.tmp d1)=.tuple #[.int gE nB,goInt oV]->(execOp a'.eval kE).run C.P w'=.ok (.value (goInt oV)) w':=λa' w' h=>by
      simp[execOp,yI,h,Instr.extract]
     have RT:∀ l b e eP,(oU a fa hr d1 d2 (.int gE nB) vB (.tuple #[.int gE nB,goInt oV]) (goInt oV) l b e eP).eval m=a.eval m:=λl b e eP=>aaJ m1 m2 m3 m4;have arF:∀ l b e eP,(oU a fa hr d1 d2 (.int gE nB) vB (.tuple #[.int gE nB,goInt oV]) (goInt oV) l b e eP).eval x=a.eval x:=λl b e eP=>aaJ mw qP aa2 ars;refine aq9 (wE:=wE) (u:=.int gE nB) (vB:=vB) (vE:=.tuple #[.int gE nB,goInt oV]) (vX:=goInt oV) aaK q4 Bb Bc Du Hb Hc Hd He Lz LA LB Hf LC LD LF hq R8 aaL Dv aaM aaN vz dY Hg LG eB eC lf n4 Hh ?_ ?_ ?_ ?_ aa3 cZ listed cI ah (by omega)
     ·intro b e eP;have:=aa9 _ (RT false b e eP) (arF false b e eP);cases e
      ·exact this.1
      ·exact this.2.1
     ·intro e eP;refine arD _ _ ?_;have E:(oU a fa hr d1 d2 (.int gE nB) vB (.tuple #[.int gE nB,goInt oV]) (goInt oV) true false e eP).eval (.tmp fa)=(a.put (some fa) (.int gE nB)).eval (.tmp fa):=by
       have cO:Operand.tmp fa≠.tmp d1:=λh=>eC (by grind);have cJ:Operand.tmp fa≠.tmp d2:=λh=>lf (by grind);unfold oU;cases e<;>cases eP<;>simp[Dq,cO,cJ]
      rw[E];exact G4 aa_
     ·grind
     ·intro l b;refine arE _ _ ?_;have E:oU a fa hr d1 d2 (.int gE nB) vB (.tuple #[.int gE nB,goInt oV]) (goInt oV) l b true false=(oU a fa hr d1 d2 (.int gE nB) vB (.tuple #[.int gE nB,goInt oV]) (goInt oV) l b false false).put (some d1) (.tuple #[.int gE nB,goInt oV]):=rfl;rw[E];exact G4 (by rw[aq8];omega)
    ·exact hm.1.elim
   ·rename_i aL6;exfalso;have:uh C.aU T bs Psi (s.jE ia.dst xm) kk=none:=by
     have pA:Ae (.int gE c)=.val (.int gE) c:=by simp[Ae,a8]
     simp only[uh,aX,GK,be,pA];simp
    rw[this]at hm;exact hm.1
  ·exfalso;have:uh C.aU T bs Psi s ia=none:=by simp only[uh,kn]
   rw[this]at hm;exact hm.1
 grind
def q5:eT:=⟨[],none,.undef,[],[],[]⟩
theorem LJ(s:aC):∀ n,jW (List.replicate n q5) s=s
 | 0=>rfl
 | n+1=>by
  show jW (List.replicate n q5) (q5.jV s)=s;exact LJ s n
theorem arG(Be:K9 ops.toList n=true)(aT:ed C.P T)(dn:lE C.P bs)(aw:∀ o∈ops.toList,mU o C.bV=true){o:Oper}(gb:ops[n]?=some o){s1:aC}
  {K2:Act->World->Prop} (lF:∀ a w,dc C s1 a w->Region.wanted o (yielded ops a.tmps)=true/\o.wpIn (eZ C.r) 0 C.P a w (λa' w'=>K2 a' w') Q)
  (rM:∀ a' w',K2 a' w'->∃ (vA s2:aC) (gB:List eT),dc C vA a' w'/\xb C.aU T bs ops (ops.toList.drop (n+1)) vA=some (gB,s2)/\ZV (jG ops.toList) (n+1) gB=true/\(∀ r∈gB,∀ p∈r.cs,p)/\∀ b2 dL,dc C s2 b2 dL->Q .normal b2 dL)
  (cZ:Nat) (listed:Array Bool) (a:Act) (w:World) (cI:listed.size=ops.size) (ah:∀ i,listed.getD i false=decide (i<n)) (sU:ops.size - n<=cZ) (D:dc C s1 a w):wpAnyIn (eZ C.r) 0 C.P .any ops Q cZ listed a w:=by
 simp only[K9,amn,amq]at Be;obtain⟨q4,aA,Be⟩:=Be;have aA:n<ops.size:=by simpa using aA
 cases cZ with
 | zero=>omega
 | succ cZ=>
  have xl:∀ q o,ops[q]?=some o->listed.getD q false=true->∀ i∈lH o,listed.getD i false=true:=λq o ar bq i G=>by
   rw[ah]at bq ⊢;have bq:q<n:=by simpa using bq
   have:=List.all_eq_true.1 q4 q (by simp;omega);rw[show ops.toList[q]?=some o by simpa using ar]at this;have:=List.all_eq_true.1 this i G;simp only[amq]at this ⊢;omega
  have arH:∀ i∈lH o,i<n:=λi G=>by
   have:=List.all_eq_true.1 q4 n (by simp;omega);rw[show ops.toList[n]?=some o by simpa using gb]at this;have:=List.all_eq_true.1 this i G;simpa using this
  have Lx:∀ i,i∈Region.ready .any ops listed<->i=n:=λi=>by
   constructor
   ·intro G;rw[mem_ready]at G;obtain⟨aV,f',ar,G'⟩:=G;have a8:i<ops.size:=(Array.getElem?_eq_some_iff.1 ar).1;have Dw:listed.getD i false=false:=by
     rw[aPz]at aV ⊢;rw[aQy (by omega)]at aV ⊢;exact aV
    rw[ah]at Dw;have bz:n<=i:=by simpa using Dw
    by_cases e:i=n
    ·exact e
    ·exfalso;have yN:∀ k∈lH f',listed.getD k false=true:=by
      intro k an;obtain⟨e,he,uw⟩:=List.mem_filterMap.1 an;split at uw
      ·rename_i U;cases uw;exact G' e (by simpa using he) U
      ·cases uw
     have Dt:∀ k∈(jG ops.toList).getD i [],listed.getD k false=true\/k=i:=by
      intro k an;refine C' (p:=λj=>listed.getD j false=true\/j=i) ops.toList [] (λj i G=>by simp at G) (λj aa' hS k an aJ=>?_) i k an (.inr rfl);have qk:ops[j]?=some aa':=by simpa using hS
      rcases (by simpa using aJ:listed.getD j false=true\/j=i) with aJ | aJ
      ·exact .inl (xl j aa' qk aJ k an)
      ·subst aJ;rw[ar]at qk;cases qk;exact .inl (yN k an)
     have hm:=List.all_eq_true.1 Be i (by simpa using a8);simp only[amn,aPO,amq]at hm;rcases hm.2 with h | h
     ·omega
     ·rcases Dt n (by simpa using h) with h | h
      ·rw[ah]at h;simp at h
      ·exact e h.symm
   ·rintro rfl;rw[mem_ready];refine⟨?_,o,gb,λe he U=>?_⟩
    ·have E:=ah i;rw[aPz]at E ⊢;rw[aQy (by omega)]at E ⊢;rw[show decide (i<i)=false by simp]at E;exact E
    ·have:=arH e.on (List.mem_filterMap.2 ⟨e,by simpa using he,by simp[U]⟩);rw[ah];simpa using this
  refine⟨λh=>?_,λi G=>?_⟩
  ·have:=(Lx n).2 rfl;rw[h]at this;cases this
  ·obtain rfl:=(Lx i).1 G;obtain⟨dx,ec⟩:=lF a w D;unfold wpOpIn;rw[gb];simp only;rw[if_pos dx];refine Oper.wpIn_mono (λa' w' an=>?_) ec;obtain⟨vA,s2,gB,Hl,hs,gp,qO,bq⟩:=rM a' w' an;obtain⟨aM,aS,b4⟩:=QE _ _ hs;have iA:(ops.toList.drop (i+1)).length=ops.size - (i+1):=by simp
   have fz:∀ j,(listed.setIfInBounds i true).getD j false=decide (j<=i):=by
    intro j;by_cases e:j=i
    ·subst e;rw[aPz,Array.getElem?_setIfInBounds_self_of_lt (by omega)];simp
    ·rw[getD_set_ne false (Ne.symm e),ah,decide_eq_decide];omega
   have eD:(List.replicate (i+1) q5).length=i+1:=aQt;have R':Zz (jG ops.toList) (List.replicate (i+1) q5++gB)=true:=by
    refine List.all_eq_true.2 λj aJ=>List.all_eq_true.2 λq bq=>?_;have aJ:j<i+1+gB.length:=by simpa [eD]using aJ
    have bq:q<j:=by simpa using bq
    by_cases arI:q<i+1
    ·have aB:(List.replicate (i+1) q5++gB)[q]?=some q5:=by
      rw[aPW (by omega)];simp[arI]
     have bt:∃ y,(List.replicate (i+1) q5++gB)[j]?=some y:=⟨_,ams (by simp;omega)⟩
     obtain⟨y,bt⟩:=bt;rw[aB,bt];simp[eT.apart,C7,q5,eT.pt,eT.oQ]
    ·have:=List.all_eq_true.1 (List.all_eq_true.1 gp (j - (i+1)) (by simp;omega)) (q - (i+1)) (by simp;omega);rw[amu (by omega),amu (by omega),eD];rw[show i+1+(j - (i+1))=j by omega,show i+1+(q - (i+1))=q by omega]at this;exact this
   have e:ops.toList.take ops.size=ops.toList:=aQc;refine R_ (n:=ops.size) (m:=i+1) (l:=List.replicate (i+1) q5++gB) (s:=vA) (s':=s2) (amo _) aT dn aw (by rw[e,aP1,eD,aM,iA,aPI];omega) (by rw[GA,LJ,aS]) (λj f' aJ hS=>?_) (by rw[e];simp only[AI,amn];exact⟨q4,R'⟩) (λj E L=>by omega) (λr D p aj=>?_) (λcZ listed a' w' cI gu _ bj=>aaX cI gu (bq a' w' bj) cZ) cZ _ a' w' (by simpa using cI) (λj f' hS aJ k an=>?_) (λj aJ=>by rw[fz];simp;omega) (λj aJ=>by rw[fz];simp;omega) ?_ ?_
   ·rw[e]at hS;obtain⟨r,ck,c8⟩:=b4 (j - (i+1)) f' (by rw[aQz,show i+1+(j - (i+1))=j by omega];exact hS);refine⟨r,by rw[amu (by omega),eD];exact ck,?_⟩;rw[List.take_append,eD,aQH (by omega),GA,LJ];exact c8
   ·rcases List.mem_append.1 D with h | h
    ·rw[(List.mem_replicate.1 h).2]at aj;cases aj
    ·exact qO r h p aj
   ·rw[fz]at aJ ⊢;have aJ:j<=i:=by simpa using aJ
    have:=List.all_eq_true.1 q4 j (by simp;omega);rw[show ops.toList[j]?=some f' by simpa using hS]at this;have:=List.all_eq_true.1 this k an;simp only[amq]at this ⊢;omega
   ·have L:(List.range ops.size).filter (λj=>!(listed.setIfInBounds i true).getD j false)=(List.range ops.size).filter λj=>decide (i+1<=j):=aQf λj _=>by
     rw[fz];by_cases h:j<=i
     ·have:¬i+1<=j:=by omega
      simp[h,this]
     ·have:i+1<=j:=by omega
      simp[h,this]
    rw[L];have ak:List.range ops.size=List.range (i+1)++List.range' (i+1) (ops.size - (i+1)):=by
     rw[aQB,aQB];have:=(List.range'_append (s:=0) (m:=i+1) (n:=ops.size - (i+1)) (step:=1))
     rw[Nat.one_mul,aQs]at this;rw[this];congr 1;omega
    rw[ak,aQh,List.filter_eq_nil_iff.2 λj aJ=>by have:=List.mem_range.1 aJ;simp;omega,aQi];refine aPG (aP0 _ _) ?_;rw[List.length_range'];omega
   ·have:mW (List.replicate (i+1) q5++gB) vA (λj=>(listed.setIfInBounds i true).getD j false)=vA:=by
     unfold mW;rw[QC,aQh,aPZ,GA];have bt:(j3 (0+(List.replicate (i+1) q5).length) gB).filter (λp=>(listed.setIfInBounds i true).getD p.1 false)=[]:=List.filter_eq_nil_iff.2 λp aj=>by
      obtain⟨E,_⟩:=AM aj;rw[fz];simp only[amq];rw[eD]at E;omega
     rw[bt];have aB:∀ (l:List eT),(∀ r∈l,r=q5)->jW l vA=vA:=λl ah=>by
      rw[List.eq_replicate_iff.2 ⟨rfl,ah⟩,LJ]
     show jW (((j3 0 (List.replicate (i+1) q5)).filter λp=>(listed.setIfInBounds i true).getD p.1 false).map (·.2)) vA=vA;refine aB _ λr D=>?_;obtain⟨p,aj,rfl⟩:=List.mem_map.1 D;obtain⟨_,L⟩:=AM (List.mem_filter.1 aj).1;exact (List.mem_replicate.1 (aQx L)).2
    rw[this];exact Hl
theorem Sg(n j:Nat):(Array.replicate n false).getD j false=false:=by
 rw[aPz,aQV];grind
theorem aba(aT:ed C.P T)(dn:lE C.P bs)(dD:pz C.P C.aU Psi)(aw:∀ o∈ops.toList,mU o C.bV=true){k:aC->M bet}{O:bet->Prop}
  (an:∀ s' a' w',dc C s' a' w'->c6 (k s') O->Q .normal a' w') {a:Act} {w:World} (D:dc C s a w) (hm:c6 (Di C.aU T bs Psi ops s k) O):wpAnyIn (eZ C.r) 0 C.P .any ops Q ops.size (Array.replicate ops.size false) a w.drew:=by
 obtain⟨kap,F,gZ⟩:=D;have gb:∀ {n:Nat} {l:List eT} {s':aC} {m:M bet},n<=ops.size->xb C.aU T bs ops (ops.toList.take n) s=some (l,s')->AI (ops.toList.take n) l=true->(∀ j,n<=j->j<ops.size->∀ i,i<n->i∈(jG ops.toList).getD j [])->c6 (yE (l.flatMap eT.cs) m) O->
   (c6 m O->∀ (cZ:Nat) (listed:Array Bool) a' w',listed.size=ops.size->(∀ i,listed.getD i false=decide (i<n))->ops.size - n<=cZ->dc C s' a' w'->wpAnyIn (eZ C.r) 0 C.P .any ops Q cZ listed a' w')->wpAnyIn (eZ C.r) 0 C.P .any ops Q ops.size (Array.replicate ops.size false) a w.drew:=by
  intro n l s' m aA ay b5 R7 hm ql;obtain⟨E,L⟩:=Lw _ hm;obtain⟨aM,aS,b4⟩:=QE _ _ ay;refine R_ (m:=0) aA aT dn aw aM aS (λi o _ h=>b4 i o h) b5 R7 (λr D p aj=>E p (List.mem_flatMap.2 ⟨r,D,aj⟩)) (ql L) ops.size _ a _ (by simp) (λj o _ ah=>by rw[Sg]at ah;cases ah) (λi _=>Sg _ i) (λ_ h=>by omega) (by grind) ⟨kap,F,?_⟩;have:mW l s (λj=>(Array.replicate ops.size false).getD j false)=s:=by
   unfold mW;rw[List.filter_eq_nil_iff.2 λp _=>by simp only[Sg];decide];rfl
  rw[this];exact gZ.drew
 unfold Di at hm;split at hm
 ·rename_i l s' ay;split at hm
  ·rename_i b5;have e:ops.toList.take ops.size=ops.toList:=aQc;refine gb (amo _) (e.symm ▸ ay) (e.symm ▸ b5) (λj E L=>by omega) hm λL cZ listed a' w' cI gu _ bj=>aaX cI gu (an s' a' w' bj L) cZ
  ·exact hm.1.elim
 ·split at hm
  ·rename_i l s' ay;split at hm
   ·rename_i b5;rw[amn]at b5;by_cases um:K8 ops.toList=true
    ·have Hm:rK ops.toList=ops.size - 5:=by unfold rK;grind
     refine gb (by omega) ay b5.1 ?_ hm λL=>?_
     ·obtain⟨E,L⟩:=Lw _ hm;have:=aa0 (Q:=Q) um Hm aT dn dD aw an L;grind
     ·have:=aa0 (Q:=Q) um Hm aT dn dD aw an L;grind
    ·have Hm:rK ops.toList=Dh (jG ops.toList) ops.toList.length:=by unfold rK;grind
     obtain⟨w0,jj⟩:=aaI (jG ops.toList) ops.toList.length;have w0:rK ops.toList<=ops.size:=by grind
     have jj:∀ j,rK ops.toList<=j->j<ops.size->∀ i,i<j->i∈(jG ops.toList).getD j []:=λj E L=>jj j (by omega) (by omega);refine gb w0 ay b5.1 (λj E L i G=>jj j E L i (by omega)) hm λL cZ listed a' w' cI gu sU bj=>?_;refine aq4 b5.2 jj (ops.size - rK ops.toList) (rK ops.toList) cZ listed a' w' (amo _) (by omega) cI gu sU ?_;have hlen:(ops.toList.drop (rK ops.toList)).length=ops.size - rK ops.toList:=by simp
     rw[<-hlen];exact R2 (Q:=Q) aT dn dD aw an _ _ [] s' a' w' rfl (λp aj=>by cases aj) bj L
   ·exact hm.1.elim
  ·split at hm
   ·rename_i Be;unfold ZW at hm;split at hm
    ·rename_i l s1 ay;split at hm
     ·rename_i b5;split at hm
      ·rename_i o gb;split at hm
       ·rename_i uu;split at hm
        ·rename_i cG q2;obtain⟨E,L⟩:=Lw _ hm;have arJ:o∈ops.toList:=aQx (by simpa using gb);have bh:∀ i,o.dst=some i->i<C.bV:=λi G=>by
          have:=aw o arJ;simp only[mU,amn]at this;have:=this.1;rw[G]at this;simpa using this
         obtain⟨e8,e_,mv⟩:=RX aT dn dD bh q2;have ba:cG.cy:=by
          cases ax:ud (be C.aU s1.az) o with
          | true=>exact mv (Qv ax)
          | false=>rw[ax]at L;exact (h6.1 L).1
         have L:=Sb L;rw[fD]at L;have Sh:=Be;simp only[K9,amn,amq]at Sh;have aA:K_ C.aU T bs ops ops.toList s<ops.size:=by simpa using Sh.2.1
         obtain⟨cO,cJ,gT⟩:=QE _ _ ay;refine R_ (m:=0) (Nat.le_of_lt aA) aT dn aw cO cJ (λi o _ h=>gT i o h) b5 (λj ao_ iB i G=>?_) (λr D p aj=>E p (List.mem_flatMap.2 ⟨r,D,aj⟩)) (λcZ listed a' w' cI gu sU bj=>?_) ops.size (Array.replicate ops.size false) a _ (by simp) (λj o _ ah=>?_) (λi _=>?_) (λ_ h=>by omega) ?_ ⟨kap,F,?_⟩
         ·have:=List.all_eq_true.1 Sh.2.2 j (by simpa using iB);simp only[amn,aPO,amq]at this;rcases this.1 with h | h
          ·omega
          ·simpa using List.all_eq_true.1 h i (by simpa using G)
         ·refine arG Be aT dn aw gb (s1:=s1) (K2:=λa' w'=>∃ y,dc C (cG.ad y) a' w'/\c6 _ O) (λa w D=>⟨?_,e8 a w Q _ D ba ⟨L.1,λy a_ a' w' bj=>⟨y,bj,L.2 y a_⟩⟩⟩) (λa' w' ⟨y,Hl,Hn⟩=>?_) cZ listed a' w' cI gu sU bj
          ·obtain⟨kap,F,D⟩:=D;rw[Lq D uu];rfl
          ·split at Hn
           ·rename_i gB s2 ps;split at Hn
            ·rename_i gp;obtain⟨aM,aS⟩:=Lw _ Hn;exact⟨_,s2,gB,Hl,ps,gp,λr D p aj=>aM p (List.mem_flatMap.2 ⟨r,D,aj⟩),λb2 dL c1=>an s2 b2 dL c1 aS⟩
            ·exact Hn.1.elim
           ·exact Hn.1.elim
         ·have:(Array.replicate ops.size false).getD j false=false:=by
           rw[aPz,aQV];split<;>rfl
          rw[this]at ah;cases ah
         ·rw[aPz,aQV];split<;>rfl
         ·have:=aP0 (λj=>!(Array.replicate ops.size false).getD j false) (List.range ops.size);simpa using this
         ·have:mW l s (λj=>(Array.replicate ops.size false).getD j false)=s:=by
           unfold mW;rw[List.filter_eq_nil_iff.2 λp _=>?_]
           ·rfl
           ·simp only[aPz,aQV];split<;>simp
          rw[this];exact gZ.drew
        ·exact hm.1.elim
       ·exact hm.1.elim
      ·exact hm.1.elim
     ·exact hm.1.elim
    ·exact hm.1.elim
   exact hm.1.elim
theorem arK{id:Nat}(fj:C.P.follows .mixedOrders=true)(aT:ed C.P T)(dn:lE C.P bs)(dD:pz C.P C.aU Psi)(aw:∀ o∈ops.toList,mU o C.bV=true){k:aC->M bet}{O:bet->Prop}
  (an:∀ s' a' w',dc C s' a' w'->c6 (k s') O->Q .normal a' w') {a:Act} {w:World} (D:dc C s a w) (hm:c6 (Di C.aU T bs Psi ops s k) O):(Code.region id ops true).wpIn (eZ C.r) 0 C.P Q a w:=
 wpIn_region_any fj (aba aT dn dD aw an D hm)
theorem Dx{ops:Array Oper}{j:Nat}{o:Oper}(h:ops[j]?=some o):(nx ops.toList).toArray[j]?=some (if j=0 then o else { o with after:=o.after.push ⟨0,.phase⟩ }):=by
 obtain⟨l⟩:=ops;cases l with
 | nil=>simp at h
 | cons x l=>
  cases j with
  | zero=>simpa [nx]using h
  | succ j=>
   simp only[aQr,aQw]at h;simp[nx,h]
theorem Si(ops:Array Oper):(nx ops.toList).toArray.size=ops.size:=by
 obtain⟨l⟩:=ops;cases l<;>simp[nx]
theorem arL{ops:Array Oper}{j:Nat}{jQ:Oper}(h:(nx ops.toList).toArray[j]?=some jQ):∃ o,ops[j]?=some o/\jQ=if j=0 then o else { o with after:=o.after.push ⟨0,.phase⟩ }:=by
 have aJ:j<ops.size:=by rw[<-Si];exact (Array.getElem?_eq_some_iff.1 h).1
 have:=Dx (ops:=ops) (j:=j) (o:=ops[j]) (by simp[aJ]);rw[h]at this;cases this;exact⟨ops[j],by simp[aJ],rfl⟩
theorem arM(ops:Array Oper):yielded (nx ops.toList).toArray=yielded ops:=by
 funext t j;unfold yielded;cases h:ops[j]? with
 | none=>
  have:(nx ops.toList).toArray[j]?=none:=by
   rw[Array.getElem?_eq_none_iff,Si];exact Array.getElem?_eq_none_iff.1 h
  rw[this]
 | some o=>
  rw[Dx h];by_cases aJ:j=0
  ·rw[if_pos aJ]
  ·rw[if_neg aJ];rfl
theorem arN{F:Fence}{P:Program}:∀ (cZ:Nat) (listed:Array Bool) (a:Act) (w:World),listed.getD 0 false=true->wpAnyIn F 0 P .any (nx ops.toList).toArray Q cZ listed a w->wpAnyIn F 0 P .any ops Q cZ listed a w:=by
 have ua:∀ (listed:Array Bool),listed.getD 0 false=true->∀ i,i∈Region.ready .any ops listed->i∈Region.ready .any (nx ops.toList).toArray listed:=by
  intro listed aV i G;rw[mem_ready]at G ⊢;obtain⟨E,o,ar,L⟩:=G;refine⟨E,_,Dx ar,λe he U=>?_⟩;split at he
  ·exact L e he U
  ·rcases Array.mem_push.1 he with he | rfl
   ·exact L e he U
   ·exact aV
 have arO:∀ (listed:Array Bool),Region.ready .any ops listed=[]->Region.ready .any (nx ops.toList).toArray listed=[]:=by
  intro listed h;rw[List.eq_nil_iff_forall_not_mem]at h ⊢;intro i G;refine h i ?_;rw[mem_ready]at G ⊢;obtain⟨E,jQ,ar,L⟩:=G;obtain⟨o,hS,rfl⟩:=arL ar;refine⟨E,o,hS,λe he U=>L e ?_ U⟩;split
  ·exact he
  ·exact Array.mem_push_of_mem _ he
 have arP:∀ (listed:Array Bool),listed.getD 0 false=true->Region.ready .any (nx ops.toList).toArray listed=[]->Region.ready .any ops listed=[]:=by
  intro listed aV h;rw[List.eq_nil_iff_forall_not_mem]at h ⊢;exact λi G=>h i (ua listed aV i G)
 intro cZ;induction cZ with
 | zero=>
  intro listed a w aV h;exact⟨arP listed aV h.1,h.2⟩
 | succ cZ aO=>
  intro listed a w aV h;refine⟨λD=>h.1 (arO listed D),λi G=>?_⟩;have an:=h.2 i (ua listed aV i G);have next:∀ a w,wpAnyIn F 0 P .any (nx ops.toList).toArray Q cZ (listed.setIfInBounds i true) a w->wpAnyIn F 0 P .any ops Q cZ (listed.setIfInBounds i true) a w:=λa w=>aO _ a w (getD_set_true aV)
  have an:=wpOpIn_mono next an
  unfold wpOpIn at an ⊢;rw[mem_ready]at G;obtain⟨_,o,ar,_⟩:=G;rw[ar];rw[Dx ar,arM]at an;by_cases sL:i=0
  ·rw[if_pos sL]at an;exact an
  ·rw[if_neg sL]at an;exact an
theorem arQ{id:Nat}(fj:C.P.follows .mixedOrders=true)(arR:C.r=none)(ax:Q9 ops=true)(aT:ed C.P T)(dn:lE C.P bs)(dD:pz C.P C.aU Psi)(aw:∀ o∈ops.toList,mU o C.bV=true){k:aC->M bet}{O:bet->Prop}
  (an:∀ s' a' w',dc C s' a' w'->c6 (k s') O->Q .normal a' w') {a:Act} {w:World} (D:dc C s a w) (hm:c6 (Di C.aU T bs Psi (nx ops.toList).toArray s k) O):(Code.region id ops true).wpIn (eZ C.r) 0 C.P Q a w:=by
 refine wpIn_mono (Q:=λe a w=>e=.normal/\Q e a w) (wpIn_region_any fj ?_) λe a w h=>h.2;have kS:=aba (Q:=λe a w=>e=.normal/\Q e a w) (ops:=(nx ops.toList).toArray) aT dn dD (λo ar=>?_) (λs' a' w' E L=>⟨rfl,an s' a' w' E L⟩) D hm
 ·rw[Si]at kS;have rP:(eZ C.r).round=none:=by rw[arR];rfl
  unfold Q9 at ax;split at ax
  ·cases ax
  ·rename_i o l ah;simp only[amn,aP4,aPO]at ax;obtain⟨E,L,ak,aZ,bP⟩:=ax;have aV:ops[0]?=some o:=by rw[<-aPX,ah];rfl
   obtain⟨m,hm⟩:∃ m,ops.size=m+1:=⟨l.length,by rw[<-aPI,ah];rfl⟩
   rw[hm]at kS ⊢;have aD:o.guard=none:=by simpa using L
   have i':∀ (ops:Array Oper),ops[0]?=some o->0∈Region.ready .any ops (Array.replicate (m+1) false):=λops h=>by
    rw[mem_ready];refine⟨by simp,o,h,λe he=>?_⟩;rw[Array.isEmpty_iff.1 ak]at he;simp at he
   have lF:∃ x,o.op=.move x:=by
    revert E;cases o.op<;>simp
   obtain⟨x,ao⟩:=lF;have a_:YieldsFenced C.P ops o (a.eval x) a:=⟨.inl ⟨by unfold Region.wanted;rw[aD],λw=>by simp[execOp,ao]⟩,λw=>by unfold Oper.about;rw[ao]⟩
   have hs:=kS.2 0 (i' _ (by rw[Dx aV];rfl));unfold wpOpIn at hs;rw[Dx aV]at hs;simp only[if_true]at hs;rw[show Region.wanted o (yielded (nx ops.toList).toArray a.tmps)=true by unfold Region.wanted;rw[aD],if_pos rfl]at hs;have hs:wpAnyIn (eZ C.r) 0 C.P .any (nx ops.toList).toArray (λe a w=>e=.normal/\Q e a w) m ((Array.replicate (m+1) false).setIfInBounds 0 true) (a.put o.dst (a.eval x)) w.drew:=by
    have:=hs.2;rw[rP,Oper.semAt_none]at this;simpa [execOp,ao,Oper.uponIn]using this
   refine wpAnyIn_first rP aV (Region.noSelect_spec aZ) (λc a w h=>by cases h.1) m _ a _ (λj vx abb arS _ he=>?_) (i' _ aV) a_ (arN m _ _ _ (by simp) hs);have ob:vx∈l:=by
    rw[<-aPX,ah]at abb;cases j with
    | zero=>exact absurd rfl arS
    | succ j=>exact aQx abb
   rcases bP vx ob with h | h
   ·exfalso;have h:0∈lH vx:=by simpa using h
    obtain⟨e,arT,AE⟩:=List.mem_filterMap.1 h;split at AE
    ·rename_i U;exact he e (by simpa using arT) U (by simpa using AE)
    ·cases AE
   ·exact h
 ·have ar:o∈(nx ops.toList):=by simpa using ar
  obtain⟨ol⟩:=ops;cases ol with
  | nil=>cases ar
  | cons x l=>
   rcases List.mem_cons.1 ar with rfl | ar
   ·exact aw _ (by simp)
   ·obtain⟨p,aj,rfl⟩:=List.mem_map.1 ar;have:=aw p (by simp[aj]);exact this
end
end Go.Fer
namespace Go.Fer
open Go.RowKit
variable {bet:Type}
theorem ib{O:bet->Prop}(h:c6 (dZ:M bet) O):False:=h.1
variable {s:aC}
theorem xn{sh:eE}{k:sh.al->M bet}{O:bet->Prop}(h:c6 (sh.pw s k) O):∃ A,sh.kT s=some A/\c6 (k A) O:=by
 unfold eE.pw at h;split at h
 ·grind
 ·exact (ib h).elim
def uy(B:Nat):Deferred:={ target:=.collected B,args:=#[] }
structure qm where
 w:World
 K:Nat->Prop
 ms:List Nat
def cF.i_(C:cF)(u:qm):cF:={ C with ep:=u.w,K0:=u.K,dj:=u.ms.map uy++C.dj }
structure cF.lJ(C:cF)(u:qm):Prop where
 vC:∀ B∈u.ms,u.K B/\u.w.heap[B]?=some (.deferred (some []))
 fr:∀ B∈u.ms,¬C.K0 B/\C.ep.heap.size<=B
 ko:u.ms.Nodup
 iC:∀ r,C.K0 r->u.K r
 e2:∀ r,C.K0 r->u.w.heap[r]?=C.ep.heap[r]?
 size:C.ep.heap.size<=u.w.heap.size
 eN:dM C.ep u.w
def cF.ix(C:cF):qm:=⟨C.ep,C.K0,[]⟩
theorem cF.yP(C:cF):C.lJ C.ix:=⟨λ_ h=>by simp[cF.ix]at h,λ_ h=>by simp[cF.ix]at h,List.nodup_nil,λ_ h=>h,λ_ _=>rfl,amo _,dM.refl _⟩
def qm.then(u v:qm):qm:=⟨v.w,v.K,v.ms++u.ms⟩
theorem cF.Dy(C:cF)(u v:qm):(C.i_ u).i_ v=C.i_ (u.then v):=by
 simp[cF.i_,qm.then]
theorem cF.lJ.then{C:cF}{u v:qm}(h:C.lJ u)(k:(C.i_ u).lJ v):C.lJ (u.then v) where
 vC:=λB aX=>by
  rcases List.mem_append.1 aX with aX | aX
  ·exact k.vC B aX
  ·obtain⟨E,L⟩:=h.vC B aX;exact⟨k.iC B E,(k.e2 B E).trans L⟩
 fr:=λB aX=>by
  rcases List.mem_append.1 aX with aX | aX
  ·obtain⟨E,L⟩:=k.fr B aX;exact⟨λak=>E (h.iC B ak),aPG h.size L⟩
  ·exact h.fr B aX
 ko:=List.nodup_append.2 ⟨k.ko,h.ko,λa aW b U e=>(k.fr a aW).1 (e ▸ (h.vC b U).1)⟩
 iC:=λr D=>k.iC r (h.iC r D)
 e2:=λr D=>(k.e2 r (h.iC r D)).trans (h.e2 r D)
 size:=aPG h.size k.size
 eN:=h.eN.trans k.eN
theorem Bf{sh:eE}(h:sh.bC.any (λp=>p.2.l3)=false)(A:sh.al)(r:Nat):¬k7 (sh.ad A).aa r:=λ⟨e,m,xs,E,_⟩=>by
 rcases A4 du sh.bC (eU du sh.bX A).2 cx with⟨k,_⟩ | ⟨q,aM,aS,R,z,b4⟩
 ·have k:(sh.ad A).aa cx=_:=k;rw[k]at E;cases E
 ·have b4:(sh.ad A).aa cx=_:=b4;rw[b4]at E;have A7:q.2.l3=true:=by
   obtain⟨cO,cJ⟩:=q;cases cJ<;>first | rfl | cases E
  have:=List.any_eq_false.1 h q aM;exact this A7
variable {a:Act}{w:World}{kap:Nat->bI}{F:Nat->Prop}{ep:World}{w':World}{K0:Nat->Prop}{r:Option Nat}
theorem bw.abc{C:cF}{F':Nat->Prop}(h:bw C s a w kap F){jA:Nat->Prop}{bV:Nat}{dj:List Deferred}{sl:Nat->aL}{a':Act}
    (Sj:a'.tmps.size=bV) (Sl:a'.defers=dj) (rQ:bV<=fE) (fH:∀ i,bJ C.P s.aa kap F w (sl i) (a'.tmps.getD i undef)) (h_:∀ l aI ab n ad,sl ca≠.aR l aI ab n ad)
    (heq:∀ r,F r\/(∃ b,(s.aa b).body.cd (kap b)=true/\(kap b).aa=r)->w'.heap[r]?=w.heap[r]?) (cI:w.heap.size<=w'.heap.size)
    (bm:∀ r,F r->F' r) (kx:∀ r,F' r->r<w'.heap.size) (Ho:∀ b,(s.aa b).body.cd (kap b)=true->¬F' (kap b).aa)
    (Sm:∀ r,F' r->jA r\/¬K0 r) (Sn:∀ r,jA r->F' r) (Hp:∀ r,K0 r->r<ep.heap.size) (xo:∀ r,K0 r->w'.heap[r]?=ep.heap[r]?) (eJ:∀ b,(s.aa b).body.cd (kap b)=true->¬K0 (kap b).aa)
    (oW:ep.heap.size<=w'.heap.size) (hc:dM ep w') (qj:∀ r,¬k7 s.aa r) :
    bw { C with ep:=ep,jA:=jA,K0:=K0,bV:=bV,dj:=dj,r:=r } ⟨sl,s.aa⟩ a' w' kap F':=by
  have he:di F w w':=⟨cI,λr D=>heq r (.inl D)⟩
  exact {
          dX:=Sj,dj:=Sl,bX:=λi=>bJ.later (fL.refl _ _) bm he (fH i)
          bC:=λb=>c7.k6 (h.bC b) (fL.refl _ _) bm he rfl rfl λar=>heq _ (.inr ⟨b,ar,rfl⟩)
          own:=λb U=>⟨aPB (h.own b U).1 cI,Ho b U,eJ b U⟩,inj:=h.inj,dr:=kx
          hQ:=Sm,iq:=Sn,ir:=Hp,e2:=xo,size:=oW,eN:=hc,hE:=rQ,k8:=h.k8,iY:=h.iY,k9:=h.k9,jB:=h.jB,e7:=λl aI ab n ad e=>(h_ l aI ab n ad e).elim,bQ:=λe m hm=>⟨(h.bQ e m hm).1,λid xs ao=>(qj id ⟨e,m,xs,hm,ao⟩).elim⟩,j2:=h.j2,hW:=h.hW.mono bm he }
theorem bw.yQ{C:cF}(h:bw C s a w kap F){jA:Nat->Prop}{bV:Nat}{dj:List Deferred}{sl:Nat->aL}{a':Act}
  (Sj:a'.tmps.size=bV) (Sl:a'.defers=dj) (rQ:bV<=fE) (fH:∀ i,bJ C.P s.aa kap F w (sl i) (a'.tmps.getD i undef)) (h_:∀ l aI ab n ad,sl ca≠.aR l aI ab n ad)
  (heq:∀ r,F r\/(∃ b,(s.aa b).body.cd (kap b)=true/\(kap b).aa=r)->w'.heap[r]?=w.heap[r]?) (cI:w.heap.size<=w'.heap.size)
  (Sm:∀ r,F r->jA r\/¬K0 r) (Sn:∀ r,jA r->F r) (Hp:∀ r,K0 r->r<ep.heap.size) (xo:∀ r,K0 r->w'.heap[r]?=ep.heap[r]?) (eJ:∀ b,(s.aa b).body.cd (kap b)=true->¬K0 (kap b).aa)
  (oW:ep.heap.size<=w'.heap.size) (hc:dM ep w') (qj:∀ r,¬k7 s.aa r) :
  bw { C with ep:=ep,jA:=jA,K0:=K0,bV:=bV,dj:=dj,r:=r } ⟨sl,s.aa⟩ a' w' kap F:=
 h.abc Sj Sl rQ fH h_ heq cI (λ_ h=>h) (λr D=>aPB (h.dr r D) cI) (λb U=>(h.own b U).2.1) Sm Sn Hp xo eJ oW hc qj
theorem bw.LK{C:cF}(h:bw C s a w kap F)
    (kG:∀ r,K0 r->C.K0 r) (heq:∀ r,F r\/¬C.K0 r->w'.heap[r]?=w.heap[r]?) (cI:w.heap.size<=w'.heap.size) (Bg:dM w w')
    (Hp:∀ r,K0 r->r<ep.heap.size) (xo:∀ r,K0 r->w'.heap[r]?=ep.heap[r]?) (oW:ep.heap.size<=w'.heap.size) (hc:dM ep w') :
    bw { C with ep:=ep,K0:=K0,r:=r } s a w' kap F:=by
  have he:di F w w':=⟨cI,λr D=>heq r (.inl D)⟩
  have kx:∀ r,F r->r<w'.heap.size:=λr D=>aPB (h.dr r D) cI;exact {
          dX:=h.dX,dj:=h.dj,bX:=λi=>bJ.later (fL.refl _ _) (λ_ h=>h) he (h.bX i)
          bC:=λb=>c7.k6 (h.bC b) (fL.refl _ _) (λ_ h=>h) he rfl rfl λar=>heq _ (.inr (h.own b ar).2.2)
          own:=λb U=>⟨aPB (h.own b U).1 cI,(h.own b U).2.1,λk=>(h.own b U).2.2 (kG _ k)⟩,inj:=h.inj,dr:=kx
          hQ:=λr D=>(h.hQ r D).imp id λk k'=>k (kG r k'),iq:=h.iq,ir:=Hp,e2:=xo,size:=oW,eN:=hc,hE:=h.hE,k8:=h.k8,iY:=h.iY,k9:=h.k9,jB:=h.jB
          e7:=λl aI ab n ad e=>by
            obtain⟨E,L,Y,ak,aZ,bP⟩:=h.e7 l aI ab n ad e;exact⟨E,L,Y,λr D=>⟨aPB (ak r D).1 cI,(ak r D).2.1,λk=>(ak r D).2.2 (kG r k)⟩,aZ,L.JT bP (λ_ h=>h) (λr D=>heq r (D.imp id λa_=>(ak r a_).2.2)) cI Bg kx λr ax a_=>(ak r a_).2.1 ax⟩
          bQ:=λe m hm=>⟨(h.bQ e m hm).1,λid xs ao=>by
            obtain⟨nn,cO,cJ,gT,ly,cu⟩:=(h.bQ e m hm).2 id xs ao;exact⟨nn,aPB cO cI,cJ,λk=>gT (kG _ k),ly,cu.mono (λ_ h=>h) he (heq id (.inr gT))⟩⟩
          j2:=h.j2,hW:=h.hW.mono (λ_ h=>h) he }
theorem abd{P:Program}{H:Nat->b7}{kap:Nat->bI}{F:Nat->Prop}{w:World}{aI:V}{x:aI.al}:∀ (bu:List Tmp) (args:List Value) (j:Nat) (f:Nat->aL) (q3:Array Value),bu.length=args.length->(∀ p∈bu,p<q3.size)->
  (∀ i,bJ P H kap F w (f i) (q3.getD i undef))->(∀ i,i<args.length->bJ P H kap F w (kc aI x (j+i)) (args.getD i undef))->
  ∀ i,bJ P H kap F w (Dj aI x bu j f i) (((bu.zip args).foldl (λtmps p=>tmps.setIfInBounds p.1 p.2) q3).getD i undef)
 | [],[],_,_,_,_,_,ax,_,i=>ax i
 | p::bu,v::args,j,f,q3,ah,aj,ax,ae,i=>by
  simp only[Dj,List.zip_cons_cons,aPY];refine abd bu args (j+1) _ _ (by grind) (λq bq=>by grind) (λi=>?_) (λi G=>?_) i
  ·rw[aPz,Array.getElem?_setIfInBounds];by_cases e:i=p
   ·grind
   ·rw[if_neg e,if_neg (Ne.symm e)];simp_all
  ·have:=ae (i+1) (by grind);grind
theorem arU{bu:List Tmp}{args:List Value}:∀ {q3:Array Value},((bu.zip args).foldl (λtmps p=>tmps.setIfInBounds p.1 p.2) q3).size=q3.size:=by
 generalize bu.zip args=l;induction l with
 | nil=>simp
 | cons p l aO=>grind
def vD:dS->Option Code
 | .normal=>none
 | .exit id=>some (.exit id)
 | .ret=>some .ret
def hH(fn:FuncId)(q3:Array Value)(bu:Array Tmp)(assign body:Code)(B:Nat)(ad:LoopState)(e:dS):Loop:=
 { state:=ad,pending:=vD e,fn:=fn,tmps:=q3,params:=bu,assign:=assign,body:=body,defers:=B }
variable {ea:eE}
def LL(P:Program)(aU:dV)(bV:Nat)(assign body:Code)(l:Nat)(run:aC->M (dS×ea.al)):Prop:=
 ∀ (C1:cF),C1.P=P->C1.aU=aU->C1.bV=bV->C1.r=some l->∀ (s1:aC) (cw:Act) (cf:World) (sW:dS×ea.al->Prop),dc C1 s1 cw cf->c6 (run s1) sW->
  assign.wpIn (eZ (some l)) 0 P (Exit.then (λb2 dL=>∃ u s2,C1.lJ u/\dc (C1.i_ u) s2 b2 dL/\
   ∀ (jl:cF),jl.P=P->jl.aU=aU->jl.bV=bV->jl.r=some l->∀ (dL:World),dc jl s2 b2 dL->
    body.wpIn (eZ (some l)) 0 P (λe ef hG=>∃ (aY:dS) (v:qm) (e4:aC) (bk:ea.al),e=aY.rL/\jl.lJ v/\dc (jl.i_ v) e4 ef hG/\ea.kT e4=some bk/\sW (aY,bk)) b2 dL) (λ_ _ _=>False)) cw cf
theorem arV{ts:List (Nat×cc)}{R:Type}(h:ts.isEmpty=true)(g:Nat->z24')(z:qX ts R)(i:Nat):fi (eU g ts z).1 i=.undef:=by
 cases ts with
 | nil=>rfl
 | cons p ts=>grind
variable {l:Nat}
theorem arW{P:Program}{R:Ending->World->Prop}{e:dS}{r:Loop}(h:w.heap[l]?=some (.loop r))
  (fs:R (.returned (.bool (vD e).isNone)) (w.putObj l (.loop { r with state:=if (vD e).isNone then .ready else .done,pending:=vD e }))):roundPost P l R e.rL a w:=by
 cases e with
 | normal=>exact⟨_,_,run_endRound none h,fs⟩
 | exit id=>exact⟨_,_,run_endRound (some (.exit id)) h,fs⟩
 | ret=>exact⟨_,_,run_endRound (some .ret) h,fs⟩
variable {bu:Array Tmp}{aI:V}{assign:Code}
theorem arX{CI:cF}{sh rin:eE}{body:Code}{W:World}{A:sh.al}{fn:FuncId}{B:Nat}{x:aI.al}{args:List Value}{run:aC->M (dS×ea.al)}
  {Or:dS×sh.al->Prop} {Y Z:Nat->Prop} (arY:Z l)
  (D:bw CI (sh.ad A) a W kap F) (e3:nz sh ea aI bu.toList a.tmps.size=true) (Hq:LL CI.P CI.aU a.tmps.size assign body l run) (hm:c6 (xe sh rin ea aI bu.toList A x run) Or)
  (ah:W.heap[l]?=some (.loop (hH fn a.tmps bu assign body B .ready .normal))) (arZ:¬F l) (bK:∀ b,((sh.ad A).aa b).body.cd (kap b)=true->Y (kap b).aa/\¬Z (kap b).aa) (fA:gv CI.P aI F W args x) :
  ∃ tmps,(Instr.yield l args.toArray).run CI.P W=.ok (.round l fn tmps assign body) W/\RoundIn Fence.wide 0 CI.P l fn tmps assign body W λe sX=>
   ∃ (bL:dS) (kF:sh.al) (bR:Nat->bI) (F':Nat->Prop) (o:Obj),e=.returned (.bool (vD bL).isNone)/\Or (bL,kF)/\sX.heap[l]?=some (.loop (hH fn a.tmps bu assign body B (if (vD bL).isNone then .ready else .done) bL))/\
    bw { CI with ep:=W.putObj l o,jA:=F,K0:=λr=>r<W.heap.size/\(Z r\/¬Y r) } (sh.ad kF) a sX bR F':=by
 simp only[nz,amn,amq,aPH]at e3;obtain⟨⟨⟨⟨⟨aM,xi,Bh⟩,aS⟩,b4⟩,hZ⟩,sJ⟩:=e3;have LM:=(Array.getElem?_eq_some_iff.1 ah).1;obtain⟨ka,Dz⟩:=vj (H:=(sh.ad A).aa) (kap:=kap) aI fA b4;have h_:(sh.ad A).az ca=.undef:=yH sh.bX du A ca aS;have Ke:(Array.zip bu args.toArray).foldl (λtmps x=>match x with | (t,a)=>tmps.setIfInBounds t a) a.tmps=(bu.toList.zip args).foldl (λtmps p=>tmps.setIfInBounds p.1 p.2) a.tmps:=by
  rw[<-Array.foldl_toList];simp
 refine⟨(bu.toList.zip args).foldl (λtmps p=>tmps.setIfInBounds p.1 p.2) a.tmps,?_,?_⟩
 ·rw[<-Ke];exact run_yield ah (by show args.toArray.size=bu.size;grind)
 have Hl:bw { CI with ep:=W,jA:=F,K0:=λr=>r<W.heap.size/\(Z r\/¬Y r) } (sh.ad A) a W kap F:=
  D.yQ D.dX D.dj D.hE D.bX (λl aI ab n ad e=>by have e:(sh.ad A).az ca=.aR l aI ab n ad:=e;grind) (λ_ _=>rfl) (amo _) (λ_ h=>.inl h) (λ_ h=>h) (λ_ h=>h.1) (λ_ _=>rfl)
   (λb U h=>h.2.elim (bK b U).2 λh=>h (bK b U).1) (amo _) (dM.refl _) (Bf Bh A)
 unfold xe at hm;split at hm
 ·rename_i rho b9 ar0;split at hm
  ·rename_i b5;rw[fD]at hm;have gn:bw { CI with ep:=W,jA:=F,K0:=λr=>r<W.heap.size/\(Z r\/¬Y r),bV:=a.tmps.size,dj:=[],r:=none } ⟨(AX (sh.ad A) aI x bu.toList).az,(sh.ad A).aa⟩ { tmps:=(bu.toList.zip args).foldl (λtmps p=>tmps.setIfInBounds p.1 p.2) a.tmps,defers:=[] } W kap F:=by
    refine D.yQ arU rfl (by rw[D.dX];exact D.hE) (λi=>?_) (λet mX gf kf lk e=>?_) (λ_ _=>rfl) (amo _) (λ_ h=>.inl h) (λ_ h=>h) (λ_ h=>h.1) (λ_ _=>rfl)
     (λb U h=>h.2.elim (bK b U).2 λh=>h (bK b U).1) (amo _) (dM.refl _) (Bf Bh A)
    ·show bJ CI.P (sh.ad A).aa kap F W (if i=ca then (sh.ad A).az ca else Dj aI x bu.toList 0 (sh.ad A).az i) _;split
     ·rw[h_];trivial
     ·exact abd bu.toList args 0 _ _ (by omega) (λp aj=>by grind) D.bX (λi G=>by grind) i
    ·have e:(if ca=ca then (sh.ad A).az ca else Dj aI x bu.toList 0 (sh.ad A).az ca)=.aR et mX gf kf lk:=e;grind
   obtain⟨F',own,jh,j',f1,bj,eJ,DA,aal,G0,RO⟩:=aan   Hl gn (by rfl) ar0 rfl b5;have LN:l<W.heap.size/\(Z l\/¬Y l):=⟨LM,.inl arY⟩
   have abe:=λh=>(bj.hQ l h).elim arZ λh=>h LN;have ar1:¬own l:=λh=>by
    rcases eJ l h with⟨b,E,L⟩ | aj
    ·exact (bj.own b E).2.2 (L ▸ LN)
    ·exact (bj.bQ.nX aj).2.2.2.1 LN
   have ar2:=λh=>(DA.low l h).2.2 LN;have abf:l<W.heap.size/\¬own l/\¬jh l:=⟨LM,ar1,ar2⟩
   have LO:=G0.LK       (r:=some l) (λ_ h=>h) (λ_ _=>rfl) (amo _) (dM.refl _) (λ_ h=>h.1) (λ_ _=>rfl) (amo _) (dM.refl _);refine roundIn_of_wpIn trivial ?_;refine wpIn_mono (Hq { vw CI W F' a.tmps.size own jh j' with r:=some l } rfl rfl rfl rfl (rin.ad rho) _ W _ ⟨_,_,LO⟩ hm) λe b2 dL bq=>?_;cases e with
   | normal=>
    obtain⟨u,s2,hu,⟨py,fV,c1⟩,ch⟩:=bq;have vF:=hu.iC l abf;have hp:=(c1.e2 l vF).trans ((hu.e2 l abf).trans ah);refine⟨_,run_beginRound hp rfl,?_⟩;have ar3:=(Array.getElem?_eq_some_iff.1 hp).1;have ar4:=λh=>(c1.hQ l h).elim abe λh=>h vF;have sY:=c1.LK   (w':=dL.putObj l (.loop (hH fn a.tmps bu assign body B .busy .normal)))   (r:=some l) (λ_ h=>h)
     (λr h=>World.putObj_heap_other λe=>by
      subst e;exact h.elim ar4 λh=>h vF) (by simp) ⟨rfl,rfl,rfl⟩ (λr h=>by
       have:=c1.ir r h;have:=c1.size;simp;omega) (λ_ _=>rfl) (amo _) (dM.refl _)
    refine wpIn_mono (ch { ({ vw CI W F' a.tmps.size own jh j' with r:=some l }).i_ u with ep:=dL.putObj l (.loop (hH fn a.tmps bu assign body B .busy .normal)),K0:=u.K,r:=some l } rfl rfl rfl rfl _ ⟨py,fV,sY⟩) λe ef hG ⟨aY,v,e4,bk,he,ae,⟨LP,abg,pB⟩,gN,yR⟩=>?_;subst he;obtain⟨LP,ar5,f4,q6⟩:=eE.Dl gN pB;have Ap:=ae.iC l vF;have abh:=(q6.e2 l Ap).trans ((ae.e2 l vF).trans (World.putObj_heap_same ar3));have aL7:=(Array.getElem?_eq_some_iff.1 abh).1;have aL8:=λh=>(q6.hQ l h).elim abe λh=>h Ap;generalize hs:(if (vD aY).isNone then LoopState.ready else .done)=lk;refine arW abh ?_;rw[hs];have oc:bw { CI with ep:=W.putObj l (.loop (hH fn a.tmps bu assign body B lk aY)),jA:=F,K0:=λr=>r<W.heap.size/\(Z r\/¬Y r) } ((sh.ad A).cC b9) a (W.putObj l (.loop (hH fn a.tmps bu assign body B lk aY))) kap F':=
     bj.LK (λ_ h=>h) (λr h=>World.putObj_heap_other λe=>by
      grind) (by simp) ⟨rfl,rfl,rfl⟩ (λr h=>by simp_all) (λ_ _=>rfl) (amo _) (dM.refl _)
    have Dp:W.heap.size<=hG.heap.size:=by
     have E:=hu.size;have L:=c1.size;have ak:=ae.size;have aZ:=q6.size;have E:W.heap.size<=u.w.heap.size:=E;have L:u.w.heap.size<=dL.heap.size:=L;have aZ:v.w.heap.size<=hG.heap.size:=aZ;simp  at ak;omega
    have qW:=by
     have E:=hu.eN;have L:=c1.eN;have ak:dM dL v.w:=⟨ae.eN.os,ae.eN.tape,ae.eN.output⟩
     exact E.trans (L.trans (ak.trans q6.eN))
    have ar6:∀ i,(ea.ad bk).az i=.undef:=λi=>arV aM du bk i;have pA:∀ r,(r<(W.putObj l (.loop (hH fn a.tmps bu assign body B lk aY))).heap.size/\¬own r/\¬jh r)->(r<W.heap.size/\¬own r/\¬jh r):=λr h=>⟨by simp_all,h.2⟩
    have iZ:=q6.yQ   (w':=hG.putObj l (.loop (hH fn a.tmps bu assign body B lk aY)))   (K0:=λr=>r<(W.putObj l (.loop (hH fn a.tmps bu assign body B lk aY))).heap.size/\¬own r/\¬jh r)     (r:=none) (sl:=(ea.ad bk).az) (a':={ tmps:=#[],defers:=[] }) rfl rfl (aPK _)
     (λi=>by rw[ar6];trivial) (λl aI ab n ad e=>by grind)
     (λr h=>World.putObj_heap_other λe=>by
      subst e;rcases h with h | ⟨b,E,L⟩
      ·grind
      ·exact (q6.own b E).2.2 (L ▸ Ap)) (by simp) (λr h=>(q6.hQ r h).imp id λh eX=>h (ae.iC r (hu.iC r (pA r eX)))) q6.iq (λr h=>h.1)
     (λr h=>by
      by_cases e:r=l
      ·grind [World.putObj_heap_same]
      ·rw[World.putObj_heap_other e,World.putObj_heap_other e];have E:=hu.iC r (pA r h);exact (q6.e2 r (ae.iC r E)).trans ((ae.e2 r E).trans ((World.putObj_heap_other e).trans ((c1.e2 r E).trans (hu.e2 r (pA r h))))))
     (λb U h=>(q6.own b U).2.2 (ae.iC _ (hu.iC _ (pA _ h)))) (by simp_all) ⟨qW.os,qW.tape,qW.output⟩ (Bf xi bk)
    obtain⟨kapn,qi,_⟩:=RO (W.putObj l (.loop (hH fn a.tmps bu assign body B lk aY))) (W.putObj l (.loop (hH fn a.tmps bu assign body B lk aY))) oc ⟨λet mX gf kf lk e=>(by
      grind),λr h=>⟨by simpa using (DA.low r h).1,(DA.low r h).2⟩,DA.own,DA.Lm,DA.bQ⟩ bk [] (hG.putObj l (.loop (hH fn a.tmps bu assign body B lk aY))) LP ar5 iZ
    obtain⟨kF,abi,aL9⟩:=xn yR;obtain⟨kapn,aL_,_,aL'⟩:=eE.Dl abi qi;grind [hH,dF,World.putObj_heap_same]
   | _=>exact bq.elim
  ·exact hm.1.elim
 ·exact hm.1.elim
theorem abj{o f':Obj}{r:Nat}(h:r<w.heap.size):((w.alloc o).alloc f').heap[r]?=w.heap[r]?:=
 (rz _ _ (by simp;omega)).trans (rz _ _ h)
def ar7(C CI:cF)(sh rin ea:eE)(aI:V)(cr:List aI.al->Prop)(bu:Array Tmp)(assign body:Code)(a:Act)(fn:FuncId)(l B:Nat)(run:aC->M (dS×ea.al))(k:dS->aC->M bet)(O:bet->Prop)
  (ad:Bool) (F Y:Nat->Prop) (W:World):Prop:=
 ∃ (e:dS) (A:sh.al) (kap:Nat->bI),bw CI (sh.ad A) a W kap F/\W.heap[l]?=some (.loop (hH fn a.tmps bu assign body B (if ad then .done else .ready) e))/\W.heap[B]?=some (.deferred (some []))/\
  (∀ b,((sh.ad A).aa b).body.cd (kap b)=true->Y (kap b).aa/\¬((kap b).aa=l\/(kap b).aa=B))/\Y l/\Y B/\¬F l/\¬F B/\C.P=CI.P/\
  (ad=false->e=.normal/\∀ R,cr R->c6 (kl (λA y=>xe sh rin ea aI bu.toList A y run) R A) λp=>c6 (k p.1 (sh.ad p.2)) O)/\(ad=true->e≠.normal/\c6 (k e (sh.ad A)) O)
theorem abk{C CI:cF}{sh rin:eE}{S:List aI.al->Prop}{body:Code}{fn:FuncId}{B:Nat}{run:aC->M (dS×ea.al)}{k:dS->aC->M bet}{O:bet->Prop}
  (kG:CI.K0=λ_=>False) (ar8:l≠B) (e3:nz sh ea aI bu.toList a.tmps.size=true) (Hq:LL CI.P CI.aU a.tmps.size assign body l run) :
  JN CI.P (gv CI.P aI) l S λpre=>ar7 C CI sh rin ea aI (λR=>S (pre++R)) bu assign body a fn l B run k O where
 FE:=λ{pre ad F F' Y w w'} h bm heq cI kB kx Ho=>by
  have hc:dM w w':=⟨kB.1,kB.2.1,kB.2.2⟩
  obtain⟨e,A,kap,D,E,L,ak,aZ,bP,ej,iW,kP,zT⟩:=h;have h_:=by
   simp only[nz,amn,aPH]at e3;exact yH sh.bX du A ca e3.1.1.1.2
  have qj:∀ (A:sh.al) r,¬k7 (sh.ad A).aa r:=λA=>by
   grind [nz,Bf]
  have xp:∀ r,CI.K0 r->False:=λr h=>by grind
  refine⟨e,A,kap,?_,(heq l (.inr aZ)).trans E,(heq B (.inr bP)).trans L,ak,aZ,bP,λh=>Ho l h aZ,λh=>Ho B h bP,kP,zT⟩;exact D.abc D.dX D.dj D.hE D.bX (λet mX gf kf lk e=>by grind)
   (λr bj=>heq r (bj.imp id λ⟨b,U,e⟩=>e ▸ (ak b U).1)) cI bm kx (λb U ax=>Ho _ ax (ak b U).1) (λr _=>.inr (xp r)) (λr h=>bm r (D.iq r h)) (λr h=>(xp r h).elim) (λr h=>(xp r h).elim) (λb _=>xp _)
   (aPG D.size cI) (D.eN.trans hc) (qj A)
 yield:=λ{pre F Y w args x} h kx abl ao fA=>by
  obtain⟨Sp,Sq⟩:=ao;obtain⟨e,A,kap,D,E,L,ak,aZ,bP,ej,iW,kP,zT,_⟩:=h;obtain⟨rfl,hm⟩:=zT rfl;have qj:∀ (A:sh.al) r,¬k7 (sh.ad A).aa r:=λA=>by
   grind [nz,Bf]
  have h_:∀ A,(sh.ad A).az ca=.undef:=λA=>by
   simp only[nz,amn,aPH]at e3;exact yH sh.bX du A ca e3.1.1.1.2
  have xp:∀ r,CI.K0 r->False:=λr h=>by grind
  have hm:c6 (xe sh rin ea aI bu.toList A x run) λp=>∀ T,S (pre++x::T)->c6 (match p.1 with
    | .normal=>kl (λA y=>xe sh rin ea aI bu.toList A y run) T p.2
    | .exit id=>mpure (.exit id,p.2)
    | .ret=>mpure (.ret,p.2)) λp=>c6 (k p.1 (sh.ad p.2)) O:=by
   have E:=λT aT=>fD.1 (hm (x::T) aT);exact⟨(E Sp Sq).1,λy a_ T aT=>(E T aT).2 y a_⟩
  obtain⟨tmps,a_,ar9⟩:=arX (Z:=λr=>r=l\/r=B) (.inl rfl) D e3 Hq hm E ej ak fA;refine⟨fn,tmps,assign,body,a_,ar9.mono λaY sX ⟨bL,kF,bR,F',o,he,yR,rR,bj⟩=>?_⟩;have LM:=(abl l aZ).1;have abm:=(abl B bP).1;have dx:=bj.iq;have ec:∀ r,F' r->F r\/Y r\/w.heap.size<=r:=λr c1=>by
   rcases bj.hQ r c1 with h | h<;>grind
  have abn:=λr dk ax bA vy=>(bj.hQ r vy).elim ax λh=>h ⟨dk,.inl bA⟩;have ar_:=abn l LM ej (.inl rfl);have Bc:=abn B abm iW (.inr rfl);have abo:∀ b,((sh.ad kF).aa b).body.cd (bR b)=true->¬((bR b).aa=l\/(bR b).aa=B)/\(Y (bR b).aa\/w.heap.size<=(bR b).aa):=λb U=>by
   have an:=(bj.own b U).2.2;grind
  have abp:w.heap.size<=sX.heap.size:=by have:=bj.size;simp_all
  have gc:dM w sX:=⟨bj.eN.os,bj.eN.tape,bj.eN.output⟩
  refine⟨(vD bL).isNone,F',λr=>(∃ b,((sh.ad kF).aa b).body.cd (bR b)=true/\(bR b).aa=r)\/r=l\/r=B,he,dx,ec,bj.dr,λr dk a_=>?_,λr c1=>?_,abp,⟨gc.os,gc.tape,gc.output⟩,?_⟩
  ·have eM:r≠l:=λe=>a_ (e ▸ aZ);exact (bj.e2 r ⟨dk,.inr a_⟩).trans (World.putObj_heap_other eM)
  ·rcases c1 with⟨b,U,rfl⟩ | rfl | rfl
   ·exact⟨(abo b U).2,(bj.own b U).1,(bj.own b U).2.1⟩
   ·grind
   grind
  ·refine⟨bL,kF,bR,?_,?_,?_,λb U=>⟨.inl ⟨b,U,rfl⟩,(abo b U).1⟩,.inr (.inl rfl),.inr (.inr rfl),ar_,Bc,kP,λhs=>?_,λhs=>?_⟩
   ·exact bj.yQ bj.dX bj.dj bj.hE bj.bX (λet mX gf kf lk e=>by have e:(sh.ad kF).az ca=.aR et mX gf kf lk:=e;grind) (λ_ _=>rfl) (amo _) (λr _=>.inr (xp r)) (λr h=>dx r (D.iq r h))
     (λr h=>(xp r h).elim) (λr h=>(xp r h).elim) (λb _=>xp _) (aPG D.size abp) (D.eN.trans gc) (qj kF)
   ·grind
   ·exact (bj.e2 B ⟨abm,.inl (.inr rfl)⟩).trans ((World.putObj_heap_other (Ne.symm ar8)).trans L)
   ·cases bL with
    | normal=>grind
    | _=>cases hs
   ·cases bL with
    | normal=>cases hs
    | exit id=>exact⟨by simp,(yR Sp Sq).2 _ rfl⟩
    | ret=>exact⟨by simp,(yR Sp Sq).2 _ rfl⟩
theorem abq{P:Program}{S:List aI.al->Prop}{I:List aI.al->Bool->(Nat->Prop)->(Nat->Prop)->World->Prop}(h:JN P (gv P aI) l S I):nW.j1 P ⟨l,aI,S,I⟩ where
 FE:=λE L ak aZ bP ej iW=>h.FE E L ak aZ ⟨bP.os,bP.tape,bP.output⟩ ej iW
 yield:=λE L ak aZ bP=>YieldAt.mono (h.yield E L ak aZ bP) λ_ _ ⟨b,F',jh,aM,aS,b4,hZ,sJ,xi,Bh,Hr,Sr⟩=>⟨b,F',jh,aM,aS,b4,hZ,sJ,xi,Bh,⟨Hr.1,Hr.2.1,Hr.2.2⟩,Sr⟩
theorem ar'{C:cF}(i':C.r=none)(D:dc C s a w){g:Operand}{body:Code}{uj n:Nat}{f_:Nat->aL}(aD:be C.aU s.az g=.u7 uj n f_){ic:De}(abr:G5 C.P uj ic)
    {x:ic.ts.al} {b9:List Nat} (ao:(kd ic.ts ((List.range n).map f_)).run s.aa=some (x,b9)) {sh rin ea:eE} (e3:nz sh ea ic.aI bu.toList C.bV=true) {oX:sh.al} (qh:sh.kT (s.cC b9)=some oX) (hq:ic.pre x)
    {run:aC->M (dS×ea.al)} {k:dS->aC->M bet} {O:bet->Prop} (hm:c6 (kl (λA y=>xe sh rin ea ic.aI bu.toList A y run) (ic.seq x) oX) λp=>c6 (k p.1 (sh.ad p.2)) O)
    (Hq:∀ l,LL C.P C.aU C.bV assign body l run) {Q:Exit->Act->World->Prop}
    (an:∀ u,C.lJ u->∀ e s' a' w',dc (C.i_ u) s' a' w'->c6 (k e s') O->Q e.rL a' w'):(Code.rangeFunc g bu assign body).wpIn (eZ C.r) 0 C.P Q a w:=by
  obtain⟨kap,F,D⟩:=D;obtain⟨ue,f1,gn,f2⟩:=bw.mR (rF _ ao) D;obtain⟨kap,fV,f3,c1⟩:=eE.Dl qh gn;have ae:=lD D g;rw[aD]at ae;obtain⟨aH,rA,jR,aqp⟩:=ae;have asa:gv C.P ic.ts ue w aH x:=w2 D.bC f1 ic.ts ao f2 (by grind) λi G dR=>by
    grind
  have h_:∀ A,(sh.ad A).az ca=.undef:=λA=>by
    simp only[nz,amn,aPH]at e3;exact yH sh.bX du A ca e3.1.1.1.2
  have qj:∀ (A:sh.al) r,¬k7 (sh.ad A).aa r:=λA=>by
    simp only[nz,amn,aPH]at e3;exact Bf e3.1.1.1.1.2.2 A
  rw[i'];refine wpIn_rangeFunc λfn _=>?_;have aX:w.heap.size<((w.alloc (.deferred (some []))).alloc (.loop (hH fn a.tmps bu assign body w.heap.size .ready .normal))).heap.size:=by simp;omega
  have ah:w.heap.size+1<((w.alloc (.deferred (some []))).alloc (.loop (hH fn a.tmps bu assign body w.heap.size .ready .normal))).heap.size:=by simp
  have Hs:((w.alloc (.deferred (some []))).alloc (.loop (hH fn a.tmps bu assign body w.heap.size .ready .normal))).heap[w.heap.size+1]?=some (.loop (hH fn a.tmps bu assign body w.heap.size .ready .normal)):=by
    have:=tN (w.alloc (.deferred (some []))) (.loop (hH fn a.tmps bu assign body w.heap.size .ready .normal));simp_all
  have Ht:((w.alloc (.deferred (some []))).alloc (.loop (hH fn a.tmps bu assign body w.heap.size .ready .normal))).heap[w.heap.size]?=some (.deferred (some [])):=
    (rz _ _ (by simp)).trans (tN w _)
  have sV:∀ r,r<w.heap.size->((w.alloc (.deferred (some []))).alloc (.loop (hH fn a.tmps bu assign body w.heap.size .ready .normal))).heap[r]?=w.heap[r]?:=λr h=>abj h;have Hu:(Instr.enterLoop fn a.tmps bu assign body none).run C.P w=.ok (w.heap.size+1,[uy w.heap.size]) ((w.alloc (.deferred (some []))).alloc (.loop (hH fn a.tmps bu assign body w.heap.size .ready .normal))):=run_enterLoop_outer fn a.tmps bu assign body;have Bg:dM w ((w.alloc (.deferred (some []))).alloc (.loop (hH fn a.tmps bu assign body w.heap.size .ready .normal))):=⟨rfl,rfl,rfl⟩
  have KA:((w.alloc (.deferred (some []))).alloc (.loop (hH fn a.tmps bu assign body w.heap.size .ready .normal))).heap.size=w.heap.size+2:=by simp
  generalize (w.alloc (.deferred (some []))).alloc (.loop (hH fn a.tmps bu assign body w.heap.size .ready .normal))=cf at aX ah Hs Ht sV Hu Bg KA;have rO:di fV w cf:=⟨by omega,λr h=>sV r (c1.dr r h)⟩
  have fA:=(asa.mono f3 (di.refl _ _)).mono (λ_ h=>h) rO;have fw:bw { C with ep:=cf,jA:=fV,K0:=λ_=>False } (sh.ad oX) a cf kap fV:=
    c1.yQ c1.dX c1.dj c1.hE c1.bX (λet mX gf kf lk e=>by have e:(sh.ad oX).az ca=.aR et mX gf kf lk:=e;grind)
      (λr h=>sV r (by
        rcases h with h | ⟨b,U,rfl⟩
        · exact c1.dr r h
        · exact (c1.own b U).1)) (by omega) (λ_ h=>.inl h) (λ_ h=>h) (λ_ h=>h.elim) (λ_ h=>h.elim) (λ_ _ h=>h) (amo _) (dM.refl _) (qj oX)
  have Ss:=abq (abk (S:=λT=>T=ic.seq x) (C:=C) (CI:={ C with ep:=cf,jA:=fV,K0:=λ_=>False })   (rin:=rin)     (assign:=assign) (body:=body)   (fn:=fn) (l:=w.heap.size+1) (B:=w.heap.size) (run:=run) (k:=k) (O:=O)
    rfl (by omega) (by rw[D.dX];omega) (by rw[D.dX];grind))
  have fH:∀ b,((sh.ad oX).aa b).body.cd (kap b)=true->¬((kap b).aa=w.heap.size+1\/(kap b).aa=w.heap.size):=λb U h=>by
    have:=(c1.own b U).1;omega
  have DB:=abr.ik (w.heap.size+1) _ fV (λr=>(∃ b,((sh.ad oX).aa b).body.cd (kap b)=true/\(kap b).aa=r)\/r=w.heap.size+1\/r=w.heap.size) cf aH x fA hq Ss (λr h=>fw.dr r h) fw.hW
    (λr h=>by
      rcases h with⟨b,U,rfl⟩ | rfl | rfl
      · exact⟨(fw.own b U).1,(fw.own b U).2.1⟩
      · exact⟨ah,λh=>by have:=c1.dr _ h;omega⟩
      · exact⟨aX,λh=>by have:=c1.dr _ h;omega⟩)
    ⟨.normal,oX,kap,fw,Hs,Ht,λb U=>⟨.inl ⟨b,U,rfl⟩,fH b U⟩,.inr (.inl rfl),.inr (.inr rfl),λh=>by have:=c1.dr _ h;omega,λh=>by have:=c1.dr _ h;omega,rfl,λ_=>⟨rfl,λR fs=>by grind⟩,λh=>by grind⟩
  refine⟨w.heap.size+1,[uy w.heap.size],cf,{ target:=.fn (.func uj) #[],args:=aH.toArray++#[.func (.yield (w.heap.size+1)) #[] #[]] },cf,uj,(aH++[Value.func (.yield (w.heap.size+1)) #[] #[]]).toArray,cf,Hu,?_,λ_ _=>trivial,?_,λh=>(by cases h),callsIn_wide.2 (DB.mono λe hG ⟨v,kf,ad,F',jh,he,hs,hinv,dx,ec,jF,g4,qT,xj,g7⟩=>?_)⟩
  · have e:a.eval (.const (.func (.yield (w.heap.size+1)) #[] #[]))=.func (.yield (w.heap.size+1)) #[] #[]:=rfl
    simp[resolve,rA,Deferred.ofValue,e]
  · have:=abr.enter (aH++[Value.func (.yield (w.heap.size+1)) #[] #[]]).toArray cf
    simpa [invoke]using this
  subst he;obtain⟨e,A,bR,pB,E,L,ak,aZ,bP,ej,iW,_,kP,zT⟩:=hinv;refine⟨vD e,_,run_endLoop E (by cases ad<;>simp[hH]),?_⟩;generalize ba:Obj.loop _=cy;have iZ:c6 (k e (sh.ad A)) O:=by
    cases ad with
    | true=>grind
    | false=>
      obtain⟨rfl,gM⟩:=kP rfl;exact (gM [] (show kf++[]=ic.seq x by grind)).2 _ rfl
  have yJ:=λr h=>aPB (D.ir r h) D.size;have xo:∀ r,C.K0 r->(hG.putObj (w.heap.size+1) cy).heap[r]?=C.ep.heap[r]?:=λr h=>by
    have dk:=yJ r h;rw[World.putObj_heap_other (by omega),g4 r (by omega) λa_=>?_,sV r dk]
    · exact D.e2 r h
    · rcases a_ with⟨b,U,rfl⟩ | rfl | rfl
      · exact (c1.own b U).2.2 h
      · omega
      omega
  have qW:dM C.ep (hG.putObj (w.heap.size+1) cy):=by
    have:=(D.eN.trans Bg).trans g7;exact⟨this.os,this.tape,this.output⟩
  have DC:C.lJ ⟨hG.putObj (w.heap.size+1) cy,λr=>C.K0 r\/r=w.heap.size,[w.heap.size]⟩:=
    { vC := λB aX => by
        have:B=w.heap.size:=by grind
        subst this;exact⟨.inr rfl,(World.putObj_heap_other (by omega)).trans L⟩
      fr:=λB aX=>by
        have:B=w.heap.size:=by grind
        subst this;exact⟨λh=>by grind,D.size⟩
      ko:=by simp
      iC:=λ_ h=>.inl h
      e2:=xo
      size:=by have:=D.size;simp;omega
      eN:=qW }
  have qi:dc (C.i_ ⟨hG.putObj (w.heap.size+1) cy,λr=>C.K0 r\/r=w.heap.size,[w.heap.size]⟩) (sh.ad A) { a with defers:=[uy w.heap.size]++a.defers } (hG.putObj (w.heap.size+1) cy):=by
    have St:∀ r,F' r->C.jA r\/¬(C.K0 r\/r=w.heap.size):=λr bj=>by
      rcases ec r bj with h | h | h
      · rcases c1.hQ r h with eX | eX<;>grind
      · rcases h with⟨b,U,rfl⟩ | rfl | rfl
        · exact .inr λan=>an.elim (c1.own b U).2.2 λe=>fH b U (.inr e)
        · grind
        grind
      grind
    refine⟨bR,F',pB.yQ   pB.dX (by rw[D.dj];rfl) pB.hE pB.bX (λet mX gf kf lk e=>by have e:(sh.ad A).az ca=.aR et mX gf kf lk:=e;grind)
      (λr h=>World.putObj_heap_other λe=>by
        grind) (by simp) St (λr h=>dx r (c1.iq r h)) (λr h=>?_) (λ_ _=>rfl) (λb U h=>?_) (amo _) (dM.refl _) (qj A)⟩
    · simp
      grind
    · rcases h with h | h
      · rcases (qT _ (ak b U).1).1 with a_ | a_
        · rcases a_ with⟨bf,eg,e⟩ | e | e
          · exact (c1.own bf eg).2.2 (e ▸ h)
          · grind
          grind
        grind
      grind
  have bq:=an _ DC e _ _ _ qi iZ;cases e with
  | normal=>exact bq
  | exit id=>exact wpIn_exit bq
  | ret=>exact wpIn_ret bq
theorem asb{C:cF}(i':C.r=none)(D:dc C s a w){g:Operand}{body:Code}{S:List aI.al->Prop}(aD:be C.aU s.az g=.val (.cE aI) S)
    {sh rin ea:eE} (e3:nz sh ea aI bu.toList C.bV=true) {oX:sh.al} (qh:sh.kT s=some oX) (eM:∃ ab,S ab)
    {run:aC->M (dS×ea.al)} {k:dS->aC->M bet} {O:bet->Prop} (hm:∀ ab,S ab->c6 (kl (λA y=>xe sh rin ea aI bu.toList A y run) ab oX) λp=>c6 (k p.1 (sh.ad p.2)) O)
    (Hq:∀ l,LL C.P C.aU C.bV assign body l run) {Q:Exit->Act->World->Prop}
    (an:∀ u,C.lJ u->∀ e s' a' w',dc (C.i_ u) s' a' w'->c6 (k e s') O->Q e.rL a' w'):(Code.rangeFunc g bu assign body).wpIn (eZ C.r) 0 C.P Q a w:=by
  obtain⟨kap,F,D⟩:=D;obtain⟨kap,fV,f3,c1⟩:=eE.Dl qh D;have ae:=lD D g;rw[aD]at ae;have rA:=fK _ f3 (di.refl _ _) ((eb rfl).1 ae).2;obtain⟨u,hu,_,asc⟩:=rA;have hu:=(aPM hu).1;have h_:∀ A,(sh.ad A).az ca=.undef:=λA=>by
    simp only[nz,amn,aPH]at e3;exact yH sh.bX du A ca e3.1.1.1.2
  have qj:∀ (A:sh.al) r,¬k7 (sh.ad A).aa r:=λA=>by
    simp only[nz,amn,aPH]at e3;exact Bf e3.1.1.1.1.2.2 A
  rw[i'];refine wpIn_rangeFunc λfn _=>?_;have aX:w.heap.size<((w.alloc (.deferred (some []))).alloc (.loop (hH fn a.tmps bu assign body w.heap.size .ready .normal))).heap.size:=by simp;omega
  have ah:w.heap.size+1<((w.alloc (.deferred (some []))).alloc (.loop (hH fn a.tmps bu assign body w.heap.size .ready .normal))).heap.size:=by simp
  have Hs:((w.alloc (.deferred (some []))).alloc (.loop (hH fn a.tmps bu assign body w.heap.size .ready .normal))).heap[w.heap.size+1]?=some (.loop (hH fn a.tmps bu assign body w.heap.size .ready .normal)):=by
    have:=tN (w.alloc (.deferred (some []))) (.loop (hH fn a.tmps bu assign body w.heap.size .ready .normal));simp_all
  have Ht:((w.alloc (.deferred (some []))).alloc (.loop (hH fn a.tmps bu assign body w.heap.size .ready .normal))).heap[w.heap.size]?=some (.deferred (some [])):=
    (rz _ _ (by simp)).trans (tN w _)
  have sV:∀ r,r<w.heap.size->((w.alloc (.deferred (some []))).alloc (.loop (hH fn a.tmps bu assign body w.heap.size .ready .normal))).heap[r]?=w.heap[r]?:=λr h=>abj h;have Hu:(Instr.enterLoop fn a.tmps bu assign body none).run C.P w=.ok (w.heap.size+1,[uy w.heap.size]) ((w.alloc (.deferred (some []))).alloc (.loop (hH fn a.tmps bu assign body w.heap.size .ready .normal))):=run_enterLoop_outer fn a.tmps bu assign body;have Bg:dM w ((w.alloc (.deferred (some []))).alloc (.loop (hH fn a.tmps bu assign body w.heap.size .ready .normal))):=⟨rfl,rfl,rfl⟩
  have KA:((w.alloc (.deferred (some []))).alloc (.loop (hH fn a.tmps bu assign body w.heap.size .ready .normal))).heap.size=w.heap.size+2:=by simp
  generalize (w.alloc (.deferred (some []))).alloc (.loop (hH fn a.tmps bu assign body w.heap.size .ready .normal))=cf at aX ah Hs Ht sV Hu Bg KA;have rO:di fV w cf:=⟨by omega,λr h=>sV r (c1.dr r h)⟩
  have fw:bw { C with ep:=cf,jA:=fV,K0:=λ_=>False } (sh.ad oX) a cf kap fV:=
    c1.yQ c1.dX c1.dj c1.hE c1.bX (λet mX gf kf lk e=>by have e:(sh.ad oX).az ca=.aR et mX gf kf lk:=e;grind)
      (λr h=>sV r (by
        rcases h with h | ⟨b,U,rfl⟩
        · exact c1.dr r h
        · exact (c1.own b U).1)) (by omega) (λ_ h=>.inl h) (λ_ h=>h) (λ_ h=>h.elim) (λ_ h=>h.elim) (λ_ _ h=>h) (amo _) (dM.refl _) (qj oX)
  have Ss:=abk (S:=S) (C:=C) (CI:={ C with ep:=cf,jA:=fV,K0:=λ_=>False })   (rin:=rin)     (assign:=assign) (body:=body)   (fn:=fn) (l:=w.heap.size+1) (B:=w.heap.size) (run:=run) (k:=k) (O:=O)
    rfl (by omega) (by rw[D.dX];omega) (by rw[D.dX];grind)
  have fH:∀ b,((sh.ad oX).aa b).body.cd (kap b)=true->¬((kap b).aa=w.heap.size+1\/(kap b).aa=w.heap.size):=λb U h=>by
    have:=(c1.own b U).1;omega
  obtain⟨uj,dQ,asd,um,Rs⟩:=asc fV cf (λ_ h=>h) rO (λr h=>fw.dr r h) fw.hW eM;have DB:=Rs (w.heap.size+1) _ (λr=>(∃ b,((sh.ad oX).aa b).body.cd (kap b)=true/\(kap b).aa=r)\/r=w.heap.size+1\/r=w.heap.size)
    (λr h=>by
      rcases h with⟨b,U,rfl⟩ | rfl | rfl
      · exact⟨(fw.own b U).1,(fw.own b U).2.1⟩
      · exact⟨ah,λh=>by have:=c1.dr _ h;omega⟩
      · exact⟨aX,λh=>by have:=c1.dr _ h;omega⟩)
    Ss ⟨.normal,oX,kap,fw,Hs,Ht,λb U=>⟨.inl ⟨b,U,rfl⟩,fH b U⟩,.inr (.inl rfl),.inr (.inr rfl),λh=>by have:=c1.dr _ h;omega,λh=>by have:=c1.dr _ h;omega,rfl,λ_=>⟨rfl,λR fs=>hm R fs⟩,λh=>by grind⟩
  refine⟨w.heap.size+1,[uy w.heap.size],cf,{ target:=.fn (.func uj) dQ,args:=#[.func (.yield (w.heap.size+1)) #[] #[]] },cf,uj,#[Value.func (.yield (w.heap.size+1)) #[] #[]]++dQ,cf,Hu,?_,λ_ _=>trivial,?_,λh=>(by cases h),callsIn_wide.2 (DB.mono λe hG ⟨v,pre,ad,F',jh,he,hs,hinv,dx,ec,jF,g4,qT,xj,Su⟩=>?_)⟩
  · have e:a.eval (.const (.func (.yield (w.heap.size+1)) #[] #[]))=.func (.yield (w.heap.size+1)) #[] #[]:=rfl
    simp[resolve,hu,asd,Deferred.ofValue,e]
  · have:=um (#[Value.func (.yield (w.heap.size+1)) #[] #[]]++dQ) cf
    simpa [invoke]using this
  have g7:dM cf hG:=⟨Su.1,Su.2.1,Su.2.2⟩
  subst he;obtain⟨e,A,bR,pB,E,L,ak,aZ,bP,ej,iW,_,kP,zT⟩:=hinv;refine⟨vD e,_,run_endLoop E (by cases ad<;>simp[hH]),?_⟩;generalize ba:Obj.loop _=cy;have iZ:c6 (k e (sh.ad A)) O:=by
    cases ad with
    | true=>grind
    | false=>
      obtain⟨rfl,gM⟩:=kP rfl;exact (gM [] (show S (pre++[]) by grind)).2 _ rfl
  have yJ:=λr h=>aPB (D.ir r h) D.size;have xo:∀ r,C.K0 r->(hG.putObj (w.heap.size+1) cy).heap[r]?=C.ep.heap[r]?:=λr h=>by
    have dk:=yJ r h;rw[World.putObj_heap_other (by omega),g4 r (by omega) λa_=>?_,sV r dk]
    · exact D.e2 r h
    · rcases a_ with⟨b,U,rfl⟩ | rfl | rfl
      · exact (c1.own b U).2.2 h
      · omega
      omega
  have qW:dM C.ep (hG.putObj (w.heap.size+1) cy):=by
    have:=(D.eN.trans Bg).trans g7;exact⟨this.os,this.tape,this.output⟩
  have DC:C.lJ ⟨hG.putObj (w.heap.size+1) cy,λr=>C.K0 r\/r=w.heap.size,[w.heap.size]⟩:=
    { vC := λB aX => by
        have:B=w.heap.size:=by grind
        subst this;exact⟨.inr rfl,(World.putObj_heap_other (by omega)).trans L⟩
      fr:=λB aX=>by
        have:B=w.heap.size:=by grind
        subst this;exact⟨λh=>by grind,D.size⟩
      ko:=by simp
      iC:=λ_ h=>.inl h
      e2:=xo
      size:=by have:=D.size;simp;omega
      eN:=qW }
  have qi:dc (C.i_ ⟨hG.putObj (w.heap.size+1) cy,λr=>C.K0 r\/r=w.heap.size,[w.heap.size]⟩) (sh.ad A) { a with defers:=[uy w.heap.size]++a.defers } (hG.putObj (w.heap.size+1) cy):=by
    have St:∀ r,F' r->C.jA r\/¬(C.K0 r\/r=w.heap.size):=λr bj=>by
      rcases ec r bj with h | h | h
      · rcases c1.hQ r h with eX | eX<;>grind
      · rcases h with⟨b,U,rfl⟩ | rfl | rfl
        · exact .inr λan=>an.elim (c1.own b U).2.2 λe=>fH b U (.inr e)
        · grind
        grind
      grind
    refine⟨bR,F',pB.yQ   pB.dX (by rw[D.dj];rfl) pB.hE pB.bX (λet mX gf kf lk e=>by have e:(sh.ad A).az ca=.aR et mX gf kf lk:=e;grind)
      (λr h=>World.putObj_heap_other λe=>by
        grind) (by simp) St (λr h=>dx r (c1.iq r h)) (λr h=>?_) (λ_ _=>rfl) (λb U h=>?_) (amo _) (dM.refl _) (qj A)⟩
    · simp
      grind
    · rcases h with h | h
      · rcases (qT _ (ak b U).1).1 with a_ | a_
        · rcases a_ with⟨bf,eg,e⟩ | e | e
          · exact (c1.own bf eg).2.2 (e ▸ h)
          · grind
          grind
        grind
      grind
  have bq:=an _ DC e _ _ _ qi iZ;cases e with
  | normal=>exact bq
  | exit id=>exact wpIn_exit bq
  | ret=>exact wpIn_ret bq
section
variable {F:Fence} {n:Nat} {P:Program} {Q:Exit->Act->World->Prop} {a:Act} {w:World}
variable {c:Code}
theorem ase{LQ:Type}{body:LQ->M (aF LQ bet)}{O:bet->Prop}(I:LQ->Act->World->Prop)
  (round:∀ A a w,I A a w->(body A).fm->(∀ r,(body A).a7 (.done r)->O r)->c.wpIn F n P (Exit.then (λa' w'=>∃ kF,(body A).a7 (.next kF)/\I kF a' w') Q) a w)
  {A:LQ} (ay:FC body A) (ar:∀ r,CB body A r->O r) (fw:I A a w):(Code.loop c).wpIn F n P Q a w:=by
 intro b k cs rP U D;have key:∀ A,FC body A->(∀ r,CB body A r->O r)->∀ a w,I A a w->
   ∃ e a' w',Q e a' w'/\ArrivesIn (Machine.fenced P F) P (lone (b.atR a (.code c::.inLoop c::k)) cs w) b k cs e a' w':=by
  intro A ay;induction ay with
  | mk A h _ aO=>
   intro ar a w fw;obtain⟨e,oe,og,bq,ga⟩:=round A a w fw h (λr D=>ar r (.done _ _ D)) b (.inLoop c::k) cs rP U D;cases e with
   | normal=>
    obtain⟨kF,q7,asf⟩:=bq;obtain⟨Sv,Sw,Sx,Sy,Sz⟩:=aO kF q7 (λr D=>ar r (.next _ _ _ q7 D)) oe og asf;exact⟨Sv,Sw,Sx,Sy,.of_steps (StepsIn.trans ga (.one (fenced_calm U D rfl) stepR_inLoop)) Sz⟩
   | exit id=>exact⟨_,oe,og,bq,.pass   rfl (λ_ _=>.inl (by simp)) ga⟩
   | goto l=>exact⟨_,oe,og,bq,.pass   rfl (λ_ _=>.inl (by simp)) ga⟩
   | ret=>exact⟨_,oe,og,bq,.pass   rfl (λ_ _=>.inl (by simp)) ga⟩
   | panic SA=>exact⟨_,oe,og,bq,.pass   rfl (λ_ _=>.inl (by simp)) ga⟩
   | outgrown=>exact⟨_,oe,og,bq,.pass   rfl (λ_ _=>.inl (by simp)) ga⟩
 obtain⟨e,a',w',bq,ga⟩:=key A ay ar a w fw;exact⟨e,a',w',bq,.of_steps (.one (fenced_calm U D rfl) stepR_loop) ga⟩
theorem asg{p q:Prop}(bq:q)(h:q->p):p/\q:=⟨h bq,bq⟩
def LR(F:Fence)(n:Nat)(P:Program)(c:Code)(Q:Exit->Act->World->Prop)(a:Act)(w:World):Prop:=
 ∀ (b:Frame) (k:List Item) (cs:List Frame),b.roundOf=F.round->F.fn b.fn->F.room (cs.length+1+n)->
  ∃ e a' w',Q e a' w'/\ArrivesIn (Machine.fenced P F) P (lone (b.atR a (.code c::.inLoop c::k)) cs w) b k cs e a' w'
theorem ash(h:LR F n P c Q a w):(Code.loop c).wpIn F n P Q a w:=λb k cs rP U D=>by
 obtain⟨e,a',w',bq,ga⟩:=h b k cs rP U D;exact⟨e,a',w',bq,.of_steps (.one (fenced_calm U D rfl) stepR_loop) ga⟩
theorem asi(h:c.wpIn F n P (Exit.then (λa' w'=>LR F n P c Q a' w') Q) a w):LR F n P c Q a w:=λb k cs rP U D=>by
 obtain⟨e,oe,og,bq,ga⟩:=h b (.inLoop c::k) cs rP U D;cases e with
 | normal=>
  obtain⟨Sv,Sw,Sx,Sy,Sz⟩:=bq b k cs rP U D;exact⟨Sv,Sw,Sx,Sy,.of_steps (StepsIn.trans ga (.one (fenced_calm U D rfl) stepR_inLoop)) Sz⟩
 | exit id=>exact⟨_,oe,og,bq,.pass   rfl (λ_ _=>.inl (by simp)) ga⟩
 | goto l=>exact⟨_,oe,og,bq,.pass   rfl (λ_ _=>.inl (by simp)) ga⟩
 | ret=>exact⟨_,oe,og,bq,.pass   rfl (λ_ _=>.inl (by simp)) ga⟩
 | panic SA=>exact⟨_,oe,og,bq,.pass   rfl (λ_ _=>.inl (by simp)) ga⟩
 | outgrown=>exact⟨_,oe,og,bq,.pass   rfl (λ_ _=>.inl (by simp)) ga⟩
variable {b:Frame}
theorem DD{k:List Item}{cs:List Frame}:step P (lone (b.atR a (.code (.scope c)::k)) cs w)=.next (lone (b.atR a (.code c::.inScope c::k)) cs w):=
 step_lone_go (by rfl)
theorem asj{k:List Item}{cs:List Frame}:step P (lone (b.atR a (.inScope c::k)) cs w)=.next (lone (b.atR a k) cs w):=
 step_lone_go (by rfl)
theorem asl(h:c.wpIn F n P (Exit.noGoto Q) a w):(Code.scope c).wpIn F n P Q a w:=by
 intro b k cs rP U D;have aV:(lone (b.atR a (.code (.scope c)::k)) cs w).fenced P F:=fenced_calm U D rfl;obtain⟨e,oe,og,bq,ga⟩:=h b (.inScope c::k) cs rP U D;cases e with
 | normal=>exact⟨.normal,oe,og,bq,.head aV DD (StepsIn.trans ga (.one (fenced_calm U D rfl) asj))⟩
 | exit id=>
  have ao:exitTo id (.inScope c::k)=exitTo id k:=by rfl
  exact⟨.exit id,oe,og,bq,λk' an=>.head aV DD (ga.1 k' (by grind)),λbj an=>let ⟨k₁,E,L⟩:=ga.2 bj (by grind);⟨k₁,E,.head aV DD L⟩⟩
 | goto l=>exact bq.elim
 | ret=>exact⟨.ret,oe,og,bq,.of_steps (.one aV DD) ga⟩
 | panic SA=>exact⟨.panic SA,oe,og,bq,.of_steps (.one aV DD) ga⟩
 | outgrown=>exact⟨.outgrown,oe,og,bq,.of_steps (.one aV DD) ga⟩
end
section
variable {T:Nat->V} {bs:Nat->Option aN} {Psi:Nat->Option gq}
def asm{A:Type}(m:M (aF A bet))(O:bet->Prop)(ad:aF A bet):Prop:=
 match ad with
 | .next s=>m.a7 (.next s)
 | .done r=>O r
theorem asn{C:cF}{s':aC}{i:Nat}(h:Q_ s i=some s')(D:dc C s a w):dc C s' a w:=by
 obtain⟨kap,F,D⟩:=D;unfold Q_ at h;split at h
 ·rename_i b g n off ay;split at h
  ·rename_i e xs ch;split at h
   ·rename_i aD;cases h;have ae:=D.bX i;rw[ay]at ae;obtain⟨aM,aS,b4⟩:=ae.2 aD (by rw[ch];rfl);rw[ch]at aM b4;have aX:=D.bC b;unfold c7 at aX;rw[ch]at aX;obtain⟨cs,T,bE,c2,c3,c4,c5⟩:=aX.2 aS;have aM:n<xs.length:=aM;obtain⟨bB,d1,d2⟩:=c5 n aM;have d2:cp C.P (.slice e) F w bB xs[n]:=d2;obtain⟨u,rfl,hu⟩:=JP   rfl d2;have oM:cs.getD ((kap b).off+n) Go.undef=u:=by
     simp_all[V.size]
    have hp:fL s.aa kap (λq=>if q=b then (⟨g,.h7 (.ad (.slice e)) xs n (.val (.slice e) (xs.getD n []))⟩) else s.aa q) kap:=
     pf aD (λh=>by cases h) (λ_=>by rw[ch];exact⟨rfl,rfl,rfl⟩) (λh=>by cases h) (λh=>by cases h)
    have c1:=D.qL       (by grind [b8.cd]) (by grind [b8.cd]) hp (λh=>by cases h) (λh=>by cases h) (λ_ _=>rfl) rfl (dM.refl w) λH po dk he=>
     ⟨aS,cs,T,bE,c2,c3,c4,⟨rfl,aM⟩,λj aJ _=>c5 j aJ,by rw[oM,show xs.getD n []=xs[n] by grind];exact (eb rfl).2 ⟨hu,d2⟩,by rw[oM];exact Px   rfl d2⟩
    refine⟨kap,F,{ c1 with bX:=λj=>?_,dX:=c1.dX,dj:=c1.dj,bC:=c1.bC,e7:=λl aI ab m ad aY=>?_,bQ:=wR.bX c1.bQ rfl λl aI ab m ad aY=>?_ }⟩
    ·show bJ _ _ _ _ _ (if j=i then _ else _) _;split
     ·rename_i aJ;subst aJ;refine⟨⟨by simp,ae.1.2⟩,λ_ _=>?_⟩;simp only[if_true];exact⟨aM,aS,b4⟩
     ·exact c1.bX j
    ·have aY:(if ca=i then _ else _)=aL.aR l aI ab m ad:=aY;split at aY
     ·grind
     ·exact c1.e7 l aI ab m ad aY
    ·have aY:(if ca=i then _ else _)=aL.aR l aI ab m ad:=aY;split at aY
     ·grind
     ·exact aY
   grind
  grind
 grind
theorem aso{C:cF}{s':aC}{b:Nat}(h:Q' s b=some s')(D:dc C s a w):dc C s' a w:=by
 obtain⟨kap,F,D⟩:=D;unfold Q' at h;split at h
 ·rename_i e xs n v ch;split at h
  ·rename_i y b9 a_;split at h
   ·grind
   ·cases h;obtain⟨F',f1,bj,f2⟩:=bw.mR (pn a_) D;have Qh:(s.cC b9).aa b=s.aa b:=by grind [aC.cC]
    have aX:=D.bC b;have SB:=bj.bC b;unfold c7 at aX SB;rw[Qh,ch]at SB;rw[ch]at aX;obtain⟨aV,cs,T,bE,c2,c3,c4,c5,pk,rC,yo⟩:=SB;obtain⟨_,eo,h9,abt,_,_,_,_,_,asp,_⟩:=aX;rw[bE]at abt;cases abt;have yq:=oK D.bC f1 a_ f2 asp;obtain⟨LO,sY⟩:=(eb rfl).1 yq;have hp:fL (s.cC b9).aa kap (λq=>if q=b then (⟨(s.aa b).gen,.bl (.ad (.slice e)) (xs.set n y)⟩) else (s.cC b9).aa q) kap:=
     pf (by grind) (λh=>by cases h) (λ_=>by rw[Qh,ch];exact⟨rfl,by simp[b8.len],rfl⟩) (λh=>by cases h) (λh=>by cases h)
    refine⟨kap,F',bj.qL     (by grind [b8.cd]) (by grind [b8.cd]) hp (λh=>by cases h) (λh=>by cases h) (λ_ _=>rfl) rfl (dM.refl w) λH po dk he=>⟨λaA=>(by grind),λ_=>⟨cs,T,bE,c2,by grind,c4,λj aJ=>?_⟩⟩⟩;by_cases wQ:j=n
    ·subst wQ;refine⟨[cs.getD ((kap b).off+j) Go.undef],λq bq=>?_,?_⟩
     ·have bq:q=0:=by grind
      have:(kap b).off+j<cs.size:=by
       grind
      simp_all
     ·rw[List.getElem_set_self];exact sY
    grind
  grind
 grind
theorem asq:∀ (ann:cU),(∀ (C:cF) (_:C.P.follows .mixedOrders=true) (_:ed C.P T) (_:lE C.P bs) (_:pz C.P C.aU Psi) (_:C.r=none\/ann.fJ=true) {bet:Type} (c:Code) (s:aC) (k:dS->aC->M bet) (O:bet->Prop) (Q:Exit->Act->World->Prop) (a:Act) (w:World),nA C.bV c=true->dc C s a w->c6 (fW C.aU T bs Psi ann c s k) O->(∀ u,C.lJ u->∀ e s' a' w',dc (C.i_ u) s' a' w'->c6 (k e s') O->Q e.rL a' w')->c.wpIn (eZ C.r) 0 C.P Q a w)/\(ann.qZ=true->∀ (C:cF) (_:C.P.follows .mixedOrders=true) (_:ed C.P T) (_:lE C.P bs) (_:pz C.P C.aU Psi) (_:C.r=none\/ann.fJ=true) {bet:Type} (c:Code) (s:aC) (k:dS->aC->M bet) (O:bet->Prop) (Q:Exit->Act->World->Prop) (a:Act) (w:World),nA C.bV c=true->dc C s a w->c6 (fW C.aU T bs Psi ann (.loop c) s k) O->(∀ u,C.lJ u->∀ e s' a' w',dc (C.i_ u) s' a' w'->c6 (k e s') O->Q e.rL a' w')->LR (eZ C.r) 0 C.P c Q a w):=by
 intro ann;induction ann with
 | fg=>
  refine⟨?_,λ_ C fj aT dn dD gX bet c s k O Q a w hc D hm an=>by exact (ib hm).elim⟩;intro C fj aT dn dD gX bet c s k O Q a w hc D hm an;unfold fW at hm;split at hm
  ·rename_i id ops draw;cases draw with
   | true=>exact arK fj aT (aaG dn dD) dD (λo ar=>List.all_eq_true.1 hc o ar) (λs' a' w' bj gM=>an C.ix C.yP .normal s' a' w' bj gM) D hm
   | false=>
    refine wpIn_region ?_;have:=R2     aT dn dD (λo ar=>List.all_eq_true.1 hc o ar)     (λs' a' w' bj gM=>an C.ix C.yP .normal s' a' w' bj gM) ops.toList 0 [] s a w (by simp) (λp aj=>by grind) D hm;grind [List.range_eq_range']
  ·exact wpIn_skip (an C.ix C.yP .normal s a w D hm)
  ·exact wpIn_label (an C.ix C.yP .normal s a w D hm)
  ·exact wpIn_exit (an C.ix C.yP (.exit _) s a w D hm)
  ·exact wpIn_ret (an C.ix C.yP .ret s a w D hm)
  grind [ib]
 | seq x y jm nC=>
  have jm:=jm.1;have nC:=nC.1;refine⟨?_,λh=>by grind [cU.qZ]⟩;intro C fj aT dn dD gX bet c s k O Q a w hc D hm an;have j5:C.r=none\/x.fJ=true:=gX.imp id λh=>by grind [cU.fJ]
  have sZ:C.r=none\/y.fJ=true:=gX.imp id λh=>by grind [cU.fJ]
  unfold fW at hm;split at hm
  ·rename_i qn DE;simp  [nA]at hc;refine wpIn_seq (jm C fj aT dn dD j5 qn s _ O _ a w hc.1 D hm λu hu e s' a' w' bj gM=>?_);cases e with
   | normal=>exact nC (C.i_ u) fj aT dn dD sZ DE s' k O Q a' w' hc.2 bj gM λv ae=>by rw[cF.Dy];exact an _ (hu.then ae)
   | exit id=>exact an u hu (.exit id) s' a' w' bj gM
   | ret=>exact an u hu .ret s' a' w' bj gM
  grind [ib]
 | join sh x y jm nC=>
  have jm:=jm.1;have nC:=nC.1;refine⟨?_,λh=>by grind [cU.qZ]⟩;intro C fj aT dn dD gX bet c s k O Q a w hc D hm an;have j5:C.r=none\/x.fJ=true:=gX.imp id λh=>by grind [cU.fJ]
  have sZ:C.r=none\/y.fJ=true:=gX.imp id λh=>by grind [cU.fJ]
  unfold fW at hm;split at hm
  ·rename_i qn DE;simp  [nA]at hc;rw[fD]at hm;refine wpIn_seq (jm C fj aT dn dD j5 qn s _ _ _ a w hc.1 D hm λu hu e s' a' w' bj gM=>?_);cases e with
   | normal=>
    obtain⟨A,qh,L⟩:=xn gM;have ak:=dF.1 L;exact nC (C.i_ u) fj aT dn dD sZ DE _ k O Q a' w' hc.2 (eE.A0 qh bj) ak λv ae=>by rw[cF.Dy];exact an _ (hu.then ae)
   | exit id=>
    simp  [AV,fD,dF,aF.gb]at gM;exact an u hu (.exit id) s' a' w' bj gM
   | ret=>
    simp  [AV,fD,dF,aF.gb]at gM;exact an u hu .ret s' a' w' bj gM
  grind [ib]
 | cond x y jm nC=>
  have jm:=jm.1;have nC:=nC.1;refine⟨?_,λh=>by grind [cU.qZ]⟩;intro C fj aT dn dD gX bet c s k O Q a w hc D hm an;have j5:C.r=none\/x.fJ=true:=gX.imp id λh=>by grind [cU.fJ]
  have sZ:C.r=none\/y.fJ=true:=gX.imp id λh=>by grind [cU.fJ]
  unfold fW at hm;split at hm
  ·rename_i co qn DE;simp  [nA]at hc;unfold ZZ at hm;split at hm
   ·rename_i t hu;obtain⟨kap,F,gZ⟩:=D;have ae:=lD gZ co;rw[hu]at ae;refine wpIn_cond_split (gC.1 ae) (λaG=>?_) (λaG=>?_)
    ·subst aG;exact jm C fj aT dn dD j5 qn s k O Q a w hc.1 ⟨kap,F,gZ⟩ hm an
    ·subst aG;exact nC C fj aT dn dD sZ DE s k O Q a w hc.2 ⟨kap,F,gZ⟩ hm an
   ·rename_i g t hu;rw[h6]at hm;obtain⟨ba,hm⟩:=hm;obtain⟨kap,F,gZ⟩:=D;have ae:=lD gZ co;rw[hu]at ae;refine wpIn_cond_split (gC.1 (ae.1 ba)) (λaG=>?_) (λaG=>?_)
    ·subst aG;exact jm C fj aT dn dD j5 qn s k O Q a w hc.1 ⟨kap,F,gZ⟩ hm an
    ·subst aG;exact nC C fj aT dn dD sZ DE s k O Q a w hc.2 ⟨kap,F,gZ⟩ hm an
   grind [ib]
  grind [ib]
 | block x jm=>
  have jm:=jm.1;refine⟨?_,λh=>by grind [cU.qZ]⟩;intro C fj aT dn dD gX bet c s k O Q a w hc D hm an;have j5:=gX;unfold fW at hm;split at hm
  ·rename_i id qn;refine wpIn_block (jm C fj aT dn dD j5 qn s _ O _ a w hc D hm λu hu e s' a' w' bj gM=>?_);cases e with
   | normal=>exact an u hu .normal s' a' w' bj gM
   | exit sN=>
    grind [ZY,dS.rL,Exit.inBlock]
   | ret=>exact an u hu .ret s' a' w' bj gM
  grind [ib]
 | loop sh x jm=>
  have jm:=jm.1;refine⟨?_,λh=>by grind [cU.qZ]⟩;intro C fj aT dn dD gX bet c s k O Q a w hc D hm an;have j5:=gX;unfold fW at hm;split at hm
  ·rename_i qn;obtain⟨A,qh,L⟩:=xn hm;refine ase (I:=λA a w=>∃ u,C.lJ u/\dc (C.i_ u) (sh.ad A) a w)   (λA a w ⟨v,ae,fw⟩ ub Sa=>?_) L.1 L.2 ⟨C.ix,C.yP,eE.A0 qh D⟩;refine jm (C.i_ v) fj aT dn dD j5 qn (sh.ad A) _ (asm (fW C.aU T bs Psi x qn (sh.ad A) (AV k λs'=>sh.pw s' λkF=>mpure (aF.next kF))) O) _ a w hc fw ⟨ub,λad hs=>?_⟩ λu hu e s' a' w' bj gM=>?_
   ·cases ad with
    | next kF=>exact hs
    | done r=>exact Sa r hs
   ·cases e with
    | normal=>
     obtain⟨kF,abi,ak⟩:=xn gM;have aZ:=dF.1 ak;exact⟨kF,aZ,_,ae.then hu,by grind [cF.Dy,eE.A0]⟩
    | exit id=>
     simp  [AV,fD,dF]at gM;exact an _ (ae.then hu) (.exit id) s' a' w' (by grind [cF.Dy]) gM
    | ret=>
     simp  [AV,fD,dF]at gM;exact an _ (ae.then hu) .ret s' a' w' (by grind [cF.Dy]) gM
  grind [ib]
 | scope x jm=>
  have jm:=jm.1;refine⟨?_,λh=>by grind [cU.qZ]⟩;intro C fj aT dn dD gX bet c s k O Q a w hc D hm an;have j5:=gX;unfold fW at hm;split at hm
  ·rename_i qn;refine asl (jm C fj aT dn dD j5 qn s _ O _ a w hc D hm λu hu e s' a' w' bj gM=>?_);have:=an u hu e s' a' w' bj gM;cases e<;>exact this
  grind [ib]
 | range sh rin ea x y jm nC=>
  have jm:=jm.1;have nC:=nC.1;refine⟨?_,λh=>by simp[cU.qZ]at h⟩;intro C fj aT dn dD gX bet c s k O Q a w hc D hm an;unfold fW at hm;split at hm
  ·rename_i g bu assign body;simp  [nA,amq]at hc;obtain⟨aMa,abu,abv⟩:=hc;split at hm
   ·rename_i uj n f_ aD;split at hm
    ·rename_i ic asr;split at hm
     ·rename_i aMb b9 ao;split at hm
      ·rename_i e3;simp  at e3;obtain⟨e3,j5,sZ⟩:=e3;obtain⟨A,qh,L⟩:=xn hm;rw[h6,fD]at L;simp  [Z0]at L;have i':=gX.resolve_right λh=>by cases h
       have SC:nz sh ea ic.aI bu.toList C.bV=true:=by
        simp  [nz,amq]at e3 ⊢;grind
       refine ar' i' D aD (dD uj _ asr) ao SC qh L.1 L.2 (λl=>?_) an;intro C1 jU ve rQ eD s1 cw cf sW n_ mY;have h:=jm C1 (jU ▸ fj) (jU ▸ aT) (jU ▸ dn) (by grind) (.inr j5) assign s1 (Lb λs2=>fW C.aU T bs Psi y body s2 λe e4=>ea.pw e4 λbk=>mpure (e,bk)) sW
        (Exit.then (λb2 dL=>∃ u s2,C1.lJ u/\dc (C1.i_ u) s2 b2 dL/\
         ∀ (jl:cF),jl.P=C.P->jl.aU=C.aU->jl.bV=C.bV->jl.r=some l->∀ (dL:World),dc jl s2 b2 dL->
          body.wpIn (eZ (some l)) 0 C.P (λe ef hG=>∃ (aY:dS) (v:qm) (e4:aC) (bk:ea.al),e=aY.rL/\jl.lJ v/\dc (jl.i_ v) e4 ef hG/\ea.kT e4=some bk/\sW (aY,bk)) b2 dL) (λ_ _ _=>False)) cw cf (rQ ▸ abu) n_ (ve ▸ mY)
        λu hu e s2 b2 dL c1 cS=>?_
       ·grind
       ·cases e with
        | normal=>
         refine⟨u,s2,hu,c1,λjl Bi SD SE ass dL pB=>?_⟩;have h:=nC jl (Bi ▸ fj) (Bi ▸ aT) (Bi ▸ dn) (by grind) (.inr sZ) body s2 (λe e4=>ea.pw e4 λbk=>mpure (e,bk)) sW
          (λe ef hG=>∃ (aY:dS) (v:qm) (e4:aC) (bk:ea.al),e=aY.rL/\jl.lJ v/\dc (jl.i_ v) e4 ef hG/\ea.kT e4=some bk/\sW (aY,bk)) b2 dL (SE ▸ abv) pB (SD ▸ cS) λv ae e e4 ef hG q6 LS=>by
           obtain⟨bk,gN,bP⟩:=xn LS;exact⟨e,v,e4,bk,rfl,ae,q6,gN,dF.1 bP⟩
         grind
        | exit id=>exact (ib cS).elim
        | ret=>exact (ib cS).elim
      ·exact (ib hm).elim
     ·exact (ib hm).elim
    ·exact (ib hm).elim
   ·rename_i aI S aD;split at hm
    ·rename_i e3;simp  at e3;obtain⟨e3,j5,sZ⟩:=e3;obtain⟨A,qh,L⟩:=xn hm;rw[fD]at L;have i':=gX.resolve_right λh=>by cases h
     have SC:nz sh ea aI bu.toList C.bV=true:=by
      simp  [nz,amq]at e3 ⊢;grind
     refine asb i' D aD SC qh L.1 (λab kn=>by have ak:=fD.1 (L.2 ab kn);simp  [Z0]at ak;omega) (λl=>?_) an;intro C1 jU ve rQ eD s1 cw cf sW n_ mY;have h:=jm C1 (jU ▸ fj) (jU ▸ aT) (jU ▸ dn) (by grind) (.inr j5) assign s1 (Lb λs2=>fW C.aU T bs Psi y body s2 λe e4=>ea.pw e4 λbk=>mpure (e,bk)) sW
      (Exit.then (λb2 dL=>∃ u s2,C1.lJ u/\dc (C1.i_ u) s2 b2 dL/\
       ∀ (jl:cF),jl.P=C.P->jl.aU=C.aU->jl.bV=C.bV->jl.r=some l->∀ (dL:World),dc jl s2 b2 dL->
        body.wpIn (eZ (some l)) 0 C.P (λe ef hG=>∃ (aY:dS) (v:qm) (e4:aC) (bk:ea.al),e=aY.rL/\jl.lJ v/\dc (jl.i_ v) e4 ef hG/\ea.kT e4=some bk/\sW (aY,bk)) b2 dL) (λ_ _ _=>False)) cw cf (rQ ▸ abu) n_ (ve ▸ mY)
      λu hu e s2 b2 dL c1 cS=>?_
     ·grind
     ·cases e with
      | normal=>
       refine⟨u,s2,hu,c1,λjl Bi SD SE ass dL pB=>?_⟩;have h:=nC jl (Bi ▸ fj) (Bi ▸ aT) (Bi ▸ dn) (by grind) (.inr sZ) body s2 (λe e4=>ea.pw e4 λbk=>mpure (e,bk)) sW
        (λe ef hG=>∃ (aY:dS) (v:qm) (e4:aC) (bk:ea.al),e=aY.rL/\jl.lJ v/\dc (jl.i_ v) e4 ef hG/\ea.kT e4=some bk/\sW (aY,bk)) b2 dL (SE ▸ abv) pB (SD ▸ cS) λv ae e e4 ef hG q6 LS=>by
         obtain⟨bk,gN,bP⟩:=xn LS;exact⟨e,v,e4,bk,rfl,ae,q6,gN,dF.1 bP⟩
       grind
      | exit id=>exact (ib cS).elim
      | ret=>exact (ib cS).elim
    ·exact (ib hm).elim
   ·exact (ib hm).elim
  ·exact (ib hm).elim
 | iI x y jm nC=>
  refine asg (λ_ C fj aT dn dD gX bet c s k O Q a w hc D hm an=>?_) λkey C fj aT dn dD gX bet c s k O Q a w hc D hm an=>?_
  ·have j5:C.r=none\/x.fJ=true:=gX.imp id λh=>by simp  [cU.fJ]at h;grind
   have sZ:C.r=none\/y.fJ=true:=gX.imp id λh=>by simp  [cU.fJ]at h;grind
   unfold fW at hm;simp  at hm;split at hm
   ·rename_i hu;refine asi (jm.1 C fj aT dn dD j5 c s _ O _ a w hc D hm λu Lg e s' a' w' bj gM=>?_);cases e with
    | normal=>exact nC.2 hu (C.i_ u) fj aT dn dD sZ c s' k O Q a' w' hc bj gM λv ae=>by rw[cF.Dy];exact an _ (Lg.then ae)
    | exit id=>exact an u Lg (.exit id) s' a' w' bj gM
    | ret=>exact an u Lg .ret s' a' w' bj gM
   ·exact (ib hm).elim
  ·cases c with
   | loop qn=>exact ash (key rfl C fj aT dn dD gX qn s k O Q a w hc D hm an)
   | _=>unfold fW at hm;exact (ib hm).elim
 | La=>
  refine⟨?_,λh=>by simp[cU.qZ]at h⟩;intro C fj aT dn dD gX bet c s k O Q a w hc D hm an;unfold fW at hm;split at hm
  ·split at hm
   ·rename_i h;rw[amn]at h;obtain⟨rfl,h⟩:=h;exact arQ fj (gX.resolve_right (by simp[cU.fJ])) h aT (aaG dn dD) dD (λo ar=>List.all_eq_true.1 hc o ar) (λs' a' w' bj gM=>an C.ix C.yP .normal s' a' w' bj gM) D hm
   ·exact (ib hm).elim
  ·exact (ib hm).elim
 | n9 i x aO=>
  have aO:=aO.1;refine⟨?_,λh=>by simp[cU.qZ]at h⟩;intro C fj aT dn dD gX bet c s k O Q a w hc D hm an;unfold fW at hm;split at hm
  ·rename_i s' ae;exact aO C fj aT dn dD gX c s' k O Q a w hc (asn ae D) hm an
  ·exact (ib hm).elim
 | K' b x aO=>
  have aO:=aO.1;refine⟨?_,λh=>by simp[cU.qZ]at h⟩;intro C fj aT dn dD gX bet c s k O Q a w hc D hm an;unfold fW at hm;split at hm
  ·rename_i s' ae;exact aO C fj aT dn dD gX c s' k O Q a w hc (aso ae D) hm an
  ·exact (ib hm).elim
 | num i n x aO=>
  have aO:=aO.1;refine⟨?_,λh=>by simp[cU.qZ]at h⟩;intro C fj aT dn dD gX bet c s k O Q a w hc D hm an;unfold fW at hm;split at hm
  ·rename_i v f ae;rw[h6]at hm;have h:=hm.2;rw[apv ae hm.1]at h;exact aO C fj aT dn dD gX c s k O Q a w hc D h an
  ·exact (ib hm).elim
 | split i off n x aO=>
  have aO:=aO.1;refine⟨?_,λh=>by simp[cU.qZ]at h⟩;intro C fj aT dn dD gX bet c s k O Q a w hc D hm an;unfold fW at hm;split at hm
  ·rename_i v f ae;rw[h6]at hm;have h:=ZU hm.2 hm.1.1 hm.1.2;rw[apu ae hm.1.1]at h;exact aO C fj aT dn dD gX c s k O Q a w hc D h an
  ·exact (ib hm).elim
theorem abw(ann:cU):∀ (C:cF) (_:C.P.follows .mixedOrders=true) (_:ed C.P T) (_:lE C.P bs) (_:pz C.P C.aU Psi) (_:C.r=none\/ann.fJ=true) {bet:Type} (c:Code) (s:aC) (k:dS->aC->M bet) (O:bet->Prop) (Q:Exit->Act->World->Prop) (a:Act) (w:World),nA C.bV c=true->dc C s a w->c6 (fW C.aU T bs Psi ann c s k) O->(∀ u,C.lJ u->∀ e s' a' w',dc (C.i_ u) s' a' w'->c6 (k e s') O->Q e.rL a' w')->c.wpIn (eZ C.r) 0 C.P Q a w:=(asq ann).1
end
end Go.Fer
namespace Go.Fer
open Go.RowKit
def Hv(T:Nat->V)(s:aC):List ResultVar->Option (List aL)
 | []=>some []
 | r::l=>match Hv T s l with
  | none=>none
  | some aH=>match r with
   | .tmp t=>some (s.az t::aH)
   | .cell a ty=>match (CL (T ty) (s.az a)).run s.aa with
    | some v=>some (v::aH)
    | none=>none
def SF(t:V)(n:Nat):Bool:=
 match t with
 | .au _ _=>n != 1
 | .dh=>n == 0
 | _=>n == 1
def yS(T:Nat->V)(mA:List ResultVar)(aR:V)(e:dS)(s:aC):M aR.al:=
 match e with
 | .exit _=>dZ
 | _=>match Hv T s mA with
  | some cV=>match (kd aR cV).run s.aa with
   | some (y,_)=>mpure y
   | none=>dZ
  | none=>dZ
def Hw(t:V)(x:t.al)(n:Nat):List (Nat×aL):=(List.range n).map λi=>(i,kc t x i)
def xq(t:V):Nat:=if t=.dh then 0 else jS t
def rS(t:V)(x:t.al):aC:=ZF (Hw t x (xq t)) []
def DF(aP:dV)(T:Nat->V)(bs:Nat->Option aN)(Psi:Nat->Option gq)(fn:Func)(c:Code)(ann:cU)(ts aR:V)(x:ts.al):M aR.al:=
 fW aP T bs Psi ann c (rS ts x) (yS T fn.results.toList aR)
def Hx(av:aL):aL:=match av with | .val (.bM e) p=>.eL e (p.getD e.dU) | v=>v
def Hy(av:aL):Prop:=match av with | .val (.bM _) p=>p.isSome=true | _=>True
def LU(n:Nat)(s:aC):aC:=⟨λi=>if i<n\/fE<i then s.az i else Hx (s.az i),s.aa⟩
def Hz(n:Nat)(s:aC):Prop:=∀ i,¬(i<n\/fE<i)->Hy (s.az i)
def ast(aP:dV)(T:Nat->V)(bs:Nat->Option aN)(Psi:Nat->Option gq)(fn:Func)(c:Code)(ann:cU)(n:Nat)(ts aR:V)(x:ts.al):M aR.al:=
 ag (Hz n (rS ts x)) (fW aP T bs Psi ann c (LU n (rS ts x)) (yS T fn.results.toList aR))
def HA(fn:Func)(c:Code)(ts aR:V):Bool:=
 nA fn.ntmps c && SF aR fn.results.size && decide (xq ts <= fn.ntmps) && !(fn.name == "runtime.NumGoroutine") && decide (fn.ntmps <= fE)
def DG:z10'->List aL->Option (List aL)
 | [],[]=>some []
 | none::g,v::aH=>match DG g aH with
  | some l=>some (v::l)
  | none=>none
 | some n::g,v::aH=>match v,DG g aH with
  | .agg m f,some l=>if m=n then some ((List.range n).map f++l) else none
  | _,_=>none
 | _,_=>none
def LV(T:Nat->V)(mA:List ResultVar)(lh:z10')(a7:eE)(e:dS)(s:aC):M a7.al:=
 match e with
 | .exit _=>dZ
 | _=>match Hv T s mA with
  | some cV=>match DG lh cV with
   | some l=>match decide (l.length<=fE) with
    | true=>a7.pw (vs s l) λbk=>mpure bk
    | false=>dZ
   | none=>dZ
  | none=>dZ
def LW(aP:dV)(T:Nat->V)(bs:Nat->Option aN)(Psi:Nat->Option gq)(fn:Func)(c:Code)(ann:cU)(cA a7:eE)(lh:z10')(A:cA.al):M a7.al:=
 fW aP T bs Psi ann c (cA.ad A) (LV T fn.results.toList lh a7)
def DH(fn:Func)(c:Code)(kU:Nat)(lh:z10'):Bool:=
 nA fn.ntmps c && decide (fn.results.size = lh.length) && decide (kU <= fn.ntmps) && !(fn.name == "runtime.NumGoroutine") && decide (fn.ntmps <= fE)
section
variable {C:cF} {T:Nat->V} {bs:Nat->Option aN} {Psi:Nat->Option gq}
def DI(tmps:Array Value)(r:ResultVar):Sem Value:=
 match r with
 | .tmp t=>pure (tmps.getD t undef)
 | .cell b t=>do loadVar t (<-asAddr (tmps.getD b undef))
theorem abx(fn:Func)(tmps:Array Value):results fn tmps=(fn.results.mapM (DI tmps) >>= λaH=>pure (if h:aH.size=1 then aH[0] else .tuple aH)):=by
 rfl
variable {s:aC}{a:Act}{w:World}
theorem aby(aT:ed C.P T){kap:Nat->bI}{F:Nat->Prop}(D:bw C s a w kap F):∀ (mA:List ResultVar) {cV:List aL},Hv T s mA=some cV->
  ∃ aH:List Value,(mA.mapM (DI a.tmps)).run C.P w=.ok aH w/\aH.length=mA.length/\cV.length=mA.length/\
   ∀ i (h:i<cV.length) (eX:i<aH.length),bJ C.P s.aa kap F w cV[i] aH[i]:=by
 intro mA;induction mA with
 | nil=>intro cV h;cases h;simp
 | cons r mA aO=>
  intro cV h;simp  [Hv]at h;split at h
  ·grind
  ·rename_i l ah;obtain⟨aH,E,L,ak,aZ⟩:=aO ah;have one:∃ av v,cV=av::l/\(DI a.tmps r).run C.P w=.ok v w/\bJ C.P s.aa kap F w av v:=by
    split at h
    ·rename_i t;cases h;exact⟨_,_,rfl,rfl,D.bX t⟩
    ·rename_i b ty;split at h
     ·rename_i v ae;obtain⟨u,aM,aS⟩:=YA aT D ae (D.bX b);unfold Instr.loadAt at aM;unfold DI;simp only;generalize a.tmps.getD b Go.undef=z at aM ⊢;cases z with
      | pointer p=>
       cases p with
       | none=>simp_all[Instr.sureAddr]
       | some p=>grind [Instr.sureAddr,asAddr]
      | _=>simp[Instr.sureAddr]at aM
     grind
   obtain⟨av,v,rfl,aM,aS⟩:=one;refine⟨v::aH,?_,by grind,by grind,λi G dR=>?_⟩
   ·simp_all
   grind
variable {fn:Func}{aR:V}
theorem asu(aT:ed C.P T)(s3:SF aR fn.results.size=true){e:dS}{O:aR.al->Prop}(D:dc C s a w)(hm:c6 (yS T fn.results.toList aR e s) O) :
  (∀ id,e≠.exit id)/\∃ kap F v y,bw C s a w kap F/\(results fn a.tmps).run C.P w=.ok v w/\O y/\∃ F',(∀ r,F' r->C.jA r\/¬C.K0 r)/\(∀ r,F' r->r<w.heap.size)/\tH C.P aR F' w v y:=by
 obtain⟨kap,F,D⟩:=D;unfold yS at hm;split at hm
 ·grind [ib]
 ·rename_i eM;refine⟨λid he=>eM id he,?_⟩;split at hm
  ·rename_i cV SG;split at hm
   ·rename_i y l a_;obtain⟨aH,E,L,ak,aZ⟩:=aby aT D _ SG;obtain⟨F',f1,bj,f2⟩:=bw.mR (rF _ a_) D;have fA:=w2 (F':=F') D.bC f1 aR a_ f2 (by omega) aZ;have ds:(results fn a.tmps).run C.P w=.ok (if h:aH.toArray.size=1 then aH.toArray[0] else .tuple aH.toArray) w:=by
     rw[abx];have:(fn.results.mapM (DI a.tmps)).run C.P w=.ok aH.toArray w:=by
      rw[Array.mapM_eq_mapM_toList,map_eq_pure_bind,Sem.run_bind,E];rfl
     simp_all
    refine⟨kap,F,_,y,D,ds,dF.1 hm,F',bj.hQ,bj.dr,aH,?_,fA⟩;have cI:aH.length=fn.results.size:=by omega
    rw[<-cI]at s3;clear ds fA E aZ L cI a_;have one:aH.length=1->aH=[if h:aH.toArray.size=1 then aH.toArray[0] else .tuple aH.toArray]:=by
     intro h;match aH,h with
     | [v],_=>rfl
    cases aR<;>simp only[SF,beq_iff_eq,bne_iff_ne,ne_eq]at s3<;>simp only[JM];case au=>grind
    case dh=>
     grind
    all_goals exact one s3
   grind [ib]
  grind [ib]
theorem SH{l:List (Nat×aL)}{i:Nat}:fi l i=.undef\/(i,fi l i)∈l:=by
 induction l with
 | nil=>exact .inl rfl
 | cons p l aO=>
  grind [fi]
theorem q8{P : Program}{k : FuncId}{fn : Func}{c : Code}(ax : P.funcs[k]? = some fn)(U : fn.body = some c)(aA : (fn.name == "runtime.NumGoroutine") = false)(args : Array Value)(w : World) :
  (callFunc k args).run P w=.ok (.enter k args) w:=by
 simp_all[callFunc]
def s4(w:World):List Nat->World
 | []=>w
 | B::ms=>s4 (w.putObj B (.deferred none)) ms
theorem abz:∀ (ms:List Nat) (w:World),(s4 w ms).heap.size=w.heap.size
 | [],_=>rfl
 | _::ms,_=>(abz ms _).trans World.putObj_size
theorem SI:∀ (ms:List Nat) (w:World) {r:Nat},r ∉ ms->(s4 w ms).heap[r]?=w.heap[r]?
 | [],_,_,_=>rfl
 | B::ms,w,r,h=>by
  simp  at h;exact (SI ms _ h.2).trans (World.putObj_heap_other h.1)
theorem abA:∀ (ms:List Nat) (w:World),dM w (s4 w ms)
 | [],w=>dM.refl w
 | B::ms,w=>by
  have h:dM w (w.putObj B (.deferred none)):=⟨rfl,rfl,rfl⟩
  exact h.trans (abA ms _)
theorem SJ{P:Program}{fn:Func}{tmps:Array Value}{R:Ending->World->Prop}:∀ (ms:List Nat) (w:World),ms.Nodup->(∀ B∈ms,w.heap[B]?=some (.deferred (some [])))->
  (∃ v,(results fn tmps).run P (s4 w ms)=.ok v (s4 w ms)/\R (.returned v) (s4 w ms))->LeavesInM Fence.wide 0 P fn tmps R (ms.map uy) .returning w
 | [],w,_,_,h=>h
 | B::ms,w,aA,aX,h=>by
  simp  at aA;refine⟨by simp,.inl ⟨B,_,rfl,run_takeDeferred (aX B (by simp)),?_⟩⟩;exact SJ ms _ aA.2 (λiN eX=>(World.putObj_heap_other λe=>aA.1 (by grind)).trans (aX iN (amr _ eX))) h
theorem dc.abB{u:qm}(hu:C.lJ u)(asv:∀ r,C.jA r->r<C.ep.heap.size)(yJ:∀ r,C.K0 r->r<C.ep.heap.size)(h:dc (C.i_ u) s a w) :
  dc { C with dj:=u.ms.map uy++C.dj } s a (s4 w u.ms)/\a.defers=u.ms.map uy++C.dj/\∀ B∈u.ms,w.heap[B]?=some (.deferred (some [])):=by
 obtain⟨kap,F,h⟩:=h;have aMc:∀ B∈u.ms,¬F B:=λB aX ax=>by
  obtain⟨E,_⟩:=hu.vC B aX;rcases h.hQ B ax with L | L
  ·have:=asv B L;have:=(hu.fr B aX).2;omega
  ·exact L E
 have cI:=abz u.ms w;have hc:=abA u.ms w;refine⟨⟨kap,F,h.LK         (λr D=>hu.iC r D) (λr D=>SI _ _ λhm=>?_) (aRi cI.symm) hc yJ (λr D=>?_) ?_ ?_⟩,h.dj,λB aX=>?_⟩
 ·rcases D with D | D
  ·grind
  ·exact D (hu.vC r hm).1
 ·exact (SI _ _ λhm=>(hu.fr r hm).1 D).trans ((h.e2 r (hu.iC r D)).trans (hu.e2 r D))
 ·rw[cI];exact aPG hu.size h.size
 ·exact (hu.eN.trans h.eN).trans hc
 ·exact (h.e2 B (hu.vC B aX).1).trans (hu.vC B aX).2
variable {P:Program}{k:FuncId}{c:Code}{aP:dV}{ann:cU}{ts:V}
theorem abC(fj:P.follows .mixedOrders=true){sh:ts.al->M aR.al}(aT:ed P T)(iM:qI P aP)(dn:lE P bs)(dD:pz P aP Psi)(ax:P.funcs[k]?=some fn)(U:fn.body=some c)
  (b5:HA fn c ts aR=true) {s0:ts.al->aC} {pre:ts.al->Prop} (oW:∀ x C a w,dc C (rS ts x) a w->pre x->dc C (s0 x) a w)
  (jg:∀ x,a6 (ag (pre x) (fW aP T bs Psi ann c (s0 x) (yS T fn.results.toList aR))) (sh x)):hD P k ts aR sh:=by
 simp only[HA,amn,aPH,amq]at b5;obtain⟨⟨⟨⟨HB,s3⟩,asw⟩,SK⟩,yL⟩:=b5;refine⟨q8 ax U SK,λF w args x bm fq fA ub=>?_⟩;obtain⟨⟨hq,E⟩,L⟩:=jg x ub;have hlen:args.length=xq ts/\∀ i,i<xq ts->∀ (H:Nat->b7) (kap:Nat->bI),bJ P H kap F w (kc ts x i) (args.getD i Go.undef):=by
  unfold xq;split
  ·rename_i e;subst e;have:args=[]:=fA.1;grind
  ·rename_i e;exact⟨(vj (H:=λ_=>⟨0,.ey⟩) (kap:=λ_=>⟨0,0,0,false⟩) ts fA e).1,λi G H kap=>(vj ts fA e).2 i G⟩
 let C:cF:={ P:=P,ep:=w,jA:=F,K0:=λr=>r<w.heap.size,bV:=fn.ntmps,r:=none,dj:=[],j':=λ_=>none,cG:=⟨0,.dh,λ_=>False,λ_ _ _ _ _=>False⟩,aU:=aP }
 let a0:Act:={ tmps:=args.toArray++Array.replicate (fn.ntmps - args.toArray.size) undef,defers:=[] }
 let asx:Nat->bI:=λ_=>⟨0,0,0,false⟩
 have q1:∀ i,(rS ts x).az i=.undef\/(i<xq ts/\(rS ts x).az i=kc ts x i):=λi=>by
  rcases SH     with e | e
  ·exact .inl e
  ·refine .inr ?_;generalize bA:fi (Hw ts x (xq ts)) i=z at e;simp  [Hw]at e;obtain⟨j,aJ,rfl,rfl⟩:=e;exact⟨aJ,bA⟩
 have D:dc C (rS ts x) a0 w:=by
  refine⟨asx,F,{ dX:=?_,dj:=rfl,bX:=λi=>?_,bC:=λb=>trivial,own:=λb U=>(by cases U),inj:=λb bf U _ _=>(by cases U),dr:=bm,hQ:=λr D=>.inl D,iq:=λr D=>D,ir:=λr D=>D,e2:=λr _=>rfl,size:=amo _,eN:=dM.refl w,hE:=yL,k8:=λb r h=>(by grind),iY:=λb r h=>(by grind),k9:=λb k h=>(by grind),jB:=λb k h=>(by grind),e7:=λl aI ab n ad e=>?_,bQ:=λe m hm=>(by cases hm),j2:=iM,hW:=fq }⟩
  ·grind
  ·rcases q1 i with e | ⟨G,e⟩
   ·rw[e];simp  [bJ]
   ·have:a0.tmps.getD i Go.undef=args.getD i Go.undef:=by
     have dR:i<args.length:=by omega
     simp[a0,Array.getElem?_append,dR]
    grind
  grind [ca,fE]
 refine callsIn_wide.1 (callsIn_of_wp_marks   (n:=0) ax U trivial ?_);have hw:=abw ann C fj aT dn dD (.inl rfl) (k:=yS T fn.results.toList aR) (O:=(fW aP T bs Psi ann c (s0 x) (yS T fn.results.toList aR)).a7) (Q:=bodyPostM Fence.wide 0 P fn λe w'=>∃ v y,e=.returned v/\(sh x).a7 y/\tH P aR (wN F w w') w' v y/\Below w.heap.size w w') c (s0 x) a0 w HB (oW x C a0 w D hq) ⟨E,λ_ h=>h⟩;refine hw λu hu e s' a' w' bj hm=>?_;obtain⟨c1,aw,aX⟩:=dc.abB hu bm (λ_ h=>h) bj;obtain⟨eM,kap,ue,v,y,gZ,ds,a_,F',f1,f2,gW⟩:=asu   aT s3 c1 hm;have AN:LeavesInM Fence.wide 0 P fn a'.tmps (λe w'=>∃ v y,e=.returned v/\(sh x).a7 y/\tH P aR (wN F w w') w' v y/\Below w.heap.size w w') a'.defers .returning w':=by
  rw[aw];simp only[C,aPN];refine SJ u.ms w' hu.ko aX ⟨v,ds,v,y,rfl,L y a_,?_,gZ.eN.os,gZ.eN.tape,gZ.eN.output,gZ.size,gZ.e2⟩;obtain⟨aH,aM,aS,b4⟩:=gW;refine⟨aH,aM,aS,fK aR (λr D=>?_) (di.refl _ _) b4⟩;rcases f1 r D with h | h
  ·exact .inl h
  ·exact .inr ⟨aQY h,f2 r D⟩
 cases e with
 | normal=>exact AN
 | exit id=>grind
 | ret=>exact AN
theorem abD(fj:P.follows .mixedOrders=true){sh:ts.al->M aR.al}(aT:ed P T)(iM:qI P aP)(dn:lE P bs)(dD:pz P aP Psi)(ax:P.funcs[k]?=some fn)(U:fn.body=some c)
  (b5:HA fn c ts aR=true) (jg:∀ x,a6 (DF aP T bs Psi fn c ann ts aR x) (sh x)):hD P k ts aR sh:=
 abC fj aT iM dn dD ax U b5 (ann:=ann) (s0:=rS ts) (pre:=λ_=>True) (λ_ _ _ _ h _=>h) λx ay=>⟨⟨trivial,(jg x ay).1⟩,(jg x ay).2⟩
theorem asy{C:cF}{n:Nat}(h:dc C s a w)(hc:Hz n s):dc C (LU n s) a w:=by
 obtain⟨kap,F,D⟩:=h;refine⟨kap,F,{ D with bX:=λi=>?_,dX:=D.dX,dj:=D.dj,bC:=D.bC,e7:=λl aI ab m ad e=>?_,bQ:=D.bQ.bX rfl λl aI ab m ad e=>?_ }⟩
 ·show bJ C.P s.aa kap F w (if i<n\/fE<i then s.az i else Hx (s.az i)) _;split
  ·exact D.bX i
  ·rename_i G;have ae:=D.bX i;have aj:=hc i G;unfold Hx;unfold Hy at aj;split
   ·rename_i e p he;rw[he]at ae aj;obtain⟨_,ae⟩:=(eb rfl).1 ae;rcases ae with⟨_,rfl⟩ | ⟨q,y,bB,bq,rfl,aM,aS⟩
    ·grind
    ·exact⟨q,bB,(aPM bq).1,aM,aS⟩
   omega
 ·have e:(if ca<n\/fE<ca then s.az ca else Hx (s.az ca))=.aR l aI ab m ad:=e;rw[if_pos (.inr (by decide))]at e;exact D.e7 l aI ab m ad e
 ·have e:(if ca<n\/fE<ca then s.az ca else Hx (s.az ca))=.aR l aI ab m ad:=e;rw[if_pos (.inr (by decide))]at e;omega
theorem asz(fj:P.follows .mixedOrders=true){n:Nat}{sh:ts.al->M aR.al}(aT:ed P T)(iM:qI P aP)(dn:lE P bs)(dD:pz P aP Psi)(ax:P.funcs[k]?=some fn)(U:fn.body=some c)
  (b5:HA fn c ts aR=true) (jg:∀ x,a6 (ast aP T bs Psi fn c ann n ts aR x) (sh x)):hD P k ts aR sh:=
 abC fj aT iM dn dD ax U b5 (ann:=ann) (s0:=λx=>LU n (rS ts x)) (pre:=λx=>Hz n (rS ts x)) (λ_ _ _ _ h aj=>asy h aj) jg
theorem SL{H:Nat->b7}{kap:Nat->bI}{F:Nat->Prop}{w:World}{P:Program}:∀ (g:z10') {cV l:List aL} {us:List Value},DG g cV=some l->cV.length=us.length->(∀ i (h:i<cV.length) (eX:i<us.length),bJ P H kap F w cV[i] us[i])->
  ∃ aH:List Value,GQ g us aH/\l.length=aH.length/\∀ i,i<aH.length->bJ P H kap F w (l.getD i .undef) (aH.getD i undef)
 | [],[],l,us,h,ah,_=>by
  cases h;have:=aPU ah.symm;subst this;exact⟨[],rfl,rfl,λi G=>by grind⟩
 | [],_::_,_,_,h,_,_=>by cases h
 | none::_,[],_,_,h,_,_=>by cases h
 | some _::_,[],_,_,h,_,_=>by cases h
 | none::g,av::cV,l,[],_,ah,_=>by grind
 | some n::g,av::cV,l,[],_,ah,_=>by grind
 | none::g,av::cV,l,u::us,h,ah,ae=>by
  simp  [DG]at h;split at h
  ·rename_i et rR;cases h;obtain⟨aH,E,L,ak⟩:=SL g rR (by grind) λi h eX=>ae (i+1) (aRn h) (aRn eX);refine⟨u::aH,⟨aH,rfl,E⟩,by grind,λi G=>?_⟩;cases i with
   | zero=>exact ae 0 (aRo _) (aRo _)
   | succ i=>grind
  grind
 | some n::g,av::cV,l,u::us,h,ah,ae=>by
  simp  [DG]at h;split at h
  ·rename_i m f et rR;split at h
   ·rename_i bY;subst bY;obtain⟨aH,E,L,ak⟩:=SL g rR (by grind) λi h eX=>ae (i+1) (aRn h) (aRn eX);obtain⟨cs,aM,aS,b4⟩:=ae 0 (aRo _) (aRo _);refine⟨cs++aH,⟨cs.toArray,aH,aM,by omega,λc hc=>?_,by simp,E⟩,by grind,λi G=>?_⟩
    ·grind [List.mem_iff_getElem]
    grind
   grind
  grind
def asA(P:Program)(aP:dV)(T:Nat->V)(fn:Func)(c:Code)(ic:cL):Prop:=
 ∀ (C:cF) (A:ic.cA.al) (Q:Exit->Act->World->Prop) (a:Act) (w:World),C.P=P->C.aU=aP->C.bV=fn.ntmps->C.r=none->C.dj=[]->nA C.bV c=true->dc C (ic.cA.ad A) a w->(ic.sh A).fm->
  (∀ u,C.lJ u->∀ e s' a' w',dc (C.i_ u) s' a' w'->c6 (LV T fn.results.toList ic.lh ic.a7 e s') (ic.sh A).a7->Q e.rL a' w')->c.wpIn (eZ C.r) 0 C.P Q a w
theorem asB{ic:cL}(aT:ed P T)(ax:P.funcs[k]?=some fn)(U:fn.body=some c)
  (b5:DH fn c ic.kU ic.lh=true) (asC:asA P aP T fn c ic):cW P aP k ic:=by
 simp only[DH,amn,aPH,amq]at b5;obtain⟨⟨⟨⟨HB,s3⟩,asw⟩,SK⟩,yL⟩:=b5;refine⟨q8 ax U SK,λC a w kap F A jU xr i' xh yw iM D ub=>?_⟩;subst jU;subst xr;subst iM;have aMd:=D.dX.trans yw;have fz:∀ i,(a.tmps++Array.replicate (fn.ntmps - a.tmps.size) undef).getD i undef=a.tmps.getD i undef:=λi=>by
  simp;grind
 have bj:bw { C with bV:=fn.ntmps,dj:=[],r:=none } (ic.cA.ad A) { tmps:=a.tmps++Array.replicate (fn.ntmps - a.tmps.size) undef,defers:=[] } C.ep kap F:=
  { D with dX:=(by grind),dj:=rfl,hE:=yL,bX:=λi=>(by rw[fz];exact D.bX i),bC:=D.bC }
 refine callsIn_wide.1 (callsIn_of_wp_marks   (n:=0) ax U trivial ?_);refine asC { C with bV:=fn.ntmps,dj:=[],r:=none } A _ _ C.ep rfl rfl rfl rfl rfl HB ⟨kap,F,bj⟩ ub λu hu e s' a' w' bj hm=>?_;obtain⟨⟨py,fV,c1⟩,aw,aX⟩:=dc.abB hu (λr h=>D.dr r (D.iq r h)) D.ir bj;have key:(∀ id,e≠.exit id)/\LeavesInM Fence.wide 0 C.P fn a'.tmps (λe w'=>∃ v bk aH bR F',e=.returned v/\(ic.sh A).a7 bk/\Lj ic.lh v aH/\bw { C with bV:=aH.length } (ic.a7.ad bk) { tmps:=aH.toArray,defers:=[] } w' bR F') a'.defers .returning w':=by
  unfold LV at hm;split at hm
  ·grind [ib]
  ·rename_i eM;refine⟨λid he=>eM id he,?_⟩;split at hm
   ·rename_i cV SG;split at hm
    ·rename_i l ah;split at hm
     ·rename_i dk;have dk:=aP6 dk;obtain⟨us,aM,aS,b4,hZ⟩:=aby (C:={ C with bV:=fn.ntmps,dj:=u.ms.map uy++[],r:=none }) aT c1 _ SG;obtain⟨aH,dx,ec,jF⟩:=SL ic.lh ah (by omega) hZ;obtain⟨bk,gN,bP⟩:=xn hm;have aW:=c1.args     (by omega) ec jF;obtain⟨LP,abg,_,pB⟩:=eE.Dl gN aW;rw[aw];simp only[aPN];have ds:(results fn a'.tmps).run C.P (s4 w' u.ms)=.ok (if us.length=1 then us.getD 0 undef else .tuple us.toArray) (s4 w' u.ms):=by
       rw[abx,Sem.run_bind];have:(fn.results.mapM (DI a'.tmps)).run C.P (s4 w' u.ms)=.ok us.toArray (s4 w' u.ms):=by
        rw[Array.mapM_eq_mapM_toList,map_eq_pure_bind,Sem.run_bind,aM];rfl
       rw[this];simp;grind
      refine SJ u.ms w' hu.ko aX ⟨_,ds,_,bk,aH,LP,abg,rfl,dF.1 bP,⟨us,?_,rfl,dx⟩,?_⟩<;>grind
     grind [ib]
    grind [ib]
   grind [ib]
 cases e with
 | normal=>exact key.2
 | exit id=>grind
 | ret=>exact key.2
theorem SM(fj:P.follows .mixedOrders=true){ic:cL}(aT:ed P T)(dn:lE P bs)(dD:pz P aP Psi)(ax:P.funcs[k]?=some fn)(U:fn.body=some c)
  (b5:DH fn c ic.kU ic.lh=true) (jg:∀ A,a6 (LW aP T bs Psi fn c ann ic.cA ic.a7 ic.lh A) (ic.sh A)):cW P aP k ic:=
 asB aT ax U b5 λC A Q a w jU iM _ i' _ HB D ub an=>by
  subst jU;subst iM;obtain⟨E,L⟩:=jg A ub;exact abw ann C fj aT dn dD (.inl i') c (ic.cA.ad A) (LV T fn.results.toList ic.lh ic.a7) (LW C.aU T bs Psi fn c ann ic.cA ic.a7 ic.lh A).a7 Q a w HB D ⟨E,λ_ h=>h⟩ λu hu e s' a' w' bj hm=>an u hu e s' a' w' bj ⟨hm.1,λy a_=>L y (hm.2 y a_)⟩
end
def q9:List (Nat×V)->Nat->V
 | [],_=>.dh
 | p::l,i=>if i=p.1 then p.2 else q9 l i
def abE(P:Program)(l:List (Nat×V)):Bool:=l.all λp=>de P p.2 (.inl p.1)
theorem abF{P:Program}{l:List (Nat×V)}(h:abE P l=true):ed P (q9 l):=by
 intro id;induction l with
 | nil=>exact .inl rfl
 | cons p l aO=>
  simp only[abE,aQq,amn]at h;simp  [q9];split
  ·rename_i e;subst e;exact .inr h.1
  ·exact aO h.2
end Go.Fer
namespace Go.Fer
open Go.RowKit
theorem abG{P:Program}{aP:dV}{k:FuncId}{c:cL}(h:cW P aP k c)(iM:qI P aP){ic:De}(mk:ic.ts.al->Nat->(List ic.aI.al->Prop)->c.cA.al)(aA:c.kU=jS ic.ts+1)(jj:c.kU<=fE)(uv:ic.ts≠.dh)
    (fH:∀ x l ab i,(c.cA.ad (mk x l ab)).az i=.undef\/(i<jS ic.ts/\(c.cA.ad (mk x l ab)).az i=kc ic.ts x i)\/(i=jS ic.ts/\(c.cA.ad (mk x l ab)).az i=.il l)\/(i=ca/\(c.cA.ad (mk x l ab)).az i=.aR l ic.aI ab [] false))
    (gK:c.cA.bC=[]) (q7:∀ bk,∃ n ad l ab,(c.a7.ad bk).az ca=.aR l ic.aI ab n ad)
    (l8:∀ x l,ic.pre x->(c.sh (mk x l (λT=>T=ic.seq x))).fm/\∀ bk,(c.sh (mk x l (λT=>T=ic.seq x))).a7 bk->∀ et gf n,(c.a7.ad bk).az ca=.aR et ic.aI gf n false->n=ic.seq x):G5 P k ic:=by
  refine⟨h.enter,λl I F Y w args x fA hq b5 bm fq jk fw=>?_⟩;obtain⟨ka,Dz⟩:=vj (H:=λ_=>⟨0,.ey⟩) (kap:=λ_=>⟨0,0,0,false⟩) ic.ts fA uv;have mV:∀ b,(c.cA.ad (mk x l (λT=>T=ic.seq x))).aa b=⟨0,.ey⟩:=λb=>by
    show eQ (gY du c.cA.bC (eU du c.cA.bX (mk x l (λT=>T=ic.seq x))).2) b=_;generalize (eU du c.cA.bX (mk x l (λT=>T=ic.seq x))).2=z;revert z;rw[gK];intro z;rfl
  have cI:(args++[Value.func (.yield l) #[] #[]]).length=c.kU:=by grind
  have D:bw { P:=P,ep:=w,jA:=F,K0:=λr=>r<w.heap.size/\¬Y r,bV:=c.kU,r:=none,dj:=[],j':=λ_=>none,cG:=⟨l,ic.aI,λT=>T=ic.seq x,I⟩,aU:=aP } (c.cA.ad (mk x l (λT=>T=ic.seq x)))
      { tmps:=(args++[Value.func (.yield l) #[] #[]]).toArray,defers:=[] } w (λ_=>⟨0,0,0,false⟩) F:=
    { dX := by omega
      dj:=rfl
      bX:=λi=>by
        rcases fH x l (λT=>T=ic.seq x) i with e | ⟨G,e⟩ | ⟨G,e⟩ | ⟨G,e⟩
        · rw[e];trivial
        · rw[e]
          have:=(vj (H:=(c.cA.ad (mk x l (λT=>T=ic.seq x))).aa) (kap:=λ_=>⟨0,0,0,false⟩) ic.ts fA uv).2 i G
          have bt:(args++[Value.func (.yield l) #[] #[]]).toArray.getD i undef=args.getD i undef:=by
            rw[aPz,amp,aQr,aPW (by omega)]
          grind
        · rw[e]
          show (args++[Value.func (.yield l) #[] #[]]).toArray.getD i undef=_
          simp_all
        · rw[e];trivial
      bC:=λb=>by unfold c7;rw[mV b];trivial
      own:=λb U=>by rw[mV b]at U;cases U
      inj:=λb bf U _ _=>by rw[mV b]at U;cases U
      dr:=bm
      hQ:=λr D=>.inl D
      iq:=λr D=>D
      ir:=λr D=>D.1
      e2:=λ_ _=>rfl
      size:=amo _
      eN:=dM.refl _
      hE:=jj
      k8:=λb r h=>by cases h
      iY:=λb r h=>by cases h
      k9:=λb k h=>by cases h
      jB:=λb k h=>by cases h
      e7:=λet mX gf n ad e=>by
        rcases fH x l (λT=>T=ic.seq x) ca with aY | ⟨G,_⟩ | ⟨G,_⟩ | ⟨_,aY⟩
        · grind
        · unfold ca fE at *;omega
        · grind
        · rw[aY]at e
          cases e
          exact⟨⟨I,rfl⟩,b5,Y,λr D=>⟨(jk r D).1,(jk r D).2,λk=>k.2 D⟩,λb U=>(by rw[mV b]at U;cases U),nW.CD.2 fw⟩
      bQ:=λaY m hm=>by rw[mV cx]at hm;cases hm
      j2:=iM,hW:=fq }
  obtain⟨ay,AN⟩:=l8 x l hq;refine (h.ik _ _ w _ F _ rfl rfl rfl rfl rfl rfl D ay).mono λe w' ⟨v,bk,aH,bR,F',he,gN,_,bj⟩=>?_;obtain⟨n,ad,et,gf,q1⟩:=q7 bk;obtain⟨⟨asD,SN⟩,_,jh,ak,aZ,SO⟩:=bj.e7 et ic.aI gf n ad q1;refine⟨v,n,ad,F',jh,he,λhs=>?_,nW.CD.1 SO,bj.iq,λr c1=>?_,bj.dr,λr E L=>bj.e2 r ⟨E,L⟩,λr c1=>⟨?_,(ak r c1).1,(ak r c1).2.1⟩,bj.size,bj.eN⟩
  · grind
  · rcases bj.hQ r c1 with h | h
    · exact .inl h
    · by_cases a_:Y r
      · exact .inr (.inl a_)
      · exact .inr (.inr (aQY λdk=>h ⟨dk,a_⟩))
  grind
theorem LX{P:Program}{aP:dV}{k:FuncId}{c:cL}(h:cW P aP k c)(iM:qI P aP){cs:List V}{aI:V}{S:(hV (cs.map .bM)).al->List aI.al->Prop}(mk:(hV (cs.map .bM)).al->Nat->(List aI.al->Prop)->c.cA.al)
    (aA:c.kU=jS (hV (cs.map .bM))+1) (jj:c.kU<=fE) (uv:hV (cs.map .bM)≠.dh)
    (fH:∀ x l ab i,(∃ T,S x T)->(c.cA.ad (mk x l ab)).az i=.undef\/(i<jS (hV (cs.map .bM))+1/\0<i/\∃ e y,(c.cA.ad (mk x l ab)).az i=.eL e y/\kc (hV (cs.map .bM)) x (i - 1)=.val (.bM e) (some y))\/(i=0/\(c.cA.ad (mk x l ab)).az i=.il l)\/(i=ca/\(c.cA.ad (mk x l ab)).az i=.aR l aI ab [] false))
    (gK:c.cA.bC=[]) (q7:∀ bk,∃ n ad l ab,(c.a7.ad bk).az ca=.aR l aI ab n ad)
    (l8:∀ x l,(∃ ab,S x ab)->(c.sh (mk x l (S x))).fm/\∀ bk,(c.sh (mk x l (S x))).a7 bk->∀ et gf p,(c.a7.ad bk).az ca=.aR et aI gf p false->S x p):ye P k ⟨cs,aI,S⟩:=by
  refine⟨h.enter,λF w args x bm fq fA eM l abH Y jk asE asF=>?_⟩;have b5:=abq asE;obtain⟨ka,Dz⟩:=vj (H:=λ_=>⟨0,.ey⟩) (kap:=λ_=>⟨0,0,0,false⟩) (hV (cs.map .bM)) fA uv;have mV:∀ b,(c.cA.ad (mk x l (S x))).aa b=⟨0,.ey⟩:=λb=>by
    show eQ (gY du c.cA.bC (eU du c.cA.bX (mk x l (S x))).2) b=_;generalize (eU du c.cA.bX (mk x l (S x))).2=z;revert z;rw[gK];intro z;rfl
  have cI:(Value.func (.yield l) #[] #[]::args).length=c.kU:=by grind
  have D:bw { P:=P,ep:=w,jA:=F,K0:=λr=>r<w.heap.size/\¬Y r,bV:=c.kU,r:=none,dj:=[],j':=λ_=>none,cG:=⟨l,aI,S x,abH⟩,aU:=aP } (c.cA.ad (mk x l (S x)))
      { tmps:=(Value.func (.yield l) #[] #[]::args).toArray,defers:=[] } w (λ_=>⟨0,0,0,false⟩) F:=
    { dX := by omega
      dj:=rfl
      bX:=λi=>by
        rcases fH x l (S x) i eM with e | ⟨G,sL,nU,y,e,asG⟩ | ⟨G,e⟩ | ⟨G,e⟩
        · rw[e];trivial
        · rw[e]
          have:=(vj (H:=(c.cA.ad (mk x l (S x))).aa) (kap:=λ_=>⟨0,0,0,false⟩) (hV (cs.map .bM)) fA uv).2 (i - 1) (by omega)
          have bt:(Value.func (.yield l) #[] #[]::args).toArray.getD i undef=args.getD (i - 1) undef:=by
            obtain⟨j,rfl⟩:∃ j,i=j+1:=⟨i - 1,by omega⟩
            simp
          rw[bt]
          rw[asG]at this
          obtain⟨_,ae⟩:=(eb rfl).1 this
          simp only[cp]at ae
          rcases ae with⟨_,aA⟩ | ⟨q,sH,bB,bq,RS,aM,aS⟩
          · cases aA
          · cases RS
            exact⟨q,bB,(aPM bq).1,aM,aS⟩
        · rw[e]
          subst G
          rfl
        · rw[e];trivial
      bC:=λb=>by unfold c7;rw[mV b];trivial
      own:=λb U=>by rw[mV b]at U;cases U
      inj:=λb bf U _ _=>by rw[mV b]at U;cases U
      dr:=bm
      hQ:=λr D=>.inl D
      iq:=λr D=>D
      ir:=λr D=>D.1
      e2:=λ_ _=>rfl
      size:=amo _
      eN:=dM.refl _
      hE:=jj
      k8:=λb r h=>by cases h
      iY:=λb r h=>by cases h
      k9:=λb k h=>by cases h
      jB:=λb k h=>by cases h
      e7:=λet mX gf n ad e=>by
        rcases fH x l (S x) ca eM with aY | ⟨G,_⟩ | ⟨G,_⟩ | ⟨_,aY⟩
        · grind
        · grind
        · grind
        · rw[aY]at e
          cases e
          exact⟨⟨abH,rfl⟩,b5,Y,λr D=>⟨(jk r D).1,(jk r D).2,λk=>k.2 D⟩,λb U=>(by rw[mV b]at U;cases U),nW.CD.2 asF⟩
      bQ:=λaY m hm=>by rw[mV cx]at hm;cases hm
      j2:=iM,hW:=fq }
  obtain⟨ay,AN⟩:=l8 x l eM;have ga:#[Value.func (.yield l) #[] #[]]++args.toArray=(Value.func (.yield l) #[] #[]::args).toArray:=by simp
  rw[ga];refine (h.ik _ _ w _ F _ rfl rfl rfl rfl rfl rfl D ay).mono λe w' ⟨v,bk,aH,bR,F',he,gN,_,bj⟩=>?_;obtain⟨n,ad,et,gf,q1⟩:=q7 bk;obtain⟨⟨asD,SN⟩,_,jh,ak,aZ,SO⟩:=bj.e7 et aI gf n ad q1;refine⟨v,n,ad,F',jh,he,λhs=>?_,nW.CD.1 SO,bj.iq,λr c1=>?_,bj.dr,λr E L=>bj.e2 r ⟨E,L⟩,λr c1=>⟨?_,(ak r c1).1,(ak r c1).2.1⟩,bj.size,⟨bj.eN.os,bj.eN.tape,bj.eN.output⟩⟩
  · grind
  · rcases bj.hQ r c1 with h | h
    · exact .inl h
    · by_cases a_:Y r
      · exact .inr (.inl a_)
      · exact .inr (.inr (aQY λdk=>h ⟨dk,a_⟩))
  grind
end Go.Fer
namespace Go.Fer
open Go.RowKit Go.ChangeShapes Go.WideShapes
def V.jn:V->Bool
 | .bool | .int _ | .str | .dh=>true
 | .ad t=>t.jn
 | .au a b=>a.jn&&b.jn
 | .slice e=>e.jn
 | _=>false
def V.j1:(t:V)->t.al->Prop
 | .int k,x=>gQ k x
 | .str,x=>x.length<2 ^ 63
 | .ad t,x=>t.j1 x
 | .au a b,x=>a.j1 x.1/\b.j1 x.2
 | .slice e,xs=>xs.length<2 ^ 63/\∀ y∈xs,e.j1 y
 | .array n e,xs=>xs.length=n/\∀ y∈xs,e.j1 y
 | _,_=>True
theorem DJ{P:Program}{w:World}{F:Nat->Prop}:∀ (t:V) {cs:List Value} {x:t.al},cp P t F w cs x->t.j1 x
 | .bool,_,_,_=>trivial
 | .int _,_,_,h=>h.2
 | .str,_,_,h=>h.2
 | .dh,_,_,_=>trivial
 | .ad t,_,_,h=>by exact DJ t h
 | .au a b,_,_,h=>by
  obtain⟨c,d,_,E,L⟩:=h;exact⟨DJ a E,DJ b L⟩
 | .slice e,_,xs,h=>by
  obtain⟨a,cap,_,E,L,ak,aZ⟩:=h;refine⟨by omega,λy a_=>?_⟩;obtain⟨i,G,rfl⟩:=List.mem_iff_getElem.1 a_;cases a with
  | none=>grind
  | some p=>
   obtain⟨bB,_,k⟩:=(aZ p rfl (by omega)).2.2 i G;exact DJ e k
 | .array n e,_,xs,h=>by
  obtain⟨gR,_,E,L,ak⟩:=h;refine⟨L,λy a_=>?_⟩;obtain⟨i,G,rfl⟩:=List.mem_iff_getElem.1 a_;exact DJ e (ak i G (by omega))
 | .bM _,_,_,_=>trivial
 | .map _ _,_,_,_=>trivial
 | .fn _ _,_,_,_=>trivial
 | .cE _,_,_,_=>trivial
 | .eW,_,_,_=>trivial
 | .cN _,_,_,_=>trivial
section
variable {H:Type} {enc:TypeId×Value->H} {P:Program} {w:World}
theorem cv.cells{t:V}{id:TypeId}(h:cv P t id):P.cellsOf id=t.size:=by
 obtain⟨i,z,E,L,_⟩:=nq h.np;simp[Program.cellsOf,E,L]
theorem abI{a:Addr}{n:Nat}{bB:List Value}(h:w.cells? 0 a n=some bB)(aA:0<n):a.spot=none/\a.block<w.heap.size/\bB.length=n/\∀ j (aJ:j<bB.length),w.cell? ⟨a.block,a.off+j,none⟩=some bB[j]:=by
 have U:=World.cells?_block h aA;have mc:a.spot=none:=by
  unfold World.cells? at h;split at h
  ·obtain⟨m,rfl⟩:∃ m,n=m+1:=⟨n - 1,by omega⟩
   rw[List.range_succ_eq_map]at h;simp  [amj]at h;obtain⟨v,ae,_⟩:=h;cases ay:a.spot with
   | none=>rfl
   | some x=>simp[World.cell?,Addr.add]at ae;grind
  omega
 unfold World.cells? at h;split at h
 ·have hlen:bB.length=n:=by
   have:∀ (l:List Nat) (r:List Value),l.mapM (λi=>w.cell? (a.add i))=some r->r.length=l.length:=by
    intro l;induction l with
    | nil=>simp
    | cons x l aO=>
     intro r D;simp  [amj,amk]at D;grind
   grind
  refine⟨mc,U,hlen,λj aJ=>?_⟩;have:∀ (l:List Nat) (r:List Value),l.mapM (λi=>w.cell? (a.add i))=some r->∀ j (E:j<l.length) (L:j<r.length),w.cell? (a.add l[j])=some r[j]:=by
   intro l;induction l with
   | nil=>simp
   | cons x l aO=>
    intro r D j E L;simp  [amj,amk]at D;grind
  have FZ:a.add ((List.range n)[j]'(by grind))=⟨a.block,a.off+j,none⟩:=by
   cases a;subst mc;simp[Addr.add]
  grind
 omega
def s5(w:World):Nat->Prop:=λr=>r<w.heap.size
def V.q_(n:Nat):(t:V)->t.al->Prop
 | .ad t,x=>t.q_ n x
 | .au a b,x=>a.q_ n x.1/\b.q_ n x.2
 | .slice e,xs=>xs.length<=n/\∀ y∈xs,e.q_ n y
 | _,_=>True
structure Fy(b:DataW H->Nat):Prop where
 len:∀ e s,e.length<=b (.slice e s)
 JK:∀ e s d,d∈e->b d<=b (.slice e s)
 X4:∀ l d,d∈l->b d<=b (.agg l)
variable {b:DataW H->Nat} {N:Nat}
theorem asH(U:Fy b)(t:V):(t.jn=true->∀ {id:TypeId} {cZ:Nat} {cs:List Value} {x:DataW H×List MemPlace},cv P t id->DataW.trod enc P w 0 (λ_=>true) true cZ id cs=some x->b x.1<=N->∃ y,cp P t (s5 w) w cs y/\t.q_ N y)/\
  (t.jn=true->∀ {l:List Field} {off n:Nat} {cs:List Value},de P t (.inr (l,off))=true->(∀ f∈l,∃ x,DataW.trod enc P w 0 (λ_=>true) true n f.type ((cs.drop f.offset).take (P.cellsOf f.type))=some x/\b x.1<=N)->∃ y,cp P t (s5 w) w ((cs.drop off).take t.size) y/\t.q_ N y):=by
 induction t with
 | bool=>
  refine⟨λ_ {id cZ cs x} aG h _=>?_,λ_ {l off n cs} h=>by simp[de]at h⟩;have hu:P.underlying id=some .bool:=by
   unfold cv at aG;simp  [de]at aG;grind
  obtain⟨b,rfl,_⟩:=DataW.trod_bool hu h;exact⟨_,rfl,trivial⟩
 | int k=>
  refine⟨λ_ {id cZ cs x} aG h _=>?_,λ_ {l off n cs} h=>by simp[de]at h⟩;obtain⟨n,rfl,_,hw⟩:=DataW.trod_int aG.int h;simp  [Lit.wf,amq]at hw;exact⟨n,⟨rfl,hw⟩,trivial⟩
 | str=>
  refine⟨λ_ {id cZ cs x} aG h _=>?_,λ_ {l off n cs} h=>by simp[de]at h⟩;obtain⟨s,rfl,_,hw⟩:=DataW.trod_string aG.str h;refine⟨s.data.toList,⟨by simp,?_⟩,trivial⟩;have:s.data.toList.length=s.size:=by rfl
  have:maxLen<2 ^ 63:=by decide
  omega
 | dh=>exact⟨λ_ {id cZ cs x} aG h _=>by simp[cv,de]at aG,λ_ {l off n cs} h=>by simp[de]at h⟩
 | ad t aO=>
  refine⟨λah {id cZ cs x} aG h pC=>?_,λ_ {l off n cs} h=>by simp[de]at h⟩;have SP:P.cellsOf id=t.size:=aG.cells;obtain⟨f_,hu⟩:=aG.ad;obtain⟨xs,n,_,rfl,hlen,Zh,ax⟩:=DataW.trod_struct hu h;unfold cv at aG;simp  [de]at aG;obtain⟨_,aG⟩:=aG;rw[hu]at aG;have kx:∀ f∈f_.toList,∃ x,DataW.trod enc P w 0 (λ_=>true) true n f.type ((cs.drop f.offset).take (P.cellsOf f.type))=some x/\b x.1<=N:=by
   intro f asI;obtain⟨i,G,rfl⟩:=List.mem_iff_getElem.1 asI;have dR:i<f_.size:=by omega
   refine⟨xs[i]'(by omega),?_,aPG (U.X4 _ _ (aQa (amm _))) pC⟩;rw[ax i _ (by simp)];simp
  simp  at aG;split at aG
  ·have aG:=aP6 aG;subst aG;have:=by
    have:=hlen.trans SP;simpa [V.size]using this
   subst this;exact⟨(),rfl,trivial⟩
  ·rename_i f gX;simp  at aG;obtain⟨⟨⟨aV,E⟩,_⟩,_⟩:=aG;obtain⟨x,ao,asJ⟩:=kx f (by grind);have hc:=cv.cells E;rw[aV,List.drop_zero,aQH (by omega)]at ao;exact aO.1 ah E ao asJ
  ·obtain⟨y,a_⟩:=aO.2 ah aG kx;rw[List.drop_zero,aQH (by omega)]at a_;exact⟨y,a_⟩
 | au a b gI fS=>
  refine⟨λ_ {id cZ cs x} aG h _=>by simp[cv,de]at aG,λah {l off n cs} aG h=>?_⟩;simp  [V.jn]at ah;have join:∀ {y:a.al} {z:b.al},cp P a (s5 w) w ((cs.drop off).take a.size) y/\a.q_ N y->cp P b (s5 w) w ((cs.drop (off+a.size)).take b.size) z/\b.q_ N z->∃ y,cp P (.au a b) (s5 w) w ((cs.drop off).take (V.au a b).size) y/\(V.au a b).q_ N y:=by
   intro y z a_ bA;refine⟨(y,z),⟨_,_,?_,a_.1,bA.1⟩,a_.2,bA.2⟩;simp  [V.size];rw[List.take_add,List.drop_drop]
  match l,aG with
  | f::g::[],aG=>
   simp  [de,bne_iff_ne]at aG;obtain⟨⟨⟨⟨aV,E⟩,_⟩,_⟩,⟨⟨⟨iC,aM⟩,_⟩,_⟩⟩:=aG;obtain⟨x,ao,aA⟩:=h f (by simp);obtain⟨eP,p_,sM⟩:=h g (by simp);rw[cv.cells E]at ao;rw[cv.cells aM]at p_;obtain⟨y,a_⟩:=gI.1 ah.1 E ao aA;obtain⟨z,bA⟩:=fS.1 ah.2 aM p_ sM;grind
  | f::g::e::f_,aG=>
   simp  [de,bne_iff_ne]at aG;obtain⟨⟨⟨⟨aV,E⟩,_⟩,_⟩,aM⟩:=aG;obtain⟨x,ao,aA⟩:=h f (by simp);rw[cv.cells E]at ao;obtain⟨y,a_⟩:=gI.1 ah.1 E ao aA;obtain⟨z,bA⟩:=fS.2 ah.2 aM λkz vy=>h kz (amr _ vy);grind
 | slice e aO=>
  refine⟨λah {id cZ cs x} aG h pC=>?_,λ_ {l off n cs} h=>by simp[de]at h⟩;obtain⟨i,hu,he,cI⟩:=aG.sl;have SP:=he.cells;rcases DataW.trod_slice hu h with⟨rfl,_⟩ | ⟨a,len,cap,elems,b6,n,rfl,rfl,ao,_,LY,wY,mz,fz,abJ,_⟩
  ·exact⟨[],⟨none,0,rfl,amo _,by decide,λ_=>rfl,λp aj=>by omega⟩,aPK _,λy a_=>by grind⟩
  ·rw[ao]at pC;have ki:0<P.cellsOf i:=by omega
   have key:∀ j,j<len->∃ bB y,w.cells? 0 (a.add (j*P.cellsOf i)) (P.cellsOf i)=some bB/\cp P e (s5 w) w bB y/\e.q_ N y:=by
    intro j aJ;have:=fz j aJ;rw[ams (by omega)]at this;obtain⟨bB,E,L⟩:=Option.bind_eq_some_iff.1 this;obtain⟨y,a_⟩:=aO.1 ah he L (aPG (U.JK _ _ _ (aQa (amm _))) pC);grind
   have asK:0<cap->a.spot=none/\a.block<w.heap.size:=by
    intro hc;have:∃ bB,w.cells? 0 (a.add (0*P.cellsOf i)) (P.cellsOf i)=some bB:=by
     by_cases Kk:0<len
     ·grind
     ·obtain⟨m1,m2⟩:=abJ rfl;have:=m2 0 (by omega);rw[ams (by omega)]at this;obtain⟨bB,E,_⟩:=Option.bind_eq_some_iff.1 this;grind
    obtain⟨bB,E⟩:=this;have aB:a.add (0*P.cellsOf i)=a:=by unfold Addr.add;simp
    obtain⟨aM,aS,_⟩:=abI E ki;grind
   have:∃ br:List e.al,br.length=len/\∀ j (aJ:j<br.length),∃ bB,w.cells? 0 (a.add (j*P.cellsOf i)) (P.cellsOf i)=some bB/\cp P e (s5 w) w bB br[j]/\e.q_ N br[j]:=by
    clear fz mz h LY abJ pC;induction len with
    | zero=>simp
    | succ m asL=>
     obtain⟨br,l7,df⟩:=asL λj aJ=>key j (by omega);obtain⟨bB,y,E,L⟩:=key m (by omega);refine⟨br++[y],by grind,λj aJ=>?_⟩;grind
   have asM:len<=N:=by have:=U.len (elems.map (·.1)) (b6.map (·.1));grind
   obtain⟨br,rfl,l7⟩:=this;have Aw:maxLen<2 ^ 63:=by decide
   refine⟨br,⟨some a,cap,rfl,LY,by omega,(by simp),λp aj CJ=>?_⟩,asM,λy a_=>by
    obtain⟨j,aJ,rfl⟩:=List.mem_iff_getElem.1 a_;grind⟩
   cases aj;obtain⟨aM,aS⟩:=asK CJ;refine⟨aS,aM,λj aJ=>?_⟩;obtain⟨bB,d1,d2,_⟩:=l7 j aJ;obtain⟨m1,m2,m3,m4⟩:=abI d1 ki;refine⟨bB,⟨aS,rfl,λq bq=>?_⟩,d2⟩;have aB:a.add (j*P.cellsOf i)=⟨a.block,a.off+j*e.size,none⟩:=by
    rw[SP];cases a;subst aM;unfold Addr.add;simp
   grind
 | array n e aO=>exact⟨λh=>by simp[V.jn]at h,λh=>by simp[V.jn]at h⟩
 | bM e aO=>exact⟨λh=>by simp[V.jn]at h,λh=>by simp[V.jn]at h⟩
 | map k v zY zZ=>exact⟨λh=>by simp[V.jn]at h,λh=>by simp[V.jn]at h⟩
 | fn a b gI fS=>exact⟨λh=>by simp[V.jn]at h,λh=>by simp[V.jn]at h⟩
 | cE a aO=>exact⟨λh=>by simp[V.jn]at h,λh=>by simp[V.jn]at h⟩
 | eW=>exact⟨λh=>by simp[V.jn]at h,λh=>by simp[V.jn]at h⟩
 | cN e aO=>exact⟨λh=>by simp[V.jn]at h,λh=>by simp[V.jn]at h⟩
theorem abK(U:Fy b){t:V}(ah:t.jn=true){id:TypeId}(aG:cv P t id){base:Nat}{v:Value}{d:DataW H}{bu:List MemPlace}(b5:Value.okWide P w .any base id v)
  (h:DataW.Trod enc P w 0 (λ_=>true) true id v d bu) (pC:b d<=N):∃ y,fo P t (s5 w) w v y/\t.q_ N y:=by
 obtain⟨n,aA⟩:=h;obtain⟨y,a_,ax⟩:=(asH U t).1 ah aG aA pC;refine⟨y,⟨?_,a_⟩,ax⟩;cases t with
 | bool=>
  have hu:P.underlying id=some .bool:=by
   unfold cv at aG;simp  [de]at aG;grind
  simp  [Value.okWide,Cell.okWide,Cell.ok]at b5;cases v<;>first | rfl | grind
 | int k=>
  simp  [Value.okWide,aG.int,Cell.okWide,Cell.ok]at b5;cases v<;>first | rfl | grind
 | str=>
  simp  [Value.okWide,aG.str,Cell.okWide,Cell.ok]at b5;cases v<;>first | rfl | grind
 | dh=>simp[cv,de]at aG
 | ad t=>
  obtain⟨f_,hu⟩:=aG.ad;simp  [Value.okWide,hu]at b5;obtain⟨cs,rfl,hc,_⟩:=b5;exact⟨cs,rfl,hc.trans aG.cells⟩
 | au a b=>simp[cv,de]at aG
 | slice e=>
  obtain⟨i,hu,_⟩:=aG.sl;simp  [Value.okWide,Cell.okWide,Cell.ok]at b5;cases v<;>first | rfl | grind
 | array n e=>simp[V.jn]at ah
 | bM e=>simp[V.jn]at ah
 | map k v=>simp[V.jn]at ah
 | fn a b=>simp[V.jn]at ah
 | cE a=>simp[V.jn]at ah
 | eW=>simp[V.jn]at ah
 | cN e=>simp[V.jn]at ah
def Bj(P:Program):List TypeId->V->Bool
 | [id],t=>de P t (.inl id)&&t.jn
 | id::ids,.au a b=>de P a (.inl id)&&a.jn&&Bj P ids b
 | _,_=>false
theorem abL(U:Fy b):∀ (ids:List TypeId) (ts:V) {base:Nat} {aH:List Value} {bB:List (DataW H)} {bu:List MemPlace},Bj P ids ts=true->DataW.TrodAll enc P w 0 (λ_=>true) true ids aH bB bu->
  (∀ (j:Nat) t v,ids[j]?=some t->aH[j]?=some v->Value.okWide P w .any base t v)->(∀ d∈bB,b d<=N)->∃ x,gv P ts (s5 w) w aH x/\ts.q_ N x
 | [],ts,_,aH,bB,bu,h,_,_,_=>by simp[Bj]at h
 | [id],t,_,aH,bB,bu,h,kS,b5,pC=>by
  simp  [Bj]at h;obtain⟨v0,SQ,d0,SR,Kp,nn,rfl,rfl,rfl,aV,yT⟩:=trodAll_cons kS;obtain⟨rfl,rfl,rfl⟩:=trodAll_nil yT;obtain⟨y,⟨A9,xk⟩,ax⟩:=abK U h.2 h.1 (b5 0 id v0 rfl rfl) aV (pC _ (aQA ..));refine⟨y,⟨?_,by simp_all⟩,ax⟩;cases t<;>first | exact⟨v0,rfl,A9⟩ | (simp[de]at h;done)
 | id::Zt::ids,ts,base,aH,bB,bu,h,kS,b5,pC=>by
  cases ts with
  | au a b=>
   simp  [Bj]at h;obtain⟨v0,SQ,d0,SR,Kp,nn,rfl,rfl,rfl,aV,yT⟩:=trodAll_cons kS;obtain⟨y,⟨A9,xk⟩,ax⟩:=abK U h.1.2 h.1.1 (b5 0 id v0 rfl rfl) aV (pC _ (aQA ..));obtain⟨z,⟨LZ,asN⟩,aD⟩:=abL U (Zt::ids) b h.2 yT (λj t v E L=>b5 (j+1) t v (by grind) (by grind)) λd aw=>pC d (amr _ aw);exact⟨(y,z),⟨⟨A9,LZ⟩,_,_,amC _ _,xk,asN⟩,ax,aD⟩
  | _=>simp[Bj]at h
theorem abM(ah:laidOutB P=true){w':World}{abN:Nat->Bool}:∀ (ids:List TypeId) {aH:List Value} {bB:List (DataW H)} {bu:List MemPlace},(ids.all λt=>P.readableRec t&&decide (t<P.types.size))=true->
  DataW.TrodAll enc P w 0 (λ_=>true) true ids aH bB bu->(∀ p∈bu,w.sameAt w' p)->(∀ p∈bu,abN p.block=true)->DataW.TrodAll enc P w' 0 abN true ids aH bB bu
 | [],_,_,_,_,h,_,_=>by
  obtain⟨rfl,rfl,rfl⟩:=trodAll_nil h;rfl
 | id::ids,aH,bB,bu,D,h,E,L=>by
  simp only[aQq,amn,amq]at D;obtain⟨v0,SQ,d0,SR,Kp,nn,rfl,rfl,rfl,aV,yT⟩:=trodAll_cons h;exact trodAll_cons_mk (Go.WideElems.Trod_stays ah D.1.1 D.1.2 aV (λp aj=>E p (aQS _ aj)) (λp aj=>L p (aQS _ aj)))
   (abM ah ids D.2 yT (λp aj=>E p (aP7 _ aj)) (λp aj=>L p (aP7 _ aj)))
theorem amy(U:Fy b){k:FuncId}{fn:Func}{ts:V}{sh:ts.al->M (V.bool).al}{spec:ChangeSpec}{rt:TypeId}(asO:laidOutB P=true)(AD:hD P k ts .bool sh)(asP:∀ x,ts.j1 x->ts.q_ N x->c6 (sh x) λy=>y=true)
  (fA:Bj P fn.params.toList ts=true) (asQ:(fn.params.toList.all λt=>P.readableRec t&&decide (t<P.types.size))=true) (gW:fn.resultTypes=#[rt]) (asR:P.underlying rt=some .bool)
  (ae:spec.vars=[]) (hi:∀ (H:Type) (bB:List (DataW H)),bB.length=fn.params.size->spec.fn H bB={ results:=[.lit (.bool true)],args:=bB })
  {base:Nat} {args:Array Value} {bB gs:List (DataW H)} {before:List MemPlace} (Bk:∀ (j:Nat) t v,fn.params[j]?=some t->args[j]?=some v->Value.okWide P w .any base t v)
  (wJ:DataW.Whole enc P fn.params.toList spec.vars false w args.toList bB gs before) (pC:∀ d∈bB,b d<=N) (fq:pd P (s5 w) w:=by exact λb U=>absurd (show b<0 from U) (Nat.not_lt_zero b)) :
  Calls P k args w λe sX=>∃ v,e=.returned v/\spec.post enc P fn false true false false w args v sX:=by
 have dk:=wJ.lt;have abO:=wJ;obtain⟨p,q,kS,SS,rfl,wW,_⟩:=wJ;have bq:gs=[]/\q=[]:=by
  rw[ae]at SS;cases gs with
  | nil=>exact⟨rfl,SS⟩
  | cons _ _=>exact SS.elim
 obtain⟨rfl,rfl⟩:=bq;simp  at abO dk wW;obtain⟨x,ao,ax⟩:=abL U fn.params.toList ts fA kS (λj t v E L=>Bk j t v (by grind) (by grind)) pC;obtain⟨ay,ar⟩:=asP x (DJ ts ao.2) ax;have iA:bB.length=fn.params.size:=by
  have:∀ (ids:List TypeId) {aH:List Value} {bB:List (DataW H)} {bu:List MemPlace},DataW.TrodAll enc P w 0 (λ_=>true) true ids aH bB bu->bB.length=ids.length:=by
   intro ids;induction ids with
   | nil=>intro aH bB bu h;obtain⟨rfl,rfl,rfl⟩:=trodAll_nil h;rfl
   | cons id ids aO=>intro aH bB bu h;obtain⟨v0,SQ,d0,SR,Kp,nn,rfl,rfl,rfl,aV,yT⟩:=trodAll_cons h;grind
  grind
 have hc:=AD.ik (s5 w) w args.toList x (λ_ h=>h) fq ao ay;refine hc.mono λe sX ⟨v,y,he,a_,D,U⟩=>?_;obtain⟨aH,ck,c8⟩:=D;have asS:v=.bool true:=by
  subst ck;obtain⟨⟨u,hu,jg⟩,qQ⟩:=c8;simp  [l0]at jg;simp  [cp]at qQ;grind
 subst asS;have vp:∀ p'∈p,w.sameAt sX p':=by
  intro p' aj;have E:=U.block _ (dk p' aj);cases p' with
  | cell b off=>simp  [World.sameAt,World.cell?];simp  [MemPlace.block]at E;grind
  | map b=>exact E
 refine⟨_,he,bB,[],p,[],p,[],abO,?_,?_,?_,?_,λh=>by grind⟩
 ·rw[aPN,hi H bB iA,gW];exact trodAll_cons_mk (shut_bool asR true) trodAll_mk0
 ·rw[aPN,hi H bB iA];exact abM asO _ asQ kS vp λp' aj=>by grind
 ·rw[ae,aPN,hi H bB iA];rfl
 ·refine⟨U.os,U.output,λi G=>?_⟩;have E:=U.block i G;grind
end
section
variable {af bet hj A rho:Type}
abbrev bc(x:A):M (aF A bet):=mpure (.next x)
abbrev bY(x:rho):M (aF A (aF rho bet)):=aq (mpure (.next x)) λr=>mpure (.done r)
abbrev pD(x:bet):M (aF A bet):=aq (mpure x) λr=>mpure (.done r)
abbrev iO(m:M bet):M (aF A bet):=aq m λr=>mpure (.done r)
abbrev eD(l:List af)(m:M bet):M bet:=ag (cb (Add.add l.length (Add.add 0 1))) m
abbrev gy(l:List af)(m:M bet):M bet:=ag ((0:Int)<=0/\0<Int.ofNat l.length) m
abbrev bS(i:Int)(l:List af)(m:M bet):M bet:=ag (0<=i/\i<Int.ofNat l.length) m
abbrev fO(i:Int)(l:List af)(m n:M bet):M bet:=if decide (i<Int.ofNat l.length) then ag (0<=i/\i<Int.ofNat l.length) m else n
abbrev iA(i:Int)(l:List af)(m n:bet):bet:=if decide (i<Int.ofNat l.length) then m else n
abbrev bo(p:Prop)[Decidable p](m n:bet):bet:=if decide p then m else n
abbrev bg(b:Bool)(m n:bet):bet:=if b then m else n
abbrev bK(f:A->M (aF A (aF rho bet)))(x:A)(g:rho->M bet):M bet:=aq (dG f x) (aF.gb g)
abbrev cm(m:M (aF rho bet))(g:rho->M bet):M bet:=aq m (aF.gb g)
abbrev a8(x:Int):Int:=IntKind.wrap .i64 (Add.add x 1)
abbrev e0(x y:Int):Int:=IntKind.wrap .i64 (Add.add x y)
abbrev cD(x y:Int):Int:=IntKind.wrap .i64 (x-y)
abbrev gz(l:List af)(d:af):af:=l.getD (Int.toNat 0) d
abbrev bz(l:List af)(i:Int)(d:af):af:=l.getD i.toNat d
abbrev aQ(l:List af):Int:=Int.ofNat l.length
abbrev cS(x:bet):M (aF A (aF rho bet)):=aq (aq (mpure x) λr=>mpure (.done r)) λr=>mpure (.done r)
abbrev i'(l:List af)(m:M bet):M bet:=ag (cb (Add.add 0 l.length)) m
abbrev b_(b:Bool)(m:M af)(d:af)(f:af->M bet):M bet:=aq (qY b m d) f
abbrev pE(m:M Bool):Bool:=!(M.val m false)
abbrev mZ(m:M Bool):Bool:=M.val m false
abbrev vG(m:M Int):Int:=M.val m 0
abbrev b3(x y:af)[Decidable (x=y)]:Bool:=decide (x=y)
abbrev eH(x y:af)[Decidable (x≠y)]:Bool:=decide (x≠y)
abbrev eV(x y:Int):Bool:=decide (x<y)
abbrev c'(x y:Int):Bool:=decide (x>y)
abbrev ht(x y:Int):Bool:=decide (x<=y)
abbrev gp:M Bool:=mpure false
abbrev h0:M Bool:=mpure true
abbrev dB(c:M af)(m:M bet):M bet:=ag c.fm m
abbrev hi(f:af×bet->Bool)(l:List (af×bet)):Option bet:=Option.map (λx=>x.2) (List.find? f l)
abbrev sK(x y:Int):Int:=if x>y then x else y
end
end Go.Fer
namespace Go.Fer.Sk
open Go.Proofs
abbrev bU:V:=.int .i64
abbrev cX:V:=.int .i64
abbrev hI:V:=.bool
abbrev e5:V:=.int .u8
abbrev asT:V:=.int .u8
abbrev asU:V:=.ad (.au bU (.au cX (.au hI asT)))
abbrev kI:V:=.str
abbrev asV:V:=.str
abbrev asW:V:=.str
abbrev asX:V:=.int .i32
abbrev HC:V:=.ad (.au cX cX)
abbrev DK:V:=.ad (.au cX (.au cX HC))
abbrev HD:V:=.slice DK
abbrev gr:V:=.slice cX
abbrev DL:V:=.ad (.au cX (.au gr HC))
abbrev L0:V:=.slice DL
abbrev Bl:V:=.ad L0
abbrev HE:V:=.slice Bl
abbrev HF:V:=.ad (.au cX (.au cX (.au cX cX)))
abbrev L1:V:=.slice HF
abbrev xt:V:=.ad (.au HD (.au HE (.au cX L1)))
abbrev Bm:V:=.ad (.au cX (.au cX (.au cX (.au cX gr))))
abbrev L2:V:=.slice Bm
abbrev yU:V:=.ad (.au gr (.au HC (.au cX (.au cX cX))))
abbrev L3:V:=.slice yU
abbrev uz:V:=.ad (.au cX (.au cX cX))
abbrev HG:V:=.slice uz
abbrev t32:V:=.ad (.au xt (.au gr (.au L2 (.au L3 (.au HG cX)))))
abbrev s6:V:=.slice HC
abbrev ll:V:=.ad (.au cX (.au cX (.au cX (.au cX (.au cX cX)))))
abbrev qo:V:=.slice ll
abbrev SU:V:=.ad (.au cX (.au cX (.au cX (.au cX (.au cX (.au cX cX))))))
abbrev wI:V:=.ad (.au s6 (.au qo (.au gr (.au s6 SU))))
abbrev zU:V:=.ad (.au t32 wI)
abbrev mr:V:=.slice kI
abbrev uA:V:=.ad (.au cX cX)
abbrev Pt:V:=.slice uA
abbrev asY:V:=.fn mr hI
abbrev asZ:V:=.int .i64
abbrev abP:V:=.ad (.au cX (.au cX (.au cX cX)))
abbrev abQ:V:=.fn kI hI
abbrev ra:V:=.slice e5
abbrev s7:V:=.ad zU
abbrev as0:V:=.bM s7
abbrev abR:V:=.eW
abbrev SV:V:=.ad (.au cX (.au hI abR))
abbrev SW:V:=.map kI SV
abbrev as1:V:=.slice cX
abbrev abS:V:=.ad (.au cX cX)
abbrev abT:V:=.slice abS
abbrev abU:V:=.ad (.au cX (.au cX cX))
abbrev abV:V:=.map abU cX
abbrev HH:V:=.ad (.au t32 (.au abT abV))
abbrev rb:V:=.bM HH
abbrev as2:V:=.fn gr hI
abbrev as3:V:=.cE gr
abbrev abW:V:=.ad (.au cX (.au cX cX))
abbrev as4:V:=.slice abW
abbrev abX:V:=.fn yU hI
abbrev DM:V:=.slice ra
abbrev abY:V:=.slice DM
abbrev as5:V:=.int .i64
abbrev as6:V:=.ad (.au cX cX)
abbrev abZ:V:=.bM (.array 153 .dh)
abbrev qp:V:=.ad (.au abZ ra)
abbrev as7:V:=.cE mr
abbrev as8:V:=.cE mr
abbrev s8:V:=.ad (.au ll cX)
abbrev SX:V:=.slice s8
abbrev SY:V:=.array 10 SX
abbrev HI:V:=.ad (.au gr SY)
abbrev rT:V:=.bM HI
abbrev SZ:V:=.slice rT
abbrev uB:V:=.ad (.au wI (.au qo SZ))
abbrev yV:V:=.bM uB
abbrev ab0:V:=.fn cX hI
abbrev as9:V:=.fn yV hI
abbrev as_:V:=.fn (.au ll cX) hI
abbrev as':V:=.cE (.au ll cX)
abbrev ab1:V:=.fn rT (.au cX hI)
abbrev L4:V:=.map cX cX
abbrev S0:V:=.cE cX
abbrev ata:V:=.cE cX
abbrev S1:V:=.fn cX cX
abbrev atb:V:=.slice cX
abbrev S2:V:=.fn ra hI
abbrev atc:V:=.fn e5 hI
abbrev atd:V:=.bM e5
abbrev ate:V:=.bM xt
abbrev atf:V:=.bM Bl
abbrev atg:V:=.array 4 kI
abbrev S3:V:=.fn ll hI
abbrev L5:V:=.slice gr
abbrev Bn:V:=.ad (.au xt L5)
abbrev ab2:V:=.bM Bn
abbrev ab3:V:=.int .u64
abbrev ab4:V:=.fn DL hI
abbrev ab5:V:=.int .i64
abbrev ab6:V:=.ad (.au cX (.au cX cX))
abbrev ath:V:=.map ab6 cX
abbrev ab7:V:=.fn Bm hI
abbrev ab8:V:=.fn uz hI
abbrev L6:V:=.map cX ll
abbrev ab9:V:=.slice qo
abbrev ab_:V:=.fn HF hI
abbrev ati:V:=.int .u32
abbrev ab':V:=.int .u64
abbrev atj:V:=.bM ab5
abbrev aca:V:=.fn DK hI
abbrev acb:V:=.fn Bl hI
abbrev atk:V:=.int .i64
abbrev atl:V:=.int .i64
abbrev HJ:V:=.fn (.au s8 s8) cX
abbrev acd:V:=.int .u64
abbrev atm:V:=.bM cX
abbrev atn:V:=.array 24 e5
abbrev ato:V:=.bM acd
abbrev atp:V:=.array 256 e5
abbrev ace:V:=.ad (.au e5 e5)
abbrev atq:V:=.array 16 ace
abbrev acf:V:=.ad kI
abbrev atr:V:=.bM acf
abbrev ats:V:=.array 20 ab'
abbrev att:V:=.array 65 e5
abbrev atu:V:=.array 32 e5
abbrev atv:V:=.array 64 e5
abbrev atw:V:=.int .u8
def xu:List (Nat×V):=[(2,bU),(3,cX),(4,hI),(5,e5),(8,asU),(9,kI),(10,asV),(11,asW),(21,asX),(22,HD),(23,HE),(24,L1),(26,xt),(27,gr),(28,L2),(29,L3),(30,HG),(32,t32),(33,s6),(34,qo),(36,SU),(38,wI),(40,zU),(41,mr),(42,Pt),(43,asY),(45,asZ),(60,abP),(79,Bm),(89,abQ),(94,uA),(95,ra),(96,as0),(98,SW),(102,s7),(103,as1),(109,HC),(111,yU),(113,uz),(116,ll),(123,rb),(127,as3),(128,as4),(141,abX),(142,abY),(146,DM),(147,as5),(149,as6),(153,abZ),(155,qp),(156,as7),(157,as8),(167,abR),(170,SV),(177,DK),(179,HF),(180,L0),(182,Bl),(184,DL),(190,yV),(193,ab0),(194,as9),(197,rT),(198,as'),(201,ab1),(202,L4),(203,SZ),(205,uB),(207,s8),(211,S0),(212,ata),(214,SX),(215,SY),(217,S1),(218,abV),(219,abT),(221,HH),(225,abU),(228,abS),(230,as2),(234,abW),(236,atb),(241,S2),(247,atc),(252,atd),(260,ate),(264,atf),(275,atg),(284,S3),(286,as_),(288,HI),(291,ab2),(295,L5),(297,Bn),(300,ab3),(304,ab4),(306,ab5),(315,ath),(317,ab6),(319,ab7),(320,ab8),(324,L6),(327,ab9),(343,ab_),(346,ati),(349,ab'),(352,atj),(353,aca),(355,acb),(363,atk),(375,atl),(383,HJ),(385,acd),(389,atm),(397,atn),(407,ato),(410,atp),(412,ace),(413,atq),(415,atr),(417,acf),(419,ats),(420,att),(428,atu),(429,atv),(437,atw)]
theorem qq:ed Tryz.prog (q9 xu):=abF (by kernel_rfl)
theorem DN:Tryz.prog.follows .mixedOrders=true:=by kernel_rfl
def xv(_:Nat):Option aN:=none
theorem DO:lE Tryz.prog xv:=λk c h=>by cases h
def dT:dV:={ tK:=λ_=>none,tL:=λ_=>none }
theorem ln:qI Tryz.prog dT where
 tK:=λk v h=>by cases h
 tL:=λk v h=>by cases h
end Go.Fer.Sk
namespace Go.Fer
open Go.RowKit
def jH.mB(c:jH):aN:=⟨c.ts,.au c.aR .dh,λx=>(c.sh x).fm,λx=>((c.sh x).val c.aR.dU,())⟩
end Go.Fer
namespace Go.Fer
variable {af:Type}{p:Prop}
theorem atx{m n:M af}(h:n.fm->p)(k:a6 m n):a6 (ag p m) n:=λay=>⟨⟨h ay,(k ay).1⟩,(k ay).2⟩
theorem s9{o:Option af}{x:af}(h:o=some x):o.isSome=true:=by rw[h];rfl
def S4(ts:V)(x:ts.al)(n:Nat):Nat->Prop
 | 0=>True
 | k+1=>S4 ts x n k/\Hy (kc ts x (n+k))
theorem acg{ts:V}{x:ts.al}{n:Nat}:∀ {k:Nat},S4 ts x n k->∀ i,i<k->Hy (kc ts x (n+i))
 | 0,_,i,h=>by omega
 | k+1,hc,i,h=>by
  by_cases e:i=k
  ·rw[e];exact hc.2
  ·exact acg hc.1 i (by omega)
theorem ach(ts:V)(x:ts.al):∀ (l:List Nat) (i:Nat),fi (l.map λi=>(i,kc ts x i)) i=if i∈l then kc ts x i else .undef
 | [],i=>by simp[fi]
 | j::l,i=>by
  simp only[aPS,fi];by_cases e:i=j
  ·subst e;simp
  ·rw[if_neg e,ach ts x l i];simp[e]
theorem uC{ts:V}{x:ts.al}{n:Nat}(h:S4 ts x n (xq ts - n)):Hz n (rS ts x):=λi G=>by
 show Hy (fi (Hw ts x (xq ts)) i);unfold Hw;rw[ach];split
 ·rename_i hm;rw[aRf]at hm;have aA:¬i<n:=λh=>G (.inl h);have:=acg h (i - n) (by omega);rwa [show n+(i - n)=i by omega]at this
 ·trivial
theorem bp{n:Int}(E:-9223372036854775808<=n:=by omega)(L:n<9223372036854775808:=by omega):IntKind.i64.wrap n=n:=by
 show (if (true&&decide (n % 2 ^ 64>=(2 ^ (64 - 1):Int)))=true then n % 2 ^ 64 - 2 ^ 64 else n % 2 ^ 64)=n;grind
theorem dd(a b:Int):Add.add a b=a+b:=rfl
theorem kV(a b:Nat):Add.add a b=a+b:=rfl
theorem S5(a b:List af):Append.append a b=a++b:=rfl
theorem ct(n:Nat):Int.ofNat n=(n:Int):=rfl
variable {x:Bool}{c:Bool}{d:Bool}
theorem vH:(x||!(if (!x)=true then c else d))=(x||!c):=by grind
theorem S6:(x||(if (!x)=true then c else d))=(x||c):=by grind
theorem xw:(x&&(if x=true then c else d))=(x&&c):=by grind
section
variable {af bet hj A rho:Type}
theorem bx{m:M af}{v:af}(h:p->m=mpure v):a6 m (eF p v):=λaj=>by
 rw[h aj];exact⟨trivial,λ_ a_=>a_⟩
theorem rU{m:M af}{v:af}(h:p->c6 m λy=>y=v):a6 m (eF p v):=λaj=>h aj
theorem iE{v d:af}:(eF p v).val d=v:=by
 unfold M.val;have h:∃ x,(eF p v).a7 x:=⟨v,rfl⟩
 rw[dif_pos h];exact h.choose_spec
theorem kp{v d:af}:(mpure v).val d=v:=iE (p:=True)
theorem rV{v:af}:(eF p v).fm=p:=rfl
theorem rW{v:af}:(eF p v).GC:=λ_ _ h k=>h.trans k.symm
theorem me{g:Bool}{v d:af}:qY g (eF p v) d=eF (g=true->p) (if g=true then v else d):=by
 cases g
 ·exact (bN (by simp) _).symm
 ·simp[qY]
theorem lK{g:Bool}{v d:af}:qY g (mpure v) d=mpure (if g=true then v else d):=by cases g<;>rfl
theorem cK{f:A->M bet}{x:A}:aF.gb f (.next x:aF A bet)=f x:=rfl
theorem uD{f:A->M bet}{r:bet}:aF.gb f (.done r:aF A bet)=mpure r:=rfl
end
def fb{af bet rho:Type}(f:af->bet->aF bet rho)(fin:bet->rho):List af->bet->rho
 | [],b=>fin b
 | x::l,b=>match f x b with
  | .next bf=>fb f fin l bf
  | .done r=>r
variable {A:Type}{bet:Type}{rho:Type}
def aF.pF(g:bet->A):aF bet rho->aF A rho
 | .next b=>.next (g b)
 | .done r=>.done r
theorem e6{body:A->M (aF A rho)}{s0:A}(l:List af)(mk:Nat->bet->A)(f:af->bet->aF bet rho)(fin:bet->rho)(I:Nat->bet->Prop)(b:bet)(oW:s0=mk 0 b)(aV:I 0 b)
  (ay:∀ i (h:i<l.length) b,I i b->body (mk i b)=mpure (aF.pF (mk (i+1)) (f l[i] b))/\∀ bf,f l[i] b=.next bf->I (i+1) bf)
  (ax:∀ b,I l.length b->body (mk l.length b)=mpure (.done (fin b))):dG body s0=mpure (fb f fin l b):=by
 subst oW;have key:∀ (k:Nat) (r:List af) (b:bet),k<=l.length->r=l.drop k->I k b->dG body (mk k b)=mpure (fb f fin r b):=by
  intro k r;induction r generalizing k with
  | nil=>
   intro b an D fw;have:k=l.length:=by have:=congrArg List.length D;grind
   subst this;exact wL (ax b fw)
  | cons x r aO=>
   intro b an D fw;have dk:k<l.length:=by
    grind
   rw[aPE dk]at D;injection D with ao D
   obtain⟨E,L⟩:=ay k dk b fw;rw[<-ao]at E L;simp only[fb];cases vy:f x b with
   | next bf=>
    rw[vy]at E;rw[FD E];grind
   | done jO=>
    rw[vy]at E;exact wL E
 grind
theorem ev{body:A->M (aF A rho)}{s0:A}(l:List af)(mk:Nat->bet->A)(f:af->bet->aF bet rho)(fin:bet->rho)(b:bet)(oW:s0=mk 0 b)
  (ay:∀ i (h:i<l.length) b,body (mk i b)=mpure (aF.pF (mk (i+1)) (f l[i] b)))
  (ax:∀ b,body (mk l.length b)=mpure (.done (fin b))):dG body s0=mpure (fb f fin l b):=
 e6 l mk f fin (λ_ _=>True) b oW trivial (λi h b _=>⟨ay i h b,λ_ _=>trivial⟩) λb _=>ax b
section
variable {af bet rho:Type}
theorem s_{p:af->Bool}{r:rho}{fin:bet->rho}:∀ (l:List af) (b:bet),fb (λx b=>if p x=true then .done r else .next b) fin l b=if l.any p=true then r else fin b
 | [],b=>by rfl
 | x::l,b=>by
  simp only[fb,aQC,aPO];by_cases h:p x=true
  ·simp[h]
  ·have h:p x=false:=by grind
   simp only[h,aml,aPA,false_or];exact s_ l b
theorem L7{p:af->Bool}{r:rho}{fin:bet->rho}:∀ (l:List af) (b:bet),fb (λx b=>if p x=true then .next b else .done r) fin l b=if l.all p=true then fin b else r
 | [],b=>by rfl
 | x::l,b=>by
  simp only[fb,aQq,amn];by_cases h:p x=true
  ·simp only[h,if_true,aRq];exact L7 l b
  grind
theorem ee{h:bet->af->bet}{fin:bet->rho}:∀ (l:List af) (b:bet),fb (λx b=>.next (h b x)) fin l b=fin (l.foldl h b)
 | [],b=>rfl
 | x::l,b=>by simp only[fb,aPY];exact ee l (h b x)
theorem HK{p:af->Bool}:∀ (l:List af) (b:List af),l.foldl (λb x=>if p x=true then b++[x] else b) b=b++l.filter p
 | [],b=>by simp
 | x::l,b=>by
  simp only[aPY,aRp];rw[HK l];grind
theorem rX{hj:Type}{g:af->hj}:∀ (l:List af) (b:List hj),l.foldl (λb x=>b++[g x]) b=b++l.map g
 | [],b=>by simp
 | x::l,b=>by simp only[aPY,aPS];rw[rX l];simp
end
theorem S7{p q:af->Bool}(h:∀ x,p x=!q x)(l:List af):l.any p=!l.all q:=by
 grind
theorem mf{p q:af->Bool}{r:rho}{fin:bet->rho}(l:List af)(b:bet)(h:∀ x,p x=!q x):fb (λx b=>if p x=true then .done r else .next b) fin l b=if l.all q=true then fin b else r:=by
 rw[s_,S7 h];grind
theorem pG{mk:bet->A}{b:bet}{r:rho}:(if c=true then mpure (aF.done r) else mpure (aF.next (mk b)))=mpure (aF.pF mk (if c=true then .done r else .next b)):=by cases c<;>rfl
theorem aci{mk:bet->A}{b:bet}{r:rho}:(if c=true then mpure (aF.done r) else mpure (aF.next (mk b)))=mpure (aF.pF mk (if c=true then .done r else .next b)):=by cases c<;>rfl
variable {i:Nat}
theorem dP{l:Nat}(h:i<l):decide ((i:Int)<(l:Int))=true:=by grind
theorem dt{l:Nat}(h:i<l):((0:Int)<=(i:Int)/\(i:Int)<(l:Int))=True:=by grind
theorem d_{l:List af}{d:af}(h:i<l.length):l.getD (Int.toNat (i:Int)) d=l[i]:=by
 grind
theorem Bo{l:List af}{i:Int}{d:af}(aV:0<=i)(h:i<(l.length:Int)):l.getD i.toNat d∈l:=by
 grind
def fP(a b:Int):z1':=(List.range (b - a+1).toNat).map λ(i:Nat)=>a+(i:Int)
theorem DP(a b:Int):(fP a b).length=(b - a+1).toNat:=by simp[fP]
theorem HL{a b:Int}(h:i<(fP a b).length):(fP a b)[i]=a+i:=by simp[fP]
theorem vI{a b n:Int}:n∈fP a b<->a<=n/\n<=b:=by
 simp only[fP,aQ5,aRf];constructor
 ·omega
 ·rintro⟨E,L⟩;exact⟨(n - a).toNat,by omega,by omega⟩
end Go.Fer
namespace Go.Fer.Sk
open Go.Proofs
abbrev pH:Type:=List (Nat×jH)
def re{af:Type}:List (Nat×af)->Nat->Option af
 | [],_=>none
 | p::l,k=>if k=p.1 then some p.2 else re l k
theorem uE{af:Type}{k:Nat}{c:af}:∀ {l:List (Nat×af)},re l k=some c->(k,c)∈l
 | [],h=>by cases h
 | p::l,h=>by
  unfold re at h;split at h
  ·rename_i e;cases h;subst e;simp
  ·exact amr _ (uE h)
def ta(T:pH):List (Nat×gq)->Nat->Option gq
 | [],k=>match re T k with
  | some c=>some (.dI c)
  | none=>none
 | p::l,k=>if k=p.1 then some p.2 else ta T l k
def acj(k:Nat)(c:jH):Prop:=hD Tryz.prog k c.ts c.aR c.sh/\(c.KP=true->∀ x,(c.sh x).GC)
structure lL(T:pH):Type where
 ok:∀ p∈T,acj p.1 p.2
variable {T:pH}
abbrev aty(_:lL T):pH:=T
def atz:lL []:=⟨λp h=>by cases h⟩
variable {n:Nat}{c:jH}
def lL.cons(h:lL T)(k:acj n c):lL ((n,c)::T):=⟨λp aj=>by
 rcases List.mem_cons.1 aj with rfl | aj
 ·exact k
 ·exact h.ok p aj⟩
def Bp(aP:dV):List (Nat×gq)->Prop
 | []=>True
 | p::l=>p.2.j1 Tryz.prog aP p.1/\Bp aP l
theorem lL.DQ{aP:dV}{T:pH}(h:lL T):∀ {sp:List (Nat×gq)},Bp aP sp->pz Tryz.prog aP (ta T sp)
 | [],_,k,c,e=>by
  unfold ta at e;split at e
  ·rename_i gl hc;cases e;exact h.ok (k,gl) (uE hc)
  ·cases e
 | p::l,ay,k,c,e=>by
  unfold ta at e;split at e
  ·rename_i an;cases e;subst an;exact ay.1
  ·exact lL.DQ h (sp:=l) ay.2 k c e
def DR:V->List V
 | .dh=>[]
 | .au a b=>a::DR b
 | t=>[t]
def ack:V->V
 | .bM t=>t
 | t=>t
def acm{ts acn:V}(e:acn=ts){aR:V}(sh:ts.al->M aR.al):acn.al->M aR.al:=e ▸ sh
def S8(rY:Nat)(c:jH):Option JR:=
 if h:((DR c.ts).take rY).all V.hN=true/\hV ((DR c.ts).take rY++(((DR c.ts).drop rY).map ack).map .bM)=c.ts then some ⟨(DR c.ts).take rY,((DR c.ts).drop rY).map ack,c.aR,acm h.2 c.sh⟩ else none
def aco:z9'->Nat->Option Nat
 | [],_=>none
 | p::l,k=>if k=p.1 then some p.2 else aco l k
def DS(T:pH)(cl:z9')(L8:List (Nat×z7)):dV where
 tK:=λk=>match re T k with
  | some c=>some ⟨c.ts,c.aR,c.sh⟩
  | none=>none
 tL:=λk=>match aco cl k with
  | some rY=>match re T k with
   | some c=>S8 rY c
   | none=>none
  | none=>none
 z8:=re L8
def HM:List (Nat×z7)->Prop
 | []=>True
 | p::l=>ye Tryz.prog p.1 p.2/\HM l
theorem HM.mem:∀ {l:List (Nat×z7)},HM l->∀ p∈l,ye Tryz.prog p.1 p.2
 | [],_,p,h=>by cases h
 | q::l,h,p,aj=>by
  rcases List.mem_cons.1 aj with rfl | aj
  ·exact h.1
  ·exact HM.mem h.2 p aj
theorem atA{k rY:Nat}{v:JR}(h:hD Tryz.prog k c.ts c.aR c.sh)(e:S8 rY c=some v):v.as.all V.hN=true/\hD Tryz.prog k (hV (v.as++v.cs.map .bM)) v.aR v.sh:=by
 unfold S8 at e;split at e
 ·rename_i df;cases e;refine⟨df.1,?_⟩;have key:∀ (ts:V) (e:ts=c.ts),hD Tryz.prog k ts c.aR (acm e c.sh):=by rintro _ rfl;exact h
  exact key _ df.2
 ·cases e
theorem lL.u(h:lL T)(cl:z9')(L8:List (Nat×z7))(G:HM L8):qI Tryz.prog (DS T cl L8) where
 tK:=λk v e=>by
  simp only[DS]at e;split at e
  ·rename_i c hc;cases e;exact (h.ok (k,c) (uE hc)).1
  ·cases e
 tL:=λk v e=>by
  simp only[DS]at e;split at e
  ·split at e
   ·rename_i c hc;exact atA (h.ok (k,c) (uE hc)).1 e
   ·cases e
  ·cases e
 z8:=λk v e=>G.mem (k,v) (uE e)
abbrev rf(fn:Func):Code:=fn.body.getD .skip
variable {fn:Func}
theorem DT(h:fn.body.isSome=true):fn.body=some (rf fn):=by
 unfold rf;cases e:fn.body with
 | none=>rw[e]at h;cases h
 | some b=>rfl
abbrev DU(fn:Func)(ts aR:V):Bool:=fn.body.isSome&&HA fn (rf fn) ts aR
variable {aP:dV}
theorem L9(aT:lL T)(iM:qI Tryz.prog aP){sp:List (Nat×gq)}(mc:Bp aP sp)(ax:Tryz.prog.funcs[n]?=some fn){ts aR:V}{sh:ts.al->M aR.al}{ann:cU}{S:ts.al->M aR.al}(ay:∀ x,a6 (S x) (sh x))(b5:DU fn ts aR=true)(ah:∀ x,DF aP (q9 xu) xv (ta T sp) fn (rf fn) ann ts aR x=S x):hD Tryz.prog n ts aR sh:=
 have b5:=amn _ _ ▸ b5
 abD DN qq iM DO (aT.DQ mc) ax (DT b5.1) b5.2 λx=>FA (FB (ah x)) (ay x)
def mk(aT:lL T)(ax:Tryz.prog.funcs[n]?=some fn)(c:aN)(ann:cU){S:c.ts.al->M c.aR.al}(ay:∀ x,a6 (S x) (c.sh x))(b5:DU fn c.ts c.aR=true:=by kernel_rfl)(ah:∀ x,DF dT (q9 xu) xv (ta T []) fn (rf fn) ann c.ts c.aR x=S x:=by intro x;kernel_rfl):lL ((n,c.dI)::T):=
 aT.cons ⟨L9 aT ln (sp:=[]) trivial ax ay b5 ah,λ_ _=>rW⟩
def nD(aT:lL T)(cl:z9')(ax:Tryz.prog.funcs[n]?=some fn)(c:aN)(ann:cU){S:c.ts.al->M c.aR.al}(ay:∀ x,a6 (S x) (c.sh x))(b5:DU fn c.ts c.aR=true:=by kernel_rfl)(ah:∀ x,DF (DS T cl []) (q9 xu) xv (ta T []) fn (rf fn) ann c.ts c.aR x=S x:=by intro x;kernel_rfl):lL ((n,c.dI)::T):=
 aT.cons ⟨L9 aT (aT.u cl [] trivial) (sp:=[]) trivial ax ay b5 ah,λ_ _=>rW⟩
def nE(aT:lL T)(iM:qI Tryz.prog aP)(sp:List (Nat×gq))(mc:Bp aP sp)(ax:Tryz.prog.funcs[n]?=some fn)(c:aN)(ann:cU){S:c.ts.al->M c.aR.al}(ay:∀ x,a6 (S x) (c.sh x))(b5:DU fn c.ts c.aR=true:=by kernel_rfl)(ah:∀ x,DF aP (q9 xu) xv (ta T sp) fn (rf fn) ann c.ts c.aR x=S x:=by intro x;kernel_rfl):lL ((n,c.dI)::T):=
 aT.cons ⟨L9 aT iM mc ax ay b5 ah,λ_ _=>rW⟩
def lo(aT:lL T)(cl:z9')(ax:Tryz.prog.funcs[n]?=some fn)(c:aN)(rY:Nat)(ann:cU){S:c.ts.al->M c.aR.al}(ay:∀ x,a6 (S x) (c.sh x))(hc:∀ x,c.pre x->Hz rY (rS c.ts x):=by intro x h;obtain⟨f,ax,_⟩:=h;exact uC ⟨trivial,s9 ax⟩)(b5:DU fn c.ts c.aR=true:=by kernel_rfl)
  (ah:∀ x,fW (DS T cl []) (q9 xu) xv (ta T []) ann (rf fn) (LU rY (rS c.ts x)) (yS (q9 xu) fn.results.toList c.aR)=S x:=by intro x;kernel_rfl):lL ((n,c.dI)::T):=
 have b5:=amn _ _ ▸ b5
 aT.cons ⟨asz (n:=rY) DN qq (aT.u cl [] trivial) DO (aT.DQ (sp:=[]) trivial) ax (DT b5.1) b5.2 λx=>atx (hc x) (FA (FB (ah x)) (ay x)),λ_ _=>rW⟩
variable {c:cL}
theorem ew(aT:lL T)(sp:List (Nat×gq))(mc:Bp aP sp)(ax:Tryz.prog.funcs[n]?=some fn)(ann:cU){S:c.cA.al->M c.a7.al}(ay:∀ x,a6 (S x) (c.sh x))(b5:(fn.body.isSome&&DH fn (rf fn) c.kU c.lh)=true:=by kernel_rfl)(ah:∀ x,LW aP (q9 xu) xv (ta T sp) fn (rf fn) ann c.cA c.a7 c.lh x=S x:=by intro x;kernel_rfl):cW Tryz.prog aP n c:=
 have b5:=amn _ _ ▸ b5
 SM DN qq DO (aT.DQ mc) ax (DT b5.1) b5.2 λx=>FA (FB (ah x)) (ay x)
theorem S9(ax:Tryz.prog.funcs[n]?=some fn)(ay:∀ x,¬(c.sh x).fm)(b5:(fn.body.isSome&&DH fn (rf fn) c.kU c.lh)=true:=by kernel_rfl):cW Tryz.prog aP n c:=
 have b5:=amn _ _ ▸ b5
 SM DN qq DO (Psi:=λ_=>none) (λk c h=>by cases h) (ann:=.fg) ax (DT b5.1) b5.2 λx h=>absurd h (ay x)
end Go.Fer.Sk
namespace Go.Fer
open Go.RowKit
theorem atB{P:Program}{aP:dV}{k:FuncId}{ts e:V}(uv:ts≠.dh){c:cL}(h:cW P aP k c)(iM:qI P aP){sh:ts.al->M (V.slice e).al}{b0:Nat}(mk:ts.al->c.cA.al)
    (S_:∀ x,c.cA.ad (mk x)=⟨fi ((List.range (jS ts)).map λi=>(i,kc ts x i)),λ_=>⟨0,.ey⟩⟩) (aA:c.kU=jS ts) (jj:c.kU<=fE) (S':c.lh=[none]) (val:c.a7.al->List e.al)
    (q7:∀ bk,(c.a7.ad bk).az 0=.own b0 0/\(c.a7.ad bk).aa b0=⟨0,.bl e (val bk)⟩)
    (l8:∀ x,(sh x).fm->(c.sh (mk x)).fm/\∀ bk,(c.sh (mk x)).a7 bk->val bk=(sh x).val (V.slice e).dU):p7 (jH.mB ⟨ts,.slice e,sh,true⟩).aR=true/\Gh P k (jH.mB ⟨ts,.slice e,sh,true⟩):=by
  refine⟨rfl,h.enter,?_⟩;intro (x:ts.al) (ay:(sh x).fm) y a_ F w args bm fq (fA:gv P ts F w args x);cases a_;obtain⟨ka,Dz⟩:=vj (H:=λ_=>⟨0,.ey⟩) (kap:=λ_=>⟨0,0,0,false⟩) ts fA uv;let C:cF:={ P:=P,ep:=w,jA:=F,K0:=λr=>r<w.heap.size,bV:=c.kU,r:=none,dj:=[],j':=λ_=>none,cG:=⟨0,.dh,λ_=>False,λ_ _ _ _ _=>False⟩,aU:=aP }
  have uq:∀ i,fi ((List.range (jS ts)).map λi=>(i,kc ts x i)) i=.undef\/(i<jS ts/\fi ((List.range (jS ts)).map λi=>(i,kc ts x i)) i=kc ts x i):=λi=>by
    rcases SH (l:=(List.range (jS ts)).map λi=>(i,kc ts x i)) (i:=i) with e | e
    · exact .inl e
    · refine .inr ?_
      generalize bA:fi ((List.range (jS ts)).map λi=>(i,kc ts x i)) i=z at e
      simp only[aQ5,aRf,aPD]at e
      obtain⟨j,aJ,rfl,rfl⟩:=e
      exact⟨aJ,rfl⟩
  have D:bw C (c.cA.ad (mk x)) { tmps:=args.toArray,defers:=[] } w (λ_=>⟨0,0,0,false⟩) F:=by
    rw[S_];refine { dX := ?_, dj := rfl, bX := λi => ?_, bC := λb => trivial, own := λb U => (by cases U), inj := λb bf U _ _ => (by cases U), dr := bm, hQ := λr D => .inl D, iq := λr D => D, ir := λr D => D, e2 := λr _ => rfl, size := amo _, eN := dM.refl w,hE:=jj,k8:=λb r h=>(by cases h),iY:=λb r h=>(by cases h),k9:=λb k h=>(by cases h),jB:=λb k h=>(by cases h),e7:=λl aI ab n ad e=>?_,bQ:=λe m hm=>(by cases hm),j2:=iM,hW:=fq }
    · grind
    · rcases uq i with e | ⟨G,e⟩
      · show bJ _ _ _ _ _ (fi _ i) _
        rw[e];trivial
      · show bJ _ _ _ _ _ (fi _ i) _
        rw[e]
        have:=Dz i G
        simpa [aPz,amp]using this
    · rcases uq ca with h | ⟨h,_⟩
      · grind
      · unfold ca at h;unfold fE at jj;omega
  obtain⟨G3,ps⟩:=l8 x ay;refine (h.ik C _ w _ F (mk x) rfl rfl rfl rfl rfl rfl D G3).mono λaY w' ⟨v,bk,aH,bR,F',z1,gN,uu,bj⟩=>?_;obtain⟨Ta,xx⟩:=q7 bk;rw[S']at uu;obtain⟨us,nv,GX,A8⟩:=uu;obtain⟨u,rfl⟩:∃ u,us=[u]:=by
    match us,nv with
    | [u],_=>simp
  have L_:aH=[u]:=by
    obtain⟨_,L_,L⟩:=A8;rw[L_,L]
  have ae:v=u:=by simpa using GX
  have fH:=bj.bX 0;rw[Ta,L_]at fH;have DV:u=(bR b0).slice ((c.a7.ad bk).aa b0).body.len:=by
    have:=fH.2 (by rw[xx]) (by rw[xx];rfl);simp_all
  rw[xx]at DV;have aX:=bj.bC b0;unfold c7 at aX;rw[xx]at aX;obtain⟨E,L⟩:=aX;have Bk:val bk=(sh x).val (V.slice e).dU:=ps bk gN;refine⟨bR b0,F',by rw[z1,ae,DV];simp only[b8.len];rw[Bk];rfl,bj.iq,λr acp=>?_,λaA=>?_,λaA=>?_,bj.eN.os,bj.eN.tape,bj.eN.output,bj.size,bj.e2⟩
  · rcases bj.hQ r acp with df | df
    · exact .inl df
    · exact .inr ⟨aQY df,bj.dr r acp⟩
  · have:=E aA
    rw[Bk]at this
    exact this
  · have ar:=bj.own b0 (by rw[xx];simp[b8.cd,aA])
    obtain⟨cs,T,bE,c2,c3,c4,c5⟩:=L aA
    rw[Bk]at c3 c5
    exact⟨⟨aQY ar.2.2,ar.1,ar.2.1⟩,cs,T,bE,c2,c3,c4,c5⟩
end Go.Fer
namespace Go.Fer
abbrev bZ:Type:=z11'
abbrev xy:Type:=bZ×List (z1')
abbrev g_(l:z4')(a b:Int):z4':=oL (k:=.int .i64) (v:=.int .i64) l a b
abbrev yW(l:z7')(a:z16')(b:Int):z7':=oL (k:=.ad (.au (.int .i64) (.au (.int .i64) (.int .i64)))) (v:=.int .i64) l a b
variable (atC:z11'->M Bool) (Tb:z11'->M Int) (L':z19'->M Bool) (atD:z11'->M (z12')) (aMe:z11'->M (List (z1'))) (atE:bZ×Int×Int->M Bool) (aMf:bZ×z1'×z4'->M Int) (aMg:z1'×List (z1')->M Int) (aMh:bZ×z4'->M (List (z1'))) (acq:bZ×Int->M Bool) (acr:bZ×Int×Int->M Bool) (Ma:z11'->M Int) (atF:bZ×Int×Int×Int×Int->M Bool) (atG:bZ×z1'×z4'->M Bool) (acs:z1'->M Bool) (rZ:z16'->M Bool) (atH:bZ×Int->M Bool) (aMi:bZ×Bool->M Int) (aMj:bZ×Int×Int×Int->M Int) (aMk:bZ×z1'->M Bool) (aMl:bZ×List (z1')×z19'->M Int) (aMm:bZ×Int->M (List (z1'))) (acu:z12'->M Bool) (atI:z18'->M Bool) (aMn:bZ×Int->M (z1')) (aMo:z12'->M Int) (aMp:bZ×Int×Int×Int->M Int) (atJ:z1'×(Int->M Bool)->M Int) (aMq:z4'×(z12'->M Bool)->M Int) (aMr:List (z18')×(z18'->M Bool)->M Int) (aMs:z3'×(z30'->M Bool)->M Int) (aMt:List (List (z18'))×(List (z18')->M Bool)->M Int) (aMu:z3'×(z30'->M Bool)->M Int) (acv:z19'->M Int) (DW:z12'->M (z12'))
def Tc(x:bZ×Int):M Bool:=
 aq (rZ (x.2,0,cD (aQ x.1.1) 1)) λy=>mpure y
def Mb(x:bZ×Int×Int):M Bool:=
 aq (atH (x.1,x.2.1)) λy=>ag (y=true->(y=true/\y=true)/\(0<=x.2.1/\x.2.1<aQ x.1.2.1)/\True) (b_ y (rZ (x.2.2,0,cD (aQ (bz x.1.2.1 x.2.1 [])) 1)) false (λcg=>mpure (y&&cg)))
def Td(x:z11'):M Int:=
 aq (atC x) λy=>bg (!y) (mpure 70) (bK (λA=>iA A.1 A.2.1.2.2.2 (bK (λA=>letI e:=A.2.2.1.2.2.2;letI g:=bz e A.1 (0,0,0,0);letI f:=bz e A.2.1 (0,0,0,0);bo (A.2.1<A.1) (bS A.2.1 e (bS A.1 e (bg (b3 f.1 g.1&&b3 f.2.1 g.2.1&&b3 f.2.2.1 g.2.2.1&&eH f.2.2.2 g.2.2.2) (iO (iO (cS 71))) (bc (A.1,a8 A.2.1,A.2.2.1,()))))) (bY (A.1,A.2.2.1,()))) (A.1,0,A.2.1,()) (λA=>bc (a8 A.1,A.2.1,()))) (bY ())) (0,x,()) (λA=>mpure 0))
def acw(x:bZ×Int×Int×Int×Int):M Bool:=
 letI h:=bz x.1.2.1 x.2.2.2.1 [];letI g:=bz x.1.1 x.2.1 (0,0,0,0);letI f:=bz h x.2.2.2.2 (0,[],0,0);letI i:=b3 g.1 f.1;bS x.2.1 x.1.1 (bS x.2.2.2.1 x.1.2.1 (bS x.2.2.2.2 h (b_ i (L' (f.2.1,g.2.1)) false (λy=>b_ (i&&y) (rZ (x.2.2.1,f.2.2.1,e0 f.2.2.2 x.1.2.2.1)) false λcg=>mpure (i&&y&&cg)))))
def Te(x:z1'):M Bool:=
 bK (λA=>fO A.2.1 A.1 (bS (cD A.2.1 1) A.1 (bo (bz A.1 A.2.1 0<=bz A.1 (cD A.2.1 1) 0) (cS false) (bc (A.1,a8 A.2.1,())))) (bY ())) (x,1,()) λA=>h0
def atK(x:z16'):M Bool:=
 mpure (decide (x.1>=x.2.1)&&ht x.1 x.2.2)
def Tf(x:bZ×Int):M Bool:=
 aq (rZ (x.2,0,cD (aQ x.1.2.1) 1)) λy=>mpure y
def Tg(x:z11'):M Bool:=
 letI n:=c' (aQ x.1) 10||c' (aQ x.2.1) 6;b_ (!n) (rZ (x.2.2.1,0,99)) false λy=>bg (n||!y||c' (aQ x.2.2.2) 30) gp (bK (λA=>letI l:=bz A.2.1.1 A.1 (0,0,0,0);fO A.1 A.2.1.1 (aq (rZ (l.1,0,9)) (λy=>b_ (!(!y)) (rZ (l.2.1,0,9)) false λcg=>b_ (!(!y||!cg)) (acu l.2.2) false λei=>bg (!y||!cg||!ei) (cS false) (bc (a8 A.1,A.2.1,())))) (bY (A.2.1,()))) (0,x,()) (λA=>bK (λA=>iA A.1 A.2.1.2.1 (cm (bS A.1 A.2.1.2.1 (bo (aQ (bz A.2.1.2.1 A.1 []) > 4) (iO (cS false)) (dG (λA=>letI o:=A.2.2.1;letI m:=bz o.2.1 A.1 [];bS A.1 o.2.1 (iA A.2.1 m (bS A.1 o.2.1 (bS A.2.1 m (aq (atI (bz m A.2.1 (0,[],0,0))) (λy=>bg (!y) (iO (iO (cS false))) (bc (A.1,a8 A.2.1,o,())))))) (bY (A.1,o,())))) (A.1,0,A.2.1,())))) (λA=>bc (a8 A.1,A.2.1,()))) (bY (A.2.1,()))) (0,A.1,()) λA=>bK (λA=>letI k:=bz A.2.1.2.2.2 A.1 (0,0,0,0);fO A.1 A.2.1.2.2.2 (aq (acq (A.2.1,k.1)) (λy=>b_ (!(!y)) (acr (A.2.1,k.2.1,k.2.2.1)) false λcg=>b_ (!(!y||!cg)) (rZ (k.2.2.2,0,1)) false λei=>bg (!y||!cg||!ei) (cS false) (bc (a8 A.1,A.2.1,())))) (bY ())) (0,A.1,()) λA=>h0))
def Th(x:z12'):M Bool:=
 aq (rZ (x.1,0,x.2)) λy=>mpure (y&&ht x.2 999)
def Ti(x:z18'):M Bool:=
 bK (λA=>fO A.1 A.2.1.2.1 (aq (rZ (bz A.2.1.2.1 A.1 0,0,9)) (λy=>if !y then cS false else bc (a8 A.1,A.2.1,()))) (bY (A.2.1,()))) (0,x,()) λA=>aq (rZ (A.1.1,0,9)) λy=>letI c:=y&&ht (aQ A.1.2.1) 4;b_ c (acs A.1.2.1) false λcg=>b_ (c&&cg) (acu A.1.2.2) false λei=>mpure (c&&cg&&ei)
def acx(aMv:z12'->M (z12'))(atL:z12'->M (z12'))(x:z12'):M (z12'):=
 aq (atL x) λy=>mpure y
def acy(x:z19'):M Bool:=
 aq (acv x) λy=>mpure (decide (y>=0))
def acz(x:z12'):M (z12'):=
 ag ((0:Int)<=32) (ag ((0:Int)<=32) (ag ((0:Int)<=32) (ag ((0:Int)<=32) (ag ((0:Int)<=32) (mpure (IntKind.wrap .u64 (Add.add (IntKind.wrap .u64 (Add.add (IntKind.wrap .u64 (la .u64 x.1 32*la .u64 x.2 32)) (la .u64 (IntKind.wrap .u64 (Add.add (IntKind.wrap .u64 (la .u64 x.1 32*nY .u64 x.2 4294967295)) (la .u64 (IntKind.wrap .u64 (nY .u64 x.1 4294967295*nY .u64 x.2 4294967295)) 32))) 32))) (la .u64 (IntKind.wrap .u64 (Add.add (nY .u64 (IntKind.wrap .u64 (Add.add (IntKind.wrap .u64 (la .u64 x.1 32*nY .u64 x.2 4294967295)) (la .u64 (IntKind.wrap .u64 (nY .u64 x.1 4294967295*nY .u64 x.2 4294967295)) 32))) 4294967295) (IntKind.wrap .u64 (nY .u64 x.1 4294967295*la .u64 x.2 32)))) 32)),IntKind.wrap .u64 (x.1*x.2)))))))
def Tj(x:z19'):M Int:=
 bK (λA=>letI b:=A.2.2.2.1;bo (b<A.2.2.1) (bS b A.1 (bo (A.2.1=bz A.1 b 0) (cS b) (bc (A.1,A.2.1,A.2.2.1,a8 b,())))) (bY ())) (x.1,x.2,aQ x.1,0,()) λA=>mpure (-1)
end Go.Fer
namespace Go.Fer
variable (aMw:z11'->M (z19')) (aMx:Int->M Int) (aMy:Int->M (z1')) (atM:z11'->M Bool) (aMz:bZ×z1'×z4'->M (Option (List (z1')×z1'×z1')×Int)) (aMA:Option (List (z1')×z1'×z1')×Int->M (z1')) (aMB:Option (List (z1')×z1'×z1')×z22'->M (z14')) (acA:bZ×Bool->M (Option xy×Int)) (Mc:bZ×Int->M Bool) (acB:bZ×Int×Int->M Bool) (atN:z1'->M Bool) (atO:Option xy×Int×Int×Int->M Int) (atP:z1'×(Int->M Bool)->M Bool) (aMC:z4'×(z12'->M Bool)->M Bool) (aMD:z1'×z22'->M (z14')) (yX:z16'->M Bool) (aME:Option xy×z1'×Int->M Int) (aMF:Int×Option bZ->M Bool) (atQ:z3'×(z30'->M Bool)->M Bool) (atS:List (List (z18'))×(List (z18')->M Bool)->M Bool) (DX:z11'->M Int) (acC:z3'×(z30'->M Bool)->M Bool) (atT:List (z18')×Option (z18'->M Bool)->M Bool) (atU:(z30')×Option bZ->M Bool) (atV:z30'->M Bool) (atW:z18'->M Bool) (atX:(Int×Int×Int×Int)×Option Int×Option bZ×Option Int->M Bool) (acD:bZ×Int×Int×Int×Int->M Bool) (Md:z1'×(Int->M Bool)->M Bool) (aMG:Int×Option (Int->M Bool)->M Bool) (atY:z12'->M Int) (aMH:Option xy×z1'×Int->M (z4')) (aMI:z4'×(z12'->M Bool)->M Bool) (aMJ:(z12')×Option (z12'->M Bool)->M Bool) (Me:Int->M Bool) (acE:z12'->M Bool) (atZ aMK:List (z18')×(z18'->M Bool)->M Bool) (aML:(z18')×Option (z18'->M Bool)->M Bool) (aMM:z3'×(z30'->M Bool)->M Bool) (aMN:(z30')×Option (z30'->M Bool)->M Bool) (aMO:List (List (z18'))×(List (z18')->M Bool)->M Bool) (aMP:List (z18')×Option (List (z18')->M Bool)->M Bool) (aMQ:z3'×(z30'->M Bool)->M Bool) (aMR:(z30')×Option (z30'->M Bool)->M Bool) (Bq:z19'->M Bool) (aMS:Int×List (z1')×z1'×z14'->M (z1'×List (z1')×z1'×z14')) (aMT:Int×List (z1')×z1'×z1'×z4'×Unit->M (Bool×List (z1')×z1'×z1'×z4'×Unit)) (aMU:(z12')×Option bZ->M Bool) (aMV:Int->M Bool)
def Tk(x:z11'):M Int:=
 aq (atM x) λy=>bg (!y) (mpure 70) (bK (λ(A:z3'×Int×Int×z7'×Unit)=>letI f:=A.2.2;letI d:=bz A.1 f.1 (0,0,0,0);letI e:=Option.map (λx=>x.2) (List.find? (λp=>b3 d.1 p.1.1&&(b3 d.2.1 p.1.2.1&&b3 d.2.2.1 p.1.2.2)) f.2.1);bo (f.1<A.2.1) (bS f.1 A.1 (bg (e.isSome&&eH (e.getD 0) d.2.2.2) (cS 71) (bc (A.1,A.2.1,a8 f.1,yW f.2.1 (d.1,d.2.1,d.2.2.1) d.2.2.2,())))) (bY ())) (x.2.2.2,aQ x.2.2.2,0,[],()) (λA=>mpure 0))
def Tl(x:bZ×Int):M (z17'):=
 letI d:=acA (x.1,mZ (Mc x));letI b:=M.val d (none,0);letI e:=(b.1.getD (([],[],0,[]),[])).2;letI c:=bz e x.2 [];dB (Mc x) (dB d (bo (b.2≠0) (mpure ((0,0),b.2)) (ag b.1.isSome (bS x.2 e (gy c (bS (cD (aQ c) 1) c (mpure ((gz c 0,c.getD (Int.toNat (cD (aQ c) 1)) 0),0))))))))
def Tm(x:bZ×Int×Int×Int):M (z12'):=
 letI g:=acB (x.1,x.2.2);letI f:=Mc (x.1,x.2.1);letI c:=mZ f;letI e:=c=true;letI d:=acA (x.1,c&&mZ g);dB f (ag (e->(e/\e/\e/\True)/\g.fm/\True) (ag (True/\(e->e)) (dB d (bo ((M.val d (none,0)).2≠0) (mpure (0,(M.val d (none,0)).2)) (aq (atO ((M.val d (none,0)).1,x.2)) (λy=>mpure (y,0)))))))
def acF(x:z11'):M Bool:=
 b_ (ht (aQ x.1) 10) (atQ (x.1,atV)) false λy=>letI d:=ht (aQ x.1) 10&&y&&ht (aQ x.2.1) 6;b_ d (atS (x.2.1,λx=>atT (x,some atW))) false λcg=>b_ (d&&cg) (yX (x.2.2.1,0,99)) false λei=>letI e:=d&&cg&&ei&&ht (aQ x.2.2.2) 30;b_ e (acC (x.2.2.2,λjo=>atU (jo,some x))) false λhv=>mpure (e&&hv)
def Tn(x:bZ×Bool):M (Option xy×Int):=
 aq (DX x.1) λy=>bo (y≠0) (mpure (none,y)) (bg (!x.2) (mpure (none,1)) (bK (λA=>letI t:=A.2.2.1;letI u:=bz A.1 t (0,0,0,0);letI n:=A.2.2.2.2;bo (t<A.2.1) (cm (bS t A.1 (bK (λA=>letI o:=A.2.2.2;letI l:=o.2.2.2;letI v:=l.2.2;letI p:=v.2.2;bo (l.2.1<=o.2.2.1.2.2.2) (cm (aq (acC (o.1.2.2.2,λx=>atX (x,some o.2.1,some o.1,some l.2.1))) (λy=>bg y (eD l.1 (bc (A.1,A.2.1,A.2.2.1,o.1,o.2.1,o.2.2.1,l.1++[l.2.1],l.2.1,v.1,v.2.1,p.1,p.2.1,p.2.2.1,()))) (bc (A.1,A.2.1,A.2.2.1,o.1,o.2.1,o.2.2.1,l.1,l.2.1,v.1,v.2.1,p.1,p.2.1,p.2.2.1,())))) (λA=>letI w:=A.2.2.2;letI m:=w.2.2.2;bc (A.1,A.2.1,A.2.2.1,w.1,w.2.1,w.2.2.1,m.1,a8 m.2.1,m.2.2.1,m.2.2.2.1,m.2.2.2.2.1,m.2.2.2.2.2.1,m.2.2.2.2.2.2.1,()))) (bY (A.1,A.2.1,A.2.2.1,o.1,l.1,v.1,v.2.1,p.1,p.2.1,p.2.2.1,()))) (A.1,A.2.1,t,A.2.2.2.1,t,u,[],u.2.2.1,n.1,n.2.1,n.2.2.1,n.2.2.2.1,n.2.2.2.2.1,()) (λA=>letI q:=A.2.2.2.2;bo (aQ q.1=0) (iO (cS (none,3))) (ag True (eD q.2.2.2.2.2.1 (ag True (bc (A.1,A.2.1,A.2.2.1,A.2.2.2.1,q.2.1,q.2.2.1,q.2.2.2.1,q.2.2.2.2.1,q.2.2.2.2.2.1++[q.1],())))))))) (λA=>letI s:=A.2.2.2.2;bc (A.1,A.2.1,a8 A.2.2.1,A.2.2.2.1,s.1,s.2.1,s.2.2.1,s.2.2.2.1,s.2.2.2.2.1,()))) (bY (n.1,n.2.1,n.2.2.1,n.2.2.2.1,n.2.2.2.2.1,()))) (x.1.1,aQ x.1.1,0,x.1,x.1.1,x.1.2.1,x.1.2.2.1,x.1.2.2.2,[],()) (λA=>mpure (some ((A.1,A.2.1,A.2.2.1,A.2.2.2.1),A.2.2.2.2.1),0))))
def at0(x:bZ×Int):M Bool:=
 aq (yX (x.2,0,cD (aQ x.1.1) 1)) λy=>mpure y
def acG(x:bZ×Int×Int):M Bool:=
 aq (yX (x.2.1,0,cD (aQ x.1.2.1) 1)) λy=>ag (y=true->(y=true/\y=true)/\(0<=x.2.1/\x.2.1<aQ x.1.2.1)/\True) (b_ y (yX (x.2.2,0,cD (aQ (bz x.1.2.1 x.2.1 [])) 1)) false (λcg=>mpure (y&&cg)))
def To(x:Option xy×Int×Int×Int):M Int:=
 letI i:=(x.1.getD (([],[],0,[]),[])).2;cm (ag x.1.isSome (bS x.2.1 i (dG (λA=>letI l:=A.2.2;letI h:=l.2.2;letI k:=h.2.2.2.1;bo (k<h.2.2.1) (cm (bS k h.2.1 (ag A.1.isSome (aq (acD ((A.1.getD (([],[],0,[]),[])).1,A.2.1,bz h.2.1 k 0,l.1,l.2.1)) (λy=>bg y (bc (A.1,A.2.1,l.1,l.2.1,a8 h.1,h.2.1,h.2.2.1,k,())) (bc (A.1,A.2.1,l.1,l.2.1,h.1,h.2.1,h.2.2.1,k,())))))) (λA=>letI m:=A.2.2.2;bc (A.1,A.2.1,A.2.2.1,m.1,m.2.1,m.2.2.1,m.2.2.2.1,a8 m.2.2.2.2.1,()))) (bY (A.1,A.2.1,h.1,()))) (x.1,x.2.1,x.2.2.1,x.2.2.2,0,bz i x.2.1 [],aQ (bz i x.2.1 []),0,())))) λA=>letI j:=(A.1.getD (([],[],0,[]),[])).2;ag A.1.isSome (bS A.2.1 j (aq (atY (A.2.2.1,aQ (bz j A.2.1 []))) (λy=>mpure y)))
def at1(x:z1'):M Bool:=
 bK (λA=>fO A.2.1 A.1 (bS (cD A.2.1 1) A.1 (bo (bz A.1 A.2.1 0<=bz A.1 (cD A.2.1 1) 0) (cS false) (bc (A.1,a8 A.2.1,())))) (bY ())) (x,1,()) λA=>h0
def at2(x:z16'):M Bool:=
 mpure (ht x.2.1 x.1&&ht x.1 x.2.2)
def acH(x:z30'):M Bool:=
 aq (Me x.1) λy=>b_ y (Me x.2.1) false λcg=>b_ (y&&cg) (acE x.2.2) false λei=>mpure (y&&cg&&ei)
def acI(x:Int):M Bool:=
 aq (yX (x,0,9)) λy=>mpure y
def at3(x:z12'):M Bool:=
 aq (yX (x.1,0,x.2)) λy=>mpure (y&&ht x.2 999)
def acJ(x:z18'):M Bool:=
 aq (Me x.1) λy=>letI b:=y&&ht (aQ x.2.1) 4;b_ b (atP (x.2.1,Me)) false λcg=>b_ (b&&cg) (atN x.2.1) false λei=>b_ (b&&cg&&ei) (acE x.2.2) false λhv=>mpure (b&&cg&&ei&&hv)
def acK(x:List (z18')×Option (z18'->M Bool)):M Bool:=
 letI b:=decide (aQ x.1<=4);b_ b (atZ (x.1,x.2.getD λx=>{ fm:=False,a7:=λx=>False })) false λy=>mpure (b&&y)
def acL(x:(z30')×Option bZ):M Bool:=
 letI b:=x.2.getD ([],[],0,[]);aq (Mc (b,x.1.1)) λy=>b_ y (acB (b,x.1.2.1,x.1.2.2.1)) false λcg=>b_ (y&&cg) (yX (x.1.2.2.2,0,1)) false λei=>mpure (y&&cg&&ei)
def acM(x:(Int×Int×Int×Int)×Option Int×Option bZ×Option Int):M Bool:=
 letI h:=eH x.1.1 (x.2.1.getD 0);letI g:=acD (x.2.2.1.getD ([],[],0,[]),x.2.1.getD 0,x.2.2.2.getD 0,x.1.2.1,x.1.2.2.1);letI f:=(!h)=true;letI i:=f->f/\True/\True;ag i (ag i (ag (f->(f/\f/\f/\f/\f/\True)/\g.fm/\True) (ag i (ag (f->(f/\True)/\True/\True) (ag (f->(f/\f)/\True/\True) (ag (True/\(h=false->f)) (mpure (h||b3 (mZ g) (b3 x.1.2.2.2 1)))))))))
def acN(x:bZ×Int×Int×Int×Int):M Bool:=
 letI h:=bz x.1.2.1 x.2.2.2.1 [];letI g:=bz x.1.1 x.2.1 (0,0,0,0);letI f:=bz h x.2.2.2.2 (0,[],0,0);letI i:=b3 g.1 f.1;bS x.2.1 x.1.1 (bS x.2.2.2.1 x.1.2.1 (bS x.2.2.2.2 h (b_ i (Bq (f.2.1,g.2.1)) false (λy=>b_ (i&&y) (yX (x.2.2.1,f.2.2.1,e0 f.2.2.2 x.1.2.2.1)) false λcg=>mpure (i&&y&&cg)))))
def acO(x:z12'):M Int:=
 bo (x.1=x.2) (mpure 1) (bo (x.1=0) (mpure 2) (mpure 3))
end Go.Fer
namespace Go.Fer
variable (aMW:z11'->M Bool) (aMX:Unit->M Bool) (aMY:z11'->M (z12')) (aMZ:z11'->M (z19')) (aM0:bZ×Unit->M (Int×z3'×z3'×List (List (Int×z1'×Int×Int))×Unit)) (L':z19'->M Bool) (aM1:z11'->M bZ) (atG:bZ×z1'×z4'->M Bool) (acq:bZ×Int->M Bool) (aM2:bZ×z1'×z4'->M (z12')) (acr:bZ×Int×Int->M Bool) (aM3:z1'×z1'->M Bool) (acP:z11'->M Bool) (DX:z11'->M Int) (atD:z11'->M (z12')) (aM4 aM5:z11'->M (z19')) (aM6 aM7:bZ×z1'->M Bool) (aM8:z1'×z1'->M Bool) (acs:z1'->M Bool) (Ma:z11'->M Int) (Mf aM9:bZ×Int->M (z17')) (Mg at4:bZ×Int×Int×Int->M (z12')) (aM_:bZ×bZ->M Bool) (aM' aNa:bZ×z1'×Int->M (z12')) (aNb:bZ×z1'->M Bool) (aNc:bZ×Int×Int×Int->M Bool) (atE:bZ×Int×Int->M Bool) (aNd:z28'->M Bool) (atF:bZ×Int×Int×Int×Int->M Bool) (aNe:bZ×z1'×z4'->M (z12')) (aNf aNg:bZ×z1'×z4'->M (z19')) (aNh:bZ×z1'×z4'×z1'->M Int) (aNi:z4'×z1'->M Bool) (aNj:bZ×z1'×z4'×z1'->M Int) (aNk:bZ×(z1'×z4')×z1'->M Int) (Tb:z11'->M Int) (at5:Unit->M bZ) (aNl:Unit->M (z4'))
def Tp(x:z11'):M Bool:=
 if c' (aQ x.1) 40||c' (aQ x.2.1) 40||c' (aQ x.2.2.2) 60 then h0 else bK (λA=>iA A.1 A.2.1.2.1 (cm (bS A.1 A.2.1.2.1 (bo (aQ (bz A.2.1.2.1 A.1 []) > 20) (iO (cS true)) (dG (λA=>letI j:=A.2.2.1;letI h:=bz j.2.1 A.1 [];bS A.1 j.2.1 (iA A.2.1 h (bS A.1 j.2.1 (bS A.2.1 h (bo (aQ (bz h A.2.1 (0,[],0,0)).2.1 > 20) (iO (iO (cS true))) (bc (A.1,a8 A.2.1,j,()))))) (bY (A.1,j,())))) (A.1,0,A.2.1,())))) (λA=>bc (a8 A.1,A.2.1,()))) (bY (A.2.1,()))) (0,x,()) λA=>aq (Ma A.1) λy=>bo (y≠0) gp (bK (λA=>letI i:=(bz A.2.1.1 A.1 (0,0,0,0)).2.2;fO A.1 A.2.1.1 (bS A.1 A.2.1.1 (bo (cD i.2 i.1>=50) (cS true) (bc (a8 A.1,A.2.1,())))) (bY (A.2.1,()))) (0,A.1,()) (λA=>mpure (c' (aQ A.1.1) 6||c' (aQ A.1.2.1) 4||c' (aQ A.1.2.2.2) 10)))
end Go.Fer
