/- Part 4 of the proof of TopPlanned: shallow programs of Go functions, and what they compute. No condition. -/
import Derived.Test.YtjjgkigajpocoaaGreatDoorTopPlannedC
import Derived.RangeFuncIn
import Derived.RangeFuncRecord
import Derived.RangeFuncBound
import Derived.Scope
import Derived.RangeFuncLeaves
import Derived.OpenShut
import Derived.WideKeyArgs
import Derived.ChangeSame
import Derived.Test.YtjjgkigajpocoaaGreatDoorProg
import Derived.KernelRfl
noncomputable section
set_option linter.unusedVariables false
set_option linter.unusedSimpArgs false
namespace Go.Fer
open Go.RowKit
section
variable {C:cH} {T:Nat->V} {br:Nat->Option aO} {Psi:Nat->Option gp} {s:aB} {o:Oper} {Q:Exit->Act->World->Prop} {ops:Array Oper}
theorem aq2{ag:Type}{m:M ag}(h:m.Gy){d x:ag}(al:m.a_ x):x=m.val d:=by
 unfold M.val;have he:∃ x,m.a_ x:=⟨x,al⟩
 rw[dif_pos he];exact h _ _ al he.choose_spec
theorem aaA(dn:lK C.P br)(dG:pz C.P C.aX Psi):lK C.P (K1 br Psi):=by
 intro k c h;unfold K1 at h;split at h
 ·rename_i dJ R0;split at h
  ·rename_i ax;cases h;simp only[amm,aPO]at ax;have h:=dG k _ R0;obtain⟨E,L⟩:hA C.P k dJ.ts dJ.aS dJ.sh/\(dJ.KX=true->∀ x,(dJ.sh x).Gy):=h;exact⟨λ_=>E.va λx az=>⟨az,λy ba=>aq2 (L ax.1 x) ba⟩,λhe=>by rw[show p_ dJ.KY.aS=p_ dJ.aS from rfl,ax.2]at he;cases he⟩
  grind
 ·rename_i gl hc;cases h;have h:p_ c.aS=true/\Gd C.P k c:=dG k _ hc;exact⟨λhe=>(by rw[h.1]at he;cases he),λ_=>h.2⟩
 ·cases h
 ·exact dn k c h
variable {bet:Type}
theorem LG{m:M bet}{O:bet->Prop}:∀ (l:List Prop),c' (yC l m) O->(∀ p∈l,p)/\c' m O:=by
 intro l;induction l with
 | nil=>intro h;exact⟨λp ai=>(by grind),h⟩
 | cons p l aP=>
  intro h;simp  [yC]at h;rw[h5]at h;grind
theorem aaB{cU cO:Bool}{cy c:Prop}(E:cU=true->cy)(L:cO=true->c)(h:∀ p∈Gu cU cO cy c,p):cy/\c:=by
 unfold Gu at h;constructor
 ·cases cU<;>simp_all
 ·cases cO<;>simp_all
variable {a:Act}{w:World}
theorem aq3(aU:eg C.P T)(dn:lK C.P br)(ax:mV o C.bZ=true){r:eU}(h:vt C.aX T br ops s o=some r)(hc:∀ p∈r.cs,p)(D:dd C s a w){K:Act->World->Prop}
  (kC:∀ a' w',dd C (r.jT s) a' w'->K a' w') :
  if Region.wanted o (yielded ops a.tmps) then o.wpIn (eY C.r) 0 C.P a w K Q else (∀ f,o.about C.P w a.eval=some f->(eY C.r).fn f)/\K (a.put o.dst undef) w:=by
 have bo:∀ i,o.dst=some i->i<C.bZ:=λi G=>by
  have:=ax;simp  [mV]at this;grind
 obtain⟨kap,F,gW⟩:=D;unfold vt at h;split at h
 ·grind
 ·rename_i g aD;rw[Ly gW aD];split at h
  ·grind
  ·rename_i res gT;split at h
   ·cases h;obtain⟨E,L⟩:=aaB (λU=>(Zu U).run s.aa res gT) (λU=>(Gs U).run s.aa res gT) hc;exact Oper.wpIn_mono kC (C_ aU dn ax gT a w kap F Q gW E L)
   ·rename_i b;split at h
    ·rename_i yJ;cases h;have hc:∀ p∈Gu (uh (bh C.aX s.aA) o&&(vs (bh C.aX s.aA) o&&!res.hn.C7)) true (b=true->res.cy/\(res.c/\(use res.hn).1)) True,p:=hc;obtain⟨E,_⟩:=aaB (λU=>by
      simp  at U;exact λ_=>⟨(Zu U.1).run s.aa _ gT,(Gs U.2.1).run s.aa _ gT,KE U.2.2⟩) (λ_=>trivial) hc
     obtain⟨cy,c,hn,jC⟩:=res;subst yJ;cases b with
     | true=>
      obtain⟨E,L,an⟩:=E rfl;refine Oper.wpIn_mono (λa' w' bk=>kC a' w' ?_) (C_ aU dn ax gT a w kap F Q gW E L);exact dd.Rv   bk bo λkap F v af=>⟨λ_=>qW af an,λh=>(by grind)⟩
     | false=>
      exact⟨λ_ _=>trivial,kC _ _ ⟨kap,F,gW.set   bo ⟨λh=>(by grind),λ_=>rfl⟩⟩⟩
    grind
theorem aaC(cl:List (List Nat)):∀ n,Dl cl n<=n/\∀ j,Dl cl n<=j->j<n->∀ i,i<j->i∈cl.getD j []
 | 0=>⟨amn _,λj _ h=>by omega⟩
 | n+1=>by
  unfold Dl;split
  ·obtain⟨E,L⟩:=aaC cl n;refine⟨by omega,λj aK R8 i G=>?_⟩;by_cases e:j=n
   ·simp_all
   grind
  grind
variable {n:Nat}
theorem aq4(re:Db ops.toList=true)(R9:∀ j,n<=j->j<ops.size->∀ i,i<j->i∈(jF ops.toList).getD j []):∀ (k j cZ:Nat) (listed:Array Bool) (a:Act) (w:World),n<=j->j+k=ops.size->listed.size=ops.size->
  (∀ i,listed.getD i false=decide (i<j))->k<=cZ->wpOpsIn (eY C.r) 0 C.P ops Q (List.range' j k) a w->wpAnyIn (eY C.r) 0 C.P .any ops Q cZ listed a w:=by
 intro k;induction k with
 | zero=>
  intro j cZ listed a w aq5 aq6 cN ah ay h;have D:∀ i,i ∉ Region.ready .any ops listed:=λi G=>by
   rw[mem_ready]at G;grind
  have iW:=List.eq_nil_iff_forall_not_mem.2 D;cases cZ with
  | zero=>exact⟨iW,h⟩
  | succ cZ=>exact⟨λ_=>h,λi G=>absurd G (D i)⟩
 | succ k aP=>
  intro j cZ listed a w aq5 aq6 cN ah ay h;have aK:j<ops.size:=by omega
  cases cZ with
  | zero=>omega
  | succ cZ=>
   have xq:∀ q o,ops[q]?=some o->listed.getD q false=true->∀ i∈lM o,listed.getD i false=true:=λq o au bB i G=>by
    have:=List.all_eq_true.1 re q (by grind);grind
   have LH:∀ i,i∈Region.ready .any ops listed<->i=j:=λi=>by
    constructor
    ·intro G;rw[mem_ready]at G;obtain⟨aW,o,au,G8⟩:=G;by_cases e:i=j
     ·omega
     ·have yK:∀ k∈lM o,listed.getD k false=true:=by
       intro k ak;obtain⟨e,he,uz⟩:=List.mem_filterMap.1 ak;grind
      have Dw:∀ k∈(jF ops.toList).getD i [],listed.getD k false=true\/k=i:=by
       intro k ak;refine Dd (p:=λj=>listed.getD j false=true\/j=i) ops.toList [] (λj i G=>by grind) (λj f_ hR k ak aK=>?_) i k ak (.inr rfl);grind
      grind
    ·rintro rfl;rw[mem_ready];refine⟨?_,ops[i],by simp,λe he U=>?_⟩
     ·grind
     ·have bf:e.on∈lM ops[i]:=List.mem_filterMap.2 ⟨e,by grind,by grind⟩;have:=List.all_eq_true.1 re i (by grind);grind
   refine⟨λD=>?_,λi G=>?_⟩
   ·simp_all
   ·obtain rfl:=(LH i).1 G;have f':ops[i]?=some ops[i]:=by simp
    rw[aRn]at h;simp  [wpOpsIn,f']at h;have next:∀ a w,wpOpsIn (eY C.r) 0 C.P ops Q (List.range' (i+1) k) a w->wpAnyIn (eY C.r) 0 C.P .any ops Q cZ (listed.setIfInBounds i true) a w:=λa w dh=>by
     refine aP (i+1) cZ _ a w (by omega) (by omega) (by grind) (λq=>?_) (by omega) dh;by_cases e:q=i
     ·simp_all
     ·rw[getD_set_ne false (Ne.symm e),ah,decide_eq_decide];omega
    unfold wpOpIn;rw[f'];simp;split
    ·rename_i hw;rw[if_pos hw]at h;exact Oper.wpIn_mono next h
    grind
def LI(n:Nat)(l b e x:Bool)(listed:Array Bool):Prop:=∀ i,listed.getD i false=(decide (i<n)||(l&&decide (i=n))||(b&&decide (i=n+1))||(e&&decide (i=n+2))||(x&&decide (i=n+3)))
def oS(a:Act)(e_ hq d1 d2:Nat)(u vB vE vX:Value)(l b e x:Bool):Act:=
 let cr:=if l=true then a.put (some e_) u else a
 let b4:=if b=true then cr.put (some hq) vB else cr
 let eh:=if e=true then b4.put (some d1) vE else b4
 if x=true then eh.put (some d2) vX else eh
theorem aq7(a:Act)(d:Option Nat)(v:Value):(a.put d v).tmps.size=a.tmps.size:=by cases d<;>simp[Act.put]
theorem aq8(a:Act)(e_ hq d1 d2:Nat)(u vB vE vX:Value)(l b e x:Bool):(oS a e_ hq d1 d2 u vB vE vX l b e x).tmps.size=a.tmps.size:=by
 unfold oS;cases l<;>cases b<;>cases e<;>cases x<;>simp[aq7]
theorem aaD{e_ hq d1 d2:Nat}{u vB vE vX:Value}{l b e x:Bool}{y:Operand}(E:y≠.tmp e_)(L:y≠.tmp hq)(an:y≠.tmp d1)(a6:y≠.tmp d2):(oS a e_ hq d1 d2 u vB vE vX l b e x).eval y=a.eval y:=by
 unfold oS;cases l<;>cases b<;>cases e<;>cases x<;>simp[Du,E,L,an,a6]
theorem G9{o:Oper}{w':World}{K:Act->World->Prop}{v:Value}(ax:∀ c,o.op≠.defer c)(h:(execOp a.eval o).run C.P w=.ok (.value v) w')(ak:o.wpIn (eY C.r) 0 C.P a w K Q):K (a.put o.dst v) w':=by
 have:=ak.2;rw[CS ax,h]at this;exact this
theorem aq9(aaE:ops.size=n+5)(re:Db ops.toList=true){ia kk jH kA ob:Oper}(Ba:ops[n]?=some ia)(Bb:ops[n+1]?=some kk)(Dx:ops[n+2]?=some jH)(G_:ops[n+3]?=some kA)(G':ops[n+4]?=some ob)
  (Ha:ia.guard=none) (Hb:kk.guard=none) (LJ:jH.guard=none) (LK:kA.guard=none) (LL:ob.guard=none) (Hc:∀ c,ia.op≠.defer c) (LM:∀ c,kk.op≠.defer c) (LN:∀ c,jH.op≠.defer c) (LO:∀ c,kA.op≠.defer c)
  (hQ:∀ q,q<5->∀ i,i<n->i∈(jF ops.toList).getD (n+q) []) (R_:n∈(jF ops.toList).getD (n+1) []) (aaF:n+2∈(jF ops.toList).getD (n+3) []) (Dy:∀ q,q<4->n+q∈(jF ops.toList).getD (n+4) [])
  (aaG:∀ i∈lM jH,i<n) (aaH:∀ i∈lM kA,i<n\/i=n+2)
  {e_ hq d1 d2:Nat} (vD:ia.dst=some e_) (dY:kk.dst=some hq) (Hd:jH.dst=some d1) (LP:kA.dst=some d2) (_n1:e_≠hq) (eG:e_≠d1) (lk:e_≠d2) (n4:hq≠d1) (He:hq≠d2)
  {a:Act} {w wE:World} {u vB vE vX:Value}
  (aaI:∀ b e x,(execOp (oS a e_ hq d1 d2 u vB vE vX false b e x).eval ia).run C.P (if e=true then wE else w)=.ok (.value u) (if e=true then wE else w))
  (aaJ:∀ e x,(execOp (oS a e_ hq d1 d2 u vB vE vX true false e x).eval kk).run C.P (if e=true then wE else w)=.ok (.value vB) (if e=true then wE else w))
  (aaK:∀ l b x,(execOp (oS a e_ hq d1 d2 u vB vE vX l b false x).eval jH).run C.P w=.ok (.value vE) wE)
  (aaL:∀ l b,(execOp (oS a e_ hq d1 d2 u vB vE vX l b true false).eval kA).run C.P wE=.ok (.value vX) wE)
  (h:wpOpsIn (eY C.r) 0 C.P ops Q (List.range' n 5) a w):∀ (cZ:Nat) (listed:Array Bool),listed.size=ops.size->(∀ i,listed.getD i false=decide (i<n))->5<=cZ->wpAnyIn (eY C.r) 0 C.P .any ops Q cZ listed a w:=by
 let aI:=oS a e_ hq d1 d2 u vB vE vX;let W:=λe:Bool=>if e=true then wE else w
 have wt:∀ {o:Oper},o.guard=none->∀ a':Act,Region.wanted o (yielded ops a'.tmps)=true:=λh a'=>by unfold Region.wanted;rw[h]
 have uA:ob.wpIn (eY C.r) 0 C.P (aI true true true true) wE (λa' w'=>Q .normal a' w') Q:=by
  have ey:List.range' n 5=[n,n+1,n+2,n+3,n+4]:=rfl;rw[ey]at h;simp only[wpOpsIn,Ba,Bb,Dx,G_,G',wt Ha,wt Hb,wt LJ,wt LK,wt LL,if_true]at h;have E:=G9 (a:=aI false false false false) (w:=w) Hc (aaI false false false) h;rw[vD]at E;have L:=G9 (a:=aI true false false false) (w:=w) LM (aaJ false false) E;rw[dY]at L;have an:=G9 (a:=aI true true false false) (w:=w) LN (aaK true true false) L;rw[Hd]at an;have a6:=G9 (a:=aI true true true false) (w:=wE) LO (aaL true true) an;rw[LP]at a6;exact a6
 have aq_:∀ {l b e x:Bool} {listed:Array Bool},LI n l b e x listed->(b=true->l=true)->(x=true->e=true)->∀ q o,ops[q]?=some o->listed.getD q false=true->∀ i∈lM o,listed.getD i false=true:=by
  intro l b e x listed bp U al q o au bB i G;have aq':q<ops.size:=(Array.getElem?_eq_some_iff.1 au).1;have aL0:i<q:=by
   have:=List.all_eq_true.1 re q (by grind);grind
  rw[bp]at bB ⊢;grind
 have aL1:∀ {listed:Array Bool} {i:Nat},listed.size=ops.size->i<ops.size->(listed[i]?.getD true=false<->listed.getD i false=false):=by
  intro listed i cN G;rw[aPI,aQz (by omega)];rfl
 have ara:∀ {l b e x:Bool} {listed:Array Bool},LI n l b e x listed->(b=true->l=true)->(x=true->e=true)->listed.size=ops.size->∀ i∈Region.ready .any ops listed,(i=n/\l=false)\/(i=n+1/\l=true/\b=false)\/(i=n+2/\e=false)\/(i=n+3/\e=true/\x=false)\/(i=n+4/\l=true/\b=true/\e=true/\x=true):=by
  intro l b e x listed bp U al cN i G;have xq:=aq_ bp U al;rw[mem_ready]at G;obtain⟨aW,o,au,G8⟩:=G;have bf:i<ops.size:=(Array.getElem?_eq_some_iff.1 au).1;have aW:listed.getD i false=false:=by
   grind
  have yK:∀ k∈lM o,listed.getD k false=true:=by
   intro k ak;obtain⟨e,he,uz⟩:=List.mem_filterMap.1 ak;split at uz
   ·rename_i U;cases uz;grind
   grind
  have Dw:∀ k∈(jF ops.toList).getD i [],listed.getD k false=true\/k=i:=by
   intro k ak;refine Dd (p:=λj=>listed.getD j false=true\/j=i) ops.toList [] (λj i G=>by simp at G) (λj f_ hR k ak aK=>?_) i k ak (.inr rfl);have qn:ops[j]?=some f_:=by grind
   rcases (by simpa using aK:listed.getD j false=true\/j=i) with aK | aK
   ·exact .inl (xq j f_ qn aK k ak)
   ·subst aK;rw[au]at qn;cases qn;exact .inl (yK k ak)
  rw[bp]at aW;simp only[aQo,Bool.and_eq_false_iff,aPX]at aW;obtain⟨⟨⟨⟨iC,aM⟩,aT⟩,b5⟩,hC⟩:=aW;have bw:n<=i:=by omega
  have arb:i=n\/i=n+1\/i=n+2\/i=n+3\/i=n+4:=by omega
  have flag:∀ q,q<4->n+q∈(jF ops.toList).getD i []->n+q≠i->(if q=0 then l else if q=1 then b else if q=2 then e else x)=true:=by
   intro q bB hm eM;rcases Dw _ hm with h | h
   ·rw[bp]at h;simp only[aPU,amm,amp]at h;rcases h with (((h | ⟨E,h⟩) | ⟨E,h⟩) | ⟨E,h⟩) | ⟨E,h⟩
    ·omega
    ·grind
    ·have:q=1:=by omega
     subst this;exact E
    ·have:q=2:=by omega
     subst this;exact E
    ·have:q=3:=by omega
     subst this;exact E
   omega
  rcases arb with rfl | rfl | rfl | rfl | rfl
  ·grind
  ·exact .inr (.inl ⟨rfl,flag 0 (by omega) R_ (by omega),by grind⟩)
  ·grind
  ·grind
  ·exact .inr (.inr (.inr (.inr ⟨rfl,flag 0 (by omega) (Dy 0 (by omega)) (by omega),flag 1 (by omega) (Dy 1 (by omega)) (by omega),flag 2 (by omega) (Dy 2 (by omega)) (by omega),flag 3 (by omega) (Dy 3 (by omega)) (by omega)⟩)))
 have arc:∀ {l b e x:Bool} {listed:Array Bool},LI n l b e x listed->(b=true->l=true)->(x=true->e=true)->listed.size=ops.size->Region.ready .any ops listed≠[]:=by
  intro l b e x listed bp U al cN ub;have mk:∀ i o,ops[i]?=some o->listed.getD i false=false->(∀ k∈lM o,listed.getD k false=true)->False:=by
   intro i o au aW ax;have bf:i<ops.size:=(Array.getElem?_eq_some_iff.1 au).1;have:i∈Region.ready .any ops listed:=by
    rw[mem_ready];refine⟨?_,o,au,λe he U=>ax e.on (List.mem_filterMap.2 ⟨e,by grind,by grind⟩)⟩;grind
   grind
  have lt:∀ q o,ops[q]?=some o->∀ i∈lM o,i<q:=by
   intro q o au i G;have aq':q<ops.size:=(Array.getElem?_eq_some_iff.1 au).1;have:=List.all_eq_true.1 re q (by grind);rw[show ops.toList[q]?=some o by grind]at this;have:=List.all_eq_true.1 this i G;grind
  cases l with
  | false=>
   have sO:b=false:=by grind
   subst sO;exact mk n ia Ba (by rw[bp];simp) λk ak=>by rw[bp];grind
  | true=>
   cases b with
   | false=>exact mk (n+1) kk Bb (by rw[bp];simp) λk ak=>by rw[bp];grind
   | true=>
    cases e with
    | false=>
     have R':x=false:=by grind
     subst R';exact mk (n+2) jH Dx (by rw[bp];simp) λk ak=>by rw[bp];grind
    | true=>
     cases x with
     | false=>exact mk (n+3) kA G_ (by rw[bp];simp) λk ak=>by rw[bp];grind
     | true=>exact mk (n+4) ob G' (by rw[bp];simp) λk ak=>by rw[bp];grind
 have Hf:∀ {listed:Array Bool} (i:Nat),listed.size=ops.size->i<ops.size->∀ q,(listed.setIfInBounds i true).getD q false=(listed.getD q false||decide (q=i)):=by
  intro listed i cN G q;by_cases e:q=i
  ·grind
  grind
 let cu:=λ(l b e x:Bool)=>∀ (cZ:Nat) (listed:Array Bool),LI n l b e x listed->listed.size=ops.size->5<=cZ+(l.toNat+b.toNat+e.toNat+x.toNat)->wpAnyIn (eY C.r) 0 C.P .any ops Q cZ listed (aI l b e x) (W e);have step:∀ l b e x,(b=true->l=true)->(x=true->e=true)->(l=false->cu true b e x)->(l=true->b=false->cu l true e x)->(e=false->cu l b true x)->(e=true->x=false->cu l b e true)->cu l b e x:=by
  intro l b e x U al s1 s2 fh mZ cZ listed bp cN sY;have aL2:l.toNat<=1/\b.toNat<=1/\e.toNat<=1/\x.toNat<=1:=⟨Bool.toNat_le l,Bool.toNat_le b,Bool.toNat_le e,Bool.toNat_le x⟩
  cases cZ with
  | zero=>omega
  | succ cZ=>
   refine⟨λD=>absurd D (arc bp U al cN),λi G=>?_⟩;rcases ara bp U al cN i G with⟨rfl,E⟩ | ⟨rfl,E,L⟩ | ⟨rfl,E⟩ | ⟨rfl,E,L⟩ | ⟨rfl,E,L,an,a6⟩
   ·subst E;have sO:b=false:=by grind
    subst sO;unfold wpOpIn;simp only[Ba,wt Ha,if_true];refine h7 Hc (aaI false e x) ?_;rw[vD];have FX:(aI false false e x).put (some e_) u=aI true false e x:=by
     simp only[aI,oS];cases e<;>cases x<;>simp[LB _ eG.symm,LB _ lk.symm]
    show wpAnyIn _ _ _ _ _ _ _ _ ((aI false false e x).put (some e_) u) (W e);rw[FX];refine s1 rfl cZ _ (λq=>?_) (by grind) (by grind);rw[Hf i cN (by omega),bp];by_cases bB:q=i<;>simp[bB]
   ·subst E;subst L;unfold wpOpIn;simp only[Bb,wt Hb,if_true];refine h7 LM (aaJ e x) ?_;rw[dY];have FX:(aI true false e x).put (some hq) vB=aI true true e x:=by
     simp only[aI,oS];cases e<;>cases x<;>simp[LB _ n4.symm,LB _ He.symm]
    show wpAnyIn _ _ _ _ _ _ _ _ ((aI true false e x).put (some hq) vB) (W e);rw[FX];refine s2 rfl rfl cZ _ (λq=>?_) (by grind) (by grind);rw[Hf (n+1) cN (by omega),bp];by_cases bB:q=n+1<;>simp[bB]
   ·subst E;have R':x=false:=by grind
    subst R';unfold wpOpIn;simp only[Dx,wt LJ,if_true];refine h7 LN (aaK l b false) ?_;rw[Hd];show wpAnyIn _ _ _ _ _ _ _ _ (aI l b true false) (W true);refine fh rfl cZ _ (λq=>?_) (by grind) (by grind);rw[Hf (n+2) cN (by omega),bp];simp
   ·subst E;subst L;unfold wpOpIn;simp only[G_,wt LK,if_true];refine h7 LO (aaL l b) ?_;rw[LP];show wpAnyIn _ _ _ _ _ _ _ _ (aI l b true true) (W true);refine mZ rfl rfl cZ _ (λq=>?_) (by grind) (by grind);rw[Hf (n+3) cN (by omega),bp];simp
   ·subst E;subst L;subst an;subst a6;unfold wpOpIn;simp only[G',wt LL,if_true];refine Oper.wpIn_mono (λa' w' bB=>?_) uA;have gu:∀ i,(listed.setIfInBounds (n+4) true).getD i false=decide (i<n+5):=λi=>by
     rw[Hf (n+4) cN (by omega),bp,Bool.eq_iff_iff];simp only[aPU,amm,amp,aRs];omega
    have D:∀ i,i ∉ Region.ready .any ops (listed.setIfInBounds (n+4) true):=λi G=>by
     rw[mem_ready]at G;obtain⟨aW,o,au,_⟩:=G;grind
    have iW:Region.ready .any ops (listed.setIfInBounds (n+4) true)=[]:=List.eq_nil_iff_forall_not_mem.2 D;cases cZ with
    | zero=>exact⟨iW,bB⟩
    | succ cZ=>exact⟨λ_=>bB,λi G=>absurd G (D i)⟩
 have f:∀ {p:Prop},(true:Bool)=false->p:=λh=>by cases h
 have kv:∀ {p:Prop},(false:Bool)=true->p:=λh=>by cases h
 have aaM:cu true true true true:=step _ _ _ _ (λ_=>rfl) (λ_=>rfl) f (λ_=>f) f (λ_=>f);have aaN:cu true true true false:=step _ _ _ _ (λ_=>rfl) (λ_=>rfl) f (λ_=>f) f (λ_ _=>aaM);have ard:cu true true false false:=step _ _ _ _ (λ_=>rfl) kv f (λ_=>f) (λ_=>aaN) kv;have aaO:cu true false true true:=step _ _ _ _ (λ_=>rfl) (λ_=>rfl) f (λ_ _=>aaM) f (λ_=>f);have aaP:cu true false true false:=step _ _ _ _ (λ_=>rfl) (λ_=>rfl) f (λ_ _=>aaN) f (λ_ _=>aaO);have are:cu true false false false:=step _ _ _ _ (λ_=>rfl) kv f (λ_ _=>ard) (λ_=>aaP) kv;have arf:cu false false true true:=step _ _ _ _ kv (λ_=>rfl) (λ_=>aaO) kv f (λ_=>f);have arh:cu false false true false:=step _ _ _ _ kv (λ_=>rfl) (λ_=>aaP) kv f (λ_ _=>arf);have ari:cu false false false false:=step _ _ _ _ kv kv (λ_=>are) kv (λ_=>arh) kv;intro cZ listed cN ah sY;exact ari cZ listed (λi=>by grind) cN (by omega)
theorem Sa{m:Nat}(aC:n<=ops.size)(aU:eg C.P T)(dn:lK C.P br)(ax:∀ o∈ops.toList,mV o C.bZ=true){l:List eU}{s':aB}(hlen:l.length=(ops.toList.take n).length)(vg:s'=jU l s)(aaQ:∀ i o,m<=i->(ops.toList.take n)[i]?=some o->∃ r,l[i]?=some r/\vt C.aX T br ops (jU (l.take i) s) o=some r)(b6:AH (ops.toList.take n) l=true)(R9:∀ j,n<=j->j<ops.size->∀ i,i<n->i∈(jF ops.toList).getD j [])
  (hc:∀ r∈l,∀ p∈r.cs,p) (qo:∀ (cZ:Nat) (listed:Array Bool) a' w',listed.size=ops.size->(∀ i,listed.getD i false=decide (i<n))->ops.size - n<=cZ->dd C s' a' w'->wpAnyIn (eY C.r) 0 C.P .any ops Q cZ listed a' w'):∀ (cZ:Nat) (listed:Array Bool) (a:Act) (w:World),listed.size=ops.size->
   (∀ j o,ops[j]?=some o->listed.getD j false=true->∀ i∈lM o,listed.getD i false=true)->(∀ i,n<=i->listed.getD i false=false)->(∀ i,i<m->listed.getD i false=true)->((List.range ops.size).filter λj=>!listed.getD j false).length<=cZ->
   dd C (mW l s λj=>listed.getD j false) a w->wpAnyIn (eY C.r) 0 C.P .any ops Q cZ listed a w:=by
 have Lx:(ops.toList.take n).length=n:=by grind
 have kn:∀ i,i<n->(ops.toList.take n)[i]?=ops[i]?:=λi G=>by
  grind
 simp only[AH,amm]at b6;obtain⟨re,Sb⟩:=b6;have aL3:∀ j o,j<n->ops[j]?=some o->∀ i∈lM o,i<j:=by
  intro j o R8 au i G;have:=List.all_eq_true.1 re j (by grind);grind
 have aL4:∀ i j x y,i<j->l[i]?=some x->l[j]?=some y->((jF (ops.toList.take n)).getD j []).contains i=true\/x.apart y=true:=by
  intro i j x y AF G aK;have Hg:j<l.length:=(List.getElem?_eq_some_iff.1 aK).1;have:=List.all_eq_true.1 Sb j (by grind);grind
 intro cZ;induction cZ with
 | zero=>
  intro listed a w cN _ h9 _ arj hrel;have gu:∀ i,listed.getD i false=decide (i<n):=λi=>by
   by_cases G:i<n
   ·cases ah:listed.getD i false with
    | true=>grind
    | false=>
     exfalso;have:i∈(List.range ops.size).filter λj=>!listed.getD j false:=by
      grind
     grind
   grind
  refine qo 0 listed a w cN gu ?_ ?_
  ·by_cases dv:n<ops.size
   ·have:n∈(List.range ops.size).filter λj=>!listed.getD j false:=by
     grind
    grind
   ·omega
  ·have:mW l s (λj=>listed.getD j false)=s':=by
    rw[vg];unfold mW;rw[List.filter_eq_self.2 λp ai=>?_,KP];obtain⟨_,L⟩:=AM ai;grind
   grind
 | succ cZ aP=>
  intro listed a w cN xq h9 sZ arj hrel;by_cases Sc:∀ i,i<n->listed.getD i false=true
  ·have gu:∀ i,listed.getD i false=decide (i<n):=λi=>by
    grind
   refine qo (cZ+1) listed a w cN gu ?_ ?_
   ·have E:(List.range' n (ops.size - n)).length<=((List.range ops.size).filter λj=>!listed.getD j false).length:=by
     have e:(List.range ops.size).filter (λj=>!listed.getD j false)=List.range' n (ops.size - n):=by
      have L:(List.range ops.size).filter (λj=>!listed.getD j false)=(List.range ops.size).filter λj=>decide (n<=j):=aQT λj _=>by
       grind
      rw[L];have an:List.range ops.size=List.range n++List.range' n (ops.size - n):=by
       rw[aQD,aQD];have:=(List.range'_append (s:=0) (m:=n) (n:=ops.size - n) (step:=1))
       grind
      rw[an,aQw,List.filter_eq_nil_iff.2 λj aK=>by grind,List.filter_eq_self.2 λj aK=>by grind];rfl
     grind
    grind
   ·have:mW l s (λj=>listed.getD j false)=s':=by
     rw[vg];unfold mW;rw[List.filter_eq_self.2 λp ai=>?_,KP];obtain⟨_,L⟩:=AM ai;grind
    grind
  ·refine⟨λD=>absurd ?_ Sc,λi G=>?_⟩
   ·intro j;induction j using Nat.strongRecOn with
    | _ j aL5=>
     intro aK;cases ah:listed.getD j false with
     | true=>rfl
     | false=>
      exfalso;have ps:j∈Region.ready .any ops listed:=by
       rw[mem_ready];refine⟨?_,ops[j],by simp,λe he U=>?_⟩
       ·grind
       ·have bf:e.on∈lM ops[j]:=List.mem_filterMap.2 ⟨e,by grind,by grind⟩;grind
      grind
   ·rw[mem_ready]at G;obtain⟨aW,o,au,G8⟩:=G;have bf:i<ops.size:=(Array.getElem?_eq_some_iff.1 au).1;have Dz:listed.getD i false=false:=by
     grind
    have ps:o∈ops.toList:=by
     grind
    have yK:∀ k∈lM o,listed.getD k false=true:=by
     intro k ak;obtain⟨e,he,uz⟩:=List.mem_filterMap.1 ak;split at uz
     ·rename_i U;cases uz;exact G8 e (by simpa using he) U
     ·cases uz
    have G:i<n:=by
     by_cases G:i<n
     ·exact G
     ·exfalso;have Dw:∀ k∈(jF ops.toList).getD i [],listed.getD k false=true\/k=i:=by
       intro k ak;refine Dd (p:=λj=>listed.getD j false=true\/j=i) ops.toList [] (λj i G=>by simp at G) (λj f_ hR k ak aK=>?_) i k ak (.inr rfl);have qn:ops[j]?=some f_:=by grind
       rcases (by simpa using aK:listed.getD j false=true\/j=i) with aK | aK
       ·exact .inl (xq j f_ qn aK k ak)
       ·subst aK;rw[au]at qn;cases qn;exact .inl (yK k ak)
      grind
    obtain⟨r,D,hr⟩:=aaQ i o (aRo λh=>by rw[sZ i h]at Dz;cases Dz) (by grind);have aL6:∀ j k,k∈(jF (ops.toList.take n)).getD j []->listed.getD j false=true->listed.getD k false=true:=by
     refine Dd (p:=λj=>listed.getD j false=true) (ops.toList.take n) [] (λj i G=>by simp at G) λj f_ hR k ak aK=>?_;have R8:j<n:=by grind
     exact xq j f_ (by grind) (by simpa using aK) k ak
    have Dw:∀ k∈(jF (ops.toList.take n)).getD i [],listed.getD k false=true\/k=i:=by
     intro k ak;refine Dd (p:=λj=>listed.getD j false=true\/j=i) (ops.toList.take n) [] (λj i G=>by simp at G) (λj f_ hR k ak aK=>?_) i k ak (.inr rfl);have R8:j<n:=by grind
     have qn:ops[j]?=some f_:=by grind
     rcases (by simpa using aK:listed.getD j false=true\/j=i) with aK | aK
     ·exact .inl (xq j f_ qn aK k ak)
     ·subst aK;rw[au]at qn;cases qn;exact .inl (yK k ak)
    have hQ:∀ j x,j<i->l[j]?=some x->listed.getD j false=false->x.apart r=true:=by
     grind
    have AN:∀ j x,i<j->l[j]?=some x->listed.getD j false=true->r.apart x=true:=by
     grind
    obtain⟨aM,aT,b5⟩:=apj (s:=s) (f:=λj=>listed.getD j false) D Dz hQ AN;have ark:=apm hr aM aT;unfold wpOpIn;rw[au];refine aq3 aU dn (ax o ps) ark (hc r (aQR D)) hrel λa' w' bk=>?_;have f':∀ j,(listed.setIfInBounds i true).getD j false=if j=i then true else listed.getD j false:=by
     intro j;by_cases e:j=i
     ·subst e;rw[if_pos rfl,aPI,Array.getElem?_setIfInBounds_self_of_lt (by omega)];rfl
     ·rw[if_neg e,getD_set_ne false (Ne.symm e)]
    refine aP _ a' w' (by grind) (λj f_ hR aK k ak=>?_) (λq bB=>by rw[f',if_neg (by omega)];grind) (λq bB=>by rw[f'];split;rfl;exact sZ q bB) ?_ ?_
    ·rw[f']at aK ⊢;split
     ·rfl
     ·split at aK
      ·rename_i e;subst e;rw[au]at hR;cases hR;exact yK k ak
      ·exact xq j f_ hR aK k ak
    ·have dv:((List.range ops.size).filter λj=>!(listed.setIfInBounds i true).getD j false).length<((List.range ops.size).filter λj=>!listed.getD j false).length:=by
      have aE:(List.range ops.size).filter (λj=>!(listed.setIfInBounds i true).getD j false)=((List.range ops.size).filter λj=>!listed.getD j false).filter λj=>decide (j≠i):=by
       rw[List.filter_filter];apply aQT;intro j _;rw[f'];simp
      rw[aE];have arl:i∈(List.range ops.size).filter λj=>!listed.getD j false:=by
       grind
      exact List.length_filter_lt_length_iff_exists.2 ⟨i,arl,by simp⟩
     omega
    ·have:mW l s (λj=>(listed.setIfInBounds i true).getD j false)=r.jT (mW l s λj=>listed.getD j false):=by
      rw[<-b5];congr 1;funext j;grind
     grind
theorem aaR{listed:Array Bool}(cN:listed.size=ops.size)(gu:∀ i,listed.getD i false=decide (i<ops.size))(qo:Q .normal a w):∀ cZ,wpAnyIn (eY C.r) 0 C.P .any ops Q cZ listed a w:=by
 have h9:∀ i,i ∉ Region.ready .any ops listed:=λi G=>by
  rw[mem_ready]at G;obtain⟨aW,o,au,_⟩:=G;grind
 intro cZ;cases cZ with
 | zero=>exact⟨List.eq_nil_iff_forall_not_mem.2 h9,qo⟩
 | succ cZ=>exact⟨λ_=>qo,λi G=>absurd G (h9 i)⟩
theorem Sd{b:Bool}{p:Prop}{m:M bet}{O:bet->Prop}(h:c' (yA b p m) O):c' m O:=by
 cases b with
 | true=>exact h
 | false=>exact (h5.1 h).2
theorem arn{ia kk jH kA ob:Oper}(h:Ra ia kk jH kA ob=true):∃ ty m x LQ Se k c e_ hq d1 d2 lN y,ia.op=.lookup ty m x false/\kk.op=.binOp .add LQ (.tmp e_) (.const (.int k c)) Se/\jH.op=.mapEntry ty m x/\kA.op=.extract (.tmp d1) 1/\
  lN.op=.mapUpdate ty m x y/\Dj jH kA ob=some (lN,d1,d2)/\ia.dst=some e_/\kk.dst=some hq/\jH.dst=some d1/\kA.dst=some d2/\gM k c/\(e_≠hq/\e_≠d1/\e_≠d2/\hq≠d1/\hq≠d2/\d1≠d2)/\
  (m≠.tmp e_/\m≠.tmp hq/\m≠.tmp d1/\m≠.tmp d2)/\(x≠.tmp e_/\x≠.tmp hq/\x≠.tmp d1/\x≠.tmp d2)/\(∃ rb,m=.tmp rb)/\(∃ Sf,x=.tmp Sf)/\ia.guard=none/\kk.guard=none/\jH.guard=none/\kA.guard=none/\ob.guard=none:=by
 unfold Ra at h;split at h
 ·rename_i ty m x LQ t k c Se mQ dw eS kn a1 my;split at h
  ·rename_i e_ hq lN d1 d2 vD dY sY;simp only[amp]at h;obtain⟨rfl,rfl,bf,aE,bz,eA,eG,lk,n4,He,aaS,s1,s2,cr,b4,eh,gi,cT,fc,jf,u6,cU,cO⟩:=h;obtain⟨aL7,aL8,aL9,aL_,f1,f2,f3,f4,f5,f6,f7,f8,f9,f10,f11,f12,dt,ei,j2⟩:=aau sY;obtain⟨rb,xp⟩:=Option.isSome_iff_exists.1 s1;obtain⟨Sf,aaT⟩:=Option.isSome_iff_exists.1 s2;have em:=Dv xp;have ex:=Dv aaT;have aro:=Dv (aE.trans xp);have arp:=Dv (bz.trans aaT);rw[f1]at my;simp only[Op.mapEntry.injEq]at my;obtain⟨rfl,rfl,rfl⟩:=my;subst em;subst ex;subst aro;subst arp;refine⟨_,_,_,_,_,_,_,_,_,_,_,lN,_,kn,a1,f1,f3,f7,sY,vD,dY,f2,f4,bf,⟨eA,eG,lk,n4,He,aaS⟩,?_,?_,⟨_,rfl⟩,⟨_,rfl⟩,Option.isNone_iff_eq_none.1 cU,Option.isNone_iff_eq_none.1 cO,dt,ei,j2⟩
   ·simp only[j3,ne_eq,amo]at cr b4 eh gi;exact⟨λe=>cr (by cases e;rfl),λe=>b4 (by cases e;rfl),λe=>eh (by cases e;rfl),λe=>gi (by cases e;rfl)⟩
   ·simp only[j3,ne_eq,amo]at cT fc jf u6;exact⟨λe=>cT (by cases e;rfl),λe=>fc (by cases e;rfl),λe=>jf (by cases e;rfl),λe=>u6 (by cases e;rfl)⟩
  grind
 grind
theorem aaU(uu:Le ops.toList=true)(aC:n=ops.size - 5)(aU:eg C.P T)(dn:lK C.P br)(dG:pz C.P C.aX Psi)(ax:∀ o∈ops.toList,mV o C.bZ=true){k:aB->M bet}{O:bet->Prop}
  (ak:∀ s' a' w',dd C s' a' w'->c' (k s') O->Q .normal a' w') (hm:c' (oP C.aX T br Psi ops (ops.toList.drop n) [] s k) O) :
  (n<=ops.size/\∀ j,n<=j->j<ops.size->∀ i,i<n->i∈(jF ops.toList).getD j [])/\∀ (a:Act) (w:World),dd C s a w->∀ (cZ:Nat) (listed:Array Bool),listed.size=ops.size->(∀ i,listed.getD i false=decide (i<n))->ops.size - n<=cZ->wpAnyIn (eY C.r) 0 C.P .any ops Q cZ listed a w:=by
 unfold Le at uu;rw[show ops.toList.length - 5=n by grind]at uu;split at uu
 ·rename_i ia kk jH kA ob aaV;simp only[amm,aPZ,aQ9,List.contains_eq_mem,amp,aPU]at uu;obtain⟨arq,⟨⟨⟨⟨⟨re,hQ⟩,R_⟩,aaF⟩,Dy⟩,aaG⟩,aaH⟩:=uu;have aaE:ops.size=n+5:=by
   have:=congrArg List.length aaV;grind
  have Hh:∀ q (o:Oper),[ia,kk,jH,kA,ob][q]?=some o->ops[n+q]?=some o:=λq o h=>by
   grind
  have Ba:=Hh 0 ia rfl;have Bb:=Hh 1 kk rfl;have Dx:=Hh 2 jH rfl;have G_:=Hh 3 kA rfl;have G':=Hh 4 ob rfl;have mem:∀ {q o},ops[n+q]?=some o->o∈ops.toList:=λh=>by
   grind
  obtain⟨ty,m,x,LQ,Se,gE,c,e_,hq,d1,d2,lN,y,kn,a1,my,yG,iK,w2,vD,dY,Hd,LP,bf,⟨eA,eG,lk,n4,He,aaS⟩,⟨m1,m2,m3,m4⟩,⟨mw,qY,aaW,ars⟩,⟨rb,em⟩,⟨Sf,ex⟩,Ha,Hb,LJ,LK,LL⟩:=arn arq;have Hc:∀ c,ia.op≠.defer c:=by grind
  have LM:∀ c,kk.op≠.defer c:=by grind
  have LN:∀ c,jH.op≠.defer c:=by grind
  have LO:∀ c,kA.op≠.defer c:=by grind
  refine⟨⟨by omega,λj E L i G=>by have:=hQ (j - n) (by omega) i G;simp_all⟩,λa w D cZ listed cN ah sY=>?_⟩;have aaX:=R4 (Q:=Q) aU dn dG ax ak _ n [] s a w rfl (λp ai=>by cases ai) D hm;rw[show (ops.toList.drop n).length=5 by grind]at aaX;rw[aaV]at hm;obtain⟨kap,F,gW⟩:=D;have gd:∀ {o:Oper},o.guard=none->∀ s:aB,ma s.aA ops o.guard=some none:=λh s=>by rw[h];rfl
  have aaY:∀ {o:Oper} {os},(∀ ty m x,o.op≠.mapEntry ty m x)->Dk o os=none:=λ{o os} h=>by
   unfold Dk;split
   ·unfold Dj;simp
   ·rfl
  have Lx:Dk ia [kk,jH,kA,ob]=none:=aaY (by grind);unfold oP at hm;rw[Lx]at hm;simp only[gd Ha]at hm;split at hm
  ·rename_i xr LR;rw[A_ λU=>(R2 (s:=s) (λp ai=>by cases ai) (gk:=none) (λk ak=>by cases ak) U).run s.aa xr LR,A_ λU=>(Gs U).run s.aa xr LR]at hm;obtain⟨Sg,art,hm⟩:=hm;have aru:=C_ aU dn (ax ia (mem Ba)) LR;have Bc:=LR;simp only[iv,e1,kn,cP,CP]at Bc;have arv:(use (bh C.aX s.aA m)).1/\(use (bh C.aX s.aA x)).1/\xr.jC=[]/\∃ v u,xr.hn=.val v u:=by
    split at Bc
    ·rename_i qh aL' aMa;split at Bc
     ·simp only[aF.fZ,amj,da,aF.dC,amo]at Bc;obtain⟨es,rL,⟨y,l⟩,ba,rfl⟩:=Bc;exact⟨Sg.1,Sg.2,rfl,_,_,rfl⟩
     ·cases Bc
    ·cases Bc
   obtain⟨R6,R7,aaZ,aa0,aa1,arw⟩:=arv;have arx:Dk kk [jH,kA,ob]=none:=aaY (by grind);unfold oP at hm;rw[arx]at hm;simp only[gd Hb]at hm;split at hm
   ·rename_i Sh ary;have hm:=Sd (Sd hm);have yL:=ary;have aE:(s.jE ia.dst xr).aA e_=.val aa0 aa1:=by rw[vD,aB.jE,aB.R3,arw]
    have pA:Ad (.int gE c)=.val (.int gE) c:=by simp[Ad,bf]
    have arz:∃ cr,aa0=.int gE/\Sh.jC=[]/\cr=aa1:=by
     simp only[iv,e1,a1,cP,bh,aE,pA,use,aL.n3,aL.w0]at yL;split at yL
     ·rename_i aM cr aT cT E L;split at E
      ·rename_i b5 aaW an;cases L;cases an;cases E;split at yL
       ·rename_i Kf;simp only[CM,da,aF.dC,amo]at yL;grind
       ·cases yL
      grind
     ·rename_i h9;exfalso;split at yL
      ·grind
      ·simp only[aF.fZ,amj]at yL;obtain⟨⟨gl,iu⟩,E,L⟩:=yL;simp only[FM,aF.fZ,amj,aF.dC]at E;grind
    obtain⟨nF,rfl,aa2,rfl⟩:=arz;have ho:((s.jE ia.dst xr).jE kk.dst Sh).aa=s.aa:=by
     simp only[aB.jE,aaZ,aa2,aB.iw,vD,dY,aB.set]
    have e5:∀ {t:Nat},t≠e_->t≠hq->((s.jE ia.dst xr).jE kk.dst Sh).aA t=s.aA t:=λ{t} E L=>by
     simp only[aB.jE,aaZ,aa2,aB.iw];rw[aB.G5 (by grind),aB.G5 (by grind)]
    unfold oP at hm;rw[show Dk jH [kA,ob]=some (lN,d1,d2) from w2]at hm;simp only at hm;split at hm
    ·rename_i aMb arA;obtain⟨u,oT,wE,aa3⟩:=aq0 (s:=s) aU kn my iK ho (by rw[em];exact e5 (λe=>m1 (by grind)) (λe=>m2 (by grind))) (by rw[ex];exact e5 (λe=>mw (by grind)) (λe=>qY (by grind))) arA gW R6 R7;have arB:=(aa3 a rfl rfl).1;have arC:=G9 (K:=λa' w'=>dd C (s.jE ia.dst xr) a' w') (Q:=Q) Hc arB (aru a w kap F Q gW Sg art);have aa4:e_<a.tmps.size:=by
      have:=ax ia (mem Ba);simp only[mV,amm]at this;have:=this.1;rw[vD]at this;have E:=gW.dX;grind
     have aMc:d1<a.tmps.size:=by
      have:=ax jH (mem Dx);simp only[mV,amm]at this;have:=this.1;rw[Hd]at this;have E:=gW.dX;grind
     have hu:u=.int gE nF:=by
      obtain⟨apX,ui,gn⟩:=arC;have E:=gn.b1 e_;rw[aE,vD]at E;have L:(a.put (some e_) u).tmps.getD e_ Go.undef=u:=G1 aa4;rw[L]at E;exact (hL.1 E).1
     subst hu;let vB:Value:=.int gE (gE.wrap (nF+c));have arD:∀ (a':Act) (w':World),a'.eval (.tmp e_)=.int gE nF->(execOp a'.eval kk).run C.P w'=.ok (.value vB) w':=λa' w' h=>by
      have L:a'.eval (.const (.int gE c))=.int gE c:=rfl;have an:(Go.binOp .add LQ (.int gE nF) (.int gE c)).run C.P w'=.ok vB w':=by simp[Go.binOp,Op.intArith,vB]
      simp only[execOp,a1,h,L,Sem.run_bind,Yq,Result.andThen_ok,an,Sem.run_pure]
     have arE:∀ (a':Act) (w':World),a'.eval (.tmp d1)=.tuple #[.int gE nF,goInt oT]->(execOp a'.eval kA).run C.P w'=.ok (.value (goInt oT)) w':=λa' w' h=>by
      simp[execOp,yG,h,Instr.extract]
     have RW:∀ l b e eS,(oS a e_ hq d1 d2 (.int gE nF) vB (.tuple #[.int gE nF,goInt oT]) (goInt oT) l b e eS).eval m=a.eval m:=λl b e eS=>aaD m1 m2 m3 m4;have arF:∀ l b e eS,(oS a e_ hq d1 d2 (.int gE nF) vB (.tuple #[.int gE nF,goInt oT]) (goInt oT) l b e eS).eval x=a.eval x:=λl b e eS=>aaD mw qY aaW ars;refine aq9 (wE:=wE) (u:=.int gE nF) (vB:=vB) (vE:=.tuple #[.int gE nF,goInt oT]) (vX:=goInt oT) aaE re Ba Bb Dx G_ G' Ha Hb LJ LK LL Hc LM LN LO hQ R_ aaF Dy aaG aaH vD dY Hd LP eA eG lk n4 He ?_ ?_ ?_ ?_ aaX cZ listed cN ah (by omega)
     ·intro b e eS;have:=aa3 _ (RW false b e eS) (arF false b e eS);cases e
      ·exact this.1
      ·exact this.2.1
     ·intro e eS;refine arD _ _ ?_;have E:(oS a e_ hq d1 d2 (.int gE nF) vB (.tuple #[.int gE nF,goInt oT]) (goInt oT) true false e eS).eval (.tmp e_)=(a.put (some e_) (.int gE nF)).eval (.tmp e_):=by
       have cU:Operand.tmp e_≠.tmp d1:=λh=>eG (by grind);have cO:Operand.tmp e_≠.tmp d2:=λh=>lk (by grind);unfold oS;cases e<;>cases eS<;>simp[Du,cU,cO]
      rw[E];exact G1 aa4
     ·grind
     ·intro l b;refine arE _ _ ?_;have E:oS a e_ hq d1 d2 (.int gE nF) vB (.tuple #[.int gE nF,goInt oT]) (goInt oT) l b true false=(oS a e_ hq d1 d2 (.int gE nF) vB (.tuple #[.int gE nF,goInt oT]) (goInt oT) l b false false).put (some d1) (.tuple #[.int gE nF,goInt oT]):=rfl;rw[E];exact G1 (by rw[aq8];omega)
    ·exact hm.1.elim
   ·rename_i aMd;exfalso;have:um C.aX T br Psi (s.jE ia.dst xr) kk=none:=by
     have pA:Ad (.int gE c)=.val (.int gE) c:=by simp[Ad,bf]
     simp only[um,a1,GG,bh,pA];simp
    rw[this]at hm;exact hm.1
  ·exfalso;have:um C.aX T br Psi s ia=none:=by simp only[um,kn]
   rw[this]at hm;exact hm.1
 grind
def rf:eU:=⟨[],none,.undef,[],[],[]⟩
theorem LS(s:aB):∀ n,jU (List.replicate n rf) s=s
 | 0=>rfl
 | n+1=>by
  show jU (List.replicate n rf) (rf.jT s)=s;exact LS s n
theorem arG(Bd:Lf ops.toList n=true)(aU:eg C.P T)(dn:lK C.P br)(ax:∀ o∈ops.toList,mV o C.bZ=true){o:Oper}(fC:ops[n]?=some o){s1:aB}
  {K2:Act->World->Prop} (sM:∀ a w,dd C s1 a w->Region.wanted o (yielded ops a.tmps)=true/\o.wpIn (eY C.r) 0 C.P a w (λa' w'=>K2 a' w') Q)
  (rU:∀ a' w',K2 a' w'->∃ (vF s2:aB) (gD:List eU),dd C vF a' w'/\xg C.aX T br ops (ops.toList.drop (n+1)) vF=some (gD,s2)/\ZP (jF ops.toList) (n+1) gD=true/\(∀ r∈gD,∀ p∈r.cs,p)/\∀ b4 dN,dd C s2 b4 dN->Q .normal b4 dN)
  (cZ:Nat) (listed:Array Bool) (a:Act) (w:World) (cN:listed.size=ops.size) (ah:∀ i,listed.getD i false=decide (i<n)) (sY:ops.size - n<=cZ) (D:dd C s1 a w):wpAnyIn (eY C.r) 0 C.P .any ops Q cZ listed a w:=by
 simp only[Lf,amm,amp]at Bd;obtain⟨re,aC,Bd⟩:=Bd;have aC:n<ops.size:=by simpa using aC
 cases cZ with
 | zero=>omega
 | succ cZ=>
  have xq:∀ q o,ops[q]?=some o->listed.getD q false=true->∀ i∈lM o,listed.getD i false=true:=λq o au bB i G=>by
   rw[ah]at bB ⊢;have bB:q<n:=by simpa using bB
   have:=List.all_eq_true.1 re q (by simp;omega);rw[show ops.toList[q]?=some o by simpa using au]at this;have:=List.all_eq_true.1 this i G;simp only[amp]at this ⊢;omega
  have arH:∀ i∈lM o,i<n:=λi G=>by
   have:=List.all_eq_true.1 re n (by simp;omega);rw[show ops.toList[n]?=some o by simpa using fC]at this;have:=List.all_eq_true.1 this i G;simpa using this
  have LH:∀ i,i∈Region.ready .any ops listed<->i=n:=λi=>by
   constructor
   ·intro G;rw[mem_ready]at G;obtain⟨aW,f_,au,G8⟩:=G;have bf:i<ops.size:=(Array.getElem?_eq_some_iff.1 au).1;have Dz:listed.getD i false=false:=by
     rw[aPI]at aW ⊢;rw[aQz (by omega)]at aW ⊢;exact aW
    rw[ah]at Dz;have bw:n<=i:=by simpa using Dz
    by_cases e:i=n
    ·exact e
    ·exfalso;have yK:∀ k∈lM f_,listed.getD k false=true:=by
      intro k ak;obtain⟨e,he,uz⟩:=List.mem_filterMap.1 ak;split at uz
      ·rename_i U;cases uz;exact G8 e (by simpa using he) U
      ·cases uz
     have Dw:∀ k∈(jF ops.toList).getD i [],listed.getD k false=true\/k=i:=by
      intro k ak;refine Dd (p:=λj=>listed.getD j false=true\/j=i) ops.toList [] (λj i G=>by simp at G) (λj aa5 hR k ak aK=>?_) i k ak (.inr rfl);have qn:ops[j]?=some aa5:=by simpa using hR
      rcases (by simpa using aK:listed.getD j false=true\/j=i) with aK | aK
      ·exact .inl (xq j aa5 qn aK k ak)
      ·subst aK;rw[au]at qn;cases qn;exact .inl (yK k ak)
     have hm:=List.all_eq_true.1 Bd i (by simpa using bf);simp only[amm,aPU,amp]at hm;rcases hm.2 with h | h
     ·omega
     ·rcases Dw n (by simpa using h) with h | h
      ·rw[ah]at h;simp at h
      ·exact e h.symm
   ·rintro rfl;rw[mem_ready];refine⟨?_,o,fC,λe he U=>?_⟩
    ·have E:=ah i;rw[aPI]at E ⊢;rw[aQz (by omega)]at E ⊢;rw[show decide (i<i)=false by simp]at E;exact E
    ·have:=arH e.on (List.mem_filterMap.2 ⟨e,by simpa using he,by simp[U]⟩);rw[ah];simpa using this
  refine⟨λh=>?_,λi G=>?_⟩
  ·have:=(LH n).2 rfl;rw[h]at this;cases this
  ·obtain rfl:=(LH i).1 G;obtain⟨dt,ei⟩:=sM a w D;unfold wpOpIn;rw[fC];simp only;rw[if_pos dt];refine Oper.wpIn_mono (λa' w' ak=>?_) ei;obtain⟨vF,s2,gD,Hi,hr,h',qX,bB⟩:=rU a' w' ak;obtain⟨aM,aT,b5⟩:=QI _ _ hr;have iA:(ops.toList.drop (i+1)).length=ops.size - (i+1):=by simp
   have f':∀ j,(listed.setIfInBounds i true).getD j false=decide (j<=i):=by
    intro j;by_cases e:j=i
    ·subst e;rw[aPI,Array.getElem?_setIfInBounds_self_of_lt (by omega)];simp
    ·rw[getD_set_ne false (Ne.symm e),ah,decide_eq_decide];omega
   have eB:(List.replicate (i+1) rf).length=i+1:=aQt;have Sb:Zv (jF ops.toList) (List.replicate (i+1) rf++gD)=true:=by
    refine List.all_eq_true.2 λj aK=>List.all_eq_true.2 λq bB=>?_;have aK:j<i+1+gD.length:=by simpa [eB]using aK
    have bB:q<j:=by simpa using bB
    by_cases arI:q<i+1
    ·have aE:(List.replicate (i+1) rf++gD)[q]?=some rf:=by
      rw[aP1 (by omega)];simp[arI]
     have bz:∃ y,(List.replicate (i+1) rf++gD)[j]?=some y:=⟨_,ams (by simp;omega)⟩
     obtain⟨y,bz⟩:=bz;rw[aE,bz];simp[eU.apart,C',rf,eU.pt,eU.oO]
    ·have:=List.all_eq_true.1 (List.all_eq_true.1 h' (j - (i+1)) (by simp;omega)) (q - (i+1)) (by simp;omega);rw[amu (by omega),amu (by omega),eB];rw[show i+1+(j - (i+1))=j by omega,show i+1+(q - (i+1))=q by omega]at this;exact this
   have e:ops.toList.take ops.size=ops.toList:=aQc;refine Sa (n:=ops.size) (m:=i+1) (l:=List.replicate (i+1) rf++gD) (s:=vF) (s':=s2) (amn _) aU dn ax (by rw[e,aP8,eB,aM,iA,aPY];omega) (by rw[Gw,LS,aT]) (λj f_ aK hR=>?_) (by rw[e];simp only[AH,amm];exact⟨re,Sb⟩) (λj E L=>by omega) (λr D p ai=>?_) (λcZ listed a' w' cN gu _ bk=>aaR cN gu (bB a' w' bk) cZ) cZ _ a' w' (by simpa using cN) (λj f_ hR aK k ak=>?_) (λj aK=>by rw[f'];simp;omega) (λj aK=>by rw[f'];simp;omega) ?_ ?_
   ·rw[e]at hR;obtain⟨r,cq,c7⟩:=b5 (j - (i+1)) f_ (by rw[aQC,show i+1+(j - (i+1))=j by omega];exact hR);refine⟨r,by rw[amu (by omega),eB];exact cq,?_⟩;rw[List.take_append,eB,aQI (by omega),Gw,LS];exact c7
   ·rcases List.mem_append.1 D with h | h
    ·rw[(List.mem_replicate.1 h).2]at ai;cases ai
    ·exact qX r h p ai
   ·rw[f']at aK ⊢;have aK:j<=i:=by simpa using aK
    have:=List.all_eq_true.1 re j (by simp;omega);rw[show ops.toList[j]?=some f_ by simpa using hR]at this;have:=List.all_eq_true.1 this k ak;simp only[amp]at this ⊢;omega
   ·have L:(List.range ops.size).filter (λj=>!(listed.setIfInBounds i true).getD j false)=(List.range ops.size).filter λj=>decide (i+1<=j):=aQT λj _=>by
     rw[f'];by_cases h:j<=i
     ·have:¬i+1<=j:=by omega
      simp[h,this]
     ·have:i+1<=j:=by omega
      simp[h,this]
    rw[L];have an:List.range ops.size=List.range (i+1)++List.range' (i+1) (ops.size - (i+1)):=by
     rw[aQD,aQD];have:=(List.range'_append (s:=0) (m:=i+1) (n:=ops.size - (i+1)) (step:=1))
     rw[Nat.one_mul,aQG]at this;rw[this];congr 1;omega
    rw[an,aQw,List.filter_eq_nil_iff.2 λj aK=>by have:=List.mem_range.1 aK;simp;omega,aQk];refine aPL (aQe _ _) ?_;rw[List.length_range'];omega
   ·have:mW (List.replicate (i+1) rf++gD) vF (λj=>(listed.setIfInBounds i true).getD j false)=vF:=by
     unfold mW;rw[QG,aQw,aP7,Gw];have bz:(kj (0+(List.replicate (i+1) rf).length) gD).filter (λp=>(listed.setIfInBounds i true).getD p.1 false)=[]:=List.filter_eq_nil_iff.2 λp ai=>by
      obtain⟨E,_⟩:=AM ai;rw[f'];simp only[amp];rw[eB]at E;omega
     rw[bz];have aE:∀ (l:List eU),(∀ r∈l,r=rf)->jU l vF=vF:=λl ah=>by
      rw[List.eq_replicate_iff.2 ⟨rfl,ah⟩,LS]
     show jU (((kj 0 (List.replicate (i+1) rf)).filter λp=>(listed.setIfInBounds i true).getD p.1 false).map (·.2)) vF=vF;refine aE _ λr D=>?_;obtain⟨p,ai,rfl⟩:=List.mem_map.1 D;obtain⟨_,L⟩:=AM (List.mem_filter.1 ai).1;exact (List.mem_replicate.1 (aQR L)).2
    rw[this];exact Hi
theorem Si(n j:Nat):(Array.replicate n false).getD j false=false:=by
 rw[aPI,aQU];grind
theorem aa6(aU:eg C.P T)(dn:lK C.P br)(dG:pz C.P C.aX Psi)(ax:∀ o∈ops.toList,mV o C.bZ=true){k:aB->M bet}{O:bet->Prop}
  (ak:∀ s' a' w',dd C s' a' w'->c' (k s') O->Q .normal a' w') {a:Act} {w:World} (D:dd C s a w) (hm:c' (Dm C.aX T br Psi ops s k) O):wpAnyIn (eY C.r) 0 C.P .any ops Q ops.size (Array.replicate ops.size false) a w.drew:=by
 obtain⟨kap,F,gW⟩:=D;have fC:∀ {n:Nat} {l:List eU} {s':aB} {m:M bet},n<=ops.size->xg C.aX T br ops (ops.toList.take n) s=some (l,s')->AH (ops.toList.take n) l=true->(∀ j,n<=j->j<ops.size->∀ i,i<n->i∈(jF ops.toList).getD j [])->c' (yC (l.flatMap eU.cs) m) O->
   (c' m O->∀ (cZ:Nat) (listed:Array Bool) a' w',listed.size=ops.size->(∀ i,listed.getD i false=decide (i<n))->ops.size - n<=cZ->dd C s' a' w'->wpAnyIn (eY C.r) 0 C.P .any ops Q cZ listed a' w')->wpAnyIn (eY C.r) 0 C.P .any ops Q ops.size (Array.replicate ops.size false) a w.drew:=by
  intro n l s' m aC az b6 R9 hm qo;obtain⟨E,L⟩:=LG _ hm;obtain⟨aM,aT,b5⟩:=QI _ _ az;refine Sa (m:=0) aC aU dn ax aM aT (λi o _ h=>b5 i o h) b6 R9 (λr D p ai=>E p (List.mem_flatMap.2 ⟨r,D,ai⟩)) (qo L) ops.size _ a _ (by simp) (λj o _ ah=>by rw[Si]at ah;cases ah) (λi _=>Si _ i) (λ_ h=>by omega) (by grind) ⟨kap,F,?_⟩;have:mW l s (λj=>(Array.replicate ops.size false).getD j false)=s:=by
   unfold mW;rw[List.filter_eq_nil_iff.2 λp _=>by simp only[Si];decide];rfl
  rw[this];exact gW.drew
 unfold Dm at hm;split at hm
 ·rename_i l s' az;split at hm
  ·rename_i b6;have e:ops.toList.take ops.size=ops.toList:=aQc;refine fC (amn _) (e.symm ▸ az) (e.symm ▸ b6) (λj E L=>by omega) hm λL cZ listed a' w' cN gu _ bk=>aaR cN gu (ak s' a' w' bk L) cZ
  ·exact hm.1.elim
 ·split at hm
  ·rename_i l s' az;split at hm
   ·rename_i b6;rw[amm]at b6;by_cases uu:Le ops.toList=true
    ·have Hj:rS ops.toList=ops.size - 5:=by unfold rS;grind
     refine fC (by omega) az b6.1 ?_ hm λL=>?_
     ·obtain⟨E,L⟩:=LG _ hm;have:=aaU (Q:=Q) uu Hj aU dn dG ax ak L;grind
     ·have:=aaU (Q:=Q) uu Hj aU dn dG ax ak L;grind
    ·have Hj:rS ops.toList=Dl (jF ops.toList) ops.toList.length:=by unfold rS;grind
     obtain⟨w5,jj⟩:=aaC (jF ops.toList) ops.toList.length;have w5:rS ops.toList<=ops.size:=by grind
     have jj:∀ j,rS ops.toList<=j->j<ops.size->∀ i,i<j->i∈(jF ops.toList).getD j []:=λj E L=>jj j (by omega) (by omega);refine fC w5 az b6.1 (λj E L i G=>jj j E L i (by omega)) hm λL cZ listed a' w' cN gu sY bk=>?_;refine aq4 b6.2 jj (ops.size - rS ops.toList) (rS ops.toList) cZ listed a' w' (amn _) (by omega) cN gu sY ?_;have hlen:(ops.toList.drop (rS ops.toList)).length=ops.size - rS ops.toList:=by simp
     rw[<-hlen];exact R4 (Q:=Q) aU dn dG ax ak _ _ [] s' a' w' rfl (λp ai=>by cases ai) bk L
   ·exact hm.1.elim
  ·split at hm
   ·rename_i Bd;unfold ZQ at hm;split at hm
    ·rename_i l s1 az;split at hm
     ·rename_i b6;split at hm
      ·rename_i o fC;split at hm
       ·rename_i ux;split at hm
        ·rename_i cI ra;obtain⟨E,L⟩:=LG _ hm;have arJ:o∈ops.toList:=aQR (by simpa using fC);have bo:∀ i,o.dst=some i->i<C.bZ:=λi G=>by
          have:=ax o arJ;simp only[mV,amm]at this;have:=this.1;rw[G]at this;simpa using this
         obtain⟨fs,fQ,mu⟩:=RZ aU dn dG bo ra;have bb:cI.cy:=by
          cases ay:uh (bh C.aX s1.aA) o with
          | true=>exact mu (QA ay)
          | false=>rw[ay]at L;exact (h5.1 L).1
         have L:=Sd L;rw[fN]at L;have Sj:=Bd;simp only[Lf,amm,amp]at Sj;have aC:Lg C.aX T br ops ops.toList s<ops.size:=by simpa using Sj.2.1
         obtain⟨cU,cO,hO⟩:=QI _ _ az;refine Sa (m:=0) (Nat.le_of_lt aC) aU dn ax cU cO (λi o _ h=>hO i o h) b6 (λj ao9 iB i G=>?_) (λr D p ai=>E p (List.mem_flatMap.2 ⟨r,D,ai⟩)) (λcZ listed a' w' cN gu sY bk=>?_) ops.size (Array.replicate ops.size false) a _ (by simp) (λj o _ ah=>?_) (λi _=>?_) (λ_ h=>by omega) ?_ ⟨kap,F,?_⟩
         ·have:=List.all_eq_true.1 Sj.2.2 j (by simpa using iB);simp only[amm,aPU,amp]at this;rcases this.1 with h | h
          ·omega
          ·simpa using List.all_eq_true.1 h i (by simpa using G)
         ·refine arG Bd aU dn ax fC (s1:=s1) (K2:=λa' w'=>∃ y,dd C (cI.ad y) a' w'/\c' _ O) (λa w D=>⟨?_,fs a w Q _ D bb ⟨L.1,λy ba a' w' bk=>⟨y,bk,L.2 y ba⟩⟩⟩) (λa' w' ⟨y,Hi,Hk⟩=>?_) cZ listed a' w' cN gu sY bk
          ·obtain⟨kap,F,D⟩:=D;rw[Ly D ux];rfl
          ·split at Hk
           ·rename_i gD s2 pr;split at Hk
            ·rename_i h';obtain⟨aM,aT⟩:=LG _ Hk;exact⟨_,s2,gD,Hi,pr,h',λr D p ai=>aM p (List.mem_flatMap.2 ⟨r,D,ai⟩),λb4 dN c1=>ak s2 b4 dN c1 aT⟩
            ·exact Hk.1.elim
           ·exact Hk.1.elim
         ·have:(Array.replicate ops.size false).getD j false=false:=by
           rw[aPI,aQU];split<;>rfl
          rw[this]at ah;cases ah
         ·rw[aPI,aQU];split<;>rfl
         ·have:=aQe (λj=>!(Array.replicate ops.size false).getD j false) (List.range ops.size);simpa using this
         ·have:mW l s (λj=>(Array.replicate ops.size false).getD j false)=s:=by
           unfold mW;rw[List.filter_eq_nil_iff.2 λp _=>?_]
           ·rfl
           ·simp only[aPI,aQU];split<;>simp
          rw[this];exact gW.drew
        ·exact hm.1.elim
       ·exact hm.1.elim
      ·exact hm.1.elim
     ·exact hm.1.elim
    ·exact hm.1.elim
   exact hm.1.elim
theorem arK{id:Nat}(fi:C.P.follows .mixedOrders=true)(aU:eg C.P T)(dn:lK C.P br)(dG:pz C.P C.aX Psi)(ax:∀ o∈ops.toList,mV o C.bZ=true){k:aB->M bet}{O:bet->Prop}
  (ak:∀ s' a' w',dd C s' a' w'->c' (k s') O->Q .normal a' w') {a:Act} {w:World} (D:dd C s a w) (hm:c' (Dm C.aX T br Psi ops s k) O):(Code.region id ops true).wpIn (eY C.r) 0 C.P Q a w:=
 wpIn_region_any fi (aa6 aU dn dG ax ak D hm)
theorem DA{ops:Array Oper}{j:Nat}{o:Oper}(h:ops[j]?=some o):(nB ops.toList).toArray[j]?=some (if j=0 then o else { o with after:=o.after.push ⟨0,.phase⟩ }):=by
 obtain⟨l⟩:=ops;cases l with
 | nil=>simp at h
 | cons x l=>
  cases j with
  | zero=>simpa [nB]using h
  | succ j=>
   simp only[aQB,aQv]at h;simp[nB,h]
theorem Sl(ops:Array Oper):(nB ops.toList).toArray.size=ops.size:=by
 obtain⟨l⟩:=ops;cases l<;>simp[nB]
theorem arL{ops:Array Oper}{j:Nat}{jO:Oper}(h:(nB ops.toList).toArray[j]?=some jO):∃ o,ops[j]?=some o/\jO=if j=0 then o else { o with after:=o.after.push ⟨0,.phase⟩ }:=by
 have aK:j<ops.size:=by rw[<-Sl];exact (Array.getElem?_eq_some_iff.1 h).1
 have:=DA (ops:=ops) (j:=j) (o:=ops[j]) (by simp[aK]);rw[h]at this;cases this;exact⟨ops[j],by simp[aK],rfl⟩
theorem arM(ops:Array Oper):yielded (nB ops.toList).toArray=yielded ops:=by
 funext t j;unfold yielded;cases h:ops[j]? with
 | none=>
  have:(nB ops.toList).toArray[j]?=none:=by
   rw[Array.getElem?_eq_none_iff,Sl];exact Array.getElem?_eq_none_iff.1 h
  rw[this]
 | some o=>
  rw[DA h];by_cases aK:j=0
  ·rw[if_pos aK]
  ·rw[if_neg aK];rfl
theorem arN{F:Fence}{P:Program}:∀ (cZ:Nat) (listed:Array Bool) (a:Act) (w:World),listed.getD 0 false=true->wpAnyIn F 0 P .any (nB ops.toList).toArray Q cZ listed a w->wpAnyIn F 0 P .any ops Q cZ listed a w:=by
 have ue:∀ (listed:Array Bool),listed.getD 0 false=true->∀ i,i∈Region.ready .any ops listed->i∈Region.ready .any (nB ops.toList).toArray listed:=by
  intro listed aW i G;rw[mem_ready]at G ⊢;obtain⟨E,o,au,L⟩:=G;refine⟨E,_,DA au,λe he U=>?_⟩;split at he
  ·exact L e he U
  ·rcases Array.mem_push.1 he with he | rfl
   ·exact L e he U
   ·exact aW
 have arO:∀ (listed:Array Bool),Region.ready .any ops listed=[]->Region.ready .any (nB ops.toList).toArray listed=[]:=by
  intro listed h;rw[List.eq_nil_iff_forall_not_mem]at h ⊢;intro i G;refine h i ?_;rw[mem_ready]at G ⊢;obtain⟨E,jO,au,L⟩:=G;obtain⟨o,hR,rfl⟩:=arL au;refine⟨E,o,hR,λe he U=>L e ?_ U⟩;split
  ·exact he
  ·exact Array.mem_push_of_mem _ he
 have arP:∀ (listed:Array Bool),listed.getD 0 false=true->Region.ready .any (nB ops.toList).toArray listed=[]->Region.ready .any ops listed=[]:=by
  intro listed aW h;rw[List.eq_nil_iff_forall_not_mem]at h ⊢;exact λi G=>h i (ue listed aW i G)
 intro cZ;induction cZ with
 | zero=>
  intro listed a w aW h;exact⟨arP listed aW h.1,h.2⟩
 | succ cZ aP=>
  intro listed a w aW h;refine⟨λD=>h.1 (arO listed D),λi G=>?_⟩;have ak:=h.2 i (ue listed aW i G);have next:∀ a w,wpAnyIn F 0 P .any (nB ops.toList).toArray Q cZ (listed.setIfInBounds i true) a w->wpAnyIn F 0 P .any ops Q cZ (listed.setIfInBounds i true) a w:=λa w=>aP _ a w (getD_set_true aW)
  have ak:=wpOpIn_mono next ak
  unfold wpOpIn at ak ⊢;rw[mem_ready]at G;obtain⟨_,o,au,_⟩:=G;rw[au];rw[DA au,arM]at ak;by_cases sP:i=0
  ·rw[if_pos sP]at ak;exact ak
  ·rw[if_neg sP]at ak;exact ak
theorem arQ{id:Nat}(fi:C.P.follows .mixedOrders=true)(arR:C.r=none)(ay:Rb ops=true)(aU:eg C.P T)(dn:lK C.P br)(dG:pz C.P C.aX Psi)(ax:∀ o∈ops.toList,mV o C.bZ=true){k:aB->M bet}{O:bet->Prop}
  (ak:∀ s' a' w',dd C s' a' w'->c' (k s') O->Q .normal a' w') {a:Act} {w:World} (D:dd C s a w) (hm:c' (Dm C.aX T br Psi (nB ops.toList).toArray s k) O):(Code.region id ops true).wpIn (eY C.r) 0 C.P Q a w:=by
 refine wpIn_mono (Q:=λe a w=>e=.normal/\Q e a w) (wpIn_region_any fi ?_) λe a w h=>h.2;have kQ:=aa6 (Q:=λe a w=>e=.normal/\Q e a w) (ops:=(nB ops.toList).toArray) aU dn dG (λo au=>?_) (λs' a' w' E L=>⟨rfl,ak s' a' w' E L⟩) D hm
 ·rw[Sl]at kQ;have rX:(eY C.r).round=none:=by rw[arR];rfl
  unfold Rb at ay;split at ay
  ·cases ay
  ·rename_i o l ah;simp only[amm,aPZ,aPU]at ay;obtain⟨E,L,an,a6,bS⟩:=ay;have aW:ops[0]?=some o:=by rw[<-aP2,ah];rfl
   obtain⟨m,hm⟩:∃ m,ops.size=m+1:=⟨l.length,by rw[<-aPY,ah];rfl⟩
   rw[hm]at kQ ⊢;have aD:o.guard=none:=by simpa using L
   have iW:∀ (ops:Array Oper),ops[0]?=some o->0∈Region.ready .any ops (Array.replicate (m+1) false):=λops h=>by
    rw[mem_ready];refine⟨by simp,o,h,λe he=>?_⟩;rw[Array.isEmpty_iff.1 an]at he;simp at he
   have sM:∃ x,o.op=.move x:=by
    revert E;cases o.op<;>simp
   obtain⟨x,al⟩:=sM;have ba:YieldsFenced C.P ops o (a.eval x) a:=⟨.inl ⟨by unfold Region.wanted;rw[aD],λw=>by simp[execOp,al]⟩,λw=>by unfold Oper.about;rw[al]⟩
   have hr:=kQ.2 0 (iW _ (by rw[DA aW];rfl));unfold wpOpIn at hr;rw[DA aW]at hr;simp only[if_true]at hr;rw[show Region.wanted o (yielded (nB ops.toList).toArray a.tmps)=true by unfold Region.wanted;rw[aD],if_pos rfl]at hr;have hr:wpAnyIn (eY C.r) 0 C.P .any (nB ops.toList).toArray (λe a w=>e=.normal/\Q e a w) m ((Array.replicate (m+1) false).setIfInBounds 0 true) (a.put o.dst (a.eval x)) w.drew:=by
    have:=hr.2;rw[rX,Oper.semAt_none]at this;simpa [execOp,al,Oper.uponIn]using this
   refine wpAnyIn_first rX aW (Region.noSelect_spec a6) (λc a w h=>by cases h.1) m _ a _ (λj vA aa7 arS _ he=>?_) (iW _ aW) ba (arN m _ _ _ (by simp) hr);have ps:vA∈l:=by
    rw[<-aP2,ah]at aa7;cases j with
    | zero=>exact absurd rfl arS
    | succ j=>exact aQR aa7
   rcases bS vA ps with h | h
   ·exfalso;have h:0∈lM vA:=by simpa using h
    obtain⟨e,arT,AD⟩:=List.mem_filterMap.1 h;split at AD
    ·rename_i U;exact he e (by simpa using arT) U (by simpa using AD)
    ·cases AD
   ·exact h
 ·have au:o∈(nB ops.toList):=by simpa using au
  obtain⟨ol⟩:=ops;cases ol with
  | nil=>cases au
  | cons x l=>
   rcases List.mem_cons.1 au with rfl | au
   ·exact ax _ (by simp)
   ·obtain⟨p,ai,rfl⟩:=List.mem_map.1 au;have:=ax p (by simp[ai]);exact this
end
end Go.Fer
namespace Go.Fer
open Go.RowKit
variable {bet:Type}
theorem ib{O:bet->Prop}(h:c' (d':M bet) O):False:=h.1
variable {s:aB}
theorem xt{sh:eC}{k:sh.aj->M bet}{O:bet->Prop}(h:c' (sh.pw s k) O):∃ A,sh.kR s=some A/\c' (k A) O:=by
 grind [eC.pw,ib]
def uB(B:Nat):Deferred:={ target:=.collected B,args:=#[] }
structure qp where
 w:World
 K:Nat->Prop
 ms:List Nat
def cH.iV(C:cH)(u:qp):cH:={ C with ep:=u.w,K0:=u.K,dj:=u.ms.map uB++C.dj }
structure cH.lO(C:cH)(u:qp):Prop where
 vG:∀ B∈u.ms,u.K B/\u.w.heap[B]?=some (.deferred (some []))
 fo:∀ B∈u.ms,¬C.K0 B/\C.ep.heap.size<=B
 ko:u.ms.Nodup
 iC:∀ r,C.K0 r->u.K r
 e5:∀ r,C.K0 r->u.w.heap[r]?=C.ep.heap[r]?
 size:C.ep.heap.size<=u.w.heap.size
 eN:dL C.ep u.w
def cH.ix(C:cH):qp:=⟨C.ep,C.K0,[]⟩
theorem cH.yM(C:cH):C.lO C.ix:=⟨λ_ h=>by grind [cH.ix],λ_ h=>by grind [cH.ix],List.nodup_nil,λ_ h=>h,λ_ _=>rfl,amn _,dL.refl _⟩
def qp.then(u v:qp):qp:=⟨v.w,v.K,v.ms++u.ms⟩
theorem cH.DB(C:cH)(u v:qp):(C.iV u).iV v=C.iV (u.then v):=by
 simp[cH.iV,qp.then]
theorem cH.lO.then{C:cH}{u v:qp}(h:C.lO u)(k:(C.iV u).lO v):C.lO (u.then v) where
 vG:=λB a1=>by
  rcases List.mem_append.1 a1 with a1 | a1
  ·exact k.vG B a1
  ·obtain⟨E,L⟩:=h.vG B a1;exact⟨k.iC B E,(k.e5 B E).trans L⟩
 fo:=λB a1=>by
  rcases List.mem_append.1 a1 with a1 | a1
  ·obtain⟨E,L⟩:=k.fo B a1;exact⟨λan=>E (h.iC B an),aPL h.size L⟩
  ·exact h.fo B a1
 ko:=List.nodup_append.2 ⟨k.ko,h.ko,λa aY b U e=>(k.fo a aY).1 (e ▸ (h.vG b U).1)⟩
 iC:=λr D=>k.iC r (h.iC r D)
 e5:=λr D=>(k.e5 r (h.iC r D)).trans (h.e5 r D)
 size:=aPL h.size k.size
 eN:=h.eN.trans k.eN
theorem Be{sh:eC}(h:sh.bF.any (λp=>p.2.l3)=false)(A:sh.aj)(r:Nat):¬la (sh.ad A).aa r:=λ⟨e,m,xs,E,_⟩=>by
 rcases A4 dx sh.bF (eV dx sh.b1 A).2 cF with⟨k,_⟩ | ⟨q,aM,aT,R,z,b5⟩
 ·have k:(sh.ad A).aa cF=_:=k;grind
 ·have b5:(sh.ad A).aa cF=_:=b5;rw[b5]at E;have Dt:q.2.l3=true:=by
   obtain⟨cU,cO⟩:=q;cases cO<;>first | rfl | cases E
  grind
variable {a:Act}{w:World}{kap:Nat->bL}{F:Nat->Prop}{ep:World}{w':World}{K0:Nat->Prop}{r:Option Nat}
theorem bu.aa8{C:cH}{F':Nat->Prop}(h:bu C s a w kap F){jA:Nat->Prop}{bZ:Nat}{dj:List Deferred}{sl:Nat->aL}{a':Act}
    (Sm:a'.tmps.size=bZ) (Sn:a'.defers=dj) (rY:bZ<=fz) (fD:∀ i,bM C.P s.aa kap F w (sl i) (a'.tmps.getD i undef)) (h9:∀ l aI ab n ad,sl cd≠.aS l aI ab n ad)
    (heq:∀ r,F r\/(∃ b,(s.aa b).body.ch (kap b)=true/\(kap b).aa=r)->w'.heap[r]?=w.heap[r]?) (cN:w.heap.size<=w'.heap.size)
    (bp:∀ r,F r->F' r) (mv:∀ r,F' r->r<w'.heap.size) (Hl:∀ b,(s.aa b).body.ch (kap b)=true->¬F' (kap b).aa)
    (Sp:∀ r,F' r->jA r\/¬K0 r) (Sq:∀ r,jA r->F' r) (Hm:∀ r,K0 r->r<ep.heap.size) (xu:∀ r,K0 r->w'.heap[r]?=ep.heap[r]?) (eJ:∀ b,(s.aa b).body.ch (kap b)=true->¬K0 (kap b).aa)
    (qq:ep.heap.size<=w'.heap.size) (hc:dL ep w') (qm:∀ r,¬la s.aa r) :
    bu { C with ep:=ep,jA:=jA,K0:=K0,bZ:=bZ,dj:=dj,r:=r } ⟨sl,s.aa⟩ a' w' kap F':=by
  have he:di F w w':=⟨cN,λr D=>heq r (.inl D)⟩
  exact {
          dX:=Sm,dj:=Sn,b1:=λi=>bM.later (fI.refl _ _) bp he (fD i)
          bF:=λb=>c6.k_ (h.bF b) (fI.refl _ _) bp he rfl rfl λau=>heq _ (.inr ⟨b,au,rfl⟩)
          own:=λb U=>⟨aPG (h.own b U).1 cN,Hl b U,eJ b U⟩,inj:=h.inj,ds:=mv
          hN:=Sp,iq:=Sq,ir:=Hm,e5:=xu,size:=qq,eN:=hc,hB:=rY,lb:=h.lb,iS:=h.iS,ld:=h.ld,jB:=h.jB,e7:=λl aI ab n ad e=>(h9 l aI ab n ad e).elim,bR:=λe m hm=>⟨(h.bR e m hm).1,λid xs al=>(qm id ⟨e,m,xs,hm,al⟩).elim⟩,j1:=h.j1,hX:=h.hX.mono bp he }
theorem bu.yN{C:cH}(h:bu C s a w kap F){jA:Nat->Prop}{bZ:Nat}{dj:List Deferred}{sl:Nat->aL}{a':Act}
  (Sm:a'.tmps.size=bZ) (Sn:a'.defers=dj) (rY:bZ<=fz) (fD:∀ i,bM C.P s.aa kap F w (sl i) (a'.tmps.getD i undef)) (h9:∀ l aI ab n ad,sl cd≠.aS l aI ab n ad)
  (heq:∀ r,F r\/(∃ b,(s.aa b).body.ch (kap b)=true/\(kap b).aa=r)->w'.heap[r]?=w.heap[r]?) (cN:w.heap.size<=w'.heap.size)
  (Sp:∀ r,F r->jA r\/¬K0 r) (Sq:∀ r,jA r->F r) (Hm:∀ r,K0 r->r<ep.heap.size) (xu:∀ r,K0 r->w'.heap[r]?=ep.heap[r]?) (eJ:∀ b,(s.aa b).body.ch (kap b)=true->¬K0 (kap b).aa)
  (qq:ep.heap.size<=w'.heap.size) (hc:dL ep w') (qm:∀ r,¬la s.aa r) :
  bu { C with ep:=ep,jA:=jA,K0:=K0,bZ:=bZ,dj:=dj,r:=r } ⟨sl,s.aa⟩ a' w' kap F:=
 h.aa8 Sm Sn rY fD h9 heq cN (λ_ h=>h) (λr D=>aPG (h.ds r D) cN) (λb U=>(h.own b U).2.1) Sp Sq Hm xu eJ qq hc qm
theorem bu.LU{C:cH}(h:bu C s a w kap F)
    (kC:∀ r,K0 r->C.K0 r) (heq:∀ r,F r\/¬C.K0 r->w'.heap[r]?=w.heap[r]?) (cN:w.heap.size<=w'.heap.size) (Bf:dL w w')
    (Hm:∀ r,K0 r->r<ep.heap.size) (xu:∀ r,K0 r->w'.heap[r]?=ep.heap[r]?) (qq:ep.heap.size<=w'.heap.size) (hc:dL ep w') :
    bu { C with ep:=ep,K0:=K0,r:=r } s a w' kap F:=by
  have he:di F w w':=⟨cN,λr D=>heq r (.inl D)⟩
  have mv:=λr D=>aPG (h.ds r D) cN;exact {
          dX:=h.dX,dj:=h.dj,b1:=λi=>bM.later (fI.refl _ _) (λ_ h=>h) he (h.b1 i)
          bF:=λb=>c6.k_ (h.bF b) (fI.refl _ _) (λ_ h=>h) he rfl rfl λau=>heq _ (.inr (h.own b au).2.2)
          own:=λb U=>⟨aPG (h.own b U).1 cN,(h.own b U).2.1,λk=>(h.own b U).2.2 (kC _ k)⟩,inj:=h.inj,ds:=mv
          hN:=λr D=>(h.hN r D).imp id λk k'=>k (kC r k'),iq:=h.iq,ir:=Hm,e5:=xu,size:=qq,eN:=hc,hB:=h.hB,lb:=h.lb,iS:=h.iS,ld:=h.ld,jB:=h.jB
          e7:=λl aI ab n ad e=>by
            obtain⟨E,L,Y,an,a6,bS⟩:=h.e7 l aI ab n ad e;exact⟨E,L,Y,λr D=>⟨aPG (an r D).1 cN,(an r D).2.1,λk=>(an r D).2.2 (kC r k)⟩,a6,L.JZ bS (λ_ h=>h) (λr D=>heq r (D.imp id λba=>(an r ba).2.2)) cN Bf mv λr ay ba=>(an r ba).2.1 ay⟩
          bR:=λe m hm=>⟨(h.bR e m hm).1,λid xs al=>by
            obtain⟨nt,cU,cO,hO,lE,cv⟩:=(h.bR e m hm).2 id xs al;exact⟨nt,aPG cU cN,cO,λk=>hO (kC _ k),lE,cv.mono (λ_ h=>h) he (heq id (.inr hO))⟩⟩
          j1:=h.j1,hX:=h.hX.mono (λ_ h=>h) he }
theorem aa9{P:Program}{H:Nat->b9}{kap:Nat->bL}{F:Nat->Prop}{w:World}{aI:V}{x:aI.aj}:∀ (bt:List Tmp) (args:List Value) (j:Nat) (f:Nat->aL) (rb:Array Value),bt.length=args.length->(∀ p∈bt,p<rb.size)->
  (∀ i,bM P H kap F w (f i) (rb.getD i undef))->(∀ i,i<args.length->bM P H kap F w (kc aI x (j+i)) (args.getD i undef))->
  ∀ i,bM P H kap F w (GI aI x bt j f i) (((bt.zip args).foldl (λtmps p=>tmps.setIfInBounds p.1 p.2) rb).getD i undef)
 | [],[],_,_,_,_,_,ay,_,i=>ay i
 | p::bt,v::args,j,f,rb,ah,ai,ay,af,i=>by
  refine aa9 bt args (j+1) _ _ (by grind) (λq bB=>by grind) (λi=>?_) (λi G=>?_) i
  ·rw[aPI,Array.getElem?_setIfInBounds];by_cases e:i=p
   ·grind
   simp_all[Ne.symm]
  ·have:=af (i+1) (by grind);grind
theorem arU{bt:List Tmp}{args:List Value}:∀ {rb:Array Value},((bt.zip args).foldl (λtmps p=>tmps.setIfInBounds p.1 p.2) rb).size=rb.size:=by
 generalize bt.zip args=l;induction l<;>grind
def vH:dS->Option Code
 | .normal=>none
 | .exit id=>some (.exit id)
 | .ret=>some .ret
def hG(fn:FuncId)(rb:Array Value)(bt:Array Tmp)(assign body:Code)(B:Nat)(ad:LoopState)(e:dS):Loop:=
 { state:=ad,pending:=vH e,fn:=fn,tmps:=rb,params:=bt,assign:=assign,body:=body,defers:=B }
variable {eb:eC}
def LV(P:Program)(aX:dV)(bZ:Nat)(assign body:Code)(l:Nat)(run:aB->M (dS×eb.aj)):Prop:=
 ∀ (C1:cH),C1.P=P->C1.aX=aX->C1.bZ=bZ->C1.r=some l->∀ (s1:aB) (cr:Act) (cj:World) (s3:dS×eb.aj->Prop),dd C1 s1 cr cj->c' (run s1) s3->
  assign.wpIn (eY (some l)) 0 P (Exit.then (λb4 dN=>∃ u s2,C1.lO u/\dd (C1.iV u) s2 b4 dN/\
   ∀ (jl:cH),jl.P=P->jl.aX=aX->jl.bZ=bZ->jl.r=some l->∀ (dN:World),dd jl s2 b4 dN->
    body.wpIn (eY (some l)) 0 P (λe eh hF=>∃ (aZ:dS) (v:qp) (fh:aB) (bl:eb.aj),e=aZ.rT/\jl.lO v/\dd (jl.iV v) fh eh hF/\eb.kR fh=some bl/\s3 (aZ,bl)) b4 dN) (λ_ _ _=>False)) cr cj
theorem arV{ts:List (Nat×cg)}{R:Type}(h:ts.isEmpty=true)(g:Nat->z21')(z:q7 ts R)(i:Nat):fv (eV g ts z).1 i=.undef:=by
 cases ts with
 | nil=>rfl
 | cons p ts=>grind
variable {l:Nat}
theorem arW{P:Program}{R:Ending->World->Prop}{e:dS}{r:Loop}(h:w.heap[l]?=some (.loop r))
  (fp:R (.returned (.bool (vH e).isNone)) (w.putObj l (.loop { r with state:=if (vH e).isNone then .ready else .done,pending:=vH e }))):roundPost P l R e.rT a w:=by
 cases e with
 | normal=>exact⟨_,_,run_endRound none h,fp⟩
 | exit id=>exact⟨_,_,run_endRound (some (.exit id)) h,fp⟩
 | ret=>exact⟨_,_,run_endRound (some .ret) h,fp⟩
variable {bt:Array Tmp}{aI:V}{assign:Code}
theorem arX{CI:cH}{sh rin:eC}{body:Code}{W:World}{A:sh.aj}{fn:FuncId}{B:Nat}{x:aI.aj}{args:List Value}{run:aB->M (dS×eb.aj)}
  {Or:dS×sh.aj->Prop} {Y Z:Nat->Prop} (arY:Z l)
  (D:bu CI (sh.ad A) a W kap F) (fg:nD sh eb aI bt.toList a.tmps.size=true) (Hn:LV CI.P CI.aX a.tmps.size assign body l run) (hm:c' (xi sh rin eb aI bt.toList A x run) Or)
  (ah:W.heap[l]?=some (.loop (hG fn a.tmps bt assign body B .ready .normal))) (arZ:¬F l) (bQ:∀ b,((sh.ad A).aa b).body.ch (kap b)=true->Y (kap b).aa/\¬Z (kap b).aa) (fu:gv CI.P aI F W args x) :
  ∃ tmps,(Instr.yield l args.toArray).run CI.P W=.ok (.round l fn tmps assign body) W/\RoundIn Fence.wide 0 CI.P l fn tmps assign body W λe s4=>
   ∃ (bN:dS) (kB:sh.aj) (bT:Nat->bL) (F':Nat->Prop) (o:Obj),e=.returned (.bool (vH bN).isNone)/\Or (bN,kB)/\s4.heap[l]?=some (.loop (hG fn a.tmps bt assign body B (if (vH bN).isNone then .ready else .done) bN))/\
    bu { CI with ep:=W.putObj l o,jA:=F,K0:=λr=>r<W.heap.size/\(Z r\/¬Y r) } (sh.ad kB) a s4 bT F':=by
 simp only[nD,amm,amp,aPO]at fg;obtain⟨⟨⟨⟨⟨aM,xm,Bg⟩,aT⟩,b5⟩,hC⟩,q4⟩:=fg;have LW:=(Array.getElem?_eq_some_iff.1 ah).1;obtain⟨ka,DC⟩:=vk (H:=(sh.ad A).aa) (kap:=kap) aI fu b5;have h9:(sh.ad A).aA cd=.undef:=yF sh.b1 dx A cd aT;have Km:(Array.zip bt args.toArray).foldl (λtmps x=>match x with | (t,a)=>tmps.setIfInBounds t a) a.tmps=(bt.toList.zip args).foldl (λtmps p=>tmps.setIfInBounds p.1 p.2) a.tmps:=by
  rw[<-Array.foldl_toList];simp
 refine⟨(bt.toList.zip args).foldl (λtmps p=>tmps.setIfInBounds p.1 p.2) a.tmps,?_,?_⟩
 ·rw[<-Km];exact run_yield ah (by show args.toArray.size=bt.size;grind)
 have Hi:bu { CI with ep:=W,jA:=F,K0:=λr=>r<W.heap.size/\(Z r\/¬Y r) } (sh.ad A) a W kap F:=
  D.yN D.dX D.dj D.hB D.b1 (λl aI ab n ad e=>by have e:(sh.ad A).aA cd=.aS l aI ab n ad:=e;grind) (λ_ _=>rfl) (amn _) (λ_ h=>.inl h) (λ_ h=>h) (λ_ h=>h.1) (λ_ _=>rfl)
   (λb U h=>h.2.elim (bQ b U).2 λh=>h (bQ b U).1) (amn _) (dL.refl _) (Be Bg A)
 unfold xi at hm;split at hm
 ·rename_i rho b_ ar0;split at hm
  ·rename_i b6;rw[fN]at hm;have gn:bu { CI with ep:=W,jA:=F,K0:=λr=>r<W.heap.size/\(Z r\/¬Y r),bZ:=a.tmps.size,dj:=[],r:=none } ⟨(AX (sh.ad A) aI x bt.toList).aA,(sh.ad A).aa⟩ { tmps:=(bt.toList.zip args).foldl (λtmps p=>tmps.setIfInBounds p.1 p.2) a.tmps,defers:=[] } W kap F:=by
    refine D.yN arU rfl (by rw[D.dX];exact D.hB) (λi=>?_) (λet mX gb kt lp e=>?_) (λ_ _=>rfl) (amn _) (λ_ h=>.inl h) (λ_ h=>h) (λ_ h=>h.1) (λ_ _=>rfl)
     (λb U h=>h.2.elim (bQ b U).2 λh=>h (bQ b U).1) (amn _) (dL.refl _) (Be Bg A)
    ·show bM CI.P (sh.ad A).aa kap F W (if i=cd then (sh.ad A).aA cd else GI aI x bt.toList 0 (sh.ad A).aA i) _;split
     ·rw[h9];trivial
     ·exact aa9 bt.toList args 0 _ _ (by omega) (λp ai=>by grind) D.b1 (λi G=>by grind) i
    ·have e:(if cd=cd then (sh.ad A).aA cd else GI aI x bt.toList 0 (sh.ad A).aA cd)=.aS et mX gb kt lp:=e;grind
   obtain⟨F',own,jg,j',f1,bk,eJ,DD,aag,GX,RR⟩:=aai   Hi gn (by rfl) ar0 rfl b6;have LX:l<W.heap.size/\(Z l\/¬Y l):=⟨LW,.inl arY⟩
   have aa_:=λh=>(bk.hN l h).elim arZ λh=>h LX;have ar1:¬own l:=λh=>by
    rcases eJ l h with⟨b,E,L⟩ | ai
    ·exact (bk.own b E).2.2 (L ▸ LX)
    ·exact (bk.bR.nZ ai).2.2.2.1 LX
   have ar2:=λh=>(DD.low l h).2.2 LX;have aa':l<W.heap.size/\¬own l/\¬jg l:=⟨LW,ar1,ar2⟩
   have LY:=GX.LU       (r:=some l) (λ_ h=>h) (λ_ _=>rfl) (amn _) (dL.refl _) (λ_ h=>h.1) (λ_ _=>rfl) (amn _) (dL.refl _);refine roundIn_of_wpIn trivial ?_;refine wpIn_mono (Hn { vy CI W F' a.tmps.size own jg j' with r:=some l } rfl rfl rfl rfl (rin.ad rho) _ W _ ⟨_,_,LY⟩ hm) λe b4 dN bB=>?_;cases e with
   | normal=>
    obtain⟨u,s2,hu,⟨py,fR,c1⟩,cm⟩:=bB;have vI:=hu.iC l aa';have hp:=(c1.e5 l vI).trans ((hu.e5 l aa').trans ah);refine⟨_,run_beginRound hp rfl,?_⟩;have ar3:=(Array.getElem?_eq_some_iff.1 hp).1;have ar4:=λh=>(c1.hN l h).elim aa_ λh=>h vI;have s5:=c1.LU   (w':=dN.putObj l (.loop (hG fn a.tmps bt assign body B .busy .normal)))   (r:=some l) (λ_ h=>h)
     (λr h=>World.putObj_heap_other λe=>by
      subst e;exact h.elim ar4 λh=>h vI) (by simp) ⟨rfl,rfl,rfl⟩ (λr h=>by
       have:=c1.ir r h;have:=c1.size;simp;omega) (λ_ _=>rfl) (amn _) (dL.refl _)
    refine wpIn_mono (cm { ({ vy CI W F' a.tmps.size own jg j' with r:=some l }).iV u with ep:=dN.putObj l (.loop (hG fn a.tmps bt assign body B .busy .normal)),K0:=u.K,r:=some l } rfl rfl rfl rfl _ ⟨py,fR,s5⟩) λe eh hF ⟨aZ,v,fh,bl,he,af,⟨LZ,aba,pB⟩,gK,xv⟩=>?_;subst he;obtain⟨LZ,ar5,f4,rh⟩:=eC.Dp gK pB;have Ao:=af.iC l vI;have abb:=(rh.e5 l Ao).trans ((af.e5 l vI).trans (World.putObj_heap_same ar3));have aMe:=(Array.getElem?_eq_some_iff.1 abb).1;have aMf:=λh=>(rh.hN l h).elim aa_ λh=>h Ao;generalize hr:(if (vH aZ).isNone then LoopState.ready else .done)=lp;refine arW abb ?_;rw[hr];have oa:bu { CI with ep:=W.putObj l (.loop (hG fn a.tmps bt assign body B lp aZ)),jA:=F,K0:=λr=>r<W.heap.size/\(Z r\/¬Y r) } ((sh.ad A).cD b_) a (W.putObj l (.loop (hG fn a.tmps bt assign body B lp aZ))) kap F':=
     bk.LU (λ_ h=>h) (λr h=>World.putObj_heap_other λe=>by
      grind) (by simp) ⟨rfl,rfl,rfl⟩ (λr h=>by simp_all) (λ_ _=>rfl) (amn _) (dL.refl _)
    have Ds:W.heap.size<=hF.heap.size:=by
     have E:=hu.size;have L:=c1.size;have an:=af.size;have a6:=rh.size;have E:W.heap.size<=u.w.heap.size:=E;have L:u.w.heap.size<=dN.heap.size:=L;have a6:v.w.heap.size<=hF.heap.size:=a6;simp  at an;omega
    have q6:=by
     have E:=hu.eN;have L:=c1.eN;have an:dL dN v.w:=⟨af.eN.os,af.eN.tape,af.eN.output⟩
     exact E.trans (L.trans (an.trans rh.eN))
    have ar6:∀ i,(eb.ad bl).aA i=.undef:=λi=>arV aM dx bl i;have pA:∀ r,(r<(W.putObj l (.loop (hG fn a.tmps bt assign body B lp aZ))).heap.size/\¬own r/\¬jg r)->(r<W.heap.size/\¬own r/\¬jg r):=λr h=>⟨by simp_all,h.2⟩
    have iU:=rh.yN   (w':=hF.putObj l (.loop (hG fn a.tmps bt assign body B lp aZ)))   (K0:=λr=>r<(W.putObj l (.loop (hG fn a.tmps bt assign body B lp aZ))).heap.size/\¬own r/\¬jg r)     (r:=none) (sl:=(eb.ad bl).aA) (a':={ tmps:=#[],defers:=[] }) rfl rfl (aPR _)
     (λi=>by rw[ar6];trivial) (λl aI ab n ad e=>by grind)
     (λr h=>World.putObj_heap_other λe=>by
      subst e;rcases h with h | ⟨b,E,L⟩
      ·grind
      ·exact (rh.own b E).2.2 (L ▸ Ao)) (by simp) (λr h=>(rh.hN r h).imp id λh e0=>h (af.iC r (hu.iC r (pA r e0)))) rh.iq (λr h=>h.1)
     (λr h=>by
      by_cases e:r=l
      ·grind [World.putObj_heap_same]
      ·rw[World.putObj_heap_other e,World.putObj_heap_other e];have E:=hu.iC r (pA r h);exact (rh.e5 r (af.iC r E)).trans ((af.e5 r E).trans ((World.putObj_heap_other e).trans ((c1.e5 r E).trans (hu.e5 r (pA r h))))))
     (λb U h=>(rh.own b U).2.2 (af.iC _ (hu.iC _ (pA _ h)))) (by simp_all) ⟨q6.os,q6.tape,q6.output⟩ (Be xm bl)
    obtain⟨kapn,ql,_⟩:=RR (W.putObj l (.loop (hG fn a.tmps bt assign body B lp aZ))) (W.putObj l (.loop (hG fn a.tmps bt assign body B lp aZ))) oa ⟨λet mX gb kt lp e=>(by
      grind),λr h=>⟨by simpa using (DD.low r h).1,(DD.low r h).2⟩,DD.own,DD.Lu,DD.bR⟩ bl [] (hF.putObj l (.loop (hG fn a.tmps bt assign body B lp aZ))) LZ ar5 iU
    obtain⟨kB,abc,aMg⟩:=xt xv;obtain⟨kapn,aMh,_,aMi⟩:=eC.Dp abc ql;grind [hG,dO,World.putObj_heap_same]
   | _=>exact bB.elim
  ·exact hm.1.elim
 ·exact hm.1.elim
theorem abd{o f_:Obj}{r:Nat}(h:r<w.heap.size):((w.alloc o).alloc f_).heap[r]?=w.heap[r]?:=
 (rH _ _ (by simp;omega)).trans (rH _ _ h)
def ar7(C CI:cH)(sh rin eb:eC)(aI:V)(ck:List aI.aj->Prop)(bt:Array Tmp)(assign body:Code)(a:Act)(fn:FuncId)(l B:Nat)(run:aB->M (dS×eb.aj))(k:dS->aB->M bet)(O:bet->Prop)
  (ad:Bool) (F Y:Nat->Prop) (W:World):Prop:=
 ∃ (e:dS) (A:sh.aj) (kap:Nat->bL),bu CI (sh.ad A) a W kap F/\W.heap[l]?=some (.loop (hG fn a.tmps bt assign body B (if ad then .done else .ready) e))/\W.heap[B]?=some (.deferred (some []))/\
  (∀ b,((sh.ad A).aa b).body.ch (kap b)=true->Y (kap b).aa/\¬((kap b).aa=l\/(kap b).aa=B))/\Y l/\Y B/\¬F l/\¬F B/\C.P=CI.P/\
  (ad=false->e=.normal/\∀ R,ck R->c' (kl (λA y=>xi sh rin eb aI bt.toList A y run) R A) λp=>c' (k p.1 (sh.ad p.2)) O)/\(ad=true->e≠.normal/\c' (k e (sh.ad A)) O)
theorem abe{C CI:cH}{sh rin:eC}{S:List aI.aj->Prop}{body:Code}{fn:FuncId}{B:Nat}{run:aB->M (dS×eb.aj)}{k:dS->aB->M bet}{O:bet->Prop}
  (kC:CI.K0=λ_=>False) (ar8:l≠B) (fg:nD sh eb aI bt.toList a.tmps.size=true) (Hn:LV CI.P CI.aX a.tmps.size assign body l run) :
  JT CI.P (gv CI.P aI) l S λpre=>ar7 C CI sh rin eb aI (λR=>S (pre++R)) bt assign body a fn l B run k O where
 FD:=λ{pre ad F F' Y w w'} h bp heq cN kx mv Hl=>by
  have hc:dL w w':=⟨kx.1,kx.2.1,kx.2.2⟩
  obtain⟨e,A,kap,D,E,L,an,a6,bS,ek,iQ,k6,zQ⟩:=h;have h9:=by
   simp only[nD,amm,aPO]at fg;exact yF sh.b1 dx A cd fg.1.1.1.2
  have qm:∀ (A:sh.aj) r,¬la (sh.ad A).aa r:=λA=>by
   grind [nD,Be]
  have xw:∀ r,CI.K0 r->False:=λr h=>by grind
  refine⟨e,A,kap,?_,(heq l (.inr a6)).trans E,(heq B (.inr bS)).trans L,an,a6,bS,λh=>Hl l h a6,λh=>Hl B h bS,k6,zQ⟩;exact D.aa8 D.dX D.dj D.hB D.b1 (λet mX gb kt lp e=>by grind)
   (λr bk=>heq r (bk.imp id λ⟨b,U,e⟩=>e ▸ (an b U).1)) cN bp mv (λb U ay=>Hl _ ay (an b U).1) (λr _=>.inr (xw r)) (λr h=>bp r (D.iq r h)) (λr h=>(xw r h).elim) (λr h=>(xw r h).elim) (λb _=>xw _)
   (aPL D.size cN) (D.eN.trans hc) (qm A)
 yield:=λ{pre F Y w args x} h mv abf al fu=>by
  obtain⟨Sr,Ss⟩:=al;obtain⟨e,A,kap,D,E,L,an,a6,bS,ek,iQ,k6,zQ,_⟩:=h;obtain⟨rfl,hm⟩:=zQ rfl;have qm:∀ (A:sh.aj) r,¬la (sh.ad A).aa r:=λA=>by
   grind [nD,Be]
  have h9:∀ A,(sh.ad A).aA cd=.undef:=λA=>by
   simp only[nD,amm,aPO]at fg;exact yF sh.b1 dx A cd fg.1.1.1.2
  have xw:∀ r,CI.K0 r->False:=λr h=>by grind
  have hm:c' (xi sh rin eb aI bt.toList A x run) λp=>∀ T,S (pre++x::T)->c' (match p.1 with
    | .normal=>kl (λA y=>xi sh rin eb aI bt.toList A y run) T p.2
    | .exit id=>mpure (.exit id,p.2)
    | .ret=>mpure (.ret,p.2)) λp=>c' (k p.1 (sh.ad p.2)) O:=by
   have E:=λT aU=>fN.1 (hm (x::T) aU);exact⟨(E Sr Ss).1,λy ba T aU=>(E T aU).2 y ba⟩
  obtain⟨tmps,ba,ar9⟩:=arX (Z:=λr=>r=l\/r=B) (.inl rfl) D fg Hn hm E ek an fu;refine⟨fn,tmps,assign,body,ba,ar9.mono λaZ s4 ⟨bN,kB,bT,F',o,he,xv,rZ,bk⟩=>?_⟩;have LW:=(abf l a6).1;have abg:=(abf B bS).1;have dt:=bk.iq;have ei:∀ r,F' r->F r\/Y r\/w.heap.size<=r:=λr c1=>by
   rcases bk.hN r c1 with h | h<;>grind
  have abh:=λr dv ay bA vC=>(bk.hN r vC).elim ay λh=>h ⟨dv,.inl bA⟩;have ar_:=abh l LW ek (.inl rfl);have Bb:=abh B abg iQ (.inr rfl);have abi:∀ b,((sh.ad kB).aa b).body.ch (bT b)=true->¬((bT b).aa=l\/(bT b).aa=B)/\(Y (bT b).aa\/w.heap.size<=(bT b).aa):=λb U=>by
   have ak:=(bk.own b U).2.2;grind
  have abj:w.heap.size<=s4.heap.size:=by have:=bk.size;simp_all
  have gc:dL w s4:=⟨bk.eN.os,bk.eN.tape,bk.eN.output⟩
  refine⟨(vH bN).isNone,F',λr=>(∃ b,((sh.ad kB).aa b).body.ch (bT b)=true/\(bT b).aa=r)\/r=l\/r=B,he,dt,ei,bk.ds,λr dv ba=>?_,λr c1=>?_,abj,⟨gc.os,gc.tape,gc.output⟩,?_⟩
  ·have eM:r≠l:=λe=>ba (e ▸ a6);exact (bk.e5 r ⟨dv,.inr ba⟩).trans (World.putObj_heap_other eM)
  ·rcases c1 with⟨b,U,rfl⟩ | rfl | rfl
   ·exact⟨(abi b U).2,(bk.own b U).1,(bk.own b U).2.1⟩
   ·grind
   grind
  ·refine⟨bN,kB,bT,?_,?_,?_,λb U=>⟨.inl ⟨b,U,rfl⟩,(abi b U).1⟩,.inr (.inl rfl),.inr (.inr rfl),ar_,Bb,k6,λhr=>?_,λhr=>?_⟩
   ·exact bk.yN bk.dX bk.dj bk.hB bk.b1 (λet mX gb kt lp e=>by have e:(sh.ad kB).aA cd=.aS et mX gb kt lp:=e;grind) (λ_ _=>rfl) (amn _) (λr _=>.inr (xw r)) (λr h=>dt r (D.iq r h))
     (λr h=>(xw r h).elim) (λr h=>(xw r h).elim) (λb _=>xw _) (aPL D.size abj) (D.eN.trans gc) (qm kB)
   ·grind
   ·exact (bk.e5 B ⟨abg,.inl (.inr rfl)⟩).trans ((World.putObj_heap_other (Ne.symm ar8)).trans L)
   ·cases bN with
    | normal=>grind
    | _=>cases hr
   ·cases bN with
    | normal=>cases hr
    | exit id=>exact⟨by simp,(xv Sr Ss).2 _ rfl⟩
    | ret=>exact⟨by simp,(xv Sr Ss).2 _ rfl⟩
theorem abk{P:Program}{S:List aI.aj->Prop}{I:List aI.aj->Bool->(Nat->Prop)->(Nat->Prop)->World->Prop}(h:JT P (gv P aI) l S I):nY.jZ P ⟨l,aI,S,I⟩ where
 FD:=λE L an a6 bS ek iQ=>h.FD E L an a6 ⟨bS.os,bS.tape,bS.output⟩ ek iQ
 yield:=λE L an a6 bS=>YieldAt.mono (h.yield E L an a6 bS) λ_ _ ⟨b,F',jg,aM,aT,b5,hC,q4,xm,Bg,Ho,St⟩=>⟨b,F',jg,aM,aT,b5,hC,q4,xm,Bg,⟨Ho.1,Ho.2.1,Ho.2.2⟩,St⟩
theorem ar'{C:cH}(iW:C.r=none)(D:dd C s a w){g:Operand}{body:Code}{uq n:Nat}{gw:Nat->aL}(aD:bh C.aX s.aA g=.u9 uq n gw){ic:Di}(abl:G2 C.P uq ic)
    {x:ic.ts.aj} {b_:List Nat} (al:(kd ic.ts ((List.range n).map gw)).run s.aa=some (x,b_)) {sh rin eb:eC} (fg:nD sh eb ic.aI bt.toList C.bZ=true) {oU:sh.aj} (qk:sh.kR (s.cD b_)=some oU) (hQ:ic.pre x)
    {run:aB->M (dS×eb.aj)} {k:dS->aB->M bet} {O:bet->Prop} (hm:c' (kl (λA y=>xi sh rin eb ic.aI bt.toList A y run) (ic.seq x) oU) λp=>c' (k p.1 (sh.ad p.2)) O)
    (Hn:∀ l,LV C.P C.aX C.bZ assign body l run) {Q:Exit->Act->World->Prop}
    (ak:∀ u,C.lO u->∀ e s' a' w',dd (C.iV u) s' a' w'->c' (k e s') O->Q e.rT a' w'):(Code.rangeFunc g bt assign body).wpIn (eY C.r) 0 C.P Q a w:=by
  obtain⟨kap,F,D⟩:=D;obtain⟨ui,f1,gn,f2⟩:=bu.mR (rO _ al) D;obtain⟨kap,fR,f3,c1⟩:=eC.Dp qk gn;have af:=lJ D g;rw[aD]at af;obtain⟨aG,rI,jP,aqp⟩:=af;have asa:gv C.P ic.ts ui w aG x:=w7 D.bF f1 ic.ts al f2 (by grind) λi G d_=>by
    grind
  have h9:∀ A,(sh.ad A).aA cd=.undef:=λA=>by
    simp only[nD,amm,aPO]at fg;exact yF sh.b1 dx A cd fg.1.1.1.2
  have qm:∀ (A:sh.aj) r,¬la (sh.ad A).aa r:=λA=>by
    simp only[nD,amm,aPO]at fg;exact Be fg.1.1.1.1.2.2 A
  rw[iW];refine wpIn_rangeFunc λfn _=>?_;have a1:w.heap.size<((w.alloc (.deferred (some []))).alloc (.loop (hG fn a.tmps bt assign body w.heap.size .ready .normal))).heap.size:=by simp;omega
  have ah:w.heap.size+1<((w.alloc (.deferred (some []))).alloc (.loop (hG fn a.tmps bt assign body w.heap.size .ready .normal))).heap.size:=by simp
  have Hp:((w.alloc (.deferred (some []))).alloc (.loop (hG fn a.tmps bt assign body w.heap.size .ready .normal))).heap[w.heap.size+1]?=some (.loop (hG fn a.tmps bt assign body w.heap.size .ready .normal)):=by
    have:=tR (w.alloc (.deferred (some []))) (.loop (hG fn a.tmps bt assign body w.heap.size .ready .normal));simp_all
  have Hq:((w.alloc (.deferred (some []))).alloc (.loop (hG fn a.tmps bt assign body w.heap.size .ready .normal))).heap[w.heap.size]?=some (.deferred (some [])):=
    (rH _ _ (by simp)).trans (tR w _)
  have sZ:∀ r,r<w.heap.size->((w.alloc (.deferred (some []))).alloc (.loop (hG fn a.tmps bt assign body w.heap.size .ready .normal))).heap[r]?=w.heap[r]?:=λr h=>abd h;have Hr:(Instr.enterLoop fn a.tmps bt assign body none).run C.P w=.ok (w.heap.size+1,[uB w.heap.size]) ((w.alloc (.deferred (some []))).alloc (.loop (hG fn a.tmps bt assign body w.heap.size .ready .normal))):=run_enterLoop_outer fn a.tmps bt assign body;have Bf:dL w ((w.alloc (.deferred (some []))).alloc (.loop (hG fn a.tmps bt assign body w.heap.size .ready .normal))):=⟨rfl,rfl,rfl⟩
  have KI:((w.alloc (.deferred (some []))).alloc (.loop (hG fn a.tmps bt assign body w.heap.size .ready .normal))).heap.size=w.heap.size+2:=by simp
  generalize (w.alloc (.deferred (some []))).alloc (.loop (hG fn a.tmps bt assign body w.heap.size .ready .normal))=cj at a1 ah Hp Hq sZ Hr Bf KI;have rW:di fR w cj:=⟨by omega,λr h=>sZ r (c1.ds r h)⟩
  have fu:=(asa.mono f3 (di.refl _ _)).mono (λ_ h=>h) rW;have fk:bu { C with ep:=cj,jA:=fR,K0:=λ_=>False } (sh.ad oU) a cj kap fR:=
    c1.yN c1.dX c1.dj c1.hB c1.b1 (λet mX gb kt lp e=>by have e:(sh.ad oU).aA cd=.aS et mX gb kt lp:=e;grind)
      (λr h=>sZ r (by
        rcases h with h | ⟨b,U,rfl⟩
        · exact c1.ds r h
        · exact (c1.own b U).1)) (by omega) (λ_ h=>.inl h) (λ_ h=>h) (λ_ h=>h.elim) (λ_ h=>h.elim) (λ_ _ h=>h) (amn _) (dL.refl _) (qm oU)
  have Su:=abk (abe (S:=λT=>T=ic.seq x) (C:=C) (CI:={ C with ep:=cj,jA:=fR,K0:=λ_=>False })   (rin:=rin)     (assign:=assign) (body:=body)   (fn:=fn) (l:=w.heap.size+1) (B:=w.heap.size) (run:=run) (k:=k) (O:=O)
    rfl (by omega) (by rw[D.dX];omega) (by rw[D.dX];grind))
  have fD:∀ b,((sh.ad oU).aa b).body.ch (kap b)=true->¬((kap b).aa=w.heap.size+1\/(kap b).aa=w.heap.size):=λb U h=>by
    have:=(c1.own b U).1;omega
  have DE:=abl.ik (w.heap.size+1) _ fR (λr=>(∃ b,((sh.ad oU).aa b).body.ch (kap b)=true/\(kap b).aa=r)\/r=w.heap.size+1\/r=w.heap.size) cj aG x fu hQ Su (λr h=>fk.ds r h) fk.hX
    (λr h=>by
      rcases h with⟨b,U,rfl⟩ | rfl | rfl
      · exact⟨(fk.own b U).1,(fk.own b U).2.1⟩
      · exact⟨ah,λh=>by have:=c1.ds _ h;omega⟩
      · exact⟨a1,λh=>by have:=c1.ds _ h;omega⟩)
    ⟨.normal,oU,kap,fk,Hp,Hq,λb U=>⟨.inl ⟨b,U,rfl⟩,fD b U⟩,.inr (.inl rfl),.inr (.inr rfl),λh=>by have:=c1.ds _ h;omega,λh=>by have:=c1.ds _ h;omega,rfl,λ_=>⟨rfl,λR fp=>by grind⟩,λh=>by grind⟩
  refine⟨w.heap.size+1,[uB w.heap.size],cj,{ target:=.fn (.func uq) #[],args:=aG.toArray++#[.func (.yield (w.heap.size+1)) #[] #[]] },cj,uq,(aG++[Value.func (.yield (w.heap.size+1)) #[] #[]]).toArray,cj,Hr,?_,λ_ _=>trivial,?_,λh=>(by cases h),callsIn_wide.2 (DE.mono λe hF ⟨v,kt,ad,F',jg,he,hr,hinv,dt,ei,j2,g4,q2,xn,g7⟩=>?_)⟩
  · have e:a.eval (.const (.func (.yield (w.heap.size+1)) #[] #[]))=.func (.yield (w.heap.size+1)) #[] #[]:=rfl
    simp[resolve,rI,Deferred.ofValue,e]
  · have:=abl.enter (aG++[Value.func (.yield (w.heap.size+1)) #[] #[]]).toArray cj
    simpa [invoke]using this
  subst he;obtain⟨e,A,bT,pB,E,L,an,a6,bS,ek,iQ,_,k6,zQ⟩:=hinv;refine⟨vH e,_,run_endLoop E (by cases ad<;>simp[hG]),?_⟩;generalize bb:Obj.loop _=cy;have iU:c' (k e (sh.ad A)) O:=by
    cases ad with
    | true=>grind
    | false=>
      obtain⟨rfl,hE⟩:=k6 rfl;exact (hE [] (show kt++[]=ic.seq x by grind)).2 _ rfl
  have yH:=λr h=>aPG (D.ir r h) D.size;have xu:∀ r,C.K0 r->(hF.putObj (w.heap.size+1) cy).heap[r]?=C.ep.heap[r]?:=λr h=>by
    have dv:=yH r h;rw[World.putObj_heap_other (by omega),g4 r (by omega) λba=>?_,sZ r dv]
    · exact D.e5 r h
    · rcases ba with⟨b,U,rfl⟩ | rfl | rfl
      · exact (c1.own b U).2.2 h
      · omega
      omega
  have q6:dL C.ep (hF.putObj (w.heap.size+1) cy):=by
    have:=(D.eN.trans Bf).trans g7;exact⟨this.os,this.tape,this.output⟩
  have DF:C.lO ⟨hF.putObj (w.heap.size+1) cy,λr=>C.K0 r\/r=w.heap.size,[w.heap.size]⟩:=
    { vG := λB a1 => by
        have:B=w.heap.size:=by grind
        subst this;exact⟨.inr rfl,(World.putObj_heap_other (by omega)).trans L⟩
      fo:=λB a1=>by
        have:B=w.heap.size:=by grind
        subst this;exact⟨λh=>by grind,D.size⟩
      ko:=by simp
      iC:=λ_ h=>.inl h
      e5:=xu
      size:=by have:=D.size;simp;omega
      eN:=q6 }
  have ql:dd (C.iV ⟨hF.putObj (w.heap.size+1) cy,λr=>C.K0 r\/r=w.heap.size,[w.heap.size]⟩) (sh.ad A) { a with defers:=[uB w.heap.size]++a.defers } (hF.putObj (w.heap.size+1) cy):=by
    have Sv:∀ r,F' r->C.jA r\/¬(C.K0 r\/r=w.heap.size):=λr bk=>by
      rcases ei r bk with h | h | h
      · rcases c1.hN r h with e0 | e0<;>grind
      · rcases h with⟨b,U,rfl⟩ | rfl | rfl
        · exact .inr λak=>ak.elim (c1.own b U).2.2 λe=>fD b U (.inr e)
        · grind
        grind
      grind
    refine⟨bT,F',pB.yN   pB.dX (by rw[D.dj];rfl) pB.hB pB.b1 (λet mX gb kt lp e=>by have e:(sh.ad A).aA cd=.aS et mX gb kt lp:=e;grind)
      (λr h=>World.putObj_heap_other λe=>by
        grind) (by simp) Sv (λr h=>dt r (c1.iq r h)) (λr h=>?_) (λ_ _=>rfl) (λb U h=>?_) (amn _) (dL.refl _) (qm A)⟩
    · simp
      grind
    · rcases h with h | h
      · rcases (q2 _ (an b U).1).1 with ba | ba
        · rcases ba with⟨bj,ef,e⟩ | e | e
          · exact (c1.own bj ef).2.2 (e ▸ h)
          · grind
          grind
        grind
      grind
  have bB:=ak _ DF e _ _ _ ql iU;cases e with
  | normal=>exact bB
  | exit id=>exact wpIn_exit bB
  | ret=>exact wpIn_ret bB
theorem asb{C:cH}(iW:C.r=none)(D:dd C s a w){g:Operand}{body:Code}{S:List aI.aj->Prop}(aD:bh C.aX s.aA g=.val (.cG aI) S)
    {sh rin eb:eC} (fg:nD sh eb aI bt.toList C.bZ=true) {oU:sh.aj} (qk:sh.kR s=some oU) (eM:∃ ab,S ab)
    {run:aB->M (dS×eb.aj)} {k:dS->aB->M bet} {O:bet->Prop} (hm:∀ ab,S ab->c' (kl (λA y=>xi sh rin eb aI bt.toList A y run) ab oU) λp=>c' (k p.1 (sh.ad p.2)) O)
    (Hn:∀ l,LV C.P C.aX C.bZ assign body l run) {Q:Exit->Act->World->Prop}
    (ak:∀ u,C.lO u->∀ e s' a' w',dd (C.iV u) s' a' w'->c' (k e s') O->Q e.rT a' w'):(Code.rangeFunc g bt assign body).wpIn (eY C.r) 0 C.P Q a w:=by
  obtain⟨kap,F,D⟩:=D;obtain⟨kap,fR,f3,c1⟩:=eC.Dp qk D;have af:=lJ D g;rw[aD]at af;have rI:=fH _ f3 (di.refl _ _) ((ee rfl).1 af).2;obtain⟨u,hu,_,asc⟩:=rI;have hu:=(aPQ hu).1;have h9:∀ A,(sh.ad A).aA cd=.undef:=λA=>by
    simp only[nD,amm,aPO]at fg;exact yF sh.b1 dx A cd fg.1.1.1.2
  have qm:∀ (A:sh.aj) r,¬la (sh.ad A).aa r:=λA=>by
    simp only[nD,amm,aPO]at fg;exact Be fg.1.1.1.1.2.2 A
  rw[iW];refine wpIn_rangeFunc λfn _=>?_;have a1:w.heap.size<((w.alloc (.deferred (some []))).alloc (.loop (hG fn a.tmps bt assign body w.heap.size .ready .normal))).heap.size:=by simp;omega
  have ah:w.heap.size+1<((w.alloc (.deferred (some []))).alloc (.loop (hG fn a.tmps bt assign body w.heap.size .ready .normal))).heap.size:=by simp
  have Hp:((w.alloc (.deferred (some []))).alloc (.loop (hG fn a.tmps bt assign body w.heap.size .ready .normal))).heap[w.heap.size+1]?=some (.loop (hG fn a.tmps bt assign body w.heap.size .ready .normal)):=by
    have:=tR (w.alloc (.deferred (some []))) (.loop (hG fn a.tmps bt assign body w.heap.size .ready .normal));simp_all
  have Hq:((w.alloc (.deferred (some []))).alloc (.loop (hG fn a.tmps bt assign body w.heap.size .ready .normal))).heap[w.heap.size]?=some (.deferred (some [])):=
    (rH _ _ (by simp)).trans (tR w _)
  have sZ:∀ r,r<w.heap.size->((w.alloc (.deferred (some []))).alloc (.loop (hG fn a.tmps bt assign body w.heap.size .ready .normal))).heap[r]?=w.heap[r]?:=λr h=>abd h;have Hr:(Instr.enterLoop fn a.tmps bt assign body none).run C.P w=.ok (w.heap.size+1,[uB w.heap.size]) ((w.alloc (.deferred (some []))).alloc (.loop (hG fn a.tmps bt assign body w.heap.size .ready .normal))):=run_enterLoop_outer fn a.tmps bt assign body;have Bf:dL w ((w.alloc (.deferred (some []))).alloc (.loop (hG fn a.tmps bt assign body w.heap.size .ready .normal))):=⟨rfl,rfl,rfl⟩
  have KI:((w.alloc (.deferred (some []))).alloc (.loop (hG fn a.tmps bt assign body w.heap.size .ready .normal))).heap.size=w.heap.size+2:=by simp
  generalize (w.alloc (.deferred (some []))).alloc (.loop (hG fn a.tmps bt assign body w.heap.size .ready .normal))=cj at a1 ah Hp Hq sZ Hr Bf KI;have rW:di fR w cj:=⟨by omega,λr h=>sZ r (c1.ds r h)⟩
  have fk:bu { C with ep:=cj,jA:=fR,K0:=λ_=>False } (sh.ad oU) a cj kap fR:=
    c1.yN c1.dX c1.dj c1.hB c1.b1 (λet mX gb kt lp e=>by have e:(sh.ad oU).aA cd=.aS et mX gb kt lp:=e;grind)
      (λr h=>sZ r (by
        rcases h with h | ⟨b,U,rfl⟩
        · exact c1.ds r h
        · exact (c1.own b U).1)) (by omega) (λ_ h=>.inl h) (λ_ h=>h) (λ_ h=>h.elim) (λ_ h=>h.elim) (λ_ _ h=>h) (amn _) (dL.refl _) (qm oU)
  have Su:=abe (S:=S) (C:=C) (CI:={ C with ep:=cj,jA:=fR,K0:=λ_=>False })   (rin:=rin)     (assign:=assign) (body:=body)   (fn:=fn) (l:=w.heap.size+1) (B:=w.heap.size) (run:=run) (k:=k) (O:=O)
    rfl (by omega) (by rw[D.dX];omega) (by rw[D.dX];grind)
  have fD:∀ b,((sh.ad oU).aa b).body.ch (kap b)=true->¬((kap b).aa=w.heap.size+1\/(kap b).aa=w.heap.size):=λb U h=>by
    have:=(c1.own b U).1;omega
  obtain⟨uq,dP,asd,uu,Rw⟩:=asc fR cj (λ_ h=>h) rW (λr h=>fk.ds r h) fk.hX eM;have DE:=Rw (w.heap.size+1) _ (λr=>(∃ b,((sh.ad oU).aa b).body.ch (kap b)=true/\(kap b).aa=r)\/r=w.heap.size+1\/r=w.heap.size)
    (λr h=>by
      rcases h with⟨b,U,rfl⟩ | rfl | rfl
      · exact⟨(fk.own b U).1,(fk.own b U).2.1⟩
      · exact⟨ah,λh=>by have:=c1.ds _ h;omega⟩
      · exact⟨a1,λh=>by have:=c1.ds _ h;omega⟩)
    Su ⟨.normal,oU,kap,fk,Hp,Hq,λb U=>⟨.inl ⟨b,U,rfl⟩,fD b U⟩,.inr (.inl rfl),.inr (.inr rfl),λh=>by have:=c1.ds _ h;omega,λh=>by have:=c1.ds _ h;omega,rfl,λ_=>⟨rfl,λR fp=>hm R fp⟩,λh=>by grind⟩
  refine⟨w.heap.size+1,[uB w.heap.size],cj,{ target:=.fn (.func uq) dP,args:=#[.func (.yield (w.heap.size+1)) #[] #[]] },cj,uq,#[Value.func (.yield (w.heap.size+1)) #[] #[]]++dP,cj,Hr,?_,λ_ _=>trivial,?_,λh=>(by cases h),callsIn_wide.2 (DE.mono λe hF ⟨v,pre,ad,F',jg,he,hr,hinv,dt,ei,j2,g4,q2,xn,Sw⟩=>?_)⟩
  · have e:a.eval (.const (.func (.yield (w.heap.size+1)) #[] #[]))=.func (.yield (w.heap.size+1)) #[] #[]:=rfl
    simp[resolve,hu,asd,Deferred.ofValue,e]
  · have:=uu (#[Value.func (.yield (w.heap.size+1)) #[] #[]]++dP) cj
    simpa [invoke]using this
  have g7:dL cj hF:=⟨Sw.1,Sw.2.1,Sw.2.2⟩
  subst he;obtain⟨e,A,bT,pB,E,L,an,a6,bS,ek,iQ,_,k6,zQ⟩:=hinv;refine⟨vH e,_,run_endLoop E (by cases ad<;>simp[hG]),?_⟩;generalize bb:Obj.loop _=cy;have iU:c' (k e (sh.ad A)) O:=by
    cases ad with
    | true=>grind
    | false=>
      obtain⟨rfl,hE⟩:=k6 rfl;exact (hE [] (show S (pre++[]) by grind)).2 _ rfl
  have yH:=λr h=>aPG (D.ir r h) D.size;have xu:∀ r,C.K0 r->(hF.putObj (w.heap.size+1) cy).heap[r]?=C.ep.heap[r]?:=λr h=>by
    have dv:=yH r h;rw[World.putObj_heap_other (by omega),g4 r (by omega) λba=>?_,sZ r dv]
    · exact D.e5 r h
    · rcases ba with⟨b,U,rfl⟩ | rfl | rfl
      · exact (c1.own b U).2.2 h
      · omega
      omega
  have q6:dL C.ep (hF.putObj (w.heap.size+1) cy):=by
    have:=(D.eN.trans Bf).trans g7;exact⟨this.os,this.tape,this.output⟩
  have DF:C.lO ⟨hF.putObj (w.heap.size+1) cy,λr=>C.K0 r\/r=w.heap.size,[w.heap.size]⟩:=
    { vG := λB a1 => by
        have:B=w.heap.size:=by grind
        subst this;exact⟨.inr rfl,(World.putObj_heap_other (by omega)).trans L⟩
      fo:=λB a1=>by
        have:B=w.heap.size:=by grind
        subst this;exact⟨λh=>by grind,D.size⟩
      ko:=by simp
      iC:=λ_ h=>.inl h
      e5:=xu
      size:=by have:=D.size;simp;omega
      eN:=q6 }
  have ql:dd (C.iV ⟨hF.putObj (w.heap.size+1) cy,λr=>C.K0 r\/r=w.heap.size,[w.heap.size]⟩) (sh.ad A) { a with defers:=[uB w.heap.size]++a.defers } (hF.putObj (w.heap.size+1) cy):=by
    have Sv:∀ r,F' r->C.jA r\/¬(C.K0 r\/r=w.heap.size):=λr bk=>by
      rcases ei r bk with h | h | h
      · rcases c1.hN r h with e0 | e0<;>grind
      · rcases h with⟨b,U,rfl⟩ | rfl | rfl
        · exact .inr λak=>ak.elim (c1.own b U).2.2 λe=>fD b U (.inr e)
        · grind
        grind
      grind
    refine⟨bT,F',pB.yN   pB.dX (by rw[D.dj];rfl) pB.hB pB.b1 (λet mX gb kt lp e=>by have e:(sh.ad A).aA cd=.aS et mX gb kt lp:=e;grind)
      (λr h=>World.putObj_heap_other λe=>by
        grind) (by simp) Sv (λr h=>dt r (c1.iq r h)) (λr h=>?_) (λ_ _=>rfl) (λb U h=>?_) (amn _) (dL.refl _) (qm A)⟩
    · simp
      grind
    · rcases h with h | h
      · rcases (q2 _ (an b U).1).1 with ba | ba
        · rcases ba with⟨bj,ef,e⟩ | e | e
          · exact (c1.own bj ef).2.2 (e ▸ h)
          · grind
          grind
        grind
      grind
  have bB:=ak _ DF e _ _ _ ql iU;cases e with
  | normal=>exact bB
  | exit id=>exact wpIn_exit bB
  | ret=>exact wpIn_ret bB
section
variable {F:Fence} {n:Nat} {P:Program} {Q:Exit->Act->World->Prop} {a:Act} {w:World}
variable {c:Code}
theorem ase{L0:Type}{body:L0->M (aJ L0 bet)}{O:bet->Prop}(I:L0->Act->World->Prop)
  (round:∀ A a w,I A a w->(body A).e3->(∀ r,(body A).a_ (.aV r)->O r)->c.wpIn F n P (Exit.then (λa' w'=>∃ kB,(body A).a_ (.aw kB)/\I kB a' w') Q) a w)
  {A:L0} (az:FC body A) (au:∀ r,CC body A r->O r) (fk:I A a w):(Code.loop c).wpIn F n P Q a w:=by
 intro b k cs rX U D;have key:∀ A,FC body A->(∀ r,CC body A r->O r)->∀ a w,I A a w->
   ∃ e a' w',Q e a' w'/\ArrivesIn (Machine.fenced P F) P (lone (b.atR a (.code c::.inLoop c::k)) cs w) b k cs e a' w':=by
  intro A az;induction az with
  | mk A h _ aP=>
   intro au a w fk;obtain⟨e,oc,od,bB,ga⟩:=round A a w fk h (λr D=>au r (.aV _ _ D)) b (.inLoop c::k) cs rX U D;cases e with
   | normal=>
    obtain⟨kB,ri,asf⟩:=bB;obtain⟨Sx,Sy,Sz,SA,SB⟩:=aP kB ri (λr D=>au r (.aw _ _ _ ri D)) oc od asf;exact⟨Sx,Sy,Sz,SA,.of_steps (StepsIn.trans ga (.one (fenced_calm U D rfl) stepR_inLoop)) SB⟩
   | exit id=>exact⟨_,oc,od,bB,.pass   rfl (λ_ _=>.inl (by simp)) ga⟩
   | goto l=>exact⟨_,oc,od,bB,.pass   rfl (λ_ _=>.inl (by simp)) ga⟩
   | ret=>exact⟨_,oc,od,bB,.pass   rfl (λ_ _=>.inl (by simp)) ga⟩
   | panic SC=>exact⟨_,oc,od,bB,.pass   rfl (λ_ _=>.inl (by simp)) ga⟩
   | outgrown=>exact⟨_,oc,od,bB,.pass   rfl (λ_ _=>.inl (by simp)) ga⟩
 obtain⟨e,a',w',bB,ga⟩:=key A az au a w fk;exact⟨e,a',w',bB,.of_steps (.one (fenced_calm U D rfl) stepR_loop) ga⟩
theorem asg{p q:Prop}(bB:q)(h:q->p):p/\q:=⟨h bB,bB⟩
def L1(F:Fence)(n:Nat)(P:Program)(c:Code)(Q:Exit->Act->World->Prop)(a:Act)(w:World):Prop:=
 ∀ (b:Frame) (k:List Item) (cs:List Frame),b.roundOf=F.round->F.fn b.fn->F.room (cs.length+1+n)->
  ∃ e a' w',Q e a' w'/\ArrivesIn (Machine.fenced P F) P (lone (b.atR a (.code c::.inLoop c::k)) cs w) b k cs e a' w'
theorem ash(h:L1 F n P c Q a w):(Code.loop c).wpIn F n P Q a w:=λb k cs rX U D=>by
 obtain⟨e,a',w',bB,ga⟩:=h b k cs rX U D;exact⟨e,a',w',bB,.of_steps (.one (fenced_calm U D rfl) stepR_loop) ga⟩
theorem asi(h:c.wpIn F n P (Exit.then (λa' w'=>L1 F n P c Q a' w') Q) a w):L1 F n P c Q a w:=λb k cs rX U D=>by
 obtain⟨e,oc,od,bB,ga⟩:=h b (.inLoop c::k) cs rX U D;cases e with
 | normal=>
  obtain⟨Sx,Sy,Sz,SA,SB⟩:=bB b k cs rX U D;exact⟨Sx,Sy,Sz,SA,.of_steps (StepsIn.trans ga (.one (fenced_calm U D rfl) stepR_inLoop)) SB⟩
 | exit id=>exact⟨_,oc,od,bB,.pass   rfl (λ_ _=>.inl (by simp)) ga⟩
 | goto l=>exact⟨_,oc,od,bB,.pass   rfl (λ_ _=>.inl (by simp)) ga⟩
 | ret=>exact⟨_,oc,od,bB,.pass   rfl (λ_ _=>.inl (by simp)) ga⟩
 | panic SC=>exact⟨_,oc,od,bB,.pass   rfl (λ_ _=>.inl (by simp)) ga⟩
 | outgrown=>exact⟨_,oc,od,bB,.pass   rfl (λ_ _=>.inl (by simp)) ga⟩
variable {b:Frame}
theorem DG{k:List Item}{cs:List Frame}:step P (lone (b.atR a (.code (.scope c)::k)) cs w)=.next (lone (b.atR a (.code c::.inScope c::k)) cs w):=
 step_lone_go (by rfl)
theorem asj{k:List Item}{cs:List Frame}:step P (lone (b.atR a (.inScope c::k)) cs w)=.next (lone (b.atR a k) cs w):=
 step_lone_go (by rfl)
theorem asl(h:c.wpIn F n P (Exit.noGoto Q) a w):(Code.scope c).wpIn F n P Q a w:=by
 intro b k cs rX U D;have aW:(lone (b.atR a (.code (.scope c)::k)) cs w).fenced P F:=fenced_calm U D rfl;obtain⟨e,oc,od,bB,ga⟩:=h b (.inScope c::k) cs rX U D;cases e with
 | normal=>exact⟨.normal,oc,od,bB,.head aW DG (StepsIn.trans ga (.one (fenced_calm U D rfl) asj))⟩
 | exit id=>
  have al:exitTo id (.inScope c::k)=exitTo id k:=by rfl
  exact⟨.exit id,oc,od,bB,λk' ak=>.head aW DG (ga.1 k' (by grind)),λbk ak=>let ⟨k₁,E,L⟩:=ga.2 bk (by grind);⟨k₁,E,.head aW DG L⟩⟩
 | goto l=>exact bB.elim
 | ret=>exact⟨.ret,oc,od,bB,.of_steps (.one aW DG) ga⟩
 | panic SC=>exact⟨.panic SC,oc,od,bB,.of_steps (.one aW DG) ga⟩
 | outgrown=>exact⟨.outgrown,oc,od,bB,.of_steps (.one aW DG) ga⟩
end
section
variable {T:Nat->V} {br:Nat->Option aO} {Psi:Nat->Option gp}
def asm{A:Type}(m:M (aJ A bet))(O:bet->Prop)(ad:aJ A bet):Prop:=
 match ad with
 | .aw s=>m.a_ (.aw s)
 | .aV r=>O r
theorem asn{C:cH}{s':aB}{i:Nat}(h:Rc s i=some s')(D:dd C s a w):dd C s' a w:=by
 obtain⟨kap,F,D⟩:=D;unfold Rc at h;split at h
 ·rename_i b g n off az;split at h
  ·rename_i e xs cm;split at h
   ·rename_i aD;cases h;have af:=D.b1 i;rw[az]at af;obtain⟨aM,aT,b5⟩:=af.2 aD (by rw[cm];rfl);rw[cm]at aM b5;have a1:=D.bF b;unfold c6 at a1;rw[cm]at a1;obtain⟨cs,T,bG,c2,c3,c4,c5⟩:=a1.2 aT;have aM:n<xs.length:=aM;obtain⟨bC,d1,d2⟩:=c5 n aM;have d2:cw C.P (.slice e) F w bC xs[n]:=d2;obtain⟨u,rfl,hu⟩:=JV   rfl d2;have oI:cs.getD ((kap b).off+n) Go.undef=u:=by
     simp_all[V.size]
    have hp:fI s.aa kap (λq=>if q=b then (⟨g,.h6 (.ad (.slice e)) xs n (.val (.slice e) (xs.getD n []))⟩) else s.aa q) kap:=
     pd aD (λh=>by cases h) (λ_=>by rw[cm];exact⟨rfl,rfl,rfl⟩) (λh=>by cases h) (λh=>by cases h)
    have c1:=D.qU       (by grind [b'.ch]) (by grind [b'.ch]) hp (λh=>by cases h) (λh=>by cases h) (λ_ _=>rfl) rfl (dL.refl w) λH pk dv he=>
     ⟨aT,cs,T,bG,c2,c3,c4,⟨rfl,aM⟩,λj aK _=>c5 j aK,by rw[oI,show xs.getD n []=xs[n] by grind];exact (ee rfl).2 ⟨hu,d2⟩,by rw[oI];exact PB   rfl d2⟩
    refine⟨kap,F,{ c1 with b1:=λj=>?_,dX:=c1.dX,dj:=c1.dj,bF:=c1.bF,e7:=λl aI ab m ad aZ=>?_,bR:=wX.b1 c1.bR rfl λl aI ab m ad aZ=>?_ }⟩
    ·show bM _ _ _ _ _ (if j=i then _ else _) _;split
     ·rename_i aK;subst aK;refine⟨⟨by simp,af.1.2⟩,λ_ _=>?_⟩;simp only[if_true];exact⟨aM,aT,b5⟩
     ·exact c1.b1 j
    ·have aZ:(if cd=i then _ else _)=aL.aS l aI ab m ad:=aZ;split at aZ
     ·grind
     ·exact c1.e7 l aI ab m ad aZ
    ·have aZ:(if cd=i then _ else _)=aL.aS l aI ab m ad:=aZ;split at aZ
     ·grind
     ·exact aZ
   grind
  grind
 grind
theorem aso{C:cH}{s':aB}{b:Nat}(h:Re s b=some s')(D:dd C s a w):dd C s' a w:=by
 obtain⟨kap,F,D⟩:=D;unfold Re at h;split at h
 ·rename_i e xs n v cm;split at h
  ·rename_i y b_ ba;split at h
   ·grind
   ·cases h;obtain⟨F',f1,bk,f2⟩:=bu.mR (pj ba) D;have Ql:(s.cD b_).aa b=s.aa b:=by grind [aB.cD]
    have a1:=D.bF b;have SD:=bk.bF b;unfold c6 at a1 SD;rw[Ql,cm]at SD;rw[cm]at a1;obtain⟨aW,cs,T,bG,c2,c3,c4,c5,ph,rK,ym⟩:=SD;obtain⟨_,ew,h8,abm,_,_,_,_,_,asp,_⟩:=a1;rw[bG]at abm;cases abm;have yo:=oF D.bF f1 ba f2 asp;obtain⟨LY,s5⟩:=(ee rfl).1 yo;have hp:fI (s.cD b_).aa kap (λq=>if q=b then (⟨(s.aa b).gen,.bn (.ad (.slice e)) (xs.set n y)⟩) else (s.cD b_).aa q) kap:=
     pd (by grind) (λh=>by cases h) (λ_=>by rw[Ql,cm];exact⟨rfl,by simp[b'.len],rfl⟩) (λh=>by cases h) (λh=>by cases h)
    refine⟨kap,F',bk.qU     (by grind [b'.ch]) (by grind [b'.ch]) hp (λh=>by cases h) (λh=>by cases h) (λ_ _=>rfl) rfl (dL.refl w) λH pk dv he=>⟨λaC=>(by grind),λ_=>⟨cs,T,bG,c2,by grind,c4,λj aK=>?_⟩⟩⟩;by_cases wW:j=n
    ·subst wW;refine⟨[cs.getD ((kap b).off+j) Go.undef],λq bB=>?_,?_⟩
     ·have bB:q=0:=by grind
      have:(kap b).off+j<cs.size:=by
       grind
      simp_all
     ·rw[List.getElem_set_self];exact s5
    grind
  grind
 grind
theorem asq:∀ (ann:c8),(∀ (C:cH) (_:C.P.follows .mixedOrders=true) (_:eg C.P T) (_:lK C.P br) (_:pz C.P C.aX Psi) (_:C.r=none\/ann.fG=true) {bet:Type} (c:Code) (s:aB) (k:dS->aB->M bet) (O:bet->Prop) (Q:Exit->Act->World->Prop) (a:Act) (w:World),nE C.bZ c=true->dd C s a w->c' (fS C.aX T br Psi ann c s k) O->(∀ u,C.lO u->∀ e s' a' w',dd (C.iV u) s' a' w'->c' (k e s') O->Q e.rT a' w')->c.wpIn (eY C.r) 0 C.P Q a w)/\(ann.q8=true->∀ (C:cH) (_:C.P.follows .mixedOrders=true) (_:eg C.P T) (_:lK C.P br) (_:pz C.P C.aX Psi) (_:C.r=none\/ann.fG=true) {bet:Type} (c:Code) (s:aB) (k:dS->aB->M bet) (O:bet->Prop) (Q:Exit->Act->World->Prop) (a:Act) (w:World),nE C.bZ c=true->dd C s a w->c' (fS C.aX T br Psi ann (.loop c) s k) O->(∀ u,C.lO u->∀ e s' a' w',dd (C.iV u) s' a' w'->c' (k e s') O->Q e.rT a' w')->L1 (eY C.r) 0 C.P c Q a w):=by
 intro ann;induction ann with
 | fe=>
  refine⟨?_,λ_ C fi aU dn dG gU bet c s k O Q a w hc D hm ak=>by exact (ib hm).elim⟩;intro C fi aU dn dG gU bet c s k O Q a w hc D hm ak;unfold fS at hm;split at hm
  ·rename_i id ops draw;cases draw with
   | true=>exact arK fi aU (aaA dn dG) dG (λo au=>List.all_eq_true.1 hc o au) (λs' a' w' bk hE=>ak C.ix C.yM .normal s' a' w' bk hE) D hm
   | false=>
    refine wpIn_region ?_;have:=R4     aU dn dG (λo au=>List.all_eq_true.1 hc o au)     (λs' a' w' bk hE=>ak C.ix C.yM .normal s' a' w' bk hE) ops.toList 0 [] s a w (by simp) (λp ai=>by grind) D hm;grind [List.range_eq_range']
  ·exact wpIn_skip (ak C.ix C.yM .normal s a w D hm)
  ·exact wpIn_label (ak C.ix C.yM .normal s a w D hm)
  ·exact wpIn_exit (ak C.ix C.yM (.exit _) s a w D hm)
  ·exact wpIn_ret (ak C.ix C.yM .ret s a w D hm)
  grind [ib]
 | seq x y jm nG=>
  have jm:=jm.1;have nG:=nG.1;refine⟨?_,λh=>by grind [c8.q8]⟩;intro C fi aU dn dG gU bet c s k O Q a w hc D hm ak;have j4:C.r=none\/x.fG=true:=gU.imp id λh=>by grind [c8.fG]
  have s6:C.r=none\/y.fG=true:=gU.imp id λh=>by grind [c8.fG]
  unfold fS at hm;split at hm
  ·rename_i qs DH;simp  [nE]at hc;refine wpIn_seq (jm C fi aU dn dG j4 qs s _ O _ a w hc.1 D hm λu hu e s' a' w' bk hE=>?_);cases e with
   | normal=>exact nG (C.iV u) fi aU dn dG s6 DH s' k O Q a' w' hc.2 bk hE λv af=>by rw[cH.DB];exact ak _ (hu.then af)
   | exit id=>exact ak u hu (.exit id) s' a' w' bk hE
   | ret=>exact ak u hu .ret s' a' w' bk hE
  grind [ib]
 | join sh x y jm nG=>
  have jm:=jm.1;have nG:=nG.1;refine⟨?_,λh=>by grind [c8.q8]⟩;intro C fi aU dn dG gU bet c s k O Q a w hc D hm ak;have j4:C.r=none\/x.fG=true:=gU.imp id λh=>by grind [c8.fG]
  have s6:C.r=none\/y.fG=true:=gU.imp id λh=>by grind [c8.fG]
  unfold fS at hm;split at hm
  ·rename_i qs DH;simp  [nE]at hc;rw[fN]at hm;refine wpIn_seq (jm C fi aU dn dG j4 qs s _ _ _ a w hc.1 D hm λu hu e s' a' w' bk hE=>?_);cases e with
   | normal=>
    obtain⟨A,qk,L⟩:=xt hE;have an:=dO.1 L;exact nG (C.iV u) fi aU dn dG s6 DH _ k O Q a' w' hc.2 (eC.A0 qk bk) an λv af=>by rw[cH.DB];exact ak _ (hu.then af)
   | exit id=>
    simp  [AV,fN,dO,aJ.fC]at hE;exact ak u hu (.exit id) s' a' w' bk hE
   | ret=>
    simp  [AV,fN,dO,aJ.fC]at hE;exact ak u hu .ret s' a' w' bk hE
  grind [ib]
 | cond x y jm nG=>
  have jm:=jm.1;have nG:=nG.1;refine⟨?_,λh=>by grind [c8.q8]⟩;intro C fi aU dn dG gU bet c s k O Q a w hc D hm ak;have j4:C.r=none\/x.fG=true:=gU.imp id λh=>by grind [c8.fG]
  have s6:C.r=none\/y.fG=true:=gU.imp id λh=>by grind [c8.fG]
  unfold fS at hm;split at hm
  ·rename_i co qs DH;simp  [nE]at hc;unfold ZT at hm;split at hm
   ·rename_i t hu;obtain⟨kap,F,gW⟩:=D;have af:=lJ gW co;rw[hu]at af;refine wpIn_cond_split (hV.1 af) (λaH=>?_) (λaH=>?_)
    ·subst aH;exact jm C fi aU dn dG j4 qs s k O Q a w hc.1 ⟨kap,F,gW⟩ hm ak
    ·subst aH;exact nG C fi aU dn dG s6 DH s k O Q a w hc.2 ⟨kap,F,gW⟩ hm ak
   ·rename_i g t hu;rw[h5]at hm;obtain⟨bb,hm⟩:=hm;obtain⟨kap,F,gW⟩:=D;have af:=lJ gW co;rw[hu]at af;refine wpIn_cond_split (hV.1 (af.1 bb)) (λaH=>?_) (λaH=>?_)
    ·subst aH;exact jm C fi aU dn dG j4 qs s k O Q a w hc.1 ⟨kap,F,gW⟩ hm ak
    ·subst aH;exact nG C fi aU dn dG s6 DH s k O Q a w hc.2 ⟨kap,F,gW⟩ hm ak
   grind [ib]
  grind [ib]
 | block x jm=>
  have jm:=jm.1;refine⟨?_,λh=>by grind [c8.q8]⟩;intro C fi aU dn dG gU bet c s k O Q a w hc D hm ak;have j4:=gU;unfold fS at hm;split at hm
  ·rename_i id qs;refine wpIn_block (jm C fi aU dn dG j4 qs s _ O _ a w hc D hm λu hu e s' a' w' bk hE=>?_);cases e with
   | normal=>exact ak u hu .normal s' a' w' bk hE
   | exit sQ=>
    grind [ZS,dS.rT,Exit.inBlock]
   | ret=>exact ak u hu .ret s' a' w' bk hE
  grind [ib]
 | loop sh x jm=>
  have jm:=jm.1;refine⟨?_,λh=>by grind [c8.q8]⟩;intro C fi aU dn dG gU bet c s k O Q a w hc D hm ak;have j4:=gU;unfold fS at hm;split at hm
  ·rename_i qs;obtain⟨A,qk,L⟩:=xt hm;refine ase (I:=λA a w=>∃ u,C.lO u/\dd (C.iV u) (sh.ad A) a w)   (λA a w ⟨v,af,fk⟩ uf Sc=>?_) L.1 L.2 ⟨C.ix,C.yM,eC.A0 qk D⟩;refine jm (C.iV v) fi aU dn dG j4 qs (sh.ad A) _ (asm (fS C.aX T br Psi x qs (sh.ad A) (AV k λs'=>sh.pw s' λkB=>mpure (aJ.aw kB))) O) _ a w hc fk ⟨uf,λad hr=>?_⟩ λu hu e s' a' w' bk hE=>?_
   ·cases ad with
    | aw kB=>exact hr
    | aV r=>exact Sc r hr
   ·cases e with
    | normal=>
     obtain⟨kB,abc,an⟩:=xt hE;have a6:=dO.1 an;exact⟨kB,a6,_,af.then hu,by grind [cH.DB,eC.A0]⟩
    | exit id=>
     simp  [AV,fN,dO]at hE;exact ak _ (af.then hu) (.exit id) s' a' w' (by grind [cH.DB]) hE
    | ret=>
     simp  [AV,fN,dO]at hE;exact ak _ (af.then hu) .ret s' a' w' (by grind [cH.DB]) hE
  grind [ib]
 | scope x jm=>
  have jm:=jm.1;refine⟨?_,λh=>by grind [c8.q8]⟩;intro C fi aU dn dG gU bet c s k O Q a w hc D hm ak;have j4:=gU;unfold fS at hm;split at hm
  ·rename_i qs;refine asl (jm C fi aU dn dG j4 qs s _ O _ a w hc D hm λu hu e s' a' w' bk hE=>?_);have:=ak u hu e s' a' w' bk hE;cases e<;>exact this
  grind [ib]
 | range sh rin eb x y jm nG=>
  have jm:=jm.1;have nG:=nG.1;refine⟨?_,λh=>by simp[c8.q8]at h⟩;intro C fi aU dn dG gU bet c s k O Q a w hc D hm ak;unfold fS at hm;split at hm
  ·rename_i g bt assign body;simp  [nE,amp]at hc;obtain⟨aMj,abn,abo⟩:=hc;split at hm
   ·rename_i uq n gw aD;split at hm
    ·rename_i ic asr;split at hm
     ·rename_i aMk b_ al;split at hm
      ·rename_i fg;simp  at fg;obtain⟨fg,j4,s6⟩:=fg;obtain⟨A,qk,L⟩:=xt hm;rw[h5,fN]at L;simp  [ZU]at L;have iW:=gU.resolve_right λh=>by cases h
       have SE:nD sh eb ic.aI bt.toList C.bZ=true:=by
        simp  [nD,amp]at fg ⊢;grind
       refine ar' iW D aD (dG uq _ asr) al SE qk L.1 L.2 (λl=>?_) ak;intro C1 jS vf rY eB s1 cr cj s3 hrel mY;have h:=jm C1 (jS ▸ fi) (jS ▸ aU) (jS ▸ dn) (by grind) (.inr j4) assign s1 (Lj λs2=>fS C.aX T br Psi y body s2 λe fh=>eb.pw fh λbl=>mpure (e,bl)) s3
        (Exit.then (λb4 dN=>∃ u s2,C1.lO u/\dd (C1.iV u) s2 b4 dN/\
         ∀ (jl:cH),jl.P=C.P->jl.aX=C.aX->jl.bZ=C.bZ->jl.r=some l->∀ (dN:World),dd jl s2 b4 dN->
          body.wpIn (eY (some l)) 0 C.P (λe eh hF=>∃ (aZ:dS) (v:qp) (fh:aB) (bl:eb.aj),e=aZ.rT/\jl.lO v/\dd (jl.iV v) fh eh hF/\eb.kR fh=some bl/\s3 (aZ,bl)) b4 dN) (λ_ _ _=>False)) cr cj (rY ▸ abn) hrel (vf ▸ mY)
        λu hu e s2 b4 dN c1 cS=>?_
       ·grind
       ·cases e with
        | normal=>
         refine⟨u,s2,hu,c1,λjl Bh SF SG ass dN pB=>?_⟩;have h:=nG jl (Bh ▸ fi) (Bh ▸ aU) (Bh ▸ dn) (by grind) (.inr s6) body s2 (λe fh=>eb.pw fh λbl=>mpure (e,bl)) s3
          (λe eh hF=>∃ (aZ:dS) (v:qp) (fh:aB) (bl:eb.aj),e=aZ.rT/\jl.lO v/\dd (jl.iV v) fh eh hF/\eb.kR fh=some bl/\s3 (aZ,bl)) b4 dN (SG ▸ abo) pB (SF ▸ cS) λv af e fh eh hF rh L2=>by
           obtain⟨bl,gK,bS⟩:=xt L2;exact⟨e,v,fh,bl,rfl,af,rh,gK,dO.1 bS⟩
         grind
        | exit id=>exact (ib cS).elim
        | ret=>exact (ib cS).elim
      ·exact (ib hm).elim
     ·exact (ib hm).elim
    ·exact (ib hm).elim
   ·rename_i aI S aD;split at hm
    ·rename_i fg;simp  at fg;obtain⟨fg,j4,s6⟩:=fg;obtain⟨A,qk,L⟩:=xt hm;rw[fN]at L;have iW:=gU.resolve_right λh=>by cases h
     have SE:nD sh eb aI bt.toList C.bZ=true:=by
      simp  [nD,amp]at fg ⊢;grind
     refine asb iW D aD SE qk L.1 (λab kn=>by have an:=fN.1 (L.2 ab kn);simp  [ZU]at an;omega) (λl=>?_) ak;intro C1 jS vf rY eB s1 cr cj s3 hrel mY;have h:=jm C1 (jS ▸ fi) (jS ▸ aU) (jS ▸ dn) (by grind) (.inr j4) assign s1 (Lj λs2=>fS C.aX T br Psi y body s2 λe fh=>eb.pw fh λbl=>mpure (e,bl)) s3
      (Exit.then (λb4 dN=>∃ u s2,C1.lO u/\dd (C1.iV u) s2 b4 dN/\
       ∀ (jl:cH),jl.P=C.P->jl.aX=C.aX->jl.bZ=C.bZ->jl.r=some l->∀ (dN:World),dd jl s2 b4 dN->
        body.wpIn (eY (some l)) 0 C.P (λe eh hF=>∃ (aZ:dS) (v:qp) (fh:aB) (bl:eb.aj),e=aZ.rT/\jl.lO v/\dd (jl.iV v) fh eh hF/\eb.kR fh=some bl/\s3 (aZ,bl)) b4 dN) (λ_ _ _=>False)) cr cj (rY ▸ abn) hrel (vf ▸ mY)
      λu hu e s2 b4 dN c1 cS=>?_
     ·grind
     ·cases e with
      | normal=>
       refine⟨u,s2,hu,c1,λjl Bh SF SG ass dN pB=>?_⟩;have h:=nG jl (Bh ▸ fi) (Bh ▸ aU) (Bh ▸ dn) (by grind) (.inr s6) body s2 (λe fh=>eb.pw fh λbl=>mpure (e,bl)) s3
        (λe eh hF=>∃ (aZ:dS) (v:qp) (fh:aB) (bl:eb.aj),e=aZ.rT/\jl.lO v/\dd (jl.iV v) fh eh hF/\eb.kR fh=some bl/\s3 (aZ,bl)) b4 dN (SG ▸ abo) pB (SF ▸ cS) λv af e fh eh hF rh L2=>by
         obtain⟨bl,gK,bS⟩:=xt L2;exact⟨e,v,fh,bl,rfl,af,rh,gK,dO.1 bS⟩
       grind
      | exit id=>exact (ib cS).elim
      | ret=>exact (ib cS).elim
    ·exact (ib hm).elim
   ·exact (ib hm).elim
  ·exact (ib hm).elim
 | iI x y jm nG=>
  refine asg (λ_ C fi aU dn dG gU bet c s k O Q a w hc D hm ak=>?_) λkey C fi aU dn dG gU bet c s k O Q a w hc D hm ak=>?_
  ·have j4:C.r=none\/x.fG=true:=gU.imp id λh=>by simp  [c8.fG]at h;grind
   have s6:C.r=none\/y.fG=true:=gU.imp id λh=>by simp  [c8.fG]at h;grind
   unfold fS at hm;simp  at hm;split at hm
   ·rename_i hu;refine asi (jm.1 C fi aU dn dG j4 c s _ O _ a w hc D hm λu Lo e s' a' w' bk hE=>?_);cases e with
    | normal=>exact nG.2 hu (C.iV u) fi aU dn dG s6 c s' k O Q a' w' hc bk hE λv af=>by rw[cH.DB];exact ak _ (Lo.then af)
    | exit id=>exact ak u Lo (.exit id) s' a' w' bk hE
    | ret=>exact ak u Lo .ret s' a' w' bk hE
   ·exact (ib hm).elim
  ·cases c with
   | loop qs=>exact ash (key rfl C fi aU dn dG gU qs s k O Q a w hc D hm ak)
   | _=>unfold fS at hm;exact (ib hm).elim
 | Li=>
  refine⟨?_,λh=>by simp[c8.q8]at h⟩;intro C fi aU dn dG gU bet c s k O Q a w hc D hm ak;unfold fS at hm;split at hm
  ·split at hm
   ·rename_i h;rw[amm]at h;obtain⟨rfl,h⟩:=h;exact arQ fi (gU.resolve_right (by simp[c8.fG])) h aU (aaA dn dG) dG (λo au=>List.all_eq_true.1 hc o au) (λs' a' w' bk hE=>ak C.ix C.yM .normal s' a' w' bk hE) D hm
   ·exact (ib hm).elim
  ·exact (ib hm).elim
 | oN i x aP=>
  have aP:=aP.1;refine⟨?_,λh=>by simp[c8.q8]at h⟩;intro C fi aU dn dG gU bet c s k O Q a w hc D hm ak;unfold fS at hm;split at hm
  ·rename_i s' af;exact aP C fi aU dn dG gU c s' k O Q a w hc (asn af D) hm ak
  ·exact (ib hm).elim
 | Lh b x aP=>
  have aP:=aP.1;refine⟨?_,λh=>by simp[c8.q8]at h⟩;intro C fi aU dn dG gU bet c s k O Q a w hc D hm ak;unfold fS at hm;split at hm
  ·rename_i s' af;exact aP C fi aU dn dG gU c s' k O Q a w hc (aso af D) hm ak
  ·exact (ib hm).elim
 | num i n x aP=>
  have aP:=aP.1;refine⟨?_,λh=>by simp[c8.q8]at h⟩;intro C fi aU dn dG gU bet c s k O Q a w hc D hm ak;unfold fS at hm;split at hm
  ·rename_i v f af;rw[h5]at hm;have h:=hm.2;rw[apv af hm.1]at h;exact aP C fi aU dn dG gU c s k O Q a w hc D h ak
  ·exact (ib hm).elim
 | split i off n x aP=>
  have aP:=aP.1;refine⟨?_,λh=>by simp[c8.q8]at h⟩;intro C fi aU dn dG gU bet c s k O Q a w hc D hm ak;unfold fS at hm;split at hm
  ·rename_i v f af;rw[h5]at hm;have h:=ZO hm.2 hm.1.1 hm.1.2;rw[apu af hm.1.1]at h;exact aP C fi aU dn dG gU c s k O Q a w hc D h ak
  ·exact (ib hm).elim
theorem abp(ann:c8):∀ (C:cH) (_:C.P.follows .mixedOrders=true) (_:eg C.P T) (_:lK C.P br) (_:pz C.P C.aX Psi) (_:C.r=none\/ann.fG=true) {bet:Type} (c:Code) (s:aB) (k:dS->aB->M bet) (O:bet->Prop) (Q:Exit->Act->World->Prop) (a:Act) (w:World),nE C.bZ c=true->dd C s a w->c' (fS C.aX T br Psi ann c s k) O->(∀ u,C.lO u->∀ e s' a' w',dd (C.iV u) s' a' w'->c' (k e s') O->Q e.rT a' w')->c.wpIn (eY C.r) 0 C.P Q a w:=(asq ann).1
end
end Go.Fer
namespace Go.Fer
open Go.RowKit
def Hs(T:Nat->V)(s:aB):List ResultVar->Option (List aL)
 | []=>some []
 | r::l=>match Hs T s l with
  | none=>none
  | some aG=>match r with
   | .tmp t=>some (s.aA t::aG)
   | .cell a ty=>match (CN (T ty) (s.aA a)).run s.aa with
    | some v=>some (v::aG)
    | none=>none
def SH(t:V)(n:Nat):Bool:=
 match t with
 | .ar _ _=>n != 1
 | .dc=>n == 0
 | _=>n == 1
def yO(T:Nat->V)(mA:List ResultVar)(aS:V)(e:dS)(s:aB):M aS.aj:=
 match e with
 | .exit _=>d'
 | _=>match Hs T s mA with
  | some cV=>match (kd aS cV).run s.aa with
   | some (y,_)=>mpure y
   | none=>d'
  | none=>d'
def Ht(t:V)(x:t.aj)(n:Nat):List (Nat×aL):=(List.range n).map λi=>(i,kc t x i)
def xx(t:V):Nat:=if t=.dc then 0 else jQ t
def r0(t:V)(x:t.aj):aB:=Zz (Ht t x (xx t)) []
def DI(aQ:dV)(T:Nat->V)(br:Nat->Option aO)(Psi:Nat->Option gp)(fn:Func)(c:Code)(ann:c8)(ts aS:V)(x:ts.aj):M aS.aj:=
 fS aQ T br Psi ann c (r0 ts x) (yO T fn.results.toList aS)
def Hu(av:aL):aL:=match av with | .val (.bO e) p=>.eL e (p.getD e.dU) | v=>v
def Hv(av:aL):Prop:=match av with | .val (.bO _) p=>p.isSome=true | _=>True
def L3(n:Nat)(s:aB):aB:=⟨λi=>if i<n\/fz<i then s.aA i else Hu (s.aA i),s.aa⟩
def Hw(n:Nat)(s:aB):Prop:=∀ i,¬(i<n\/fz<i)->Hv (s.aA i)
def ast(aQ:dV)(T:Nat->V)(br:Nat->Option aO)(Psi:Nat->Option gp)(fn:Func)(c:Code)(ann:c8)(n:Nat)(ts aS:V)(x:ts.aj):M aS.aj:=
 ae (Hw n (r0 ts x)) (fS aQ T br Psi ann c (L3 n (r0 ts x)) (yO T fn.results.toList aS))
def Hx(fn:Func)(c:Code)(ts aS:V):Bool:=
 nE fn.ntmps c && SH aS fn.results.size && decide (xx ts <= fn.ntmps) && !(fn.name == "runtime.NumGoroutine") && decide (fn.ntmps <= fz)
def DJ:z10'->List aL->Option (List aL)
 | [],[]=>some []
 | none::g,v::aG=>match DJ g aG with
  | some l=>some (v::l)
  | none=>none
 | some n::g,v::aG=>match v,DJ g aG with
  | .agg m f,some l=>if m=n then some ((List.range n).map f++l) else none
  | _,_=>none
 | _,_=>none
def L4(T:Nat->V)(mA:List ResultVar)(ln:z10')(a_:eC)(e:dS)(s:aB):M a_.aj:=
 match e with
 | .exit _=>d'
 | _=>match Hs T s mA with
  | some cV=>match DJ ln cV with
   | some l=>match decide (l.length<=fz) with
    | true=>a_.pw (vu s l) λbl=>mpure bl
    | false=>d'
   | none=>d'
  | none=>d'
def L5(aQ:dV)(T:Nat->V)(br:Nat->Option aO)(Psi:Nat->Option gp)(fn:Func)(c:Code)(ann:c8)(cA a_:eC)(ln:z10')(A:cA.aj):M a_.aj:=
 fS aQ T br Psi ann c (cA.ad A) (L4 T fn.results.toList ln a_)
def DK(fn:Func)(c:Code)(kS:Nat)(ln:z10'):Bool:=
 nE fn.ntmps c && decide (fn.results.size = ln.length) && decide (kS <= fn.ntmps) && !(fn.name == "runtime.NumGoroutine") && decide (fn.ntmps <= fz)
section
variable {C:cH} {T:Nat->V} {br:Nat->Option aO} {Psi:Nat->Option gp}
def DL(tmps:Array Value)(r:ResultVar):Sem Value:=
 match r with
 | .tmp t=>pure (tmps.getD t undef)
 | .cell b t=>do loadVar t (<-asAddr (tmps.getD b undef))
theorem abq(fn:Func)(tmps:Array Value):results fn tmps=(fn.results.mapM (DL tmps) >>= λaG=>pure (if h:aG.size=1 then aG[0] else .tuple aG)):=by
 rfl
variable {s:aB}{a:Act}{w:World}
theorem abr(aU:eg C.P T){kap:Nat->bL}{F:Nat->Prop}(D:bu C s a w kap F):∀ (mA:List ResultVar) {cV:List aL},Hs T s mA=some cV->
  ∃ aG:List Value,(mA.mapM (DL a.tmps)).run C.P w=.ok aG w/\aG.length=mA.length/\cV.length=mA.length/\
   ∀ i (h:i<cV.length) (e0:i<aG.length),bM C.P s.aa kap F w cV[i] aG[i]:=by
 intro mA;induction mA with
 | nil=>intro cV h;cases h;simp
 | cons r mA aP=>
  intro cV h;simp  [Hs]at h;split at h
  ·grind
  ·rename_i l ah;obtain⟨aG,E,L,an,a6⟩:=aP ah;have one:∃ av v,cV=av::l/\(DL a.tmps r).run C.P w=.ok v w/\bM C.P s.aa kap F w av v:=by
    split at h
    ·rename_i t;cases h;exact⟨_,_,rfl,rfl,D.b1 t⟩
    ·rename_i b ty;split at h
     ·rename_i v af;obtain⟨u,aM,aT⟩:=Yv aU D af (D.b1 b);unfold Instr.loadAt at aM;unfold DL;simp only;generalize a.tmps.getD b Go.undef=z at aM ⊢;cases z with
      | pointer p=>
       cases p with
       | none=>simp_all[Instr.sureAddr]
       | some p=>grind [Instr.sureAddr,asAddr]
      | _=>simp[Instr.sureAddr]at aM
     grind
   obtain⟨av,v,rfl,aM,aT⟩:=one;refine⟨v::aG,?_,by grind,by grind,λi G d_=>?_⟩
   ·simp_all
   grind
variable {fn:Func}{aS:V}
theorem asu(aU:eg C.P T)(s7:SH aS fn.results.size=true){e:dS}{O:aS.aj->Prop}(D:dd C s a w)(hm:c' (yO T fn.results.toList aS e s) O) :
  (∀ id,e≠.exit id)/\∃ kap F v y,bu C s a w kap F/\(results fn a.tmps).run C.P w=.ok v w/\O y/\∃ F',(∀ r,F' r->C.jA r\/¬C.K0 r)/\(∀ r,F' r->r<w.heap.size)/\tL C.P aS F' w v y:=by
 obtain⟨kap,F,D⟩:=D;unfold yO at hm;split at hm
 ·grind [ib]
 ·rename_i eM;refine⟨λid he=>eM id he,?_⟩;split at hm
  ·rename_i cV SI;split at hm
   ·rename_i y l ba;obtain⟨aG,E,L,an,a6⟩:=abr aU D _ SI;obtain⟨F',f1,bk,f2⟩:=bu.mR (rO _ ba) D;have fu:=w7 (F':=F') D.bF f1 aS ba f2 (by omega) a6;have du:(results fn a.tmps).run C.P w=.ok (if h:aG.toArray.size=1 then aG.toArray[0] else .tuple aG.toArray) w:=by
     rw[abq];have:(fn.results.mapM (DL a.tmps)).run C.P w=.ok aG.toArray w:=by
      rw[Array.mapM_eq_mapM_toList,map_eq_pure_bind,Sem.run_bind,E];rfl
     simp_all
    refine⟨kap,F,_,y,D,du,dO.1 hm,F',bk.hN,bk.ds,aG,?_,fu⟩;have cN:aG.length=fn.results.size:=by omega
    rw[<-cN]at s7;clear du fu E a6 L cN ba;have one:aG.length=1->aG=[if h:aG.toArray.size=1 then aG.toArray[0] else .tuple aG.toArray]:=by
     intro h;match aG,h with
     | [v],_=>rfl
    cases aS<;>simp only[SH,beq_iff_eq,bne_iff_ne,ne_eq]at s7<;>simp only[JS];case ar=>grind
    case dc=>
     grind
    all_goals exact one s7
   grind [ib]
  grind [ib]
theorem SJ{l:List (Nat×aL)}{i:Nat}:fv l i=.undef\/(i,fv l i)∈l:=by
 induction l with
 | nil=>exact .inl rfl
 | cons p l aP=>
  grind [fv]
theorem rj{P : Program}{k : FuncId}{fn : Func}{c : Code}(ay : P.funcs[k]? = some fn)(U : fn.body = some c)(aC : (fn.name == "runtime.NumGoroutine") = false)(args : Array Value)(w : World) :
  (callFunc k args).run P w=.ok (.enter k args) w:=by
 simp_all[callFunc]
def s8(w:World):List Nat->World
 | []=>w
 | B::ms=>s8 (w.putObj B (.deferred none)) ms
theorem abt:∀ (ms:List Nat) (w:World),(s8 w ms).heap.size=w.heap.size
 | [],_=>rfl
 | _::ms,_=>(abt ms _).trans World.putObj_size
theorem SK:∀ (ms:List Nat) (w:World) {r:Nat},r ∉ ms->(s8 w ms).heap[r]?=w.heap[r]?
 | [],_,_,_=>rfl
 | B::ms,w,r,h=>by
  simp  at h;exact (SK ms _ h.2).trans (World.putObj_heap_other h.1)
theorem abu:∀ (ms:List Nat) (w:World),dL w (s8 w ms)
 | [],w=>dL.refl w
 | B::ms,w=>by
  have h:dL w (w.putObj B (.deferred none)):=⟨rfl,rfl,rfl⟩
  exact h.trans (abu ms _)
theorem SL{P:Program}{fn:Func}{tmps:Array Value}{R:Ending->World->Prop}:∀ (ms:List Nat) (w:World),ms.Nodup->(∀ B∈ms,w.heap[B]?=some (.deferred (some [])))->
  (∃ v,(results fn tmps).run P (s8 w ms)=.ok v (s8 w ms)/\R (.returned v) (s8 w ms))->LeavesInM Fence.wide 0 P fn tmps R (ms.map uB) .returning w
 | [],w,_,_,h=>h
 | B::ms,w,aC,a1,h=>by
  simp  at aC;refine⟨by simp,.inl ⟨B,_,rfl,run_takeDeferred (a1 B (by simp)),?_⟩⟩;exact SL ms _ aC.2 (λiL e0=>(World.putObj_heap_other λe=>aC.1 (by grind)).trans (a1 iL (amr _ e0))) h
theorem dd.abv{u:qp}(hu:C.lO u)(asv:∀ r,C.jA r->r<C.ep.heap.size)(yH:∀ r,C.K0 r->r<C.ep.heap.size)(h:dd (C.iV u) s a w) :
  dd { C with dj:=u.ms.map uB++C.dj } s a (s8 w u.ms)/\a.defers=u.ms.map uB++C.dj/\∀ B∈u.ms,w.heap[B]?=some (.deferred (some [])):=by
 obtain⟨kap,F,h⟩:=h;have aMl:∀ B∈u.ms,¬F B:=λB a1 ay=>by
  obtain⟨E,_⟩:=hu.vG B a1;rcases h.hN B ay with L | L
  ·have:=asv B L;have:=(hu.fo B a1).2;omega
  ·exact L E
 have cN:=abt u.ms w;have hc:=abu u.ms w;refine⟨⟨kap,F,h.LU         (λr D=>hu.iC r D) (λr D=>SK _ _ λhm=>?_) (aRc cN.symm) hc yH (λr D=>?_) ?_ ?_⟩,h.dj,λB a1=>?_⟩
 ·rcases D with D | D
  ·grind
  ·exact D (hu.vG r hm).1
 ·exact (SK _ _ λhm=>(hu.fo r hm).1 D).trans ((h.e5 r (hu.iC r D)).trans (hu.e5 r D))
 ·rw[cN];exact aPL hu.size h.size
 ·exact (hu.eN.trans h.eN).trans hc
 ·exact (h.e5 B (hu.vG B a1).1).trans (hu.vG B a1).2
variable {P:Program}{k:FuncId}{c:Code}{aQ:dV}{ann:c8}{ts:V}
theorem abw(fi:P.follows .mixedOrders=true){sh:ts.aj->M aS.aj}(aU:eg P T)(iK:qR P aQ)(dn:lK P br)(dG:pz P aQ Psi)(ay:P.funcs[k]?=some fn)(U:fn.body=some c)
  (b6:Hx fn c ts aS=true) {s0:ts.aj->aB} {pre:ts.aj->Prop} (qq:∀ x C a w,dd C (r0 ts x) a w->pre x->dd C (s0 x) a w)
  (j0:∀ x,a8 (ae (pre x) (fS aQ T br Psi ann c (s0 x) (yO T fn.results.toList aS))) (sh x)):hA P k ts aS sh:=by
 simp only[Hx,amm,aPO,amp]at b6;obtain⟨⟨⟨⟨Hy,s7⟩,asw⟩,SM⟩,xp⟩:=b6;refine⟨rj ay U SM,λF w args x bp fm fu uf=>?_⟩;obtain⟨⟨hQ,E⟩,L⟩:=j0 x uf;have hlen:args.length=xx ts/\∀ i,i<xx ts->∀ (H:Nat->b9) (kap:Nat->bL),bM P H kap F w (kc ts x i) (args.getD i Go.undef):=by
  unfold xx;split
  ·rename_i e;subst e;have:args=[]:=fu.1;grind
  ·rename_i e;exact⟨(vk (H:=λ_=>⟨0,.ev⟩) (kap:=λ_=>⟨0,0,0,false⟩) ts fu e).1,λi G H kap=>(vk ts fu e).2 i G⟩
 let C:cH:={ P:=P,ep:=w,jA:=F,K0:=λr=>r<w.heap.size,bZ:=fn.ntmps,r:=none,dj:=[],j':=λ_=>none,cI:=⟨0,.dc,λ_=>False,λ_ _ _ _ _=>False⟩,aX:=aQ }
 let a0:Act:={ tmps:=args.toArray++Array.replicate (fn.ntmps - args.toArray.size) undef,defers:=[] }
 let asx:Nat->bL:=λ_=>⟨0,0,0,false⟩
 have q_:∀ i,(r0 ts x).aA i=.undef\/(i<xx ts/\(r0 ts x).aA i=kc ts x i):=λi=>by
  rcases SJ     with e | e
  ·exact .inl e
  ·refine .inr ?_;generalize bA:fv (Ht ts x (xx ts)) i=z at e;simp  [Ht]at e;obtain⟨j,aK,rfl,rfl⟩:=e;exact⟨aK,bA⟩
 have D:dd C (r0 ts x) a0 w:=by
  refine⟨asx,F,{ dX:=?_,dj:=rfl,b1:=λi=>?_,bF:=λb=>trivial,own:=λb U=>(by cases U),inj:=λb bj U _ _=>(by cases U),ds:=bp,hN:=λr D=>.inl D,iq:=λr D=>D,ir:=λr D=>D,e5:=λr _=>rfl,size:=amn _,eN:=dL.refl w,hB:=xp,lb:=λb r h=>(by grind),iS:=λb r h=>(by grind),ld:=λb k h=>(by grind),jB:=λb k h=>(by grind),e7:=λl aI ab n ad e=>?_,bR:=λe m hm=>(by cases hm),j1:=iK,hX:=fm }⟩
  ·grind
  ·rcases q_ i with e | ⟨G,e⟩
   ·rw[e];simp  [bM]
   ·have:a0.tmps.getD i Go.undef=args.getD i Go.undef:=by
     have d_:i<args.length:=by omega
     simp[a0,Array.getElem?_append,d_]
    grind
  grind [cd,fz]
 refine callsIn_wide.1 (callsIn_of_wp_marks   (n:=0) ay U trivial ?_);have hw:=abp ann C fi aU dn dG (.inl rfl) (k:=yO T fn.results.toList aS) (O:=(fS aQ T br Psi ann c (s0 x) (yO T fn.results.toList aS)).a_) (Q:=bodyPostM Fence.wide 0 P fn λe w'=>∃ v y,e=.returned v/\(sh x).a_ y/\tL P aS (wT F w w') w' v y/\Below w.heap.size w w') c (s0 x) a0 w Hy (qq x C a0 w D hQ) ⟨E,λ_ h=>h⟩;refine hw λu hu e s' a' w' bk hm=>?_;obtain⟨c1,ax,a1⟩:=dd.abv hu bp (λ_ h=>h) bk;obtain⟨eM,kap,ui,v,y,gW,du,ba,F',f1,f2,gT⟩:=asu   aU s7 c1 hm;have AN:LeavesInM Fence.wide 0 P fn a'.tmps (λe w'=>∃ v y,e=.returned v/\(sh x).a_ y/\tL P aS (wT F w w') w' v y/\Below w.heap.size w w') a'.defers .returning w':=by
  rw[ax];simp only[C,aPT];refine SL u.ms w' hu.ko a1 ⟨v,du,v,y,rfl,L y ba,?_,gW.eN.os,gW.eN.tape,gW.eN.output,gW.size,gW.e5⟩;obtain⟨aG,aM,aT,b5⟩:=gT;refine⟨aG,aM,aT,fH aS (λr D=>?_) (di.refl _ _) b5⟩;rcases f1 r D with h | h
  ·exact .inl h
  ·exact .inr ⟨aRo h,f2 r D⟩
 cases e with
 | normal=>exact AN
 | exit id=>grind
 | ret=>exact AN
theorem abx(fi:P.follows .mixedOrders=true){sh:ts.aj->M aS.aj}(aU:eg P T)(iK:qR P aQ)(dn:lK P br)(dG:pz P aQ Psi)(ay:P.funcs[k]?=some fn)(U:fn.body=some c)
  (b6:Hx fn c ts aS=true) (j0:∀ x,a8 (DI aQ T br Psi fn c ann ts aS x) (sh x)):hA P k ts aS sh:=
 abw fi aU iK dn dG ay U b6 (ann:=ann) (s0:=r0 ts) (pre:=λ_=>True) (λ_ _ _ _ h _=>h) λx az=>⟨⟨trivial,(j0 x az).1⟩,(j0 x az).2⟩
theorem asy{C:cH}{n:Nat}(h:dd C s a w)(hc:Hw n s):dd C (L3 n s) a w:=by
 obtain⟨kap,F,D⟩:=h;refine⟨kap,F,{ D with b1:=λi=>?_,dX:=D.dX,dj:=D.dj,bF:=D.bF,e7:=λl aI ab m ad e=>?_,bR:=D.bR.b1 rfl λl aI ab m ad e=>?_ }⟩
 ·show bM C.P s.aa kap F w (if i<n\/fz<i then s.aA i else Hu (s.aA i)) _;split
  ·exact D.b1 i
  ·rename_i G;have af:=D.b1 i;have ai:=hc i G;unfold Hu;unfold Hv at ai;split
   ·rename_i e p he;rw[he]at af ai;obtain⟨_,af⟩:=(ee rfl).1 af;rcases af with⟨_,rfl⟩ | ⟨q,y,bC,bB,rfl,aM,aT⟩
    ·grind
    ·exact⟨q,bC,(aPQ bB).1,aM,aT⟩
   omega
 ·have e:(if cd<n\/fz<cd then s.aA cd else Hu (s.aA cd))=.aS l aI ab m ad:=e;rw[if_pos (.inr (by decide))]at e;exact D.e7 l aI ab m ad e
 ·have e:(if cd<n\/fz<cd then s.aA cd else Hu (s.aA cd))=.aS l aI ab m ad:=e;rw[if_pos (.inr (by decide))]at e;omega
theorem asz(fi:P.follows .mixedOrders=true){n:Nat}{sh:ts.aj->M aS.aj}(aU:eg P T)(iK:qR P aQ)(dn:lK P br)(dG:pz P aQ Psi)(ay:P.funcs[k]?=some fn)(U:fn.body=some c)
  (b6:Hx fn c ts aS=true) (j0:∀ x,a8 (ast aQ T br Psi fn c ann n ts aS x) (sh x)):hA P k ts aS sh:=
 abw fi aU iK dn dG ay U b6 (ann:=ann) (s0:=λx=>L3 n (r0 ts x)) (pre:=λx=>Hw n (r0 ts x)) (λ_ _ _ _ h ai=>asy h ai) j0
theorem SN{H:Nat->b9}{kap:Nat->bL}{F:Nat->Prop}{w:World}{P:Program}:∀ (g:z10') {cV l:List aL} {us:List Value},DJ g cV=some l->cV.length=us.length->(∀ i (h:i<cV.length) (e0:i<us.length),bM P H kap F w cV[i] us[i])->
  ∃ aG:List Value,GN g us aG/\l.length=aG.length/\∀ i,i<aG.length->bM P H kap F w (l.getD i .undef) (aG.getD i undef)
 | [],[],l,us,h,ah,_=>by
  cases h;have:=aP6 ah.symm;subst this;exact⟨[],rfl,rfl,λi G=>by grind⟩
 | [],_::_,_,_,h,_,_=>by cases h
 | none::_,[],_,_,h,_,_=>by cases h
 | some _::_,[],_,_,h,_,_=>by cases h
 | none::g,av::cV,l,[],_,ah,_=>by grind
 | some n::g,av::cV,l,[],_,ah,_=>by grind
 | none::g,av::cV,l,u::us,h,ah,af=>by
  simp  [DJ]at h;split at h
  ·rename_i et rZ;cases h;obtain⟨aG,E,L,an⟩:=SN g rZ (by grind) λi h e0=>af (i+1) (aRp h) (aRp e0);refine⟨u::aG,⟨aG,rfl,E⟩,by grind,λi G=>?_⟩;cases i with
   | zero=>exact af 0 (aRq _) (aRq _)
   | succ i=>grind
  grind
 | some n::g,av::cV,l,u::us,h,ah,af=>by
  simp  [DJ]at h;split at h
  ·rename_i m f et rZ;split at h
   ·rename_i bY;subst bY;obtain⟨aG,E,L,an⟩:=SN g rZ (by grind) λi h e0=>af (i+1) (aRp h) (aRp e0);obtain⟨cs,aM,aT,b5⟩:=af 0 (aRq _) (aRq _);refine⟨cs++aG,⟨cs.toArray,aG,aM,by omega,λc hc=>?_,by simp,E⟩,by grind,λi G=>?_⟩
    ·grind [List.mem_iff_getElem]
    grind
   grind
  grind
def asA(P:Program)(aQ:dV)(T:Nat->V)(fn:Func)(c:Code)(ic:cK):Prop:=
 ∀ (C:cH) (A:ic.cA.aj) (Q:Exit->Act->World->Prop) (a:Act) (w:World),C.P=P->C.aX=aQ->C.bZ=fn.ntmps->C.r=none->C.dj=[]->nE C.bZ c=true->dd C (ic.cA.ad A) a w->(ic.sh A).e3->
  (∀ u,C.lO u->∀ e s' a' w',dd (C.iV u) s' a' w'->c' (L4 T fn.results.toList ic.ln ic.a_ e s') (ic.sh A).a_->Q e.rT a' w')->c.wpIn (eY C.r) 0 C.P Q a w
theorem asB{ic:cK}(aU:eg P T)(ay:P.funcs[k]?=some fn)(U:fn.body=some c)
  (b6:DK fn c ic.kS ic.ln=true) (asC:asA P aQ T fn c ic):cW P aQ k ic:=by
 simp only[DK,amm,aPO,amp]at b6;obtain⟨⟨⟨⟨Hy,s7⟩,asw⟩,SM⟩,xp⟩:=b6;refine⟨rj ay U SM,λC a w kap F A jS xy iW xl yt iK D uf=>?_⟩;subst jS;subst xy;subst iK;have aMm:=D.dX.trans yt;have f':∀ i,(a.tmps++Array.replicate (fn.ntmps - a.tmps.size) undef).getD i undef=a.tmps.getD i undef:=λi=>by
  simp;grind
 have bk:bu { C with bZ:=fn.ntmps,dj:=[],r:=none } (ic.cA.ad A) { tmps:=a.tmps++Array.replicate (fn.ntmps - a.tmps.size) undef,defers:=[] } C.ep kap F:=
  { D with dX:=(by grind),dj:=rfl,hB:=xp,b1:=λi=>(by rw[f'];exact D.b1 i),bF:=D.bF }
 refine callsIn_wide.1 (callsIn_of_wp_marks   (n:=0) ay U trivial ?_);refine asC { C with bZ:=fn.ntmps,dj:=[],r:=none } A _ _ C.ep rfl rfl rfl rfl rfl Hy ⟨kap,F,bk⟩ uf λu hu e s' a' w' bk hm=>?_;obtain⟨⟨py,fR,c1⟩,ax,a1⟩:=dd.abv hu (λr h=>D.ds r (D.iq r h)) D.ir bk;have key:(∀ id,e≠.exit id)/\LeavesInM Fence.wide 0 C.P fn a'.tmps (λe w'=>∃ v bl aG bT F',e=.returned v/\(ic.sh A).a_ bl/\Lr ic.ln v aG/\bu { C with bZ:=aG.length } (ic.a_.ad bl) { tmps:=aG.toArray,defers:=[] } w' bT F') a'.defers .returning w':=by
  unfold L4 at hm;split at hm
  ·grind [ib]
  ·rename_i eM;refine⟨λid he=>eM id he,?_⟩;split at hm
   ·rename_i cV SI;split at hm
    ·rename_i l ah;split at hm
     ·rename_i dv;have dv:=aP4 dv;obtain⟨us,aM,aT,b5,hC⟩:=abr (C:={ C with bZ:=fn.ntmps,dj:=u.ms.map uB++[],r:=none }) aU c1 _ SI;obtain⟨aG,dt,ei,j2⟩:=SN ic.ln ah (by omega) hC;obtain⟨bl,gK,bS⟩:=xt hm;have aY:=c1.args     (by omega) ei j2;obtain⟨LZ,aba,_,pB⟩:=eC.Dp gK aY;rw[ax];simp only[aPT];have du:(results fn a'.tmps).run C.P (s8 w' u.ms)=.ok (if us.length=1 then us.getD 0 undef else .tuple us.toArray) (s8 w' u.ms):=by
       rw[abq,Sem.run_bind];have:(fn.results.mapM (DL a'.tmps)).run C.P (s8 w' u.ms)=.ok us.toArray (s8 w' u.ms):=by
        rw[Array.mapM_eq_mapM_toList,map_eq_pure_bind,Sem.run_bind,aM];rfl
       rw[this];simp;grind
      refine SL u.ms w' hu.ko a1 ⟨_,du,_,bl,aG,LZ,aba,rfl,dO.1 bS,⟨us,?_,rfl,dt⟩,?_⟩<;>grind
     grind [ib]
    grind [ib]
   grind [ib]
 cases e with
 | normal=>exact key.2
 | exit id=>grind
 | ret=>exact key.2
theorem SO(fi:P.follows .mixedOrders=true){ic:cK}(aU:eg P T)(dn:lK P br)(dG:pz P aQ Psi)(ay:P.funcs[k]?=some fn)(U:fn.body=some c)
  (b6:DK fn c ic.kS ic.ln=true) (j0:∀ A,a8 (L5 aQ T br Psi fn c ann ic.cA ic.a_ ic.ln A) (ic.sh A)):cW P aQ k ic:=
 asB aU ay U b6 λC A Q a w jS iK _ iW _ Hy D uf ak=>by
  subst jS;subst iK;obtain⟨E,L⟩:=j0 A uf;exact abp ann C fi aU dn dG (.inl iW) c (ic.cA.ad A) (L4 T fn.results.toList ic.ln ic.a_) (L5 C.aX T br Psi fn c ann ic.cA ic.a_ ic.ln A).a_ Q a w Hy D ⟨E,λ_ h=>h⟩ λu hu e s' a' w' bk hm=>ak u hu e s' a' w' bk ⟨hm.1,λy ba=>L y (hm.2 y ba)⟩
end
def rk:List (Nat×V)->Nat->V
 | [],_=>.dc
 | p::l,i=>if i=p.1 then p.2 else rk l i
def aby(P:Program)(l:List (Nat×V)):Bool:=l.all λp=>df P p.2 (.inl p.1)
theorem abz{P:Program}{l:List (Nat×V)}(h:aby P l=true):eg P (rk l):=by
 intro id;induction l with
 | nil=>exact .inl rfl
 | cons p l aP=>
  simp only[aby,aQn,amm]at h;simp  [rk];split
  ·rename_i e;subst e;exact .inr h.1
  ·exact aP h.2
end Go.Fer
namespace Go.Fer
open Go.RowKit
theorem abA{P:Program}{aQ:dV}{k:FuncId}{c:cK}(h:cW P aQ k c)(iK:qR P aQ){ic:Di}(mk:ic.ts.aj->Nat->(List ic.aI.aj->Prop)->c.cA.aj)(aC:c.kS=jQ ic.ts+1)(jj:c.kS<=fz)(uy:ic.ts≠.dc)
    (fD:∀ x l ab i,(c.cA.ad (mk x l ab)).aA i=.undef\/(i<jQ ic.ts/\(c.cA.ad (mk x l ab)).aA i=kc ic.ts x i)\/(i=jQ ic.ts/\(c.cA.ad (mk x l ab)).aA i=.il l)\/(i=cd/\(c.cA.ad (mk x l ab)).aA i=.aS l ic.aI ab [] false))
    (ho:c.cA.bF=[]) (ri:∀ bl,∃ n ad l ab,(c.a_.ad bl).aA cd=.aS l ic.aI ab n ad)
    (mS:∀ x l,ic.pre x->(c.sh (mk x l (λT=>T=ic.seq x))).e3/\∀ bl,(c.sh (mk x l (λT=>T=ic.seq x))).a_ bl->∀ et gb n,(c.a_.ad bl).aA cd=.aS et ic.aI gb n false->n=ic.seq x):G2 P k ic:=by
  refine⟨h.enter,λl I F Y w args x fu hQ b6 bp fm jk fk=>?_⟩;obtain⟨ka,DC⟩:=vk (H:=λ_=>⟨0,.ev⟩) (kap:=λ_=>⟨0,0,0,false⟩) ic.ts fu uy;have n':∀ b,(c.cA.ad (mk x l (λT=>T=ic.seq x))).aa b=⟨0,.ev⟩:=λb=>by
    show eP (gV dx c.cA.bF (eV dx c.cA.b1 (mk x l (λT=>T=ic.seq x))).2) b=_;generalize (eV dx c.cA.b1 (mk x l (λT=>T=ic.seq x))).2=z;revert z;rw[ho];intro z;rfl
  have cN:(args++[Value.func (.yield l) #[] #[]]).length=c.kS:=by grind
  have D:bu { P:=P,ep:=w,jA:=F,K0:=λr=>r<w.heap.size/\¬Y r,bZ:=c.kS,r:=none,dj:=[],j':=λ_=>none,cI:=⟨l,ic.aI,λT=>T=ic.seq x,I⟩,aX:=aQ } (c.cA.ad (mk x l (λT=>T=ic.seq x)))
      { tmps:=(args++[Value.func (.yield l) #[] #[]]).toArray,defers:=[] } w (λ_=>⟨0,0,0,false⟩) F:=
    { dX := by omega
      dj:=rfl
      b1:=λi=>by
        rcases fD x l (λT=>T=ic.seq x) i with e | ⟨G,e⟩ | ⟨G,e⟩ | ⟨G,e⟩
        · rw[e];trivial
        · have:=(vk (H:=(c.cA.ad (mk x l (λT=>T=ic.seq x))).aa) (kap:=λ_=>⟨0,0,0,false⟩) ic.ts fu uy).2 i G
          simp_all[aP1]
        · rw[e]
          show (args++[Value.func (.yield l) #[] #[]]).toArray.getD i undef=_
          simp_all
        · rw[e];trivial
      bF:=λb=>by unfold c6;rw[n' b];trivial
      own:=λb U=>by rw[n' b]at U;cases U
      inj:=λb bj U _ _=>by rw[n' b]at U;cases U
      ds:=bp
      hN:=λr D=>.inl D
      iq:=λr D=>D
      ir:=λr D=>D.1
      e5:=λ_ _=>rfl
      size:=amn _
      eN:=dL.refl _
      hB:=jj
      lb:=λb r h=>by grind
      iS:=λb r h=>by grind
      ld:=λb k h=>by grind
      jB:=λb k h=>by grind
      e7:=λet mX gb n ad e=>by
        rcases fD x l (λT=>T=ic.seq x) cd with aZ | ⟨G,_⟩ | ⟨G,_⟩ | ⟨_,aZ⟩
        · grind
        · grind [cd,fz]
        · grind
        · rw[aZ]at e
          cases e
          exact⟨⟨I,rfl⟩,b6,Y,λr D=>⟨(jk r D).1,(jk r D).2,λk=>k.2 D⟩,λb U=>(by rw[n' b]at U;cases U),nY.CF.2 fk⟩
      bR:=λaZ m hm=>by grind
      j1:=iK,hX:=fm }
  obtain⟨az,AN⟩:=mS x l hQ;refine (h.ik _ _ w _ F _ rfl rfl rfl rfl rfl rfl D az).mono λe w' ⟨v,bl,aG,bT,F',he,gK,_,bk⟩=>?_;obtain⟨n,ad,et,gb,q_⟩:=ri bl;obtain⟨⟨asD,SP⟩,_,jg,an,a6,SQ⟩:=bk.e7 et ic.aI gb n ad q_;refine⟨v,n,ad,F',jg,he,λhr=>?_,nY.CF.1 SQ,bk.iq,λr c1=>?_,bk.ds,λr E L=>bk.e5 r ⟨E,L⟩,λr c1=>⟨?_,(an r c1).1,(an r c1).2.1⟩,bk.size,bk.eN⟩
  · grind
  · rcases bk.hN r c1 with h | h<;>grind
  grind
theorem L6{P:Program}{aQ:dV}{k:FuncId}{c:cK}(h:cW P aQ k c)(iK:qR P aQ){cs:List V}{aI:V}{S:(hW (cs.map .bO)).aj->List aI.aj->Prop}(mk:(hW (cs.map .bO)).aj->Nat->(List aI.aj->Prop)->c.cA.aj)
    (aC:c.kS=jQ (hW (cs.map .bO))+1) (jj:c.kS<=fz) (uy:hW (cs.map .bO)≠.dc)
    (fD:∀ x l ab i,(∃ T,S x T)->(c.cA.ad (mk x l ab)).aA i=.undef\/(i<jQ (hW (cs.map .bO))+1/\0<i/\∃ e y,(c.cA.ad (mk x l ab)).aA i=.eL e y/\kc (hW (cs.map .bO)) x (i - 1)=.val (.bO e) (some y))\/(i=0/\(c.cA.ad (mk x l ab)).aA i=.il l)\/(i=cd/\(c.cA.ad (mk x l ab)).aA i=.aS l aI ab [] false))
    (ho:c.cA.bF=[]) (ri:∀ bl,∃ n ad l ab,(c.a_.ad bl).aA cd=.aS l aI ab n ad)
    (mS:∀ x l,(∃ ab,S x ab)->(c.sh (mk x l (S x))).e3/\∀ bl,(c.sh (mk x l (S x))).a_ bl->∀ et gb p,(c.a_.ad bl).aA cd=.aS et aI gb p false->S x p):yd P k ⟨cs,aI,S⟩:=by
  refine⟨h.enter,λF w args x bp fm fu eM l abB Y jk asE asF=>?_⟩;have b6:=abk asE;obtain⟨ka,DC⟩:=vk (H:=λ_=>⟨0,.ev⟩) (kap:=λ_=>⟨0,0,0,false⟩) (hW (cs.map .bO)) fu uy;have n':∀ b,(c.cA.ad (mk x l (S x))).aa b=⟨0,.ev⟩:=λb=>by
    show eP (gV dx c.cA.bF (eV dx c.cA.b1 (mk x l (S x))).2) b=_;generalize (eV dx c.cA.b1 (mk x l (S x))).2=z;revert z;rw[ho];intro z;rfl
  have cN:(Value.func (.yield l) #[] #[]::args).length=c.kS:=by grind
  have D:bu { P:=P,ep:=w,jA:=F,K0:=λr=>r<w.heap.size/\¬Y r,bZ:=c.kS,r:=none,dj:=[],j':=λ_=>none,cI:=⟨l,aI,S x,abB⟩,aX:=aQ } (c.cA.ad (mk x l (S x)))
      { tmps:=(Value.func (.yield l) #[] #[]::args).toArray,defers:=[] } w (λ_=>⟨0,0,0,false⟩) F:=
    { dX := by omega
      dj:=rfl
      b1:=λi=>by
        rcases fD x l (S x) i eM with e | ⟨G,sP,nW,y,e,asG⟩ | ⟨G,e⟩ | ⟨G,e⟩
        · rw[e];trivial
        · rw[e]
          have:=(vk (H:=(c.cA.ad (mk x l (S x))).aa) (kap:=λ_=>⟨0,0,0,false⟩) (hW (cs.map .bO)) fu uy).2 (i - 1) (by omega)
          have bz:(Value.func (.yield l) #[] #[]::args).toArray.getD i undef=args.getD (i - 1) undef:=by
            obtain⟨j,rfl⟩:∃ j,i=j+1:=⟨i - 1,by omega⟩
            simp
          rw[bz]
          rw[asG]at this
          obtain⟨_,af⟩:=(ee rfl).1 this
          rcases af with⟨_,aC⟩ | ⟨q,sN,bC,bB,RV,aM,aT⟩
          · grind
          · cases RV
            exact⟨q,bC,(aPQ bB).1,aM,aT⟩
        · rw[e]
          subst G
          rfl
        · rw[e];trivial
      bF:=λb=>by unfold c6;rw[n' b];trivial
      own:=λb U=>by rw[n' b]at U;cases U
      inj:=λb bj U _ _=>by rw[n' b]at U;cases U
      ds:=bp
      hN:=λr D=>.inl D
      iq:=λr D=>D
      ir:=λr D=>D.1
      e5:=λ_ _=>rfl
      size:=amn _
      eN:=dL.refl _
      hB:=jj
      lb:=λb r h=>by grind
      iS:=λb r h=>by grind
      ld:=λb k h=>by grind
      jB:=λb k h=>by grind
      e7:=λet mX gb n ad e=>by
        rcases fD x l (S x) cd eM with aZ | ⟨G,_⟩ | ⟨G,_⟩ | ⟨_,aZ⟩
        · grind
        · grind
        · grind
        · rw[aZ]at e
          cases e
          exact⟨⟨abB,rfl⟩,b6,Y,λr D=>⟨(jk r D).1,(jk r D).2,λk=>k.2 D⟩,λb U=>(by rw[n' b]at U;cases U),nY.CF.2 asF⟩
      bR:=λaZ m hm=>by grind
      j1:=iK,hX:=fm }
  obtain⟨az,AN⟩:=mS x l eM;have ga:#[Value.func (.yield l) #[] #[]]++args.toArray=(Value.func (.yield l) #[] #[]::args).toArray:=by simp
  rw[ga];refine (h.ik _ _ w _ F _ rfl rfl rfl rfl rfl rfl D az).mono λe w' ⟨v,bl,aG,bT,F',he,gK,_,bk⟩=>?_;obtain⟨n,ad,et,gb,q_⟩:=ri bl;obtain⟨⟨asD,SP⟩,_,jg,an,a6,SQ⟩:=bk.e7 et aI gb n ad q_;refine⟨v,n,ad,F',jg,he,λhr=>?_,nY.CF.1 SQ,bk.iq,λr c1=>?_,bk.ds,λr E L=>bk.e5 r ⟨E,L⟩,λr c1=>⟨?_,(an r c1).1,(an r c1).2.1⟩,bk.size,⟨bk.eN.os,bk.eN.tape,bk.eN.output⟩⟩
  · grind
  · rcases bk.hN r c1 with h | h<;>grind
  grind
end Go.Fer
namespace Go.Fer
open Go.RowKit Go.ChangeShapes Go.WideShapes
def V.jn:V->Bool
 | .bool | .int _ | .str | .dc=>true
 | .ad t=>t.jn
 | .ar a b=>a.jn&&b.jn
 | .slice e=>e.jn
 | _=>false
def V.jZ:(t:V)->t.aj->Prop
 | .int k,x=>gM k x
 | .str,x=>x.length<2 ^ 63
 | .ad t,x=>t.jZ x
 | .ar a b,x=>a.jZ x.1/\b.jZ x.2
 | .slice e,xs=>xs.length<2 ^ 63/\∀ y∈xs,e.jZ y
 | .array n e,xs=>xs.length=n/\∀ y∈xs,e.jZ y
 | _,_=>True
theorem DM{P:Program}{w:World}{F:Nat->Prop}:∀ (t:V) {cs:List Value} {x:t.aj},cw P t F w cs x->t.jZ x
 | .bool,_,_,_=>trivial
 | .int _,_,_,h=>h.2
 | .str,_,_,h=>h.2
 | .dc,_,_,_=>trivial
 | .ad t,_,_,h=>by exact DM t h
 | .ar a b,_,_,h=>by
  obtain⟨c,d,_,E,L⟩:=h;exact⟨DM a E,DM b L⟩
 | .slice e,_,xs,h=>by
  obtain⟨a,cap,_,E,L,an,a6⟩:=h;refine⟨by omega,λy ba=>?_⟩;obtain⟨i,G,rfl⟩:=List.mem_iff_getElem.1 ba;cases a with
  | none=>grind
  | some p=>
   obtain⟨bC,_,k⟩:=(a6 p rfl (by omega)).2.2 i G;exact DM e k
 | .array n e,_,xs,h=>by
  obtain⟨gN,_,E,L,an⟩:=h;refine⟨L,λy ba=>?_⟩;obtain⟨i,G,rfl⟩:=List.mem_iff_getElem.1 ba;exact DM e (an i G (by omega))
 | .bO _,_,_,_=>trivial
 | .map _ _,_,_,_=>trivial
 | .fn _ _,_,_,_=>trivial
 | .cG _,_,_,_=>trivial
 | .eW,_,_,_=>trivial
 | .cM _,_,_,_=>trivial
section
variable {H:Type} {enc:TypeId×Value->H} {P:Program} {w:World}
theorem cx.cells{t:V}{id:TypeId}(h:cx P t id):P.cellsOf id=t.size:=by
 obtain⟨i,z,E,L,_⟩:=nv h.nu;simp[Program.cellsOf,E,L]
theorem abC{a:Addr}{n:Nat}{bC:List Value}(h:w.cells? 0 a n=some bC)(aC:0<n):a.spot=none/\a.block<w.heap.size/\bC.length=n/\∀ j (aK:j<bC.length),w.cell? ⟨a.block,a.off+j,none⟩=some bC[j]:=by
 have U:=World.cells?_block h aC;have mb:a.spot=none:=by
  unfold World.cells? at h;split at h
  ·obtain⟨m,rfl⟩:∃ m,n=m+1:=⟨n - 1,by omega⟩
   rw[List.range_succ_eq_map]at h;simp  [amj]at h;obtain⟨v,af,_⟩:=h;cases az:a.spot with
   | none=>rfl
   | some x=>simp[World.cell?,Addr.add]at af;grind
  omega
 unfold World.cells? at h;split at h
 ·have hlen:bC.length=n:=by
   have:∀ (l:List Nat) (r:List Value),l.mapM (λi=>w.cell? (a.add i))=some r->r.length=l.length:=by
    intro l;induction l with
    | nil=>simp
    | cons x l aP=>
     intro r D;simp  [amj,amo]at D;grind
   grind
  refine⟨mb,U,hlen,λj aK=>?_⟩;have:∀ (l:List Nat) (r:List Value),l.mapM (λi=>w.cell? (a.add i))=some r->∀ j (E:j<l.length) (L:j<r.length),w.cell? (a.add l[j])=some r[j]:=by
   intro l;induction l with
   | nil=>simp
   | cons x l aP=>
    intro r D j E L;simp  [amj,amo]at D;grind
  have FX:a.add ((List.range n)[j]'(by grind))=⟨a.block,a.off+j,none⟩:=by
   cases a;subst mb;simp[Addr.add]
  grind
 omega
def s9(w:World):Nat->Prop:=λr=>r<w.heap.size
def V.rl(n:Nat):(t:V)->t.aj->Prop
 | .ad t,x=>t.rl n x
 | .ar a b,x=>a.rl n x.1/\b.rl n x.2
 | .slice e,xs=>xs.length<=n/\∀ y∈xs,e.rl n y
 | _,_=>True
structure Fy(b:DataW H->Nat):Prop where
 len:∀ e s,e.length<=b (.slice e s)
 JR:∀ e s d,d∈e->b d<=b (.slice e s)
 XZ:∀ l d,d∈l->b d<=b (.agg l)
variable {b:DataW H->Nat} {N:Nat}
theorem asH(U:Fy b)(t:V):(t.jn=true->∀ {id:TypeId} {cZ:Nat} {cs:List Value} {x:DataW H×List MemPlace},cx P t id->DataW.trod enc P w 0 (λ_=>true) true cZ id cs=some x->b x.1<=N->∃ y,cw P t (s9 w) w cs y/\t.rl N y)/\
  (t.jn=true->∀ {l:List Field} {off n:Nat} {cs:List Value},df P t (.inr (l,off))=true->(∀ f∈l,∃ x,DataW.trod enc P w 0 (λ_=>true) true n f.type ((cs.drop f.offset).take (P.cellsOf f.type))=some x/\b x.1<=N)->∃ y,cw P t (s9 w) w ((cs.drop off).take t.size) y/\t.rl N y):=by
 induction t with
 | bool=>
  refine⟨λ_ {id cZ cs x} aH h _=>?_,λ_ {l off n cs} h=>by simp[df]at h⟩;have hu:P.underlying id=some .bool:=by
   unfold cx at aH;simp  [df]at aH;grind
  obtain⟨b,rfl,_⟩:=DataW.trod_bool hu h;exact⟨_,rfl,trivial⟩
 | int k=>
  refine⟨λ_ {id cZ cs x} aH h _=>?_,λ_ {l off n cs} h=>by simp[df]at h⟩;obtain⟨n,rfl,_,hw⟩:=DataW.trod_int aH.int h;simp  [Lit.wf,amp]at hw;exact⟨n,⟨rfl,hw⟩,trivial⟩
 | str=>
  refine⟨λ_ {id cZ cs x} aH h _=>?_,λ_ {l off n cs} h=>by simp[df]at h⟩;obtain⟨s,rfl,_,hw⟩:=DataW.trod_string aH.str h;refine⟨s.data.toList,⟨by simp,?_⟩,trivial⟩;have:s.data.toList.length=s.size:=by rfl
  have:maxLen<2 ^ 63:=by decide
  omega
 | dc=>exact⟨λ_ {id cZ cs x} aH h _=>by simp[cx,df]at aH,λ_ {l off n cs} h=>by simp[df]at h⟩
 | ad t aP=>
  refine⟨λah {id cZ cs x} aH h pC=>?_,λ_ {l off n cs} h=>by simp[df]at h⟩;have SR:P.cellsOf id=t.size:=aH.cells;obtain⟨gw,hu⟩:=aH.ad;obtain⟨xs,n,_,rfl,hlen,Zd,ay⟩:=DataW.trod_struct hu h;unfold cx at aH;simp  [df]at aH;obtain⟨_,aH⟩:=aH;rw[hu]at aH;have mv:∀ f∈gw.toList,∃ x,DataW.trod enc P w 0 (λ_=>true) true n f.type ((cs.drop f.offset).take (P.cellsOf f.type))=some x/\b x.1<=N:=by
   intro f asI;obtain⟨i,G,rfl⟩:=List.mem_iff_getElem.1 asI;have d_:i<gw.size:=by omega
   refine⟨xs[i]'(by omega),?_,aPL (U.XZ _ _ (aQs (amk _))) pC⟩;rw[ay i _ (by simp)];simp
  simp  at aH;split at aH
  ·have aH:=aP4 aH;subst aH;have:=by
    have:=hlen.trans SR;simpa [V.size]using this
   subst this;exact⟨(),rfl,trivial⟩
  ·rename_i f gU;simp  at aH;obtain⟨⟨⟨aW,E⟩,_⟩,_⟩:=aH;obtain⟨x,al,asJ⟩:=mv f (by grind);have hc:=cx.cells E;rw[aW,List.drop_zero,aQI (by omega)]at al;exact aP.1 ah E al asJ
  ·obtain⟨y,ba⟩:=aP.2 ah aH mv;rw[List.drop_zero,aQI (by omega)]at ba;exact⟨y,ba⟩
 | ar a b hi gj=>
  refine⟨λ_ {id cZ cs x} aH h _=>by simp[cx,df]at aH,λah {l off n cs} aH h=>?_⟩;simp  [V.jn]at ah;have join:∀ {y:a.aj} {z:b.aj},cw P a (s9 w) w ((cs.drop off).take a.size) y/\a.rl N y->cw P b (s9 w) w ((cs.drop (off+a.size)).take b.size) z/\b.rl N z->∃ y,cw P (.ar a b) (s9 w) w ((cs.drop off).take (V.ar a b).size) y/\(V.ar a b).rl N y:=by
   intro y z ba bA;refine⟨(y,z),⟨_,_,?_,ba.1,bA.1⟩,ba.2,bA.2⟩;simp  [V.size];rw[List.take_add,List.drop_drop]
  match l,aH with
  | f::g::[],aH=>
   simp  [df,bne_iff_ne]at aH;obtain⟨⟨⟨⟨aW,E⟩,_⟩,_⟩,⟨⟨⟨iC,aM⟩,_⟩,_⟩⟩:=aH;obtain⟨x,al,aC⟩:=h f (by simp);obtain⟨eS,oH,xb⟩:=h g (by simp);rw[cx.cells E]at al;rw[cx.cells aM]at oH;obtain⟨y,ba⟩:=hi.1 ah.1 E al aC;obtain⟨z,bA⟩:=gj.1 ah.2 aM oH xb;grind
  | f::g::e::gw,aH=>
   simp  [df,bne_iff_ne]at aH;obtain⟨⟨⟨⟨aW,E⟩,_⟩,_⟩,aM⟩:=aH;obtain⟨x,al,aC⟩:=h f (by simp);rw[cx.cells E]at al;obtain⟨y,ba⟩:=hi.1 ah.1 E al aC;obtain⟨z,bA⟩:=gj.2 ah.2 aM λkv vC=>h kv (amr _ vC);grind
 | slice e aP=>
  refine⟨λah {id cZ cs x} aH h pC=>?_,λ_ {l off n cs} h=>by simp[df]at h⟩;obtain⟨i,hu,he,cN⟩:=aH.sl;have SR:=he.cells;rcases DataW.trod_slice hu h with⟨rfl,_⟩ | ⟨a,len,cap,elems,b8,n,rfl,rfl,al,_,L7,w3,mz,f',abD,_⟩
  ·exact⟨[],⟨none,0,rfl,amn _,by decide,λ_=>rfl,λp ai=>by omega⟩,aPR _,λy ba=>by grind⟩
  ·rw[al]at pC;have kh:0<P.cellsOf i:=by omega
   have key:∀ j,j<len->∃ bC y,w.cells? 0 (a.add (j*P.cellsOf i)) (P.cellsOf i)=some bC/\cw P e (s9 w) w bC y/\e.rl N y:=by
    intro j aK;have:=f' j aK;rw[ams (by omega)]at this;obtain⟨bC,E,L⟩:=Option.bind_eq_some_iff.1 this;obtain⟨y,ba⟩:=aP.1 ah he L (aPL (U.JR _ _ _ (aQs (amk _))) pC);grind
   have asK:0<cap->a.spot=none/\a.block<w.heap.size:=by
    intro hc;have:∃ bC,w.cells? 0 (a.add (0*P.cellsOf i)) (P.cellsOf i)=some bC:=by
     by_cases Ks:0<len
     ·grind
     ·obtain⟨m1,m2⟩:=abD rfl;have:=m2 0 (by omega);rw[ams (by omega)]at this;obtain⟨bC,E,_⟩:=Option.bind_eq_some_iff.1 this;grind
    obtain⟨bC,E⟩:=this;have aE:a.add (0*P.cellsOf i)=a:=by unfold Addr.add;simp
    obtain⟨aM,aT,_⟩:=abC E kh;grind
   have:∃ bq:List e.aj,bq.length=len/\∀ j (aK:j<bq.length),∃ bC,w.cells? 0 (a.add (j*P.cellsOf i)) (P.cellsOf i)=some bC/\cw P e (s9 w) w bC bq[j]/\e.rl N bq[j]:=by
    clear f' mz h L7 abD pC;induction len with
    | zero=>simp
    | succ m asL=>
     obtain⟨bq,l7,dh⟩:=asL λj aK=>key j (by omega);obtain⟨bC,y,E,L⟩:=key m (by omega);refine⟨bq++[y],by grind,λj aK=>?_⟩;grind
   have asM:len<=N:=by have:=U.len (elems.map (·.1)) (b8.map (·.1));grind
   obtain⟨bq,rfl,l7⟩:=this;have Av:maxLen<2 ^ 63:=by decide
   refine⟨bq,⟨some a,cap,rfl,L7,by omega,(by simp),λp ai CL=>?_⟩,asM,λy ba=>by
    obtain⟨j,aK,rfl⟩:=List.mem_iff_getElem.1 ba;grind⟩
   cases ai;obtain⟨aM,aT⟩:=asK CL;refine⟨aT,aM,λj aK=>?_⟩;obtain⟨bC,d1,d2,_⟩:=l7 j aK;obtain⟨m1,m2,m3,m4⟩:=abC d1 kh;refine⟨bC,⟨aT,rfl,λq bB=>?_⟩,d2⟩;have aE:a.add (j*P.cellsOf i)=⟨a.block,a.off+j*e.size,none⟩:=by
    rw[SR];cases a;subst aM;unfold Addr.add;simp
   grind
 | array n e aP=>exact⟨λh=>by simp[V.jn]at h,λh=>by simp[V.jn]at h⟩
 | bO e aP=>exact⟨λh=>by simp[V.jn]at h,λh=>by simp[V.jn]at h⟩
 | map k v zW zX=>exact⟨λh=>by simp[V.jn]at h,λh=>by simp[V.jn]at h⟩
 | fn a b hi gj=>exact⟨λh=>by simp[V.jn]at h,λh=>by simp[V.jn]at h⟩
 | cG a aP=>exact⟨λh=>by simp[V.jn]at h,λh=>by simp[V.jn]at h⟩
 | eW=>exact⟨λh=>by simp[V.jn]at h,λh=>by simp[V.jn]at h⟩
 | cM e aP=>exact⟨λh=>by simp[V.jn]at h,λh=>by simp[V.jn]at h⟩
theorem abE(U:Fy b){t:V}(ah:t.jn=true){id:TypeId}(aH:cx P t id){base:Nat}{v:Value}{d:DataW H}{bt:List MemPlace}(b6:Value.okWide P w .any base id v)
  (h:DataW.Trod enc P w 0 (λ_=>true) true id v d bt) (pC:b d<=N):∃ y,fr P t (s9 w) w v y/\t.rl N y:=by
 obtain⟨n,aC⟩:=h;obtain⟨y,ba,ay⟩:=(asH U t).1 ah aH aC pC;refine⟨y,⟨?_,ba⟩,ay⟩;cases t with
 | bool=>
  have hu:P.underlying id=some .bool:=by
   unfold cx at aH;simp  [df]at aH;grind
  simp  [Value.okWide,Cell.okWide,Cell.ok]at b6;cases v<;>first | rfl | grind
 | int k=>
  simp  [Value.okWide,aH.int,Cell.okWide,Cell.ok]at b6;cases v<;>first | rfl | grind
 | str=>
  simp  [Value.okWide,aH.str,Cell.okWide,Cell.ok]at b6;cases v<;>first | rfl | grind
 | dc=>simp[cx,df]at aH
 | ad t=>
  obtain⟨gw,hu⟩:=aH.ad;simp  [Value.okWide,hu]at b6;obtain⟨cs,rfl,hc,_⟩:=b6;exact⟨cs,rfl,hc.trans aH.cells⟩
 | ar a b=>simp[cx,df]at aH
 | slice e=>
  obtain⟨i,hu,_⟩:=aH.sl;simp  [Value.okWide,Cell.okWide,Cell.ok]at b6;cases v<;>first | rfl | grind
 | array n e=>simp[V.jn]at ah
 | bO e=>simp[V.jn]at ah
 | map k v=>simp[V.jn]at ah
 | fn a b=>simp[V.jn]at ah
 | cG a=>simp[V.jn]at ah
 | eW=>simp[V.jn]at ah
 | cM e=>simp[V.jn]at ah
def Bi(P:Program):List TypeId->V->Bool
 | [id],t=>df P t (.inl id)&&t.jn
 | id::ids,.ar a b=>df P a (.inl id)&&a.jn&&Bi P ids b
 | _,_=>false
theorem abF(U:Fy b):∀ (ids:List TypeId) (ts:V) {base:Nat} {aG:List Value} {bC:List (DataW H)} {bt:List MemPlace},Bi P ids ts=true->DataW.TrodAll enc P w 0 (λ_=>true) true ids aG bC bt->
  (∀ (j:Nat) t v,ids[j]?=some t->aG[j]?=some v->Value.okWide P w .any base t v)->(∀ d∈bC,b d<=N)->∃ x,gv P ts (s9 w) w aG x/\ts.rl N x
 | [],ts,_,aG,bC,bt,h,_,_,_=>by simp[Bi]at h
 | [id],t,_,aG,bC,bt,h,kQ,b6,pC=>by
  simp  [Bi]at h;obtain⟨v0,SS,d0,SU,Kw,nt,rfl,rfl,rfl,aW,yP⟩:=trodAll_cons kQ;obtain⟨rfl,rfl,rfl⟩:=trodAll_nil yP;obtain⟨y,⟨A8,xo⟩,ay⟩:=abE U h.2 h.1 (b6 0 id v0 rfl rfl) aW (pC _ (aQM ..));refine⟨y,⟨?_,by simp_all⟩,ay⟩;cases t<;>first | exact⟨v0,rfl,A8⟩ | (simp[df]at h;done)
 | id::Zp::ids,ts,base,aG,bC,bt,h,kQ,b6,pC=>by
  cases ts with
  | ar a b=>
   simp  [Bi]at h;obtain⟨v0,SS,d0,SU,Kw,nt,rfl,rfl,rfl,aW,yP⟩:=trodAll_cons kQ;obtain⟨y,⟨A8,xo⟩,ay⟩:=abE U h.1.2 h.1.1 (b6 0 id v0 rfl rfl) aW (pC _ (aQM ..));obtain⟨z,⟨L8,asN⟩,aD⟩:=abF U (Zp::ids) b h.2 yP (λj t v E L=>b6 (j+1) t v (by grind) (by grind)) λd ax=>pC d (amr _ ax);exact⟨(y,z),⟨⟨A8,L8⟩,_,_,amD _ _,xo,asN⟩,ay,aD⟩
  | _=>simp[Bi]at h
theorem abG(ah:laidOutB P=true){w':World}{abH:Nat->Bool}:∀ (ids:List TypeId) {aG:List Value} {bC:List (DataW H)} {bt:List MemPlace},(ids.all λt=>P.readableRec t&&decide (t<P.types.size))=true->
  DataW.TrodAll enc P w 0 (λ_=>true) true ids aG bC bt->(∀ p∈bt,w.sameAt w' p)->(∀ p∈bt,abH p.block=true)->DataW.TrodAll enc P w' 0 abH true ids aG bC bt
 | [],_,_,_,_,h,_,_=>by
  obtain⟨rfl,rfl,rfl⟩:=trodAll_nil h;rfl
 | id::ids,aG,bC,bt,D,h,E,L=>by
  simp only[aQn,amm,amp]at D;obtain⟨v0,SS,d0,SU,Kw,nt,rfl,rfl,rfl,aW,yP⟩:=trodAll_cons h;exact trodAll_cons_mk (Go.WideElems.Trod_stays ah D.1.1 D.1.2 aW (λp ai=>E p (aQQ _ ai)) (λp ai=>L p (aQQ _ ai)))
   (abG ah ids D.2 yP (λp ai=>E p (aP' _ ai)) (λp ai=>L p (aP' _ ai)))
theorem amy(U:Fy b){k:FuncId}{fn:Func}{ts:V}{sh:ts.aj->M (V.bool).aj}{spec:ChangeSpec}{rt:TypeId}(asO:laidOutB P=true)(AB:hA P k ts .bool sh)(asP:∀ x,ts.jZ x->ts.rl N x->c' (sh x) λy=>y=true)
  (fu:Bi P fn.params.toList ts=true) (asQ:(fn.params.toList.all λt=>P.readableRec t&&decide (t<P.types.size))=true) (gT:fn.resultTypes=#[rt]) (asR:P.underlying rt=some .bool)
  (af:spec.vars=[]) (hg:∀ (H:Type) (bC:List (DataW H)),bC.length=fn.params.size->spec.fn H bC={ results:=[.lit (.bool true)],args:=bC })
  {base:Nat} {args:Array Value} {bC gs:List (DataW H)} {before:List MemPlace} (Bj:∀ (j:Nat) t v,fn.params[j]?=some t->args[j]?=some v->Value.okWide P w .any base t v)
  (wQ:DataW.Whole enc P fn.params.toList spec.vars false w args.toList bC gs before) (pC:∀ d∈bC,b d<=N) (fm:pa P (s9 w) w:=by exact λb U=>absurd (show b<0 from U) (Nat.not_lt_zero b)) :
  Calls P k args w λe s4=>∃ v,e=.returned v/\spec.post enc P fn false true false false w args v s4:=by
 have dv:=wQ.lt;have abI:=wQ;obtain⟨p,q,kQ,SV,rfl,w2,_⟩:=wQ;have bB:gs=[]/\q=[]:=by
  rw[af]at SV;cases gs with
  | nil=>exact⟨rfl,SV⟩
  | cons _ _=>exact SV.elim
 obtain⟨rfl,rfl⟩:=bB;simp  at abI dv w2;obtain⟨x,al,ay⟩:=abF U fn.params.toList ts fu kQ (λj t v E L=>Bj j t v (by grind) (by grind)) pC;obtain⟨az,au⟩:=asP x (DM ts al.2) ay;have iA:bC.length=fn.params.size:=by
  have:∀ (ids:List TypeId) {aG:List Value} {bC:List (DataW H)} {bt:List MemPlace},DataW.TrodAll enc P w 0 (λ_=>true) true ids aG bC bt->bC.length=ids.length:=by
   intro ids;induction ids with
   | nil=>intro aG bC bt h;obtain⟨rfl,rfl,rfl⟩:=trodAll_nil h;rfl
   | cons id ids aP=>intro aG bC bt h;obtain⟨v0,SS,d0,SU,Kw,nt,rfl,rfl,rfl,aW,yP⟩:=trodAll_cons h;grind
  grind
 have hc:=AB.ik (s9 w) w args.toList x (λ_ h=>h) fm al az;refine hc.mono λe s4 ⟨v,y,he,ba,D,U⟩=>?_;obtain⟨aG,cq,c7⟩:=D;have asS:v=.bool true:=by
  subst cq;obtain⟨⟨u,hu,j0⟩,qZ⟩:=c7;simp  [l1]at j0;simp  [cw]at qZ;grind
 subst asS;have vr:∀ p'∈p,w.sameAt s4 p':=by
  intro p' ai;have E:=U.block _ (dv p' ai);cases p' with
  | cell b off=>simp  [World.sameAt,World.cell?];simp  [MemPlace.block]at E;grind
  | map b=>exact E
 refine⟨_,he,bC,[],p,[],p,[],abI,?_,?_,?_,?_,λh=>by grind⟩
 ·rw[aPT,hg H bC iA,gT];exact trodAll_cons_mk (shut_bool asR true) trodAll_mk0
 ·rw[aPT,hg H bC iA];exact abG asO _ asQ kQ vr λp' ai=>by grind
 ·rw[af,aPT,hg H bC iA];rfl
 ·refine⟨U.os,U.output,λi G=>?_⟩;have E:=U.block i G;grind
end
section
variable {ag bet hh A rho:Type}
abbrev be(x:A):M (aJ A bet):=mpure (.aw x)
abbrev bY(x:rho):M (aJ A (aJ rho bet)):=aq (mpure (.aw x)) λr=>mpure (.aV r)
abbrev pD(x:bet):M (aJ A bet):=aq (mpure x) λr=>mpure (.aV r)
abbrev iM(m:M bet):M (aJ A bet):=aq m λr=>mpure (.aV r)
abbrev eB(l:List ag)(m:M bet):M bet:=ae (cb (Add.add l.length (Add.add 0 1))) m
abbrev gA(l:List ag)(m:M bet):M bet:=ae ((0:Int)<=0/\0<Int.ofNat l.length) m
abbrev bU(i:Int)(l:List ag)(m:M bet):M bet:=ae (0<=i/\i<Int.ofNat l.length) m
abbrev fw(i:Int)(l:List ag)(m n:M bet):M bet:=if decide (i<Int.ofNat l.length) then ae (0<=i/\i<Int.ofNat l.length) m else n
abbrev iA(i:Int)(l:List ag)(m n:bet):bet:=if decide (i<Int.ofNat l.length) then m else n
abbrev bm(p:Prop)[Decidable p](m n:bet):bet:=if decide p then m else n
abbrev bD(b:Bool)(m n:bet):bet:=if b then m else n
abbrev bQ(f:A->M (aJ A (aJ rho bet)))(x:A)(g:rho->M bet):M bet:=aq (dA f x) (aJ.fC g)
abbrev cB(m:M (aJ rho bet))(g:rho->M bet):M bet:=aq m (aJ.fC g)
abbrev bf(x:Int):Int:=IntKind.wrap .i64 (Add.add x 1)
abbrev eZ(x y:Int):Int:=IntKind.wrap .i64 (Add.add x y)
abbrev cE(x y:Int):Int:=IntKind.wrap .i64 (x-y)
abbrev gB(l:List ag)(d:ag):ag:=l.getD (Int.toNat 0) d
abbrev bw(l:List ag)(i:Int)(d:ag):ag:=l.getD i.toNat d
abbrev aR(l:List ag):Int:=Int.ofNat l.length
abbrev cS(x:bet):M (aJ A (aJ rho bet)):=aq (aq (mpure x) λr=>mpure (.aV r)) λr=>mpure (.aV r)
abbrev iW(l:List ag)(m:M bet):M bet:=ae (cb (Add.add 0 l.length)) m
abbrev cf(b:Bool)(m:M ag)(d:ag)(f:ag->M bet):M bet:=aq (yz b m d) f
abbrev pE(m:M Bool):Bool:=!(M.val m false)
abbrev m_(m:M Bool):Bool:=M.val m false
abbrev vJ(m:M Int):Int:=M.val m 0
abbrev b7(x y:ag)[Decidable (x=y)]:Bool:=decide (x=y)
abbrev e6(x y:ag)[Decidable (x≠y)]:Bool:=decide (x≠y)
abbrev fT(x y:Int):Bool:=decide (x<y)
abbrev dp(x y:Int):Bool:=decide (x>y)
abbrev hS(x y:Int):Bool:=decide (x<=y)
abbrev h':M Bool:=mpure false
abbrev iX:M Bool:=mpure true
abbrev dE(c:M ag)(m:M bet):M bet:=ae c.e3 m
abbrev hg(f:ag×bet->Bool)(l:List (ag×bet)):Option bet:=Option.map (λx=>x.2) (List.find? f l)
abbrev vn(x y:Int):Int:=if x>y then x else y
end
end Go.Fer
namespace Go.Fer.Sk
open Go.Proofs
abbrev bX:V:=.int .i64
abbrev cX:V:=.int .i64
abbrev hH:V:=.bool
abbrev e':V:=.int .u8
abbrev asT:V:=.int .u8
abbrev asU:V:=.ad (.ar bX (.ar cX (.ar hH asT)))
abbrev kD:V:=.str
abbrev asV:V:=.str
abbrev asW:V:=.str
abbrev asX:V:=.int .i32
abbrev Hz:V:=.ad (.ar cX cX)
abbrev DN:V:=.ad (.ar cX (.ar cX Hz))
abbrev HA:V:=.slice DN
abbrev gq:V:=.slice cX
abbrev DO:V:=.ad (.ar cX (.ar gq Hz))
abbrev L9:V:=.slice DO
abbrev Bk:V:=.ad L9
abbrev HB:V:=.slice Bk
abbrev HC:V:=.ad (.ar cX (.ar cX (.ar cX cX)))
abbrev L_:V:=.slice HC
abbrev xz:V:=.ad (.ar HA (.ar HB (.ar cX L_)))
abbrev Bl:V:=.ad (.ar cX (.ar cX (.ar cX (.ar cX gq))))
abbrev L':V:=.slice Bl
abbrev yQ:V:=.ad (.ar gq (.ar Hz (.ar cX (.ar cX cX))))
abbrev Ma:V:=.slice yQ
abbrev uC:V:=.ad (.ar cX (.ar cX cX))
abbrev HD:V:=.slice uC
abbrev t32:V:=.ad (.ar xz (.ar gq (.ar L' (.ar Ma (.ar HD cX)))))
abbrev s_:V:=.slice Hz
abbrev lq:V:=.ad (.ar cX (.ar cX (.ar cX (.ar cX (.ar cX cX)))))
abbrev qt:V:=.slice lq
abbrev SW:V:=.ad (.ar cX (.ar cX (.ar cX (.ar cX (.ar cX (.ar cX cX))))))
abbrev wP:V:=.ad (.ar s_ (.ar qt (.ar gq (.ar s_ SW))))
abbrev zR:V:=.ad (.ar t32 wP)
abbrev nH:V:=.slice kD
abbrev uD:V:=.ad (.ar cX cX)
abbrev Py:V:=.slice uD
abbrev asY:V:=.fn nH hH
abbrev asZ:V:=.int .i64
abbrev abJ:V:=.ad (.ar cX (.ar cX (.ar cX cX)))
abbrev abK:V:=.fn kD hH
abbrev rm:V:=.slice e'
abbrev ta:V:=.ad zR
abbrev as0:V:=.bO ta
abbrev abL:V:=.eW
abbrev SX:V:=.ad (.ar cX (.ar hH abL))
abbrev SY:V:=.map kD SX
abbrev as1:V:=.slice cX
abbrev abM:V:=.ad (.ar cX cX)
abbrev abN:V:=.slice abM
abbrev abO:V:=.ad (.ar cX (.ar cX cX))
abbrev abP:V:=.map abO cX
abbrev HE:V:=.ad (.ar t32 (.ar abN abP))
abbrev rn:V:=.bO HE
abbrev as2:V:=.fn gq hH
abbrev as3:V:=.cG gq
abbrev abQ:V:=.ad (.ar cX (.ar cX cX))
abbrev as4:V:=.slice abQ
abbrev abR:V:=.fn yQ hH
abbrev DP:V:=.slice rm
abbrev abS:V:=.slice DP
abbrev as5:V:=.int .i64
abbrev as6:V:=.ad (.ar cX cX)
abbrev abT:V:=.bO (.array 153 .dc)
abbrev qu:V:=.ad (.ar abT rm)
abbrev as7:V:=.cG nH
abbrev as8:V:=.cG nH
abbrev tb:V:=.ad (.ar lq cX)
abbrev SZ:V:=.slice tb
abbrev S0:V:=.array 10 SZ
abbrev HF:V:=.ad (.ar gq S0)
abbrev r1:V:=.bO HF
abbrev S1:V:=.slice r1
abbrev uE:V:=.ad (.ar wP (.ar qt S1))
abbrev yR:V:=.bO uE
abbrev abU:V:=.fn cX hH
abbrev as9:V:=.fn yR hH
abbrev as_:V:=.fn (.ar lq cX) hH
abbrev as':V:=.cG (.ar lq cX)
abbrev abV:V:=.fn r1 (.ar cX hH)
abbrev Mb:V:=.map cX cX
abbrev S2:V:=.cG cX
abbrev ata:V:=.cG cX
abbrev S3:V:=.fn cX cX
abbrev atb:V:=.slice cX
abbrev S4:V:=.fn rm hH
abbrev atc:V:=.fn e' hH
abbrev atd:V:=.bO e'
abbrev ate:V:=.bO xz
abbrev atf:V:=.bO Bk
abbrev atg:V:=.array 4 kD
abbrev S5:V:=.fn lq hH
abbrev Mc:V:=.slice gq
abbrev Bm:V:=.ad (.ar xz Mc)
abbrev abW:V:=.bO Bm
abbrev abX:V:=.int .u64
abbrev abY:V:=.fn DO hH
abbrev abZ:V:=.int .i64
abbrev ab0:V:=.ad (.ar cX (.ar cX cX))
abbrev ath:V:=.map ab0 cX
abbrev ab1:V:=.fn Bl hH
abbrev ab2:V:=.fn uC hH
abbrev Md:V:=.map cX lq
abbrev ab3:V:=.slice qt
abbrev ab4:V:=.fn HC hH
abbrev ati:V:=.int .u32
abbrev ab5:V:=.int .u64
abbrev atj:V:=.bO abZ
abbrev ab6:V:=.fn DN hH
abbrev ab7:V:=.fn Bk hH
abbrev atk:V:=.int .i64
abbrev atl:V:=.int .i64
abbrev HG:V:=.fn (.ar tb tb) cX
abbrev ab8:V:=.int .u64
abbrev atm:V:=.bO cX
abbrev atn:V:=.array 24 e'
abbrev ato:V:=.bO ab8
abbrev atp:V:=.array 256 e'
abbrev ab9:V:=.ad (.ar e' e')
abbrev atq:V:=.array 16 ab9
abbrev ab_:V:=.ad kD
abbrev atr:V:=.bO ab_
abbrev ats:V:=.array 20 ab5
abbrev att:V:=.array 65 e'
abbrev atu:V:=.array 32 e'
abbrev atv:V:=.array 64 e'
abbrev atw:V:=.int .u8
def xA:List (Nat×V):=[(2,bX),(3,cX),(4,hH),(5,e'),(8,asU),(9,kD),(10,asV),(11,asW),(21,asX),(22,HA),(23,HB),(24,L_),(26,xz),(27,gq),(28,L'),(29,Ma),(30,HD),(32,t32),(33,s_),(34,qt),(36,SW),(38,wP),(40,zR),(41,nH),(42,Py),(43,asY),(45,asZ),(60,abJ),(79,Bl),(89,abK),(94,uD),(95,rm),(96,as0),(98,SY),(102,ta),(103,as1),(109,Hz),(111,yQ),(113,uC),(116,lq),(123,rn),(127,as3),(128,as4),(141,abR),(142,abS),(146,DP),(147,as5),(149,as6),(153,abT),(155,qu),(156,as7),(157,as8),(167,abL),(170,SX),(177,DN),(179,HC),(180,L9),(182,Bk),(184,DO),(190,yR),(193,abU),(194,as9),(197,r1),(198,as'),(201,abV),(202,Mb),(203,S1),(205,uE),(207,tb),(211,S2),(212,ata),(214,SZ),(215,S0),(217,S3),(218,abP),(219,abN),(221,HE),(225,abO),(228,abM),(230,as2),(234,abQ),(236,atb),(241,S4),(247,atc),(252,atd),(260,ate),(264,atf),(275,atg),(284,S5),(286,as_),(288,HF),(291,abW),(295,Mc),(297,Bm),(300,abX),(304,abY),(306,abZ),(315,ath),(317,ab0),(319,ab1),(320,ab2),(324,Md),(327,ab3),(343,ab4),(346,ati),(349,ab5),(352,atj),(353,ab6),(355,ab7),(363,atk),(375,atl),(383,HG),(385,ab8),(389,atm),(397,atn),(407,ato),(410,atp),(412,ab9),(413,atq),(415,atr),(417,ab_),(419,ats),(420,att),(428,atu),(429,atv),(437,atw)]
theorem qv:eg Tryz.prog (rk xA):=abz (by kernel_rfl)
theorem DQ:Tryz.prog.follows .mixedOrders=true:=by kernel_rfl
def xB(_:Nat):Option aO:=none
theorem DR:lK Tryz.prog xB:=λk c h=>by cases h
def dT:dV:={ tO:=λ_=>none,tP:=λ_=>none }
theorem lr:qR Tryz.prog dT where
 tO:=λk v h=>by cases h
 tP:=λk v h=>by cases h
end Go.Fer.Sk
namespace Go.Fer
open Go.RowKit
def jG.mB(c:jG):aO:=⟨c.ts,.ar c.aS .dc,λx=>(c.sh x).e3,λx=>((c.sh x).val c.aS.dU,())⟩
end Go.Fer
namespace Go.Fer
variable {ag:Type}{p:Prop}
theorem atx{m n:M ag}(h:n.e3->p)(k:a8 m n):a8 (ae p m) n:=λaz=>⟨⟨h az,(k az).1⟩,(k az).2⟩
theorem tc{o:Option ag}{x:ag}(h:o=some x):o.isSome=true:=by rw[h];rfl
def S6(ts:V)(x:ts.aj)(n:Nat):Nat->Prop
 | 0=>True
 | k+1=>S6 ts x n k/\Hv (kc ts x (n+k))
theorem ab'{ts:V}{x:ts.aj}{n:Nat}:∀ {k:Nat},S6 ts x n k->∀ i,i<k->Hv (kc ts x (n+i))
 | 0,_,i,h=>by omega
 | k+1,hc,i,h=>by
  by_cases e:i=k
  ·rw[e];exact hc.2
  ·exact ab' hc.1 i (by omega)
theorem aca(ts:V)(x:ts.aj):∀ (l:List Nat) (i:Nat),fv (l.map λi=>(i,kc ts x i)) i=if i∈l then kc ts x i else .undef
 | [],i=>by simp[fv]
 | j::l,i=>by
  simp only[aQb,fv];by_cases e:i=j
  ·subst e;simp
  ·rw[if_neg e,aca ts x l i];simp[e]
theorem uF{ts:V}{x:ts.aj}{n:Nat}(h:S6 ts x n (xx ts - n)):Hw n (r0 ts x):=λi G=>by
 show Hv (fv (Ht ts x (xx ts)) i);unfold Ht;rw[aca];split
 ·rename_i hm;rw[aQ9]at hm;have aC:¬i<n:=λh=>G (.inl h);have:=ab' h (i - n) (by omega);rwa [show n+(i - n)=i by omega]at this
 ·trivial
theorem bs{n:Int}(E:-9223372036854775808<=n:=by omega)(L:n<9223372036854775808:=by omega):IntKind.i64.wrap n=n:=by
 show (if (true&&decide (n % 2 ^ 64>=(2 ^ (64 - 1):Int)))=true then n % 2 ^ 64 - 2 ^ 64 else n % 2 ^ 64)=n;grind
theorem dm(a b:Int):Add.add a b=a+b:=rfl
theorem kE(a b:Nat):Add.add a b=a+b:=rfl
theorem S7(a b:List ag):Append.append a b=a++b:=rfl
theorem cC(n:Nat):Int.ofNat n=(n:Int):=rfl
variable {x:Bool}{c:Bool}{d:Bool}
theorem vK:(x||!(if (!x)=true then c else d))=(x||!c):=by grind
theorem S8:(x||(if (!x)=true then c else d))=(x||c):=by grind
theorem xC:(x&&(if x=true then c else d))=(x&&c):=by grind
section
variable {ag bet hh A rho:Type}
theorem bx{m:M ag}{v:ag}(h:p->m=mpure v):a8 m (eE p v):=λai=>by
 rw[h ai];exact⟨trivial,λ_ ba=>ba⟩
theorem td{m:M ag}{v:ag}(h:p->c' m λy=>y=v):a8 m (eE p v):=λai=>h ai
theorem iE{v d:ag}:(eE p v).val d=v:=by
 unfold M.val;have h:∃ x,(eE p v).a_ x:=⟨v,rfl⟩
 rw[dif_pos h];exact h.choose_spec
theorem kF{v d:ag}:(mpure v).val d=v:=iE (p:=True)
theorem r2{v:ag}:(eE p v).e3=p:=rfl
theorem r3{v:ag}:(eE p v).Gy:=λ_ _ h k=>h.trans k.symm
theorem mc{g:Bool}{v d:ag}:yz g (eE p v) d=eE (g=true->p) (if g=true then v else d):=by
 cases g
 ·exact (bP (by simp) _).symm
 ·simp[yz]
theorem oe{g:Bool}{v d:ag}:yz g (mpure v) d=mpure (if g=true then v else d):=by cases g<;>rfl
theorem cY{f:A->M bet}{x:A}:aJ.fC f (.aw x:aJ A bet)=f x:=rfl
theorem uG{f:A->M bet}{r:bet}:aJ.fC f (.aV r:aJ A bet)=mpure r:=rfl
end
def fa{ag bet rho:Type}(f:ag->bet->aJ bet rho)(fin:bet->rho):List ag->bet->rho
 | [],b=>fin b
 | x::l,b=>match f x b with
  | .aw bj=>fa f fin l bj
  | .aV r=>r
variable {A:Type}{bet:Type}{rho:Type}
def aJ.pF(g:bet->A):aJ bet rho->aJ A rho
 | .aw b=>.aw (g b)
 | .aV r=>.aV r
theorem e2{body:A->M (aJ A rho)}{s0:A}(l:List ag)(mk:Nat->bet->A)(f:ag->bet->aJ bet rho)(fin:bet->rho)(I:Nat->bet->Prop)(b:bet)(qq:s0=mk 0 b)(aW:I 0 b)
  (az:∀ i (h:i<l.length) b,I i b->body (mk i b)=mpure (aJ.pF (mk (i+1)) (f l[i] b))/\∀ bj,f l[i] b=.aw bj->I (i+1) bj)
  (ay:∀ b,I l.length b->body (mk l.length b)=mpure (.aV (fin b))):dA body s0=mpure (fa f fin l b):=by
 subst qq;have key:∀ (k:Nat) (r:List ag) (b:bet),k<=l.length->r=l.drop k->I k b->dA body (mk k b)=mpure (fa f fin r b):=by
  intro k r;induction r generalizing k with
  | nil=>
   intro b ak D fk;have:k=l.length:=by have:=congrArg List.length D;grind
   subst this;exact u7 (ay b fk)
  | cons x r aP=>
   intro b ak D fk;have dv:k<l.length:=by
    grind
   rw[aPM dv]at D;injection D with al D
   obtain⟨E,L⟩:=az k dv b fk;rw[<-al]at E L;simp only[fa];cases vC:f x b with
   | aw bj=>
    rw[vC]at E;rw[CD E];grind
   | aV jM=>
    rw[vC]at E;exact u7 E
 grind
theorem eH{body:A->M (aJ A rho)}{s0:A}(l:List ag)(mk:Nat->bet->A)(f:ag->bet->aJ bet rho)(fin:bet->rho)(b:bet)(qq:s0=mk 0 b)
  (az:∀ i (h:i<l.length) b,body (mk i b)=mpure (aJ.pF (mk (i+1)) (f l[i] b)))
  (ay:∀ b,body (mk l.length b)=mpure (.aV (fin b))):dA body s0=mpure (fa f fin l b):=
 e2 l mk f fin (λ_ _=>True) b qq trivial (λi h b _=>⟨az i h b,λ_ _=>trivial⟩) λb _=>ay b
section
variable {ag bet rho:Type}
theorem uH{p:ag->Bool}{r:rho}{fin:bet->rho}:∀ (l:List ag) (b:bet),fa (λx b=>if p x=true then .aV r else .aw b) fin l b=if l.any p=true then r else fin b
 | [],b=>by rfl
 | x::l,b=>by
  simp only[fa,aQE,aPU];by_cases h:p x=true
  ·simp[h]
  ·have h:p x=false:=by grind
   simp only[h,aml,aPH,false_or];exact uH l b
theorem Me{p:ag->Bool}{r:rho}{fin:bet->rho}:∀ (l:List ag) (b:bet),fa (λx b=>if p x=true then .aw b else .aV r) fin l b=if l.all p=true then fin b else r
 | [],b=>by rfl
 | x::l,b=>by
  simp only[fa,aQn,amm];by_cases h:p x=true
  ·simp only[h,if_true,aRs];exact Me l b
  grind
theorem ec{h:bet->ag->bet}{fin:bet->rho}:∀ (l:List ag) (b:bet),fa (λx b=>.aw (h b x)) fin l b=fin (l.foldl h b)
 | [],b=>rfl
 | x::l,b=>by simp only[fa,aP3];exact ec l (h b x)
theorem HH{p:ag->Bool}:∀ (l:List ag) (b:List ag),l.foldl (λb x=>if p x=true then b++[x] else b) b=b++l.filter p
 | [],b=>by simp
 | x::l,b=>by
  simp only[aP3,List.filter_cons];rw[HH l];grind
theorem r4{hh:Type}{g:ag->hh}:∀ (l:List ag) (b:List hh),l.foldl (λb x=>b++[g x]) b=b++l.map g
 | [],b=>by simp
 | x::l,b=>by simp only[aP3,aQb];rw[r4 l];simp
end
theorem acb{p q:ag->Bool}(h:∀ x,p x=!q x)(l:List ag):l.any p=!l.all q:=by
 grind
theorem m'{p q:ag->Bool}{r:rho}{fin:bet->rho}(l:List ag)(b:bet)(h:∀ x,p x=!q x):fa (λx b=>if p x=true then .aV r else .aw b) fin l b=if l.all q=true then fin b else r:=by
 rw[uH,acb h];grind
theorem pG{mk:bet->A}{b:bet}{r:rho}:(if c=true then mpure (aJ.aV r) else mpure (aJ.aw (mk b)))=mpure (aJ.pF mk (if c=true then .aV r else .aw b)):=by cases c<;>rfl
theorem acd{mk:bet->A}{b:bet}{r:rho}:(if c=true then mpure (aJ.aV r) else mpure (aJ.aw (mk b)))=mpure (aJ.pF mk (if c=true then .aV r else .aw b)):=by cases c<;>rfl
variable {i:Nat}
theorem dQ{l:Nat}(h:i<l):decide ((i:Int)<(l:Int))=true:=by grind
theorem dK{l:Nat}(h:i<l):((0:Int)<=(i:Int)/\(i:Int)<(l:Int))=True:=by grind
theorem ed{l:List ag}{d:ag}(h:i<l.length):l.getD (Int.toNat (i:Int)) d=l[i]:=by
 grind
theorem Bn{l:List ag}{i:Int}{d:ag}(aW:0<=i)(h:i<(l.length:Int)):l.getD i.toNat d∈l:=by
 grind
def fM(a b:Int):z1':=(List.range (b - a+1).toNat).map λ(i:Nat)=>a+(i:Int)
theorem DS(a b:Int):(fM a b).length=(b - a+1).toNat:=by simp[fM]
theorem HI{a b:Int}(h:i<(fM a b).length):(fM a b)[i]=a+i:=by simp[fM]
theorem vL{a b n:Int}:n∈fM a b<->a<=n/\n<=b:=by
 simp only[fM,aRb,aQ9];constructor
 ·omega
 ·rintro⟨E,L⟩;exact⟨(n - a).toNat,by omega,by omega⟩
end Go.Fer
namespace Go.Fer.Sk
open Go.Proofs
abbrev pH:Type:=List (Nat×jG)
def rp{ag:Type}:List (Nat×ag)->Nat->Option ag
 | [],_=>none
 | p::l,k=>if k=p.1 then some p.2 else rp l k
theorem uI{ag:Type}{k:Nat}{c:ag}:∀ {l:List (Nat×ag)},rp l k=some c->(k,c)∈l
 | [],h=>by cases h
 | p::l,h=>by
  unfold rp at h;split at h
  ·rename_i e;cases h;subst e;simp
  ·exact amr _ (uI h)
def te(T:pH):List (Nat×gp)->Nat->Option gp
 | [],k=>match rp T k with
  | some c=>some (.dJ c)
  | none=>none
 | p::l,k=>if k=p.1 then some p.2 else te T l k
def ace(k:Nat)(c:jG):Prop:=hA Tryz.prog k c.ts c.aS c.sh/\(c.KX=true->∀ x,(c.sh x).Gy)
structure lP(T:pH):Type where
 ok:∀ p∈T,ace p.1 p.2
variable {T:pH}
abbrev aty(_:lP T):pH:=T
def atz:lP []:=⟨λp h=>by cases h⟩
variable {n:Nat}{c:jG}
def lP.cons(h:lP T)(k:ace n c):lP ((n,c)::T):=⟨λp ai=>by
 rcases List.mem_cons.1 ai with rfl | ai
 ·exact k
 ·exact h.ok p ai⟩
def Bo(aQ:dV):List (Nat×gp)->Prop
 | []=>True
 | p::l=>p.2.jZ Tryz.prog aQ p.1/\Bo aQ l
theorem lP.DT{aQ:dV}{T:pH}(h:lP T):∀ {sp:List (Nat×gp)},Bo aQ sp->pz Tryz.prog aQ (te T sp)
 | [],_,k,c,e=>by
  unfold te at e;split at e
  ·rename_i gl hc;cases e;exact h.ok (k,gl) (uI hc)
  ·cases e
 | p::l,az,k,c,e=>by
  unfold te at e;split at e
  ·rename_i ak;cases e;subst ak;exact az.1
  ·exact lP.DT h (sp:=l) az.2 k c e
def DU:V->List V
 | .dc=>[]
 | .ar a b=>a::DU b
 | t=>[t]
def acf:V->V
 | .bO t=>t
 | t=>t
def acg{ts ach:V}(e:ach=ts){aS:V}(sh:ts.aj->M aS.aj):ach.aj->M aS.aj:=e ▸ sh
def S9(r5:Nat)(c:jG):Option JX:=
 if h:((DU c.ts).take r5).all V.hK=true/\hW ((DU c.ts).take r5++(((DU c.ts).drop r5).map acf).map .bO)=c.ts then some ⟨(DU c.ts).take r5,((DU c.ts).drop r5).map acf,c.aS,acg h.2 c.sh⟩ else none
def aci:z9'->Nat->Option Nat
 | [],_=>none
 | p::l,k=>if k=p.1 then some p.2 else aci l k
def DV(T:pH)(cl:z9')(Mf:List (Nat×z1)):dV where
 tO:=λk=>match rp T k with
  | some c=>some ⟨c.ts,c.aS,c.sh⟩
  | none=>none
 tP:=λk=>match aci cl k with
  | some r5=>match rp T k with
   | some c=>S9 r5 c
   | none=>none
  | none=>none
 z6:=rp Mf
def HJ:List (Nat×z1)->Prop
 | []=>True
 | p::l=>yd Tryz.prog p.1 p.2/\HJ l
theorem HJ.mem:∀ {l:List (Nat×z1)},HJ l->∀ p∈l,yd Tryz.prog p.1 p.2
 | [],_,p,h=>by cases h
 | q::l,h,p,ai=>by
  rcases List.mem_cons.1 ai with rfl | ai
  ·exact h.1
  ·exact HJ.mem h.2 p ai
theorem atA{k r5:Nat}{v:JX}(h:hA Tryz.prog k c.ts c.aS c.sh)(e:S9 r5 c=some v):v.as.all V.hK=true/\hA Tryz.prog k (hW (v.as++v.cs.map .bO)) v.aS v.sh:=by
 unfold S9 at e;split at e
 ·rename_i dh;cases e;refine⟨dh.1,?_⟩;have key:∀ (ts:V) (e:ts=c.ts),hA Tryz.prog k ts c.aS (acg e c.sh):=by rintro _ rfl;exact h
  exact key _ dh.2
 ·cases e
theorem lP.u(h:lP T)(cl:z9')(Mf:List (Nat×z1))(G:HJ Mf):qR Tryz.prog (DV T cl Mf) where
 tO:=λk v e=>by
  simp only[DV]at e;split at e
  ·rename_i c hc;cases e;exact (h.ok (k,c) (uI hc)).1
  ·cases e
 tP:=λk v e=>by
  simp only[DV]at e;split at e
  ·split at e
   ·rename_i c hc;exact atA (h.ok (k,c) (uI hc)).1 e
   ·cases e
  ·cases e
 z6:=λk v e=>G.mem (k,v) (uI e)
abbrev rq(fn:Func):Code:=fn.body.getD .skip
variable {fn:Func}
theorem DW(h:fn.body.isSome=true):fn.body=some (rq fn):=by
 unfold rq;cases e:fn.body with
 | none=>rw[e]at h;cases h
 | some b=>rfl
abbrev DX(fn:Func)(ts aS:V):Bool:=fn.body.isSome&&Hx fn (rq fn) ts aS
variable {aQ:dV}
theorem Mg(aU:lP T)(iK:qR Tryz.prog aQ){sp:List (Nat×gp)}(mb:Bo aQ sp)(ay:Tryz.prog.funcs[n]?=some fn){ts aS:V}{sh:ts.aj->M aS.aj}{ann:c8}{S:ts.aj->M aS.aj}(az:∀ x,a8 (S x) (sh x))(b6:DX fn ts aS=true)(ah:∀ x,DI aQ (rk xA) xB (te T sp) fn (rq fn) ann ts aS x=S x):hA Tryz.prog n ts aS sh:=
 have b6:=amm _ _ ▸ b6
 abx DQ qv iK DR (aU.DT mb) ay (DW b6.1) b6.2 λx=>FA (FB (ah x)) (az x)
def mk(aU:lP T)(ay:Tryz.prog.funcs[n]?=some fn)(c:aO)(ann:c8){S:c.ts.aj->M c.aS.aj}(az:∀ x,a8 (S x) (c.sh x))(b6:DX fn c.ts c.aS=true:=by kernel_rfl)(ah:∀ x,DI dT (rk xA) xB (te T []) fn (rq fn) ann c.ts c.aS x=S x:=by intro x;kernel_rfl):lP ((n,c.dJ)::T):=
 aU.cons ⟨Mg aU lr (sp:=[]) trivial ay az b6 ah,λ_ _=>r3⟩
def nI(aU:lP T)(cl:z9')(ay:Tryz.prog.funcs[n]?=some fn)(c:aO)(ann:c8){S:c.ts.aj->M c.aS.aj}(az:∀ x,a8 (S x) (c.sh x))(b6:DX fn c.ts c.aS=true:=by kernel_rfl)(ah:∀ x,DI (DV T cl []) (rk xA) xB (te T []) fn (rq fn) ann c.ts c.aS x=S x:=by intro x;kernel_rfl):lP ((n,c.dJ)::T):=
 aU.cons ⟨Mg aU (aU.u cl [] trivial) (sp:=[]) trivial ay az b6 ah,λ_ _=>r3⟩
def nJ(aU:lP T)(iK:qR Tryz.prog aQ)(sp:List (Nat×gp))(mb:Bo aQ sp)(ay:Tryz.prog.funcs[n]?=some fn)(c:aO)(ann:c8){S:c.ts.aj->M c.aS.aj}(az:∀ x,a8 (S x) (c.sh x))(b6:DX fn c.ts c.aS=true:=by kernel_rfl)(ah:∀ x,DI aQ (rk xA) xB (te T sp) fn (rq fn) ann c.ts c.aS x=S x:=by intro x;kernel_rfl):lP ((n,c.dJ)::T):=
 aU.cons ⟨Mg aU iK mb ay az b6 ah,λ_ _=>r3⟩
def ls(aU:lP T)(cl:z9')(ay:Tryz.prog.funcs[n]?=some fn)(c:aO)(r5:Nat)(ann:c8){S:c.ts.aj->M c.aS.aj}(az:∀ x,a8 (S x) (c.sh x))(hc:∀ x,c.pre x->Hw r5 (r0 c.ts x):=by intro x h;obtain⟨f,ay,_⟩:=h;exact uF ⟨trivial,tc ay⟩)(b6:DX fn c.ts c.aS=true:=by kernel_rfl)
  (ah:∀ x,fS (DV T cl []) (rk xA) xB (te T []) ann (rq fn) (L3 r5 (r0 c.ts x)) (yO (rk xA) fn.results.toList c.aS)=S x:=by intro x;kernel_rfl):lP ((n,c.dJ)::T):=
 have b6:=amm _ _ ▸ b6
 aU.cons ⟨asz (n:=r5) DQ qv (aU.u cl [] trivial) DR (aU.DT (sp:=[]) trivial) ay (DW b6.1) b6.2 λx=>atx (hc x) (FA (FB (ah x)) (az x)),λ_ _=>r3⟩
variable {c:cK}
theorem eu(aU:lP T)(sp:List (Nat×gp))(mb:Bo aQ sp)(ay:Tryz.prog.funcs[n]?=some fn)(ann:c8){S:c.cA.aj->M c.a_.aj}(az:∀ x,a8 (S x) (c.sh x))(b6:(fn.body.isSome&&DK fn (rq fn) c.kS c.ln)=true:=by kernel_rfl)(ah:∀ x,L5 aQ (rk xA) xB (te T sp) fn (rq fn) ann c.cA c.a_ c.ln x=S x:=by intro x;kernel_rfl):cW Tryz.prog aQ n c:=
 have b6:=amm _ _ ▸ b6
 SO DQ qv DR (aU.DT mb) ay (DW b6.1) b6.2 λx=>FA (FB (ah x)) (az x)
theorem S_(ay:Tryz.prog.funcs[n]?=some fn)(az:∀ x,¬(c.sh x).e3)(b6:(fn.body.isSome&&DK fn (rq fn) c.kS c.ln)=true:=by kernel_rfl):cW Tryz.prog aQ n c:=
 have b6:=amm _ _ ▸ b6
 SO DQ qv DR (Psi:=λ_=>none) (λk c h=>by cases h) (ann:=.fe) ay (DW b6.1) b6.2 λx h=>absurd h (az x)
end Go.Fer.Sk
namespace Go.Fer
open Go.RowKit
theorem atB{P:Program}{aQ:dV}{k:FuncId}{ts e:V}(uy:ts≠.dc){c:cK}(h:cW P aQ k c)(iK:qR P aQ){sh:ts.aj->M (V.slice e).aj}{b0:Nat}(mk:ts.aj->c.cA.aj)
    (S':∀ x,c.cA.ad (mk x)=⟨fv ((List.range (jQ ts)).map λi=>(i,kc ts x i)),λ_=>⟨0,.ev⟩⟩) (aC:c.kS=jQ ts) (jj:c.kS<=fz) (Ta:c.ln=[none]) (val:c.a_.aj->List e.aj)
    (ri:∀ bl,(c.a_.ad bl).aA 0=.own b0 0/\(c.a_.ad bl).aa b0=⟨0,.bn e (val bl)⟩)
    (mS:∀ x,(sh x).e3->(c.sh (mk x)).e3/\∀ bl,(c.sh (mk x)).a_ bl->val bl=(sh x).val (V.slice e).dU):p_ (jG.mB ⟨ts,.slice e,sh,true⟩).aS=true/\Gd P k (jG.mB ⟨ts,.slice e,sh,true⟩):=by
  refine⟨rfl,h.enter,?_⟩;intro (x:ts.aj) (az:(sh x).e3) y ba F w args bp fm (fu:gv P ts F w args x);cases ba;obtain⟨ka,DC⟩:=vk (H:=λ_=>⟨0,.ev⟩) (kap:=λ_=>⟨0,0,0,false⟩) ts fu uy;let C:cH:={ P:=P,ep:=w,jA:=F,K0:=λr=>r<w.heap.size,bZ:=c.kS,r:=none,dj:=[],j':=λ_=>none,cI:=⟨0,.dc,λ_=>False,λ_ _ _ _ _=>False⟩,aX:=aQ }
  have vz:∀ i,fv ((List.range (jQ ts)).map λi=>(i,kc ts x i)) i=.undef\/(i<jQ ts/\fv ((List.range (jQ ts)).map λi=>(i,kc ts x i)) i=kc ts x i):=λi=>by
    rcases SJ (l:=(List.range (jQ ts)).map λi=>(i,kc ts x i)) (i:=i) with e | e
    · exact .inl e
    · refine .inr ?_
      generalize bA:fv ((List.range (jQ ts)).map λi=>(i,kc ts x i)) i=z at e
      simp only[aRb,aQ9,aPK]at e
      obtain⟨j,aK,rfl,rfl⟩:=e
      exact⟨aK,rfl⟩
  have D:bu C (c.cA.ad (mk x)) { tmps:=args.toArray,defers:=[] } w (λ_=>⟨0,0,0,false⟩) F:=by
    rw[S'];refine { dX := ?_, dj := rfl, b1 := λi => ?_, bF := λb => trivial, own := λb U => (by cases U), inj := λb bj U _ _ => (by cases U), ds := bp, hN := λr D => .inl D, iq := λr D => D, ir := λr D => D, e5 := λr _ => rfl, size := amn _, eN := dL.refl w,hB:=jj,lb:=λb r h=>(by cases h),iS:=λb r h=>(by cases h),ld:=λb k h=>(by cases h),jB:=λb k h=>(by cases h),e7:=λl aI ab n ad e=>?_,bR:=λe m hm=>(by cases hm),j1:=iK,hX:=fm }
    · grind
    · rcases vz i with e | ⟨G,e⟩
      · show bM _ _ _ _ _ (fv _ i) _
        rw[e];trivial
      · show bM _ _ _ _ _ (fv _ i) _
        rw[e]
        have:=DC i G
        simpa [aPI,amq]using this
    · rcases vz cd with h | ⟨h,_⟩
      · grind
      · unfold cd at h;unfold fz at jj;omega
  obtain⟨G0,pr⟩:=mS x az;refine (h.ik C _ w _ F (mk x) rfl rfl rfl rfl rfl rfl D G0).mono λaZ w' ⟨v,bl,aG,bT,F',zY,gK,ux,bk⟩=>?_;obtain⟨Tb,xD⟩:=ri bl;rw[Ta]at ux;obtain⟨us,nz,GU,A7⟩:=ux;obtain⟨u,rfl⟩:∃ u,us=[u]:=by
    match us,nz with
    | [u],_=>simp
  have Mh:aG=[u]:=by
    obtain⟨_,Mh,L⟩:=A7;rw[Mh,L]
  have af:v=u:=by simpa using GU
  have fD:=bk.b1 0;rw[Tb,Mh]at fD;have DY:u=(bT b0).slice ((c.a_.ad bl).aa b0).body.len:=by
    have:=fD.2 (by rw[xD]) (by rw[xD];rfl);simp_all
  rw[xD]at DY;have a1:=bk.bF b0;unfold c6 at a1;rw[xD]at a1;obtain⟨E,L⟩:=a1;have Bj:val bl=(sh x).val (V.slice e).dU:=pr bl gK;refine⟨bT b0,F',by rw[zY,af,DY];simp only[b'.len];rw[Bj];rfl,bk.iq,λr acj=>?_,λaC=>?_,λaC=>?_,bk.eN.os,bk.eN.tape,bk.eN.output,bk.size,bk.e5⟩
  · rcases bk.hN r acj with dh | dh
    · exact .inl dh
    · exact .inr ⟨aRo dh,bk.ds r acj⟩
  · have:=E aC
    rw[Bj]at this
    exact this
  · have au:=bk.own b0 (by rw[xD];simp[b'.ch,aC])
    obtain⟨cs,T,bG,c2,c3,c4,c5⟩:=L aC
    rw[Bj]at c3 c5
    exact⟨⟨aRo au.2.2,au.1,au.2.1⟩,cs,T,bG,c2,c3,c4,c5⟩
end Go.Fer
namespace Go.Fer
abbrev b2:Type:=z11'
abbrev xE:Type:=b2×List (z1')
abbrev gX(l:z4')(a b:Int):z4':=oG (k:=.int .i64) (v:=.int .i64) l a b
abbrev yS(l:z7')(a:z15')(b:Int):z7':=oG (k:=.ad (.ar (.int .i64) (.ar (.int .i64) (.int .i64)))) (v:=.int .i64) l a b
variable (atC:z11'->M Bool) (Tc:z11'->M Int) (Mi:z18'->M Bool) (atD:z11'->M (z12')) (aMn:z11'->M (List (z1'))) (atE:b2×Int×Int->M Bool) (aMo:b2×z1'×z4'->M Int) (aMp:z1'×List (z1')->M Int) (aMq:b2×z4'->M (List (z1'))) (ack:b2×Int->M Bool) (acm:b2×Int×Int->M Bool) (Mj:z11'->M Int) (atF:b2×Int×Int×Int×Int->M Bool) (atG:b2×z1'×z4'->M Bool) (acn:z1'->M Bool) (r6:z15'->M Bool) (atH:b2×Int->M Bool) (aMr:b2×Bool->M Int) (aMs:b2×Int×Int×Int->M Int) (aMt:b2×z1'->M Bool) (aMu:b2×List (z1')×z18'->M Int) (aMv:b2×Int->M (List (z1'))) (aco:z12'->M Bool) (atI:z17'->M Bool) (aMw:b2×Int->M (z1')) (aMx:z12'->M Int) (aMy:b2×Int×Int×Int->M Int) (atJ:z1'×(Int->M Bool)->M Int) (aMz:z4'×(z12'->M Bool)->M Int) (aMA:List (z17')×(z17'->M Bool)->M Int) (aMB:z3'×(z28'->M Bool)->M Int) (aMC:List (List (z17'))×(List (z17')->M Bool)->M Int) (aMD:z3'×(z28'->M Bool)->M Int) (acp:z18'->M Int) (DZ:z12'->M (z12'))
def Td(x:b2×Int):M Bool:=
 aq (r6 (x.2,0,cE (aR x.1.1) 1)) λy=>mpure y
def Mk(x:b2×Int×Int):M Bool:=
 aq (atH (x.1,x.2.1)) λy=>ae (y=true->(y=true/\y=true)/\(0<=x.2.1/\x.2.1<aR x.1.2.1)/\True) (cf y (r6 (x.2.2,0,cE (aR (bw x.1.2.1 x.2.1 [])) 1)) false (λcn=>mpure (y&&cn)))
def Te(x:z11'):M Int:=
 aq (atC x) λy=>bD (!y) (mpure 70) (bQ (λA=>iA A.1 A.2.1.2.2.2 (bQ (λA=>letI e:=A.2.2.1.2.2.2;letI g:=bw e A.1 (0,0,0,0);letI f:=bw e A.2.1 (0,0,0,0);bm (A.2.1<A.1) (bU A.2.1 e (bU A.1 e (bD (b7 f.1 g.1&&b7 f.2.1 g.2.1&&b7 f.2.2.1 g.2.2.1&&e6 f.2.2.2 g.2.2.2) (iM (iM (cS 71))) (be (A.1,bf A.2.1,A.2.2.1,()))))) (bY (A.1,A.2.2.1,()))) (A.1,0,A.2.1,()) (λA=>be (bf A.1,A.2.1,()))) (bY ())) (0,x,()) (λA=>mpure 0))
def acq(x:b2×Int×Int×Int×Int):M Bool:=
 letI h:=bw x.1.2.1 x.2.2.2.1 [];letI g:=bw x.1.1 x.2.1 (0,0,0,0);letI f:=bw h x.2.2.2.2 (0,[],0,0);letI i:=b7 g.1 f.1;bU x.2.1 x.1.1 (bU x.2.2.2.1 x.1.2.1 (bU x.2.2.2.2 h (cf i (Mi (f.2.1,g.2.1)) false (λy=>cf (i&&y) (r6 (x.2.2.1,f.2.2.1,eZ f.2.2.2 x.1.2.2.1)) false λcn=>mpure (i&&y&&cn)))))
def Tf(x:z1'):M Bool:=
 bQ (λA=>fw A.2.1 A.1 (bU (cE A.2.1 1) A.1 (bm (bw A.1 A.2.1 0<=bw A.1 (cE A.2.1 1) 0) (cS false) (be (A.1,bf A.2.1,())))) (bY ())) (x,1,()) λA=>iX
def atK(x:z15'):M Bool:=
 mpure (decide (x.1>=x.2.1)&&hS x.1 x.2.2)
def Tg(x:b2×Int):M Bool:=
 aq (r6 (x.2,0,cE (aR x.1.2.1) 1)) λy=>mpure y
def Th(x:z11'):M Bool:=
 letI n:=dp (aR x.1) 10||dp (aR x.2.1) 6;cf (!n) (r6 (x.2.2.1,0,99)) false λy=>bD (n||!y||dp (aR x.2.2.2) 30) h' (bQ (λA=>letI l:=bw A.2.1.1 A.1 (0,0,0,0);fw A.1 A.2.1.1 (aq (r6 (l.1,0,9)) (λy=>cf (!(!y)) (r6 (l.2.1,0,9)) false λcn=>cf (!(!y||!cn)) (aco l.2.2) false λdZ=>bD (!y||!cn||!dZ) (cS false) (be (bf A.1,A.2.1,())))) (bY (A.2.1,()))) (0,x,()) (λA=>bQ (λA=>iA A.1 A.2.1.2.1 (cB (bU A.1 A.2.1.2.1 (bm (aR (bw A.2.1.2.1 A.1 []) > 4) (iM (cS false)) (dA (λA=>letI o:=A.2.2.1;letI m:=bw o.2.1 A.1 [];bU A.1 o.2.1 (iA A.2.1 m (bU A.1 o.2.1 (bU A.2.1 m (aq (atI (bw m A.2.1 (0,[],0,0))) (λy=>bD (!y) (iM (iM (cS false))) (be (A.1,bf A.2.1,o,())))))) (bY (A.1,o,())))) (A.1,0,A.2.1,())))) (λA=>be (bf A.1,A.2.1,()))) (bY (A.2.1,()))) (0,A.1,()) λA=>bQ (λA=>letI k:=bw A.2.1.2.2.2 A.1 (0,0,0,0);fw A.1 A.2.1.2.2.2 (aq (ack (A.2.1,k.1)) (λy=>cf (!(!y)) (acm (A.2.1,k.2.1,k.2.2.1)) false λcn=>cf (!(!y||!cn)) (r6 (k.2.2.2,0,1)) false λdZ=>bD (!y||!cn||!dZ) (cS false) (be (bf A.1,A.2.1,())))) (bY ())) (0,A.1,()) λA=>iX))
def Ti(x:z12'):M Bool:=
 aq (r6 (x.1,0,x.2)) λy=>mpure (y&&hS x.2 999)
def Tj(x:z17'):M Bool:=
 bQ (λA=>fw A.1 A.2.1.2.1 (aq (r6 (bw A.2.1.2.1 A.1 0,0,9)) (λy=>if !y then cS false else be (bf A.1,A.2.1,()))) (bY (A.2.1,()))) (0,x,()) λA=>aq (r6 (A.1.1,0,9)) λy=>letI c:=y&&hS (aR A.1.2.1) 4;cf c (acn A.1.2.1) false λcn=>cf (c&&cn) (aco A.1.2.2) false λdZ=>mpure (c&&cn&&dZ)
def acr(aME:z12'->M (z12'))(atL:z12'->M (z12'))(x:z12'):M (z12'):=
 aq (atL x) λy=>mpure y
def acs(x:z18'):M Bool:=
 aq (acp x) λy=>mpure (decide (y>=0))
def acu(x:z12'):M (z12'):=
 ae ((0:Int)<=32) (ae ((0:Int)<=32) (ae ((0:Int)<=32) (ae ((0:Int)<=32) (ae ((0:Int)<=32) (mpure (IntKind.wrap .u64 (Add.add (IntKind.wrap .u64 (Add.add (IntKind.wrap .u64 (lg .u64 x.1 32*lg .u64 x.2 32)) (lg .u64 (IntKind.wrap .u64 (Add.add (IntKind.wrap .u64 (lg .u64 x.1 32*n0 .u64 x.2 4294967295)) (lg .u64 (IntKind.wrap .u64 (n0 .u64 x.1 4294967295*n0 .u64 x.2 4294967295)) 32))) 32))) (lg .u64 (IntKind.wrap .u64 (Add.add (n0 .u64 (IntKind.wrap .u64 (Add.add (IntKind.wrap .u64 (lg .u64 x.1 32*n0 .u64 x.2 4294967295)) (lg .u64 (IntKind.wrap .u64 (n0 .u64 x.1 4294967295*n0 .u64 x.2 4294967295)) 32))) 4294967295) (IntKind.wrap .u64 (n0 .u64 x.1 4294967295*lg .u64 x.2 32)))) 32)),IntKind.wrap .u64 (x.1*x.2)))))))
def Tk(x:z18'):M Int:=
 bQ (λA=>letI b:=A.2.2.2.1;bm (b<A.2.2.1) (bU b A.1 (bm (A.2.1=bw A.1 b 0) (cS b) (be (A.1,A.2.1,A.2.2.1,bf b,())))) (bY ())) (x.1,x.2,aR x.1,0,()) λA=>mpure (-1)
end Go.Fer
namespace Go.Fer
variable (aMF:z11'->M (z18')) (aMG:Int->M Int) (aMH:Int->M (z1')) (atM:z11'->M Bool) (aMI:b2×z1'×z4'->M (Option (List (z1')×z1'×z1')×Int)) (aMJ:Option (List (z1')×z1'×z1')×Int->M (z1')) (aMK:Option (List (z1')×z1'×z1')×z25'->M (z14')) (acv:b2×Bool->M (Option xE×Int)) (Ml:b2×Int->M Bool) (acw:b2×Int×Int->M Bool) (atN:z1'->M Bool) (atO:Option xE×Int×Int×Int->M Int) (atP:z1'×(Int->M Bool)->M Bool) (aML:z4'×(z12'->M Bool)->M Bool) (aMM:z1'×z25'->M (z14')) (yT:z15'->M Bool) (aMN:Option xE×z1'×Int->M Int) (aMO:Int×Option b2->M Bool) (atQ:z3'×(z28'->M Bool)->M Bool) (atS:List (List (z17'))×(List (z17')->M Bool)->M Bool) (D0:z11'->M Int) (acx:z3'×(z28'->M Bool)->M Bool) (atT:List (z17')×Option (z17'->M Bool)->M Bool) (atU:(z28')×Option b2->M Bool) (atV:z28'->M Bool) (atW:z17'->M Bool) (atX:(z28')×Option Int×Option b2×Option Int->M Bool) (acy:b2×Int×Int×Int×Int->M Bool) (Mm:z1'×(Int->M Bool)->M Bool) (aMP:Int×Option (Int->M Bool)->M Bool) (atY:z12'->M Int) (aMQ:Option xE×z1'×Int->M (z4')) (aMR:z4'×(z12'->M Bool)->M Bool) (aMS:(z12')×Option (z12'->M Bool)->M Bool) (Mn:Int->M Bool) (acz:z12'->M Bool) (atZ aMT:List (z17')×(z17'->M Bool)->M Bool) (aMU:(z17')×Option (z17'->M Bool)->M Bool) (aMV:z3'×(z28'->M Bool)->M Bool) (aMW:(z28')×Option (z28'->M Bool)->M Bool) (aMX:List (List (z17'))×(List (z17')->M Bool)->M Bool) (aMY:List (z17')×Option (List (z17')->M Bool)->M Bool) (aMZ:z3'×(z28'->M Bool)->M Bool) (aM0:(z28')×Option (z28'->M Bool)->M Bool) (Bp:z18'->M Bool) (aM1:Int×List (z1')×z1'×z14'->M (z1'×List (z1')×z1'×z14')) (aM2:Int×List (z1')×z1'×z1'×z4'×Unit->M (Bool×List (z1')×z1'×z1'×z4'×Unit)) (aM3:(z12')×Option b2->M Bool) (aM4:Int->M Bool)
def Tl(x:z11'):M Int:=
 aq (atM x) λy=>bD (!y) (mpure 70) (bQ (λ(A:z3'×Int×Int×z7'×Unit)=>letI f:=A.2.2;letI d:=bw A.1 f.1 (0,0,0,0);letI e:=Option.map (λx=>x.2) (List.find? (λp=>b7 d.1 p.1.1&&(b7 d.2.1 p.1.2.1&&b7 d.2.2.1 p.1.2.2)) f.2.1);bm (f.1<A.2.1) (bU f.1 A.1 (bD (e.isSome&&e6 (e.getD 0) d.2.2.2) (cS 71) (be (A.1,A.2.1,bf f.1,yS f.2.1 (d.1,d.2.1,d.2.2.1) d.2.2.2,())))) (bY ())) (x.2.2.2,aR x.2.2.2,0,[],()) (λA=>mpure 0))
def Tm(x:b2×Int):M (z22'):=
 letI d:=acv (x.1,m_ (Ml x));letI b:=M.val d (none,0);letI e:=(b.1.getD (([],[],0,[]),[])).2;letI c:=bw e x.2 [];dE (Ml x) (dE d (bm (b.2≠0) (mpure ((0,0),b.2)) (ae b.1.isSome (bU x.2 e (gA c (bU (cE (aR c) 1) c (mpure ((gB c 0,c.getD (Int.toNat (cE (aR c) 1)) 0),0))))))))
def Tn(x:b2×Int×Int×Int):M (z12'):=
 letI g:=acw (x.1,x.2.2);letI f:=Ml (x.1,x.2.1);letI c:=m_ f;letI e:=c=true;letI d:=acv (x.1,c&&m_ g);dE f (ae (e->(e/\e/\e/\True)/\g.e3/\True) (ae (True/\(e->e)) (dE d (bm ((M.val d (none,0)).2≠0) (mpure (0,(M.val d (none,0)).2)) (aq (atO ((M.val d (none,0)).1,x.2)) (λy=>mpure (y,0)))))))
def acA(x:z11'):M Bool:=
 cf (hS (aR x.1) 10) (atQ (x.1,atV)) false λy=>letI d:=hS (aR x.1) 10&&y&&hS (aR x.2.1) 6;cf d (atS (x.2.1,λx=>atT (x,some atW))) false λcn=>cf (d&&cn) (yT (x.2.2.1,0,99)) false λdZ=>letI e:=d&&cn&&dZ&&hS (aR x.2.2.2) 30;cf e (acx (x.2.2.2,λjo=>atU (jo,some x))) false λie=>mpure (e&&ie)
def To(x:b2×Bool):M (Option xE×Int):=
 aq (D0 x.1) λy=>bm (y≠0) (mpure (none,y)) (bD (!x.2) (mpure (none,1)) (bQ (λA=>letI t:=A.2.2.1;letI u:=bw A.1 t (0,0,0,0);letI n:=A.2.2.2.2;bm (t<A.2.1) (cB (bU t A.1 (bQ (λA=>letI o:=A.2.2.2;letI l:=o.2.2.2;letI v:=l.2.2;letI p:=v.2.2;bm (l.2.1<=o.2.2.1.2.2.2) (cB (aq (acx (o.1.2.2.2,λx=>atX (x,some o.2.1,some o.1,some l.2.1))) (λy=>bD y (eB l.1 (be (A.1,A.2.1,A.2.2.1,o.1,o.2.1,o.2.2.1,l.1++[l.2.1],l.2.1,v.1,v.2.1,p.1,p.2.1,p.2.2.1,()))) (be (A.1,A.2.1,A.2.2.1,o.1,o.2.1,o.2.2.1,l.1,l.2.1,v.1,v.2.1,p.1,p.2.1,p.2.2.1,())))) (λA=>letI w:=A.2.2.2;letI m:=w.2.2.2;be (A.1,A.2.1,A.2.2.1,w.1,w.2.1,w.2.2.1,m.1,bf m.2.1,m.2.2.1,m.2.2.2.1,m.2.2.2.2.1,m.2.2.2.2.2.1,m.2.2.2.2.2.2.1,()))) (bY (A.1,A.2.1,A.2.2.1,o.1,l.1,v.1,v.2.1,p.1,p.2.1,p.2.2.1,()))) (A.1,A.2.1,t,A.2.2.2.1,t,u,[],u.2.2.1,n.1,n.2.1,n.2.2.1,n.2.2.2.1,n.2.2.2.2.1,()) (λA=>letI q:=A.2.2.2.2;bm (aR q.1=0) (iM (cS (none,3))) (ae True (eB q.2.2.2.2.2.1 (ae True (be (A.1,A.2.1,A.2.2.1,A.2.2.2.1,q.2.1,q.2.2.1,q.2.2.2.1,q.2.2.2.2.1,q.2.2.2.2.2.1++[q.1],())))))))) (λA=>letI s:=A.2.2.2.2;be (A.1,A.2.1,bf A.2.2.1,A.2.2.2.1,s.1,s.2.1,s.2.2.1,s.2.2.2.1,s.2.2.2.2.1,()))) (bY (n.1,n.2.1,n.2.2.1,n.2.2.2.1,n.2.2.2.2.1,()))) (x.1.1,aR x.1.1,0,x.1,x.1.1,x.1.2.1,x.1.2.2.1,x.1.2.2.2,[],()) (λA=>mpure (some ((A.1,A.2.1,A.2.2.1,A.2.2.2.1),A.2.2.2.2.1),0))))
def at0(x:b2×Int):M Bool:=
 aq (yT (x.2,0,cE (aR x.1.1) 1)) λy=>mpure y
def acB(x:b2×Int×Int):M Bool:=
 aq (yT (x.2.1,0,cE (aR x.1.2.1) 1)) λy=>ae (y=true->(y=true/\y=true)/\(0<=x.2.1/\x.2.1<aR x.1.2.1)/\True) (cf y (yT (x.2.2,0,cE (aR (bw x.1.2.1 x.2.1 [])) 1)) false (λcn=>mpure (y&&cn)))
def Tp(x:Option xE×Int×Int×Int):M Int:=
 letI i:=(x.1.getD (([],[],0,[]),[])).2;cB (ae x.1.isSome (bU x.2.1 i (dA (λA=>letI l:=A.2.2;letI h:=l.2.2;letI k:=h.2.2.2.1;bm (k<h.2.2.1) (cB (bU k h.2.1 (ae A.1.isSome (aq (acy ((A.1.getD (([],[],0,[]),[])).1,A.2.1,bw h.2.1 k 0,l.1,l.2.1)) (λy=>bD y (be (A.1,A.2.1,l.1,l.2.1,bf h.1,h.2.1,h.2.2.1,k,())) (be (A.1,A.2.1,l.1,l.2.1,h.1,h.2.1,h.2.2.1,k,())))))) (λA=>letI m:=A.2.2.2;be (A.1,A.2.1,A.2.2.1,m.1,m.2.1,m.2.2.1,m.2.2.2.1,bf m.2.2.2.2.1,()))) (bY (A.1,A.2.1,h.1,()))) (x.1,x.2.1,x.2.2.1,x.2.2.2,0,bw i x.2.1 [],aR (bw i x.2.1 []),0,())))) λA=>letI j:=(A.1.getD (([],[],0,[]),[])).2;ae A.1.isSome (bU A.2.1 j (aq (atY (A.2.2.1,aR (bw j A.2.1 []))) (λy=>mpure y)))
def at1(x:z1'):M Bool:=
 bQ (λA=>fw A.2.1 A.1 (bU (cE A.2.1 1) A.1 (bm (bw A.1 A.2.1 0<=bw A.1 (cE A.2.1 1) 0) (cS false) (be (A.1,bf A.2.1,())))) (bY ())) (x,1,()) λA=>iX
def at2(x:z15'):M Bool:=
 mpure (hS x.2.1 x.1&&hS x.1 x.2.2)
def acC(x:z28'):M Bool:=
 aq (Mn x.1) λy=>cf y (Mn x.2.1) false λcn=>cf (y&&cn) (acz x.2.2) false λdZ=>mpure (y&&cn&&dZ)
def acD(x:Int):M Bool:=
 aq (yT (x,0,9)) λy=>mpure y
def at3(x:z12'):M Bool:=
 aq (yT (x.1,0,x.2)) λy=>mpure (y&&hS x.2 999)
def acE(x:z17'):M Bool:=
 aq (Mn x.1) λy=>letI b:=y&&hS (aR x.2.1) 4;cf b (atP (x.2.1,Mn)) false λcn=>cf (b&&cn) (atN x.2.1) false λdZ=>cf (b&&cn&&dZ) (acz x.2.2) false λie=>mpure (b&&cn&&dZ&&ie)
def acF(x:List (z17')×Option (z17'->M Bool)):M Bool:=
 letI b:=decide (aR x.1<=4);cf b (atZ (x.1,x.2.getD λx=>{ e3:=False,a_:=λx=>False })) false λy=>mpure (b&&y)
def acG(x:(z28')×Option b2):M Bool:=
 letI b:=x.2.getD ([],[],0,[]);aq (Ml (b,x.1.1)) λy=>cf y (acw (b,x.1.2.1,x.1.2.2.1)) false λcn=>cf (y&&cn) (yT (x.1.2.2.2,0,1)) false λdZ=>mpure (y&&cn&&dZ)
def acH(x:(z28')×Option Int×Option b2×Option Int):M Bool:=
 letI h:=e6 x.1.1 (x.2.1.getD 0);letI g:=acy (x.2.2.1.getD ([],[],0,[]),x.2.1.getD 0,x.2.2.2.getD 0,x.1.2.1,x.1.2.2.1);letI f:=(!h)=true;letI i:=f->f/\True/\True;ae i (ae i (ae (f->(f/\f/\f/\f/\f/\True)/\g.e3/\True) (ae i (ae (f->(f/\True)/\True/\True) (ae (f->(f/\f)/\True/\True) (ae (True/\(h=false->f)) (mpure (h||b7 (m_ g) (b7 x.1.2.2.2 1)))))))))
def acI(x:b2×Int×Int×Int×Int):M Bool:=
 letI h:=bw x.1.2.1 x.2.2.2.1 [];letI g:=bw x.1.1 x.2.1 (0,0,0,0);letI f:=bw h x.2.2.2.2 (0,[],0,0);letI i:=b7 g.1 f.1;bU x.2.1 x.1.1 (bU x.2.2.2.1 x.1.2.1 (bU x.2.2.2.2 h (cf i (Bp (f.2.1,g.2.1)) false (λy=>cf (i&&y) (yT (x.2.2.1,f.2.2.1,eZ f.2.2.2 x.1.2.2.1)) false λcn=>mpure (i&&y&&cn)))))
def acJ(x:z12'):M Int:=
 bm (x.1=x.2) (mpure 1) (bm (x.1=0) (mpure 2) (mpure 3))
end Go.Fer
namespace Go.Fer
variable (aM5:z11'->M Bool) (aM6:Unit->M Bool) (aM7:z11'->M (z12')) (aM8:z11'->M (z18')) (aM9:b2×Unit->M (Int×z3'×z3'×List (List (z17'))×Unit)) (Mi:z18'->M Bool) (aM_:z11'->M b2) (atG:b2×z1'×z4'->M Bool) (ack:b2×Int->M Bool) (aM':b2×z1'×z4'->M (z12')) (acm:b2×Int×Int->M Bool) (aNa:z1'×z1'->M Bool) (acK:z11'->M Bool) (D0:z11'->M Int) (atD:z11'->M (z12')) (aNb aNc:z11'->M (z18')) (aNd aNe:b2×z1'->M Bool) (aNf:z1'×z1'->M Bool) (acn:z1'->M Bool) (Mj:z11'->M Int) (Mo aNg:b2×Int->M (z22')) (Mp at4:b2×Int×Int×Int->M (z12')) (aNh:b2×b2->M Bool) (aNi aNj:b2×z1'×Int->M (z12')) (aNk:b2×z1'->M Bool) (aNl:b2×Int×Int×Int->M Bool) (atE:b2×Int×Int->M Bool) (aNm:z27'->M Bool) (atF:b2×Int×Int×Int×Int->M Bool) (aNn:b2×z1'×z4'->M (z12')) (aNo aNp:b2×z1'×z4'->M (z18')) (aNq:b2×z1'×z4'×z1'->M Int) (aNr:z4'×z1'->M Bool) (aNs:b2×z1'×z4'×z1'->M Int) (aNt:b2×(z1'×z4')×z1'->M Int) (Tc:z11'->M Int) (acL:Unit->M b2) (aNu:Unit->M (z4'))
def Tq(x:z11'):M Bool:=
 if dp (aR x.1) 40||dp (aR x.2.1) 40||dp (aR x.2.2.2) 60 then iX else bQ (λA=>iA A.1 A.2.1.2.1 (cB (bU A.1 A.2.1.2.1 (bm (aR (bw A.2.1.2.1 A.1 []) > 20) (iM (cS true)) (dA (λA=>letI j:=A.2.2.1;letI h:=bw j.2.1 A.1 [];bU A.1 j.2.1 (iA A.2.1 h (bU A.1 j.2.1 (bU A.2.1 h (bm (aR (bw h A.2.1 (0,[],0,0)).2.1 > 20) (iM (iM (cS true))) (be (A.1,bf A.2.1,j,()))))) (bY (A.1,j,())))) (A.1,0,A.2.1,())))) (λA=>be (bf A.1,A.2.1,()))) (bY (A.2.1,()))) (0,x,()) λA=>aq (Mj A.1) λy=>bm (y≠0) h' (bQ (λA=>letI i:=(bw A.2.1.1 A.1 (0,0,0,0)).2.2;fw A.1 A.2.1.1 (bU A.1 A.2.1.1 (bm (cE i.2 i.1>=50) (cS true) (be (bf A.1,A.2.1,())))) (bY (A.2.1,()))) (0,A.1,()) (λA=>mpure (dp (aR A.1.1) 6||dp (aR A.1.2.1) 4||dp (aR A.1.2.2.2) 10)))
def at5(x:Unit):M b2:=
 mpure ([(1,2,300,310),(1,3,305,305),(2,1,50,60),(1,2,320,330)],[[(1,[2,3],300,306),(2,[1],40,58)],[(1,[2],310,326)]],5,[(0,1,0,0)])
end Go.Fer
