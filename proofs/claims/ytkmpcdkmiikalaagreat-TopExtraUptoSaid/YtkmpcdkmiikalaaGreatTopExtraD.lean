/- Part 4 of the proof of TopExtra: shallow programs of Go functions, and what they compute. No condition. -/
import Derived.Test.YtkmpcdkmiikalaaGreatTopExtraC
import Derived.OpenShut
import Derived.WideKeyArgs
import Derived.ChangeSame
import Derived.Test.YtkmpcdkmiikalaaGreatProg
import Derived.KernelRfl
noncomputable section
namespace Go.Fer
open Go.RowKit
theorem Mu {P:Program} {a1:eG} {k:FuncId} {c:fY} (h:hj P a1 k c) (iQ:qg P a1) {ic:xt} (mk:ic.ts.aq->Nat->(List ic.aM.aq->Prop)->c.cM.aq) (aI:c.lh=kK ic.ts+1) (jw:c.lh<=fP) (uc:ic.ts≠.da)
    (dr:∀ x l L i,(c.cM.st (mk x l L)).aD i=.undef\/(i<kK ic.ts/\(c.cM.st (mk x l L)).aD i=k9 ic.ts x i)\/(i=kK ic.ts/\(c.cM.st (mk x l L)).aD i=.gA l)\/(i=b_/\(c.cM.st (mk x l L)).aD i=.a5 l ic.aM L [] false))
    (h2:c.cM.bI=[]) (uu:∀ bA,∃ n st l L,(c.bP.st bA).aD b_=.a5 l ic.aM L n st)
    (pD:∀ x l,ic.pre x->(c.sh (mk x l (λT=>T=ic.seq x))).dU/\∀ bA,(c.sh (mk x l (λT=>T=ic.seq x))).bP bA->∀ cP fx n,(c.bP.st bA).aD b_=.a5 cP ic.aM fx n false->n=ic.seq x):z7 P k ic:=by
  refine ⟨h.enter,λl I F Y w args x ep hh cm bB jm fs=>?_⟩;obtain ⟨iy,GI⟩:=tR (H:=λ_=>⟨0,.gK⟩) (κ:=λ_=>⟨0,0,0,false⟩) ic.ts ep uc;have ux:∀ b,(c.cM.st (mk x l (λT=>T=ic.seq x))).ag b=⟨0,.gK⟩:=λb=>by
    show fJ (hQ de c.cM.bI (e9 de c.cM.b3 (mk x l (λT=>T=ic.seq x))).2) b=_;generalize (e9 de c.cM.b3 (mk x l (λT=>T=ic.seq x))).2=z;revert z;rw [h2];intro z;rfl
  have cH:(args++[Value.func (.yield l) #[] #[]]).length=c.lh:=by grind
  have W:bl { P:=P,w0:=w,F0:=F,K0:=λr=>r<w.heap.size/\¬Y r,nt:=c.lh,r:=none,dfr:=[],ix:=λ_=>none,ck:=⟨l,ic.aM,λT=>T=ic.seq x,I⟩,aZ:=a1 } (c.cM.st (mk x l (λT=>T=ic.seq x)))
      { tmps:=(args++[Value.func (.yield l) #[] #[]]).toArray,defers:=[] } w (λ_=>⟨0,0,0,false⟩) F:=
    { eB := by omega
      dfr:=rfl
      b3:=λi=>by
        rcases dr x l (λT=>T=ic.seq x) i with e | ⟨U,e⟩ | ⟨U,e⟩ | ⟨U,e⟩
        · rw [e];trivial
        · rw [e]
          have:=(tR (H:=(c.cM.st (mk x l (λT=>T=ic.seq x))).ag) (κ:=λ_=>⟨0,0,0,false⟩) ic.ts ep uc).2 i U
          have bq:(args++[Value.func (.yield l) #[] #[]]).toArray.getD i undef=args.getD i undef:=by
            rw [Array.getD_eq_getD_getElem?,List.getD_eq_getElem?_getD,List.getElem?_toArray,List.getElem?_append_left (by omega)]
          grind
        · rw [e]
          show (args++[Value.func (.yield l) #[] #[]]).toArray.getD i undef=_
          simp_all
        · rw [e];trivial
      bI:=λb=>by unfold cO;rw [ux b];trivial
      ad:=λb af=>by rw [ux b] at af;cases af
      inj:=λb bg af _ _=>by rw [ux b] at af;cases af
      dM:=bB
      iY:=λr W=>.inl W
      j2:=λr W=>W
      jI:=λr W=>W.1
      fF:=λ_ _=>rfl
      size:=Nat.le_refl _
      fi:=dA.refl _
      hF:=jw
      m1:=λb r h=>by cases h
      lC:=λb r h=>by cases h
      m2:=λb k h=>by cases h
      mC:=λb k h=>by cases h
      fQ:=λcP lg fx n st e=>by
        rcases dr x l (λT=>T=ic.seq x) b_ with a9 | ⟨U,_⟩ | ⟨U,_⟩ | ⟨_,a9⟩
        · grind
        · unfold b_ fP at *;omega
        · grind
        · rw [a9] at e
          cases e
          exact ⟨⟨I,rfl⟩,cm,Y,λr W=>⟨(jm r W).1,(jm r W).2,λk=>k.2 W⟩,λb af=>(by rw [ux b] at af;cases af),mB.y7.2 fs⟩
      l2:=iQ }
  obtain ⟨aA,oh⟩:=pD x l hh;refine (h.mZ _ _ w _ F _ rfl rfl rfl rfl rfl rfl W aA).mono λe w' ⟨v,bA,aH,κ',F',he,jO,_,bc⟩=>?_;obtain ⟨n,st,cP,fx,sG⟩:=uu bA;obtain ⟨⟨afF,Mv⟩,_,ha,an,a8,Mw⟩:=bc.fQ cP ic.aM fx n st sG;refine ⟨v,n,st,F',ha,he,λhA=>?_,mB.y7.1 Mw,bc.j2,λr cV=>?_,bc.dM,λr M aa=>bc.fF r ⟨M,aa⟩,λr cV=>⟨?_,(an r cV).1,(an r cV).2.1⟩,bc.size,bc.fi⟩
  · grind
  · rcases bc.iY r cV with h | h
    · exact .inl h
    · by_cases aJ:Y r
      · exact .inr (.inl aJ)
      · exact .inr (.inr (Nat.le_of_not_lt λcq=>h ⟨cq,aJ⟩))
  grind
theorem TK {P:Program} {a1:eG} {k:FuncId} {c:fY} (h:hj P a1 k c) (iQ:qg P a1) {cs:List ai} {aM:ai} {S:(hb (cs.map .bQ)).aq->List aM.aq->Prop} (mk:(hb (cs.map .bQ)).aq->Nat->(List aM.aq->Prop)->c.cM.aq)
    (aI:c.lh=kK (hb (cs.map .bQ))+1) (jw:c.lh<=fP) (uc:hb (cs.map .bQ)≠.da)
    (dr:∀ x l L i,(∃ T,S x T)->(c.cM.st (mk x l L)).aD i=.undef\/(i<kK (hb (cs.map .bQ))+1/\0<i/\∃ e y,(c.cM.st (mk x l L)).aD i=.fb e y/\k9 (hb (cs.map .bQ)) x (i - 1)=.val (.bQ e) (some y))\/(i=0/\(c.cM.st (mk x l L)).aD i=.gA l)\/(i=b_/\(c.cM.st (mk x l L)).aD i=.a5 l aM L [] false))
    (h2:c.cM.bI=[]) (uu:∀ bA,∃ n st l L,(c.bP.st bA).aD b_=.a5 l aM L n st)
    (pD:∀ x l,(∃ L,S x L)->(c.sh (mk x l (S x))).dU/\∀ bA,(c.sh (mk x l (S x))).bP bA->∀ cP fx p,(c.bP.st bA).aD b_=.a5 cP aM fx p false->S x p):y5 P k ⟨cs,aM,S⟩:=by
  refine ⟨h.enter,λF w args x bB ep cI l TL Y jm afG afH=>?_⟩;have cm:=Tu afG;obtain ⟨iy,GI⟩:=tR (H:=λ_=>⟨0,.gK⟩) (κ:=λ_=>⟨0,0,0,false⟩) (hb (cs.map .bQ)) ep uc;have ux:∀ b,(c.cM.st (mk x l (S x))).ag b=⟨0,.gK⟩:=λb=>by
    show fJ (hQ de c.cM.bI (e9 de c.cM.b3 (mk x l (S x))).2) b=_;generalize (e9 de c.cM.b3 (mk x l (S x))).2=z;revert z;rw [h2];intro z;rfl
  have cH:(Value.func (.yield l) #[] #[]::args).length=c.lh:=by grind
  have W:bl { P:=P,w0:=w,F0:=F,K0:=λr=>r<w.heap.size/\¬Y r,nt:=c.lh,r:=none,dfr:=[],ix:=λ_=>none,ck:=⟨l,aM,S x,TL⟩,aZ:=a1 } (c.cM.st (mk x l (S x)))
      { tmps:=(Value.func (.yield l) #[] #[]::args).toArray,defers:=[] } w (λ_=>⟨0,0,0,false⟩) F:=
    { eB := by omega
      dfr:=rfl
      b3:=λi=>by
        rcases dr x l (S x) i cI with e | ⟨U,vH,atd,y,e,afI⟩ | ⟨U,e⟩ | ⟨U,e⟩
        · rw [e];trivial
        · rw [e]
          have:=(tR (H:=(c.cM.st (mk x l (S x))).ag) (κ:=λ_=>⟨0,0,0,false⟩) (hb (cs.map .bQ)) ep uc).2 (i - 1) (by omega)
          have bq:(Value.func (.yield l) #[] #[]::args).toArray.getD i undef=args.getD (i - 1) undef:=by
            obtain ⟨j,rfl⟩:∃ j,i=j+1:=⟨i - 1,by omega⟩
            simp
          rw [bq]
          rw [afI] at this
          obtain ⟨_,aj⟩:=(fa rfl).1 this
          simp only [bM] at aj
          rcases aj with ⟨_,aI⟩ | ⟨q,fX,bn,bt,Cc,aS,aY⟩
          · cases aI
          · cases Cc
            exact ⟨q,bn,(List.cons.inj bt).1,aS,aY⟩
        · rw [e]
          subst U
          rfl
        · rw [e];trivial
      bI:=λb=>by unfold cO;rw [ux b];trivial
      ad:=λb af=>by rw [ux b] at af;cases af
      inj:=λb bg af _ _=>by rw [ux b] at af;cases af
      dM:=bB
      iY:=λr W=>.inl W
      j2:=λr W=>W
      jI:=λr W=>W.1
      fF:=λ_ _=>rfl
      size:=Nat.le_refl _
      fi:=dA.refl _
      hF:=jw
      m1:=λb r h=>by cases h
      lC:=λb r h=>by cases h
      m2:=λb k h=>by cases h
      mC:=λb k h=>by cases h
      fQ:=λcP lg fx n st e=>by
        rcases dr x l (S x) b_ cI with a9 | ⟨U,_⟩ | ⟨U,_⟩ | ⟨_,a9⟩
        · grind
        · grind
        · grind
        · rw [a9] at e
          cases e
          exact ⟨⟨TL,rfl⟩,cm,Y,λr W=>⟨(jm r W).1,(jm r W).2,λk=>k.2 W⟩,λb af=>(by rw [ux b] at af;cases af),mB.y7.2 afH⟩
      l2:=iQ }
  obtain ⟨aA,oh⟩:=pD x l cI;have fI:#[Value.func (.yield l) #[] #[]]++args.toArray=(Value.func (.yield l) #[] #[]::args).toArray:=by simp
  rw [fI];refine (h.mZ _ _ w _ F _ rfl rfl rfl rfl rfl rfl W aA).mono λe w' ⟨v,bA,aH,κ',F',he,jO,_,bc⟩=>?_;obtain ⟨n,st,cP,fx,sG⟩:=uu bA;obtain ⟨⟨afF,Mv⟩,_,ha,an,a8,Mw⟩:=bc.fQ cP aM fx n st sG;refine ⟨v,n,st,F',ha,he,λhA=>?_,mB.y7.1 Mw,bc.j2,λr cV=>?_,bc.dM,λr M aa=>bc.fF r ⟨M,aa⟩,λr cV=>⟨?_,(an r cV).1,(an r cV).2.1⟩,bc.size,⟨bc.fi.os,bc.fi.tape,bc.fi.output⟩⟩
  · grind
  · rcases bc.iY r cV with h | h
    · exact .inl h
    · by_cases aJ:Y r
      · exact .inr (.inl aJ)
      · exact .inr (.inr (Nat.le_of_not_lt λcq=>h ⟨cq,aJ⟩))
  grind
end Go.Fer
namespace Go.Fer
open Go.RowKit Go.ChangeShapes Go.WideShapes
def ai.jd:ai->Bool
 | .bool | .int _ | .str | .da=>true
 | .st t=>t.jd
 | .aG a b=>a.jd&&b.jd
 | .slice e=>e.jd
 | _=>false
def ai.k6:(t:ai)->t.aq->Prop
 | .int k,x=>ji k x
 | .str,x=>x.length<2 ^ 63
 | .st t,x=>t.k6 x
 | .aG a b,x=>a.k6 x.1/\b.k6 x.2
 | .slice e,xs=>xs.length<2 ^ 63/\∀ y∈xs,e.k6 y
 | .array n e,xs=>xs.length=n/\∀ y∈xs,e.k6 y
 | _,_=>True
theorem Al {P:Program} {w:World} {F:Nat->Prop}:∀ (t:ai) {cs:List Value} {x:t.aq},bM P t F w cs x->t.k6 x
 | .bool,_,_,_=>trivial
 | .int _,_,_,h=>h.2
 | .str,_,_,h=>h.2
 | .da,_,_,_=>trivial
 | .st t,_,_,h=>by simp only [bM] at h;exact Al t h
 | .aG a b,_,_,h=>by
  simp only [bM] at h;obtain ⟨c,d,_,M,aa⟩:=h;exact ⟨Al a M,Al b aa⟩
 | .slice e,_,xs,h=>by
  simp only [bM] at h;obtain ⟨a,cap,_,M,aa,an,a8⟩:=h;refine ⟨by omega,λy aJ=>?_⟩;obtain ⟨i,U,rfl⟩:=List.mem_iff_getElem.1 aJ;cases a with
  | none=>have:=an rfl;omega
  | some p=>
   obtain ⟨bn,_,k⟩:=(a8 p rfl (by omega)).2.2 i U;exact Al e k
 | .array n e,_,xs,h=>by
  simp only [bM] at h;obtain ⟨gg,_,M,aa,an⟩:=h;refine ⟨aa,λy aJ=>?_⟩;obtain ⟨i,U,rfl⟩:=List.mem_iff_getElem.1 aJ;exact Al e (an i U (by omega))
 | .bQ _,_,_,_=>trivial
 | .map _ _,_,_,_=>trivial
 | .fn _ _,_,_,_=>trivial
 | .cj _,_,_,_=>trivial
section
variable {H:Type} {enc:TypeId×Value->H} {P:Program} {w:World}
theorem ca.cells {t:ai} {id:TypeId} (h:ca P t id):P.cellsOf id=t.size:=by
 obtain ⟨i,z,M,aa,_⟩:=mE h.mD;simp [Program.cellsOf,M,aa]
theorem TM {a:Addr} {n:Nat} {bn:List Value} (h:w.cells? 0 a n=some bn) (aI:0<n):a.spot=none/\a.block<w.heap.size/\bn.length=n/\∀ j (aC:j<bn.length),w.cell? ⟨a.block,a.off+j,none⟩=some bn[j]:=by
 have af:=World.cells?_block h aI;have j':a.spot=none:=by
  unfold World.cells? at h;split at h
  ·obtain ⟨m,rfl⟩:∃ m,n=m+1:=⟨n - 1,by omega⟩
   rw [List.range_succ_eq_map] at h;simp only [List.mapM_cons,Option.bind_eq_bind,Option.bind_eq_some_iff] at h;obtain ⟨v,aj,_⟩:=h;cases aA:a.spot with
   | none=>rfl
   | some x=>simp [World.cell?,Addr.add,aA] at aj;split at aj<;>cases aj
  ·cases h
 unfold World.cells? at h;split at h
 ·have hlen:bn.length=n:=by
   have:∀ (l:List Nat) (r:List Value),l.mapM (λi=>w.cell? (a.add i))=some r->r.length=l.length:=by
    intro l;induction l with
    | nil=>intro r W;simp at W;subst W;rfl
    | cons x l aO=>
     intro r W;simp only [List.mapM_cons,Option.bind_eq_bind,Option.bind_eq_some_iff,Option.pure_def,Option.some.injEq] at W;obtain ⟨v,_,po,bc,rfl⟩:=W;simp [aO po bc]
   simpa using this _ _ h
  refine ⟨j',af,hlen,λj aC=>?_⟩;have:∀ (l:List Nat) (r:List Value),l.mapM (λi=>w.cell? (a.add i))=some r->∀ j (M:j<l.length) (aa:j<r.length),w.cell? (a.add l[j])=some r[j]:=by
   intro l;induction l with
   | nil=>intro r _ j M;simp at M
   | cons x l aO=>
    intro r W j M aa;simp only [List.mapM_cons,Option.bind_eq_bind,Option.bind_eq_some_iff,Option.pure_def,Option.some.injEq] at W;obtain ⟨v,aj,po,bc,rfl⟩:=W;cases j with
    | zero=>exact aj
    | succ j=>exact aO po bc j (by simpa using M) (by simpa using aa)
  have M:=this _ _ h j (by simp;omega) aC;rw [<-M];have zk:a.add ((List.range n)[j]'(by simp;omega))=⟨a.block,a.off+j,none⟩:=by
   cases a;simp only at j';subst j';simp [Addr.add]
  rw [zk]
 ·cases h
def sR (w:World):Nat->Prop:=λr=>r<w.heap.size
def ai.n6 (n:Nat):(t:ai)->t.aq->Prop
 | .st t,x=>t.n6 n x
 | .aG a b,x=>a.n6 n x.1/\b.n6 n x.2
 | .slice e,xs=>xs.length<=n/\∀ y∈xs,e.n6 n y
 | _,_=>True
structure BB (b:DataW H->Nat):Prop where
 len:∀ e s,e.length<=b (.slice e s)
 Qi:∀ e s d,d∈e->b d<=b (.slice e s)
 Qj:∀ l d,d∈l->b d<=b (.agg l)
variable {b:DataW H->Nat} {N:Nat}
theorem afJ (af:BB b) (t:ai):(t.jd=true->∀ {id:TypeId} {cQ:Nat} {cs:List Value} {x:DataW H×List MemPlace},ca P t id->DataW.trod enc P w 0 (λ_=>true) true cQ id cs=some x->b x.1<=N->∃ y,bM P t (sR w) w cs y/\t.n6 N y)/\
  (t.jd=true->∀ {l:List Field} {off n:Nat} {cs:List Value},cx P t (.inr (l,off))=true->(∀ f∈l,∃ x,DataW.trod enc P w 0 (λ_=>true) true n f.type ((cs.drop f.offset).take (P.cellsOf f.type))=some x/\b x.1<=N)->∃ y,bM P t (sR w) w ((cs.drop off).take t.size) y/\t.n6 N y):=by
 induction t with
 | bool=>
  refine ⟨λ_ {id cQ cs x} aR h _=>?_,λ_ {l off n cs} h=>by simp [cx] at h⟩;have hu:P.underlying id=some .bool:=by
   unfold ca at aR;simp only [cx,Bool.and_eq_true] at aR;obtain ⟨_,aR⟩:=aR;split at aR
   ·assumption
   ·cases aR
  obtain ⟨b,rfl,_⟩:=DataW.trod_bool hu h;exact ⟨_,rfl,trivial⟩
 | int k=>
  refine ⟨λ_ {id cQ cs x} aR h _=>?_,λ_ {l off n cs} h=>by simp [cx] at h⟩;obtain ⟨n,rfl,_,hw⟩:=DataW.trod_int aR.int h;simp only [Lit.wf,Bool.and_eq_true,decide_eq_true_eq] at hw;exact ⟨n,⟨rfl,hw⟩,trivial⟩
 | str=>
  refine ⟨λ_ {id cQ cs x} aR h _=>?_,λ_ {l off n cs} h=>by simp [cx] at h⟩;obtain ⟨s,rfl,_,hw⟩:=DataW.trod_string aR.str h;refine ⟨s.data.toList,⟨by simp,?_⟩,trivial⟩;have:s.data.toList.length=s.size:=by rw [Array.length_toList];rfl
  rw [this];have:maxLen<2 ^ 63:=by decide
  omega
 | da=>exact ⟨λ_ {id cQ cs x} aR h _=>by simp [ca,cx] at aR,λ_ {l off n cs} h=>by simp [cx] at h⟩
 | st t aO=>
  refine ⟨λaw {id cQ cs x} aR h hk=>?_,λ_ {l off n cs} h=>by simp [cx] at h⟩;have aw:t.jd=true:=aw;have GS:P.cellsOf id=t.size:=aR.cells;obtain ⟨fr,hu⟩:=aR.st;obtain ⟨xs,n,_,rfl,hlen,ate,ax⟩:=DataW.trod_struct hu h;unfold ca at aR;simp only [cx,Bool.and_eq_true] at aR;obtain ⟨_,aR⟩:=aR;rw [hu] at aR;have j6:∀ f∈fr.toList,∃ x,DataW.trod enc P w 0 (λ_=>true) true n f.type ((cs.drop f.offset).take (P.cellsOf f.type))=some x/\b x.1<=N:=by
   intro f afK;obtain ⟨i,U,rfl⟩:=List.mem_iff_getElem.1 afK;have eA:i<fr.size:=by simpa using U
   refine ⟨xs[i]'(by omega),?_,Nat.le_trans (af.Qj _ _ (List.mem_map_of_mem (List.getElem_mem _))) hk⟩;rw [ax i _ (by simp [eA])];exact List.getElem?_eq_getElem _
  simp only at aR;split at aR
  ·have aR:=of_decide_eq_true aR;subst aR;have:cs=[]:=by
    have:=hlen.trans GS;simpa [ai.size] using this
   subst this;exact ⟨(),rfl,trivial⟩
  ·rename_i f gW;simp only [Bool.and_eq_true,beq_iff_eq,bne_iff_ne] at aR;obtain ⟨⟨⟨aW,M⟩,_⟩,_⟩:=aR;obtain ⟨x,au,afL⟩:=j6 f (by rw [gW];simp);have hc:P.cellsOf f.type=t.size:=ca.cells M;rw [aW,hc,List.drop_zero,List.take_of_length_le (by omega)] at au;exact aO.1 aw M au afL
  ·obtain ⟨y,aJ⟩:=aO.2 aw aR j6;rw [List.drop_zero,List.take_of_length_le (by omega)] at aJ;exact ⟨y,aJ⟩
 | aG a b gn fh=>
  refine ⟨λ_ {id cQ cs x} aR h _=>by simp [ca,cx] at aR,λaw {l off n cs} aR h=>?_⟩;simp only [ai.jd,Bool.and_eq_true] at aw;have xy:∀ {y:a.aq} {z:b.aq},bM P a (sR w) w ((cs.drop off).take a.size) y/\a.n6 N y->bM P b (sR w) w ((cs.drop (off+a.size)).take b.size) z/\b.n6 N z->∃ y,bM P (.aG a b) (sR w) w ((cs.drop off).take (ai.aG a b).size) y/\(ai.aG a b).n6 N y:=by
   intro y z aJ bm;refine ⟨(y,z),⟨_,_,?_,aJ.1,bm.1⟩,aJ.2,bm.2⟩;simp only [ai.size];rw [List.take_add,List.drop_drop]
  match l,aR with
  | f::g::[],aR=>
   simp only [cx,Bool.and_eq_true,beq_iff_eq,bne_iff_ne] at aR;obtain ⟨⟨⟨⟨aW,M⟩,_⟩,_⟩,⟨⟨⟨hR,aS⟩,_⟩,_⟩⟩:=aR;obtain ⟨x,au,aI⟩:=h f (by simp);obtain ⟨ec,oa,tW⟩:=h g (by simp);rw [aW,ca.cells M] at au;rw [hR,ca.cells aS] at oa;obtain ⟨y,aJ⟩:=gn.1 aw.1 M au aI;obtain ⟨z,bm⟩:=fh.1 aw.2 aS oa tW;exact xy aJ bm
  | f::g::e::fr,aR=>
   simp only [cx,Bool.and_eq_true,beq_iff_eq,bne_iff_ne] at aR;obtain ⟨⟨⟨⟨aW,M⟩,_⟩,_⟩,aS⟩:=aR;obtain ⟨x,au,aI⟩:=h f (by simp);rw [aW,ca.cells M] at au;obtain ⟨y,aJ⟩:=gn.1 aw.1 M au aI;obtain ⟨z,bm⟩:=fh.2 aw.2 aS λg3 rN=>h g3 (List.mem_cons_of_mem _ rN);exact xy aJ bm
 | slice e aO=>
  refine ⟨λaw {id cQ cs x} aR h hk=>?_,λ_ {l off n cs} h=>by simp [cx] at h⟩;have aw:e.jd=true:=aw;obtain ⟨i,hu,he,cH⟩:=aR.sl;have GS:=he.cells;rcases DataW.trod_slice hu h with ⟨rfl,_⟩ | ⟨a,len,cap,elems,bZ,n,rfl,rfl,au,_,TN,xc,fl,fU,TO,_⟩
  ·exact ⟨[],⟨none,0,rfl,Nat.le_refl _,by decide,λ_=>rfl,λp ar=>by cases ar⟩,Nat.zero_le _,λy aJ=>by cases aJ⟩
  ·rw [au] at hk;have lL:0<P.cellsOf i:=by rw [GS];omega
   have key:∀ j,j<len->∃ bn y,w.cells? 0 (a.add (j*P.cellsOf i)) (P.cellsOf i)=some bn/\bM P e (sR w) w bn y/\e.n6 N y:=by
    intro j aC;have:=fU j aC;rw [List.getElem?_eq_getElem (by omega)] at this;obtain ⟨bn,M,aa⟩:=Option.bind_eq_some_iff.1 this;obtain ⟨y,aJ⟩:=aO.1 aw he aa (Nat.le_trans (af.Qi _ _ _ (List.mem_map_of_mem (List.getElem_mem _))) hk);exact ⟨bn,y,M,aJ⟩
   have afM:0<cap->a.spot=none/\a.block<w.heap.size:=by
    intro hc;have:∃ bn,w.cells? 0 (a.add (0*P.cellsOf i)) (P.cellsOf i)=some bn:=by
     by_cases J5:0<len
     ·obtain ⟨bn,_,M,_⟩:=key 0 J5;exact ⟨bn,M⟩
     ·obtain ⟨eb,eN⟩:=TO rfl;have bm:len=0:=by omega
      subst bm;have:=eN 0 (by omega);rw [List.getElem?_eq_getElem (by omega)] at this;obtain ⟨bn,M,_⟩:=Option.bind_eq_some_iff.1 this;exact ⟨bn,M⟩
    obtain ⟨bn,M⟩:=this;have aK:a.add (0*P.cellsOf i)=a:=by unfold Addr.add;simp
    rw [aK] at M;obtain ⟨aS,aY,_⟩:=TM M lL;exact ⟨aS,aY⟩
   have:∃ bG:List e.aq,bG.length=len/\∀ j (aC:j<bG.length),∃ bn,w.cells? 0 (a.add (j*P.cellsOf i)) (P.cellsOf i)=some bn/\bM P e (sR w) w bn bG[j]/\e.n6 N bG[j]:=by
    clear fU fl h TN TO hk;induction len with
    | zero=>exact ⟨[],rfl,λj aC=>by simp at aC⟩
    | succ m afN=>
     obtain ⟨bG,mG,du⟩:=afN λj aC=>key j (by omega);obtain ⟨bn,y,M,aa⟩:=key m (by omega);refine ⟨bG++[y],by simp [mG],λj aC=>?_⟩;by_cases ry:j<bG.length
     ·rw [List.getElem_append_left ry];exact du j ry
     ·have:j=m:=by simp at aC;omega
      subst this;refine ⟨bn,M,?_⟩;rw [List.getElem_append_right (by omega)];simpa [mG] using aa
   have afO:len<=N:=by have:=af.len (elems.map (·.1)) (bZ.map (·.1));rw [List.length_map,fl] at this;exact Nat.le_trans this hk
   obtain ⟨bG,rfl,mG⟩:=this;have Q':maxLen<2 ^ 63:=by decide
   refine ⟨bG,⟨some a,cap,rfl,TN,by omega,(by simp),λp ar zb=>?_⟩,afO,λy aJ=>by
    obtain ⟨j,aC,rfl⟩:=List.mem_iff_getElem.1 aJ;obtain ⟨bn,_,M,aa⟩:=mG j aC;exact aa⟩
   cases ar;obtain ⟨aS,aY⟩:=afM zb;refine ⟨aY,aS,λj aC=>?_⟩;obtain ⟨bn,d1,d2,_⟩:=mG j aC;obtain ⟨eb,eN,ij,g2⟩:=TM d1 lL;refine ⟨bn,⟨aY,rfl,λq bt=>?_⟩,d2⟩;have:=g2 q bt;have aK:a.add (j*P.cellsOf i)=⟨a.block,a.off+j*e.size,none⟩:=by
    rw [GS];cases a;simp only at aS;subst aS;unfold Addr.add;split
    ·rename_i aW;simp [aW]
    ·rfl
   rw [aK] at this;exact this
 | array n e aO=>exact ⟨λh=>by simp [ai.jd] at h,λh=>by simp [ai.jd] at h⟩
 | bQ e aO=>exact ⟨λh=>by simp [ai.jd] at h,λh=>by simp [ai.jd] at h⟩
 | map k v w1 w2=>exact ⟨λh=>by simp [ai.jd] at h,λh=>by simp [ai.jd] at h⟩
 | fn a b gn fh=>exact ⟨λh=>by simp [ai.jd] at h,λh=>by simp [ai.jd] at h⟩
 | cj a aO=>exact ⟨λh=>by simp [ai.jd] at h,λh=>by simp [ai.jd] at h⟩
theorem TP (af:BB b) {t:ai} (aw:t.jd=true) {id:TypeId} (aR:ca P t id) {base:Nat} {v:Value} {d:DataW H} {ps:List MemPlace} (cm:Value.okWide P w .any base id v)
  (h:DataW.Trod enc P w 0 (λ_=>true) true id v d ps) (hk:b d<=N):∃ y,eU P t (sR w) w v y/\t.n6 N y:=by
 obtain ⟨n,aI⟩:=h;obtain ⟨y,aJ,ax⟩:=(afJ af t).1 aw aR aI hk;refine ⟨y,⟨?_,aJ⟩,ax⟩;cases t with
 | bool=>
  simp only [bM] at aJ;have hu:P.underlying id=some .bool:=by
   unfold ca at aR;simp only [cx,Bool.and_eq_true] at aR;obtain ⟨_,aR⟩:=aR;split at aR
   ·assumption
   ·cases aR
  simp only [Value.okWide,hu,Cell.okWide,Cell.ok] at cm;cases v<;>first | rfl | exact cm.elim
 | int k=>
  simp only [Value.okWide,aR.int,Cell.okWide,Cell.ok] at cm;cases v<;>first | rfl | exact cm.elim
 | str=>
  simp only [Value.okWide,aR.str,Cell.okWide,Cell.ok] at cm;cases v<;>first | rfl | exact cm.elim
 | da=>simp [ca,cx] at aR
 | st t=>
  obtain ⟨fr,hu⟩:=aR.st;simp only [Value.okWide,hu] at cm;obtain ⟨cs,rfl,hc,_⟩:=cm;exact ⟨cs,rfl,hc.trans aR.cells⟩
 | aG a b=>simp [ca,cx] at aR
 | slice e=>
  obtain ⟨i,hu,_⟩:=aR.sl;simp only [Value.okWide,hu,Cell.okWide,Cell.ok] at cm;cases v<;>first | rfl | exact cm.elim
 | array n e=>simp [ai.jd] at aw
 | bQ e=>simp [ai.jd] at aw
 | map k v=>simp [ai.jd] at aw
 | fn a b=>simp [ai.jd] at aw
 | cj a=>simp [ai.jd] at aw
def xY (P:Program):List TypeId->ai->Bool
 | [id],t=>cx P t (.inl id)&&t.jd
 | id::ids,.aG a b=>cx P a (.inl id)&&a.jd&&xY P ids b
 | _,_=>false
theorem TQ (af:BB b):∀ (ids:List TypeId) (ts:ai) {base:Nat} {aH:List Value} {bn:List (DataW H)} {ps:List MemPlace},xY P ids ts=true->DataW.TrodAll enc P w 0 (λ_=>true) true ids aH bn ps->
  (∀ (j:Nat) t v,ids[j]?=some t->aH[j]?=some v->Value.okWide P w .any base t v)->(∀ d∈bn,b d<=N)->∃ x,gS P ts (sR w) w aH x/\ts.n6 N x
 | [],ts,_,aH,bn,ps,h,_,_,_=>by simp [xY] at h
 | [id],t,_,aH,bn,ps,h,jq,cm,hk=>by
  simp only [xY,Bool.and_eq_true] at h;obtain ⟨v0,Mx,d0,My,Fp,B5,rfl,rfl,rfl,aW,sS⟩:=trodAll_cons jq;obtain ⟨rfl,rfl,rfl⟩:=trodAll_nil sS;obtain ⟨y,⟨xK,sI⟩,ax⟩:=TP af h.2 h.1 (cm 0 id v0 rfl rfl) aW (hk _ (List.mem_cons_self ..));refine ⟨y,⟨?_,by simpa [e8] using sI⟩,ax⟩;cases t<;>first | exact ⟨v0,rfl,xK⟩ | (simp [cx] at h;done)
 | id::afP::ids,ts,base,aH,bn,ps,h,jq,cm,hk=>by
  cases ts with
  | aG a b=>
   simp only [xY,Bool.and_eq_true] at h;obtain ⟨v0,Mx,d0,My,Fp,B5,rfl,rfl,rfl,aW,sS⟩:=trodAll_cons jq;obtain ⟨y,⟨xK,sI⟩,ax⟩:=TP af h.1.2 h.1.1 (cm 0 id v0 rfl rfl) aW (hk _ (List.mem_cons_self ..));obtain ⟨z,⟨afQ,afR⟩,aL⟩:=TQ af (afP::ids) b h.2 sS (λj t v M aa=>cm (j+1) t v (by simpa using M) (by simpa using aa)) λd aN=>hk d (List.mem_cons_of_mem _ aN);exact ⟨(y,z),⟨⟨xK,afQ⟩,_,_,Ju _ _,sI,afR⟩,ax,aL⟩
  | _=>simp [xY] at h
theorem TR (aw:laidOutB P=true) {w':World} {TS:Nat->Bool}:∀ (ids:List TypeId) {aH:List Value} {bn:List (DataW H)} {ps:List MemPlace},(ids.all λt=>P.readableRec t&&decide (t<P.types.size))=true->
  DataW.TrodAll enc P w 0 (λ_=>true) true ids aH bn ps->(∀ p∈ps,w.sameAt w' p)->(∀ p∈ps,TS p.block=true)->DataW.TrodAll enc P w' 0 TS true ids aH bn ps
 | [],_,_,_,_,h,_,_=>by
  obtain ⟨rfl,rfl,rfl⟩:=trodAll_nil h;rfl
 | id::ids,aH,bn,ps,W,h,M,aa=>by
  simp only [List.all_cons,Bool.and_eq_true,decide_eq_true_eq] at W;obtain ⟨v0,Mx,d0,My,Fp,B5,rfl,rfl,rfl,aW,sS⟩:=trodAll_cons h;exact trodAll_cons_mk (Go.WideElems.Trod_stays aw W.1.1 W.1.2 aW (λp ar=>M p (List.mem_append_left _ ar)) (λp ar=>aa p (List.mem_append_left _ ar)))
   (TR aw ids W.2 sS (λp ar=>M p (List.mem_append_right _ ar)) (λp ar=>aa p (List.mem_append_right _ ar)))
theorem Z6 (af:BB b) {k:FuncId} {fn:Func} {ts:ai} {sh:ts.aq->A (ai.bool).aq} {spec:ChangeSpec} {rt:TypeId} (afS:laidOutB P=true) (xh:jk P k ts .bool sh) (afT:∀ x,ts.k6 x->ts.n6 N x->A.cp (sh x) λy=>y=true)
  (ep:xY P fn.params.toList ts=true) (afU:(fn.params.toList.all λt=>P.readableRec t&&decide (t<P.types.size))=true) (g1:fn.resultTypes=#[rt]) (afV:P.underlying rt=some .bool)
  (aj:spec.vars=[]) (CM:∀ (H:Type) (bn:List (DataW H)),bn.length=fn.params.size->spec.fn H bn={ results:=[.lit (.bool true)],args:=bn })
  {base:Nat} {args:Array Value} {bn gs:List (DataW H)} {before:List MemPlace} (rf:∀ (j:Nat) t v,fn.params[j]?=some t->args[j]?=some v->Value.okWide P w .any base t v)
  (rh:DataW.Whole enc P fn.params.toList spec.vars false w args.toList bn gs before) (hk:∀ d∈bn,b d<=N) :
  Calls P k args w λe n7=>∃ v,e=.returned v/\spec.post enc P fn false true false false w args v n7:=by
 have cq:=rh.lt;have TT:=rh;obtain ⟨p,q,jq,Mz,rfl,tK,_⟩:=rh;have bt:gs=[]/\q=[]:=by
  rw [aj] at Mz;cases gs with
  | nil=>exact ⟨rfl,Mz⟩
  | cons _ _=>exact Mz.elim
 obtain ⟨rfl,rfl⟩:=bt;simp only [List.append_nil] at TT cq tK;obtain ⟨x,au,ax⟩:=TQ af fn.params.toList ts ep jq (λj t v M aa=>rf j t v (by simpa using M) (by simpa using aa)) hk;obtain ⟨aA,al⟩:=afT x (Al ts au.2) ax;have zx:bn.length=fn.params.size:=by
  have:∀ (ids:List TypeId) {aH:List Value} {bn:List (DataW H)} {ps:List MemPlace},DataW.TrodAll enc P w 0 (λ_=>true) true ids aH bn ps->bn.length=ids.length:=by
   intro ids;induction ids with
   | nil=>intro aH bn ps h;obtain ⟨rfl,rfl,rfl⟩:=trodAll_nil h;rfl
   | cons id ids aO=>intro aH bn ps h;obtain ⟨v0,Mx,d0,My,Fp,B5,rfl,rfl,rfl,aW,sS⟩:=trodAll_cons h;simp [aO sS]
  simpa using this _ jq
 have hc:=xh.mZ (sR w) w args.toList x (λ_ h=>h) au aA;refine hc.mono λe n7 ⟨v,y,he,aJ,W,af⟩=>?_;have aJ:=al y aJ;subst aJ;obtain ⟨aH,b4,ct⟩:=W;have afW:v=.bool true:=by
  simp only [y3] at b4;subst b4;obtain ⟨⟨u,hu,pQ⟩,oc⟩:=ct;simp only [List.cons.injEq,and_true] at hu;subst hu;simp only [lB] at pQ;simp only [Ju,pQ,Z',bM] at oc;simpa using oc
 subst afW;have pI:∀ p'∈p,w.sameAt n7 p':=by
  intro p' ar;have M:=af.block _ (cq p' ar);cases p' with
  | cell b off=>simp only [World.sameAt,World.cell?];simp only [MemPlace.block] at M;rw [M]
  | map b=>exact M
 refine ⟨_,he,bn,[],p,[],p,[],TT,?_,?_,?_,?_,λh=>by cases h⟩
 ·rw [List.append_nil,CM H bn zx,g1];exact trodAll_cons_mk (shut_bool afV true) trodAll_mk0
 ·rw [List.append_nil,CM H bn zx];exact TR afS _ afU jq pI λp' ar=>by simpa using cq p' ar
 ·rw [aj,List.append_nil,CM H bn zx];rfl
 ·refine ⟨af.os,af.output,λi U=>?_⟩;have M:=af.block i U;rw [M];exact (World.keptBut_refl w λGU=>GU∈p/\(GU∈[]\/GU∈p\/GU∈[])).2.2 i U
end
end Go.Fer
namespace Go.Fer.y1
open Go.Proofs
abbrev a7:ai:=.int .i64
abbrev h_:ai:=.bool
abbrev afX:ai:=.int .u8
abbrev hx:ai:=.int .i64
abbrev afY:ai:=.int .u8
abbrev afZ:ai:=.st (.aG hx (.aG a7 (.aG h_ afY)))
abbrev af0:ai:=.str
abbrev af1:ai:=.str
abbrev af2:ai:=.str
abbrev Du:ai:=.st (.aG a7 a7)
abbrev Dv:ai:=.st (.aG a7 (.aG a7 Du))
abbrev GV:ai:=.slice Dv
abbrev ey:ai:=.slice a7
abbrev Dw:ai:=.st (.aG a7 (.aG ey Du))
abbrev MA:ai:=.slice Dw
abbrev Am:ai:=.st MA
abbrev GW:ai:=.slice Am
abbrev GX:ai:=.st (.aG a7 (.aG a7 (.aG a7 a7)))
abbrev GY:ai:=.slice GX
abbrev ka:ai:=.st (.aG GV (.aG GW (.aG a7 GY)))
abbrev An:ai:=.st (.aG a7 (.aG a7 (.aG a7 (.aG a7 ey))))
abbrev MB:ai:=.slice An
abbrev Dx:ai:=.st (.aG ey (.aG Du (.aG a7 (.aG a7 a7))))
abbrev MC:ai:=.slice Dx
abbrev mf:ai:=.st (.aG a7 (.aG a7 a7))
abbrev GZ:ai:=.slice mf
abbrev jZ:ai:=.st (.aG ka (.aG ey (.aG MB (.aG MC (.aG GZ a7)))))
abbrev v5:ai:=.st (.aG a7 a7)
abbrev rP:ai:=.slice v5
abbrev af3:ai:=.int .i64
abbrev MD:ai:=.slice Du
abbrev iR:ai:=.st (.aG a7 (.aG a7 (.aG a7 (.aG a7 (.aG a7 a7)))))
abbrev pR:ai:=.slice iR
abbrev ME:ai:=.st (.aG a7 (.aG a7 (.aG a7 (.aG a7 (.aG a7 (.aG a7 a7))))))
abbrev MF:ai:=.st (.aG MD (.aG pR (.aG ey (.aG MD ME))))
abbrev v7:ai:=.slice ey
abbrev v8:ai:=.st (.aG ka v7)
abbrev Dy:ai:=.bQ v8
abbrev ln:ai:=.st (.aG v7 (.aG ey ey))
abbrev af4:ai:=.bQ ln
abbrev TU:ai:=.st (.aG a7 a7)
abbrev TV:ai:=.slice TU
abbrev TW:ai:=.st (.aG a7 (.aG a7 a7))
abbrev TX:ai:=.map TW a7
abbrev o0:ai:=.st (.aG jZ (.aG TV TX))
abbrev o1:ai:=.bQ o0
abbrev af5:ai:=.fn ey h_
abbrev af6:ai:=.cj ey
abbrev TY:ai:=.st (.aG a7 (.aG a7 a7))
abbrev af7:ai:=.slice TY
abbrev TZ:ai:=.fn Dx h_
abbrev nh:ai:=.int .u64
abbrev Dz:ai:=.slice nh
abbrev MG:ai:=.fn a7 a7
abbrev T0:ai:=.fn GX h_
abbrev T1:ai:=.fn a7 h_
abbrev T2:ai:=.fn v5 h_
abbrev MH:ai:=.map a7 a7
abbrev af8:ai:=.slice a7
abbrev af9:ai:=.fn nh h_
abbrev af_:ai:=.cj nh
abbrev af':ai:=.int .u32
abbrev aga:ai:=.int .u64
abbrev qJ:ai:=.st (.aG iR a7)
abbrev MI:ai:=.slice qJ
abbrev MJ:ai:=.array 10 MI
abbrev gY:ai:=.st (.aG ey MJ)
abbrev qK:ai:=.bQ gY
abbrev MK:ai:=.slice qK
abbrev fy:ai:=.st (.aG MF (.aG pR MK))
abbrev v9:ai:=.bQ fy
abbrev ML:ai:=.fn iR h_
abbrev agb:ai:=.fn v9 h_
abbrev agc:ai:=.fn (.aG iR a7) h_
abbrev agd:ai:=.cj (.aG iR a7)
abbrev T3:ai:=.fn qK (.aG a7 h_)
abbrev T4:ai:=.st (.aG a7 (.aG a7 a7))
abbrev age:ai:=.map T4 a7
abbrev T5:ai:=.fn Dw h_
abbrev T6:ai:=.fn An h_
abbrev T7:ai:=.fn mf h_
abbrev T8:ai:=.fn Dv h_
abbrev T9:ai:=.fn Am h_
abbrev G0:ai:=.map a7 iR
abbrev MM:ai:=.cj a7
abbrev agf:ai:=.cj a7
abbrev DA:ai:=.fn (.aG qJ qJ) a7
abbrev agh:ai:=.int .i64
abbrev T_:ai:=.int .u64
abbrev agi:ai:=.bQ a7
abbrev agj:ai:=.bQ T_
def uy:List (Nat×ai):=[(3,a7),(4,h_),(5,afX),(8,afZ),(9,af0),(10,af1),(11,af2),(22,GV),(23,GW),(24,GY),(26,ka),(27,ey),(28,MB),(29,MC),(30,GZ),(32,jZ),(38,rP),(41,af3),(45,v5),(51,An),(53,Du),(55,Dx),(63,MD),(64,pR),(66,ME),(68,MF),(71,Dy),(77,af4),(81,o1),(84,af6),(85,af7),(90,MA),(92,Am),(94,Dw),(98,TZ),(100,mf),(102,Dz),(106,nh),(108,Dv),(110,GX),(114,MG),(116,iR),(119,v7),(121,v8),(123,T0),(127,T1),(129,T2),(132,ln),(134,MH),(135,TX),(136,TV),(138,o0),(141,TW),(144,TU),(145,af5),(148,TY),(150,af8),(153,af_),(155,af'),(157,aga),(160,v9),(164,MK),(166,fy),(167,ML),(168,agb),(171,qK),(172,agd),(174,T3),(175,age),(177,T4),(182,T5),(183,af9),(192,agc),(193,MI),(194,MJ),(196,gY),(198,qJ),(200,T6),(201,T7),(205,T8),(207,T9),(219,G0),(222,MM),(223,agf),(235,DA),(243,agh),(255,T_),(259,agi),(263,agj)]
theorem pS:eO Tryz.prog (qI uy):=afE (by kernel_rfl)
theorem G1:Tryz.prog.follows .mixedOrders=true:=by kernel_rfl
def v_ (_:Nat):Option aU:=none
theorem G2:kP Tryz.prog v_:=λk c h=>by cases h
def ni:eG:={ tB:=λ_=>none,tC:=λ_=>none }
theorem o2:qg Tryz.prog ni where
 tB:=λk v h=>by cases h
 tC:=λk v h=>by cases h
end Go.Fer.y1
namespace Go.Fer
open Go.RowKit
theorem agk {P:Program} {a1:eG} {k:FuncId} {ts e hx:ai} (uc:ts≠.da) (he:e.pure=true) (agl:hx.pure=true) (agm:hx.hs=true) {c:fY} (h:hj P a1 k c) (iQ:qg P a1) {sh:ts.aq->A ((ai.slice e).aq×hx.aq)} {b0:Nat} (mk:ts.aq->c.cM.aq)
    (agn:∀ x,c.cM.st (mk x)=⟨gF ((List.range (kK ts)).map λi=>(i,k9 ts x i)),λ_=>⟨0,.gK⟩⟩) (aI:c.lh=kK ts) (jw:c.lh<=fP) (ago:c.lQ=[none,none]) (val:c.bP.aq->List e.aq) (DB:c.bP.aq->hx.aq)
    (uu:∀ bA,(c.bP.st bA).aD 0=.ad b0 0/\(c.bP.st bA).ag b0=⟨0,.bu e (val bA)⟩/\(c.bP.st bA).aD 1=.val hx (DB bA))
    (pD:∀ x,(sh x).dU->(c.sh (mk x)).dU/\∀ bA,(c.sh (mk x)).bP bA->(sh x).bP (val bA,DB bA)):jk P k ts (.aG (.slice e) hx) sh/\EY P k ts (.aG (.slice e) hx) sh:=by
  have key:∀ (F:Nat->Prop) (w:World) (args:List Value) (x:ts.aq),(∀ r,F r->r<w.heap.size)->gS P ts F w args x->(sh x).dU->
      Calls P k args.toArray w λa9 w'=>∃ (v:Value) (y:(ai.aG (ai.slice e) hx).aq),a9=.returned v/\(sh x).bP y/\vn P (.aG (.slice e) hx) (λr=>w.heap.size<=r/\r<w'.heap.size) w' v y/\Below w.heap.size w w':=by
    intro F w args x bB ep aA;obtain ⟨iy,GI⟩:=tR (H:=λ_=>⟨0,.gK⟩) (κ:=λ_=>⟨0,0,0,false⟩) ts ep uc;let C:cf:={ P:=P,w0:=w,F0:=F,K0:=λr=>r<w.heap.size,nt:=c.lh,r:=none,dfr:=[],ix:=λ_=>none,ck:=⟨0,.da,λ_=>False,λ_ _ _ _ _=>False⟩,aZ:=a1 }
    have z3:∀ i,gF ((List.range (kK ts)).map λi=>(i,k9 ts x i)) i=.undef\/(i<kK ts/\gF ((List.range (kK ts)).map λi=>(i,k9 ts x i)) i=k9 ts x i):=λi=>by
      rcases TB (l:=(List.range (kK ts)).map λi=>(i,k9 ts x i)) (i:=i) with e | e
      · exact .inl e
      · refine .inr ?_
        generalize bm:gF ((List.range (kK ts)).map λi=>(i,k9 ts x i)) i=z at e
        simp only [List.mem_map,List.mem_range,Prod.mk.injEq] at e
        obtain ⟨j,aC,rfl,rfl⟩:=e
        exact ⟨aC,rfl⟩
    have W:bl C (c.cM.st (mk x)) { tmps:=args.toArray,defers:=[] } w (λ_=>⟨0,0,0,false⟩) F:=by
      rw [agn];refine { eB := ?_, dfr := rfl, b3 := λi => ?_, bI := λb => trivial, ad := λb af => (by cases af), inj := λb bg af _ _ => (by cases af), dM := bB, iY := λr W => .inl W, j2 := λr W => W, jI := λr W => W, fF := λr _ => rfl, size := Nat.le_refl _, fi := dA.refl w,hF:=jw,m1:=λb r h=>(by cases h),lC:=λb r h=>(by cases h),m2:=λb k h=>(by cases h),mC:=λb k h=>(by cases h),fQ:=λl aM L n st e=>?_,l2:=iQ }
      · grind
      · rcases z3 i with e | ⟨U,e⟩
        · show bw _ _ _ _ _ (gF _ i) _
          rw [e];trivial
        · show bw _ _ _ _ _ (gF _ i) _
          rw [e]
          have:=GI i U
          simpa [Array.getD_eq_getD_getElem?,List.getD_eq_getElem?_getD] using this
      · rcases z3 b_ with h | ⟨h,_⟩
        · grind
        · unfold b_ at h;unfold fP at jw;omega
    obtain ⟨z5,xi⟩:=pD x aA;refine (h.mZ C _ w _ F (mk x) rfl rfl rfl rfl rfl rfl W z5).mono λa9 w' ⟨v,bA,aH,κ',F',BG,jO,Gi,bc⟩=>?_;obtain ⟨agp,ud,SH⟩:=uu bA;rw [ago] at Gi;obtain ⟨us,gj,Sr,MN⟩:=Gi;obtain ⟨u,hz,rfl⟩:∃ u hz,us=[u,hz]:=by
      match us,gj with
      | [u,hz],_=>simp
    have G3:aH=[u,hz]:=by
      obtain ⟨_,G3,_,aa,an⟩:=MN;rw [G3,aa,an]
    have aj:v=.tuple #[u,hz]:=by grind
    have dr:=bc.b3 0;rw [agp,G3] at dr;have MO:u=(κ' b0).slice ((c.bP.st bA).ag b0).body.len:=by
      have:=dr.2 (by rw [ud]) (by rw [ud];rfl);simp_all
    rw [ud] at MO;have G4:=bc.b3 1;rw [SH,G3] at G4;have G4:eU P hx F' w' hz (DB bA):=(by simp_all:bw C.P (c.bP.st bA).ag κ' F' w' (.val hx (DB bA)) hz)
    have a6:=bc.bI b0;unfold cO at a6;rw [ud] at a6;have hM:(κ' b0).h0=false->w.heap.size<=(κ' b0).ag/\(κ' b0).ag<w'.heap.size:=λaI=>by
      have:=bc.ad b0 (by rw [ud];simp [b7.cd,aI]);omega
    refine ⟨v,(val bA,DB bA),BG,xi bA jO,⟨[u,hz],aj,BH.2 ⟨(fa rfl).2 ⟨?_,?_⟩,(BI agm).2 ⟨hz,rfl,G4.1,JE hx agl G4.2⟩⟩⟩,bc.fi.os,bc.fi.tape,bc.fi.output,bc.size,bc.fF⟩
    · rw [MO];unfold bD.slice;split<;>rfl
    · rw [MO]
      simp only [b7.len]
      obtain ⟨M,aa⟩:=a6
      simp only [bM,bD.slice]
      cases aI:(κ' b0).h0 with
      | true=>rw [M aI];exact ⟨none,0,rfl,Nat.le_refl _,by decide,λ_=>rfl,λp ar=>by simp⟩
      | false=>
        obtain ⟨cs,T,bH,b2,cw,gi,hG⟩:=aa aI;refine ⟨some ⟨(κ' b0).ag,(κ' b0).off,none⟩,(κ' b0).cap,by simp,cw,gi,(by simp),λp ar _=>?_⟩;cases ar;refine ⟨hM aI,rfl,λi U=>?_⟩;obtain ⟨bn,d1,d2⟩:=hG i U;refine ⟨bn,⟨hM aI,rfl,λj aC=>?_⟩,JE e he d2⟩;simp only [World.cell?,bH];grind
  exact ⟨⟨h.enter,λF w args x bB bf aA=>(key F w args x bB bf aA).mono λa9 w' ⟨v,y,M,aa,⟨aH,an,a8,bV⟩,d_⟩=>⟨v,y,M,aa,⟨aH,an,a8,gp _ (λr W=>.inr W) (c6.refl _ _) bV⟩,d_⟩⟩,⟨key⟩⟩
end Go.Fer
namespace Go.Fer
theorem A.agq {ao:Type} {p:Prop} {m n:A ao} (h:n.dU->p) (k:A.bz m n):A.bz (A.ah p m) n:=λaA=>⟨⟨h aA,(k aA).1⟩,(k aA).2⟩
theorem uz {ao:Type} {o:Option ao} {x:ao} (h:o=some x):o.isSome=true:=by rw [h];rfl
def MP (ts:ai) (x:ts.aq) (n:Nat):Nat->Prop
 | 0=>True
 | k+1=>MP ts x n k/\Dr (k9 ts x (n+k))
theorem T' {ts:ai} {x:ts.aq} {n:Nat}:∀ {k:Nat},MP ts x n k->∀ i,i<k->Dr (k9 ts x (n+i))
 | 0,_,i,h=>by omega
 | k+1,hc,i,h=>by
  by_cases e:i=k
  ·rw [e];exact hc.2
  ·exact T' hc.1 i (by omega)
theorem Ua (ts:ai) (x:ts.aq):∀ (l:List Nat) (i:Nat),gF (l.map λi=>(i,k9 ts x i)) i=if i∈l then k9 ts x i else .undef
 | [],i=>by simp [gF]
 | j::l,i=>by
  simp only [List.map_cons,gF];by_cases e:i=j
  ·subst e;simp
  ·rw [if_neg e,Ua ts x l i];simp [e]
theorem xZ {ts:ai} {x:ts.aq} {n:Nat} (h:MP ts x n (sQ ts - n)):Ds n (pO ts x):=λi U=>by
 show Dr (gF (Ah ts x (sQ ts)) i);unfold Ah;rw [Ua];split
 ·rename_i hm;rw [List.mem_range] at hm;have aI:¬i<n:=λh=>U (.inl h);have:=T' h (i - n) (by omega);rwa [show n+(i - n)=i by omega] at this
 ·trivial
end Go.Fer
namespace Go.Fer
open A (ab)
set_option linter.unusedVariables false
set_option linter.unusedSimpArgs false
theorem bF {n:Int} (M:-9223372036854775808<=n) (aa:n<9223372036854775808):IntKind.i64.wrap n=n:=by
 show (if (true&&decide (n % 2 ^ 64>=(2 ^ (64 - 1):Int)))=true then n % 2 ^ 64 - 2 ^ 64 else n % 2 ^ 64)=n;grind
theorem b' (a b:Int):Add.add a b=a+b:=rfl
theorem ku (a b:Nat):Add.add a b=a+b:=rfl
theorem MQ {ao:Type} (a b:List ao):Append.append a b=a++b:=rfl
theorem cc (n:Nat):Int.ofNat n=(n:Int):=rfl
theorem qL {x c d:Bool}:(x||!(if (!x)=true then c else d))=(x||!c):=by grind
theorem Ub {x c d:Bool}:(x||(if (!x)=true then c else d))=(x||c):=by grind
theorem v' {x c d:Bool}:(x&&(if x=true then c else d))=(x&&c):=by grind
namespace A
variable {ao β gJ G aQ:Type}
theorem bU {m:A ao} {p:Prop} {v:ao} (h:p->m=pure v):bz m (eT p v):=λar=>by
 rw [h ar];exact ⟨trivial,λ_ aJ=>aJ⟩
theorem x0 {m:A ao} {p:Prop} {v:ao} (h:p->cp m λy=>y=v):bz m (eT p v):=λar=>h ar
theorem hS {p:Prop} {v d:ao}:(eT p v).val d=v:=by
 unfold val;have h:∃ x,(eT p v).bP x:=⟨v,rfl⟩
 rw [dif_pos h];exact h.choose_spec
theorem nN {v d:ao}:(pure v).val d=v:=hS (p:=True)
theorem mg {p:Prop} {v:ao}:(eT p v).dU=p:=rfl
theorem G5 {p:Prop} {v:ao}:(eT p v).Cz:=λ_ _ h k=>h.trans k.symm
theorem je {g:Bool} {p:Prop} {v d:ao}:cJ g (eT p v) d=eT (g=true->p) (if g=true then v else d):=by
 cases g
 ·exact (eZ (by simp) _).symm
 ·simp [cJ]
theorem sT {g:Bool} {v d:ao}:cJ g (pure v) d=pure (if g=true then v else d):=by cases g<;>rfl
theorem bX {f:G->A β} {x:G}:ab.bx f (.next x:ab G β)=f x:=rfl
theorem jf {f:G->A β} {r:β}:ab.bx f (.done r:ab G β)=pure r:=rfl
end A
def gO {ao β aQ:Type} (f:ao->β->ab β aQ) (fin:β->aQ):List ao->β->aQ
 | [],b=>fin b
 | x::l,b=>match f x b with
  | .next bg=>gO f fin l bg
  | .done r=>r
def ab.h' {G β aQ:Type} (g:β->G):ab β aQ->ab G aQ
 | .next b=>.next (g b)
 | .done r=>.done r
theorem A.hT {ao β G aQ:Type} {body:G->A (ab G aQ)} {s0:G} (l:List ao) (mk:Nat->β->G) (f:ao->β->ab β aQ) (fin:β->aQ) (I:Nat->β->Prop) (b:β) (kt:s0=mk 0 b) (aW:I 0 b)
  (aA:∀ i (h:i<l.length) b,I i b->body (mk i b)=A.pure (ab.h' (mk (i+1)) (f l[i] b))/\∀ bg,f l[i] b=.next bg->I (i+1) bg)
  (ax:∀ b,I l.length b->body (mk l.length b)=A.pure (.done (fin b))):A.loop body s0=A.pure (gO f fin l b):=by
 subst kt;have key:∀ (k:Nat) (r:List ao) (b:β),k<=l.length->r=l.drop k->I k b->A.loop body (mk k b)=A.pure (gO f fin r b):=by
  intro k r;induction r generalizing k with
  | nil=>
   intro b ak W fs;have:k=l.length:=by have:=congrArg List.length W;grind
   subst this;exact A.wY (ax b fs)
  | cons x r aO=>
   intro b ak W fs;have cq:k<l.length:=by
    grind
   rw [List.drop_eq_getElem_cons cq] at W;injection W with au W
   obtain ⟨M,aa⟩:=aA k cq b fs;rw [<-au] at M aa;simp only [gO];cases rN:f x b with
   | next bg=>
    rw [rN] at M;rw [A.Js M];grind
   | done po=>
    rw [rN] at M;exact A.wY M
 grind
theorem A.fv {ao β G aQ:Type} {body:G->A (ab G aQ)} {s0:G} (l:List ao) (mk:Nat->β->G) (f:ao->β->ab β aQ) (fin:β->aQ) (b:β) (kt:s0=mk 0 b)
  (aA:∀ i (h:i<l.length) b,body (mk i b)=A.pure (ab.h' (mk (i+1)) (f l[i] b)))
  (ax:∀ b,body (mk l.length b)=A.pure (.done (fin b))):A.loop body s0=A.pure (gO f fin l b):=
 A.hT l mk f fin (λ_ _=>True) b kt trivial (λi h b _=>⟨aA i h b,λ_ _=>trivial⟩) λb _=>ax b
section
variable {ao β aQ:Type}
theorem uA {p:ao->Bool} {r:aQ} {fin:β->aQ}:∀ (l:List ao) (b:β),gO (λx b=>if p x=true then .done r else .next b) fin l b=if l.any p=true then r else fin b
 | [],b=>by rfl
 | x::l,b=>by
  simp only [gO,List.any_cons,Bool.or_eq_true];by_cases h:p x=true
  ·simp [h]
  ·have h:p x=false:=by grind
   simp only [h,Bool.false_eq_true,if_false,false_or];exact uA l b
theorem G6 {p:ao->Bool} {r:aQ} {fin:β->aQ}:∀ (l:List ao) (b:β),gO (λx b=>if p x=true then .next b else .done r) fin l b=if l.all p=true then fin b else r
 | [],b=>by rfl
 | x::l,b=>by
  simp only [gO,List.all_cons,Bool.and_eq_true];by_cases h:p x=true
  ·simp only [h,if_true,true_and];exact G6 l b
  grind
theorem g7 {h:β->ao->β} {fin:β->aQ}:∀ (l:List ao) (b:β),gO (λx b=>.next (h b x)) fin l b=fin (l.foldl h b)
 | [],b=>rfl
 | x::l,b=>by simp only [gO,List.foldl_cons];exact g7 l (h b x)
theorem MR {p:ao->Bool}:∀ (l:List ao) (b:List ao),l.foldl (λb x=>if p x=true then b++[x] else b) b=b++l.filter p
 | [],b=>by simp
 | x::l,b=>by
  simp only [List.foldl_cons,List.filter_cons];rw [MR l];grind
theorem x1 {gJ:Type} {g:ao->gJ}:∀ (l:List ao) (b:List gJ),l.foldl (λb x=>b++[g x]) b=b++l.map g
 | [],b=>by simp
 | x::l,b=>by simp only [List.foldl_cons,List.map_cons];rw [x1 l];simp
end
theorem Uc {ao:Type} {p q:ao->Bool} (h:∀ x,p x=!q x) (l:List ao):l.any p=!l.all q:=by
 grind
theorem lS {ao β aQ:Type} {p q:ao->Bool} {r:aQ} {fin:β->aQ} (l:List ao) (b:β) (h:∀ x,p x=!q x):gO (λx b=>if p x=true then .done r else .next b) fin l b=if l.all q=true then fin b else r:=by
 rw [uA,Uc h];grind
theorem nO {G β aQ:Type} {c:Bool} {mk:β->G} {b:β} {r:aQ}:(if c=true then A.pure (ab.done r) else A.pure (ab.next (mk b)))=A.pure (ab.h' mk (if c=true then .done r else .next b)):=by cases c<;>rfl
theorem Ud {G β aQ:Type} {c:Bool} {mk:β->G} {b:β} {r:aQ}:(if c=true then A.pure (ab.done r) else A.pure (ab.next (mk b)))=A.pure (ab.h' mk (if c=true then .done r else .next b)):=by cases c<;>rfl
theorem dn {l:Nat} {i:Nat} (h:i<l):decide ((i:Int)<(l:Int))=true:=by grind
theorem dd {l:Nat} {i:Nat} (h:i<l):((0:Int)<=(i:Int)/\(i:Int)<(l:Int))=True:=by grind
theorem en {ao:Type} {l:List ao} {i:Nat} {d:ao} (h:i<l.length):l.getD (Int.toNat (i:Int)) d=l[i]:=by
 grind
theorem x2 {ao:Type} {l:List ao} {i:Int} {d:ao} (aW:0<=i) (h:i<(l.length:Int)):l.getD i.toNat d∈l:=by
 grind
def iE (a b:Int):List Int:=(List.range (b - a+1).toNat).map λ(i:Nat)=>a+(i:Int)
theorem sU (a b:Int):(iE a b).length=(b - a+1).toNat:=by simp [iE]
theorem G7 {a b:Int} {i:Nat} (h:i<(iE a b).length):(iE a b)[i]=a+i:=by simp [iE]
theorem Ao {a b n:Int}:n∈iE a b<->a<=n/\n<=b:=by
 simp only [iE,List.mem_map,List.mem_range];constructor
 ·omega
 ·rintro ⟨M,aa⟩;exact ⟨(n - a).toNat,by omega,by omega⟩
end Go.Fer
namespace Go.Fer.y1
open Go.Proofs
abbrev ov:Type:=List (Nat×m')
def o3 {ao:Type}:List (Nat×ao)->Nat->Option ao
 | [],_=>none
 | p::l,k=>if k=p.1 then some p.2 else o3 l k
theorem DC {ao:Type} {k:Nat} {c:ao}:∀ {l:List (Nat×ao)},o3 l k=some c->(k,c)∈l
 | [],h=>by cases h
 | p::l,h=>by
  unfold o3 at h;split at h
  ·rename_i e;cases h;subst e;simp
  ·exact List.mem_cons_of_mem _ (DC h)
def rQ (T:ov):List (Nat×iA)->Nat->Option iA
 | [],k=>match o3 T k with
  | some c=>some (.eP c)
  | none=>none
 | p::l,k=>if k=p.1 then some p.2 else rQ T l k
def Ue (k:Nat) (c:m'):Prop:=jk Tryz.prog k c.ts c.a5 c.sh/\(c.eT=true->∀ x,(c.sh x).Cz)
structure kV (T:ov):Type where
 ok:∀ p∈T,Ue p.1 p.2
abbrev Uf {T:ov} (_:kV T):ov:=T
def agr:kV []:=⟨λp h=>by cases h⟩
def kV.cons {T:ov} (h:kV T) {n:Nat} {c:m'} (k:Ue n c):kV ((n,c)::T):=⟨λp ar=>by
 rcases List.mem_cons.1 ar with rfl | ar
 ·exact k
 ·exact h.ok p ar⟩
def Ap (a1:eG):List (Nat×iA)->Prop
 | []=>True
 | p::l=>p.2.k6 Tryz.prog a1 p.1/\Ap a1 l
theorem kV.G8 {a1:eG} {T:ov} (h:kV T):∀ {sp:List (Nat×iA)},Ap a1 sp->nK Tryz.prog a1 (rQ T sp)
 | [],_,k,c,e=>by
  unfold rQ at e;split at e
  ·rename_i c' hc;cases e;exact h.ok (k,c') (DC hc)
  ·cases e
 | p::l,aA,k,c,e=>by
  unfold rQ at e;split at e
  ·rename_i ak;cases e;subst ak;exact aA.1
  ·exact kV.G8 h (sp:=l) aA.2 k c e
def Aq:ai->List ai
 | .da=>[]
 | .aG a b=>a::Aq b
 | t=>[t]
def Ug:ai->ai
 | .bQ t=>t
 | t=>t
def Uh {ts Ui:ai} (e:Ui=ts) {a5:ai} (sh:ts.aq->A a5.aq):Ui.aq->A a5.aq:=e ▸ sh
def MS (pT:Nat) (c:m'):Option E0:=
 if h:((Aq c.ts).take pT).all ai.hs=true/\hb ((Aq c.ts).take pT++(((Aq c.ts).drop pT).map Ug).map .bQ)=c.ts then some ⟨(Aq c.ts).take pT,((Aq c.ts).drop pT).map Ug,c.a5,Uh h.2 c.sh⟩ else none
def Uj:List (Nat×Nat)->Nat->Option Nat
 | [],_=>none
 | p::l,k=>if k=p.1 then some p.2 else Uj l k
def x3 (T:ov) (cl:List (Nat×Nat)) (G9:List (Nat×w3)):eG where
 tB:=λk=>match o3 T k with
  | some c=>some ⟨c.ts,c.a5,c.sh⟩
  | none=>none
 tC:=λk=>match Uj cl k with
  | some pT=>match o3 T k with
   | some c=>MS pT c
   | none=>none
  | none=>none
 w4:=o3 G9
def DD:List (Nat×w3)->Prop
 | []=>True
 | p::l=>y5 Tryz.prog p.1 p.2/\DD l
theorem DD.mem:∀ {l:List (Nat×w3)},DD l->∀ p∈l,y5 Tryz.prog p.1 p.2
 | [],_,p,h=>by cases h
 | q::l,h,p,ar=>by
  rcases List.mem_cons.1 ar with rfl | ar
  ·exact h.1
  ·exact DD.mem h.2 p ar
theorem ags {k pT:Nat} {c:m'} {v:E0} (h:jk Tryz.prog k c.ts c.a5 c.sh) (e:MS pT c=some v):v.as.all ai.hs=true/\jk Tryz.prog k (hb (v.as++v.cs.map .bQ)) v.a5 v.sh:=by
 unfold MS at e;split at e
 ·rename_i du;cases e;refine ⟨du.1,?_⟩;have key:∀ (ts:ai) (e:ts=c.ts),jk Tryz.prog k ts c.a5 (Uh e c.sh):=by rintro _ rfl;exact h
  exact key _ du.2
 ·cases e
theorem kV.u {T:ov} (h:kV T) (cl:List (Nat×Nat)) (G9:List (Nat×w3)) (U:DD G9):qg Tryz.prog (x3 T cl G9) where
 tB:=λk v e=>by
  simp only [x3] at e;split at e
  ·rename_i c hc;cases e;exact (h.ok (k,c) (DC hc)).1
  ·cases e
 tC:=λk v e=>by
  simp only [x3] at e;split at e
  ·split at e
   ·rename_i c hc;exact ags (h.ok (k,c) (DC hc)).1 e
   ·cases e
  ·cases e
 w4:=λk v e=>U.mem (k,v) (DC e)
abbrev qM (fn:Func):Code:=fn.body.getD .skip
theorem G_ {fn:Func} (h:fn.body.isSome=true):fn.body=some (qM fn):=by
 unfold qM;cases e:fn.body with
 | none=>rw [e] at h;cases h
 | some b=>rfl
abbrev Ar (fn:Func) (ts a5:ai):Bool:=fn.body.isSome&&Dt fn (qM fn) ts a5
theorem DE {T:ov} (a2:kV T) {a1:eG} (iQ:qg Tryz.prog a1) {sp:List (Nat×iA)} (j':Ap a1 sp) {n:Nat} {fn:Func} (ax:Tryz.prog.funcs[n]?=some fn) {ts a5:ai} {sh:ts.aq->A a5.aq} {ann:dS} {S:ts.aq->A a5.aq} (aA:∀ x,A.bz (S x) (sh x)) (cm:Ar fn ts a5=true) (aw:∀ x,Ai a1 (qI uy) v_ (rQ T sp) fn (qM fn) ann ts a5 x=S x):jk Tryz.prog n ts a5 sh:=
 have cm:=Bool.and_eq_true _ _ ▸ cm
 afB G1 pS iQ G2 (a2.G8 j') ax (G_ cm.1) cm.2 λx=>A.le_trans (A.le_of_eq (aw x)) (aA x)
def mk {T:ov} (a2:kV T) {n:Nat} {fn:Func} (ax:Tryz.prog.funcs[n]?=some fn) (c:aU) (ann:dS) {S:c.ts.aq->A c.a5.aq} (aA:∀ x,A.bz (S x) (c.sh x)) (cm:Ar fn c.ts c.a5=true:=by kernel_rfl) (aw:∀ x,Ai ni (qI uy) v_ (rQ T []) fn (qM fn) ann c.ts c.a5 x=S x:=by intro x;kernel_rfl):kV ((n,c.eP)::T):=
 a2.cons ⟨DE a2 o2 (sp:=[]) trivial ax aA cm aw,λ_ _=>A.G5⟩
def o4 {T:ov} (a2:kV T) (cl:List (Nat×Nat)) {n:Nat} {fn:Func} (ax:Tryz.prog.funcs[n]?=some fn) (c:aU) (ann:dS) {S:c.ts.aq->A c.a5.aq} (aA:∀ x,A.bz (S x) (c.sh x)) (cm:Ar fn c.ts c.a5=true:=by kernel_rfl) (aw:∀ x,Ai (x3 T cl []) (qI uy) v_ (rQ T []) fn (qM fn) ann c.ts c.a5 x=S x:=by intro x;kernel_rfl):kV ((n,c.eP)::T):=
 a2.cons ⟨DE a2 (a2.u cl [] trivial) (sp:=[]) trivial ax aA cm aw,λ_ _=>A.G5⟩
def uB {T:ov} (a2:kV T) {a1:eG} (iQ:qg Tryz.prog a1) (sp:List (Nat×iA)) (j':Ap a1 sp) {n:Nat} {fn:Func} (ax:Tryz.prog.funcs[n]?=some fn) (c:aU) (ann:dS) {S:c.ts.aq->A c.a5.aq} (aA:∀ x,A.bz (S x) (c.sh x)) (cm:Ar fn c.ts c.a5=true:=by kernel_rfl) (aw:∀ x,Ai a1 (qI uy) v_ (rQ T sp) fn (qM fn) ann c.ts c.a5 x=S x:=by intro x;kernel_rfl):kV ((n,c.eP)::T):=
 a2.cons ⟨DE a2 iQ j' ax aA cm aw,λ_ _=>A.G5⟩
def agt {T:ov} (a2:kV T) {a1:eG} (iQ:qg Tryz.prog a1) (sp:List (Nat×iA)) (j':Ap a1 sp) {n:Nat} {fn:Func} (ax:Tryz.prog.funcs[n]?=some fn) (ts a5:ai) (sh:ts.aq->A a5.aq) (ann:dS) {S:ts.aq->A a5.aq} (aA:∀ x,A.bz (S x) (sh x)) (cm:Ar fn ts a5=true:=by kernel_rfl) (aw:∀ x,Ai a1 (qI uy) v_ (rQ T sp) fn (qM fn) ann ts a5 x=S x:=by intro x;kernel_rfl):kV ((n,⟨ts,a5,sh,false⟩)::T):=
 a2.cons ⟨DE a2 iQ j' ax aA cm aw,λh=>by cases h⟩
def mh {T:ov} (a2:kV T) (cl:List (Nat×Nat)) {n:Nat} {fn:Func} (ax:Tryz.prog.funcs[n]?=some fn) (c:aU) (pT:Nat) (ann:dS) {S:c.ts.aq->A c.a5.aq} (aA:∀ x,A.bz (S x) (c.sh x)) (hc:∀ x,c.pre x->Ds pT (pO c.ts x):=by intro x h;obtain ⟨f,ax,_⟩:=h;exact xZ ⟨trivial,uz ax⟩) (cm:Ar fn c.ts c.a5=true:=by kernel_rfl)
  (aw:∀ x,fZ (x3 T cl []) (qI uy) v_ (rQ T []) ann (qM fn) (GQ pT (pO c.ts x)) (v3 (qI uy) fn.results.toList c.a5)=S x:=by intro x;kernel_rfl):kV ((n,c.eP)::T):=
 have cm:=Bool.and_eq_true _ _ ▸ cm
 a2.cons ⟨afD (n:=pT) G1 pS (a2.u cl [] trivial) G2 (a2.G8 (sp:=[]) trivial) ax (G_ cm.1) cm.2 λx=>A.agq (hc x) (A.le_trans (A.le_of_eq (aw x)) (aA x)),λ_ _=>A.G5⟩
theorem jP {T:ov} (a2:kV T) {a1:eG} (sp:List (Nat×iA)) (j':Ap a1 sp) {n:Nat} {fn:Func} (ax:Tryz.prog.funcs[n]?=some fn) {c:fY} (ann:dS) {S:c.cM.aq->A c.bP.aq} (aA:∀ x,A.bz (S x) (c.sh x)) (cm:(fn.body.isSome&&GR fn (qM fn) c.lh c.lQ)=true:=by kernel_rfl) (aw:∀ x,Mn a1 (qI uy) v_ (rQ T sp) fn (qM fn) ann c.cM c.bP c.lQ x=S x:=by intro x;kernel_rfl):hj Tryz.prog a1 n c:=
 have cm:=Bool.and_eq_true _ _ ▸ cm
 TH G1 pS G2 (a2.G8 j') ax (G_ cm.1) cm.2 λx=>A.le_trans (A.le_of_eq (aw x)) (aA x)
theorem G' {a1:eG} {n:Nat} {fn:Func} (ax:Tryz.prog.funcs[n]?=some fn) {c:fY} (aA:∀ x,¬(c.sh x).dU) (cm:(fn.body.isSome&&GR fn (qM fn) c.lh c.lQ)=true:=by kernel_rfl):hj Tryz.prog a1 n c:=
 have cm:=Bool.and_eq_true _ _ ▸ cm
 TH G1 pS G2 (Ψ:=λ_=>none) (λk c h=>by cases h) (ann:=.fS) ax (G_ cm.1) cm.2 λx h=>absurd h (aA x)
end Go.Fer.y1
namespace Go.Fer
open A (ab)
set_option linter.unusedVariables false
abbrev aT:Type:=List (Int×Int×Int×Int)×List (List (Int×List Int×Int×Int))×Int×List (Int×Int×Int×Int)
abbrev fo:Type:=aT×List (List Int)
abbrev cC (l:List (Int×Int)) (a b:Int):List (Int×Int):=m4 (k:=.int .i64) (v:=.int .i64) l a b
abbrev wa (l:List ((Int×Int×Int)×Int)) (a:Int×Int×Int) (b:Int):List ((Int×Int×Int)×Int):=m4 (k:=.st (.aG (.int .i64) (.aG (.int .i64) (.int .i64)))) (v:=.int .i64) l a b
def MT (x:List (Int×Int×Int×Int)×List (List (Int×List Int×Int×Int))×Int×List (Int×Int×Int×Int)):A aT:=
 A.ah (bT (Add.add 0 (List.length x.1))) (A.ah (bT (Add.add 0 (List.length x.2.2.2))) (A.bind (A.loop (λ(G:Int×aT×Int×Int×List (Int×Int×Int×Int)×List (Int×Int×Int×Int)×List (List (Int×List Int×Int×Int))×Unit)=>letI f:=G.1<Int.ofNat (List.length G.2.1.2.1);letI e:=List.getD G.2.1.2.1 (Int.toNat G.1) [];letI d:=G.2.2.2;if decide f=true then A.bind (A.ah (0<=G.1/\f) (A.ah (bT (Add.add 0 (List.length e))) (A.bind (A.loop (λ(G:Int×Int×aT×Int×Int×List (Int×Int×Int×Int)×List (Int×Int×Int×Int)×List (Int×List Int×Int×Int)×List (List (Int×List Int×Int×Int))×Unit)=>letI i:=G.2.1;letI h:=G.2.2.2;letI b:=h.2.2;letI c:=i<Int.ofNat (List.length b.2.2.1);letI a:=List.getD b.2.2.1 (Int.toNat i) (0,[],0,0);if decide c=true then A.ah (0<=i/\c) (A.ah (bT (Add.add 0 (List.length a.2.1))) (A.ah (0<=i/\c) (A.pure (ab.next (G.1,IntKind.wrap .i64 (Add.add i 1),G.2.2.1,h.1,h.2.1,b.1,b.2.1,List.set b.2.2.1 (Int.toNat i) (a.1,[]++a.2.1,a.2.2),b.2.2.2.1,()))))) else A.bind (A.pure (ab.next (G.1,G.2.2.1,h.1,h.2.1,b.1,b.2.1,b.2.2.1,b.2.2.2.1,()))) λr=>A.pure (ab.done r)) (G.1,0,G.2.1,G.2.2.1,d.1,d.2.1,d.2.2.1,[]++e,d.2.2.2.1,())) (ab.bx (λ(G:Int×aT×Int×Int×List (Int×Int×Int×Int)×List (Int×Int×Int×Int)×List (Int×List Int×Int×Int)×List (List (Int×List Int×Int×Int))×Unit)=>letI g:=G.2.2.2.2;A.ah (bT (Add.add (List.length g.2.2.2.1) (Add.add 0 1))) (A.pure (ab.next (G.1,G.2.1,G.2.2.1,G.2.2.2.1,g.1,g.2.1,g.2.2.2.1++[g.2.2.1],())))))))) (ab.bx (λ(G:Int×aT×Int×Int×List (Int×Int×Int×Int)×List (Int×Int×Int×Int)×List (List (Int×List Int×Int×Int))×Unit)=>letI j:=G.2.2.2;A.pure (ab.next (IntKind.wrap .i64 (Add.add G.1 1),G.2.1,G.2.2.1,j.1,j.2.1,j.2.2.1,j.2.2.2.1,())))) else A.bind (A.pure (ab.next (G.2.2.1,d.1,d.2.1,d.2.2.1,d.2.2.2.1,()))) λr=>A.pure (ab.done r)) (0,x,0,x.2.2.1,[]++x.1,[]++x.2.2.2,[],())) (ab.bx (λ(G:Int×Int×List (Int×Int×Int×Int)×List (Int×Int×Int×Int)×List (List (Int×List Int×Int×Int))×Unit)=>A.pure (G.2.2.1,G.2.2.2.2.1,G.2.1,G.2.2.2.1)))))
def MU (x:List Int×Int):A Bool:=
 A.bind (A.loop (λ(G:List Int×Int×Int×Unit)=>letI b:=G.2.2.1;letI a:=b<Int.ofNat (List.length G.1);if decide a=true then A.ah (0<=b/\a) (if decide (List.getD G.1 (Int.toNat b) 0=G.2.1)=true then A.bind (A.bind (A.pure true) (λr=>A.pure (ab.done r))) λr=>A.pure (ab.done r) else A.pure (ab.next (G.1,G.2.1,IntKind.wrap .i64 (Add.add b 1),()))) else A.bind (A.pure (ab.next ())) λr=>A.pure (ab.done r)) (x.1,x.2,0,())) (ab.bx (λ(G:Unit)=>A.pure false))
def MV (lT:Int×Int×Int->A Bool) (x:aT×Int):A Bool:=
 A.bind (lT (x.2,0,IntKind.wrap .i64 (Int.ofNat (List.length x.1.1)-1))) λy=>A.pure y
def Ha (lT:Int×Int×Int->A Bool) (agu:aT×Int->A Bool) (x:aT×Int×Int):A Bool:=
 A.bind (agu (x.1,x.2.1)) λy=>A.ah (y=true->(y=true/\y=true)/\(0<=x.2.1/\x.2.1<Int.ofNat (List.length x.1.2.1))/\True) (A.bind (cJ y (lT (x.2.2,0,IntKind.wrap .i64 (Int.ofNat (List.length (List.getD x.1.2.1 (Int.toNat x.2.1) []))-1))) false) (λcu=>A.pure (y&&cu)))
def MW (agv:List (Int×Int×Int×Int)×List (List (Int×List Int×Int×Int))×Int×List (Int×Int×Int×Int)->A Bool) (x:List (Int×Int×Int×Int)×List (List (Int×List Int×Int×Int))×Int×List (Int×Int×Int×Int)):A Int:=
 A.bind (agv x) λy=>if (!y)=true then A.pure 70 else A.bind (A.loop (λ(G:Int×aT×Unit)=>if decide (G.1<Int.ofNat (List.length G.2.1.2.2.2))=true then A.bind (A.loop (λ(G:Int×Int×aT×Unit)=>letI d:=G.2.2.1.2.2.2;letI c:=Int.ofNat (List.length d);letI b:=List.getD d (Int.toNat G.1) (0,0,0,0);letI a:=List.getD d (Int.toNat G.2.1) (0,0,0,0);if decide (G.2.1<G.1)=true then A.ah (0<=G.2.1/\G.2.1<c) (A.ah (0<=G.1/\G.1<c) (if (decide (a.1=b.1)&&decide (a.2.1=b.2.1)&&decide (a.2.2.1=b.2.2.1)&&decide (a.2.2.2≠b.2.2.2))=true then A.bind (A.bind (A.bind (A.bind (A.pure 71) (λr=>A.pure (ab.done r))) (λr=>A.pure (ab.done r))) (λr=>A.pure (ab.done r))) λr=>A.pure (ab.done r) else A.pure (ab.next (G.1,IntKind.wrap .i64 (Add.add G.2.1 1),G.2.2.1,())))) else A.bind (A.pure (ab.next (G.1,G.2.2.1,()))) λr=>A.pure (ab.done r)) (G.1,0,G.2.1,())) (ab.bx (λ(G:Int×aT×Unit)=>A.pure (ab.next (IntKind.wrap .i64 (Add.add G.1 1),G.2.1,())))) else A.bind (A.pure (ab.next ())) λr=>A.pure (ab.done r)) (0,x,())) (ab.bx (λ(G:Unit)=>A.pure 0))
def MX (Uk:aT×Int×Int×Int×Int->A Bool) (lT:Int×Int×Int->A Bool) (x:aT×Int×Int):A Bool:=
 A.bind (A.loop (λ(G:Int×Int×Int×aT×Unit)=>letI i:=G.2.2.1;letI f:=G.2.2.2.1;letI e:=i<Int.ofNat (List.length f.2.2.2);letI b:=List.getD f.2.2.2 (Int.toNat i) (0,0,0,0);letI h:=(f,G.1,G.2.1,b.2.1,b.2.2.1);letI a:=decide (b.1=G.1)=true;letI g:=a->a/\True/\True;if decide e=true then A.ah (0<=i/\e) (A.ah g (A.ah g (A.ah (a->(a/\a/\a/\a/\a/\True)/\(Uk h).dU/\True) (A.ah g (A.ah (a->(a/\True)/\True/\True) (A.ah (a->(a/\a)/\True/\True) (A.ah (True/\(a->a)) (if (decide (b.1=G.1)&&!(decide (A.val (Uk h) false=decide (b.2.2.2=1))))=true then A.bind (A.bind (A.pure false) (λr=>A.pure (ab.done r))) λr=>A.pure (ab.done r) else A.pure (ab.next (G.1,G.2.1,IntKind.wrap .i64 (Add.add i 1),f,())))))))))) else A.bind (A.pure (ab.next (G.1,G.2.1,f,()))) λr=>A.pure (ab.done r)) (x.2.1,x.2.2,0,x.1,())) (ab.bx (λ(G:Int×Int×aT×Unit)=>letI d:=0<=G.1/\G.1<Int.ofNat (List.length G.2.2.1.1);letI c:=(G.2.1,(List.getD G.2.2.1.1 (Int.toNat G.1) (0,0,0,0)).2.2);A.ah d (A.ah d (A.ah (lT c).dU (A.pure (A.val (lT c) false))))))
def MY (As:List Int×Int->A Bool) (lT:Int×Int×Int->A Bool) (x:aT×Int×Int×Int×Int):A Bool:=
 letI e:=x.2.2.2;letI c:=List.getD x.1.2.1 (Int.toNat e.1) [];letI b:=List.getD x.1.1 (Int.toNat x.2.1) (0,0,0,0);letI a:=List.getD c (Int.toNat e.2) (0,[],0,0);letI d:=decide (b.1=a.1);A.ah (0<=x.2.1/\x.2.1<Int.ofNat (List.length x.1.1)) (A.ah (0<=e.1/\e.1<Int.ofNat (List.length x.1.2.1)) (A.ah (0<=e.2/\e.2<Int.ofNat (List.length c)) (A.bind (cJ d (As (a.2.1,b.2.1)) false) (λy=>A.bind (cJ (d&&y) (lT (x.2.2.1,a.2.2.1,IntKind.wrap .i64 (Add.add a.2.2.2 x.1.2.2.1))) false) λcu=>A.pure (d&&y&&cu)))))
def MZ (x:List Int):A Bool:=
 A.bind (A.loop (λ(G:List Int×Int×Unit)=>letI c:=G.2.1;letI b:=IntKind.wrap .i64 (c-1);letI a:=Int.ofNat (List.length G.1);if decide (c<a)=true then A.ah (0<=c/\c<a) (A.ah (0<=b/\b<a) (if decide (List.getD G.1 (Int.toNat c) 0<=List.getD G.1 (Int.toNat b) 0)=true then A.bind (A.bind (A.pure false) (λr=>A.pure (ab.done r))) λr=>A.pure (ab.done r) else A.pure (ab.next (G.1,IntKind.wrap .i64 (Add.add c 1),())))) else A.bind (A.pure (ab.next ())) λr=>A.pure (ab.done r)) (x,1,())) (ab.bx (λ(G:Unit)=>A.pure true))
def Ul (agw:aT×Bool->A Int) (x:List (Int×Int×Int×Int)×List (List (Int×List Int×Int×Int))×Int×List (Int×Int×Int×Int)):A Int:=
 A.bind (agw (x,true)) λy=>A.pure y
def Um (atf:Int->A Int) (agx:Int->A Int) (x:Int):A Int:=
 A.bind (agx x) λy=>A.pure y
def agy (x:Int×Int×Int):A Bool:=
 A.pure (decide (x.1>=x.2.1)&&decide (x.1<=x.2.2))
def M0 (lT:Int×Int×Int->A Bool) (x:aT×Int):A Bool:=
 A.bind (lT (x.2,0,IntKind.wrap .i64 (Int.ofNat (List.length x.1.2.1)-1))) λy=>A.pure y
def M1 (agz:aT×Int->A Bool) (agA:aT×Int×Int->A Bool) (lT:Int×Int×Int->A Bool) (M2:Int×Int->A Bool) (agB:Int×List Int×Int×Int->A Bool) (x:List (Int×Int×Int×Int)×List (List (Int×List Int×Int×Int))×Int×List (Int×Int×Int×Int)):A Bool:=
 letI c:=decide (Int.ofNat (List.length x.1) > 10)||decide (Int.ofNat (List.length x.2.1) > 6);A.bind (cJ (!c) (lT (x.2.2.1,0,99)) false) λy=>if (c||!y||decide (Int.ofNat (List.length x.2.2.2) > 30))=true then A.pure false else A.bind (A.loop (λ(G:Int×aT×Unit)=>letI h:=G.1<Int.ofNat (List.length G.2.1.1);letI b:=List.getD G.2.1.1 (Int.toNat G.1) (0,0,0,0);if decide h=true then A.ah (0<=G.1/\h) (A.bind (lT (b.1,0,9)) (λy=>A.bind (cJ (!(!y)) (lT (b.2.1,0,9)) false) λcu=>A.bind (cJ (!(!y||!cu)) (M2 b.2.2) false) λet=>if (!y||!cu||!et)=true then A.bind (A.bind (A.pure false) (λr=>A.pure (ab.done r))) λr=>A.pure (ab.done r) else A.pure (ab.next (IntKind.wrap .i64 (Add.add G.1 1),G.2.1,())))) else A.bind (A.pure (ab.next (G.2.1,()))) λr=>A.pure (ab.done r)) (0,x,())) (ab.bx (λ(G:aT×Unit)=>A.bind (A.loop (λ(G:Int×aT×Unit)=>letI g:=G.1<Int.ofNat (List.length G.2.1.2.1);if decide g=true then A.bind (A.ah (0<=G.1/\g) (if decide (Int.ofNat (List.length (List.getD G.2.1.2.1 (Int.toNat G.1) [])) > 4)=true then A.bind (A.bind (A.bind (A.pure false) (λr=>A.pure (ab.done r))) (λr=>A.pure (ab.done r))) λr=>A.pure (ab.done r) else A.loop (λ(G:Int×Int×aT×Unit)=>letI j:=G.2.2.1;letI e:=0<=G.1/\G.1<Int.ofNat (List.length j.2.1);letI d:=List.getD j.2.1 (Int.toNat G.1) [];letI i:=G.2.1<Int.ofNat (List.length d);A.ah e (if decide i=true then A.ah e (A.ah (0<=G.2.1/\i) (A.bind (agB (List.getD d (Int.toNat G.2.1) (0,[],0,0))) (λy=>if (!y)=true then A.bind (A.bind (A.bind (A.bind (A.pure false) (λr=>A.pure (ab.done r))) (λr=>A.pure (ab.done r))) (λr=>A.pure (ab.done r))) λr=>A.pure (ab.done r) else A.pure (ab.next (G.1,IntKind.wrap .i64 (Add.add G.2.1 1),j,()))))) else A.bind (A.pure (ab.next (G.1,j,()))) λr=>A.pure (ab.done r))) (G.1,0,G.2.1,()))) (ab.bx (λ(G:Int×aT×Unit)=>A.pure (ab.next (IntKind.wrap .i64 (Add.add G.1 1),G.2.1,())))) else A.bind (A.pure (ab.next (G.2.1,()))) λr=>A.pure (ab.done r)) (0,G.1,())) (ab.bx (λ(G:aT×Unit)=>A.bind (A.loop (λ(G:Int×aT×Unit)=>letI f:=G.1<Int.ofNat (List.length G.2.1.2.2.2);letI a:=List.getD G.2.1.2.2.2 (Int.toNat G.1) (0,0,0,0);if decide f=true then A.ah (0<=G.1/\f) (A.bind (agz (G.2.1,a.1)) (λy=>A.bind (cJ (!(!y)) (agA (G.2.1,a.2.1,a.2.2.1)) false) λcu=>A.bind (cJ (!(!y||!cu)) (lT (a.2.2.2,0,1)) false) λet=>if (!y||!cu||!et)=true then A.bind (A.bind (A.pure false) (λr=>A.pure (ab.done r))) λr=>A.pure (ab.done r) else A.pure (ab.next (IntKind.wrap .i64 (Add.add G.1 1),G.2.1,())))) else A.bind (A.pure (ab.next ())) λr=>A.pure (ab.done r)) (0,G.1,())) (ab.bx (λ(G:Unit)=>A.pure true))))))
def M3 (DF:List (Int×Int×Int×Int)×List (List (Int×List Int×Int×Int))×Int×List (Int×Int×Int×Int)->A Int) (agC:aT×Int->A (List Int)) (x:aT×Bool):A Int:=
 A.bind (DF x.1) λy=>if decide (y≠0)=true then A.pure y else if (!x.2)=true then A.pure 1 else A.bind (A.loop (λ(G:Int×aT×Unit)=>if decide (G.1<Int.ofNat (List.length G.2.1.1))=true then A.bind (agC (G.2.1,G.1)) λy=>if decide (Int.ofNat (List.length y)=0)=true then A.bind (A.bind (A.pure 3) (λr=>A.pure (ab.done r))) λr=>A.pure (ab.done r) else A.pure (ab.next (IntKind.wrap .i64 (Add.add G.1 1),G.2.1,())) else A.bind (A.pure (ab.next ())) λr=>A.pure (ab.done r)) (0,x.1,())) (ab.bx (λ(G:Unit)=>A.pure 0))
def M4 (agD:aT×Int×Int->A Bool) (x:aT×Int):A (List Int):=
 A.bind (A.ah (0<=x.2/\x.2<Int.ofNat (List.length x.1.1)) (A.loop (λ(G:Int×Int×aT×List Int×Unit)=>letI a:=G.2.2;A.ah (0<=G.1/\G.1<Int.ofNat (List.length a.1.1)) (if decide (G.2.1<=(List.getD a.1.1 (Int.toNat G.1) (0,0,0,0)).2.2.2)=true then A.bind (A.bind (agD (a.1,G.1,G.2.1)) (λy=>if y=true then A.ah (bT (Add.add (List.length a.2.1) (Add.add 0 1))) (A.pure (ab.next (G.1,G.2.1,a.1,a.2.1++[G.2.1],()))) else A.pure (ab.next (G.1,G.2.1,a.1,a.2.1,())))) (ab.bx (λ(G:Int×Int×aT×List Int×Unit)=>A.pure (ab.next (G.1,IntKind.wrap .i64 (Add.add G.2.1 1),G.2.2.1,G.2.2.2.1,())))) else A.bind (A.pure (ab.next (a.2.1,()))) λr=>A.pure (ab.done r))) (x.2,(List.getD x.1.1 (Int.toNat x.2) (0,0,0,0)).2.2.1,x.1,[],()))) (ab.bx (λ(G:List Int×Unit)=>A.pure G.1))
def M5 (x:Int):A Int:=
 A.bind (A.ah ((0:Int)<=1) (A.pure (ab.next (IntKind.wrap .u64 (Add.add (hO .u64 (gL .u64 x 1) 6148914691236517205) (hO .u64 x 6148914691236517205)),())))) (ab.bx (λ(G:Int×Unit)=>A.bind (A.ah ((0:Int)<=2) (A.pure (ab.next (IntKind.wrap .u64 (Add.add (hO .u64 (gL .u64 G.1 2) 3689348814741910323) (hO .u64 G.1 3689348814741910323)),())))) (ab.bx (λ(G:Int×Unit)=>A.bind (A.ah ((0:Int)<=4) (A.pure (ab.next (hO .u64 (IntKind.wrap .u64 (Add.add (gL .u64 G.1 4) G.1)) 1085102592571150095,())))) (ab.bx (λ(G:Int×Unit)=>A.bind (A.ah ((0:Int)<=8) (A.pure (ab.next (IntKind.wrap .u64 (Add.add G.1 (gL .u64 G.1 8)),())))) (ab.bx (λ(G:Int×Unit)=>A.bind (A.ah ((0:Int)<=16) (A.pure (ab.next (IntKind.wrap .u64 (Add.add G.1 (gL .u64 G.1 16)),())))) (ab.bx (λ(G:Int×Unit)=>A.bind (A.ah ((0:Int)<=32) (A.pure (ab.next (IntKind.wrap .u64 (Add.add G.1 (gL .u64 G.1 32)),())))) (ab.bx (λ(G:Int×Unit)=>A.pure (hO .i64 (IntKind.wrap .i64 G.1) 127)))))))))))))
def M6 (lT:Int×Int×Int->A Bool) (x:Int×Int):A Bool:=
 A.bind (lT (x.1,0,x.2)) λy=>A.pure (y&&decide (x.2<=999))
def M7 (agE:List Int->A Bool) (lT:Int×Int×Int->A Bool) (M2:Int×Int->A Bool) (x:Int×List Int×Int×Int):A Bool:=
 A.bind (A.loop (λ(G:Int×(Int×List Int×Int×Int)×Unit)=>letI b:=G.1<Int.ofNat (List.length G.2.1.2.1);if decide b=true then A.ah (0<=G.1/\b) (A.bind (lT (List.getD G.2.1.2.1 (Int.toNat G.1) 0,0,9)) (λy=>if (!y)=true then A.bind (A.bind (A.pure false) (λr=>A.pure (ab.done r))) λr=>A.pure (ab.done r) else A.pure (ab.next (IntKind.wrap .i64 (Add.add G.1 1),G.2.1,())))) else A.bind (A.pure (ab.next (G.2.1,()))) λr=>A.pure (ab.done r)) (0,x,())) (ab.bx (λ(G:(Int×List Int×Int×Int)×Unit)=>A.bind (lT (G.1.1,0,9)) λy=>letI a:=y&&decide (Int.ofNat (List.length G.1.2.1)<=4);A.bind (cJ a (agE G.1.2.1) false) λcu=>A.bind (cJ (a&&cu) (M2 G.1.2.2) false) λet=>A.pure (a&&cu&&et)))
def Un (atg:Int×Int->A (Int×Int)) (agF:Int×Int->A (Int×Int)) (x:Int×Int):A (Int×Int):=
 A.bind (agF x) λy=>A.pure y
def Uo (agG:List Int×Int->A Int) (x:List Int×Int):A Bool:=
 A.bind (agG x) λy=>A.pure (decide (y>=0))
def Up (x:Int×Int):A (Int×Int):=
 A.ah ((0:Int)<=32) (A.ah ((0:Int)<=32) (A.ah ((0:Int)<=32) (A.ah ((0:Int)<=32) (A.ah ((0:Int)<=32) (A.pure (IntKind.wrap .u64 (Add.add (IntKind.wrap .u64 (Add.add (IntKind.wrap .u64 (gL .u64 x.1 32*gL .u64 x.2 32)) (gL .u64 (IntKind.wrap .u64 (Add.add (IntKind.wrap .u64 (gL .u64 x.1 32*hO .u64 x.2 4294967295)) (gL .u64 (IntKind.wrap .u64 (hO .u64 x.1 4294967295*hO .u64 x.2 4294967295)) 32))) 32))) (gL .u64 (IntKind.wrap .u64 (Add.add (hO .u64 (IntKind.wrap .u64 (Add.add (IntKind.wrap .u64 (gL .u64 x.1 32*hO .u64 x.2 4294967295)) (gL .u64 (IntKind.wrap .u64 (hO .u64 x.1 4294967295*hO .u64 x.2 4294967295)) 32))) 4294967295) (IntKind.wrap .u64 (hO .u64 x.1 4294967295*gL .u64 x.2 32)))) 32)),IntKind.wrap .u64 (x.1*x.2)))))))
def M8 (x:List Int×Int):A Int:=
 A.bind (A.loop (λ(G:List Int×Int×Int×Int×Unit)=>letI a:=G.2.2.2.1;if decide (a<G.2.2.1)=true then A.ah (0<=a/\a<Int.ofNat (List.length G.1)) (if decide (G.2.1=List.getD G.1 (Int.toNat a) 0)=true then A.bind (A.bind (A.pure a) (λr=>A.pure (ab.done r))) λr=>A.pure (ab.done r) else A.pure (ab.next (G.1,G.2.1,G.2.2.1,IntKind.wrap .i64 (Add.add a 1),()))) else A.bind (A.pure (ab.next ())) λr=>A.pure (ab.done r)) (x.1,x.2,Int.ofNat (List.length x.1),0,())) (ab.bx (λ(G:Unit)=>A.pure (-1)))
def agH (uC:Int×Int->A (Int×Int)) (x:List Int×Int×Unit):A (List Int×Unit):=
 A.bind (if decide (x.2.1<0)=true then A.ah False (A.ah False (A.pure (ab.next (x.1,x.2.1,())))) else A.pure (ab.next (x.1,x.2.1,()))) (ab.bx (λ(G:List Int×Int×Unit)=>A.bind (uC (IntKind.wrap .u64 (Int.ofNat (List.length G.1)),IntKind.wrap .u64 G.2.1)) λy=>A.bind (if (decide (y.1 > 0)||decide (y.2 > 9223372036854775807))=true then A.ah False (A.ah False (A.pure (ab.next (G.1,y.2,())))) else A.pure (ab.next (G.1,y.2,()))) (ab.bx (λ(G:List Int×Int×Unit)=>letI b:=IntKind.wrap .i64 G.2.1;letI f:=Int.toNat b;letI e:=List.take (List.length (List.replicate f (0:Int))-0) G.1;A.ah (0<=b/\b=b/\bT f) (A.ah True (A.bind (A.loop (λ(G:Int×List Int×Unit)=>letI g:=Int.toNat G.1;letI c:=List.take g G.2.1;letI a:=Int.ofNat (List.length G.2.1);letI d:=Int.toNat a-g;if decide (G.1<a)=true then A.ah (0<=G.1/\G.1<=a/\a<=a) (A.ah ((0:Int)<=0/\0<=G.1/\G.1<=a) (A.ah True (A.pure (ab.next (IntKind.wrap .i64 (Add.add G.1 (Int.ofNat (if d<=List.length c then d else List.length c))),c++List.take d c++List.drop (Add.add g (List.length (List.take d c))) G.2.1,()))))) else A.bind (A.pure (ab.next (G.2.1,()))) λr=>A.pure (ab.done r)) (Int.ofNat (if List.length (List.replicate f (0:Int))-0<=List.length G.1 then List.length (List.replicate f (0:Int))-0 else List.length G.1),[]++e++List.drop (Add.add 0 (List.length e)) (List.replicate f (0:Int)),())) (ab.bx (λ(G:List Int×Unit)=>A.pure (G.1,())))))))))
end Go.Fer
namespace Go.Fer
open A (ab)
set_option linter.unusedVariables false
def M9 (agI:List (Int×Int×Int×Int)×List (List (Int×List Int×Int×Int))×Int×List (Int×Int×Int×Int)->A (List Int×Int)) (wb:Int->A Int) (x:List (Int×Int×Int×Int)×List (List (Int×List Int×Int×Int))×Int×List (Int×Int×Int×Int)):A (Int×Int):=
 A.bind (agI x) λy=>if decide (y.2≠0)=true then A.pure (0,y.2) else A.ah ((0:Int)<=0/\0<Int.ofNat (List.length y.1)) (A.bind (wb (List.getD y.1 (Int.toNat 0) 0)) (λy=>A.pure (y,0)))
def Uq (agJ:aT×List Int×List (Int×Int)->A (Option (List (List Int)×List Int×List Int)×Int)) (agK:Option (List (List Int)×List Int×List Int)×Int->A (List Int)) (x:aT×List Int×List (Int×Int)):A (Int×Int):=
 A.bind (agJ x) λy=>if decide (y.2≠0)=true then A.pure (0,y.2) else A.bind (agK (y.1,-1)) λy=>A.pure (IntKind.wrap .i64 (Int.ofNat (List.length x.2.2)-Int.ofNat (List.length y)),0)
def M_ (agL:List (Int×Int×Int×Int)×List (List (Int×List Int×Int×Int))×Int×List (Int×Int×Int×Int)->A Bool) (x:List (Int×Int×Int×Int)×List (List (Int×List Int×Int×Int))×Int×List (Int×Int×Int×Int)):A Int:=
 A.bind (agL x) λy=>if (!y)=true then A.pure 70 else A.bind (A.loop (λ(G:List (Int×Int×Int×Int)×Int×Int×List ((Int×Int×Int)×Int)×Unit)=>letI b:=G.2.2;letI a:=List.getD G.1 (Int.toNat b.1) (0,0,0,0);if decide (b.1<G.2.1)=true then A.ah (0<=b.1/\b.1<Int.ofNat (List.length G.1)) (if (Option.isSome (Option.map (λx=>x.2) (List.find? (λp=>decide (a.1=p.1.1)&&(decide (a.2.1=p.1.2.1)&&decide (a.2.2.1=p.1.2.2))) b.2.1))&&decide (Option.getD (Option.map (λx=>x.2) (List.find? (λp=>decide (a.1=p.1.1)&&(decide (a.2.1=p.1.2.1)&&decide (a.2.2.1=p.1.2.2))) b.2.1)) 0≠a.2.2.2))=true then A.bind (A.bind (A.pure 71) (λr=>A.pure (ab.done r))) λr=>A.pure (ab.done r) else A.pure (ab.next (G.1,G.2.1,IntKind.wrap .i64 (Add.add b.1 1),wa b.2.1 (a.1,a.2.1,a.2.2.1) a.2.2.2,()))) else A.bind (A.pure (ab.next ())) λr=>A.pure (ab.done r)) (x.2.2.2,Int.ofNat (List.length x.2.2.2),0,[],())) (ab.bx (λ(G:Unit)=>A.pure 0))
def M' (lo:aT×Bool->A (Option fo×Int)) (jg:aT×Int->A Bool) (x:aT×Int):A ((Int×Int)×Int):=
 letI a:=Int.toNat x.2;A.ah (jg x).dU (A.ah (lo (x.1,A.val (jg x) false)).dU (if decide ((A.val (lo (x.1,A.val (jg x) false)) (none,0)).2≠0)=true then A.pure ((0,0),(A.val (lo (x.1,A.val (jg x) false)) (none,0)).2) else A.ah (Option.isSome (A.val (lo (x.1,A.val (jg x) false)) (none,0)).1=true) (A.ah (0<=x.2/\x.2<Int.ofNat (List.length (Option.getD (A.val (lo (x.1,A.val (jg x) false)) (none,0)).1 (([],[],0,[]),[])).2)) (A.ah ((0:Int)<=0/\0<Int.ofNat (List.length (List.getD (Option.getD (A.val (lo (x.1,A.val (jg x) false)) (none,0)).1 (([],[],0,[]),[])).2 a []))) (A.ah (0<=IntKind.wrap .i64 (Int.ofNat (List.length (List.getD (Option.getD (A.val (lo (x.1,A.val (jg x) false)) (none,0)).1 (([],[],0,[]),[])).2 a []))-1)/\IntKind.wrap .i64 (Int.ofNat (List.length (List.getD (Option.getD (A.val (lo (x.1,A.val (jg x) false)) (none,0)).1 (([],[],0,[]),[])).2 a []))-1)<Int.ofNat (List.length (List.getD (Option.getD (A.val (lo (x.1,A.val (jg x) false)) (none,0)).1 (([],[],0,[]),[])).2 a []))) (A.pure ((List.getD (List.getD (Option.getD (A.val (lo (x.1,A.val (jg x) false)) (none,0)).1 (([],[],0,[]),[])).2 a []) (Int.toNat 0) 0,List.getD (List.getD (Option.getD (A.val (lo (x.1,A.val (jg x) false)) (none,0)).1 (([],[],0,[]),[])).2 a []) (Int.toNat (IntKind.wrap .i64 (Int.ofNat (List.length (List.getD (Option.getD (A.val (lo (x.1,A.val (jg x) false)) (none,0)).1 (([],[],0,[]),[])).2 a []))-1))) 0),0)))))))
def Na (lo:aT×Bool->A (Option fo×Int)) (jg:aT×Int->A Bool) (uD:aT×Int×Int->A Bool) (Nb:Option fo×Int×Int×Int->A Int) (x:aT×Int×Int×Int):A (Int×Int):=
 letI b:=(x.1,x.2.2);letI a:=(x.1,x.2.1);A.ah (jg a).dU (A.ah (A.val (jg a) false=true->(A.val (jg a) false=true/\A.val (jg a) false=true/\A.val (jg a) false=true/\True)/\(uD b).dU/\True) (A.ah (True/\(A.val (jg a) false=true->A.val (jg a) false=true)) (A.ah (lo (x.1,A.val (jg a) false&&A.val (uD b) false)).dU (if decide ((A.val (lo (x.1,A.val (jg a) false&&A.val (uD b) false)) (none,0)).2≠0)=true then A.pure (0,(A.val (lo (x.1,A.val (jg a) false&&A.val (uD b) false)) (none,0)).2) else A.bind (Nb ((A.val (lo (x.1,A.val (jg a) false&&A.val (uD b) false)) (none,0)).1,x.2)) λy=>A.pure (y,0)))))
def Nc (wb:Int->A Int) (lo:aT×Bool->A (Option fo×Int)) (agM:Option fo->Prop) (agN:Option fo->List Int) (x:List (Int×Int×Int×Int)×List (List (Int×List Int×Int×Int))×Int×List (Int×Int×Int×Int)):A (List Int×Int):=
 A.bind (lo (x,true)) λy=>if decide (y.2≠0)=true then A.pure ([],y.2) else A.bind (A.ah (agM y.1) (A.bind (ju (λ(G:List Int×Unit) (y:Int)=>letI c:=List.getD G.1 (Int.toNat 0) 0;letI b:=Int.ofNat (List.length G.1);letI a:=decide (b > 0)=true;A.bind (A.ah (a->(a/\True)/\(wb y).dU/\True) (A.ah (a->(a/\True)/\((0:Int)<=0/\0<b)/\True) (A.ah (a->a/\True/\True) (A.ah (a->(a/\True)/\(wb c).dU/\True) (A.ah (a->(a/\a)/\True/\True) (A.ah (True/\(a->a)) (if (decide (b > 0)&&decide (A.val (wb y) 0 > A.val (wb c) 0))=true then A.pure (dc.exit 0,G.1,()) else A.ah (bT (Add.add (List.length G.1) (Add.add 0 1))) (A.pure (dc.normal,G.1++[y],()))))))))) λp=>A.pure (p.1,p.2.1,())) (agN y.1) ([],())) (λp=>qy (A.pure (ab.next (p.2.1,()))) (λid=>if id=0 then A.pure (ab.next (p.2.1,())) else A.bind A.fail λr=>A.pure (ab.done r)) (A.bind A.fail (λr=>A.pure (ab.done r))) p.1))) (ab.bx (λ(G:List Int×Unit)=>if decide (Int.ofNat (List.length G.1)=0)=true then A.pure ([],3) else A.pure (G.1,0)))
def Hb (x:Int):A (List Int):=
 A.bind (A.loop (λ(G:Int×Int×List Int×Unit)=>letI b:=G.2.2.1;letI a:=G.2.1;if decide (a<10)=true then A.bind (A.ah (0<=a) (if decide (hO .u64 (gL .u64 G.1 a) (1:Int)=1)=true then A.ah (bT (Add.add (List.length b) (Add.add 0 1))) (A.pure (ab.next (G.1,a,b++[a],()))) else A.pure (ab.next (G.1,a,b,())))) (ab.bx (λ(G:Int×Int×List Int×Unit)=>A.pure (ab.next (G.1,IntKind.wrap .i64 (Add.add G.2.1 1),G.2.2.1,())))) else A.bind (A.pure (ab.next (b,()))) λr=>A.pure (ab.done r)) (x,0,[],())) (ab.bx (λ(G:List Int×Unit)=>A.pure G.1))
def Nd (lo:aT×Bool->A (Option fo×Int)) (Nb:Option fo×Int×Int×Int->A Int) (Nf:List Int×(Int->A Bool)->A Bool) (agO:List (Int×Int)×(Int×Int->A Bool)->A Bool) (agP:List Int×Int×Unit->A (List Int×Unit)) (Ng:Int×List (List Int)×List Int×List Int×List (Int×Int)×Unit->A (Bool×List (List Int)×List Int×List Int×List (Int×Int)×Unit)) (agQ:(Int×Int)×Option aT->A Bool) (agR:Int->A Bool) (x:aT×List Int×List (Int×Int)):A (Option (List (List Int)×List Int×List Int)×Int):=
 letI d:=Int.ofNat (List.length x.2.2);letI b:=decide (Int.ofNat (List.length x.2.1)=Int.ofNat (List.length x.1.1));A.bind (cJ b (Nf (x.2.1,agR)) false) λy=>letI j:=b&&y&&decide (d<=10);A.bind (cJ j (agO (x.2.2,λiF=>agQ (iF,some x.1))) false) λcu=>A.bind (lo (x.1,j&&cu)) λy=>if decide (y.2≠0)=true then A.pure (none,y.2) else A.bind (agP ([-1],d,())) λet=>A.bind (A.loop (λ(G:List (Int×Int)×Option fo×List (Int×Int)×Int×Int×aT×List Int×List (List Int)×List Int×Unit)=>letI k:=G.2.2;letI c:=k.2.2;if decide (c.1<k.2.1)=true then A.bind (A.ah (0<=c.1/\c.1<Int.ofNat (List.length k.1)) (A.bind (A.loop (λ(G:List (Int×Int)×Option fo×List (Int×Int)×Int×Int×Int×Int×aT×(Int×Int)×List Int×List Int×List (List Int)×List Int×Unit)=>letI g:=G.2.2.2;letI a:=g.2.2.2;letI f:=a.2.2.2;if decide (a.1<g.2.2.1)=true then A.bind (A.bind (Nb (G.2.1,a.1,a.2.2.1)) (λy=>if decide (y=1)=true then A.ah (bT (Add.add (List.length f.1) (Add.add 0 1))) (A.pure (ab.next (G.1,G.2.1,G.2.2.1,g.1,g.2.1,g.2.2.1,a.1,a.2.1,a.2.2.1,f.1++[a.1],f.2.1,f.2.2.1,f.2.2.2.1,()))) else A.pure (ab.next (G.1,G.2.1,G.2.2.1,g.1,g.2.1,g.2.2.1,a.1,a.2.1,a.2.2.1,f.1,f.2.1,f.2.2.1,f.2.2.2.1,())))) (ab.bx (λ(G:List (Int×Int)×Option fo×List (Int×Int)×Int×Int×Int×Int×aT×(Int×Int)×List Int×List Int×List (List Int)×List Int×Unit)=>letI m:=G.2.2.2;letI e:=m.2.2.2;A.pure (ab.next (G.1,G.2.1,G.2.2.1,m.1,m.2.1,m.2.2.1,IntKind.wrap .i64 (Add.add e.1 1),e.2.1,e.2.2.1,e.2.2.2.1,e.2.2.2.2.1,e.2.2.2.2.2.1,e.2.2.2.2.2.2.1,())))) else A.bind (A.pure (ab.next (G.1,G.2.1,G.2.2.1,g.1,g.2.1,a.2.1,f.1,f.2.1,f.2.2.1,f.2.2.2.1,()))) λr=>A.pure (ab.done r)) (G.1,G.2.1,k.1,k.2.1,c.1,Int.ofNat (List.length c.2.1.1),0,c.2.1,List.getD k.1 (Int.toNat c.1) (0,0),[],c.2.2.1,c.2.2.2.1,c.2.2.2.2.1,())) (ab.bx (λ(G:List (Int×Int)×Option fo×List (Int×Int)×Int×Int×aT×List Int×List Int×List (List Int)×List Int×Unit)=>letI h:=G.2.2.2.2.2;A.ah True (A.ah (bT (Add.add (List.length h.2.2.2.1) (Add.add 0 1))) (A.ah True (A.pure (ab.next (G.1,G.2.1,G.2.2.1,G.2.2.2.1,G.2.2.2.2.1,h.1,h.2.2.1,h.2.2.2.1++[h.2.1],h.2.2.2.2.1,()))))))))) (ab.bx (λ(G:List (Int×Int)×Option fo×List (Int×Int)×Int×Int×aT×List Int×List (List Int)×List Int×Unit)=>letI i:=G.2.2.2.2;A.pure (ab.next (G.1,G.2.1,G.2.2.1,G.2.2.2.1,IntKind.wrap .i64 (Add.add i.1 1),i.2.1,i.2.2.1,i.2.2.2.1,i.2.2.2.2.1,())))) else A.bind (A.pure (ab.next (G.1,c.2.2.1,c.2.2.2.1,c.2.2.2.2.1,()))) λr=>A.pure (ab.done r)) (x.2.2,y.1,x.2.2,d,0,x.1,x.2.1,[],et.1,())) (ab.bx (λ(G:List (Int×Int)×List Int×List (List Int)×List Int×Unit)=>A.bind (A.loop (λ(G:Int×Int×List (List Int)×List Int×List Int×Unit)=>letI l:=G.2.2;if decide (G.2.1<G.1)=true then A.bind (Ng (G.2.1,l.1,l.2.1,l.2.2.1,[],())) λy=>A.pure (ab.next (G.1,IntKind.wrap .i64 (Add.add G.2.1 1),y.2.1,y.2.2.1,y.2.2.2.1,())) else A.bind (A.pure (ab.next (l.1,l.2.1,l.2.2.1,()))) λr=>A.pure (ab.done r)) (Int.ofNat (List.length G.1),0,G.2.2.1,G.2.1,G.2.2.2.1,())) (ab.bx (λ(G:List (List Int)×List Int×List Int×Unit)=>A.pure (some (G.1,G.2.1,G.2.2.1),0)))))
def Ur (x:Option (List (List Int)×List Int×List Int)×Int):A (List Int):=
 letI b:=(Option.getD x.1 ([],[],[])).2.2;A.bind (A.ah (Option.isSome x.1=true) (A.loop (λ(G:Int×List Int×Int×Int×List Int×Unit)=>letI a:=G.2.2.2;if decide (a.1<G.2.2.1)=true then A.bind (A.ah (0<=a.1/\a.1<Int.ofNat (List.length G.2.1)) (if decide (List.getD G.2.1 (Int.toNat a.1) 0=G.1)=true then A.ah (bT (Add.add (List.length a.2.1) (Add.add 0 1))) (A.pure (ab.next (G.1,G.2.1,G.2.2.1,a.1,a.2.1++[a.1],()))) else A.pure (ab.next (G.1,G.2.1,G.2.2.1,a.1,a.2.1,())))) (ab.bx (λ(G:Int×List Int×Int×Int×List Int×Unit)=>A.pure (ab.next (G.1,G.2.1,G.2.2.1,IntKind.wrap .i64 (Add.add G.2.2.2.1 1),G.2.2.2.2.1,())))) else A.bind (A.pure (ab.next (a.2.1,()))) λr=>A.pure (ab.done r)) (x.2,b,Int.ofNat (List.length b),0,[],()))) (ab.bx (λ(G:List Int×Unit)=>A.pure G.1))
def Us (nP:Int×Int×Int->A Bool) (agS:List (Int×Int×Int×Int)×(Int×Int×Int×Int->A Bool)->A Bool) (agT:List (List (Int×List Int×Int×Int))×(List (Int×List Int×Int×Int)->A Bool)->A Bool) (Nh:List (Int×Int×Int×Int)×(Int×Int×Int×Int->A Bool)->A Bool) (agU:List (Int×List Int×Int×Int)×Option (Int×List Int×Int×Int->A Bool)->A Bool) (agV:(Int×Int×Int×Int)×Option aT->A Bool) (agW:Int×Int×Int×Int->A Bool) (agX:Int×List Int×Int×Int->A Bool) (x:List (Int×Int×Int×Int)×List (List (Int×List Int×Int×Int))×Int×List (Int×Int×Int×Int)):A Bool:=
 letI c:=decide (Int.ofNat (List.length x.1)<=10);A.bind (cJ c (agS (x.1,agW)) false) λy=>letI a:=c&&y&&decide (Int.ofNat (List.length x.2.1)<=6);A.bind (cJ a (agT (x.2.1,λx=>agU (x,some agX))) false) λcu=>A.bind (cJ (a&&cu) (nP (x.2.2.1,0,99)) false) λet=>letI b:=a&&cu&&et&&decide (Int.ofNat (List.length x.2.2.2)<=30);A.bind (cJ b (Nh (x.2.2.2,λiF=>agV (iF,some x))) false) λjx=>A.pure (b&&jx)
def Ni (Nj:List (Int×Int×Int×Int)×List (List (Int×List Int×Int×Int))×Int×List (Int×Int×Int×Int)->A Int) (Nh:List (Int×Int×Int×Int)×(Int×Int×Int×Int->A Bool)->A Bool) (agY:(Int×Int×Int×Int)×Option Int×Option aT×Option Int->A Bool) (x:aT×Bool):A (Option fo×Int):=
 A.bind (Nj x.1) λy=>if decide (y≠0)=true then A.pure (none,y) else if (!x.2)=true then A.pure (none,1) else A.bind (A.loop (λ(G:List (Int×Int×Int×Int)×Int×Int×aT×List (Int×Int×Int×Int)×List (List (Int×List Int×Int×Int))×Int×List (Int×Int×Int×Int)×List (List Int)×Unit)=>letI i:=G.2.2.1;letI g:=List.getD G.1 (Int.toNat i) (0,0,0,0);letI c:=G.2.2.2.2;if decide (i<G.2.1)=true then A.bind (A.ah (0<=i/\i<Int.ofNat (List.length G.1)) (A.bind (A.loop (λ(G:List (Int×Int×Int×Int)×Int×Int×aT×Int×(Int×Int×Int×Int)×List Int×Int×List (Int×Int×Int×Int)×List (List (Int×List Int×Int×Int))×Int×List (Int×Int×Int×Int)×List (List Int)×Unit)=>letI d:=G.2.2.2;letI a:=d.2.2.2;letI j:=a.2.2;letI e:=j.2.2;if decide (a.2.1<=d.2.2.1.2.2.2)=true then A.bind (A.bind (Nh (d.1.2.2.2,λx=>agY (x,some d.2.1,some d.1,some a.2.1))) (λy=>if y=true then A.ah (bT (Add.add (List.length a.1) (Add.add 0 1))) (A.pure (ab.next (G.1,G.2.1,G.2.2.1,d.1,d.2.1,d.2.2.1,a.1++[a.2.1],a.2.1,j.1,j.2.1,e.1,e.2.1,e.2.2.1,()))) else A.pure (ab.next (G.1,G.2.1,G.2.2.1,d.1,d.2.1,d.2.2.1,a.1,a.2.1,j.1,j.2.1,e.1,e.2.1,e.2.2.1,())))) (ab.bx (λ(G:List (Int×Int×Int×Int)×Int×Int×aT×Int×(Int×Int×Int×Int)×List Int×Int×List (Int×Int×Int×Int)×List (List (Int×List Int×Int×Int))×Int×List (Int×Int×Int×Int)×List (List Int)×Unit)=>letI k:=G.2.2.2;letI b:=k.2.2.2;A.pure (ab.next (G.1,G.2.1,G.2.2.1,k.1,k.2.1,k.2.2.1,b.1,IntKind.wrap .i64 (Add.add b.2.1 1),b.2.2.1,b.2.2.2.1,b.2.2.2.2.1,b.2.2.2.2.2.1,b.2.2.2.2.2.2.1,())))) else A.bind (A.pure (ab.next (G.1,G.2.1,G.2.2.1,d.1,a.1,j.1,j.2.1,e.1,e.2.1,e.2.2.1,()))) λr=>A.pure (ab.done r)) (G.1,G.2.1,i,G.2.2.2.1,i,g,[],g.2.2.1,c.1,c.2.1,c.2.2.1,c.2.2.2.1,c.2.2.2.2.1,())) (ab.bx (λ(G:List (Int×Int×Int×Int)×Int×Int×aT×List Int×List (Int×Int×Int×Int)×List (List (Int×List Int×Int×Int))×Int×List (Int×Int×Int×Int)×List (List Int)×Unit)=>letI f:=G.2.2.2.2;if decide (Int.ofNat (List.length f.1)=0)=true then A.bind (A.bind (A.bind (A.pure (none,3)) (λr=>A.pure (ab.done r))) (λr=>A.pure (ab.done r))) λr=>A.pure (ab.done r) else A.ah True (A.ah (bT (Add.add (List.length f.2.2.2.2.2.1) (Add.add 0 1))) (A.ah True (A.pure (ab.next (G.1,G.2.1,G.2.2.1,G.2.2.2.1,f.2.1,f.2.2.1,f.2.2.2.1,f.2.2.2.2.1,f.2.2.2.2.2.1++[f.1],()))))))))) (ab.bx (λ(G:List (Int×Int×Int×Int)×Int×Int×aT×List (Int×Int×Int×Int)×List (List (Int×List Int×Int×Int))×Int×List (Int×Int×Int×Int)×List (List Int)×Unit)=>letI h:=G.2.2.2.2;A.pure (ab.next (G.1,G.2.1,IntKind.wrap .i64 (Add.add G.2.2.1 1),G.2.2.2.1,h.1,h.2.1,h.2.2.1,h.2.2.2.1,h.2.2.2.2.1,())))) else A.bind (A.pure (ab.next (c.1,c.2.1,c.2.2.1,c.2.2.2.1,c.2.2.2.2.1,()))) λr=>A.pure (ab.done r)) (x.1.1,Int.ofNat (List.length x.1.1),0,x.1,x.1.1,x.1.2.1,x.1.2.2.1,x.1.2.2.2,[],())) (ab.bx (λ(G:List (Int×Int×Int×Int)×List (List (Int×List Int×Int×Int))×Int×List (Int×Int×Int×Int)×List (List Int)×Unit)=>A.pure (some ((G.1,G.2.1,G.2.2.1,G.2.2.2.1),G.2.2.2.2.1),0)))
def agZ (nP:Int×Int×Int->A Bool) (x:aT×Int):A Bool:=
 A.bind (nP (x.2,0,IntKind.wrap .i64 (Int.ofNat (List.length x.1.1)-1))) λy=>A.pure y
def Ut (nP:Int×Int×Int->A Bool) (x:aT×Int×Int):A Bool:=
 letI a:=Int.ofNat (List.length x.1.2.1);A.bind (nP (x.2.1,0,IntKind.wrap .i64 (a-1))) λy=>A.ah (y=true->(y=true/\y=true)/\(0<=x.2.1/\x.2.1<a)/\True) (A.bind (cJ y (nP (x.2.2,0,IntKind.wrap .i64 (Int.ofNat (List.length (List.getD x.1.2.1 (Int.toNat x.2.1) []))-1))) false) (λcu=>A.pure (y&&cu)))
def Nk (At:aT×Int×Int×Int×Int->A Bool) (Nl:Int×Int->A Int) (x:Option fo×Int×Int×Int):A Int:=
 letI b:=(Option.getD x.1 (([],[],0,[]),[])).2;letI e:=List.getD b (Int.toNat x.2.1) [];A.bind (A.ah (Option.isSome x.1=true) (A.ah (0<=x.2.1/\x.2.1<Int.ofNat (List.length b)) (A.loop (λ(G:Option fo×Int×Int×Int×Int×List Int×Int×Int×Unit)=>letI c:=G.2.2.2;letI a:=c.2.2;letI f:=a.2.2.1;if decide (f<a.2.1)=true then A.bind (A.ah (0<=f/\f<Int.ofNat (List.length a.1)) (A.ah (Option.isSome G.1=true) (A.bind (At ((Option.getD G.1 (([],[],0,[]),[])).1,G.2.1,List.getD a.1 (Int.toNat f) 0,G.2.2.1,c.1)) (λy=>if y=true then A.pure (ab.next (G.1,G.2.1,G.2.2.1,c.1,IntKind.wrap .i64 (Add.add c.2.1 1),a.1,a.2.1,f,())) else A.pure (ab.next (G.1,G.2.1,G.2.2.1,c.1,c.2.1,a.1,a.2.1,f,())))))) (ab.bx (λ(G:Option fo×Int×Int×Int×Int×List Int×Int×Int×Unit)=>letI g:=G.2.2.2;A.pure (ab.next (G.1,G.2.1,G.2.2.1,g.1,g.2.1,g.2.2.1,g.2.2.2.1,IntKind.wrap .i64 (Add.add g.2.2.2.2.1 1),())))) else A.bind (A.pure (ab.next (G.1,G.2.1,c.2.1,()))) λr=>A.pure (ab.done r)) (x.1,x.2.1,x.2.2.1,x.2.2.2,0,e,Int.ofNat (List.length e),0,())))) (ab.bx (λ(G:Option fo×Int×Int×Unit)=>letI d:=(Option.getD G.1 (([],[],0,[]),[])).2;A.ah (Option.isSome G.1=true) (A.ah (0<=G.2.1/\G.2.1<Int.ofNat (List.length d)) (A.bind (Nl (G.2.2.1,Int.ofNat (List.length (List.getD d (Int.toNat G.2.1) [])))) (λy=>A.pure y)))))
def ag0 (x:List Int):A Bool:=
 A.bind (A.loop (λ(G:List Int×Int×Unit)=>letI c:=G.2.1;letI b:=IntKind.wrap .i64 (c-1);letI a:=Int.ofNat (List.length G.1);if decide (c<a)=true then A.ah (0<=c/\c<a) (A.ah (0<=b/\b<a) (if decide (List.getD G.1 (Int.toNat c) 0<=List.getD G.1 (Int.toNat b) 0)=true then A.bind (A.bind (A.pure false) (λr=>A.pure (ab.done r))) λr=>A.pure (ab.done r) else A.pure (ab.next (G.1,IntKind.wrap .i64 (Add.add c 1),())))) else A.bind (A.pure (ab.next ())) λr=>A.pure (ab.done r)) (x,1,())) (ab.bx (λ(G:Unit)=>A.pure true))
def ag1 (x:Int×Int×Int):A Bool:=
 A.pure (decide (x.2.1<=x.1)&&decide (x.1<=x.2.2))
def Uu (Nl:Int×Int->A Int) (ag2:Option fo×List Int×Int->A (List (Int×Int))) (x:Option fo×List Int×Int):A Int:=
 letI b:=(Option.getD x.1 (([],[],0,[]),[])).1.2.1;letI a:=Int.ofNat (List.length (List.getD b (Int.toNat x.2.2) []));A.bind (ag2 x) λy=>A.bind (A.ah (Option.isSome x.1=true) (A.ah (0<=x.2.2/\x.2.2<Int.ofNat (List.length b)) (A.ah (0<=a) (if decide (Option.getD (Option.map (λx=>x.2) (List.find? (λp=>decide (IntKind.wrap .i64 (y' .i64 1 a-1)=p.1)) y)) (0:Int) > 0)=true then A.pure (ab.next (y,1,())) else A.pure (ab.next (y,0,())))))) (ab.bx (λ(G:List (Int×Int)×Int×Unit)=>A.ah (bT (List.length G.1)) (A.bind (Nl (G.2.1,Int.ofNat (List.length G.1))) (λy=>A.pure y))))
def Uv (nP:Int×Int×Int->A Bool) (x:Int):A Bool:=
 A.bind (nP (x,0,10)) λy=>A.pure y
def Uw (uD:aT×Int×Int->A Bool) (x:(Int×Int)×Option aT):A Bool:=
 A.bind (uD (Option.getD x.2 ([],[],0,[]),x.1)) λy=>A.pure y
def Ux (DG:Int->A Bool) (Nm:Int×Int->A Bool) (x:Int×Int×Int×Int):A Bool:=
 A.bind (DG x.1) λy=>A.bind (cJ y (DG x.2.1) false) λcu=>A.bind (cJ (y&&cu) (Nm x.2.2) false) λet=>A.pure (y&&cu&&et)
def Uy (nP:Int×Int×Int->A Bool) (x:Int):A Bool:=
 A.bind (nP (x,0,9)) λy=>A.pure y
def ag3 (nP:Int×Int×Int->A Bool) (x:Int×Int):A Bool:=
 A.bind (nP (x.1,0,x.2)) λy=>A.pure (y&&decide (x.2<=999))
def Uz (ag4:List Int->A Bool) (Nf:List Int×(Int->A Bool)->A Bool) (DG:Int->A Bool) (Nm:Int×Int->A Bool) (x:Int×List Int×Int×Int):A Bool:=
 A.bind (DG x.1) λy=>letI a:=y&&decide (Int.ofNat (List.length x.2.1)<=4);A.bind (cJ a (Nf (x.2.1,DG)) false) λcu=>A.bind (cJ (a&&cu) (ag4 x.2.1) false) λet=>A.bind (cJ (a&&cu&&et) (Nm x.2.2) false) λjx=>A.pure (a&&cu&&et&&jx)
def UA (ag5:List (Int×List Int×Int×Int)×(Int×List Int×Int×Int->A Bool)->A Bool) (x:List (Int×List Int×Int×Int)×Option (Int×List Int×Int×Int->A Bool)):A Bool:=
 letI a:=decide (Int.ofNat (List.length x.1)<=4);A.bind (cJ a (ag5 (x.1,Option.getD x.2 λx=>{ dU:=False,bP:=λx=>False })) false) λy=>A.pure (a&&y)
def UB (jg:aT×Int->A Bool) (uD:aT×Int×Int->A Bool) (nP:Int×Int×Int->A Bool) (x:(Int×Int×Int×Int)×Option aT):A Bool:=
 letI a:=Option.getD x.2 ([],[],0,[]);A.bind (jg (a,x.1.1)) λy=>A.bind (cJ y (uD (a,x.1.2.1,x.1.2.2.1)) false) λcu=>A.bind (cJ (y&&cu) (nP (x.1.2.2.2,0,1)) false) λet=>A.pure (y&&cu&&et)
def UC (At:aT×Int×Int×Int×Int->A Bool) (x:(Int×Int×Int×Int)×Option Int×Option aT×Option Int):A Bool:=
 letI e:=Option.getD x.2.1 0;letI c:=decide (x.1.1≠e);letI b:=(Option.getD x.2.2.1 ([],[],0,[]),e,Option.getD x.2.2.2 0,x.1.2.1,x.1.2.2.1);letI a:=(!c)=true;letI d:=a->a/\True/\True;A.ah d (A.ah d (A.ah (a->(a/\a/\a/\a/\a/\True)/\(At b).dU/\True) (A.ah d (A.ah (a->(a/\True)/\True/\True) (A.ah (a->(a/\a)/\True/\True) (A.ah (True/\(c=false->a)) (A.pure (c||decide (A.val (At b) false=decide (x.1.2.2.2=1))))))))))
def UD (nP:Int×Int×Int->A Bool) (iS:List Int×Int->A Bool) (x:aT×Int×Int×Int×Int):A Bool:=
 letI e:=x.2.2.2;letI c:=List.getD x.1.2.1 (Int.toNat e.1) [];letI b:=List.getD x.1.1 (Int.toNat x.2.1) (0,0,0,0);letI a:=List.getD c (Int.toNat e.2) (0,[],0,0);letI d:=decide (b.1=a.1);A.ah (0<=x.2.1/\x.2.1<Int.ofNat (List.length x.1.1)) (A.ah (0<=e.1/\e.1<Int.ofNat (List.length x.1.2.1)) (A.ah (0<=e.2/\e.2<Int.ofNat (List.length c)) (A.bind (cJ d (iS (a.2.1,b.2.1)) false) (λy=>A.bind (cJ (d&&y) (nP (x.2.2.1,a.2.2.1,IntKind.wrap .i64 (Add.add a.2.2.2 x.1.2.2.1))) false) λcu=>A.pure (d&&y&&cu)))))
def UE (x:Int×Int):A Int:=
 if decide (x.1=x.2)=true then A.pure 1 else if decide (x.1=0)=true then A.pure 2 else A.pure 3
def Nn (At:aT×Int×Int×Int×Int->A Bool) (x:Option fo×List Int×Int):A (List (Int×Int)):=
 A.bind (A.loop (λ(G:Option fo×Int×List (Int×Int)×List Int×Int×Int×Unit)=>letI l:=G.2.2.2;letI w:=l.2.2.1;letI i:=(Option.getD G.1 (([],[],0,[]),[])).2;letI c:=List.getD l.1 (Int.toNat w) 0;letI t:=List.getD i (Int.toNat c) [];if decide (w<l.2.1)=true then A.bind (A.ah (0<=w/\w<Int.ofNat (List.length l.1)) (A.bind (A.ah (Option.isSome G.1=true) (A.ah (0<=c/\c<Int.ofNat (List.length i)) (A.loop (λ(G:Option fo×Int×List (Int×Int)×Int×List Int×Int×Int×List Int×Int×Int×List (Int×Int)×Unit)=>letI o:=G.2.2.2.2;letI n:=(Option.getD G.1 (([],[],0,[]),[])).1.2.1;letI d:=o.2.2;letI q:=d.2.2.2;if decide (q.1<d.2.2.1)=true then A.bind (A.ah (0<=q.1/\q.1<Int.ofNat (List.length d.2.1)) (A.bind (A.ah (Option.isSome G.1=true) (A.ah (0<=G.2.1/\G.2.1<Int.ofNat (List.length n)) (A.loop (λ(G:Option fo×Int×List (Int×Int)×Int×Int×Int×List Int×Int×Int×List Int×Int×Int×Int×Int×List (Int×Int)×Unit)=>letI s:=G.2.2;letI f:=s.2.2;letI bN:=f.2.2;letI a:=bN.2.2;letI e0:=a.2.2;letI h:=e0.2.2;if decide (h.2.1<h.1)=true then A.bind (A.ah (Option.isSome G.1=true) (A.bind (At ((Option.getD G.1 (([],[],0,[]),[])).1,s.2.1,f.1,G.2.1,h.2.1)) (λy=>if y=true then A.ah (0<=h.2.1) (A.pure (ab.next (G.1,G.2.1,s.1,s.2.1,f.1,vr .i64 f.2.1 (y' .i64 1 h.2.1),bN.1,bN.2.1,a.1,a.2.1,e0.1,e0.2.1,h.1,h.2.1,h.2.2.1,()))) else A.pure (ab.next (G.1,G.2.1,s.1,s.2.1,f.1,f.2.1,bN.1,bN.2.1,a.1,a.2.1,e0.1,e0.2.1,h.1,h.2.1,h.2.2.1,()))))) (ab.bx (λ(G:Option fo×Int×List (Int×Int)×Int×Int×Int×List Int×Int×Int×List Int×Int×Int×Int×Int×List (Int×Int)×Unit)=>letI u:=G.2.2.2.2;letI e:=u.2.2.2;letI v:=e.2.2.2.2;A.pure (ab.next (G.1,G.2.1,G.2.2.1,G.2.2.2.1,u.1,u.2.1,u.2.2.1,e.1,e.2.1,e.2.2.1,e.2.2.2.1,v.1,v.2.1,IntKind.wrap .i64 (Add.add v.2.2.1 1),v.2.2.2.1,())))) else A.bind (A.pure (ab.next (G.1,G.2.1,s.1,s.2.1,f.2.1,bN.1,bN.2.1,a.1,a.2.1,e0.1,e0.2.1,h.2.2.1,()))) λr=>A.pure (ab.done r)) (G.1,G.2.1,G.2.2.1,G.2.2.2.1,List.getD d.2.1 (Int.toNat q.1) 0,0,o.1,o.2.1,d.1,d.2.1,d.2.2.1,q.1,Int.ofNat (List.length (List.getD n (Int.toNat G.2.1) [])),0,q.2.1,())))) (ab.bx (λ(G:Option fo×Int×List (Int×Int)×Int×Int×List Int×Int×Int×List Int×Int×Int×List (Int×Int)×Unit)=>letI k:=G.2.2.2.2.2;A.bind (A.pure ()) λy=>A.loop (λ(G:Option fo×Int×List (Int×Int)×Int×Int×List Int×Int×Int×List Int×Int×Int×List (Int×Int)×(Option (Int×Int)×List (Int×Int))×Unit)=>letI g:=G.2.2.2.2;letI z:=g.2.2.2;letI b:=z.2.2;letI j:=b.2.2.2.1;A.bind (FR j.2) λy=>if Option.isSome y=true then A.bind (A.ah (Option.isSome (mK j.1 j.2 y)=true) (A.pure ())) λcu=>A.pure (ab.next (G.1,G.2.1,G.2.2.1,G.2.2.2.1,g.1,g.2.1,g.2.2.1,z.1,z.2.1,b.1,b.2.1,cC b.2.2.1 (vr .i64 (Option.getD (Option.map (λx=>x.1) (mK j.1 j.2 y)) 0) g.1) (IntKind.wrap .i64 (Add.add (Option.getD (Option.map (λx=>x.2) (List.find? (λp=>decide (vr .i64 (Option.getD (Option.map (λx=>x.1) (mK j.1 j.2 y)) 0) g.1=p.1)) b.2.2.1)) 0) 1)),(mK j.1 j.2 y,CE j.2 y),())) else A.bind (A.pure (ab.next (G.1,G.2.1,G.2.2.1,G.2.2.2.1,g.2.1,g.2.2.1,z.1,z.2.1,b.1,b.2.1,b.2.2.1,()))) λr=>A.pure (ab.done r)) (G.1,G.2.1,G.2.2.1,G.2.2.2.1,G.2.2.2.2.1,k.1,k.2.1,k.2.2.1,k.2.2.2.1,k.2.2.2.2.1,k.2.2.2.2.2.1,k.2.2.2.2.2.2.1,(none,G.2.2.1),()))))) (ab.bx (λ(G:Option fo×Int×List (Int×Int)×Int×List Int×Int×Int×List Int×Int×Int×List (Int×Int)×Unit)=>letI m:=G.2.2.2.2.2;A.pure (ab.next (G.1,G.2.1,G.2.2.1,G.2.2.2.1,G.2.2.2.2.1,m.1,m.2.1,m.2.2.1,m.2.2.2.1,IntKind.wrap .i64 (Add.add m.2.2.2.2.1 1),m.2.2.2.2.2.1,())))) else A.bind (A.pure (ab.next (G.1,G.2.1,o.1,o.2.1,d.1,q.2.1,()))) λr=>A.pure (ab.done r)) (G.1,G.2.1,G.2.2.1,c,l.1,l.2.1,w,t,Int.ofNat (List.length t),0,[],())))) (ab.bx (λ(G:Option fo×Int×List Int×Int×Int×List (Int×Int)×Unit)=>A.pure (ab.next (G.1,G.2.1,G.2.2.1,G.2.2.2.1,G.2.2.2.2.1,G.2.2.2.2.2.1,())))))) (ab.bx (λ(G:Option fo×Int×List Int×Int×Int×List (Int×Int)×Unit)=>A.pure (ab.next (G.1,G.2.1,G.2.2.2.2.2.1,G.2.2.1,G.2.2.2.1,IntKind.wrap .i64 (Add.add G.2.2.2.2.1 1),())))) else A.bind (A.pure (ab.next (G.2.2.1,()))) λr=>A.pure (ab.done r)) (x.1,x.2.2,cC [] 0 1,x.2.1,Int.ofNat (List.length x.2.1),0,())) (ab.bx (λ(G:List (Int×Int)×Unit)=>A.pure G.1))
def No (ag6:Int×List (List Int)×List Int×List Int×Unit->A (List Int×List (List Int)×List Int×List Int×Unit)) (Ng:Int×List (List Int)×List Int×List Int×List (Int×Int)×Unit->A (Bool×List (List Int)×List Int×List Int×List (Int×Int)×Unit)) (x:Int×List (List Int)×List Int×List Int×List (Int×Int)×Unit):A (Bool×List (List Int)×List Int×List Int×List (Int×Int)×Unit):=
 letI g:=List.getD x.2.1 (Int.toNat x.1) [];A.bind (A.ah True (A.ah (0<=x.1/\x.1<Int.ofNat (List.length x.2.1)) (A.loop (λ(G:Int×List Int×Int×Int×List (List Int)×List Int×List Int×List (Int×Int)×Unit)=>letI d:=G.2.2.2;letI c:=d.2.2;letI e:=c.2.2.1;letI a:=List.getD G.2.1 (Int.toNat d.1) 0;if decide (d.1<G.2.2.1)=true then A.bind (A.ah (0<=d.1/\d.1<Int.ofNat (List.length G.2.1)) (if decide (Option.getD (Option.map (λx=>x.2) (List.find? (λp=>decide (a=p.1)) (cC e a (IntKind.wrap .i64 (Add.add (Option.getD (Option.map (λx=>x.2) (List.find? (λp=>decide (a=p.1)) e)) 0) 1))))) (0:Int) > 1)=true then A.pure (ab.next (G.1,G.2.1,G.2.2.1,d.1,d.2.1,c.1,c.2.1,cC e a (IntKind.wrap .i64 (Add.add (Option.getD (Option.map (λx=>x.2) (List.find? (λp=>decide (a=p.1)) e)) 0) 1)),())) else A.bind (ag6 (a,d.2.1,c.1,c.2.1,())) λy=>letI l:=y.2.2;letI h:=Int.ofNat (List.length y.1);A.ah True (A.ah (0<=a/\a<Int.ofNat (List.length l.1)) (if decide (h<List.getD l.1 (Int.toNat a) 0)=true then A.ah True (A.ah (0<=G.1/\G.1<Int.ofNat (List.length l.2.1)) (A.bind (A.bind (A.bind (A.pure (true,y.2.1,l.1,List.set l.2.1 (Int.toNat G.1) a,cC e a (IntKind.wrap .i64 (Add.add (Option.getD (Option.map (λx=>x.2) (List.find? (λp=>decide (a=p.1)) e)) 0) 1)),())) (λr=>A.pure (ab.done r))) (λr=>A.pure (ab.done r))) (λr=>A.pure (ab.done r)))) else A.loop (λ(G:Int×Int×List Int×Int×Int×Int×Int×List Int×List (List Int)×List Int×List Int×List (Int×Int)×Unit)=>letI f:=G.2.2.2;letI b:=f.2.2.2;letI i:=b.2.2.2;if decide (b.1<f.2.2.1)=true then A.ah (0<=b.1/\b.1<Int.ofNat (List.length b.2.1)) (A.bind (Ng (List.getD b.2.1 (Int.toNat b.1) 0,b.2.2.1,i.1,i.2.1,i.2.2.1,())) (λy=>letI k:=y.2.2.2;if y.1=true then A.ah True (A.ah (0<=G.1/\G.1<Int.ofNat (List.length k.1)) (A.bind (A.bind (A.bind (A.bind (A.pure (true,y.2.1,y.2.2.1,List.set k.1 (Int.toNat G.1) G.2.1,k.2.1,())) (λr=>A.pure (ab.done r))) (λr=>A.pure (ab.done r))) (λr=>A.pure (ab.done r))) (λr=>A.pure (ab.done r)))) else A.pure (ab.next (G.1,G.2.1,G.2.2.1,f.1,f.2.1,f.2.2.1,IntKind.wrap .i64 (Add.add b.1 1),b.2.1,y.2.1,y.2.2.1,k.1,k.2.1,())))) else A.bind (A.pure (ab.next (G.1,G.2.2.1,f.1,f.2.1,b.2.2.1,i.1,i.2.1,i.2.2.1,()))) λr=>A.pure (ab.done r)) (G.1,a,G.2.1,G.2.2.1,d.1,h,0,y.1,y.2.1,l.1,l.2.1,cC e a (IntKind.wrap .i64 (Add.add (Option.getD (Option.map (λx=>x.2) (List.find? (λp=>decide (a=p.1)) e)) 0) 1)),()))))) (ab.bx (λ(G:Int×List Int×Int×Int×List (List Int)×List Int×List Int×List (Int×Int)×Unit)=>letI j:=G.2.2.2;A.pure (ab.next (G.1,G.2.1,G.2.2.1,IntKind.wrap .i64 (Add.add j.1 1),j.2.1,j.2.2.1,j.2.2.2.1,j.2.2.2.2.1,())))) else A.bind (A.pure (ab.next (d.2.1,c.1,c.2.1,e,()))) λr=>A.pure (ab.done r)) (x.1,g,Int.ofNat (List.length g),0,x.2.1,x.2.2.1,x.2.2.2.1,x.2.2.2.2.1,())))) (ab.bx (λ(G:List (List Int)×List Int×List Int×List (Int×Int)×Unit)=>A.pure (false,G.1,G.2.1,G.2.2.1,G.2.2.2.1,())))
def UF (x:Int×List (List Int)×List Int×List Int×Unit):A (List Int×List (List Int)×List Int×List Int×Unit):=
 A.bind (A.ah True (A.loop (λ(G:Int×Int×Int×List Int×List (List Int)×List Int×List Int×Unit)=>letI a:=G.2.2;letI c:=a.2.2;letI b:=c.2.2.1;if decide (a.1<G.2.1)=true then A.bind (A.ah (0<=a.1/\a.1<Int.ofNat (List.length b)) (if decide (List.getD b (Int.toNat a.1) 0=G.1)=true then A.ah (bT (Add.add (List.length a.2.1) (Add.add 0 1))) (A.pure (ab.next (G.1,G.2.1,a.1,a.2.1++[a.1],c.1,c.2.1,b,()))) else A.pure (ab.next (G.1,G.2.1,a.1,a.2.1,c.1,c.2.1,b,())))) (ab.bx (λ(G:Int×Int×Int×List Int×List (List Int)×List Int×List Int×Unit)=>letI d:=G.2.2.2;A.pure (ab.next (G.1,G.2.1,IntKind.wrap .i64 (Add.add G.2.2.1 1),d.1,d.2.1,d.2.2.1,d.2.2.2.1,())))) else A.bind (A.pure (ab.next (a.2.1,c.1,c.2.1,b,()))) λr=>A.pure (ab.done r)) (x.1,Int.ofNat (List.length x.2.2.2.1),0,[],x.2.1,x.2.2.1,x.2.2.2.1,()))) (ab.bx (λ(G:List Int×List (List Int)×List Int×List Int×Unit)=>A.pure (G.1,G.2.1,G.2.2.1,G.2.2.2.1,())))
def Hc (wb:Int->A Int) (ag7:Int->A (List Int)) (ag8:Option fo×List Int×Int->A Int) (x:Option fo×Nat×(Nat×(List Int->Prop)×List Int×Bool)×Unit):A ((Nat×(List Int->Prop)×List Int×Bool)×Unit):=
 A.ah (Option.isSome x.1=true) (A.loop (λ(G:Option fo×Nat×Int×Int×(Nat×(List Int->Prop)×List Int×Bool)×Unit)=>letI i:=G.2.2.2;letI d:=Int.ofNat (List.length (Option.getD G.1 (([],[],0,[]),[])).1.1);if decide (i.1<G.2.2.1)=true then A.bind (A.ah (Option.isSome G.1=true) (A.ah (0<=d) (A.loop (λ(G:Option fo×Nat×Int×Int×Int×Int×Int×(Nat×(List Int->Prop)×List Int×Bool)×Unit)=>letI j:=G.2.2;letI c:=j.2.2;letI l:=c.2.2;if decide (l.1<c.2.1)=true then A.bind (A.bind (wb l.1) (λy=>if decide (y≠j.1)=true then A.pure (ab.next (G.1,G.2.1,j.1,j.2.1,c.1,c.2.1,l.1,l.2.1,())) else A.bind (A.ah (Option.isSome G.1=true) (A.loop (λ(G:Option fo×Nat×Int×Int×Int×Int×Int×Int×Int×Int×(Nat×(List Int->Prop)×List Int×Bool)×Unit)=>letI f:=G.2.2.2;letI b:=f.2.2;letI g:=b.2.2.2.2;if decide (g.1<b.2.2.2.1)=true then A.bind (ag7 f.1) λy=>A.bind (ag8 (G.1,y,g.1)) λy=>if decide (y≠1)=true then A.bind (A.bind (A.pure (ab.next (G.1,G.2.1,G.2.2.1,f.2.1,b.1,b.2.1,b.2.2.1,g.2.1,()))) (λr=>A.pure (ab.done r))) λr=>A.pure (ab.done r) else A.pure (ab.next (G.1,G.2.1,G.2.2.1,f.1,f.2.1,b.1,b.2.1,b.2.2.1,b.2.2.2.1,IntKind.wrap .i64 (Add.add g.1 1),g.2.1,())) else A.bind (A.pure (ab.next (G.1,G.2.1,G.2.2.1,f.1,f.2.1,b.1,b.2.1,b.2.2.1,g.2.1,()))) λr=>A.pure (ab.done r)) (G.1,G.2.1,j.1,l.1,j.2.1,c.1,c.2.1,l.1,Int.ofNat (List.length (Option.getD G.1 (([],[],0,[]),[])).1.2.1),0,l.2.1,()))) (ab.bx (λ(G:Option fo×Nat×Int×Int×Int×Int×Int×Int×(Nat×(List Int->Prop)×List Int×Bool)×Unit)=>letI e:=G.2.2.2;letI a:=e.2.2.2.2.2.1;A.bind (A.ah (G.2.1=a.1/\a.2.2.2=false/\(∃ (T:List Int),a.2.1 (a.2.2.1++e.1::T))) (A.any (λx=>True))) λy=>letI h:=(a.1,a.2.1,a.2.2.1++[e.1],!y);if (!y)=true then A.bind (A.bind (A.bind (A.bind (A.pure (h,())) (λr=>A.pure (ab.done r))) (λr=>A.pure (ab.done r))) (λr=>A.pure (ab.done r))) λr=>A.pure (ab.done r) else A.pure (ab.next (G.1,G.2.1,G.2.2.1,e.2.1,e.2.2.1,e.2.2.2.1,e.2.2.2.2.1,h,())))))) (ab.bx (λ(G:Option fo×Nat×Int×Int×Int×Int×Int×(Nat×(List Int->Prop)×List Int×Bool)×Unit)=>letI k:=G.2.2.2;A.pure (ab.next (G.1,G.2.1,G.2.2.1,k.1,k.2.1,k.2.2.1,IntKind.wrap .u64 (Add.add k.2.2.2.1 1),k.2.2.2.2.1,())))) else A.bind (A.pure (ab.next (G.1,G.2.1,j.2.1,c.1,l.2.1,()))) λr=>A.pure (ab.done r)) (G.1,G.2.1,i.1,G.2.2.1,i.1,y' .u64 1 d,0,i.2.1,())))) (ab.bx (λ(G:Option fo×Nat×Int×Int×(Nat×(List Int->Prop)×List Int×Bool)×Unit)=>A.pure (ab.next (G.1,G.2.1,G.2.2.1,IntKind.wrap .i64 (Add.add G.2.2.2.1 1),G.2.2.2.2.1,())))) else A.bind (A.pure (i.2.1,())) λr=>A.pure (ab.done r)) (x.1,x.2.1,IntKind.wrap .i64 (Add.add (Int.ofNat (List.length (Option.getD x.1 (([],[],0,[]),[])).1.1)) 1),0,x.2.2.1,()))
end Go.Fer
namespace Go.Fer
open A (ab)
set_option linter.unusedVariables false
def Np (DF:List (Int×Int×Int×Int)×List (List (Int×List Int×Int×Int))×Int×List (Int×Int×Int×Int)->A Int) (x:List (Int×Int×Int×Int)×List (List (Int×List Int×Int×Int))×Int×List (Int×Int×Int×Int)):A Bool:=
 if (decide (Int.ofNat (List.length x.1) > 40)||decide (Int.ofNat (List.length x.2.1) > 40)||decide (Int.ofNat (List.length x.2.2.2) > 60))=true then A.pure true else A.bind (A.loop (λ(G:Int×aT×Unit)=>letI e:=G.1<Int.ofNat (List.length G.2.1.2.1);if decide e=true then A.bind (A.ah (0<=G.1/\e) (if decide (Int.ofNat (List.length (List.getD G.2.1.2.1 (Int.toNat G.1) [])) > 20)=true then A.bind (A.bind (A.bind (A.pure true) (λr=>A.pure (ab.done r))) (λr=>A.pure (ab.done r))) λr=>A.pure (ab.done r) else A.loop (λ(G:Int×Int×aT×Unit)=>letI g:=G.2.2.1;letI c:=0<=G.1/\G.1<Int.ofNat (List.length g.2.1);letI a:=List.getD g.2.1 (Int.toNat G.1) [];letI f:=G.2.1<Int.ofNat (List.length a);A.ah c (if decide f=true then A.ah c (A.ah (0<=G.2.1/\f) (if decide (Int.ofNat (List.length (List.getD a (Int.toNat G.2.1) (0,[],0,0)).2.1) > 20)=true then A.bind (A.bind (A.bind (A.bind (A.pure true) (λr=>A.pure (ab.done r))) (λr=>A.pure (ab.done r))) (λr=>A.pure (ab.done r))) λr=>A.pure (ab.done r) else A.pure (ab.next (G.1,IntKind.wrap .i64 (Add.add G.2.1 1),g,())))) else A.bind (A.pure (ab.next (G.1,g,()))) λr=>A.pure (ab.done r))) (G.1,0,G.2.1,()))) (ab.bx (λ(G:Int×aT×Unit)=>A.pure (ab.next (IntKind.wrap .i64 (Add.add G.1 1),G.2.1,())))) else A.bind (A.pure (ab.next (G.2.1,()))) λr=>A.pure (ab.done r)) (0,x,())) (ab.bx (λ(G:aT×Unit)=>A.bind (DF G.1) λy=>if decide (y≠0)=true then A.pure false else A.bind (A.loop (λ(G:Int×aT×Unit)=>letI d:=(List.getD G.2.1.1 (Int.toNat G.1) (0,0,0,0)).2.2;letI b:=G.1<Int.ofNat (List.length G.2.1.1);if decide b=true then A.ah (0<=G.1/\b) (A.ah (0<=G.1/\b) (if decide (IntKind.wrap .i64 (d.2-d.1)>=50)=true then A.bind (A.bind (A.pure true) (λr=>A.pure (ab.done r))) λr=>A.pure (ab.done r) else A.pure (ab.next (IntKind.wrap .i64 (Add.add G.1 1),G.2.1,())))) else A.bind (A.pure (ab.next (G.2.1,()))) λr=>A.pure (ab.done r)) (0,G.1,())) (ab.bx (λ(G:aT×Unit)=>A.pure (decide (Int.ofNat (List.length G.1.1) > 6)||decide (Int.ofNat (List.length G.1.2.1) > 4)||decide (Int.ofNat (List.length G.1.2.2.2) > 10))))))
def ag9 (x:Unit):A aT:=
 A.pure ([(1,2,300,310),(1,3,305,305),(2,1,50,60),(1,2,320,330)],[[(1,[2,3],300,306),(2,[1],40,58)],[(1,[2],310,326)]],5,[(0,1,0,0)])
end Go.Fer
namespace Go.Fer
open A (ab)
set_option linter.unusedVariables false
abbrev eu:Type:=Int×Int×Int×Int×List Int
abbrev e2:Type:=List Int×(Int×Int)×Int×Int×Int
abbrev e_:Type:=Int×Int×Int
abbrev a3:Type:=aT×List Int×List eu×List e2×List e_×Int
abbrev Hd:Type:=List (Int×Int×Int×Int)×List (List (Int×List Int×Int×Int))×Int×List (Int×Int×Int×Int)×Int×List Int×List eu×List e2×List e_×Unit
abbrev ea:Type:=a3×List (Int×Int)×List ((Int×Int×Int)×Int)
def UG (ag_:a3×Bool->A (Int×Int)) (x:a3):A (Int×Int):=
 A.bind (ag_ (x,true)) λy=>A.pure y
def UH (Nq:a3×Bool->A (Option ea×Int)) (ag':Option ea->Prop) (aha:Option ea->List (List Int)) (Nr:Option ea×List Int->A (List (Int×Int×Int)×Bool)) (ahb:Option ea×List (Int×Int×Int)->A Bool) (Ns:Option ea×List (Int×Int×Int)->A Int) (x:a3):A (Int×Int):=
 A.bind (Nq (x,true)) λy=>if decide (y.2≠0)=true then A.pure (0,y.2) else A.ah (ag' y.1) (A.bind (ju (λ(G:Option (a3×List (Int×Int)×List ((Int×Int×Int)×Int))×Int×Unit) (y:List Int)=>A.bind (A.bind (Nr (G.1,y)) (λcu=>A.bind (cJ (!(!cu.2)) (ahb (G.1,cu.1)) false) λet=>if (!cu.2||!et)=true then A.pure (dc.normal,G.1,G.2.1,()) else A.bind (Ns (G.1,cu.1)) λjx=>if (decide (G.2.1=-1)||decide (jx<G.2.1))=true then A.pure (dc.normal,G.1,jx,()) else A.pure (dc.normal,G.1,G.2.1,()))) λp=>A.pure (p.1,p.2.1,p.2.2.1,())) (aha y.1) (y.1,-1,())) (λp=>letI a:=decide (p.2.2.1=-1)=true;qy (if a then A.pure (0,3) else A.pure (p.2.2.1,0)) (λid=>if id=0 then if a then A.pure (0,3) else A.pure (p.2.2.1,0) else A.fail) A.fail p.1))
def UI (Nj:List (Int×Int×Int×Int)×List (List (Int×List Int×Int×Int))×Int×List (Int×Int×Int×Int)->A Int) (ahc:a3->A Bool) (x:a3):A Int:=
 A.bind (Nj x.1) λy=>if decide (y≠0)=true then A.pure y else A.bind (ahc x) λy=>if (!y)=true then A.pure 80 else A.pure 0
def UJ (DF:List (Int×Int×Int×Int)×List (List (Int×List Int×Int×Int))×Int×List (Int×Int×Int×Int)->A Int) (ow:Int×Int×Int->A Bool) (UK:a3×Int×Int×Int×Int×List Int->A Bool) (ahd:List Int×(Int×Int)×Int×Int×Int->A Bool) (x:a3):A Int:=
 letI a:=decide (Int.ofNat (List.length x.2.1)≠Int.ofNat (List.length x.1.1))||decide (Int.ofNat (List.length x.2.2.1) > 8)||decide (Int.ofNat (List.length x.2.2.2.1) > 6)||decide (Int.ofNat (List.length x.2.2.2.2.1) > 8);A.bind (DF x.1) λy=>if decide (y≠0)=true then A.pure y else A.bind (cJ (!a) (ow (x.2.2.2.2.2,0,99)) false) λy=>if (a||!y)=true then A.pure 80 else A.bind (A.loop (λ(G:Int×(aT×List Int×List (Int×Int×Int×Int×List Int)×List e2×List (Int×Int×Int)×Int)×Unit)=>letI g:=G.1<Int.ofNat (List.length G.2.1.2.1);if decide g=true then A.ah (0<=G.1/\g) (A.bind (ow (List.getD G.2.1.2.1 (Int.toNat G.1) 0,0,10)) (λy=>if (!y)=true then A.bind (A.bind (A.pure 80) (λr=>A.pure (ab.done r))) λr=>A.pure (ab.done r) else A.pure (ab.next (IntKind.wrap .i64 (Add.add G.1 1),G.2.1,())))) else A.bind (A.pure (ab.next (G.2.1,()))) λr=>A.pure (ab.done r)) (0,x,())) (ab.bx (λ(G:(aT×List Int×List eu×List e2×List (Int×Int×Int)×Int)×Unit)=>A.bind (A.loop (λ(G:Int×(aT×List Int×List eu×List e2×List (Int×Int×Int)×Int)×Unit)=>letI f:=G.1<Int.ofNat (List.length G.2.1.2.2.1);letI c:=(G.2.1,List.getD G.2.1.2.2.1 (Int.toNat G.1) (0,0,0,0,[]));if decide f=true then A.ah (0<=G.1/\f) (A.ah (UK c).dU (if (!(A.val (UK c) false))=true then A.bind (A.bind (A.pure 80) (λr=>A.pure (ab.done r))) λr=>A.pure (ab.done r) else A.pure (ab.next (IntKind.wrap .i64 (Add.add G.1 1),G.2.1,())))) else A.bind (A.pure (ab.next (G.2.1,()))) λr=>A.pure (ab.done r)) (0,G.1,())) (ab.bx (λ(G:(aT×List Int×List eu×List (List Int×(Int×Int)×Int×Int×Int)×List (Int×Int×Int)×Int)×Unit)=>A.bind (A.loop (λ(G:Int×(aT×List Int×List eu×List (List Int×(Int×Int)×Int×Int×Int)×List (Int×Int×Int)×Int)×Unit)=>letI e:=G.1<Int.ofNat (List.length G.2.1.2.2.2.1);if decide e=true then A.ah (0<=G.1/\e) (A.bind (ahd (List.getD G.2.1.2.2.2.1 (Int.toNat G.1) ([],(0,0),0,0,0))) (λy=>if (!y)=true then A.bind (A.bind (A.pure 80) (λr=>A.pure (ab.done r))) λr=>A.pure (ab.done r) else A.pure (ab.next (IntKind.wrap .i64 (Add.add G.1 1),G.2.1,())))) else A.bind (A.pure (ab.next (G.2.1,()))) λr=>A.pure (ab.done r)) (0,G.1,())) (ab.bx (λ(G:(a3)×Unit)=>A.bind (A.loop (λ(G:Int×(aT×List Int×List eu×List e2×List (Int×Int×Int)×Int)×Unit)=>letI d:=G.1<Int.ofNat (List.length G.2.1.2.2.2.2.1);letI b:=List.getD G.2.1.2.2.2.2.1 (Int.toNat G.1) (0,0,0);if decide d=true then A.ah (0<=G.1/\d) (A.bind (ow (b.1,0,99)) (λy=>A.bind (cJ (!(!y)) (ow (b.2.1,0,IntKind.wrap .i64 (Int.ofNat (List.length G.2.1.1.1)-1))) false) λcu=>A.bind (cJ (!(!y||!cu)) (ow (b.2.2,1,10)) false) λet=>if (!y||!cu||!et)=true then A.bind (A.bind (A.pure 80) (λr=>A.pure (ab.done r))) λr=>A.pure (ab.done r) else A.pure (ab.next (IntKind.wrap .i64 (Add.add G.1 1),G.2.1,())))) else A.bind (A.pure (ab.next ())) λr=>A.pure (ab.done r)) (0,G.1,())) (ab.bx (λ(G:Unit)=>A.pure 0))))))))
def UL (Nt:a3->A Int) (ahe:a3×Int->A Bool) (ahf:a3×Int->A Bool) (x4:(List Int×(Int×Int)×Int×Int×Int)×Int×Int×Int×Int×List Int->A Int) (x:a3×Int×Int):A (Int×Int):=
 letI a:=(List.getD x.1.2.2.2.1 (Int.toNat x.2.1) ([],(0,0),0,0,0),List.getD x.1.2.2.1 (Int.toNat x.2.2) (0,0,0,0,[]));A.bind (Nt x.1) λy=>if decide (y≠0)=true then A.pure (0,y) else A.bind (ahe (x.1,x.2.1)) λy=>A.bind (cJ (!(!y)) (ahf (x.1,x.2.2)) false) λcu=>if (!y||!cu)=true then A.pure (0,1) else A.ah (0<=x.2.1/\x.2.1<Int.ofNat (List.length x.1.2.2.2.1)) (A.ah (0<=x.2.2/\x.2.2<Int.ofNat (List.length x.1.2.2.1)) (A.ah (x4 a).dU (A.pure (A.val (x4 a) 0,0))))
def UM (Nq:a3×Bool->A (Option ea×Int)) (ahg:Option ea->A (List Int)) (nQ:Option ea×List Int->A Int) (x:a3×Bool):A (Int×Int):=
 A.bind (Nq x) λy=>if decide (y.2≠0)=true then A.pure (0,y.2) else A.bind (ahg y.1) λcu=>A.bind (nQ (y.1,cu)) λy=>A.pure (y,0)
def Nu (Nt:a3->A Int) (ahh:aT×Int->A ((Int×Int)×Int)) (DH:aT×Int×Int×Int->A (Int×Int)) (Au:List (Int×Int)×Int->A (List (Int×Int))) (x:a3×Bool):A (Option ea×Int):=
 letI eS:=x.1.1.2;letI f1:=x.1.2.2;A.bind (Nt x.1) λy=>if decide (y≠0)=true then A.pure (none,y) else if (!x.2)=true then A.pure (none,1) else A.bind (if decide (Int.ofNat (List.length x.1.2.1) > 0)=true then A.bind (ahh (x.1.1,0)) λy=>if decide (y.2≠0)=true then A.bind (A.pure (none,y.2)) λr=>A.pure (ab.done r) else A.pure (ab.next (x.1,[],x.1.1.1,eS.1,eS.2.1,eS.2.2,x.1.2.1,f1.1,f1.2.1,f1.2.2.1,f1.2.2.2,())) else A.pure (ab.next (x.1,[],x.1.1.1,eS.1,eS.2.1,eS.2.2,x.1.2.1,f1.1,f1.2.1,f1.2.2.1,f1.2.2.2,()))) (ab.bx (λ(G:(aT×List Int×List eu×List (List Int×(Int×Int)×Int×Int×Int)×List (Int×Int×Int)×Int)×List ((Int×Int×Int)×Int)×List (Int×Int×Int×Int)×List (List (Int×List Int×Int×Int))×Int×List (Int×Int×Int×Int)×List Int×List eu×List (List Int×(Int×Int)×Int×Int×Int)×List (Int×Int×Int)×Int×Unit)=>letI t:=G.2.2.2.2.2;A.bind (A.loop (λ(G:Int×Int×(aT×List Int×List eu×List e2×List (Int×Int×Int)×Int)×List ((Int×Int×Int)×Int)×List (Int×Int×Int×Int)×List (List (Int×List Int×Int×Int))×Int×List (Int×Int×Int×Int)×List Int×List eu×List (List Int×(Int×Int)×Int×Int×Int)×List (Int×Int×Int)×Int×Unit)=>letI bH:=G.2.2;letI h:=bH.2.2.2.2;letI ek:=h.2.2.2;if decide (G.2.1<G.1)=true then A.bind (A.loop (λ(G:Int×Int×Int×List (List (Int×List Int×Int×Int))×Int×Int×(aT×List Int×List eu×List (List Int×(Int×Int)×Int×Int×Int)×List (Int×Int×Int)×Int)×List ((Int×Int×Int)×Int)×List (Int×Int×Int×Int)×List (List (Int×List Int×Int×Int))×Int×List (Int×Int×Int×Int)×List Int×List eu×List e2×List (Int×Int×Int)×Int×Unit)=>letI i1:=G.2.2.2;letI j:=i1.2.2;letI c:=j.2.2.2;letI o:=c.2.2.2.2;if decide (j.1<i1.2.1)=true then A.bind (A.ah (0<=j.1/\j.1<Int.ofNat (List.length i1.1)) (A.loop (λ(G:Int×Int×Int×Int×List (List (Int×List Int×Int×Int))×Int×Int×Int×Int×(aT×List Int×List eu×List e2×List (Int×Int×Int)×Int)×List ((Int×Int×Int)×Int)×List (Int×Int×Int×Int)×List (List (Int×List Int×Int×Int))×Int×List (Int×Int×Int×Int)×List Int×List (Int×Int×Int×Int×List Int)×List e2×List (Int×Int×Int)×Int×Unit)=>letI eb:=G.2.2;letI k:=eb.2.2;letI hH:=k.2.2;letI a:=hH.2.2;letI w:=a.2.2.2;letI f:=w.2.2.2;letI d1:=f.2.2.2;if decide (a.1<hH.2.1)=true then A.bind (A.bind (DH (a.2.1.1,G.1,G.2.1,a.1)) (λy=>if decide (y.1=1)=true then A.ah True (A.ah (True/\True/\True) (A.ah True (A.pure (ab.next (G.1,G.2.1,eb.1,eb.2.1,k.1,k.2.1,hH.1,hH.2.1,a.1,a.2.1,wa a.2.2.1 (G.1,G.2.1,a.1) (IntKind.wrap .i64 (Add.add (Option.getD (Option.map (λx=>x.2) (List.find? (λp=>decide (G.1=p.1.1)&&(decide (G.2.1=p.1.2.1)&&decide (a.1=p.1.2.2))) a.2.2.1)) 0) 1)),w.1,w.2.1,w.2.2.1,f.1,f.2.1,f.2.2.1,d1.1,d1.2.1,d1.2.2.1,()))))) else A.pure (ab.next (G.1,G.2.1,eb.1,eb.2.1,k.1,k.2.1,hH.1,hH.2.1,a.1,a.2.1,a.2.2.1,w.1,w.2.1,w.2.2.1,f.1,f.2.1,f.2.2.1,d1.1,d1.2.1,d1.2.2.1,())))) (ab.bx (λ(G:Int×Int×Int×Int×List (List (Int×List Int×Int×Int))×Int×Int×Int×Int×a3×List ((Int×Int×Int)×Int)×List (Int×Int×Int×Int)×List (List (Int×List Int×Int×Int))×Int×List (Int×Int×Int×Int)×List Int×List eu×List e2×List (Int×Int×Int)×Int×Unit)=>letI aK:=G.2.2.2.2.2;letI g:=aK.2.2.2.2;letI z:=g.2.2.2.2.2;A.pure (ab.next (G.1,G.2.1,G.2.2.1,G.2.2.2.1,G.2.2.2.2.1,aK.1,aK.2.1,aK.2.2.1,IntKind.wrap .i64 (Add.add aK.2.2.2.1 1),g.1,g.2.1,g.2.2.1,g.2.2.2.1,g.2.2.2.2.1,z.1,z.2.1,z.2.2.1,z.2.2.2.1,z.2.2.2.2.1,z.2.2.2.2.2.1,())))) else A.bind (A.pure (ab.next (G.1,eb.1,eb.2.1,k.1,k.2.1,hH.1,a.2.1,a.2.2.1,w.1,w.2.1,w.2.2.1,f.1,f.2.1,f.2.2.1,d1.1,d1.2.1,d1.2.2.1,()))) λr=>A.pure (ab.done r)) (G.1,j.1,G.2.1,G.2.2.1,i1.1,i1.2.1,j.1,Int.ofNat (List.length (List.getD i1.1 (Int.toNat j.1) [])),0,j.2.1,j.2.2.1,c.1,c.2.1,c.2.2.1,c.2.2.2.1,o.1,o.2.1,o.2.2.1,o.2.2.2.1,o.2.2.2.2.1,()))) (ab.bx (λ(G:Int×Int×Int×List (List (Int×List Int×Int×Int))×Int×Int×(aT×List Int×List eu×List e2×List (Int×Int×Int)×Int)×List ((Int×Int×Int)×Int)×List (Int×Int×Int×Int)×List (List (Int×List Int×Int×Int))×Int×List (Int×Int×Int×Int)×List Int×List eu×List (List Int×(Int×Int)×Int×Int×Int)×List (Int×Int×Int)×Int×Unit)=>letI M:=G.2.2.2.2;letI i:=M.2.2.2.2;letI aS:=i.2.2.2.2;A.pure (ab.next (G.1,G.2.1,G.2.2.1,G.2.2.2.1,M.1,IntKind.wrap .i64 (Add.add M.2.1 1),M.2.2.1,M.2.2.2.1,i.1,i.2.1,i.2.2.1,i.2.2.2.1,aS.1,aS.2.1,aS.2.2.1,aS.2.2.2.1,aS.2.2.2.2.1,())))) else A.bind (A.pure (ab.next (G.2.1,G.2.2.1,j.2.1,j.2.2.1,c.1,c.2.1,c.2.2.1,c.2.2.2.1,o.1,o.2.1,o.2.2.1,o.2.2.2.1,o.2.2.2.2.1,()))) λr=>A.pure (ab.done r)) (G.2.1,G.1,G.2.1,bH.1.1.2.1,Int.ofNat (List.length bH.1.1.2.1),0,bH.1,bH.2.1,bH.2.2.1,bH.2.2.2.1,h.1,h.2.1,h.2.2.1,ek.1,ek.2.1,ek.2.2.1,ek.2.2.2.1,())) (ab.bx (λ(G:Int×Int×(aT×List Int×List eu×List (List Int×(Int×Int)×Int×Int×Int)×List (Int×Int×Int)×Int)×List ((Int×Int×Int)×Int)×List (Int×Int×Int×Int)×List (List (Int×List Int×Int×Int))×Int×List (Int×Int×Int×Int)×List Int×List eu×List (List Int×(Int×Int)×Int×Int×Int)×List (Int×Int×Int)×Int×Unit)=>letI h5:=G.2.2.2;letI m:=h5.2.2.2;A.pure (ab.next (G.1,IntKind.wrap .i64 (Add.add G.2.1 1),G.2.2.1,h5.1,h5.2.1,h5.2.2.1,m.1,m.2.1,m.2.2.1,m.2.2.2.1,m.2.2.2.2.1,m.2.2.2.2.2.1,m.2.2.2.2.2.2.1,())))) else A.bind (A.pure (ab.next (bH.1,bH.2.1,bH.2.2.1,bH.2.2.2.1,h.1,h.2.1,h.2.2.1,ek.1,ek.2.1,ek.2.2.1,ek.2.2.2.1,()))) λr=>A.pure (ab.done r)) (Int.ofNat (List.length G.1.2.1),0,G.1,G.2.1,G.2.2.1,G.2.2.2.1,G.2.2.2.2.1,t.1,t.2.1,t.2.2.1,t.2.2.2.1,t.2.2.2.2.1,t.2.2.2.2.2.1,())) (ab.bx (λ(G:(aT×List Int×List (Int×Int×Int×Int×List Int)×List e2×List (Int×Int×Int)×Int)×List ((Int×Int×Int)×Int)×List (Int×Int×Int×Int)×List (List (Int×List Int×Int×Int))×Int×List (Int×Int×Int×Int)×List Int×List (Int×Int×Int×Int×List Int)×List e2×List (Int×Int×Int)×Int×Unit)=>letI u:=G.2.2.2.2.2;A.bind (A.loop (λ(G:List Int×Int×Int×(aT×List Int×List eu×List e2×List (Int×Int×Int)×Int)×List ((Int×Int×Int)×Int)×List (Int×Int×Int×Int)×List (List (Int×List Int×Int×Int))×Int×List (Int×Int×Int×Int)×List Int×List (Int×Int×Int×Int×List Int)×List e2×List (Int×Int×Int)×Int×List (Int×Int)×Unit)=>letI l:=G.2.2;letI kv:=l.2.2.2;letI n:=List.getD G.1 (Int.toNat l.1) 0;letI d:=kv.2.2.2;letI bN:=d.2.2.2.2;if decide (l.1<G.2.1)=true then A.ah (0<=l.1/\l.1<Int.ofNat (List.length G.1)) (A.ah True (A.ah (Au ([(l.1,0)],n)).dU (A.ah (bT (Add.add (List.length bN.2.2.1) (List.length (A.val (Au ([(l.1,0)],n)) [])))) (A.ah True (A.pure (ab.next (G.1,G.2.1,IntKind.wrap .i64 (Add.add l.1 1),l.2.1,l.2.2.1,kv.1,kv.2.1,kv.2.2.1,d.1,d.2.1,d.2.2.1,d.2.2.2.1,bN.1,bN.2.1,bN.2.2.1++A.val (Au ([(l.1,0)],n)) [],()))))))) else A.bind (A.pure (ab.next (l.2.1,l.2.2.1,kv.1,kv.2.1,kv.2.2.1,d.1,d.2.1,d.2.2.1,d.2.2.2.1,bN.1,bN.2.1,bN.2.2.1,()))) λr=>A.pure (ab.done r)) (G.1.2.1,Int.ofNat (List.length G.1.2.1),0,G.1,G.2.1,G.2.2.1,G.2.2.2.1,G.2.2.2.2.1,u.1,u.2.1,u.2.2.1,u.2.2.2.1,u.2.2.2.2.1,u.2.2.2.2.2.1,[],())) (ab.bx (λ(G:(aT×List Int×List eu×List (List Int×(Int×Int)×Int×Int×Int)×List (Int×Int×Int)×Int)×List ((Int×Int×Int)×Int)×List (Int×Int×Int×Int)×List (List (Int×List Int×Int×Int))×Int×List (Int×Int×Int×Int)×List Int×List eu×List e2×List (Int×Int×Int)×Int×List (Int×Int)×Unit)=>letI q:=G.2.2.2.2.2;A.bind (A.loop (λ(G:List (Int×Int×Int)×Int×Int×List ((Int×Int×Int)×Int)×List (Int×Int×Int×Int)×List (List (Int×List Int×Int×Int))×Int×List (Int×Int×Int×Int)×List Int×List (Int×Int×Int×Int×List Int)×List e2×List (Int×Int×Int)×Int×List (Int×Int)×Unit)=>letI s:=G.2.2;letI dO:=s.2.2.2;letI e:=dO.2.2;letI e0:=e.2.2.2.2;letI b:=List.getD G.1 (Int.toNat s.1) (0,0,0);letI db:=(b.2.1,b.1);if decide (s.1<G.2.1)=true then A.ah (0<=s.1/\s.1<Int.ofNat (List.length G.1)) (A.ah True (A.ah (Au ([db],b.2.2)).dU (A.ah (bT (Add.add (List.length e0.2.2.1) (List.length (A.val (Au ([db],b.2.2)) [])))) (A.ah True (A.pure (ab.next (G.1,G.2.1,IntKind.wrap .i64 (Add.add s.1 1),s.2.1,s.2.2.1,dO.1,dO.2.1,e.1,e.2.1,e.2.2.1,e.2.2.2.1,e0.1,e0.2.1,e0.2.2.1++A.val (Au ([db],b.2.2)) [],()))))))) else A.bind (A.pure (ab.next (s.2.1,s.2.2.1,dO.1,dO.2.1,e.1,e.2.1,e.2.2.1,e.2.2.2.1,e0.1,e0.2.1,e0.2.2.1,()))) λr=>A.pure (ab.done r)) (G.1.2.2.2.2.1,Int.ofNat (List.length G.1.2.2.2.2.1),0,G.2.1,G.2.2.1,G.2.2.2.1,G.2.2.2.2.1,q.1,q.2.1,q.2.2.1,q.2.2.2.1,q.2.2.2.2.1,q.2.2.2.2.2.1,q.2.2.2.2.2.2.1,())) (ab.bx (λ(G:List ((Int×Int×Int)×Int)×List (Int×Int×Int×Int)×List (List (Int×List Int×Int×Int))×Int×List (Int×Int×Int×Int)×List Int×List (Int×Int×Int×Int×List Int)×List e2×List (Int×Int×Int)×Int×List (Int×Int)×Unit)=>letI v:=G.2.2.2.2.2;A.pure (some (((G.2.1,G.2.2.1,G.2.2.2.1,G.2.2.2.2.1),v.1,v.2.1,v.2.2.1,v.2.2.2.1,v.2.2.2.2.1),v.2.2.2.2.2.1,G.1),0)))))))))
def Nv (x4:(List Int×(Int×Int)×Int×Int×Int)×Int×Int×Int×Int×List Int->A Int) (x:Option ea×List Int):A (List (Int×Int×Int)×Bool):=
 A.bind (A.loop (λ(G:Option ((aT×List Int×List eu×List e2×List (Int×Int×Int)×Int)×List (Int×Int)×List ((Int×Int×Int)×Int))×List Int×Int×Int×List (Int×Int×Int)×Unit)=>letI l:=G.2;letI g:=Option.isSome G.1=true;letI e:=l.2.2;letI j:=Int.toNat e.1;letI b:=List.getD l.1 j 0;letI a:=(Option.getD G.1 ((([],[],0,[]),[],[],[],[],0),[],[])).1.2.2;letI f:=List.getD a.1 (Int.toNat b) (0,0,0,0,[]);letI d:=List.getD a.2.1 j ([],(0,0),0,0,0);if decide (e.1<l.2.1)=true then A.bind (A.ah (0<=e.1/\e.1<Int.ofNat (List.length l.1)) (if decide (List.getD l.1 j (0:Int)<0)=true then A.pure (ab.next (G.1,l.1,l.2.1,e.1,e.2.1,())) else A.ah g (A.ah (0<=e.1/\e.1<Int.ofNat (List.length a.2.1)) (A.ah g (A.ah (0<=b/\b<Int.ofNat (List.length a.1)) (A.bind (A.bind (x4 (d,f)) (λy=>if decide (y=0)=true then A.bind (A.bind (A.bind (A.bind (A.pure ([],false)) (λr=>A.pure (ab.done r))) (λr=>A.pure (ab.done r))) (λr=>A.pure (ab.done r))) λr=>A.pure (ab.done r) else if decide (y=2)=true then A.ah g (A.pure (ab.next (G.1,IntKind.wrap .i64 (d.2.2.2.1-a.2.2.2),l.1,l.2.1,e.1,e.2.1,f,()))) else A.pure (ab.next (G.1,d.2.2.2.1,l.1,l.2.1,e.1,e.2.1,f,())))) (ab.bx (λ(G:Option ((aT×List Int×List eu×List (List Int×(Int×Int)×Int×Int×Int)×List (Int×Int×Int)×Int)×List (Int×Int)×List ((Int×Int×Int)×Int))×Int×List Int×Int×Int×List (Int×Int×Int)×(Int×Int×Int×Int×List Int)×Unit)=>letI h:=G.2.2.2.2;if decide (G.2.1<0)=true then A.bind (A.bind (A.bind (A.pure ([],false)) (λr=>A.pure (ab.done r))) (λr=>A.pure (ab.done r))) λr=>A.pure (ab.done r) else A.loop (λ(G:Option ((aT×List Int×List eu×List e2×List (Int×Int×Int)×Int)×List (Int×Int)×List ((Int×Int×Int)×Int))×Int×List Int×Int×Int×List Int×Int×Int×List (Int×Int×Int)×(Int×Int×Int×Int×List Int)×Unit)=>letI k:=G.2.2.2;letI c:=k.2.2;letI i:=c.2.2;if decide (i.1<c.2.1)=true then A.ah (0<=i.1/\i.1<Int.ofNat (List.length c.1)) (A.ah (bT (Add.add (List.length i.2.1) (Add.add 0 1))) (A.pure (ab.next (G.1,G.2.1,G.2.2.1,k.1,k.2.1,c.1,c.2.1,IntKind.wrap .i64 (Add.add i.1 1),i.2.1++[(i.2.2.1.2.2.2.1,List.getD c.1 (Int.toNat i.1) 0,G.2.1)],i.2.2.1,())))) else A.bind (A.pure (ab.next (G.1,G.2.2.1,k.1,k.2.1,i.2.1,()))) λr=>A.pure (ab.done r)) (G.1,G.2.1,G.2.2.1,G.2.2.2.1,h.1,h.2.2.1.2.2.2.2,Int.ofNat (List.length h.2.2.1.2.2.2.2),0,h.2.1,h.2.2.1,()))))))))) (ab.bx (λ(G:Option (a3×List (Int×Int)×List ((Int×Int×Int)×Int))×List Int×Int×Int×List (Int×Int×Int)×Unit)=>A.pure (ab.next (G.1,G.2.1,G.2.2.1,IntKind.wrap .i64 (Add.add G.2.2.2.1 1),G.2.2.2.2.1,())))) else A.bind (A.pure (ab.next (e.2.1,()))) λr=>A.pure (ab.done r)) (x.1,x.2,Int.ofNat (List.length x.2),0,[],())) (ab.bx (λ(G:List (Int×Int×Int)×Unit)=>A.pure (G.1,true)))
def Nw (He:Option ea×(Int×Int)×Int×Int×Int->A Bool) (x:Option ea×List (Int×Int×Int)):A Bool:=
 A.bind (A.loop (λ(G:Option ((aT×List Int×List eu×List e2×List (Int×Int×Int)×Int)×List (Int×Int)×List ((Int×Int×Int)×Int))×List (Int×Int×Int)×Int×Int×Unit)=>letI b:=G.2.2.2.1;if decide (b<G.2.2.1)=true then A.bind (A.ah (0<=b/\b<Int.ofNat (List.length G.2.1)) (A.bind (A.ah (Option.isSome G.1=true) (A.loop (λ(G:Option ((a3)×List (Int×Int)×List ((Int×Int×Int)×Int))×Bool×List (Int×Int×Int)×Int×Int×Int×Int×(Int×Int×Int)×Unit)=>letI a:=G.2.2.2.2;if decide (a.2.2.1<a.2.1)=true then A.bind (cJ (!G.2.1) (He (G.1,(a.2.2.1,0),a.2.2.2.1)) false) λy=>A.pure (ab.next (G.1,G.2.1||y,G.2.2.1,G.2.2.2.1,a.1,a.2.1,IntKind.wrap .i64 (Add.add a.2.2.1 1),a.2.2.2.1,())) else A.bind (A.pure (ab.next (G.1,G.2.1,G.2.2.1,G.2.2.2.1,a.1,()))) λr=>A.pure (ab.done r)) (G.1,false,G.2.1,G.2.2.1,b,Int.ofNat (List.length (Option.getD G.1 ((([],[],0,[]),[],[],[],[],0),[],[])).1.2.1),0,List.getD G.2.1 (Int.toNat b) (0,0,0),()))) (ab.bx (λ(G:Option ((aT×List Int×List eu×List (List Int×(Int×Int)×Int×Int×Int)×List (Int×Int×Int)×Int)×List (Int×Int)×List ((Int×Int×Int)×Int))×Bool×List (Int×Int×Int)×Int×Int×Unit)=>if (!G.2.1)=true then A.bind (A.bind (A.bind (A.pure false) (λr=>A.pure (ab.done r))) (λr=>A.pure (ab.done r))) λr=>A.pure (ab.done r) else A.pure (ab.next (G.1,G.2.2.1,G.2.2.2.1,G.2.2.2.2.1,())))))) (ab.bx (λ(G:Option ((aT×List Int×List (Int×Int×Int×Int×List Int)×List e2×List (Int×Int×Int)×Int)×List (Int×Int)×List ((Int×Int×Int)×Int))×List (Int×Int×Int)×Int×Int×Unit)=>A.pure (ab.next (G.1,G.2.1,G.2.2.1,IntKind.wrap .i64 (Add.add G.2.2.2.1 1),())))) else A.bind (A.pure (ab.next ())) λr=>A.pure (ab.done r)) (x.1,x.2,Int.ofNat (List.length x.2),0,())) (ab.bx (λ(G:Unit)=>A.pure true))
def Nx (ahi:List Int×Int×Unit->A (List Int×Unit)) (Ny:Option ea×List (Int×Int×Int)×Int×List (Int×Int)×List Int×Unit->A (Bool×List (Int×Int)×List Int×Unit)) (x:Option ea×List (Int×Int×Int)):A Int:=
 A.ah (Option.isSome x.1=true) (A.bind (ahi ([-1],Int.ofNat (List.length (Option.getD x.1 ((([],[],0,[]),[],[],[],[],0),[],[])).2.1),())) (λy=>A.bind (A.loop (λ(G:Option ((aT×List Int×List eu×List (List Int×(Int×Int)×Int×Int×Int)×List (Int×Int×Int)×Int)×List (Int×Int)×List ((Int×Int×Int)×Int))×List (Int×Int×Int)×Int×Int×Int×List Int×Unit)=>letI a:=G.2.2.2;if decide (a.2.1<a.1)=true then A.bind (A.bind (Ny (G.1,G.2.1,a.2.1,[],a.2.2.1,())) (λy=>if (!y.1)=true then A.pure (ab.next (G.1,G.2.1,IntKind.wrap .i64 (Add.add G.2.2.1 1),a.1,a.2.1,y.2.2.1,())) else A.pure (ab.next (G.1,G.2.1,G.2.2.1,a.1,a.2.1,y.2.2.1,())))) (ab.bx (λ(G:Option ((aT×List Int×List (Int×Int×Int×Int×List Int)×List e2×List (Int×Int×Int)×Int)×List (Int×Int)×List ((Int×Int×Int)×Int))×List (Int×Int×Int)×Int×Int×Int×List Int×Unit)=>A.pure (ab.next (G.1,G.2.1,G.2.2.1,G.2.2.2.1,IntKind.wrap .i64 (Add.add G.2.2.2.2.1 1),G.2.2.2.2.2.1,())))) else A.bind (A.pure (ab.next (G.2.2.1,()))) λr=>A.pure (ab.done r)) (x.1,x.2,0,Int.ofNat (List.length x.2),0,y.1,())) (ab.bx (λ(G:Int×Unit)=>A.pure G.1))))
def UN (lp:Int×Int×Int->A Bool) (x:a3×Int):A Bool:=
 A.bind (lp (x.2,0,IntKind.wrap .i64 (Int.ofNat (List.length x.1.2.2.2.1)-1))) λy=>A.pure y
def ahj (uC:Int×Int->A (Int×Int)) (x:List Int×Int):A (List Int):=
 A.bind (if decide (x.2<0)=true then A.ah False (A.ah False (A.pure (ab.next (x.1,x.2,())))) else A.pure (ab.next (x.1,x.2,()))) (ab.bx (λ(G:List Int×Int×Unit)=>A.bind (uC (IntKind.wrap .u64 (Int.ofNat (List.length G.1)),IntKind.wrap .u64 G.2.1)) λy=>A.bind (if (decide (y.1 > 0)||decide (y.2 > 9223372036854775807))=true then A.ah False (A.ah False (A.pure (ab.next (G.1,y.2,())))) else A.pure (ab.next (G.1,y.2,()))) (ab.bx (λ(G:List Int×Int×Unit)=>letI b:=IntKind.wrap .i64 G.2.1;letI f:=Int.toNat b;letI e:=List.take (List.length (List.replicate f (0:Int))-0) G.1;A.ah (0<=b/\b=b/\bT f) (A.ah True (A.bind (A.loop (λ(G:Int×List Int×Unit)=>letI g:=Int.toNat G.1;letI c:=List.take g G.2.1;letI a:=Int.ofNat (List.length G.2.1);letI d:=Int.toNat a-g;if decide (G.1<a)=true then A.ah (0<=G.1/\G.1<=a/\a<=a) (A.ah ((0:Int)<=0/\0<=G.1/\G.1<=a) (A.ah True (A.pure (ab.next (IntKind.wrap .i64 (Add.add G.1 (Int.ofNat (if d<=List.length c then d else List.length c))),c++List.take d c++List.drop (Add.add g (List.length (List.take d c))) G.2.1,()))))) else A.bind (A.pure (ab.next (G.2.1,()))) λr=>A.pure (ab.done r)) (Int.ofNat (if List.length (List.replicate f (0:Int))-0<=List.length G.1 then List.length (List.replicate f (0:Int))-0 else List.length G.1),[]++e++List.drop (Add.add 0 (List.length e)) (List.replicate f (0:Int)),())) (ab.bx (λ(G:List Int×Unit)=>A.pure G.1))))))))
def UO (Nr:Option ea×List Int->A (List (Int×Int×Int)×Bool)) (Ns:Option ea×List (Int×Int×Int)->A Int) (x:Option ea×List Int):A Bool:=
 A.bind (Nr x) λy=>A.bind (cJ y.2 (Ns (x.1,y.1)) 0) λcu=>A.pure (y.2&&decide (cu=0))
def UP (DI:Int->A Bool) (Nz:List Int×(Int->A Bool)->A Bool) (ahk:List eu×(Int×Int×Int×Int×List Int->A Bool)->A Bool) (ahl:List e2×(List Int×(Int×Int)×Int×Int×Int->A Bool)->A Bool) (ahm:List (Int×Int×Int)×(Int×Int×Int->A Bool)->A Bool) (ahn:(Int×Int×Int×Int×List Int)×Option aT->A Bool) (aho:(Int×Int×Int)×Option aT->A Bool) (ahp:List Int×(Int×Int)×Int×Int×Int->A Bool) (ahq:Int->A Bool) (x:a3):A Bool:=
 letI e:=x.2.2.2;letI b:=decide (Int.ofNat (List.length x.2.1)=Int.ofNat (List.length x.1.1));A.bind (cJ b (Nz (x.2.1,ahq)) false) λy=>letI d:=b&&!y&&decide (Int.ofNat (List.length x.2.2.1)<=8);A.bind (cJ d (ahk (x.2.2.1,λiF=>ahn (iF,some x.1))) false) λcu=>letI a:=d&&!cu&&decide (Int.ofNat (List.length e.1)<=6);A.bind (cJ a (ahl (e.1,ahp)) false) λet=>letI c:=a&&!et&&decide (Int.ofNat (List.length e.2.1)<=8);A.bind (cJ c (ahm (e.2.1,λiF=>aho (iF,some x.1))) false) λjx=>A.bind (cJ (c&&!jx) (DI e.2.2) false) λmi=>A.pure (c&&!jx&&mi)
def ahr (x:Int×Int×Int):A Bool:=
 A.pure (decide (x.2.1<=x.1)&&decide (x.1<=x.2.2))
def UQ (ow:Int×Int×Int->A Bool) (Hf:List Int×Int->A Bool) (x:a3×Int×Int×Int×Int×List Int):A Bool:=
 letI c:=x.2.2.2.2;letI b:=Int.ofNat (List.length x.1.1.2.1);letI a:=(c.2,IntKind.wrap .i64 (Int.ofNat (List.length (List.getD x.1.1.2.1 (Int.toNat c.1) []))-1));A.bind (ow (x.2.1,0,99)) λy=>A.bind (cJ (!(!y)) (ow (x.2.2.1,0,99)) false) λcu=>A.bind (cJ (!(!y||!cu)) (ow (x.2.2.2.1,0,99)) false) λet=>A.bind (cJ (!(!y||!cu||!et)) (ow (c.1,0,IntKind.wrap .i64 (b-1))) false) λjx=>if (!y||!cu||!et||!jx)=true then A.pure false else A.ah (0<=c.1/\c.1<b) (A.ah (Hf a).dU (A.pure (A.val (Hf a) false)))
def UR (ow:Int×Int×Int->A Bool) (Hf:List Int×Int->A Bool) (x:List Int×(Int×Int)×Int×Int×Int):A Bool:=
 A.bind (ow (Int.ofNat (List.length x.1),1,8)) λy=>A.bind (cJ y (Hf (x.1,99)) false) λcu=>letI a:=y&&cu&&decide (0<=x.2.1.1)&&decide (x.2.1.1<=x.2.1.2)&&decide (x.2.1.2<=99);A.bind (cJ a (ow (x.2.2.1,0,99)) false) λet=>A.bind (cJ (a&&et) (ow (x.2.2.2.1,0,99)) false) λjx=>A.bind (cJ (a&&et&&jx) (ow (x.2.2.2.2,0,100000)) false) λmi=>A.pure (a&&et&&jx&&mi)
def US (lp:Int×Int×Int->A Bool) (x:a3×Int):A Bool:=
 A.bind (lp (x.2,0,IntKind.wrap .i64 (Int.ofNat (List.length x.1.2.2.1)-1))) λy=>A.pure y
def UT (lp:Int×Int×Int->A Bool) (iS:List Int×Int->A Bool) (x:(List Int×(Int×Int)×Int×Int×Int)×Int×Int×Int×Int×List Int):A Int:=
 A.bind (iS (x.1.1,x.2.1)) λy=>A.bind (cJ (!(!y)) (lp (x.2.2.1,x.1.2.1)) false) λcu=>if (!y||!cu)=true then A.pure 0 else if decide (x.2.2.2.1=x.1.2.2.1)=true then A.pure 1 else if decide (x.2.2.2.1=0)=true then A.pure 2 else A.pure 0
def NA (ahs:List Int×Int->A (List Int)) (UU:Option ea×List Int->A Bool) (nQ:Option ea×List Int->A Int) (aht:Option ea->Prop) (ahu:Option ea->List (List Int)) (x:Option ea):A (List Int):=
 A.ah (Option.isSome x=true) (A.bind (ahs ([-1],Int.ofNat (List.length (Option.getD x ((([],[],0,[]),[],[],[],[],0),[],[])).1.2.2.2.1))) (λy=>A.ah (aht x) (A.bind (ju (λ(G:Option ((aT×List Int×List eu×List (List Int×(Int×Int)×Int×Int×Int)×List (Int×Int×Int)×Int)×List (Int×Int)×List ((Int×Int×Int)×Int))×List Int×Unit) (y:List Int)=>letI b:=(G.1,y);letI a:=(G.1,G.2.1);A.bind (A.ah (nQ b).dU (A.ah (nQ a).dU (A.ah (decide (A.val (nQ b) 0 > A.val (nQ a) 0)=true->(decide (A.val (nQ b) 0 > A.val (nQ a) 0)=true/\decide (A.val (nQ b) 0 > A.val (nQ a) 0)=true/\True)/\(UU b).dU/\True) (A.ah (True/\(decide (A.val (nQ b) 0 > A.val (nQ a) 0)=true->decide (A.val (nQ b) 0 > A.val (nQ a) 0)=true)) (if (decide (A.val (nQ b) 0 > A.val (nQ a) 0)&&A.val (UU b) false)=true then A.pure (dc.normal,G.1,y,()) else A.pure (dc.normal,G.1,G.2.1,())))))) λp=>A.pure (p.1,p.2.1,p.2.2.1,())) (ahu x) (x,y,())) (λp=>qy (A.pure p.2.2.1) (λid=>if id=0 then A.pure p.2.2.1 else A.fail) A.fail p.1))))
def NB (x:Option ea×List Int):A Int:=
 A.bind (A.loop (λ(G:Option ((aT×List Int×List eu×List e2×List (Int×Int×Int)×Int)×List (Int×Int)×List ((Int×Int×Int)×Int))×Int×List Int×Int×Int×Unit)=>letI c:=G.2.2;letI b:=(Option.getD G.1 ((([],[],0,[]),[],[],[],[],0),[],[])).1.2.2.2.1;letI a:=c.2.2.1;if decide (a<c.2.1)=true then A.bind (A.ah (0<=a/\a<Int.ofNat (List.length c.1)) (if decide (List.getD c.1 (Int.toNat a) (0:Int)≠-1)=true then A.ah (Option.isSome G.1=true) (A.ah (0<=a/\a<Int.ofNat (List.length b)) (A.pure (ab.next (G.1,IntKind.wrap .i64 (Add.add G.2.1 (List.getD b (Int.toNat a) ([],(0,0),0,0,0)).2.2.2.2),c.1,c.2.1,a,())))) else A.pure (ab.next (G.1,G.2.1,c.1,c.2.1,a,())))) (ab.bx (λ(G:Option ((aT×List Int×List (Int×Int×Int×Int×List Int)×List e2×List (Int×Int×Int)×Int)×List (Int×Int)×List ((Int×Int×Int)×Int))×Int×List Int×Int×Int×Unit)=>A.pure (ab.next (G.1,G.2.1,G.2.2.1,G.2.2.2.1,IntKind.wrap .i64 (Add.add G.2.2.2.2.1 1),())))) else A.bind (A.pure (ab.next (G.2.1,()))) λr=>A.pure (ab.done r)) (x.1,0,x.2,Int.ofNat (List.length x.2),0,())) (ab.bx (λ(G:Int×Unit)=>A.pure G.1))
def ahv (uC:Int×Int->A (Int×Int)) (x:List (Int×Int)×Int):A (List (Int×Int)):=
 A.bind (if decide (x.2<0)=true then A.ah False (A.ah False (A.pure (ab.next (x.1,x.2,())))) else A.pure (ab.next (x.1,x.2,()))) (ab.bx (λ(G:List (Int×Int)×Int×Unit)=>A.bind (uC (IntKind.wrap .u64 (Int.ofNat (List.length G.1)),IntKind.wrap .u64 G.2.1)) λy=>A.bind (if (decide (y.1 > 0)||decide (y.2 > 9223372036854775807))=true then A.ah False (A.ah False (A.pure (ab.next (G.1,y.2,())))) else A.pure (ab.next (G.1,y.2,()))) (ab.bx (λ(G:List (Int×Int)×Int×Unit)=>letI b:=IntKind.wrap .i64 G.2.1;letI f:=Int.toNat b;letI d:=List.take (List.length (List.replicate f ((0:Int),(0:Int)))-0) G.1;A.ah (0<=b/\b=b/\bT f) (A.ah True (A.bind (A.loop (λ(G:Int×List (Int×Int)×Unit)=>letI g:=Int.toNat G.1;letI c:=List.take g G.2.1;letI a:=Int.ofNat (List.length G.2.1);letI e:=Int.toNat a-g;if decide (G.1<a)=true then A.ah (0<=G.1/\G.1<=a/\a<=a) (A.ah ((0:Int)<=0/\0<=G.1/\G.1<=a) (A.ah True (A.pure (ab.next (IntKind.wrap .i64 (Add.add G.1 (Int.ofNat (if e<=List.length c then e else List.length c))),c++List.take e c++List.drop (Add.add g (List.length (List.take e c))) G.2.1,()))))) else A.bind (A.pure (ab.next (G.2.1,()))) λr=>A.pure (ab.done r)) (Int.ofNat (if List.length (List.replicate f ((0:Int),(0:Int)))-0<=List.length G.1 then List.length (List.replicate f ((0:Int),(0:Int)))-0 else List.length G.1),[]++d++List.drop (Add.add 0 (List.length d)) (List.replicate f ((0:Int),(0:Int))),())) (ab.bx (λ(G:List (Int×Int)×Unit)=>A.pure G.1))))))))
def UW (x:Option ea×(Int×Int)×Int×Int×Int):A Bool:=
 letI c:=decide (x.2.1.2<=x.2.2.2.2);letI a:=c=true;letI b:=a->a/\True/\True;A.ah (a->a/\Option.isSome x.1=true/\True) (A.ah b (A.ah b (A.ah b (A.ah b (A.ah b (A.ah (a->(a/\a/\a/\True)/\True/\True) (A.ah (a->(a/\a)/\True/\True) (A.ah (a->(a/\True)/\True/\True) (A.ah (True/\(a->a)) (A.pure (c&&decide (Option.getD (Option.map (λx=>x.2) (List.find? (λp=>decide (x.2.1.1=p.1.1)&&(decide (x.2.2.1=p.1.2.1)&&decide (x.2.2.2.1=p.1.2.2))) (Option.getD x.1 ((([],[],0,[]),[],[],[],[],0),[],[])).2.2)) (0:Int) > 0))))))))))))
def ahw (x:Int×Int×Int):A Bool:=
 A.pure (decide (x.2.1<=x.1)&&decide (x.1<=x.2.2))
def UX (lp:Int×Int×Int->A Bool) (wc:Int->A Bool) (NC:List Int×(Int->A Bool)->A Bool) (ahx:Int×Option aT×Option (Int×Int×Int×Int×List Int)->A Bool) (x:(Int×Int×Int×Int×List Int)×Option aT):A Bool:=
 letI b:=Option.getD x.2 ([],[],0,[]);A.bind (wc x.1.1) λy=>A.bind (cJ (!(!y)) (wc x.1.2.1) false) λcu=>A.bind (cJ (!(!y||!cu)) (wc x.1.2.2.1) false) λet=>letI a:=!y||!cu||!et;A.bind (cJ (!a) (lp (x.1.2.2.2.1,0,IntKind.wrap .i64 (Int.ofNat (List.length b.2.1)-1))) false) λjx=>A.bind (cJ (!(a||!jx)) (NC (x.1.2.2.2.2,λiF=>ahx (iF,some b,some x.1))) false) λmi=>A.pure (a||!jx||!mi)
def UY (lp:Int×Int×Int->A Bool) (x:Int):A Bool:=
 A.bind (lp (x,0,99)) λy=>A.pure y
def UZ (x:List Int×(Int->A Bool)):A Bool:=
 A.bind (A.loop (λ(G:List Int×(Int->A Bool)×List Int×Int×Int×Unit)=>letI e:=G.2.2;letI a:=e.2.2.1;letI d:=List.getD e.1 (Int.toNat a) 0;letI c:=IntKind.wrap .i64 (a-1);if decide (a<e.2.1)=true then A.ah (0<=a/\a<Int.ofNat (List.length e.1)) (A.bind (G.2.1 d) (λy=>letI b:=(!(!y)&&decide (a > 0))=true;A.ah (b->(b/\b)/\(0<=c/\c<Int.ofNat (List.length G.1))/\True) (if (!y||decide (a > 0)&&decide (d<=List.getD G.1 (Int.toNat c) 0))=true then A.bind (A.bind (A.pure false) (λr=>A.pure (ab.done r))) λr=>A.pure (ab.done r) else A.pure (ab.next (G.1,G.2.1,e.1,e.2.1,IntKind.wrap .i64 (Add.add a 1),()))))) else A.bind (A.pure (ab.next ())) λr=>A.pure (ab.done r)) (x.1,x.2,x.1,Int.ofNat (List.length x.1),0,())) (ab.bx (λ(G:Unit)=>A.pure true))
def U0 (lp:Int×Int×Int->A Bool) (x:Int×Option aT×Option (Int×Int×Int×Int×List Int)):A Bool:=
 letI b:=(Option.getD x.2.1 ([],[],0,[])).2.1;letI a:=(Option.getD x.2.2 (0,0,0,0,[])).2.2.2.1;A.ah (0<=a/\a<Int.ofNat (List.length b)) (A.bind (lp (x.1,0,IntKind.wrap .i64 (Int.ofNat (List.length (List.getD b (Int.toNat a) []))-1))) (λy=>A.pure y))
def U1 (lp:Int×Int×Int->A Bool) (wc:Int->A Bool) (NC:List Int×(Int->A Bool)->A Bool) (DI:Int->A Bool) (x:List Int×(Int×Int)×Int×Int×Int):A Bool:=
 A.bind (lp (Int.ofNat (List.length x.1),1,8)) λy=>A.bind (cJ (!(!y)) (NC (x.1,wc)) false) λcu=>A.bind (cJ (!(!y||!cu)) (wc x.2.1.1) false) λet=>A.bind (cJ (!(!y||!cu||!et)) (wc x.2.1.2) false) λjx=>letI a:=!y||!cu||!et||!jx||decide (x.2.1.1 > x.2.1.2);A.bind (cJ (!a) (wc x.2.2.1) false) λmi=>A.bind (cJ (!(a||!mi)) (DI x.2.2.2.1) false) λwe=>A.bind (cJ (!(a||!mi||!we)) (lp (x.2.2.2.2,0,100000)) false) λND=>A.pure (a||!mi||!we||!ND)
def U2 (lp:Int×Int×Int->A Bool) (x:Int):A Bool:=
 A.bind (lp (x,0,99)) λy=>A.pure y
def U3 (lp:Int×Int×Int->A Bool) (DI:Int->A Bool) (x:(Int×Int×Int)×Option aT):A Bool:=
 A.bind (DI x.1.1) λy=>A.bind (cJ (!(!y)) (lp (x.1.2.1,0,IntKind.wrap .i64 (Int.ofNat (List.length (Option.getD x.2 ([],[],0,[])).1)-1))) false) λcu=>A.bind (cJ (!(!y||!cu)) (lp (x.1.2.2,1,10)) false) λet=>A.pure (!y||!cu||!et)
def U4 (lp:Int×Int×Int->A Bool) (x:Int):A Bool:=
 A.bind (lp (x,0,10)) λy=>A.pure (!y)
def U5 (x:List Int×Int):A Bool:=
 A.bind (A.loop (λ(G:List Int×Int×Int×Unit)=>letI e:=G.2.2.1;letI j:=decide (e > 0);letI i:=List.getD G.1 (Int.toNat e) 0;letI h:=IntKind.wrap .i64 (e-1);letI d:=Int.ofNat (List.length G.1);letI k:=0<=e/\e<d;letI b:=decide (List.getD G.1 (Int.toNat e) (0:Int)<0);letI f:=(!b)=true;letI a:=b||decide (i > G.2.1);letI g:=(!a)=true;letI c:=(!a&&j)=true;letI l:=c->c/\True/\True;if decide (e<d)=true then A.ah k (A.ah (f->(f/\f)/\k/\True) (A.ah (f->f/\True/\True) (A.ah (f->(f/\f)/\True/\True) (A.ah (True/\(b=false->f)) (A.ah (g->(g/\True)/\True/\True) (A.ah (g->True/\True/\g) (A.ah (c->(c/\c)/\k/\True) (A.ah l (A.ah (c->(c/\True)/\True/\True) (A.ah (c->(c/\c)/\(0<=h/\h<d)/\True) (A.ah l (A.ah (c->(c/\c)/\True/\True) (A.ah (g->(g/\(j=true->c))/\True/\True) (A.ah (True/\(a=false->g)) (if (a||j&&decide (i<=List.getD G.1 (Int.toNat h) 0))=true then A.bind (A.bind (A.pure false) (λr=>A.pure (ab.done r))) λr=>A.pure (ab.done r) else A.pure (ab.next (G.1,G.2.1,IntKind.wrap .i64 (Add.add e 1),()))))))))))))))))) else A.bind (A.pure (ab.next ())) λr=>A.pure (ab.done r)) (x.1,x.2,0,())) (ab.bx (λ(G:Unit)=>A.pure true))
def Hg (x5:Option ea×List Int×Int×Nat×(Nat×(List (List Int)->Prop)×List (List Int)×Bool)×Unit->A (Bool×(Nat×(List (List Int)->Prop)×List (List Int)×Bool)×Unit)) (x:Option ea×Nat×(Nat×(List (List Int)->Prop)×List (List Int)×Bool)×Unit):A ((Nat×(List (List Int)->Prop)×List (List Int)×Bool)×Unit):=
 A.bind (x5 (x.1,[],1,x.2.1,x.2.2.1,())) λy=>A.pure (y.2.1,())
def U6 (ahy:List (Int×Int×Int×Int)×List (List (Int×List Int×Int×Int))×Int×List (Int×Int×Int×Int)->A aT) (x:a3×Unit):A (Hd):=
 letI m:=x.1.2.2;A.bind (ahy x.1.1) λy=>A.ah (bT (Add.add 0 (List.length x.1.2.1))) (A.ah (bT (Add.add 0 (List.length m.1))) (A.ah (bT (Add.add 0 (List.length m.2.1))) (A.ah (bT (Add.add 0 (List.length m.2.2.1))) (A.bind (A.loop (λ(G:Int×(aT×List Int×List (Int×Int×Int×Int×List Int)×List e2×List (Int×Int×Int)×Int)×Int×Int×List (Int×Int×Int×Int)×List (List (Int×List Int×Int×Int))×Int×List (Int×Int×Int×Int)×Int×List Int×List eu×List e2×List (Int×Int×Int)×Unit)=>letI n:=Int.toNat G.1;letI e:=(List.getD G.2.1.2.2.1 n (0,0,0,0,[])).2.2.2.2;letI d:=G.2.2.2.2;letI a:=d.2.2.2.2;letI p:=a.2.2;letI k:=G.1<Int.ofNat (List.length p.1);letI c:=List.getD p.1 n (0,0,0,0,[]);if decide k=true then A.ah (0<=G.1/\G.1<Int.ofNat (List.length G.2.1.2.2.1)) (A.ah (bT (Add.add 0 (List.length e))) (A.ah (0<=G.1/\k) (A.pure (ab.next (IntKind.wrap .i64 (Add.add G.1 1),G.2.1,G.2.2.1,G.2.2.2.1,d.1,d.2.1,d.2.2.1,d.2.2.2.1,a.1,a.2.1,List.set p.1 n (c.1,c.2.1,c.2.2.1,c.2.2.2.1,[]++e),p.2.1,p.2.2.1,()))))) else A.bind (A.pure (ab.next (G.2.1,G.2.2.1,G.2.2.2.1,d.1,d.2.1,d.2.2.1,d.2.2.2.1,a.1,a.2.1,p.1,p.2.1,p.2.2.1,()))) λr=>A.pure (ab.done r)) (0,x.1,0,0,y.1,y.2.1,y.2.2.1,y.2.2.2,m.2.2.2,[]++x.1.2.1,[]++m.1,[]++m.2.1,[]++m.2.2.1,())) (ab.bx (λ(G:(aT×List Int×List (Int×Int×Int×Int×List Int)×List e2×List (Int×Int×Int)×Int)×Int×Int×List (Int×Int×Int×Int)×List (List (Int×List Int×Int×Int))×Int×List (Int×Int×Int×Int)×Int×List Int×List eu×List (List Int×(Int×Int)×Int×Int×Int)×List (Int×Int×Int)×Unit)=>letI g:=G.2.2.2.2.2;A.bind (A.loop (λ(G:Int×(aT×List Int×List (Int×Int×Int×Int×List Int)×List e2×List (Int×Int×Int)×Int)×Int×Int×List (Int×Int×Int×Int)×List (List (Int×List Int×Int×Int))×Int×List (Int×Int×Int×Int)×Int×List Int×List eu×List (List Int×(Int×Int)×Int×Int×Int)×List (Int×Int×Int)×Unit)=>letI o:=Int.toNat G.1;letI i:=G.2.2.2.2;letI f:=(List.getD G.2.1.2.2.2.1 o ([],(0,0),0,0,0)).1;letI b:=i.2.2.2;letI j:=b.2.2.2.2;letI l:=G.1<Int.ofNat (List.length j.1);if decide l=true then A.ah (0<=G.1/\G.1<Int.ofNat (List.length G.2.1.2.2.2.1)) (A.ah (bT (Add.add 0 (List.length f))) (A.ah (0<=G.1/\l) (A.pure (ab.next (IntKind.wrap .i64 (Add.add G.1 1),G.2.1,G.2.2.1,G.2.2.2.1,i.1,i.2.1,i.2.2.1,b.1,b.2.1,b.2.2.1,b.2.2.2.1,List.set j.1 o ([]++f,(List.getD j.1 o ([],(0,0),0,0,0)).2),j.2.1,()))))) else A.bind (A.pure (ab.next (G.2.2.1,G.2.2.2.1,i.1,i.2.1,i.2.2.1,b.1,b.2.1,b.2.2.1,b.2.2.2.1,j.1,j.2.1,()))) λr=>A.pure (ab.done r)) (0,G.1,G.2.1,G.2.2.1,G.2.2.2.1,G.2.2.2.2.1,g.1,g.2.1,g.2.2.1,g.2.2.2.1,g.2.2.2.2.1,g.2.2.2.2.2.1,g.2.2.2.2.2.2.1,())) (ab.bx (λ(G:Int×Int×List (Int×Int×Int×Int)×List (List (Int×List Int×Int×Int))×Int×List (Int×Int×Int×Int)×Int×List Int×List eu×List e2×List (Int×Int×Int)×Unit)=>letI h:=G.2.2.2.2.2;A.pure (G.2.2.1,G.2.2.2.1,G.2.2.2.2.1,h.1,h.2.1,h.2.2.1,h.2.2.2.1,h.2.2.2.2.1,h.2.2.2.2.2.1,())))))))))
def Hh (x5:Option ea×List Int×Int×Nat×(Nat×(List (List Int)->Prop)×List (List Int)×Bool)×Unit->A (Bool×(Nat×(List (List Int)->Prop)×List (List Int)×Bool)×Unit)) (x:Option ea×Nat×(Nat×(List (List Int)->Prop)×List (List Int)×Bool)×Unit):A ((Nat×(List (List Int)->Prop)×List (List Int)×Bool)×Unit):=
 A.bind (x5 (x.1,[],0,x.2.1,x.2.2.1,())) λy=>A.pure (y.2.1,())
def NF (He:Option ea×(Int×Int)×Int×Int×Int->A Bool) (Ny:Option ea×List (Int×Int×Int)×Int×List (Int×Int)×List Int×Unit->A (Bool×List (Int×Int)×List Int×Unit)) (x:Option ea×List (Int×Int×Int)×Int×List (Int×Int)×List Int×Unit):A (Bool×List (Int×Int)×List Int×Unit):=
 letI h:=(Option.getD x.1 ((([],[],0,[]),[],[],[],[],0),[],[])).2.1;A.bind (A.ah (Option.isSome x.1=true) (A.loop (λ(G:Option ((aT×List Int×List eu×List (List Int×(Int×Int)×Int×Int×Int)×List (Int×Int×Int)×Int)×List (Int×Int)×List ((Int×Int×Int)×Int))×List (Int×Int×Int)×Int×List (Int×Int)×Int×Int×List (Int×Int)×List Int×Unit)=>letI m:=G.2.1;letI f:=G.2.2;letI a:=f.2.2.2;letI k:=a.1;letI j:=a.2.2.1;letI i:=Int.toNat k;letI g:=a.2.1;letI d:=0<=k/\k<Int.ofNat (List.length j);letI c:=(G.1,List.getD f.2.1 i (0,0),List.getD m (Int.toNat f.1) (0,0,0));letI b:=decide (List.getD j i (0:Int)=-1);letI e:=(!b)=true;if decide (k<f.2.2.1)=true then A.bind (A.ah (0<=k/\k<Int.ofNat (List.length f.2.1)) (A.ah ((!(decide (Option.getD (Option.map (λx=>x.2) (List.find? (λp=>decide (k=p.1)) g)) (0:Int) > 0)))=true->((!(decide (Option.getD (Option.map (λx=>x.2) (List.find? (λp=>decide (k=p.1)) g)) (0:Int) > 0)))=true/\(!(decide (Option.getD (Option.map (λx=>x.2) (List.find? (λp=>decide (k=p.1)) g)) (0:Int) > 0)))=true)/\(0<=f.1/\f.1<Int.ofNat (List.length m))/\True) (A.ah ((!(decide (Option.getD (Option.map (λx=>x.2) (List.find? (λp=>decide (k=p.1)) g)) (0:Int) > 0)))=true->(!(decide (Option.getD (Option.map (λx=>x.2) (List.find? (λp=>decide (k=p.1)) g)) (0:Int) > 0)))=true/\True/\True) (A.ah ((!(decide (Option.getD (Option.map (λx=>x.2) (List.find? (λp=>decide (k=p.1)) g)) (0:Int) > 0)))=true->((!(decide (Option.getD (Option.map (λx=>x.2) (List.find? (λp=>decide (k=p.1)) g)) (0:Int) > 0)))=true/\(!(decide (Option.getD (Option.map (λx=>x.2) (List.find? (λp=>decide (k=p.1)) g)) (0:Int) > 0)))=true/\(!(decide (Option.getD (Option.map (λx=>x.2) (List.find? (λp=>decide (k=p.1)) g)) (0:Int) > 0)))=true/\True)/\(He c).dU/\True) (A.ah ((!(decide (Option.getD (Option.map (λx=>x.2) (List.find? (λp=>decide (k=p.1)) g)) (0:Int) > 0)))=true->(!(decide (Option.getD (Option.map (λx=>x.2) (List.find? (λp=>decide (k=p.1)) g)) (0:Int) > 0)))=true/\True/\True) (A.ah (True/\(decide (Option.getD (Option.map (λx=>x.2) (List.find? (λp=>decide (k=p.1)) g)) (0:Int) > 0)=false->(!(decide (Option.getD (Option.map (λx=>x.2) (List.find? (λp=>decide (k=p.1)) g)) (0:Int) > 0)))=true)) (if (decide (Option.getD (Option.map (λx=>x.2) (List.find? (λp=>decide (k=p.1)) g)) (0:Int) > 0)||!(A.val (He c) false))=true then A.pure (ab.next (G.1,m,f.1,f.2.1,f.2.2.1,k,g,j,())) else A.ah d (A.ah (e->(e/\e)/\d/\True) (if e then A.ah (e/\e/\e/\e/\e/\True) (A.bind (Ny (G.1,m,List.getD j i 0,cC g k (IntKind.wrap .i64 (Add.add (Option.getD (Option.map (λx=>x.2) (List.find? (λp=>decide (k=p.1)) g)) 0) 1)),j,())) (λy=>if (b||y.1)=true then A.ah (0<=k/\k<Int.ofNat (List.length y.2.2.1)) (A.bind (A.bind (A.bind (A.pure (true,y.2.1,List.set y.2.2.1 i f.1,())) (λr=>A.pure (ab.done r))) (λr=>A.pure (ab.done r))) (λr=>A.pure (ab.done r))) else A.pure (ab.next (G.1,m,f.1,f.2.1,f.2.2.1,k,y.2.1,y.2.2.1,())))) else A.ah (True/\(b=false->false=true)) (if (b||false)=true then A.ah d (A.bind (A.bind (A.bind (A.pure (true,cC g k (IntKind.wrap .i64 (Add.add (Option.getD (Option.map (λx=>x.2) (List.find? (λp=>decide (k=p.1)) g)) 0) 1)),List.set j i f.1,())) (λr=>A.pure (ab.done r))) (λr=>A.pure (ab.done r))) (λr=>A.pure (ab.done r))) else A.pure (ab.next (G.1,m,f.1,f.2.1,f.2.2.1,k,cC g k (IntKind.wrap .i64 (Add.add (Option.getD (Option.map (λx=>x.2) (List.find? (λp=>decide (k=p.1)) g)) 0) 1)),j,())))))))))))) (ab.bx (λ(G:Option ((aT×List Int×List eu×List e2×List (Int×Int×Int)×Int)×List (Int×Int)×List ((Int×Int×Int)×Int))×List (Int×Int×Int)×Int×List (Int×Int)×Int×Int×List (Int×Int)×List Int×Unit)=>letI l:=G.2.2.2;A.pure (ab.next (G.1,G.2.1,G.2.2.1,l.1,l.2.1,IntKind.wrap .i64 (Add.add l.2.2.1 1),l.2.2.2.1,l.2.2.2.2.1,())))) else A.bind (A.pure (ab.next (g,j,()))) λr=>A.pure (ab.done r)) (x.1,x.2.1,x.2.2.1,h,Int.ofNat (List.length h),0,x.2.2.2.1,x.2.2.2.2.1,()))) (ab.bx (λ(G:List (Int×Int)×List Int×Unit)=>A.pure (false,G.1,G.2.1,())))
def NG (x4:(List Int×(Int×Int)×Int×Int×Int)×Int×Int×Int×Int×List Int->A Int) (x5:Option ea×List Int×Int×Nat×(Nat×(List (List Int)->Prop)×List (List Int)×Bool)×Unit->A (Bool×(Nat×(List (List Int)->Prop)×List (List Int)×Bool)×Unit)) (iS:List Int×Int->A Bool) (x:Option ea×List Int×Int×Nat×(Nat×(List (List Int)->Prop)×List (List Int)×Bool)×Unit):A (Bool×(Nat×(List (List Int)->Prop)×List (List Int)×Bool)×Unit):=
 letI p:=Option.isSome x.1=true;letI o:=Int.ofNat (List.length x.2.1);letI i:=x.2.2.2.2.1;letI e:=(Option.getD x.1 ((([],[],0,[]),[],[],[],[],0),[],[])).1.2.2;A.ah p (if decide (o=Int.ofNat (List.length e.2.1))=true then A.bind (A.ah (x.2.2.2.1=i.1/\i.2.2.2=false/\(∃ (T:List (List Int)),i.2.1 (i.2.2.1++x.2.1::T))) (A.any (λx=>True))) λy=>A.pure (y,(i.1,i.2.1,i.2.2.1++[x.2.1],!y),()) else A.bind (A.ah p (A.loop (λ(G:Option ea×List Int×Int×Nat×Int×List eu×Int×Int×(Nat×(List (List Int)->Prop)×List (List Int)×Bool)×Unit)=>letI q:=G.2.1;letI l:=G.2.2;letI j:=(Option.getD G.1 ((([],[],0,[]),[],[],[],[],0),[],[])).1.2.2.2.1;letI c:=l.2.2;letI m:=List.take (Int.toNat c.1) q;letI k:=c.2.2.2;letI d:=(List.getD j (Int.toNat c.1) ([],(0,0),0,0,0),List.getD c.2.1 (Int.toNat k.1) (0,0,0,0,[]));letI a:=(q,k.1);if decide (k.1<c.2.2.1)=true then A.bind (A.ah (0<=k.1/\k.1<Int.ofNat (List.length c.2.1)) (A.ah (iS a).dU (A.ah ((!(A.val (iS a) false))=true->(!(A.val (iS a) false))=true/\Option.isSome G.1=true/\True) (A.ah ((!(A.val (iS a) false))=true->(!(A.val (iS a) false))=true/\True/\True) (A.ah ((!(A.val (iS a) false))=true->(!(A.val (iS a) false))=true/\True/\True) (A.ah ((!(A.val (iS a) false))=true->(!(A.val (iS a) false))=true/\True/\True) (A.ah ((!(A.val (iS a) false))=true->((!(A.val (iS a) false))=true/\(!(A.val (iS a) false))=true)/\(0<=c.1/\c.1<Int.ofNat (List.length j))/\True) (A.ah ((!(A.val (iS a) false))=true->(!(A.val (iS a) false))=true/\True/\True) (A.ah ((!(A.val (iS a) false))=true->((!(A.val (iS a) false))=true/\(!(A.val (iS a) false))=true/\True)/\(x4 d).dU/\True) (A.ah ((!(A.val (iS a) false))=true->((!(A.val (iS a) false))=true/\True)/\True/\True) (A.ah (True/\(A.val (iS a) false=false->(!(A.val (iS a) false))=true)) (if (A.val (iS a) false||decide (A.val (x4 d) (0:Int)=0))=true then A.pure (ab.next (G.1,q,l.1,l.2.1,c.1,c.2.1,c.2.2.1,k.1,k.2.1,())) else A.ah ((0:Int)<=0/\0<=c.1/\c.1=c.1/\c.1<=Int.ofNat (List.length q)) (A.ah (0<Add.add 0 1/\bT (Add.add (List.length m) (Add.add 0 1))) (A.bind (x5 (G.1,m++[k.1],l.1,l.2.1,k.2.1,())) (λy=>if (!y.1)=true then A.bind (A.bind (A.bind (A.pure (false,y.2.1,())) (λr=>A.pure (ab.done r))) (λr=>A.pure (ab.done r))) λr=>A.pure (ab.done r) else A.pure (ab.next (G.1,q,l.1,l.2.1,c.1,c.2.1,c.2.2.1,k.1,y.2.1,()))))))))))))))))) (ab.bx (λ(G:Option ea×List Int×Int×Nat×Int×List eu×Int×Int×(Nat×(List (List Int)->Prop)×List (List Int)×Bool)×Unit)=>letI n:=G.2.2.2.2;A.pure (ab.next (G.1,G.2.1,G.2.2.1,G.2.2.2.1,n.1,n.2.1,n.2.2.1,IntKind.wrap .i64 (Add.add n.2.2.2.1 1),n.2.2.2.2.1,())))) else A.bind (A.pure (ab.next (G.1,q,l.1,l.2.1,c.1,k.2.1,()))) λr=>A.pure (ab.done r)) (x.1,x.2.1,x.2.2.1,x.2.2.2.1,o,e.1,Int.ofNat (List.length e.1),0,i,()))) (ab.bx (λ(G:Option ea×List Int×Int×Nat×Int×(Nat×(List (List Int)->Prop)×List (List Int)×Bool)×Unit)=>letI s:=G.2.2;letI h:=s.2.2;letI g:=List.take (Int.toNat h.1) G.2.1;letI f:=decide (s.1=0);letI b:=(!f)=true;A.ah (b->(b/\True/\b/\b)/\((0:Int)<=0/\0<=h.1/\h.1=h.1/\h.1<=Int.ofNat (List.length G.2.1))/\True) (if b then A.ah (b/\b) (A.ah (0<Add.add 0 1/\bT (Add.add (List.length g) (Add.add 0 1))) (if b then A.ah (b/\b/\b/\True) (A.bind (x5 (G.1,g++[-1],s.1,s.2.1,h.2.1,())) (λy=>A.pure (f||y.1,y.2.1,()))) else A.ah (True/\(f=false->false=true)) (A.pure (f||false,h.2.1,())))) else if b then A.ah (b/\false=true/\b/\b/\True) (A.bind (x5 (G.1,g++[-1],s.1,s.2.1,h.2.1,())) (λy=>A.pure (f||y.1,y.2.1,()))) else A.ah (True/\(f=false->false=true)) (A.pure (f||false,h.2.1,()))))))
def ahz (uC:Int×Int->A (Int×Int)) (x:List Int×Int×Unit):A (List Int×Unit):=
 A.bind (if decide (x.2.1<0)=true then A.ah False (A.ah False (A.pure (ab.next (x.1,x.2.1,())))) else A.pure (ab.next (x.1,x.2.1,()))) (ab.bx (λ(G:List Int×Int×Unit)=>A.bind (uC (IntKind.wrap .u64 (Int.ofNat (List.length G.1)),IntKind.wrap .u64 G.2.1)) λy=>A.bind (if (decide (y.1 > 0)||decide (y.2 > 9223372036854775807))=true then A.ah False (A.ah False (A.pure (ab.next (G.1,y.2,())))) else A.pure (ab.next (G.1,y.2,()))) (ab.bx (λ(G:List Int×Int×Unit)=>letI b:=IntKind.wrap .i64 G.2.1;letI f:=Int.toNat b;letI e:=List.take (List.length (List.replicate f (0:Int))-0) G.1;A.ah (0<=b/\b=b/\bT f) (A.ah True (A.bind (A.loop (λ(G:Int×List Int×Unit)=>letI g:=Int.toNat G.1;letI c:=List.take g G.2.1;letI a:=Int.ofNat (List.length G.2.1);letI d:=Int.toNat a-g;if decide (G.1<a)=true then A.ah (0<=G.1/\G.1<=a/\a<=a) (A.ah ((0:Int)<=0/\0<=G.1/\G.1<=a) (A.ah True (A.pure (ab.next (IntKind.wrap .i64 (Add.add G.1 (Int.ofNat (if d<=List.length c then d else List.length c))),c++List.take d c++List.drop (Add.add g (List.length (List.take d c))) G.2.1,()))))) else A.bind (A.pure (ab.next (G.2.1,()))) λr=>A.pure (ab.done r)) (Int.ofNat (if List.length (List.replicate f (0:Int))-0<=List.length G.1 then List.length (List.replicate f (0:Int))-0 else List.length G.1),[]++e++List.drop (Add.add 0 (List.length e)) (List.replicate f (0:Int)),())) (ab.bx (λ(G:List Int×Unit)=>A.pure (G.1,())))))))))
end Go.Fer
namespace Go.Fer
open A (ab)
set_option linter.unusedVariables false
def U7 (NH:a3->A Int) (ahA:List (Int×Int×Int×Int)×List (List (Int×List Int×Int×Int))×Int×List (Int×Int×Int×Int)->A Bool) (x:a3):A Bool:=
 A.bind (ahA x.1) λy=>if (y||decide (Int.ofNat (List.length x.2.1) > 40)||decide (Int.ofNat (List.length x.2.2.1) > 40)||decide (Int.ofNat (List.length x.2.2.2.1) > 40)||decide (Int.ofNat (List.length x.2.2.2.2.1) > 40))=true then A.pure true else A.bind (A.loop (λ(G:Int×a3×Unit)=>letI c:=G.1<Int.ofNat (List.length G.2.1.2.2.1);if decide c=true then A.ah (0<=G.1/\c) (if decide (Int.ofNat (List.length (List.getD G.2.1.2.2.1 (Int.toNat G.1) (0,0,0,0,[])).2.2.2.2) > 40)=true then A.bind (A.bind (A.pure true) (λr=>A.pure (ab.done r))) λr=>A.pure (ab.done r) else A.pure (ab.next (IntKind.wrap .i64 (Add.add G.1 1),G.2.1,()))) else A.bind (A.pure (ab.next (G.2.1,()))) λr=>A.pure (ab.done r)) (0,x,())) (ab.bx (λ(G:(aT×List Int×List eu×List e2×List (Int×Int×Int)×Int)×Unit)=>A.bind (A.loop (λ(G:Int×(aT×List Int×List (Int×Int×Int×Int×List Int)×List e2×List (Int×Int×Int)×Int)×Unit)=>letI b:=G.1<Int.ofNat (List.length G.2.1.2.2.2.1);if decide b=true then A.ah (0<=G.1/\b) (if decide (Int.ofNat (List.length (List.getD G.2.1.2.2.2.1 (Int.toNat G.1) ([],(0,0),0,0,0)).1) > 40)=true then A.bind (A.bind (A.pure true) (λr=>A.pure (ab.done r))) λr=>A.pure (ab.done r) else A.pure (ab.next (IntKind.wrap .i64 (Add.add G.1 1),G.2.1,()))) else A.bind (A.pure (ab.next (G.2.1,()))) λr=>A.pure (ab.done r)) (0,G.1,())) (ab.bx (λ(G:(aT×List Int×List eu×List (List Int×(Int×Int)×Int×Int×Int)×List (Int×Int×Int)×Int)×Unit)=>A.bind (NH G.1) λy=>if decide (y≠0)=true then A.pure false else A.bind (A.loop (λ(G:Int×Int×(aT×List Int×List eu×List e2×List (Int×Int×Int)×Int)×Unit)=>letI d:=G.2.2.1;letI a:=G.2.1<Int.ofNat (List.length d.2.2.1);if decide a=true then A.ah (0<=G.2.1/\a) (A.pure (ab.next (IntKind.wrap .i64 (Add.add G.1 (Int.ofNat (List.length (List.getD d.2.2.1 (Int.toNat G.2.1) (0,0,0,0,[])).2.2.2.2))),IntKind.wrap .i64 (Add.add G.2.1 1),d,()))) else A.bind (A.pure (ab.next (G.1,d,()))) λr=>A.pure (ab.done r)) (0,0,G.1,())) (ab.bx (λ(G:Int×(aT×List Int×List eu×List (List Int×(Int×Int)×Int×Int×Int)×List (Int×Int×Int)×Int)×Unit)=>A.pure (decide (Int.ofNat (List.length G.2.1.2.2.2.1) > 3)||decide (Int.ofNat (List.length G.2.1.2.2.1) > 4)||decide (Int.ofNat (List.length G.2.1.2.2.2.2.1) > 3)||decide (G.1 > 4))))))))
def U8 (NI:Unit->A aT) (x:Unit):A (a3):=
 A.bind (NI ()) λy=>A.pure (y,[1,0,0,0],[(1,60,0,0,[0]),(1,60,7,0,[]),(2,65,0,1,[0]),(2,60,0,0,[0,1])],[([1],(55,65),7,3,500),([1,2],(60,60),0,5,400),([2],(60,70),9,8,700),([2],(65,65),0,5,300)],[(4,2,1),(6,3,1)],2)
end Go.Fer
namespace Go.Fer
open A (ab)
set_option linter.unusedVariables false
set_option linter.unusedSimpArgs false
abbrev bp:ai:=.int .i64
abbrev dm:ai:=.bool
abbrev hl:ai:=.slice bp
abbrev rR:ai:=.st (.aG bp bp)
abbrev ox:ai:=.st (.aG bp (.aG bp rR))
abbrev qN:ai:=.st (.aG bp (.aG hl rR))
abbrev o5:ai:=.st (.slice qN)
abbrev nj:ai:=.st (.aG bp (.aG bp (.aG bp bp)))
abbrev iG:ai:=.st (.aG (.slice ox) (.aG (.slice o5) (.aG bp (.slice nj))))
attribute [simp] qL Ub v' A.cN A.kH A.Qm A.hS A.nN A.mg A.je A.sT A.bX A.jf b' ku MQ ab.h'
abbrev cA:aU:=⟨.aG bp (.aG bp bp),dm,λ_=>True,λx=>decide (x.2.1<=x.1)&&decide (x.1<=x.2.2)⟩
theorem ahB (x):A.bz (agy x) (cA.sh x):=A.bU λ_=>rfl
abbrev mj:aU:=⟨.aG hl bp,dm,λx=>x.1.length<2 ^ 63,λx=>x.1.contains x.2⟩
theorem ahC (l:List Int) (n:Int):(l.any λy=>y == n)=l.contains n:=by grind
theorem ahD (l:List Int) (n:Int) (h:l.length<2 ^ 63):MU (l,n)=A.pure (l.contains n):=by
 unfold MU;rw [A.fv l (λi (_:Unit)=>(l,n,(i:Int),())) (λy b=>if (y == n)=true then .done (.done true) else .next b) (λ_=>.next ()) () ?_ ?_ ?_]
 ·rw [uA,ahC];cases l.contains n<;>simp
 ·rfl
 ·intro i U b;have hw:=bF (n:=(i:Int)+1) (by omega) (by omega);simp [U,hw];grind
 simp
theorem ahE (x):A.bz (MU x) (mj.sh x):=A.bU λh=>ahD x.1 x.2 h
abbrev Hi:Type:=Int×Int×Int×Int
abbrev wg:Type:=Int×List Int×Int×Int
abbrev nk:Type:=Int×Int×Int×Int
def fp (w:aT):Prop:=w.1.length<2 ^ 63/\w.2.1.length<2 ^ 63/\w.2.2.2.length<2 ^ 63/\∀ m∈w.2.1,m.length<2 ^ 63/\∀ s∈m,s.2.1.length<2 ^ 63
def e3 (w:aT) (n:Int):Bool:=decide (0<=n)&&decide (n<(w.1.length:Int))
def kb (w:aT) (n:Int):Bool:=decide (0<=n)&&decide (n<(w.2.1.length:Int))
def ff (w:aT) (m:Int):List wg:=w.2.1.getD m.toNat []
def fN (w:aT) (m k:Int):Bool:=kb w m&&(decide (0<=k)&&decide (k<((ff w m).length:Int)))
theorem lq {w:aT} {n:Int}:e3 w n=true<->0<=n/\n<(w.1.length:Int):=by simp [e3]
theorem uE {w:aT} {n:Int}:kb w n=true<->0<=n/\n<(w.2.1.length:Int):=by simp [kb]
theorem wh {w:aT} {m k:Int}:fN w m k=true<->(0<=m/\m<(w.2.1.length:Int))/\0<=k/\k<((ff w m).length:Int):=by simp [fN,kb]
theorem Hj {w:aT} (hw:fp w) (m:Int):(ff w m).length<2 ^ 63:=by
 unfold ff;rw [List.getD_eq_getElem?_getD];cases h:w.2.1[m.toNat]? with
 | none=>simp
 | some x=>exact (hw.2.2.2 x (List.mem_of_getElem? h)).1
theorem rS (n m:Int):decide (n<=m - 1)=decide (n<m):=by
 grind
abbrev pU:aU:=⟨.aG iG bp,dm,λx=>fp x.1,λx=>e3 x.1 x.2⟩
theorem U9 (w:aT) (n:Int) (h:fp w):MV cA.sh (w,n)=A.pure (e3 w n):=by
 unfold MV;have aw:=h.1;have hw:=bF (n:=(w.1.length:Int) - 1) (by omega) (by omega);simp [aU.sh,cA,hw,e3,rS]
theorem ahF (x):A.bz (MV cA.sh x) (pU.sh x):=A.bU λh=>U9 x.1 x.2 h
abbrev Av:aU:=⟨.aG iG bp,dm,λx=>fp x.1,λx=>kb x.1 x.2⟩
theorem ahG (w:aT) (n:Int) (h:fp w):M0 cA.sh (w,n)=A.pure (kb w n):=by
 unfold M0;have aw:=h.2.1;have hw:=bF (n:=(w.2.1.length:Int) - 1) (by omega) (by omega);simp [aU.sh,cA,hw,kb,rS]
theorem ahH (x):A.bz (M0 cA.sh x) (Av.sh x):=A.bU λh=>ahG x.1 x.2 h
abbrev qO:aU:=⟨.aG iG (.aG bp bp),dm,λx=>fp x.1,λx=>fN x.1 x.2.1 x.2.2⟩
theorem U_ (w:aT) (m k:Int) (h:fp w):Ha cA.sh Av.sh (w,m,k)=A.pure (fN w m k):=by
 unfold Ha;have aw:=Hj h m;have hw:=bF (n:=((ff w m).length:Int) - 1) (by omega) (by omega);unfold ff at hw;simp only [aU.sh,cA,Av,A.cN,A.je,cc,hw,rS,A.ba h];rw [A.ba,A.ba (by simp)]
 ·simp only [fN,ff];simp
 ·intro hm;exact ⟨⟨hm,hm⟩,uE.1 hm,trivial⟩
theorem ahI (x):A.bz (Ha cA.sh Av.sh x) (qO.sh x):=A.bU λh=>U_ x.1 x.2.1 x.2.2 h
def wi (s:Int×Int):Bool:=(decide (0<=s.1)&&decide (s.1<=s.2))&&decide (s.2<=999)
abbrev o6:aU:=⟨rR,dm,λ_=>True,wi⟩
theorem U' (s:Int×Int):M6 cA.sh s=A.pure (wi s):=by
 unfold M6;simp [aU.sh,cA,wi]
theorem ahJ (x):A.bz (M6 cA.sh x) (o6.sh x):=A.bU λ_=>U' x
def rT (l:List Int):Bool:=(List.range (l.length - 1)).all λi=>decide (l.getD i 0<l.getD (i+1) 0)
abbrev uF:aU:=⟨hl,dm,λx=>x.length<2 ^ 63,rT⟩
theorem Va (l:List Int) (h:l.length<2 ^ 63):MZ l=A.pure (rT l):=by
 unfold MZ;rw [A.fv (List.range (l.length - 1)) (λi (_:Unit)=>(l,((i+1:Nat):Int),())) (λi b=>if (decide (l.getD i 0<l.getD (i+1) 0))=true then .next b else .done (.done false)) (λ_=>.next ()) () ?_ ?_ ?_]
 ·rw [G6];unfold rT;cases (List.range (l.length - 1)).all λi=>decide (l.getD i 0<l.getD (i+1) 0)<;>simp
 ·simp
 ·intro i U b;have eA:i+1<l.length:=by grind
  have hw:=bF (n:=(i:Int)+1+1) (by omega) (by omega);have kT:=bF (n:=(i:Int)+1 - 1) (by omega) (by omega);have aK:((i:Int)+1).toNat=i+1:=by omega
  have bq:((i:Int)+1 - 1).toNat=i:=by omega
  have b4:(0:Int)<=(i:Int)+1/\(i:Int)+1<(l.length:Int):=by omega
  have ct:(0:Int)<=(i:Int)+1 - 1/\(i:Int)+1 - 1<(l.length:Int):=by omega
  simp only [cc,Int.natCast_add,Int.cast_ofNat_Int,hw,kT,b4,ct,A.ba,aK,bq,b',List.getElem_range,decide_eq_true_eq,if_true,A.aX,decide_true,and_self,Int.natCast_one];generalize l.getD i 0=aM;generalize l.getD (i+1) 0=B;by_cases hc:aM<B
  ·simp [hc,Int.not_le.2 hc]
  ·simp [hc,Int.not_lt.1 hc]
 ·intro b;have:¬(((List.range (l.length - 1)).length:Int)+1<(l.length:Int)):=by grind
  simp [this];omega
theorem ahK (x):A.bz (MZ x) (uF.sh x):=A.bU λh=>Va x h
end Go.Fer
namespace Go.Fer
open A (ab)
set_option linter.unusedVariables false
set_option linter.unusedSimpArgs false
def qP (n:Int):Bool:=decide (0<=n)&&decide (n<=9)
def qQ (s:wg):Bool:=s.2.1.all qP&&(qP s.1&&decide ((s.2.1.length:Int)<=4)&&rT s.2.1&&wi s.2.2)
def rU (s:Hi):Bool:=qP s.1&&qP s.2.1&&wi s.2.2
def sV (w:aT) (t:nk):Bool:=e3 w t.1&&fN w t.2.1 t.2.2.1&&(decide (0<=t.2.2.2)&&decide (t.2.2.2<=1))
def pV (m:List wg):Bool:=!decide ((m.length:Int) > 4)&&m.all qQ
def wj (w:aT):Bool:=!(decide ((w.1.length:Int) > 10)||decide ((w.2.1.length:Int) > 6)||!(decide (0<=w.2.2.1)&&decide (w.2.2.1<=99))||decide ((w.2.2.2.length:Int) > 30))
def lr (w:aT):Bool:=wj w&&w.1.all rU&&w.2.1.all pV&&w.2.2.2.all (sV w)
abbrev sW:aU:=⟨qN,dm,λx=>x.2.1.length<2 ^ 63,qQ⟩
theorem ahL (s:wg) (h:s.2.1.length<2 ^ 63):M7 uF.sh cA.sh o6.sh s=A.pure (qQ s):=by
 unfold M7;rw [A.fv s.2.1 (λi (_:Unit)=>((i:Int),s,())) (λn b=>if qP n=true then .next b else .done (.done false)) (λ_=>.next (s,())) () ?_ ?_ ?_]
 ·rw [G6];unfold qQ;cases s.2.1.all qP with
  | false=>simp
  | true=>
   simp only [aU.sh,cA,uF,o6,A.ba h,qP,if_true,A.aX,A.bX,A.cN,A.je,A.bL,cc,h,implies_true,Bool.true_and];simp
 ·rfl
 ·intro i U b;have hw:=bF (n:=(i:Int)+1) (by omega) (by omega);simp [aU.sh,cA,U,hw,qP];grind
 simp
theorem ahM (x):A.bz (M7 uF.sh cA.sh o6.sh x) (sW.sh x):=A.bU λh=>ahL x h
abbrev sX:aU:=⟨iG,dm,fp,lr⟩
theorem ahN (w:aT) (h:fp w):M1 pU.sh qO.sh cA.sh o6.sh sW.sh w=A.pure (lr w):=by
 have aA:=h;obtain ⟨M,aa,an,a8⟩:=h;unfold M1;simp only [aU.sh,cA,A.je,A.cN,implies_true,A.bL,cc,qL];split
 ·rename_i hc;have:wj w=false:=by unfold wj;grind
  simp [lr,this]
 ·rename_i hc;have du:wj w=true:=by unfold wj;grind
  have ath:w.2.1.length<=6:=by grind
  rw [A.fv w.1 (λi (_:Unit)=>((i:Int),w,())) (λn b=>if (!qP n.1||!qP n.2.1||!wi n.2.2)=true then .done (.done false) else .next b) (λ_=>.next (w,())) () ?_ ?_ ?_]
  ·rw [lS (q:=rU) _ _ (λt=>by simp only [rU,Bool.not_and])];cases jq:w.1.all rU with
   | false=>simp [lr,jq]
   | true=>
    simp only [A.aX,if_true,A.bX];rw [A.fv w.2.1 (λi (_:Unit)=>((i:Int),w,())) (λm b=>if pV m=true then .next b else .done (.done false)) (λ_=>.next (w,())) () ?_ ?_ ?_]
    ·rw [G6];cases a6:w.2.1.all pV with
     | false=>simp [lr,a6]
     | true=>
      simp only [A.aX,if_true,A.bX];rw [A.fv w.2.2.2 (λi (_:Unit)=>((i:Int),w,())) (λt b=>if (!e3 w t.1||!fN w t.2.1 t.2.2.1||!(decide (0<=t.2.2.2)&&decide (t.2.2.2<=1)))=true then .done (.done false) else .next b) (λ_=>.next ()) () ?_ ?_ ?_]
      ·rw [lS (q:=sV w) _ _ (λt=>by simp only [sV,Bool.not_and])];cases fO:w.2.2.2.all (sV w)<;>simp [lr,jq,a6,fO,du]
      ·rfl
      ·intro i U b;have hw:=bF (n:=(i:Int)+1) (by omega) (by omega);simp only [cc,dn U,if_true,en U,dd U,A.bL,aU.sh,pU,qO,A.cN,A.je,aA,implies_true,qL,A.aX,b',hw];exact nO (mk:=λ_:Unit=>((i:Int)+1,w,()))
      simp
    ·rfl
    ·intro i U b;have hw:=bF (n:=(i:Int)+1) (by omega) (by omega);obtain ⟨j_,oW⟩:=a8 w.2.1[i] (List.getElem_mem U);simp only [cc,Int.ofNat_lt,U,decide_true,if_true,en U,Int.natCast_nonneg,and_self,A.bL];by_cases hlen:(w.2.1[i].length:Int) > 4
     ·simp [hlen,pV]
     ·simp only [hlen,decide_false,Bool.false_eq_true,if_false];rw [A.fv w.2.1[i] (λk (_:Unit)=>((i:Int),(k:Int),w,())) (λs b=>if (!qQ s)=true then .done (.done (.done (.done false))) else .next b) (λ_=>.next ((i:Int),w,())) () ?_ ?_ ?_]
      ·rw [lS (q:=qQ) _ _ (λ_=>rfl)];cases pW:w.2.1[i].all qQ<;>simp [pV,pW,hlen,hw]
      ·rfl
      ·intro k ak b;have jy:=bF (n:=(k:Int)+1) (by omega) (by omega);have mS:=oW w.2.1[i][k] (List.getElem_mem ak);simp only [cc,dn ak,dn U,if_true,en U,en ak,dd U,dd ak,A.bL,sW,A.cN,mS,A.ba mS,A.aX,b',jy];exact nO (mk:=λ_:Unit=>((i:Int),(k:Int)+1,w,()))
      simp_all
    simp
  ·rfl
  ·intro i U b;have hw:=bF (n:=(i:Int)+1) (by omega) (by omega);simp only [cc,dn U,if_true,en U,dd U,A.bL,aU.sh,o6,A.cN,A.je,implies_true,qL,A.aX,b',hw,Bool.not_not];exact nO (mk:=λ_:Unit=>((i:Int)+1,w,()))
  simp
theorem ahO (x):A.bz (M1 pU.sh qO.sh cA.sh o6.sh sW.sh x) (sX.sh x):=A.bU λh=>ahN x h
end Go.Fer
namespace Go.Fer
open A (ab)
set_option linter.unusedVariables false
set_option linter.unusedSimpArgs false
abbrev qR:nk:=(0,0,0,0)
def nR (a b:nk):Bool:=decide (a.1=b.1)&&decide (a.2.1=b.2.1)&&decide (a.2.2.1=b.2.2.1)&&decide (a.2.2.2≠b.2.2.2)
def pS (l:List nk):Bool:=(List.range l.length).all λi=>(List.range i).all λk=>!nR (l.getD k qR) (l.getD i qR)
def eH (w:aT):Int:=if lr w=true then (if pS w.2.2.2=true then 0 else 71) else 70
theorem Vb {a b:Nat} (h:a<b):((0:Int)<=(a:Int)/\(a:Int)<(b:Int))=True:=dd h
abbrev mT:aU:=⟨iG,bp,fp,eH⟩
theorem ahP (w:aT) (h:fp w):MW sX.sh w=A.pure (eH w):=by
 have aA:=h;obtain ⟨M,aa,an,a8⟩:=h;unfold MW;simp only [aU.sh,sX,A.cN,A.ba aA];unfold eH;cases hw:lr w with
 | false=>simp
 | true=>
  simp only [Bool.not_true,Bool.false_eq_true,if_false,if_true];rw [A.fv (List.range w.2.2.2.length) (λi (_:Unit)=>((i:Int),w,())) (λi b=>if (List.range i).any (λk=>nR (w.2.2.2.getD k qR) (w.2.2.2.getD i qR))=true then .done (.done (71:Int)) else .next b) (λ_=>.next ()) () ?_ ?_ ?_]
  ·rw [lS (q:=λi=>(List.range i).all λk=>!nR (w.2.2.2.getD k qR) (w.2.2.2.getD i qR)) _ _ (λi=>Uc (λk=>by simp) _)];have e:((List.range w.2.2.2.length).all λi=>(List.range i).all λk=>!nR (w.2.2.2.getD k qR) (w.2.2.2.getD i qR))=pS w.2.2.2:=rfl;rw [e];cases pS w.2.2.2<;>simp
  ·rfl
  ·intro i U b;have U:i<w.2.2.2.length:=by grind
   have gx:=bF (n:=(i:Int)+1) (by omega) (by omega);simp only [cc,dn U,if_true,List.getElem_range];rw [A.fv (List.range i) (λk (_:Unit)=>((i:Int),(k:Int),w,())) (λk b=>if nR (w.2.2.2.getD k qR) (w.2.2.2.getD i qR)=true then .done (.done (.done (.done (71:Int)))) else .next b) (λ_=>.next ((i:Int),w,())) () ?_ ?_ ?_]
   ·rw [uA];cases (List.range i).any (λk=>nR (w.2.2.2.getD k qR) (w.2.2.2.getD i qR))<;>simp [gx]
   ·rfl
   ·intro k ak b;have ak:k<i:=by grind
    have NJ:k<w.2.2.2.length:=by omega
    have jy:=bF (n:=(k:Int)+1) (by omega) (by omega);simp only [dn ak,if_true,List.getElem_range,Vb NJ,Vb U,A.bL,Int.toNat_natCast,A.aX,b',jy];exact nO (mk:=λ_:Unit=>((i:Int),(k:Int)+1,w,()))
   simp
  simp
theorem ahQ (x):A.bz (MW sX.sh x) (mT.sh x):=A.bU λh=>ahP x h
def eY (w:aT) (i:Int):Hi:=w.1.getD i.toNat (0,0,0,0)
def uG (w:aT) (m k:Int):wg:=(ff w m).getD k.toNat (0,[],0,0)
theorem ahR {w:aT} {i:Int} (h:e3 w i=true):eY w i∈w.1:=by
 rw [lq] at h;exact x2 h.1 h.2
theorem NK {w:aT} {m k:Int} (h:fN w m k=true):ff w m∈w.2.1:=by
 rw [wh] at h;exact x2 h.1.1 h.1.2
theorem Vc {w:aT} {m k:Int} (h:fN w m k=true):uG w m k∈ff w m:=by
 rw [wh] at h;exact x2 h.2.1 h.2.2
theorem x6 {w:aT} (h:lr w=true):wj w=true/\(∀ s∈w.1,rU s=true)/\(∀ m∈w.2.1,pV m=true)/\∀ t∈w.2.2.2,sV w t=true:=by
 simp only [lr,Bool.and_eq_true,List.all_eq_true] at h;grind
theorem oy {w:aT} (h:lr w=true):w.1.length<=10/\w.2.1.length<=6/\(0<=w.2.2.1/\w.2.2.1<=99)/\w.2.2.2.length<=30:=by
 have:=(x6 h).1;simp [wj] at this;omega
theorem ahS {w:aT} (h:lr w=true) {m k:Int} (hm:fN w m k=true):(ff w m).length<=4:=by
 have:=(x6 h).2.2.1 _ (NK hm);simp [pV] at this;omega
theorem ahT {w:aT} (h:lr w=true) {m k:Int} (hm:fN w m k=true):qQ (uG w m k)=true:=by
 have:=(x6 h).2.2.1 _ (NK hm);simp only [pV,Bool.and_eq_true,List.all_eq_true] at this;exact this.2 _ (Vc hm)
theorem ahU {s:wg} (h:qQ s=true):0<=s.2.2.1/\s.2.2.1<=s.2.2.2/\s.2.2.2<=999:=by
 simp only [qQ,wi,Bool.and_eq_true,decide_eq_true_eq] at h;omega
theorem NL {w:aT} (h:lr w=true) {i:Int} (U:e3 w i=true):0<=(eY w i).2.2.1/\(eY w i).2.2.1<=(eY w i).2.2.2/\(eY w i).2.2.2<=999:=by
 have:=(x6 h).2.1 _ (ahR U);simp only [rU,wi,Bool.and_eq_true,decide_eq_true_eq] at this;omega
theorem Vd {w:aT} (h:lr w=true) {t:nk} (aR:t∈w.2.2.2):e3 w t.1=true/\fN w t.2.1 t.2.2.1=true:=by
 have:=(x6 h).2.2.2 _ aR;simp only [sV,Bool.and_eq_true] at this;grind
def qS (w:aT) (i n m k:Int):Bool:=
 decide ((eY w i).1=(uG w m k).1)&&(uG w m k).2.1.contains (eY w i).2.1&&(decide ((uG w m k).2.2.1<=n)&&decide (n<=(uG w m k).2.2.2+w.2.2.1))
def hU (w:aT):Prop:=fp w/\lr w=true
abbrev qT:aU:=⟨.aG iG (.aG bp (.aG bp (.aG bp bp))),dm,λx=>hU x.1/\e3 x.1 x.2.1=true/\fN x.1 x.2.2.2.1 x.2.2.2.2=true,λx=>qS x.1 x.2.1 x.2.2.1 x.2.2.2.1 x.2.2.2.2⟩
theorem Ve (w:aT) (i n m k:Int) (hw:hU w) (U:e3 w i=true) (hm:fN w m k=true):MY mj.sh cA.sh (w,i,n,m,k)=A.pure (qS w i n m k):=by
 unfold MY;have b4:=lq.1 U;have ct:=wh.1 hm;have dr:=ahU (ahT hw.2 hm);have J8:=(oy hw.2).2.2.1;have mS:(uG w m k).2.1.length<2 ^ 63:=(hw.1.2.2.2 _ (NK hm)).2 _ (Vc hm);have gx:=bF (n:=(uG w m k).2.2.2+w.2.2.1) (by omega) (by omega);unfold qS;simp only [uG,ff,eY] at *
 simp only [aU.sh,mj,cA,A.je,A.cN,cc,b4,ct,and_self,A.bL,implies_true,b',gx,v',A.ba (λ_=>mS),mS];rfl
theorem ahV (x):A.bz (MY mj.sh cA.sh x) (qT.sh x):=A.bU λh=>Ve x.1 x.2.1 x.2.2.1 x.2.2.2.1 x.2.2.2.2 h.1 h.2.1 h.2.2
def qU (w:aT) (i n:Int) (t:nk):Bool:=!(decide (t.1=i)&&!decide (qS w i n t.2.1 t.2.2.1=decide (t.2.2.2=1)))
def wk (w:aT) (i n:Int):Bool:=w.2.2.2.all (qU w i n)&&(decide ((eY w i).2.2.1<=n)&&decide (n<=(eY w i).2.2.2))
abbrev DJ:aU:=⟨.aG iG (.aG bp bp),dm,λx=>hU x.1/\e3 x.1 x.2.1=true,λx=>wk x.1 x.2.1 x.2.2⟩
theorem ahW (w:aT) (i n:Int) (hw:hU w) (U:e3 w i=true):MX qT.sh cA.sh (w,i,n)=A.pure (wk w i n):=by
 unfold MX;have b4:=lq.1 U;have aw:=(oy hw.2).2.2.2;rw [A.fv w.2.2.2 (λj (_:Unit)=>(i,n,(j:Int),w,())) (λt b=>if (decide (t.1=i)&&!decide (qS w i n t.2.1 t.2.2.1=decide (t.2.2.2=1)))=true then .done (.done false) else .next b) (λ_=>.next (i,n,w,())) () ?_ ?_ ?_]
 ·rw [lS (q:=qU w i n) _ _ (λt=>by simp only [qU,Bool.not_not])];unfold wk;cases w.2.2.2.all (qU w i n) with
  | false=>simp
  | true=>simp only [if_true,A.aX,A.bX,aU.sh,cA,A.mg,A.hS,cc,b4,and_self,A.bL,Bool.true_and,eY];rfl
 ·rfl
 ·intro j aC b;have gx:=bF (n:=(j:Int)+1) (by omega) (by omega);have aR:=Vd hw.2 (List.getElem_mem aC);have ar:decide (w.2.2.2[j].1=i)=true->(hU w/\e3 w i=true/\fN w w.2.2.2[j].2.1 w.2.2.2[j].2.2.1=true):=λ_=>⟨hw,U,aR.2⟩
  simp only [cc,dn aC,if_true,en aC,dd aC,A.bL,aU.sh,qT,A.mg,A.hS,A.aX,b',gx,and_true,true_and,and_self,implies_true,imp_self];rw [A.ba (λh=>⟨h,ar h⟩)];exact nO (mk:=λ_:Unit=>(i,n,(j:Int)+1,w,()))
 simp
theorem ahX (x):A.bz (MX qT.sh cA.sh x) (DJ.sh x):=A.bU λh=>ahW x.1 x.2.1 x.2.2 h.1 h.2
def ev (w:aT) (i:Int):List Int:=(iE (eY w i).2.2.1 (eY w i).2.2.2).filter (wk w i)
theorem NM {w:aT} {i:Int} (hw:hU w) (U:e3 w i=true):(ev w i).length<=1000:=by
 have:=NL hw.2 U;have aa:=List.length_filter_le (wk w i) (iE (eY w i).2.2.1 (eY w i).2.2.2);rw [sU] at aa;unfold ev;omega
abbrev DK:aU:=⟨.aG iG bp,hl,λx=>hU x.1/\e3 x.1 x.2=true,λx=>ev x.1 x.2⟩
theorem ahY (w:aT) (i:Int) (hw:hU w) (U:e3 w i=true):M4 DJ.sh (w,i)=A.pure (ev w i):=by
 unfold M4;have b4:=lq.1 U;have aw:=NL hw.2 U;simp only [cc,b4,and_self,A.bL];rw [A.hT (iE (eY w i).2.2.1 (eY w i).2.2.2) (λk (l:List Int)=>(i,(eY w i).2.2.1+(k:Int),w,l,())) (λn l=>.next (if wk w i n=true then l++[n] else l)) (λl=>.next (l,())) (λk l=>l.length<=k) [] ?_ ?_ ?_ ?_]
 ·rw [g7,MR];simp only [A.aX,A.bX,List.nil_append];rfl
 ·simp [eY]
 ·simp
 ·intro k ak l Hk;have NJ:k<1000:=by rw [sU] at ak;omega
  have qq:(eY w i).2.2.1+(k:Int)<=(eY w i).2.2.2:=by rw [sU] at ak;omega
  have gx:=bF (n:=(eY w i).2.2.1+(k:Int)+1) (by omega) (by omega);have x7:=bF (n:=(eY w i).2.2.1+((k:Int)+1)) (by omega) (by omega);refine ⟨?_,λbg af=>?_⟩
  ·have aL:List.getD w.1 i.toNat (0,0,0,0)=eY w i:=rfl;have h4:bT (l.length+(0+1)):=by unfold bT;omega
   have aK:(((k+1:Nat):Int))=(k:Int)+1:=by omega
   simp only [b4,and_self,A.bL,aL,qq,decide_true,if_true,aU.sh,DJ,A.cN,hw,U,G7,b',ku,MQ,A.ba h4];cases wk w i ((eY w i).2.2.1+(k:Int))<;>simp [x7,Int.add_assoc]
  grind
 ·intro l Hk;have aL:List.getD w.1 i.toNat (0,0,0,0)=eY w i:=rfl;have:¬(eY w i).2.2.1+((iE (eY w i).2.2.1 (eY w i).2.2.2).length:Int)<=(eY w i).2.2.2:=by rw [sU];omega
  simp only [b4,and_self,A.bL,aL,this,decide_false,Bool.false_eq_true,if_false,A.aX]
theorem ahZ (x):A.bz (M4 DJ.sh x) (DK.sh x):=A.bU λh=>ahY x.1 x.2 h.1 h.2
theorem Vf {w:aT} {i:Nat} (h:i<w.1.length):e3 w (i:Int)=true:=by rw [lq];omega
def sY (w:aT):Bool:=(List.range w.1.length).all λi=>!decide (((ev w (i:Int)).length:Int)=0)
def eo (w:aT) (cb:Bool):Int:=if eH w≠0 then eH w else if cb=false then 1 else if sY w=true then 0 else 3
theorem Hl {w:aT} (h:eH w=0):lr w=true:=by
 unfold eH at h;grind
abbrev Hm:aU:=⟨.aG iG dm,bp,λx=>fp x.1,λx=>eo x.1 x.2⟩
theorem ah0 (w:aT) (cb:Bool) (h:fp w):M3 mT.sh DK.sh (w,cb)=A.pure (eo w cb):=by
 unfold M3 eo;simp only [aU.sh,mT,A.cN,A.ba h];by_cases hc:eH w=0
 ·have hw:hU w:=⟨h,Hl hc⟩
  have ml:=oy hw.2;simp only [hc,ne_eq,not_true,decide_false,Bool.false_eq_true,if_false];cases cb with
  | false=>simp
  | true=>
   simp only [Bool.not_true,Bool.false_eq_true,if_false,Bool.true_eq_false];rw [A.fv (List.range w.1.length) (λi (_:Unit)=>((i:Int),w,())) (λi b=>if decide (((ev w (i:Int)).length:Int)=0)=true then .done (.done (3:Int)) else .next b) (λ_=>.next ()) () ?_ ?_ ?_]
   ·rw [lS (q:=λ(i:Nat)=>!decide (((ev w (i:Int)).length:Int)=0)) _ _ (λi=>by simp)];have e:((List.range w.1.length).all λ(i:Nat)=>!decide (((ev w (i:Int)).length:Int)=0))=sY w:=rfl;rw [e];cases sY w<;>simp
   ·rfl
   ·intro i U b;have U:i<w.1.length:=by grind
    have gx:=bF (n:=(i:Int)+1) (by omega) (by omega);simp only [cc,dn U,if_true,List.getElem_range,DK,hw,Vf U,and_self,A.cN,A.bL,A.aX,b',gx];exact nO (mk:=λ_:Unit=>((i:Int)+1,w,()))
   simp
 grind
theorem ah1 (x):A.bz (M3 mT.sh DK.sh x) (Hm.sh x):=A.bU λh=>ah0 x.1 x.2 h
abbrev Hn:aU:=⟨iG,bp,fp,λw=>eo w true⟩
theorem ah2 (x):A.bz (Ul Hm.sh x) (Hn.sh x):=A.bU λh=>by
 unfold Ul;simp only [aU.sh,Hm,A.cN,A.ba (show fp x from h),Hn]
theorem x8 {w:aT} {cb:Bool} (h:eo w cb=0):eH w=0/\cb=true/\sY w=true:=by
 unfold eo at h;grind
theorem x9 {w:aT} {cb:Bool} (aA:fp w) (h:eo w cb=0):hU w:=⟨aA,Hl (x8 h).1⟩
theorem ah3 {w:aT} (h:sY w=true) {i:Int} (U:e3 w i=true):0<(ev w i).length:=by
 rw [lq] at U;have:=List.all_eq_true.1 h i.toNat (by grind);grind
def Ho (w:aT) (i:Int):(Int×Int)×Int:=if eo w (e3 w i)≠0 then ((0,0),eo w (e3 w i)) else (((ev w i).getD 0 0,(ev w i).getD ((ev w i).length - 1) 0),0)
abbrev Hp:aU:=⟨.aG iG bp,.aG rR bp,λx=>fp x.1,λx=>Ho x.1 x.2⟩
def DL (some many:Int):Int:=if some=many then 1 else if some=0 then 2 else 3
abbrev DM:aU:=⟨.aG bp bp,bp,λ_=>True,λx=>DL x.1 x.2⟩
theorem Vg {ao:Type} {p:ao->Bool}:∀ (l:List ao) (n:Int),l.foldl (λn x=>if p x=true then n+1 else n) n=n+(l.countP p:Int)
 | [],n=>by simp
 | x::l,n=>by
  simp only [List.foldl_cons,List.countP_cons];rw [Vg l];grind
def pX (w:aT) (i m k:Int):Int:=DL ((ev w i).countP λn=>qS w i n m k:Int) ((ev w i).length:Int)
def nS (w:aT) (i m k:Int):Int×Int:=if eo w (e3 w i&&fN w m k)≠0 then (0,eo w (e3 w i&&fN w m k)) else (pX w i m k,0)
abbrev Aw:aU:=⟨.aG iG (.aG bp (.aG bp bp)),.aG bp bp,λx=>fp x.1,λx=>nS x.1 x.2.1 x.2.2.1 x.2.2.2⟩
end Go.Fer
namespace Go.Fer
open A (ab)
set_option linter.unusedVariables false
set_option linter.unusedSimpArgs false
section
variable {ao:Type}
def x_ (d:ao) (x:List ao×(ao->A Bool)):A Int:=
 A.bind (A.loop (λ(G:List ao×(ao->A Bool)×Int×Int×Unit)=>if decide (G.2.2.2.1<G.2.2.1)=true then A.ah (0<=G.2.2.2.1/\
 G.2.2.2.1<Int.ofNat (List.length G.1)) (A.bind (G.2.1 (List.getD G.1 (Int.toNat G.2.2.2.1) d)) λy=>if y=true then A.bind (A.bind (A.pure
 G.2.2.2.1) λr=>A.pure (ab.done r)) λr=>A.pure (ab.done r) else A.pure (ab.next (G.1,G.2.1,G.2.2.1,IntKind.wrap .i64 (Add.add
 G.2.2.2.1 1),()))) else A.bind (A.pure (ab.next ())) λr=>A.pure (ab.done r)) (x.1,x.2,Int.ofNat (List.length x.1),0,())) (ab.bx λ(G
 : Unit)=>A.pure (-1))
def DN (c:List ao×(ao->A Bool)->A Int) (x:List ao×(ao->A Bool)):A Bool:=A.bind (c x) λy=>A.pure (decide (y>=0))
def Vh (c:List ao×(ao->A Bool)->A Bool) (bH:ao×Option (ao->A Bool)->A Bool) (x:List ao×(ao->A Bool)):A Bool:=
 A.bind (c (x.1,λiF=>bH (iF,some x.2))) λy=>A.pure !y
def Vi (x:ao×Option (ao->A Bool)):A Bool:=A.bind (Option.getD x.2 (λx=>{ dU:=False,bP:=λx=>False }) x.1) λy=>A.pure !y
def im (p:ao->Bool):List ao->Int->Int
 | [],_=>-1
 | x::l,i=>if p x=true then i else im p l (i+1)
theorem Ax (p:ao->Bool):∀ (l:List ao) (i:Int),0<=i->(decide (im p l i>=0))=l.any p
 | [],i,_=>by rfl
 | x::l,i,h=>by
  simp only [im,List.any_cons];by_cases au:p x=true
  ·grind
  ·have:=Ax p l (i+1) (by omega);grind
theorem Ay (p:ao->Bool):∀ (l:List ao) (i:Int),gO (λx (i:Int)=>if p x=true then (.done (.done i):ab Int (ab Unit Int)) else .next (i+1)) (λ_=>.next ()) l i=if l.any p=true then .done (im p l i) else .next ()
 | [],i=>by rfl
 | x::l,i=>by
  simp only [gO,List.any_cons,im];by_cases au:p x=true
  ·grind
  ·have:=Ay p l (i+1);grind
theorem DO {p:ao->Bool}:∀ (l:List ao) (i:Int),¬l.any p=true->im p l i=-1
 | [],_,_=>rfl
 | x::l,i,aI=>by
  simp only [List.any_cons,Bool.or_eq_true,not_or] at aI;simp only [im,aI.1,Bool.false_eq_true,if_false];exact DO l _ aI.2
theorem NN (d:ao) (l:List ao) (f:ao->A Bool) (h:l.length<2 ^ 63) (ax:∀ y∈l,∃ b,f y=A.pure b):x_ d (l,f)=A.pure (im (λy=>(f y).val false) l 0):=by
 unfold x_;rw [A.hT l (λi (b:Int)=>(l,f,(l.length:Int),b,())) (λy (i:Int)=>if (f y).val false=true then (.done (.done i):ab Int (ab Unit Int)) else .next (i+1)) (λ_=>.next ()) (λi b=>b=(i:Int)) 0 ?_ ?_ ?_ ?_]
 ·rw [Ay (λy=>(f y).val false)];by_cases bf:(l.any λy=>(f y).val false)=true
  ·simp [bf]
  ·have:im (λy=>(f y).val false) l 0=-1:=by
    have:∀ (l:List ao) (i:Int),¬(l.any λy=>(f y).val false)=true->im (λy=>(f y).val false) l i=-1:=by
     intro l;induction l with
     | nil=>intro i _;rfl
     | cons x l aO=>
      intro i aI;simp only [List.any_cons,Bool.or_eq_true,not_or] at aI;simp only [im,aI.1,Bool.false_eq_true,if_false];grind
    grind
   simp [bf,this]
 ·rfl
 ·rfl
 ·intro i U b af;subst af;have hw:=bF (n:=(i:Int)+1) (by omega) (by omega);refine ⟨?_,λbg dq=>?_⟩
  ·obtain ⟨b,af⟩:=ax _ (List.getElem_mem U);simp only [cc,dn U,if_true,en U,dd U,A.bL,af,A.nN,A.aX,b',hw];split<;>rfl
  grind
 simp
end
abbrev ls (e:ai):aU:=⟨.aG (.slice e) (.fn e .bool),bp,λx=>x.1.length<2 ^ 63/\∀ y∈x.1,∃ b,x.2 y=A.pure b,λx=>im (λy=>(x.2 y).val false) x.1 0⟩
theorem rV (e:ai) (x):A.bz (x_ e.ee x) ((ls e).sh x):=A.bU λh=>NN e.ee x.1 x.2 h.1 h.2
abbrev jz (e:ai):aU:=⟨.aG (.slice e) (.fn e .bool),dm,λx=>x.1.length<2 ^ 63/\∀ y∈x.1,∃ b,x.2 y=A.pure b,λx=>x.1.any λy=>(x.2 y).val false⟩
theorem rW (e:ai) (x):A.bz (DN (ls e).sh x) ((jz e).sh x):=A.bU λh=>by
 unfold DN;simp only [aU.sh,ls,A.cN];rw [A.ba (by exact h)];exact congrArg A.pure (Ax (λy=>(x.2 y).val false) x.1 0 (by omega))
abbrev uH (e:ai):aU:=⟨.aG e (.bQ (.fn e .bool)),dm,λx=>∃ f,x.2=some f/\∃ b,f x.1=A.pure b,λx=>!((x.2.getD λ_=>A.fail) x.1).val false⟩
theorem Az (e:ai) (x):A.bz (Vi x) ((uH e).sh x):=A.bU λh=>by
 obtain ⟨y,o⟩:=x;obtain ⟨f,ax,b,af⟩:=h;change o=some f at ax;subst ax;change f y=A.pure b at af;unfold Vi;simp_all
abbrev gZ (e:ai):aU:=⟨.aG (.slice e) (.fn e .bool),dm,λx=>x.1.length<2 ^ 63/\∀ y∈x.1,∃ b,x.2 y=A.pure b,λx=>x.1.all λy=>(x.2 y).val false⟩
theorem AA (e:ai) (x):A.bz (Vh (jz e).sh (uH e).sh x) ((gZ e).sh x):=A.bU λh=>by
 obtain ⟨l,f⟩:=x;obtain ⟨M,aa⟩:=h;unfold Vh;have hc:∀ y∈l,(uH e).sh (y,some f)=A.pure (!(f y).val false):=λy aJ=>by
  obtain ⟨b,af⟩:=aa y aJ;exact A.eZ ⟨f,rfl,b,af⟩ _
 simp only [aU.sh,jz,A.cN];rw [A.ba ⟨M,λy aJ=>⟨_,hc y aJ⟩⟩];refine congrArg A.pure ?_;rw [List.not_any_eq_all_not];simp
end Go.Fer
namespace Go.Fer
open A (ab)
set_option linter.unusedVariables false
set_option linter.unusedSimpArgs false
theorem uI {ao:Type} {p q:ao->Bool}:∀ {l:List ao},(∀ x∈l,p x=q x)->l.all p=l.all q
 | [],_=>rfl
 | x::l,h=>by
  grind
theorem ah4 (x):A.bz (ag1 x) (cA.sh x):=A.bU λ_=>rfl
theorem ah5 (x):A.bz (ag3 cA.sh x) (o6.sh x):=A.bU λ_=>U' x
abbrev x':aU:=⟨bp,dm,λ_=>True,qP⟩
theorem ah6 (x):A.bz (Uy cA.sh x) (x'.sh x):=A.bU λ_=>by
 unfold Uy;simp only [aU.sh,cA,A.cN,A.bL,x',qP]
theorem ah7 (x):A.bz (agZ cA.sh x) (pU.sh x):=A.bU λh=>U9 x.1 x.2 h
theorem ah8 (x):A.bz (Ut cA.sh x) (qO.sh x):=A.bU λh=>by
 obtain ⟨w,m,k⟩:=x;change fp w at h;have:=U_ w m k h;unfold Ha at this;unfold Ut;simp only [aU.sh,Av,A.cN,A.ba h,cA,A.bL,cc] at this ⊢;have aw:=h.2.1;have hw:=bF (n:=(w.2.1.length:Int) - 1) (by omega) (by omega);simp only [hw,rS];exact this
theorem ah9 (x):A.bz (ag0 x) (uF.sh x):=A.bU λh=>Va x h
theorem ah_ (l:List Int) (n:Int) (h:l.length<2 ^ 63):M8 (l,n)=A.pure (im (λy=>decide (n=y)) l 0):=by
 unfold M8;rw [A.hT l (λi (b:Int)=>(l,n,(l.length:Int),b,())) (λy (i:Int)=>if decide (n=y)=true then (.done (.done i):ab Int (ab Unit Int)) else .next (i+1)) (λ_=>.next ()) (λi b=>b=(i:Int)) 0 ?_ ?_ ?_ ?_]
 ·rw [Ay (λy=>decide (n=y))];by_cases bf:(l.any λy=>decide (n=y))=true
  ·simp_all
  ·rw [if_neg bf,DO l 0 bf];simp
 ·rfl
 ·rfl
 ·intro i U b af;subst af;have hw:=bF (n:=(i:Int)+1) (by omega) (by omega);refine ⟨?_,λbg dq=>?_⟩
  ·simp only [cc,dn U,if_true,en U,dd U,A.bL,A.aX,b',hw];split<;>rfl
  grind
 simp
abbrev Hq:aU:=⟨.aG hl bp,bp,λx=>x.1.length<2 ^ 63,λx=>im (λy=>decide (x.2=y)) x.1 0⟩
theorem ah' (x):A.bz (M8 x) (Hq.sh x):=A.bU λh=>ah_ x.1 x.2 h
theorem aia (x):A.bz (Uo Hq.sh x) (mj.sh x):=A.bU λh=>by
 unfold Uo;simp only [aU.sh,Hq,A.cN];rw [A.ba (by exact h),Ax _ _ _ (by omega)];grind
theorem aib (x):A.bz (Ux x'.sh o6.sh x) ((⟨ox,dm,λ_=>True,rU⟩:aU).sh x):=A.bU λ_=>by
 unfold Ux;simp only [aU.sh,x',o6,A.cN,A.je,A.bL,implies_true,v',rU]
abbrev Hr:aU:=⟨ox,dm,λ_=>True,rU⟩
theorem aic (x):A.bz (Uz uF.sh (gZ bp).sh x'.sh o6.sh x) (sW.sh x):=A.bU λh=>by
 unfold Uz;simp only [aU.sh,uF,o6,gZ,x',A.cN,A.je,A.bL,implies_true,A.hS];rw [A.ba (by exact λ_=>⟨h,λy _=>⟨_,A.eZ trivial _⟩⟩),A.ba (by omega)];simp only [v',cc];refine congrArg A.pure ?_;show _=qQ x;unfold qQ;grind
abbrev AB:aU:=⟨.aG o5 (.bQ (.fn qN .bool)),dm,λx=>∃ f,x.2=some f/\x.1.length<2 ^ 63/\∀ y∈x.1,∃ b,f y=A.pure b,λx=>decide ((x.1.length:Int)<=4)&&x.1.all λy=>((x.2.getD λ_=>A.fail) y).val false⟩
theorem aid (x):A.bz (UA (gZ qN).sh x) (AB.sh x):=A.bU λh=>by
 obtain ⟨m,o⟩:=x;obtain ⟨f,ax,M,aa⟩:=h;change o=some f at ax;subst ax;unfold UA;simp only [aU.sh,gZ,A.cN,A.je,Option.getD_some];simp_all
abbrev AD:aU:=⟨.aG nj (.bQ iG),dm,λx=>∃ w,x.2=some w/\fp w,λx=>sV (x.2.getD ([],[],0,[])) x.1⟩
theorem aie (x):A.bz (UB pU.sh qO.sh cA.sh x) (AD.sh x):=A.bU λh=>by
 obtain ⟨t,o⟩:=x;obtain ⟨w,ax,M⟩:=h;change o=some w at ax;subst ax;unfold UB;simp only [aU.sh,pU,qO,cA,A.cN,A.je,Option.getD_some,A.ba M,M,implies_true,A.bL,v',AD,sV]
theorem aif (x):A.bz (Us cA.sh (gZ ox).sh (gZ o5).sh (gZ nj).sh AB.sh AD.sh Hr.sh sW.sh x) (sX.sh x):=A.bU λh=>by
 have aW:fp x:=h;obtain ⟨M,aa,an,a8⟩:=(h:fp x)
 unfold Us;have d1:∀ s,Hr.sh s=A.pure (rU s):=λ_=>rfl;have d2:∀ m∈x.2.1,AB.sh (m,some sW.sh)=A.pure (pV m):=λm hm=>by
  refine (A.eZ ⟨_,rfl,(a8 m hm).1,λy aJ=>⟨_,A.eZ ((a8 m hm).2 y aJ) _⟩⟩ _).trans (congrArg A.pure ?_);simp only [AB,Option.getD_some,pV,aU.sh,A.hS];grind
 have d3:∀ t,AD.sh (t,some x)=A.pure (sV x t):=λt=>A.eZ ⟨_,rfl,aW⟩ _;have bN:(x.1.all λy=>(Hr.sh y).val false)=x.1.all rU:=uI λs _=>A.hS;have b1:(x.2.1.all λy=>(AB.sh (y,some sW.sh)).val false)=x.2.1.all pV:=uI λm hm=>(congrArg (λz:A Bool=>z.val false) (d2 m hm)).trans A.nN;have bC:(x.2.2.2.all λy=>(AD.sh (y,some x)).val false)=x.2.2.2.all (sV x):=uI λt _=>A.hS;have aK:∀ y,(gZ ox).sh y=A.eT ((gZ ox).pre y) ((gZ ox).g y):=λ_=>rfl;have bq:∀ y,(gZ o5).sh y=A.eT ((gZ o5).pre y) ((gZ o5).g y):=λ_=>rfl;have cF:∀ y,(gZ nj).sh y=A.eT ((gZ nj).pre y) ((gZ nj).g y):=λ_=>rfl;have hd:∀ y,cA.sh y=A.pure (cA.g y):=λ_=>rfl;simp only [aK,bq,cF,hd,A.cN,A.je,A.sT,A.aX];rw [A.ba (by grind),A.ba (by grind),A.ba (by exact λ_=>⟨an,λy _=>⟨_,d3 y⟩⟩)];simp only [v',cc];refine congrArg A.pure ?_;show _=lr x;rw [bN,b1,bC];unfold lr wj;grind
end Go.Fer
namespace Go.Fer
open A (ab)
set_option linter.unusedVariables false
set_option linter.unusedSimpArgs false
def kx (m:List ((Int×Int×Int)×Int)) (k:Int×Int×Int):Option Int:=Option.map (λx=>x.2) (List.find? (λp=>decide (k.1=p.1.1)&&(decide (k.2.1=p.1.2.1)&&decide (k.2.2=p.1.2.2))) m)
def mm (m:List (Int×Int)) (k:Int):Option Int:=Option.map (λx=>x.2) (List.find? (λp=>decide (k=p.1)) m)
theorem Hs {a b:Int×Int×Int}:(decide (a.1=b.1)&&(decide (a.2.1=b.2.1)&&decide (a.2.2=b.2.2)))=decide (a=b):=by
 grind
theorem NO (k):kx [] k=none:=rfl
theorem Ht (k:Int×Int×Int) (v:Int) (k':Int×Int×Int):∀ m,kx (wa m k v) k'=if k'=k then some v else kx m k'
 | []=>by
  show kx [(k,v)] k'=_;by_cases h:k'=k<;>simp [kx,Hs,h]
 | p::m=>by
  have aO:=Ht k v k' m;show kx (if (decide (k.1=p.1.1)&&(decide (k.2.1=p.1.2.1)&&decide (k.2.2=p.1.2.2)))=true then (p.1,v)::m else p::wa m k v) k'=_;rw [Hs];by_cases h:k=p.1
  ·subst h;by_cases dx:k'=p.1<;>simp [kx,Hs,dx]
  ·simp only [h,decide_false,Bool.false_eq_true,if_false];simp only [kx,Hs,List.find?_cons] at aO ⊢;grind
theorem Vj (k v k':Int):∀ m,mm (cC m k v) k'=if k'=k then some v else mm m k'
 | []=>by
  show mm [(k,v)] k'=_;by_cases h:k'=k<;>simp [mm,h]
 | p::m=>by
  have aO:=Vj k v k' m;show mm (if decide (k=p.1)=true then (p.1,v)::m else p::cC m k v) k'=_;by_cases h:k=p.1
  ·subst h;by_cases dx:k'=p.1<;>simp [mm,dx]
  ·simp only [h,decide_false,Bool.false_eq_true,if_false];simp only [mm,List.find?_cons] at aO ⊢;grind
def pY (t:nk):Int×Int×Int:=(t.1,t.2.1,t.2.2.1)
theorem Hu {a b:nk}:nR a b=true<->pY a=pY b/\a.2.2.2≠b.2.2.2:=by
 simp only [nR,Bool.and_eq_true,decide_eq_true_eq,pY,Prod.mk.injEq];omega
theorem Vk (l:List nk):pS l=true<->l.Pairwise λa b=>nR a b=false:=by
 unfold pS;rw [List.pairwise_iff_getElem];simp only [List.all_eq_true,List.mem_range,Bool.not_eq_true'];grind
def Hv (m:List ((Int×Int×Int)×Int)) (pre:List nk):Prop:=∀ k v,kx m k=some v<->(∃ t∈pre,pY t=k/\t.2.2.2=v)
def DP (m:List ((Int×Int×Int)×Int)) (t:nk):Bool:=Option.isSome (kx m (pY t))&&decide (Option.getD (kx m (pY t)) 0≠t.2.2.2)
theorem Vl {m pre} (h:Hv m pre) (ar:pre.Pairwise λa b=>nR a b=false) (t:nk):DP m t=true<->∃ a∈pre,nR a t=true:=by
 unfold DP;cases aw:kx m (pY t) with
 | none=>
  simp only [Option.isSome_none,Bool.false_and,Bool.false_eq_true,false_iff];rintro ⟨a,bf,hc⟩;have:=(h (pY t) a.2.2.2).2 ⟨a,bf,(Hu.1 hc).1,rfl⟩;grind
 | some v=>
  simp only [Option.isSome_some,Bool.true_and,Option.getD_some,decide_eq_true_eq];obtain ⟨b,af,ak,aj⟩:=(h _ _).1 aw;constructor
  ·intro cI;exact ⟨b,af,Hu.2 ⟨ak,by omega⟩⟩
  ·rintro ⟨a,bf,hc⟩ rfl;obtain ⟨bH,b2⟩:=Hu.1 hc;have:=(h (pY t) a.2.2.2).2 ⟨a,bf,bH,rfl⟩;grind
theorem aih {m pre} (h:Hv m pre) {t:nk} (af:∀ a∈pre,nR a t=false):Hv (wa m (pY t) t.2.2.2) (pre++[t]):=by
 intro k v;rw [Ht];by_cases ak:k=pY t
 ·rw [if_pos ak];constructor
  ·grind
  ·rintro ⟨a,bf,M,aa⟩;rcases List.mem_append.1 bf with bf | bf
   ·have hc:=af a bf;have:¬nR a t=true:=by grind
    rw [Hu] at this;grind
   grind
 ·rw [if_neg ak,h];grind
theorem Vm:∀ (bZ:List nk) (m) (pre:List nk),Hv m pre->(pre.Pairwise λa b=>nR a b=false)->
  gO (λt m=>if DP m t=true then (.done (.done 71):ab _ (ab Unit Int)) else .next (wa m (pY t) t.2.2.2)) (λ_=>.next ()) bZ m=if pS (pre++bZ)=true then .next () else .done 71
 | [],m,pre,h,ar=>by
  have:=(Vk pre).2 ar;simp [gO,this]
 | t::bZ,m,pre,h,ar=>by
  simp only [gO];by_cases af:DP m t=true
  ·simp only [af,if_true];obtain ⟨a,bf,hc⟩:=(Vl h ar t).1 af;have:¬pS (pre++t::bZ)=true:=by
    rw [Vk,List.pairwise_append];grind
   grind
  ·have aI:∀ a∈pre,nR a t=false:=λa bf=>by
    have:=λhc=>af ((Vl h ar t).2 ⟨a,bf,hc⟩);grind
   simp only [af,Bool.false_eq_true,if_false];have B0:(pre++[t]).Pairwise λa b=>nR a b=false:=by
    grind
   have:=Vm bZ _ (pre++[t]) (aih h aI) B0;grind
theorem aii (w:aT) (h:fp w):M_ sX.sh w=A.pure (eH w):=by
 have aA:=h;obtain ⟨M,aa,an,a8⟩:=h;unfold M_;simp only [aU.sh,sX,A.cN,A.ba aA];unfold eH;cases hw:lr w with
 | false=>simp
 | true=>
  simp only [Bool.not_true,Bool.false_eq_true,if_false,if_true];rw [A.fv w.2.2.2 (λi (m:List ((Int×Int×Int)×Int))=>(w.2.2.2,(w.2.2.2.length:Int),(i:Int),m,())) (λt m=>if DP m t=true then (.done (.done 71):ab _ (ab Unit Int)) else .next (wa m (pY t) t.2.2.2)) (λ_=>.next ()) [] ?_ ?_ ?_]
  ·rw [Vm w.2.2.2 [] [] (λk v=>by simp [NO]) (by simp)];simp only [List.nil_append];by_cases aR:pS w.2.2.2=true<;>simp [aR]
  ·rfl
  ·intro i U m;have gx:=bF (n:=(i:Int)+1) (by omega) (by omega);simp only [cc,dn U,if_true,en U,dd U,A.bL,A.aX,b',gx];exact Ud (mk:=λm=>(w.2.2.2,(w.2.2.2.length:Int),(i:Int)+1,m,()))
  simp
theorem aij (x):A.bz (M_ sX.sh x) (mT.sh x):=A.bU λh=>aii x h
theorem aik (w:aT) (i n m k:Int) (hw:hU w) (U:e3 w i=true) (hm:fN w m k=true):UD cA.sh mj.sh (w,i,n,m,k)=A.pure (qS w i n m k):=Ve w i n m k hw U hm
theorem ail (x):A.bz (UD cA.sh mj.sh x) (qT.sh x):=A.bU λh=>aik x.1 x.2.1 x.2.2.1 x.2.2.2.1 x.2.2.2.2 h.1 h.2.1 h.2.2
abbrev ya:aU:=⟨.aG nj (.aG (.bQ bp) (.aG (.bQ iG) (.bQ bp))),dm,λx=>∃ i w n,x.2=(some i,some w,some n)/\hU w/\e3 w i=true/\fN w x.1.2.1 x.1.2.2.1=true,λx=>qU (x.2.2.1.getD ([],[],0,[])) (x.2.1.getD 0) (x.2.2.2.getD 0) x.1⟩
theorem aim (x):A.bz (UC qT.sh x) (ya.sh x):=A.bU λh=>by
 obtain ⟨t,o⟩:=x;obtain ⟨i,w,n,ax,hw,U,hm⟩:=h;change o=_ at ax;subst ax;unfold UC;simp only [aU.sh,A.mg,A.hS,Option.getD_some,and_true,true_and,and_self,imp_self,A.bL,ne_eq];by_cases aR:t.1=i
 ·have ar:hU w/\e3 w i=true/\fN w t.2.1 t.2.2.1=true:=⟨hw,U,hm⟩
  simp [qU,aR,ar,A.ba ar]
 ·simp [qU,aR]
def g8 (w:aT):List (List Int):=(List.range w.1.length).map λ(i:Nat)=>ev w (i:Int)
def yb (w:aT) (cb:Bool):Option fo×Int:=if eo w cb≠0 then (none,eo w cb) else (some (w,g8 w),0)
abbrev rX:aU:=⟨.aG iG dm,.aG (.bQ (.st (.aG iG (.slice hl)))) bp,λx=>fp x.1,λx=>yb x.1 x.2⟩
theorem ain {w:aT} {i:Int}:ev w i=(iE (eY w i).2.2.1 (eY w i).2.2.2).filter λn=>w.2.2.2.all (qU w i n):=by
 unfold ev;refine List.filter_congr λn aI=>?_;rw [Ao] at aI;simp [wk,aI]
theorem Vn {w:aT}:∀ (l:List Nat) (acc:List (List Int)),gO (λ(i:Nat) (acc:List (List Int))=>if decide (((ev w (i:Int)).length:Int)=0)=true then (.done (.done (none,(3:Int))):ab _ (ab (List Hi×List (List wg)×Int×List nk×List (List Int)×Unit) (Option fo×Int))) else .next (acc++[ev w (i:Int)])) (λacc=>.next (w.1,w.2.1,w.2.2.1,w.2.2.2,acc,())) l acc
  =if (l.all λ(i:Nat)=>!decide (((ev w (i:Int)).length:Int)=0))=true then .next (w.1,w.2.1,w.2.2.1,w.2.2.2,acc++l.map (λ(i:Nat)=>ev w (i:Int)),()) else .done (none,3)
 | [],acc=>by simp [gO]
 | i::l,acc=>by
  simp only [gO,List.all_cons,List.map_cons];by_cases h:((ev w (i:Int)).length:Int)=0
  ·simp [h]
  ·simp only [h,decide_false,Bool.false_eq_true,if_false,Bool.not_false,Bool.true_and];rw [Vn l];simp
theorem aio (w:aT) (cb:Bool) (h:fp w):Ni mT.sh (gZ nj).sh ya.sh (w,cb)=A.pure (yb w cb):=by
 unfold Ni yb eo;simp only [aU.sh,A.cN,A.ba h];by_cases hc:eH w=0
 ·have hw:hU w:=⟨h,Hl hc⟩
  have ml:=oy hw.2;simp only [hc,ne_eq,not_true,decide_false,Bool.false_eq_true,if_false];cases cb with
  | false=>simp
  | true=>
   simp only [Bool.not_true,Bool.false_eq_true,if_false,Bool.true_eq_false];rw [A.hT (List.range w.1.length) (λi (acc:List (List Int))=>(w.1,(w.1.length:Int),(i:Int),w,w.1,w.2.1,w.2.2.1,w.2.2.2,acc,())) (λ(i:Nat) (acc:List (List Int))=>if decide (((ev w (i:Int)).length:Int)=0)=true then (.done (.done (none,(3:Int))):ab _ (ab (List Hi×List (List wg)×Int×List nk×List (List Int)×Unit) (Option fo×Int))) else .next (acc++[ev w (i:Int)])) (λacc=>.next (w.1,w.2.1,w.2.2.1,w.2.2.2,acc,())) (λi acc=>acc.length<=i) [] ?_ ?_ ?_ ?_]
   ·rw [Vn];have e:((List.range w.1.length).all λ(i:Nat)=>!decide (((ev w (i:Int)).length:Int)=0))=sY w:=rfl;rw [e];by_cases aR:sY w=true<;>simp [aR,g8]
   ·rfl
   ·simp
   ·intro i U acc DQ;have U:i<w.1.length:=by grind
    have j':=Vf U;have aw:=NL hw.2 j';have gx:=bF (n:=(i:Int)+1) (by omega) (by omega);have aL:w.1[i]=eY w (i:Int):=by simp [eY,List.getD_eq_getElem?_getD,U]
    refine ⟨?_,λbg af=>?_⟩
    ·simp only [cc,dn U,if_true,en U,dd U,A.bL,aL,List.getElem_range];rw [A.hT (iE (eY w (i:Int)).2.2.1 (eY w (i:Int)).2.2.2) (λk (l:List Int)=>(w.1,(w.1.length:Int),(i:Int),w,(i:Int),eY w (i:Int),l,(eY w (i:Int)).2.2.1+(k:Int),w.1,w.2.1,w.2.2.1,w.2.2.2,acc,())) (λn l=>.next (if w.2.2.2.all (qU w (i:Int) n)=true then l++[n] else l)) (λl=>.next (w.1,(w.1.length:Int),(i:Int),w,l,w.1,w.2.1,w.2.2.1,w.2.2.2,acc,())) (λk l=>l.length<=k) [] ?_ ?_ ?_ ?_]
     ·rw [g7,MR];simp only [A.aX,A.bX,List.nil_append];rw [<-ain];by_cases bm:((ev w (i:Int)).length:Int)=0
      ·simp [bm]
      ·have h4:bT (acc.length+(0+1)):=by unfold bT;omega
       simp_all
     ·simp
     ·simp
     ·intro k ak l Hk;have NJ:k<1000:=by rw [sU] at ak;omega
      have qq:(eY w (i:Int)).2.2.1+(k:Int)<=(eY w (i:Int)).2.2.2:=by rw [sU] at ak;omega
      have x7:=bF (n:=(eY w (i:Int)).2.2.1+((k:Int)+1)) (by omega) (by omega);have h4:bT (l.length+(0+1)):=by unfold bT;omega
      refine ⟨?_,λbg af=>?_⟩
      ·have pC:∀ t∈w.2.2.2,ya.sh (t,some (i:Int),some w,some ((eY w (i:Int)).2.2.1+(k:Int)))=A.pure (qU w (i:Int) ((eY w (i:Int)).2.2.1+(k:Int)) t):=λt aR=>A.eZ ⟨_,_,_,rfl,hw,j',(Vd hw.2 aR).2⟩ _;simp only [qq,decide_true,if_true,G7];rw [A.ba (by exact ⟨h.2.2.1,λt aR=>⟨_,pC t aR⟩⟩)];have e:(w.2.2.2.all λy=>(A.eT (ya.pre (y,some (i:Int),some w,some ((eY w (i:Int)).2.2.1+(k:Int)))) (ya.g (y,some (i:Int),some w,some ((eY w (i:Int)).2.2.1+(k:Int))))).val false)=w.2.2.2.all (qU w (i:Int) ((eY w (i:Int)).2.2.1+(k:Int))):=uI λt aR=>A.hS;rw [e];by_cases af:w.2.2.2.all (qU w (i:Int) ((eY w (i:Int)).2.2.1+(k:Int)))=true
       ·simp only [af,if_true,b',ku,A.ba h4,A.aX,A.bX,x7,ab.h',Int.natCast_add,Int.natCast_one,Int.add_assoc]
       ·simp only [af,Bool.false_eq_true,if_false,b',ku,A.aX,A.bX,x7,ab.h',Int.natCast_add,Int.natCast_one,Int.add_assoc]
      grind
     ·intro l Hk;have:¬(eY w (i:Int)).2.2.1+((iE (eY w (i:Int)).2.2.1 (eY w (i:Int)).2.2.2).length:Int)<=(eY w (i:Int)).2.2.2:=by rw [sU];omega
      simp only [this,decide_false,Bool.false_eq_true,if_false,A.aX]
    grind
   simp
 grind
theorem aip (x):A.bz (Ni mT.sh (gZ nj).sh ya.sh x) (rX.sh x):=A.bU λh=>aio x.1 x.2 h
theorem aiq (x):A.bz (UE x) (DM.sh x):=A.bU λ_=>by
 unfold UE;simp only [DL,decide_eq_true_eq];grind
theorem NP (w:aT):(g8 w).length=w.1.length:=by simp [g8]
theorem Hw {w:aT} {i:Int} (h:e3 w i=true):List.getD (g8 w) i.toNat []=ev w i:=by
 rw [lq] at h;have:i.toNat<w.1.length:=by omega
 have e:((i.toNat:Nat):Int)=i:=by omega
 simp [g8,List.getD_eq_getElem?_getD,this,e]
abbrev Vo:ai:=.bQ (.st (.aG iG (.slice hl)))
def Hx (o:Option fo) (w:aT):Prop:=o=some (w,g8 w)/\hU w
abbrev AE:aU:=⟨.aG Vo (.aG bp (.aG bp bp)),bp,λx=>∃ w,Hx x.1 w/\e3 w x.2.1=true/\fN w x.2.2.1 x.2.2.2=true,λx=>pX ((x.1.getD (([],[],0,[]),[])).1) x.2.1 x.2.2.1 x.2.2.2⟩
theorem air (w:aT) (i m k:Int) (hw:hU w) (U:e3 w i=true) (hm:fN w m k=true):Nk qT.sh DM.sh (some (w,g8 w),i,m,k)=A.pure (pX w i m k):=by
 unfold Nk;have h4:=NM hw U;have b4:0<=i/\i<((g8 w).length:Int):=by rw [NP];exact lq.1 U
 simp only [Option.isSome_some,Option.getD_some,A.bL,cc,Hw U,A.ba b4];rw [A.hT (ev w i) (λj (n:Int)=>(some (w,g8 w),i,m,k,n,ev w i,((ev w i).length:Int),(j:Int),())) (λx n=>.next (if qS w i x m k=true then n+1 else n)) (λn=>.next (some (w,g8 w),i,n,())) (λj n=>0<=n/\n<=(j:Int)) 0 ?_ ?_ ?_ ?_]
 ·rw [g7,Vg];simp only [A.aX,A.bX,Option.isSome_some,Option.getD_some,A.bL,A.ba b4,Hw U,aU.sh,A.cN,Int.zero_add];rfl
 ·rfl
 ·simp
 ·intro j aC n aI;have DR:=bF (n:=(j:Int)+1) (by omega) (by omega);have wm:=bF (n:=n+1) (by omega) (by omega);have ar:hU w/\e3 w i=true/\fN w m k=true:=⟨hw,U,hm⟩
  refine ⟨?_,λbg af=>?_⟩
  ·simp only [dn aC,if_true,en aC,dd aC,A.bL,Option.isSome_some,Option.getD_some,aU.sh,A.cN,A.ba ar,b',wm];cases qS w i (ev w i)[j] m k<;>simp [DR]
  grind
 simp
theorem ais (x):A.bz (Nk qT.sh DM.sh x) (AE.sh x):=A.bU λh=>by
 obtain ⟨o,i,m,k⟩:=x;obtain ⟨w,⟨ax,hw⟩,U,hm⟩:=h;change o=_ at ax;subst ax;exact air w i m k hw U hm
theorem Hy {w:aT} {cb:Bool} (h:eo w cb=0):yb w cb=(some (w,g8 w),0):=by simp [yb,h]
theorem Hz {w:aT} {cb:Bool} (h:eo w cb≠0):yb w cb=(none,eo w cb):=by simp [yb,h]
theorem ait (w:aT) (i:Int) (h:fp w):M' rX.sh pU.sh (w,i)=A.pure (Ho w i):=by
 unfold M' Ho;simp only [aU.sh,A.mg,A.hS,h,A.bL];by_cases ak:eo w (e3 w i)=0
 ·have hw:=x9 h ak;have U:=(x8 ak).2.1;have ar:=ah3 (x8 ak).2.2 U;have h4:=NM hw U;have gx:=bF (n:=((ev w i).length:Int) - 1) (by omega) (by omega);have aK:(((ev w i).length:Int) - 1).toNat=(ev w i).length - 1:=by omega
  have sS:0<=i/\i<((g8 w).length:Int):=by rw [NP];exact lq.1 U
  have b4:(0:Int)<=0/\(0:Int)<((ev w i).length:Int):=by omega
  have ct:(0:Int)<=((ev w i).length:Int) - 1/\((ev w i).length:Int) - 1<((ev w i).length:Int):=by omega
  simp only [Hy ak,ak,ne_eq,not_true,decide_false,Bool.false_eq_true,if_false,Option.isSome_some,Option.getD_some,A.bL,cc,Hw U,A.ba sS,gx,aK,A.ba ct];simp_all
 ·simp [Hz ak,ak]
theorem aiu (x):A.bz (M' rX.sh pU.sh x) (Hp.sh x):=A.bU λh=>ait x.1 x.2 h
theorem aiv (w:aT) (i m k:Int) (h:fp w):Na rX.sh pU.sh qO.sh AE.sh (w,i,m,k)=A.pure (nS w i m k):=by
 unfold Na nS;simp only [aU.sh,A.mg,A.hS,h,A.bL,and_true,and_self,imp_self,true_and];by_cases ak:eo w (e3 w i&&fN w m k)=0
 ·have hw:=x9 h ak;have U:=(x8 ak).2.1;simp only [Bool.and_eq_true] at U;simp only [Hy ak,ak,ne_eq,not_true,decide_false,Bool.false_eq_true,if_false,A.cN];rw [A.ba (by exact ⟨w,⟨rfl,hw⟩,U.1,U.2⟩)];rfl
 ·simp [Hz ak,ak]
theorem aiw (x):A.bz (Na rX.sh pU.sh qO.sh AE.sh x) (Aw.sh x):=A.bU λh=>aiv x.1 x.2.1 x.2.2.1 x.2.2.2 h
end Go.Fer
namespace Go.Fer
open A (ab)
set_option linter.unusedVariables false
set_option linter.unusedSimpArgs false
theorem AF {n:Int} (M:0<=n) (aa:n<18446744073709551616):IntKind.u64.wrap n=n:=by
 show (if (false&&decide (n % 2 ^ 64>=(2 ^ (64 - 1):Int)))=true then n % 2 ^ 64 - 2 ^ 64 else n % 2 ^ 64)=n;grind
def lu (a b:Int):Int:=((a.toNat||| b.toNat:Nat):Int)
theorem HA {a:Int} (aW:0<=a) (h:a<9223372036854775808):(BitVec.ofInt 64 a).toNat=a.toNat:=by
 grind
theorem aix {a b:Nat} (h:a<9223372036854775808) (dx:b<9223372036854775808):a||| b<9223372036854775808:=by
 have:=Nat.or_lt_two_pow (x:=a) (y:=b) (n:=63) (by omega) (by omega);omega
theorem Vp {a b:Int} (aW:0<=a) (h:a<9223372036854775808) (xQ:0<=b) (dx:b<9223372036854775808):vr .i64 a b=lu a b:=by
 show IntKind.i64.wrap ((BitVec.ofInt 64 a||| BitVec.ofInt 64 b).toNat:Int)=_;rw [BitVec.toNat_or,HA aW h,HA xQ dx];have:=aix (a:=a.toNat) (b:=b.toNat) (by omega) (by omega);exact bF (by omega) (by omega)
theorem Vq {k:Nat} (h:k<63):y' .i64 1 (k:Int)=((2 ^ k:Nat):Int):=by
 show IntKind.i64.wrap (1*2 ^ (min ((k:Int).toNat) 64))=_;have e:min ((k:Int).toNat) 64=k:=by omega
 rw [e,Int.one_mul];have aa:(2:Nat) ^ k<=2 ^ 62:=Nat.pow_le_pow_right (by omega) (by omega);have cF:(2:Nat) ^ 62=4611686018427387904:=by decide
 have bq:(2:Int) ^ k=((2 ^ k:Nat):Int):=by simp
 rw [bq];rw [cF] at aa;generalize 2 ^ k=p at aa;exact bF (by omega) (by omega)
theorem DS:∀ (n:Nat) (l:List Int),l.Nodup->(∀ x∈l,0<=x/\x<(n:Int))->l.length<=n
 | 0,l,_,h=>by
  cases l with
  | nil=>simp
  | cons x l=>have:=h x (by simp);omega
 | n+1,l,aI,h=>by
  have aa:=DS n (l.erase (n:Int)) (aI.erase _) λx au=>by
   grind
  grind
def Vr (w:aT) (i n m:Int):Nat:=(List.range (ff w m).length).foldl (λb (k:Nat)=>if qS w i n m (k:Int)=true then b||| 2 ^ k else b) 0
theorem Vs {p:Nat->Bool} (s:Nat):∀ (l:List Nat) (b:Nat),(∀ k∈l,k<s)->b<2 ^ s->l.foldl (λb k=>if p k=true then b||| 2 ^ k else b) b<2 ^ s
 | [],b,_,af=>af
 | k::l,b,aw,af=>by
  simp only [List.foldl_cons];refine Vs s l _ (λj aC=>aw j (List.mem_cons_of_mem _ aC)) ?_;split
  ·exact Nat.or_lt_two_pow af (Nat.pow_lt_pow_right (by omega) (aw k (by simp)))
  omega
theorem aiy (w:aT) (i n m:Int):Vr w i n m<2 ^ (ff w m).length:=Vs _ _ _ (λk ak=>by grind) (Nat.two_pow_pos _)
def mn (w:aT) (i n m:Int):Int:=(Vr w i n m:Int)
theorem NQ {w:aT} (hw:hU w) {m:Int} (hm:kb w m=true):(ff w m).length<=4:=by
 rw [uE] at hm;have:=(x6 hw.2).2.2.1 _ (x2 (d:=[]) hm.1 hm.2);simp only [pV,Bool.and_eq_true,Bool.not_eq_true',decide_eq_false_iff_not] at this;unfold ff;omega
theorem Vt {w:aT} (hw:hU w) {m:Int} (hm:kb w m=true) (i n:Int):0<=mn w i n m/\mn w i n m<16:=by
 have M:=aiy w i n m;have aa:2 ^ (ff w m).length<=2 ^ 4:=Nat.pow_le_pow_right (by omega) (NQ hw hm);unfold mn;omega
theorem aiz {w:aT} {m:Int} (hm:kb w m=true) {k:Nat} (ak:k<(ff w m).length):fN w m (k:Int)=true:=by
 rw [wh];exact ⟨uE.1 hm,by omega,by omega⟩
def sZ (l:List Int) (c:Int):List Int:=if l.contains c=true then l else l++[c]
theorem aiA {l:List Int} (h:l.Nodup) (c:Int):(sZ l c).Nodup:=by
 unfold sZ;grind
theorem NR {l:List Int} {c x:Int}:x∈sZ l c<->x∈l\/x=c:=by
 unfold sZ;grind
def AG (w:aT) (i m:Int):List Int:=(ev w i).foldl (λad n=>sZ ad (mn w i n m)) []
def mU (w:aT) (m:Int):List (List Int):=(List.range w.1.length).map λ(i:Nat)=>AG w (i:Int) m
end Go.Fer
namespace Go.Fer
open A (ab)
set_option linter.unusedVariables false
set_option linter.unusedSimpArgs false
def AH (l:List Int):Prop:=∀ x∈l,0<=x/\x<16
theorem aiB {a b:Int} (h:0<=a/\a<16) (dx:0<=b/\b<16):0<=lu a b/\lu a b<16:=by
 unfold lu;have:=Nat.or_lt_two_pow (x:=a.toNat) (y:=b.toNat) (n:=4) (by omega) (by omega);omega
theorem aiC {a b:Int} (h:0<=a/\a<16) (dx:0<=b/\b<16):vr .i64 a b=lu a b:=Vp (by omega) (by omega) (by omega) (by omega)
def mo (l:List Int):Prop:=l.Nodup/\AH l
theorem mo.len {l:List Int} (h:mo l):l.length<=16:=DS 16 l h.1 h.2
theorem mo.add {l:List Int} (h:mo l) {c:Int} (hc:0<=c/\c<16):mo (sZ l c):=
 ⟨aiA h.1 c,λx au=>by
  rcases NR.1 au with k | rfl
  ·exact h.2 x k
  omega⟩
def wo (c:Int) (can next:List Int):List Int:=can.foldl (λnext b=>sZ next (lu b c)) next
def AI (can l:List Int):List Int:=l.foldl (λnext c=>wo c can next) []
theorem Vu {c:Int} (hc:0<=c/\c<16):∀ {can next:List Int},AH can->mo next->mo (wo c can next)
 | [],_,_,h=>h
 | b::can,next,aA,h=>Vu (can:=can) hc (λx au=>aA x (List.mem_cons_of_mem _ au)) (h.add (aiB (aA b (by simp)) hc))
theorem Vv {can:List Int} (HB:AH can):∀ (l next:List Int),AH l->mo next->mo (l.foldl (λnext c=>wo c can next) next)
 | [],_,_,h=>h
 | c::l,next,aA,h=>Vv HB l _ (λx au=>aA x (List.mem_cons_of_mem _ au)) (Vu (aA c (by simp)) HB h)
theorem aiD {can l:List Int} (HB:AH can) (aw:AH l):mo (AI can l):=Vv HB l [] aw ⟨List.nodup_nil,λx au=>by cases au⟩
def mq (each:List (List Int)) (list:List Int):List Int:=list.foldl (λcan i=>AI can (each.getD i.toNat [])) [0]
def uJ (w:aT) (m:Int):Int:=((2 ^ (ff w m).length:Nat):Int) - 1
def Vw (w:aT) (each:List (List Int)) (list:List Int) (m:Int):Int:=DL ((mq each list).countP λb=>decide (b=uJ w m):Int) ((mq each list).length:Int)
theorem aiE {w:aT} (hw:hU w) {m:Int} (hm:kb w m=true) (i:Int):mo (AG w i m):=by
 unfold AG;have:∀ (l ad:List Int),mo ad->mo (l.foldl (λad n=>sZ ad (mn w i n m)) ad):=by
  intro l;induction l with
  | nil=>simp
  | cons n l aO=>intro ad h;exact aO _ (h.add (Vt hw hm i n))
 exact this _ _ ⟨List.nodup_nil,λx au=>by cases au⟩
def yc (w:aT) (list:List Int) (m:Int):Int:=Vw w (mU w m) list m
theorem aiF {w:aT} {i:Nat} (h:i<w.2.1.length):kb w (i:Int)=true:=by rw [uE];omega
def AJ (w:aT) (list:List Int):Bool:=(List.range w.2.1.length).all λ(m:Nat)=>decide (yc w list (m:Int)=1)
end Go.Fer
namespace Go.Fer
open A (ab)
set_option linter.unusedVariables false
set_option linter.unusedSimpArgs false
theorem aiG {k:IntKind} (ak:k.bits=64) {a i:Nat} (h:i<63):gL k (a:Int) (i:Int)=((a / 2 ^ i:Nat):Int):=by
 show (a:Int).fdiv (2 ^ (min ((i:Int).toNat) k.bits))=_;grind
theorem aiH {a:Nat} (h:a<9223372036854775808):hO .u64 (a:Int) 1=((a % 2:Nat):Int):=by
 show IntKind.u64.wrap ((BitVec.ofInt 64 (a:Int)&&& BitVec.ofInt 64 1).toNat:Int)=_;rw [BitVec.toNat_and,HA (by omega) (by omega),HA (by omega) (by omega)];have e:((1:Int).toNat)=1:=rfl;rw [e,Int.toNat_natCast,Nat.and_one_is_mod];exact AF (by omega) (by omega)
def eC (n b:Nat):List Int:=((List.range n).filter λi=>decide (b / 2 ^ i % 2=1)).map λ(i:Nat)=>(i:Int)
theorem DT {ao β:Type} {p:ao->Bool} {g:ao->β}:∀ (l:List ao) (b:List β),l.foldl (λb x=>if p x=true then b++[g x] else b) b=b++(l.filter p).map g
 | [],b=>by simp
 | x::l,b=>by
  simp only [List.foldl_cons,List.filter_cons];rw [DT l];grind
theorem Vx (n b:Nat):(eC n b).length<=n:=by
 unfold eC;grind
theorem aiI {n b:Nat} {i:Int} (h:i∈eC n b):0<=i/\i<(n:Int):=by
 simp only [eC,List.mem_map,List.mem_filter,List.mem_range] at h;omega
def AK (bP:List (List Int)):Int:=((bP.getD 0 []).length:Int)
def DU (w:aT) (bP:List (List Int)) (b:Nat):List (List Int):=
 if (decide ((bP.length:Int) > 0)&&decide (((eC w.1.length b).length:Int) > AK bP))=true then bP
 else if AJ w (eC w.1.length b)=true then (if (decide ((bP.length:Int) > 0)&&decide (((eC w.1.length b).length:Int)<AK bP))=true then [] else bP)++[eC w.1.length b]
 else bP
def wq (w:aT):List (List Int):=(List.range (2 ^ w.1.length)).foldl (DU w) []
end Go.Fer
namespace Go.Fer
open A (ab)
set_option linter.unusedVariables false
set_option linter.unusedSimpArgs false
def DV (w:aT):Int×Int:=if eo w true≠0 then (0,eo w true) else if ((wq w).length:Int)=0 then (0,3) else (AK (wq w),0)
end Go.Fer
namespace Go.Fer
open A (ab)
set_option linter.unusedVariables false
set_option linter.unusedSimpArgs false
theorem A.AL {G aQ:Type} {body:G->A (ab G aQ)} {p:aQ->Prop} {s0:G} (n:Nat) (I:Nat->G->Prop) (aW:I 0 s0)
  (aA:∀ i,i<n->∀ s,I i s->A.cp (body s) λst=>match st with | .next s'=>I (i+1) s' | .done r=>p r)
  (ax:∀ s,I n s->A.cp (body s) λst=>match st with | .next _=>False | .done r=>p r):A.cp (A.loop body s0) p:=by
 have key:∀ k i s,n - i=k->i<=n->I i s->A.cp (A.loop body s) p:=by
  intro k;induction k with
  | zero=>
   intro i s ak U h;have:i=n:=by omega
   subst this;rw [A.BD,A.gf];refine (ax s h).mono λy aJ=>?_;cases y with
   | next s'=>grind
   | done r=>exact A.ez.2 aJ
  | succ k aO=>
   intro i s ak U h;rw [A.BD,A.gf];refine (aA i (by omega) s h).mono λy aJ=>?_;cases y with
   | next s'=>grind
   | done r=>exact A.ez.2 aJ
 grind
theorem A.Z8 {ao:Type} {m:A ao} {v:ao} {p:ao->Prop} (h:m=A.pure v) (ar:p v):A.cp m p:=by rw [h];exact A.ez.2 ar
def iT (m:List (Int×Int)):List Int:=m.map (·.1)
theorem Vy (p:Int×Int) (m:List (Int×Int)) (k v:Int):cC (p::m) k v=if decide (k=p.1)=true then (p.1,v)::m else p::cC m k v:=rfl
theorem Vz (k v:Int):∀ (m:List (Int×Int)),((iT m).Nodup->(iT (cC m k v)).Nodup)/\∀ x,x∈iT (cC m k v)<->x∈iT m\/x=k
 | []=>by
  show ((iT []).Nodup->(iT [(k,v)]).Nodup)/\∀ x,x∈iT [(k,v)]<->x∈iT []\/x=k;simp [iT]
 | p::m=>by
  obtain ⟨M,aa⟩:=Vz k v m;rw [Vy];by_cases h:k=p.1
  ·subst h;simp only [decide_true,if_true];refine ⟨λh=>h,λx=>?_⟩;show x∈p.1::iT m<->x∈p.1::iT m\/x=p.1;grind
  ·simp only [h,decide_false,Bool.false_eq_true,if_false];refine ⟨λaI=>?_,λx=>?_⟩
   ·show (p.1::iT (cC m k v)).Nodup;have tW:(p.1::iT m).Nodup:=aI;grind
   ·show x∈p.1::iT (cC m k v)<->x∈p.1::iT m\/x=k;grind
theorem VA {k v:Int}:∀ {m:List (Int×Int)} {q:Int×Int},q∈cC m k v->q∈m\/q.2=v
 | [],q,h=>by
  have h:q∈[(k,v)]:=h;grind
 | p::m,q,h=>by
  rw [Vy] at h;split at h
  ·grind
  ·rcases List.mem_cons.1 h with rfl | h
   ·simp
   ·exact (VA h).imp (List.mem_cons_of_mem _) id
theorem VB {m:List (Int×Int)} {k T:Int} (h:∀ p∈m,1<=p.2/\p.2<=T) (a2:0<=T):0<=(mm m k).getD 0/\(mm m k).getD 0<=T:=by
 unfold mm;cases ax:m.find? λp=>decide (k=p.1) with
 | none=>grind
 | some p=>
  grind
theorem aiJ {m:List (Int×Int)} (h:∀ p∈m,1<=p.2) (k:Int):decide ((mm m k).getD 0 > 0)=(iT m).contains k:=by
 unfold mm iT;rw [Bool.eq_iff_iff];simp only [decide_eq_true_eq,List.contains_iff_mem,List.mem_map];cases ax:m.find? λp=>decide (k=p.1) with
 | none=>
  grind
 | some p=>
  grind
theorem VC {c x:Int}:∀ {can next:List Int},x∈wo c can next<->x∈next\/∃ b∈can,x=lu b c
 | [],next=>by simp [wo]
 | b::can,next=>by
  have:wo c (b::can) next=wo c can (sZ next (lu b c)):=rfl
  rw [this,VC,NR];grind
theorem aiK {can l:List Int} {x:Int}:x∈AI can l<->∃ c∈l,∃ b∈can,x=lu b c:=by
 have:∀ (l next:List Int),x∈l.foldl (λnext c=>wo c can next) next<->x∈next\/∃ c∈l,∃ b∈can,x=lu b c:=by
  intro l;induction l with
  | nil=>simp
  | cons c l aO=>
   intro next
   rw [List.foldl_cons,aO,VC];grind
 have:=this l [];simpa [AI] using this
theorem VD {w:aT} {i m x:Int}:x∈AG w i m<->∃ n∈ev w i,x=mn w i n m:=by
 have:∀ (l ad:List Int),x∈l.foldl (λad n=>sZ ad (mn w i n m)) ad<->x∈ad\/∃ n∈l,x=mn w i n m:=by
  intro l;induction l with
  | nil=>simp
  | cons n l aO=>
   intro ad;rw [List.foldl_cons,aO,NR];grind
 have:=this (ev w i) [];simpa [AG] using this
def qV (m:List (Int×Int)) (T:Int) (q:Int->Prop):Prop:=(iT m).Nodup/\(∀ x,x∈iT m<->q x)/\∀ p∈m,1<=p.2/\p.2<=T
theorem qV.add {m:List (Int×Int)} {T:Int} {q q':Int->Prop} (h:qV m T q) {k:Int} (a2:0<=T) (bt:∀ x,q' x<->q x\/x=k):qV (cC m k ((mm m k).getD 0+1)) (T+1) q':=by
 obtain ⟨M,aa,an⟩:=h;obtain ⟨aS,aY⟩:=Vz k ((mm m k).getD 0+1) m;refine ⟨aS M,λx=>by grind,λp ar=>?_⟩;have af:=VB (k:=k) an a2;rcases VA ar with ar | ar
 ·have:=an p ar;omega
 ·omega
theorem qV.HC {m:List (Int×Int)} {T fw:Int} {q q':Int->Prop} (h:qV m T q) (a2:T<=fw) (bt:∀ x,q' x<->q x):qV m fw q':=
 ⟨h.1,λx=>by rw [h.2.1,bt],λp ar=>by have:=h.2.2 p ar;omega⟩
abbrev NS (x:Option fo×List Int×Int):Prop:=∃ w,Hx x.1 w/\x.2.1.length<2 ^ 63/\(∀ i∈x.2.1,e3 w i=true)/\kb w x.2.2=true
def NT (x:Option fo×List Int×Int):A (List (Int×Int)):=
 ⟨NS x,λm=>(iT m).Nodup/\(∀ p∈m,1<=p.2)/\∀ w,x.1=some (w,g8 w)->∀ s,s∈iT m<->s∈mq (mU w x.2.2) x.2.1⟩
theorem VE {w:aT} {i m:Int} (h:e3 w i=true):List.getD (mU w m) i.toNat []=AG w i m:=by
 rw [lq] at h;have M:i.toNat<w.1.length:=by omega
 have e:((i.toNat:Nat):Int)=i:=by omega
 simp [mU,List.getD_eq_getElem?_getD,M,e]
theorem aiL {each:List (List Int)} {list:List Int} {j:Nat} (h:j<list.length):mq each (list.take (j+1))=AI (mq each (list.take j)) (each.getD (list[j]).toNat []):=by
 have e:list.take (j+1)=list.take j++[list[j]]:=by simp
 unfold mq;grind
theorem NU {w:aT} (hw:hU w) {m:Int} (hm:kb w m=true):∀ (list can:List Int),(∀ i∈list,e3 w i=true)->mo can->mo (list.foldl (λcan i=>AI can ((mU w m).getD i.toNat [])) can)
 | [],_,_,h=>h
 | i::list,can,aw,h=>by
  refine NU hw hm list _ (λj aC=>aw j (List.mem_cons_of_mem _ aC)) (aiD h.2 ?_);rw [VE (aw i (by simp))];exact (aiE hw hm i).2
theorem VF:mo [0]:=⟨by simp,λx au=>by grind⟩
end Go.Fer
namespace Go.Fer
open A (ab)
set_option linter.unusedVariables false
set_option linter.unusedSimpArgs false
theorem aiM {mr:List (Int×Int)} {can:List Int} {T:Int} (aA:qV mr T λx=>x∈can) (ax:mo can):mr.length<=16:=by
 have:(iT mr).length<=16:=DS 16 _ aA.1 λx au=>by have:=ax.2 x ((aA.2.1 x).1 au);omega
 simpa [iT] using this
theorem aiN {ao:Type} {l:List ao} {k:Nat} (h:k<l.length) {p:ao->Prop}:(∃ n∈l.take (k+1),p n)<->(∃ n∈l.take k,p n)\/p l[k]:=by
 have e:l.take (k+1)=l.take k++[l[k]]:=by simp
 grind
theorem aiO (w:aT) (list:List Int) (m:Int) (hw:hU w) (aw:list.length<2 ^ 63) (aA:∀ i∈list,e3 w i=true) (hm:kb w m=true) :
  A.cp (Nn qT.sh (some (w,g8 w),list,m)) λr=>∃ T,qV r T λx=>x∈mq (mU w m) list:=by
 have b4:=uE.1 hm;have dr:=NQ hw hm;have aL:List.getD w.2.1 m.toNat []=ff w m:=rfl;unfold Nn;rw [A.gf];refine A.AL (p:=λr=>A.cp (ab.bx _ r) _) list.length (λj s=>∃ mr:List (Int×Int),s=(some (w,g8 w),m,mr,list,(list.length:Int),(j:Int),())/\∃ T,qV mr T λx=>x∈mq (mU w m) (list.take j)) ?_ ?_ ?_
 ·refine ⟨[(0,1)],rfl,1,by simp [iT],λx=>?_,λp ar=>?_⟩
  ·rfl
  grind
 ·rintro j aC s ⟨mr,rfl,T,cm⟩;have U:=aA list[j] (List.getElem_mem aC);have ati:=lq.1 U;have h4:=NM hw U;have AM:mo (mq (mU w m) (list.take j)):=NU hw hm _ _ (λi U=>aA i (List.mem_of_mem_take U)) VF;have cH:=aiM cm AM;have DR:=bF (n:=(j:Int)+1) (by omega) (by omega);have ct:0<=list[j]/\list[j]<((g8 w).length:Int):=by rw [NP];omega
  simp only [cc,dn aC,if_true,en aC,dd aC,A.bL,Option.isSome_some,Option.getD_some,A.ba ct,Hw U,A.gf];generalize fs:list[j]=i at U h4;refine A.AL (p:=λr=>A.cp (ab.bx _ r) _) (ev w i).length (λk s=>∃ next:List (Int×Int),s=(some (w,g8 w),m,mr,i,list,(list.length:Int),(j:Int),ev w i,((ev w i).length:Int),(k:Int),next,())/\
   qV next (16*(k:Int)) λx=>∃ n∈(ev w i).take k,∃ b∈mq (mU w m) (list.take j),x=lu b (mn w i n m)) ?_ ?_ ?_
  ·exact ⟨[],rfl,by simp [iT],λx=>by simp [iT],λp ar=>by cases ar⟩
  ·rintro k ak s ⟨next,rfl,NV⟩;have jy:=bF (n:=(k:Int)+1) (by omega) (by omega);simp only [dn ak,if_true,en ak,dd ak,A.bL,Option.isSome_some,Option.getD_some,A.ba b4,aL];generalize hk:(ev w i)[k]=n;rw [A.hT (List.range (ff w m).length) (λq (b:Nat)=>(some (w,g8 w),m,mr,i,n,(b:Int),list,(list.length:Int),(j:Int),ev w i,((ev w i).length:Int),(k:Int),((ff w m).length:Int),(q:Int),next,())) (λ(q:Nat) b=>.next (if qS w i n m (q:Int)=true then b||| 2 ^ q else b))
    (λb=>.next (some (w,g8 w),m,mr,i,(b:Int),list,(list.length:Int),(j:Int),ev w i,((ev w i).length:Int),(k:Int),next,())) (λq b=>b<2 ^ 4) 0 ?_ ?_ ?_ ?_]
   ·rw [g7];simp only [A.aX,A.bX,A.gf];show A.cp (A.loop _ (some (w,g8 w),m,mr,i,mn w i n m,list,(list.length:Int),(j:Int),ev w i,((ev w i).length:Int),(k:Int),next,(none,mr),())) _;have aiP:=Vt hw hm i n;refine A.AL (p:=λr=>A.cp (ab.bx _ r) _) mr.length (λq s=>∃ (wu:List (Int×Int)) (cur:Option (Int×Int)) (bZ D:List (Int×Int)),s=(some (w,g8 w),m,mr,i,mn w i n m,list,(list.length:Int),(j:Int),ev w i,((ev w i).length:Int),(k:Int),wu,(cur,bZ),())/\
     bZ.length=mr.length - q/\(∀ p,p∈mr<->p∈D\/p∈bZ)/\qV wu (16*(k:Int)+(q:Int)) λx=>(∃ n∈(ev w i).take k,∃ b∈mq (mU w m) (list.take j),x=lu b (mn w i n m))\/∃ p∈D,x=lu p.1 (mn w i n m)) ?_ ?_ ?_
    ·exact ⟨next,none,mr,[],rfl,by simp,λp=>by simp,NV.HC (by omega) λx=>by simp⟩
    ·rintro q bt s ⟨wu,cur,bZ,D,rfl,nE,g6,AN⟩;simp only [A.gf];refine ⟨trivial,λy aJ=>?_⟩;cases y with
     | none=>
      have:bZ=[]:=aJ;grind
     | some r=>
      have W:r<bZ.length:=aJ;have aiQ:mK cur bZ (some r)=some bZ[r]:=by simp [mK,W]
      have aiR:bZ[r]∈mr:=(g6 _).2 (.inr (List.getElem_mem W));have aiS:0<=bZ[r].1/\bZ[r].1<16:=AM.2 _ ((cm.2.1 _).1 (List.mem_map.2 ⟨_,aiR,rfl⟩));have z3:=VB (k:=lu bZ[r].1 (mn w i n m)) AN.2.2 (by omega);have aiT:=bF (n:=(mm wu (lu bZ[r].1 (mn w i n m))).getD 0+1) (by omega) (by omega);simp only [Option.isSome_some,if_true,aiQ,A.bL,A.aX,A.ez,Option.map_some,Option.getD_some,aiC aiS aiP,b'];refine ⟨_,some bZ[r],bZ.eraseIdx r,bZ[r]::D,rfl,by grind,λp=>?_,?_⟩
      ·rw [g6,List.mem_cons];have ar:p∈bZ<->p=bZ[r]\/p∈bZ.eraseIdx r:=by
        have e:bZ=bZ.take r++bZ[r]::bZ.drop (r+1):=by simp
        grind
       grind
      ·show qV (cC wu (lu bZ[r].1 (mn w i n m)) (IntKind.i64.wrap ((mm wu (lu bZ[r].1 (mn w i n m))).getD 0+1))) _ _;rw [aiT];refine (AN.add (by omega) (q':=λx=>(∃ n∈(ev w i).take k,∃ b∈mq (mU w m) (list.take j),x=lu b (mn w i n m))\/∃ p∈bZ[r]::D,x=lu p.1 (mn w i n m)) λx=>?_).HC (by omega) λx=>Iff.rfl;grind
    ·rintro s ⟨wu,cur,bZ,D,rfl,nE,g6,AN⟩;have ks:bZ=[]:=List.eq_nil_of_length_eq_zero (by omega);subst ks;simp only [A.gf];refine ⟨trivial,λy aJ=>?_⟩;cases y with
     | some r=>exact absurd (show r<0 from aJ) (by omega)
     | none=>
      simp only [Option.isSome_none,Bool.false_eq_true,if_false,A.aX,A.ez,A.bX,b',jy];refine ⟨wu,rfl,AN.HC (by omega) λx=>?_⟩;rw [aiN ak,hk];refine or_congr Iff.rfl ⟨?_,?_⟩
      ·rintro ⟨b,af,rfl⟩;obtain ⟨p,ar,rfl⟩:=List.mem_map.1 ((cm.2.1 b).2 af);grind
      ·rintro ⟨p,ar,rfl⟩;exact ⟨p.1,(cm.2.1 _).1 (List.mem_map.2 ⟨p,(g6 p).2 (.inl ar),rfl⟩),rfl⟩
   ·rfl
   ·decide
   ·intro q bt b af;have bt:q<(ff w m).length:=by grind
    have af:b<16:=by omega
    have aiU:=bF (n:=(q:Int)+1) (by omega) (by omega);have ar:hU w/\e3 w i=true/\fN w m (q:Int)=true:=⟨hw,U,aiz hm bt⟩
    have aa:2 ^ q<2 ^ 4:=Nat.pow_lt_pow_right (by omega) (by omega);have tN:2 ^ q<16:=by omega
    have Cg:(0:Int)<=(q:Int):=by omega
    have al:vr .i64 (b:Int) ((2 ^ q:Nat):Int)=lu (b:Int) ((2 ^ q:Nat):Int):=by
     generalize 2 ^ q=P at tN;exact Vp (by omega) (by omega) (by omega) (by omega)
    have ud:lu (b:Int) ((2 ^ q:Nat):Int)=((b||| 2 ^ q:Nat):Int):=by rfl
    refine ⟨?_,λbg dq=>?_⟩
    ·simp only [dn bt,if_true,aU.sh,A.cN,Option.isSome_some,Option.getD_some,A.bL,A.ba ar,List.getElem_range];by_cases ax:qS w i n m (q:Int)=true
     ·simp only [ax,if_true,A.ba Cg,Vq (k:=q) (by omega),al,ud,A.aX,A.bX,b',aiU];rfl
     simp_all
    ·cases dq;split
     ·exact Nat.or_lt_two_pow (n:=4) (by omega) (by grind)
     omega
   simp
  ·rintro s ⟨next,rfl,NV⟩;simp only [Int.lt_irrefl,decide_false,Bool.false_eq_true,if_false,A.aX,A.ez,A.bX,b',DR];refine ⟨next,rfl,_,NV.HC (Int.le_refl _) λx=>?_⟩;rw [aiL aC,aiK,fs,VE U];constructor
   ·rintro ⟨c,hc,b,af,rfl⟩;obtain ⟨n,aI,rfl⟩:=VD.1 hc;grind
   ·rintro ⟨n,aI,b,af,rfl⟩;rw [List.take_length] at aI;exact ⟨_,VD.2 ⟨n,aI,rfl⟩,b,af,rfl⟩
 ·rintro s ⟨mr,rfl,T,cm⟩;rw [List.take_length] at cm;simp only [cc,Int.lt_irrefl,decide_false,Bool.false_eq_true,if_false,A.aX,A.ez,A.bX];grind
theorem aiV (x):A.bz (Nn qT.sh x) (NT x):=λh=>by
 obtain ⟨o,list,m⟩:=x;obtain ⟨w,⟨al,hw⟩,aw,aA,hm⟩:=h;change o=_ at al;subst al;obtain ⟨M,aa⟩:=aiO w list m hw aw aA hm;refine ⟨M,λr W=>?_⟩;obtain ⟨T,aS,aY,bK⟩:=aa r W;refine ⟨aS,λp ar=>(bK p ar).1,λw' xE s=>?_⟩;grind
end Go.Fer
namespace Go.Fer
open A (ab)
set_option linter.unusedVariables false
set_option linter.unusedSimpArgs false
theorem aiW {l m:List Int} (aw:l.Nodup) (hm:m.Nodup) (h:∀ x,x∈l<->x∈m):l.length=m.length:=by
 have bz:∀ {l m:List Int},l.Nodup->(∀ x∈l,x∈m)->l.length<=m.length:=by
  intro l;induction l with
  | nil=>simp
  | cons x l aO=>
   intro m aI aA;rw [List.nodup_cons] at aI;have au:=aA x (by simp);have:=aO (m:=m.erase x) aI.2 λy aJ=>(List.mem_erase_of_ne λ(e:y=x)=>aI.1 (e ▸ aJ)).2 (aA y (List.mem_cons_of_mem _ aJ));grind
 grind
theorem aiX {l:List Int} (h:l.Nodup) (c:Int):((l.countP λb=>decide (b=c)):Int)=if l.contains c=true then 1 else 0:=by
 induction l with
 | nil=>simp
 | cons x l aO=>
  grind
abbrev DW:aU:=⟨.aG Vo (.aG hl bp),bp,NS,λx=>yc ((x.1.getD (([],[],0,[]),[])).1) x.2.1 x.2.2⟩
theorem aiY (x):A.bz (Uu DM.sh NT x) (DW.sh x):=A.x0 λh=>by
 have ar:=h;obtain ⟨o,list,m⟩:=x;obtain ⟨w,⟨al,hw⟩,aw,aA,hm⟩:=h;change o=_ at al;subst al;change list.length<2 ^ 63 at aw;change ∀ i∈list,e3 w i=true at aA;change kb w m=true at hm;have b4:=uE.1 hm;have dr:=NQ hw hm;have aL:List.getD w.2.1 m.toNat []=ff w m:=rfl;have AM:mo (mq (mU w m) list):=NU hw hm _ _ aA VF;unfold Uu;rw [A.gf];refine ⟨ar,λr ⟨M,aa,an⟩=>?_⟩;have an:=an w rfl;have mO:(0:Int)<=((ff w m).length:Int):=by omega
 have yd:2 ^ (ff w m).length<=16:=Nat.le_trans (Nat.pow_le_pow_right (by omega) dr) (by decide:2 ^ 4<=16);have qD:IntKind.i64.wrap (((2 ^ (ff w m).length:Nat):Int) - 1)=uJ w m:=by
  unfold uJ;generalize 2 ^ (ff w m).length=P at yd;exact bF (by omega) (by omega)
 have hlen:r.length=(mq (mU w m) list).length:=by
  have:=aiW M AM.1 an;simpa [iT] using this
 have hc:=aiJ aa (uJ w m);have lk:(iT r).contains (uJ w m)=(mq (mU w m) list).contains (uJ w m):=by
  grind
 have h4:bT (mq (mU w m) list).length:=by have:=AM.len;unfold bT;omega
 have i':yc w list m=DL (if (mq (mU w m) list).contains (uJ w m)=true then 1 else 0) ((mq (mU w m) list).length:Int):=by
  unfold yc Vw;rw [aiX AM.1]
 simp only [Option.isSome_some,Option.getD_some,A.bL,cc,A.ba b4,aL,A.ba mO,Vq (k:=(ff w m).length) (by omega),qD];show A.cp (A.bind (if decide ((mm r (uJ w m)).getD 0 > 0)=true then _ else _) _) _;rw [hc,lk,i'];by_cases ax:(mq (mU w m) list).contains (uJ w m)=true
 ·simp only [ax,if_true,A.aX,A.bX,hlen,A.ba h4,aU.sh,A.cN,A.bL,A.ez]
 ·simp only [ax,Bool.false_eq_true,if_false,A.aX,A.bX,hlen,A.ba h4,aU.sh,A.cN,A.bL,A.ez]
abbrev DX:aU:=⟨.int .u64,hl,λx=>0<=x/\x<1024,λx=>eC 10 x.toNat⟩
theorem aiZ (b:Nat) (h:b<1024):Hb (b:Int)=A.pure (eC 10 b):=by
 unfold Hb;rw [A.hT (List.range 10) (λi (l:List Int)=>((b:Int),(i:Int),l,())) (λ(i:Nat) l=>.next (if decide (b / 2 ^ i % 2=1)=true then l++[(i:Int)] else l)) (λl=>.next (l,())) (λi l=>l.length<=i) [] ?_ ?_ ?_ ?_]
 ·rw [g7,DT];simp only [A.aX,A.bX,List.nil_append];rfl
 ·rfl
 ·simp
 ·intro i U l aw;have U:i<10:=by grind
  have hn:=bF (n:=(i:Int)+1) (by omega) (by omega);have ai0:(0:Int)<=(i:Int):=by omega
  have ai1:(i:Int)<10:=by omega
  have h4:bT (l.length+(0+1)):=by unfold bT;omega
  have hdiv:b / 2 ^ i<=b:=Nat.div_le_self _ _;have hand:=aiH (a:=b / 2 ^ i) (by omega);have ai2:decide (((b / 2 ^ i % 2:Nat):Int)=1)=decide (b / 2 ^ i % 2=1):=by grind
  refine ⟨?_,λbg dq=>?_⟩
  ·simp only [ai1,decide_true,if_true,List.getElem_range,A.ba ai0,aiG (k:=.u64) rfl (a:=b) (i:=i) (by omega),hand,ai2];by_cases aN:decide (b / 2 ^ i % 2=1)=true
   ·simp only [aN,if_true,ku,A.ba h4,A.aX,A.bX,b',hn];rfl
   ·simp only [aN,Bool.false_eq_true,if_false,A.aX,A.bX,b',hn];rfl
  grind
 simp
theorem ai3 (x:Int) (h:0<=x/\x<1024):Hb x=A.pure (eC 10 x.toNat):=by
 have:=aiZ x.toNat (by omega);grind
theorem ai4 (x):A.bz (Hb x) (DX.sh x):=A.bU λh=>ai3 x h
def VG (x:Int):Int:=
 let a:=IntKind.wrap .u64 (hO .u64 (gL .u64 x 1) 6148914691236517205+hO .u64 x 6148914691236517205)
 let a:=IntKind.wrap .u64 (hO .u64 (gL .u64 a 2) 3689348814741910323+hO .u64 a 3689348814741910323)
 let a:=hO .u64 (IntKind.wrap .u64 (gL .u64 a 4+a)) 1085102592571150095
 let a:=IntKind.wrap .u64 (a+gL .u64 a 8)
 let a:=IntKind.wrap .u64 (a+gL .u64 a 16)
 let a:=IntKind.wrap .u64 (a+gL .u64 a 32)
 hO .i64 (IntKind.wrap .i64 a) 127
def HD:Nat->Bool
 | 0=>true
 | n+1=>decide (VG (n:Int)=((eC 10 n).length:Int))&&HD n
theorem ai5:HD 1024=true:=by decide +kernel
theorem VH:∀ (N n:Nat),HD N=true->n<N->VG (n:Int)=((eC 10 n).length:Int)
 | 0,n,_,h=>by omega
 | N+1,n,hc,h=>by
  simp only [HD,Bool.and_eq_true,decide_eq_true_eq] at hc;by_cases e:n=N
  ·grind
  ·exact VH N n hc.2 (by omega)
abbrev qW:aU:=⟨.int .u64,bp,λx=>0<=x/\x<1024,λx=>((eC 10 x.toNat).length:Int)⟩
theorem ai6 (x:Int) (h:0<=x/\x<1024):M5 x=A.pure ((eC 10 x.toNat).length:Int):=by
 have:=VH 1024 x.toNat ai5 (by omega);rw [Int.toNat_of_nonneg h.1] at this;rw [<-this];unfold M5;simp;rfl
theorem ai7 (x):A.bz (M5 x) (qW.sh x):=A.bU λh=>ai6 x h
theorem ai8 (ai9) (x):A.bz (Um ai9 qW.sh x) (qW.sh x):=A.bU λh=>by
 unfold Um;simp only [aU.sh,A.cN];simp_all
end Go.Fer
