/- Part 4 of the proof of Lines: shallow programs of Go functions, and what they compute. No condition. -/
import Derived.Test.YtplfnoecifjgeaaGreatDoorLinesC
import Derived.OpenShut
import Derived.WideKeyArgs
import Derived.ChangeSame
import Derived.Test.YtplfnoecifjgeaaGreatDoorProg
import Derived.KernelRfl
noncomputable section
set_option linter.unusedVariables false
set_option linter.unusedSimpArgs false
namespace Go.Fer
open Go.RowKit
theorem YJ{P:Program}{ba:ew}{k:FuncId}{c:cW}(h:di P ba k c)(jB:sL P ba){ic:BS}(mk:ic.ts.ak->Nat->(List ic.aN.ak->Prop)->c.cH.ak)(aC:c.lT=lb ic.ts+1)(j8:c.lT<=fF)(vY:ic.ts≠.dp)
    (eG:∀ x l L i,(c.cH.ae (mk x l L)).aD i=.undef\/(i<lb ic.ts/\(c.cH.ae (mk x l L)).aD i=lH ic.ts x i)\/(i=lb ic.ts/\(c.cH.ae (mk x l L)).aD i=.ia l)\/(i=cw/\(c.cH.ae (mk x l L)).aD i=.tr l ic.aN L [] false))
    (jz:c.cH.bR=[]) (qf:∀ bG,∃ n ae l L,(c.bo.ae bG).aD cw=.tr l ic.aN L n ae)
    (ua:∀ x l,ic.pre x->(c.sh (mk x l (λT=>T=ic.seq x))).et/\∀ bG,(c.sh (mk x l (λT=>T=ic.seq x))).bo bG->∀ eo fI n,(c.bo.ae bG).aD cw=.tr eo ic.aN fI n false->n=ic.seq x):Fm P k ic:=by
  refine⟨h.enter,λl I F Y w args x fV iR cJ bF hs j2 fa=>?_⟩;obtain⟨jY,JM⟩:=vH (H:=λ_=>⟨0,.gp⟩) (kap:=λ_=>⟨0,0,0,false⟩) ic.ts fV vY;have wi:∀ b,(c.cH.ae (mk x l (λT=>T=ic.seq x))).W b=⟨0,.gp⟩:=λb=>by
    show fH (ij dz c.cH.bR (fe dz c.cH.cc (mk x l (λT=>T=ic.seq x))).2) b=_;generalize (fe dz c.cH.cc (mk x l (λT=>T=ic.seq x))).2=z;revert z;rw[jz];intro z;rfl
  have cY:(args++[Value.func (.yield l) #[] #[]]).length=c.lT:=by grind
  have U:bH { P:=P,ei:=w,jf:=F,K0:=λr=>r<w.heap.size/\¬Y r,b5:=c.lT,r:=none,dq:=[],jy:=λ_=>none,cP:=⟨l,ic.aN,λT=>T=ic.seq x,I⟩,a8:=ba } (c.cH.ae (mk x l (λT=>T=ic.seq x)))
      { tmps:=(args++[Value.func (.yield l) #[] #[]]).toArray,defers:=[] } w (λ_=>⟨0,0,0,false⟩) F:=
    { ek := by omega
      dq:=rfl
      cc:=λi=>by
        rcases eG x l (λT=>T=ic.seq x) i with e | ⟨D,e⟩ | ⟨D,e⟩ | ⟨D,e⟩
        · rw[e];trivial
        · rw[e]
          have:=(vH (H:=(c.cH.ae (mk x l (λT=>T=ic.seq x))).W) (kap:=λ_=>⟨0,0,0,false⟩) ic.ts fV vY).2 i D
          have aU:(args++[Value.func (.yield l) #[] #[]]).toArray.getD i undef=args.getD i undef:=by
            rw[aKb,aJ7,aKV,aKQ (by omega)]
          grind
        · rw[e]
          show (args++[Value.func (.yield l) #[] #[]]).toArray.getD i undef=_
          simp_all
        · rw[e];trivial
      bR:=λb=>by unfold cX;rw[wi b];trivial
      own:=λb V=>by rw[wi b]at V;cases V
      inj:=λb bl V _ _=>by rw[wi b]at V;cases V
      dH:=bF
      ie:=λr U=>.inl U
      jg:=λr U=>U
      iM:=λr U=>U.1
      fi:=λ_ _=>rfl
      size:=ajn _
      e5:=dP.refl _
      hq:=j8
      lC:=λb r h=>by cases h
      kQ:=λb r h=>by cases h
      lD:=λb k h=>by cases h
      lE:=λb k h=>by cases h
      fo:=λeo lR fI n ae e=>by
        rcases eG x l (λT=>T=ic.seq x) cw with bt | ⟨D,_⟩ | ⟨D,_⟩ | ⟨_,bt⟩
        · grind
        · unfold cw fF at *;omega
        · grind
        · rw[bt]at e
          cases e
          exact⟨⟨I,rfl⟩,cJ,Y,λr U=>⟨(j2 r U).1,(j2 r U).2,λk=>k.2 U⟩,λb V=>(by rw[wi b]at V;cases V),nl.Bi.2 fa⟩
      kR:=jB,jW:=hs }
  obtain⟨az,zb⟩:=ua x l iR;refine (h.ki _ _ w _ F _ rfl rfl rfl rfl rfl rfl U az).mono λe w' ⟨v,bG,aJ,bX,F',he,hh,_,bE⟩=>?_;obtain⟨n,ae,eo,fI,rY⟩:=qf bG;obtain⟨⟨api,P1⟩,_,iv,ai,bf,P2⟩:=bE.fo eo ic.aN fI n ae rY;refine⟨v,n,ae,F',iv,he,λh5=>?_,nl.Bi.1 P2,bE.jg,λr dd=>?_,bE.dH,λr E M=>bE.fi r ⟨E,M⟩,λr dd=>⟨?_,(ai r dd).1,(ai r dd).2.1⟩,bE.size,bE.e5⟩
  · grind
  · rcases bE.ie r dd with h | h
    · exact .inl h
    · by_cases bh:Y r
      · exact .inr (.inl bh)
      · exact .inr (.inr (aLD λcF=>h ⟨cF,bh⟩))
  grind
theorem P3{P:Program}{ba:ew}{k:FuncId}{c:cW}(h:di P ba k c)(jB:sL P ba){cs:List aa}{aN:aa}{S:(hI (cs.map .bV)).ak->List aN.ak->Prop}(mk:(hI (cs.map .bV)).ak->Nat->(List aN.ak->Prop)->c.cH.ak)
    (aC:c.lT=lb (hI (cs.map .bV))+1) (j8:c.lT<=fF) (vY:hI (cs.map .bV)≠.dp)
    (eG:∀ x l L i,(∃ T,S x T)->(c.cH.ae (mk x l L)).aD i=.undef\/(i<lb (hI (cs.map .bV))+1/\0<i/\∃ e y,(c.cH.ae (mk x l L)).aD i=.eI e y/\lH (hI (cs.map .bV)) x (i - 1)=.val (.bV e) (some y))\/(i=0/\(c.cH.ae (mk x l L)).aD i=.ia l)\/(i=cw/\(c.cH.ae (mk x l L)).aD i=.tr l aN L [] false))
    (jz:c.cH.bR=[]) (qf:∀ bG,∃ n ae l L,(c.bo.ae bG).aD cw=.tr l aN L n ae)
    (ua:∀ x l,(∃ L,S x L)->(c.sh (mk x l (S x))).et/\∀ bG,(c.sh (mk x l (S x))).bo bG->∀ eo fI p,(c.bo.ae bG).aD cw=.tr eo aN fI p false->S x p):yN P k ⟨cs,aN,S⟩:=by
  refine⟨h.enter,λF w args x bF hs fV fc l YK Y j2 apj apk=>?_⟩;have cJ:=Yu apj;obtain⟨jY,JM⟩:=vH (H:=λ_=>⟨0,.gp⟩) (kap:=λ_=>⟨0,0,0,false⟩) (hI (cs.map .bV)) fV vY;have wi:∀ b,(c.cH.ae (mk x l (S x))).W b=⟨0,.gp⟩:=λb=>by
    show fH (ij dz c.cH.bR (fe dz c.cH.cc (mk x l (S x))).2) b=_;generalize (fe dz c.cH.cc (mk x l (S x))).2=z;revert z;rw[jz];intro z;rfl
  have cY:(Value.func (.yield l) #[] #[]::args).length=c.lT:=by grind
  have U:bH { P:=P,ei:=w,jf:=F,K0:=λr=>r<w.heap.size/\¬Y r,b5:=c.lT,r:=none,dq:=[],jy:=λ_=>none,cP:=⟨l,aN,S x,YK⟩,a8:=ba } (c.cH.ae (mk x l (S x)))
      { tmps:=(Value.func (.yield l) #[] #[]::args).toArray,defers:=[] } w (λ_=>⟨0,0,0,false⟩) F:=
    { ek := by omega
      dq:=rfl
      cc:=λi=>by
        rcases eG x l (S x) i fc with e | ⟨D,rS,nj,y,e,apl⟩ | ⟨D,e⟩ | ⟨D,e⟩
        · rw[e];trivial
        · rw[e]
          have:=(vH (H:=(c.cH.ae (mk x l (S x))).W) (kap:=λ_=>⟨0,0,0,false⟩) (hI (cs.map .bV)) fV vY).2 (i - 1) (by omega)
          have aU:(Value.func (.yield l) #[] #[]::args).toArray.getD i undef=args.getD (i - 1) undef:=by
            obtain⟨j,rfl⟩:∃ j,i=j+1:=⟨i - 1,by omega⟩
            simp
          rw[aU]
          rw[apl]at this
          obtain⟨_,ab⟩:=(eH rfl).1 this
          simp only[cr]at ab
          rcases ab with⟨_,aC⟩ | ⟨q,ph,bI,bM,EA,aY,a_⟩
          · cases aC
          · cases EA
            exact⟨q,bI,(aKh bM).1,aY,a_⟩
        · rw[e]
          subst D
          rfl
        · rw[e];trivial
      bR:=λb=>by unfold cX;rw[wi b];trivial
      own:=λb V=>by rw[wi b]at V;cases V
      inj:=λb bl V _ _=>by rw[wi b]at V;cases V
      dH:=bF
      ie:=λr U=>.inl U
      jg:=λr U=>U
      iM:=λr U=>U.1
      fi:=λ_ _=>rfl
      size:=ajn _
      e5:=dP.refl _
      hq:=j8
      lC:=λb r h=>by cases h
      kQ:=λb r h=>by cases h
      lD:=λb k h=>by cases h
      lE:=λb k h=>by cases h
      fo:=λeo lR fI n ae e=>by
        rcases eG x l (S x) cw fc with bt | ⟨D,_⟩ | ⟨D,_⟩ | ⟨_,bt⟩
        · grind
        · grind
        · grind
        · rw[bt]at e
          cases e
          exact⟨⟨YK,rfl⟩,cJ,Y,λr U=>⟨(j2 r U).1,(j2 r U).2,λk=>k.2 U⟩,λb V=>(by rw[wi b]at V;cases V),nl.Bi.2 apk⟩
      kR:=jB,jW:=hs }
  obtain⟨az,zb⟩:=ua x l fc;have gg:#[Value.func (.yield l) #[] #[]]++args.toArray=(Value.func (.yield l) #[] #[]::args).toArray:=by simp
  rw[gg];refine (h.ki _ _ w _ F _ rfl rfl rfl rfl rfl rfl U az).mono λe w' ⟨v,bG,aJ,bX,F',he,hh,_,bE⟩=>?_;obtain⟨n,ae,eo,fI,rY⟩:=qf bG;obtain⟨⟨api,P1⟩,_,iv,ai,bf,P2⟩:=bE.fo eo aN fI n ae rY;refine⟨v,n,ae,F',iv,he,λh5=>?_,nl.Bi.1 P2,bE.jg,λr dd=>?_,bE.dH,λr E M=>bE.fi r ⟨E,M⟩,λr dd=>⟨?_,(ai r dd).1,(ai r dd).2.1⟩,bE.size,⟨bE.e5.os,bE.e5.tape,bE.e5.output⟩⟩
  · grind
  · rcases bE.ie r dd with h | h
    · exact .inl h
    · by_cases bh:Y r
      · exact .inr (.inl bh)
      · exact .inr (.inr (aLD λcF=>h ⟨cF,bh⟩))
  grind
end Go.Fer
namespace Go.Fer
open Go.RowKit Go.ChangeShapes Go.WideShapes
def aa.jC:aa->Bool
 | .bool | .int _ | .str | .dp=>true
 | .ae t=>t.jC
 | .ar a b=>a.jC&&b.jC
 | .slice e=>e.jC
 | _=>false
def aa.jv:(t:aa)->t.ak->Prop
 | .int k,x=>gS k x
 | .str,x=>x.length<2 ^ 63
 | .ae t,x=>t.jv x
 | .ar a b,x=>a.jv x.1/\b.jv x.2
 | .slice e,xs=>xs.length<2 ^ 63/\∀ y∈xs,e.jv y
 | .array n e,xs=>xs.length=n/\∀ y∈xs,e.jv y
 | _,_=>True
theorem Ch{P:Program}{w:World}{F:Nat->Prop}:∀ (t:aa) {cs:List Value} {x:t.ak},cr P t F w cs x->t.jv x
 | .bool,_,_,_=>trivial
 | .int _,_,_,h=>h.2
 | .str,_,_,h=>h.2
 | .dp,_,_,_=>trivial
 | .ae t,_,_,h=>by exact Ch t h
 | .ar a b,_,_,h=>by
  obtain⟨c,d,_,E,M⟩:=h;exact⟨Ch a E,Ch b M⟩
 | .slice e,_,xs,h=>by
  obtain⟨a,cap,_,E,M,ai,bf⟩:=h;refine⟨by omega,λy bh=>?_⟩;obtain⟨i,D,rfl⟩:=List.mem_iff_getElem.1 bh;cases a with
  | none=>grind
  | some p=>
   obtain⟨bI,_,k⟩:=(bf p rfl (by omega)).2.2 i D;exact Ch e k
 | .array n e,_,xs,h=>by
  obtain⟨gm,_,E,M,ai⟩:=h;refine⟨M,λy bh=>?_⟩;obtain⟨i,D,rfl⟩:=List.mem_iff_getElem.1 bh;exact Ch e (ai i D (by omega))
 | .bV _,_,_,_=>trivial
 | .map _ _,_,_,_=>trivial
 | .fn _ _,_,_,_=>trivial
 | .cO _,_,_,_=>trivial
 | .e3,_,_,_=>trivial
section
variable {H:Type} {enc:TypeId×Value->H} {P:Program} {w:World}
theorem cx.cells{t:aa}{id:TypeId}(h:cx P t id):P.cellsOf id=t.size:=by
 obtain⟨i,z,E,M,_⟩:=np h.nn;simp[Program.cellsOf,E,M]
theorem YL{a:Addr}{n:Nat}{bI:List Value}(h:w.cells? 0 a n=some bI)(aC:0<n):a.spot=none/\a.block<w.heap.size/\bI.length=n/\∀ j (aI:j<bI.length),w.cell? ⟨a.block,a.off+j,none⟩=some bI[j]:=by
 have V:=World.cells?_block h aC;have oD:a.spot=none:=by
  unfold World.cells? at h;split at h
  ·obtain⟨m,rfl⟩:∃ m,n=m+1:=⟨n - 1,by omega⟩
   rw[List.range_succ_eq_map]at h;simp  [aji]at h;obtain⟨v,ab,_⟩:=h;cases az:a.spot with
   | none=>rfl
   | some x=>simp[World.cell?,Addr.add]at ab;grind
  omega
 unfold World.cells? at h;split at h
 ·have hlen:bI.length=n:=by
   have:∀ (l:List Nat) (r:List Value),l.mapM (λi=>w.cell? (a.add i))=some r->r.length=l.length:=by
    intro l;induction l with
    | nil=>simp
    | cons x l aP=>
     intro r U;simp  [aji,ajk]at U;grind
   grind
  refine⟨oD,V,hlen,λj aI=>?_⟩;have:∀ (l:List Nat) (r:List Value),l.mapM (λi=>w.cell? (a.add i))=some r->∀ j (E:j<l.length) (M:j<r.length),w.cell? (a.add l[j])=some r[j]:=by
   intro l;induction l with
   | nil=>simp
   | cons x l aP=>
    intro r U j E M;simp  [aji,ajk]at U;grind
  have Eg:a.add ((List.range n)[j]'(by grind))=⟨a.block,a.off+j,none⟩:=by
   cases a;subst oD;simp[Addr.add]
  grind
 omega
def r7(w:World):Nat->Prop:=λr=>r<w.heap.size
def aa.qg(n:Nat):(t:aa)->t.ak->Prop
 | .ae t,x=>t.qg n x
 | .ar a b,x=>a.qg n x.1/\b.qg n x.2
 | .slice e,xs=>xs.length<=n/\∀ y∈xs,e.qg n y
 | _,_=>True
structure DX(b:DataW H->Nat):Prop where
 len:∀ e s,e.length<=b (.slice e s)
 HN:∀ e s d,d∈e->b d<=b (.slice e s)
 Vg:∀ l d,d∈l->b d<=b (.agg l)
variable {b:DataW H->Nat} {N:Nat}
theorem apm(V:DX b)(t:aa):(t.jC=true->∀ {id:TypeId} {de:Nat} {cs:List Value} {x:DataW H×List MemPlace},cx P t id->DataW.trod enc P w 0 (λ_=>true) true de id cs=some x->b x.1<=N->∃ y,cr P t (r7 w) w cs y/\t.qg N y)/\
  (t.jC=true->∀ {l:List Field} {off n:Nat} {cs:List Value},cZ P t (.inr (l,off))=true->(∀ f∈l,∃ x,DataW.trod enc P w 0 (λ_=>true) true n f.type ((cs.drop f.offset).take (P.cellsOf f.type))=some x/\b x.1<=N)->∃ y,cr P t (r7 w) w ((cs.drop off).take t.size) y/\t.qg N y):=by
 induction t with
 | bool=>
  refine⟨λ_ {id de cs x} aT h _=>?_,λ_ {l off n cs} h=>by simp[cZ]at h⟩;have hu:P.underlying id=some .bool:=by
   unfold cx at aT;simp  [cZ]at aT;grind
  obtain⟨b,rfl,_⟩:=DataW.trod_bool hu h;exact⟨_,rfl,trivial⟩
 | int k=>
  refine⟨λ_ {id de cs x} aT h _=>?_,λ_ {l off n cs} h=>by simp[cZ]at h⟩;obtain⟨n,rfl,_,hw⟩:=DataW.trod_int aT.int h;simp  [Lit.wf,ajl]at hw;exact⟨n,⟨rfl,hw⟩,trivial⟩
 | str=>
  refine⟨λ_ {id de cs x} aT h _=>?_,λ_ {l off n cs} h=>by simp[cZ]at h⟩;obtain⟨s,rfl,_,hw⟩:=DataW.trod_string aT.str h;refine⟨s.data.toList,⟨by simp,?_⟩,trivial⟩;have:s.data.toList.length=s.size:=by rfl
  have:maxLen<2 ^ 63:=by decide
  omega
 | dp=>exact⟨λ_ {id de cs x} aT h _=>by simp[cx,cZ]at aT,λ_ {l off n cs} h=>by simp[cZ]at h⟩
 | ae t aP=>
  refine⟨λaf {id de cs x} aT h kI=>?_,λ_ {l off n cs} h=>by simp[cZ]at h⟩;have P4:P.cellsOf id=t.size:=aT.cells;obtain⟨fA,hu⟩:=aT.ae;obtain⟨xs,n,_,rfl,hlen,Wu,aw⟩:=DataW.trod_struct hu h;unfold cx at aT;simp  [cZ]at aT;obtain⟨_,aT⟩:=aT;rw[hu]at aT;have kC:∀ f∈fA.toList,∃ x,DataW.trod enc P w 0 (λ_=>true) true n f.type ((cs.drop f.offset).take (P.cellsOf f.type))=some x/\b x.1<=N:=by
   intro f apn;obtain⟨i,D,rfl⟩:=List.mem_iff_getElem.1 apn;have eE:i<fA.size:=by omega
   refine⟨xs[i]'(by omega),?_,aKa (V.Vg _ _ (aLG (ajj _))) kI⟩;rw[aw i _ (by simp)];simp
  simp  at aT;split at aT
  ·have aT:=aKv aT;subst aT;have:=by
    have:=hlen.trans P4;simpa [aa.size]using this
   subst this;exact⟨(),rfl,trivial⟩
  ·rename_i f gH;simp  at aT;obtain⟨⟨⟨aZ,E⟩,_⟩,_⟩:=aT;obtain⟨x,al,apo⟩:=kC f (by grind);have hc:=cx.cells E;rw[aZ,List.drop_zero,List.take_of_length_le (by omega)]at al;exact aP.1 af E al apo
  ·obtain⟨y,bh⟩:=aP.2 af aT kC;rw[List.drop_zero,List.take_of_length_le (by omega)]at bh;exact⟨y,bh⟩
 | ar a b gD fy=>
  refine⟨λ_ {id de cs x} aT h _=>by simp[cx,cZ]at aT,λaf {l off n cs} aT h=>?_⟩;simp  [aa.jC]at af;have join:∀ {y:a.ak} {z:b.ak},cr P a (r7 w) w ((cs.drop off).take a.size) y/\a.qg N y->cr P b (r7 w) w ((cs.drop (off+a.size)).take b.size) z/\b.qg N z->∃ y,cr P (.ar a b) (r7 w) w ((cs.drop off).take (aa.ar a b).size) y/\(aa.ar a b).qg N y:=by
   intro y z bh bD;refine⟨(y,z),⟨_,_,?_,bh.1,bD.1⟩,bh.2,bD.2⟩;simp  [aa.size];rw[List.take_add,List.drop_drop]
  match l,aT with
  | f::g::[],aT=>
   simp  [cZ,bne_iff_ne]at aT;obtain⟨⟨⟨⟨aZ,E⟩,_⟩,_⟩,⟨⟨⟨kG,aY⟩,_⟩,_⟩⟩:=aT;obtain⟨x,al,aC⟩:=h f (by simp);obtain⟨eF,pc,EN⟩:=h g (by simp);rw[cx.cells E]at al;rw[cx.cells aY]at pc;obtain⟨y,bh⟩:=gD.1 af.1 E al aC;obtain⟨z,bD⟩:=fy.1 af.2 aY pc EN;grind
  | f::g::e::fA,aT=>
   simp  [cZ,bne_iff_ne]at aT;obtain⟨⟨⟨⟨aZ,E⟩,_⟩,_⟩,aY⟩:=aT;obtain⟨x,al,aC⟩:=h f (by simp);rw[cx.cells E]at al;obtain⟨y,bh⟩:=gD.1 af.1 E al aC;obtain⟨z,bD⟩:=fy.2 af.2 aY λj1 ur=>h j1 (ajp _ ur);grind
 | slice e aP=>
  refine⟨λaf {id de cs x} aT h kI=>?_,λ_ {l off n cs} h=>by simp[cZ]at h⟩;obtain⟨i,hu,he,cY⟩:=aT.sl;have P4:=he.cells;rcases DataW.trod_slice hu h with⟨rfl,_⟩ | ⟨a,len,cap,elems,cK,n,rfl,rfl,al,_,YM,y4,nu,fT,YN,_⟩
  ·exact⟨[],⟨none,0,rfl,ajn _,by decide,λ_=>rfl,λp aq=>by omega⟩,aKr _,λy bh=>by grind⟩
  ·rw[al]at kI;have mh:0<P.cellsOf i:=by omega
   have key:∀ j,j<len->∃ bI y,w.cells? 0 (a.add (j*P.cellsOf i)) (P.cellsOf i)=some bI/\cr P e (r7 w) w bI y/\e.qg N y:=by
    intro j aI;have:=fT j aI;rw[aKp (by omega)]at this;obtain⟨bI,E,M⟩:=Option.bind_eq_some_iff.1 this;obtain⟨y,bh⟩:=aP.1 af he M (aKa (V.HN _ _ _ (aLG (ajj _))) kI);grind
   have apq:0<cap->a.spot=none/\a.block<w.heap.size:=by
    intro hc;have:∃ bI,w.cells? 0 (a.add (0*P.cellsOf i)) (P.cellsOf i)=some bI:=by
     by_cases NB:0<len
     ·grind
     ·obtain⟨m1,m2⟩:=YN rfl;have:=m2 0 (by omega);rw[aKp (by omega)]at this;obtain⟨bI,E,_⟩:=Option.bind_eq_some_iff.1 this;grind
    obtain⟨bI,E⟩:=this;have ax:a.add (0*P.cellsOf i)=a:=by unfold Addr.add;simp
    obtain⟨aY,a_,_⟩:=YL E mh;grind
   have:∃ bA:List e.ak,bA.length=len/\∀ j (aI:j<bA.length),∃ bI,w.cells? 0 (a.add (j*P.cellsOf i)) (P.cellsOf i)=some bI/\cr P e (r7 w) w bI bA[j]/\e.qg N bA[j]:=by
    clear fT nu h YM YN kI;induction len with
    | zero=>simp
    | succ m apr=>
     obtain⟨bA,mI,dt⟩:=apr λj aI=>key j (by omega);obtain⟨bI,y,E,M⟩:=key m (by omega);refine⟨bA++[y],by grind,λj aI=>?_⟩;grind
   have aps:len<=N:=by have:=V.len (elems.map (·.1)) (cK.map (·.1));grind
   obtain⟨bA,rfl,mI⟩:=this;have BF:maxLen<2 ^ 63:=by decide
   refine⟨bA,⟨some a,cap,rfl,YM,by omega,(by simp),λp aq Bp=>?_⟩,aps,λy bh=>by
    obtain⟨j,aI,rfl⟩:=List.mem_iff_getElem.1 bh;grind⟩
   cases aq;obtain⟨aY,a_⟩:=apq Bp;refine⟨a_,aY,λj aI=>?_⟩;obtain⟨bI,d1,d2,_⟩:=mI j aI;obtain⟨m1,m2,m3,m4⟩:=YL d1 mh;refine⟨bI,⟨a_,rfl,λq bM=>?_⟩,d2⟩;have ax:a.add (j*P.cellsOf i)=⟨a.block,a.off+j*e.size,none⟩:=by
    rw[P4];cases a;subst aY;unfold Addr.add;simp
   grind
 | array n e aP=>exact⟨λh=>by simp[aa.jC]at h,λh=>by simp[aa.jC]at h⟩
 | bV e aP=>exact⟨λh=>by simp[aa.jC]at h,λh=>by simp[aa.jC]at h⟩
 | map k v yK yL=>exact⟨λh=>by simp[aa.jC]at h,λh=>by simp[aa.jC]at h⟩
 | fn a b gD fy=>exact⟨λh=>by simp[aa.jC]at h,λh=>by simp[aa.jC]at h⟩
 | cO a aP=>exact⟨λh=>by simp[aa.jC]at h,λh=>by simp[aa.jC]at h⟩
 | e3=>exact⟨λh=>by simp[aa.jC]at h,λh=>by simp[aa.jC]at h⟩
theorem YO(V:DX b){t:aa}(af:t.jC=true){id:TypeId}(aT:cx P t id){base:Nat}{v:Value}{d:DataW H}{bw:List MemPlace}(cJ:Value.okWide P w .any base id v)
  (h:DataW.Trod enc P w 0 (λ_=>true) true id v d bw) (kI:b d<=N):∃ y,e4 P t (r7 w) w v y/\t.qg N y:=by
 obtain⟨n,aC⟩:=h;obtain⟨y,bh,aw⟩:=(apm V t).1 af aT aC kI;refine⟨y,⟨?_,bh⟩,aw⟩;cases t with
 | bool=>
  have hu:P.underlying id=some .bool:=by
   unfold cx at aT;simp  [cZ]at aT;grind
  simp  [Value.okWide,Cell.okWide,Cell.ok]at cJ;cases v<;>first | rfl | grind
 | int k=>
  simp  [Value.okWide,aT.int,Cell.okWide,Cell.ok]at cJ;cases v<;>first | rfl | grind
 | str=>
  simp  [Value.okWide,aT.str,Cell.okWide,Cell.ok]at cJ;cases v<;>first | rfl | grind
 | dp=>simp[cx,cZ]at aT
 | ae t=>
  obtain⟨fA,hu⟩:=aT.ae;simp  [Value.okWide,hu]at cJ;obtain⟨cs,rfl,hc,_⟩:=cJ;exact⟨cs,rfl,hc.trans aT.cells⟩
 | ar a b=>simp[cx,cZ]at aT
 | slice e=>
  obtain⟨i,hu,_⟩:=aT.sl;simp  [Value.okWide,Cell.okWide,Cell.ok]at cJ;cases v<;>first | rfl | grind
 | array n e=>simp[aa.jC]at af
 | bV e=>simp[aa.jC]at af
 | map k v=>simp[aa.jC]at af
 | fn a b=>simp[aa.jC]at af
 | cO a=>simp[aa.jC]at af
 | e3=>simp[aa.jC]at af
def zL(P:Program):List TypeId->aa->Bool
 | [id],t=>cZ P t (.inl id)&&t.jC
 | id::ids,.ar a b=>cZ P a (.inl id)&&a.jC&&zL P ids b
 | _,_=>false
theorem YP(V:DX b):∀ (ids:List TypeId) (ts:aa) {base:Nat} {aJ:List Value} {bI:List (DataW H)} {bw:List MemPlace},zL P ids ts=true->DataW.TrodAll enc P w 0 (λ_=>true) true ids aJ bI bw->
  (∀ (j:Nat) t v,ids[j]?=some t->aJ[j]?=some v->Value.okWide P w .any base t v)->(∀ d∈bI,b d<=N)->∃ x,gn P ts (r7 w) w aJ x/\ts.qg N x
 | [],ts,_,aJ,bI,bw,h,_,_,_=>by simp[zL]at h
 | [id],t,_,aJ,bI,bw,h,iz,cJ,kI=>by
  simp  [zL]at h;obtain⟨v0,P5,d0,P6,Iq,Eo,rfl,rfl,rfl,aZ,xz⟩:=trodAll_cons iz;obtain⟨rfl,rfl,rfl⟩:=trodAll_nil xz;obtain⟨y,⟨r0,q2⟩,aw⟩:=YO V h.2 h.1 (cJ 0 id v0 rfl rfl) aZ (kI _ (aK5 ..));refine⟨y,⟨?_,by simp_all⟩,aw⟩;cases t<;>first | exact⟨v0,rfl,r0⟩ | (simp[cZ]at h;done)
 | id::apt::ids,ts,base,aJ,bI,bw,h,iz,cJ,kI=>by
  cases ts with
  | ar a b=>
   simp  [zL]at h;obtain⟨v0,P5,d0,P6,Iq,Eo,rfl,rfl,rfl,aZ,xz⟩:=trodAll_cons iz;obtain⟨y,⟨r0,q2⟩,aw⟩:=YO V h.1.2 h.1.1 (cJ 0 id v0 rfl rfl) aZ (kI _ (aK5 ..));obtain⟨z,⟨apu,apv⟩,aA⟩:=YP V (apt::ids) b h.2 xz (λj t v E M=>cJ (j+1) t v (by grind) (by grind)) λd an=>kI d (ajp _ an);exact⟨(y,z),⟨⟨r0,apu⟩,_,_,ajA _ _,q2,apv⟩,aw,aA⟩
  | _=>simp[zL]at h
theorem YQ(af:laidOutB P=true){w':World}{YR:Nat->Bool}:∀ (ids:List TypeId) {aJ:List Value} {bI:List (DataW H)} {bw:List MemPlace},(ids.all λt=>P.readableRec t&&decide (t<P.types.size))=true->
  DataW.TrodAll enc P w 0 (λ_=>true) true ids aJ bI bw->(∀ p∈bw,w.sameAt w' p)->(∀ p∈bw,YR p.block=true)->DataW.TrodAll enc P w' 0 YR true ids aJ bI bw
 | [],_,_,_,_,h,_,_=>by
  obtain⟨rfl,rfl,rfl⟩:=trodAll_nil h;rfl
 | id::ids,aJ,bI,bw,U,h,E,M=>by
  simp only[aLK,ajm,ajl]at U;obtain⟨v0,P5,d0,P6,Iq,Eo,rfl,rfl,rfl,aZ,xz⟩:=trodAll_cons h;exact trodAll_cons_mk (Go.WideElems.Trod_stays af U.1.1 U.1.2 aZ (λp aq=>E p (List.mem_append_left _ aq)) (λp aq=>M p (List.mem_append_left _ aq)))
   (YQ af ids U.2 xz (λp aq=>E p (aKy _ aq)) (λp aq=>M p (aKy _ aq)))
theorem ajv(V:DX b){k:FuncId}{fn:Func}{ts:aa}{sh:ts.ak->G (aa.bool).ak}{spec:ChangeSpec}{rt:TypeId}(apw:laidOutB P=true)(y6:je P k ts .bool sh)(apx:∀ x,ts.jv x->ts.qg N x->dj (sh x) λy=>y=true)
  (fV:zL P fn.params.toList ts=true) (apy:(fn.params.toList.all λt=>P.readableRec t&&decide (t<P.types.size))=true) (ih:fn.resultTypes=#[rt]) (apz:P.underlying rt=some .bool)
  (ab:spec.vars=[]) (gC:∀ (H:Type) (bI:List (DataW H)),bI.length=fn.params.size->spec.fn H bI={ results:=[.lit (.bool true)],args:=bI })
  {base:Nat} {args:Array Value} {bI gs:List (DataW H)} {before:List MemPlace} (zM:∀ (j:Nat) t v,fn.params[j]?=some t->args[j]?=some v->Value.okWide P w .any base t v)
  (yH:DataW.Whole enc P fn.params.toList spec.vars false w args.toList bI gs before) (kI:∀ d∈bI,b d<=N) (hs:o7 P (r7 w) w:=by exact λb V=>absurd (show b<0 from V) (Nat.not_lt_zero b)) :
  Calls P k args w λe r3=>∃ v,e=.returned v/\spec.post enc P fn false true false false w args v r3:=by
 have cF:=yH.lt;have YS:=yH;obtain⟨p,q,iz,P7,rfl,vx,_⟩:=yH;have bM:gs=[]/\q=[]:=by
  rw[ab]at P7;cases gs with
  | nil=>exact⟨rfl,P7⟩
  | cons _ _=>exact P7.elim
 obtain⟨rfl,rfl⟩:=bM;simp  at YS cF vx;obtain⟨x,al,aw⟩:=YP V fn.params.toList ts fV iz (λj t v E M=>zM j t v (by grind) (by grind)) kI;obtain⟨az,au⟩:=apx x (Ch ts al.2) aw;have cR:bI.length=fn.params.size:=by
  have:∀ (ids:List TypeId) {aJ:List Value} {bI:List (DataW H)} {bw:List MemPlace},DataW.TrodAll enc P w 0 (λ_=>true) true ids aJ bI bw->bI.length=ids.length:=by
   intro ids;induction ids with
   | nil=>intro aJ bI bw h;obtain⟨rfl,rfl,rfl⟩:=trodAll_nil h;rfl
   | cons id ids aP=>intro aJ bI bw h;obtain⟨v0,P5,d0,P6,Iq,Eo,rfl,rfl,rfl,aZ,xz⟩:=trodAll_cons h;grind
  grind
 have hc:=y6.ki (r7 w) w args.toList x (λ_ h=>h) hs al az;refine hc.mono λe r3 ⟨v,y,he,bh,U,V⟩=>?_;obtain⟨aJ,b4,cL⟩:=U;have apA:v=.bool true:=by
  subst b4;obtain⟨⟨u,hu,pU⟩,p3⟩:=cL;simp  [l']at pU;simp  [cr]at p3;grind
 subst apA;have vQ:∀ p'∈p,w.sameAt r3 p':=by
  intro p' aq;have E:=V.block _ (cF p' aq);cases p' with
  | cell b off=>simp  [World.sameAt,World.cell?];simp  [MemPlace.block]at E;grind
  | map b=>exact E
 refine⟨_,he,bI,[],p,[],p,[],YS,?_,?_,?_,?_,λh=>by grind⟩
 ·rw[aKg,gC H bI cR,ih];exact trodAll_cons_mk (shut_bool apz true) trodAll_mk0
 ·rw[aKg,gC H bI cR];exact YQ apw _ apy iz vQ λp' aq=>by grind
 ·rw[ab,aKg,gC H bI cR];rfl
 ·refine⟨V.os,V.output,λi D=>?_⟩;have E:=V.block i D;grind
end
section
variable {ag bet eK A rho:Type}
abbrev ay(x:A):G (bq A bet):=mpure (.next x)
abbrev a7(x:rho):G (bq A (bq rho bet)):=ao (mpure (.next x)) λr=>mpure (.done r)
abbrev hU(x:bet):G (bq A bet):=ao (mpure x) λr=>mpure (.done r)
abbrev e9(m:G bet):G (bq A bet):=ao m λr=>mpure (.done r)
abbrev cM(l:List ag)(m:G bet):G bet:=ad (bW (Add.add l.length (Add.add 0 1))) m
abbrev dJ(l:List ag)(m:G bet):G bet:=ad ((0:Int)<=0/\0<Int.ofNat l.length) m
abbrev a6(i:Int)(l:List ag)(m:G bet):G bet:=ad (0<=i/\i<Int.ofNat l.length) m
abbrev dn(i:Int)(l:List ag)(m n:G bet):G bet:=if decide (i<Int.ofNat l.length) then ad (0<=i/\i<Int.ofNat l.length) m else n
abbrev cR(i:Int)(l:List ag)(m n:bet):bet:=if decide (i<Int.ofNat l.length) then m else n
abbrev aG(p:Prop)[Decidable p](m n:bet):bet:=if decide p then m else n
abbrev bN(b:Bool)(m n:bet):bet:=if b then m else n
abbrev bj(f:A->G (bq A (bq rho bet)))(x:A)(g:rho->G bet):G bet:=ao (dG f x) (bq.hx g)
abbrev b1(m:G (bq rho bet))(g:rho->G bet):G bet:=ao m (bq.hx g)
abbrev aQ(x:Int):Int:=IntKind.wrap .i64 (Add.add x 1)
abbrev e_(x y:Int):Int:=IntKind.wrap .i64 (Add.add x y)
abbrev cu(x y:Int):Int:=IntKind.wrap .i64 (x-y)
abbrev eC(l:List ag)(d:ag):ag:=l.getD (Int.toNat 0) d
abbrev aL(l:List ag)(i:Int)(d:ag):ag:=l.getD i.toNat d
abbrev aB(l:List ag):Int:=Int.ofNat l.length
abbrev b_(x:bet):G (bq A (bq rho bet)):=ao (ao (mpure x) λr=>mpure (.done r)) λr=>mpure (.done r)
abbrev dN(l:List ag)(m:G bet):G bet:=ad (bW (Add.add 0 l.length)) m
abbrev b3(b:Bool)(m:G ag)(d:ag)(f:ag->G bet):G bet:=ao (BT b m d) f
abbrev kJ(m:G Bool):Bool:=!(G.val m false)
abbrev eS(m:G Bool):Bool:=G.val m false
abbrev fY(m:G Int):Int:=G.val m 0
abbrev bU(x y:ag)[Decidable (x=y)]:Bool:=decide (x=y)
abbrev eM(x y:ag)[Decidable (x≠y)]:Bool:=decide (x≠y)
abbrev py(x y:Int):Bool:=decide (x<y)
abbrev cN(x y:Int):Bool:=decide (x>y)
abbrev hN(x y:Int):Bool:=decide (x<=y)
abbrev hy:G Bool:=mpure false
abbrev hO:G Bool:=mpure true
abbrev bT(c:G ag)(m:G bet):G bet:=ad c.et m
abbrev gC(f:ag×bet->Bool)(l:List (ag×bet)):Option bet:=Option.map (λx=>x.2) (List.find? f l)
abbrev ou(x y:Int):Int:=if x>y then x else y
end
end Go.Fer
namespace Go.Fer.pT
open Go.Proofs
abbrev t2:aa:=.int .i64
abbrev t3:aa:=.int .i64
abbrev t4:aa:=.bool
abbrev t5:aa:=.int .u8
abbrev apB:aa:=.int .u8
abbrev apC:aa:=.ae (.ar t2 (.ar t3 (.ar t4 apB)))
abbrev t9:aa:=.str
abbrev apD:aa:=.str
abbrev apE:aa:=.str
abbrev t21:aa:=.int .i32
abbrev zN:aa:=.ae (.ar t3 t3)
abbrev Ci:aa:=.ae (.ar t3 (.ar t3 zN))
abbrev t22:aa:=.slice Ci
abbrev fl:aa:=.slice t3
abbrev Cj:aa:=.ae (.ar t3 (.ar fl zN))
abbrev JY:aa:=.slice Cj
abbrev xA:aa:=.ae JY
abbrev xB:aa:=.slice xA
abbrev xC:aa:=.ae (.ar t3 (.ar t3 (.ar t3 t3)))
abbrev FX:aa:=.slice xC
abbrev oE:aa:=.ae (.ar t22 (.ar xB (.ar t3 FX)))
abbrev wj:aa:=.ae (.ar t3 (.ar t3 (.ar t3 (.ar t3 fl))))
abbrev t28:aa:=.slice wj
abbrev ti:aa:=.ae (.ar fl (.ar zN (.ar t3 (.ar t3 t3))))
abbrev JZ:aa:=.slice ti
abbrev q6:aa:=.ae (.ar t3 (.ar t3 t3))
abbrev wk:aa:=.slice q6
abbrev t32:aa:=.ae (.ar oE (.ar fl (.ar t28 (.ar JZ (.ar wk t3)))))
abbrev r8:aa:=.slice zN
abbrev kq:aa:=.ae (.ar t3 (.ar t3 (.ar t3 (.ar t3 (.ar t3 t3)))))
abbrev pz:aa:=.slice kq
abbrev P8:aa:=.ae (.ar t3 (.ar t3 (.ar t3 (.ar t3 (.ar t3 (.ar t3 t3))))))
abbrev o6:aa:=.ae (.ar r8 (.ar pz (.ar fl (.ar r8 P8))))
abbrev tQ:aa:=.ae (.ar t32 o6)
abbrev apF:aa:=.int .i64
abbrev HO:aa:=.slice t9
abbrev apG:aa:=.ae (.ar t3 (.ar t3 (.ar t3 t3)))
abbrev apH:aa:=.ae (.ar t3 (.ar t3 (.ar t3 (.ar t3 (.ar t3 (.ar t3 (.ar t3 t3)))))))
abbrev r9:aa:=.ae tQ
abbrev t105:aa:=.bV r9
abbrev YT:aa:=.e3
abbrev P9:aa:=.ae (.ar t3 (.ar t4 YT))
abbrev P_:aa:=.map t9 P9
abbrev xD:aa:=.slice fl
abbrev zO:aa:=.ae (.ar oE xD)
abbrev YU:aa:=.bV zO
abbrev P':aa:=.fn t3 t3
abbrev r_:aa:=.ae (.ar kq t3)
abbrev Qa:aa:=.slice r_
abbrev Qb:aa:=.array 10 Qa
abbrev FY:aa:=.ae (.ar fl Qb)
abbrev q7:aa:=.bV FY
abbrev Qc:aa:=.slice q7
abbrev tj:aa:=.ae (.ar o6 (.ar pz Qc))
abbrev xE:aa:=.bV tj
abbrev YV:aa:=.fn t3 t4
abbrev apI:aa:=.fn xE t4
abbrev apJ:aa:=.fn (.ar kq t3) t4
abbrev t138:aa:=.cO (.ar kq t3)
abbrev YW:aa:=.fn q7 (.ar t3 t4)
abbrev J0:aa:=.map t3 t3
abbrev Qd:aa:=.cO t3
abbrev apK:aa:=.cO t3
abbrev YX:aa:=.ae (.ar t3 t3)
abbrev YY:aa:=.slice YX
abbrev YZ:aa:=.ae (.ar t3 (.ar t3 t3))
abbrev Y0:aa:=.map YZ t3
abbrev t222:aa:=.ae (.ar t32 (.ar YY Y0))
abbrev qh:aa:=.bV t222
abbrev apL:aa:=.fn fl t4
abbrev t164:aa:=.cO fl
abbrev Y1:aa:=.ae (.ar t3 (.ar t3 t3))
abbrev apM:aa:=.slice Y1
abbrev t171:aa:=.slice t5
abbrev Y2:aa:=.fn ti t4
abbrev Y3:aa:=.fn xC t4
abbrev Qe:aa:=.fn kq t4
abbrev t228:aa:=.int .u64
abbrev apN:aa:=.slice t3
abbrev apO:aa:=.bV oE
abbrev apP:aa:=.bV xA
abbrev apQ:aa:=.array 4 t9
abbrev Y4:aa:=.ae (.ar t3 (.ar t3 t3))
abbrev apR:aa:=.map Y4 t3
abbrev J1:aa:=.map t3 kq
abbrev apS:aa:=.int .u32
abbrev Y5:aa:=.int .u64
abbrev Y6:aa:=.fn wj t4
abbrev Y7:aa:=.fn q6 t4
abbrev Y8:aa:=.fn Cj t4
abbrev Y9:aa:=.slice pz
abbrev Y_:aa:=.fn Ci t4
abbrev Y':aa:=.fn xA t4
abbrev FZ:aa:=.fn (.ar r_ r_) t3
abbrev apT:aa:=.int .i64
abbrev Za:aa:=.slice xD
abbrev apU:aa:=.int .i64
abbrev Zb:aa:=.int .u64
abbrev apV:aa:=.bV t3
abbrev Zc:aa:=.ae (.ar kq t3)
abbrev apW:aa:=.slice Zc
abbrev J2:aa:=.ae (.ar t3 fl)
abbrev J3:aa:=.slice J2
abbrev apX:aa:=.bV t5
abbrev apY:aa:=.array 24 t5
abbrev apZ:aa:=.bV Zb
abbrev Zd:aa:=.slice wk
abbrev ap0:aa:=.array 256 t5
abbrev Ze:aa:=.ae (.ar t5 t5)
abbrev ap1:aa:=.array 16 Ze
abbrev Zf:aa:=.ae t9
abbrev ap2:aa:=.bV Zf
abbrev ap3:aa:=.array 20 Y5
abbrev ap4:aa:=.array 65 t5
abbrev ap5:aa:=.array 32 t5
abbrev ap6:aa:=.array 64 t5
abbrev ap7:aa:=.int .u8
def uy:List (Nat×aa):=[(2,t2),(3,t3),(4,t4),(5,t5),(8,apC),(9,t9),(10,apD),(11,apE),(21,t21),(22,t22),(23,xB),(24,FX),(26,oE),(27,fl),(28,t28),(29,JZ),(30,wk),(32,t32),(33,r8),(34,pz),(36,P8),(38,o6),(40,tQ),(42,xC),(44,apF),(48,HO),(58,zN),(63,apG),(74,apH),(87,ti),(91,q6),(93,wj),(105,t105),(107,P_),(111,r9),(115,YU),(121,xD),(123,zO),(125,kq),(128,P'),(130,xE),(133,YV),(134,apI),(137,q7),(138,t138),(140,YW),(141,Qa),(142,Qb),(144,r_),(148,J0),(149,Qc),(151,tj),(153,Qd),(154,apK),(157,qh),(162,apL),(164,t164),(165,apM),(171,t171),(177,Y2),(188,YT),(190,P9),(196,Ci),(197,JY),(199,xA),(201,Cj),(203,Y3),(209,Qe),(215,apJ),(217,FY),(219,Y0),(220,YY),(222,t222),(224,YZ),(227,YX),(228,t228),(235,Y1),(237,apN),(249,apO),(253,apP),(261,apQ),(269,apR),(271,Y4),(273,J1),(282,apS),(285,Y5),(289,Y6),(290,Y7),(297,Y8),(298,Y9),(304,Y_),(306,Y'),(311,FZ),(313,apT),(336,Za),(351,apU),(359,Zb),(363,apV),(368,apW),(372,Zc),(374,J3),(380,apX),(386,apY),(398,apZ),(402,J2),(403,Zd),(408,ap0),(410,Ze),(411,ap1),(414,ap2),(416,Zf),(418,ap3),(419,ap4),(423,ap5),(424,ap6),(432,ap7)]
theorem pA:eO Tryz.prog (q5 uy):=aph (by kernel_rfl)
theorem J4:Tryz.prog.follows .mixedOrders=true:=by kernel_rfl
def wm(_:Nat):Option aF:=none
theorem J5:lM Tryz.prog wm:=λk c h=>by cases h
def dY:ew:={ vn:=λ_=>none,vo:=λ_=>none }
theorem lX:sL Tryz.prog dY where
 vn:=λk v h=>by cases h
 vo:=λk v h=>by cases h
end Go.Fer.pT
namespace Go.Fer
open Go.RowKit
def iU.lU(c:iU):aF:=⟨c.ts,.ar c.tr .dp,λx=>(c.sh x).et,λx=>((c.sh x).val c.tr.dK,())⟩
end Go.Fer
namespace Go.Fer
theorem ap8{ag:Type}{p:Prop}{m n:G ag}(h:n.et->p)(k:aR m n):aR (ad p m) n:=λaz=>⟨⟨h az,(k az).1⟩,(k az).2⟩
theorem tk{ag:Type}{o:Option ag}{x:ag}(h:o=some x):o.isSome=true:=by rw[h];rfl
def Qf(ts:aa)(x:ts.ak)(n:Nat):Nat->Prop
 | 0=>True
 | k+1=>Qf ts x n k/\FR (lH ts x (n+k))
theorem Zg{ts:aa}{x:ts.ak}{n:Nat}:∀ {k:Nat},Qf ts x n k->∀ i,i<k->FR (lH ts x (n+i))
 | 0,_,i,h=>by omega
 | k+1,hc,i,h=>by
  by_cases e:i=k
  ·rw[e];exact hc.2
  ·exact Zg hc.1 i (by omega)
theorem Zh(ts:aa)(x:ts.ak):∀ (l:List Nat) (i:Nat),gh (l.map λi=>(i,lH ts x i)) i=if i∈l then lH ts x i else .undef
 | [],i=>by simp[gh]
 | j::l,i=>by
  simp only[aKq,gh];by_cases e:i=j
  ·subst e;simp
  ·rw[if_neg e,Zh ts x l i];simp[e]
theorem uz{ts:aa}{x:ts.ak}{n:Nat}(h:Qf ts x n (wg ts - n)):FT n (q4 ts x):=λi D=>by
 show FR (gh (FQ ts x (wg ts)) i);unfold FQ;rw[Zh];split
 ·rename_i hm;rw[aKR]at hm;have aC:¬i<n:=λh=>D (.inl h);have:=Zg h (i - n) (by omega);rwa [show n+(i - n)=i by omega]at this
 ·trivial
theorem bc{n:Int}(E:-9223372036854775808<=n)(M:n<9223372036854775808):IntKind.i64.wrap n=n:=by
 show (if (true&&decide (n % 2 ^ 64>=(2 ^ (64 - 1):Int)))=true then n % 2 ^ 64 - 2 ^ 64 else n % 2 ^ 64)=n;grind
theorem cy(a b:Int):Add.add a b=a+b:=rfl
theorem mY(a b:Nat):Add.add a b=a+b:=rfl
theorem Zi{ag:Type}(a b:List ag):Append.append a b=a++b:=rfl
theorem ch(n:Nat):Int.ofNat n=(n:Int):=rfl
theorem uA{x c d:Bool}:(x||!(if (!x)=true then c else d))=(x||!c):=by grind
theorem Zj{x c d:Bool}:(x||(if (!x)=true then c else d))=(x||c):=by grind
theorem xF{x c d:Bool}:(x&&(if x=true then c else d))=(x&&c):=by grind
section
variable {ag bet eK A rho:Type}
theorem bg{m:G ag}{p:Prop}{v:ag}(h:p->m=mpure v):aR m (eL p v):=λaq=>by
 rw[h aq];exact⟨trivial,λ_ bh=>bh⟩
theorem uB{m:G ag}{p:Prop}{v:ag}(h:p->dj m λy=>y=v):aR m (eL p v):=λaq=>h aq
theorem fZ{p:Prop}{v d:ag}:(eL p v).val d=v:=by
 unfold G.val;have h:∃ x,(eL p v).bo x:=⟨v,rfl⟩
 rw[dif_pos h];exact h.choose_spec
theorem eV{v d:ag}:(mpure v).val d=v:=fZ (p:=True)
theorem lY{p:Prop}{v:ag}:(eL p v).et=p:=rfl
theorem uC{p:Prop}{v:ag}:(eL p v).E1:=λ_ _ h k=>h.trans k.symm
theorem lr{g:Bool}{p:Prop}{v d:ag}:BT g (eL p v) d=eL (g=true->p) (if g=true then v else d):=by
 cases g
 ·exact (bJ (by simp) _).symm
 ·simp[BT]
theorem oF{g:Bool}{v d:ag}:BT g (mpure v) d=mpure (if g=true then v else d):=by cases g<;>rfl
theorem cp{f:A->G bet}{x:A}:bq.hx f (.next x:bq A bet)=f x:=rfl
theorem tl{f:A->G bet}{r:bet}:bq.hx f (.done r:bq A bet)=mpure r:=rfl
end
def e'{ag bet rho:Type}(f:ag->bet->bq bet rho)(fin:bet->rho):List ag->bet->rho
 | [],b=>fin b
 | x::l,b=>match f x b with
  | .next bl=>e' f fin l bl
  | .done r=>r
def bq.ls{A bet rho:Type}(g:bet->A):bq bet rho->bq A rho
 | .next b=>.next (g b)
 | .done r=>.done r
theorem d'{ag bet A rho:Type}{body:A->G (bq A rho)}{s0:A}(l:List ag)(mk:Nat->bet->A)(f:ag->bet->bq bet rho)(fin:bet->rho)(I:Nat->bet->Prop)(b:bet)(mW:s0=mk 0 b)(aZ:I 0 b)
  (az:∀ i (h:i<l.length) b,I i b->body (mk i b)=mpure (bq.ls (mk (i+1)) (f l[i] b))/\∀ bl,f l[i] b=.next bl->I (i+1) bl)
  (aw:∀ b,I l.length b->body (mk l.length b)=mpure (.done (fin b))):dG body s0=mpure (e' f fin l b):=by
 subst mW;have key:∀ (k:Nat) (r:List ag) (b:bet),k<=l.length->r=l.drop k->I k b->dG body (mk k b)=mpure (e' f fin r b):=by
  intro k r;induction r generalizing k with
  | nil=>
   intro b ah U fa;have:k=l.length:=by have:=congrArg List.length U;grind
   subst this;exact tR (aw b fa)
  | cons x r aP=>
   intro b ah U fa;have cF:k<l.length:=by
    grind
   rw[aJ9 cF]at U;injection U with al U
   obtain⟨E,M⟩:=az k cF b fa;rw[<-al]at E M;simp only[e'];cases ur:f x b with
   | next bl=>
    rw[ur]at E;rw[Bg E];grind
   | done wZ=>
    rw[ur]at E;exact tR E
 grind
theorem db{ag bet A rho:Type}{body:A->G (bq A rho)}{s0:A}(l:List ag)(mk:Nat->bet->A)(f:ag->bet->bq bet rho)(fin:bet->rho)(b:bet)(mW:s0=mk 0 b)
  (az:∀ i (h:i<l.length) b,body (mk i b)=mpure (bq.ls (mk (i+1)) (f l[i] b)))
  (aw:∀ b,body (mk l.length b)=mpure (.done (fin b))):dG body s0=mpure (e' f fin l b):=
 d' l mk f fin (λ_ _=>True) b mW trivial (λi h b _=>⟨az i h b,λ_ _=>trivial⟩) λb _=>aw b
section
variable {ag bet rho:Type}
theorem n2{p:ag->Bool}{r:rho}{fin:bet->rho}:∀ (l:List ag) (b:bet),e' (λx b=>if p x=true then .done r else .next b) fin l b=if l.any p=true then r else fin b
 | [],b=>by rfl
 | x::l,b=>by
  simp only[e',aK6,aKm];by_cases h:p x=true
  ·simp[h]
  ·have h:p x=false:=by grind
   simp only[h,ajh,ajq,false_or];exact n2 l b
theorem J6{p:ag->Bool}{r:rho}{fin:bet->rho}:∀ (l:List ag) (b:bet),e' (λx b=>if p x=true then .next b else .done r) fin l b=if l.all p=true then fin b else r
 | [],b=>by rfl
 | x::l,b=>by
  simp only[e',aLK,ajm];by_cases h:p x=true
  ·simp only[h,if_true,aK0];exact J6 l b
  grind
theorem cU{h:bet->ag->bet}{fin:bet->rho}:∀ (l:List ag) (b:bet),e' (λx b=>.next (h b x)) fin l b=fin (l.foldl h b)
 | [],b=>rfl
 | x::l,b=>by simp only[e',aKd];exact cU l (h b x)
theorem Ck{p:ag->Bool}:∀ (l:List ag) (b:List ag),l.foldl (λb x=>if p x=true then b++[x] else b) b=b++l.filter p
 | [],b=>by simp
 | x::l,b=>by
  simp only[aKd,List.filter_cons];rw[Ck l];grind
theorem oG{eK:Type}{g:ag->eK}:∀ (l:List ag) (b:List eK),l.foldl (λb x=>b++[g x]) b=b++l.map g
 | [],b=>by simp
 | x::l,b=>by simp only[aKd,aKq];rw[oG l];simp
end
theorem Zk{ag:Type}{p q:ag->Bool}(h:∀ x,p x=!q x)(l:List ag):l.any p=!l.all q:=by
 grind
theorem j9{ag bet rho:Type}{p q:ag->Bool}{r:rho}{fin:bet->rho}(l:List ag)(b:bet)(h:∀ x,p x=!q x):e' (λx b=>if p x=true then .done r else .next b) fin l b=if l.all q=true then fin b else r:=by
 rw[n2,Zk h];grind
theorem lu{A bet rho:Type}{c:Bool}{mk:bet->A}{b:bet}{r:rho}:(if c=true then mpure (bq.done r) else mpure (bq.next (mk b)))=mpure (bq.ls mk (if c=true then .done r else .next b)):=by cases c<;>rfl
theorem Zl{A bet rho:Type}{c:Bool}{mk:bet->A}{b:bet}{r:rho}:(if c=true then mpure (bq.done r) else mpure (bq.next (mk b)))=mpure (bq.ls mk (if c=true then .done r else .next b)):=by cases c<;>rfl
theorem cT{l:Nat}{i:Nat}(h:i<l):decide ((i:Int)<(l:Int))=true:=by grind
theorem cE{l:Nat}{i:Nat}(h:i<l):((0:Int)<=(i:Int)/\(i:Int)<(l:Int))=True:=by grind
theorem c_{ag:Type}{l:List ag}{i:Nat}{d:ag}(h:i<l.length):l.getD (Int.toNat (i:Int)) d=l[i]:=by
 grind
theorem zP{ag:Type}{l:List ag}{i:Int}{d:ag}(aZ:0<=i)(h:i<(l.length:Int)):l.getD i.toNat d∈l:=by
 grind
def dA(a b:Int):z1':=(List.range (b - a+1).toNat).map λ(i:Nat)=>a+(i:Int)
theorem uD(a b:Int):(dA a b).length=(b - a+1).toNat:=by simp[dA]
theorem pB{a b:Int}{i:Nat}(h:i<(dA a b).length):(dA a b)[i]=a+i:=by simp[dA]
theorem r'{a b n:Int}:n∈dA a b<->a<=n/\n<=b:=by
 simp only[dA,aLt,aKR];constructor
 ·omega
 ·rintro⟨E,M⟩;exact⟨(n - a).toNat,by omega,by omega⟩
end Go.Fer
namespace Go.Fer.pT
open Go.Proofs
abbrev oH:Type:=List (Nat×iU)
def qi{ag:Type}:List (Nat×ag)->Nat->Option ag
 | [],_=>none
 | p::l,k=>if k=p.1 then some p.2 else qi l k
theorem F0{ag:Type}{k:Nat}{c:ag}:∀ {l:List (Nat×ag)},qi l k=some c->(k,c)∈l
 | [],h=>by cases h
 | p::l,h=>by
  unfold qi at h;split at h
  ·rename_i e;cases h;subst e;simp
  ·exact ajp _ (F0 h)
def sa(T:oH):List (Nat×gJ)->Nat->Option gJ
 | [],k=>match qi T k with
  | some c=>some (.dU c)
  | none=>none
 | p::l,k=>if k=p.1 then some p.2 else sa T l k
def Zm(k:Nat)(c:iU):Prop:=je Tryz.prog k c.ts c.tr c.sh/\(c.IQ=true->∀ x,(c.sh x).E1)
structure k0(T:oH):Type where
 ok:∀ p∈T,Zm p.1 p.2
abbrev ap9{T:oH}(_:k0 T):oH:=T
def ap_:k0 []:=⟨λp h=>by cases h⟩
def k0.cons{T:oH}(h:k0 T){n:Nat}{c:iU}(k:Zm n c):k0 ((n,c)::T):=⟨λp aq=>by
 rcases List.mem_cons.1 aq with rfl | aq
 ·exact k
 ·exact h.ok p aq⟩
def F3(ba:ew):List (Nat×gJ)->Prop
 | []=>True
 | p::l=>p.2.jv Tryz.prog ba p.1/\F3 ba l
theorem k0.J7{ba:ew}{T:oH}(h:k0 T):∀ {sp:List (Nat×gJ)},F3 ba sp->oA Tryz.prog ba (sa T sp)
 | [],_,k,c,e=>by
  unfold sa at e;split at e
  ·rename_i me hc;cases e;exact h.ok (k,me) (F0 hc)
  ·cases e
 | p::l,az,k,c,e=>by
  unfold sa at e;split at e
  ·rename_i ah;cases e;subst ah;exact az.1
  ·exact k0.J7 h (sp:=l) az.2 k c e
def Cl:aa->List aa
 | .dp=>[]
 | .ar a b=>a::Cl b
 | t=>[t]
def Zn:aa->aa
 | .bV t=>t
 | t=>t
def Zo{ts Zp:aa}(e:Zp=ts){tr:aa}(sh:ts.ak->G tr.ak):Zp.ak->G tr.ak:=e ▸ sh
def Qg(q8:Nat)(c:iU):Option HW:=
 if h:((Cl c.ts).take q8).all aa.hH=true/\hI ((Cl c.ts).take q8++(((Cl c.ts).drop q8).map Zn).map .bV)=c.ts then some ⟨(Cl c.ts).take q8,((Cl c.ts).drop q8).map Zn,c.tr,Zo h.2 c.sh⟩ else none
def Zq:z8'->Nat->Option Nat
 | [],_=>none
 | p::l,k=>if k=p.1 then some p.2 else Zq l k
def Cm(T:oH)(cl:z8')(J8:List (Nat×yM)):ew where
 vn:=λk=>match qi T k with
  | some c=>some ⟨c.ts,c.tr,c.sh⟩
  | none=>none
 vo:=λk=>match Zq cl k with
  | some q8=>match qi T k with
   | some c=>Qg q8 c
   | none=>none
  | none=>none
 yO:=qi J8
def F4:List (Nat×yM)->Prop
 | []=>True
 | p::l=>yN Tryz.prog p.1 p.2/\F4 l
theorem F4.mem:∀ {l:List (Nat×yM)},F4 l->∀ p∈l,yN Tryz.prog p.1 p.2
 | [],_,p,h=>by cases h
 | q::l,h,p,aq=>by
  rcases List.mem_cons.1 aq with rfl | aq
  ·exact h.1
  ·exact F4.mem h.2 p aq
theorem ap'{k q8:Nat}{c:iU}{v:HW}(h:je Tryz.prog k c.ts c.tr c.sh)(e:Qg q8 c=some v):v.as.all aa.hH=true/\je Tryz.prog k (hI (v.as++v.cs.map .bV)) v.tr v.sh:=by
 unfold Qg at e;split at e
 ·rename_i dt;cases e;refine⟨dt.1,?_⟩;have key:∀ (ts:aa) (e:ts=c.ts),je Tryz.prog k ts c.tr (Zo e c.sh):=by rintro _ rfl;exact h
  exact key _ dt.2
 ·cases e
theorem k0.u{T:oH}(h:k0 T)(cl:z8')(J8:List (Nat×yM))(D:F4 J8):sL Tryz.prog (Cm T cl J8) where
 vn:=λk v e=>by
  simp only[Cm]at e;split at e
  ·rename_i c hc;cases e;exact (h.ok (k,c) (F0 hc)).1
  ·cases e
 vo:=λk v e=>by
  simp only[Cm]at e;split at e
  ·split at e
   ·rename_i c hc;exact ap' (h.ok (k,c) (F0 hc)).1 e
   ·cases e
  ·cases e
 yO:=λk v e=>D.mem (k,v) (F0 e)
abbrev q9(fn:Func):Code:=fn.body.getD .skip
theorem J9{fn:Func}(h:fn.body.isSome=true):fn.body=some (q9 fn):=by
 unfold q9;cases e:fn.body with
 | none=>rw[e]at h;cases h
 | some b=>rfl
abbrev zQ(fn:Func)(ts tr:aa):Bool:=fn.body.isSome&&FU fn (q9 fn) ts tr
theorem Cn{T:oH}(be:k0 T){ba:ew}(jB:sL Tryz.prog ba){sp:List (Nat×gJ)}(oD:F3 ba sp){n:Nat}{fn:Func}(aw:Tryz.prog.funcs[n]?=some fn){ts tr:aa}{sh:ts.ak->G tr.ak}{ann:cI}{S:ts.ak->G tr.ak}(az:∀ x,aR (S x) (sh x))(cJ:zQ fn ts tr=true)(af:∀ x,zK ba (q5 uy) wm (sa T sp) fn (q9 fn) ann ts tr x=S x):je Tryz.prog n ts tr sh:=
 have cJ:=ajm _ _ ▸ cJ
 apb J4 pA jB J5 (be.J7 oD) aw (J9 cJ.1) cJ.2 λx=>le_trans (le_of_eq (af x)) (az x)
def mk{T:oH}(be:k0 T){n:Nat}{fn:Func}(aw:Tryz.prog.funcs[n]?=some fn)(c:aF)(ann:cI){S:c.ts.ak->G c.tr.ak}(az:∀ x,aR (S x) (c.sh x))(cJ:zQ fn c.ts c.tr=true:=by kernel_rfl)(af:∀ x,zK dY (q5 uy) wm (sa T []) fn (q9 fn) ann c.ts c.tr x=S x:=by intro x;kernel_rfl):k0 ((n,c.dU)::T):=
 be.cons ⟨Cn be lX (sp:=[]) trivial aw az cJ af,λ_ _=>uC⟩
def nA{T:oH}(be:k0 T)(cl:z8'){n:Nat}{fn:Func}(aw:Tryz.prog.funcs[n]?=some fn)(c:aF)(ann:cI){S:c.ts.ak->G c.tr.ak}(az:∀ x,aR (S x) (c.sh x))(cJ:zQ fn c.ts c.tr=true:=by kernel_rfl)(af:∀ x,zK (Cm T cl []) (q5 uy) wm (sa T []) fn (q9 fn) ann c.ts c.tr x=S x:=by intro x;kernel_rfl):k0 ((n,c.dU)::T):=
 be.cons ⟨Cn be (be.u cl [] trivial) (sp:=[]) trivial aw az cJ af,λ_ _=>uC⟩
def pC{T:oH}(be:k0 T){ba:ew}(jB:sL Tryz.prog ba)(sp:List (Nat×gJ))(oD:F3 ba sp){n:Nat}{fn:Func}(aw:Tryz.prog.funcs[n]?=some fn)(c:aF)(ann:cI){S:c.ts.ak->G c.tr.ak}(az:∀ x,aR (S x) (c.sh x))(cJ:zQ fn c.ts c.tr=true:=by kernel_rfl)(af:∀ x,zK ba (q5 uy) wm (sa T sp) fn (q9 fn) ann c.ts c.tr x=S x:=by intro x;kernel_rfl):k0 ((n,c.dU)::T):=
 be.cons ⟨Cn be jB oD aw az cJ af,λ_ _=>uC⟩
def k1{T:oH}(be:k0 T)(cl:z8'){n:Nat}{fn:Func}(aw:Tryz.prog.funcs[n]?=some fn)(c:aF)(q8:Nat)(ann:cI){S:c.ts.ak->G c.tr.ak}(az:∀ x,aR (S x) (c.sh x))(hc:∀ x,c.pre x->FT q8 (q4 c.ts x):=by intro x h;obtain⟨f,aw,_⟩:=h;exact uz ⟨trivial,tk aw⟩)(cJ:zQ fn c.ts c.tr=true:=by kernel_rfl)
  (af:∀ x,fs (Cm T cl []) (q5 uy) wm (sa T []) ann (q9 fn) (JW q8 (q4 c.ts x)) (xx (q5 uy) fn.results.toList c.tr)=S x:=by intro x;kernel_rfl):k0 ((n,c.dU)::T):=
 have cJ:=ajm _ _ ▸ cJ
 be.cons ⟨apd (n:=q8) J4 pA (be.u cl [] trivial) J5 (be.J7 (sp:=[]) trivial) aw (J9 cJ.1) cJ.2 λx=>ap8 (hc x) (le_trans (le_of_eq (af x)) (az x)),λ_ _=>uC⟩
theorem eD{T:oH}(be:k0 T){ba:ew}(sp:List (Nat×gJ))(oD:F3 ba sp){n:Nat}{fn:Func}(aw:Tryz.prog.funcs[n]?=some fn){c:cW}(ann:cI){S:c.cH.ak->G c.bo.ak}(az:∀ x,aR (S x) (c.sh x))(cJ:(fn.body.isSome&&FV fn (q9 fn) c.lT c.lS)=true:=by kernel_rfl)(af:∀ x,PV ba (q5 uy) wm (sa T sp) fn (q9 fn) ann c.cH c.bo c.lS x=S x:=by intro x;kernel_rfl):di Tryz.prog ba n c:=
 have cJ:=ajm _ _ ▸ cJ
 YH J4 pA J5 (be.J7 oD) aw (J9 cJ.1) cJ.2 λx=>le_trans (le_of_eq (af x)) (az x)
theorem Qh{ba:ew}{n:Nat}{fn:Func}(aw:Tryz.prog.funcs[n]?=some fn){c:cW}(az:∀ x,¬(c.sh x).et)(cJ:(fn.body.isSome&&FV fn (q9 fn) c.lT c.lS)=true:=by kernel_rfl):di Tryz.prog ba n c:=
 have cJ:=ajm _ _ ▸ cJ
 YH J4 pA J5 (Psi:=λ_=>none) (λk c h=>by cases h) (ann:=.fp) aw (J9 cJ.1) cJ.2 λx h=>absurd h (az x)
theorem Zr{T:oH}(be:k0 T){n:Nat}{fn:Func}(aw:Tryz.prog.funcs[n]?=some fn){ts tr:aa}{pre:Nat->ts.ak->Prop}{g:Nat->ts.ak->tr.ak}(aZ:∀ x,¬pre 0 x){ann:cI}{S:Nat->ts.ak->G tr.ak}(az:∀ f x,aR (S f x) (eL (pre (f+1) x) (g (f+1) x)))(cJ:zQ fn ts tr=true)
  (af:∀ f x,zK dY (q5 uy) wm (sa ((n,aF.dU ⟨ts,tr,pre f,g f⟩)::T) []) fn (q9 fn) ann ts tr x=S f x):∀ f,je Tryz.prog n ts tr λx=>eL (pre f x) (g f x)
 | 0=>Cn be lX (sp:=[]) trivial aw (ann:=ann) (S:=λ_=>_) (λx h=>absurd h (aZ x)) cJ λ_=>rfl
 | f+1=>Cn (be.cons (c:=aF.dU ⟨ts,tr,pre f,g f⟩) ⟨Zr be aw aZ az cJ af f,λ_ _=>uC⟩) lX (sp:=[]) trivial aw (az f) cJ (af f)
def ml{T:oH}(be:k0 T){n:Nat}{fn:Func}(aw:Tryz.prog.funcs[n]?=some fn)(ts tr:aa)(pre:Nat->ts.ak->Prop)(g:Nat->ts.ak->tr.ak)(aZ:∀ x,¬pre 0 x)(ann:cI){S:Nat->ts.ak->G tr.ak}(az:∀ f x,aR (S f x) (eL (pre (f+1) x) (g (f+1) x)))(N:Nat)(cJ:zQ fn ts tr=true:=by kernel_rfl)
  (af:∀ f x,zK dY (q5 uy) wm (sa ((n,aF.dU ⟨ts,tr,pre f,g f⟩)::T) []) fn (q9 fn) ann ts tr x=S f x:=by intro f x;kernel_rfl):k0 ((n,aF.dU ⟨ts,tr,pre N,g N⟩)::T):=
 be.cons ⟨Zr be aw aZ az cJ af N,λ_ _=>uC⟩
end Go.Fer.pT
namespace Go.Fer
open Go.RowKit
theorem aqa{P:Program}{ba:ew}{k:FuncId}{ts e:aa}(vY:ts≠.dp){c:cW}(h:di P ba k c)(jB:sL P ba){sh:ts.ak->G (aa.slice e).ak}{b0:Nat}(mk:ts.ak->c.cH.ak)
    (aqb:∀ x,c.cH.ae (mk x)=⟨gh ((List.range (lb ts)).map λi=>(i,lH ts x i)),λ_=>⟨0,.gp⟩⟩) (aC:c.lT=lb ts) (j8:c.lT<=fF) (aqc:c.lS=[none]) (val:c.bo.ak->List e.ak)
    (qf:∀ bG,(c.bo.ae bG).aD 0=.own b0 0/\(c.bo.ae bG).W b0=⟨0,.bu e (val bG)⟩)
    (ua:∀ x,(sh x).et->(c.sh (mk x)).et/\∀ bG,(c.sh (mk x)).bo bG->val bG=(sh x).val (aa.slice e).dK):pa (iU.lU ⟨ts,.slice e,sh,true⟩).tr=true/\EF P k (iU.lU ⟨ts,.slice e,sh,true⟩):=by
  refine⟨rfl,h.enter,?_⟩;intro (x:ts.ak) (az:(sh x).et) y bh F w args bF hs (fV:gn P ts F w args x);cases bh;obtain⟨jY,JM⟩:=vH (H:=λ_=>⟨0,.gp⟩) (kap:=λ_=>⟨0,0,0,false⟩) ts fV vY;let C:cB:={ P:=P,ei:=w,jf:=F,K0:=λr=>r<w.heap.size,b5:=c.lT,r:=none,dq:=[],jy:=λ_=>none,cP:=⟨0,.dp,λ_=>False,λ_ _ _ _ _=>False⟩,a8:=ba }
  have Fi:∀ i,gh ((List.range (lb ts)).map λi=>(i,lH ts x i)) i=.undef\/(i<lb ts/\gh ((List.range (lb ts)).map λi=>(i,lH ts x i)) i=lH ts x i):=λi=>by
    rcases YC (l:=(List.range (lb ts)).map λi=>(i,lH ts x i)) (i:=i) with e | e
    · exact .inl e
    · refine .inr ?_
      generalize bD:gh ((List.range (lb ts)).map λi=>(i,lH ts x i)) i=z at e
      simp only[aLt,aKR,aJ8]at e
      obtain⟨j,aI,rfl,rfl⟩:=e
      exact⟨aI,rfl⟩
  have U:bH C (c.cH.ae (mk x)) { tmps:=args.toArray,defers:=[] } w (λ_=>⟨0,0,0,false⟩) F:=by
    rw[aqb];refine { ek := ?_, dq := rfl, cc := λi => ?_, bR := λb => trivial, own := λb V => (by cases V), inj := λb bl V _ _ => (by cases V), dH := bF, ie := λr U => .inl U, jg := λr U => U, iM := λr U => U, fi := λr _ => rfl, size := ajn _, e5 := dP.refl w,hq:=j8,lC:=λb r h=>(by cases h),kQ:=λb r h=>(by cases h),lD:=λb k h=>(by cases h),lE:=λb k h=>(by cases h),fo:=λl aN L n ae e=>?_,kR:=jB,jW:=hs }
    · grind
    · rcases Fi i with e | ⟨D,e⟩
      · show bQ _ _ _ _ _ (gh _ i) _
        rw[e];trivial
      · show bQ _ _ _ _ _ (gh _ i) _
        rw[e]
        have:=JM i D
        simpa [aKb,aJ7]using this
    · rcases Fi cw with h | ⟨h,_⟩
      · grind
      · unfold cw at h;unfold fF at j8;omega
  obtain⟨O8,s4⟩:=ua x az;refine (h.ki C _ w _ F (mk x) rfl rfl rfl rfl rfl rfl U O8).mono λbt w' ⟨v,bG,aJ,bX,F',D2,hh,Jo,bE⟩=>?_;obtain⟨aqd,zy⟩:=qf bG;rw[aqc]at Jo;obtain⟨us,NZ,Jk,Qi⟩:=Jo;obtain⟨u,rfl⟩:∃ u,us=[u]:=by
    match us,NZ with
    | [u],_=>simp
  have Qj:aJ=[u]:=by
    obtain⟨_,Qj,M⟩:=Qi;rw[Qj,M]
  have ab:v=u:=by simpa using Jk
  have eG:=bE.cc 0;rw[aqd,Qj]at eG;have Zs:u=(bX b0).slice ((c.bo.ae bG).W b0).body.len:=by
    have:=eG.2 (by rw[zy]) (by rw[zy];rfl);simp_all
  rw[zy]at Zs;have bd:=bE.bR b0;unfold cX at bd;rw[zy]at bd;obtain⟨E,M⟩:=bd;have zM:val bG=(sh x).val (aa.slice e).dK:=s4 bG hh;refine⟨bX b0,F',by rw[D2,ab,Zs];simp only[cf.len];rw[zM];rfl,bE.jg,λr Zt=>?_,λaC=>?_,λaC=>?_,bE.e5.os,bE.e5.tape,bE.e5.output,bE.size,bE.fi⟩
  · rcases bE.ie r Zt with dt | dt
    · exact .inl dt
    · exact .inr ⟨aLD dt,bE.dH r Zt⟩
  · have:=E aC
    rw[zM]at this
    exact this
  · have au:=bE.own b0 (by rw[zy];simp[cf.cq,aC])
    obtain⟨cs,T,bx,c2,c3,c4,c5⟩:=M aC
    rw[zM]at c3 c5
    exact⟨⟨aLD au.2.2,au.1,au.2.1⟩,cs,T,bx,c2,c3,c4,c5⟩
end Go.Fer
namespace Go.Fer
abbrev bL:Type:=z2'×List (List (Int×z1'×Int×Int))×Int×z2'
abbrev wo:Type:=bL×List (z1')
abbrev gq(l:z3')(a b:Int):z3':=nS (k:=.int .i64) (v:=.int .i64) l a b
abbrev xG(l:z5')(a:Int×Int×Int)(b:Int):z5':=nS (k:=.ae (.ar (.int .i64) (.ar (.int .i64) (.int .i64)))) (v:=.int .i64) l a b
def J_{eK:Type}(x:bL)(fin:bL->G eK):G eK:=
 dN x.1 (dN x.2.2.2 (bj (λ(A:Int×bL×Int×Int×z2'×z2'×List (List (Int×z1'×Int×Int))×Unit)=>letI p:=A.2.1.2.1;letI m:=A.2.2.2;cR A.1 p (b1 (a6 A.1 p (dN (aL p A.1 []) (bj (λA=>letI n:=A.2.2.2;letI k:=n.2.2.2;letI l:=aL k.2.1 A.2.1 (0,[],0,0);dn A.2.1 k.2.1 (dN l.2.1 (a6 A.2.1 k.2.1 (ay (A.1,aQ A.2.1,A.2.2.1,n.1,n.2.1,n.2.2.1,k.1,List.set k.2.1 A.2.1.toNat (l.1,[]++l.2.1,l.2.2),k.2.2.1,())))) (a7 (A.1,A.2.2.1,n.1,n.2.1,n.2.2.1,k.1,k.2.1,k.2.2.1,()))) (A.1,0,A.2.1,A.2.2.1,m.1,m.2.1,m.2.2.1,[]++aL p A.1 [],m.2.2.2.1,()) (λA=>letI o:=A.2.2.2.2;cM o.2.2.2.1 (ay (A.1,A.2.1,A.2.2.1,A.2.2.2.1,o.1,o.2.1,o.2.2.2.1++[o.2.2.1],())))))) (λA=>letI q:=A.2.2.2;ay (aQ A.1,A.2.1,A.2.2.1,q.1,q.2.1,q.2.2.1,q.2.2.2.1,()))) (a7 (A.2.2.1,m.1,m.2.1,m.2.2.1,m.2.2.2.1,()))) (0,x,0,x.2.2.1,[]++x.1,[]++x.2.2.2,[],()) (λA=>fin (A.2.2.1,A.2.2.2.2.1,A.2.1,A.2.2.2.1))))
def Qk(x:z1'×Int):G Bool:=
 bj (λA=>dn A.2.2.1 A.1 (aG (aL A.1 A.2.2.1 0=A.2.1) (b_ true) (ay (A.1,A.2.1,aQ A.2.2.1,()))) (a7 ())) (x.1,x.2,0,()) λA=>hy
variable (aqe:z2'×List (List (Int×z1'×Int×Int))×Int×z2'->G Bool) (Co:z2'×List (List (Int×z1'×Int×Int))×Int×z2'->G Int) (xH:z1'×Int->G Bool) (aqf:z2'×List (List (Int×z1'×Int×Int))×Int×z2'->G (Int×Int)) (aHL:z2'×List (List (Int×z1'×Int×Int))×Int×z2'->G (List (z1'))) (Zu:bL×Int×Int->G Bool) (aHM:bL×z1'×z3'->G Int) (aHN:z1'×List (z1')->G Int) (aHO:bL×z3'->G (List (z1'))) (Ql:bL×Int->G Bool) (Qm:bL×Int×Int->G Bool) (zR:z2'×List (List (Int×z1'×Int×Int))×Int×z2'->G Int) (Qn:bL×Int×Int×Int×Int->G Bool) (aqg:bL×z1'×z3'->G Bool) (Zv:z1'->G Bool) (qj:Int×Int×Int->G Bool) (aqh:bL×Int->G Bool) (Zw:bL×Bool->G Int) (aqi:bL×Int×Int×Int->G Int) (aHP:bL×z1'->G Bool) (aHQ:bL×List (z1')×z1'×Int->G Int) (aHR:bL×Int->G (List (z1'))) (Zx:Int×Int->G Bool) (aqj:Int×z1'×Int×Int->G Bool) (Zy:bL×Int->G (z1')) (aqk:Int×Int->G Int) (aHS:bL×Int×Int×Int->G Int) (aql:z1'×(Int->G Bool)->G Int) (aHT:z3'×(Int×Int->G Bool)->G Int) (aHU:List (Int×z1'×Int×Int)×(Int×z1'×Int×Int->G Bool)->G Int) (aHV:z2'×(Int×Int×Int×Int->G Bool)->G Int) (aHW:List (List (Int×z1'×Int×Int))×(List (Int×z1'×Int×Int)->G Bool)->G Int) (aHX:z2'×(Int×Int×Int×Int->G Bool)->G Int) (Zz:z1'×Int->G Int) (Cp:Int×Int->G (Int×Int))
def Qo(x:bL×Int):G Bool:=
 ao (qj (x.2,0,cu (aB x.1.1) 1)) λy=>mpure y
def J'(x:bL×Int×Int):G Bool:=
 ao (aqh (x.1,x.2.1)) λy=>ad (y=true->(y=true/\y=true)/\(0<=x.2.1/\x.2.1<aB x.1.2.1)/\True) (b3 y (qj (x.2.2,0,cu (aB (aL x.1.2.1 x.2.1 [])) 1)) false (λb8=>mpure (y&&b8)))
def Qp(x:z2'×List (List (Int×z1'×Int×Int))×Int×z2'):G Int:=
 ao (aqe x) λy=>bN (!y) (mpure 70) (bj (λA=>cR A.1 A.2.1.2.2.2 (bj (λA=>letI e:=A.2.2.1.2.2.2;letI g:=aL e A.1 (0,0,0,0);letI f:=aL e A.2.1 (0,0,0,0);aG (A.2.1<A.1) (a6 A.2.1 e (a6 A.1 e (bN (bU f.1 g.1&&bU f.2.1 g.2.1&&bU f.2.2.1 g.2.2.1&&eM f.2.2.2 g.2.2.2) (e9 (e9 (b_ 71))) (ay (A.1,aQ A.2.1,A.2.2.1,()))))) (a7 (A.1,A.2.2.1,()))) (A.1,0,A.2.1,()) (λA=>ay (aQ A.1,A.2.1,()))) (a7 ())) (0,x,()) (λA=>mpure 0))
def Qq(x:bL×Int×Int×Int):G (Int×Int):=
 letI g:=Ql (x.1,x.2.1);letI f:=Qm (x.1,x.2.2);letI c:=eS g;letI e:=c=true;letI d:=Zw (x.1,c&&eS f);bT g (ad (e->(e/\e/\e/\True)/\f.et/\True) (ad (True/\(e->e)) (bT d (aG (G.val d (0:Int)≠0) (mpure (0,fY d)) (ao (aqi x) (λy=>mpure (y,0)))))))
def Qr(x:bL×Int×Int):G Bool:=
 bj (λA=>letI o:=A.2.2.2.1;letI k:=aL o.2.2.2 A.2.2.1 (0,0,0,0);letI m:=Qn (o,A.1,A.2.1,k.2.1,k.2.2.1);letI j:=bU k.1 A.1=true;letI n:=j->j/\True/\True;dn A.2.2.1 o.2.2.2 (ad n (ad n (ad (j->(j/\j/\j/\j/\j/\True)/\m.et/\True) (ad n (ad (j->(j/\True)/\True/\True) (ad (j->(j/\j)/\True/\True) (ad (True/\(j->j)) (if bU k.1 A.1&&!(bU (eS m) (bU k.2.2.2 1)) then b_ false else ay (A.1,A.2.1,aQ A.2.2.1,o,()))))))))) (a7 (A.1,A.2.1,o,()))) (x.2.1,x.2.2,0,x.1,()) λA=>letI l:=qj (A.2.1,(aL A.2.2.1.1 A.1 (0,0,0,0)).2.2);a6 A.1 A.2.2.1.1 (a6 A.1 A.2.2.1.1 (bT l (mpure (eS l))))
def Qs(x:bL×Int×Int×Int×Int):G Bool:=
 letI h:=aL x.1.2.1 x.2.2.2.1 [];letI g:=aL x.1.1 x.2.1 (0,0,0,0);letI f:=aL h x.2.2.2.2 (0,[],0,0);letI i:=bU g.1 f.1;a6 x.2.1 x.1.1 (a6 x.2.2.2.1 x.1.2.1 (a6 x.2.2.2.2 h (b3 i (xH (f.2.1,g.2.1)) false (λy=>b3 (i&&y) (qj (x.2.2.1,f.2.2.1,e_ f.2.2.2 x.1.2.2.1)) false λb8=>mpure (i&&y&&b8)))))
def Qt(x:z1'):G Bool:=
 bj (λA=>dn A.2.1 A.1 (a6 (cu A.2.1 1) A.1 (aG (aL A.1 A.2.1 0<=aL A.1 (cu A.2.1 1) 0) (b_ false) (ay (A.1,aQ A.2.1,())))) (a7 ())) (x,1,()) λA=>hO
def ZA(x:z2'×List (List (Int×z1'×Int×Int))×Int×z2'):G Int:=
 ao (Zw (x,true)) λy=>mpure y
def aqm(x:Int×Int×Int):G Bool:=
 mpure (decide (x.1>=x.2.1)&&hN x.1 x.2.2)
def Qu(x:bL×Int):G Bool:=
 ao (qj (x.2,0,cu (aB x.1.2.1) 1)) λy=>mpure y
def Qv(x:z2'×List (List (Int×z1'×Int×Int))×Int×z2'):G Bool:=
 letI n:=cN (aB x.1) 10||cN (aB x.2.1) 6;b3 (!n) (qj (x.2.2.1,0,99)) false λy=>bN (n||!y||cN (aB x.2.2.2) 30) hy (bj (λA=>letI l:=aL A.2.1.1 A.1 (0,0,0,0);dn A.1 A.2.1.1 (ao (qj (l.1,0,9)) (λy=>b3 (!(!y)) (qj (l.2.1,0,9)) false λb8=>b3 (!(!y||!b8)) (Zx l.2.2) false λdZ=>bN (!y||!b8||!dZ) (b_ false) (ay (aQ A.1,A.2.1,())))) (a7 (A.2.1,()))) (0,x,()) (λA=>bj (λA=>cR A.1 A.2.1.2.1 (b1 (a6 A.1 A.2.1.2.1 (aG (aB (aL A.2.1.2.1 A.1 []) > 4) (e9 (b_ false)) (dG (λA=>letI o:=A.2.2.1;letI m:=aL o.2.1 A.1 [];a6 A.1 o.2.1 (cR A.2.1 m (a6 A.1 o.2.1 (a6 A.2.1 m (ao (aqj (aL m A.2.1 (0,[],0,0))) (λy=>bN (!y) (e9 (e9 (b_ false))) (ay (A.1,aQ A.2.1,o,())))))) (a7 (A.1,o,())))) (A.1,0,A.2.1,())))) (λA=>ay (aQ A.1,A.2.1,()))) (a7 (A.2.1,()))) (0,A.1,()) λA=>bj (λA=>letI k:=aL A.2.1.2.2.2 A.1 (0,0,0,0);dn A.1 A.2.1.2.2.2 (ao (Ql (A.2.1,k.1)) (λy=>b3 (!(!y)) (Qm (A.2.1,k.2.1,k.2.2.1)) false λb8=>b3 (!(!y||!b8)) (qj (k.2.2.2,0,1)) false λdZ=>bN (!y||!b8||!dZ) (b_ false) (ay (aQ A.1,A.2.1,())))) (a7 ())) (0,A.1,()) λA=>hO))
def Qw(x:bL×Bool):G Int:=
 ao (zR x.1) λy=>aG (y≠0) (mpure y) (if !x.2 then mpure 1 else bj (λA=>cR A.1 A.2.1.1 (ao (Zy (A.2.1,A.1)) (λy=>aG (aB y=0) (b_ 3) (ay (aQ A.1,A.2.1,())))) (a7 ())) (0,x.1,()) λA=>mpure 0)
def Qx(x:bL×Int):G (z1'):=
 b1 (a6 x.2 x.1.1 (dG (λA=>letI b:=A.2.2;a6 A.1 b.1.1 (aG (A.2.1<=(aL b.1.1 A.1 (0,0,0,0)).2.2.2) (b1 (ao (Zu (b.1,A.1,A.2.1)) (λy=>bN y (cM b.2.1 (ay (A.1,A.2.1,b.1,b.2.1++[A.2.1],()))) (ay (A.1,A.2.1,b.1,b.2.1,())))) (λA=>ay (A.1,aQ A.2.1,A.2.2.1,A.2.2.2.1,()))) (a7 (b.2.1,())))) (x.2,(aL x.1.1 x.2 (0,0,0,0)).2.2.1,x.1,[],()))) λA=>mpure A.1
def Qy(x:bL×Int×Int×Int):G Int:=
 ao (Zy (x.1,x.2.1)) λy=>bj (λA=>letI f:=A.2.2.2;letI h:=f.2.2;letI g:=Qn (h.2.1,A.1,aL f.1 h.1 0,A.2.1,A.2.2.1);cR h.1 f.1 (b1 (a6 h.1 f.1 (bT g (bN (eS g) (ay (A.1,A.2.1,A.2.2.1,f.1,aQ f.2.1,h.1,h.2.1,())) (ay (A.1,A.2.1,A.2.2.1,f.1,f.2.1,h.1,h.2.1,()))))) (λA=>letI i:=A.2.2.2;ay (A.1,A.2.1,A.2.2.1,i.1,i.2.1,aQ i.2.2.1,i.2.2.2.1,()))) (a7 (f.1,f.2.1,()))) (x.2.1,x.2.2.1,x.2.2.2,y,0,0,x.1,()) λA=>ao (aqk (A.2.1,aB A.1)) λy=>mpure y
def Qz(x:Int×Int):G Bool:=
 ao (qj (x.1,0,x.2)) λy=>mpure (y&&hN x.2 999)
def QA(x:Int×z1'×Int×Int):G Bool:=
 bj (λA=>dn A.1 A.2.1.2.1 (ao (qj (aL A.2.1.2.1 A.1 0,0,9)) (λy=>if !y then b_ false else ay (aQ A.1,A.2.1,()))) (a7 (A.2.1,()))) (0,x,()) λA=>ao (qj (A.1.1,0,9)) λy=>letI c:=y&&hN (aB A.1.2.1) 4;b3 c (Zv A.1.2.1) false λb8=>b3 (c&&b8) (Zx A.1.2.2) false λdZ=>mpure (c&&b8&&dZ)
def ZB(x:Int×Int):G Int:=
 aG (x.1=x.2) (mpure 1) (aG (x.1=0) (mpure 2) (mpure 3))
def ZC(aHY:Int×Int->G (Int×Int))(aqn:Int×Int->G (Int×Int))(x:Int×Int):G (Int×Int):=
 ao (aqn x) λy=>mpure y
def ZD(x:z1'×Int):G Bool:=
 ao (Zz x) λy=>mpure (decide (y>=0))
def ZE(x:Int×Int):G (Int×Int):=
 ad ((0:Int)<=32) (ad ((0:Int)<=32) (ad ((0:Int)<=32) (ad ((0:Int)<=32) (ad ((0:Int)<=32) (mpure (IntKind.wrap .u64 (Add.add (IntKind.wrap .u64 (Add.add (IntKind.wrap .u64 (kA .u64 x.1 32*kA .u64 x.2 32)) (kA .u64 (IntKind.wrap .u64 (Add.add (IntKind.wrap .u64 (kA .u64 x.1 32*nm .u64 x.2 4294967295)) (kA .u64 (IntKind.wrap .u64 (nm .u64 x.1 4294967295*nm .u64 x.2 4294967295)) 32))) 32))) (kA .u64 (IntKind.wrap .u64 (Add.add (nm .u64 (IntKind.wrap .u64 (Add.add (IntKind.wrap .u64 (kA .u64 x.1 32*nm .u64 x.2 4294967295)) (kA .u64 (IntKind.wrap .u64 (nm .u64 x.1 4294967295*nm .u64 x.2 4294967295)) 32))) 4294967295) (IntKind.wrap .u64 (nm .u64 x.1 4294967295*kA .u64 x.2 32)))) 32)),IntKind.wrap .u64 (x.1*x.2)))))))
def QB(x:z1'×Int):G Int:=
 bj (λA=>letI b:=A.2.2.2.1;aG (b<A.2.2.1) (a6 b A.1 (aG (A.2.1=aL A.1 b 0) (b_ b) (ay (A.1,A.2.1,A.2.2.1,aQ b,())))) (a7 ())) (x.1,x.2,aB x.1,0,()) λA=>mpure (-1)
end Go.Fer
namespace Go.Fer
variable (aHZ:z2'×List (List (Int×z1'×Int×Int))×Int×z2'->G (z1'×Int)) (aH0:Int->G Int) (aH1:Int->G (z1')) (aqo:z2'×List (List (Int×z1'×Int×Int))×Int×z2'->G Bool) (aH2:bL×z1'×z3'->G (Option (List (z1')×z1'×z1')×Int)) (aH3:Option (List (z1')×z1'×z1')×Int->G (z1')) (aH4:Option (List (z1')×z1'×z1')×Int×Unit->G (z1'×Unit)) (ZF:bL×Bool->G (Option wo×Int)) (Ka:bL×Int->G Bool) (ZG:bL×Int×Int->G Bool) (aqp:z1'->G Bool) (aqq:Option wo×Int×Int×Int->G Int) (aqr:z1'×(Int->G Bool)->G Bool) (aH5:z3'×(Int×Int->G Bool)->G Bool) (aH6:z1'×Int×Unit->G (z1'×Unit)) (xI:Int×Int×Int->G Bool) (aH7:Option wo×z1'×Int->G Int) (aH8:Int×Option bL->G Bool) (aqs:z2'×(Int×Int×Int×Int->G Bool)->G Bool) (aqt:List (List (Int×z1'×Int×Int))×(List (Int×z1'×Int×Int)->G Bool)->G Bool) (Cq:z2'×List (List (Int×z1'×Int×Int))×Int×z2'->G Int) (ZH:z2'×(Int×Int×Int×Int->G Bool)->G Bool) (aqu:List (Int×z1'×Int×Int)×Option (Int×z1'×Int×Int->G Bool)->G Bool) (aqv:(Int×Int×Int×Int)×Option bL->G Bool) (aqw:Int×Int×Int×Int->G Bool) (aqx:Int×z1'×Int×Int->G Bool) (aqy:(Int×Int×Int×Int)×Option Int×Option bL×Option Int->G Bool) (ZI:bL×Int×Int×Int×Int->G Bool) (Kb:z1'×(Int->G Bool)->G Bool) (aH9:Int×Option (Int->G Bool)->G Bool) (aqz:Int×Int->G Int) (aH_:Option wo×z1'×Int->G (z3')) (aH':z3'×(Int×Int->G Bool)->G Bool) (aIa:(Int×Int)×Option (Int×Int->G Bool)->G Bool) (Kc:Int->G Bool) (ZJ:Int×Int->G Bool) (aqA aIb:List (Int×z1'×Int×Int)×(Int×z1'×Int×Int->G Bool)->G Bool) (aIc:(Int×z1'×Int×Int)×Option (Int×z1'×Int×Int->G Bool)->G Bool) (aId:z2'×(Int×Int×Int×Int->G Bool)->G Bool) (aIe:(Int×Int×Int×Int)×Option (Int×Int×Int×Int->G Bool)->G Bool) (aIf:List (List (Int×z1'×Int×Int))×(List (Int×z1'×Int×Int)->G Bool)->G Bool) (aIg:List (Int×z1'×Int×Int)×Option (List (Int×z1'×Int×Int)->G Bool)->G Bool) (aIh:z2'×(Int×Int×Int×Int->G Bool)->G Bool) (aIi:(Int×Int×Int×Int)×Option (Int×Int×Int×Int->G Bool)->G Bool) (zS:z1'×Int->G Bool) (aIj:Int×List (z1')×z1'×z1'×Unit->G (z1'×List (z1')×z1'×z1'×Unit)) (aIk:Int×List (z1')×z1'×z1'×z3'×Unit->G (Bool×List (z1')×z1'×z1'×z3'×Unit)) (aIl:(Int×Int)×Option bL->G Bool) (aIm:Int->G Bool)
def QC(x:z2'×List (List (Int×z1'×Int×Int))×Int×z2'):G Int:=
 ao (aqo x) λy=>bN (!y) (mpure 70) (bj (λ(A:z2'×Int×Int×z5'×Unit)=>letI f:=A.2.2;letI d:=aL A.1 f.1 (0,0,0,0);letI e:=Option.map (λx=>x.2) (List.find? (λp=>bU d.1 p.1.1&&(bU d.2.1 p.1.2.1&&bU d.2.2.1 p.1.2.2)) f.2.1);aG (f.1<A.2.1) (a6 f.1 A.1 (bN (e.isSome&&eM (e.getD 0) d.2.2.2) (b_ 71) (ay (A.1,A.2.1,aQ f.1,xG f.2.1 (d.1,d.2.1,d.2.2.1) d.2.2.2,())))) (a7 ())) (x.2.2.2,aB x.2.2.2,0,[],()) (λA=>mpure 0))
def QD(x:bL×Int):G ((Int×Int)×Int):=
 letI d:=ZF (x.1,eS (Ka x));letI b:=G.val d (none,0);letI e:=(b.1.getD (([],[],0,[]),[])).2;letI c:=aL e x.2 [];bT (Ka x) (bT d (aG (b.2≠0) (mpure ((0,0),b.2)) (ad b.1.isSome (a6 x.2 e (dJ c (a6 (cu (aB c) 1) c (mpure ((eC c 0,c.getD (Int.toNat (cu (aB c) 1)) 0),0))))))))
def QE(x:bL×Int×Int×Int):G (Int×Int):=
 letI g:=ZG (x.1,x.2.2);letI f:=Ka (x.1,x.2.1);letI c:=eS f;letI e:=c=true;letI d:=ZF (x.1,c&&eS g);bT f (ad (e->(e/\e/\e/\True)/\g.et/\True) (ad (True/\(e->e)) (bT d (aG ((G.val d (none,0)).2≠0) (mpure (0,(G.val d (none,0)).2)) (ao (aqq ((G.val d (none,0)).1,x.2)) (λy=>mpure (y,0)))))))
def ZK(x:z2'×List (List (Int×z1'×Int×Int))×Int×z2'):G Bool:=
 b3 (hN (aB x.1) 10) (aqs (x.1,aqw)) false λy=>letI d:=hN (aB x.1) 10&&y&&hN (aB x.2.1) 6;b3 d (aqt (x.2.1,λx=>aqu (x,some aqx))) false λb8=>b3 (d&&b8) (xI (x.2.2.1,0,99)) false λdZ=>letI e:=d&&b8&&dZ&&hN (aB x.2.2.2) 30;b3 e (ZH (x.2.2.2,λiC=>aqv (iC,some x))) false λhP=>mpure (e&&hP)
def QF(x:bL×Bool):G (Option wo×Int):=
 ao (Cq x.1) λy=>aG (y≠0) (mpure (none,y)) (bN (!x.2) (mpure (none,1)) (bj (λA=>letI t:=A.2.2.1;letI u:=aL A.1 t (0,0,0,0);letI n:=A.2.2.2.2;aG (t<A.2.1) (b1 (a6 t A.1 (bj (λA=>letI o:=A.2.2.2;letI l:=o.2.2.2;letI v:=l.2.2;letI p:=v.2.2;aG (l.2.1<=o.2.2.1.2.2.2) (b1 (ao (ZH (o.1.2.2.2,λx=>aqy (x,some o.2.1,some o.1,some l.2.1))) (λy=>bN y (cM l.1 (ay (A.1,A.2.1,A.2.2.1,o.1,o.2.1,o.2.2.1,l.1++[l.2.1],l.2.1,v.1,v.2.1,p.1,p.2.1,p.2.2.1,()))) (ay (A.1,A.2.1,A.2.2.1,o.1,o.2.1,o.2.2.1,l.1,l.2.1,v.1,v.2.1,p.1,p.2.1,p.2.2.1,())))) (λA=>letI w:=A.2.2.2;letI m:=w.2.2.2;ay (A.1,A.2.1,A.2.2.1,w.1,w.2.1,w.2.2.1,m.1,aQ m.2.1,m.2.2.1,m.2.2.2.1,m.2.2.2.2.1,m.2.2.2.2.2.1,m.2.2.2.2.2.2.1,()))) (a7 (A.1,A.2.1,A.2.2.1,o.1,l.1,v.1,v.2.1,p.1,p.2.1,p.2.2.1,()))) (A.1,A.2.1,t,A.2.2.2.1,t,u,[],u.2.2.1,n.1,n.2.1,n.2.2.1,n.2.2.2.1,n.2.2.2.2.1,()) (λA=>letI q:=A.2.2.2.2;aG (aB q.1=0) (e9 (b_ (none,3))) (ad True (cM q.2.2.2.2.2.1 (ad True (ay (A.1,A.2.1,A.2.2.1,A.2.2.2.1,q.2.1,q.2.2.1,q.2.2.2.1,q.2.2.2.2.1,q.2.2.2.2.2.1++[q.1],())))))))) (λA=>letI s:=A.2.2.2.2;ay (A.1,A.2.1,aQ A.2.2.1,A.2.2.2.1,s.1,s.2.1,s.2.2.1,s.2.2.2.1,s.2.2.2.2.1,()))) (a7 (n.1,n.2.1,n.2.2.1,n.2.2.2.1,n.2.2.2.2.1,()))) (x.1.1,aB x.1.1,0,x.1,x.1.1,x.1.2.1,x.1.2.2.1,x.1.2.2.2,[],()) (λA=>mpure (some ((A.1,A.2.1,A.2.2.1,A.2.2.2.1),A.2.2.2.2.1),0))))
def aqB(x:bL×Int):G Bool:=
 ao (xI (x.2,0,cu (aB x.1.1) 1)) λy=>mpure y
def ZL(x:bL×Int×Int):G Bool:=
 ao (xI (x.2.1,0,cu (aB x.1.2.1) 1)) λy=>ad (y=true->(y=true/\y=true)/\(0<=x.2.1/\x.2.1<aB x.1.2.1)/\True) (b3 y (xI (x.2.2,0,cu (aB (aL x.1.2.1 x.2.1 [])) 1)) false (λb8=>mpure (y&&b8)))
def QG(x:Option wo×Int×Int×Int):G Int:=
 letI i:=(x.1.getD (([],[],0,[]),[])).2;b1 (ad x.1.isSome (a6 x.2.1 i (dG (λA=>letI l:=A.2.2;letI h:=l.2.2;letI k:=h.2.2.2.1;aG (k<h.2.2.1) (b1 (a6 k h.2.1 (ad A.1.isSome (ao (ZI ((A.1.getD (([],[],0,[]),[])).1,A.2.1,aL h.2.1 k 0,l.1,l.2.1)) (λy=>bN y (ay (A.1,A.2.1,l.1,l.2.1,aQ h.1,h.2.1,h.2.2.1,k,())) (ay (A.1,A.2.1,l.1,l.2.1,h.1,h.2.1,h.2.2.1,k,())))))) (λA=>letI m:=A.2.2.2;ay (A.1,A.2.1,A.2.2.1,m.1,m.2.1,m.2.2.1,m.2.2.2.1,aQ m.2.2.2.2.1,()))) (a7 (A.1,A.2.1,h.1,()))) (x.1,x.2.1,x.2.2.1,x.2.2.2,0,aL i x.2.1 [],aB (aL i x.2.1 []),0,())))) λA=>letI j:=(A.1.getD (([],[],0,[]),[])).2;ad A.1.isSome (a6 A.2.1 j (ao (aqz (A.2.2.1,aB (aL j A.2.1 []))) (λy=>mpure y)))
def aqC(x:z1'):G Bool:=
 bj (λA=>dn A.2.1 A.1 (a6 (cu A.2.1 1) A.1 (aG (aL A.1 A.2.1 0<=aL A.1 (cu A.2.1 1) 0) (b_ false) (ay (A.1,aQ A.2.1,())))) (a7 ())) (x,1,()) λA=>hO
def aqD(x:Int×Int×Int):G Bool:=
 mpure (hN x.2.1 x.1&&hN x.1 x.2.2)
def ZM(x:Int×Int×Int×Int):G Bool:=
 ao (Kc x.1) λy=>b3 y (Kc x.2.1) false λb8=>b3 (y&&b8) (ZJ x.2.2) false λdZ=>mpure (y&&b8&&dZ)
def ZN(x:Int):G Bool:=
 ao (xI (x,0,9)) λy=>mpure y
def aqE(x:Int×Int):G Bool:=
 ao (xI (x.1,0,x.2)) λy=>mpure (y&&hN x.2 999)
def ZO(x:Int×z1'×Int×Int):G Bool:=
 ao (Kc x.1) λy=>letI b:=y&&hN (aB x.2.1) 4;b3 b (aqr (x.2.1,Kc)) false λb8=>b3 (b&&b8) (aqp x.2.1) false λdZ=>b3 (b&&b8&&dZ) (ZJ x.2.2) false λhP=>mpure (b&&b8&&dZ&&hP)
def ZP(x:List (Int×z1'×Int×Int)×Option (Int×z1'×Int×Int->G Bool)):G Bool:=
 letI b:=decide (aB x.1<=4);b3 b (aqA (x.1,x.2.getD λx=>{ et:=False,bo:=λx=>False })) false λy=>mpure (b&&y)
def ZQ(x:(Int×Int×Int×Int)×Option bL):G Bool:=
 letI b:=x.2.getD ([],[],0,[]);ao (Ka (b,x.1.1)) λy=>b3 y (ZG (b,x.1.2.1,x.1.2.2.1)) false λb8=>b3 (y&&b8) (xI (x.1.2.2.2,0,1)) false λdZ=>mpure (y&&b8&&dZ)
def ZR(x:(Int×Int×Int×Int)×Option Int×Option bL×Option Int):G Bool:=
 letI h:=eM x.1.1 (x.2.1.getD 0);letI g:=ZI (x.2.2.1.getD ([],[],0,[]),x.2.1.getD 0,x.2.2.2.getD 0,x.1.2.1,x.1.2.2.1);letI f:=(!h)=true;letI i:=f->f/\True/\True;ad i (ad i (ad (f->(f/\f/\f/\f/\f/\True)/\g.et/\True) (ad i (ad (f->(f/\True)/\True/\True) (ad (f->(f/\f)/\True/\True) (ad (True/\(h=false->f)) (mpure (h||bU (eS g) (bU x.1.2.2.2 1)))))))))
def ZS(x:bL×Int×Int×Int×Int):G Bool:=
 letI h:=aL x.1.2.1 x.2.2.2.1 [];letI g:=aL x.1.1 x.2.1 (0,0,0,0);letI f:=aL h x.2.2.2.2 (0,[],0,0);letI i:=bU g.1 f.1;a6 x.2.1 x.1.1 (a6 x.2.2.2.1 x.1.2.1 (a6 x.2.2.2.2 h (b3 i (zS (f.2.1,g.2.1)) false (λy=>b3 (i&&y) (xI (x.2.2.1,f.2.2.1,e_ f.2.2.2 x.1.2.2.1)) false λb8=>mpure (i&&y&&b8)))))
def ZT(x:Int×Int):G Int:=
 aG (x.1=x.2) (mpure 1) (aG (x.1=0) (mpure 2) (mpure 3))
end Go.Fer
namespace Go.Fer
variable (aIn:z2'×List (List (Int×z1'×Int×Int))×Int×z2'->G Bool) (aIo:Unit->G Bool) (aIp:z2'×List (List (Int×z1'×Int×Int))×Int×z2'->G (Int×Int)) (aIq:z2'×List (List (Int×z1'×Int×Int))×Int×z2'->G (z1'×Int)) (aIr:bL×Unit->G (Int×z2'×z2'×List (List (Int×z1'×Int×Int))×Unit)) (xH:z1'×Int->G Bool) (ZU:z2'×List (List (Int×z1'×Int×Int))×Int×z2'->G bL) (aqg:bL×z1'×z3'->G Bool) (Ql:bL×Int->G Bool) (aIs:bL×z1'×z3'->G (Int×Int)) (Qm:bL×Int×Int->G Bool) (aIt:z1'×z1'->G Bool) (ZV:z2'×List (List (Int×z1'×Int×Int))×Int×z2'->G Bool) (Cq:z2'×List (List (Int×z1'×Int×Int))×Int×z2'->G Int) (aqf:z2'×List (List (Int×z1'×Int×Int))×Int×z2'->G (Int×Int)) (aIu aIv:z2'×List (List (Int×z1'×Int×Int))×Int×z2'->G (z1'×Int)) (aIw aIx:bL×z1'->G Bool) (aIy:z1'×z1'->G Bool) (Zv:z1'->G Bool) (zR:z2'×List (List (Int×z1'×Int×Int))×Int×z2'->G Int) (Kd aIz:bL×Int->G ((Int×Int)×Int)) (Ke Kf:bL×Int×Int×Int->G (Int×Int)) (aIA:bL×bL->G Bool) (aIB aIC:bL×z1'×Int->G (Int×Int)) (aID:bL×z1'->G Bool) (aIE:bL×Int×Int×Int->G Bool) (Zu:bL×Int×Int->G Bool) (aIF:Int×Bool->G Bool) (Qn:bL×Int×Int×Int×Int->G Bool) (aIG:bL×z1'×z3'->G (Int×Int)) (aIH aII:bL×z1'×z3'->G (z1'×Int)) (aIJ:bL×z1'×z3'×z1'->G Int) (aIK:z3'×z1'->G Bool) (aIL:bL×z1'×z3'×z1'->G Int) (aIM:bL×(z1'×z3')×z1'->G Int) (Co:z2'×List (List (Int×z1'×Int×Int))×Int×z2'->G Int) (ZW:Unit->G bL) (aIN:Unit->G (z3'))
def QH(x:z2'×List (List (Int×z1'×Int×Int))×Int×z2'):G Bool:=
 if cN (aB x.1) 40||cN (aB x.2.1) 40||cN (aB x.2.2.2) 60 then hO else bj (λA=>cR A.1 A.2.1.2.1 (b1 (a6 A.1 A.2.1.2.1 (aG (aB (aL A.2.1.2.1 A.1 []) > 20) (e9 (b_ true)) (dG (λA=>letI j:=A.2.2.1;letI h:=aL j.2.1 A.1 [];a6 A.1 j.2.1 (cR A.2.1 h (a6 A.1 j.2.1 (a6 A.2.1 h (aG (aB (aL h A.2.1 (0,[],0,0)).2.1 > 20) (e9 (e9 (b_ true))) (ay (A.1,aQ A.2.1,j,()))))) (a7 (A.1,j,())))) (A.1,0,A.2.1,())))) (λA=>ay (aQ A.1,A.2.1,()))) (a7 (A.2.1,()))) (0,x,()) λA=>ao (zR A.1) λy=>aG (y≠0) hy (bj (λA=>letI i:=(aL A.2.1.1 A.1 (0,0,0,0)).2.2;dn A.1 A.2.1.1 (a6 A.1 A.2.1.1 (aG (cu i.2 i.1>=50) (b_ true) (ay (aQ A.1,A.2.1,())))) (a7 (A.2.1,()))) (0,A.1,()) (λA=>mpure (cN (aB A.1.1) 6||cN (aB A.1.2.1) 4||cN (aB A.1.2.2.2) 10)))
def aqF(x:Unit):G bL:=
 mpure ([(1,2,300,310),(1,3,305,305),(2,1,50,60),(1,2,320,330)],[[(1,[2,3],300,306),(2,[1],40,58)],[(1,[2],310,326)]],5,[(0,1,0,0)])
end Go.Fer
namespace Go.Fer
abbrev lZ:Type:=Int×Int×Int×Int×z1'
abbrev jQ:Type:=z1'×(Int×Int)×Int×Int×Int
abbrev fM:Type:=Int×Int×Int
abbrev aS:Type:=bL×z1'×List lZ×List jQ×List fM×Int
abbrev Kg:Type:=z2'×List (List (Int×z1'×Int×Int))×Int×z2'×Int×z1'×List lZ×List jQ×List fM×Unit
abbrev fu:Type:=aS×z3'×z5'
def Kh{eK:Type}(ZU:bL->G bL)(x:aS)(fin:aS->G eK):G eK:=
 letI ax:=x.2.2.2;ao (ZU x.1) λy=>dN x.2.1 (dN x.2.2.1 (dN ax.1 (dN ax.2.1 (bj (λ(A:Int×(bL×z1'×List (Int×Int×Int×Int×z1')×List jQ×z4'×Int)×Int×Int×z2'×List (List (Int×z1'×Int×Int))×Int×z2'×Int×z1'×List lZ×List jQ×z4'×Unit)=>letI cd:=(aL A.2.1.2.2.1 A.1 (0,0,0,0,[])).2.2.2.2;letI u:=A.2.2.2.2;letI q:=u.2.2.2.2;letI d1:=q.2.2;letI t:=aL d1.1 A.1 (0,0,0,0,[]);cR A.1 d1.1 (a6 A.1 A.2.1.2.2.1 (dN cd (a6 A.1 d1.1 (ay (aQ A.1,A.2.1,A.2.2.1,A.2.2.2.1,u.1,u.2.1,u.2.2.1,u.2.2.2.1,q.1,q.2.1,List.set d1.1 A.1.toNat (t.1,t.2.1,t.2.2.1,t.2.2.2.1,[]++cd),d1.2.1,d1.2.2.1,()))))) (a7 (A.2.1,A.2.2.1,A.2.2.2.1,u.1,u.2.1,u.2.2.1,u.2.2.2.1,q.1,q.2.1,d1.1,d1.2.1,d1.2.2.1,()))) (0,x,0,0,y.1,y.2.1,y.2.2.1,y.2.2.2,ax.2.2,[]++x.2.1,[]++x.2.2.1,[]++ax.1,[]++ax.2.1,()) (λA=>letI v:=A.2.2.2.2.2;bj (λA=>letI bx:=(aL A.2.1.2.2.2.1 A.1 ([],(0,0),0,0,0)).1;letI z:=A.2.2.2.2;letI s:=z.2.2.2;letI cm:=s.2.2.2.2;cR A.1 cm.1 (a6 A.1 A.2.1.2.2.2.1 (dN bx (a6 A.1 cm.1 (ay (aQ A.1,A.2.1,A.2.2.1,A.2.2.2.1,z.1,z.2.1,z.2.2.1,s.1,s.2.1,s.2.2.1,s.2.2.2.1,List.set cm.1 A.1.toNat ([]++bx,(aL cm.1 A.1 ([],(0,0),0,0,0)).2),cm.2.1,()))))) (a7 (A.2.2.1,A.2.2.2.1,z.1,z.2.1,z.2.2.1,s.1,s.2.1,s.2.2.1,s.2.2.2.1,cm.1,cm.2.1,()))) (0,A.1,A.2.1,A.2.2.1,A.2.2.2.1,A.2.2.2.2.1,v.1,v.2.1,v.2.2.1,v.2.2.2.1,v.2.2.2.2.1,v.2.2.2.2.2.1,v.2.2.2.2.2.2.1,()) λA=>letI w:=A.2.2.2.2.2;fin ((A.2.2.1,A.2.2.2.1,A.2.2.2.2.1,w.1),w.2.2.1,w.2.2.2.1,w.2.2.2.2.1,w.2.2.2.2.2.1,w.2.1))))))
variable (Ki:aS×Bool->G (Option fu×Int)) (F5:aS->G Int) (aqG:aS×Bool->G (Int×Int)) (aIO:aS×Int->G Bool) (aIP:Int×Int×z4'×Unit->G ((Nat×Nat)×z4'×Unit)) (aIQ:z4'×Unit->G (z4'×Unit)) (Kj:aS->G (aS)) (Cq:z2'×List (List (Int×z1'×Int×Int))×Int×z2'->G Int) (aqH:aS->G Bool) (zR:z2'×List (List (Int×z1'×Int×Int))×Int×z2'->G Int) (ZX aqI:aS×Int->G Bool) (zT:aS->G Int) (aqJ:aS×Int->G Bool) (QI:aS->G Int) (aIR:aS×Int->G (aS)) (QJ:aS->G (Int×Int)) (oI:Int×Int×Int->G Bool) (aqK:aS×Int×Int×Int×Int×z1'->G Bool) (aqL:z1'×(Int×Int)×Int×Int×Int->G Bool) (aqM:aS×List (List (z1'))×z1'->G Int) (F6:aS->G (List (List (z1')))) (aqN:aS×Int->G Bool) (ZY:(z1'×(Int×Int)×Int×Int×Int)×Int×Int×Int×Int×z1'->G Int) (QK ZZ:aS×z1'->G Bool) (QL:aS×Bool->G Int) (QM:aS×List (List (z1'))×z1'->G Bool) (aqO:aS×Int×Int->G (z1')) (QN:aS×z1'->G (List (z1'))) (Z0:aS×z1'->G Int) (xH:z1'×Int->G Bool) (aqP:Option fu->G (z1')) (Kd:bL×Int->G ((Int×Int)×Int)) (Ke:bL×Int×Int×Int->G (Int×Int)) (Z1:z3'×Int->G (z3')) (Z2:z1'×Int×Unit->G (z1'×Unit)) (Cp:Int×Int->G (Int×Int)) (QO:Option fu×z1'->G (z4'×Bool)) (QP:Option fu×z4'->G Int) (Z3:aS×List (List (z1'))×z1'->G (List (Int×z1')×Bool)) (QQ:List (Int×z1')×z4'->G Int) (Z4:aS->G (z4')) (aqQ:bL×Int×Int->G (z1')) (Z5:z1'×Int->G Bool) (Co:z2'×List (List (Int×z1'×Int×Int))×Int×z2'->G Int) (Z6:List (Int×z1')×z4'->G Bool) (aqR:z1'×Int->G (z1')) (QR:Option fu×z1'->G Bool) (Z7:aS×z1'->G Bool) (Kk:Option fu×z1'->G Int) (Z8:(Int×z1')×z4'->G (List (z4'))) (Kf:bL×Int×Int×Int->G (Int×Int)) (sb:Int×Int×Int->G Bool) (zU:Int->G Bool) (Z9:z1'×(Int->G Bool)->G Bool) (QS:Int->G Bool) (Kb:z1'×(Int->G Bool)->G Bool) (aqS:List lZ×(Int×Int×Int×Int×z1'->G Bool)->G Bool) (aqT:List jQ×(z1'×(Int×Int)×Int×Int×Int->G Bool)->G Bool) (aqU:z4'×(Int×Int×Int->G Bool)->G Bool) (aqV:(Int×Int×Int×Int×z1')×Option bL->G Bool) (aqW:(Int×Int×Int)×Option bL->G Bool) (aqX:z1'×(Int×Int)×Int×Int×Int->G Bool) (aqY:Int->G Bool) (aqZ:Int×Option bL×Option (Int×Int×Int×Int×z1')->G Bool) (aIS:List lZ×(Int×Int×Int×Int×z1'->G Bool)->G Int) (aIT:List jQ×(z1'×(Int×Int)×Int×Int×Int->G Bool)->G Int) (aIU:z4'×(Int×Int×Int->G Bool)->G Int) (QT:Option fu×(Int×Int)×Int×Int×Int->G Bool) (Z_:Option fu×z4'×Int×z3'×z1'×Unit->G (Bool×z3'×z1'×Unit)) (Z':(z1'×(Int×Int)×Int×Int×Int)×Int×Int×Int×Int×z1'->G Int) (Kl:Option fu×z1'×Int×Nat×(Nat×(List (z1')->Prop)×List (z1')×Bool)×Unit->G (Bool×(Nat×(List (z1')->Prop)×List (z1')×Bool)×Unit)) (zS:z1'×Int->G Bool)
def aaa(x:aS):G (Int×Int):=
 ao (aqG (x,true)) λy=>mpure y
def aab(aq0:Option fu->Prop)(aq1:Option fu->List (z1'))(QO:Option fu×z1'->G (z4'×Bool))(aq2:Option fu×z4'->G Bool)(QP:Option fu×z4'->G Int)(x:aS):G (Int×Int):=
 ao (Ki (x,true)) λy=>aG (y.2≠0) (mpure (0,y.2)) (ad (aq0 y.1) (ao (kY (λA (y:z1')=>ao (ao (QO (A.1,y)) (λb8=>b3 (!(!b8.2)) (aq2 (A.1,b8.1)) false λdZ=>bN (!b8.2||!dZ) (mpure (dQ.normal,A.1,A.2.1,())) (ao (QP (A.1,b8.1)) (λhP=>bN (decide (A.2.1=-1)||py hP A.2.1) (mpure (dQ.normal,A.1,hP,())) (mpure (dQ.normal,A.1,A.2.1,())))))) λp=>mpure (p.1,p.2.1,p.2.2.1,())) (aq1 y.1) (y.1,-1,())) (λp=>letI b:=decide (p.2.2.1=-1);B0 (bN b (mpure (0,3)) (mpure (p.2.2.1,0))) (λid=>if id=0 then bN b (mpure (0,3)) (mpure (p.2.2.1,0)) else eu) eu p.1)))
def aac(x:aS×Int):G (z1'×Int):=
 letI c:=Ki (x.1,eS (ZX x));bT (ZX x) (bT c (aG ((G.val c (none,0)).2≠0) (mpure ([],(G.val c (none,0)).2)) (ao (Z2 ([-1],aB x.1.2.2.2.1,())) (λy=>bj (λA=>letI e:=A.2.2.2;letI d:=List.set e.2.2.1 A.1.toNat e.1;aG (e.1<A.2.2.1) (b1 (a6 A.1 e.2.2.1 (ao (QR (A.2.1,d)) (λy=>bN y (cM e.2.1 (ay (A.1,A.2.1,A.2.2.1,e.1,e.2.1++[e.1],d,()))) (ay (A.1,A.2.1,A.2.2.1,e.1,e.2.1,d,()))))) (λA=>ay (A.1,A.2.1,A.2.2.1,aQ A.2.2.2.1,A.2.2.2.2.1,A.2.2.2.2.2.1,()))) (a7 (e.2.1,()))) (x.2,(G.val c (none,0)).1,aB x.1.2.2.1,0,[],y.1,()) λA=>mpure (A.1,0)))))
def aad(x:aS×z1'):G Bool:=
 bj (λA=>letI s:=A.2.1;letI p:=eM (aL A.1 s (0:Int)) (-1);letI o:=aqJ (A.2.2.1,aL A.1 s 0);letI l:=p=true;letI u:=l->l/\True/\True;cR s A.1 (b1 (a6 s A.1 (ad (l->(l/\l)/\(0<=s/\s<aB A.1)/\True) (ad u (ad (l->(l/\l/\True)/\o.et/\True) (ad u (ad (True/\(l->l)) (bN (p&&kJ o) (e9 (b_ false)) (dG (λA=>letI t:=A.2.2;letI q:=A.2.1;letI m:=decide (aL A.1 t.1 0=aL A.1 q 0);letI n:=m=true;aG (t.1<q) (a6 t.1 A.1 (a6 q A.1 (ad (n->(n/\n)/\(0<=q/\q<aB A.1)/\True) (ad (n->n/\True/\True) (ad (n->(n/\True)/\True/\True) (ad (True/\(n->n)) (bN (m&&eM (aL A.1 q (0:Int)) (-1)) (e9 (e9 (b_ false))) (ay (A.1,q,aQ t.1,t.2.1,()))))))))) (a7 (A.1,q,t.2.1,()))) (A.1,s,0,A.2.2.1,()))))))))) (λA=>ay (A.1,aQ A.2.1,A.2.2.1,()))) (a7 (A.1,A.2.2.1,()))) (x.2,0,x.1,()) λA=>mpure (decide (aB A.1=aB A.2.1.2.2.2.1))
def aae(x:aS):G Int:=
 ao (Cq x.1) λy=>aG (y≠0) (mpure y) (ao (aqH x) (λy=>if !y then mpure 80 else mpure 0))
def aaf(x:aS):G Int:=
 letI h:=eM (aB x.2.1) (aB x.1.1)||cN (aB x.2.2.1) 8||cN (aB x.2.2.2.1) 6||cN (aB x.2.2.2.2.1) 8;ao (zR x.1) λy=>if eM y 0 then mpure y else b3 (!h) (oI (x.2.2.2.2.2,0,99)) false λy=>bN (h||!y) (mpure 80) (bj (λA=>dn A.1 A.2.1.2.1 (ao (oI (aL A.2.1.2.1 A.1 0,0,10)) (λy=>bN (!y) (b_ 80) (ay (aQ A.1,A.2.1,())))) (a7 (A.2.1,()))) (0,x,()) (λA=>bj (λA=>letI j:=aqK (A.2.1,aL A.2.1.2.2.1 A.1 (0,0,0,0,[]));dn A.1 A.2.1.2.2.1 (bT j (bN (kJ j) (b_ 80) (ay (aQ A.1,A.2.1,())))) (a7 (A.2.1,()))) (0,A.1,()) λA=>bj (λA=>dn A.1 A.2.1.2.2.2.1 (ao (aqL (aL A.2.1.2.2.2.1 A.1 ([],(0,0),0,0,0))) (λy=>bN (!y) (b_ 80) (ay (aQ A.1,A.2.1,())))) (a7 (A.2.1,()))) (0,A.1,()) λA=>bj (λA=>letI i:=aL A.2.1.2.2.2.2.1 A.1 (0,0,0);dn A.1 A.2.1.2.2.2.2.1 (ao (oI (i.1,0,99)) (λy=>b3 (!(!y)) (oI (i.2.1,0,cu (aB A.2.1.1.1) 1)) false λb8=>b3 (!(!y||!b8)) (oI (i.2.2,1,10)) false λdZ=>bN (!y||!b8||!dZ) (b_ 80) (ay (aQ A.1,A.2.1,())))) (a7 ())) (0,A.1,()) λA=>mpure 0))
def aag(x:aS×Int):G (z1'×Int):=
 letI g:=aqN x;letI c:=QL (x.1,eS g);bT g (bT c (aG (G.val c (0:Int)≠0) (mpure ([],fY c)) (ao (F6 x.1) (λy=>bj (λA=>letI e:=A.2.2;letI f:=aqO (e.2.1,A.1,e.1);letI d:=QM (e.2.1,A.2.1,G.val f []);cR e.1 e.2.1.2.2.1 (b1 (bT f (bT d (bN (eS d) (cM e.2.2.1 (ay (A.1,A.2.1,e.1,e.2.1,e.2.2.1++[e.1],()))) (ay (A.1,A.2.1,e.1,e.2.1,e.2.2.1,()))))) (λA=>ay (A.1,A.2.1,aQ A.2.2.1,A.2.2.2.1,A.2.2.2.2.1,()))) (a7 (e.2.2.1,()))) (x.2,y,0,x.1,[],()) λA=>mpure (A.1,0)))))
def aah(x:aS):G (Int×Int):=
 ao (QI x) λy=>aG (y≠0) (mpure (0,y)) (ao (F6 x) (λy=>ao (QN (x,[])) λb8=>bj (λA=>letI j:=A.2.2;letI m:=j.2.1;letI l:=QM (j.2.2.1,A.2.1,aL j.1 m []);letI i:=Z0 (j.2.2.1,aL j.1 m []);letI h:=cN (fY i) A.1;letI k:=h=true;cR m j.1 (b1 (a6 m j.1 (bT i (ad (k->(k/\k)/\(0<=m/\m<aB j.1)/\True) (ad (k->k/\True/\True) (ad (k->(k/\k/\k/\True)/\l.et/\True) (ad (True/\(k->k)) (if h&&eS l then ay (fY i,A.2.1,j.1,m,j.2.2.1,()) else ay (A.1,A.2.1,j.1,m,j.2.2.1,())))))))) (λA=>ay (A.1,A.2.1,A.2.2.1,aQ A.2.2.2.1,A.2.2.2.2.1,()))) (a7 (A.1,()))) (0,y,b8,0,x,()) λA=>mpure (A.1,0)))
def aai(x:aS):G (Int×Int):=
 ao (QI x) λy=>aG (y≠0) (mpure (0,y)) (ao (F6 x) (λy=>ao (QN (x,[])) λb8=>bj (λA=>letI g:=A.2.2;letI h:=g.2.1;letI f:=aqM (g.2.2.1,A.2.1,aL g.1 h []);cR h g.1 (b1 (a6 h g.1 (ao (xH (aL g.1 h [],-1)) (λy=>bN y (ay (A.1,A.2.1,g.1,h,g.2.2.1,())) (a6 h g.1 (bT f (bN (decide (G.val f (0:Int)>=0)&&(py A.1 0||py (fY f) A.1)) (ay (fY f,A.2.1,g.1,h,g.2.2.1,())) (ay (A.1,A.2.1,g.1,h,g.2.2.1,())))))))) (λA=>ay (A.1,A.2.1,A.2.2.1,aQ A.2.2.2.1,A.2.2.2.2.1,()))) (a7 (A.1,()))) (-1,y,b8,0,x,()) λA=>aG (A.1<0) (mpure (0,3)) (mpure (A.1,0))))
def aaj(x:aS×z1'):G (Int×Int):=
 letI a:=QL (x.1,eS (QK x));bT (QK x) (bT a (aG (G.val a (0:Int)≠0) (mpure (0,fY a)) (ao (ZZ x) (λy=>if !y then mpure (0,3) else ao (Z0 x) λy=>mpure (y,0)))))
def aak(x:aS×z1'):G (Int×Int):=
 letI b:=Ki (x.1,eS (Z7 x));letI a:=G.val b (none,0);bT (Z7 x) (bT b (aG (a.2≠0) (mpure (0,a.2)) (ao (QR (a.1,x.2)) (λy=>if !y then mpure (0,3) else ao (Kk (a.1,x.2)) λy=>mpure (y,0)))))
def aal(x:aS×z1'):G Bool:=
 letI a:=QM (x.1,G.val (F6 x.1) [],x.2);bT (F6 x.1) (bT a (mpure (eS a)))
def aam(x:aS):G Int:=
 ao (QL (x,true)) λy=>mpure y
def aan(x:aS×Bool):G (Int×Int):=
 ao (Ki x) λy=>aG (y.2≠0) (mpure (0,y.2)) (ao (aqP y.1) (λb8=>ao (Kk (y.1,b8)) λy=>mpure (y,0)))
def QU(x:aS×Bool):G (Option fu×Int):=
 letI z2:=x.1.1.2;letI mj:=x.1.2.2;ao (F5 x.1) λy=>aG (y≠0) (mpure (none,y)) (if !x.2 then mpure (none,1) else b1 (aG (aB x.1.2.1 > 0) (ao (Kd (x.1.1,0)) (λy=>aG (y.2≠0) (hU (none,y.2)) (ay (x.1,[],x.1.1.1,z2.1,z2.2.1,z2.2.2,x.1.2.1,mj.1,mj.2.1,mj.2.2.1,mj.2.2.2,())))) (ay (x.1,[],x.1.1.1,z2.1,z2.2.1,z2.2.2,x.1.2.1,mj.1,mj.2.1,mj.2.2.1,mj.2.2.2,()))) λA=>letI a_:=A.2.2.2.2.2;bj (λA=>letI s2:=A.2.2;letI lg:=s2.2.2.2.2;letI ee:=lg.2.2.2;aG (A.2.1<A.1) (bj (λA=>letI p2:=A.2.2.2;letI c2:=p2.2.2;letI t1:=c2.2.2.2;letI d2:=t1.2.2.2.2;letI d3:=d2.2.2;aG (c2.1<p2.2.1) (b1 (a6 c2.1 p2.1 (dG (λA=>letI a3:=A.2.2;letI eX:=a3.2.2;letI kx:=eX.2.2;letI b4:=kx.2.2;letI cD:=b4.2.2.1;letI i2:=b4.2.2.2;letI v1:=i2.2.2.2;letI dW:=v1.2.2.2;aG (b4.1<kx.2.1) (b1 (ao (Ke (b4.2.1.1,A.1,A.2.1,b4.1)) (λy=>aG (y.1=1) (ad True (ad (True/\True/\True) (ad True (ay (A.1,A.2.1,a3.1,a3.2.1,eX.1,eX.2.1,kx.1,kx.2.1,b4.1,b4.2.1,xG cD (A.1,A.2.1,b4.1) (aQ ((gC (λp=>bU A.1 p.1.1&&(bU A.2.1 p.1.2.1&&bU b4.1 p.1.2.2)) cD).getD 0)),i2.1,i2.2.1,i2.2.2.1,v1.1,v1.2.1,v1.2.2.1,dW.1,dW.2.1,dW.2.2.1,()))))) (ay (A.1,A.2.1,a3.1,a3.2.1,eX.1,eX.2.1,kx.1,kx.2.1,b4.1,b4.2.1,cD,i2.1,i2.2.1,i2.2.2.1,v1.1,v1.2.1,v1.2.2.1,dW.1,dW.2.1,dW.2.2.1,())))) (λA=>letI t2:=A.2.2.2.2.2;letI kD:=t2.2.2.2.2;letI nB:=kD.2.2.2.2.2;ay (A.1,A.2.1,A.2.2.1,A.2.2.2.1,A.2.2.2.2.1,t2.1,t2.2.1,t2.2.2.1,aQ t2.2.2.2.1,kD.1,kD.2.1,kD.2.2.1,kD.2.2.2.1,kD.2.2.2.2.1,nB.1,nB.2.1,nB.2.2.1,nB.2.2.2.1,nB.2.2.2.2.1,nB.2.2.2.2.2.1,()))) (a7 (A.1,a3.1,a3.2.1,eX.1,eX.2.1,kx.1,b4.2.1,cD,i2.1,i2.2.1,i2.2.2.1,v1.1,v1.2.1,v1.2.2.1,dW.1,dW.2.1,dW.2.2.1,()))) (A.1,c2.1,A.2.1,A.2.2.1,p2.1,p2.2.1,c2.1,aB (aL p2.1 c2.1 []),0,c2.2.1,c2.2.2.1,t1.1,t1.2.1,t1.2.2.1,t1.2.2.2.1,d2.1,d2.2.1,d3.1,d3.2.1,d3.2.2.1,()))) (λA=>letI v2:=A.2.2.2.2;letI a2:=v2.2.2.2.2;letI dM:=a2.2.2.2.2;ay (A.1,A.2.1,A.2.2.1,A.2.2.2.1,v2.1,aQ v2.2.1,v2.2.2.1,v2.2.2.2.1,a2.1,a2.2.1,a2.2.2.1,a2.2.2.2.1,dM.1,dM.2.1,dM.2.2.1,dM.2.2.2.1,dM.2.2.2.2.1,()))) (a7 (A.2.1,A.2.2.1,c2.2.1,c2.2.2.1,t1.1,t1.2.1,t1.2.2.1,t1.2.2.2.1,d2.1,d2.2.1,d3.1,d3.2.1,d3.2.2.1,()))) (A.2.1,A.1,A.2.1,s2.1.1.2.1,aB s2.1.1.2.1,0,s2.1,s2.2.1,s2.2.2.1,s2.2.2.2.1,lg.1,lg.2.1,lg.2.2.1,ee.1,ee.2.1,ee.2.2.1,ee.2.2.2.1,()) (λA=>letI f3:=A.2.2.2;letI aU:=f3.2.2.2;letI g3:=aU.2.2.2;ay (A.1,aQ A.2.1,A.2.2.1,f3.1,f3.2.1,f3.2.2.1,aU.1,aU.2.1,aU.2.2.1,g3.1,g3.2.1,g3.2.2.1,g3.2.2.2.1,()))) (a7 (s2.1,s2.2.1,s2.2.2.1,s2.2.2.2.1,lg.1,lg.2.1,lg.2.2.1,ee.1,ee.2.1,ee.2.2.1,ee.2.2.2.1,()))) (aB A.1.2.1,0,A.1,A.2.1,A.2.2.1,A.2.2.2.1,A.2.2.2.2.1,a_.1,a_.2.1,a_.2.2.1,a_.2.2.2.1,a_.2.2.2.2.1,a_.2.2.2.2.2.1,()) λA=>letI jd:=A.2.2.2.2.2;bj (λA=>letI rR:=A.2.2;letI f2:=rR.2.2;letI iQ:=Z1 ([(rR.1,0)],aL A.1 rR.1 0);letI ff:=f2.2.2.2.2;letI gf:=ff.2.2.2.2;aG (rR.1<A.2.1) (a6 rR.1 A.1 (ad True (bT iQ (ad (bW (Add.add gf.2.2.1.length (G.val iQ []).length)) (ad True (ay (A.1,A.2.1,aQ rR.1,rR.2.1,f2.1,f2.2.1,f2.2.2.1,f2.2.2.2.1,ff.1,ff.2.1,ff.2.2.1,ff.2.2.2.1,gf.1,gf.2.1,gf.2.2.1++G.val iQ [],()))))))) (a7 (rR.2.1,f2.1,f2.2.1,f2.2.2.1,f2.2.2.2.1,ff.1,ff.2.1,ff.2.2.1,ff.2.2.2.1,gf.1,gf.2.1,gf.2.2.1,()))) (A.1.2.1,aB A.1.2.1,0,A.1,A.2.1,A.2.2.1,A.2.2.2.1,A.2.2.2.2.1,jd.1,jd.2.1,jd.2.2.1,jd.2.2.2.1,jd.2.2.2.2.1,jd.2.2.2.2.2.1,[],()) λA=>letI eB:=A.2.2.2.2.2;letI ai:=eB.2.2.2;bj (λA=>letI M:=A.2.2;letI c3:=M.2.2.2;letI cL:=aL A.1 M.1 (0,0,0);letI cj:=c3.2.2;letI lh:=cj.2.2.2.2;letI s1:=Z1 ([(cL.2.1,cL.1)],cL.2.2);aG (M.1<A.2.1) (a6 M.1 A.1 (ad True (bT s1 (ad (bW (Add.add lh.2.2.1.length (G.val s1 []).length)) (ad True (ay (A.1,A.2.1,aQ M.1,M.2.1,M.2.2.1,c3.1,c3.2.1,cj.1,cj.2.1,cj.2.2.1,cj.2.2.2.1,lh.1,lh.2.1,lh.2.2.1++G.val s1 [],()))))))) (a7 (M.2.1,M.2.2.1,c3.1,c3.2.1,cj.1,cj.2.1,cj.2.2.1,cj.2.2.2.1,lh.1,lh.2.1,lh.2.2.1,()))) (A.1.2.2.2.2.1,aB A.1.2.2.2.2.1,0,A.2.1,A.2.2.1,A.2.2.2.1,A.2.2.2.2.1,eB.1,eB.2.1,eB.2.2.1,ai.1,ai.2.1,ai.2.2.1,ai.2.2.2.1,()) λA=>letI m2:=A.2.2.2.2.2;mpure (some (((A.2.1,A.2.2.1,A.2.2.2.1,A.2.2.2.2.1),m2.1,m2.2.1,m2.2.2.1,m2.2.2.2.1,m2.2.2.2.2.1),m2.2.2.2.2.2.1,A.1),0))
def QV(x:Option fu×z1'):G (z4'×Bool):=
 bj (λA=>letI z:=A.1.isSome;letI u:=A.2.1;letI s:=A.2.2;letI o:=s.2.1;letI m:=(A.1.getD ((([],[],0,[]),[],[],[],[],0),[],[])).1.2.2;letI q:=aL m.2.1 o ([],(0,0),0,0,0);letI p:=aL m.1 (aL u o 0) (0,0,0,0,[]);aG (o<s.1) (b1 (a6 o u (aG (aL u o (0:Int)<0) (ay (A.1,u,s.1,o,s.2.2.1,())) (ad z (a6 o m.2.1 (ad z (a6 (aL u o 0) m.1 (b1 (ao (Z' (q,p)) (λy=>aG (y=0) (e9 (e9 (b_ ([],false)))) (aG (y=2) (ad z (ay (A.1,cu q.2.2.2.1 m.2.2.2,u,s.1,o,s.2.2.1,p,()))) (ay (A.1,q.2.2.2.1,u,s.1,o,s.2.2.1,p,()))))) (λA=>letI t:=A.2.2.2.2;aG (A.2.1<0) (e9 (b_ ([],false))) (dG (λA=>letI v:=A.2.2.2;letI n:=v.2.2;letI w:=n.2.2;aG (w.1<n.2.1) (a6 w.1 n.1 (cM w.2.1 (ay (A.1,A.2.1,A.2.2.1,v.1,v.2.1,n.1,n.2.1,aQ w.1,w.2.1++[(w.2.2.1.2.2.2.1,aL n.1 w.1 0,A.2.1)],w.2.2.1,())))) (a7 (A.1,A.2.2.1,v.1,v.2.1,w.2.1,()))) (A.1,A.2.1,A.2.2.1,A.2.2.2.1,t.1,t.2.2.1.2.2.2.2,aB t.2.2.1.2.2.2.2,0,t.2.1,t.2.2.1,())))))))))) (λA=>ay (A.1,A.2.1,A.2.2.1,aQ A.2.2.2.1,A.2.2.2.2.1,()))) (a7 (s.2.2.1,()))) (x.1,x.2,aB x.2,0,[],()) λA=>mpure (A.1,true)
def QW(x:Option fu×z4'):G Bool:=
 bj (λA=>letI d:=A.2.2.2.1;aG (d<A.2.2.1) (b1 (a6 d A.2.1 (b1 (ad A.1.isSome (dG (λA=>letI c:=A.2.2.2.2;aG (c.2.2.1<c.2.1) (b3 (!A.2.1) (QT (A.1,(c.2.2.1,0),c.2.2.2.1)) false (λy=>ay (A.1,A.2.1||y,A.2.2.1,A.2.2.2.1,c.1,c.2.1,aQ c.2.2.1,c.2.2.2.1,()))) (a7 (A.1,A.2.1,A.2.2.1,A.2.2.2.1,c.1,()))) (A.1,false,A.2.1,A.2.2.1,d,aB (A.1.getD ((([],[],0,[]),[],[],[],[],0),[],[])).1.2.1,0,aL A.2.1 d (0,0,0),()))) (λA=>if !A.2.1 then e9 (b_ false) else ay (A.1,A.2.2.1,A.2.2.2.1,A.2.2.2.2.1,())))) (λA=>ay (A.1,A.2.1,A.2.2.1,aQ A.2.2.2.1,()))) (a7 ())) (x.1,x.2,aB x.2,0,()) λA=>hO
def QX(x:Option fu×z4'):G Int:=
 ad x.1.isSome (ao (Z2 ([-1],aB (x.1.getD ((([],[],0,[]),[],[],[],[],0),[],[])).2.1,())) (λy=>bj (λA=>letI b:=A.2.2.2;aG (b.2.1<b.1) (b1 (ao (Z_ (A.1,A.2.1,b.2.1,[],b.2.2.1,())) (λy=>if !y.1 then ay (A.1,A.2.1,aQ A.2.2.1,b.1,b.2.1,y.2.2.1,()) else ay (A.1,A.2.1,A.2.2.1,b.1,b.2.1,y.2.2.1,()))) (λA=>ay (A.1,A.2.1,A.2.2.1,A.2.2.2.1,aQ A.2.2.2.2.1,A.2.2.2.2.2.1,()))) (a7 (A.2.2.1,()))) (x.1,x.2,0,aB x.2,0,y.1,()) λA=>mpure A.1))
def aao(x:aS×Int):G Bool:=
 ao (sb (x.2,0,cu (aB x.1.2.2.2.1) 1)) λy=>mpure y
def aq3(x:z1'×Int):G (z1'):=
 b1 (aG (x.2<0) (ad False (ad False (ay (x.1,x.2,())))) (ay (x.1,x.2,()))) λA=>ao (Cp (IntKind.wrap .u64 (aB A.1),IntKind.wrap .u64 A.2.1)) λy=>b1 (if cN y.1 0||cN y.2 9223372036854775807 then ad False (ad False (ay (A.1,y.2,()))) else ay (A.1,y.2,())) λA=>letI h:=IntKind.wrap .i64 A.2.1;letI m:=h.toNat;letI k:=A.1.take ((List.replicate m (0:Int)).length-0);ad (0<=h/\h=h/\bW m) (ad True (bj (λA=>letI l:=aB A.2.1;letI j:=l.toNat-A.1.toNat;letI i:=A.2.1.take A.1.toNat;aG (A.1<l) (ad (0<=A.1/\A.1<=l/\l<=l) (ad ((0:Int)<=0/\0<=A.1/\A.1<=l) (ad True (ay (e_ A.1 (Int.ofNat (if j<=i.length then j else i.length)),i++i.take j++A.2.1.drop (Add.add A.1.toNat (i.take j).length),()))))) (a7 (A.2.1,()))) (Int.ofNat (if (List.replicate m (0:Int)).length-0<=A.1.length then (List.replicate m (0:Int)).length-0 else A.1.length),[]++k++(List.replicate m (0:Int)).drop (Add.add 0 k.length),()) (λA=>mpure A.1)))
def aap(x:Option fu×z1'):G Bool:=
 ao (QO x) λy=>b3 y.2 (QP (x.1,y.1)) 0 λb8=>mpure (y.2&&bU b8 0)
def aaq(x:aS×Int):G Bool:=
 ao (oI (x.2,0,cu (aB x.1.2.2.1) 1)) λy=>mpure y
def aar(x:aS×List (List (z1'))×z1'):G Int:=
 ao (Z3 x) λy=>if !y.2 then mpure (-1) else ao (Z4 x.1) λb8=>ao (QQ (y.1,b8)) λy=>mpure y
def aas(x:aS):G (List (List (z1'))):=
 bj (λA=>letI h:=A.2.1.2.2.1;cR A.1 h (b1 (a6 A.1 h (bj (λA=>letI i:=A.2.2;letI g:=i.2.2;letI f:=aqQ (i.1.1,g.1.2.2.2.1,aL g.1.2.2.2.2 A.2.1 0);dn A.2.1 g.1.2.2.2.2 (bT f (cM g.2.1 (ay (A.1,aQ A.2.1,i.1,i.2.1,g.1,g.2.1++[G.val f []],())))) (a7 (A.1,i.1,i.2.1,g.2.1,()))) (A.1,0,A.2.1,A.2.2.1,aL h A.1 (0,0,0,0,[]),[],()) (λA=>cM A.2.2.1 (ay (A.1,A.2.1,A.2.2.1++[A.2.2.2.1],()))))) (λA=>ay (aQ A.1,A.2.1,A.2.2.1,()))) (a7 (A.2.2.1,()))) (0,x,[],()) λA=>mpure A.1
def aat(x:aS):G Bool:=
 letI j:=x.2.2.2;letI h:=decide (aB x.2.1=aB x.1.1);b3 h (Kb (x.2.1,aqY)) false λy=>letI i:=h&&!y&&hN (aB x.2.2.1) 8;b3 i (aqS (x.2.2.1,λiC=>aqV (iC,some x.1))) false λb8=>letI f:=i&&!b8&&hN (aB j.1) 6;b3 f (aqT (j.1,aqX)) false λdZ=>letI g:=f&&!dZ&&hN (aB j.2.1) 8;b3 g (aqU (j.2.1,λiC=>aqW (iC,some x.1))) false λhP=>b3 (g&&!hP) (QS j.2.2) false λmZ=>mpure (g&&!hP&&mZ)
def aq4(x:Int×Int×Int):G Bool:=
 mpure (hN x.2.1 x.1&&hN x.1 x.2.2)
def aau(x:aS×Int×Int×Int×Int×z1'):G Bool:=
 letI e:=x.2.2.2.2;letI d:=Z5 (e.2,cu (aB (aL x.1.1.2.1 e.1 [])) 1);ao (oI (x.2.1,0,99)) λy=>b3 (!(!y)) (oI (x.2.2.1,0,99)) false λb8=>b3 (!(!y||!b8)) (oI (x.2.2.2.1,0,99)) false λdZ=>b3 (!(!y||!b8||!dZ)) (oI (e.1,0,cu (aB x.1.1.2.1) 1)) false λhP=>bN (!y||!b8||!dZ||!hP) hy (a6 e.1 x.1.1.2.1 (bT d (mpure (eS d))))
def aav(x:z1'×(Int×Int)×Int×Int×Int):G Bool:=
 ao (oI (aB x.1,1,8)) λy=>b3 y (Z5 (x.1,99)) false λb8=>letI b:=y&&b8&&hN 0 x.2.1.1&&hN x.2.1.1 x.2.1.2&&hN x.2.1.2 99;b3 b (oI (x.2.2.1,0,99)) false λdZ=>b3 (b&&dZ) (oI (x.2.2.2.1,0,99)) false λhP=>b3 (b&&dZ&&hP) (oI (x.2.2.2.2,0,100000)) false λmZ=>mpure (b&&dZ&&hP&&mZ)
def aaw(x:aS×Int):G Bool:=
 ao (sb (x.2,0,cu (aB x.1.2.2.1) 1)) λy=>mpure y
def aax(x:(z1'×(Int×Int)×Int×Int×Int)×Int×Int×Int×Int×z1'):G Int:=
 ao (zS (x.1.1,x.2.1)) λy=>b3 (!(!y)) (sb (x.2.2.1,x.1.2.1)) false λb8=>if !y||!b8 then mpure 0 else aG (x.2.2.2.1=x.1.2.2.1) (mpure 1) (aG (x.2.2.2.1=0) (mpure 2) (mpure 0))
def aay(x:aS×Int):G Bool:=
 ao (oI (x.2,0,cu (aB x.1.2.2.2.1) 1)) λy=>mpure y
def aaz(x:(z1'×(Int×Int)×Int×Int×Int)×Int×Int×Int×Int×z1'):G Int:=
 bj (λA=>letI g:=A.2.2;letI e:=(!A.1)=true;letI f:=e->e/\True/\True;cR A.2.1 g.1.1 (ad f (ad (e->(e/\e)/\(0<=A.2.1/\A.2.1<aB g.1.1)/\True) (ad f (ad f (ad (e->(e/\e)/\True/\True) (ad (True/\(A.1=false->e)) (ay (A.1||decide (aL g.1.1 A.2.1 0=g.2.1.1),aQ A.2.1,g.1,g.2.1,())))))))) (a7 (A.1,g.1,g.2.1,()))) (false,0,x.1,x.2,()) λA=>b3 (!(!A.1)) (oI (A.2.2.1.2.1,A.2.1.2.1)) false λy=>if !A.1||!y then mpure 0 else aG (A.2.2.1.2.2.1=A.2.1.2.2.1) (mpure 1) (aG (A.2.2.1.2.2.1=0) (mpure 2) (mpure 0))
def aaA(x:aS×Bool):G Int:=
 ao (zT x.1) λy=>aG (y≠0) (mpure y) (if !x.2 then mpure 1 else ao (Co x.1.1) λy=>mpure y)
def aaB(x:aS×List (List (z1'))×z1'):G Bool:=
 ao (Z3 x) λy=>b3 y.2 (Z4 x.1) [] λb8=>b3 y.2 (Z6 (y.1,b8)) false λdZ=>mpure (y.2&&dZ)
def aaC(x:aS×Int×Int):G (z1'):=
 bj (λA=>letI b:=A.2.2;cR b.1 b.2.1.2.2.2.1 (cM b.2.2.1 (ay (A.1,A.2.1,aQ b.1,b.2.1,b.2.2.1++[-1],()))) (a7 (A.1,A.2.1,b.2.2.1,()))) (x.2.1,x.2.2,0,x.1,[],()) λA=>a6 A.1 A.2.2.1 (mpure (List.set A.2.2.1 A.1.toNat A.2.1))
def QY(x:aS×z1'):G (List (z1')):=
 aG (aB x.2=aB x.1.2.2.2.1) (mpure [x.2]) (bj (λA=>letI m:=A.2.2;letI s:=xH (A.1,m.1);letI q:=m.2.1.2.2;letI p:=decide (m.1=-1);letI n:=ZY (aL q.2.1 A.2.1 ([],(0,0),0,0,0),aL q.1 m.1 (0,0,0,0,[]));letI k:=(!p)=true;letI o:=k->k/\True/\True;letI j:=eM (G.val n (0:Int)) 0;letI l:=(!p&&j)=true;cR m.1 q.1 (b1 (dN A.1 (cM ([]++A.1) (ad o (ad (k->(k/\k)/\(0<=A.2.1/\A.2.1<aB q.2.1)/\True) (ad o (ad o (ad (k->(k/\k)/\(0<=m.1/\m.1<aB q.1)/\True) (ad o (ad (k->(k/\k/\True)/\n.et/\True) (ad (k->(k/\True)/\True/\True) (ad (k->True/\True/\k) (ad (l->(l/\l/\True)/\s.et/\True) (ad (l->l/\True/\True) (ad (k->(k/\(j=true->l))/\True/\True) (ad (True/\(p=false->k)) (if p||j&&kJ s then ao (QN (m.2.1,[]++A.1++[m.1])) λy=>ad (bW (Add.add m.2.2.1.length y.length)) (ay (A.1,A.2.1,m.1,m.2.1,m.2.2.1++y,())) else ay (A.1,A.2.1,m.1,m.2.1,m.2.2.1,()))))))))))))))))) (λA=>ay (A.1,A.2.1,aQ A.2.2.1,A.2.2.2.1,A.2.2.2.2.1,()))) (a7 (m.2.2.1,()))) (x.2,aB x.2,-1,x.1,[],()) (λA=>mpure A.1))
def aaD(x:aS×z1'):G Int:=
 bj (λA=>letI d:=A.2.2;cR d.1 A.1 (b1 (a6 d.1 A.1 (aG (aL A.1 d.1 (0:Int)>=0) (a6 d.1 d.2.1.2.2.2.1 (ay (A.1,e_ A.2.1 (aL d.2.1.2.2.2.1 d.1 ([],(0,0),0,0,0)).2.2.2.2,d.1,d.2.1,()))) (ay (A.1,A.2.1,d.1,d.2.1,())))) (λA=>ay (A.1,A.2.1,e_ A.2.2.1 1,A.2.2.2.1,()))) (a7 (A.2.1,()))) (x.2,0,0,x.1,()) λA=>mpure A.1
def QZ(aq5:Option fu->Prop)(aq6:Option fu->List (z1'))(x:Option fu):G (z1'):=
 ad x.isSome (ao (aqR ([-1],aB (x.getD ((([],[],0,[]),[],[],[],[],0),[],[])).1.2.2.2.1)) (λy=>ad (aq5 x) (ao (kY (λA (y:z1')=>letI f:=QR (A.1,y);letI e:=Kk (A.1,y);letI d:=Kk (A.1,A.2.1);letI c:=decide (fY e > fY d);letI g:=c=true;ao (bT e (bT d (ad (g->(g/\g/\True)/\f.et/\True) (ad (True/\(g->g)) (if c&&eS f then mpure (dQ.normal,A.1,y,()) else mpure (dQ.normal,A.1,A.2.1,())))))) λp=>mpure (p.1,p.2.1,p.2.2.1,())) (aq6 x) (x,y,())) (λp=>B0 (mpure p.2.2.1) (λid=>if id=0 then mpure p.2.2.1 else eu) eu p.1))))
def aaE(x:aS×z1'):G Bool:=
 bj (λA=>letI h:=A.2.2.2;letI g:=decide (aL A.2.1 h.1 (0:Int)≠-1);aG (h.1<A.2.2.1) (a6 h.1 A.2.1 (b3 g (aqI (h.2.1,aL A.2.1 h.1 0)) false (λy=>letI i:=(g&&!(!y))=true;ad (i->(i/\True/\i)/\((0:Int)<=0/\0<=h.1/\h.1<=aB A.1)/\True) (b3 (g&&!(!y)) (zS (A.1.take h.1.toNat,aL A.2.1 h.1 0)) false (λb8=>if g&&(!y||b8) then b_ false else ay (A.1,A.2.1,A.2.2.1,aQ h.1,h.2.1,())))))) (a7 (A.1,h.2.1,()))) (x.2,x.2,aB x.2,0,x.1,()) λA=>mpure (decide (aB A.1=aB A.2.1.2.2.2.1))
def Q0(x:Option fu×z1'):G Int:=
 bj (λA=>letI f:=A.2.2;letI e:=(A.1.getD ((([],[],0,[]),[],[],[],[],0),[],[])).1.2.2.2.1;letI d:=f.2.2.1;aG (d<f.2.1) (b1 (a6 d f.1 (aG (aL f.1 d (0:Int)≠-1) (ad A.1.isSome (a6 d e (ay (A.1,e_ A.2.1 (aL e d ([],(0,0),0,0,0)).2.2.2.2,f.1,f.2.1,d,())))) (ay (A.1,A.2.1,f.1,f.2.1,d,())))) (λA=>ay (A.1,A.2.1,A.2.2.1,A.2.2.2.1,e_ A.2.2.2.2.1 1,()))) (a7 (A.2.1,()))) (x.1,0,x.2,aB x.2,0,()) λA=>mpure A.1
def aq7(x:z3'×Int):G (z3'):=
 b1 (aG (x.2<0) (ad False (ad False (ay (x.1,x.2,())))) (ay (x.1,x.2,()))) λA=>ao (Cp (IntKind.wrap .u64 (aB A.1),IntKind.wrap .u64 A.2.1)) λy=>b1 (if cN y.1 0||cN y.2 9223372036854775807 then ad False (ad False (ay (A.1,y.2,()))) else ay (A.1,y.2,())) λA=>letI h:=IntKind.wrap .i64 A.2.1;letI m:=h.toNat;letI k:=A.1.take ((List.replicate m ((0:Int),(0:Int))).length-0);ad (0<=h/\h=h/\bW m) (ad True (bj (λA=>letI l:=aB A.2.1;letI j:=l.toNat-A.1.toNat;letI i:=A.2.1.take A.1.toNat;aG (A.1<l) (ad (0<=A.1/\A.1<=l/\l<=l) (ad ((0:Int)<=0/\0<=A.1/\A.1<=l) (ad True (ay (e_ A.1 (Int.ofNat (if j<=i.length then j else i.length)),i++i.take j++A.2.1.drop (Add.add A.1.toNat (i.take j).length),()))))) (a7 (A.2.1,()))) (Int.ofNat (if (List.replicate m ((0:Int),(0:Int))).length-0<=A.1.length then (List.replicate m ((0:Int),(0:Int))).length-0 else A.1.length),[]++k++(List.replicate m ((0:Int),(0:Int))).drop (Add.add 0 k.length),()) (λA=>mpure A.1)))
def aaF(x:Option fu×(Int×Int)×Int×Int×Int):G Bool:=
 letI f:=hN x.2.1.2 x.2.2.2.2;letI d:=f=true;letI e:=d->d/\True/\True;ad (d->d/\x.1.isSome/\True) (ad e (ad e (ad e (ad e (ad e (ad (d->(d/\d/\d/\True)/\True/\True) (ad (d->(d/\d)/\True/\True) (ad (d->(d/\True)/\True/\True) (ad (True/\(d->d)) (mpure (f&&cN ((gC (λp=>bU x.2.1.1 p.1.1&&(bU x.2.2.1 p.1.2.1&&bU x.2.2.2.1 p.1.2.2)) (x.1.getD ((([],[],0,[]),[],[],[],[],0),[],[])).2.2).getD (0:Int)) 0)))))))))))
def aq8(x:Int×Int×Int):G Bool:=
 mpure (hN x.2.1 x.1&&hN x.1 x.2.2)
def Q1(x:aS×List (List (z1'))×z1'):G (List (Int×z1')×Bool):=
 bj (λA=>letI t:=A.2.1;letI n:=A.2.2;letI u:=n.2.1.2.2;letI q:=aL u.2.1 n.1 ([],(0,0),0,0,0);letI o:=aL u.1 (aL t n.1 0) (0,0,0,0,[]);cR n.1 t (b1 (a6 n.1 t (aG (aL t n.1 (0:Int)<0) (ay (A.1,t,n.1,n.2.1,n.2.2.1,())) (a6 n.1 u.2.1 (a6 n.1 t (a6 (aL t n.1 0) u.1 (b1 (ao (ZY (q,o)) (λy=>aG (y=0) (e9 (e9 (b_ ([],false)))) (aG (y=2) (ay (A.1,t,n.1,cu q.2.2.2.1 u.2.2.2,n.2.1,n.2.2.1,o,())) (ay (A.1,t,n.1,q.2.2.2.1,n.2.1,n.2.2.1,o,()))))) (λA=>letI v:=A.2.2.2;aG (v.1<0) (e9 (b_ ([],false))) (dG (λA=>letI w:=A.2.2;letI s:=aL A.2.1 w.1 0;letI p:=w.2.2;cR p.1 p.2.2.2.1.2.2.2.2 (a6 w.1 A.2.1 (a6 s A.1 (a6 p.1 (aL A.1 s []) (cM p.2.2.1 (ay (A.1,A.2.1,w.1,w.2.1,aQ p.1,p.2.1,p.2.2.1++[(w.2.1,aL (aL A.1 s []) p.1 [])],p.2.2.2.1,())))))) (a7 (A.1,A.2.1,w.1,p.2.1,p.2.2.1,()))) (A.1,A.2.1,A.2.2.1,v.1,0,v.2.1,v.2.2.1,v.2.2.2.1,()))))))))) (λA=>ay (A.1,A.2.1,aQ A.2.2.1,A.2.2.2.1,A.2.2.2.2.1,()))) (a7 (n.2.2.1,()))) (x.2.1,x.2.2,0,x.1,[],()) λA=>mpure (A.1,true)
def Q2(x:List (Int×z1')×z4'):G Int:=
 letI i:=aB x.1;aG (i=0) (mpure 0) (dJ x.1 (aG (aB (eC x.1 (0,[])).2=0) (mpure (-1)) (ad ((0:Int)<=1/\1<=i/\i<=i) (ao (QQ (List.drop (Int.toNat 1) (x.1.take i.toNat),x.2)) (λy=>b1 (aG (y>=0) (ay (x.1,x.2,aQ y,())) (ay (x.1,x.2,y,()))) λA=>dJ A.1 (ao (Z8 (eC A.1 (0,[]),A.2.1)) (λy=>bj (λA=>letI j:=aB A.1;letI h:=A.2.2;letI g:=QQ (List.drop (Int.toNat 1) (A.1.take j.toNat),aL h.1 h.2.1 []);cR h.2.1 h.1 (b1 (ad ((0:Int)<=1/\1<=j/\j<=j) (a6 h.2.1 h.1 (bT g (if decide (G.val g (0:Int)>=0)&&(py A.2.1 0||py (fY g) A.2.1) then ay (A.1,fY g,h.1,h.2.1,()) else ay (A.1,A.2.1,h.1,h.2.1,()))))) (λA=>ay (A.1,A.2.1,A.2.2.1,aQ A.2.2.2.1,()))) (a7 (A.2.1,()))) (A.1,A.2.2.1,y,0,()) λA=>mpure A.1)))))))
def aaG(x:aS):G (z4'):=
 dN x.2.2.2.2.1 (bj (λA=>dn A.1 A.2.1.2.1 (cM A.2.2.1 (ay (aQ A.1,A.2.1,A.2.2.1++[(0,A.1,aL A.2.1.2.1 A.1 0)],()))) (a7 (A.2.2.1,()))) (0,x,[]++x.2.2.2.2.1,()) (λA=>mpure A.1))
def aaH(x:bL×Int×Int):G (z1'):=
 bj (λA=>letI b:=A.2.2;cR b.1 b.2.1.1 (b1 (ao (Kf (b.2.1,b.1,A.1,A.2.1)) (λy=>aG (y.1=1) (cM b.2.2.1 (ay (A.1,A.2.1,b.1,b.2.1,b.2.2.1++[b.1],()))) (ay (A.1,A.2.1,b.1,b.2.1,b.2.2.1,())))) (λA=>ay (A.1,A.2.1,aQ A.2.2.1,A.2.2.2.1,A.2.2.2.2.1,()))) (a7 (b.2.2.1,()))) (x.2.1,x.2.2,0,x.1,[],()) λA=>mpure A.1
def aaI(x:(Int×Int×Int×Int×z1')×Option bL):G Bool:=
 letI d:=x.2.getD ([],[],0,[]);ao (zU x.1.1) λy=>b3 (!(!y)) (zU x.1.2.1) false λb8=>b3 (!(!y||!b8)) (zU x.1.2.2.1) false λdZ=>letI c:=!y||!b8||!dZ;b3 (!c) (sb (x.1.2.2.2.1,0,cu (aB d.2.1) 1)) false λhP=>b3 (!(c||!hP)) (Z9 (x.1.2.2.2.2,λiC=>aqZ (iC,some d,some x.1))) false λmZ=>mpure (c||!hP||!mZ)
def aaJ(x:Int):G Bool:=
 ao (sb (x,0,99)) λy=>mpure y
def aaK(x:z1'×(Int->G Bool)):G Bool:=
 bj (λA=>letI h:=A.2.2;letI f:=h.2.2.1;aG (f<h.2.1) (a6 f h.1 (ao (A.2.1 (aL h.1 f 0)) (λy=>letI g:=(!(!y)&&cN f 0)=true;ad (g->(g/\g)/\(0<=cu f 1/\cu f 1<aB A.1)/\True) (if !y||cN f 0&&decide (aL h.1 f 0<=aL A.1 (cu f 1) 0) then b_ false else ay (A.1,A.2.1,h.1,h.2.1,aQ f,()))))) (a7 ())) (x.1,x.2,x.1,aB x.1,0,()) λA=>hO
def aaL(x:Int×Option bL×Option (Int×Int×Int×Int×z1')):G Bool:=
 letI d:=(x.2.1.getD ([],[],0,[])).2.1;letI c:=(x.2.2.getD (0,0,0,0,[])).2.2.2.1;a6 c d (ao (sb (x.1,0,cu (aB (aL d c [])) 1)) (λy=>mpure y))
def aaM(x:z1'×(Int×Int)×Int×Int×Int):G Bool:=
 ao (sb (aB x.1,1,8)) λy=>b3 (!(!y)) (Z9 (x.1,zU)) false λb8=>b3 (!(!y||!b8)) (zU x.2.1.1) false λdZ=>b3 (!(!y||!b8||!dZ)) (zU x.2.1.2) false λhP=>letI b:=!y||!b8||!dZ||!hP||cN x.2.1.1 x.2.1.2;b3 (!b) (zU x.2.2.1) false λmZ=>b3 (!(b||!mZ)) (QS x.2.2.2.1) false λxJ=>b3 (!(b||!mZ||!xJ)) (sb (x.2.2.2.2,0,100000)) false λF7=>mpure (b||!mZ||!xJ||!F7)
def aaN(x:Int):G Bool:=
 ao (sb (x,0,99)) λy=>mpure y
def aaO(x:(Int×Int×Int)×Option bL):G Bool:=
 ao (QS x.1.1) λy=>b3 (!(!y)) (sb (x.1.2.1,0,cu (aB (x.2.getD ([],[],0,[])).1) 1)) false λb8=>b3 (!(!y||!b8)) (sb (x.1.2.2,1,10)) false λdZ=>mpure (!y||!b8||!dZ)
def aaP(x:Int):G Bool:=
 ao (sb (x,0,10)) λy=>mpure (!y)
def aaQ(x:z1'×Int):G Bool:=
 bj (λA=>letI p:=A.2.2.1;letI t:=(0<=p/\p<aB A.1)/\True;letI q:=decide (aL A.1 p (0:Int)<0);letI o:=(!q)=true;letI m:=q||cN (aL A.1 p 0) A.2.1;letI s:=(!m)=true;letI n:=(!m&&cN p 0)=true;letI u:=n->n/\True/\True;dn p A.1 (ad (o->(o/\o)/\t) (ad (o->o/\True/\True) (ad (o->(o/\o)/\True/\True) (ad (True/\(q=false->o)) (ad (s->(s/\True)/\True/\True) (ad (s->True/\True/\s) (ad (n->(n/\n)/\t) (ad u (ad (n->(n/\True)/\True/\True) (ad (n->(n/\n)/\(0<=cu p 1/\cu p 1<aB A.1)/\True) (ad u (ad (n->(n/\n)/\True/\True) (ad (s->(s/\(cN p 0=true->n))/\True/\True) (ad (True/\(m=false->s)) (if m||cN p 0&&decide (aL A.1 p 0<=aL A.1 (cu p 1) 0) then b_ false else ay (A.1,A.2.1,aQ p,())))))))))))))))) (a7 ())) (x.1,x.2,0,()) λA=>hO
def Q3(x:List (Int×z1')×z4'):G Bool:=
 aG (aB x.1=0) hO (dJ x.1 (ao (Z8 (eC x.1 (0,[]),x.2)) (λy=>bj (λA=>letI h:=A.2.2.1;letI g:=aB A.1;letI f:=Z6 (List.drop (Int.toNat 1) (A.1.take g.toNat),aL A.2.1 h []);cR h A.2.1 (ad ((0:Int)<=1/\1<=g/\g<=g) (a6 h A.2.1 (bT f (bN (eS f) (b_ true) (ay (A.1,A.2.1,aQ h,())))))) (a7 ())) (x.1,y,0,()) λA=>hy)))
def aaR(x:(Int×z1')×z4'):G (List (z4')):=
 bj (λA=>letI y:=A.1;letI v:=A.2.2;letI s:=A.2.1;letI w:=(0<=s/\s<aB y)/\True;letI p:=aL y s (0,0,0);letI z:=xH (v.1.2,p.2.1);letI o:=cN p.2.2 0;letI cd:=o&&decide (p.1<=v.1.1);letI q:=o=true;letI t:=q->q/\True/\True;letI n:=cd=true;letI u:=n->n/\True/\True;cR s y (b1 (a6 s y (ad (q->(q/\q)/\w) (ad t (ad t (ad t (ad (q->(q/\q)/\True/\True) (ad (True/\(q->q)) (ad u (ad (n->(n/\n)/\w) (ad u (ad u (ad (n->(n/\n/\True)/\z.et/\True) (ad (True/\(n->n)) (if cd&&eS z then dN y (a6 s ([]++y) (a6 s ([]++y) (cM v.2.1 (ay (y,s,v.1,v.2.1++[List.set ([]++y) s.toNat ((aL ([]++y) s (0,0,0)).1,(aL ([]++y) s (0,0,0)).2.1,cu (aL ([]++y) s (0,0,0)).2.2 1)],()))))) else ay (y,s,v.1,v.2.1,()))))))))))))))) (λA=>ay (A.1,aQ A.2.1,A.2.2.1,A.2.2.2.1,()))) (a7 (v.2.1,()))) (x.2,0,x.1,[],()) λA=>mpure A.1
def Km(x:Option fu×Nat×(Nat×(List (z1')->Prop)×List (z1')×Bool)×Unit):G ((Nat×(List (z1')->Prop)×List (z1')×Bool)×Unit):=
 ao (Kl (x.1,[],1,x.2.1,x.2.2.1,())) λy=>mpure (y.2.1,())
def Kn(x:Option fu×Nat×(Nat×(List (z1')->Prop)×List (z1')×Bool)×Unit):G ((Nat×(List (z1')->Prop)×List (z1')×Bool)×Unit):=
 ao (Kl (x.1,[],0,x.2.1,x.2.2.1,())) λy=>mpure (y.2.1,())
def Q4(x:Option fu×z4'×Int×z3'×z1'×Unit):G (Bool×z3'×z1'×Unit):=
 letI k:=(x.1.getD ((([],[],0,[]),[],[],[],[],0),[],[])).2.1;ao (ad x.1.isSome (dG (λA=>letI o:=A.2.1;letI i:=A.2.2;letI c:=i.2.2.2;letI m:=c.2.2.1;letI l:=c.1.toNat;letI j:=Option.map (λx=>x.2) (List.find? (λp=>decide (c.1=p.1)) c.2.1);letI g:=0<=c.1/\c.1<Int.ofNat m.length;letI f:=(A.1,i.2.1.getD l (0,0),o.getD i.1.toNat (0,0,0));letI d:=gq c.2.1 c.1 (IntKind.wrap .i64 (Add.add (j.getD 0) 1));letI b:=decide (m.getD l (0:Int)=-1);letI h:=(!b)=true;letI a:=decide (j.getD (0:Int) > 0);letI e:=(!a)=true;letI q:=e->e/\True/\True;if decide (c.1<i.2.2.1) then ao (ad (0<=c.1/\c.1<Int.ofNat i.2.1.length) (ad (e->(e/\e)/\(0<=i.1/\i.1<Int.ofNat o.length)/\True) (ad q (ad (e->(e/\e/\e/\True)/\(QT f).et/\True) (ad q (ad (True/\(a=false->e)) (if a||!(G.val (QT f) false) then mpure (.next (A.1,o,i.1,i.2.1,i.2.2.1,c.1,c.2.1,m,())) else ad g (ad (h->(h/\h)/\g/\True) (if h then ad (h/\h/\h/\h/\h/\True) (ao (Z_ (A.1,o,m.getD l 0,d,m,())) (λy=>if b||y.1 then ad (0<=c.1/\c.1<Int.ofNat y.2.2.1.length) (ao (ao (ao (mpure (true,y.2.1,List.set y.2.2.1 l i.1,())) (λr=>mpure (.done r))) (λr=>mpure (.done r))) (λr=>mpure (.done r))) else mpure (.next (A.1,o,i.1,i.2.1,i.2.2.1,c.1,y.2.1,y.2.2.1,())))) else ad (True/\(b=false->false=true)) (if b||false then ad g (ao (ao (ao (mpure (true,d,List.set m l i.1,())) (λr=>mpure (.done r))) (λr=>mpure (.done r))) (λr=>mpure (.done r))) else mpure (.next (A.1,o,i.1,i.2.1,i.2.2.1,c.1,d,m,())))))))))))) (bq.hx (λA=>letI n:=A.2.2.2;mpure (.next (A.1,A.2.1,A.2.2.1,n.1,n.2.1,IntKind.wrap .i64 (Add.add n.2.2.1 1),n.2.2.2.1,n.2.2.2.2.1,())))) else ao (mpure (.next (c.2.1,m,()))) λr=>mpure (.done r)) (x.1,x.2.1,x.2.2.1,k,Int.ofNat k.length,0,x.2.2.2.1,x.2.2.2.2.1,()))) (bq.hx (λA=>mpure (false,A.1,A.2.1,())))
def Q5(x:Option fu×z1'×Int×Nat×(Nat×(List (z1')->Prop)×List (z1')×Bool)×Unit):G (Bool×(Nat×(List (z1')->Prop)×List (z1')×Bool)×Unit):=
 letI ax:=x.2.2.2.2.1;letI cd:=(x.1.getD ((([],[],0,[]),[],[],[],[],0),[],[])).1.2.2;ad x.1.isSome (aG (aB x.2.1=aB cd.2.1) (ao (ad (x.2.2.2.1=ax.1/\ax.2.2.2=false/\(∃ (T:List (z1')),ax.2.1 (ax.2.2.1++x.2.1::T))) (any (λx=>True))) (λy=>mpure (y,(ax.1,ax.2.1,ax.2.2.1++[x.2.1],!y),()))) (b1 (ad x.1.isSome (dG (λA=>letI aY:=A.2.1;letI i1:=A.2.2;letI g1:=(A.1.getD ((([],[],0,[]),[],[],[],[],0),[],[])).1.2.2.2.1;letI v:=i1.2.2;letI E:=v.2.2.2;letI z:=zS (aY,E.1);letI w:=Z' (aL g1 v.1 ([],(0,0),0,0,0),aL v.2.1 E.1 (0,0,0,0,[]));letI t:=kJ z=true;letI f1:=t->t/\True/\True;aG (E.1<v.2.2.1) (b1 (a6 E.1 v.2.1 (bT z (ad (t->t/\A.1.isSome/\True) (ad f1 (ad f1 (ad f1 (ad (t->(t/\t)/\(0<=v.1/\v.1<aB g1)/\True) (ad f1 (ad (t->(t/\t/\True)/\w.et/\True) (ad (t->(t/\True)/\True/\True) (ad (True/\(eS z=false->t)) (bN (eS z||bU (G.val w (0:Int)) 0) (ay (A.1,aY,i1.1,i1.2.1,v.1,v.2.1,v.2.2.1,E.1,E.2.1,())) (ad ((0:Int)<=0/\0<=v.1/\v.1=v.1/\v.1<=aB aY) (ad (0<Add.add 0 1/\bW (Add.add (aY.take v.1.toNat).length (Add.add 0 1))) (ao (Kl (A.1,aY.take v.1.toNat++[E.1],i1.1,i1.2.1,E.2.1,())) (λy=>bN (!y.1) (e9 (b_ (false,y.2.1,()))) (ay (A.1,aY,i1.1,i1.2.1,v.1,v.2.1,v.2.2.1,E.1,y.2.1,())))))))))))))))))) (λA=>letI iD:=A.2.2.2.2;ay (A.1,A.2.1,A.2.2.1,A.2.2.2.1,iD.1,iD.2.1,iD.2.2.1,aQ iD.2.2.2.1,iD.2.2.2.2.1,()))) (a7 (A.1,aY,i1.1,i1.2.1,v.1,E.2.1,()))) (x.1,x.2.1,x.2.2.1,x.2.2.2.1,aB x.2.1,cd.1,aB cd.1,0,ax,()))) (λA=>letI d1:=A.2.2.2.2;letI dO:=A.2.1.take d1.1.toNat;letI cm:=Kl (A.1,dO++[-1],A.2.2.1,A.2.2.2.1,d1.2.1,());letI u:=bU A.2.2.1 0;letI bx:=(!u)=true;ad (bx->(bx/\True/\bx/\bx)/\((0:Int)<=0/\0<=d1.1/\d1.1=d1.1/\d1.1<=aB A.2.1)/\True) (bN (!u) (ad (bx/\bx) (ad (0<Add.add 0 1/\bW (Add.add dO.length (Add.add 0 1))) (bN (!u) (ad (bx/\bx/\bx/\True) (ao cm (λy=>mpure (u||y.1,y.2.1,())))) (ad (True/\(u=false->false=true)) (mpure (u||false,d1.2.1,())))))) (bN (!u) (ad (bx/\false=true/\bx/\bx/\True) (ao cm (λy=>mpure (u||y.1,y.2.1,())))) (ad (True/\(u=false->false=true)) (mpure (u||false,d1.2.1,()))))))))
def aq9(x:z1'×Int×Unit):G (z1'×Unit):=
 b1 (aG (x.2.1<0) (ad False (ad False (ay (x.1,x.2.1,())))) (ay (x.1,x.2.1,()))) λA=>ao (Cp (IntKind.wrap .u64 (aB A.1),IntKind.wrap .u64 A.2.1)) λy=>b1 (if cN y.1 0||cN y.2 9223372036854775807 then ad False (ad False (ay (A.1,y.2,()))) else ay (A.1,y.2,())) λA=>letI h:=IntKind.wrap .i64 A.2.1;letI m:=h.toNat;letI k:=A.1.take ((List.replicate m (0:Int)).length-0);ad (0<=h/\h=h/\bW m) (ad True (bj (λA=>letI l:=aB A.2.1;letI j:=l.toNat-A.1.toNat;letI i:=A.2.1.take A.1.toNat;aG (A.1<l) (ad (0<=A.1/\A.1<=l/\l<=l) (ad ((0:Int)<=0/\0<=A.1/\A.1<=l) (ad True (ay (e_ A.1 (Int.ofNat (if j<=i.length then j else i.length)),i++i.take j++A.2.1.drop (Add.add A.1.toNat (i.take j).length),()))))) (a7 (A.2.1,()))) (Int.ofNat (if (List.replicate m (0:Int)).length-0<=A.1.length then (List.replicate m (0:Int)).length-0 else A.1.length),[]++k++(List.replicate m (0:Int)).drop (Add.add 0 k.length),()) (λA=>mpure (A.1,()))))
end Go.Fer
namespace Go.Fer.H
set_option maxRecDepth 100000
abbrev bC:Type:=Int×Int×Int×Int×Int×Int
abbrev sc:Type:=Int×Int×Int×Int×Int×Int×Int
abbrev aW:Type:=z3'×List bC×z1'×z3'×sc
abbrev bY:Type:=bC×Int
abbrev gr:Type:=z1'×List (List bY)
abbrev hz:Type:=aW×List bC×List (Option gr)
abbrev jD:Type:=z3'×List bC×z1'×z3'×Int×Int×Int×Int×Int×Int×Int×List bC×List (Option gr)×Unit
abbrev gq(l:z3')(a b:Int):z3':=nS (k:=.int .i64) (v:=.int .i64) l a b
abbrev hA:aa:=.ae (.ar (.int .i64) (.ar (.int .i64) (.ar (.int .i64) (.ar (.int .i64) (.ar (.int .i64) (.int .i64))))))
abbrev m_(l:List (Int×bC))(a:Int)(b:bC):List (Int×bC):=nS (k:=.int .i64) (v:=hA) l a b
abbrev aq_:List UInt8:=0::1::(List.replicate 2 2++(List.replicate 4 3++(List.replicate 8 4++(List.replicate 16 5++(List.replicate 32 6++(List.replicate 64 7++List.replicate 128 8))))))
abbrev _root_.Prod.cz{gM gN gO gP gQ gu gv:Type}(x:gM×gN×gO×gP×gQ×gu×gv):gu:=x.2.2.2.2.2.1
abbrev _root_.Prod.er{gM gN gO gP gQ gu gv g_:Type}(x:gM×gN×gO×gP×gQ×gu×gv×g_):gv:=x.2.2.2.2.2.2.1
abbrev _root_.Prod.fD{gM gN gO gP gQ gu gv g_ hB:Type}(x:gM×gN×gO×gP×gQ×gu×gv×g_×hB):g_:=x.2.2.2.2.2.2.2.1
abbrev _root_.Prod.hj{gM gN gO gP gQ gu gv g_ hB hV:Type}(x:gM×gN×gO×gP×gQ×gu×gv×g_×hB×hV):hB:=x.2.2.2.2.2.2.2.2.1
abbrev _root_.Prod.il{gM gN gO gP gQ gu gv g_ hB hV im:Type}(x:gM×gN×gO×gP×gQ×gu×gv×g_×hB×hV×im):hV:=x.2.2.2.2.2.2.2.2.2.1
abbrev _root_.Prod.iX{gM gN gO gP gQ gu gv g_ hB hV im iY:Type}(x:gM×gN×gO×gP×gQ×gu×gv×g_×hB×hV×im×iY):im:=x.2.2.2.2.2.2.2.2.2.2.1
abbrev _root_.Prod.gw{gM gN gO gP gQ gu gv g_ hB hV im iY jE:Type}(x:gM×gN×gO×gP×gQ×gu×gv×g_×hB×hV×im×iY×jE):iY:=x.2.2.2.2.2.2.2.2.2.2.2.1
abbrev _root_.Prod.k2{gM gN gO gP gQ gu gv g_ hB hV im iY jE j_:Type}(x:gM×gN×gO×gP×gQ×gu×gv×g_×hB×hV×im×iY×jE×j_):jE:=x.2.2.2.2.2.2.2.2.2.2.2.2.1
abbrev _root_.Prod.nC{gM gN gO gP gQ gu gv g_ hB hV im iY jE j_ kK:Type}(x:gM×gN×gO×gP×gQ×gu×gv×g_×hB×hV×im×iY×jE×j_×kK):j_:=x.2.2.2.2.2.2.2.2.2.2.2.2.2.1
abbrev _root_.Prod.pD{gM gN gO gP gQ gu gv g_ hB hV im iY jE j_ kK lv:Type}(x:gM×gN×gO×gP×gQ×gu×gv×g_×hB×hV×im×iY×jE×j_×kK×lv):kK:=x.2.2.2.2.2.2.2.2.2.2.2.2.2.2.1
abbrev _root_.Prod.sd{gM gN gO gP gQ gu gv g_ hB hV im iY jE j_ kK lv mm:Type}(x:gM×gN×gO×gP×gQ×gu×gv×g_×hB×hV×im×iY×jE×j_×kK×lv×mm):lv:=x.2.2.2.2.2.2.2.2.2.2.2.2.2.2.2.1
abbrev _root_.Prod.se{gM gN gO gP gQ gu gv g_ hB hV im iY jE j_ kK lv mm nD:Type}(x:gM×gN×gO×gP×gQ×gu×gv×g_×hB×hV×im×iY×jE×j_×kK×lv×mm×nD):mm:=x.2.2.2.2.2.2.2.2.2.2.2.2.2.2.2.2.1
abbrev _root_.Prod.wq{gM gN gO gP gQ gu gv g_ hB hV im iY jE j_ kK lv mm nD oJ:Type}(x:gM×gN×gO×gP×gQ×gu×gv×g_×hB×hV×im×iY×jE×j_×kK×lv×mm×nD×oJ):nD:=x.2.2.2.2.2.2.2.2.2.2.2.2.2.2.2.2.2.1
abbrev _root_.Prod.zV{gM gN gO gP gQ gu gv g_ hB hV im iY jE j_ kK lv mm nD oJ qk:Type}(x:gM×gN×gO×gP×gQ×gu×gv×g_×hB×hV×im×iY×jE×j_×kK×lv×mm×nD×oJ×qk):oJ:=x.2.2.2.2.2.2.2.2.2.2.2.2.2.2.2.2.2.2.1
abbrev _root_.Prod.wu{gM gN gO gP gQ gu gv g_ hB hV im iY jE j_ kK lv mm nD oJ qk sf:Type}(x:gM×gN×gO×gP×gQ×gu×gv×g_×hB×hV×im×iY×jE×j_×kK×lv×mm×nD×oJ×qk×sf):qk:=x.2.2.2.2.2.2.2.2.2.2.2.2.2.2.2.2.2.2.2.1
abbrev _root_.Prod.xK{gM gN gO gP gQ gu gv g_ hB hV im iY jE j_ kK lv mm nD oJ qk sf uE:Type}(x:gM×gN×gO×gP×gQ×gu×gv×g_×hB×hV×im×iY×jE×j_×kK×lv×mm×nD×oJ×qk×sf×uE):sf:=x.2.2.2.2.2.2.2.2.2.2.2.2.2.2.2.2.2.2.2.2.1
abbrev _root_.Prod.aq'{gM gN gO gP gQ gu gv g_ hB hV im iY jE j_ kK lv mm nD oJ qk sf uE xL:Type}(x:gM×gN×gO×gP×gQ×gu×gv×g_×hB×hV×im×iY×jE×j_×kK×lv×mm×nD×oJ×qk×sf×uE×xL):uE:=x.2.2.2.2.2.2.2.2.2.2.2.2.2.2.2.2.2.2.2.2.2.1
abbrev _root_.Prod.Q6{gM gN gO gP gQ gu gv g_ hB hV im iY jE j_ kK lv mm nD oJ qk sf uE xL Cr:Type}(x:gM×gN×gO×gP×gQ×gu×gv×g_×hB×hV×im×iY×jE×j_×kK×lv×mm×nD×oJ×qk×sf×uE×xL×Cr):xL:=x.2.2.2.2.2.2.2.2.2.2.2.2.2.2.2.2.2.2.2.2.2.2.1
abbrev _root_.Prod.tm{gM gN gO gP gQ gu gv g_ hB hV im iY jE j_ kK lv mm nD oJ qk sf uE xL Cr Ko:Type}(x:gM×gN×gO×gP×gQ×gu×gv×g_×hB×hV×im×iY×jE×j_×kK×lv×mm×nD×oJ×qk×sf×uE×xL×Cr×Ko):Cr:=x.2.2.2.2.2.2.2.2.2.2.2.2.2.2.2.2.2.2.2.2.2.2.2.1
abbrev _root_.Prod.F8{gM gN gO gP gQ gu gv g_ hB hV im iY jE j_ kK lv mm nD oJ qk sf uE xL Cr Ko ara:Type}(x:gM×gN×gO×gP×gQ×gu×gv×g_×hB×hV×im×iY×jE×j_×kK×lv×mm×nD×oJ×qk×sf×uE×xL×Cr×Ko×ara):Ko:=x.2.2.2.2.2.2.2.2.2.2.2.2.2.2.2.2.2.2.2.2.2.2.2.2.1
variable (F9:aW×(Option hz->G Bool)->G (Option hz×Int)) (Q7:Option gr×Int×Int->G (bY×Bool)) (Q8:(z1'->Prop)->G (z1')) (arb:z3'->G (z1'->Prop)) (arc:Option hz×Option Int×Option Int->G Bool) (aaS:aW×Int×(Int->G Int)->G ((Int×Int)×Int)) (ard:Int×Option aW->G Int) (are:Int->G Int) (Q9:List bC->G (List bC)) (arf:aW->G Bool) (Q_:List bC->G (List bC×Bool)) (arh:aW->G Bool) (Q':bC×Int×Int×Int×Int×Int×Int->G Bool) (Ra:sc×Int->G Int) (F_:z1'×Int->G Bool) (Ga:aW×Bool->G (List (z1')×Int)) (l0:Int×Int×Int->G Bool) (Kp:(Int×Int)×Int×Bool->G (Int×Int)) (aaT:aW×Int->G (z1'×Int)) (ari arj:aW×z1'×Int->G Int) (aaU:aW×Int×Int->G Int) (ark:Option hz×Option Int->G Bool) (Rb:aW×z1'×Int×Int->G (Int×Int)) (aaV:aW×Int×Int->G Int) (zW:aW->G Int) (arl:List bC×Unit->G (Bool×List bC×Unit)) (arn:(Int×Int×Int×Int×Int×Int->G Bool)×List bC×Unit->G ((Nat×Nat)×List bC×Unit)) (aaW:z1'×jD->G (jD)) (aro:bC×Option aW->G Bool) (Rc:z1'×Unit->G (z1'×Unit)) (arp:(z1'->Prop)×Unit->G (z1'×Unit)) (Re:Option hz×(Option gr->G (Int×Bool))->G ((Int×Int)×Bool)) (arq:Option hz×Option Int->G Bool) (ars:Option gr×Option Int×Option aW->G (Int×Bool)) (art:Option hz×Option Int->G Bool) (aru:Option gr×Option (Option hz)×Option Int×Option aW->G (Int×Bool)) (aIV:Option hz×Option Int×Option aW->G Bool) (aIW:Option gr×Option Int->G (Int×Bool)) (arv:Option hz×Option Int->G Bool) (arw:Option gr×Option (Option hz)×Option Int×Option (Int->G Int)->G (Int×Bool)) (xH:z1'×Int->G Bool) (aaX:sc×Int->G Int) (aaY:Option hz×Option gr->G (List bY->Prop)) (sg:Int×Int×Int->G Bool) (Rf:Int->G Bool) (aaZ:List bC×(Int×Int×Int×Int×Int×Int->G Bool)->G Bool) (arx:Int×Int×Int×Int×Int×Int×Int->G Bool) (Kb:z1'×(Int->G Bool)->G Bool) (ary:bC×Option aW->G Bool) (arz:Int->G Bool) (aa0:List (Int×bC)->G (z1'->Prop)) (arA:Int×Int×Int×Int×Int×Int×Int->G Bool) (arB:aW×Int×Int×Int×Int×Int×Int->G Bool) (xM:aW->G Int) (qj:Int×Int×Int->G Bool) (aa1:aW×Int->G Bool) (Kq:aW->G (List bC)) (aa2:aW×z1'×Int->G Int) (zS:z1'×Int->G Bool) (Zz:z1'×Int->G Int) (arC:bC×Option Int->G Bool) (aa3:List bC×(Int×Int×Int×Int×Int×Int->G Bool)->G Int) (arD:aW×Int×Int×Int×Int×Int×Int->G Bool) (Kr:Int->G Bool) (aql:z1'×(Int->G Bool)->G Int) (aa4:aW×z1'->G (List (z1'))) (arE:aW×z1'->G Bool) (Rg:aW×z1'×Int->G (List bY×Bool)) (aa5:Int->G Bool) (arF:Int×Int->G Int) (arG:(z1'->Prop)×Unit->G (z1'×Unit)) (aIX:Int×Int->G Bool) (arH:z1'->G (z1')) (arI:(bY×bC×Int->G Int)×List bY×Unit->G (List bY×Unit)) (arJ:bY×bC×Int->G Int) (aIY:Int×Int×z1'×Unit->G (z1'×Unit)) (arK:Int×Int×(bY×bC×Int->G Int)×List bY×Unit->G (List bY×Unit)) (arL:z1'×jD->G (Option gr×Bool×jD)) (aIZ:Int×Int×Int×z1'×Unit->G (z1'×Unit)) (arM:Int->G Int) (arN:Int×Int×Int×(bY×bC×Int->G Int)×List bY×Unit->G (List bY×Unit))
def aa6(x:aW×Int×Int):G (z1'×Int):=
 ao (F9 (x.1,λiC=>arc (iC,some x.2.1,some x.2.2))) λy=>letI c:=(y.1.getD (([],[],[],[],0,0,0,0,0,0,0),[],[])).2.2;aG (y.2≠0) (mpure ([],y.2)) (b1 (ad y.1.isSome (dG (λA=>letI d:=A.2.2;aG (d.1<A.2.1) (b1 (a6 d.1 A.1 (ao (Q7 (aL A.1 d.1 none,d.2.1,d.2.2.1)) (λy=>bN y.2 (ay (A.1,A.2.1,d.1,d.2.1,d.2.2.1,gq A.cz y.1.1.2.2.2.2.2 (aQ ((gC (λp=>bU y.1.1.2.2.2.2.2 p.1) A.cz).getD 0)),())) (ay (A.1,A.2.1,d.1,d.2.1,d.2.2.1,gq A.cz (-1) (aQ ((gC (λp=>bU (-1) p.1) A.cz).getD 0)),()))))) (λA=>ay (A.1,A.2.1,aQ A.2.2.1,A.2.2.2.1,A.2.2.2.2.1,A.cz,()))) (a7 (A.cz,()))) (c,aB c,0,x.2.1,x.2.2,[],()))) (λA=>ao (arb A.1) λy=>ao (Q8 y) λy=>mpure (y,0)))
def aa7(x:aW):G aW:=
 dN x.1 (dN x.2.1 (dN x.2.2.1 (dN x.2.2.2.1 (mpure ([]++x.1,[]++x.2.1,[]++x.2.2.1,[]++x.2.2.2.1,x.2.2.2.2)))))
def aa8(x:aW×Int):G ((Int×Int)×Int):=
 ao (aaS (x.1,x.2,λiC=>ard (iC,some x.1))) λy=>mpure y
def aa9(x:aW×Int):G ((Int×Int)×Int):=
 ao (aaS (x.1,x.2,are)) λy=>mpure y
def aa_(x:sc×Int):G Int:=
 letI c:=x.1.2;aG (x.2>=c.2.2.2.1) (mpure x.1.cz) (ad (c.1≠0) (mpure (if IntKind.wrap .i64 (IntKind.wrap .i64 (Int.tdiv (cu (e_ (ou (cu x.2 x.1.1) 0) c.1) 1) c.1)*c.2.1)<c.2.2.1 then IntKind.wrap .i64 (IntKind.wrap .i64 (Int.tdiv (cu (e_ (ou (cu x.2 x.1.1) 0) c.1) 1) c.1)*c.2.1) else c.2.2.1)))
def aa'(x:aW×Int):G ((Int×Int)×Int):=
 ao (F9 (x.1,λiC=>arq (iC,some x.2))) λy=>aG (y.2≠0) (mpure ((0,0),y.2)) (ao (Re (y.1,λiC=>ars (iC,some x.2,some x.1))) (λy=>mpure (y.1,0)))
def aba(x:aW):G (List bC):=
 ao (Q9 x.2.1) λy=>bj (λA=>letI g:=A.2;letI f:=aL A.1 g.1 (0,0,0,0,0,0);letI e:=F_ (g.2.1.2.2.1,f.1);cR g.1 A.1 (b1 (a6 g.1 A.1 (bT e (if kJ e then a6 g.1 A.1 (cM g.2.2.1 (ay (A.1,g.1,g.2.1,g.2.2.1++[f],()))) else ay (A.1,g.1,g.2.1,g.2.2.1,())))) (λA=>ay (A.1,aQ A.2.1,A.2.2.1,A.2.2.2.1,()))) (a7 (g.2.2.1,()))) (y,0,x,[],()) λA=>mpure A.1
def abb(x:aW×Int):G ((Int×Int)×Int):=
 ao (F9 (x.1,λiC=>art (iC,some x.2))) λy=>aG (y.2≠0) (mpure ((0,0),y.2)) (ao (Re (y.1,λiC=>aru (iC,some y.1,some x.2,some x.1))) (λy=>mpure (y.1,0)))
def abc(x:aW):G Int:=
 ao (arf x) λy=>bN (!y) (mpure 90) (ao (Q_ x.2.1) (λy=>bN (!y.2) (mpure 91) (mpure 0)))
def abd(x:aW):G Int:=
 ao (arh x) λy=>bN (!y) (mpure 90) (bj (λA=>cR A.1 A.2.1.2.1 (bj (λA=>letI e:=A.2.2.1.2.1;letI d:=Q' (aL e A.2.1 (0,0,0,0,0,0),aL e A.1 (0,0,0,0,0,0));aG (A.2.1<A.1) (a6 A.2.1 e (a6 A.1 e (bT d (bN (eS d) (e9 (e9 (b_ 91))) (ay (A.1,aQ A.2.1,A.2.2.1,())))))) (a7 (A.1,A.2.2.1,()))) (A.1,0,A.2.1,()) (λA=>ay (aQ A.1,A.2.1,()))) (a7 ())) (0,x,()) (λA=>mpure 0))
def abe(x:aW×Int):G ((Int×Int)×Int):=
 ao (aaT x) λy=>bj (λ(A:z1'×Int×Int×(Int×Int)×(Int×Int)×Unit)=>letI e:=A.2.2;letI d:=Kp (e.2.2.1,aL A.1 e.1 0,bU e.1 0);dn e.1 A.1 (bT d (ay (A.1,A.2.1,aQ e.1,e.2.1,G.val d (0,0),()))) (a7 (A.2.1,e.2.1,e.2.2.1,()))) (y.1,y.2,0,(0,0),(0,0),()) λA=>mpure (A.2.2.1,A.1)
def abf(x:aW×Int):G ((Int×Int)×Int):=
 ao (aaT x) λy=>bj (λ(A:z1'×Int×Int×aW×(Int×Int)×(Int×Int)×Unit)=>letI f:=A.2.2;letI d:=Ra (f.2.1.2.2.2.2,aL A.1 f.1 0);letI e:=Kp (A.cz,fY d,bU f.1 0);dn f.1 A.1 (bT d (bT e (ay (A.1,A.2.1,aQ f.1,f.2.1,f.2.2.1,G.val e (0,0),())))) (a7 (A.2.1,f.2.2.1,A.cz,()))) (y.1,y.2,0,x.1,(0,0),(0,0),()) λA=>mpure (A.2.2.1,A.1)
def abg(x:aW×Int):G ((Int×Int)×Int):=
 letI h:=l0 (x.2,0,99);letI e:=Ga (x.1,eS h);bT h (bT e (bj (λ(A:Int×List (z1')×Int×Int×aW×(Int×Int)×(Int×Int)×Unit)=>letI g:=A.2.2.2;letI d:=ari (g.2.1,aL A.2.1 g.1 [],A.1);letI f:=Kp (A.er,fY d,bU g.1 0);dn g.1 A.2.1 (bT d (bT f (ay (A.1,A.2.1,A.2.2.1,aQ g.1,g.2.1,A.cz,G.val f (0,0),())))) (a7 (A.2.2.1,A.cz,A.er,()))) (x.2,(G.val e ([],0)).1,(G.val e ([],0)).2,0,x.1,(0,0),(0,0),()) (λA=>mpure (A.2.2.1,A.1))))
def abh(x:aW×Int×Int):G (z1'×Int):=
 letI k:=l0 (x.2.1,0,9);letI i:=l0 (x.2.2,0,9999);letI f:=eS k;letI m:=f=true;letI g:=Ga (x.1,f&&eS i);bT k (ad (m->(m/\True)/\i.et/\True) (ad (True/\(m->m)) (bT g (bj (λA=>letI j:=A.2.2;letI h:=Rb (A.cz,aL j.1 j.2.2.1 [],A.1,A.2.1);dn j.2.2.1 j.1 (bT h (cM A.er (ay (A.1,A.2.1,j.1,j.2.1,aQ j.2.2.1,A.cz,A.er++[(G.val h (0,0)).1],A.fD,())))) (a7 (j.2.1,A.er,A.fD,()))) (x.2.1,x.2.2,(G.val g ([],0)).1,(G.val g ([],0)).2,0,x.1,[],[],()) (λA=>bj (λA=>letI l:=A.2.2;aG (A.2.1<=99) (b1 (ao (F_ (l.1,A.2.1)) (λy=>bN y (cM l.2.1 (ay (A.1,A.2.1,l.1,l.2.1++[A.2.1],()))) (ay (A.1,A.2.1,l.1,l.2.1,())))) (λA=>ay (A.1,aQ A.2.1,A.2.2.1,A.2.2.2.1,()))) (a7 (A.1,l.2.1,()))) (A.1,-1,A.2.1,A.2.2.1,()) λA=>mpure (A.2.1,A.1))))))
def abi(x:aW×Int):G ((Int×Int)×Int):=
 letI i:=l0 (x.2,0,9999);letI f:=Ga (x.1,eS i);bT i (bT f (bj (λ(A:Int×List (z1')×Int×Int×aW×(Int×Int)×(Int×Int)×Unit)=>letI h:=A.2.2.2;letI g:=arj (h.2.1,aL A.2.1 h.1 [],A.1);letI e:=Kp (A.er,IntKind.wrap .i64 (fY g*h.2.1.2.2.2.2.2.2.2.2.2.2),bU h.1 0);dn h.1 A.2.1 (bT g (bT e (ay (A.1,A.2.1,A.2.2.1,aQ h.1,h.2.1,A.cz,G.val e (0,0),())))) (a7 (A.2.2.1,A.cz,A.er,()))) (x.2,(G.val f ([],0)).1,(G.val f ([],0)).2,0,x.1,(0,0),(0,0),()) (λA=>mpure (A.2.2.1,A.1))))
def abj(x:aW×Int):G (z1'×z1'×Int):=
 ao (F9 (x.1,λiC=>ark (iC,some x.2))) λy=>aG (y.2≠0) (mpure ([],[],y.2)) (bj (λA=>letI h:=(A.1.getD (([],[],[],[],0,0,0,0,0,0,0),[],[])).2.2;aG (A.2.1<10) (b1 (b1 (ad A.1.isSome (dG (λA=>letI j:=A.2.2.2;aG (A.er<A.cz) (b1 (a6 A.er j.2.1 (ao (Q7 (aL j.2.1 A.er none,A.2.1,A.hj)) (λy=>letI k:=aaU (A.fD,y.1.2,A.hj);letI g:=y.2=true;letI i:=g->g/\True/\True;ad i (ad (g->(g/\g/\g/\True)/\k.et/\True) (ad i (ad i (ad (g->(g/\g)/\True/\True) (ad (True/\(g->g)) (if y.2&&decide (fY k>=A.fD.hj) then ay (A.1,A.2.1,aQ A.2.2.1,j.1,j.2.1,A.cz,A.er,A.fD,A.hj,A.il,A.iX,()) else ay (A.1,A.2.1,A.2.2.1,j.1,j.2.1,A.cz,A.er,A.fD,A.hj,A.il,A.iX,())))))))))) (λA=>ay (A.1,A.2.1,A.2.2.1,A.2.2.2.1,A.2.2.2.2.1,A.cz,aQ A.er,A.fD,A.hj,A.il,A.iX,()))) (a7 (A.1,A.2.1,A.2.2.1,j.1,A.fD,A.hj,A.il,A.iX,()))) (A.1,A.2.1,0,A.2.1,h,aB h,0,A.2.2.1,A.2.2.2.1,A.2.2.2.2.1,A.cz,()))) (λA=>letI l:=A.2.2;b1 (aG (l.1 > 0) (cM A.fD (ay (A.1,A.2.1,l.1,l.2.1,l.2.2.1,A.cz,A.er,A.fD++[A.2.1],()))) (ay (A.1,A.2.1,l.1,l.2.1,l.2.2.1,A.cz,A.er,A.fD,()))) λA=>letI m:=A.2.2.2;ad A.1.isSome (aG (A.2.2.1=aB (A.1.getD (([],[],[],[],0,0,0,0,0,0,0),[],[])).2.2) (cM A.er (ay (A.1,m.1,m.2.1,A.cz,A.er++[A.2.1],A.fD,()))) (ay (A.1,m.1,m.2.1,A.cz,A.er,A.fD,()))))) (λA=>ay (A.1,aQ A.2.1,A.2.2.1,A.2.2.2.1,A.2.2.2.2.1,A.cz,()))) (a7 (A.2.2.2.2.1,A.cz,()))) (y.1,0,x.1,x.2,[],[],()) (λA=>mpure (A.1,A.2.1,0)))
def abk(x:aW×Int):G (z1'×z1'×Int):=
 letI o:=l0 (x.2,0,9999);letI j:=Ga (x.1,eS o);bT o (bT j (aG ((G.val j ([],0)).2≠0) (mpure ([],[],(G.val j ([],0)).2)) (bj (λA=>aG (A.2.2.1<=9) (b1 (bj (λA=>letI p:=A.2.1;letI m:=A.2.2;letI q:=m.2.2.1;letI i:=Rb (A.cz,aL p q [],m.1,A.1);letI l:=aaV (A.cz,(G.val i (0,0)).2,A.1);letI h:=decide ((G.val i (0,0)).1>=0);letI k:=h=true;letI t:=k->k/\True/\True;cR q p (b1 (a6 q p (bT i (ad (k->(k/\k/\k/\True)/\l.et/\True) (ad t (ad t (ad (k->(k/\k)/\True/\True) (ad (True/\(k->k)) (if h&&decide (fY l>=A.cz.hj) then ay (A.1,p,m.1,aQ m.2.1,q,A.cz,A.er,A.fD,()) else ay (A.1,p,m.1,m.2.1,q,A.cz,A.er,A.fD,()))))))))) (λA=>ay (A.1,A.2.1,A.2.2.1,A.2.2.2.1,aQ A.2.2.2.2.1,A.cz,A.er,A.fD,()))) (a7 (A.1,p,m.1,m.2.1,A.cz,A.er,A.fD,()))) (A.1,A.2.1,A.2.2.1,0,0,A.2.2.2.1,A.2.2.2.2.1,A.cz,()) (λA=>letI n:=A.2.2;b1 (aG (n.2.1 > 0) (cM A.er (ay (A.1,A.2.1,n.1,n.2.1,n.2.2.1,A.cz,A.er++[n.1],()))) (ay (A.1,A.2.1,n.1,n.2.1,n.2.2.1,A.cz,A.er,()))) λA=>letI s:=A.2.2;aG (s.2.1=aB A.2.1) (cM A.cz (ay (A.1,A.2.1,s.1,s.2.2.1,A.cz++[s.1],A.er,()))) (ay (A.1,A.2.1,s.1,s.2.2.1,A.cz,A.er,())))) (λA=>ay (A.1,A.2.1,aQ A.2.2.1,A.2.2.2.1,A.2.2.2.2.1,A.cz,()))) (a7 (A.2.2.2.2.1,A.cz,()))) (x.2,(G.val j ([],0)).1,0,x.1,[],[],()) (λA=>mpure (A.1,A.2.1,0)))))
def abl(x:aW×(Option hz->G Bool)):G (Option hz×Int):=
 ao (zW x.1) λy=>aG (y≠0) (mpure (none,y)) (ao (arl (x.1.2.1,())) (λy=>ad True (ad True (ao (arn (λiC=>aro (iC,some x.1),y.2.1,())) (λy=>ad True (b1 (ao (x.2 (some (x.1,List.drop y.1.1 (y.2.1.take y.1.2),[]))) (λb8=>if !b8 then hU (none,1) else ay (x.1.1,x.1.2.1,x.1.2.2.1,x.1.2.2.2.1,x.1.2.2.2.2.1,x.1.cz,x.1.er,x.1.fD,x.1.hj,x.1.il,x.1.2.2.2.2.2.2.2.2.2.2,y.1,y.2.1,[],()))) (λA=>ao (aaW ([],A.1,A.2.1,A.2.2.1,A.2.2.2.1,A.2.2.2.2.1,A.cz,A.er,A.fD,A.hj,A.il,A.iX,List.drop A.gw.1 (A.k2.take A.gw.2),A.nC,())) λy=>ad True (aG (aB y.k2=0) (mpure (none,3)) (mpure (some ((y.1,y.2.1,y.2.2.1,y.2.2.2.1,y.2.2.2.2.1,y.cz,y.er,y.fD,y.hj,y.il,y.iX),y.gw,y.k2),0))))))))))
def abm(x:Option hz×Option Int×Option Int):G Bool:=
 ao (sg (x.2.1.getD 0,0,9)) λy=>b3 y (Rf (x.2.2.getD 0)) false λb8=>mpure (y&&b8)
def arO(x:Int×Int×Int):G Bool:=
 mpure (hN x.2.1 x.1&&hN x.1 x.2.2)
def abn(x:Int):G Bool:=
 ao (sg (x,0,9999)) λy=>mpure y
def abo(x:Option gr×Int×Int):G (bY×Bool):=
 letI f:=aL (x.1.getD ([],[[],[],[],[],[],[],[],[],[],[]])).2 x.2.1 [];b1 (ad x.1.isSome (ad (0<=x.2.1/\x.2.1<Int.ofNat 10) (dG (λ(A:Int×Bool×List bY×Int×Int×bY×bY×Unit)=>letI g:=A.2.2;letI h:=g.2.2.1;letI e:=aL g.1 h ((0,0,0,0,0,0),0);aG (h<g.2.1) (b1 (a6 h g.1 (aG (e.2<=A.1) (ay (A.1,bU e.1.2.2.2.1 1,g.1,g.2.1,h,A.cz,e,())) (ay (A.1,A.2.1,g.1,g.2.1,h,A.cz,A.er,())))) (λA=>ay (A.1,A.2.1,A.2.2.1,A.2.2.2.1,aQ A.2.2.2.2.1,A.cz,A.er,()))) (a7 (A.2.1,A.cz,A.er,()))) (x.2.2,false,f,aB f,0,((0,0,0,0,0,0),0),((0,0,0,0,0,0),0),())))) λA=>mpure (A.2.2.1,A.1)
def abp(x:z1'->Prop):G (z1'):=
 ao (arp (x,())) λy=>ao (Rc (y.1,())) λy=>mpure y.1
def arP(arQ:Option (z3')->z1'->Prop)(x:z3'):G (z1'->Prop):=
 mpure (arQ (some x))
def abq(x:aW×Int×(Int->G Int)):G ((Int×Int)×Int):=
 ao (F9 (x.1,λiC=>arv (iC,some x.2.1))) λy=>aG (y.2≠0) (mpure ((0,0),y.2)) (ao (Re (y.1,λiC=>arw (iC,some y.1,some x.2.1,some x.2.2))) (λy=>if !y.2 then mpure ((0,0),3) else mpure (y.1,0)))
def abr(x:Int×Option aW):G Int:=
 ao (aaX ((x.2.getD ([],[],[],[],0,0,0,0,0,0,0)).2.2.2.2,x.1)) λy=>mpure y
def abt(x:sc×Int):G Int:=
 letI e:=x.1.2;letI d:=IntKind.wrap .i64 (e.2.1*IntKind.wrap .i64 (Int.tdiv (cu (e_ (ou (cu x.2 x.1.1) 0) e.1) 1) e.1));aG (x.2>=e.2.2.2.1) (mpure x.1.cz) (ad (e.1≠0) (mpure (if d<e.2.2.1 then d else e.2.2.1)))
def arR(x:Int):G Int:=
 mpure x
def abu(x:Option hz×Option Int):G Bool:=
 ao (Rf (x.2.getD 0)) λy=>mpure y
def abv(x:Option hz×(Option gr->G (Int×Bool))):G ((Int×Int)×Bool):=
 letI e:=(x.1.getD (([],[],[],[],0,0,0,0,0,0,0),[],[])).2.2;b1 (ad x.1.isSome (dG (λA=>letI d:=A.2.2;letI f:=d.2.2.1;aG (f<d.2.1) (b1 (a6 f d.1 (ao (A.1 (aL d.1 f none)) (λy=>bN (!y.2) (ay (A.1,A.2.1,d.1,d.2.1,f,A.cz,())) (bN (!A.2.1) (ay (A.1,true,d.1,d.2.1,f,(y.1,y.1),())) (ay (A.1,A.2.1,d.1,d.2.1,f,(if y.1<A.cz.1 then y.1 else A.cz.1,ou y.1 A.cz.2),())))))) (λA=>ay (A.1,A.2.1,A.2.2.1,A.2.2.2.1,aQ A.2.2.2.2.1,A.cz,()))) (a7 (A.2.1,A.cz,()))) (x.2,false,e,aB e,0,(0,0),()))) λA=>mpure (A.2.1,A.1)
def abw(x:Option gr×Option Int×Option aW):G (Int×Bool):=
 bj (λA=>letI b:=A.2.2.2;aG (b.2.1<10) (b1 (ao (Q7 (A.1,b.2.1,A.2.1)) (λy=>bN y.2 (ay (A.1,A.2.1,A.2.2.1,e_ b.1 A.2.2.1.2.2.2.2.2.2.2.2.2.2,b.2.1,())) (ay (A.1,A.2.1,A.2.2.1,b.1,b.2.1,())))) (λA=>ay (A.1,A.2.1,A.2.2.1,A.2.2.2.1,e_ A.2.2.2.2.1 1,()))) (a7 (b.1,()))) (x.1,x.2.1.getD 0,x.2.2.getD ([],[],[],[],0,0,0,0,0,0,0),0,0,()) λA=>mpure (A.1,true)
def abx(x:List bC):G (List bC):=
 bj (λA=>aG (A.2.1<=99) (bj (λA=>letI d:=A.2.2;letI e:=aL A.1 d.1 (0,0,0,0,0,0);dn d.1 A.1 (aG (e.1=A.2.1) (a6 d.1 A.1 (cM d.2.1 (a7 (A.1,A.2.1,d.2.1++[e],())))) (ay (A.1,A.2.1,aQ d.1,d.2.1,()))) (a7 (A.1,A.2.1,d.2.1,()))) (A.1,A.2.1,0,A.2.2.1,()) (λA=>ay (A.1,aQ A.2.1,A.2.2.1,()))) (a7 (A.2.2.1,()))) (x,0,[],()) λA=>mpure A.1
def aby(x:z1'×Int):G Bool:=
 ao (xH x) λy=>mpure y
def abz(x:Option hz×Option Int):G Bool:=
 ao (Kr (x.2.getD 0)) λy=>mpure y
def abA(x:Int):G Bool:=
 ao (sg (x,0,99)) λy=>mpure y
def abB(x:Option gr×Option (Option hz)×Option Int×Option aW):G (Int×Bool):=
 ao (aaY (x.2.1.getD none,x.1)) λy=>ao (any y) λL=>ao (kY (λA (y:bC×Int)=>letI b:=aaX (A.2.1.2.2.2.2,y.2);ao (aG (y.1.2.2.2.2.2=A.1) (bT b (mpure (dQ.normal,e_ A.2.2.1 (fY b),()))) (mpure (dQ.normal,A.2.2.1,()))) λp=>mpure (p.1,A.1,A.2.1,p.2.1,())) L (x.2.2.1.getD 0,x.2.2.2.getD ([],[],[],[],0,0,0,0,0,0,0),0,())) λp=>B0 (mpure (p.2.2.2.1,true)) (λid=>if id=0 then mpure (p.2.2.2.1,true) else eu) eu p.1
def arS(arT:Option (Option gr)×Option (Option hz)->List bY->Prop)(x:Option hz×Option gr):G (List bY->Prop):=
 mpure (arT (some x.2,some x.1))
def abC(x:aW):G Bool:=
 letI q:=cN (aB x.1) 3||cN (aB x.2.1) 12||cN (aB x.2.2.1) 12||cN (aB x.2.2.2.1) 4;b3 (!q) (arx x.2.2.2.2) false λy=>bN (q||!y) hy (bj (λA=>letI cm:=A.2.2;letI z:=aL A.1 cm.1 (0,0);aG (cm.1<A.2.1) (a6 cm.1 A.1 (ao (sg (z.1,-30,z.2)) (λy=>bN (!y||cN z.2 30) (b_ false) (ay (A.1,A.2.1,aQ cm.1,cm.2.1,()))))) (a7 (cm.2.1,()))) (x.1,aB x.1,0,x,()) (λA=>bj (λA=>letI cd:=A.2.2.2.1;letI s:=A.2.2.1;letI w:=aL A.1 s (0,0);letI o:=sg (w.1,0,w.2);letI t:=(!(kJ o))=true;letI n:=kJ o||cN w.2 9999;letI v:=(!n)=true;letI p:=(!n&&cN s 0)=true;letI u:=p->p/\True/\True;aG (s<A.2.1) (a6 s A.1 (bT o (ad (t->t/\True/\True) (ad (t->(t/\True)/\True/\True) (ad (True/\(kJ o=false->t)) (ad (v->(v/\True)/\True/\True) (ad (v->True/\True/\v) (ad u (ad u (ad (p->(p/\True)/\True/\True) (ad (p->(p/\p)/\(0<=cu s 1/\cu s 1<aB cd.2.2.2.1)/\True) (ad u (ad u (ad (p->(p/\p)/\True/\True) (ad (v->(v/\(cN s 0=true->p))/\True/\True) (ad (True/\(n=false->v)) (bN (n||cN s 0&&hN w.1 (aL cd.2.2.2.1 (cu s 1) (0,0)).2) (b_ false) (ay (A.1,A.2.1,aQ s,cd,()))))))))))))))))))) (a7 (cd,()))) (A.1.2.2.2.1,aB A.1.2.2.2.1,0,A.1,()) λA=>ao (aaZ (A.1.2.1,λx=>ary (x,some A.1))) λy=>b3 (!y) (Kb (A.1.2.2.1,arz)) false λb8=>mpure (!y&&!b8)))
def arU(x:List bC):G (List bC×Bool):=
 bj (λ(A:List bC×Int×Int×List (Int×bC)×Unit)=>letI i:=A.2.2.1;letI g:=A.2.2.2.1;letI f:=aL A.1 i (0,0,0,0,0,0);aG (i<A.2.1) (a6 i A.1 (if (gC (λp=>bU f.1 p.1) g).isSome&&!(bU ((gC (λp=>bU f.1 p.1) g).getD (0,0,0,0,0,0)).1 f.1&&(bU ((gC (λp=>bU f.1 p.1) g).getD (0,0,0,0,0,0)).2.1 f.2.1&&(bU ((gC (λp=>bU f.1 p.1) g).getD (0,0,0,0,0,0)).2.2.1 f.2.2.1&&(bU ((gC (λp=>bU f.1 p.1) g).getD (0,0,0,0,0,0)).2.2.2.1 f.2.2.2.1&&(bU ((gC (λp=>bU f.1 p.1) g).getD (0,0,0,0,0,0)).2.2.2.2.1 f.2.2.2.2.1&&bU ((gC (λp=>bU f.1 p.1) g).getD (0,0,0,0,0,0)).2.2.2.2.2 f.2.2.2.2.2))))) then b_ ([],false) else ay (A.1,A.2.1,aQ i,m_ g f.1 f,()))) (a7 (g,()))) (x,aB x,0,[],()) λA=>b1 (ao (aa0 A.1) (λy=>ao (Q8 y) λy=>dG (λA=>letI h:=A.2.2;aG (h.1<A.2.1) (a6 h.1 A.1 (cM h.2.1 (ay (A.1,A.2.1,aQ h.1,h.2.1++[(gC (λp=>bU (aL A.1 h.1 0) p.1) h.2.2.1).getD (0,0,0,0,0,0)],h.2.2.1,())))) (a7 (h.2.1,()))) (y,aB y,0,[],A.1,()))) λA=>mpure (A.1,true)
def abD(x:aW):G Bool:=
 letI cd:=cN (aB x.1) 3||cN (aB x.2.1) 12||cN (aB x.2.2.1) 12||cN (aB x.2.2.2.1) 4;b3 (!cd) (arA x.2.2.2.2) false λy=>bN (cd||!y) hy (bj (λA=>letI i1:=A.2.1;letI w:=aL i1.1 A.1 (0,0);letI E:=l0 (w.1,-30,w.2);letI s:=kJ E;letI v:=(!s)=true;letI f1:=v->v/\True/\True;dn A.1 i1.1 (a6 A.1 i1.1 (bT E (ad f1 (ad (v->(v/\v)/\(0<=A.1/\A.1<aB i1.1)/\True) (ad f1 (ad f1 (ad (v->(v/\True)/\True/\True) (ad (True/\(s=false->v)) (bN (s||cN w.2 30) (b_ false) (ay (aQ A.1,i1,()))))))))))) (a7 (i1,()))) (0,x,()) (λA=>bj (λA=>letI bx:=arB (A.2.1,aL A.2.1.2.1 A.1 (0,0,0,0,0,0));dn A.1 A.2.1.2.1 (bT bx (bN (kJ bx) (b_ false) (ay (aQ A.1,A.2.1,())))) (a7 (A.2.1,()))) (0,A.1,()) λA=>bj (λA=>dn A.1 A.2.1.2.2.1 (ao (l0 (aL A.2.1.2.2.1 A.1 0,0,99)) (λy=>bN (!y) (b_ false) (ay (aQ A.1,A.2.1,())))) (a7 (A.2.1,()))) (0,A.1,()) λA=>bj (λA=>letI aY:=cu A.1 1;letI iD:=cN A.1 0;letI g1:=A.2.1.2.2.2.1;letI z:=aL g1 A.1 (0,0);letI t:=l0 (z.1,0,z.2);letI cm:=(!(kJ t))=true;letI q:=kJ t||cN z.2 9999;letI ax:=(!q)=true;letI u:=(!q&&iD)=true;letI d1:=u->u/\True/\True;dn A.1 g1 (bT t (ad (cm->cm/\True/\True) (ad (cm->(cm/\True)/\True/\True) (ad (True/\(kJ t=false->cm)) (ad (ax->(ax/\True)/\True/\True) (ad (ax->True/\True/\ax) (ad d1 (ad d1 (ad (u->(u/\True)/\True/\True) (ad (u->(u/\u)/\(0<=aY/\aY<aB g1)/\True) (ad d1 (ad d1 (ad (u->(u/\u)/\True/\True) (ad (ax->(ax/\(iD=true->u))/\True/\True) (ad (True/\(q=false->ax)) (bN (q||iD&&hN z.1 (aL g1 aY (0,0)).2) (b_ false) (ay (aQ A.1,A.2.1,())))))))))))))))))) (a7 ())) (0,A.1,()) λA=>hO))
def abE(x:bC×Int×Int×Int×Int×Int×Int):G Bool:=
 mpure (bU x.1.1 x.2.1&&!(bU x.1.1 x.2.1&&(bU x.1.2.1 x.2.2.1&&(bU x.1.2.2.1 x.2.2.2.1&&(bU x.1.2.2.2.1 x.2.2.2.2.1&&(bU x.1.2.2.2.2.1 x.cz&&bU x.1.2.2.2.2.2 x.2.2.2.2.2.2))))))
def abF(x:aW×Bool):G (List (z1')×Int):=
 ao (xM x.1) λy=>aG (y≠0) (mpure ([],y)) (if !x.2 then mpure ([],1) else ao (aa4 (x.1,[])) λy=>aG (aB y=0) (mpure ([],3)) (mpure (y,0)))
def abG(x:Int×Int×Int):G Bool:=
 ao (qj x) λy=>mpure y
def abH(x:(Int×Int)×Int×Bool):G (Int×Int):=
 bN x.2.2 (mpure (x.2.1,x.2.1)) (mpure (if x.2.1<x.1.1 then x.2.1 else x.1.1,ou x.2.1 x.1.2))
def abI(x:aW×Int):G (z1'×Int):=
 letI d:=Ga (x.1,eS (aa1 x));bT (aa1 x) (bT d (aG ((G.val d ([],0)).2≠0) (mpure ([],(G.val d ([],0)).2)) (bj (λA=>letI f:=A.2.2;letI e:=aa2 (f.2.1,aL A.2.1 f.1 [],A.1);cR f.1 A.2.1 (b1 (a6 f.1 A.2.1 (bT e (aG (G.val e (0:Int)>=0) (cM f.2.2.1 (ay (A.1,A.2.1,f.1,f.2.1,f.2.2.1++[fY e],()))) (ay (A.1,A.2.1,f.1,f.2.1,f.2.2.1,()))))) (λA=>ay (A.1,A.2.1,aQ A.2.2.1,A.2.2.2.1,A.2.2.2.2.1,()))) (a7 (f.2.2.1,()))) (x.2,(G.val d ([],0)).1,0,x.1,[],()) (λA=>aG (aB A.1=0) (mpure ([],3)) (mpure (A.1,0))))))
def abJ(x:aW×z1'×Int):G Int:=
 ao (Kq x.1) λy=>bj (λA=>letI i:=A.2.2;letI l:=i.2.2.1;letI h:=aL i.1 l (0,0,0,0,0,0);letI k:=bU h.2.2.2.1 1;letI j:=aa2 (A.cz,A.1,h.1);cR l i.1 (b1 (a6 l i.1 (ad (k=true->(k=true/\k=true)/\(0<=l/\l<aB i.1)/\True) (if k&&bU h.2.2.2.2.2 A.2.1 then a6 l i.1 (bT j (aG (G.val j (0:Int)>=0) (ao (Ra (A.cz.2.2.2.2,fY j)) (λy=>ay (A.1,A.2.1,i.1,e_ i.2.1 y,l,A.cz,()))) (ay (A.1,A.2.1,i.1,i.2.1,l,A.cz,())))) else ay (A.1,A.2.1,i.1,i.2.1,l,A.cz,())))) (λA=>ay (A.1,A.2.1,A.2.2.1,A.2.2.2.1,e_ A.2.2.2.2.1 1,A.cz,()))) (a7 (i.2.1,()))) (x.2.1,x.2.2,y,0,0,x.1,()) λA=>mpure A.1
def abK(x:aW×z1'×Int×Int):G (Int×Int):=
 ao (Rg (x.1,x.2.1,x.2.2.1)) λy=>bj (λA=>letI f:=A.2.2.2;letI g:=f.2.1;letI e:=aL f.1 g ((0,0,0,0,0,0),0);cR g f.1 (b1 (a6 g f.1 (aG (e.2<=A.1) (a6 g f.1 (a6 g f.1 (a6 g f.1 (aG (e.1.2.2.2.1=2) (ay (A.1,-1,e.2,f.1,g,())) (ay (A.1,e.1.2.2.2.2.2,e.2,f.1,g,())))))) (ay (A.1,A.2.1,A.2.2.1,f.1,g,())))) (λA=>ay (A.1,A.2.1,A.2.2.1,A.2.2.2.1,aQ A.2.2.2.2.1,()))) (a7 (A.2.1,A.2.2.1,()))) (x.2.2.2,-1,0,y.1,0,()) λA=>mpure (A.1,A.2.1)
def abL(x:aW×z1'×Int):G Int:=
 bj (λA=>letI b:=A.2.2.2;aG (b.1<=9) (b1 (ao (Rb (b.2.1,A.1,b.1,A.2.1)) (λy=>aG (y.1>=0) (ay (A.1,A.2.1,aQ A.2.2.1,b.1,b.2.1,())) (ay (A.1,A.2.1,A.2.2.1,b.1,b.2.1,())))) (λA=>ay (A.1,A.2.1,A.2.2.1,aQ A.2.2.2.1,A.2.2.2.2.1,()))) (a7 (A.2.2.1,()))) (x.2.1,x.2.2,0,0,x.1,()) λA=>mpure A.1
def arV(x:Option hz×Option Int):G Bool:=
 ao (Rf (x.2.getD 0)) λy=>mpure y
def abM(x:aW×Int×Int):G Int:=
 bj (λA=>letI e:=A.2.2.2;letI d:=aL e.1 A.cz (0,0);aG (A.cz<e.2.1) (a6 A.cz e.1 (ay (A.1,A.2.1,cu A.2.2.1 (ou (aQ (cu (if cu A.2.1 1<d.2 then cu A.2.1 1 else d.2) (ou A.1 d.1))) 0),e.1,e.2.1,aQ A.cz,()))) (a7 (A.2.2.1,()))) (x.2.1,x.2.2,cu x.2.2 x.2.1,x.1.2.2.2.1,aB x.1.2.2.2.1,0,()) λA=>mpure A.1
def abN(x:aW×Int×Int):G Int:=
 bj (λA=>letI g:=A.2.2.2;letI h:=g.2.1.2.2.2.1;letI f:=aL h g.1 (0,0);dn g.1 h (a6 g.1 h (ay (A.1,A.2.1,cu A.2.2.1 (ou (aQ (cu (if f.2<cu A.2.1 1 then f.2 else cu A.2.1 1) (ou f.1 A.1))) 0),aQ g.1,g.2.1,()))) (a7 (A.2.2.1,()))) (x.2.1,x.2.2,ou (cu x.2.2 x.2.1) 0,0,x.1,()) λA=>mpure A.1
def abO(x:z3'):G (z3'):=
 ao (any (λb=>b=true->x=[])) λy=>bN y (mpure []) (dN x (mpure ([]++x)))
def abP(x:bC×Option aW):G Bool:=
 ao (zS ((x.2.getD ([],[],[],[],0,0,0,0,0,0,0)).2.2.1,x.1.1)) λy=>mpure y
def abQ(x:Option hz×Option Int):G Bool:=
 ad x.1.isSome (ao (aaZ ((x.1.getD (([],[],[],[],0,0,0,0,0,0,0),[],[])).2.1,λiC=>arC (iC,some (x.2.getD 0)))) (λy=>mpure y))
def arW(x:List bC×(Int×Int×Int×Int×Int×Int->G Bool)):G Bool:=
 ao (aa3 x) λy=>mpure (decide (y>=0))
def arX(x:bC×Option Int):G Bool:=
 mpure (bU x.1.1 (x.2.getD 0)&&bU x.1.2.2.2.1 1)
def abR(x:Option gr×Option (Option hz)×Option Int×Option (Int->G Int)):G (Int×Bool):=
 ao (aaY (x.2.1.getD none,x.1)) λy=>ao (any y) λL=>ao (kY (λA (y:bC×Int)=>ao (aG (y.1.1=A.1) (ao (A.2.1 y.2) (λy=>mpure (dQ.ret,y,true,()))) (mpure (dQ.normal,A.2.2.1,A.2.2.2.1,()))) λp=>mpure (p.1,A.1,A.2.1,p.2.1,p.2.2.1,())) L (x.2.2.1.getD 0,x.2.2.2.getD λx=>{ et:=False,bo:=λx=>False },0,false,())) λp=>B0 (mpure (0,false)) (λid=>if id=0 then mpure (0,false) else eu) (mpure (p.2.2.2.1,p.2.2.2.2.1)) p.1
def abS(x:Int×Int×Int×Int×Int×Int×Int):G Bool:=
 bj (λA=>aG (A.2.1<A.1) (a6 A.2.1 A.2.2.2.1 (ao (sg (aL A.2.2.2.1 A.2.1 0,0,100000)) (λy=>if !y then b_ false else ay (A.1,aQ A.2.1,A.2.2.1,A.2.2.2.1,())))) (a7 (A.2.2.1,()))) (Int.ofNat (Add.add (Add.add (Add.add (Add.add 0 1) 1) 1) 1),0,x,[x.2.2.1,x.2.2.2.1,x.cz,x.2.2.2.2.2.2],()) λA=>ao (sg (A.1.1,0,9999)) λy=>b3 y (sg (A.1.2.1,1,9999)) false λb8=>b3 (y&&b8) (sg (A.1.2.2.2.2.1,1,9999)) false λdZ=>mpure (y&&b8&&dZ)
def abT(x:bC×Option aW):G Bool:=
 ao (arD (x.2.getD ([],[],[],[],0,0,0,0,0,0,0),x.1)) λy=>mpure (!y)
def abU(x:aW×Int×Int×Int×Int×Int×Int):G Bool:=
 letI f:=x.2.2.2.2;letI d:=bU f.1 1||bU f.1 2&&bU f.2.2 0;b3 d (Kr x.2.1) false λy=>b3 (d&&y) (Kr f.2.2) false λb8=>b3 (d&&y&&b8) (sg (x.2.2.1,0,cu (aB x.1.1) 1)) false λdZ=>letI e:=d&&y&&b8&&dZ;b3 e (sg (x.2.2.2.1,0,9999)) false λhP=>b3 (e&&hP) (sg (x.cz,0,9)) false λmZ=>mpure (e&&hP&&mZ)
def abV(x:Int):G Bool:=
 ao (Kr x) λy=>mpure (!y)
def arY(arZ:Option (List (Int×bC))->z1'->Prop)(x:List (Int×bC)):G (z1'->Prop):=
 mpure (arZ (some x))
def abW(x:Int×Int×Int×Int×Int×Int×Int):G Bool:=
 ao (l0 (x.1,0,9999)) λy=>b3 y (l0 (x.2.1,1,9999)) false λb8=>b3 (y&&b8) (l0 (x.2.2.2.2.1,1,9999)) false λdZ=>b3 (y&&b8&&dZ) (l0 (x.2.2.1,0,100000)) false λhP=>letI b:=y&&b8&&dZ&&hP;b3 b (l0 (x.2.2.2.1,0,100000)) false λmZ=>b3 (b&&mZ) (l0 (x.cz,0,100000)) false λxJ=>b3 (b&&mZ&&xJ) (l0 (x.2.2.2.2.2.2,0,100000)) false λF7=>mpure (b&&mZ&&xJ&&F7)
def abX(x:aW×Int×Int×Int×Int×Int×Int):G Bool:=
 letI d:=x.2.2.2.2;ao (l0 (x.2.1,0,99)) λy=>b3 (!(!y)) (l0 (x.2.2.1,0,cu (aB x.1.1) 1)) false λb8=>b3 (!(!y||!b8)) (l0 (x.2.2.2.1,0,9999)) false λdZ=>letI c:=!y||!b8||!dZ;b3 (!c) (l0 (x.cz,0,9)) false λhP=>b3 (!(c||!hP)) (l0 (d.2.2,0,99)) false λmZ=>bN (c||!hP||!mZ) hy (mpure (bU d.1 1||bU d.1 2&&bU d.2.2 0))
def abY(x:aW×z1'):G (List (z1')):=
 letI f:=aL x.1.1 (aB x.2) (0,0);aG (aB x.2=aB x.1.1) (ao (arE x) (λy=>bN y (mpure [x.2]) (mpure []))) (a6 (aB x.2) x.1.1 (bj (λA=>letI g:=A.2.2;letI e:=aa4 (g.1,[]++A.1++[A.2.1]);aG (A.2.1<=g.2.2.1.2) (dN A.1 (cM ([]++A.1) (bT e (ad (bW (Add.add g.2.1.length (G.val e []).length)) (ay (A.1,aQ A.2.1,g.1,g.2.1++G.val e [],g.2.2.1,())))))) (a7 (g.2.1,()))) (x.2,f.1,x.1,[],f,()) (λA=>mpure A.1)))
def abZ(x:aW×Int):G Bool:=
 ao (Kq x.1) λy=>bj (λA=>letI g:=A.2.2.1;letI f:=aL A.2.1 g (0,0,0,0,0,0);letI e:=bU f.1 A.1;dn g A.2.1 (ad (e=true->(e=true/\e=true)/\(0<=g/\g<aB A.2.1)/\True) (if e&&bU f.2.2.2.1 1 then b_ true else ay (A.1,A.2.1,aQ g,()))) (a7 ())) (x.2,y,0,()) λA=>hy
def ab0(x:aW×z1'×Int):G Int:=
 bj (λA=>aG (A.2.2.1<=9) (b1 (ao (Rg (A.2.2.2.1,A.1,A.2.2.1)) (λy=>dG (λA=>letI i:=A.2.2.2;letI l:=aQ i.2.1;letI h:=aL i.1 i.2.1 ((0,0,0,0,0,0),0);letI k:=bU h.1.1 A.2.1;letI j:=aaV (A.cz,h.2,(aL i.1 l ((0,0,0,0,0,0),0)).2);cR l i.1 (a6 i.2.1 i.1 (ad (k=true->(k=true/\k=true)/\(0<=i.2.1/\i.2.1<aB i.1)/\True) (if k&&bU h.1.2.2.2.1 1 then a6 i.2.1 i.1 (a6 l i.1 (bT j (e9 (e9 (b_ (fY j)))))) else ay (A.1,A.2.1,A.2.2.1,i.1,l,A.cz,())))) (a7 (A.1,A.2.1,A.2.2.1,A.cz,()))) (A.1,A.2.1,A.2.2.1,y.1,0,A.2.2.2.1,()))) (λA=>ay (A.1,A.2.1,aQ A.2.2.1,A.2.2.2.1,()))) (a7 ())) (x.2.1,x.2.2,0,x.1,()) λA=>mpure (-1)
def ab1(x:aW×z1'×Int):G (List bY×Bool):=
 ao (Kq x.1) λy=>bj (λA=>letI g1:=A.2.2;letI v1:=g1.2.2.1;letI dh:=g1.2.1;letI d1:=aL g1.1 dh (0,0,0,0,0,0);letI aY:=v1++[(d1,e_ d1.2.2.1 (aL A.1 d1.2.1 0))];cR dh g1.1 (b1 (a6 dh g1.1 (aG (d1.2.2.2.2.1≠A.2.1) (ay (A.1,A.2.1,g1.1,dh,v1,())) (a6 dh g1.1 (a6 dh g1.1 (a6 dh g1.1 (a6 d1.2.1 A.1 (cM v1 (dG (λA=>letI fW:=A.cz;letI ax:=A.2.2.2.2.1;letI b4:=aL fW ax ((0,0,0,0,0,0),0);letI dO:=cu ax 1;letI E:=aL fW dO ((0,0,0,0,0,0),0);letI t1:=List.set fW ax.toNat E;letI cm:=cN ax 0=true;letI i1:=cm->cm/\True/\True;ad (cm->(cm/\cm)/\(0<=ax/\ax<aB fW)/\True) (ad i1 (ad i1 (ad (cm->(cm/\True)/\True/\True) (ad (cm->(cm/\cm)/\(0<=dO/\dO<aB fW)/\True) (ad i1 (ad i1 (ad (cm->(cm/\cm)/\True/\True) (ad (True/\(cm->cm)) (bN (cN ax 0&&py b4.2 E.2) (a6 dO fW (a6 ax fW (a6 ax fW (a6 dO t1 (ay (A.1,A.2.1,A.2.2.1,A.2.2.2.1,dO,List.set t1 dO.toNat b4,())))))) (a7 (A.1,A.2.1,A.2.2.1,A.2.2.2.1,fW,())))))))))))) (A.1,A.2.1,g1.1,dh,cu (aB aY) 1,aY,()))))))))) (λA=>ay (A.1,A.2.1,A.2.2.1,aQ A.2.2.2.1,A.2.2.2.2.1,()))) (a7 (v1,()))) (x.2.1,x.2.2,y,0,[],()) λA=>bj (λA=>letI ff:=A.1;letI s1:=A.2.1;letI hK:=aL s1 ff ((0,0,0,0,0,0),0);letI dI:=(0<=ff/\ff<aB s1)/\True;letI bx:=cN ff 0=true;letI iD:=bx->bx/\True/\True;letI cd:=cN ff 0&&bU hK.2 (aL s1 (cu ff 1) ((0,0,0,0,0,0),0)).2;letI f1:=(!cd)=true;letI m1:=f1->f1/\True/\True;cR ff s1 (ad (bx->(bx/\bx)/\dI) (ad iD (ad iD (ad (bx->(bx/\True)/\True/\True) (ad (bx->(bx/\bx)/\(0<=cu ff 1/\cu ff 1<aB s1)/\True) (ad iD (ad iD (ad (bx->(bx/\bx)/\True/\True) (ad (True/\(bx->bx)) (ad (f1->(f1/\f1)/\dI) (ad m1 (ad m1 (ad m1 (ad (f1->(f1/\True)/\(2:Int)≠0/\True) (ad (f1->(True/\f1)/\True/\True) (ad (f1->(f1/\f1)/\True/\True) (ad (True/\(cd=false->f1)) (bN (cd||eM hK.1.2.2.2.1 (e_ 1 (Int.tmod ff 2))) (b_ ([],false)) (ay (aQ ff,s1,())))))))))))))))))))) (a7 (s1,()))) (0,A.1,()) λA=>mpure (A.1,true)
def ab2(aI0:Int->G Int)(ar0:Int->G Int)(x:Int):G Int:=
 ao (ar0 x) λy=>mpure y
def ar1(x:List bC×(Int×Int×Int×Int×Int×Int->G Bool)):G Int:=
 bj (λA=>letI b:=A.2.2.2.1;aG (b<A.2.2.1) (a6 b A.1 (ao (A.2.1 (aL A.1 b (0,0,0,0,0,0))) (λy=>bN y (b_ b) (ay (A.1,A.2.1,A.2.2.1,aQ b,()))))) (a7 ())) (x.1,x.2,aB x.1,0,()) λA=>mpure (-1)
def ab3(x:aW×z1'):G Bool:=
 aG (aB x.2≠aB x.1.1) hy (bj (λA=>letI h:=A.2.1;letI g:=A.2.2.1;letI f:=l0 (aL A.1 h 0,aL g.1 h (0,0));dn h A.1 (a6 h g.1 (a6 h g.1 (bT f (bN (kJ f) (b_ false) (ay (A.1,aQ h,g,())))))) (a7 (A.1,g,()))) (x.2,0,x.1,()) (λA=>bj (λA=>aG (A.2.1<=9) (ao (Rg (A.2.2.1,A.1,A.2.1)) (λy=>bN (!y.2) (b_ false) (ay (A.1,aQ A.2.1,A.2.2.1,())))) (a7 ())) (A.1,0,A.2.1,()) λA=>hO))
def Gb(x:Int):G Int:=
 b1 (aG (x>=4294967296) (ad ((0:Int)<=32) (ay (kA .u64 x 32,32,()))) (ay (x,0,()))) λA=>b1 (aG (A.1>=65536) (ad ((0:Int)<=16) (ay (kA .u64 A.1 16,e_ A.2.1 16,()))) (ay (A.1,A.2.1,()))) λA=>b1 (aG (A.1>=256) (ad ((0:Int)<=8) (ay (kA .u64 A.1 8,e_ A.2.1 8,()))) (ay (A.1,A.2.1,()))) λA=>letI b:=IntKind.wrap .u8 A.1;ad (0<=b/\b<Int.ofNat 256) (mpure (e_ A.2.1 (IntKind.wrap .i64 (Int.ofNat (aq_.getD b.toNat 0).1.1.1))))
def ab4(x:z1'):G (z1'):=
 ao (any (λb=>b=true->x=[])) λy=>bN y (mpure []) (dN x (mpure ([]++x)))
def ab5(x:bY×bC×Int):G Int:=
 ao (arF (x.1.2,x.2.2)) λy=>mpure y
def ab6(x:Int×Int):G Int:=
 ao (aa5 x.1) λy=>ao (aa5 x.2) λb8=>bN y (bN b8 (mpure 0) (mpure (-1))) (bN b8 (mpure 1) (aG (x.1<x.2) (mpure (-1)) (aG (x.1 > x.2) (mpure 1) (mpure 0))))
def ab7(x:Int):G Bool:=
 mpure (eM x x)
def ab8(x:(z1'->Prop)×Unit):G (z1'×Unit):=
 ao (any x.1) λL=>ao (kY (λA (y:Int)=>ao (cM A.1 (mpure (dQ.normal,A.1++[y],()))) λp=>mpure (p.1,p.2.1,())) L ([],())) λp=>B0 (mpure (p.2.1,())) (λid=>if id=0 then mpure (p.2.1,()) else eu) eu p.1
def ab9(x:(z1'->Prop)×Unit):G (z1'×Unit):=
 ao (arG (x.1,())) λy=>mpure (y.1,())
def ab_(x:(Int×Int×Int×Int×Int×Int->G Bool)×List bC×Unit):G ((Nat×Nat)×List bC×Unit):=
 ao (aa3 (x.2.1,x.1)) λy=>aG (y=-1) (mpure ((0,x.2.1.length),x.2.1,())) (bj (λA=>letI l:=A.2.2.1;letI i:=A.2.2.2.1;letI m:=aL i l (0,0,0,0,0,0);cR l i (b1 (a6 l i (ao (A.1 m) (λy=>if !y then a6 A.2.1 i (ay (A.1,aQ A.2.1,l,List.set i A.2.1.toNat m,())) else ay (A.1,A.2.1,l,i,())))) (λA=>ay (A.1,A.2.1,aQ A.2.2.1,A.2.2.2.1,()))) (a7 (A.2.1,i,()))) (x.1,y,aQ y,x.2.1,()) (λA=>letI k:=A.1.toNat;letI j:=aB A.2.1;letI h:=A.2.1.take k++List.replicate (j.toNat-k) (0,0,0,0,0,0)++A.2.1.drop (Add.add k (List.replicate (j.toNat-k) ((0,0,0,0,0,0):bC)).length);ad (0<=A.1/\A.1<=j/\j<=j) (ad True (ad ((0:Int)<=0/\0<=A.1/\A.1<=aB h) (mpure ((Int.toNat 0,k),h,()))))))
def Ks(x:Nat×Option gr×Option hz×(Nat×(List bY->Prop)×List bY×Bool)×Unit):G ((Nat×(List bY->Prop)×List bY×Bool)×Unit):=
 ad x.2.1.isSome (dG (λA=>letI n:=A.2.2.2;aG (n.1<10) (b1 (ad (0<=n.1/\n.1<Int.ofNat 10) (dG (λ(A:Nat×Option hz×List bY×Int×List (List bY)×Int×(Nat×(List bY->Prop)×List bY×Bool)×Unit)=>letI o:=A.er;letI l:=A.2.2;letI p:=l.2.1;letI k:=aL l.1 p ((0,0,0,0,0,0),0);letI j:=aaU ((A.2.1.getD (([],[],[],[],0,0,0,0,0,0,0),[],[])).1,k.2,(aL l.1 (aQ p) ((0,0,0,0,0,0),0)).2);cR (aQ p) l.1 (a6 p l.1 (ad A.2.1.isSome (a6 p l.1 (a6 (aQ p) l.1 (bT j (ao (ad (A.1=o.1/\o.2.2.2=false/\(∃ (T:List bY),o.2.1 (o.2.2.1++(k.1,fY j)::T))) (any (λx=>True))) (λy=>letI m:=(o.1,o.2.1,o.2.2.1++[(k.1,fY j)],!y);if !y then e9 (b_ (m,())) else ay (A.1,A.2.1,l.1,e_ p 2,l.2.2.1,A.cz,m,())))))))) (a7 (A.1,A.2.1,l.2.2.1,A.cz,o,()))) (A.1,A.2.1,aL A.2.2.1 n.1 [],0,A.2.2.1,n.1,n.2.1,()))) (λA=>ay (A.1,A.2.1,A.2.2.1,aQ A.2.2.2.1,A.2.2.2.2.1,()))) (hU (n.2.1,()))) (x.1,x.2.2.1,(x.2.1.getD ([],[[],[],[],[],[],[],[],[],[],[]])).2,0,x.2.2.2.1,()))
def ab'(x:Int×Int×(bY×bC×Int->G Int)×List bY×Unit):G (List bY×Unit):=
 dG (λA=>letI t:=A.2.2.2;aG (t.1<A.2.1) (bj (λ(A:Int×Int×(bY×bC×Int->G Int)×Int×Int×List bY×Unit)=>letI u:=A.2.2;letI q:=A.cz;letI n:=u.2.2.1;letI v:=cN n A.1;letI s:=aL q n ((0,0,0,0,0,0),0);letI p:=cu n 1;letI o:=aL q p ((0,0,0,0,0,0),0);letI w:=List.set q n.toNat o;letI m:=v=true;letI z:=m->m/\True/\True;ad (m->(m/\m)/\(0<=n/\n<aB q)/\True) (ad z (ad (m->(m/\True)/\True/\True) (ad (m->(m/\m)/\(0<=p/\p<aB q)/\True) (ad z (ad (m->m/\m/\m/\True) (b3 v (u.1 (s,o)) 0 (λy=>if v&&py y 0 then a6 p q (a6 n q (a6 n q (a6 p w (ay (A.1,A.2.1,u.1,u.2.1,p,List.set w p.toNat s,()))))) else a7 (A.1,A.2.1,u.1,u.2.1,q,()))))))))) (A.1,A.2.1,A.2.2.1,t.1,t.1,t.2.1,()) (λA=>ay (A.1,A.2.1,A.2.2.1,aQ A.2.2.2.1,A.2.2.2.2.1,()))) (hU (t.2.1,()))) (x.1,x.2.1,x.2.2.1,aQ x.1,x.2.2.2.1,())
def Rh(x:Nat×z3'×(Nat×(z1'->Prop)×z1'×Bool)×Unit):G ((Nat×(z1'->Prop)×z1'×Bool)×Unit):=
 ao (mpure ()) λy=>dG (λA=>letI f:=A.2.1;letI e:=A.2.2.1;ao (I0 e.2) λy=>bN y.isSome (ao (ad (po e.1 e.2 y).isSome (mpure ())) (λb8=>ao (ad (A.1=f.1/\f.2.2.2=false/\(∃ (T:z1'),f.2.1 (f.2.2.1++(Option.map (λx=>x.1) (po e.1 e.2 y)).getD 0::T))) (any (λx=>True))) λdZ=>letI d:=(f.1,f.2.1,f.2.2.1++[(Option.map (λx=>x.1) (po e.1 e.2 y)).getD 0],!dZ);bN (!dZ) (hU (d,())) (ay (A.1,d,(po e.1 e.2 y,E6 e.2 y),())))) (hU (f,()))) (x.1,x.2.2.1,(none,x.2.1),())
def Ri(x:Nat×List (Int×bC)×(Nat×(z1'->Prop)×z1'×Bool)×Unit):G ((Nat×(z1'->Prop)×z1'×Bool)×Unit):=
 ao (mpure ()) λy=>dG (λA=>letI f:=A.2.1;letI e:=A.2.2.1;ao (I0 e.2) λy=>bN y.isSome (ao (ad (po e.1 e.2 y).isSome (mpure ())) (λb8=>ao (ad (A.1=f.1/\f.2.2.2=false/\(∃ (T:z1'),f.2.1 (f.2.2.1++(Option.map (λx=>x.1) (po e.1 e.2 y)).getD 0::T))) (any (λx=>True))) λdZ=>letI d:=(f.1,f.2.1,f.2.2.1++[(Option.map (λx=>x.1) (po e.1 e.2 y)).getD 0],!dZ);bN (!dZ) (hU (d,())) (ay (A.1,d,(po e.1 e.2 y,E6 e.2 y),())))) (hU (f,()))) (x.1,x.2.2.1,(none,x.2.1),())
def ar2(x:List bC×Unit):G (Bool×List bC×Unit):=
 bj (λ(A:List bC×Int×Int×List (Int×bC)×Unit)=>letI i:=A.2.2.1;letI g:=A.2.2.2.1;letI f:=aL A.1 i (0,0,0,0,0,0);aG (i<A.2.1) (a6 i A.1 (if (gC (λp=>bU f.1 p.1) g).isSome&&!(bU ((gC (λp=>bU f.1 p.1) g).getD (0,0,0,0,0,0)).1 f.1&&(bU ((gC (λp=>bU f.1 p.1) g).getD (0,0,0,0,0,0)).2.1 f.2.1&&(bU ((gC (λp=>bU f.1 p.1) g).getD (0,0,0,0,0,0)).2.2.1 f.2.2.1&&(bU ((gC (λp=>bU f.1 p.1) g).getD (0,0,0,0,0,0)).2.2.2.1 f.2.2.2.1&&(bU ((gC (λp=>bU f.1 p.1) g).getD (0,0,0,0,0,0)).2.2.2.2.1 f.2.2.2.2.1&&bU ((gC (λp=>bU f.1 p.1) g).getD (0,0,0,0,0,0)).2.2.2.2.2 f.2.2.2.2.2))))) then b_ (false,[],()) else ay (A.1,A.2.1,aQ i,m_ g f.1 f,()))) (a7 (g,()))) (x.1,aB x.1,0,[],()) λA=>b1 (ao (aa0 A.1) (λy=>ao (Q8 y) λy=>dG (λA=>letI h:=A.2.2;aG (h.1<A.2.1) (a6 h.1 A.1 (cM h.2.1 (ay (A.1,A.2.1,aQ h.1,h.2.1++[(gC (λp=>bU (aL A.1 h.1 0) p.1) h.2.2.1).getD (0,0,0,0,0,0)],h.2.2.1,())))) (a7 (h.2.1,()))) (y,aB y,0,[],A.1,()))) λA=>mpure (true,A.1,())
abbrev pE:Type:=List bY×List bY×List bY×List bY×List bY×List bY×List bY×List bY×List bY×List bY×jD
def n3:Nat->pE->List bY
 | 0,r=>r.1
 | 1,r=>r.2.1
 | 2,r=>r.2.2.1
 | 3,r=>r.2.2.2.1
 | 4,r=>r.2.2.2.2.1
 | 5,r=>r.2.2.2.2.2.1
 | 6,r=>r.2.2.2.2.2.2.1
 | 7,r=>r.2.2.2.2.2.2.2.1
 | 8,r=>r.2.2.2.2.2.2.2.2.1
 | 9,r=>r.2.2.2.2.2.2.2.2.2.1
 | _,_=>[]
def Kt:Nat->List bY->pE->pE
 | 0,v,r=>(v,r.2)
 | 1,v,r=>(r.1,v,r.2.2)
 | 2,v,r=>(r.1,r.2.1,v,r.2.2.2)
 | 3,v,r=>(r.1,r.2.1,r.2.2.1,v,r.2.2.2.2)
 | 4,v,r=>(r.1,r.2.1,r.2.2.1,r.2.2.2.1,v,r.2.2.2.2.2)
 | 5,v,r=>(r.1,r.2.1,r.2.2.1,r.2.2.2.1,r.2.2.2.2.1,v,r.2.2.2.2.2.2)
 | 6,v,r=>(r.1,r.2.1,r.2.2.1,r.2.2.2.1,r.2.2.2.2.1,r.2.2.2.2.2.1,v,r.2.2.2.2.2.2.2)
 | 7,v,r=>(r.1,r.2.1,r.2.2.1,r.2.2.2.1,r.2.2.2.2.1,r.2.2.2.2.2.1,r.2.2.2.2.2.2.1,v,r.2.2.2.2.2.2.2.2)
 | 8,v,r=>(r.1,r.2.1,r.2.2.1,r.2.2.2.1,r.2.2.2.2.1,r.2.2.2.2.2.1,r.2.2.2.2.2.2.1,r.2.2.2.2.2.2.2.1,v,r.2.2.2.2.2.2.2.2.2)
 | 9,v,r=>(r.1,r.2.1,r.2.2.1,r.2.2.2.1,r.2.2.2.2.1,r.2.2.2.2.2.1,r.2.2.2.2.2.2.1,r.2.2.2.2.2.2.2.1,r.2.2.2.2.2.2.2.2.1,v,r.2.2.2.2.2.2.2.2.2.2)
 | _,_,r=>r
abbrev aca(r:pE):jD:=r.2.2.2.2.2.2.2.2.2.2
def Rj{X:Type}(l:List bY)(x:bY)(i k:Int)(aN B:G X):G X:=
 letI z:=decide (i > 0);letI y:=IntKind.wrap .i64 (i-1);letI n:=decide (x.1.2.2.2.1≠k);letI m:=(!n)=true;letI b:=(!n&&z)=true;letI c:=b->b/\True/\True;ad (m->(m/\True)/\True/\True) (ad (m->True/\True/\m) (ad c (ad (b->(b/\True)/\True/\True) (ad (b->(b/\b)/\(0<=y/\y<Int.ofNat (List.length l))/\True) (ad c (ad c (ad (b->(b/\b)/\True/\True) (ad (m->(m/\(z=true->b))/\True/\True) (ad (True/\(n=false->m)) (if (n||z&&decide (x.2=(List.getD l (Int.toNat y) ((0,0,0,0,0,0),0)).2))=true then aN else B))))))))))
def Ku(k:Nat)(A:Int×Int×Int×z1'×pE):G (bq (Int×Int×Int×z1'×pE) (bq (Int×z1'×pE) (bq (z1'×pE) (Option gr×Bool×jD)))):=
 letI i:=A.2.2.1;letI l:=n3 k A.2.2.2.2;letI x:=List.getD l (Int.toNat i) ((0,0,0,0,0,0),0);if decide (i<A.2.1)=true then ad (0<=i/\i<Int.ofNat (List.length l)) (ao (ad ((2:Int)≠0) (if decide (Int.tmod i (2:Int)=1)=true then mpure (bq.next (i,2,A.1,A.2.1,i,x,A.2.2.2)) else mpure (bq.next (i,1,A.1,A.2.1,i,x,A.2.2.2)))) (bq.hx (λ(bG:Int×Int×Int×Int×Int×bY×z1'×pE)=>letI r:=bG.2.2.2.2.2.2.2;Rj (n3 k r) bG.2.2.2.2.2.1 bG.1 bG.2.1 (ao (ao (ao (mpure (none,false,aca r)) (λr=>mpure (bq.done r))) (λr=>mpure (bq.done r))) λr=>mpure (bq.done r)) (mpure (bq.next (bG.2.2.1,bG.2.2.2.1,IntKind.wrap .i64 (Add.add bG.2.2.2.2.1 1),bG.2.2.2.2.2.2)))))) else ao (mpure (bq.next (A.1,A.2.2.2))) λr=>mpure (bq.done r)
def Gc(acb:(bY×bC×Int->G Int)×List bY×Unit->G (List bY×Unit))(acd:bY×bC×Int->G Int):Nat->Nat->z1'×pE->G (bq (z1'×pE) (Option gr×Bool×jD))
 | 0,_,s=>mpure (.next s)
 | n+1,k,s=>ao (ad (0<=Int.ofNat k/\Int.ofNat k<Int.ofNat 10) (ao (acb (acd,n3 k s.2,())) (λy=>dG (Ku k) (Int.ofNat k,Int.ofNat (List.length y.1),0,s.1,Kt k y.1 s.2)))) (bq.hx (λ(bG:Int×z1'×pE)=>ad (IntKind.wrap .i64 (Add.add bG.1 1)=Int.ofNat (k+1)) (Gc acb acd n (k+1) bG.2)))
def Kv{X:Type}(f:Nat->G X)(v:Int):Nat->G X
 | 0=>f 0
 | n+1=>if v=Int.ofNat (Add.add n 1) then f (n+1) else Kv f v n
def ace{X:Type}(A:z1'×List bC×Int×Int×z1'×pE)(u:Nat):G (bq (z1'×List bC×Int×Int×z1'×pE) X):=
 letI a:=List.getD A.2.1 (Int.toNat A.2.2.2.1) (0,0,0,0,0,0);letI r:=A.2.2.2.2.2;letI p:=0<=Int.ofNat u/\Int.ofNat u<Int.ofNat 10;ad True (ad p (ad (0<=a.2.1/\a.2.1<Int.ofNat (List.length A.1)) (ad (bW (Add.add (List.length (n3 u r)) (Add.add 0 1))) (ad True (ad p (mpure (bq.next (A.1,A.2.1,A.2.2.1,A.2.2.2.1,A.2.2.2.2.1,Kt u (n3 u r++[((a.1,a.2.1,a.2.2.1,a.2.2.2.1,Int.ofNat u,a.2.2.2.2.2),IntKind.wrap .i64 (Add.add a.2.2.1 (List.getD A.1 (Int.toNat a.2.1) 0)))]) r))))))))
def acf(x:z1'×jD):G (Option gr×Bool×jD):=
 b1 (ao (arH x.1) (λy=>ay (x.1,y,x.2.1,x.2.2.1,x.2.2.2.1,x.2.2.2.2.1,x.cz,x.er,x.fD,x.hj,x.il,x.iX,x.gw,x.k2,x.nC,[],[],[],[],[],[],[],[],[],[],()))) λA=>b1 (ad True (dG (λA=>letI d:=A.2.2.2;letI b:=(aL A.2.1 d.1 (0,0,0,0,0,0)).2.2.2.2.1;aG (d.1<A.2.2.1) (b1 (a6 d.1 A.2.1 (ad (0<=b/\b<Int.ofNat 10) (Kv (ace A) b 9))) (λA=>ay (A.1,A.2.1,A.2.2.1,aQ A.2.2.2.1,A.2.2.2.2))) (a7 d.2)) (A.1,A.nC,aB A.nC,0,A.2.1,A.sd,A.se,A.wq,A.zV,A.wu,A.xK,A.aq',A.Q6,A.tm,A.F8,A.2.2.1,A.2.2.2.1,A.2.2.2.2.1,A.cz,A.er,A.fD,A.hj,A.il,A.iX,A.gw,A.k2,A.nC,A.pD,()))) λA=>b1 (ad True (ad (0=Int.ofNat 0) (Gc arI arJ 10 0 A))) λA=>letI c:=A.2;mpure (some (A.1,[n3 0 c,n3 1 c,n3 2 c,n3 3 c,n3 4 c,n3 5 c,n3 6 c,n3 7 c,n3 8 c,n3 9 c]),true,aca c)
def acg(x:Int×Int×Int×(bY×bC×Int->G Int)×List bY×Unit):G (List bY×Unit):=
 dG (λA=>aG (cu A.2.1 A.1<=12) (ao (arK (A.1,A.2.1,A.2.2.2.1,A.er,())) (λy=>hU (y.1,()))) eu) (x.1,x.2.1,x.2.2.1,x.2.2.2.1,true,true,x.2.2.2.2.1,())
def ach(x:z1'×jD):G (jD):=
 letI g:=aB x.1;ad True (aG (g=aB x.2.1) (b1 (ao (arL (x.1,x.2.1,x.2.2.1,x.2.2.2.1,x.2.2.2.2.1,x.cz,x.er,x.fD,x.hj,x.il,x.iX,x.gw,x.k2,x.nC,())) (λy=>bN y.2.1 (ad True (cM y.pD (ad True (ay (y.2.2.1,y.2.2.2.1,y.2.2.2.2.1,y.cz,y.er,y.fD,y.hj,y.il,y.iX,y.gw,y.k2,y.nC,y.pD++[y.1],()))))) (ay (y.2.2.1,y.2.2.2.1,y.2.2.2.2.1,y.cz,y.er,y.fD,y.hj,y.il,y.iX,y.gw,y.k2,y.nC,y.pD,())))) (λA=>mpure (A.1,A.2.1,A.2.2.1,A.2.2.2.1,A.2.2.2.2.1,A.cz,A.er,A.fD,A.hj,A.il,A.iX,A.gw,A.k2,()))) (ad True (a6 g x.2.1 (dG (λA=>letI f:=A.2;letI h:=A.1.take f.1.toNat;ad True (a6 f.1 f.2.2.1 (aG (f.2.1<=(aL f.2.2.1 f.1 (0,0)).2) (ad ((0:Int)<=0/\0<=f.1/\f.1=f.1/\f.1<=aB A.1) (ad (0<Add.add 0 1/\bW (Add.add h.length (Add.add 0 1))) (ao (aaW (h++[f.2.1],f.2.2.1,f.2.2.2.1,A.cz,A.er,A.fD,A.hj,A.il,A.iX,A.gw,A.k2,A.nC,A.pD,A.sd,())) (λy=>ay (A.1,f.1,aQ f.2.1,y.1,y.2.1,y.2.2.1,y.2.2.2.1,y.2.2.2.2.1,y.cz,y.er,y.fD,y.hj,y.il,y.iX,y.gw,y.k2,()))))) (hU (f.2.2.1,f.2.2.2.1,A.cz,A.er,A.fD,A.hj,A.il,A.iX,A.gw,A.k2,A.nC,A.pD,A.sd,()))))) (x.1,g,(aL x.2.1 g (0,0)).1,x.2.1,x.2.2.1,x.2.2.2.1,x.2.2.2.2.1,x.cz,x.er,x.fD,x.hj,x.il,x.iX,x.gw,x.k2,x.nC,())))))
def ar3(x:(bY×bC×Int->G Int)×List bY×Unit):G (List bY×Unit):=
 ao (arM (IntKind.wrap .u64 (aB x.2.1))) λy=>ao (arN (0,aB x.2.1,y,x.1,x.2.1,())) λy=>mpure (y.1,())
end Go.Fer.H
namespace Go.Fer.H
abbrev bp:aa:=.int .i64
abbrev dm:aa:=.bool
abbrev dV:aa:=.slice bp
abbrev mn:aa:=.ae (.ar bp bp)
abbrev Rk:aa:=.ae (.ar bp (.ar bp (.ar bp (.ar bp (.ar bp (.ar bp bp))))))
abbrev hk:aa:=.ae (.ar (.slice mn) (.ar (.slice hA) (.ar dV (.ar (.slice mn) Rk))))
abbrev Gd:aa:=.ae (.ar hA bp)
abbrev zX:aa:=.ae (.ar dV (.array 10 (.slice Gd)))
abbrev uF:aa:=.ae (.ar hk (.ar (.slice hA) (.slice (.bV zX))))
attribute [simp] uA Zj xF ed HP Vi fZ eV lY lr oF cp tl cy mY Zi bq.ls
section
variable {ag:Type}
def zY(d:ag)(x:List ag×(ag->G Bool)):G Int:=
 ao (dG (λ(A:List ag×(ag->G Bool)×Int×Int×Unit)=>if decide (A.2.2.2.1<A.2.2.1)=true then ad (0<=A.2.2.2.1/\
 A.2.2.2.1<Int.ofNat (List.length A.1)) (ao (A.2.1 (List.getD A.1 (Int.toNat A.2.2.2.1) d)) λy=>if y=true then ao (ao (mpure
 A.2.2.2.1) λr=>mpure (bq.done r)) λr=>mpure (bq.done r) else mpure (bq.next (A.1,A.2.1,A.2.2.1,IntKind.wrap .i64 (Add.add
 A.2.2.2.1 1),()))) else ao (mpure (bq.next ())) λr=>mpure (bq.done r)) (x.1,x.2,Int.ofNat (List.length x.1),0,())) (bq.hx λ(A
 : Unit)=>mpure (-1))
def Ge(c:List ag×(ag->G Bool)->G Int)(x:List ag×(ag->G Bool)):G Bool:=ao (c x) λy=>mpure (decide (y>=0))
def iZ(p:ag->Bool):List ag->Int->Int
 | [],_=>-1
 | x::l,i=>if p x=true then i else iZ p l (i+1)
theorem Cs(p:ag->Bool):∀ (l:List ag) (i:Int),0<=i->(decide (iZ p l i>=0))=l.any p
 | [],i,_=>by rfl
 | x::l,i,h=>by
  simp  [iZ];by_cases al:p x=true
  ·grind
  ·have:=Cs p l (i+1) (by omega);grind
theorem Ct(p:ag->Bool):∀ (l:List ag) (i:Int),e' (λx (i:Int)=>if p x=true then (.done (.done i):bq Int (bq Unit Int)) else .next (i+1)) (λ_=>.next ()) l i=if l.any p=true then .done (iZ p l i) else .next ()
 | [],i=>by rfl
 | x::l,i=>by
  simp  [e',iZ];by_cases al:p x=true
  ·grind
  ·have:=Ct p l (i+1);grind
theorem Gf{p:ag->Bool}:∀ (l:List ag) (i:Int),¬l.any p=true->iZ p l i=-1
 | [],_,_=>rfl
 | x::l,i,aC=>by
  simp only[aK6,aKm,not_or]at aC;simp  [iZ,aC.1,ajq];exact Gf l _ aC.2
theorem Rl(d:ag)(l:List ag)(f:ag->G Bool)(h:l.length<2 ^ 63)(aw:∀ y∈l,∃ b,f y=mpure b):zY d (l,f)=mpure (iZ (λy=>(f y).val false) l 0):=by
 unfold zY;rw[d' l (λi b=>(l,f,(l.length:Int),b,())) (λy i=>if (f y).val false=true then (.done (.done i)) else .next (i+1)) (λ_=>.next ()) (λi b=>b=(i:Int)) 0 ?_ ?_ ?_ ?_]
 ·rw[Ct (λy=>(f y).val false)];by_cases br:(l.any λy=>(f y).val false)=true
  ·simp[br]
  ·have:iZ (λy=>(f y).val false) l 0=-1:=by
    have:∀ (l:List ag) (i:Int),¬(l.any λy=>(f y).val false)=true->iZ (λy=>(f y).val false) l i=-1:=by
     intro l;induction l with
     | nil=>intro i _;rfl
     | cons x l aP=>
      simp  [iZ,ajq];grind
    grind
   simp[br,this]
 ·rfl
 ·rfl
 ·intro i D b V;subst V;have hw:=bc (n:=i+1) (by omega) (by omega);refine⟨?_,λbl da=>?_⟩
  ·obtain⟨b,V⟩:=aw _ (ajj D);simp only[ch,cT D,if_true,c_ D,cE D,bS,V,eV,aH,cy,hw];split<;>rfl
  grind
 simp
end
abbrev m'(e:aa):aF:=⟨.ar (.slice e) (.fn e .bool),bp,λx=>x.1.length<2 ^ 63/\∀ y∈x.1,∃ b,x.2 y=mpure b,λx=>iZ (λy=>(x.2 y).val false) x.1 0⟩
theorem uG(e:aa)(x):aR (zY e.dK x) ((m' e).sh x):=bg λh=>Rl e.dK x.1 x.2 h.1 h.2
abbrev kr(e:aa):aF:=⟨.ar (.slice e) (.fn e .bool),dm,λx=>x.1.length<2 ^ 63/\∀ y∈x.1,∃ b,x.2 y=mpure b,λx=>x.1.any λy=>(x.2 y).val false⟩
theorem uH(e:aa)(x):aR (Ge (m' e).sh x) ((kr e).sh x):=bg λh=>by
 unfold Ge;simp only[aF.sh,ed];rw[bb (by omega)];exact congrArg mpure (Cs (λy=>(x.2 y).val false) x.1 0 (by omega))
abbrev jm(s:bC):Int:=s.1
abbrev na(s:bC):Int:=s.2.1
abbrev q_(s:bC):Int:=s.2.2.1
abbrev ey(s:bC):Int:=s.2.2.2.1
abbrev ql(s:bC):Int:=s.2.2.2.2.1
abbrev i_(s:bC):Int:=s.2.2.2.2.2
def jw(c:aW):Prop:=c.1.length<2 ^ 63/\c.2.1.length<2 ^ 63/\c.2.2.1.length<2 ^ 63/\c.2.2.2.1.length<2 ^ 63
def cg(n bn D:Int):Bool:=decide (bn<=n)&&decide (n<=D)
theorem ra{n bn D:Int}:cg n bn D=true<->bn<=n/\n<=D:=by simp[cg]
def qm(t:sc):Bool:=cg t.1 0 9999&&cg t.2.1 1 9999&&cg t.2.2.2.2.1 1 9999&&cg t.2.2.1 0 100000&&cg t.2.2.2.1 0 100000&&cg t.2.2.2.2.2.1 0 100000&&cg t.2.2.2.2.2.2 0 100000
def nb(n:Nat)(s:bC):Bool:=cg (jm s) 0 99&&cg (na s) 0 ((n:Int) - 1)&&cg (q_ s) 0 9999&&cg (ql s) 0 9&&cg (i_ s) 0 99&&(decide (ey s=1)||decide (ey s=2)&&decide (i_ s=0))
abbrev cS:aF:=⟨.ar bp (.ar bp bp),dm,λ_=>True,λx=>cg x.1 x.2.1 x.2.2⟩
theorem ar4(x):aR (abG cS.sh x) (cS.sh x):=bg λ_=>by
 unfold abG;simp[aF.sh]
theorem ar5(x):aR (arO x) (cS.sh x):=bg λ_=>rfl
abbrev zZ:aF:=⟨bp,dm,λ_=>True,λx=>cg x 0 9999⟩
theorem ar6(x):aR (abn cS.sh x) (zZ.sh x):=bg λ_=>by
 unfold abn;simp[aF.sh]
abbrev Cu:aF:=⟨bp,dm,λ_=>True,λx=>cg x 0 99⟩
theorem ar7(x):aR (abA cS.sh x) (Cu.sh x):=bg λ_=>by
 unfold abA;simp[aF.sh]
abbrev xN:aF:=⟨Rk,dm,λ_=>True,λx=>qm x⟩
theorem ar8(x):aR (abW cS.sh x) (xN.sh x):=bg λ_=>by
 unfold abW b3;show _=mpure (qm x);unfold qm;simp only[aF.sh,oF];simp
theorem ar9(x):aR (abS cS.sh x) (xN.sh x):=bg λ_=>by
 unfold abS b3 aL aG aQ bj b_ a7 ay a6;rw[db [x.2.2.1,x.2.2.2.1,x.2.2.2.2.2.1,x.2.2.2.2.2.2] (λi (_)=>(4,(i:Int),x,[x.2.2.1,x.2.2.2.1,x.2.2.2.2.2.1,x.2.2.2.2.2.2],())) (λy b=>if (!cg y 0 100000)=true then .done (.done false) else .next b) (λ_=>.next (x,())) () ?_ ?_ ?_]
 ·rw[j9   _ _ (λ_=>rfl)];show _=mpure (qm x);unfold qm;simp  [aF.sh,oF];cases E:cg x.1 0 9999<;>cases M:cg x.2.1 1 9999<;>cases ai:cg x.2.2.2.2.1 1 9999<;>cases cg x.2.2.1 0 100000<;>cases cg x.2.2.2.1 0 100000<;>cases cg x.2.2.2.2.2.1 0 100000<;>cases cg x.2.2.2.2.2.2 0 100000<;>simp[E,M,ai]
 ·rfl
 ·intro i D b;have eE:i<4:=by omega
  have hw:=bc (n:=i+1) (by omega) (by omega);have E:decide ((i:Int)<4)=true:=by grind
  simp only[E,ch,c_ D,cE D,bS,aF.sh,rE,aH,cy,hw];exact lu (mk:=λ(_)=>((4),((i+1):Int),x,[x.2.2.1,x.2.2.2.1,x.2.2.2.2.2.1,x.2.2.2.2.2.2],()))
 simp
abbrev z1:aF:=⟨.ar hk hA,dm,λx=>x.1.1.length<2 ^ 63,λx=>nb x.1.1.length x.2⟩
theorem ar_(x):aR (abX cS.sh x) (z1.sh x):=bg λh=>by
 have hw:=bc (n:=(x.1.1.length) - 1) (by omega) (by omega);unfold abX bU b3 bN aB hy cu;show _=mpure (nb x.1.1.length x.2);unfold nb;simp only[aF.sh,rE,aH,oF,hw];grind
theorem ar'(x):aR (abU cS.sh Cu.sh x) (z1.sh x):=bg λh=>by
 have hw:=bc (n:=(x.1.1.length) - 1) (by omega) (by omega);unfold abU bU b3 aB cu;show _=mpure (nb x.1.1.length x.2);unfold nb;simp  [aF.sh,hw];grind
abbrev Gg:aF:=⟨.ar hA (.bV hk),dm,λx=>∃ c:aW,x.2=some c/\c.1.length<2 ^ 63,λx=>!nb (x.2.getD ([],[],[],[],0,0,0,0,0,0,0)).1.length x.1⟩
theorem asa(x):aR (abT z1.sh x) (Gg.sh x):=bg λh=>by
 obtain⟨c,hc,h⟩:=h;unfold abT;simp  [aF.sh,ed];simp_all
abbrev Cv:aF:=⟨bp,dm,λ_=>True,λx=>!cg x 0 99⟩
theorem asb(x):aR (abV Cu.sh x) (Cv.sh x):=bg λ_=>by
 unfold abV;simp[aF.sh]
theorem asc(a b:bC):(decide (a.1=b.1)&&(decide (a.2.1=b.2.1)&&(decide (a.2.2.1=b.2.2.1)&&(decide (a.2.2.2.1=b.2.2.2.1)&&(decide (a.2.2.2.2.1=b.2.2.2.2.1)&&decide (a.2.2.2.2.2=b.2.2.2.2.2))))))=decide (a=b):=by
 grind
def nE(a b:bC):Bool:=decide (jm a=jm b)&&!decide (a=b)
abbrev Gh:aF:=⟨.ar hA hA,dm,λ_=>True,λx=>nE x.1 x.2⟩
theorem asd(x):aR (abE x) (Gh.sh x):=bg λ_=>by
 have h:=asc x.1 x.2;unfold abE bU;show _=mpure (nE x.1 x.2);unfold nE;grind
abbrev z6:aF:=⟨.ar mn (.ar bp dm),mn,λ_=>True,λx=>if x.2.2=true then (x.2.1,x.2.1) else (min x.1.1 x.2.1,max x.1.2 x.2.1)⟩
theorem ase(x):aR (abH x) (z6.sh x):=bg λ_=>by
 unfold abH bN ou;grind
abbrev i':aF:=⟨.ar dV bp,dm,λx=>x.1.length<2 ^ 63,λx=>x.1.contains x.2⟩
theorem asf(x):aR (aby i'.sh x) (i'.sh x):=bg λh=>by
 unfold aby;simp  [aF.sh];simp_all
theorem asg(x):aR (ar1 x) ((m' hA).sh x):=uG hA x
theorem ash(x):aR (arW (m' hA).sh x) ((kr hA).sh x):=uH hA x
abbrev uI:aF:=⟨dV,dV,λx=>x.length<=3000000,λx=>x⟩
theorem ez{n:Nat}(h:n<65536):bW n:=by unfold bW;omega
theorem asi(x):aR (ab4 x) (uI.sh x):=uB λh=>by
 unfold ab4 bN dN;rw[hp];refine⟨⟨false,by simp⟩,λb V=>?_⟩;cases b with
 | true=>rw[V rfl];exact eY.2 rfl
 | false=>
  exact l_.2 ⟨by simp  [bW];omega,eY.2 (by simp)⟩
abbrev Kw(c:aW):Prop:=c.1.length<=20/\c.2.1.length<=40/\c.2.2.1.length<=60/\c.2.2.2.1.length<=40
abbrev si:aF:=⟨hk,hk,Kw,λx=>x⟩
theorem Rm(x):aR (aa7 x) (si.sh x):=bg λh=>by
 unfold aa7 dN;rw[bb (ez (by grind)),bb (ez (by grind)),bb (ez (by grind)),bb (ez (by grind))];simp
abbrev Rn:aF:=⟨bp,dm,λ_=>True,λ_=>false⟩
theorem asj(x):aR (ab7 x) (Rn.sh x):=bg λ_=>by simp[ab7]
abbrev Ro:aF:=⟨.ar bp bp,bp,λ_=>True,λx=>if x.1<x.2 then -1 else if x.1 > x.2 then 1 else 0⟩
theorem asl(x):aR (ab6 Rn.sh x) (Ro.sh x):=bg λ_=>by
 unfold ab6 bN aG;simp  [aF.sh,ajl];grind
abbrev sj:aF:=⟨.ar Gd Gd,bp,λ_=>True,λx=>if x.1.2<x.2.2 then -1 else if x.1.2 > x.2.2 then 1 else 0⟩
theorem asm(x):aR (ab5 Ro.sh x) (sj.sh x):=bg λ_=>by
 unfold ab5;simp  [aF.sh,aH]
abbrev Rp:aF:=⟨.int .u64,bp,λx=>0<=x/\x<=12,λx=>(Gb x).val 0⟩
theorem asn(x):aR (Gb x) (Rp.sh x):=bg λh=>by
 have key:∃ v,Gb x=mpure v:=by
  change (0)<=x/\x<=12 at h;unfold Gb e_ b1 aG ay;have ax:¬(x>=4294967296):=by omega
  have aU:¬(x>=65536):=by omega
  have cD:¬(x>=256):=by omega
  have eZ:IntKind.wrap .u8 x=x:=by
   show (if (false&&decide (x % 2 ^ 8>=(2 ^ (8 - 1))))=true then x % 2 ^ 8 - 2 ^ 8 else x % 2 ^ 8)=x;grind
  have hf:0<=x/\x<Int.ofNat 256:=⟨h.1,by grind⟩
  simp only[ajl,ax,aU,cD,ajq,aH,cp,eZ,bb hf];grind
 obtain⟨v,ab⟩:=key;simp_all
abbrev Rq:aF:=⟨.int .u64,bp,λx=>0<=x/\x<=12,λx=>(Gb x).val 0⟩
theorem aso(f)(x):aR (ab2 f Rp.sh x) (Rq.sh x):=bg λh=>by
 unfold ab2;simp  [aF.sh];simp_all
end Go.Fer.H
namespace Go.Fer.H
section
variable {ag:Type} (d:ag) (lt:ag->ag->Bool)
def qn(l:List ag):Nat->List ag
 | 0=>l
 | k+1=>if lt (l.getD (k+1) d) (l.getD k d)=true then qn ((l.set (k+1) (l.getD k d)).set k (l.getD (k+1) d)) k else l
def rb(e:ag):List ag->List ag
 | []=>[e]
 | a::r=>if lt e a=true then a::rb e r else e::a::r
def uJ(l:List ag):List ag:=l.foldl (λr e=>rb lt e r) []
def fv(l:List ag):List ag:=(uJ lt l).reverse
theorem aci:∀ (k:Nat) (l:List ag),(qn d lt l k).length=l.length
 | 0,l=>rfl
 | k+1,l=>by
  unfold qn;split
  ·rw[aci k];simp
  ·rfl
theorem Rr:∀ (r:List ag) (e:ag) (R:List ag),qn d lt (r.reverse++e::R) r.length=(rb lt e r).reverse++R
 | [],e,R=>rfl
 | a::r,e,R=>by
  have ax:((a::r).reverse++e::R).getD (r.length+1) d=e:=by
   simp
  have aU:((a::r).reverse++e::R).getD r.length d=a:=by
   simp
  show qn d lt ((a::r).reverse++e::R) (r.length+1)=_;unfold qn;rw[ax,aU];unfold rb;split
  ·have cD:(((a::r).reverse++e::R).set (r.length+1) a).set r.length e=r.reverse++e::(a::R):=by
    simp
   rw[cD,Rr r e (a::R)];simp
  simp
theorem Rs(e:ag):∀ r:List ag,(rb lt e r).Perm (e::r)
 | []=>.refl _
 | a::r=>by
  unfold rb;split
  ·exact ((Rs e r).cons a).trans (List.Perm.swap e a r)
  rfl
theorem acj:∀ (l r:List ag),(l.foldl (λr e=>rb lt e r) r).Perm (l++r)
 | [],r=>.refl _
 | x::l,r=>by
  refine (acj l _).trans ?_;refine ((Rs lt x r).append_left l).trans ?_;simp
theorem ack(l:List ag):(uJ lt l).Perm l:=by
 have:=acj lt l [];rwa [aKg]at this
theorem Gi(l:List ag):(fv lt l).Perm l:=(List.reverse_perm _).trans (ack lt l)
theorem acm(l:List ag):(uJ lt l).length=l.length:=(ack lt l).length_eq
theorem Kx(l:List ag):(fv lt l).length=l.length:=(Gi lt l).length_eq
theorem acn{l:List ag}{x:ag}:x∈fv lt l<->x∈l:=(Gi lt l).mem_iff
theorem aco(l:List ag)(e:ag):uJ lt (l++[e])=rb lt e (uJ lt l):=by simp[uJ]
def tn(l:List ag)(n:Nat):List ag:=(uJ lt (l.take n)).reverse++l.drop n
theorem asp(l:List ag):tn lt l 1=l:=by
 cases l<;>rfl
theorem asq(l:List ag):tn lt l l.length=fv lt l:=by simp[tn,fv]
theorem asr(l:List ag)(n:Nat)(h:n<=l.length):(tn lt l n).length=l.length:=by
 simp[tn,acm];omega
theorem ass{l:List ag}{n:Nat}(h:n<l.length):qn d lt (tn lt l n) n=tn lt l (n+1):=by
 have ax:(uJ lt (l.take n)).length=n:=by rw[acm];grind
 have:=Rr d lt (uJ lt (l.take n)) l[n] (l.drop (n+1));rw[ax]at this;unfold tn;rw[aJ9 h,this,aLw,aKp h,aLL,aco]
theorem Rt(cF:∀ a b,lt a b=false->lt b a=true\/lt b a=false)(tr:∀ a b c:ag,lt a b=false->lt b c=false->lt a c=false)(ast:∀ a b,lt a b=true->lt b a=false)(e:ag):∀ r:List ag,r.Pairwise (λa b=>lt a b=false)->(rb lt e r).Pairwise (λa b=>lt a b=false)
 | [],_=>by simp[rb]
 | a::r,h=>by
  rw[List.pairwise_cons]at h;unfold rb;split
  ·refine List.pairwise_cons.2 ⟨λx al=>?_,Rt cF tr ast e r h.2⟩;rcases List.mem_cons.1 ((Rs lt e r).mem_iff.1 al) with rfl | al<;>grind
  ·refine List.pairwise_cons.2 ⟨λx al=>?_,List.pairwise_cons.2 h⟩;grind
end
def iE(a b:Int):Bool:=decide (a<b)
def h6(a b:bY):Bool:=decide (a.2<b.2)
theorem acp:∀ (l r:z1'),r.Pairwise (λa b=>iE a b=false)->(l.foldl (λr e=>rb iE e r) r).Pairwise (λa b=>iE a b=false)
 | [],r,h=>h
 | x::l,r,h=>acp l _ (Rt iE (λa b _=>by simp) (λa b c E M=>by simp[iE]at *;omega) (λa b h=>by simp[iE]at *;omega) x r h)
theorem Ru(l:z1'):(fv iE l).Pairwise (·<=·):=by
 have:=acp l [] .nil;unfold fv;rw[List.pairwise_reverse];exact this.imp λh=>by simp[iE]at h;omega
theorem acq:∀ (l r:List bY),r.Pairwise (λa b=>h6 a b=false)->(l.foldl (λr e=>rb h6 e r) r).Pairwise (λa b=>h6 a b=false)
 | [],r,h=>h
 | x::l,r,h=>acq l _ (Rt h6 (λa b _=>by simp) (λa b c E M=>by simp[h6]at *;omega) (λa b h=>by simp[h6]at *;omega) x r h)
theorem asu(l:List bY):(fv h6 l).Pairwise λa b=>a.2<=b.2:=by
 have:=acq l [] .nil;unfold fv;rw[List.pairwise_reverse];exact this.imp λh=>by simp[h6]at h;omega
theorem Cw{l m:z1'}(h:m.Pairwise (·<=·))(aq:l.Perm m):fv iE l=m:=
 List.Perm.eq_of_pairwise (λa b _ _ E M=>by omega) (Ru l) h ((Gi iE l).trans aq)
theorem acr{l m:z1'}(aq:l.Perm m):fv iE l=fv iE m:=Cw (Ru m) (aq.trans (Gi iE m).symm)
theorem acs{ag:Type}{d:ag}{lt:ag->ag->Bool}{A rho:Type}{body:A->G (bq A rho)}{s0:A}(mk:Nat->List ag->A)(fin:List ag->rho)(kG:Nat)(fS:List ag)(mW:s0=mk kG fS)(s3:kG<fS.length)
  (az:∀ k l,l.length=fS.length->k<fS.length->body (mk k l)=mpure (if 0<k/\lt (l.getD k d) (l.getD (k - 1) d)=true then .next (mk (k - 1) ((l.set k (l.getD (k - 1) d)).set (k - 1) (l.getD k d))) else .done (fin l))) :
  dG body s0=mpure (fin (qn d lt fS kG)):=by
 have key:∀ k l,l.length=fS.length->k<fS.length->dG body (mk k l)=mpure (fin (qn d lt l k)):=by
  intro k;induction k with
  | zero=>
   intro l af ah;exact tR (by rw[az 0 l af ah];rfl)
  | succ k aP=>
   intro l af ah;unfold qn;by_cases h:lt (l.getD (k+1) d) (l.getD k d)=true
   ·rw[if_pos h,Bg (s':=mk k ((l.set (k+1) (l.getD k d)).set k (l.getD (k+1) d)))]<;>grind
   ·exact tR (by grind)
 grind
theorem Ky{ag:Type}{l:List ag}{d:ag}{k:Nat}:l.getD ((k:Int) - 1).toNat d=l.getD (k - 1) d:=by
 simp
theorem acu{ag:Type}{l:List ag}{d:ag}{k:Nat}:l.getD ((k:Int)).toNat d=l.getD k d:=by rfl
theorem acv{A rho:Type}{c:Bool}{p:Prop}[Decidable p](h:c=decide p){x y:G (bq A rho)}{a b:bq A rho}(E:p->x=mpure a)(M:¬p->y=mpure b):(if c=true then x else y)=mpure (if p then a else b):=by
 grind
def Kz(x:Int×Int×(bY×bC×Int->G Int)×List bY×Unit):G (List bY×Unit):=eL (x.1=0/\x.2.1=(x.2.2.2.1.length:Int)/\x.2.2.2.1.length<=12/\x.2.2.1=sj.sh) (fv h6 x.2.2.2.1,())
theorem asv(x):aR (ab' x) (Kz x):=bg λh=>by
 obtain⟨a,b,f,l,u⟩:=x;obtain⟨E,M,ai,bf⟩:=h;change b=l.length at M;change l.length<=12 at ai;subst E;subst M;subst bf;unfold ab' cN py b3 aL aG aQ aB bj a7 hU ay a6 cu;rw[db (List.range (l.length - 1)) (λi (_)=>(0,(l.length:Int),sj.sh,((i+1:Nat):Int),tn h6 l (i+1),())) (λ_ _=>.next ()) (λ_=>(fv h6 l,())) () ?_ ?_ ?_]
 ·rw[cU]
 ·rw[asp];rfl
 ·intro i D _;have D:i+1<l.length:=by grind
  have af:=asr h6 l (i+1) (by omega);have hw:=bc (n:=((i+1:Nat))+1) (by omega) (by omega);have an:decide (((i+1:Nat))<(l.length:Int))=true:=by grind
  simp only[an];rw[acs (d:=((0,0,0,0,0,0),0)) (lt:=h6) (λk m=>(0,(l.length:Int),sj.sh,((i+1:Nat):Int),(k:Int),m,())) (λm=>.next (0,l.length,sj.sh,((i+1:Nat)),m,())) (i+1) (tn h6 l (i+1)) rfl (by omega) ?_]
  ·simp only[aH,cp,cy,hw,ass ((0,0,0,0,0,0),0) h6 D];rfl
  ·intro k m hm ah;have ft:0<k->IntKind.wrap .i64 (k - 1)=k - 1:=λ_=>bc (by omega) (by omega);by_cases s3:0<k
   ·have aq:decide ((k:Int) > 0)=true:=by grind
    have b4:(0)<=(k:Int)/\k<Int.ofNat m.length:=⟨by omega,by grind⟩
    have cL:(0)<=(k:Int) - 1/\k - 1<Int.ofNat m.length:=⟨by omega,by omega⟩
    have e7:(0)<=k - 1/\k - 1<Int.ofNat (m.set k (m.getD (k - 1) ((0,0,0,0,0,0),0))).length:=⟨by omega,by grind⟩
    simp only[aq,ft s3,b4,cL,aLS,aK0,bS,aF.sh,rE,oF,aH,Ky,ajr,e7];refine acv   ?_ (λ_=>?_) (λ_=>rfl)
    ·simp  [h6,ajl];grind
    grind
   ·have acw:k=0:=by omega
    subst acw;simp[BT]
 ·intro _;have e:tn h6 l (l.length - 1+1)=fv h6 l:=by
   cases l with
   | nil=>rfl
   | cons x r=>exact asq h6 (x::r)
  have an:decide (((l.length - 1+1:Nat))<(l.length:Int))=false:=by grind
  simp only[aLP,an,ajh,ajq,e,aH]
def KA(x:Int×Int×Int×(bY×bC×Int->G Int)×List bY×Unit):G (List bY×Unit):=eL (x.1=0/\x.2.1=(x.2.2.2.2.1.length:Int)/\x.2.2.2.2.1.length<=12/\x.2.2.2.1=sj.sh) (fv h6 x.2.2.2.2.1,())
theorem asw(x):aR (acg Kz x) (KA x):=bg λh=>by
 obtain⟨a,b,c,f,l,u⟩:=x;obtain⟨E,M,ai,bf⟩:=h;change b=l.length at M;change l.length<=12 at ai;subst E;subst M;subst bf;unfold acg aG hU cu;refine tR ?_;have hw:=bc (n:=l.length - 0) (by omega) (by omega);have an:decide ((l.length:Int) - 0<=12)=true:=by grind
 unfold Kz;simp_all
theorem asx{n:Int}(h:0<=n)(M:n<=12):IntKind.wrap .u64 n=n:=by
 show (if (false&&decide (n % 2 ^ 64>=(2 ^ (64 - 1))))=true then n % 2 ^ 64 - 2 ^ 64 else n % 2 ^ 64)=n;grind
def Cx(x:z1'×Unit):G (z1'×Unit):=eL (x.1.length<4611686018427387904) (fv iE x.1,())
def Cy(x:(bY×bC×Int->G Int)×List bY×Unit):G (List bY×Unit):=eL (x.2.1.length<=12/\x.1=sj.sh) (fv h6 x.2.1,())
theorem asy(x):aR (ar3 Rq.sh KA x) (Cy x):=bg λh=>by
 obtain⟨f,l,u⟩:=x;obtain⟨h,bf⟩:=h;change l.length<=12 at h;have hw:=asx (n:=l.length) (by omega) (by omega);show ao (eL (0<=IntKind.wrap .u64 l.length/\IntKind.wrap .u64 l.length<=12) _) _=_;rw[ed,bb (by omega)];unfold KA;simp_all
def Cz(x:(z1'->Prop)×Unit):G (z1'×Unit):=⟨(∃ L,x.1 L)/\∀ L,x.1 L->L.length<60000,λy=>x.1 y.1⟩
theorem acx:∀ (L acc:z1'),L.length+acc.length<60000->kY (λ(A:z1'×Unit) (y:Int)=>ao (ad (bW (Add.add (List.length A.1) (Add.add 0 1))) (mpure (dQ.normal,A.1++[y],()))) λp=>mpure (p.1,p.2.1,())) L (acc,())=mpure (.normal,acc++L,())
 | [],acc,_=>by simp[kY]
 | x::L,acc,h=>by
  unfold kY;rw[bb (ez (by grind))];simp only[aH];rw[acx L (acc++[x]) (by grind)];simp
theorem asz(x):aR (ab8 x) (Cz x):=λh=>by
 obtain⟨S,u⟩:=x;obtain⟨E,M⟩:=h;show dj _ _;unfold ab8 cM;rw[hp];refine⟨E,λL kF=>?_⟩;have kF:S L:=kF;show dj (ao (kY _ L ([],())) _) _;rw[acx L [] (by grind)];simp;exact eY.2 kF
theorem asA(x):aR (ab9 Cz x) (Cz x):=λh=>by
 show dj _ _;unfold ab9;rw[hp];exact⟨h,λy bh=>eY.2 bh⟩
open Classical in
def CA(S:z1'->Prop):z1':=if h:∃ L,S L then fv iE h.choose else []
abbrev uK:aF:=⟨.cO bp,dV,λS=>(∃ L,S L)/\(∀ L fI,S L->S fI->L.Perm fI)/\∀ L,S L->L.length<60000,λS=>CA S⟩
theorem asB(x):aR (abp Cx Cz x) (uK.sh x):=uB λh=>by
 obtain⟨E,M,ai⟩:=h;unfold abp;rw[hp];refine⟨⟨E,λL kF=>by grind⟩,λy bh=>?_⟩;show dj (ao (eL _ _) _) _;rw[ed,l_];refine⟨Nat.lt_trans (ai _ bh) (by decide),eY.2 ?_⟩;show fv iE y.1=CA x;unfold CA;rw[dif_pos E];exact acr (M _ _ bh E.choose_spec)
theorem asC{S:z1'->Prop}{L:z1'}(h:S L)(M:∀ L fI,S L->S fI->L.Perm fI):CA S=fv iE L:=by
 have E:∃ L,S L:=⟨L,h⟩
 unfold CA;rw[dif_pos E];exact acr (M _ _ E.choose_spec h)
def k3{ag:Type}(x:Option (List (Int×ag)))(L:z1'):Prop:=∃ m,x=some m/\(m.map (·.1)).Perm L
abbrev KB:aF:=⟨.map bp bp,.cO bp,λ_=>True,λx=>k3 (some x)⟩
theorem asD(x):aR (arP k3 x) (KB.sh x):=bg λ_=>rfl
abbrev CB:aF:=⟨.map bp hA,.cO bp,λ_=>True,λx=>k3 (some x)⟩
theorem asE(x):aR (arY k3 x) (CB.sh x):=bg λ_=>rfl
theorem wv{ag:Type}{m:List (Int×ag)}{L:z1'}:k3 (some m) L<->(m.map (·.1)).Perm L:=⟨λ⟨eh,h,k⟩=>by grind,λh=>⟨m,rfl,h⟩⟩
theorem acy{ag:Type}{m:List (Int×ag)}(h:m.length<60000):uK.pre (k3 (some m)):=
 ⟨⟨_,wv.2 (.refl _)⟩,λL fI E M=>(wv.1 E).symm.trans (wv.1 M),λL kF=>by rw[<-(wv.1 kF).length_eq];grind⟩
theorem acz{ag:Type}{m:List (Int×ag)}:CA (k3 (some m))=fv iE (m.map (·.1)):=
 asC (wv.2 (.refl _)) λL fI E M=>(wv.1 E).symm.trans (wv.1 M)
end Go.Fer.H
namespace Go.Fer.H
def uL(s:Int×Int):Bool:=cg s.1 (-30) s.2&&!decide (s.2 > 30)
def ks(l:z3')(i:Nat):Bool:=cg (l.getD i (0,0)).1 0 (l.getD i (0,0)).2&&!decide ((l.getD i (0,0)).2 > 9999)&&!(decide (0<i)&&decide ((l.getD i (0,0)).1<=(l.getD (i - 1) (0,0)).2))
def CC(l:z3'):Bool:=(List.range l.length).all (ks l)
def uM(c:aW):Bool:=!(decide ((c.1.length:Int) > 3)||decide ((c.2.1.length:Int) > 12)||decide ((c.2.2.1.length:Int) > 12)||decide ((c.2.2.2.1.length:Int) > 4))&&qm c.2.2.2.2
def k4(c:aW):Bool:=uM c&&c.1.all uL&&c.2.1.all (nb c.1.length)&&c.2.2.1.all (λn=>cg n 0 99)&&CC c.2.2.2.1
abbrev xO:aF:=⟨hk,dm,jw,λc=>k4 c⟩
theorem KC{A rho bet:Type}{mk:bet->A}{b:bet}{q:Bool}{r:rho}{m:G (bq A rho)}(E:q=true->m=mpure (.next (mk b)))(M:q=false->m=mpure (.done r)):m=mpure (bq.ls mk (if (!q)=true then .done r else .next b)):=by
 cases q
 ·exact M rfl
 ·exact E rfl
theorem acA{ag:Type}{a t:Bool}{m n:ag}:(if (a||!(if (!a)=true then t else false))=true then m else n)=if (!a&&t)=true then n else m:=by grind
theorem asF(x):aR (abD cS.sh xN.sh z1.sh x) (xO.sh x):=bg λh=>by
 obtain⟨aY,a_,b7,hg⟩:=h;unfold abD cN hN dn b3 aL bN aQ aB bj b_ a7 ay hy hO a6 bT cu kJ;show _=mpure (k4 x);simp only[aF.sh,xN,rE,oF,aH,ch,acA];unfold k4;rw[show (!(decide ((x.1.length:Int) > 3)||decide ((x.2.1.length:Int) > 12)||decide ((x.2.2.1.length:Int) > 12)||decide ((x.2.2.2.1.length:Int) > 4))&&qm x.2.2.2.2)=uM x from rfl];cases V:uM x with
 | false=>rfl
 | true=>
  rw[if_pos rfl];rw[db x.1 (λi (_:Unit)=>((i:Int),x,())) (λy b=>if (!uL y)=true then .done (.done false) else .next b) (λ_=>.next (x,())) () ?_ ?_ ?_]
  ·rw[j9 (q:=uL) _ _ (λ_=>rfl)];cases hc:x.1.all uL with
   | false=>simp
   | true=>
    simp only[if_true,aH,cp];rw[db x.2.1 (λi (_:Unit)=>((i:Int),x,())) (λy b=>if (!nb x.1.length y)=true then .done (.done false) else .next b) (λ_=>.next (x,())) () ?_ ?_ ?_]
    ·rw[j9 (q:=nb x.1.length) _ _ (λ_=>rfl)];cases an:x.2.1.all (nb x.1.length) with
     | false=>simp
     | true=>
      simp only[if_true,aH,cp];rw[db x.2.2.1 (λi (_:Unit)=>((i:Int),x,())) (λy b=>if (!cg y 0 99)=true then .done (.done false) else .next b) (λ_=>.next (x,())) () ?_ ?_ ?_]
      ·rw[j9 (q:=λn=>cg n 0 99) _ _ (λ_=>rfl)];cases he:x.2.2.1.all (λn=>cg n 0 99) with
       | false=>simp
       | true=>
        simp only[if_true,aH,cp];rw[db (List.range x.2.2.2.1.length) (λi (_:Unit)=>((i:Int),x,())) (λy b=>if (!ks x.2.2.2.1 y)=true then .done (.done false) else .next b) (λ_=>.next ()) () ?_ ?_ ?_]
        ·rw[j9 (q:=ks x.2.2.2.1) _ _ (λ_=>rfl)];unfold CC;cases (List.range x.2.2.2.1.length).all (ks x.2.2.2.1)<;>simp
        ·rfl
        ·intro i D b;have D:i<x.2.2.2.1.length:=by grind
         have hw:=bc (n:=(i:Int)+1) (by omega) (by omega);have ft:=bc (n:=(i:Int) - 1) (by omega) (by omega);have jF:x.2.2.2.1.getD i (0,0)=x.2.2.2.1[i]:=by grind
         have uN:(decide ((i:Int) > 0))=decide (0<i):=by simp
         have U:decide (0<i)=true->((0:Int)<=(i:Int) - 1/\(i:Int) - 1<(x.2.2.2.1.length:Int)):=λh=>by grind
         refine KC (mk:=λ(_:Unit)=>(((i+1:Nat):Int),x,())) (b:=b) ?_ ?_<;>intro bM<;>
         ·simp only[aJ6,ks,jF]at bM;simp only[ch,cT D,if_true,c_ D,cE D,bS,aF.sh,cS,rE,h1,eV,cy,hw,ft,uN,Ky,aJ6];revert bM;generalize cg x.2.2.2.1[i].1 0 x.2.2.2.1[i].2=cm;generalize decide (x.2.2.2.1[i].2 > 9999)=eX;generalize decide (x.2.2.2.1[i].1<=(x.2.2.2.1.getD (i - 1) (0,0)).2)=kx;revert U;generalize decide (0<i)=tO;intro U;cases tO
          ·cases cm<;>cases eX<;>cases kx<;>simp
          ·have U:=U rfl;cases cm<;>cases eX<;>cases kx<;>simp[U,(by omega:(1:Int)<=(i:Int))]
        simp
      ·rfl
      ·intro i D b;have hw:=bc (n:=(i:Int)+1) (by omega) (by omega);simp only[ch,cT D,if_true,c_ D,cE D,bS,aF.sh,cS,rE,aH,cy,hw];exact lu (mk:=λ(_:Unit)=>(((i+1:Nat):Int),x,()))
      simp
    ·rfl
    ·intro i D b;have hw:=bc (n:=(i:Int)+1) (by omega) (by omega);simp only[ch,cT D,if_true,c_ D,cE D,bS,aF.sh,z1,lY,fZ,aH,cy,hw];rw[bb aY];exact lu (mk:=λ(_:Unit)=>(((i+1:Nat):Int),x,()))
    simp
  ·rfl
  ·intro i D b;have hw:=bc (n:=(i:Int)+1) (by omega) (by omega);refine KC (mk:=λ(_:Unit)=>(((i+1:Nat):Int),x,())) (b:=b) ?_ ?_<;>intro bM<;>
   ·simp only[uL]at bM;simp only[ch,cT D,if_true,c_ D,cE D,bS,aF.sh,cS,rE,h1,eV,cy,hw];revert bM;generalize cg x.1[i].1 (-30) x.1[i].2=cm;generalize decide (x.1[i].2 > 30)=eX;simp_all
  simp
theorem acB{ag:Type}{p:ag->Bool}(l:List ag):(l.any λy=>!p y)=!l.all p:=by grind
theorem asG(x):aR (abC cS.sh (kr hA).sh xN.sh (kr bp).sh Gg.sh Cv.sh x) (xO.sh x):=bg λh=>by
 obtain⟨aY,a_,b7,hg⟩:=h;unfold abC cN hN b3 aL bN aG aQ aB bj b_ a7 ay hy a6 bT cu kJ;show _=mpure (k4 x);simp only[show xN.sh x.2.2.2.2=mpure (qm x.2.2.2.2) from rfl,oF,aH,ch,acA];unfold k4;rw[show (!(decide ((x.1.length:Int) > 3)||decide ((x.2.1.length:Int) > 12)||decide ((x.2.2.1.length:Int) > 12)||decide ((x.2.2.2.1.length:Int) > 4))&&qm x.2.2.2.2)=uM x from rfl];cases V:uM x with
 | false=>rfl
 | true=>
  rw[if_pos rfl];rw[db x.1 (λi (_:Unit)=>(x.1,(x.1.length:Int),(i:Int),x,())) (λy b=>if (!uL y)=true then .done (.done false) else .next b) (λ_=>.next (x,())) () ?_ ?_ ?_]
  ·rw[j9 (q:=uL) _ _ (λ_=>rfl)];cases hc:x.1.all uL with
   | false=>simp
   | true=>
    simp only[if_true,aH,cp];rw[db (List.range x.2.2.2.1.length) (λi (_:Unit)=>(x.2.2.2.1,(x.2.2.2.1.length:Int),(i:Int),x,())) (λy b=>if (!ks x.2.2.2.1 y)=true then .done (.done false) else .next b) (λ_=>.next (x,())) () ?_ ?_ ?_]
    ·rw[j9 (q:=ks x.2.2.2.1) _ _ (λ_=>rfl)];unfold CC;cases an:(List.range x.2.2.2.1.length).all (ks x.2.2.2.1) with
     | false=>simp
     | true=>
      simp only[if_true,aH,cp];have ax:(kr hA).sh (x.2.1,λy=>Gg.sh (y,some x))=mpure (!x.2.1.all (nb x.1.length)):=by
       have aw:∀ y,Gg.sh (y,some x)=mpure (!nb x.1.length y):=λy=>bJ ⟨x,rfl,aY⟩ _;refine (bJ ⟨a_,λy _=>⟨_,aw y⟩⟩ _).trans ?_;refine congrArg mpure ?_;rw[<-acB];simp_all
      have aU:(kr bp).sh (x.2.2.1,Cv.sh)=mpure (!x.2.2.1.all (λn=>cg n 0 99)):=by
       refine (bJ ⟨b7,λy _=>⟨_,rfl⟩⟩ _).trans ?_;refine congrArg mpure ?_;rw[<-acB];show (x.2.2.1.any λy=>(Cv.sh y).val false)=_;simp only[show ∀ y,Cv.sh y=mpure (!cg y 0 99) from λ_=>rfl,eV]
      rw[ax,aU];simp only[aH,oF];grind
    ·rfl
    ·intro i D b;have D:i<x.2.2.2.1.length:=by grind
     have hw:=bc (n:=(i:Int)+1) (by omega) (by omega);have ft:=bc (n:=(i:Int) - 1) (by omega) (by omega);have jF:x.2.2.2.1.getD i (0,0)=x.2.2.2.1[i]:=by grind
     have uN:(decide ((i:Int) > 0))=decide (0<i):=by simp
     have U:decide (0<i)=true->((0:Int)<=(i:Int) - 1/\(i:Int) - 1<(x.2.2.2.1.length:Int)):=λh=>by grind
     refine KC (mk:=λ(_:Unit)=>(x.2.2.2.1,(x.2.2.2.1.length:Int),((i+1:Nat):Int),x,())) (b:=b) ?_ ?_<;>intro bM<;>
     ·simp only[aJ6,ks,jF]at bM;simp only[ch,cT D,if_true,c_ D,cE D,bS,aF.sh,cS,rE,h1,eV,cy,hw,ft,uN,Ky,aJ6];revert bM;generalize cg x.2.2.2.1[i].1 0 x.2.2.2.1[i].2=cm;generalize decide (x.2.2.2.1[i].2 > 9999)=eX;generalize decide (x.2.2.2.1[i].1<=(x.2.2.2.1.getD (i - 1) (0,0)).2)=kx;revert U;generalize decide (0<i)=tO;intro U;cases tO
      ·cases cm<;>cases eX<;>cases kx<;>simp
      ·have U:=U rfl;cases cm<;>cases eX<;>cases kx<;>simp[U,(by omega:(1:Int)<=(i:Int))]
    simp
  ·rfl
  ·intro i D b;have hw:=bc (n:=(i:Int)+1) (by omega) (by omega);refine KC (mk:=λ(_:Unit)=>(x.1,(x.1.length:Int),((i+1:Nat):Int),x,())) (b:=b) ?_ ?_<;>intro bM<;>
   ·simp only[uL]at bM;simp only[ch,cT D,if_true,c_ D,cE D,bS,aF.sh,cS,rE,aH,cy,hw];grind
  simp
abbrev k5:bC:=(0,0,0,0,0,0)
def kL(l:List bC):Bool:=(List.range l.length).any λi=>(List.range i).any λk=>nE (l.getD k k5) (l.getD i k5)
def cA(c:aW):Int:=if k4 c=true then (if kL c.2.1=true then 91 else 0) else 90
abbrev gR:aF:=⟨hk,bp,jw,λc=>cA c⟩
theorem uO{ag:Type}{l:List ag}{i:Nat}{d:ag}(h:i<l.length):l.getD i d=l[i]:=by grind
theorem asH(x):aR (abd xO.sh Gh.sh x) (gR.sh x):=bg λh=>by
 obtain⟨aY,a_,b7,hg⟩:=id h;unfold abd cR aL bN aG aQ bj b_ e9 a7 ay a6 bT eS;show _=mpure (cA x);rw[show xO.sh x=mpure (k4 x) from bJ h _];unfold cA;cases k4 x with
 | false=>simp
 | true=>
  simp only[aH,aKo,ajh,ajq,if_true];rw[db (List.range x.2.1.length) (λi (_:Unit)=>((i:Int),x,())) (λi b=>if ((List.range i).any λk=>nE (x.2.1.getD k k5) (x.2.1.getD i k5))=true then .done (.done 91) else .next b) (λ_=>.next ()) () ?_ ?_ ?_]
  ·rw[n2];unfold kL;cases (List.range x.2.1.length).any λi=>(List.range i).any λk=>nE (x.2.1.getD k k5) (x.2.1.getD i k5)<;>simp
  ·rfl
  ·intro i D b;have D:i<x.2.1.length:=by grind
   have hw:=bc (n:=(i:Int)+1) (by omega) (by omega);have an:decide ((i:Int)<Int.ofNat x.2.1.length)=true:=cT D;simp only[an,if_true,aJ6];rw[db (List.range i) (λk (_:Unit)=>((i:Int),(k:Int),x,())) (λk b=>if nE (x.2.1.getD k k5) (x.2.1.getD i k5)=true then .done (.done (.done (.done 91))) else .next b) (λ_=>(.next ((i:Int),x,()):bq (Int×aW×Unit) (bq (Int×aW×Unit) (bq Unit Int)))) () ?_ ?_ ?_]
   ·rw[n2];cases (List.range i).any λk=>nE (x.2.1.getD k k5) (x.2.1.getD i k5)<;>simp[hw]
   ·rfl
   ·intro k ah b;have ah:k<i:=by grind
    have sk:k<x.2.1.length:=by omega
    have hw:=bc (n:=(k:Int)+1) (by omega) (by omega);have an:decide ((k:Int)<(i:Int))=true:=by grind
    simp only[an,if_true,ch,cE sk,cE D,bS,aF.sh,Gh,rE,h1,eV,aH,cy,hw,aJ6,acu];exact lu (mk:=λ(_:Unit)=>((i:Int),((k+1:Nat):Int),x,()))
   simp
  simp
def fN(l:List bC):List bC:=(dA 0 99).filterMap λid=>l.find? λs=>s.1 == id
abbrev CD:aF:=⟨.slice hA,.slice hA,λl=>l.length<2 ^ 63,λl=>fN l⟩
theorem acC{ag bet:Type}{g:ag->Option bet}:∀ (l:List ag) (b:List bet),l.foldl (λb x=>(g x).elim b λy=>b++[y]) b=b++l.filterMap g
 | [],b=>by simp
 | x::l,b=>by
  simp only[aKd,List.filterMap_cons];rw[acC l];grind
theorem CE{ag bet rho:Type}{p:ag->Bool}{d:ag->rho}{fin:bet->rho}:∀ (l:List ag) (b:bet),e' (λx b=>if p x=true then .done (d x) else .next b) fin l b=match l.find? p with | some y=>d y | none=>fin b
 | [],b=>rfl
 | x::l,b=>by
  simp only[e',List.find?_cons];cases p x with
  | true=>rfl
  | false=>exact CE l b
theorem asI(x):aR (abx x) (CD.sh x):=bg λh=>by
 change x.length<2 ^ 63 at h;unfold abx dn aL aG aQ bj a7 ay cM a6;show _=mpure (fN x);rw[d' (dA 0 99) (λi (b:List bC)=>(x,(i:Int),b,())) (λid b=>.next ((x.find? λs=>s.1 == id).elim b λy=>b++[y])) (λb=>.next (b,())) (λi b=>b.length<=i) [] ?_ ?_ ?_ ?_]
 ·rw[cU,acC (g:=λid=>x.find? λs=>s.1 == id)];simp[fN]
 ·rfl
 ·simp
 ·intro i D b V;have D:i<100:=by simpa [dA]using D
  have hw:=bc (n:=(i:Int)+1) (by omega) (by omega);have an:decide ((i:Int)<=99)=true:=by grind
  refine⟨?_,λbl da=>?_⟩
  ·simp only[an,if_true,pB,aK7];rw[db x (λk (_:Unit)=>(x,(i:Int),(k:Int),b,())) (λs u=>if (s.1 == (i:Int))=true then .done (.next (x,(i:Int),b++[s],())) else .next u) (λ_=>.next (x,(i:Int),b,())) () ?_ ?_ ?_]
   ·rw[CE];cases x.find? (λs=>s.1 == (i:Int))<;>simp[hw]
   ·rfl
   ·intro k ah u;have hw:=bc (n:=(k:Int)+1) (by omega) (by omega);simp only[ch,cT ah,if_true,c_ ah,cE ah,bS,cy,hw];rw[bb (ez (by grind))];simp only[aH];by_cases he:x[k].1=(i:Int)
    ·simp[he]
    ·simp[he]
   simp
  ·simp only[bq.next.injEq]at da;subst da;cases x.find? λs=>s.1 == (dA 0 99)[i] with
   | none=>grind
   | some y=>grind
 ·intro b V;have:(dA 0 99).length=100:=by decide
  simp[this]
def dv(c:aW):List bC:=(fN c.2.1).filter λs=>!c.2.2.1.contains s.1
theorem Rv(l:List bC):(fN l).length<=100:=by
 refine aKa (List.length_filterMap_le _ _) ?_;rw[show (dA 0 99).length=100 from by decide];omega
theorem asJ(c:aW):(dv c).length<=100:=aKa (aKJ _ _) (Rv _)
abbrev xP:aF:=⟨hk,.slice hA,jw,λc=>dv c⟩
theorem asK(x):aR (aba CD.sh i'.sh x) (xP.sh x):=bg λh=>by
 obtain⟨aY,a_,b7,hg⟩:=id h;unfold aba cR aL b1 aQ bj a7 ay cM a6 bT kJ;show _=mpure (dv x);rw[show CD.sh x.2.1=mpure (fN x.2.1) from bJ a_ _];simp only[aH];have af:=Rv x.2.1;rw[d' (fN x.2.1) (λi (b:List bC)=>(fN x.2.1,(i:Int),x,b,())) (λs b=>.next (if (!x.2.2.1.contains s.1)=true then b++[s] else b)) (λb=>.next (b,())) (λi b=>b.length<=i) [] ?_ ?_ ?_ ?_]
 ·rw[cU,Ck];simp[dv]
 ·rfl
 ·simp
 ·intro i D b V;have hw:=bc (n:=(i:Int)+1) (by omega) (by omega);refine⟨?_,λbl da=>?_⟩
  ·simp only[ch,cT D,if_true,c_ D,cE D,bS,aF.sh,i',lY,fZ,cy,hw];rw[bb b7,bb (ez (by grind))];cases x.2.2.1.contains (fN x.2.1)[i].1<;>simp[hw]
  grind
 simp
def k6(m:List (Int×bC))(k:Int):Option bC:=(m.find? λp=>decide (k=p.1)).map (·.2)
def lx(m:List (Int×bC)):z1':=m.map (·.1)
theorem Rw(p:Int×bC)(m:List (Int×bC))(k:Int)(v:bC):m_ (p::m) k v=if decide (k=p.1)=true then (p.1,v)::m else p::m_ m k v:=rfl
theorem Rx(k:Int)(v:bC):m_ [] k v=[(k,v)]:=rfl
theorem acD(k:Int)(v:bC):∀ m:List (Int×bC),(m_ m k v).length<=m.length+1
 | []=>by rw[Rx];simp
 | p::m=>by
  rw[Rw];split
  ·simp
  ·simp;exact acD k v m
theorem Ry(k:Int)(v:bC)(x:Int):∀ m:List (Int×bC),k6 (m_ m k v) x=if x=k then some v else k6 m x
 | []=>by
  rw[Rx];by_cases h:x=k<;>simp[k6]
 | p::m=>by
  rw[Rw];have aP:=Ry k v x m;unfold k6 at aP ⊢;grind
theorem Gj(k:Int)(v:bC):∀ m:List (Int×bC),((lx m).Nodup->(lx (m_ m k v)).Nodup)/\∀ x,x∈lx (m_ m k v)<->x∈lx m\/x=k
 | []=>by rw[Rx];simp[lx]
 | p::m=>by
  obtain⟨E,M⟩:=Gj k v m;rw[Rw];by_cases h:k=p.1
  ·subst h;simp;refine⟨λh=>h,λx=>?_⟩;show x∈p.1::lx m<->x∈p.1::lx m\/x=p.1;grind
  ·simp  [h,ajq];refine⟨λaC=>?_,λx=>?_⟩
   ·show (p.1::lx (m_ m k v)).Nodup;have EN:(p.1::lx m).Nodup:=aC;grind
   ·show x∈p.1::lx (m_ m k v)<->x∈p.1::lx m\/x=k;grind
theorem acE{m:List (Int×bC)}{k:Int}:k∈lx m<->(k6 m k).isSome=true:=by
 unfold k6 lx;simp
def CF(l:List bC):Prop:=∀ a∈l,∀ b∈l,a.1=b.1->a=b
def sn(l:List bC)(k:Int):Option bC:=l.find? λs=>s.1 == k
def uP:List bC->List (Int×bC)->Option (List (Int×bC))
 | [],m=>some m
 | s::l,m=>if ((k6 m s.1).isSome&&!decide ((k6 m s.1).getD k5=s))=true then none else uP l (m_ m s.1 s)
structure wx(P:List bC)(m:List (Int×bC)):Prop where
 qi:∀ k,k6 m k=sn P k
 n1:(lx m).Nodup
 CG:CF P
 Gk:m.length<=P.length
theorem acF{l:List bC}{k:Int}{s:bC}(h:sn l k=some s):s∈l/\s.1=k:=by
 unfold sn at h;grind
theorem asL{l:List bC}{k:Int}(h:sn l k=none):∀ s∈l,s.1≠k:=by
 unfold sn at h;grind
theorem wx.nil:wx [] []:=⟨λ_=>rfl,.nil,λa h=>by simp,ajn _⟩
theorem CH:∀ (l P:List bC) (m:List (Int×bC)),wx P m->(CF (P++l)->∃ eh,uP l m=some eh/\wx (P++l) eh)/\(¬CF (P++l)->uP l m=none)
 | [],P,m,h=>by simp;exact⟨λ_=>⟨m,rfl,h⟩,λaC=>absurd h.CG aC⟩
 | s::l,P,m,h=>by
  unfold uP;rw[h.qi];cases aw:sn P s.1 with
  | some o=>
   obtain⟨au,D⟩:=acF aw;by_cases he:o=s
   ·have:=CH l (P++[o]) (m_ m o.1 o) ⟨λk=>?_,(Gj _ _ _).1 h.n1,?_,?_⟩
    ·grind
    ·rw[Ry,h.qi];unfold sn at aw ⊢;grind
    ·intro a br b V Gl;simp  at br V;exact h.CG a (br.elim id λe=>e ▸ au) b (V.elim id λe=>e ▸ au) Gl
    ·have hm:=acE.2 (by rw[h.qi,aw];rfl);have af:=by
      have E:=(Gj o.1 o m).1 h.n1;have M:lx (m_ m o.1 o) ⊆ lx m:=λx al=>by
       rcases ((Gj o.1 o m).2 x).1 al with al | al<;>grind
      exact E.length_le_of_subset M
     have:=h.Gk;simp  [lx]at af;grind
   ·simp only[aKf,aju,he,aKe,aKF,Bool.and_self,if_true];refine⟨λaC=>absurd (aC o (by grind) s (by simp) D) he,λ_=>trivial⟩
  | none=>
   have:=CH l (P++[s]) (m_ m s.1 s) ⟨λk=>?_,(Gj _ _ _).1 h.n1,?_,?_⟩
   ·grind
   ·rw[Ry,h.qi];unfold sn at aw ⊢;grind
   ·have aw:=asL aw;intro a br b V Gl;simp  at br V;rcases br with br | rfl<;>rcases V with V | rfl
    ·exact h.CG a br b V Gl
    ·grind
    ·grind
    ·rfl
   ·have:=acD s.1 s m;have:=h.Gk;grind
theorem xQ(l:List bC):kL l=false<->CF l:=by
 unfold kL nE;rw[<-Bool.not_eq_true,aLE];constructor
 ·intro h a br b V Gl;obtain⟨i,D,rfl⟩:=List.mem_iff_getElem.1 br;obtain⟨k,ah,rfl⟩:=List.mem_iff_getElem.1 V;by_cases he:l[i]=l[k]
  ·omega
  ·exfalso;have fc:i≠k:=λe=>he (by grind);rcases Nat.lt_or_gt_of_ne fc with cF | cF
   ·refine h ⟨k,by grind,List.any_eq_true.2 ⟨i,by grind,?_⟩⟩;grind
   ·refine h ⟨i,by grind,List.any_eq_true.2 ⟨k,by grind,?_⟩⟩;grind
 ·rintro h ⟨i,D,ah⟩;obtain⟨k,ah,hc⟩:=List.any_eq_true.1 ah;simp  at D ah;rw[uO D,uO (by omega)]at hc;simp  at hc;exact hc.2 (h _ (ajj _) _ (ajj _) hc.1)
theorem acG{l:List bC}:kL l=true<->¬CF l:=by rw[<-xQ];simp
theorem acH{l:List bC}{m:List (Int×bC)}(h:wx l m)(hid:∀ s∈l,cg s.1 0 99=true):(fv iE (lx m)).map (λk=>(k6 m k).getD k5)=fN l:=by
 have ax:fv iE (lx m)=(dA 0 99).filter λk=>(sn l k).isSome:=by
  refine Cw ?_ ?_
  ·refine aLz _ ?_;unfold dA;rw[aLx];exact (aK3).imp λh=>by omega
  ·refine (aK4 h.n1 ?_).2 λk=>?_
   ·refine aLz _ ?_;unfold dA;rw[aLx];exact (aK3).imp λh=>by omega
   ·rw[acE,h.qi,aLM,r'];refine⟨λaz=>⟨?_,az⟩,λaz=>az.2⟩;obtain⟨s,az⟩:=Option.isSome_iff_exists.1 az;obtain⟨E,M⟩:=acF az;exact M ▸ ra.1 (hid s E)
 unfold fN;have:∀ L:z1',(L.filter λk=>(sn l k).isSome).map (λk=>(k6 m k).getD k5)=L.filterMap λid=>l.find? λs=>s.1 == id:=by
  intro L;induction L with
  | nil=>rfl
  | cons k L aP=>
   have e:(l.find? λs=>s.1 == k)=sn l k:=rfl;cases aw:sn l k with
   | none=>grind
   | some s=>
    have jG:(k6 m k).getD k5=s:=by rw[h.qi,aw];rfl
    grind
 grind
theorem asM{l:List bC}{m:List (Int×bC)}(h:wx l m)(hid:∀ s∈l,cg s.1 0 99=true):(fN l).length<=l.length:=by
 rw[<-acH h hid,aKD,Kx,lx,aKD];exact h.Gk
theorem acI{rho:Type}{r:rho}{fin:List (Int×bC)->rho}:∀ (l:List bC) (m:List (Int×bC)),e' (λs m=>if ((k6 m s.1).isSome&&!decide ((k6 m s.1).getD k5=s))=true then .done r else .next (m_ m s.1 s)) fin l m=match uP l m with | none=>r | some eh=>fin eh
 | [],m=>rfl
 | s::l,m=>by
  simp only[e',uP];by_cases h:((k6 m s.1).isSome&&!decide ((k6 m s.1).getD k5=s))=true
  ·grind
  ·simp only[h,ajq];exact acI l _
def z7(l:List bC):Prop:=l.length<=24/\∀ s∈l,cg s.1 0 99=true
abbrev CJ:aF:=⟨.slice hA,.ar (.slice hA) .bool,z7,λl=>if kL l=true then ([],false) else (fN l,true)⟩
theorem asN{m:List (Int×bC)}{z8:z1'}{rho:Type}(h:z8.length<=24) :
 dG (λ(A:z1'×Int×Int×List bC×List (Int×bC)×Unit)=>if decide (A.2.2.1<A.2.1)=true then ad (0<=A.2.2.1/\A.2.2.1<Int.ofNat (List.length A.1)) (ad (bW
 (Add.add (List.length A.2.2.2.1) (Add.add 0 1))) (mpure (bq.next (A.1,A.2.1,IntKind.wrap .i64 (Add.add A.2.2.1 1),A.2.2.2.1++[Option.getD
 (Option.map (λx=>x.2) (List.find? (λp=>decide (List.getD A.1 (Int.toNat A.2.2.1) 0=p.1)) A.2.2.2.2.1)) (0,0,0,0,0,0)],A.2.2.2.2.1,())))) else ao (mpure (bq.next (A.2.2.2.1,()))) λr=>mpure (bq.done r)) (z8,Int.ofNat (List.length z8),0,[],m,())=mpure (bq.next (z8.map (λk=>(k6 m k).getD k5),()):bq (List bC×Unit) rho):=by
 rw[d' z8 (λi b=>(z8,(z8.length:Int),(i:Int),b,m,())) (λk b=>.next (b++[(k6 m k).getD k5])) (λb=>.next (b,())) (λi b=>b.length=i) [] ?_ ?_ ?_ ?_]
 ·rw[cU,oG];rfl
 ·rfl
 ·rfl
 ·intro i D b V;have hw:=bc (n:=i+1) (by omega) (by omega);refine⟨?_,λbl da=>?_⟩
  ·simp only[ch,cT D,c_ D,cE D,bS,cy,hw];rw[bb (ez (by grind))];rfl
  grind
 simp
def uQ{eK:Type}(R:G eK):List bC×Int×Int×List (Int×bC)×Unit->G (bq (List bC×Int×Int×List (Int×bC)×Unit) (bq (List (Int×bC)×Unit) eK)):=λ(A:List bC×Int×Int×List (Int×bC)×Unit)=>if decide (A.2.2.1<A.2.1)=true then ad (0<=A.2.2.1/\A.2.2.1 <
 Int.ofNat (List.length A.1)) (if (Option.isSome (Option.map (λx=>x.2) (List.find? (λp=>decide ((List.getD A.1 (Int.toNat A.2.2.1) (0,0,0,0,0,0)).1=p.1)) A.2.2.2.1))&&!(decide ((Option.getD (Option.map (λx=>x.2) (List.find? (λp=>decide ((List.getD A.1 (Int.toNat A.2.2.1)
 (0,0,0,0,0,0)).1=p.1)) A.2.2.2.1)) (0,0,0,0,0,0)).1=(List.getD A.1 (Int.toNat A.2.2.1) (0,0,0,0,0,0)).1)&&(decide ((Option.getD
 (Option.map (λx=>x.2) (List.find? (λp=>decide ((List.getD A.1 (Int.toNat A.2.2.1) (0,0,0,0,0,0)).1=p.1)) A.2.2.2.1)) (0,0,0,0,0,0)).2.1=(List.getD A.1 (Int.toNat A.2.2.1) (0,0,0,0,0,0)).2.1)&&(decide ((Option.getD (Option.map (λx=>x.2) (List.find? (λp=>
 decide ((List.getD A.1 (Int.toNat A.2.2.1) (0,0,0,0,0,0)).1=p.1)) A.2.2.2.1)) (0,0,0,0,0,0)).2.2.1=(List.getD A.1 (Int.toNat A.2.2.1)
 (0,0,0,0,0,0)).2.2.1)&&(decide ((Option.getD (Option.map (λx=>x.2) (List.find? (λp=>decide ((List.getD A.1 (Int.toNat A.2.2.1) (0,0,0,0,0,0)).1=p.1)) A.2.2.2.1)) (0,0,0,0,0,0)).2.2.2.1=(List.getD A.1 (Int.toNat A.2.2.1) (0,0,0,0,0,0)).2.2.2.1)&&(decide
 ((Option.getD (Option.map (λx=>x.2) (List.find? (λp=>decide ((List.getD A.1 (Int.toNat A.2.2.1) (0,0,0,0,0,0)).1=p.1)) A.2.2.2.1))
 (0,0,0,0,0,0)).2.2.2.2.1=(List.getD A.1 (Int.toNat A.2.2.1) (0,0,0,0,0,0)).2.2.2.2.1)&&decide ((Option.getD (Option.map (λx=>x.2)
 (List.find? (λp=>decide ((List.getD A.1 (Int.toNat A.2.2.1) (0,0,0,0,0,0)).1=p.1)) A.2.2.2.1)) (0,0,0,0,0,0)).2.2.2.2.2=(List.getD
 A.1 (Int.toNat A.2.2.1) (0,0,0,0,0,0)).2.2.2.2.2)))))))=true then ao (ao R λr=>mpure (bq.done r)) λr=>
 mpure (bq.done r) else mpure (bq.next (A.1,A.2.1,IntKind.wrap .i64 (Add.add A.2.2.1 1),m_ A.2.2.2.1 (List.getD A.1 (Int.toNat A.2.2.1)
 (0,0,0,0,0,0)).1 (List.getD A.1 (Int.toNat A.2.2.1) (0,0,0,0,0,0)),()))) else ao (mpure (bq.next (A.2.2.2.1,()))) λr=>mpure
 (bq.done r)
theorem acJ{eK:Type}{R:G eK}{l:List bC}(af:l.length<=24){i:Nat}(D:i<l.length)(m:List (Int×bC)):uQ R (l,(l.length:Int),(i:Int),m,())=if ((k6 m l[i].1).isSome&&!decide ((k6 m l[i].1).getD k5=l[i]))=true then ao (ao R λr=>mpure (bq.done r)) λr=>mpure (bq.done r) else mpure (.next (l,(l.length:Int),((i+1:Nat):Int),m_ m l[i].1 l[i],())):=by
 have hw:=bc (n:=i+1) (by omega) (by omega);unfold uQ;simp only[ch,c_ D,cE D,bS,cy];rw[show (Option.map (λx=>x.2) (List.find? (λp=>decide (l[i].1=p.1)) m))=k6 m l[i].1 from rfl];grind
theorem acK{eK:Type}{R:G eK}{l:List bC}(m:List (Int×bC)):uQ R (l,(l.length:Int),(l.length:Int),m,())=mpure (.done (.next (m,()))):=by
 unfold uQ;simp
def CK{eK:Type}(k:List bC->G eK):List (Int×bC)×Unit->G eK:=λ(A:List (Int×bC)×Unit)=>ao (ao
 (CB.sh A.1) λy=>ao (uK.sh y) λy=>dG (λ(A:z1'×Int×Int×List bC×
 List (Int×bC)×Unit)=>if decide (A.2.2.1<A.2.1)=true then ad (0<=A.2.2.1/\A.2.2.1<Int.ofNat (List.length A.1)) (ad (bW
 (Add.add (List.length A.2.2.2.1) (Add.add 0 1))) (mpure (bq.next (A.1,A.2.1,IntKind.wrap .i64 (Add.add A.2.2.1 1),A.2.2.2.1++[Option.getD
 (Option.map (λx=>x.2) (List.find? (λp=>decide (List.getD A.1 (Int.toNat A.2.2.1) 0=p.1)) A.2.2.2.2.1)) (0,0,0,0,0,0)],A.2.2.2.2.1,())))) else ao (mpure (bq.next (A.2.2.2.1,()))) λr=>mpure (bq.done r)) (y,Int.ofNat (List.length y),0,[],A.1,())) (bq.hx λ(A
 : List bC×Unit)=>k A.1)
theorem asO{l:List bC}{m:List (Int×bC)}(fa:wx l m)(hid:z7 l){eK:Type}(k:List bC->G eK):CK k (m,())=k (fN l):=by
 obtain⟨af,hid⟩:=hid;have aq:uK.pre (k3 (some m)):=acy (by have:=fa.Gk;omega);have e:uK.sh (k3 (some m))=mpure (fv iE (lx m)):=by
  refine (bJ aq _).trans (congrArg mpure ?_);exact acz
 unfold CK;rw[show CB.sh m=mpure (k3 (some m)) from rfl,aH,e,aH,asN (by rw[Kx,lx,aKD];have:=fa.Gk;omega),aH,cp,acH fa hid]
theorem acL(l:List bC)(h:z7 l)(hc:kL l=false){eK:Type}(k:List bC->G eK)(R:G eK) :
  ao (dG (uQ R) (l,Int.ofNat (List.length l),0,[],())) (bq.hx (CK k))=k (fN l):=by
 have aC:=(xQ l).1 hc;obtain⟨E,_⟩:=CH l [] [] .nil;rw[aKw]at E;obtain⟨m,hm,fa⟩:=E aC;have key:dG (uQ R) (l,Int.ofNat (List.length l),0,[],())=mpure (.next (m,())):=by
  have gen:∀ (k:Nat) (i:Nat) (eh:List (Int×bC)),l.length - i=k->i<=l.length->uP (l.drop i) eh=some m->wx (l.take i) eh->dG (uQ R) (l,l.length,i,eh,())=mpure (.next (m,())):=by
   intro k;induction k with
   | zero=>
    intro i eh ah D au _;have:i=l.length:=by omega
    subst this;simp  [uP]at au;subst au;exact tR (acK _)
   | succ k aP=>
    intro i eh ah D au P1;have D:i<l.length:=by omega
    rw[aJ9 D]at au;unfold uP at au;split at au
    ·grind
    ·rename_i NT;refine (Bg ((acJ h.1 D eh).trans (if_neg NT))).trans ?_;obtain⟨g1,_⟩:=CH [l[i]] (l.take i) eh P1;have uR:l.take i++[l[i]]=l.take (i+1):=by simp
     rw[uR]at g1;obtain⟨aI1,ax,aU⟩:=g1 λa br b V=>aC a (List.mem_of_mem_take br) b (List.mem_of_mem_take V);simp  [uP]at ax;grind
  exact gen l.length 0 [] rfl (aKr _) hm .nil
 rw[key,aH,cp,asO fa h]
theorem asP(l:List bC)(h:z7 l)(hc:kL l=true){eK:Type}(k:List bC->G eK)(r:eK) :
  ao (dG (uQ (mpure r)) (l,Int.ofNat (List.length l),0,[],())) (bq.hx (CK k))=mpure r:=by
 rw[db l (λi m=>(l,(l.length:Int),(i:Int),m,())) (λs m=>if ((k6 m s.1).isSome&&!decide ((k6 m s.1).getD k5=s))=true then (.done (.done r)) else .next (m_ m s.1 s)) (λm=>.next (m,())) [] ?_ ?_ ?_]
 ·rw[acI];obtain⟨_,M⟩:=CH l [] [] .nil;rw[M (acG.1 hc)];simp
 ·rfl
 ·intro i D m;rw[acJ h.1 D m,aH,aH];exact Zl (mk:=λm=>(l,(l.length:Int),((i+1):Int),m,()))
 ·intro m;exact acK m
theorem asQ(x):aR (arU uK.sh CB.sh x) (CJ.sh x):=bg λh=>by
 show ao (dG (uQ (mpure ([],false))) (x,Int.ofNat (List.length x),0,[],())) (bq.hx (CK λa=>mpure (a,true)))=mpure (if kL x=true then ([],false) else (fN x,true));cases hc:kL x with
 | true=>exact asP x h hc _ _
 | false=>exact acL x h hc _ _
def KD(x:List bC×Unit):G (Bool×List bC×Unit):=eL (z7 x.1/\kL x.1=false) (true,fN x.1,())
theorem asR(x):aR (ar2 uK.sh CB.sh x) (KD x):=bg λh=>by
 show ao (dG (uQ (mpure (false,[],()))) (x.1,Int.ofNat (List.length x.1),0,[],())) (bq.hx (CK λa=>mpure (true,a,())))=_;exact acL x.1 h.1 h.2 _ _
theorem KE{c:aW}(h:k4 c=true):z7 c.2.1:=by
 unfold k4 uM at h;simp only[ajm,aKu,aKj,aKS,aKB]at h;obtain⟨⟨⟨⟨⟨bD,_⟩,_⟩,M⟩,_⟩,_⟩:=h;refine⟨by omega,λs az=>?_⟩;have:=M s az;unfold nb at this;grind
theorem asS(x):aR (abc xO.sh CJ.sh x) (gR.sh x):=bg λh=>by
 unfold abc bN;show _=mpure (cA x);rw[show xO.sh x=mpure (k4 x) from bJ h _];unfold cA;cases hc:k4 x with
 | false=>simp
 | true=>
  rw[show CJ.sh x.2.1=mpure (if kL x.2.1=true then ([],false) else (fN x.2.1,true)) from bJ (KE hc) _];cases kL x.2.1<;>simp
def KF(x:(bC->G Bool)×List bC×Unit):G ((Nat×Nat)×List bC×Unit):=eL (x.2.1.length<2 ^ 63/\∀ y∈x.2.1,∃ b,x.1 y=mpure b)
 ((0,(x.2.1.filter λs=>!(x.1 s).val false).length),(x.2.1.filter λs=>!(x.1 s).val false)++List.replicate (x.2.1.length - (x.2.1.filter λs=>!(x.1 s).val false).length) k5,())
theorem acM{ag:Type}(p:ag->Bool):∀ (l:List ag) (i:Int),(l.any p=true->∃ k:Nat,∃ h:k<l.length,iZ p l i=i+k/\p l[k]=true/\(∀ y∈l.take k,p y=false))
 | [],i,h=>by grind
 | x::l,i,h=>by
  unfold iZ;by_cases al:p x=true
  ·grind
  ·have pc:p x=false:=by grind
   simp only[aK6,pc]at h;obtain⟨k,ah,E,M,ai⟩:=acM p l (i+1) h;refine⟨k+1,by grind,by grind,by grind,?_⟩;grind
theorem asT(x):aR (ab_ (m' hA).sh x) (KF x):=bg λh=>by
 obtain⟨f,l,u⟩:=x;obtain⟨E,M⟩:=h;change l.length<2 ^ 63 at E;change ∀ y∈l,∃ b,f y=mpure b at M;unfold ab_ cR aL b1 aG aQ aB bj a7 ay a6;rw[show (m' hA).sh (l,f)=mpure (iZ (λy=>(f y).val false) l 0) from bJ ⟨E,M⟩ _];rw[aH];by_cases br:(l.any λy=>(f y).val false)=true
 ·obtain⟨k,ah,ax,aU,cD⟩:=acM (λy=>(f y).val false) l 0 br;have hw:=bc (n:=k+1) (by omega) (by omega);rw[ax];generalize bM:(λs=>!(f s).val false)=q at *
  have asU:∀ s,(!(f s).val false)=q s:=λs=>by grind
  have uR:l.take k=(l.take k).filter q:=by
   rw[List.filter_eq_self.2];grind
  have Gm:(l.take (k+1)).filter q=l.take k:=by
   rw[aLw,aKp ah,aKX];grind
  rw[db (l.drop (k+1)) (λi (_)=>(f,(((l.take (k+1+i)).filter q).length:Int),((k+1+i:Nat):Int),(l.take (k+1+i)).filter q++l.drop ((l.take (k+1+i)).filter q).length,())) (λ_ u=>.next u) (λ_=>.next (((l.filter q).length),l.filter q++l.drop (l.filter q).length,())) () ?_ ?_ ?_]
  ·rw[cU];have hlen:(l.filter q).length<=l.length:=aKJ _ _;have gW:(l.filter q++l.drop (l.filter q).length).length=l.length:=by grind
   simp only[aH,cp,ch,gW];rw[bb (by omega)];simp only[bS,ajr];have acN:List.take (l.filter q).length (l.filter q++l.drop (l.filter q).length)=l.filter q:=List.take_left;rw[acN];refine (bb ⟨by omega,by omega,by grind⟩ _).trans ?_;refine congrArg mpure (Prod.ext rfl (Prod.ext ?_ rfl));exact (congrArg (λz=>_++z) (List.drop_eq_nil_iff.2 (by simp))).trans (aKg _)
  ·rw[aK7,cy,hw];refine Prod.ext rfl (Prod.ext ?_ (Prod.ext ?_ (Prod.ext ?_ rfl)))
   ·grind
   ·rfl
   ·rw[Gm,aLk,Nat.min_eq_left (by omega),aLr]
  ·intro i D _;have D:k+1+i<l.length:=by grind
   have hle:((l.take (k+1+i)).filter q).length<=k+i:=by
    rw[List.take_add,aKX,Gm];grind
   have cF:((l.take (k+1+i)).filter q).length<l.length:=by omega
   have ix:((l.take (k+1+i)).filter q++l.drop ((l.take (k+1+i)).filter q).length).length=l.length:=by grind
   have hw:=bc (n:=((k+1+i))+1) (by omega) (by omega);have ft:=bc (n:=(((l.take (k+1+i)).filter q).length)+1) (by omega) (by omega);have ea:k+1+i<((l.take (k+1+i)).filter q++l.drop ((l.take (k+1+i)).filter q).length).length:=by omega
   have Eu:((l.take (k+1+i)).filter q).length<((l.take (k+1+i)).filter q++l.drop ((l.take (k+1+i)).filter q).length).length:=by omega
   have jF:((l.take (k+1+i)).filter q++l.drop ((l.take (k+1+i)).filter q).length)[k+1+i]=l[k+1+i]:=by
    rw[aK' (by omega)];grind
   obtain⟨b,V⟩:=M _ (ajj D);have ab:q l[k+1+i]=!b:=by rw[<-asU,V,eV]
   have uR:(l.take (k+1+(i+1))).filter q=(l.take (k+1+i)).filter q++(if (!b)=true then [l[k+1+i]] else []):=by
    rw[show k+1+(i+1)=k+1+i+1 from rfl,aLw,aKp D,aLL,aKX,List.filter_cons,ab,List.filter_nil]
   simp only[ch,cT ea,c_ ea,cE ea,cE Eu,jF,V,ft];cases b with
   | true=>
    simp  at uR ⊢;grind
   | false=>
    simp  at uR ⊢;have es:(List.filter q (List.take (k+1+i) l)++List.drop (List.filter q (List.take (k+1+i) l)).length l).set (List.filter q (List.take (k+1+i) l)).length l[k+1+i]=(l.take (k+1+(i+1))).filter q++l.drop ((l.take (k+1+(i+1))).filter q).length:=by
     rw[uR,List.set_append_right _ _ (ajn _),Nat.sub_self,aJ9 cF,List.set_cons_zero];simp
    grind
  ·intro _;have af:(l.drop (k+1)).length=l.length - (k+1):=by simp
   have bO:k+1+(l.drop (k+1)).length=l.length:=by omega
   simp only[bO,aKE];rw[if_neg (by grind),aH]
 ·rw[Gf _ _ br];have:(l.filter λs=>!(f s).val false)=l:=by
   simp_all
  simp  [this,aKg]
abbrev bO:bY:=((0,0,0,0,0,0),0)
def qo(c:aW)(w:z1')(u:Int):List bY:=((dv c).filter λs=>decide (ql s=u)).map λs=>(s,q_ s+w.getD (na s).toNat 0)
def ct(c:aW)(w:z1')(u:Int):List bY:=fv h6 (qo c w u)
def oK(l:List bY)(i:Nat):Bool:=!(decide (0<i)&&decide ((l.getD i bO).2=(l.getD (i - 1) bO).2))&&decide (ey (l.getD i bO).1=1+((i % 2:Nat):Int))
def fO(l:List bY):Bool:=(List.range l.length).all (oK l)
structure hC(c:aW):Prop where
 Rz:cA c=0
 dI:c.1.length<=3
 dW:c.2.1.length<=12
 jM:c.2.2.1.length<=12
 n4:c.2.2.2.1.length<=4
 kB:k4 c=true
 CG:CF c.2.1
 xR:qm c.2.2.2.2=true
 clk:∀ s∈c.1,-30<=s.1/\s.1<=s.2/\s.2<=30
 ha:∀ s∈c.2.1,nb c.1.length s=true
 jV:CC c.2.2.2.1=true
theorem ja{c:aW}(h:cA c=0):hC c:=by
 have aZ:=h;unfold cA at h;split at h
 ·rename_i hc;split at h
  ·omega
  ·rename_i aC;have nY:=hc;unfold k4 uM at hc;simp only[ajm,aKu,aKj,aKS,aKB]at hc;obtain⟨⟨⟨⟨⟨⟨⟨⟨cd,a2⟩,a3⟩,a4⟩,a5⟩,hF⟩,hG⟩,jn⟩,a9⟩:=hc;refine⟨aZ,by omega,by omega,by omega,by omega,nY,(xQ _).1 (by grind),a5,λs az=>?_,hG,a9⟩;have:=hF s az;unfold uL at this;simp only[ajm,aKj,aKB,ra]at this;omega
 omega
theorem z_{n:Nat}{s:bC}:nb n s=true<->(0<=jm s/\jm s<=99)/\(0<=na s/\na s<=(n:Int) - 1)/\(0<=q_ s/\q_ s<=9999)/\(0<=ql s/\ql s<=9)/\(0<=i_ s/\i_ s<=99)/\(ey s=1\/ey s=2/\i_ s=0):=by
 unfold nb;simp only[ajm,ra,aKm,ajl,and_assoc]
theorem hC.fB{c:aW}(h:hC c):jw c:=⟨by have:=h.dI;omega,by have:=h.dW;omega,by have:=h.jM;omega,by have:=h.n4;omega⟩
theorem hC.asV{c:aW}(h:hC c):∃ m,wx c.2.1 m:=by
 obtain⟨E,_⟩:=CH c.2.1 [] [] .nil;rw[aKw]at E;obtain⟨m,_,fa⟩:=E h.CG;grind
theorem hC.CL{c:aW}(h:hC c):(dv c).length<=12:=by
 obtain⟨m,fa⟩:=h.asV;have E:=asM fa (KE h.kB).2;have M:=aKJ (λs:bC=>!c.2.2.1.contains s.1) (fN c.2.1);have:=h.dW;unfold dv;omega
theorem Gn{l:List bC}{s:bC}(h:s∈fN l):s∈l:=by
 unfold fN at h;grind
theorem asW{c:aW}{s:bC}(h:s∈dv c):s∈c.2.1:=Gn (List.mem_filter.1 h).1
theorem hC.z'{c:aW}(h:hC c){s:bC}(az:s∈dv c):nb c.1.length s=true:=h.ha s (asW az)
def j'(c:aW)(w:z1'):Prop:=w.length=c.1.length/\∀ n∈w,-30<=n/\n<=30
theorem j'.at{c:aW}{w:z1'}(h:j' c w)(aA:hC c){s:bC}(az:s∈dv c):0<=na s/\na s<(w.length:Int)/\-30<=w.getD (na s).toNat 0/\w.getD (na s).toNat 0<=30:=by
 have E:=(z_.1 (aA.z' az)).2.1;have af:na s<(w.length:Int):=by rw[h.1];omega
 exact⟨E.1,af,h.2 _ (zP E.1 af)⟩
theorem asX{ag:Type}(d:ag)(lt:ag->ag->Bool)(X:List ag)(e:ag):qn d lt (fv lt X++[e]) (fv lt X).length=fv lt (X++[e]):=by
 have:=Rr d lt (uJ lt X) e [];unfold fv;rw[List.length_reverse,this,aco];simp
theorem RA{ag bet:Type}(d:ag)(lt:ag->ag->Bool)(p:bet->Bool)(g:bet->ag):∀ (l:List bet) (X:List ag),l.foldl (λbo s=>if p s=true then qn d lt (bo++[g s]) bo.length else bo) (fv lt X)=fv lt (X++(l.filter p).map g)
 | [],X=>by simp
 | s::l,X=>by
  simp only[aKd];by_cases h:p s=true
  ·rw[if_pos h,asX,RA d lt p g l,aLi h,aKq,aK1];rfl
  ·rw[if_neg h,RA d lt p g l,aLj h]
theorem Aa{c:aW}(h:hC c)(w:z1')(u:Int):(ct c w u).length<=12:=by
 unfold ct qo;rw[Kx,aKD];exact aKa (aKJ _ _) h.CL
theorem Gp{c:aW}{w:z1'}{u:Int}{e:bY}(h:e∈ct c w u):e.1∈dv c/\ql e.1=u/\e.2=q_ e.1+w.getD (na e.1).toNat 0:=by
 unfold ct at h;rw[acn]at h;unfold qo at h;grind
abbrev CM:aF:=⟨.ar hk (.ar dV bp),.ar (.slice Gd) .bool,λx=>cA x.1=0/\j' x.1 x.2.1,λx=>if fO (ct x.1 x.2.1 x.2.2)=true then (ct x.1 x.2.1 x.2.2,true) else ([],false)⟩
theorem RB(i:Nat):Int.tmod (i:Int) 2=((i % 2:Nat):Int):=by
 rfl
theorem acO(l:List bY)(i:Nat):(decide ((i:Int) > 0)&&decide ((l.getD i bO).2=(l.getD (i - 1) bO).2)||decide (ey (l.getD i bO).1≠1+((i % 2:Nat):Int)))=!oK l i:=by
 unfold oK;simp
theorem asY(x):aR (ab1 xP.sh x) (CM.sh x):=bg λh=>by
 obtain⟨c,w,u⟩:=x;obtain⟨E,M⟩:=h;change cA c=0 at E;change j' c w at M;have aA:=ja E;have af:=aA.CL;unfold ab1 e_ bU cN cR eM py aL b1 bN aG aQ aB bj b_ a7 ay cM a6 cu;rw[show xP.sh c=mpure (dv c) from bJ aA.fB _];simp only[aH];rw[d' (dv c) (λi (bo:List bY)=>(w,u,dv c,(i:Int),bo,())) (λs bo=>.next (if decide (ql s=u)=true then qn bO h6 (bo++[(s,q_ s+w.getD (na s).toNat 0)]) bo.length else bo)) (λbo=>.next (bo,())) (λi bo=>bo.length<=i) [] ?_ ?_ ?_ ?_]
 ·rw[cU];have e:(dv c).foldl (λbo s=>if decide (ql s=u)=true then qn bO h6 (bo++[(s,q_ s+w.getD (na s).toNat 0)]) bo.length else bo) []=ct c w u:=by
   have:=RA bO h6 (λs=>decide (ql s=u)) (λs=>((s,q_ s+w.getD (na s).toNat 0):bY)) (dv c) [];rw[aKw]at this;exact this
  rw[e];simp only[aH,cp];have hle:=Aa aA w u;generalize ct c w u=bo at *
  rw[db (List.range bo.length) (λi (_:Unit)=>((i:Int),bo,())) (λi b=>if (!oK bo i)=true then .done (.done ([],false)) else .next b) (λ_=>.next (bo,())) () ?_ ?_ ?_]
  ·rw[j9 (q:=oK bo) _ _ (λ_=>rfl)];show _=mpure (if fO bo=true then (bo,true) else ([],false));unfold fO;cases (List.range bo.length).all (oK bo)<;>simp
  ·rfl
  ·intro i D b;have D:i<bo.length:=by grind
   have hw:=bc (n:=(i:Int)+1) (by omega) (by omega);have ft:=bc (n:=1+((i % 2:Nat):Int)) (by omega) (by omega);have asZ:0<i->IntKind.wrap .i64 ((i:Int) - 1)=((i - 1:Nat):Int):=λh=>(bc (by omega) (by omega)).trans (by omega);have bD:IntKind.wrap .i64 (-1)=-1:=bc (by omega) (by omega);have an:decide ((i:Int)<Int.ofNat bo.length)=true:=cT D;have xj:=acO bo i;simp only[an,if_true,cy,hw,RB,ft,ajr,aJ6];rcases Nat.eq_zero_or_pos i with aZ | aZ
   ·subst aZ;have b4:(0:Int)<=((0:Nat):Int)/\((0:Nat):Int)<(bo.length:Int):=⟨by omega,by omega⟩
    simp[oK,b4,D];grind
   ·have aq:decide ((i:Int) > 0)=true:=by grind
    have b4:(0:Int)<=(i:Int)/\(i:Int)<(bo.length:Int):=⟨by omega,by omega⟩
    have cL:(0:Int)<=((i - 1:Nat):Int)/\((i - 1:Nat):Int)<(bo.length:Int):=⟨by omega,by omega⟩
    rw[aq]at xj;have Gq:decide (0<i)=true:=by grind
    simp only[asZ aZ,ch,aq,b4,cL,ajr,aKH,aK0,aLg,aLS,aKO,bS,show ((2:Int)≠0)=True from by simp,aKl];rw[aKO]at xj;rw[xj];generalize decide ((bo.getD i ((0,0,0,0,0,0),0)).2=(bo.getD (i - 1) ((0,0,0,0,0,0),0)).2)=eX;cases eX<;>simp only[aKo,aKF,ajh,false_implies,aLS,aKl,bS,aH,aKH,aK0,aLg,reduceCtorEq]<;>exact lu (mk:=λ(_:Unit)=>(((i+1:Nat):Int),bo,()))
  simp
 ·rfl
 ·simp
 ·intro i D bo V;have hw:=bc (n:=(i:Int)+1) (by omega) (by omega);have az:=ajj D;obtain⟨aY,a_,b7,hg⟩:=M.at aA az;have p7:=(z_.1 (aA.z' az)).2.2.1;have ft:=bc (n:=q_ (dv c)[i]+w.getD (na (dv c)[i]).toNat 0) (by omega) (by omega);refine⟨?_,λbl da=>?_⟩
  ·simp only[ch,cT D,if_true,c_ D,cE D,bS,cy,hw];by_cases hu:ql (dv c)[i]=u
   ·have vU:decide ((dv c)[i].2.2.2.2.1≠u)=false:=by grind
    have Jk:decide (ql (dv c)[i]=u)=true:=by grind
    simp only[vU,ajh,ajq];rw[bb ⟨aY,a_⟩,bb (ez (by grind))];rw[ft];rw[acs (d:=bO) (lt:=h6) (λk m=>(w,u,dv c,(i:Int),(k:Int),m,())) (λm=>.next (w,u,dv c,(i:Int),m,())) bo.length (bo++[((dv c)[i],q_ (dv c)[i]+w.getD (na (dv c)[i]).toNat 0)]) ?_ (by simp) ?_]
    ·simp_all
    ·have mM:=bc (n:=((bo++[((dv c)[i],q_ (dv c)[i]+w.getD (na (dv c)[i]).toNat 0)]).length:Int) - 1) (by simp) (by grind);grind
    ·intro k m hm ah;have ft:0<k->IntKind.wrap .i64 ((k:Int) - 1)=(k:Int) - 1:=λ_=>bc (by omega) (by grind);by_cases s3:0<k
     ·have aq:decide ((k:Int) > 0)=true:=by grind
      have b4:(0:Int)<=(k:Int)/\(k:Int)<(m.length:Int):=⟨by omega,by omega⟩
      have cL:(0:Int)<=(k:Int) - 1/\(k:Int) - 1<(m.length:Int):=⟨by omega,by omega⟩
      have e7:(0:Int)<=(k:Int) - 1/\(k:Int) - 1<((m.set k (m.getD (k - 1) ((0,0,0,0,0,0),0))).length:Int):=⟨by omega,by grind⟩
      have Gm:((k:Int) - 1)=((k - 1:Nat):Int):=by omega
      simp only[Prod.cz,aq,ft s3,b4,cL,aLS,aKH,aK0,bS,aKO,Ky,acu,ajr,e7,aH];rw[show ((k:Int) - 1).toNat=k - 1 from by omega];refine acv (p:=0<k/\h6 (m.getD k ((0,0,0,0,0,0),0)) (m.getD (k - 1) ((0,0,0,0,0,0),0))=true) ?_ (λ_=>?_) (λ_=>rfl)
      ·simp[h6,s3]
      rw[Gm]
     simp_all
   simp_all
  ·simp only[bq.next.injEq]at da;subst da;split
   ·rw[aci];grind
   ·omega
 simp
end Go.Fer.H
