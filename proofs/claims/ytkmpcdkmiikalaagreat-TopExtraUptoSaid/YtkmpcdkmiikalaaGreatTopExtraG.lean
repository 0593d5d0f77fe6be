/- Part 7 of the proof of TopExtra: shallow programs of Go functions, and what they compute. No condition. -/
import Derived.Test.YtkmpcdkmiikalaaGreatTopExtraF
noncomputable section
namespace Go.Fer.H
open A (ab)
set_option linter.unusedVariables false
set_option linter.unusedSimpArgs false
section
variable {ao:Type}
def Y8 (x:Nat×List (Int×ao)×(Nat×(List Int->Prop)×List Int×Bool)×Unit):A ((Nat×(List Int->Prop)×List Int×Bool)×Unit):=
 A.bind (A.pure ()) λy=>A.loop (λ(G:Nat×(Nat×(List Int->Prop)×List Int×Bool)×(Option (Int×ao)×List (Int×ao))×Unit)=>
 A.bind (FR G.2.2.1.2) λy=>if Option.isSome y=true then A.bind (A.ah (Option.isSome (mK G.2.2.1.1 G.2.2.1.2 y)=true) (A.pure ())) λcu
 =>A.bind (A.ah (G.1=G.2.1.1/\G.2.1.2.2.2=false/\∃ (T:List Int),G.2.1.2.1 (G.2.1.2.2.1++Option.getD (Option.map (λx=>x.1) (mK
 G.2.2.1.1 G.2.2.1.2 y)) 0::T)) (A.any λx=>True)) λet=>if (!et)=true then A.bind (A.pure ((G.2.1.1,G.2.1.2.1,G.2.1.2.2.1++
 [Option.getD (Option.map (λx=>x.1) (mK G.2.2.1.1 G.2.2.1.2 y)) 0],!et),())) λr=>A.pure (ab.done r) else A.pure (ab.next (G.1,(G.2.1.1,G.2.1.2.1,G.2.1.2.2.1++[Option.getD (Option.map (λx=>x.1) (mK G.2.2.1.1 G.2.2.1.2 y)) 0],!et),(mK G.2.2.1.1 G.2.2.1.2 y,CE G.2.2.1.2 y),())) else A.bind (A.pure (G.2.1,())) λr=>A.pure (ab.done r)) (x.1,x.2.2.1,(none,x.2.1),())
theorem Y9 {β:Type}:∀ (l:List β) (i:Nat) (h:i<l.length),(l[i]::l.eraseIdx i).Perm l
 | x::l,0,_=>.refl _
 | x::l,i+1,h=>by
  simp only [List.getElem_cons_succ,List.eraseIdx_cons_succ];exact (List.Perm.swap x _ _).trans ((Y9 l i (by grind)).cons x)
theorem aoO (l:Nat) (m:List (Int×ao)):A.cp (Y8 (l,m,(l,oF (some m),[],false),())) λy=>y.1.2.2.2=false->oF (some m) y.1.2.2.1:=by
 unfold Y8;rw [A.aX];refine A.EV (λG=>∃ p c bZ,G=(l,(l,oF (some m),p,false),(c,bZ),())/\(m.map (·.1)).Perm (p++bZ.map (·.1))) (λG=>G.2.2.1.2.length) ?_ _ ⟨[],none,m,rfl,.refl _⟩;rintro G ⟨p,c,bZ,rfl,ar⟩;simp only;rw [A.gf];refine ⟨trivial,λy aJ=>?_⟩;cases y with
 | none=>
  have W:bZ=[]:=aJ;subst W;simp only [Option.isSome_none,Bool.false_eq_true,if_false,A.aX];refine A.ez.2 λ_=>vb.2 (by grind)
 | some i=>
  have U:i<bZ.length:=aJ;have aI:mK c bZ (some i)=some bZ[i]:=List.getElem?_eq_getElem U;have W:CE bZ (some i)=bZ.eraseIdx i:=rfl;have Ep:(m.map (·.1)).Perm (p++bZ[i].1::(bZ.eraseIdx i).map (·.1)):=ar.trans (List.Perm.append_left p ((Y9 bZ i U).symm.map (·.1)));simp only [Option.isSome_some,if_true,aI,W,A.bL,A.aX,Option.map_some,Option.getD_some];rw [A.gf,A.mx];refine ⟨⟨trivial,trivial,(bZ.eraseIdx i).map (·.1),vb.2 Ep⟩,⟨true,trivial⟩,λb _=>?_⟩;cases b with
  | false=>
   simp only [Bool.not_false,if_true,A.aX];exact A.ez.2 λh=>by cases h
  | true=>
   simp only [Bool.not_true,Bool.false_eq_true,if_false];refine A.ez.2 ⟨⟨p++[bZ[i].1],some bZ[i],bZ.eraseIdx i,rfl,by grind⟩,?_⟩;grind
end
theorem aoP (l:Nat) (m:List (Int×bk)):A.cp (PA (l,m,(l,oF (some m),[],false),())) λy=>y.1.2.2.2=false->oF (some m) y.1.2.2.1:=aoO l m
def e1 (cl:List (Int×Int)):List ay->List ay
 | a::b::r=>(a.1,pj cl a.2 b.2)::e1 cl r
 | _=>[]
def Je (c:b6) (gN:List (List ay)):Prop:=gN.length=10/\∀ l∈gN,l.length<=12/\∀ i,(h:i+1<l.length)->I5 (c,l[i].2,l[i+1].2)
def vf (c:b6) (gN:List (List ay)):List ay:=gN.flatMap (e1 c.2.2.2.1)
def vg (x:Option (Option hW)×Option (Option jC)) (L:List ay):Prop:=∃ t b,x.1=some (some t)/\x.2=some (some b)/\Je b.1 t.2/\L=vf b.1 t.2
theorem aoQ {cl:List (Int×Int)} {l:List ay} {i:Nat} (h:i+1<l.length):e1 cl (l.drop i)=(l[i].1,pj cl l[i].2 l[i+1].2)::e1 cl (l.drop (i+2)):=by
 rw [List.drop_eq_getElem_cons (by omega:i<l.length),List.drop_eq_getElem_cons h];rfl
theorem aoR {cl:List (Int×Int)} {l:List ay} {i:Nat} (h:¬i+1<l.length):e1 cl (l.drop i)=[]:=by
 have:(l.drop i).length<=1:=by grind
 match h:l.drop i with
 | []=>rfl
 | [_]=>rfl
 | _::_::_=>grind
set_option maxHeartbeats 1000000 in
theorem aoS (fT:Nat) (t:hW) (b:jC) (h:Je b.1 t.2):A.cp (IJ Bs.sh (fT,some t,some b,(fT,vg (some (some t),some (some b)),[],false),())) λy=>y.1.2.2.2=false->vg (some (some t),some (some b)) y.1.2.2.1:=by
 obtain ⟨M,aa⟩:=h;have GC:∀ L,vg (some (some t),some (some b)) L<->L=vf b.1 t.2:=λL=>⟨λ⟨cT,bg,aK,bq,_,e⟩=>by cases aK;cases bq;exact e,λe=>⟨t,b,rfl,rfl,⟨M,aa⟩,e⟩⟩
 generalize vg (some (some t),some (some b))=S at *
 unfold IJ;simp only [Option.isSome_some,A.bL,Option.getD_some];refine A.EV (λG=>∃ (u:Nat),u<=10/\G=(fT,some b,t.2,(u:Int),(fT,S,(t.2.take u).flatMap (e1 b.1.2.2.2.1),false),())) (λG=>(10 - G.2.2.2.1).toNat) ?_ _ ⟨0,by omega,rfl⟩;rintro G ⟨u,hu,rfl⟩;by_cases Sr:u<10
 ·have aN:decide ((u:Int)<10)=true:=by simpa using (by omega:(u:Int)<10)
  have sP:u<t.2.length:=by omega
  have aoT:=bF (n:=(u:Int)+1) (by omega) (by omega);have hm:=List.getElem_mem sP;obtain ⟨an,a8⟩:=aa _ hm;simp only [aN,if_true,en sP];rw [A.ba (show (0:Int)<=(u:Int)/\(u:Int)<Int.ofNat 10 by rw [cc];omega)];have gv:vf b.1 t.2=(t.2.take u).flatMap (e1 b.1.2.2.2.1)++(e1 b.1.2.2.2.1 t.2[u]++(t.2.drop (u+1)).flatMap (e1 b.1.2.2.2.1)):=by
   unfold vf;conv=>lhs;rw [<-List.take_append_drop u t.2,List.drop_eq_getElem_cons sP]
   simp only [List.flatMap_append,List.flatMap_cons]
  generalize aoU:t.2[u]=kE at *
  generalize (t.2.drop (u+1)).flatMap (e1 b.1.2.2.2.1)=R at *
  generalize m8:(t.2.take u).flatMap (e1 b.1.2.2.2.1)=P at *
  have aoV:(t.2.take (u+1)).flatMap (e1 b.1.2.2.2.1)=P++e1 b.1.2.2.2.1 kE:=by
   rw [List.take_add_one,List.getElem?_eq_getElem sP,Option.toList_some,List.flatMap_append,m8,aoU];simp
  rw [A.gf];refine (A.EV (p:=λz=>match z with | .next z=>z=(fT,some b,t.2,(u:Int),(fT,S,P++e1 b.1.2.2.2.1 kE,false),()) | .done z=>(match z with | .next _=>False | .done y=>y.1.2.2.2=true)) (λG=>∃ (i:Nat) (Q:List ay),i<=kE.length+1/\Q++e1 b.1.2.2.2.1 (kE.drop i)=e1 b.1.2.2.2.1 kE/\G=(fT,some b,kE,(i:Int),t.2,(u:Int),(fT,S,P++Q,false),())) (λG=>(20 - G.2.2.2.1).toNat) ?_ _ ⟨0,[],by omega,by simp,by simp⟩).mono λz bm=>?_
  ·rintro G ⟨i,Q,vH,ug,rfl⟩;have hw:=bF (n:=(i:Int)+1) (by omega) (by omega);have kT:=bF (n:=(i:Int)+2) (by omega) (by omega);by_cases U:i+1<kE.length
   ·have Li:i<kE.length:=by omega
    have aN:decide ((i:Int)+1<(kE.length:Int))=true:=by simpa using (by omega:(i:Int)+1<(kE.length:Int))
    have ct:(0:Int)<=(i:Int)+1/\(i:Int)+1<(kE.length:Int):=⟨by omega,by omega⟩
    have ke:kE.getD ((i:Int)+1).toNat ((0,0,0,0,0,0),0)=kE[i+1]:=by
     rw [show ((i:Int)+1).toNat=i+1 from by omega,vc U]
    have em:Bs.sh (b.1,kE[i].2,kE[i+1].2)=A.pure (pj b.1.2.2.2.1 kE[i].2 kE[i+1].2):=A.eZ (a8 i U) _;simp only [Prod.b5,Prod.cR,cc,b',hw,aN,if_true,en Li,dd Li,ct,ke,Option.isSome_some,Option.getD_some,em,A.Ql,A.nN,and_self,A.bL,decide_true];rw [A.gf,A.mx];have du:=aoQ (cl:=b.1.2.2.2.1) U;refine ⟨⟨trivial,trivial,e1 b.1.2.2.2.1 (kE.drop (i+2))++R,(GC _).2 ?_⟩,⟨true,trivial⟩,λy _=>?_⟩
    ·rw [gv,<-ug,du];simp
    ·cases y with
     | false=>
      simp only [Bool.not_false,if_true,A.aX];exact A.ez.2 rfl
     | true=>
      simp only [Bool.not_true,Bool.false_eq_true,if_false,kT];refine A.ez.2 ⟨⟨i+2,Q++[(kE[i].1,pj b.1.2.2.2.1 kE[i].2 kE[i+1].2)],by omega,?_,?_⟩,?_⟩
      ·rw [<-ug,du];simp
      ·rw [List.append_assoc];rfl
      ·show (20 - ((i:Int)+2)).toNat<(20 - (i:Int)).toNat;omega
   ·have aN:decide ((i:Int)+1<(kE.length:Int))=false:=by simpa using (by omega:(kE.length:Int)<=(i:Int)+1)
    simp only [cc,b',hw,aN,Bool.false_eq_true,if_false,A.aX];refine A.ez.2 ?_;rw [aoR U,List.append_nil] at ug;show (fT,some b,t.2,(u:Int),(fT,S,P++Q,false),())=_;rw [ug]
  ·cases z with
   | next z=>
    have bm:z=_:=bm;subst bm;simp only [A.bX,b',aoT];refine A.ez.2 ⟨⟨u+1,by omega,?_⟩,?_⟩
    ·rw [aoV];rfl
    ·show (10 - ((u:Int)+1)).toNat<(10 - (u:Int)).toNat;omega
   | done z=>
    cases z with
    | next z=>exact absurd bm id
    | done y=>
     have bm:y.1.2.2.2=true:=bm;simp only [A.jf];refine A.ez.2 λh=>?_;rw [bm] at h;cases h
 ·have MN:u=10:=by omega
  subst MN;simp only [show decide (((10:Nat):Int)<10)=false from by decide,Bool.false_eq_true,if_false,A.aX];refine A.ez.2 λ_=>(GC _).2 ?_;show (t.2.take 10).flatMap _=_;rw [<-M,List.take_length];rfl
abbrev Jf:aU:=⟨.aG (.bQ Be) (.bQ IL),.cj (.aG jU bp),λ_=>True,λx=>vg (some x.2,some x.1)⟩
theorem aoW (x):A.bz (amO vg x) (Jf.sh x):=A.bU λ_=>rfl
end Go.Fer.H
namespace Go.Fer.H
open A (ab)
set_option linter.unusedVariables false
set_option linter.unusedSimpArgs false
theorem PY {ao β:Type} {f:ao->β}:∀ {l:List ao},(l.map f).Nodup->∀ {a b:ao},a∈l->b∈l->f a=f b->a=b
 | [],_,a,b,bf,_,_=>by grind
 | x::l,aI,a,b,bf,af,e=>by
  rw [List.map_cons,List.nodup_cons] at aI;rcases List.mem_cons.1 bf with M | M<;>rcases List.mem_cons.1 af with aa | aa
  ·grind
  ·grind
  ·grind
  ·exact PY aI.2 M aa e
theorem aoX {l:List ay} (h:ia l=true) {i:Nat} (U:i<l.length):mu l[i].1=1+((i % 2:Nat):Int)/\(0<i->l[i].2≠(l.getD (i - 1) dC).2):=by
 unfold ia at h;rw [List.all_eq_true] at h;have:=h i (by grind);unfold iw at this;grind
theorem Y_ (cl:List (Int×Int)):∀ l:List ay,(∀ i,(h:i<l.length)->mu l[i].1=1+((i % 2:Nat):Int))->e1 cl l=((ve l).filter λp=>mu p.1.1 == 1).map λp=>(p.1.1,pj cl p.1.2 p.2.2)
 | [],_=>rfl
 | [_],_=>rfl
 | [a,b],h=>by
  have bf:mu a.1=1:=h 0 (by simp);simp [e1,ve,bf]
 | a::b::c::r,h=>by
  have bf:mu a.1=1:=h 0 (by simp);have af:mu b.1=2:=h 1 (by simp);have aO:=Y_ cl (c::r) λi U=>by
   have:=h (i+2) (by grind);grind
  have e:ve (a::b::c::r)=(a,b)::(b,c)::ve (c::r):=rfl;rw [e,List.filter_cons_of_pos (by grind),List.filter_cons_of_neg (by grind),List.map_cons,<-aO];rfl
abbrev wW (c:b6) (w:List Int):List ay:=vf c (yX c w)
theorem PZ (c:b6) (w:List Int):wW c w=(iE 0 9).flatMap λu=>e1 c.2.2.2.1 (bJ c w u):=by
 rfl
theorem Y' {c:b6} {w:List Int} (hw:oG c w=true) {u:Int} (hu:0<=u/\u<=9):lA c w u=bJ c w u:=by
 unfold lA;rw [if_pos (Y3 hw hu)]
theorem aoY {cl:List (Int×Int)} {l:List ay} (h:ia l=true) (jW:Int):EI cl jW l=((e1 cl l).find? λp=>p.1.1 == jW).map (·.2):=by
 rw [Y_ cl l λi U=>(aoX h U).1];unfold EI;rw [List.find?_map,List.find?_filter,Option.map_map];refine congrArg _ (congrArg (λf=>(ve l).find? f) ?_);grind
theorem Za {ao β:Type} {f g:ao->Option β}:∀ {l:List ao},(∀ x∈l,f x=g x)->l.findSome? f=l.findSome? g
 | [],_=>rfl
 | x::l,h=>by
  rw [List.findSome?_cons,List.findSome?_cons,h x (by simp),Za λy aJ=>h y (by grind)]
theorem aoZ {c:b6} {w:List Int} (hw:oG c w=true) (jW:Int):n3 c w jW=((wW c w).find? λp=>p.1.1 == jW).map (·.2):=by
 unfold n3;rw [PZ,List.find?_flatMap,List.map_findSome?];refine Za λu hu=>?_;have hu:=Ao.1 hu;rw [Y' hw hu,aoY (Y3 hw hu)];rfl
theorem ao0 {c:b6} (aL:k2 c) {w:List Int} (hw:oG c w=true):Je c (yX c w):=by
 have aa:=PW aL.YO hw;have key:∀ u:Int,0<=u/\u<=9->(bJ c w u).length<=12/\∀ i,(h:i+1<(bJ c w u).length)->I5 (c,(bJ c w u)[i].2,(bJ c w u)[i+1].2):=by
  intro u hu;have:=Y' hw hu;refine ⟨YP aL w u,?_⟩;have k:=λi=>@YW c aL w aa u i;simp only [this] at k;exact k
 refine ⟨rfl,λl aw=>?_⟩;simp only [yX,List.mem_cons,List.not_mem_nil,or_false] at aw;rcases aw with rfl | rfl | rfl | rfl | rfl | rfl | rfl | rfl | rfl | rfl<;>exact key _ (by omega)
theorem Zb {cl:List (Int×Int)}:∀ {l:List ay} {p:ay},p∈e1 cl l->∃ i,∃ h:i+1<l.length,i % 2=0/\p=(l[i].1,pj cl l[i].2 l[i+1].2)
 | [],_,h=>by simp [e1] at h
 | [_],_,h=>by simp [e1] at h
 | a::b::r,p,h=>by
  unfold e1 at h;rcases List.mem_cons.1 h with rfl | h
  ·exact ⟨0,by simp,rfl,rfl⟩
  ·obtain ⟨i,U,aa,e⟩:=Zb h;exact ⟨i+2,by grind,by omega,e⟩
theorem Zc (cl:List (Int×Int)):∀ l:List ay,((e1 cl l).map (·.1)).Sublist (l.map (·.1))
 | []=>.slnil
 | [_]=>List.nil_sublist _
 | a::b::r=>by
  unfold e1;simp only [List.map_cons];exact ((Zc cl r).cons _).cons_cons _
theorem ao1 (l:List bk):((k1 l).map (·.1)).Nodup:=by
 unfold k1;have key:∀ L:List Int,L.Nodup->((L.filterMap λid=>l.find? λs=>s.1 == id).map (·.1)).Nodup/\∀ k∈(L.filterMap λid=>l.find? λs=>s.1 == id).map (·.1),k∈L:=by
  grind
 refine (key _ ?_).1;unfold iE;show List.Pairwise _ _;rw [List.pairwise_map];exact (List.pairwise_lt_range).imp λh=>by omega
theorem Zd (c:b6):((gI c).map (·.1)).Nodup:=by
 unfold gI;exact (ao1 c.2.1).sublist (List.filter_sublist.map _)
theorem ao2 {c:b6} {a b:bk} (bf:a∈gI c) (af:b∈gI c) (h:a.1=b.1):a=b:=by
 exact PY (Zd c) bf af h
theorem ao3 (c:b6) (w:List Int) (u:Int):((bJ c w u).map (·.1)).Perm ((gI c).filter λs=>decide (u' s=u)):=by
 unfold bJ dT;refine ((EC iJ _).map _).trans ?_;rw [List.map_map];exact List.Perm.of_eq (List.map_id' _)
theorem ao4 {c:b6} {w:List Int} {p:ay} (h:p∈wW c w):∃ u,0<=u/\u<=9/\∃ i,∃ U:i+1<(bJ c w u).length,i % 2=0/\p=((bJ c w u)[i].1,pj c.2.2.2.1 (bJ c w u)[i].2 (bJ c w u)[i+1].2):=by
 rw [PZ,List.mem_flatMap] at h;obtain ⟨u,hu,ar⟩:=h;obtain ⟨i,U,aa,e⟩:=Zb ar;exact ⟨u,(Ao.1 hu).1,(Ao.1 hu).2,i,U,aa,e⟩
theorem Ze {c:b6} {w:List Int} {p:ay} (h:p∈wW c w):p.1∈gI c:=by
 obtain ⟨u,_,_,i,U,_,rfl⟩:=ao4 h;exact (YQ (List.getElem_mem (by omega:i<(bJ c w u).length))).1
theorem ao5 (c:b6) (w:List Int):((wW c w).map (·.1)).Nodup:=by
 have hc:(gI c).Nodup:=by
  have:=Zd c;exact List.Pairwise.of_map _ (λa b h e=>h (by rw [e])) this
 have hu:∀ u,((e1 c.2.2.2.1 (bJ c w u)).map (·.1)).Nodup/\∀ s∈(e1 c.2.2.2.1 (bJ c w u)).map (·.1),u' s=u:=by
  intro u;have aA:=Zc c.2.2.2.1 (bJ c w u);have ar:=ao3 c w u;grind
 rw [PZ,List.map_flatMap];have key:∀ L:List Int,L.Nodup->(L.flatMap λu=>(e1 c.2.2.2.1 (bJ c w u)).map (·.1)).Nodup/\∀ s∈(L.flatMap λu=>(e1 c.2.2.2.1 (bJ c w u)).map (·.1)),u' s∈L:=by
  grind
 refine (key _ ?_).1;unfold iE;show List.Pairwise _ _;rw [List.pairwise_map];exact (List.pairwise_lt_range).imp λh=>by omega
end Go.Fer.H
namespace Go.Fer.H
open A (ab)
set_option linter.unusedVariables false
set_option linter.unusedSimpArgs false
theorem ao6 (c:b6) (b:Bool):((eo c b).2≠0/\(eo c b).1=[]/\tr c b=(none,(eo c b).2))\/(eo c b=(jX c,0)/\eH c=0/\b=true/\tr c b=(some (EK c),0)):=by
 unfold eo tr;by_cases hc:eH c=0
 ·cases b with
  | false=>left;simp [hc]
  | true=>
   by_cases aR:jX c=[]
   ·left;simp [hc,aR]
   ·right;simp [hc,aR]
 ·left;simp [hc]
theorem P0 {ao β:Type} {f g:ao->Option β}:∀ {l:List ao},(∀ x∈l,f x=g x)->l.filterMap f=l.filterMap g
 | [],_=>rfl
 | x::l,h=>by
  rw [List.filterMap_cons,List.filterMap_cons,h x (by simp),P0 λy aJ=>h y (by simp [aJ])]
theorem ao7 {ao:Type} (L:List ao) (P:ao->Option hW) (f:Option hW->A (Int×Bool)) (v:ao->Int×Bool) (h:∀ w∈L,f (P w)=A.pure (v w)):wV (L.map P) f=yW (L.filterMap λw=>if (v w).2=true then some (v w).1 else none):=by
 unfold wV;rw [List.filterMap_map];refine congrArg yW (P0 λw hw=>?_);simp only [Function.comp,h w hw,A.nN]
theorem ao8 {c:b6} (aw:(jX c).length<=60) {f:Option hW->A (Int×Bool)} {v:List Int->Int×Bool} (h:∀ w∈jX c,f (qd c w)=A.pure (v w)):Jd.sh (some (EK c),f)=A.pure ((yW ((jX c).filterMap λw=>if (v w).2=true then some (v w).1 else none)).getD (0,0),(yW ((jX c).filterMap λw=>if (v w).2=true then some (v w).1 else none)).isSome):=by
 refine (A.eZ ⟨EK c,rfl,show ((jX c).map (qd c)).length<=60 by simpa using aw,λt aR=>?_⟩ _).trans (congrArg A.pure ?_)
 ·show ((wV ((jX c).map (qd c)) f).getD (0,0),(wV ((jX c).map (qd c)) f).isSome)=_;rw [ao7 _ _ f v h]
 ·obtain ⟨w,hw,rfl⟩:=List.mem_map.1 aR;exact ⟨_,h w hw⟩
theorem ao9:∀ {l:List Int},(yW l).isSome=!l.isEmpty:=by
 intro l;have key:∀ (l:List Int) (o:Option (Int×Int)),o.isSome=true->(l.foldl (λo n=>some (I9 o n)) o).isSome=true:=by
  intro l;induction l with
  | nil=>intro o h;exact h
  | cons n l aO=>intro o _;exact aO _ rfl
 cases l with
 | nil=>rfl
 | cons n l=>exact key l _ rfl
theorem ao_ {c:b6} {f:Option jC->A Bool} {b:Bool} (h:r' c) (ax:eH c=0->f (some (c,gI c,[]))=A.pure b):Jc.sh (c,f)=A.pure (tr c b):=by
 refine (A.eZ ⟨h,λhc=>⟨b,ax hc⟩⟩ _).trans (congrArg A.pure ?_);show tr c (EL c f)=tr c b;unfold tr EL;by_cases hc:eH c=0
 ·rw [ax hc,A.nN]
 ·simp [hc]
theorem ao' {c:b6} (h:r' c) (hc:eH c=0):(jX c).length<=60:=Nat.le_trans (PU c _ _) (h.2 hc)
theorem Zf {c:b6} {w:List Int} (h:w∈jX c):oG c w=true:=PV c _ _ _ h
abbrev Bw:aU:=⟨.aG jU (.bQ bp),dm,λx=>∃ k:Int,x.2=some k/\True,λx=>decide (q_ x.1=x.2.getD 0)&&decide (mu x.1=1)⟩
theorem apa (x):A.bz (amW x) (Bw.sh x):=A.bU λ_=>rfl
abbrev P1:aU:=⟨.aG (.bQ Be) (.bQ bp),dm,λx=>∃ (b:jC) (k:Int),x.2=some k/\x.1=some b/\b.2.1.length<2 ^ 63,λx=>(x.1.getD (Bu,[],[])).2.1.any λs=>q_ s == x.2.getD 0&&mu s == 1⟩
theorem apb (x):A.bz (XW (jz jU).sh Bw.sh x) (P1.sh x):=A.bU λh=>by
 obtain ⟨o,k⟩:=x;obtain ⟨b,_,_,af,h⟩:=h;change o=some b at af;subst af;unfold XW;simp only [Option.isSome_some,A.bL,Option.getD_some];have aj:∀ s,Bw.sh (s,some (k.getD 0))=A.pure (decide (q_ s=k.getD 0)&&decide (mu s=1)):=λs=>A.eZ ⟨_,rfl,trivial⟩ _;rw [show (jz jU).sh (b.2.1,λs=>Bw.sh (s,some (k.getD 0)))=A.pure (b.2.1.any λs=>(Bw.sh (s,some (k.getD 0))).val false) from A.eZ ⟨h,λs _=>⟨_,aj s⟩⟩ _,A.aX];refine congrArg A.pure ?_;show _=b.2.1.any λs=>q_ s == k.getD 0&&mu s == 1;refine congrArg (λp=>b.2.1.any p) ?_;funext s;rw [aj,A.nN];rw [Bool.eq_iff_iff];simp
theorem Zg {f:Int->A Int} {n:Int}:∀ (L:List ay),(∀ p∈L,p.1.1=n->∃ v,f p.2=A.pure v)->
  ju (λ(G:Int×(Int->A Int)×Int×Bool×Unit) (y:bk×Int)=>A.bind (if decide (y.1.1=G.1)=true then A.bind (G.2.1 y.2) λy=>A.pure (dc.ret,y,true,()) else A.pure
 (dc.normal,G.2.2.1,G.2.2.2.1,())) λp=>A.pure (p.1,G.1,G.2.1,p.2.1,p.2.2.1,())) L (n,f,0,false,())=(L.find? λp=>p.1.1 == n).elim (A.pure (dc.normal,n,f,0,false,())) λp=>A.pure (dc.ret,n,f,(f p.2).val 0,true,())
 | [],_=>rfl
 | p::L,h=>by
  unfold ju;by_cases ar:p.1.1=n
  ·obtain ⟨v,aj⟩:=h p (by simp) ar;simp [ar,aj]
  ·have aO:=Zg L λq bt=>h q (by simp [bt]);simp only [ar,decide_false,Bool.false_eq_true,if_false,A.aX];rw [aO,List.find?_cons_of_neg (by simpa using ar)]
abbrev P2:aU:=⟨.aG (.bQ IL) (.aG (.bQ (.bQ Be)) (.aG (.bQ bp) (.bQ (.fn bp bp)))),.aG bp .bool,λx=>∃ (t:hW) (b:jC) (n:Int) (f:Int->A Int),x=(some t,some (some b),some n,some f)/\Je b.1 t.2/\∀ p∈vf b.1 t.2,p.1.1=n->∃ v,f p.2=A.pure v,λx=>((vf ((x.2.1.getD none).getD (Bu,[],[])).1 (x.1.getD ([],[])).2).find? λp=>p.1.1 == x.2.2.1.getD 0).elim (0,false) λp=>(((x.2.2.2.getD λ_=>A.fail) p.2).val 0,true)⟩
theorem apc (x):A.bz (XX Jf.sh x) (P2.sh x):=A.x0 λh=>by
 obtain ⟨t,b,n,f,rfl,M,aa⟩:=h;unfold XX;simp only [Option.getD_some];rw [show Jf.sh (some b,some t)=A.pure (vg (some (some t),some (some b))) from rfl,A.aX,A.gf];refine ⟨⟨_,t,b,rfl,rfl,M,rfl⟩,λL kr=>?_⟩;obtain ⟨cT,bg,aK,bq,_,rfl⟩:=kr;cases aK;cases bq;rw [Zg (f:=f) (n:=n) _ aa];show A.cp _ λy=>y=((vf b.1 t.2).find? λp=>p.1.1 == n).elim (0,false) λp=>((f p.2).val 0,true)
 cases (vf b.1 t.2).find? λp=>p.1.1 == n with
 | none=>simp only [Option.elim,A.aX,qy];exact A.ez.2 rfl
 | some p=>simp only [Option.elim,A.aX,qy];exact A.ez.2 rfl
abbrev Jg:aU:=⟨.aG p_ (.aG bp (.fn bp bp)),.aG rR bp,λx=>r' x.1/\∀ w∈jX x.1,∀ m,eH x.1=0->n3 x.1 w x.2.1=some m->∃ v,x.2.2 m=A.pure v,λx=>(I_ ((qc x.1 x.2.1).1.map λm=>(x.2.2 m).val 0),(qc x.1 x.2.1).2)⟩
theorem apd (x):A.bz (XO Jc.sh Jd.sh P1.sh P2.sh x) (Jg.sh x):=A.bU λh=>by
 obtain ⟨c,n,f⟩:=x;obtain ⟨h,ax⟩:=h;change r' c at h;change ∀ w∈jX c,∀ m,eH c=0->n3 c w n=some m->∃ v,f m=A.pure v at ax;unfold XO;show _=A.pure (I_ ((qc c n).1.map λm=>(f m).val 0),(qc c n).2);unfold qc;rw [ao_ (b:=Bt c n) h λhc=>A.eZ ⟨(c,gI c,[]),n,rfl,rfl,by have:=(wS hc).PO;show (gI c).length<2 ^ 63;omega⟩ _];rcases ao6 c (Bt c n) with ⟨M,aa,an⟩ | ⟨M,aa,an,a8⟩
 ·rw [an];simp only [A.aX];rw [if_pos (by simpa using M),if_pos M];rfl
 ·rw [M,a8];simp only [A.aX];rw [if_neg (by simp)];have aL:=wS aa;rw [ao8 (v:=λw=>(n3 c w n).elim (0,false) λm=>((f m).val 0,true)) (ao' h aa) λw hw=>?_,A.aX]
  ·have e:((jX c).filterMap λw=>if ((n3 c w n).elim ((0,false):Int×Bool) λm=>((f m).val 0,true)).2=true then some ((n3 c w n).elim ((0,false):Int×Bool) λm=>((f m).val 0,true)).1 else none)=((jX c).filterMap λw=>n3 c w n).map λm=>(f m).val 0:=by
    rw [List.map_filterMap];refine P0 λw _=>?_;cases n3 c w n<;>rfl
   rw [e,ao9];generalize (jX c).filterMap (λw=>n3 c w n)=l;cases l with
   | nil=>rfl
   | cons m l=>simp;rfl
  ·have aR:=Zf hw;have zG:=aoZ aR n;refine (A.eZ ⟨(w,yX c w),EK c,n,f,rfl,ao0 aL aR,λp ar Zh=>?_⟩ _).trans (congrArg A.pure ?_)
   ·show ((wW c w).find? λp=>p.1.1 == n).elim (0,false) (λp=>((f p.2).val 0,true))=_;rw [zG];cases (wW c w).find? λp=>p.1.1 == n<;>rfl
   ·refine ax w hw p.2 aa ?_;rw [zG];have hex:((wW c w).find? λq=>q.1.1 == n).isSome=true:=List.find?_isSome.2 ⟨p,ar,by simpa using Zh⟩;obtain ⟨q,bt⟩:=Option.isSome_iff_exists.1 hex;have ape:q.1.1=n:=by have:=List.find?_some bt;simpa using this
    have Zi:=List.mem_of_find?_eq_some bt;have aA:q.1=p.1:=ao2 (Ze Zi) (Ze ar) (ape.trans Zh.symm);have:q=p:=PY (ao5 c w) Zi ar aA;rw [bt,this];rfl
abbrev yZ:aU:=⟨.aG bp (.bQ p_),bp,λx=>∃ c:b6,x.2=some c/\PS (c.2.2.2.2,x.1),λx=>wT (x.2.getD Bu).2.2.2.2 x.1⟩
theorem apf (x):A.bz (XP I6.sh x) (yZ.sh x):=A.bU λh=>by
 obtain ⟨m,q⟩:=x;obtain ⟨c,hc,h⟩:=h;change q=some c at hc;subst hc;unfold XP;simp only [Option.getD_some];rw [show I6.sh (c.2.2.2.2,m)=A.pure (wT c.2.2.2.2 m) from A.eZ h _,A.aX]
theorem Zj {c:b6} (aL:k2 c) {w:List Int} (hw:oG c w=true) {n m:Int} (hm:n3 c w n=some m):yZ.sh (m,some c)=A.pure (wT c.2.2.2.2 m):=by
 have:=aok aL (PW aL.YO hw) hm;exact A.eZ ⟨c,rfl,aL.anZ,show -100000<=m by omega,show m<=20000 by omega⟩ _
theorem apg {c:b6} {n m:Int} (hm:m∈(qc c n).1):eH c=0/\∃ w,oG c w=true/\w∈jX c/\n3 c w n=some m:=by
 unfold qc at hm;split at hm
 ·simp at hm
 ·split at hm
  ·simp at hm
  ·rw [List.mem_filterMap] at hm;obtain ⟨w,hw,he⟩:=hm;obtain ⟨M,aa,an,_⟩:=aom hw;exact ⟨M,w,an,aa,he⟩
theorem aph (x):A.bz (XK Jg.sh yZ.sh x) (Ja.sh x):=A.bU λh=>by
 obtain ⟨c,n⟩:=x;change r' c at h;unfold XK;rw [show Jg.sh (c,n,λm=>yZ.sh (m,some c))=A.pure (I_ ((qc c n).1.map λm=>(yZ.sh (m,some c)).val 0),(qc c n).2) from A.eZ ⟨h,λw hw m hc hm=>⟨_,Zj (wS hc) (Zf hw) hm⟩⟩ _];simp only [A.aX];show _=A.pure (I' c n);unfold I';have:((qc c n).1.map λm=>(yZ.sh (m,some c)).val 0)=(qc c n).1.map λm=>wT c.2.2.2.2 m:=by
  refine List.map_congr_left λm hm=>?_;obtain ⟨hc,w,hw,_,he⟩:=apg hm;rw [Zj (wS hc) hw he,A.nN]
 rw [this]
end Go.Fer.H
namespace Go.Fer.H
open A (ab)
set_option linter.unusedVariables false
set_option linter.unusedSimpArgs false
theorem Zk (p:Int×Int) (m:List (Int×Int)) (k v:Int):cC (p::m) k v=if decide (k=p.1)=true then (p.1,v)::m else p::cC m k v:=rfl
theorem P3 (k v:Int):∀ m:List (Int×Int),((m.map (·.1)).Nodup->((cC m k v).map (·.1)).Nodup)/\∀ x,x∈(cC m k v).map (·.1)<->x∈m.map (·.1)\/x=k
 | []=>by
  rw [show cC [] k v=[(k,v)] from rfl];simp
 | p::m=>by
  obtain ⟨M,aa⟩:=P3 k v m;rw [Zk];grind
theorem Zl (k v:Int) {B:Int}:∀ m:List (Int×Int),(∀ p∈m,0<=p.2/\p.2<=B)->0<=v/\v<=B->∀ p∈cC m k v,0<=p.2/\p.2<=B
 | [],_,aj,p,ar=>by
  rw [show cC [] k v=[(k,v)] from rfl,List.mem_singleton] at ar;grind
 | q::m,h,aj,p,ar=>by
  rw [Zk] at ar;split at ar
  ·grind
  ·rcases List.mem_cons.1 ar with rfl | ar
   ·grind
   ·exact Zl k v m (λx au=>h x (by grind)) aj p ar
def Bx (m:List (Int×Int)) (k:Int):Int:=Option.getD (Option.map (λx=>x.2) (List.find? (λp=>decide (k=p.1)) m)) 0
structure P4 (L:List Int) (i:Nat) (m:List (Int×Int)):Prop where
 nM:(m.map (·.1)).Nodup
 mem:∀ x,x∈m.map (·.1)<->x∈L
 val:∀ p∈m,0<=p.2/\p.2<=(i:Int)
theorem P4.add {L:List Int} {i:Nat} {m:List (Int×Int)} (h:P4 L i m) (k:Int) (U:i<=60):IntKind.wrap .i64 (Bx m k+1)=Bx m k+1/\P4 (L++[k]) (i+1) (cC m k (Bx m k+1)):=by
 have af:0<=Bx m k/\Bx m k<=(i:Int):=by
  unfold Bx;cases ax:m.find? λp=>decide (k=p.1) with
  | none=>simp
  | some p=>exact h.val p (List.mem_of_find?_eq_some ax)
 refine ⟨bF (by omega) (by omega),(P3 _ _ _).1 h.nM,λx=>?_,Zl _ _ _ (λp ar=>by have:=h.val p ar;omega) (by omega)⟩;rw [(P3 _ _ _).2,h.mem];simp
end Go.Fer.H
namespace Go.Fer.H
open A (ab)
set_option linter.unusedVariables false
def api (x:Unit):A b6:=
 A.pure ([(0,0),(-2,1)],[(1,0,100,1,3,7),(2,1,160,2,3,0),(3,0,161,1,3,8),(4,1,393,2,3,0),(5,0,120,1,4,7)],[],[(200,299)],10,30,50,400,500,1500,1000)
end Go.Fer.H
namespace Go.Fer.H
open A (ab)
set_option linter.unusedVariables false
set_option linter.unusedSimpArgs false
def EM:b6:=([(0,0),(-2,1)],[(1,0,100,1,3,7),(2,1,160,2,3,0),(3,0,161,1,3,8),(4,1,393,2,3,0),(5,0,120,1,4,7)],[],[(200,299)],10,30,50,400,500,1500,1000)
abbrev s6:aU:=⟨.da,p_,λ_=>True,λ_=>EM⟩
theorem apj (x):A.bz (api x) (s6.sh x):=A.bU λ_=>rfl
theorem apk:r' EM:=⟨⟨by decide,by decide,by decide,by decide⟩,λ_=>by decide +kernel⟩
theorem apl:I' EM 3=((200,250),0):=by decide +kernel
end Go.Fer.H
namespace Go.Fer
open A (ab)
set_option linter.unusedVariables false
def Zm (apm:a3->A Bool) (NH:a3->A Int) (apn:List (Int×Int×Int×Int)×List (List (Int×List Int×Int×Int))×Int×List (Int×Int×Int×Int)->A Int) (x:a3):A Bool:=
 A.bind (apm x) λy=>A.bind (cJ (!y) (NH x) 0) λcu=>letI a:=!y&&decide (cu=0);A.bind (cJ a (apn x.1) 0) λet=>A.pure (a&&decide (et=0))
def Zn (As:List Int×Int->A Bool) (x:a3×List Int):A Bool:=
 A.bind (A.loop (λ(G:List Int×Int×a3×Unit)=>letI m:=G.2.1;letI h:=Int.ofNat (List.length G.1);letI g:=Int.toNat m;letI j:=List.getD G.1 g 0;letI n:=(List.take g G.1,j);letI e:=0<=m/\m<h;letI b:=List.getD G.1 g (0:Int);letI l:=decide (b>=0);letI k:=decide (b< -1);letI c:=(!k)=true;letI i:=c->c/\True/\True;letI a:=k||decide (j>=Int.ofNat (List.length G.2.2.1.2.2.1));letI f:=(!a)=true;letI d:=(!a&&l)=true;if decide (m<h)=true then A.ah e (A.ah (c->(c/\c)/\e/\True) (A.ah i (A.ah i (A.ah i (A.ah (c->(c/\c)/\True/\True) (A.ah (True/\(k=false->c)) (A.ah (f->(f/\f)/\e/\True) (A.ah (f->f/\True/\True) (A.ah (f->(f/\True)/\True/\True) (A.ah (f->True/\True/\f) (A.ah (d->(d/\True/\d)/\((0:Int)<=0/\0<=m/\m<=h)/\True) (A.ah (d->(d/\d)/\e/\True) (A.ah (d->d/\True/\True) (A.ah (d->(d/\d/\True)/\(As n).dU/\True) (A.ah (f->(f/\(l=true->d))/\True/\True) (A.ah (True/\(a=false->f)) (if (a||l&&A.val (As n) false)=true then A.bind (A.bind (A.pure false) (λr=>A.pure (ab.done r))) λr=>A.pure (ab.done r) else A.pure (ab.next (G.1,IntKind.wrap .i64 (Add.add m 1),G.2.2.1,()))))))))))))))))))) else A.bind (A.pure (ab.next (G.1,G.2.2.1,()))) λr=>A.pure (ab.done r)) (x.2,0,x.1,())) (ab.bx (λ(G:List Int×a3×Unit)=>A.pure (decide (Int.ofNat (List.length G.1)=Int.ofNat (List.length G.2.1.2.2.2.1)))))
def Zo (apo:List (Int×Int×Int×Int)×List (List (Int×List Int×Int×Int))×Int×List (Int×Int×Int×Int)->A (Int×Int)) (NI:Unit->A aT) (apq:a3->A (Int×Int)) (apr:Unit->A (a3)) (aps:(List (Int×Int)×List (Int×Int×Int×Int×Int×Int)×List Int×List (Int×Int)×Int×Int×Int×Int×Int×Int×Int)×Int->A ((Int×Int)×Int)) (apt:Unit->A (List (Int×Int)×List (Int×Int×Int×Int×Int×Int)×List Int×List (Int×Int)×Int×Int×Int×Int×Int×Int×Int)) (x:Unit):A Bool:=
 A.bind (NI ()) λy=>A.bind (apo y) λy=>A.bind (apr ()) λcu=>A.bind (apq cu) λet=>A.bind (apt ()) λjx=>A.bind (aps (jx,3)) λmi=>A.pure (decide (y.2=0)&&decide (et.2=0)&&decide (mi.2=0)&&decide (y.1=3)&&decide (et.1=1600)&&(decide (mi.1.1=200)&&decide (mi.1.2=250)))
def P5 (dw:a3×Int×Int->A (Int×Int)) (x:a3×List Int×Unit):A (Bool×List (Int×Int)×Unit):=
 A.bind (A.loop (λ(G:List Int×Int×a3×List (Int×Int)×Unit)=>letI g:=G.2.2.1;letI f:=G.2.1;letI i:=Int.toNat f;letI c:=f<Int.ofNat (List.length G.1);letI j:=0<=f/\c;letI b:=List.getD G.1 i 0;letI a:=(g,f,b);if decide c=true then A.bind (A.ah j (if decide (List.getD G.1 i (0:Int)<0)=true then A.pure (ab.next (G.1,f,g,G.2.2.2.1,())) else A.ah j (A.ah (dw a).dU (A.ah ((!(decide ((A.val (dw a) (0,0)).2≠0)))=true->((!(decide ((A.val (dw a) (0,0)).2≠0)))=true/\True)/\True/\True) (A.ah (True/\(decide ((A.val (dw a) (0,0)).2≠0)=false->(!(decide ((A.val (dw a) (0,0)).2≠0)))=true)) (A.ah ((!(decide ((A.val (dw a) (0,0)).2≠0)||decide ((A.val (dw a) (0,0)).1=0)))=true->((!(decide ((A.val (dw a) (0,0)).2≠0)||decide ((A.val (dw a) (0,0)).1=0)))=true/\True)/\True/\True) (A.ah ((!(decide ((A.val (dw a) (0,0)).2≠0)||decide ((A.val (dw a) (0,0)).1=0)))=true->True/\True/\(!(decide ((A.val (dw a) (0,0)).2≠0)||decide ((A.val (dw a) (0,0)).1=0)))=true) (A.ah ((!(decide ((A.val (dw a) (0,0)).2≠0)||decide ((A.val (dw a) (0,0)).1=0))&&decide ((A.val (dw a) (0,0)).1=2))=true->(!(decide ((A.val (dw a) (0,0)).2≠0)||decide ((A.val (dw a) (0,0)).1=0))&&decide ((A.val (dw a) (0,0)).1=2))=true/\True/\True) (A.ah ((!(decide ((A.val (dw a) (0,0)).2≠0)||decide ((A.val (dw a) (0,0)).1=0))&&decide ((A.val (dw a) (0,0)).1=2))=true->((!(decide ((A.val (dw a) (0,0)).2≠0)||decide ((A.val (dw a) (0,0)).1=0))&&decide ((A.val (dw a) (0,0)).1=2))=true/\(!(decide ((A.val (dw a) (0,0)).2≠0)||decide ((A.val (dw a) (0,0)).1=0))&&decide ((A.val (dw a) (0,0)).1=2))=true)/\(0<=f/\f<Int.ofNat (List.length g.2.2.2.1))/\True) (A.ah ((!(decide ((A.val (dw a) (0,0)).2≠0)||decide ((A.val (dw a) (0,0)).1=0))&&decide ((A.val (dw a) (0,0)).1=2))=true->(!(decide ((A.val (dw a) (0,0)).2≠0)||decide ((A.val (dw a) (0,0)).1=0))&&decide ((A.val (dw a) (0,0)).1=2))=true/\True/\True) (A.ah ((!(decide ((A.val (dw a) (0,0)).2≠0)||decide ((A.val (dw a) (0,0)).1=0))&&decide ((A.val (dw a) (0,0)).1=2))=true->(!(decide ((A.val (dw a) (0,0)).2≠0)||decide ((A.val (dw a) (0,0)).1=0))&&decide ((A.val (dw a) (0,0)).1=2))=true/\True/\True) (A.ah ((!(decide ((A.val (dw a) (0,0)).2≠0)||decide ((A.val (dw a) (0,0)).1=0))&&decide ((A.val (dw a) (0,0)).1=2))=true->(!(decide ((A.val (dw a) (0,0)).2≠0)||decide ((A.val (dw a) (0,0)).1=0))&&decide ((A.val (dw a) (0,0)).1=2))=true/\True/\True) (A.ah ((!(decide ((A.val (dw a) (0,0)).2≠0)||decide ((A.val (dw a) (0,0)).1=0))&&decide ((A.val (dw a) (0,0)).1=2))=true->((!(decide ((A.val (dw a) (0,0)).2≠0)||decide ((A.val (dw a) (0,0)).1=0))&&decide ((A.val (dw a) (0,0)).1=2))=true/\(!(decide ((A.val (dw a) (0,0)).2≠0)||decide ((A.val (dw a) (0,0)).1=0))&&decide ((A.val (dw a) (0,0)).1=2))=true)/\True/\True) (A.ah ((!(decide ((A.val (dw a) (0,0)).2≠0)||decide ((A.val (dw a) (0,0)).1=0)))=true->((!(decide ((A.val (dw a) (0,0)).2≠0)||decide ((A.val (dw a) (0,0)).1=0)))=true/\(decide ((A.val (dw a) (0,0)).1=2)=true->(!(decide ((A.val (dw a) (0,0)).2≠0)||decide ((A.val (dw a) (0,0)).1=0))&&decide ((A.val (dw a) (0,0)).1=2))=true))/\True/\True) (A.ah (True/\((decide ((A.val (dw a) (0,0)).2≠0)||decide ((A.val (dw a) (0,0)).1=0))=false->(!(decide ((A.val (dw a) (0,0)).2≠0)||decide ((A.val (dw a) (0,0)).1=0)))=true)) (if (decide ((A.val (dw a) (0,0)).2≠0)||decide ((A.val (dw a) (0,0)).1=0)||decide ((A.val (dw a) (0,0)).1=2)&&decide ((List.getD g.2.2.2.1 i ([],(0,0),0,0,0)).2.2.2.1<g.2.2.2.2.2))=true then A.bind (A.bind (A.bind (A.pure (false,[],())) (λr=>A.pure (ab.done r))) (λr=>A.pure (ab.done r))) λr=>A.pure (ab.done r) else A.ah j (A.ah (0<=b/\b<Int.ofNat (List.length g.2.2.1)) (A.loop (λ(G:List Int×Int×Int×a3×List (Int×Int)×(Int×Int×Int×Int×List Int)×Unit)=>letI d:=G.2.2;letI h:=d.2.2.2.1.2.2.2;letI e:=d.1<Int.ofNat (List.length h.2);if decide e=true then A.ah (0<=d.1/\e) (A.ah (bT (Add.add (List.length d.2.2.1) (Add.add 0 1))) (A.pure (ab.next (G.1,G.2.1,IntKind.wrap .i64 (Add.add d.1 1),d.2.1,d.2.2.1++[(h.1,List.getD h.2 (Int.toNat d.1) 0)],d.2.2.2.1,())))) else A.bind (A.pure (ab.next (G.1,G.2.1,d.2.1,d.2.2.1,()))) λr=>A.pure (ab.done r)) (G.1,f,0,g,G.2.2.2.1,List.getD g.2.2.1 (Int.toNat b) (0,0,0,0,[]),()))))))))))))))))))) (ab.bx (λ(G:List Int×Int×a3×List (Int×Int)×Unit)=>A.pure (ab.next (G.1,IntKind.wrap .i64 (Add.add G.2.1 1),G.2.2.1,G.2.2.2.1,())))) else A.bind (A.pure (ab.next (G.2.2.2.1,()))) λr=>A.pure (ab.done r)) (x.2.1,0,x.1,[],())) (ab.bx (λ(G:List (Int×Int)×Unit)=>A.pure (true,G.1,())))
def P6 (apu:a3×Unit->A (Hd)) (apv:a3->A Bool) (apw:a3×List Int->A Bool) (As:List Int×Int->A Bool) (EN:Unit->A Bool) (apx:a3×List Int->A (List (Int×Int)×Bool)) (DH:aT×Int×Int×Int->A (Int×Int)) (apy:aT×List Int×List (Int×Int)->A (Int×Int)) (Zp:a3->A (Int×Int)) (x:a3×List Int×Int):A Bool:=
 A.bind (apu (x.1,())) λy=>letI m:=(y.1,y.2.1,y.2.2.1,y.2.2.2.1);letI f:=y.2.2.2.2;letI w:=f.2.2;A.bind (apv (m,f.2.1,w.1,w.2.1,[],f.1)) λcu=>letI h:=!cu||decide (Int.ofNat (List.length x.2.1) > 20);A.bind (cJ (!h) (apw ((m,f.2.1,w.1,w.2.1,[],f.1),x.2.1)) false) λet=>A.bind (cJ (!(h||!et)) (As (x.2.1,-1)) false) λjx=>if (h||!et||jx)=true then A.bind (EN ()) λy=>A.pure y else A.bind (apx ((m,f.2.1,w.1,w.2.1,[],f.1),x.2.1)) λmi=>if (!mi.2||decide (Int.ofNat (List.length mi.1) > 10))=true then A.bind (EN ()) λy=>A.pure y else A.bind (A.loop (λ(G:Int×List (Int×Int)×Int×List (Int×Int×Int×Int)×List (List (Int×List Int×Int×Int))×Int×List (Int×Int×Int×Int)×Int×List Int×List eu×List e2×Unit)=>letI v:=G.2.2.2;letI e:=v.2.2;letI u:=e.2.2.2;if decide (G.2.2.1<Int.ofNat (List.length G.2.1))=true then A.bind (A.bind (A.loop (λ(G:Int×List (Int×Int)×Int×Bool×Int×List (Int×Int×Int×Int)×List (List (Int×List Int×Int×Int))×Int×List (Int×Int×Int×Int)×Int×List Int×List eu×List e2×Unit)=>letI p:=G.2.2;letI n:=0<=p.1/\p.1<Int.ofNat (List.length G.2.1);letI a:=p.2.2.2;letI z:=a.2.2;letI l:=z.2.2;letI c:=((a.1,a.2.1,z.1,z.2.1),p.2.2.1,List.getD G.2.1 (Int.toNat p.1) (0,0));if decide (p.2.2.1<Int.ofNat (List.length l.2.1))=true then A.ah n (A.ah n (A.ah (DH c).dU (if decide ((A.val (DH c) (0,0)).2≠0)=true then A.bind (A.bind (A.bind (A.bind (A.bind (A.pure false) (λr=>A.pure (ab.done r))) (λr=>A.pure (ab.done r))) (λr=>A.pure (ab.done r))) (λr=>A.pure (ab.done r))) λr=>A.pure (ab.done r) else A.pure (ab.next (G.1,G.2.1,p.1,p.2.1||decide ((A.val (DH c) (0,0)).1=1),IntKind.wrap .i64 (Add.add p.2.2.1 1),a.1,a.2.1,z.1,z.2.1,l.1,l.2.1,l.2.2.1,l.2.2.2.1,()))))) else A.bind (A.pure (ab.next (G.1,G.2.1,p.1,p.2.1,a.1,a.2.1,z.1,z.2.1,l.1,l.2.1,l.2.2.1,l.2.2.2.1,()))) λr=>A.pure (ab.done r)) (G.1,G.2.1,G.2.2.1,false,0,v.1,v.2.1,e.1,e.2.1,e.2.2.1,u.1,u.2.1,u.2.2.1,())) (ab.bx (λ(G:Int×List (Int×Int)×Int×Bool×List (Int×Int×Int×Int)×List (List (Int×List Int×Int×Int))×Int×List (Int×Int×Int×Int)×Int×List Int×List eu×List e2×Unit)=>letI k:=G.2.2.2.2.2;if (!G.2.2.2.1)=true then A.bind (EN ()) λy=>A.bind (A.bind (A.bind (A.pure y) (λr=>A.pure (ab.done r))) (λr=>A.pure (ab.done r))) λr=>A.pure (ab.done r) else A.pure (ab.next (G.1,G.2.1,G.2.2.1,G.2.2.2.2.1,k.1,k.2.1,k.2.2.1,k.2.2.2.1,k.2.2.2.2.1,k.2.2.2.2.2.1,k.2.2.2.2.2.2.1,()))))) (ab.bx (λ(G:Int×List (Int×Int)×Int×List (Int×Int×Int×Int)×List (List (Int×List Int×Int×Int))×Int×List (Int×Int×Int×Int)×Int×List Int×List eu×List e2×Unit)=>letI o:=G.2.2.2.2.2;A.pure (ab.next (G.1,G.2.1,IntKind.wrap .i64 (Add.add G.2.2.1 1),G.2.2.2.1,G.2.2.2.2.1,o.1,o.2.1,o.2.2.1,o.2.2.2.1,o.2.2.2.2.1,o.2.2.2.2.2.1,())))) else A.bind (A.pure (ab.next (G.1,G.2.1,v.1,v.2.1,e.1,e.2.1,e.2.2.1,u.1,u.2.1,u.2.2.1,()))) λr=>A.pure (ab.done r)) (x.2.2,mi.1,0,y.1,y.2.1,y.2.2.1,y.2.2.2.1,f.1,f.2.1,w.1,w.2.1,())) (ab.bx (λ(G:Int×List (Int×Int)×List (Int×Int×Int×Int)×List (List (Int×List Int×Int×Int))×Int×List (Int×Int×Int×Int)×Int×List Int×List eu×List e2×Unit)=>letI s:=Int.toNat G.1;letI d:=G.2.2.2.2.2;letI t:=d.2.2;letI j:=(G.2.2.1,G.2.2.2.1,G.2.2.2.2.1,d.1);letI b:=Int.ofNat (List.length t.1);letI q:=0<=G.1/\G.1<b;letI g:=decide (G.1<0)||decide (G.1>=b);letI bN:=(!g)=true;A.bind (apy (j,t.1,G.2.1)) λy=>A.bind (Zp (j,t.1,t.2.1,t.2.2.1,[],d.2.1)) λwe=>if (decide (y.2≠0)||decide (we.2≠0)||decide (y.1<0)||decide (we.1<0)||decide (we.1 > IntKind.wrap .i64 (Int.ofNat (List.length G.2.1)-y.1)))=true then A.pure false else A.ah (bN->(bN/\bN)/\q/\True) (if (g||decide (List.getD t.1 s (0:Int)>=10))=true then A.bind (EN ()) λy=>A.pure y else A.ah q (A.ah q (A.bind (Zp (j,List.set t.1 s (IntKind.wrap .i64 (Add.add (List.getD t.1 s 0) 1)),t.2.1,t.2.2.1,[],d.2.1)) (λy=>letI i:=decide (y.2=0)&&decide (y.1<=we.1)&&decide (y.1>=IntKind.wrap .i64 (we.1-1));A.bind (cJ i (EN ()) false) λND=>A.pure (i&&ND)))))))
end Go.Fer
namespace Go.Fer
open A (ab)
set_option linter.unusedVariables false
set_option linter.unusedSimpArgs false
set_option maxRecDepth 100000
def tt (s:a3):Bool:=!yH s&&decide (kc s=0)&&decide (eo s.1 true=0)
abbrev Jh:aU:=⟨nX,dm,gH,tt⟩
theorem apz (x):A.bz (Zm O6.sh uS.sh Hn.sh x) (Jh.sh x):=A.bU λh=>by
 unfold Zm;simp only [aU.sh,A.cN,A.je];rw [A.ba (by exact h),A.ba (by grind),A.ba (by exact λ_=>h.1)];show A.pure _=A.pure (tt x);unfold tt;grind
theorem apA {s:a3} (h:tt s=true):Iw s=true:=by
 unfold tt at h;simp only [Bool.and_eq_true,decide_eq_true_eq] at h;unfold Iw f_;grind
abbrev Ji:aU:=⟨.aG nX hl,dm,λx=>gH x.1/\x.2.length<2 ^ 63,λx=>q0 x.1 x.2⟩
theorem apB (x):A.bz (Zn mj.sh x) (Ji.sh x):=A.bU λh=>by
 obtain ⟨s,l⟩:=x;obtain ⟨aA,aw⟩:=h;change gH s at aA;change l.length<2 ^ 63 at aw;unfold Zn;rw [A.fv (List.range l.length) (λi (_:Unit)=>(l,(i:Int),s,())) (λi b=>if (!wz s l i)=true then .done (.done false) else .next b) (λ_=>.next (l,s,())) () ?_ ?_ ?_]
 ·rw [lS (q:=wz s l) _ _ (λ_=>rfl)];show _=A.pure (q0 s l);unfold q0;cases (List.range l.length).all (wz s l)<;>simp
 ·simp
 ·intro i U b;have U:i<l.length:=by grind
  have hw:=bF (n:=(i:Int)+1) (by omega) (by omega);obtain ⟨aM,ke⟩:∃ aM,l.getD i 0=aM:=⟨_,rfl⟩
  have cm:wz s l i=(decide (aM=-1)||(uU s aM&&!(l.take i).contains aM)):=by unfold wz;rw [ke]
  have yk:(l.take i).length<2 ^ 63:=by grind
  have W:(0:Int)<=0/\(0:Int)<=(i:Int)/\(i:Int)<=(l.length:Int):=⟨by omega,by omega,by omega⟩
  have ar:uU s aM=(decide (0<=aM)&&decide (aM<(s.2.2.1.length:Int))):=by
   rfl
  simp only [cc,dn U,if_true,List.getElem_range,dd U,A.bL,aU.sh,A.mg,A.hS,Int.toNat_natCast,ke,yk,W,and_true,true_and,and_self,imp_self,implies_true];rw [cm,ar];by_cases M:aM < -1
  ·simp [U,A.bL,M,ab.h',show ¬aM=-1 by omega,show ¬0<=aM by omega]
  ·by_cases aa:aM>=(s.2.2.1.length:Int)
   ·simp [U,A.bL,M,aa,ab.h',show ¬aM=-1 by omega,show ¬aM<(s.2.2.1.length:Int) by omega]
   ·by_cases an:aM>=0
    ·cases a8:(l.take i).contains aM<;>simp [U,A.bL,M,aa,an,a8,b',hw,ab.h',show ¬aM=-1 by omega,show aM<(s.2.2.1.length:Int) by omega]
    ·simp [U,A.bL,M,aa,an,b',hw,ab.h',show aM=-1 by omega,show ¬(s.2.2.1.length:Int)<=-1 by omega]
 simp
def oI (s:a3) (a0:List Int) (i:Nat):Option (List (Int×Int)):=(iq s a0 i).map λl=>l.map λj=>(j.1,j.2.1)
theorem apC (s:a3) (a0:List Int):jB s a0=if ((List.range a0.length).all λi=>(oI s a0 i).isSome)=true then ((List.range a0.length).flatMap λi=>(oI s a0 i).getD [],true) else ([],false):=by
 have e:((List.range a0.length).all λi=>(oI s a0 i).isSome)=(List.range a0.length).all λi=>(iq s a0 i).isSome:=by
  refine uI λi _=>?_;unfold oI;simp
 rw [e];unfold jB gP;split
 ·refine Prod.ext ?_ rfl;show List.map _ ((List.range a0.length).flatMap λi=>(iq s a0 i).getD [])=(List.range a0.length).flatMap λi=>(oI s a0 i).getD [];rw [List.map_flatMap];congr 1;funext i;unfold oI;cases iq s a0 i<;>rfl
 ·rfl
theorem apD {s:a3} (aj:gm s) {a0:List Int} (ar:kY s a0) {i:Nat} (U:i<a0.length) {l:List (Int×Int)} (h:oI s a0 i=some l):l.length<=4:=by
 unfold oI at h;cases aC:iq s a0 i with
 | none=>grind
 | some y=>
  rw [aC] at h;cases h;rw [List.length_map];exact Ok aj ar U aC
def P7 (s:a3) (a0:List Int):Prop:=gH s/\kc s=0/\kY s a0
def Zq (x:a3×List Int×Unit):A (Bool×List (Int×Int)×Unit):=A.eT (P7 x.1 x.2.1) ((jB x.1 x.2.1).2,(jB x.1 x.2.1).1,())
theorem apE (s:a3) (a0:List Int) (h:P7 s a0):P5 H3.sh (s,a0,())=A.pure ((jB s a0).2,(jB s a0).1,()):=by
 obtain ⟨aA,he,ar⟩:=h;have aj:=q2 aA he;unfold P5;have AW:=aj.jS;have akI:=ar.1;rw [A.hT (List.range a0.length) (λi acc=>(a0,(i:Int),s,acc,())) (yr (oI s a0) (.done (false,[],()))) (λacc=>.next (acc,())) (λi acc=>acc.length<=4*i) [] ?_ ?_ ?_ ?_]
 ·rw [Ol,apC];by_cases h:((List.range a0.length).all λi=>(oI s a0 i).isSome)=true
  ·simp [h]
  ·simp [h]
 ·rfl
 ·simp
 ·intro i U acc DQ;have U:i<a0.length:=by grind
  have p6:i<s.2.2.2.1.length:=by omega
  have gx:=bF (n:=(i:Int)+1) (by omega) (by omega);have AX:=H_ p6;rw [List.getElem_range];obtain ⟨aM,Ie⟩:∃ aM,a0.getD i 0=aM:=⟨_,rfl⟩
  have Om:aM∈a0:=by grind
  refine ⟨?_,λbg af=>?_⟩
  ·simp only [cc,dn U,if_true,Int.toNat_natCast,Ie,dd U,A.bL];by_cases uT:aM<0
   ·have iN:oI s a0 i=some []:=by unfold oI iq;grind
    rw [wD iN];simp_all
   ·have jq:aM<(s.2.2.1.length:Int):=ar.2 aM Om;have On:=Ia (s:=s) (by omega) jq;have g5:0<=aM/\aM<(s.2.2.1.length:Int):=⟨by omega,jq⟩
    have cV:0<=aM:=by omega
    have wF:List.getD s.2.2.2.1 i ([],(0,0),0,0,0)=hV s (i:Int):=rfl;have Ef:List.getD s.2.2.1 aM.toNat (0,0,0,0,[])=hI s aM:=rfl;have apF:Ec s (i:Int) aM=(jR (hV s (i:Int)) (hI s aM),0):=by
     unfold Ec;rw [if_neg (by omega),V7.2 ⟨by omega,by omega⟩,H2.2 g5];rfl
    have iN:oI s a0 i=(kB s (hV s (i:Int)) (hI s aM)).map λd=>(hI s aM).2.2.2.2.map λk=>((hI s aM).2.2.2.1,k):=by
     unfold oI iq;rw [Ie,if_neg uT];cases kB s (hV s (i:Int)) (hI s aM) with
     | none=>rfl
     | some d=>simp
    obtain ⟨akJ,_⟩:=Oj aj AX;have m_:=aj.AS;obtain ⟨AU,h2,z2⟩:=H9 aj On;simp only [uT,decide_false,Bool.false_eq_true,if_false,aU.sh,A.mg,A.hS,aA,apF,A.bL,ne_eq,not_true,Bool.not_false,dd p6,g5,cV,wF,Ef,and_true,true_and,and_self,imp_self,implies_true,Bool.false_or];generalize hV s (i:Int)=x at *
    generalize hI s aM=p at *
    have db:(!decide (jR x p=0))=true->(!decide (jR x p=0))=true/\(decide (jR x p=2)=true->(!decide (jR x p=0)&&decide (jR x p=2))=true):=λh=>⟨h,λaa=>by grind⟩
    have dR:decide (jR x p=0)=false->(!decide (jR x p=0))=true:=λh=>by grind
    rw [A.ba db,A.ba dR];by_cases apG:(decide (jR x p=0)||decide (jR x p=2)&&decide (x.2.2.2.1<s.2.2.2.2.2))=true
    ·have aN:kB s x p=none:=by
      unfold kB;grind
     rw [aN] at iN;rw [AV iN];simp_all
    ·obtain ⟨d,aN⟩:∃ d,kB s x p=some d:=by
      unfold kB;grind
     rw [aN] at iN;rw [wD iN,if_neg apG];rw [A.hT p.2.2.2.2 (λk acc=>(a0,(i:Int),(k:Int),s,acc,p,())) (λk acc=>.next (acc++[(p.2.2.2.1,k)])) (λacc=>.next (a0,(i:Int),s,acc,())) (λk r3=>r3.length<=4*i+k) acc ?_ ?_ ?_ ?_]
     ·rw [g7,x1];simp_all
     ·rfl
     ·omega
     ·intro k ak r3 V';have jy:=bF (n:=(k:Int)+1) (by omega) (by omega);have h4:bT (r3.length+(0+1)):=by unfold bT;omega
      refine ⟨?_,λbg af=>?_⟩
      ·simp_all
      grind
     simp
  ·cases iN:oI s a0 i with
   | none=>rw [AV iN] at af;cases af
   | some y=>
    rw [wD iN] at af;cases af;have:=apD aj ar U iN;grind
 simp
theorem apH (x):A.bz (P5 H3.sh x) (Zq x):=A.bU λh=>apE x.1 x.2.1 h
abbrev EO:aU:=⟨.aG nX hl,.aG (.slice (.st nW)) dm,λx=>P7 x.1 x.2,λx=>jB x.1 x.2⟩
theorem apI (x):A.bz (agH r2.sh x) (DZ x):=λh=>by
 have k:=V6 x ⟨h.1,h.2.1,by have:=h.2.2;omega⟩;exact ⟨k.1,k.2⟩
abbrev Jj:aU:=⟨.da,dm,λ_=>True,λ_=>true⟩
theorem apJ (x):A.bz (Zo HI.sh s6.sh It.sh Ix.sh H.Ja.sh H.s6.sh x) (Jj.sh x):=A.bU λ_=>by
 unfold Zo;rw [show s6.sh ()=A.pure ym from rfl,A.aX];rw [show HI.sh ym=A.pure (3,0) from (A.eZ V4 _).trans (congrArg A.pure aj2),A.aX];rw [show Ix.sh ()=A.pure yI from rfl,A.aX];rw [show It.sh yI=A.pure (1600,0) from (A.eZ alL _).trans (congrArg A.pure alK),A.aX];rw [show H.s6.sh ()=A.pure H.EM from rfl,A.aX];rw [show H.Ja.sh (H.EM,3)=A.pure ((200,250),0) from (A.eZ H.apk _).trans (congrArg A.pure H.apl),A.aX];rfl
end Go.Fer
namespace Go.Fer
open A (ab)
set_option linter.unusedVariables false
set_option linter.unusedSimpArgs false
set_option maxRecDepth 100000
def hr (s:a3):a3:=pd s s.2.1 []
def By (s:a3) (j:Int×Int):Bool:=(List.range s.2.1.length).any λi=>decide ((nS s.1 (i:Int) j.1 j.2).1=1)
theorem apK {s:a3} (aj:gm s) {a0:List Int} (ar:kY s a0):∀ j∈(jB s a0).1,fN s.1 j.1 j.2=true:=λj aC=>by
 obtain ⟨q,bt,rfl⟩:=List.mem_map.1 aC;exact (Pe aj ar q bt).1
theorem Zr {ao:Type} {q:ao->Bool}:∀ (l:List ao) (b:Bool),l.foldl (λb i=>b||q i) b=(b||l.any q)
 | [],b=>by simp
 | x::l,b=>by rw [List.foldl_cons,Zr l,List.any_cons,Bool.or_assoc]
theorem Z9 (x:a3×List Int×Int) (hc:sa x.1) (aw:x.2.1.length<2 ^ 63):P6 Es Jh.sh Ji.sh mj.sh Jj.sh EO.sh Aw.sh HS.sh Iu.sh x=A.pure true:=by
 obtain ⟨s,a0,more⟩:=x;change sa s at hc;change a0.length<2 ^ 63 at aw;have kX:gH (hr s):=Xw hc.mI hc.mI.2.1 (by simp);have tV:(((s.1.1,s.1.2.1,s.1.2.2.1,s.1.2.2.2),s.2.1,s.2.2.1,s.2.2.2.1,([]:List e_),s.2.2.2.2.2):a3)=hr s:=rfl;unfold P6;simp only [Es,aU.sh,A.cN,A.je,A.ba hc,W6,tV];rw [A.ba (by omega),A.ba (by grind),A.ba (by omega)];simp only [A.bL,cc];generalize Cp:(!tt (hr s)||decide ((a0.length:Int) > 20)||!(if (!(!tt (hr s)||decide ((a0.length:Int) > 20)))=true then q0 (hr s) a0 else false)||(if (!(!tt (hr s)||decide ((a0.length:Int) > 20)||!(if (!(!tt (hr s)||decide ((a0.length:Int) > 20)))=true then q0 (hr s) a0 else false)))=true then a0.contains (-1) else false))=c;cases c with
 | true=>simp
 | false=>
  have pQ:tt (hr s)=true:=by
   grind
  have atN:¬(a0.length:Int) > 20:=λh=>by grind
  have pD:q0 (hr s) a0=true:=by
   grind
  have Wn:a0.contains (-1)=false:=by
   grind
  obtain ⟨yA,iV,aj⟩:=alI kX (apA pQ);have he:=(nY iV).1;have uP:=(W4 pD).2;simp only [Bool.false_eq_true,if_false];rw [A.ba (by exact ⟨kX,he,uP⟩)];generalize hk:jB (hr s) a0=N;obtain ⟨J,cb⟩:=N;by_cases apL:(!cb||decide ((J.length:Int) > 10))=true
  ·grind
  ·have atO:cb=true:=by grind
   have yh:J.length<=10:=by
    grind
   simp only [apL,Bool.false_eq_true,if_false];have dr:=apK aj uP;rw [hk] at dr;have atP:(hr s).2.1.length=(hr s).1.1.length:=aj.p3;have Dg:=(nY iV).2.2.1;rw [A.fv J (λi (_:Unit)=>(more,J,(i:Int),s.1.1,s.1.2.1,s.1.2.2.1,s.1.2.2.2,s.2.2.2.2.2,s.2.1,s.2.2.1,s.2.2.2.1,())) (λj b=>if (!By (hr s) j)=true then .done (.done true) else .next b) (λ_=>.next (more,J,s.1.1,s.1.2.1,s.1.2.2.1,s.1.2.2.2,s.2.2.2.2.2,s.2.1,s.2.2.1,s.2.2.2.1,())) () ?_ ?_ ?_]
   ·rw [lS (q:=By (hr s)) _ _ (λ_=>rfl)];by_cases ax:(J.all (By (hr s)))=true
    ·rw [if_pos ax,A.aX,A.bX];have atQ:∀ j∈J,∃ i:Nat,i<(hr s).2.1.length/\(nS (hr s).1 (i:Int) j.1 j.2).1=1:=λj aC=>by
      have:=List.all_eq_true.1 ax j aC;unfold By at this;simp_all
     obtain ⟨n,aI,r5,dO,dC,aK⟩:=amt kX iV rfl pD Wn (by grind) (by grind) (by grind) (by simp_all);rw [hk] at aI dO aK;change n<=(J.length:Int) at dO;change hB (hr s)<=(J.length:Int) - n at aK;have apM:D3 (s.1.1,s.1.2.1,s.1.2.2.1,s.1.2.2.2) s.2.1 J=(n,0):=aI;have xH:=IF kX iV;rw [if_neg (by omega)] at xH;have wm:=bF (n:=(J.length:Int) - n) (by omega) (by omega);have apN:=bF (n:=hB (hr s) - 1) (by omega) (by omega);simp only [tV,apM,xH];rw [A.ba (by exact ⟨kX.1,kX.2.1,by grind⟩),A.ba (by omega)];have d1:decide (n<0)=false:=by grind
     have d2:decide (hB (hr s)<0)=false:=by grind
     have d3:decide (hB (hr s) > (J.length:Int) - n)=false:=by grind
     simp only [wm,apN,d1,d2,d3,ne_eq,not_true,decide_false,Bool.or_self,Bool.false_eq_true,if_false];rw [A.ba (by
      simp)]
     by_cases af:(decide (more<0)||decide (more>=(s.2.1.length:Int))||decide (s.2.1.getD more.toNat 0>=10))=true
     ·grind
     ·simp only [Bool.or_eq_true,decide_eq_true_eq,not_or] at af;obtain ⟨⟨e0,gE⟩,jN⟩:=af;obtain ⟨k,rfl⟩:∃ k:Nat,more=(k:Int):=⟨more.toNat,by omega⟩
      rw [Int.toNat_natCast] at jN;have ak:k<s.2.1.length:=by omega
      have g6:s.2.1.getD k 0∈s.2.1:=by grind
      have hA:=aj.aB _ g6;obtain ⟨wO,f0,f1,f2⟩:=amp kX iV rfl (k:=k) ak (by grind) yA dC;have apO:gH (lz (hr s) k):=XE yA (by show (s.2.1.set k _).length<=_;rw [List.length_set];exact yA.2.1) (by grind);have Db:=IF apO wO;rw [if_neg (by omega)] at Db;have apP:=bF (n:=s.2.1.getD k 0+1) (by omega) (by omega);have em:(((s.1.1,s.1.2.1,s.1.2.2.1,s.1.2.2.2),s.2.1.set k (s.2.1.getD k 0+1),s.2.2.1,s.2.2.2.1,([]:List e_),s.2.2.2.2.2):a3)=lz (hr s) k:=rfl;simp only [Int.toNat_natCast,e0,gE,jN,decide_false,Bool.or_self,Bool.false_eq_true,if_false,dd ak,A.bL,b',apP,em,Db];rw [A.ba (by omega)];have d4:decide (hB (lz (hr s) k)<=hB (hr s))=true:=by grind
      have d5:decide (hB (lz (hr s) k)>=hB (hr s) - 1)=true:=by grind
      simp_all
    ·rw [if_neg ax,A.aX,A.jf]
   ·rfl
   ·intro i U u;have hn:=bF (n:=(i:Int)+1) (by omega) (by omega);have aC:=dr J[i] (List.getElem_mem U);simp only [cc,dn U,if_true];rw [A.fv (List.range s.2.1.length) (λk (f:Bool)=>(more,J,(i:Int),f,(k:Int),s.1.1,s.1.2.1,s.1.2.2.1,s.1.2.2.2,s.2.2.2.2.2,s.2.1,s.2.2.1,s.2.2.2.1,())) (λk f=>.next (f||decide ((nS (hr s).1 (k:Int) J[i].1 J[i].2).1=1))) (λf=>.next (more,J,(i:Int),f,s.1.1,s.1.2.1,s.1.2.2.1,s.1.2.2.2,s.2.2.2.2.2,s.2.1,s.2.2.1,s.2.2.2.1,())) false ?_ ?_ ?_]
    ·rw [g7,Zr,Bool.false_or,A.aX,A.bX];show A.bind (if (!By (hr s) J[i])=true then _ else _) _=_;cases By (hr s) J[i] with
     | true=>simp_all
     | false=>simp
    ·rfl
    ·intro k ak f;have ak:k<s.2.1.length:=by grind
     have jy:=bF (n:=(k:Int)+1) (by omega) (by have:=kX.2.1;grind);have atS:(s.1.1,s.1.2.1,s.1.2.2.1,s.1.2.2.2)=(hr s).1:=rfl;have j':e3 (hr s).1 (k:Int)=true:=lq.2 ⟨by omega,by grind⟩;have aa:(nS (hr s).1 (k:Int) J[i].1 J[i].2).2=0:=by
      unfold nS;grind
     have atT:fp (hr s).1:=kX.1;simp_all
    simp
   simp
end Go.Fer
namespace Go.Fer.y1
open Go.Proofs Go.Proofs.Tryz
open A (ab)
set_option maxRecDepth 100000
set_option linter.unusedVariables false
set_option linter.unusedSimpArgs false
noncomputable section
abbrev L:dS:=.fS
abbrev S(a b:dS):dS:=.seq a b
abbrev D:dS:=S L L
abbrev C(a b:dS):dS:=.cond a b
abbrev B(a:dS):dS:=.block a
abbrev J(s:List (Nat×cE))(b:List (Nat×cv))(x y:dS):dS:=.xy ⟨s,b⟩ x y
abbrev bb(s:List (Nat×cE))(b:List (Nat×cv))(x:dS):dS:=.loop ⟨s,b⟩ x
abbrev cz(s:List (Nat×cE))(b:List (Nat×cv))(t:List (Nat×cE))(c:List (Nat×cv))(u:List (Nat×cE))(d:List (Nat×cv))(x y:dS):dS:=.range ⟨s,b⟩ ⟨t,c⟩ ⟨u,d⟩ x y
abbrev ae:cE:=.val a7
abbrev bC:cv:=.bu a7
abbrev pk:cE:=.val h_
abbrev hK:cE:=.val GV
abbrev hY:cE:=.val GW
abbrev iK:cE:=.val GY
abbrev jY:cv:=.jM ka
abbrev bE:cE:=.val ey
abbrev re:cv:=.bu ey
abbrev oJ:cE:=.val MB
abbrev qe:cE:=.val MC
abbrev k4:cE:=.val GZ
abbrev ib:cv:=.jM jZ
abbrev cg:cE:=.val rP
abbrev tu:cv:=.bu v5
abbrev EP:cv:=.jM v5
abbrev vh:cv:=.bu An
abbrev P8:cv:=.jM An
abbrev vi:cv:=.bu Dx
abbrev cZ:cE:=.val pR
abbrev Zs:cv:=.jM ME
abbrev Jk:cv:=.jM MF
abbrev kF:cE:=.val Dy
abbrev kG:cE:=.val o1
abbrev apQ:cE:=.val MA
abbrev ER:cv:=.bu Am
abbrev Zt:cv:=.bu Dw
abbrev Zu:cv:=.jM Dw
abbrev apR:cE:=.val TZ
abbrev vj:cv:=.bu mf
abbrev apS:cv:=.jM mf
abbrev jG:cE:=.val nh
abbrev Jl:cv:=.bu nh
abbrev ES:cv:=.bu Dv
abbrev Zv:cv:=.jM Dv
abbrev ET:cv:=.bu GX
abbrev apT:cE:=.val iR
abbrev wX:cv:=.bu iR
abbrev vk:cE:=.val v7
abbrev apU:cE:=.val T0
abbrev Zw:cE:=.val T1
abbrev apV:cE:=.val T2
abbrev vl:cE:=.val MH
abbrev Zx:cE:=.val MK
abbrev P9:cE:=.val ML
abbrev gR:cv:=.bu qK
abbrev Zy:cE:=.val T3
abbrev apW:cE:=.val T5
abbrev apX:cE:=.val MI
abbrev P_:cE:=.val MJ
abbrev aF:cv:=.bu qJ
abbrev tv:cv:=.jM qJ
abbrev apY:cE:=.val T6
abbrev apZ:cE:=.val T7
abbrev ap0:cE:=.val T8
abbrev ap1:cE:=.val T9
abbrev Jm:cE:=.val DA
def c3:=mk agr func13 N' (S L (S L (S L (S L (J [(2,.aV 2 0),(3,.aV 3 0)] [(2,.cells ka [.cr,.cr,ae,.cr]),(3,.cells ka [.ad 8,.ad 59,ae,.ad 12]),(8,ES),(12,ET),(59,ER)] (S L (B (bb [(1,.aV 1 0),(2,.aV 2 0),(3,.aV 3 0),(4,ae)] [(1,jY),(2,.cells ka [.cr,.cr,ae,.cr]),(3,.cells ka [.ad 8,.ad 59,ae,.ad 12]),(8,ES),(12,ET),(59,ER)] (S (S L (C L L)) (J [(1,.aV 1 0),(2,.aV 2 0),(3,.aV 3 0),(4,ae)] [(1,jY),(2,.cells ka [.cr,.cr,ae,.cr]),(3,.cells ka [.ad 8,.ad 59,ae,.ad 12]),(8,ES),(12,ET),(59,ER)] (B (S L (J [(1,.aV 1 0),(2,.aV 2 0),(3,.aV 3 0),(4,ae),(5,.aV 5 0)] [(1,jY),(2,.cells ka [.cr,.cr,ae,.cr]),(3,.cells ka [.ad 8,.ad 59,ae,.ad 12]),(5,.cells Am [.ad 26]),(8,ES),(12,ET),(26,Zt),(59,ER)] (S L (B (bb [(1,.aV 1 0),(2,.aV 2 0),(3,.aV 3 0),(4,ae),(5,.aV 5 0),(6,ae)] [(1,jY),(2,.cells ka [.cr,.cr,ae,.cr]),(3,.cells ka [.ad 8,.ad 59,ae,.ad 12]),(5,.cells Am [.ad 26]),(8,ES),(12,ET),(26,Zt),(59,ER)] (S (S L (C L L)) (S (B L) L))))) L))) L))))) D))))) ajX
def Zz:fY:=⟨⟨[(0,.val jZ)],[]⟩,⟨[(0,.val GV),(1,.val GW),(2,.val a7),(3,.val GY),(4,.ad 11),(5,.ad 16),(6,.ad 20),(7,.ad 24),(8,.val a7)],[(11,.bu a7),(16,.bu An),(20,.bu Dx),(24,.bu mf)]⟩,[some 9],1,Es⟩
theorem ap2:hj Tryz.prog ni 4 Zz:=jP c3 [] trivial func4 (S L (S L (S L (S L (S L (J [(1,.aV 1 0),(2,.aV 2 0),(3,.aV 3 0)] [(1,ib),(2,.cells jZ [.cr,.cr,ae,.cr,.cr,.cr,.cr,.cr,ae]),(3,.cells jZ [hK,hY,ae,iK,.ad 11,.ad 16,.ad 20,.ad 24,ae]),(11,bC),(16,vh),(20,vi),(24,vj)] (S L (B (bb [(1,.aV 1 0),(2,.aV 2 0),(3,.aV 3 0),(4,ae)] [(1,ib),(2,.cells jZ [.cr,.cr,ae,.cr,.cr,.cr,.cr,.cr,ae]),(3,.cells jZ [hK,hY,ae,iK,.ad 11,.ad 16,.ad 20,.ad 24,ae]),(11,bC),(16,vh),(20,vi),(24,vj)] (S (S L (C L L)) (S (B L) L))))) (J [(2,.aV 2 0),(3,.aV 3 0)] [(2,.cells jZ [.cr,.cr,ae,.cr,.cr,.cr,.cr,.cr,ae]),(3,.cells jZ [hK,hY,ae,iK,.ad 11,.ad 16,.ad 20,.ad 24,ae]),(11,bC),(16,vh),(20,vi),(24,vj)] (S L (B (bb [(1,.aV 1 0),(2,.aV 2 0),(3,.aV 3 0),(5,ae)] [(1,ib),(2,.cells jZ [.cr,.cr,ae,.cr,.cr,.cr,.cr,.cr,ae]),(3,.cells jZ [hK,hY,ae,iK,.ad 11,.ad 16,.ad 20,.ad 24,ae]),(11,bC),(16,vh),(20,vi),(24,vj)] (S (S L (C L L)) (S (B L) L))))) D))))))) alF
def ap3:=mk c3 func94 cA (S L D) ahB
def ap4:=mk ap3 func95 o6 (S L D) ahJ
def ap5:=mk ap4 func139 uF (S L (J [] [] (S L (B (bb [(0,bE),(3,ae)] [] (S (S L (C L L)) (S (B (S L (C D L))) L))))) D)) ahK
def ap6:=mk ap5 func96 sW (S L (J [(1,.aV 1 0)] [(1,Zu)] (S L (B (bb [(1,.aV 1 0),(3,ae)] [(1,Zu)] (S (S L (C L L)) (S (B (S L (C D L))) L))))) D)) ahM
def ap7:=mk ap6 func97 pU (S L D) ahF
def ap8:=mk ap7 func140 Av (S L D) ahH
def ap9:=mk ap8 func98 qO (S L D) ahI
def ap_:=mk ap9 func68 sX (S L (S (S L (C D L)) (J [(1,.aV 1 0)] [(1,jY)] (S L (B (bb [(1,.aV 1 0),(3,ae)] [(1,jY)] (S (S L (C L L)) (S (B (S L (S L (C D L)))) L))))) (J [(1,.aV 1 0)] [(1,jY)] (S L (B (bb [(1,.aV 1 0),(5,ae)] [(1,jY)] (S (S L (C L L)) (J [(1,.aV 1 0),(5,ae)] [(1,jY)] (B (S (S L (C D L)) (S L (B (bb [(1,.aV 1 0),(5,ae),(6,ae)] [(1,jY)] (S (S L (C L L)) (S (B (S L (C D L))) L))))))) L))))) (J [] [] (S L (B (bb [(1,.aV 1 0),(7,ae)] [(1,jY)] (S (S L (C L L)) (S (B (S L (S L (C D L)))) L))))) D))))) ahO
def ap':=mk ap_ func36 mT (S L (S (S L (C D L)) (J [] [] (S L (B (bb [(1,.aV 1 0),(3,ae)] [(1,jY)] (S (S L (C L L)) (J [(1,.aV 1 0),(3,ae)] [(1,jY)] (B (S L (B (bb [(1,.aV 1 0),(3,ae),(4,ae)] [(1,jY)] (S (S L (C L L)) (S (B (S L (S L (C D L)))) L)))))) L))))) D))) ahQ
def aqa:=mk ap' func37 cA (S L D) aj4
def aqb:=mk aqa func69 HU (S L (J [] [] (S L (B (bb [(0,bE),(1,ae),(5,ae)] [] (S (S L (C L L)) (S (B (S L (C D L))) L))))) D)) aj8
def aqc:=mk aqb func38 HW (S L (S (S L (C D L)) D)) akg
def aqd:=mk aqc func39 HX (S L D) akh
def dG:=mk aqd func15 uS (S L (S (S L (S L (C D L))) (S (S L (C D L)) (J [(1,.aV 1 0)] [(1,ib)] (S L (B (bb [(1,.aV 1 0),(4,ae)] [(1,ib)] (S (S L (C L L)) (S (B (S L (C D L))) L))))) (J [(1,.aV 1 0)] [(1,ib)] (S L (B (bb [(1,.aV 1 0),(5,ae)] [(1,ib)] (S (S L (C L L)) (S (B (S L (C D L))) L))))) (J [(1,.aV 1 0)] [(1,ib)] (S L (B (bb [(1,.aV 1 0),(6,ae)] [(1,ib)] (S (S L (C L L)) (S (B (S L (C D L))) L))))) (J [] [] (S L (B (bb [(1,.aV 1 0),(7,ae)] [(1,ib)] (S (S L (C L L)) (S (B (S L (S L (C D L)))) L))))) D))))))) aki
def aqe:=mk dG func35 Oa (S L (S (S L (C D L)) (J [(1,.aV 1 0)] [(1,jY)] (S L (B (bb [(1,.aV 1 0),(3,ae)] [(1,jY)] (S (S L (C L L)) (J [(1,.aV 1 0),(3,ae)] [(1,jY)] (B (S (S L (C D L)) (S L (B (bb [(1,.aV 1 0),(3,ae),(4,ae)] [(1,jY)] (S (S L (C L L)) (S (B (S L (C D L))) L))))))) L))))) (S (S L (C D L)) (J [(1,.aV 1 0)] [(1,jY)] (S L (B (bb [(1,.aV 1 0),(5,ae)] [(1,jY)] (S (S L (C L L)) (S (B (S L (C D L))) L))))) D))))) aj0
def dv:=mk aqe func14 O6 (S L (S (S L (C D L)) (J [(1,.aV 1 0)] [(1,ib)] (S L (B (bb [(1,.aV 1 0),(3,ae)] [(1,ib)] (S (S L (C L L)) (S (B (S L (C D L))) L))))) (J [(1,.aV 1 0)] [(1,ib)] (S L (B (bb [(1,.aV 1 0),(4,ae)] [(1,ib)] (S (S L (C L L)) (S (B (S L (C D L))) L))))) (S (S L (C D L)) (S L (J [(1,.aV 1 0),(5,ae)] [(1,ib)] (S L (B (bb [(1,.aV 1 0),(5,ae),(6,ae)] [(1,ib)] (S (S L (C L L)) (S (B L) L))))) D))))))) alH
def cW:=mk dv func7 mj (S L (J [] [] (S L (B (bb [(0,bE),(1,ae),(5,ae)] [] (S (S L (C L L)) (S (B (S L (C D L))) L))))) D)) ahE
def aqf:=mk cW func141 qT (S L (S L D)) ahV
def aqg:=mk aqf func99 DJ (S L (J [(1,ae),(2,ae),(3,.aV 3 0)] [(3,jY)] (S L (B (bb [(1,ae),(2,ae),(3,.aV 3 0),(7,ae)] [(3,jY)] (S (S L (C L L)) (S (B (S L (S L (C D L)))) L))))) D)) ahX
def aqh:=mk aqg func70 DK (S L (S L (J [(5,.ad 5)] [(5,bC)] (S L (B (bb [(1,ae),(2,.aV 2 0),(5,.ad 5),(6,ae)] [(2,jY),(5,bC)] (S (S L (C L L)) (J [(1,ae),(2,.aV 2 0),(5,.ad 5),(6,ae)] [(2,jY),(5,bC)] (B (S L (C L L))) L))))) D))) ahZ
def aqi:=mk aqh func40 Hm (S L (S (S L (S L (C D L))) (S (S L (C D L)) (J [] [] (S L (B (bb [(2,.aV 2 0),(6,ae)] [(2,jY)] (S (S L (C L L)) (S (B (S L (C D L))) L))))) D)))) ah1
def dL:=mk aqi func16 Hn (S L D) ah2
def b5:=mk dL func5 Jh (S L D) apz
def cR:=mk b5 func6 Ji (S L (J [(1,bE),(2,.aV 2 0)] [(2,ib)] (S L (B (bb [(1,bE),(2,.aV 2 0),(5,ae)] [(2,ib)] (S (S L (C L L)) (S (B (S L (C D L))) L))))) D)) apB
def aqj:=mk cR func134 (ls nj) (S L (J [] [] (S L (B (bb [(0,iK),(1,apU),(7,ae),(8,ae)] [] (S L (S (C L L) (S (B (S L (S L (C D L)))) L)))))) D)) (rV nj)
def aqk:=mk aqj func87 (jz nj) (S L D) (rW nj)
def aql:=mh aqk [] func88 (uH nj) 1 (S L D) (Az nj)
def aqm:=o4 aql [(88,1)] func54 (gZ nj) (S L D) (AA nj)
def aqn:=mk aqm func55 cA (S L D) ah4
def aqo:=mk aqn func125 x' (S L D) ah6
def aqp:=mk aqo func126 o6 (S L D) ah5
def aqq:=mk aqp func124 Hr (S L D) aib
def aqr:=mk aqq func135 (ls bp) (S L (J [] [] (S L (B (bb [(0,bE),(1,Zw),(7,ae),(8,ae)] [] (S L (S (C L L) (S (B (S L (S L (C D L)))) L)))))) D)) (rV bp)
def aqs:=mk aqr func89 (jz bp) (S L D) (rW bp)
def aqt:=mh aqs [] func90 (uH bp) 1 (S L D) (Az bp)
def aqu:=o4 aqt [(90,1)] func57 (gZ bp) (S L D) (AA bp)
def aqv:=mk aqu func128 uF (S L (J [] [] (S L (B (bb [(0,bE),(3,ae)] [] (S (S L (C L L)) (S (B (S L (C D L))) L))))) D)) ah9
def aqw:=o4 aqv [] func127 sW (S L D) aic
def aqx:=mk aqw func169 (ls qN) (S L (J [] [] (S L (B (bb [(0,apQ),(1,apW),(7,ae),(8,ae)] [] (S L (S (C L L) (S (B (S L (S L (C D L)))) L)))))) D)) (rV qN)
def aqy:=mk aqx func150 (jz qN) (S L D) (rW qN)
def aqz:=mh aqy [] func151 (uH qN) 1 (S L D) (Az qN)
def aqA:=o4 aqz [(151,1)] func130 (gZ qN) (S L D) (AA qN)
def aqB:=mh aqA [] func129 AB 1 (S L D) aid
def ei:=mk aqB func25 pU (S L D) ah7
def ej:=mk ei func26 qO (S L D) ah8
def aqC:=mh ej [] func131 AD 1 (S L D) aie
def aqD:=mk aqC func170 (ls ox) (S L (J [] [] (S L (B (bb [(0,hK),(1,ap0),(7,ae),(8,ae)] [] (S L (S (C L L) (S (B (S L (S L (C D L)))) L)))))) D)) (rV ox)
def aqE:=mk aqD func152 (jz ox) (S L D) (rW ox)
def aqF:=mh aqE [] func153 (uH ox) 1 (S L D) (Az ox)
def aqG:=o4 aqF [(153,1)] func132 (gZ ox) (S L D) (AA ox)
def aqH:=mk aqG func171 (ls o5) (S L (J [] [] (S L (B (bb [(0,hY),(1,ap1),(7,ae),(8,ae)] [] (S L (S (C L L) (S (B (S L (S L (C D L)))) L)))))) D)) (rV o5)
def aqI:=mk aqH func154 (jz o5) (S L D) (rW o5)
def aqJ:=mh aqI [] func155 (uH o5) 1 (S L D) (Az o5)
def aqK:=o4 aqJ [(155,1)] func133 (gZ o5) (S L D) (AA o5)
def aqL:=o4 aqK [(129,1),(131,1)] func86 sX (S L (S L (S L (S L (S L D))))) aif
def aqM:=mk aqL func51 mT (S L (S (S L (C D L)) (S L (J [] [] (S L (B (bb [(3,.dQ 12),(14,iK),(15,ae),(16,ae)] [(12,.mp mf a7)] (S L (S (C L L) (S (B (S L (S L (S (S L (S L (C D L))) L)))) L)))))) D)))) aij
def aqN:=mk aqM func123 Hq (S L (J [] [] (S L (B (bb [(0,bE),(1,ae),(7,ae),(8,ae)] [] (S L (S (C L L) (S (B (S L (S L (C D L)))) L)))))) D)) ah'
def aqO:=mk aqN func85 mj (S L D) aia
def aqP:=mk aqO func53 qT (S L (S L D)) ail
def aqQ:=mh aqP [] func52 ya 1 (S L D) aim (hc:=λx h=>by obtain ⟨i,w,n,ax,_⟩:=h;exact xZ ⟨⟨⟨trivial,uz (congrArg (λo=>o.1) ax)⟩,uz (congrArg (λo=>o.2.1) ax)⟩,uz (congrArg (λo=>o.2.2) ax)⟩)
def dz:=o4 aqQ [(52,1)] func24 rX (S L (S (S L (S L (C D L))) (S (S L (C D L)) (S L (J [(7,.aV 22 0)] [(22,.cells v8 [hK,hY,ae,iK,.ad 61]),(61,re)] (S L (B (bb [(2,.aV 2 0),(7,.aV 22 0),(24,hK),(25,ae),(26,ae)] [(2,.hf ka),(22,.cells v8 [hK,hY,ae,iK,.ad 61]),(61,re)] (S L (S (C L L) (J [(2,.aV 2 0),(7,.aV 22 0),(24,hK),(25,ae),(26,ae)] [(2,.hf ka),(22,.cells v8 [hK,hY,ae,iK,.ad 61]),(61,re)] (B (S L (S L (J [(2,.aV 2 0),(7,.aV 22 0),(10,.ad 10),(24,hK),(25,ae),(26,ae)] [(2,.hf ka),(10,bC),(22,.cells v8 [hK,hY,ae,iK,.ad 61]),(61,re)] (S L (B (bb [(2,.aV 2 0),(7,.aV 22 0),(8,.aV 8 0),(9,.aV 9 0),(10,.ad 10),(11,.aV 11 0),(24,hK),(25,ae),(26,ae)] [(2,.hf ka),(8,.hf a7),(9,Zv),(10,bC),(11,.cells a7 [ae]),(22,.cells v8 [hK,hY,ae,iK,.ad 61]),(61,re)] (S (S L (C L L)) (J [(2,.aV 2 0),(7,.aV 22 0),(8,.aV 8 0),(9,.aV 9 0),(10,.ad 10),(11,.aV 11 0),(24,hK),(25,ae),(26,ae)] [(2,.hf ka),(8,.hf a7),(9,Zv),(10,bC),(11,.hf a7),(22,.cells v8 [hK,hY,ae,iK,.ad 61]),(61,re)] (B (S L (S L (C L L)))) (S D L)))))) (S (S L (C D L)) L))))) L)))))) D))))) aip
def aqR:=mk dz func73 qW (S L (J [(0,jG)] [] L (J [(0,jG)] [] L (J [(0,jG)] [] L (J [(0,jG)] [] L (J [(0,jG)] [] L (J [(0,jG)] [] L D))))))) ai7
def aqS:=mk aqR func42 qW (S L (S (C D L) D)) (ai8 (λ_=>A.fail))
def aqT:=mk aqS func56 DM (S L (S (S L (B (S L (C D (S L (C D L)))))) D)) aiq
def aqU:=agt aqT o2 [] trivial func142 (.aG Dy (.aG ey a7)) MH NT (S L (S L (J [(7,vl)] [] (S L (B (bb [(0,kF),(2,ae),(7,vl),(18,bE),(19,ae),(20,ae)] [] (S L (S (C L L) (J [(0,kF),(2,ae),(7,.dQ 24),(18,bE),(19,ae),(20,ae)] [(24,.mp a7 a7)] (B (S L (S L (J [(0,kF),(2,ae),(10,.dQ 24),(18,bE),(19,ae),(20,ae)] [(24,.mp a7 a7)] (S L (B (bb [(0,kF),(2,ae),(7,vl),(9,ae),(10,.dQ 24),(18,bE),(19,ae),(20,ae),(31,bE),(32,ae),(33,ae)] [(24,.mp a7 a7)] (S L (S (C L L) (J [(0,kF),(2,ae),(7,vl),(9,ae),(10,.dQ 24),(18,bE),(19,ae),(20,ae),(31,bE),(32,ae),(33,ae)] [(24,.mp a7 a7)] (B (S L (S L (J [(0,kF),(2,ae),(7,vl),(9,ae),(10,.dQ 24),(13,ae),(18,bE),(19,ae),(20,ae),(31,bE),(32,ae),(33,ae)] [(24,.mp a7 a7)] (S L (B (bb [(0,kF),(2,ae),(7,vl),(9,ae),(10,.dQ 24),(12,ae),(13,ae),(18,bE),(19,ae),(20,ae),(31,bE),(32,ae),(33,ae),(46,ae),(47,ae)] [(24,.mp a7 a7)] (S L (S (C L L) (J [(0,kF),(2,ae),(7,vl),(9,ae),(10,.dQ 24),(12,ae),(13,ae),(18,bE),(19,ae),(20,ae),(31,bE),(32,ae),(33,ae),(46,ae),(47,ae)] [(24,.mp a7 a7)] (B (S L (S L (C L L)))) L)))))) (S L (B (bb [(0,kF),(2,ae),(7,vl),(9,ae),(10,.dQ 24),(13,ae),(18,bE),(19,ae),(20,ae),(31,bE),(32,ae),(33,ae),(65,.kI 65)] [(24,.mp a7 a7),(65,.cj a7 a7)] (S L (S (C L L) (B D)))))))))) L)))))) L)))) L)))))) D))) aiV
def aqV:=mk aqU func100 DW (S L (S L (S L (J [(7,vl),(8,ae)] [] (S L (C L L)) D)))) aiY
def ZA:=mk aqV func101 DX (S L (S L (J [(3,.ad 3)] [(3,bC)] (S L (B (bb [(0,jG),(3,.ad 3),(5,ae)] [(3,bC)] (S L (S (C L L) (J [(0,jG),(3,.ad 3),(5,ae)] [(3,bC)] (B (S L (S L (C L L)))) L)))))) D))) ai4
def ZB:fY:=⟨⟨[(0,.val Dy),(1,.gA),(1000000,.a5 nh)],[]⟩,⟨[(1000000,.a5 nh)],[]⟩,[],2,(Hc qW.sh DX.sh DW.sh)⟩
theorem aqW:hj Tryz.prog ni 71 ZB:=jP (S:=(Hc qW.sh DX.sh DW.sh)) ZA [] trivial func71 (S L (B (bb [(0,kF),(1,.gA),(13,ae),(14,ae),(1000000,.a5 nh)] [] (S L (S (C L L) (J [(0,kF),(1,.gA),(13,ae),(14,ae),(1000000,.a5 nh)] [] (B (S L (.scope (S L (S L (B (bb [(0,kF),(1,.gA),(4,ae),(13,ae),(14,ae),(23,jG),(24,jG),(1000000,.a5 nh)] [] (S L (S (C L L) (J [(0,kF),(1,.gA),(4,ae),(13,ae),(14,ae),(23,jG),(24,jG),(1000000,.a5 nh)] [] (B (S L (S (S L (C L L)) (J [(0,kF),(1,.gA),(4,ae),(5,jG),(13,ae),(14,ae),(23,jG),(24,jG),(1000000,.a5 nh)] [] (S L (B (bb [(0,kF),(1,.gA),(4,ae),(5,jG),(13,ae),(14,ae),(23,jG),(24,jG),(36,ae),(37,ae),(1000000,.a5 nh)] [] (S L (S (C L L) (S (B (S L (S L (C L L)))) L)))))) (S L (C L L)))))) L)))))))))) L)))))) (λx=>A.le_refl _)
def Jn:xt:=⟨Dy,nh,HG,HH⟩
theorem aqX:z7 Tryz.prog 71 Jn:=Mu (c:=ZB) aqW o2 (ic:=Jn) (λx l L=>(x,l,(l,L,[],false),())) rfl (by decide) (by simp [Jn])
 (λx l L i=>by
  by_cases aW:i=0
  ·subst aW;exact .inr (.inl ⟨by decide,rfl⟩)
  ·by_cases M:i=1
   ·subst M;exact .inr (.inr (.inl ⟨rfl,rfl⟩))
   ·by_cases aa:i=b_
    ·subst aa;exact .inr (.inr (.inr ⟨rfl,rfl⟩))
    ·refine .inl ?_;exact (if_neg aW).trans ((if_neg M).trans (if_neg aa)))
 rfl (λbA=>⟨_,_,_,_,rfl⟩) (λx l ar=>by
  obtain ⟨w,aA,hw⟩:=ar;subst aA;have h:=ajd w l hw;refine ⟨h.1,λbA jO cP fx n dr=>?_⟩;have e:aP.a5 bA.1.1 nh bA.1.2.1 bA.1.2.2.1 bA.1.2.2.2=.a5 cP nh fx n false:=dr;injection e with aK bq cF hd j0
  exact hd.symm.trans ((h.2 bA jO).2.2 j0))
def aqY:=uB ZA o2 [(71,.cj Jn)] ⟨aqX,trivial⟩ func41 HF (S L (S L (S (S L (C D L)) (S L (J [(6,.aV 6 0)] [(6,.cells Dz [.ad 50000]),(50000,Jl)] (S L (B (cz [(6,.aV 6 0)] [(6,.cells Dz [.ad 50000]),(50000,Jl)] [(6,.aV 100006 0),(18,jG)] [(100006,.cells Dz [.ad 150000]),(150000,Jl)] [] [(100006,.cells Dz [.ad 150000]),(150000,Jl)] L (B (S (S L (C L L)) L))))) (S (S L (C D L)) D)))))) ajn
def df:=mk aqY func17 HI (S L (S L (S (S L (C D L)) D))) ajv
def dg:=mk df func18 s6 (S L D) aj1
def iX:=mk dg func27 AE (S L (S L (J [(0,kF),(1,ae),(9,ae)] [] (S L (B (bb [(0,kF),(1,ae),(2,ae),(3,ae),(9,ae),(18,bE),(19,ae),(20,ae)] [] (S L (S (C L L) (J [(0,kF),(1,ae),(2,ae),(3,ae),(9,ae),(18,bE),(19,ae),(20,ae)] [] (B (S L (S L (C L L)))) L)))))) D))) ais
def c1:=mk iX func10 Aw (S L (S L (S (S L (C D L)) D))) aiw
def aqZ:=mk c1 func84 cA (S L D) aj3
def aq0:=mk aqZ func113 r1 (S L D) aj5
def aq1:=mk aq0 func114 HT (S L (J [] [] (S L (B (bb [(0,bE),(1,Zw),(7,bE),(8,ae),(9,ae)] [] (S L (S (C L L) (S (B (S L (S L (C D L)))) L)))))) D)) aj7
def aq2:=mh aq1 [] func115 D6 1 (S L D) aj' (hc:=λx h=>by obtain ⟨w,p,ax,_⟩:=h;exact xZ ⟨⟨trivial,uz (congrArg (λo=>o.1) ax)⟩,uz (congrArg (λo=>o.2) ax)⟩)
def aq3:=mh aq2 [(115,1)] func112 D7 1 (S L D) aka (hc:=λx h=>by obtain ⟨_,w,ax,_⟩:=h;exact xZ ⟨trivial,uz ax⟩)
def aq4:=mk aq3 func117 r1 (S L D) aj6
def aq5:=o4 aq4 [] func116 D8 (S L D) akb
def aq6:=mh aq5 [] func118 D9 1 (S L D) akc (hc:=λx h=>by obtain ⟨w,ax,_⟩:=h;exact xZ ⟨trivial,uz ax⟩)
def aq7:=mk aq6 func119 D_ (S L D) akd
def aq8:=mk aq7 func147 (ls s7) (S L (J [] [] (S L (B (bb [(0,oJ),(1,apY),(7,ae),(8,ae)] [] (S L (S (C L L) (S (B (S L (S L (C D L)))) L)))))) D)) (rV s7)
def aq9:=mk aq8 func120 (jz s7) (S L D) (rW s7)
def aq_:=mk aq9 func148 (ls uR) (S L (J [] [] (S L (B (bb [(0,qe),(1,apR),(7,ae),(8,ae)] [] (S L (S (C L L) (S (B (S L (S L (C D L)))) L)))))) D)) (rV uR)
def aq':=mk aq_ func121 (jz uR) (S L D) (rW uR)
def ara:=mk aq' func149 (ls yn) (S L (J [] [] (S L (B (bb [(0,k4),(1,apZ),(7,ae),(8,ae)] [] (S L (S (C L L) (S (B (S L (S L (C D L)))) L)))))) D)) (rV yn)
def arb:=mk ara func122 (jz yn) (S L D) (rW yn)
def arc:=o4 arb [(112,1),(118,1)] func83 Oc (S L (S L (S L (S L (S L (S L D)))))) ake
def ard:=mk arc func47 uS (S L (S (S L (S L (C D L))) (S (S L (C D L)) D))) akf
def are:=mk ard func63 Hp (S L (S L (S (S L (C D L)) (S L D)))) aiu
def arf:=mk are func138 r2 (S L (S L (S L (S L (S L (S L (S L (S L (S L (S L (S L D))))))))))) akk
def arh:=mk arf func93 r2 (S L (S (C (S L D) L) (S L D))) (akm (λ_=>A.fail))
def ari:=mk arh func64 H0 (S L (J [(0,cg),(1,ae)] [] (S L (C L L)) (S L (J [(0,cg),(6,jG)] [] (S L (C L L)) (S L (S L (J [(7,.ad 30)] [(30,tu)] (B (bb [(7,.ad 30),(8,ae)] [(30,tu)] (S (S L (C L L)) (B L)))) D))))))) aku
def Bd:=mk ari func30 H8 (S L (S (S L (S L (C D L))) (S (S L (C D L)) (S L (J [(2,.aV 2 0),(7,.aV 30 0)] [(2,ib),(28,.mp mf a7),(30,.cells o0 [hK,hY,ae,iK,bE,oJ,qe,k4,ae,.cr,.dQ 28])] (S L (C (S L (S L (C D L))) L)) (J [(2,.aV 2 0),(7,.aV 30 0)] [(2,ib),(28,.mp mf a7),(30,.cells o0 [hK,hY,ae,iK,bE,oJ,qe,k4,ae,.cr,.dQ 28])] (S L (B (bb [(2,.aV 2 0),(7,.aV 30 0),(46,ae),(47,ae)] [(2,ib),(28,.mp mf a7),(30,.cells o0 [hK,hY,ae,iK,bE,oJ,qe,k4,ae,.cr,.dQ 28])] (S L (S (C L L) (J [(2,.aV 2 0),(7,.aV 30 0),(46,ae),(47,ae)] [(2,ib),(28,.mp mf a7),(30,.cells o0 [hK,hY,ae,iK,bE,oJ,qe,k4,ae,.cr,.dQ 28])] (B (S L (S L (B (bb [(2,.aV 2 0),(7,.aV 30 0),(10,ae),(46,ae),(47,ae),(52,hY),(53,ae),(54,ae)] [(2,ib),(28,.mp mf a7),(30,.cells o0 [hK,hY,ae,iK,bE,oJ,qe,k4,ae,.cr,.dQ 28])] (S L (S (C L L) (J [(2,.aV 2 0),(7,.aV 30 0),(10,ae),(46,ae),(47,ae),(52,hY),(53,ae),(54,ae)] [(2,ib),(28,.mp mf a7),(30,.cells o0 [hK,hY,ae,iK,bE,oJ,qe,k4,ae,.cr,.dQ 28])] (B (S L (S L (B (bb [(2,.aV 2 0),(7,.aV 30 0),(10,ae),(11,ae),(46,ae),(47,ae),(52,hY),(53,ae),(54,ae),(61,ae),(62,ae)] [(2,ib),(28,.mp mf a7),(30,.cells o0 [hK,hY,ae,iK,bE,oJ,qe,k4,ae,.cr,.dQ 28])] (S L (S (C L L) (J [(2,.aV 2 0),(7,.aV 30 0),(10,ae),(11,ae),(46,ae),(47,ae),(52,hY),(53,ae),(54,ae),(61,ae),(62,ae)] [(2,ib),(28,.mp mf a7),(30,.cells o0 [hK,hY,ae,iK,bE,oJ,qe,k4,ae,.cr,.dQ 28])] (B (S L (S L (S L (C L L))))) L)))))))) L)))))))) L)))))) (J [(2,.aV 2 0),(7,.aV 30 0)] [(2,ib),(28,.mp mf a7),(30,.cells o0 [hK,hY,ae,iK,bE,oJ,qe,k4,ae,.ad 109,.dQ 28]),(109,tu)] (S L (B (bb [(2,.aV 2 0),(7,.aV 30 0),(92,bE),(93,ae),(94,ae)] [(2,ib),(28,.mp mf a7),(30,.cells o0 [hK,hY,ae,iK,bE,oJ,qe,k4,ae,.ad 109,.dQ 28]),(109,tu)] (S L (S (C L L) (S (B D) L)))))) (J [(7,.aV 30 0)] [(28,.mp mf a7),(30,.cells o0 [hK,hY,ae,iK,bE,oJ,qe,k4,ae,.ad 109,.dQ 28]),(109,tu)] (S L (B (bb [(7,.aV 30 0),(114,k4),(115,ae),(116,ae)] [(28,.mp mf a7),(30,.cells o0 [hK,hY,ae,iK,bE,oJ,qe,k4,ae,.ad 109,.dQ 28]),(109,tu)] (S L (S (C L L) (S (B D) L)))))) D)))))))) akD
def arj:=mk Bd func74 uX (S L (J [(4,ae)] [] (S L (B (bb [(0,kG),(4,ae),(7,bE),(8,ae),(9,ae)] [] (S L (S (C L L) (J [(0,kG),(4,ae),(7,bE),(8,ae),(9,ae)] [] (B (S L (S L (C L L)))) L)))))) D)) akN
def ark:=mk arj func61 HY (S L (J [(0,bE),(1,ae)] [] (S L (C L L)) (S L (J [(0,bE),(6,jG)] [] (S L (C L L)) (S L (S L (J [(7,.ad 30)] [(30,bC)] (B (bb [(7,.ad 30),(8,ae)] [(30,bC)] (S (S L (C L L)) (B L)))) D))))))) akt
def P':=mk ark func50 uV (S L (S (B (S L (C D (S L (C D (S L (C D L))))))) D)) akx
def Jo (f:Nat):fY:=⟨⟨[(0,.val o1),(1,.val ey),(2,.val a7),(3,.gA),(1000000,.a5 ey)],[]⟩,⟨[(0,.val h_),(1000000,.a5 ey)],[]⟩,[none],4,r7 f⟩
theorem Qa:∀f,hj Tryz.prog ni 65 (Jo f)
 |0=>G' func65 alq
 |f+1=>jP P' [(65,.jr (Jo f))] ⟨Qa f,trivial⟩ func65 (S L (S L (S (S L (C D L)) (J [(0,kG),(1,bE),(2,ae),(3,.gA),(9,ae),(1000000,.a5 ey)] [] (S L (B (bb [(0,kG),(1,bE),(2,ae),(3,.gA),(9,ae),(29,oJ),(30,ae),(31,ae),(1000000,.a5 ey)] [] (S L (S (C L L) (J [(0,kG),(1,bE),(2,ae),(3,.gA),(9,ae),(29,oJ),(30,ae),(31,ae),(1000000,.a5 ey)] [] (B (S L (S (S L (C L L)) (S L (C D L))))) L)))))) D)))) (alp f)
def ZC:fY:=⟨⟨[(0,.val o1),(1,.gA),(1000000,.a5 ey)],[]⟩,⟨[(1000000,.a5 ey)],[]⟩,[],2,(Hg (r7 10))⟩
theorem arl:hj Tryz.prog ni 102 ZC:=jP (S:=(Hg (r7 10))) P' [(65,.jr (Jo 10))] ⟨Qa 10,trivial⟩ func102 L (λx=>A.le_refl _)
def Jp:xt:=⟨o1,ey,yD,Is⟩
theorem arn:z7 Tryz.prog 102 Jp:=Mu (c:=ZC) arl o2 (ic:=Jp) (λx l L=>(x,l,(l,L,[],false),())) rfl (by decide) (by simp [Jp])
 (λx l L i=>by
  by_cases aW:i=0
  ·subst aW;exact .inr (.inl ⟨by decide,rfl⟩)
  ·by_cases M:i=1
   ·subst M;exact .inr (.inr (.inl ⟨rfl,rfl⟩))
   ·by_cases aa:i=b_
    ·subst aa;exact .inr (.inr (.inr ⟨rfl,rfl⟩))
    ·refine .inl ?_;exact (if_neg aW).trans ((if_neg M).trans (if_neg aa)))
 rfl (λbA=>⟨_,_,_,_,rfl⟩) (λx l ar=>by
  obtain ⟨s,aA,aj⟩:=ar;subst aA;have h:=alr s aj l;refine ⟨h.1,λbA jO cP fx n dr=>?_⟩;have e:aP.a5 bA.1.1 ey bA.1.2.1 bA.1.2.2.1 bA.1.2.2.2=.a5 cP ey fx n false:=dr;injection e with aK bq cF hd j0
  exact hd.symm.trans ((h.2 bA jO).2.2 j0))
def ZD:=mk P' func32 Ic (S L (S L (J [(6,.ad 6)] [(6,vj)] (S L (B (bb [(0,kG),(6,.ad 6),(14,bE),(15,ae),(16,ae)] [(6,vj)] (S L (S (C L L) (J [(0,kG),(6,.ad 6),(14,bE),(15,ae),(16,ae)] [(6,vj)] (B (S L (S (S L (C L L)) (S L (S L (J [(0,kG),(6,.ad 6),(10,.aV 10 0),(11,ae),(14,bE),(15,ae),(16,ae)] [(6,vj),(10,P8)] (S L (B (S L (C D (S L (C L L)))))) (S (S L (C D L)) (S L (B (bb [(0,kG),(6,.ad 6),(10,.aV 10 0),(11,ae),(14,bE),(15,ae),(16,ae),(58,bE),(59,ae),(60,ae)] [(6,vj),(10,P8)] (S L (S (C L L) (S (B D) L))))))))))))) L)))))) D))) akL
def ZE:fY:=⟨⟨[(0,.val ey),(1,.val a7)],[]⟩,⟨[(0,.ad 30)],[(30,.bu a7)]⟩,[none],2,Eb⟩
theorem aro:hj Tryz.prog ni 61 ZE:=jP ZD [] trivial func61 (S L (J [(0,bE),(1,ae)] [] (S L (C L L)) (S L (J [(0,bE),(6,jG)] [] (S L (C L L)) (S L (S L (J [(7,.ad 30)] [(30,bC)] (B (bb [(7,.ad 30),(8,ae)] [(30,bC)] (S (S L (C L L)) (B L)))) D))))))) V6
def ZF:=mk ZD func66 A4 (S L D) ak6
def Qb (f:Nat):fY:=⟨⟨[(0,.val o1),(1,.ad 200001),(2,.val GZ),(3,.val a7),(4,.dQ 100002)],[(100002,.mp a7 a7),(200001,.bu a7)]⟩,⟨[(0,.val h_)],[(100002,.mp a7 a7),(200001,.bu a7)]⟩,[none],5,uZ f⟩
theorem ZG:∀f,hj Tryz.prog ni 67 (Qb f)
 |0=>G' func67 ald
 |f+1=>jP ZF [(67,.jr (Qb f))] ⟨ZG f,trivial⟩ func67 (S L (J [] [(100002,.mp a7 a7),(200001,bC)] (S L (B (bb [(0,kG),(1,.ad 200001),(2,k4),(3,ae),(4,.dQ 100002),(16,cg),(17,ae),(18,ae)] [(100002,.mp a7 a7),(200001,bC)] (S L (S (C L L) (J [(0,kG),(1,.ad 200001),(2,k4),(3,ae),(4,.dQ 100002),(16,cg),(17,ae),(18,ae)] [(100002,.mp a7 a7),(200001,bC)] (B (S L (S (S L (C L L)) (S L (S L (C (S L D) L)))))) L)))))) D)) (alc f)
def arp:=uB ZF o2 [(61,.jr ZE),(67,.jr (Qb 201))] ⟨aro,ZG 201,trivial⟩ func34 Iq (S L (S L (S L (J [(6,ae)] [] (S L (B (bb [(0,kG),(1,k4),(5,.ad 50140),(6,ae),(16,ae),(17,ae)] [(50140,bC)] (S L (S (C L L) (J [(0,kG),(1,k4),(5,.ad 50140),(6,ae),(16,ae),(17,ae)] [(50140,bC)] (B (S L (S L (C L L)))) L)))))) D)))) alf
def arq:=mk arp func103 A5 (S L (S L D)) alg
def ars:=uB arq o2 [(102,.cj Jp)] ⟨arn,trivial⟩ func75 O1 (S L (S L (S (S L (B (cz [(1,.aV 1 0),(3,.aV 3 0)] [(1,.cells o1 [kG]),(3,.cells ey [bE])] [(1,.aV 100001 0),(3,.aV 100003 0),(15,bE)] [(100001,.cells o1 [kG]),(100003,.cells ey [bE])] [] [(100001,.cells o1 [kG]),(100003,.cells ey [bE])] L (B (S L (C L L)))))) D))) aly
def art:=mk ars func43 O2 (S L (S L (S (S L (C D L)) D))) alz
def dh:=mk art func19 It (S L D) alA
def di:=mk dh func20 Ix (S L D) alJ
def ZH:fY:=⟨⟨[(0,.cr),(1,.val MM)],[]⟩,⟨[(0,.ad 50000)],[(50000,.bu a7)]⟩,[none],2,H.Bk⟩
theorem aru:hj Tryz.prog ni 172 ZH:=jP di [] trivial func172 (S L (S (S L (B (cz [(2,.aV 2 0)] [(2,.cells ey [.ad 50000]),(50000,bC)] [(2,.aV 100002 0),(7,ae)] [(100002,.cells ey [.ad 150000]),(150000,bC)] [] [(100002,.cells ey [.ad 150000]),(150000,bC)] L (B L)))) D)) H.anE
def ZI:fY:=⟨⟨[(0,.val MM)],[]⟩,⟨[(0,.ad 50040)],[(50040,.bu a7)]⟩,[none],1,H.Bk⟩
theorem arv:hj Tryz.prog ni 162 ZI:=jP di [(172,.jr ZH)] ⟨aru,trivial⟩ func162 (S L D) H.anF
def arw:=mk di func176 H.Bi (S L D) H.anm
def Qc:=mk arw func183 H.IT (S L D) H.anq
def ZJ:fY:=⟨⟨[(0,.ad 200001),(1,.val a7),(2,.val a7)],[(200001,.bu a7)]⟩,⟨[],[(200001,.bu a7)]⟩,[],3,H.IV⟩
theorem arx:hj Tryz.prog ni 177 ZJ:=jP Qc [] trivial func177 (S L (B (bb [(0,.ad 200001),(1,ae),(2,ae),(6,ae)] [(200001,bC)] (S (S L (C L L)) (J [(0,.ad 200001),(1,ae),(2,ae),(6,ae)] [(200001,bC)] (B (S L (B (bb [(0,.ad 200001),(1,ae),(2,ae),(6,ae),(7,ae)] [(200001,bC)] (S (S L (C L L)) (S (B L) L)))))) L))))) H.anw
def ZK:fY:=⟨⟨[(0,.ad 200001),(1,.val a7),(2,.val a7),(3,.val a7)],[(200001,.bu a7)]⟩,⟨[],[(200001,.bu a7)]⟩,[],4,H.IX⟩
theorem ary:hj Tryz.prog ni 173 ZK:=jP Qc [(177,.jr ZJ)] ⟨arx,trivial⟩ func173 (S L (S L (B (bb [(0,.ad 200001),(1,ae),(2,ae),(3,ae),(8,pk),(9,pk)] [(200001,bC)] (B (S L (S (S L (C D L)) L))))))) H.anA
def arz:=mk Qc func187 H.PE (S L (J [(0,jG),(2,ae)] [] (S L (C D L)) (J [(0,jG),(2,ae)] [] (S L (C D L)) (J [(0,jG),(2,ae)] [] (S L (C D L)) D)))) H.anr
def ZL:=mk arz func174 H.IU (S L (S (C D L) D)) (H.ans (λ_=>A.fail))
def ZM:fY:=⟨⟨[(0,.ad 200001)],[(200001,.bu a7)]⟩,⟨[],[(200001,.bu a7)]⟩,[],1,H.IZ⟩
theorem arA:hj Tryz.prog ni 163 ZM:=jP ZL [(173,.jr ZK)] ⟨ary,trivial⟩ func163 D H.anC
def Qd:=uB ZL o2 [(162,.jr ZI),(163,.jr ZM)] ⟨arv,arA,trivial⟩ func144 H.wR (S L (S L (S L D))) H.anG
def ZN:fY:=⟨⟨[(0,.gA),(1,.fb G0),(1000000,.a5 a7)],[]⟩,⟨[(1000000,.a5 a7)],[]⟩,[],2,H.PA⟩
theorem arB:hj Tryz.prog ni 164 ZN:=jP (S:=H.PA) Qd [] trivial func164 (S L (B (bb [(0,.gA),(5,.kI 5),(1000000,.a5 a7)] [(5,.cj a7 iR)] (S L (S (C L L) (B (S L (S L (C L L))))))))) (λx=>A.le_refl _)
theorem arC:y5 Tryz.prog 164 ⟨[G0],a7,H.oF⟩:=TK (c:=ZN) arB o2 (λx l L=>(l,x.getD [],(l,L,[],false),())) rfl (by decide) (by simp [hb])
 (λx l L i au=>by
  obtain ⟨T,a2⟩:=au;obtain ⟨m,hm,_⟩:=a2;subst hm;by_cases aW:i=0
  ·subst aW;exact .inr (.inr (.inl ⟨rfl,rfl⟩))
  ·by_cases M:i=1
   ·subst M;exact .inr (.inl ⟨by decide,by decide,_,_,rfl,rfl⟩)
   by_cases aa:i=b_
   ·subst aa;exact .inr (.inr (.inr ⟨rfl,rfl⟩))
   ·refine .inl ?_;exact (if_neg aW).trans ((if_neg M).trans (if_neg aa)))
 rfl (λbA=>⟨_,_,_,_,rfl⟩) (λx l au=>by
  obtain ⟨T,a2⟩:=au;obtain ⟨m,hm,_⟩:=a2;subst hm;have h:=H.aoP l m;refine ⟨h.1,λbA jO cP fx p dr=>?_⟩;have e:aP.a5 bA.1.1 a7 bA.1.2.1 bA.1.2.2.1 bA.1.2.2.2=.a5 cP a7 fx p false:=dr;injection e with aK bq cF hd j0
  rw [<-hd];exact h.2 bA jO j0)
def arD:=uB Qd (Qd.u [] [(164,⟨[G0],a7,H.oF⟩)] ⟨arC,trivial⟩) [] trivial func145 H.yU (S L D) H.anI
def arE:=mk arD func105 H.I2 (S L (S L (J [(4,.dQ 12)] [(12,.mp a7 iR)] (S L (B (bb [(4,.dQ 12),(13,cZ),(14,ae),(15,ae)] [(12,.mp a7 iR)] (S L (S (C L L) (S (B (S L (S (S L (S L (C D L))) L))) L)))))) (S L (J [(9,.ad 9)] [(9,wX)] (S L (B (bb [(4,.dQ 12),(9,.ad 9),(39,bE),(40,ae),(41,ae)] [(9,wX),(12,.jH a7 iR)] (S L (S (C L L) (S (B D) L)))))) D))))) H.anU
def arF:=mk arE func109 (H.ls H.jU) (S L (J [] [] (S L (B (bb [(0,cZ),(1,P9),(7,ae),(8,ae)] [] (S L (S (C L L) (S (B (S L (S L (C D L)))) L)))))) D)) H.ani
def arG:=mk arF func78 (H.jz H.jU) (S L D) H.anj
def arH:=mk arG func157 H.cA (S L D) H.ana
def arI:=mk arH func156 H.IN (S L (J [(1,.aV 1 0)] [(1,Zs)] (S L (B (bb [(1,.aV 1 0),(13,.ad 13),(14,ae),(15,ae)] [(1,Zs),(13,bC)] (S L (S (C L L) (S (B (S L (S L (C D L)))) L)))))) D)) H.anc
def arJ:=mk arI func161 H.Bf (S L D) H.anb
def arK:=mk arJ func159 H.IP (S L (S L D)) H.ane
def arL:=mh arK [] func158 H.EB 1 (S L D) H.anf
def arM:=mk arL func160 H.Bg (S L D) H.ang
def arN:=o4 arM [(158,1)] func143 H.I0 (S L (S (S L (C D L)) (J [(1,.aV 1 0)] [(1,Jk)] (S L (B (bb [(1,.aV 1 0),(38,cg),(39,ae),(40,ae)] [(1,Jk)] (S L (S (C L L) (S (B (S L (S L (C D L)))) L)))))) (J [(1,.aV 1 0)] [(1,Jk)] (S L (B (bb [(1,.aV 1 0),(57,cg),(58,ae),(59,ae)] [(1,Jk)] (S L (S (C L L) (S (B (S L (S L (C D L)))) L)))))) (S L (S L D)))))) H.anM
def arO:=mk arN func104 H.mT (S L (S (S L (C D L)) (S (S L (S L (C D L))) D))) H.anW
def arP:=mk arO func168 H.IS (S L (S L (S L (S (S L (C (S (S L (C D L)) D) L)) (S (S L (C D L)) (S (S L (C D L)) (S (S L (C D L)) D))))))) H.ano
def arQ:=mk arP func167 H.ns (S L D) H.anp
def EU:=mh arQ [] func107 H.Bv 1 (S L D) H.aoK
abbrev y0:=x3 (Uf EU) [(107,1)] []
def ZO:fY:=⟨⟨[(0,.val pR)],[]⟩,⟨[(0,.ad 9),(1,.val h_)],[(9,.bu iR)]⟩,[none,none],1,H.I3⟩
theorem arR:hj Tryz.prog y0 105 ZO:=jP EU [] trivial func105 (S L (S L (J [(4,.dQ 12)] [(12,.mp a7 iR)] (S L (B (bb [(4,.dQ 12),(13,cZ),(14,ae),(15,ae)] [(12,.mp a7 iR)] (S L (S (C L L) (S (B (S L (S (S L (S L (C D L))) L))) L)))))) (S L (J [(9,.ad 9)] [(9,wX)] (S L (B (bb [(4,.dQ 12),(9,.ad 9),(39,bE),(40,ae),(41,ae)] [(9,wX),(12,.jH a7 iR)] (S L (S (C L L) (S (B D) L)))))) D))))) H.anV
def ZP:fY:=⟨⟨[(0,.ad 200001),(1,.val ML)],[(200001,.bu iR)]⟩,⟨[(0,.sub 200001)],[(200001,.bu iR)]⟩,[none],2,H.I4⟩
theorem arS:hj Tryz.prog y0 106 ZP:=jP EU [] trivial func106 (S L (S L (S (S L (C D L)) (J [(0,.ad 200001),(5,ae)] [(200001,wX)] (S L (B (bb [(0,.ad 200001),(1,P9),(5,ae),(6,ae)] [(200001,wX)] (S (S L (C L L)) (J [(0,.ad 200001),(1,P9),(5,ae),(6,ae)] [(200001,wX)] (B (S L (S L (C D L)))) L))))) (S L D))))) H.anX
def Bz:=mk EU func165 H.IQ (S L (S (S L (C D L)) D)) H.ank
def ZQ:fY:=⟨⟨[(0,.ad 200001),(1,.val a7),(2,.val a7),(3,.val DA)],[(200001,.bu qJ)]⟩,⟨[],[(200001,.bu qJ)]⟩,[],4,H.IW⟩
theorem arT:hj Tryz.prog y0 188 ZQ:=jP Bz [] trivial func188 (S L (B (bb [(0,.ad 200001),(1,ae),(2,ae),(3,Jm),(8,ae)] [(200001,aF)] (S (S L (C L L)) (J [(0,.ad 200001),(1,ae),(2,ae),(3,Jm),(8,ae)] [(200001,aF)] (B (S L (B (bb [(0,.ad 200001),(1,ae),(2,ae),(3,Jm),(8,ae),(9,ae)] [(200001,aF)] (S (S L (C L L)) (S (B L) L)))))) L))))) H.anx
def ZR:fY:=⟨⟨[(0,.ad 200001),(1,.val a7),(2,.val a7),(3,.val a7),(4,.val DA)],[(200001,.bu qJ)]⟩,⟨[],[(200001,.bu qJ)]⟩,[],5,H.IY⟩
theorem arU:hj Tryz.prog y0 175 ZR:=jP Bz [(188,.jr ZQ)] ⟨arT,trivial⟩ func175 (S L (S L (B (bb [(0,.ad 200001),(1,ae),(2,ae),(3,ae),(4,Jm),(10,pk),(11,pk)] [(200001,aF)] (B (S L (S (S L (C D L)) L))))))) H.anB
def ZS:fY:=⟨⟨[(0,.ad 200001),(1,.val DA)],[(200001,.bu qJ)]⟩,⟨[],[(200001,.bu qJ)]⟩,[],2,H.ED⟩
theorem arV:hj Tryz.prog y0 166 ZS:=jP Bz [(175,.jr ZR)] ⟨arU,trivial⟩ func166 D H.anD
def ZT:fY:=⟨⟨[(0,.aV 100000 0),(1,.val ey)],[(100000,.cells fy [.val rP,.val pR,.val ey,.val rP,.val a7,.val a7,.val a7,.val a7,.val a7,.val a7,.val a7,.val pR,.ad 100002]),(100002,.bu qK)]⟩,⟨[(0,.val qK),(1,.val h_)],[(100000,.cells fy [.val rP,.val pR,.val ey,.val rP,.val a7,.val a7,.val a7,.val a7,.val a7,.val a7,.val a7,.val pR,.ad 100002]),(100002,.bu qK)]⟩,[none,none],2,H.Jb⟩
theorem arW:hj Tryz.prog y0 146 ZT:=jP Bz [(166,.jr ZS)] ⟨arV,trivial⟩ func146 (S L (J [(0,.aV 100000 0),(1,bE),(6,.aV 17 0)] [(17,.cells gY [bE,.ad 30000,.ad 30001,.ad 30002,.ad 30003,.ad 30004,.ad 30005,.ad 30006,.ad 30007,.ad 30008,.ad 30009]),(100000,.cells fy [cg,cZ,bE,cg,ae,ae,ae,ae,ae,ae,ae,cZ,.ad 100002]),(100002,gR),(30000,aF),(30001,aF),(30002,aF),(30003,aF),(30004,aF),(30005,aF),(30006,aF),(30007,aF),(30008,aF),(30009,aF)] L (J [(6,.aV 17 0)] [(17,.cells gY [bE,.ad 30000,.ad 30001,.ad 30002,.ad 30003,.ad 30004,.ad 30005,.ad 30006,.ad 30007,.ad 30008,.ad 30009]),(30000,aF),(30001,aF),(30002,aF),(30003,aF),(30004,aF),(30005,aF),(30006,aF),(30007,aF),(30008,aF),(30009,aF),(100000,.cells fy [cg,cZ,bE,cg,ae,ae,ae,ae,ae,ae,ae,cZ,.ad 100002]),(100002,gR)] (S L (B (bb [(1,bE),(6,.aV 17 0),(21,cZ),(22,ae),(23,ae)] [(17,.cells gY [bE,.ad 30000,.ad 30001,.ad 30002,.ad 30003,.ad 30004,.ad 30005,.ad 30006,.ad 30007,.ad 30008,.ad 30009]),(30000,aF),(30001,aF),(30002,aF),(30003,aF),(30004,aF),(30005,aF),(30006,aF),(30007,aF),(30008,aF),(30009,aF),(100000,.cells fy [cg,cZ,bE,cg,ae,ae,ae,ae,ae,ae,ae,cZ,.ad 100002]),(100002,gR)] (S L (S (C L L) (J [(1,bE),(6,.aV 17 0),(21,cZ),(22,ae),(23,ae)] [(17,.cells gY [bE,.ad 30000,.ad 30001,.ad 30002,.ad 30003,.ad 30004,.ad 30005,.ad 30006,.ad 30007,.ad 30008,.ad 30009]),(30000,aF),(30001,aF),(30002,aF),(30003,aF),(30004,aF),(30005,aF),(30006,aF),(30007,aF),(30008,aF),(30009,aF),(100000,.cells fy [cg,cZ,bE,cg,ae,ae,ae,ae,ae,ae,ae,cZ,.ad 100002]),(100002,gR)] (B (S L (.split 8 4 10 L))) L)))))) (J [(6,.aV 17 0)] [(17,.cells gY [bE,.ad 30000,.ad 30001,.ad 30002,.ad 30003,.ad 30004,.ad 30005,.ad 30006,.ad 30007,.ad 30008,.ad 30009]),(30000,aF),(30001,aF),(30002,aF),(30003,aF),(30004,aF),(30005,aF),(30006,aF),(30007,aF),(30008,aF),(30009,aF),(100000,.cells fy [cg,cZ,bE,cg,ae,ae,ae,ae,ae,ae,ae,cZ,.ad 100002]),(100002,gR)] (S L (B (.oi (.num 57 0 (S L (S (C L L) (J [(6,.aV 17 0),(56,.gX [30000,30001,30002,30003,30004,30005,30006,30007,30008,30009]),(57,ae)] [(17,.cells gY [bE,.ad 30000,.ad 30001,.ad 30002,.ad 30003,.ad 30004,.ad 30005,.ad 30006,.ad 30007,.ad 30008,.ad 30009]),(30000,aF),(30001,aF),(30002,aF),(30003,aF),(30004,aF),(30005,aF),(30006,aF),(30007,aF),(30008,aF),(30009,aF),(100000,.cells fy [cg,cZ,bE,cg,ae,ae,ae,ae,ae,ae,ae,cZ,.ad 100002]),(100002,gR)] (B (S L (S L (S L (B (bb [(6,.aV 17 0),(10,.ad 30000),(56,.gX [30000,30001,30002,30003,30004,30005,30006,30007,30008,30009]),(57,ae),(62,.ad 30000),(63,ae),(64,ae)] [(17,.cells gY [bE,.ad 30000,.ad 30001,.ad 30002,.ad 30003,.ad 30004,.ad 30005,.ad 30006,.ad 30007,.ad 30008,.ad 30009]),(30000,aF),(30001,aF),(30002,aF),(30003,aF),(30004,aF),(30005,aF),(30006,aF),(30007,aF),(30008,aF),(30009,aF),(100000,.cells fy [cg,cZ,bE,cg,ae,ae,ae,ae,ae,ae,ae,cZ,.ad 100002]),(100002,gR)] (S L (S (C L L) (S (B (S L (S L (J [(6,.aV 17 0),(10,.ad 30000),(11,ae),(12,.aV 12 0),(13,ae),(56,.gX [30000,30001,30002,30003,30004,30005,30006,30007,30008,30009]),(57,ae),(62,.ad 30000),(63,ae),(64,ae)] [(12,tv),(17,.cells gY [bE,.ad 30000,.ad 30001,.ad 30002,.ad 30003,.ad 30004,.ad 30005,.ad 30006,.ad 30007,.ad 30008,.ad 30009]),(30000,aF),(30001,aF),(30002,aF),(30003,aF),(30004,aF),(30005,aF),(30006,aF),(30007,aF),(30008,aF),(30009,aF),(100000,.cells fy [cg,cZ,bE,cg,ae,ae,ae,ae,ae,ae,ae,cZ,.ad 100002]),(100002,gR)] (S L (C L L)) (S L (C D L)))))) L))))))))) L)))) (.oi (.num 57 1 (S L (S (C L L) (J [(6,.aV 17 0),(56,.gX [30000,30001,30002,30003,30004,30005,30006,30007,30008,30009]),(57,ae)] [(17,.cells gY [bE,.ad 30000,.ad 30001,.ad 30002,.ad 30003,.ad 30004,.ad 30005,.ad 30006,.ad 30007,.ad 30008,.ad 30009]),(30000,aF),(30001,aF),(30002,aF),(30003,aF),(30004,aF),(30005,aF),(30006,aF),(30007,aF),(30008,aF),(30009,aF),(100000,.cells fy [cg,cZ,bE,cg,ae,ae,ae,ae,ae,ae,ae,cZ,.ad 100002]),(100002,gR)] (B (S L (S L (S L (B (bb [(6,.aV 17 0),(10,.ad 30001),(56,.gX [30000,30001,30002,30003,30004,30005,30006,30007,30008,30009]),(57,ae),(62,.ad 30001),(63,ae),(64,ae)] [(17,.cells gY [bE,.ad 30000,.ad 30001,.ad 30002,.ad 30003,.ad 30004,.ad 30005,.ad 30006,.ad 30007,.ad 30008,.ad 30009]),(30000,aF),(30001,aF),(30002,aF),(30003,aF),(30004,aF),(30005,aF),(30006,aF),(30007,aF),(30008,aF),(30009,aF),(100000,.cells fy [cg,cZ,bE,cg,ae,ae,ae,ae,ae,ae,ae,cZ,.ad 100002]),(100002,gR)] (S L (S (C L L) (S (B (S L (S L (J [(6,.aV 17 0),(10,.ad 30001),(11,ae),(12,.aV 12 0),(13,ae),(56,.gX [30000,30001,30002,30003,30004,30005,30006,30007,30008,30009]),(57,ae),(62,.ad 30001),(63,ae),(64,ae)] [(12,tv),(17,.cells gY [bE,.ad 30000,.ad 30001,.ad 30002,.ad 30003,.ad 30004,.ad 30005,.ad 30006,.ad 30007,.ad 30008,.ad 30009]),(30000,aF),(30001,aF),(30002,aF),(30003,aF),(30004,aF),(30005,aF),(30006,aF),(30007,aF),(30008,aF),(30009,aF),(100000,.cells fy [cg,cZ,bE,cg,ae,ae,ae,ae,ae,ae,ae,cZ,.ad 100002]),(100002,gR)] (S L (C L L)) (S L (C D L)))))) L))))))))) L)))) (.oi (.num 57 2 (S L (S (C L L) (J [(6,.aV 17 0),(56,.gX [30000,30001,30002,30003,30004,30005,30006,30007,30008,30009]),(57,ae)] [(17,.cells gY [bE,.ad 30000,.ad 30001,.ad 30002,.ad 30003,.ad 30004,.ad 30005,.ad 30006,.ad 30007,.ad 30008,.ad 30009]),(30000,aF),(30001,aF),(30002,aF),(30003,aF),(30004,aF),(30005,aF),(30006,aF),(30007,aF),(30008,aF),(30009,aF),(100000,.cells fy [cg,cZ,bE,cg,ae,ae,ae,ae,ae,ae,ae,cZ,.ad 100002]),(100002,gR)] (B (S L (S L (S L (B (bb [(6,.aV 17 0),(10,.ad 30002),(56,.gX [30000,30001,30002,30003,30004,30005,30006,30007,30008,30009]),(57,ae),(62,.ad 30002),(63,ae),(64,ae)] [(17,.cells gY [bE,.ad 30000,.ad 30001,.ad 30002,.ad 30003,.ad 30004,.ad 30005,.ad 30006,.ad 30007,.ad 30008,.ad 30009]),(30000,aF),(30001,aF),(30002,aF),(30003,aF),(30004,aF),(30005,aF),(30006,aF),(30007,aF),(30008,aF),(30009,aF),(100000,.cells fy [cg,cZ,bE,cg,ae,ae,ae,ae,ae,ae,ae,cZ,.ad 100002]),(100002,gR)] (S L (S (C L L) (S (B (S L (S L (J [(6,.aV 17 0),(10,.ad 30002),(11,ae),(12,.aV 12 0),(13,ae),(56,.gX [30000,30001,30002,30003,30004,30005,30006,30007,30008,30009]),(57,ae),(62,.ad 30002),(63,ae),(64,ae)] [(12,tv),(17,.cells gY [bE,.ad 30000,.ad 30001,.ad 30002,.ad 30003,.ad 30004,.ad 30005,.ad 30006,.ad 30007,.ad 30008,.ad 30009]),(30000,aF),(30001,aF),(30002,aF),(30003,aF),(30004,aF),(30005,aF),(30006,aF),(30007,aF),(30008,aF),(30009,aF),(100000,.cells fy [cg,cZ,bE,cg,ae,ae,ae,ae,ae,ae,ae,cZ,.ad 100002]),(100002,gR)] (S L (C L L)) (S L (C D L)))))) L))))))))) L)))) (.oi (.num 57 3 (S L (S (C L L) (J [(6,.aV 17 0),(56,.gX [30000,30001,30002,30003,30004,30005,30006,30007,30008,30009]),(57,ae)] [(17,.cells gY [bE,.ad 30000,.ad 30001,.ad 30002,.ad 30003,.ad 30004,.ad 30005,.ad 30006,.ad 30007,.ad 30008,.ad 30009]),(30000,aF),(30001,aF),(30002,aF),(30003,aF),(30004,aF),(30005,aF),(30006,aF),(30007,aF),(30008,aF),(30009,aF),(100000,.cells fy [cg,cZ,bE,cg,ae,ae,ae,ae,ae,ae,ae,cZ,.ad 100002]),(100002,gR)] (B (S L (S L (S L (B (bb [(6,.aV 17 0),(10,.ad 30003),(56,.gX [30000,30001,30002,30003,30004,30005,30006,30007,30008,30009]),(57,ae),(62,.ad 30003),(63,ae),(64,ae)] [(17,.cells gY [bE,.ad 30000,.ad 30001,.ad 30002,.ad 30003,.ad 30004,.ad 30005,.ad 30006,.ad 30007,.ad 30008,.ad 30009]),(30000,aF),(30001,aF),(30002,aF),(30003,aF),(30004,aF),(30005,aF),(30006,aF),(30007,aF),(30008,aF),(30009,aF),(100000,.cells fy [cg,cZ,bE,cg,ae,ae,ae,ae,ae,ae,ae,cZ,.ad 100002]),(100002,gR)] (S L (S (C L L) (S (B (S L (S L (J [(6,.aV 17 0),(10,.ad 30003),(11,ae),(12,.aV 12 0),(13,ae),(56,.gX [30000,30001,30002,30003,30004,30005,30006,30007,30008,30009]),(57,ae),(62,.ad 30003),(63,ae),(64,ae)] [(12,tv),(17,.cells gY [bE,.ad 30000,.ad 30001,.ad 30002,.ad 30003,.ad 30004,.ad 30005,.ad 30006,.ad 30007,.ad 30008,.ad 30009]),(30000,aF),(30001,aF),(30002,aF),(30003,aF),(30004,aF),(30005,aF),(30006,aF),(30007,aF),(30008,aF),(30009,aF),(100000,.cells fy [cg,cZ,bE,cg,ae,ae,ae,ae,ae,ae,ae,cZ,.ad 100002]),(100002,gR)] (S L (C L L)) (S L (C D L)))))) L))))))))) L)))) (.oi (.num 57 4 (S L (S (C L L) (J [(6,.aV 17 0),(56,.gX [30000,30001,30002,30003,30004,30005,30006,30007,30008,30009]),(57,ae)] [(17,.cells gY [bE,.ad 30000,.ad 30001,.ad 30002,.ad 30003,.ad 30004,.ad 30005,.ad 30006,.ad 30007,.ad 30008,.ad 30009]),(30000,aF),(30001,aF),(30002,aF),(30003,aF),(30004,aF),(30005,aF),(30006,aF),(30007,aF),(30008,aF),(30009,aF),(100000,.cells fy [cg,cZ,bE,cg,ae,ae,ae,ae,ae,ae,ae,cZ,.ad 100002]),(100002,gR)] (B (S L (S L (S L (B (bb [(6,.aV 17 0),(10,.ad 30004),(56,.gX [30000,30001,30002,30003,30004,30005,30006,30007,30008,30009]),(57,ae),(62,.ad 30004),(63,ae),(64,ae)] [(17,.cells gY [bE,.ad 30000,.ad 30001,.ad 30002,.ad 30003,.ad 30004,.ad 30005,.ad 30006,.ad 30007,.ad 30008,.ad 30009]),(30000,aF),(30001,aF),(30002,aF),(30003,aF),(30004,aF),(30005,aF),(30006,aF),(30007,aF),(30008,aF),(30009,aF),(100000,.cells fy [cg,cZ,bE,cg,ae,ae,ae,ae,ae,ae,ae,cZ,.ad 100002]),(100002,gR)] (S L (S (C L L) (S (B (S L (S L (J [(6,.aV 17 0),(10,.ad 30004),(11,ae),(12,.aV 12 0),(13,ae),(56,.gX [30000,30001,30002,30003,30004,30005,30006,30007,30008,30009]),(57,ae),(62,.ad 30004),(63,ae),(64,ae)] [(12,tv),(17,.cells gY [bE,.ad 30000,.ad 30001,.ad 30002,.ad 30003,.ad 30004,.ad 30005,.ad 30006,.ad 30007,.ad 30008,.ad 30009]),(30000,aF),(30001,aF),(30002,aF),(30003,aF),(30004,aF),(30005,aF),(30006,aF),(30007,aF),(30008,aF),(30009,aF),(100000,.cells fy [cg,cZ,bE,cg,ae,ae,ae,ae,ae,ae,ae,cZ,.ad 100002]),(100002,gR)] (S L (C L L)) (S L (C D L)))))) L))))))))) L)))) (.oi (.num 57 5 (S L (S (C L L) (J [(6,.aV 17 0),(56,.gX [30000,30001,30002,30003,30004,30005,30006,30007,30008,30009]),(57,ae)] [(17,.cells gY [bE,.ad 30000,.ad 30001,.ad 30002,.ad 30003,.ad 30004,.ad 30005,.ad 30006,.ad 30007,.ad 30008,.ad 30009]),(30000,aF),(30001,aF),(30002,aF),(30003,aF),(30004,aF),(30005,aF),(30006,aF),(30007,aF),(30008,aF),(30009,aF),(100000,.cells fy [cg,cZ,bE,cg,ae,ae,ae,ae,ae,ae,ae,cZ,.ad 100002]),(100002,gR)] (B (S L (S L (S L (B (bb [(6,.aV 17 0),(10,.ad 30005),(56,.gX [30000,30001,30002,30003,30004,30005,30006,30007,30008,30009]),(57,ae),(62,.ad 30005),(63,ae),(64,ae)] [(17,.cells gY [bE,.ad 30000,.ad 30001,.ad 30002,.ad 30003,.ad 30004,.ad 30005,.ad 30006,.ad 30007,.ad 30008,.ad 30009]),(30000,aF),(30001,aF),(30002,aF),(30003,aF),(30004,aF),(30005,aF),(30006,aF),(30007,aF),(30008,aF),(30009,aF),(100000,.cells fy [cg,cZ,bE,cg,ae,ae,ae,ae,ae,ae,ae,cZ,.ad 100002]),(100002,gR)] (S L (S (C L L) (S (B (S L (S L (J [(6,.aV 17 0),(10,.ad 30005),(11,ae),(12,.aV 12 0),(13,ae),(56,.gX [30000,30001,30002,30003,30004,30005,30006,30007,30008,30009]),(57,ae),(62,.ad 30005),(63,ae),(64,ae)] [(12,tv),(17,.cells gY [bE,.ad 30000,.ad 30001,.ad 30002,.ad 30003,.ad 30004,.ad 30005,.ad 30006,.ad 30007,.ad 30008,.ad 30009]),(30000,aF),(30001,aF),(30002,aF),(30003,aF),(30004,aF),(30005,aF),(30006,aF),(30007,aF),(30008,aF),(30009,aF),(100000,.cells fy [cg,cZ,bE,cg,ae,ae,ae,ae,ae,ae,ae,cZ,.ad 100002]),(100002,gR)] (S L (C L L)) (S L (C D L)))))) L))))))))) L)))) (.oi (.num 57 6 (S L (S (C L L) (J [(6,.aV 17 0),(56,.gX [30000,30001,30002,30003,30004,30005,30006,30007,30008,30009]),(57,ae)] [(17,.cells gY [bE,.ad 30000,.ad 30001,.ad 30002,.ad 30003,.ad 30004,.ad 30005,.ad 30006,.ad 30007,.ad 30008,.ad 30009]),(30000,aF),(30001,aF),(30002,aF),(30003,aF),(30004,aF),(30005,aF),(30006,aF),(30007,aF),(30008,aF),(30009,aF),(100000,.cells fy [cg,cZ,bE,cg,ae,ae,ae,ae,ae,ae,ae,cZ,.ad 100002]),(100002,gR)] (B (S L (S L (S L (B (bb [(6,.aV 17 0),(10,.ad 30006),(56,.gX [30000,30001,30002,30003,30004,30005,30006,30007,30008,30009]),(57,ae),(62,.ad 30006),(63,ae),(64,ae)] [(17,.cells gY [bE,.ad 30000,.ad 30001,.ad 30002,.ad 30003,.ad 30004,.ad 30005,.ad 30006,.ad 30007,.ad 30008,.ad 30009]),(30000,aF),(30001,aF),(30002,aF),(30003,aF),(30004,aF),(30005,aF),(30006,aF),(30007,aF),(30008,aF),(30009,aF),(100000,.cells fy [cg,cZ,bE,cg,ae,ae,ae,ae,ae,ae,ae,cZ,.ad 100002]),(100002,gR)] (S L (S (C L L) (S (B (S L (S L (J [(6,.aV 17 0),(10,.ad 30006),(11,ae),(12,.aV 12 0),(13,ae),(56,.gX [30000,30001,30002,30003,30004,30005,30006,30007,30008,30009]),(57,ae),(62,.ad 30006),(63,ae),(64,ae)] [(12,tv),(17,.cells gY [bE,.ad 30000,.ad 30001,.ad 30002,.ad 30003,.ad 30004,.ad 30005,.ad 30006,.ad 30007,.ad 30008,.ad 30009]),(30000,aF),(30001,aF),(30002,aF),(30003,aF),(30004,aF),(30005,aF),(30006,aF),(30007,aF),(30008,aF),(30009,aF),(100000,.cells fy [cg,cZ,bE,cg,ae,ae,ae,ae,ae,ae,ae,cZ,.ad 100002]),(100002,gR)] (S L (C L L)) (S L (C D L)))))) L))))))))) L)))) (.oi (.num 57 7 (S L (S (C L L) (J [(6,.aV 17 0),(56,.gX [30000,30001,30002,30003,30004,30005,30006,30007,30008,30009]),(57,ae)] [(17,.cells gY [bE,.ad 30000,.ad 30001,.ad 30002,.ad 30003,.ad 30004,.ad 30005,.ad 30006,.ad 30007,.ad 30008,.ad 30009]),(30000,aF),(30001,aF),(30002,aF),(30003,aF),(30004,aF),(30005,aF),(30006,aF),(30007,aF),(30008,aF),(30009,aF),(100000,.cells fy [cg,cZ,bE,cg,ae,ae,ae,ae,ae,ae,ae,cZ,.ad 100002]),(100002,gR)] (B (S L (S L (S L (B (bb [(6,.aV 17 0),(10,.ad 30007),(56,.gX [30000,30001,30002,30003,30004,30005,30006,30007,30008,30009]),(57,ae),(62,.ad 30007),(63,ae),(64,ae)] [(17,.cells gY [bE,.ad 30000,.ad 30001,.ad 30002,.ad 30003,.ad 30004,.ad 30005,.ad 30006,.ad 30007,.ad 30008,.ad 30009]),(30000,aF),(30001,aF),(30002,aF),(30003,aF),(30004,aF),(30005,aF),(30006,aF),(30007,aF),(30008,aF),(30009,aF),(100000,.cells fy [cg,cZ,bE,cg,ae,ae,ae,ae,ae,ae,ae,cZ,.ad 100002]),(100002,gR)] (S L (S (C L L) (S (B (S L (S L (J [(6,.aV 17 0),(10,.ad 30007),(11,ae),(12,.aV 12 0),(13,ae),(56,.gX [30000,30001,30002,30003,30004,30005,30006,30007,30008,30009]),(57,ae),(62,.ad 30007),(63,ae),(64,ae)] [(12,tv),(17,.cells gY [bE,.ad 30000,.ad 30001,.ad 30002,.ad 30003,.ad 30004,.ad 30005,.ad 30006,.ad 30007,.ad 30008,.ad 30009]),(30000,aF),(30001,aF),(30002,aF),(30003,aF),(30004,aF),(30005,aF),(30006,aF),(30007,aF),(30008,aF),(30009,aF),(100000,.cells fy [cg,cZ,bE,cg,ae,ae,ae,ae,ae,ae,ae,cZ,.ad 100002]),(100002,gR)] (S L (C L L)) (S L (C D L)))))) L))))))))) L)))) (.oi (.num 57 8 (S L (S (C L L) (J [(6,.aV 17 0),(56,.gX [30000,30001,30002,30003,30004,30005,30006,30007,30008,30009]),(57,ae)] [(17,.cells gY [bE,.ad 30000,.ad 30001,.ad 30002,.ad 30003,.ad 30004,.ad 30005,.ad 30006,.ad 30007,.ad 30008,.ad 30009]),(30000,aF),(30001,aF),(30002,aF),(30003,aF),(30004,aF),(30005,aF),(30006,aF),(30007,aF),(30008,aF),(30009,aF),(100000,.cells fy [cg,cZ,bE,cg,ae,ae,ae,ae,ae,ae,ae,cZ,.ad 100002]),(100002,gR)] (B (S L (S L (S L (B (bb [(6,.aV 17 0),(10,.ad 30008),(56,.gX [30000,30001,30002,30003,30004,30005,30006,30007,30008,30009]),(57,ae),(62,.ad 30008),(63,ae),(64,ae)] [(17,.cells gY [bE,.ad 30000,.ad 30001,.ad 30002,.ad 30003,.ad 30004,.ad 30005,.ad 30006,.ad 30007,.ad 30008,.ad 30009]),(30000,aF),(30001,aF),(30002,aF),(30003,aF),(30004,aF),(30005,aF),(30006,aF),(30007,aF),(30008,aF),(30009,aF),(100000,.cells fy [cg,cZ,bE,cg,ae,ae,ae,ae,ae,ae,ae,cZ,.ad 100002]),(100002,gR)] (S L (S (C L L) (S (B (S L (S L (J [(6,.aV 17 0),(10,.ad 30008),(11,ae),(12,.aV 12 0),(13,ae),(56,.gX [30000,30001,30002,30003,30004,30005,30006,30007,30008,30009]),(57,ae),(62,.ad 30008),(63,ae),(64,ae)] [(12,tv),(17,.cells gY [bE,.ad 30000,.ad 30001,.ad 30002,.ad 30003,.ad 30004,.ad 30005,.ad 30006,.ad 30007,.ad 30008,.ad 30009]),(30000,aF),(30001,aF),(30002,aF),(30003,aF),(30004,aF),(30005,aF),(30006,aF),(30007,aF),(30008,aF),(30009,aF),(100000,.cells fy [cg,cZ,bE,cg,ae,ae,ae,ae,ae,ae,ae,cZ,.ad 100002]),(100002,gR)] (S L (C L L)) (S L (C D L)))))) L))))))))) L)))) (.oi (.num 57 9 (S L (S (C L L) (J [(6,.aV 17 0),(56,.gX [30000,30001,30002,30003,30004,30005,30006,30007,30008,30009]),(57,ae)] [(17,.cells gY [bE,.ad 30000,.ad 30001,.ad 30002,.ad 30003,.ad 30004,.ad 30005,.ad 30006,.ad 30007,.ad 30008,.ad 30009]),(30000,aF),(30001,aF),(30002,aF),(30003,aF),(30004,aF),(30005,aF),(30006,aF),(30007,aF),(30008,aF),(30009,aF),(100000,.cells fy [cg,cZ,bE,cg,ae,ae,ae,ae,ae,ae,ae,cZ,.ad 100002]),(100002,gR)] (B (S L (S L (S L (B (bb [(6,.aV 17 0),(10,.ad 30009),(56,.gX [30000,30001,30002,30003,30004,30005,30006,30007,30008,30009]),(57,ae),(62,.ad 30009),(63,ae),(64,ae)] [(17,.cells gY [bE,.ad 30000,.ad 30001,.ad 30002,.ad 30003,.ad 30004,.ad 30005,.ad 30006,.ad 30007,.ad 30008,.ad 30009]),(30000,aF),(30001,aF),(30002,aF),(30003,aF),(30004,aF),(30005,aF),(30006,aF),(30007,aF),(30008,aF),(30009,aF),(100000,.cells fy [cg,cZ,bE,cg,ae,ae,ae,ae,ae,ae,ae,cZ,.ad 100002]),(100002,gR)] (S L (S (C L L) (S (B (S L (S L (J [(6,.aV 17 0),(10,.ad 30009),(11,ae),(12,.aV 12 0),(13,ae),(56,.gX [30000,30001,30002,30003,30004,30005,30006,30007,30008,30009]),(57,ae),(62,.ad 30009),(63,ae),(64,ae)] [(12,tv),(17,.cells gY [bE,.ad 30000,.ad 30001,.ad 30002,.ad 30003,.ad 30004,.ad 30005,.ad 30006,.ad 30007,.ad 30008,.ad 30009]),(30000,aF),(30001,aF),(30002,aF),(30003,aF),(30004,aF),(30005,aF),(30006,aF),(30007,aF),(30008,aF),(30009,aF),(100000,.cells fy [cg,cZ,bE,cg,ae,ae,ae,ae,ae,ae,ae,cZ,.ad 100002]),(100002,gR)] (S L (C L L)) (S L (C D L)))))) L))))))))) L)))) (.oi (.num 57 10 (S L (S (C L L) L))) L))))))))))))) D)))) H.aot
def Qe (f:Nat):fY:=⟨⟨[(0,.aV 100000 0),(1,.val ey)],[(100000,.cells fy [.val rP,.val pR,.val ey,.val rP,.val a7,.val a7,.val a7,.val a7,.val a7,.val a7,.val a7,.val pR,.ad 100002]),(100002,.bu qK)]⟩,⟨[],[(100000,.cells fy [.val rP,.val pR,.val ey,.val rP,.val a7,.val a7,.val a7,.val a7,.val a7,.val a7,.val a7,.val pR,.ad 100002]),(100002,.bu qK)]⟩,[],2,H.yY f⟩
theorem ZU:∀f,hj Tryz.prog y0 108 (Qe f)
 |0=>G' func108 H.aoE
 |f+1=>jP Bz [(108,.jr (Qe f)),(146,.jr ZT)] ⟨ZU f,arW,trivial⟩ func108 (S L (S (S L (C (J [] [(100000,.cells fy [cg,cZ,bE,cg,ae,ae,ae,ae,ae,ae,ae,cZ,.ad 100002]),(100002,gR)] (S L (S L (C L L))) L) L)) (S L (B (bb [(0,.aV 100000 0),(1,bE),(4,ae),(7,ae)] [(100000,.cells fy [cg,cZ,bE,cg,ae,ae,ae,ae,ae,ae,ae,cZ,.ad 100002]),(100002,gR)] (S (S L (C L L)) (S (B L) L))))))) (H.aoH f)
def arX:=uB Bz (EU.u [(107,1)] [] trivial) [(105,.jr ZO),(106,.jr ZP),(108,.jr (Qe 5))] ⟨arR,arS,ZU 5,trivial⟩ func76 H.Jc (S L (S (S L (S L (C D L))) (S L (S L (S L (J [(7,.aV 15 0)] [(15,.cells fy [cg,cZ,bE,cg,ae,ae,ae,ae,ae,ae,ae,.sub 50200,.ad 30000]),(50200,wX),(30000,gR)] (S L (C D L)) (S L (S (S L (C D L)) D)))))))) H.aoM
def arY:=mh arX [] func79 H.Bw 1 (S L D) H.apa
def arZ:=mh arY [(79,1)] func77 H.P1 1 (S L D) H.apb (hc:=λx h=>by obtain ⟨_,f,ax,_⟩:=h;exact xZ ⟨trivial,uz ax⟩)
def ar0:=mk arZ func80 H.Jd (S L (J [(4,.aV 4 0),(5,pk)] [(4,EP)] (S L (B (bb [(1,Zy),(4,.aV 4 0),(5,pk),(13,Zx),(14,ae),(15,ae)] [(4,EP)] (S L (S (C L L) (J [(1,Zy),(4,.aV 4 0),(5,pk),(13,Zx),(14,ae),(15,ae)] [(4,EP)] (B (S L (S L (B (S L (C L (S L (C L L)))))))) L)))))) D)) H.aoN
def Qf:=mk ar0 func111 H.Bs (S L (S L (J [(7,ae)] [] (S L (B (bb [(1,ae),(2,ae),(7,ae),(14,cg),(15,ae),(16,ae)] [] (S L (S (C L L) (S (B D) L)))))) D))) H.an9
def ZV:fY:=⟨⟨[(0,.gA),(1,.fb qK),(2,.fb v9),(1000000,.a5 (.aG iR a7))],[]⟩,⟨[(1000000,.a5 (.aG iR a7))],[]⟩,[],3,(H.IJ H.Bs.sh)⟩
theorem ar1:hj Tryz.prog ni 110 ZV:=jP (S:=(H.IJ H.Bs.sh)) Qf [] trivial func110 (S L (B (bb [(0,.gA),(2,.fb v9),(10,P_),(11,ae),(1000000,.a5 (.aG iR a7))] [] (S L (S (C L L) (J [(0,.gA),(2,.fb v9),(10,P_),(11,ae),(1000000,.a5 (.aG iR a7))] [] (B (S L (S L (B (bb [(0,.gA),(2,.fb v9),(5,apX),(6,ae),(10,P_),(11,ae),(1000000,.a5 (.aG iR a7))] [] (S (S L (C L L)) (S (B (S L (C L L))) L))))))) L)))))) (λx=>A.le_refl _)
theorem ar2:y5 Tryz.prog 110 ⟨[qK,v9],(.aG iR a7),H.vg⟩:=TK (c:=ZV) ar1 o2 (λx l L=>(l,x.1.getD none,x.2.getD none,(l,L,[],false),())) rfl (by decide) (by simp [hb])
 (λx l L i au=>by
  obtain ⟨T,a2⟩:=au;obtain ⟨t,b,M,aa,ar,_⟩:=a2;obtain ⟨so,lG⟩:=x;change so=some (some t) at M;change lG=some (some b) at aa;subst M;subst aa;by_cases aW:i=0
  ·subst aW;exact .inr (.inr (.inl ⟨rfl,rfl⟩))
  ·by_cases M:i=1
   ·subst M;exact .inr (.inl ⟨by decide,by decide,_,_,rfl,rfl⟩)
   by_cases an:i=2
   ·subst an;exact .inr (.inl ⟨by decide,by decide,_,_,rfl,rfl⟩)
   by_cases aa:i=b_
   ·subst aa;exact .inr (.inr (.inr ⟨rfl,rfl⟩))
   ·refine .inl ?_;exact (if_neg aW).trans ((if_neg M).trans ((if_neg an).trans (if_neg aa))))
 rfl (λbA=>⟨_,_,_,_,rfl⟩) (λx l au=>by
  obtain ⟨T,a2⟩:=au;obtain ⟨t,b,M,aa,ar,_⟩:=a2;obtain ⟨so,lG⟩:=x;change so=some (some t) at M;change lG=some (some b) at aa;subst M;subst aa;have h:=H.aoS l t b ar;refine ⟨h.1,λbA jO cP fx p dr=>?_⟩;have e:aP.a5 bA.1.1 (.aG iR a7) bA.1.2.1 bA.1.2.2.1 bA.1.2.2.2=.a5 cP (.aG iR a7) fx p false:=dr;injection e with aK bq cF hd j0
  rw [<-hd];exact h.2 bA jO j0)
def ar3:=uB Qf (Qf.u [] [(110,⟨[qK,v9],(.aG iR a7),H.vg⟩)] ⟨ar2,trivial⟩) [] trivial func82 H.Jf (S L D) H.aoW
def ar4:=mh ar3 [] func81 H.P2 1 (S L (S (S L (B (cz [(2,.fb a7),(3,.fb MG),(5,.aV 5 0),(6,.aV 6 0)] [(5,.cells a7 [ae]),(6,.cells h_ [pk])] [(2,.fb a7),(3,.fb MG),(5,.aV 100005 0),(6,.aV 100006 0),(12,apT),(13,ae)] [(100005,.cells a7 [ae]),(100006,.cells h_ [pk])] [] [(100005,.cells a7 [ae]),(100006,.cells h_ [pk])] D (B (S L (C D L)))))) D)) H.apc (hc:=λx h=>by obtain ⟨_,_,_,_,rfl,_⟩:=h;exact xZ ⟨⟨⟨trivial,rfl⟩,rfl⟩,rfl⟩)
def ar5:=o4 ar4 [(77,1),(81,1)] func44 H.Jg (S L (S L (S (S L (C D L)) (S L (S (S L (C D L)) D))))) H.apd
def ar6:=mk ar5 func46 H.I6 (S L (S (S L (C D L)) D)) H.an'
def ar7:=mh ar6 [] func45 H.yZ 1 (S L D) H.apf
def ds:=o4 ar7 [(45,1)] func21 H.Ja (S L D) H.aph
def dt:=mk ds func22 H.s6 (S L D) H.apj
def cX:=mk dt func8 Jj (S L (S L (S L (S L D)))) apJ
def ar8:=mk cX func48 Oe (S L D) akv
def ar9:=mk ar8 func49 Of (S L D) akw
def dp:=mk ar9 func23 H3 (S L (S (S L (S L (C D L))) (S (S L (C D L)) D))) akz
def ZW:fY:=⟨⟨[(0,.val jZ),(1,.val ey)],[]⟩,⟨[(0,.ad 6),(1,.val h_)],[(6,.bu v5)]⟩,[none,none],2,Zq⟩
theorem ar_:hj Tryz.prog ni 9 ZW:=jP dp [] trivial func9 (S L (S L (J [(6,.ad 6)] [(6,tu)] (S L (B (bb [(1,bE),(2,.aV 2 0),(6,.ad 6),(7,ae)] [(2,ib),(6,tu)] (S (S L (C L L)) (J [(1,bE),(2,.aV 2 0),(6,.ad 6),(7,ae)] [(2,ib),(6,tu)] (B (S (S L (C L L)) (S L (S (S L (C D L)) (S L (S L (B (bb [(1,bE),(2,.aV 2 0),(6,.ad 6),(7,ae),(10,.aV 10 0),(11,ae)] [(2,ib),(6,tu),(10,P8)] (S (S L (C L L)) (S (B L) L)))))))))) L))))) D))) apH
theorem ar':jk Tryz.prog 9 (.aG jZ ey) (.aG (.slice v5) h_) EO.sh/\EY Tryz.prog 9 (.aG jZ ey) (.aG (.slice v5) h_) EO.sh:=agk (c:=ZW) (by simp) rfl rfl rfl ar_ o2 (b0:=6) (λx=>(x.1,x.2,())) (λx=>by rfl) rfl (by decide) rfl (λbA=>bA.2.1) (λbA=>bA.1) (λbA=>⟨rfl,rfl,rfl⟩) (λx aA=>⟨aA,λbA jO=>by have h:bA=_:=jO;subst h;rfl⟩)
def asa:=mk dp func58 uM (S L D) ajG
def asb:=mk asa func136 (ls nW) (S L (J [] [] (S L (B (bb [(0,cg),(1,apV),(7,ae),(8,ae)] [] (S L (S (C L L) (S (B (S L (S L (C D L)))) L)))))) D)) (rV nW)
def asc:=mk asb func91 (jz nW) (S L D) (rW nW)
def asd:=mh asc [] func92 (uH nW) 1 (S L D) (Az nW)
def ase:=o4 asd [(92,1)] func59 (gZ nW) (S L D) (AA nW)
def BA:=mh ase [] func60 uN 1 (S L D) ajH
abbrev Qg:=x3 (Uf BA) [(60,1)] []
def ZX:fY:=⟨⟨[(0,.val ey),(1,.val a7)],[]⟩,⟨[(0,.ad 30)],[(30,.bu a7)]⟩,[none],2,DZ⟩
theorem asf:hj Tryz.prog Qg 61 ZX:=jP BA [] trivial func61 (S L (J [(0,bE),(1,ae)] [] (S L (C L L)) (S L (J [(0,bE),(6,jG)] [] (S L (C L L)) (S L (S L (J [(7,.ad 30)] [(30,bC)] (B (bb [(7,.ad 30),(8,ae)] [(30,bC)] (S (S L (C L L)) (B L)))) D))))))) apI
def ZY:fY:=⟨⟨[(0,.aV 100000 0),(1,.val a7)],[(100000,.cells ln [.val v7,.val ey,.ad 100001]),(100001,.bu a7)]⟩,⟨[(0,.ad 5)],[(5,.bu a7),(100000,.cells ln [.val v7,.val ey,.ad 100001]),(100001,.bu a7)]⟩,[none],2,AO⟩
theorem asg:hj Tryz.prog Qg 29 ZY:=jP BA [] trivial func29 (S L (S L (J [(5,.ad 5)] [(5,bC),(100000,.cells ln [vk,bE,.ad 100001]),(100001,bC)] (S L (B (bb [(1,ae),(5,.ad 5),(11,.ad 100001),(12,ae),(13,ae)] [(5,bC),(100000,.cells ln [vk,bE,.ad 100001]),(100001,bC)] (S L (S (C L L) (J [(1,ae),(5,.ad 5),(11,.ad 100001),(12,ae),(13,ae)] [(5,bC),(100000,.cells ln [vk,bE,.ad 100001]),(100001,bC)] (B (S L (S L (C L L)))) L)))))) D))) ajy
def Qh (f:Nat):fY:=⟨⟨[(0,.aV 100000 0),(1,.val a7),(2,.dQ 100002)],[(100000,.cells ln [.val v7,.val ey,.ad 100001]),(100001,.bu a7),(100002,.mp a7 a7)]⟩,⟨[(0,.val h_)],[(100000,.cells ln [.val v7,.val ey,.ad 100001]),(100001,.bu a7),(100002,.mp a7 a7)]⟩,[none],3,s4 f⟩
theorem ZZ:∀f,hj Tryz.prog Qg 62 (Qh f)
 |0=>G' func62 ajF
 |f+1=>jP BA [(29,.jr ZY),(62,.jr (Qh f))] ⟨asg,ZZ f,trivial⟩ func62 (S L (J [] [(100000,.cells ln [vk,bE,.ad 100001]),(100001,bC),(100002,.mp a7 a7)] (S L (B (bb [(0,.aV 100000 0),(1,ae),(2,.dQ 100002),(18,bE),(19,ae),(20,ae)] [(100000,.cells ln [vk,bE,.ad 100001]),(100001,bC),(100002,.mp a7 a7)] (S L (S (C L L) (J [(0,.aV 100000 0),(1,ae),(2,.dQ 100002),(18,bE),(19,ae),(20,ae)] [(100000,.cells ln [vk,bE,.ad 100001]),(100001,bC),(100002,.mp a7 a7)] (B (S L (S (S L (S L (C L L))) (S L (S (S L (C (S L D) L)) (S L (B (bb [(0,.aV 100000 0),(1,ae),(2,.dQ 100002),(8,ae),(18,bE),(19,ae),(20,ae),(52,.ad 50340),(53,ae),(54,ae)] [(50340,bC),(100000,.cells ln [vk,bE,.ad 100001]),(100001,bC),(100002,.mp a7 a7)] (S L (S (C L L) (S (B (S L (S L (C (S L D) L)))) L))))))))))) L)))))) D)) (ajE f)
def jE:=uB BA (BA.u [(60,1)] [] trivial) [(61,.jr ZX),(62,.jr (Qh 11))] ⟨asf,ZZ 11,trivial⟩ func28 N_ (S L (S L (S L (S (S L (C D L)) (S L (J [(2,cg),(11,.aV 52 0)] [(52,.cells ln [.ad 85,bE,.ad 50500]),(85,re),(50500,bC)] (S L (B (bb [(2,cg),(3,.aV 3 0),(9,kF),(11,.aV 52 0),(53,cg),(54,ae),(55,ae)] [(3,.hf ka),(52,.cells ln [.ad 85,bE,.ad 50500]),(85,re),(50500,bC)] (S L (S (C L L) (J [(2,cg),(3,.aV 3 0),(9,kF),(11,.aV 52 0),(53,cg),(54,ae),(55,ae)] [(3,.hf ka),(52,.cells ln [.ad 85,bE,.ad 50500]),(85,re),(50500,bC)] (B (S L (S L (J [(2,cg),(3,.aV 3 0),(9,kF),(11,.aV 52 0),(14,.ad 14),(53,cg),(54,ae),(55,ae)] [(3,.hf ka),(14,bC),(52,.cells ln [.ad 85,bE,.ad 50500]),(85,re),(50500,bC)] (S L (B (bb [(2,cg),(3,.aV 3 0),(9,kF),(11,.aV 52 0),(13,.aV 13 0),(14,.ad 14),(53,cg),(54,ae),(55,ae),(61,ae),(62,ae)] [(3,.hf ka),(13,EP),(14,bC),(52,.cells ln [.ad 85,bE,.ad 50500]),(85,re),(50500,bC)] (S L (S (C L L) (J [(2,cg),(3,.aV 3 0),(9,kF),(11,.aV 52 0),(13,.aV 13 0),(14,.ad 14),(53,cg),(54,ae),(55,ae),(61,ae),(62,ae)] [(3,.hf ka),(13,EP),(14,bC),(52,.cells ln [.ad 85,bE,.ad 50500]),(85,re),(50500,bC)] (B (S L (S L (C L L)))) L)))))) L)))) L)))))) (J [(11,.aV 52 0)] [(52,.cells ln [vk,bE,.ad 50500]),(50500,bC)] (S L (B (bb [(11,.aV 52 0),(90,ae),(91,ae)] [(52,.cells ln [vk,bE,.ad 50500]),(50500,bC)] (S L (S (C L L) (S (B D) L)))))) D))))))) ajQ
def jF:=mk jE func29 NZ (S L (S L (J [(5,.ad 5)] [(5,bC)] (S L (B (bb [(1,ae),(5,.ad 5),(11,bE),(12,ae),(13,ae)] [(5,bC)] (S L (S (C L L) (J [(1,ae),(5,.ad 5),(11,bE),(12,ae),(13,ae)] [(5,bC)] (B (S L (S L (C L L)))) L)))))) D))) ajx
def cS:=mk jF func11 HS (S L (S L (S (S L (C D L)) D))) ajU
def Z0:fY:=⟨⟨[(0,.val o1),(1,.gA),(1000000,.a5 ey)],[]⟩,⟨[(1000000,.a5 ey)],[]⟩,[],2,(Hh (r7 10))⟩
theorem ash:hj Tryz.prog ni 31 Z0:=jP (S:=(Hh (r7 10))) cS [(65,.jr (Jo 10))] ⟨Qa 10,trivial⟩ func31 L (λx=>A.le_refl _)
def Jq:xt:=⟨o1,ey,yD,OX⟩
theorem asi:z7 Tryz.prog 31 Jq:=Mu (c:=Z0) ash o2 (ic:=Jq) (λx l L=>(x,l,(l,L,[],false),())) rfl (by decide) (by simp [Jq])
 (λx l L i=>by
  by_cases aW:i=0
  ·subst aW;exact .inr (.inl ⟨by decide,rfl⟩)
  ·by_cases M:i=1
   ·subst M;exact .inr (.inr (.inl ⟨rfl,rfl⟩))
   ·by_cases aa:i=b_
    ·subst aa;exact .inr (.inr (.inr ⟨rfl,rfl⟩))
    ·refine .inl ?_;exact (if_neg aW).trans ((if_neg M).trans (if_neg aa)))
 rfl (λbA=>⟨_,_,_,_,rfl⟩) (λx l ar=>by
  obtain ⟨s,aA,aj⟩:=ar;subst aA;have h:=als s aj l;refine ⟨h.1,λbA jO cP fx n dr=>?_⟩;have e:aP.a5 bA.1.1 ey bA.1.2.1 bA.1.2.2.1 bA.1.2.2.2=.a5 cP ey fx n false:=dr;injection e with aK bq cF hd j0
  exact hd.symm.trans ((h.2 bA jO).2.2 j0))
def asj:=mk cS func33 OQ (S L (J [] [] (S L (B (bb [(0,kG),(9,k4),(10,ae),(11,ae)] [] (S L (S (C L L) (J [(0,kG),(9,k4),(10,ae),(11,ae)] [] (B (S L (S L (J [(0,kG),(7,pk),(9,k4),(10,ae),(11,ae)] [] (S L (B (bb [(0,kG),(6,.aV 6 0),(7,pk),(9,k4),(10,ae),(11,ae),(20,ae),(21,ae)] [(6,apS)] (S L (S (C L L) (S (B D) L)))))) (S L (C D L)))))) L)))))) D)) ak8
def cY:=uB asj o2 [(31,.cj Jq)] ⟨asi,trivial⟩ func12 Iu (S L (S L (S (S L (C D L)) (S L (S (S L (B (cz [(4,.aV 4 0),(6,.aV 6 0)] [(4,.cells o1 [kG]),(6,.cells a7 [ae])] [(4,.aV 100004 0),(6,.aV 100006 0),(21,bE)] [(100004,.cells o1 [kG]),(100006,.cells a7 [ae])] [] [(100004,.cells o1 [kG]),(100006,.cells a7 [ae])] L (B (S L (S (S L (C L L)) (S L (S L (C L L))))))))) (S (S L (C D L)) D)))))) alB
theorem Z7:jk Tryz.prog 3 (.aG jZ (.aG ey a7)) h_ (λx=>P6 Es Jh.sh Ji.sh mj.sh Jj.sh EO.sh Aw.sh HS.sh Iu.sh x):=DE cY o2 (sp:=[(4,.jr Zz),(9,.FL ⟨(.aG jZ ey),(.aG rP h_),EO.sh,true⟩)]) ⟨ap2,ar',trivial⟩ func3 (ann:=(S L (S L (S L (S (S L (C D L)) (S L (S (S L (C D L)) (J [(2,ae),(7,.aV 7 0),(8,cg)] [(7,.cells jZ [hK,hY,ae,iK,.ad 50220,.ad 50221,.ad 50222,.cr,ae]),(50220,bC),(50221,vh),(50222,vi)] (S L (B (bb [(2,ae),(7,.aV 7 0),(8,cg),(10,ae)] [(7,.cells jZ [hK,hY,ae,iK,.ad 50220,.ad 50221,.ad 50222,.cr,ae]),(50220,bC),(50221,vh),(50222,vi)] (S (S L (C L L)) (J [(2,ae),(7,.aV 7 0),(8,cg),(10,ae)] [(7,.cells jZ [hK,hY,ae,iK,.ad 50220,.ad 50221,.ad 50222,.cr,ae]),(50220,bC),(50221,vh),(50222,vi)] (B (S L (J [(2,ae),(7,.aV 7 0),(8,cg),(10,ae),(11,pk)] [(7,.cells jZ [hK,hY,ae,iK,.ad 50220,.ad 50221,.ad 50222,.cr,ae]),(50220,bC),(50221,vh),(50222,vi)] (S L (B (bb [(2,ae),(7,.aV 7 0),(8,cg),(10,ae),(11,pk),(12,ae)] [(7,.cells jZ [hK,hY,ae,iK,.ad 50220,.ad 50221,.ad 50222,.cr,ae]),(50220,bC),(50221,vh),(50222,vi)] (S (S L (C L L)) (S (B (S L (S (S L (C D L)) L))) L))))) (S L (C D L))))) L))))) (S L (S L (S (S L (C D L)) (S (S L (C D L)) (S L (S L D)))))))))))))) (λx=>A.le_refl _) (by kernel_rfl) λx=>by kernel_rfl
end
end Go.Fer.y1
