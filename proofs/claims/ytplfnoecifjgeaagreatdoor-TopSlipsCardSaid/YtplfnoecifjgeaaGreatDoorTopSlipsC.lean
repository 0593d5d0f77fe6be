/- Part 3 of the proof of TopSlips: shallow programs of Go functions, and what they compute. No condition. -/
import Derived.Test.YtplfnoecifjgeaaGreatDoorTopSlipsB
import Derived.RangeFuncIn
import Derived.RangeFuncRecord
import Derived.RangeFuncBound
noncomputable section
set_option linter.unusedVariables false
set_option linter.unusedSimpArgs false
namespace Go.Fer
open Go.RowKit
def oM(x y:bS):Prop:=(y.fK=true->x.fK=true)/\(y.fi=true->x.fi=true/\y.len=x.len/\y.e4=x.e4)/\(y.gX=true->x.gX=true)/\(y.mU=true->x.mU=true)/\∀ k,y.b1 k=true->x.b1 k=true
theorem oM.refl(x:bS):oM x x:=⟨id,λh=>⟨h,rfl,rfl⟩,id,id,λ_=>id⟩
theorem oM.fD(x:bS):oM x .fD:=⟨λh=>(by cases h),λh=>(by cases h),λh=>(by cases h),λh=>(by cases h),λ_ h=>(by cases h)⟩
def sB(f:Nat->Nat)(H H':Nat->bK):Prop:=∀ b,(H' b).gen=0/\oM (H (f b)).body (H' b).body
section
variable {P:Program} {H H':Nat->bK} {κ:Nat->bB} {F F':Nat->Prop} {w:World} {f:Nat->Nat}
theorem Tc(ay:sB f H H'){b off:Nat}{v:Value}(h:bA P H κ F w (.ba (f b) (H (f b)).gen off) v):bA P H' (λb=>κ (f b)) F' w (.ba b 0 off) v:=
 ⟨⟨Nat.zero_le _,h.1.2⟩,λ_ hc=>h.2 rfl ((ay b).2.1 hc)⟩
def LG(P:Program)(H H':Nat->bK)(κ:Nat->bB)(f:Nat->Nat)(F F':Nat->Prop)(w:World){R:Type}(r:Option (R×List Nat))(l:List Nat)(av av':aI)(y:R):Prop:=
 ∃ m,r=some (y,m)/\(∀ b∈m,b∈l)/\(iZ H κ F' l->∀ v,bA P H κ F w av v->bA P H' (λb=>κ (f b)) F' w av' v)
theorem LG.hI{R:Type}{r:Option (R×List Nat)}{l:List Nat}{av av':aI}{y:R}(h:r=some (y,l))(k:∀ v,bA P H κ F w av v->bA P H' (λb=>κ (f b)) F' w av' v):LG P H H' κ f F F' w r l av av' y:=
 ⟨l,h,λ_ aa=>aa,λ_=>k⟩
theorem kH{an:Type}{b:Bool}{r:Option an}{x:an}(h:vu b r=some x):b=true/\r=some x:=by
 cases b with
 | true=>exact⟨rfl,h⟩
 | false=>cases h
theorem qn{t:ad}{av:aI}{R:Type}{r:Option (R×List Nat)}{z:t.aj×R}{l:List Nat}(h:xy H t av r=some (z,l)):∃ eF m,(dC t av).run H=some (z.1,eF)/\r=some (z.2,m)/\l=eF++m:=by
 unfold xy at h;grind
theorem LH{t:ad}{av:aI}{R:Type}{r:Option (R×List Nat)}{z:t.aj×R}{l:List Nat}(h:La t av r=some (z,l)):av=.dV t z.1/\r=some (z.2,l):=by
 unfold La at h;grind
theorem LI{b:Nat}{av:aI}{R:Type}{r:Option (R×List Nat)}{z:(Nat×Nat)×R}{l:List Nat}(h:Lb H b av r=some (z,l)) :
  r=some (z.2,l)/\(av=.sub b (H b).gen z.1.1 z.1.2\/(av=.own b (H b).gen/\(H b).body.fi=true/\z.1=(0,(H b).body.len))):=by
 unfold Lb at h;grind
theorem GK{aM:ad}{av:aI}{R:Type}{r:Option (R×List Nat)}{z:(Nat×(List aM.aj->Prop)×List aM.aj×Bool)×R}{l:List Nat}(h:Lc aM av r=some (z,l)) :
  r=some (z.2,l)/\av=.aW z.1.1 aM z.1.2.1 z.1.2.2.1 z.1.2.2.2:=by
 unfold Lc at h;grind
theorem LJ{b:Nat}{av:aI}{R:Type}{r:Option (R×List Nat)}{z:Nat×R}{l:List Nat}(h:Le H b av r=some (z,l)):r=some (z.2,l)/\av=.ik b (H b).gen z.1:=by
 unfold Le at h;grind
theorem LK{av:aI}{R:Type}{r:Option (R×List Nat)}{z:Nat×R}{l:List Nat}(h:Ld av r=some (z,l)):r=some (z.2,l)/\av=.hg z.1:=by
 unfold Ld at h;grind
theorem Td{b off:Nat}{av:aI}(h:Gh H b off av=true):av=.ba b (H b).gen off:=by
 unfold Gh at h;grind
theorem Te{b:Nat}{av:aI}(h:Gi H b av=true):av=.own b (H b).gen:=by
 unfold Gi at h;grind
theorem afp{b:Nat}{av:aI}(h:Lf H b av=true):av=.fJ b (H b).gen:=by
 unfold Lf at h;grind
theorem afq{b:Nat}{av:aI}(h:Lg H b av=true):av=.j6 b (H b).gen:=by
 unfold Lg at h;grind
theorem afr{av:aI}(h:Lh av=true):av=.cx:=by
 unfold Lh at h;grind
theorem afs(ay:sB f H H'){k:FuncId}{fY:z8'}{av:aI}(h:Li H f k fY av=true){v:Value}(af:bA P H κ F w av v):bA P H' (λb=>κ (f b)) F' w (.iC k fY.length (vs db fY)) v:=by
 unfold Li at h;split at h
 ·rename_i k' n c6;simp only[Bool.and_eq_true,beq_iff_eq]at h;obtain⟨⟨rfl,rfl⟩,e⟩:=h;obtain⟨aE,E,U,ah⟩:=af;refine⟨aE,E,U,λi G=>?_⟩;have he:=List.all_eq_true.1 e i (by grind);have af:=ah i G;rw[show fY[i]?=some fY[i] by simp]at he;rw[Td he]at af;have:vs db fY i=.ba fY[i].1 0 fY[i].2:=by simp[vs,hi,List.getD_eq_getElem?_getD,G,db]
  rw[this];exact Tc ay af
 grind
theorem aft(ay:sB f H H'){bs:List Nat}{av:aI}(h:Lj H f bs av=true){v:Value}(af:bA P H κ F w av v):bA P H' (λb=>κ (f b)) F' w (.agg bs.length (vt db bs)) v:=by
 unfold Lj at h;split at h
 ·rename_i n dw;simp only[Bool.and_eq_true,beq_iff_eq]at h;obtain⟨rfl,e⟩:=h;obtain⟨aE,E,U,ah⟩:=af;refine⟨aE,E,U,λi G=>?_⟩;have he:=List.all_eq_true.1 e i (by grind);obtain⟨af,hc⟩:=ah i G;refine⟨?_,hc⟩;rw[show bs[i]?=some bs[i] by simp]at he;rw[Te he]at af;have:vt db bs i=.own bs[i] 0:=by simp[vt,hi,List.getD_eq_getElem?_getD,G,db]
  rw[this];refine⟨⟨Nat.zero_le _,af.1.2⟩,λ_ hc=>?_⟩;obtain⟨aQ,aS,_⟩:=(ay bs[i]).2.2.1 hc;rw[aS];exact af.2 rfl aQ
 grind
theorem xJ(aU:∀ b,cG P H κ F w b)(bo:∀ r,F r->F' r)(ay:sB f H H')(t:bY){av:aI}{R:Type}{r:Option (R×List Nat)}{z:t.cons R}{l:List Nat}(h:t.jc H f av r=some (z,l)) :
  LG P H H' κ f F F' w r l av (t.av db z).1 (t.av db z).2:=by
 cases t with
 | undef=>exact .hI h λ_ _=>by simp only[bY.av,bA]
 | val t=>
  obtain⟨eF,m,ai,rfl,rfl⟩:=qn h;exact⟨m,rfl,λb aa=>List.mem_append_right _ aa,λal v af=>mq aU bo ai al.left af⟩
 | dV t=>
  obtain⟨rfl,rfl⟩:=LH h;exact .hI rfl λv ⟨p,bk,E,U,ah⟩=>⟨p,bk,E,U.mono bo (c8.refl _ _),fg _ bo (c8.refl _ _) ah⟩
 | ba b off=>
  obtain⟨E,U⟩:=kH h;obtain rfl:=Td E;exact .hI U λv af=>Tc ay af
 | own b=>
  obtain⟨E,U⟩:=kH h;obtain rfl:=Te E;refine .hI U λv af=>⟨⟨Nat.zero_le _,af.1.2⟩,λ_ hc=>?_⟩
  obtain⟨aQ,aS,_⟩:=(ay b).2.2.1 hc;simp only[db];rw[aS];exact af.2 rfl aQ
 | sub b=>
  obtain⟨E,U⟩:=LI h;refine .hI E λv af=>?_;rcases U with rfl | ⟨rfl,fb,ah⟩
  ·refine⟨⟨Nat.zero_le _,af.1.2⟩,λ_ hc=>?_⟩;obtain⟨aQ,aS,bN⟩:=(ay b).2.2.1 hc;simp only[db]at aS bN ⊢;rw[aS,bN];exact af.2 rfl aQ
  ·refine⟨⟨Nat.zero_le _,af.1.2⟩,λ_ hc=>?_⟩;obtain⟨aQ,aS,bN⟩:=(ay b).2.2.1 hc;have:=af.2 rfl aQ;simp only[db]at aS bN ⊢;rw[aS,bN,ah];refine⟨⟨Nat.zero_le _,Nat.le_refl _⟩,?_⟩;rw[this];unfold bB.slice;cases ax:(κ (f b)).e_ with
   | true=>exact .inl ⟨ax,rfl⟩
   | false=>exact .inr ⟨ax,(κ (f b)).off,by simp,by simp,λ_=>by simp⟩
 | fJ b=>
  obtain⟨E,U⟩:=kH h;obtain rfl:=afp E;exact .hI U λv af=>⟨⟨Nat.zero_le _,af.1.2⟩,λ_ hc=>af.2 rfl ((ay b).2.2.2.1 hc)⟩
 | j6 b=>
  obtain⟨E,U⟩:=kH h;obtain rfl:=afq E;exact .hI U λv af=>⟨⟨Nat.zero_le _,af.1.2⟩,λ_ hc=>af.2 rfl ((ay b).2.2.2.2.1 hc)⟩
 | cx=>
  obtain⟨E,U⟩:=kH h;obtain rfl:=afr E;exact .hI U λv af=>af
 | iC k fY=>
  obtain⟨E,U⟩:=kH h;exact .hI U λv af=>afs ay E af
 | hJ bs=>
  obtain⟨E,U⟩:=kH h;exact .hI U λv af=>aft ay E af
 | ik b=>
  obtain⟨E,rfl⟩:=LJ h;refine .hI E λv af=>⟨⟨Nat.zero_le _,af.1.2⟩,λ_ hc=>?_⟩
  obtain⟨aQ,aS,bN⟩:=(ay b).2.2.1 hc;have:=af.2 rfl aQ;simp only[db]at aS bN ⊢;rw[aS,bN];exact this
 | aW aM=>
  obtain⟨E,rfl⟩:=GK h;exact .hI E λv af=>af
 | hg=>
  obtain⟨E,rfl⟩:=LK h;exact .hI E λv af=>af
theorem afu(aU:∀ b,cG P H κ F w b)(bo:∀ r,F r->F' r)(ay:sB f H H'):∀ (ts:List bY) {c:Nat->aI} {i:Nat} {R:Type} {r:Option (R×List Nat)} {z:ql ts R} {l:List Nat},zT H f ts c i r=some (z,l)->
  ∃ m,r=some ((pv db ts z).2,m)/\(∀ b∈m,b∈l)/\(iZ H κ F' l->∀ j,j<ts.length->∀ v,bA P H κ F w (c (i+j)) v->bA P H' (λb=>κ (f b)) F' w ((pv db ts z).1.getD j .undef) v):=by
 intro ts;induction ts with
 | nil=>intro c i R r z l h;exact⟨l,h,λ_ aa=>aa,λ_ j aG=>by cases aG⟩
 | cons t ts aL=>
  intro c i R r z l h;obtain⟨m1,E,U,ah⟩:=xJ (F':=F') (H':=H') aU bo ay t h;obtain⟨m2,aQ,aS,fm⟩:=aL E;refine⟨m2,aQ,λb aa=>U b (aS b aa),λal j aG v af=>?_⟩;cases j with
  | zero=>exact ah al v af
  | succ j=>
   have:=fm (λb aa=>al b (U b aa)) j (by grind) v (by grind);simpa [pv]using this
theorem afv(aU:∀ b,cG P H κ F w b)(bo:∀ r,F r->F' r)(ay:sB f H H'):∀ (ts:List (Nat×bY)) {c:Nat->aI} {R:Type} {r:Option (R×List Nat)} {z:oJ ts R} {l:List Nat},xA H f ts c r=some (z,l)->
  ∃ m,r=some ((eD db ts z).2,m)/\(∀ b∈m,b∈l)/\(iZ H κ F' l->∀ i v,bA P H κ F w (c i) v->bA P H' (λb=>κ (f b)) F' w (ft (eD db ts z).1 i) v):=by
 intro ts;induction ts with
 | nil=>intro c R r z l h;exact⟨l,h,λ_ aa=>aa,λ_ _ _ _=>by simp only[eD,ft,bA]⟩
 | cons p ts aL=>
  intro c R r z l h;obtain⟨m1,E,U,ah⟩:=xJ (F':=F') (H':=H') aU bo ay p.2 h;obtain⟨m2,aQ,aS,fm⟩:=aL E;refine⟨m2,aQ,λb aa=>U b (aS b aa),λal i v af=>?_⟩;simp only[eD,ft];split
  ·grind
  ·exact fm (λb aa=>al b (U b aa)) i v af
theorem GL(t:bY){av:aI}{R:Type}{r:Option (R×List Nat)}{z:t.cons R}{l:List Nat}(h:t.jc H f av r=some (z,l)):∃ m,r=some ((t.av db z).2,m)/\∀ b∈m,b∈l:=by
 cases t with
 | undef=>exact⟨l,h,λ_ h=>h⟩
 | val t=>obtain⟨_,m,_,U,ah⟩:=qn h;exact⟨m,U,λb aa=>ah ▸ List.mem_append_right _ aa⟩
 | dV t=>exact⟨l,(LH h).2,λ_ h=>h⟩
 | sub b=>exact⟨l,(LI h).1,λ_ h=>h⟩
 | aW aM=>exact⟨l,(GK h).1,λ_ h=>h⟩
 | hg=>exact⟨l,(LK h).1,λ_ h=>h⟩
 | ik b=>exact⟨l,(LJ h).1,λ_ h=>h⟩
 | ba b off=>exact⟨l,(kH h).2,λ_ h=>h⟩
 | own b=>exact⟨l,(kH h).2,λ_ h=>h⟩
 | fJ b=>exact⟨l,(kH h).2,λ_ h=>h⟩
 | j6 b=>exact⟨l,(kH h).2,λ_ h=>h⟩
 | cx=>exact⟨l,(kH h).2,λ_ h=>h⟩
 | iC k fY=>exact⟨l,(kH h).2,λ_ h=>h⟩
 | hJ bs=>exact⟨l,(kH h).2,λ_ h=>h⟩
theorem afw:∀ (ts:List bY) {c:Nat->aI} {i:Nat} {R:Type} {r:Option (R×List Nat)} {z:ql ts R} {l:List Nat},zT H f ts c i r=some (z,l)->∃ m,r=some ((pv db ts z).2,m)/\∀ b∈m,b∈l:=by
 intro ts;induction ts with
 | nil=>intro c i R r z l h;exact⟨l,h,λ_ h=>h⟩
 | cons t ts aL=>
  intro c i R r z l h;obtain⟨m,E,U⟩:=GL t h;obtain⟨dA,ah,a6⟩:=aL E;exact⟨dA,ah,λb aa=>U b (a6 b aa)⟩
theorem afx:∀ (ts:List (Nat×bY)) {c:Nat->aI} {R:Type} {r:Option (R×List Nat)} {z:oJ ts R} {l:List Nat},xA H f ts c r=some (z,l)->∃ m,r=some ((eD db ts z).2,m)/\∀ b∈m,b∈l:=by
 intro ts;induction ts with
 | nil=>intro c R r z l h;exact⟨l,h,λ_ h=>h⟩
 | cons p ts aL=>
  intro c R r z l h;obtain⟨m,E,U⟩:=GL p.2 h;obtain⟨dA,ah,a6⟩:=aL E;exact⟨dA,ah,λb aa=>U b (a6 b aa)⟩
theorem C2(t:bY){av:aI}{R:Type}{r:Option (R×List Nat)}{z:t.cons R}{l:List Nat}(h:t.jc H f av r=some (z,l))(M:∀ y m,r=some (y,m)->gN H m):gN H l:=by
 cases t with
 | undef=>exact M _ _ h
 | val t=>obtain⟨_,m,E,U,rfl⟩:=qn h;exact (mZ E).append (M _ _ U)
 | dV t=>exact M _ _ (LH h).2
 | sub b=>exact M _ _ (LI h).1
 | aW aM=>exact M _ _ (GK h).1
 | hg=>exact M _ _ (LK h).1
 | ik b=>exact M _ _ (LJ h).1
 | ba b off=>exact M _ _ (kH h).2
 | own b=>exact M _ _ (kH h).2
 | fJ b=>exact M _ _ (kH h).2
 | j6 b=>exact M _ _ (kH h).2
 | cx=>exact M _ _ (kH h).2
 | iC k fY=>exact M _ _ (kH h).2
 | hJ bs=>exact M _ _ (kH h).2
theorem afy:∀ (ts:List bY) {c:Nat->aI} {i:Nat} {R:Type} {r:Option (R×List Nat)} {z:ql ts R} {l:List Nat},zT H f ts c i r=some (z,l)->(∀ y m,r=some (y,m)->gN H m)->gN H l:=by
 intro ts;induction ts with
 | nil=>intro c i R r z l h M;exact M _ _ h
 | cons t ts aL=>intro c i R r z l h M;exact C2 t h λy m hm=>aL hm M
theorem afz:∀ (ts:List (Nat×bY)) {c:Nat->aI} {R:Type} {r:Option (R×List Nat)} {z:oJ ts R} {l:List Nat},xA H f ts c r=some (z,l)->(∀ y m,r=some (y,m)->gN H m)->gN H l:=by
 intro ts;induction ts with
 | nil=>intro c R r z l h M;exact M _ _ h
 | cons p ts aL=>intro c R r z l h M;exact C2 p.2 h λy m hm=>aL hm M
theorem LL{t:ad}{ts:List bY}{iM:bS}{R:Type}{r:Option (R×List Nat)}{z:ql ts R}{l:List Nat}(h:Lk H f t ts iM r=some (z,l)):∃ c,iM=.cells t c/\t.size=ts.length/\zT H f ts c 0 r=some (z,l):=by
 unfold Lk at h;grind
theorem LM{e:ad}{iM:bS}{R:Type}{r:Option (R×List Nat)}{z:List e.aj×R}{l:List Nat}(h:Ll e iM r=some (z,l)):r=some (z.2,l)/\iM=.bh e z.1:=by
 unfold Ll at h;grind
theorem LN{e:ad}{t:bY}{iM:bS}{R:Type}{r:Option (R×List Nat)}{z:(List e.aj×Nat)×t.cons R}{l:List Nat}(h:Lo H f e t iM r=some (z,l)):∃ v,iM=.gp e z.1.1 z.1.2 v/\t.jc H f v r=some (z.2,l):=by
 unfold Lo at h;grind
theorem LO{k v:ad}{iM:bS}{R:Type}{r:Option (R×List Nat)}{z:List (k.aj×v.aj)×R}{l:List Nat}(h:Lm k v iM r=some (z,l)):r=some (z.2,l)/\iM=.mp k v z.1:=by
 unfold Lm at h;grind
theorem LP{k v:ad}{iM:bS}{R:Type}{r:Option (R×List Nat)}{z:(Option (k.aj×v.aj)×List (k.aj×v.aj))×R}{l:List Nat}(h:Ln k v iM r=some (z,l)):r=some (z.2,l)/\iM=.ct k v z.1.1 z.1.2:=by
 unfold Ln at h;grind
theorem LQ{t:ad}{iM:bS}{R:Type}{r:Option (R×List Nat)}{z:t.aj×R}{l:List Nat}(h:Lp H t iM r=some (z,l)):∃ c,iM=.cells t c/\xy H t (.agg t.size c) r=some (z,l):=by
 unfold Lp at h;grind
theorem LR{t:ad}{b:Nat}{R:Type}{r:Option (R×List Nat)}{z:t.aj×R}{l:List Nat}(h:Lq H t b r=some (z,l)):∃ eF m,(dC (.bG t) (.ba b (H b).gen 0)).run H=some (some z.1,eF)/\r=some (z.2,m)/\l=eF++m:=by
 unfold Lq at h;split at h
 ·rename_i x eF ai;split at h
  ·cases h;exact⟨eF,_,ai,rfl,rfl⟩
  ·cases h
 ·cases h
theorem Tf{e:ad}{b:Nat}{xs:List e.aj}{l:List Nat}(h:(dC (.slice e) (.own b (H b).gen)).run H=some (xs,l)):(H b).body=.bh e xs\/(H b).body=.hG e xs:=by
 simp only[dC,ku,ad.eG,if_true,dW,ar.e5,ar.bO]at h;split at h
 ·rename_i a7 ys aa;simp only[Option.map_eq_some_iff,Prod.mk.injEq]at h;obtain⟨z,bj,rfl,_⟩:=h;obtain⟨q7,rfl⟩:=kR bj;grind
 ·rename_i a7 ys aa;simp only[Option.map_eq_some_iff,Prod.mk.injEq]at h;obtain⟨z,bj,rfl,_⟩:=h;obtain⟨q7,rfl⟩:=kR bj;grind
 grind
theorem afA{k v:ad}{b:Nat}{xs:List (k.aj×v.aj)}{l:List Nat}(h:(dC (.map k v) (.fJ b (H b).gen)).run H=some (xs,l)):(H b).body=.mp k v xs\/(H b).body=.jk k v xs:=by
 simp only[dC,ku,ad.eG,if_true,dW,ar.e5,ar.bO]at h;split at h
 ·rename_i k' h9 ys aa;simp only[Option.map_eq_some_iff,Prod.mk.injEq]at h;obtain⟨z,bj,rfl,_⟩:=h;obtain⟨q7,rfl⟩:=kR bj;grind
 ·rename_i k' h9 ys aa;simp only[Option.map_eq_some_iff,Prod.mk.injEq]at h;obtain⟨z,bj,rfl,_⟩:=h;obtain⟨q7,rfl⟩:=kR bj;grind
 grind
theorem afB{t:ad}{b:Nat}{x:Option t.aj}{l:List Nat}(h:(dC (.bG t) (.ba b (H b).gen 0)).run H=some (x,l)):(H b).body.fK=true:=by
 simp only[dC,ku,tC,ar.e5,and_self,if_true]at h;split at h
 ·rename_i aa;rw[aa];rfl
 ·rename_i aa;rw[aa];rfl
 ·cases h
theorem b3.Tg(t:b3){b:Nat}{R:Type}{r:Option (R×List Nat)}{z:t.cons R}{l:List Nat}(h:t.jc H f b r=some (z,l)) :
  (∃ m,r=some ((t.body db z).2,m)/\∀ c∈m,c∈l)/\oM (H b).body (t.body db z).1/\∀ k,(t.body db z).1.b1 k=true->t.CR=true:=by
 cases t with
 | cells t ts=>
  obtain⟨c,e,aD,h⟩:=LL h;refine⟨afw ts h,?_,λ_ _=>rfl⟩;rw[e];exact⟨λ_=>rfl,λh=>(by cases h),λh=>(by cases h),λh=>(by cases h),λ_ _=>rfl⟩
 | bh e=>
  obtain⟨E,U⟩:=LM h;refine⟨⟨l,E,λ_ h=>h⟩,?_,λ_ _=>rfl⟩;rw[U];exact oM.refl _
 | hG e=>
  obtain⟨eF,m,E,U,rfl⟩:=qn h;refine⟨⟨m,U,λ_ h=>List.mem_append_right _ h⟩,?_,λ_ h=>(by cases h)⟩;rcases Tf E with e | e<;>rw[e]
  ·exact⟨λh=>(by cases h),λ_=>⟨rfl,rfl,rfl⟩,λh=>(by cases h),λh=>(by cases h),λ_ h=>(by cases h)⟩
  ·exact oM.refl _
 | mp k v=>
  obtain⟨E,U⟩:=LO h;refine⟨⟨l,E,λ_ h=>h⟩,?_,λ_ _=>rfl⟩;rw[U];exact oM.refl _
 | jk k v=>
  obtain⟨eF,m,E,U,rfl⟩:=qn h;refine⟨⟨m,U,λ_ h=>List.mem_append_right _ h⟩,?_,λ_ h=>(by cases h)⟩;rcases afA E with e | e<;>rw[e]
  ·exact⟨λh=>(by cases h),λh=>(by cases h),λ_=>rfl,λh=>(by cases h),λ_ h=>(by cases h)⟩
  ·exact oM.refl _
 | gg t=>
  obtain⟨c,e,h⟩:=LQ h;obtain⟨eF,m,E,U,rfl⟩:=qn h;refine⟨⟨m,U,λ_ h=>List.mem_append_right _ h⟩,?_,λ_ _=>rfl⟩;rw[e];exact⟨λ_=>rfl,λh=>(by cases h),λh=>(by cases h),λh=>(by cases h),λ_ _=>rfl⟩
 | gL t=>
  obtain⟨eF,m,E,U,rfl⟩:=LR h;refine⟨⟨m,U,λ_ h=>List.mem_append_right _ h⟩,?_,λ_ h=>(by cases h)⟩;exact⟨λ_=>afB E,λh=>(by cases h),λh=>(by cases h),λh=>(by cases h),λ_ h=>(by cases h)⟩
 | ct k v=>
  obtain⟨E,U⟩:=LP h;refine⟨⟨l,E,λ_ h=>h⟩,?_,λ_ _=>rfl⟩;rw[U];exact oM.refl _
 | gp e t=>
  obtain⟨v,az,h⟩:=LN h;refine⟨GL t h,?_,λ_ _=>rfl⟩;rw[az];exact⟨λh=>(by cases h),λ_=>⟨rfl,rfl,rfl⟩,λh=>(by cases h),λh=>(by cases h),λ_ h=>h⟩
theorem b3.C2(t:b3){b:Nat}{R:Type}{r:Option (R×List Nat)}{z:t.cons R}{l:List Nat}(h:t.jc H f b r=some (z,l))(M:∀ y m,r=some (y,m)->gN H m):gN H l:=by
 cases t with
 | cells t ts=>obtain⟨c,e,aD,h⟩:=LL h;exact afy ts h M
 | bh e=>exact M _ _ (LM h).1
 | hG e=>obtain⟨eF,m,E,U,rfl⟩:=qn h;exact (mZ E).append (M _ _ U)
 | mp k v=>exact M _ _ (LO h).1
 | jk k v=>obtain⟨eF,m,E,U,rfl⟩:=qn h;exact (mZ E).append (M _ _ U)
 | gg t=>obtain⟨c,e,h⟩:=LQ h;obtain⟨eF,m,E,U,rfl⟩:=qn h;exact (mZ E).append (M _ _ U)
 | gL t=>obtain⟨eF,m,E,U,rfl⟩:=LR h;exact (mZ E).append (M _ _ U)
 | ct k v=>exact M _ _ (LP h).1
 | gp e t=>obtain⟨v,_,h⟩:=LN h;exact Go.Fer.C2 t h M
theorem b3.afC(aU:∀ b,cG P H κ F w b)(bo:∀ r,F r->F' r)(ay:sB f H H')(t:b3){b:Nat}{R:Type}{r:Option (R×List Nat)}{z:t.cons R}{l:List Nat}(h:t.jc H f b r=some (z,l))(al:iZ H κ F' l) :
  jH P H' (λb=>κ (f b)) F' w (κ b) (t.body db z).1:=by
 have aa:=aU b;unfold cG at aa;cases t with
 | cells t ts=>
  obtain⟨c,e,aD,h⟩:=LL h;rw[e]at aa;obtain⟨cs,T,aQ,aS,bN⟩:=aa;obtain⟨m,_,_,fm⟩:=afu (H':=H') aU bo ay ts h;refine⟨cs,T,aQ,aS,λi G=>⟨?_,(bN i G).2⟩⟩;have:=fm al i (by omega) _ (by rw[Nat.zero_add];exact (bN i G).1);exact this
 | bh e=>
  rw[(LM h).2]at aa;refine⟨aa.1,λax=>?_⟩;obtain⟨cs,T,E,U,ah,a6,bL⟩:=aa.2 ax;exact⟨cs,T,E,U,ah,a6,bL.mono bo (c8.refl _ _)⟩
 | hG e=>
  obtain⟨eF,m,E,U,rfl⟩:=qn h;have vk:=Tf E;have xK:=mq (v:=(κ b).slice (H b).body.len) aU bo E al.left ⟨⟨Nat.le_refl _,by unfold bB.slice;split<;>rfl⟩,λ_ _=>rfl⟩;have:=((dU rfl).1 xK).2;rcases vk with a7 | a7<;>(rw[a7]at this;exact this)
 | mp k v=>
  rw[(LO h).2]at aa;obtain⟨ms,clk,E,U⟩:=aa;exact⟨ms,clk,E,U.mono bo (c8.refl _ _)⟩
 | jk k v=>
  obtain⟨eF,m,E,U,rfl⟩:=qn h;have xK:=mq (v:=.map (some (κ b).ab)) aU bo E al.left ⟨⟨Nat.le_refl _,rfl⟩,λ_ _=>rfl⟩;exact ((dU rfl).1 xK).2
 | gg t=>
  obtain⟨c,e,h⟩:=LQ h;rw[e]at aa;obtain⟨cs,T,aQ,aS,bN⟩:=aa;obtain⟨eF,m,ai,_,rfl⟩:=qn h;have af:bA P H κ F w (.agg t.size c) (.agg cs):=⟨cs.toList,by simp,by omega,λj aG=>by
   simp_all⟩
  have xK:=mq (F':=F') aU bo ai al.left af;have iE:=zh (P:=P) (H:=H') (κ:=λb=>κ (f b)) t xK.2;refine⟨cs,T,aQ,aS,λi G=>⟨?_,(bN i G).2⟩⟩;have:=(iE.kS i (by rw[iE.len];simpa [Value.cells,aS]using G)).1;rw[List.getD_eq_getElem?_getD]at this;rw[Array.getD_eq_getD_getElem?];simpa [Value.cells]using this
 | gL t=>
  obtain⟨eF,m,E,U,rfl⟩:=LR h;have xK:=mq (v:=.pointer (some ⟨(κ b).ab,0,none⟩)) aU bo E al.left ⟨⟨Nat.le_refl _,rfl⟩,λ_ _=>rfl⟩;rcases ((dU rfl).1 xK).2 with⟨_,e⟩ | ⟨p,y,bk,az,aN,ah,a6⟩
  ·cases e
  ·simp only[List.cons.injEq,Value.pointer.injEq,Option.some.injEq,and_true]at az;subst az;cases aN;exact⟨bk,ah,a6⟩
 | ct k v=>
  rw[(LP h).2]at aa;exact w8.mono aa bo (c8.refl _ _) rfl
 | gp e t=>
  obtain⟨v,az,h⟩:=LN h;rw[az]at aa;obtain⟨aY,cs,T,E,U,ah,a6,bL,dv,gl,jj⟩:=aa;obtain⟨m,_,_,fm⟩:=xJ (F':=F') (H':=H') aU bo ay t h;refine⟨aY,cs,T,E,U,ah,a6,bL,λj aG qY=>?_,fm al _ gl,jj⟩;obtain⟨bk,d1,d2⟩:=dv j aG qY;exact⟨bk,d1,fg e bo (c8.refl _ _) d2⟩
theorem afD:∀ (l:List (Nat×b3)) {x:pt l} {m:List Nat},xz H f l=some (x,m)->∀ b,eS (hk db l x) b=⟨0,.fD⟩\/
  ∃ iM,eS (hk db l x) b=⟨0,iM⟩/\oM (H (f b)).body iM/\∃ t,(b,t)∈l/\∀ k,iM.b1 k=true->t.CR=true:=by
 intro l;induction l with
 | nil=>intro x m _ b;exact .inl rfl
 | cons q l aL=>
  intro x m h b;obtain⟨dr,dI⟩:=q;simp only[xz]at h;obtain⟨⟨dA,E,U⟩,ah,a6⟩:=b3.Tg dI h;by_cases e:b=dr
  ·subst e;exact .inr ⟨_,by simp only[hk,eS,if_true],ah,dI,by simp,a6⟩
  ·rcases aL E b with k | ⟨iM,aQ,aS,t,bN,fm⟩
   ·exact .inl (by simpa [hk,eS,e]using k)
   ·exact .inr ⟨iM,by simpa [hk,eS,e]using aQ,aS,t,List.mem_cons_of_mem _ bN,fm⟩
theorem afE:∀ (l:List (Nat×b3)) {x:pt l} {m:List Nat},xz H f l=some (x,m)->gN H m:=by
 intro l;induction l with
 | nil=>intro x m h;cases h;exact .nil H
 | cons q l aL=>intro x m h;exact b3.C2 q.2 h λy m hm=>aL hm
theorem afF(aU:∀ b,cG P H κ F w b)(bo:∀ r,F r->F' r)(ay:sB f H H'):∀ (l:List (Nat×b3)) {x:pt l} {m:List Nat},xz H f l=some (x,m)->iZ H κ F' m->∀ b,jH P H' (λb=>κ (f b)) F' w (κ (f b)) (eS (hk db l x) b).body:=by
 intro l;induction l with
 | nil=>intro x m _ _ b;trivial
 | cons q l aL=>
  intro x m h hm b;obtain⟨dr,dI⟩:=q;simp only[xz]at h;obtain⟨⟨dA,E,U⟩,_⟩:=b3.Tg dI h;by_cases e:b=dr
  ·subst e;simp only[hk,eS,if_true];exact b3.afC aU bo ay dI h hm
  ·have:=aL E (λc hc=>hm c (U c hc)) b;simpa [hk,eS,e]using this
theorem afG:∀ (ts:List (Nat×bY)) {c:Nat->aI} {R:Type} {r:Option (R×List Nat)} {z:oJ ts R} {l:List Nat},xA H f ts c r=some (z,l)->∀ {i dJ aM L n st},ft (eD db ts z).1 i=.aW dJ aM L n st->c i=.aW dJ aM L n st:=by
 intro ts;induction ts with
 | nil=>intro c R r z l _ i dJ aM L n st e;cases e
 | cons p ts aL=>
  intro c R r z l h i dJ aM L n st e;obtain⟨jN,t⟩:=p;simp only[xA]at h;obtain⟨m,E,_⟩:=GL t h;simp only[eD,ft]at e;split at e
  ·rename_i afH;subst afH;cases t with
   | aW kE=>
    obtain⟨_,ah⟩:=GK h;rw[ah];exact e
   | _=>cases e
  grind
end
structure GM(C:b_)(s:aC)(a:Act)(w:World)(κ:Nat->bB)(f:Nat->Nat)(F':Nat->Prop)(sh:dK)(D:sh.aj)(bV:List Nat):Prop where
 bU:∀ i,bA C.P (sh.st D).ab (λb=>κ (f b)) F' w ((sh.st D).aA i) (a.tmps.getD i Go.undef)
 bD:∀ b,cG C.P (sh.st D).ab (λb=>κ (f b)) F' w b
 b1:∀ b,((sh.st D).ab b).body.b1 (κ (f b))=true->f b ∉ bV/\(s.ab (f b)).body.b1 (κ (f b))=true/\b∈sh.oK
 z8:sB f s.ab (sh.st D).ab
 aW:∀ l aM L n st,(sh.st D).aA b5=.aW l aM L n st->s.aA b5=.aW l aM L n st
theorem dK.Th{C:b_}{sh:dK}{f:Nat->Nat}{s:aC}{a:Act}{w:World}{κ:Nat->bB}{F:Nat->Prop}{D:sh.aj}{bV:List Nat}(h:sh.zU f s=some (D,bV))(M:bm C s a w κ F) :
  ∃ F',(∀ r,F r->F' r)/\bm C (s.cB bV) a w κ F'/\GM C s a w κ f F' sh D bV:=by
 unfold dK.zU at h;split at h
 ·rename_i iL axR oH;split at h
  ·rename_i fb;cases h;obtain⟨m,E,hm⟩:=afx sh.bU oH;have lX:gN s.ab bV:=afz sh.bU oH λy m hm=>afE sh.bD hm;obtain⟨F',f1,bb,f2⟩:=bm.lp lX M;have Ti:=afD sh.bD E;have ua:sB f s.ab (sh.st D).ab:=by
    intro b;show (eS (hk db sh.bD (eD db sh.bU D).2) b).gen=0/\oM (s.ab (f b)).body (eS (hk db sh.bD (eD db sh.bU D).2) b).body;rcases Ti b with e | ⟨iM,e,k,_⟩
    ·rw[e];exact⟨rfl,oM.fD _⟩
    grind
   obtain⟨m2,_,_,afI⟩:=afv (F':=F') (w:=w) M.bD f1 ua sh.bU oH;refine⟨F',f1,bb,{ bU:=λi=>afI f2 i _ (M.bU i),bD:=λb=>?_,b1:=λb aa=>?_,z8:=ua,aW:=λl aM L n st e=>afG sh.bU oH e }⟩
   ·exact afF M.bD f1 ua sh.bD E (λc hc=>f2 c (hm c hc)) b
   ·have ak:=(ua b).2.2.2.2.2 _ aa;rcases Ti b with e | ⟨iM,e,_,t,aF,axS⟩
    ·have e:(sh.st D).ab b=_:=e;rw[e]at aa;cases aa
    ·have e:(sh.st D).ab b=_:=e;rw[e]at aa;have bc:b∈sh.oK:=List.mem_filterMap.2 ⟨(b,t),aF,by grind⟩;grind
  grind
 grind
theorem GM.xL{C:b_}{s:aC}{a:Act}{w:World}{κ:Nat->bB}{f:Nat->Nat}{F':Nat->Prop}{sh:dK}{D:sh.aj}{bV:List Nat}(h:GM C s a w κ f F' sh D bV){b:Nat}(aa:((sh.st D).ab b).body.b1 (κ (f b))=true) :
  ((s.cB bV).ab (f b)).body.b1 (κ (f b))=true:=by
 obtain⟨E,U,_⟩:=h.b1 b aa;simp only[aC.cB,if_neg E];exact U
theorem LS{C:b_}{s:aC}{a:Act}{w:World}{κ:Nat->bB}{F:Nat->Prop}(M:bm C s a w κ F){b:Nat}{e:ad} :
  bm C (s.cz b ⟨(s.ab b).gen+1,.bh e []⟩) a w (λi=>if i=b then ⟨0,0,0,true⟩ else κ i) F:=
 M.Cx (k:=⟨0,0,0,true⟩) (Nat.lt_succ_self _) (.inl rfl) (Nat.le_refl _) (λ_ _=>rfl) (λh=>by cases h) (de.refl _) λ_ _=>⟨λ_=>rfl,λh=>by cases h⟩
theorem afJ{C:b_}{s:aC}{a:Act}{w:World}{κ:Nat->bB}{F:Nat->Prop}(M:bm C s a w κ F){i b be g':Nat}(aD:s.aA i=.own be g'):∃ κ',bm C (Ls s i b be g') a w κ' F:=by
 unfold Ls;split
 ·rename_i e xs au bT;obtain⟨eQ,rfl⟩:=of_decide_eq_true au;generalize m_:(λj=>if j=b then (⟨(s.ab b).gen+1,.bh e xs⟩:bK) else if j=be then ⟨(s.ab be).gen+1,.fD⟩ else s.ab j)=H';generalize iN:(λj=>if j=b then κ be else κ j)=κ';have E:H' b=⟨(s.ab b).gen+1,.bh e xs⟩:=by grind
  have U:H' be=⟨(s.ab be).gen+1,.fD⟩:=by grind
  have ah:∀ j,j≠b->j≠be->H' j=s.ab j:=λj aQ aS=>by grind
  have aQ:κ' b=κ be:=by grind
  have bN:∀ j,j≠b->κ' j=κ j:=λj k=>by grind
  have al:fs s.ab κ H' κ':=by
   rw[B1];intro j;by_cases az:j=b
   ·subst az;rw[E];exact⟨Nat.le_succ _,λe=>absurd e (Nat.ne_of_lt (Nat.lt_succ_self _))⟩
   ·by_cases aN:j=be
    ·subst aN;rw[U];exact⟨Nat.le_succ _,λe=>absurd e (Nat.ne_of_lt (Nat.lt_succ_self _))⟩
    ·rw[ah j az aN,bN j az];exact p_.refl _ _
  have gr:∀ j,(H' j).body.b1 (κ' j)=true->(j=b/\(s.ab be).body.b1 (κ be)=true)\/(j≠b/\j≠be/\(s.ab j).body.b1 (κ j)=true):=λj aG=>by
   by_cases az:j=b
   ·grind
   ·by_cases aN:j=be
    ·subst aN;rw[U]at aG;cases aG
    grind
  have h:=M.move (H':=H') (κ':=κ') (F':=F) (w':=w) al (λ_ h=>h) (λ_ h=>.inl h) (Nat.le_refl _) (λ_ _ _=>rfl) (de.refl w)
   (λ_ j=>by
    by_cases az:j=b
    ·subst az;have aU:=M.bD be;unfold cG at aU ⊢;rw[bT]at aU;rw[E,aQ];exact aU
    ·by_cases aN:j=be
     ·subst aN;unfold cG;rw[U];trivial
     ·exact cG.ll (M.bD j) al (λ_ h=>h) (c8.refl _ _) (by grind) (bN j az) λ_=>rfl)
   (λj aG=>by
    rcases gr j aG with⟨rfl,h⟩ | ⟨az,_,h⟩
    ·rw[aQ];have:=M.own be h;grind
    ·rw[bN j az];have:=M.own j h;grind)
   (λj kc aG fV e=>by
    rcases gr j aG with⟨rfl,h⟩ | ⟨az,aN,h⟩<;>rcases gr kc fV with⟨rfl,dw⟩ | ⟨Tj,afK,dw⟩
    ·rfl
    ·rw[aQ,bN kc Tj]at e;exact absurd (M.inj be kc h dw e).symm afK
    ·rw[aQ,bN j az]at e;exact absurd (M.inj j be h dw e) aN
    ·rw[bN j az,bN kc Tj]at e;exact M.inj j kc h dw e)
   M.dd
   (λj _ aG=>by
    by_cases az:j=b
    ·subst az;rw[E]at aG;rcases aG with aG | aG<;>cases aG
    ·by_cases aN:j=be
     ·subst aN;rw[U]at aG;rcases aG with aG | aG<;>cases aG
     grind)
  refine⟨κ',{ h with bU:=λj=>?_,dH:=h.dH,dfr:=h.dfr,bD:=h.bD,eN:=λl aM L n st a7=>?_ }⟩
  ·show bA C.P _ _ F w (if j=i then .own b ((s.ab b).gen+1) else s.aA j) _;split
   ·rename_i e;subst e;have af:=M.bU j;rw[aD]at af;have iq:=af.2 rfl (by rw[bT];rfl);rw[bT]at iq;exact⟨⟨by grind,af.1.2⟩,λ_ _=>by grind⟩
   ·exact h.bU j
  ·have a7:(if b5=i then .own b ((s.ab b).gen+1) else s.aA b5)=.aW l aM L n st:=a7;split at a7
   ·cases a7
   ·exact h.eN l aM L n st a7
 grind
theorem afL{C:b_}{bs:List (Nat×b3)}{s:aC}{a:Act}{w:World}{κ:Nat->bB}{F:Nat->Prop}(M:bm C s a w κ F)(i b:Nat):∃ κ',bm C (Lt bs s i b) a w κ' F:=by
 unfold Lt;split
 ·rename_i e aD _;have h:=LS M (b:=b) (e:=e);refine⟨_,{ h with bU:=λj=>?_,dH:=h.dH,dfr:=h.dfr,bD:=h.bD,eN:=λl aM L n st a7=>?_ }⟩
  ·show bA C.P _ _ F w (if j=i then .own b ((s.ab b).gen+1) else s.aA j) _;split
   ·rename_i e;subst e;have af:=M.bU j;rw[aD]at af;have af:a.tmps.getD j undef=.slice none 0 0:=af;rw[af];exact⟨⟨by simp[aC.cz],rfl⟩,λ_ _=>by simp[bB.slice]⟩
   ·exact h.bU j
  ·have a7:(if b5=i then .own b ((s.ab b).gen+1) else s.aA b5)=.aW l aM L n st:=a7;split at a7
   ·cases a7
   ·exact h.eN l aM L n st a7
 ·rename_i aD _;exact afJ M aD
 grind
theorem afM{C:b_}{bs:List (Nat×b3)}{s:aC}{a:Act}{w:World}{κ:Nat->bB}{F:Nat->Prop}(M:bm C s a w κ F)(c j b:Nat):∃ κ',bm C (Lu bs s c j b) a w κ' F:=by
 unfold Lu;split
 ·rename_i t f hc;split
  ·rename_i e ao au _;have Tk:c≠b:=λe=>by grind
   have h:=LS M (b:=b) (e:=e);have iH:(s.cz b ⟨(s.ab b).gen+1,.bh e []⟩).ab c=s.ab c:=by simp[aC.cz,Tk]
   have aU:=h.bD c;unfold cG at aU;rw[iH,hc]at aU;obtain⟨cs,T,E,U,ah⟩:=aU;refine⟨_,h.pe (w':=w) (b:=c) (x:=⟨(s.ab c).gen,.cells t λq=>if q=j then .own b ((s.ab b).gen+1) else f q⟩) (by rw[iH,hc];rfl) rfl
    (qZ (by rw[iH]) (λ_=>by rw[iH,hc];rfl) (λh=>by cases h) (λh=>by cases h) (λh=>by cases h)) (λ_=>by rw[iH,hc];rfl) (λh=>by cases h) (λ_ _=>rfl) rfl (de.refl _) λH m_ al _=>?_⟩
   refine⟨cs,T,E,U,λq bt=>⟨?_,(ah q bt).2⟩⟩;show bA C.P H _ F w (if q=j then .own b ((s.ab b).gen+1) else f q) _;split
   ·rename_i eq;subst eq;have af:=(ah q bt).1;rw[ao]at af;have af:cs.getD q undef=.slice none 0 0:=af;rw[af];have afN:H b=⟨(s.ab b).gen+1,.bh e []⟩:=by rw[m_];simp[aC.cz,Ne.symm Tk]
    exact⟨⟨by grind,rfl⟩,λ_ _=>by rw[afN];simp[bB.slice]⟩
   ·exact bA.later al (λ_ h=>h) (c8.refl _ _) (ah q bt).1
  grind
 grind
theorem afO{C:b_}(sh:dK){s:aC}{a:Act}{w:World}{κ:Nat->bB}{F:Nat->Prop}(M:bm C s a w κ F):∃ κ',bm C (sh.Gm s) a w κ' F:=by
 have E:∀ (l:List (Nat×bY)) (s:aC) (κ:Nat->bB),bm C s a w κ F->∃ κ',bm C (Gj sh.bD l s) a w κ' F:=by
  intro l;induction l with
  | nil=>intro s κ h;exact⟨κ,h⟩
  | cons p l aL=>
   intro s κ h;simp only[Gj];split
   ·obtain⟨κ',dw⟩:=afL (bs:=sh.bD) h p.1 _;exact aL _ _ dw
   grind
 have U:∀ (c:Nat) (l:List bY) (j:Nat) (s:aC) (κ:Nat->bB),bm C s a w κ F->∃ κ',bm C (Gk sh.bD c l j s) a w κ' F:=by
  intro c l;induction l with
  | nil=>intro j s κ h;exact⟨κ,h⟩
  | cons t l aL=>
   intro j s κ h;simp only[Gk];split
   ·obtain⟨κ',dw⟩:=afM (bs:=sh.bD) h c j _;exact aL _ _ _ dw
   ·exact aL _ _ _ h
 have ah:∀ (l:List (Nat×b3)) (s:aC) (κ:Nat->bB),bm C s a w κ F->∃ κ',bm C (Gl sh.bD l s) a w κ' F:=by
  intro l;induction l with
  | nil=>intro s κ h;exact⟨κ,h⟩
  | cons p l aL=>
   intro s κ h;simp only[Gl];split
   ·obtain⟨κ',dw⟩:=U p.1 _ 0 s κ h;exact aL _ _ dw
   grind
 obtain⟨afP,gP⟩:=E sh.bU s κ M;exact ah sh.bD _ _ gP
theorem Tl:∀ (l:List (Nat×b3)) (x:pt l) (b:Nat),(eS (hk db l x) b).body.fi=true->∃ q∈l,q.1=b/\q.2.SX=true
 | [],_,_,h=>by cases h
 | p::l,x,b,h=>by
  simp only[hk,eS]at h;by_cases e:b=p.1
  ·rw[if_pos e]at h;refine⟨p,by simp,e.symm,?_⟩;obtain⟨jN,t⟩:=p;cases t<;>first | rfl | cases h
  ·rw[if_neg e]at h;obtain⟨q,E,U⟩:=Tl l _ b h;grind
theorem dK.z_{C:b_}{sh:dK}{s:aC}{a:Act}{w:World}{D:sh.aj}{κ:Nat->bB}{F:Nat->Prop}(h:sh.jc s=some D)(M:bm C s a w κ F):∃ κ' F',(∀ r,F r->F' r)/\bm C (sh.st D) a w κ' F':=by
  obtain⟨κ,M⟩:=afO sh M;unfold dK.jc at h;generalize sh.Gm s=s at h M;split at h;case h_2=>cases h
  rename_i afQ;simp only[Option.map_eq_some_iff]at h;obtain⟨⟨iL,bV⟩,h,rfl⟩:=h;obtain⟨F',f1,bb,au⟩:=dK.Th h M;have gr:=λb aa=>au.xL (b:=b) aa;exact⟨κ, F', f1, { bb with
    dH:=bb.dH,dfr:=bb.dfr,bU:=au.bU,bD:=au.bD,own:=λb aa=>bb.own b (gr b aa),inj:=λb be aa cY=>bb.inj b be (gr b aa) (gr be cY)
    jI:=λb r M hc=>bb.jI b r M (hc.imp (λhc=>by
      have aY:=(au.z8 b).2.1 hc;simp only[aC.cB];split
      · rcases zw s.ab (s.ab b) with e | ⟨_,_,ai,_⟩ | ⟨_,_,_,ai,_⟩ | ⟨_,_,_,_,_,_,e⟩
        · grind
        · rw[ai]at aY;cases aY
        · rw[ai]at aY;cases aY
        · rw[e];rfl
      omega) (λhc=>by
      have aY:=(au.z8 b).2.2.2.1 hc;simp only[aC.cB];split
      · rcases zw s.ab (s.ab b) with e | ⟨_,_,ai,_⟩ | ⟨_,_,_,_,e⟩ | ⟨_,_,_,_,ai,_,_⟩
        · grind
        · rw[ai]at aY;cases aY
        · rw[e];rfl
        · rw[ai]at aY;cases aY
      omega))
    kt:=λb k ak _ a_=>by
      obtain⟨b6,a2,_⟩:=(au.z8 b).2.2.1 a_;have ay:(s.ab b).gen=0:=by
        rcases Tl sh.bD (eD db sh.bU iL).2 b a_ with⟨q,bt,rfl,jn⟩
        have:=List.all_eq_true.1 afQ q bt;rw[jn]at this;have F7:=M.j7 _ k ak;grind
      obtain⟨aQ,aS⟩:=M.kt b k ak ay b6;grind
    eN:=λl aM L n st e=>by
      obtain⟨E,U,Y,ah,a6,bL⟩:=bb.eN l aM L n st (au.aW l aM L n st e);grind }⟩
theorem dK.xJ{C:b_}{sh:dK}{s:aC}{a:Act}{w:World}{D:sh.aj}(h:sh.jc s=some D)(M:cv C s a w):cv C (sh.st D) a w:=by
 obtain⟨κ,F,M⟩:=M;obtain⟨κ',F',_,bb⟩:=dK.z_ h M;exact⟨κ',F',bb⟩
end Go.Fer
namespace Go.Fer
open Go.RowKit
def afR(C:b_)(o:Oper)(s:aC)(cc:h0):Prop:=
 ∀ (a:Act) (w:World) (Q:Exit->Act->World->Prop) (K:Act->World->Prop),cv C s a w->cc.ca->A.cy cc.m (λy=>∀ a' w',cv C (cc.st y) a' w'->K a' w')->o.wpIn (dS C.r) 0 C.P a w K Q
def afS(C:b_)(o:Oper)(s:aC)(cc:h0):Prop:=
 ∀ gs,cc.CT=some gs->(∀ y a w,cv C (cc.st y) a w->cv C (gs true y) a w)/\∀ a w,cv C s a w->cv C (gs false cc.d) (a.put o.dst Go.undef) w
structure qo(C:b_)(o:Oper)(s:aC)(cc:h0):Prop where
 prog:afR C o s cc
 axT:afS C o s cc
 axU:re (a8 C.aP s.aA) o->cc.ca
theorem cv.LU{C:b_}{s:aC}{d:Option Nat}{av av':aI}{a:Act}{w:World}(h:cv C (s.set d av) a w)
  (au:∀ i,d=some i->i<C.nt) (af:∀ κ F v,bA C.P s.ab κ F w av v->bA C.P s.ab κ F w av' v):cv C (s.set d av') a w:=by
 cases d with
 | none=>exact h
 | some d=>
  obtain⟨κ,F,h⟩:=h;have ax:=h.gq;have w_:=au d rfl;have aF:b5≠d:=by unfold b5 eT at *;omega
  refine⟨κ,F,{ h with bU:=λi=>?_,dH:=h.dH,dfr:=h.dfr,bD:=h.bD,eN:=λl aM L n st e=>h.eN l aM L n st ?_ }⟩
  ·have G:=h.bU i;simp only[aC.set]at G ⊢;grind
  ·simp only[aC.set,if_neg aF]at e ⊢;exact e
section
variable {C:b_} {T:Nat->ad} {bf:Nat->Option aO} {o:Oper} {s:aC}
theorem C3{args:List Operand}(aa:re (a8 C.aP s.aA) o)(a_:∀ x∈args,x∈o.op.operands.toList):jM (args.map (a8 C.aP s.aA)):=
 CJ λv af=>by
  simp only[List.mem_map]at af;obtain⟨p,aq,rfl⟩:=af;exact aa p (a_ p aq)
theorem Tm(bg:∀ i,o.dst=some i->i<C.nt){aW:ad}{bV:List Nat}(lX:gN s.ab bV){d:aW.aj} :
  (∀ (y:aW.aj) a w,cv C (ri s o aW bV (q0 aW y)) a w->cv C (ri s o aW bV (.hF true (q0 aW y))) a w)/\∀ a w,cv C s a w->cv C (ri s o aW bV (.hF false (q0 aW d))) (a.put o.dst Go.undef) w:=by
 refine⟨λy a w h=>cv.LU h bg λκ F v af=>⟨λ_=>af,λh=>(by cases h)⟩,λa w h=>?_⟩;obtain⟨κ,F,M⟩:=h;obtain⟨F',_,bb,_⟩:=bm.lp lX M;unfold ri;split
 ·exact⟨κ,F,M.set bg ⟨λh=>(by cases h),λ_=>rfl⟩⟩
 ·exact⟨κ,F',bb.set bg ⟨λh=>(by cases h),λ_=>rfl⟩⟩
theorem afT(bg:∀ i,o.dst=some i->i<C.nt){k:Nat}{args:Array Operand}{dp:Array TypeId}(ag:o.op=.call { callee:=.value (.func k),args:=args,argTypes:=dp }){dx:hK}(ao:h8 C.P k dx.ts dx.aW dx.sh){cc:h0}
  (h:CU C.aP s o args.toList dx=some cc):qo C o s cc:=by
 unfold CU at h;split at h
 ·rename_i x bV ai;cases h;refine⟨λa w Q K M bc hm=>?_,λgs oN=>?_,λaa=>C3 aa λx ai=>by rw[ag];simp[Op.operands,Call.operands];simp_all⟩
  ·obtain⟨κ,F,M⟩:=M;exact Sl M ao bg ag bc ai hm.1 λy w' aT v ke=>hm.2 y aT _ _ ke
  ·cases oN;exact Tm bg (qi _ ai)
 grind
theorem afU(bg:∀ i,o.dst=some i->i<C.nt){k:Nat}{args:Array Operand}{dp:Array TypeId}(ag:o.op=.call { callee:=.value (.func k),args:=args,argTypes:=dp }){dx:hK}(ao:h8 C.P k dx.ts dx.aW dx.sh)(C4:Rt C.P k dx.ts dx.aW dx.sh){cc:h0}
  (h:Gs C.aP s o args.toList dx=some cc):qo C o s cc:=by
 unfold Gs at h;split at h
 ·rename_i x bV ai;cases h;refine⟨λa w Q K M bc hm=>?_,λgs oN=>(by grind),λaa=>C3 aa λx ai=>by rw[ag];simp[Op.operands,Call.operands];simp_all⟩;obtain⟨κ,F,M⟩:=M;obtain⟨args⟩:=args;have c_:(execOp a.eval o).run C.P w=.ok (.enter k (args.map a.eval).toArray) w:=by
   simp only[execOp,ag,Sem.run_bind,resolve,Act.eval,Deferred.ofValue,Sem.run_pure,Result.andThen_ok,invoke];have:=ao.enter (args.map a.eval).toArray w;grind
  obtain⟨F',f1,bb,f2⟩:=bm.lp (qi _ ai) M;have dX:fr C.P dx.ts F' w (args.map a.eval) x:=by
   refine vo M.bD f1 dx.ts ai f2 (by simp) λi G dM=>?_;simp only[List.getElem_map];have ds:i<args.length:=by grind
   have E:=sd bc i (by grind);have az:(args.map (a8 C.aP s.aA)).getD i .undef=a8 C.aP s.aA args[i]:=by grind
   rw[show (List.map (a8 C.aP s.aA) (⟨args⟩:Array Operand).toList)=args.map (a8 C.aP s.aA) from rfl,az]at E;exact pg (j' M args[i]) E
  refine CD (by grind) c_ (C4.iY F' w _ x bb.dd bb.iD dX hm.1) λe w' ⟨v,y,he,aT,gv,aa⟩=>⟨v,he,hm.2 y aT _ _ ⟨κ,_,(M.grow aa).set bg (CC ?_)⟩⟩
  obtain⟨aE,dr,dI,oF⟩:=gv;exact⟨aE,dr,dI,fg _ (λr M=>.inr M) (c8.refl _ _) oF⟩
 grind
theorem afV(bg:∀ i,o.dst=some i->i<C.nt){t:Nat}{args:Array Operand}{dp:Array TypeId}(ag:o.op=.call { callee:=.value (.tmp t),args:=args,argTypes:=dp }){cc:h0}
  (h:CV C.aP s o t args.toList=some cc):qo C o s cc:=by
 unfold CV at h;split at h
 ·rename_i ca aM b f hu;split at h
  ·rename_i x bV ai;cases h;obtain⟨args⟩:=args;refine⟨λa w Q K M bc hm=>?_,λgs oN=>?_,λaa=>⟨?_,C3 aa λx ai=>by rw[ag];simp[Op.operands,Call.operands];simp_all⟩⟩
   ·obtain⟨κ,F,M⟩:=M;obtain⟨F',f1,bb,f2⟩:=bm.lp (qi _ ai) M;have dX:fr C.P aM F' w (args.map a.eval) x:=by
     refine vo M.bD f1 aM ai f2 (by simp) λi G dM=>?_;simp only[List.getElem_map];have ds:i<args.length:=by grind
     have E:=sd bc.2 i (by grind);have az:(args.map (a8 C.aP s.aA)).getD i .undef=a8 C.aP s.aA args[i]:=by grind
     rw[show (List.map (a8 C.aP s.aA) (⟨args⟩:Array Operand).toList)=args.map (a8 C.aP s.aA) from rfl,az]at E;exact pg (j' M args[i]) E
    have GN:bA C.P s.ab κ F w (use (a8 C.aP s.aA (.tmp t))).2 (a.eval (.tmp t)):=cQ M (.tmp t) hu bc.1 |> λh=>by
     have e:use (a8 C.aP s.aA (.tmp t))=(ca,.val (.fn aM b) f):=hu;grind
    have e:use (a8 C.aP s.aA (.tmp t))=(ca,.val (.fn aM b) f):=hu;rw[e]at GN;obtain⟨_,u,xM,_,tv⟩:=(dU rfl).1 GN;have xM:a.eval (.tmp t)=u:=(List.cons.inj xM).1;obtain⟨g,c6,ay,sC,LV⟩:=tv F' w f1 (c8.refl _ _) bb.dd bb.iD (args.map a.eval) x dX.1 dX.2 hm.1;have c_:(execOp a.eval o).run C.P w=.ok (.enter g ((args.map a.eval).toArray++c6)) w:=by
     have af:a.eval (.tmp t)=.func (.func g) #[] c6:=xM.trans ay;simp only[execOp,ag,Sem.run_bind,resolve,af,Deferred.ofValue,Sem.run_pure,Result.andThen_ok,invoke];grind
    refine CD (by grind) c_ LV λe w' ⟨v,y,aE,he,aT,E,U,ah,aa⟩=>⟨v,he,hm.2 y aT _ _ ?_⟩
    have gv:tz C.P b (u9 F' w w') w' v y:=⟨aE,E,U,ah⟩
    unfold ri;by_cases aq:b.pure=true
    ·rw[if_pos aq];have ay:=M.grow aa;refine⟨κ,_,ay.set bg (CC ?_)⟩;exact⟨aE,E,Sj aq ⟨U,ah⟩⟩
    ·rw[if_neg aq];have ay:=bb.grow aa;exact⟨κ,_,ay.set bg (CC gv)⟩
   ·cases oN;exact Tm bg (qi _ ai)
   ·have:=aa (.tmp t) (by rw[ag];simp[Op.operands,Call.operands]);have e:use (a8 C.aP s.aA (.tmp t))=(ca,.val (.fn aM b) f):=hu;grind
  grind
 grind
theorem afW(aV:dT C.P T)(bg:∀ i,o.dst=some i->i<C.nt){ty:TypeId}{x:Operand}(ag:o.op=.range ty x){cc:h0}(h:Gw C.aP T s o ty x=some cc):qo C o s cc:=by
 unfold Gw at h;split at h
 ·rename_i k v d aF au;split at h;rename_i ca av hu;split at h
  ·rename_i es bV pk;split at h
   ·cases h
   ·rename_i tP;cases h;have tP:d ∉ bV:=by grind
    obtain⟨i,j,G,_,_⟩:=(aV.cb aF (by simp)).mp;refine⟨λa w Q K M bc hm=>?_,λgs oN=>(by grind),λaa=>re.use aa (by rw[ag];simp[Op.operands]) hu⟩;obtain⟨κ,F,M⟩:=M;obtain⟨F',f1,bb,f2⟩:=bm.lp (mZ pk) M;have af:=cQ M x hu bc;have nW:=((dU rfl).1 (mq M.bD f1 pk f2 af)).2;have iN:=hm.2 () rfl;have po:(s.cB bV).ab d=s.ab d:=by simp only[aC.cB];grind
    have fin:∀ (ct:Obj),(∀ w',w'=w.alloc ct->w8 C.P k v F' w' w.heap.size none es)->(execOp a.eval o).run C.P w=.ok (.value (.pointer (some ⟨w.heap.size,0,none⟩))) (w.alloc ct)->o.wpIn (dS C.r) 0 C.P a w K Q:=by
     intro ct hit c_;have E:=bb.alloc (b:=d) (x:=⟨(s.ab d).gen+1,.ct k v none es⟩) (M.gY (bg d au)) (by grind) (o:=ct) (k:=⟨w.heap.size,0,0,false⟩) rfl λH κ' _ _ _=>hit _ rfl;refine hy (by grind) c_ (iN _ _ ⟨_,F',bm.set (s:=(s.cB bV).cz d _) E bg ⟨⟨by simp[aC.cz],rfl⟩,λ_ _=>by simp⟩⟩)
    rcases nW with⟨az,rfl⟩ | ⟨r,ms,clk,az,m1,m2,m3,m4,m5,m6⟩
    ·have ai:a.eval x=.map none:=(List.cons.inj az).1;refine fin (.mapIter none 0 #[] 0) (λw' hw=>.inl ⟨by rw[hw];exact qa _ _,rfl,rfl⟩) ?_;simp[execOp,ag,Instr.range,dD G,ai]
    ·have ai:a.eval x=.map (some r):=(List.cons.inj az).1;refine fin (.mapIter (some r) clk #[] clk) (λw' hw=>.inr ⟨r,ms,clk,#[],m1,?_,by rw[hw];exact qa _ _,λi G=>(m5 i (by omega) G).2.2.2.2,m6,?_,λc hc=>by cases hc⟩) ?_
     ·rw[hw,pd _ _ (bb.dd r m1)];exact m2
     ·refine⟨List.range ms.size,by grind,List.nodup_range,λi=>by simp,λj aG fV=>?_⟩;have xo:j<ms.size:=by omega
      obtain⟨aQ,aS,bN,fm,_⟩:=m5 j fV xo;refine⟨by grind,?_⟩;simp only[List.getElem_range];have he:c8 F' w w':=by rw[hw];exact c8.alloc bb.dd _
      exact za.mono ⟨aQ,aS,bN,fm⟩ (λ_ h=>h) he
     ·have eX:(getObj r).run C.P w=.ok (.map ms clk) w:=by simp[getObj,Sem.run,m2]
      simp[execOp,ag,Instr.range,dD G,ai,eX]
  grind
 grind
theorem afX(bg:∀ i,o.dst=some i->i<C.nt){x:Operand}(ag:o.op=.entry x){cc:h0}(h:Gz C.aP s o x=some cc):qo C o s cc:=by
 unfold Gz at h;split at h
 ·rename_i b g ai;split at h
  ·rename_i ay;split at h
   ·rename_i k v c cj aa;cases h;refine⟨λa w Q K M _ hm=>?_,λgs oN=>(by grind),λ_=>trivial⟩;obtain⟨κ,F,M⟩:=M;have af:=j' M x;rw[ai]at af;have af:=af.2 ay.symm (by rw[aa];rfl);have aU:=M.bD b;unfold cG at aU;rw[aa]at aU;have fo:=A.kP.1 hm;have iN:=A.eb.1 fo.2;obtain⟨c',jO⟩:=Option.isSome_iff_exists.1 fo.1;subst jO;rcases aU with⟨_,_,e⟩ | ⟨lS,es,clk,seen,E,U,ah,a6,bL,_,gl⟩
    ·cases e
    ·obtain⟨i,G,aD,he⟩:=gl c' rfl;have vp:es.find? (λe=>e.born == es[i].born)=some es[i]:=by
      rw[<-Array.find?_toList];have jS:es[i]∈es.toList:=by simp
      cases ao:es.toList.find? (λe=>e.born == es[i].born) with
      | none=>grind
      | some e=>
       have jj:=List.find?_some ao;have p7:=List.mem_of_find?_eq_some ao;obtain⟨j,aG,rfl⟩:=List.mem_iff_getElem.1 p7;grind
     have C5:(getObj (κ b).ab).run C.P w=.ok (.mapIter (some lS) clk seen clk) w:=by simp[getObj,Sem.run,ah]
     have rb:(getObj lS).run C.P w=.ok (.map es clk) w:=by simp[getObj,Sem.run,U]
     have c_:(execOp a.eval o).run C.P w=.ok (.value (.tuple #[es[i].key,es[i].val])) w:=by
      simp[execOp,ag,Instr.entry,af,C5,rb,aD,vp]
     refine hy (by grind) c_ (iN _ _ ⟨κ,F,M.set bg ⟨[es[i].key,es[i].val],rfl,rfl,λn ax=>?_⟩⟩);match n,ax with
     | 0,_=>exact⟨he.1,he.2.1⟩
     | 1,_=>exact⟨he.2.2.1,he.2.2.2⟩
   grind
  grind
 grind
theorem afY{es:Array MapEntry}{seen:Array Nat}{clk:Nat}(a6:∀ i (h:i<es.size),es[i].born<clk) :
  (es.filter λe=>!seen.contains e.born).filter (λe=>decide (e.born<clk))=(es.filter λe=>!seen.contains e.born)/\(es.filter λe=>!seen.contains e.born).filter (λe=>decide (e.born>=clk))=#[]:=by
 have fT:∀ e∈es.filter λe=>!seen.contains e.born,e.born<clk:=by
  intro e he;have:=(Array.mem_filter.1 he).1;obtain⟨i,G,rfl⟩:=Array.mem_iff_getElem.1 this;grind
 constructor
 ·exact Array.filter_eq_self.2 λe he=>by grind
 ·exact Array.filter_eq_empty_iff.2 λe he=>by grind
theorem afZ(P:Program)(w:World)(n:Nat):∃ j w',(choose (.mapNext n)).run P w=.ok j w'/\(0<n->j<n)/\(w'=w\/w'=w.drew):=by
 rw[run_choose];by_cases h:n<=1
 ·have:(Question.mapNext n).forced=true:=by simp[Question.forced,h]
  rw[this];grind
 ·have:(Question.mapNext n).forced=false:=by simp[Question.forced];omega
  rw[this];exact⟨_,_,rfl,λax=>Nat.mod_lt _ ax,.inr rfl⟩
theorem af0(bg:∀ i,o.dst=some i->i<C.nt){x:Operand}{str:Bool}(ag:o.op=.next x str){cc:h0}(h:Gy C.aP s o x str=some cc):qo C o s cc:=by
  unfold Gy at h;split at h
  · rename_i b g ai
    split at h
    · rename_i ay
      split at h
      · rename_i k v c cj aa
        cases h
        refine⟨λa w Q K M _ hm=>?_,λgs oN=>(by grind),λ_=>trivial⟩
        obtain⟨κ,F,M⟩:=M
        have af:=j' M x
        rw[ai]at af
        have af:=af.2 ay.symm (by rw[aa];rfl)
        have aU:=M.bD b
        unfold cG at aU
        rw[aa]at aU
        have au:∀ c,o.op≠.defer c:=by grind
        have gm:∀ w',(w'=w\/w'=w.drew)->cj=[]->(execOp a.eval o).run C.P w=.ok (.value (.tuple #[.bool false])) w'->o.wpIn (dS C.r) 0 C.P a w K Q:=by
          intro w' C6 sD c_;have cO:bm C s a w' κ F:=by
            rcases C6 with rfl | rfl
            · exact M
            · exact M.drew
          have Sg:s.cz b ⟨g,.ct k v c cj⟩=s:=by
            unfold aC.cz;congr 1;funext i;by_cases G:i=b
            · rw[if_pos G,G,<-aa,<-ay]
            grind
          refine hy au c_ (hm.2 none sD _ _ ⟨κ,F,bm.set (s:=s.cz b ⟨g,.ct k v c cj⟩) (by grind) bg ⟨[.bool false],rfl,rfl,λn ax=>?_⟩⟩);have:n=0:=by simp only[S6]at ax;omega
          subst this;exact fh.2 rfl
        rcases aU with⟨E,U,_⟩ | ⟨lS,es,clk,seen,E,U,ah,a6,bL,⟨ids,i1,i2,i3,i4⟩,gl⟩
        · refine gm w (.inl rfl) U ?_
          have C5:(getObj (κ b).ab).run C.P w=.ok (.mapIter none 0 #[] 0) w:=by simp[getObj,Sem.run,E]
          simp[execOp,ag,Instr.next,af,C5]
        · have C5:(getObj (κ b).ab).run C.P w=.ok (.mapIter (some lS) clk seen clk) w:=by simp[getObj,Sem.run,ah]
          have rb:(getObj lS).run C.P w=.ok (.map es clk) w:=by simp[getObj,Sem.run,U]
          obtain⟨f1,f2⟩:=afY (seen:=seen) a6
          have fT:(!seen.isEmpty&&!es.isEmpty&&es.all (λe=>decide (e.born>=clk)))=false:=by
            by_cases he:es.size=0
            · grind
            · have:es.all (λe=>decide (e.born>=clk))=false:=by
                rw[Array.all_eq_false];exact⟨0,by omega,by grind⟩
              grind
          generalize af1:(es.filter λe=>!seen.contains e.born)=left at f1 f2
          have af2:((if left.isEmpty=true then #[none] else #[])++Array.map some (left++(#[]:Array MapEntry)))=(if left.isEmpty=true then #[none] else Array.map some left):=by
            grind
          obtain⟨j,w',bE,c2,c3⟩:=afZ C.P w (if left.isEmpty=true then #[none] else Array.map some left).size
          have cV:w'.heap=w.heap:=by rcases c3 with rfl | rfl<;>rfl
          have z' : ∀ r da, (match (if left.isEmpty = true then #[none] else Array.map some left)[j]? with
                | some (some e)=>(do setObj (κ b).ab (.mapIter (some lS) clk (seen.push e.born) clk);pure (.tuple #[.bool true,e.key,e.val]):Sem Value)
                | some none=>pure (.tuple #[.bool false])
                | none => stuck "Next: no such candidate").run C.P w' = .ok r da -> (execOp a.eval o).run C.P w = .ok (.value r) da := by
            intro r da cO;simp only[execOp,ag,Instr.next,af,Sem.run_bind,C5,Result.andThen_ok,rb,fT,Bool.false_eq_true,if_false,af1,f1,f2,af2,bE];exact (congrArg (λ(z:Result Value)=>z.andThen λv w'=>Sem.run C.P (Pure.pure (Next.value v)) w') cO).trans rfl
          by_cases hle:left.isEmpty=true
          · have KA:left=#[]:=by grind
            have sD:cj=[]:=by
              have:ids=[]:=List.eq_nil_iff_forall_not_mem.2 λi G=>by
                obtain⟨LW,ds⟩:=(i3 i).1 G;have:es[i]∈left:=by
                  grind
                grind
              grind
            rw[hle]at z' c2
            simp only[if_true]at z' c2
            have aG:j=0:=by grind
            subst aG
            exact gm w' c3 sD (z' _ _ rfl)
          · have hle:left.isEmpty=false:=by grind
            rw[hle]at z' c2
            simp only[Bool.false_eq_true,if_false]at z' c2
            have axV:0<left.size:=by
              grind
            have aG:j<left.size:=by grind
            have jS:left[j]∈(es.filter λe=>!seen.contains e.born):=by grind
            obtain⟨tR,Tn⟩:=Array.mem_filter.1 jS
            obtain⟨i0,oI,af3⟩:=Array.mem_iff_getElem.1 tR
            have af4:i0∈ids:=(i3 i0).2 ⟨oI,by grind⟩
            obtain⟨q,bt,LX⟩:=List.mem_iff_getElem.1 af4
            have LY:q<cj.length:=by omega
            have m':(setObj (κ b).ab (.mapIter (some lS) clk (seen.push left[j].born) clk)).run C.P w'=.ok () { w' with heap:=w'.heap.setIfInBounds (κ b).ab (.mapIter (some lS) clk (seen.push left[j].born) clk) }:=by
              simp[setObj,Sem.run,cV,ah]
            have c_:=z' (.tuple #[.bool true,left[j].key,left[j].val]) { w' with heap:=w'.heap.setIfInBounds (κ b).ab (.mapIter (some lS) clk (seen.push left[j].born) clk) } (by
              rw[show (Array.map some left)[j]?=some (some left[j]) by simp];simp only[Sem.run_bind,m',Result.andThen_ok,Sem.run_pure])
            have ja:de w w':=by rcases c3 with rfl | rfl<;>exact⟨rfl,rfl,rfl⟩
            have ch:(κ b).ab<w.heap.size:=(Array.getElem?_eq_some_iff.1 ah).1
            have eQ:lS≠(κ b).ab:=λe=>(M.own b (by grind)).2.1 (e ▸ E)
            have gw:fs s.ab κ (λi=>if i=b then (⟨g,.ct k v cj[q]? (cj.eraseIdx q)⟩:bK) else s.ab i) κ:=
              qZ ay.symm (λh=>by cases h) (λh=>by cases h) (λh=>by cases h) (λ_=>by rw[aa];rfl)
            have gZ:=M.pe (b:=b) (x:=⟨g,.ct k v cj[q]? (cj.eraseIdx q)⟩) (w':={ w' with heap:=w'.heap.setIfInBounds (κ b).ab (.mapIter (some lS) clk (seen.push left[j].born) clk) }) (by rw[aa];rfl) rfl gw (λh=>by cases h) (λh=>by cases h)
              (λr KQ=>by grind) (by grind) ⟨ja.os,ja.tape,ja.output⟩ λH _ _ he=>by
                refine .inr ⟨lS,es,clk,seen.push left[j].born,E,?_,by grind,a6,bL,⟨ids.eraseIdx q,?_,?_,λi=>?_,λn ax CH=>?_⟩,λc' jO=>?_⟩
                · grind
                · grind
                · grind
                · rw[List.mem_eraseIdx_iff_getElem]
                  constructor
                  · rintro⟨n,ax,GO,rfl⟩
                    obtain⟨ub,rr⟩:=(i3 ids[n]).1 (by simp)
                    refine⟨ub,?_⟩
                    simp only[Array.contains_push,Bool.or_eq_false_iff]
                    refine⟨rr,?_⟩
                    rw[<-af3]
                    simp only[beq_eq_false_iff_ne,ne_eq]
                    intro e
                    have:ids[n]=i0:=bL _ _ ub oI (by omega)
                    exact GO ((List.getElem?_inj ax i2).1 (by grind))
                  · rintro⟨ub,rr⟩
                    simp only[Array.contains_push,Bool.or_eq_false_iff]at rr
                    obtain⟨n,ax,rfl⟩:=List.mem_iff_getElem.1 ((i3 i).2 ⟨ub,rr.1⟩)
                    grind
                · have vx:(ids.eraseIdx q)[n]=if h:n<q then ids[n]'(by omega) else ids[n+1]'(by grind):=by
                    rw[List.getElem_eraseIdx]
                  have To:(cj.eraseIdx q)[n]=if h:n<q then cj[n]'(by omega) else cj[n+1]'(by grind):=by
                    rw[List.getElem_eraseIdx]
                  have hlen:n+1<ids.length:=by grind
                  by_cases GO:n<q
                  · obtain⟨ub,rr⟩:=i4 n (by omega) (by omega)
                    simp only[vx,To,GO,dif_pos]
                    exact⟨ub,rr.mono (λ_ h=>h) he⟩
                  · obtain⟨ub,rr⟩:=i4 (n+1) hlen (by omega)
                    simp only[vx,To,GO,dif_neg,not_false_eq_true]
                    exact⟨ub,rr.mono (λ_ h=>h) he⟩
                · rw[List.getElem?_eq_getElem LY]at jO
                  cases jO
                  obtain⟨ub,rr⟩:=i4 q bt LY
                  refine⟨i0,oI,by grind,?_⟩
                  have az:es[ids[q]]=es[i0]:=by congr 1
                  rw[az]at rr
                  exact rr.mono (λ_ h=>h) he
            refine hy au c_ (hm.2 (some q) LY _ _ ⟨κ,F,bm.set (s:=s.cz b _) gZ bg ⟨[.bool true,left[j].key,left[j].val],rfl,rfl,λn ax=>?_⟩⟩)
            match n,ax with
            | 0,_=>exact fh.2 rfl
            | 1,_=>trivial
            | 2,_=>trivial
      grind
    grind
  grind
end
end Go.Fer
namespace Go.Fer
open Go.RowKit
def C7:z9'->List Value->List Value->Prop
 | [],[],aE=>aE=[]
 | none::g,u::us,aE=>∃ r8,aE=u::r8/\C7 g us r8
 | some n::g,u::us,aE=>∃ cs r8,u=.agg cs/\cs.size=n/\(∀ c∈cs.toList,c.oneCell'=true)/\aE=cs.toList++r8/\C7 g us r8
 | _,_,_=>False
def GP(g:z9')(v:Value)(aE:List Value):Prop:=∃ us:List Value,us.length=g.length/\v=(if us.length=1 then us.getD 0 undef else .tuple us.toArray)/\C7 g us aE
structure cS(P:Program)(aH:dG)(k:FuncId)(c:cM):Prop where
 enter:∀ args w,(callFunc k args).run P w=.ok (.enter k args) w
 iY:∀ (C:b_) (a:Act) (w:World) (κ:Nat->bB) (F:Nat->Prop) (D:c.cm.aj),C.P=P->C.w0=w->C.r=none->C.dfr=[]->C.nt=c.kh->C.aP=aH->bm C (c.cm.st D) a w κ F->(c.sh D).cr->
  Calls P k a.tmps w λe w'=>∃ v bn aE κ' F',e=.returned v/\(c.sh D).bM bn/\GP c.kF v aE/\bm { C with nt:=aE.length } (c.bM.st bn) { tmps:=aE.toArray,defers:=[] } w' κ' F'
section
variable {P:Program} {H H':Nat->bK} {κ κ':Nat->bB} {F:Nat->Prop} {w:World} {g:Nat->Nat×Nat}
def pz(H H':Nat->bK)(κ κ':Nat->bB)(g:Nat->Nat×Nat):Prop:=∀ b,(H b).gen=0/\p_ ⟨(g b).2,(H b).body⟩ (H' (g b).1) (κ b) (κ' (g b).1)
theorem pz.ba(h:pz H H' κ κ' g){b off:Nat}{v:Value}(af:bA P H κ F w (.ba b 0 off) v):bA P H' κ' F w (.ba (g b).1 (g b).2 off) v:=by
 obtain⟨aY,aQ,aS⟩:=h b;refine⟨⟨aQ,af.1.2⟩,λay hc=>?_⟩;obtain⟨bE,c2⟩:=(aS ay).1 hc;rw[c2];exact af.2 aY.symm bE
theorem pz.av(h:pz H H' κ κ' g)(t:bY){R:Type}(z:t.cons R){v:Value}(af:bA P H κ F w (t.av db z).1 v):bA P H' κ' F w (t.av g z).1 v:=by
 cases t with
 | undef=>trivial
 | val t=>exact af
 | dV t=>exact af
 | ba b off=>exact h.ba af
 | own b=>
  obtain⟨aY,aQ,aS⟩:=h b;refine⟨⟨aQ,af.1.2⟩,λay hc=>?_⟩;obtain⟨bE,c2,c3,c4⟩:=(aS ay).2.1 hc;rw[c2,c3];exact af.2 aY.symm bE
 | sub b=>
  obtain⟨aY,aQ,aS⟩:=h b;refine⟨⟨aQ,af.1.2⟩,λay hc=>?_⟩;obtain⟨bE,c2,c3,c4⟩:=(aS ay).2.1 hc;rw[c2,c3,c4];exact af.2 aY.symm bE
 | fJ b=>
  obtain⟨aY,aQ,aS⟩:=h b;refine⟨⟨aQ,af.1.2⟩,λay hc=>?_⟩;obtain⟨bE,c2⟩:=(aS ay).2.2.1 hc;rw[c2];exact af.2 aY.symm bE
 | j6 b=>
  obtain⟨aY,aQ,aS⟩:=h b;refine⟨⟨aQ,af.1.2⟩,λay hc=>?_⟩;obtain⟨bE,c2⟩:=(aS ay).2.2.2 hc;rw[c2];exact af.2 aY.symm bE
 | cx=>exact af
 | iC k fY=>
  obtain⟨aE,E,U,ah⟩:=af;refine⟨aE,E,U,λi G=>?_⟩;have:=ah i G;have az:vs db fY i=.ba fY[i].1 0 fY[i].2:=by simp[vs,hi,List.getD_eq_getElem?_getD,G,db]
  have aN:vs g fY i=.ba (g fY[i].1).1 (g fY[i].1).2 fY[i].2:=by simp[vs,hi,List.getD_eq_getElem?_getD,G]
  rw[az]at this;rw[aN];exact h.ba this
 | hJ bs=>
  obtain⟨aE,E,U,ah⟩:=af;refine⟨aE,E,U,λi G=>?_⟩;obtain⟨this,jO⟩:=ah i G;refine⟨?_,jO⟩;have az:vt db bs i=.own bs[i] 0:=by simp[vt,hi,List.getD_eq_getElem?_getD,G,db]
  have aN:vt g bs i=.own (g bs[i]).1 (g bs[i]).2:=by simp[vt,hi,List.getD_eq_getElem?_getD,G]
  rw[az]at this;rw[aN];obtain⟨aY,aQ,aS⟩:=h bs[i];refine⟨⟨aQ,this.1.2⟩,λay hc=>?_⟩;obtain⟨bE,c2,c3,c4⟩:=(aS ay).2.1 hc;rw[c2,c3];exact this.2 aY.symm bE
 | ik b=>
  obtain⟨aY,aQ,aS⟩:=h b;refine⟨⟨aQ,af.1.2⟩,λay hc=>?_⟩;obtain⟨bE,c2,c3,c4⟩:=(aS ay).2.1 hc;rw[c2,c3,c4];exact af.2 aY.symm bE
 | aW aM=>trivial
 | hg=>exact af
theorem Aa(t:bY){R:Type}(z:t.cons R):(t.av g z).2=(t.av db z).2:=by cases t<;>rfl
theorem Tp:∀ (ts:List bY) {R:Type} (z:ql ts R),(pv g ts z).2=(pv db ts z).2
 | [],_,_=>rfl
 | t::ts,_,z=>by simp only[pv];rw[Aa (g:=g) t z];exact Tp ts _
theorem Tq(t:b3){R:Type}(z:t.cons R):(t.body g z).2=(t.body db z).2:=by
 cases t with
 | cells t l=>exact Tp l z
 | gp e t=>exact Aa t z.2
 | _=>rfl
theorem LZ:∀ (ts:List (Nat×bY)) {R:Type} (z:oJ ts R),(eD g ts z).2=(eD db ts z).2
 | [],_,_=>rfl
 | p::ts,_,z=>by simp only[eD];rw[Aa (g:=g) p.2 z];exact LZ ts _
theorem pz.avs(h:pz H H' κ κ' g):∀ (ts:List bY) {R:Type} (z:ql ts R) (i:Nat) {v:Value},bA P H κ F w ((pv db ts z).1.getD i .undef) v->bA P H' κ' F w ((pv g ts z).1.getD i .undef) v
 | [],_,_,i,v,_=>by simp[pv,bA]
 | t::ts,_,z,i,v,af=>by
  simp only[pv]at af ⊢;cases i with
  | zero=>exact h.av t z af
  | succ i=>
   simp only[List.getD_cons_succ]at af ⊢;rw[Aa (g:=g) t z];exact h.avs ts _ i af
theorem pz.bU(h:pz H H' κ κ' g):∀ (ts:List (Nat×bY)) {R:Type} (z:oJ ts R) (i:Nat) {v:Value},bA P H κ F w (ft (eD db ts z).1 i) v->bA P H' κ' F w (ft (eD g ts z).1 i) v
 | [],_,_,i,v,_=>by simp[eD,ft,bA]
 | p::ts,_,z,i,v,af=>by
  simp only[eD,ft]at af ⊢;by_cases e:i=p.1
  ·rw[if_pos e]at af ⊢;exact h.av p.2 z af
  ·rw[if_neg e]at af ⊢;rw[Aa (g:=g) p.2 z];exact h.bU ts _ i af
theorem Tr:∀ (ts:List (Nat×bY)) {R:Type} (z:oJ ts R) (i:Nat) {l aM L n st},ft (eD g ts z).1 i=.aW l aM L n st->ft (eD db ts z).1 i=.aW l aM L n st
 | [],_,_,i,_,_,_,_,_,h=>by simp[eD,ft]at h
 | p::ts,_,z,i,l,aM,L,n,st,h=>by
  simp only[eD,ft]at h ⊢;by_cases e:i=p.1
  ·rw[if_pos e]at h ⊢;obtain⟨jN,t⟩:=p;cases t<;>first | exact h | cases h
  ·rw[if_neg e]at h ⊢;rw[Aa (g:=g) p.2 z]at h;exact Tr ts _ i h
def xN(x y:bS):Prop:=x.fK=y.fK/\x.fi=y.fi/\x.len=y.len/\x.e4=y.e4/\x.gX=y.gX/\x.mU=y.mU/\∀ k,x.b1 k=y.b1 k
theorem xN.refl(x:bS):xN x x:=⟨rfl,rfl,rfl,rfl,rfl,rfl,λ_=>rfl⟩
theorem af5(t:b3){R:Type}(z:t.cons R):xN (t.body g z).1 (t.body db z).1:=by
 cases t with
 | cells t l=>exact⟨rfl,rfl,rfl,rfl,rfl,rfl,λ_=>rfl⟩
 | gp e t=>exact⟨rfl,rfl,rfl,rfl,rfl,rfl,λ_=>rfl⟩
 | _=>exact xN.refl _
theorem af6:∀ (t:ad) (x:t.aj) (av:aI),av∈nR t x->∀ {v:Value},bA P H κ F w av v->bA P H' κ' F w av v:=by
  intro t;induction t with
  | cU=>intro x av h;cases h
  | st t aL=>intro x av h;exact aL x av h
  | aB a b fC eM=>
   intro x av h;rcases List.mem_append.1 h with h | h
   ·exact fC _ av h
   ·exact eM _ av h
  | array n e aL=>
   intro x av h;simp only[nR,List.mem_flatMap]at h;grind
  | _=>
   intro x av h v af;simp only[nR,List.mem_singleton]at h;subst h;exact af
theorem pz.body(h:pz H H' κ κ' g)(t:b3){R:Type}(z:t.cons R){k:bB}(aa:jH P H κ F w k (t.body db z).1):jH P H' κ' F w k (t.body g z).1:=by
 cases t with
 | cells t l=>
  obtain⟨cs,T,E,U,ah⟩:=aa;exact⟨cs,T,E,U,λi G=>⟨h.avs l z i (ah i G).1,(ah i G).2⟩⟩
 | gg t=>
  obtain⟨cs,T,E,U,ah⟩:=aa;refine⟨cs,T,E,U,λi G=>⟨?_,(ah i G).2⟩⟩;have:=(ah i G).1;unfold hi at this ⊢;rw[List.getD_eq_getElem?_getD]at this ⊢;cases al:(nR t z.1)[i]? with
  | none=>trivial
  | some av=>
   rw[al]at this;simp only[Option.getD_some]at this ⊢;have jS:=List.mem_of_getElem? al;exact af6 t z.1 av jS this
 | bh e=>exact aa
 | hG e=>exact aa
 | mp k v=>exact aa
 | jk k v=>exact aa
 | gL t=>exact aa
 | ct k v=>exact aa
 | gp e t=>
  obtain⟨aY,cs,T,E,U,ah,a6,bL,dv,gl,jj⟩:=aa;exact⟨aY,cs,T,E,U,ah,a6,bL,dv,h.av t z.2 gl,jj⟩
theorem Ts{l:List (Nat×b3)}{x y:pt l}(h:x=y)(g:Nat->Nat×Nat)(b:Nat):eS (hk g l x) b=eS (hk g l y) b:=by rw[h]
theorem Tt:∀ (l:List (Nat×b3)) (x:pt l) (b:Nat),xN (eS (hk g l x) b).body (eS (hk db l x) b).body
 | [],_,_=>xN.refl _
 | p::l,x,b=>by
  simp only[hk,eS];split
  ·exact af5 p.2 x
  ·rw[Tq (g:=g) p.2 x];exact Tt l _ b
theorem pz.bD(h:pz H H' κ κ' g):∀ (l:List (Nat×b3)) (x:pt l) (b:Nat) {k:bB},jH P H κ F w k (eS (hk db l x) b).body->jH P H' κ' F w k (eS (hk g l x) b).body
 | [],_,_,k,_=>trivial
 | p::l,x,b,k,aa=>by
  simp only[hk,eS]at aa ⊢;split
  ·rename_i e;rw[if_pos e]at aa;exact h.body p.2 x aa
  ·rename_i e;rw[if_neg e]at aa;rw[Tq (g:=g) p.2 x];exact h.bD l _ b aa
theorem L0:∀ (l:List (Nat×bS)) (b:Nat),(eS l b).gen=0
 | [],_=>rfl
 | p::l,b=>by
  simp only[eS];split
  ·rfl
  ·exact L0 l b
end
end Go.Fer
namespace Go.Fer
open Go.RowKit
theorem GQ{an:Type}{k:an->Nat}:∀ {l:List an},(l.map k).Nodup->∀ {p:an},p∈l->l.find? (λq=>k q == k p)=some p
 | [],_,_,h=>by cases h
 | a::l,ax,p,h=>by
  simp only[List.map_cons,List.nodup_cons]at ax;by_cases e:k a=k p
  ·grind
  ·rw[List.find?_cons_of_neg (by grind)];rcases List.mem_cons.1 h with rfl | h
   ·omega
   ·exact GQ ax.2 h
theorem C8{an:Type}{k:an->Nat}{l:List an}(ax:(l.map k).Nodup){p q:an}(aq:p∈l)(bt:q∈l)(e:k p=k q):p=q:=by
 have E:=GQ ax aq;rw[e,GQ ax bt]at E;grind
theorem Tu:∀ {l:z6'},(l.map (·.1)).Nodup->∀ {p},p∈l->h1 l p.1=p.2
 | [],_,_,h=>by cases h
 | a::l,ax,p,h=>by
  simp only[List.map_cons,List.nodup_cons]at ax;simp only[h1];by_cases e:p.1=a.1
  ·grind
  ·rw[if_neg e];rcases List.mem_cons.1 h with rfl | h
   ·omega
   ·exact Tu ax.2 h
theorem Tv:∀ {l:z6'} {b:Nat},b ∉ l.map (·.1)->h1 l b=(nj,0)
 | [],_,_=>rfl
 | a::l,b,h=>by
  simp only[List.map_cons,List.mem_cons,not_or]at h;simp only[h1];rw[if_neg h.1];exact Tv h.2
theorem Tw(s:aC)(d:Nat)(f:Nat->Nat)(ins:List Nat):∀ (l:List (Nat×b3)) (j:Nat),(sw s d f ins l j).map (·.1)=l.map (·.1)
 | [],_=>rfl
 | p::l,j=>by
  simp only[sw,List.map_cons,Tw s d f ins l (j+1)];grind
theorem Tx(s:aC)(d:Nat)(f:Nat->Nat)(ins:List Nat):∀ (l:List (Nat×b3)) (j:Nat) {p:Nat×(Nat×Nat)},p∈sw s d f ins l j->
  (p.1∈ins/\p.2.1=f p.1/\∃ t,(p.1,t)∈l/\((p.2.2=(s.ab (f p.1)).gen/\((∀ (g:Nat->Nat×Nat) (R:Type) (z:t.cons R),(t.body g z).1.fi=false)\/(w9<=p.1/\∃ e,t=.bh e)))\/p.2.2=(s.ab (f p.1)).gen+1))\/
  (p.1 ∉ ins/\p.2.2=(s.ab p.2.1).gen+1/\50000+10*d+j<=p.2.1/\p.2.1<50000+10*d+j+l.length)
 | [],_,p,h=>by cases h
 | q::l,j,p,h=>by
  simp only[sw,List.mem_cons]at h;rcases h with h | h
  ·by_cases bt:ins.contains q.1=true
   ·rw[if_pos bt]at h;subst h;refine .inl ⟨by grind,rfl,q.2,by simp,?_⟩;obtain⟨dr,t⟩:=q;cases t with
    | bh e=>
     grind
    | _=>first | exact .inr rfl | exact .inl ⟨rfl,.inl λ_ _ _=>rfl⟩
   grind
  ·rcases Tx s d f ins l (j+1) h with⟨E,U,t,ah,a6⟩ | ⟨E,U,ah,a6⟩
   ·exact .inl ⟨E,U,t,List.mem_cons_of_mem _ ah,a6⟩
   ·exact .inr ⟨E,U,by omega,by simp only[List.length_cons];omega⟩
theorem GR(g:Nat->Nat×Nat):∀ (l:List (Nat×b3)) (x:pt l) (b:Nat),(eS (hk g l x) b=⟨0,.fD⟩/\b ∉ l.map (·.1))\/∃ q∈l,q.1=b/\∃ (R:Type) (z:q.2.cons R),eS (hk g l x) b=⟨0,(q.2.body g z).1⟩
 | [],_,_=>.inl ⟨rfl,by simp⟩
 | p::l,x,b=>by
  simp only[hk,eS];by_cases e:b=p.1
  ·grind
  ·rw[if_neg e];rcases GR g l (p.2.body g x).2 b with⟨E,U⟩ | ⟨q,E,U⟩
   ·exact .inl ⟨E,by rw[List.map_cons,List.mem_cons,not_or];exact⟨e,U⟩⟩
   ·exact .inr ⟨q,List.mem_cons_of_mem _ E,U⟩
theorem af7{t u:b3}(h:t.Gg u=true){g g':Nat->Nat×Nat}{R L1:Type}(z:t.cons R)(mv:u.cons L1) :
  ((t.body g z).1.fK=true->(u.body g' mv).1.fK=true/\∀ k,(u.body g' mv).1.b1 k=true)/\((t.body g z).1.gX=true->(u.body g' mv).1.gX=true/\∀ k,(u.body g' mv).1.b1 k=true)/\(t.body g z).1.mU=false:=by
 cases t<;>cases u<;>first
  | exact Bool.noConfusion h
  | exact⟨λ_=>⟨rfl,λ_=>rfl⟩,λh=>Bool.noConfusion h,rfl⟩
  | exact⟨λh=>Bool.noConfusion h,λ_=>⟨rfl,λ_=>rfl⟩,rfl⟩
  | exact⟨λh=>Bool.noConfusion h,λh=>Bool.noConfusion h,rfl⟩
theorem xO:∀ (ts:List (Nat×bY)) {R:Type} (g:Nat->Nat×Nat) (z:oJ ts R) (i:Nat),ts.any (λp=>p.1 == i)=false->ft (eD g ts z).1 i=.undef
 | [],_,_,_,_,_=>rfl
 | p::ts,_,g,z,i,h=>by
  simp only[List.any_cons,Bool.or_eq_false_iff,beq_eq_false_iff_ne]at h;simp only[eD,ft];rw[if_neg (Ne.symm h.1)];exact xO ts g _ i h.2
theorem L2{P:Program}{H:Nat->bK}{κ:Nat->bB}{F:Nat->Prop}{w:World}:∀ (g:z9') {us aE:List Value},C7 g us aE->∀ (c:Nat->aI) (i:Nat),(∀ j,j<aE.length->bA P H κ F w (c (i+j)) (aE.getD j undef))->
  (pw g c i).length=g.length/\us.length=g.length/\∀ j,j<g.length->bA P H κ F w ((pw g c i).getD j .undef) (us.getD j undef)
 | [],[],aE,_,_,_,_=>⟨rfl,rfl,λj aG=>by cases aG⟩
 | [],_::_,_,h,_,_,_=>h.elim
 | none::g,[],_,h,_,_,_=>h.elim
 | some n::g,[],_,h,_,_,_=>h.elim
 | none::g,u::us,aE,h,c,i,af=>by
  obtain⟨r8,rfl,h⟩:=h;obtain⟨E,U,ah⟩:=L2 g h c (i+1) λj aG=>by
   have:=af (j+1) (by grind);rw[show i+(j+1)=i+1+j by omega]at this;simpa using this
  refine⟨by simp[pw,E],by grind,λj aG=>?_⟩;cases j with
  | zero=>simpa [pw]using af 0 (by simp)
  | succ j=>simpa [pw]using ah j (by grind)
 | some n::g,u::us,aE,h,c,i,af=>by
  obtain⟨cs,r8,rfl,ax,nX,rfl,h⟩:=h;obtain⟨E,U,ah⟩:=L2 g h c (i+n) λj aG=>by
   have:=af (n+j) (by grind);rw[show i+(n+j)=i+n+j by omega]at this;have e:(cs.toList++r8).getD (n+j) undef=r8.getD j undef:=by
    grind
   rw[e]at this;omega
  refine⟨by simp[pw,E],by grind,λj aG=>?_⟩;cases j with
  | zero=>
   simp only[pw,List.getD_cons_zero];refine⟨cs.toList,by simp,by omega,λj aG=>?_⟩;grind
  | succ j=>simpa [pw]using ah j (by grind)
theorem af8{P:Program}{H:Nat->bK}{κ:Nat->bB}{F:Nat->Prop}{w:World}{g:z9'}{v:Value}{aE:List Value}(h:GP g v aE){c:Nat->aI}(af:∀ j,bA P H κ F w (c j) (aE.getD j undef)) :
  bA P H κ F w (Ly (pw g c 0)) v:=by
 obtain⟨us,E,U,ah⟩:=h;obtain⟨aQ,_,bN⟩:=L2 g ah c 0 (λj _=>by simpa using af j);subst U;generalize pw g c 0=l at aQ bN;unfold Ly;split
 ·grind
 ·rename_i al;have eQ:us.length≠1:=λe=>by
   have:l.length=1:=by omega
   match l,this with
   | [x],_=>grind
  rw[if_neg eQ];refine⟨us,rfl,by omega,λi G=>?_⟩;unfold hi;grind
section
variable {C:b_} {s:aC} {a:Act} {w:World} {κ:Nat->bB} {F:Nat->Prop}
theorem bm.args(M:bm C s a w κ F){avs:List aI}{us:List Value}(ax:us.length<=eT)(al:avs.length=us.length)(af:∀ i,i<us.length->bA C.P s.ab κ F w (avs.getD i .undef) (us.getD i undef)) :
    bm { C with nt:=us.length,dfr:=[],r:=none } (sv s avs) { tmps:=us.toArray,defers:=[] } w κ F:=
  { M with
    dH:=by simp,dfr:=rfl,gq:=ax
    bU:=λi=>by
      show bA C.P s.ab κ F w (if i=b5 then s.aA b5 else if i<avs.length then avs.getD i .undef else .undef) (us.toArray.getD i undef);split
      · rename_i e
        subst e
        have E:=M.bU b5
        have U:a.tmps.getD b5 undef=undef:=by
          have:=M.dH;have:=M.gq;rw[Array.getD_eq_getD_getElem?,Array.getElem?_eq_none (by unfold b5 eT at *;omega)];rfl
        have ah:us.toArray.getD b5 undef=undef:=by
          rw[Array.getD_eq_getD_getElem?,Array.getElem?_eq_none (by simp only[List.size_toArray];unfold b5 eT at *;omega)];rfl
        grind
      · split
        · simp_all
        · trivial
    bD:=M.bD
    eN:=λl aM L n st e=>M.eN l aM L n st (by simpa [sv]using e) }
def rs(C:b_)(w:World)(F':Nat->Prop)(n:Nat)(own Y:Nat->Prop)(il:(Nat->Option Nat)×(Nat->Option (bB×Nat))):b_:=
 { C with w0:=w,F0:=F',K0:=λr=>r<w.heap.size/\¬own r/\¬Y r,nt:=n,dfr:=[],r:=none,il:=il.1,J5:=il.2 }
structure C9(C:b_)(s:aC)(w:World)(κ:Nat->bB)(F:Nat->Prop)(sl:aI)(Y:Nat->Prop):Prop where
 eN:∀ l aM L n st,sl=.aW l aM L n st->(∃ I,C.cc=⟨l,aM,L,I⟩)/\C.cc.hE C.P/\C.cc.at aM n st F Y w
 low:∀ r,Y r->r<w.heap.size/\¬F r/\¬C.K0 r
 own:∀ b,(s.ab b).body.b1 (κ b)=true->¬Y (κ b).ab
 GS:sl=.undef->∀ r,¬Y r
theorem bm.af9(M:bm C s a w κ F){sl:aI}(h:∀ l aM L n st,sl=.aW l aM L n st->s.aA b5=.aW l aM L n st):∃ Y,C9 C s w κ F sl Y:=by
 by_cases aD:∃ l aM L n st,sl=.aW l aM L n st
 ·obtain⟨l,aM,L,n,st,e⟩:=aD;obtain⟨E,U,Y,ah,a6,bL⟩:=M.eN l aM L n st (h _ _ _ _ _ e);refine⟨Y,⟨λdJ kE e8 i' ix a7=>?_,ah,a6,λa7=>?_⟩⟩
  ·rw[e]at a7;cases a7;exact⟨E,U,bL⟩
  ·rw[e]at a7;cases a7
 ·exact⟨λ_=>False,⟨λl aM L n st e=>(aD ⟨l,aM,L,n,st,e⟩).elim,λ_ h=>h.elim,λ_ _ h=>h,λ_ _ h=>h⟩⟩
theorem af_{C1:b_}{eI:aC}{b6:Act}{F':Nat->Prop}{bV:List Nat}{f:Nat->Nat}{sh:dK}{D:sh.aj}{Y:Nat->Prop}{ids:List Nat}(jt:C1.P=C.P)(tK:C1.aP=C.aP)(ru:C1.dfr=[])
  (gP:bm C1 (eI.cB bV) b6 w κ F') (au:GM C1 eI b6 w κ f F' sh D bV) (iI:C9 C (eI.cB bV) w κ F' ((sh.st D).aA b5) Y)
  (ao:∀ b be,b∈sh.oK->be∈sh.oK->f b=f be->b=be) (hid:∀ b∈ids,eT<=b) :
  bm (rs C w F' C1.nt (λr=>∃ b,((sh.st D).ab b).body.b1 (κ (f b))=true/\(κ (f b)).ab=r) Y (λb=>if b∈ids then some (κ (f b)).ab else none,λb=>if b∈ids/\w9<=b then some (κ (f b),((sh.st D).ab b).body.len) else none)) (sh.st D) b6 w (λb=>κ (f b)) F' where
 dH:=gP.dH
 dfr:=gP.dfr.trans ru
 bU:=λi=>by have:=au.bU i;rw[jt]at this;exact this
 bD:=λb=>by have:=au.bD b;rw[jt]at this;exact this
 own:=λb aa=>by
  have E:=gP.own (f b) (au.xL aa);exact⟨E.1,E.2.1,λh=>h.2.1 ⟨b,aa,rfl⟩⟩
 inj:=λb be aa cY e=>ao b be (au.b1 b aa).2.2 (au.b1 be cY).2.2 (gP.inj _ _ (au.xL aa) (au.xL cY) e)
 dd:=gP.dd
 hh:=λr M=>.inl M
 hU:=λr M=>M
 hx:=λr M=>M.1
 eH:=λ_ _=>rfl
 size:=Nat.le_refl _
 ev:=de.refl _
 gq:=gP.gq
 ks:=λb r h=>by
  simp only[rs]at h;grind
 jI:=λb r h _=>by
  simp only[rs]at h;grind
 j7:=λb k h=>by
  simp only[rs]at h;grind
 kt:=λb k h _ _=>by
  simp only[rs]at h;grind
 eN:=λl aM L n st e=>by
  obtain⟨E,U,ah⟩:=iI.eN l aM L n st e;exact⟨E,U,Y,λr M=>⟨(iI.low r M).1,(iI.low r M).2.1,λh=>h.2.2 M⟩,λb aa=>iI.own _ (au.xL aa),ah⟩
 jJ:=by have:=gP.jJ;rw[jt,tK]at this;exact this
 iD:=by have:=gP.iD;rw[jt]at this;exact this
structure Ty(s:aC)(κ:Nat->bB)(il:(Nat->Option Nat)×(Nat->Option (bB×Nat)))(bs:List (Nat×bS))(cf:z6'):Prop where
 dZ:(cf.map (·.1)).Nodup
 dP:(cf.map (·.2.1)).Nodup
 fD:nj ∉ cf.map (·.2.1)
 af':(s.ab nj).body=.fD
 Tz:∀ p∈cf,(p.2.1<eT/\(s.ab p.2.1).gen<p.2.2)\/
  (((eS bs p.1).body.fK=true->(s.ab p.2.1).body.fK=true/\il.1 p.1=some (κ p.2.1).ab)/\((eS bs p.1).body.gX=true->(s.ab p.2.1).body.gX=true/\il.1 p.1=some (κ p.2.1).ab)/\(eS bs p.1).body.mU=false/\
   ((p.2.2=(s.ab p.2.1).gen/\((eS bs p.1).body.fi=true->(s.ab p.2.1).body.fi=true/\(eS bs p.1).body.e4=(s.ab p.2.1).body.e4/\il.2 p.1=some (κ p.2.1,(s.ab p.2.1).body.len)))\/p.2.2=(s.ab p.2.1).gen+1))
theorem aga{F' own Y:Nat->Prop}{sl:aI}{n:Nat}{il:(Nat->Option Nat)×(Nat->Option (bB×Nat))}{ins:List Nat}{bM:dK}{bn:bM.aj}{aE:List Value}{w':World}{nk:Nat->bB}{ej:Nat->Prop}
    (M:bm C s a w κ F') (iI:C9 C s w κ F' sl Y) (gr:∀ r,own r->∃ b,b∈ins/\(s.ab b).body.b1 (κ b)=true/\(κ b).ab=r)
    (hM:bm { rs C w F' n own Y il with nt:=aE.length } (bM.st bn) { tmps:=aE.toArray,defers:=[] } w' nk ej)
    {cf:z6'} (gu:Ty s κ il (hk (h1 cf) bM.bD (eD (h1 cf) bM.bU bn).2) cf)
    {H':Nat->bK} {κn:Nat->bB} (Ab:∀ p∈cf,H' p.2.1=⟨p.2.2,(eS (hk (h1 cf) bM.bD (eD (h1 cf) bM.bU bn).2) p.1).body⟩/\κn p.2.1=nk p.1)
    (C_:∀ b,b ∉ cf.map (·.2.1)->κn b=κ b/\(b∈ins->H' b=⟨(s.ab b).gen+1,.fD⟩)/\(b ∉ ins->H' b=s.ab b))
    {X:aI} (Ac:X=ft (eD (h1 cf) bM.bU bn).1 b5\/X=.undef\/(X=s.aA b5/\sl=.undef)) :
    bm C ⟨λi=>if i=b5 then X else s.aA i,H'⟩ a w' κn ej/\
    ∀ i,bA C.P H' κn ej w' (ft (eD (h1 cf) bM.bU bn).1 i) (aE.toArray.getD i undef):=by
  generalize C':hk (h1 cf) bM.bD (eD (h1 cf) bM.bU bn).2=bs at gu Ab;have rf:∀ b,xN (eS bs b).body ((bM.st bn).ab b).body:=λb=>by
    rw[<-C',Ts (LZ bM.bU bn)];exact Tt bM.bD (eD db bM.bU bn).2 b
  have Da:pz (bM.st bn).ab H' nk κn (h1 cf):=by
    intro b;refine⟨L0 _ b,?_⟩;by_cases aa:b∈cf.map (·.1)
    · obtain⟨p,aq,rfl⟩:=List.mem_map.1 aa
      rw[Tu gu.dZ aq]
      obtain⟨E,U⟩:=Ab p aq
      rw[E,U]
      obtain⟨aQ,aS,bN,fm,l2,pA,_⟩:=rf p.1
      exact⟨Nat.le_refl _,λ_=>⟨λh=>⟨aQ ▸ h,rfl⟩,λh=>⟨aS ▸ h,rfl,bN,fm⟩,λh=>⟨l2 ▸ h,rfl⟩,λh=>⟨pA ▸ h,rfl⟩⟩⟩
    · rw[Tv aa]
      obtain⟨_,U,ah⟩:=C_ nj gu.fD
      have au:(H' nj).body=.fD:=by
        by_cases G:nj∈ins
        · grind
        · rw[ah G];exact gu.af'
      refine⟨Nat.zero_le _,λ_=>?_⟩
      show ((H' nj).body.fK=true->_)/\((H' nj).body.fi=true->_)/\((H' nj).body.gX=true->_)/\((H' nj).body.mU=true->_)
      rw[au]
      exact⟨λh=>(by cases h),λh=>(by cases h),λh=>(by cases h),λh=>(by cases h)⟩
  have GU:∀ b,(∃ p∈cf,p.2.1=b)\/b ∉ cf.map (·.2.1):=λb=>by
    grind
  have GV:∀ p∈cf,∀ r,il.1 p.1=some r->(eS bs p.1).body.fK=true\/(eS bs p.1).body.gX=true->(nk p.1).ab=r:=λp aq r M h=>by
    obtain⟨aQ,_,_,_,l2,_⟩:=rf p.1;exact hM.jI p.1 r M (h.imp (λh=>aQ ▸ h) (λh=>l2 ▸ h))
  have agb:∀ p∈cf,∀ k,il.2 p.1=some k->(eS bs p.1).body.fi=true->nk p.1=k.1/\(eS bs p.1).body.len=k.2:=λp aq k ak h=>by
    obtain⟨_,aS,bN,_⟩:=rf p.1;obtain⟨E,U⟩:=hM.kt p.1 k ak (L0 _ _) (aS ▸ h);grind
  have al:fs s.ab κ H' κn:=by
    rw[B1];intro b;rcases GU b with⟨p,aq,rfl⟩ | aa
    · obtain⟨E,U⟩:=Ab p aq
      rw[E,U]
      rcases gu.Tz p aq with⟨_,h⟩ | ⟨hc,hm,hit,h⟩
      · exact⟨Nat.le_of_lt h,λe=>(by grind)⟩
      · rcases h with⟨h,fb⟩ | h
        · refine⟨Nat.le_of_eq h.symm,λ_=>⟨λh=>⟨(hc h).1,GV p aq _ (hc h).2 (.inl h)⟩,λh=>?_,λh=>⟨(hm h).1,GV p aq _ (hm h).2 (.inr h)⟩,λh=>?_⟩⟩
          · have h:(eS bs p.1).body.fi=true:=h
            obtain⟨b6,a2,a3⟩:=fb h
            obtain⟨dO,e3⟩:=agb p aq _ a3 h
            exact⟨b6,dO,e3,a2⟩
          · have h:(eS bs p.1).body.mU=true:=h
            rw[hit]at h;cases h
        · exact⟨by grind,λe=>(by grind)⟩
    · obtain⟨E,U,ah⟩:=C_ b aa
      rw[E]
      by_cases G:b∈ins
      · rw[U G]
        exact⟨Nat.le_succ _,λe=>(by grind)⟩
      · rw[ah G];exact p_.refl _ _
  have Ad:w.heap.size<=w'.heap.size:=hM.size;have bo:∀ r,F' r->ej r:=hM.hU;have iN:∀ r,r<w.heap.size->¬own r->¬Y r->w'.heap[r]?=w.heap[r]?:=λr E U ah=>hM.eH r ⟨E,U,ah⟩;have vy:∀ r,C.K0 r->r<w.heap.size:=λr h=>Nat.lt_of_lt_of_le (M.hx r h) M.size;have L3:∀ r,own r->¬C.K0 r/\¬F' r:=λr h=>by
    obtain⟨b,_,E,rfl⟩:=gr r h;exact⟨(M.own b E).2.2,(M.own b E).2.1⟩
  have TA:∀ r,¬(r<w.heap.size/\¬own r/\¬Y r)->¬C.K0 r:=λr h ak=>h ⟨vy r ak,λag=>(L3 r ag).1 ak,λaT=>(iI.low r aT).2.2 ak⟩;have qp:c8 F' w w':=⟨Ad,λr h=>iN r (M.dd r h) (λag=>(L3 r ag).2 h) λaT=>(iI.low r aT).2.1 h⟩
  have zM:∀ r,ej r->F' r\/¬(r<w.heap.size/\¬own r/\¬Y r):=hM.hh;have sD:∀ b,b ∉ ins->(s.ab b).body.b1 (κ b)=true->(κ b).ab<w.heap.size/\¬own (κ b).ab/\¬Y (κ b).ab:=λb aa ag=>by
    refine⟨(M.own b ag).1,λh=>?_,iI.own b ag⟩;obtain⟨be,E,U,ah⟩:=gr _ h;exact aa (M.inj be b U ag ah ▸ E)
  have zf:∀ b,(H' b).body.b1 (κn b)=true->(∃ p∈cf,p.2.1=b/\((bM.st bn).ab p.1).body.b1 (nk p.1)=true/\κn b=nk p.1)\/(b ∉ cf.map (·.2.1)/\b ∉ ins/\κn b=κ b/\(s.ab b).body.b1 (κ b)=true):=λb aa=>by
    rcases GU b with⟨p,aq,rfl⟩ | ax
    · obtain⟨E,U⟩:=Ab p aq
      rw[E,U]at aa
      exact .inl ⟨p,aq,rfl,by rw[<-(rf p.1).2.2.2.2.2.2];exact aa,U⟩
    · obtain⟨E,U,ah⟩:=C_ b ax
      by_cases G:b∈ins
      · rw[U G]at aa;cases aa
      grind
  have fp:∀ i,bA C.P H' κn ej w' (ft (eD (h1 cf) bM.bU bn).1 i) (aE.toArray.getD i undef):=λi=>Da.bU bM.bU bn i (hM.bU i);refine⟨{ dH := M.dH, dfr := M.dfr, bU := λi => ?_, bD := λb => ?_, own := λb aa => ?_, inj := λb be aa cY e => ?_, dd := hM.dd, hh := λr h => ?_, hU := λr h => bo r (M.hU r h), hx := M.hx, eH := λr h => ?_,size:=Nat.le_trans M.size Ad,ev:=M.ev.trans hM.ev,gq:=M.gq,ks:=M.ks,jI:=λb r h hc=>?_,j7:=M.j7,kt:=λb k h aY a_=>?_,eN:=λl aM L m st e=>?_,jJ:=M.jJ,iD:=hM.iD },fp⟩
  · show bA C.P H' κn ej w' (if i=b5 then X else s.aA i) _
    split
    · rename_i e
      subst e
      have hu:a.tmps.getD b5 undef=undef:=by
        have:=M.dH;have:=M.gq;rw[Array.getD_eq_getD_getElem?,Array.getElem?_eq_none (by unfold b5 eT at *;omega)];rfl
      rcases Ac with rfl | rfl | ⟨rfl,_⟩
      · have h:=fp b5
        have L4:aE.toArray.getD b5 undef=undef:=by
          have:aE.length<=eT:=hM.gq;rw[Array.getD_eq_getD_getElem?,Array.getElem?_eq_none (by simp only[List.size_toArray];unfold b5 eT at *;omega)];rfl
        grind
      · trivial
      · exact bA.later al bo qp (M.bU b5)
    · exact bA.later al bo qp (M.bU i)
  · show jH C.P H' κn ej w' (κn b) (H' b).body
    rcases GU b with⟨p,aq,rfl⟩ | ax
    · obtain⟨E,U⟩:=Ab p aq
      rw[E,U,<-C',Ts (LZ bM.bU bn)]
      exact Da.bD bM.bD (eD db bM.bU bn).2 p.1 (hM.bD p.1)
    · obtain⟨E,U,ah⟩:=C_ b ax
      by_cases G:b∈ins
      · rw[U G];trivial
      · have:=cG.ll (H':=H') (κ':=κn) (M.bD b) al bo qp (by grind) E λag=>iN _ (sD b G ag).1 (sD b G ag).2.1 (sD b G ag).2.2
        exact this
  · rcases zf b aa with⟨p,aq,_,E,U⟩ | ⟨_,E,U,ah⟩
    · have:=hM.own p.1 E
      rw[U]
      exact⟨this.1,this.2.1,TA _ this.2.2⟩
    · rw[U]
      have a6:=M.own b ah
      grind
  · rcases zf b aa with⟨p,aq,rfl,E,U⟩ | ⟨_,E,U,ah⟩<;>rcases zf be cY with⟨p',Cg,rfl,zy,xj⟩ | ⟨_,zy,xj,TB⟩
    · rw[U,xj]at e
      have:=hM.inj _ _ E zy e
      rw[C8 gu.dZ aq Cg this]
    · rw[U,xj]at e
      exact ((hM.own p.1 E).2.2 (e ▸ sD be zy TB)).elim
    · rw[U,xj]at e
      exact ((hM.own p'.1 zy).2.2 (e ▸ sD b E ah)).elim
    · rw[U,xj]at e
      exact M.inj b be ah TB e
  · rcases zM r h with h | h
    · exact M.hh r h
    grind
  · exact (iN r (vy r h) (λag=>(L3 r ag).1 h) λaT=>(iI.low r aT).2.2 h).trans (M.eH r h)
  · have aF:=M.ks b r h
    rcases GU b with⟨p,aq,rfl⟩ | ax
    · obtain⟨E,U⟩:=Ab p aq
      simp only[E]at hc
      rcases gu.Tz p aq with⟨ah,_⟩ | ⟨aQ,aS,_⟩
      · omega
      · rw[U]
        rcases hc with hc | hc
        · rw[GV p aq _ (aQ hc).2 (.inl hc)]
          exact M.jI _ r h (.inl (aQ hc).1)
        · rw[GV p aq _ (aS hc).2 (.inr hc)]
          exact M.jI _ r h (.inr (aS hc).1)
    · obtain⟨E,U,ah⟩:=C_ b ax
      by_cases G:b∈ins
      · simp only[U G]at hc
        rcases hc with hc | hc<;>cases hc
      · simp only[ah G]at hc
        rw[E]
        exact M.jI b r h hc
  · have aF:=M.j7 b k h
    have aY:(H' b).gen=0:=aY
    have a_:(H' b).body.fi=true:=a_
    show κn b=k.1/\(H' b).body.len=k.2
    obtain⟨g1,ew⟩:=al b
    obtain⟨b6,a2,a3,_⟩:=(ew (by omega)).2.1 a_
    obtain⟨aQ,aS⟩:=M.kt b k h (by omega) b6
    grind
  · have e:X=.aW l aM L m st:=by grind
    rcases Ac with rfl | rfl | ⟨rfl,agc⟩
    · obtain⟨E,U,gD,ah,a6,bL⟩:=hM.eN l aM L m st (Tr bM.bU bn b5 e)
      refine⟨E,U,gD,λr bb=>⟨(ah r bb).1,(ah r bb).2.1,TA r (ah r bb).2.2⟩,λb aa aT=>?_,bL⟩
      rcases zf b aa with⟨p,aq,rfl,aQ,aS⟩ | ⟨_,aQ,aS,bN⟩
      · grind
      · rw[aS]at aT;exact (ah _ aT).2.2 (sD b aQ bN)
    · cases e
    · obtain⟨E,U,gD,ah,a6,bL⟩:=M.eN l aM L m st e
      have TC:∀ r,gD r->r<w.heap.size/\¬own r/\¬Y r:=λr aT=>⟨(ah r aT).1,λag=>by
        grind,iI.GS agc r⟩
      have B2:∀ r,ej r->¬gD r:=λr ao aT=>(zM r ao).elim (ah r aT).2.1 λh=>h (TC r aT)
      refine⟨E,U,gD,λr aT=>⟨Nat.lt_of_lt_of_le (ah r aT).1 Ad,λao=>B2 r ao aT,(ah r aT).2.2⟩,λb aa aT=>?_,U.J4 bL bo (λr ao=>?_) Ad hM.ev hM.dd B2⟩
      · rcases zf b aa with⟨p,aq,rfl,aQ,aS⟩ | ⟨_,aQ,aS,bN⟩
        · rw[aS]at aT;exact (hM.own _ aQ).2.2 (TC _ aT)
        grind
      · rcases ao with ao | ao
        · exact qp.2 r ao
        grind
end
end Go.Fer
namespace Go.Fer
open Go.RowKit
section
variable {C:b_} {T:Nat->ad} {o:Oper} {s:aC}
theorem cS.bC{P:Program}{aH:dG}{k:FuncId}{c:cM}(ao:cS P aH k c){C:b_}{a:Act}{w:World}{κ:Nat->bB}{F:Nat->Prop}{D:c.cm.aj}(h:bm C (c.cm.st D) a w κ F)(E:C.P=P)(U:C.w0=w)(ah:C.r=none)(a6:C.dfr=[])(bL:C.nt=c.kh)(dv:C.aP=aH)(aD:(c.sh D).cr) :
  Calls P k a.tmps w λe w'=>∃ v bn aE κ' F',e=.returned v/\(c.sh D).bM bn/\GP c.kF v aE/\bm { C with nt:=aE.length } (c.bM.st bn) { tmps:=aE.toArray,defers:=[] } w' κ' F':=
 ao.iY C a w κ F D E U ah a6 bL dv h aD
theorem TD{C:b_}{s:aC}{L5:Nat->aI}{a b6:Act}{w:World}{κ:Nat->bB}{F:Nat->Prop}{dZ:Nat}{c:cM}{f:Nat->Nat}{D:c.cm.aj}{bV:List Nat}{d m:Nat}{cf:z6'}
    (M:bm C s a w κ F) (gP:bm { C with nt:=dZ,dfr:=[],r:=none } ⟨L5,s.ab⟩ b6 w κ F) (qq:L5 b5=s.aA b5)
    (n6:c.cm.zU f ⟨L5,s.ab⟩=some (D,bV)) (TE:sw (s.cB bV) d f c.cm.oK c.bM.bD 0=cf) (ec:CW c f (s.cB bV) cf d m=true) :
    ∃ (F' own Y:Nat->Prop) (il:(Nat->Option Nat)×(Nat->Option (bB×Nat))),(∀ r,F r->F' r)/\bm C (s.cB bV) a w κ F'/\(∀ r,own r->∃ b,((s.cB bV).ab b).body.b1 (κ b)=true/\(κ b).ab=r)/\C9 C (s.cB bV) w κ F' ((c.cm.st D).aA b5) Y/\(∀ l aM L n st,(c.cm.st D).aA b5=.aW l aM L n st->s.aA b5=.aW l aM L n st)/\
      bm (rs C w F' dZ own Y il) (c.cm.st D) b6 w (λb=>κ (f b)) F'/\
      ∀ L6 hH,bm { C with w0:=L6 } (s.cB bV) a hH κ F'->C9 C (s.cB bV) hH κ F' ((c.cm.st D).aA b5) Y->∀ (bn:c.bM.aj) (aE:List Value) (w':World) (nk:Nat->bB) (ej:Nat->Prop),bm { rs C hH F' dZ own Y il with nt:=aE.length } (c.bM.st bn) { tmps:=aE.toArray,defers:=[] } w' nk ej->
        ∃ κn,bm { C with w0:=L6 } (xC (s.cB bV) c f cf bn) a w' κn ej/\∀ i,bA C.P (xC (s.cB bV) c f cf bn).ab κn ej w' (ft (eD (h1 cf) c.bM.bU bn).1 i) (aE.toArray.getD i undef):=by
  simp only[CW,Bool.and_eq_true,decide_eq_true_eq,Bool.not_eq_true']at ec;obtain⟨⟨⟨⟨⟨⟨⟨⟨⟨⟨bE,c2⟩,c3⟩,c4⟩,c5⟩,lW⟩,oD⟩,xh⟩,c9⟩,GW⟩,_⟩:=ec;have c3:(c.cm.bD.map (·.1)).Nodup:=of_decide_eq_true c3;have c4:(c.cm.bD.map λp=>f p.1).Nodup:=of_decide_eq_true c4;have c5:(cf.map (·.1)).Nodup:=of_decide_eq_true c5;have lW:(cf.map (·.2.1)).Nodup:=of_decide_eq_true lW;have xh:nj ∉ cf.map (·.2.1):=λh=>by
    grind
  have c9:((s.cB bV).ab nj).body=.fD:=by
    grind
  obtain⟨F',f1,gP,au⟩:=dK.Th n6 gP;have bb : bm C (s.cB bV) a w κ F' := { gP with
    dH:=M.dH,dfr:=M.dfr,gq:=M.gq,bU:=λi=>bA.later (R5 s bV κ) f1 (c8.refl _ _) (M.bU i)
    bD:=gP.bD
    eN:=λl aM L n st e=>gP.eN l aM L n st (by simpa [aC.cB,qq]using e) }
  obtain⟨Y,iI⟩:=bb.af9 (sl:=(c.cm.st D).aA b5) λl aM L n st e=>by simpa [aC.cB,qq]using au.aW l aM L n st e
  have hid:∀ b∈c.cm.bD.map (·.1),eT<=b:=λb aa=>by grind
  have GX:∀ b,b∈c.cm.oK->∃ q∈c.cm.bD,q.1=b/\q.2.CR=true:=λb aa=>by
    obtain⟨q,bt,e⟩:=List.mem_filterMap.1 aa;grind
  have Db:=af_ (C:=C) (C1:={ C with nt:=dZ,dfr:=[],r:=none }) (ids:=c.cm.bD.map (·.1)) rfl rfl rfl gP au ⟨iI.eN,iI.low,iI.own,iI.GS⟩ (λb be aa cY e=>by
    obtain⟨q,bt,rfl,_⟩:=GX b aa;obtain⟨q',tL,rfl,_⟩:=GX be cY;rw[C8 (k:=λp=>f p.1) c4 bt tL e]) hid
  refine⟨F',_,Y,_,f1,bb,λr ⟨b,aa,e⟩=>⟨f b,au.xL aa,e⟩,iI,λl aM L n st e=>by simpa [aC.cB,qq]using au.aW l aM L n st e,Db,λL6 hH KQ GY bn aE w' nk ej hM=>?_⟩;have C':∀ (b:Nat) (q':Nat×b3),q'∈c.bM.bD->q'.1=b->b∈c.cm.oK->∀ (R:Type) (z:q'.2.cons R),((q'.2.body (h1 cf) z).1.fK=true->((s.cB bV).ab (f b)).body.fK=true)/\((q'.2.body (h1 cf) z).1.gX=true->((s.cB bV).ab (f b)).body.gX=true)/\(q'.2.body (h1 cf) z).1.mU=false:=by
    intro b q' tL e aa R z;obtain⟨q,bt,rfl,L7⟩:=GX b aa;have ak:=List.all_eq_true.1 (List.all_eq_true.1 GW q' tL) q bt;rw[e,L7]at ak;simp only[beq_self_eq_true,Bool.and_self,Bool.not_true,Bool.false_or]at ak;rcases GR db c.cm.bD (eD db c.cm.bU D).2 q.1 with⟨_,U⟩ | ⟨dI,U,ah,L1,mv,a6⟩
    · grind
    · obtain rfl:=C8 c3 U bt ah
      have a6:(c.cm.st D).ab dI.1=⟨0,(dI.2.body db mv).1⟩:=a6
      obtain⟨aQ,aS,bN⟩:=af7 ak z mv (g:=h1 cf) (g':=db)
      have ua:=au.z8 dI.1
      refine⟨λhc=>?_,λhc=>?_,bN⟩
      · have bL:=au.b1 dI.1 (by grind)
        simp only[aC.cB,if_neg bL.1]
        exact ua.2.1 (by grind)
      · have bL:=au.b1 dI.1 (by grind)
        simp only[aC.cB,if_neg bL.1]
        exact ua.2.2.2.1 (by grind)
  have agd:cf.map (·.1)=c.bM.bD.map (·.1):=by rw[<-TE];exact Tw ..
  have gu:Ty (s.cB bV) κ (λb=>if b∈c.cm.bD.map (·.1) then some (κ (f b)).ab else none,λb=>if b∈c.cm.bD.map (·.1)/\w9<=b then some (κ (f b),((c.cm.st D).ab b).body.len) else none) (hk (h1 cf) c.bM.bD (eD (h1 cf) c.bM.bU bn).2) cf:=by
    refine⟨c5,lW,xh,c9,λp aq=>?_⟩;rw[<-TE]at aq;rcases Tx _ _ _ _ _ _ aq with⟨E,U,t,ah,a6⟩ | ⟨_,U,ah,a6⟩
    · rw[U]
      have jS:p.1∈c.cm.bD.map (·.1):=by
        grind
      rcases GR (h1 cf) c.bM.bD (eD (h1 cf) c.bM.bU bn).2 p.1 with⟨_,aS⟩ | ⟨q',aQ,aS,R,z,bN⟩
      · grind
      · rw[bN]
        obtain⟨dO,e3,mS⟩:=C' p.1 q' aQ aS E R z
        have:q'=(p.1,t):=C8 (agd ▸ c5) aQ ah aS
        subst this
        refine .inr ⟨λh=>⟨dO h,if_pos jS⟩,λh=>⟨e3 h,if_pos jS⟩,mS,a6.imp (λa6=>⟨a6.1,λfb=>?_⟩) id⟩
        rcases a6.2 with bL | ⟨ak,e,rfl⟩
        · grind
        · obtain⟨q,bt,LX,L7⟩:=GX p.1 E
          have xP:=List.all_eq_true.1 (List.all_eq_true.1 GW _ aQ) q bt
          rw[LX,L7]at xP
          simp only[beq_self_eq_true,Bool.and_self,Bool.not_true,Bool.false_or]at xP
          rcases GR db c.cm.bD (eD db c.cm.bU D).2 p.1 with⟨_,xj⟩ | ⟨dI,m2,m3,L1,mv,m4⟩
          · grind
          · obtain rfl:=C8 c3 m2 bt (m3.trans LX.symm)
            have m4:(c.cm.st D).ab p.1=⟨0,(dI.2.body db mv).1⟩:=m4
            obtain⟨dr,L8⟩:=dI
            have xP:b3.Gg (.bh e) L8=true:=xP
            obtain rfl:L8=.bh e:=by
              cases L8<;>first | (simp only[b3.Gg,decide_eq_true_eq]at xP;rw[xP]) | cases xP
            have ua:=au.z8 p.1
            have age:((c.cm.st D).ab p.1).body.fi=true:=by rw[m4];rfl
            obtain⟨b8,cw,ef⟩:=ua.2.2.1 age
            have bj:((s.cB bV).ab (f p.1)).body.fi=true/\((s.cB bV).ab (f p.1)).body.len=(s.ab (f p.1)).body.len/\((s.cB bV).ab (f p.1)).body.e4=(s.ab (f p.1)).body.e4:=by
              simp only[aC.cB];split
              · rcases zw s.ab (s.ab (f p.1)) with a7 | ⟨_,_,ai,a7⟩ | ⟨_,_,_,ai,_⟩ | ⟨_,_,_,_,ai,_,_⟩
                · grind
                · rw[a7,ai];exact⟨rfl,rfl,rfl⟩
                · have b8:(s.ab (f p.1)).body.fi=true:=b8
                  rw[ai]at b8;cases b8
                · have b8:(s.ab (f p.1)).body.fi=true:=b8
                  rw[ai]at b8;cases b8
              grind
            have cw:((c.cm.st D).ab p.1).body.len=(s.ab (f p.1)).body.len:=cw
            have ef:((c.cm.st D).ab p.1).body.e4=(s.ab (f p.1)).body.e4:=ef
            refine⟨bj.1,?_,?_⟩
            · rw[bj.2.2,<-ef,m4];rfl
            grind
    · refine .inl ⟨?_,by omega⟩
      unfold eT
      omega
  obtain⟨n7,fp⟩:=aga (ins:=c.cm.oK.map f) (X:=if c.bM.bU.any (λp=>p.1 == b5) then ft (eD (h1 cf) c.bM.bU bn).1 b5 else if c.cm.bU.any (λp=>p.1 == b5) then .undef else (s.cB bV).aA b5)
    (H':=(xC (s.cB bV) c f cf bn).ab)
    (κn:=λb=>match cf.find? (λp=>p.2.1 == b) with
      | some p=>nk p.1
      | none=>κ b) KQ ⟨GY.eN,GY.low,GY.own,GY.GS⟩ (λr ⟨b,aa,e⟩=>⟨f b,List.mem_map_of_mem (au.b1 b aa).2.2,au.xL aa,e⟩) hM gu
    (λp aq=>by simp only[xC,GQ (k:=λp=>p.2.1) lW aq,and_self]) (λb aa=>by
      have ax:cf.find? (λp=>p.2.1 == b)=none:=List.find?_eq_none.2 λp aq e=>aa (List.mem_map.2 ⟨p,aq,by grind⟩);simp only[xC,ax,true_and];grind)
    (by
      split
      · simp
      · split
        · simp
        · rename_i U
          exact .inr (.inr ⟨rfl,xO c.cm.bU db D b5 (Bool.eq_false_iff.2 U)⟩))
  exact⟨_,n7,fp⟩
theorem TF(bg:∀ i,o.dst=some i->i<C.nt){f0:Operand}{args:Array Operand}{dp:Array TypeId}(ag:o.op=.call { callee:=.value f0,args:=args,argTypes:=dp }){c:cM}(ao:∀ D a w,cv C s a w->(c.sh D).cr->∃ k,cS C.P C.aP k c/\a.eval f0=.func (.func k) #[] #[]){cc:h0}
  (h:xD C.aP s o args.toList c=some cc):qo C o s cc:=by
 obtain⟨args⟩:=args;unfold xD at h;generalize axW:rk c (sv s (rj C.aP s args))=f at h;split at h
 ·rename_i D bV n6;split at h
  ·rename_i ec;cases h;have agf:re (a8 C.aP s.aA) o->jM (args.map (a8 C.aP s.aA)):=λaa=>C3 aa λx ai=>by rw[ag];simp[Op.operands,Call.operands];simp_all
   refine⟨λa w Q K M bc L9=>?_,λgs oN=>(by grind),agf⟩;obtain⟨k,ao,ak⟩:=ao D a w M L9.1;obtain⟨κ,F,M⟩:=M;have hlen:args.length=c.kh/\args.length<=eT:=by
    simp only[CW,Bool.and_eq_true,decide_eq_true_eq]at ec;omega
   have dX:=M.args (avs:=rj C.aP s args) (us:=args.map a.eval) (by grind) (by simp[rj]) λi G=>by
    have ds:i<args.length:=by grind
    have E:=sd bc i (by grind);have az:(args.map (a8 C.aP s.aA)).getD i .undef=a8 C.aP s.aA args[i]:=by grind
    rw[az]at E;have aN:(rj C.aP s args).getD i .undef=(use (a8 C.aP s.aA args[i])).2:=by simp[rj,List.getD_eq_getElem?_getD,ds]
    have cL:(args.map a.eval).getD i undef=a.eval args[i]:=by grind
    rw[aN,cL];exact pg (j' M args[i]) E
   obtain⟨F',own,Y,il,_,bb,_,iI,_,Db,L_⟩:=TD M dX rfl n6 rfl ec;have c_:(execOp a.eval o).run C.P w=.ok (.enter k (args.map a.eval).toArray) w:=by
    simp only[execOp,ag,Sem.run_bind,resolve,ak,Deferred.ofValue,Sem.run_pure,Result.andThen_ok,invoke];have:=ao.enter (args.map a.eval).toArray w;grind
   have uc:=ao.bC Db rfl rfl rfl rfl (by show (args.map a.eval).length=_;grind) rfl L9.1;refine CD (by grind) c_ uc λe w' ⟨v,bn,aE,nk,ej,he,gh,GZ,hM⟩=>⟨v,he,L9.2 bn gh _ _ ?_⟩
   obtain⟨κn,n7,fp⟩:=L_ C.w0 w bb iI bn aE w' nk ej hM;exact⟨_,ej,bm.set n7 bg (af8 GZ λj=>by simpa [Array.getD_eq_getD_getElem?,List.getD_eq_getElem?_getD]using fp j)⟩
  grind
 grind
theorem agh(bg:∀ i,o.dst=some i->i<C.nt){k:Nat}{args:Array Operand}{dp:Array TypeId}(ag:o.op=.call { callee:=.value (.func k),args:=args,argTypes:=dp }){c:cM}(ao:cS C.P C.aP k c){cc:h0}
  (h:xD C.aP s o args.toList c=some cc):qo C o s cc:=
 TF bg ag (λ_ _ _ _ _=>⟨k,ao,rfl⟩) h
theorem cS.zg{P:Program}{aH:dG}{k:FuncId}{c:cM}(h:cS P aH k c){sh:c.cm.aj->A c.bM.aj}(aD:∀ D,A.le (c.sh D) (sh D)):cS P aH k { c with sh:=sh } where
 enter:=h.enter
 iY:=λC a w κ F D az aN cL ee hv jF M ra=>by
  obtain⟨aQ,aS⟩:=aD D ra;exact (h.iY C a w κ F D az aN cL ee hv jF M aQ).mono λe w' ⟨v,bn,aE,κ',F',E,U,ah⟩=>⟨v,bn,aE,κ',F',E,aS bn U,ah⟩
theorem agi{Ψ:Nat->Option e7}(bg:∀ i,o.dst=some i->i<C.nt){t:Nat}{args:Array Operand}{dp:Array TypeId}(ag:o.op=.call { callee:=.value (.tmp t),args:=args,argTypes:=dp })
  (c1:∀ c sh ids,Ψ S4=some (.Gq c sh ids)->∀ k∈ids,cS C.P C.aP k { c with sh:=sh k }) {cc:h0} (h:Gu C.aP Ψ s o t args.toList=some cc):qo C o s cc:=by
 unfold Gu at h;split at h
 ·rename_i n ax;split at h
  ·rename_i c sh ids hc;refine TF bg ag (λD a w M aD=>?_) h;obtain⟨⟨k,ak,rfl⟩,_⟩:=aD;refine⟨k,(c1 c sh ids hc k ak).zg (sh:=(S5 c sh ids (some k)).sh) λD h=>⟨h.2,λy aT=>aT⟩,?_⟩;obtain⟨κ,F,M⟩:=M;have af:bA C.P s.ab κ F w (s.aA t) (a.tmps.getD t undef):=M.bU t;rw[ax]at af;obtain⟨_,af⟩:=(dU rfl).1 af;exact (List.cons.inj af).1
  ·cases h
 ·cases h
end
end Go.Fer
namespace Go.Fer
open Go.RowKit
section
variable {C:b_} {o:Oper} {s:aC}
theorem bm.round{s:aC}{a:Act}{w w':World}{κ:Nat->bB}{F' ej Y G0:Nat->Prop}{l:Nat}{aM:ad}{L:List aM.aj->Prop}{I}{dP:List aM.aj}{L':Bool}(M:bm C s a w κ F')(oO:C.cc=⟨l,aM,L,I⟩)(cN:C.cc.hE C.P)
    (aT:∀ r,Y r->r<w.heap.size/\¬F' r/\¬C.K0 r) (Ma:∀ b,(s.ab b).body.b1 (κ b)=true->¬Y (κ b).ab)
    (g1:∀ r,F' r->ej r) (ew:∀ r,ej r->F' r\/Y r\/w.heap.size<=r) (g3:∀ r,ej r->r<w'.heap.size) (g4:∀ r,r<w.heap.size->¬Y r->w'.heap[r]?=w.heap[r]?)
    (g5:∀ r,G0 r->(Y r\/w.heap.size<=r)/\r<w'.heap.size/\¬ej r) (g6:w.heap.size<=w'.heap.size) (g7:de w w') (g8:I dP L' ej G0 w') :
    bm C ⟨λi=>if i=b5 then .aW l aM L dP L' else s.aA i,s.ab⟩ a w' κ ej:=by
  have qp:c8 F' w w':=⟨g6,λr h=>g4 r (M.dd r h) λCw=>(aT r Cw).2.1 h⟩
  have ls:∀ r,w.heap.size<=r->¬C.K0 r:=λr h ak=>by have:=M.hx r ak;have:=M.size;omega
  refine { dH := M.dH, dfr := M.dfr, bU := λi => ?_, bD := λb => cG.ll (M.bD b) (fs.refl _ _) g1 qp rfl rfl λag => g4 _ (M.own b ag).1 (Ma b ag), own := λb aa => ?_, inj := M.inj, dd := g3, hh := λr h => ?_,hU:=λr h=>g1 r (M.hU r h),hx:=M.hx,eH:=λr h=>?_,size:=Nat.le_trans M.size g6,ev:=M.ev.trans g7,gq:=M.gq,ks:=M.ks,jI:=M.jI,j7:=M.j7,kt:=M.kt,eN:=λdJ kE e8 i' ix e=>?_,jJ:=M.jJ,iD:=M.iD.mono g1 qp }
  · show bA C.P s.ab κ ej w' (if i=b5 then .aW l aM L dP L' else s.aA i) _
    split
    · trivial
    · exact bA.later (fs.refl _ _) g1 qp (M.bU i)
  · have h:=M.own b aa
    grind
  · rcases ew r h with h | h | h
    · exact M.hh r h
    · exact .inr (aT r h).2.2
    · exact .inr (ls r h)
  · exact (g4 r (Nat.lt_of_lt_of_le (M.hx r h) M.size) λk=>(aT r k).2.2 h).trans (M.eH r h)
  · simp only[if_true]at e
    cases e
    refine⟨⟨I,oO⟩,cN,G0,λr h=>⟨(g5 r h).2.1,(g5 r h).2.2,?_⟩,λb aa h=>?_,?_⟩
    · grind
    · rcases (g5 _ h).1 with h | h
      · grind
      · exact absurd (M.own b aa).1 (Nat.not_lt.2 h)
    · rw[oO];exact lT.zb.2 g8
theorem agj(bg:∀ i,o.dst=some i->i<C.nt){t:Nat}{args:Array Operand}{dp:Array TypeId}(ag:o.op=.call { callee:=.value (.tmp t),args:=args,argTypes:=dp }){cc:h0}
  (h:Gv C.aP s o t args.toList=some cc):qo C o s cc:=by
 obtain⟨args⟩:=args;unfold Gv at h;split at h
 ·rename_i dJ l aM L n st Mb tW;split at h
  ·rename_i x bV ai;cases h;refine⟨λa w Q K M bc hm=>?_,λgs oN=>(by grind),λaa=>C3 aa λx ai=>by rw[ag];simp[Op.operands,Call.operands];simp_all⟩;obtain⟨κ,F,M⟩:=M;rw[A.kP]at hm;obtain⟨⟨rfl,rfl,G1⟩,hm⟩:=hm;obtain⟨F',f1,bb,f2⟩:=bm.lp (qi _ ai) M;have dX:fr C.P aM F' w (args.map a.eval) x:=by
    refine vo M.bD f1 aM ai f2 (by simp) λi G dM=>?_;simp only[List.getElem_map];have ds:i<args.length:=by grind
    have E:=sd bc i (by grind);have az:(args.map (a8 C.aP s.aA)).getD i .undef=a8 C.aP s.aA args[i]:=by grind
    rw[show (List.map (a8 C.aP s.aA) (⟨args⟩:Array Operand).toList)=args.map (a8 C.aP s.aA) from rfl,az]at E;exact pg (j' M args[i]) E
   have af:a.eval (.tmp t)=.func (.yield dJ) #[] #[]:=by
    have:=j' M (.tmp t);have e:a8 C.aP s.aA (.tmp t)=.hg dJ:=Mb;rw[e]at this;exact this
   obtain⟨⟨I,oO⟩,cN,Y,aT,Ma,eB⟩:=bb.eN dJ aM L n false tW;have agk:lT.hE C.P ⟨dJ,aM,L,I⟩:=oO ▸ cN;rw[oO]at eB;have eB:=lT.zb.1 eB;obtain⟨fn,tmps,assign,body,E,U⟩:=agk.yield eB bb.dd (λr h=>⟨(aT r h).1,(aT r h).2.1⟩) G1 dX;have c_:(execOp a.eval o).run C.P w=.ok (.round dJ fn tmps assign body) w:=by
    simp only[execOp,ag,Sem.run_bind,resolve,af,Deferred.ofValue,Sem.run_pure,Result.andThen_ok,invoke];grind
   refine⟨λ_ _=>trivial,?_⟩;rw[zq (by grind),c_,Oper.uponIn_round];refine⟨λaD=>(by cases aD),?_⟩;have ah:RoundIn (dS C.r) 0 C.P dJ fn tmps assign body w _:=U;refine ah.mono λe w' ⟨b,ej,G0,he,g1,ew,g3,g4,g5,g6,g7,g8⟩=>?_;subst he;refine hm.2 b trivial _ _ ⟨κ,ej,bm.set ?_ bg (fh.2 rfl)⟩;exact bb.round oO cN aT Ma g1 ew g3 g4 g5 g6 g7 g8
  grind
 grind
end
end Go.Fer
namespace Go.Fer
open Go.RowKit
section
variable {C:b_} {T:Nat->ad} {bf:Nat->Option aO} {s:aC} {res:eC}
theorem TG{ms:Array MapEntry}{j:Nat}(aG:j<ms.size)(hu:∀ i (h:i<ms.size),ms[i].born=ms[j].born->i=j):ms.findIdx? (λe=>(e.born:Int) == (ms[j].born:Int))=some j:=by
 rw[Array.findIdx?_eq_some_iff_getElem];grind
theorem agl(ms:Array MapEntry)(e:MapEntry)(f:MapEntry->MapEntry):(ms.push e).modify ms.size f=ms.push (f e):=by
 grind
theorem agm(ms:Array MapEntry)(j:Nat)(f g:MapEntry->MapEntry):(ms.modify j f).modify j g=ms.modify j λe=>g (f e):=by
 grind
theorem Ae{a:Act}{d:Nat}{v:Value}{x:Operand}(h:x≠.tmp d):(a.put (some d) v).eval x=a.eval x:=Act.eval_put λvb e=>by grind
theorem Dc{a:Act}{d:Nat}{v:Value}(h:d<a.tmps.size):(a.put (some d) v).eval (.tmp d)=v:=by
 simp[Act.put,Act.eval,Array.getD_eq_getD_getElem?,h]
theorem agn(aV:dT C.P T){hV gF kY ki:Oper}{d1 d2:Nat}{ty:TypeId}{m x y:Operand}(E:hV.op=.mapEntry ty m x)(t1:hV.dst=some d1)(U:gF.op=.extract (.tmp d1) 1)(t2:gF.dst=some d2)
  (ah:kY.op=.entryStore ty m (.tmp d2) y) (t3:kY.dst=none) (h2:ki.op=.mapUpdate ty m x y) (Mc:ki.dst=none) (kj:m≠.tmp d1) (pB:m≠.tmp d2) (xQ:y≠.tmp d1) (sE:y≠.tmp d2) (qk:d1<C.nt) (h3:d2<C.nt)
  (h:(bu C.aP T bf (a8 C.aP s.aA) ki).run s.ab=some res) {a:Act} {w:World} {κ:Nat->bB} {F:Nat->Prop} {Q:Exit->Act->World->Prop} {K:Act->World->Prop} (M:bm C s a w κ F) (bc:res.ca) (hc:res.c)
  (iN:∀ a' w',cv C (((s.ia none res).set (some d1) .undef).set (some d2) .undef) a' w'->K a' w') :
  hV.wpIn (dS C.r) 0 C.P a w (λb6 ck=>gF.wpIn (dS C.r) 0 C.P b6 ck (λa2 da=>kY.wpIn (dS C.r) 0 C.P a2 da K Q) Q) Q:=by
 have kW:=KO aV Mc (.inl h2) h a w κ F Q M bc hc;rw[Mc]at kW;have az:∀ c,hV.op≠.defer c:=by grind
 have aN:∀ c,gF.op≠.defer c:=by grind
 have cL:∀ c,kY.op≠.defer c:=by grind
 have ago:∀ c,ki.op≠.defer c:=by grind
 simp only[bu,h2,q2]at h;split at h
 ·rename_i k v aF;obtain⟨lu,zH,G,na,hj⟩:=(aV.cb aF (by simp)).mp;obtain⟨inf,mz,i1,i2,i3,i4,i5,i6⟩:=kx hj.kv;split at h
  ·rename_i xR;split at h
   ·rename_i b g tR;simp only[ar.e6,Option.bind_eq_some_iff,ar.run_bind,ar.e5,ar.bO]at h;obtain⟨⟨dL,oA⟩,ai,⟨nb,oB⟩,aT,h⟩:=h;split at h
    ·rename_i ay;obtain⟨ay,qg⟩:=ay;have qg:b ∉ oA++oB:=by
      grind
     split at h
     ·rename_i k' h9 es aa;simp only[Option.map_eq_some_iff]at h;obtain⟨Su,pk,rfl⟩:=h;obtain⟨e,rfl⟩:=kR pk;cases e;obtain⟨F',f1,bb,f2⟩:=bm.lp ((mZ ai).append (mZ aT)) M;have hm:bA C.P s.ab κ F w (use (a8 C.aP s.aA m)).2 (a.eval m):=cQ M m rfl bc.1;rw[tR]at hm;have kX:=hm.2 ay.symm (by rw[aa];rfl);have tS:=mq M.bD f1 ai f2.left (cQ M x rfl bc.2.1);have po:(s.cB (oA++oB)).ab b=s.ab b:=by simp only[aC.cB];grind
      have aU:=bb.bD b;unfold cG at aU;rw[po,aa]at aU;obtain⟨ms,clk,hw,sr⟩:=aU;have fl:k.kT=true/\k.j_<=100:=by simpa [tG]using xR
      have ec:=(CE (em:=false) k 10000 fl.1 (by omega)).1 na tS;have lv:=sr.es;obtain⟨f,dr,dI⟩:=xn (β:=v.aj) (xs:=es) (es:=ms.toList) xR na tS lv.1 (λj e p E U=>(lv.2 j e p E U).1);have eX:(getObj (κ b).ab).run C.P w=.ok (.map ms clk) w:=by simp[getObj,Sem.run,hw]
      obtain⟨hx,KP,F4,Sv⟩:=sr;have ud:d1<a.tmps.size:=by have:=M.dH;omega
      have ch:(κ b).ab<w.heap.size:=(Array.getElem?_eq_some_iff.1 hw).1;have chain:∀ (ck da:World) (u:Value) (n:Int),(execOp a.eval hV).run C.P w=.ok (.value (.tuple #[u,goInt n])) ck->(Instr.entryStore ty (.map (some (κ b).ab)) (goInt n) (a.eval y)).run C.P ck=.ok () da->
        (execOp a.eval ki).run C.P w=.ok .skip da->
        hV.wpIn (dS C.r) 0 C.P a w (λb6 ck=>gF.wpIn (dS C.r) 0 C.P b6 ck (λa2 da=>kY.wpIn (dS C.r) 0 C.P a2 da K Q) Q) Q:=by
       intro ck da u n b8 cw agp;have ke:=kW.2;rw[zq ago,agp,Oper.uponIn_skip,Mc]at ke;refine hy az b8 ?_;rw[t1];have agq:(a.put (some d1) (.tuple #[u,goInt n])).eval (.tmp d1)=.tuple #[u,goInt n]:=Dc ud;refine hy (v:=goInt n) (w':=ck) aN (by simp[execOp,U,agq,Instr.extract]) ?_;rw[t2];have agr:d2<(a.put (some d1) (.tuple #[u,goInt n])).tmps.size:=by have:=M.dH;simp[Act.put];omega
       have ags:((a.put (some d1) (.tuple #[u,goInt n])).put (some d2) (goInt n)).eval (.tmp d2)=goInt n:=Dc agr;have Md:((a.put (some d1) (.tuple #[u,goInt n])).put (some d2) (goInt n)).eval m=.map (some (κ b).ab):=by rw[Ae pB,Ae kj,kX]
       have agt:((a.put (some d1) (.tuple #[u,goInt n])).put (some d2) (goInt n)).eval y=a.eval y:=by rw[Ae sE,Ae xQ]
       refine FO cL (w':=da) (by simp only[execOp,ah,ags,Md,agt,Sem.run_bind,cw,Result.andThen_ok,Sem.run_pure]) ?_;rw[t3];refine iN _ _ ?_;obtain⟨κ',F',ke⟩:=ke;exact⟨κ',F',bm.set (bm.set (d:=some d1) (av:=.undef) ke (λi e=>by grind) trivial) (λi e=>by grind) trivial⟩
      rcases dI with⟨rfl,eQ⟩ | ⟨j,e,p,g1,ew,g3,g4,rfl⟩
      ·refine chain { w with heap:=w.heap.setIfInBounds (κ b).ab (.map (ms.push { key:=a.eval x,val:=mz,born:=clk }) (clk+1)) } { w with heap:=w.heap.setIfInBounds (κ b).ab (.map (ms.push { key:=a.eval x,val:=a.eval y,born:=clk }) (clk+1)) } mz clk ?_ ?_ ?_
       ·simp only[execOp,E,kX,Instr.mapEntry,Sem.run_bind,dD G,Result.andThen_ok,eX,ec,dr,q3 i1 i4,sq hw,Sem.run_pure]
       ·have Me:(getObj (κ b).ab).run C.P { w with heap:=w.heap.setIfInBounds (κ b).ab (.map (ms.push { key:=a.eval x,val:=mz,born:=clk }) (clk+1)) }=.ok (.map (ms.push { key:=a.eval x,val:=mz,born:=clk }) (clk+1)) { w with heap:=w.heap.setIfInBounds (κ b).ab (.map (ms.push { key:=a.eval x,val:=mz,born:=clk }) (clk+1)) }:=by simp[getObj,Sem.run,ch]
        have Mf:(ms.push { key:=a.eval x,val:=mz,born:=clk }).findIdx? (λe=>(e.born:Int) == (clk:Int))=some ms.size:=by
         have:=TG (ms:=ms.push { key:=a.eval x,val:=mz,born:=clk }) (j:=ms.size) (by simp) λi G he=>by
          grind
         grind
        simp only[Instr.entryStore,Sem.run_bind,Me,Result.andThen_ok,goInt,asInt,asIntOf,Sem.run_pure,Mf];rw[sq (es:=ms.push { key:=a.eval x,val:=mz,born:=clk }) (clk:=clk+1) (by grind),agl];simp
       ·simp only[execOp,h2,kX,Instr.mapUpdate,Sem.run_bind,dD G,Result.andThen_ok,eX,ec,dr,sq hw,Sem.run_pure]
      ·have aG:j<es.length:=(List.getElem?_eq_some_iff.1 ew).1;have xo:j<ms.size:=by omega
       have KR:ms[j]=e:=by
        grind
       obtain⟨js,ck,b8,cw,ef⟩:=KN C.P w e.key (a.eval x);have l1:ck.heap[(κ b).ab]?=some (.map ms clk):=by rcases ef with rfl | rfl<;>exact hw
       have TH:(κ b).ab<ck.heap.size:=(Array.getElem?_eq_some_iff.1 l1).1;have nY:((ms[j]?).map (·.key)).getD (a.eval x)=e.key:=by
        grind
       have Mg:((ms[j]?).map (λx=>(x.born:Int))).getD 0=(ms[j].born:Int):=by grind
       rw[Nat.zero_add]at dr;refine chain { ck with heap:=ck.heap.setIfInBounds (κ b).ab (.map (ms.modify j λe=>{ e with key:=js }) clk) } { ck with heap:=ck.heap.setIfInBounds (κ b).ab (.map (ms.modify j λe=>{ e with key:=js,val:=a.eval y }) clk) } e.val ms[j].born ?_ ?_ ?_
       ·simp only[execOp,E,kX,Instr.mapEntry,Sem.run_bind,dD G,Result.andThen_ok,eX,ec,dr];rw[nY,b8];simp only[Result.andThen_ok,sq l1,Sem.run_pure,Mg]
       ·have Me:(getObj (κ b).ab).run C.P { ck with heap:=ck.heap.setIfInBounds (κ b).ab (.map (ms.modify j λe=>{ e with key:=js }) clk) }=.ok (.map (ms.modify j λe=>{ e with key:=js }) clk) { ck with heap:=ck.heap.setIfInBounds (κ b).ab (.map (ms.modify j λe=>{ e with key:=js }) clk) }:=by simp[getObj,Sem.run,TH]
        have mA:∀ i (h:i<(ms.modify j λe=>{ e with key:=js }).size),((ms.modify j λe=>{ e with key:=js })[i]).born=(ms[i]'(by grind)).born:=by
         grind
        have Mf:(ms.modify j λe=>{ e with key:=js }).findIdx? (λe=>(e.born:Int) == (ms[j].born:Int))=some j:=by
         have:=TG (ms:=ms.modify j λe=>{ e with key:=js }) (j:=j) (by grind) λi G he=>by
          grind
         grind
        simp only[Instr.entryStore,Sem.run_bind,Me,Result.andThen_ok,goInt,asInt,asIntOf,Sem.run_pure,Mf];rw[sq (es:=ms.modify j λe=>{ e with key:=js }) (clk:=clk) (by grind),agm];simp
       ·simp only[execOp,h2,kX,Instr.mapUpdate,Sem.run_bind,dD G,Result.andThen_ok,eX,ec,dr];rw[nY,b8];simp only[Result.andThen_ok,sq l1,Sem.run_pure]
     grind
    grind
   ·cases h
  ·cases h
 ·cases h
end
end Go.Fer
namespace Go.Fer
open Go.RowKit
structure Dd(P:Program)(k:FuncId)(c:zV):Prop where
 enter:∀ args w,(callFunc k args).run P w=.ok (.enter k args) w
 iY:∀ (l:Nat) (I:List c.aM.aj->Bool->(Nat->Prop)->(Nat->Prop)->World->Prop) (F Y:Nat->Prop) (w:World) (args:List Value) (x:c.ts.aj),fr P c.ts F w args x->c.pre x->lT.hE P ⟨l,c.aM,λT=>T=c.seq x,I⟩->
  (∀ r,F r->r<w.heap.size)->nQ P F w->(∀ r,Y r->r<w.heap.size/\¬F r)->I [] false F Y w->Calls P k (args++[Value.func (.yield l) #[] #[]]).toArray w λe w'=>
   ∃ v pre st F' gD,e=.returned v/\(st=false->pre=c.seq x)/\I pre st F' gD w'/\(∀ r,F r->F' r)/\(∀ r,F' r->F r\/Y r\/w.heap.size<=r)/\(∀ r,F' r->r<w'.heap.size)/\
    (∀ r,r<w.heap.size->¬Y r->w'.heap[r]?=w.heap[r]?)/\(∀ r,gD r->(Y r\/w.heap.size<=r)/\r<w'.heap.size/\¬F' r)/\w.heap.size<=w'.heap.size/\de w w'
def e7.hE(P:Program)(aH:dG)(k:FuncId):e7->Prop
 | .dx c=>h8 P k c.ts c.aW c.sh/\(c.dR=true->∀ x,(c.sh x).CS)
 | .fc c=>cS P aH k c
 | .ct c=>Dd P k c
 | .Lv c=>h8 P k c.ts c.aW c.sh/\Rt P k c.ts c.aW c.sh
 | .Gq c sh ids=>∀ k∈ids,cS P aH k { c with sh:=sh k }
 | .kG c=>nT c.aW=true/\CB P k c
def l6(P:Program)(aH:dG)(Ψ:Nat->Option e7):Prop:=∀ k c,Ψ k=some c->c.hE P aH k
section
variable {C:b_} {T:Nat->ad} {bf:Nat->Option aO} {Ψ:Nat->Option e7} {s:aC} {o:Oper} {Q:Exit->Act->World->Prop} {ops:Array Oper}
theorem agu(cC:jq C.P bf)(c1:l6 C.P C.aP Ψ){k:Nat}{c:hK}(h:Lw bf Ψ k=some c):h8 C.P k c.ts c.aW c.sh:=by
 unfold Lw at h;split at h
 ·rename_i c' jO;cases h;have:e7.hE C.P C.aP k (.dx c):=c1 k _ jO;exact this.1
 ·cases h
 ·obtain⟨f,ao,h⟩:=Option.bind_eq_some_iff.1 h;split at h
  ·cases h
  ·rename_i he;cases h;exact (cC k f ao).1 (by simpa using he)
theorem agv{P:Program}{w:World}{ty j:TypeId}(aG:P.underlying ty=some (.slice j))(q:Option Addr)(n cap d:Nat):(Op.equalIn (d+1) ty (.slice q n cap) (.slice none 0 0)).run P w=.ok q.isNone w:=by
 cases q<;>simp[Op.equalIn,dD aG]
theorem agw{P:Program}{w:World}(op:BinOp)(t:TypeId)(x y:Operand)(q q':Option Addr)(n i' cap cap':Nat):(eqGuard op t x y (.slice q n cap) (.slice q' i' cap')).run P w=.ok () w:=by
 cases op<;>simp[eqGuard]
theorem TI{P:Program}{w:World}{ty j:TypeId}{x y:Operand}(aG:P.underlying ty=some (.slice j))(q:Option Addr)(n cap:Nat) :
  (do eqGuard .eql ty x y (.slice q n cap) (.slice none 0 0);binOp .eql ty (.slice q n cap) (.slice none 0 0):Sem Value).run P w=.ok (.bool q.isNone) w/\(do eqGuard .neq ty x y (.slice q n cap) (.slice none 0 0);binOp .neq ty (.slice q n cap) (.slice none 0 0):Sem Value).run P w=.ok (.bool (!q.isNone)) w:=by
 have h:(Op.equalIn 10000 ty (.slice q n cap) (.slice none 0 0)).run P w=.ok q.isNone w:=agv (w:=w) aG q n cap 9999;constructor<;>simp[agw,binOp,Op.equal,Op.maxDepth,h]
theorem agx(aV:dT C.P T)(bg:∀ i,o.dst=some i->i<C.nt){op:BinOp}{ty mX:TypeId}{x y:Operand}(ag:o.op=.binOp op ty x y mX){cc:h0}(h:CY C.aP T s o op ty x y=some cc):qo C o s cc:=by
 have zu:∀ c,o.op≠.defer c:=by grind
 unfold CY at h;split at h
 ·rename_i e aF agy;have dq:=aV.cb aF (by simp);obtain⟨j,aG,_⟩:=dq.sl;split at h
  ·rename_i xs l hX;have key:∀ (a:Act) (w:World) (κ:Nat->bB) (F:Nat->Prop),bm C s a w κ F->(use (a8 C.aP s.aA x)).1->∃ b:Bool,(b=true->xs=[])/\(op=.eql->(execOp a.eval o).run C.P w=.ok (.value (.bool b)) w)/\(op=.neq->(execOp a.eval o).run C.P w=.ok (.value (.bool (!b))) w):=by
    intro a w κ F M bc;have ai:=Ci M hX (cQ M x rfl bc);obtain⟨_,q,cap,az,m1,m2,m3,_⟩:=(dU rfl).1 ai;have az:=(List.cons.inj az).1;have aT:a.eval y=.slice none 0 0:=by
     have:=j' M y;rw[agy]at this;exact this
    refine⟨q.isNone,λbt=>?_,λkW=>?_,λkW=>?_⟩
    ·simp_all
    ·subst kW;have M:=(TI (w:=w) (x:=x) (y:=y) aG q xs.length cap).1;rw[<-az,<-aT]at M;simp only[execOp,ag,Sem.run_bind]at M ⊢;simp_all
    ·subst kW;have M:=(TI (w:=w) (x:=x) (y:=y) aG q xs.length cap).2;rw[<-az,<-aT]at M;simp only[execOp,ag,Sem.run_bind]at M ⊢;simp_all
   split at h
   ·cases h;refine⟨λa w Q K M bc hm=>?_,λgs oN=>(by grind),λaa=>aa x (by rw[ag];simp[Op.operands])⟩;obtain⟨κ,F,M⟩:=M;obtain⟨b,dO,e3,_⟩:=key a w κ F M bc;exact hy zu (e3 rfl) (hm.2 b dO _ _ ⟨κ,F,bm.set M bg (fh.2 rfl)⟩)
   ·cases h;refine⟨λa w Q K M bc hm=>?_,λgs oN=>(by grind),λaa=>aa x (by rw[ag];simp[Op.operands])⟩;obtain⟨κ,F,M⟩:=M;obtain⟨b,dO,_,e3⟩:=key a w κ F M bc;exact hy zu (e3 rfl) (hm.2 b dO _ _ ⟨κ,F,bm.set M bg (fh.2 rfl)⟩)
   grind
  grind
 grind
theorem Mh(aV:dT C.P T)(cC:jq C.P bf)(c1:l6 C.P C.aP Ψ)(bg:∀ i,o.dst=some i->i<C.nt){cc:h0}(h:rl C.aP T bf Ψ s o=some cc):qo C o s cc:=by
 unfold rl at h;split at h
 ·rename_i c ag;obtain⟨callee,args,dp⟩:=c;split at h
  ·rename_i f ao;simp only at ao;subst ao;split at h
   ·split at h
    ·rename_i c' jO;exact agh bg ag (c1 _ _ jO) h
    ·rename_i c' jO;have ah:e7.hE C.P C.aP _ (.Lv c'):=c1 _ _ jO;exact afU bg ag ah.1 ah.2 h
    ·split at h
     ·rename_i dx Mi;exact afT bg ag (agu cC c1 Mi) h
     grind
   ·split at h
    ·rename_i r M;cases h;exact afV bg ag M
    ·split at h
     ·rename_i r M;cases h;exact agi bg ag (λc sh ids hc=>c1 _ _ hc) M
     ·exact agj bg ag h
   grind
  grind
 ·rename_i ty x ag;exact afW aV bg ag h
 ·rename_i x str ag;exact af0 bg ag h
 ·rename_i x ag;exact afX bg ag h
 ·rename_i op ty x y mX ag;exact agx aV bg ag h
 grind
theorem TJ(want b:Bool):((some b == some want:Bool))=Gc want b:=by cases want<;>cases b<;>rfl
theorem TK{a:Act}{j d:Nat}{rv:Oper}(E:ops[j]?=some rv)(U:rv.dst=some d){b:Bool}(h:a.tmps.getD d Go.undef=.bool b):yielded ops a.tmps j=some b:=by
 have:a.tmps[d]?=some (.bool b):=by
  rw[Array.getD_eq_getD_getElem?]at h;cases he:a.tmps[d]? with
  | none=>rw[he]at h;cases h
  | some v=>grind
 simp[yielded,E,U,this]
theorem agz{a:Act}{j d:Nat}{rv:Oper}(E:ops[j]?=some rv)(U:rv.dst=some d)(h:a.tmps.getD d Go.undef=Go.undef):yielded ops a.tmps j=none:=by
 unfold yielded;rw[E];simp only[Option.bind_some,U];rw[Array.getD_eq_getD_getElem?]at h;cases he:a.tmps[d]? with
 | none=>rfl
 | some v=>rw[he]at h;cases h;rfl
theorem Mj{a:Act}{w:World}{κ:Nat->bB}{F:Nat->Prop}(M:bm C s a w κ F){g:Option Bool}(h:kC s.aA ops o.guard=some g) :
  Region.wanted o (yielded ops a.tmps)=g.getD true:=by
 unfold Region.wanted;cases ay:o.guard with
 | none=>rw[ay]at h;cases h;rfl
 | some p=>
  obtain⟨j,want⟩:=p;rw[ay]at h;simp only[kC]at h ⊢;split at h
  ·rename_i rv aG;split at h
   ·rename_i d au;have aD:=M.bU d;split at h
    ·rename_i b aa;cases h;rw[aa]at aD;rw[TK aG au (fh.1 aD),TJ];rfl
    ·rename_i g' b aa;cases h;rw[aa]at aD;obtain⟨E,U⟩:=aD;cases g' with
     | true=>
      rw[TK aG au (fh.1 (E rfl)),TJ];simp
     | false=>
      rw[agz aG au (U rfl)];rfl
    grind
   grind
  grind
theorem agA{ca c:Prop}{e' sz:aI}{hH xG:List (Nat×bK)}(ay:CZ o e' hH=some (xG,sz))(h:(bu C.aP T bf (a8 C.aP s.aA) o).run s.ab=some ⟨ca,c,e',hH⟩) :
    (∀ a w,cv C (s.ia o.dst ⟨ca,c,e',hH⟩) a w->cv C ((s.gf xG).set o.dst sz) a w)/\(∀ a w κ F,bm C s a w κ F->∃ κ' F',bm C (s.gf xG) a w κ' F'):=by
  unfold CZ at ay;split at ay
  · cases ay
    exact⟨λa w h=>h,λa w κ F h=>⟨κ,F,h⟩⟩
  · rename_i p dJ
    split at ay
    · rename_i Mk first c6 ag
      cases ay
      refine⟨λa w h=>h,λa w κ F M=>?_⟩
      simp only[bu,ag]at h
      split at h
      · split at h
        · split at h
          · simp only[ar.e6,Option.bind_eq_some_iff,ar.run_bind,ar.bO,Option.some.injEq]at h
            obtain⟨⟨y,l⟩,aT,he⟩:=h
            obtain⟨F',_,bb,_⟩:=bm.lp (qi _ aT) M
            have he:(jL l).run s.ab=p::dJ:=by grind
            rw[<-he,tI]
            grind
          · split at h
            · simp only[ar.e6,Option.bind_eq_some_iff,ar.run_bind,ar.bO,Option.some.injEq]at h
              obtain⟨⟨y,l⟩,aT,he⟩:=h
              obtain⟨F',_,bb,_⟩:=bm.lp (qi _ aT) M
              have he:(jL l).run s.ab=p::dJ:=by grind
              rw[<-he,tI]
              grind
            · simp only[bP,ar.bO,Option.some.injEq]at h
              cases h
        · split at h
          · simp only[bP,ar.bO,Option.some.injEq]at h
            cases h
          · cases h
      · cases h
    · rename_i ty n ps ag
      split at ay
      · rename_i be g' e xs bT
        split at ay
        · rename_i agB
          obtain⟨⟨rfl,rfl⟩,_⟩:=agB
          cases ay
          obtain⟨b,⟨agC,iM⟩⟩:=p
          simp only at bT
          subst bT
          have ls:o.dst=some b/\agC=(s.ab b).gen+1:=by
            simp only[bu,ag]at h;split at h
            · simp only[ar.e6,Option.bind_eq_some_iff,ar.run_bind]at h
              obtain⟨⟨ys,bV⟩,_,h⟩:=h
              obtain⟨b0,zL,ak⟩:=q5 h
              grind
            · cases h
          obtain⟨bg,rfl⟩:=ls
          refine⟨λa w ke=>?_,λa w κ F M=>?_⟩
          · obtain⟨κ,F,M⟩:=ke
            rw[bg]at M ⊢
            simp only[aC.ia,aC.gf]at M
            have ai:(dC (.slice e) (.own b ((s.ab b).gen+1))).run ((s.cz b ⟨(s.ab b).gen+1,.bh e xs⟩).set (some b) (.own b ((s.ab b).gen+1))).ab=some (xs,[b]):=by
              simp[dC,ku,dW,aC.set,aC.cz,eV,ad.eG]
            obtain⟨Af,f1,gP,f2⟩:=bm.lp (mZ ai) M
            have aD:=M.bU b
            have af:=mq (v:=a.tmps.getD b undef) M.bD f1 ai f2 (by simpa [aC.set]using aD)
            have fp:∀ i,i≠b->((s.cz b ⟨(s.ab b).gen+1,.bh e xs⟩).set (some b) (.own b ((s.ab b).gen+1))).aA i=s.aA i:=λi G=>by simp[aC.set,aC.cz,G]
            have cO:bm C ⟨λi=>if i=b then .val (.slice e) xs else s.aA i,(((s.cz b ⟨(s.ab b).gen+1,.bh e xs⟩).set (some b) (.own b ((s.ab b).gen+1))).cB [b]).ab⟩ a w κ Af:=
              { gP with
                dH:=gP.dH,dfr:=gP.dfr,bD:=gP.bD
                bU:=λi=>by
                  show bA _ _ _ _ _ (if i=b then .val (.slice e) xs else s.aA i) _;split
                  · rename_i G
                    subst G
                    exact af
                  · rename_i G
                    rw[<-fp i G]
                    exact gP.bU i
                eN:=λl aM L n st a7=>by
                  have a7:(if b5=b then aI.val (.slice e) xs else s.aA b5)=.aW l aM L n st:=a7;split at a7
                  · cases a7
                  · rename_i G
                    exact gP.eN l aM L n st ((fp b5 G).trans a7) }
            refine⟨κ,Af,cO.zg ⟨λi=>.inl ?_,λi=>?_⟩⟩
            · rfl
            · by_cases G:i=b
              · subst G
                right
                simp[aC.set,aC.gf,aC.cz,aC.cB,fk]
              · left
                simp[aC.set,aC.gf,aC.cz,aC.cB,G]
          · have ax:=LS M (b:=b) (e:=e)
            refine⟨_,F,ax.zg ⟨λi=>.inl rfl,λi=>?_⟩⟩
            by_cases G:i=b
            · subst G
              right
              simp[aC.gf,aC.cz]
            · left
              simp[aC.gf,aC.cz,G]
        grind
      grind
    grind
theorem sF{β:Type}{b:Bool}{p:Prop}{m:A β}{O:β->Prop}(aa:b=true->p):A.cy (sx b p m) O<->p/\A.cy m O:=by
 cases b with
 | true=>exact⟨λh=>⟨aa rfl,h⟩,λh=>h.2⟩
 | false=>exact A.kP
def qt(ops:Array Oper)(s:aC)(tg:px):Prop:=∀ p∈tg,∃ b a,s.aA p.1=.hF b a/\kC s.aA ops (some p.2)=some (some b)
theorem agD{j d:Nat}:sy ops j d=true<->d∈Gd ops (some (j,true)):=by
 have key:∀ (x:Option Oper),(match x with | some o=>(match o.dst with | some e=>e == d | none=>false) | none=>false)=true<->d∈(match x with | some o=>o.dst.toList | none=>[]):=by
  grind
 exact key _
theorem qt.hl{s':aC}{tg:px}(h:qt ops s tg)(aD:∀ i,o.dst≠some i->s'.aA i=s.aA i)
  (au:∀ d k,o.dst=some d->o.guard=some k->∃ b a,s'.aA d=.hF b a/\kC s.aA ops (some k)=some (some b)):qt ops s' (xE ops tg o):=by
 unfold xE;cases bg:o.dst with
 | none=>
  intro p aq;obtain⟨b,a,E,U⟩:=h p aq;refine⟨b,a,(aD _ (by grind)).trans E,?_⟩;rw[<-U];exact K' λt _=>aD t (by grind)
 | some d=>
  have congr:∀ k:Nat×Bool,sy ops k.1 d=false->kC s'.aA ops (some k)=kC s.aA ops (some k):=λk ak=>K' λt aF=>aD t (by
   rw[bg];intro e;cases e;have:sy ops k.1 d=true:=agD.2 aF;grind)
  have vn:qt ops s' (tg.filter λp=>p.1 != d&&!sy ops p.2.1 d):=by
   intro p aq;simp only[List.mem_filter,Bool.and_eq_true,bne_iff_ne,ne_eq,Bool.not_eq_true']at aq;obtain⟨b,a,E,U⟩:=h p aq.1;grind
  simp only;split
  ·rename_i k ak;split
   ·omega
   ·rename_i TL;intro p aq;rcases List.mem_cons.1 aq with rfl | aq
    ·grind
    ·exact vn p aq
  omega
section
variable {aH:dG} {tg:px} {gk:Option (Nat×Bool)}
theorem De(aV:qt ops s tg)(ay:∀ k,gk=some k->kC s.aA ops (some k)=some (some true)){x:Operand}(h:xF (a8 aH s.aA) tg gk x=true):(use (a8 aH s.aA x)).1:=by
 unfold xF at h;rw[Bool.or_eq_true]at h;rcases h with h | h
 ·exact Ga (by grind)
 ·split at h
  ·rename_i t k;obtain⟨p,aq,vr⟩:=List.any_eq_true.1 h;simp only[Bool.and_eq_true,beq_iff_eq]at vr;obtain⟨rfl,E,U⟩:=vr;have vr:p.2=k:=Prod.ext E U;obtain⟨b,a,aQ,aS⟩:=aV p aq;rw[vr,ay k rfl]at aS;cases aS;have e:a8 aH s.aA (.tmp p.1)=s.aA p.1:=rfl;rw[e,aQ];rfl
  grind
theorem TM(aV:qt ops s tg)(ay:∀ k,gk=some k->kC s.aA ops (some k)=some (some true))(h:rm (a8 aH s.aA) tg gk o=true):re (a8 aH s.aA) o:=
 λx ai=>De aV ay (List.all_eq_true.1 h x ai)
theorem TN(aV:qt ops s tg){c x:Operand}{want:Bool}{qd:Prop}{ir:Bool}(hc:use (a8 aH s.aA c)=(qd,.val .bool ir))(Df:qd)(h:GA ops tg c x want=true)(hw:Gc want ir=true):(use (a8 aH s.aA x)).1:=by
 unfold GA at h;split at h
 ·rename_i c t;obtain⟨p,aq,vr⟩:=List.any_eq_true.1 h;simp only[Bool.and_eq_true,beq_iff_eq]at vr;obtain⟨rfl,E,rfl⟩:=vr;obtain⟨b,a,aQ,aS⟩:=aV p aq;have e:a8 aH s.aA (.tmp p.1)=s.aA p.1:=rfl;rw[e,aQ];show b=true;unfold sy at E;have xS:p.2=(p.2.1,p.2.2):=rfl;rw[xS]at aS;unfold kC at aS;have jO:use (s.aA c)=(qd,.val .bool ir):=hc;split at E
  ·rename_i rv aG;split at E
   ·rename_i d au;have agE:d=c:=by grind
    subst agE;simp only[aG,au]at aS;split at aS
    ·rename_i b0 zL;rw[zL]at jO;simp only[use,Prod.mk.injEq,aI.val.injEq,heq_eq_eq,true_and]at jO;grind
    ·rename_i g0 b0 zL;rw[zL]at jO;simp only[use,Prod.mk.injEq,aI.val.injEq,heq_eq_eq,true_and]at jO;grind
    grind
   grind
  grind
 grind
theorem G2(aV:qt ops s tg)(ay:∀ k,gk=some k->kC s.aA ops (some k)=some (some true))(h:zW (a8 aH s.aA) ops tg gk o=true):(bu aH T bf (a8 aH s.aA) o).cW (ly λr=>r.ca):=by
 cases ag:o.op with
 | pick c a b=>
  simp only[zW,ag,Bool.and_eq_true,Bool.or_eq_true]at h;obtain⟨E,U,ah⟩:=h;unfold bu;rw[ag];simp only;split
  ·rename_i qd ir l3;have Df:qd:=by have:=De aV ay E;grind
   split
   ·split
    ·rename_i zn av a_;refine .bP ⟨Df,λaf=>?_⟩;have:(use (a8 aH s.aA a)).1:=by
      rcases U with U | U
      ·exact De aV ay U
      ·exact TN aV l3 Df U af
     grind
    ·exact .bW
   ·split
    ·rename_i zn av a_;refine .bP ⟨Df,λaf=>?_⟩;have:(use (a8 aH s.aA b)).1:=by
      rcases ah with ah | ah
      ·exact De aV ay ah
      ·exact TN aV l3 Df ah (by subst af;rfl)
     grind
    ·exact .bW
   ·exact .bW
  ·exact .bW
 | _=>
  simp only[zW,ag]at h;exact SK (TM aV ay h)
theorem agF(aV:qt ops s tg)(ay:∀ k,gk=some k->kC s.aA ops (some k)=some (some true)){ca c:Prop}{e' sz:aI}{hH xG:List (Nat×bK)}(hw:CZ o e' hH=some (xG,sz))(M:(bu aH T bf (a8 aH s.aA) o).run s.ab=some ⟨ca,c,e',hH⟩)
  (h:Lz (a8 aH s.aA) tg gk o sz=true):(use sz).1:=by
 unfold Lz at h;rw[Bool.or_eq_true]at h;rcases h with h | h
 ·exact Ga (by grind)
 ·split at h
  ·rename_i x ag;simp only[bu,ag,bP,ar.bO,Option.some.injEq,eC.mk.injEq]at M;obtain⟨_,_,rfl,rfl⟩:=M;simp only[CZ,Option.some.injEq,Prod.mk.injEq]at hw;obtain⟨_,rfl⟩:=hw;exact De aV ay h
  grind
end
theorem aC.Dg{s:aC}{d:Option Nat}{v:aI}{i:Nat}(h:d≠some i):(s.set d v).aA i=s.aA i:=by
 cases d with
 | none=>rfl
 | some d=>simp only[aC.set];grind
theorem aC.Ml{s:aC}{d:Nat}{v:aI}:(s.set (some d) v).aA d=v:=by simp[aC.set]
theorem aC.zR:∀ (l:List (Nat×bK)) (s:aC),(s.gf l).aA=s.aA
 | [],_=>rfl
 | p::l,s=>by
  have:=aC.zR l (s.cz p.1 p.2);exact this
theorem agG{aH:dG}{cc:h0}{gs:Bool->cc.an->aC}(h:rl aH T bf Ψ s o=some cc)(ay:cc.CT=some gs):∀ g y,∃ v,(gs g y).aA=(s.set o.dst (.hF g v)).aA:=by
 have after:∀ (t:ad) (bV:List Nat) (v:aI),(ri s o t bV v).aA=(s.set o.dst v).aA:=λt bV v=>by
  unfold ri;split
  ·rfl
  ·cases o.dst<;>rfl
 have dx:∀ {args:List Operand} {c:hK} {cc:h0} {gs:Bool->cc.an->aC},CU aH s o args c=some cc->cc.CT=some gs->∀ g y,∃ v,(gs g y).aA=(s.set o.dst (.hF g v)).aA:=by
  intro args c cc gs h ay;unfold CU at h;split at h
  ·cases h;cases ay;exact λg y=>⟨_,after _ _ _⟩
  grind
 have Gp:∀ {t:Nat} {args:List Operand} {cc:h0} {gs:Bool->cc.an->aC},CV aH s o t args=some cc->cc.CT=some gs->∀ g y,∃ v,(gs g y).aA=(s.set o.dst (.hF g v)).aA:=by
  intro t args cc gs h ay;unfold CV at h;split at h
  ·split at h
   ·cases h;cases ay;exact λg y=>⟨_,after _ _ _⟩
   grind
  grind
 unfold rl at h;split at h
 ·split at h
  ·split at h
   ·split at h
    ·unfold xD at h;grind
    ·unfold Gs at h;grind
    ·split at h
     ·exact dx h ay
     grind
   ·split at h
    ·rename_i M;cases h;exact Gp M ay
    ·split at h
     ·rename_i M;cases h;unfold Gu xD at M;grind
     ·unfold Gv at h;grind
   grind
  grind
 ·unfold Gw at h;grind
 ·unfold Gy at h;grind
 ·unfold Gz at h;grind
 ·unfold CY at h;grind
 grind
theorem vz{x:Operand}{t:Nat}(h:ig x=some t):x=.tmp t:=by
 cases x<;>simp[ig]at h;rw[h]
theorem TO{o gF kY ki:Oper}{d1 d2:Nat}(h:zX o gF kY=some (ki,d1,d2)):∃ ty m x y,o.op=.mapEntry ty m x/\o.dst=some d1/\gF.op=.extract (.tmp d1) 1/\gF.dst=some d2/\kY.op=.entryStore ty m (.tmp d2) y/\kY.dst=none/\
  ki.op=.mapUpdate ty m x y/\ki.dst=none/\m≠.tmp d1/\m≠.tmp d2/\y≠.tmp d1/\y≠.tmp d2/\o.guard=none/\gF.guard=none/\kY.guard=none:=by
 unfold zX at h;split at h
 ·rename_i ty m x ag;split at h
  ·rename_i e xT;split at h
   ·rename_i mX dA a7 y axX;split at h
    ·rename_i adX Kw Mm Dh TP;split at h
     ·rename_i hc;simp only[Option.some.injEq,Prod.mk.injEq]at h;obtain⟨rfl,rfl,rfl⟩:=h;obtain⟨bE,c2,rfl,c4,c5,lW,oD,xh,c9,GW,agH,c12,agI⟩:=hc;obtain⟨oP,ue⟩:=Option.isSome_iff_exists.1 c4;have fo:=vz ue;have hm:=vz (c5.symm.trans ue);have az:=vz bE;have aN:=vz c2;subst az;subst aN;refine⟨mX,m,x,y,ag,Mm,xT,Dh,?_,TP,rfl,TP,λe=>oD (by grind),λe=>xh (by grind),λe=>c9 (by grind),λe=>GW (by grind),Option.isNone_iff_eq_none.1 agH,Option.isNone_iff_eq_none.1 c12,Option.isNone_iff_eq_none.1 agI⟩;grind
     grind
    grind
   grind
  grind
 grind
theorem Mn{β:Type}(aV:dT C.P T)(cC:jq C.P bf)(c1:l6 C.P C.aP Ψ)(au:∀ o∈ops.toList,lx o C.nt=true){k:aC->A β}{O:β->Prop}
  (ak:∀ s' a' w',cv C s' a' w'->A.cy (k s') O->Q .normal a' w'):∀ (os:List Oper) (n:Nat) (tg:px) (s:aC) (a:Act) (w:World),ops.toList.drop n=os->qt ops s tg->cv C s a w->A.cy (my C.aP T bf Ψ ops os tg s k) O->
   wpOpsIn (dS C.r) 0 C.P ops Q (List.range' n os.length) a w:=by
 intro os;generalize hlen:os.length=len;induction len using Nat.strongRecOn generalizing os with
 | _ len TQ=>
 subst hlen;cases os with
 | nil=>
  intro n tg s a w _ _ M hm;exact ak s a w M hm
 | cons o os=>
  have aL:=TQ os.length (by simp) os rfl;intro n tg s a w ax xU M hm;have ch:n<ops.toList.length:=by
   grind
  rw[List.drop_eq_getElem_cons ch]at ax;injection ax with qk h3
  have eX:ops[n]?=some o:=by
   grind
  have jS:o∈ops.toList:=qk ▸ List.getElem_mem ch;have xV:=au o jS;have bg:∀ i,o.dst=some i->i<C.nt:=λi G=>by
   have:=xV;simp only[lx,Bool.and_eq_true]at this;grind
  simp only[List.length_cons,List.range'_succ,wpOpsIn,eX];obtain⟨κ,F,eY⟩:=M;unfold my at hm;split at hm
  ·rename_i ki d1 d2 sG;cases os with
   | nil=>exact hm.1.elim
   | cons gF os=>
    cases os with
    | nil=>exact hm.1.elim
    | cons kY os=>
     simp only at hm;split at hm
     ·rename_i res gv;obtain⟨ty,m,x,y,f1,f2,f3,f4,f5,f6,f7,f8,f9,f10,f11,f12,g1,ew,g3⟩:=TO sG;have TR:=h3;have Cq:n+1<ops.toList.length:=by
       grind
      rw[List.drop_eq_getElem_cons Cq]at TR;injection TR with agJ TS
      have agK:n+2<ops.toList.length:=by
       grind
      rw[List.drop_eq_getElem_cons agK]at TS;injection TS with axY agL
      have agM:ops[n+1]?=some gF:=by
       grind
      have axZ:ops[n+2]?=some kY:=by
       grind
      have Dh:d2<C.nt:=by
       have:=au gF (agJ ▸ List.getElem_mem Cq);simp only[lx,Bool.and_eq_true]at this;grind
      rw[A.kP,A.kP]at hm;have ck:Region.wanted o (yielded ops a.tmps)=true:=by unfold Region.wanted;rw[g1]
      have da:∀ a':Act,Region.wanted gF (yielded ops a'.tmps)=true:=λa'=>by unfold Region.wanted;rw[ew]
      have eZ:∀ a':Act,Region.wanted kY (yielded ops a'.tmps)=true:=λa'=>by unfold Region.wanted;rw[g3]
      have:=agn (Q:=Q) (K:=λa' w'=>wpOpsIn (dS C.r) 0 C.P ops Q (List.range' (n+3) os.length) a' w') aV f1 f2 f3 f4 f5 f6 f7 f8 f9 f10 f11 f12 (bg d1 f2) Dh gv eY hm.1 hm.2.1
       λa' w' bb=>TQ os.length (by grind) os rfl (n+3) [] _ a' w' agL (λp aq=>by cases aq) bb hm.2.2
      rw[ck];simp only[if_true];refine Oper.wpIn_mono (λb6 ax0 E=>?_) this;simp only[List.length_cons,List.range'_succ,wpOpsIn,agM,da,if_true];grind
     ·exact hm.1.elim
  split at hm
  ·exact hm.1.elim
  ·rename_i ay;have ax1:o.guard=none:=by
    cases h:o.guard with
    | none=>rfl
    | some p=>
     rw[h]at ay;simp only[kC]at ay;grind
   rw[Mj eY ay];simp only[Option.getD_none,if_true];split at hm
   ·rename_i res gv;rw[sF λaa=>(G2 xU (gk:=none) (λk ak=>by cases ak) aa).run s.ab res gv,sF λaa=>(zO aa).run s.ab res gv]at hm;refine Oper.wpIn_mono (λa' w' bb=>aL (n+1) _ _ a' w' h3 (xU.hl (λi G=>?_) λd k _ ak=>by grind) bb hm.2.2) (xr aV cC xV gv a w κ F Q eY hm.1 hm.2.1);unfold aC.ia;rw[aC.Dg G,aC.zR]
   ·split at hm
    ·rename_i cc oO;obtain⟨jN,qh,mw⟩:=Mh aV cC c1 bg oO;rw[sF λaa=>mw (K4 aa),A.gb]at hm;exact jN a w Q _ ⟨κ,F,eY⟩ hm.1 (hm.2.mono λy aT a' w' bb=>aL (n+1) _ _ a' w' h3 (λp aq=>by cases aq) bb aT)
    ·exact hm.1.elim
  ·rename_i g ay;have G3:∀ k,o.guard=some k->g=true->kC s.aA ops (some k)=some (some true):=λk ak aF=>by grind
   rw[Mj eY ay];simp only[Option.getD_some];split at hm
   ·rename_i ca c agN agO gv;split at hm
    ·rename_i hH e' xW;obtain⟨agP,agQ⟩:=agA xW gv;rw[sF λaa=>by
      simp only[Bool.and_eq_true]at aa;exact λG4=>⟨(G2 xU (λk ak=>G3 k ak G4) aa.1).run s.ab _ gv,(zO aa.2.1).run s.ab _ gv,agF xU (λk ak=>G3 k ak G4) xW gv aa.2.2⟩]at hm
     have Di:qt ops ((s.gf hH).set o.dst (.hF g (use e').2)) (xE ops tg o):=xU.hl (λi G=>by rw[aC.Dg G,aC.zR]) λd k au ak=>⟨g,(use e').2,by rw[au,aC.Ml],by grind⟩
     cases g with
     | true=>
      simp only[if_true];obtain⟨E,U,ah⟩:=hm.1 rfl;refine Oper.wpIn_mono (λa' w' bb=>aL (n+1) _ _ a' w' h3 Di (cv.LU (av':=.hF true (use e').2) (agP a' w' bb) bg λκ F v af=>⟨λ_=>pg af ah,λh=>(by cases h)⟩) hm.2) (xr aV cC xV gv a w κ F Q eY E U)
     | false=>
      simp only[Bool.false_eq_true,if_false];refine⟨λ_ _=>trivial,aL (n+1) _ _ _ w h3 Di ?_ hm.2⟩;obtain⟨κ',F',agR⟩:=agQ a w κ F eY;exact⟨κ',F',agR.set (av:=.hF false (use e').2) bg ⟨λh=>(by cases h),λ_=>rfl⟩⟩
    ·cases g with
     | true=>
      simp only[if_true]at hm ⊢;rw[A.kP,A.kP]at hm;exact Oper.wpIn_mono (λa' w' bb=>aL (n+1) _ _ a' w' h3 (λp aq=>by cases aq) bb hm.2.2) (xr aV cC xV gv a w κ F Q eY hm.1 hm.2.1)
     | false=>
      simp only[Bool.false_eq_true,if_false]at hm ⊢;exact⟨λ_ _=>trivial,aL (n+1) _ _ _ w h3 (λp aq=>by cases aq) ⟨κ,F,eY.set (av:=.hF false (S7 agO (use agN).2)) bg ⟨λh=>(by cases h),λ_=>rfl⟩⟩ hm⟩
   ·split at hm
    ·rename_i cc oO;obtain⟨jN,qh,mw⟩:=Mh aV cC c1 bg oO;split at hm
     ·rename_i gs oN;obtain⟨dr,dI⟩:=qh gs oN;rw[sF λaa G4=>mw (TM xU (λk ak=>G3 k ak G4) aa),A.gb]at hm;have Di:∀ y,qt ops (gs g y) (xE ops tg o):=λy=>by
       obtain⟨v,af⟩:=agG oO oN g y;exact xU.hl (λi G=>by rw[af,aC.Dg G]) λd k au ak=>⟨g,v,by rw[af,au,aC.Ml],by grind⟩
      cases g with
      | true=>
       simp only[if_true];exact jN a w Q _ ⟨κ,F,eY⟩ (hm.1 rfl) (hm.2.mono λy aT a' w' bb=>aL (n+1) _ _ a' w' h3 (Di y) (dr y a' w' bb) aT)
      | false=>
       simp only[Bool.false_eq_true,if_false];exact⟨λ_ _=>trivial,aL (n+1) _ _ _ w h3 (Di cc.d) (dI a w ⟨κ,F,eY⟩) (by
        have h:=hm.2;simp only[cu,Bool.false_eq_true,if_false]at h;exact h.2 cc.d rfl)⟩
     ·cases g with
      | true=>
       simp only[if_true]at hm ⊢;rw[A.kP,A.gb]at hm;exact jN a w Q _ ⟨κ,F,eY⟩ hm.1 (hm.2.mono λy aT a' w' bb=>aL (n+1) _ _ a' w' h3 (λp aq=>by cases aq) bb aT)
      | false=>
       simp only[Bool.false_eq_true,if_false]at hm ⊢;exact⟨λ_ _=>trivial,aL (n+1) _ _ _ w h3 (λp aq=>by cases aq) ⟨κ,F,eY.set (av:=.hF false (use ((cc.st cc.d).aA (o.dst.getD 0))).2) bg ⟨λh=>(by cases h),λ_=>rfl⟩⟩ hm⟩
    ·exact hm.1.elim
end
end Go.Fer
namespace Go.Fer
open Go.RowKit
section
variable {C:b_} {T:Nat->ad} {bf:Nat->Option aO} {s:aC} {res:eC}
theorem agS{P:Program}:∀ (t:ad),t.kT=true->∀ {F F':Nat->Prop} {w w':World} {cs:List Value} {x:t.aj},bI P t F w cs x->bI P t F' w' cs x:=by
 intro t;induction t with
 | bool=>intro _ F F' w w' cs x h;exact h
 | int k=>intro _ F F' w w' cs x h;exact h
 | str=>intro _ F F' w w' cs x h;exact h
 | cU=>intro hc;cases hc
 | st t aL=>intro hc F F' w w' cs x h;simp only[bI]at h ⊢;exact aL hc h
 | aB a b fC eM=>
  intro hc F F' w w' cs x h;simp only[ad.kT,Bool.and_eq_true]at hc;simp only[bI]at h ⊢;grind
 | slice e aL=>intro hc;cases hc
 | array n e aL=>intro hc;cases hc
 | bG e aL=>intro hc;cases hc
 | map k v w2 w3=>intro hc;cases hc
 | fn a b fC eM=>intro hc;cases hc
 | ct a aL=>intro hc;cases hc
 | et=>intro hc;cases hc
theorem TT{P:Program}{t:ad}(h:t.kT=true){F F':Nat->Prop}{w w':World}{v:Value}{x:t.aj}(af:eu P t F w v x):eu P t F' w' v x:=⟨af.1,agS t h af.2⟩
theorem G5(a:Act){i j:Nat}(h:i≠j)(v u:Value):(a.put (some i) v).put (some j) u=(a.put (some j) u).put (some i) v:=by
 simp only[Act.put];rw[Array.setIfInBounds_comm _ _ h]
theorem G6{P:Program}{ty lu zH:TypeId}(G:P.underlying ty=some (.map lu zH)){r:Nat}{ms:Array MapEntry}{clk:Nat}{w:World}(hw:w.heap[r]?=some (.map ms clk)){key u:Value}{f:Option (Nat×Value)}
  (ec:(Instr.checkKey ms.isEmpty 10000 lu key).run P w=.ok () w) (ao:(Instr.findKey lu key ms.toList).run P w=.ok f w) (hu:(∃ i,f=some (i,u))\/(f=none/\(zeroValue zH).run P w=.ok u w)) :
  (Instr.lookup ty (.map (some r)) key false).run P w=.ok u w:=by
 have eX:(getObj r).run P w=.ok (.map ms clk) w:=by simp[getObj,Sem.run,hw]
 rcases hu with⟨i,rfl⟩ | ⟨rfl,bj⟩
 ·simp only[Instr.lookup,Sem.run_bind,dD G,Result.andThen_ok,Sem.run_pure,eX,ec,ao];rfl
 ·simp only[Instr.lookup,Sem.run_bind,dD G,Result.andThen_ok,Sem.run_pure,eX,ec,ao,bj];rfl
theorem agT(aV:dT C.P T){gG hL ki:Oper}{ty:TypeId}{m x y:Operand}(gH:gG.op=.lookup ty m x false)(lv:hL.op=.mapEntry ty m x)(h2:ki.op=.mapUpdate ty m x y){dN:aC}(q9:dN.ab=s.ab)
  (pB:a8 C.aP dN.aA m=a8 C.aP s.aA m) (FY:a8 C.aP dN.aA x=a8 C.aP s.aA x) (h:(bu C.aP T bf (a8 C.aP dN.aA) ki).run dN.ab=some res)
  {a:Act} {w:World} {κ:Nat->bB} {F:Nat->Prop} (M:bm C s a w κ F) (Mo:(use (a8 C.aP s.aA m)).1) (Mp:(use (a8 C.aP s.aA x)).1) :
  ∃ u n wE,∀ a':Act,a'.eval m=a.eval m->a'.eval x=a.eval x->
   (execOp a'.eval gG).run C.P w=.ok (.value u) w/\(execOp a'.eval gG).run C.P wE=.ok (.value u) wE/\(execOp a'.eval hL).run C.P w=.ok (.value (.tuple #[u,goInt n])) wE:=by
 simp only[bu,h2,q2,pB,FY,q9]at h;split at h
 ·rename_i k v aF;obtain⟨lu,zH,G,na,hj⟩:=(aV.cb aF (by simp)).mp;obtain⟨inf,mz,i1,i2,i3,i4,i5,i6⟩:=kx hj.kv;split at h
  ·rename_i xR;split at h
   ·rename_i b g tR;simp only[ar.e6,Option.bind_eq_some_iff,ar.run_bind,ar.e5,ar.bO]at h;obtain⟨⟨dL,oA⟩,ai,⟨nb,oB⟩,aT,h⟩:=h;split at h
    ·rename_i ay;obtain⟨ay,_⟩:=ay;split at h
     ·rename_i k' h9 es aa;simp only[Option.map_eq_some_iff]at h;obtain⟨Su,pk,rfl⟩:=h;obtain⟨e,rfl⟩:=kR pk;cases e;have hm:bA C.P s.ab κ F w (use (a8 C.aP s.aA m)).2 (a.eval m):=cQ M m rfl Mo;rw[tR]at hm;have kX:=hm.2 ay.symm (by rw[aa];rfl);have fl:k.kT=true/\k.j_<=100:=by simpa [tG]using xR
      have tS:=Ci M ai (cQ M x rfl Mp);have G7:∀ (F':Nat->Prop) w',eu C.P k F' w' (a.eval x) dL:=λF' w'=>TT fl.1 tS;have aU:=M.bD b;unfold cG at aU;rw[aa]at aU;obtain⟨ms,clk,hw,sr⟩:=aU;have ec:∀ em w',(Instr.checkKey em 10000 lu (a.eval x)).run C.P w'=.ok () w':=λem w'=>(CE (em:=em) (F:=λ_=>True) k 10000 fl.1 (by omega)).1 na (G7 _ w');have TU:=sr.es;have TL:∀ (j:Nat) (e:MapEntry) (p:k.aj×v.aj),ms.toList[j]?=some e->es[j]?=some p->∀ (F':Nat->Prop) w',eu C.P k F' w' e.key p.1:=λj e p E U F' w'=>TT fl.1 (TU.2 j e p E U).1;obtain⟨f,dr,dI⟩:=xn (F:=λ_=>True) (w:=w) (β:=v.aj) (xs:=es) (es:=ms.toList) xR na (G7 _ w) TU.1 (λj e p E U=>TL j e p E U _ w);have eX:(getObj (κ b).ab).run C.P w=.ok (.map ms clk) w:=by simp[getObj,Sem.run,hw]
      obtain⟨hx,KP,F4,Sv⟩:=sr;have ch:(κ b).ab<w.heap.size:=(Array.getElem?_eq_some_iff.1 hw).1;have bj:∀ w',(zeroValue zH).run C.P w'=.ok mz w':=λw'=>q3 i1 i4;have G8:∀ (a':Act) (w':World) (u:Value),a'.eval m=a.eval m->a'.eval x=a.eval x->(Instr.lookup ty (.map (some (κ b).ab)) (a.eval x) false).run C.P w'=.ok u w'->(execOp a'.eval gG).run C.P w'=.ok (.value u) w':=by
       intro a' w' u az aN bb;simp only[execOp,gH,az,aN,kX,Sem.run_bind,bb,Result.andThen_ok,Sem.run_pure]
      have agU:∀ q:k.aj,gM k dL q=true<->dL=q:=λq=>KL k fl.1 dL q;rcases dI with⟨rfl,eQ⟩ | ⟨j,e,p,g1,ew,g3,g4,rfl⟩
      ·let ck:World:={ w with heap:=w.heap.setIfInBounds (κ b).ab (.map (ms.push { key:=a.eval x,val:=mz,born:=clk }) (clk+1)) }
       have l1:ck.heap[(κ b).ab]?=some (.map (ms.push { key:=a.eval x,val:=mz,born:=clk }) (clk+1)):=by grind
       obtain⟨iG,b8,cw⟩:=xn (F:=λ_=>True) (w:=ck) (β:=v.aj) (xs:=es++[(dL,v.df)]) (es:=(ms.push { key:=a.eval x,val:=mz,born:=clk }).toList) xR na (G7 _ ck) (by grind) (λj e p E U=>by
        grind)
       have ry:∃ i,iG=some (i,mz):=by
        rcases cw with⟨_,ef⟩ | ⟨j,e,p,eI,dN,eK,oQ,rfl⟩
        ·have:=ef (dL,v.df) (by simp);grind
        ·by_cases aG:j<es.length
         ·grind
         grind
       refine⟨mz,clk,ck,λa' az aN=>⟨G8 a' w mz az aN (G6 G hw (ec _ w) dr (.inr ⟨rfl,bj w⟩)),G8 a' ck mz az aN (G6 G l1 (ec _ ck) b8 (.inl ry)),?_⟩⟩;simp only[execOp,lv,az,aN,kX,Instr.mapEntry,Sem.run_bind,dD G,Result.andThen_ok,eX,ec,dr,bj,sq hw,Sem.run_pure];rfl
      ·have aG:j<es.length:=(List.getElem?_eq_some_iff.1 ew).1;have xo:j<ms.size:=by omega
       have KR:ms[j]=e:=by
        grind
       obtain⟨js,ck,t1,t2,t3⟩:=KN C.P w e.key (a.eval x);have l1:ck.heap[(κ b).ab]?=some (.map ms clk):=by rcases t3 with rfl | rfl<;>exact hw
       have TH:(κ b).ab<ck.heap.size:=(Array.getElem?_eq_some_iff.1 l1).1;have nY:((ms[j]?).map (·.key)).getD (a.eval x)=e.key:=by
        grind
       have Mg:((ms[j]?).map (λx=>(x.born:Int))).getD 0=(ms[j].born:Int):=by grind
       rw[Nat.zero_add]at dr;have aew:dL=p.1:=(agU p.1).1 g3;let da:World:={ ck with heap:=ck.heap.setIfInBounds (κ b).ab (.map (ms.modify j λe=>{ e with key:=js }) clk) }
       have gZ:da.heap[(κ b).ab]?=some (.map (ms.modify j λe=>{ e with key:=js }) clk):=by grind
       have vg:∀ (F':Nat->Prop) w',eu C.P k F' w' js p.1:=λF' w'=>by
        grind
       have zE:∀ i,(ms.modify j λe=>{ e with key:=js }).toList[i]?=if i=j then some { e with key:=js } else ms.toList[i]?:=λi=>by
        grind
       obtain⟨iG,b8,cw⟩:=xn (F:=λ_=>True) (w:=da) (β:=v.aj) (xs:=es) (es:=(ms.modify j λe=>{ e with key:=js }).toList) xR na (G7 _ da) (by grind) (λi a7 p' E U=>by
        rw[zE]at E;grind)
       have ry:∃ i,iG=some (i,e.val):=by
        rcases cw with⟨_,ef⟩ | ⟨i,a7,p',eI,dN,eK,oQ,rfl⟩
        ·have:=ef p (List.mem_of_getElem? ew);rw[g3]at this;cases this
        ·have zI:i=j:=by
          rcases Nat.lt_trichotomy i j with h | h | h
          ·have:=g4 i p' h dN;rw[eK]at this;cases this
          ·exact h
          ·have:=oQ j p h ew;rw[g3]at this;cases this
         subst zI;rw[zE,if_pos rfl]at eI;cases eI;exact⟨_,rfl⟩
       refine⟨e.val,ms[j].born,da,λa' az aN=>⟨G8 a' w e.val az aN (G6 G hw (ec _ w) dr (.inl ⟨_,rfl⟩)),G8 a' da e.val az aN (G6 G gZ (ec _ da) b8 (.inl ry)),?_⟩⟩;simp only[execOp,lv,az,aN,kX,Instr.mapEntry,Sem.run_bind,dD G,Result.andThen_ok,eX,ec,dr];rw[nY,t1];simp only[Result.andThen_ok,sq l1,Sem.run_pure,Mg];rfl
     grind
    grind
   ·cases h
  ·cases h
 ·cases h
end
end Go.Fer
namespace Go.Fer
open Go.RowKit
section
variable {C:b_} {T:Nat->ad} {bf:Nat->Option aO} {Ψ:Nat->Option e7} {s:aC} {o:Oper} {Q:Exit->Act->World->Prop} {ops:Array Oper}
theorem A.agV{an:Type}{m:A an}(h:m.CS){d x:an}(ai:m.bM x):x=m.val d:=by
 unfold A.val;have he:∃ x,m.bM x:=⟨x,ai⟩
 rw[dif_pos he];exact h _ _ ai he.choose_spec
theorem TV(cC:jq C.P bf)(c1:l6 C.P C.aP Ψ):jq C.P (Gr bf Ψ):=by
 intro k c h;unfold Gr at h;split at h
 ·rename_i dx Mi;split at h
  ·rename_i au;cases h;simp only[Bool.and_eq_true,Bool.not_eq_true']at au;have h:=c1 k _ Mi;obtain⟨E,U⟩:h8 C.P k dx.ts dx.aW dx.sh/\(dx.dR=true->∀ x,(dx.sh x).CS):=h;exact⟨λ_=>E.zg λx aD=>⟨aD,λy aT=>A.agV (U au.1 x) aT⟩,λhe=>by rw[show nT dx.Gp.aW=nT dx.aW from rfl,au.2]at he;cases he⟩
  grind
 ·rename_i c' hc;cases h;have h:nT c.aW=true/\CB C.P k c:=c1 k _ hc;exact⟨λhe=>(by rw[h.1]at he;cases he),λ_=>h.2⟩
 ·cases h
 ·exact cC k c h
theorem TW{β:Type}{m:A β}{O:β->Prop}:∀ (l:List Prop),A.cy (C0 l m) O->(∀ p∈l,p)/\A.cy m O:=by
 intro l;induction l with
 | nil=>intro h;exact⟨λp aq=>(by cases aq),h⟩
 | cons p l aL=>
  intro h;simp only[C0]at h;rw[A.kP]at h;grind
theorem TX{dr dI:Bool}{ca c:Prop}(E:dr=true->ca)(U:dI=true->c)(h:∀ p∈CM dr dI ca c,p):ca/\c:=by
 unfold CM at h;constructor
 ·cases dr with
  | true=>grind
  | false=>simp_all
 ·cases dI with
  | true=>grind
  | false=>simp_all
theorem TY(aV:dT C.P T)(cC:jq C.P bf)(au:lx o C.nt=true){r:eR}(h:vq C.aP T bf ops s o=some r)(hc:∀ p∈r.cs,p){a:Act}{w:World}(M:cv C s a w){K:Act->World->Prop}
  (iN:∀ a' w',cv C (r.ib s) a' w'->K a' w') :
  if Region.wanted o (yielded ops a.tmps) then o.wpIn (dS C.r) 0 C.P a w K Q else (∀ f,o.about C.P w a.eval=some f->(dS C.r).fn f)/\K (a.put o.dst undef) w:=by
 have bg:∀ i,o.dst=some i->i<C.nt:=λi G=>by
  have:=au;simp only[lx,Bool.and_eq_true]at this;grind
 obtain⟨κ,F,eY⟩:=M;unfold vq at h;split at h
 ·cases h
 ·rename_i g ay;rw[Mj eY ay];split at h
  ·cases h
  ·rename_i res gv;split at h
   ·cases h;simp only[Option.getD_none,if_true];obtain⟨E,U⟩:=TX (λaa=>(SL aa).run s.ab res gv) (λaa=>(zO aa).run s.ab res gv) hc;exact Oper.wpIn_mono iN (xr aV cC au gv a w κ F Q eY E U)
   ·rename_i b;split at h
    ·rename_i xW;cases h;have hc:∀ p∈CM (su (a8 C.aP s.aA) o&&(ng (a8 C.aP s.aA) o&&!res.e'.zN)) true (b=true->res.ca/\(res.c/\(use res.e').1)) True,p:=hc;obtain⟨E,_⟩:=TX (λaa=>by
      simp only[Bool.and_eq_true,Bool.not_eq_true']at aa;exact λ_=>⟨(SL aa.1).run s.ab _ gv,(zO aa.2.1).run s.ab _ gv,Ga aa.2.2⟩) (λ_=>trivial) hc
     obtain⟨ca,c,e',hH⟩:=res;simp only at xW;subst xW;cases b with
     | true=>
      simp only[Option.getD_some,if_true];obtain⟨E,U,ah⟩:=E rfl;refine Oper.wpIn_mono (λa' w' bb=>iN a' w' ?_) (xr aV cC au gv a w κ F Q eY E U);exact cv.LU (av':=.hF true (use e').2) bb bg λκ F v af=>⟨λ_=>pg af ah,λh=>(by cases h)⟩
     | false=>
      simp only[Option.getD_some,Bool.false_eq_true,if_false];exact⟨λ_ _=>trivial,iN _ _ ⟨κ,F,eY.set (av:=.hF false (use e').2) bg ⟨λh=>(by cases h),λ_=>rfl⟩⟩⟩
    grind
theorem TZ(cl:List (List Nat)):∀ n,zZ cl n<=n/\∀ j,zZ cl n<=j->j<n->∀ i,i<j->i∈cl.getD j []
 | 0=>⟨Nat.le_refl _,λj _ h=>by omega⟩
 | n+1=>by
  unfold zZ;split
  ·rename_i h;obtain⟨E,U⟩:=TZ cl n;refine⟨by omega,λj aG Mq i G=>?_⟩;by_cases e:j=n
   ·simp_all
   grind
  grind
theorem agW{n:Nat}(rz:CP ops.toList=true)(agX:∀ j,n<=j->j<ops.size->∀ i,i<j->i∈(iu ops.toList).getD j []):∀ (k j cg:Nat) (listed:Array Bool) (a:Act) (w:World),n<=j->j+k=ops.size->listed.size=ops.size->
  (∀ i,listed.getD i false=decide (i<j))->k<=cg->wpOpsIn (dS C.r) 0 C.P ops Q (List.range' j k) a w->wpAnyIn (dS C.r) 0 C.P .any ops Q cg listed a w:=by
 intro k;induction k with
 | zero=>
  intro j cg listed a w agY agZ cd al ao h;have M:∀ i,i ∉ Region.ready .any ops listed:=λi G=>by
   rw[mem_ready]at G;grind
  have iO:Region.ready .any ops listed=[]:=List.eq_nil_iff_forall_not_mem.2 M;cases cg with
  | zero=>exact⟨iO,h⟩
  | succ cg=>exact⟨λ_=>h,λi G=>absurd G (M i)⟩
 | succ k aL=>
  intro j cg listed a w agY agZ cd al ao h;have aG:j<ops.size:=by omega
  cases cg with
  | zero=>omega
  | succ cg=>
   have qu:∀ q o,ops[q]?=some o->listed.getD q false=true->∀ i∈ie o,listed.getD i false=true:=λq o ag bt i G=>by
    rw[al]at bt ⊢;have bt:q<j:=by grind
    have:=List.all_eq_true.1 rz q (by grind);grind
   have ag0:∀ i,i∈Region.ready .any ops listed<->i=j:=λi=>by
    constructor
    ·intro G;rw[mem_ready]at G;obtain⟨aY,o,ag,G9⟩:=G;have jo:i<ops.size:=(Array.getElem?_eq_some_iff.1 ag).1;have Dj:listed.getD i false=false:=by
      grind
     rw[al]at Dj;have F7:j<=i:=by grind
     by_cases e:i=j
     ·exact e
     ·exfalso;have sH:∀ k∈ie o,listed.getD k false=true:=by
       intro k ak;obtain⟨e,he,vA⟩:=List.mem_filterMap.1 ak;grind
      have Dk:∀ k∈(iu ops.toList).getD i [],listed.getD k false=true\/k=i:=by
       intro k ak;refine xx (p:=λj=>listed.getD j false=true\/j=i) ops.toList [] (λj i G=>by grind) (λj hW kg k ak aG=>?_) i k ak (.inr rfl);have lB:ops[j]?=some hW:=by grind
       rcases (by simp_all:listed.getD j false=true\/j=i) with aG | aG
       ·exact .inl (qu j hW lB aG k ak)
       ·subst aG;rw[ag]at lB;cases lB;exact .inl (sH k ak)
      grind
    ·rintro rfl;rw[mem_ready];refine⟨?_,ops[i],by simp,λe he aa=>?_⟩
     ·grind
     ·have jo:e.on∈ie ops[i]:=List.mem_filterMap.2 ⟨e,by grind,by grind⟩;have:=List.all_eq_true.1 rz i (by grind);grind
   refine⟨λM=>?_,λi G=>?_⟩
   ·simp_all
   ·obtain rfl:=(ag0 i).1 G;have eX:ops[i]?=some ops[i]:=by simp
    rw[List.range'_succ]at h;simp only[wpOpsIn,eX]at h;have next:∀ a w,wpOpsIn (dS C.r) 0 C.P ops Q (List.range' (i+1) k) a w->wpAnyIn (dS C.r) 0 C.P .any ops Q cg (listed.setIfInBounds i true) a w:=λa w cV=>by
     refine aL (i+1) cg _ a w (by omega) (by omega) (by grind) (λq=>?_) (by omega) cV;by_cases e:q=i
     ·simp_all
     ·rw[getD_set_ne false (Ne.symm e),al,decide_eq_decide];omega
    unfold wpOpIn;rw[eX];simp only;split
    ·rename_i hw;rw[if_pos hw]at h;exact Oper.wpIn_mono next h
    grind
theorem ag1(aV:dT C.P T)(cC:jq C.P bf)(au:∀ o∈ops.toList,lx o C.nt=true){l:List eR}{s':aC}(aD:xt C.aP T bf ops ops.toList s=some (l,s'))(cN:zQ ops.toList l=true)
  (hc:∀ r∈l,∀ p∈r.cs,p) (uf:∀ a' w',cv C s' a' w'->Q .normal a' w'):∀ (cg:Nat) (listed:Array Bool) (a:Act) (w:World),listed.size=ops.size->
   (∀ j o,ops[j]?=some o->listed.getD j false=true->∀ i∈ie o,listed.getD i false=true)->((List.range ops.size).filter λj=>!listed.getD j false).length<=cg->
   cv C (jv l s λj=>listed.getD j false) a w->wpAnyIn (dS C.r) 0 C.P .any ops Q cg listed a w:=by
 obtain⟨hlen,sg,Dl⟩:=SS _ _ aD;simp only[zQ,Bool.and_eq_true]at cN;obtain⟨rz,Mr⟩:=cN;have ag2:∀ j o,ops[j]?=some o->∀ i∈ie o,i<j:=by
  intro j o ag i G;have aG:j<ops.toList.length:=by
   grind
  have:=List.all_eq_true.1 rz j (by grind);grind
 have ag3:∀ i j x y,i<j->l[i]?=some x->l[j]?=some y->((iu ops.toList).getD j []).contains i=true\/x.apart y=true:=by
  intro i j x y zI G aG;have Ag:j<l.length:=(List.getElem?_eq_some_iff.1 aG).1;have:=List.all_eq_true.1 Mr j (by grind);grind
 have Dm:∀ listed:Array Bool,listed.size=ops.size->Region.ready .any ops listed=[]->∀ j,j<ops.size->listed.getD j false=true:=by
  intro listed cd M j;induction j using Nat.strongRecOn with
  | _ j aL=>
   intro aG;cases al:listed.getD j false with
   | true=>rfl
   | false=>
    exfalso;have jS:j∈Region.ready .any ops listed:=by
     rw[mem_ready];refine⟨?_,ops[j],by simp,λe he aa=>?_⟩
     ·grind
     ·have jo:e.on∈ie ops[j]:=List.mem_filterMap.2 ⟨e,by grind,by grind⟩;grind
    grind
 have n7:∀ (listed:Array Bool) (a:Act) (w:World),listed.size=ops.size->Region.ready .any ops listed=[]->cv C (jv l s λj=>listed.getD j false) a w->Q .normal a w:=by
  intro listed a w cd M ke;have fT:=Dm listed cd M;refine uf a w ?_;have:jv l s (λj=>listed.getD j false)=s':=by
   rw[sg];unfold jv;rw[List.filter_eq_self.2 λp aq=>?_,CQ];obtain⟨_,U⟩:=zS aq;grind
  grind
 intro cg;induction cg with
 | zero=>
  intro listed a w cd _ Ms ke;have M:Region.ready .any ops listed=[]:=by
   cases M:Region.ready .any ops listed with
   | nil=>rfl
   | cons j ax2=>
    exfalso;have jS:j∈Region.ready .any ops listed:=by grind
    rw[mem_ready]at jS;obtain⟨aY,o,ag,_⟩:=jS;have aG:=(Array.getElem?_eq_some_iff.1 ag).1;have:j∈(List.range ops.size).filter λj=>!listed.getD j false:=by
     grind
    grind
  exact⟨M,n7 listed a w cd M ke⟩
 | succ cg aL=>
  intro listed a w cd qu Ms ke;refine⟨λM=>n7 listed a w cd M ke,λi G=>?_⟩;rw[mem_ready]at G;obtain⟨aY,o,ag,G9⟩:=G;have jo:i<ops.size:=(Array.getElem?_eq_some_iff.1 ag).1;have Dj:listed.getD i false=false:=by
   grind
  have jS:o∈ops.toList:=by
   grind
  have sH:∀ k∈ie o,listed.getD k false=true:=by
   intro k ak;obtain⟨e,he,vA⟩:=List.mem_filterMap.1 ak;grind
  obtain⟨r,M,fZ⟩:=Dl i o (by grind);have ag4:∀ j k,k∈(iu ops.toList).getD j []->listed.getD j false=true->listed.getD k false=true:=by
   refine xx (p:=λj=>listed.getD j false=true) ops.toList [] (λj i G=>by grind) λj hW kg k ak aG=>?_;exact qu j hW (by grind) (by simpa using aG) k ak
  have Dk:∀ k∈(iu ops.toList).getD i [],listed.getD k false=true\/k=i:=by
   intro k ak;refine xx (p:=λj=>listed.getD j false=true\/j=i) ops.toList [] (λj i G=>by grind) (λj hW kg k ak aG=>?_) i k ak (.inr rfl);have lB:ops[j]?=some hW:=by grind
   rcases (by simpa using aG:listed.getD j false=true\/j=i) with aG | aG
   ·exact .inl (qu j hW lB aG k ak)
   ·subst aG;rw[ag]at lB;cases lB;exact .inl (sH k ak)
  have gO:∀ j x,j<i->l[j]?=some x->listed.getD j false=false->x.apart r=true:=by
   grind
  have tZ:∀ j x,i<j->l[j]?=some x->listed.getD j false=true->r.apart x=true:=by
   grind
  obtain⟨aQ,aS,bN⟩:=SP (s:=s) (f:=λj=>listed.getD j false) M Dj gO tZ;have Mt:=SU fZ aQ aS;unfold wpOpIn;rw[ag];refine TY aV cC (au o jS) Mt (hc r (List.mem_of_getElem? M)) ke λa' w' bb=>?_;have eX:∀ j,(listed.setIfInBounds i true).getD j false=if j=i then true else listed.getD j false:=by
   intro j;by_cases e:j=i
   ·subst e;rw[if_pos rfl,Array.getD_eq_getD_getElem?,Array.getElem?_setIfInBounds_self_of_lt (by omega)];rfl
   ·rw[if_neg e,getD_set_ne false (Ne.symm e)]
  refine aL _ a' w' (by grind) (λj hW kg aG k ak=>?_) ?_ ?_
  ·rw[eX]at aG ⊢;split
   ·rfl
   ·split at aG
    ·rename_i e;subst e;rw[ag]at kg;cases kg;exact sH k ak
    ·exact qu j hW kg aG k ak
  ·have ch:((List.range ops.size).filter λj=>!(listed.setIfInBounds i true).getD j false).length<((List.range ops.size).filter λj=>!listed.getD j false).length:=by
    have az:(List.range ops.size).filter (λj=>!(listed.setIfInBounds i true).getD j false)=((List.range ops.size).filter λj=>!listed.getD j false).filter λj=>decide (j≠i):=by
     rw[List.filter_filter];apply List.filter_congr;intro j _;rw[eX];simp
    rw[az];have Mu:i∈(List.range ops.size).filter λj=>!listed.getD j false:=by
     grind
    exact List.length_filter_lt_length_iff_exists.2 ⟨i,Mu,by simp⟩
   omega
  ·have:jv l s (λj=>(listed.setIfInBounds i true).getD j false)=r.ib (jv l s λj=>listed.getD j false):=by
    rw[<-bN];congr 1;funext j;grind
   grind
def G_(n:Nat)(l b e x:Bool)(listed:Array Bool):Prop:=∀ i,listed.getD i false=(decide (i<n)||(l&&decide (i=n))||(b&&decide (i=n+1))||(e&&decide (i=n+2))||(x&&decide (i=n+3)))
def mB(a:Act)(eg fL d1 d2:Nat)(u vB vE vX:Value)(l b e x:Bool):Act:=
 let b6:=if l=true then a.put (some eg) u else a
 let a2:=if b=true then b6.put (some fL) vB else b6
 let a3:=if e=true then a2.put (some d1) vE else a2
 if x=true then a3.put (some d2) vX else a3
theorem ag5(a:Act)(d:Option Nat)(v:Value):(a.put d v).tmps.size=a.tmps.size:=by cases d<;>simp[Act.put]
theorem ag6(a:Act)(eg fL d1 d2:Nat)(u vB vE vX:Value)(l b e x:Bool):(mB a eg fL d1 d2 u vB vE vX l b e x).tmps.size=a.tmps.size:=by
 unfold mB;cases l<;>cases b<;>cases e<;>cases x<;>simp[ag5]
theorem T0{a:Act}{eg fL d1 d2:Nat}{u vB vE vX:Value}{l b e x:Bool}{y:Operand}(E:y≠.tmp eg)(U:y≠.tmp fL)(ah:y≠.tmp d1)(a6:y≠.tmp d2):(mB a eg fL d1 d2 u vB vE vX l b e x).eval y=a.eval y:=by
 unfold mB;cases l<;>cases b<;>cases e<;>cases x<;>simp[Ae,E,U,ah,a6]
theorem Dn{o:Oper}{a:Act}{w w':World}{K:Act->World->Prop}{v:Value}(au:∀ c,o.op≠.defer c)(h:(execOp a.eval o).run C.P w=.ok (.value v) w')(ak:o.wpIn (dS C.r) 0 C.P a w K Q):K (a.put o.dst v) w':=by
 have:=ak.2;rw[zq au,h]at this;exact this
theorem ag7{n:Nat}(T1:ops.size=n+5)(rz:CP ops.toList=true){gG iw hL iK l4:Oper}(xX:ops[n]?=some gG)(vC:ops[n+1]?=some iw)(Ah:ops[n+2]?=some hL)(Dp:ops[n+3]?=some iK)(Dq:ops[n+4]?=some l4)
  (Dr:gG.guard=none) (Ds:iw.guard=none) (G':hL.guard=none) (Ha:iK.guard=none) (Hb:l4.guard=none) (Dt:∀ c,gG.op≠.defer c) (Hc:∀ c,iw.op≠.defer c) (Hd:∀ c,hL.op≠.defer c) (He:∀ c,iK.op≠.defer c)
  (gO:∀ q,q<5->∀ i,i<n->i∈(iu ops.toList).getD (n+q) []) (Mv:n∈(iu ops.toList).getD (n+1) []) (T2:n+2∈(iu ops.toList).getD (n+3) []) (Ai:∀ q,q<4->n+q∈(iu ops.toList).getD (n+4) [])
  (T3:∀ i∈ie hL,i<n) (T4:∀ i∈ie iK,i<n\/i=n+2)
  {eg fL d1 d2:Nat} (sI:gG.dst=some eg) (dj:iw.dst=some fL) (Du:hL.dst=some d1) (Hf:iK.dst=some d2) (_n1:eg≠fL) (dP:eg≠d1) (hZ:eg≠d2) (n4:fL≠d1) (Dv:fL≠d2)
  {a:Act} {w wE:World} {u vB vE vX:Value}
  (T5:∀ b e x,(execOp (mB a eg fL d1 d2 u vB vE vX false b e x).eval gG).run C.P (if e=true then wE else w)=.ok (.value u) (if e=true then wE else w))
  (T6:∀ e x,(execOp (mB a eg fL d1 d2 u vB vE vX true false e x).eval iw).run C.P (if e=true then wE else w)=.ok (.value vB) (if e=true then wE else w))
  (T7:∀ l b x,(execOp (mB a eg fL d1 d2 u vB vE vX l b false x).eval hL).run C.P w=.ok (.value vE) wE)
  (T8:∀ l b,(execOp (mB a eg fL d1 d2 u vB vE vX l b true false).eval iK).run C.P wE=.ok (.value vX) wE)
  (h:wpOpsIn (dS C.r) 0 C.P ops Q (List.range' n 5) a w):∀ (cg:Nat) (listed:Array Bool),listed.size=ops.size->(∀ i,listed.getD i false=decide (i<n))->5<=cg->wpAnyIn (dS C.r) 0 C.P .any ops Q cg listed a w:=by
 let aM:=mB a eg fL d1 d2 u vB vE vX;let aw:=λe:Bool=>if e=true then wE else w
 have wt:∀ {o:Oper},o.guard=none->∀ a':Act,Region.wanted o (yielded ops a'.tmps)=true:=λh a'=>by unfold Region.wanted;rw[h]
 have Hg:l4.wpIn (dS C.r) 0 C.P (aM true true true true) wE (λa' w'=>Q .normal a' w') Q:=by
  have hv:List.range' n 5=[n,n+1,n+2,n+3,n+4]:=rfl;rw[hv]at h;simp only[wpOpsIn,xX,vC,Ah,Dp,Dq,wt Dr,wt Ds,wt G',wt Ha,wt Hb,if_true]at h;have E:=Dn (a:=aM false false false false) (w:=w) Dt (T5 false false false) h;rw[sI]at E;have U:=Dn (a:=aM true false false false) (w:=w) Hc (T6 false false) E;rw[dj]at U;have ah:=Dn (a:=aM true true false false) (w:=w) Hd (T7 true true false) U;rw[Du]at ah;have a6:=Dn (a:=aM true true true false) (w:=wE) He (T8 true true) ah;rw[Hf]at a6;exact a6
 have ag8:∀ {l b e x:Bool} {listed:Array Bool},G_ n l b e x listed->(b=true->l=true)->(x=true->e=true)->∀ q o,ops[q]?=some o->listed.getD q false=true->∀ i∈ie o,listed.getD i false=true:=by
  intro l b e x listed bo aa ai q o ag bt i G;have ag9:q<ops.size:=(Array.getElem?_eq_some_iff.1 ag).1;have ax3:i<q:=by
   have:=List.all_eq_true.1 rz q (by grind);grind
  rw[bo]at bt ⊢;grind
 have ax4:∀ {listed:Array Bool} {i:Nat},listed.size=ops.size->i<ops.size->(listed[i]?.getD true=false<->listed.getD i false=false):=by
  intro listed i cd G;rw[Array.getD_eq_getD_getElem?,Array.getElem?_eq_getElem (by omega)];rfl
 have ag_:∀ {l b e x:Bool} {listed:Array Bool},G_ n l b e x listed->(b=true->l=true)->(x=true->e=true)->listed.size=ops.size->∀ i∈Region.ready .any ops listed,(i=n/\l=false)\/(i=n+1/\l=true/\b=false)\/(i=n+2/\e=false)\/(i=n+3/\e=true/\x=false)\/(i=n+4/\l=true/\b=true/\e=true/\x=true):=by
  intro l b e x listed bo aa ai cd i G;have qu:=ag8 bo aa ai;rw[mem_ready]at G;obtain⟨aY,o,ag,G9⟩:=G;have jo:i<ops.size:=(Array.getElem?_eq_some_iff.1 ag).1;have aY:listed.getD i false=false:=by
   grind
  have sH:∀ k∈ie o,listed.getD k false=true:=by
   intro k ak;obtain⟨e,he,vA⟩:=List.mem_filterMap.1 ak;split at vA
   ·rename_i aa;cases vA;grind
   grind
  have Dk:∀ k∈(iu ops.toList).getD i [],listed.getD k false=true\/k=i:=by
   intro k ak;refine xx (p:=λj=>listed.getD j false=true\/j=i) ops.toList [] (λj i G=>by simp at G) (λj hW kg k ak aG=>?_) i k ak (.inr rfl);have lB:ops[j]?=some hW:=by grind
   rcases (by simpa using aG:listed.getD j false=true\/j=i) with aG | aG
   ·exact .inl (qu j hW lB aG k ak)
   ·subst aG;rw[ag]at lB;cases lB;exact .inl (sH k ak)
  rw[bo]at aY;simp only[Bool.or_eq_false_iff,Bool.and_eq_false_iff,decide_eq_false_iff_not]at aY;obtain⟨⟨⟨⟨hn,aQ⟩,aS⟩,bN⟩,fm⟩:=aY;have F7:n<=i:=by omega
  have ag':i=n\/i=n+1\/i=n+2\/i=n+3\/i=n+4:=by omega
  have flag:∀ q,q<4->n+q∈(iu ops.toList).getD i []->n+q≠i->(if q=0 then l else if q=1 then b else if q=2 then e else x)=true:=by
   intro q bt hm eQ;rcases Dk _ hm with h | h
   ·rw[bo]at h;simp only[Bool.or_eq_true,Bool.and_eq_true,decide_eq_true_eq]at h;rcases h with (((h | ⟨E,h⟩) | ⟨E,h⟩) | ⟨E,h⟩) | ⟨E,h⟩
    ·omega
    ·grind
    ·have:q=1:=by omega
     subst this;exact E
    ·have:q=2:=by omega
     subst this;exact E
    ·have:q=3:=by omega
     subst this;exact E
   omega
  rcases ag' with rfl | rfl | rfl | rfl | rfl
  ·grind
  ·exact .inr (.inl ⟨rfl,flag 0 (by omega) Mv (by omega),by grind⟩)
  ·grind
  ·grind
  ·exact .inr (.inr (.inr (.inr ⟨rfl,flag 0 (by omega) (Ai 0 (by omega)) (by omega),flag 1 (by omega) (Ai 1 (by omega)) (by omega),flag 2 (by omega) (Ai 2 (by omega)) (by omega),flag 3 (by omega) (Ai 3 (by omega)) (by omega)⟩)))
 have aha:∀ {l b e x:Bool} {listed:Array Bool},G_ n l b e x listed->(b=true->l=true)->(x=true->e=true)->listed.size=ops.size->Region.ready .any ops listed≠[]:=by
  intro l b e x listed bo aa ai cd vm;have mk:∀ i o,ops[i]?=some o->listed.getD i false=false->(∀ k∈ie o,listed.getD k false=true)->False:=by
   intro i o ag aY au;have jo:i<ops.size:=(Array.getElem?_eq_some_iff.1 ag).1;have:i∈Region.ready .any ops listed:=by
    rw[mem_ready];refine⟨?_,o,ag,λe he aa=>au e.on (List.mem_filterMap.2 ⟨e,by grind,by grind⟩)⟩;grind
   grind
  have lt:∀ q o,ops[q]?=some o->∀ i∈ie o,i<q:=by
   intro q o ag i G;have ag9:q<ops.size:=(Array.getElem?_eq_some_iff.1 ag).1;have:=List.all_eq_true.1 rz q (by grind);rw[show ops.toList[q]?=some o by grind]at this;have:=List.all_eq_true.1 this i G;grind
  cases l with
  | false=>
   have po:b=false:=by grind
   subst po;exact mk n gG xX (by rw[bo];simp) λk ak=>by rw[bo];grind
  | true=>
   cases b with
   | false=>exact mk (n+1) iw vC (by rw[bo];simp) λk ak=>by rw[bo];grind
   | true=>
    cases e with
    | false=>
     have Mw:x=false:=by grind
     subst Mw;exact mk (n+2) hL Ah (by rw[bo];simp) λk ak=>by rw[bo];grind
    | true=>
     cases x with
     | false=>exact mk (n+3) iK Dp (by rw[bo];simp) λk ak=>by rw[bo];grind
     | true=>exact mk (n+4) l4 Dq (by rw[bo];simp) λk ak=>by rw[bo];grind
 have Dw:∀ {listed:Array Bool} (i:Nat),listed.size=ops.size->i<ops.size->∀ q,(listed.setIfInBounds i true).getD q false=(listed.getD q false||decide (q=i)):=by
  intro listed i cd G q;by_cases e:q=i
  ·grind
  grind
 let cf:=λ(l b e x:Bool)=>∀ (cg:Nat) (listed:Array Bool),G_ n l b e x listed->listed.size=ops.size->5<=cg+(l.toNat+b.toNat+e.toNat+x.toNat)->wpAnyIn (dS C.r) 0 C.P .any ops Q cg listed (aM l b e x) (aw e);have step:∀ l b e x,(b=true->l=true)->(x=true->e=true)->(l=false->cf true b e x)->(l=true->b=false->cf l true e x)->(e=false->cf l b true x)->(e=true->x=false->cf l b e true)->cf l b e x:=by
  intro l b e x aa ai eI dN eK oQ cg listed bo cd sG;have ax5:l.toNat<=1/\b.toNat<=1/\e.toNat<=1/\x.toNat<=1:=⟨Bool.toNat_le l,Bool.toNat_le b,Bool.toNat_le e,Bool.toNat_le x⟩
  cases cg with
  | zero=>omega
  | succ cg=>
   refine⟨λM=>absurd M (aha bo aa ai cd),λi G=>?_⟩;rcases ag_ bo aa ai cd i G with⟨rfl,E⟩ | ⟨rfl,E,U⟩ | ⟨rfl,E⟩ | ⟨rfl,E,U⟩ | ⟨rfl,E,U,ah,a6⟩
   ·subst E;have po:b=false:=by grind
    subst po;unfold wpOpIn;simp only[xX,wt Dr,if_true];refine hy Dt (T5 false e x) ?_;rw[sI];have zo:(aM false false e x).put (some eg) u=aM true false e x:=by
     simp only[aM,mB];cases e<;>cases x<;>simp[G5 _ dP.symm,G5 _ hZ.symm]
    show wpAnyIn _ _ _ _ _ _ _ _ ((aM false false e x).put (some eg) u) (aw e);rw[zo];refine eI rfl cg _ (λq=>?_) (by grind) (by grind);rw[Dw i cd (by omega),bo];by_cases bt:q=i<;>simp[bt]
   ·subst E;subst U;unfold wpOpIn;simp only[vC,wt Ds,if_true];refine hy Hc (T6 e x) ?_;rw[dj];have zo:(aM true false e x).put (some fL) vB=aM true true e x:=by
     simp only[aM,mB];cases e<;>cases x<;>simp[G5 _ n4.symm,G5 _ Dv.symm]
    show wpAnyIn _ _ _ _ _ _ _ _ ((aM true false e x).put (some fL) vB) (aw e);rw[zo];refine dN rfl rfl cg _ (λq=>?_) (by grind) (by grind);rw[Dw (n+1) cd (by omega),bo];by_cases bt:q=n+1<;>simp[bt]
   ·subst E;have Mw:x=false:=by grind
    subst Mw;unfold wpOpIn;simp only[Ah,wt G',if_true];refine hy Hd (T7 l b false) ?_;rw[Du];show wpAnyIn _ _ _ _ _ _ _ _ (aM l b true false) (aw true);refine eK rfl cg _ (λq=>?_) (by grind) (by grind);rw[Dw (n+2) cd (by omega),bo];simp
   ·subst E;subst U;unfold wpOpIn;simp only[Dp,wt Ha,if_true];refine hy He (T8 l b) ?_;rw[Hf];show wpAnyIn _ _ _ _ _ _ _ _ (aM l b true true) (aw true);refine oQ rfl rfl cg _ (λq=>?_) (by grind) (by grind);rw[Dw (n+3) cd (by omega),bo];simp
   ·subst E;subst U;subst ah;subst a6;unfold wpOpIn;simp only[Dq,wt Hb,if_true];refine Oper.wpIn_mono (λa' w' bt=>?_) Hg;have fT:∀ i,(listed.setIfInBounds (n+4) true).getD i false=decide (i<n+5):=λi=>by
     rw[Dw (n+4) cd (by omega),bo,Bool.eq_iff_iff];simp only[Bool.or_eq_true,Bool.and_eq_true,decide_eq_true_eq,true_and];omega
    have M:∀ i,i ∉ Region.ready .any ops (listed.setIfInBounds (n+4) true):=λi G=>by
     rw[mem_ready]at G;obtain⟨aY,o,ag,_⟩:=G;grind
    have iO:Region.ready .any ops (listed.setIfInBounds (n+4) true)=[]:=List.eq_nil_iff_forall_not_mem.2 M;cases cg with
    | zero=>exact⟨iO,bt⟩
    | succ cg=>exact⟨λ_=>bt,λi G=>absurd G (M i)⟩
 have f:∀ {p:Prop},(true:Bool)=false->p:=λh=>by cases h
 have iG:∀ {p:Prop},(false:Bool)=true->p:=λh=>by cases h
 have T9:cf true true true true:=step _ _ _ _ (λ_=>rfl) (λ_=>rfl) f (λ_=>f) f (λ_=>f);have T_:cf true true true false:=step _ _ _ _ (λ_=>rfl) (λ_=>rfl) f (λ_=>f) f (λ_ _=>T9);have ahb:cf true true false false:=step _ _ _ _ (λ_=>rfl) iG f (λ_=>f) (λ_=>T_) iG;have T':cf true false true true:=step _ _ _ _ (λ_=>rfl) (λ_=>rfl) f (λ_ _=>T9) f (λ_=>f);have Ua:cf true false true false:=step _ _ _ _ (λ_=>rfl) (λ_=>rfl) f (λ_ _=>T_) f (λ_ _=>T');have ahc:cf true false false false:=step _ _ _ _ (λ_=>rfl) iG f (λ_ _=>ahb) (λ_=>Ua) iG;have ahd:cf false false true true:=step _ _ _ _ iG (λ_=>rfl) (λ_=>T') iG f (λ_=>f);have ahe:cf false false true false:=step _ _ _ _ iG (λ_=>rfl) (λ_=>Ua) iG f (λ_ _=>ahd);have ahf:cf false false false false:=step _ _ _ _ iG iG (λ_=>ahc) iG (λ_=>ahe) iG;intro cg listed cd al sG;exact ahf cg listed (λi=>by grind) cd (by omega)
theorem ahg{n:Nat}(ax:n<=ops.size)(aV:dT C.P T)(cC:jq C.P bf)(au:∀ o∈ops.toList,lx o C.nt=true){l:List eR}{s':aC}(aD:xt C.aP T bf ops (ops.toList.take n) s=some (l,s'))(cN:zQ (ops.toList.take n) l=true)(agX:∀ j,n<=j->j<ops.size->∀ i,i<n->i∈(iu ops.toList).getD j [])
  (hc:∀ r∈l,∀ p∈r.cs,p) (uf:∀ (cg:Nat) (listed:Array Bool) a' w',listed.size=ops.size->(∀ i,listed.getD i false=decide (i<n))->ops.size - n<=cg->cv C s' a' w'->wpAnyIn (dS C.r) 0 C.P .any ops Q cg listed a' w'):∀ (cg:Nat) (listed:Array Bool) (a:Act) (w:World),listed.size=ops.size->
   (∀ j o,ops[j]?=some o->listed.getD j false=true->∀ i∈ie o,listed.getD i false=true)->(∀ i,n<=i->listed.getD i false=false)->((List.range ops.size).filter λj=>!listed.getD j false).length<=cg->
   cv C (jv l s λj=>listed.getD j false) a w->wpAnyIn (dS C.r) 0 C.P .any ops Q cg listed a w:=by
 obtain⟨hlen,sg,Dl⟩:=SS _ _ aD;have G1:(ops.toList.take n).length=n:=by grind
 have gH:∀ i,i<n->(ops.toList.take n)[i]?=ops[i]?:=λi G=>by
  grind
 simp only[zQ,Bool.and_eq_true]at cN;obtain⟨rz,Mr⟩:=cN;have ag2:∀ j o,j<n->ops[j]?=some o->∀ i∈ie o,i<j:=by
  intro j o Mq ag i G;have:=List.all_eq_true.1 rz j (by grind);grind
 have ag3:∀ i j x y,i<j->l[i]?=some x->l[j]?=some y->((iu (ops.toList.take n)).getD j []).contains i=true\/x.apart y=true:=by
  intro i j x y zI G aG;have Ag:j<l.length:=(List.getElem?_eq_some_iff.1 aG).1;have:=List.all_eq_true.1 Mr j (by grind);grind
 intro cg;induction cg with
 | zero=>
  intro listed a w cd _ pq Ms ke;have fT:∀ i,listed.getD i false=decide (i<n):=λi=>by
   by_cases G:i<n
   ·cases al:listed.getD i false with
    | true=>grind
    | false=>
     exfalso;have:i∈(List.range ops.size).filter λj=>!listed.getD j false:=by
      grind
     grind
   grind
  refine uf 0 listed a w cd fT ?_ ?_
  ·by_cases ch:n<ops.size
   ·have:n∈(List.range ops.size).filter λj=>!listed.getD j false:=by
     grind
    grind
   ·omega
  ·have:jv l s (λj=>listed.getD j false)=s':=by
    rw[sg];unfold jv;rw[List.filter_eq_self.2 λp aq=>?_,CQ];obtain⟨_,U⟩:=zS aq;grind
   grind
 | succ cg aL=>
  intro listed a w cd qu pq Ms ke;by_cases Dm:∀ i,i<n->listed.getD i false=true
  ·have fT:∀ i,listed.getD i false=decide (i<n):=λi=>by
    grind
   refine uf (cg+1) listed a w cd fT ?_ ?_
   ·have E:(List.range' n (ops.size - n)).length<=((List.range ops.size).filter λj=>!listed.getD j false).length:=by
     have e:(List.range ops.size).filter (λj=>!listed.getD j false)=List.range' n (ops.size - n):=by
      have U:(List.range ops.size).filter (λj=>!listed.getD j false)=(List.range ops.size).filter λj=>decide (n<=j):=List.filter_congr λj _=>by
       grind
      rw[U];have ah:List.range ops.size=List.range n++List.range' n (ops.size - n):=by
       rw[List.range_eq_range',List.range_eq_range'];have:=(List.range'_append (s:=0) (m:=n) (n:=ops.size - n) (step:=1))
       grind
      rw[ah,List.filter_append,List.filter_eq_nil_iff.2 λj aG=>by grind,List.filter_eq_self.2 λj aG=>by grind];rfl
     grind
    grind
   ·have:jv l s (λj=>listed.getD j false)=s':=by
     rw[sg];unfold jv;rw[List.filter_eq_self.2 λp aq=>?_,CQ];obtain⟨_,U⟩:=zS aq;grind
    grind
  ·refine⟨λM=>absurd ?_ Dm,λi G=>?_⟩
   ·intro j;induction j using Nat.strongRecOn with
    | _ j ax6=>
     intro aG;cases al:listed.getD j false with
     | true=>rfl
     | false=>
      exfalso;have jS:j∈Region.ready .any ops listed:=by
       rw[mem_ready];refine⟨?_,ops[j],by simp,λe he aa=>?_⟩
       ·grind
       ·have jo:e.on∈ie ops[j]:=List.mem_filterMap.2 ⟨e,by grind,by grind⟩;grind
      grind
   ·rw[mem_ready]at G;obtain⟨aY,o,ag,G9⟩:=G;have jo:i<ops.size:=(Array.getElem?_eq_some_iff.1 ag).1;have Dj:listed.getD i false=false:=by
     grind
    have jS:o∈ops.toList:=by
     grind
    have sH:∀ k∈ie o,listed.getD k false=true:=by
     intro k ak;obtain⟨e,he,vA⟩:=List.mem_filterMap.1 ak;split at vA
     ·rename_i aa;cases vA;exact G9 e (by simpa using he) aa
     ·cases vA
    have G:i<n:=by
     by_cases G:i<n
     ·exact G
     ·exfalso;have Dk:∀ k∈(iu ops.toList).getD i [],listed.getD k false=true\/k=i:=by
       intro k ak;refine xx (p:=λj=>listed.getD j false=true\/j=i) ops.toList [] (λj i G=>by simp at G) (λj hW kg k ak aG=>?_) i k ak (.inr rfl);have lB:ops[j]?=some hW:=by grind
       rcases (by simpa using aG:listed.getD j false=true\/j=i) with aG | aG
       ·exact .inl (qu j hW lB aG k ak)
       ·subst aG;rw[ag]at lB;cases lB;exact .inl (sH k ak)
      grind
    obtain⟨r,M,fZ⟩:=Dl i o (by grind);have ag4:∀ j k,k∈(iu (ops.toList.take n)).getD j []->listed.getD j false=true->listed.getD k false=true:=by
     refine xx (p:=λj=>listed.getD j false=true) (ops.toList.take n) [] (λj i G=>by simp at G) λj hW kg k ak aG=>?_;have Mq:j<n:=by grind
     exact qu j hW (by grind) (by simpa using aG) k ak
    have Dk:∀ k∈(iu (ops.toList.take n)).getD i [],listed.getD k false=true\/k=i:=by
     intro k ak;refine xx (p:=λj=>listed.getD j false=true\/j=i) (ops.toList.take n) [] (λj i G=>by simp at G) (λj hW kg k ak aG=>?_) i k ak (.inr rfl);have Mq:j<n:=by grind
     have lB:ops[j]?=some hW:=by grind
     rcases (by simpa using aG:listed.getD j false=true\/j=i) with aG | aG
     ·exact .inl (qu j hW lB aG k ak)
     ·subst aG;rw[ag]at lB;cases lB;exact .inl (sH k ak)
    have gO:∀ j x,j<i->l[j]?=some x->listed.getD j false=false->x.apart r=true:=by
     grind
    have tZ:∀ j x,i<j->l[j]?=some x->listed.getD j false=true->r.apart x=true:=by
     grind
    obtain⟨aQ,aS,bN⟩:=SP (s:=s) (f:=λj=>listed.getD j false) M Dj gO tZ;have Mt:=SU fZ aQ aS;unfold wpOpIn;rw[ag];refine TY aV cC (au o jS) Mt (hc r (List.mem_of_getElem? M)) ke λa' w' bb=>?_;have eX:∀ j,(listed.setIfInBounds i true).getD j false=if j=i then true else listed.getD j false:=by
     intro j;by_cases e:j=i
     ·subst e;rw[if_pos rfl,Array.getD_eq_getD_getElem?,Array.getElem?_setIfInBounds_self_of_lt (by omega)];rfl
     ·rw[if_neg e,getD_set_ne false (Ne.symm e)]
    refine aL _ a' w' (by grind) (λj hW kg aG k ak=>?_) (λq bt=>by rw[eX,if_neg (by omega)];grind) ?_ ?_
    ·rw[eX]at aG ⊢;split
     ·rfl
     ·split at aG
      ·rename_i e;subst e;rw[ag]at kg;cases kg;exact sH k ak
      ·exact qu j hW kg aG k ak
    ·have ch:((List.range ops.size).filter λj=>!(listed.setIfInBounds i true).getD j false).length<((List.range ops.size).filter λj=>!listed.getD j false).length:=by
      have az:(List.range ops.size).filter (λj=>!(listed.setIfInBounds i true).getD j false)=((List.range ops.size).filter λj=>!listed.getD j false).filter λj=>decide (j≠i):=by
       rw[List.filter_filter];apply List.filter_congr;intro j _;rw[eX];simp
      rw[az];have Mu:i∈(List.range ops.size).filter λj=>!listed.getD j false:=by
       grind
      exact List.length_filter_lt_length_iff_exists.2 ⟨i,Mu,by simp⟩
     omega
    ·have:jv l s (λj=>(listed.setIfInBounds i true).getD j false)=r.ib (jv l s λj=>listed.getD j false):=by
      rw[<-bN];congr 1;funext j;grind
     grind
theorem Ub{β:Type}{b:Bool}{p:Prop}{m:A β}{O:β->Prop}(h:A.cy (sx b p m) O):A.cy m O:=by
 cases b with
 | true=>exact h
 | false=>exact (A.kP.1 h).2
theorem ahh{gG iw hL iK l4:Oper}(h:LA gG iw hL iK l4=true):∃ ty m x Hh Mx k c eg fL d1 d2 ki y,gG.op=.lookup ty m x false/\iw.op=.binOp .add Hh (.tmp eg) (.const (.int k c)) Mx/\hL.op=.mapEntry ty m x/\iK.op=.extract (.tmp d1) 1/\
  ki.op=.mapUpdate ty m x y/\zX hL iK l4=some (ki,d1,d2)/\gG.dst=some eg/\iw.dst=some fL/\hL.dst=some d1/\iK.dst=some d2/\fU k c/\(eg≠fL/\eg≠d1/\eg≠d2/\fL≠d1/\fL≠d2/\d1≠d2)/\
  (m≠.tmp eg/\m≠.tmp fL/\m≠.tmp d1/\m≠.tmp d2)/\(x≠.tmp eg/\x≠.tmp fL/\x≠.tmp d1/\x≠.tmp d2)/\(∃ oP,m=.tmp oP)/\(∃ My,x=.tmp My)/\gG.guard=none/\iw.guard=none/\hL.guard=none/\iK.guard=none/\l4.guard=none:=by
 unfold LA at h;split at h
 ·rename_i ty m x Hh t k c Mx mX dA dL gH aU lv;split at h
  ·rename_i eg fL ki d1 d2 sI dj sG;simp only[decide_eq_true_eq]at h;obtain⟨rfl,rfl,jo,az,aN,dZ,dP,hZ,n4,Dv,Uc,eI,dN,b6,a2,a3,a4,dO,e3,mS,r5,dr,dI⟩:=h;obtain⟨ax7,ax8,ax9,ax_,f1,f2,f3,f4,f5,f6,f7,f8,f9,f10,f11,f12,g1,ew,g3⟩:=TO sG;obtain⟨oP,ue⟩:=Option.isSome_iff_exists.1 eI;obtain⟨My,Ud⟩:=Option.isSome_iff_exists.1 dN;have em:=vz ue;have ex:=vz Ud;have ahi:=vz (az.trans ue);have ahj:=vz (aN.trans Ud);rw[f1]at lv;simp only[Op.mapEntry.injEq]at lv;obtain⟨rfl,rfl,rfl⟩:=lv;subst em;subst ex;subst ahi;subst ahj;refine⟨_,_,_,_,_,_,_,_,_,_,_,ki,_,gH,aU,f1,f3,f7,sG,sI,dj,f2,f4,jo,⟨dZ,dP,hZ,n4,Dv,Uc⟩,?_,?_,⟨_,rfl⟩,⟨_,rfl⟩,Option.isNone_iff_eq_none.1 dr,Option.isNone_iff_eq_none.1 dI,g1,ew,g3⟩
   ·simp only[ig,ne_eq,Option.some.injEq]at b6 a2 a3 a4;exact⟨λe=>b6 (by cases e;rfl),λe=>a2 (by cases e;rfl),λe=>a3 (by cases e;rfl),λe=>a4 (by cases e;rfl)⟩
   ·simp only[ig,ne_eq,Option.some.injEq]at dO e3 mS r5;exact⟨λe=>dO (by cases e;rfl),λe=>e3 (by cases e;rfl),λe=>mS (by cases e;rfl),λe=>r5 (by cases e;rfl)⟩
  grind
 grind
theorem ahk{β:Type}{n:Nat}(sC:GC ops.toList=true)(ax:n=ops.size - 5)(aV:dT C.P T)(cC:jq C.P bf)(c1:l6 C.P C.aP Ψ)(au:∀ o∈ops.toList,lx o C.nt=true){k:aC->A β}{O:β->Prop}
  (ak:∀ s' a' w',cv C s' a' w'->A.cy (k s') O->Q .normal a' w') (hm:A.cy (my C.aP T bf Ψ ops (ops.toList.drop n) [] s k) O) :
  (n<=ops.size/\∀ j,n<=j->j<ops.size->∀ i,i<n->i∈(iu ops.toList).getD j [])/\∀ (a:Act) (w:World),cv C s a w->∀ (cg:Nat) (listed:Array Bool),listed.size=ops.size->(∀ i,listed.getD i false=decide (i<n))->ops.size - n<=cg->wpAnyIn (dS C.r) 0 C.P .any ops Q cg listed a w:=by
 unfold GC at sC;rw[show ops.toList.length - 5=n by grind]at sC;split at sC
 ·rename_i gG iw hL iK l4 Ue;simp only[Bool.and_eq_true,List.all_eq_true,List.mem_range,List.contains_eq_mem,decide_eq_true_eq,Bool.or_eq_true]at sC;obtain⟨ahl,⟨⟨⟨⟨⟨rz,gO⟩,Mv⟩,T2⟩,Ai⟩,T3⟩,T4⟩:=sC;have T1:ops.size=n+5:=by
   have:=congrArg List.length Ue;grind
  have Dx:∀ q (o:Oper),[gG,iw,hL,iK,l4][q]?=some o->ops[n+q]?=some o:=λq o h=>by
   grind
  have xX:=Dx 0 gG rfl;have vC:=Dx 1 iw rfl;have Ah:=Dx 2 hL rfl;have Dp:=Dx 3 iK rfl;have Dq:=Dx 4 l4 rfl;have mem:∀ {q o},ops[n+q]?=some o->o∈ops.toList:=λh=>by
   grind
  obtain⟨ty,m,x,Hh,Mx,fl,c,eg,fL,d1,d2,ki,y,gH,aU,lv,Ac,h2,tJ,sI,dj,Du,Hf,jo,⟨dZ,dP,hZ,n4,Dv,Uc⟩,⟨m1,m2,m3,m4⟩,⟨xg,xf,Uf,ahm⟩,⟨oP,em⟩,⟨My,ex⟩,Dr,Ds,G',Ha,Hb⟩:=ahh ahl;have Dt:∀ c,gG.op≠.defer c:=by grind
  have Hc:∀ c,iw.op≠.defer c:=by grind
  have Hd:∀ c,hL.op≠.defer c:=by grind
  have He:∀ c,iK.op≠.defer c:=by grind
  refine⟨⟨by omega,λj E U i G=>by have:=gO (j - n) (by omega) i G;simp_all⟩,λa w M cg listed cd al sG=>?_⟩;have Ug:=Mn (Q:=Q) aV cC c1 au ak _ n [] s a w rfl (λp aq=>by cases aq) M hm;rw[show (ops.toList.drop n).length=5 by grind]at Ug;rw[Ue]at hm;obtain⟨κ,F,eY⟩:=M;have gd:∀ {o:Oper},o.guard=none->∀ s:aC,kC s.aA ops o.guard=some none:=λh s=>by rw[h];rfl
  have Uh:∀ {o:Oper} {os},(∀ ty m x,o.op≠.mapEntry ty m x)->zY o os=none:=λ{o os} h=>by
   unfold zY;split
   ·unfold zX;simp
   ·rfl
  have G1:zY gG [iw,hL,iK,l4]=none:=Uh (by grind);unfold my at hm;rw[G1]at hm;simp only[gd Dr]at hm;split at hm
  ·rename_i ug Hi;rw[sF λaa=>(G2 (s:=s) (λp aq=>by cases aq) (gk:=none) (λk ak=>by cases ak) aa).run s.ab ug Hi,sF λaa=>(zO aa).run s.ab ug Hi]at hm;obtain⟨Mz,ahn,hm⟩:=hm;have aho:=xr aV cC (au gG (mem xX)) Hi;have xY:=Hi;simp only[bu,gH,zm]at xY;have ahp:(use (a8 C.aP s.aA m)).1/\(use (a8 C.aP s.aA x)).1/\ug.hH=[]/\∃ v u,ug.e'=.val v u:=by
    split at xY
    ·rename_i js ax' aya;split at xY
     ·simp only[ar.e6,Option.bind_eq_some_iff,bP,ar.bO,Option.some.injEq]at xY;obtain⟨es,pk,⟨y,l⟩,aT,rfl⟩:=xY;exact⟨Mz.1,Mz.2,rfl,_,_,rfl⟩
     ·cases xY
    ·cases xY
   obtain⟨Mo,Mp,Ui,Uj,Uk,ahq⟩:=ahp;have ahr:zY iw [hL,iK,l4]=none:=Uh (by grind);unfold my at hm;rw[ahr]at hm;simp only[gd Ds]at hm;split at hm
   ·rename_i MA ahs;have hm:=Ub (Ub hm);have vD:=ahs;have az:(s.ia gG.dst ug).aA eg=.val Uj Uk:=by rw[sI,aC.ia,aC.Ml,ahq]
    have l3:xb (.int fl c)=.val (.int fl) c:=by simp[xb,jo]
    have aht:∃ b6,Uj=.int fl/\MA.hH=[]/\b6=Uk:=by
     simp only[bu,aU,a8,az,l3,use,aI.mr,aI.tE]at vD;split at vD
     ·rename_i aQ b6 aS dO E U;split at E
      ·rename_i bN Uf ah;cases U;cases ah;cases E;split at vD
       ·rename_i vg;simp only[zi,bP,ar.bO,Option.some.injEq]at vD;grind
       ·cases vD
      grind
     ·rename_i pq;exfalso;split at vD
      ·grind
      ·simp only[ar.e6,Option.bind_eq_some_iff]at vD;obtain⟨⟨c',h9⟩,E,U⟩:=vD;simp only[zj,ar.e6,Option.bind_eq_some_iff,ar.bO]at E;grind
    obtain⟨lC,rfl,Ul,rfl⟩:=aht;have iH:((s.ia gG.dst ug).ia iw.dst MA).ab=s.ab:=by
     simp only[aC.ia,Ui,Ul,aC.gf,sI,dj,aC.set]
    have eH:∀ {t:Nat},t≠eg->t≠fL->((s.ia gG.dst ug).ia iw.dst MA).aA t=s.aA t:=λ{t} E U=>by
     simp only[aC.ia,Ui,Ul,aC.gf];rw[aC.Dg (by grind),aC.Dg (by grind)]
    unfold my at hm;rw[show zY hL [iK,l4]=some (ki,d1,d2) from tJ]at hm;simp only at hm;split at hm
    ·rename_i ayb ahu;obtain⟨u,mC,wE,Um⟩:=agT (s:=s) aV gH lv h2 iH (by rw[em];exact eH (λe=>m1 (by grind)) (λe=>m2 (by grind))) (by rw[ex];exact eH (λe=>xg (by grind)) (λe=>xf (by grind))) ahu eY Mo Mp;have ahv:=(Um a rfl rfl).1;have ahw:=Dn (K:=λa' w'=>cv C (s.ia gG.dst ug) a' w') (Q:=Q) Dt ahv (aho a w κ F Q eY Mz ahn);have Un:eg<a.tmps.size:=by
      have:=au gG (mem xX);simp only[lx,Bool.and_eq_true]at this;have:=this.1;rw[sI]at this;have E:=eY.dH;grind
     have ayc:d1<a.tmps.size:=by
      have:=au hL (mem Ah);simp only[lx,Bool.and_eq_true]at this;have:=this.1;rw[Du]at this;have E:=eY.dH;grind
     have hu:u=.int fl lC:=by
      obtain⟨afP,Af,gP⟩:=ahw;have E:=gP.bU eg;rw[az,sI]at E;have U:(a.put (some eg) u).tmps.getD eg Go.undef=u:=Dc Un;rw[U]at E;exact (gW.1 E).1
     subst hu;let vB:Value:=.int fl (fl.wrap (lC+c));have ahx:∀ (a':Act) (w':World),a'.eval (.tmp eg)=.int fl lC->(execOp a'.eval iw).run C.P w'=.ok (.value vB) w':=λa' w' h=>by
      have U:a'.eval (.const (.int fl c))=.int fl c:=rfl;have ah:(Go.binOp .add Hh (.int fl lC) (.int fl c)).run C.P w'=.ok vB w':=by simp[Go.binOp,Op.intArith,vB]
      simp only[execOp,aU,h,U,Sem.run_bind,RP,Result.andThen_ok,ah,Sem.run_pure]
     have ahy:∀ (a':Act) (w':World),a'.eval (.tmp d1)=.tuple #[.int fl lC,goInt mC]->(execOp a'.eval iK).run C.P w'=.ok (.value (goInt mC)) w':=λa' w' h=>by
      simp[execOp,Ac,h,Instr.extract]
     have Md:∀ l b e dL,(mB a eg fL d1 d2 (.int fl lC) vB (.tuple #[.int fl lC,goInt mC]) (goInt mC) l b e dL).eval m=a.eval m:=λl b e dL=>T0 m1 m2 m3 m4;have ahz:∀ l b e dL,(mB a eg fL d1 d2 (.int fl lC) vB (.tuple #[.int fl lC,goInt mC]) (goInt mC) l b e dL).eval x=a.eval x:=λl b e dL=>T0 xg xf Uf ahm;refine ag7 (wE:=wE) (u:=.int fl lC) (vB:=vB) (vE:=.tuple #[.int fl lC,goInt mC]) (vX:=goInt mC) T1 rz xX vC Ah Dp Dq Dr Ds G' Ha Hb Dt Hc Hd He gO Mv T2 Ai T3 T4 sI dj Du Hf dZ dP hZ n4 Dv ?_ ?_ ?_ ?_ Ug cg listed cd al (by omega)
     ·intro b e dL;have:=Um _ (Md false b e dL) (ahz false b e dL);cases e
      ·exact this.1
      ·exact this.2.1
     ·intro e dL;refine ahx _ _ ?_;have E:(mB a eg fL d1 d2 (.int fl lC) vB (.tuple #[.int fl lC,goInt mC]) (goInt mC) true false e dL).eval (.tmp eg)=(a.put (some eg) (.int fl lC)).eval (.tmp eg):=by
       have dr:Operand.tmp eg≠.tmp d1:=λh=>dP (by grind);have dI:Operand.tmp eg≠.tmp d2:=λh=>hZ (by grind);unfold mB;cases e<;>cases dL<;>simp[Ae,dr,dI]
      rw[E];exact Dc Un
     ·grind
     ·intro l b;refine ahy _ _ ?_;have E:mB a eg fL d1 d2 (.int fl lC) vB (.tuple #[.int fl lC,goInt mC]) (goInt mC) l b true false=(mB a eg fL d1 d2 (.int fl lC) vB (.tuple #[.int fl lC,goInt mC]) (goInt mC) l b false false).put (some d1) (.tuple #[.int fl lC,goInt mC]):=rfl;rw[E];exact Dc (by rw[ag6];omega)
    ·exact hm.1.elim
   ·rename_i ayd;exfalso;have:rl C.aP T bf Ψ (s.ia gG.dst ug) iw=none:=by
     have l3:xb (.int fl c)=.val (.int fl) c:=by simp[xb,jo]
     simp only[rl,aU,CY,a8,l3];simp
    rw[this]at hm;exact hm.1
  ·exfalso;have:rl C.aP T bf Ψ s gG=none:=by simp only[rl,gH]
   rw[this]at hm;exact hm.1
 grind
theorem ahA{β:Type}{L:List (aC->A β)}(gH:L≠[]){o:Oper}(aV:dT C.P T)(cC:jq C.P bf)(c1:l6 C.P C.aP Ψ)(xV:lx o C.nt=true){O:β->Prop}{s:aC}{a:Act}{w:World}(M:cv C s a w)
  (hm:∀ k∈L,A.cy (GF C.aP T bf Ψ ops o s k) O) {K:Act->World->Prop} (iN:∀ s' a' w',cv C s' a' w'->(∀ k∈L,A.cy (k s') O)->K a' w'):o.guard=none/\o.wpIn (dS C.r) 0 C.P a w K Q:=by
 obtain⟨hn,nd⟩:=List.exists_mem_of_ne_nil L gH;have bg:∀ i,o.dst=some i->i<C.nt:=λi G=>by
  have:=xV;simp only[lx,Bool.and_eq_true]at this;grind
 unfold GF at hm;split at hm
 ·exact (hm hn nd).1.elim
 ·rename_i ay;refine⟨ay,?_⟩;split at hm
  ·rename_i res gv;obtain⟨κ,F,eY⟩:=M;have hm:∀ k∈L,res.ca/\res.c/\A.cy (k (s.ia o.dst res)) O:=λk ak=>by
    have:=hm k ak;rw[sF λaa=>(G2 (ops:=ops) (tg:=[]) (s:=s) (λp aq=>by cases aq) (gk:=none) (λk ak=>by cases ak) aa).run s.ab res gv,sF λaa=>(zO aa).run s.ab res gv]at this;omega
   exact Oper.wpIn_mono (λa' w' bb=>iN _ a' w' bb λk ak=>(hm k ak).2.2) (xr aV cC xV gv a w κ F Q eY (hm hn nd).1 (hm hn nd).2.1)
  ·split at hm
   ·rename_i cc oO;obtain⟨jN,qh,mw⟩:=Mh aV cC c1 bg oO;have hm:∀ k∈L,cc.ca/\A.cy cc.m λy=>A.cy (k (cc.st y)) O:=λk ak=>by
     have:=hm k ak;rw[sF λaa=>mw (K4 aa),A.gb]at this;omega
    refine jN a w Q _ M (hm hn nd).1 ⟨(hm hn nd).2.1,λy aT a' w' bb=>iN _ a' w' bb λk ak=>(hm k ak).2.2 y aT⟩
   ·exact (hm hn nd).1.elim
theorem ahB{ops:List Oper}{done:List Nat}{i:Nat}:i∈vv ops done<->i<ops.length/\i ∉ done/\∃ o,ops[i]?=some o/\∀ j∈ie o,j∈done:=by
 unfold vv;grind
theorem Uo{ops:List Oper}:∀ (f:Nat) (done:List Nat),rn ops f done≠[]
 | 0,done=>by simp[rn]
 | f+1,done=>by
  unfold rn;split
  ·simp
  ·rename_i l al;cases hc:vv ops done with
   | nil=>grind
   | cons i cb=>
    rw[List.flatMap_cons];intro h;rw[List.append_eq_nil_iff,List.map_eq_nil_iff]at h;exact Uo f _ h.1
theorem Up{listed:Array Bool}{done:List Nat}(cd:listed.size=ops.size)(al:∀ i,listed.getD i false=done.contains i):Region.ready .any ops listed=vv ops.toList done:=by
 unfold Region.ready vv;rw[Array.length_toList];refine List.filter_congr λi G=>?_;have G:i<ops.size:=by grind
 have E:listed.getD i true=done.contains i:=by
  grind
 rw[E];congr 1;have ag:ops.toList[i]?=some ops[i]:=by simp
 rw[ag,Array.getElem?_eq_getElem G];show ops[i].after.all _=(ie ops[i]).all _;rw[Bool.eq_iff_iff,Array.all_eq_true',List.all_eq_true];unfold ie;grind
theorem ahC{β:Type}(aV:dT C.P T)(cC:jq C.P bf)(c1:l6 C.P C.aP Ψ)(au:∀ o∈ops.toList,lx o C.nt=true){k:aC->A β}{O:β->Prop}(ak:∀ s' a' w',cv C s' a' w'->A.cy (k s') O->Q .normal a' w'):∀ (cg:Nat) (done:List Nat) (listed:Array Bool) (s:aC) (a:Act) (w:World),listed.size=ops.size->(∀ i,listed.getD i false=done.contains i)->GD ops.toList cg done=true->
  cv C s a w->(∀ l∈rn ops.toList cg done,A.cy (z1 C.aP T bf Ψ ops l s k) O)->wpAnyIn (dS C.r) 0 C.P .any ops Q cg listed a w:=by
 intro cg;induction cg with
 | zero=>
  intro done listed s a w cd al ay M hm;have oH:=Up (ops:=ops) cd al;refine⟨?_,ak s a w M (hm [] (by simp[rn]))⟩;rw[oH];exact List.isEmpty_iff.1 ay
 | succ cg aL=>
  intro done listed s a w cd al ay M hm;have oH:=Up (ops:=ops) cd al;refine⟨λaY=>?_,λi G=>?_⟩
  ·rw[oH]at aY;refine ak s a w M (hm [] ?_);unfold rn;grind
  ·rw[oH]at G;obtain⟨qj,jo,o,ag,_⟩:=ahB.1 G;have qj:i<ops.size:=by omega
   have kg:ops[i]?=some o:=by grind
   have ahD:o∈ops.toList:=List.mem_of_getElem? ag;have jS:∀ l∈rn ops.toList cg (i::done),A.cy (GF C.aP T bf Ψ ops o s λs'=>z1 C.aP T bf Ψ ops l s' k) O:=λl hle=>by
    have:=hm (i::l) (by
     unfold rn;grind)
    unfold z1 at this;grind
   obtain⟨g1,ew⟩:=ahA (Q:=Q) (L:=(rn ops.toList cg (i::done)).map λl=>λs'=>z1 C.aP T bf Ψ ops l s' k) (by simpa using Uo cg (i::done)) aV cC c1 (au o ahD) M
    (λk' ahE=>by obtain⟨l,hle,rfl⟩:=List.mem_map.1 ahE;exact jS l hle)
    (K:=wpAnyIn (dS C.r) 0 C.P .any ops Q cg (listed.setIfInBounds i true)) λs' a' w' bb Tn=>by
     refine aL (i::done) _ s' a' w' (by grind) (λj=>?_) ?_ bb λl hle=>Tn _ (List.mem_map.2 ⟨l,hle,rfl⟩)
     ·by_cases e:j=i
      ·simp_all
      ·rw[getD_set_ne false (Ne.symm e),al j];simp[e]
     ·unfold GD at ay;grind
   unfold wpOpIn;rw[kg];simp only;have hw:Region.wanted o (yielded ops a.tmps)=true:=by unfold Region.wanted;rw[g1]
   grind
theorem Uq{β:Type}(aV:dT C.P T)(cC:jq C.P bf)(c1:l6 C.P C.aP Ψ)(au:∀ o∈ops.toList,lx o C.nt=true){k:aC->A β}{O:β->Prop}
  (ak:∀ s' a' w',cv C s' a' w'->A.cy (k s') O->Q .normal a' w') {a:Act} {w:World} (M:cv C s a w) (hm:A.cy (z6 C.aP T bf Ψ ops s k) O):wpAnyIn (dS C.r) 0 C.P .any ops Q ops.size (Array.replicate ops.size false) a w.drew:=by
 unfold z6 at hm;split at hm
 ·rename_i l s' aD;split at hm
  ·rename_i cN;obtain⟨E,U⟩:=TW _ hm;obtain⟨κ,F,eY⟩:=M;refine ag1 aV cC au aD cN (λr M p aq=>E p (List.mem_flatMap.2 ⟨r,M,aq⟩)) (λa' w' bb=>ak s' a' w' bb U) ops.size (Array.replicate ops.size false) a _ (by simp) (λj o _ al=>?_) ?_ ⟨κ,F,?_⟩
   ·have:(Array.replicate ops.size false).getD j false=false:=by
     rw[Array.getD_eq_getD_getElem?,Array.getElem?_replicate];grind
    grind
   ·grind
   ·have:jv l s (λj=>(Array.replicate ops.size false).getD j false)=s:=by
     unfold jv;rw[List.filter_eq_nil_iff.2 λp _=>?_]
     ·rfl
     ·simp only[Array.getD_eq_getD_getElem?,Array.getElem?_replicate];grind
    rw[this];exact eY.drew
  ·exact hm.1.elim
 ·split at hm
  ·rename_i l s' aD;split at hm
   ·rename_i cN;rw[Bool.and_eq_true]at cN;obtain⟨E,U⟩:=TW _ hm;obtain⟨κ,F,eY⟩:=M;have cont:(l5 ops.toList<=ops.size/\∀ j,l5 ops.toList<=j->j<ops.size->∀ i,i<l5 ops.toList->i∈(iu ops.toList).getD j [])/\∀ (cg:Nat) (listed:Array Bool) a' w',listed.size=ops.size->(∀ i,listed.getD i false=decide (i<l5 ops.toList))->ops.size - l5 ops.toList<=cg->cv C s' a' w'->wpAnyIn (dS C.r) 0 C.P .any ops Q cg listed a' w':=by
     by_cases sC:GC ops.toList=true
     ·have MB:l5 ops.toList=ops.size - 5:=by unfold l5;grind
      obtain⟨az,aN⟩:=ahk (Q:=Q) sC MB aV cC c1 au ak U;grind
     ·have MB:l5 ops.toList=zZ (iu ops.toList) ops.toList.length:=by unfold l5;grind
      obtain⟨qk,h3⟩:=TZ (iu ops.toList) ops.toList.length;have qk:l5 ops.toList<=ops.size:=by grind
      have h3:∀ j,l5 ops.toList<=j->j<ops.size->∀ i,i<j->i∈(iu ops.toList).getD j []:=λj E U=>h3 j (by omega) (by omega);refine⟨⟨qk,λj E U i G=>h3 j E U i (by omega)⟩,λcg listed a' w' cd fT sG bb=>?_⟩;refine agW cN.2 h3 (ops.size - l5 ops.toList) (l5 ops.toList) cg listed a' w' (Nat.le_refl _) (by omega) cd fT sG ?_;have hlen:(ops.toList.drop (l5 ops.toList)).length=ops.size - l5 ops.toList:=by simp
      rw[<-hlen];exact Mn (Q:=Q) aV cC c1 au ak _ _ [] s' a' w' rfl (λp aq=>by cases aq) bb U
    obtain⟨⟨qk,h3⟩,aye⟩:=cont;refine ahg qk aV cC au aD cN.1 h3 (λr M p aq=>E p (List.mem_flatMap.2 ⟨r,M,aq⟩)) (λcg listed a' w' cd fT sG bb=>?_) ops.size (Array.replicate ops.size false) a _ (by simp) (λj o _ al=>?_) (λi _=>?_) ?_ ⟨κ,F,?_⟩
    ·grind
    ·have:(Array.replicate ops.size false).getD j false=false:=by
      rw[Array.getD_eq_getD_getElem?,Array.getElem?_replicate];grind
     grind
    ·rw[Array.getD_eq_getD_getElem?,Array.getElem?_replicate];grind
    ·grind
    ·have:jv l s (λj=>(Array.replicate ops.size false).getD j false)=s:=by
      unfold jv;rw[List.filter_eq_nil_iff.2 λp _=>?_]
      ·rfl
      ·simp only[Array.getD_eq_getD_getElem?,Array.getElem?_replicate];grind
     rw[this];exact eY.drew
   ·exact hm.1.elim
  ·unfold S9 at hm;split at hm
   ·rename_i zz;obtain⟨κ,F,eY⟩:=M;refine ahC aV cC c1 au ak ops.size [] (Array.replicate ops.size false) s a _ (by simp) (λi=>?_) zz ⟨κ,F,eY.drew⟩ λl hle=>⟨hm.1 _ (List.mem_map.2 ⟨l,hle,rfl⟩),λy aT=>hm.2 y ⟨_,List.mem_map.2 ⟨l,hle,rfl⟩,aT⟩⟩
    rw[Array.getD_eq_getD_getElem?,Array.getElem?_replicate];grind
   ·exact hm.1.elim
theorem ahF{β:Type}{id:Nat}(ek:C.P.follows .mixedOrders=true)(aV:dT C.P T)(cC:jq C.P bf)(c1:l6 C.P C.aP Ψ)(au:∀ o∈ops.toList,lx o C.nt=true){k:aC->A β}{O:β->Prop}
  (ak:∀ s' a' w',cv C s' a' w'->A.cy (k s') O->Q .normal a' w') {a:Act} {w:World} (M:cv C s a w) (hm:A.cy (z6 C.aP T bf Ψ ops s k) O):(Code.region id ops true).wpIn (dS C.r) 0 C.P Q a w:=
 wpIn_region_any ek (Uq aV cC c1 au ak M hm)
theorem Aj{ops:Array Oper}{j:Nat}{o:Oper}(h:ops[j]?=some o):(lz ops.toList).toArray[j]?=some (if j=0 then o else { o with after:=o.after.push ⟨0,.phase⟩ }):=by
 obtain⟨l⟩:=ops;cases l with
 | nil=>simp at h
 | cons x l=>
  cases j with
  | zero=>simpa [lz]using h
  | succ j=>
   simp only[List.getElem?_toArray,List.getElem?_cons_succ]at h;simp[lz,h]
theorem MC(ops:Array Oper):(lz ops.toList).toArray.size=ops.size:=by
 obtain⟨l⟩:=ops;cases l<;>simp[lz]
theorem ahG{ops:Array Oper}{j:Nat}{hV:Oper}(h:(lz ops.toList).toArray[j]?=some hV):∃ o,ops[j]?=some o/\hV=if j=0 then o else { o with after:=o.after.push ⟨0,.phase⟩ }:=by
 have aG:j<ops.size:=by rw[<-MC];exact (Array.getElem?_eq_some_iff.1 h).1
 have:=Aj (ops:=ops) (j:=j) (o:=ops[j]) (by simp[aG]);rw[h]at this;cases this;exact⟨ops[j],by simp[aG],rfl⟩
theorem ahH(ops:Array Oper):yielded (lz ops.toList).toArray=yielded ops:=by
 funext t j;unfold yielded;cases h:ops[j]? with
 | none=>
  have:(lz ops.toList).toArray[j]?=none:=by
   rw[Array.getElem?_eq_none_iff,MC];exact Array.getElem?_eq_none_iff.1 h
  rw[this]
 | some o=>
  rw[Aj h];by_cases aG:j=0
  ·rw[if_pos aG]
  ·rw[if_neg aG];rfl
theorem ahI{F:Fence}{P:Program}:∀ (cg:Nat) (listed:Array Bool) (a:Act) (w:World),listed.getD 0 false=true->wpAnyIn F 0 P .any (lz ops.toList).toArray Q cg listed a w->wpAnyIn F 0 P .any ops Q cg listed a w:=by
 have oH:∀ (listed:Array Bool),listed.getD 0 false=true->∀ i,i∈Region.ready .any ops listed->i∈Region.ready .any (lz ops.toList).toArray listed:=by
  intro listed aY i G;rw[mem_ready]at G ⊢;obtain⟨E,o,ag,U⟩:=G;refine⟨E,_,Aj ag,λe he aa=>?_⟩;split at he
  ·exact U e he aa
  ·rcases Array.mem_push.1 he with he | rfl
   ·exact U e he aa
   ·exact aY
 have ahJ:∀ (listed:Array Bool),Region.ready .any ops listed=[]->Region.ready .any (lz ops.toList).toArray listed=[]:=by
  intro listed h;rw[List.eq_nil_iff_forall_not_mem]at h ⊢;intro i G;refine h i ?_;rw[mem_ready]at G ⊢;obtain⟨E,hV,ag,U⟩:=G;obtain⟨o,kg,rfl⟩:=ahG ag;refine⟨E,o,kg,λe he aa=>U e ?_ aa⟩;split
  ·exact he
  ·exact Array.mem_push_of_mem _ he
 have ahK:∀ (listed:Array Bool),listed.getD 0 false=true->Region.ready .any (lz ops.toList).toArray listed=[]->Region.ready .any ops listed=[]:=by
  intro listed aY h;rw[List.eq_nil_iff_forall_not_mem]at h ⊢;exact λi G=>h i (oH listed aY i G)
 intro cg;induction cg with
 | zero=>
  intro listed a w aY h;exact⟨ahK listed aY h.1,h.2⟩
 | succ cg aL=>
  intro listed a w aY h;refine⟨λM=>h.1 (ahJ listed M),λi G=>?_⟩;have ak:=h.2 i (oH listed aY i G);have next:∀ a w,wpAnyIn F 0 P .any (lz ops.toList).toArray Q cg (listed.setIfInBounds i true) a w->wpAnyIn F 0 P .any ops Q cg (listed.setIfInBounds i true) a w:=λa w=>aL _ a w (getD_set_true aY)
  have ak:=wpOpIn_mono next ak
  unfold wpOpIn at ak ⊢;rw[mem_ready]at G;obtain⟨_,o,ag,_⟩:=G;rw[ag];rw[Aj ag,ahH]at ak;by_cases oI:i=0
  ·rw[if_pos oI]at ak;exact ak
  ·rw[if_neg oI]at ak;exact ak
theorem ahL{β:Type}{id:Nat}(ek:C.P.follows .mixedOrders=true)(ahM:C.r=none)(ao:LB ops=true)(aV:dT C.P T)(cC:jq C.P bf)(c1:l6 C.P C.aP Ψ)(au:∀ o∈ops.toList,lx o C.nt=true){k:aC->A β}{O:β->Prop}
  (ak:∀ s' a' w',cv C s' a' w'->A.cy (k s') O->Q .normal a' w') {a:Act} {w:World} (M:cv C s a w) (hm:A.cy (z6 C.aP T bf Ψ (lz ops.toList).toArray s k) O):(Code.region id ops true).wpIn (dS C.r) 0 C.P Q a w:=by
 refine wpIn_mono (Q:=λe a w=>e=.normal/\Q e a w) (wpIn_region_any ek ?_) λe a w h=>h.2;have iv:=Uq (Q:=λe a w=>e=.normal/\Q e a w) (ops:=(lz ops.toList).toArray) aV cC c1 (λo ag=>?_) (λs' a' w' E U=>⟨rfl,ak s' a' w' E U⟩) M hm
 ·rw[MC]at iv;have rA:(dS C.r).round=none:=by rw[ahM];rfl
  unfold LB at ao;split at ao
  ·cases ao
  ·rename_i o l al;simp only[Bool.and_eq_true,List.all_eq_true,Bool.or_eq_true]at ao;obtain⟨E,U,ah,a6,bL⟩:=ao;have aY:ops[0]?=some o:=by rw[<-Array.getElem?_toList,al];rfl
   obtain⟨m,hm⟩:∃ m,ops.size=m+1:=⟨l.length,by rw[<-Array.length_toList,al];rfl⟩
   rw[hm]at iv ⊢;have ay:o.guard=none:=by simpa using U
   have iO:∀ (ops:Array Oper),ops[0]?=some o->0∈Region.ready .any ops (Array.replicate (m+1) false):=λops h=>by
    rw[mem_ready];refine⟨by simp,o,h,λe he=>?_⟩;rw[Array.isEmpty_iff.1 ah]at he;simp at he
   have kW:∃ x,o.op=.move x:=by
    revert E;cases o.op<;>simp
   obtain⟨x,ai⟩:=kW;have aT:YieldsFenced C.P ops o (a.eval x) a:=⟨.inl ⟨by unfold Region.wanted;rw[ay],λw=>by simp[execOp,ai]⟩,λw=>by unfold Oper.about;rw[ai]⟩
   have fZ:=iv.2 0 (iO _ (by rw[Aj aY];rfl));unfold wpOpIn at fZ;rw[Aj aY]at fZ;simp only[if_true]at fZ;rw[show Region.wanted o (yielded (lz ops.toList).toArray a.tmps)=true by unfold Region.wanted;rw[ay],if_pos rfl]at fZ;have fZ:wpAnyIn (dS C.r) 0 C.P .any (lz ops.toList).toArray (λe a w=>e=.normal/\Q e a w) m ((Array.replicate (m+1) false).setIfInBounds 0 true) (a.put o.dst (a.eval x)) w.drew:=by
    have:=fZ.2;rw[rA,Oper.semAt_none]at this;simpa [execOp,ai,Oper.uponIn]using this
   refine wpAnyIn_first rA aY (Region.noSelect_spec a6) (λc a w h=>by cases h.1) m _ a _ (λj rv Ur ahN _ he=>?_) (iO _ aY) aT (ahI m _ _ _ (by simp) fZ);have jS:rv∈l:=by
    rw[<-Array.getElem?_toList,al]at Ur;cases j with
    | zero=>exact absurd rfl ahN
    | succ j=>exact List.mem_of_getElem? Ur
   rcases bL rv jS with h | h
   ·exfalso;have h:0∈ie rv:=by simpa using h
    obtain⟨e,ahO,xq⟩:=List.mem_filterMap.1 h;split at xq
    ·rename_i aa;exact he e (by simpa using ahO) aa (by simpa using xq)
    ·cases xq
   ·exact h
 ·have ag:o∈(lz ops.toList):=by simpa using ag
  obtain⟨ol⟩:=ops;cases ol with
  | nil=>cases ag
  | cons x l=>
   rcases List.mem_cons.1 ag with rfl | ag
   ·exact au _ (by simp)
   ·obtain⟨p,aq,rfl⟩:=List.mem_map.1 ag;have:=au p (by simp[aq]);exact this
end
end Go.Fer
namespace Go.Fer
open Go.RowKit
theorem gI{β:Type}{O:β->Prop}(h:A.cy (A.fail:A β) O):False:=h.1
theorem uh{β:Type}{sh:dK}{s:aC}{k:sh.aj->A β}{O:β->Prop}(h:A.cy (sh.ni s k) O):∃ D,sh.jc s=some D/\A.cy (k D) O:=by
 unfold dK.ni at h;split at h
 ·grind
 ·exact (gI h).elim
def oR(B:Nat):Deferred:={ target:=.collected B,args:=#[] }
structure n8 where
 w:World
 K:Nat->Prop
 ms:List Nat
def b_.hl(C:b_)(u:n8):b_:={ C with w0:=u.w,K0:=u.K,dfr:=u.ms.map oR++C.dfr }
structure b_.jT(C:b_)(u:n8):Prop where
 sJ:∀ B∈u.ms,u.K B/\u.w.heap[B]?=some (.deferred (some []))
 eA:∀ B∈u.ms,¬C.K0 B/\C.w0.heap.size<=B
 mD:u.ms.Nodup
 hn:∀ r,C.K0 r->u.K r
 eH:∀ r,C.K0 r->u.w.heap[r]?=C.w0.heap[r]?
 size:C.w0.heap.size<=u.w.heap.size
 ev:de C.w0 u.w
def b_.hI(C:b_):n8:=⟨C.w0,C.K0,[]⟩
theorem b_.vF(C:b_):C.jT C.hI:=⟨λ_ h=>by simp[b_.hI]at h,λ_ h=>by simp[b_.hI]at h,List.nodup_nil,λ_ h=>h,λ_ _=>rfl,Nat.le_refl _,de.refl _⟩
def n8.then(u v:n8):n8:=⟨v.w,v.K,v.ms++u.ms⟩
theorem b_.Ak(C:b_)(u v:n8):(C.hl u).hl v=C.hl (u.then v):=by
 simp[b_.hl,n8.then]
theorem b_.jT.then{C:b_}{u v:n8}(h:C.jT u)(k:(C.hl u).jT v):C.jT (u.then v) where
 sJ:=λB aU=>by
  rcases List.mem_append.1 aU with aU | aU
  ·exact k.sJ B aU
  ·obtain⟨E,U⟩:=h.sJ B aU;exact⟨k.hn B E,(k.eH B E).trans U⟩
 eA:=λB aU=>by
  rcases List.mem_append.1 aU with aU | aU
  ·obtain⟨E,U⟩:=k.eA B aU;exact⟨λah=>E (h.hn B ah),Nat.le_trans h.size U⟩
  ·exact h.eA B aU
 mD:=List.nodup_append.2 ⟨k.mD,h.mD,λa a_ b aa e=>(k.eA a a_).1 (e ▸ (h.sJ b aa).1)⟩
 hn:=λr M=>k.hn r (h.hn r M)
 eH:=λr M=>(k.eH r (h.hn r M)).trans (h.eH r M)
 size:=Nat.le_trans h.size k.size
 ev:=h.ev.trans k.ev
theorem bm.Us{C:b_}{s:aC}{a:Act}{w:World}{κ:Nat->bB}{F F':Nat->Prop}(h:bm C s a w κ F){w0 w':World}{F0 K0:Nat->Prop}{nt:Nat}{dfr:List Deferred}{r:Option Nat}{sl:Nat->aI}{a':Act}
    (MD:a'.tmps.size=nt) (ME:a'.defers=dfr) (rB:nt<=eT) (fp:∀ i,bA C.P s.ab κ F w (sl i) (a'.tmps.getD i undef)) (pq:∀ l aM L n st,sl b5≠.aW l aM L n st)
    (heq:∀ r,F r\/(∃ b,(s.ab b).body.b1 (κ b)=true/\(κ b).ab=r)->w'.heap[r]?=w.heap[r]?) (cd:w.heap.size<=w'.heap.size)
    (bo:∀ r,F r->F' r) (jm:∀ r,F' r->r<w'.heap.size) (Dy:∀ b,(s.ab b).body.b1 (κ b)=true->¬F' (κ b).ab)
    (MF:∀ r,F' r->F0 r\/¬K0 r) (MG:∀ r,F0 r->F' r) (Dz:∀ r,K0 r->r<w0.heap.size) (ui:∀ r,K0 r->w'.heap[r]?=w0.heap[r]?) (gr:∀ b,(s.ab b).body.b1 (κ b)=true->¬K0 (κ b).ab)
    (nl:w0.heap.size<=w'.heap.size) (hc:de w0 w') :
    bm { C with w0:=w0,F0:=F0,K0:=K0,nt:=nt,dfr:=dfr,r:=r } ⟨sl,s.ab⟩ a' w' κ F':=by
  have he:c8 F w w':=⟨cd,λr M=>heq r (.inl M)⟩
  exact {
          dH:=MD,dfr:=ME,bU:=λi=>bA.later (fs.refl _ _) bo he (fp i)
          bD:=λb=>cG.ll (h.bD b) (fs.refl _ _) bo he rfl rfl λag=>heq _ (.inr ⟨b,ag,rfl⟩)
          own:=λb aa=>⟨Nat.lt_of_lt_of_le (h.own b aa).1 cd,Dy b aa,gr b aa⟩,inj:=h.inj,dd:=jm
          hh:=MF,hU:=MG,hx:=Dz,eH:=ui,size:=nl,ev:=hc,gq:=rB,ks:=h.ks,jI:=h.jI,j7:=h.j7,kt:=h.kt,eN:=λl aM L n st e=>(pq l aM L n st e).elim,jJ:=h.jJ,iD:=h.iD.mono bo he }
theorem bm.vG{C:b_}{s:aC}{a:Act}{w:World}{κ:Nat->bB}{F:Nat->Prop}(h:bm C s a w κ F){w0 w':World}{F0 K0:Nat->Prop}{nt:Nat}{dfr:List Deferred}{r:Option Nat}{sl:Nat->aI}{a':Act}
  (MD:a'.tmps.size=nt) (ME:a'.defers=dfr) (rB:nt<=eT) (fp:∀ i,bA C.P s.ab κ F w (sl i) (a'.tmps.getD i undef)) (pq:∀ l aM L n st,sl b5≠.aW l aM L n st)
  (heq:∀ r,F r\/(∃ b,(s.ab b).body.b1 (κ b)=true/\(κ b).ab=r)->w'.heap[r]?=w.heap[r]?) (cd:w.heap.size<=w'.heap.size)
  (MF:∀ r,F r->F0 r\/¬K0 r) (MG:∀ r,F0 r->F r) (Dz:∀ r,K0 r->r<w0.heap.size) (ui:∀ r,K0 r->w'.heap[r]?=w0.heap[r]?) (gr:∀ b,(s.ab b).body.b1 (κ b)=true->¬K0 (κ b).ab)
  (nl:w0.heap.size<=w'.heap.size) (hc:de w0 w') :
  bm { C with w0:=w0,F0:=F0,K0:=K0,nt:=nt,dfr:=dfr,r:=r } ⟨sl,s.ab⟩ a' w' κ F:=
 h.Us MD ME rB fp pq heq cd (λ_ h=>h) (λr M=>Nat.lt_of_lt_of_le (h.dd r M) cd) (λb aa=>(h.own b aa).2.1) MF MG Dz ui gr nl hc
theorem bm.Hj{C:b_}{s:aC}{a:Act}{w:World}{κ:Nat->bB}{F:Nat->Prop}(h:bm C s a w κ F){w0 w':World}{K0:Nat->Prop}{r:Option Nat}
    (iN:∀ r,K0 r->C.K0 r) (heq:∀ r,F r\/¬C.K0 r->w'.heap[r]?=w.heap[r]?) (cd:w.heap.size<=w'.heap.size) (xZ:de w w')
    (Dz:∀ r,K0 r->r<w0.heap.size) (ui:∀ r,K0 r->w'.heap[r]?=w0.heap[r]?) (nl:w0.heap.size<=w'.heap.size) (hc:de w0 w') :
    bm { C with w0:=w0,K0:=K0,r:=r } s a w' κ F:=by
  have he:c8 F w w':=⟨cd,λr M=>heq r (.inl M)⟩
  have jm:∀ r,F r->r<w'.heap.size:=λr M=>Nat.lt_of_lt_of_le (h.dd r M) cd;exact {
          dH:=h.dH,dfr:=h.dfr,bU:=λi=>bA.later (fs.refl _ _) (λ_ h=>h) he (h.bU i)
          bD:=λb=>cG.ll (h.bD b) (fs.refl _ _) (λ_ h=>h) he rfl rfl λag=>heq _ (.inr (h.own b ag).2.2)
          own:=λb aa=>⟨Nat.lt_of_lt_of_le (h.own b aa).1 cd,(h.own b aa).2.1,λk=>(h.own b aa).2.2 (iN _ k)⟩,inj:=h.inj,dd:=jm
          hh:=λr M=>(h.hh r M).imp id λk k'=>k (iN r k'),hU:=h.hU,hx:=Dz,eH:=ui,size:=nl,ev:=hc,gq:=h.gq,ks:=h.ks,jI:=h.jI,j7:=h.j7,kt:=h.kt
          eN:=λl aM L n st e=>by
            obtain⟨E,U,Y,ah,a6,bL⟩:=h.eN l aM L n st e;exact⟨E,U,Y,λr M=>⟨Nat.lt_of_lt_of_le (ah r M).1 cd,(ah r M).2.1,λk=>(ah r M).2.2 (iN r k)⟩,a6,U.J4 bL (λ_ h=>h) (λr M=>heq r (M.imp id λaT=>(ah r aT).2.2)) cd xZ jm λr ao aT=>(ah r aT).2.1 ao⟩
          jJ:=h.jJ,iD:=h.iD.mono (λ_ h=>h) he }
theorem Ut{P:Program}{H:Nat->bK}{κ:Nat->bB}{F:Nat->Prop}{w:World}{aM:ad}{x:aM.aj}:∀ (ps:List Tmp) (args:List Value) (j:Nat) (f:Nat->aI) (oP:Array Value),ps.length=args.length->(∀ p∈ps,p<oP.size)->
  (∀ i,bA P H κ F w (f i) (oP.getD i undef))->(∀ i,i<args.length->bA P H κ F w (ky aM x (j+i)) (args.getD i undef))->
  ∀ i,bA P H κ F w (z7 aM x ps j f i) (((ps.zip args).foldl (λtmps p=>tmps.setIfInBounds p.1 p.2) oP).getD i undef)
 | [],[],_,_,_,_,_,ao,_,i=>ao i
 | p::ps,v::args,j,f,oP,al,aq,ao,af,i=>by
  simp only[z7,List.zip_cons_cons,List.foldl_cons];refine Ut ps args (j+1) _ _ (by grind) (λq bt=>by grind) (λi=>?_) (λi G=>?_) i
  ·rw[Array.getD_eq_getD_getElem?,Array.getElem?_setIfInBounds];by_cases e:i=p
   ·grind
   ·rw[if_neg e,if_neg (Ne.symm e)];simp_all
  ·have:=af (i+1) (by grind);grind
theorem ahP{ps:List Tmp}{args:List Value}:∀ {oP:Array Value},((ps.zip args).foldl (λtmps p=>tmps.setIfInBounds p.1 p.2) oP).size=oP.size:=by
 generalize ps.zip args=l;induction l with
 | nil=>simp
 | cons p l aL=>grind
def sK:di->Option Code
 | .normal=>none
 | .exit id=>some (.exit id)
 | .ret=>some .ret
def fe(fn:FuncId)(oP:Array Value)(ps:Array Tmp)(assign body:Code)(B:Nat)(st:LoopState)(e:di):Loop:=
 { state:=st,pending:=sK e,fn:=fn,tmps:=oP,params:=ps,assign:=assign,body:=body,defers:=B }
def Hk(P:Program)(aP:dG)(nt:Nat)(assign body:Code)(l:Nat){rout:dK}(run:aC->A (di×rout.aj)):Prop:=
 ∀ (C1:b_),C1.P=P->C1.aP=aP->C1.nt=nt->C1.r=some l->∀ (eI:aC) (b6:Act) (ck:World) (qv:di×rout.aj->Prop),cv C1 eI b6 ck->A.cy (run eI) qv->
  assign.wpIn (dS (some l)) 0 P (Exit.then (λa2 da=>∃ u dN,C1.jT u/\cv (C1.hl u) dN a2 da/\
   ∀ (hz:b_),hz.P=P->hz.aP=aP->hz.nt=nt->hz.r=some l->∀ (da:World),cv hz dN a2 da->
    body.wpIn (dS (some l)) 0 P (λe a3 eZ=>∃ (a7:di) (v:n8) (eK:aC) (bn:rout.aj),e=a7.py/\hz.jT v/\cv (hz.hl v) eK a3 eZ/\rout.jc eK=some bn/\qv (a7,bn)) a2 da) (λ_ _ _=>False)) b6 ck
theorem ahQ{ts:List (Nat×bY)}{R:Type}(h:ts.isEmpty=true)(g:Nat->Nat×Nat)(z:oJ ts R)(i:Nat):ft (eD g ts z).1 i=.undef:=by
 cases ts with
 | nil=>rfl
 | cons p ts=>cases h
theorem ahR{P:Program}{l:Nat}{R:Ending->World->Prop}{e:di}{a:Act}{w:World}{r:Loop}(h:w.heap[l]?=some (.loop r))
  (jU:R (.returned (.bool (sK e).isNone)) (w.putObj l (.loop { r with state:=if (sK e).isNone then .ready else .done,pending:=sK e }))):roundPost P l R e.py a w:=by
 cases e with
 | normal=>exact⟨_,_,run_endRound none h,jU⟩
 | exit id=>exact⟨_,_,run_endRound (some (.exit id)) h,jU⟩
 | ret=>exact⟨_,_,run_endRound (some .ret) h,jU⟩
theorem ahS{CI:b_}{sh rin rout:dK}{aM:ad}{ps:Array Tmp}{assign body:Code}{a:Act}{aw:World}{κ:Nat->bB}{F:Nat->Prop}{D:sh.aj}{fn:FuncId}{l B:Nat}{x:aM.aj}{args:List Value}{run:aC->A (di×rout.aj)}
  {Or:di×sh.aj->Prop} {Y Z:Nat->Prop} (ahT:Z l)
  (M:bm CI (sh.st D) a aw κ F) (ec:n5 sh rout aM ps.toList a.tmps.size=true) (DA:Hk CI.P CI.aP a.tmps.size assign body l run) (hm:A.cy (t' sh rin rout aM ps.toList D x run) Or)
  (al:aw.heap[l]?=some (.loop (fe fn a.tmps ps assign body B .ready .normal))) (ahU:¬F l) (si:∀ b,((sh.st D).ab b).body.b1 (κ b)=true->Y (κ b).ab/\¬Z (κ b).ab) (dX:fr CI.P aM F aw args x) :
  ∃ tmps,(Instr.yield l args.toArray).run CI.P aw=.ok (.round l fn tmps assign body) aw/\RoundIn Fence.wide 0 CI.P l fn tmps assign body aw λe qw=>
   ∃ (bH:di) (iL:sh.aj) (κ':Nat->bB) (F':Nat->Prop) (o:Obj),e=.returned (.bool (sK bH).isNone)/\Or (bH,iL)/\qw.heap[l]?=some (.loop (fe fn a.tmps ps assign body B (if (sK bH).isNone then .ready else .done) bH))/\
    bm { CI with w0:=aw.putObj l o,F0:=F,K0:=λr=>r<aw.heap.size/\(Z r\/¬Y r) } (sh.st iL) a qw κ' F':=by
 simp only[n5,Bool.and_eq_true,decide_eq_true_eq,Bool.not_eq_true',List.all_eq_true]at ec;obtain⟨⟨⟨⟨aQ,aS⟩,bN⟩,fm⟩,l2⟩:=ec;have Al:l<aw.heap.size:=(Array.getElem?_eq_some_iff.1 al).1;obtain⟨iE,Hl⟩:=tO (H:=(sh.st D).ab) (κ:=κ) aM dX bN;have pq:(sh.st D).aA b5=.undef:=xO sh.bU db D b5 aS;have FV:(Array.zip ps args.toArray).foldl (λtmps (x:Tmp×Value)=>match x with | (t,a)=>tmps.setIfInBounds t a) a.tmps=(ps.toList.zip args).foldl (λtmps p=>tmps.setIfInBounds p.1 p.2) a.tmps:=by
  rw[<-Array.foldl_toList];simp
 refine⟨(ps.toList.zip args).foldl (λtmps p=>tmps.setIfInBounds p.1 p.2) a.tmps,?_,?_⟩
 ·rw[<-FV];exact run_yield al (by show args.toArray.size=ps.size;grind)
 have ahV:bm { CI with w0:=aw,F0:=F,K0:=λr=>r<aw.heap.size/\(Z r\/¬Y r) } (sh.st D) a aw κ F:=
  M.vG M.dH M.dfr M.gq M.bU (λl aM L n st e=>by have e:(sh.st D).aA b5=.aW l aM L n st:=e;grind) (λ_ _=>rfl) (Nat.le_refl _) (λ_ h=>.inl h) (λ_ h=>h) (λ_ h=>h.1) (λ_ _=>rfl)
   (λb aa h=>h.2.elim (si b aa).2 λh=>h (si b aa).1) (Nat.le_refl _) (de.refl _)
 unfold t' at hm;split at hm
 ·rename_i aJ bV ahW;split at hm
  ·rename_i cN;rw[A.gb]at hm;have gP:bm { CI with w0:=aw,F0:=F,K0:=λr=>r<aw.heap.size/\(Z r\/¬Y r),nt:=a.tmps.size,dfr:=[],r:=none } ⟨(xI (sh.st D) aM x ps.toList).aA,(sh.st D).ab⟩ { tmps:=(ps.toList.zip args).foldl (λtmps p=>tmps.setIfInBounds p.1 p.2) a.tmps,defers:=[] } aw κ F:=by
    refine M.vG ahP rfl (by rw[M.dH];exact M.gq) (λi=>?_) (λdJ kE e8 i' ix e=>?_) (λ_ _=>rfl) (Nat.le_refl _) (λ_ h=>.inl h) (λ_ h=>h) (λ_ h=>h.1) (λ_ _=>rfl)
     (λb aa h=>h.2.elim (si b aa).2 λh=>h (si b aa).1) (Nat.le_refl _) (de.refl _)
    ·show bA CI.P (sh.st D).ab κ F aw (if i=b5 then (sh.st D).aA b5 else z7 aM x ps.toList 0 (sh.st D).aA i) _;split
     ·rw[pq];trivial
     ·exact Ut ps.toList args 0 _ _ (by omega) (λp aq=>by grind) M.bU (λi G=>by grind) i
    ·have e:(if b5=b5 then (sh.st D).aA b5 else z7 aM x ps.toList 0 (sh.st D).aA b5)=.aW dJ kE e8 i' ix:=e;grind
   obtain⟨F',own,gD,il,f1,bb,gr,DB,ayf,Db,L_⟩:=TD (c:=vw rin rout) ahV gP (by rfl) ahW rfl cN;have MH:l<aw.heap.size/\(Z l\/¬Y l):=⟨Al,.inl ahT⟩
   have Uu:¬F' l:=λh=>(bb.hh l h).elim ahU λh=>h MH;have ahX:¬own l:=λh=>by
    obtain⟨b,E,U⟩:=gr l h;exact (bb.own b E).2.2 (U ▸ MH)
   have ahY:¬gD l:=λh=>(DB.low l h).2.2 MH;have Uv:l<aw.heap.size/\¬own l/\¬gD l:=⟨Al,ahX,ahY⟩
   have Hm:bm { rs CI aw F' a.tmps.size own gD il with r:=some l } (rin.st aJ) _ aw _ F':=Db.Hj (w0:=aw) (w':=aw) (K0:=λr=>r<aw.heap.size/\¬own r/\¬gD r) (r:=some l) (λ_ h=>h) (λ_ _=>rfl) (Nat.le_refl _) (de.refl _) (λ_ h=>h.1) (λ_ _=>rfl) (Nat.le_refl _) (de.refl _);refine roundIn_of_wpIn trivial ?_;refine wpIn_mono (DA { rs CI aw F' a.tmps.size own gD il with r:=some l } rfl rfl rfl rfl (rin.st aJ) _ aw _ ⟨_,_,Hm⟩ hm) λe a2 da bt=>?_;cases e with
   | normal=>
    obtain⟨u,dN,hu,⟨nk,ej,cO⟩,bT⟩:=bt;have sL:u.K l:=hu.hn l Uv;have gw:da.heap[l]?=some (.loop (fe fn a.tmps ps assign body B .ready .normal)):=(cO.eH l sL).trans ((hu.eH l Uv).trans al);refine⟨_,run_beginRound gw rfl,?_⟩;have ahZ:l<da.heap.size:=(Array.getElem?_eq_some_iff.1 gw).1;have ah0:¬ej l:=λh=>(cO.hh l h).elim Uu λh=>h sL;have oS:=cO.Hj (w0:=da.putObj l (.loop (fe fn a.tmps ps assign body B .busy .normal))) (w':=da.putObj l (.loop (fe fn a.tmps ps assign body B .busy .normal))) (K0:=u.K) (r:=some l) (λ_ h=>h)
     (λr h=>World.putObj_heap_other λe=>by
      subst e;exact h.elim ah0 λh=>h sL) (by simp) ⟨rfl,rfl,rfl⟩ (λr h=>by
       have:=cO.hx r h;have:=cO.size;simp;omega) (λ_ _=>rfl) (Nat.le_refl _) (de.refl _)
    refine wpIn_mono (bT { ({ rs CI aw F' a.tmps.size own gD il with r:=some l }:b_).hl u with w0:=da.putObj l (.loop (fe fn a.tmps ps assign body B .busy .normal)),K0:=u.K,r:=some l } rfl rfl rfl rfl _ ⟨nk,ej,oS⟩) λe a3 eZ ⟨a7,v,eK,bn,he,af,⟨Hn,Uw,mE⟩,gh,Ho⟩=>?_;subst he;obtain⟨Hn,Ux,f4,oT⟩:=dK.z_ gh mE;have xk:v.K l:=af.hn l sL;have Hp:eZ.heap[l]?=some (.loop (fe fn a.tmps ps assign body B .busy .normal)):=(oT.eH l xk).trans ((af.eH l sL).trans (World.putObj_heap_same ahZ));have Uy:l<eZ.heap.size:=(Array.getElem?_eq_some_iff.1 Hp).1;have ayg:¬Ux l:=λh=>(oT.hh l h).elim Uu λh=>h xk;generalize fZ:(if (sK a7).isNone then LoopState.ready else .done)=ix;refine ahR Hp ?_;rw[fZ];have mA:bm { CI with w0:=aw.putObj l (.loop (fe fn a.tmps ps assign body B ix a7)),F0:=F,K0:=λr=>r<aw.heap.size/\(Z r\/¬Y r) } ((sh.st D).cB bV) a (aw.putObj l (.loop (fe fn a.tmps ps assign body B ix a7))) κ F':=
     bb.Hj (λ_ h=>h) (λr h=>World.putObj_heap_other λe=>by
      grind) (by simp) ⟨rfl,rfl,rfl⟩ (λr h=>by simpa using h.1) (λ_ _=>rfl) (Nat.le_refl _) (de.refl _)
    have Ad:aw.heap.size<=eZ.heap.size:=by
     have E:=hu.size;have U:=cO.size;have ah:=af.size;have a6:=oT.size;have E:aw.heap.size<=u.w.heap.size:=E;have U:u.w.heap.size<=da.heap.size:=U;have ah:(da.putObj l (.loop (fe fn a.tmps ps assign body B .busy .normal))).heap.size<=v.w.heap.size:=ah;have a6:v.w.heap.size<=eZ.heap.size:=a6;simp only[World.putObj_size]at ah;omega
    have x0:de aw eZ:=by
     have E:de aw u.w:=hu.ev;have U:de u.w da:=cO.ev;have ah:de da v.w:=⟨af.ev.os,af.ev.tape,af.ev.output⟩
     exact E.trans (U.trans (ah.trans oT.ev))
    have ah1:∀ i,(rout.st bn).aA i=.undef:=λi=>ahQ aQ db bn i;have l3:∀ r,(r<(aw.putObj l (.loop (fe fn a.tmps ps assign body B ix a7))).heap.size/\¬own r/\¬gD r)->(r<aw.heap.size/\¬own r/\¬gD r):=λr h=>⟨by simpa using h.1,h.2⟩
    have hM:=oT.vG (w0:=aw.putObj l (.loop (fe fn a.tmps ps assign body B ix a7))) (w':=eZ.putObj l (.loop (fe fn a.tmps ps assign body B ix a7))) (F0:=F') (K0:=λr=>r<(aw.putObj l (.loop (fe fn a.tmps ps assign body B ix a7))).heap.size/\¬own r/\¬gD r) (nt:=0) (dfr:=[]) (r:=none) (sl:=(rout.st bn).aA) (a':={ tmps:=#[],defers:=[] }) rfl rfl (Nat.zero_le _)
     (λi=>by rw[ah1];trivial) (λl aM L n st e=>by grind)
     (λr h=>World.putObj_heap_other λe=>by
      subst e;rcases h with h | ⟨b,E,U⟩
      ·grind
      ·exact (oT.own b E).2.2 (U ▸ xk)) (by simp) (λr h=>(oT.hh r h).imp id λh dw=>h (af.hn r (hu.hn r (l3 r dw)))) oT.hU (λr h=>h.1)
     (λr h=>by
      by_cases e:r=l
      ·subst e;rw[World.putObj_heap_same Uy,World.putObj_heap_same Al]
      ·rw[World.putObj_heap_other e,World.putObj_heap_other e];have E:u.K r:=hu.hn r (l3 r h);exact (oT.eH r (af.hn r E)).trans ((af.eH r E).trans ((World.putObj_heap_other e).trans ((cO.eH r E).trans (hu.eH r (l3 r h))))))
     (λb aa h=>(oT.own b aa).2.2 (af.hn _ (hu.hn _ (l3 _ h)))) (by simpa using Ad) ⟨x0.os,x0.tape,x0.output⟩
    obtain⟨κn,n7,_⟩:=L_ (aw.putObj l (.loop (fe fn a.tmps ps assign body B ix a7))) (aw.putObj l (.loop (fe fn a.tmps ps assign body B ix a7))) mA ⟨λdJ kE e8 i' ix e=>(by
      grind),λr h=>⟨by simpa using (DB.low r h).1,(DB.low r h).2⟩,DB.own,DB.GS⟩ bn [] (eZ.putObj l (.loop (fe fn a.tmps ps assign body B ix a7))) Hn Ux hM
    obtain⟨iL,MI,ah2⟩:=uh Ho;obtain⟨κn,ah3,_,ah4⟩:=dK.z_ MI n7;exact⟨a7,iL,κn,ah3,(.loop (fe fn a.tmps ps assign body B ix a7)),rfl,A.eb.1 ah2,by rw[fZ];exact World.putObj_heap_same Uy,ah4⟩
   | _=>exact bt.elim
  ·exact hm.1.elim
 ·exact hm.1.elim
theorem Uz{w:World}{o hW:Obj}{r:Nat}(h:r<w.heap.size):((w.alloc o).alloc hW).heap[r]?=w.heap[r]?:=
 (pd _ _ (by simp;omega)).trans (pd _ _ h)
def ah5(C CI:b_){β:Type}(sh rin rout:dK)(aM:ad)(cn:List aM.aj->Prop)(ps:Array Tmp)(assign body:Code)(a:Act)(fn:FuncId)(l B:Nat)(run:aC->A (di×rout.aj))(k:di->aC->A β)(O:β->Prop)
  (st:Bool) (F Y:Nat->Prop) (aw:World):Prop:=
 ∃ (e:di) (D:sh.aj) (κ:Nat->bB),bm CI (sh.st D) a aw κ F/\aw.heap[l]?=some (.loop (fe fn a.tmps ps assign body B (if st then .done else .ready) e))/\aw.heap[B]?=some (.deferred (some []))/\
  (∀ b,((sh.st D).ab b).body.b1 (κ b)=true->Y (κ b).ab/\¬((κ b).ab=l\/(κ b).ab=B))/\Y l/\Y B/\¬F l/\¬F B/\C.P=CI.P/\
  (st=false->e=.normal/\∀ R,cn R->A.cy (jR (λD y=>t' sh rin rout aM ps.toList D y run) R D) λp=>A.cy (k p.1 (sh.st p.2)) O)/\(st=true->e≠.normal/\A.cy (k e (sh.st D)) O)
theorem UA{C CI:b_}{β:Type}{sh rin rout:dK}{aM:ad}{S:List aM.aj->Prop}{ps:Array Tmp}{assign body:Code}{a:Act}{fn:FuncId}{l B:Nat}{run:aC->A (di×rout.aj)}{k:di->aC->A β}{O:β->Prop}
  (iN:CI.K0=λ_=>False) (ah6:l≠B) (ec:n5 sh rout aM ps.toList a.tmps.size=true) (DA:Hk CI.P CI.aP a.tmps.size assign body l run) :
  Fw CI.P (fr CI.P aM) l S λpre=>ah5 C CI sh rin rout aM (λR=>S (pre++R)) ps assign body a fn l B run k O where
 BX:=λ{pre st F F' Y w w'} h bo heq cd jO jm Dy=>by
  have hc:de w w':=⟨jO.1,jO.2.1,jO.2.2⟩
  obtain⟨e,D,κ,M,E,U,ah,a6,bL,dv,gl,jj,p7⟩:=h;have pq:(sh.st D).aA b5=.undef:=by
   simp only[n5,Bool.and_eq_true,Bool.not_eq_true']at ec;exact xO sh.bU db D b5 ec.1.1.1.2
  have uj:∀ r,CI.K0 r->False:=λr h=>by grind
  refine⟨e,D,κ,?_,(heq l (.inr a6)).trans E,(heq B (.inr bL)).trans U,ah,a6,bL,λh=>Dy l h a6,λh=>Dy B h bL,jj,p7⟩;exact M.Us M.dH M.dfr M.gq M.bU (λdJ kE e8 i' ix e=>by have e:(sh.st D).aA b5=.aW dJ kE e8 i' ix:=e;grind)
   (λr bb=>heq r (bb.imp id λ⟨b,aa,e⟩=>e ▸ (ah b aa).1)) cd bo jm (λb aa ao=>Dy _ ao (ah b aa).1) (λr _=>.inr (uj r)) (λr h=>bo r (M.hU r h)) (λr h=>(uj r h).elim) (λr h=>(uj r h).elim) (λb _=>uj _)
   (Nat.le_trans M.size cd) (M.ev.trans hc)
 yield:=λ{pre F Y w args x} h jm UB ai dX=>by
  obtain⟨MJ,MK⟩:=ai;obtain⟨e,D,κ,M,E,U,ah,a6,bL,dv,gl,jj,p7,_⟩:=h;obtain⟨rfl,hm⟩:=p7 rfl;have pq:∀ D:sh.aj,(sh.st D).aA b5=.undef:=λD=>by
   simp only[n5,Bool.and_eq_true,Bool.not_eq_true']at ec;exact xO sh.bU db D b5 ec.1.1.1.2
  have uj:∀ r,CI.K0 r->False:=λr h=>by grind
  have hm:A.cy (t' sh rin rout aM ps.toList D x run) λp=>∀ T,S (pre++x::T)->A.cy (match p.1 with
    | .normal=>jR (λD y=>t' sh rin rout aM ps.toList D y run) T p.2
    | .exit id=>A.pure (.exit id,p.2)
    | .ret=>A.pure (.ret,p.2)) λp=>A.cy (k p.1 (sh.st p.2)) O:=by
   have E:=λT aV=>A.gb.1 (hm (x::T) aV);exact⟨(E MJ MK).1,λy aT T aV=>(E T aV).2 y aT⟩
  obtain⟨tmps,aT,ah7⟩:=ahS (Z:=λr=>r=l\/r=B) (.inl rfl) M ec DA hm E dv ah dX;refine⟨fn,tmps,assign,body,aT,ah7.mono λa7 qw ⟨bH,iL,κ',F',o,he,Ho,Hq,bb⟩=>?_⟩;have Al:l<w.heap.size:=(UB l a6).1;have ML:B<w.heap.size:=(UB B bL).1;have g1:∀ r,F r->F' r:=bb.hU;have ew:∀ r,F' r->F r\/Y r\/w.heap.size<=r:=λr cO=>by
   rcases bb.hh r cO with h | h
   ·exact .inl h
   ·by_cases ch:r<w.heap.size
    ·by_cases aT:Y r
     ·exact .inr (.inl aT)
     ·exact (h ⟨ch,.inr aT⟩).elim
    ·exact .inr (.inr (Nat.le_of_not_lt ch))
  have UC:∀ r,r<w.heap.size->¬F r->(r=l\/r=B)->¬F' r:=λr ch ao bj ry=>(bb.hh r ry).elim ao λh=>h ⟨ch,.inl bj⟩;have UD:¬F' l:=UC l Al dv (.inl rfl);have vC:¬F' B:=UC B ML gl (.inr rfl);have UE:∀ b,((sh.st iL).ab b).body.b1 (κ' b)=true->¬((κ' b).ab=l\/(κ' b).ab=B)/\(Y (κ' b).ab\/w.heap.size<=(κ' b).ab):=λb aa=>by
   have ak:=(bb.own b aa).2.2;grind
  have Hr:w.heap.size<=qw.heap.size:=by have:=bb.size;simpa using this
  have gc:de w qw:=⟨bb.ev.os,bb.ev.tape,bb.ev.output⟩
  have ayh:∀ T,pre++[x]++T=pre++x::T:=λT=>by simp
  refine⟨(sK bH).isNone,F',λr=>(∃ b,((sh.st iL).ab b).body.b1 (κ' b)=true/\(κ' b).ab=r)\/r=l\/r=B,he,g1,ew,bb.dd,λr ch aT=>?_,λr cO=>?_,Hr,⟨gc.os,gc.tape,gc.output⟩,?_⟩
  ·have eQ:r≠l:=λe=>aT (e ▸ a6);exact (bb.eH r ⟨ch,.inr aT⟩).trans (World.putObj_heap_other eQ)
  ·rcases cO with⟨b,aa,rfl⟩ | rfl | rfl
   ·exact⟨(UE b aa).2,(bb.own b aa).1,(bb.own b aa).2.1⟩
   ·exact⟨.inl a6,Nat.lt_of_lt_of_le Al Hr,UD⟩
   ·exact⟨.inl bL,Nat.lt_of_lt_of_le ML Hr,vC⟩
  ·refine⟨bH,iL,κ',?_,?_,?_,λb aa=>⟨.inl ⟨b,aa,rfl⟩,(UE b aa).1⟩,.inr (.inl rfl),.inr (.inr rfl),UD,vC,jj,λfZ=>?_,λfZ=>?_⟩
   ·exact bb.vG bb.dH bb.dfr bb.gq bb.bU (λdJ kE e8 i' ix e=>by have e:(sh.st iL).aA b5=.aW dJ kE e8 i' ix:=e;grind) (λ_ _=>rfl) (Nat.le_refl _) (λr _=>.inr (uj r)) (λr h=>g1 r (M.hU r h))
     (λr h=>(uj r h).elim) (λr h=>(uj r h).elim) (λb _=>uj _) (Nat.le_trans M.size Hr) (M.ev.trans gc)
   ·grind
   ·exact (bb.eH B ⟨ML,.inl (.inr rfl)⟩).trans ((World.putObj_heap_other (Ne.symm ah6)).trans U)
   ·cases bH with
    | normal=>grind
    | _=>cases fZ
   ·cases bH with
    | normal=>cases fZ
    | exit id=>exact⟨by simp,(Ho MJ MK).2 _ rfl⟩
    | ret=>exact⟨by simp,(Ho MJ MK).2 _ rfl⟩
theorem UF{P:Program}{l:Nat}{aM:ad}{S:List aM.aj->Prop}{I:List aM.aj->Bool->(Nat->Prop)->(Nat->Prop)->World->Prop}(h:Fw P (fr P aM) l S I):lT.hE P ⟨l,aM,S,I⟩ where
 BX:=λE U ah a6 bL dv gl=>h.BX E U ah a6 ⟨bL.os,bL.tape,bL.output⟩ dv gl
 yield:=λE U ah a6 bL=>YieldAt.mono (h.yield E U ah a6 bL) λ_ _ ⟨b,F',gD,aQ,aS,bN,fm,l2,pA,Hs,DC,MM⟩=>⟨b,F',gD,aQ,aS,bN,fm,l2,pA,Hs,⟨DC.1,DC.2.1,DC.2.2⟩,MM⟩
end Go.Fer
