/- Part 3 of the proof of Answers: shallow programs of Go functions, and what they compute. No condition. -/
import Derived.Test.YtplfnoecifjgeaaGreatDoorAnswersB
import Derived.RangeFuncIn
import Derived.RangeFuncRecord
import Derived.RangeFuncBound
noncomputable section
set_option linter.unusedVariables false
set_option linter.unusedSimpArgs false
namespace Go.Fer
open Go.RowKit
def oT(x y:bQ):Prop:=(y.fI=true->x.fI=true)/\(y.ff=true->x.ff=true/\y.len=x.len/\y.e0=x.e0)/\(y.gX=true->x.gX=true)/\(y.mS=true->x.mS=true)/\∀ k,y.bZ k=true->x.bZ k=true
theorem oT.refl(x:bQ):oT x x:=⟨id,λh=>⟨h,rfl,rfl⟩,id,id,λ_=>id⟩
theorem oT.fy(x:bQ):oT x .fy:=⟨λh=>(by cases h),λh=>(by cases h),λh=>(by cases h),λh=>(by cases h),λ_ h=>(by cases h)⟩
def sN(f:Nat->Nat)(H H':Nat->bK):Prop:=∀ b,(H' b).gen=0/\oT (H (f b)).body (H' b).body
section
variable {P:Program} {H H':Nat->bK} {κ:Nat->bB} {F F':Nat->Prop} {w:World} {f:Nat->Nat}
theorem Tj(aC:sN f H H'){b off:Nat}{v:Value}(h:bz P H κ F w (.bd (f b) (H (f b)).gen off) v):bz P H' (λb=>κ (f b)) F' w (.bd b 0 off) v:=
 ⟨⟨Nat.zero_le _,h.1.2⟩,λ_ hc=>h.2 rfl ((aC b).2.1 hc)⟩
def Mg(P:Program)(H H':Nat->bK)(κ:Nat->bB)(f:Nat->Nat)(F F':Nat->Prop)(w:World){R:Type}(r:Option (R×List Nat))(l:List Nat)(av av':aH)(y:R):Prop:=
 ∃ m,r=some (y,m)/\(∀ b∈m,b∈l)/\(iY H κ F' l->∀ v,bz P H κ F w av v->bz P H' (λb=>κ (f b)) F' w av' v)
theorem Mg.hH{R:Type}{r:Option (R×List Nat)}{l:List Nat}{av av':aH}{y:R}(h:r=some (y,l))(k:∀ v,bz P H κ F w av v->bz P H' (λb=>κ (f b)) F' w av' v):Mg P H H' κ f F F' w r l av av' y:=
 ⟨l,h,λ_ W=>W,λ_=>k⟩
theorem kK{ak:Type}{b:Bool}{r:Option ak}{x:ak}(h:vJ b r=some x):b=true/\r=some x:=by
 cases b with
 | true=>exact⟨rfl,h⟩
 | false=>cases h
theorem qG{t:ab}{av:aH}{R:Type}{r:Option (R×List Nat)}{z:t.aj×R}{l:List Nat}(h:xJ H t av r=some (z,l)):∃ ez m,(dz t av).run H=some (z.1,ez)/\r=some (z.2,m)/\l=ez++m:=by
 unfold xJ at h;grind
theorem Mh{t:ab}{av:aH}{R:Type}{r:Option (R×List Nat)}{z:t.aj×R}{l:List Nat}(h:LL t av r=some (z,l)):av=.dV t z.1/\r=some (z.2,l):=by
 unfold LL at h;grind
theorem Mi{b:Nat}{av:aH}{R:Type}{r:Option (R×List Nat)}{z:(Nat×Nat)×R}{l:List Nat}(h:LM H b av r=some (z,l)) :
  r=some (z.2,l)/\(av=.sub b (H b).gen z.1.1 z.1.2\/(av=.an b (H b).gen/\(H b).body.ff=true/\z.1=(0,(H b).body.len))):=by
 unfold LM at h;grind
theorem G7{aK:ab}{av:aH}{R:Type}{r:Option (R×List Nat)}{z:(Nat×(List aK.aj->Prop)×List aK.aj×Bool)×R}{l:List Nat}(h:LN aK av r=some (z,l)) :
  r=some (z.2,l)/\av=.aX z.1.1 aK z.1.2.1 z.1.2.2.1 z.1.2.2.2:=by
 unfold LN at h;grind
theorem Mj{b:Nat}{av:aH}{R:Type}{r:Option (R×List Nat)}{z:Nat×R}{l:List Nat}(h:LP H b av r=some (z,l)):r=some (z.2,l)/\av=.iX b (H b).gen z.1:=by
 unfold LP at h;grind
theorem Mk{av:aH}{R:Type}{r:Option (R×List Nat)}{z:Nat×R}{l:List Nat}(h:LO av r=some (z,l)):r=some (z.2,l)/\av=.hh z.1:=by
 unfold LO at h;grind
theorem Tk{b off:Nat}{av:aH}(h:GF H b off av=true):av=.bd b (H b).gen off:=by
 unfold GF at h;grind
theorem Tl{b:Nat}{av:aH}(h:GG H b av=true):av=.an b (H b).gen:=by
 unfold GG at h;grind
theorem afD{b:Nat}{av:aH}(h:LQ H b av=true):av=.fH b (H b).gen:=by
 unfold LQ at h;grind
theorem afE{b:Nat}{av:aH}(h:LR H b av=true):av=.j9 b (H b).gen:=by
 unfold LR at h;grind
theorem afF{av:aH}(h:LS av=true):av=.dn:=by
 unfold LS at h;grind
theorem afG(aC:sN f H H'){k:FuncId}{fV:z8'}{av:aH}(h:LU H f k fV av=true){v:Value}(ae:bz P H κ F w av v):bz P H' (λb=>κ (f b)) F' w (.iC k fV.length (vH c_ fV)) v:=by
 unfold LU at h;split at h
 ·rename_i k' n c1;simp only[Bool.and_eq_true,beq_iff_eq]at h;obtain⟨⟨rfl,rfl⟩,e⟩:=h;obtain⟨aD,E,U,ag⟩:=ae;refine⟨aD,E,U,λi G=>?_⟩;have he:=List.all_eq_true.1 e i (by grind);have ae:=ag i G;rw[show fV[i]?=some fV[i] by simp]at he;rw[Tk he]at ae;have:vH c_ fV i=.bd fV[i].1 0 fV[i].2:=by simp[vH,hj,List.getD_eq_getElem?_getD,G,c_]
  rw[this];exact Tj aC ae
 grind
theorem afH(aC:sN f H H'){bs:List Nat}{av:aH}(h:LV H f bs av=true){v:Value}(ae:bz P H κ F w av v):bz P H' (λb=>κ (f b)) F' w (.agg bs.length (vI c_ bs)) v:=by
 unfold LV at h;split at h
 ·rename_i n dt;simp only[Bool.and_eq_true,beq_iff_eq]at h;obtain⟨rfl,e⟩:=h;obtain⟨aD,E,U,ag⟩:=ae;refine⟨aD,E,U,λi G=>?_⟩;have he:=List.all_eq_true.1 e i (by grind);obtain⟨ae,hc⟩:=ag i G;refine⟨?_,hc⟩;rw[show bs[i]?=some bs[i] by simp]at he;rw[Tl he]at ae;have:vI c_ bs i=.an bs[i] 0:=by simp[vI,hj,List.getD_eq_getElem?_getD,G,c_]
  rw[this];refine⟨⟨Nat.zero_le _,ae.1.2⟩,λ_ hc=>?_⟩;obtain⟨aR,aW,_⟩:=(aC bs[i]).2.2.1 hc;rw[aW];exact ae.2 rfl aR
 grind
theorem xU(aT:∀ b,cD P H κ F w b)(bn:∀ r,F r->F' r)(aC:sN f H H')(t:bY){av:aH}{R:Type}{r:Option (R×List Nat)}{z:t.cons R}{l:List Nat}(h:t.jc H f av r=some (z,l)) :
  Mg P H H' κ f F F' w r l av (t.av c_ z).1 (t.av c_ z).2:=by
 cases t with
 | undef=>exact .hH h λ_ _=>by simp only[bY.av,bz]
 | val t=>
  obtain⟨ez,m,ah,rfl,rfl⟩:=qG h;exact⟨m,rfl,λb W=>List.mem_append_right _ W,λai v ae=>mv aT bn ah ai.left ae⟩
 | dV t=>
  obtain⟨rfl,rfl⟩:=Mh h;exact .hH rfl λv ⟨p,bj,E,U,ag⟩=>⟨p,bj,E,U.mono bn (c6.refl _ _),fc _ bn (c6.refl _ _) ag⟩
 | bd b off=>
  obtain⟨E,U⟩:=kK h;obtain rfl:=Tk E;exact .hH U λv ae=>Tj aC ae
 | an b=>
  obtain⟨E,U⟩:=kK h;obtain rfl:=Tl E;refine .hH U λv ae=>⟨⟨Nat.zero_le _,ae.1.2⟩,λ_ hc=>?_⟩
  obtain⟨aR,aW,_⟩:=(aC b).2.2.1 hc;simp only[c_];rw[aW];exact ae.2 rfl aR
 | sub b=>
  obtain⟨E,U⟩:=Mi h;refine .hH E λv ae=>?_;rcases U with rfl | ⟨rfl,e9,ag⟩
  ·refine⟨⟨Nat.zero_le _,ae.1.2⟩,λ_ hc=>?_⟩;obtain⟨aR,aW,bL⟩:=(aC b).2.2.1 hc;simp only[c_]at aW bL ⊢;rw[aW,bL];exact ae.2 rfl aR
  ·refine⟨⟨Nat.zero_le _,ae.1.2⟩,λ_ hc=>?_⟩;obtain⟨aR,aW,bL⟩:=(aC b).2.2.1 hc;have:=ae.2 rfl aR;simp only[c_]at aW bL ⊢;rw[aW,bL,ag];refine⟨⟨Nat.zero_le _,Nat.le_refl _⟩,?_⟩;rw[this];unfold bB.slice;cases aw:(κ (f b)).e6 with
   | true=>exact .inl ⟨aw,rfl⟩
   | false=>exact .inr ⟨aw,(κ (f b)).off,by simp,by simp,λ_=>by simp⟩
 | fH b=>
  obtain⟨E,U⟩:=kK h;obtain rfl:=afD E;exact .hH U λv ae=>⟨⟨Nat.zero_le _,ae.1.2⟩,λ_ hc=>ae.2 rfl ((aC b).2.2.2.1 hc)⟩
 | j9 b=>
  obtain⟨E,U⟩:=kK h;obtain rfl:=afE E;exact .hH U λv ae=>⟨⟨Nat.zero_le _,ae.1.2⟩,λ_ hc=>ae.2 rfl ((aC b).2.2.2.2.1 hc)⟩
 | dn=>
  obtain⟨E,U⟩:=kK h;obtain rfl:=afF E;exact .hH U λv ae=>ae
 | iC k fV=>
  obtain⟨E,U⟩:=kK h;exact .hH U λv ae=>afG aC E ae
 | hI bs=>
  obtain⟨E,U⟩:=kK h;exact .hH U λv ae=>afH aC E ae
 | iX b=>
  obtain⟨E,rfl⟩:=Mj h;refine .hH E λv ae=>⟨⟨Nat.zero_le _,ae.1.2⟩,λ_ hc=>?_⟩
  obtain⟨aR,aW,bL⟩:=(aC b).2.2.1 hc;have:=ae.2 rfl aR;simp only[c_]at aW bL ⊢;rw[aW,bL];exact this
 | aX aK=>
  obtain⟨E,rfl⟩:=G7 h;exact .hH E λv ae=>ae
 | hh=>
  obtain⟨E,rfl⟩:=Mk h;exact .hH E λv ae=>ae
theorem afI(aT:∀ b,cD P H κ F w b)(bn:∀ r,F r->F' r)(aC:sN f H H'):∀ (ts:List bY) {c:Nat->aH} {i:Nat} {R:Type} {r:Option (R×List Nat)} {z:qE ts R} {l:List Nat},Ai H f ts c i r=some (z,l)->
  ∃ m,r=some ((pK c_ ts z).2,m)/\(∀ b∈m,b∈l)/\(iY H κ F' l->∀ j,j<ts.length->∀ v,bz P H κ F w (c (i+j)) v->bz P H' (λb=>κ (f b)) F' w ((pK c_ ts z).1.getD j .undef) v):=by
 intro ts;induction ts with
 | nil=>intro c i R r z l h;exact⟨l,h,λ_ W=>W,λ_ j aF=>by cases aF⟩
 | cons t ts aI=>
  intro c i R r z l h;obtain⟨m1,E,U,ag⟩:=xU (F':=F') (H':=H') aT bn aC t h;obtain⟨m2,aR,aW,fA⟩:=aI E;refine⟨m2,aR,λb W=>U b (aW b W),λai j aF v ae=>?_⟩;cases j with
  | zero=>exact ag ai v ae
  | succ j=>
   have:=fA (λb W=>ai b (U b W)) j (by grind) v (by grind);simpa [pK]using this
theorem afJ(aT:∀ b,cD P H κ F w b)(bn:∀ r,F r->F' r)(aC:sN f H H'):∀ (ts:List (Nat×bY)) {c:Nat->aH} {R:Type} {r:Option (R×List Nat)} {z:oQ ts R} {l:List Nat},xL H f ts c r=some (z,l)->
  ∃ m,r=some ((eD c_ ts z).2,m)/\(∀ b∈m,b∈l)/\(iY H κ F' l->∀ i v,bz P H κ F w (c i) v->bz P H' (λb=>κ (f b)) F' w (fr (eD c_ ts z).1 i) v):=by
 intro ts;induction ts with
 | nil=>intro c R r z l h;exact⟨l,h,λ_ W=>W,λ_ _ _ _=>by simp only[eD,fr,bz]⟩
 | cons p ts aI=>
  intro c R r z l h;obtain⟨m1,E,U,ag⟩:=xU (F':=F') (H':=H') aT bn aC p.2 h;obtain⟨m2,aR,aW,fA⟩:=aI E;refine⟨m2,aR,λb W=>U b (aW b W),λai i v ae=>?_⟩;simp only[eD,fr];split
  ·grind
  ·exact fA (λb W=>ai b (U b W)) i v ae
theorem G8(t:bY){av:aH}{R:Type}{r:Option (R×List Nat)}{z:t.cons R}{l:List Nat}(h:t.jc H f av r=some (z,l)):∃ m,r=some ((t.av c_ z).2,m)/\∀ b∈m,b∈l:=by
 cases t with
 | undef=>exact⟨l,h,λ_ h=>h⟩
 | val t=>obtain⟨_,m,_,U,ag⟩:=qG h;exact⟨m,U,λb W=>ag ▸ List.mem_append_right _ W⟩
 | dV t=>exact⟨l,(Mh h).2,λ_ h=>h⟩
 | sub b=>exact⟨l,(Mi h).1,λ_ h=>h⟩
 | aX aK=>exact⟨l,(G7 h).1,λ_ h=>h⟩
 | hh=>exact⟨l,(Mk h).1,λ_ h=>h⟩
 | iX b=>exact⟨l,(Mj h).1,λ_ h=>h⟩
 | bd b off=>exact⟨l,(kK h).2,λ_ h=>h⟩
 | an b=>exact⟨l,(kK h).2,λ_ h=>h⟩
 | fH b=>exact⟨l,(kK h).2,λ_ h=>h⟩
 | j9 b=>exact⟨l,(kK h).2,λ_ h=>h⟩
 | dn=>exact⟨l,(kK h).2,λ_ h=>h⟩
 | iC k fV=>exact⟨l,(kK h).2,λ_ h=>h⟩
 | hI bs=>exact⟨l,(kK h).2,λ_ h=>h⟩
theorem afK:∀ (ts:List bY) {c:Nat->aH} {i:Nat} {R:Type} {r:Option (R×List Nat)} {z:qE ts R} {l:List Nat},Ai H f ts c i r=some (z,l)->∃ m,r=some ((pK c_ ts z).2,m)/\∀ b∈m,b∈l:=by
 intro ts;induction ts with
 | nil=>intro c i R r z l h;exact⟨l,h,λ_ h=>h⟩
 | cons t ts aI=>
  intro c i R r z l h;obtain⟨m,E,U⟩:=G8 t h;obtain⟨dx,ag,a7⟩:=aI E;exact⟨dx,ag,λb W=>U b (a7 b W)⟩
theorem afL:∀ (ts:List (Nat×bY)) {c:Nat->aH} {R:Type} {r:Option (R×List Nat)} {z:oQ ts R} {l:List Nat},xL H f ts c r=some (z,l)->∃ m,r=some ((eD c_ ts z).2,m)/\∀ b∈m,b∈l:=by
 intro ts;induction ts with
 | nil=>intro c R r z l h;exact⟨l,h,λ_ h=>h⟩
 | cons p ts aI=>
  intro c R r z l h;obtain⟨m,E,U⟩:=G8 p.2 h;obtain⟨dx,ag,a7⟩:=aI E;exact⟨dx,ag,λb W=>U b (a7 b W)⟩
theorem Dn(t:bY){av:aH}{R:Type}{r:Option (R×List Nat)}{z:t.cons R}{l:List Nat}(h:t.jc H f av r=some (z,l))(M:∀ y m,r=some (y,m)->gO H m):gO H l:=by
 cases t with
 | undef=>exact M _ _ h
 | val t=>obtain⟨_,m,E,U,rfl⟩:=qG h;exact (mX E).append (M _ _ U)
 | dV t=>exact M _ _ (Mh h).2
 | sub b=>exact M _ _ (Mi h).1
 | aX aK=>exact M _ _ (G7 h).1
 | hh=>exact M _ _ (Mk h).1
 | iX b=>exact M _ _ (Mj h).1
 | bd b off=>exact M _ _ (kK h).2
 | an b=>exact M _ _ (kK h).2
 | fH b=>exact M _ _ (kK h).2
 | j9 b=>exact M _ _ (kK h).2
 | dn=>exact M _ _ (kK h).2
 | iC k fV=>exact M _ _ (kK h).2
 | hI bs=>exact M _ _ (kK h).2
theorem afM:∀ (ts:List bY) {c:Nat->aH} {i:Nat} {R:Type} {r:Option (R×List Nat)} {z:qE ts R} {l:List Nat},Ai H f ts c i r=some (z,l)->(∀ y m,r=some (y,m)->gO H m)->gO H l:=by
 intro ts;induction ts with
 | nil=>intro c i R r z l h M;exact M _ _ h
 | cons t ts aI=>intro c i R r z l h M;exact Dn t h λy m hm=>aI hm M
theorem afN:∀ (ts:List (Nat×bY)) {c:Nat->aH} {R:Type} {r:Option (R×List Nat)} {z:oQ ts R} {l:List Nat},xL H f ts c r=some (z,l)->(∀ y m,r=some (y,m)->gO H m)->gO H l:=by
 intro ts;induction ts with
 | nil=>intro c R r z l h M;exact M _ _ h
 | cons p ts aI=>intro c R r z l h M;exact Dn p.2 h λy m hm=>aI hm M
theorem Ml{t:ab}{ts:List bY}{iM:bQ}{R:Type}{r:Option (R×List Nat)}{z:qE ts R}{l:List Nat}(h:LW H f t ts iM r=some (z,l)):∃ c,iM=.cells t c/\t.size=ts.length/\Ai H f ts c 0 r=some (z,l):=by
 unfold LW at h;grind
theorem Mm{e:ab}{iM:bQ}{R:Type}{r:Option (R×List Nat)}{z:List e.aj×R}{l:List Nat}(h:LX e iM r=some (z,l)):r=some (z.2,l)/\iM=.bh e z.1:=by
 unfold LX at h;grind
theorem Mn{e:ab}{t:bY}{iM:bQ}{R:Type}{r:Option (R×List Nat)}{z:(List e.aj×Nat)×t.cons R}{l:List Nat}(h:L0 H f e t iM r=some (z,l)):∃ v,iM=.gj e z.1.1 z.1.2 v/\t.jc H f v r=some (z.2,l):=by
 unfold L0 at h;grind
theorem Mo{k v:ab}{iM:bQ}{R:Type}{r:Option (R×List Nat)}{z:List (k.aj×v.aj)×R}{l:List Nat}(h:LY k v iM r=some (z,l)):r=some (z.2,l)/\iM=.mp k v z.1:=by
 unfold LY at h;grind
theorem Mp{k v:ab}{iM:bQ}{R:Type}{r:Option (R×List Nat)}{z:(Option (k.aj×v.aj)×List (k.aj×v.aj))×R}{l:List Nat}(h:LZ k v iM r=some (z,l)):r=some (z.2,l)/\iM=.cr k v z.1.1 z.1.2:=by
 unfold LZ at h;grind
theorem Mq{t:ab}{iM:bQ}{R:Type}{r:Option (R×List Nat)}{z:t.aj×R}{l:List Nat}(h:L1 H t iM r=some (z,l)):∃ c,iM=.cells t c/\xJ H t (.agg t.size c) r=some (z,l):=by
 unfold L1 at h;grind
theorem Mr{t:ab}{b:Nat}{R:Type}{r:Option (R×List Nat)}{z:t.aj×R}{l:List Nat}(h:L2 H t b r=some (z,l)):∃ ez m,(dz (.bH t) (.bd b (H b).gen 0)).run H=some (some z.1,ez)/\r=some (z.2,m)/\l=ez++m:=by
 unfold L2 at h;split at h
 ·rename_i x ez ah;split at h
  ·cases h;exact⟨ez,_,ah,rfl,rfl⟩
  ·cases h
 ·cases h
theorem Tm{e:ab}{b:Nat}{xs:List e.aj}{l:List Nat}(h:(dz (.slice e) (.an b (H b).gen)).run H=some (xs,l)):(H b).body=.bh e xs\/(H b).body=.hF e xs:=by
 simp only[dz,ky,ab.eG,if_true,dW,aq.e1,aq.bM]at h;split at h
 ·rename_i aZ ys W;simp only[Option.map_eq_some_iff,Prod.mk.injEq]at h;obtain⟨z,bk,rfl,_⟩:=h;obtain⟨rv,rfl⟩:=kU bk;grind
 ·rename_i aZ ys W;simp only[Option.map_eq_some_iff,Prod.mk.injEq]at h;obtain⟨z,bk,rfl,_⟩:=h;obtain⟨rv,rfl⟩:=kU bk;grind
 grind
theorem afO{k v:ab}{b:Nat}{xs:List (k.aj×v.aj)}{l:List Nat}(h:(dz (.map k v) (.fH b (H b).gen)).run H=some (xs,l)):(H b).body=.mp k v xs\/(H b).body=.jl k v xs:=by
 simp only[dz,ky,ab.eG,if_true,dW,aq.e1,aq.bM]at h;split at h
 ·rename_i k' h8 ys W;simp only[Option.map_eq_some_iff,Prod.mk.injEq]at h;obtain⟨z,bk,rfl,_⟩:=h;obtain⟨rv,rfl⟩:=kU bk;grind
 ·rename_i k' h8 ys W;simp only[Option.map_eq_some_iff,Prod.mk.injEq]at h;obtain⟨z,bk,rfl,_⟩:=h;obtain⟨rv,rfl⟩:=kU bk;grind
 grind
theorem afP{t:ab}{b:Nat}{x:Option t.aj}{l:List Nat}(h:(dz (.bH t) (.bd b (H b).gen 0)).run H=some (x,l)):(H b).body.fI=true:=by
 simp only[dz,ky,tU,aq.e1,and_self,if_true]at h;split at h
 ·rename_i W;rw[W];rfl
 ·rename_i W;rw[W];rfl
 ·cases h
theorem b6.Tn(t:b6){b:Nat}{R:Type}{r:Option (R×List Nat)}{z:t.cons R}{l:List Nat}(h:t.jc H f b r=some (z,l)) :
  (∃ m,r=some ((t.body c_ z).2,m)/\∀ c∈m,c∈l)/\oT (H b).body (t.body c_ z).1/\∀ k,(t.body c_ z).1.bZ k=true->t.Dd=true:=by
 cases t with
 | cells t ts=>
  obtain⟨c,e,aE,h⟩:=Ml h;refine⟨afK ts h,?_,λ_ _=>rfl⟩;rw[e];exact⟨λ_=>rfl,λh=>(by cases h),λh=>(by cases h),λh=>(by cases h),λ_ _=>rfl⟩
 | bh e=>
  obtain⟨E,U⟩:=Mm h;refine⟨⟨l,E,λ_ h=>h⟩,?_,λ_ _=>rfl⟩;rw[U];exact oT.refl _
 | hF e=>
  obtain⟨ez,m,E,U,rfl⟩:=qG h;refine⟨⟨m,U,λ_ h=>List.mem_append_right _ h⟩,?_,λ_ h=>(by cases h)⟩;rcases Tm E with e | e<;>rw[e]
  ·exact⟨λh=>(by cases h),λ_=>⟨rfl,rfl,rfl⟩,λh=>(by cases h),λh=>(by cases h),λ_ h=>(by cases h)⟩
  ·exact oT.refl _
 | mp k v=>
  obtain⟨E,U⟩:=Mo h;refine⟨⟨l,E,λ_ h=>h⟩,?_,λ_ _=>rfl⟩;rw[U];exact oT.refl _
 | jl k v=>
  obtain⟨ez,m,E,U,rfl⟩:=qG h;refine⟨⟨m,U,λ_ h=>List.mem_append_right _ h⟩,?_,λ_ h=>(by cases h)⟩;rcases afO E with e | e<;>rw[e]
  ·exact⟨λh=>(by cases h),λh=>(by cases h),λ_=>rfl,λh=>(by cases h),λ_ h=>(by cases h)⟩
  ·exact oT.refl _
 | f' t=>
  obtain⟨c,e,h⟩:=Mq h;obtain⟨ez,m,E,U,rfl⟩:=qG h;refine⟨⟨m,U,λ_ h=>List.mem_append_right _ h⟩,?_,λ_ _=>rfl⟩;rw[e];exact⟨λ_=>rfl,λh=>(by cases h),λh=>(by cases h),λh=>(by cases h),λ_ _=>rfl⟩
 | gM t=>
  obtain⟨ez,m,E,U,rfl⟩:=Mr h;refine⟨⟨m,U,λ_ h=>List.mem_append_right _ h⟩,?_,λ_ h=>(by cases h)⟩;exact⟨λ_=>afP E,λh=>(by cases h),λh=>(by cases h),λh=>(by cases h),λ_ h=>(by cases h)⟩
 | cr k v=>
  obtain⟨E,U⟩:=Mp h;refine⟨⟨l,E,λ_ h=>h⟩,?_,λ_ _=>rfl⟩;rw[U];exact oT.refl _
 | gj e t=>
  obtain⟨v,ay,h⟩:=Mn h;refine⟨G8 t h,?_,λ_ _=>rfl⟩;rw[ay];exact⟨λh=>(by cases h),λ_=>⟨rfl,rfl,rfl⟩,λh=>(by cases h),λh=>(by cases h),λ_ h=>h⟩
theorem b6.Dn(t:b6){b:Nat}{R:Type}{r:Option (R×List Nat)}{z:t.cons R}{l:List Nat}(h:t.jc H f b r=some (z,l))(M:∀ y m,r=some (y,m)->gO H m):gO H l:=by
 cases t with
 | cells t ts=>obtain⟨c,e,aE,h⟩:=Ml h;exact afM ts h M
 | bh e=>exact M _ _ (Mm h).1
 | hF e=>obtain⟨ez,m,E,U,rfl⟩:=qG h;exact (mX E).append (M _ _ U)
 | mp k v=>exact M _ _ (Mo h).1
 | jl k v=>obtain⟨ez,m,E,U,rfl⟩:=qG h;exact (mX E).append (M _ _ U)
 | f' t=>obtain⟨c,e,h⟩:=Mq h;obtain⟨ez,m,E,U,rfl⟩:=qG h;exact (mX E).append (M _ _ U)
 | gM t=>obtain⟨ez,m,E,U,rfl⟩:=Mr h;exact (mX E).append (M _ _ U)
 | cr k v=>exact M _ _ (Mp h).1
 | gj e t=>obtain⟨v,_,h⟩:=Mn h;exact Go.Fer.Dn t h M
theorem b6.afQ(aT:∀ b,cD P H κ F w b)(bn:∀ r,F r->F' r)(aC:sN f H H')(t:b6){b:Nat}{R:Type}{r:Option (R×List Nat)}{z:t.cons R}{l:List Nat}(h:t.jc H f b r=some (z,l))(ai:iY H κ F' l) :
  jG P H' (λb=>κ (f b)) F' w (κ b) (t.body c_ z).1:=by
 have W:=aT b;unfold cD at W;cases t with
 | cells t ts=>
  obtain⟨c,e,aE,h⟩:=Ml h;rw[e]at W;obtain⟨cs,T,aR,aW,bL⟩:=W;obtain⟨m,_,_,fA⟩:=afI (H':=H') aT bn aC ts h;refine⟨cs,T,aR,aW,λi G=>⟨?_,(bL i G).2⟩⟩;have:=fA ai i (by omega) _ (by rw[Nat.zero_add];exact (bL i G).1);exact this
 | bh e=>
  rw[(Mm h).2]at W;refine⟨W.1,λaw=>?_⟩;obtain⟨cs,T,E,U,ag,a7,bN⟩:=W.2 aw;exact⟨cs,T,E,U,ag,a7,bN.mono bn (c6.refl _ _)⟩
 | hF e=>
  obtain⟨ez,m,E,U,rfl⟩:=qG h;have vx:=Tm E;have xV:=mv (v:=(κ b).slice (H b).body.len) aT bn E ai.left ⟨⟨Nat.le_refl _,by unfold bB.slice;split<;>rfl⟩,λ_ _=>rfl⟩;have:=((dU rfl).1 xV).2;rcases vx with aZ | aZ<;>(rw[aZ]at this;exact this)
 | mp k v=>
  rw[(Mo h).2]at W;obtain⟨ms,clk,E,U⟩:=W;exact⟨ms,clk,E,U.mono bn (c6.refl _ _)⟩
 | jl k v=>
  obtain⟨ez,m,E,U,rfl⟩:=qG h;have xV:=mv (v:=.map (some (κ b).aa)) aT bn E ai.left ⟨⟨Nat.le_refl _,rfl⟩,λ_ _=>rfl⟩;exact ((dU rfl).1 xV).2
 | f' t=>
  obtain⟨c,e,h⟩:=Mq h;rw[e]at W;obtain⟨cs,T,aR,aW,bL⟩:=W;obtain⟨ez,m,ah,_,rfl⟩:=qG h;have ae:bz P H κ F w (.agg t.size c) (.agg cs):=⟨cs.toList,by simp,by omega,λj aF=>by
   simp_all⟩
  have xV:=mv (F':=F') aT bn ah ai.left ae;have iE:=zC (P:=P) (H:=H') (κ:=λb=>κ (f b)) t xV.2;refine⟨cs,T,aR,aW,λi G=>⟨?_,(bL i G).2⟩⟩;have:=(iE.kV i (by rw[iE.len];simpa [Value.cells,aW]using G)).1;rw[List.getD_eq_getElem?_getD]at this;rw[Array.getD_eq_getD_getElem?];simpa [Value.cells]using this
 | gM t=>
  obtain⟨ez,m,E,U,rfl⟩:=Mr h;have xV:=mv (v:=.pointer (some ⟨(κ b).aa,0,none⟩)) aT bn E ai.left ⟨⟨Nat.le_refl _,rfl⟩,λ_ _=>rfl⟩;rcases ((dU rfl).1 xV).2 with⟨_,e⟩ | ⟨p,y,bj,ay,aP,ag,a7⟩
  ·cases e
  ·simp only[List.cons.injEq,Value.pointer.injEq,Option.some.injEq,and_true]at ay;subst ay;cases aP;exact⟨bj,ag,a7⟩
 | cr k v=>
  rw[(Mp h).2]at W;exact xh.mono W bn (c6.refl _ _) rfl
 | gj e t=>
  obtain⟨v,ay,h⟩:=Mn h;rw[ay]at W;obtain⟨aU,cs,T,E,U,ag,a7,bN,du,gL,iV⟩:=W;obtain⟨m,_,_,fA⟩:=xU (F':=F') (H':=H') aT bn aC t h;refine⟨aU,cs,T,E,U,ag,a7,bN,λj aF rj=>?_,fA ai _ gL,iV⟩;obtain⟨bj,d1,d2⟩:=du j aF rj;exact⟨bj,d1,fc e bn (c6.refl _ _) d2⟩
theorem afR:∀ (l:List (Nat×b6)) {x:pJ l} {m:List Nat},xK H f l=some (x,m)->∀ b,eP (hl c_ l x) b=⟨0,.fy⟩\/
  ∃ iM,eP (hl c_ l x) b=⟨0,iM⟩/\oT (H (f b)).body iM/\∃ t,(b,t)∈l/\∀ k,iM.bZ k=true->t.Dd=true:=by
 intro l;induction l with
 | nil=>intro x m _ b;exact .inl rfl
 | cons q l aI=>
  intro x m h b;obtain⟨dh,dK⟩:=q;simp only[xK]at h;obtain⟨⟨dx,E,U⟩,ag,a7⟩:=b6.Tn dK h;by_cases e:b=dh
  ·subst e;exact .inr ⟨_,by simp only[hl,eP,if_true],ag,dK,by simp,a7⟩
  ·rcases aI E b with k | ⟨iM,aR,aW,t,bL,fA⟩
   ·exact .inl (by simpa [hl,eP,e]using k)
   ·exact .inr ⟨iM,by simpa [hl,eP,e]using aR,aW,t,List.mem_cons_of_mem _ bL,fA⟩
theorem afS:∀ (l:List (Nat×b6)) {x:pJ l} {m:List Nat},xK H f l=some (x,m)->gO H m:=by
 intro l;induction l with
 | nil=>intro x m h;cases h;exact .nil H
 | cons q l aI=>intro x m h;exact b6.Dn q.2 h λy m hm=>aI hm
theorem afT(aT:∀ b,cD P H κ F w b)(bn:∀ r,F r->F' r)(aC:sN f H H'):∀ (l:List (Nat×b6)) {x:pJ l} {m:List Nat},xK H f l=some (x,m)->iY H κ F' m->∀ b,jG P H' (λb=>κ (f b)) F' w (κ (f b)) (eP (hl c_ l x) b).body:=by
 intro l;induction l with
 | nil=>intro x m _ _ b;trivial
 | cons q l aI=>
  intro x m h hm b;obtain⟨dh,dK⟩:=q;simp only[xK]at h;obtain⟨⟨dx,E,U⟩,_⟩:=b6.Tn dK h;by_cases e:b=dh
  ·subst e;simp only[hl,eP,if_true];exact b6.afQ aT bn aC dK h hm
  ·have:=aI E (λc hc=>hm c (U c hc)) b;simpa [hl,eP,e]using this
theorem afU:∀ (ts:List (Nat×bY)) {c:Nat->aH} {R:Type} {r:Option (R×List Nat)} {z:oQ ts R} {l:List Nat},xL H f ts c r=some (z,l)->∀ {i dF aK L n st},fr (eD c_ ts z).1 i=.aX dF aK L n st->c i=.aX dF aK L n st:=by
 intro ts;induction ts with
 | nil=>intro c R r z l _ i dF aK L n st e;cases e
 | cons p ts aI=>
  intro c R r z l h i dF aK L n st e;obtain⟨jN,t⟩:=p;simp only[xL]at h;obtain⟨m,E,_⟩:=G8 t h;simp only[eD,fr]at e;split at e
  ·rename_i afV;subst afV;cases t with
   | aX kH=>
    obtain⟨_,ag⟩:=G7 h;rw[ag];exact e
   | _=>cases e
  grind
end
structure G9(C:b9)(s:aB)(a:Act)(w:World)(κ:Nat->bB)(f:Nat->Nat)(F':Nat->Prop)(sh:dG)(D:sh.aj)(bV:List Nat):Prop where
 bT:∀ i,bz C.P (sh.st D).aa (λb=>κ (f b)) F' w ((sh.st D).az i) (a.tmps.getD i Go.undef)
 bC:∀ b,cD C.P (sh.st D).aa (λb=>κ (f b)) F' w b
 bZ:∀ b,((sh.st D).aa b).body.bZ (κ (f b))=true->f b ∉ bV/\(s.aa (f b)).body.bZ (κ (f b))=true/\b∈sh.oR
 As:sN f s.aa (sh.st D).aa
 aX:∀ l aK L n st,(sh.st D).az b5=.aX l aK L n st->s.az b5=.aX l aK L n st
theorem dG.To{C:b9}{sh:dG}{f:Nat->Nat}{s:aB}{a:Act}{w:World}{κ:Nat->bB}{F:Nat->Prop}{D:sh.aj}{bV:List Nat}(h:sh.Aj f s=some (D,bV))(M:bl C s a w κ F) :
  ∃ F',(∀ r,F r->F' r)/\bl C (s.cz bV) a w κ F'/\G9 C s a w κ f F' sh D bV:=by
 unfold dG.Aj at h;split at h
 ·rename_i iL aye oO;split at h
  ·rename_i e9;cases h;obtain⟨m,E,hm⟩:=afL sh.bT oO;have lR:gO s.aa bV:=afN sh.bT oO λy m hm=>afS sh.bC hm;obtain⟨F',f1,ba,f2⟩:=bl.ln lR M;have Tp:=afR sh.bC E;have ux:sN f s.aa (sh.st D).aa:=by
    intro b;show (eP (hl c_ sh.bC (eD c_ sh.bT D).2) b).gen=0/\oT (s.aa (f b)).body (eP (hl c_ sh.bC (eD c_ sh.bT D).2) b).body;rcases Tp b with e | ⟨iM,e,k,_⟩
    ·rw[e];exact⟨rfl,oT.fy _⟩
    grind
   obtain⟨m2,_,_,afW⟩:=afJ (F':=F') (w:=w) M.bC f1 ux sh.bT oO;refine⟨F',f1,ba,{ bT:=λi=>afW f2 i _ (M.bT i),bC:=λb=>?_,bZ:=λb W=>?_,As:=ux,aX:=λl aK L n st e=>afU sh.bT oO e }⟩
   ·exact afT M.bC f1 ux sh.bC E (λc hc=>f2 c (hm c hc)) b
   ·have al:=(ux b).2.2.2.2.2 _ W;rcases Tp b with e | ⟨iM,e,_,t,aM,ayf⟩
    ·have e:(sh.st D).aa b=_:=e;rw[e]at W;cases W
    ·have e:(sh.st D).aa b=_:=e;rw[e]at W;have bc:b∈sh.oR:=List.mem_filterMap.2 ⟨(b,t),aM,by grind⟩;grind
  grind
 grind
theorem G9.xW{C:b9}{s:aB}{a:Act}{w:World}{κ:Nat->bB}{f:Nat->Nat}{F':Nat->Prop}{sh:dG}{D:sh.aj}{bV:List Nat}(h:G9 C s a w κ f F' sh D bV){b:Nat}(W:((sh.st D).aa b).body.bZ (κ (f b))=true) :
  ((s.cz bV).aa (f b)).body.bZ (κ (f b))=true:=by
 obtain⟨E,U,_⟩:=h.bZ b W;simp only[aB.cz,if_neg E];exact U
theorem Ms{C:b9}{s:aB}{a:Act}{w:World}{κ:Nat->bB}{F:Nat->Prop}(M:bl C s a w κ F){b:Nat}{e:ab} :
  bl C (s.cx b ⟨(s.aa b).gen+1,.bh e []⟩) a w (λi=>if i=b then ⟨0,0,0,true⟩ else κ i) F:=
 M.CV (k:=⟨0,0,0,true⟩) (Nat.lt_succ_self _) (.inl rfl) (Nat.le_refl _) (λ_ _=>rfl) (λh=>by cases h) (dd.refl _) λ_ _=>⟨λ_=>rfl,λh=>by cases h⟩
theorem afX{C:b9}{s:aB}{a:Act}{w:World}{κ:Nat->bB}{F:Nat->Prop}(M:bl C s a w κ F){i b be g':Nat}(aE:s.az i=.an be g'):∃ κ',bl C (L4 s i b be g') a w κ' F:=by
 unfold L4;split
 ·rename_i e xs ar bS;obtain⟨eC,rfl⟩:=of_decide_eq_true ar;generalize mY:(λj=>if j=b then (⟨(s.aa b).gen+1,.bh e xs⟩:bK) else if j=be then ⟨(s.aa be).gen+1,.fy⟩ else s.aa j)=H';generalize iN:(λj=>if j=b then κ be else κ j)=κ';have E:H' b=⟨(s.aa b).gen+1,.bh e xs⟩:=by grind
  have U:H' be=⟨(s.aa be).gen+1,.fy⟩:=by grind
  have ag:∀ j,j≠b->j≠be->H' j=s.aa j:=λj aR aW=>by grind
  have aR:κ' b=κ be:=by grind
  have bL:∀ j,j≠b->κ' j=κ j:=λj k=>by grind
  have ai:fq s.aa κ H' κ':=by
   rw[Cm];intro j;by_cases ay:j=b
   ·subst ay;rw[E];exact⟨Nat.le_succ _,λe=>absurd e (Nat.ne_of_lt (Nat.lt_succ_self _))⟩
   ·by_cases aP:j=be
    ·subst aP;rw[U];exact⟨Nat.le_succ _,λe=>absurd e (Nat.ne_of_lt (Nat.lt_succ_self _))⟩
    ·rw[ag j ay aP,bL j ay];exact qq.refl _ _
  have gm:∀ j,(H' j).body.bZ (κ' j)=true->(j=b/\(s.aa be).body.bZ (κ be)=true)\/(j≠b/\j≠be/\(s.aa j).body.bZ (κ j)=true):=λj aF=>by
   by_cases ay:j=b
   ·grind
   ·by_cases aP:j=be
    ·subst aP;rw[U]at aF;cases aF
    grind
  have h:=M.move (H':=H') (κ':=κ') (F':=F) (w':=w) ai (λ_ h=>h) (λ_ h=>.inl h) (Nat.le_refl _) (λ_ _ _=>rfl) (dd.refl w)
   (λ_ j=>by
    by_cases ay:j=b
    ·subst ay;have aT:=M.bC be;unfold cD at aT ⊢;rw[bS]at aT;rw[E,aR];exact aT
    ·by_cases aP:j=be
     ·subst aP;unfold cD;rw[U];trivial
     ·exact cD.lj (M.bC j) ai (λ_ h=>h) (c6.refl _ _) (by grind) (bL j ay) λ_=>rfl)
   (λj aF=>by
    rcases gm j aF with⟨rfl,h⟩ | ⟨ay,_,h⟩
    ·rw[aR];have:=M.an be h;grind
    ·rw[bL j ay];have:=M.an j h;grind)
   (λj kg aF fS e=>by
    rcases gm j aF with⟨rfl,h⟩ | ⟨ay,aP,h⟩<;>rcases gm kg fS with⟨rfl,dt⟩ | ⟨Tq,afY,dt⟩
    ·rfl
    ·rw[aR,bL kg Tq]at e;exact absurd (M.inj be kg h dt e).symm afY
    ·rw[aR,bL j ay]at e;exact absurd (M.inj j be h dt e) aP
    ·rw[bL j ay,bL kg Tq]at e;exact M.inj j kg h dt e)
   M.db
   (λj _ aF=>by
    by_cases ay:j=b
    ·subst ay;rw[E]at aF;rcases aF with aF | aF<;>cases aF
    ·by_cases aP:j=be
     ·subst aP;rw[U]at aF;rcases aF with aF | aF<;>cases aF
     grind)
  refine⟨κ',{ h with bT:=λj=>?_,dE:=h.dE,dfr:=h.dfr,bC:=h.bC,eL:=λl aK L n st aZ=>?_ }⟩
  ·show bz C.P _ _ F w (if j=i then .an b ((s.aa b).gen+1) else s.az j) _;split
   ·rename_i e;subst e;have ae:=M.bT j;rw[aE]at ae;have iq:=ae.2 rfl (by rw[bS];rfl);rw[bS]at iq;exact⟨⟨by grind,ae.1.2⟩,λ_ _=>by grind⟩
   ·exact h.bT j
  ·have aZ:(if b5=i then .an b ((s.aa b).gen+1) else s.az b5)=.aX l aK L n st:=aZ;split at aZ
   ·cases aZ
   ·exact h.eL l aK L n st aZ
 grind
theorem afZ{C:b9}{bs:List (Nat×b6)}{s:aB}{a:Act}{w:World}{κ:Nat->bB}{F:Nat->Prop}(M:bl C s a w κ F)(i b:Nat):∃ κ',bl C (L5 bs s i b) a w κ' F:=by
 unfold L5;split
 ·rename_i e aE _;have h:=Ms M (b:=b) (e:=e);refine⟨_,{ h with bT:=λj=>?_,dE:=h.dE,dfr:=h.dfr,bC:=h.bC,eL:=λl aK L n st aZ=>?_ }⟩
  ·show bz C.P _ _ F w (if j=i then .an b ((s.aa b).gen+1) else s.az j) _;split
   ·rename_i e;subst e;have ae:=M.bT j;rw[aE]at ae;have ae:a.tmps.getD j undef=.slice none 0 0:=ae;rw[ae];exact⟨⟨by simp[aB.cx],rfl⟩,λ_ _=>by simp[bB.slice]⟩
   ·exact h.bT j
  ·have aZ:(if b5=i then .an b ((s.aa b).gen+1) else s.az b5)=.aX l aK L n st:=aZ;split at aZ
   ·cases aZ
   ·exact h.eL l aK L n st aZ
 ·rename_i aE _;exact afX M aE
 grind
theorem af0{C:b9}{bs:List (Nat×b6)}{s:aB}{a:Act}{w:World}{κ:Nat->bB}{F:Nat->Prop}(M:bl C s a w κ F)(c j b:Nat):∃ κ',bl C (L6 bs s c j b) a w κ' F:=by
 unfold L6;split
 ·rename_i t f hc;split
  ·rename_i e au ar _;have Tr:c≠b:=λe=>by grind
   have h:=Ms M (b:=b) (e:=e);have iH:(s.cx b ⟨(s.aa b).gen+1,.bh e []⟩).aa c=s.aa c:=by simp[aB.cx,Tr]
   have aT:=h.bC c;unfold cD at aT;rw[iH,hc]at aT;obtain⟨cs,T,E,U,ag⟩:=aT;refine⟨_,h.px (w':=w) (b:=c) (x:=⟨(s.aa c).gen,.cells t λq=>if q=j then .an b ((s.aa b).gen+1) else f q⟩) (by rw[iH,hc];rfl) rfl
    (rk (by rw[iH]) (λ_=>by rw[iH,hc];rfl) (λh=>by cases h) (λh=>by cases h) (λh=>by cases h)) (λ_=>by rw[iH,hc];rfl) (λh=>by cases h) (λ_ _=>rfl) rfl (dd.refl _) λH mY ai _=>?_⟩
   refine⟨cs,T,E,U,λq bq=>⟨?_,(ag q bq).2⟩⟩;show bz C.P H _ F w (if q=j then .an b ((s.aa b).gen+1) else f q) _;split
   ·rename_i eq;subst eq;have ae:=(ag q bq).1;rw[au]at ae;have ae:cs.getD q undef=.slice none 0 0:=ae;rw[ae];have af1:H b=⟨(s.aa b).gen+1,.bh e []⟩:=by rw[mY];simp[aB.cx,Ne.symm Tr]
    exact⟨⟨by grind,rfl⟩,λ_ _=>by rw[af1];simp[bB.slice]⟩
   ·exact bz.lh ai (λ_ h=>h) (c6.refl _ _) (ag q bq).1
  grind
 grind
theorem af2{C:b9}(sh:dG){s:aB}{a:Act}{w:World}{κ:Nat->bB}{F:Nat->Prop}(M:bl C s a w κ F):∃ κ',bl C (sh.GK s) a w κ' F:=by
 have E:∀ (l:List (Nat×bY)) (s:aB) (κ:Nat->bB),bl C s a w κ F->∃ κ',bl C (GH sh.bC l s) a w κ' F:=by
  intro l;induction l with
  | nil=>intro s κ h;exact⟨κ,h⟩
  | cons p l aI=>
   intro s κ h;simp only[GH];split
   ·obtain⟨κ',dt⟩:=afZ (bs:=sh.bC) h p.1 _;exact aI _ _ dt
   grind
 have U:∀ (c:Nat) (l:List bY) (j:Nat) (s:aB) (κ:Nat->bB),bl C s a w κ F->∃ κ',bl C (GI sh.bC c l j s) a w κ' F:=by
  intro c l;induction l with
  | nil=>intro j s κ h;exact⟨κ,h⟩
  | cons t l aI=>
   intro j s κ h;simp only[GI];split
   ·obtain⟨κ',dt⟩:=af0 (bs:=sh.bC) h c j _;exact aI _ _ _ dt
   ·exact aI _ _ _ h
 have ag:∀ (l:List (Nat×b6)) (s:aB) (κ:Nat->bB),bl C s a w κ F->∃ κ',bl C (GJ sh.bC l s) a w κ' F:=by
  intro l;induction l with
  | nil=>intro s κ h;exact⟨κ,h⟩
  | cons p l aI=>
   intro s κ h;simp only[GJ];split
   ·obtain⟨κ',dt⟩:=U p.1 _ 0 s κ h;exact aI _ _ dt
   grind
 obtain⟨af3,gQ⟩:=E sh.bT s κ M;exact ag sh.bC _ _ gQ
theorem Ts:∀ (l:List (Nat×b6)) (x:pJ l) (b:Nat),(eP (hl c_ l x) b).body.ff=true->∃ q∈l,q.1=b/\q.2.S4=true
 | [],_,_,h=>by cases h
 | p::l,x,b,h=>by
  simp only[hl,eP]at h;by_cases e:b=p.1
  ·rw[if_pos e]at h;refine⟨p,by simp,e.symm,?_⟩;obtain⟨jN,t⟩:=p;cases t<;>first | rfl | cases h
  ·rw[if_neg e]at h;obtain⟨q,E,U⟩:=Ts l _ b h;grind
theorem dG.Au{C:b9}{sh:dG}{s:aB}{a:Act}{w:World}{D:sh.aj}{κ:Nat->bB}{F:Nat->Prop}(h:sh.jc s=some D)(M:bl C s a w κ F):∃ κ' F',(∀ r,F r->F' r)/\bl C (sh.st D) a w κ' F':=by
  obtain⟨κ,M⟩:=af2 sh M;unfold dG.jc at h;generalize sh.GK s=s at h M;split at h;case h_2=>cases h
  rename_i af4;simp only[Option.map_eq_some_iff]at h;obtain⟨⟨iL,bV⟩,h,rfl⟩:=h;obtain⟨F',f1,ba,ar⟩:=dG.To h M;have gm:=λb W=>ar.xW (b:=b) W;exact⟨κ, F', f1, { ba with
    dE:=ba.dE,dfr:=ba.dfr,bT:=ar.bT,bC:=ar.bC,an:=λb W=>ba.an b (gm b W),inj:=λb be W de=>ba.inj b be (gm b W) (gm be de)
    jH:=λb r M hc=>ba.jH b r M (hc.imp (λhc=>by
      have aU:=(ar.As b).2.1 hc;simp only[aB.cz];split
      · rcases zQ s.aa (s.aa b) with e | ⟨_,_,ah,_⟩ | ⟨_,_,_,ah,_⟩ | ⟨_,_,_,_,_,_,e⟩
        · grind
        · rw[ah]at aU;cases aU
        · rw[ah]at aU;cases aU
        · rw[e];rfl
      omega) (λhc=>by
      have aU:=(ar.As b).2.2.2.1 hc;simp only[aB.cz];split
      · rcases zQ s.aa (s.aa b) with e | ⟨_,_,ah,_⟩ | ⟨_,_,_,_,e⟩ | ⟨_,_,_,_,ah,_,_⟩
        · grind
        · rw[ah]at aU;cases aU
        · rw[e];rfl
        · rw[ah]at aU;cases aU
      omega))
    kx:=λb k al _ a_=>by
      obtain⟨ca,a2,_⟩:=(ar.As b).2.2.1 a_;have aC:(s.aa b).gen=0:=by
        rcases Ts sh.bC (eD c_ sh.bT iL).2 b a_ with⟨q,bq,rfl,jo⟩
        have:=List.all_eq_true.1 af4 q bq;rw[jo]at this;have Gt:=M.j_ _ k al;grind
      obtain⟨aR,aW⟩:=M.kx b k al aC ca;grind
    eL:=λl aK L n st e=>by
      obtain⟨E,U,Y,ag,a7,bN⟩:=ba.eL l aK L n st (ar.aX l aK L n st e);grind }⟩
theorem dG.xU{C:b9}{sh:dG}{s:aB}{a:Act}{w:World}{D:sh.aj}(h:sh.jc s=some D)(M:ct C s a w):ct C (sh.st D) a w:=by
 obtain⟨κ,F,M⟩:=M;obtain⟨κ',F',_,ba⟩:=dG.Au h M;exact⟨κ',F',ba⟩
end Go.Fer
namespace Go.Fer
open Go.RowKit
def af5(C:b9)(o:Oper)(s:aB)(cd:hY):Prop:=
 ∀ (a:Act) (w:World) (Q:Exit->Act->World->Prop) (K:Act->World->Prop),ct C s a w->cd.cb->A.cv cd.m (λy=>∀ a' w',ct C (cd.st y) a' w'->K a' w')->o.wpIn (dR C.r) 0 C.P a w K Q
def af6(C:b9)(o:Oper)(s:aB)(cd:hY):Prop:=
 ∀ gs,cd.Df=some gs->(∀ y a w,ct C (cd.st y) a w->ct C (gs true y) a w)/\∀ a w,ct C s a w->ct C (gs false cd.d) (a.put o.dst Go.undef) w
structure qH(C:b9)(o:Oper)(s:aB)(cd:hY):Prop where
 prog:af5 C o s cd
 ayg:af6 C o s cd
 ayh:rC (a1 C.aO s.az) o->cd.cb
theorem ct.Mt{C:b9}{s:aB}{d:Option Nat}{av av':aH}{a:Act}{w:World}(h:ct C (s.set d av) a w)
  (ar:∀ i,d=some i->i<C.nt) (ae:∀ κ F v,bz C.P s.aa κ F w av v->bz C.P s.aa κ F w av' v):ct C (s.set d av') a w:=by
 cases d with
 | none=>exact h
 | some d=>
  obtain⟨κ,F,h⟩:=h;have aw:=h.gl;have xj:=ar d rfl;have aM:b5≠d:=by unfold b5 eQ at *;omega
  refine⟨κ,F,{ h with bT:=λi=>?_,dE:=h.dE,dfr:=h.dfr,bC:=h.bC,eL:=λl aK L n st e=>h.eL l aK L n st ?_ }⟩
  ·have G:=h.bT i;simp only[aB.set]at G ⊢;grind
  ·simp only[aB.set,if_neg aM]at e ⊢;exact e
section
variable {C:b9} {T:Nat->ab} {bf:Nat->Option aN} {o:Oper} {s:aB}
theorem Dp{args:List Operand}(W:rC (a1 C.aO s.az) o)(a_:∀ x∈args,x∈o.op.operands.toList):jL (args.map (a1 C.aO s.az)):=
 C7 λv ae=>by
  simp only[List.mem_map]at ae;obtain⟨p,ao,rfl⟩:=ae;exact W p (a_ p ao)
theorem Tt(bg:∀ i,o.dst=some i->i<C.nt){aX:ab}{bV:List Nat}(lR:gO s.aa bV){d:aX.aj} :
  (∀ (y:aX.aj) a w,ct C (rF s o aX bV (rl aX y)) a w->ct C (rF s o aX bV (.hE true (rl aX y))) a w)/\∀ a w,ct C s a w->ct C (rF s o aX bV (.hE false (rl aX d))) (a.put o.dst Go.undef) w:=by
 refine⟨λy a w h=>ct.Mt h bg λκ F v ae=>⟨λ_=>ae,λh=>(by cases h)⟩,λa w h=>?_⟩;obtain⟨κ,F,M⟩:=h;obtain⟨F',_,ba,_⟩:=bl.ln lR M;unfold rF;split
 ·exact⟨κ,F,M.set bg ⟨λh=>(by cases h),λ_=>rfl⟩⟩
 ·exact⟨κ,F',ba.set bg ⟨λh=>(by cases h),λ_=>rfl⟩⟩
theorem af7(bg:∀ i,o.dst=some i->i<C.nt){k:Nat}{args:Array Operand}{dp:Array TypeId}(af:o.op=.call { callee:=.value (.func k),args:=args,argTypes:=dp }){dv:hJ}(au:h7 C.P k dv.ts dv.aX dv.sh){cd:hY}
  (h:Dg C.aO s o args.toList dv=some cd):qH C o s cd:=by
 unfold Dg at h;split at h
 ·rename_i x bV ah;cases h;refine⟨λa w Q K M bc hm=>?_,λgs oU=>?_,λW=>Dp W λx ah=>by rw[af];simp[Op.operands,Call.operands];simp_all⟩
  ·obtain⟨κ,F,M⟩:=M;exact Ss M au bg af bc ah hm.1 λy w' aS v ki=>hm.2 y aS _ _ ki
  ·cases oU;exact Tt bg (qB _ ah)
 grind
theorem af8(bg:∀ i,o.dst=some i->i<C.nt){k:Nat}{args:Array Operand}{dp:Array TypeId}(af:o.op=.call { callee:=.value (.func k),args:=args,argTypes:=dp }){dv:hJ}(au:h7 C.P k dv.ts dv.aX dv.sh)(Dq:Rz C.P k dv.ts dv.aX dv.sh){cd:hY}
  (h:GP C.aO s o args.toList dv=some cd):qH C o s cd:=by
 unfold GP at h;split at h
 ·rename_i x bV ah;cases h;refine⟨λa w Q K M bc hm=>?_,λgs oU=>(by grind),λW=>Dp W λx ah=>by rw[af];simp[Op.operands,Call.operands];simp_all⟩;obtain⟨κ,F,M⟩:=M;obtain⟨args⟩:=args;have c7:(execOp a.eval o).run C.P w=.ok (.enter k (args.map a.eval).toArray) w:=by
   simp only[execOp,af,Sem.run_bind,resolve,Act.eval,Deferred.ofValue,Sem.run_pure,Result.andThen_ok,invoke];have:=au.enter (args.map a.eval).toArray w;grind
  obtain⟨F',f1,ba,f2⟩:=bl.ln (qB _ ah) M;have dX:fp C.P dv.ts F' w (args.map a.eval) x:=by
   refine vC M.bC f1 dv.ts ah f2 (by simp) λi G dJ=>?_;simp only[List.getElem_map];have dA:i<args.length:=by grind
   have E:=sv bc i (by grind);have ay:(args.map (a1 C.aO s.az)).getD i .undef=a1 C.aO s.az args[i]:=by grind
   rw[show (List.map (a1 C.aO s.az) (⟨args⟩:Array Operand).toList)=args.map (a1 C.aO s.az) from rfl,ay]at E;exact pz (kd M args[i]) E
  refine C2 (by grind) c7 (Dq.iW F' w _ x ba.db ba.iD dX hm.1) λe w' ⟨v,y,he,aS,gp,W⟩=>⟨v,he,hm.2 y aS _ _ ⟨κ,_,(M.grow W).set bg (C0 ?_)⟩⟩
  obtain⟨aD,dh,dK,mZ⟩:=gp;exact⟨aD,dh,dK,fc _ (λr M=>.inr M) (c6.refl _ _) mZ⟩
 grind
theorem af9(bg:∀ i,o.dst=some i->i<C.nt){t:Nat}{args:Array Operand}{dp:Array TypeId}(af:o.op=.call { callee:=.value (.tmp t),args:=args,argTypes:=dp }){cd:hY}
  (h:Dh C.aO s o t args.toList=some cd):qH C o s cd:=by
 unfold Dh at h;split at h
 ·rename_i cb aK b f hu;split at h
  ·rename_i x bV ah;cases h;obtain⟨args⟩:=args;refine⟨λa w Q K M bc hm=>?_,λgs oU=>?_,λW=>⟨?_,Dp W λx ah=>by rw[af];simp[Op.operands,Call.operands];simp_all⟩⟩
   ·obtain⟨κ,F,M⟩:=M;obtain⟨F',f1,ba,f2⟩:=bl.ln (qB _ ah) M;have dX:fp C.P aK F' w (args.map a.eval) x:=by
     refine vC M.bC f1 aK ah f2 (by simp) λi G dJ=>?_;simp only[List.getElem_map];have dA:i<args.length:=by grind
     have E:=sv bc.2 i (by grind);have ay:(args.map (a1 C.aO s.az)).getD i .undef=a1 C.aO s.az args[i]:=by grind
     rw[show (List.map (a1 C.aO s.az) (⟨args⟩:Array Operand).toList)=args.map (a1 C.aO s.az) from rfl,ay]at E;exact pz (kd M args[i]) E
    have G_:bz C.P s.aa κ F w (use (a1 C.aO s.az (.tmp t))).2 (a.eval (.tmp t)):=cN M (.tmp t) hu bc.1 |> λh=>by
     have e:use (a1 C.aO s.az (.tmp t))=(cb,.val (.fn aK b) f):=hu;grind
    have e:use (a1 C.aO s.az (.tmp t))=(cb,.val (.fn aK b) f):=hu;rw[e]at G_;obtain⟨_,u,xX,_,tO⟩:=(dU rfl).1 G_;have xX:a.eval (.tmp t)=u:=(List.cons.inj xX).1;obtain⟨g,c1,aC,sO,Mu⟩:=tO F' w f1 (c6.refl _ _) ba.db ba.iD (args.map a.eval) x dX.1 dX.2 hm.1;have c7:(execOp a.eval o).run C.P w=.ok (.enter g ((args.map a.eval).toArray++c1)) w:=by
     have ae:a.eval (.tmp t)=.func (.func g) #[] c1:=xX.trans aC;simp only[execOp,af,Sem.run_bind,resolve,ae,Deferred.ofValue,Sem.run_pure,Result.andThen_ok,invoke];grind
    refine C2 (by grind) c7 Mu λe w' ⟨v,y,aD,he,aS,E,U,ag,W⟩=>⟨v,he,hm.2 y aS _ _ ?_⟩
    have gp:tR C.P b (vk F' w w') w' v y:=⟨aD,E,U,ag⟩
    unfold rF;by_cases ao:b.pure=true
    ·rw[if_pos ao];have aC:=M.grow W;refine⟨κ,_,aC.set bg (C0 ?_)⟩;exact⟨aD,E,Sq ao ⟨U,ag⟩⟩
    ·rw[if_neg ao];have aC:=ba.grow W;exact⟨κ,_,aC.set bg (C0 gp)⟩
   ·cases oU;exact Tt bg (qB _ ah)
   ·have:=W (.tmp t) (by rw[af];simp[Op.operands,Call.operands]);have e:use (a1 C.aO s.az (.tmp t))=(cb,.val (.fn aK b) f):=hu;grind
  grind
 grind
theorem af_(aV:dS C.P T)(bg:∀ i,o.dst=some i->i<C.nt){ty:TypeId}{x:Operand}(af:o.op=.range ty x){cd:hY}(h:GU C.aO T s o ty x=some cd):qH C o s cd:=by
 unfold GU at h;split at h
 ·rename_i k v d aM ar;split at h;rename_i cb av hu;split at h
  ·rename_i es bV pC;split at h
   ·cases h
   ·rename_i uf;cases h;have uf:d ∉ bV:=by grind
    obtain⟨i,j,G,_,_⟩:=(aV.cc aM (by simp)).mp;refine⟨λa w Q K M bc hm=>?_,λgs oU=>(by grind),λW=>rC.use W (by rw[af];simp[Op.operands]) hu⟩;obtain⟨κ,F,M⟩:=M;obtain⟨F',f1,ba,f2⟩:=bl.ln (mX pC) M;have ae:=cN M x hu bc;have nZ:=((dU rfl).1 (mv M.bC f1 pC f2 ae)).2;have iN:=hm.2 () rfl;have pF:(s.cz bV).aa d=s.aa d:=by simp only[aB.cz];grind
    have fin:∀ (cr:Obj),(∀ w',w'=w.alloc cr->xh C.P k v F' w' w.heap.size none es)->(execOp a.eval o).run C.P w=.ok (.value (.pointer (some ⟨w.heap.size,0,none⟩))) (w.alloc cr)->o.wpIn (dR C.r) 0 C.P a w K Q:=by
     intro cr hit c7;have E:=ba.alloc (b:=d) (x:=⟨(s.aa d).gen+1,.cr k v none es⟩) (M.gq (bg d ar)) (by grind) (o:=cr) (k:=⟨w.heap.size,0,0,false⟩) rfl λH κ' _ _ _=>hit _ rfl;refine hy (by grind) c7 (iN _ _ ⟨_,F',bl.set (s:=(s.cz bV).cx d _) E bg ⟨⟨by simp[aB.cx],rfl⟩,λ_ _=>by simp⟩⟩)
    rcases nZ with⟨ay,rfl⟩ | ⟨r,ms,clk,ay,m1,m2,m3,m4,m5,m6⟩
    ·have ah:a.eval x=.map none:=(List.cons.inj ay).1;refine fin (.mapIter none 0 #[] 0) (λw' hw=>.inl ⟨by rw[hw];exact qt _ _,rfl,rfl⟩) ?_;simp[execOp,af,Instr.range,dB G,ah]
    ·have ah:a.eval x=.map (some r):=(List.cons.inj ay).1;refine fin (.mapIter (some r) clk #[] clk) (λw' hw=>.inr ⟨r,ms,clk,#[],m1,?_,by rw[hw];exact qt _ _,λi G=>(m5 i (by omega) G).2.2.2.2,m6,?_,λc hc=>by cases hc⟩) ?_
     ·rw[hw,pw _ _ (ba.db r m1)];exact m2
     ·refine⟨List.range ms.size,by grind,List.nodup_range,λi=>by simp,λj aF fS=>?_⟩;have xz:j<ms.size:=by omega
      obtain⟨aR,aW,bL,fA,_⟩:=m5 j fS xz;refine⟨by grind,?_⟩;simp only[List.getElem_range];have he:c6 F' w w':=by rw[hw];exact c6.alloc ba.db _
      exact zv.mono ⟨aR,aW,bL,fA⟩ (λ_ h=>h) he
     ·have eU:(getObj r).run C.P w=.ok (.map ms clk) w:=by simp[getObj,Sem.run,m2]
      simp[execOp,af,Instr.range,dB G,ah,eU]
  grind
 grind
theorem af'(bg:∀ i,o.dst=some i->i<C.nt){x:Operand}(af:o.op=.entry x){cd:hY}(h:GX C.aO s o x=some cd):qH C o s cd:=by
 unfold GX at h;split at h
 ·rename_i b g ah;split at h
  ·rename_i aC;split at h
   ·rename_i k v c cm W;cases h;refine⟨λa w Q K M _ hm=>?_,λgs oU=>(by grind),λ_=>trivial⟩;obtain⟨κ,F,M⟩:=M;have ae:=kd M x;rw[ah]at ae;have ae:=ae.2 aC.symm (by rw[W];rfl);have aT:=M.bC b;unfold cD at aT;rw[W]at aT;have fj:=A.kS.1 hm;have iN:=A.d'.1 fj.2;obtain⟨c',jO⟩:=Option.isSome_iff_exists.1 fj.1;subst jO;rcases aT with⟨_,_,e⟩ | ⟨lM,es,clk,seen,E,U,ag,a7,bN,_,gL⟩
    ·cases e
    ·obtain⟨i,G,aE,he⟩:=gL c' rfl;have vD:es.find? (λe=>e.born == es[i].born)=some es[i]:=by
      rw[<-Array.find?_toList];have jS:es[i]∈es.toList:=by simp
      cases au:es.toList.find? (λe=>e.born == es[i].born) with
      | none=>grind
      | some e=>
       have iV:=List.find?_some au;have qn:=List.mem_of_find?_eq_some au;obtain⟨j,aF,rfl⟩:=List.mem_iff_getElem.1 qn;grind
     have Dr:(getObj (κ b).aa).run C.P w=.ok (.mapIter (some lM) clk seen clk) w:=by simp[getObj,Sem.run,ag]
     have xC:(getObj lM).run C.P w=.ok (.map es clk) w:=by simp[getObj,Sem.run,U]
     have c7:(execOp a.eval o).run C.P w=.ok (.value (.tuple #[es[i].key,es[i].val])) w:=by
      simp[execOp,af,Instr.entry,ae,Dr,xC,aE,vD]
     refine hy (by grind) c7 (iN _ _ ⟨κ,F,M.set bg ⟨[es[i].key,es[i].val],rfl,rfl,λn aw=>?_⟩⟩);match n,aw with
     | 0,_=>exact⟨he.1,he.2.1⟩
     | 1,_=>exact⟨he.2.2.1,he.2.2.2⟩
   grind
  grind
 grind
theorem aga{es:Array MapEntry}{seen:Array Nat}{clk:Nat}(a7:∀ i (h:i<es.size),es[i].born<clk) :
  (es.filter λe=>!seen.contains e.born).filter (λe=>decide (e.born<clk))=(es.filter λe=>!seen.contains e.born)/\(es.filter λe=>!seen.contains e.born).filter (λe=>decide (e.born>=clk))=#[]:=by
 have fG:∀ e∈es.filter λe=>!seen.contains e.born,e.born<clk:=by
  intro e he;have:=(Array.mem_filter.1 he).1;obtain⟨i,G,rfl⟩:=Array.mem_iff_getElem.1 this;grind
 constructor
 ·exact Array.filter_eq_self.2 λe he=>by grind
 ·exact Array.filter_eq_empty_iff.2 λe he=>by grind
theorem agb(P:Program)(w:World)(n:Nat):∃ j w',(choose (.mapNext n)).run P w=.ok j w'/\(0<n->j<n)/\(w'=w\/w'=w.drew):=by
 rw[run_choose];by_cases h:n<=1
 ·have:(Question.mapNext n).forced=true:=by simp[Question.forced,h]
  rw[this];grind
 ·have:(Question.mapNext n).forced=false:=by simp[Question.forced];omega
  rw[this];exact⟨_,_,rfl,λaw=>Nat.mod_lt _ aw,.inr rfl⟩
theorem agc(bg:∀ i,o.dst=some i->i<C.nt){x:Operand}{str:Bool}(af:o.op=.next x str){cd:hY}(h:GW C.aO s o x str=some cd):qH C o s cd:=by
  unfold GW at h;split at h
  · rename_i b g ah
    split at h
    · rename_i aC
      split at h
      · rename_i k v c cm W
        cases h
        refine⟨λa w Q K M _ hm=>?_,λgs oU=>(by grind),λ_=>trivial⟩
        obtain⟨κ,F,M⟩:=M
        have ae:=kd M x
        rw[ah]at ae
        have ae:=ae.2 aC.symm (by rw[W];rfl)
        have aT:=M.bC b
        unfold cD at aT
        rw[W]at aT
        have ar:∀ c,o.op≠.defer c:=by grind
        have gh:∀ w',(w'=w\/w'=w.drew)->cm=[]->(execOp a.eval o).run C.P w=.ok (.value (.tuple #[.bool false])) w'->o.wpIn (dR C.r) 0 C.P a w K Q:=by
          intro w' Ds sP c7;have cM:bl C s a w' κ F:=by
            rcases Ds with rfl | rfl
            · exact M
            · exact M.drew
          have Sm:s.cx b ⟨g,.cr k v c cm⟩=s:=by
            unfold aB.cx;congr 1;funext i;by_cases G:i=b
            · rw[if_pos G,G,<-W,<-aC]
            grind
          refine hy ar c7 (hm.2 none sP _ _ ⟨κ,F,bl.set (s:=s.cx b ⟨g,.cr k v c cm⟩) (by grind) bg ⟨[.bool false],rfl,rfl,λn aw=>?_⟩⟩);have:n=0:=by simp only[Tb]at aw;omega
          subst this;exact fe.2 rfl
        rcases aT with⟨E,U,_⟩ | ⟨lM,es,clk,seen,E,U,ag,a7,bN,⟨ids,i1,i2,i3,i4⟩,gL⟩
        · refine gh w (.inl rfl) U ?_
          have Dr:(getObj (κ b).aa).run C.P w=.ok (.mapIter none 0 #[] 0) w:=by simp[getObj,Sem.run,E]
          simp[execOp,af,Instr.next,ae,Dr]
        · have Dr:(getObj (κ b).aa).run C.P w=.ok (.mapIter (some lM) clk seen clk) w:=by simp[getObj,Sem.run,ag]
          have xC:(getObj lM).run C.P w=.ok (.map es clk) w:=by simp[getObj,Sem.run,U]
          obtain⟨f1,f2⟩:=aga (seen:=seen) a7
          have fG:(!seen.isEmpty&&!es.isEmpty&&es.all (λe=>decide (e.born>=clk)))=false:=by
            by_cases he:es.size=0
            · grind
            · have:es.all (λe=>decide (e.born>=clk))=false:=by
                rw[Array.all_eq_false];exact⟨0,by omega,by grind⟩
              grind
          generalize agd:(es.filter λe=>!seen.contains e.born)=left at f1 f2
          have age:((if left.isEmpty=true then #[none] else #[])++Array.map some (left++(#[]:Array MapEntry)))=(if left.isEmpty=true then #[none] else Array.map some left):=by
            grind
          obtain⟨j,w',bD,c2,c3⟩:=agb C.P w (if left.isEmpty=true then #[none] else Array.map some left).size
          have cU:w'.heap=w.heap:=by rcases c3 with rfl | rfl<;>rfl
          have Av : ∀ r c8, (match (if left.isEmpty = true then #[none] else Array.map some left)[j]? with
                | some (some e)=>(do setObj (κ b).aa (.mapIter (some lM) clk (seen.push e.born) clk);pure (.tuple #[.bool true,e.key,e.val]):Sem Value)
                | some none=>pure (.tuple #[.bool false])
                | none => stuck "Next: no such candidate").run C.P w' = .ok r c8 -> (execOp a.eval o).run C.P w = .ok (.value r) c8 := by
            intro r c8 cM;simp only[execOp,af,Instr.next,ae,Sem.run_bind,Dr,Result.andThen_ok,xC,fG,Bool.false_eq_true,if_false,agd,f1,f2,age,bD];exact (congrArg (λ(z:Result Value)=>z.andThen λv w'=>Sem.run C.P (Pure.pure (Next.value v)) w') cM).trans rfl
          by_cases hle:left.isEmpty=true
          · have K':left=#[]:=by grind
            have sP:cm=[]:=by
              have:ids=[]:=List.eq_nil_iff_forall_not_mem.2 λi G=>by
                obtain⟨Mv,dA⟩:=(i3 i).1 G;have:es[i]∈left:=by
                  grind
                grind
              grind
            rw[hle]at Av c2
            simp only[if_true]at Av c2
            have aF:j=0:=by grind
            subst aF
            exact gh w' c3 sP (Av _ _ rfl)
          · have hle:left.isEmpty=false:=by grind
            rw[hle]at Av c2
            simp only[Bool.false_eq_true,if_false]at Av c2
            have ayi:0<left.size:=by
              grind
            have aF:j<left.size:=by grind
            have jS:left[j]∈(es.filter λe=>!seen.contains e.born):=by grind
            obtain⟨uh,Tu⟩:=Array.mem_filter.1 jS
            obtain⟨i0,oP,agf⟩:=Array.mem_iff_getElem.1 uh
            have agh:i0∈ids:=(i3 i0).2 ⟨oP,by grind⟩
            obtain⟨q,bq,Mw⟩:=List.mem_iff_getElem.1 agh
            have Mx:q<cm.length:=by omega
            have pD:(setObj (κ b).aa (.mapIter (some lM) clk (seen.push left[j].born) clk)).run C.P w'=.ok () { w' with heap:=w'.heap.setIfInBounds (κ b).aa (.mapIter (some lM) clk (seen.push left[j].born) clk) }:=by
              simp[setObj,Sem.run,cU,ag]
            have c7:=Av (.tuple #[.bool true,left[j].key,left[j].val]) { w' with heap:=w'.heap.setIfInBounds (κ b).aa (.mapIter (some lM) clk (seen.push left[j].born) clk) } (by
              rw[show (Array.map some left)[j]?=some (some left[j]) by simp];simp only[Sem.run_bind,pD,Result.andThen_ok,Sem.run_pure])
            have ja:dd w w':=by rcases c3 with rfl | rfl<;>exact⟨rfl,rfl,rfl⟩
            have ck:(κ b).aa<w.heap.size:=(Array.getElem?_eq_some_iff.1 ag).1
            have eC:lM≠(κ b).aa:=λe=>(M.an b (by grind)).2.1 (e ▸ E)
            have gr:fq s.aa κ (λi=>if i=b then (⟨g,.cr k v cm[q]? (cm.eraseIdx q)⟩:bK) else s.aa i) κ:=
              rk aC.symm (λh=>by cases h) (λh=>by cases h) (λh=>by cases h) (λ_=>by rw[W];rfl)
            have gY:=M.px (b:=b) (x:=⟨g,.cr k v cm[q]? (cm.eraseIdx q)⟩) (w':={ w' with heap:=w'.heap.setIfInBounds (κ b).aa (.mapIter (some lM) clk (seen.push left[j].born) clk) }) (by rw[W];rfl) rfl gr (λh=>by cases h) (λh=>by cases h)
              (λr Lp=>by grind) (by grind) ⟨ja.os,ja.tape,ja.output⟩ λH _ _ he=>by
                refine .inr ⟨lM,es,clk,seen.push left[j].born,E,?_,by grind,a7,bN,⟨ids.eraseIdx q,?_,?_,λi=>?_,λn aw C6=>?_⟩,λc' jO=>?_⟩
                · grind
                · grind
                · grind
                · rw[List.mem_eraseIdx_iff_getElem]
                  constructor
                  · rintro⟨n,aw,G',rfl⟩
                    obtain⟨l1,pO⟩:=(i3 ids[n]).1 (by simp)
                    refine⟨l1,?_⟩
                    simp only[Array.contains_push,Bool.or_eq_false_iff]
                    refine⟨pO,?_⟩
                    rw[<-agf]
                    simp only[beq_eq_false_iff_ne,ne_eq]
                    intro e
                    have:ids[n]=i0:=bN _ _ l1 oP (by omega)
                    exact G' ((List.getElem?_inj aw i2).1 (by grind))
                  · rintro⟨l1,pO⟩
                    simp only[Array.contains_push,Bool.or_eq_false_iff]at pO
                    obtain⟨n,aw,rfl⟩:=List.mem_iff_getElem.1 ((i3 i).2 ⟨l1,pO.1⟩)
                    grind
                · have vM:(ids.eraseIdx q)[n]=if h:n<q then ids[n]'(by omega) else ids[n+1]'(by grind):=by
                    rw[List.getElem_eraseIdx]
                  have Tv:(cm.eraseIdx q)[n]=if h:n<q then cm[n]'(by omega) else cm[n+1]'(by grind):=by
                    rw[List.getElem_eraseIdx]
                  have hlen:n+1<ids.length:=by grind
                  by_cases G':n<q
                  · obtain⟨l1,pO⟩:=i4 n (by omega) (by omega)
                    simp only[vM,Tv,G',dif_pos]
                    exact⟨l1,pO.mono (λ_ h=>h) he⟩
                  · obtain⟨l1,pO⟩:=i4 (n+1) hlen (by omega)
                    simp only[vM,Tv,G',dif_neg,not_false_eq_true]
                    exact⟨l1,pO.mono (λ_ h=>h) he⟩
                · rw[List.getElem?_eq_getElem Mx]at jO
                  cases jO
                  obtain⟨l1,pO⟩:=i4 q bq Mx
                  refine⟨i0,oP,by grind,?_⟩
                  have ay:es[ids[q]]=es[i0]:=by congr 1
                  rw[ay]at pO
                  exact pO.mono (λ_ h=>h) he
            refine hy ar c7 (hm.2 (some q) Mx _ _ ⟨κ,F,bl.set (s:=s.cx b _) gY bg ⟨[.bool true,left[j].key,left[j].val],rfl,rfl,λn aw=>?_⟩⟩)
            match n,aw with
            | 0,_=>exact fe.2 rfl
            | 1,_=>trivial
            | 2,_=>trivial
      grind
    grind
  grind
end
end Go.Fer
namespace Go.Fer
open Go.RowKit
def Dt:z9'->List Value->List Value->Prop
 | [],[],aD=>aD=[]
 | none::g,u::us,aD=>∃ sj,aD=u::sj/\Dt g us sj
 | some n::g,u::us,aD=>∃ cs sj,u=.agg cs/\cs.size=n/\(∀ c∈cs.toList,c.oneCell'=true)/\aD=cs.toList++sj/\Dt g us sj
 | _,_,_=>False
def Ha(g:z9')(v:Value)(aD:List Value):Prop:=∃ us:List Value,us.length=g.length/\v=(if us.length=1 then us.getD 0 undef else .tuple us.toArray)/\Dt g us aD
structure cR(P:Program)(aQ:dD)(k:FuncId)(c:cK):Prop where
 enter:∀ args w,(callFunc k args).run P w=.ok (.enter k args) w
 iW:∀ (C:b9) (a:Act) (w:World) (κ:Nat->bB) (F:Nat->Prop) (D:c.cn.aj),C.P=P->C.w0=w->C.r=none->C.dfr=[]->C.nt=c.kl->C.aO=aQ->bl C (c.cn.st D) a w κ F->(c.sh D).b2->
  Calls P k a.tmps w λe w'=>∃ v bm aD κ' F',e=.returned v/\(c.sh D).bR bm/\Ha c.kI v aD/\bl { C with nt:=aD.length } (c.bR.st bm) { tmps:=aD.toArray,defers:=[] } w' κ' F'
section
variable {P:Program} {H H':Nat->bK} {κ κ':Nat->bB} {F:Nat->Prop} {w:World} {g:Nat->Nat×Nat}
def pP(H H':Nat->bK)(κ κ':Nat->bB)(g:Nat->Nat×Nat):Prop:=∀ b,(H b).gen=0/\qq ⟨(g b).2,(H b).body⟩ (H' (g b).1) (κ b) (κ' (g b).1)
theorem pP.bd(h:pP H H' κ κ' g){b off:Nat}{v:Value}(ae:bz P H κ F w (.bd b 0 off) v):bz P H' κ' F w (.bd (g b).1 (g b).2 off) v:=by
 obtain⟨aU,aR,aW⟩:=h b;refine⟨⟨aR,ae.1.2⟩,λaC hc=>?_⟩;obtain⟨bD,c2⟩:=(aW aC).1 hc;rw[c2];exact ae.2 aU.symm bD
theorem pP.av(h:pP H H' κ κ' g)(t:bY){R:Type}(z:t.cons R){v:Value}(ae:bz P H κ F w (t.av c_ z).1 v):bz P H' κ' F w (t.av g z).1 v:=by
 cases t with
 | undef=>trivial
 | val t=>exact ae
 | dV t=>exact ae
 | bd b off=>exact h.bd ae
 | an b=>
  obtain⟨aU,aR,aW⟩:=h b;refine⟨⟨aR,ae.1.2⟩,λaC hc=>?_⟩;obtain⟨bD,c2,c3,c4⟩:=(aW aC).2.1 hc;rw[c2,c3];exact ae.2 aU.symm bD
 | sub b=>
  obtain⟨aU,aR,aW⟩:=h b;refine⟨⟨aR,ae.1.2⟩,λaC hc=>?_⟩;obtain⟨bD,c2,c3,c4⟩:=(aW aC).2.1 hc;rw[c2,c3,c4];exact ae.2 aU.symm bD
 | fH b=>
  obtain⟨aU,aR,aW⟩:=h b;refine⟨⟨aR,ae.1.2⟩,λaC hc=>?_⟩;obtain⟨bD,c2⟩:=(aW aC).2.2.1 hc;rw[c2];exact ae.2 aU.symm bD
 | j9 b=>
  obtain⟨aU,aR,aW⟩:=h b;refine⟨⟨aR,ae.1.2⟩,λaC hc=>?_⟩;obtain⟨bD,c2⟩:=(aW aC).2.2.2 hc;rw[c2];exact ae.2 aU.symm bD
 | dn=>exact ae
 | iC k fV=>
  obtain⟨aD,E,U,ag⟩:=ae;refine⟨aD,E,U,λi G=>?_⟩;have:=ag i G;have ay:vH c_ fV i=.bd fV[i].1 0 fV[i].2:=by simp[vH,hj,List.getD_eq_getElem?_getD,G,c_]
  have aP:vH g fV i=.bd (g fV[i].1).1 (g fV[i].1).2 fV[i].2:=by simp[vH,hj,List.getD_eq_getElem?_getD,G]
  rw[ay]at this;rw[aP];exact h.bd this
 | hI bs=>
  obtain⟨aD,E,U,ag⟩:=ae;refine⟨aD,E,U,λi G=>?_⟩;obtain⟨this,jO⟩:=ag i G;refine⟨?_,jO⟩;have ay:vI c_ bs i=.an bs[i] 0:=by simp[vI,hj,List.getD_eq_getElem?_getD,G,c_]
  have aP:vI g bs i=.an (g bs[i]).1 (g bs[i]).2:=by simp[vI,hj,List.getD_eq_getElem?_getD,G]
  rw[ay]at this;rw[aP];obtain⟨aU,aR,aW⟩:=h bs[i];refine⟨⟨aR,this.1.2⟩,λaC hc=>?_⟩;obtain⟨bD,c2,c3,c4⟩:=(aW aC).2.1 hc;rw[c2,c3];exact this.2 aU.symm bD
 | iX b=>
  obtain⟨aU,aR,aW⟩:=h b;refine⟨⟨aR,ae.1.2⟩,λaC hc=>?_⟩;obtain⟨bD,c2,c3,c4⟩:=(aW aC).2.1 hc;rw[c2,c3,c4];exact ae.2 aU.symm bD
 | aX aK=>trivial
 | hh=>exact ae
theorem Aw(t:bY){R:Type}(z:t.cons R):(t.av g z).2=(t.av c_ z).2:=by cases t<;>rfl
theorem Tw:∀ (ts:List bY) {R:Type} (z:qE ts R),(pK g ts z).2=(pK c_ ts z).2
 | [],_,_=>rfl
 | t::ts,_,z=>by simp only[pK];rw[Aw (g:=g) t z];exact Tw ts _
theorem Tx(t:b6){R:Type}(z:t.cons R):(t.body g z).2=(t.body c_ z).2:=by
 cases t with
 | cells t l=>exact Tw l z
 | gj e t=>exact Aw t z.2
 | _=>rfl
theorem My:∀ (ts:List (Nat×bY)) {R:Type} (z:oQ ts R),(eD g ts z).2=(eD c_ ts z).2
 | [],_,_=>rfl
 | p::ts,_,z=>by simp only[eD];rw[Aw (g:=g) p.2 z];exact My ts _
theorem pP.avs(h:pP H H' κ κ' g):∀ (ts:List bY) {R:Type} (z:qE ts R) (i:Nat) {v:Value},bz P H κ F w ((pK c_ ts z).1.getD i .undef) v->bz P H' κ' F w ((pK g ts z).1.getD i .undef) v
 | [],_,_,i,v,_=>by simp[pK,bz]
 | t::ts,_,z,i,v,ae=>by
  simp only[pK]at ae ⊢;cases i with
  | zero=>exact h.av t z ae
  | succ i=>
   simp only[List.getD_cons_succ]at ae ⊢;rw[Aw (g:=g) t z];exact h.avs ts _ i ae
theorem pP.bT(h:pP H H' κ κ' g):∀ (ts:List (Nat×bY)) {R:Type} (z:oQ ts R) (i:Nat) {v:Value},bz P H κ F w (fr (eD c_ ts z).1 i) v->bz P H' κ' F w (fr (eD g ts z).1 i) v
 | [],_,_,i,v,_=>by simp[eD,fr,bz]
 | p::ts,_,z,i,v,ae=>by
  simp only[eD,fr]at ae ⊢;by_cases e:i=p.1
  ·rw[if_pos e]at ae ⊢;exact h.av p.2 z ae
  ·rw[if_neg e]at ae ⊢;rw[Aw (g:=g) p.2 z];exact h.bT ts _ i ae
theorem Ty:∀ (ts:List (Nat×bY)) {R:Type} (z:oQ ts R) (i:Nat) {l aK L n st},fr (eD g ts z).1 i=.aX l aK L n st->fr (eD c_ ts z).1 i=.aX l aK L n st
 | [],_,_,i,_,_,_,_,_,h=>by simp[eD,fr]at h
 | p::ts,_,z,i,l,aK,L,n,st,h=>by
  simp only[eD,fr]at h ⊢;by_cases e:i=p.1
  ·rw[if_pos e]at h ⊢;obtain⟨jN,t⟩:=p;cases t<;>first | exact h | cases h
  ·rw[if_neg e]at h ⊢;rw[Aw (g:=g) p.2 z]at h;exact Ty ts _ i h
def xY(x y:bQ):Prop:=x.fI=y.fI/\x.ff=y.ff/\x.len=y.len/\x.e0=y.e0/\x.gX=y.gX/\x.mS=y.mS/\∀ k,x.bZ k=y.bZ k
theorem xY.refl(x:bQ):xY x x:=⟨rfl,rfl,rfl,rfl,rfl,rfl,λ_=>rfl⟩
theorem agi(t:b6){R:Type}(z:t.cons R):xY (t.body g z).1 (t.body c_ z).1:=by
 cases t with
 | cells t l=>exact⟨rfl,rfl,rfl,rfl,rfl,rfl,λ_=>rfl⟩
 | gj e t=>exact⟨rfl,rfl,rfl,rfl,rfl,rfl,λ_=>rfl⟩
 | _=>exact xY.refl _
theorem agj:∀ (t:ab) (x:t.aj) (av:aH),av∈nU t x->∀ {v:Value},bz P H κ F w av v->bz P H' κ' F w av v:=by
  intro t;induction t with
  | cT=>intro x av h;cases h
  | st t aI=>intro x av h;exact aI x av h
  | aA a b fx eK=>
   intro x av h;rcases List.mem_append.1 h with h | h
   ·exact fx _ av h
   ·exact eK _ av h
  | array n e aI=>
   intro x av h;simp only[nU,List.mem_flatMap]at h;grind
  | _=>
   intro x av h v ae;simp only[nU,List.mem_singleton]at h;subst h;exact ae
theorem pP.body(h:pP H H' κ κ' g)(t:b6){R:Type}(z:t.cons R){k:bB}(W:jG P H κ F w k (t.body c_ z).1):jG P H' κ' F w k (t.body g z).1:=by
 cases t with
 | cells t l=>
  obtain⟨cs,T,E,U,ag⟩:=W;exact⟨cs,T,E,U,λi G=>⟨h.avs l z i (ag i G).1,(ag i G).2⟩⟩
 | f' t=>
  obtain⟨cs,T,E,U,ag⟩:=W;refine⟨cs,T,E,U,λi G=>⟨?_,(ag i G).2⟩⟩;have:=(ag i G).1;unfold hj at this ⊢;rw[List.getD_eq_getElem?_getD]at this ⊢;cases ai:(nU t z.1)[i]? with
  | none=>trivial
  | some av=>
   rw[ai]at this;simp only[Option.getD_some]at this ⊢;have jS:=List.mem_of_getElem? ai;exact agj t z.1 av jS this
 | bh e=>exact W
 | hF e=>exact W
 | mp k v=>exact W
 | jl k v=>exact W
 | gM t=>exact W
 | cr k v=>exact W
 | gj e t=>
  obtain⟨aU,cs,T,E,U,ag,a7,bN,du,gL,iV⟩:=W;exact⟨aU,cs,T,E,U,ag,a7,bN,du,h.av t z.2 gL,iV⟩
theorem Tz{l:List (Nat×b6)}{x y:pJ l}(h:x=y)(g:Nat->Nat×Nat)(b:Nat):eP (hl g l x) b=eP (hl g l y) b:=by rw[h]
theorem TA:∀ (l:List (Nat×b6)) (x:pJ l) (b:Nat),xY (eP (hl g l x) b).body (eP (hl c_ l x) b).body
 | [],_,_=>xY.refl _
 | p::l,x,b=>by
  simp only[hl,eP];split
  ·exact agi p.2 x
  ·rw[Tx (g:=g) p.2 x];exact TA l _ b
theorem pP.bC(h:pP H H' κ κ' g):∀ (l:List (Nat×b6)) (x:pJ l) (b:Nat) {k:bB},jG P H κ F w k (eP (hl c_ l x) b).body->jG P H' κ' F w k (eP (hl g l x) b).body
 | [],_,_,k,_=>trivial
 | p::l,x,b,k,W=>by
  simp only[hl,eP]at W ⊢;split
  ·rename_i e;rw[if_pos e]at W;exact h.body p.2 x W
  ·rename_i e;rw[if_neg e]at W;rw[Tx (g:=g) p.2 x];exact h.bC l _ b W
theorem Mz:∀ (l:List (Nat×bQ)) (b:Nat),(eP l b).gen=0
 | [],_=>rfl
 | p::l,b=>by
  simp only[eP];split
  ·rfl
  ·exact Mz l b
end
end Go.Fer
namespace Go.Fer
open Go.RowKit
theorem Hb{ak:Type}{k:ak->Nat}:∀ {l:List ak},(l.map k).Nodup->∀ {p:ak},p∈l->l.find? (λq=>k q == k p)=some p
 | [],_,_,h=>by cases h
 | a::l,aw,p,h=>by
  simp only[List.map_cons,List.nodup_cons]at aw;by_cases e:k a=k p
  ·grind
  ·rw[List.find?_cons_of_neg (by grind)];rcases List.mem_cons.1 h with rfl | h
   ·omega
   ·exact Hb aw.2 h
theorem Du{ak:Type}{k:ak->Nat}{l:List ak}(aw:(l.map k).Nodup){p q:ak}(ao:p∈l)(bq:q∈l)(e:k p=k q):p=q:=by
 have E:=Hb aw ao;rw[e,Hb aw bq]at E;grind
theorem TB:∀ {l:z6'},(l.map (·.1)).Nodup->∀ {p},p∈l->hZ l p.1=p.2
 | [],_,_,h=>by cases h
 | a::l,aw,p,h=>by
  simp only[List.map_cons,List.nodup_cons]at aw;simp only[hZ];by_cases e:p.1=a.1
  ·grind
  ·rw[if_neg e];rcases List.mem_cons.1 h with rfl | h
   ·omega
   ·exact TB aw.2 h
theorem TC:∀ {l:z6'} {b:Nat},b ∉ l.map (·.1)->hZ l b=(nh,0)
 | [],_,_=>rfl
 | a::l,b,h=>by
  simp only[List.map_cons,List.mem_cons,not_or]at h;simp only[hZ];rw[if_neg h.1];exact TC h.2
theorem TD(s:aB)(d:Nat)(f:Nat->Nat)(ins:List Nat):∀ (l:List (Nat×b6)) (j:Nat),(sI s d f ins l j).map (·.1)=l.map (·.1)
 | [],_=>rfl
 | p::l,j=>by
  simp only[sI,List.map_cons,TD s d f ins l (j+1)];grind
theorem TE(s:aB)(d:Nat)(f:Nat->Nat)(ins:List Nat):∀ (l:List (Nat×b6)) (j:Nat) {p:Nat×(Nat×Nat)},p∈sI s d f ins l j->
  (p.1∈ins/\p.2.1=f p.1/\∃ t,(p.1,t)∈l/\((p.2.2=(s.aa (f p.1)).gen/\((∀ (g:Nat->Nat×Nat) (R:Type) (z:t.cons R),(t.body g z).1.ff=false)\/(xi<=p.1/\∃ e,t=.bh e)))\/p.2.2=(s.aa (f p.1)).gen+1))\/
  (p.1 ∉ ins/\p.2.2=(s.aa p.2.1).gen+1/\50000+10*d+j<=p.2.1/\p.2.1<50000+10*d+j+l.length)
 | [],_,p,h=>by cases h
 | q::l,j,p,h=>by
  simp only[sI,List.mem_cons]at h;rcases h with h | h
  ·by_cases bq:ins.contains q.1=true
   ·rw[if_pos bq]at h;subst h;refine .inl ⟨by grind,rfl,q.2,by simp,?_⟩;obtain⟨dh,t⟩:=q;cases t with
    | bh e=>
     grind
    | _=>first | exact .inr rfl | exact .inl ⟨rfl,.inl λ_ _ _=>rfl⟩
   grind
  ·rcases TE s d f ins l (j+1) h with⟨E,U,t,ag,a7⟩ | ⟨E,U,ag,a7⟩
   ·exact .inl ⟨E,U,t,List.mem_cons_of_mem _ ag,a7⟩
   ·exact .inr ⟨E,U,by omega,by simp only[List.length_cons];omega⟩
theorem Hc(g:Nat->Nat×Nat):∀ (l:List (Nat×b6)) (x:pJ l) (b:Nat),(eP (hl g l x) b=⟨0,.fy⟩/\b ∉ l.map (·.1))\/∃ q∈l,q.1=b/\∃ (R:Type) (z:q.2.cons R),eP (hl g l x) b=⟨0,(q.2.body g z).1⟩
 | [],_,_=>.inl ⟨rfl,by simp⟩
 | p::l,x,b=>by
  simp only[hl,eP];by_cases e:b=p.1
  ·grind
  ·rw[if_neg e];rcases Hc g l (p.2.body g x).2 b with⟨E,U⟩ | ⟨q,E,U⟩
   ·exact .inl ⟨E,by rw[List.map_cons,List.mem_cons,not_or];exact⟨e,U⟩⟩
   ·exact .inr ⟨q,List.mem_cons_of_mem _ E,U⟩
theorem agk{t u:b6}(h:t.GD u=true){g g':Nat->Nat×Nat}{R MA:Type}(z:t.cons R)(my:u.cons MA) :
  ((t.body g z).1.fI=true->(u.body g' my).1.fI=true/\∀ k,(u.body g' my).1.bZ k=true)/\((t.body g z).1.gX=true->(u.body g' my).1.gX=true/\∀ k,(u.body g' my).1.bZ k=true)/\(t.body g z).1.mS=false:=by
 cases t<;>cases u<;>first
  | exact Bool.noConfusion h
  | exact⟨λ_=>⟨rfl,λ_=>rfl⟩,λh=>Bool.noConfusion h,rfl⟩
  | exact⟨λh=>Bool.noConfusion h,λ_=>⟨rfl,λ_=>rfl⟩,rfl⟩
  | exact⟨λh=>Bool.noConfusion h,λh=>Bool.noConfusion h,rfl⟩
theorem xZ:∀ (ts:List (Nat×bY)) {R:Type} (g:Nat->Nat×Nat) (z:oQ ts R) (i:Nat),ts.any (λp=>p.1 == i)=false->fr (eD g ts z).1 i=.undef
 | [],_,_,_,_,_=>rfl
 | p::ts,_,g,z,i,h=>by
  simp only[List.any_cons,Bool.or_eq_false_iff,beq_eq_false_iff_ne]at h;simp only[eD,fr];rw[if_neg (Ne.symm h.1)];exact xZ ts g _ i h.2
theorem MB{P:Program}{H:Nat->bK}{κ:Nat->bB}{F:Nat->Prop}{w:World}:∀ (g:z9') {us aD:List Value},Dt g us aD->∀ (c:Nat->aH) (i:Nat),(∀ j,j<aD.length->bz P H κ F w (c (i+j)) (aD.getD j undef))->
  (pL g c i).length=g.length/\us.length=g.length/\∀ j,j<g.length->bz P H κ F w ((pL g c i).getD j .undef) (us.getD j undef)
 | [],[],aD,_,_,_,_=>⟨rfl,rfl,λj aF=>by cases aF⟩
 | [],_::_,_,h,_,_,_=>h.elim
 | none::g,[],_,h,_,_,_=>h.elim
 | some n::g,[],_,h,_,_,_=>h.elim
 | none::g,u::us,aD,h,c,i,ae=>by
  obtain⟨sj,rfl,h⟩:=h;obtain⟨E,U,ag⟩:=MB g h c (i+1) λj aF=>by
   have:=ae (j+1) (by grind);rw[show i+(j+1)=i+1+j by omega]at this;simpa using this
  refine⟨by simp[pL,E],by grind,λj aF=>?_⟩;cases j with
  | zero=>simpa [pL]using ae 0 (by simp)
  | succ j=>simpa [pL]using ag j (by grind)
 | some n::g,u::us,aD,h,c,i,ae=>by
  obtain⟨cs,sj,rfl,aw,n0,rfl,h⟩:=h;obtain⟨E,U,ag⟩:=MB g h c (i+n) λj aF=>by
   have:=ae (n+j) (by grind);rw[show i+(n+j)=i+n+j by omega]at this;have e:(cs.toList++sj).getD (n+j) undef=sj.getD j undef:=by
    grind
   rw[e]at this;omega
  refine⟨by simp[pL,E],by grind,λj aF=>?_⟩;cases j with
  | zero=>
   simp only[pL,List.getD_cons_zero];refine⟨cs.toList,by simp,by omega,λj aF=>?_⟩;grind
  | succ j=>simpa [pL]using ag j (by grind)
theorem agl{P:Program}{H:Nat->bK}{κ:Nat->bB}{F:Nat->Prop}{w:World}{g:z9'}{v:Value}{aD:List Value}(h:Ha g v aD){c:Nat->aH}(ae:∀ j,bz P H κ F w (c j) (aD.getD j undef)) :
  bz P H κ F w (L_ (pL g c 0)) v:=by
 obtain⟨us,E,U,ag⟩:=h;obtain⟨aR,_,bL⟩:=MB g ag c 0 (λj _=>by simpa using ae j);subst U;generalize pL g c 0=l at aR bL;unfold L_;split
 ·grind
 ·rename_i ai;have eC:us.length≠1:=λe=>by
   have:l.length=1:=by omega
   match l,this with
   | [x],_=>grind
  rw[if_neg eC];refine⟨us,rfl,by omega,λi G=>?_⟩;unfold hj;grind
section
variable {C:b9} {s:aB} {a:Act} {w:World} {κ:Nat->bB} {F:Nat->Prop}
theorem bl.args(M:bl C s a w κ F){avs:List aH}{us:List Value}(aw:us.length<=eQ)(ai:avs.length=us.length)(ae:∀ i,i<us.length->bz C.P s.aa κ F w (avs.getD i .undef) (us.getD i undef)) :
    bl { C with nt:=us.length,dfr:=[],r:=none } (sH s avs) { tmps:=us.toArray,defers:=[] } w κ F:=
  { M with
    dE:=by simp,dfr:=rfl,gl:=aw
    bT:=λi=>by
      show bz C.P s.aa κ F w (if i=b5 then s.az b5 else if i<avs.length then avs.getD i .undef else .undef) (us.toArray.getD i undef);split
      · rename_i e
        subst e
        have E:=M.bT b5
        have U:a.tmps.getD b5 undef=undef:=by
          have:=M.dE;have:=M.gl;rw[Array.getD_eq_getD_getElem?,Array.getElem?_eq_none (by unfold b5 eQ at *;omega)];rfl
        have ag:us.toArray.getD b5 undef=undef:=by
          rw[Array.getD_eq_getD_getElem?,Array.getElem?_eq_none (by simp only[List.size_toArray];unfold b5 eQ at *;omega)];rfl
        grind
      · split
        · simp_all
        · trivial
    bC:=M.bC
    eL:=λl aK L n st e=>M.eL l aK L n st (by simpa [sH]using e) }
def rM(C:b9)(w:World)(F':Nat->Prop)(n:Nat)(an Y:Nat->Prop)(il:(Nat->Option Nat)×(Nat->Option (bB×Nat))):b9:=
 { C with w0:=w,F0:=F',K0:=λr=>r<w.heap.size/\¬an r/\¬Y r,nt:=n,dfr:=[],r:=none,il:=il.1,KE:=il.2 }
structure Dv(C:b9)(s:aB)(w:World)(κ:Nat->bB)(F:Nat->Prop)(sl:aH)(Y:Nat->Prop):Prop where
 eL:∀ l aK L n st,sl=.aX l aK L n st->(∃ I,C.cd=⟨l,aK,L,I⟩)/\C.cd.hD C.P/\C.cd.at aK n st F Y w
 low:∀ r,Y r->r<w.heap.size/\¬F r/\¬C.K0 r
 an:∀ b,(s.aa b).body.bZ (κ b)=true->¬Y (κ b).aa
 Hd:sl=.undef->∀ r,¬Y r
theorem bl.agm(M:bl C s a w κ F){sl:aH}(h:∀ l aK L n st,sl=.aX l aK L n st->s.az b5=.aX l aK L n st):∃ Y,Dv C s w κ F sl Y:=by
 by_cases aE:∃ l aK L n st,sl=.aX l aK L n st
 ·obtain⟨l,aK,L,n,st,e⟩:=aE;obtain⟨E,U,Y,ag,a7,bN⟩:=M.eL l aK L n st (h _ _ _ _ _ e);refine⟨Y,⟨λdF kH e4 i_ iw aZ=>?_,ag,a7,λaZ=>?_⟩⟩
  ·rw[e]at aZ;cases aZ;exact⟨E,U,bN⟩
  ·rw[e]at aZ;cases aZ
 ·exact⟨λ_=>False,⟨λl aK L n st e=>(aE ⟨l,aK,L,n,st,e⟩).elim,λ_ h=>h.elim,λ_ _ h=>h,λ_ _ h=>h⟩⟩
theorem agn{C1:b9}{ew:aB}{ca:Act}{F':Nat->Prop}{bV:List Nat}{f:Nat->Nat}{sh:dG}{D:sh.aj}{Y:Nat->Prop}{ids:List Nat}(jt:C1.P=C.P)(ua:C1.aO=C.aO)(rN:C1.dfr=[])
  (gQ:bl C1 (ew.cz bV) ca w κ F') (ar:G9 C1 ew ca w κ f F' sh D bV) (iI:Dv C (ew.cz bV) w κ F' ((sh.st D).az b5) Y)
  (au:∀ b be,b∈sh.oR->be∈sh.oR->f b=f be->b=be) (hid:∀ b∈ids,eQ<=b) :
  bl (rM C w F' C1.nt (λr=>∃ b,((sh.st D).aa b).body.bZ (κ (f b))=true/\(κ (f b)).aa=r) Y (λb=>if b∈ids then some (κ (f b)).aa else none,λb=>if b∈ids/\xi<=b then some (κ (f b),((sh.st D).aa b).body.len) else none)) (sh.st D) ca w (λb=>κ (f b)) F' where
 dE:=gQ.dE
 dfr:=gQ.dfr.trans rN
 bT:=λi=>by have:=ar.bT i;rw[jt]at this;exact this
 bC:=λb=>by have:=ar.bC b;rw[jt]at this;exact this
 an:=λb W=>by
  have E:=gQ.an (f b) (ar.xW W);exact⟨E.1,E.2.1,λh=>h.2.1 ⟨b,W,rfl⟩⟩
 inj:=λb be W de e=>au b be (ar.bZ b W).2.2 (ar.bZ be de).2.2 (gQ.inj _ _ (ar.xW W) (ar.xW de) e)
 db:=gQ.db
 hi:=λr M=>.inl M
 hT:=λr M=>M
 hx:=λr M=>M.1
 eH:=λ_ _=>rfl
 size:=Nat.le_refl _
 er:=dd.refl _
 gl:=gQ.gl
 kv:=λb r h=>by
  simp only[rM]at h;grind
 jH:=λb r h _=>by
  simp only[rM]at h;grind
 j_:=λb k h=>by
  simp only[rM]at h;grind
 kx:=λb k h _ _=>by
  simp only[rM]at h;grind
 eL:=λl aK L n st e=>by
  obtain⟨E,U,ag⟩:=iI.eL l aK L n st e;exact⟨E,U,Y,λr M=>⟨(iI.low r M).1,(iI.low r M).2.1,λh=>h.2.2 M⟩,λb W=>iI.an _ (ar.xW W),ag⟩
 jI:=by have:=gQ.jI;rw[jt,ua]at this;exact this
 iD:=by have:=gQ.iD;rw[jt]at this;exact this
structure TF(s:aB)(κ:Nat->bB)(il:(Nat->Option Nat)×(Nat->Option (bB×Nat)))(bs:List (Nat×bQ))(ch:z6'):Prop where
 dO:(ch.map (·.1)).Nodup
 ej:(ch.map (·.2.1)).Nodup
 fy:nh ∉ ch.map (·.2.1)
 ago:(s.aa nh).body=.fy
 TG:∀ p∈ch,(p.2.1<eQ/\(s.aa p.2.1).gen<p.2.2)\/
  (((eP bs p.1).body.fI=true->(s.aa p.2.1).body.fI=true/\il.1 p.1=some (κ p.2.1).aa)/\((eP bs p.1).body.gX=true->(s.aa p.2.1).body.gX=true/\il.1 p.1=some (κ p.2.1).aa)/\(eP bs p.1).body.mS=false/\
   ((p.2.2=(s.aa p.2.1).gen/\((eP bs p.1).body.ff=true->(s.aa p.2.1).body.ff=true/\(eP bs p.1).body.e0=(s.aa p.2.1).body.e0/\il.2 p.1=some (κ p.2.1,(s.aa p.2.1).body.len)))\/p.2.2=(s.aa p.2.1).gen+1))
theorem agp{F' an Y:Nat->Prop}{sl:aH}{n:Nat}{il:(Nat->Option Nat)×(Nat->Option (bB×Nat))}{ins:List Nat}{bR:dG}{bm:bR.aj}{aD:List Value}{w':World}{ni:Nat->bB}{ek:Nat->Prop}
    (M:bl C s a w κ F') (iI:Dv C s w κ F' sl Y) (gm:∀ r,an r->∃ b,b∈ins/\(s.aa b).body.bZ (κ b)=true/\(κ b).aa=r)
    (hL:bl { rM C w F' n an Y il with nt:=aD.length } (bR.st bm) { tmps:=aD.toArray,defers:=[] } w' ni ek)
    {ch:z6'} (gn:TF s κ il (hl (hZ ch) bR.bC (eD (hZ ch) bR.bT bm).2) ch)
    {H':Nat->bK} {κn:Nat->bB} (Ax:∀ p∈ch,H' p.2.1=⟨p.2.2,(eP (hl (hZ ch) bR.bC (eD (hZ ch) bR.bT bm).2) p.1).body⟩/\κn p.2.1=ni p.1)
    (Dw:∀ b,b ∉ ch.map (·.2.1)->κn b=κ b/\(b∈ins->H' b=⟨(s.aa b).gen+1,.fy⟩)/\(b ∉ ins->H' b=s.aa b))
    {X:aH} (iO:X=fr (eD (hZ ch) bR.bT bm).1 b5\/X=.undef\/(X=s.az b5/\sl=.undef)) :
    bl C ⟨λi=>if i=b5 then X else s.az i,H'⟩ a w' κn ek/\
    ∀ i,bz C.P H' κn ek w' (fr (eD (hZ ch) bR.bT bm).1 i) (aD.toArray.getD i undef):=by
  generalize Dx:hl (hZ ch) bR.bC (eD (hZ ch) bR.bT bm).2=bs at gn Ax;have rD:∀ b,xY (eP bs b).body ((bR.st bm).aa b).body:=λb=>by
    rw[<-Dx,Tz (My bR.bT bm)];exact TA bR.bC (eD c_ bR.bT bm).2 b
  have Dy:pP (bR.st bm).aa H' ni κn (hZ ch):=by
    intro b;refine⟨Mz _ b,?_⟩;by_cases W:b∈ch.map (·.1)
    · obtain⟨p,ao,rfl⟩:=List.mem_map.1 W
      rw[TB gn.dO ao]
      obtain⟨E,U⟩:=Ax p ao
      rw[E,U]
      obtain⟨aR,aW,bL,fA,pG,x0,_⟩:=rD p.1
      exact⟨Nat.le_refl _,λ_=>⟨λh=>⟨aR ▸ h,rfl⟩,λh=>⟨aW ▸ h,rfl,bL,fA⟩,λh=>⟨pG ▸ h,rfl⟩,λh=>⟨x0 ▸ h,rfl⟩⟩⟩
    · rw[TC W]
      obtain⟨_,U,ag⟩:=Dw nh gn.fy
      have ar:(H' nh).body=.fy:=by
        by_cases G:nh∈ins
        · grind
        · rw[ag G];exact gn.ago
      refine⟨Nat.zero_le _,λ_=>?_⟩
      show ((H' nh).body.fI=true->_)/\((H' nh).body.ff=true->_)/\((H' nh).body.gX=true->_)/\((H' nh).body.mS=true->_)
      rw[ar]
      exact⟨λh=>(by cases h),λh=>(by cases h),λh=>(by cases h),λh=>(by cases h)⟩
  have He:∀ b,(∃ p∈ch,p.2.1=b)\/b ∉ ch.map (·.2.1):=λb=>by
    grind
  have Hf:∀ p∈ch,∀ r,il.1 p.1=some r->(eP bs p.1).body.fI=true\/(eP bs p.1).body.gX=true->(ni p.1).aa=r:=λp ao r M h=>by
    obtain⟨aR,_,_,_,pG,_⟩:=rD p.1;exact hL.jH p.1 r M (h.imp (λh=>aR ▸ h) (λh=>pG ▸ h))
  have agq:∀ p∈ch,∀ k,il.2 p.1=some k->(eP bs p.1).body.ff=true->ni p.1=k.1/\(eP bs p.1).body.len=k.2:=λp ao k al h=>by
    obtain⟨_,aW,bL,_⟩:=rD p.1;obtain⟨E,U⟩:=hL.kx p.1 k al (Mz _ _) (aW ▸ h);grind
  have ai:fq s.aa κ H' κn:=by
    rw[Cm];intro b;rcases He b with⟨p,ao,rfl⟩ | W
    · obtain⟨E,U⟩:=Ax p ao
      rw[E,U]
      rcases gn.TG p ao with⟨_,h⟩ | ⟨hc,hm,hit,h⟩
      · exact⟨Nat.le_of_lt h,λe=>(by grind)⟩
      · rcases h with⟨h,e9⟩ | h
        · refine⟨Nat.le_of_eq h.symm,λ_=>⟨λh=>⟨(hc h).1,Hf p ao _ (hc h).2 (.inl h)⟩,λh=>?_,λh=>⟨(hm h).1,Hf p ao _ (hm h).2 (.inr h)⟩,λh=>?_⟩⟩
          · have h:(eP bs p.1).body.ff=true:=h
            obtain⟨ca,a2,a3⟩:=e9 h
            obtain⟨ds,ec⟩:=agq p ao _ a3 h
            exact⟨ca,ds,ec,a2⟩
          · have h:(eP bs p.1).body.mS=true:=h
            rw[hit]at h;cases h
        · exact⟨by grind,λe=>(by grind)⟩
    · obtain⟨E,U,ag⟩:=Dw b W
      rw[E]
      by_cases G:b∈ins
      · rw[U G]
        exact⟨Nat.le_succ _,λe=>(by grind)⟩
      · rw[ag G];exact qq.refl _ _
  have Ay:w.heap.size<=w'.heap.size:=hL.size;have bn:∀ r,F' r->ek r:=hL.hT;have iN:∀ r,r<w.heap.size->¬an r->¬Y r->w'.heap[r]?=w.heap[r]?:=λr E U ag=>hL.eH r ⟨E,U,ag⟩;have vN:∀ r,C.K0 r->r<w.heap.size:=λr h=>Nat.lt_of_lt_of_le (M.hx r h) M.size;have MC:∀ r,an r->¬C.K0 r/\¬F' r:=λr h=>by
    obtain⟨b,_,E,rfl⟩:=gm r h;exact⟨(M.an b E).2.2,(M.an b E).2.1⟩
  have TH:∀ r,¬(r<w.heap.size/\¬an r/\¬Y r)->¬C.K0 r:=λr h al=>h ⟨vN r al,λaf=>(MC r af).1 al,λaS=>(iI.low r aS).2.2 al⟩;have qI:c6 F' w w':=⟨Ay,λr h=>iN r (M.db r h) (λaf=>(MC r af).2 h) λaS=>(iI.low r aS).2.1 h⟩
  have Ab:∀ r,ek r->F' r\/¬(r<w.heap.size/\¬an r/\¬Y r):=hL.hi;have sP:∀ b,b ∉ ins->(s.aa b).body.bZ (κ b)=true->(κ b).aa<w.heap.size/\¬an (κ b).aa/\¬Y (κ b).aa:=λb W af=>by
    refine⟨(M.an b af).1,λh=>?_,iI.an b af⟩;obtain⟨be,E,U,ag⟩:=gm _ h;exact W (M.inj be b U af ag ▸ E)
  have zA:∀ b,(H' b).body.bZ (κn b)=true->(∃ p∈ch,p.2.1=b/\((bR.st bm).aa p.1).body.bZ (ni p.1)=true/\κn b=ni p.1)\/(b ∉ ch.map (·.2.1)/\b ∉ ins/\κn b=κ b/\(s.aa b).body.bZ (κ b)=true):=λb W=>by
    rcases He b with⟨p,ao,rfl⟩ | aw
    · obtain⟨E,U⟩:=Ax p ao
      rw[E,U]at W
      exact .inl ⟨p,ao,rfl,by rw[<-(rD p.1).2.2.2.2.2.2];exact W,U⟩
    · obtain⟨E,U,ag⟩:=Dw b aw
      by_cases G:b∈ins
      · rw[U G]at W;cases W
      grind
  have fk:∀ i,bz C.P H' κn ek w' (fr (eD (hZ ch) bR.bT bm).1 i) (aD.toArray.getD i undef):=λi=>Dy.bT bR.bT bm i (hL.bT i);refine⟨{ dE := M.dE, dfr := M.dfr, bT := λi => ?_, bC := λb => ?_, an := λb W => ?_, inj := λb be W de e => ?_, db := hL.db, hi := λr h => ?_, hT := λr h => bn r (M.hT r h), hx := M.hx, eH := λr h => ?_,size:=Nat.le_trans M.size Ay,er:=M.er.trans hL.er,gl:=M.gl,kv:=M.kv,jH:=λb r h hc=>?_,j_:=M.j_,kx:=λb k h aU a_=>?_,eL:=λl aK L m st e=>?_,jI:=M.jI,iD:=hL.iD },fk⟩
  · show bz C.P H' κn ek w' (if i=b5 then X else s.az i) _
    split
    · rename_i e
      subst e
      have hu:a.tmps.getD b5 undef=undef:=by
        have:=M.dE;have:=M.gl;rw[Array.getD_eq_getD_getElem?,Array.getElem?_eq_none (by unfold b5 eQ at *;omega)];rfl
      rcases iO with rfl | rfl | ⟨rfl,_⟩
      · have h:=fk b5
        have MD:aD.toArray.getD b5 undef=undef:=by
          have:aD.length<=eQ:=hL.gl;rw[Array.getD_eq_getD_getElem?,Array.getElem?_eq_none (by simp only[List.size_toArray];unfold b5 eQ at *;omega)];rfl
        grind
      · trivial
      · exact bz.lh ai bn qI (M.bT b5)
    · exact bz.lh ai bn qI (M.bT i)
  · show jG C.P H' κn ek w' (κn b) (H' b).body
    rcases He b with⟨p,ao,rfl⟩ | aw
    · obtain⟨E,U⟩:=Ax p ao
      rw[E,U,<-Dx,Tz (My bR.bT bm)]
      exact Dy.bC bR.bC (eD c_ bR.bT bm).2 p.1 (hL.bC p.1)
    · obtain⟨E,U,ag⟩:=Dw b aw
      by_cases G:b∈ins
      · rw[U G];trivial
      · have:=cD.lj (H':=H') (κ':=κn) (M.bC b) ai bn qI (by grind) E λaf=>iN _ (sP b G af).1 (sP b G af).2.1 (sP b G af).2.2
        exact this
  · rcases zA b W with⟨p,ao,_,E,U⟩ | ⟨_,E,U,ag⟩
    · have:=hL.an p.1 E
      rw[U]
      exact⟨this.1,this.2.1,TH _ this.2.2⟩
    · rw[U]
      have a7:=M.an b ag
      grind
  · rcases zA b W with⟨p,ao,rfl,E,U⟩ | ⟨_,E,U,ag⟩<;>rcases zA be de with⟨p',CD,rfl,zS,xu⟩ | ⟨_,zS,xu,TI⟩
    · rw[U,xu]at e
      have:=hL.inj _ _ E zS e
      rw[Du gn.dO ao CD this]
    · rw[U,xu]at e
      exact ((hL.an p.1 E).2.2 (e ▸ sP be zS TI)).elim
    · rw[U,xu]at e
      exact ((hL.an p'.1 zS).2.2 (e ▸ sP b E ag)).elim
    · rw[U,xu]at e
      exact M.inj b be ag TI e
  · rcases Ab r h with h | h
    · exact M.hi r h
    grind
  · exact (iN r (vN r h) (λaf=>(MC r af).1 h) λaS=>(iI.low r aS).2.2 h).trans (M.eH r h)
  · have aM:=M.kv b r h
    rcases He b with⟨p,ao,rfl⟩ | aw
    · obtain⟨E,U⟩:=Ax p ao
      simp only[E]at hc
      rcases gn.TG p ao with⟨ag,_⟩ | ⟨aR,aW,_⟩
      · omega
      · rw[U]
        rcases hc with hc | hc
        · rw[Hf p ao _ (aR hc).2 (.inl hc)]
          exact M.jH _ r h (.inl (aR hc).1)
        · rw[Hf p ao _ (aW hc).2 (.inr hc)]
          exact M.jH _ r h (.inr (aW hc).1)
    · obtain⟨E,U,ag⟩:=Dw b aw
      by_cases G:b∈ins
      · simp only[U G]at hc
        rcases hc with hc | hc<;>cases hc
      · simp only[ag G]at hc
        rw[E]
        exact M.jH b r h hc
  · have aM:=M.j_ b k h
    have aU:(H' b).gen=0:=aU
    have a_:(H' b).body.ff=true:=a_
    show κn b=k.1/\(H' b).body.len=k.2
    obtain⟨g1,ei⟩:=ai b
    obtain⟨ca,a2,a3,_⟩:=(ei (by omega)).2.1 a_
    obtain⟨aR,aW⟩:=M.kx b k h (by omega) ca
    grind
  · have e:X=.aX l aK L m st:=by grind
    rcases iO with rfl | rfl | ⟨rfl,agr⟩
    · obtain⟨E,U,gC,ag,a7,bN⟩:=hL.eL l aK L m st (Ty bR.bT bm b5 e)
      refine⟨E,U,gC,λr ba=>⟨(ag r ba).1,(ag r ba).2.1,TH r (ag r ba).2.2⟩,λb W aS=>?_,bN⟩
      rcases zA b W with⟨p,ao,rfl,aR,aW⟩ | ⟨_,aR,aW,bL⟩
      · grind
      · rw[aW]at aS;exact (ag _ aS).2.2 (sP b aR bL)
    · cases e
    · obtain⟨E,U,gC,ag,a7,bN⟩:=M.eL l aK L m st e
      have TJ:∀ r,gC r->r<w.heap.size/\¬an r/\¬Y r:=λr aS=>⟨(ag r aS).1,λaf=>by
        grind,iI.Hd agr r⟩
      have Cn:∀ r,ek r->¬gC r:=λr au aS=>(Ab r au).elim (ag r aS).2.1 λh=>h (TJ r aS)
      refine⟨E,U,gC,λr aS=>⟨Nat.lt_of_lt_of_le (ag r aS).1 Ay,λau=>Cn r au aS,(ag r aS).2.2⟩,λb W aS=>?_,U.KD bN bn (λr au=>?_) Ay hL.er hL.db Cn⟩
      · rcases zA b W with⟨p,ao,rfl,aR,aW⟩ | ⟨_,aR,aW,bL⟩
        · rw[aW]at aS;exact (hL.an _ aR).2.2 (TJ _ aS)
        grind
      · rcases au with au | au
        · exact qI.2 r au
        grind
end
end Go.Fer
namespace Go.Fer
open Go.RowKit
section
variable {C:b9} {T:Nat->ab} {o:Oper} {s:aB}
theorem cR.bE{P:Program}{aQ:dD}{k:FuncId}{c:cK}(au:cR P aQ k c){C:b9}{a:Act}{w:World}{κ:Nat->bB}{F:Nat->Prop}{D:c.cn.aj}(h:bl C (c.cn.st D) a w κ F)(E:C.P=P)(U:C.w0=w)(ag:C.r=none)(a7:C.dfr=[])(bN:C.nt=c.kl)(du:C.aO=aQ)(aE:(c.sh D).b2) :
  Calls P k a.tmps w λe w'=>∃ v bm aD κ' F',e=.returned v/\(c.sh D).bR bm/\Ha c.kI v aD/\bl { C with nt:=aD.length } (c.bR.st bm) { tmps:=aD.toArray,defers:=[] } w' κ' F':=
 au.iW C a w κ F D E U ag a7 bN du h aE
theorem TK{C:b9}{s:aB}{ME:Nat->aH}{a ca:Act}{w:World}{κ:Nat->bB}{F:Nat->Prop}{dO:Nat}{c:cK}{f:Nat->Nat}{D:c.cn.aj}{bV:List Nat}{d m:Nat}{ch:z6'}
    (M:bl C s a w κ F) (gQ:bl { C with nt:=dO,dfr:=[],r:=none } ⟨ME,s.aa⟩ ca w κ F) (qJ:ME b5=s.az b5)
    (n9:c.cn.Aj f ⟨ME,s.aa⟩=some (D,bV)) (TL:sI (s.cz bV) d f c.cn.oR c.bR.bC 0=ch) (ea:Di c f (s.cz bV) ch d m=true) :
    ∃ (F' an Y:Nat->Prop) (il:(Nat->Option Nat)×(Nat->Option (bB×Nat))),(∀ r,F r->F' r)/\bl C (s.cz bV) a w κ F'/\(∀ r,an r->∃ b,((s.cz bV).aa b).body.bZ (κ b)=true/\(κ b).aa=r)/\Dv C (s.cz bV) w κ F' ((c.cn.st D).az b5) Y/\(∀ l aK L n st,(c.cn.st D).az b5=.aX l aK L n st->s.az b5=.aX l aK L n st)/\
      bl (rM C w F' dO an Y il) (c.cn.st D) ca w (λb=>κ (f b)) F'/\
      ∀ MF hG,bl { C with w0:=MF } (s.cz bV) a hG κ F'->Dv C (s.cz bV) hG κ F' ((c.cn.st D).az b5) Y->∀ (bm:c.bR.aj) (aD:List Value) (w':World) (ni:Nat->bB) (ek:Nat->Prop),bl { rM C hG F' dO an Y il with nt:=aD.length } (c.bR.st bm) { tmps:=aD.toArray,defers:=[] } w' ni ek->
        ∃ κn,bl { C with w0:=MF } (xN (s.cz bV) c f ch bm) a w' κn ek/\∀ i,bz C.P (xN (s.cz bV) c f ch bm).aa κn ek w' (fr (eD (hZ ch) c.bR.bT bm).1 i) (aD.toArray.getD i undef):=by
  simp only[Di,Bool.and_eq_true,decide_eq_true_eq,Bool.not_eq_true']at ea;obtain⟨⟨⟨⟨⟨⟨⟨⟨⟨⟨bD,c2⟩,c3⟩,c4⟩,c5⟩,lQ⟩,oM⟩,xr⟩,c9⟩,Hg⟩,_⟩:=ea;have c3:(c.cn.bC.map (·.1)).Nodup:=of_decide_eq_true c3;have c4:(c.cn.bC.map λp=>f p.1).Nodup:=of_decide_eq_true c4;have c5:(ch.map (·.1)).Nodup:=of_decide_eq_true c5;have lQ:(ch.map (·.2.1)).Nodup:=of_decide_eq_true lQ;have xr:nh ∉ ch.map (·.2.1):=λh=>by
    grind
  have c9:((s.cz bV).aa nh).body=.fy:=by
    grind
  obtain⟨F',f1,gQ,ar⟩:=dG.To n9 gQ;have ba : bl C (s.cz bV) a w κ F' := { gQ with
    dE:=M.dE,dfr:=M.dfr,gl:=M.gl,bT:=λi=>bz.lh (R' s bV κ) f1 (c6.refl _ _) (M.bT i)
    bC:=gQ.bC
    eL:=λl aK L n st e=>gQ.eL l aK L n st (by simpa [aB.cz,qJ]using e) }
  obtain⟨Y,iI⟩:=ba.agm (sl:=(c.cn.st D).az b5) λl aK L n st e=>by simpa [aB.cz,qJ]using ar.aX l aK L n st e
  have hid:∀ b∈c.cn.bC.map (·.1),eQ<=b:=λb W=>by grind
  have Hh:∀ b,b∈c.cn.oR->∃ q∈c.cn.bC,q.1=b/\q.2.Dd=true:=λb W=>by
    obtain⟨q,bq,e⟩:=List.mem_filterMap.1 W;grind
  have Dz:=agn (C:=C) (C1:={ C with nt:=dO,dfr:=[],r:=none }) (ids:=c.cn.bC.map (·.1)) rfl rfl rfl gQ ar ⟨iI.eL,iI.low,iI.an,iI.Hd⟩ (λb be W de e=>by
    obtain⟨q,bq,rfl,_⟩:=Hh b W;obtain⟨q',ub,rfl,_⟩:=Hh be de;rw[Du (k:=λp=>f p.1) c4 bq ub e]) hid
  refine⟨F',_,Y,_,f1,ba,λr ⟨b,W,e⟩=>⟨f b,ar.xW W,e⟩,iI,λl aK L n st e=>by simpa [aB.cz,qJ]using ar.aX l aK L n st e,Dz,λMF hG Lp Hi bm aD w' ni ek hL=>?_⟩;have Dx:∀ (b:Nat) (q':Nat×b6),q'∈c.bR.bC->q'.1=b->b∈c.cn.oR->∀ (R:Type) (z:q'.2.cons R),((q'.2.body (hZ ch) z).1.fI=true->((s.cz bV).aa (f b)).body.fI=true)/\((q'.2.body (hZ ch) z).1.gX=true->((s.cz bV).aa (f b)).body.gX=true)/\(q'.2.body (hZ ch) z).1.mS=false:=by
    intro b q' ub e W R z;obtain⟨q,bq,rfl,MG⟩:=Hh b W;have al:=List.all_eq_true.1 (List.all_eq_true.1 Hg q' ub) q bq;rw[e,MG]at al;simp only[beq_self_eq_true,Bool.and_self,Bool.not_true,Bool.false_or]at al;rcases Hc c_ c.cn.bC (eD c_ c.cn.bT D).2 q.1 with⟨_,U⟩ | ⟨dK,U,ag,MA,my,a7⟩
    · grind
    · obtain rfl:=Du c3 U bq ag
      have a7:(c.cn.st D).aa dK.1=⟨0,(dK.2.body c_ my).1⟩:=a7
      obtain⟨aR,aW,bL⟩:=agk al z my (g:=hZ ch) (g':=c_)
      have ux:=ar.As dK.1
      refine⟨λhc=>?_,λhc=>?_,bL⟩
      · have bN:=ar.bZ dK.1 (by grind)
        simp only[aB.cz,if_neg bN.1]
        exact ux.2.1 (by grind)
      · have bN:=ar.bZ dK.1 (by grind)
        simp only[aB.cz,if_neg bN.1]
        exact ux.2.2.2.1 (by grind)
  have ags:ch.map (·.1)=c.bR.bC.map (·.1):=by rw[<-TL];exact TD ..
  have gn:TF (s.cz bV) κ (λb=>if b∈c.cn.bC.map (·.1) then some (κ (f b)).aa else none,λb=>if b∈c.cn.bC.map (·.1)/\xi<=b then some (κ (f b),((c.cn.st D).aa b).body.len) else none) (hl (hZ ch) c.bR.bC (eD (hZ ch) c.bR.bT bm).2) ch:=by
    refine⟨c5,lQ,xr,c9,λp ao=>?_⟩;rw[<-TL]at ao;rcases TE _ _ _ _ _ _ ao with⟨E,U,t,ag,a7⟩ | ⟨_,U,ag,a7⟩
    · rw[U]
      have jS:p.1∈c.cn.bC.map (·.1):=by
        grind
      rcases Hc (hZ ch) c.bR.bC (eD (hZ ch) c.bR.bT bm).2 p.1 with⟨_,aW⟩ | ⟨q',aR,aW,R,z,bL⟩
      · grind
      · rw[bL]
        obtain⟨ds,ec,lJ⟩:=Dx p.1 q' aR aW E R z
        have:q'=(p.1,t):=Du (ags ▸ c5) aR ag aW
        subst this
        refine .inr ⟨λh=>⟨ds h,if_pos jS⟩,λh=>⟨ec h,if_pos jS⟩,lJ,a7.imp (λa7=>⟨a7.1,λe9=>?_⟩) id⟩
        rcases a7.2 with bN | ⟨al,e,rfl⟩
        · grind
        · obtain⟨q,bq,Mw,MG⟩:=Hh p.1 E
          have x1:=List.all_eq_true.1 (List.all_eq_true.1 Hg _ aR) q bq
          rw[Mw,MG]at x1
          simp only[beq_self_eq_true,Bool.and_self,Bool.not_true,Bool.false_or]at x1
          rcases Hc c_ c.cn.bC (eD c_ c.cn.bT D).2 p.1 with⟨_,xu⟩ | ⟨dK,m2,m3,MA,my,m4⟩
          · grind
          · obtain rfl:=Du c3 m2 bq (m3.trans Mw.symm)
            have m4:(c.cn.st D).aa p.1=⟨0,(dK.2.body c_ my).1⟩:=m4
            obtain⟨dh,MH⟩:=dK
            have x1:b6.GD (.bh e) MH=true:=x1
            obtain rfl:MH=.bh e:=by
              cases MH<;>first | (simp only[b6.GD,decide_eq_true_eq]at x1;rw[x1]) | cases x1
            have ux:=ar.As p.1
            have agt:((c.cn.st D).aa p.1).body.ff=true:=by rw[m4];rfl
            obtain⟨cg,cJ,et⟩:=ux.2.2.1 agt
            have bk:((s.cz bV).aa (f p.1)).body.ff=true/\((s.cz bV).aa (f p.1)).body.len=(s.aa (f p.1)).body.len/\((s.cz bV).aa (f p.1)).body.e0=(s.aa (f p.1)).body.e0:=by
              simp only[aB.cz];split
              · rcases zQ s.aa (s.aa (f p.1)) with aZ | ⟨_,_,ah,aZ⟩ | ⟨_,_,_,ah,_⟩ | ⟨_,_,_,_,ah,_,_⟩
                · grind
                · rw[aZ,ah];exact⟨rfl,rfl,rfl⟩
                · have cg:(s.aa (f p.1)).body.ff=true:=cg
                  rw[ah]at cg;cases cg
                · have cg:(s.aa (f p.1)).body.ff=true:=cg
                  rw[ah]at cg;cases cg
              grind
            have cJ:((c.cn.st D).aa p.1).body.len=(s.aa (f p.1)).body.len:=cJ
            have et:((c.cn.st D).aa p.1).body.e0=(s.aa (f p.1)).body.e0:=et
            refine⟨bk.1,?_,?_⟩
            · rw[bk.2.2,<-et,m4];rfl
            grind
    · refine .inl ⟨?_,by omega⟩
      unfold eQ
      omega
  obtain⟨n_,fk⟩:=agp (ins:=c.cn.oR.map f) (X:=if c.bR.bT.any (λp=>p.1 == b5) then fr (eD (hZ ch) c.bR.bT bm).1 b5 else if c.cn.bT.any (λp=>p.1 == b5) then .undef else (s.cz bV).az b5)
    (H':=(xN (s.cz bV) c f ch bm).aa)
    (κn:=λb=>match ch.find? (λp=>p.2.1 == b) with
      | some p=>ni p.1
      | none=>κ b) Lp ⟨Hi.eL,Hi.low,Hi.an,Hi.Hd⟩ (λr ⟨b,W,e⟩=>⟨f b,List.mem_map_of_mem (ar.bZ b W).2.2,ar.xW W,e⟩) hL gn
    (λp ao=>by simp only[xN,Hb (k:=λp=>p.2.1) lQ ao,and_self]) (λb W=>by
      have aw:ch.find? (λp=>p.2.1 == b)=none:=List.find?_eq_none.2 λp ao e=>W (List.mem_map.2 ⟨p,ao,by grind⟩);simp only[xN,aw,true_and];grind)
    (by
      split
      · simp
      · split
        · simp
        · rename_i U
          exact .inr (.inr ⟨rfl,xZ c.cn.bT c_ D b5 (Bool.eq_false_iff.2 U)⟩))
  exact⟨_,n_,fk⟩
theorem TM(bg:∀ i,o.dst=some i->i<C.nt){f0:Operand}{args:Array Operand}{dp:Array TypeId}(af:o.op=.call { callee:=.value f0,args:=args,argTypes:=dp }){c:cK}(au:∀ D a w,ct C s a w->(c.sh D).b2->∃ k,cR C.P C.aO k c/\a.eval f0=.func (.func k) #[] #[]){cd:hY}
  (h:xO C.aO s o args.toList c=some cd):qH C o s cd:=by
 obtain⟨args⟩:=args;unfold xO at h;generalize ayj:rH c (sH s (rG C.aO s args))=f at h;split at h
 ·rename_i D bV n9;split at h
  ·rename_i ea;cases h;have agu:rC (a1 C.aO s.az) o->jL (args.map (a1 C.aO s.az)):=λW=>Dp W λx ah=>by rw[af];simp[Op.operands,Call.operands];simp_all
   refine⟨λa w Q K M bc MI=>?_,λgs oU=>(by grind),agu⟩;obtain⟨k,au,al⟩:=au D a w M MI.1;obtain⟨κ,F,M⟩:=M;have hlen:args.length=c.kl/\args.length<=eQ:=by
    simp only[Di,Bool.and_eq_true,decide_eq_true_eq]at ea;omega
   have dX:=M.args (avs:=rG C.aO s args) (us:=args.map a.eval) (by grind) (by simp[rG]) λi G=>by
    have dA:i<args.length:=by grind
    have E:=sv bc i (by grind);have ay:(args.map (a1 C.aO s.az)).getD i .undef=a1 C.aO s.az args[i]:=by grind
    rw[ay]at E;have aP:(rG C.aO s args).getD i .undef=(use (a1 C.aO s.az args[i])).2:=by simp[rG,List.getD_eq_getElem?_getD,dA]
    have cw:(args.map a.eval).getD i undef=a.eval args[i]:=by grind
    rw[aP,cw];exact pz (kd M args[i]) E
   obtain⟨F',an,Y,il,_,ba,_,iI,_,Dz,MJ⟩:=TK M dX rfl n9 rfl ea;have c7:(execOp a.eval o).run C.P w=.ok (.enter k (args.map a.eval).toArray) w:=by
    simp only[execOp,af,Sem.run_bind,resolve,al,Deferred.ofValue,Sem.run_pure,Result.andThen_ok,invoke];have:=au.enter (args.map a.eval).toArray w;grind
   have uy:=au.bE Dz rfl rfl rfl rfl (by show (args.map a.eval).length=_;grind) rfl MI.1;refine C2 (by grind) c7 uy λe w' ⟨v,bm,aD,ni,ek,he,ga,Hj,hL⟩=>⟨v,he,MI.2 bm ga _ _ ?_⟩
   obtain⟨κn,n_,fk⟩:=MJ C.w0 w ba iI bm aD w' ni ek hL;exact⟨_,ek,bl.set n_ bg (agl Hj λj=>by simpa [Array.getD_eq_getD_getElem?,List.getD_eq_getElem?_getD]using fk j)⟩
  grind
 grind
theorem agv(bg:∀ i,o.dst=some i->i<C.nt){k:Nat}{args:Array Operand}{dp:Array TypeId}(af:o.op=.call { callee:=.value (.func k),args:=args,argTypes:=dp }){c:cK}(au:cR C.P C.aO k c){cd:hY}
  (h:xO C.aO s o args.toList c=some cd):qH C o s cd:=
 TM bg af (λ_ _ _ _ _=>⟨k,au,rfl⟩) h
theorem cR.zB{P:Program}{aQ:dD}{k:FuncId}{c:cK}(h:cR P aQ k c){sh:c.cn.aj->A c.bR.aj}(aE:∀ D,A.le (c.sh D) (sh D)):cR P aQ k { c with sh:=sh } where
 enter:=h.enter
 iW:=λC a w κ F D ay aP cw ed gW j8 M rB=>by
  obtain⟨aR,aW⟩:=aE D rB;exact (h.iW C a w κ F D ay aP cw ed gW j8 M aR).mono λe w' ⟨v,bm,aD,κ',F',E,U,ag⟩=>⟨v,bm,aD,κ',F',E,aW bm U,ag⟩
theorem agw{Ψ:Nat->Option e3}(bg:∀ i,o.dst=some i->i<C.nt){t:Nat}{args:Array Operand}{dp:Array TypeId}(af:o.op=.call { callee:=.value (.tmp t),args:=args,argTypes:=dp })
  (cX:∀ c sh ids,Ψ S'=some (.GN c sh ids)->∀ k∈ids,cR C.P C.aO k { c with sh:=sh k }) {cd:hY} (h:GR C.aO Ψ s o t args.toList=some cd):qH C o s cd:=by
 unfold GR at h;split at h
 ·rename_i n aw;split at h
  ·rename_i c sh ids hc;refine TM bg af (λD a w M aE=>?_) h;obtain⟨⟨k,al,rfl⟩,_⟩:=aE;refine⟨k,(cX c sh ids hc k al).zB (sh:=(Ta c sh ids (some k)).sh) λD h=>⟨h.2,λy aS=>aS⟩,?_⟩;obtain⟨κ,F,M⟩:=M;have ae:bz C.P s.aa κ F w (s.az t) (a.tmps.getD t undef):=M.bT t;rw[aw]at ae;obtain⟨_,ae⟩:=(dU rfl).1 ae;exact (List.cons.inj ae).1
  ·cases h
 ·cases h
end
end Go.Fer
namespace Go.Fer
open Go.RowKit
section
variable {C:b9} {o:Oper} {s:aB}
theorem bl.round{s:aB}{a:Act}{w w':World}{κ:Nat->bB}{F' ek Y Hk:Nat->Prop}{l:Nat}{aK:ab}{L:List aK.aj->Prop}{I}{ej:List aK.aj}{MK:Bool}(M:bl C s a w κ F')(oV:C.cd=⟨l,aK,L,I⟩)(cL:C.cd.hD C.P)
    (aS:∀ r,Y r->r<w.heap.size/\¬F' r/\¬C.K0 r) (ML:∀ b,(s.aa b).body.bZ (κ b)=true->¬Y (κ b).aa)
    (g1:∀ r,F' r->ek r) (ei:∀ r,ek r->F' r\/Y r\/w.heap.size<=r) (g3:∀ r,ek r->r<w'.heap.size) (g4:∀ r,r<w.heap.size->¬Y r->w'.heap[r]?=w.heap[r]?)
    (g5:∀ r,Hk r->(Y r\/w.heap.size<=r)/\r<w'.heap.size/\¬ek r) (g6:w.heap.size<=w'.heap.size) (g7:dd w w') (g8:I ej MK ek Hk w') :
    bl C ⟨λi=>if i=b5 then .aX l aK L ej MK else s.az i,s.aa⟩ a w' κ ek:=by
  have qI:c6 F' w w':=⟨g6,λr h=>g4 r (M.db r h) λCU=>(aS r CU).2.1 h⟩
  have lp:∀ r,w.heap.size<=r->¬C.K0 r:=λr h al=>by have:=M.hx r al;have:=M.size;omega
  refine { dE := M.dE, dfr := M.dfr, bT := λi => ?_, bC := λb => cD.lj (M.bC b) (fq.refl _ _) g1 qI rfl rfl λaf => g4 _ (M.an b af).1 (ML b af), an := λb W => ?_, inj := M.inj, db := g3, hi := λr h => ?_,hT:=λr h=>g1 r (M.hT r h),hx:=M.hx,eH:=λr h=>?_,size:=Nat.le_trans M.size g6,er:=M.er.trans g7,gl:=M.gl,kv:=M.kv,jH:=M.jH,j_:=M.j_,kx:=M.kx,eL:=λdF kH e4 i_ iw e=>?_,jI:=M.jI,iD:=M.iD.mono g1 qI }
  · show bz C.P s.aa κ ek w' (if i=b5 then .aX l aK L ej MK else s.az i) _
    split
    · trivial
    · exact bz.lh (fq.refl _ _) g1 qI (M.bT i)
  · have h:=M.an b W
    grind
  · rcases ei r h with h | h | h
    · exact M.hi r h
    · exact .inr (aS r h).2.2
    · exact .inr (lp r h)
  · exact (g4 r (Nat.lt_of_lt_of_le (M.hx r h) M.size) λk=>(aS r k).2.2 h).trans (M.eH r h)
  · simp only[if_true]at e
    cases e
    refine⟨⟨I,oV⟩,cL,Hk,λr h=>⟨(g5 r h).2.1,(g5 r h).2.2,?_⟩,λb W h=>?_,?_⟩
    · grind
    · rcases (g5 _ h).1 with h | h
      · grind
      · exact absurd (M.an b W).1 (Nat.not_lt.2 h)
    · rw[oV];exact lN.zw.2 g8
theorem agx(bg:∀ i,o.dst=some i->i<C.nt){t:Nat}{args:Array Operand}{dp:Array TypeId}(af:o.op=.call { callee:=.value (.tmp t),args:=args,argTypes:=dp }){cd:hY}
  (h:GS C.aO s o t args.toList=some cd):qH C o s cd:=by
 obtain⟨args⟩:=args;unfold GS at h;split at h
 ·rename_i dF l aK L n st MM uo;split at h
  ·rename_i x bV ah;cases h;refine⟨λa w Q K M bc hm=>?_,λgs oU=>(by grind),λW=>Dp W λx ah=>by rw[af];simp[Op.operands,Call.operands];simp_all⟩;obtain⟨κ,F,M⟩:=M;rw[A.kS]at hm;obtain⟨⟨rfl,rfl,Hl⟩,hm⟩:=hm;obtain⟨F',f1,ba,f2⟩:=bl.ln (qB _ ah) M;have dX:fp C.P aK F' w (args.map a.eval) x:=by
    refine vC M.bC f1 aK ah f2 (by simp) λi G dJ=>?_;simp only[List.getElem_map];have dA:i<args.length:=by grind
    have E:=sv bc i (by grind);have ay:(args.map (a1 C.aO s.az)).getD i .undef=a1 C.aO s.az args[i]:=by grind
    rw[show (List.map (a1 C.aO s.az) (⟨args⟩:Array Operand).toList)=args.map (a1 C.aO s.az) from rfl,ay]at E;exact pz (kd M args[i]) E
   have ae:a.eval (.tmp t)=.func (.yield dF) #[] #[]:=by
    have:=kd M (.tmp t);have e:a1 C.aO s.az (.tmp t)=.hh dF:=MM;rw[e]at this;exact this
   obtain⟨⟨I,oV⟩,cL,Y,aS,ML,eA⟩:=ba.eL dF aK L n false uo;have agy:lN.hD C.P ⟨dF,aK,L,I⟩:=oV ▸ cL;rw[oV]at eA;have eA:=lN.zw.1 eA;obtain⟨fn,tmps,assign,body,E,U⟩:=agy.yield eA ba.db (λr h=>⟨(aS r h).1,(aS r h).2.1⟩) Hl dX;have c7:(execOp a.eval o).run C.P w=.ok (.round dF fn tmps assign body) w:=by
    simp only[execOp,af,Sem.run_bind,resolve,ae,Deferred.ofValue,Sem.run_pure,Result.andThen_ok,invoke];grind
   refine⟨λ_ _=>trivial,?_⟩;rw[zL (by grind),c7,Oper.uponIn_round];refine⟨λaE=>(by cases aE),?_⟩;have ag:RoundIn (dR C.r) 0 C.P dF fn tmps assign body w _:=U;refine ag.mono λe w' ⟨b,ek,Hk,he,g1,ei,g3,g4,g5,g6,g7,g8⟩=>?_;subst he;refine hm.2 b trivial _ _ ⟨κ,ek,bl.set ?_ bg (fe.2 rfl)⟩;exact ba.round oV cL aS ML g1 ei g3 g4 g5 g6 g7 g8
  grind
 grind
end
end Go.Fer
namespace Go.Fer
open Go.RowKit
section
variable {C:b9} {T:Nat->ab} {bf:Nat->Option aN} {s:aB} {res:eB}
theorem TN{ms:Array MapEntry}{j:Nat}(aF:j<ms.size)(hu:∀ i (h:i<ms.size),ms[i].born=ms[j].born->i=j):ms.findIdx? (λe=>(e.born:Int) == (ms[j].born:Int))=some j:=by
 rw[Array.findIdx?_eq_some_iff_getElem];grind
theorem agz(ms:Array MapEntry)(e:MapEntry)(f:MapEntry->MapEntry):(ms.push e).modify ms.size f=ms.push (f e):=by
 grind
theorem agA(ms:Array MapEntry)(j:Nat)(f g:MapEntry->MapEntry):(ms.modify j f).modify j g=ms.modify j λe=>g (f e):=by
 grind
theorem Az{a:Act}{d:Nat}{v:Value}{x:Operand}(h:x≠.tmp d):(a.put (some d) v).eval x=a.eval x:=Act.eval_put λvo e=>by grind
theorem DA{a:Act}{d:Nat}{v:Value}(h:d<a.tmps.size):(a.put (some d) v).eval (.tmp d)=v:=by
 simp[Act.put,Act.eval,Array.getD_eq_getD_getElem?,h]
theorem agB(aV:dS C.P T){gE gF k0 km:Oper}{d1 d2:Nat}{ty:TypeId}{m x y:Operand}(E:gE.op=.mapEntry ty m x)(t1:gE.dst=some d1)(U:gF.op=.extract (.tmp d1) 1)(t2:gF.dst=some d2)
  (ag:k0.op=.entryStore ty m (.tmp d2) y) (t3:k0.dst=none) (ig:km.op=.mapUpdate ty m x y) (MN:km.dst=none) (kn:m≠.tmp d1) (pQ:m≠.tmp d2) (x2:y≠.tmp d1) (sQ:y≠.tmp d2) (qD:d1<C.nt) (h0:d2<C.nt)
  (h:(bt C.aO T bf (a1 C.aO s.az) km).run s.aa=some res) {a:Act} {w:World} {κ:Nat->bB} {F:Nat->Prop} {Q:Exit->Act->World->Prop} {K:Act->World->Prop} (M:bl C s a w κ F) (bc:res.cb) (hc:res.c)
  (iN:∀ a' w',ct C (((s.h' none res).set (some d1) .undef).set (some d2) .undef) a' w'->K a' w') :
  gE.wpIn (dR C.r) 0 C.P a w (λca b'=>gF.wpIn (dR C.r) 0 C.P ca b' (λa2 c8=>k0.wpIn (dR C.r) 0 C.P a2 c8 K Q) Q) Q:=by
 have kY:=Ln aV MN (.inl ig) h a w κ F Q M bc hc;rw[MN]at kY;have ay:∀ c,gE.op≠.defer c:=by grind
 have aP:∀ c,gF.op≠.defer c:=by grind
 have cw:∀ c,k0.op≠.defer c:=by grind
 have agC:∀ c,km.op≠.defer c:=by grind
 simp only[bt,ig,rn]at h;split at h
 ·rename_i k v aM;obtain⟨lq,z6,G,m_,hk⟩:=(aV.cc aM (by simp)).mp;obtain⟨inf,mC,i1,i2,i3,i4,i5,i6⟩:=kA hk.kz;split at h
  ·rename_i x3;split at h
   ·rename_i b g uh;simp only[aq.e2,Option.bind_eq_some_iff,aq.run_bind,aq.e1,aq.bM]at h;obtain⟨⟨dI,oJ⟩,ah,⟨m',oK⟩,aS,h⟩:=h;split at h
    ·rename_i aC;obtain⟨aC,qz⟩:=aC;have qz:b ∉ oJ++oK:=by
      grind
     split at h
     ·rename_i k' h8 es W;simp only[Option.map_eq_some_iff]at h;obtain⟨SA,pC,rfl⟩:=h;obtain⟨e,rfl⟩:=kU pC;cases e;obtain⟨F',f1,ba,f2⟩:=bl.ln ((mX ah).append (mX aS)) M;have hm:bz C.P s.aa κ F w (use (a1 C.aO s.az m)).2 (a.eval m):=cN M m rfl bc.1;rw[uh]at hm;have kZ:=hm.2 aC.symm (by rw[W];rfl);have ui:=mv M.bC f1 ah f2.left (cN M x rfl bc.2.1);have pF:(s.cz (oJ++oK)).aa b=s.aa b:=by simp only[aB.cz];grind
      have aT:=ba.bC b;unfold cD at aT;rw[pF,W]at aT;obtain⟨ms,clk,hw,uj⟩:=aT;have fi:k.kW=true/\k.kc<=100:=by simpa [tY]using x3
      have ea:=(C3 (em:=false) k 10000 fi.1 (by omega)).1 m_ ui;have kE:=uj.es;obtain⟨f,dh,dK⟩:=xy (β:=v.aj) (xs:=es) (es:=ms.toList) x3 m_ ui kE.1 (λj e p E U=>(kE.2 j e p E U).1);have eU:(getObj (κ b).aa).run C.P w=.ok (.map ms clk) w:=by simp[getObj,Sem.run,hw]
      obtain⟨hx,Lo,Gq,SB⟩:=uj;have uz:d1<a.tmps.size:=by have:=M.dE;omega
      have ck:(κ b).aa<w.heap.size:=(Array.getElem?_eq_some_iff.1 hw).1;have chain:∀ (b' c8:World) (u:Value) (n:Int),(execOp a.eval gE).run C.P w=.ok (.value (.tuple #[u,goInt n])) b'->(Instr.entryStore ty (.map (some (κ b).aa)) (goInt n) (a.eval y)).run C.P b'=.ok () c8->
        (execOp a.eval km).run C.P w=.ok .skip c8->
        gE.wpIn (dR C.r) 0 C.P a w (λca b'=>gF.wpIn (dR C.r) 0 C.P ca b' (λa2 c8=>k0.wpIn (dR C.r) 0 C.P a2 c8 K Q) Q) Q:=by
       intro b' c8 u n cg cJ agD;have ki:=kY.2;rw[zL agC,agD,Oper.uponIn_skip,MN]at ki;refine hy ay cg ?_;rw[t1];have agE:(a.put (some d1) (.tuple #[u,goInt n])).eval (.tmp d1)=.tuple #[u,goInt n]:=DA uz;refine hy (v:=goInt n) (w':=b') aP (by simp[execOp,U,agE,Instr.extract]) ?_;rw[t2];have agF:d2<(a.put (some d1) (.tuple #[u,goInt n])).tmps.size:=by have:=M.dE;simp[Act.put];omega
       have agG:((a.put (some d1) (.tuple #[u,goInt n])).put (some d2) (goInt n)).eval (.tmp d2)=goInt n:=DA agF;have MO:((a.put (some d1) (.tuple #[u,goInt n])).put (some d2) (goInt n)).eval m=.map (some (κ b).aa):=by rw[Az pQ,Az kn,kZ]
       have agH:((a.put (some d1) (.tuple #[u,goInt n])).put (some d2) (goInt n)).eval y=a.eval y:=by rw[Az sQ,Az x2]
       refine Gb cw (w':=c8) (by simp only[execOp,ag,agG,MO,agH,Sem.run_bind,cJ,Result.andThen_ok,Sem.run_pure]) ?_;rw[t3];refine iN _ _ ?_;obtain⟨κ',F',ki⟩:=ki;exact⟨κ',F',bl.set (bl.set (d:=some d1) (av:=.undef) ki (λi e=>by grind) trivial) (λi e=>by grind) trivial⟩
      rcases dK with⟨rfl,eC⟩ | ⟨j,e,p,g1,ei,g3,g4,rfl⟩
      ·refine chain { w with heap:=w.heap.setIfInBounds (κ b).aa (.map (ms.push { key:=a.eval x,val:=mC,born:=clk }) (clk+1)) } { w with heap:=w.heap.setIfInBounds (κ b).aa (.map (ms.push { key:=a.eval x,val:=a.eval y,born:=clk }) (clk+1)) } mC clk ?_ ?_ ?_
       ·simp only[execOp,E,kZ,Instr.mapEntry,Sem.run_bind,dB G,Result.andThen_ok,eU,ea,dh,rp i1 i4,sE hw,Sem.run_pure]
       ·have MP:(getObj (κ b).aa).run C.P { w with heap:=w.heap.setIfInBounds (κ b).aa (.map (ms.push { key:=a.eval x,val:=mC,born:=clk }) (clk+1)) }=.ok (.map (ms.push { key:=a.eval x,val:=mC,born:=clk }) (clk+1)) { w with heap:=w.heap.setIfInBounds (κ b).aa (.map (ms.push { key:=a.eval x,val:=mC,born:=clk }) (clk+1)) }:=by simp[getObj,Sem.run,ck]
        have MQ:(ms.push { key:=a.eval x,val:=mC,born:=clk }).findIdx? (λe=>(e.born:Int) == (clk:Int))=some ms.size:=by
         have:=TN (ms:=ms.push { key:=a.eval x,val:=mC,born:=clk }) (j:=ms.size) (by simp) λi G he=>by
          grind
         grind
        simp only[Instr.entryStore,Sem.run_bind,MP,Result.andThen_ok,goInt,asInt,asIntOf,Sem.run_pure,MQ];rw[sE (es:=ms.push { key:=a.eval x,val:=mC,born:=clk }) (clk:=clk+1) (by grind),agz];simp
       ·simp only[execOp,ig,kZ,Instr.mapUpdate,Sem.run_bind,dB G,Result.andThen_ok,eU,ea,dh,sE hw,Sem.run_pure]
      ·have aF:j<es.length:=(List.getElem?_eq_some_iff.1 ei).1;have xz:j<ms.size:=by omega
       have Lq:ms[j]=e:=by
        grind
       obtain⟨js,b',cg,cJ,et⟩:=Lm C.P w e.key (a.eval x);have lX:b'.heap[(κ b).aa]?=some (.map ms clk):=by rcases et with rfl | rfl<;>exact hw
       have TO:(κ b).aa<b'.heap.size:=(Array.getElem?_eq_some_iff.1 lX).1;have n1:((ms[j]?).map (·.key)).getD (a.eval x)=e.key:=by
        grind
       have MR:((ms[j]?).map (λx=>(x.born:Int))).getD 0=(ms[j].born:Int):=by grind
       rw[Nat.zero_add]at dh;refine chain { b' with heap:=b'.heap.setIfInBounds (κ b).aa (.map (ms.modify j λe=>{ e with key:=js }) clk) } { b' with heap:=b'.heap.setIfInBounds (κ b).aa (.map (ms.modify j λe=>{ e with key:=js,val:=a.eval y }) clk) } e.val ms[j].born ?_ ?_ ?_
       ·simp only[execOp,E,kZ,Instr.mapEntry,Sem.run_bind,dB G,Result.andThen_ok,eU,ea,dh];rw[n1,cg];simp only[Result.andThen_ok,sE lX,Sem.run_pure,MR]
       ·have MP:(getObj (κ b).aa).run C.P { b' with heap:=b'.heap.setIfInBounds (κ b).aa (.map (ms.modify j λe=>{ e with key:=js }) clk) }=.ok (.map (ms.modify j λe=>{ e with key:=js }) clk) { b' with heap:=b'.heap.setIfInBounds (κ b).aa (.map (ms.modify j λe=>{ e with key:=js }) clk) }:=by simp[getObj,Sem.run,TO]
        have mD:∀ i (h:i<(ms.modify j λe=>{ e with key:=js }).size),((ms.modify j λe=>{ e with key:=js })[i]).born=(ms[i]'(by grind)).born:=by
         grind
        have MQ:(ms.modify j λe=>{ e with key:=js }).findIdx? (λe=>(e.born:Int) == (ms[j].born:Int))=some j:=by
         have:=TN (ms:=ms.modify j λe=>{ e with key:=js }) (j:=j) (by grind) λi G he=>by
          grind
         grind
        simp only[Instr.entryStore,Sem.run_bind,MP,Result.andThen_ok,goInt,asInt,asIntOf,Sem.run_pure,MQ];rw[sE (es:=ms.modify j λe=>{ e with key:=js }) (clk:=clk) (by grind),agA];simp
       ·simp only[execOp,ig,kZ,Instr.mapUpdate,Sem.run_bind,dB G,Result.andThen_ok,eU,ea,dh];rw[n1,cg];simp only[Result.andThen_ok,sE lX,Sem.run_pure]
     grind
    grind
   ·cases h
  ·cases h
 ·cases h
end
end Go.Fer
namespace Go.Fer
open Go.RowKit
structure DB(P:Program)(k:FuncId)(c:Ak):Prop where
 enter:∀ args w,(callFunc k args).run P w=.ok (.enter k args) w
 iW:∀ (l:Nat) (I:List c.aK.aj->Bool->(Nat->Prop)->(Nat->Prop)->World->Prop) (F Y:Nat->Prop) (w:World) (args:List Value) (x:c.ts.aj),fp P c.ts F w args x->c.pre x->lN.hD P ⟨l,c.aK,λT=>T=c.seq x,I⟩->
  (∀ r,F r->r<w.heap.size)->nT P F w->(∀ r,Y r->r<w.heap.size/\¬F r)->I [] false F Y w->Calls P k (args++[Value.func (.yield l) #[] #[]]).toArray w λe w'=>
   ∃ v pre st F' gC,e=.returned v/\(st=false->pre=c.seq x)/\I pre st F' gC w'/\(∀ r,F r->F' r)/\(∀ r,F' r->F r\/Y r\/w.heap.size<=r)/\(∀ r,F' r->r<w'.heap.size)/\
    (∀ r,r<w.heap.size->¬Y r->w'.heap[r]?=w.heap[r]?)/\(∀ r,gC r->(Y r\/w.heap.size<=r)/\r<w'.heap.size/\¬F' r)/\w.heap.size<=w'.heap.size/\dd w w'
def e3.hD(P:Program)(aQ:dD)(k:FuncId):e3->Prop
 | .dv c=>h7 P k c.ts c.aX c.sh/\(c.dQ=true->∀ x,(c.sh x).De)
 | .e_ c=>cR P aQ k c
 | .cr c=>DB P k c
 | .L7 c=>h7 P k c.ts c.aX c.sh/\Rz P k c.ts c.aX c.sh
 | .GN c sh ids=>∀ k∈ids,cR P aQ k { c with sh:=sh k }
 | .kJ c=>nW c.aX=true/\CZ P k c
def l2(P:Program)(aQ:dD)(Ψ:Nat->Option e3):Prop:=∀ k c,Ψ k=some c->c.hD P aQ k
section
variable {C:b9} {T:Nat->ab} {bf:Nat->Option aN} {Ψ:Nat->Option e3} {s:aB} {o:Oper} {Q:Exit->Act->World->Prop} {ops:Array Oper}
theorem agI(cA:jq C.P bf)(cX:l2 C.P C.aO Ψ){k:Nat}{c:hJ}(h:L8 bf Ψ k=some c):h7 C.P k c.ts c.aX c.sh:=by
 unfold L8 at h;split at h
 ·rename_i c' jO;cases h;have:e3.hD C.P C.aO k (.dv c):=cX k _ jO;exact this.1
 ·cases h
 ·obtain⟨f,au,h⟩:=Option.bind_eq_some_iff.1 h;split at h
  ·cases h
  ·rename_i he;cases h;exact (cA k f au).1 (by simpa using he)
theorem agJ{P:Program}{w:World}{ty j:TypeId}(aF:P.underlying ty=some (.slice j))(q:Option Addr)(n cap d:Nat):(Op.equalIn (d+1) ty (.slice q n cap) (.slice none 0 0)).run P w=.ok q.isNone w:=by
 cases q<;>simp[Op.equalIn,dB aF]
theorem agK{P:Program}{w:World}(op:BinOp)(t:TypeId)(x y:Operand)(q q':Option Addr)(n i_ cap cap':Nat):(eqGuard op t x y (.slice q n cap) (.slice q' i_ cap')).run P w=.ok () w:=by
 cases op<;>simp[eqGuard]
theorem TP{P:Program}{w:World}{ty j:TypeId}{x y:Operand}(aF:P.underlying ty=some (.slice j))(q:Option Addr)(n cap:Nat) :
  (do eqGuard .eql ty x y (.slice q n cap) (.slice none 0 0);binOp .eql ty (.slice q n cap) (.slice none 0 0):Sem Value).run P w=.ok (.bool q.isNone) w/\(do eqGuard .neq ty x y (.slice q n cap) (.slice none 0 0);binOp .neq ty (.slice q n cap) (.slice none 0 0):Sem Value).run P w=.ok (.bool (!q.isNone)) w:=by
 have h:(Op.equalIn 10000 ty (.slice q n cap) (.slice none 0 0)).run P w=.ok q.isNone w:=agJ (w:=w) aF q n cap 9999;constructor<;>simp[agK,binOp,Op.equal,Op.maxDepth,h]
theorem agL(aV:dS C.P T)(bg:∀ i,o.dst=some i->i<C.nt){op:BinOp}{ty mV:TypeId}{x y:Operand}(af:o.op=.binOp op ty x y mV){cd:hY}(h:Dk C.aO T s o op ty x y=some cd):qH C o s cd:=by
 have zO:∀ c,o.op≠.defer c:=by grind
 unfold Dk at h;split at h
 ·rename_i e aM agM;have dq:=aV.cc aM (by simp);obtain⟨j,aF,_⟩:=dq.sl;split at h
  ·rename_i xs l hV;have key:∀ (a:Act) (w:World) (κ:Nat->bB) (F:Nat->Prop),bl C s a w κ F->(use (a1 C.aO s.az x)).1->∃ b:Bool,(b=true->xs=[])/\(op=.eql->(execOp a.eval o).run C.P w=.ok (.value (.bool b)) w)/\(op=.neq->(execOp a.eval o).run C.P w=.ok (.value (.bool (!b))) w):=by
    intro a w κ F M bc;have ah:=CF M hV (cN M x rfl bc);obtain⟨_,q,cap,ay,m1,m2,m3,_⟩:=(dU rfl).1 ah;have ay:=(List.cons.inj ay).1;have aS:a.eval y=.slice none 0 0:=by
     have:=kd M y;rw[agM]at this;exact this
    refine⟨q.isNone,λbq=>?_,λkY=>?_,λkY=>?_⟩
    ·simp_all
    ·subst kY;have M:=(TP (w:=w) (x:=x) (y:=y) aF q xs.length cap).1;rw[<-ay,<-aS]at M;simp only[execOp,af,Sem.run_bind]at M ⊢;simp_all
    ·subst kY;have M:=(TP (w:=w) (x:=x) (y:=y) aF q xs.length cap).2;rw[<-ay,<-aS]at M;simp only[execOp,af,Sem.run_bind]at M ⊢;simp_all
   split at h
   ·cases h;refine⟨λa w Q K M bc hm=>?_,λgs oU=>(by grind),λW=>W x (by rw[af];simp[Op.operands])⟩;obtain⟨κ,F,M⟩:=M;obtain⟨b,ds,ec,_⟩:=key a w κ F M bc;exact hy zO (ec rfl) (hm.2 b ds _ _ ⟨κ,F,bl.set M bg (fe.2 rfl)⟩)
   ·cases h;refine⟨λa w Q K M bc hm=>?_,λgs oU=>(by grind),λW=>W x (by rw[af];simp[Op.operands])⟩;obtain⟨κ,F,M⟩:=M;obtain⟨b,ds,_,ec⟩:=key a w κ F M bc;exact hy zO (ec rfl) (hm.2 b ds _ _ ⟨κ,F,bl.set M bg (fe.2 rfl)⟩)
   grind
  grind
 grind
theorem MS(aV:dS C.P T)(cA:jq C.P bf)(cX:l2 C.P C.aO Ψ)(bg:∀ i,o.dst=some i->i<C.nt){cd:hY}(h:rI C.aO T bf Ψ s o=some cd):qH C o s cd:=by
 unfold rI at h;split at h
 ·rename_i c af;obtain⟨callee,args,dp⟩:=c;split at h
  ·rename_i f au;simp only at au;subst au;split at h
   ·split at h
    ·rename_i c' jO;exact agv bg af (cX _ _ jO) h
    ·rename_i c' jO;have ag:e3.hD C.P C.aO _ (.L7 c'):=cX _ _ jO;exact af8 bg af ag.1 ag.2 h
    ·split at h
     ·rename_i dv MT;exact af7 bg af (agI cA cX MT) h
     grind
   ·split at h
    ·rename_i r M;cases h;exact af9 bg af M
    ·split at h
     ·rename_i r M;cases h;exact agw bg af (λc sh ids hc=>cX _ _ hc) M
     ·exact agx bg af h
   grind
  grind
 ·rename_i ty x af;exact af_ aV bg af h
 ·rename_i x str af;exact agc bg af h
 ·rename_i x af;exact af' bg af h
 ·rename_i op ty x y mV af;exact agL aV bg af h
 grind
theorem TQ(want b:Bool):((some b == some want:Bool))=Gz want b:=by cases want<;>cases b<;>rfl
theorem TR{a:Act}{j d:Nat}{rO:Oper}(E:ops[j]?=some rO)(U:rO.dst=some d){b:Bool}(h:a.tmps.getD d Go.undef=.bool b):yielded ops a.tmps j=some b:=by
 have:a.tmps[d]?=some (.bool b):=by
  rw[Array.getD_eq_getD_getElem?]at h;cases he:a.tmps[d]? with
  | none=>rw[he]at h;cases h
  | some v=>grind
 simp[yielded,E,U,this]
theorem agN{a:Act}{j d:Nat}{rO:Oper}(E:ops[j]?=some rO)(U:rO.dst=some d)(h:a.tmps.getD d Go.undef=Go.undef):yielded ops a.tmps j=none:=by
 unfold yielded;rw[E];simp only[Option.bind_some,U];rw[Array.getD_eq_getD_getElem?]at h;cases he:a.tmps[d]? with
 | none=>rfl
 | some v=>rw[he]at h;cases h;rfl
theorem MU{a:Act}{w:World}{κ:Nat->bB}{F:Nat->Prop}(M:bl C s a w κ F){g:Option Bool}(h:kF s.az ops o.guard=some g) :
  Region.wanted o (yielded ops a.tmps)=g.getD true:=by
 unfold Region.wanted;cases aC:o.guard with
 | none=>rw[aC]at h;cases h;rfl
 | some p=>
  obtain⟨j,want⟩:=p;rw[aC]at h;simp only[kF]at h ⊢;split at h
  ·rename_i rO aF;split at h
   ·rename_i d ar;have aE:=M.bT d;split at h
    ·rename_i b W;cases h;rw[W]at aE;rw[TR aF ar (fe.1 aE),TQ];rfl
    ·rename_i g' b W;cases h;rw[W]at aE;obtain⟨E,U⟩:=aE;cases g' with
     | true=>
      rw[TR aF ar (fe.1 (E rfl)),TQ];simp
     | false=>
      rw[agN aF ar (U rfl)];rfl
    grind
   grind
  grind
theorem agO{cb c:Prop}{e7 sL:aH}{hG xR:List (Nat×bK)}(aC:Dl o e7 hG=some (xR,sL))(h:(bt C.aO T bf (a1 C.aO s.az) o).run s.aa=some ⟨cb,c,e7,hG⟩) :
    (∀ a w,ct C (s.h' o.dst ⟨cb,c,e7,hG⟩) a w->ct C ((s.f_ xR).set o.dst sL) a w)/\(∀ a w κ F,bl C s a w κ F->∃ κ' F',bl C (s.f_ xR) a w κ' F'):=by
  unfold Dl at aC;split at aC
  · cases aC
    exact⟨λa w h=>h,λa w κ F h=>⟨κ,F,h⟩⟩
  · rename_i p dF
    split at aC
    · rename_i MV first c1 af
      cases aC
      refine⟨λa w h=>h,λa w κ F M=>?_⟩
      simp only[bt,af]at h
      split at h
      · split at h
        · split at h
          · simp only[aq.e2,Option.bind_eq_some_iff,aq.run_bind,aq.bM,Option.some.injEq]at h
            obtain⟨⟨y,l⟩,aS,he⟩:=h
            obtain⟨F',_,ba,_⟩:=bl.ln (qB _ aS) M
            have he:(jK l).run s.aa=p::dF:=by grind
            rw[<-he,t_]
            grind
          · split at h
            · simp only[aq.e2,Option.bind_eq_some_iff,aq.run_bind,aq.bM,Option.some.injEq]at h
              obtain⟨⟨y,l⟩,aS,he⟩:=h
              obtain⟨F',_,ba,_⟩:=bl.ln (qB _ aS) M
              have he:(jK l).run s.aa=p::dF:=by grind
              rw[<-he,t_]
              grind
            · simp only[bO,aq.bM,Option.some.injEq]at h
              cases h
        · split at h
          · simp only[bO,aq.bM,Option.some.injEq]at h
            cases h
          · cases h
      · cases h
    · rename_i ty n ps af
      split at aC
      · rename_i be g' e xs bS
        split at aC
        · rename_i agP
          obtain⟨⟨rfl,rfl⟩,_⟩:=agP
          cases aC
          obtain⟨b,⟨agQ,iM⟩⟩:=p
          simp only at bS
          subst bS
          have lp:o.dst=some b/\agQ=(s.aa b).gen+1:=by
            simp only[bt,af]at h;split at h
            · simp only[aq.e2,Option.bind_eq_some_iff,aq.run_bind]at h
              obtain⟨⟨ys,bV⟩,_,h⟩:=h
              obtain⟨b0,Aa,al⟩:=rr h
              grind
            · cases h
          obtain⟨bg,rfl⟩:=lp
          refine⟨λa w ki=>?_,λa w κ F M=>?_⟩
          · obtain⟨κ,F,M⟩:=ki
            rw[bg]at M ⊢
            simp only[aB.h',aB.f_]at M
            have ah:(dz (.slice e) (.an b ((s.aa b).gen+1))).run ((s.cx b ⟨(s.aa b).gen+1,.bh e xs⟩).set (some b) (.an b ((s.aa b).gen+1))).aa=some (xs,[b]):=by
              simp[dz,ky,dW,aB.set,aB.cx,eS,ab.eG]
            obtain⟨AA,f1,gQ,f2⟩:=bl.ln (mX ah) M
            have aE:=M.bT b
            have ae:=mv (v:=a.tmps.getD b undef) M.bC f1 ah f2 (by simpa [aB.set]using aE)
            have fk:∀ i,i≠b->((s.cx b ⟨(s.aa b).gen+1,.bh e xs⟩).set (some b) (.an b ((s.aa b).gen+1))).az i=s.az i:=λi G=>by simp[aB.set,aB.cx,G]
            have cM:bl C ⟨λi=>if i=b then .val (.slice e) xs else s.az i,(((s.cx b ⟨(s.aa b).gen+1,.bh e xs⟩).set (some b) (.an b ((s.aa b).gen+1))).cz [b]).aa⟩ a w κ AA:=
              { gQ with
                dE:=gQ.dE,dfr:=gQ.dfr,bC:=gQ.bC
                bT:=λi=>by
                  show bz _ _ _ _ _ (if i=b then .val (.slice e) xs else s.az i) _;split
                  · rename_i G
                    subst G
                    exact ae
                  · rename_i G
                    rw[<-fk i G]
                    exact gQ.bT i
                eL:=λl aK L n st aZ=>by
                  have aZ:(if b5=b then aH.val (.slice e) xs else s.az b5)=.aX l aK L n st:=aZ;split at aZ
                  · cases aZ
                  · rename_i G
                    exact gQ.eL l aK L n st ((fk b5 G).trans aZ) }
            refine⟨κ,AA,cM.zB ⟨λi=>.inl ?_,λi=>?_⟩⟩
            · rfl
            · by_cases G:i=b
              · subst G
                right
                simp[aB.set,aB.f_,aB.cx,aB.cz,fh]
              · left
                simp[aB.set,aB.f_,aB.cx,aB.cz,G]
          · have aw:=Ms M (b:=b) (e:=e)
            refine⟨_,F,aw.zB ⟨λi=>.inl rfl,λi=>?_⟩⟩
            by_cases G:i=b
            · subst G
              right
              simp[aB.f_,aB.cx]
            · left
              simp[aB.f_,aB.cx,G]
        grind
      grind
    grind
theorem sR{β:Type}{b:Bool}{p:Prop}{m:A β}{O:β->Prop}(W:b=true->p):A.cv (sJ b p m) O<->p/\A.cv m O:=by
 cases b with
 | true=>exact⟨λh=>⟨W rfl,h⟩,λh=>h.2⟩
 | false=>exact A.kS
def qK(ops:Array Oper)(s:aB)(tg:pM):Prop:=∀ p∈tg,∃ b a,s.az p.1=.hE b a/\kF s.az ops (some p.2)=some (some b)
theorem agR{j d:Nat}:sK ops j d=true<->d∈GA ops (some (j,true)):=by
 have key:∀ (x:Option Oper),(match x with | some o=>(match o.dst with | some e=>e == d | none=>false) | none=>false)=true<->d∈(match x with | some o=>o.dst.toList | none=>[]):=by
  grind
 exact key _
theorem qK.hn{s':aB}{tg:pM}(h:qK ops s tg)(aE:∀ i,o.dst≠some i->s'.az i=s.az i)
  (ar:∀ d k,o.dst=some d->o.guard=some k->∃ b a,s'.az d=.hE b a/\kF s.az ops (some k)=some (some b)):qK ops s' (xP ops tg o):=by
 unfold xP;cases bg:o.dst with
 | none=>
  intro p ao;obtain⟨b,a,E,U⟩:=h p ao;refine⟨b,a,(aE _ (by grind)).trans E,?_⟩;rw[<-U];exact LK λt _=>aE t (by grind)
 | some d=>
  have congr:∀ k:Nat×Bool,sK ops k.1 d=false->kF s'.az ops (some k)=kF s.az ops (some k):=λk al=>LK λt aM=>aE t (by
   rw[bg];intro e;cases e;have:sK ops k.1 d=true:=agR.2 aM;grind)
  have vA:qK ops s' (tg.filter λp=>p.1 != d&&!sK ops p.2.1 d):=by
   intro p ao;simp only[List.mem_filter,Bool.and_eq_true,bne_iff_ne,ne_eq,Bool.not_eq_true']at ao;obtain⟨b,a,E,U⟩:=h p ao.1;grind
  simp only;split
  ·rename_i k al;split
   ·omega
   ·rename_i TS;intro p ao;rcases List.mem_cons.1 ao with rfl | ao
    ·grind
    ·exact vA p ao
  omega
section
variable {aQ:dD} {tg:pM} {gk:Option (Nat×Bool)}
theorem DC(aV:qK ops s tg)(aC:∀ k,gk=some k->kF s.az ops (some k)=some (some true)){x:Operand}(h:xQ (a1 aQ s.az) tg gk x=true):(use (a1 aQ s.az x)).1:=by
 unfold xQ at h;rw[Bool.or_eq_true]at h;rcases h with h | h
 ·exact Gx (by grind)
 ·split at h
  ·rename_i t k;obtain⟨p,ao,vG⟩:=List.any_eq_true.1 h;simp only[Bool.and_eq_true,beq_iff_eq]at vG;obtain⟨rfl,E,U⟩:=vG;have vG:p.2=k:=Prod.ext E U;obtain⟨b,a,aR,aW⟩:=aV p ao;rw[vG,aC k rfl]at aW;cases aW;have e:a1 aQ s.az (.tmp p.1)=s.az p.1:=rfl;rw[e,aR];rfl
  grind
theorem TT(aV:qK ops s tg)(aC:∀ k,gk=some k->kF s.az ops (some k)=some (some true))(h:L' (a1 aQ s.az) tg gk o=true):rC (a1 aQ s.az) o:=
 λx ah=>DC aV aC (List.all_eq_true.1 h x ah)
theorem TU(aV:qK ops s tg){c x:Operand}{want:Bool}{qw:Prop}{i':Bool}(hc:use (a1 aQ s.az c)=(qw,.val .bool i'))(DD:qw)(h:GY ops tg c x want=true)(hw:Gz want i'=true):(use (a1 aQ s.az x)).1:=by
 unfold GY at h;split at h
 ·rename_i c t;obtain⟨p,ao,vG⟩:=List.any_eq_true.1 h;simp only[Bool.and_eq_true,beq_iff_eq]at vG;obtain⟨rfl,E,rfl⟩:=vG;obtain⟨b,a,aR,aW⟩:=aV p ao;have e:a1 aQ s.az (.tmp p.1)=s.az p.1:=rfl;rw[e,aR];show b=true;unfold sK at E;have x4:p.2=(p.2.1,p.2.2):=rfl;rw[x4]at aW;unfold kF at aW;have jO:use (s.az c)=(qw,.val .bool i'):=hc;split at E
  ·rename_i rO aF;split at E
   ·rename_i d ar;have agS:d=c:=by grind
    subst agS;simp only[aF,ar]at aW;split at aW
    ·rename_i b0 Aa;rw[Aa]at jO;simp only[use,Prod.mk.injEq,aH.val.injEq,heq_eq_eq,true_and]at jO;grind
    ·rename_i g0 b0 Aa;rw[Aa]at jO;simp only[use,Prod.mk.injEq,aH.val.injEq,heq_eq_eq,true_and]at jO;grind
    grind
   grind
  grind
 grind
theorem Hm(aV:qK ops s tg)(aC:∀ k,gk=some k->kF s.az ops (some k)=some (some true))(h:Al (a1 aQ s.az) ops tg gk o=true):(bt aQ T bf (a1 aQ s.az) o).cV (ls λr=>r.cb):=by
 cases af:o.op with
 | pick c a b=>
  simp only[Al,af,Bool.and_eq_true,Bool.or_eq_true]at h;obtain⟨E,U,ag⟩:=h;unfold bt;rw[af];simp only;split
  ·rename_i qw i' lY;have DD:qw:=by have:=DC aV aC E;grind
   split
   ·split
    ·rename_i zI av a_;refine .bO ⟨DD,λae=>?_⟩;have:(use (a1 aQ s.az a)).1:=by
      rcases U with U | U
      ·exact DC aV aC U
      ·exact TU aV lY DD U ae
     grind
    ·exact .bW
   ·split
    ·rename_i zI av a_;refine .bO ⟨DD,λae=>?_⟩;have:(use (a1 aQ s.az b)).1:=by
      rcases ag with ag | ag
      ·exact DC aV aC ag
      ·exact TU aV lY DD ag (by subst ae;rfl)
     grind
    ·exact .bW
   ·exact .bW
  ·exact .bW
 | _=>
  simp only[Al,af]at h;exact SR (TT aV aC h)
theorem agT(aV:qK ops s tg)(aC:∀ k,gk=some k->kF s.az ops (some k)=some (some true)){cb c:Prop}{e7 sL:aH}{hG xR:List (Nat×bK)}(hw:Dl o e7 hG=some (xR,sL))(M:(bt aQ T bf (a1 aQ s.az) o).run s.aa=some ⟨cb,c,e7,hG⟩)
  (h:Ma (a1 aQ s.az) tg gk o sL=true):(use sL).1:=by
 unfold Ma at h;rw[Bool.or_eq_true]at h;rcases h with h | h
 ·exact Gx (by grind)
 ·split at h
  ·rename_i x af;simp only[bt,af,bO,aq.bM,Option.some.injEq,eB.mk.injEq]at M;obtain⟨_,_,rfl,rfl⟩:=M;simp only[Dl,Option.some.injEq,Prod.mk.injEq]at hw;obtain⟨_,rfl⟩:=hw;exact DC aV aC h
  grind
end
theorem aB.DE{s:aB}{d:Option Nat}{v:aH}{i:Nat}(h:d≠some i):(s.set d v).az i=s.az i:=by
 cases d with
 | none=>rfl
 | some d=>simp only[aB.set];grind
theorem aB.MW{s:aB}{d:Nat}{v:aH}:(s.set (some d) v).az d=v:=by simp[aB.set]
theorem aB.Ag:∀ (l:List (Nat×bK)) (s:aB),(s.f_ l).az=s.az
 | [],_=>rfl
 | p::l,s=>by
  have:=aB.Ag l (s.cx p.1 p.2);exact this
theorem agU{aQ:dD}{cd:hY}{gs:Bool->cd.ak->aB}(h:rI aQ T bf Ψ s o=some cd)(aC:cd.Df=some gs):∀ g y,∃ v,(gs g y).az=(s.set o.dst (.hE g v)).az:=by
 have after:∀ (t:ab) (bV:List Nat) (v:aH),(rF s o t bV v).az=(s.set o.dst v).az:=λt bV v=>by
  unfold rF;split
  ·rfl
  ·cases o.dst<;>rfl
 have dv:∀ {args:List Operand} {c:hJ} {cd:hY} {gs:Bool->cd.ak->aB},Dg aQ s o args c=some cd->cd.Df=some gs->∀ g y,∃ v,(gs g y).az=(s.set o.dst (.hE g v)).az:=by
  intro args c cd gs h aC;unfold Dg at h;split at h
  ·cases h;cases aC;exact λg y=>⟨_,after _ _ _⟩
  grind
 have GM:∀ {t:Nat} {args:List Operand} {cd:hY} {gs:Bool->cd.ak->aB},Dh aQ s o t args=some cd->cd.Df=some gs->∀ g y,∃ v,(gs g y).az=(s.set o.dst (.hE g v)).az:=by
  intro t args cd gs h aC;unfold Dh at h;split at h
  ·split at h
   ·cases h;cases aC;exact λg y=>⟨_,after _ _ _⟩
   grind
  grind
 unfold rI at h;split at h
 ·split at h
  ·split at h
   ·split at h
    ·unfold xO at h;grind
    ·unfold GP at h;grind
    ·split at h
     ·exact dv h aC
     grind
   ·split at h
    ·rename_i M;cases h;exact GM M aC
    ·split at h
     ·rename_i M;cases h;unfold GR xO at M;grind
     ·unfold GS at h;grind
   grind
  grind
 ·unfold GU at h;grind
 ·unfold GW at h;grind
 ·unfold GX at h;grind
 ·unfold Dk at h;grind
 grind
theorem vO{x:Operand}{t:Nat}(h:ie x=some t):x=.tmp t:=by
 cases x<;>simp[ie]at h;rw[h]
theorem TV{o gF k0 km:Oper}{d1 d2:Nat}(h:Am o gF k0=some (km,d1,d2)):∃ ty m x y,o.op=.mapEntry ty m x/\o.dst=some d1/\gF.op=.extract (.tmp d1) 1/\gF.dst=some d2/\k0.op=.entryStore ty m (.tmp d2) y/\k0.dst=none/\
  km.op=.mapUpdate ty m x y/\km.dst=none/\m≠.tmp d1/\m≠.tmp d2/\y≠.tmp d1/\y≠.tmp d2/\o.guard=none/\gF.guard=none/\k0.guard=none:=by
 unfold Am at h;split at h
 ·rename_i ty m x af;split at h
  ·rename_i e x5;split at h
   ·rename_i mV dx aZ y ayk;split at h
    ·rename_i ad' K7 MX DF TW;split at h
     ·rename_i hc;simp only[Option.some.injEq,Prod.mk.injEq]at h;obtain⟨rfl,rfl,rfl⟩:=h;obtain⟨bD,c2,rfl,c4,c5,lQ,oM,xr,c9,Hg,agV,c12,agW⟩:=hc;obtain⟨oW,uA⟩:=Option.isSome_iff_exists.1 c4;have fj:=vO uA;have hm:=vO (c5.symm.trans uA);have ay:=vO bD;have aP:=vO c2;subst ay;subst aP;refine⟨mV,m,x,y,af,MX,x5,DF,?_,TW,rfl,TW,λe=>oM (by grind),λe=>xr (by grind),λe=>c9 (by grind),λe=>Hg (by grind),Option.isNone_iff_eq_none.1 agV,Option.isNone_iff_eq_none.1 c12,Option.isNone_iff_eq_none.1 agW⟩;grind
     grind
    grind
   grind
  grind
 grind
theorem MY{β:Type}(aV:dS C.P T)(cA:jq C.P bf)(cX:l2 C.P C.aO Ψ)(ar:∀ o∈ops.toList,lr o C.nt=true){k:aB->A β}{O:β->Prop}
  (al:∀ s' a' w',ct C s' a' w'->A.cv (k s') O->Q .normal a' w'):∀ (os:List Oper) (n:Nat) (tg:pM) (s:aB) (a:Act) (w:World),ops.toList.drop n=os->qK ops s tg->ct C s a w->A.cv (mB C.aO T bf Ψ ops os tg s k) O->
   wpOpsIn (dR C.r) 0 C.P ops Q (List.range' n os.length) a w:=by
 intro os;generalize hlen:os.length=len;induction len using Nat.strongRecOn generalizing os with
 | _ len TX=>
 subst hlen;cases os with
 | nil=>
  intro n tg s a w _ _ M hm;exact al s a w M hm
 | cons o os=>
  have aI:=TX os.length (by simp) os rfl;intro n tg s a w aw x6 M hm;have ck:n<ops.toList.length:=by
   grind
  rw[List.drop_eq_getElem_cons ck]at aw;injection aw with qD h0
  have eU:ops[n]?=some o:=by
   grind
  have jS:o∈ops.toList:=qD ▸ List.getElem_mem ck;have x7:=ar o jS;have bg:∀ i,o.dst=some i->i<C.nt:=λi G=>by
   have:=x7;simp only[lr,Bool.and_eq_true]at this;grind
  simp only[List.length_cons,List.range'_succ,wpOpsIn,eU];obtain⟨κ,F,eV⟩:=M;unfold mB at hm;split at hm
  ·rename_i km d1 d2 sS;cases os with
   | nil=>exact hm.1.elim
   | cons gF os=>
    cases os with
    | nil=>exact hm.1.elim
    | cons k0 os=>
     simp only at hm;split at hm
     ·rename_i res gp;obtain⟨ty,m,x,y,f1,f2,f3,f4,f5,f6,f7,f8,f9,f10,f11,f12,g1,ei,g3⟩:=TV sS;have TY:=h0;have CO:n+1<ops.toList.length:=by
       grind
      rw[List.drop_eq_getElem_cons CO]at TY;injection TY with agX TZ
      have agY:n+2<ops.toList.length:=by
       grind
      rw[List.drop_eq_getElem_cons agY]at TZ;injection TZ with ayl agZ
      have ag0:ops[n+1]?=some gF:=by
       grind
      have aym:ops[n+2]?=some k0:=by
       grind
      have DF:d2<C.nt:=by
       have:=ar gF (agX ▸ List.getElem_mem CO);simp only[lr,Bool.and_eq_true]at this;grind
      rw[A.kS,A.kS]at hm;have b':Region.wanted o (yielded ops a.tmps)=true:=by unfold Region.wanted;rw[g1]
      have c8:∀ a':Act,Region.wanted gF (yielded ops a'.tmps)=true:=λa'=>by unfold Region.wanted;rw[ei]
      have eW:∀ a':Act,Region.wanted k0 (yielded ops a'.tmps)=true:=λa'=>by unfold Region.wanted;rw[g3]
      have:=agB (Q:=Q) (K:=λa' w'=>wpOpsIn (dR C.r) 0 C.P ops Q (List.range' (n+3) os.length) a' w') aV f1 f2 f3 f4 f5 f6 f7 f8 f9 f10 f11 f12 (bg d1 f2) DF gp eV hm.1 hm.2.1
       λa' w' ba=>TX os.length (by grind) os rfl (n+3) [] _ a' w' agZ (λp ao=>by cases ao) ba hm.2.2
      rw[b'];simp only[if_true];refine Oper.wpIn_mono (λca ayn E=>?_) this;simp only[List.length_cons,List.range'_succ,wpOpsIn,ag0,c8,if_true];grind
     ·exact hm.1.elim
  split at hm
  ·exact hm.1.elim
  ·rename_i aC;have ayo:o.guard=none:=by
    cases h:o.guard with
    | none=>rfl
    | some p=>
     rw[h]at aC;simp only[kF]at aC;grind
   rw[MU eV aC];simp only[Option.getD_none,if_true];split at hm
   ·rename_i res gp;rw[sR λW=>(Hm x6 (gk:=none) (λk al=>by cases al) W).run s.aa res gp,sR λW=>(Ad W).run s.aa res gp]at hm;refine Oper.wpIn_mono (λa' w' ba=>aI (n+1) _ _ a' w' h0 (x6.hn (λi G=>?_) λd k _ al=>by grind) ba hm.2.2) (xD aV cA x7 gp a w κ F Q eV hm.1 hm.2.1);unfold aB.h';rw[aB.DE G,aB.Ag]
   ·split at hm
    ·rename_i cd oV;obtain⟨jN,qA,mz⟩:=MS aV cA cX bg oV;rw[sR λW=>mz (LC W),A.fZ]at hm;exact jN a w Q _ ⟨κ,F,eV⟩ hm.1 (hm.2.mono λy aS a' w' ba=>aI (n+1) _ _ a' w' h0 (λp ao=>by cases ao) ba aS)
    ·exact hm.1.elim
  ·rename_i g aC;have Hn:∀ k,o.guard=some k->g=true->kF s.az ops (some k)=some (some true):=λk al aM=>by grind
   rw[MU eV aC];simp only[Option.getD_some];split at hm
   ·rename_i cb c ag1 ag2 gp;split at hm
    ·rename_i hG e7 x8;obtain⟨ag3,ag4⟩:=agO x8 gp;rw[sR λW=>by
      simp only[Bool.and_eq_true]at W;exact λHo=>⟨(Hm x6 (λk al=>Hn k al Ho) W.1).run s.aa _ gp,(Ad W.2.1).run s.aa _ gp,agT x6 (λk al=>Hn k al Ho) x8 gp W.2.2⟩]at hm
     have DG:qK ops ((s.f_ hG).set o.dst (.hE g (use e7).2)) (xP ops tg o):=x6.hn (λi G=>by rw[aB.DE G,aB.Ag]) λd k ar al=>⟨g,(use e7).2,by rw[ar,aB.MW],by grind⟩
     cases g with
     | true=>
      simp only[if_true];obtain⟨E,U,ag⟩:=hm.1 rfl;refine Oper.wpIn_mono (λa' w' ba=>aI (n+1) _ _ a' w' h0 DG (ct.Mt (av':=.hE true (use e7).2) (ag3 a' w' ba) bg λκ F v ae=>⟨λ_=>pz ae ag,λh=>(by cases h)⟩) hm.2) (xD aV cA x7 gp a w κ F Q eV E U)
     | false=>
      simp only[Bool.false_eq_true,if_false];refine⟨λ_ _=>trivial,aI (n+1) _ _ _ w h0 DG ?_ hm.2⟩;obtain⟨κ',F',ag5⟩:=ag4 a w κ F eV;exact⟨κ',F',ag5.set (av:=.hE false (use e7).2) bg ⟨λh=>(by cases h),λ_=>rfl⟩⟩
    ·cases g with
     | true=>
      simp only[if_true]at hm ⊢;rw[A.kS,A.kS]at hm;exact Oper.wpIn_mono (λa' w' ba=>aI (n+1) _ _ a' w' h0 (λp ao=>by cases ao) ba hm.2.2) (xD aV cA x7 gp a w κ F Q eV hm.1 hm.2.1)
     | false=>
      simp only[Bool.false_eq_true,if_false]at hm ⊢;exact⟨λ_ _=>trivial,aI (n+1) _ _ _ w h0 (λp ao=>by cases ao) ⟨κ,F,eV.set (av:=.hE false (Tc ag2 (use ag1).2)) bg ⟨λh=>(by cases h),λ_=>rfl⟩⟩ hm⟩
   ·split at hm
    ·rename_i cd oV;obtain⟨jN,qA,mz⟩:=MS aV cA cX bg oV;split at hm
     ·rename_i gs oU;obtain⟨dh,dK⟩:=qA gs oU;rw[sR λW Ho=>mz (TT x6 (λk al=>Hn k al Ho) W),A.fZ]at hm;have DG:∀ y,qK ops (gs g y) (xP ops tg o):=λy=>by
       obtain⟨v,ae⟩:=agU oV oU g y;exact x6.hn (λi G=>by rw[ae,aB.DE G]) λd k ar al=>⟨g,v,by rw[ae,ar,aB.MW],by grind⟩
      cases g with
      | true=>
       simp only[if_true];exact jN a w Q _ ⟨κ,F,eV⟩ (hm.1 rfl) (hm.2.mono λy aS a' w' ba=>aI (n+1) _ _ a' w' h0 (DG y) (dh y a' w' ba) aS)
      | false=>
       simp only[Bool.false_eq_true,if_false];exact⟨λ_ _=>trivial,aI (n+1) _ _ _ w h0 (DG cd.d) (dK a w ⟨κ,F,eV⟩) (by
        have h:=hm.2;simp only[cu,Bool.false_eq_true,if_false]at h;exact h.2 cd.d rfl)⟩
     ·cases g with
      | true=>
       simp only[if_true]at hm ⊢;rw[A.kS,A.fZ]at hm;exact jN a w Q _ ⟨κ,F,eV⟩ hm.1 (hm.2.mono λy aS a' w' ba=>aI (n+1) _ _ a' w' h0 (λp ao=>by cases ao) ba aS)
      | false=>
       simp only[Bool.false_eq_true,if_false]at hm ⊢;exact⟨λ_ _=>trivial,aI (n+1) _ _ _ w h0 (λp ao=>by cases ao) ⟨κ,F,eV.set (av:=.hE false (use ((cd.st cd.d).az (o.dst.getD 0))).2) bg ⟨λh=>(by cases h),λ_=>rfl⟩⟩ hm⟩
    ·exact hm.1.elim
end
end Go.Fer
namespace Go.Fer
open Go.RowKit
section
variable {C:b9} {T:Nat->ab} {bf:Nat->Option aN} {s:aB} {res:eB}
theorem ag6{P:Program}:∀ (t:ab),t.kW=true->∀ {F F':Nat->Prop} {w w':World} {cs:List Value} {x:t.aj},bI P t F w cs x->bI P t F' w' cs x:=by
 intro t;induction t with
 | bool=>intro _ F F' w w' cs x h;exact h
 | int k=>intro _ F F' w w' cs x h;exact h
 | str=>intro _ F F' w w' cs x h;exact h
 | cT=>intro hc;cases hc
 | st t aI=>intro hc F F' w w' cs x h;simp only[bI]at h ⊢;exact aI hc h
 | aA a b fx eK=>
  intro hc F F' w w' cs x h;simp only[ab.kW,Bool.and_eq_true]at hc;simp only[bI]at h ⊢;grind
 | slice e aI=>intro hc;cases hc
 | array n e aI=>intro hc;cases hc
 | bH e aI=>intro hc;cases hc
 | map k v xb xc=>intro hc;cases hc
 | fn a b fx eK=>intro hc;cases hc
 | cr a aI=>intro hc;cases hc
 | eo=>intro hc;cases hc
theorem T0{P:Program}{t:ab}(h:t.kW=true){F F':Nat->Prop}{w w':World}{v:Value}{x:t.aj}(ae:ep P t F w v x):ep P t F' w' v x:=⟨ae.1,ag6 t h ae.2⟩
theorem Hp(a:Act){i j:Nat}(h:i≠j)(v u:Value):(a.put (some i) v).put (some j) u=(a.put (some j) u).put (some i) v:=by
 simp only[Act.put];rw[Array.setIfInBounds_comm _ _ h]
theorem Hq{P:Program}{ty lq z6:TypeId}(G:P.underlying ty=some (.map lq z6)){r:Nat}{ms:Array MapEntry}{clk:Nat}{w:World}(hw:w.heap[r]?=some (.map ms clk)){key u:Value}{f:Option (Nat×Value)}
  (ea:(Instr.checkKey ms.isEmpty 10000 lq key).run P w=.ok () w) (au:(Instr.findKey lq key ms.toList).run P w=.ok f w) (hu:(∃ i,f=some (i,u))\/(f=none/\(zeroValue z6).run P w=.ok u w)) :
  (Instr.lookup ty (.map (some r)) key false).run P w=.ok u w:=by
 have eU:(getObj r).run P w=.ok (.map ms clk) w:=by simp[getObj,Sem.run,hw]
 rcases hu with⟨i,rfl⟩ | ⟨rfl,bk⟩
 ·simp only[Instr.lookup,Sem.run_bind,dB G,Result.andThen_ok,Sem.run_pure,eU,ea,au];rfl
 ·simp only[Instr.lookup,Sem.run_bind,dB G,Result.andThen_ok,Sem.run_pure,eU,ea,au,bk];rfl
theorem ag7(aV:dS C.P T){gG hK km:Oper}{ty:TypeId}{m x y:Operand}(iP:gG.op=.lookup ty m x false)(kE:hK.op=.mapEntry ty m x)(ig:km.op=.mapUpdate ty m x y){dN:aB}(rz:dN.aa=s.aa)
  (pQ:a1 C.aO dN.az m=a1 C.aO s.az m) (Gk:a1 C.aO dN.az x=a1 C.aO s.az x) (h:(bt C.aO T bf (a1 C.aO dN.az) km).run dN.aa=some res)
  {a:Act} {w:World} {κ:Nat->bB} {F:Nat->Prop} (M:bl C s a w κ F) (MZ:(use (a1 C.aO s.az m)).1) (M0:(use (a1 C.aO s.az x)).1) :
  ∃ u n wE,∀ a':Act,a'.eval m=a.eval m->a'.eval x=a.eval x->
   (execOp a'.eval gG).run C.P w=.ok (.value u) w/\(execOp a'.eval gG).run C.P wE=.ok (.value u) wE/\(execOp a'.eval hK).run C.P w=.ok (.value (.tuple #[u,goInt n])) wE:=by
 simp only[bt,ig,rn,pQ,Gk,rz]at h;split at h
 ·rename_i k v aM;obtain⟨lq,z6,G,m_,hk⟩:=(aV.cc aM (by simp)).mp;obtain⟨inf,mC,i1,i2,i3,i4,i5,i6⟩:=kA hk.kz;split at h
  ·rename_i x3;split at h
   ·rename_i b g uh;simp only[aq.e2,Option.bind_eq_some_iff,aq.run_bind,aq.e1,aq.bM]at h;obtain⟨⟨dI,oJ⟩,ah,⟨m',oK⟩,aS,h⟩:=h;split at h
    ·rename_i aC;obtain⟨aC,_⟩:=aC;split at h
     ·rename_i k' h8 es W;simp only[Option.map_eq_some_iff]at h;obtain⟨SA,pC,rfl⟩:=h;obtain⟨e,rfl⟩:=kU pC;cases e;have hm:bz C.P s.aa κ F w (use (a1 C.aO s.az m)).2 (a.eval m):=cN M m rfl MZ;rw[uh]at hm;have kZ:=hm.2 aC.symm (by rw[W];rfl);have fi:k.kW=true/\k.kc<=100:=by simpa [tY]using x3
      have ui:=CF M ah (cN M x rfl M0);have Hr:∀ (F':Nat->Prop) w',ep C.P k F' w' (a.eval x) dI:=λF' w'=>T0 fi.1 ui;have aT:=M.bC b;unfold cD at aT;rw[W]at aT;obtain⟨ms,clk,hw,uj⟩:=aT;have ea:∀ em w',(Instr.checkKey em 10000 lq (a.eval x)).run C.P w'=.ok () w':=λem w'=>(C3 (em:=em) (F:=λ_=>True) k 10000 fi.1 (by omega)).1 m_ (Hr _ w');have T1:=uj.es;have TS:∀ (j:Nat) (e:MapEntry) (p:k.aj×v.aj),ms.toList[j]?=some e->es[j]?=some p->∀ (F':Nat->Prop) w',ep C.P k F' w' e.key p.1:=λj e p E U F' w'=>T0 fi.1 (T1.2 j e p E U).1;obtain⟨f,dh,dK⟩:=xy (F:=λ_=>True) (w:=w) (β:=v.aj) (xs:=es) (es:=ms.toList) x3 m_ (Hr _ w) T1.1 (λj e p E U=>TS j e p E U _ w);have eU:(getObj (κ b).aa).run C.P w=.ok (.map ms clk) w:=by simp[getObj,Sem.run,hw]
      obtain⟨hx,Lo,Gq,SB⟩:=uj;have ck:(κ b).aa<w.heap.size:=(Array.getElem?_eq_some_iff.1 hw).1;have bk:∀ w',(zeroValue z6).run C.P w'=.ok mC w':=λw'=>rp i1 i4;have pR:∀ (a':Act) (w':World) (u:Value),a'.eval m=a.eval m->a'.eval x=a.eval x->(Instr.lookup ty (.map (some (κ b).aa)) (a.eval x) false).run C.P w'=.ok u w'->(execOp a'.eval gG).run C.P w'=.ok (.value u) w':=by
       intro a' w' u ay aP ba;simp only[execOp,iP,ay,aP,kZ,Sem.run_bind,ba,Result.andThen_ok,Sem.run_pure]
      have ag8:∀ q:k.aj,gN k dI q=true<->dI=q:=λq=>Lk k fi.1 dI q;rcases dK with⟨rfl,eC⟩ | ⟨j,e,p,g1,ei,g3,g4,rfl⟩
      ·let b':World:={ w with heap:=w.heap.setIfInBounds (κ b).aa (.map (ms.push { key:=a.eval x,val:=mC,born:=clk }) (clk+1)) }
       have lX:b'.heap[(κ b).aa]?=some (.map (ms.push { key:=a.eval x,val:=mC,born:=clk }) (clk+1)):=by grind
       obtain⟨iG,cg,cJ⟩:=xy (F:=λ_=>True) (w:=b') (β:=v.aj) (xs:=es++[(dI,v.df)]) (es:=(ms.push { key:=a.eval x,val:=mC,born:=clk }).toList) x3 m_ (Hr _ b') (by grind) (λj e p E U=>by
        grind)
       have rP:∃ i,iG=some (i,mC):=by
        rcases cJ with⟨_,et⟩ | ⟨j,e,p,ew,dN,eJ,oX,rfl⟩
        ·have:=et (dI,v.df) (by simp);grind
        ·by_cases aF:j<es.length
         ·grind
         grind
       refine⟨mC,clk,b',λa' ay aP=>⟨pR a' w mC ay aP (Hq G hw (ea _ w) dh (.inr ⟨rfl,bk w⟩)),pR a' b' mC ay aP (Hq G lX (ea _ b') cg (.inl rP)),?_⟩⟩;simp only[execOp,kE,ay,aP,kZ,Instr.mapEntry,Sem.run_bind,dB G,Result.andThen_ok,eU,ea,dh,bk,sE hw,Sem.run_pure];rfl
      ·have aF:j<es.length:=(List.getElem?_eq_some_iff.1 ei).1;have xz:j<ms.size:=by omega
       have Lq:ms[j]=e:=by
        grind
       obtain⟨js,b',t1,t2,t3⟩:=Lm C.P w e.key (a.eval x);have lX:b'.heap[(κ b).aa]?=some (.map ms clk):=by rcases t3 with rfl | rfl<;>exact hw
       have TO:(κ b).aa<b'.heap.size:=(Array.getElem?_eq_some_iff.1 lX).1;have n1:((ms[j]?).map (·.key)).getD (a.eval x)=e.key:=by
        grind
       have MR:((ms[j]?).map (λx=>(x.born:Int))).getD 0=(ms[j].born:Int):=by grind
       rw[Nat.zero_add]at dh;have aeK:dI=p.1:=(ag8 p.1).1 g3;let c8:World:={ b' with heap:=b'.heap.setIfInBounds (κ b).aa (.map (ms.modify j λe=>{ e with key:=js }) clk) }
       have gY:c8.heap[(κ b).aa]?=some (.map (ms.modify j λe=>{ e with key:=js }) clk):=by grind
       have vt:∀ (F':Nat->Prop) w',ep C.P k F' w' js p.1:=λF' w'=>by
        grind
       have zY:∀ i,(ms.modify j λe=>{ e with key:=js }).toList[i]?=if i=j then some { e with key:=js } else ms.toList[i]?:=λi=>by
        grind
       obtain⟨iG,cg,cJ⟩:=xy (F:=λ_=>True) (w:=c8) (β:=v.aj) (xs:=es) (es:=(ms.modify j λe=>{ e with key:=js }).toList) x3 m_ (Hr _ c8) (by grind) (λi aZ p' E U=>by
        rw[zY]at E;grind)
       have rP:∃ i,iG=some (i,e.val):=by
        rcases cJ with⟨_,et⟩ | ⟨i,aZ,p',ew,dN,eJ,oX,rfl⟩
        ·have:=et p (List.mem_of_getElem? ei);rw[g3]at this;cases this
        ·have z7:i=j:=by
          rcases Nat.lt_trichotomy i j with h | h | h
          ·have:=g4 i p' h dN;rw[eJ]at this;cases this
          ·exact h
          ·have:=oX j p h ei;rw[g3]at this;cases this
         subst z7;rw[zY,if_pos rfl]at ew;cases ew;exact⟨_,rfl⟩
       refine⟨e.val,ms[j].born,c8,λa' ay aP=>⟨pR a' w e.val ay aP (Hq G hw (ea _ w) dh (.inl ⟨_,rfl⟩)),pR a' c8 e.val ay aP (Hq G gY (ea _ c8) cg (.inl rP)),?_⟩⟩;simp only[execOp,kE,ay,aP,kZ,Instr.mapEntry,Sem.run_bind,dB G,Result.andThen_ok,eU,ea,dh];rw[n1,t1];simp only[Result.andThen_ok,sE lX,Sem.run_pure,MR];rfl
     grind
    grind
   ·cases h
  ·cases h
 ·cases h
end
end Go.Fer
namespace Go.Fer
open Go.RowKit
section
variable {C:b9} {T:Nat->ab} {bf:Nat->Option aN} {Ψ:Nat->Option e3} {s:aB} {o:Oper} {Q:Exit->Act->World->Prop} {ops:Array Oper}
theorem A.ag9{ak:Type}{m:A ak}(h:m.De){d x:ak}(ah:m.bR x):x=m.val d:=by
 unfold A.val;have he:∃ x,m.bR x:=⟨x,ah⟩
 rw[dif_pos he];exact h _ _ ah he.choose_spec
theorem T2(cA:jq C.P bf)(cX:l2 C.P C.aO Ψ):jq C.P (GO bf Ψ):=by
 intro k c h;unfold GO at h;split at h
 ·rename_i dv MT;split at h
  ·rename_i ar;cases h;simp only[Bool.and_eq_true,Bool.not_eq_true']at ar;have h:=cX k _ MT;obtain⟨E,U⟩:h7 C.P k dv.ts dv.aX dv.sh/\(dv.dQ=true->∀ x,(dv.sh x).De):=h;exact⟨λ_=>E.zB λx aE=>⟨aE,λy aS=>A.ag9 (U ar.1 x) aS⟩,λhe=>by rw[show nW dv.GM.aX=nW dv.aX from rfl,ar.2]at he;cases he⟩
  grind
 ·rename_i c' hc;cases h;have h:nW c.aX=true/\CZ C.P k c:=cX k _ hc;exact⟨λhe=>(by rw[h.1]at he;cases he),λ_=>h.2⟩
 ·cases h
 ·exact cA k c h
theorem T3{β:Type}{m:A β}{O:β->Prop}:∀ (l:List Prop),A.cv (Dm l m) O->(∀ p∈l,p)/\A.cv m O:=by
 intro l;induction l with
 | nil=>intro h;exact⟨λp ao=>(by cases ao),h⟩
 | cons p l aI=>
  intro h;simp only[Dm]at h;rw[A.kS]at h;grind
theorem T4{dh dK:Bool}{cb c:Prop}(E:dh=true->cb)(U:dK=true->c)(h:∀ p∈C_ dh dK cb c,p):cb/\c:=by
 unfold C_ at h;constructor
 ·cases dh with
  | true=>grind
  | false=>simp_all
 ·cases dK with
  | true=>grind
  | false=>simp_all
theorem T5(aV:dS C.P T)(cA:jq C.P bf)(ar:lr o C.nt=true){r:eO}(h:vF C.aO T bf ops s o=some r)(hc:∀ p∈r.cs,p){a:Act}{w:World}(M:ct C s a w){K:Act->World->Prop}
  (iN:∀ a' w',ct C (r.ia s) a' w'->K a' w') :
  if Region.wanted o (yielded ops a.tmps) then o.wpIn (dR C.r) 0 C.P a w K Q else (∀ f,o.about C.P w a.eval=some f->(dR C.r).fn f)/\K (a.put o.dst undef) w:=by
 have bg:∀ i,o.dst=some i->i<C.nt:=λi G=>by
  have:=ar;simp only[lr,Bool.and_eq_true]at this;grind
 obtain⟨κ,F,eV⟩:=M;unfold vF at h;split at h
 ·cases h
 ·rename_i g aC;rw[MU eV aC];split at h
  ·cases h
  ·rename_i res gp;split at h
   ·cases h;simp only[Option.getD_none,if_true];obtain⟨E,U⟩:=T4 (λW=>(SS W).run s.aa res gp) (λW=>(Ad W).run s.aa res gp) hc;exact Oper.wpIn_mono iN (xD aV cA ar gp a w κ F Q eV E U)
   ·rename_i b;split at h
    ·rename_i x8;cases h;have hc:∀ p∈C_ (sG (a1 C.aO s.az) o&&(nd (a1 C.aO s.az) o&&!res.e7.Ac)) true (b=true->res.cb/\(res.c/\(use res.e7).1)) True,p:=hc;obtain⟨E,_⟩:=T4 (λW=>by
      simp only[Bool.and_eq_true,Bool.not_eq_true']at W;exact λ_=>⟨(SS W.1).run s.aa _ gp,(Ad W.2.1).run s.aa _ gp,Gx W.2.2⟩) (λ_=>trivial) hc
     obtain⟨cb,c,e7,hG⟩:=res;simp only at x8;subst x8;cases b with
     | true=>
      simp only[Option.getD_some,if_true];obtain⟨E,U,ag⟩:=E rfl;refine Oper.wpIn_mono (λa' w' ba=>iN a' w' ?_) (xD aV cA ar gp a w κ F Q eV E U);exact ct.Mt (av':=.hE true (use e7).2) ba bg λκ F v ae=>⟨λ_=>pz ae ag,λh=>(by cases h)⟩
     | false=>
      simp only[Option.getD_some,Bool.false_eq_true,if_false];exact⟨λ_ _=>trivial,iN _ _ ⟨κ,F,eV.set (av:=.hE false (use e7).2) bg ⟨λh=>(by cases h),λ_=>rfl⟩⟩⟩
    grind
theorem T6(cl:List (List Nat)):∀ n,Ao cl n<=n/\∀ j,Ao cl n<=j->j<n->∀ i,i<j->i∈cl.getD j []
 | 0=>⟨Nat.le_refl _,λj _ h=>by omega⟩
 | n+1=>by
  unfold Ao;split
  ·rename_i h;obtain⟨E,U⟩:=T6 cl n;refine⟨by omega,λj aF M1 i G=>?_⟩;by_cases e:j=n
   ·simp_all
   grind
  grind
theorem ag_{n:Nat}(rQ:Db ops.toList=true)(ag':∀ j,n<=j->j<ops.size->∀ i,i<j->i∈(ir ops.toList).getD j []):∀ (k j cj:Nat) (listed:Array Bool) (a:Act) (w:World),n<=j->j+k=ops.size->listed.size=ops.size->
  (∀ i,listed.getD i false=decide (i<j))->k<=cj->wpOpsIn (dR C.r) 0 C.P ops Q (List.range' j k) a w->wpAnyIn (dR C.r) 0 C.P .any ops Q cj listed a w:=by
 intro k;induction k with
 | zero=>
  intro j cj listed a w aha ahb cf ai au h;have M:∀ i,i ∉ Region.ready .any ops listed:=λi G=>by
   rw[mem_ready]at G;grind
  have iQ:Region.ready .any ops listed=[]:=List.eq_nil_iff_forall_not_mem.2 M;cases cj with
  | zero=>exact⟨iQ,h⟩
  | succ cj=>exact⟨λ_=>h,λi G=>absurd G (M i)⟩
 | succ k aI=>
  intro j cj listed a w aha ahb cf ai au h;have aF:j<ops.size:=by omega
  cases cj with
  | zero=>omega
  | succ cj=>
   have qL:∀ q o,ops[q]?=some o->listed.getD q false=true->∀ i∈ib o,listed.getD i false=true:=λq o af bq i G=>by
    rw[ai]at bq ⊢;have bq:q<j:=by grind
    have:=List.all_eq_true.1 rQ q (by grind);grind
   have ahc:∀ i,i∈Region.ready .any ops listed<->i=j:=λi=>by
    constructor
    ·intro G;rw[mem_ready]at G;obtain⟨aU,o,af,Hs⟩:=G;have hX:i<ops.size:=(Array.getElem?_eq_some_iff.1 af).1;have DH:listed.getD i false=false:=by
      grind
     rw[ai]at DH;have Gt:j<=i:=by grind
     by_cases e:i=j
     ·exact e
     ·exfalso;have sT:∀ k∈ib o,listed.getD k false=true:=by
       intro k al;obtain⟨e,he,vP⟩:=List.mem_filterMap.1 al;grind
      have DI:∀ k∈(ir ops.toList).getD i [],listed.getD k false=true\/k=i:=by
       intro k al;refine xI (p:=λj=>listed.getD j false=true\/j=i) ops.toList [] (λj i G=>by grind) (λj hU kk k al aF=>?_) i k al (.inr rfl);have lx:ops[j]?=some hU:=by grind
       rcases (by simp_all:listed.getD j false=true\/j=i) with aF | aF
       ·exact .inl (qL j hU lx aF k al)
       ·subst aF;rw[af]at lx;cases lx;exact .inl (sT k al)
      grind
    ·rintro rfl;rw[mem_ready];refine⟨?_,ops[i],by simp,λe he W=>?_⟩
     ·grind
     ·have hX:e.on∈ib ops[i]:=List.mem_filterMap.2 ⟨e,by grind,by grind⟩;have:=List.all_eq_true.1 rQ i (by grind);grind
   refine⟨λM=>?_,λi G=>?_⟩
   ·simp_all
   ·obtain rfl:=(ahc i).1 G;have eU:ops[i]?=some ops[i]:=by simp
    rw[List.range'_succ]at h;simp only[wpOpsIn,eU]at h;have next:∀ a w,wpOpsIn (dR C.r) 0 C.P ops Q (List.range' (i+1) k) a w->wpAnyIn (dR C.r) 0 C.P .any ops Q cj (listed.setIfInBounds i true) a w:=λa w cU=>by
     refine aI (i+1) cj _ a w (by omega) (by omega) (by grind) (λq=>?_) (by omega) cU;by_cases e:q=i
     ·simp_all
     ·rw[getD_set_ne false (Ne.symm e),ai,decide_eq_decide];omega
    unfold wpOpIn;rw[eU];simp only;split
    ·rename_i hw;rw[if_pos hw]at h;exact Oper.wpIn_mono next h
    grind
theorem ahd(aV:dS C.P T)(cA:jq C.P bf)(ar:∀ o∈ops.toList,lr o C.nt=true){l:List eO}{s':aB}(aE:xE C.aO T bf ops ops.toList s=some (l,s'))(cL:Af ops.toList l=true)
  (hc:∀ r∈l,∀ p∈r.cs,p) (uB:∀ a' w',ct C s' a' w'->Q .normal a' w'):∀ (cj:Nat) (listed:Array Bool) (a:Act) (w:World),listed.size=ops.size->
   (∀ j o,ops[j]?=some o->listed.getD j false=true->∀ i∈ib o,listed.getD i false=true)->((List.range ops.size).filter λj=>!listed.getD j false).length<=cj->
   ct C (jv l s λj=>listed.getD j false) a w->wpAnyIn (dR C.r) 0 C.P .any ops Q cj listed a w:=by
 obtain⟨hlen,sy,DJ⟩:=S0 _ _ aE;simp only[Af,Bool.and_eq_true]at cL;obtain⟨rQ,M2⟩:=cL;have ahe:∀ j o,ops[j]?=some o->∀ i∈ib o,i<j:=by
  intro j o af i G;have aF:j<ops.toList.length:=by
   grind
  have:=List.all_eq_true.1 rQ j (by grind);grind
 have ahf:∀ i j x y,i<j->l[i]?=some x->l[j]?=some y->((ir ops.toList).getD j []).contains i=true\/x.apart y=true:=by
  intro i j x y z7 G aF;have AB:j<l.length:=(List.getElem?_eq_some_iff.1 aF).1;have:=List.all_eq_true.1 M2 j (by grind);grind
 have DK:∀ listed:Array Bool,listed.size=ops.size->Region.ready .any ops listed=[]->∀ j,j<ops.size->listed.getD j false=true:=by
  intro listed cf M j;induction j using Nat.strongRecOn with
  | _ j aI=>
   intro aF;cases ai:listed.getD j false with
   | true=>rfl
   | false=>
    exfalso;have jS:j∈Region.ready .any ops listed:=by
     rw[mem_ready];refine⟨?_,ops[j],by simp,λe he W=>?_⟩
     ·grind
     ·have hX:e.on∈ib ops[j]:=List.mem_filterMap.2 ⟨e,by grind,by grind⟩;grind
    grind
 have n_:∀ (listed:Array Bool) (a:Act) (w:World),listed.size=ops.size->Region.ready .any ops listed=[]->ct C (jv l s λj=>listed.getD j false) a w->Q .normal a w:=by
  intro listed a w cf M ki;have fG:=DK listed cf M;refine uB a w ?_;have:jv l s (λj=>listed.getD j false)=s':=by
   rw[sy];unfold jv;rw[List.filter_eq_self.2 λp ao=>?_,Dc];obtain⟨_,U⟩:=Ah ao;grind
  grind
 intro cj;induction cj with
 | zero=>
  intro listed a w cf _ M3 ki;have M:Region.ready .any ops listed=[]:=by
   cases M:Region.ready .any ops listed with
   | nil=>rfl
   | cons j ayp=>
    exfalso;have jS:j∈Region.ready .any ops listed:=by grind
    rw[mem_ready]at jS;obtain⟨aU,o,af,_⟩:=jS;have aF:=(Array.getElem?_eq_some_iff.1 af).1;have:j∈(List.range ops.size).filter λj=>!listed.getD j false:=by
     grind
    grind
  exact⟨M,n_ listed a w cf M ki⟩
 | succ cj aI=>
  intro listed a w cf qL M3 ki;refine⟨λM=>n_ listed a w cf M ki,λi G=>?_⟩;rw[mem_ready]at G;obtain⟨aU,o,af,Hs⟩:=G;have hX:i<ops.size:=(Array.getElem?_eq_some_iff.1 af).1;have DH:listed.getD i false=false:=by
   grind
  have jS:o∈ops.toList:=by
   grind
  have sT:∀ k∈ib o,listed.getD k false=true:=by
   intro k al;obtain⟨e,he,vP⟩:=List.mem_filterMap.1 al;grind
  obtain⟨r,M,gv⟩:=DJ i o (by grind);have ahg:∀ j k,k∈(ir ops.toList).getD j []->listed.getD j false=true->listed.getD k false=true:=by
   refine xI (p:=λj=>listed.getD j false=true) ops.toList [] (λj i G=>by grind) λj hU kk k al aF=>?_;exact qL j hU (by grind) (by simpa using aF) k al
  have DI:∀ k∈(ir ops.toList).getD i [],listed.getD k false=true\/k=i:=by
   intro k al;refine xI (p:=λj=>listed.getD j false=true\/j=i) ops.toList [] (λj i G=>by grind) (λj hU kk k al aF=>?_) i k al (.inr rfl);have lx:ops[j]?=some hU:=by grind
   rcases (by simpa using aF:listed.getD j false=true\/j=i) with aF | aF
   ·exact .inl (qL j hU lx aF k al)
   ·subst aF;rw[af]at lx;cases lx;exact .inl (sT k al)
  have gP:∀ j x,j<i->l[j]?=some x->listed.getD j false=false->x.apart r=true:=by
   grind
  have uu:∀ j x,i<j->l[j]?=some x->listed.getD j false=true->r.apart x=true:=by
   grind
  obtain⟨aR,aW,bL⟩:=SX (s:=s) (f:=λj=>listed.getD j false) M DH gP uu;have M4:=S1 gv aR aW;unfold wpOpIn;rw[af];refine T5 aV cA (ar o jS) M4 (hc r (List.mem_of_getElem? M)) ki λa' w' ba=>?_;have eU:∀ j,(listed.setIfInBounds i true).getD j false=if j=i then true else listed.getD j false:=by
   intro j;by_cases e:j=i
   ·subst e;rw[if_pos rfl,Array.getD_eq_getD_getElem?,Array.getElem?_setIfInBounds_self_of_lt (by omega)];rfl
   ·rw[if_neg e,getD_set_ne false (Ne.symm e)]
  refine aI _ a' w' (by grind) (λj hU kk aF k al=>?_) ?_ ?_
  ·rw[eU]at aF ⊢;split
   ·rfl
   ·split at aF
    ·rename_i e;subst e;rw[af]at kk;cases kk;exact sT k al
    ·exact qL j hU kk aF k al
  ·have ck:((List.range ops.size).filter λj=>!(listed.setIfInBounds i true).getD j false).length<((List.range ops.size).filter λj=>!listed.getD j false).length:=by
    have ay:(List.range ops.size).filter (λj=>!(listed.setIfInBounds i true).getD j false)=((List.range ops.size).filter λj=>!listed.getD j false).filter λj=>decide (j≠i):=by
     rw[List.filter_filter];apply List.filter_congr;intro j _;rw[eU];simp
    rw[ay];have M5:i∈(List.range ops.size).filter λj=>!listed.getD j false:=by
     grind
    exact List.length_filter_lt_length_iff_exists.2 ⟨i,M5,by simp⟩
   omega
  ·have:jv l s (λj=>(listed.setIfInBounds i true).getD j false)=r.ia (jv l s λj=>listed.getD j false):=by
    rw[<-bL];congr 1;funext j;grind
   grind
def Ht(n:Nat)(l b e x:Bool)(listed:Array Bool):Prop:=∀ i,listed.getD i false=(decide (i<n)||(l&&decide (i=n))||(b&&decide (i=n+1))||(e&&decide (i=n+2))||(x&&decide (i=n+3)))
def mE(a:Act)(ee fJ d1 d2:Nat)(u vB vE vX:Value)(l b e x:Bool):Act:=
 let ca:=if l=true then a.put (some ee) u else a
 let a2:=if b=true then ca.put (some fJ) vB else ca
 let a3:=if e=true then a2.put (some d1) vE else a2
 if x=true then a3.put (some d2) vX else a3
theorem ahh(a:Act)(d:Option Nat)(v:Value):(a.put d v).tmps.size=a.tmps.size:=by cases d<;>simp[Act.put]
theorem ahi(a:Act)(ee fJ d1 d2:Nat)(u vB vE vX:Value)(l b e x:Bool):(mE a ee fJ d1 d2 u vB vE vX l b e x).tmps.size=a.tmps.size:=by
 unfold mE;cases l<;>cases b<;>cases e<;>cases x<;>simp[ahh]
theorem T7{a:Act}{ee fJ d1 d2:Nat}{u vB vE vX:Value}{l b e x:Bool}{y:Operand}(E:y≠.tmp ee)(U:y≠.tmp fJ)(ag:y≠.tmp d1)(a7:y≠.tmp d2):(mE a ee fJ d1 d2 u vB vE vX l b e x).eval y=a.eval y:=by
 unfold mE;cases l<;>cases b<;>cases e<;>cases x<;>simp[Az,E,U,ag,a7]
theorem DL{o:Oper}{a:Act}{w w':World}{K:Act->World->Prop}{v:Value}(ar:∀ c,o.op≠.defer c)(h:(execOp a.eval o).run C.P w=.ok (.value v) w')(al:o.wpIn (dR C.r) 0 C.P a w K Q):K (a.put o.dst v) w':=by
 have:=al.2;rw[zL ar,h]at this;exact this
theorem ahj{n:Nat}(T8:ops.size=n+5)(rQ:Db ops.toList=true){gG iv hK iK lZ:Oper}(x9:ops[n]?=some gG)(vQ:ops[n+1]?=some iv)(AD:ops[n+2]?=some hK)(DM:ops[n+3]?=some iK)(DN:ops[n+4]?=some lZ)
  (DO:gG.guard=none) (DP:iv.guard=none) (Hu:hK.guard=none) (Hv:iK.guard=none) (Hw:lZ.guard=none) (DQ:∀ c,gG.op≠.defer c) (Hx:∀ c,iv.op≠.defer c) (Hy:∀ c,hK.op≠.defer c) (Hz:∀ c,iK.op≠.defer c)
  (gP:∀ q,q<5->∀ i,i<n->i∈(ir ops.toList).getD (n+q) []) (M6:n∈(ir ops.toList).getD (n+1) []) (T9:n+2∈(ir ops.toList).getD (n+3) []) (AE:∀ q,q<4->n+q∈(ir ops.toList).getD (n+4) [])
  (T_:∀ i∈ib hK,i<n) (T':∀ i∈ib iK,i<n\/i=n+2)
  {ee fJ d1 d2:Nat} (sU:gG.dst=some ee) (dk:iv.dst=some fJ) (DR:hK.dst=some d1) (HA:iK.dst=some d2) (_n1:ee≠fJ) (ej:ee≠d1) (jM:ee≠d2) (n4:fJ≠d1) (DS:fJ≠d2)
  {a:Act} {w wE:World} {u vB vE vX:Value}
  (Ua:∀ b e x,(execOp (mE a ee fJ d1 d2 u vB vE vX false b e x).eval gG).run C.P (if e=true then wE else w)=.ok (.value u) (if e=true then wE else w))
  (Ub:∀ e x,(execOp (mE a ee fJ d1 d2 u vB vE vX true false e x).eval iv).run C.P (if e=true then wE else w)=.ok (.value vB) (if e=true then wE else w))
  (Uc:∀ l b x,(execOp (mE a ee fJ d1 d2 u vB vE vX l b false x).eval hK).run C.P w=.ok (.value vE) wE)
  (Ud:∀ l b,(execOp (mE a ee fJ d1 d2 u vB vE vX l b true false).eval iK).run C.P wE=.ok (.value vX) wE)
  (h:wpOpsIn (dR C.r) 0 C.P ops Q (List.range' n 5) a w):∀ (cj:Nat) (listed:Array Bool),listed.size=ops.size->(∀ i,listed.getD i false=decide (i<n))->5<=cj->wpAnyIn (dR C.r) 0 C.P .any ops Q cj listed a w:=by
 let aK:=mE a ee fJ d1 d2 u vB vE vX;let ax:=λe:Bool=>if e=true then wE else w
 have wt:∀ {o:Oper},o.guard=none->∀ a':Act,Region.wanted o (yielded ops a'.tmps)=true:=λh a'=>by unfold Region.wanted;rw[h]
 have HB:lZ.wpIn (dR C.r) 0 C.P (aK true true true true) wE (λa' w'=>Q .normal a' w') Q:=by
  have gW:List.range' n 5=[n,n+1,n+2,n+3,n+4]:=rfl;rw[gW]at h;simp only[wpOpsIn,x9,vQ,AD,DM,DN,wt DO,wt DP,wt Hu,wt Hv,wt Hw,if_true]at h;have E:=DL (a:=aK false false false false) (w:=w) DQ (Ua false false false) h;rw[sU]at E;have U:=DL (a:=aK true false false false) (w:=w) Hx (Ub false false) E;rw[dk]at U;have ag:=DL (a:=aK true true false false) (w:=w) Hy (Uc true true false) U;rw[DR]at ag;have a7:=DL (a:=aK true true true false) (w:=wE) Hz (Ud true true) ag;rw[HA]at a7;exact a7
 have ahk:∀ {l b e x:Bool} {listed:Array Bool},Ht n l b e x listed->(b=true->l=true)->(x=true->e=true)->∀ q o,ops[q]?=some o->listed.getD q false=true->∀ i∈ib o,listed.getD i false=true:=by
  intro l b e x listed bn W ah q o af bq i G;have ahl:q<ops.size:=(Array.getElem?_eq_some_iff.1 af).1;have ayq:i<q:=by
   have:=List.all_eq_true.1 rQ q (by grind);grind
  rw[bn]at bq ⊢;grind
 have ayr:∀ {listed:Array Bool} {i:Nat},listed.size=ops.size->i<ops.size->(listed[i]?.getD true=false<->listed.getD i false=false):=by
  intro listed i cf G;rw[Array.getD_eq_getD_getElem?,Array.getElem?_eq_getElem (by omega)];rfl
 have ahm:∀ {l b e x:Bool} {listed:Array Bool},Ht n l b e x listed->(b=true->l=true)->(x=true->e=true)->listed.size=ops.size->∀ i∈Region.ready .any ops listed,(i=n/\l=false)\/(i=n+1/\l=true/\b=false)\/(i=n+2/\e=false)\/(i=n+3/\e=true/\x=false)\/(i=n+4/\l=true/\b=true/\e=true/\x=true):=by
  intro l b e x listed bn W ah cf i G;have qL:=ahk bn W ah;rw[mem_ready]at G;obtain⟨aU,o,af,Hs⟩:=G;have hX:i<ops.size:=(Array.getElem?_eq_some_iff.1 af).1;have aU:listed.getD i false=false:=by
   grind
  have sT:∀ k∈ib o,listed.getD k false=true:=by
   intro k al;obtain⟨e,he,vP⟩:=List.mem_filterMap.1 al;split at vP
   ·rename_i W;cases vP;grind
   grind
  have DI:∀ k∈(ir ops.toList).getD i [],listed.getD k false=true\/k=i:=by
   intro k al;refine xI (p:=λj=>listed.getD j false=true\/j=i) ops.toList [] (λj i G=>by simp at G) (λj hU kk k al aF=>?_) i k al (.inr rfl);have lx:ops[j]?=some hU:=by grind
   rcases (by simpa using aF:listed.getD j false=true\/j=i) with aF | aF
   ·exact .inl (qL j hU lx aF k al)
   ·subst aF;rw[af]at lx;cases lx;exact .inl (sT k al)
  rw[bn]at aU;simp only[Bool.or_eq_false_iff,Bool.and_eq_false_iff,decide_eq_false_iff_not]at aU;obtain⟨⟨⟨⟨ho,aR⟩,aW⟩,bL⟩,fA⟩:=aU;have Gt:n<=i:=by omega
  have ahn:i=n\/i=n+1\/i=n+2\/i=n+3\/i=n+4:=by omega
  have flag:∀ q,q<4->n+q∈(ir ops.toList).getD i []->n+q≠i->(if q=0 then l else if q=1 then b else if q=2 then e else x)=true:=by
   intro q bq hm eC;rcases DI _ hm with h | h
   ·rw[bn]at h;simp only[Bool.or_eq_true,Bool.and_eq_true,decide_eq_true_eq]at h;rcases h with (((h | ⟨E,h⟩) | ⟨E,h⟩) | ⟨E,h⟩) | ⟨E,h⟩
    ·omega
    ·grind
    ·have:q=1:=by omega
     subst this;exact E
    ·have:q=2:=by omega
     subst this;exact E
    ·have:q=3:=by omega
     subst this;exact E
   omega
  rcases ahn with rfl | rfl | rfl | rfl | rfl
  ·grind
  ·exact .inr (.inl ⟨rfl,flag 0 (by omega) M6 (by omega),by grind⟩)
  ·grind
  ·grind
  ·exact .inr (.inr (.inr (.inr ⟨rfl,flag 0 (by omega) (AE 0 (by omega)) (by omega),flag 1 (by omega) (AE 1 (by omega)) (by omega),flag 2 (by omega) (AE 2 (by omega)) (by omega),flag 3 (by omega) (AE 3 (by omega)) (by omega)⟩)))
 have aho:∀ {l b e x:Bool} {listed:Array Bool},Ht n l b e x listed->(b=true->l=true)->(x=true->e=true)->listed.size=ops.size->Region.ready .any ops listed≠[]:=by
  intro l b e x listed bn W ah cf vz;have mk:∀ i o,ops[i]?=some o->listed.getD i false=false->(∀ k∈ib o,listed.getD k false=true)->False:=by
   intro i o af aU ar;have hX:i<ops.size:=(Array.getElem?_eq_some_iff.1 af).1;have:i∈Region.ready .any ops listed:=by
    rw[mem_ready];refine⟨?_,o,af,λe he W=>ar e.on (List.mem_filterMap.2 ⟨e,by grind,by grind⟩)⟩;grind
   grind
  have lt:∀ q o,ops[q]?=some o->∀ i∈ib o,i<q:=by
   intro q o af i G;have ahl:q<ops.size:=(Array.getElem?_eq_some_iff.1 af).1;have:=List.all_eq_true.1 rQ q (by grind);rw[show ops.toList[q]?=some o by grind]at this;have:=List.all_eq_true.1 this i G;grind
  cases l with
  | false=>
   have pF:b=false:=by grind
   subst pF;exact mk n gG x9 (by rw[bn];simp) λk al=>by rw[bn];grind
  | true=>
   cases b with
   | false=>exact mk (n+1) iv vQ (by rw[bn];simp) λk al=>by rw[bn];grind
   | true=>
    cases e with
    | false=>
     have M7:x=false:=by grind
     subst M7;exact mk (n+2) hK AD (by rw[bn];simp) λk al=>by rw[bn];grind
    | true=>
     cases x with
     | false=>exact mk (n+3) iK DM (by rw[bn];simp) λk al=>by rw[bn];grind
     | true=>exact mk (n+4) lZ DN (by rw[bn];simp) λk al=>by rw[bn];grind
 have DT:∀ {listed:Array Bool} (i:Nat),listed.size=ops.size->i<ops.size->∀ q,(listed.setIfInBounds i true).getD q false=(listed.getD q false||decide (q=i)):=by
  intro listed i cf G q;by_cases e:q=i
  ·grind
  grind
 let ch:=λ(l b e x:Bool)=>∀ (cj:Nat) (listed:Array Bool),Ht n l b e x listed->listed.size=ops.size->5<=cj+(l.toNat+b.toNat+e.toNat+x.toNat)->wpAnyIn (dR C.r) 0 C.P .any ops Q cj listed (aK l b e x) (ax e);have step:∀ l b e x,(b=true->l=true)->(x=true->e=true)->(l=false->ch true b e x)->(l=true->b=false->ch l true e x)->(e=false->ch l b true x)->(e=true->x=false->ch l b e true)->ch l b e x:=by
  intro l b e x W ah ew dN eJ oX cj listed bn cf sS;have ays:l.toNat<=1/\b.toNat<=1/\e.toNat<=1/\x.toNat<=1:=⟨Bool.toNat_le l,Bool.toNat_le b,Bool.toNat_le e,Bool.toNat_le x⟩
  cases cj with
  | zero=>omega
  | succ cj=>
   refine⟨λM=>absurd M (aho bn W ah cf),λi G=>?_⟩;rcases ahm bn W ah cf i G with⟨rfl,E⟩ | ⟨rfl,E,U⟩ | ⟨rfl,E⟩ | ⟨rfl,E,U⟩ | ⟨rfl,E,U,ag,a7⟩
   ·subst E;have pF:b=false:=by grind
    subst pF;unfold wpOpIn;simp only[x9,wt DO,if_true];refine hy DQ (Ua false e x) ?_;rw[sU];have zJ:(aK false false e x).put (some ee) u=aK true false e x:=by
     simp only[aK,mE];cases e<;>cases x<;>simp[Hp _ ej.symm,Hp _ jM.symm]
    show wpAnyIn _ _ _ _ _ _ _ _ ((aK false false e x).put (some ee) u) (ax e);rw[zJ];refine ew rfl cj _ (λq=>?_) (by grind) (by grind);rw[DT i cf (by omega),bn];by_cases bq:q=i<;>simp[bq]
   ·subst E;subst U;unfold wpOpIn;simp only[vQ,wt DP,if_true];refine hy Hx (Ub e x) ?_;rw[dk];have zJ:(aK true false e x).put (some fJ) vB=aK true true e x:=by
     simp only[aK,mE];cases e<;>cases x<;>simp[Hp _ n4.symm,Hp _ DS.symm]
    show wpAnyIn _ _ _ _ _ _ _ _ ((aK true false e x).put (some fJ) vB) (ax e);rw[zJ];refine dN rfl rfl cj _ (λq=>?_) (by grind) (by grind);rw[DT (n+1) cf (by omega),bn];by_cases bq:q=n+1<;>simp[bq]
   ·subst E;have M7:x=false:=by grind
    subst M7;unfold wpOpIn;simp only[AD,wt Hu,if_true];refine hy Hy (Uc l b false) ?_;rw[DR];show wpAnyIn _ _ _ _ _ _ _ _ (aK l b true false) (ax true);refine eJ rfl cj _ (λq=>?_) (by grind) (by grind);rw[DT (n+2) cf (by omega),bn];simp
   ·subst E;subst U;unfold wpOpIn;simp only[DM,wt Hv,if_true];refine hy Hz (Ud l b) ?_;rw[HA];show wpAnyIn _ _ _ _ _ _ _ _ (aK l b true true) (ax true);refine oX rfl rfl cj _ (λq=>?_) (by grind) (by grind);rw[DT (n+3) cf (by omega),bn];simp
   ·subst E;subst U;subst ag;subst a7;unfold wpOpIn;simp only[DN,wt Hw,if_true];refine Oper.wpIn_mono (λa' w' bq=>?_) HB;have fG:∀ i,(listed.setIfInBounds (n+4) true).getD i false=decide (i<n+5):=λi=>by
     rw[DT (n+4) cf (by omega),bn,Bool.eq_iff_iff];simp only[Bool.or_eq_true,Bool.and_eq_true,decide_eq_true_eq,true_and];omega
    have M:∀ i,i ∉ Region.ready .any ops (listed.setIfInBounds (n+4) true):=λi G=>by
     rw[mem_ready]at G;obtain⟨aU,o,af,_⟩:=G;grind
    have iQ:Region.ready .any ops (listed.setIfInBounds (n+4) true)=[]:=List.eq_nil_iff_forall_not_mem.2 M;cases cj with
    | zero=>exact⟨iQ,bq⟩
    | succ cj=>exact⟨λ_=>bq,λi G=>absurd G (M i)⟩
 have f:∀ {p:Prop},(true:Bool)=false->p:=λh=>by cases h
 have iG:∀ {p:Prop},(false:Bool)=true->p:=λh=>by cases h
 have Ue:ch true true true true:=step _ _ _ _ (λ_=>rfl) (λ_=>rfl) f (λ_=>f) f (λ_=>f);have Uf:ch true true true false:=step _ _ _ _ (λ_=>rfl) (λ_=>rfl) f (λ_=>f) f (λ_ _=>Ue);have ahp:ch true true false false:=step _ _ _ _ (λ_=>rfl) iG f (λ_=>f) (λ_=>Uf) iG;have Ug:ch true false true true:=step _ _ _ _ (λ_=>rfl) (λ_=>rfl) f (λ_ _=>Ue) f (λ_=>f);have Uh:ch true false true false:=step _ _ _ _ (λ_=>rfl) (λ_=>rfl) f (λ_ _=>Uf) f (λ_ _=>Ug);have ahq:ch true false false false:=step _ _ _ _ (λ_=>rfl) iG f (λ_ _=>ahp) (λ_=>Uh) iG;have ahr:ch false false true true:=step _ _ _ _ iG (λ_=>rfl) (λ_=>Ug) iG f (λ_=>f);have ahs:ch false false true false:=step _ _ _ _ iG (λ_=>rfl) (λ_=>Uh) iG f (λ_ _=>ahr);have aht:ch false false false false:=step _ _ _ _ iG iG (λ_=>ahq) iG (λ_=>ahs) iG;intro cj listed cf ai sS;exact aht cj listed (λi=>by grind) cf (by omega)
theorem ahu{n:Nat}(aw:n<=ops.size)(aV:dS C.P T)(cA:jq C.P bf)(ar:∀ o∈ops.toList,lr o C.nt=true){l:List eO}{s':aB}(aE:xE C.aO T bf ops (ops.toList.take n) s=some (l,s'))(cL:Af (ops.toList.take n) l=true)(ag':∀ j,n<=j->j<ops.size->∀ i,i<n->i∈(ir ops.toList).getD j [])
  (hc:∀ r∈l,∀ p∈r.cs,p) (uB:∀ (cj:Nat) (listed:Array Bool) a' w',listed.size=ops.size->(∀ i,listed.getD i false=decide (i<n))->ops.size - n<=cj->ct C s' a' w'->wpAnyIn (dR C.r) 0 C.P .any ops Q cj listed a' w'):∀ (cj:Nat) (listed:Array Bool) (a:Act) (w:World),listed.size=ops.size->
   (∀ j o,ops[j]?=some o->listed.getD j false=true->∀ i∈ib o,listed.getD i false=true)->(∀ i,n<=i->listed.getD i false=false)->((List.range ops.size).filter λj=>!listed.getD j false).length<=cj->
   ct C (jv l s λj=>listed.getD j false) a w->wpAnyIn (dR C.r) 0 C.P .any ops Q cj listed a w:=by
 obtain⟨hlen,sy,DJ⟩:=S0 _ _ aE;have Hl:(ops.toList.take n).length=n:=by grind
 have iP:∀ i,i<n->(ops.toList.take n)[i]?=ops[i]?:=λi G=>by
  grind
 simp only[Af,Bool.and_eq_true]at cL;obtain⟨rQ,M2⟩:=cL;have ahe:∀ j o,j<n->ops[j]?=some o->∀ i∈ib o,i<j:=by
  intro j o M1 af i G;have:=List.all_eq_true.1 rQ j (by grind);grind
 have ahf:∀ i j x y,i<j->l[i]?=some x->l[j]?=some y->((ir (ops.toList.take n)).getD j []).contains i=true\/x.apart y=true:=by
  intro i j x y z7 G aF;have AB:j<l.length:=(List.getElem?_eq_some_iff.1 aF).1;have:=List.all_eq_true.1 M2 j (by grind);grind
 intro cj;induction cj with
 | zero=>
  intro listed a w cf _ pH M3 ki;have fG:∀ i,listed.getD i false=decide (i<n):=λi=>by
   by_cases G:i<n
   ·cases ai:listed.getD i false with
    | true=>grind
    | false=>
     exfalso;have:i∈(List.range ops.size).filter λj=>!listed.getD j false:=by
      grind
     grind
   grind
  refine uB 0 listed a w cf fG ?_ ?_
  ·by_cases ck:n<ops.size
   ·have:n∈(List.range ops.size).filter λj=>!listed.getD j false:=by
     grind
    grind
   ·omega
  ·have:jv l s (λj=>listed.getD j false)=s':=by
    rw[sy];unfold jv;rw[List.filter_eq_self.2 λp ao=>?_,Dc];obtain⟨_,U⟩:=Ah ao;grind
   grind
 | succ cj aI=>
  intro listed a w cf qL pH M3 ki;by_cases DK:∀ i,i<n->listed.getD i false=true
  ·have fG:∀ i,listed.getD i false=decide (i<n):=λi=>by
    grind
   refine uB (cj+1) listed a w cf fG ?_ ?_
   ·have E:(List.range' n (ops.size - n)).length<=((List.range ops.size).filter λj=>!listed.getD j false).length:=by
     have e:(List.range ops.size).filter (λj=>!listed.getD j false)=List.range' n (ops.size - n):=by
      have U:(List.range ops.size).filter (λj=>!listed.getD j false)=(List.range ops.size).filter λj=>decide (n<=j):=List.filter_congr λj _=>by
       grind
      rw[U];have ag:List.range ops.size=List.range n++List.range' n (ops.size - n):=by
       rw[List.range_eq_range',List.range_eq_range'];have:=(List.range'_append (s:=0) (m:=n) (n:=ops.size - n) (step:=1))
       grind
      rw[ag,List.filter_append,List.filter_eq_nil_iff.2 λj aF=>by grind,List.filter_eq_self.2 λj aF=>by grind];rfl
     grind
    grind
   ·have:jv l s (λj=>listed.getD j false)=s':=by
     rw[sy];unfold jv;rw[List.filter_eq_self.2 λp ao=>?_,Dc];obtain⟨_,U⟩:=Ah ao;grind
    grind
  ·refine⟨λM=>absurd ?_ DK,λi G=>?_⟩
   ·intro j;induction j using Nat.strongRecOn with
    | _ j ayt=>
     intro aF;cases ai:listed.getD j false with
     | true=>rfl
     | false=>
      exfalso;have jS:j∈Region.ready .any ops listed:=by
       rw[mem_ready];refine⟨?_,ops[j],by simp,λe he W=>?_⟩
       ·grind
       ·have hX:e.on∈ib ops[j]:=List.mem_filterMap.2 ⟨e,by grind,by grind⟩;grind
      grind
   ·rw[mem_ready]at G;obtain⟨aU,o,af,Hs⟩:=G;have hX:i<ops.size:=(Array.getElem?_eq_some_iff.1 af).1;have DH:listed.getD i false=false:=by
     grind
    have jS:o∈ops.toList:=by
     grind
    have sT:∀ k∈ib o,listed.getD k false=true:=by
     intro k al;obtain⟨e,he,vP⟩:=List.mem_filterMap.1 al;split at vP
     ·rename_i W;cases vP;exact Hs e (by simpa using he) W
     ·cases vP
    have G:i<n:=by
     by_cases G:i<n
     ·exact G
     ·exfalso;have DI:∀ k∈(ir ops.toList).getD i [],listed.getD k false=true\/k=i:=by
       intro k al;refine xI (p:=λj=>listed.getD j false=true\/j=i) ops.toList [] (λj i G=>by simp at G) (λj hU kk k al aF=>?_) i k al (.inr rfl);have lx:ops[j]?=some hU:=by grind
       rcases (by simpa using aF:listed.getD j false=true\/j=i) with aF | aF
       ·exact .inl (qL j hU lx aF k al)
       ·subst aF;rw[af]at lx;cases lx;exact .inl (sT k al)
      grind
    obtain⟨r,M,gv⟩:=DJ i o (by grind);have ahg:∀ j k,k∈(ir (ops.toList.take n)).getD j []->listed.getD j false=true->listed.getD k false=true:=by
     refine xI (p:=λj=>listed.getD j false=true) (ops.toList.take n) [] (λj i G=>by simp at G) λj hU kk k al aF=>?_;have M1:j<n:=by grind
     exact qL j hU (by grind) (by simpa using aF) k al
    have DI:∀ k∈(ir (ops.toList.take n)).getD i [],listed.getD k false=true\/k=i:=by
     intro k al;refine xI (p:=λj=>listed.getD j false=true\/j=i) (ops.toList.take n) [] (λj i G=>by simp at G) (λj hU kk k al aF=>?_) i k al (.inr rfl);have M1:j<n:=by grind
     have lx:ops[j]?=some hU:=by grind
     rcases (by simpa using aF:listed.getD j false=true\/j=i) with aF | aF
     ·exact .inl (qL j hU lx aF k al)
     ·subst aF;rw[af]at lx;cases lx;exact .inl (sT k al)
    have gP:∀ j x,j<i->l[j]?=some x->listed.getD j false=false->x.apart r=true:=by
     grind
    have uu:∀ j x,i<j->l[j]?=some x->listed.getD j false=true->r.apart x=true:=by
     grind
    obtain⟨aR,aW,bL⟩:=SX (s:=s) (f:=λj=>listed.getD j false) M DH gP uu;have M4:=S1 gv aR aW;unfold wpOpIn;rw[af];refine T5 aV cA (ar o jS) M4 (hc r (List.mem_of_getElem? M)) ki λa' w' ba=>?_;have eU:∀ j,(listed.setIfInBounds i true).getD j false=if j=i then true else listed.getD j false:=by
     intro j;by_cases e:j=i
     ·subst e;rw[if_pos rfl,Array.getD_eq_getD_getElem?,Array.getElem?_setIfInBounds_self_of_lt (by omega)];rfl
     ·rw[if_neg e,getD_set_ne false (Ne.symm e)]
    refine aI _ a' w' (by grind) (λj hU kk aF k al=>?_) (λq bq=>by rw[eU,if_neg (by omega)];grind) ?_ ?_
    ·rw[eU]at aF ⊢;split
     ·rfl
     ·split at aF
      ·rename_i e;subst e;rw[af]at kk;cases kk;exact sT k al
      ·exact qL j hU kk aF k al
    ·have ck:((List.range ops.size).filter λj=>!(listed.setIfInBounds i true).getD j false).length<((List.range ops.size).filter λj=>!listed.getD j false).length:=by
      have ay:(List.range ops.size).filter (λj=>!(listed.setIfInBounds i true).getD j false)=((List.range ops.size).filter λj=>!listed.getD j false).filter λj=>decide (j≠i):=by
       rw[List.filter_filter];apply List.filter_congr;intro j _;rw[eU];simp
      rw[ay];have M5:i∈(List.range ops.size).filter λj=>!listed.getD j false:=by
       grind
      exact List.length_filter_lt_length_iff_exists.2 ⟨i,M5,by simp⟩
     omega
    ·have:jv l s (λj=>(listed.setIfInBounds i true).getD j false)=r.ia (jv l s λj=>listed.getD j false):=by
      rw[<-bL];congr 1;funext j;grind
     grind
theorem Ui{β:Type}{b:Bool}{p:Prop}{m:A β}{O:β->Prop}(h:A.cv (sJ b p m) O):A.cv m O:=by
 cases b with
 | true=>exact h
 | false=>exact (A.kS.1 h).2
theorem ahv{gG iv hK iK lZ:Oper}(h:Mb gG iv hK iK lZ=true):∃ ty m x HC M8 k c ee fJ d1 d2 km y,gG.op=.lookup ty m x false/\iv.op=.binOp .add HC (.tmp ee) (.const (.int k c)) M8/\hK.op=.mapEntry ty m x/\iK.op=.extract (.tmp d1) 1/\
  km.op=.mapUpdate ty m x y/\Am hK iK lZ=some (km,d1,d2)/\gG.dst=some ee/\iv.dst=some fJ/\hK.dst=some d1/\iK.dst=some d2/\fR k c/\(ee≠fJ/\ee≠d1/\ee≠d2/\fJ≠d1/\fJ≠d2/\d1≠d2)/\
  (m≠.tmp ee/\m≠.tmp fJ/\m≠.tmp d1/\m≠.tmp d2)/\(x≠.tmp ee/\x≠.tmp fJ/\x≠.tmp d1/\x≠.tmp d2)/\(∃ oW,m=.tmp oW)/\(∃ M9,x=.tmp M9)/\gG.guard=none/\iv.guard=none/\hK.guard=none/\iK.guard=none/\lZ.guard=none:=by
 unfold Mb at h;split at h
 ·rename_i ty m x HC t k c M8 mV dx dI iP aT kE;split at h
  ·rename_i ee fJ km d1 d2 sU dk sS;simp only[decide_eq_true_eq]at h;obtain⟨rfl,rfl,hX,ay,aP,dO,ej,jM,n4,DS,Uj,ew,dN,ca,a2,a3,a4,ds,ec,lJ,qm,dh,dK⟩:=h;obtain⟨ayu,ayv,ayw,ayx,f1,f2,f3,f4,f5,f6,f7,f8,f9,f10,f11,f12,g1,ei,g3⟩:=TV sS;obtain⟨oW,uA⟩:=Option.isSome_iff_exists.1 ew;obtain⟨M9,Uk⟩:=Option.isSome_iff_exists.1 dN;have em:=vO uA;have ex:=vO Uk;have ahw:=vO (ay.trans uA);have ahx:=vO (aP.trans Uk);rw[f1]at kE;simp only[Op.mapEntry.injEq]at kE;obtain⟨rfl,rfl,rfl⟩:=kE;subst em;subst ex;subst ahw;subst ahx;refine⟨_,_,_,_,_,_,_,_,_,_,_,km,_,iP,aT,f1,f3,f7,sS,sU,dk,f2,f4,hX,⟨dO,ej,jM,n4,DS,Uj⟩,?_,?_,⟨_,rfl⟩,⟨_,rfl⟩,Option.isNone_iff_eq_none.1 dh,Option.isNone_iff_eq_none.1 dK,g1,ei,g3⟩
   ·simp only[ie,ne_eq,Option.some.injEq]at ca a2 a3 a4;exact⟨λe=>ca (by cases e;rfl),λe=>a2 (by cases e;rfl),λe=>a3 (by cases e;rfl),λe=>a4 (by cases e;rfl)⟩
   ·simp only[ie,ne_eq,Option.some.injEq]at ds ec lJ qm;exact⟨λe=>ds (by cases e;rfl),λe=>ec (by cases e;rfl),λe=>lJ (by cases e;rfl),λe=>qm (by cases e;rfl)⟩
  grind
 grind
theorem ahy{β:Type}{n:Nat}(sO:G0 ops.toList=true)(aw:n=ops.size - 5)(aV:dS C.P T)(cA:jq C.P bf)(cX:l2 C.P C.aO Ψ)(ar:∀ o∈ops.toList,lr o C.nt=true){k:aB->A β}{O:β->Prop}
  (al:∀ s' a' w',ct C s' a' w'->A.cv (k s') O->Q .normal a' w') (hm:A.cv (mB C.aO T bf Ψ ops (ops.toList.drop n) [] s k) O) :
  (n<=ops.size/\∀ j,n<=j->j<ops.size->∀ i,i<n->i∈(ir ops.toList).getD j [])/\∀ (a:Act) (w:World),ct C s a w->∀ (cj:Nat) (listed:Array Bool),listed.size=ops.size->(∀ i,listed.getD i false=decide (i<n))->ops.size - n<=cj->wpAnyIn (dR C.r) 0 C.P .any ops Q cj listed a w:=by
 unfold G0 at sO;rw[show ops.toList.length - 5=n by grind]at sO;split at sO
 ·rename_i gG iv hK iK lZ Ul;simp only[Bool.and_eq_true,List.all_eq_true,List.mem_range,List.contains_eq_mem,decide_eq_true_eq,Bool.or_eq_true]at sO;obtain⟨ahz,⟨⟨⟨⟨⟨rQ,gP⟩,M6⟩,T9⟩,AE⟩,T_⟩,T'⟩:=sO;have T8:ops.size=n+5:=by
   have:=congrArg List.length Ul;grind
  have DU:∀ q (o:Oper),[gG,iv,hK,iK,lZ][q]?=some o->ops[n+q]?=some o:=λq o h=>by
   grind
  have x9:=DU 0 gG rfl;have vQ:=DU 1 iv rfl;have AD:=DU 2 hK rfl;have DM:=DU 3 iK rfl;have DN:=DU 4 lZ rfl;have mem:∀ {q o},ops[n+q]?=some o->o∈ops.toList:=λh=>by
   grind
  obtain⟨ty,m,x,HC,M8,fi,c,ee,fJ,d1,d2,km,y,iP,aT,kE,iO,ig,t',sU,dk,DR,HA,hX,⟨dO,ej,jM,n4,DS,Uj⟩,⟨m1,m2,m3,m4⟩,⟨xq,xp,Um,ahA⟩,⟨oW,em⟩,⟨M9,ex⟩,DO,DP,Hu,Hv,Hw⟩:=ahv ahz;have DQ:∀ c,gG.op≠.defer c:=by grind
  have Hx:∀ c,iv.op≠.defer c:=by grind
  have Hy:∀ c,hK.op≠.defer c:=by grind
  have Hz:∀ c,iK.op≠.defer c:=by grind
  refine⟨⟨by omega,λj E U i G=>by have:=gP (j - n) (by omega) i G;simp_all⟩,λa w M cj listed cf ai sS=>?_⟩;have Un:=MY (Q:=Q) aV cA cX ar al _ n [] s a w rfl (λp ao=>by cases ao) M hm;rw[show (ops.toList.drop n).length=5 by grind]at Un;rw[Ul]at hm;obtain⟨κ,F,eV⟩:=M;have gd:∀ {o:Oper},o.guard=none->∀ s:aB,kF s.az ops o.guard=some none:=λh s=>by rw[h];rfl
  have Uo:∀ {o:Oper} {os},(∀ ty m x,o.op≠.mapEntry ty m x)->An o os=none:=λ{o os} h=>by
   unfold An;split
   ·unfold Am;simp
   ·rfl
  have Hl:An gG [iv,hK,iK,lZ]=none:=Uo (by grind);unfold mB at hm;rw[Hl]at hm;simp only[gd DO]at hm;split at hm
  ·rename_i uC HD;rw[sR λW=>(Hm (s:=s) (λp ao=>by cases ao) (gk:=none) (λk al=>by cases al) W).run s.aa uC HD,sR λW=>(Ad W).run s.aa uC HD]at hm;obtain⟨M_,ahB,hm⟩:=hm;have ahC:=xD aV cA (ar gG (mem x9)) HD;have x_:=HD;simp only[bt,iP,zH]at x_;have ahD:(use (a1 C.aO s.az m)).1/\(use (a1 C.aO s.az x)).1/\uC.hG=[]/\∃ v u,uC.e7=.val v u:=by
    split at x_
    ·rename_i js ayy ayz;split at x_
     ·simp only[aq.e2,Option.bind_eq_some_iff,bO,aq.bM,Option.some.injEq]at x_;obtain⟨es,pC,⟨y,l⟩,aS,rfl⟩:=x_;exact⟨M_.1,M_.2,rfl,_,_,rfl⟩
     ·cases x_
    ·cases x_
   obtain⟨MZ,M0,Up,Uq,Ur,ahE⟩:=ahD;have ahF:An iv [hK,iK,lZ]=none:=Uo (by grind);unfold mB at hm;rw[ahF]at hm;simp only[gd DP]at hm;split at hm
   ·rename_i M' ahG;have hm:=Ui (Ui hm);have vR:=ahG;have ay:(s.h' gG.dst uC).az ee=.val Uq Ur:=by rw[sU,aB.h',aB.MW,ahE]
    have lY:xl (.int fi c)=.val (.int fi) c:=by simp[xl,hX]
    have ahH:∃ ca,Uq=.int fi/\M'.hG=[]/\ca=Ur:=by
     simp only[bt,aT,a1,ay,lY,use,aH.mw,aH.tW]at vR;split at vR
     ·rename_i aR ca aW ds E U;split at E
      ·rename_i bL Um ag;cases U;cases ag;cases E;split at vR
       ·rename_i vt;simp only[zD,bO,aq.bM,Option.some.injEq]at vR;grind
       ·cases vR
      grind
     ·rename_i pH;exfalso;split at vR
      ·grind
      ·simp only[aq.e2,Option.bind_eq_some_iff]at vR;obtain⟨⟨c',h8⟩,E,U⟩:=vR;simp only[zE,aq.e2,Option.bind_eq_some_iff,aq.bM]at E;grind
    obtain⟨ly,rfl,Us,rfl⟩:=ahH;have iH:((s.h' gG.dst uC).h' iv.dst M').aa=s.aa:=by
     simp only[aB.h',Up,Us,aB.f_,sU,dk,aB.set]
    have eH:∀ {t:Nat},t≠ee->t≠fJ->((s.h' gG.dst uC).h' iv.dst M').az t=s.az t:=λ{t} E U=>by
     simp only[aB.h',Up,Us,aB.f_];rw[aB.DE (by grind),aB.DE (by grind)]
    unfold mB at hm;rw[show An hK [iK,lZ]=some (km,d1,d2) from t']at hm;simp only at hm;split at hm
    ·rename_i ayA ahI;obtain⟨u,mF,wE,Ut⟩:=ag7 (s:=s) aV iP kE ig iH (by rw[em];exact eH (λe=>m1 (by grind)) (λe=>m2 (by grind))) (by rw[ex];exact eH (λe=>xq (by grind)) (λe=>xp (by grind))) ahI eV MZ M0;have ahJ:=(Ut a rfl rfl).1;have ahK:=DL (K:=λa' w'=>ct C (s.h' gG.dst uC) a' w') (Q:=Q) DQ ahJ (ahC a w κ F Q eV M_ ahB);have Uu:ee<a.tmps.size:=by
      have:=ar gG (mem x9);simp only[lr,Bool.and_eq_true]at this;have:=this.1;rw[sU]at this;have E:=eV.dE;grind
     have ayB:d1<a.tmps.size:=by
      have:=ar hK (mem AD);simp only[lr,Bool.and_eq_true]at this;have:=this.1;rw[DR]at this;have E:=eV.dE;grind
     have hu:u=.int fi ly:=by
      obtain⟨af3,AA,gQ⟩:=ahK;have E:=gQ.bT ee;rw[ay,sU]at E;have U:(a.put (some ee) u).tmps.getD ee Go.undef=u:=DA Uu;rw[U]at E;exact (gV.1 E).1
     subst hu;let vB:Value:=.int fi (fi.wrap (ly+c));have ahL:∀ (a':Act) (w':World),a'.eval (.tmp ee)=.int fi ly->(execOp a'.eval iv).run C.P w'=.ok (.value vB) w':=λa' w' h=>by
      have U:a'.eval (.const (.int fi c))=.int fi c:=rfl;have ag:(Go.binOp .add HC (.int fi ly) (.int fi c)).run C.P w'=.ok vB w':=by simp[Go.binOp,Op.intArith,vB]
      simp only[execOp,aT,h,U,Sem.run_bind,RV,Result.andThen_ok,ag,Sem.run_pure]
     have ahM:∀ (a':Act) (w':World),a'.eval (.tmp d1)=.tuple #[.int fi ly,goInt mF]->(execOp a'.eval iK).run C.P w'=.ok (.value (goInt mF)) w':=λa' w' h=>by
      simp[execOp,iO,h,Instr.extract]
     have MO:∀ l b e dI,(mE a ee fJ d1 d2 (.int fi ly) vB (.tuple #[.int fi ly,goInt mF]) (goInt mF) l b e dI).eval m=a.eval m:=λl b e dI=>T7 m1 m2 m3 m4;have ahN:∀ l b e dI,(mE a ee fJ d1 d2 (.int fi ly) vB (.tuple #[.int fi ly,goInt mF]) (goInt mF) l b e dI).eval x=a.eval x:=λl b e dI=>T7 xq xp Um ahA;refine ahj (wE:=wE) (u:=.int fi ly) (vB:=vB) (vE:=.tuple #[.int fi ly,goInt mF]) (vX:=goInt mF) T8 rQ x9 vQ AD DM DN DO DP Hu Hv Hw DQ Hx Hy Hz gP M6 T9 AE T_ T' sU dk DR HA dO ej jM n4 DS ?_ ?_ ?_ ?_ Un cj listed cf ai (by omega)
     ·intro b e dI;have:=Ut _ (MO false b e dI) (ahN false b e dI);cases e
      ·exact this.1
      ·exact this.2.1
     ·intro e dI;refine ahL _ _ ?_;have E:(mE a ee fJ d1 d2 (.int fi ly) vB (.tuple #[.int fi ly,goInt mF]) (goInt mF) true false e dI).eval (.tmp ee)=(a.put (some ee) (.int fi ly)).eval (.tmp ee):=by
       have dh:Operand.tmp ee≠.tmp d1:=λh=>ej (by grind);have dK:Operand.tmp ee≠.tmp d2:=λh=>jM (by grind);unfold mE;cases e<;>cases dI<;>simp[Az,dh,dK]
      rw[E];exact DA Uu
     ·grind
     ·intro l b;refine ahM _ _ ?_;have E:mE a ee fJ d1 d2 (.int fi ly) vB (.tuple #[.int fi ly,goInt mF]) (goInt mF) l b true false=(mE a ee fJ d1 d2 (.int fi ly) vB (.tuple #[.int fi ly,goInt mF]) (goInt mF) l b false false).put (some d1) (.tuple #[.int fi ly,goInt mF]):=rfl;rw[E];exact DA (by rw[ahi];omega)
    ·exact hm.1.elim
   ·rename_i ayC;exfalso;have:rI C.aO T bf Ψ (s.h' gG.dst uC) iv=none:=by
     have lY:xl (.int fi c)=.val (.int fi) c:=by simp[xl,hX]
     simp only[rI,aT,Dk,a1,lY];simp
    rw[this]at hm;exact hm.1
  ·exfalso;have:rI C.aO T bf Ψ s gG=none:=by simp only[rI,iP]
   rw[this]at hm;exact hm.1
 grind
theorem ahO{β:Type}{L:List (aB->A β)}(iP:L≠[]){o:Oper}(aV:dS C.P T)(cA:jq C.P bf)(cX:l2 C.P C.aO Ψ)(x7:lr o C.nt=true){O:β->Prop}{s:aB}{a:Act}{w:World}(M:ct C s a w)
  (hm:∀ k∈L,A.cv (G2 C.aO T bf Ψ ops o s k) O) {K:Act->World->Prop} (iN:∀ s' a' w',ct C s' a' w'->(∀ k∈L,A.cv (k s') O)->K a' w'):o.guard=none/\o.wpIn (dR C.r) 0 C.P a w K Q:=by
 obtain⟨ho,nb⟩:=List.exists_mem_of_ne_nil L iP;have bg:∀ i,o.dst=some i->i<C.nt:=λi G=>by
  have:=x7;simp only[lr,Bool.and_eq_true]at this;grind
 unfold G2 at hm;split at hm
 ·exact (hm ho nb).1.elim
 ·rename_i aC;refine⟨aC,?_⟩;split at hm
  ·rename_i res gp;obtain⟨κ,F,eV⟩:=M;have hm:∀ k∈L,res.cb/\res.c/\A.cv (k (s.h' o.dst res)) O:=λk al=>by
    have:=hm k al;rw[sR λW=>(Hm (ops:=ops) (tg:=[]) (s:=s) (λp ao=>by cases ao) (gk:=none) (λk al=>by cases al) W).run s.aa res gp,sR λW=>(Ad W).run s.aa res gp]at this;omega
   exact Oper.wpIn_mono (λa' w' ba=>iN _ a' w' ba λk al=>(hm k al).2.2) (xD aV cA x7 gp a w κ F Q eV (hm ho nb).1 (hm ho nb).2.1)
  ·split at hm
   ·rename_i cd oV;obtain⟨jN,qA,mz⟩:=MS aV cA cX bg oV;have hm:∀ k∈L,cd.cb/\A.cv cd.m λy=>A.cv (k (cd.st y)) O:=λk al=>by
     have:=hm k al;rw[sR λW=>mz (LC W),A.fZ]at this;omega
    refine jN a w Q _ M (hm ho nb).1 ⟨(hm ho nb).2.1,λy aS a' w' ba=>iN _ a' w' ba λk al=>(hm k al).2.2 y aS⟩
   ·exact (hm ho nb).1.elim
theorem ahP{ops:List Oper}{done:List Nat}{i:Nat}:i∈vK ops done<->i<ops.length/\i ∉ done/\∃ o,ops[i]?=some o/\∀ j∈ib o,j∈done:=by
 unfold vK;grind
theorem Uv{ops:List Oper}:∀ (f:Nat) (done:List Nat),rJ ops f done≠[]
 | 0,done=>by simp[rJ]
 | f+1,done=>by
  unfold rJ;split
  ·simp
  ·rename_i l ai;cases hc:vK ops done with
   | nil=>grind
   | cons i cc=>
    rw[List.flatMap_cons];intro h;rw[List.append_eq_nil_iff,List.map_eq_nil_iff]at h;exact Uv f _ h.1
theorem HE{listed:Array Bool}{done:List Nat}(cf:listed.size=ops.size)(ai:∀ i,listed.getD i false=done.contains i):Region.ready .any ops listed=vK ops.toList done:=by
 unfold Region.ready vK;rw[Array.length_toList];refine List.filter_congr λi G=>?_;have G:i<ops.size:=by grind
 have E:listed.getD i true=done.contains i:=by
  grind
 rw[E];congr 1;have af:ops.toList[i]?=some ops[i]:=by simp
 rw[af,Array.getElem?_eq_getElem G];show ops[i].after.all _=(ib ops[i]).all _;rw[Bool.eq_iff_iff,Array.all_eq_true',List.all_eq_true];unfold ib;grind
theorem ahQ{β:Type}(aV:dS C.P T)(cA:jq C.P bf)(cX:l2 C.P C.aO Ψ)(ar:∀ o∈ops.toList,lr o C.nt=true){k:aB->A β}{O:β->Prop}(al:∀ s' a' w',ct C s' a' w'->A.cv (k s') O->Q .normal a' w'):∀ (cj:Nat) (done:List Nat) (listed:Array Bool) (s:aB) (a:Act) (w:World),listed.size=ops.size->(∀ i,listed.getD i false=done.contains i)->G1 ops.toList cj done=true->
  ct C s a w->(∀ l∈rJ ops.toList cj done,A.cv (Ap C.aO T bf Ψ ops l s k) O)->wpAnyIn (dR C.r) 0 C.P .any ops Q cj listed a w:=by
 intro cj;induction cj with
 | zero=>
  intro done listed s a w cf ai aC M hm;have oO:=HE (ops:=ops) cf ai;refine⟨?_,al s a w M (hm [] (by simp[rJ]))⟩;rw[oO];exact List.isEmpty_iff.1 aC
 | succ cj aI=>
  intro done listed s a w cf ai aC M hm;have oO:=HE (ops:=ops) cf ai;refine⟨λaU=>?_,λi G=>?_⟩
  ·rw[oO]at aU;refine al s a w M (hm [] ?_);unfold rJ;grind
  ·rw[oO]at G;obtain⟨qC,hX,o,af,_⟩:=ahP.1 G;have qC:i<ops.size:=by omega
   have kk:ops[i]?=some o:=by grind
   have ahR:o∈ops.toList:=List.mem_of_getElem? af;have jS:∀ l∈rJ ops.toList cj (i::done),A.cv (G2 C.aO T bf Ψ ops o s λs'=>Ap C.aO T bf Ψ ops l s' k) O:=λl hle=>by
    have:=hm (i::l) (by
     unfold rJ;grind)
    unfold Ap at this;grind
   obtain⟨g1,ei⟩:=ahO (Q:=Q) (L:=(rJ ops.toList cj (i::done)).map λl=>λs'=>Ap C.aO T bf Ψ ops l s' k) (by simpa using Uv cj (i::done)) aV cA cX (ar o ahR) M
    (λk' ahS=>by obtain⟨l,hle,rfl⟩:=List.mem_map.1 ahS;exact jS l hle)
    (K:=wpAnyIn (dR C.r) 0 C.P .any ops Q cj (listed.setIfInBounds i true)) λs' a' w' ba Tu=>by
     refine aI (i::done) _ s' a' w' (by grind) (λj=>?_) ?_ ba λl hle=>Tu _ (List.mem_map.2 ⟨l,hle,rfl⟩)
     ·by_cases e:j=i
      ·simp_all
      ·rw[getD_set_ne false (Ne.symm e),ai j];simp[e]
     ·unfold G1 at aC;grind
   unfold wpOpIn;rw[kk];simp only;have hw:Region.wanted o (yielded ops a.tmps)=true:=by unfold Region.wanted;rw[g1]
   grind
theorem Uw{β:Type}(aV:dS C.P T)(cA:jq C.P bf)(cX:l2 C.P C.aO Ψ)(ar:∀ o∈ops.toList,lr o C.nt=true){k:aB->A β}{O:β->Prop}
  (al:∀ s' a' w',ct C s' a' w'->A.cv (k s') O->Q .normal a' w') {a:Act} {w:World} (M:ct C s a w) (hm:A.cv (Aq C.aO T bf Ψ ops s k) O):wpAnyIn (dR C.r) 0 C.P .any ops Q ops.size (Array.replicate ops.size false) a w.drew:=by
 unfold Aq at hm;split at hm
 ·rename_i l s' aE;split at hm
  ·rename_i cL;obtain⟨E,U⟩:=T3 _ hm;obtain⟨κ,F,eV⟩:=M;refine ahd aV cA ar aE cL (λr M p ao=>E p (List.mem_flatMap.2 ⟨r,M,ao⟩)) (λa' w' ba=>al s' a' w' ba U) ops.size (Array.replicate ops.size false) a _ (by simp) (λj o _ ai=>?_) ?_ ⟨κ,F,?_⟩
   ·have:(Array.replicate ops.size false).getD j false=false:=by
     rw[Array.getD_eq_getD_getElem?,Array.getElem?_replicate];grind
    grind
   ·grind
   ·have:jv l s (λj=>(Array.replicate ops.size false).getD j false)=s:=by
     unfold jv;rw[List.filter_eq_nil_iff.2 λp _=>?_]
     ·rfl
     ·simp only[Array.getD_eq_getD_getElem?,Array.getElem?_replicate];grind
    rw[this];exact eV.drew
  ·exact hm.1.elim
 ·split at hm
  ·rename_i l s' aE;split at hm
   ·rename_i cL;rw[Bool.and_eq_true]at cL;obtain⟨E,U⟩:=T3 _ hm;obtain⟨κ,F,eV⟩:=M;have cont:(l0 ops.toList<=ops.size/\∀ j,l0 ops.toList<=j->j<ops.size->∀ i,i<l0 ops.toList->i∈(ir ops.toList).getD j [])/\∀ (cj:Nat) (listed:Array Bool) a' w',listed.size=ops.size->(∀ i,listed.getD i false=decide (i<l0 ops.toList))->ops.size - l0 ops.toList<=cj->ct C s' a' w'->wpAnyIn (dR C.r) 0 C.P .any ops Q cj listed a' w':=by
     by_cases sO:G0 ops.toList=true
     ·have Na:l0 ops.toList=ops.size - 5:=by unfold l0;grind
      obtain⟨ay,aP⟩:=ahy (Q:=Q) sO Na aV cA cX ar al U;grind
     ·have Na:l0 ops.toList=Ao (ir ops.toList) ops.toList.length:=by unfold l0;grind
      obtain⟨qD,h0⟩:=T6 (ir ops.toList) ops.toList.length;have qD:l0 ops.toList<=ops.size:=by grind
      have h0:∀ j,l0 ops.toList<=j->j<ops.size->∀ i,i<j->i∈(ir ops.toList).getD j []:=λj E U=>h0 j (by omega) (by omega);refine⟨⟨qD,λj E U i G=>h0 j E U i (by omega)⟩,λcj listed a' w' cf fG sS ba=>?_⟩;refine ag_ cL.2 h0 (ops.size - l0 ops.toList) (l0 ops.toList) cj listed a' w' (Nat.le_refl _) (by omega) cf fG sS ?_;have hlen:(ops.toList.drop (l0 ops.toList)).length=ops.size - l0 ops.toList:=by simp
      rw[<-hlen];exact MY (Q:=Q) aV cA cX ar al _ _ [] s' a' w' rfl (λp ao=>by cases ao) ba U
    obtain⟨⟨qD,h0⟩,ayD⟩:=cont;refine ahu qD aV cA ar aE cL.1 h0 (λr M p ao=>E p (List.mem_flatMap.2 ⟨r,M,ao⟩)) (λcj listed a' w' cf fG sS ba=>?_) ops.size (Array.replicate ops.size false) a _ (by simp) (λj o _ ai=>?_) (λi _=>?_) ?_ ⟨κ,F,?_⟩
    ·grind
    ·have:(Array.replicate ops.size false).getD j false=false:=by
      rw[Array.getD_eq_getD_getElem?,Array.getElem?_replicate];grind
     grind
    ·rw[Array.getD_eq_getD_getElem?,Array.getElem?_replicate];grind
    ·grind
    ·have:jv l s (λj=>(Array.replicate ops.size false).getD j false)=s:=by
      unfold jv;rw[List.filter_eq_nil_iff.2 λp _=>?_]
      ·rfl
      ·simp only[Array.getD_eq_getD_getElem?,Array.getElem?_replicate];grind
     rw[this];exact eV.drew
   ·exact hm.1.elim
  ·unfold Te at hm;split at hm
   ·rename_i zT;obtain⟨κ,F,eV⟩:=M;refine ahQ aV cA cX ar al ops.size [] (Array.replicate ops.size false) s a _ (by simp) (λi=>?_) zT ⟨κ,F,eV.drew⟩ λl hle=>⟨hm.1 _ (List.mem_map.2 ⟨l,hle,rfl⟩),λy aS=>hm.2 y ⟨_,List.mem_map.2 ⟨l,hle,rfl⟩,aS⟩⟩
    rw[Array.getD_eq_getD_getElem?,Array.getElem?_replicate];grind
   ·exact hm.1.elim
theorem ahT{β:Type}{id:Nat}(en:C.P.follows .mixedOrders=true)(aV:dS C.P T)(cA:jq C.P bf)(cX:l2 C.P C.aO Ψ)(ar:∀ o∈ops.toList,lr o C.nt=true){k:aB->A β}{O:β->Prop}
  (al:∀ s' a' w',ct C s' a' w'->A.cv (k s') O->Q .normal a' w') {a:Act} {w:World} (M:ct C s a w) (hm:A.cv (Aq C.aO T bf Ψ ops s k) O):(Code.region id ops true).wpIn (dR C.r) 0 C.P Q a w:=
 wpIn_region_any en (Uw aV cA cX ar al M hm)
theorem AF{ops:Array Oper}{j:Nat}{o:Oper}(h:ops[j]?=some o):(lu ops.toList).toArray[j]?=some (if j=0 then o else { o with after:=o.after.push ⟨0,.phase⟩ }):=by
 obtain⟨l⟩:=ops;cases l with
 | nil=>simp at h
 | cons x l=>
  cases j with
  | zero=>simpa [lu]using h
  | succ j=>
   simp only[List.getElem?_toArray,List.getElem?_cons_succ]at h;simp[lu,h]
theorem Nb(ops:Array Oper):(lu ops.toList).toArray.size=ops.size:=by
 obtain⟨l⟩:=ops;cases l<;>simp[lu]
theorem ahU{ops:Array Oper}{j:Nat}{gE:Oper}(h:(lu ops.toList).toArray[j]?=some gE):∃ o,ops[j]?=some o/\gE=if j=0 then o else { o with after:=o.after.push ⟨0,.phase⟩ }:=by
 have aF:j<ops.size:=by rw[<-Nb];exact (Array.getElem?_eq_some_iff.1 h).1
 have:=AF (ops:=ops) (j:=j) (o:=ops[j]) (by simp[aF]);rw[h]at this;cases this;exact⟨ops[j],by simp[aF],rfl⟩
theorem ahV(ops:Array Oper):yielded (lu ops.toList).toArray=yielded ops:=by
 funext t j;unfold yielded;cases h:ops[j]? with
 | none=>
  have:(lu ops.toList).toArray[j]?=none:=by
   rw[Array.getElem?_eq_none_iff,Nb];exact Array.getElem?_eq_none_iff.1 h
  rw[this]
 | some o=>
  rw[AF h];by_cases aF:j=0
  ·rw[if_pos aF]
  ·rw[if_neg aF];rfl
theorem ahW{F:Fence}{P:Program}:∀ (cj:Nat) (listed:Array Bool) (a:Act) (w:World),listed.getD 0 false=true->wpAnyIn F 0 P .any (lu ops.toList).toArray Q cj listed a w->wpAnyIn F 0 P .any ops Q cj listed a w:=by
 have oO:∀ (listed:Array Bool),listed.getD 0 false=true->∀ i,i∈Region.ready .any ops listed->i∈Region.ready .any (lu ops.toList).toArray listed:=by
  intro listed aU i G;rw[mem_ready]at G ⊢;obtain⟨E,o,af,U⟩:=G;refine⟨E,_,AF af,λe he W=>?_⟩;split at he
  ·exact U e he W
  ·rcases Array.mem_push.1 he with he | rfl
   ·exact U e he W
   ·exact aU
 have ahX:∀ (listed:Array Bool),Region.ready .any ops listed=[]->Region.ready .any (lu ops.toList).toArray listed=[]:=by
  intro listed h;rw[List.eq_nil_iff_forall_not_mem]at h ⊢;intro i G;refine h i ?_;rw[mem_ready]at G ⊢;obtain⟨E,gE,af,U⟩:=G;obtain⟨o,kk,rfl⟩:=ahU af;refine⟨E,o,kk,λe he W=>U e ?_ W⟩;split
  ·exact he
  ·exact Array.mem_push_of_mem _ he
 have ahY:∀ (listed:Array Bool),listed.getD 0 false=true->Region.ready .any (lu ops.toList).toArray listed=[]->Region.ready .any ops listed=[]:=by
  intro listed aU h;rw[List.eq_nil_iff_forall_not_mem]at h ⊢;exact λi G=>h i (oO listed aU i G)
 intro cj;induction cj with
 | zero=>
  intro listed a w aU h;exact⟨ahY listed aU h.1,h.2⟩
 | succ cj aI=>
  intro listed a w aU h;refine⟨λM=>h.1 (ahX listed M),λi G=>?_⟩;have al:=h.2 i (oO listed aU i G);have next:∀ a w,wpAnyIn F 0 P .any (lu ops.toList).toArray Q cj (listed.setIfInBounds i true) a w->wpAnyIn F 0 P .any ops Q cj (listed.setIfInBounds i true) a w:=λa w=>aI _ a w (getD_set_true aU)
  have al:=wpOpIn_mono next al
  unfold wpOpIn at al ⊢;rw[mem_ready]at G;obtain⟨_,o,af,_⟩:=G;rw[af];rw[AF af,ahV]at al;by_cases oP:i=0
  ·rw[if_pos oP]at al;exact al
  ·rw[if_neg oP]at al;exact al
theorem ahZ{β:Type}{id:Nat}(en:C.P.follows .mixedOrders=true)(ah0:C.r=none)(au:Mc ops=true)(aV:dS C.P T)(cA:jq C.P bf)(cX:l2 C.P C.aO Ψ)(ar:∀ o∈ops.toList,lr o C.nt=true){k:aB->A β}{O:β->Prop}
  (al:∀ s' a' w',ct C s' a' w'->A.cv (k s') O->Q .normal a' w') {a:Act} {w:World} (M:ct C s a w) (hm:A.cv (Aq C.aO T bf Ψ (lu ops.toList).toArray s k) O):(Code.region id ops true).wpIn (dR C.r) 0 C.P Q a w:=by
 refine wpIn_mono (Q:=λe a w=>e=.normal/\Q e a w) (wpIn_region_any en ?_) λe a w h=>h.2;have iu:=Uw (Q:=λe a w=>e=.normal/\Q e a w) (ops:=(lu ops.toList).toArray) aV cA cX (λo af=>?_) (λs' a' w' E U=>⟨rfl,al s' a' w' E U⟩) M hm
 ·rw[Nb]at iu;have rR:(dR C.r).round=none:=by rw[ah0];rfl
  unfold Mc at au;split at au
  ·cases au
  ·rename_i o l ai;simp only[Bool.and_eq_true,List.all_eq_true,Bool.or_eq_true]at au;obtain⟨E,U,ag,a7,bN⟩:=au;have aU:ops[0]?=some o:=by rw[<-Array.getElem?_toList,ai];rfl
   obtain⟨m,hm⟩:∃ m,ops.size=m+1:=⟨l.length,by rw[<-Array.length_toList,ai];rfl⟩
   rw[hm]at iu ⊢;have aC:o.guard=none:=by simpa using U
   have iQ:∀ (ops:Array Oper),ops[0]?=some o->0∈Region.ready .any ops (Array.replicate (m+1) false):=λops h=>by
    rw[mem_ready];refine⟨by simp,o,h,λe he=>?_⟩;rw[Array.isEmpty_iff.1 ag]at he;simp at he
   have kY:∃ x,o.op=.move x:=by
    revert E;cases o.op<;>simp
   obtain⟨x,ah⟩:=kY;have aS:YieldsFenced C.P ops o (a.eval x) a:=⟨.inl ⟨by unfold Region.wanted;rw[aC],λw=>by simp[execOp,ah]⟩,λw=>by unfold Oper.about;rw[ah]⟩
   have gv:=iu.2 0 (iQ _ (by rw[AF aU];rfl));unfold wpOpIn at gv;rw[AF aU]at gv;simp only[if_true]at gv;rw[show Region.wanted o (yielded (lu ops.toList).toArray a.tmps)=true by unfold Region.wanted;rw[aC],if_pos rfl]at gv;have gv:wpAnyIn (dR C.r) 0 C.P .any (lu ops.toList).toArray (λe a w=>e=.normal/\Q e a w) m ((Array.replicate (m+1) false).setIfInBounds 0 true) (a.put o.dst (a.eval x)) w.drew:=by
    have:=gv.2;rw[rR,Oper.semAt_none]at this;simpa [execOp,ah,Oper.uponIn]using this
   refine wpAnyIn_first rR aU (Region.noSelect_spec a7) (λc a w h=>by cases h.1) m _ a _ (λj rO Ux ah1 _ he=>?_) (iQ _ aU) aS (ahW m _ _ _ (by simp) gv);have jS:rO∈l:=by
    rw[<-Array.getElem?_toList,ai]at Ux;cases j with
    | zero=>exact absurd rfl ah1
    | succ j=>exact List.mem_of_getElem? Ux
   rcases bN rO jS with h | h
   ·exfalso;have h:0∈ib rO:=by simpa using h
    obtain⟨e,ah2,xB⟩:=List.mem_filterMap.1 h;split at xB
    ·rename_i W;exact he e (by simpa using ah2) W (by simpa using xB)
    ·cases xB
   ·exact h
 ·have af:o∈(lu ops.toList):=by simpa using af
  obtain⟨ol⟩:=ops;cases ol with
  | nil=>cases af
  | cons x l=>
   rcases List.mem_cons.1 af with rfl | af
   ·exact ar _ (by simp)
   ·obtain⟨p,ao,rfl⟩:=List.mem_map.1 af;have:=ar p (by simp[ao]);exact this
end
end Go.Fer
namespace Go.Fer
open Go.RowKit
theorem gH{β:Type}{O:β->Prop}(h:A.cv (A.fail:A β) O):False:=h.1
theorem uD{β:Type}{sh:dG}{s:aB}{k:sh.aj->A β}{O:β->Prop}(h:A.cv (sh.ng s k) O):∃ D,sh.jc s=some D/\A.cv (k D) O:=by
 unfold dG.ng at h;split at h
 ·grind
 ·exact (gH h).elim
def oY(B:Nat):Deferred:={ target:=.collected B,args:=#[] }
structure n' where
 w:World
 K:Nat->Prop
 ms:List Nat
def b9.hn(C:b9)(u:n'):b9:={ C with w0:=u.w,K0:=u.K,dfr:=u.ms.map oY++C.dfr }
structure b9.jT(C:b9)(u:n'):Prop where
 sV:∀ B∈u.ms,u.K B/\u.w.heap[B]?=some (.deferred (some []))
 ey:∀ B∈u.ms,¬C.K0 B/\C.w0.heap.size<=B
 mG:u.ms.Nodup
 ho:∀ r,C.K0 r->u.K r
 eH:∀ r,C.K0 r->u.w.heap[r]?=C.w0.heap[r]?
 size:C.w0.heap.size<=u.w.heap.size
 er:dd C.w0 u.w
def b9.hH(C:b9):n':=⟨C.w0,C.K0,[]⟩
theorem b9.vS(C:b9):C.jT C.hH:=⟨λ_ h=>by simp[b9.hH]at h,λ_ h=>by simp[b9.hH]at h,List.nodup_nil,λ_ h=>h,λ_ _=>rfl,Nat.le_refl _,dd.refl _⟩
def n'.then(u v:n'):n':=⟨v.w,v.K,v.ms++u.ms⟩
theorem b9.AG(C:b9)(u v:n'):(C.hn u).hn v=C.hn (u.then v):=by
 simp[b9.hn,n'.then]
theorem b9.jT.then{C:b9}{u v:n'}(h:C.jT u)(k:(C.hn u).jT v):C.jT (u.then v) where
 sV:=λB aT=>by
  rcases List.mem_append.1 aT with aT | aT
  ·exact k.sV B aT
  ·obtain⟨E,U⟩:=h.sV B aT;exact⟨k.ho B E,(k.eH B E).trans U⟩
 ey:=λB aT=>by
  rcases List.mem_append.1 aT with aT | aT
  ·obtain⟨E,U⟩:=k.ey B aT;exact⟨λag=>E (h.ho B ag),Nat.le_trans h.size U⟩
  ·exact h.ey B aT
 mG:=List.nodup_append.2 ⟨k.mG,h.mG,λa a_ b W e=>(k.ey a a_).1 (e ▸ (h.sV b W).1)⟩
 ho:=λr M=>k.ho r (h.ho r M)
 eH:=λr M=>(k.eH r (h.ho r M)).trans (h.eH r M)
 size:=Nat.le_trans h.size k.size
 er:=h.er.trans k.er
theorem bl.Uy{C:b9}{s:aB}{a:Act}{w:World}{κ:Nat->bB}{F F':Nat->Prop}(h:bl C s a w κ F){w0 w':World}{F0 K0:Nat->Prop}{nt:Nat}{dfr:List Deferred}{r:Option Nat}{sl:Nat->aH}{a':Act}
    (Nc:a'.tmps.size=nt) (Nd:a'.defers=dfr) (rS:nt<=eQ) (fk:∀ i,bz C.P s.aa κ F w (sl i) (a'.tmps.getD i undef)) (pH:∀ l aK L n st,sl b5≠.aX l aK L n st)
    (heq:∀ r,F r\/(∃ b,(s.aa b).body.bZ (κ b)=true/\(κ b).aa=r)->w'.heap[r]?=w.heap[r]?) (cf:w.heap.size<=w'.heap.size)
    (bn:∀ r,F r->F' r) (jn:∀ r,F' r->r<w'.heap.size) (DV:∀ b,(s.aa b).body.bZ (κ b)=true->¬F' (κ b).aa)
    (Nf:∀ r,F' r->F0 r\/¬K0 r) (Ng:∀ r,F0 r->F' r) (DW:∀ r,K0 r->r<w0.heap.size) (uE:∀ r,K0 r->w'.heap[r]?=w0.heap[r]?) (gm:∀ b,(s.aa b).body.bZ (κ b)=true->¬K0 (κ b).aa)
    (nj:w0.heap.size<=w'.heap.size) (hc:dd w0 w') :
    bl { C with w0:=w0,F0:=F0,K0:=K0,nt:=nt,dfr:=dfr,r:=r } ⟨sl,s.aa⟩ a' w' κ F':=by
  have he:c6 F w w':=⟨cf,λr M=>heq r (.inl M)⟩
  exact {
          dE:=Nc,dfr:=Nd,bT:=λi=>bz.lh (fq.refl _ _) bn he (fk i)
          bC:=λb=>cD.lj (h.bC b) (fq.refl _ _) bn he rfl rfl λaf=>heq _ (.inr ⟨b,af,rfl⟩)
          an:=λb W=>⟨Nat.lt_of_lt_of_le (h.an b W).1 cf,DV b W,gm b W⟩,inj:=h.inj,db:=jn
          hi:=Nf,hT:=Ng,hx:=DW,eH:=uE,size:=nj,er:=hc,gl:=rS,kv:=h.kv,jH:=h.jH,j_:=h.j_,kx:=h.kx,eL:=λl aK L n st e=>(pH l aK L n st e).elim,jI:=h.jI,iD:=h.iD.mono bn he }
theorem bl.vT{C:b9}{s:aB}{a:Act}{w:World}{κ:Nat->bB}{F:Nat->Prop}(h:bl C s a w κ F){w0 w':World}{F0 K0:Nat->Prop}{nt:Nat}{dfr:List Deferred}{r:Option Nat}{sl:Nat->aH}{a':Act}
  (Nc:a'.tmps.size=nt) (Nd:a'.defers=dfr) (rS:nt<=eQ) (fk:∀ i,bz C.P s.aa κ F w (sl i) (a'.tmps.getD i undef)) (pH:∀ l aK L n st,sl b5≠.aX l aK L n st)
  (heq:∀ r,F r\/(∃ b,(s.aa b).body.bZ (κ b)=true/\(κ b).aa=r)->w'.heap[r]?=w.heap[r]?) (cf:w.heap.size<=w'.heap.size)
  (Nf:∀ r,F r->F0 r\/¬K0 r) (Ng:∀ r,F0 r->F r) (DW:∀ r,K0 r->r<w0.heap.size) (uE:∀ r,K0 r->w'.heap[r]?=w0.heap[r]?) (gm:∀ b,(s.aa b).body.bZ (κ b)=true->¬K0 (κ b).aa)
  (nj:w0.heap.size<=w'.heap.size) (hc:dd w0 w') :
  bl { C with w0:=w0,F0:=F0,K0:=K0,nt:=nt,dfr:=dfr,r:=r } ⟨sl,s.aa⟩ a' w' κ F:=
 h.Uy Nc Nd rS fk pH heq cf (λ_ h=>h) (λr M=>Nat.lt_of_lt_of_le (h.db r M) cf) (λb W=>(h.an b W).2.1) Nf Ng DW uE gm nj hc
theorem bl.HF{C:b9}{s:aB}{a:Act}{w:World}{κ:Nat->bB}{F:Nat->Prop}(h:bl C s a w κ F){w0 w':World}{K0:Nat->Prop}{r:Option Nat}
    (iN:∀ r,K0 r->C.K0 r) (heq:∀ r,F r\/¬C.K0 r->w'.heap[r]?=w.heap[r]?) (cf:w.heap.size<=w'.heap.size) (x':dd w w')
    (DW:∀ r,K0 r->r<w0.heap.size) (uE:∀ r,K0 r->w'.heap[r]?=w0.heap[r]?) (nj:w0.heap.size<=w'.heap.size) (hc:dd w0 w') :
    bl { C with w0:=w0,K0:=K0,r:=r } s a w' κ F:=by
  have he:c6 F w w':=⟨cf,λr M=>heq r (.inl M)⟩
  have jn:∀ r,F r->r<w'.heap.size:=λr M=>Nat.lt_of_lt_of_le (h.db r M) cf;exact {
          dE:=h.dE,dfr:=h.dfr,bT:=λi=>bz.lh (fq.refl _ _) (λ_ h=>h) he (h.bT i)
          bC:=λb=>cD.lj (h.bC b) (fq.refl _ _) (λ_ h=>h) he rfl rfl λaf=>heq _ (.inr (h.an b af).2.2)
          an:=λb W=>⟨Nat.lt_of_lt_of_le (h.an b W).1 cf,(h.an b W).2.1,λk=>(h.an b W).2.2 (iN _ k)⟩,inj:=h.inj,db:=jn
          hi:=λr M=>(h.hi r M).imp id λk k'=>k (iN r k'),hT:=h.hT,hx:=DW,eH:=uE,size:=nj,er:=hc,gl:=h.gl,kv:=h.kv,jH:=h.jH,j_:=h.j_,kx:=h.kx
          eL:=λl aK L n st e=>by
            obtain⟨E,U,Y,ag,a7,bN⟩:=h.eL l aK L n st e;exact⟨E,U,Y,λr M=>⟨Nat.lt_of_lt_of_le (ag r M).1 cf,(ag r M).2.1,λk=>(ag r M).2.2 (iN r k)⟩,a7,U.KD bN (λ_ h=>h) (λr M=>heq r (M.imp id λaS=>(ag r aS).2.2)) cf x' jn λr au aS=>(ag r aS).2.1 au⟩
          jI:=h.jI,iD:=h.iD.mono (λ_ h=>h) he }
theorem Uz{P:Program}{H:Nat->bK}{κ:Nat->bB}{F:Nat->Prop}{w:World}{aK:ab}{x:aK.aj}:∀ (ps:List Tmp) (args:List Value) (j:Nat) (f:Nat->aH) (oW:Array Value),ps.length=args.length->(∀ p∈ps,p<oW.size)->
  (∀ i,bz P H κ F w (f i) (oW.getD i undef))->(∀ i,i<args.length->bz P H κ F w (kB aK x (j+i)) (args.getD i undef))->
  ∀ i,bz P H κ F w (Ar aK x ps j f i) (((ps.zip args).foldl (λtmps p=>tmps.setIfInBounds p.1 p.2) oW).getD i undef)
 | [],[],_,_,_,_,_,au,_,i=>au i
 | p::ps,v::args,j,f,oW,ai,ao,au,ae,i=>by
  simp only[Ar,List.zip_cons_cons,List.foldl_cons];refine Uz ps args (j+1) _ _ (by grind) (λq bq=>by grind) (λi=>?_) (λi G=>?_) i
  ·rw[Array.getD_eq_getD_getElem?,Array.getElem?_setIfInBounds];by_cases e:i=p
   ·grind
   ·rw[if_neg e,if_neg (Ne.symm e)];simp_all
  ·have:=ae (i+1) (by grind);grind
theorem ah3{ps:List Tmp}{args:List Value}:∀ {oW:Array Value},((ps.zip args).foldl (λtmps p=>tmps.setIfInBounds p.1 p.2) oW).size=oW.size:=by
 generalize ps.zip args=l;induction l with
 | nil=>simp
 | cons p l aI=>grind
def sW:dj->Option Code
 | .normal=>none
 | .exit id=>some (.exit id)
 | .ret=>some .ret
def e'(fn:FuncId)(oW:Array Value)(ps:Array Tmp)(assign body:Code)(B:Nat)(st:LoopState)(e:dj):Loop:=
 { state:=st,pending:=sW e,fn:=fn,tmps:=oW,params:=ps,assign:=assign,body:=body,defers:=B }
def HG(P:Program)(aO:dD)(nt:Nat)(assign body:Code)(l:Nat){rout:dG}(run:aB->A (dj×rout.aj)):Prop:=
 ∀ (C1:b9),C1.P=P->C1.aO=aO->C1.nt=nt->C1.r=some l->∀ (ew:aB) (ca:Act) (b':World) (qM:dj×rout.aj->Prop),ct C1 ew ca b'->A.cv (run ew) qM->
  assign.wpIn (dR (some l)) 0 P (Exit.then (λa2 c8=>∃ u dN,C1.jT u/\ct (C1.hn u) dN a2 c8/\
   ∀ (hz:b9),hz.P=P->hz.aO=aO->hz.nt=nt->hz.r=some l->∀ (c8:World),ct hz dN a2 c8->
    body.wpIn (dR (some l)) 0 P (λe a3 eW=>∃ (aZ:dj) (v:n') (eJ:aB) (bm:rout.aj),e=aZ.pN/\hz.jT v/\ct (hz.hn v) eJ a3 eW/\rout.jc eJ=some bm/\qM (aZ,bm)) a2 c8) (λ_ _ _=>False)) ca b'
theorem ah4{ts:List (Nat×bY)}{R:Type}(h:ts.isEmpty=true)(g:Nat->Nat×Nat)(z:oQ ts R)(i:Nat):fr (eD g ts z).1 i=.undef:=by
 cases ts with
 | nil=>rfl
 | cons p ts=>cases h
theorem ah5{P:Program}{l:Nat}{R:Ending->World->Prop}{e:dj}{a:Act}{w:World}{r:Loop}(h:w.heap[l]?=some (.loop r))
  (jU:R (.returned (.bool (sW e).isNone)) (w.putObj l (.loop { r with state:=if (sW e).isNone then .ready else .done,pending:=sW e }))):roundPost P l R e.pN a w:=by
 cases e with
 | normal=>exact⟨_,_,run_endRound none h,jU⟩
 | exit id=>exact⟨_,_,run_endRound (some (.exit id)) h,jU⟩
 | ret=>exact⟨_,_,run_endRound (some .ret) h,jU⟩
theorem ah6{CI:b9}{sh rin rout:dG}{aK:ab}{ps:Array Tmp}{assign body:Code}{a:Act}{ax:World}{κ:Nat->bB}{F:Nat->Prop}{D:sh.aj}{fn:FuncId}{l B:Nat}{x:aK.aj}{args:List Value}{run:aB->A (dj×rout.aj)}
  {Or:dj×sh.aj->Prop} {Y Z:Nat->Prop} (ah7:Z l)
  (M:bl CI (sh.st D) a ax κ F) (ea:n8 sh rout aK ps.toList a.tmps.size=true) (DX:HG CI.P CI.aO a.tmps.size assign body l run) (hm:A.cv (uw sh rin rout aK ps.toList D x run) Or)
  (ai:ax.heap[l]?=some (.loop (e' fn a.tmps ps assign body B .ready .normal))) (ah8:¬F l) (sz:∀ b,((sh.st D).aa b).body.bZ (κ b)=true->Y (κ b).aa/\¬Z (κ b).aa) (dX:fp CI.P aK F ax args x) :
  ∃ tmps,(Instr.yield l args.toArray).run CI.P ax=.ok (.round l fn tmps assign body) ax/\RoundIn Fence.wide 0 CI.P l fn tmps assign body ax λe qN=>
   ∃ (bF:dj) (iL:sh.aj) (κ':Nat->bB) (F':Nat->Prop) (o:Obj),e=.returned (.bool (sW bF).isNone)/\Or (bF,iL)/\qN.heap[l]?=some (.loop (e' fn a.tmps ps assign body B (if (sW bF).isNone then .ready else .done) bF))/\
    bl { CI with w0:=ax.putObj l o,F0:=F,K0:=λr=>r<ax.heap.size/\(Z r\/¬Y r) } (sh.st iL) a qN κ' F':=by
 simp only[n8,Bool.and_eq_true,decide_eq_true_eq,Bool.not_eq_true',List.all_eq_true]at ea;obtain⟨⟨⟨⟨aR,aW⟩,bL⟩,fA⟩,pG⟩:=ea;have AH:l<ax.heap.size:=(Array.getElem?_eq_some_iff.1 ai).1;obtain⟨iE,HH⟩:=ue (H:=(sh.st D).aa) (κ:=κ) aK dX bL;have pH:(sh.st D).az b5=.undef:=xZ sh.bT c_ D b5 aW;have Gh:(Array.zip ps args.toArray).foldl (λtmps (x:Tmp×Value)=>match x with | (t,a)=>tmps.setIfInBounds t a) a.tmps=(ps.toList.zip args).foldl (λtmps p=>tmps.setIfInBounds p.1 p.2) a.tmps:=by
  rw[<-Array.foldl_toList];simp
 refine⟨(ps.toList.zip args).foldl (λtmps p=>tmps.setIfInBounds p.1 p.2) a.tmps,?_,?_⟩
 ·rw[<-Gh];exact run_yield ai (by show args.toArray.size=ps.size;grind)
 have ah9:bl { CI with w0:=ax,F0:=F,K0:=λr=>r<ax.heap.size/\(Z r\/¬Y r) } (sh.st D) a ax κ F:=
  M.vT M.dE M.dfr M.gl M.bT (λl aK L n st e=>by have e:(sh.st D).az b5=.aX l aK L n st:=e;grind) (λ_ _=>rfl) (Nat.le_refl _) (λ_ h=>.inl h) (λ_ h=>h) (λ_ h=>h.1) (λ_ _=>rfl)
   (λb W h=>h.2.elim (sz b W).2 λh=>h (sz b W).1) (Nat.le_refl _) (dd.refl _)
 unfold uw at hm;split at hm
 ·rename_i aJ bV ah_;split at hm
  ·rename_i cL;rw[A.fZ]at hm;have gQ:bl { CI with w0:=ax,F0:=F,K0:=λr=>r<ax.heap.size/\(Z r\/¬Y r),nt:=a.tmps.size,dfr:=[],r:=none } ⟨(xT (sh.st D) aK x ps.toList).az,(sh.st D).aa⟩ { tmps:=(ps.toList.zip args).foldl (λtmps p=>tmps.setIfInBounds p.1 p.2) a.tmps,defers:=[] } ax κ F:=by
    refine M.vT ah3 rfl (by rw[M.dE];exact M.gl) (λi=>?_) (λdF kH e4 i_ iw e=>?_) (λ_ _=>rfl) (Nat.le_refl _) (λ_ h=>.inl h) (λ_ h=>h) (λ_ h=>h.1) (λ_ _=>rfl)
     (λb W h=>h.2.elim (sz b W).2 λh=>h (sz b W).1) (Nat.le_refl _) (dd.refl _)
    ·show bz CI.P (sh.st D).aa κ F ax (if i=b5 then (sh.st D).az b5 else Ar aK x ps.toList 0 (sh.st D).az i) _;split
     ·rw[pH];trivial
     ·exact Uz ps.toList args 0 _ _ (by omega) (λp ao=>by grind) M.bT (λi G=>by grind) i
    ·have e:(if b5=b5 then (sh.st D).az b5 else Ar aK x ps.toList 0 (sh.st D).az b5)=.aX dF kH e4 i_ iw:=e;grind
   obtain⟨F',an,gC,il,f1,ba,gm,DY,ayE,Dz,MJ⟩:=TK (c:=vL rin rout) ah9 gQ (by rfl) ah_ rfl cL;have Nh:l<ax.heap.size/\(Z l\/¬Y l):=⟨AH,.inl ah7⟩
   have UA:¬F' l:=λh=>(ba.hi l h).elim ah8 λh=>h Nh;have ah':¬an l:=λh=>by
    obtain⟨b,E,U⟩:=gm l h;exact (ba.an b E).2.2 (U ▸ Nh)
   have aia:¬gC l:=λh=>(DY.low l h).2.2 Nh;have UB:l<ax.heap.size/\¬an l/\¬gC l:=⟨AH,ah',aia⟩
   have HI:bl { rM CI ax F' a.tmps.size an gC il with r:=some l } (rin.st aJ) _ ax _ F':=Dz.HF (w0:=ax) (w':=ax) (K0:=λr=>r<ax.heap.size/\¬an r/\¬gC r) (r:=some l) (λ_ h=>h) (λ_ _=>rfl) (Nat.le_refl _) (dd.refl _) (λ_ h=>h.1) (λ_ _=>rfl) (Nat.le_refl _) (dd.refl _);refine roundIn_of_wpIn trivial ?_;refine wpIn_mono (DX { rM CI ax F' a.tmps.size an gC il with r:=some l } rfl rfl rfl rfl (rin.st aJ) _ ax _ ⟨_,_,HI⟩ hm) λe a2 c8 bq=>?_;cases e with
   | normal=>
    obtain⟨u,dN,hu,⟨ni,ek,cM⟩,bS⟩:=bq;have sX:u.K l:=hu.ho l UB;have gr:c8.heap[l]?=some (.loop (e' fn a.tmps ps assign body B .ready .normal)):=(cM.eH l sX).trans ((hu.eH l UB).trans ai);refine⟨_,run_beginRound gr rfl,?_⟩;have aib:l<c8.heap.size:=(Array.getElem?_eq_some_iff.1 gr).1;have aic:¬ek l:=λh=>(cM.hi l h).elim UA λh=>h sX;have oZ:=cM.HF (w0:=c8.putObj l (.loop (e' fn a.tmps ps assign body B .busy .normal))) (w':=c8.putObj l (.loop (e' fn a.tmps ps assign body B .busy .normal))) (K0:=u.K) (r:=some l) (λ_ h=>h)
     (λr h=>World.putObj_heap_other λe=>by
      subst e;exact h.elim aic λh=>h sX) (by simp) ⟨rfl,rfl,rfl⟩ (λr h=>by
       have:=cM.hx r h;have:=cM.size;simp;omega) (λ_ _=>rfl) (Nat.le_refl _) (dd.refl _)
    refine wpIn_mono (bS { ({ rM CI ax F' a.tmps.size an gC il with r:=some l }:b9).hn u with w0:=c8.putObj l (.loop (e' fn a.tmps ps assign body B .busy .normal)),K0:=u.K,r:=some l } rfl rfl rfl rfl _ ⟨ni,ek,oZ⟩) λe a3 eW ⟨aZ,v,eJ,bm,he,ae,⟨HJ,UC,mH⟩,ga,HK⟩=>?_;subst he;obtain⟨HJ,UD,f4,o0⟩:=dG.Au ga mH;have xv:v.K l:=ae.ho l sX;have HL:eW.heap[l]?=some (.loop (e' fn a.tmps ps assign body B .busy .normal)):=(o0.eH l xv).trans ((ae.eH l sX).trans (World.putObj_heap_same aib));have UE:l<eW.heap.size:=(Array.getElem?_eq_some_iff.1 HL).1;have ayF:¬UD l:=λh=>(o0.hi l h).elim UA λh=>h xv;generalize gv:(if (sW aZ).isNone then LoopState.ready else .done)=iw;refine ah5 HL ?_;rw[gv];have mD:bl { CI with w0:=ax.putObj l (.loop (e' fn a.tmps ps assign body B iw aZ)),F0:=F,K0:=λr=>r<ax.heap.size/\(Z r\/¬Y r) } ((sh.st D).cz bV) a (ax.putObj l (.loop (e' fn a.tmps ps assign body B iw aZ))) κ F':=
     ba.HF (λ_ h=>h) (λr h=>World.putObj_heap_other λe=>by
      grind) (by simp) ⟨rfl,rfl,rfl⟩ (λr h=>by simpa using h.1) (λ_ _=>rfl) (Nat.le_refl _) (dd.refl _)
    have Ay:ax.heap.size<=eW.heap.size:=by
     have E:=hu.size;have U:=cM.size;have ag:=ae.size;have a7:=o0.size;have E:ax.heap.size<=u.w.heap.size:=E;have U:u.w.heap.size<=c8.heap.size:=U;have ag:(c8.putObj l (.loop (e' fn a.tmps ps assign body B .busy .normal))).heap.size<=v.w.heap.size:=ag;have a7:v.w.heap.size<=eW.heap.size:=a7;simp only[World.putObj_size]at ag;omega
    have ya:dd ax eW:=by
     have E:dd ax u.w:=hu.er;have U:dd u.w c8:=cM.er;have ag:dd c8 v.w:=⟨ae.er.os,ae.er.tape,ae.er.output⟩
     exact E.trans (U.trans (ag.trans o0.er))
    have aid:∀ i,(rout.st bm).az i=.undef:=λi=>ah4 aR c_ bm i;have lY:∀ r,(r<(ax.putObj l (.loop (e' fn a.tmps ps assign body B iw aZ))).heap.size/\¬an r/\¬gC r)->(r<ax.heap.size/\¬an r/\¬gC r):=λr h=>⟨by simpa using h.1,h.2⟩
    have hL:=o0.vT (w0:=ax.putObj l (.loop (e' fn a.tmps ps assign body B iw aZ))) (w':=eW.putObj l (.loop (e' fn a.tmps ps assign body B iw aZ))) (F0:=F') (K0:=λr=>r<(ax.putObj l (.loop (e' fn a.tmps ps assign body B iw aZ))).heap.size/\¬an r/\¬gC r) (nt:=0) (dfr:=[]) (r:=none) (sl:=(rout.st bm).az) (a':={ tmps:=#[],defers:=[] }) rfl rfl (Nat.zero_le _)
     (λi=>by rw[aid];trivial) (λl aK L n st e=>by grind)
     (λr h=>World.putObj_heap_other λe=>by
      subst e;rcases h with h | ⟨b,E,U⟩
      ·grind
      ·exact (o0.an b E).2.2 (U ▸ xv)) (by simp) (λr h=>(o0.hi r h).imp id λh dt=>h (ae.ho r (hu.ho r (lY r dt)))) o0.hT (λr h=>h.1)
     (λr h=>by
      by_cases e:r=l
      ·subst e;rw[World.putObj_heap_same UE,World.putObj_heap_same AH]
      ·rw[World.putObj_heap_other e,World.putObj_heap_other e];have E:u.K r:=hu.ho r (lY r h);exact (o0.eH r (ae.ho r E)).trans ((ae.eH r E).trans ((World.putObj_heap_other e).trans ((cM.eH r E).trans (hu.eH r (lY r h))))))
     (λb W h=>(o0.an b W).2.2 (ae.ho _ (hu.ho _ (lY _ h)))) (by simpa using Ay) ⟨ya.os,ya.tape,ya.output⟩
    obtain⟨κn,n_,_⟩:=MJ (ax.putObj l (.loop (e' fn a.tmps ps assign body B iw aZ))) (ax.putObj l (.loop (e' fn a.tmps ps assign body B iw aZ))) mD ⟨λdF kH e4 i_ iw e=>(by
      grind),λr h=>⟨by simpa using (DY.low r h).1,(DY.low r h).2⟩,DY.an,DY.Hd⟩ bm [] (eW.putObj l (.loop (e' fn a.tmps ps assign body B iw aZ))) HJ UD hL
    obtain⟨iL,Ni,aie⟩:=uD HK;obtain⟨κn,aif,_,aih⟩:=dG.Au Ni n_;exact⟨aZ,iL,κn,aif,(.loop (e' fn a.tmps ps assign body B iw aZ)),rfl,A.d'.1 aie,by rw[gv];exact World.putObj_heap_same UE,aih⟩
   | _=>exact bq.elim
  ·exact hm.1.elim
 ·exact hm.1.elim
theorem UF{w:World}{o hU:Obj}{r:Nat}(h:r<w.heap.size):((w.alloc o).alloc hU).heap[r]?=w.heap[r]?:=
 (pw _ _ (by simp;omega)).trans (pw _ _ h)
def aii(C CI:b9){β:Type}(sh rin rout:dG)(aK:ab)(bU:List aK.aj->Prop)(ps:Array Tmp)(assign body:Code)(a:Act)(fn:FuncId)(l B:Nat)(run:aB->A (dj×rout.aj))(k:dj->aB->A β)(O:β->Prop)
  (st:Bool) (F Y:Nat->Prop) (ax:World):Prop:=
 ∃ (e:dj) (D:sh.aj) (κ:Nat->bB),bl CI (sh.st D) a ax κ F/\ax.heap[l]?=some (.loop (e' fn a.tmps ps assign body B (if st then .done else .ready) e))/\ax.heap[B]?=some (.deferred (some []))/\
  (∀ b,((sh.st D).aa b).body.bZ (κ b)=true->Y (κ b).aa/\¬((κ b).aa=l\/(κ b).aa=B))/\Y l/\Y B/\¬F l/\¬F B/\C.P=CI.P/\
  (st=false->e=.normal/\∀ R,bU R->A.cv (jR (λD y=>uw sh rin rout aK ps.toList D y run) R D) λp=>A.cv (k p.1 (sh.st p.2)) O)/\(st=true->e≠.normal/\A.cv (k e (sh.st D)) O)
theorem UG{C CI:b9}{β:Type}{sh rin rout:dG}{aK:ab}{S:List aK.aj->Prop}{ps:Array Tmp}{assign body:Code}{a:Act}{fn:FuncId}{l B:Nat}{run:aB->A (dj×rout.aj)}{k:dj->aB->A β}{O:β->Prop}
  (iN:CI.K0=λ_=>False) (aij:l≠B) (ea:n8 sh rout aK ps.toList a.tmps.size=true) (DX:HG CI.P CI.aO a.tmps.size assign body l run) :
  FT CI.P (fp CI.P aK) l S λpre=>aii C CI sh rin rout aK (λR=>S (pre++R)) ps assign body a fn l B run k O where
 Ci:=λ{pre st F F' Y w w'} h bn heq cf jO jn DV=>by
  have hc:dd w w':=⟨jO.1,jO.2.1,jO.2.2⟩
  obtain⟨e,D,κ,M,E,U,ag,a7,bN,du,gL,iV,qn⟩:=h;have pH:(sh.st D).az b5=.undef:=by
   simp only[n8,Bool.and_eq_true,Bool.not_eq_true']at ea;exact xZ sh.bT c_ D b5 ea.1.1.1.2
  have uF:∀ r,CI.K0 r->False:=λr h=>by grind
  refine⟨e,D,κ,?_,(heq l (.inr a7)).trans E,(heq B (.inr bN)).trans U,ag,a7,bN,λh=>DV l h a7,λh=>DV B h bN,iV,qn⟩;exact M.Uy M.dE M.dfr M.gl M.bT (λdF kH e4 i_ iw e=>by have e:(sh.st D).az b5=.aX dF kH e4 i_ iw:=e;grind)
   (λr ba=>heq r (ba.imp id λ⟨b,W,e⟩=>e ▸ (ag b W).1)) cf bn jn (λb W au=>DV _ au (ag b W).1) (λr _=>.inr (uF r)) (λr h=>bn r (M.hT r h)) (λr h=>(uF r h).elim) (λr h=>(uF r h).elim) (λb _=>uF _)
   (Nat.le_trans M.size cf) (M.er.trans hc)
 yield:=λ{pre F Y w args x} h jn UH ah dX=>by
  obtain⟨Nj,Nk⟩:=ah;obtain⟨e,D,κ,M,E,U,ag,a7,bN,du,gL,iV,qn,_⟩:=h;obtain⟨rfl,hm⟩:=qn rfl;have pH:∀ D:sh.aj,(sh.st D).az b5=.undef:=λD=>by
   simp only[n8,Bool.and_eq_true,Bool.not_eq_true']at ea;exact xZ sh.bT c_ D b5 ea.1.1.1.2
  have uF:∀ r,CI.K0 r->False:=λr h=>by grind
  have hm:A.cv (uw sh rin rout aK ps.toList D x run) λp=>∀ T,S (pre++x::T)->A.cv (match p.1 with
    | .normal=>jR (λD y=>uw sh rin rout aK ps.toList D y run) T p.2
    | .exit id=>A.pure (.exit id,p.2)
    | .ret=>A.pure (.ret,p.2)) λp=>A.cv (k p.1 (sh.st p.2)) O:=by
   have E:=λT aV=>A.fZ.1 (hm (x::T) aV);exact⟨(E Nj Nk).1,λy aS T aV=>(E T aV).2 y aS⟩
  obtain⟨tmps,aS,aik⟩:=ah6 (Z:=λr=>r=l\/r=B) (.inl rfl) M ea DX hm E du ag dX;refine⟨fn,tmps,assign,body,aS,aik.mono λaZ qN ⟨bF,iL,κ',F',o,he,HK,HM,ba⟩=>?_⟩;have AH:l<w.heap.size:=(UH l a7).1;have Nl:B<w.heap.size:=(UH B bN).1;have g1:∀ r,F r->F' r:=ba.hT;have ei:∀ r,F' r->F r\/Y r\/w.heap.size<=r:=λr cM=>by
   rcases ba.hi r cM with h | h
   ·exact .inl h
   ·by_cases ck:r<w.heap.size
    ·by_cases aS:Y r
     ·exact .inr (.inl aS)
     ·exact (h ⟨ck,.inr aS⟩).elim
    ·exact .inr (.inr (Nat.le_of_not_lt ck))
  have UI:∀ r,r<w.heap.size->¬F r->(r=l\/r=B)->¬F' r:=λr ck au bk rP=>(ba.hi r rP).elim au λh=>h ⟨ck,.inl bk⟩;have UJ:¬F' l:=UI l AH du (.inl rfl);have vQ:¬F' B:=UI B Nl gL (.inr rfl);have UK:∀ b,((sh.st iL).aa b).body.bZ (κ' b)=true->¬((κ' b).aa=l\/(κ' b).aa=B)/\(Y (κ' b).aa\/w.heap.size<=(κ' b).aa):=λb W=>by
   have al:=(ba.an b W).2.2;grind
  have HN:w.heap.size<=qN.heap.size:=by have:=ba.size;simpa using this
  have gc:dd w qN:=⟨ba.er.os,ba.er.tape,ba.er.output⟩
  have ayG:∀ T,pre++[x]++T=pre++x::T:=λT=>by simp
  refine⟨(sW bF).isNone,F',λr=>(∃ b,((sh.st iL).aa b).body.bZ (κ' b)=true/\(κ' b).aa=r)\/r=l\/r=B,he,g1,ei,ba.db,λr ck aS=>?_,λr cM=>?_,HN,⟨gc.os,gc.tape,gc.output⟩,?_⟩
  ·have eC:r≠l:=λe=>aS (e ▸ a7);exact (ba.eH r ⟨ck,.inr aS⟩).trans (World.putObj_heap_other eC)
  ·rcases cM with⟨b,W,rfl⟩ | rfl | rfl
   ·exact⟨(UK b W).2,(ba.an b W).1,(ba.an b W).2.1⟩
   ·exact⟨.inl a7,Nat.lt_of_lt_of_le AH HN,UJ⟩
   ·exact⟨.inl bN,Nat.lt_of_lt_of_le Nl HN,vQ⟩
  ·refine⟨bF,iL,κ',?_,?_,?_,λb W=>⟨.inl ⟨b,W,rfl⟩,(UK b W).1⟩,.inr (.inl rfl),.inr (.inr rfl),UJ,vQ,iV,λgv=>?_,λgv=>?_⟩
   ·exact ba.vT ba.dE ba.dfr ba.gl ba.bT (λdF kH e4 i_ iw e=>by have e:(sh.st iL).az b5=.aX dF kH e4 i_ iw:=e;grind) (λ_ _=>rfl) (Nat.le_refl _) (λr _=>.inr (uF r)) (λr h=>g1 r (M.hT r h))
     (λr h=>(uF r h).elim) (λr h=>(uF r h).elim) (λb _=>uF _) (Nat.le_trans M.size HN) (M.er.trans gc)
   ·grind
   ·exact (ba.eH B ⟨Nl,.inl (.inr rfl)⟩).trans ((World.putObj_heap_other (Ne.symm aij)).trans U)
   ·cases bF with
    | normal=>grind
    | _=>cases gv
   ·cases bF with
    | normal=>cases gv
    | exit id=>exact⟨by simp,(HK Nj Nk).2 _ rfl⟩
    | ret=>exact⟨by simp,(HK Nj Nk).2 _ rfl⟩
theorem UL{P:Program}{l:Nat}{aK:ab}{S:List aK.aj->Prop}{I:List aK.aj->Bool->(Nat->Prop)->(Nat->Prop)->World->Prop}(h:FT P (fp P aK) l S I):lN.hD P ⟨l,aK,S,I⟩ where
 Ci:=λE U ag a7 bN du gL=>h.Ci E U ag a7 ⟨bN.os,bN.tape,bN.output⟩ du gL
 yield:=λE U ag a7 bN=>YieldAt.mono (h.yield E U ag a7 bN) λ_ _ ⟨b,F',gC,aR,aW,bL,fA,pG,x0,HO,DZ,Nn⟩=>⟨b,F',gC,aR,aW,bL,fA,pG,x0,HO,⟨DZ.1,DZ.2.1,DZ.2.2⟩,Nn⟩
end Go.Fer
