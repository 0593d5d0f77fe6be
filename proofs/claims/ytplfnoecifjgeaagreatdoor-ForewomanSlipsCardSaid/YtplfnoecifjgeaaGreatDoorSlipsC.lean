/- Part 3 of the proof of Slips: shallow programs of Go functions, and what they compute. No condition. -/
import Derived.Test.YtplfnoecifjgeaaGreatDoorSlipsB
import Derived.RangeFuncIn
import Derived.RangeFuncRecord
import Derived.RangeFuncBound
noncomputable section
set_option linter.unusedVariables false
set_option linter.unusedSimpArgs false
namespace Go.Fer
open Go.RowKit
def oi(x y:bC):Prop:=(y.ft=true->x.ft=true)/\(y.eZ=true->x.eZ=true/\y.len=x.len/\y.eK=x.eK)/\(y.gC=true->x.gC=true)/\(y.my=true->x.my=true)/\∀ k,y.bN k=true->x.bN k=true
theorem oi.refl(x:bC):oi x x:=⟨id,λh=>⟨h,rfl,rfl⟩,id,id,λ_=>id⟩
theorem oi.fm(x:bC):oi x .fm:=⟨λh=>(by cases h),λh=>(by cases h),λh=>(by cases h),λh=>(by cases h),λ_ h=>(by cases h)⟩
def r7(f:Nat->Nat)(H H':Nat->bw):Prop:=∀ b,(H' b).gen=0/\oi (H (f b)).body (H' b).body
section
variable {P:Program} {H H':Nat->bw} {κ:Nat->bo} {F F':Nat->Prop} {w:World} {f:Nat->Nat}
theorem SN(aA:r7 f H H'){b off:Nat}{v:Value}(h:bl P H κ F w (.loc (f b) (H (f b)).gen off) v):bl P H' (λb=>κ (f b)) F' w (.loc b 0 off) v:=
 ⟨⟨Nat.zero_le _,h.1.2⟩,λ_ hc=>h.2 rfl ((aA b).2.1 hc)⟩
def Ll(P:Program)(H H':Nat->bw)(κ:Nat->bo)(f:Nat->Nat)(F F':Nat->Prop)(w:World){R:Type}(r:Option (R×List Nat))(l:List Nat)(av av':aF)(y:R):Prop:=
 ∃ m,r=some (y,m)/\(∀ b∈m,b∈l)/\(iM H κ F' l->∀ v,bl P H κ F w av v->bl P H' (λb=>κ (f b)) F' w av' v)
theorem Ll.hl{R:Type}{r:Option (R×List Nat)}{l:List Nat}{av av':aF}{y:R}(h:r=some (y,l))(k:∀ v,bl P H κ F w av v->bl P H' (λb=>κ (f b)) F' w av' v):Ll P H H' κ f F F' w r l av av' y:=
 ⟨l,h,λ_ ad=>ad,λ_=>k⟩
theorem kt{aq:Type}{b:Bool}{r:Option aq}{x:aq}(h:u7 b r=some x):b=true/\r=some x:=by
 cases b with
 | true=>exact⟨rfl,h⟩
 | false=>cases h
theorem p7{t:af}{av:aF}{R:Type}{r:Option (R×List Nat)}{z:t.ai×R}{l:List Nat}(h:xa H t av r=some (z,l)):∃ eB m,(di t av).run H=some (z.1,eB)/\r=some (z.2,m)/\l=eB++m:=by
 unfold xa at h;grind
theorem Lm{t:af}{av:aF}{R:Type}{r:Option (R×List Nat)}{z:t.ai×R}{l:List Nat}(h:KR t av r=some (z,l)):av=.dD t z.1/\r=some (z.2,l):=by
 unfold KR at h;grind
theorem Ln{b:Nat}{av:aF}{R:Type}{r:Option (R×List Nat)}{z:(Nat×Nat)×R}{l:List Nat}(h:KS H b av r=some (z,l)) :
  r=some (z.2,l)/\(av=.sub b (H b).gen z.1.1 z.1.2\/(av=.own b (H b).gen/\(H b).body.eZ=true/\z.1=(0,(H b).body.len))):=by
 unfold KS at h;grind
theorem Gb{aK:af}{av:aF}{R:Type}{r:Option (R×List Nat)}{z:(Nat×(List aK.ai->Prop)×List aK.ai×Bool)×R}{l:List Nat}(h:KT aK av r=some (z,l)) :
  r=some (z.2,l)/\av=.tr z.1.1 aK z.1.2.1 z.1.2.2.1 z.1.2.2.2:=by
 unfold KT at h;grind
theorem Lo{b:Nat}{av:aF}{R:Type}{r:Option (R×List Nat)}{z:Nat×R}{l:List Nat}(h:KV H b av r=some (z,l)):r=some (z.2,l)/\av=.iL b (H b).gen z.1:=by
 unfold KV at h;grind
theorem Lp{av:aF}{R:Type}{r:Option (R×List Nat)}{z:Nat×R}{l:List Nat}(h:KU av r=some (z,l)):r=some (z.2,l)/\av=.gN z.1:=by
 unfold KU at h;grind
theorem SO{b off:Nat}{av:aF}(h:FK H b off av=true):av=.loc b (H b).gen off:=by
 unfold FK at h;grind
theorem SP{b:Nat}{av:aF}(h:FL H b av=true):av=.own b (H b).gen:=by
 unfold FL at h;grind
theorem aeQ{b:Nat}{av:aF}(h:KW H b av=true):av=.fs b (H b).gen:=by
 unfold KW at h;grind
theorem aeR{b:Nat}{av:aF}(h:KX H b av=true):av=.jW b (H b).gen:=by
 unfold KX at h;grind
theorem aeS{av:aF}(h:KY av=true):av=.cV:=by
 unfold KY at h;grind
theorem aeT(aA:r7 f H H'){k:FuncId}{fE:z8'}{av:aF}(h:KZ H f k fE av=true){v:Value}(hv:bl P H κ F w av v):bl P H' (λb=>κ (f b)) F' w (.il k fE.length (u5 cL fE)) v:=by
 unfold KZ at h;split at h
 ·rename_i k' n cH;simp only[Bool.and_eq_true,beq_iff_eq]at h;obtain⟨⟨rfl,rfl⟩,e⟩:=h;obtain⟨aC,h1,h2,h3⟩:=hv;refine⟨aC,h1,h2,λi G=>?_⟩;have he:=List.all_eq_true.1 e i (by grind);have hv:=h3 i G;rw[show fE[i]?=some fE[i] by simp]at he;rw[SO he]at hv;have:u5 cL fE i=.loc fE[i].1 0 fE[i].2:=by simp[u5,gP,List.getD_eq_getElem?_getD,G,cL]
  rw[this];exact SN aA hv
 grind
theorem aeU(aA:r7 f H H'){bs:List Nat}{av:aF}(h:K1 H f bs av=true){v:Value}(hv:bl P H κ F w av v):bl P H' (λb=>κ (f b)) F' w (.agg bs.length (u6 cL bs)) v:=by
 unfold K1 at h;split at h
 ·rename_i n da;simp only[Bool.and_eq_true,beq_iff_eq]at h;obtain⟨rfl,e⟩:=h;obtain⟨aC,h1,h2,h3⟩:=hv;refine⟨aC,h1,h2,λi G=>?_⟩;have he:=List.all_eq_true.1 e i (by grind);obtain⟨hv,hc⟩:=h3 i G;refine⟨?_,hc⟩;rw[show bs[i]?=some bs[i] by simp]at he;rw[SP he]at hv;have:u6 cL bs i=.own bs[i] 0:=by simp[u6,gP,List.getD_eq_getElem?_getD,G,cL]
  rw[this];refine⟨⟨Nat.zero_le _,hv.1.2⟩,λ_ hc=>?_⟩;obtain⟨aP,aQ,_⟩:=(aA bs[i]).2.2.1 hc;rw[aQ];exact hv.2 rfl aP
 grind
theorem xl(aN:∀ b,cj P H κ F w b)(bd:∀ r,F r->F' r)(aA:r7 f H H')(t:bK){av:aF}{R:Type}{r:Option (R×List Nat)}{z:t.cons R}{l:List Nat}(h:t.iR H f av r=some (z,l)) :
  Ll P H H' κ f F F' w r l av (t.av cL z).1 (t.av cL z).2:=by
 cases t with
 | undef=>exact .hl h λ_ _=>by simp only[bK.av,bl]
 | val t=>
  obtain⟨eB,m,hx,rfl,rfl⟩:=p7 h;exact⟨m,rfl,λb ad=>List.mem_append_right _ ad,λan v hv=>l5 aN bd hx an.left hv⟩
 | dD t=>
  obtain⟨rfl,rfl⟩:=Lm h;exact .hl rfl λv ⟨p,a_,h1,h2,h3⟩=>⟨p,a_,h1,h2.mono bd (cJ.refl _ _),eX _ bd (cJ.refl _ _) h3⟩
 | loc b off=>
  obtain⟨h1,h2⟩:=kt h;obtain rfl:=SO h1;exact .hl h2 λv hv=>SN aA hv
 | own b=>
  obtain⟨h1,h2⟩:=kt h;obtain rfl:=SP h1;refine .hl h2 λv hv=>⟨⟨Nat.zero_le _,hv.1.2⟩,λ_ hc=>?_⟩
  obtain⟨aP,aQ,_⟩:=(aA b).2.2.1 hc;simp only[cL];rw[aQ];exact hv.2 rfl aP
 | sub b=>
  obtain⟨h1,h2⟩:=Ln h;refine .hl h1 λv hv=>?_;rcases h2 with rfl | ⟨rfl,eT,h3⟩
  ·refine⟨⟨Nat.zero_le _,hv.1.2⟩,λ_ hc=>?_⟩;obtain⟨aP,aQ,bB⟩:=(aA b).2.2.1 hc;simp only[cL]at aQ bB ⊢;rw[aQ,bB];exact hv.2 rfl aP
  ·refine⟨⟨Nat.zero_le _,hv.1.2⟩,λ_ hc=>?_⟩;obtain⟨aP,aQ,bB⟩:=(aA b).2.2.1 hc;have:=hv.2 rfl aP;simp only[cL]at aQ bB ⊢;rw[aQ,bB,h3];refine⟨⟨Nat.zero_le _,Nat.le_refl _⟩,?_⟩;rw[this];unfold bo.slice;cases aB:(κ (f b)).eQ with
   | true=>exact .inl ⟨aB,rfl⟩
   | false=>exact .inr ⟨aB,(κ (f b)).off,by simp,by simp,λ_=>by simp⟩
 | fs b=>
  obtain⟨h1,h2⟩:=kt h;obtain rfl:=aeQ h1;exact .hl h2 λv hv=>⟨⟨Nat.zero_le _,hv.1.2⟩,λ_ hc=>hv.2 rfl ((aA b).2.2.2.1 hc)⟩
 | jW b=>
  obtain⟨h1,h2⟩:=kt h;obtain rfl:=aeR h1;exact .hl h2 λv hv=>⟨⟨Nat.zero_le _,hv.1.2⟩,λ_ hc=>hv.2 rfl ((aA b).2.2.2.2.1 hc)⟩
 | cV=>
  obtain⟨h1,h2⟩:=kt h;obtain rfl:=aeS h1;exact .hl h2 λv hv=>hv
 | il k fE=>
  obtain⟨h1,h2⟩:=kt h;exact .hl h2 λv hv=>aeT aA h1 hv
 | hn bs=>
  obtain⟨h1,h2⟩:=kt h;exact .hl h2 λv hv=>aeU aA h1 hv
 | iL b=>
  obtain⟨h1,rfl⟩:=Lo h;refine .hl h1 λv hv=>⟨⟨Nat.zero_le _,hv.1.2⟩,λ_ hc=>?_⟩
  obtain⟨aP,aQ,bB⟩:=(aA b).2.2.1 hc;have:=hv.2 rfl aP;simp only[cL]at aQ bB ⊢;rw[aQ,bB];exact this
 | tr aK=>
  obtain⟨h1,rfl⟩:=Gb h;exact .hl h1 λv hv=>hv
 | gN=>
  obtain⟨h1,rfl⟩:=Lp h;exact .hl h1 λv hv=>hv
theorem aeV(aN:∀ b,cj P H κ F w b)(bd:∀ r,F r->F' r)(aA:r7 f H H'):∀ (ts:List bK) {c:Nat->aF} {i:Nat} {R:Type} {r:Option (R×List Nat)} {z:p5 ts R} {l:List Nat},zA H f ts c i r=some (z,l)->
  ∃ m,r=some ((o_ cL ts z).2,m)/\(∀ b∈m,b∈l)/\(iM H κ F' l->∀ j,j<ts.length->∀ v,bl P H κ F w (c (i+j)) v->bl P H' (λb=>κ (f b)) F' w ((o_ cL ts z).1.getD j .undef) v):=by
 intro ts;induction ts with
 | nil=>intro c i R r z l h;exact⟨l,h,λ_ ad=>ad,λ_ j aD=>by cases aD⟩
 | cons t ts aJ=>
  intro c i R r z l h;obtain⟨m1,h1,h2,h3⟩:=xl (F':=F') (H':=H') aN bd aA t h;obtain⟨m2,aP,aQ,gf⟩:=aJ h1;refine⟨m2,aP,λb ad=>h2 b (aQ b ad),λan j aD v hv=>?_⟩;cases j with
  | zero=>exact h3 an v hv
  | succ j=>
   have:=gf (λb ad=>an b (h2 b ad)) j (by grind) v (by grind);simpa [o_]using this
theorem aeW(aN:∀ b,cj P H κ F w b)(bd:∀ r,F r->F' r)(aA:r7 f H H'):∀ (ts:List (Nat×bK)) {c:Nat->aF} {R:Type} {r:Option (R×List Nat)} {z:oe ts R} {l:List Nat},xc H f ts c r=some (z,l)->
  ∃ m,r=some ((ed cL ts z).2,m)/\(∀ b∈m,b∈l)/\(iM H κ F' l->∀ i v,bl P H κ F w (c i) v->bl P H' (λb=>κ (f b)) F' w (ff (ed cL ts z).1 i) v):=by
 intro ts;induction ts with
 | nil=>intro c R r z l h;exact⟨l,h,λ_ ad=>ad,λ_ _ _ _=>by simp only[ed,ff,bl]⟩
 | cons p ts aJ=>
  intro c R r z l h;obtain⟨m1,h1,h2,h3⟩:=xl (F':=F') (H':=H') aN bd aA p.2 h;obtain⟨m2,aP,aQ,gf⟩:=aJ h1;refine⟨m2,aP,λb ad=>h2 b (aQ b ad),λan i v hv=>?_⟩;simp only[ed,ff];split
  ·grind
  ·exact gf (λb ad=>an b (h2 b ad)) i v hv
theorem Gc(t:bK){av:aF}{R:Type}{r:Option (R×List Nat)}{z:t.cons R}{l:List Nat}(h:t.iR H f av r=some (z,l)):∃ m,r=some ((t.av cL z).2,m)/\∀ b∈m,b∈l:=by
 cases t with
 | undef=>exact⟨l,h,λ_ h=>h⟩
 | val t=>obtain⟨_,m,_,h2,h3⟩:=p7 h;exact⟨m,h2,λb ad=>h3 ▸ List.mem_append_right _ ad⟩
 | dD t=>exact⟨l,(Lm h).2,λ_ h=>h⟩
 | sub b=>exact⟨l,(Ln h).1,λ_ h=>h⟩
 | tr aK=>exact⟨l,(Gb h).1,λ_ h=>h⟩
 | gN=>exact⟨l,(Lp h).1,λ_ h=>h⟩
 | iL b=>exact⟨l,(Lo h).1,λ_ h=>h⟩
 | loc b off=>exact⟨l,(kt h).2,λ_ h=>h⟩
 | own b=>exact⟨l,(kt h).2,λ_ h=>h⟩
 | fs b=>exact⟨l,(kt h).2,λ_ h=>h⟩
 | jW b=>exact⟨l,(kt h).2,λ_ h=>h⟩
 | cV=>exact⟨l,(kt h).2,λ_ h=>h⟩
 | il k fE=>exact⟨l,(kt h).2,λ_ h=>h⟩
 | hn bs=>exact⟨l,(kt h).2,λ_ h=>h⟩
theorem aeX:∀ (ts:List bK) {c:Nat->aF} {i:Nat} {R:Type} {r:Option (R×List Nat)} {z:p5 ts R} {l:List Nat},zA H f ts c i r=some (z,l)->∃ m,r=some ((o_ cL ts z).2,m)/\∀ b∈m,b∈l:=by
 intro ts;induction ts with
 | nil=>intro c i R r z l h;exact⟨l,h,λ_ h=>h⟩
 | cons t ts aJ=>
  intro c i R r z l h;obtain⟨m,h1,h2⟩:=Gc t h;obtain⟨df,h3,aT⟩:=aJ h1;exact⟨df,h3,λb ad=>h2 b (aT b ad)⟩
theorem aeY:∀ (ts:List (Nat×bK)) {c:Nat->aF} {R:Type} {r:Option (R×List Nat)} {z:oe ts R} {l:List Nat},xc H f ts c r=some (z,l)->∃ m,r=some ((ed cL ts z).2,m)/\∀ b∈m,b∈l:=by
 intro ts;induction ts with
 | nil=>intro c R r z l h;exact⟨l,h,λ_ h=>h⟩
 | cons p ts aJ=>
  intro c R r z l h;obtain⟨m,h1,h2⟩:=Gc p.2 h;obtain⟨df,h3,aT⟩:=aJ h1;exact⟨df,h3,λb ad=>h2 b (aT b ad)⟩
theorem CG(t:bK){av:aF}{R:Type}{r:Option (R×List Nat)}{z:t.cons R}{l:List Nat}(h:t.iR H f av r=some (z,l))(aa:∀ y m,r=some (y,m)->gp H m):gp H l:=by
 cases t with
 | undef=>exact aa _ _ h
 | val t=>obtain⟨_,m,h1,h2,rfl⟩:=p7 h;exact (mD h1).append (aa _ _ h2)
 | dD t=>exact aa _ _ (Lm h).2
 | sub b=>exact aa _ _ (Ln h).1
 | tr aK=>exact aa _ _ (Gb h).1
 | gN=>exact aa _ _ (Lp h).1
 | iL b=>exact aa _ _ (Lo h).1
 | loc b off=>exact aa _ _ (kt h).2
 | own b=>exact aa _ _ (kt h).2
 | fs b=>exact aa _ _ (kt h).2
 | jW b=>exact aa _ _ (kt h).2
 | cV=>exact aa _ _ (kt h).2
 | il k fE=>exact aa _ _ (kt h).2
 | hn bs=>exact aa _ _ (kt h).2
theorem aeZ:∀ (ts:List bK) {c:Nat->aF} {i:Nat} {R:Type} {r:Option (R×List Nat)} {z:p5 ts R} {l:List Nat},zA H f ts c i r=some (z,l)->(∀ y m,r=some (y,m)->gp H m)->gp H l:=by
 intro ts;induction ts with
 | nil=>intro c i R r z l h aa;exact aa _ _ h
 | cons t ts aJ=>intro c i R r z l h aa;exact CG t h λy m ao=>aJ ao aa
theorem ae0:∀ (ts:List (Nat×bK)) {c:Nat->aF} {R:Type} {r:Option (R×List Nat)} {z:oe ts R} {l:List Nat},xc H f ts c r=some (z,l)->(∀ y m,r=some (y,m)->gp H m)->gp H l:=by
 intro ts;induction ts with
 | nil=>intro c R r z l h aa;exact aa _ _ h
 | cons p ts aJ=>intro c R r z l h aa;exact CG p.2 h λy m ao=>aJ ao aa
theorem Lq{t:af}{ts:List bK}{iB:bC}{R:Type}{r:Option (R×List Nat)}{z:p5 ts R}{l:List Nat}(h:K2 H f t ts iB r=some (z,l)):∃ c,iB=.cells t c/\t.size=ts.length/\zA H f ts c 0 r=some (z,l):=by
 unfold K2 at h;grind
theorem Lr{e:af}{iB:bC}{R:Type}{r:Option (R×List Nat)}{z:List e.ai×R}{l:List Nat}(h:K3 e iB r=some (z,l)):r=some (z.2,l)/\iB=.a8 e z.1:=by
 unfold K3 at h;grind
theorem Ls{e:af}{t:bK}{iB:bC}{R:Type}{r:Option (R×List Nat)}{z:(List e.ai×Nat)×t.cons R}{l:List Nat}(h:K6 H f e t iB r=some (z,l)):∃ v,iB=.fQ e z.1.1 z.1.2 v/\t.iR H f v r=some (z.2,l):=by
 unfold K6 at h;grind
theorem Lt{k v:af}{iB:bC}{R:Type}{r:Option (R×List Nat)}{z:List (k.ai×v.ai)×R}{l:List Nat}(h:K4 k v iB r=some (z,l)):r=some (z.2,l)/\iB=.mp k v z.1:=by
 unfold K4 at h;grind
theorem Lu{k v:af}{iB:bC}{R:Type}{r:Option (R×List Nat)}{z:(Option (k.ai×v.ai)×List (k.ai×v.ai))×R}{l:List Nat}(h:K5 k v iB r=some (z,l)):r=some (z.2,l)/\iB=.b9 k v z.1.1 z.1.2:=by
 unfold K5 at h;grind
theorem Lv{t:af}{iB:bC}{R:Type}{r:Option (R×List Nat)}{z:t.ai×R}{l:List Nat}(h:K7 H t iB r=some (z,l)):∃ c,iB=.cells t c/\xa H t (.agg t.size c) r=some (z,l):=by
 unfold K7 at h;grind
theorem Lw{t:af}{b:Nat}{R:Type}{r:Option (R×List Nat)}{z:t.ai×R}{l:List Nat}(h:K8 H t b r=some (z,l)):∃ eB m,(di (.br t) (.loc b (H b).gen 0)).run H=some (some z.1,eB)/\r=some (z.2,m)/\l=eB++m:=by
 unfold K8 at h;split at h
 ·rename_i x eB hx;split at h
  ·cases h;exact⟨eB,_,hx,rfl,rfl⟩
  ·cases h
 ·cases h
theorem SQ{e:af}{b:Nat}{xs:List e.ai}{l:List Nat}(h:(di (.slice e) (.own b (H b).gen)).run H=some (xs,l)):(H b).body=.a8 e xs\/(H b).body=.hj e xs:=by
 simp only[di,ki,af.ef,if_true,dE,ar.eL,ar.bz]at h;split at h
 ·rename_i aV ys ad;simp only[Option.map_eq_some_iff,Prod.mk.injEq]at h;obtain⟨z,ba,rfl,_⟩:=h;obtain⟨qO,rfl⟩:=kF ba;grind
 ·rename_i aV ys ad;simp only[Option.map_eq_some_iff,Prod.mk.injEq]at h;obtain⟨z,ba,rfl,_⟩:=h;obtain⟨qO,rfl⟩:=kF ba;grind
 grind
theorem ae1{k v:af}{b:Nat}{xs:List (k.ai×v.ai)}{l:List Nat}(h:(di (.map k v) (.fs b (H b).gen)).run H=some (xs,l)):(H b).body=.mp k v xs\/(H b).body=.i_ k v xs:=by
 simp only[di,ki,af.ef,if_true,dE,ar.eL,ar.bz]at h;split at h
 ·rename_i k' hS ys ad;simp only[Option.map_eq_some_iff,Prod.mk.injEq]at h;obtain⟨z,ba,rfl,_⟩:=h;obtain⟨qO,rfl⟩:=kF ba;grind
 ·rename_i k' hS ys ad;simp only[Option.map_eq_some_iff,Prod.mk.injEq]at h;obtain⟨z,ba,rfl,_⟩:=h;obtain⟨qO,rfl⟩:=kF ba;grind
 grind
theorem ae2{t:af}{b:Nat}{x:Option t.ai}{l:List Nat}(h:(di (.br t) (.loc b (H b).gen 0)).run H=some (x,l)):(H b).body.ft=true:=by
 simp only[di,ki,s_,ar.eL,and_self,if_true]at h;split at h
 ·rename_i ad;rw[ad];rfl
 ·rename_i ad;rw[ad];rfl
 ·cases h
theorem bO.SR(t:bO){b:Nat}{R:Type}{r:Option (R×List Nat)}{z:t.cons R}{l:List Nat}(h:t.iR H f b r=some (z,l)) :
  (∃ m,r=some ((t.body cL z).2,m)/\∀ c∈m,c∈l)/\oi (H b).body (t.body cL z).1/\∀ k,(t.body cL z).1.bN k=true->t.Cw=true:=by
 cases t with
 | cells t ts=>
  obtain⟨c,e,hs,h⟩:=Lq h;refine⟨aeX ts h,?_,λ_ _=>rfl⟩;rw[e];exact⟨λ_=>rfl,λh=>(by cases h),λh=>(by cases h),λh=>(by cases h),λ_ _=>rfl⟩
 | a8 e=>
  obtain⟨h1,h2⟩:=Lr h;refine⟨⟨l,h1,λ_ h=>h⟩,?_,λ_ _=>rfl⟩;rw[h2];exact oi.refl _
 | hj e=>
  obtain⟨eB,m,h1,h2,rfl⟩:=p7 h;refine⟨⟨m,h2,λ_ h=>List.mem_append_right _ h⟩,?_,λ_ h=>(by cases h)⟩;rcases SQ h1 with e | e<;>rw[e]
  ·exact⟨λh=>(by cases h),λ_=>⟨rfl,rfl,rfl⟩,λh=>(by cases h),λh=>(by cases h),λ_ h=>(by cases h)⟩
  ·exact oi.refl _
 | mp k v=>
  obtain⟨h1,h2⟩:=Lt h;refine⟨⟨l,h1,λ_ h=>h⟩,?_,λ_ _=>rfl⟩;rw[h2];exact oi.refl _
 | i_ k v=>
  obtain⟨eB,m,h1,h2,rfl⟩:=p7 h;refine⟨⟨m,h2,λ_ h=>List.mem_append_right _ h⟩,?_,λ_ h=>(by cases h)⟩;rcases ae1 h1 with e | e<;>rw[e]
  ·exact⟨λh=>(by cases h),λh=>(by cases h),λ_=>rfl,λh=>(by cases h),λ_ h=>(by cases h)⟩
  ·exact oi.refl _
 | fL t=>
  obtain⟨c,e,h⟩:=Lv h;obtain⟨eB,m,h1,h2,rfl⟩:=p7 h;refine⟨⟨m,h2,λ_ h=>List.mem_append_right _ h⟩,?_,λ_ _=>rfl⟩;rw[e];exact⟨λ_=>rfl,λh=>(by cases h),λh=>(by cases h),λh=>(by cases h),λ_ _=>rfl⟩
 | gm t=>
  obtain⟨eB,m,h1,h2,rfl⟩:=Lw h;refine⟨⟨m,h2,λ_ h=>List.mem_append_right _ h⟩,?_,λ_ h=>(by cases h)⟩;exact⟨λ_=>ae2 h1,λh=>(by cases h),λh=>(by cases h),λh=>(by cases h),λ_ h=>(by cases h)⟩
 | b9 k v=>
  obtain⟨h1,h2⟩:=Lu h;refine⟨⟨l,h1,λ_ h=>h⟩,?_,λ_ _=>rfl⟩;rw[h2];exact oi.refl _
 | fQ e t=>
  obtain⟨v,e1,h⟩:=Ls h;refine⟨Gc t h,?_,λ_ _=>rfl⟩;rw[e1];exact⟨λh=>(by cases h),λ_=>⟨rfl,rfl,rfl⟩,λh=>(by cases h),λh=>(by cases h),λ_ h=>h⟩
theorem bO.CG(t:bO){b:Nat}{R:Type}{r:Option (R×List Nat)}{z:t.cons R}{l:List Nat}(h:t.iR H f b r=some (z,l))(aa:∀ y m,r=some (y,m)->gp H m):gp H l:=by
 cases t with
 | cells t ts=>obtain⟨c,e,hs,h⟩:=Lq h;exact aeZ ts h aa
 | a8 e=>exact aa _ _ (Lr h).1
 | hj e=>obtain⟨eB,m,h1,h2,rfl⟩:=p7 h;exact (mD h1).append (aa _ _ h2)
 | mp k v=>exact aa _ _ (Lt h).1
 | i_ k v=>obtain⟨eB,m,h1,h2,rfl⟩:=p7 h;exact (mD h1).append (aa _ _ h2)
 | fL t=>obtain⟨c,e,h⟩:=Lv h;obtain⟨eB,m,h1,h2,rfl⟩:=p7 h;exact (mD h1).append (aa _ _ h2)
 | gm t=>obtain⟨eB,m,h1,h2,rfl⟩:=Lw h;exact (mD h1).append (aa _ _ h2)
 | b9 k v=>exact aa _ _ (Lu h).1
 | fQ e t=>obtain⟨v,_,h⟩:=Ls h;exact Go.Fer.CG t h aa
theorem bO.ae3(aN:∀ b,cj P H κ F w b)(bd:∀ r,F r->F' r)(aA:r7 f H H')(t:bO){b:Nat}{R:Type}{r:Option (R×List Nat)}{z:t.cons R}{l:List Nat}(h:t.iR H f b r=some (z,l))(an:iM H κ F' l) :
  ju P H' (λb=>κ (f b)) F' w (κ b) (t.body cL z).1:=by
 have ad:=aN b;unfold cj at ad;cases t with
 | cells t ts=>
  obtain⟨c,e,hs,h⟩:=Lq h;rw[e]at ad;obtain⟨cs,T,aP,aQ,bB⟩:=ad;obtain⟨m,_,_,gf⟩:=aeV (H':=H') aN bd aA ts h;refine⟨cs,T,aP,aQ,λi G=>⟨?_,(bB i G).2⟩⟩;have:=gf an i (by omega) _ (by rw[Nat.zero_add];exact (bB i G).1);exact this
 | a8 e=>
  rw[(Lr h).2]at ad;refine⟨ad.1,λaB=>?_⟩;obtain⟨cs,T,h1,h2,h3,aT,bx⟩:=ad.2 aB;exact⟨cs,T,h1,h2,h3,aT,bx.mono bd (cJ.refl _ _)⟩
 | hj e=>
  obtain⟨eB,m,h1,h2,rfl⟩:=p7 h;have uX:=SQ h1;have xm:=l5 (v:=(κ b).slice (H b).body.len) aN bd h1 an.left ⟨⟨Nat.le_refl _,by unfold bo.slice;split<;>rfl⟩,λ_ _=>rfl⟩;have:=((dC rfl).1 xm).2;rcases uX with aV | aV<;>(rw[aV]at this;exact this)
 | mp k v=>
  rw[(Lt h).2]at ad;obtain⟨ms,clk,h1,h2⟩:=ad;exact⟨ms,clk,h1,h2.mono bd (cJ.refl _ _)⟩
 | i_ k v=>
  obtain⟨eB,m,h1,h2,rfl⟩:=p7 h;have xm:=l5 (v:=.map (some (κ b).ae)) aN bd h1 an.left ⟨⟨Nat.le_refl _,rfl⟩,λ_ _=>rfl⟩;exact ((dC rfl).1 xm).2
 | fL t=>
  obtain⟨c,e,h⟩:=Lv h;rw[e]at ad;obtain⟨cs,T,aP,aQ,bB⟩:=ad;obtain⟨eB,m,hx,_,rfl⟩:=p7 h;have hv:bl P H κ F w (.agg t.size c) (.agg cs):=⟨cs.toList,by simp,by omega,λj aD=>by
   simp_all⟩
  have xm:=l5 (F':=F') aN bd hx an.left hv;have iq:=yZ (P:=P) (H:=H') (κ:=λb=>κ (f b)) t xm.2;refine⟨cs,T,aP,aQ,λi G=>⟨?_,(bB i G).2⟩⟩;have:=(iq.kG i (by rw[iq.len];simpa [Value.cells,aQ]using G)).1;rw[List.getD_eq_getElem?_getD]at this;rw[Array.getD_eq_getD_getElem?];simpa [Value.cells]using this
 | gm t=>
  obtain⟨eB,m,h1,h2,rfl⟩:=Lw h;have xm:=l5 (v:=.pointer (some ⟨(κ b).ae,0,none⟩)) aN bd h1 an.left ⟨⟨Nat.le_refl _,rfl⟩,λ_ _=>rfl⟩;rcases ((dC rfl).1 xm).2 with⟨_,e⟩ | ⟨p,y,a_,e1,e2,h3,aT⟩
  ·cases e
  ·simp only[List.cons.injEq,Value.pointer.injEq,Option.some.injEq,and_true]at e1;subst e1;cases e2;exact⟨a_,h3,aT⟩
 | b9 k v=>
  rw[(Lu h).2]at ad;exact wK.mono ad bd (cJ.refl _ _) rfl
 | fQ e t=>
  obtain⟨v,e1,h⟩:=Ls h;rw[e1]at ad;obtain⟨h0,cs,T,h1,h2,h3,aT,bx,c_,fN,iZ⟩:=ad;obtain⟨m,_,_,gf⟩:=xl (F':=F') (H':=H') aN bd aA t h;refine⟨h0,cs,T,h1,h2,h3,aT,bx,λj aD qF=>?_,gf an _ fN,iZ⟩;obtain⟨a_,d1,d2⟩:=c_ j aD qF;exact⟨a_,d1,eX e bd (cJ.refl _ _) d2⟩
theorem ae4:∀ (l:List (Nat×bO)) {x:o9 l} {m:List Nat},xb H f l=some (x,m)->∀ b,eA (gS cL l x) b=⟨0,.fm⟩\/
  ∃ iB,eA (gS cL l x) b=⟨0,iB⟩/\oi (H (f b)).body iB/\∃ t,(b,t)∈l/\∀ k,iB.bN k=true->t.Cw=true:=by
 intro l;induction l with
 | nil=>intro x m _ b;exact .inl rfl
 | cons q l aJ=>
  intro x m h b;obtain⟨cR,q2⟩:=q;simp only[xb]at h;obtain⟨⟨df,h1,h2⟩,h3,aT⟩:=bO.SR q2 h;by_cases e:b=cR
  ·subst e;exact .inr ⟨_,by simp only[gS,eA,if_true],h3,q2,by simp,aT⟩
  ·rcases aJ h1 b with k | ⟨iB,aP,aQ,t,bB,gf⟩
   ·exact .inl (by simpa [gS,eA,e]using k)
   ·exact .inr ⟨iB,by simpa [gS,eA,e]using aP,aQ,t,List.mem_cons_of_mem _ bB,gf⟩
theorem ae5:∀ (l:List (Nat×bO)) {x:o9 l} {m:List Nat},xb H f l=some (x,m)->gp H m:=by
 intro l;induction l with
 | nil=>intro x m h;cases h;exact .nil H
 | cons q l aJ=>intro x m h;exact bO.CG q.2 h λy m ao=>aJ ao
theorem ae6(aN:∀ b,cj P H κ F w b)(bd:∀ r,F r->F' r)(aA:r7 f H H'):∀ (l:List (Nat×bO)) {x:o9 l} {m:List Nat},xb H f l=some (x,m)->iM H κ F' m->∀ b,ju P H' (λb=>κ (f b)) F' w (κ (f b)) (eA (gS cL l x) b).body:=by
 intro l;induction l with
 | nil=>intro x m _ _ b;trivial
 | cons q l aJ=>
  intro x m h ao b;obtain⟨cR,q2⟩:=q;simp only[xb]at h;obtain⟨⟨df,h1,h2⟩,_⟩:=bO.SR q2 h;by_cases e:b=cR
  ·subst e;simp only[gS,eA,if_true];exact bO.ae3 aN bd aA q2 h ao
  ·have:=aJ h1 (λc hc=>ao c (h2 c hc)) b;simpa [gS,eA,e]using this
theorem ae7:∀ (ts:List (Nat×bK)) {c:Nat->aF} {R:Type} {r:Option (R×List Nat)} {z:oe ts R} {l:List Nat},xc H f ts c r=some (z,l)->∀ {i l' aK L n st},ff (ed cL ts z).1 i=.tr l' aK L n st->c i=.tr l' aK L n st:=by
 intro ts;induction ts with
 | nil=>intro c R r z l _ i l' aK L n st e;cases e
 | cons p ts aJ=>
  intro c R r z l h i l' aK L n st e;obtain⟨jA,t⟩:=p;simp only[xc]at h;obtain⟨m,h1,_⟩:=Gc t h;simp only[ed,ff]at e;split at e
  ·rename_i ae8;subst ae8;cases t with
   | tr kr=>
    obtain⟨_,h3⟩:=Gb h;rw[h3];exact e
   | _=>cases e
  grind
end
structure Gd(C:bS)(s:az)(a:Act)(w:World)(κ:Nat->bo)(f:Nat->Nat)(F':Nat->Prop)(sh:dp)(A:sh.ai)(fl:List Nat):Prop where
 bG:∀ i,bl C.P (sh.st A).ae (λb=>κ (f b)) F' w ((sh.st A).ax i) (a.tmps.getD i Go.undef)
 bq:∀ b,cj C.P (sh.st A).ae (λb=>κ (f b)) F' w b
 bN:∀ b,((sh.st A).ae b).body.bN (κ (f b))=true->f b ∉ fl/\(s.ae (f b)).body.bN (κ (f b))=true/\b∈sh.og
 zJ:r7 f s.ae (sh.st A).ae
 tr:∀ l aK L n st,(sh.st A).ax TRS=.tr l aK L n st->s.ax TRS=.tr l aK L n st
theorem dp.SS{C:bS}{sh:dp}{f:Nat->Nat}{s:az}{a:Act}{w:World}{κ:Nat->bo}{F:Nat->Prop}{A:sh.ai}{fl:List Nat}(h:sh.zB f s=some (A,fl))(aa:bc C s a w κ F) :
  ∃ F',(∀ r,F r->F' r)/\bc C (s.cd fl) a w κ F'/\Gd C s a w κ f F' sh A fl:=by
 unfold dp.zB at h;split at h
 ·rename_i iA aw_ ob;split at h
  ·rename_i eT;cases h;obtain⟨m,h1,ao⟩:=aeY sh.bG ob;have lB:gp s.ae fl:=ae0 sh.bG ob λy m ao=>ae5 sh.bq ao;obtain⟨F',f1,aY,f2⟩:=bc.k0 lB aa;have SU:=ae4 sh.bq h1;have tF:r7 f s.ae (sh.st A).ae:=by
    intro b;show (eA (gS cL sh.bq (ed cL sh.bG A).2) b).gen=0/\oi (s.ae (f b)).body (eA (gS cL sh.bq (ed cL sh.bG A).2) b).body;rcases SU b with e | ⟨iB,e,k,_⟩
    ·rw[e];exact⟨rfl,oi.fm _⟩
    grind
   obtain⟨m2,_,_,ae9⟩:=aeW (F':=F') (w:=w) aa.bq f1 tF sh.bG ob;refine⟨F',f1,aY,{ bG:=λi=>ae9 f2 i _ (aa.bG i),bq:=λb=>?_,bN:=λb ad=>?_,zJ:=tF,tr:=λl aK L n st e=>ae7 sh.bG ob e }⟩
   ·exact ae6 aa.bq f1 tF sh.bq h1 (λc hc=>f2 c (ao c hc)) b
   ·have aj:=(tF b).2.2.2.2.2 _ ad;rcases SU b with e | ⟨iB,e,_,t,aI,aw'⟩
    ·have e:(sh.st A).ae b=_:=e;rw[e]at ad;cases ad
    ·have e:(sh.st A).ae b=_:=e;rw[e]at ad;have aZ:b∈sh.og:=List.mem_filterMap.2 ⟨(b,t),aI,by grind⟩;grind
  grind
 grind
theorem Gd.xn{C:bS}{s:az}{a:Act}{w:World}{κ:Nat->bo}{f:Nat->Nat}{F':Nat->Prop}{sh:dp}{A:sh.ai}{fl:List Nat}(h:Gd C s a w κ f F' sh A fl){b:Nat}(ad:((sh.st A).ae b).body.bN (κ (f b))=true) :
  ((s.cd fl).ae (f b)).body.bN (κ (f b))=true:=by
 obtain⟨h1,h2,_⟩:=h.bN b ad;simp only[az.cd,if_neg h1];exact h2
theorem Lx{C:bS}{s:az}{a:Act}{w:World}{κ:Nat->bo}{F:Nat->Prop}(aa:bc C s a w κ F){b:Nat}{e:af} :
  bc C (s.cb b ⟨(s.ae b).gen+1,.a8 e []⟩) a w (λi=>if i=b then ⟨0,0,0,true⟩ else κ i) F:=
 aa.Cd (k:=⟨0,0,0,true⟩) (Nat.lt_succ_self _) (.inl rfl) (Nat.le_refl _) (λ_ _=>rfl) (λh=>by cases h) (cN.refl _) λ_ _=>⟨λ_=>rfl,λh=>by cases h⟩
theorem ae_{C:bS}{s:az}{a:Act}{w:World}{κ:Nat->bo}{F:Nat->Prop}(aa:bc C s a w κ F){i b a1 g':Nat}(hs:s.ax i=.own a1 g'):∃ κ',bc C (K_ s i b a1 g') a w κ' F:=by
 unfold K_;split
 ·rename_i e xs aw bE;obtain⟨dY,rfl⟩:=of_decide_eq_true aw;generalize mE:(λj=>if j=b then (⟨(s.ae b).gen+1,.a8 e xs⟩:bw) else if j=a1 then ⟨(s.ae a1).gen+1,.fm⟩ else s.ae j)=H';generalize iC:(λj=>if j=b then κ a1 else κ j)=κ';have h1:H' b=⟨(s.ae b).gen+1,.a8 e xs⟩:=by grind
  have h2:H' a1=⟨(s.ae a1).gen+1,.fm⟩:=by grind
  have h3:∀ j,j≠b->j≠a1->H' j=s.ae j:=λj aP aQ=>by grind
  have aP:κ' b=κ a1:=by grind
  have bB:∀ j,j≠b->κ' j=κ j:=λj k=>by grind
  have an:fe s.ae κ H' κ':=by
   rw[BH];intro j;by_cases e1:j=b
   ·subst e1;rw[h1];exact⟨Nat.le_succ _,λe=>absurd e (Nat.ne_of_lt (Nat.lt_succ_self _))⟩
   ·by_cases e2:j=a1
    ·subst e2;rw[h2];exact⟨Nat.le_succ _,λe=>absurd e (Nat.ne_of_lt (Nat.lt_succ_self _))⟩
    ·rw[h3 j e1 e2,bB j e1];exact pU.refl _ _
  have fS:∀ j,(H' j).body.bN (κ' j)=true->(j=b/\(s.ae a1).body.bN (κ a1)=true)\/(j≠b/\j≠a1/\(s.ae j).body.bN (κ j)=true):=λj aD=>by
   by_cases e1:j=b
   ·grind
   ·by_cases e2:j=a1
    ·subst e2;rw[h2]at aD;cases aD
    grind
  have h:=aa.move (H':=H') (κ':=κ') (F':=F) (w':=w) an (λ_ h=>h) (λ_ h=>.inl h) (Nat.le_refl _) (λ_ _ _=>rfl) (cN.refl w)
   (λ_ j=>by
    by_cases e1:j=b
    ·subst e1;have aN:=aa.bq a1;unfold cj at aN ⊢;rw[bE]at aN;rw[h1,aP];exact aN
    ·by_cases e2:j=a1
     ·subst e2;unfold cj;rw[h2];trivial
     ·exact cj.kX (aa.bq j) an (λ_ h=>h) (cJ.refl _ _) (by grind) (bB j e1) λ_=>rfl)
   (λj aD=>by
    rcases fS j aD with⟨rfl,h⟩ | ⟨e1,_,h⟩
    ·rw[aP];have:=aa.own a1 h;grind
    ·rw[bB j e1];have:=aa.own j h;grind)
   (λj j3 aD fB e=>by
    rcases fS j aD with⟨rfl,h⟩ | ⟨e1,e2,h⟩<;>rcases fS j3 fB with⟨rfl,da⟩ | ⟨SV,ae',da⟩
    ·rfl
    ·rw[aP,bB j3 SV]at e;exact absurd (aa.inj a1 j3 h da e).symm ae'
    ·rw[aP,bB j e1]at e;exact absurd (aa.inj j a1 h da e) e2
    ·rw[bB j e1,bB j3 SV]at e;exact aa.inj j j3 h da e)
   aa.cM
   (λj _ aD=>by
    by_cases e1:j=b
    ·subst e1;rw[h1]at aD;rcases aD with aD | aD<;>cases aD
    ·by_cases e2:j=a1
     ·subst e2;rw[h2]at aD;rcases aD with aD | aD<;>cases aD
     grind)
  refine⟨κ',{ h with bG:=λj=>?_,dn:=h.dn,dfr:=h.dfr,bq:=h.bq,pro:=λl aK L n st aV=>?_ }⟩
  ·show bl C.P _ _ F w (if j=i then .own b ((s.ae b).gen+1) else s.ax j) _;split
   ·rename_i e;subst e;have hv:=aa.bG j;rw[hs]at hv;have h8:=hv.2 rfl (by rw[bE];rfl);rw[bE]at h8;exact⟨⟨by grind,hv.1.2⟩,λ_ _=>by grind⟩
   ·exact h.bG j
  ·have aV:(if TRS=i then .own b ((s.ae b).gen+1) else s.ax TRS)=.tr l aK L n st:=aV;split at aV
   ·cases aV
   ·exact h.pro l aK L n st aV
 grind
theorem afa{C:bS}{bs:List (Nat×bO)}{s:az}{a:Act}{w:World}{κ:Nat->bo}{F:Nat->Prop}(aa:bc C s a w κ F)(i b:Nat):∃ κ',bc C (K' bs s i b) a w κ' F:=by
 unfold K';split
 ·rename_i e hs _;have h:=Lx aa (b:=b) (e:=e);refine⟨_,{ h with bG:=λj=>?_,dn:=h.dn,dfr:=h.dfr,bq:=h.bq,pro:=λl aK L n st aV=>?_ }⟩
  ·show bl C.P _ _ F w (if j=i then .own b ((s.ae b).gen+1) else s.ax j) _;split
   ·rename_i e;subst e;have hv:=aa.bG j;rw[hs]at hv;have hv:a.tmps.getD j undef=.slice none 0 0:=hv;rw[hv];exact⟨⟨by simp[az.cb],rfl⟩,λ_ _=>by simp[bo.slice]⟩
   ·exact h.bG j
  ·have aV:(if TRS=i then .own b ((s.ae b).gen+1) else s.ax TRS)=.tr l aK L n st:=aV;split at aV
   ·cases aV
   ·exact h.pro l aK L n st aV
 ·rename_i hs _;exact ae_ aa hs
 grind
theorem afb{C:bS}{bs:List (Nat×bO)}{s:az}{a:Act}{w:World}{κ:Nat->bo}{F:Nat->Prop}(aa:bc C s a w κ F)(c j b:Nat):∃ κ',bc C (La bs s c j b) a w κ' F:=by
 unfold La;split
 ·rename_i t f hc;split
  ·rename_i e au aw _;have SW:c≠b:=λe=>by grind
   have h:=Lx aa (b:=b) (e:=e);have iw:(s.cb b ⟨(s.ae b).gen+1,.a8 e []⟩).ae c=s.ae c:=by simp[az.cb,SW]
   have aN:=h.bq c;unfold cj at aN;rw[iw,hc]at aN;obtain⟨cs,T,h1,h2,h3⟩:=aN;refine⟨_,h.oV (w':=w) (b:=c) (x:=⟨(s.ae c).gen,.cells t λq=>if q=j then .own b ((s.ae b).gen+1) else f q⟩) (by rw[iw,hc];rfl) rfl
    (qG (by rw[iw]) (λ_=>by rw[iw,hc];rfl) (λh=>by cases h) (λh=>by cases h) (λh=>by cases h)) (λ_=>by rw[iw,hc];rfl) (λh=>by cases h) (λ_ _=>rfl) rfl (cN.refl _) λH mE an _=>?_⟩
   refine⟨cs,T,h1,h2,λq bf=>⟨?_,(h3 q bf).2⟩⟩;show bl C.P H _ F w (if q=j then .own b ((s.ae b).gen+1) else f q) _;split
   ·rename_i eq;subst eq;have hv:=(h3 q bf).1;rw[au]at hv;have hv:cs.getD q undef=.slice none 0 0:=hv;rw[hv];have afc:H b=⟨(s.ae b).gen+1,.a8 e []⟩:=by rw[mE];simp[az.cb,Ne.symm SW]
    exact⟨⟨by grind,rfl⟩,λ_ _=>by rw[afc];simp[bo.slice]⟩
   ·exact bl.later an (λ_ h=>h) (cJ.refl _ _) (h3 q bf).1
  grind
 grind
theorem afd{C:bS}(sh:dp){s:az}{a:Act}{w:World}{κ:Nat->bo}{F:Nat->Prop}(aa:bc C s a w κ F):∃ κ',bc C (sh.FP s) a w κ' F:=by
 have h1:∀ (l:List (Nat×bK)) (s:az) (κ:Nat->bo),bc C s a w κ F->∃ κ',bc C (FM sh.bq l s) a w κ' F:=by
  intro l;induction l with
  | nil=>intro s κ h;exact⟨κ,h⟩
  | cons p l aJ=>
   intro s κ h;simp only[FM];split
   ·obtain⟨κ',da⟩:=afa (bs:=sh.bq) h p.1 _;exact aJ _ _ da
   grind
 have h2:∀ (c:Nat) (l:List bK) (j:Nat) (s:az) (κ:Nat->bo),bc C s a w κ F->∃ κ',bc C (FN sh.bq c l j s) a w κ' F:=by
  intro c l;induction l with
  | nil=>intro j s κ h;exact⟨κ,h⟩
  | cons t l aJ=>
   intro j s κ h;simp only[FN];split
   ·obtain⟨κ',da⟩:=afb (bs:=sh.bq) h c j _;exact aJ _ _ _ da
   ·exact aJ _ _ _ h
 have h3:∀ (l:List (Nat×bO)) (s:az) (κ:Nat->bo),bc C s a w κ F->∃ κ',bc C (FO sh.bq l s) a w κ' F:=by
  intro l;induction l with
  | nil=>intro s κ h;exact⟨κ,h⟩
  | cons p l aJ=>
   intro s κ h;simp only[FO];split
   ·obtain⟨κ',da⟩:=h2 p.1 _ 0 s κ h;exact aJ _ _ da
   grind
 obtain⟨afe,gr⟩:=h1 sh.bG s κ aa;exact h3 sh.bq _ _ gr
theorem SX:∀ (l:List (Nat×bO)) (x:o9 l) (b:Nat),(eA (gS cL l x) b).body.eZ=true->∃ q∈l,q.1=b/\q.2.Sv=true
 | [],_,_,h=>by cases h
 | p::l,x,b,h=>by
  simp only[gS,eA]at h;by_cases e:b=p.1
  ·rw[if_pos e]at h;refine⟨p,by simp,e.symm,?_⟩;obtain⟨jA,t⟩:=p;cases t<;>first | rfl | cases h
  ·rw[if_neg e]at h;obtain⟨q,h1,h2⟩:=SX l _ b h;grind
theorem dp.zK{C:bS}{sh:dp}{s:az}{a:Act}{w:World}{A:sh.ai}{κ:Nat->bo}{F:Nat->Prop}(h:sh.iR s=some A)(aa:bc C s a w κ F):∃ κ' F',(∀ r,F r->F' r)/\bc C (sh.st A) a w κ' F':=by
  obtain⟨κ,aa⟩:=afd sh aa;unfold dp.iR at h;generalize sh.FP s=s at h aa;split at h;case h_2=>cases h
  rename_i aff;simp only[Option.map_eq_some_iff]at h;obtain⟨⟨iA,fl⟩,h,rfl⟩:=h;obtain⟨F',f1,aY,aw⟩:=dp.SS h aa;have fS:=λb ad=>aw.xn (b:=b) ad;exact⟨κ, F', f1, { aY with
    dn:=aY.dn,dfr:=aY.dfr,bG:=aw.bG,bq:=aw.bq,own:=λb ad=>aY.own b (fS b ad),inj:=λb a1 ad cQ=>aY.inj b a1 (fS b ad) (fS a1 cQ)
    jv:=λb r aa hc=>aY.jv b r aa (hc.imp (λhc=>by
      have h0:=(aw.zJ b).2.1 hc;simp only[az.cd];split
      · rcases zb s.ae (s.ae b) with e | ⟨_,_,hx,_⟩ | ⟨_,_,_,hx,_⟩ | ⟨_,_,_,_,_,_,e⟩
        · grind
        · rw[hx]at h0;cases h0
        · rw[hx]at h0;cases h0
        · rw[e];rfl
      omega) (λhc=>by
      have h0:=(aw.zJ b).2.2.2.1 hc;simp only[az.cd];split
      · rcases zb s.ae (s.ae b) with e | ⟨_,_,hx,_⟩ | ⟨_,_,_,_,e⟩ | ⟨_,_,_,_,hx,_,_⟩
        · grind
        · rw[hx]at h0;cases h0
        · rw[e];rfl
        · rw[hx]at h0;cases h0
      omega))
    kh:=λb k aj _ aU=>by
      obtain⟨bR,a2,_⟩:=(aw.zJ b).2.2.1 aU;have aA:(s.ae b).gen=0:=by
        rcases SX sh.bq (ed cL sh.bG iA).2 b aU with⟨q,bf,rfl,jb⟩
        have:=List.all_eq_true.1 aff q bf;rw[jb]at this;have zo:=aa.jX _ k aj;grind
      obtain⟨aP,aQ⟩:=aa.kh b k aj aA bR;grind
    pro:=λl aK L n st e=>by
      obtain⟨h1,h2,Y,h3,aT,bx⟩:=aY.pro l aK L n st (aw.tr l aK L n st e);grind }⟩
theorem dp.xl{C:bS}{sh:dp}{s:az}{a:Act}{w:World}{A:sh.ai}(h:sh.iR s=some A)(aa:b' C s a w):b' C (sh.st A) a w:=by
 obtain⟨κ,F,aa⟩:=aa;obtain⟨κ',F',_,aY⟩:=dp.zK h aa;exact⟨κ',F',aY⟩
end Go.Fer
namespace Go.Fer
open Go.RowKit
def afg(C:bS)(o:Oper)(s:az)(pr:hJ):Prop:=
 ∀ (a:Act) (w:World) (Q:Exit->Act->World->Prop) (K:Act->World->Prop),b' C s a w->pr.bT->M.ca pr.m (λy=>∀ a' w',b' C (pr.st y) a' w'->K a' w')->o.wpIn (dy C.r) 0 C.P a w K Q
def afh(C:bS)(o:Oper)(s:az)(pr:hJ):Prop:=
 ∀ gs,pr.Cy=some gs->(∀ y a w,b' C (pr.st y) a w->b' C (gs true y) a w)/\∀ a w,b' C s a w->b' C (gs false pr.d) (a.put o.dst Go.undef) w
structure p8(C:bS)(o:Oper)(s:az)(pr:hJ):Prop where
 prog:afg C o s pr
 axa:afh C o s pr
 axb:qU (aW C.aM s.ax) o->pr.bT
theorem b'.Ly{C:bS}{s:az}{d:Option Nat}{av av':aF}{a:Act}{w:World}(h:b' C (s.set d av) a w)
  (aw:∀ i,d=some i->i<C.nt) (hv:∀ κ F v,bl C.P s.ae κ F w av v->bl C.P s.ae κ F w av' v):b' C (s.set d av') a w:=by
 cases d with
 | none=>exact h
 | some d=>
  obtain⟨κ,F,h⟩:=h;have aB:=h.fR;have wM:=aw d rfl;have aI:TRS≠d:=by unfold TRS eC at *;omega
  refine⟨κ,F,{ h with bG:=λi=>?_,dn:=h.dn,dfr:=h.dfr,bq:=h.bq,pro:=λl aK L n st e=>h.pro l aK L n st ?_ }⟩
  ·have G:=h.bG i;simp only[az.set]at G ⊢;grind
  ·simp only[az.set,if_neg aI]at e ⊢;exact e
section
variable {C:bS} {T:Nat->af} {a6:Nat->Option aL} {o:Oper} {s:az}
theorem CH{args:List Operand}(ad:qU (aW C.aM s.ax) o)(aU:∀ x∈args,x∈o.op.operands.toList):jz (args.map (aW C.aM s.ax)):=
 Co λv hv=>by
  simp only[List.mem_map]at hv;obtain⟨p,hp,rfl⟩:=hv;exact ad p (aU p hp)
theorem SY(a7:∀ i,o.dst=some i->i<C.nt){tr:af}{fl:List Nat}(lB:gp s.ae fl){d:tr.ai} :
  (∀ (y:tr.ai) a w,b' C (qW s o tr fl (qH tr y)) a w->b' C (qW s o tr fl (.hi true (qH tr y))) a w)/\∀ a w,b' C s a w->b' C (qW s o tr fl (.hi false (qH tr d))) (a.put o.dst Go.undef) w:=by
 refine⟨λy a w h=>b'.Ly h a7 λκ F v hv=>⟨λ_=>hv,λh=>(by cases h)⟩,λa w h=>?_⟩;obtain⟨κ,F,aa⟩:=h;obtain⟨F',_,aY,_⟩:=bc.k0 lB aa;unfold qW;split
 ·exact⟨κ,F,aa.set a7 ⟨λh=>(by cases h),λ_=>rfl⟩⟩
 ·exact⟨κ,F',aY.set a7 ⟨λh=>(by cases h),λ_=>rfl⟩⟩
theorem afi(a7:∀ i,o.dst=some i->i<C.nt){k:Nat}{args:Array Operand}{cX:Array TypeId}(ah:o.op=.call { callee:=.value (.func k),args:=args,argTypes:=cX }){dc:SC}(au:hR C.P k dc.ts dc.tr dc.sh){pr:hJ}
  (h:Cz C.aM s o args.toList dc=some pr):p8 C o s pr:=by
 unfold Cz at h;split at h
 ·rename_i x fl hx;cases h;refine⟨λa w Q K aa aZ ao=>?_,λgs oj=>?_,λad=>CH ad λx hx=>by rw[ah];simp[Op.operands,Call.operands];simp_all⟩
  ·obtain⟨κ,F,aa⟩:=aa;exact RW aa au a7 ah aZ hx ao.1 λy w' aO v j5=>ao.2 y aO _ _ j5
  ·cases oj;exact SY a7 (p2 _ hx)
 grind
theorem afj(a7:∀ i,o.dst=some i->i<C.nt){k:Nat}{args:Array Operand}{cX:Array TypeId}(ah:o.op=.call { callee:=.value (.func k),args:=args,argTypes:=cX }){dc:SC}(au:hR C.P k dc.ts dc.tr dc.sh)(CJ:Q3 C.P k dc.ts dc.tr dc.sh){pr:hJ}
  (h:FU C.aM s o args.toList dc=some pr):p8 C o s pr:=by
 unfold FU at h;split at h
 ·rename_i x fl hx;cases h;refine⟨λa w Q K aa aZ ao=>?_,λgs oj=>(by grind),λad=>CH ad λx hx=>by rw[ah];simp[Op.operands,Call.operands];simp_all⟩;obtain⟨κ,F,aa⟩:=aa;obtain⟨args⟩:=args;have cK:(execOp a.eval o).run C.P w=.ok (.enter k (args.map a.eval).toArray) w:=by
   simp only[execOp,ah,Sem.run_bind,resolve,Act.eval,Deferred.ofValue,Sem.run_pure,Result.andThen_ok,invoke];have:=au.enter (args.map a.eval).toArray w;grind
  obtain⟨F',f1,aY,f2⟩:=bc.k0 (p2 _ hx) aa;have dF:fb C.P dc.ts F' w (args.map a.eval) x:=by
   refine u1 aa.bq f1 dc.ts hx f2 (by simp) λi G ds=>?_;simp only[List.getElem_map];have cZ:i<args.length:=by grind
   have h1:=rO aZ i (by grind);have e1:(args.map (aW C.aM s.ax)).getD i .undef=aW C.aM s.ax args[i]:=by grind
   rw[show (List.map (aW C.aM s.ax) (⟨args⟩:Array Operand).toList)=args.map (aW C.aM s.ax) from rfl,e1]at h1;exact oX (j1 aa args[i]) h1
  refine Cj (by grind) cK (CJ.iK F' w _ x aY.cM aY.im dF ao.1) λe w' ⟨v,y,he,aO,fU,ad⟩=>⟨v,he,ao.2 y aO _ _ ⟨κ,_,(aa.grow ad).set a7 (Ci ?_)⟩⟩
  obtain⟨aC,cR,q2,q3⟩:=fU;exact⟨aC,cR,q2,eX _ (λr aa=>.inr aa) (cJ.refl _ _) q3⟩
 grind
theorem afk(a7:∀ i,o.dst=some i->i<C.nt){t:Nat}{args:Array Operand}{cX:Array TypeId}(ah:o.op=.call { callee:=.value (.tmp t),args:=args,argTypes:=cX }){pr:hJ}
  (h:CA C.aM s o t args.toList=some pr):p8 C o s pr:=by
 unfold CA at h;split at h
 ·rename_i bT aK b f hu;split at h
  ·rename_i x fl hx;cases h;obtain⟨args⟩:=args;refine⟨λa w Q K aa aZ ao=>?_,λgs oj=>?_,λad=>⟨?_,CH ad λx hx=>by rw[ah];simp[Op.operands,Call.operands];simp_all⟩⟩
   ·obtain⟨κ,F,aa⟩:=aa;obtain⟨F',f1,aY,f2⟩:=bc.k0 (p2 _ hx) aa;have dF:fb C.P aK F' w (args.map a.eval) x:=by
     refine u1 aa.bq f1 aK hx f2 (by simp) λi G ds=>?_;simp only[List.getElem_map];have cZ:i<args.length:=by grind
     have h1:=rO aZ.2 i (by grind);have e1:(args.map (aW C.aM s.ax)).getD i .undef=aW C.aM s.ax args[i]:=by grind
     rw[show (List.map (aW C.aM s.ax) (⟨args⟩:Array Operand).toList)=args.map (aW C.aM s.ax) from rfl,e1]at h1;exact oX (j1 aa args[i]) h1
    have Ge:bl C.P s.ae κ F w (use (aW C.aM s.ax (.tmp t))).2 (a.eval (.tmp t)):=cv aa (.tmp t) hu aZ.1 |> λh=>by
     have e:use (aW C.aM s.ax (.tmp t))=(bT,.val (.fn aK b) f):=hu;grind
    have e:use (aW C.aM s.ax (.tmp t))=(bT,.val (.fn aK b) f):=hu;rw[e]at Ge;obtain⟨_,u,xo,_,s3⟩:=(dC rfl).1 Ge;have xo:a.eval (.tmp t)=u:=(List.cons.inj xo).1;obtain⟨g,cH,aA,r8,Lz⟩:=s3 F' w f1 (cJ.refl _ _) aY.cM aY.im (args.map a.eval) x dF.1 dF.2 ao.1;have cK:(execOp a.eval o).run C.P w=.ok (.enter g ((args.map a.eval).toArray++cH)) w:=by
     have hv:a.eval (.tmp t)=.func (.func g) #[] cH:=xo.trans aA;simp only[execOp,ah,Sem.run_bind,resolve,hv,Deferred.ofValue,Sem.run_pure,Result.andThen_ok,invoke];grind
    refine Cj (by grind) cK Lz λe w' ⟨v,y,aC,he,aO,h1,h2,h3,ad⟩=>⟨v,he,ao.2 y aO _ _ ?_⟩
    have fU:s7 C.P b (uK F' w w') w' v y:=⟨aC,h1,h2,h3⟩
    unfold qW;by_cases hp:b.pure=true
    ·rw[if_pos hp];have aA:=aa.grow ad;refine⟨κ,_,aA.set a7 (Ci ?_)⟩;exact⟨aC,h1,RU hp ⟨h2,h3⟩⟩
    ·rw[if_neg hp];have aA:=aY.grow ad;exact⟨κ,_,aA.set a7 (Ci fU)⟩
   ·cases oj;exact SY a7 (p2 _ hx)
   ·have:=ad (.tmp t) (by rw[ah];simp[Op.operands,Call.operands]);have e:use (aW C.aM s.ax (.tmp t))=(bT,.val (.fn aK b) f):=hu;grind
  grind
 grind
theorem afl(hT:dz C.P T)(a7:∀ i,o.dst=some i->i<C.nt){ty:TypeId}{x:Operand}(ah:o.op=.range ty x){pr:hJ}(h:FY C.aM T s o ty x=some pr):p8 C o s pr:=by
 unfold FY at h;split at h
 ·rename_i k v d aI aw;split at h;rename_i bT av hu;split at h
  ·rename_i es fl o0;split at h
   ·cases h
   ·rename_i tq;cases h;have tq:d ∉ fl:=by grind
    obtain⟨i,j,G,_,_⟩:=(hT.bU aI (by simp)).mp;refine⟨λa w Q K aa aZ ao=>?_,λgs oj=>(by grind),λad=>qU.use ad (by rw[ah];simp[Op.operands]) hu⟩;obtain⟨κ,F,aa⟩:=aa;obtain⟨F',f1,aY,f2⟩:=bc.k0 (mD o0) aa;have hv:=cv aa x hu aZ;have nB:=((dC rfl).1 (l5 aa.bq f1 o0 f2 hv)).2;have iC:=ao.2 () rfl;have o4:(s.cd fl).ae d=s.ae d:=by simp only[az.cd];grind
    have fin:∀ (b9:Obj),(∀ w',w'=w.alloc b9->wK C.P k v F' w' w.heap.size none es)->(execOp a.eval o).run C.P w=.ok (.value (.pointer (some ⟨w.heap.size,0,none⟩))) (w.alloc b9)->o.wpIn (dy C.r) 0 C.P a w K Q:=by
     intro b9 hit cK;have h1:=aY.alloc (b:=d) (x:=⟨(s.ae d).gen+1,.b9 k v none es⟩) (aa.gQ (a7 d aw)) (by grind) (o:=b9) (k:=⟨w.heap.size,0,0,false⟩) rfl λH κ' _ _ _=>hit _ rfl;refine ha (by grind) cK (iC _ _ ⟨_,F',bc.set (s:=(s.cd fl).cb d _) h1 a7 ⟨⟨by simp[az.cb],rfl⟩,λ_ _=>by simp⟩⟩)
    rcases nB with⟨e1,rfl⟩ | ⟨r,ms,clk,e1,m1,m2,m3,m4,m5,m6⟩
    ·have hx:a.eval x=.map none:=(List.cons.inj e1).1;refine fin (.mapIter none 0 #[] 0) (λw' hw=>.inl ⟨by rw[hw];exact pV _ _,rfl,rfl⟩) ?_;simp[execOp,ah,Instr.range,dk G,hx]
    ·have hx:a.eval x=.map (some r):=(List.cons.inj e1).1;refine fin (.mapIter (some r) clk #[] clk) (λw' hw=>.inr ⟨r,ms,clk,#[],m1,?_,by rw[hw];exact pV _ _,λi G=>(m5 i (by omega) G).2.2.2.2,m6,?_,λc hc=>by cases hc⟩) ?_
     ·rw[hw,oT _ _ (aY.cM r m1)];exact m2
     ·refine⟨List.range ms.size,by grind,List.nodup_range,λi=>by simp,λj aD fB=>?_⟩;have w2:j<ms.size:=by omega
      obtain⟨aP,aQ,bB,gf,_⟩:=m5 j fB w2;refine⟨by grind,?_⟩;simp only[List.getElem_range];have he:cJ F' w w':=by rw[hw];exact cJ.alloc aY.cM _
      exact yS.mono ⟨aP,aQ,bB,gf⟩ (λ_ h=>h) he
     ·have eG:(getObj r).run C.P w=.ok (.map ms clk) w:=by simp[getObj,Sem.run,m2]
      simp[execOp,ah,Instr.range,dk G,hx,eG]
  grind
 grind
theorem afm(a7:∀ i,o.dst=some i->i<C.nt){x:Operand}(ah:o.op=.entry x){pr:hJ}(h:F2 C.aM s o x=some pr):p8 C o s pr:=by
 unfold F2 at h;split at h
 ·rename_i b g hx;split at h
  ·rename_i aA;split at h
   ·rename_i k v c b5 ad;cases h;refine⟨λa w Q K aa _ ao=>?_,λgs oj=>(by grind),λ_=>trivial⟩;obtain⟨κ,F,aa⟩:=aa;have hv:=j1 aa x;rw[hx]at hv;have hv:=hv.2 aA.symm (by rw[ad];rfl);have aN:=aa.bq b;unfold cj at aN;rw[ad]at aN;have e8:=M.kD.1 ao;have iC:=M.dI.1 e8.2;obtain⟨c',jB⟩:=Option.isSome_iff_exists.1 e8.1;subst jB;rcases aN with⟨_,_,e⟩ | ⟨lv,es,clk,seen,h1,h2,h3,aT,bx,_,fN⟩
    ·cases e
    ·obtain⟨i,G,hs,he⟩:=fN c' rfl;have u2:es.find? (λe=>e.born == es[i].born)=some es[i]:=by
      rw[<-Array.find?_toList];have jF:es[i]∈es.toList:=by simp
      cases au:es.toList.find? (λe=>e.born == es[i].born) with
      | none=>grind
      | some e=>
       have iZ:=List.find?_some au;have pR:=List.mem_of_find?_eq_some au;obtain⟨j,aD,rfl⟩:=List.mem_iff_getElem.1 pR;grind
     have CK:(getObj (κ b).ae).run C.P w=.ok (.mapIter (some lv) clk seen clk) w:=by simp[getObj,Sem.run,h3]
     have qT:(getObj lv).run C.P w=.ok (.map es clk) w:=by simp[getObj,Sem.run,h2]
     have cK:(execOp a.eval o).run C.P w=.ok (.value (.tuple #[es[i].key,es[i].val])) w:=by
      simp[execOp,ah,Instr.entry,hv,CK,qT,hs,u2]
     refine ha (by grind) cK (iC _ _ ⟨κ,F,aa.set a7 ⟨[es[i].key,es[i].val],rfl,rfl,λn aB=>?_⟩⟩);match n,aB with
     | 0,_=>exact⟨he.1,he.2.1⟩
     | 1,_=>exact⟨he.2.2.1,he.2.2.2⟩
   grind
  grind
 grind
theorem afn{es:Array MapEntry}{seen:Array Nat}{clk:Nat}(aT:∀ i (h:i<es.size),es[i].born<clk) :
  (es.filter λe=>!seen.contains e.born).filter (λe=>decide (e.born<clk))=(es.filter λe=>!seen.contains e.born)/\(es.filter λe=>!seen.contains e.born).filter (λe=>decide (e.born>=clk))=#[]:=by
 have eJ:∀ e∈es.filter λe=>!seen.contains e.born,e.born<clk:=by
  intro e he;have:=(Array.mem_filter.1 he).1;obtain⟨i,G,rfl⟩:=Array.mem_iff_getElem.1 this;grind
 constructor
 ·exact Array.filter_eq_self.2 λe he=>by grind
 ·exact Array.filter_eq_empty_iff.2 λe he=>by grind
theorem afo(P:Program)(w:World)(n:Nat):∃ j w',(choose (.mapNext n)).run P w=.ok j w'/\(0<n->j<n)/\(w'=w\/w'=w.drew):=by
 rw[run_choose];by_cases h:n<=1
 ·have:(Question.mapNext n).forced=true:=by simp[Question.forced,h]
  rw[this];grind
 ·have:(Question.mapNext n).forced=false:=by simp[Question.forced];omega
  rw[this];exact⟨_,_,rfl,λaB=>Nat.mod_lt _ aB,.inr rfl⟩
theorem afp(a7:∀ i,o.dst=some i->i<C.nt){x:Operand}{str:Bool}(ah:o.op=.next x str){pr:hJ}(h:F1 C.aM s o x str=some pr):p8 C o s pr:=by
  unfold F1 at h;split at h
  · rename_i b g hx
    split at h
    · rename_i aA
      split at h
      · rename_i k v c b5 ad
        cases h
        refine⟨λa w Q K aa _ ao=>?_,λgs oj=>(by grind),λ_=>trivial⟩
        obtain⟨κ,F,aa⟩:=aa
        have hv:=j1 aa x
        rw[hx]at hv
        have hv:=hv.2 aA.symm (by rw[ad];rfl)
        have aN:=aa.bq b
        unfold cj at aN
        rw[ad]at aN
        have aw:∀ c,o.op≠.defer c:=by grind
        have fO:∀ w',(w'=w\/w'=w.drew)->b5=[]->(execOp a.eval o).run C.P w=.ok (.value (.tuple #[.bool false])) w'->o.wpIn (dy C.r) 0 C.P a w K Q:=by
          intro w' CL r9 cK;have cu:bc C s a w' κ F:=by
            rcases CL with rfl | rfl
            · exact aa
            · exact aa.drew
          have RR:s.cb b ⟨g,.b9 k v c b5⟩=s:=by
            unfold az.cb;congr 1;funext i;by_cases G:i=b
            · rw[if_pos G,G,<-ad,<-aA]
            grind
          refine ha aw cK (ao.2 none r9 _ _ ⟨κ,F,bc.set (s:=s.cb b ⟨g,.b9 k v c b5⟩) (by grind) a7 ⟨[.bool false],rfl,rfl,λn aB=>?_⟩⟩);have:n=0:=by simp only[SF]at aB;omega
          subst this;exact eY.2 rfl
        rcases aN with⟨h1,h2,_⟩ | ⟨lv,es,clk,seen,h1,h2,h3,aT,bx,⟨ids,i1,i2,i3,i4⟩,fN⟩
        · refine fO w (.inl rfl) h2 ?_
          have CK:(getObj (κ b).ae).run C.P w=.ok (.mapIter none 0 #[] 0) w:=by simp[getObj,Sem.run,h1]
          simp[execOp,ah,Instr.next,hv,CK]
        · have CK:(getObj (κ b).ae).run C.P w=.ok (.mapIter (some lv) clk seen clk) w:=by simp[getObj,Sem.run,h3]
          have qT:(getObj lv).run C.P w=.ok (.map es clk) w:=by simp[getObj,Sem.run,h2]
          obtain⟨f1,f2⟩:=afn (seen:=seen) aT
          have eJ:(!seen.isEmpty&&!es.isEmpty&&es.all (λe=>decide (e.born>=clk)))=false:=by
            by_cases he:es.size=0
            · grind
            · have:es.all (λe=>decide (e.born>=clk))=false:=by
                rw[Array.all_eq_false];exact⟨0,by omega,by grind⟩
              grind
          generalize afq:(es.filter λe=>!seen.contains e.born)=left at f1 f2
          have afr:((if left.isEmpty=true then #[none] else #[])++Array.map some (left++(#[]:Array MapEntry)))=(if left.isEmpty=true then #[none] else Array.map some left):=by
            grind
          obtain⟨j,w',c1,c2,c3⟩:=afo C.P w (if left.isEmpty=true then #[none] else Array.map some left).size
          have cB:w'.heap=w.heap:=by rcases c3 with rfl | rfl<;>rfl
          have zL : ∀ r cy, (match (if left.isEmpty = true then #[none] else Array.map some left)[j]? with
                | some (some e)=>(do setObj (κ b).ae (.mapIter (some lv) clk (seen.push e.born) clk);pure (.tuple #[.bool true,e.key,e.val]):Sem Value)
                | some none=>pure (.tuple #[.bool false])
                | none => stuck "Next: no such candidate").run C.P w' = .ok r cy -> (execOp a.eval o).run C.P w = .ok (.value r) cy := by
            intro r cy cu;simp only[execOp,ah,Instr.next,hv,Sem.run_bind,CK,Result.andThen_ok,qT,eJ,Bool.false_eq_true,if_false,afq,f1,f2,afr,c1];exact (congrArg (λ(z:Result Value)=>z.andThen λv w'=>Sem.run C.P (Pure.pure (Next.value v)) w') cu).trans rfl
          by_cases hle:left.isEmpty=true
          · have Kg:left=#[]:=by grind
            have r9:b5=[]:=by
              have:ids=[]:=List.eq_nil_iff_forall_not_mem.2 λi G=>by
                obtain⟨CM,cZ⟩:=(i3 i).1 G;have:es[i]∈left:=by
                  grind
                grind
              grind
            rw[hle]at zL c2
            simp only[if_true]at zL c2
            have aD:j=0:=by grind
            subst aD
            exact fO w' c3 r9 (zL _ _ rfl)
          · have hle:left.isEmpty=false:=by grind
            rw[hle]at zL c2
            simp only[Bool.false_eq_true,if_false]at zL c2
            have axc:0<left.size:=by
              grind
            have aD:j<left.size:=by grind
            have jF:left[j]∈(es.filter λe=>!seen.contains e.born):=by grind
            obtain⟨tu,SZ⟩:=Array.mem_filter.1 jF
            obtain⟨i0,od,afs⟩:=Array.mem_iff_getElem.1 tu
            have aft:i0∈ids:=(i3 i0).2 ⟨od,by grind⟩
            obtain⟨q,bf,LA⟩:=List.mem_iff_getElem.1 aft
            have LB:q<b5.length:=by omega
            have o2:(setObj (κ b).ae (.mapIter (some lv) clk (seen.push left[j].born) clk)).run C.P w'=.ok () { w' with heap:=w'.heap.setIfInBounds (κ b).ae (.mapIter (some lv) clk (seen.push left[j].born) clk) }:=by
              simp[setObj,Sem.run,cB,h3]
            have cK:=zL (.tuple #[.bool true,left[j].key,left[j].val]) { w' with heap:=w'.heap.setIfInBounds (κ b).ae (.mapIter (some lv) clk (seen.push left[j].born) clk) } (by
              rw[show (Array.map some left)[j]?=some (some left[j]) by simp];simp only[Sem.run_bind,o2,Result.andThen_ok,Sem.run_pure])
            have iQ:cN w w':=by rcases c3 with rfl | rfl<;>exact⟨rfl,rfl,rfl⟩
            have bX:(κ b).ae<w.heap.size:=(Array.getElem?_eq_some_iff.1 h3).1
            have dY:lv≠(κ b).ae:=λe=>(aa.own b (by grind)).2.1 (e ▸ h1)
            have fV:fe s.ae κ (λi=>if i=b then (⟨g,.b9 k v b5[q]? (b5.eraseIdx q)⟩:bw) else s.ae i) κ:=
              qG aA.symm (λh=>by cases h) (λh=>by cases h) (λh=>by cases h) (λ_=>by rw[ad];rfl)
            have gD:=aa.oV (b:=b) (x:=⟨g,.b9 k v b5[q]? (b5.eraseIdx q)⟩) (w':={ w' with heap:=w'.heap.setIfInBounds (κ b).ae (.mapIter (some lv) clk (seen.push left[j].born) clk) }) (by rw[ad];rfl) rfl fV (λh=>by cases h) (λh=>by cases h)
              (λr Kw=>by grind) (by grind) ⟨iQ.os,iQ.tape,iQ.output⟩ λH _ _ he=>by
                refine .inr ⟨lv,es,clk,seen.push left[j].born,h1,?_,by grind,aT,bx,⟨ids.eraseIdx q,?_,?_,λi=>?_,λn aB Cn=>?_⟩,λc' jB=>?_⟩
                · grind
                · grind
                · grind
                · rw[List.mem_eraseIdx_iff_getElem]
                  constructor
                  · rintro⟨n,aB,Gf,rfl⟩
                    obtain⟨tG,q5⟩:=(i3 ids[n]).1 (by simp)
                    refine⟨tG,?_⟩
                    simp only[Array.contains_push,Bool.or_eq_false_iff]
                    refine⟨q5,?_⟩
                    rw[<-afs]
                    simp only[beq_eq_false_iff_ne,ne_eq]
                    intro e
                    have:ids[n]=i0:=bx _ _ tG od (by omega)
                    exact Gf ((List.getElem?_inj aB i2).1 (by grind))
                  · rintro⟨tG,q5⟩
                    simp only[Array.contains_push,Bool.or_eq_false_iff]at q5
                    obtain⟨n,aB,rfl⟩:=List.mem_iff_getElem.1 ((i3 i).2 ⟨tG,q5.1⟩)
                    grind
                · have u':(ids.eraseIdx q)[n]=if h:n<q then ids[n]'(by omega) else ids[n+1]'(by grind):=by
                    rw[List.getElem_eraseIdx]
                  have S0:(b5.eraseIdx q)[n]=if h:n<q then b5[n]'(by omega) else b5[n+1]'(by grind):=by
                    rw[List.getElem_eraseIdx]
                  have hlen:n+1<ids.length:=by grind
                  by_cases Gf:n<q
                  · obtain⟨tG,q5⟩:=i4 n (by omega) (by omega)
                    simp only[u',S0,Gf,dif_pos]
                    exact⟨tG,q5.mono (λ_ h=>h) he⟩
                  · obtain⟨tG,q5⟩:=i4 (n+1) hlen (by omega)
                    simp only[u',S0,Gf,dif_neg,not_false_eq_true]
                    exact⟨tG,q5.mono (λ_ h=>h) he⟩
                · rw[List.getElem?_eq_getElem LB]at jB
                  cases jB
                  obtain⟨tG,q5⟩:=i4 q bf LB
                  refine⟨i0,od,by grind,?_⟩
                  have e1:es[ids[q]]=es[i0]:=by congr 1
                  rw[e1]at q5
                  exact q5.mono (λ_ h=>h) he
            refine ha aw cK (ao.2 (some q) LB _ _ ⟨κ,F,bc.set (s:=s.cb b _) gD a7 ⟨[.bool true,left[j].key,left[j].val],rfl,rfl,λn aB=>?_⟩⟩)
            match n,aB with
            | 0,_=>exact eY.2 rfl
            | 1,_=>trivial
            | 2,_=>trivial
      grind
    grind
  grind
end
end Go.Fer
namespace Go.Fer
open Go.RowKit
def CN:z9'->List Value->List Value->Prop
 | [],[],aC=>aC=[]
 | none::g,u::us,aC=>∃ rH,aC=u::rH/\CN g us rH
 | some n::g,u::us,aC=>∃ cs rH,u=.agg cs/\cs.size=n/\(∀ c∈cs.toList,c.oneCell'=true)/\aC=cs.toList++rH/\CN g us rH
 | _,_,_=>False
def Gg(g:z9')(v:Value)(aC:List Value):Prop:=∃ us:List Value,us.length=g.length/\v=(if us.length=1 then us.getD 0 undef else .tuple us.toArray)/\CN g us aC
structure IoSpec(P:Program)(U:dm)(k:FuncId)(c:IOC):Prop where
 enter:∀ args w,(callFunc k args).run P w=.ok (.enter k args) w
 iK:∀ (C:bS) (a:Act) (w:World) (κ:Nat->bo) (F:Nat->Prop) (A:c.b6.ai),C.P=P->C.w0=w->C.r=none->C.dfr=[]->C.nt=c.j9->C.aM=U->bc C (c.b6.st A) a w κ F->(c.sh A).b1->
  Calls P k a.tmps w λe w'=>∃ v τ aC κ' F',e=.returned v/\(c.sh A).bD τ/\Gg c.ks v aC/\bc { C with nt:=aC.length } (c.bD.st τ) { tmps:=aC.toArray,defers:=[] } w' κ' F'
section
variable {P:Program} {H H':Nat->bw} {κ κ':Nat->bo} {F:Nat->Prop} {w:World} {g:Nat->Nat×Nat}
def pd(H H':Nat->bw)(κ κ':Nat->bo)(g:Nat->Nat×Nat):Prop:=∀ b,(H b).gen=0/\pU ⟨(g b).2,(H b).body⟩ (H' (g b).1) (κ b) (κ' (g b).1)
theorem pd.loc(h:pd H H' κ κ' g){b off:Nat}{v:Value}(hv:bl P H κ F w (.loc b 0 off) v):bl P H' κ' F w (.loc (g b).1 (g b).2 off) v:=by
 obtain⟨h0,aP,aQ⟩:=h b;refine⟨⟨aP,hv.1.2⟩,λaA hc=>?_⟩;obtain⟨c1,c2⟩:=(aQ aA).1 hc;rw[c2];exact hv.2 h0.symm c1
theorem pd.av(h:pd H H' κ κ' g)(t:bK){R:Type}(z:t.cons R){v:Value}(hv:bl P H κ F w (t.av cL z).1 v):bl P H' κ' F w (t.av g z).1 v:=by
 cases t with
 | undef=>trivial
 | val t=>exact hv
 | dD t=>exact hv
 | loc b off=>exact h.loc hv
 | own b=>
  obtain⟨h0,aP,aQ⟩:=h b;refine⟨⟨aP,hv.1.2⟩,λaA hc=>?_⟩;obtain⟨c1,c2,c3,c4⟩:=(aQ aA).2.1 hc;rw[c2,c3];exact hv.2 h0.symm c1
 | sub b=>
  obtain⟨h0,aP,aQ⟩:=h b;refine⟨⟨aP,hv.1.2⟩,λaA hc=>?_⟩;obtain⟨c1,c2,c3,c4⟩:=(aQ aA).2.1 hc;rw[c2,c3,c4];exact hv.2 h0.symm c1
 | fs b=>
  obtain⟨h0,aP,aQ⟩:=h b;refine⟨⟨aP,hv.1.2⟩,λaA hc=>?_⟩;obtain⟨c1,c2⟩:=(aQ aA).2.2.1 hc;rw[c2];exact hv.2 h0.symm c1
 | jW b=>
  obtain⟨h0,aP,aQ⟩:=h b;refine⟨⟨aP,hv.1.2⟩,λaA hc=>?_⟩;obtain⟨c1,c2⟩:=(aQ aA).2.2.2 hc;rw[c2];exact hv.2 h0.symm c1
 | cV=>exact hv
 | il k fE=>
  obtain⟨aC,h1,h2,h3⟩:=hv;refine⟨aC,h1,h2,λi G=>?_⟩;have:=h3 i G;have e1:u5 cL fE i=.loc fE[i].1 0 fE[i].2:=by simp[u5,gP,List.getD_eq_getElem?_getD,G,cL]
  have e2:u5 g fE i=.loc (g fE[i].1).1 (g fE[i].1).2 fE[i].2:=by simp[u5,gP,List.getD_eq_getElem?_getD,G]
  rw[e1]at this;rw[e2];exact h.loc this
 | hn bs=>
  obtain⟨aC,h1,h2,h3⟩:=hv;refine⟨aC,h1,h2,λi G=>?_⟩;obtain⟨this,jB⟩:=h3 i G;refine⟨?_,jB⟩;have e1:u6 cL bs i=.own bs[i] 0:=by simp[u6,gP,List.getD_eq_getElem?_getD,G,cL]
  have e2:u6 g bs i=.own (g bs[i]).1 (g bs[i]).2:=by simp[u6,gP,List.getD_eq_getElem?_getD,G]
  rw[e1]at this;rw[e2];obtain⟨h0,aP,aQ⟩:=h bs[i];refine⟨⟨aP,this.1.2⟩,λaA hc=>?_⟩;obtain⟨c1,c2,c3,c4⟩:=(aQ aA).2.1 hc;rw[c2,c3];exact this.2 h0.symm c1
 | iL b=>
  obtain⟨h0,aP,aQ⟩:=h b;refine⟨⟨aP,hv.1.2⟩,λaA hc=>?_⟩;obtain⟨c1,c2,c3,c4⟩:=(aQ aA).2.1 hc;rw[c2,c3,c4];exact hv.2 h0.symm c1
 | tr aK=>trivial
 | gN=>exact hv
theorem zM(t:bK){R:Type}(z:t.cons R):(t.av g z).2=(t.av cL z).2:=by cases t<;>rfl
theorem S1:∀ (ts:List bK) {R:Type} (z:p5 ts R),(o_ g ts z).2=(o_ cL ts z).2
 | [],_,_=>rfl
 | t::ts,_,z=>by simp only[o_];rw[zM (g:=g) t z];exact S1 ts _
theorem S2(t:bO){R:Type}(z:t.cons R):(t.body g z).2=(t.body cL z).2:=by
 cases t with
 | cells t l=>exact S1 l z
 | fQ e t=>exact zM t z.2
 | _=>rfl
theorem LC:∀ (ts:List (Nat×bK)) {R:Type} (z:oe ts R),(ed g ts z).2=(ed cL ts z).2
 | [],_,_=>rfl
 | p::ts,_,z=>by simp only[ed];rw[zM (g:=g) p.2 z];exact LC ts _
theorem pd.avs(h:pd H H' κ κ' g):∀ (ts:List bK) {R:Type} (z:p5 ts R) (i:Nat) {v:Value},bl P H κ F w ((o_ cL ts z).1.getD i .undef) v->bl P H' κ' F w ((o_ g ts z).1.getD i .undef) v
 | [],_,_,i,v,_=>by simp[o_,bl]
 | t::ts,_,z,i,v,hv=>by
  simp only[o_]at hv ⊢;cases i with
  | zero=>exact h.av t z hv
  | succ i=>
   simp only[List.getD_cons_succ]at hv ⊢;rw[zM (g:=g) t z];exact h.avs ts _ i hv
theorem pd.bG(h:pd H H' κ κ' g):∀ (ts:List (Nat×bK)) {R:Type} (z:oe ts R) (i:Nat) {v:Value},bl P H κ F w (ff (ed cL ts z).1 i) v->bl P H' κ' F w (ff (ed g ts z).1 i) v
 | [],_,_,i,v,_=>by simp[ed,ff,bl]
 | p::ts,_,z,i,v,hv=>by
  simp only[ed,ff]at hv ⊢;by_cases e:i=p.1
  ·rw[if_pos e]at hv ⊢;exact h.av p.2 z hv
  ·rw[if_neg e]at hv ⊢;rw[zM (g:=g) p.2 z];exact h.bG ts _ i hv
theorem S3:∀ (ts:List (Nat×bK)) {R:Type} (z:oe ts R) (i:Nat) {l aK L n st},ff (ed g ts z).1 i=.tr l aK L n st->ff (ed cL ts z).1 i=.tr l aK L n st
 | [],_,_,i,_,_,_,_,_,h=>by simp[ed,ff]at h
 | p::ts,_,z,i,l,aK,L,n,st,h=>by
  simp only[ed,ff]at h ⊢;by_cases e:i=p.1
  ·rw[if_pos e]at h ⊢;obtain⟨jA,t⟩:=p;cases t<;>first | exact h | cases h
  ·rw[if_neg e]at h ⊢;rw[zM (g:=g) p.2 z]at h;exact S3 ts _ i h
def xp(x y:bC):Prop:=x.ft=y.ft/\x.eZ=y.eZ/\x.len=y.len/\x.eK=y.eK/\x.gC=y.gC/\x.my=y.my/\∀ k,x.bN k=y.bN k
theorem xp.refl(x:bC):xp x x:=⟨rfl,rfl,rfl,rfl,rfl,rfl,λ_=>rfl⟩
theorem afu(t:bO){R:Type}(z:t.cons R):xp (t.body g z).1 (t.body cL z).1:=by
 cases t with
 | cells t l=>exact⟨rfl,rfl,rfl,rfl,rfl,rfl,λ_=>rfl⟩
 | fQ e t=>exact⟨rfl,rfl,rfl,rfl,rfl,rfl,λ_=>rfl⟩
 | _=>exact xp.refl _
theorem afv:∀ (t:af) (x:t.ai) (av:aF),av∈nw t x->∀ {v:Value},bl P H κ F w av v->bl P H' κ' F w av v:=by
  intro t;induction t with
  | cA=>intro x av h;cases h
  | st t aJ=>intro x av h;exact aJ x av h
  | ay a b fk eu=>
   intro x av h;rcases List.mem_append.1 h with h | h
   ·exact fk _ av h
   ·exact eu _ av h
  | array n e aJ=>
   intro x av h;simp only[nw,List.mem_flatMap]at h;grind
  | _=>
   intro x av h v hv;simp only[nw,List.mem_singleton]at h;subst h;exact hv
theorem pd.body(h:pd H H' κ κ' g)(t:bO){R:Type}(z:t.cons R){k:bo}(ad:ju P H κ F w k (t.body cL z).1):ju P H' κ' F w k (t.body g z).1:=by
 cases t with
 | cells t l=>
  obtain⟨cs,T,h1,h2,h3⟩:=ad;exact⟨cs,T,h1,h2,λi G=>⟨h.avs l z i (h3 i G).1,(h3 i G).2⟩⟩
 | fL t=>
  obtain⟨cs,T,h1,h2,h3⟩:=ad;refine⟨cs,T,h1,h2,λi G=>⟨?_,(h3 i G).2⟩⟩;have:=(h3 i G).1;unfold gP at this ⊢;rw[List.getD_eq_getElem?_getD]at this ⊢;cases an:(nw t z.1)[i]? with
  | none=>trivial
  | some av=>
   rw[an]at this;simp only[Option.getD_some]at this ⊢;have jF:=List.mem_of_getElem? an;exact afv t z.1 av jF this
 | a8 e=>exact ad
 | hj e=>exact ad
 | mp k v=>exact ad
 | i_ k v=>exact ad
 | gm t=>exact ad
 | b9 k v=>exact ad
 | fQ e t=>
  obtain⟨h0,cs,T,h1,h2,h3,aT,bx,c_,fN,iZ⟩:=ad;exact⟨h0,cs,T,h1,h2,h3,aT,bx,c_,h.av t z.2 fN,iZ⟩
theorem S4{l:List (Nat×bO)}{x y:o9 l}(h:x=y)(g:Nat->Nat×Nat)(b:Nat):eA (gS g l x) b=eA (gS g l y) b:=by rw[h]
theorem S5:∀ (l:List (Nat×bO)) (x:o9 l) (b:Nat),xp (eA (gS g l x) b).body (eA (gS cL l x) b).body
 | [],_,_=>xp.refl _
 | p::l,x,b=>by
  simp only[gS,eA];split
  ·exact afu p.2 x
  ·rw[S2 (g:=g) p.2 x];exact S5 l _ b
theorem pd.bq(h:pd H H' κ κ' g):∀ (l:List (Nat×bO)) (x:o9 l) (b:Nat) {k:bo},ju P H κ F w k (eA (gS cL l x) b).body->ju P H' κ' F w k (eA (gS g l x) b).body
 | [],_,_,k,_=>trivial
 | p::l,x,b,k,ad=>by
  simp only[gS,eA]at ad ⊢;split
  ·rename_i e;rw[if_pos e]at ad;exact h.body p.2 x ad
  ·rename_i e;rw[if_neg e]at ad;rw[S2 (g:=g) p.2 x];exact h.bq l _ b ad
theorem LD:∀ (l:List (Nat×bC)) (b:Nat),(eA l b).gen=0
 | [],_=>rfl
 | p::l,b=>by
  simp only[eA];split
  ·rfl
  ·exact LD l b
end
end Go.Fer
namespace Go.Fer
open Go.RowKit
theorem Gh{aq:Type}{k:aq->Nat}:∀ {l:List aq},(l.map k).Nodup->∀ {p:aq},p∈l->l.find? (λq=>k q == k p)=some p
 | [],_,_,h=>by cases h
 | a::l,aB,p,h=>by
  simp only[List.map_cons,List.nodup_cons]at aB;by_cases e:k a=k p
  ·grind
  ·rw[List.find?_cons_of_neg (by grind)];rcases List.mem_cons.1 h with rfl | h
   ·omega
   ·exact Gh aB.2 h
theorem CO{aq:Type}{k:aq->Nat}{l:List aq}(aB:(l.map k).Nodup){p q:aq}(hp:p∈l)(bf:q∈l)(e:k p=k q):p=q:=by
 have h1:=Gh aB hp;rw[e,Gh aB bf]at h1;grind
theorem S6:∀ {l:z6'},(l.map (·.1)).Nodup->∀ {p},p∈l->hK l p.1=p.2
 | [],_,_,h=>by cases h
 | a::l,aB,p,h=>by
  simp only[List.map_cons,List.nodup_cons]at aB;simp only[hK];by_cases e:p.1=a.1
  ·grind
  ·rw[if_neg e];rcases List.mem_cons.1 h with rfl | h
   ·omega
   ·exact S6 aB.2 h
theorem S7:∀ {l:z6'} {b:Nat},b ∉ l.map (·.1)->hK l b=(mM,0)
 | [],_,_=>rfl
 | a::l,b,h=>by
  simp only[List.map_cons,List.mem_cons,not_or]at h;simp only[hK];rw[if_neg h.1];exact S7 h.2
theorem S8(s:az)(d:Nat)(f:Nat->Nat)(ins:List Nat):∀ (l:List (Nat×bO)) (j:Nat),(r2 s d f ins l j).map (·.1)=l.map (·.1)
 | [],_=>rfl
 | p::l,j=>by
  simp only[r2,List.map_cons,S8 s d f ins l (j+1)];grind
theorem S9(s:az)(d:Nat)(f:Nat->Nat)(ins:List Nat):∀ (l:List (Nat×bO)) (j:Nat) {p:Nat×(Nat×Nat)},p∈r2 s d f ins l j->
  (p.1∈ins/\p.2.1=f p.1/\∃ t,(p.1,t)∈l/\((p.2.2=(s.ae (f p.1)).gen/\((∀ (g:Nat->Nat×Nat) (R:Type) (z:t.cons R),(t.body g z).1.eZ=false)\/(wL<=p.1/\∃ e,t=.a8 e)))\/p.2.2=(s.ae (f p.1)).gen+1))\/
  (p.1 ∉ ins/\p.2.2=(s.ae p.2.1).gen+1/\50000+10*d+j<=p.2.1/\p.2.1<50000+10*d+j+l.length)
 | [],_,p,h=>by cases h
 | q::l,j,p,h=>by
  simp only[r2,List.mem_cons]at h;rcases h with h | h
  ·by_cases bf:ins.contains q.1=true
   ·rw[if_pos bf]at h;subst h;refine .inl ⟨by grind,rfl,q.2,by simp,?_⟩;obtain⟨cR,t⟩:=q;cases t with
    | a8 e=>
     grind
    | _=>first | exact .inr rfl | exact .inl ⟨rfl,.inl λ_ _ _=>rfl⟩
   grind
  ·rcases S9 s d f ins l (j+1) h with⟨h1,h2,t,h3,aT⟩ | ⟨h1,h2,h3,aT⟩
   ·exact .inl ⟨h1,h2,t,List.mem_cons_of_mem _ h3,aT⟩
   ·exact .inr ⟨h1,h2,by omega,by simp only[List.length_cons];omega⟩
theorem Gi(g:Nat->Nat×Nat):∀ (l:List (Nat×bO)) (x:o9 l) (b:Nat),(eA (gS g l x) b=⟨0,.fm⟩/\b ∉ l.map (·.1))\/∃ q∈l,q.1=b/\∃ (R:Type) (z:q.2.cons R),eA (gS g l x) b=⟨0,(q.2.body g z).1⟩
 | [],_,_=>.inl ⟨rfl,by simp⟩
 | p::l,x,b=>by
  simp only[gS,eA];by_cases e:b=p.1
  ·grind
  ·rw[if_neg e];rcases Gi g l (p.2.body g x).2 b with⟨h1,h2⟩ | ⟨q,h1,h2⟩
   ·exact .inl ⟨h1,by rw[List.map_cons,List.mem_cons,not_or];exact⟨e,h2⟩⟩
   ·exact .inr ⟨q,List.mem_cons_of_mem _ h1,h2⟩
theorem afw{t u:bO}(h:t.FJ u=true){g g':Nat->Nat×Nat}{R LF:Type}(z:t.cons R)(l8:u.cons LF) :
  ((t.body g z).1.ft=true->(u.body g' l8).1.ft=true/\∀ k,(u.body g' l8).1.bN k=true)/\((t.body g z).1.gC=true->(u.body g' l8).1.gC=true/\∀ k,(u.body g' l8).1.bN k=true)/\(t.body g z).1.my=false:=by
 cases t<;>cases u<;>first
  | exact Bool.noConfusion h
  | exact⟨λ_=>⟨rfl,λ_=>rfl⟩,λh=>Bool.noConfusion h,rfl⟩
  | exact⟨λh=>Bool.noConfusion h,λ_=>⟨rfl,λ_=>rfl⟩,rfl⟩
  | exact⟨λh=>Bool.noConfusion h,λh=>Bool.noConfusion h,rfl⟩
theorem xq:∀ (ts:List (Nat×bK)) {R:Type} (g:Nat->Nat×Nat) (z:oe ts R) (i:Nat),ts.any (λp=>p.1 == i)=false->ff (ed g ts z).1 i=.undef
 | [],_,_,_,_,_=>rfl
 | p::ts,_,g,z,i,h=>by
  simp only[List.any_cons,Bool.or_eq_false_iff,beq_eq_false_iff_ne]at h;simp only[ed,ff];rw[if_neg (Ne.symm h.1)];exact xq ts g _ i h.2
theorem LG{P:Program}{H:Nat->bw}{κ:Nat->bo}{F:Nat->Prop}{w:World}:∀ (g:z9') {us aC:List Value},CN g us aC->∀ (c:Nat->aF) (i:Nat),(∀ j,j<aC.length->bl P H κ F w (c (i+j)) (aC.getD j undef))->
  (o' g c i).length=g.length/\us.length=g.length/\∀ j,j<g.length->bl P H κ F w ((o' g c i).getD j .undef) (us.getD j undef)
 | [],[],aC,_,_,_,_=>⟨rfl,rfl,λj aD=>by cases aD⟩
 | [],_::_,_,h,_,_,_=>h.elim
 | none::g,[],_,h,_,_,_=>h.elim
 | some n::g,[],_,h,_,_,_=>h.elim
 | none::g,u::us,aC,h,c,i,hv=>by
  obtain⟨rH,rfl,h⟩:=h;obtain⟨h1,h2,h3⟩:=LG g h c (i+1) λj aD=>by
   have:=hv (j+1) (by grind);rw[show i+(j+1)=i+1+j by omega]at this;simpa using this
  refine⟨by simp[o',h1],by grind,λj aD=>?_⟩;cases j with
  | zero=>simpa [o']using hv 0 (by simp)
  | succ j=>simpa [o']using h3 j (by grind)
 | some n::g,u::us,aC,h,c,i,hv=>by
  obtain⟨cs,rH,rfl,aB,nC,rfl,h⟩:=h;obtain⟨h1,h2,h3⟩:=LG g h c (i+n) λj aD=>by
   have:=hv (n+j) (by grind);rw[show i+(n+j)=i+n+j by omega]at this;have e:(cs.toList++rH).getD (n+j) undef=rH.getD j undef:=by
    grind
   rw[e]at this;omega
  refine⟨by simp[o',h1],by grind,λj aD=>?_⟩;cases j with
  | zero=>
   simp only[o',List.getD_cons_zero];refine⟨cs.toList,by simp,by omega,λj aD=>?_⟩;grind
  | succ j=>simpa [o']using h3 j (by grind)
theorem afx{P:Program}{H:Nat->bw}{κ:Nat->bo}{F:Nat->Prop}{w:World}{g:z9'}{v:Value}{aC:List Value}(h:Gg g v aC){c:Nat->aF}(hv:∀ j,bl P H κ F w (c j) (aC.getD j undef)) :
  bl P H κ F w (Le (o' g c 0)) v:=by
 obtain⟨us,h1,h2,h3⟩:=h;obtain⟨aP,_,bB⟩:=LG g h3 c 0 (λj _=>by simpa using hv j);subst h2;generalize o' g c 0=l at aP bB;unfold Le;split
 ·grind
 ·rename_i an;have dY:us.length≠1:=λe=>by
   have:l.length=1:=by omega
   match l,this with
   | [x],_=>grind
  rw[if_neg dY];refine⟨us,rfl,by omega,λi G=>?_⟩;unfold gP;grind
section
variable {C:bS} {s:az} {a:Act} {w:World} {κ:Nat->bo} {F:Nat->Prop}
theorem bc.args(aa:bc C s a w κ F){avs:List aF}{us:List Value}(aB:us.length<=eC)(an:avs.length=us.length)(hv:∀ i,i<us.length->bl C.P s.ae κ F w (avs.getD i .undef) (us.getD i undef)) :
    bc { C with nt:=us.length,dfr:=[],r:=none } (r1 s avs) { tmps:=us.toArray,defers:=[] } w κ F:=
  { aa with
    dn:=by simp,dfr:=rfl,fR:=aB
    bG:=λi=>by
      show bl C.P s.ae κ F w (if i=TRS then s.ax TRS else if i<avs.length then avs.getD i .undef else .undef) (us.toArray.getD i undef);split
      · rename_i e
        subst e
        have h1:=aa.bG TRS
        have h2:a.tmps.getD TRS undef=undef:=by
          have:=aa.dn;have:=aa.fR;rw[Array.getD_eq_getD_getElem?,Array.getElem?_eq_none (by unfold TRS eC at *;omega)];rfl
        have h3:us.toArray.getD TRS undef=undef:=by
          rw[Array.getD_eq_getD_getElem?,Array.getElem?_eq_none (by simp only[List.size_toArray];unfold TRS eC at *;omega)];rfl
        grind
      · split
        · simp_all
        · trivial
    bq:=aa.bq
    pro:=λl aK L n st e=>aa.pro l aK L n st (by simpa [r1]using e) }
def q6(C:bS)(w:World)(F':Nat->Prop)(n:Nat)(own Y:Nat->Prop)(h6:(Nat->Option Nat)×(Nat->Option (bo×Nat))):bS:=
 { C with w0:=w,F0:=F',K0:=λr=>r<w.heap.size/\¬own r/\¬Y r,nt:=n,dfr:=[],r:=none,h6:=h6.1,JN:=h6.2 }
structure CP(C:bS)(s:az)(w:World)(κ:Nat->bo)(F:Nat->Prop)(sl:aF)(Y:Nat->Prop):Prop where
 pro:∀ l aK L n st,sl=.tr l aK L n st->(∃ I,C.pr=⟨l,aK,L,I⟩)/\C.pr.Ok C.P/\C.pr.at aK n st F Y w
 low:∀ r,Y r->r<w.heap.size/\¬F r/\¬C.K0 r
 own:∀ b,(s.ae b).body.bN (κ b)=true->¬Y (κ b).ae
 non:sl=.undef->∀ r,¬Y r
theorem bc.afy(aa:bc C s a w κ F){sl:aF}(h:∀ l aK L n st,sl=.tr l aK L n st->s.ax TRS=.tr l aK L n st):∃ Y,CP C s w κ F sl Y:=by
 by_cases hs:∃ l aK L n st,sl=.tr l aK L n st
 ·obtain⟨l,aK,L,n,st,e⟩:=hs;obtain⟨h1,h2,Y,h3,aT,bx⟩:=aa.pro l aK L n st (h _ _ _ _ _ e);refine⟨Y,⟨λl' kr L' iO ib aV=>?_,h3,aT,λaV=>?_⟩⟩
  ·rw[e]at aV;cases aV;exact⟨h1,h2,bx⟩
  ·rw[e]at aV;cases aV
 ·exact⟨λ_=>False,⟨λl aK L n st e=>(hs ⟨l,aK,L,n,st,e⟩).elim,λ_ h=>h.elim,λ_ _ h=>h,λ_ _ h=>h⟩⟩
theorem afz{C1:bS}{eh:az}{bR:Act}{F':Nat->Prop}{fl:List Nat}{f:Nat->Nat}{sh:dp}{A:sh.ai}{Y:Nat->Prop}{ids:List Nat}(jg:C1.P=C.P)(tk:C1.aM=C.aM)(q7:C1.dfr=[])
  (gr:bc C1 (eh.cd fl) bR w κ F') (aw:Gd C1 eh bR w κ f F' sh A fl) (ix:CP C (eh.cd fl) w κ F' ((sh.st A).ax TRS) Y)
  (au:∀ b a1,b∈sh.og->a1∈sh.og->f b=f a1->b=a1) (hid:∀ b∈ids,eC<=b) :
  bc (q6 C w F' C1.nt (λr=>∃ b,((sh.st A).ae b).body.bN (κ (f b))=true/\(κ (f b)).ae=r) Y (λb=>if b∈ids then some (κ (f b)).ae else none,λb=>if b∈ids/\wL<=b then some (κ (f b),((sh.st A).ae b).body.len) else none)) (sh.st A) bR w (λb=>κ (f b)) F' where
 dn:=gr.dn
 dfr:=gr.dfr.trans q7
 bG:=λi=>by have:=aw.bG i;rw[jg]at this;exact this
 bq:=λb=>by have:=aw.bq b;rw[jg]at this;exact this
 own:=λb ad=>by
  have h1:=gr.own (f b) (aw.xn ad);exact⟨h1.1,h1.2.1,λh=>h.2.1 ⟨b,ad,rfl⟩⟩
 inj:=λb a1 ad cQ e=>au b a1 (aw.bN b ad).2.2 (aw.bN a1 cQ).2.2 (gr.inj _ _ (aw.xn ad) (aw.xn cQ) e)
 cM:=gr.cM
 gO:=λr aa=>.inl aa
 hE:=λr aa=>aa
 g_:=λr aa=>aa.1
 eg:=λ_ _=>rfl
 size:=Nat.le_refl _
 dV:=cN.refl _
 fR:=gr.fR
 kg:=λb r h=>by
  simp only[q6]at h;grind
 jv:=λb r h _=>by
  simp only[q6]at h;grind
 jX:=λb k h=>by
  simp only[q6]at h;grind
 kh:=λb k h _ _=>by
  simp only[q6]at h;grind
 pro:=λl aK L n st e=>by
  obtain⟨h1,h2,h3⟩:=ix.pro l aK L n st e;exact⟨h1,h2,Y,λr aa=>⟨(ix.low r aa).1,(ix.low r aa).2.1,λh=>h.2.2 aa⟩,λb ad=>ix.own _ (aw.xn ad),h3⟩
 jw:=by have:=gr.jw;rw[jg,tk]at this;exact this
 im:=by have:=gr.im;rw[jg]at this;exact this
structure S_(s:az)(κ:Nat->bo)(h6:(Nat->Option Nat)×(Nat->Option (bo×Nat)))(bs:List (Nat×bC))(bW:z6'):Prop where
 dA:(bW.map (·.1)).Nodup
 dB:(bW.map (·.2.1)).Nodup
 fm:mM ∉ bW.map (·.2.1)
 afA:(s.ae mM).body=.fm
 S':∀ p∈bW,(p.2.1<eC/\(s.ae p.2.1).gen<p.2.2)\/
  (((eA bs p.1).body.ft=true->(s.ae p.2.1).body.ft=true/\h6.1 p.1=some (κ p.2.1).ae)/\((eA bs p.1).body.gC=true->(s.ae p.2.1).body.gC=true/\h6.1 p.1=some (κ p.2.1).ae)/\(eA bs p.1).body.my=false/\
   ((p.2.2=(s.ae p.2.1).gen/\((eA bs p.1).body.eZ=true->(s.ae p.2.1).body.eZ=true/\(eA bs p.1).body.eK=(s.ae p.2.1).body.eK/\h6.2 p.1=some (κ p.2.1,(s.ae p.2.1).body.len)))\/p.2.2=(s.ae p.2.1).gen+1))
theorem afB{F' own Y:Nat->Prop}{sl:aF}{n:Nat}{h6:(Nat->Option Nat)×(Nat->Option (bo×Nat))}{ins:List Nat}{bD:dp}{τ:bD.ai}{aC:List Value}{w':World}{mN:Nat->bo}{dP:Nat->Prop}
    (aa:bc C s a w κ F') (ix:CP C s w κ F' sl Y) (fS:∀ r,own r->∃ b,b∈ins/\(s.ae b).body.bN (κ b)=true/\(κ b).ae=r)
    (hq:bc { q6 C w F' n own Y h6 with nt:=aC.length } (bD.st τ) { tmps:=aC.toArray,defers:=[] } w' mN dP)
    {bW:z6'} (fT:S_ s κ h6 (gS (hK bW) bD.bq (ed (hK bW) bD.bG τ).2) bW)
    {H':Nat->bw} {κn:Nat->bo} (zN:∀ p∈bW,H' p.2.1=⟨p.2.2,(eA (gS (hK bW) bD.bq (ed (hK bW) bD.bG τ).2) p.1).body⟩/\κn p.2.1=mN p.1)
    (CQ:∀ b,b ∉ bW.map (·.2.1)->κn b=κ b/\(b∈ins->H' b=⟨(s.ae b).gen+1,.fm⟩)/\(b ∉ ins->H' b=s.ae b))
    {X:aF} (va:X=ff (ed (hK bW) bD.bG τ).1 TRS\/X=.undef\/(X=s.ax TRS/\sl=.undef)) :
    bc C ⟨λi=>if i=TRS then X else s.ax i,H'⟩ a w' κn dP/\
    ∀ i,bl C.P H' κn dP w' (ff (ed (hK bW) bD.bG τ).1 i) (aC.toArray.getD i undef):=by
  generalize CR:gS (hK bW) bD.bq (ed (hK bW) bD.bG τ).2=bs at fT zN;have o8:∀ b,xp (eA bs b).body ((bD.st τ).ae b).body:=λb=>by
    rw[<-CR,S4 (LC bD.bG τ)];exact S5 bD.bq (ed cL bD.bG τ).2 b
  have CS:pd (bD.st τ).ae H' mN κn (hK bW):=by
    intro b;refine⟨LD _ b,?_⟩;by_cases ad:b∈bW.map (·.1)
    · obtain⟨p,hp,rfl⟩:=List.mem_map.1 ad
      rw[S6 fT.dA hp]
      obtain⟨h1,h2⟩:=zN p hp
      rw[h1,h2]
      obtain⟨aP,aQ,bB,gf,o5,xr,_⟩:=o8 p.1
      exact⟨Nat.le_refl _,λ_=>⟨λh=>⟨aP ▸ h,rfl⟩,λh=>⟨aQ ▸ h,rfl,bB,gf⟩,λh=>⟨o5 ▸ h,rfl⟩,λh=>⟨xr ▸ h,rfl⟩⟩⟩
    · rw[S7 ad]
      obtain⟨_,h2,h3⟩:=CQ mM fT.fm
      have aw:(H' mM).body=.fm:=by
        by_cases G:mM∈ins
        · grind
        · rw[h3 G];exact fT.afA
      refine⟨Nat.zero_le _,λ_=>?_⟩
      show ((H' mM).body.ft=true->_)/\((H' mM).body.eZ=true->_)/\((H' mM).body.gC=true->_)/\((H' mM).body.my=true->_)
      rw[aw]
      exact⟨λh=>(by cases h),λh=>(by cases h),λh=>(by cases h),λh=>(by cases h)⟩
  have Gj:∀ b,(∃ p∈bW,p.2.1=b)\/b ∉ bW.map (·.2.1):=λb=>by
    grind
  have Gk:∀ p∈bW,∀ r,h6.1 p.1=some r->(eA bs p.1).body.ft=true\/(eA bs p.1).body.gC=true->(mN p.1).ae=r:=λp hp r aa h=>by
    obtain⟨aP,_,_,_,o5,_⟩:=o8 p.1;exact hq.jv p.1 r aa (h.imp (λh=>aP ▸ h) (λh=>o5 ▸ h))
  have afC:∀ p∈bW,∀ k,h6.2 p.1=some k->(eA bs p.1).body.eZ=true->mN p.1=k.1/\(eA bs p.1).body.len=k.2:=λp hp k aj h=>by
    obtain⟨_,aQ,bB,_⟩:=o8 p.1;obtain⟨h1,h2⟩:=hq.kh p.1 k aj (LD _ _) (aQ ▸ h);grind
  have an:fe s.ae κ H' κn:=by
    rw[BH];intro b;rcases Gj b with⟨p,hp,rfl⟩ | ad
    · obtain⟨h1,h2⟩:=zN p hp
      rw[h1,h2]
      rcases fT.S' p hp with⟨_,h⟩ | ⟨hc,ao,hit,h⟩
      · exact⟨Nat.le_of_lt h,λe=>(by grind)⟩
      · rcases h with⟨h,eT⟩ | h
        · refine⟨Nat.le_of_eq h.symm,λ_=>⟨λh=>⟨(hc h).1,Gk p hp _ (hc h).2 (.inl h)⟩,λh=>?_,λh=>⟨(ao h).1,Gk p hp _ (ao h).2 (.inr h)⟩,λh=>?_⟩⟩
          · have h:(eA bs p.1).body.eZ=true:=h
            obtain⟨bR,a2,a3⟩:=eT h
            obtain⟨dd,dN⟩:=afC p hp _ a3 h
            exact⟨bR,dd,dN,a2⟩
          · have h:(eA bs p.1).body.my=true:=h
            rw[hit]at h;cases h
        · exact⟨by grind,λe=>(by grind)⟩
    · obtain⟨h1,h2,h3⟩:=CQ b ad
      rw[h1]
      by_cases G:b∈ins
      · rw[h2 G]
        exact⟨Nat.le_succ _,λe=>(by grind)⟩
      · rw[h3 G];exact pU.refl _ _
  have zO:w.heap.size<=w'.heap.size:=hq.size;have bd:∀ r,F' r->dP r:=hq.hE;have iC:∀ r,r<w.heap.size->¬own r->¬Y r->w'.heap[r]?=w.heap[r]?:=λr h1 h2 h3=>hq.eg r ⟨h1,h2,h3⟩;have vb:∀ r,C.K0 r->r<w.heap.size:=λr h=>Nat.lt_of_lt_of_le (aa.g_ r h) aa.size;have LH:∀ r,own r->¬C.K0 r/\¬F' r:=λr h=>by
    obtain⟨b,_,h1,rfl⟩:=fS r h;exact⟨(aa.own b h1).2.2,(aa.own b h1).2.1⟩
  have Ta:∀ r,¬(r<w.heap.size/\¬own r/\¬Y r)->¬C.K0 r:=λr h aj=>h ⟨vb r aj,λah=>(LH r ah).1 aj,λaO=>(ix.low r aO).2.2 aj⟩;have p9:cJ F' w w':=⟨zO,λr h=>iC r (aa.cM r h) (λah=>(LH r ah).2 h) λaO=>(ix.low r aO).2.1 h⟩
  have zt:∀ r,dP r->F' r\/¬(r<w.heap.size/\¬own r/\¬Y r):=hq.gO;have r9:∀ b,b ∉ ins->(s.ae b).body.bN (κ b)=true->(κ b).ae<w.heap.size/\¬own (κ b).ae/\¬Y (κ b).ae:=λb ad ah=>by
    refine⟨(aa.own b ah).1,λh=>?_,ix.own b ah⟩;obtain⟨a1,h1,h2,h3⟩:=fS _ h;exact ad (aa.inj a1 b h2 ah h3 ▸ h1)
  have yX:∀ b,(H' b).body.bN (κn b)=true->(∃ p∈bW,p.2.1=b/\((bD.st τ).ae p.1).body.bN (mN p.1)=true/\κn b=mN p.1)\/(b ∉ bW.map (·.2.1)/\b ∉ ins/\κn b=κ b/\(s.ae b).body.bN (κ b)=true):=λb ad=>by
    rcases Gj b with⟨p,hp,rfl⟩ | aB
    · obtain⟨h1,h2⟩:=zN p hp
      rw[h1,h2]at ad
      exact .inl ⟨p,hp,rfl,by rw[<-(o8 p.1).2.2.2.2.2.2];exact ad,h2⟩
    · obtain⟨h1,h2,h3⟩:=CQ b aB
      by_cases G:b∈ins
      · rw[h2 G]at ad;cases ad
      grind
  have hsl:∀ i,bl C.P H' κn dP w' (ff (ed (hK bW) bD.bG τ).1 i) (aC.toArray.getD i undef):=λi=>CS.bG bD.bG τ i (hq.bG i);refine⟨{ dn := aa.dn, dfr := aa.dfr, bG := λi => ?_, bq := λb => ?_, own := λb ad => ?_, inj := λb a1 ad cQ e => ?_, cM := hq.cM, gO := λr h => ?_, hE := λr h => bd r (aa.hE r h), g_ := aa.g_, eg := λr h => ?_,size:=Nat.le_trans aa.size zO,dV:=aa.dV.trans hq.dV,fR:=aa.fR,kg:=aa.kg,jv:=λb r h hc=>?_,jX:=aa.jX,kh:=λb k h h0 aU=>?_,pro:=λl aK L m st e=>?_,jw:=aa.jw,im:=hq.im },hsl⟩
  · show bl C.P H' κn dP w' (if i=TRS then X else s.ax i) _
    split
    · rename_i e
      subst e
      have hu:a.tmps.getD TRS undef=undef:=by
        have:=aa.dn;have:=aa.fR;rw[Array.getD_eq_getD_getElem?,Array.getElem?_eq_none (by unfold TRS eC at *;omega)];rfl
      rcases va with rfl | rfl | ⟨rfl,_⟩
      · have h:=hsl TRS
        have LI:aC.toArray.getD TRS undef=undef:=by
          have:aC.length<=eC:=hq.fR;rw[Array.getD_eq_getD_getElem?,Array.getElem?_eq_none (by simp only[List.size_toArray];unfold TRS eC at *;omega)];rfl
        grind
      · trivial
      · exact bl.later an bd p9 (aa.bG TRS)
    · exact bl.later an bd p9 (aa.bG i)
  · show ju C.P H' κn dP w' (κn b) (H' b).body
    rcases Gj b with⟨p,hp,rfl⟩ | aB
    · obtain⟨h1,h2⟩:=zN p hp
      rw[h1,h2,<-CR,S4 (LC bD.bG τ)]
      exact CS.bq bD.bq (ed cL bD.bG τ).2 p.1 (hq.bq p.1)
    · obtain⟨h1,h2,h3⟩:=CQ b aB
      by_cases G:b∈ins
      · rw[h2 G];trivial
      · have:=cj.kX (H':=H') (κ':=κn) (aa.bq b) an bd p9 (by grind) h1 λah=>iC _ (r9 b G ah).1 (r9 b G ah).2.1 (r9 b G ah).2.2
        exact this
  · rcases yX b ad with⟨p,hp,_,h1,h2⟩ | ⟨_,h1,h2,h3⟩
    · have:=hq.own p.1 h1
      rw[h2]
      exact⟨this.1,this.2.1,Ta _ this.2.2⟩
    · rw[h2]
      have aT:=aa.own b h3
      grind
  · rcases yX b ad with⟨p,hp,rfl,h1,h2⟩ | ⟨_,h1,h2,h3⟩<;>rcases yX a1 cQ with⟨p',BY,rfl,zd,wW⟩ | ⟨_,zd,wW,Tb⟩
    · rw[h2,wW]at e
      have:=hq.inj _ _ h1 zd e
      rw[CO fT.dA hp BY this]
    · rw[h2,wW]at e
      exact ((hq.own p.1 h1).2.2 (e ▸ r9 a1 zd Tb)).elim
    · rw[h2,wW]at e
      exact ((hq.own p'.1 zd).2.2 (e ▸ r9 b h1 h3)).elim
    · rw[h2,wW]at e
      exact aa.inj b a1 h3 Tb e
  · rcases zt r h with h | h
    · exact aa.gO r h
    grind
  · exact (iC r (vb r h) (λah=>(LH r ah).1 h) λaO=>(ix.low r aO).2.2 h).trans (aa.eg r h)
  · have aI:=aa.kg b r h
    rcases Gj b with⟨p,hp,rfl⟩ | aB
    · obtain⟨h1,h2⟩:=zN p hp
      simp only[h1]at hc
      rcases fT.S' p hp with⟨h3,_⟩ | ⟨aP,aQ,_⟩
      · omega
      · rw[h2]
        rcases hc with hc | hc
        · rw[Gk p hp _ (aP hc).2 (.inl hc)]
          exact aa.jv _ r h (.inl (aP hc).1)
        · rw[Gk p hp _ (aQ hc).2 (.inr hc)]
          exact aa.jv _ r h (.inr (aQ hc).1)
    · obtain⟨h1,h2,h3⟩:=CQ b aB
      by_cases G:b∈ins
      · simp only[h2 G]at hc
        rcases hc with hc | hc<;>cases hc
      · simp only[h3 G]at hc
        rw[h1]
        exact aa.jv b r h hc
  · have aI:=aa.jX b k h
    have h0:(H' b).gen=0:=h0
    have aU:(H' b).body.eZ=true:=aU
    show κn b=k.1/\(H' b).body.len=k.2
    obtain⟨g1,dW⟩:=an b
    obtain⟨bR,a2,a3,_⟩:=(dW (by omega)).2.1 aU
    obtain⟨aP,aQ⟩:=aa.kh b k h (by omega) bR
    grind
  · have e:X=.tr l aK L m st:=by grind
    rcases va with rfl | rfl | ⟨rfl,afD⟩
    · obtain⟨h1,h2,f',h3,aT,bx⟩:=hq.pro l aK L m st (S3 bD.bG τ TRS e)
      refine⟨h1,h2,f',λr aY=>⟨(h3 r aY).1,(h3 r aY).2.1,Ta r (h3 r aY).2.2⟩,λb ad aO=>?_,bx⟩
      rcases yX b ad with⟨p,hp,rfl,aP,aQ⟩ | ⟨_,aP,aQ,bB⟩
      · grind
      · rw[aQ]at aO;exact (h3 _ aO).2.2 (r9 b aP bB)
    · cases e
    · obtain⟨h1,h2,f',h3,aT,bx⟩:=aa.pro l aK L m st e
      have Tc:∀ r,f' r->r<w.heap.size/\¬own r/\¬Y r:=λr aO=>⟨(h3 r aO).1,λah=>by
        grind,ix.non afD r⟩
      have BI:∀ r,dP r->¬f' r:=λr au aO=>(zt r au).elim (h3 r aO).2.1 λh=>h (Tc r aO)
      refine⟨h1,h2,f',λr aO=>⟨Nat.lt_of_lt_of_le (h3 r aO).1 zO,λau=>BI r au aO,(h3 r aO).2.2⟩,λb ad aO=>?_,h2.JM bx bd (λr au=>?_) zO hq.dV hq.cM BI⟩
      · rcases yX b ad with⟨p,hp,rfl,aP,aQ⟩ | ⟨_,aP,aQ,bB⟩
        · rw[aQ]at aO;exact (hq.own _ aP).2.2 (Tc _ aO)
        grind
      · rcases au with au | au
        · exact p9.2 r au
        grind
end
end Go.Fer
namespace Go.Fer
open Go.RowKit
section
variable {C:bS} {T:Nat->af} {o:Oper} {s:az}
theorem IoSpec.bm{P:Program}{U:dm}{k:FuncId}{c:IOC}(au:IoSpec P U k c){C:bS}{a:Act}{w:World}{κ:Nat->bo}{F:Nat->Prop}{A:c.b6.ai}(h:bc C (c.b6.st A) a w κ F)(h1:C.P=P)(h2:C.w0=w)(h3:C.r=none)(aT:C.dfr=[])(bx:C.nt=c.j9)(c_:C.aM=U)(hs:(c.sh A).b1) :
  Calls P k a.tmps w λe w'=>∃ v τ aC κ' F',e=.returned v/\(c.sh A).bD τ/\Gg c.ks v aC/\bc { C with nt:=aC.length } (c.bD.st τ) { tmps:=aC.toArray,defers:=[] } w' κ' F':=
 au.iK C a w κ F A h1 h2 h3 aT bx c_ h hs
theorem Td{C:bS}{s:az}{LJ:Nat->aF}{a bR:Act}{w:World}{κ:Nat->bo}{F:Nat->Prop}{dA:Nat}{c:IOC}{f:Nat->Nat}{A:c.b6.ai}{fl:List Nat}{d m:Nat}{bW:z6'}
    (aa:bc C s a w κ F) (gr:bc { C with nt:=dA,dfr:=[],r:=none } ⟨LJ,s.ae⟩ bR w κ F) (p_:LJ TRS=s.ax TRS)
    (nK:c.b6.zB f ⟨LJ,s.ae⟩=some (A,fl)) (Te:r2 (s.cd fl) d f c.b6.og c.bD.bq 0=bW) (dJ:CB c f (s.cd fl) bW d m=true) :
    ∃ (F' own Y:Nat->Prop) (h6:(Nat->Option Nat)×(Nat->Option (bo×Nat))),(∀ r,F r->F' r)/\bc C (s.cd fl) a w κ F'/\(∀ r,own r->∃ b,((s.cd fl).ae b).body.bN (κ b)=true/\(κ b).ae=r)/\CP C (s.cd fl) w κ F' ((c.b6.st A).ax TRS) Y/\(∀ l aK L n st,(c.b6.st A).ax TRS=.tr l aK L n st->s.ax TRS=.tr l aK L n st)/\
      bc (q6 C w F' dA own Y h6) (c.b6.st A) bR w (λb=>κ (f b)) F'/\
      ∀ LK hk,bc { C with w0:=LK } (s.cd fl) a hk κ F'->CP C (s.cd fl) hk κ F' ((c.b6.st A).ax TRS) Y->∀ (τ:c.bD.ai) (aC:List Value) (w':World) (mN:Nat->bo) (dP:Nat->Prop),bc { q6 C hk F' dA own Y h6 with nt:=aC.length } (c.bD.st τ) { tmps:=aC.toArray,defers:=[] } w' mN dP->
        ∃ κn,bc { C with w0:=LK } (xe (s.cd fl) c f bW τ) a w' κn dP/\∀ i,bl C.P (xe (s.cd fl) c f bW τ).ae κn dP w' (ff (ed (hK bW) c.bD.bG τ).1 i) (aC.toArray.getD i undef):=by
  simp only[CB,Bool.and_eq_true,decide_eq_true_eq,Bool.not_eq_true']at dJ;obtain⟨⟨⟨⟨⟨⟨⟨⟨⟨⟨c1,c2⟩,c3⟩,c4⟩,c5⟩,lA⟩,n_⟩,wU⟩,c9⟩,Gl⟩,_⟩:=dJ;have c3:(c.b6.bq.map (·.1)).Nodup:=of_decide_eq_true c3;have c4:(c.b6.bq.map λp=>f p.1).Nodup:=of_decide_eq_true c4;have c5:(bW.map (·.1)).Nodup:=of_decide_eq_true c5;have lA:(bW.map (·.2.1)).Nodup:=of_decide_eq_true lA;have wU:mM ∉ bW.map (·.2.1):=λh=>by
    grind
  have c9:((s.cd fl).ae mM).body=.fm:=by
    grind
  obtain⟨F',f1,gr,aw⟩:=dp.SS nK gr;have aY : bc C (s.cd fl) a w κ F' := { gr with
    dn:=aa.dn,dfr:=aa.dfr,fR:=aa.fR,bG:=λi=>bl.later (RD s fl κ) f1 (cJ.refl _ _) (aa.bG i)
    bq:=gr.bq
    pro:=λl aK L n st e=>gr.pro l aK L n st (by simpa [az.cd,p_]using e) }
  obtain⟨Y,ix⟩:=aY.afy (sl:=(c.b6.st A).ax TRS) λl aK L n st e=>by simpa [az.cd,p_]using aw.tr l aK L n st e
  have hid:∀ b∈c.b6.bq.map (·.1),eC<=b:=λb ad=>by grind
  have Gm:∀ b,b∈c.b6.og->∃ q∈c.b6.bq,q.1=b/\q.2.Cw=true:=λb ad=>by
    obtain⟨q,bf,e⟩:=List.mem_filterMap.1 ad;grind
  have CT:=afz (C:=C) (C1:={ C with nt:=dA,dfr:=[],r:=none }) (ids:=c.b6.bq.map (·.1)) rfl rfl rfl gr aw ⟨ix.pro,ix.low,ix.own,ix.non⟩ (λb a1 ad cQ e=>by
    obtain⟨q,bf,rfl,_⟩:=Gm b ad;obtain⟨q',tl,rfl,_⟩:=Gm a1 cQ;rw[CO (k:=λp=>f p.1) c4 bf tl e]) hid
  refine⟨F',_,Y,_,f1,aY,λr ⟨b,ad,e⟩=>⟨f b,aw.xn ad,e⟩,ix,λl aK L n st e=>by simpa [az.cd,p_]using aw.tr l aK L n st e,CT,λLK hk Kw Gn τ aC w' mN dP hq=>?_⟩;have CR:∀ (b:Nat) (q':Nat×bO),q'∈c.bD.bq->q'.1=b->b∈c.b6.og->∀ (R:Type) (z:q'.2.cons R),((q'.2.body (hK bW) z).1.ft=true->((s.cd fl).ae (f b)).body.ft=true)/\((q'.2.body (hK bW) z).1.gC=true->((s.cd fl).ae (f b)).body.gC=true)/\(q'.2.body (hK bW) z).1.my=false:=by
    intro b q' tl e ad R z;obtain⟨q,bf,rfl,LL⟩:=Gm b ad;have aj:=List.all_eq_true.1 (List.all_eq_true.1 Gl q' tl) q bf;rw[e,LL]at aj;simp only[beq_self_eq_true,Bool.and_self,Bool.not_true,Bool.false_or]at aj;rcases Gi cL c.b6.bq (ed cL c.b6.bG A).2 q.1 with⟨_,h2⟩ | ⟨q2,h2,h3,LF,l8,aT⟩
    · grind
    · obtain rfl:=CO c3 h2 bf h3
      have aT:(c.b6.st A).ae q2.1=⟨0,(q2.2.body cL l8).1⟩:=aT
      obtain⟨aP,aQ,bB⟩:=afw aj z l8 (g:=hK bW) (g':=cL)
      have tF:=aw.zJ q2.1
      refine⟨λhc=>?_,λhc=>?_,bB⟩
      · have bx:=aw.bN q2.1 (by grind)
        simp only[az.cd,if_neg bx.1]
        exact tF.2.1 (by grind)
      · have bx:=aw.bN q2.1 (by grind)
        simp only[az.cd,if_neg bx.1]
        exact tF.2.2.2.1 (by grind)
  have afE:bW.map (·.1)=c.bD.bq.map (·.1):=by rw[<-Te];exact S8 ..
  have fT:S_ (s.cd fl) κ (λb=>if b∈c.b6.bq.map (·.1) then some (κ (f b)).ae else none,λb=>if b∈c.b6.bq.map (·.1)/\wL<=b then some (κ (f b),((c.b6.st A).ae b).body.len) else none) (gS (hK bW) c.bD.bq (ed (hK bW) c.bD.bG τ).2) bW:=by
    refine⟨c5,lA,wU,c9,λp hp=>?_⟩;rw[<-Te]at hp;rcases S9 _ _ _ _ _ _ hp with⟨h1,h2,t,h3,aT⟩ | ⟨_,h2,h3,aT⟩
    · rw[h2]
      have jF:p.1∈c.b6.bq.map (·.1):=by
        grind
      rcases Gi (hK bW) c.bD.bq (ed (hK bW) c.bD.bG τ).2 p.1 with⟨_,aQ⟩ | ⟨q',aP,aQ,R,z,bB⟩
      · grind
      · rw[bB]
        obtain⟨dd,dN,kf⟩:=CR p.1 q' aP aQ h1 R z
        have:q'=(p.1,t):=CO (afE ▸ c5) aP h3 aQ
        subst this
        refine .inr ⟨λh=>⟨dd h,if_pos jF⟩,λh=>⟨dN h,if_pos jF⟩,kf,aT.imp (λaT=>⟨aT.1,λeT=>?_⟩) id⟩
        rcases aT.2 with bx | ⟨aj,e,rfl⟩
        · grind
        · obtain⟨q,bf,LA,LL⟩:=Gm p.1 h1
          have xt:=List.all_eq_true.1 (List.all_eq_true.1 Gl _ aP) q bf
          rw[LA,LL]at xt
          simp only[beq_self_eq_true,Bool.and_self,Bool.not_true,Bool.false_or]at xt
          rcases Gi cL c.b6.bq (ed cL c.b6.bG A).2 p.1 with⟨_,wW⟩ | ⟨q2,m2,m3,LF,l8,m4⟩
          · grind
          · obtain rfl:=CO c3 m2 bf (m3.trans LA.symm)
            have m4:(c.b6.st A).ae p.1=⟨0,(q2.2.body cL l8).1⟩:=m4
            obtain⟨cR,LM⟩:=q2
            have xt:bO.FJ (.a8 e) LM=true:=xt
            obtain rfl:LM=.a8 e:=by
              cases LM<;>first | (simp only[bO.FJ,decide_eq_true_eq]at xt;rw[xt]) | cases xt
            have tF:=aw.zJ p.1
            have afF:((c.b6.st A).ae p.1).body.eZ=true:=by rw[m4];rfl
            obtain⟨b3,cr,dX⟩:=tF.2.2.1 afF
            have ba:((s.cd fl).ae (f p.1)).body.eZ=true/\((s.cd fl).ae (f p.1)).body.len=(s.ae (f p.1)).body.len/\((s.cd fl).ae (f p.1)).body.eK=(s.ae (f p.1)).body.eK:=by
              simp only[az.cd];split
              · rcases zb s.ae (s.ae (f p.1)) with aV | ⟨_,_,hx,aV⟩ | ⟨_,_,_,hx,_⟩ | ⟨_,_,_,_,hx,_,_⟩
                · grind
                · rw[aV,hx];exact⟨rfl,rfl,rfl⟩
                · have b3:(s.ae (f p.1)).body.eZ=true:=b3
                  rw[hx]at b3;cases b3
                · have b3:(s.ae (f p.1)).body.eZ=true:=b3
                  rw[hx]at b3;cases b3
              grind
            have cr:((c.b6.st A).ae p.1).body.len=(s.ae (f p.1)).body.len:=cr
            have dX:((c.b6.st A).ae p.1).body.eK=(s.ae (f p.1)).body.eK:=dX
            refine⟨ba.1,?_,?_⟩
            · rw[ba.2.2,<-dX,m4];rfl
            grind
    · refine .inl ⟨?_,by omega⟩
      unfold eC
      omega
  obtain⟨nL,hsl⟩:=afB (ins:=c.b6.og.map f) (X:=if c.bD.bG.any (λp=>p.1 == TRS) then ff (ed (hK bW) c.bD.bG τ).1 TRS else if c.b6.bG.any (λp=>p.1 == TRS) then .undef else (s.cd fl).ax TRS)
    (H':=(xe (s.cd fl) c f bW τ).ae)
    (κn:=λb=>match bW.find? (λp=>p.2.1 == b) with
      | some p=>mN p.1
      | none=>κ b) Kw ⟨Gn.pro,Gn.low,Gn.own,Gn.non⟩ (λr ⟨b,ad,e⟩=>⟨f b,List.mem_map_of_mem (aw.bN b ad).2.2,aw.xn ad,e⟩) hq fT
    (λp hp=>by simp only[xe,Gh (k:=λp=>p.2.1) lA hp,and_self]) (λb ad=>by
      have aB:bW.find? (λp=>p.2.1 == b)=none:=List.find?_eq_none.2 λp hp e=>ad (List.mem_map.2 ⟨p,hp,by grind⟩);simp only[xe,aB,true_and];grind)
    (by
      split
      · simp
      · split
        · simp
        · rename_i h2
          exact .inr (.inr ⟨rfl,xq c.b6.bG cL A TRS (Bool.eq_false_iff.2 h2)⟩))
  exact⟨_,nL,hsl⟩
theorem Tf(a7:∀ i,o.dst=some i->i<C.nt){f0:Operand}{args:Array Operand}{cX:Array TypeId}(ah:o.op=.call { callee:=.value f0,args:=args,argTypes:=cX }){c:IOC}(au:∀ A a w,b' C s a w->(c.sh A).b1->∃ k,IoSpec C.P C.aM k c/\a.eval f0=.func (.func k) #[] #[]){pr:hJ}
  (h:xf C.aM s o args.toList c=some pr):p8 C o s pr:=by
 obtain⟨args⟩:=args;unfold xf at h;generalize axd:qY c (r1 s (qX C.aM s args))=f at h;split at h
 ·rename_i A fl nK;split at h
  ·rename_i dJ;cases h;have afG:qU (aW C.aM s.ax) o->jz (args.map (aW C.aM s.ax)):=λad=>CH ad λx hx=>by rw[ah];simp[Op.operands,Call.operands];simp_all
   refine⟨λa w Q K aa aZ LN=>?_,λgs oj=>(by grind),afG⟩;obtain⟨k,au,aj⟩:=au A a w aa LN.1;obtain⟨κ,F,aa⟩:=aa;have hlen:args.length=c.j9/\args.length<=eC:=by
    simp only[CB,Bool.and_eq_true,decide_eq_true_eq]at dJ;omega
   have dF:=aa.args (avs:=qX C.aM s args) (us:=args.map a.eval) (by grind) (by simp[qX]) λi G=>by
    have cZ:i<args.length:=by grind
    have h1:=rO aZ i (by grind);have e1:(args.map (aW C.aM s.ax)).getD i .undef=aW C.aM s.ax args[i]:=by grind
    rw[e1]at h1;have e2:(qX C.aM s args).getD i .undef=(use (aW C.aM s.ax args[i])).2:=by simp[qX,List.getD_eq_getElem?_getD,cZ]
    have e3:(args.map a.eval).getD i undef=a.eval args[i]:=by grind
    rw[e2,e3];exact oX (j1 aa args[i]) h1
   obtain⟨F',own,Y,h6,_,aY,_,ix,_,CT,LO⟩:=Td aa dF rfl nK rfl dJ;have cK:(execOp a.eval o).run C.P w=.ok (.enter k (args.map a.eval).toArray) w:=by
    simp only[execOp,ah,Sem.run_bind,resolve,aj,Deferred.ofValue,Sem.run_pure,Result.andThen_ok,invoke];have:=au.enter (args.map a.eval).toArray w;grind
   have tH:=au.bm CT rfl rfl rfl rfl (by show (args.map a.eval).length=_;grind) rfl LN.1;refine Cj (by grind) cK tH λe w' ⟨v,τ,aC,mN,dP,he,hτ,Gp,hq⟩=>⟨v,he,LN.2 τ hτ _ _ ?_⟩
   obtain⟨κn,nL,hsl⟩:=LO C.w0 w aY ix τ aC w' mN dP hq;exact⟨_,dP,bc.set nL a7 (afx Gp λj=>by simpa [Array.getD_eq_getD_getElem?,List.getD_eq_getElem?_getD]using hsl j)⟩
  grind
 grind
theorem afH(a7:∀ i,o.dst=some i->i<C.nt){k:Nat}{args:Array Operand}{cX:Array TypeId}(ah:o.op=.call { callee:=.value (.func k),args:=args,argTypes:=cX }){c:IOC}(au:IoSpec C.P C.aM k c){pr:hJ}
  (h:xf C.aM s o args.toList c=some pr):p8 C o s pr:=
 Tf a7 ah (λ_ _ _ _ _=>⟨k,au,rfl⟩) h
theorem IoSpec.yY{P:Program}{U:dm}{k:FuncId}{c:IOC}(h:IoSpec P U k c){sh:c.b6.ai->M c.bD.ai}(hs:∀ A,M.le (c.sh A) (sh A)):IoSpec P U k { c with sh:=sh } where
 enter:=h.enter
 iK:=λC a w κ F A e1 e2 e3 e4 eP jV aa qS=>by
  obtain⟨aP,aQ⟩:=hs A qS;exact (h.iK C a w κ F A e1 e2 e3 e4 eP jV aa aP).mono λe w' ⟨v,τ,aC,κ',F',h1,h2,h3⟩=>⟨v,τ,aC,κ',F',h1,aQ τ h2,h3⟩
theorem afI{Ψ:Nat->Option eN}(a7:∀ i,o.dst=some i->i<C.nt){t:Nat}{args:Array Operand}{cX:Array TypeId}(ah:o.op=.call { callee:=.value (.tmp t),args:=args,argTypes:=cX })
  (cF:∀ c sh ids,Ψ SD=some (.FR c sh ids)->∀ k∈ids,IoSpec C.P C.aM k { c with sh:=sh k }) {pr:hJ} (h:FW C.aM Ψ s o t args.toList=some pr):p8 C o s pr:=by
 unfold FW at h;split at h
 ·rename_i n aB;split at h
  ·rename_i c sh ids hc;refine Tf a7 ah (λA a w aa hs=>?_) h;obtain⟨⟨k,aj,rfl⟩,_⟩:=hs;refine⟨k,(cF c sh ids hc k aj).yY (sh:=(SE c sh ids (some k)).sh) λA h=>⟨h.2,λy aO=>aO⟩,?_⟩;obtain⟨κ,F,aa⟩:=aa;have hv:bl C.P s.ae κ F w (s.ax t) (a.tmps.getD t undef):=aa.bG t;rw[aB]at hv;obtain⟨_,hv⟩:=(dC rfl).1 hv;exact (List.cons.inj hv).1
  ·cases h
 ·cases h
end
end Go.Fer
namespace Go.Fer
open Go.RowKit
section
variable {C:bS} {o:Oper} {s:az}
theorem bc.round{s:az}{a:Act}{w w':World}{κ:Nat->bo}{F' dP Y Gq:Nat->Prop}{l:Nat}{aK:af}{L:List aK.ai->Prop}{I}{dB:List aK.ai}{LP:Bool}(aa:bc C s a w κ F')(om:C.pr=⟨l,aK,L,I⟩)(ct:C.pr.Ok C.P)
    (aO:∀ r,Y r->r<w.heap.size/\¬F' r/\¬C.K0 r) (LQ:∀ b,(s.ae b).body.bN (κ b)=true->¬Y (κ b).ae)
    (g1:∀ r,F' r->dP r) (dW:∀ r,dP r->F' r\/Y r\/w.heap.size<=r) (g3:∀ r,dP r->r<w'.heap.size) (g4:∀ r,r<w.heap.size->¬Y r->w'.heap[r]?=w.heap[r]?)
    (g5:∀ r,Gq r->(Y r\/w.heap.size<=r)/\r<w'.heap.size/\¬dP r) (g6:w.heap.size<=w'.heap.size) (g7:cN w w') (g8:I dB LP dP Gq w') :
    bc C ⟨λi=>if i=TRS then .tr l aK L dB LP else s.ax i,s.ae⟩ a w' κ dP:=by
  have p9:cJ F' w w':=⟨g6,λr h=>g4 r (aa.cM r h) λCc=>(aO r Cc).2.1 h⟩
  have k2:∀ r,w.heap.size<=r->¬C.K0 r:=λr h aj=>by have:=aa.g_ r aj;have:=aa.size;omega
  refine { dn := aa.dn, dfr := aa.dfr, bG := λi => ?_, bq := λb => cj.kX (aa.bq b) (fe.refl _ _) g1 p9 rfl rfl λah => g4 _ (aa.own b ah).1 (LQ b ah), own := λb ad => ?_, inj := aa.inj, cM := g3, gO := λr h => ?_,hE:=λr h=>g1 r (aa.hE r h),g_:=aa.g_,eg:=λr h=>?_,size:=Nat.le_trans aa.size g6,dV:=aa.dV.trans g7,fR:=aa.fR,kg:=aa.kg,jv:=aa.jv,jX:=aa.jX,kh:=aa.kh,pro:=λl' kr L' iO ib e=>?_,jw:=aa.jw,im:=aa.im.mono g1 p9 }
  · show bl C.P s.ae κ dP w' (if i=TRS then .tr l aK L dB LP else s.ax i) _
    split
    · trivial
    · exact bl.later (fe.refl _ _) g1 p9 (aa.bG i)
  · have h:=aa.own b ad
    grind
  · rcases dW r h with h | h | h
    · exact aa.gO r h
    · exact .inr (aO r h).2.2
    · exact .inr (k2 r h)
  · exact (g4 r (Nat.lt_of_lt_of_le (aa.g_ r h) aa.size) λk=>(aO r k).2.2 h).trans (aa.eg r h)
  · simp only[if_true]at e
    cases e
    refine⟨⟨I,om⟩,ct,Gq,λr h=>⟨(g5 r h).2.1,(g5 r h).2.2,?_⟩,λb ad h=>?_,?_⟩
    · grind
    · rcases (g5 _ h).1 with h | h
      · grind
      · exact absurd (aa.own b ad).1 (Nat.not_lt.2 h)
    · rw[om];exact lx.yT.2 g8
theorem afJ(a7:∀ i,o.dst=some i->i<C.nt){t:Nat}{args:Array Operand}{cX:Array TypeId}(ah:o.op=.call { callee:=.value (.tmp t),args:=args,argTypes:=cX }){pr:hJ}
  (h:FX C.aM s o t args.toList=some pr):p8 C o s pr:=by
 obtain⟨args⟩:=args;unfold FX at h;split at h
 ·rename_i l' l aK L n st LR tz;split at h
  ·rename_i x fl hx;cases h;refine⟨λa w Q K aa aZ ao=>?_,λgs oj=>(by grind),λad=>CH ad λx hx=>by rw[ah];simp[Op.operands,Call.operands];simp_all⟩;obtain⟨κ,F,aa⟩:=aa;rw[M.kD]at ao;obtain⟨⟨rfl,rfl,Gr⟩,ao⟩:=ao;obtain⟨F',f1,aY,f2⟩:=bc.k0 (p2 _ hx) aa;have dF:fb C.P aK F' w (args.map a.eval) x:=by
    refine u1 aa.bq f1 aK hx f2 (by simp) λi G ds=>?_;simp only[List.getElem_map];have cZ:i<args.length:=by grind
    have h1:=rO aZ i (by grind);have e1:(args.map (aW C.aM s.ax)).getD i .undef=aW C.aM s.ax args[i]:=by grind
    rw[show (List.map (aW C.aM s.ax) (⟨args⟩:Array Operand).toList)=args.map (aW C.aM s.ax) from rfl,e1]at h1;exact oX (j1 aa args[i]) h1
   have hv:a.eval (.tmp t)=.func (.yield l') #[] #[]:=by
    have:=j1 aa (.tmp t);have e:aW C.aM s.ax (.tmp t)=.gN l':=LR;rw[e]at this;exact this
   obtain⟨⟨I,om⟩,ct,Y,aO,LQ,ei⟩:=aY.pro l' aK L n false tz;have afK:lx.Ok C.P ⟨l',aK,L,I⟩:=om ▸ ct;rw[om]at ei;have ei:=lx.yT.1 ei;obtain⟨fn,tmps,assign,body,h1,h2⟩:=afK.yield ei aY.cM (λr h=>⟨(aO r h).1,(aO r h).2.1⟩) Gr dF;have cK:(execOp a.eval o).run C.P w=.ok (.round l' fn tmps assign body) w:=by
    simp only[execOp,ah,Sem.run_bind,resolve,hv,Deferred.ofValue,Sem.run_pure,Result.andThen_ok,invoke];grind
   refine⟨λ_ _=>trivial,?_⟩;rw[y8 (by grind),cK,Oper.uponIn_round];refine⟨λhs=>(by cases hs),?_⟩;have h3:RoundIn (dy C.r) 0 C.P l' fn tmps assign body w _:=h2;refine h3.mono λe w' ⟨b,dP,Gq,he,g1,dW,g3,g4,g5,g6,g7,g8⟩=>?_;subst he;refine ao.2 b trivial _ _ ⟨κ,dP,bc.set ?_ a7 (eY.2 rfl)⟩;exact aY.round om ct aO LQ g1 dW g3 g4 g5 g6 g7 g8
  grind
 grind
end
end Go.Fer
namespace Go.Fer
open Go.RowKit
section
variable {C:bS} {T:Nat->af} {a6:Nat->Option aL} {s:az} {res:eb}
theorem Tg{ms:Array MapEntry}{j:Nat}(aD:j<ms.size)(hu:∀ i (h:i<ms.size),ms[i].born=ms[j].born->i=j):ms.findIdx? (λe=>(e.born:Int) == (ms[j].born:Int))=some j:=by
 rw[Array.findIdx?_eq_some_iff_getElem];grind
theorem afL(ms:Array MapEntry)(e:MapEntry)(f:MapEntry->MapEntry):(ms.push e).modify ms.size f=ms.push (f e):=by
 grind
theorem afM(ms:Array MapEntry)(j:Nat)(f g:MapEntry->MapEntry):(ms.modify j f).modify j g=ms.modify j λe=>g (f e):=by
 grind
theorem zP{a:Act}{d:Nat}{v:Value}{x:Operand}(h:x≠.tmp d):(a.put (some d) v).eval x=a.eval x:=Act.eval_put λuO e=>by grind
theorem CU{a:Act}{d:Nat}{v:Value}(h:d<a.tmps.size):(a.put (some d) v).eval (.tmp d)=v:=by
 simp[Act.put,Act.eval,Array.getD_eq_getD_getElem?,h]
theorem afN(hT:dz C.P T){o1 gb kK oU:Oper}{d1 d2:Nat}{ty:TypeId}{m x y:Operand}(h1:o1.op=.mapEntry ty m x)(t1:o1.dst=some d1)(h2:gb.op=.extract (.tmp d1) 1)(t2:gb.dst=some d2)
  (h3:kK.op=.entryStore ty m (.tmp d2) y) (t3:kK.dst=none) (hL:oU.op=.mapUpdate ty m x y) (LS:oU.dst=none) (j_:m≠.tmp d1) (pf:m≠.tmp d2) (xu:y≠.tmp d1) (r_:y≠.tmp d2) (p4:d1<C.nt) (hM:d2<C.nt)
  (h:(bh C.aM T a6 (aW C.aM s.ax) oU).run s.ae=some res) {a:Act} {w:World} {κ:Nat->bo} {F:Nat->Prop} {Q:Exit->Act->World->Prop} {K:Act->World->Prop} (aa:bc C s a w κ F) (aZ:res.bT) (hc:res.c)
  (iC:∀ a' w',b' C (((s.hW none res).set (some d1) .undef).set (some d2) .undef) a' w'->K a' w') :
  o1.wpIn (dy C.r) 0 C.P a w (λbR bY=>gb.wpIn (dy C.r) 0 C.P bR bY (λa2 cy=>kK.wpIn (dy C.r) 0 C.P a2 cy K Q) Q) Q:=by
 have kJ:=Ku hT LS (.inl hL) h a w κ F Q aa aZ hc;rw[LS]at kJ;have e1:∀ c,o1.op≠.defer c:=by grind
 have e2:∀ c,gb.op≠.defer c:=by grind
 have e3:∀ c,kK.op≠.defer c:=by grind
 have afO:∀ c,oU.op≠.defer c:=by grind
 simp only[bh,hL,qJ]at h;split at h
 ·rename_i k v aI;obtain⟨k3,zm,G,mF,gR⟩:=(hT.bU aI (by simp)).mp;obtain⟨inf,mb,i1,i2,i3,i4,i5,i6⟩:=kk gR.kj;split at h
  ·rename_i xv;split at h
   ·rename_i b g tu;simp only[ar.eM,Option.bind_eq_some_iff,ar.run_bind,ar.eL,ar.bz]at h;obtain⟨⟨dr,n7⟩,hx,⟨mG,n8⟩,aO,h⟩:=h;split at h
    ·rename_i aA;obtain⟨aA,p0⟩:=aA;have p0:b ∉ n7++n8:=by
      grind
     split at h
     ·rename_i k' hS es ad;simp only[Option.map_eq_some_iff]at h;obtain⟨R4,o0,rfl⟩:=h;obtain⟨e,rfl⟩:=kF o0;cases e;obtain⟨F',f1,aY,f2⟩:=bc.k0 ((mD hx).append (mD aO)) aa;have ao:bl C.P s.ae κ F w (use (aW C.aM s.ax m)).2 (a.eval m):=cv aa m rfl aZ.1;rw[tu]at ao;have je:=ao.2 aA.symm (by rw[ad];rfl);have tv:=l5 aa.bq f1 hx f2.left (cv aa x rfl aZ.2.1);have o4:(s.cd (n7++n8)).ae b=s.ae b:=by simp only[az.cd];grind
      have aN:=aY.bq b;unfold cj at aN;rw[o4,ad]at aN;obtain⟨ms,clk,hw,rY⟩:=aN;have e7:k.kH=true/\k.j0<=100:=by simpa [td]using xv
      have dJ:=(Ck (em:=false) k 10000 e7.1 (by omega)).1 mF tv;have j6:=rY.es;obtain⟨f,cR,q2⟩:=w1 (β:=v.ai) (xs:=es) (es:=ms.toList) xv mF tv j6.1 (λj e p h1 h2=>(j6.2 j e p h1 h2).1);have eG:(getObj (κ b).ae).run C.P w=.ok (.map ms clk) w:=by simp[getObj,Sem.run,hw]
      obtain⟨g_,Kv,Fx,R5⟩:=rY;have tJ:d1<a.tmps.size:=by have:=aa.dn;omega
      have bX:(κ b).ae<w.heap.size:=(Array.getElem?_eq_some_iff.1 hw).1;have chain:∀ (bY cy:World) (u:Value) (n:Int),(execOp a.eval o1).run C.P w=.ok (.value (.tuple #[u,goInt n])) bY->(Instr.entryStore ty (.map (some (κ b).ae)) (goInt n) (a.eval y)).run C.P bY=.ok () cy->
        (execOp a.eval oU).run C.P w=.ok .skip cy->
        o1.wpIn (dy C.r) 0 C.P a w (λbR bY=>gb.wpIn (dy C.r) 0 C.P bR bY (λa2 cy=>kK.wpIn (dy C.r) 0 C.P a2 cy K Q) Q) Q:=by
       intro bY cy u n b3 cr afP;have j5:=kJ.2;rw[y8 afO,afP,Oper.uponIn_skip,LS]at j5;refine ha e1 b3 ?_;rw[t1];have afQ:(a.put (some d1) (.tuple #[u,goInt n])).eval (.tmp d1)=.tuple #[u,goInt n]:=CU tJ;refine ha (v:=goInt n) (w':=bY) e2 (by simp[execOp,h2,afQ,Instr.extract]) ?_;rw[t2];have afR:d2<(a.put (some d1) (.tuple #[u,goInt n])).tmps.size:=by have:=aa.dn;simp[Act.put];omega
       have afS:((a.put (some d1) (.tuple #[u,goInt n])).put (some d2) (goInt n)).eval (.tmp d2)=goInt n:=CU afR;have LU:((a.put (some d1) (.tuple #[u,goInt n])).put (some d2) (goInt n)).eval m=.map (some (κ b).ae):=by rw[zP pf,zP j_,je]
       have afT:((a.put (some d1) (.tuple #[u,goInt n])).put (some d2) (goInt n)).eval y=a.eval y:=by rw[zP r_,zP xu]
       refine Fh e3 (w':=cy) (by simp only[execOp,h3,afS,LU,afT,Sem.run_bind,cr,Result.andThen_ok,Sem.run_pure]) ?_;rw[t3];refine iC _ _ ?_;obtain⟨κ',F',j5⟩:=j5;exact⟨κ',F',bc.set (bc.set (d:=some d1) (av:=.undef) j5 (λi e=>by grind) trivial) (λi e=>by grind) trivial⟩
      rcases q2 with⟨rfl,dY⟩ | ⟨j,e,p,g1,dW,g3,g4,rfl⟩
      ·refine chain { w with heap:=w.heap.setIfInBounds (κ b).ae (.map (ms.push { key:=a.eval x,val:=mb,born:=clk }) (clk+1)) } { w with heap:=w.heap.setIfInBounds (κ b).ae (.map (ms.push { key:=a.eval x,val:=a.eval y,born:=clk }) (clk+1)) } mb clk ?_ ?_ ?_
       ·simp only[execOp,h1,je,Instr.mapEntry,Sem.run_bind,dk G,Result.andThen_ok,eG,dJ,cR,qK i1 i4,rX hw,Sem.run_pure]
       ·have LV:(getObj (κ b).ae).run C.P { w with heap:=w.heap.setIfInBounds (κ b).ae (.map (ms.push { key:=a.eval x,val:=mb,born:=clk }) (clk+1)) }=.ok (.map (ms.push { key:=a.eval x,val:=mb,born:=clk }) (clk+1)) { w with heap:=w.heap.setIfInBounds (κ b).ae (.map (ms.push { key:=a.eval x,val:=mb,born:=clk }) (clk+1)) }:=by simp[getObj,Sem.run,bX]
        have LW:(ms.push { key:=a.eval x,val:=mb,born:=clk }).findIdx? (λe=>(e.born:Int) == (clk:Int))=some ms.size:=by
         have:=Tg (ms:=ms.push { key:=a.eval x,val:=mb,born:=clk }) (j:=ms.size) (by simp) λi G he=>by
          grind
         grind
        simp only[Instr.entryStore,Sem.run_bind,LV,Result.andThen_ok,goInt,asInt,asIntOf,Sem.run_pure,LW];rw[rX (es:=ms.push { key:=a.eval x,val:=mb,born:=clk }) (clk:=clk+1) (by grind),afL];simp
       ·simp only[execOp,hL,je,Instr.mapUpdate,Sem.run_bind,dk G,Result.andThen_ok,eG,dJ,cR,rX hw,Sem.run_pure]
      ·have aD:j<es.length:=(List.getElem?_eq_some_iff.1 dW).1;have w2:j<ms.size:=by omega
       have Kx:ms[j]=e:=by
        grind
       obtain⟨jf,bY,b3,cr,dX⟩:=Kt C.P w e.key (a.eval x);have lH:bY.heap[(κ b).ae]?=some (.map ms clk):=by rcases dX with rfl | rfl<;>exact hw
       have Th:(κ b).ae<bY.heap.size:=(Array.getElem?_eq_some_iff.1 lH).1;have nD:((ms[j]?).map (·.key)).getD (a.eval x)=e.key:=by
        grind
       have LX:((ms[j]?).map (λx=>(x.born:Int))).getD 0=(ms[j].born:Int):=by grind
       rw[Nat.zero_add]at cR;refine chain { bY with heap:=bY.heap.setIfInBounds (κ b).ae (.map (ms.modify j λe=>{ e with key:=jf }) clk) } { bY with heap:=bY.heap.setIfInBounds (κ b).ae (.map (ms.modify j λe=>{ e with key:=jf,val:=a.eval y }) clk) } e.val ms[j].born ?_ ?_ ?_
       ·simp only[execOp,h1,je,Instr.mapEntry,Sem.run_bind,dk G,Result.andThen_ok,eG,dJ,cR];rw[nD,b3];simp only[Result.andThen_ok,rX lH,Sem.run_pure,LX]
       ·have LV:(getObj (κ b).ae).run C.P { bY with heap:=bY.heap.setIfInBounds (κ b).ae (.map (ms.modify j λe=>{ e with key:=jf }) clk) }=.ok (.map (ms.modify j λe=>{ e with key:=jf }) clk) { bY with heap:=bY.heap.setIfInBounds (κ b).ae (.map (ms.modify j λe=>{ e with key:=jf }) clk) }:=by simp[getObj,Sem.run,Th]
        have mc:∀ i (h:i<(ms.modify j λe=>{ e with key:=jf }).size),((ms.modify j λe=>{ e with key:=jf })[i]).born=(ms[i]'(by grind)).born:=by
         grind
        have LW:(ms.modify j λe=>{ e with key:=jf }).findIdx? (λe=>(e.born:Int) == (ms[j].born:Int))=some j:=by
         have:=Tg (ms:=ms.modify j λe=>{ e with key:=jf }) (j:=j) (by grind) λi G he=>by
          grind
         grind
        simp only[Instr.entryStore,Sem.run_bind,LV,Result.andThen_ok,goInt,asInt,asIntOf,Sem.run_pure,LW];rw[rX (es:=ms.modify j λe=>{ e with key:=jf }) (clk:=clk) (by grind),afM];simp
       ·simp only[execOp,hL,je,Instr.mapUpdate,Sem.run_bind,dk G,Result.andThen_ok,eG,dJ,cR];rw[nD,b3];simp only[Result.andThen_ok,rX lH,Sem.run_pure]
     grind
    grind
   ·cases h
  ·cases h
 ·cases h
end
end Go.Fer
namespace Go.Fer
open Go.RowKit
structure CV(P:Program)(k:FuncId)(c:ITC):Prop where
 enter:∀ args w,(callFunc k args).run P w=.ok (.enter k args) w
 iK:∀ (l:Nat) (I:List c.aK.ai->Bool->(Nat->Prop)->(Nat->Prop)->World->Prop) (F Y:Nat->Prop) (w:World) (args:List Value) (x:c.ts.ai),fb P c.ts F w args x->c.pre x->lx.Ok P ⟨l,c.aK,λT=>T=c.seq x,I⟩->
  (∀ r,F r->r<w.heap.size)->nv P F w->(∀ r,Y r->r<w.heap.size/\¬F r)->I [] false F Y w->Calls P k (args++[Value.func (.yield l) #[] #[]]).toArray w λe w'=>
   ∃ v pre st F' f',e=.returned v/\(st=false->pre=c.seq x)/\I pre st F' f' w'/\(∀ r,F r->F' r)/\(∀ r,F' r->F r\/Y r\/w.heap.size<=r)/\(∀ r,F' r->r<w'.heap.size)/\
    (∀ r,r<w.heap.size->¬Y r->w'.heap[r]?=w.heap[r]?)/\(∀ r,f' r->(Y r\/w.heap.size<=r)/\r<w'.heap.size/\¬F' r)/\w.heap.size<=w'.heap.size/\cN w w'
def eN.Ok(P:Program)(U:dm)(k:FuncId):eN->Prop
 | .dc c=>hR P k c.ts c.tr c.sh/\(c.dx=true->∀ x,(c.sh x).Cx)
 | .io c=>IoSpec P U k c
 | .b9 c=>CV P k c
 | .Lb c=>hR P k c.ts c.tr c.sh/\Q3 P k c.ts c.tr c.sh
 | .FR c sh ids=>∀ k∈ids,IoSpec P U k { c with sh:=sh k }
 | .ow c=>ny c.tr=true/\Ch P k c
def lM(P:Program)(U:dm)(Ψ:Nat->Option eN):Prop:=∀ k c,Ψ k=some c->c.Ok P U k
section
variable {C:bS} {T:Nat->af} {a6:Nat->Option aL} {Ψ:Nat->Option eN} {s:az} {o:Oper} {Q:Exit->Act->World->Prop} {ops:Array Oper}
theorem afU(cf:jc C.P a6)(cF:lM C.P C.aM Ψ){k:Nat}{c:SC}(h:Lc a6 Ψ k=some c):hR C.P k c.ts c.tr c.sh:=by
 unfold Lc at h;split at h
 ·rename_i c' jB;cases h;have:eN.Ok C.P C.aM k (.dc c):=cF k _ jB;exact this.1
 ·cases h
 ·obtain⟨f,au,h⟩:=Option.bind_eq_some_iff.1 h;split at h
  ·cases h
  ·rename_i he;cases h;exact (cf k f au).1 (by simpa using he)
theorem afV{P:Program}{w:World}{ty j:TypeId}(aD:P.underlying ty=some (.slice j))(q:Option Addr)(n cap d:Nat):(Op.equalIn (d+1) ty (.slice q n cap) (.slice none 0 0)).run P w=.ok q.isNone w:=by
 cases q<;>simp[Op.equalIn,dk aD]
theorem afW{P:Program}{w:World}(op:BinOp)(t:TypeId)(x y:Operand)(q q':Option Addr)(n iO cap cap':Nat):(eqGuard op t x y (.slice q n cap) (.slice q' iO cap')).run P w=.ok () w:=by
 cases op<;>simp[eqGuard]
theorem Ti{P:Program}{w:World}{ty j:TypeId}{x y:Operand}(aD:P.underlying ty=some (.slice j))(q:Option Addr)(n cap:Nat) :
  (do eqGuard .eql ty x y (.slice q n cap) (.slice none 0 0);binOp .eql ty (.slice q n cap) (.slice none 0 0):Sem Value).run P w=.ok (.bool q.isNone) w/\(do eqGuard .neq ty x y (.slice q n cap) (.slice none 0 0);binOp .neq ty (.slice q n cap) (.slice none 0 0):Sem Value).run P w=.ok (.bool (!q.isNone)) w:=by
 have h:(Op.equalIn 10000 ty (.slice q n cap) (.slice none 0 0)).run P w=.ok q.isNone w:=afV (w:=w) aD q n cap 9999;constructor<;>simp[afW,binOp,Op.equal,Op.maxDepth,h]
theorem afX(hT:dz C.P T)(a7:∀ i,o.dst=some i->i<C.nt){op:BinOp}{ty mB:TypeId}{x y:Operand}(ah:o.op=.binOp op ty x y mB){pr:hJ}(h:CD C.aM T s o op ty x y=some pr):p8 C o s pr:=by
 have y':∀ c,o.op≠.defer c:=by grind
 unfold CD at h;split at h
 ·rename_i e aI afY;have cY:=hT.bU aI (by simp);obtain⟨j,aD,_⟩:=cY.sl;split at h
  ·rename_i xs l hG;have key:∀ (a:Act) (w:World) (κ:Nat->bo) (F:Nat->Prop),bc C s a w κ F->(use (aW C.aM s.ax x)).1->∃ b:Bool,(b=true->xs=[])/\(op=.eql->(execOp a.eval o).run C.P w=.ok (.value (.bool b)) w)/\(op=.neq->(execOp a.eval o).run C.P w=.ok (.value (.bool (!b))) w):=by
    intro a w κ F aa aZ;have hx:=B0 aa hG (cv aa x rfl aZ);obtain⟨_,q,cap,e1,m1,m2,m3,_⟩:=(dC rfl).1 hx;have e1:=(List.cons.inj e1).1;have aO:a.eval y=.slice none 0 0:=by
     have:=j1 aa y;rw[afY]at this;exact this
    refine⟨q.isNone,λbf=>?_,λkJ=>?_,λkJ=>?_⟩
    ·simp_all
    ·subst kJ;have aa:=(Ti (w:=w) (x:=x) (y:=y) aD q xs.length cap).1;rw[<-e1,<-aO]at aa;simp only[execOp,ah,Sem.run_bind]at aa ⊢;simp_all
    ·subst kJ;have aa:=(Ti (w:=w) (x:=x) (y:=y) aD q xs.length cap).2;rw[<-e1,<-aO]at aa;simp only[execOp,ah,Sem.run_bind]at aa ⊢;simp_all
   split at h
   ·cases h;refine⟨λa w Q K aa aZ ao=>?_,λgs oj=>(by grind),λad=>ad x (by rw[ah];simp[Op.operands])⟩;obtain⟨κ,F,aa⟩:=aa;obtain⟨b,dd,dN,_⟩:=key a w κ F aa aZ;exact ha y' (dN rfl) (ao.2 b dd _ _ ⟨κ,F,bc.set aa a7 (eY.2 rfl)⟩)
   ·cases h;refine⟨λa w Q K aa aZ ao=>?_,λgs oj=>(by grind),λad=>ad x (by rw[ah];simp[Op.operands])⟩;obtain⟨κ,F,aa⟩:=aa;obtain⟨b,dd,_,dN⟩:=key a w κ F aa aZ;exact ha y' (dN rfl) (ao.2 b dd _ _ ⟨κ,F,bc.set aa a7 (eY.2 rfl)⟩)
   grind
  grind
 grind
theorem LY(hT:dz C.P T)(cf:jc C.P a6)(cF:lM C.P C.aM Ψ)(a7:∀ i,o.dst=some i->i<C.nt){pr:hJ}(h:qZ C.aM T a6 Ψ s o=some pr):p8 C o s pr:=by
 unfold qZ at h;split at h
 ·rename_i c ah;obtain⟨callee,args,cX⟩:=c;split at h
  ·rename_i f au;simp only at au;subst au;split at h
   ·split at h
    ·rename_i c' jB;exact afH a7 ah (cF _ _ jB) h
    ·rename_i c' jB;have h3:eN.Ok C.P C.aM _ (.Lb c'):=cF _ _ jB;exact afj a7 ah h3.1 h3.2 h
    ·split at h
     ·rename_i dc LZ;exact afi a7 ah (afU cf cF LZ) h
     grind
   ·split at h
    ·rename_i r aa;cases h;exact afk a7 ah aa
    ·split at h
     ·rename_i r aa;cases h;exact afI a7 ah (λc sh ids hc=>cF _ _ hc) aa
     ·exact afJ a7 ah h
   grind
  grind
 ·rename_i ty x ah;exact afl hT a7 ah h
 ·rename_i x str ah;exact afp a7 ah h
 ·rename_i x ah;exact afm a7 ah h
 ·rename_i op ty x y mB ah;exact afX hT a7 ah h
 grind
theorem Tj(want b:Bool):((some b == some want:Bool))=FF want b:=by cases want<;>cases b<;>rfl
theorem Tk{a:Act}{j d:Nat}{q8:Oper}(h1:ops[j]?=some q8)(h2:q8.dst=some d){b:Bool}(h:a.tmps.getD d Go.undef=.bool b):yielded ops a.tmps j=some b:=by
 have:a.tmps[d]?=some (.bool b):=by
  rw[Array.getD_eq_getD_getElem?]at h;cases he:a.tmps[d]? with
  | none=>rw[he]at h;cases h
  | some v=>grind
 simp[yielded,h1,h2,this]
theorem afZ{a:Act}{j d:Nat}{q8:Oper}(h1:ops[j]?=some q8)(h2:q8.dst=some d)(h:a.tmps.getD d Go.undef=Go.undef):yielded ops a.tmps j=none:=by
 unfold yielded;rw[h1];simp only[Option.bind_some,h2];rw[Array.getD_eq_getD_getElem?]at h;cases he:a.tmps[d]? with
 | none=>rfl
 | some v=>rw[he]at h;cases h;rfl
theorem L0{a:Act}{w:World}{κ:Nat->bo}{F:Nat->Prop}(aa:bc C s a w κ F){g:Option Bool}(h:kp s.ax ops o.guard=some g) :
  Region.wanted o (yielded ops a.tmps)=g.getD true:=by
 unfold Region.wanted;cases aA:o.guard with
 | none=>rw[aA]at h;cases h;rfl
 | some p=>
  obtain⟨j,want⟩:=p;rw[aA]at h;simp only[kp]at h ⊢;split at h
  ·rename_i q8 aD;split at h
   ·rename_i d aw;have hs:=aa.bG d;split at h
    ·rename_i b ad;cases h;rw[ad]at hs;rw[Tk aD aw (eY.1 hs),Tj];rfl
    ·rename_i g' b ad;cases h;rw[ad]at hs;obtain⟨h1,h2⟩:=hs;cases g' with
     | true=>
      rw[Tk aD aw (eY.1 (h1 rfl)),Tj];simp
     | false=>
      rw[afZ aD aw (h2 rfl)];rfl
    grind
   grind
  grind
theorem af0{bT c:Prop}{eR r5:aF}{hk xi:List (Nat×bw)}(aA:CE o eR hk=some (xi,r5))(h:(bh C.aM T a6 (aW C.aM s.ax) o).run s.ae=some ⟨bT,c,eR,hk⟩) :
    (∀ a w,b' C (s.hW o.dst ⟨bT,c,eR,hk⟩) a w->b' C ((s.fK xi).set o.dst r5) a w)/\(∀ a w κ F,bc C s a w κ F->∃ κ' F',bc C (s.fK xi) a w κ' F'):=by
  unfold CE at aA;split at aA
  · cases aA
    exact⟨λa w h=>h,λa w κ F h=>⟨κ,F,h⟩⟩
  · rename_i p l'
    split at aA
    · rename_i L1 first cH ah
      cases aA
      refine⟨λa w h=>h,λa w κ F aa=>?_⟩
      simp only[bh,ah]at h
      split at h
      · split at h
        · split at h
          · simp only[ar.eM,Option.bind_eq_some_iff,ar.run_bind,ar.bz,Option.some.injEq]at h
            obtain⟨⟨y,l⟩,aO,he⟩:=h
            obtain⟨F',_,aY,_⟩:=bc.k0 (p2 _ aO) aa
            have he:(jy l).run s.ae=p::l':=by grind
            rw[<-he,ti]
            grind
          · split at h
            · simp only[ar.eM,Option.bind_eq_some_iff,ar.run_bind,ar.bz,Option.some.injEq]at h
              obtain⟨⟨y,l⟩,aO,he⟩:=h
              obtain⟨F',_,aY,_⟩:=bc.k0 (p2 _ aO) aa
              have he:(jy l).run s.ae=p::l':=by grind
              rw[<-he,ti]
              grind
            · simp only[bA,ar.bz,Option.some.injEq]at h
              cases h
        · split at h
          · simp only[bA,ar.bz,Option.some.injEq]at h
            cases h
          · cases h
      · cases h
    · rename_i ty n ps ah
      split at aA
      · rename_i a1 g' e xs bE
        split at aA
        · rename_i af1
          obtain⟨⟨rfl,rfl⟩,_⟩:=af1
          cases aA
          obtain⟨b,⟨af2,iB⟩⟩:=p
          simp only at bE
          subst bE
          have k2:o.dst=some b/\af2=(s.ae b).gen+1:=by
            simp only[bh,ah]at h;split at h
            · simp only[ar.eM,Option.bind_eq_some_iff,ar.run_bind]at h
              obtain⟨⟨ys,fl⟩,_,h⟩:=h
              obtain⟨b0,zr,aj⟩:=qM h
              grind
            · cases h
          obtain⟨a7,rfl⟩:=k2
          refine⟨λa w j5=>?_,λa w κ F aa=>?_⟩
          · obtain⟨κ,F,aa⟩:=j5
            rw[a7]at aa ⊢
            simp only[az.hW,az.fK]at aa
            have hx:(di (.slice e) (.own b ((s.ae b).gen+1))).run ((s.cb b ⟨(s.ae b).gen+1,.a8 e xs⟩).set (some b) (.own b ((s.ae b).gen+1))).ae=some (xs,[b]):=by
              simp[di,ki,dE,az.set,az.cb,eE,af.ef]
            obtain⟨zQ,f1,gr,f2⟩:=bc.k0 (mD hx) aa
            have hs:=aa.bG b
            have hv:=l5 (v:=a.tmps.getD b undef) aa.bq f1 hx f2 (by simpa [az.set]using hs)
            have hsl:∀ i,i≠b->((s.cb b ⟨(s.ae b).gen+1,.a8 e xs⟩).set (some b) (.own b ((s.ae b).gen+1))).ax i=s.ax i:=λi G=>by simp[az.set,az.cb,G]
            have cu:bc C ⟨λi=>if i=b then .val (.slice e) xs else s.ax i,(((s.cb b ⟨(s.ae b).gen+1,.a8 e xs⟩).set (some b) (.own b ((s.ae b).gen+1))).cd [b]).ae⟩ a w κ zQ:=
              { gr with
                dn:=gr.dn,dfr:=gr.dfr,bq:=gr.bq
                bG:=λi=>by
                  show bl _ _ _ _ _ (if i=b then .val (.slice e) xs else s.ax i) _;split
                  · rename_i G
                    subst G
                    exact hv
                  · rename_i G
                    rw[<-hsl i G]
                    exact gr.bG i
                pro:=λl aK L n st aV=>by
                  have aV:(if TRS=b then aF.val (.slice e) xs else s.ax TRS)=.tr l aK L n st:=aV;split at aV
                  · cases aV
                  · rename_i G
                    exact gr.pro l aK L n st ((hsl TRS G).trans aV) }
            refine⟨κ,zQ,cu.yY ⟨λi=>.inl ?_,λi=>?_⟩⟩
            · rfl
            · by_cases G:i=b
              · subst G
                right
                simp[az.set,az.fK,az.cb,az.cd,e6]
              · left
                simp[az.set,az.fK,az.cb,az.cd,G]
          · have aB:=Lx aa (b:=b) (e:=e)
            refine⟨_,F,aB.yY ⟨λi=>.inl rfl,λi=>?_⟩⟩
            by_cases G:i=b
            · subst G
              right
              simp[az.fK,az.cb]
            · left
              simp[az.fK,az.cb,G]
        grind
      grind
    grind
theorem r'{β:Type}{b:Bool}{p:Prop}{m:M β}{O:β->Prop}(ad:b=true->p):M.ca (r3 b p m) O<->p/\M.ca m O:=by
 cases b with
 | true=>exact⟨λh=>⟨ad rfl,h⟩,λh=>h.2⟩
 | false=>exact M.kD
def qa(ops:Array Oper)(s:az)(tg:pa):Prop:=∀ p∈tg,∃ b a,s.ax p.1=.hi b a/\kp s.ax ops (some p.2)=some (some b)
theorem af3{j d:Nat}:r4 ops j d=true<->d∈FG ops (some (j,true)):=by
 have key:∀ (x:Option Oper),(match x with | some o=>(match o.dst with | some e=>e == d | none=>false) | none=>false)=true<->d∈(match x with | some o=>o.dst.toList | none=>[]):=by
  grind
 exact key _
theorem qa.gT{s':az}{tg:pa}(h:qa ops s tg)(hs:∀ i,o.dst≠some i->s'.ax i=s.ax i)
  (aw:∀ d k,o.dst=some d->o.guard=some k->∃ b a,s'.ax d=.hi b a/\kp s.ax ops (some k)=some (some b)):qa ops s' (xg ops tg o):=by
 unfold xg;cases a7:o.dst with
 | none=>
  intro p hp;obtain⟨b,a,h1,h2⟩:=h p hp;refine⟨b,a,(hs _ (by grind)).trans h1,?_⟩;rw[<-h2];exact KQ λt _=>hs t (by grind)
 | some d=>
  have congr:∀ k:Nat×Bool,r4 ops k.1 d=false->kp s'.ax ops (some k)=kp s.ax ops (some k):=λk aj=>KQ λt aI=>hs t (by
   rw[a7];intro e;cases e;have:r4 ops k.1 d=true:=af3.2 aI;grind)
  have u0:qa ops s' (tg.filter λp=>p.1 != d&&!r4 ops p.2.1 d):=by
   intro p hp;simp only[List.mem_filter,Bool.and_eq_true,bne_iff_ne,ne_eq,Bool.not_eq_true']at hp;obtain⟨b,a,h1,h2⟩:=h p hp.1;grind
  simp only;split
  ·rename_i k aj;split
   ·omega
   ·rename_i Tl;intro p hp;rcases List.mem_cons.1 hp with rfl | hp
    ·grind
    ·exact u0 p hp
  omega
section
variable {U:dm} {tg:pa} {gk:Option (Nat×Bool)}
theorem CW(hT:qa ops s tg)(aA:∀ k,gk=some k->kp s.ax ops (some k)=some (some true)){x:Operand}(h:xh (aW U s.ax) tg gk x=true):(use (aW U s.ax x)).1:=by
 unfold xh at h;rw[Bool.or_eq_true]at h;rcases h with h | h
 ·exact FD (by grind)
 ·split at h
  ·rename_i t k;obtain⟨p,hp,u4⟩:=List.any_eq_true.1 h;simp only[Bool.and_eq_true,beq_iff_eq]at u4;obtain⟨rfl,h1,h2⟩:=u4;have u4:p.2=k:=Prod.ext h1 h2;obtain⟨b,a,aP,aQ⟩:=hT p hp;rw[u4,aA k rfl]at aQ;cases aQ;have e:aW U s.ax (.tmp p.1)=s.ax p.1:=rfl;rw[e,aP];rfl
  grind
theorem Tm(hT:qa ops s tg)(aA:∀ k,gk=some k->kp s.ax ops (some k)=some (some true))(h:pb (aW U s.ax) tg gk o=true):qU (aW U s.ax) o:=
 λx hx=>CW hT aA (List.all_eq_true.1 h x hx)
theorem Tn(hT:qa ops s tg){c x:Operand}{want:Bool}{oc:Prop}{iP:Bool}(hc:use (aW U s.ax c)=(oc,.val .bool iP))(CX:oc)(h:F3 ops tg c x want=true)(hw:FF want iP=true):(use (aW U s.ax x)).1:=by
 unfold F3 at h;split at h
 ·rename_i c t;obtain⟨p,hp,u4⟩:=List.any_eq_true.1 h;simp only[Bool.and_eq_true,beq_iff_eq]at u4;obtain⟨rfl,h1,rfl⟩:=u4;obtain⟨b,a,aP,aQ⟩:=hT p hp;have e:aW U s.ax (.tmp p.1)=s.ax p.1:=rfl;rw[e,aP];show b=true;unfold r4 at h1;have xw:p.2=(p.2.1,p.2.2):=rfl;rw[xw]at aQ;unfold kp at aQ;have jB:use (s.ax c)=(oc,.val .bool iP):=hc;split at h1
  ·rename_i q8 aD;split at h1
   ·rename_i d aw;have af4:d=c:=by grind
    subst af4;simp only[aD,aw]at aQ;split at aQ
    ·rename_i b0 zr;rw[zr]at jB;simp only[use,Prod.mk.injEq,aF.val.injEq,heq_eq_eq,true_and]at jB;grind
    ·rename_i g0 b0 zr;rw[zr]at jB;simp only[use,Prod.mk.injEq,aF.val.injEq,heq_eq_eq,true_and]at jB;grind
    grind
   grind
  grind
 grind
theorem Gs(hT:qa ops s tg)(aA:∀ k,gk=some k->kp s.ax ops (some k)=some (some true))(h:zC (aW U s.ax) ops tg gk o=true):(bh U T a6 (aW U s.ax) o).cC (k5 λr=>r.bT):=by
 cases ah:o.op with
 | pick c a b=>
  simp only[zC,ah,Bool.and_eq_true,Bool.or_eq_true]at h;obtain⟨h1,h2,h3⟩:=h;unfold bh;rw[ah];simp only;split
  ·rename_i oc iP lJ;have CX:oc:=by have:=CW hT aA h1;grind
   split
   ·split
    ·rename_i y5 av aU;refine .bA ⟨CX,λhv=>?_⟩;have:(use (aW U s.ax a)).1:=by
      rcases h2 with h2 | h2
      ·exact CW hT aA h2
      ·exact Tn hT lJ CX h2 hv
     grind
    ·exact .bJ
   ·split
    ·rename_i y5 av aU;refine .bA ⟨CX,λhv=>?_⟩;have:(use (aW U s.ax b)).1:=by
      rcases h3 with h3 | h3
      ·exact CW hT aA h3
      ·exact Tn hT lJ CX h3 (by subst hv;rfl)
     grind
    ·exact .bJ
   ·exact .bJ
  ·exact .bJ
 | _=>
  simp only[zC,ah]at h;exact Si (Tm hT aA h)
theorem af5(hT:qa ops s tg)(aA:∀ k,gk=some k->kp s.ax ops (some k)=some (some true)){bT c:Prop}{eR r5:aF}{hk xi:List (Nat×bw)}(hw:CE o eR hk=some (xi,r5))(aa:(bh U T a6 (aW U s.ax) o).run s.ae=some ⟨bT,c,eR,hk⟩)
  (h:Lf (aW U s.ax) tg gk o r5=true):(use r5).1:=by
 unfold Lf at h;rw[Bool.or_eq_true]at h;rcases h with h | h
 ·exact FD (by grind)
 ·split at h
  ·rename_i x ah;simp only[bh,ah,bA,ar.bz,Option.some.injEq,eb.mk.injEq]at aa;obtain⟨_,_,rfl,rfl⟩:=aa;simp only[CE,Option.some.injEq,Prod.mk.injEq]at hw;obtain⟨_,rfl⟩:=hw;exact CW hT aA h
  grind
end
theorem az.CY{s:az}{d:Option Nat}{v:aF}{i:Nat}(h:d≠some i):(s.set d v).ax i=s.ax i:=by
 cases d with
 | none=>rfl
 | some d=>simp only[az.set];grind
theorem az.L2{s:az}{d:Nat}{v:aF}:(s.set (some d) v).ax d=v:=by simp[az.set]
theorem az.zy:∀ (l:List (Nat×bw)) (s:az),(s.fK l).ax=s.ax
 | [],_=>rfl
 | p::l,s=>by
  have:=az.zy l (s.cb p.1 p.2);exact this
theorem af6{U:dm}{pr:hJ}{gs:Bool->pr.aq->az}(h:qZ U T a6 Ψ s o=some pr)(aA:pr.Cy=some gs):∀ g y,∃ v,(gs g y).ax=(s.set o.dst (.hi g v)).ax:=by
 have after:∀ (t:af) (fl:List Nat) (v:aF),(qW s o t fl v).ax=(s.set o.dst v).ax:=λt fl v=>by
  unfold qW;split
  ·rfl
  ·cases o.dst<;>rfl
 have dc:∀ {args:List Operand} {c:SC} {pr:hJ} {gs:Bool->pr.aq->az},Cz U s o args c=some pr->pr.Cy=some gs->∀ g y,∃ v,(gs g y).ax=(s.set o.dst (.hi g v)).ax:=by
  intro args c pr gs h aA;unfold Cz at h;split at h
  ·cases h;cases aA;exact λg y=>⟨_,after _ _ _⟩
  grind
 have fc:∀ {t:Nat} {args:List Operand} {pr:hJ} {gs:Bool->pr.aq->az},CA U s o t args=some pr->pr.Cy=some gs->∀ g y,∃ v,(gs g y).ax=(s.set o.dst (.hi g v)).ax:=by
  intro t args pr gs h aA;unfold CA at h;split at h
  ·split at h
   ·cases h;cases aA;exact λg y=>⟨_,after _ _ _⟩
   grind
  grind
 unfold qZ at h;split at h
 ·split at h
  ·split at h
   ·split at h
    ·unfold xf at h;grind
    ·unfold FU at h;grind
    ·split at h
     ·exact dc h aA
     grind
   ·split at h
    ·rename_i aa;cases h;exact fc aa aA
    ·split at h
     ·rename_i aa;cases h;unfold FW xf at aa;grind
     ·unfold FX at h;grind
   grind
  grind
 ·unfold FY at h;grind
 ·unfold F1 at h;grind
 ·unfold F2 at h;grind
 ·unfold CD at h;grind
 grind
theorem vc{x:Operand}{t:Nat}(h:hZ x=some t):x=.tmp t:=by
 cases x<;>simp[hZ]at h;rw[h]
theorem To{o gb kK oU:Oper}{d1 d2:Nat}(h:zD o gb kK=some (oU,d1,d2)):∃ ty m x y,o.op=.mapEntry ty m x/\o.dst=some d1/\gb.op=.extract (.tmp d1) 1/\gb.dst=some d2/\kK.op=.entryStore ty m (.tmp d2) y/\kK.dst=none/\
  oU.op=.mapUpdate ty m x y/\oU.dst=none/\m≠.tmp d1/\m≠.tmp d2/\y≠.tmp d1/\y≠.tmp d2/\o.guard=none/\gb.guard=none/\kK.guard=none:=by
 unfold zD at h;split at h
 ·rename_i ty m x ah;split at h
  ·rename_i e xx;split at h
   ·rename_i mB df aV y axe;split at h
    ·rename_i adm Kc L3 CZ Tp;split at h
     ·rename_i hc;simp only[Option.some.injEq,Prod.mk.injEq]at h;obtain⟨rfl,rfl,rfl⟩:=h;obtain⟨c1,c2,rfl,c4,c5,lA,n_,wU,c9,Gl,af7,c12,af8⟩:=hc;obtain⟨oo,tK⟩:=Option.isSome_iff_exists.1 c4;have e8:=vc tK;have ao:=vc (c5.symm.trans tK);have e1:=vc c1;have e2:=vc c2;subst e1;subst e2;refine⟨mB,m,x,y,ah,L3,xx,CZ,?_,Tp,rfl,Tp,λe=>n_ (by grind),λe=>wU (by grind),λe=>c9 (by grind),λe=>Gl (by grind),Option.isNone_iff_eq_none.1 af7,Option.isNone_iff_eq_none.1 c12,Option.isNone_iff_eq_none.1 af8⟩;grind
     grind
    grind
   grind
  grind
 grind
theorem L4{β:Type}(hT:dz C.P T)(cf:jc C.P a6)(cF:lM C.P C.aM Ψ)(aw:∀ o∈ops.toList,k4 o C.nt=true){k:az->M β}{O:β->Prop}
  (aj:∀ s' a' w',b' C s' a' w'->M.ca (k s') O->Q .normal a' w'):∀ (os:List Oper) (n:Nat) (tg:pa) (s:az) (a:Act) (w:World),ops.toList.drop n=os->qa ops s tg->b' C s a w->M.ca (ma C.aM T a6 Ψ ops os tg s k) O->
   wpOpsIn (dy C.r) 0 C.P ops Q (List.range' n os.length) a w:=by
 intro os;generalize hlen:os.length=len;induction len using Nat.strongRecOn generalizing os with
 | _ len Tq=>
 subst hlen;cases os with
 | nil=>
  intro n tg s a w _ _ aa ao;exact aj s a w aa ao
 | cons o os=>
  have aJ:=Tq os.length (by simp) os rfl;intro n tg s a w aB xy aa ao;have bX:n<ops.toList.length:=by
   grind
  rw[List.drop_eq_getElem_cons bX]at aB;injection aB with p4 hM
  have eG:ops[n]?=some o:=by
   grind
  have jF:o∈ops.toList:=p4 ▸ List.getElem_mem bX;have xz:=aw o jF;have a7:∀ i,o.dst=some i->i<C.nt:=λi G=>by
   have:=xz;simp only[k4,Bool.and_eq_true]at this;grind
  simp only[List.length_cons,List.range'_succ,wpOpsIn,eG];obtain⟨κ,F,eH⟩:=aa;unfold ma at ao;split at ao
  ·rename_i oU d1 d2 sa;cases os with
   | nil=>exact ao.1.elim
   | cons gb os=>
    cases os with
    | nil=>exact ao.1.elim
    | cons kK os=>
     simp only at ao;split at ao
     ·rename_i res fU;obtain⟨ty,m,x,y,f1,f2,f3,f4,f5,f6,f7,f8,f9,f10,f11,f12,g1,dW,g3⟩:=To sa;have Ts:=hM;have B8:n+1<ops.toList.length:=by
       grind
      rw[List.drop_eq_getElem_cons B8]at Ts;injection Ts with af9 Tt
      have af_:n+2<ops.toList.length:=by
       grind
      rw[List.drop_eq_getElem_cons af_]at Tt;injection Tt with axf af'
      have aga:ops[n+1]?=some gb:=by
       grind
      have axg:ops[n+2]?=some kK:=by
       grind
      have CZ:d2<C.nt:=by
       have:=aw gb (af9 ▸ List.getElem_mem B8);simp only[k4,Bool.and_eq_true]at this;grind
      rw[M.kD,M.kD]at ao;have bY:Region.wanted o (yielded ops a.tmps)=true:=by unfold Region.wanted;rw[g1]
      have cy:∀ a':Act,Region.wanted gb (yielded ops a'.tmps)=true:=λa'=>by unfold Region.wanted;rw[dW]
      have eo:∀ a':Act,Region.wanted kK (yielded ops a'.tmps)=true:=λa'=>by unfold Region.wanted;rw[g3]
      have:=afN (Q:=Q) (K:=λa' w'=>wpOpsIn (dy C.r) 0 C.P ops Q (List.range' (n+3) os.length) a' w') hT f1 f2 f3 f4 f5 f6 f7 f8 f9 f10 f11 f12 (a7 d1 f2) CZ fU eH ao.1 ao.2.1
       λa' w' aY=>Tq os.length (by grind) os rfl (n+3) [] _ a' w' af' (λp hp=>by cases hp) aY ao.2.2
      rw[bY];simp only[if_true];refine Oper.wpIn_mono (λbR axh h1=>?_) this;simp only[List.length_cons,List.range'_succ,wpOpsIn,aga,cy,if_true];grind
     ·exact ao.1.elim
  split at ao
  ·exact ao.1.elim
  ·rename_i aA;have axi:o.guard=none:=by
    cases h:o.guard with
    | none=>rfl
    | some p=>
     rw[h]at aA;simp only[kp]at aA;grind
   rw[L0 eH aA];simp only[Option.getD_none,if_true];split at ao
   ·rename_i res fU;rw[r' λad=>(Gs xy (gk:=none) (λk aj=>by cases aj) ad).run s.ae res fU,r' λad=>(zv ad).run s.ae res fU]at ao;refine Oper.wpIn_mono (λa' w' aY=>aJ (n+1) _ _ a' w' hM (xy.gT (λi G=>?_) λd k _ aj=>by grind) aY ao.2.2) (w5 hT cf xz fU a w κ F Q eH ao.1 ao.2.1);unfold az.hW;rw[az.CY G,az.zy]
   ·split at ao
    ·rename_i pr om;obtain⟨jA,p1,l9⟩:=LY hT cf cF a7 om;rw[r' λad=>l9 (KJ ad),M.fJ]at ao;exact jA a w Q _ ⟨κ,F,eH⟩ ao.1 (ao.2.mono λy aO a' w' aY=>aJ (n+1) _ _ a' w' hM (λp hp=>by cases hp) aY aO)
    ·exact ao.1.elim
  ·rename_i g aA;have Gt:∀ k,o.guard=some k->g=true->kp s.ax ops (some k)=some (some true):=λk aj aI=>by grind
   rw[L0 eH aA];simp only[Option.getD_some];split at ao
   ·rename_i bT c agb agc fU;split at ao
    ·rename_i hk eR xA;obtain⟨agd,age⟩:=af0 xA fU;rw[r' λad=>by
      simp only[Bool.and_eq_true]at ad;exact λGu=>⟨(Gs xy (λk aj=>Gt k aj Gu) ad.1).run s.ae _ fU,(zv ad.2.1).run s.ae _ fU,af5 xy (λk aj=>Gt k aj Gu) xA fU ad.2.2⟩]at ao
     have C0:qa ops ((s.fK hk).set o.dst (.hi g (use eR).2)) (xg ops tg o):=xy.gT (λi G=>by rw[az.CY G,az.zy]) λd k aw aj=>⟨g,(use eR).2,by rw[aw,az.L2],by grind⟩
     cases g with
     | true=>
      simp only[if_true];obtain⟨h1,h2,h3⟩:=ao.1 rfl;refine Oper.wpIn_mono (λa' w' aY=>aJ (n+1) _ _ a' w' hM C0 (b'.Ly (av':=.hi true (use eR).2) (agd a' w' aY) a7 λκ F v hv=>⟨λ_=>oX hv h3,λh=>(by cases h)⟩) ao.2) (w5 hT cf xz fU a w κ F Q eH h1 h2)
     | false=>
      simp only[Bool.false_eq_true,if_false];refine⟨λ_ _=>trivial,aJ (n+1) _ _ _ w hM C0 ?_ ao.2⟩;obtain⟨κ',F',agf⟩:=age a w κ F eH;exact⟨κ',F',agf.set (av:=.hi false (use eR).2) a7 ⟨λh=>(by cases h),λ_=>rfl⟩⟩
    ·cases g with
     | true=>
      simp only[if_true]at ao ⊢;rw[M.kD,M.kD]at ao;exact Oper.wpIn_mono (λa' w' aY=>aJ (n+1) _ _ a' w' hM (λp hp=>by cases hp) aY ao.2.2) (w5 hT cf xz fU a w κ F Q eH ao.1 ao.2.1)
     | false=>
      simp only[Bool.false_eq_true,if_false]at ao ⊢;exact⟨λ_ _=>trivial,aJ (n+1) _ _ _ w hM (λp hp=>by cases hp) ⟨κ,F,eH.set (av:=.hi false (SG agc (use agb).2)) a7 ⟨λh=>(by cases h),λ_=>rfl⟩⟩ ao⟩
   ·split at ao
    ·rename_i pr om;obtain⟨jA,p1,l9⟩:=LY hT cf cF a7 om;split at ao
     ·rename_i gs oj;obtain⟨cR,q2⟩:=p1 gs oj;rw[r' λad Gu=>l9 (Tm xy (λk aj=>Gt k aj Gu) ad),M.fJ]at ao;have C0:∀ y,qa ops (gs g y) (xg ops tg o):=λy=>by
       obtain⟨v,hv⟩:=af6 om oj g y;exact xy.gT (λi G=>by rw[hv,az.CY G]) λd k aw aj=>⟨g,v,by rw[hv,aw,az.L2],by grind⟩
      cases g with
      | true=>
       simp only[if_true];exact jA a w Q _ ⟨κ,F,eH⟩ (ao.1 rfl) (ao.2.mono λy aO a' w' aY=>aJ (n+1) _ _ a' w' hM (C0 y) (cR y a' w' aY) aO)
      | false=>
       simp only[Bool.false_eq_true,if_false];exact⟨λ_ _=>trivial,aJ (n+1) _ _ _ w hM (C0 pr.d) (q2 a w ⟨κ,F,eH⟩) (by
        have h:=ao.2;simp only[b7,Bool.false_eq_true,if_false]at h;exact h.2 pr.d rfl)⟩
     ·cases g with
      | true=>
       simp only[if_true]at ao ⊢;rw[M.kD,M.fJ]at ao;exact jA a w Q _ ⟨κ,F,eH⟩ ao.1 (ao.2.mono λy aO a' w' aY=>aJ (n+1) _ _ a' w' hM (λp hp=>by cases hp) aY aO)
      | false=>
       simp only[Bool.false_eq_true,if_false]at ao ⊢;exact⟨λ_ _=>trivial,aJ (n+1) _ _ _ w hM (λp hp=>by cases hp) ⟨κ,F,eH.set (av:=.hi false (use ((pr.st pr.d).ax (o.dst.getD 0))).2) a7 ⟨λh=>(by cases h),λ_=>rfl⟩⟩ ao⟩
    ·exact ao.1.elim
end
end Go.Fer
namespace Go.Fer
open Go.RowKit
section
variable {C:bS} {T:Nat->af} {a6:Nat->Option aL} {s:az} {res:eb}
theorem agh{P:Program}:∀ (t:af),t.kH=true->∀ {F F':Nat->Prop} {w w':World} {cs:List Value} {x:t.ai},bu P t F w cs x->bu P t F' w' cs x:=by
 intro t;induction t with
 | bool=>intro _ F F' w w' cs x h;exact h
 | int k=>intro _ F F' w w' cs x h;exact h
 | str=>intro _ F F' w w' cs x h;exact h
 | cA=>intro hc;cases hc
 | st t aJ=>intro hc F F' w w' cs x h;simp only[bu]at h ⊢;exact aJ hc h
 | ay a b fk eu=>
  intro hc F F' w w' cs x h;simp only[af.kH,Bool.and_eq_true]at hc;simp only[bu]at h ⊢;grind
 | slice e aJ=>intro hc;cases hc
 | array n e aJ=>intro hc;cases hc
 | br e aJ=>intro hc;cases hc
 | map k v wD wF=>intro hc;cases hc
 | fn a b fk eu=>intro hc;cases hc
 | b9 a aJ=>intro hc;cases hc
 | dT=>intro hc;cases hc
theorem Tu{P:Program}{t:af}(h:t.kH=true){F F':Nat->Prop}{w w':World}{v:Value}{x:t.ai}(hv:dU P t F w v x):dU P t F' w' v x:=⟨hv.1,agh t h hv.2⟩
theorem Gv(a:Act){i j:Nat}(h:i≠j)(v u:Value):(a.put (some i) v).put (some j) u=(a.put (some j) u).put (some i) v:=by
 simp only[Act.put];rw[Array.setIfInBounds_comm _ _ h]
theorem Gw{P:Program}{ty k3 zm:TypeId}(G:P.underlying ty=some (.map k3 zm)){r:Nat}{ms:Array MapEntry}{clk:Nat}{w:World}(hw:w.heap[r]?=some (.map ms clk)){key u:Value}{f:Option (Nat×Value)}
  (dJ:(Instr.checkKey ms.isEmpty 10000 k3 key).run P w=.ok () w) (au:(Instr.findKey k3 key ms.toList).run P w=.ok f w) (hu:(∃ i,f=some (i,u))\/(f=none/\(zeroValue zm).run P w=.ok u w)) :
  (Instr.lookup ty (.map (some r)) key false).run P w=.ok u w:=by
 have eG:(getObj r).run P w=.ok (.map ms clk) w:=by simp[getObj,Sem.run,hw]
 rcases hu with⟨i,rfl⟩ | ⟨rfl,ba⟩
 ·simp only[Instr.lookup,Sem.run_bind,dk G,Result.andThen_ok,Sem.run_pure,eG,dJ,au];rfl
 ·simp only[Instr.lookup,Sem.run_bind,dk G,Result.andThen_ok,Sem.run_pure,eG,dJ,au,ba];rfl
theorem agi(hT:dz C.P T){gg ho oU:Oper}{ty:TypeId}{m x y:Operand}(gh:gg.op=.lookup ty m x false)(j6:ho.op=.mapEntry ty m x)(hL:oU.op=.mapUpdate ty m x y){du:az}(qQ:du.ae=s.ae)
  (pf:aW C.aM du.ax m=aW C.aM s.ax m) (Fs:aW C.aM du.ax x=aW C.aM s.ax x) (h:(bh C.aM T a6 (aW C.aM du.ax) oU).run du.ae=some res)
  {a:Act} {w:World} {κ:Nat->bo} {F:Nat->Prop} (aa:bc C s a w κ F) (L5:(use (aW C.aM s.ax m)).1) (L6:(use (aW C.aM s.ax x)).1) :
  ∃ u n wE,∀ a':Act,a'.eval m=a.eval m->a'.eval x=a.eval x->
   (execOp a'.eval gg).run C.P w=.ok (.value u) w/\(execOp a'.eval gg).run C.P wE=.ok (.value u) wE/\(execOp a'.eval ho).run C.P w=.ok (.value (.tuple #[u,goInt n])) wE:=by
 simp only[bh,hL,qJ,pf,Fs,qQ]at h;split at h
 ·rename_i k v aI;obtain⟨k3,zm,G,mF,gR⟩:=(hT.bU aI (by simp)).mp;obtain⟨inf,mb,i1,i2,i3,i4,i5,i6⟩:=kk gR.kj;split at h
  ·rename_i xv;split at h
   ·rename_i b g tu;simp only[ar.eM,Option.bind_eq_some_iff,ar.run_bind,ar.eL,ar.bz]at h;obtain⟨⟨dr,n7⟩,hx,⟨mG,n8⟩,aO,h⟩:=h;split at h
    ·rename_i aA;obtain⟨aA,_⟩:=aA;split at h
     ·rename_i k' hS es ad;simp only[Option.map_eq_some_iff]at h;obtain⟨R4,o0,rfl⟩:=h;obtain⟨e,rfl⟩:=kF o0;cases e;have ao:bl C.P s.ae κ F w (use (aW C.aM s.ax m)).2 (a.eval m):=cv aa m rfl L5;rw[tu]at ao;have je:=ao.2 aA.symm (by rw[ad];rfl);have e7:k.kH=true/\k.j0<=100:=by simpa [td]using xv
      have tv:=B0 aa hx (cv aa x rfl L6);have Gx:∀ (F':Nat->Prop) w',dU C.P k F' w' (a.eval x) dr:=λF' w'=>Tu e7.1 tv;have aN:=aa.bq b;unfold cj at aN;rw[ad]at aN;obtain⟨ms,clk,hw,rY⟩:=aN;have dJ:∀ em w',(Instr.checkKey em 10000 k3 (a.eval x)).run C.P w'=.ok () w':=λem w'=>(Ck (em:=em) (F:=λ_=>True) k 10000 e7.1 (by omega)).1 mF (Gx _ w');have Tv:=rY.es;have Tl:∀ (j:Nat) (e:MapEntry) (p:k.ai×v.ai),ms.toList[j]?=some e->es[j]?=some p->∀ (F':Nat->Prop) w',dU C.P k F' w' e.key p.1:=λj e p h1 h2 F' w'=>Tu e7.1 (Tv.2 j e p h1 h2).1;obtain⟨f,cR,q2⟩:=w1 (F:=λ_=>True) (w:=w) (β:=v.ai) (xs:=es) (es:=ms.toList) xv mF (Gx _ w) Tv.1 (λj e p h1 h2=>Tl j e p h1 h2 _ w);have eG:(getObj (κ b).ae).run C.P w=.ok (.map ms clk) w:=by simp[getObj,Sem.run,hw]
      obtain⟨g_,Kv,Fx,R5⟩:=rY;have bX:(κ b).ae<w.heap.size:=(Array.getElem?_eq_some_iff.1 hw).1;have ba:∀ w',(zeroValue zm).run C.P w'=.ok mb w':=λw'=>qK i1 i4;have pg:∀ (a':Act) (w':World) (u:Value),a'.eval m=a.eval m->a'.eval x=a.eval x->(Instr.lookup ty (.map (some (κ b).ae)) (a.eval x) false).run C.P w'=.ok u w'->(execOp a'.eval gg).run C.P w'=.ok (.value u) w':=by
       intro a' w' u e1 e2 aY;simp only[execOp,gh,e1,e2,je,Sem.run_bind,aY,Result.andThen_ok,Sem.run_pure]
      have agj:∀ q:k.ai,gn k dr q=true<->dr=q:=λq=>Kr k e7.1 dr q;rcases q2 with⟨rfl,dY⟩ | ⟨j,e,p,g1,dW,g3,g4,rfl⟩
      ·let bY:World:={ w with heap:=w.heap.setIfInBounds (κ b).ae (.map (ms.push { key:=a.eval x,val:=mb,born:=clk }) (clk+1)) }
       have lH:bY.heap[(κ b).ae]?=some (.map (ms.push { key:=a.eval x,val:=mb,born:=clk }) (clk+1)):=by grind
       obtain⟨iv,b3,cr⟩:=w1 (F:=λ_=>True) (w:=bY) (β:=v.ai) (xs:=es++[(dr,v.cP)]) (es:=(ms.push { key:=a.eval x,val:=mb,born:=clk }).toList) xv mF (Gx _ bY) (by grind) (λj e p h1 h2=>by
        grind)
       have q9:∃ i,iv=some (i,mb):=by
        rcases cr with⟨_,dX⟩ | ⟨j,e,p,eh,du,ek,oq,rfl⟩
        ·have:=dX (dr,v.cP) (by simp);grind
        ·by_cases aD:j<es.length
         ·grind
         grind
       refine⟨mb,clk,bY,λa' e1 e2=>⟨pg a' w mb e1 e2 (Gw G hw (dJ _ w) cR (.inr ⟨rfl,ba w⟩)),pg a' bY mb e1 e2 (Gw G lH (dJ _ bY) b3 (.inl q9)),?_⟩⟩;simp only[execOp,j6,e1,e2,je,Instr.mapEntry,Sem.run_bind,dk G,Result.andThen_ok,eG,dJ,cR,ba,rX hw,Sem.run_pure];rfl
      ·have aD:j<es.length:=(List.getElem?_eq_some_iff.1 dW).1;have w2:j<ms.size:=by omega
       have Kx:ms[j]=e:=by
        grind
       obtain⟨jf,bY,t1,t2,t3⟩:=Kt C.P w e.key (a.eval x);have lH:bY.heap[(κ b).ae]?=some (.map ms clk):=by rcases t3 with rfl | rfl<;>exact hw
       have Th:(κ b).ae<bY.heap.size:=(Array.getElem?_eq_some_iff.1 lH).1;have nD:((ms[j]?).map (·.key)).getD (a.eval x)=e.key:=by
        grind
       have LX:((ms[j]?).map (λx=>(x.born:Int))).getD 0=(ms[j].born:Int):=by grind
       rw[Nat.zero_add]at cR;have adX:dr=p.1:=(agj p.1).1 g3;let cy:World:={ bY with heap:=bY.heap.setIfInBounds (κ b).ae (.map (ms.modify j λe=>{ e with key:=jf }) clk) }
       have gD:cy.heap[(κ b).ae]?=some (.map (ms.modify j λe=>{ e with key:=jf }) clk):=by grind
       have uT:∀ (F':Nat->Prop) w',dU C.P k F' w' jf p.1:=λF' w'=>by
        grind
       have zj:∀ i,(ms.modify j λe=>{ e with key:=jf }).toList[i]?=if i=j then some { e with key:=jf } else ms.toList[i]?:=λi=>by
        grind
       obtain⟨iv,b3,cr⟩:=w1 (F:=λ_=>True) (w:=cy) (β:=v.ai) (xs:=es) (es:=(ms.modify j λe=>{ e with key:=jf }).toList) xv mF (Gx _ cy) (by grind) (λi aV p' h1 h2=>by
        rw[zj]at h1;grind)
       have q9:∃ i,iv=some (i,e.val):=by
        rcases cr with⟨_,dX⟩ | ⟨i,aV,p',eh,du,ek,oq,rfl⟩
        ·have:=dX p (List.mem_of_getElem? dW);rw[g3]at this;cases this
        ·have zn:i=j:=by
          rcases Nat.lt_trichotomy i j with h | h | h
          ·have:=g4 i p' h du;rw[ek]at this;cases this
          ·exact h
          ·have:=oq j p h dW;rw[g3]at this;cases this
         subst zn;rw[zj,if_pos rfl]at eh;cases eh;exact⟨_,rfl⟩
       refine⟨e.val,ms[j].born,cy,λa' e1 e2=>⟨pg a' w e.val e1 e2 (Gw G hw (dJ _ w) cR (.inl ⟨_,rfl⟩)),pg a' cy e.val e1 e2 (Gw G gD (dJ _ cy) b3 (.inl q9)),?_⟩⟩;simp only[execOp,j6,e1,e2,je,Instr.mapEntry,Sem.run_bind,dk G,Result.andThen_ok,eG,dJ,cR];rw[nD,t1];simp only[Result.andThen_ok,rX lH,Sem.run_pure,LX];rfl
     grind
    grind
   ·cases h
  ·cases h
 ·cases h
end
end Go.Fer
namespace Go.Fer
open Go.RowKit
section
variable {C:bS} {T:Nat->af} {a6:Nat->Option aL} {Ψ:Nat->Option eN} {s:az} {o:Oper} {Q:Exit->Act->World->Prop} {ops:Array Oper}
theorem M.agk{aq:Type}{m:M aq}(h:m.Cx){d x:aq}(hx:m.bD x):x=m.val d:=by
 unfold M.val;have he:∃ x,m.bD x:=⟨x,hx⟩
 rw[dif_pos he];exact h _ _ hx he.choose_spec
theorem Tw(cf:jc C.P a6)(cF:lM C.P C.aM Ψ):jc C.P (FT a6 Ψ):=by
 intro k c h;unfold FT at h;split at h
 ·rename_i dc LZ;split at h
  ·rename_i aw;cases h;simp only[Bool.and_eq_true,Bool.not_eq_true']at aw;have h:=cF k _ LZ;obtain⟨h1,h2⟩:hR C.P k dc.ts dc.tr dc.sh/\(dc.dx=true->∀ x,(dc.sh x).Cx):=h;exact⟨λ_=>h1.yY λx hs=>⟨hs,λy aO=>M.agk (h2 aw.1 x) aO⟩,λhe=>by rw[show ny dc.fc.tr=ny dc.tr from rfl,aw.2]at he;cases he⟩
  grind
 ·rename_i c' hc;cases h;have h:ny c.tr=true/\Ch C.P k c:=cF k _ hc;exact⟨λhe=>(by rw[h.1]at he;cases he),λ_=>h.2⟩
 ·cases h
 ·exact cf k c h
theorem Tx{β:Type}{m:M β}{O:β->Prop}:∀ (l:List Prop),M.ca (CF l m) O->(∀ p∈l,p)/\M.ca m O:=by
 intro l;induction l with
 | nil=>intro h;exact⟨λp hp=>(by cases hp),h⟩
 | cons p l aJ=>
  intro h;simp only[CF]at h;rw[M.kD]at h;grind
theorem Ty{cR q2:Bool}{bT c:Prop}(h1:cR=true->bT)(h2:q2=true->c)(h:∀ p∈Cr cR q2 bT c,p):bT/\c:=by
 unfold Cr at h;constructor
 ·cases cR with
  | true=>grind
  | false=>simp_all
 ·cases q2 with
  | true=>grind
  | false=>simp_all
theorem Tz(hT:dz C.P T)(cf:jc C.P a6)(aw:k4 o C.nt=true){r:ez}(h:u3 C.aM T a6 ops s o=some r)(hc:∀ p∈r.cs,p){a:Act}{w:World}(aa:b' C s a w){K:Act->World->Prop}
  (iC:∀ a' w',b' C (r.hX s) a' w'->K a' w') :
  if Region.wanted o (yielded ops a.tmps) then o.wpIn (dy C.r) 0 C.P a w K Q else (∀ f,o.about C.P w a.eval=some f->(dy C.r).fn f)/\K (a.put o.dst undef) w:=by
 have a7:∀ i,o.dst=some i->i<C.nt:=λi G=>by
  have:=aw;simp only[k4,Bool.and_eq_true]at this;grind
 obtain⟨κ,F,eH⟩:=aa;unfold u3 at h;split at h
 ·cases h
 ·rename_i g aA;rw[L0 eH aA];split at h
  ·cases h
  ·rename_i res fU;split at h
   ·cases h;simp only[Option.getD_none,if_true];obtain⟨h1,h2⟩:=Ty (λad=>(Sj ad).run s.ae res fU) (λad=>(zv ad).run s.ae res fU) hc;exact Oper.wpIn_mono iC (w5 hT cf aw fU a w κ F Q eH h1 h2)
   ·rename_i b;split at h
    ·rename_i xA;cases h;have hc:∀ p∈Cr (r0 (aW C.aM s.ax) o&&(mJ (aW C.aM s.ax) o&&!res.eR.zu)) true (b=true->res.bT/\(res.c/\(use res.eR).1)) True,p:=hc;obtain⟨h1,_⟩:=Ty (λad=>by
      simp only[Bool.and_eq_true,Bool.not_eq_true']at ad;exact λ_=>⟨(Sj ad.1).run s.ae _ fU,(zv ad.2.1).run s.ae _ fU,FD ad.2.2⟩) (λ_=>trivial) hc
     obtain⟨bT,c,eR,hk⟩:=res;simp only at xA;subst xA;cases b with
     | true=>
      simp only[Option.getD_some,if_true];obtain⟨h1,h2,h3⟩:=h1 rfl;refine Oper.wpIn_mono (λa' w' aY=>iC a' w' ?_) (w5 hT cf aw fU a w κ F Q eH h1 h2);exact b'.Ly (av':=.hi true (use eR).2) aY a7 λκ F v hv=>⟨λ_=>oX hv h3,λh=>(by cases h)⟩
     | false=>
      simp only[Option.getD_some,Bool.false_eq_true,if_false];exact⟨λ_ _=>trivial,iC _ _ ⟨κ,F,eH.set (av:=.hi false (use eR).2) a7 ⟨λh=>(by cases h),λ_=>rfl⟩⟩⟩
    grind
theorem TA(cl:List (List Nat)):∀ n,zF cl n<=n/\∀ j,zF cl n<=j->j<n->∀ i,i<j->i∈cl.getD j []
 | 0=>⟨Nat.le_refl _,λj _ h=>by omega⟩
 | n+1=>by
  unfold zF;split
  ·rename_i h;obtain⟨h1,h2⟩:=TA cl n;refine⟨by omega,λj aD L7 i G=>?_⟩;by_cases e:j=n
   ·simp_all
   grind
  grind
theorem agl{n:Nat}(q_:Cu ops.toList=true)(agm:∀ j,n<=j->j<ops.size->∀ i,i<j->i∈(h_ ops.toList).getD j []):∀ (k j bZ:Nat) (listed:Array Bool) (a:Act) (w:World),n<=j->j+k=ops.size->listed.size=ops.size->
  (∀ i,listed.getD i false=decide (i<j))->k<=bZ->wpOpsIn (dy C.r) 0 C.P ops Q (List.range' j k) a w->wpAnyIn (dy C.r) 0 C.P .any ops Q bZ listed a w:=by
 intro k;induction k with
 | zero=>
  intro j bZ listed a w agn ago bV an au h;have aa:∀ i,i ∉ Region.ready .any ops listed:=λi G=>by
   rw[mem_ready]at G;grind
  have iD:Region.ready .any ops listed=[]:=List.eq_nil_iff_forall_not_mem.2 aa;cases bZ with
  | zero=>exact⟨iD,h⟩
  | succ bZ=>exact⟨λ_=>h,λi G=>absurd G (aa i)⟩
 | succ k aJ=>
  intro j bZ listed a w agn ago bV an au h;have aD:j<ops.size:=by omega
  cases bZ with
  | zero=>omega
  | succ bZ=>
   have qb:∀ q o,ops[q]?=some o->listed.getD q false=true->∀ i∈hY o,listed.getD i false=true:=λq o ah bf i G=>by
    rw[an]at bf ⊢;have bf:q<j:=by grind
    have:=List.all_eq_true.1 q_ q (by grind);grind
   have agp:∀ i,i∈Region.ready .any ops listed<->i=j:=λi=>by
    constructor
    ·intro G;rw[mem_ready]at G;obtain⟨h0,o,ah,Gy⟩:=G;have hin:i<ops.size:=(Array.getElem?_eq_some_iff.1 ah).1;have C2:listed.getD i false=false:=by
      grind
     rw[an]at C2;have zo:j<=i:=by grind
     by_cases e:i=j
     ·exact e
     ·exfalso;have sb:∀ k∈hY o,listed.getD k false=true:=by
       intro k aj;obtain⟨e,he,vd⟩:=List.mem_filterMap.1 aj;grind
      have C3:∀ k∈(h_ ops.toList).getD i [],listed.getD k false=true\/k=i:=by
       intro k aj;refine w_ (p:=λj=>listed.getD j false=true\/j=i) ops.toList [] (λj i G=>by grind) (λj hF j8 k aj aD=>?_) i k aj (.inr rfl);have k8:ops[j]?=some hF:=by grind
       rcases (by simp_all:listed.getD j false=true\/j=i) with aD | aD
       ·exact .inl (qb j hF k8 aD k aj)
       ·subst aD;rw[ah]at k8;cases k8;exact .inl (sb k aj)
      grind
    ·rintro rfl;rw[mem_ready];refine⟨?_,ops[i],by simp,λe he ad=>?_⟩
     ·grind
     ·have hin:e.on∈hY ops[i]:=List.mem_filterMap.2 ⟨e,by grind,by grind⟩;have:=List.all_eq_true.1 q_ i (by grind);grind
   refine⟨λaa=>?_,λi G=>?_⟩
   ·simp_all
   ·obtain rfl:=(agp i).1 G;have eG:ops[i]?=some ops[i]:=by simp
    rw[List.range'_succ]at h;simp only[wpOpsIn,eG]at h;have next:∀ a w,wpOpsIn (dy C.r) 0 C.P ops Q (List.range' (i+1) k) a w->wpAnyIn (dy C.r) 0 C.P .any ops Q bZ (listed.setIfInBounds i true) a w:=λa w cB=>by
     refine aJ (i+1) bZ _ a w (by omega) (by omega) (by grind) (λq=>?_) (by omega) cB;by_cases e:q=i
     ·simp_all
     ·rw[getD_set_ne false (Ne.symm e),an,decide_eq_decide];omega
    unfold wpOpIn;rw[eG];simp only;split
    ·rename_i hw;rw[if_pos hw]at h;exact Oper.wpIn_mono next h
    grind
theorem agq(hT:dz C.P T)(cf:jc C.P a6)(aw:∀ o∈ops.toList,k4 o C.nt=true){l:List ez}{s':az}(hs:w6 C.aM T a6 ops ops.toList s=some (l,s'))(ct:zx ops.toList l=true)
  (hc:∀ r∈l,∀ p∈r.cs,p) (tL:∀ a' w',b' C s' a' w'->Q .normal a' w'):∀ (bZ:Nat) (listed:Array Bool) (a:Act) (w:World),listed.size=ops.size->
   (∀ j o,ops[j]?=some o->listed.getD j false=true->∀ i∈hY o,listed.getD i false=true)->((List.range ops.size).filter λj=>!listed.getD j false).length<=bZ->
   b' C (ji l s λj=>listed.getD j false) a w->wpAnyIn (dy C.r) 0 C.P .any ops Q bZ listed a w:=by
 obtain⟨hlen,rR,C4⟩:=Sr _ _ hs;simp only[zx,Bool.and_eq_true]at ct;obtain⟨q_,L8⟩:=ct;have agr:∀ j o,ops[j]?=some o->∀ i∈hY o,i<j:=by
  intro j o ah i G;have aD:j<ops.toList.length:=by
   grind
  have:=List.all_eq_true.1 q_ j (by grind);grind
 have ags:∀ i j x y,i<j->l[i]?=some x->l[j]?=some y->((h_ ops.toList).getD j []).contains i=true\/x.apart y=true:=by
  intro i j x y zn G aD;have zR:j<l.length:=(List.getElem?_eq_some_iff.1 aD).1;have:=List.all_eq_true.1 L8 j (by grind);grind
 have C5:∀ listed:Array Bool,listed.size=ops.size->Region.ready .any ops listed=[]->∀ j,j<ops.size->listed.getD j false=true:=by
  intro listed bV aa j;induction j using Nat.strongRecOn with
  | _ j aJ=>
   intro aD;cases an:listed.getD j false with
   | true=>rfl
   | false=>
    exfalso;have jF:j∈Region.ready .any ops listed:=by
     rw[mem_ready];refine⟨?_,ops[j],by simp,λe he ad=>?_⟩
     ·grind
     ·have hin:e.on∈hY ops[j]:=List.mem_filterMap.2 ⟨e,by grind,by grind⟩;grind
    grind
 have nL:∀ (listed:Array Bool) (a:Act) (w:World),listed.size=ops.size->Region.ready .any ops listed=[]->b' C (ji l s λj=>listed.getD j false) a w->Q .normal a w:=by
  intro listed a w bV aa j5;have eJ:=C5 listed bV aa;refine tL a w ?_;have:ji l s (λj=>listed.getD j false)=s':=by
   rw[rR];unfold ji;rw[List.filter_eq_self.2 λp hp=>?_,Cv];obtain⟨_,h2⟩:=zz hp;grind
  grind
 intro bZ;induction bZ with
 | zero=>
  intro listed a w bV _ L9 j5;have aa:Region.ready .any ops listed=[]:=by
   cases aa:Region.ready .any ops listed with
   | nil=>rfl
   | cons j axj=>
    exfalso;have jF:j∈Region.ready .any ops listed:=by grind
    rw[mem_ready]at jF;obtain⟨h0,o,ah,_⟩:=jF;have aD:=(Array.getElem?_eq_some_iff.1 ah).1;have:j∈(List.range ops.size).filter λj=>!listed.getD j false:=by
     grind
    grind
  exact⟨aa,nL listed a w bV aa j5⟩
 | succ bZ aJ=>
  intro listed a w bV qb L9 j5;refine⟨λaa=>nL listed a w bV aa j5,λi G=>?_⟩;rw[mem_ready]at G;obtain⟨h0,o,ah,Gy⟩:=G;have hin:i<ops.size:=(Array.getElem?_eq_some_iff.1 ah).1;have C2:listed.getD i false=false:=by
   grind
  have jF:o∈ops.toList:=by
   grind
  have sb:∀ k∈hY o,listed.getD k false=true:=by
   intro k aj;obtain⟨e,he,vd⟩:=List.mem_filterMap.1 aj;grind
  obtain⟨r,aa,fF⟩:=C4 i o (by grind);have agt:∀ j k,k∈(h_ ops.toList).getD j []->listed.getD j false=true->listed.getD k false=true:=by
   refine w_ (p:=λj=>listed.getD j false=true) ops.toList [] (λj i G=>by grind) λj hF j8 k aj aD=>?_;exact qb j hF (by grind) (by simpa using aD) k aj
  have C3:∀ k∈(h_ ops.toList).getD i [],listed.getD k false=true\/k=i:=by
   intro k aj;refine w_ (p:=λj=>listed.getD j false=true\/j=i) ops.toList [] (λj i G=>by grind) (λj hF j8 k aj aD=>?_) i k aj (.inr rfl);have k8:ops[j]?=some hF:=by grind
   rcases (by simpa using aD:listed.getD j false=true\/j=i) with aD | aD
   ·exact .inl (qb j hF k8 aD k aj)
   ·subst aD;rw[ah]at k8;cases k8;exact .inl (sb k aj)
  have gq:∀ j x,j<i->l[j]?=some x->listed.getD j false=false->x.apart r=true:=by
   grind
  have tC:∀ j x,i<j->l[j]?=some x->listed.getD j false=true->r.apart x=true:=by
   grind
  obtain⟨aP,aQ,bB⟩:=Sn (s:=s) (f:=λj=>listed.getD j false) aa C2 gq tC;have L_:=Ss fF aP aQ;unfold wpOpIn;rw[ah];refine Tz hT cf (aw o jF) L_ (hc r (List.mem_of_getElem? aa)) j5 λa' w' aY=>?_;have eG:∀ j,(listed.setIfInBounds i true).getD j false=if j=i then true else listed.getD j false:=by
   intro j;by_cases e:j=i
   ·subst e;rw[if_pos rfl,Array.getD_eq_getD_getElem?,Array.getElem?_setIfInBounds_self_of_lt (by omega)];rfl
   ·rw[if_neg e,getD_set_ne false (Ne.symm e)]
  refine aJ _ a' w' (by grind) (λj hF j8 aD k aj=>?_) ?_ ?_
  ·rw[eG]at aD ⊢;split
   ·rfl
   ·split at aD
    ·rename_i e;subst e;rw[ah]at j8;cases j8;exact sb k aj
    ·exact qb j hF j8 aD k aj
  ·have bX:((List.range ops.size).filter λj=>!(listed.setIfInBounds i true).getD j false).length<((List.range ops.size).filter λj=>!listed.getD j false).length:=by
    have e1:(List.range ops.size).filter (λj=>!(listed.setIfInBounds i true).getD j false)=((List.range ops.size).filter λj=>!listed.getD j false).filter λj=>decide (j≠i):=by
     rw[List.filter_filter];apply List.filter_congr;intro j _;rw[eG];simp
    rw[e1];have Ma:i∈(List.range ops.size).filter λj=>!listed.getD j false:=by
     grind
    exact List.length_filter_lt_length_iff_exists.2 ⟨i,Ma,by simp⟩
   omega
  ·have:ji l s (λj=>(listed.setIfInBounds i true).getD j false)=r.hX (ji l s λj=>listed.getD j false):=by
    rw[<-bB];congr 1;funext j;grind
   grind
def Gz(n:Nat)(l b e x:Bool)(listed:Array Bool):Prop:=∀ i,listed.getD i false=(decide (i<n)||(l&&decide (i=n))||(b&&decide (i=n+1))||(e&&decide (i=n+2))||(x&&decide (i=n+3)))
def me(a:Act)(dL fv d1 d2:Nat)(u vB vE vX:Value)(l b e x:Bool):Act:=
 let bR:=if l=true then a.put (some dL) u else a
 let a2:=if b=true then bR.put (some fv) vB else bR
 let a3:=if e=true then a2.put (some d1) vE else a2
 if x=true then a3.put (some d2) vX else a3
theorem agu(a:Act)(d:Option Nat)(v:Value):(a.put d v).tmps.size=a.tmps.size:=by cases d<;>simp[Act.put]
theorem agv(a:Act)(dL fv d1 d2:Nat)(u vB vE vX:Value)(l b e x:Bool):(me a dL fv d1 d2 u vB vE vX l b e x).tmps.size=a.tmps.size:=by
 unfold me;cases l<;>cases b<;>cases e<;>cases x<;>simp[agu]
theorem TB{a:Act}{dL fv d1 d2:Nat}{u vB vE vX:Value}{l b e x:Bool}{y:Operand}(h1:y≠.tmp dL)(h2:y≠.tmp fv)(h3:y≠.tmp d1)(aT:y≠.tmp d2):(me a dL fv d1 d2 u vB vE vX l b e x).eval y=a.eval y:=by
 unfold me;cases l<;>cases b<;>cases e<;>cases x<;>simp[zP,h1,h2,h3,aT]
theorem C6{o:Oper}{a:Act}{w w':World}{K:Act->World->Prop}{v:Value}(aw:∀ c,o.op≠.defer c)(h:(execOp a.eval o).run C.P w=.ok (.value v) w')(aj:o.wpIn (dy C.r) 0 C.P a w K Q):K (a.put o.dst v) w':=by
 have:=aj.2;rw[y8 aw,h]at this;exact this
theorem agw{n:Nat}(TC:ops.size=n+5)(q_:Cu ops.toList=true){gg h' ho iz lK:Oper}(xB:ops[n]?=some gg)(vf:ops[n+1]?=some h')(zS:ops[n+2]?=some ho)(C7:ops[n+3]?=some iz)(C8:ops[n+4]?=some lK)
  (C9:gg.guard=none) (C_:h'.guard=none) (GA:ho.guard=none) (GB:iz.guard=none) (GC:lK.guard=none) (C':∀ c,gg.op≠.defer c) (GD:∀ c,h'.op≠.defer c) (GF:∀ c,ho.op≠.defer c) (GG:∀ c,iz.op≠.defer c)
  (gq:∀ q,q<5->∀ i,i<n->i∈(h_ ops.toList).getD (n+q) []) (Mb:n∈(h_ ops.toList).getD (n+1) []) (TD:n+2∈(h_ ops.toList).getD (n+3) []) (zT:∀ q,q<4->n+q∈(h_ ops.toList).getD (n+4) [])
  (TE:∀ i∈hY ho,i<n) (TF:∀ i∈hY iz,i<n\/i=n+2)
  {dL fv d1 d2:Nat} (sc:gg.dst=some dL) (cU:h'.dst=some fv) (Da:ho.dst=some d1) (GH:iz.dst=some d2) (_n1:dL≠fv) (dB:dL≠d1) (iu:dL≠d2) (n4:fv≠d1) (Db:fv≠d2)
  {a:Act} {w wE:World} {u vB vE vX:Value}
  (TG:∀ b e x,(execOp (me a dL fv d1 d2 u vB vE vX false b e x).eval gg).run C.P (if e=true then wE else w)=.ok (.value u) (if e=true then wE else w))
  (TH:∀ e x,(execOp (me a dL fv d1 d2 u vB vE vX true false e x).eval h').run C.P (if e=true then wE else w)=.ok (.value vB) (if e=true then wE else w))
  (TI:∀ l b x,(execOp (me a dL fv d1 d2 u vB vE vX l b false x).eval ho).run C.P w=.ok (.value vE) wE)
  (TJ:∀ l b,(execOp (me a dL fv d1 d2 u vB vE vX l b true false).eval iz).run C.P wE=.ok (.value vX) wE)
  (h:wpOpsIn (dy C.r) 0 C.P ops Q (List.range' n 5) a w):∀ (bZ:Nat) (listed:Array Bool),listed.size=ops.size->(∀ i,listed.getD i false=decide (i<n))->5<=bZ->wpAnyIn (dy C.r) 0 C.P .any ops Q bZ listed a w:=by
 let aK:=me a dL fv d1 d2 u vB vE vX;let W:=λe:Bool=>if e=true then wE else w
 have wt:∀ {o:Oper},o.guard=none->∀ a':Act,Region.wanted o (yielded ops a'.tmps)=true:=λh a'=>by unfold Region.wanted;rw[h]
 have GI:lK.wpIn (dy C.r) 0 C.P (aK true true true true) wE (λa' w'=>Q .normal a' w') Q:=by
  have eP:List.range' n 5=[n,n+1,n+2,n+3,n+4]:=rfl;rw[eP]at h;simp only[wpOpsIn,xB,vf,zS,C7,C8,wt C9,wt C_,wt GA,wt GB,wt GC,if_true]at h;have h1:=C6 (a:=aK false false false false) (w:=w) C' (TG false false false) h;rw[sc]at h1;have h2:=C6 (a:=aK true false false false) (w:=w) GD (TH false false) h1;rw[cU]at h2;have h3:=C6 (a:=aK true true false false) (w:=w) GF (TI true true false) h2;rw[Da]at h3;have aT:=C6 (a:=aK true true true false) (w:=wE) GG (TJ true true) h3;rw[GH]at aT;exact aT
 have agx:∀ {l b e x:Bool} {listed:Array Bool},Gz n l b e x listed->(b=true->l=true)->(x=true->e=true)->∀ q o,ops[q]?=some o->listed.getD q false=true->∀ i∈hY o,listed.getD i false=true:=by
  intro l b e x listed bd ad hx q o ah bf i G;have zU:q<ops.size:=(Array.getElem?_eq_some_iff.1 ah).1;have axk:i<q:=by
   have:=List.all_eq_true.1 q_ q (by grind);grind
  rw[bd]at bf ⊢;grind
 have axl:∀ {listed:Array Bool} {i:Nat},listed.size=ops.size->i<ops.size->(listed[i]?.getD true=false<->listed.getD i false=false):=by
  intro listed i bV G;rw[Array.getD_eq_getD_getElem?,Array.getElem?_eq_getElem (by omega)];rfl
 have agy:∀ {l b e x:Bool} {listed:Array Bool},Gz n l b e x listed->(b=true->l=true)->(x=true->e=true)->listed.size=ops.size->∀ i∈Region.ready .any ops listed,(i=n/\l=false)\/(i=n+1/\l=true/\b=false)\/(i=n+2/\e=false)\/(i=n+3/\e=true/\x=false)\/(i=n+4/\l=true/\b=true/\e=true/\x=true):=by
  intro l b e x listed bd ad hx bV i G;have qb:=agx bd ad hx;rw[mem_ready]at G;obtain⟨h0,o,ah,Gy⟩:=G;have hin:i<ops.size:=(Array.getElem?_eq_some_iff.1 ah).1;have h0:listed.getD i false=false:=by
   grind
  have sb:∀ k∈hY o,listed.getD k false=true:=by
   intro k aj;obtain⟨e,he,vd⟩:=List.mem_filterMap.1 aj;split at vd
   ·rename_i ad;cases vd;grind
   grind
  have C3:∀ k∈(h_ ops.toList).getD i [],listed.getD k false=true\/k=i:=by
   intro k aj;refine w_ (p:=λj=>listed.getD j false=true\/j=i) ops.toList [] (λj i G=>by simp at G) (λj hF j8 k aj aD=>?_) i k aj (.inr rfl);have k8:ops[j]?=some hF:=by grind
   rcases (by simpa using aD:listed.getD j false=true\/j=i) with aD | aD
   ·exact .inl (qb j hF k8 aD k aj)
   ·subst aD;rw[ah]at k8;cases k8;exact .inl (sb k aj)
  rw[bd]at h0;simp only[Bool.or_eq_false_iff,Bool.and_eq_false_iff,decide_eq_false_iff_not]at h0;obtain⟨⟨⟨⟨gU,aP⟩,aQ⟩,bB⟩,gf⟩:=h0;have zo:n<=i:=by omega
  have agz:i=n\/i=n+1\/i=n+2\/i=n+3\/i=n+4:=by omega
  have flag:∀ q,q<4->n+q∈(h_ ops.toList).getD i []->n+q≠i->(if q=0 then l else if q=1 then b else if q=2 then e else x)=true:=by
   intro q bf ao dY;rcases C3 _ ao with h | h
   ·rw[bd]at h;simp only[Bool.or_eq_true,Bool.and_eq_true,decide_eq_true_eq]at h;rcases h with (((h | ⟨h1,h⟩) | ⟨h1,h⟩) | ⟨h1,h⟩) | ⟨h1,h⟩
    ·omega
    ·grind
    ·have:q=1:=by omega
     subst this;exact h1
    ·have:q=2:=by omega
     subst this;exact h1
    ·have:q=3:=by omega
     subst this;exact h1
   omega
  rcases agz with rfl | rfl | rfl | rfl | rfl
  ·grind
  ·exact .inr (.inl ⟨rfl,flag 0 (by omega) Mb (by omega),by grind⟩)
  ·grind
  ·grind
  ·exact .inr (.inr (.inr (.inr ⟨rfl,flag 0 (by omega) (zT 0 (by omega)) (by omega),flag 1 (by omega) (zT 1 (by omega)) (by omega),flag 2 (by omega) (zT 2 (by omega)) (by omega),flag 3 (by omega) (zT 3 (by omega)) (by omega)⟩)))
 have agA:∀ {l b e x:Bool} {listed:Array Bool},Gz n l b e x listed->(b=true->l=true)->(x=true->e=true)->listed.size=ops.size->Region.ready .any ops listed≠[]:=by
  intro l b e x listed bd ad hx bV uZ;have mk:∀ i o,ops[i]?=some o->listed.getD i false=false->(∀ k∈hY o,listed.getD k false=true)->False:=by
   intro i o ah h0 aw;have hin:i<ops.size:=(Array.getElem?_eq_some_iff.1 ah).1;have:i∈Region.ready .any ops listed:=by
    rw[mem_ready];refine⟨?_,o,ah,λe he ad=>aw e.on (List.mem_filterMap.2 ⟨e,by grind,by grind⟩)⟩;grind
   grind
  have lt:∀ q o,ops[q]?=some o->∀ i∈hY o,i<q:=by
   intro q o ah i G;have zU:q<ops.size:=(Array.getElem?_eq_some_iff.1 ah).1;have:=List.all_eq_true.1 q_ q (by grind);rw[show ops.toList[q]?=some o by grind]at this;have:=List.all_eq_true.1 this i G;grind
  cases l with
  | false=>
   have o4:b=false:=by grind
   subst o4;exact mk n gg xB (by rw[bd];simp) λk aj=>by rw[bd];grind
  | true=>
   cases b with
   | false=>exact mk (n+1) h' vf (by rw[bd];simp) λk aj=>by rw[bd];grind
   | true=>
    cases e with
    | false=>
     have Mc:x=false:=by grind
     subst Mc;exact mk (n+2) ho zS (by rw[bd];simp) λk aj=>by rw[bd];grind
    | true=>
     cases x with
     | false=>exact mk (n+3) iz C7 (by rw[bd];simp) λk aj=>by rw[bd];grind
     | true=>exact mk (n+4) lK C8 (by rw[bd];simp) λk aj=>by rw[bd];grind
 have Dc:∀ {listed:Array Bool} (i:Nat),listed.size=ops.size->i<ops.size->∀ q,(listed.setIfInBounds i true).getD q false=(listed.getD q false||decide (q=i)):=by
  intro listed i bV G q;by_cases e:q=i
  ·grind
  grind
 let bW:=λ(l b e x:Bool)=>∀ (bZ:Nat) (listed:Array Bool),Gz n l b e x listed->listed.size=ops.size->5<=bZ+(l.toNat+b.toNat+e.toNat+x.toNat)->wpAnyIn (dy C.r) 0 C.P .any ops Q bZ listed (aK l b e x) (W e);have step:∀ l b e x,(b=true->l=true)->(x=true->e=true)->(l=false->bW true b e x)->(l=true->b=false->bW l true e x)->(e=false->bW l b true x)->(e=true->x=false->bW l b e true)->bW l b e x:=by
  intro l b e x ad hx eh du ek oq bZ listed bd bV sa;have axm:l.toNat<=1/\b.toNat<=1/\e.toNat<=1/\x.toNat<=1:=⟨Bool.toNat_le l,Bool.toNat_le b,Bool.toNat_le e,Bool.toNat_le x⟩
  cases bZ with
  | zero=>omega
  | succ bZ=>
   refine⟨λaa=>absurd aa (agA bd ad hx bV),λi G=>?_⟩;rcases agy bd ad hx bV i G with⟨rfl,h1⟩ | ⟨rfl,h1,h2⟩ | ⟨rfl,h1⟩ | ⟨rfl,h1,h2⟩ | ⟨rfl,h1,h2,h3,aT⟩
   ·subst h1;have o4:b=false:=by grind
    subst o4;unfold wpOpIn;simp only[xB,wt C9,if_true];refine ha C' (TG false e x) ?_;rw[sc];have y6:(aK false false e x).put (some dL) u=aK true false e x:=by
     simp only[aK,me];cases e<;>cases x<;>simp[Gv _ dB.symm,Gv _ iu.symm]
    show wpAnyIn _ _ _ _ _ _ _ _ ((aK false false e x).put (some dL) u) (W e);rw[y6];refine eh rfl bZ _ (λq=>?_) (by grind) (by grind);rw[Dc i bV (by omega),bd];by_cases bf:q=i<;>simp[bf]
   ·subst h1;subst h2;unfold wpOpIn;simp only[vf,wt C_,if_true];refine ha GD (TH e x) ?_;rw[cU];have y6:(aK true false e x).put (some fv) vB=aK true true e x:=by
     simp only[aK,me];cases e<;>cases x<;>simp[Gv _ n4.symm,Gv _ Db.symm]
    show wpAnyIn _ _ _ _ _ _ _ _ ((aK true false e x).put (some fv) vB) (W e);rw[y6];refine du rfl rfl bZ _ (λq=>?_) (by grind) (by grind);rw[Dc (n+1) bV (by omega),bd];by_cases bf:q=n+1<;>simp[bf]
   ·subst h1;have Mc:x=false:=by grind
    subst Mc;unfold wpOpIn;simp only[zS,wt GA,if_true];refine ha GF (TI l b false) ?_;rw[Da];show wpAnyIn _ _ _ _ _ _ _ _ (aK l b true false) (W true);refine ek rfl bZ _ (λq=>?_) (by grind) (by grind);rw[Dc (n+2) bV (by omega),bd];simp
   ·subst h1;subst h2;unfold wpOpIn;simp only[C7,wt GB,if_true];refine ha GG (TJ l b) ?_;rw[GH];show wpAnyIn _ _ _ _ _ _ _ _ (aK l b true true) (W true);refine oq rfl rfl bZ _ (λq=>?_) (by grind) (by grind);rw[Dc (n+3) bV (by omega),bd];simp
   ·subst h1;subst h2;subst h3;subst aT;unfold wpOpIn;simp only[C8,wt GC,if_true];refine Oper.wpIn_mono (λa' w' bf=>?_) GI;have eJ:∀ i,(listed.setIfInBounds (n+4) true).getD i false=decide (i<n+5):=λi=>by
     rw[Dc (n+4) bV (by omega),bd,Bool.eq_iff_iff];simp only[Bool.or_eq_true,Bool.and_eq_true,decide_eq_true_eq,true_and];omega
    have aa:∀ i,i ∉ Region.ready .any ops (listed.setIfInBounds (n+4) true):=λi G=>by
     rw[mem_ready]at G;obtain⟨h0,o,ah,_⟩:=G;grind
    have iD:Region.ready .any ops (listed.setIfInBounds (n+4) true)=[]:=List.eq_nil_iff_forall_not_mem.2 aa;cases bZ with
    | zero=>exact⟨iD,bf⟩
    | succ bZ=>exact⟨λ_=>bf,λi G=>absurd G (aa i)⟩
 have f:∀ {p:Prop},(true:Bool)=false->p:=λh=>by cases h
 have iv:∀ {p:Prop},(false:Bool)=true->p:=λh=>by cases h
 have TK:bW true true true true:=step _ _ _ _ (λ_=>rfl) (λ_=>rfl) f (λ_=>f) f (λ_=>f);have TL:bW true true true false:=step _ _ _ _ (λ_=>rfl) (λ_=>rfl) f (λ_=>f) f (λ_ _=>TK);have agB:bW true true false false:=step _ _ _ _ (λ_=>rfl) iv f (λ_=>f) (λ_=>TL) iv;have TM:bW true false true true:=step _ _ _ _ (λ_=>rfl) (λ_=>rfl) f (λ_ _=>TK) f (λ_=>f);have TN:bW true false true false:=step _ _ _ _ (λ_=>rfl) (λ_=>rfl) f (λ_ _=>TL) f (λ_ _=>TM);have agC:bW true false false false:=step _ _ _ _ (λ_=>rfl) iv f (λ_ _=>agB) (λ_=>TN) iv;have agD:bW false false true true:=step _ _ _ _ iv (λ_=>rfl) (λ_=>TM) iv f (λ_=>f);have agE:bW false false true false:=step _ _ _ _ iv (λ_=>rfl) (λ_=>TN) iv f (λ_ _=>agD);have agF:bW false false false false:=step _ _ _ _ iv iv (λ_=>agC) iv (λ_=>agE) iv;intro bZ listed bV an sa;exact agF bZ listed (λi=>by grind) bV (by omega)
theorem agG{n:Nat}(aB:n<=ops.size)(hT:dz C.P T)(cf:jc C.P a6)(aw:∀ o∈ops.toList,k4 o C.nt=true){l:List ez}{s':az}(hs:w6 C.aM T a6 ops (ops.toList.take n) s=some (l,s'))(ct:zx (ops.toList.take n) l=true)(agm:∀ j,n<=j->j<ops.size->∀ i,i<n->i∈(h_ ops.toList).getD j [])
  (hc:∀ r∈l,∀ p∈r.cs,p) (tL:∀ (bZ:Nat) (listed:Array Bool) a' w',listed.size=ops.size->(∀ i,listed.getD i false=decide (i<n))->ops.size - n<=bZ->b' C s' a' w'->wpAnyIn (dy C.r) 0 C.P .any ops Q bZ listed a' w'):∀ (bZ:Nat) (listed:Array Bool) (a:Act) (w:World),listed.size=ops.size->
   (∀ j o,ops[j]?=some o->listed.getD j false=true->∀ i∈hY o,listed.getD i false=true)->(∀ i,n<=i->listed.getD i false=false)->((List.range ops.size).filter λj=>!listed.getD j false).length<=bZ->
   b' C (ji l s λj=>listed.getD j false) a w->wpAnyIn (dy C.r) 0 C.P .any ops Q bZ listed a w:=by
 obtain⟨hlen,rR,C4⟩:=Sr _ _ hs;have Gr:(ops.toList.take n).length=n:=by grind
 have gh:∀ i,i<n->(ops.toList.take n)[i]?=ops[i]?:=λi G=>by
  grind
 simp only[zx,Bool.and_eq_true]at ct;obtain⟨q_,L8⟩:=ct;have agr:∀ j o,j<n->ops[j]?=some o->∀ i∈hY o,i<j:=by
  intro j o L7 ah i G;have:=List.all_eq_true.1 q_ j (by grind);grind
 have ags:∀ i j x y,i<j->l[i]?=some x->l[j]?=some y->((h_ (ops.toList.take n)).getD j []).contains i=true\/x.apart y=true:=by
  intro i j x y zn G aD;have zR:j<l.length:=(List.getElem?_eq_some_iff.1 aD).1;have:=List.all_eq_true.1 L8 j (by grind);grind
 intro bZ;induction bZ with
 | zero=>
  intro listed a w bV _ o6 L9 j5;have eJ:∀ i,listed.getD i false=decide (i<n):=λi=>by
   by_cases G:i<n
   ·cases an:listed.getD i false with
    | true=>grind
    | false=>
     exfalso;have:i∈(List.range ops.size).filter λj=>!listed.getD j false:=by
      grind
     grind
   grind
  refine tL 0 listed a w bV eJ ?_ ?_
  ·by_cases bX:n<ops.size
   ·have:n∈(List.range ops.size).filter λj=>!listed.getD j false:=by
     grind
    grind
   ·omega
  ·have:ji l s (λj=>listed.getD j false)=s':=by
    rw[rR];unfold ji;rw[List.filter_eq_self.2 λp hp=>?_,Cv];obtain⟨_,h2⟩:=zz hp;grind
   grind
 | succ bZ aJ=>
  intro listed a w bV qb o6 L9 j5;by_cases C5:∀ i,i<n->listed.getD i false=true
  ·have eJ:∀ i,listed.getD i false=decide (i<n):=λi=>by
    grind
   refine tL (bZ+1) listed a w bV eJ ?_ ?_
   ·have h1:(List.range' n (ops.size - n)).length<=((List.range ops.size).filter λj=>!listed.getD j false).length:=by
     have e:(List.range ops.size).filter (λj=>!listed.getD j false)=List.range' n (ops.size - n):=by
      have h2:(List.range ops.size).filter (λj=>!listed.getD j false)=(List.range ops.size).filter λj=>decide (n<=j):=List.filter_congr λj _=>by
       grind
      rw[h2];have h3:List.range ops.size=List.range n++List.range' n (ops.size - n):=by
       rw[List.range_eq_range',List.range_eq_range'];have:=(List.range'_append (s:=0) (m:=n) (n:=ops.size - n) (step:=1))
       grind
      rw[h3,List.filter_append,List.filter_eq_nil_iff.2 λj aD=>by grind,List.filter_eq_self.2 λj aD=>by grind];rfl
     grind
    grind
   ·have:ji l s (λj=>listed.getD j false)=s':=by
     rw[rR];unfold ji;rw[List.filter_eq_self.2 λp hp=>?_,Cv];obtain⟨_,h2⟩:=zz hp;grind
    grind
  ·refine⟨λaa=>absurd ?_ C5,λi G=>?_⟩
   ·intro j;induction j using Nat.strongRecOn with
    | _ j axn=>
     intro aD;cases an:listed.getD j false with
     | true=>rfl
     | false=>
      exfalso;have jF:j∈Region.ready .any ops listed:=by
       rw[mem_ready];refine⟨?_,ops[j],by simp,λe he ad=>?_⟩
       ·grind
       ·have hin:e.on∈hY ops[j]:=List.mem_filterMap.2 ⟨e,by grind,by grind⟩;grind
      grind
   ·rw[mem_ready]at G;obtain⟨h0,o,ah,Gy⟩:=G;have hin:i<ops.size:=(Array.getElem?_eq_some_iff.1 ah).1;have C2:listed.getD i false=false:=by
     grind
    have jF:o∈ops.toList:=by
     grind
    have sb:∀ k∈hY o,listed.getD k false=true:=by
     intro k aj;obtain⟨e,he,vd⟩:=List.mem_filterMap.1 aj;split at vd
     ·rename_i ad;cases vd;exact Gy e (by simpa using he) ad
     ·cases vd
    have G:i<n:=by
     by_cases G:i<n
     ·exact G
     ·exfalso;have C3:∀ k∈(h_ ops.toList).getD i [],listed.getD k false=true\/k=i:=by
       intro k aj;refine w_ (p:=λj=>listed.getD j false=true\/j=i) ops.toList [] (λj i G=>by simp at G) (λj hF j8 k aj aD=>?_) i k aj (.inr rfl);have k8:ops[j]?=some hF:=by grind
       rcases (by simpa using aD:listed.getD j false=true\/j=i) with aD | aD
       ·exact .inl (qb j hF k8 aD k aj)
       ·subst aD;rw[ah]at k8;cases k8;exact .inl (sb k aj)
      grind
    obtain⟨r,aa,fF⟩:=C4 i o (by grind);have agt:∀ j k,k∈(h_ (ops.toList.take n)).getD j []->listed.getD j false=true->listed.getD k false=true:=by
     refine w_ (p:=λj=>listed.getD j false=true) (ops.toList.take n) [] (λj i G=>by simp at G) λj hF j8 k aj aD=>?_;have L7:j<n:=by grind
     exact qb j hF (by grind) (by simpa using aD) k aj
    have C3:∀ k∈(h_ (ops.toList.take n)).getD i [],listed.getD k false=true\/k=i:=by
     intro k aj;refine w_ (p:=λj=>listed.getD j false=true\/j=i) (ops.toList.take n) [] (λj i G=>by simp at G) (λj hF j8 k aj aD=>?_) i k aj (.inr rfl);have L7:j<n:=by grind
     have k8:ops[j]?=some hF:=by grind
     rcases (by simpa using aD:listed.getD j false=true\/j=i) with aD | aD
     ·exact .inl (qb j hF k8 aD k aj)
     ·subst aD;rw[ah]at k8;cases k8;exact .inl (sb k aj)
    have gq:∀ j x,j<i->l[j]?=some x->listed.getD j false=false->x.apart r=true:=by
     grind
    have tC:∀ j x,i<j->l[j]?=some x->listed.getD j false=true->r.apart x=true:=by
     grind
    obtain⟨aP,aQ,bB⟩:=Sn (s:=s) (f:=λj=>listed.getD j false) aa C2 gq tC;have L_:=Ss fF aP aQ;unfold wpOpIn;rw[ah];refine Tz hT cf (aw o jF) L_ (hc r (List.mem_of_getElem? aa)) j5 λa' w' aY=>?_;have eG:∀ j,(listed.setIfInBounds i true).getD j false=if j=i then true else listed.getD j false:=by
     intro j;by_cases e:j=i
     ·subst e;rw[if_pos rfl,Array.getD_eq_getD_getElem?,Array.getElem?_setIfInBounds_self_of_lt (by omega)];rfl
     ·rw[if_neg e,getD_set_ne false (Ne.symm e)]
    refine aJ _ a' w' (by grind) (λj hF j8 aD k aj=>?_) (λq bf=>by rw[eG,if_neg (by omega)];grind) ?_ ?_
    ·rw[eG]at aD ⊢;split
     ·rfl
     ·split at aD
      ·rename_i e;subst e;rw[ah]at j8;cases j8;exact sb k aj
      ·exact qb j hF j8 aD k aj
    ·have bX:((List.range ops.size).filter λj=>!(listed.setIfInBounds i true).getD j false).length<((List.range ops.size).filter λj=>!listed.getD j false).length:=by
      have e1:(List.range ops.size).filter (λj=>!(listed.setIfInBounds i true).getD j false)=((List.range ops.size).filter λj=>!listed.getD j false).filter λj=>decide (j≠i):=by
       rw[List.filter_filter];apply List.filter_congr;intro j _;rw[eG];simp
      rw[e1];have Ma:i∈(List.range ops.size).filter λj=>!listed.getD j false:=by
       grind
      exact List.length_filter_lt_length_iff_exists.2 ⟨i,Ma,by simp⟩
     omega
    ·have:ji l s (λj=>(listed.setIfInBounds i true).getD j false)=r.hX (ji l s λj=>listed.getD j false):=by
      rw[<-bB];congr 1;funext j;grind
     grind
theorem TO{β:Type}{b:Bool}{p:Prop}{m:M β}{O:β->Prop}(h:M.ca (r3 b p m) O):M.ca m O:=by
 cases b with
 | true=>exact h
 | false=>exact (M.kD.1 h).2
theorem agH{gg h' ho iz lK:Oper}(h:Lg gg h' ho iz lK=true):∃ ty m x GJ Md k c dL fv d1 d2 oU y,gg.op=.lookup ty m x false/\h'.op=.binOp .add GJ (.tmp dL) (.const (.int k c)) Md/\ho.op=.mapEntry ty m x/\iz.op=.extract (.tmp d1) 1/\
  oU.op=.mapUpdate ty m x y/\zD ho iz lK=some (oU,d1,d2)/\gg.dst=some dL/\h'.dst=some fv/\ho.dst=some d1/\iz.dst=some d2/\fA k c/\(dL≠fv/\dL≠d1/\dL≠d2/\fv≠d1/\fv≠d2/\d1≠d2)/\
  (m≠.tmp dL/\m≠.tmp fv/\m≠.tmp d1/\m≠.tmp d2)/\(x≠.tmp dL/\x≠.tmp fv/\x≠.tmp d1/\x≠.tmp d2)/\(∃ oo,m=.tmp oo)/\(∃ Me,x=.tmp Me)/\gg.guard=none/\h'.guard=none/\ho.guard=none/\iz.guard=none/\lK.guard=none:=by
 unfold Lg at h;split at h
 ·rename_i ty m x GJ t k c Md mB df dr gh aN j6;split at h
  ·rename_i dL fv oU d1 d2 sc cU sa;simp only[decide_eq_true_eq]at h;obtain⟨rfl,rfl,hin,e1,e2,dA,dB,iu,n4,Db,TP,eh,du,bR,a2,a3,a4,dd,dN,kf,np,cR,q2⟩:=h;obtain⟨axo,axp,axq,axr,f1,f2,f3,f4,f5,f6,f7,f8,f9,f10,f11,f12,g1,dW,g3⟩:=To sa;obtain⟨oo,tK⟩:=Option.isSome_iff_exists.1 eh;obtain⟨Me,TQ⟩:=Option.isSome_iff_exists.1 du;have em:=vc tK;have ex:=vc TQ;have agI:=vc (e1.trans tK);have agJ:=vc (e2.trans TQ);rw[f1]at j6;simp only[Op.mapEntry.injEq]at j6;obtain⟨rfl,rfl,rfl⟩:=j6;subst em;subst ex;subst agI;subst agJ;refine⟨_,_,_,_,_,_,_,_,_,_,_,oU,_,gh,aN,f1,f3,f7,sa,sc,cU,f2,f4,hin,⟨dA,dB,iu,n4,Db,TP⟩,?_,?_,⟨_,rfl⟩,⟨_,rfl⟩,Option.isNone_iff_eq_none.1 cR,Option.isNone_iff_eq_none.1 q2,g1,dW,g3⟩
   ·simp only[hZ,ne_eq,Option.some.injEq]at bR a2 a3 a4;exact⟨λe=>bR (by cases e;rfl),λe=>a2 (by cases e;rfl),λe=>a3 (by cases e;rfl),λe=>a4 (by cases e;rfl)⟩
   ·simp only[hZ,ne_eq,Option.some.injEq]at dd dN kf np;exact⟨λe=>dd (by cases e;rfl),λe=>dN (by cases e;rfl),λe=>kf (by cases e;rfl),λe=>np (by cases e;rfl)⟩
  grind
 grind
theorem agK{β:Type}{n:Nat}(r8:F5 ops.toList=true)(aB:n=ops.size - 5)(hT:dz C.P T)(cf:jc C.P a6)(cF:lM C.P C.aM Ψ)(aw:∀ o∈ops.toList,k4 o C.nt=true){k:az->M β}{O:β->Prop}
  (aj:∀ s' a' w',b' C s' a' w'->M.ca (k s') O->Q .normal a' w') (ao:M.ca (ma C.aM T a6 Ψ ops (ops.toList.drop n) [] s k) O) :
  (n<=ops.size/\∀ j,n<=j->j<ops.size->∀ i,i<n->i∈(h_ ops.toList).getD j [])/\∀ (a:Act) (w:World),b' C s a w->∀ (bZ:Nat) (listed:Array Bool),listed.size=ops.size->(∀ i,listed.getD i false=decide (i<n))->ops.size - n<=bZ->wpAnyIn (dy C.r) 0 C.P .any ops Q bZ listed a w:=by
 unfold F5 at r8;rw[show ops.toList.length - 5=n by grind]at r8;split at r8
 ·rename_i gg h' ho iz lK TR;simp only[Bool.and_eq_true,List.all_eq_true,List.mem_range,List.contains_eq_mem,decide_eq_true_eq,Bool.or_eq_true]at r8;obtain⟨agL,⟨⟨⟨⟨⟨q_,gq⟩,Mb⟩,TD⟩,zT⟩,TE⟩,TF⟩:=r8;have TC:ops.size=n+5:=by
   have:=congrArg List.length TR;grind
  have Dd:∀ q (o:Oper),[gg,h',ho,iz,lK][q]?=some o->ops[n+q]?=some o:=λq o h=>by
   grind
  have xB:=Dd 0 gg rfl;have vf:=Dd 1 h' rfl;have zS:=Dd 2 ho rfl;have C7:=Dd 3 iz rfl;have C8:=Dd 4 lK rfl;have mem:∀ {q o},ops[n+q]?=some o->o∈ops.toList:=λh=>by
   grind
  obtain⟨ty,m,x,GJ,Md,e7,c,dL,fv,d1,d2,oU,y,gh,aN,j6,va,hL,tj,sc,cU,Da,GH,hin,⟨dA,dB,iu,n4,Db,TP⟩,⟨m1,m2,m3,m4⟩,⟨wT,wS,TS,agM⟩,⟨oo,em⟩,⟨Me,ex⟩,C9,C_,GA,GB,GC⟩:=agH agL;have C':∀ c,gg.op≠.defer c:=by grind
  have GD:∀ c,h'.op≠.defer c:=by grind
  have GF:∀ c,ho.op≠.defer c:=by grind
  have GG:∀ c,iz.op≠.defer c:=by grind
  refine⟨⟨by omega,λj h1 h2 i G=>by have:=gq (j - n) (by omega) i G;simp_all⟩,λa w aa bZ listed bV an sa=>?_⟩;have TT:=L4 (Q:=Q) hT cf cF aw aj _ n [] s a w rfl (λp hp=>by cases hp) aa ao;rw[show (ops.toList.drop n).length=5 by grind]at TT;rw[TR]at ao;obtain⟨κ,F,eH⟩:=aa;have gd:∀ {o:Oper},o.guard=none->∀ s:az,kp s.ax ops o.guard=some none:=λh s=>by rw[h];rfl
  have TU:∀ {o:Oper} {os},(∀ ty m x,o.op≠.mapEntry ty m x)->zE o os=none:=λ{o os} h=>by
   unfold zE;split
   ·unfold zD;simp
   ·rfl
  have Gr:zE gg [h',ho,iz,lK]=none:=TU (by grind);unfold ma at ao;rw[Gr]at ao;simp only[gd C9]at ao;split at ao
  ·rename_i tM GK;rw[r' λad=>(Gs (s:=s) (λp hp=>by cases hp) (gk:=none) (λk aj=>by cases aj) ad).run s.ae tM GK,r' λad=>(zv ad).run s.ae tM GK]at ao;obtain⟨Mf,agN,ao⟩:=ao;have agO:=w5 hT cf (aw gg (mem xB)) GK;have xC:=GK;simp only[bh,gh,y4]at xC;have agP:(use (aW C.aM s.ax m)).1/\(use (aW C.aM s.ax x)).1/\tM.hk=[]/\∃ v u,tM.eR=.val v u:=by
    split at xC
    ·rename_i jf axs axt;split at xC
     ·simp only[ar.eM,Option.bind_eq_some_iff,bA,ar.bz,Option.some.injEq]at xC;obtain⟨es,o0,⟨y,l⟩,aO,rfl⟩:=xC;exact⟨Mf.1,Mf.2,rfl,_,_,rfl⟩
     ·cases xC
    ·cases xC
   obtain⟨L5,L6,TV,TW,TX,agQ⟩:=agP;have agR:zE h' [ho,iz,lK]=none:=TU (by grind);unfold ma at ao;rw[agR]at ao;simp only[gd C_]at ao;split at ao
   ·rename_i Mg agS;have ao:=TO (TO ao);have vg:=agS;have e1:(s.hW gg.dst tM).ax dL=.val TW TX:=by rw[sc,az.hW,az.L2,agQ]
    have lJ:wO (.int e7 c)=.val (.int e7) c:=by simp[wO,hin]
    have agT:∃ bR,TW=.int e7/\Mg.hk=[]/\bR=TX:=by
     simp only[bh,aN,aW,e1,lJ,use,aF.l6,aF.tb]at vg;split at vg
     ·rename_i aP bR aQ dd h1 h2;split at h1
      ·rename_i bB TS h3;cases h2;cases h3;cases h1;split at vg
       ·rename_i uT;simp only[y0,bA,ar.bz,Option.some.injEq]at vg;grind
       ·cases vg
      grind
     ·rename_i o6;exfalso;split at vg
      ·grind
      ·simp only[ar.eM,Option.bind_eq_some_iff]at vg;obtain⟨⟨c',hS⟩,h1,h2⟩:=vg;simp only[y1,ar.eM,Option.bind_eq_some_iff,ar.bz]at h1;grind
    obtain⟨k9,rfl,TY,rfl⟩:=agT;have iw:((s.hW gg.dst tM).hW h'.dst Mg).ae=s.ae:=by
     simp only[az.hW,TV,TY,az.fK,sc,cU,az.set]
    have eg:∀ {t:Nat},t≠dL->t≠fv->((s.hW gg.dst tM).hW h'.dst Mg).ax t=s.ax t:=λ{t} h1 h2=>by
     simp only[az.hW,TV,TY,az.fK];rw[az.CY (by grind),az.CY (by grind)]
    unfold ma at ao;rw[show zE ho [iz,lK]=some (oU,d1,d2) from tj]at ao;simp only at ao;split at ao
    ·rename_i axu agU;obtain⟨u,mf,wE,TZ⟩:=agi (s:=s) hT gh j6 hL iw (by rw[em];exact eg (λe=>m1 (by grind)) (λe=>m2 (by grind))) (by rw[ex];exact eg (λe=>wT (by grind)) (λe=>wS (by grind))) agU eH L5 L6;have agV:=(TZ a rfl rfl).1;have agW:=C6 (K:=λa' w'=>b' C (s.hW gg.dst tM) a' w') (Q:=Q) C' agV (agO a w κ F Q eH Mf agN);have T0:dL<a.tmps.size:=by
      have:=aw gg (mem xB);simp only[k4,Bool.and_eq_true]at this;have:=this.1;rw[sc]at this;have h1:=eH.dn;grind
     have axv:d1<a.tmps.size:=by
      have:=aw ho (mem zS);simp only[k4,Bool.and_eq_true]at this;have:=this.1;rw[Da]at this;have h1:=eH.dn;grind
     have hu:u=.int e7 k9:=by
      obtain⟨afe,zQ,gr⟩:=agW;have h1:=gr.bG dL;rw[e1,sc]at h1;have h2:(a.put (some dL) u).tmps.getD dL Go.undef=u:=CU T0;rw[h2]at h1;exact (gB.1 h1).1
     subst hu;let vB:Value:=.int e7 (e7.wrap (k9+c));have agX:∀ (a':Act) (w':World),a'.eval (.tmp dL)=.int e7 k9->(execOp a'.eval h').run C.P w'=.ok (.value vB) w':=λa' w' h=>by
      have h2:a'.eval (.const (.int e7 c))=.int e7 c:=rfl;have h3:(Go.binOp .add GJ (.int e7 k9) (.int e7 c)).run C.P w'=.ok vB w':=by simp[Go.binOp,Op.intArith,vB]
      simp only[execOp,aN,h,h2,Sem.run_bind,Rn,Result.andThen_ok,h3,Sem.run_pure]
     have agY:∀ (a':Act) (w':World),a'.eval (.tmp d1)=.tuple #[.int e7 k9,goInt mf]->(execOp a'.eval iz).run C.P w'=.ok (.value (goInt mf)) w':=λa' w' h=>by
      simp[execOp,va,h,Instr.extract]
     have LU:∀ l b e dr,(me a dL fv d1 d2 (.int e7 k9) vB (.tuple #[.int e7 k9,goInt mf]) (goInt mf) l b e dr).eval m=a.eval m:=λl b e dr=>TB m1 m2 m3 m4;have agZ:∀ l b e dr,(me a dL fv d1 d2 (.int e7 k9) vB (.tuple #[.int e7 k9,goInt mf]) (goInt mf) l b e dr).eval x=a.eval x:=λl b e dr=>TB wT wS TS agM;refine agw (wE:=wE) (u:=.int e7 k9) (vB:=vB) (vE:=.tuple #[.int e7 k9,goInt mf]) (vX:=goInt mf) TC q_ xB vf zS C7 C8 C9 C_ GA GB GC C' GD GF GG gq Mb TD zT TE TF sc cU Da GH dA dB iu n4 Db ?_ ?_ ?_ ?_ TT bZ listed bV an (by omega)
     ·intro b e dr;have:=TZ _ (LU false b e dr) (agZ false b e dr);cases e
      ·exact this.1
      ·exact this.2.1
     ·intro e dr;refine agX _ _ ?_;have h1:(me a dL fv d1 d2 (.int e7 k9) vB (.tuple #[.int e7 k9,goInt mf]) (goInt mf) true false e dr).eval (.tmp dL)=(a.put (some dL) (.int e7 k9)).eval (.tmp dL):=by
       have cR:Operand.tmp dL≠.tmp d1:=λh=>dB (by grind);have q2:Operand.tmp dL≠.tmp d2:=λh=>iu (by grind);unfold me;cases e<;>cases dr<;>simp[zP,cR,q2]
      rw[h1];exact CU T0
     ·grind
     ·intro l b;refine agY _ _ ?_;have h1:me a dL fv d1 d2 (.int e7 k9) vB (.tuple #[.int e7 k9,goInt mf]) (goInt mf) l b true false=(me a dL fv d1 d2 (.int e7 k9) vB (.tuple #[.int e7 k9,goInt mf]) (goInt mf) l b false false).put (some d1) (.tuple #[.int e7 k9,goInt mf]):=rfl;rw[h1];exact CU (by rw[agv];omega)
    ·exact ao.1.elim
   ·rename_i axw;exfalso;have:qZ C.aM T a6 Ψ (s.hW gg.dst tM) h'=none:=by
     have lJ:wO (.int e7 c)=.val (.int e7) c:=by simp[wO,hin]
     simp only[qZ,aN,CD,aW,lJ];simp
    rw[this]at ao;exact ao.1
  ·exfalso;have:qZ C.aM T a6 Ψ s gg=none:=by simp only[qZ,gh]
   rw[this]at ao;exact ao.1
 grind
theorem ag0{β:Type}{L:List (az->M β)}(gh:L≠[]){o:Oper}(hT:dz C.P T)(cf:jc C.P a6)(cF:lM C.P C.aM Ψ)(xz:k4 o C.nt=true){O:β->Prop}{s:az}{a:Act}{w:World}(aa:b' C s a w)
  (ao:∀ k∈L,M.ca (F7 C.aM T a6 Ψ ops o s k) O) {K:Act->World->Prop} (iC:∀ s' a' w',b' C s' a' w'->(∀ k∈L,M.ca (k s') O)->K a' w'):o.guard=none/\o.wpIn (dy C.r) 0 C.P a w K Q:=by
 obtain⟨gU,lI⟩:=List.exists_mem_of_ne_nil L gh;have a7:∀ i,o.dst=some i->i<C.nt:=λi G=>by
  have:=xz;simp only[k4,Bool.and_eq_true]at this;grind
 unfold F7 at ao;split at ao
 ·exact (ao gU lI).1.elim
 ·rename_i aA;refine⟨aA,?_⟩;split at ao
  ·rename_i res fU;obtain⟨κ,F,eH⟩:=aa;have ao:∀ k∈L,res.bT/\res.c/\M.ca (k (s.hW o.dst res)) O:=λk aj=>by
    have:=ao k aj;rw[r' λad=>(Gs (ops:=ops) (tg:=[]) (s:=s) (λp hp=>by cases hp) (gk:=none) (λk aj=>by cases aj) ad).run s.ae res fU,r' λad=>(zv ad).run s.ae res fU]at this;omega
   exact Oper.wpIn_mono (λa' w' aY=>iC _ a' w' aY λk aj=>(ao k aj).2.2) (w5 hT cf xz fU a w κ F Q eH (ao gU lI).1 (ao gU lI).2.1)
  ·split at ao
   ·rename_i pr om;obtain⟨jA,p1,l9⟩:=LY hT cf cF a7 om;have ao:∀ k∈L,pr.bT/\M.ca pr.m λy=>M.ca (k (pr.st y)) O:=λk aj=>by
     have:=ao k aj;rw[r' λad=>l9 (KJ ad),M.fJ]at this;omega
    refine jA a w Q _ aa (ao gU lI).1 ⟨(ao gU lI).2.1,λy aO a' w' aY=>iC _ a' w' aY λk aj=>(ao k aj).2.2 y aO⟩
   ·exact (ao gU lI).1.elim
theorem ag1{ops:List Oper}{done:List Nat}{i:Nat}:i∈u9 ops done<->i<ops.length/\i ∉ done/\∃ o,ops[i]?=some o/\∀ j∈hY o,j∈done:=by
 unfold u9;grind
theorem T1{ops:List Oper}:∀ (f:Nat) (done:List Nat),q0 ops f done≠[]
 | 0,done=>by simp[q0]
 | f+1,done=>by
  unfold q0;split
  ·simp
  ·rename_i l an;cases hc:u9 ops done with
   | nil=>grind
   | cons i bU=>
    rw[List.flatMap_cons];intro h;rw[List.append_eq_nil_iff,List.map_eq_nil_iff]at h;exact T1 f _ h.1
theorem GL{listed:Array Bool}{done:List Nat}(bV:listed.size=ops.size)(an:∀ i,listed.getD i false=done.contains i):Region.ready .any ops listed=u9 ops.toList done:=by
 unfold Region.ready u9;rw[Array.length_toList];refine List.filter_congr λi G=>?_;have G:i<ops.size:=by grind
 have h1:listed.getD i true=done.contains i:=by
  grind
 rw[h1];congr 1;have ah:ops.toList[i]?=some ops[i]:=by simp
 rw[ah,Array.getElem?_eq_getElem G];show ops[i].after.all _=(hY ops[i]).all _;rw[Bool.eq_iff_iff,Array.all_eq_true',List.all_eq_true];unfold hY;grind
theorem ag2{β:Type}(hT:dz C.P T)(cf:jc C.P a6)(cF:lM C.P C.aM Ψ)(aw:∀ o∈ops.toList,k4 o C.nt=true){k:az->M β}{O:β->Prop}(aj:∀ s' a' w',b' C s' a' w'->M.ca (k s') O->Q .normal a' w'):∀ (bZ:Nat) (done:List Nat) (listed:Array Bool) (s:az) (a:Act) (w:World),listed.size=ops.size->(∀ i,listed.getD i false=done.contains i)->F6 ops.toList bZ done=true->
  b' C s a w->(∀ l∈q0 ops.toList bZ done,M.ca (zG C.aM T a6 Ψ ops l s k) O)->wpAnyIn (dy C.r) 0 C.P .any ops Q bZ listed a w:=by
 intro bZ;induction bZ with
 | zero=>
  intro done listed s a w bV an aA aa ao;have ob:=GL (ops:=ops) bV an;refine⟨?_,aj s a w aa (ao [] (by simp[q0]))⟩;rw[ob];exact List.isEmpty_iff.1 aA
 | succ bZ aJ=>
  intro done listed s a w bV an aA aa ao;have ob:=GL (ops:=ops) bV an;refine⟨λh0=>?_,λi G=>?_⟩
  ·rw[ob]at h0;refine aj s a w aa (ao [] ?_);unfold q0;grind
  ·rw[ob]at G;obtain⟨p3,hin,o,ah,_⟩:=ag1.1 G;have p3:i<ops.size:=by omega
   have j8:ops[i]?=some o:=by grind
   have ag3:o∈ops.toList:=List.mem_of_getElem? ah;have jF:∀ l∈q0 ops.toList bZ (i::done),M.ca (F7 C.aM T a6 Ψ ops o s λs'=>zG C.aM T a6 Ψ ops l s' k) O:=λl hle=>by
    have:=ao (i::l) (by
     unfold q0;grind)
    unfold zG at this;grind
   obtain⟨g1,dW⟩:=ag0 (Q:=Q) (L:=(q0 ops.toList bZ (i::done)).map λl=>λs'=>zG C.aM T a6 Ψ ops l s' k) (by simpa using T1 bZ (i::done)) hT cf cF (aw o ag3) aa
    (λk' ag4=>by obtain⟨l,hle,rfl⟩:=List.mem_map.1 ag4;exact jF l hle)
    (K:=wpAnyIn (dy C.r) 0 C.P .any ops Q bZ (listed.setIfInBounds i true)) λs' a' w' aY SZ=>by
     refine aJ (i::done) _ s' a' w' (by grind) (λj=>?_) ?_ aY λl hle=>SZ _ (List.mem_map.2 ⟨l,hle,rfl⟩)
     ·by_cases e:j=i
      ·simp_all
      ·rw[getD_set_ne false (Ne.symm e),an j];simp[e]
     ·unfold F6 at aA;grind
   unfold wpOpIn;rw[j8];simp only;have hw:Region.wanted o (yielded ops a.tmps)=true:=by unfold Region.wanted;rw[g1]
   grind
theorem T2{β:Type}(hT:dz C.P T)(cf:jc C.P a6)(cF:lM C.P C.aM Ψ)(aw:∀ o∈ops.toList,k4 o C.nt=true){k:az->M β}{O:β->Prop}
  (aj:∀ s' a' w',b' C s' a' w'->M.ca (k s') O->Q .normal a' w') {a:Act} {w:World} (aa:b' C s a w) (ao:M.ca (zH C.aM T a6 Ψ ops s k) O):wpAnyIn (dy C.r) 0 C.P .any ops Q ops.size (Array.replicate ops.size false) a w.drew:=by
 unfold zH at ao;split at ao
 ·rename_i l s' hs;split at ao
  ·rename_i ct;obtain⟨h1,h2⟩:=Tx _ ao;obtain⟨κ,F,eH⟩:=aa;refine agq hT cf aw hs ct (λr aa p hp=>h1 p (List.mem_flatMap.2 ⟨r,aa,hp⟩)) (λa' w' aY=>aj s' a' w' aY h2) ops.size (Array.replicate ops.size false) a _ (by simp) (λj o _ an=>?_) ?_ ⟨κ,F,?_⟩
   ·have:(Array.replicate ops.size false).getD j false=false:=by
     rw[Array.getD_eq_getD_getElem?,Array.getElem?_replicate];grind
    grind
   ·grind
   ·have:ji l s (λj=>(Array.replicate ops.size false).getD j false)=s:=by
     unfold ji;rw[List.filter_eq_nil_iff.2 λp _=>?_]
     ·rfl
     ·simp only[Array.getD_eq_getD_getElem?,Array.getElem?_replicate];grind
    rw[this];exact eH.drew
  ·exact ao.1.elim
 ·split at ao
  ·rename_i l s' hs;split at ao
   ·rename_i ct;rw[Bool.and_eq_true]at ct;obtain⟨h1,h2⟩:=Tx _ ao;obtain⟨κ,F,eH⟩:=aa;have cont:(lL ops.toList<=ops.size/\∀ j,lL ops.toList<=j->j<ops.size->∀ i,i<lL ops.toList->i∈(h_ ops.toList).getD j [])/\∀ (bZ:Nat) (listed:Array Bool) a' w',listed.size=ops.size->(∀ i,listed.getD i false=decide (i<lL ops.toList))->ops.size - lL ops.toList<=bZ->b' C s' a' w'->wpAnyIn (dy C.r) 0 C.P .any ops Q bZ listed a' w':=by
     by_cases r8:F5 ops.toList=true
     ·have en:lL ops.toList=ops.size - 5:=by unfold lL;grind
      obtain⟨e1,e2⟩:=agK (Q:=Q) r8 en hT cf cF aw aj h2;grind
     ·have en:lL ops.toList=zF (h_ ops.toList) ops.toList.length:=by unfold lL;grind
      obtain⟨p4,hM⟩:=TA (h_ ops.toList) ops.toList.length;have p4:lL ops.toList<=ops.size:=by grind
      have hM:∀ j,lL ops.toList<=j->j<ops.size->∀ i,i<j->i∈(h_ ops.toList).getD j []:=λj h1 h2=>hM j (by omega) (by omega);refine⟨⟨p4,λj h1 h2 i G=>hM j h1 h2 i (by omega)⟩,λbZ listed a' w' bV eJ sa aY=>?_⟩;refine agl ct.2 hM (ops.size - lL ops.toList) (lL ops.toList) bZ listed a' w' (Nat.le_refl _) (by omega) bV eJ sa ?_;have hlen:(ops.toList.drop (lL ops.toList)).length=ops.size - lL ops.toList:=by simp
      rw[<-hlen];exact L4 (Q:=Q) hT cf cF aw aj _ _ [] s' a' w' rfl (λp hp=>by cases hp) aY h2
    obtain⟨⟨p4,hM⟩,axx⟩:=cont;refine agG p4 hT cf aw hs ct.1 hM (λr aa p hp=>h1 p (List.mem_flatMap.2 ⟨r,aa,hp⟩)) (λbZ listed a' w' bV eJ sa aY=>?_) ops.size (Array.replicate ops.size false) a _ (by simp) (λj o _ an=>?_) (λi _=>?_) ?_ ⟨κ,F,?_⟩
    ·grind
    ·have:(Array.replicate ops.size false).getD j false=false:=by
      rw[Array.getD_eq_getD_getElem?,Array.getElem?_replicate];grind
     grind
    ·rw[Array.getD_eq_getD_getElem?,Array.getElem?_replicate];grind
    ·grind
    ·have:ji l s (λj=>(Array.replicate ops.size false).getD j false)=s:=by
      unfold ji;rw[List.filter_eq_nil_iff.2 λp _=>?_]
      ·rfl
      ·simp only[Array.getD_eq_getD_getElem?,Array.getElem?_replicate];grind
     rw[this];exact eH.drew
   ·exact ao.1.elim
  ·unfold SI at ao;split at ao
   ·rename_i ze;obtain⟨κ,F,eH⟩:=aa;refine ag2 hT cf cF aw aj ops.size [] (Array.replicate ops.size false) s a _ (by simp) (λi=>?_) ze ⟨κ,F,eH.drew⟩ λl hle=>⟨ao.1 _ (List.mem_map.2 ⟨l,hle,rfl⟩),λy aO=>ao.2 y ⟨_,List.mem_map.2 ⟨l,hle,rfl⟩,aO⟩⟩
    rw[Array.getD_eq_getD_getElem?,Array.getElem?_replicate];grind
   ·exact ao.1.elim
theorem ag5{β:Type}{id:Nat}(dQ:C.P.follows .mixedOrders=true)(hT:dz C.P T)(cf:jc C.P a6)(cF:lM C.P C.aM Ψ)(aw:∀ o∈ops.toList,k4 o C.nt=true){k:az->M β}{O:β->Prop}
  (aj:∀ s' a' w',b' C s' a' w'->M.ca (k s') O->Q .normal a' w') {a:Act} {w:World} (aa:b' C s a w) (ao:M.ca (zH C.aM T a6 Ψ ops s k) O):(Code.region id ops true).wpIn (dy C.r) 0 C.P Q a w:=
 wpIn_region_any dQ (T2 hT cf cF aw aj aa ao)
theorem zV{ops:Array Oper}{j:Nat}{o:Oper}(h:ops[j]?=some o):(k6 ops.toList).toArray[j]?=some (if j=0 then o else { o with after:=o.after.push ⟨0,.phase⟩ }):=by
 obtain⟨l⟩:=ops;cases l with
 | nil=>simp at h
 | cons x l=>
  cases j with
  | zero=>simpa [k6]using h
  | succ j=>
   simp only[List.getElem?_toArray,List.getElem?_cons_succ]at h;simp[k6,h]
theorem Mh(ops:Array Oper):(k6 ops.toList).toArray.size=ops.size:=by
 obtain⟨l⟩:=ops;cases l<;>simp[k6]
theorem ag6{ops:Array Oper}{j:Nat}{o1:Oper}(h:(k6 ops.toList).toArray[j]?=some o1):∃ o,ops[j]?=some o/\o1=if j=0 then o else { o with after:=o.after.push ⟨0,.phase⟩ }:=by
 have aD:j<ops.size:=by rw[<-Mh];exact (Array.getElem?_eq_some_iff.1 h).1
 have:=zV (ops:=ops) (j:=j) (o:=ops[j]) (by simp[aD]);rw[h]at this;cases this;exact⟨ops[j],by simp[aD],rfl⟩
theorem ag7(ops:Array Oper):yielded (k6 ops.toList).toArray=yielded ops:=by
 funext t j;unfold yielded;cases h:ops[j]? with
 | none=>
  have:(k6 ops.toList).toArray[j]?=none:=by
   rw[Array.getElem?_eq_none_iff,Mh];exact Array.getElem?_eq_none_iff.1 h
  rw[this]
 | some o=>
  rw[zV h];by_cases aD:j=0
  ·rw[if_pos aD]
  ·rw[if_neg aD];rfl
theorem ag8{F:Fence}{P:Program}:∀ (bZ:Nat) (listed:Array Bool) (a:Act) (w:World),listed.getD 0 false=true->wpAnyIn F 0 P .any (k6 ops.toList).toArray Q bZ listed a w->wpAnyIn F 0 P .any ops Q bZ listed a w:=by
 have ob:∀ (listed:Array Bool),listed.getD 0 false=true->∀ i,i∈Region.ready .any ops listed->i∈Region.ready .any (k6 ops.toList).toArray listed:=by
  intro listed h0 i G;rw[mem_ready]at G ⊢;obtain⟨h1,o,ah,h2⟩:=G;refine⟨h1,_,zV ah,λe he ad=>?_⟩;split at he
  ·exact h2 e he ad
  ·rcases Array.mem_push.1 he with he | rfl
   ·exact h2 e he ad
   ·exact h0
 have ag9:∀ (listed:Array Bool),Region.ready .any ops listed=[]->Region.ready .any (k6 ops.toList).toArray listed=[]:=by
  intro listed h;rw[List.eq_nil_iff_forall_not_mem]at h ⊢;intro i G;refine h i ?_;rw[mem_ready]at G ⊢;obtain⟨h1,o1,ah,h2⟩:=G;obtain⟨o,j8,rfl⟩:=ag6 ah;refine⟨h1,o,j8,λe he ad=>h2 e ?_ ad⟩;split
  ·exact he
  ·exact Array.mem_push_of_mem _ he
 have ag_:∀ (listed:Array Bool),listed.getD 0 false=true->Region.ready .any (k6 ops.toList).toArray listed=[]->Region.ready .any ops listed=[]:=by
  intro listed h0 h;rw[List.eq_nil_iff_forall_not_mem]at h ⊢;exact λi G=>h i (ob listed h0 i G)
 intro bZ;induction bZ with
 | zero=>
  intro listed a w h0 h;exact⟨ag_ listed h0 h.1,h.2⟩
 | succ bZ aJ=>
  intro listed a w h0 h;refine⟨λaa=>h.1 (ag9 listed aa),λi G=>?_⟩;have aj:=h.2 i (ob listed h0 i G);have next:∀ a w,wpAnyIn F 0 P .any (k6 ops.toList).toArray Q bZ (listed.setIfInBounds i true) a w->wpAnyIn F 0 P .any ops Q bZ (listed.setIfInBounds i true) a w:=λa w=>aJ _ a w (getD_set_true h0)
  have aj:=wpOpIn_mono next aj
  unfold wpOpIn at aj ⊢;rw[mem_ready]at G;obtain⟨_,o,ah,_⟩:=G;rw[ah];rw[zV ah,ag7]at aj;by_cases od:i=0
  ·rw[if_pos od]at aj;exact aj
  ·rw[if_neg od]at aj;exact aj
theorem ag'{β:Type}{id:Nat}(dQ:C.P.follows .mixedOrders=true)(aha:C.r=none)(au:Lh ops=true)(hT:dz C.P T)(cf:jc C.P a6)(cF:lM C.P C.aM Ψ)(aw:∀ o∈ops.toList,k4 o C.nt=true){k:az->M β}{O:β->Prop}
  (aj:∀ s' a' w',b' C s' a' w'->M.ca (k s') O->Q .normal a' w') {a:Act} {w:World} (aa:b' C s a w) (ao:M.ca (zH C.aM T a6 Ψ (k6 ops.toList).toArray s k) O):(Code.region id ops true).wpIn (dy C.r) 0 C.P Q a w:=by
 refine wpIn_mono (Q:=λe a w=>e=.normal/\Q e a w) (wpIn_region_any dQ ?_) λe a w h=>h.2;have hI:=T2 (Q:=λe a w=>e=.normal/\Q e a w) (ops:=(k6 ops.toList).toArray) hT cf cF (λo ah=>?_) (λs' a' w' h1 h2=>⟨rfl,aj s' a' w' h1 h2⟩) aa ao
 ·rw[Mh]at hI;have ra:(dy C.r).round=none:=by rw[aha];rfl
  unfold Lh at au;split at au
  ·cases au
  ·rename_i o l an;simp only[Bool.and_eq_true,List.all_eq_true,Bool.or_eq_true]at au;obtain⟨h1,h2,h3,aT,bx⟩:=au;have h0:ops[0]?=some o:=by rw[<-Array.getElem?_toList,an];rfl
   obtain⟨m,ao⟩:∃ m,ops.size=m+1:=⟨l.length,by rw[<-Array.length_toList,an];rfl⟩
   rw[ao]at hI ⊢;have aA:o.guard=none:=by simpa using h2
   have iD:∀ (ops:Array Oper),ops[0]?=some o->0∈Region.ready .any ops (Array.replicate (m+1) false):=λops h=>by
    rw[mem_ready];refine⟨by simp,o,h,λe he=>?_⟩;rw[Array.isEmpty_iff.1 h3]at he;simp at he
   have kJ:∃ x,o.op=.move x:=by
    revert h1;cases o.op<;>simp
   obtain⟨x,hx⟩:=kJ;have aO:YieldsFenced C.P ops o (a.eval x) a:=⟨.inl ⟨by unfold Region.wanted;rw[aA],λw=>by simp[execOp,hx]⟩,λw=>by unfold Oper.about;rw[hx]⟩
   have fF:=hI.2 0 (iD _ (by rw[zV h0];rfl));unfold wpOpIn at fF;rw[zV h0]at fF;simp only[if_true]at fF;rw[show Region.wanted o (yielded (k6 ops.toList).toArray a.tmps)=true by unfold Region.wanted;rw[aA],if_pos rfl]at fF;have fF:wpAnyIn (dy C.r) 0 C.P .any (k6 ops.toList).toArray (λe a w=>e=.normal/\Q e a w) m ((Array.replicate (m+1) false).setIfInBounds 0 true) (a.put o.dst (a.eval x)) w.drew:=by
    have:=fF.2;rw[ra,Oper.semAt_none]at this;simpa [execOp,hx,Oper.uponIn]using this
   refine wpAnyIn_first ra h0 (Region.noSelect_spec aT) (λc a w h=>by cases h.1) m _ a _ (λj q8 T3 ahb _ he=>?_) (iD _ h0) aO (ag8 m _ _ _ (by simp) fF);have jF:q8∈l:=by
    rw[<-Array.getElem?_toList,an]at T3;cases j with
    | zero=>exact absurd rfl ahb
    | succ j=>exact List.mem_of_getElem? T3
   rcases bx q8 jF with h | h
   ·exfalso;have h:0∈hY q8:=by simpa using h
    obtain⟨e,ahc,w4⟩:=List.mem_filterMap.1 h;split at w4
    ·rename_i ad;exact he e (by simpa using ahc) ad (by simpa using w4)
    ·cases w4
   ·exact h
 ·have ah:o∈(k6 ops.toList):=by simpa using ah
  obtain⟨ol⟩:=ops;cases ol with
  | nil=>cases ah
  | cons x l=>
   rcases List.mem_cons.1 ah with rfl | ah
   ·exact aw _ (by simp)
   ·obtain⟨p,hp,rfl⟩:=List.mem_map.1 ah;have:=aw p (by simp[hp]);exact this
end
end Go.Fer
namespace Go.Fer
open Go.RowKit
theorem gi{β:Type}{O:β->Prop}(h:M.ca (M.fail:M β) O):False:=h.1
theorem tN{β:Type}{sh:dp}{s:az}{k:sh.ai->M β}{O:β->Prop}(h:M.ca (sh.mL s k) O):∃ A,sh.iR s=some A/\M.ca (k A) O:=by
 unfold dp.mL at h;split at h
 ·grind
 ·exact (gi h).elim
def ot(B:Nat):Deferred:={ target:=.collected B,args:=#[] }
structure nM where
 w:World
 K:Nat->Prop
 ms:List Nat
def bS.gT(C:bS)(u:nM):bS:={ C with w0:=u.w,K0:=u.K,dfr:=u.ms.map ot++C.dfr }
structure bS.jG(C:bS)(u:nM):Prop where
 sd:∀ B∈u.ms,u.K B/\u.w.heap[B]?=some (.deferred (some []))
 ea:∀ B∈u.ms,¬C.K0 B/\C.w0.heap.size<=B
 mg:u.ms.Nodup
 gU:∀ r,C.K0 r->u.K r
 eg:∀ r,C.K0 r->u.w.heap[r]?=C.w0.heap[r]?
 size:C.w0.heap.size<=u.w.heap.size
 dV:cN C.w0 u.w
def bS.hl(C:bS):nM:=⟨C.w0,C.K0,[]⟩
theorem bS.vh(C:bS):C.jG C.hl:=⟨λ_ h=>by simp[bS.hl]at h,λ_ h=>by simp[bS.hl]at h,List.nodup_nil,λ_ h=>h,λ_ _=>rfl,Nat.le_refl _,cN.refl _⟩
def nM.then(u v:nM):nM:=⟨v.w,v.K,v.ms++u.ms⟩
theorem bS.zW(C:bS)(u v:nM):(C.gT u).gT v=C.gT (u.then v):=by
 simp[bS.gT,nM.then]
theorem bS.jG.then{C:bS}{u v:nM}(h:C.jG u)(k:(C.gT u).jG v):C.jG (u.then v) where
 sd:=λB aN=>by
  rcases List.mem_append.1 aN with aN | aN
  ·exact k.sd B aN
  ·obtain⟨h1,h2⟩:=h.sd B aN;exact⟨k.gU B h1,(k.eg B h1).trans h2⟩
 ea:=λB aN=>by
  rcases List.mem_append.1 aN with aN | aN
  ·obtain⟨h1,h2⟩:=k.ea B aN;exact⟨λh3=>h1 (h.gU B h3),Nat.le_trans h.size h2⟩
  ·exact h.ea B aN
 mg:=List.nodup_append.2 ⟨k.mg,h.mg,λa aU b ad e=>(k.ea a aU).1 (e ▸ (h.sd b ad).1)⟩
 gU:=λr aa=>k.gU r (h.gU r aa)
 eg:=λr aa=>(k.eg r (h.gU r aa)).trans (h.eg r aa)
 size:=Nat.le_trans h.size k.size
 dV:=h.dV.trans k.dV
theorem bc.T4{C:bS}{s:az}{a:Act}{w:World}{κ:Nat->bo}{F F':Nat->Prop}(h:bc C s a w κ F){w0 w':World}{F0 K0:Nat->Prop}{nt:Nat}{dfr:List Deferred}{r:Option Nat}{sl:Nat->aF}{a':Act}
    (Mi:a'.tmps.size=nt) (Mj:a'.defers=dfr) (rb:nt<=eC) (hsl:∀ i,bl C.P s.ae κ F w (sl i) (a'.tmps.getD i undef)) (o6:∀ l aK L n st,sl TRS≠.tr l aK L n st)
    (heq:∀ r,F r\/(∃ b,(s.ae b).body.bN (κ b)=true/\(κ b).ae=r)->w'.heap[r]?=w.heap[r]?) (bV:w.heap.size<=w'.heap.size)
    (bd:∀ r,F r->F' r) (ja:∀ r,F' r->r<w'.heap.size) (De:∀ b,(s.ae b).body.bN (κ b)=true->¬F' (κ b).ae)
    (Mk:∀ r,F' r->F0 r\/¬K0 r) (Ml:∀ r,F0 r->F' r) (Df:∀ r,K0 r->r<w0.heap.size) (tO:∀ r,K0 r->w'.heap[r]?=w0.heap[r]?) (fS:∀ b,(s.ae b).body.bN (κ b)=true->¬K0 (κ b).ae)
    (mO:w0.heap.size<=w'.heap.size) (hc:cN w0 w') :
    bc { C with w0:=w0,F0:=F0,K0:=K0,nt:=nt,dfr:=dfr,r:=r } ⟨sl,s.ae⟩ a' w' κ F':=by
  have he:cJ F w w':=⟨bV,λr aa=>heq r (.inl aa)⟩
  exact {
          dn:=Mi,dfr:=Mj,bG:=λi=>bl.later (fe.refl _ _) bd he (hsl i)
          bq:=λb=>cj.kX (h.bq b) (fe.refl _ _) bd he rfl rfl λah=>heq _ (.inr ⟨b,ah,rfl⟩)
          own:=λb ad=>⟨Nat.lt_of_lt_of_le (h.own b ad).1 bV,De b ad,fS b ad⟩,inj:=h.inj,cM:=ja
          gO:=Mk,hE:=Ml,g_:=Df,eg:=tO,size:=mO,dV:=hc,fR:=rb,kg:=h.kg,jv:=h.jv,jX:=h.jX,kh:=h.kh,pro:=λl aK L n st e=>(o6 l aK L n st e).elim,jw:=h.jw,im:=h.im.mono bd he }
theorem bc.vj{C:bS}{s:az}{a:Act}{w:World}{κ:Nat->bo}{F:Nat->Prop}(h:bc C s a w κ F){w0 w':World}{F0 K0:Nat->Prop}{nt:Nat}{dfr:List Deferred}{r:Option Nat}{sl:Nat->aF}{a':Act}
  (Mi:a'.tmps.size=nt) (Mj:a'.defers=dfr) (rb:nt<=eC) (hsl:∀ i,bl C.P s.ae κ F w (sl i) (a'.tmps.getD i undef)) (o6:∀ l aK L n st,sl TRS≠.tr l aK L n st)
  (heq:∀ r,F r\/(∃ b,(s.ae b).body.bN (κ b)=true/\(κ b).ae=r)->w'.heap[r]?=w.heap[r]?) (bV:w.heap.size<=w'.heap.size)
  (Mk:∀ r,F r->F0 r\/¬K0 r) (Ml:∀ r,F0 r->F r) (Df:∀ r,K0 r->r<w0.heap.size) (tO:∀ r,K0 r->w'.heap[r]?=w0.heap[r]?) (fS:∀ b,(s.ae b).body.bN (κ b)=true->¬K0 (κ b).ae)
  (mO:w0.heap.size<=w'.heap.size) (hc:cN w0 w') :
  bc { C with w0:=w0,F0:=F0,K0:=K0,nt:=nt,dfr:=dfr,r:=r } ⟨sl,s.ae⟩ a' w' κ F:=
 h.T4 Mi Mj rb hsl o6 heq bV (λ_ h=>h) (λr aa=>Nat.lt_of_lt_of_le (h.cM r aa) bV) (λb ad=>(h.own b ad).2.1) Mk Ml Df tO fS mO hc
theorem bc.GM{C:bS}{s:az}{a:Act}{w:World}{κ:Nat->bo}{F:Nat->Prop}(h:bc C s a w κ F){w0 w':World}{K0:Nat->Prop}{r:Option Nat}
    (iC:∀ r,K0 r->C.K0 r) (heq:∀ r,F r\/¬C.K0 r->w'.heap[r]?=w.heap[r]?) (bV:w.heap.size<=w'.heap.size) (xD:cN w w')
    (Df:∀ r,K0 r->r<w0.heap.size) (tO:∀ r,K0 r->w'.heap[r]?=w0.heap[r]?) (mO:w0.heap.size<=w'.heap.size) (hc:cN w0 w') :
    bc { C with w0:=w0,K0:=K0,r:=r } s a w' κ F:=by
  have he:cJ F w w':=⟨bV,λr aa=>heq r (.inl aa)⟩
  have ja:∀ r,F r->r<w'.heap.size:=λr aa=>Nat.lt_of_lt_of_le (h.cM r aa) bV;exact {
          dn:=h.dn,dfr:=h.dfr,bG:=λi=>bl.later (fe.refl _ _) (λ_ h=>h) he (h.bG i)
          bq:=λb=>cj.kX (h.bq b) (fe.refl _ _) (λ_ h=>h) he rfl rfl λah=>heq _ (.inr (h.own b ah).2.2)
          own:=λb ad=>⟨Nat.lt_of_lt_of_le (h.own b ad).1 bV,(h.own b ad).2.1,λk=>(h.own b ad).2.2 (iC _ k)⟩,inj:=h.inj,cM:=ja
          gO:=λr aa=>(h.gO r aa).imp id λk k'=>k (iC r k'),hE:=h.hE,g_:=Df,eg:=tO,size:=mO,dV:=hc,fR:=h.fR,kg:=h.kg,jv:=h.jv,jX:=h.jX,kh:=h.kh
          pro:=λl aK L n st e=>by
            obtain⟨h1,h2,Y,h3,aT,bx⟩:=h.pro l aK L n st e;exact⟨h1,h2,Y,λr aa=>⟨Nat.lt_of_lt_of_le (h3 r aa).1 bV,(h3 r aa).2.1,λk=>(h3 r aa).2.2 (iC r k)⟩,aT,h2.JM bx (λ_ h=>h) (λr aa=>heq r (aa.imp id λaO=>(h3 r aO).2.2)) bV xD ja λr au aO=>(h3 r aO).2.1 au⟩
          jw:=h.jw,im:=h.im.mono (λ_ h=>h) he }
theorem T5{P:Program}{H:Nat->bw}{κ:Nat->bo}{F:Nat->Prop}{w:World}{aK:af}{x:aK.ai}:∀ (ps:List Tmp) (args:List Value) (j:Nat) (f:Nat->aF) (oo:Array Value),ps.length=args.length->(∀ p∈ps,p<oo.size)->
  (∀ i,bl P H κ F w (f i) (oo.getD i undef))->(∀ i,i<args.length->bl P H κ F w (kl aK x (j+i)) (args.getD i undef))->
  ∀ i,bl P H κ F w (zI aK x ps j f i) (((ps.zip args).foldl (λtmps p=>tmps.setIfInBounds p.1 p.2) oo).getD i undef)
 | [],[],_,_,_,_,_,au,_,i=>au i
 | p::ps,v::args,j,f,oo,an,hp,au,hv,i=>by
  simp only[zI,List.zip_cons_cons,List.foldl_cons];refine T5 ps args (j+1) _ _ (by grind) (λq bf=>by grind) (λi=>?_) (λi G=>?_) i
  ·rw[Array.getD_eq_getD_getElem?,Array.getElem?_setIfInBounds];by_cases e:i=p
   ·grind
   ·rw[if_neg e,if_neg (Ne.symm e)];simp_all
  ·have:=hv (i+1) (by grind);grind
theorem ahd{ps:List Tmp}{args:List Value}:∀ {oo:Array Value},((ps.zip args).foldl (λtmps p=>tmps.setIfInBounds p.1 p.2) oo).size=oo.size:=by
 generalize ps.zip args=l;induction l with
 | nil=>simp
 | cons p l aJ=>grind
def se:cT->Option Code
 | .normal=>none
 | .exit id=>some (.exit id)
 | .ret=>some .ret
def eU(fn:FuncId)(oo:Array Value)(ps:Array Tmp)(assign body:Code)(B:Nat)(st:LoopState)(e:cT):Loop:=
 { state:=st,pending:=se e,fn:=fn,tmps:=oo,params:=ps,assign:=assign,body:=body,defers:=B }
def GN(P:Program)(aM:dm)(nt:Nat)(assign body:Code)(l:Nat){rout:dp}(run:az->M (cT×rout.ai)):Prop:=
 ∀ (C1:bS),C1.P=P->C1.aM=aM->C1.nt=nt->C1.r=some l->∀ (eh:az) (bR:Act) (bY:World) (qc:cT×rout.ai->Prop),b' C1 eh bR bY->M.ca (run eh) qc->
  assign.wpIn (dy (some l)) 0 P (Exit.then (λa2 cy=>∃ u du,C1.jG u/\b' (C1.gT u) du a2 cy/\
   ∀ (hb:bS),hb.P=P->hb.aM=aM->hb.nt=nt->hb.r=some l->∀ (cy:World),b' hb du a2 cy->
    body.wpIn (dy (some l)) 0 P (λe a3 eo=>∃ (aV:cT) (v:nM) (ek:az) (τ:rout.ai),e=aV.pc/\hb.jG v/\b' (hb.gT v) ek a3 eo/\rout.iR ek=some τ/\qc (aV,τ)) a2 cy) (λ_ _ _=>False)) bR bY
theorem ahe{ts:List (Nat×bK)}{R:Type}(h:ts.isEmpty=true)(g:Nat->Nat×Nat)(z:oe ts R)(i:Nat):ff (ed g ts z).1 i=.undef:=by
 cases ts with
 | nil=>rfl
 | cons p ts=>cases h
theorem ahf{P:Program}{l:Nat}{R:Ending->World->Prop}{e:cT}{a:Act}{w:World}{r:Loop}(h:w.heap[l]?=some (.loop r))
  (jH:R (.returned (.bool (se e).isNone)) (w.putObj l (.loop { r with state:=if (se e).isNone then .ready else .done,pending:=se e }))):roundPost P l R e.pc a w:=by
 cases e with
 | normal=>exact⟨_,_,run_endRound none h,jH⟩
 | exit id=>exact⟨_,_,run_endRound (some (.exit id)) h,jH⟩
 | ret=>exact⟨_,_,run_endRound (some .ret) h,jH⟩
theorem ahg{CI:bS}{sh rin rout:dp}{aK:af}{ps:Array Tmp}{assign body:Code}{a:Act}{W:World}{κ:Nat->bo}{F:Nat->Prop}{A:sh.ai}{fn:FuncId}{l B:Nat}{x:aK.ai}{args:List Value}{run:az->M (cT×rout.ai)}
  {Or:cT×sh.ai->Prop} {Y Z:Nat->Prop} (ahh:Z l)
  (aa:bc CI (sh.st A) a W κ F) (dJ:nJ sh rout aK ps.toList a.tmps.size=true) (Dg:GN CI.P CI.aM a.tmps.size assign body l run) (ao:M.ca (tE sh rin rout aK ps.toList A x run) Or)
  (an:W.heap[l]?=some (.loop (eU fn a.tmps ps assign body B .ready .normal))) (ahi:¬F l) (rS:∀ b,((sh.st A).ae b).body.bN (κ b)=true->Y (κ b).ae/\¬Z (κ b).ae) (dF:fb CI.P aK F W args x) :
  ∃ tmps,(Instr.yield l args.toArray).run CI.P W=.ok (.round l fn tmps assign body) W/\RoundIn Fence.wide 0 CI.P l fn tmps assign body W λe qd=>
   ∃ (e0:cT) (iA:sh.ai) (κ':Nat->bo) (F':Nat->Prop) (o:Obj),e=.returned (.bool (se e0).isNone)/\Or (e0,iA)/\qd.heap[l]?=some (.loop (eU fn a.tmps ps assign body B (if (se e0).isNone then .ready else .done) e0))/\
    bc { CI with w0:=W.putObj l o,F0:=F,K0:=λr=>r<W.heap.size/\(Z r\/¬Y r) } (sh.st iA) a qd κ' F':=by
 simp only[nJ,Bool.and_eq_true,decide_eq_true_eq,Bool.not_eq_true',List.all_eq_true]at dJ;obtain⟨⟨⟨⟨aP,aQ⟩,bB⟩,gf⟩,o5⟩:=dJ;have zX:l<W.heap.size:=(Array.getElem?_eq_some_iff.1 an).1;obtain⟨iq,GO⟩:=tp (H:=(sh.st A).ae) (κ:=κ) aK dF bB;have o6:(sh.st A).ax TRS=.undef:=xq sh.bG cL A TRS aQ;have Fo:(Array.zip ps args.toArray).foldl (λtmps (x:Tmp×Value)=>match x with | (t,a)=>tmps.setIfInBounds t a) a.tmps=(ps.toList.zip args).foldl (λtmps p=>tmps.setIfInBounds p.1 p.2) a.tmps:=by
  rw[<-Array.foldl_toList];simp
 refine⟨(ps.toList.zip args).foldl (λtmps p=>tmps.setIfInBounds p.1 p.2) a.tmps,?_,?_⟩
 ·rw[<-Fo];exact run_yield an (by show args.toArray.size=ps.size;grind)
 have ahj:bc { CI with w0:=W,F0:=F,K0:=λr=>r<W.heap.size/\(Z r\/¬Y r) } (sh.st A) a W κ F:=
  aa.vj aa.dn aa.dfr aa.fR aa.bG (λl aK L n st e=>by have e:(sh.st A).ax TRS=.tr l aK L n st:=e;grind) (λ_ _=>rfl) (Nat.le_refl _) (λ_ h=>.inl h) (λ_ h=>h) (λ_ h=>h.1) (λ_ _=>rfl)
   (λb ad h=>h.2.elim (rS b ad).2 λh=>h (rS b ad).1) (Nat.le_refl _) (cN.refl _)
 unfold tE at ao;split at ao
 ·rename_i aG fl ahk;split at ao
  ·rename_i ct;rw[M.fJ]at ao;have gr:bc { CI with w0:=W,F0:=F,K0:=λr=>r<W.heap.size/\(Z r\/¬Y r),nt:=a.tmps.size,dfr:=[],r:=none } ⟨(xk (sh.st A) aK x ps.toList).ax,(sh.st A).ae⟩ { tmps:=(ps.toList.zip args).foldl (λtmps p=>tmps.setIfInBounds p.1 p.2) a.tmps,defers:=[] } W κ F:=by
    refine aa.vj ahd rfl (by rw[aa.dn];exact aa.fR) (λi=>?_) (λl' kr L' iO ib e=>?_) (λ_ _=>rfl) (Nat.le_refl _) (λ_ h=>.inl h) (λ_ h=>h) (λ_ h=>h.1) (λ_ _=>rfl)
     (λb ad h=>h.2.elim (rS b ad).2 λh=>h (rS b ad).1) (Nat.le_refl _) (cN.refl _)
    ·show bl CI.P (sh.st A).ae κ F W (if i=TRS then (sh.st A).ax TRS else zI aK x ps.toList 0 (sh.st A).ax i) _;split
     ·rw[o6];trivial
     ·exact T5 ps.toList args 0 _ _ (by omega) (λp hp=>by grind) aa.bG (λi G=>by grind) i
    ·have e:(if TRS=TRS then (sh.st A).ax TRS else zI aK x ps.toList 0 (sh.st A).ax TRS)=.tr l' kr L' iO ib:=e;grind
   obtain⟨F',own,f',h6,f1,aY,fS,Dh,axy,CT,LO⟩:=Td (c:=u_ rin rout) ahj gr (by rfl) ahk rfl ct;have Mm:l<W.heap.size/\(Z l\/¬Y l):=⟨zX,.inl ahh⟩
   have T6:¬F' l:=λh=>(aY.gO l h).elim ahi λh=>h Mm;have ahl:¬own l:=λh=>by
    obtain⟨b,h1,h2⟩:=fS l h;exact (aY.own b h1).2.2 (h2 ▸ Mm)
   have ahm:¬f' l:=λh=>(Dh.low l h).2.2 Mm;have T7:l<W.heap.size/\¬own l/\¬f' l:=⟨zX,ahl,ahm⟩
   have GP:bc { q6 CI W F' a.tmps.size own f' h6 with r:=some l } (rin.st aG) _ W _ F':=CT.GM (w0:=W) (w':=W) (K0:=λr=>r<W.heap.size/\¬own r/\¬f' r) (r:=some l) (λ_ h=>h) (λ_ _=>rfl) (Nat.le_refl _) (cN.refl _) (λ_ h=>h.1) (λ_ _=>rfl) (Nat.le_refl _) (cN.refl _);refine roundIn_of_wpIn trivial ?_;refine wpIn_mono (Dg { q6 CI W F' a.tmps.size own f' h6 with r:=some l } rfl rfl rfl rfl (rin.st aG) _ W _ ⟨_,_,GP⟩ ao) λe a2 cy bf=>?_;cases e with
   | normal=>
    obtain⟨u,du,hu,⟨mN,dP,cu⟩,bE⟩:=bf;have sf:u.K l:=hu.gU l T7;have fV:cy.heap[l]?=some (.loop (eU fn a.tmps ps assign body B .ready .normal)):=(cu.eg l sf).trans ((hu.eg l T7).trans an);refine⟨_,run_beginRound fV rfl,?_⟩;have ahn:l<cy.heap.size:=(Array.getElem?_eq_some_iff.1 fV).1;have aho:¬dP l:=λh=>(cu.gO l h).elim T6 λh=>h sf;have ou:=cu.GM (w0:=cy.putObj l (.loop (eU fn a.tmps ps assign body B .busy .normal))) (w':=cy.putObj l (.loop (eU fn a.tmps ps assign body B .busy .normal))) (K0:=u.K) (r:=some l) (λ_ h=>h)
     (λr h=>World.putObj_heap_other λe=>by
      subst e;exact h.elim aho λh=>h sf) (by simp) ⟨rfl,rfl,rfl⟩ (λr h=>by
       have:=cu.g_ r h;have:=cu.size;simp;omega) (λ_ _=>rfl) (Nat.le_refl _) (cN.refl _)
    refine wpIn_mono (bE { ({ q6 CI W F' a.tmps.size own f' h6 with r:=some l }:bS).gT u with w0:=cy.putObj l (.loop (eU fn a.tmps ps assign body B .busy .normal)),K0:=u.K,r:=some l } rfl rfl rfl rfl _ ⟨mN,dP,ou⟩) λe a3 eo ⟨aV,v,ek,τ,he,hv,⟨GQ,T8,mh⟩,hτ,GR⟩=>?_;subst he;obtain⟨GQ,T9,f4,ov⟩:=dp.zK hτ mh;have wX:v.K l:=hv.gU l sf;have GS:eo.heap[l]?=some (.loop (eU fn a.tmps ps assign body B .busy .normal)):=(ov.eg l wX).trans ((hv.eg l sf).trans (World.putObj_heap_same ahn));have T_:l<eo.heap.size:=(Array.getElem?_eq_some_iff.1 GS).1;have axz:¬T9 l:=λh=>(ov.gO l h).elim T6 λh=>h wX;generalize fF:(if (se aV).isNone then LoopState.ready else .done)=ib;refine ahf GS ?_;rw[fF];have mc:bc { CI with w0:=W.putObj l (.loop (eU fn a.tmps ps assign body B ib aV)),F0:=F,K0:=λr=>r<W.heap.size/\(Z r\/¬Y r) } ((sh.st A).cd fl) a (W.putObj l (.loop (eU fn a.tmps ps assign body B ib aV))) κ F':=
     aY.GM (λ_ h=>h) (λr h=>World.putObj_heap_other λe=>by
      grind) (by simp) ⟨rfl,rfl,rfl⟩ (λr h=>by simpa using h.1) (λ_ _=>rfl) (Nat.le_refl _) (cN.refl _)
    have zO:W.heap.size<=eo.heap.size:=by
     have h1:=hu.size;have h2:=cu.size;have h3:=hv.size;have aT:=ov.size;have h1:W.heap.size<=u.w.heap.size:=h1;have h2:u.w.heap.size<=cy.heap.size:=h2;have h3:(cy.putObj l (.loop (eU fn a.tmps ps assign body B .busy .normal))).heap.size<=v.w.heap.size:=h3;have aT:v.w.heap.size<=eo.heap.size:=aT;simp only[World.putObj_size]at h3;omega
    have xE:cN W eo:=by
     have h1:cN W u.w:=hu.dV;have h2:cN u.w cy:=cu.dV;have h3:cN cy v.w:=⟨hv.dV.os,hv.dV.tape,hv.dV.output⟩
     exact h1.trans (h2.trans (h3.trans ov.dV))
    have ahp:∀ i,(rout.st τ).ax i=.undef:=λi=>ahe aP cL τ i;have lJ:∀ r,(r<(W.putObj l (.loop (eU fn a.tmps ps assign body B ib aV))).heap.size/\¬own r/\¬f' r)->(r<W.heap.size/\¬own r/\¬f' r):=λr h=>⟨by simpa using h.1,h.2⟩
    have hq:=ov.vj (w0:=W.putObj l (.loop (eU fn a.tmps ps assign body B ib aV))) (w':=eo.putObj l (.loop (eU fn a.tmps ps assign body B ib aV))) (F0:=F') (K0:=λr=>r<(W.putObj l (.loop (eU fn a.tmps ps assign body B ib aV))).heap.size/\¬own r/\¬f' r) (nt:=0) (dfr:=[]) (r:=none) (sl:=(rout.st τ).ax) (a':={ tmps:=#[],defers:=[] }) rfl rfl (Nat.zero_le _)
     (λi=>by rw[ahp];trivial) (λl aK L n st e=>by grind)
     (λr h=>World.putObj_heap_other λe=>by
      subst e;rcases h with h | ⟨b,h1,h2⟩
      ·grind
      ·exact (ov.own b h1).2.2 (h2 ▸ wX)) (by simp) (λr h=>(ov.gO r h).imp id λh da=>h (hv.gU r (hu.gU r (lJ r da)))) ov.hE (λr h=>h.1)
     (λr h=>by
      by_cases e:r=l
      ·subst e;rw[World.putObj_heap_same T_,World.putObj_heap_same zX]
      ·rw[World.putObj_heap_other e,World.putObj_heap_other e];have h1:u.K r:=hu.gU r (lJ r h);exact (ov.eg r (hv.gU r h1)).trans ((hv.eg r h1).trans ((World.putObj_heap_other e).trans ((cu.eg r h1).trans (hu.eg r (lJ r h))))))
     (λb ad h=>(ov.own b ad).2.2 (hv.gU _ (hu.gU _ (lJ _ h)))) (by simpa using zO) ⟨xE.os,xE.tape,xE.output⟩
    obtain⟨κn,nL,_⟩:=LO (W.putObj l (.loop (eU fn a.tmps ps assign body B ib aV))) (W.putObj l (.loop (eU fn a.tmps ps assign body B ib aV))) mc ⟨λl' kr L' iO ib e=>(by
      grind),λr h=>⟨by simpa using (Dh.low r h).1,(Dh.low r h).2⟩,Dh.own,Dh.non⟩ τ [] (eo.putObj l (.loop (eU fn a.tmps ps assign body B ib aV))) GQ T9 hq
    obtain⟨iA,Mn,ahq⟩:=tN GR;obtain⟨κn,ahr,_,ahs⟩:=dp.zK Mn nL;exact⟨aV,iA,κn,ahr,(.loop (eU fn a.tmps ps assign body B ib aV)),rfl,M.dI.1 ahq,by rw[fF];exact World.putObj_heap_same T_,ahs⟩
   | _=>exact bf.elim
  ·exact ao.1.elim
 ·exact ao.1.elim
theorem T'{w:World}{o hF:Obj}{r:Nat}(h:r<w.heap.size):((w.alloc o).alloc hF).heap[r]?=w.heap[r]?:=
 (oT _ _ (by simp;omega)).trans (oT _ _ h)
def aht(C CI:bS){β:Type}(sh rin rout:dp)(aK:af)(D:List aK.ai->Prop)(ps:Array Tmp)(assign body:Code)(a:Act)(fn:FuncId)(l B:Nat)(run:az->M (cT×rout.ai))(k:cT->az->M β)(O:β->Prop)
  (st:Bool) (F Y:Nat->Prop) (W:World):Prop:=
 ∃ (e:cT) (A:sh.ai) (κ:Nat->bo),bc CI (sh.st A) a W κ F/\W.heap[l]?=some (.loop (eU fn a.tmps ps assign body B (if st then .done else .ready) e))/\W.heap[B]?=some (.deferred (some []))/\
  (∀ b,((sh.st A).ae b).body.bN (κ b)=true->Y (κ b).ae/\¬((κ b).ae=l\/(κ b).ae=B))/\Y l/\Y B/\¬F l/\¬F B/\C.P=CI.P/\
  (st=false->e=.normal/\∀ R,D R->M.ca (jE (λA y=>tE sh rin rout aK ps.toList A y run) R A) λp=>M.ca (k p.1 (sh.st p.2)) O)/\(st=true->e≠.normal/\M.ca (k e (sh.st A)) O)
theorem Ua{C CI:bS}{β:Type}{sh rin rout:dp}{aK:af}{S:List aK.ai->Prop}{ps:Array Tmp}{assign body:Code}{a:Act}{fn:FuncId}{l B:Nat}{run:az->M (cT×rout.ai)}{k:cT->az->M β}{O:β->Prop}
  (iC:CI.K0=λ_=>False) (ahu:l≠B) (dJ:nJ sh rout aK ps.toList a.tmps.size=true) (Dg:GN CI.P CI.aM a.tmps.size assign body l run) :
  E0 CI.P (fb CI.P aK) l S λpre=>aht C CI sh rin rout aK (λR=>S (pre++R)) ps assign body a fn l B run k O where
 BD:=λ{pre st F F' Y w w'} h bd heq bV jB ja De=>by
  have hc:cN w w':=⟨jB.1,jB.2.1,jB.2.2⟩
  obtain⟨e,A,κ,aa,h1,h2,h3,aT,bx,c_,fN,iZ,pR⟩:=h;have o6:(sh.st A).ax TRS=.undef:=by
   simp only[nJ,Bool.and_eq_true,Bool.not_eq_true']at dJ;exact xq sh.bG cL A TRS dJ.1.1.1.2
  have tQ:∀ r,CI.K0 r->False:=λr h=>by grind
  refine⟨e,A,κ,?_,(heq l (.inr aT)).trans h1,(heq B (.inr bx)).trans h2,h3,aT,bx,λh=>De l h aT,λh=>De B h bx,iZ,pR⟩;exact aa.T4 aa.dn aa.dfr aa.fR aa.bG (λl' kr L' iO ib e=>by have e:(sh.st A).ax TRS=.tr l' kr L' iO ib:=e;grind)
   (λr aY=>heq r (aY.imp id λ⟨b,ad,e⟩=>e ▸ (h3 b ad).1)) bV bd ja (λb ad au=>De _ au (h3 b ad).1) (λr _=>.inr (tQ r)) (λr h=>bd r (aa.hE r h)) (λr h=>(tQ r h).elim) (λr h=>(tQ r h).elim) (λb _=>tQ _)
   (Nat.le_trans aa.size bV) (aa.dV.trans hc)
 yield:=λ{pre F Y w args x} h ja Ub hx dF=>by
  obtain⟨Mo,Mp⟩:=hx;obtain⟨e,A,κ,aa,h1,h2,h3,aT,bx,c_,fN,iZ,pR,_⟩:=h;obtain⟨rfl,ao⟩:=pR rfl;have o6:∀ A:sh.ai,(sh.st A).ax TRS=.undef:=λA=>by
   simp only[nJ,Bool.and_eq_true,Bool.not_eq_true']at dJ;exact xq sh.bG cL A TRS dJ.1.1.1.2
  have tQ:∀ r,CI.K0 r->False:=λr h=>by grind
  have ao:M.ca (tE sh rin rout aK ps.toList A x run) λp=>∀ T,S (pre++x::T)->M.ca (match p.1 with
    | .normal=>jE (λA y=>tE sh rin rout aK ps.toList A y run) T p.2
    | .exit id=>M.pure (.exit id,p.2)
    | .ret=>M.pure (.ret,p.2)) λp=>M.ca (k p.1 (sh.st p.2)) O:=by
   have h1:=λT hT=>M.fJ.1 (ao (x::T) hT);exact⟨(h1 Mo Mp).1,λy aO T hT=>(h1 T hT).2 y aO⟩
  obtain⟨tmps,aO,ahv⟩:=ahg (Z:=λr=>r=l\/r=B) (.inl rfl) aa dJ Dg ao h1 c_ h3 dF;refine⟨fn,tmps,assign,body,aO,ahv.mono λaV qd ⟨e0,iA,κ',F',o,he,GR,GU,aY⟩=>?_⟩;have zX:l<w.heap.size:=(Ub l aT).1;have Mq:B<w.heap.size:=(Ub B bx).1;have g1:∀ r,F r->F' r:=aY.hE;have dW:∀ r,F' r->F r\/Y r\/w.heap.size<=r:=λr cu=>by
   rcases aY.gO r cu with h | h
   ·exact .inl h
   ·by_cases bX:r<w.heap.size
    ·by_cases aO:Y r
     ·exact .inr (.inl aO)
     ·exact (h ⟨bX,.inr aO⟩).elim
    ·exact .inr (.inr (Nat.le_of_not_lt bX))
  have Uc:∀ r,r<w.heap.size->¬F r->(r=l\/r=B)->¬F' r:=λr bX au ba q9=>(aY.gO r q9).elim au λh=>h ⟨bX,.inl ba⟩;have Ud:¬F' l:=Uc l zX c_ (.inl rfl);have vf:¬F' B:=Uc B Mq fN (.inr rfl);have Ue:∀ b,((sh.st iA).ae b).body.bN (κ' b)=true->¬((κ' b).ae=l\/(κ' b).ae=B)/\(Y (κ' b).ae\/w.heap.size<=(κ' b).ae):=λb ad=>by
   have aj:=(aY.own b ad).2.2;grind
  have GV:w.heap.size<=qd.heap.size:=by have:=aY.size;simpa using this
  have gc:cN w qd:=⟨aY.dV.os,aY.dV.tape,aY.dV.output⟩
  have axA:∀ T,pre++[x]++T=pre++x::T:=λT=>by simp
  refine⟨(se e0).isNone,F',λr=>(∃ b,((sh.st iA).ae b).body.bN (κ' b)=true/\(κ' b).ae=r)\/r=l\/r=B,he,g1,dW,aY.cM,λr bX aO=>?_,λr cu=>?_,GV,⟨gc.os,gc.tape,gc.output⟩,?_⟩
  ·have dY:r≠l:=λe=>aO (e ▸ aT);exact (aY.eg r ⟨bX,.inr aO⟩).trans (World.putObj_heap_other dY)
  ·rcases cu with⟨b,ad,rfl⟩ | rfl | rfl
   ·exact⟨(Ue b ad).2,(aY.own b ad).1,(aY.own b ad).2.1⟩
   ·exact⟨.inl aT,Nat.lt_of_lt_of_le zX GV,Ud⟩
   ·exact⟨.inl bx,Nat.lt_of_lt_of_le Mq GV,vf⟩
  ·refine⟨e0,iA,κ',?_,?_,?_,λb ad=>⟨.inl ⟨b,ad,rfl⟩,(Ue b ad).1⟩,.inr (.inl rfl),.inr (.inr rfl),Ud,vf,iZ,λfF=>?_,λfF=>?_⟩
   ·exact aY.vj aY.dn aY.dfr aY.fR aY.bG (λl' kr L' iO ib e=>by have e:(sh.st iA).ax TRS=.tr l' kr L' iO ib:=e;grind) (λ_ _=>rfl) (Nat.le_refl _) (λr _=>.inr (tQ r)) (λr h=>g1 r (aa.hE r h))
     (λr h=>(tQ r h).elim) (λr h=>(tQ r h).elim) (λb _=>tQ _) (Nat.le_trans aa.size GV) (aa.dV.trans gc)
   ·grind
   ·exact (aY.eg B ⟨Mq,.inl (.inr rfl)⟩).trans ((World.putObj_heap_other (Ne.symm ahu)).trans h2)
   ·cases e0 with
    | normal=>grind
    | _=>cases fF
   ·cases e0 with
    | normal=>cases fF
    | exit id=>exact⟨by simp,(GR Mo Mp).2 _ rfl⟩
    | ret=>exact⟨by simp,(GR Mo Mp).2 _ rfl⟩
theorem Uf{P:Program}{l:Nat}{aK:af}{S:List aK.ai->Prop}{I:List aK.ai->Bool->(Nat->Prop)->(Nat->Prop)->World->Prop}(h:E0 P (fb P aK) l S I):lx.Ok P ⟨l,aK,S,I⟩ where
 BD:=λh1 h2 h3 aT bx c_ fN=>h.BD h1 h2 h3 aT ⟨bx.os,bx.tape,bx.output⟩ c_ fN
 yield:=λh1 h2 h3 aT bx=>YieldAt.mono (h.yield h1 h2 h3 aT bx) λ_ _ ⟨b,F',f',aP,aQ,bB,gf,o5,xr,GW,Di,Mr⟩=>⟨b,F',f',aP,aQ,bB,gf,o5,xr,GW,⟨Di.1,Di.2.1,Di.2.2⟩,Mr⟩
end Go.Fer
