/- Part 3 of the proof of Trials: shallow programs of Go functions, and what they compute. No condition. -/
import Derived.Test.YtplfnoecifjgeaaGreatDoorTrialsB
import Derived.RangeFuncIn
import Derived.RangeFuncRecord
import Derived.RangeFuncBound
noncomputable section
set_option linter.unusedVariables false
set_option linter.unusedSimpArgs false
namespace Go.Fer
open Go.RowKit
def od(x y:bB):Prop:=(y.fq=true->x.fq=true)/\(y.eU=true->x.eU=true/\y.len=x.len/\y.eH=x.eH)/\(y.gF=true->x.gF=true)/\(y.mv=true->x.mv=true)/\∀ k,y.bJ k=true->x.bJ k=true
theorem od.refl(x:bB):od x x:=⟨id,λh=>⟨h,rfl,rfl⟩,id,id,λ_=>id⟩
theorem od.ff(x:bB):od x .ff:=⟨λh=>(by cases h),λh=>(by cases h),λh=>(by cases h),λh=>(by cases h),λ_ h=>(by cases h)⟩
def r5(f:Nat->Nat)(H H':Nat->bu):Prop:=∀ b,(H' b).gen=0/\od (H (f b)).body (H' b).body
section
variable {P:Program} {H H':Nat->bu} {κ:Nat->bo} {F F':Nat->Prop} {w:World} {f:Nat->Nat}
theorem SB(aA:r5 f H H'){b off:Nat}{v:Value}(h:bl P H κ F w (.loc (f b) (H (f b)).gen off) v):bl P H' (λb=>κ (f b)) F' w (.loc b 0 off) v:=
 ⟨⟨Nat.zero_le _,h.1.2⟩,λ_ hc=>h.2 rfl ((aA b).2.1 hc)⟩
def Lb(P:Program)(H H':Nat->bu)(κ:Nat->bo)(f:Nat->Nat)(F F':Nat->Prop)(w:World){R:Type}(r:Option (R×List Nat))(l:List Nat)(av av':aD)(y:R):Prop:=
 ∃ m,r=some (y,m)/\(∀ b∈m,b∈l)/\(iJ H κ F' l->∀ v,bl P H κ F w av v->bl P H' (λb=>κ (f b)) F' w av' v)
theorem Lb.hl{R:Type}{r:Option (R×List Nat)}{l:List Nat}{av av':aD}{y:R}(h:r=some (y,l))(k:∀ v,bl P H κ F w av v->bl P H' (λb=>κ (f b)) F' w av' v):Lb P H H' κ f F F' w r l av av' y:=
 ⟨l,h,λ_ ab=>ab,λ_=>k⟩
theorem kp{aj:Type}{b:Bool}{r:Option aj}{x:aj}(h:u' b r=some x):b=true/\r=some x:=by
 cases b with
 | true=>exact⟨rfl,h⟩
 | false=>cases h
theorem pZ{t:af}{av:aD}{R:Type}{r:Option (R×List Nat)}{z:t.ah×R}{l:List Nat}(h:w8 H t av r=some (z,l)):∃ eR m,(dd t av).run H=some (z.1,eR)/\r=some (z.2,m)/\l=eR++m:=by
 unfold w8 at h;grind
theorem Lc{t:af}{av:aD}{R:Type}{r:Option (R×List Nat)}{z:t.ah×R}{l:List Nat}(h:KG t av r=some (z,l)):av=.dz t z.1/\r=some (z.2,l):=by
 unfold KG at h;grind
theorem Ld{b:Nat}{av:aD}{R:Type}{r:Option (R×List Nat)}{z:(Nat×Nat)×R}{l:List Nat}(h:KH H b av r=some (z,l)) :
  r=some (z.2,l)/\(av=.sub b (H b).gen z.1.1 z.1.2\/(av=.own b (H b).gen/\(H b).body.eU=true/\z.1=(0,(H b).body.len))):=by
 unfold KH at h;grind
theorem F6{aI:af}{av:aD}{R:Type}{r:Option (R×List Nat)}{z:(Nat×(List aI.ah->Prop)×List aI.ah×Bool)×R}{l:List Nat}(h:KI aI av r=some (z,l)) :
  r=some (z.2,l)/\av=.tr z.1.1 aI z.1.2.1 z.1.2.2.1 z.1.2.2.2:=by
 unfold KI at h;grind
theorem Le{b:Nat}{av:aD}{R:Type}{r:Option (R×List Nat)}{z:Nat×R}{l:List Nat}(h:KK H b av r=some (z,l)):r=some (z.2,l)/\av=.iI b (H b).gen z.1:=by
 unfold KK at h;grind
theorem Lf{av:aD}{R:Type}{r:Option (R×List Nat)}{z:Nat×R}{l:List Nat}(h:KJ av r=some (z,l)):r=some (z.2,l)/\av=.gM z.1:=by
 unfold KJ at h;grind
theorem SD{b off:Nat}{av:aD}(h:FE H b off av=true):av=.loc b (H b).gen off:=by
 unfold FE at h;grind
theorem SE{b:Nat}{av:aD}(h:FF H b av=true):av=.own b (H b).gen:=by
 unfold FF at h;grind
theorem aeN{b:Nat}{av:aD}(h:KL H b av=true):av=.fp b (H b).gen:=by
 unfold KL at h;grind
theorem aeO{b:Nat}{av:aD}(h:KM H b av=true):av=.jR b (H b).gen:=by
 unfold KM at h;grind
theorem aeP{av:aD}(h:KN av=true):av=.cR:=by
 unfold KN at h;grind
theorem aeQ(aA:r5 f H H'){k:FuncId}{fD:z8'}{av:aD}(h:KO H f k fD av=true){v:Value}(hv:bl P H κ F w av v):bl P H' (λb=>κ (f b)) F' w (.ih k fD.length (u9 cJ fD)) v:=by
 unfold KO at h;split at h
 ·rename_i k' n cF;simp only[Bool.and_eq_true,beq_iff_eq]at h;obtain⟨⟨rfl,rfl⟩,e⟩:=h;obtain⟨aB,h1,h2,h3⟩:=hv;refine⟨aB,h1,h2,λi E=>?_⟩;have he:=List.all_eq_true.1 e i (by grind);have hv:=h3 i E;rw[show fD[i]?=some fD[i] by simp]at he;rw[SD he]at hv;have:u9 cJ fD i=.loc fD[i].1 0 fD[i].2:=by simp[u9,gO,List.getD_eq_getElem?_getD,E,cJ]
  rw[this];exact SB aA hv
 grind
theorem aeR(aA:r5 f H H'){bs:List Nat}{av:aD}(h:KP H f bs av=true){v:Value}(hv:bl P H κ F w av v):bl P H' (λb=>κ (f b)) F' w (.agg bs.length (u_ cJ bs)) v:=by
 unfold KP at h;split at h
 ·rename_i n c6;simp only[Bool.and_eq_true,beq_iff_eq]at h;obtain⟨rfl,e⟩:=h;obtain⟨aB,h1,h2,h3⟩:=hv;refine⟨aB,h1,h2,λi E=>?_⟩;have he:=List.all_eq_true.1 e i (by grind);obtain⟨hv,hc⟩:=h3 i E;refine⟨?_,hc⟩;rw[show bs[i]?=some bs[i] by simp]at he;rw[SE he]at hv;have:u_ cJ bs i=.own bs[i] 0:=by simp[u_,gO,List.getD_eq_getElem?_getD,E,cJ]
  rw[this];refine⟨⟨Nat.zero_le _,hv.1.2⟩,λ_ hc=>?_⟩;obtain⟨aO,aP,_⟩:=(aA bs[i]).2.2.1 hc;rw[aP];exact hv.2 rfl aO
 grind
theorem xi(aN:∀ b,cg P H κ F w b)(bd:∀ r,F r->F' r)(aA:r5 f H H')(t:bI){av:aD}{R:Type}{r:Option (R×List Nat)}{z:t.cons R}{l:List Nat}(h:t.iP H f av r=some (z,l)) :
  Lb P H H' κ f F F' w r l av (t.av cJ z).1 (t.av cJ z).2:=by
 cases t with
 | undef=>exact .hl h λ_ _=>by simp only[bI.av,bl]
 | val t=>
  obtain⟨eR,m,hx,rfl,rfl⟩:=pZ h;exact⟨m,rfl,λb ab=>List.mem_append_right _ ab,λai v hv=>l1 aN bd hx ai.left hv⟩
 | dz t=>
  obtain⟨rfl,rfl⟩:=Lc h;exact .hl rfl λv ⟨p,a_,h1,h2,h3⟩=>⟨p,a_,h1,h2.mono bd (cG.refl _ _),eS _ bd (cG.refl _ _) h3⟩
 | loc b off=>
  obtain⟨h1,h2⟩:=kp h;obtain rfl:=SD h1;exact .hl h2 λv hv=>SB aA hv
 | own b=>
  obtain⟨h1,h2⟩:=kp h;obtain rfl:=SE h1;refine .hl h2 λv hv=>⟨⟨Nat.zero_le _,hv.1.2⟩,λ_ hc=>?_⟩
  obtain⟨aO,aP,_⟩:=(aA b).2.2.1 hc;simp only[cJ];rw[aP];exact hv.2 rfl aO
 | sub b=>
  obtain⟨h1,h2⟩:=Ld h;refine .hl h1 λv hv=>?_;rcases h2 with rfl | ⟨rfl,eO,h3⟩
  ·refine⟨⟨Nat.zero_le _,hv.1.2⟩,λ_ hc=>?_⟩;obtain⟨aO,aP,bA⟩:=(aA b).2.2.1 hc;simp only[cJ]at aP bA ⊢;rw[aP,bA];exact hv.2 rfl aO
  ·refine⟨⟨Nat.zero_le _,hv.1.2⟩,λ_ hc=>?_⟩;obtain⟨aO,aP,bA⟩:=(aA b).2.2.1 hc;have:=hv.2 rfl aO;simp only[cJ]at aP bA ⊢;rw[aP,bA,h3];refine⟨⟨Nat.zero_le _,Nat.le_refl _⟩,?_⟩;rw[this];unfold bo.slice;cases az:(κ (f b)).eL with
   | true=>exact .inl ⟨az,rfl⟩
   | false=>exact .inr ⟨az,(κ (f b)).off,by simp,by simp,λ_=>by simp⟩
 | fp b=>
  obtain⟨h1,h2⟩:=kp h;obtain rfl:=aeN h1;exact .hl h2 λv hv=>⟨⟨Nat.zero_le _,hv.1.2⟩,λ_ hc=>hv.2 rfl ((aA b).2.2.2.1 hc)⟩
 | jR b=>
  obtain⟨h1,h2⟩:=kp h;obtain rfl:=aeO h1;exact .hl h2 λv hv=>⟨⟨Nat.zero_le _,hv.1.2⟩,λ_ hc=>hv.2 rfl ((aA b).2.2.2.2.1 hc)⟩
 | cR=>
  obtain⟨h1,h2⟩:=kp h;obtain rfl:=aeP h1;exact .hl h2 λv hv=>hv
 | ih k fD=>
  obtain⟨h1,h2⟩:=kp h;exact .hl h2 λv hv=>aeQ aA h1 hv
 | hn bs=>
  obtain⟨h1,h2⟩:=kp h;exact .hl h2 λv hv=>aeR aA h1 hv
 | iI b=>
  obtain⟨h1,rfl⟩:=Le h;refine .hl h1 λv hv=>⟨⟨Nat.zero_le _,hv.1.2⟩,λ_ hc=>?_⟩
  obtain⟨aO,aP,bA⟩:=(aA b).2.2.1 hc;have:=hv.2 rfl aO;simp only[cJ]at aP bA ⊢;rw[aP,bA];exact this
 | tr aI=>
  obtain⟨h1,rfl⟩:=F6 h;exact .hl h1 λv hv=>hv
 | gM=>
  obtain⟨h1,rfl⟩:=Lf h;exact .hl h1 λv hv=>hv
theorem aeS(aN:∀ b,cg P H κ F w b)(bd:∀ r,F r->F' r)(aA:r5 f H H'):∀ (ts:List bI) {c:Nat->aD} {i:Nat} {R:Type} {r:Option (R×List Nat)} {z:pX ts R} {l:List Nat},zr H f ts c i r=some (z,l)->
  ∃ m,r=some ((o3 cJ ts z).2,m)/\(∀ b∈m,b∈l)/\(iJ H κ F' l->∀ j,j<ts.length->∀ v,bl P H κ F w (c (i+j)) v->bl P H' (λb=>κ (f b)) F' w ((o3 cJ ts z).1.getD j .undef) v):=by
 intro ts;induction ts with
 | nil=>intro c i R r z l h;exact⟨l,h,λ_ ab=>ab,λ_ j aC=>by cases aC⟩
 | cons t ts aH=>
  intro c i R r z l h;obtain⟨m1,h1,h2,h3⟩:=xi (F':=F') (H':=H') aN bd aA t h;obtain⟨m2,aO,aP,gi⟩:=aH h1;refine⟨m2,aO,λb ab=>h2 b (aP b ab),λai j aC v hv=>?_⟩;cases j with
  | zero=>exact h3 ai v hv
  | succ j=>
   have:=gi (λb ab=>ai b (h2 b ab)) j (by grind) v (by grind);simpa [o3]using this
theorem aeT(aN:∀ b,cg P H κ F w b)(bd:∀ r,F r->F' r)(aA:r5 f H H'):∀ (ts:List (Nat×bI)) {c:Nat->aD} {R:Type} {r:Option (R×List Nat)} {z:n' ts R} {l:List Nat},w_ H f ts c r=some (z,l)->
  ∃ m,r=some ((eb cJ ts z).2,m)/\(∀ b∈m,b∈l)/\(iJ H κ F' l->∀ i v,bl P H κ F w (c i) v->bl P H' (λb=>κ (f b)) F' w (e7 (eb cJ ts z).1 i) v):=by
 intro ts;induction ts with
 | nil=>intro c R r z l h;exact⟨l,h,λ_ ab=>ab,λ_ _ _ _=>by simp only[eb,e7,bl]⟩
 | cons p ts aH=>
  intro c R r z l h;obtain⟨m1,h1,h2,h3⟩:=xi (F':=F') (H':=H') aN bd aA p.2 h;obtain⟨m2,aO,aP,gi⟩:=aH h1;refine⟨m2,aO,λb ab=>h2 b (aP b ab),λai i v hv=>?_⟩;simp only[eb,e7];split
  ·grind
  ·exact gi (λb ab=>ai b (h2 b ab)) i v hv
theorem F7(t:bI){av:aD}{R:Type}{r:Option (R×List Nat)}{z:t.cons R}{l:List Nat}(h:t.iP H f av r=some (z,l)):∃ m,r=some ((t.av cJ z).2,m)/\∀ b∈m,b∈l:=by
 cases t with
 | undef=>exact⟨l,h,λ_ h=>h⟩
 | val t=>obtain⟨_,m,_,h2,h3⟩:=pZ h;exact⟨m,h2,λb ab=>h3 ▸ List.mem_append_right _ ab⟩
 | dz t=>exact⟨l,(Lc h).2,λ_ h=>h⟩
 | sub b=>exact⟨l,(Ld h).1,λ_ h=>h⟩
 | tr aI=>exact⟨l,(F6 h).1,λ_ h=>h⟩
 | gM=>exact⟨l,(Lf h).1,λ_ h=>h⟩
 | iI b=>exact⟨l,(Le h).1,λ_ h=>h⟩
 | loc b off=>exact⟨l,(kp h).2,λ_ h=>h⟩
 | own b=>exact⟨l,(kp h).2,λ_ h=>h⟩
 | fp b=>exact⟨l,(kp h).2,λ_ h=>h⟩
 | jR b=>exact⟨l,(kp h).2,λ_ h=>h⟩
 | cR=>exact⟨l,(kp h).2,λ_ h=>h⟩
 | ih k fD=>exact⟨l,(kp h).2,λ_ h=>h⟩
 | hn bs=>exact⟨l,(kp h).2,λ_ h=>h⟩
theorem aeU:∀ (ts:List bI) {c:Nat->aD} {i:Nat} {R:Type} {r:Option (R×List Nat)} {z:pX ts R} {l:List Nat},zr H f ts c i r=some (z,l)->∃ m,r=some ((o3 cJ ts z).2,m)/\∀ b∈m,b∈l:=by
 intro ts;induction ts with
 | nil=>intro c i R r z l h;exact⟨l,h,λ_ h=>h⟩
 | cons t ts aH=>
  intro c i R r z l h;obtain⟨m,h1,h2⟩:=F7 t h;obtain⟨da,h3,aR⟩:=aH h1;exact⟨da,h3,λb ab=>h2 b (aR b ab)⟩
theorem aeV:∀ (ts:List (Nat×bI)) {c:Nat->aD} {R:Type} {r:Option (R×List Nat)} {z:n' ts R} {l:List Nat},w_ H f ts c r=some (z,l)->∃ m,r=some ((eb cJ ts z).2,m)/\∀ b∈m,b∈l:=by
 intro ts;induction ts with
 | nil=>intro c R r z l h;exact⟨l,h,λ_ h=>h⟩
 | cons p ts aH=>
  intro c R r z l h;obtain⟨m,h1,h2⟩:=F7 p.2 h;obtain⟨da,h3,aR⟩:=aH h1;exact⟨da,h3,λb ab=>h2 b (aR b ab)⟩
theorem Cw(t:bI){av:aD}{R:Type}{r:Option (R×List Nat)}{z:t.cons R}{l:List Nat}(h:t.iP H f av r=some (z,l))(G:∀ y m,r=some (y,m)->gu H m):gu H l:=by
 cases t with
 | undef=>exact G _ _ h
 | val t=>obtain⟨_,m,h1,h2,rfl⟩:=pZ h;exact (mA h1).append (G _ _ h2)
 | dz t=>exact G _ _ (Lc h).2
 | sub b=>exact G _ _ (Ld h).1
 | tr aI=>exact G _ _ (F6 h).1
 | gM=>exact G _ _ (Lf h).1
 | iI b=>exact G _ _ (Le h).1
 | loc b off=>exact G _ _ (kp h).2
 | own b=>exact G _ _ (kp h).2
 | fp b=>exact G _ _ (kp h).2
 | jR b=>exact G _ _ (kp h).2
 | cR=>exact G _ _ (kp h).2
 | ih k fD=>exact G _ _ (kp h).2
 | hn bs=>exact G _ _ (kp h).2
theorem aeW:∀ (ts:List bI) {c:Nat->aD} {i:Nat} {R:Type} {r:Option (R×List Nat)} {z:pX ts R} {l:List Nat},zr H f ts c i r=some (z,l)->(∀ y m,r=some (y,m)->gu H m)->gu H l:=by
 intro ts;induction ts with
 | nil=>intro c i R r z l h G;exact G _ _ h
 | cons t ts aH=>intro c i R r z l h G;exact Cw t h λy m an=>aH an G
theorem aeX:∀ (ts:List (Nat×bI)) {c:Nat->aD} {R:Type} {r:Option (R×List Nat)} {z:n' ts R} {l:List Nat},w_ H f ts c r=some (z,l)->(∀ y m,r=some (y,m)->gu H m)->gu H l:=by
 intro ts;induction ts with
 | nil=>intro c R r z l h G;exact G _ _ h
 | cons p ts aH=>intro c R r z l h G;exact Cw p.2 h λy m an=>aH an G
theorem Lg{t:af}{ts:List bI}{iw:bB}{R:Type}{r:Option (R×List Nat)}{z:pX ts R}{l:List Nat}(h:KQ H f t ts iw r=some (z,l)):∃ c,iw=.cells t c/\t.size=ts.length/\zr H f ts c 0 r=some (z,l):=by
 unfold KQ at h;grind
theorem Lh{e:af}{iw:bB}{R:Type}{r:Option (R×List Nat)}{z:List e.ah×R}{l:List Nat}(h:KR e iw r=some (z,l)):r=some (z.2,l)/\iw=.a8 e z.1:=by
 unfold KR at h;grind
theorem Li{e:af}{t:bI}{iw:bB}{R:Type}{r:Option (R×List Nat)}{z:(List e.ah×Nat)×t.cons R}{l:List Nat}(h:KU H f e t iw r=some (z,l)):∃ v,iw=.fQ e z.1.1 z.1.2 v/\t.iP H f v r=some (z.2,l):=by
 unfold KU at h;grind
theorem Lj{k v:af}{iw:bB}{R:Type}{r:Option (R×List Nat)}{z:List (k.ah×v.ah)×R}{l:List Nat}(h:KS k v iw r=some (z,l)):r=some (z.2,l)/\iw=.mp k v z.1:=by
 unfold KS at h;grind
theorem Lk{k v:af}{iw:bB}{R:Type}{r:Option (R×List Nat)}{z:(Option (k.ah×v.ah)×List (k.ah×v.ah))×R}{l:List Nat}(h:KT k v iw r=some (z,l)):r=some (z.2,l)/\iw=.b8 k v z.1.1 z.1.2:=by
 unfold KT at h;grind
theorem Ll{t:af}{iw:bB}{R:Type}{r:Option (R×List Nat)}{z:t.ah×R}{l:List Nat}(h:KV H t iw r=some (z,l)):∃ c,iw=.cells t c/\w8 H t (.agg t.size c) r=some (z,l):=by
 unfold KV at h;grind
theorem Lm{t:af}{b:Nat}{R:Type}{r:Option (R×List Nat)}{z:t.ah×R}{l:List Nat}(h:KW H t b r=some (z,l)):∃ eR m,(dd (.bq t) (.loc b (H b).gen 0)).run H=some (some z.1,eR)/\r=some (z.2,m)/\l=eR++m:=by
 unfold KW at h;split at h
 ·rename_i x eR hx;split at h
  ·cases h;exact⟨eR,_,hx,rfl,rfl⟩
  ·cases h
 ·cases h
theorem SF{e:af}{b:Nat}{xs:List e.ah}{l:List Nat}(h:(dd (.slice e) (.own b (H b).gen)).run H=some (xs,l)):(H b).body=.a8 e xs\/(H b).body=.hj e xs:=by
 simp only[dd,kf,af.ee,if_true,dA,aq.eI,aq.bx]at h;split at h
 ·rename_i aS ys ab;simp only[Option.map_eq_some_iff,Prod.mk.injEq]at h;obtain⟨z,bb,rfl,_⟩:=h;obtain⟨qI,rfl⟩:=ky bb;grind
 ·rename_i aS ys ab;simp only[Option.map_eq_some_iff,Prod.mk.injEq]at h;obtain⟨z,bb,rfl,_⟩:=h;obtain⟨qI,rfl⟩:=ky bb;grind
 grind
theorem aeY{k v:af}{b:Nat}{xs:List (k.ah×v.ah)}{l:List Nat}(h:(dd (.map k v) (.fp b (H b).gen)).run H=some (xs,l)):(H b).body=.mp k v xs\/(H b).body=.iY k v xs:=by
 simp only[dd,kf,af.ee,if_true,dA,aq.eI,aq.bx]at h;split at h
 ·rename_i k' hO ys ab;simp only[Option.map_eq_some_iff,Prod.mk.injEq]at h;obtain⟨z,bb,rfl,_⟩:=h;obtain⟨qI,rfl⟩:=ky bb;grind
 ·rename_i k' hO ys ab;simp only[Option.map_eq_some_iff,Prod.mk.injEq]at h;obtain⟨z,bb,rfl,_⟩:=h;obtain⟨qI,rfl⟩:=ky bb;grind
 grind
theorem aeZ{t:af}{b:Nat}{x:Option t.ah}{l:List Nat}(h:(dd (.bq t) (.loc b (H b).gen 0)).run H=some (x,l)):(H b).body.fq=true:=by
 simp only[dd,kf,ta,aq.eI,and_self,if_true]at h;split at h
 ·rename_i ab;rw[ab];rfl
 ·rename_i ab;rw[ab];rfl
 ·cases h
theorem bN.SG(t:bN){b:Nat}{R:Type}{r:Option (R×List Nat)}{z:t.cons R}{l:List Nat}(h:t.iP H f b r=some (z,l)) :
  (∃ m,r=some ((t.body cJ z).2,m)/\∀ c∈m,c∈l)/\od (H b).body (t.body cJ z).1/\∀ k,(t.body cJ z).1.bJ k=true->t.Cm=true:=by
 cases t with
 | cells t ts=>
  obtain⟨c,e,hs,h⟩:=Lg h;refine⟨aeU ts h,?_,λ_ _=>rfl⟩;rw[e];exact⟨λ_=>rfl,λh=>(by cases h),λh=>(by cases h),λh=>(by cases h),λ_ _=>rfl⟩
 | a8 e=>
  obtain⟨h1,h2⟩:=Lh h;refine⟨⟨l,h1,λ_ h=>h⟩,?_,λ_ _=>rfl⟩;rw[h2];exact od.refl _
 | hj e=>
  obtain⟨eR,m,h1,h2,rfl⟩:=pZ h;refine⟨⟨m,h2,λ_ h=>List.mem_append_right _ h⟩,?_,λ_ h=>(by cases h)⟩;rcases SF h1 with e | e<;>rw[e]
  ·exact⟨λh=>(by cases h),λ_=>⟨rfl,rfl,rfl⟩,λh=>(by cases h),λh=>(by cases h),λ_ h=>(by cases h)⟩
  ·exact od.refl _
 | mp k v=>
  obtain⟨h1,h2⟩:=Lj h;refine⟨⟨l,h1,λ_ h=>h⟩,?_,λ_ _=>rfl⟩;rw[h2];exact od.refl _
 | iY k v=>
  obtain⟨eR,m,h1,h2,rfl⟩:=pZ h;refine⟨⟨m,h2,λ_ h=>List.mem_append_right _ h⟩,?_,λ_ h=>(by cases h)⟩;rcases aeY h1 with e | e<;>rw[e]
  ·exact⟨λh=>(by cases h),λh=>(by cases h),λ_=>rfl,λh=>(by cases h),λ_ h=>(by cases h)⟩
  ·exact od.refl _
 | fL t=>
  obtain⟨c,e,h⟩:=Ll h;obtain⟨eR,m,h1,h2,rfl⟩:=pZ h;refine⟨⟨m,h2,λ_ h=>List.mem_append_right _ h⟩,?_,λ_ _=>rfl⟩;rw[e];exact⟨λ_=>rfl,λh=>(by cases h),λh=>(by cases h),λh=>(by cases h),λ_ _=>rfl⟩
 | gq t=>
  obtain⟨eR,m,h1,h2,rfl⟩:=Lm h;refine⟨⟨m,h2,λ_ h=>List.mem_append_right _ h⟩,?_,λ_ h=>(by cases h)⟩;exact⟨λ_=>aeZ h1,λh=>(by cases h),λh=>(by cases h),λh=>(by cases h),λ_ h=>(by cases h)⟩
 | b8 k v=>
  obtain⟨h1,h2⟩:=Lk h;refine⟨⟨l,h1,λ_ h=>h⟩,?_,λ_ _=>rfl⟩;rw[h2];exact od.refl _
 | fQ e t=>
  obtain⟨v,e1,h⟩:=Li h;refine⟨F7 t h,?_,λ_ _=>rfl⟩;rw[e1];exact⟨λh=>(by cases h),λ_=>⟨rfl,rfl,rfl⟩,λh=>(by cases h),λh=>(by cases h),λ_ h=>h⟩
theorem bN.Cw(t:bN){b:Nat}{R:Type}{r:Option (R×List Nat)}{z:t.cons R}{l:List Nat}(h:t.iP H f b r=some (z,l))(G:∀ y m,r=some (y,m)->gu H m):gu H l:=by
 cases t with
 | cells t ts=>obtain⟨c,e,hs,h⟩:=Lg h;exact aeW ts h G
 | a8 e=>exact G _ _ (Lh h).1
 | hj e=>obtain⟨eR,m,h1,h2,rfl⟩:=pZ h;exact (mA h1).append (G _ _ h2)
 | mp k v=>exact G _ _ (Lj h).1
 | iY k v=>obtain⟨eR,m,h1,h2,rfl⟩:=pZ h;exact (mA h1).append (G _ _ h2)
 | fL t=>obtain⟨c,e,h⟩:=Ll h;obtain⟨eR,m,h1,h2,rfl⟩:=pZ h;exact (mA h1).append (G _ _ h2)
 | gq t=>obtain⟨eR,m,h1,h2,rfl⟩:=Lm h;exact (mA h1).append (G _ _ h2)
 | b8 k v=>exact G _ _ (Lk h).1
 | fQ e t=>obtain⟨v,_,h⟩:=Li h;exact Go.Fer.Cw t h G
theorem bN.ae0(aN:∀ b,cg P H κ F w b)(bd:∀ r,F r->F' r)(aA:r5 f H H')(t:bN){b:Nat}{R:Type}{r:Option (R×List Nat)}{z:t.cons R}{l:List Nat}(h:t.iP H f b r=some (z,l))(ai:iJ H κ F' l) :
  jo P H' (λb=>κ (f b)) F' w (κ b) (t.body cJ z).1:=by
 have ab:=aN b;unfold cg at ab;cases t with
 | cells t ts=>
  obtain⟨c,e,hs,h⟩:=Lg h;rw[e]at ab;obtain⟨cs,T,aO,aP,bA⟩:=ab;obtain⟨m,_,_,gi⟩:=aeS (H':=H') aN bd aA ts h;refine⟨cs,T,aO,aP,λi E=>⟨?_,(bA i E).2⟩⟩;have:=gi ai i (by omega) _ (by rw[Nat.zero_add];exact (bA i E).1);exact this
 | a8 e=>
  rw[(Lh h).2]at ab;refine⟨ab.1,λaz=>?_⟩;obtain⟨cs,T,h1,h2,h3,aR,bw⟩:=ab.2 az;exact⟨cs,T,h1,h2,h3,aR,bw.mono bd (cG.refl _ _)⟩
 | hj e=>
  obtain⟨eR,m,h1,h2,rfl⟩:=pZ h;have u0:=SF h1;have xj:=l1 (v:=(κ b).slice (H b).body.len) aN bd h1 ai.left ⟨⟨Nat.le_refl _,by unfold bo.slice;split<;>rfl⟩,λ_ _=>rfl⟩;have:=((dy rfl).1 xj).2;rcases u0 with aS | aS<;>(rw[aS]at this;exact this)
 | mp k v=>
  rw[(Lj h).2]at ab;obtain⟨ms,clk,h1,h2⟩:=ab;exact⟨ms,clk,h1,h2.mono bd (cG.refl _ _)⟩
 | iY k v=>
  obtain⟨eR,m,h1,h2,rfl⟩:=pZ h;have xj:=l1 (v:=.map (some (κ b).ad)) aN bd h1 ai.left ⟨⟨Nat.le_refl _,rfl⟩,λ_ _=>rfl⟩;exact ((dy rfl).1 xj).2
 | fL t=>
  obtain⟨c,e,h⟩:=Ll h;rw[e]at ab;obtain⟨cs,T,aO,aP,bA⟩:=ab;obtain⟨eR,m,hx,_,rfl⟩:=pZ h;have hv:bl P H κ F w (.agg t.size c) (.agg cs):=⟨cs.toList,by simp,by omega,λj aC=>by
   simp_all⟩
  have xj:=l1 (F':=F') aN bd hx ai.left hv;have ik:=yS (P:=P) (H:=H') (κ:=λb=>κ (f b)) t xj.2;refine⟨cs,T,aO,aP,λi E=>⟨?_,(bA i E).2⟩⟩;have:=(ik.kz i (by rw[ik.len];simpa [Value.cells,aP]using E)).1;rw[List.getD_eq_getElem?_getD]at this;rw[Array.getD_eq_getD_getElem?];simpa [Value.cells]using this
 | gq t=>
  obtain⟨eR,m,h1,h2,rfl⟩:=Lm h;have xj:=l1 (v:=.pointer (some ⟨(κ b).ad,0,none⟩)) aN bd h1 ai.left ⟨⟨Nat.le_refl _,rfl⟩,λ_ _=>rfl⟩;rcases ((dy rfl).1 xj).2 with⟨_,e⟩ | ⟨p,y,a_,e1,e2,h3,aR⟩
  ·cases e
  ·simp only[List.cons.injEq,Value.pointer.injEq,Option.some.injEq,and_true]at e1;subst e1;cases e2;exact⟨a_,h3,aR⟩
 | b8 k v=>
  rw[(Lk h).2]at ab;exact wG.mono ab bd (cG.refl _ _) rfl
 | fQ e t=>
  obtain⟨v,e1,h⟩:=Li h;rw[e1]at ab;obtain⟨h0,cs,T,h1,h2,h3,aR,bw,cZ,fN,iX⟩:=ab;obtain⟨m,_,_,gi⟩:=xi (F':=F') (H':=H') aN bd aA t h;refine⟨h0,cs,T,h1,h2,h3,aR,bw,λj aC qz=>?_,gi ai _ fN,iX⟩;obtain⟨a_,d1,d2⟩:=cZ j aC qz;exact⟨a_,d1,eS e bd (cG.refl _ _) d2⟩
theorem ae1:∀ (l:List (Nat×bN)) {x:o2 l} {m:List Nat},w9 H f l=some (x,m)->∀ b,eu (gQ cJ l x) b=⟨0,.ff⟩\/
  ∃ iw,eu (gQ cJ l x) b=⟨0,iw⟩/\od (H (f b)).body iw/\∃ t,(b,t)∈l/\∀ k,iw.bJ k=true->t.Cm=true:=by
 intro l;induction l with
 | nil=>intro x m _ b;exact .inl rfl
 | cons q l aH=>
  intro x m h b;obtain⟨c7,q2⟩:=q;simp only[w9]at h;obtain⟨⟨da,h1,h2⟩,h3,aR⟩:=bN.SG q2 h;by_cases e:b=c7
  ·subst e;exact .inr ⟨_,by simp only[gQ,eu,if_true],h3,q2,by simp,aR⟩
  ·rcases aH h1 b with k | ⟨iw,aO,aP,t,bA,gi⟩
   ·exact .inl (by simpa [gQ,eu,e]using k)
   ·exact .inr ⟨iw,by simpa [gQ,eu,e]using aO,aP,t,List.mem_cons_of_mem _ bA,gi⟩
theorem ae2:∀ (l:List (Nat×bN)) {x:o2 l} {m:List Nat},w9 H f l=some (x,m)->gu H m:=by
 intro l;induction l with
 | nil=>intro x m h;cases h;exact .nil H
 | cons q l aH=>intro x m h;exact bN.Cw q.2 h λy m an=>aH an
theorem ae3(aN:∀ b,cg P H κ F w b)(bd:∀ r,F r->F' r)(aA:r5 f H H'):∀ (l:List (Nat×bN)) {x:o2 l} {m:List Nat},w9 H f l=some (x,m)->iJ H κ F' m->∀ b,jo P H' (λb=>κ (f b)) F' w (κ (f b)) (eu (gQ cJ l x) b).body:=by
 intro l;induction l with
 | nil=>intro x m _ _ b;trivial
 | cons q l aH=>
  intro x m h an b;obtain⟨c7,q2⟩:=q;simp only[w9]at h;obtain⟨⟨da,h1,h2⟩,_⟩:=bN.SG q2 h;by_cases e:b=c7
  ·subst e;simp only[gQ,eu,if_true];exact bN.ae0 aN bd aA q2 h an
  ·have:=aH h1 (λc hc=>an c (h2 c hc)) b;simpa [gQ,eu,e]using this
theorem ae4:∀ (ts:List (Nat×bI)) {c:Nat->aD} {R:Type} {r:Option (R×List Nat)} {z:n' ts R} {l:List Nat},w_ H f ts c r=some (z,l)->∀ {i l' aI L n st},e7 (eb cJ ts z).1 i=.tr l' aI L n st->c i=.tr l' aI L n st:=by
 intro ts;induction ts with
 | nil=>intro c R r z l _ i l' aI L n st e;cases e
 | cons p ts aH=>
  intro c R r z l h i l' aI L n st e;obtain⟨jw,t⟩:=p;simp only[w_]at h;obtain⟨m,h1,_⟩:=F7 t h;simp only[eb,e7]at e;split at e
  ·rename_i ae5;subst ae5;cases t with
   | tr kn=>
    obtain⟨_,h3⟩:=F6 h;rw[h3];exact e
   | _=>cases e
  grind
end
structure F8(C:bS)(s:ay)(a:Act)(w:World)(κ:Nat->bo)(f:Nat->Nat)(F':Nat->Prop)(sh:dm)(A:sh.ah)(fl:List Nat):Prop where
 bF:∀ i,bl C.P (sh.st A).ad (λb=>κ (f b)) F' w ((sh.st A).ax i) (a.tmps.getD i Go.undef)
 bp:∀ b,cg C.P (sh.st A).ad (λb=>κ (f b)) F' w b
 bJ:∀ b,((sh.st A).ad b).body.bJ (κ (f b))=true->f b ∉ fl/\(s.ad (f b)).body.bJ (κ (f b))=true/\b∈sh.oa
 zB:r5 f s.ad (sh.st A).ad
 tr:∀ l aI L n st,(sh.st A).ax TRS=.tr l aI L n st->s.ax TRS=.tr l aI L n st
theorem dm.SH{C:bS}{sh:dm}{f:Nat->Nat}{s:ay}{a:Act}{w:World}{κ:Nat->bo}{F:Nat->Prop}{A:sh.ah}{fl:List Nat}(h:sh.zt f s=some (A,fl))(G:bc C s a w κ F) :
  ∃ F',(∀ r,F r->F' r)/\bc C (s.cc fl) a w κ F'/\F8 C s a w κ f F' sh A fl:=by
 unfold dm.zt at h;split at h
 ·rename_i iv axm n9;split at h
  ·rename_i eO;cases h;obtain⟨m,h1,an⟩:=aeV sh.bF n9;have lv:gu s.ad fl:=aeX sh.bF n9 λy m an=>ae2 sh.bp an;obtain⟨F',f1,aW,f2⟩:=bc.kW lv G;have SI:=ae1 sh.bp h1;have tJ:r5 f s.ad (sh.st A).ad:=by
    intro b;show (eu (gQ cJ sh.bp (eb cJ sh.bF A).2) b).gen=0/\od (s.ad (f b)).body (eu (gQ cJ sh.bp (eb cJ sh.bF A).2) b).body;rcases SI b with e | ⟨iw,e,k,_⟩
    ·rw[e];exact⟨rfl,od.ff _⟩
    grind
   obtain⟨m2,_,_,ae6⟩:=aeT (F':=F') (w:=w) G.bp f1 tJ sh.bF n9;refine⟨F',f1,aW,{ bF:=λi=>ae6 f2 i _ (G.bF i),bp:=λb=>?_,bJ:=λb ab=>?_,zB:=tJ,tr:=λl aI L n st e=>ae4 sh.bF n9 e }⟩
   ·exact ae3 G.bp f1 tJ sh.bp h1 (λc hc=>f2 c (an c hc)) b
   ·have ao:=(tJ b).2.2.2.2.2 _ ab;rcases SI b with e | ⟨iw,e,_,t,aG,axn⟩
    ·have e:(sh.st A).ad b=_:=e;rw[e]at ab;cases ab
    ·have e:(sh.st A).ad b=_:=e;rw[e]at ab;have aY:b∈sh.oa:=List.mem_filterMap.2 ⟨(b,t),aG,by grind⟩;grind
  grind
 grind
theorem F8.xk{C:bS}{s:ay}{a:Act}{w:World}{κ:Nat->bo}{f:Nat->Nat}{F':Nat->Prop}{sh:dm}{A:sh.ah}{fl:List Nat}(h:F8 C s a w κ f F' sh A fl){b:Nat}(ab:((sh.st A).ad b).body.bJ (κ (f b))=true) :
  ((s.cc fl).ad (f b)).body.bJ (κ (f b))=true:=by
 obtain⟨h1,h2,_⟩:=h.bJ b ab;simp only[ay.cc,if_neg h1];exact h2
theorem Ln{C:bS}{s:ay}{a:Act}{w:World}{κ:Nat->bo}{F:Nat->Prop}(G:bc C s a w κ F){b:Nat}{e:af} :
  bc C (s.b' b ⟨(s.ad b).gen+1,.a8 e []⟩) a w (λi=>if i=b then ⟨0,0,0,true⟩ else κ i) F:=
 G.B5 (k:=⟨0,0,0,true⟩) (Nat.lt_succ_self _) (.inl rfl) (Nat.le_refl _) (λ_ _=>rfl) (λh=>by cases h) (cM.refl _) λ_ _=>⟨λ_=>rfl,λh=>by cases h⟩
theorem ae7{C:bS}{s:ay}{a:Act}{w:World}{κ:Nat->bo}{F:Nat->Prop}(G:bc C s a w κ F){i b aZ g':Nat}(hs:s.ax i=.own aZ g'):∃ κ',bc C (KY s i b aZ g') a w κ' F:=by
 unfold KY;split
 ·rename_i e xs au bD;obtain⟨ea,rfl⟩:=of_decide_eq_true au;generalize mB:(λj=>if j=b then (⟨(s.ad b).gen+1,.a8 e xs⟩:bu) else if j=aZ then ⟨(s.ad aZ).gen+1,.ff⟩ else s.ad j)=H';generalize ix:(λj=>if j=b then κ aZ else κ j)=κ';have h1:H' b=⟨(s.ad b).gen+1,.a8 e xs⟩:=by grind
  have h2:H' aZ=⟨(s.ad aZ).gen+1,.ff⟩:=by grind
  have h3:∀ j,j≠b->j≠aZ->H' j=s.ad j:=λj aO aP=>by grind
  have aO:κ' b=κ aZ:=by grind
  have bA:∀ j,j≠b->κ' j=κ j:=λj k=>by grind
  have ai:e6 s.ad κ H' κ':=by
   rw[Bx];intro j;by_cases e1:j=b
   ·subst e1;rw[h1];exact⟨Nat.le_succ _,λe=>absurd e (Nat.ne_of_lt (Nat.lt_succ_self _))⟩
   ·by_cases e2:j=aZ
    ·subst e2;rw[h2];exact⟨Nat.le_succ _,λe=>absurd e (Nat.ne_of_lt (Nat.lt_succ_self _))⟩
    ·rw[h3 j e1 e2,bA j e1];exact pL.refl _ _
  have fS:∀ j,(H' j).body.bJ (κ' j)=true->(j=b/\(s.ad aZ).body.bJ (κ aZ)=true)\/(j≠b/\j≠aZ/\(s.ad j).body.bJ (κ j)=true):=λj aC=>by
   by_cases e1:j=b
   ·grind
   ·by_cases e2:j=aZ
    ·subst e2;rw[h2]at aC;cases aC
    grind
  have h:=G.move (H':=H') (κ':=κ') (F':=F) (w':=w) ai (λ_ h=>h) (λ_ h=>.inl h) (Nat.le_refl _) (λ_ _ _=>rfl) (cM.refl w)
   (λ_ j=>by
    by_cases e1:j=b
    ·subst e1;have aN:=G.bp aZ;unfold cg at aN ⊢;rw[bD]at aN;rw[h1,aO];exact aN
    ·by_cases e2:j=aZ
     ·subst e2;unfold cg;rw[h2];trivial
     ·exact cg.kT (G.bp j) ai (λ_ h=>h) (cG.refl _ _) (by grind) (bA j e1) λ_=>rfl)
   (λj aC=>by
    rcases fS j aC with⟨rfl,h⟩ | ⟨e1,_,h⟩
    ·rw[aO];have:=G.own aZ h;grind
    ·rw[bA j e1];have:=G.own j h;grind)
   (λj jY aC fA e=>by
    rcases fS j aC with⟨rfl,h⟩ | ⟨e1,e2,h⟩<;>rcases fS jY fA with⟨rfl,c6⟩ | ⟨SJ,ae8,c6⟩
    ·rfl
    ·rw[aO,bA jY SJ]at e;exact absurd (G.inj aZ jY h c6 e).symm ae8
    ·rw[aO,bA j e1]at e;exact absurd (G.inj j aZ h c6 e) e2
    ·rw[bA j e1,bA jY SJ]at e;exact G.inj j jY h c6 e)
   G.cL
   (λj _ aC=>by
    by_cases e1:j=b
    ·subst e1;rw[h1]at aC;rcases aC with aC | aC<;>cases aC
    ·by_cases e2:j=aZ
     ·subst e2;rw[h2]at aC;rcases aC with aC | aC<;>cases aC
     grind)
  refine⟨κ',{ h with bF:=λj=>?_,dk:=h.dk,dfr:=h.dfr,bp:=h.bp,pro:=λl aI L n st aS=>?_ }⟩
  ·show bl C.P _ _ F w (if j=i then .own b ((s.ad b).gen+1) else s.ax j) _;split
   ·rename_i e;subst e;have hv:=G.bF j;rw[hs]at hv;have h6:=hv.2 rfl (by rw[bD];rfl);rw[bD]at h6;exact⟨⟨by grind,hv.1.2⟩,λ_ _=>by grind⟩
   ·exact h.bF j
  ·have aS:(if TRS=i then .own b ((s.ad b).gen+1) else s.ax TRS)=.tr l aI L n st:=aS;split at aS
   ·cases aS
   ·exact h.pro l aI L n st aS
 grind
theorem ae9{C:bS}{bs:List (Nat×bN)}{s:ay}{a:Act}{w:World}{κ:Nat->bo}{F:Nat->Prop}(G:bc C s a w κ F)(i b:Nat):∃ κ',bc C (KZ bs s i b) a w κ' F:=by
 unfold KZ;split
 ·rename_i e hs _;have h:=Ln G (b:=b) (e:=e);refine⟨_,{ h with bF:=λj=>?_,dk:=h.dk,dfr:=h.dfr,bp:=h.bp,pro:=λl aI L n st aS=>?_ }⟩
  ·show bl C.P _ _ F w (if j=i then .own b ((s.ad b).gen+1) else s.ax j) _;split
   ·rename_i e;subst e;have hv:=G.bF j;rw[hs]at hv;have hv:a.tmps.getD j undef=.slice none 0 0:=hv;rw[hv];exact⟨⟨by simp[ay.b'],rfl⟩,λ_ _=>by simp[bo.slice]⟩
   ·exact h.bF j
  ·have aS:(if TRS=i then .own b ((s.ad b).gen+1) else s.ax TRS)=.tr l aI L n st:=aS;split at aS
   ·cases aS
   ·exact h.pro l aI L n st aS
 ·rename_i hs _;exact ae7 G hs
 grind
theorem ae_{C:bS}{bs:List (Nat×bN)}{s:ay}{a:Act}{w:World}{κ:Nat->bo}{F:Nat->Prop}(G:bc C s a w κ F)(c j b:Nat):∃ κ',bc C (K1 bs s c j b) a w κ' F:=by
 unfold K1;split
 ·rename_i t f hc;split
  ·rename_i e ar au _;have SK:c≠b:=λe=>by grind
   have h:=Ln G (b:=b) (e:=e);have iq:(s.b' b ⟨(s.ad b).gen+1,.a8 e []⟩).ad c=s.ad c:=by simp[ay.b',SK]
   have aN:=h.bp c;unfold cg at aN;rw[iq,hc]at aN;obtain⟨cs,T,h1,h2,h3⟩:=aN;refine⟨_,h.oO (w':=w) (b:=c) (x:=⟨(s.ad c).gen,.cells t λq=>if q=j then .own b ((s.ad b).gen+1) else f q⟩) (by rw[iq,hc];rfl) rfl
    (qA (by rw[iq]) (λ_=>by rw[iq,hc];rfl) (λh=>by cases h) (λh=>by cases h) (λh=>by cases h)) (λ_=>by rw[iq,hc];rfl) (λh=>by cases h) (λ_ _=>rfl) rfl (cM.refl _) λH mB ai _=>?_⟩
   refine⟨cs,T,h1,h2,λq bf=>⟨?_,(h3 q bf).2⟩⟩;show bl C.P H _ F w (if q=j then .own b ((s.ad b).gen+1) else f q) _;split
   ·rename_i eq;subst eq;have hv:=(h3 q bf).1;rw[ar]at hv;have hv:cs.getD q undef=.slice none 0 0:=hv;rw[hv];have ae':H b=⟨(s.ad b).gen+1,.a8 e []⟩:=by rw[mB];simp[ay.b',Ne.symm SK]
    exact⟨⟨by grind,rfl⟩,λ_ _=>by rw[ae'];simp[bo.slice]⟩
   ·exact bl.later ai (λ_ h=>h) (cG.refl _ _) (h3 q bf).1
  grind
 grind
theorem afa{C:bS}(sh:dm){s:ay}{a:Act}{w:World}{κ:Nat->bo}{F:Nat->Prop}(G:bc C s a w κ F):∃ κ',bc C (sh.FJ s) a w κ' F:=by
 have h1:∀ (l:List (Nat×bI)) (s:ay) (κ:Nat->bo),bc C s a w κ F->∃ κ',bc C (FG sh.bp l s) a w κ' F:=by
  intro l;induction l with
  | nil=>intro s κ h;exact⟨κ,h⟩
  | cons p l aH=>
   intro s κ h;simp only[FG];split
   ·obtain⟨κ',c6⟩:=ae9 (bs:=sh.bp) h p.1 _;exact aH _ _ c6
   grind
 have h2:∀ (c:Nat) (l:List bI) (j:Nat) (s:ay) (κ:Nat->bo),bc C s a w κ F->∃ κ',bc C (FH sh.bp c l j s) a w κ' F:=by
  intro c l;induction l with
  | nil=>intro j s κ h;exact⟨κ,h⟩
  | cons t l aH=>
   intro j s κ h;simp only[FH];split
   ·obtain⟨κ',c6⟩:=ae_ (bs:=sh.bp) h c j _;exact aH _ _ _ c6
   ·exact aH _ _ _ h
 have h3:∀ (l:List (Nat×bN)) (s:ay) (κ:Nat->bo),bc C s a w κ F->∃ κ',bc C (FI sh.bp l s) a w κ' F:=by
  intro l;induction l with
  | nil=>intro s κ h;exact⟨κ,h⟩
  | cons p l aH=>
   intro s κ h;simp only[FI];split
   ·obtain⟨κ',c6⟩:=h2 p.1 _ 0 s κ h;exact aH _ _ c6
   grind
 obtain⟨afb,gx⟩:=h1 sh.bF s κ G;exact h3 sh.bp _ _ gx
theorem SL:∀ (l:List (Nat×bN)) (x:o2 l) (b:Nat),(eu (gQ cJ l x) b).body.eU=true->∃ q∈l,q.1=b/\q.2.Sj=true
 | [],_,_,h=>by cases h
 | p::l,x,b,h=>by
  simp only[gQ,eu]at h;by_cases e:b=p.1
  ·rw[if_pos e]at h;refine⟨p,by simp,e.symm,?_⟩;obtain⟨jw,t⟩:=p;cases t<;>first | rfl | cases h
  ·rw[if_neg e]at h;obtain⟨q,h1,h2⟩:=SL l _ b h;grind
theorem dm.zC{C:bS}{sh:dm}{s:ay}{a:Act}{w:World}{A:sh.ah}{κ:Nat->bo}{F:Nat->Prop}(h:sh.iP s=some A)(G:bc C s a w κ F):∃ κ' F',(∀ r,F r->F' r)/\bc C (sh.st A) a w κ' F':=by
  obtain⟨κ,G⟩:=afa sh G;unfold dm.iP at h;generalize sh.FJ s=s at h G;split at h;case h_2=>cases h
  rename_i afc;simp only[Option.map_eq_some_iff]at h;obtain⟨⟨iv,fl⟩,h,rfl⟩:=h;obtain⟨F',f1,aW,au⟩:=dm.SH h G;have fS:=λb ab=>au.xk (b:=b) ab;exact⟨κ, F', f1, { aW with
    dk:=aW.dk,dfr:=aW.dfr,bF:=au.bF,bp:=au.bp,own:=λb ab=>aW.own b (fS b ab),inj:=λb aZ ab cS=>aW.inj b aZ (fS b ab) (fS aZ cS)
    jq:=λb r G hc=>aW.jq b r G (hc.imp (λhc=>by
      have h0:=(au.zB b).2.1 hc;simp only[ay.cc];split
      · rcases y6 s.ad (s.ad b) with e | ⟨_,_,hx,_⟩ | ⟨_,_,_,hx,_⟩ | ⟨_,_,_,_,_,_,e⟩
        · grind
        · rw[hx]at h0;cases h0
        · rw[hx]at h0;cases h0
        · rw[e];rfl
      omega) (λhc=>by
      have h0:=(au.zB b).2.2.2.1 hc;simp only[ay.cc];split
      · rcases y6 s.ad (s.ad b) with e | ⟨_,_,hx,_⟩ | ⟨_,_,_,_,e⟩ | ⟨_,_,_,_,hx,_,_⟩
        · grind
        · rw[hx]at h0;cases h0
        · rw[e];rfl
        · rw[hx]at h0;cases h0
      omega))
    ke:=λb k ao _ aV=>by
      obtain⟨bV,a2,_⟩:=(au.zB b).2.2.1 aV;have aA:(s.ad b).gen=0:=by
        rcases SL sh.bp (eb cJ sh.bF iv).2 b aV with⟨q,bf,rfl,i'⟩
        have:=List.all_eq_true.1 afc q bf;rw[i']at this;have Ft:=G.jS _ k ao;grind
      obtain⟨aO,aP⟩:=G.ke b k ao aA bV;grind
    pro:=λl aI L n st e=>by
      obtain⟨h1,h2,Y,h3,aR,bw⟩:=aW.pro l aI L n st (au.tr l aI L n st e);grind }⟩
theorem dm.xi{C:bS}{sh:dm}{s:ay}{a:Act}{w:World}{A:sh.ah}(h:sh.iP s=some A)(G:b9 C s a w):b9 C (sh.st A) a w:=by
 obtain⟨κ,F,G⟩:=G;obtain⟨κ',F',_,aW⟩:=dm.zC h G;exact⟨κ',F',aW⟩
end Go.Fer
namespace Go.Fer
open Go.RowKit
def afd(C:bS)(o:Oper)(s:ay)(pr:hI):Prop:=
 ∀ (a:Act) (w:World) (Q:Exit->Act->World->Prop) (K:Act->World->Prop),b9 C s a w->pr.bU->M.b_ pr.m (λy=>∀ a' w',b9 C (pr.st y) a' w'->K a' w')->o.wpIn (dw C.r) 0 C.P a w K Q
def afe(C:bS)(o:Oper)(s:ay)(pr:hI):Prop:=
 ∀ gs,pr.Co=some gs->(∀ y a w,b9 C (pr.st y) a w->b9 C (gs true y) a w)/\∀ a w,b9 C s a w->b9 C (gs false pr.d) (a.put o.dst Go.undef) w
structure p0(C:bS)(o:Oper)(s:ay)(pr:hI):Prop where
 prog:afd C o s pr
 axo:afe C o s pr
 axp:qN (aT C.aK s.ax) o->pr.bU
theorem b9.Lo{C:bS}{s:ay}{d:Option Nat}{av av':aD}{a:Act}{w:World}(h:b9 C (s.set d av) a w)
  (au:∀ i,d=some i->i<C.nt) (hv:∀ κ F v,bl C.P s.ad κ F w av v->bl C.P s.ad κ F w av' v):b9 C (s.set d av') a w:=by
 cases d with
 | none=>exact h
 | some d=>
  obtain⟨κ,F,h⟩:=h;have az:=h.fR;have wI:=au d rfl;have aG:TRS≠d:=by unfold TRS ev at *;omega
  refine⟨κ,F,{ h with bF:=λi=>?_,dk:=h.dk,dfr:=h.dfr,bp:=h.bp,pro:=λl aI L n st e=>h.pro l aI L n st ?_ }⟩
  ·have E:=h.bF i;simp only[ay.set]at E ⊢;grind
  ·simp only[ay.set,if_neg aG]at e ⊢;exact e
section
variable {C:bS} {T:Nat->af} {a1:Nat->Option aJ} {o:Oper} {s:ay}
theorem Cx{args:List Operand}(ab:qN (aT C.aK s.ax) o)(aV:∀ x∈args,x∈o.op.operands.toList):ju (args.map (aT C.aK s.ax)):=
 Ce λv hv=>by
  simp only[List.mem_map]at hv;obtain⟨p,hp,rfl⟩:=hv;exact ab p (aV p hp)
theorem SM(a6:∀ i,o.dst=some i->i<C.nt){tr:af}{fl:List Nat}(lv:gu s.ad fl){d:tr.ah} :
  (∀ (y:tr.ah) a w,b9 C (qQ s o tr fl (qB tr y)) a w->b9 C (qQ s o tr fl (.hi true (qB tr y))) a w)/\∀ a w,b9 C s a w->b9 C (qQ s o tr fl (.hi false (qB tr d))) (a.put o.dst Go.undef) w:=by
 refine⟨λy a w h=>b9.Lo h a6 λκ F v hv=>⟨λ_=>hv,λh=>(by cases h)⟩,λa w h=>?_⟩;obtain⟨κ,F,G⟩:=h;obtain⟨F',_,aW,_⟩:=bc.kW lv G;unfold qQ;split
 ·exact⟨κ,F,G.set a6 ⟨λh=>(by cases h),λ_=>rfl⟩⟩
 ·exact⟨κ,F',aW.set a6 ⟨λh=>(by cases h),λ_=>rfl⟩⟩
theorem aff(a6:∀ i,o.dst=some i->i<C.nt){k:Nat}{args:Array Operand}{cT:Array TypeId}(ag:o.op=.call { callee:=.value (.func k),args:=args,argTypes:=cT }){c8:SC}(ar:hN C.P k c8.ts c8.tr c8.sh){pr:hI}
  (h:Cp C.aK s o args.toList c8=some pr):p0 C o s pr:=by
 unfold Cp at h;split at h
 ·rename_i x fl hx;cases h;refine⟨λa w Q K G aY an=>?_,λgs oe=>?_,λab=>Cx ab λx hx=>by rw[ag];simp[Op.operands,Call.operands];simp_all⟩
  ·obtain⟨κ,F,G⟩:=G;exact RL G ar a6 ag aY hx an.1 λy w' aM v j0=>an.2 y aM _ _ j0
  ·cases oe;exact SM a6 (pU _ hx)
 grind
theorem afg(a6:∀ i,o.dst=some i->i<C.nt){k:Nat}{args:Array Operand}{cT:Array TypeId}(ag:o.op=.call { callee:=.value (.func k),args:=args,argTypes:=cT }){c8:SC}(ar:hN C.P k c8.ts c8.tr c8.sh)(Cy:QS C.P k c8.ts c8.tr c8.sh){pr:hI}
  (h:FN C.aK s o args.toList c8=some pr):p0 C o s pr:=by
 unfold FN at h;split at h
 ·rename_i x fl hx;cases h;refine⟨λa w Q K G aY an=>?_,λgs oe=>(by grind),λab=>Cx ab λx hx=>by rw[ag];simp[Op.operands,Call.operands];simp_all⟩;obtain⟨κ,F,G⟩:=G;obtain⟨args⟩:=args;have cH:(execOp a.eval o).run C.P w=.ok (.enter k (args.map a.eval).toArray) w:=by
   simp only[execOp,ag,Sem.run_bind,resolve,Act.eval,Deferred.ofValue,Sem.run_pure,Result.andThen_ok,invoke];have:=ar.enter (args.map a.eval).toArray w;grind
  obtain⟨F',f1,aW,f2⟩:=bc.kW (pU _ hx) G;have dB:e5 C.P c8.ts F' w (args.map a.eval) x:=by
   refine u4 G.bp f1 c8.ts hx f2 (by simp) λi E dp=>?_;simp only[List.getElem_map];have df:i<args.length:=by grind
   have h1:=rO aY i (by grind);have e1:(args.map (aT C.aK s.ax)).getD i .undef=aT C.aK s.ax args[i]:=by grind
   rw[show (List.map (aT C.aK s.ax) (⟨args⟩:Array Operand).toList)=args.map (aT C.aK s.ax) from rfl,e1]at h1;exact oQ (jW G args[i]) h1
  refine B' (by grind) cH (Cy.iH F' w _ x aW.cL aW.ij dB an.1) λe w' ⟨v,y,he,aM,fU,ab⟩=>⟨v,he,an.2 y aM _ _ ⟨κ,_,(G.grow ab).set a6 (B_ ?_)⟩⟩
  obtain⟨aB,c7,q2,q3⟩:=fU;exact⟨aB,c7,q2,eS _ (λr G=>.inr G) (cG.refl _ _) q3⟩
 grind
theorem afh(a6:∀ i,o.dst=some i->i<C.nt){t:Nat}{args:Array Operand}{cT:Array TypeId}(ag:o.op=.call { callee:=.value (.tmp t),args:=args,argTypes:=cT }){pr:hI}
  (h:Cq C.aK s o t args.toList=some pr):p0 C o s pr:=by
 unfold Cq at h;split at h
 ·rename_i bU aI b f hu;split at h
  ·rename_i x fl hx;cases h;obtain⟨args⟩:=args;refine⟨λa w Q K G aY an=>?_,λgs oe=>?_,λab=>⟨?_,Cx ab λx hx=>by rw[ag];simp[Op.operands,Call.operands];simp_all⟩⟩
   ·obtain⟨κ,F,G⟩:=G;obtain⟨F',f1,aW,f2⟩:=bc.kW (pU _ hx) G;have dB:e5 C.P aI F' w (args.map a.eval) x:=by
     refine u4 G.bp f1 aI hx f2 (by simp) λi E dp=>?_;simp only[List.getElem_map];have df:i<args.length:=by grind
     have h1:=rO aY.2 i (by grind);have e1:(args.map (aT C.aK s.ax)).getD i .undef=aT C.aK s.ax args[i]:=by grind
     rw[show (List.map (aT C.aK s.ax) (⟨args⟩:Array Operand).toList)=args.map (aT C.aK s.ax) from rfl,e1]at h1;exact oQ (jW G args[i]) h1
    have F9:bl C.P s.ad κ F w (use (aT C.aK s.ax (.tmp t))).2 (a.eval (.tmp t)):=cv G (.tmp t) hu aY.1 |> λh=>by
     have e:use (aT C.aK s.ax (.tmp t))=(bU,.val (.fn aI b) f):=hu;grind
    have e:use (aT C.aK s.ax (.tmp t))=(bU,.val (.fn aI b) f):=hu;rw[e]at F9;obtain⟨_,u,xl,_,s5⟩:=(dy rfl).1 F9;have xl:a.eval (.tmp t)=u:=(List.cons.inj xl).1;obtain⟨g,cF,aA,r6,Lp⟩:=s5 F' w f1 (cG.refl _ _) aW.cL aW.ij (args.map a.eval) x dB.1 dB.2 an.1;have cH:(execOp a.eval o).run C.P w=.ok (.enter g ((args.map a.eval).toArray++cF)) w:=by
     have hv:a.eval (.tmp t)=.func (.func g) #[] cF:=xl.trans aA;simp only[execOp,ag,Sem.run_bind,resolve,hv,Deferred.ofValue,Sem.run_pure,Result.andThen_ok,invoke];grind
    refine B' (by grind) cH Lp λe w' ⟨v,y,aB,he,aM,h1,h2,h3,ab⟩=>⟨v,he,an.2 y aM _ _ ?_⟩
    have fU:s8 C.P b (uN F' w w') w' v y:=⟨aB,h1,h2,h3⟩
    unfold qQ;by_cases hp:b.pure=true
    ·rw[if_pos hp];have aA:=G.grow ab;refine⟨κ,_,aA.set a6 (B_ ?_)⟩;exact⟨aB,h1,RI hp ⟨h2,h3⟩⟩
    ·rw[if_neg hp];have aA:=aW.grow ab;exact⟨κ,_,aA.set a6 (B_ fU)⟩
   ·cases oe;exact SM a6 (pU _ hx)
   ·have:=ab (.tmp t) (by rw[ag];simp[Op.operands,Call.operands]);have e:use (aT C.aK s.ax (.tmp t))=(bU,.val (.fn aI b) f):=hu;grind
  grind
 grind
theorem afi(hT:dx C.P T)(a6:∀ i,o.dst=some i->i<C.nt){ty:TypeId}{x:Operand}(ag:o.op=.range ty x){pr:hI}(h:FR C.aK T s o ty x=some pr):p0 C o s pr:=by
 unfold FR at h;split at h
 ·rename_i k v d aG au;split at h;rename_i bU av hu;split at h
  ·rename_i es fl oT;split at h
   ·cases h
   ·rename_i tu;cases h;have tu:d ∉ fl:=by grind
    obtain⟨i,j,E,_,_⟩:=(hT.bO aG (by simp)).mp;refine⟨λa w Q K G aY an=>?_,λgs oe=>(by grind),λab=>qN.use ab (by rw[ag];simp[Op.operands]) hu⟩;obtain⟨κ,F,G⟩:=G;obtain⟨F',f1,aW,f2⟩:=bc.kW (mA oT) G;have hv:=cv G x hu aY;have nx:=((dy rfl).1 (l1 G.bp f1 oT f2 hv)).2;have ix:=an.2 () rfl;have oX:(s.cc fl).ad d=s.ad d:=by simp only[ay.cc];grind
    have fin:∀ (b8:Obj),(∀ w',w'=w.alloc b8->wG C.P k v F' w' w.heap.size none es)->(execOp a.eval o).run C.P w=.ok (.value (.pointer (some ⟨w.heap.size,0,none⟩))) (w.alloc b8)->o.wpIn (dw C.r) 0 C.P a w K Q:=by
     intro b8 hit cH;have h1:=aW.alloc (b:=d) (x:=⟨(s.ad d).gen+1,.b8 k v none es⟩) (G.gv (a6 d au)) (by grind) (o:=b8) (k:=⟨w.heap.size,0,0,false⟩) rfl λH κ' _ _ _=>hit _ rfl;refine ha (by grind) cH (ix _ _ ⟨_,F',bc.set (s:=(s.cc fl).b' d _) h1 a6 ⟨⟨by simp[ay.b'],rfl⟩,λ_ _=>by simp⟩⟩)
    rcases nx with⟨e1,rfl⟩ | ⟨r,ms,clk,e1,m1,m2,m3,m4,m5,m6⟩
    ·have hx:a.eval x=.map none:=(List.cons.inj e1).1;refine fin (.mapIter none 0 #[] 0) (λw' hw=>.inl ⟨by rw[hw];exact pM _ _,rfl,rfl⟩) ?_;simp[execOp,ag,Instr.range,di E,hx]
    ·have hx:a.eval x=.map (some r):=(List.cons.inj e1).1;refine fin (.mapIter (some r) clk #[] clk) (λw' hw=>.inr ⟨r,ms,clk,#[],m1,?_,by rw[hw];exact pM _ _,λi E=>(m5 i (by omega) E).2.2.2.2,m6,?_,λc hc=>by cases hc⟩) ?_
     ·rw[hw,oN _ _ (aW.cL r m1)];exact m2
     ·refine⟨List.range ms.size,by grind,List.nodup_range,λi=>by simp,λj aC fA=>?_⟩;have wX:j<ms.size:=by omega
      obtain⟨aO,aP,bA,gi,_⟩:=m5 j fA wX;refine⟨by grind,?_⟩;simp only[List.getElem_range];have he:cG F' w w':=by rw[hw];exact cG.alloc aW.cL _
      exact yL.mono ⟨aO,aP,bA,gi⟩ (λ_ h=>h) he
     ·have eB:(getObj r).run C.P w=.ok (.map ms clk) w:=by simp[getObj,Sem.run,m2]
      simp[execOp,ag,Instr.range,di E,hx,eB]
  grind
 grind
theorem afj(a6:∀ i,o.dst=some i->i<C.nt){x:Operand}(ag:o.op=.entry x){pr:hI}(h:FV C.aK s o x=some pr):p0 C o s pr:=by
 unfold FV at h;split at h
 ·rename_i b g hx;split at h
  ·rename_i aA;split at h
   ·rename_i k v c b5 ab;cases h;refine⟨λa w Q K G _ an=>?_,λgs oe=>(by grind),λ_=>trivial⟩;obtain⟨κ,F,G⟩:=G;have hv:=jW G x;rw[hx]at hv;have hv:=hv.2 aA.symm (by rw[ab];rfl);have aN:=G.bp b;unfold cg at aN;rw[ab]at aN;have eY:=M.kv.1 an;have ix:=M.dF.1 eY.2;obtain⟨c',jx⟩:=Option.isSome_iff_exists.1 eY.1;subst jx;rcases aN with⟨_,_,e⟩ | ⟨lp,es,clk,seen,h1,h2,h3,aR,bw,_,fN⟩
    ·cases e
    ·obtain⟨i,E,hs,he⟩:=fN c' rfl;have u5:es.find? (λe=>e.born == es[i].born)=some es[i]:=by
      rw[<-Array.find?_toList];have jB:es[i]∈es.toList:=by simp
      cases ar:es.toList.find? (λe=>e.born == es[i].born) with
      | none=>grind
      | some e=>
       have iX:=List.find?_some ar;have pH:=List.mem_of_find?_eq_some ar;obtain⟨j,aC,rfl⟩:=List.mem_iff_getElem.1 pH;grind
     have Cz:(getObj (κ b).ad).run C.P w=.ok (.mapIter (some lp) clk seen clk) w:=by simp[getObj,Sem.run,h3]
     have w1:(getObj lp).run C.P w=.ok (.map es clk) w:=by simp[getObj,Sem.run,h2]
     have cH:(execOp a.eval o).run C.P w=.ok (.value (.tuple #[es[i].key,es[i].val])) w:=by
      simp[execOp,ag,Instr.entry,hv,Cz,w1,hs,u5]
     refine ha (by grind) cH (ix _ _ ⟨κ,F,G.set a6 ⟨[es[i].key,es[i].val],rfl,rfl,λn az=>?_⟩⟩);match n,az with
     | 0,_=>exact⟨he.1,he.2.1⟩
     | 1,_=>exact⟨he.2.2.1,he.2.2.2⟩
   grind
  grind
 grind
theorem afk{es:Array MapEntry}{seen:Array Nat}{clk:Nat}(aR:∀ i (h:i<es.size),es[i].born<clk) :
  (es.filter λe=>!seen.contains e.born).filter (λe=>decide (e.born<clk))=(es.filter λe=>!seen.contains e.born)/\(es.filter λe=>!seen.contains e.born).filter (λe=>decide (e.born>=clk))=#[]:=by
 have fo:∀ e∈es.filter λe=>!seen.contains e.born,e.born<clk:=by
  intro e he;have:=(Array.mem_filter.1 he).1;obtain⟨i,E,rfl⟩:=Array.mem_iff_getElem.1 this;grind
 constructor
 ·exact Array.filter_eq_self.2 λe he=>by grind
 ·exact Array.filter_eq_empty_iff.2 λe he=>by grind
theorem afl(P:Program)(w:World)(n:Nat):∃ j w',(choose (.mapNext n)).run P w=.ok j w'/\(0<n->j<n)/\(w'=w\/w'=w.drew):=by
 rw[run_choose];by_cases h:n<=1
 ·have:(Question.mapNext n).forced=true:=by simp[Question.forced,h]
  rw[this];grind
 ·have:(Question.mapNext n).forced=false:=by simp[Question.forced];omega
  rw[this];exact⟨_,_,rfl,λaz=>Nat.mod_lt _ az,.inr rfl⟩
theorem afm(a6:∀ i,o.dst=some i->i<C.nt){x:Operand}{str:Bool}(ag:o.op=.next x str){pr:hI}(h:FU C.aK s o x str=some pr):p0 C o s pr:=by
  unfold FU at h;split at h
  · rename_i b g hx
    split at h
    · rename_i aA
      split at h
      · rename_i k v c b5 ab
        cases h
        refine⟨λa w Q K G _ an=>?_,λgs oe=>(by grind),λ_=>trivial⟩
        obtain⟨κ,F,G⟩:=G
        have hv:=jW G x
        rw[hx]at hv
        have hv:=hv.2 aA.symm (by rw[ab];rfl)
        have aN:=G.bp b
        unfold cg at aN
        rw[ab]at aN
        have au:∀ c,o.op≠.defer c:=by grind
        have fO:∀ w',(w'=w\/w'=w.drew)->b5=[]->(execOp a.eval o).run C.P w=.ok (.value (.tuple #[.bool false])) w'->o.wpIn (dw C.r) 0 C.P a w K Q:=by
          intro w' CA r7 cH;have cr:bc C s a w' κ F:=by
            rcases CA with rfl | rfl
            · exact G
            · exact G.drew
          have RF:s.b' b ⟨g,.b8 k v c b5⟩=s:=by
            unfold ay.b';congr 1;funext i;by_cases E:i=b
            · rw[if_pos E,E,<-ab,<-aA]
            grind
          refine ha au cH (an.2 none r7 _ _ ⟨κ,F,bc.set (s:=s.b' b ⟨g,.b8 k v c b5⟩) (by grind) a6 ⟨[.bool false],rfl,rfl,λn az=>?_⟩⟩);have:n=0:=by simp only[St]at az;omega
          subst this;exact eT.2 rfl
        rcases aN with⟨h1,h2,_⟩ | ⟨lp,es,clk,seen,h1,h2,h3,aR,bw,⟨ids,i1,i2,i3,i4⟩,fN⟩
        · refine fO w (.inl rfl) h2 ?_
          have Cz:(getObj (κ b).ad).run C.P w=.ok (.mapIter none 0 #[] 0) w:=by simp[getObj,Sem.run,h1]
          simp[execOp,ag,Instr.next,hv,Cz]
        · have Cz:(getObj (κ b).ad).run C.P w=.ok (.mapIter (some lp) clk seen clk) w:=by simp[getObj,Sem.run,h3]
          have w1:(getObj lp).run C.P w=.ok (.map es clk) w:=by simp[getObj,Sem.run,h2]
          obtain⟨f1,f2⟩:=afk (seen:=seen) aR
          have fo:(!seen.isEmpty&&!es.isEmpty&&es.all (λe=>decide (e.born>=clk)))=false:=by
            by_cases he:es.size=0
            · grind
            · have:es.all (λe=>decide (e.born>=clk))=false:=by
                rw[Array.all_eq_false];exact⟨0,by omega,by grind⟩
              grind
          generalize afn:(es.filter λe=>!seen.contains e.born)=left at f1 f2
          have afo:((if left.isEmpty=true then #[none] else #[])++Array.map some (left++(#[]:Array MapEntry)))=(if left.isEmpty=true then #[none] else Array.map some left):=by
            grind
          obtain⟨j,w',c1,c2,c3⟩:=afl C.P w (if left.isEmpty=true then #[none] else Array.map some left).size
          have cA:w'.heap=w.heap:=by rcases c3 with rfl | rfl<;>rfl
          have zD : ∀ r cI, (match (if left.isEmpty = true then #[none] else Array.map some left)[j]? with
                | some (some e)=>(do setObj (κ b).ad (.mapIter (some lp) clk (seen.push e.born) clk);pure (.tuple #[.bool true,e.key,e.val]):Sem Value)
                | some none=>pure (.tuple #[.bool false])
                | none => stuck "Next: no such candidate").run C.P w' = .ok r cI -> (execOp a.eval o).run C.P w = .ok (.value r) cI := by
            intro r cI cr;simp only[execOp,ag,Instr.next,hv,Sem.run_bind,Cz,Result.andThen_ok,w1,fo,Bool.false_eq_true,if_false,afn,f1,f2,afo,c1];exact (congrArg (λ(z:Result Value)=>z.andThen λv w'=>Sem.run C.P (Pure.pure (Next.value v)) w') cr).trans rfl
          by_cases hle:left.isEmpty=true
          · have J7:left=#[]:=by grind
            have r7:b5=[]:=by
              have:ids=[]:=List.eq_nil_iff_forall_not_mem.2 λi E=>by
                obtain⟨Lq,df⟩:=(i3 i).1 E;have:es[i]∈left:=by
                  grind
                grind
              grind
            rw[hle]at zD c2
            simp only[if_true]at zD c2
            have aC:j=0:=by grind
            subst aC
            exact fO w' c3 r7 (zD _ _ rfl)
          · have hle:left.isEmpty=false:=by grind
            rw[hle]at zD c2
            simp only[Bool.false_eq_true,if_false]at zD c2
            have axq:0<left.size:=by
              grind
            have aC:j<left.size:=by grind
            have jB:left[j]∈(es.filter λe=>!seen.contains e.born):=by grind
            obtain⟨tw,SN⟩:=Array.mem_filter.1 jB
            obtain⟨i0,n_,afp⟩:=Array.mem_iff_getElem.1 tw
            have afq:i0∈ids:=(i3 i0).2 ⟨n_,by grind⟩
            obtain⟨q,bf,Lr⟩:=List.mem_iff_getElem.1 afq
            have Ls:q<b5.length:=by omega
            have oV:(setObj (κ b).ad (.mapIter (some lp) clk (seen.push left[j].born) clk)).run C.P w'=.ok () { w' with heap:=w'.heap.setIfInBounds (κ b).ad (.mapIter (some lp) clk (seen.push left[j].born) clk) }:=by
              simp[setObj,Sem.run,cA,h3]
            have cH:=zD (.tuple #[.bool true,left[j].key,left[j].val]) { w' with heap:=w'.heap.setIfInBounds (κ b).ad (.mapIter (some lp) clk (seen.push left[j].born) clk) } (by
              rw[show (Array.map some left)[j]?=some (some left[j]) by simp];simp only[Sem.run_bind,oV,Result.andThen_ok,Sem.run_pure])
            have iN:cM w w':=by rcases c3 with rfl | rfl<;>exact⟨rfl,rfl,rfl⟩
            have b4:(κ b).ad<w.heap.size:=(Array.getElem?_eq_some_iff.1 h3).1
            have ea:lp≠(κ b).ad:=λe=>(G.own b (by grind)).2.1 (e ▸ h1)
            have fV:e6 s.ad κ (λi=>if i=b then (⟨g,.b8 k v b5[q]? (b5.eraseIdx q)⟩:bu) else s.ad i) κ:=
              qA aA.symm (λh=>by cases h) (λh=>by cases h) (λh=>by cases h) (λ_=>by rw[ab];rfl)
            have gl:=G.oO (b:=b) (x:=⟨g,.b8 k v b5[q]? (b5.eraseIdx q)⟩) (w':={ w' with heap:=w'.heap.setIfInBounds (κ b).ad (.mapIter (some lp) clk (seen.push left[j].born) clk) }) (by rw[ab];rfl) rfl fV (λh=>by cases h) (λh=>by cases h)
              (λr Kl=>by grind) (by grind) ⟨iN.os,iN.tape,iN.output⟩ λH _ _ he=>by
                refine .inr ⟨lp,es,clk,seen.push left[j].born,h1,?_,by grind,aR,bw,⟨ids.eraseIdx q,?_,?_,λi=>?_,λn az Cd=>?_⟩,λc' jx=>?_⟩
                · grind
                · grind
                · grind
                · rw[List.mem_eraseIdx_iff_getElem]
                  constructor
                  · rintro⟨n,az,F_,rfl⟩
                    obtain⟨tK,qX⟩:=(i3 ids[n]).1 (by simp)
                    refine⟨tK,?_⟩
                    simp only[Array.contains_push,Bool.or_eq_false_iff]
                    refine⟨qX,?_⟩
                    rw[<-afp]
                    simp only[beq_eq_false_iff_ne,ne_eq]
                    intro e
                    have:ids[n]=i0:=bw _ _ tK n_ (by omega)
                    exact F_ ((List.getElem?_inj az i2).1 (by grind))
                  · rintro⟨tK,qX⟩
                    simp only[Array.contains_push,Bool.or_eq_false_iff]at qX
                    obtain⟨n,az,rfl⟩:=List.mem_iff_getElem.1 ((i3 i).2 ⟨tK,qX.1⟩)
                    grind
                · have vc:(ids.eraseIdx q)[n]=if h:n<q then ids[n]'(by omega) else ids[n+1]'(by grind):=by
                    rw[List.getElem_eraseIdx]
                  have SO:(b5.eraseIdx q)[n]=if h:n<q then b5[n]'(by omega) else b5[n+1]'(by grind):=by
                    rw[List.getElem_eraseIdx]
                  have hlen:n+1<ids.length:=by grind
                  by_cases F_:n<q
                  · obtain⟨tK,qX⟩:=i4 n (by omega) (by omega)
                    simp only[vc,SO,F_,dif_pos]
                    exact⟨tK,qX.mono (λ_ h=>h) he⟩
                  · obtain⟨tK,qX⟩:=i4 (n+1) hlen (by omega)
                    simp only[vc,SO,F_,dif_neg,not_false_eq_true]
                    exact⟨tK,qX.mono (λ_ h=>h) he⟩
                · rw[List.getElem?_eq_getElem Ls]at jx
                  cases jx
                  obtain⟨tK,qX⟩:=i4 q bf Ls
                  refine⟨i0,n_,by grind,?_⟩
                  have e1:es[ids[q]]=es[i0]:=by congr 1
                  rw[e1]at qX
                  exact qX.mono (λ_ h=>h) he
            refine ha au cH (an.2 (some q) Ls _ _ ⟨κ,F,bc.set (s:=s.b' b _) gl a6 ⟨[.bool true,left[j].key,left[j].val],rfl,rfl,λn az=>?_⟩⟩)
            match n,az with
            | 0,_=>exact eT.2 rfl
            | 1,_=>trivial
            | 2,_=>trivial
      grind
    grind
  grind
end
end Go.Fer
namespace Go.Fer
open Go.RowKit
def CB:z9'->List Value->List Value->Prop
 | [],[],aB=>aB=[]
 | none::g,u::us,aB=>∃ rH,aB=u::rH/\CB g us rH
 | some n::g,u::us,aB=>∃ cs rH,u=.agg cs/\cs.size=n/\(∀ c∈cs.toList,c.oneCell'=true)/\aB=cs.toList++rH/\CB g us rH
 | _,_,_=>False
def Ga(g:z9')(v:Value)(aB:List Value):Prop:=∃ us:List Value,us.length=g.length/\v=(if us.length=1 then us.getD 0 undef else .tuple us.toArray)/\CB g us aB
structure IoSpec(P:Program)(U:dj)(k:FuncId)(c:IOC):Prop where
 enter:∀ args w,(callFunc k args).run P w=.ok (.enter k args) w
 iH:∀ (C:bS) (a:Act) (w:World) (κ:Nat->bo) (F:Nat->Prop) (A:c.b7.ah),C.P=P->C.w0=w->C.r=none->C.dfr=[]->C.nt=c.j4->C.aK=U->bc C (c.b7.st A) a w κ F->(c.sh A).bY->
  Calls P k a.tmps w λe w'=>∃ v τ aB κ' F',e=.returned v/\(c.sh A).bC τ/\Ga c.ko v aB/\bc { C with nt:=aB.length } (c.bC.st τ) { tmps:=aB.toArray,defers:=[] } w' κ' F'
section
variable {P:Program} {H H':Nat->bu} {κ κ':Nat->bo} {F:Nat->Prop} {w:World} {g:Nat->Nat×Nat}
def o7(H H':Nat->bu)(κ κ':Nat->bo)(g:Nat->Nat×Nat):Prop:=∀ b,(H b).gen=0/\pL ⟨(g b).2,(H b).body⟩ (H' (g b).1) (κ b) (κ' (g b).1)
theorem o7.loc(h:o7 H H' κ κ' g){b off:Nat}{v:Value}(hv:bl P H κ F w (.loc b 0 off) v):bl P H' κ' F w (.loc (g b).1 (g b).2 off) v:=by
 obtain⟨h0,aO,aP⟩:=h b;refine⟨⟨aO,hv.1.2⟩,λaA hc=>?_⟩;obtain⟨c1,c2⟩:=(aP aA).1 hc;rw[c2];exact hv.2 h0.symm c1
theorem o7.av(h:o7 H H' κ κ' g)(t:bI){R:Type}(z:t.cons R){v:Value}(hv:bl P H κ F w (t.av cJ z).1 v):bl P H' κ' F w (t.av g z).1 v:=by
 cases t with
 | undef=>trivial
 | val t=>exact hv
 | dz t=>exact hv
 | loc b off=>exact h.loc hv
 | own b=>
  obtain⟨h0,aO,aP⟩:=h b;refine⟨⟨aO,hv.1.2⟩,λaA hc=>?_⟩;obtain⟨c1,c2,c3,c4⟩:=(aP aA).2.1 hc;rw[c2,c3];exact hv.2 h0.symm c1
 | sub b=>
  obtain⟨h0,aO,aP⟩:=h b;refine⟨⟨aO,hv.1.2⟩,λaA hc=>?_⟩;obtain⟨c1,c2,c3,c4⟩:=(aP aA).2.1 hc;rw[c2,c3,c4];exact hv.2 h0.symm c1
 | fp b=>
  obtain⟨h0,aO,aP⟩:=h b;refine⟨⟨aO,hv.1.2⟩,λaA hc=>?_⟩;obtain⟨c1,c2⟩:=(aP aA).2.2.1 hc;rw[c2];exact hv.2 h0.symm c1
 | jR b=>
  obtain⟨h0,aO,aP⟩:=h b;refine⟨⟨aO,hv.1.2⟩,λaA hc=>?_⟩;obtain⟨c1,c2⟩:=(aP aA).2.2.2 hc;rw[c2];exact hv.2 h0.symm c1
 | cR=>exact hv
 | ih k fD=>
  obtain⟨aB,h1,h2,h3⟩:=hv;refine⟨aB,h1,h2,λi E=>?_⟩;have:=h3 i E;have e1:u9 cJ fD i=.loc fD[i].1 0 fD[i].2:=by simp[u9,gO,List.getD_eq_getElem?_getD,E,cJ]
  have e2:u9 g fD i=.loc (g fD[i].1).1 (g fD[i].1).2 fD[i].2:=by simp[u9,gO,List.getD_eq_getElem?_getD,E]
  rw[e1]at this;rw[e2];exact h.loc this
 | hn bs=>
  obtain⟨aB,h1,h2,h3⟩:=hv;refine⟨aB,h1,h2,λi E=>?_⟩;obtain⟨this,jx⟩:=h3 i E;refine⟨?_,jx⟩;have e1:u_ cJ bs i=.own bs[i] 0:=by simp[u_,gO,List.getD_eq_getElem?_getD,E,cJ]
  have e2:u_ g bs i=.own (g bs[i]).1 (g bs[i]).2:=by simp[u_,gO,List.getD_eq_getElem?_getD,E]
  rw[e1]at this;rw[e2];obtain⟨h0,aO,aP⟩:=h bs[i];refine⟨⟨aO,this.1.2⟩,λaA hc=>?_⟩;obtain⟨c1,c2,c3,c4⟩:=(aP aA).2.1 hc;rw[c2,c3];exact this.2 h0.symm c1
 | iI b=>
  obtain⟨h0,aO,aP⟩:=h b;refine⟨⟨aO,hv.1.2⟩,λaA hc=>?_⟩;obtain⟨c1,c2,c3,c4⟩:=(aP aA).2.1 hc;rw[c2,c3,c4];exact hv.2 h0.symm c1
 | tr aI=>trivial
 | gM=>exact hv
theorem zE(t:bI){R:Type}(z:t.cons R):(t.av g z).2=(t.av cJ z).2:=by cases t<;>rfl
theorem SP:∀ (ts:List bI) {R:Type} (z:pX ts R),(o3 g ts z).2=(o3 cJ ts z).2
 | [],_,_=>rfl
 | t::ts,_,z=>by simp only[o3];rw[zE (g:=g) t z];exact SP ts _
theorem SQ(t:bN){R:Type}(z:t.cons R):(t.body g z).2=(t.body cJ z).2:=by
 cases t with
 | cells t l=>exact SP l z
 | fQ e t=>exact zE t z.2
 | _=>rfl
theorem Lt:∀ (ts:List (Nat×bI)) {R:Type} (z:n' ts R),(eb g ts z).2=(eb cJ ts z).2
 | [],_,_=>rfl
 | p::ts,_,z=>by simp only[eb];rw[zE (g:=g) p.2 z];exact Lt ts _
theorem o7.avs(h:o7 H H' κ κ' g):∀ (ts:List bI) {R:Type} (z:pX ts R) (i:Nat) {v:Value},bl P H κ F w ((o3 cJ ts z).1.getD i .undef) v->bl P H' κ' F w ((o3 g ts z).1.getD i .undef) v
 | [],_,_,i,v,_=>by simp[o3,bl]
 | t::ts,_,z,i,v,hv=>by
  simp only[o3]at hv ⊢;cases i with
  | zero=>exact h.av t z hv
  | succ i=>
   simp only[List.getD_cons_succ]at hv ⊢;rw[zE (g:=g) t z];exact h.avs ts _ i hv
theorem o7.bF(h:o7 H H' κ κ' g):∀ (ts:List (Nat×bI)) {R:Type} (z:n' ts R) (i:Nat) {v:Value},bl P H κ F w (e7 (eb cJ ts z).1 i) v->bl P H' κ' F w (e7 (eb g ts z).1 i) v
 | [],_,_,i,v,_=>by simp[eb,e7,bl]
 | p::ts,_,z,i,v,hv=>by
  simp only[eb,e7]at hv ⊢;by_cases e:i=p.1
  ·rw[if_pos e]at hv ⊢;exact h.av p.2 z hv
  ·rw[if_neg e]at hv ⊢;rw[zE (g:=g) p.2 z];exact h.bF ts _ i hv
theorem SR:∀ (ts:List (Nat×bI)) {R:Type} (z:n' ts R) (i:Nat) {l aI L n st},e7 (eb g ts z).1 i=.tr l aI L n st->e7 (eb cJ ts z).1 i=.tr l aI L n st
 | [],_,_,i,_,_,_,_,_,h=>by simp[eb,e7]at h
 | p::ts,_,z,i,l,aI,L,n,st,h=>by
  simp only[eb,e7]at h ⊢;by_cases e:i=p.1
  ·rw[if_pos e]at h ⊢;obtain⟨jw,t⟩:=p;cases t<;>first | exact h | cases h
  ·rw[if_neg e]at h ⊢;rw[zE (g:=g) p.2 z]at h;exact SR ts _ i h
def xm(x y:bB):Prop:=x.fq=y.fq/\x.eU=y.eU/\x.len=y.len/\x.eH=y.eH/\x.gF=y.gF/\x.mv=y.mv/\∀ k,x.bJ k=y.bJ k
theorem xm.refl(x:bB):xm x x:=⟨rfl,rfl,rfl,rfl,rfl,rfl,λ_=>rfl⟩
theorem afr(t:bN){R:Type}(z:t.cons R):xm (t.body g z).1 (t.body cJ z).1:=by
 cases t with
 | cells t l=>exact⟨rfl,rfl,rfl,rfl,rfl,rfl,λ_=>rfl⟩
 | fQ e t=>exact⟨rfl,rfl,rfl,rfl,rfl,rfl,λ_=>rfl⟩
 | _=>exact xm.refl _
theorem afs:∀ (t:af) (x:t.ah) (av:aD),av∈nq t x->∀ {v:Value},bl P H κ F w av v->bl P H' κ' F w av v:=by
  intro t;induction t with
  | cz=>intro x av h;cases h
  | st t aH=>intro x av h;exact aH x av h
  | aw a b fe ej=>
   intro x av h;rcases List.mem_append.1 h with h | h
   ·exact fe _ av h
   ·exact ej _ av h
  | array n e aH=>
   intro x av h;simp only[nq,List.mem_flatMap]at h;grind
  | _=>
   intro x av h v hv;simp only[nq,List.mem_singleton]at h;subst h;exact hv
theorem o7.body(h:o7 H H' κ κ' g)(t:bN){R:Type}(z:t.cons R){k:bo}(ab:jo P H κ F w k (t.body cJ z).1):jo P H' κ' F w k (t.body g z).1:=by
 cases t with
 | cells t l=>
  obtain⟨cs,T,h1,h2,h3⟩:=ab;exact⟨cs,T,h1,h2,λi E=>⟨h.avs l z i (h3 i E).1,(h3 i E).2⟩⟩
 | fL t=>
  obtain⟨cs,T,h1,h2,h3⟩:=ab;refine⟨cs,T,h1,h2,λi E=>⟨?_,(h3 i E).2⟩⟩;have:=(h3 i E).1;unfold gO at this ⊢;rw[List.getD_eq_getElem?_getD]at this ⊢;cases ai:(nq t z.1)[i]? with
  | none=>trivial
  | some av=>
   rw[ai]at this;simp only[Option.getD_some]at this ⊢;have jB:=List.mem_of_getElem? ai;exact afs t z.1 av jB this
 | a8 e=>exact ab
 | hj e=>exact ab
 | mp k v=>exact ab
 | iY k v=>exact ab
 | gq t=>exact ab
 | b8 k v=>exact ab
 | fQ e t=>
  obtain⟨h0,cs,T,h1,h2,h3,aR,bw,cZ,fN,iX⟩:=ab;exact⟨h0,cs,T,h1,h2,h3,aR,bw,cZ,h.av t z.2 fN,iX⟩
theorem SS{l:List (Nat×bN)}{x y:o2 l}(h:x=y)(g:Nat->Nat×Nat)(b:Nat):eu (gQ g l x) b=eu (gQ g l y) b:=by rw[h]
theorem SU:∀ (l:List (Nat×bN)) (x:o2 l) (b:Nat),xm (eu (gQ g l x) b).body (eu (gQ cJ l x) b).body
 | [],_,_=>xm.refl _
 | p::l,x,b=>by
  simp only[gQ,eu];split
  ·exact afr p.2 x
  ·rw[SQ (g:=g) p.2 x];exact SU l _ b
theorem o7.bp(h:o7 H H' κ κ' g):∀ (l:List (Nat×bN)) (x:o2 l) (b:Nat) {k:bo},jo P H κ F w k (eu (gQ cJ l x) b).body->jo P H' κ' F w k (eu (gQ g l x) b).body
 | [],_,_,k,_=>trivial
 | p::l,x,b,k,ab=>by
  simp only[gQ,eu]at ab ⊢;split
  ·rename_i e;rw[if_pos e]at ab;exact h.body p.2 x ab
  ·rename_i e;rw[if_neg e]at ab;rw[SQ (g:=g) p.2 x];exact h.bp l _ b ab
theorem Lu:∀ (l:List (Nat×bB)) (b:Nat),(eu l b).gen=0
 | [],_=>rfl
 | p::l,b=>by
  simp only[eu];split
  ·rfl
  ·exact Lu l b
end
end Go.Fer
namespace Go.Fer
open Go.RowKit
theorem Gb{aj:Type}{k:aj->Nat}:∀ {l:List aj},(l.map k).Nodup->∀ {p:aj},p∈l->l.find? (λq=>k q == k p)=some p
 | [],_,_,h=>by cases h
 | a::l,az,p,h=>by
  simp only[List.map_cons,List.nodup_cons]at az;by_cases e:k a=k p
  ·grind
  ·rw[List.find?_cons_of_neg (by grind)];rcases List.mem_cons.1 h with rfl | h
   ·omega
   ·exact Gb az.2 h
theorem CC{aj:Type}{k:aj->Nat}{l:List aj}(az:(l.map k).Nodup){p q:aj}(hp:p∈l)(bf:q∈l)(e:k p=k q):p=q:=by
 have h1:=Gb az hp;rw[e,Gb az bf]at h1;grind
theorem SV:∀ {l:z6'},(l.map (·.1)).Nodup->∀ {p},p∈l->hJ l p.1=p.2
 | [],_,_,h=>by cases h
 | a::l,az,p,h=>by
  simp only[List.map_cons,List.nodup_cons]at az;simp only[hJ];by_cases e:p.1=a.1
  ·grind
  ·rw[if_neg e];rcases List.mem_cons.1 h with rfl | h
   ·omega
   ·exact SV az.2 h
theorem SW:∀ {l:z6'} {b:Nat},b ∉ l.map (·.1)->hJ l b=(mK,0)
 | [],_,_=>rfl
 | a::l,b,h=>by
  simp only[List.map_cons,List.mem_cons,not_or]at h;simp only[hJ];rw[if_neg h.1];exact SW h.2
theorem SX(s:ay)(d:Nat)(f:Nat->Nat)(ins:List Nat):∀ (l:List (Nat×bN)) (j:Nat),(r0 s d f ins l j).map (·.1)=l.map (·.1)
 | [],_=>rfl
 | p::l,j=>by
  simp only[r0,List.map_cons,SX s d f ins l (j+1)];grind
theorem SY(s:ay)(d:Nat)(f:Nat->Nat)(ins:List Nat):∀ (l:List (Nat×bN)) (j:Nat) {p:Nat×(Nat×Nat)},p∈r0 s d f ins l j->
  (p.1∈ins/\p.2.1=f p.1/\∃ t,(p.1,t)∈l/\((p.2.2=(s.ad (f p.1)).gen/\((∀ (g:Nat->Nat×Nat) (R:Type) (z:t.cons R),(t.body g z).1.eU=false)\/(wH<=p.1/\∃ e,t=.a8 e)))\/p.2.2=(s.ad (f p.1)).gen+1))\/
  (p.1 ∉ ins/\p.2.2=(s.ad p.2.1).gen+1/\50000+10*d+j<=p.2.1/\p.2.1<50000+10*d+j+l.length)
 | [],_,p,h=>by cases h
 | q::l,j,p,h=>by
  simp only[r0,List.mem_cons]at h;rcases h with h | h
  ·by_cases bf:ins.contains q.1=true
   ·rw[if_pos bf]at h;subst h;refine .inl ⟨by grind,rfl,q.2,by simp,?_⟩;obtain⟨c7,t⟩:=q;cases t with
    | a8 e=>
     grind
    | _=>first | exact .inr rfl | exact .inl ⟨rfl,.inl λ_ _ _=>rfl⟩
   grind
  ·rcases SY s d f ins l (j+1) h with⟨h1,h2,t,h3,aR⟩ | ⟨h1,h2,h3,aR⟩
   ·exact .inl ⟨h1,h2,t,List.mem_cons_of_mem _ h3,aR⟩
   ·exact .inr ⟨h1,h2,by omega,by simp only[List.length_cons];omega⟩
theorem Gc(g:Nat->Nat×Nat):∀ (l:List (Nat×bN)) (x:o2 l) (b:Nat),(eu (gQ g l x) b=⟨0,.ff⟩/\b ∉ l.map (·.1))\/∃ q∈l,q.1=b/\∃ (R:Type) (z:q.2.cons R),eu (gQ g l x) b=⟨0,(q.2.body g z).1⟩
 | [],_,_=>.inl ⟨rfl,by simp⟩
 | p::l,x,b=>by
  simp only[gQ,eu];by_cases e:b=p.1
  ·grind
  ·rw[if_neg e];rcases Gc g l (p.2.body g x).2 b with⟨h1,h2⟩ | ⟨q,h1,h2⟩
   ·exact .inl ⟨h1,by rw[List.map_cons,List.mem_cons,not_or];exact⟨e,h2⟩⟩
   ·exact .inr ⟨q,List.mem_cons_of_mem _ h1,h2⟩
theorem aft{t u:bN}(h:t.FD u=true){g g':Nat->Nat×Nat}{R Lv:Type}(z:t.cons R)(l4:u.cons Lv) :
  ((t.body g z).1.fq=true->(u.body g' l4).1.fq=true/\∀ k,(u.body g' l4).1.bJ k=true)/\((t.body g z).1.gF=true->(u.body g' l4).1.gF=true/\∀ k,(u.body g' l4).1.bJ k=true)/\(t.body g z).1.mv=false:=by
 cases t<;>cases u<;>first
  | exact Bool.noConfusion h
  | exact⟨λ_=>⟨rfl,λ_=>rfl⟩,λh=>Bool.noConfusion h,rfl⟩
  | exact⟨λh=>Bool.noConfusion h,λ_=>⟨rfl,λ_=>rfl⟩,rfl⟩
  | exact⟨λh=>Bool.noConfusion h,λh=>Bool.noConfusion h,rfl⟩
theorem xn:∀ (ts:List (Nat×bI)) {R:Type} (g:Nat->Nat×Nat) (z:n' ts R) (i:Nat),ts.any (λp=>p.1 == i)=false->e7 (eb g ts z).1 i=.undef
 | [],_,_,_,_,_=>rfl
 | p::ts,_,g,z,i,h=>by
  simp only[List.any_cons,Bool.or_eq_false_iff,beq_eq_false_iff_ne]at h;simp only[eb,e7];rw[if_neg (Ne.symm h.1)];exact xn ts g _ i h.2
theorem Lw{P:Program}{H:Nat->bu}{κ:Nat->bo}{F:Nat->Prop}{w:World}:∀ (g:z9') {us aB:List Value},CB g us aB->∀ (c:Nat->aD) (i:Nat),(∀ j,j<aB.length->bl P H κ F w (c (i+j)) (aB.getD j undef))->
  (o4 g c i).length=g.length/\us.length=g.length/\∀ j,j<g.length->bl P H κ F w ((o4 g c i).getD j .undef) (us.getD j undef)
 | [],[],aB,_,_,_,_=>⟨rfl,rfl,λj aC=>by cases aC⟩
 | [],_::_,_,h,_,_,_=>h.elim
 | none::g,[],_,h,_,_,_=>h.elim
 | some n::g,[],_,h,_,_,_=>h.elim
 | none::g,u::us,aB,h,c,i,hv=>by
  obtain⟨rH,rfl,h⟩:=h;obtain⟨h1,h2,h3⟩:=Lw g h c (i+1) λj aC=>by
   have:=hv (j+1) (by grind);rw[show i+(j+1)=i+1+j by omega]at this;simpa using this
  refine⟨by simp[o4,h1],by grind,λj aC=>?_⟩;cases j with
  | zero=>simpa [o4]using hv 0 (by simp)
  | succ j=>simpa [o4]using h3 j (by grind)
 | some n::g,u::us,aB,h,c,i,hv=>by
  obtain⟨cs,rH,rfl,az,ny,rfl,h⟩:=h;obtain⟨h1,h2,h3⟩:=Lw g h c (i+n) λj aC=>by
   have:=hv (n+j) (by grind);rw[show i+(n+j)=i+n+j by omega]at this;have e:(cs.toList++rH).getD (n+j) undef=rH.getD j undef:=by
    grind
   rw[e]at this;omega
  refine⟨by simp[o4,h1],by grind,λj aC=>?_⟩;cases j with
  | zero=>
   simp only[o4,List.getD_cons_zero];refine⟨cs.toList,by simp,by omega,λj aC=>?_⟩;grind
  | succ j=>simpa [o4]using h3 j (by grind)
theorem afu{P:Program}{H:Nat->bu}{κ:Nat->bo}{F:Nat->Prop}{w:World}{g:z9'}{v:Value}{aB:List Value}(h:Ga g v aB){c:Nat->aD}(hv:∀ j,bl P H κ F w (c j) (aB.getD j undef)) :
  bl P H κ F w (K5 (o4 g c 0)) v:=by
 obtain⟨us,h1,h2,h3⟩:=h;obtain⟨aO,_,bA⟩:=Lw g h3 c 0 (λj _=>by simpa using hv j);subst h2;generalize o4 g c 0=l at aO bA;unfold K5;split
 ·grind
 ·rename_i ai;have ea:us.length≠1:=λe=>by
   have:l.length=1:=by omega
   match l,this with
   | [x],_=>grind
  rw[if_neg ea];refine⟨us,rfl,by omega,λi E=>?_⟩;unfold gO;grind
section
variable {C:bS} {s:ay} {a:Act} {w:World} {κ:Nat->bo} {F:Nat->Prop}
theorem bc.args(G:bc C s a w κ F){avs:List aD}{us:List Value}(az:us.length<=ev)(ai:avs.length=us.length)(hv:∀ i,i<us.length->bl C.P s.ad κ F w (avs.getD i .undef) (us.getD i undef)) :
    bc { C with nt:=us.length,dfr:=[],r:=none } (rZ s avs) { tmps:=us.toArray,defers:=[] } w κ F:=
  { G with
    dk:=by simp,dfr:=rfl,fR:=az
    bF:=λi=>by
      show bl C.P s.ad κ F w (if i=TRS then s.ax TRS else if i<avs.length then avs.getD i .undef else .undef) (us.toArray.getD i undef);split
      · rename_i e
        subst e
        have h1:=G.bF TRS
        have h2:a.tmps.getD TRS undef=undef:=by
          have:=G.dk;have:=G.fR;rw[Array.getD_eq_getD_getElem?,Array.getElem?_eq_none (by unfold TRS ev at *;omega)];rfl
        have h3:us.toArray.getD TRS undef=undef:=by
          rw[Array.getD_eq_getD_getElem?,Array.getElem?_eq_none (by simp only[List.size_toArray];unfold TRS ev at *;omega)];rfl
        grind
      · split
        · simp_all
        · trivial
    bp:=G.bp
    pro:=λl aI L n st e=>G.pro l aI L n st (by simpa [rZ]using e) }
def qY(C:bS)(w:World)(F':Nat->Prop)(n:Nat)(own Y:Nat->Prop)(h4:(Nat->Option Nat)×(Nat->Option (bo×Nat))):bS:=
 { C with w0:=w,F0:=F',K0:=λr=>r<w.heap.size/\¬own r/\¬Y r,nt:=n,dfr:=[],r:=none,h4:=h4.1,JC:=h4.2 }
structure CD(C:bS)(s:ay)(w:World)(κ:Nat->bo)(F:Nat->Prop)(sl:aD)(Y:Nat->Prop):Prop where
 pro:∀ l aI L n st,sl=.tr l aI L n st->(∃ I,C.pr=⟨l,aI,L,I⟩)/\C.pr.Ok C.P/\C.pr.at aI n st F Y w
 low:∀ r,Y r->r<w.heap.size/\¬F r/\¬C.K0 r
 own:∀ b,(s.ad b).body.bJ (κ b)=true->¬Y (κ b).ad
 non:sl=.undef->∀ r,¬Y r
theorem bc.afv(G:bc C s a w κ F){sl:aD}(h:∀ l aI L n st,sl=.tr l aI L n st->s.ax TRS=.tr l aI L n st):∃ Y,CD C s w κ F sl Y:=by
 by_cases hs:∃ l aI L n st,sl=.tr l aI L n st
 ·obtain⟨l,aI,L,n,st,e⟩:=hs;obtain⟨h1,h2,Y,h3,aR,bw⟩:=G.pro l aI L n st (h _ _ _ _ _ e);refine⟨Y,⟨λl' kn L' iL h_ aS=>?_,h3,aR,λaS=>?_⟩⟩
  ·rw[e]at aS;cases aS;exact⟨h1,h2,bw⟩
  ·rw[e]at aS;cases aS
 ·exact⟨λ_=>False,⟨λl aI L n st e=>(hs ⟨l,aI,L,n,st,e⟩).elim,λ_ h=>h.elim,λ_ _ h=>h,λ_ _ h=>h⟩⟩
theorem afw{C1:bS}{eg:ay}{bV:Act}{F':Nat->Prop}{fl:List Nat}{f:Nat->Nat}{sh:dm}{A:sh.ah}{Y:Nat->Prop}{ids:List Nat}(jd:C1.P=C.P)(tm:C1.aK=C.aK)(qZ:C1.dfr=[])
  (gx:bc C1 (eg.cc fl) bV w κ F') (au:F8 C1 eg bV w κ f F' sh A fl) (hb:CD C (eg.cc fl) w κ F' ((sh.st A).ax TRS) Y)
  (ar:∀ b aZ,b∈sh.oa->aZ∈sh.oa->f b=f aZ->b=aZ) (hid:∀ b∈ids,ev<=b) :
  bc (qY C w F' C1.nt (λr=>∃ b,((sh.st A).ad b).body.bJ (κ (f b))=true/\(κ (f b)).ad=r) Y (λb=>if b∈ids then some (κ (f b)).ad else none,λb=>if b∈ids/\wH<=b then some (κ (f b),((sh.st A).ad b).body.len) else none)) (sh.st A) bV w (λb=>κ (f b)) F' where
 dk:=gx.dk
 dfr:=gx.dfr.trans qZ
 bF:=λi=>by have:=au.bF i;rw[jd]at this;exact this
 bp:=λb=>by have:=au.bp b;rw[jd]at this;exact this
 own:=λb ab=>by
  have h1:=gx.own (f b) (au.xk ab);exact⟨h1.1,h1.2.1,λh=>h.2.1 ⟨b,ab,rfl⟩⟩
 inj:=λb aZ ab cS e=>ar b aZ (au.bJ b ab).2.2 (au.bJ aZ cS).2.2 (gx.inj _ _ (au.xk ab) (au.xk cS) e)
 cL:=gx.cL
 gN:=λr G=>.inl G
 hE:=λr G=>G
 g_:=λr G=>G.1
 ef:=λ_ _=>rfl
 size:=Nat.le_refl _
 dV:=cM.refl _
 fR:=gx.fR
 kd:=λb r h=>by
  simp only[qY]at h;grind
 jq:=λb r h _=>by
  simp only[qY]at h;grind
 jS:=λb k h=>by
  simp only[qY]at h;grind
 ke:=λb k h _ _=>by
  simp only[qY]at h;grind
 pro:=λl aI L n st e=>by
  obtain⟨h1,h2,h3⟩:=hb.pro l aI L n st e;exact⟨h1,h2,Y,λr G=>⟨(hb.low r G).1,(hb.low r G).2.1,λh=>h.2.2 G⟩,λb ab=>hb.own _ (au.xk ab),h3⟩
 jr:=by have:=gx.jr;rw[jd,tm]at this;exact this
 ij:=by have:=gx.ij;rw[jd]at this;exact this
structure SZ(s:ay)(κ:Nat->bo)(h4:(Nat->Option Nat)×(Nat->Option (bo×Nat)))(bs:List (Nat×bB))(bZ:z6'):Prop where
 dH:(bZ.map (·.1)).Nodup
 dM:(bZ.map (·.2.1)).Nodup
 ff:mK ∉ bZ.map (·.2.1)
 afx:(s.ad mK).body=.ff
 S0:∀ p∈bZ,(p.2.1<ev/\(s.ad p.2.1).gen<p.2.2)\/
  (((eu bs p.1).body.fq=true->(s.ad p.2.1).body.fq=true/\h4.1 p.1=some (κ p.2.1).ad)/\((eu bs p.1).body.gF=true->(s.ad p.2.1).body.gF=true/\h4.1 p.1=some (κ p.2.1).ad)/\(eu bs p.1).body.mv=false/\
   ((p.2.2=(s.ad p.2.1).gen/\((eu bs p.1).body.eU=true->(s.ad p.2.1).body.eU=true/\(eu bs p.1).body.eH=(s.ad p.2.1).body.eH/\h4.2 p.1=some (κ p.2.1,(s.ad p.2.1).body.len)))\/p.2.2=(s.ad p.2.1).gen+1))
theorem afy{F' own Y:Nat->Prop}{sl:aD}{n:Nat}{h4:(Nat->Option Nat)×(Nat->Option (bo×Nat))}{ins:List Nat}{bC:dm}{τ:bC.ah}{aB:List Value}{w':World}{mL:Nat->bo}{dN:Nat->Prop}
    (G:bc C s a w κ F') (hb:CD C s w κ F' sl Y) (fS:∀ r,own r->∃ b,b∈ins/\(s.ad b).body.bJ (κ b)=true/\(κ b).ad=r)
    (hq:bc { qY C w F' n own Y h4 with nt:=aB.length } (bC.st τ) { tmps:=aB.toArray,defers:=[] } w' mL dN)
    {bZ:z6'} (fT:SZ s κ h4 (gQ (hJ bZ) bC.bp (eb (hJ bZ) bC.bF τ).2) bZ)
    {H':Nat->bu} {κn:Nat->bo} (zF:∀ p∈bZ,H' p.2.1=⟨p.2.2,(eu (gQ (hJ bZ) bC.bp (eb (hJ bZ) bC.bF τ).2) p.1).body⟩/\κn p.2.1=mL p.1)
    (CE:∀ b,b ∉ bZ.map (·.2.1)->κn b=κ b/\(b∈ins->H' b=⟨(s.ad b).gen+1,.ff⟩)/\(b ∉ ins->H' b=s.ad b))
    {X:aD} (r8:X=e7 (eb (hJ bZ) bC.bF τ).1 TRS\/X=.undef\/(X=s.ax TRS/\sl=.undef)) :
    bc C ⟨λi=>if i=TRS then X else s.ax i,H'⟩ a w' κn dN/\
    ∀ i,bl C.P H' κn dN w' (e7 (eb (hJ bZ) bC.bF τ).1 i) (aB.toArray.getD i undef):=by
  generalize CF:gQ (hJ bZ) bC.bp (eb (hJ bZ) bC.bF τ).2=bs at fT zF;have qO:∀ b,xm (eu bs b).body ((bC.st τ).ad b).body:=λb=>by
    rw[<-CF,SS (Lt bC.bF τ)];exact SU bC.bp (eb cJ bC.bF τ).2 b
  have CG:o7 (bC.st τ).ad H' mL κn (hJ bZ):=by
    intro b;refine⟨Lu _ b,?_⟩;by_cases ab:b∈bZ.map (·.1)
    · obtain⟨p,hp,rfl⟩:=List.mem_map.1 ab
      rw[SV fT.dH hp]
      obtain⟨h1,h2⟩:=zF p hp
      rw[h1,h2]
      obtain⟨aO,aP,bA,gi,oY,xo,_⟩:=qO p.1
      exact⟨Nat.le_refl _,λ_=>⟨λh=>⟨aO ▸ h,rfl⟩,λh=>⟨aP ▸ h,rfl,bA,gi⟩,λh=>⟨oY ▸ h,rfl⟩,λh=>⟨xo ▸ h,rfl⟩⟩⟩
    · rw[SW ab]
      obtain⟨_,h2,h3⟩:=CE mK fT.ff
      have au:(H' mK).body=.ff:=by
        by_cases E:mK∈ins
        · grind
        · rw[h3 E];exact fT.afx
      refine⟨Nat.zero_le _,λ_=>?_⟩
      show ((H' mK).body.fq=true->_)/\((H' mK).body.eU=true->_)/\((H' mK).body.gF=true->_)/\((H' mK).body.mv=true->_)
      rw[au]
      exact⟨λh=>(by cases h),λh=>(by cases h),λh=>(by cases h),λh=>(by cases h)⟩
  have Gd:∀ b,(∃ p∈bZ,p.2.1=b)\/b ∉ bZ.map (·.2.1):=λb=>by
    grind
  have Ge:∀ p∈bZ,∀ r,h4.1 p.1=some r->(eu bs p.1).body.fq=true\/(eu bs p.1).body.gF=true->(mL p.1).ad=r:=λp hp r G h=>by
    obtain⟨aO,_,_,_,oY,_⟩:=qO p.1;exact hq.jq p.1 r G (h.imp (λh=>aO ▸ h) (λh=>oY ▸ h))
  have afz:∀ p∈bZ,∀ k,h4.2 p.1=some k->(eu bs p.1).body.eU=true->mL p.1=k.1/\(eu bs p.1).body.len=k.2:=λp hp k ao h=>by
    obtain⟨_,aP,bA,_⟩:=qO p.1;obtain⟨h1,h2⟩:=hq.ke p.1 k ao (Lu _ _) (aP ▸ h);grind
  have ai:e6 s.ad κ H' κn:=by
    rw[Bx];intro b;rcases Gd b with⟨p,hp,rfl⟩ | ab
    · obtain⟨h1,h2⟩:=zF p hp
      rw[h1,h2]
      rcases fT.S0 p hp with⟨_,h⟩ | ⟨hc,an,hit,h⟩
      · exact⟨Nat.le_of_lt h,λe=>(by grind)⟩
      · rcases h with⟨h,eO⟩ | h
        · refine⟨Nat.le_of_eq h.symm,λ_=>⟨λh=>⟨(hc h).1,Ge p hp _ (hc h).2 (.inl h)⟩,λh=>?_,λh=>⟨(an h).1,Ge p hp _ (an h).2 (.inr h)⟩,λh=>?_⟩⟩
          · have h:(eu bs p.1).body.eU=true:=h
            obtain⟨bV,a2,a3⟩:=eO h
            obtain⟨dt,eG⟩:=afz p hp _ a3 h
            exact⟨bV,dt,eG,a2⟩
          · have h:(eu bs p.1).body.mv=true:=h
            rw[hit]at h;cases h
        · exact⟨by grind,λe=>(by grind)⟩
    · obtain⟨h1,h2,h3⟩:=CE b ab
      rw[h1]
      by_cases E:b∈ins
      · rw[h2 E]
        exact⟨Nat.le_succ _,λe=>(by grind)⟩
      · rw[h3 E];exact pL.refl _ _
  have zG:w.heap.size<=w'.heap.size:=hq.size;have bd:∀ r,F' r->dN r:=hq.hE;have ix:∀ r,r<w.heap.size->¬own r->¬Y r->w'.heap[r]?=w.heap[r]?:=λr h1 h2 h3=>hq.ef r ⟨h1,h2,h3⟩;have vd:∀ r,C.K0 r->r<w.heap.size:=λr h=>Nat.lt_of_lt_of_le (G.g_ r h) G.size;have Lx:∀ r,own r->¬C.K0 r/\¬F' r:=λr h=>by
    obtain⟨b,_,h1,rfl⟩:=fS r h;exact⟨(G.own b h1).2.2,(G.own b h1).2.1⟩
  have S1:∀ r,¬(r<w.heap.size/\¬own r/\¬Y r)->¬C.K0 r:=λr h ao=>h ⟨vd r ao,λag=>(Lx r ag).1 ao,λaM=>(hb.low r aM).2.2 ao⟩;have p1:cG F' w w':=⟨zG,λr h=>ix r (G.cL r h) (λag=>(Lx r ag).2 h) λaM=>(hb.low r aM).2.1 h⟩
  have zk:∀ r,dN r->F' r\/¬(r<w.heap.size/\¬own r/\¬Y r):=hq.gN;have r7:∀ b,b ∉ ins->(s.ad b).body.bJ (κ b)=true->(κ b).ad<w.heap.size/\¬own (κ b).ad/\¬Y (κ b).ad:=λb ab ag=>by
    refine⟨(G.own b ag).1,λh=>?_,hb.own b ag⟩;obtain⟨aZ,h1,h2,h3⟩:=fS _ h;exact ab (G.inj aZ b h2 ag h3 ▸ h1)
  have yQ:∀ b,(H' b).body.bJ (κn b)=true->(∃ p∈bZ,p.2.1=b/\((bC.st τ).ad p.1).body.bJ (mL p.1)=true/\κn b=mL p.1)\/(b ∉ bZ.map (·.2.1)/\b ∉ ins/\κn b=κ b/\(s.ad b).body.bJ (κ b)=true):=λb ab=>by
    rcases Gd b with⟨p,hp,rfl⟩ | az
    · obtain⟨h1,h2⟩:=zF p hp
      rw[h1,h2]at ab
      exact .inl ⟨p,hp,rfl,by rw[<-(qO p.1).2.2.2.2.2.2];exact ab,h2⟩
    · obtain⟨h1,h2,h3⟩:=CE b az
      by_cases E:b∈ins
      · rw[h2 E]at ab;cases ab
      grind
  have hsl:∀ i,bl C.P H' κn dN w' (e7 (eb (hJ bZ) bC.bF τ).1 i) (aB.toArray.getD i undef):=λi=>CG.bF bC.bF τ i (hq.bF i);refine⟨{ dk := G.dk, dfr := G.dfr, bF := λi => ?_, bp := λb => ?_, own := λb ab => ?_, inj := λb aZ ab cS e => ?_, cL := hq.cL, gN := λr h => ?_, hE := λr h => bd r (G.hE r h), g_ := G.g_, ef := λr h => ?_,size:=Nat.le_trans G.size zG,dV:=G.dV.trans hq.dV,fR:=G.fR,kd:=G.kd,jq:=λb r h hc=>?_,jS:=G.jS,ke:=λb k h h0 aV=>?_,pro:=λl aI L m st e=>?_,jr:=G.jr,ij:=hq.ij },hsl⟩
  · show bl C.P H' κn dN w' (if i=TRS then X else s.ax i) _
    split
    · rename_i e
      subst e
      have hu:a.tmps.getD TRS undef=undef:=by
        have:=G.dk;have:=G.fR;rw[Array.getD_eq_getD_getElem?,Array.getElem?_eq_none (by unfold TRS ev at *;omega)];rfl
      rcases r8 with rfl | rfl | ⟨rfl,_⟩
      · have h:=hsl TRS
        have Ly:aB.toArray.getD TRS undef=undef:=by
          have:aB.length<=ev:=hq.fR;rw[Array.getD_eq_getD_getElem?,Array.getElem?_eq_none (by simp only[List.size_toArray];unfold TRS ev at *;omega)];rfl
        grind
      · trivial
      · exact bl.later ai bd p1 (G.bF TRS)
    · exact bl.later ai bd p1 (G.bF i)
  · show jo C.P H' κn dN w' (κn b) (H' b).body
    rcases Gd b with⟨p,hp,rfl⟩ | az
    · obtain⟨h1,h2⟩:=zF p hp
      rw[h1,h2,<-CF,SS (Lt bC.bF τ)]
      exact CG.bp bC.bp (eb cJ bC.bF τ).2 p.1 (hq.bp p.1)
    · obtain⟨h1,h2,h3⟩:=CE b az
      by_cases E:b∈ins
      · rw[h2 E];trivial
      · have:=cg.kT (H':=H') (κ':=κn) (G.bp b) ai bd p1 (by grind) h1 λag=>ix _ (r7 b E ag).1 (r7 b E ag).2.1 (r7 b E ag).2.2
        exact this
  · rcases yQ b ab with⟨p,hp,_,h1,h2⟩ | ⟨_,h1,h2,h3⟩
    · have:=hq.own p.1 h1
      rw[h2]
      exact⟨this.1,this.2.1,S1 _ this.2.2⟩
    · rw[h2]
      have aR:=G.own b h3
      grind
  · rcases yQ b ab with⟨p,hp,rfl,h1,h2⟩ | ⟨_,h1,h2,h3⟩<;>rcases yQ aZ cS with⟨p',BO,rfl,y8,wS⟩ | ⟨_,y8,wS,S2⟩
    · rw[h2,wS]at e
      have:=hq.inj _ _ h1 y8 e
      rw[CC fT.dH hp BO this]
    · rw[h2,wS]at e
      exact ((hq.own p.1 h1).2.2 (e ▸ r7 aZ y8 S2)).elim
    · rw[h2,wS]at e
      exact ((hq.own p'.1 y8).2.2 (e ▸ r7 b h1 h3)).elim
    · rw[h2,wS]at e
      exact G.inj b aZ h3 S2 e
  · rcases zk r h with h | h
    · exact G.gN r h
    grind
  · exact (ix r (vd r h) (λag=>(Lx r ag).1 h) λaM=>(hb.low r aM).2.2 h).trans (G.ef r h)
  · have aG:=G.kd b r h
    rcases Gd b with⟨p,hp,rfl⟩ | az
    · obtain⟨h1,h2⟩:=zF p hp
      simp only[h1]at hc
      rcases fT.S0 p hp with⟨h3,_⟩ | ⟨aO,aP,_⟩
      · omega
      · rw[h2]
        rcases hc with hc | hc
        · rw[Ge p hp _ (aO hc).2 (.inl hc)]
          exact G.jq _ r h (.inl (aO hc).1)
        · rw[Ge p hp _ (aP hc).2 (.inr hc)]
          exact G.jq _ r h (.inr (aP hc).1)
    · obtain⟨h1,h2,h3⟩:=CE b az
      by_cases E:b∈ins
      · simp only[h2 E]at hc
        rcases hc with hc | hc<;>cases hc
      · simp only[h3 E]at hc
        rw[h1]
        exact G.jq b r h hc
  · have aG:=G.jS b k h
    have h0:(H' b).gen=0:=h0
    have aV:(H' b).body.eU=true:=aV
    show κn b=k.1/\(H' b).body.len=k.2
    obtain⟨g1,dW⟩:=ai b
    obtain⟨bV,a2,a3,_⟩:=(dW (by omega)).2.1 aV
    obtain⟨aO,aP⟩:=G.ke b k h (by omega) bV
    grind
  · have e:X=.tr l aI L m st:=by grind
    rcases r8 with rfl | rfl | ⟨rfl,afA⟩
    · obtain⟨h1,h2,gf,h3,aR,bw⟩:=hq.pro l aI L m st (SR bC.bF τ TRS e)
      refine⟨h1,h2,gf,λr aW=>⟨(h3 r aW).1,(h3 r aW).2.1,S1 r (h3 r aW).2.2⟩,λb ab aM=>?_,bw⟩
      rcases yQ b ab with⟨p,hp,rfl,aO,aP⟩ | ⟨_,aO,aP,bA⟩
      · grind
      · rw[aP]at aM;exact (h3 _ aM).2.2 (r7 b aO bA)
    · cases e
    · obtain⟨h1,h2,gf,h3,aR,bw⟩:=G.pro l aI L m st e
      have S3:∀ r,gf r->r<w.heap.size/\¬own r/\¬Y r:=λr aM=>⟨(h3 r aM).1,λag=>by
        grind,hb.non afA r⟩
      have By:∀ r,dN r->¬gf r:=λr ar aM=>(zk r ar).elim (h3 r aM).2.1 λh=>h (S3 r aM)
      refine⟨h1,h2,gf,λr aM=>⟨Nat.lt_of_lt_of_le (h3 r aM).1 zG,λar=>By r ar aM,(h3 r aM).2.2⟩,λb ab aM=>?_,h2.JB bw bd (λr ar=>?_) zG hq.dV hq.cL By⟩
      · rcases yQ b ab with⟨p,hp,rfl,aO,aP⟩ | ⟨_,aO,aP,bA⟩
        · rw[aP]at aM;exact (hq.own _ aO).2.2 (S3 _ aM)
        grind
      · rcases ar with ar | ar
        · exact p1.2 r ar
        grind
end
end Go.Fer
namespace Go.Fer
open Go.RowKit
section
variable {C:bS} {T:Nat->af} {o:Oper} {s:ay}
theorem IoSpec.bm{P:Program}{U:dj}{k:FuncId}{c:IOC}(ar:IoSpec P U k c){C:bS}{a:Act}{w:World}{κ:Nat->bo}{F:Nat->Prop}{A:c.b7.ah}(h:bc C (c.b7.st A) a w κ F)(h1:C.P=P)(h2:C.w0=w)(h3:C.r=none)(aR:C.dfr=[])(bw:C.nt=c.j4)(cZ:C.aK=U)(hs:(c.sh A).bY) :
  Calls P k a.tmps w λe w'=>∃ v τ aB κ' F',e=.returned v/\(c.sh A).bC τ/\Ga c.ko v aB/\bc { C with nt:=aB.length } (c.bC.st τ) { tmps:=aB.toArray,defers:=[] } w' κ' F':=
 ar.iH C a w κ F A h1 h2 h3 aR bw cZ h hs
theorem S4{C:bS}{s:ay}{Lz:Nat->aD}{a bV:Act}{w:World}{κ:Nat->bo}{F:Nat->Prop}{dH:Nat}{c:IOC}{f:Nat->Nat}{A:c.b7.ah}{fl:List Nat}{d m:Nat}{bZ:z6'}
    (G:bc C s a w κ F) (gx:bc { C with nt:=dH,dfr:=[],r:=none } ⟨Lz,s.ad⟩ bV w κ F) (p2:Lz TRS=s.ax TRS)
    (nG:c.b7.zt f ⟨Lz,s.ad⟩=some (A,fl)) (S5:r0 (s.cc fl) d f c.b7.oa c.bC.bp 0=bZ) (dG:Cr c f (s.cc fl) bZ d m=true) :
    ∃ (F' own Y:Nat->Prop) (h4:(Nat->Option Nat)×(Nat->Option (bo×Nat))),(∀ r,F r->F' r)/\bc C (s.cc fl) a w κ F'/\(∀ r,own r->∃ b,((s.cc fl).ad b).body.bJ (κ b)=true/\(κ b).ad=r)/\CD C (s.cc fl) w κ F' ((c.b7.st A).ax TRS) Y/\(∀ l aI L n st,(c.b7.st A).ax TRS=.tr l aI L n st->s.ax TRS=.tr l aI L n st)/\
      bc (qY C w F' dH own Y h4) (c.b7.st A) bV w (λb=>κ (f b)) F'/\
      ∀ LA hk,bc { C with w0:=LA } (s.cc fl) a hk κ F'->CD C (s.cc fl) hk κ F' ((c.b7.st A).ax TRS) Y->∀ (τ:c.bC.ah) (aB:List Value) (w':World) (mL:Nat->bo) (dN:Nat->Prop),bc { qY C hk F' dH own Y h4 with nt:=aB.length } (c.bC.st τ) { tmps:=aB.toArray,defers:=[] } w' mL dN->
        ∃ κn,bc { C with w0:=LA } (xb (s.cc fl) c f bZ τ) a w' κn dN/\∀ i,bl C.P (xb (s.cc fl) c f bZ τ).ad κn dN w' (e7 (eb (hJ bZ) c.bC.bF τ).1 i) (aB.toArray.getD i undef):=by
  simp only[Cr,Bool.and_eq_true,decide_eq_true_eq,Bool.not_eq_true']at dG;obtain⟨⟨⟨⟨⟨⟨⟨⟨⟨⟨c1,c2⟩,c3⟩,c4⟩,c5⟩,lu⟩,n6⟩,wQ⟩,c9⟩,Gf⟩,_⟩:=dG;have c3:(c.b7.bp.map (·.1)).Nodup:=of_decide_eq_true c3;have c4:(c.b7.bp.map λp=>f p.1).Nodup:=of_decide_eq_true c4;have c5:(bZ.map (·.1)).Nodup:=of_decide_eq_true c5;have lu:(bZ.map (·.2.1)).Nodup:=of_decide_eq_true lu;have wQ:mK ∉ bZ.map (·.2.1):=λh=>by
    grind
  have c9:((s.cc fl).ad mK).body=.ff:=by
    grind
  obtain⟨F',f1,gx,au⟩:=dm.SH nG gx;have aW : bc C (s.cc fl) a w κ F' := { gx with
    dk:=G.dk,dfr:=G.dfr,fR:=G.fR,bF:=λi=>bl.later (Rs s fl κ) f1 (cG.refl _ _) (G.bF i)
    bp:=gx.bp
    pro:=λl aI L n st e=>gx.pro l aI L n st (by simpa [ay.cc,p2]using e) }
  obtain⟨Y,hb⟩:=aW.afv (sl:=(c.b7.st A).ax TRS) λl aI L n st e=>by simpa [ay.cc,p2]using au.tr l aI L n st e
  have hid:∀ b∈c.b7.bp.map (·.1),ev<=b:=λb ab=>by grind
  have Gg:∀ b,b∈c.b7.oa->∃ q∈c.b7.bp,q.1=b/\q.2.Cm=true:=λb ab=>by
    obtain⟨q,bf,e⟩:=List.mem_filterMap.1 ab;grind
  have CH:=afw (C:=C) (C1:={ C with nt:=dH,dfr:=[],r:=none }) (ids:=c.b7.bp.map (·.1)) rfl rfl rfl gx au ⟨hb.pro,hb.low,hb.own,hb.non⟩ (λb aZ ab cS e=>by
    obtain⟨q,bf,rfl,_⟩:=Gg b ab;obtain⟨q',tn,rfl,_⟩:=Gg aZ cS;rw[CC (k:=λp=>f p.1) c4 bf tn e]) hid
  refine⟨F',_,Y,_,f1,aW,λr ⟨b,ab,e⟩=>⟨f b,au.xk ab,e⟩,hb,λl aI L n st e=>by simpa [ay.cc,p2]using au.tr l aI L n st e,CH,λLA hk Kl Gh τ aB w' mL dN hq=>?_⟩;have CF:∀ (b:Nat) (q':Nat×bN),q'∈c.bC.bp->q'.1=b->b∈c.b7.oa->∀ (R:Type) (z:q'.2.cons R),((q'.2.body (hJ bZ) z).1.fq=true->((s.cc fl).ad (f b)).body.fq=true)/\((q'.2.body (hJ bZ) z).1.gF=true->((s.cc fl).ad (f b)).body.gF=true)/\(q'.2.body (hJ bZ) z).1.mv=false:=by
    intro b q' tn e ab R z;obtain⟨q,bf,rfl,LB⟩:=Gg b ab;have ao:=List.all_eq_true.1 (List.all_eq_true.1 Gf q' tn) q bf;rw[e,LB]at ao;simp only[beq_self_eq_true,Bool.and_self,Bool.not_true,Bool.false_or]at ao;rcases Gc cJ c.b7.bp (eb cJ c.b7.bF A).2 q.1 with⟨_,h2⟩ | ⟨q2,h2,h3,Lv,l4,aR⟩
    · grind
    · obtain rfl:=CC c3 h2 bf h3
      have aR:(c.b7.st A).ad q2.1=⟨0,(q2.2.body cJ l4).1⟩:=aR
      obtain⟨aO,aP,bA⟩:=aft ao z l4 (g:=hJ bZ) (g':=cJ)
      have tJ:=au.zB q2.1
      refine⟨λhc=>?_,λhc=>?_,bA⟩
      · have bw:=au.bJ q2.1 (by grind)
        simp only[ay.cc,if_neg bw.1]
        exact tJ.2.1 (by grind)
      · have bw:=au.bJ q2.1 (by grind)
        simp only[ay.cc,if_neg bw.1]
        exact tJ.2.2.2.1 (by grind)
  have afB:bZ.map (·.1)=c.bC.bp.map (·.1):=by rw[<-S5];exact SX ..
  have fT:SZ (s.cc fl) κ (λb=>if b∈c.b7.bp.map (·.1) then some (κ (f b)).ad else none,λb=>if b∈c.b7.bp.map (·.1)/\wH<=b then some (κ (f b),((c.b7.st A).ad b).body.len) else none) (gQ (hJ bZ) c.bC.bp (eb (hJ bZ) c.bC.bF τ).2) bZ:=by
    refine⟨c5,lu,wQ,c9,λp hp=>?_⟩;rw[<-S5]at hp;rcases SY _ _ _ _ _ _ hp with⟨h1,h2,t,h3,aR⟩ | ⟨_,h2,h3,aR⟩
    · rw[h2]
      have jB:p.1∈c.b7.bp.map (·.1):=by
        grind
      rcases Gc (hJ bZ) c.bC.bp (eb (hJ bZ) c.bC.bF τ).2 p.1 with⟨_,aP⟩ | ⟨q',aO,aP,R,z,bA⟩
      · grind
      · rw[bA]
        obtain⟨dt,eG,mr⟩:=CF p.1 q' aO aP h1 R z
        have:q'=(p.1,t):=CC (afB ▸ c5) aO h3 aP
        subst this
        refine .inr ⟨λh=>⟨dt h,if_pos jB⟩,λh=>⟨eG h,if_pos jB⟩,mr,aR.imp (λaR=>⟨aR.1,λeO=>?_⟩) id⟩
        rcases aR.2 with bw | ⟨ao,e,rfl⟩
        · grind
        · obtain⟨q,bf,Lr,LB⟩:=Gg p.1 h1
          have xp:=List.all_eq_true.1 (List.all_eq_true.1 Gf _ aO) q bf
          rw[Lr,LB]at xp
          simp only[beq_self_eq_true,Bool.and_self,Bool.not_true,Bool.false_or]at xp
          rcases Gc cJ c.b7.bp (eb cJ c.b7.bF A).2 p.1 with⟨_,wS⟩ | ⟨q2,m2,m3,Lv,l4,m4⟩
          · grind
          · obtain rfl:=CC c3 m2 bf (m3.trans Lr.symm)
            have m4:(c.b7.st A).ad p.1=⟨0,(q2.2.body cJ l4).1⟩:=m4
            obtain⟨c7,LC⟩:=q2
            have xp:bN.FD (.a8 e) LC=true:=xp
            obtain rfl:LC=.a8 e:=by
              cases LC<;>first | (simp only[bN.FD,decide_eq_true_eq]at xp;rw[xp]) | cases xp
            have tJ:=au.zB p.1
            have afC:((c.b7.st A).ad p.1).body.eU=true:=by rw[m4];rfl
            obtain⟨bR,cp,dX⟩:=tJ.2.2.1 afC
            have bb:((s.cc fl).ad (f p.1)).body.eU=true/\((s.cc fl).ad (f p.1)).body.len=(s.ad (f p.1)).body.len/\((s.cc fl).ad (f p.1)).body.eH=(s.ad (f p.1)).body.eH:=by
              simp only[ay.cc];split
              · rcases y6 s.ad (s.ad (f p.1)) with aS | ⟨_,_,hx,aS⟩ | ⟨_,_,_,hx,_⟩ | ⟨_,_,_,_,hx,_,_⟩
                · grind
                · rw[aS,hx];exact⟨rfl,rfl,rfl⟩
                · have bR:(s.ad (f p.1)).body.eU=true:=bR
                  rw[hx]at bR;cases bR
                · have bR:(s.ad (f p.1)).body.eU=true:=bR
                  rw[hx]at bR;cases bR
              grind
            have cp:((c.b7.st A).ad p.1).body.len=(s.ad (f p.1)).body.len:=cp
            have dX:((c.b7.st A).ad p.1).body.eH=(s.ad (f p.1)).body.eH:=dX
            refine⟨bb.1,?_,?_⟩
            · rw[bb.2.2,<-dX,m4];rfl
            grind
    · refine .inl ⟨?_,by omega⟩
      unfold ev
      omega
  obtain⟨nH,hsl⟩:=afy (ins:=c.b7.oa.map f) (X:=if c.bC.bF.any (λp=>p.1 == TRS) then e7 (eb (hJ bZ) c.bC.bF τ).1 TRS else if c.b7.bF.any (λp=>p.1 == TRS) then .undef else (s.cc fl).ax TRS)
    (H':=(xb (s.cc fl) c f bZ τ).ad)
    (κn:=λb=>match bZ.find? (λp=>p.2.1 == b) with
      | some p=>mL p.1
      | none=>κ b) Kl ⟨Gh.pro,Gh.low,Gh.own,Gh.non⟩ (λr ⟨b,ab,e⟩=>⟨f b,List.mem_map_of_mem (au.bJ b ab).2.2,au.xk ab,e⟩) hq fT
    (λp hp=>by simp only[xb,Gb (k:=λp=>p.2.1) lu hp,and_self]) (λb ab=>by
      have az:bZ.find? (λp=>p.2.1 == b)=none:=List.find?_eq_none.2 λp hp e=>ab (List.mem_map.2 ⟨p,hp,by grind⟩);simp only[xb,az,true_and];grind)
    (by
      split
      · simp
      · split
        · simp
        · rename_i h2
          exact .inr (.inr ⟨rfl,xn c.b7.bF cJ A TRS (Bool.eq_false_iff.2 h2)⟩))
  exact⟨_,nH,hsl⟩
theorem S6(a6:∀ i,o.dst=some i->i<C.nt){f0:Operand}{args:Array Operand}{cT:Array TypeId}(ag:o.op=.call { callee:=.value f0,args:=args,argTypes:=cT }){c:IOC}(ar:∀ A a w,b9 C s a w->(c.sh A).bY->∃ k,IoSpec C.P C.aK k c/\a.eval f0=.func (.func k) #[] #[]){pr:hI}
  (h:xc C.aK s o args.toList c=some pr):p0 C o s pr:=by
 obtain⟨args⟩:=args;unfold xc at h;generalize axr:qS c (rZ s (qR C.aK s args))=f at h;split at h
 ·rename_i A fl nG;split at h
  ·rename_i dG;cases h;have afD:qN (aT C.aK s.ax) o->ju (args.map (aT C.aK s.ax)):=λab=>Cx ab λx hx=>by rw[ag];simp[Op.operands,Call.operands];simp_all
   refine⟨λa w Q K G aY LD=>?_,λgs oe=>(by grind),afD⟩;obtain⟨k,ar,ao⟩:=ar A a w G LD.1;obtain⟨κ,F,G⟩:=G;have hlen:args.length=c.j4/\args.length<=ev:=by
    simp only[Cr,Bool.and_eq_true,decide_eq_true_eq]at dG;omega
   have dB:=G.args (avs:=qR C.aK s args) (us:=args.map a.eval) (by grind) (by simp[qR]) λi E=>by
    have df:i<args.length:=by grind
    have h1:=rO aY i (by grind);have e1:(args.map (aT C.aK s.ax)).getD i .undef=aT C.aK s.ax args[i]:=by grind
    rw[e1]at h1;have e2:(qR C.aK s args).getD i .undef=(use (aT C.aK s.ax args[i])).2:=by simp[qR,List.getD_eq_getElem?_getD,df]
    have e3:(args.map a.eval).getD i undef=a.eval args[i]:=by grind
    rw[e2,e3];exact oQ (jW G args[i]) h1
   obtain⟨F',own,Y,h4,_,aW,_,hb,_,CH,LF⟩:=S4 G dB rfl nG rfl dG;have cH:(execOp a.eval o).run C.P w=.ok (.enter k (args.map a.eval).toArray) w:=by
    simp only[execOp,ag,Sem.run_bind,resolve,ao,Deferred.ofValue,Sem.run_pure,Result.andThen_ok,invoke];have:=ar.enter (args.map a.eval).toArray w;grind
   have tL:=ar.bm CH rfl rfl rfl rfl (by show (args.map a.eval).length=_;grind) rfl LD.1;refine B' (by grind) cH tL λe w' ⟨v,τ,aB,mL,dN,he,hτ,Gi,hq⟩=>⟨v,he,LD.2 τ hτ _ _ ?_⟩
   obtain⟨κn,nH,hsl⟩:=LF C.w0 w aW hb τ aB w' mL dN hq;exact⟨_,dN,bc.set nH a6 (afu Gi λj=>by simpa [Array.getD_eq_getD_getElem?,List.getD_eq_getElem?_getD]using hsl j)⟩
  grind
 grind
theorem afE(a6:∀ i,o.dst=some i->i<C.nt){k:Nat}{args:Array Operand}{cT:Array TypeId}(ag:o.op=.call { callee:=.value (.func k),args:=args,argTypes:=cT }){c:IOC}(ar:IoSpec C.P C.aK k c){pr:hI}
  (h:xc C.aK s o args.toList c=some pr):p0 C o s pr:=
 S6 a6 ag (λ_ _ _ _ _=>⟨k,ar,rfl⟩) h
theorem IoSpec.yR{P:Program}{U:dj}{k:FuncId}{c:IOC}(h:IoSpec P U k c){sh:c.b7.ah->M c.bC.ah}(hs:∀ A,M.le (c.sh A) (sh A)):IoSpec P U k { c with sh:=sh } where
 enter:=h.enter
 iH:=λC a w κ F A e1 e2 e3 e4 dC kS G qM=>by
  obtain⟨aO,aP⟩:=hs A qM;exact (h.iH C a w κ F A e1 e2 e3 e4 dC kS G aO).mono λe w' ⟨v,τ,aB,κ',F',h1,h2,h3⟩=>⟨v,τ,aB,κ',F',h1,aP τ h2,h3⟩
theorem afF{Ψ:Nat->Option eK}(a6:∀ i,o.dst=some i->i<C.nt){t:Nat}{args:Array Operand}{cT:Array TypeId}(ag:o.op=.call { callee:=.value (.tmp t),args:=args,argTypes:=cT })
  (cE:∀ c sh ids,Ψ Sr=some (.FL c sh ids)->∀ k∈ids,IoSpec C.P C.aK k { c with sh:=sh k }) {pr:hI} (h:FP C.aK Ψ s o t args.toList=some pr):p0 C o s pr:=by
 unfold FP at h;split at h
 ·rename_i n az;split at h
  ·rename_i c sh ids hc;refine S6 a6 ag (λA a w G hs=>?_) h;obtain⟨⟨k,ao,rfl⟩,_⟩:=hs;refine⟨k,(cE c sh ids hc k ao).yR (sh:=(Ss c sh ids (some k)).sh) λA h=>⟨h.2,λy aM=>aM⟩,?_⟩;obtain⟨κ,F,G⟩:=G;have hv:bl C.P s.ad κ F w (s.ax t) (a.tmps.getD t undef):=G.bF t;rw[az]at hv;obtain⟨_,hv⟩:=(dy rfl).1 hv;exact (List.cons.inj hv).1
  ·cases h
 ·cases h
end
end Go.Fer
namespace Go.Fer
open Go.RowKit
section
variable {C:bS} {o:Oper} {s:ay}
theorem bc.round{s:ay}{a:Act}{w w':World}{κ:Nat->bo}{F' dN Y Gj:Nat->Prop}{l:Nat}{aI:af}{L:List aI.ah->Prop}{I}{dM:List aI.ah}{LG:Bool}(G:bc C s a w κ F')(og:C.pr=⟨l,aI,L,I⟩)(cq:C.pr.Ok C.P)
    (aM:∀ r,Y r->r<w.heap.size/\¬F' r/\¬C.K0 r) (LH:∀ b,(s.ad b).body.bJ (κ b)=true->¬Y (κ b).ad)
    (g1:∀ r,F' r->dN r) (dW:∀ r,dN r->F' r\/Y r\/w.heap.size<=r) (g3:∀ r,dN r->r<w'.heap.size) (g4:∀ r,r<w.heap.size->¬Y r->w'.heap[r]?=w.heap[r]?)
    (g5:∀ r,Gj r->(Y r\/w.heap.size<=r)/\r<w'.heap.size/\¬dN r) (g6:w.heap.size<=w'.heap.size) (g7:cM w w') (g8:I dM LG dN Gj w') :
    bc C ⟨λi=>if i=TRS then .tr l aI L dM LG else s.ax i,s.ad⟩ a w' κ dN:=by
  have p1:cG F' w w':=⟨g6,λr h=>g4 r (G.cL r h) λB4=>(aM r B4).2.1 h⟩
  have kY:∀ r,w.heap.size<=r->¬C.K0 r:=λr h ao=>by have:=G.g_ r ao;have:=G.size;omega
  refine { dk := G.dk, dfr := G.dfr, bF := λi => ?_, bp := λb => cg.kT (G.bp b) (e6.refl _ _) g1 p1 rfl rfl λag => g4 _ (G.own b ag).1 (LH b ag), own := λb ab => ?_, inj := G.inj, cL := g3, gN := λr h => ?_,hE:=λr h=>g1 r (G.hE r h),g_:=G.g_,ef:=λr h=>?_,size:=Nat.le_trans G.size g6,dV:=G.dV.trans g7,fR:=G.fR,kd:=G.kd,jq:=G.jq,jS:=G.jS,ke:=G.ke,pro:=λl' kn L' iL h_ e=>?_,jr:=G.jr,ij:=G.ij.mono g1 p1 }
  · show bl C.P s.ad κ dN w' (if i=TRS then .tr l aI L dM LG else s.ax i) _
    split
    · trivial
    · exact bl.later (e6.refl _ _) g1 p1 (G.bF i)
  · have h:=G.own b ab
    grind
  · rcases dW r h with h | h | h
    · exact G.gN r h
    · exact .inr (aM r h).2.2
    · exact .inr (kY r h)
  · exact (g4 r (Nat.lt_of_lt_of_le (G.g_ r h) G.size) λk=>(aM r k).2.2 h).trans (G.ef r h)
  · simp only[if_true]at e
    cases e
    refine⟨⟨I,og⟩,cq,Gj,λr h=>⟨(g5 r h).2.1,(g5 r h).2.2,?_⟩,λb ab h=>?_,?_⟩
    · grind
    · rcases (g5 _ h).1 with h | h
      · grind
      · exact absurd (G.own b ab).1 (Nat.not_lt.2 h)
    · rw[og];exact lq.yM.2 g8
theorem afG(a6:∀ i,o.dst=some i->i<C.nt){t:Nat}{args:Array Operand}{cT:Array TypeId}(ag:o.op=.call { callee:=.value (.tmp t),args:=args,argTypes:=cT }){pr:hI}
  (h:FQ C.aK s o t args.toList=some pr):p0 C o s pr:=by
 obtain⟨args⟩:=args;unfold FQ at h;split at h
 ·rename_i l' l aI L n st LI tC;split at h
  ·rename_i x fl hx;cases h;refine⟨λa w Q K G aY an=>?_,λgs oe=>(by grind),λab=>Cx ab λx hx=>by rw[ag];simp[Op.operands,Call.operands];simp_all⟩;obtain⟨κ,F,G⟩:=G;rw[M.kv]at an;obtain⟨⟨rfl,rfl,Gk⟩,an⟩:=an;obtain⟨F',f1,aW,f2⟩:=bc.kW (pU _ hx) G;have dB:e5 C.P aI F' w (args.map a.eval) x:=by
    refine u4 G.bp f1 aI hx f2 (by simp) λi E dp=>?_;simp only[List.getElem_map];have df:i<args.length:=by grind
    have h1:=rO aY i (by grind);have e1:(args.map (aT C.aK s.ax)).getD i .undef=aT C.aK s.ax args[i]:=by grind
    rw[show (List.map (aT C.aK s.ax) (⟨args⟩:Array Operand).toList)=args.map (aT C.aK s.ax) from rfl,e1]at h1;exact oQ (jW G args[i]) h1
   have hv:a.eval (.tmp t)=.func (.yield l') #[] #[]:=by
    have:=jW G (.tmp t);have e:aT C.aK s.ax (.tmp t)=.gM l':=LI;rw[e]at this;exact this
   obtain⟨⟨I,og⟩,cq,Y,aM,LH,d_⟩:=aW.pro l' aI L n false tC;have afH:lq.Ok C.P ⟨l',aI,L,I⟩:=og ▸ cq;rw[og]at d_;have d_:=lq.yM.1 d_;obtain⟨fn,tmps,assign,body,h1,h2⟩:=afH.yield d_ aW.cL (λr h=>⟨(aM r h).1,(aM r h).2.1⟩) Gk dB;have cH:(execOp a.eval o).run C.P w=.ok (.round l' fn tmps assign body) w:=by
    simp only[execOp,ag,Sem.run_bind,resolve,hv,Deferred.ofValue,Sem.run_pure,Result.andThen_ok,invoke];grind
   refine⟨λ_ _=>trivial,?_⟩;rw[y1 (by grind),cH,Oper.uponIn_round];refine⟨λhs=>(by cases hs),?_⟩;have h3:RoundIn (dw C.r) 0 C.P l' fn tmps assign body w _:=h2;refine h3.mono λe w' ⟨b,dN,Gj,he,g1,dW,g3,g4,g5,g6,g7,g8⟩=>?_;subst he;refine an.2 b trivial _ _ ⟨κ,dN,bc.set ?_ a6 (eT.2 rfl)⟩;exact aW.round og cq aM LH g1 dW g3 g4 g5 g6 g7 g8
  grind
 grind
end
end Go.Fer
namespace Go.Fer
open Go.RowKit
section
variable {C:bS} {T:Nat->af} {a1:Nat->Option aJ} {s:ay} {res:d'}
theorem S7{ms:Array MapEntry}{j:Nat}(aC:j<ms.size)(hu:∀ i (h:i<ms.size),ms[i].born=ms[j].born->i=j):ms.findIdx? (λe=>(e.born:Int) == (ms[j].born:Int))=some j:=by
 rw[Array.findIdx?_eq_some_iff_getElem];grind
theorem afI(ms:Array MapEntry)(e:MapEntry)(f:MapEntry->MapEntry):(ms.push e).modify ms.size f=ms.push (f e):=by
 grind
theorem afJ(ms:Array MapEntry)(j:Nat)(f g:MapEntry->MapEntry):(ms.modify j f).modify j g=ms.modify j λe=>g (f e):=by
 grind
theorem zH{a:Act}{d:Nat}{v:Value}{x:Operand}(h:x≠.tmp d):(a.put (some d) v).eval x=a.eval x:=Act.eval_put λuR e=>by grind
theorem CJ{a:Act}{d:Nat}{v:Value}(h:d<a.tmps.size):(a.put (some d) v).eval (.tmp d)=v:=by
 simp[Act.put,Act.eval,Array.getD_eq_getD_getElem?,h]
theorem afK(hT:dx C.P T){o1 gh kF oU:Oper}{d1 d2:Nat}{ty:TypeId}{m x y:Operand}(h1:o1.op=.mapEntry ty m x)(t1:o1.dst=some d1)(h2:gh.op=.extract (.tmp d1) 1)(t2:gh.dst=some d2)
  (h3:kF.op=.entryStore ty m (.tmp d2) y) (t3:kF.dst=none) (hW:oU.op=.mapUpdate ty m x y) (LJ:oU.dst=none) (j5:m≠.tmp d1) (o8:m≠.tmp d2) (xq:y≠.tmp d1) (r9:y≠.tmp d2) (pW:d1<C.nt) (hK:d2<C.nt)
  (h:(bh C.aK T a1 (aT C.aK s.ax) oU).run s.ad=some res) {a:Act} {w:World} {κ:Nat->bo} {F:Nat->Prop} {Q:Exit->Act->World->Prop} {K:Act->World->Prop} (G:bc C s a w κ F) (aY:res.bU) (hc:res.c)
  (ix:∀ a' w',b9 C (((s.hR none res).set (some d1) .undef).set (some d2) .undef) a' w'->K a' w') :
  o1.wpIn (dw C.r) 0 C.P a w (λbV b6=>gh.wpIn (dw C.r) 0 C.P bV b6 (λa2 cI=>kF.wpIn (dw C.r) 0 C.P a2 cI K Q) Q) Q:=by
 have kD:=Kj hT LJ (.inl hW) h a w κ F Q G aY hc;rw[LJ]at kD;have e1:∀ c,o1.op≠.defer c:=by grind
 have e2:∀ c,gh.op≠.defer c:=by grind
 have e3:∀ c,kF.op≠.defer c:=by grind
 have afL:∀ c,oU.op≠.defer c:=by grind
 simp only[bh,hW,qD]at h;split at h
 ·rename_i k v aG;obtain⟨kZ,zf,E,mC,gP⟩:=(hT.bO aG (by simp)).mp;obtain⟨inf,l8,i1,i2,i3,i4,i5,i6⟩:=kh gP.kg;split at h
  ·rename_i xr;split at h
   ·rename_i b g tw;simp only[aq.eJ,Option.bind_eq_some_iff,aq.run_bind,aq.eI,aq.bx]at h;obtain⟨⟨dn,n2⟩,hx,⟨mD,n3⟩,aM,h⟩:=h;split at h
    ·rename_i aA;obtain⟨aA,pR⟩:=aA;have pR:b ∉ n2++n3:=by
      grind
     split at h
     ·rename_i k' hO es ab;simp only[Option.map_eq_some_iff]at h;obtain⟨RT,oT,rfl⟩:=h;obtain⟨e,rfl⟩:=ky oT;cases e;obtain⟨F',f1,aW,f2⟩:=bc.kW ((mA hx).append (mA aM)) G;have an:bl C.P s.ad κ F w (use (aT C.aK s.ax m)).2 (a.eval m):=cv G m rfl aY.1;rw[tw]at an;have kE:=an.2 aA.symm (by rw[ab];rfl);have tx:=l1 G.bp f1 hx f2.left (cv G x rfl aY.2.1);have oX:(s.cc (n2++n3)).ad b=s.ad b:=by simp only[ay.cc];grind
      have aN:=aW.bp b;unfold cg at aN;rw[oX,ab]at aN;obtain⟨ms,clk,hw,tz⟩:=aN;have eX:k.kA=true/\k.jV<=100:=by simpa [tf]using xr
      have dG:=(Ca (em:=false) k 10000 eX.1 (by omega)).1 mC tx;have j1:=tz.es;obtain⟨f,c7,q2⟩:=wW (β:=v.ah) (xs:=es) (es:=ms.toList) xr mC tx j1.1 (λj e p h1 h2=>(j1.2 j e p h1 h2).1);have eB:(getObj (κ b).ad).run C.P w=.ok (.map ms clk) w:=by simp[getObj,Sem.run,hw]
      obtain⟨g_,Kk,Fp,RU⟩:=tz;have tM:d1<a.tmps.size:=by have:=G.dk;omega
      have b4:(κ b).ad<w.heap.size:=(Array.getElem?_eq_some_iff.1 hw).1;have chain:∀ (b6 cI:World) (u:Value) (n:Int),(execOp a.eval o1).run C.P w=.ok (.value (.tuple #[u,goInt n])) b6->(Instr.entryStore ty (.map (some (κ b).ad)) (goInt n) (a.eval y)).run C.P b6=.ok () cI->
        (execOp a.eval oU).run C.P w=.ok .skip cI->
        o1.wpIn (dw C.r) 0 C.P a w (λbV b6=>gh.wpIn (dw C.r) 0 C.P bV b6 (λa2 cI=>kF.wpIn (dw C.r) 0 C.P a2 cI K Q) Q) Q:=by
       intro b6 cI u n bR cp afM;have j0:=kD.2;rw[y1 afL,afM,Oper.uponIn_skip,LJ]at j0;refine ha e1 bR ?_;rw[t1];have afN:(a.put (some d1) (.tuple #[u,goInt n])).eval (.tmp d1)=.tuple #[u,goInt n]:=CJ tM;refine ha (v:=goInt n) (w':=b6) e2 (by simp[execOp,h2,afN,Instr.extract]) ?_;rw[t2];have afO:d2<(a.put (some d1) (.tuple #[u,goInt n])).tmps.size:=by have:=G.dk;simp[Act.put];omega
       have afP:((a.put (some d1) (.tuple #[u,goInt n])).put (some d2) (goInt n)).eval (.tmp d2)=goInt n:=CJ afO;have LK:((a.put (some d1) (.tuple #[u,goInt n])).put (some d2) (goInt n)).eval m=.map (some (κ b).ad):=by rw[zH o8,zH j5,kE]
       have afQ:((a.put (some d1) (.tuple #[u,goInt n])).put (some d2) (goInt n)).eval y=a.eval y:=by rw[zH r9,zH xq]
       refine E' e3 (w':=cI) (by simp only[execOp,h3,afP,LK,afQ,Sem.run_bind,cp,Result.andThen_ok,Sem.run_pure]) ?_;rw[t3];refine ix _ _ ?_;obtain⟨κ',F',j0⟩:=j0;exact⟨κ',F',bc.set (bc.set (d:=some d1) (av:=.undef) j0 (λi e=>by grind) trivial) (λi e=>by grind) trivial⟩
      rcases q2 with⟨rfl,ea⟩ | ⟨j,e,p,g1,dW,g3,g4,rfl⟩
      ·refine chain { w with heap:=w.heap.setIfInBounds (κ b).ad (.map (ms.push { key:=a.eval x,val:=l8,born:=clk }) (clk+1)) } { w with heap:=w.heap.setIfInBounds (κ b).ad (.map (ms.push { key:=a.eval x,val:=a.eval y,born:=clk }) (clk+1)) } l8 clk ?_ ?_ ?_
       ·simp only[execOp,h1,kE,Instr.mapEntry,Sem.run_bind,di E,Result.andThen_ok,eB,dG,c7,qE i1 i4,rW hw,Sem.run_pure]
       ·have LL:(getObj (κ b).ad).run C.P { w with heap:=w.heap.setIfInBounds (κ b).ad (.map (ms.push { key:=a.eval x,val:=l8,born:=clk }) (clk+1)) }=.ok (.map (ms.push { key:=a.eval x,val:=l8,born:=clk }) (clk+1)) { w with heap:=w.heap.setIfInBounds (κ b).ad (.map (ms.push { key:=a.eval x,val:=l8,born:=clk }) (clk+1)) }:=by simp[getObj,Sem.run,b4]
        have LM:(ms.push { key:=a.eval x,val:=l8,born:=clk }).findIdx? (λe=>(e.born:Int) == (clk:Int))=some ms.size:=by
         have:=S7 (ms:=ms.push { key:=a.eval x,val:=l8,born:=clk }) (j:=ms.size) (by simp) λi E he=>by
          grind
         grind
        simp only[Instr.entryStore,Sem.run_bind,LL,Result.andThen_ok,goInt,asInt,asIntOf,Sem.run_pure,LM];rw[rW (es:=ms.push { key:=a.eval x,val:=l8,born:=clk }) (clk:=clk+1) (by grind),afI];simp
       ·simp only[execOp,hW,kE,Instr.mapUpdate,Sem.run_bind,di E,Result.andThen_ok,eB,dG,c7,rW hw,Sem.run_pure]
      ·have aC:j<es.length:=(List.getElem?_eq_some_iff.1 dW).1;have wX:j<ms.size:=by omega
       have Km:ms[j]=e:=by
        grind
       obtain⟨jc,b6,bR,cp,dX⟩:=Ki C.P w e.key (a.eval x);have lB:b6.heap[(κ b).ad]?=some (.map ms clk):=by rcases dX with rfl | rfl<;>exact hw
       have S8:(κ b).ad<b6.heap.size:=(Array.getElem?_eq_some_iff.1 lB).1;have nz:((ms[j]?).map (·.key)).getD (a.eval x)=e.key:=by
        grind
       have LN:((ms[j]?).map (λx=>(x.born:Int))).getD 0=(ms[j].born:Int):=by grind
       rw[Nat.zero_add]at c7;refine chain { b6 with heap:=b6.heap.setIfInBounds (κ b).ad (.map (ms.modify j λe=>{ e with key:=jc }) clk) } { b6 with heap:=b6.heap.setIfInBounds (κ b).ad (.map (ms.modify j λe=>{ e with key:=jc,val:=a.eval y }) clk) } e.val ms[j].born ?_ ?_ ?_
       ·simp only[execOp,h1,kE,Instr.mapEntry,Sem.run_bind,di E,Result.andThen_ok,eB,dG,c7];rw[nz,bR];simp only[Result.andThen_ok,rW lB,Sem.run_pure,LN]
       ·have LL:(getObj (κ b).ad).run C.P { b6 with heap:=b6.heap.setIfInBounds (κ b).ad (.map (ms.modify j λe=>{ e with key:=jc }) clk) }=.ok (.map (ms.modify j λe=>{ e with key:=jc }) clk) { b6 with heap:=b6.heap.setIfInBounds (κ b).ad (.map (ms.modify j λe=>{ e with key:=jc }) clk) }:=by simp[getObj,Sem.run,S8]
        have l9:∀ i (h:i<(ms.modify j λe=>{ e with key:=jc }).size),((ms.modify j λe=>{ e with key:=jc })[i]).born=(ms[i]'(by grind)).born:=by
         grind
        have LM:(ms.modify j λe=>{ e with key:=jc }).findIdx? (λe=>(e.born:Int) == (ms[j].born:Int))=some j:=by
         have:=S7 (ms:=ms.modify j λe=>{ e with key:=jc }) (j:=j) (by grind) λi E he=>by
          grind
         grind
        simp only[Instr.entryStore,Sem.run_bind,LL,Result.andThen_ok,goInt,asInt,asIntOf,Sem.run_pure,LM];rw[rW (es:=ms.modify j λe=>{ e with key:=jc }) (clk:=clk) (by grind),afJ];simp
       ·simp only[execOp,hW,kE,Instr.mapUpdate,Sem.run_bind,di E,Result.andThen_ok,eB,dG,c7];rw[nz,bR];simp only[Result.andThen_ok,rW lB,Sem.run_pure]
     grind
    grind
   ·cases h
  ·cases h
 ·cases h
end
end Go.Fer
namespace Go.Fer
open Go.RowKit
structure CK(P:Program)(k:FuncId)(c:ITC):Prop where
 enter:∀ args w,(callFunc k args).run P w=.ok (.enter k args) w
 iH:∀ (l:Nat) (I:List c.aI.ah->Bool->(Nat->Prop)->(Nat->Prop)->World->Prop) (F Y:Nat->Prop) (w:World) (args:List Value) (x:c.ts.ah),e5 P c.ts F w args x->c.pre x->lq.Ok P ⟨l,c.aI,λT=>T=c.seq x,I⟩->
  (∀ r,F r->r<w.heap.size)->np P F w->(∀ r,Y r->r<w.heap.size/\¬F r)->I [] false F Y w->Calls P k (args++[Value.func (.yield l) #[] #[]]).toArray w λe w'=>
   ∃ v pre st F' gf,e=.returned v/\(st=false->pre=c.seq x)/\I pre st F' gf w'/\(∀ r,F r->F' r)/\(∀ r,F' r->F r\/Y r\/w.heap.size<=r)/\(∀ r,F' r->r<w'.heap.size)/\
    (∀ r,r<w.heap.size->¬Y r->w'.heap[r]?=w.heap[r]?)/\(∀ r,gf r->(Y r\/w.heap.size<=r)/\r<w'.heap.size/\¬F' r)/\w.heap.size<=w'.heap.size/\cM w w'
def eK.Ok(P:Program)(U:dj)(k:FuncId):eK->Prop
 | .c8 c=>hN P k c.ts c.tr c.sh/\(c.dv=true->∀ x,(c.sh x).Cn)
 | .io c=>IoSpec P U k c
 | .b8 c=>CK P k c
 | .K2 c=>hN P k c.ts c.tr c.sh/\QS P k c.ts c.tr c.sh
 | .FL c sh ids=>∀ k∈ids,IoSpec P U k { c with sh:=sh k }
 | .ow c=>nu c.tr=true/\B9 P k c
def lF(P:Program)(U:dj)(Ψ:Nat->Option eK):Prop:=∀ k c,Ψ k=some c->c.Ok P U k
section
variable {C:bS} {T:Nat->af} {a1:Nat->Option aJ} {Ψ:Nat->Option eK} {s:ay} {o:Oper} {Q:Exit->Act->World->Prop} {ops:Array Oper}
theorem afR(cd:ja C.P a1)(cE:lF C.P C.aK Ψ){k:Nat}{c:SC}(h:K3 a1 Ψ k=some c):hN C.P k c.ts c.tr c.sh:=by
 unfold K3 at h;split at h
 ·rename_i c' jx;cases h;have:eK.Ok C.P C.aK k (.c8 c):=cE k _ jx;exact this.1
 ·cases h
 ·obtain⟨f,ar,h⟩:=Option.bind_eq_some_iff.1 h;split at h
  ·cases h
  ·rename_i he;cases h;exact (cd k f ar).1 (by simpa using he)
theorem afS{P:Program}{w:World}{ty j:TypeId}(aC:P.underlying ty=some (.slice j))(q:Option Addr)(n cap d:Nat):(Op.equalIn (d+1) ty (.slice q n cap) (.slice none 0 0)).run P w=.ok q.isNone w:=by
 cases q<;>simp[Op.equalIn,di aC]
theorem afT{P:Program}{w:World}(op:BinOp)(t:TypeId)(x y:Operand)(q q':Option Addr)(n iL cap cap':Nat):(eqGuard op t x y (.slice q n cap) (.slice q' iL cap')).run P w=.ok () w:=by
 cases op<;>simp[eqGuard]
theorem S9{P:Program}{w:World}{ty j:TypeId}{x y:Operand}(aC:P.underlying ty=some (.slice j))(q:Option Addr)(n cap:Nat) :
  (do eqGuard .eql ty x y (.slice q n cap) (.slice none 0 0);binOp .eql ty (.slice q n cap) (.slice none 0 0):Sem Value).run P w=.ok (.bool q.isNone) w/\(do eqGuard .neq ty x y (.slice q n cap) (.slice none 0 0);binOp .neq ty (.slice q n cap) (.slice none 0 0):Sem Value).run P w=.ok (.bool (!q.isNone)) w:=by
 have h:(Op.equalIn 10000 ty (.slice q n cap) (.slice none 0 0)).run P w=.ok q.isNone w:=afS (w:=w) aC q n cap 9999;constructor<;>simp[afT,binOp,Op.equal,Op.maxDepth,h]
theorem afU(hT:dx C.P T)(a6:∀ i,o.dst=some i->i<C.nt){op:BinOp}{ty my:TypeId}{x y:Operand}(ag:o.op=.binOp op ty x y my){pr:hI}(h:Ct C.aK T s o op ty x y=some pr):p0 C o s pr:=by
 have y4:∀ c,o.op≠.defer c:=by grind
 unfold Ct at h;split at h
 ·rename_i e aG afV;have cU:=hT.bO aG (by simp);obtain⟨j,aC,_⟩:=cU.sl;split at h
  ·rename_i xs l hG;have key:∀ (a:Act) (w:World) (κ:Nat->bo) (F:Nat->Prop),bc C s a w κ F->(use (aT C.aK s.ax x)).1->∃ b:Bool,(b=true->xs=[])/\(op=.eql->(execOp a.eval o).run C.P w=.ok (.value (.bool b)) w)/\(op=.neq->(execOp a.eval o).run C.P w=.ok (.value (.bool (!b))) w):=by
    intro a w κ F G aY;have hx:=BQ G hG (cv G x rfl aY);obtain⟨_,q,cap,e1,m1,m2,m3,_⟩:=(dy rfl).1 hx;have e1:=(List.cons.inj e1).1;have aM:a.eval y=.slice none 0 0:=by
     have:=jW G y;rw[afV]at this;exact this
    refine⟨q.isNone,λbf=>?_,λkD=>?_,λkD=>?_⟩
    ·simp_all
    ·subst kD;have G:=(S9 (w:=w) (x:=x) (y:=y) aC q xs.length cap).1;rw[<-e1,<-aM]at G;simp only[execOp,ag,Sem.run_bind]at G ⊢;simp_all
    ·subst kD;have G:=(S9 (w:=w) (x:=x) (y:=y) aC q xs.length cap).2;rw[<-e1,<-aM]at G;simp only[execOp,ag,Sem.run_bind]at G ⊢;simp_all
   split at h
   ·cases h;refine⟨λa w Q K G aY an=>?_,λgs oe=>(by grind),λab=>ab x (by rw[ag];simp[Op.operands])⟩;obtain⟨κ,F,G⟩:=G;obtain⟨b,dt,eG,_⟩:=key a w κ F G aY;exact ha y4 (eG rfl) (an.2 b dt _ _ ⟨κ,F,bc.set G a6 (eT.2 rfl)⟩)
   ·cases h;refine⟨λa w Q K G aY an=>?_,λgs oe=>(by grind),λab=>ab x (by rw[ag];simp[Op.operands])⟩;obtain⟨κ,F,G⟩:=G;obtain⟨b,dt,_,eG⟩:=key a w κ F G aY;exact ha y4 (eG rfl) (an.2 b dt _ _ ⟨κ,F,bc.set G a6 (eT.2 rfl)⟩)
   grind
  grind
 grind
theorem LO(hT:dx C.P T)(cd:ja C.P a1)(cE:lF C.P C.aK Ψ)(a6:∀ i,o.dst=some i->i<C.nt){pr:hI}(h:qT C.aK T a1 Ψ s o=some pr):p0 C o s pr:=by
 unfold qT at h;split at h
 ·rename_i c ag;obtain⟨callee,args,cT⟩:=c;split at h
  ·rename_i f ar;simp only at ar;subst ar;split at h
   ·split at h
    ·rename_i c' jx;exact afE a6 ag (cE _ _ jx) h
    ·rename_i c' jx;have h3:eK.Ok C.P C.aK _ (.K2 c'):=cE _ _ jx;exact afg a6 ag h3.1 h3.2 h
    ·split at h
     ·rename_i c8 LP;exact aff a6 ag (afR cd cE LP) h
     grind
   ·split at h
    ·rename_i r G;cases h;exact afh a6 ag G
    ·split at h
     ·rename_i r G;cases h;exact afF a6 ag (λc sh ids hc=>cE _ _ hc) G
     ·exact afG a6 ag h
   grind
  grind
 ·rename_i ty x ag;exact afi hT a6 ag h
 ·rename_i x str ag;exact afm a6 ag h
 ·rename_i x ag;exact afj a6 ag h
 ·rename_i op ty x y my ag;exact afU hT a6 ag h
 grind
theorem S_(want b:Bool):((some b == some want:Bool))=Fz want b:=by cases want<;>cases b<;>rfl
theorem S'{a:Act}{j d:Nat}{q0:Oper}(h1:ops[j]?=some q0)(h2:q0.dst=some d){b:Bool}(h:a.tmps.getD d Go.undef=.bool b):yielded ops a.tmps j=some b:=by
 have:a.tmps[d]?=some (.bool b):=by
  rw[Array.getD_eq_getD_getElem?]at h;cases he:a.tmps[d]? with
  | none=>rw[he]at h;cases h
  | some v=>grind
 simp[yielded,h1,h2,this]
theorem afW{a:Act}{j d:Nat}{q0:Oper}(h1:ops[j]?=some q0)(h2:q0.dst=some d)(h:a.tmps.getD d Go.undef=Go.undef):yielded ops a.tmps j=none:=by
 unfold yielded;rw[h1];simp only[Option.bind_some,h2];rw[Array.getD_eq_getD_getElem?]at h;cases he:a.tmps[d]? with
 | none=>rfl
 | some v=>rw[he]at h;cases h;rfl
theorem LQ{a:Act}{w:World}{κ:Nat->bo}{F:Nat->Prop}(G:bc C s a w κ F){g:Option Bool}(h:kl s.ax ops o.guard=some g) :
  Region.wanted o (yielded ops a.tmps)=g.getD true:=by
 unfold Region.wanted;cases aA:o.guard with
 | none=>rw[aA]at h;cases h;rfl
 | some p=>
  obtain⟨j,want⟩:=p;rw[aA]at h;simp only[kl]at h ⊢;split at h
  ·rename_i q0 aC;split at h
   ·rename_i d au;have hs:=G.bF d;split at h
    ·rename_i b ab;cases h;rw[ab]at hs;rw[S' aC au (eT.1 hs),S_];rfl
    ·rename_i g' b ab;cases h;rw[ab]at hs;obtain⟨h1,h2⟩:=hs;cases g' with
     | true=>
      rw[S' aC au (eT.1 (h1 rfl)),S_];simp
     | false=>
      rw[afW aC au (h2 rfl)];rfl
    grind
   grind
  grind
theorem afX{bU c:Prop}{eM r3:aD}{hk xf:List (Nat×bu)}(aA:Cu o eM hk=some (xf,r3))(h:(bh C.aK T a1 (aT C.aK s.ax) o).run s.ad=some ⟨bU,c,eM,hk⟩) :
    (∀ a w,b9 C (s.hR o.dst ⟨bU,c,eM,hk⟩) a w->b9 C ((s.fK xf).set o.dst r3) a w)/\(∀ a w κ F,bc C s a w κ F->∃ κ' F',bc C (s.fK xf) a w κ' F'):=by
  unfold Cu at aA;split at aA
  · cases aA
    exact⟨λa w h=>h,λa w κ F h=>⟨κ,F,h⟩⟩
  · rename_i p l'
    split at aA
    · rename_i LR first cF ag
      cases aA
      refine⟨λa w h=>h,λa w κ F G=>?_⟩
      simp only[bh,ag]at h
      split at h
      · split at h
        · split at h
          · simp only[aq.eJ,Option.bind_eq_some_iff,aq.run_bind,aq.bx,Option.some.injEq]at h
            obtain⟨⟨y,l⟩,aM,he⟩:=h
            obtain⟨F',_,aW,_⟩:=bc.kW (pU _ aM) G
            have he:(jt l).run s.ad=p::l':=by grind
            rw[<-he,tk]
            grind
          · split at h
            · simp only[aq.eJ,Option.bind_eq_some_iff,aq.run_bind,aq.bx,Option.some.injEq]at h
              obtain⟨⟨y,l⟩,aM,he⟩:=h
              obtain⟨F',_,aW,_⟩:=bc.kW (pU _ aM) G
              have he:(jt l).run s.ad=p::l':=by grind
              rw[<-he,tk]
              grind
            · simp only[bz,aq.bx,Option.some.injEq]at h
              cases h
        · split at h
          · simp only[bz,aq.bx,Option.some.injEq]at h
            cases h
          · cases h
      · cases h
    · rename_i ty n ps ag
      split at aA
      · rename_i aZ g' e xs bD
        split at aA
        · rename_i afY
          obtain⟨⟨rfl,rfl⟩,_⟩:=afY
          cases aA
          obtain⟨b,⟨afZ,iw⟩⟩:=p
          simp only at bD
          subst bD
          have kY:o.dst=some b/\afZ=(s.ad b).gen+1:=by
            simp only[bh,ag]at h;split at h
            · simp only[aq.eJ,Option.bind_eq_some_iff,aq.run_bind]at h
              obtain⟨⟨ys,fl⟩,_,h⟩:=h
              obtain⟨b0,zj,ao⟩:=qG h
              grind
            · cases h
          obtain⟨a6,rfl⟩:=kY
          refine⟨λa w j0=>?_,λa w κ F G=>?_⟩
          · obtain⟨κ,F,G⟩:=j0
            rw[a6]at G ⊢
            simp only[ay.hR,ay.fK]at G
            have hx:(dd (.slice e) (.own b ((s.ad b).gen+1))).run ((s.b' b ⟨(s.ad b).gen+1,.a8 e xs⟩).set (some b) (.own b ((s.ad b).gen+1))).ad=some (xs,[b]):=by
              simp[dd,kf,dA,ay.set,ay.b',ez,af.ee]
            obtain⟨zI,f1,gx,f2⟩:=bc.kW (mA hx) G
            have hs:=G.bF b
            have hv:=l1 (v:=a.tmps.getD b undef) G.bp f1 hx f2 (by simpa [ay.set]using hs)
            have hsl:∀ i,i≠b->((s.b' b ⟨(s.ad b).gen+1,.a8 e xs⟩).set (some b) (.own b ((s.ad b).gen+1))).ax i=s.ax i:=λi E=>by simp[ay.set,ay.b',E]
            have cr:bc C ⟨λi=>if i=b then .val (.slice e) xs else s.ax i,(((s.b' b ⟨(s.ad b).gen+1,.a8 e xs⟩).set (some b) (.own b ((s.ad b).gen+1))).cc [b]).ad⟩ a w κ zI:=
              { gx with
                dk:=gx.dk,dfr:=gx.dfr,bp:=gx.bp
                bF:=λi=>by
                  show bl _ _ _ _ _ (if i=b then .val (.slice e) xs else s.ax i) _;split
                  · rename_i E
                    subst E
                    exact hv
                  · rename_i E
                    rw[<-hsl i E]
                    exact gx.bF i
                pro:=λl aI L n st aS=>by
                  have aS:(if TRS=b then aD.val (.slice e) xs else s.ax TRS)=.tr l aI L n st:=aS;split at aS
                  · cases aS
                  · rename_i E
                    exact gx.pro l aI L n st ((hsl TRS E).trans aS) }
            refine⟨κ,zI,cr.yR ⟨λi=>.inl ?_,λi=>?_⟩⟩
            · rfl
            · by_cases E:i=b
              · subst E
                right
                simp[ay.set,ay.fK,ay.b',ay.cc,eW]
              · left
                simp[ay.set,ay.fK,ay.b',ay.cc,E]
          · have az:=Ln G (b:=b) (e:=e)
            refine⟨_,F,az.yR ⟨λi=>.inl rfl,λi=>?_⟩⟩
            by_cases E:i=b
            · subst E
              right
              simp[ay.fK,ay.b']
            · left
              simp[ay.fK,ay.b',E]
        grind
      grind
    grind
theorem r_{β:Type}{b:Bool}{p:Prop}{m:M β}{O:β->Prop}(ab:b=true->p):M.b_ (r1 b p m) O<->p/\M.b_ m O:=by
 cases b with
 | true=>exact⟨λh=>⟨ab rfl,h⟩,λh=>h.2⟩
 | false=>exact M.kv
def p3(ops:Array Oper)(s:ay)(tg:o5):Prop:=∀ p∈tg,∃ b a,s.ax p.1=.hi b a/\kl s.ax ops (some p.2)=some (some b)
theorem af0{j d:Nat}:r2 ops j d=true<->d∈FA ops (some (j,true)):=by
 have key:∀ (x:Option Oper),(match x with | some o=>(match o.dst with | some e=>e == d | none=>false) | none=>false)=true<->d∈(match x with | some o=>o.dst.toList | none=>[]):=by
  grind
 exact key _
theorem p3.gR{s':ay}{tg:o5}(h:p3 ops s tg)(hs:∀ i,o.dst≠some i->s'.ax i=s.ax i)
  (au:∀ d k,o.dst=some d->o.guard=some k->∃ b a,s'.ax d=.hi b a/\kl s.ax ops (some k)=some (some b)):p3 ops s' (xd ops tg o):=by
 unfold xd;cases a6:o.dst with
 | none=>
  intro p hp;obtain⟨b,a,h1,h2⟩:=h p hp;refine⟨b,a,(hs _ (by grind)).trans h1,?_⟩;rw[<-h2];exact KF λt _=>hs t (by grind)
 | some d=>
  have congr:∀ k:Nat×Bool,r2 ops k.1 d=false->kl s'.ax ops (some k)=kl s.ax ops (some k):=λk ao=>KF λt aG=>hs t (by
   rw[a6];intro e;cases e;have:r2 ops k.1 d=true:=af0.2 aG;grind)
  have u3:p3 ops s' (tg.filter λp=>p.1 != d&&!r2 ops p.2.1 d):=by
   intro p hp;simp only[List.mem_filter,Bool.and_eq_true,bne_iff_ne,ne_eq,Bool.not_eq_true']at hp;obtain⟨b,a,h1,h2⟩:=h p hp.1;grind
  simp only;split
  ·rename_i k ao;split
   ·omega
   ·rename_i Ta;intro p hp;rcases List.mem_cons.1 hp with rfl | hp
    ·grind
    ·exact u3 p hp
  omega
section
variable {U:dj} {tg:o5} {gk:Option (Nat×Bool)}
theorem CL(hT:p3 ops s tg)(aA:∀ k,gk=some k->kl s.ax ops (some k)=some (some true)){x:Operand}(h:xe (aT U s.ax) tg gk x=true):(use (aT U s.ax x)).1:=by
 unfold xe at h;rw[Bool.or_eq_true]at h;rcases h with h | h
 ·exact Fx (by grind)
 ·split at h
  ·rename_i t k;obtain⟨p,hp,u7⟩:=List.any_eq_true.1 h;simp only[Bool.and_eq_true,beq_iff_eq]at u7;obtain⟨rfl,h1,h2⟩:=u7;have u7:p.2=k:=Prod.ext h1 h2;obtain⟨b,a,aO,aP⟩:=hT p hp;rw[u7,aA k rfl]at aP;cases aP;have e:aT U s.ax (.tmp p.1)=s.ax p.1:=rfl;rw[e,aO];rfl
  grind
theorem Tb(hT:p3 ops s tg)(aA:∀ k,gk=some k->kl s.ax ops (some k)=some (some true))(h:K6 (aT U s.ax) tg gk o=true):qN (aT U s.ax) o:=
 λx hx=>CL hT aA (List.all_eq_true.1 h x hx)
theorem Tc(hT:p3 ops s tg){c x:Operand}{want:Bool}{oc:Prop}{iM:Bool}(hc:use (aT U s.ax c)=(oc,.val .bool iM))(CM:oc)(h:FW ops tg c x want=true)(hw:Fz want iM=true):(use (aT U s.ax x)).1:=by
 unfold FW at h;split at h
 ·rename_i c t;obtain⟨p,hp,u7⟩:=List.any_eq_true.1 h;simp only[Bool.and_eq_true,beq_iff_eq]at u7;obtain⟨rfl,h1,rfl⟩:=u7;obtain⟨b,a,aO,aP⟩:=hT p hp;have e:aT U s.ax (.tmp p.1)=s.ax p.1:=rfl;rw[e,aO];show b=true;unfold r2 at h1;have xt:p.2=(p.2.1,p.2.2):=rfl;rw[xt]at aP;unfold kl at aP;have jx:use (s.ax c)=(oc,.val .bool iM):=hc;split at h1
  ·rename_i q0 aC;split at h1
   ·rename_i d au;have af1:d=c:=by grind
    subst af1;simp only[aC,au]at aP;split at aP
    ·rename_i b0 zj;rw[zj]at jx;simp only[use,Prod.mk.injEq,aD.val.injEq,heq_eq_eq,true_and]at jx;grind
    ·rename_i g0 b0 zj;rw[zj]at jx;simp only[use,Prod.mk.injEq,aD.val.injEq,heq_eq_eq,true_and]at jx;grind
    grind
   grind
  grind
 grind
theorem Gl(hT:p3 ops s tg)(aA:∀ k,gk=some k->kl s.ax ops (some k)=some (some true))(h:zu (aT U s.ax) ops tg gk o=true):(bh U T a1 (aT U s.ax) o).cB (k1 λr=>r.bU):=by
 cases ag:o.op with
 | pick c a b=>
  simp only[zu,ag,Bool.and_eq_true,Bool.or_eq_true]at h;obtain⟨h1,h2,h3⟩:=h;unfold bh;rw[ag];simp only;split
  ·rename_i oc iM lC;have CM:oc:=by have:=CL hT aA h1;grind
   split
   ·split
    ·rename_i yY av aV;refine .bz ⟨CM,λhv=>?_⟩;have:(use (aT U s.ax a)).1:=by
      rcases h2 with h2 | h2
      ·exact CL hT aA h2
      ·exact Tc hT lC CM h2 hv
     grind
    ·exact .bH
   ·split
    ·rename_i yY av aV;refine .bz ⟨CM,λhv=>?_⟩;have:(use (aT U s.ax b)).1:=by
      rcases h3 with h3 | h3
      ·exact CL hT aA h3
      ·exact Tc hT lC CM h3 (by subst hv;rfl)
     grind
    ·exact .bH
   ·exact .bH
  ·exact .bH
 | _=>
  simp only[zu,ag]at h;exact R9 (Tb hT aA h)
theorem af2(hT:p3 ops s tg)(aA:∀ k,gk=some k->kl s.ax ops (some k)=some (some true)){bU c:Prop}{eM r3:aD}{hk xf:List (Nat×bu)}(hw:Cu o eM hk=some (xf,r3))(G:(bh U T a1 (aT U s.ax) o).run s.ad=some ⟨bU,c,eM,hk⟩)
  (h:K7 (aT U s.ax) tg gk o r3=true):(use r3).1:=by
 unfold K7 at h;rw[Bool.or_eq_true]at h;rcases h with h | h
 ·exact Fx (by grind)
 ·split at h
  ·rename_i x ag;simp only[bh,ag,bz,aq.bx,Option.some.injEq,d'.mk.injEq]at G;obtain⟨_,_,rfl,rfl⟩:=G;simp only[Cu,Option.some.injEq,Prod.mk.injEq]at hw;obtain⟨_,rfl⟩:=hw;exact CL hT aA h
  grind
end
theorem ay.CN{s:ay}{d:Option Nat}{v:aD}{i:Nat}(h:d≠some i):(s.set d v).ax i=s.ax i:=by
 cases d with
 | none=>rfl
 | some d=>simp only[ay.set];grind
theorem ay.LS{s:ay}{d:Nat}{v:aD}:(s.set (some d) v).ax d=v:=by simp[ay.set]
theorem ay.zp:∀ (l:List (Nat×bu)) (s:ay),(s.fK l).ax=s.ax
 | [],_=>rfl
 | p::l,s=>by
  have:=ay.zp l (s.b' p.1 p.2);exact this
theorem af3{U:dj}{pr:hI}{gs:Bool->pr.aj->ay}(h:qT U T a1 Ψ s o=some pr)(aA:pr.Co=some gs):∀ g y,∃ v,(gs g y).ax=(s.set o.dst (.hi g v)).ax:=by
 have after:∀ (t:af) (fl:List Nat) (v:aD),(qQ s o t fl v).ax=(s.set o.dst v).ax:=λt fl v=>by
  unfold qQ;split
  ·rfl
  ·cases o.dst<;>rfl
 have c8:∀ {args:List Operand} {c:SC} {pr:hI} {gs:Bool->pr.aj->ay},Cp U s o args c=some pr->pr.Co=some gs->∀ g y,∃ v,(gs g y).ax=(s.set o.dst (.hi g v)).ax:=by
  intro args c pr gs h aA;unfold Cp at h;split at h
  ·cases h;cases aA;exact λg y=>⟨_,after _ _ _⟩
  grind
 have fc:∀ {t:Nat} {args:List Operand} {pr:hI} {gs:Bool->pr.aj->ay},Cq U s o t args=some pr->pr.Co=some gs->∀ g y,∃ v,(gs g y).ax=(s.set o.dst (.hi g v)).ax:=by
  intro t args pr gs h aA;unfold Cq at h;split at h
  ·split at h
   ·cases h;cases aA;exact λg y=>⟨_,after _ _ _⟩
   grind
  grind
 unfold qT at h;split at h
 ·split at h
  ·split at h
   ·split at h
    ·unfold xc at h;grind
    ·unfold FN at h;grind
    ·split at h
     ·exact c8 h aA
     grind
   ·split at h
    ·rename_i G;cases h;exact fc G aA
    ·split at h
     ·rename_i G;cases h;unfold FP xc at G;grind
     ·unfold FQ at h;grind
   grind
  grind
 ·unfold FR at h;grind
 ·unfold FU at h;grind
 ·unfold FV at h;grind
 ·unfold Ct at h;grind
 grind
theorem vf{x:Operand}{t:Nat}(h:hV x=some t):x=.tmp t:=by
 cases x<;>simp[hV]at h;rw[h]
theorem Td{o gh kF oU:Oper}{d1 d2:Nat}(h:zv o gh kF=some (oU,d1,d2)):∃ ty m x y,o.op=.mapEntry ty m x/\o.dst=some d1/\gh.op=.extract (.tmp d1) 1/\gh.dst=some d2/\kF.op=.entryStore ty m (.tmp d2) y/\kF.dst=none/\
  oU.op=.mapUpdate ty m x y/\oU.dst=none/\m≠.tmp d1/\m≠.tmp d2/\y≠.tmp d1/\y≠.tmp d2/\o.guard=none/\gh.guard=none/\kF.guard=none:=by
 unfold zv at h;split at h
 ·rename_i ty m x ag;split at h
  ·rename_i e xu;split at h
   ·rename_i my da aS y axs;split at h
    ·rename_i adj J3 LU CO Te;split at h
     ·rename_i hc;simp only[Option.some.injEq,Prod.mk.injEq]at h;obtain⟨rfl,rfl,rfl⟩:=h;obtain⟨c1,c2,rfl,c4,c5,lu,n6,wQ,c9,Gf,af4,c12,af5⟩:=hc;obtain⟨oh,tN⟩:=Option.isSome_iff_exists.1 c4;have eY:=vf tN;have an:=vf (c5.symm.trans tN);have e1:=vf c1;have e2:=vf c2;subst e1;subst e2;refine⟨my,m,x,y,ag,LU,xu,CO,?_,Te,rfl,Te,λe=>n6 (by grind),λe=>wQ (by grind),λe=>c9 (by grind),λe=>Gf (by grind),Option.isNone_iff_eq_none.1 af4,Option.isNone_iff_eq_none.1 c12,Option.isNone_iff_eq_none.1 af5⟩;grind
     grind
    grind
   grind
  grind
 grind
theorem LV{β:Type}(hT:dx C.P T)(cd:ja C.P a1)(cE:lF C.P C.aK Ψ)(au:∀ o∈ops.toList,k0 o C.nt=true){k:ay->M β}{O:β->Prop}
  (ao:∀ s' a' w',b9 C s' a' w'->M.b_ (k s') O->Q .normal a' w'):∀ (os:List Oper) (n:Nat) (tg:o5) (s:ay) (a:Act) (w:World),ops.toList.drop n=os->p3 ops s tg->b9 C s a w->M.b_ (l7 C.aK T a1 Ψ ops os tg s k) O->
   wpOpsIn (dw C.r) 0 C.P ops Q (List.range' n os.length) a w:=by
 intro os;generalize hlen:os.length=len;induction len using Nat.strongRecOn generalizing os with
 | _ len Tf=>
 subst hlen;cases os with
 | nil=>
  intro n tg s a w _ _ G an;exact ao s a w G an
 | cons o os=>
  have aH:=Tf os.length (by simp) os rfl;intro n tg s a w az xv G an;have b4:n<ops.toList.length:=by
   grind
  rw[List.drop_eq_getElem_cons b4]at az;injection az with pW hK
  have eB:ops[n]?=some o:=by
   grind
  have jB:o∈ops.toList:=pW ▸ List.getElem_mem b4;have xw:=au o jB;have a6:∀ i,o.dst=some i->i<C.nt:=λi E=>by
   have:=xw;simp only[k0,Bool.and_eq_true]at this;grind
  simp only[List.length_cons,List.range'_succ,wpOpsIn,eB];obtain⟨κ,F,eC⟩:=G;unfold l7 at an;split at an
  ·rename_i oU d1 d2 r';cases os with
   | nil=>exact an.1.elim
   | cons gh os=>
    cases os with
    | nil=>exact an.1.elim
    | cons kF os=>
     simp only at an;split at an
     ·rename_i res fU;obtain⟨ty,m,x,y,f1,f2,f3,f4,f5,f6,f7,f8,f9,f10,f11,f12,g1,dW,g3⟩:=Td r';have Tg:=hK;have BY:n+1<ops.toList.length:=by
       grind
      rw[List.drop_eq_getElem_cons BY]at Tg;injection Tg with af6 Th
      have af7:n+2<ops.toList.length:=by
       grind
      rw[List.drop_eq_getElem_cons af7]at Th;injection Th with axt af8
      have af9:ops[n+1]?=some gh:=by
       grind
      have axu:ops[n+2]?=some kF:=by
       grind
      have CO:d2<C.nt:=by
       have:=au gh (af6 ▸ List.getElem_mem BY);simp only[k0,Bool.and_eq_true]at this;grind
      rw[M.kv,M.kv]at an;have b6:Region.wanted o (yielded ops a.tmps)=true:=by unfold Region.wanted;rw[g1]
      have cI:∀ a':Act,Region.wanted gh (yielded ops a'.tmps)=true:=λa'=>by unfold Region.wanted;rw[dW]
      have eD:∀ a':Act,Region.wanted kF (yielded ops a'.tmps)=true:=λa'=>by unfold Region.wanted;rw[g3]
      have:=afK (Q:=Q) (K:=λa' w'=>wpOpsIn (dw C.r) 0 C.P ops Q (List.range' (n+3) os.length) a' w') hT f1 f2 f3 f4 f5 f6 f7 f8 f9 f10 f11 f12 (a6 d1 f2) CO fU eC an.1 an.2.1
       λa' w' aW=>Tf os.length (by grind) os rfl (n+3) [] _ a' w' af8 (λp hp=>by cases hp) aW an.2.2
      rw[b6];simp only[if_true];refine Oper.wpIn_mono (λbV axv h1=>?_) this;simp only[List.length_cons,List.range'_succ,wpOpsIn,af9,cI,if_true];grind
     ·exact an.1.elim
  split at an
  ·exact an.1.elim
  ·rename_i aA;have axw:o.guard=none:=by
    cases h:o.guard with
    | none=>rfl
    | some p=>
     rw[h]at aA;simp only[kl]at aA;grind
   rw[LQ eC aA];simp only[Option.getD_none,if_true];split at an
   ·rename_i res fU;rw[r_ λab=>(Gl xv (gk:=none) (λk ao=>by cases ao) ab).run s.ad res fU,r_ λab=>(zm ab).run s.ad res fU]at an;refine Oper.wpIn_mono (λa' w' aW=>aH (n+1) _ _ a' w' hK (xv.gR (λi E=>?_) λd k _ ao=>by grind) aW an.2.2) (w2 hT cd xw fU a w κ F Q eC an.1 an.2.1);unfold ay.hR;rw[ay.CN E,ay.zp]
   ·split at an
    ·rename_i pr og;obtain⟨jw,pS,l5⟩:=LO hT cd cE a6 og;rw[r_ λab=>l5 (Ky ab),M.fJ]at an;exact jw a w Q _ ⟨κ,F,eC⟩ an.1 (an.2.mono λy aM a' w' aW=>aH (n+1) _ _ a' w' hK (λp hp=>by cases hp) aW aM)
    ·exact an.1.elim
  ·rename_i g aA;have Gm:∀ k,o.guard=some k->g=true->kl s.ax ops (some k)=some (some true):=λk ao aG=>by grind
   rw[LQ eC aA];simp only[Option.getD_some];split at an
   ·rename_i bU c af_ af' fU;split at an
    ·rename_i hk eM xx;obtain⟨aga,agb⟩:=afX xx fU;rw[r_ λab=>by
      simp only[Bool.and_eq_true]at ab;exact λGn=>⟨(Gl xv (λk ao=>Gm k ao Gn) ab.1).run s.ad _ fU,(zm ab.2.1).run s.ad _ fU,af2 xv (λk ao=>Gm k ao Gn) xx fU ab.2.2⟩]at an
     have CP:p3 ops ((s.fK hk).set o.dst (.hi g (use eM).2)) (xd ops tg o):=xv.gR (λi E=>by rw[ay.CN E,ay.zp]) λd k au ao=>⟨g,(use eM).2,by rw[au,ay.LS],by grind⟩
     cases g with
     | true=>
      simp only[if_true];obtain⟨h1,h2,h3⟩:=an.1 rfl;refine Oper.wpIn_mono (λa' w' aW=>aH (n+1) _ _ a' w' hK CP (b9.Lo (av':=.hi true (use eM).2) (aga a' w' aW) a6 λκ F v hv=>⟨λ_=>oQ hv h3,λh=>(by cases h)⟩) an.2) (w2 hT cd xw fU a w κ F Q eC h1 h2)
     | false=>
      simp only[Bool.false_eq_true,if_false];refine⟨λ_ _=>trivial,aH (n+1) _ _ _ w hK CP ?_ an.2⟩;obtain⟨κ',F',agc⟩:=agb a w κ F eC;exact⟨κ',F',agc.set (av:=.hi false (use eM).2) a6 ⟨λh=>(by cases h),λ_=>rfl⟩⟩
    ·cases g with
     | true=>
      simp only[if_true]at an ⊢;rw[M.kv,M.kv]at an;exact Oper.wpIn_mono (λa' w' aW=>aH (n+1) _ _ a' w' hK (λp hp=>by cases hp) aW an.2.2) (w2 hT cd xw fU a w κ F Q eC an.1 an.2.1)
     | false=>
      simp only[Bool.false_eq_true,if_false]at an ⊢;exact⟨λ_ _=>trivial,aH (n+1) _ _ _ w hK (λp hp=>by cases hp) ⟨κ,F,eC.set (av:=.hi false (Su af' (use af_).2)) a6 ⟨λh=>(by cases h),λ_=>rfl⟩⟩ an⟩
   ·split at an
    ·rename_i pr og;obtain⟨jw,pS,l5⟩:=LO hT cd cE a6 og;split at an
     ·rename_i gs oe;obtain⟨c7,q2⟩:=pS gs oe;rw[r_ λab Gn=>l5 (Tb xv (λk ao=>Gm k ao Gn) ab),M.fJ]at an;have CP:∀ y,p3 ops (gs g y) (xd ops tg o):=λy=>by
       obtain⟨v,hv⟩:=af3 og oe g y;exact xv.gR (λi E=>by rw[hv,ay.CN E]) λd k au ao=>⟨g,v,by rw[hv,au,ay.LS],by grind⟩
      cases g with
      | true=>
       simp only[if_true];exact jw a w Q _ ⟨κ,F,eC⟩ (an.1 rfl) (an.2.mono λy aM a' w' aW=>aH (n+1) _ _ a' w' hK (CP y) (c7 y a' w' aW) aM)
      | false=>
       simp only[Bool.false_eq_true,if_false];exact⟨λ_ _=>trivial,aH (n+1) _ _ _ w hK (CP pr.d) (q2 a w ⟨κ,F,eC⟩) (by
        have h:=an.2;simp only[b1,Bool.false_eq_true,if_false]at h;exact h.2 pr.d rfl)⟩
     ·cases g with
      | true=>
       simp only[if_true]at an ⊢;rw[M.kv,M.fJ]at an;exact jw a w Q _ ⟨κ,F,eC⟩ an.1 (an.2.mono λy aM a' w' aW=>aH (n+1) _ _ a' w' hK (λp hp=>by cases hp) aW aM)
      | false=>
       simp only[Bool.false_eq_true,if_false]at an ⊢;exact⟨λ_ _=>trivial,aH (n+1) _ _ _ w hK (λp hp=>by cases hp) ⟨κ,F,eC.set (av:=.hi false (use ((pr.st pr.d).ax (o.dst.getD 0))).2) a6 ⟨λh=>(by cases h),λ_=>rfl⟩⟩ an⟩
    ·exact an.1.elim
end
end Go.Fer
namespace Go.Fer
open Go.RowKit
section
variable {C:bS} {T:Nat->af} {a1:Nat->Option aJ} {s:ay} {res:d'}
theorem agd{P:Program}:∀ (t:af),t.kA=true->∀ {F F':Nat->Prop} {w w':World} {cs:List Value} {x:t.ah},bt P t F w cs x->bt P t F' w' cs x:=by
 intro t;induction t with
 | bool=>intro _ F F' w w' cs x h;exact h
 | int k=>intro _ F F' w w' cs x h;exact h
 | str=>intro _ F F' w w' cs x h;exact h
 | cz=>intro hc;cases hc
 | st t aH=>intro hc F F' w w' cs x h;simp only[bt]at h ⊢;exact aH hc h
 | aw a b fe ej=>
  intro hc F F' w w' cs x h;simp only[af.kA,Bool.and_eq_true]at hc;simp only[bt]at h ⊢;grind
 | slice e aH=>intro hc;cases hc
 | array n e aH=>intro hc;cases hc
 | bq e aH=>intro hc;cases hc
 | map k v wz wA=>intro hc;cases hc
 | fn a b fe ej=>intro hc;cases hc
 | b8 a aH=>intro hc;cases hc
 | dT=>intro hc;cases hc
theorem Ti{P:Program}{t:af}(h:t.kA=true){F F':Nat->Prop}{w w':World}{v:Value}{x:t.ah}(hv:dU P t F w v x):dU P t F' w' v x:=⟨hv.1,agd t h hv.2⟩
theorem Gp(a:Act){i j:Nat}(h:i≠j)(v u:Value):(a.put (some i) v).put (some j) u=(a.put (some j) u).put (some i) v:=by
 simp only[Act.put];rw[Array.setIfInBounds_comm _ _ h]
theorem Gq{P:Program}{ty kZ zf:TypeId}(E:P.underlying ty=some (.map kZ zf)){r:Nat}{ms:Array MapEntry}{clk:Nat}{w:World}(hw:w.heap[r]?=some (.map ms clk)){key u:Value}{f:Option (Nat×Value)}
  (dG:(Instr.checkKey ms.isEmpty 10000 kZ key).run P w=.ok () w) (ar:(Instr.findKey kZ key ms.toList).run P w=.ok f w) (hu:(∃ i,f=some (i,u))\/(f=none/\(zeroValue zf).run P w=.ok u w)) :
  (Instr.lookup ty (.map (some r)) key false).run P w=.ok u w:=by
 have eB:(getObj r).run P w=.ok (.map ms clk) w:=by simp[getObj,Sem.run,hw]
 rcases hu with⟨i,rfl⟩ | ⟨rfl,bb⟩
 ·simp only[Instr.lookup,Sem.run_bind,di E,Result.andThen_ok,Sem.run_pure,eB,dG,ar];rfl
 ·simp only[Instr.lookup,Sem.run_bind,di E,Result.andThen_ok,Sem.run_pure,eB,dG,ar,bb];rfl
theorem age(hT:dx C.P T){gj ho oU:Oper}{ty:TypeId}{m x y:Operand}(iy:gj.op=.lookup ty m x false)(j1:ho.op=.mapEntry ty m x)(hW:oU.op=.mapUpdate ty m x y){ds:ay}(qK:ds.ad=s.ad)
  (o8:aT C.aK ds.ax m=aT C.aK s.ax m) (Fj:aT C.aK ds.ax x=aT C.aK s.ax x) (h:(bh C.aK T a1 (aT C.aK ds.ax) oU).run ds.ad=some res)
  {a:Act} {w:World} {κ:Nat->bo} {F:Nat->Prop} (G:bc C s a w κ F) (LW:(use (aT C.aK s.ax m)).1) (LX:(use (aT C.aK s.ax x)).1) :
  ∃ u n wE,∀ a':Act,a'.eval m=a.eval m->a'.eval x=a.eval x->
   (execOp a'.eval gj).run C.P w=.ok (.value u) w/\(execOp a'.eval gj).run C.P wE=.ok (.value u) wE/\(execOp a'.eval ho).run C.P w=.ok (.value (.tuple #[u,goInt n])) wE:=by
 simp only[bh,hW,qD,o8,Fj,qK]at h;split at h
 ·rename_i k v aG;obtain⟨kZ,zf,E,mC,gP⟩:=(hT.bO aG (by simp)).mp;obtain⟨inf,l8,i1,i2,i3,i4,i5,i6⟩:=kh gP.kg;split at h
  ·rename_i xr;split at h
   ·rename_i b g tw;simp only[aq.eJ,Option.bind_eq_some_iff,aq.run_bind,aq.eI,aq.bx]at h;obtain⟨⟨dn,n2⟩,hx,⟨mD,n3⟩,aM,h⟩:=h;split at h
    ·rename_i aA;obtain⟨aA,_⟩:=aA;split at h
     ·rename_i k' hO es ab;simp only[Option.map_eq_some_iff]at h;obtain⟨RT,oT,rfl⟩:=h;obtain⟨e,rfl⟩:=ky oT;cases e;have an:bl C.P s.ad κ F w (use (aT C.aK s.ax m)).2 (a.eval m):=cv G m rfl LW;rw[tw]at an;have kE:=an.2 aA.symm (by rw[ab];rfl);have eX:k.kA=true/\k.jV<=100:=by simpa [tf]using xr
      have tx:=BQ G hx (cv G x rfl LX);have Gr:∀ (F':Nat->Prop) w',dU C.P k F' w' (a.eval x) dn:=λF' w'=>Ti eX.1 tx;have aN:=G.bp b;unfold cg at aN;rw[ab]at aN;obtain⟨ms,clk,hw,tz⟩:=aN;have dG:∀ em w',(Instr.checkKey em 10000 kZ (a.eval x)).run C.P w'=.ok () w':=λem w'=>(Ca (em:=em) (F:=λ_=>True) k 10000 eX.1 (by omega)).1 mC (Gr _ w');have Tj:=tz.es;have Ta:∀ (j:Nat) (e:MapEntry) (p:k.ah×v.ah),ms.toList[j]?=some e->es[j]?=some p->∀ (F':Nat->Prop) w',dU C.P k F' w' e.key p.1:=λj e p h1 h2 F' w'=>Ti eX.1 (Tj.2 j e p h1 h2).1;obtain⟨f,c7,q2⟩:=wW (F:=λ_=>True) (w:=w) (β:=v.ah) (xs:=es) (es:=ms.toList) xr mC (Gr _ w) Tj.1 (λj e p h1 h2=>Ta j e p h1 h2 _ w);have eB:(getObj (κ b).ad).run C.P w=.ok (.map ms clk) w:=by simp[getObj,Sem.run,hw]
      obtain⟨g_,Kk,Fp,RU⟩:=tz;have b4:(κ b).ad<w.heap.size:=(Array.getElem?_eq_some_iff.1 hw).1;have bb:∀ w',(zeroValue zf).run C.P w'=.ok l8 w':=λw'=>qE i1 i4;have o9:∀ (a':Act) (w':World) (u:Value),a'.eval m=a.eval m->a'.eval x=a.eval x->(Instr.lookup ty (.map (some (κ b).ad)) (a.eval x) false).run C.P w'=.ok u w'->(execOp a'.eval gj).run C.P w'=.ok (.value u) w':=by
       intro a' w' u e1 e2 aW;simp only[execOp,iy,e1,e2,kE,Sem.run_bind,aW,Result.andThen_ok,Sem.run_pure]
      have agf:∀ q:k.ah,gr k dn q=true<->dn=q:=λq=>Kg k eX.1 dn q;rcases q2 with⟨rfl,ea⟩ | ⟨j,e,p,g1,dW,g3,g4,rfl⟩
      ·let b6:World:={ w with heap:=w.heap.setIfInBounds (κ b).ad (.map (ms.push { key:=a.eval x,val:=l8,born:=clk }) (clk+1)) }
       have lB:b6.heap[(κ b).ad]?=some (.map (ms.push { key:=a.eval x,val:=l8,born:=clk }) (clk+1)):=by grind
       obtain⟨im,bR,cp⟩:=wW (F:=λ_=>True) (w:=b6) (β:=v.ah) (xs:=es++[(dn,v.cO)]) (es:=(ms.push { key:=a.eval x,val:=l8,born:=clk }).toList) xr mC (Gr _ b6) (by grind) (λj e p h1 h2=>by
        grind)
       have q1:∃ i,im=some (i,l8):=by
        rcases cp with⟨_,dX⟩ | ⟨j,e,p,eg,ds,ei,oi,rfl⟩
        ·have:=dX (dn,v.cO) (by simp);grind
        ·by_cases aC:j<es.length
         ·grind
         grind
       refine⟨l8,clk,b6,λa' e1 e2=>⟨o9 a' w l8 e1 e2 (Gq E hw (dG _ w) c7 (.inr ⟨rfl,bb w⟩)),o9 a' b6 l8 e1 e2 (Gq E lB (dG _ b6) bR (.inl q1)),?_⟩⟩;simp only[execOp,j1,e1,e2,kE,Instr.mapEntry,Sem.run_bind,di E,Result.andThen_ok,eB,dG,c7,bb,rW hw,Sem.run_pure];rfl
      ·have aC:j<es.length:=(List.getElem?_eq_some_iff.1 dW).1;have wX:j<ms.size:=by omega
       have Km:ms[j]=e:=by
        grind
       obtain⟨jc,b6,t1,t2,t3⟩:=Ki C.P w e.key (a.eval x);have lB:b6.heap[(κ b).ad]?=some (.map ms clk):=by rcases t3 with rfl | rfl<;>exact hw
       have S8:(κ b).ad<b6.heap.size:=(Array.getElem?_eq_some_iff.1 lB).1;have nz:((ms[j]?).map (·.key)).getD (a.eval x)=e.key:=by
        grind
       have LN:((ms[j]?).map (λx=>(x.born:Int))).getD 0=(ms[j].born:Int):=by grind
       rw[Nat.zero_add]at c7;have adU:dn=p.1:=(agf p.1).1 g3;let cI:World:={ b6 with heap:=b6.heap.setIfInBounds (κ b).ad (.map (ms.modify j λe=>{ e with key:=jc }) clk) }
       have gl:cI.heap[(κ b).ad]?=some (.map (ms.modify j λe=>{ e with key:=jc }) clk):=by grind
       have uW:∀ (F':Nat->Prop) w',dU C.P k F' w' jc p.1:=λF' w'=>by
        grind
       have zc:∀ i,(ms.modify j λe=>{ e with key:=jc }).toList[i]?=if i=j then some { e with key:=jc } else ms.toList[i]?:=λi=>by
        grind
       obtain⟨im,bR,cp⟩:=wW (F:=λ_=>True) (w:=cI) (β:=v.ah) (xs:=es) (es:=(ms.modify j λe=>{ e with key:=jc }).toList) xr mC (Gr _ cI) (by grind) (λi aS p' h1 h2=>by
        rw[zc]at h1;grind)
       have q1:∃ i,im=some (i,e.val):=by
        rcases cp with⟨_,dX⟩ | ⟨i,aS,p',eg,ds,ei,oi,rfl⟩
        ·have:=dX p (List.mem_of_getElem? dW);rw[g3]at this;cases this
        ·have zg:i=j:=by
          rcases Nat.lt_trichotomy i j with h | h | h
          ·have:=g4 i p' h ds;rw[ei]at this;cases this
          ·exact h
          ·have:=oi j p h dW;rw[g3]at this;cases this
         subst zg;rw[zc,if_pos rfl]at eg;cases eg;exact⟨_,rfl⟩
       refine⟨e.val,ms[j].born,cI,λa' e1 e2=>⟨o9 a' w e.val e1 e2 (Gq E hw (dG _ w) c7 (.inl ⟨_,rfl⟩)),o9 a' cI e.val e1 e2 (Gq E gl (dG _ cI) bR (.inl q1)),?_⟩⟩;simp only[execOp,j1,e1,e2,kE,Instr.mapEntry,Sem.run_bind,di E,Result.andThen_ok,eB,dG,c7];rw[nz,t1];simp only[Result.andThen_ok,rW lB,Sem.run_pure,LN];rfl
     grind
    grind
   ·cases h
  ·cases h
 ·cases h
end
end Go.Fer
namespace Go.Fer
open Go.RowKit
section
variable {C:bS} {T:Nat->af} {a1:Nat->Option aJ} {Ψ:Nat->Option eK} {s:ay} {o:Oper} {Q:Exit->Act->World->Prop} {ops:Array Oper}
theorem M.agh{aj:Type}{m:M aj}(h:m.Cn){d x:aj}(hx:m.bC x):x=m.val d:=by
 unfold M.val;have he:∃ x,m.bC x:=⟨x,hx⟩
 rw[dif_pos he];exact h _ _ hx he.choose_spec
theorem Tk(cd:ja C.P a1)(cE:lF C.P C.aK Ψ):ja C.P (FM a1 Ψ):=by
 intro k c h;unfold FM at h;split at h
 ·rename_i c8 LP;split at h
  ·rename_i au;cases h;simp only[Bool.and_eq_true,Bool.not_eq_true']at au;have h:=cE k _ LP;obtain⟨h1,h2⟩:hN C.P k c8.ts c8.tr c8.sh/\(c8.dv=true->∀ x,(c8.sh x).Cn):=h;exact⟨λ_=>h1.yR λx hs=>⟨hs,λy aM=>M.agh (h2 au.1 x) aM⟩,λhe=>by rw[show nu c8.fc.tr=nu c8.tr from rfl,au.2]at he;cases he⟩
  grind
 ·rename_i c' hc;cases h;have h:nu c.tr=true/\B9 C.P k c:=cE k _ hc;exact⟨λhe=>(by rw[h.1]at he;cases he),λ_=>h.2⟩
 ·cases h
 ·exact cd k c h
theorem Tl{β:Type}{m:M β}{O:β->Prop}:∀ (l:List Prop),M.b_ (Cv l m) O->(∀ p∈l,p)/\M.b_ m O:=by
 intro l;induction l with
 | nil=>intro h;exact⟨λp hp=>(by cases hp),h⟩
 | cons p l aH=>
  intro h;simp only[Cv]at h;rw[M.kv]at h;grind
theorem Tm{c7 q2:Bool}{bU c:Prop}(h1:c7=true->bU)(h2:q2=true->c)(h:∀ p∈Ch c7 q2 bU c,p):bU/\c:=by
 unfold Ch at h;constructor
 ·cases c7 with
  | true=>grind
  | false=>simp_all
 ·cases q2 with
  | true=>grind
  | false=>simp_all
theorem Tn(hT:dx C.P T)(cd:ja C.P a1)(au:k0 o C.nt=true){r:et}(h:u6 C.aK T a1 ops s o=some r)(hc:∀ p∈r.cs,p){a:Act}{w:World}(G:b9 C s a w){K:Act->World->Prop}
  (ix:∀ a' w',b9 C (r.hS s) a' w'->K a' w') :
  if Region.wanted o (yielded ops a.tmps) then o.wpIn (dw C.r) 0 C.P a w K Q else (∀ f,o.about C.P w a.eval=some f->(dw C.r).fn f)/\K (a.put o.dst undef) w:=by
 have a6:∀ i,o.dst=some i->i<C.nt:=λi E=>by
  have:=au;simp only[k0,Bool.and_eq_true]at this;grind
 obtain⟨κ,F,eC⟩:=G;unfold u6 at h;split at h
 ·cases h
 ·rename_i g aA;rw[LQ eC aA];split at h
  ·cases h
  ·rename_i res fU;split at h
   ·cases h;simp only[Option.getD_none,if_true];obtain⟨h1,h2⟩:=Tm (λab=>(R_ ab).run s.ad res fU) (λab=>(zm ab).run s.ad res fU) hc;exact Oper.wpIn_mono ix (w2 hT cd au fU a w κ F Q eC h1 h2)
   ·rename_i b;split at h
    ·rename_i xx;cases h;have hc:∀ p∈Ch (rY (aT C.aK s.ax) o&&(mH (aT C.aK s.ax) o&&!res.eM.zl)) true (b=true->res.bU/\(res.c/\(use res.eM).1)) True,p:=hc;obtain⟨h1,_⟩:=Tm (λab=>by
      simp only[Bool.and_eq_true,Bool.not_eq_true']at ab;exact λ_=>⟨(R_ ab.1).run s.ad _ fU,(zm ab.2.1).run s.ad _ fU,Fx ab.2.2⟩) (λ_=>trivial) hc
     obtain⟨bU,c,eM,hk⟩:=res;simp only at xx;subst xx;cases b with
     | true=>
      simp only[Option.getD_some,if_true];obtain⟨h1,h2,h3⟩:=h1 rfl;refine Oper.wpIn_mono (λa' w' aW=>ix a' w' ?_) (w2 hT cd au fU a w κ F Q eC h1 h2);exact b9.Lo (av':=.hi true (use eM).2) aW a6 λκ F v hv=>⟨λ_=>oQ hv h3,λh=>(by cases h)⟩
     | false=>
      simp only[Option.getD_some,Bool.false_eq_true,if_false];exact⟨λ_ _=>trivial,ix _ _ ⟨κ,F,eC.set (av:=.hi false (use eM).2) a6 ⟨λh=>(by cases h),λ_=>rfl⟩⟩⟩
    grind
theorem To(cl:List (List Nat)):∀ n,zx cl n<=n/\∀ j,zx cl n<=j->j<n->∀ i,i<j->i∈cl.getD j []
 | 0=>⟨Nat.le_refl _,λj _ h=>by omega⟩
 | n+1=>by
  unfold zx;split
  ·rename_i h;obtain⟨h1,h2⟩:=To cl n;refine⟨by omega,λj aC LY i E=>?_⟩;by_cases e:j=n
   ·simp_all
   grind
  grind
theorem agi{n:Nat}(q4:Ck ops.toList=true)(agj:∀ j,n<=j->j<ops.size->∀ i,i<j->i∈(h7 ops.toList).getD j []):∀ (k j b3:Nat) (listed:Array Bool) (a:Act) (w:World),n<=j->j+k=ops.size->listed.size=ops.size->
  (∀ i,listed.getD i false=decide (i<j))->k<=b3->wpOpsIn (dw C.r) 0 C.P ops Q (List.range' j k) a w->wpAnyIn (dw C.r) 0 C.P .any ops Q b3 listed a w:=by
 intro k;induction k with
 | zero=>
  intro j b3 listed a w agk agl bW ai ar h;have G:∀ i,i ∉ Region.ready .any ops listed:=λi E=>by
   rw[mem_ready]at E;grind
  have iz:Region.ready .any ops listed=[]:=List.eq_nil_iff_forall_not_mem.2 G;cases b3 with
  | zero=>exact⟨iz,h⟩
  | succ b3=>exact⟨λ_=>h,λi E=>absurd E (G i)⟩
 | succ k aH=>
  intro j b3 listed a w agk agl bW ai ar h;have aC:j<ops.size:=by omega
  cases b3 with
  | zero=>omega
  | succ b3=>
   have p4:∀ q o,ops[q]?=some o->listed.getD q false=true->∀ i∈hU o,listed.getD i false=true:=λq o ag bf i E=>by
    rw[ai]at bf ⊢;have bf:q<j:=by grind
    have:=List.all_eq_true.1 q4 q (by grind);grind
   have agm:∀ i,i∈Region.ready .any ops listed<->i=j:=λi=>by
    constructor
    ·intro E;rw[mem_ready]at E;obtain⟨h0,o,ag,Gs⟩:=E;have hin:i<ops.size:=(Array.getElem?_eq_some_iff.1 ag).1;have CQ:listed.getD i false=false:=by
      grind
     rw[ai]at CQ;have Ft:j<=i:=by grind
     by_cases e:i=j
     ·exact e
     ·exfalso;have sa:∀ k∈hU o,listed.getD k false=true:=by
       intro k ao;obtain⟨e,he,vg⟩:=List.mem_filterMap.1 ao;grind
      have CR:∀ k∈(h7 ops.toList).getD i [],listed.getD k false=true\/k=i:=by
       intro k ao;refine w7 (p:=λj=>listed.getD j false=true\/j=i) ops.toList [] (λj i E=>by grind) (λj hF j3 k ao aC=>?_) i k ao (.inr rfl);have k4:ops[j]?=some hF:=by grind
       rcases (by simp_all:listed.getD j false=true\/j=i) with aC | aC
       ·exact .inl (p4 j hF k4 aC k ao)
       ·subst aC;rw[ag]at k4;cases k4;exact .inl (sa k ao)
      grind
    ·rintro rfl;rw[mem_ready];refine⟨?_,ops[i],by simp,λe he ab=>?_⟩
     ·grind
     ·have hin:e.on∈hU ops[i]:=List.mem_filterMap.2 ⟨e,by grind,by grind⟩;have:=List.all_eq_true.1 q4 i (by grind);grind
   refine⟨λG=>?_,λi E=>?_⟩
   ·simp_all
   ·obtain rfl:=(agm i).1 E;have eB:ops[i]?=some ops[i]:=by simp
    rw[List.range'_succ]at h;simp only[wpOpsIn,eB]at h;have next:∀ a w,wpOpsIn (dw C.r) 0 C.P ops Q (List.range' (i+1) k) a w->wpAnyIn (dw C.r) 0 C.P .any ops Q b3 (listed.setIfInBounds i true) a w:=λa w cA=>by
     refine aH (i+1) b3 _ a w (by omega) (by omega) (by grind) (λq=>?_) (by omega) cA;by_cases e:q=i
     ·simp_all
     ·rw[getD_set_ne false (Ne.symm e),ai,decide_eq_decide];omega
    unfold wpOpIn;rw[eB];simp only;split
    ·rename_i hw;rw[if_pos hw]at h;exact Oper.wpIn_mono next h
    grind
theorem agn(hT:dx C.P T)(cd:ja C.P a1)(au:∀ o∈ops.toList,k0 o C.nt=true){l:List et}{s':ay}(hs:w3 C.aK T a1 ops ops.toList s=some (l,s'))(cq:zo ops.toList l=true)
  (hc:∀ r∈l,∀ p∈r.cs,p) (tO:∀ a' w',b9 C s' a' w'->Q .normal a' w'):∀ (b3:Nat) (listed:Array Bool) (a:Act) (w:World),listed.size=ops.size->
   (∀ j o,ops[j]?=some o->listed.getD j false=true->∀ i∈hU o,listed.getD i false=true)->((List.range ops.size).filter λj=>!listed.getD j false).length<=b3->
   b9 C (jf l s λj=>listed.getD j false) a w->wpAnyIn (dw C.r) 0 C.P .any ops Q b3 listed a w:=by
 obtain⟨hlen,rR,CS⟩:=Sf _ _ hs;simp only[zo,Bool.and_eq_true]at cq;obtain⟨q4,LZ⟩:=cq;have ago:∀ j o,ops[j]?=some o->∀ i∈hU o,i<j:=by
  intro j o ag i E;have aC:j<ops.toList.length:=by
   grind
  have:=List.all_eq_true.1 q4 j (by grind);grind
 have agp:∀ i j x y,i<j->l[i]?=some x->l[j]?=some y->((h7 ops.toList).getD j []).contains i=true\/x.apart y=true:=by
  intro i j x y zg E aC;have zJ:j<l.length:=(List.getElem?_eq_some_iff.1 aC).1;have:=List.all_eq_true.1 LZ j (by grind);grind
 have CT:∀ listed:Array Bool,listed.size=ops.size->Region.ready .any ops listed=[]->∀ j,j<ops.size->listed.getD j false=true:=by
  intro listed bW G j;induction j using Nat.strongRecOn with
  | _ j aH=>
   intro aC;cases ai:listed.getD j false with
   | true=>rfl
   | false=>
    exfalso;have jB:j∈Region.ready .any ops listed:=by
     rw[mem_ready];refine⟨?_,ops[j],by simp,λe he ab=>?_⟩
     ·grind
     ·have hin:e.on∈hU ops[j]:=List.mem_filterMap.2 ⟨e,by grind,by grind⟩;grind
    grind
 have nH:∀ (listed:Array Bool) (a:Act) (w:World),listed.size=ops.size->Region.ready .any ops listed=[]->b9 C (jf l s λj=>listed.getD j false) a w->Q .normal a w:=by
  intro listed a w bW G j0;have fo:=CT listed bW G;refine tO a w ?_;have:jf l s (λj=>listed.getD j false)=s':=by
   rw[rR];unfold jf;rw[List.filter_eq_self.2 λp hp=>?_,Cl];obtain⟨_,h2⟩:=zq hp;grind
  grind
 intro b3;induction b3 with
 | zero=>
  intro listed a w bW _ L0 j0;have G:Region.ready .any ops listed=[]:=by
   cases G:Region.ready .any ops listed with
   | nil=>rfl
   | cons j axx=>
    exfalso;have jB:j∈Region.ready .any ops listed:=by grind
    rw[mem_ready]at jB;obtain⟨h0,o,ag,_⟩:=jB;have aC:=(Array.getElem?_eq_some_iff.1 ag).1;have:j∈(List.range ops.size).filter λj=>!listed.getD j false:=by
     grind
    grind
  exact⟨G,nH listed a w bW G j0⟩
 | succ b3 aH=>
  intro listed a w bW p4 L0 j0;refine⟨λG=>nH listed a w bW G j0,λi E=>?_⟩;rw[mem_ready]at E;obtain⟨h0,o,ag,Gs⟩:=E;have hin:i<ops.size:=(Array.getElem?_eq_some_iff.1 ag).1;have CQ:listed.getD i false=false:=by
   grind
  have jB:o∈ops.toList:=by
   grind
  have sa:∀ k∈hU o,listed.getD k false=true:=by
   intro k ao;obtain⟨e,he,vg⟩:=List.mem_filterMap.1 ao;grind
  obtain⟨r,G,fX⟩:=CS i o (by grind);have agq:∀ j k,k∈(h7 ops.toList).getD j []->listed.getD j false=true->listed.getD k false=true:=by
   refine w7 (p:=λj=>listed.getD j false=true) ops.toList [] (λj i E=>by grind) λj hF j3 k ao aC=>?_;exact p4 j hF (by grind) (by simpa using aC) k ao
  have CR:∀ k∈(h7 ops.toList).getD i [],listed.getD k false=true\/k=i:=by
   intro k ao;refine w7 (p:=λj=>listed.getD j false=true\/j=i) ops.toList [] (λj i E=>by grind) (λj hF j3 k ao aC=>?_) i k ao (.inr rfl);have k4:ops[j]?=some hF:=by grind
   rcases (by simpa using aC:listed.getD j false=true\/j=i) with aC | aC
   ·exact .inl (p4 j hF k4 aC k ao)
   ·subst aC;rw[ag]at k4;cases k4;exact .inl (sa k ao)
  have gw:∀ j x,j<i->l[j]?=some x->listed.getD j false=false->x.apart r=true:=by
   grind
  have tF:∀ j x,i<j->l[j]?=some x->listed.getD j false=true->r.apart x=true:=by
   grind
  obtain⟨aO,aP,bA⟩:=Sc (s:=s) (f:=λj=>listed.getD j false) G CQ gw tF;have L1:=Sg fX aO aP;unfold wpOpIn;rw[ag];refine Tn hT cd (au o jB) L1 (hc r (List.mem_of_getElem? G)) j0 λa' w' aW=>?_;have eB:∀ j,(listed.setIfInBounds i true).getD j false=if j=i then true else listed.getD j false:=by
   intro j;by_cases e:j=i
   ·subst e;rw[if_pos rfl,Array.getD_eq_getD_getElem?,Array.getElem?_setIfInBounds_self_of_lt (by omega)];rfl
   ·rw[if_neg e,getD_set_ne false (Ne.symm e)]
  refine aH _ a' w' (by grind) (λj hF j3 aC k ao=>?_) ?_ ?_
  ·rw[eB]at aC ⊢;split
   ·rfl
   ·split at aC
    ·rename_i e;subst e;rw[ag]at j3;cases j3;exact sa k ao
    ·exact p4 j hF j3 aC k ao
  ·have b4:((List.range ops.size).filter λj=>!(listed.setIfInBounds i true).getD j false).length<((List.range ops.size).filter λj=>!listed.getD j false).length:=by
    have e1:(List.range ops.size).filter (λj=>!(listed.setIfInBounds i true).getD j false)=((List.range ops.size).filter λj=>!listed.getD j false).filter λj=>decide (j≠i):=by
     rw[List.filter_filter];apply List.filter_congr;intro j _;rw[eB];simp
    rw[e1];have L2:i∈(List.range ops.size).filter λj=>!listed.getD j false:=by
     grind
    exact List.length_filter_lt_length_iff_exists.2 ⟨i,L2,by simp⟩
   omega
  ·have:jf l s (λj=>(listed.setIfInBounds i true).getD j false)=r.hS (jf l s λj=>listed.getD j false):=by
    rw[<-bA];congr 1;funext j;grind
   grind
def Gt(n:Nat)(l b e x:Bool)(listed:Array Bool):Prop:=∀ i,listed.getD i false=(decide (i<n)||(l&&decide (i=n))||(b&&decide (i=n+1))||(e&&decide (i=n+2))||(x&&decide (i=n+3)))
def l_(a:Act)(dI fr d1 d2:Nat)(u vB vE vX:Value)(l b e x:Bool):Act:=
 let bV:=if l=true then a.put (some dI) u else a
 let a2:=if b=true then bV.put (some fr) vB else bV
 let a3:=if e=true then a2.put (some d1) vE else a2
 if x=true then a3.put (some d2) vX else a3
theorem agr(a:Act)(d:Option Nat)(v:Value):(a.put d v).tmps.size=a.tmps.size:=by cases d<;>simp[Act.put]
theorem ags(a:Act)(dI fr d1 d2:Nat)(u vB vE vX:Value)(l b e x:Bool):(l_ a dI fr d1 d2 u vB vE vX l b e x).tmps.size=a.tmps.size:=by
 unfold l_;cases l<;>cases b<;>cases e<;>cases x<;>simp[agr]
theorem Tp{a:Act}{dI fr d1 d2:Nat}{u vB vE vX:Value}{l b e x:Bool}{y:Operand}(h1:y≠.tmp dI)(h2:y≠.tmp fr)(h3:y≠.tmp d1)(aR:y≠.tmp d2):(l_ a dI fr d1 d2 u vB vE vX l b e x).eval y=a.eval y:=by
 unfold l_;cases l<;>cases b<;>cases e<;>cases x<;>simp[zH,h1,h2,h3,aR]
theorem CU{o:Oper}{a:Act}{w w':World}{K:Act->World->Prop}{v:Value}(au:∀ c,o.op≠.defer c)(h:(execOp a.eval o).run C.P w=.ok (.value v) w')(ao:o.wpIn (dw C.r) 0 C.P a w K Q):K (a.put o.dst v) w':=by
 have:=ao.2;rw[y1 au,h]at this;exact this
theorem agt{n:Nat}(Tq:ops.size=n+5)(q4:Ck ops.toList=true){gj h9 ho iu lD:Oper}(xy:ops[n]?=some gj)(vh:ops[n+1]?=some h9)(zK:ops[n+2]?=some ho)(CV:ops[n+3]?=some iu)(CW:ops[n+4]?=some lD)
  (CX:gj.guard=none) (CY:h9.guard=none) (Gu:ho.guard=none) (Gv:iu.guard=none) (Gw:lD.guard=none) (CZ:∀ c,gj.op≠.defer c) (Gx:∀ c,h9.op≠.defer c) (Gy:∀ c,ho.op≠.defer c) (Gz:∀ c,iu.op≠.defer c)
  (gw:∀ q,q<5->∀ i,i<n->i∈(h7 ops.toList).getD (n+q) []) (L3:n∈(h7 ops.toList).getD (n+1) []) (Ts:n+2∈(h7 ops.toList).getD (n+3) []) (zL:∀ q,q<4->n+q∈(h7 ops.toList).getD (n+4) [])
  (Tt:∀ i∈hU ho,i<n) (Tu:∀ i∈hU iu,i<n\/i=n+2)
  {dI fr d1 d2:Nat} (sb:gj.dst=some dI) (cN:h9.dst=some fr) (C0:ho.dst=some d1) (GA:iu.dst=some d2) (_n1:dI≠fr) (dM:dI≠d1) (jv:dI≠d2) (n4:fr≠d1) (C2:fr≠d2)
  {a:Act} {w wE:World} {u vB vE vX:Value}
  (Tv:∀ b e x,(execOp (l_ a dI fr d1 d2 u vB vE vX false b e x).eval gj).run C.P (if e=true then wE else w)=.ok (.value u) (if e=true then wE else w))
  (Tw:∀ e x,(execOp (l_ a dI fr d1 d2 u vB vE vX true false e x).eval h9).run C.P (if e=true then wE else w)=.ok (.value vB) (if e=true then wE else w))
  (Tx:∀ l b x,(execOp (l_ a dI fr d1 d2 u vB vE vX l b false x).eval ho).run C.P w=.ok (.value vE) wE)
  (Ty:∀ l b,(execOp (l_ a dI fr d1 d2 u vB vE vX l b true false).eval iu).run C.P wE=.ok (.value vX) wE)
  (h:wpOpsIn (dw C.r) 0 C.P ops Q (List.range' n 5) a w):∀ (b3:Nat) (listed:Array Bool),listed.size=ops.size->(∀ i,listed.getD i false=decide (i<n))->5<=b3->wpAnyIn (dw C.r) 0 C.P .any ops Q b3 listed a w:=by
 let aI:=l_ a dI fr d1 d2 u vB vE vX;let W:=λe:Bool=>if e=true then wE else w
 have wt:∀ {o:Oper},o.guard=none->∀ a':Act,Region.wanted o (yielded ops a'.tmps)=true:=λh a'=>by unfold Region.wanted;rw[h]
 have GB:lD.wpIn (dw C.r) 0 C.P (aI true true true true) wE (λa' w'=>Q .normal a' w') Q:=by
  have dC:List.range' n 5=[n,n+1,n+2,n+3,n+4]:=rfl;rw[dC]at h;simp only[wpOpsIn,xy,vh,zK,CV,CW,wt CX,wt CY,wt Gu,wt Gv,wt Gw,if_true]at h;have h1:=CU (a:=aI false false false false) (w:=w) CZ (Tv false false false) h;rw[sb]at h1;have h2:=CU (a:=aI true false false false) (w:=w) Gx (Tw false false) h1;rw[cN]at h2;have h3:=CU (a:=aI true true false false) (w:=w) Gy (Tx true true false) h2;rw[C0]at h3;have aR:=CU (a:=aI true true true false) (w:=wE) Gz (Ty true true) h3;rw[GA]at aR;exact aR
 have agu:∀ {l b e x:Bool} {listed:Array Bool},Gt n l b e x listed->(b=true->l=true)->(x=true->e=true)->∀ q o,ops[q]?=some o->listed.getD q false=true->∀ i∈hU o,listed.getD i false=true:=by
  intro l b e x listed bd ab hx q o ag bf i E;have agv:q<ops.size:=(Array.getElem?_eq_some_iff.1 ag).1;have axy:i<q:=by
   have:=List.all_eq_true.1 q4 q (by grind);grind
  rw[bd]at bf ⊢;grind
 have axz:∀ {listed:Array Bool} {i:Nat},listed.size=ops.size->i<ops.size->(listed[i]?.getD true=false<->listed.getD i false=false):=by
  intro listed i bW E;rw[Array.getD_eq_getD_getElem?,Array.getElem?_eq_getElem (by omega)];rfl
 have agw:∀ {l b e x:Bool} {listed:Array Bool},Gt n l b e x listed->(b=true->l=true)->(x=true->e=true)->listed.size=ops.size->∀ i∈Region.ready .any ops listed,(i=n/\l=false)\/(i=n+1/\l=true/\b=false)\/(i=n+2/\e=false)\/(i=n+3/\e=true/\x=false)\/(i=n+4/\l=true/\b=true/\e=true/\x=true):=by
  intro l b e x listed bd ab hx bW i E;have p4:=agu bd ab hx;rw[mem_ready]at E;obtain⟨h0,o,ag,Gs⟩:=E;have hin:i<ops.size:=(Array.getElem?_eq_some_iff.1 ag).1;have h0:listed.getD i false=false:=by
   grind
  have sa:∀ k∈hU o,listed.getD k false=true:=by
   intro k ao;obtain⟨e,he,vg⟩:=List.mem_filterMap.1 ao;split at vg
   ·rename_i ab;cases vg;grind
   grind
  have CR:∀ k∈(h7 ops.toList).getD i [],listed.getD k false=true\/k=i:=by
   intro k ao;refine w7 (p:=λj=>listed.getD j false=true\/j=i) ops.toList [] (λj i E=>by simp at E) (λj hF j3 k ao aC=>?_) i k ao (.inr rfl);have k4:ops[j]?=some hF:=by grind
   rcases (by simpa using aC:listed.getD j false=true\/j=i) with aC | aC
   ·exact .inl (p4 j hF k4 aC k ao)
   ·subst aC;rw[ag]at k4;cases k4;exact .inl (sa k ao)
  rw[bd]at h0;simp only[Bool.or_eq_false_iff,Bool.and_eq_false_iff,decide_eq_false_iff_not]at h0;obtain⟨⟨⟨⟨gS,aO⟩,aP⟩,bA⟩,gi⟩:=h0;have Ft:n<=i:=by omega
  have agx:i=n\/i=n+1\/i=n+2\/i=n+3\/i=n+4:=by omega
  have flag:∀ q,q<4->n+q∈(h7 ops.toList).getD i []->n+q≠i->(if q=0 then l else if q=1 then b else if q=2 then e else x)=true:=by
   intro q bf an ea;rcases CR _ an with h | h
   ·rw[bd]at h;simp only[Bool.or_eq_true,Bool.and_eq_true,decide_eq_true_eq]at h;rcases h with (((h | ⟨h1,h⟩) | ⟨h1,h⟩) | ⟨h1,h⟩) | ⟨h1,h⟩
    ·omega
    ·grind
    ·have:q=1:=by omega
     subst this;exact h1
    ·have:q=2:=by omega
     subst this;exact h1
    ·have:q=3:=by omega
     subst this;exact h1
   omega
  rcases agx with rfl | rfl | rfl | rfl | rfl
  ·grind
  ·exact .inr (.inl ⟨rfl,flag 0 (by omega) L3 (by omega),by grind⟩)
  ·grind
  ·grind
  ·exact .inr (.inr (.inr (.inr ⟨rfl,flag 0 (by omega) (zL 0 (by omega)) (by omega),flag 1 (by omega) (zL 1 (by omega)) (by omega),flag 2 (by omega) (zL 2 (by omega)) (by omega),flag 3 (by omega) (zL 3 (by omega)) (by omega)⟩)))
 have agy:∀ {l b e x:Bool} {listed:Array Bool},Gt n l b e x listed->(b=true->l=true)->(x=true->e=true)->listed.size=ops.size->Region.ready .any ops listed≠[]:=by
  intro l b e x listed bd ab hx bW u2;have mk:∀ i o,ops[i]?=some o->listed.getD i false=false->(∀ k∈hU o,listed.getD k false=true)->False:=by
   intro i o ag h0 au;have hin:i<ops.size:=(Array.getElem?_eq_some_iff.1 ag).1;have:i∈Region.ready .any ops listed:=by
    rw[mem_ready];refine⟨?_,o,ag,λe he ab=>au e.on (List.mem_filterMap.2 ⟨e,by grind,by grind⟩)⟩;grind
   grind
  have lt:∀ q o,ops[q]?=some o->∀ i∈hU o,i<q:=by
   intro q o ag i E;have agv:q<ops.size:=(Array.getElem?_eq_some_iff.1 ag).1;have:=List.all_eq_true.1 q4 q (by grind);rw[show ops.toList[q]?=some o by grind]at this;have:=List.all_eq_true.1 this i E;grind
  cases l with
  | false=>
   have oX:b=false:=by grind
   subst oX;exact mk n gj xy (by rw[bd];simp) λk ao=>by rw[bd];grind
  | true=>
   cases b with
   | false=>exact mk (n+1) h9 vh (by rw[bd];simp) λk ao=>by rw[bd];grind
   | true=>
    cases e with
    | false=>
     have L4:x=false:=by grind
     subst L4;exact mk (n+2) ho zK (by rw[bd];simp) λk ao=>by rw[bd];grind
    | true=>
     cases x with
     | false=>exact mk (n+3) iu CV (by rw[bd];simp) λk ao=>by rw[bd];grind
     | true=>exact mk (n+4) lD CW (by rw[bd];simp) λk ao=>by rw[bd];grind
 have C3:∀ {listed:Array Bool} (i:Nat),listed.size=ops.size->i<ops.size->∀ q,(listed.setIfInBounds i true).getD q false=(listed.getD q false||decide (q=i)):=by
  intro listed i bW E q;by_cases e:q=i
  ·grind
  grind
 let bZ:=λ(l b e x:Bool)=>∀ (b3:Nat) (listed:Array Bool),Gt n l b e x listed->listed.size=ops.size->5<=b3+(l.toNat+b.toNat+e.toNat+x.toNat)->wpAnyIn (dw C.r) 0 C.P .any ops Q b3 listed (aI l b e x) (W e);have step:∀ l b e x,(b=true->l=true)->(x=true->e=true)->(l=false->bZ true b e x)->(l=true->b=false->bZ l true e x)->(e=false->bZ l b true x)->(e=true->x=false->bZ l b e true)->bZ l b e x:=by
  intro l b e x ab hx eg ds ei oi b3 listed bd bW r';have axA:l.toNat<=1/\b.toNat<=1/\e.toNat<=1/\x.toNat<=1:=⟨Bool.toNat_le l,Bool.toNat_le b,Bool.toNat_le e,Bool.toNat_le x⟩
  cases b3 with
  | zero=>omega
  | succ b3=>
   refine⟨λG=>absurd G (agy bd ab hx bW),λi E=>?_⟩;rcases agw bd ab hx bW i E with⟨rfl,h1⟩ | ⟨rfl,h1,h2⟩ | ⟨rfl,h1⟩ | ⟨rfl,h1,h2⟩ | ⟨rfl,h1,h2,h3,aR⟩
   ·subst h1;have oX:b=false:=by grind
    subst oX;unfold wpOpIn;simp only[xy,wt CX,if_true];refine ha CZ (Tv false e x) ?_;rw[sb];have yZ:(aI false false e x).put (some dI) u=aI true false e x:=by
     simp only[aI,l_];cases e<;>cases x<;>simp[Gp _ dM.symm,Gp _ jv.symm]
    show wpAnyIn _ _ _ _ _ _ _ _ ((aI false false e x).put (some dI) u) (W e);rw[yZ];refine eg rfl b3 _ (λq=>?_) (by grind) (by grind);rw[C3 i bW (by omega),bd];by_cases bf:q=i<;>simp[bf]
   ·subst h1;subst h2;unfold wpOpIn;simp only[vh,wt CY,if_true];refine ha Gx (Tw e x) ?_;rw[cN];have yZ:(aI true false e x).put (some fr) vB=aI true true e x:=by
     simp only[aI,l_];cases e<;>cases x<;>simp[Gp _ n4.symm,Gp _ C2.symm]
    show wpAnyIn _ _ _ _ _ _ _ _ ((aI true false e x).put (some fr) vB) (W e);rw[yZ];refine ds rfl rfl b3 _ (λq=>?_) (by grind) (by grind);rw[C3 (n+1) bW (by omega),bd];by_cases bf:q=n+1<;>simp[bf]
   ·subst h1;have L4:x=false:=by grind
    subst L4;unfold wpOpIn;simp only[zK,wt Gu,if_true];refine ha Gy (Tx l b false) ?_;rw[C0];show wpAnyIn _ _ _ _ _ _ _ _ (aI l b true false) (W true);refine ei rfl b3 _ (λq=>?_) (by grind) (by grind);rw[C3 (n+2) bW (by omega),bd];simp
   ·subst h1;subst h2;unfold wpOpIn;simp only[CV,wt Gv,if_true];refine ha Gz (Ty l b) ?_;rw[GA];show wpAnyIn _ _ _ _ _ _ _ _ (aI l b true true) (W true);refine oi rfl rfl b3 _ (λq=>?_) (by grind) (by grind);rw[C3 (n+3) bW (by omega),bd];simp
   ·subst h1;subst h2;subst h3;subst aR;unfold wpOpIn;simp only[CW,wt Gw,if_true];refine Oper.wpIn_mono (λa' w' bf=>?_) GB;have fo:∀ i,(listed.setIfInBounds (n+4) true).getD i false=decide (i<n+5):=λi=>by
     rw[C3 (n+4) bW (by omega),bd,Bool.eq_iff_iff];simp only[Bool.or_eq_true,Bool.and_eq_true,decide_eq_true_eq,true_and];omega
    have G:∀ i,i ∉ Region.ready .any ops (listed.setIfInBounds (n+4) true):=λi E=>by
     rw[mem_ready]at E;obtain⟨h0,o,ag,_⟩:=E;grind
    have iz:Region.ready .any ops (listed.setIfInBounds (n+4) true)=[]:=List.eq_nil_iff_forall_not_mem.2 G;cases b3 with
    | zero=>exact⟨iz,bf⟩
    | succ b3=>exact⟨λ_=>bf,λi E=>absurd E (G i)⟩
 have f:∀ {p:Prop},(true:Bool)=false->p:=λh=>by cases h
 have im:∀ {p:Prop},(false:Bool)=true->p:=λh=>by cases h
 have Tz:bZ true true true true:=step _ _ _ _ (λ_=>rfl) (λ_=>rfl) f (λ_=>f) f (λ_=>f);have TA:bZ true true true false:=step _ _ _ _ (λ_=>rfl) (λ_=>rfl) f (λ_=>f) f (λ_ _=>Tz);have agz:bZ true true false false:=step _ _ _ _ (λ_=>rfl) im f (λ_=>f) (λ_=>TA) im;have TB:bZ true false true true:=step _ _ _ _ (λ_=>rfl) (λ_=>rfl) f (λ_ _=>Tz) f (λ_=>f);have TC:bZ true false true false:=step _ _ _ _ (λ_=>rfl) (λ_=>rfl) f (λ_ _=>TA) f (λ_ _=>TB);have agA:bZ true false false false:=step _ _ _ _ (λ_=>rfl) im f (λ_ _=>agz) (λ_=>TC) im;have agB:bZ false false true true:=step _ _ _ _ im (λ_=>rfl) (λ_=>TB) im f (λ_=>f);have agC:bZ false false true false:=step _ _ _ _ im (λ_=>rfl) (λ_=>TC) im f (λ_ _=>agB);have agD:bZ false false false false:=step _ _ _ _ im im (λ_=>agA) im (λ_=>agC) im;intro b3 listed bW ai r';exact agD b3 listed (λi=>by grind) bW (by omega)
theorem agE{n:Nat}(az:n<=ops.size)(hT:dx C.P T)(cd:ja C.P a1)(au:∀ o∈ops.toList,k0 o C.nt=true){l:List et}{s':ay}(hs:w3 C.aK T a1 ops (ops.toList.take n) s=some (l,s'))(cq:zo (ops.toList.take n) l=true)(agj:∀ j,n<=j->j<ops.size->∀ i,i<n->i∈(h7 ops.toList).getD j [])
  (hc:∀ r∈l,∀ p∈r.cs,p) (tO:∀ (b3:Nat) (listed:Array Bool) a' w',listed.size=ops.size->(∀ i,listed.getD i false=decide (i<n))->ops.size - n<=b3->b9 C s' a' w'->wpAnyIn (dw C.r) 0 C.P .any ops Q b3 listed a' w'):∀ (b3:Nat) (listed:Array Bool) (a:Act) (w:World),listed.size=ops.size->
   (∀ j o,ops[j]?=some o->listed.getD j false=true->∀ i∈hU o,listed.getD i false=true)->(∀ i,n<=i->listed.getD i false=false)->((List.range ops.size).filter λj=>!listed.getD j false).length<=b3->
   b9 C (jf l s λj=>listed.getD j false) a w->wpAnyIn (dw C.r) 0 C.P .any ops Q b3 listed a w:=by
 obtain⟨hlen,rR,CS⟩:=Sf _ _ hs;have Gk:(ops.toList.take n).length=n:=by grind
 have iy:∀ i,i<n->(ops.toList.take n)[i]?=ops[i]?:=λi E=>by
  grind
 simp only[zo,Bool.and_eq_true]at cq;obtain⟨q4,LZ⟩:=cq;have ago:∀ j o,j<n->ops[j]?=some o->∀ i∈hU o,i<j:=by
  intro j o LY ag i E;have:=List.all_eq_true.1 q4 j (by grind);grind
 have agp:∀ i j x y,i<j->l[i]?=some x->l[j]?=some y->((h7 (ops.toList.take n)).getD j []).contains i=true\/x.apart y=true:=by
  intro i j x y zg E aC;have zJ:j<l.length:=(List.getElem?_eq_some_iff.1 aC).1;have:=List.all_eq_true.1 LZ j (by grind);grind
 intro b3;induction b3 with
 | zero=>
  intro listed a w bW _ oZ L0 j0;have fo:∀ i,listed.getD i false=decide (i<n):=λi=>by
   by_cases E:i<n
   ·cases ai:listed.getD i false with
    | true=>grind
    | false=>
     exfalso;have:i∈(List.range ops.size).filter λj=>!listed.getD j false:=by
      grind
     grind
   grind
  refine tO 0 listed a w bW fo ?_ ?_
  ·by_cases b4:n<ops.size
   ·have:n∈(List.range ops.size).filter λj=>!listed.getD j false:=by
     grind
    grind
   ·omega
  ·have:jf l s (λj=>listed.getD j false)=s':=by
    rw[rR];unfold jf;rw[List.filter_eq_self.2 λp hp=>?_,Cl];obtain⟨_,h2⟩:=zq hp;grind
   grind
 | succ b3 aH=>
  intro listed a w bW p4 oZ L0 j0;by_cases CT:∀ i,i<n->listed.getD i false=true
  ·have fo:∀ i,listed.getD i false=decide (i<n):=λi=>by
    grind
   refine tO (b3+1) listed a w bW fo ?_ ?_
   ·have h1:(List.range' n (ops.size - n)).length<=((List.range ops.size).filter λj=>!listed.getD j false).length:=by
     have e:(List.range ops.size).filter (λj=>!listed.getD j false)=List.range' n (ops.size - n):=by
      have h2:(List.range ops.size).filter (λj=>!listed.getD j false)=(List.range ops.size).filter λj=>decide (n<=j):=List.filter_congr λj _=>by
       grind
      rw[h2];have h3:List.range ops.size=List.range n++List.range' n (ops.size - n):=by
       rw[List.range_eq_range',List.range_eq_range'];have:=(List.range'_append (s:=0) (m:=n) (n:=ops.size - n) (step:=1))
       grind
      rw[h3,List.filter_append,List.filter_eq_nil_iff.2 λj aC=>by grind,List.filter_eq_self.2 λj aC=>by grind];rfl
     grind
    grind
   ·have:jf l s (λj=>listed.getD j false)=s':=by
     rw[rR];unfold jf;rw[List.filter_eq_self.2 λp hp=>?_,Cl];obtain⟨_,h2⟩:=zq hp;grind
    grind
  ·refine⟨λG=>absurd ?_ CT,λi E=>?_⟩
   ·intro j;induction j using Nat.strongRecOn with
    | _ j axB=>
     intro aC;cases ai:listed.getD j false with
     | true=>rfl
     | false=>
      exfalso;have jB:j∈Region.ready .any ops listed:=by
       rw[mem_ready];refine⟨?_,ops[j],by simp,λe he ab=>?_⟩
       ·grind
       ·have hin:e.on∈hU ops[j]:=List.mem_filterMap.2 ⟨e,by grind,by grind⟩;grind
      grind
   ·rw[mem_ready]at E;obtain⟨h0,o,ag,Gs⟩:=E;have hin:i<ops.size:=(Array.getElem?_eq_some_iff.1 ag).1;have CQ:listed.getD i false=false:=by
     grind
    have jB:o∈ops.toList:=by
     grind
    have sa:∀ k∈hU o,listed.getD k false=true:=by
     intro k ao;obtain⟨e,he,vg⟩:=List.mem_filterMap.1 ao;split at vg
     ·rename_i ab;cases vg;exact Gs e (by simpa using he) ab
     ·cases vg
    have E:i<n:=by
     by_cases E:i<n
     ·exact E
     ·exfalso;have CR:∀ k∈(h7 ops.toList).getD i [],listed.getD k false=true\/k=i:=by
       intro k ao;refine w7 (p:=λj=>listed.getD j false=true\/j=i) ops.toList [] (λj i E=>by simp at E) (λj hF j3 k ao aC=>?_) i k ao (.inr rfl);have k4:ops[j]?=some hF:=by grind
       rcases (by simpa using aC:listed.getD j false=true\/j=i) with aC | aC
       ·exact .inl (p4 j hF k4 aC k ao)
       ·subst aC;rw[ag]at k4;cases k4;exact .inl (sa k ao)
      grind
    obtain⟨r,G,fX⟩:=CS i o (by grind);have agq:∀ j k,k∈(h7 (ops.toList.take n)).getD j []->listed.getD j false=true->listed.getD k false=true:=by
     refine w7 (p:=λj=>listed.getD j false=true) (ops.toList.take n) [] (λj i E=>by simp at E) λj hF j3 k ao aC=>?_;have LY:j<n:=by grind
     exact p4 j hF (by grind) (by simpa using aC) k ao
    have CR:∀ k∈(h7 (ops.toList.take n)).getD i [],listed.getD k false=true\/k=i:=by
     intro k ao;refine w7 (p:=λj=>listed.getD j false=true\/j=i) (ops.toList.take n) [] (λj i E=>by simp at E) (λj hF j3 k ao aC=>?_) i k ao (.inr rfl);have LY:j<n:=by grind
     have k4:ops[j]?=some hF:=by grind
     rcases (by simpa using aC:listed.getD j false=true\/j=i) with aC | aC
     ·exact .inl (p4 j hF k4 aC k ao)
     ·subst aC;rw[ag]at k4;cases k4;exact .inl (sa k ao)
    have gw:∀ j x,j<i->l[j]?=some x->listed.getD j false=false->x.apart r=true:=by
     grind
    have tF:∀ j x,i<j->l[j]?=some x->listed.getD j false=true->r.apart x=true:=by
     grind
    obtain⟨aO,aP,bA⟩:=Sc (s:=s) (f:=λj=>listed.getD j false) G CQ gw tF;have L1:=Sg fX aO aP;unfold wpOpIn;rw[ag];refine Tn hT cd (au o jB) L1 (hc r (List.mem_of_getElem? G)) j0 λa' w' aW=>?_;have eB:∀ j,(listed.setIfInBounds i true).getD j false=if j=i then true else listed.getD j false:=by
     intro j;by_cases e:j=i
     ·subst e;rw[if_pos rfl,Array.getD_eq_getD_getElem?,Array.getElem?_setIfInBounds_self_of_lt (by omega)];rfl
     ·rw[if_neg e,getD_set_ne false (Ne.symm e)]
    refine aH _ a' w' (by grind) (λj hF j3 aC k ao=>?_) (λq bf=>by rw[eB,if_neg (by omega)];grind) ?_ ?_
    ·rw[eB]at aC ⊢;split
     ·rfl
     ·split at aC
      ·rename_i e;subst e;rw[ag]at j3;cases j3;exact sa k ao
      ·exact p4 j hF j3 aC k ao
    ·have b4:((List.range ops.size).filter λj=>!(listed.setIfInBounds i true).getD j false).length<((List.range ops.size).filter λj=>!listed.getD j false).length:=by
      have e1:(List.range ops.size).filter (λj=>!(listed.setIfInBounds i true).getD j false)=((List.range ops.size).filter λj=>!listed.getD j false).filter λj=>decide (j≠i):=by
       rw[List.filter_filter];apply List.filter_congr;intro j _;rw[eB];simp
      rw[e1];have L2:i∈(List.range ops.size).filter λj=>!listed.getD j false:=by
       grind
      exact List.length_filter_lt_length_iff_exists.2 ⟨i,L2,by simp⟩
     omega
    ·have:jf l s (λj=>(listed.setIfInBounds i true).getD j false)=r.hS (jf l s λj=>listed.getD j false):=by
      rw[<-bA];congr 1;funext j;grind
     grind
theorem TD{β:Type}{b:Bool}{p:Prop}{m:M β}{O:β->Prop}(h:M.b_ (r1 b p m) O):M.b_ m O:=by
 cases b with
 | true=>exact h
 | false=>exact (M.kv.1 h).2
theorem agF{gj h9 ho iu lD:Oper}(h:K8 gj h9 ho iu lD=true):∃ ty m x GC L5 k c dI fr d1 d2 oU y,gj.op=.lookup ty m x false/\h9.op=.binOp .add GC (.tmp dI) (.const (.int k c)) L5/\ho.op=.mapEntry ty m x/\iu.op=.extract (.tmp d1) 1/\
  oU.op=.mapUpdate ty m x y/\zv ho iu lD=some (oU,d1,d2)/\gj.dst=some dI/\h9.dst=some fr/\ho.dst=some d1/\iu.dst=some d2/\fz k c/\(dI≠fr/\dI≠d1/\dI≠d2/\fr≠d1/\fr≠d2/\d1≠d2)/\
  (m≠.tmp dI/\m≠.tmp fr/\m≠.tmp d1/\m≠.tmp d2)/\(x≠.tmp dI/\x≠.tmp fr/\x≠.tmp d1/\x≠.tmp d2)/\(∃ oh,m=.tmp oh)/\(∃ L6,x=.tmp L6)/\gj.guard=none/\h9.guard=none/\ho.guard=none/\iu.guard=none/\lD.guard=none:=by
 unfold K8 at h;split at h
 ·rename_i ty m x GC t k c L5 my da dn iy aN j1;split at h
  ·rename_i dI fr oU d1 d2 sb cN r';simp only[decide_eq_true_eq]at h;obtain⟨rfl,rfl,hin,e1,e2,dH,dM,jv,n4,C2,TE,eg,ds,bV,a2,a3,a4,dt,eG,mr,rE,c7,q2⟩:=h;obtain⟨axC,axD,axE,axF,f1,f2,f3,f4,f5,f6,f7,f8,f9,f10,f11,f12,g1,dW,g3⟩:=Td r';obtain⟨oh,tN⟩:=Option.isSome_iff_exists.1 eg;obtain⟨L6,TF⟩:=Option.isSome_iff_exists.1 ds;have em:=vf tN;have ex:=vf TF;have agG:=vf (e1.trans tN);have agH:=vf (e2.trans TF);rw[f1]at j1;simp only[Op.mapEntry.injEq]at j1;obtain⟨rfl,rfl,rfl⟩:=j1;subst em;subst ex;subst agG;subst agH;refine⟨_,_,_,_,_,_,_,_,_,_,_,oU,_,iy,aN,f1,f3,f7,r',sb,cN,f2,f4,hin,⟨dH,dM,jv,n4,C2,TE⟩,?_,?_,⟨_,rfl⟩,⟨_,rfl⟩,Option.isNone_iff_eq_none.1 c7,Option.isNone_iff_eq_none.1 q2,g1,dW,g3⟩
   ·simp only[hV,ne_eq,Option.some.injEq]at bV a2 a3 a4;exact⟨λe=>bV (by cases e;rfl),λe=>a2 (by cases e;rfl),λe=>a3 (by cases e;rfl),λe=>a4 (by cases e;rfl)⟩
   ·simp only[hV,ne_eq,Option.some.injEq]at dt eG mr rE;exact⟨λe=>dt (by cases e;rfl),λe=>eG (by cases e;rfl),λe=>mr (by cases e;rfl),λe=>rE (by cases e;rfl)⟩
  grind
 grind
theorem agI{β:Type}{n:Nat}(r6:FY ops.toList=true)(az:n=ops.size - 5)(hT:dx C.P T)(cd:ja C.P a1)(cE:lF C.P C.aK Ψ)(au:∀ o∈ops.toList,k0 o C.nt=true){k:ay->M β}{O:β->Prop}
  (ao:∀ s' a' w',b9 C s' a' w'->M.b_ (k s') O->Q .normal a' w') (an:M.b_ (l7 C.aK T a1 Ψ ops (ops.toList.drop n) [] s k) O) :
  (n<=ops.size/\∀ j,n<=j->j<ops.size->∀ i,i<n->i∈(h7 ops.toList).getD j [])/\∀ (a:Act) (w:World),b9 C s a w->∀ (b3:Nat) (listed:Array Bool),listed.size=ops.size->(∀ i,listed.getD i false=decide (i<n))->ops.size - n<=b3->wpAnyIn (dw C.r) 0 C.P .any ops Q b3 listed a w:=by
 unfold FY at r6;rw[show ops.toList.length - 5=n by grind]at r6;split at r6
 ·rename_i gj h9 ho iu lD TG;simp only[Bool.and_eq_true,List.all_eq_true,List.mem_range,List.contains_eq_mem,decide_eq_true_eq,Bool.or_eq_true]at r6;obtain⟨agJ,⟨⟨⟨⟨⟨q4,gw⟩,L3⟩,Ts⟩,zL⟩,Tt⟩,Tu⟩:=r6;have Tq:ops.size=n+5:=by
   have:=congrArg List.length TG;grind
  have C4:∀ q (o:Oper),[gj,h9,ho,iu,lD][q]?=some o->ops[n+q]?=some o:=λq o h=>by
   grind
  have xy:=C4 0 gj rfl;have vh:=C4 1 h9 rfl;have zK:=C4 2 ho rfl;have CV:=C4 3 iu rfl;have CW:=C4 4 lD rfl;have mem:∀ {q o},ops[n+q]?=some o->o∈ops.toList:=λh=>by
   grind
  obtain⟨ty,m,x,GC,L5,eX,c,dI,fr,d1,d2,oU,y,iy,aN,j1,r8,hW,tl,sb,cN,C0,GA,hin,⟨dH,dM,jv,n4,C2,TE⟩,⟨m1,m2,m3,m4⟩,⟨wP,wO,TH,agK⟩,⟨oh,em⟩,⟨L6,ex⟩,CX,CY,Gu,Gv,Gw⟩:=agF agJ;have CZ:∀ c,gj.op≠.defer c:=by grind
  have Gx:∀ c,h9.op≠.defer c:=by grind
  have Gy:∀ c,ho.op≠.defer c:=by grind
  have Gz:∀ c,iu.op≠.defer c:=by grind
  refine⟨⟨by omega,λj h1 h2 i E=>by have:=gw (j - n) (by omega) i E;simp_all⟩,λa w G b3 listed bW ai r'=>?_⟩;have TI:=LV (Q:=Q) hT cd cE au ao _ n [] s a w rfl (λp hp=>by cases hp) G an;rw[show (ops.toList.drop n).length=5 by grind]at TI;rw[TG]at an;obtain⟨κ,F,eC⟩:=G;have gd:∀ {o:Oper},o.guard=none->∀ s:ay,kl s.ax ops o.guard=some none:=λh s=>by rw[h];rfl
  have TJ:∀ {o:Oper} {os},(∀ ty m x,o.op≠.mapEntry ty m x)->zw o os=none:=λ{o os} h=>by
   unfold zw;split
   ·unfold zv;simp
   ·rfl
  have Gk:zw gj [h9,ho,iu,lD]=none:=TJ (by grind);unfold l7 at an;rw[Gk]at an;simp only[gd CX]at an;split at an
  ·rename_i tQ GD;rw[r_ λab=>(Gl (s:=s) (λp hp=>by cases hp) (gk:=none) (λk ao=>by cases ao) ab).run s.ad tQ GD,r_ λab=>(zm ab).run s.ad tQ GD]at an;obtain⟨L7,agL,an⟩:=an;have agM:=w2 hT cd (au gj (mem xy)) GD;have xz:=GD;simp only[bh,iy,yX]at xz;have agN:(use (aT C.aK s.ax m)).1/\(use (aT C.aK s.ax x)).1/\tQ.hk=[]/\∃ v u,tQ.eM=.val v u:=by
    split at xz
    ·rename_i jc axG axH;split at xz
     ·simp only[aq.eJ,Option.bind_eq_some_iff,bz,aq.bx,Option.some.injEq]at xz;obtain⟨es,oT,⟨y,l⟩,aM,rfl⟩:=xz;exact⟨L7.1,L7.2,rfl,_,_,rfl⟩
     ·cases xz
    ·cases xz
   obtain⟨LW,LX,TK,TL,TM,agO⟩:=agN;have agP:zw h9 [ho,iu,lD]=none:=TJ (by grind);unfold l7 at an;rw[agP]at an;simp only[gd CY]at an;split at an
   ·rename_i L8 agQ;have an:=TD (TD an);have vj:=agQ;have e1:(s.hR gj.dst tQ).ax dI=.val TL TM:=by rw[sb,ay.hR,ay.LS,agO]
    have lC:wK (.int eX c)=.val (.int eX) c:=by simp[wK,hin]
    have agR:∃ bV,TL=.int eX/\L8.hk=[]/\bV=TM:=by
     simp only[bh,aN,aT,e1,lC,use,aD.l2,aD.tc]at vj;split at vj
     ·rename_i aO bV aP dt h1 h2;split at h1
      ·rename_i bA TH h3;cases h2;cases h3;cases h1;split at vj
       ·rename_i uW;simp only[yT,bz,aq.bx,Option.some.injEq]at vj;grind
       ·cases vj
      grind
     ·rename_i oZ;exfalso;split at vj
      ·grind
      ·simp only[aq.eJ,Option.bind_eq_some_iff]at vj;obtain⟨⟨c',hO⟩,h1,h2⟩:=vj;simp only[yU,aq.eJ,Option.bind_eq_some_iff,aq.bx]at h1;grind
    obtain⟨k5,rfl,TN,rfl⟩:=agR;have iq:((s.hR gj.dst tQ).hR h9.dst L8).ad=s.ad:=by
     simp only[ay.hR,TK,TN,ay.fK,sb,cN,ay.set]
    have ef:∀ {t:Nat},t≠dI->t≠fr->((s.hR gj.dst tQ).hR h9.dst L8).ax t=s.ax t:=λ{t} h1 h2=>by
     simp only[ay.hR,TK,TN,ay.fK];rw[ay.CN (by grind),ay.CN (by grind)]
    unfold l7 at an;rw[show zw ho [iu,lD]=some (oU,d1,d2) from tl]at an;simp only at an;split at an
    ·rename_i axI agS;obtain⟨u,ma,wE,TO⟩:=age (s:=s) hT iy j1 hW iq (by rw[em];exact ef (λe=>m1 (by grind)) (λe=>m2 (by grind))) (by rw[ex];exact ef (λe=>wP (by grind)) (λe=>wO (by grind))) agS eC LW LX;have agT:=(TO a rfl rfl).1;have agU:=CU (K:=λa' w'=>b9 C (s.hR gj.dst tQ) a' w') (Q:=Q) CZ agT (agM a w κ F Q eC L7 agL);have TP:dI<a.tmps.size:=by
      have:=au gj (mem xy);simp only[k0,Bool.and_eq_true]at this;have:=this.1;rw[sb]at this;have h1:=eC.dk;grind
     have axJ:d1<a.tmps.size:=by
      have:=au ho (mem zK);simp only[k0,Bool.and_eq_true]at this;have:=this.1;rw[C0]at this;have h1:=eC.dk;grind
     have hu:u=.int eX k5:=by
      obtain⟨afb,zI,gx⟩:=agU;have h1:=gx.bF dI;rw[e1,sb]at h1;have h2:(a.put (some dI) u).tmps.getD dI Go.undef=u:=CJ TP;rw[h2]at h1;exact (gE.1 h1).1
     subst hu;let vB:Value:=.int eX (eX.wrap (k5+c));have agV:∀ (a':Act) (w':World),a'.eval (.tmp dI)=.int eX k5->(execOp a'.eval h9).run C.P w'=.ok (.value vB) w':=λa' w' h=>by
      have h2:a'.eval (.const (.int eX c))=.int eX c:=rfl;have h3:(Go.binOp .add GC (.int eX k5) (.int eX c)).run C.P w'=.ok vB w':=by simp[Go.binOp,Op.intArith,vB]
      simp only[execOp,aN,h,h2,Sem.run_bind,Rb,Result.andThen_ok,h3,Sem.run_pure]
     have agW:∀ (a':Act) (w':World),a'.eval (.tmp d1)=.tuple #[.int eX k5,goInt ma]->(execOp a'.eval iu).run C.P w'=.ok (.value (goInt ma)) w':=λa' w' h=>by
      simp[execOp,r8,h,Instr.extract]
     have LK:∀ l b e dn,(l_ a dI fr d1 d2 (.int eX k5) vB (.tuple #[.int eX k5,goInt ma]) (goInt ma) l b e dn).eval m=a.eval m:=λl b e dn=>Tp m1 m2 m3 m4;have agX:∀ l b e dn,(l_ a dI fr d1 d2 (.int eX k5) vB (.tuple #[.int eX k5,goInt ma]) (goInt ma) l b e dn).eval x=a.eval x:=λl b e dn=>Tp wP wO TH agK;refine agt (wE:=wE) (u:=.int eX k5) (vB:=vB) (vE:=.tuple #[.int eX k5,goInt ma]) (vX:=goInt ma) Tq q4 xy vh zK CV CW CX CY Gu Gv Gw CZ Gx Gy Gz gw L3 Ts zL Tt Tu sb cN C0 GA dH dM jv n4 C2 ?_ ?_ ?_ ?_ TI b3 listed bW ai (by omega)
     ·intro b e dn;have:=TO _ (LK false b e dn) (agX false b e dn);cases e
      ·exact this.1
      ·exact this.2.1
     ·intro e dn;refine agV _ _ ?_;have h1:(l_ a dI fr d1 d2 (.int eX k5) vB (.tuple #[.int eX k5,goInt ma]) (goInt ma) true false e dn).eval (.tmp dI)=(a.put (some dI) (.int eX k5)).eval (.tmp dI):=by
       have c7:Operand.tmp dI≠.tmp d1:=λh=>dM (by grind);have q2:Operand.tmp dI≠.tmp d2:=λh=>jv (by grind);unfold l_;cases e<;>cases dn<;>simp[zH,c7,q2]
      rw[h1];exact CJ TP
     ·grind
     ·intro l b;refine agW _ _ ?_;have h1:l_ a dI fr d1 d2 (.int eX k5) vB (.tuple #[.int eX k5,goInt ma]) (goInt ma) l b true false=(l_ a dI fr d1 d2 (.int eX k5) vB (.tuple #[.int eX k5,goInt ma]) (goInt ma) l b false false).put (some d1) (.tuple #[.int eX k5,goInt ma]):=rfl;rw[h1];exact CJ (by rw[ags];omega)
    ·exact an.1.elim
   ·rename_i axK;exfalso;have:qT C.aK T a1 Ψ (s.hR gj.dst tQ) h9=none:=by
     have lC:wK (.int eX c)=.val (.int eX) c:=by simp[wK,hin]
     simp only[qT,aN,Ct,aT,lC];simp
    rw[this]at an;exact an.1
  ·exfalso;have:qT C.aK T a1 Ψ s gj=none:=by simp only[qT,iy]
   rw[this]at an;exact an.1
 grind
theorem agY{β:Type}{L:List (ay->M β)}(iy:L≠[]){o:Oper}(hT:dx C.P T)(cd:ja C.P a1)(cE:lF C.P C.aK Ψ)(xw:k0 o C.nt=true){O:β->Prop}{s:ay}{a:Act}{w:World}(G:b9 C s a w)
  (an:∀ k∈L,M.b_ (F1 C.aK T a1 Ψ ops o s k) O) {K:Act->World->Prop} (ix:∀ s' a' w',b9 C s' a' w'->(∀ k∈L,M.b_ (k s') O)->K a' w'):o.guard=none/\o.wpIn (dw C.r) 0 C.P a w K Q:=by
 obtain⟨gS,mF⟩:=List.exists_mem_of_ne_nil L iy;have a6:∀ i,o.dst=some i->i<C.nt:=λi E=>by
  have:=xw;simp only[k0,Bool.and_eq_true]at this;grind
 unfold F1 at an;split at an
 ·exact (an gS mF).1.elim
 ·rename_i aA;refine⟨aA,?_⟩;split at an
  ·rename_i res fU;obtain⟨κ,F,eC⟩:=G;have an:∀ k∈L,res.bU/\res.c/\M.b_ (k (s.hR o.dst res)) O:=λk ao=>by
    have:=an k ao;rw[r_ λab=>(Gl (ops:=ops) (tg:=[]) (s:=s) (λp hp=>by cases hp) (gk:=none) (λk ao=>by cases ao) ab).run s.ad res fU,r_ λab=>(zm ab).run s.ad res fU]at this;omega
   exact Oper.wpIn_mono (λa' w' aW=>ix _ a' w' aW λk ao=>(an k ao).2.2) (w2 hT cd xw fU a w κ F Q eC (an gS mF).1 (an gS mF).2.1)
  ·split at an
   ·rename_i pr og;obtain⟨jw,pS,l5⟩:=LO hT cd cE a6 og;have an:∀ k∈L,pr.bU/\M.b_ pr.m λy=>M.b_ (k (pr.st y)) O:=λk ao=>by
     have:=an k ao;rw[r_ λab=>l5 (Ky ab),M.fJ]at this;omega
    refine jw a w Q _ G (an gS mF).1 ⟨(an gS mF).2.1,λy aM a' w' aW=>ix _ a' w' aW λk ao=>(an k ao).2.2 y aM⟩
   ·exact (an gS mF).1.elim
theorem agZ{ops:List Oper}{done:List Nat}{i:Nat}:i∈va ops done<->i<ops.length/\i ∉ done/\∃ o,ops[i]?=some o/\∀ j∈hU o,j∈done:=by
 unfold va;grind
theorem TQ{ops:List Oper}:∀ (f:Nat) (done:List Nat),qU ops f done≠[]
 | 0,done=>by simp[qU]
 | f+1,done=>by
  unfold qU;split
  ·simp
  ·rename_i l ai;cases hc:va ops done with
   | nil=>grind
   | cons i bO=>
    rw[List.flatMap_cons];intro h;rw[List.append_eq_nil_iff,List.map_eq_nil_iff]at h;exact TQ f _ h.1
theorem GF{listed:Array Bool}{done:List Nat}(bW:listed.size=ops.size)(ai:∀ i,listed.getD i false=done.contains i):Region.ready .any ops listed=va ops.toList done:=by
 unfold Region.ready va;rw[Array.length_toList];refine List.filter_congr λi E=>?_;have E:i<ops.size:=by grind
 have h1:listed.getD i true=done.contains i:=by
  grind
 rw[h1];congr 1;have ag:ops.toList[i]?=some ops[i]:=by simp
 rw[ag,Array.getElem?_eq_getElem E];show ops[i].after.all _=(hU ops[i]).all _;rw[Bool.eq_iff_iff,Array.all_eq_true',List.all_eq_true];unfold hU;grind
theorem ag0{β:Type}(hT:dx C.P T)(cd:ja C.P a1)(cE:lF C.P C.aK Ψ)(au:∀ o∈ops.toList,k0 o C.nt=true){k:ay->M β}{O:β->Prop}(ao:∀ s' a' w',b9 C s' a' w'->M.b_ (k s') O->Q .normal a' w'):∀ (b3:Nat) (done:List Nat) (listed:Array Bool) (s:ay) (a:Act) (w:World),listed.size=ops.size->(∀ i,listed.getD i false=done.contains i)->FZ ops.toList b3 done=true->
  b9 C s a w->(∀ l∈qU ops.toList b3 done,M.b_ (zy C.aK T a1 Ψ ops l s k) O)->wpAnyIn (dw C.r) 0 C.P .any ops Q b3 listed a w:=by
 intro b3;induction b3 with
 | zero=>
  intro done listed s a w bW ai aA G an;have n9:=GF (ops:=ops) bW ai;refine⟨?_,ao s a w G (an [] (by simp[qU]))⟩;rw[n9];exact List.isEmpty_iff.1 aA
 | succ b3 aH=>
  intro done listed s a w bW ai aA G an;have n9:=GF (ops:=ops) bW ai;refine⟨λh0=>?_,λi E=>?_⟩
  ·rw[n9]at h0;refine ao s a w G (an [] ?_);unfold qU;grind
  ·rw[n9]at E;obtain⟨pV,hin,o,ag,_⟩:=agZ.1 E;have pV:i<ops.size:=by omega
   have j3:ops[i]?=some o:=by grind
   have ag1:o∈ops.toList:=List.mem_of_getElem? ag;have jB:∀ l∈qU ops.toList b3 (i::done),M.b_ (F1 C.aK T a1 Ψ ops o s λs'=>zy C.aK T a1 Ψ ops l s' k) O:=λl hle=>by
    have:=an (i::l) (by
     unfold qU;grind)
    unfold zy at this;grind
   obtain⟨g1,dW⟩:=agY (Q:=Q) (L:=(qU ops.toList b3 (i::done)).map λl=>λs'=>zy C.aK T a1 Ψ ops l s' k) (by simpa using TQ b3 (i::done)) hT cd cE (au o ag1) G
    (λk' ag2=>by obtain⟨l,hle,rfl⟩:=List.mem_map.1 ag2;exact jB l hle)
    (K:=wpAnyIn (dw C.r) 0 C.P .any ops Q b3 (listed.setIfInBounds i true)) λs' a' w' aW SN=>by
     refine aH (i::done) _ s' a' w' (by grind) (λj=>?_) ?_ aW λl hle=>SN _ (List.mem_map.2 ⟨l,hle,rfl⟩)
     ·by_cases e:j=i
      ·simp_all
      ·rw[getD_set_ne false (Ne.symm e),ai j];simp[e]
     ·unfold FZ at aA;grind
   unfold wpOpIn;rw[j3];simp only;have hw:Region.wanted o (yielded ops a.tmps)=true:=by unfold Region.wanted;rw[g1]
   grind
theorem TR{β:Type}(hT:dx C.P T)(cd:ja C.P a1)(cE:lF C.P C.aK Ψ)(au:∀ o∈ops.toList,k0 o C.nt=true){k:ay->M β}{O:β->Prop}
  (ao:∀ s' a' w',b9 C s' a' w'->M.b_ (k s') O->Q .normal a' w') {a:Act} {w:World} (G:b9 C s a w) (an:M.b_ (zz C.aK T a1 Ψ ops s k) O):wpAnyIn (dw C.r) 0 C.P .any ops Q ops.size (Array.replicate ops.size false) a w.drew:=by
 unfold zz at an;split at an
 ·rename_i l s' hs;split at an
  ·rename_i cq;obtain⟨h1,h2⟩:=Tl _ an;obtain⟨κ,F,eC⟩:=G;refine agn hT cd au hs cq (λr G p hp=>h1 p (List.mem_flatMap.2 ⟨r,G,hp⟩)) (λa' w' aW=>ao s' a' w' aW h2) ops.size (Array.replicate ops.size false) a _ (by simp) (λj o _ ai=>?_) ?_ ⟨κ,F,?_⟩
   ·have:(Array.replicate ops.size false).getD j false=false:=by
     rw[Array.getD_eq_getD_getElem?,Array.getElem?_replicate];grind
    grind
   ·grind
   ·have:jf l s (λj=>(Array.replicate ops.size false).getD j false)=s:=by
     unfold jf;rw[List.filter_eq_nil_iff.2 λp _=>?_]
     ·rfl
     ·simp only[Array.getD_eq_getD_getElem?,Array.getElem?_replicate];grind
    rw[this];exact eC.drew
  ·exact an.1.elim
 ·split at an
  ·rename_i l s' hs;split at an
   ·rename_i cq;rw[Bool.and_eq_true]at cq;obtain⟨h1,h2⟩:=Tl _ an;obtain⟨κ,F,eC⟩:=G;have cont:(lE ops.toList<=ops.size/\∀ j,lE ops.toList<=j->j<ops.size->∀ i,i<lE ops.toList->i∈(h7 ops.toList).getD j [])/\∀ (b3:Nat) (listed:Array Bool) a' w',listed.size=ops.size->(∀ i,listed.getD i false=decide (i<lE ops.toList))->ops.size - lE ops.toList<=b3->b9 C s' a' w'->wpAnyIn (dw C.r) 0 C.P .any ops Q b3 listed a' w':=by
     by_cases r6:FY ops.toList=true
     ·have en:lE ops.toList=ops.size - 5:=by unfold lE;grind
      obtain⟨e1,e2⟩:=agI (Q:=Q) r6 en hT cd cE au ao h2;grind
     ·have en:lE ops.toList=zx (h7 ops.toList) ops.toList.length:=by unfold lE;grind
      obtain⟨pW,hK⟩:=To (h7 ops.toList) ops.toList.length;have pW:lE ops.toList<=ops.size:=by grind
      have hK:∀ j,lE ops.toList<=j->j<ops.size->∀ i,i<j->i∈(h7 ops.toList).getD j []:=λj h1 h2=>hK j (by omega) (by omega);refine⟨⟨pW,λj h1 h2 i E=>hK j h1 h2 i (by omega)⟩,λb3 listed a' w' bW fo r' aW=>?_⟩;refine agi cq.2 hK (ops.size - lE ops.toList) (lE ops.toList) b3 listed a' w' (Nat.le_refl _) (by omega) bW fo r' ?_;have hlen:(ops.toList.drop (lE ops.toList)).length=ops.size - lE ops.toList:=by simp
      rw[<-hlen];exact LV (Q:=Q) hT cd cE au ao _ _ [] s' a' w' rfl (λp hp=>by cases hp) aW h2
    obtain⟨⟨pW,hK⟩,axL⟩:=cont;refine agE pW hT cd au hs cq.1 hK (λr G p hp=>h1 p (List.mem_flatMap.2 ⟨r,G,hp⟩)) (λb3 listed a' w' bW fo r' aW=>?_) ops.size (Array.replicate ops.size false) a _ (by simp) (λj o _ ai=>?_) (λi _=>?_) ?_ ⟨κ,F,?_⟩
    ·grind
    ·have:(Array.replicate ops.size false).getD j false=false:=by
      rw[Array.getD_eq_getD_getElem?,Array.getElem?_replicate];grind
     grind
    ·rw[Array.getD_eq_getD_getElem?,Array.getElem?_replicate];grind
    ·grind
    ·have:jf l s (λj=>(Array.replicate ops.size false).getD j false)=s:=by
      unfold jf;rw[List.filter_eq_nil_iff.2 λp _=>?_]
      ·rfl
      ·simp only[Array.getD_eq_getD_getElem?,Array.getElem?_replicate];grind
     rw[this];exact eC.drew
   ·exact an.1.elim
  ·unfold Sw at an;split at an
   ·rename_i y9;obtain⟨κ,F,eC⟩:=G;refine ag0 hT cd cE au ao ops.size [] (Array.replicate ops.size false) s a _ (by simp) (λi=>?_) y9 ⟨κ,F,eC.drew⟩ λl hle=>⟨an.1 _ (List.mem_map.2 ⟨l,hle,rfl⟩),λy aM=>an.2 y ⟨_,List.mem_map.2 ⟨l,hle,rfl⟩,aM⟩⟩
    rw[Array.getD_eq_getD_getElem?,Array.getElem?_replicate];grind
   ·exact an.1.elim
theorem ag3{β:Type}{id:Nat}(dO:C.P.follows .mixedOrders=true)(hT:dx C.P T)(cd:ja C.P a1)(cE:lF C.P C.aK Ψ)(au:∀ o∈ops.toList,k0 o C.nt=true){k:ay->M β}{O:β->Prop}
  (ao:∀ s' a' w',b9 C s' a' w'->M.b_ (k s') O->Q .normal a' w') {a:Act} {w:World} (G:b9 C s a w) (an:M.b_ (zz C.aK T a1 Ψ ops s k) O):(Code.region id ops true).wpIn (dw C.r) 0 C.P Q a w:=
 wpIn_region_any dO (TR hT cd cE au ao G an)
theorem zM{ops:Array Oper}{j:Nat}{o:Oper}(h:ops[j]?=some o):(k2 ops.toList).toArray[j]?=some (if j=0 then o else { o with after:=o.after.push ⟨0,.phase⟩ }):=by
 obtain⟨l⟩:=ops;cases l with
 | nil=>simp at h
 | cons x l=>
  cases j with
  | zero=>simpa [k2]using h
  | succ j=>
   simp only[List.getElem?_toArray,List.getElem?_cons_succ]at h;simp[k2,h]
theorem L9(ops:Array Oper):(k2 ops.toList).toArray.size=ops.size:=by
 obtain⟨l⟩:=ops;cases l<;>simp[k2]
theorem ag4{ops:Array Oper}{j:Nat}{o1:Oper}(h:(k2 ops.toList).toArray[j]?=some o1):∃ o,ops[j]?=some o/\o1=if j=0 then o else { o with after:=o.after.push ⟨0,.phase⟩ }:=by
 have aC:j<ops.size:=by rw[<-L9];exact (Array.getElem?_eq_some_iff.1 h).1
 have:=zM (ops:=ops) (j:=j) (o:=ops[j]) (by simp[aC]);rw[h]at this;cases this;exact⟨ops[j],by simp[aC],rfl⟩
theorem ag5(ops:Array Oper):yielded (k2 ops.toList).toArray=yielded ops:=by
 funext t j;unfold yielded;cases h:ops[j]? with
 | none=>
  have:(k2 ops.toList).toArray[j]?=none:=by
   rw[Array.getElem?_eq_none_iff,L9];exact Array.getElem?_eq_none_iff.1 h
  rw[this]
 | some o=>
  rw[zM h];by_cases aC:j=0
  ·rw[if_pos aC]
  ·rw[if_neg aC];rfl
theorem ag6{F:Fence}{P:Program}:∀ (b3:Nat) (listed:Array Bool) (a:Act) (w:World),listed.getD 0 false=true->wpAnyIn F 0 P .any (k2 ops.toList).toArray Q b3 listed a w->wpAnyIn F 0 P .any ops Q b3 listed a w:=by
 have n9:∀ (listed:Array Bool),listed.getD 0 false=true->∀ i,i∈Region.ready .any ops listed->i∈Region.ready .any (k2 ops.toList).toArray listed:=by
  intro listed h0 i E;rw[mem_ready]at E ⊢;obtain⟨h1,o,ag,h2⟩:=E;refine⟨h1,_,zM ag,λe he ab=>?_⟩;split at he
  ·exact h2 e he ab
  ·rcases Array.mem_push.1 he with he | rfl
   ·exact h2 e he ab
   ·exact h0
 have ag7:∀ (listed:Array Bool),Region.ready .any ops listed=[]->Region.ready .any (k2 ops.toList).toArray listed=[]:=by
  intro listed h;rw[List.eq_nil_iff_forall_not_mem]at h ⊢;intro i E;refine h i ?_;rw[mem_ready]at E ⊢;obtain⟨h1,o1,ag,h2⟩:=E;obtain⟨o,j3,rfl⟩:=ag4 ag;refine⟨h1,o,j3,λe he ab=>h2 e ?_ ab⟩;split
  ·exact he
  ·exact Array.mem_push_of_mem _ he
 have ag8:∀ (listed:Array Bool),listed.getD 0 false=true->Region.ready .any (k2 ops.toList).toArray listed=[]->Region.ready .any ops listed=[]:=by
  intro listed h0 h;rw[List.eq_nil_iff_forall_not_mem]at h ⊢;exact λi E=>h i (n9 listed h0 i E)
 intro b3;induction b3 with
 | zero=>
  intro listed a w h0 h;exact⟨ag8 listed h0 h.1,h.2⟩
 | succ b3 aH=>
  intro listed a w h0 h;refine⟨λG=>h.1 (ag7 listed G),λi E=>?_⟩;have ao:=h.2 i (n9 listed h0 i E);have next:∀ a w,wpAnyIn F 0 P .any (k2 ops.toList).toArray Q b3 (listed.setIfInBounds i true) a w->wpAnyIn F 0 P .any ops Q b3 (listed.setIfInBounds i true) a w:=λa w=>aH _ a w (getD_set_true h0)
  have ao:=wpOpIn_mono next ao
  unfold wpOpIn at ao ⊢;rw[mem_ready]at E;obtain⟨_,o,ag,_⟩:=E;rw[ag];rw[zM ag,ag5]at ao;by_cases n_:i=0
  ·rw[if_pos n_]at ao;exact ao
  ·rw[if_neg n_]at ao;exact ao
theorem ag9{β:Type}{id:Nat}(dO:C.P.follows .mixedOrders=true)(ag_:C.r=none)(ar:K9 ops=true)(hT:dx C.P T)(cd:ja C.P a1)(cE:lF C.P C.aK Ψ)(au:∀ o∈ops.toList,k0 o C.nt=true){k:ay->M β}{O:β->Prop}
  (ao:∀ s' a' w',b9 C s' a' w'->M.b_ (k s') O->Q .normal a' w') {a:Act} {w:World} (G:b9 C s a w) (an:M.b_ (zz C.aK T a1 Ψ (k2 ops.toList).toArray s k) O):(Code.region id ops true).wpIn (dw C.r) 0 C.P Q a w:=by
 refine wpIn_mono (Q:=λe a w=>e=.normal/\Q e a w) (wpIn_region_any dO ?_) λe a w h=>h.2;have h8:=TR (Q:=λe a w=>e=.normal/\Q e a w) (ops:=(k2 ops.toList).toArray) hT cd cE (λo ag=>?_) (λs' a' w' h1 h2=>⟨rfl,ao s' a' w' h1 h2⟩) G an
 ·rw[L9]at h8;have q5:(dw C.r).round=none:=by rw[ag_];rfl
  unfold K9 at ar;split at ar
  ·cases ar
  ·rename_i o l ai;simp only[Bool.and_eq_true,List.all_eq_true,Bool.or_eq_true]at ar;obtain⟨h1,h2,h3,aR,bw⟩:=ar;have h0:ops[0]?=some o:=by rw[<-Array.getElem?_toList,ai];rfl
   obtain⟨m,an⟩:∃ m,ops.size=m+1:=⟨l.length,by rw[<-Array.length_toList,ai];rfl⟩
   rw[an]at h8 ⊢;have aA:o.guard=none:=by simpa using h2
   have iz:∀ (ops:Array Oper),ops[0]?=some o->0∈Region.ready .any ops (Array.replicate (m+1) false):=λops h=>by
    rw[mem_ready];refine⟨by simp,o,h,λe he=>?_⟩;rw[Array.isEmpty_iff.1 h3]at he;simp at he
   have kD:∃ x,o.op=.move x:=by
    revert h1;cases o.op<;>simp
   obtain⟨x,hx⟩:=kD;have aM:YieldsFenced C.P ops o (a.eval x) a:=⟨.inl ⟨by unfold Region.wanted;rw[aA],λw=>by simp[execOp,hx]⟩,λw=>by unfold Oper.about;rw[hx]⟩
   have fX:=h8.2 0 (iz _ (by rw[zM h0];rfl));unfold wpOpIn at fX;rw[zM h0]at fX;simp only[if_true]at fX;rw[show Region.wanted o (yielded (k2 ops.toList).toArray a.tmps)=true by unfold Region.wanted;rw[aA],if_pos rfl]at fX;have fX:wpAnyIn (dw C.r) 0 C.P .any (k2 ops.toList).toArray (λe a w=>e=.normal/\Q e a w) m ((Array.replicate (m+1) false).setIfInBounds 0 true) (a.put o.dst (a.eval x)) w.drew:=by
    have:=fX.2;rw[q5,Oper.semAt_none]at this;simpa [execOp,hx,Oper.uponIn]using this
   refine wpAnyIn_first q5 h0 (Region.noSelect_spec aR) (λc a w h=>by cases h.1) m _ a _ (λj q0 TS ag' _ he=>?_) (iz _ h0) aM (ag6 m _ _ _ (by simp) fX);have jB:q0∈l:=by
    rw[<-Array.getElem?_toList,ai]at TS;cases j with
    | zero=>exact absurd rfl ag'
    | succ j=>exact List.mem_of_getElem? TS
   rcases bw q0 jB with h | h
   ·exfalso;have h:0∈hU q0:=by simpa using h
    obtain⟨e,aha,wZ⟩:=List.mem_filterMap.1 h;split at wZ
    ·rename_i ab;exact he e (by simpa using aha) ab (by simpa using wZ)
    ·cases wZ
   ·exact h
 ·have ag:o∈(k2 ops.toList):=by simpa using ag
  obtain⟨ol⟩:=ops;cases ol with
  | nil=>cases ag
  | cons x l=>
   rcases List.mem_cons.1 ag with rfl | ag
   ·exact au _ (by simp)
   ·obtain⟨p,hp,rfl⟩:=List.mem_map.1 ag;have:=au p (by simp[hp]);exact this
end
end Go.Fer
namespace Go.Fer
open Go.RowKit
theorem gm{β:Type}{O:β->Prop}(h:M.b_ (M.fail:M β) O):False:=h.1
theorem tR{β:Type}{sh:dm}{s:ay}{k:sh.ah->M β}{O:β->Prop}(h:M.b_ (sh.mJ s k) O):∃ A,sh.iP s=some A/\M.b_ (k A) O:=by
 unfold dm.mJ at h;split at h
 ·grind
 ·exact (gm h).elim
def oj(B:Nat):Deferred:={ target:=.collected B,args:=#[] }
structure nI where
 w:World
 K:Nat->Prop
 ms:List Nat
def bS.gR(C:bS)(u:nI):bS:={ C with w0:=u.w,K0:=u.K,dfr:=u.ms.map oj++C.dfr }
structure bS.jC(C:bS)(u:nI):Prop where
 sc:∀ B∈u.ms,u.K B/\u.w.heap[B]?=some (.deferred (some []))
 dZ:∀ B∈u.ms,¬C.K0 B/\C.w0.heap.size<=B
 mb:u.ms.Nodup
 gS:∀ r,C.K0 r->u.K r
 ef:∀ r,C.K0 r->u.w.heap[r]?=C.w0.heap[r]?
 size:C.w0.heap.size<=u.w.heap.size
 dV:cM C.w0 u.w
def bS.hl(C:bS):nI:=⟨C.w0,C.K0,[]⟩
theorem bS.vk(C:bS):C.jC C.hl:=⟨λ_ h=>by simp[bS.hl]at h,λ_ h=>by simp[bS.hl]at h,List.nodup_nil,λ_ h=>h,λ_ _=>rfl,Nat.le_refl _,cM.refl _⟩
def nI.then(u v:nI):nI:=⟨v.w,v.K,v.ms++u.ms⟩
theorem bS.zN(C:bS)(u v:nI):(C.gR u).gR v=C.gR (u.then v):=by
 simp[bS.gR,nI.then]
theorem bS.jC.then{C:bS}{u v:nI}(h:C.jC u)(k:(C.gR u).jC v):C.jC (u.then v) where
 sc:=λB aN=>by
  rcases List.mem_append.1 aN with aN | aN
  ·exact k.sc B aN
  ·obtain⟨h1,h2⟩:=h.sc B aN;exact⟨k.gS B h1,(k.ef B h1).trans h2⟩
 dZ:=λB aN=>by
  rcases List.mem_append.1 aN with aN | aN
  ·obtain⟨h1,h2⟩:=k.dZ B aN;exact⟨λh3=>h1 (h.gS B h3),Nat.le_trans h.size h2⟩
  ·exact h.dZ B aN
 mb:=List.nodup_append.2 ⟨k.mb,h.mb,λa aV b ab e=>(k.dZ a aV).1 (e ▸ (h.sc b ab).1)⟩
 gS:=λr G=>k.gS r (h.gS r G)
 ef:=λr G=>(k.ef r (h.gS r G)).trans (h.ef r G)
 size:=Nat.le_trans h.size k.size
 dV:=h.dV.trans k.dV
theorem bc.TT{C:bS}{s:ay}{a:Act}{w:World}{κ:Nat->bo}{F F':Nat->Prop}(h:bc C s a w κ F){w0 w':World}{F0 K0:Nat->Prop}{nt:Nat}{dfr:List Deferred}{r:Option Nat}{sl:Nat->aD}{a':Act}
    (L_:a'.tmps.size=nt) (Ma:a'.defers=dfr) (q6:nt<=ev) (hsl:∀ i,bl C.P s.ad κ F w (sl i) (a'.tmps.getD i undef)) (oZ:∀ l aI L n st,sl TRS≠.tr l aI L n st)
    (heq:∀ r,F r\/(∃ b,(s.ad b).body.bJ (κ b)=true/\(κ b).ad=r)->w'.heap[r]?=w.heap[r]?) (bW:w.heap.size<=w'.heap.size)
    (bd:∀ r,F r->F' r) (i_:∀ r,F' r->r<w'.heap.size) (C5:∀ b,(s.ad b).body.bJ (κ b)=true->¬F' (κ b).ad)
    (Mb:∀ r,F' r->F0 r\/¬K0 r) (Mc:∀ r,F0 r->F' r) (C6:∀ r,K0 r->r<w0.heap.size) (tS:∀ r,K0 r->w'.heap[r]?=w0.heap[r]?) (fS:∀ b,(s.ad b).body.bJ (κ b)=true->¬K0 (κ b).ad)
    (mM:w0.heap.size<=w'.heap.size) (hc:cM w0 w') :
    bc { C with w0:=w0,F0:=F0,K0:=K0,nt:=nt,dfr:=dfr,r:=r } ⟨sl,s.ad⟩ a' w' κ F':=by
  have he:cG F w w':=⟨bW,λr G=>heq r (.inl G)⟩
  exact {
          dk:=L_,dfr:=Ma,bF:=λi=>bl.later (e6.refl _ _) bd he (hsl i)
          bp:=λb=>cg.kT (h.bp b) (e6.refl _ _) bd he rfl rfl λag=>heq _ (.inr ⟨b,ag,rfl⟩)
          own:=λb ab=>⟨Nat.lt_of_lt_of_le (h.own b ab).1 bW,C5 b ab,fS b ab⟩,inj:=h.inj,cL:=i_
          gN:=Mb,hE:=Mc,g_:=C6,ef:=tS,size:=mM,dV:=hc,fR:=q6,kd:=h.kd,jq:=h.jq,jS:=h.jS,ke:=h.ke,pro:=λl aI L n st e=>(oZ l aI L n st e).elim,jr:=h.jr,ij:=h.ij.mono bd he }
theorem bc.vl{C:bS}{s:ay}{a:Act}{w:World}{κ:Nat->bo}{F:Nat->Prop}(h:bc C s a w κ F){w0 w':World}{F0 K0:Nat->Prop}{nt:Nat}{dfr:List Deferred}{r:Option Nat}{sl:Nat->aD}{a':Act}
  (L_:a'.tmps.size=nt) (Ma:a'.defers=dfr) (q6:nt<=ev) (hsl:∀ i,bl C.P s.ad κ F w (sl i) (a'.tmps.getD i undef)) (oZ:∀ l aI L n st,sl TRS≠.tr l aI L n st)
  (heq:∀ r,F r\/(∃ b,(s.ad b).body.bJ (κ b)=true/\(κ b).ad=r)->w'.heap[r]?=w.heap[r]?) (bW:w.heap.size<=w'.heap.size)
  (Mb:∀ r,F r->F0 r\/¬K0 r) (Mc:∀ r,F0 r->F r) (C6:∀ r,K0 r->r<w0.heap.size) (tS:∀ r,K0 r->w'.heap[r]?=w0.heap[r]?) (fS:∀ b,(s.ad b).body.bJ (κ b)=true->¬K0 (κ b).ad)
  (mM:w0.heap.size<=w'.heap.size) (hc:cM w0 w') :
  bc { C with w0:=w0,F0:=F0,K0:=K0,nt:=nt,dfr:=dfr,r:=r } ⟨sl,s.ad⟩ a' w' κ F:=
 h.TT L_ Ma q6 hsl oZ heq bW (λ_ h=>h) (λr G=>Nat.lt_of_lt_of_le (h.cL r G) bW) (λb ab=>(h.own b ab).2.1) Mb Mc C6 tS fS mM hc
theorem bc.GG{C:bS}{s:ay}{a:Act}{w:World}{κ:Nat->bo}{F:Nat->Prop}(h:bc C s a w κ F){w0 w':World}{K0:Nat->Prop}{r:Option Nat}
    (ix:∀ r,K0 r->C.K0 r) (heq:∀ r,F r\/¬C.K0 r->w'.heap[r]?=w.heap[r]?) (bW:w.heap.size<=w'.heap.size) (xA:cM w w')
    (C6:∀ r,K0 r->r<w0.heap.size) (tS:∀ r,K0 r->w'.heap[r]?=w0.heap[r]?) (mM:w0.heap.size<=w'.heap.size) (hc:cM w0 w') :
    bc { C with w0:=w0,K0:=K0,r:=r } s a w' κ F:=by
  have he:cG F w w':=⟨bW,λr G=>heq r (.inl G)⟩
  have i_:∀ r,F r->r<w'.heap.size:=λr G=>Nat.lt_of_lt_of_le (h.cL r G) bW;exact {
          dk:=h.dk,dfr:=h.dfr,bF:=λi=>bl.later (e6.refl _ _) (λ_ h=>h) he (h.bF i)
          bp:=λb=>cg.kT (h.bp b) (e6.refl _ _) (λ_ h=>h) he rfl rfl λag=>heq _ (.inr (h.own b ag).2.2)
          own:=λb ab=>⟨Nat.lt_of_lt_of_le (h.own b ab).1 bW,(h.own b ab).2.1,λk=>(h.own b ab).2.2 (ix _ k)⟩,inj:=h.inj,cL:=i_
          gN:=λr G=>(h.gN r G).imp id λk k'=>k (ix r k'),hE:=h.hE,g_:=C6,ef:=tS,size:=mM,dV:=hc,fR:=h.fR,kd:=h.kd,jq:=h.jq,jS:=h.jS,ke:=h.ke
          pro:=λl aI L n st e=>by
            obtain⟨h1,h2,Y,h3,aR,bw⟩:=h.pro l aI L n st e;exact⟨h1,h2,Y,λr G=>⟨Nat.lt_of_lt_of_le (h3 r G).1 bW,(h3 r G).2.1,λk=>(h3 r G).2.2 (ix r k)⟩,aR,h2.JB bw (λ_ h=>h) (λr G=>heq r (G.imp id λaM=>(h3 r aM).2.2)) bW xA i_ λr ar aM=>(h3 r aM).2.1 ar⟩
          jr:=h.jr,ij:=h.ij.mono (λ_ h=>h) he }
theorem TU{P:Program}{H:Nat->bu}{κ:Nat->bo}{F:Nat->Prop}{w:World}{aI:af}{x:aI.ah}:∀ (ps:List Tmp) (args:List Value) (j:Nat) (f:Nat->aD) (oh:Array Value),ps.length=args.length->(∀ p∈ps,p<oh.size)->
  (∀ i,bl P H κ F w (f i) (oh.getD i undef))->(∀ i,i<args.length->bl P H κ F w (ki aI x (j+i)) (args.getD i undef))->
  ∀ i,bl P H κ F w (zA aI x ps j f i) (((ps.zip args).foldl (λtmps p=>tmps.setIfInBounds p.1 p.2) oh).getD i undef)
 | [],[],_,_,_,_,_,ar,_,i=>ar i
 | p::ps,v::args,j,f,oh,ai,hp,ar,hv,i=>by
  simp only[zA,List.zip_cons_cons,List.foldl_cons];refine TU ps args (j+1) _ _ (by grind) (λq bf=>by grind) (λi=>?_) (λi E=>?_) i
  ·rw[Array.getD_eq_getD_getElem?,Array.getElem?_setIfInBounds];by_cases e:i=p
   ·grind
   ·rw[if_neg e,if_neg (Ne.symm e)];simp_all
  ·have:=hv (i+1) (by grind);grind
theorem ahb{ps:List Tmp}{args:List Value}:∀ {oh:Array Value},((ps.zip args).foldl (λtmps p=>tmps.setIfInBounds p.1 p.2) oh).size=oh.size:=by
 generalize ps.zip args=l;induction l with
 | nil=>simp
 | cons p l aH=>grind
def sd:cQ->Option Code
 | .normal=>none
 | .exit id=>some (.exit id)
 | .ret=>some .ret
def eP(fn:FuncId)(oh:Array Value)(ps:Array Tmp)(assign body:Code)(B:Nat)(st:LoopState)(e:cQ):Loop:=
 { state:=st,pending:=sd e,fn:=fn,tmps:=oh,params:=ps,assign:=assign,body:=body,defers:=B }
def GH(P:Program)(aK:dj)(nt:Nat)(assign body:Code)(l:Nat){rout:dm}(run:ay->M (cQ×rout.ah)):Prop:=
 ∀ (C1:bS),C1.P=P->C1.aK=aK->C1.nt=nt->C1.r=some l->∀ (eg:ay) (bV:Act) (b6:World) (p5:cQ×rout.ah->Prop),b9 C1 eg bV b6->M.b_ (run eg) p5->
  assign.wpIn (dw (some l)) 0 P (Exit.then (λa2 cI=>∃ u ds,C1.jC u/\b9 (C1.gR u) ds a2 cI/\
   ∀ (hd:bS),hd.P=P->hd.aK=aK->hd.nt=nt->hd.r=some l->∀ (cI:World),b9 hd ds a2 cI->
    body.wpIn (dw (some l)) 0 P (λe a3 eD=>∃ (aS:cQ) (v:nI) (ei:ay) (τ:rout.ah),e=aS.o6/\hd.jC v/\b9 (hd.gR v) ei a3 eD/\rout.iP ei=some τ/\p5 (aS,τ)) a2 cI) (λ_ _ _=>False)) bV b6
theorem ahc{ts:List (Nat×bI)}{R:Type}(h:ts.isEmpty=true)(g:Nat->Nat×Nat)(z:n' ts R)(i:Nat):e7 (eb g ts z).1 i=.undef:=by
 cases ts with
 | nil=>rfl
 | cons p ts=>cases h
theorem ahd{P:Program}{l:Nat}{R:Ending->World->Prop}{e:cQ}{a:Act}{w:World}{r:Loop}(h:w.heap[l]?=some (.loop r))
  (jD:R (.returned (.bool (sd e).isNone)) (w.putObj l (.loop { r with state:=if (sd e).isNone then .ready else .done,pending:=sd e }))):roundPost P l R e.o6 a w:=by
 cases e with
 | normal=>exact⟨_,_,run_endRound none h,jD⟩
 | exit id=>exact⟨_,_,run_endRound (some (.exit id)) h,jD⟩
 | ret=>exact⟨_,_,run_endRound (some .ret) h,jD⟩
theorem ahe{CI:bS}{sh rin rout:dm}{aI:af}{ps:Array Tmp}{assign body:Code}{a:Act}{W:World}{κ:Nat->bo}{F:Nat->Prop}{A:sh.ah}{fn:FuncId}{l B:Nat}{x:aI.ah}{args:List Value}{run:ay->M (cQ×rout.ah)}
  {Or:cQ×sh.ah->Prop} {Y Z:Nat->Prop} (ahf:Z l)
  (G:bc CI (sh.st A) a W κ F) (dG:nF sh rout aI ps.toList a.tmps.size=true) (C7:GH CI.P CI.aK a.tmps.size assign body l run) (an:M.b_ (tH sh rin rout aI ps.toList A x run) Or)
  (ai:W.heap[l]?=some (.loop (eP fn a.tmps ps assign body B .ready .normal))) (ahg:¬F l) (pT:∀ b,((sh.st A).ad b).body.bJ (κ b)=true->Y (κ b).ad/\¬Z (κ b).ad) (dB:e5 CI.P aI F W args x) :
  ∃ tmps,(Instr.yield l args.toArray).run CI.P W=.ok (.round l fn tmps assign body) W/\RoundIn Fence.wide 0 CI.P l fn tmps assign body W λe p6=>
   ∃ (e0:cQ) (iv:sh.ah) (κ':Nat->bo) (F':Nat->Prop) (o:Obj),e=.returned (.bool (sd e0).isNone)/\Or (e0,iv)/\p6.heap[l]?=some (.loop (eP fn a.tmps ps assign body B (if (sd e0).isNone then .ready else .done) e0))/\
    bc { CI with w0:=W.putObj l o,F0:=F,K0:=λr=>r<W.heap.size/\(Z r\/¬Y r) } (sh.st iv) a p6 κ' F':=by
 simp only[nF,Bool.and_eq_true,decide_eq_true_eq,Bool.not_eq_true',List.all_eq_true]at dG;obtain⟨⟨⟨⟨aO,aP⟩,bA⟩,gi⟩,oY⟩:=dG;have zO:l<W.heap.size:=(Array.getElem?_eq_some_iff.1 ai).1;obtain⟨ik,GI⟩:=tt (H:=(sh.st A).ad) (κ:=κ) aI dB bA;have oZ:(sh.st A).ax TRS=.undef:=xn sh.bF cJ A TRS aP;have Fg:(Array.zip ps args.toArray).foldl (λtmps (x:Tmp×Value)=>match x with | (t,a)=>tmps.setIfInBounds t a) a.tmps=(ps.toList.zip args).foldl (λtmps p=>tmps.setIfInBounds p.1 p.2) a.tmps:=by
  rw[<-Array.foldl_toList];simp
 refine⟨(ps.toList.zip args).foldl (λtmps p=>tmps.setIfInBounds p.1 p.2) a.tmps,?_,?_⟩
 ·rw[<-Fg];exact run_yield ai (by show args.toArray.size=ps.size;grind)
 have ahh:bc { CI with w0:=W,F0:=F,K0:=λr=>r<W.heap.size/\(Z r\/¬Y r) } (sh.st A) a W κ F:=
  G.vl G.dk G.dfr G.fR G.bF (λl aI L n st e=>by have e:(sh.st A).ax TRS=.tr l aI L n st:=e;grind) (λ_ _=>rfl) (Nat.le_refl _) (λ_ h=>.inl h) (λ_ h=>h) (λ_ h=>h.1) (λ_ _=>rfl)
   (λb ab h=>h.2.elim (pT b ab).2 λh=>h (pT b ab).1) (Nat.le_refl _) (cM.refl _)
 unfold tH at an;split at an
 ·rename_i aF fl ahi;split at an
  ·rename_i cq;rw[M.fJ]at an;have gx:bc { CI with w0:=W,F0:=F,K0:=λr=>r<W.heap.size/\(Z r\/¬Y r),nt:=a.tmps.size,dfr:=[],r:=none } ⟨(xh (sh.st A) aI x ps.toList).ax,(sh.st A).ad⟩ { tmps:=(ps.toList.zip args).foldl (λtmps p=>tmps.setIfInBounds p.1 p.2) a.tmps,defers:=[] } W κ F:=by
    refine G.vl ahb rfl (by rw[G.dk];exact G.fR) (λi=>?_) (λl' kn L' iL h_ e=>?_) (λ_ _=>rfl) (Nat.le_refl _) (λ_ h=>.inl h) (λ_ h=>h) (λ_ h=>h.1) (λ_ _=>rfl)
     (λb ab h=>h.2.elim (pT b ab).2 λh=>h (pT b ab).1) (Nat.le_refl _) (cM.refl _)
    ·show bl CI.P (sh.st A).ad κ F W (if i=TRS then (sh.st A).ax TRS else zA aI x ps.toList 0 (sh.st A).ax i) _;split
     ·rw[oZ];trivial
     ·exact TU ps.toList args 0 _ _ (by omega) (λp hp=>by grind) G.bF (λi E=>by grind) i
    ·have e:(if TRS=TRS then (sh.st A).ax TRS else zA aI x ps.toList 0 (sh.st A).ax TRS)=.tr l' kn L' iL h_:=e;grind
   obtain⟨F',own,gf,h4,f1,aW,fS,C8,axM,CH,LF⟩:=S4 (c:=vb rin rout) ahh gx (by rfl) ahi rfl cq;have Md:l<W.heap.size/\(Z l\/¬Y l):=⟨zO,.inl ahf⟩
   have TV:¬F' l:=λh=>(aW.gN l h).elim ahg λh=>h Md;have ahj:¬own l:=λh=>by
    obtain⟨b,h1,h2⟩:=fS l h;exact (aW.own b h1).2.2 (h2 ▸ Md)
   have ahk:¬gf l:=λh=>(C8.low l h).2.2 Md;have TW:l<W.heap.size/\¬own l/\¬gf l:=⟨zO,ahj,ahk⟩
   have GJ:bc { qY CI W F' a.tmps.size own gf h4 with r:=some l } (rin.st aF) _ W _ F':=CH.GG (w0:=W) (w':=W) (K0:=λr=>r<W.heap.size/\¬own r/\¬gf r) (r:=some l) (λ_ h=>h) (λ_ _=>rfl) (Nat.le_refl _) (cM.refl _) (λ_ h=>h.1) (λ_ _=>rfl) (Nat.le_refl _) (cM.refl _);refine roundIn_of_wpIn trivial ?_;refine wpIn_mono (C7 { qY CI W F' a.tmps.size own gf h4 with r:=some l } rfl rfl rfl rfl (rin.st aF) _ W _ ⟨_,_,GJ⟩ an) λe a2 cI bf=>?_;cases e with
   | normal=>
    obtain⟨u,ds,hu,⟨mL,dN,cr⟩,bD⟩:=bf;have se:u.K l:=hu.gS l TW;have fV:cI.heap[l]?=some (.loop (eP fn a.tmps ps assign body B .ready .normal)):=(cr.ef l se).trans ((hu.ef l TW).trans ai);refine⟨_,run_beginRound fV rfl,?_⟩;have ahl:l<cI.heap.size:=(Array.getElem?_eq_some_iff.1 fV).1;have ahm:¬dN l:=λh=>(cr.gN l h).elim TV λh=>h se;have om:=cr.GG (w0:=cI.putObj l (.loop (eP fn a.tmps ps assign body B .busy .normal))) (w':=cI.putObj l (.loop (eP fn a.tmps ps assign body B .busy .normal))) (K0:=u.K) (r:=some l) (λ_ h=>h)
     (λr h=>World.putObj_heap_other λe=>by
      subst e;exact h.elim ahm λh=>h se) (by simp) ⟨rfl,rfl,rfl⟩ (λr h=>by
       have:=cr.g_ r h;have:=cr.size;simp;omega) (λ_ _=>rfl) (Nat.le_refl _) (cM.refl _)
    refine wpIn_mono (bD { ({ qY CI W F' a.tmps.size own gf h4 with r:=some l }:bS).gR u with w0:=cI.putObj l (.loop (eP fn a.tmps ps assign body B .busy .normal)),K0:=u.K,r:=some l } rfl rfl rfl rfl _ ⟨mL,dN,om⟩) λe a3 eD ⟨aS,v,ei,τ,he,hv,⟨GK,TX,mc⟩,hτ,GL⟩=>?_;subst he;obtain⟨GK,TY,f4,oo⟩:=dm.zC hτ mc;have wT:v.K l:=hv.gS l se;have GM:eD.heap[l]?=some (.loop (eP fn a.tmps ps assign body B .busy .normal)):=(oo.ef l wT).trans ((hv.ef l se).trans (World.putObj_heap_same ahl));have TZ:l<eD.heap.size:=(Array.getElem?_eq_some_iff.1 GM).1;have axN:¬TY l:=λh=>(oo.gN l h).elim TV λh=>h wT;generalize fX:(if (sd aS).isNone then LoopState.ready else .done)=h_;refine ahd GM ?_;rw[fX];have l9:bc { CI with w0:=W.putObj l (.loop (eP fn a.tmps ps assign body B h_ aS)),F0:=F,K0:=λr=>r<W.heap.size/\(Z r\/¬Y r) } ((sh.st A).cc fl) a (W.putObj l (.loop (eP fn a.tmps ps assign body B h_ aS))) κ F':=
     aW.GG (λ_ h=>h) (λr h=>World.putObj_heap_other λe=>by
      grind) (by simp) ⟨rfl,rfl,rfl⟩ (λr h=>by simpa using h.1) (λ_ _=>rfl) (Nat.le_refl _) (cM.refl _)
    have zG:W.heap.size<=eD.heap.size:=by
     have h1:=hu.size;have h2:=cr.size;have h3:=hv.size;have aR:=oo.size;have h1:W.heap.size<=u.w.heap.size:=h1;have h2:u.w.heap.size<=cI.heap.size:=h2;have h3:(cI.putObj l (.loop (eP fn a.tmps ps assign body B .busy .normal))).heap.size<=v.w.heap.size:=h3;have aR:v.w.heap.size<=eD.heap.size:=aR;simp only[World.putObj_size]at h3;omega
    have xB:cM W eD:=by
     have h1:cM W u.w:=hu.dV;have h2:cM u.w cI:=cr.dV;have h3:cM cI v.w:=⟨hv.dV.os,hv.dV.tape,hv.dV.output⟩
     exact h1.trans (h2.trans (h3.trans oo.dV))
    have ahn:∀ i,(rout.st τ).ax i=.undef:=λi=>ahc aO cJ τ i;have lC:∀ r,(r<(W.putObj l (.loop (eP fn a.tmps ps assign body B h_ aS))).heap.size/\¬own r/\¬gf r)->(r<W.heap.size/\¬own r/\¬gf r):=λr h=>⟨by simpa using h.1,h.2⟩
    have hq:=oo.vl (w0:=W.putObj l (.loop (eP fn a.tmps ps assign body B h_ aS))) (w':=eD.putObj l (.loop (eP fn a.tmps ps assign body B h_ aS))) (F0:=F') (K0:=λr=>r<(W.putObj l (.loop (eP fn a.tmps ps assign body B h_ aS))).heap.size/\¬own r/\¬gf r) (nt:=0) (dfr:=[]) (r:=none) (sl:=(rout.st τ).ax) (a':={ tmps:=#[],defers:=[] }) rfl rfl (Nat.zero_le _)
     (λi=>by rw[ahn];trivial) (λl aI L n st e=>by grind)
     (λr h=>World.putObj_heap_other λe=>by
      subst e;rcases h with h | ⟨b,h1,h2⟩
      ·grind
      ·exact (oo.own b h1).2.2 (h2 ▸ wT)) (by simp) (λr h=>(oo.gN r h).imp id λh c6=>h (hv.gS r (hu.gS r (lC r c6)))) oo.hE (λr h=>h.1)
     (λr h=>by
      by_cases e:r=l
      ·subst e;rw[World.putObj_heap_same TZ,World.putObj_heap_same zO]
      ·rw[World.putObj_heap_other e,World.putObj_heap_other e];have h1:u.K r:=hu.gS r (lC r h);exact (oo.ef r (hv.gS r h1)).trans ((hv.ef r h1).trans ((World.putObj_heap_other e).trans ((cr.ef r h1).trans (hu.ef r (lC r h))))))
     (λb ab h=>(oo.own b ab).2.2 (hv.gS _ (hu.gS _ (lC _ h)))) (by simpa using zG) ⟨xB.os,xB.tape,xB.output⟩
    obtain⟨κn,nH,_⟩:=LF (W.putObj l (.loop (eP fn a.tmps ps assign body B h_ aS))) (W.putObj l (.loop (eP fn a.tmps ps assign body B h_ aS))) l9 ⟨λl' kn L' iL h_ e=>(by
      grind),λr h=>⟨by simpa using (C8.low r h).1,(C8.low r h).2⟩,C8.own,C8.non⟩ τ [] (eD.putObj l (.loop (eP fn a.tmps ps assign body B h_ aS))) GK TY hq
    obtain⟨iv,Me,aho⟩:=tR GL;obtain⟨κn,ahp,_,ahq⟩:=dm.zC Me nH;exact⟨aS,iv,κn,ahp,(.loop (eP fn a.tmps ps assign body B h_ aS)),rfl,M.dF.1 aho,by rw[fX];exact World.putObj_heap_same TZ,ahq⟩
   | _=>exact bf.elim
  ·exact an.1.elim
 ·exact an.1.elim
theorem T0{w:World}{o hF:Obj}{r:Nat}(h:r<w.heap.size):((w.alloc o).alloc hF).heap[r]?=w.heap[r]?:=
 (oN _ _ (by simp;omega)).trans (oN _ _ h)
def ahr(C CI:bS){β:Type}(sh rin rout:dm)(aI:af)(D:List aI.ah->Prop)(ps:Array Tmp)(assign body:Code)(a:Act)(fn:FuncId)(l B:Nat)(run:ay->M (cQ×rout.ah))(k:cQ->ay->M β)(O:β->Prop)
  (st:Bool) (F Y:Nat->Prop) (W:World):Prop:=
 ∃ (e:cQ) (A:sh.ah) (κ:Nat->bo),bc CI (sh.st A) a W κ F/\W.heap[l]?=some (.loop (eP fn a.tmps ps assign body B (if st then .done else .ready) e))/\W.heap[B]?=some (.deferred (some []))/\
  (∀ b,((sh.st A).ad b).body.bJ (κ b)=true->Y (κ b).ad/\¬((κ b).ad=l\/(κ b).ad=B))/\Y l/\Y B/\¬F l/\¬F B/\C.P=CI.P/\
  (st=false->e=.normal/\∀ R,D R->M.b_ (jA (λA y=>tH sh rin rout aI ps.toList A y run) R A) λp=>M.b_ (k p.1 (sh.st p.2)) O)/\(st=true->e≠.normal/\M.b_ (k e (sh.st A)) O)
theorem T1{C CI:bS}{β:Type}{sh rin rout:dm}{aI:af}{S:List aI.ah->Prop}{ps:Array Tmp}{assign body:Code}{a:Act}{fn:FuncId}{l B:Nat}{run:ay->M (cQ×rout.ah)}{k:cQ->ay->M β}{O:β->Prop}
  (ix:CI.K0=λ_=>False) (ahs:l≠B) (dG:nF sh rout aI ps.toList a.tmps.size=true) (C7:GH CI.P CI.aK a.tmps.size assign body l run) :
  ET CI.P (e5 CI.P aI) l S λpre=>ahr C CI sh rin rout aI (λR=>S (pre++R)) ps assign body a fn l B run k O where
 Bt:=λ{pre st F F' Y w w'} h bd heq bW jx i_ C5=>by
  have hc:cM w w':=⟨jx.1,jx.2.1,jx.2.2⟩
  obtain⟨e,A,κ,G,h1,h2,h3,aR,bw,cZ,fN,iX,pH⟩:=h;have oZ:(sh.st A).ax TRS=.undef:=by
   simp only[nF,Bool.and_eq_true,Bool.not_eq_true']at dG;exact xn sh.bF cJ A TRS dG.1.1.1.2
  have tT:∀ r,CI.K0 r->False:=λr h=>by grind
  refine⟨e,A,κ,?_,(heq l (.inr aR)).trans h1,(heq B (.inr bw)).trans h2,h3,aR,bw,λh=>C5 l h aR,λh=>C5 B h bw,iX,pH⟩;exact G.TT G.dk G.dfr G.fR G.bF (λl' kn L' iL h_ e=>by have e:(sh.st A).ax TRS=.tr l' kn L' iL h_:=e;grind)
   (λr aW=>heq r (aW.imp id λ⟨b,ab,e⟩=>e ▸ (h3 b ab).1)) bW bd i_ (λb ab ar=>C5 _ ar (h3 b ab).1) (λr _=>.inr (tT r)) (λr h=>bd r (G.hE r h)) (λr h=>(tT r h).elim) (λr h=>(tT r h).elim) (λb _=>tT _)
   (Nat.le_trans G.size bW) (G.dV.trans hc)
 yield:=λ{pre F Y w args x} h i_ T2 hx dB=>by
  obtain⟨Mf,Mg⟩:=hx;obtain⟨e,A,κ,G,h1,h2,h3,aR,bw,cZ,fN,iX,pH,_⟩:=h;obtain⟨rfl,an⟩:=pH rfl;have oZ:∀ A:sh.ah,(sh.st A).ax TRS=.undef:=λA=>by
   simp only[nF,Bool.and_eq_true,Bool.not_eq_true']at dG;exact xn sh.bF cJ A TRS dG.1.1.1.2
  have tT:∀ r,CI.K0 r->False:=λr h=>by grind
  have an:M.b_ (tH sh rin rout aI ps.toList A x run) λp=>∀ T,S (pre++x::T)->M.b_ (match p.1 with
    | .normal=>jA (λA y=>tH sh rin rout aI ps.toList A y run) T p.2
    | .exit id=>M.pure (.exit id,p.2)
    | .ret=>M.pure (.ret,p.2)) λp=>M.b_ (k p.1 (sh.st p.2)) O:=by
   have h1:=λT hT=>M.fJ.1 (an (x::T) hT);exact⟨(h1 Mf Mg).1,λy aM T hT=>(h1 T hT).2 y aM⟩
  obtain⟨tmps,aM,aht⟩:=ahe (Z:=λr=>r=l\/r=B) (.inl rfl) G dG C7 an h1 cZ h3 dB;refine⟨fn,tmps,assign,body,aM,aht.mono λaS p6 ⟨e0,iv,κ',F',o,he,GL,GN,aW⟩=>?_⟩;have zO:l<w.heap.size:=(T2 l aR).1;have Mh:B<w.heap.size:=(T2 B bw).1;have g1:∀ r,F r->F' r:=aW.hE;have dW:∀ r,F' r->F r\/Y r\/w.heap.size<=r:=λr cr=>by
   rcases aW.gN r cr with h | h
   ·exact .inl h
   ·by_cases b4:r<w.heap.size
    ·by_cases aM:Y r
     ·exact .inr (.inl aM)
     ·exact (h ⟨b4,.inr aM⟩).elim
    ·exact .inr (.inr (Nat.le_of_not_lt b4))
  have T3:∀ r,r<w.heap.size->¬F r->(r=l\/r=B)->¬F' r:=λr b4 ar bb q1=>(aW.gN r q1).elim ar λh=>h ⟨b4,.inl bb⟩;have T4:¬F' l:=T3 l zO cZ (.inl rfl);have vh:¬F' B:=T3 B Mh fN (.inr rfl);have T5:∀ b,((sh.st iv).ad b).body.bJ (κ' b)=true->¬((κ' b).ad=l\/(κ' b).ad=B)/\(Y (κ' b).ad\/w.heap.size<=(κ' b).ad):=λb ab=>by
   have ao:=(aW.own b ab).2.2;grind
  have GO:w.heap.size<=p6.heap.size:=by have:=aW.size;simpa using this
  have gc:cM w p6:=⟨aW.dV.os,aW.dV.tape,aW.dV.output⟩
  have axO:∀ T,pre++[x]++T=pre++x::T:=λT=>by simp
  refine⟨(sd e0).isNone,F',λr=>(∃ b,((sh.st iv).ad b).body.bJ (κ' b)=true/\(κ' b).ad=r)\/r=l\/r=B,he,g1,dW,aW.cL,λr b4 aM=>?_,λr cr=>?_,GO,⟨gc.os,gc.tape,gc.output⟩,?_⟩
  ·have ea:r≠l:=λe=>aM (e ▸ aR);exact (aW.ef r ⟨b4,.inr aM⟩).trans (World.putObj_heap_other ea)
  ·rcases cr with⟨b,ab,rfl⟩ | rfl | rfl
   ·exact⟨(T5 b ab).2,(aW.own b ab).1,(aW.own b ab).2.1⟩
   ·exact⟨.inl aR,Nat.lt_of_lt_of_le zO GO,T4⟩
   ·exact⟨.inl bw,Nat.lt_of_lt_of_le Mh GO,vh⟩
  ·refine⟨e0,iv,κ',?_,?_,?_,λb ab=>⟨.inl ⟨b,ab,rfl⟩,(T5 b ab).1⟩,.inr (.inl rfl),.inr (.inr rfl),T4,vh,iX,λfX=>?_,λfX=>?_⟩
   ·exact aW.vl aW.dk aW.dfr aW.fR aW.bF (λl' kn L' iL h_ e=>by have e:(sh.st iv).ax TRS=.tr l' kn L' iL h_:=e;grind) (λ_ _=>rfl) (Nat.le_refl _) (λr _=>.inr (tT r)) (λr h=>g1 r (G.hE r h))
     (λr h=>(tT r h).elim) (λr h=>(tT r h).elim) (λb _=>tT _) (Nat.le_trans G.size GO) (G.dV.trans gc)
   ·grind
   ·exact (aW.ef B ⟨Mh,.inl (.inr rfl)⟩).trans ((World.putObj_heap_other (Ne.symm ahs)).trans h2)
   ·cases e0 with
    | normal=>grind
    | _=>cases fX
   ·cases e0 with
    | normal=>cases fX
    | exit id=>exact⟨by simp,(GL Mf Mg).2 _ rfl⟩
    | ret=>exact⟨by simp,(GL Mf Mg).2 _ rfl⟩
theorem T6{P:Program}{l:Nat}{aI:af}{S:List aI.ah->Prop}{I:List aI.ah->Bool->(Nat->Prop)->(Nat->Prop)->World->Prop}(h:ET P (e5 P aI) l S I):lq.Ok P ⟨l,aI,S,I⟩ where
 Bt:=λh1 h2 h3 aR bw cZ fN=>h.Bt h1 h2 h3 aR ⟨bw.os,bw.tape,bw.output⟩ cZ fN
 yield:=λh1 h2 h3 aR bw=>YieldAt.mono (h.yield h1 h2 h3 aR bw) λ_ _ ⟨b,F',gf,aO,aP,bA,gi,oY,xo,GP,C9,Mi⟩=>⟨b,F',gf,aO,aP,bA,gi,oY,xo,GP,⟨C9.1,C9.2.1,C9.2.2⟩,Mi⟩
end Go.Fer
