/- Part 3 of the proof of Questions: shallow programs of Go functions, and what they compute. No condition. -/
import Derived.Test.YtplfnoecifjgeaaGreatDoorQuestionsB
import Derived.RangeFuncIn
import Derived.RangeFuncRecord
import Derived.RangeFuncBound
noncomputable section
namespace Go.Fer
open Go.RowKit
def ou (x y:bQ):Prop:=(y.fC=true->x.fC=true)/\(y.fc=true->x.fc=true/\y.len=x.len/\y.eY=x.eY)/\(y.gQ=true->x.gQ=true)/\(y.mD=true->x.mD=true)/\∀ k,y.b1 k=true->x.b1 k=true
theorem ou.refl (x:bQ):ou x x:=⟨id,λh=>⟨h,rfl,rfl⟩,id,id,λ_=>id⟩
theorem ou.fw (x:bQ):ou x .fw:=⟨λh=>(by cases h),λh=>(by cases h),λh=>(by cases h),λh=>(by cases h),λ_ h=>(by cases h)⟩
def r8 (f:Nat->Nat) (H H':Nat->bL):Prop:=∀ b,(H' b).gen=0/\ou (H (f b)).body (H' b).body
section
variable {P:Program} {H H':Nat->bL} {κ:Nat->bD} {F F':Nat->Prop} {w:World} {f:Nat->Nat}
theorem SC (aC:r8 f H H') {b off:Nat} {v:Value} (h:bA P H κ F w (.a1 (f b) (H (f b)).gen off) v):bA P H' (λb=>κ (f b)) F' w (.a1 b 0 off) v:=
 ⟨⟨Nat.zero_le _,h.1.2⟩,λ_ hc=>h.2 rfl ((aC b).2.1 hc)⟩
def Ld (P:Program) (H H':Nat->bL) (κ:Nat->bD) (f:Nat->Nat) (F F':Nat->Prop) (w:World) {R:Type} (r:Option (R×List Nat)) (l:List Nat) (av av':aI) (y:R):Prop:=
 ∃ m,r=some (y,m)/\(∀ b∈m,b∈l)/\(iR H κ F' l->∀ v,bA P H κ F w av v->bA P H' (λb=>κ (f b)) F' w av' v)
theorem Ld.hC {R:Type} {r:Option (R×List Nat)} {l:List Nat} {av av':aI} {y:R} (h:r=some (y,l)) (k:∀ v,bA P H κ F w av v->bA P H' (λb=>κ (f b)) F' w av' v):Ld P H H' κ f F F' w r l av av' y:=
 ⟨l,h,λ_ aa=>aa,λ_=>k⟩
theorem kz {al:Type} {b:Bool} {r:Option al} {x:al} (h:u3 b r=some x):b=true/\r=some x:=by
 cases b with
 | true=>exact ⟨rfl,h⟩
 | false=>cases h
theorem qa {t:ad} {av:aI} {R:Type} {r:Option (R×List Nat)} {z:t.ai×R} {l:List Nat} (h:w2 H t av r=some (z,l)):∃ e_ m,(dA t av).run H=some (z.1,e_)/\r=some (z.2,m)/\l=e_++m:=by
 unfold w2 at h;grind
theorem Le {t:ad} {av:aI} {R:Type} {r:Option (R×List Nat)} {z:t.ai×R} {l:List Nat} (h:KI t av r=some (z,l)):av=.dW t z.1/\r=some (z.2,l):=by
 unfold KI at h;grind
theorem Lf {b:Nat} {av:aI} {R:Type} {r:Option (R×List Nat)} {z:(Nat×Nat)×R} {l:List Nat} (h:KJ H b av r=some (z,l)) :
  r=some (z.2,l)/\(av=.sub b (H b).gen z.1.1 z.1.2\/(av=.an b (H b).gen/\(H b).body.fc=true/\z.1=(0,(H b).body.len))):=by
 unfold KJ at h;grind
theorem F1 {aN:ad} {av:aI} {R:Type} {r:Option (R×List Nat)} {z:(Nat×(List aN.ai->Prop)×List aN.ai×Bool)×R} {l:List Nat} (h:KK aN av r=some (z,l)) :
  r=some (z.2,l)/\av=.aW z.1.1 aN z.1.2.1 z.1.2.2.1 z.1.2.2.2:=by
 unfold KK at h;grind
theorem Lg {b:Nat} {av:aI} {R:Type} {r:Option (R×List Nat)} {z:Nat×R} {l:List Nat} (h:KM H b av r=some (z,l)):r=some (z.2,l)/\av=.iP b (H b).gen z.1:=by
 unfold KM at h;grind
theorem Lh {av:aI} {R:Type} {r:Option (R×List Nat)} {z:Nat×R} {l:List Nat} (h:KL av r=some (z,l)):r=some (z.2,l)/\av=.g_ z.1:=by
 unfold KL at h;grind
theorem SD {b off:Nat} {av:aI} (h:Fz H b off av=true):av=.a1 b (H b).gen off:=by
 unfold Fz at h;grind
theorem SE {b:Nat} {av:aI} (h:FA H b av=true):av=.an b (H b).gen:=by
 unfold FA at h;grind
theorem aer {b:Nat} {av:aI} (h:KN H b av=true):av=.fb b (H b).gen:=by
 unfold KN at h;grind
theorem aes {b:Nat} {av:aI} (h:KO H b av=true):av=.j0 b (H b).gen:=by
 unfold KO at h;grind
theorem aet {av:aI} (h:KP av=true):av=.df:=by
 unfold KP at h;grind
theorem aeu (aC:r8 f H H') {k:FuncId} {fP:z8'} {av:aI} (h:KQ H f k fP av=true) {v:Value} (af:bA P H κ F w av v):bA P H' (λb=>κ (f b)) F' w (.iu k fP.length (u1 c7 fP)) v:=by
 unfold KQ at h;split at h
 ·rename_i k' n cW;simp only [Bool.and_eq_true,beq_iff_eq] at h;obtain ⟨⟨rfl,rfl⟩,e⟩:=h;obtain ⟨aE,G,V,ah⟩:=af;refine ⟨aE,G,V,λi M=>?_⟩;have he:=List.all_eq_true.1 e i (by grind);have af:=ah i M;rw [show fP[i]?=some fP[i] by simp] at he;rw [SD he] at af;have:u1 c7 fP i=.a1 fP[i].1 0 fP[i].2:=by simp [u1,hb,List.getD_eq_getElem?_getD,M,c7]
  rw [this];exact SC aC af
 grind
theorem aev (aC:r8 f H H') {bs:List Nat} {av:aI} (h:KR H f bs av=true) {v:Value} (af:bA P H κ F w av v):bA P H' (λb=>κ (f b)) F' w (.agg bs.length (u2 c7 bs)) v:=by
 unfold KR at h;split at h
 ·rename_i n ds;simp only [Bool.and_eq_true,beq_iff_eq] at h;obtain ⟨rfl,e⟩:=h;obtain ⟨aE,G,V,ah⟩:=af;refine ⟨aE,G,V,λi M=>?_⟩;have he:=List.all_eq_true.1 e i (by grind);obtain ⟨af,hc⟩:=ah i M;refine ⟨?_,hc⟩;rw [show bs[i]?=some bs[i] by simp] at he;rw [SE he] at af;have:u2 c7 bs i=.an bs[i] 0:=by simp [u2,hb,List.getD_eq_getElem?_getD,M,c7]
  rw [this];refine ⟨⟨Nat.zero_le _,af.1.2⟩,λ_ hc=>?_⟩;obtain ⟨aU,aX,_⟩:=(aC bs[i]).2.2.1 hc;rw [aX];exact af.2 rfl aU
 grind
theorem xc (aT:∀ b,cB P H κ F w b) (bo:∀ r,F r->F' r) (aC:r8 f H H') (t:bX) {av:aI} {R:Type} {r:Option (R×List Nat)} {z:t.cons R} {l:List Nat} (h:t.iX H f av r=some (z,l)) :
  Ld P H H' κ f F F' w r l av (t.av c7 z).1 (t.av c7 z).2:=by
 cases t with
 | undef=>exact .hC h λ_ _=>by simp only [bX.av,bA]
 | val t=>
  obtain ⟨e_,m,aj,rfl,rfl⟩:=qa h;exact ⟨m,rfl,λb aa=>List.mem_append_right _ aa,λak v af=>l9 aT bo aj ak.left af⟩
 | dW t=>
  obtain ⟨rfl,rfl⟩:=Le h;exact .hC rfl λv ⟨p,bk,G,V,ah⟩=>⟨p,bk,G,V.mono bo (cZ.refl _ _),e' _ bo (cZ.refl _ _) ah⟩
 | a1 b off=>
  obtain ⟨G,V⟩:=kz h;obtain rfl:=SD G;exact .hC V λv af=>SC aC af
 | an b=>
  obtain ⟨G,V⟩:=kz h;obtain rfl:=SE G;refine .hC V λv af=>⟨⟨Nat.zero_le _,af.1.2⟩,λ_ hc=>?_⟩
  obtain ⟨aU,aX,_⟩:=(aC b).2.2.1 hc;simp only [c7];rw [aX];exact af.2 rfl aU
 | sub b=>
  obtain ⟨G,V⟩:=Lf h;refine .hC G λv af=>?_;rcases V with rfl | ⟨rfl,e6,ah⟩
  ·refine ⟨⟨Nat.zero_le _,af.1.2⟩,λ_ hc=>?_⟩;obtain ⟨aU,aX,bP⟩:=(aC b).2.2.1 hc;simp only [c7] at aX bP ⊢;rw [aX,bP];exact af.2 rfl aU
  ·refine ⟨⟨Nat.zero_le _,af.1.2⟩,λ_ hc=>?_⟩;obtain ⟨aU,aX,bP⟩:=(aC b).2.2.1 hc;have:=af.2 rfl aU;simp only [c7] at aX bP ⊢;rw [aX,bP,ah];refine ⟨⟨Nat.zero_le _,Nat.le_refl _⟩,?_⟩;rw [this];unfold bD.slice;cases aD:(κ (f b)).e3 with
   | true=>exact .inl ⟨aD,rfl⟩
   | false=>exact .inr ⟨aD,(κ (f b)).off,by simp,by simp,λ_=>by simp⟩
 | fb b=>
  obtain ⟨G,V⟩:=kz h;obtain rfl:=aer G;exact .hC V λv af=>⟨⟨Nat.zero_le _,af.1.2⟩,λ_ hc=>af.2 rfl ((aC b).2.2.2.1 hc)⟩
 | j0 b=>
  obtain ⟨G,V⟩:=kz h;obtain rfl:=aes G;exact .hC V λv af=>⟨⟨Nat.zero_le _,af.1.2⟩,λ_ hc=>af.2 rfl ((aC b).2.2.2.2.1 hc)⟩
 | df=>
  obtain ⟨G,V⟩:=kz h;obtain rfl:=aet G;exact .hC V λv af=>af
 | iu k fP=>
  obtain ⟨G,V⟩:=kz h;exact .hC V λv af=>aeu aC G af
 | hD bs=>
  obtain ⟨G,V⟩:=kz h;exact .hC V λv af=>aev aC G af
 | iP b=>
  obtain ⟨G,rfl⟩:=Lg h;refine .hC G λv af=>⟨⟨Nat.zero_le _,af.1.2⟩,λ_ hc=>?_⟩
  obtain ⟨aU,aX,bP⟩:=(aC b).2.2.1 hc;have:=af.2 rfl aU;simp only [c7] at aX bP ⊢;rw [aX,bP];exact this
 | aW aN=>
  obtain ⟨G,rfl⟩:=F1 h;exact .hC G λv af=>af
 | g_=>
  obtain ⟨G,rfl⟩:=Lh h;exact .hC G λv af=>af
theorem aew (aT:∀ b,cB P H κ F w b) (bo:∀ r,F r->F' r) (aC:r8 f H H'):∀ (ts:List bX) {c:Nat->aI} {i:Nat} {R:Type} {r:Option (R×List Nat)} {z:p9 ts R} {l:List Nat},zj H f ts c i r=some (z,l)->
  ∃ m,r=some ((pd c7 ts z).2,m)/\(∀ b∈m,b∈l)/\(iR H κ F' l->∀ j,j<ts.length->∀ v,bA P H κ F w (c (i+j)) v->bA P H' (λb=>κ (f b)) F' w ((pd c7 ts z).1.getD j .undef) v):=by
 intro ts;induction ts with
 | nil=>intro c i R r z l h;exact ⟨l,h,λ_ aa=>aa,λ_ j aH=>by cases aH⟩
 | cons t ts aM=>
  intro c i R r z l h;obtain ⟨m1,G,V,ah⟩:=xc (F':=F') (H':=H') aT bo aC t h;obtain ⟨m2,aU,aX,gx⟩:=aM G;refine ⟨m2,aU,λb aa=>V b (aX b aa),λak j aH v af=>?_⟩;cases j with
  | zero=>exact ah ak v af
  | succ j=>
   have:=gx (λb aa=>ak b (V b aa)) j (by grind) v (by grind);simpa [pd] using this
theorem aex (aT:∀ b,cB P H κ F w b) (bo:∀ r,F r->F' r) (aC:r8 f H H'):∀ (ts:List (Nat×bX)) {c:Nat->aI} {R:Type} {r:Option (R×List Nat)} {z:oo ts R} {l:List Nat},w4 H f ts c r=some (z,l)->
  ∃ m,r=some ((eA c7 ts z).2,m)/\(∀ b∈m,b∈l)/\(iR H κ F' l->∀ i v,bA P H κ F w (c i) v->bA P H' (λb=>κ (f b)) F' w (fo (eA c7 ts z).1 i) v):=by
 intro ts;induction ts with
 | nil=>intro c R r z l h;exact ⟨l,h,λ_ aa=>aa,λ_ _ _ _=>by simp only [eA,fo,bA]⟩
 | cons p ts aM=>
  intro c R r z l h;obtain ⟨m1,G,V,ah⟩:=xc (F':=F') (H':=H') aT bo aC p.2 h;obtain ⟨m2,aU,aX,gx⟩:=aM G;refine ⟨m2,aU,λb aa=>V b (aX b aa),λak i v af=>?_⟩;simp only [eA,fo];split
  ·grind
  ·exact gx (λb aa=>ak b (V b aa)) i v af
theorem F2 (t:bX) {av:aI} {R:Type} {r:Option (R×List Nat)} {z:t.cons R} {l:List Nat} (h:t.iX H f av r=some (z,l)):∃ m,r=some ((t.av c7 z).2,m)/\∀ b∈m,b∈l:=by
 cases t with
 | undef=>exact ⟨l,h,λ_ h=>h⟩
 | val t=>obtain ⟨_,m,_,V,ah⟩:=qa h;exact ⟨m,V,λb aa=>ah ▸ List.mem_append_right _ aa⟩
 | dW t=>exact ⟨l,(Le h).2,λ_ h=>h⟩
 | sub b=>exact ⟨l,(Lf h).1,λ_ h=>h⟩
 | aW aN=>exact ⟨l,(F1 h).1,λ_ h=>h⟩
 | g_=>exact ⟨l,(Lh h).1,λ_ h=>h⟩
 | iP b=>exact ⟨l,(Lg h).1,λ_ h=>h⟩
 | a1 b off=>exact ⟨l,(kz h).2,λ_ h=>h⟩
 | an b=>exact ⟨l,(kz h).2,λ_ h=>h⟩
 | fb b=>exact ⟨l,(kz h).2,λ_ h=>h⟩
 | j0 b=>exact ⟨l,(kz h).2,λ_ h=>h⟩
 | df=>exact ⟨l,(kz h).2,λ_ h=>h⟩
 | iu k fP=>exact ⟨l,(kz h).2,λ_ h=>h⟩
 | hD bs=>exact ⟨l,(kz h).2,λ_ h=>h⟩
theorem aey:∀ (ts:List bX) {c:Nat->aI} {i:Nat} {R:Type} {r:Option (R×List Nat)} {z:p9 ts R} {l:List Nat},zj H f ts c i r=some (z,l)->∃ m,r=some ((pd c7 ts z).2,m)/\∀ b∈m,b∈l:=by
 intro ts;induction ts with
 | nil=>intro c i R r z l h;exact ⟨l,h,λ_ h=>h⟩
 | cons t ts aM=>
  intro c i R r z l h;obtain ⟨m,G,V⟩:=F2 t h;obtain ⟨dw,ah,a7⟩:=aM G;exact ⟨dw,ah,λb aa=>V b (a7 b aa)⟩
theorem aez:∀ (ts:List (Nat×bX)) {c:Nat->aI} {R:Type} {r:Option (R×List Nat)} {z:oo ts R} {l:List Nat},w4 H f ts c r=some (z,l)->∃ m,r=some ((eA c7 ts z).2,m)/\∀ b∈m,b∈l:=by
 intro ts;induction ts with
 | nil=>intro c R r z l h;exact ⟨l,h,λ_ h=>h⟩
 | cons p ts aM=>
  intro c R r z l h;obtain ⟨m,G,V⟩:=F2 p.2 h;obtain ⟨dw,ah,a7⟩:=aM G;exact ⟨dw,ah,λb aa=>V b (a7 b aa)⟩
theorem Ct (t:bX) {av:aI} {R:Type} {r:Option (R×List Nat)} {z:t.cons R} {l:List Nat} (h:t.iX H f av r=some (z,l)) (U:∀ y m,r=some (y,m)->gF H m):gF H l:=by
 cases t with
 | undef=>exact U _ _ h
 | val t=>obtain ⟨_,m,G,V,rfl⟩:=qa h;exact (mI G).append (U _ _ V)
 | dW t=>exact U _ _ (Le h).2
 | sub b=>exact U _ _ (Lf h).1
 | aW aN=>exact U _ _ (F1 h).1
 | g_=>exact U _ _ (Lh h).1
 | iP b=>exact U _ _ (Lg h).1
 | a1 b off=>exact U _ _ (kz h).2
 | an b=>exact U _ _ (kz h).2
 | fb b=>exact U _ _ (kz h).2
 | j0 b=>exact U _ _ (kz h).2
 | df=>exact U _ _ (kz h).2
 | iu k fP=>exact U _ _ (kz h).2
 | hD bs=>exact U _ _ (kz h).2
theorem aeA:∀ (ts:List bX) {c:Nat->aI} {i:Nat} {R:Type} {r:Option (R×List Nat)} {z:p9 ts R} {l:List Nat},zj H f ts c i r=some (z,l)->(∀ y m,r=some (y,m)->gF H m)->gF H l:=by
 intro ts;induction ts with
 | nil=>intro c i R r z l h U;exact U _ _ h
 | cons t ts aM=>intro c i R r z l h U;exact Ct t h λy m hm=>aM hm U
theorem aeB:∀ (ts:List (Nat×bX)) {c:Nat->aI} {R:Type} {r:Option (R×List Nat)} {z:oo ts R} {l:List Nat},w4 H f ts c r=some (z,l)->(∀ y m,r=some (y,m)->gF H m)->gF H l:=by
 intro ts;induction ts with
 | nil=>intro c R r z l h U;exact U _ _ h
 | cons p ts aM=>intro c R r z l h U;exact Ct p.2 h λy m hm=>aM hm U
theorem Li {t:ad} {ts:List bX} {iE:bQ} {R:Type} {r:Option (R×List Nat)} {z:p9 ts R} {l:List Nat} (h:KS H f t ts iE r=some (z,l)):∃ c,iE=.cells t c/\t.size=ts.length/\zj H f ts c 0 r=some (z,l):=by
 unfold KS at h;grind
theorem Lj {e:ad} {iE:bQ} {R:Type} {r:Option (R×List Nat)} {z:List e.ai×R} {l:List Nat} (h:KT e iE r=some (z,l)):r=some (z.2,l)/\iE=.bj e z.1:=by
 unfold KT at h;grind
theorem Lk {e:ad} {t:bX} {iE:bQ} {R:Type} {r:Option (R×List Nat)} {z:(List e.ai×Nat)×t.cons R} {l:List Nat} (h:KW H f e t iE r=some (z,l)):∃ v,iE=.f' e z.1.1 z.1.2 v/\t.iX H f v r=some (z.2,l):=by
 unfold KW at h;grind
theorem Ll {k v:ad} {iE:bQ} {R:Type} {r:Option (R×List Nat)} {z:List (k.ai×v.ai)×R} {l:List Nat} (h:KU k v iE r=some (z,l)):r=some (z.2,l)/\iE=.mp k v z.1:=by
 unfold KU at h;grind
theorem Lm {k v:ad} {iE:bQ} {R:Type} {r:Option (R×List Nat)} {z:(Option (k.ai×v.ai)×List (k.ai×v.ai))×R} {l:List Nat} (h:KV k v iE r=some (z,l)):r=some (z.2,l)/\iE=.cq k v z.1.1 z.1.2:=by
 unfold KV at h;grind
theorem Ln {t:ad} {iE:bQ} {R:Type} {r:Option (R×List Nat)} {z:t.ai×R} {l:List Nat} (h:KX H t iE r=some (z,l)):∃ c,iE=.cells t c/\w2 H t (.agg t.size c) r=some (z,l):=by
 unfold KX at h;grind
theorem Lo {t:ad} {b:Nat} {R:Type} {r:Option (R×List Nat)} {z:t.ai×R} {l:List Nat} (h:KY H t b r=some (z,l)):∃ e_ m,(dA (.bI t) (.a1 b (H b).gen 0)).run H=some (some z.1,e_)/\r=some (z.2,m)/\l=e_++m:=by
 unfold KY at h;split at h
 ·rename_i x e_ aj;split at h
  ·cases h;exact ⟨e_,_,aj,rfl,rfl⟩
  ·cases h
 ·cases h
theorem SF {e:ad} {b:Nat} {xs:List e.ai} {l:List Nat} (h:(dA (.slice e) (.an b (H b).gen)).run H=some (xs,l)):(H b).body=.bj e xs\/(H b).body=.hA e xs:=by
 simp only [dA,km,ad.eC,if_true,dX,aq.eZ,aq.bN] at h;split at h
 ·rename_i a8 ys aa;simp only [Option.map_eq_some_iff,Prod.mk.injEq] at h;obtain ⟨z,bl,rfl,_⟩:=h;obtain ⟨qP,rfl⟩:=kH bl;grind
 ·rename_i a8 ys aa;simp only [Option.map_eq_some_iff,Prod.mk.injEq] at h;obtain ⟨z,bl,rfl,_⟩:=h;obtain ⟨qP,rfl⟩:=kH bl;grind
 grind
theorem aeC {k v:ad} {b:Nat} {xs:List (k.ai×v.ai)} {l:List Nat} (h:(dA (.map k v) (.fb b (H b).gen)).run H=some (xs,l)):(H b).body=.mp k v xs\/(H b).body=.iQ k v xs:=by
 simp only [dA,km,ad.eC,if_true,dX,aq.eZ,aq.bN] at h;split at h
 ·rename_i k' h2 ys aa;simp only [Option.map_eq_some_iff,Prod.mk.injEq] at h;obtain ⟨z,bl,rfl,_⟩:=h;obtain ⟨qP,rfl⟩:=kH bl;grind
 ·rename_i k' h2 ys aa;simp only [Option.map_eq_some_iff,Prod.mk.injEq] at h;obtain ⟨z,bl,rfl,_⟩:=h;obtain ⟨qP,rfl⟩:=kH bl;grind
 grind
theorem aeD {t:ad} {b:Nat} {x:Option t.ai} {l:List Nat} (h:(dA (.bI t) (.a1 b (H b).gen 0)).run H=some (x,l)):(H b).body.fC=true:=by
 simp only [dA,km,td,aq.eZ,and_self,if_true] at h;split at h
 ·rename_i aa;rw [aa];rfl
 ·rename_i aa;rw [aa];rfl
 ·cases h
theorem b4.SG (t:b4) {b:Nat} {R:Type} {r:Option (R×List Nat)} {z:t.cons R} {l:List Nat} (h:t.iX H f b r=some (z,l)) :
  (∃ m,r=some ((t.body c7 z).2,m)/\∀ c∈m,c∈l)/\ou (H b).body (t.body c7 z).1/\∀ k,(t.body c7 z).1.b1 k=true->t.Ci=true:=by
 cases t with
 | cells t ts=>
  obtain ⟨c,e,aG,h⟩:=Li h;refine ⟨aey ts h,?_,λ_ _=>rfl⟩;rw [e];exact ⟨λ_=>rfl,λh=>(by cases h),λh=>(by cases h),λh=>(by cases h),λ_ _=>rfl⟩
 | bj e=>
  obtain ⟨G,V⟩:=Lj h;refine ⟨⟨l,G,λ_ h=>h⟩,?_,λ_ _=>rfl⟩;rw [V];exact ou.refl _
 | hA e=>
  obtain ⟨e_,m,G,V,rfl⟩:=qa h;refine ⟨⟨m,V,λ_ h=>List.mem_append_right _ h⟩,?_,λ_ h=>(by cases h)⟩;rcases SF G with e | e<;>rw [e]
  ·exact ⟨λh=>(by cases h),λ_=>⟨rfl,rfl,rfl⟩,λh=>(by cases h),λh=>(by cases h),λ_ h=>(by cases h)⟩
  ·exact ou.refl _
 | mp k v=>
  obtain ⟨G,V⟩:=Ll h;refine ⟨⟨l,G,λ_ h=>h⟩,?_,λ_ _=>rfl⟩;rw [V];exact ou.refl _
 | iQ k v=>
  obtain ⟨e_,m,G,V,rfl⟩:=qa h;refine ⟨⟨m,V,λ_ h=>List.mem_append_right _ h⟩,?_,λ_ h=>(by cases h)⟩;rcases aeC G with e | e<;>rw [e]
  ·exact ⟨λh=>(by cases h),λh=>(by cases h),λ_=>rfl,λh=>(by cases h),λ_ h=>(by cases h)⟩
  ·exact ou.refl _
 | fV t=>
  obtain ⟨c,e,h⟩:=Ln h;obtain ⟨e_,m,G,V,rfl⟩:=qa h;refine ⟨⟨m,V,λ_ h=>List.mem_append_right _ h⟩,?_,λ_ _=>rfl⟩;rw [e];exact ⟨λ_=>rfl,λh=>(by cases h),λh=>(by cases h),λh=>(by cases h),λ_ _=>rfl⟩
 | gD t=>
  obtain ⟨e_,m,G,V,rfl⟩:=Lo h;refine ⟨⟨m,V,λ_ h=>List.mem_append_right _ h⟩,?_,λ_ h=>(by cases h)⟩;exact ⟨λ_=>aeD G,λh=>(by cases h),λh=>(by cases h),λh=>(by cases h),λ_ h=>(by cases h)⟩
 | cq k v=>
  obtain ⟨G,V⟩:=Lm h;refine ⟨⟨l,G,λ_ h=>h⟩,?_,λ_ _=>rfl⟩;rw [V];exact ou.refl _
 | f' e t=>
  obtain ⟨v,aF,h⟩:=Lk h;refine ⟨F2 t h,?_,λ_ _=>rfl⟩;rw [aF];exact ⟨λh=>(by cases h),λ_=>⟨rfl,rfl,rfl⟩,λh=>(by cases h),λh=>(by cases h),λ_ h=>h⟩
theorem b4.Ct (t:b4) {b:Nat} {R:Type} {r:Option (R×List Nat)} {z:t.cons R} {l:List Nat} (h:t.iX H f b r=some (z,l)) (U:∀ y m,r=some (y,m)->gF H m):gF H l:=by
 cases t with
 | cells t ts=>obtain ⟨c,e,aG,h⟩:=Li h;exact aeA ts h U
 | bj e=>exact U _ _ (Lj h).1
 | hA e=>obtain ⟨e_,m,G,V,rfl⟩:=qa h;exact (mI G).append (U _ _ V)
 | mp k v=>exact U _ _ (Ll h).1
 | iQ k v=>obtain ⟨e_,m,G,V,rfl⟩:=qa h;exact (mI G).append (U _ _ V)
 | fV t=>obtain ⟨c,e,h⟩:=Ln h;obtain ⟨e_,m,G,V,rfl⟩:=qa h;exact (mI G).append (U _ _ V)
 | gD t=>obtain ⟨e_,m,G,V,rfl⟩:=Lo h;exact (mI G).append (U _ _ V)
 | cq k v=>exact U _ _ (Lm h).1
 | f' e t=>obtain ⟨v,_,h⟩:=Lk h;exact Go.Fer.Ct t h U
theorem b4.aeE (aT:∀ b,cB P H κ F w b) (bo:∀ r,F r->F' r) (aC:r8 f H H') (t:b4) {b:Nat} {R:Type} {r:Option (R×List Nat)} {z:t.cons R} {l:List Nat} (h:t.iX H f b r=some (z,l)) (ak:iR H κ F' l) :
  jz P H' (λb=>κ (f b)) F' w (κ b) (t.body c7 z).1:=by
 have aa:=aT b;unfold cB at aa;cases t with
 | cells t ts=>
  obtain ⟨c,e,aG,h⟩:=Li h;rw [e] at aa;obtain ⟨cs,T,aU,aX,bP⟩:=aa;obtain ⟨m,_,_,gx⟩:=aew (H':=H') aT bo aC ts h;refine ⟨cs,T,aU,aX,λi M=>⟨?_,(bP i M).2⟩⟩;have:=gx ak i (by omega) _ (by rw [Nat.zero_add];exact (bP i M).1);exact this
 | bj e=>
  rw [(Lj h).2] at aa;refine ⟨aa.1,λaD=>?_⟩;obtain ⟨cs,T,G,V,ah,a7,bM⟩:=aa.2 aD;exact ⟨cs,T,G,V,ah,a7,bM.mono bo (cZ.refl _ _)⟩
 | hA e=>
  obtain ⟨e_,m,G,V,rfl⟩:=qa h;have uT:=SF G;have xd:=l9 (v:=(κ b).slice (H b).body.len) aT bo G ak.left ⟨⟨Nat.le_refl _,by unfold bD.slice;split<;>rfl⟩,λ_ _=>rfl⟩;have:=((dV rfl).1 xd).2;rcases uT with a8 | a8<;>(rw [a8] at this;exact this)
 | mp k v=>
  rw [(Ll h).2] at aa;obtain ⟨ms,clk,G,V⟩:=aa;exact ⟨ms,clk,G,V.mono bo (cZ.refl _ _)⟩
 | iQ k v=>
  obtain ⟨e_,m,G,V,rfl⟩:=qa h;have xd:=l9 (v:=.map (some (κ b).ab)) aT bo G ak.left ⟨⟨Nat.le_refl _,rfl⟩,λ_ _=>rfl⟩;exact ((dV rfl).1 xd).2
 | fV t=>
  obtain ⟨c,e,h⟩:=Ln h;rw [e] at aa;obtain ⟨cs,T,aU,aX,bP⟩:=aa;obtain ⟨e_,m,aj,_,rfl⟩:=qa h;have af:bA P H κ F w (.agg t.size c) (.agg cs):=⟨cs.toList,by simp,by omega,λj aH=>by
   simp_all⟩
  have xd:=l9 (F':=F') aT bo aj ak.left af;have iw:=yJ (P:=P) (H:=H') (κ:=λb=>κ (f b)) t xd.2;refine ⟨cs,T,aU,aX,λi M=>⟨?_,(bP i M).2⟩⟩;have:=(iw.kI i (by rw [iw.len];simpa [Value.cells,aX] using M)).1;rw [List.getD_eq_getElem?_getD] at this;rw [Array.getD_eq_getD_getElem?];simpa [Value.cells] using this
 | gD t=>
  obtain ⟨e_,m,G,V,rfl⟩:=Lo h;have xd:=l9 (v:=.pointer (some ⟨(κ b).ab,0,none⟩)) aT bo G ak.left ⟨⟨Nat.le_refl _,rfl⟩,λ_ _=>rfl⟩;rcases ((dV rfl).1 xd).2 with ⟨_,e⟩ | ⟨p,y,bk,aF,bB,ah,a7⟩
  ·cases e
  ·simp only [List.cons.injEq,Value.pointer.injEq,Option.some.injEq,and_true] at aF;subst aF;cases bB;exact ⟨bk,ah,a7⟩
 | cq k v=>
  rw [(Lm h).2] at aa;exact wz.mono aa bo (cZ.refl _ _) rfl
 | f' e t=>
  obtain ⟨v,aF,h⟩:=Lk h;rw [aF] at aa;obtain ⟨aY,cs,T,G,V,ah,a7,bM,dr,fY,jb⟩:=aa;obtain ⟨m,_,_,gx⟩:=xc (F':=F') (H':=H') aT bo aC t h;refine ⟨aY,cs,T,G,V,ah,a7,bM,λj aH qG=>?_,gx ak _ fY,jb⟩;obtain ⟨bk,d1,d2⟩:=dr j aH qG;exact ⟨bk,d1,e' e bo (cZ.refl _ _) d2⟩
theorem aeF:∀ (l:List (Nat×b4)) {x:pc l} {m:List Nat},w3 H f l=some (x,m)->∀ b,eO (hg c7 l x) b=⟨0,.fw⟩\/
  ∃ iE,eO (hg c7 l x) b=⟨0,iE⟩/\ou (H (f b)).body iE/\∃ t,(b,t)∈l/\∀ k,iE.b1 k=true->t.Ci=true:=by
 intro l;induction l with
 | nil=>intro x m _ b;exact .inl rfl
 | cons q l aM=>
  intro x m h b;obtain ⟨dx,dP⟩:=q;simp only [w3] at h;obtain ⟨⟨dw,G,V⟩,ah,a7⟩:=b4.SG dP h;by_cases e:b=dx
  ·subst e;exact .inr ⟨_,by simp only [hg,eO,if_true],ah,dP,by simp,a7⟩
  ·rcases aM G b with k | ⟨iE,aU,aX,t,bP,gx⟩
   ·exact .inl (by simpa [hg,eO,e] using k)
   ·exact .inr ⟨iE,by simpa [hg,eO,e] using aU,aX,t,List.mem_cons_of_mem _ bP,gx⟩
theorem aeG:∀ (l:List (Nat×b4)) {x:pc l} {m:List Nat},w3 H f l=some (x,m)->gF H m:=by
 intro l;induction l with
 | nil=>intro x m h;cases h;exact .nil H
 | cons q l aM=>intro x m h;exact b4.Ct q.2 h λy m hm=>aM hm
theorem aeH (aT:∀ b,cB P H κ F w b) (bo:∀ r,F r->F' r) (aC:r8 f H H'):∀ (l:List (Nat×b4)) {x:pc l} {m:List Nat},w3 H f l=some (x,m)->iR H κ F' m->∀ b,jz P H' (λb=>κ (f b)) F' w (κ (f b)) (eO (hg c7 l x) b).body:=by
 intro l;induction l with
 | nil=>intro x m _ _ b;trivial
 | cons q l aM=>
  intro x m h hm b;obtain ⟨dx,dP⟩:=q;simp only [w3] at h;obtain ⟨⟨dw,G,V⟩,_⟩:=b4.SG dP h;by_cases e:b=dx
  ·subst e;simp only [hg,eO,if_true];exact b4.aeE aT bo aC dP h hm
  ·have:=aM G (λc hc=>hm c (V c hc)) b;simpa [hg,eO,e] using this
theorem aeI:∀ (ts:List (Nat×bX)) {c:Nat->aI} {R:Type} {r:Option (R×List Nat)} {z:oo ts R} {l:List Nat},w4 H f ts c r=some (z,l)->∀ {i dG aN L n st},fo (eA c7 ts z).1 i=.aW dG aN L n st->c i=.aW dG aN L n st:=by
 intro ts;induction ts with
 | nil=>intro c R r z l _ i dG aN L n st e;cases e
 | cons p ts aM=>
  intro c R r z l h i dG aN L n st e;obtain ⟨jG,t⟩:=p;simp only [w4] at h;obtain ⟨m,G,_⟩:=F2 t h;simp only [eA,fo] at e;split at e
  ·rename_i aeJ;subst aeJ;cases t with
   | aW kv=>
    obtain ⟨_,ah⟩:=F1 h;rw [ah];exact e
   | _=>cases e
  grind
end
structure F3 (C:b8) (s:aB) (a:Act) (w:World) (κ:Nat->bD) (f:Nat->Nat) (F':Nat->Prop) (sh:dH) (D:sh.ai) (bW:List Nat):Prop where
 bT:∀ i,bA C.P (sh.st D).ab (λb=>κ (f b)) F' w ((sh.st D).az i) (a.tmps.getD i Go.undef)
 bE:∀ b,cB C.P (sh.st D).ab (λb=>κ (f b)) F' w b
 b1:∀ b,((sh.st D).ab b).body.b1 (κ (f b))=true->f b ∉ bW/\(s.ab (f b)).body.b1 (κ (f b))=true/\b∈sh.oq
 zu:r8 f s.ab (sh.st D).ab
 aW:∀ l aN L n st,(sh.st D).az b5=.aW l aN L n st->s.az b5=.aW l aN L n st
theorem dH.SH {C:b8} {sh:dH} {f:Nat->Nat} {s:aB} {a:Act} {w:World} {κ:Nat->bD} {F:Nat->Prop} {D:sh.ai} {bW:List Nat} (h:sh.zk f s=some (D,bW)) (U:bm C s a w κ F) :
  ∃ F',(∀ r,F r->F' r)/\bm C (s.cy bW) a w κ F'/\F3 C s a w κ f F' sh D bW:=by
 unfold dH.zk at h;split at h
 ·rename_i iD awC oj;split at h
  ·rename_i e6;cases h;obtain ⟨m,G,hm⟩:=aez sh.bT oj;have lF:gF s.ab bW:=aeB sh.bT oj λy m hm=>aeG sh.bE hm;obtain ⟨F',f1,bd,f2⟩:=bm.k6 lF U;have SI:=aeF sh.bE G;have tH:r8 f s.ab (sh.st D).ab:=by
    intro b;show (eO (hg c7 sh.bE (eA c7 sh.bT D).2) b).gen=0/\ou (s.ab (f b)).body (eO (hg c7 sh.bE (eA c7 sh.bT D).2) b).body;rcases SI b with e | ⟨iE,e,k,_⟩
    ·rw [e];exact ⟨rfl,ou.fw _⟩
    grind
   obtain ⟨m2,_,_,aeK⟩:=aex (F':=F') (w:=w) U.bE f1 tH sh.bT oj;refine ⟨F',f1,bd,{ bT:=λi=>aeK f2 i _ (U.bT i),bE:=λb=>?_,b1:=λb aa=>?_,zu:=tH,aW:=λl aN L n st e=>aeI sh.bT oj e }⟩
   ·exact aeH U.bE f1 tH sh.bE G (λc hc=>f2 c (hm c hc)) b
   ·have ao:=(tH b).2.2.2.2.2 _ aa;rcases SI b with e | ⟨iE,e,_,t,aL,awD⟩
    ·have e:(sh.st D).ab b=_:=e;rw [e] at aa;cases aa
    ·have e:(sh.st D).ab b=_:=e;rw [e] at aa;have be:b∈sh.oq:=List.mem_filterMap.2 ⟨(b,t),aL,by grind⟩;grind
  grind
 grind
theorem F3.xe {C:b8} {s:aB} {a:Act} {w:World} {κ:Nat->bD} {f:Nat->Nat} {F':Nat->Prop} {sh:dH} {D:sh.ai} {bW:List Nat} (h:F3 C s a w κ f F' sh D bW) {b:Nat} (aa:((sh.st D).ab b).body.b1 (κ (f b))=true) :
  ((s.cy bW).ab (f b)).body.b1 (κ (f b))=true:=by
 obtain ⟨G,V,_⟩:=h.b1 b aa;simp only [aB.cy,if_neg G];exact V
theorem Lp {C:b8} {s:aB} {a:Act} {w:World} {κ:Nat->bD} {F:Nat->Prop} (U:bm C s a w κ F) {b:Nat} {e:ad} :
  bm C (s.cw b ⟨(s.ab b).gen+1,.bj e []⟩) a w (λi=>if i=b then ⟨0,0,0,true⟩ else κ i) F:=
 U.B1 (k:=⟨0,0,0,true⟩) (Nat.lt_succ_self _) (.inl rfl) (Nat.le_refl _) (λ_ _=>rfl) (λh=>by cases h) (da.refl _) λ_ _=>⟨λ_=>rfl,λh=>by cases h⟩
theorem aeL {C:b8} {s:aB} {a:Act} {w:World} {κ:Nat->bD} {F:Nat->Prop} (U:bm C s a w κ F) {i b bf g':Nat} (aG:s.az i=.an bf g'):∃ κ',bm C (K1 s i b bf g') a w κ' F:=by
 unfold K1;split
 ·rename_i e xs ay bS;obtain ⟨ez,rfl⟩:=of_decide_eq_true ay;generalize mJ:(λj=>if j=b then (⟨(s.ab b).gen+1,.bj e xs⟩:bL) else if j=bf then ⟨(s.ab bf).gen+1,.fw⟩ else s.ab j)=H';generalize iF:(λj=>if j=b then κ bf else κ j)=κ';have G:H' b=⟨(s.ab b).gen+1,.bj e xs⟩:=by grind
  have V:H' bf=⟨(s.ab bf).gen+1,.fw⟩:=by grind
  have ah:∀ j,j≠b->j≠bf->H' j=s.ab j:=λj aU aX=>by grind
  have aU:κ' b=κ bf:=by grind
  have bP:∀ j,j≠b->κ' j=κ j:=λj k=>by grind
  have ak:fm s.ab κ H' κ':=by
   rw [Bs];intro j;by_cases aF:j=b
   ·subst aF;rw [G];exact ⟨Nat.le_succ _,λe=>absurd e (Nat.ne_of_lt (Nat.lt_succ_self _))⟩
   ·by_cases bB:j=bf
    ·subst bB;rw [V];exact ⟨Nat.le_succ _,λe=>absurd e (Nat.ne_of_lt (Nat.lt_succ_self _))⟩
    ·rw [ah j aF bB,bP j aF];exact pX.refl _ _
  have gb:∀ j,(H' j).body.b1 (κ' j)=true->(j=b/\(s.ab bf).body.b1 (κ bf)=true)\/(j≠b/\j≠bf/\(s.ab j).body.b1 (κ j)=true):=λj aH=>by
   by_cases aF:j=b
   ·grind
   ·by_cases bB:j=bf
    ·subst bB;rw [V] at aH;cases aH
    grind
  have h:=U.move (H':=H') (κ':=κ') (F':=F) (w':=w) ak (λ_ h=>h) (λ_ h=>.inl h) (Nat.le_refl _) (λ_ _ _=>rfl) (da.refl w)
   (λ_ j=>by
    by_cases aF:j=b
    ·subst aF;have aT:=U.bE bf;unfold cB at aT ⊢;rw [bS] at aT;rw [G,aU];exact aT
    ·by_cases bB:j=bf
     ·subst bB;unfold cB;rw [V];trivial
     ·exact cB.k3 (U.bE j) ak (λ_ h=>h) (cZ.refl _ _) (by grind) (bP j aF) λ_=>rfl)
   (λj aH=>by
    rcases gb j aH with ⟨rfl,h⟩ | ⟨aF,_,h⟩
    ·rw [aU];have:=U.an bf h;grind
    ·rw [bP j aF];have:=U.an j h;grind)
   (λj j7 aH fM e=>by
    rcases gb j aH with ⟨rfl,h⟩ | ⟨aF,bB,h⟩<;>rcases gb j7 fM with ⟨rfl,ds⟩ | ⟨SJ,aeM,ds⟩
    ·rfl
    ·rw [aU,bP j7 SJ] at e;exact absurd (U.inj bf j7 h ds e).symm aeM
    ·rw [aU,bP j aF] at e;exact absurd (U.inj j bf h ds e) bB
    ·rw [bP j aF,bP j7 SJ] at e;exact U.inj j j7 h ds e)
   U.c_
   (λj _ aH=>by
    by_cases aF:j=b
    ·subst aF;rw [G] at aH;rcases aH with aH | aH<;>cases aH
    ·by_cases bB:j=bf
     ·subst bB;rw [V] at aH;rcases aH with aH | aH<;>cases aH
     grind)
  refine ⟨κ',{ h with bT:=λj=>?_,dF:=h.dF,dfr:=h.dfr,bE:=h.bE,eK:=λl aN L n st a8=>?_ }⟩
  ·show bA C.P _ _ F w (if j=i then .an b ((s.ab b).gen+1) else s.az j) _;split
   ·rename_i e;subst e;have af:=U.bT j;rw [aG] at af;have ig:=af.2 rfl (by rw [bS];rfl);rw [bS] at ig;exact ⟨⟨by grind,af.1.2⟩,λ_ _=>by grind⟩
   ·exact h.bT j
  ·have a8:(if b5=i then .an b ((s.ab b).gen+1) else s.az b5)=.aW l aN L n st:=a8;split at a8
   ·cases a8
   ·exact h.eK l aN L n st a8
 grind
theorem aeN {C:b8} {bs:List (Nat×b4)} {s:aB} {a:Act} {w:World} {κ:Nat->bD} {F:Nat->Prop} (U:bm C s a w κ F) (i b:Nat):∃ κ',bm C (K2 bs s i b) a w κ' F:=by
 unfold K2;split
 ·rename_i e aG _;have h:=Lp U (b:=b) (e:=e);refine ⟨_,{ h with bT:=λj=>?_,dF:=h.dF,dfr:=h.dfr,bE:=h.bE,eK:=λl aN L n st a8=>?_ }⟩
  ·show bA C.P _ _ F w (if j=i then .an b ((s.ab b).gen+1) else s.az j) _;split
   ·rename_i e;subst e;have af:=U.bT j;rw [aG] at af;have af:a.tmps.getD j undef=.slice none 0 0:=af;rw [af];exact ⟨⟨by simp [aB.cw],rfl⟩,λ_ _=>by simp [bD.slice]⟩
   ·exact h.bT j
  ·have a8:(if b5=i then .an b ((s.ab b).gen+1) else s.az b5)=.aW l aN L n st:=a8;split at a8
   ·cases a8
   ·exact h.eK l aN L n st a8
 ·rename_i aG _;exact aeL U aG
 grind
theorem aeO {C:b8} {bs:List (Nat×b4)} {s:aB} {a:Act} {w:World} {κ:Nat->bD} {F:Nat->Prop} (U:bm C s a w κ F) (c j b:Nat):∃ κ',bm C (K3 bs s c j b) a w κ' F:=by
 unfold K3;split
 ·rename_i t f hc;split
  ·rename_i e aw ay _;have SK:c≠b:=λe=>by grind
   have h:=Lp U (b:=b) (e:=e);have iz:(s.cw b ⟨(s.ab b).gen+1,.bj e []⟩).ab c=s.ab c:=by simp [aB.cw,SK]
   have aT:=h.bE c;unfold cB at aT;rw [iz,hc] at aT;obtain ⟨cs,T,G,V,ah⟩:=aT;refine ⟨_,h.o2 (w':=w) (b:=c) (x:=⟨(s.ab c).gen,.cells t λq=>if q=j then .an b ((s.ab b).gen+1) else f q⟩) (by rw [iz,hc];rfl) rfl
    (qH (by rw [iz]) (λ_=>by rw [iz,hc];rfl) (λh=>by cases h) (λh=>by cases h) (λh=>by cases h)) (λ_=>by rw [iz,hc];rfl) (λh=>by cases h) (λ_ _=>rfl) rfl (da.refl _) λH mJ ak _=>?_⟩
   refine ⟨cs,T,G,V,λq br=>⟨?_,(ah q br).2⟩⟩;show bA C.P H _ F w (if q=j then .an b ((s.ab b).gen+1) else f q) _;split
   ·rename_i eq;subst eq;have af:=(ah q br).1;rw [aw] at af;have af:cs.getD q undef=.slice none 0 0:=af;rw [af];have aeP:H b=⟨(s.ab b).gen+1,.bj e []⟩:=by rw [mJ];simp [aB.cw,Ne.symm SK]
    exact ⟨⟨by grind,rfl⟩,λ_ _=>by rw [aeP];simp [bD.slice]⟩
   ·exact bA.later ak (λ_ h=>h) (cZ.refl _ _) (ah q br).1
  grind
 grind
theorem aeQ {C:b8} (sh:dH) {s:aB} {a:Act} {w:World} {κ:Nat->bD} {F:Nat->Prop} (U:bm C s a w κ F):∃ κ',bm C (sh.FE s) a w κ' F:=by
 have G:∀ (l:List (Nat×bX)) (s:aB) (κ:Nat->bD),bm C s a w κ F->∃ κ',bm C (FB sh.bE l s) a w κ' F:=by
  intro l;induction l with
  | nil=>intro s κ h;exact ⟨κ,h⟩
  | cons p l aM=>
   intro s κ h;simp only [FB];split
   ·obtain ⟨κ',ds⟩:=aeN (bs:=sh.bE) h p.1 _;exact aM _ _ ds
   grind
 have V:∀ (c:Nat) (l:List bX) (j:Nat) (s:aB) (κ:Nat->bD),bm C s a w κ F->∃ κ',bm C (FC sh.bE c l j s) a w κ' F:=by
  intro c l;induction l with
  | nil=>intro j s κ h;exact ⟨κ,h⟩
  | cons t l aM=>
   intro j s κ h;simp only [FC];split
   ·obtain ⟨κ',ds⟩:=aeO (bs:=sh.bE) h c j _;exact aM _ _ _ ds
   ·exact aM _ _ _ h
 have ah:∀ (l:List (Nat×b4)) (s:aB) (κ:Nat->bD),bm C s a w κ F->∃ κ',bm C (FD sh.bE l s) a w κ' F:=by
  intro l;induction l with
  | nil=>intro s κ h;exact ⟨κ,h⟩
  | cons p l aM=>
   intro s κ h;simp only [FD];split
   ·obtain ⟨κ',ds⟩:=V p.1 _ 0 s κ h;exact aM _ _ ds
   grind
 obtain ⟨aeR,gH⟩:=G sh.bT s κ U;exact ah sh.bE _ _ gH
theorem SL:∀ (l:List (Nat×b4)) (x:pc l) (b:Nat),(eO (hg c7 l x) b).body.fc=true->∃ q∈l,q.1=b/\q.2.Sk=true
 | [],_,_,h=>by cases h
 | p::l,x,b,h=>by
  simp only [hg,eO] at h;by_cases e:b=p.1
  ·rw [if_pos e] at h;refine ⟨p,by simp,e.symm,?_⟩;obtain ⟨jG,t⟩:=p;cases t<;>first | rfl | cases h
  ·rw [if_neg e] at h;obtain ⟨q,G,V⟩:=SL l _ b h;grind
theorem dH.zv {C:b8} {sh:dH} {s:aB} {a:Act} {w:World} {D:sh.ai} {κ:Nat->bD} {F:Nat->Prop} (h:sh.iX s=some D) (U:bm C s a w κ F):∃ κ' F',(∀ r,F r->F' r)/\bm C (sh.st D) a w κ' F':=by
  obtain ⟨κ,U⟩:=aeQ sh U;unfold dH.iX at h;generalize sh.FE s=s at h U;split at h;case h_2=>cases h
  rename_i aeS;simp only [Option.map_eq_some_iff] at h;obtain ⟨⟨iD,bW⟩,h,rfl⟩:=h;obtain ⟨F',f1,bd,ay⟩:=dH.SH h U;have gb:=λb aa=>ay.xe (b:=b) aa;exact ⟨κ, F', f1, { bd with
    dF:=bd.dF,dfr:=bd.dfr,bT:=ay.bT,bE:=ay.bE,an:=λb aa=>bd.an b (gb b aa),inj:=λb bf aa dh=>bd.inj b bf (gb b aa) (gb bf dh)
    jA:=λb r U hc=>bd.jA b r U (hc.imp (λhc=>by
      have aY:=(ay.zu b).2.1 hc;simp only [aB.cy];split
      · rcases yX s.ab (s.ab b) with e | ⟨_,_,aj,_⟩ | ⟨_,_,_,aj,_⟩ | ⟨_,_,_,_,_,_,e⟩
        · grind
        · rw [aj] at aY;cases aY
        · rw [aj] at aY;cases aY
        · rw [e];rfl
      omega) (λhc=>by
      have aY:=(ay.zu b).2.2.2.1 hc;simp only [aB.cy];split
      · rcases yX s.ab (s.ab b) with e | ⟨_,_,aj,_⟩ | ⟨_,_,_,_,e⟩ | ⟨_,_,_,_,aj,_,_⟩
        · grind
        · rw [aj] at aY;cases aY
        · rw [e];rfl
        · rw [aj] at aY;cases aY
      omega))
    kl:=λb k ao _ ba=>by
      obtain ⟨ca,a2,_⟩:=(ay.zu b).2.2.1 ba;have aC:(s.ab b).gen=0:=by
        rcases SL sh.bE (eA c7 sh.bT iD).2 b ba with ⟨q,br,rfl,jf⟩
        have:=List.all_eq_true.1 aeS q br;rw [jf] at this;have Fm:=U.j1 _ k ao;grind
      obtain ⟨aU,aX⟩:=U.kl b k ao aC ca;grind
    eK:=λl aN L n st e=>by
      obtain ⟨G,V,Y,ah,a7,bM⟩:=bd.eK l aN L n st (ay.aW l aN L n st e);grind }⟩
theorem dH.xc {C:b8} {sh:dH} {s:aB} {a:Act} {w:World} {D:sh.ai} (h:sh.iX s=some D) (U:cu C s a w):cu C (sh.st D) a w:=by
 obtain ⟨κ,F,U⟩:=U;obtain ⟨κ',F',_,bd⟩:=dH.zv h U;exact ⟨κ',F',bd⟩
end Go.Fer
namespace Go.Fer
open Go.RowKit
def aeT (C:b8) (o:Oper) (s:aB) (b':hS):Prop:=
 ∀ (a:Act) (w:World) (Q:Exit->Act->World->Prop) (K:Act->World->Prop),cu C s a w->b'.b9->A.cv b'.m (λy=>∀ a' w',cu C (b'.st y) a' w'->K a' w')->o.wpIn (dS C.r) 0 C.P a w K Q
def aeU (C:b8) (o:Oper) (s:aB) (b':hS):Prop:=
 ∀ gs,b'.Ck=some gs->(∀ y a w,cu C (b'.st y) a w->cu C (gs true y) a w)/\∀ a w,cu C s a w->cu C (gs false b'.d) (a.put o.dst Go.undef) w
structure qb (C:b8) (o:Oper) (s:aB) (b':hS):Prop where
 prog:aeT C o s b'
 awE:aeU C o s b'
 awF:qU (a_ C.aP s.az) o->b'.b9
theorem cu.Lq {C:b8} {s:aB} {d:Option Nat} {av av':aI} {a:Act} {w:World} (h:cu C (s.set d av) a w)
  (ay:∀ i,d=some i->i<C.nt) (af:∀ κ F v,bA C.P s.ab κ F w av v->bA C.P s.ab κ F w av' v):cu C (s.set d av') a w:=by
 cases d with
 | none=>exact h
 | some d=>
  obtain ⟨κ,F,h⟩:=h;have aD:=h.ga;have wB:=ay d rfl;have aL:b5≠d:=by unfold b5 eP at *;omega
  refine ⟨κ,F,{ h with bT:=λi=>?_,dF:=h.dF,dfr:=h.dfr,bE:=h.bE,eK:=λl aN L n st e=>h.eK l aN L n st ?_ }⟩
  ·have M:=h.bT i;simp only [aB.set] at M ⊢;grind
  ·simp only [aB.set,if_neg aL] at e ⊢;exact e
section
variable {C:b8} {T:Nat->ad} {bg:Nat->Option aO} {o:Oper} {s:aB}
theorem Cu {args:List Operand} (aa:qU (a_ C.aP s.az) o) (ba:∀ x∈args,x∈o.op.operands.toList):jE (args.map (a_ C.aP s.az)):=
 Ca λv af=>by
  simp only [List.mem_map] at af;obtain ⟨p,ar,rfl⟩:=af;exact aa p (ba p ar)
theorem SM (bh:∀ i,o.dst=some i->i<C.nt) {aW:ad} {bW:List Nat} (lF:gF s.ab bW) {d:aW.ai} :
  (∀ (y:aW.ai) a w,cu C (qX s o aW bW (qI aW y)) a w->cu C (qX s o aW bW (.hz true (qI aW y))) a w)/\∀ a w,cu C s a w->cu C (qX s o aW bW (.hz false (qI aW d))) (a.put o.dst Go.undef) w:=by
 refine ⟨λy a w h=>cu.Lq h bh λκ F v af=>⟨λ_=>af,λh=>(by cases h)⟩,λa w h=>?_⟩;obtain ⟨κ,F,U⟩:=h;obtain ⟨F',_,bd,_⟩:=bm.k6 lF U;unfold qX;split
 ·exact ⟨κ,F,U.set bh ⟨λh=>(by cases h),λ_=>rfl⟩⟩
 ·exact ⟨κ,F',bd.set bh ⟨λh=>(by cases h),λ_=>rfl⟩⟩
theorem aeV (bh:∀ i,o.dst=some i->i<C.nt) {k:Nat} {args:Array Operand} {dj:Array TypeId} (ag:o.op=.call { callee:=.value (.func k),args:=args,argTypes:=dj }) {du:hE} (aw:h0 C.P k du.ts du.aW du.sh) {b':hS}
  (h:Cl C.aP s o args.toList du=some b'):qb C o s b':=by
 unfold Cl at h;split at h
 ·rename_i x bW aj;cases h;refine ⟨λa w Q K U be hm=>?_,λgs ov=>?_,λaa=>Cu aa λx aj=>by rw [ag];simp [Op.operands,Call.operands];simp_all⟩
  ·obtain ⟨κ,F,U⟩:=U;exact RM U aw bh ag be aj hm.1 λy w' aS v j9=>hm.2 y aS _ _ j9
  ·cases ov;exact SM bh (p6 _ aj)
 grind
theorem aeW (bh:∀ i,o.dst=some i->i<C.nt) {k:Nat} {args:Array Operand} {dj:Array TypeId} (ag:o.op=.call { callee:=.value (.func k),args:=args,argTypes:=dj }) {du:hE} (aw:h0 C.P k du.ts du.aW du.sh) (Cv:QT C.P k du.ts du.aW du.sh) {b':hS}
  (h:FJ C.aP s o args.toList du=some b'):qb C o s b':=by
 unfold FJ at h;split at h
 ·rename_i x bW aj;cases h;refine ⟨λa w Q K U be hm=>?_,λgs ov=>(by grind),λaa=>Cu aa λx aj=>by rw [ag];simp [Op.operands,Call.operands];simp_all⟩;obtain ⟨κ,F,U⟩:=U;obtain ⟨args⟩:=args;have c1:(execOp a.eval o).run C.P w=.ok (.enter k (args.map a.eval).toArray) w:=by
   simp only [execOp,ag,Sem.run_bind,resolve,Act.eval,Deferred.ofValue,Sem.run_pure,Result.andThen_ok,invoke];have:=aw.enter (args.map a.eval).toArray w;grind
  obtain ⟨F',f1,bd,f2⟩:=bm.k6 (p6 _ aj) U;have dY:fl C.P du.ts F' w (args.map a.eval) x:=by
   refine uX U.bE f1 du.ts aj f2 (by simp) λi M dM=>?_;simp only [List.getElem_map];have dt:i<args.length:=by grind
   have G:=rQ be i (by grind);have aF:(args.map (a_ C.aP s.az)).getD i .undef=a_ C.aP s.az args[i]:=by grind
   rw [show (List.map (a_ C.aP s.az) (⟨args⟩:Array Operand).toList)=args.map (a_ C.aP s.az) from rfl,aF] at G;exact o4 (j5 U args[i]) G
  refine B7 (by grind) c1 (Cv.iO F' w _ x bd.c_ bd.iv dY hm.1) λe w' ⟨v,y,he,aS,gg,aa⟩=>⟨v,he,hm.2 y aS _ _ ⟨κ,_,(U.grow aa).set bh (B6 ?_)⟩⟩
  obtain ⟨aE,dx,dP,oh⟩:=gg;exact ⟨aE,dx,dP,e' _ (λr U=>.inr U) (cZ.refl _ _) oh⟩
 grind
theorem aeX (bh:∀ i,o.dst=some i->i<C.nt) {t:Nat} {args:Array Operand} {dj:Array TypeId} (ag:o.op=.call { callee:=.value (.tmp t),args:=args,argTypes:=dj }) {b':hS}
  (h:Cm C.aP s o t args.toList=some b'):qb C o s b':=by
 unfold Cm at h;split at h
 ·rename_i b9 aN b f hu;split at h
  ·rename_i x bW aj;cases h;obtain ⟨args⟩:=args;refine ⟨λa w Q K U be hm=>?_,λgs ov=>?_,λaa=>⟨?_,Cu aa λx aj=>by rw [ag];simp [Op.operands,Call.operands];simp_all⟩⟩
   ·obtain ⟨κ,F,U⟩:=U;obtain ⟨F',f1,bd,f2⟩:=bm.k6 (p6 _ aj) U;have dY:fl C.P aN F' w (args.map a.eval) x:=by
     refine uX U.bE f1 aN aj f2 (by simp) λi M dM=>?_;simp only [List.getElem_map];have dt:i<args.length:=by grind
     have G:=rQ be.2 i (by grind);have aF:(args.map (a_ C.aP s.az)).getD i .undef=a_ C.aP s.az args[i]:=by grind
     rw [show (List.map (a_ C.aP s.az) (⟨args⟩:Array Operand).toList)=args.map (a_ C.aP s.az) from rfl,aF] at G;exact o4 (j5 U args[i]) G
    have F4:bA C.P s.ab κ F w (use (a_ C.aP s.az (.tmp t))).2 (a.eval (.tmp t)):=cK U (.tmp t) hu be.1 |> λh=>by
     have e:use (a_ C.aP s.az (.tmp t))=(b9,.val (.fn aN b) f):=hu;grind
    have e:use (a_ C.aP s.az (.tmp t))=(b9,.val (.fn aN b) f):=hu;rw [e] at F4;obtain ⟨_,u,xf,_,s7⟩:=(dV rfl).1 F4;have xf:a.eval (.tmp t)=u:=(List.cons.inj xf).1;obtain ⟨g,cW,aC,r9,Lr⟩:=s7 F' w f1 (cZ.refl _ _) bd.c_ bd.iv (args.map a.eval) x dY.1 dY.2 hm.1;have c1:(execOp a.eval o).run C.P w=.ok (.enter g ((args.map a.eval).toArray++cW)) w:=by
     have af:a.eval (.tmp t)=.func (.func g) #[] cW:=xf.trans aC;simp only [execOp,ag,Sem.run_bind,resolve,af,Deferred.ofValue,Sem.run_pure,Result.andThen_ok,invoke];grind
    refine B7 (by grind) c1 Lr λe w' ⟨v,y,aE,he,aS,G,V,ah,aa⟩=>⟨v,he,hm.2 y aS _ _ ?_⟩
    have gg:ta C.P b (uG F' w w') w' v y:=⟨aE,G,V,ah⟩
    unfold qX;by_cases ar:b.pure=true
    ·rw [if_pos ar];have aC:=U.grow aa;refine ⟨κ,_,aC.set bh (B6 ?_)⟩;exact ⟨aE,G,RJ ar ⟨V,ah⟩⟩
    ·rw [if_neg ar];have aC:=bd.grow aa;exact ⟨κ,_,aC.set bh (B6 gg)⟩
   ·cases ov;exact SM bh (p6 _ aj)
   ·have:=aa (.tmp t) (by rw [ag];simp [Op.operands,Call.operands]);have e:use (a_ C.aP s.az (.tmp t))=(b9,.val (.fn aN b) f):=hu;grind
  grind
 grind
theorem aeY (aV:dT C.P T) (bh:∀ i,o.dst=some i->i<C.nt) {ty:TypeId} {x:Operand} (ag:o.op=.range ty x) {b':hS} (h:FN C.aP T s o ty x=some b'):qb C o s b':=by
 unfold FN at h;split at h
 ·rename_i k v d aL ay;split at h;rename_i b9 av hu;split at h
  ·rename_i es bW o7;split at h
   ·cases h
   ·rename_i tt;cases h;have tt:d ∉ bW:=by grind
    obtain ⟨i,j,M,_,_⟩:=(aV.b_ aL (by simp)).mp;refine ⟨λa w Q K U be hm=>?_,λgs ov=>(by grind),λaa=>qU.use aa (by rw [ag];simp [Op.operands]) hu⟩;obtain ⟨κ,F,U⟩:=U;obtain ⟨F',f1,bd,f2⟩:=bm.k6 (mI o7) U;have af:=cK U x hu be;have nG:=((dV rfl).1 (l9 U.bE f1 o7 f2 af)).2;have iF:=hm.2 () rfl;have o_:(s.cy bW).ab d=s.ab d:=by simp only [aB.cy];grind
    have fin:∀ (cq:Obj),(∀ w',w'=w.alloc cq->wz C.P k v F' w' w.heap.size none es)->(execOp a.eval o).run C.P w=.ok (.value (.pointer (some ⟨w.heap.size,0,none⟩))) (w.alloc cq)->o.wpIn (dS C.r) 0 C.P a w K Q:=by
     intro cq hit c1;have G:=bd.alloc (b:=d) (x:=⟨(s.ab d).gen+1,.cq k v none es⟩) (U.hd (bh d ay)) (by grind) (o:=cq) (k:=⟨w.heap.size,0,0,false⟩) rfl λH κ' _ _ _=>hit _ rfl;refine hr (by grind) c1 (iF _ _ ⟨_,F',bm.set (s:=(s.cy bW).cw d _) G bh ⟨⟨by simp [aB.cw],rfl⟩,λ_ _=>by simp⟩⟩)
    rcases nG with ⟨aF,rfl⟩ | ⟨r,ms,clk,aF,m1,m2,m3,m4,m5,m6⟩
    ·have aj:a.eval x=.map none:=(List.cons.inj aF).1;refine fin (.mapIter none 0 #[] 0) (λw' hw=>.inl ⟨by rw [hw];exact pY _ _,rfl,rfl⟩) ?_;simp [execOp,ag,Instr.range,dC M,aj]
    ·have aj:a.eval x=.map (some r):=(List.cons.inj aF).1;refine fin (.mapIter (some r) clk #[] clk) (λw' hw=>.inr ⟨r,ms,clk,#[],m1,?_,by rw [hw];exact pY _ _,λi M=>(m5 i (by omega) M).2.2.2.2,m6,?_,λc hc=>by cases hc⟩) ?_
     ·rw [hw,o1 _ _ (bd.c_ r m1)];exact m2
     ·refine ⟨List.range ms.size,by grind,List.nodup_range,λi=>by simp,λj aH fM=>?_⟩;have wR:j<ms.size:=by omega
      obtain ⟨aU,aX,bP,gx,_⟩:=m5 j fM wR;refine ⟨by grind,?_⟩;simp only [List.getElem_range];have he:cZ F' w w':=by rw [hw];exact cZ.alloc bd.c_ _
      exact yC.mono ⟨aU,aX,bP,gx⟩ (λ_ h=>h) he
     ·have eT:(getObj r).run C.P w=.ok (.map ms clk) w:=by simp [getObj,Sem.run,m2]
      simp [execOp,ag,Instr.range,dC M,aj,eT]
  grind
 grind
theorem aeZ (bh:∀ i,o.dst=some i->i<C.nt) {x:Operand} (ag:o.op=.entry x) {b':hS} (h:FQ C.aP s o x=some b'):qb C o s b':=by
 unfold FQ at h;split at h
 ·rename_i b g aj;split at h
  ·rename_i aC;split at h
   ·rename_i k v c cm aa;cases h;refine ⟨λa w Q K U _ hm=>?_,λgs ov=>(by grind),λ_=>trivial⟩;obtain ⟨κ,F,U⟩:=U;have af:=j5 U x;rw [aj] at af;have af:=af.2 aC.symm (by rw [aa];rfl);have aT:=U.bE b;unfold cB at aT;rw [aa] at aT;have fh:=A.kF.1 hm;have iF:=A.ea.1 fh.2;obtain ⟨c',jH⟩:=Option.isSome_iff_exists.1 fh.1;subst jH;rcases aT with ⟨_,_,e⟩ | ⟨lA,es,clk,seen,G,V,ah,a7,bM,_,fY⟩
    ·cases e
    ·obtain ⟨i,M,aG,he⟩:=fY c' rfl;have uY:es.find? (λe=>e.born == es[i].born)=some es[i]:=by
      rw [<-Array.find?_toList];have jL:es[i]∈es.toList:=by simp
      cases aw:es.toList.find? (λe=>e.born == es[i].born) with
      | none=>grind
      | some e=>
       have jb:=List.find?_some aw;have pT:=List.mem_of_find?_eq_some aw;obtain ⟨j,aH,rfl⟩:=List.mem_iff_getElem.1 pT;grind
     have Cw:(getObj (κ b).ab).run C.P w=.ok (.mapIter (some lA) clk seen clk) w:=by simp [getObj,Sem.run,ah]
     have wU:(getObj lA).run C.P w=.ok (.map es clk) w:=by simp [getObj,Sem.run,V]
     have c1:(execOp a.eval o).run C.P w=.ok (.value (.tuple #[es[i].key,es[i].val])) w:=by
      simp [execOp,ag,Instr.entry,af,Cw,wU,aG,uY]
     refine hr (by grind) c1 (iF _ _ ⟨κ,F,U.set bh ⟨[es[i].key,es[i].val],rfl,rfl,λn aD=>?_⟩⟩);match n,aD with
     | 0,_=>exact ⟨he.1,he.2.1⟩
     | 1,_=>exact ⟨he.2.2.1,he.2.2.2⟩
   grind
  grind
 grind
theorem ae0 {es:Array MapEntry} {seen:Array Nat} {clk:Nat} (a7:∀ i (h:i<es.size),es[i].born<clk) :
  (es.filter λe=>!seen.contains e.born).filter (λe=>decide (e.born<clk))=(es.filter λe=>!seen.contains e.born)/\(es.filter λe=>!seen.contains e.born).filter (λe=>decide (e.born>=clk))=#[]:=by
 have fB:∀ e∈es.filter λe=>!seen.contains e.born,e.born<clk:=by
  intro e he;have:=(Array.mem_filter.1 he).1;obtain ⟨i,M,rfl⟩:=Array.mem_iff_getElem.1 this;grind
 constructor
 ·exact Array.filter_eq_self.2 λe he=>by grind
 ·exact Array.filter_eq_empty_iff.2 λe he=>by grind
theorem ae1 (P:Program) (w:World) (n:Nat):∃ j w',(choose (.mapNext n)).run P w=.ok j w'/\(0<n->j<n)/\(w'=w\/w'=w.drew):=by
 rw [run_choose];by_cases h:n<=1
 ·have:(Question.mapNext n).forced=true:=by simp [Question.forced,h]
  rw [this];grind
 ·have:(Question.mapNext n).forced=false:=by simp [Question.forced];omega
  rw [this];exact ⟨_,_,rfl,λaD=>Nat.mod_lt _ aD,.inr rfl⟩
theorem ae2 (bh:∀ i,o.dst=some i->i<C.nt) {x:Operand} {str:Bool} (ag:o.op=.next x str) {b':hS} (h:FP C.aP s o x str=some b'):qb C o s b':=by
  unfold FP at h;split at h
  · rename_i b g aj
    split at h
    · rename_i aC
      split at h
      · rename_i k v c cm aa
        cases h
        refine ⟨λa w Q K U _ hm=>?_,λgs ov=>(by grind),λ_=>trivial⟩
        obtain ⟨κ,F,U⟩:=U
        have af:=j5 U x
        rw [aj] at af
        have af:=af.2 aC.symm (by rw [aa];rfl)
        have aT:=U.bE b
        unfold cB at aT
        rw [aa] at aT
        have ay:∀ c,o.op≠.defer c:=by grind
        have fZ:∀ w',(w'=w\/w'=w.drew)->cm=[]->(execOp a.eval o).run C.P w=.ok (.value (.tuple #[.bool false])) w'->o.wpIn (dS C.r) 0 C.P a w K Q:=by
          intro w' Cx r_ c1;have cI:bm C s a w' κ F:=by
            rcases Cx with rfl | rfl
            · exact U
            · exact U.drew
          have RG:s.cw b ⟨g,.cq k v c cm⟩=s:=by
            unfold aB.cw;congr 1;funext i;by_cases M:i=b
            · rw [if_pos M,M,<-aa,<-aC]
            grind
          refine hr ay c1 (hm.2 none r_ _ _ ⟨κ,F,bm.set (s:=s.cw b ⟨g,.cq k v c cm⟩) (by grind) bh ⟨[.bool false],rfl,rfl,λn aD=>?_⟩⟩);have:n=0:=by simp only [Su] at aD;omega
          subst this;exact fa.2 rfl
        rcases aT with ⟨G,V,_⟩ | ⟨lA,es,clk,seen,G,V,ah,a7,bM,⟨ids,i1,i2,i3,i4⟩,fY⟩
        · refine fZ w (.inl rfl) V ?_
          have Cw:(getObj (κ b).ab).run C.P w=.ok (.mapIter none 0 #[] 0) w:=by simp [getObj,Sem.run,G]
          simp [execOp,ag,Instr.next,af,Cw]
        · have Cw:(getObj (κ b).ab).run C.P w=.ok (.mapIter (some lA) clk seen clk) w:=by simp [getObj,Sem.run,ah]
          have wU:(getObj lA).run C.P w=.ok (.map es clk) w:=by simp [getObj,Sem.run,V]
          obtain ⟨f1,f2⟩:=ae0 (seen:=seen) a7
          have fB:(!seen.isEmpty&&!es.isEmpty&&es.all (λe=>decide (e.born>=clk)))=false:=by
            by_cases he:es.size=0
            · grind
            · have:es.all (λe=>decide (e.born>=clk))=false:=by
                rw [Array.all_eq_false];exact ⟨0,by omega,by grind⟩
              grind
          generalize ae3:(es.filter λe=>!seen.contains e.born)=left at f1 f2
          have ae4:((if left.isEmpty=true then #[none] else #[])++Array.map some (left++(#[]:Array MapEntry)))=(if left.isEmpty=true then #[none] else Array.map some left):=by
            grind
          obtain ⟨j,w',bF,c2,c3⟩:=ae1 C.P w (if left.isEmpty=true then #[none] else Array.map some left).size
          have cR:w'.heap=w.heap:=by rcases c3 with rfl | rfl<;>rfl
          have zw : ∀ r c6, (match (if left.isEmpty = true then #[none] else Array.map some left)[j]? with
                | some (some e)=>(do setObj (κ b).ab (.mapIter (some lA) clk (seen.push e.born) clk);pure (.tuple #[.bool true,e.key,e.val]):Sem Value)
                | some none=>pure (.tuple #[.bool false])
                | none => stuck "Next: no such candidate").run C.P w' = .ok r c6 -> (execOp a.eval o).run C.P w = .ok (.value r) c6 := by
            intro r c6 cI;simp only [execOp,ag,Instr.next,af,Sem.run_bind,Cw,Result.andThen_ok,wU,fB,Bool.false_eq_true,if_false,ae3,f1,f2,ae4,bF];exact (congrArg (λ(z:Result Value)=>z.andThen λv w'=>Sem.run C.P (Pure.pure (Next.value v)) w') cI).trans rfl
          by_cases hle:left.isEmpty=true
          · have J9:left=#[]:=by grind
            have r_:cm=[]:=by
              have:ids=[]:=List.eq_nil_iff_forall_not_mem.2 λi M=>by
                obtain ⟨u6,dt⟩:=(i3 i).1 M;have:es[i]∈left:=by
                  grind
                grind
              grind
            rw [hle] at zw c2
            simp only [if_true] at zw c2
            have aH:j=0:=by grind
            subst aH
            exact fZ w' c3 r_ (zw _ _ rfl)
          · have hle:left.isEmpty=false:=by grind
            rw [hle] at zw c2
            simp only [Bool.false_eq_true,if_false] at zw c2
            have awG:0<left.size:=by
              grind
            have aH:j<left.size:=by grind
            have jL:left[j]∈(es.filter λe=>!seen.contains e.born):=by grind
            obtain ⟨tv,SN⟩:=Array.mem_filter.1 jL
            obtain ⟨i0,om,ae5⟩:=Array.mem_iff_getElem.1 tv
            have ae6:i0∈ids:=(i3 i0).2 ⟨om,by grind⟩
            obtain ⟨q,br,Ls⟩:=List.mem_iff_getElem.1 ae6
            have Lt:q<cm.length:=by omega
            have o8:(setObj (κ b).ab (.mapIter (some lA) clk (seen.push left[j].born) clk)).run C.P w'=.ok () { w' with heap:=w'.heap.setIfInBounds (κ b).ab (.mapIter (some lA) clk (seen.push left[j].born) clk) }:=by
              simp [setObj,Sem.run,cR,ah]
            have c1:=zw (.tuple #[.bool true,left[j].key,left[j].val]) { w' with heap:=w'.heap.setIfInBounds (κ b).ab (.mapIter (some lA) clk (seen.push left[j].born) clk) } (by
              rw [show (Array.map some left)[j]?=some (some left[j]) by simp];simp only [Sem.run_bind,o8,Result.andThen_ok,Sem.run_pure])
            have iV:da w w':=by rcases c3 with rfl | rfl<;>exact ⟨rfl,rfl,rfl⟩
            have ch:(κ b).ab<w.heap.size:=(Array.getElem?_eq_some_iff.1 ah).1
            have ez:lA≠(κ b).ab:=λe=>(U.an b (by grind)).2.1 (e ▸ G)
            have gh:fm s.ab κ (λi=>if i=b then (⟨g,.cq k v cm[q]? (cm.eraseIdx q)⟩:bL) else s.ab i) κ:=
              qH aC.symm (λh=>by cases h) (λh=>by cases h) (λh=>by cases h) (λ_=>by rw [aa];rfl)
            have gR:=U.o2 (b:=b) (x:=⟨g,.cq k v cm[q]? (cm.eraseIdx q)⟩) (w':={ w' with heap:=w'.heap.setIfInBounds (κ b).ab (.mapIter (some lA) clk (seen.push left[j].born) clk) }) (by rw [aa];rfl) rfl gh (λh=>by cases h) (λh=>by cases h)
              (λr Kn=>by grind) (by grind) ⟨iV.os,iV.tape,iV.output⟩ λH _ _ he=>by
                refine .inr ⟨lA,es,clk,seen.push left[j].born,G,?_,by grind,a7,bM,⟨ids.eraseIdx q,?_,?_,λi=>?_,λn aD B'=>?_⟩,λc' jH=>?_⟩
                · grind
                · grind
                · grind
                · rw [List.mem_eraseIdx_iff_getElem]
                  constructor
                  · rintro ⟨n,aD,F5,rfl⟩
                    obtain ⟨tI,q4⟩:=(i3 ids[n]).1 (by simp)
                    refine ⟨tI,?_⟩
                    simp only [Array.contains_push,Bool.or_eq_false_iff]
                    refine ⟨q4,?_⟩
                    rw [<-ae5]
                    simp only [beq_eq_false_iff_ne,ne_eq]
                    intro e
                    have:ids[n]=i0:=bM _ _ tI om (by omega)
                    exact F5 ((List.getElem?_inj aD i2).1 (by grind))
                  · rintro ⟨tI,q4⟩
                    simp only [Array.contains_push,Bool.or_eq_false_iff] at q4
                    obtain ⟨n,aD,rfl⟩:=List.mem_iff_getElem.1 ((i3 i).2 ⟨tI,q4.1⟩)
                    grind
                · have u7:(ids.eraseIdx q)[n]=if h:n<q then ids[n]'(by omega) else ids[n+1]'(by grind):=by
                    rw [List.getElem_eraseIdx]
                  have SO:(cm.eraseIdx q)[n]=if h:n<q then cm[n]'(by omega) else cm[n+1]'(by grind):=by
                    rw [List.getElem_eraseIdx]
                  have hlen:n+1<ids.length:=by grind
                  by_cases F5:n<q
                  · obtain ⟨tI,q4⟩:=i4 n (by omega) (by omega)
                    simp only [u7,SO,F5,dif_pos]
                    exact ⟨tI,q4.mono (λ_ h=>h) he⟩
                  · obtain ⟨tI,q4⟩:=i4 (n+1) hlen (by omega)
                    simp only [u7,SO,F5,dif_neg,not_false_eq_true]
                    exact ⟨tI,q4.mono (λ_ h=>h) he⟩
                · rw [List.getElem?_eq_getElem Lt] at jH
                  cases jH
                  obtain ⟨tI,q4⟩:=i4 q br Lt
                  refine ⟨i0,om,by grind,?_⟩
                  have aF:es[ids[q]]=es[i0]:=by congr 1
                  rw [aF] at q4
                  exact q4.mono (λ_ h=>h) he
            refine hr ay c1 (hm.2 (some q) Lt _ _ ⟨κ,F,bm.set (s:=s.cw b _) gR bh ⟨[.bool true,left[j].key,left[j].val],rfl,rfl,λn aD=>?_⟩⟩)
            match n,aD with
            | 0,_=>exact fa.2 rfl
            | 1,_=>trivial
            | 2,_=>trivial
      grind
    grind
  grind
end
end Go.Fer
namespace Go.Fer
open Go.RowKit
def Cy:z9'->List Value->List Value->Prop
 | [],[],aE=>aE=[]
 | none::g,u::us,aE=>∃ rJ,aE=u::rJ/\Cy g us rJ
 | some n::g,u::us,aE=>∃ cs rJ,u=.agg cs/\cs.size=n/\(∀ c∈cs.toList,c.oneCell'=true)/\aE=cs.toList++rJ/\Cy g us rJ
 | _,_,_=>False
def F6 (g:z9') (v:Value) (aE:List Value):Prop:=∃ us:List Value,us.length=g.length/\v=(if us.length=1 then us.getD 0 undef else .tuple us.toArray)/\Cy g us aE
structure cO (P:Program) (aR:dE) (k:FuncId) (c:cG):Prop where
 enter:∀ args w,(callFunc k args).run P w=.ok (.enter k args) w
 iO:∀ (C:b8) (a:Act) (w:World) (κ:Nat->bD) (F:Nat->Prop) (D:c.ck.ai),C.P=P->C.w0=w->C.r=none->C.dfr=[]->C.nt=c.ka->C.aP=aR->bm C (c.ck.st D) a w κ F->(c.sh D).cr->
  Calls P k a.tmps w λe w'=>∃ v bn aE κ' F',e=.returned v/\(c.sh D).bR bn/\F6 c.kx v aE/\bm { C with nt:=aE.length } (c.bR.st bn) { tmps:=aE.toArray,defers:=[] } w' κ' F'
section
variable {P:Program} {H H':Nat->bL} {κ κ':Nat->bD} {F:Nat->Prop} {w:World} {g:Nat->Nat×Nat}
def ph (H H':Nat->bL) (κ κ':Nat->bD) (g:Nat->Nat×Nat):Prop:=∀ b,(H b).gen=0/\pX ⟨(g b).2,(H b).body⟩ (H' (g b).1) (κ b) (κ' (g b).1)
theorem ph.a1 (h:ph H H' κ κ' g) {b off:Nat} {v:Value} (af:bA P H κ F w (.a1 b 0 off) v):bA P H' κ' F w (.a1 (g b).1 (g b).2 off) v:=by
 obtain ⟨aY,aU,aX⟩:=h b;refine ⟨⟨aU,af.1.2⟩,λaC hc=>?_⟩;obtain ⟨bF,c2⟩:=(aX aC).1 hc;rw [c2];exact af.2 aY.symm bF
theorem ph.av (h:ph H H' κ κ' g) (t:bX) {R:Type} (z:t.cons R) {v:Value} (af:bA P H κ F w (t.av c7 z).1 v):bA P H' κ' F w (t.av g z).1 v:=by
 cases t with
 | undef=>trivial
 | val t=>exact af
 | dW t=>exact af
 | a1 b off=>exact h.a1 af
 | an b=>
  obtain ⟨aY,aU,aX⟩:=h b;refine ⟨⟨aU,af.1.2⟩,λaC hc=>?_⟩;obtain ⟨bF,c2,c3,c4⟩:=(aX aC).2.1 hc;rw [c2,c3];exact af.2 aY.symm bF
 | sub b=>
  obtain ⟨aY,aU,aX⟩:=h b;refine ⟨⟨aU,af.1.2⟩,λaC hc=>?_⟩;obtain ⟨bF,c2,c3,c4⟩:=(aX aC).2.1 hc;rw [c2,c3,c4];exact af.2 aY.symm bF
 | fb b=>
  obtain ⟨aY,aU,aX⟩:=h b;refine ⟨⟨aU,af.1.2⟩,λaC hc=>?_⟩;obtain ⟨bF,c2⟩:=(aX aC).2.2.1 hc;rw [c2];exact af.2 aY.symm bF
 | j0 b=>
  obtain ⟨aY,aU,aX⟩:=h b;refine ⟨⟨aU,af.1.2⟩,λaC hc=>?_⟩;obtain ⟨bF,c2⟩:=(aX aC).2.2.2 hc;rw [c2];exact af.2 aY.symm bF
 | df=>exact af
 | iu k fP=>
  obtain ⟨aE,G,V,ah⟩:=af;refine ⟨aE,G,V,λi M=>?_⟩;have:=ah i M;have aF:u1 c7 fP i=.a1 fP[i].1 0 fP[i].2:=by simp [u1,hb,List.getD_eq_getElem?_getD,M,c7]
  have bB:u1 g fP i=.a1 (g fP[i].1).1 (g fP[i].1).2 fP[i].2:=by simp [u1,hb,List.getD_eq_getElem?_getD,M]
  rw [aF] at this;rw [bB];exact h.a1 this
 | hD bs=>
  obtain ⟨aE,G,V,ah⟩:=af;refine ⟨aE,G,V,λi M=>?_⟩;obtain ⟨this,jH⟩:=ah i M;refine ⟨?_,jH⟩;have aF:u2 c7 bs i=.an bs[i] 0:=by simp [u2,hb,List.getD_eq_getElem?_getD,M,c7]
  have bB:u2 g bs i=.an (g bs[i]).1 (g bs[i]).2:=by simp [u2,hb,List.getD_eq_getElem?_getD,M]
  rw [aF] at this;rw [bB];obtain ⟨aY,aU,aX⟩:=h bs[i];refine ⟨⟨aU,this.1.2⟩,λaC hc=>?_⟩;obtain ⟨bF,c2,c3,c4⟩:=(aX aC).2.1 hc;rw [c2,c3];exact this.2 aY.symm bF
 | iP b=>
  obtain ⟨aY,aU,aX⟩:=h b;refine ⟨⟨aU,af.1.2⟩,λaC hc=>?_⟩;obtain ⟨bF,c2,c3,c4⟩:=(aX aC).2.1 hc;rw [c2,c3,c4];exact af.2 aY.symm bF
 | aW aN=>trivial
 | g_=>exact af
theorem zx (t:bX) {R:Type} (z:t.cons R):(t.av g z).2=(t.av c7 z).2:=by cases t<;>rfl
theorem SP:∀ (ts:List bX) {R:Type} (z:p9 ts R),(pd g ts z).2=(pd c7 ts z).2
 | [],_,_=>rfl
 | t::ts,_,z=>by simp only [pd];rw [zx (g:=g) t z];exact SP ts _
theorem SQ (t:b4) {R:Type} (z:t.cons R):(t.body g z).2=(t.body c7 z).2:=by
 cases t with
 | cells t l=>exact SP l z
 | f' e t=>exact zx t z.2
 | _=>rfl
theorem Lu:∀ (ts:List (Nat×bX)) {R:Type} (z:oo ts R),(eA g ts z).2=(eA c7 ts z).2
 | [],_,_=>rfl
 | p::ts,_,z=>by simp only [eA];rw [zx (g:=g) p.2 z];exact Lu ts _
theorem ph.avs (h:ph H H' κ κ' g):∀ (ts:List bX) {R:Type} (z:p9 ts R) (i:Nat) {v:Value},bA P H κ F w ((pd c7 ts z).1.getD i .undef) v->bA P H' κ' F w ((pd g ts z).1.getD i .undef) v
 | [],_,_,i,v,_=>by simp [pd,bA]
 | t::ts,_,z,i,v,af=>by
  simp only [pd] at af ⊢;cases i with
  | zero=>exact h.av t z af
  | succ i=>
   simp only [List.getD_cons_succ] at af ⊢;rw [zx (g:=g) t z];exact h.avs ts _ i af
theorem ph.bT (h:ph H H' κ κ' g):∀ (ts:List (Nat×bX)) {R:Type} (z:oo ts R) (i:Nat) {v:Value},bA P H κ F w (fo (eA c7 ts z).1 i) v->bA P H' κ' F w (fo (eA g ts z).1 i) v
 | [],_,_,i,v,_=>by simp [eA,fo,bA]
 | p::ts,_,z,i,v,af=>by
  simp only [eA,fo] at af ⊢;by_cases e:i=p.1
  ·rw [if_pos e] at af ⊢;exact h.av p.2 z af
  ·rw [if_neg e] at af ⊢;rw [zx (g:=g) p.2 z];exact h.bT ts _ i af
theorem SR:∀ (ts:List (Nat×bX)) {R:Type} (z:oo ts R) (i:Nat) {l aN L n st},fo (eA g ts z).1 i=.aW l aN L n st->fo (eA c7 ts z).1 i=.aW l aN L n st
 | [],_,_,i,_,_,_,_,_,h=>by simp [eA,fo] at h
 | p::ts,_,z,i,l,aN,L,n,st,h=>by
  simp only [eA,fo] at h ⊢;by_cases e:i=p.1
  ·rw [if_pos e] at h ⊢;obtain ⟨jG,t⟩:=p;cases t<;>first | exact h | cases h
  ·rw [if_neg e] at h ⊢;rw [zx (g:=g) p.2 z] at h;exact SR ts _ i h
def xg (x y:bQ):Prop:=x.fC=y.fC/\x.fc=y.fc/\x.len=y.len/\x.eY=y.eY/\x.gQ=y.gQ/\x.mD=y.mD/\∀ k,x.b1 k=y.b1 k
theorem xg.refl (x:bQ):xg x x:=⟨rfl,rfl,rfl,rfl,rfl,rfl,λ_=>rfl⟩
theorem ae7 (t:b4) {R:Type} (z:t.cons R):xg (t.body g z).1 (t.body c7 z).1:=by
 cases t with
 | cells t l=>exact ⟨rfl,rfl,rfl,rfl,rfl,rfl,λ_=>rfl⟩
 | f' e t=>exact ⟨rfl,rfl,rfl,rfl,rfl,rfl,λ_=>rfl⟩
 | _=>exact xg.refl _
theorem ae8:∀ (t:ad) (x:t.ai) (av:aI),av∈nB t x->∀ {v:Value},bA P H κ F w av v->bA P H' κ' F w av v:=by
  intro t;induction t with
  | cQ=>intro x av h;cases h
  | st t aM=>intro x av h;exact aM x av h
  | aA a b fv eJ=>
   intro x av h;rcases List.mem_append.1 h with h | h
   ·exact fv _ av h
   ·exact eJ _ av h
  | array n e aM=>
   intro x av h;simp only [nB,List.mem_flatMap] at h;grind
  | _=>
   intro x av h v af;simp only [nB,List.mem_singleton] at h;subst h;exact af
theorem ph.body (h:ph H H' κ κ' g) (t:b4) {R:Type} (z:t.cons R) {k:bD} (aa:jz P H κ F w k (t.body c7 z).1):jz P H' κ' F w k (t.body g z).1:=by
 cases t with
 | cells t l=>
  obtain ⟨cs,T,G,V,ah⟩:=aa;exact ⟨cs,T,G,V,λi M=>⟨h.avs l z i (ah i M).1,(ah i M).2⟩⟩
 | fV t=>
  obtain ⟨cs,T,G,V,ah⟩:=aa;refine ⟨cs,T,G,V,λi M=>⟨?_,(ah i M).2⟩⟩;have:=(ah i M).1;unfold hb at this ⊢;rw [List.getD_eq_getElem?_getD] at this ⊢;cases ak:(nB t z.1)[i]? with
  | none=>trivial
  | some av=>
   rw [ak] at this;simp only [Option.getD_some] at this ⊢;have jL:=List.mem_of_getElem? ak;exact ae8 t z.1 av jL this
 | bj e=>exact aa
 | hA e=>exact aa
 | mp k v=>exact aa
 | iQ k v=>exact aa
 | gD t=>exact aa
 | cq k v=>exact aa
 | f' e t=>
  obtain ⟨aY,cs,T,G,V,ah,a7,bM,dr,fY,jb⟩:=aa;exact ⟨aY,cs,T,G,V,ah,a7,bM,dr,h.av t z.2 fY,jb⟩
theorem SS {l:List (Nat×b4)} {x y:pc l} (h:x=y) (g:Nat->Nat×Nat) (b:Nat):eO (hg g l x) b=eO (hg g l y) b:=by rw [h]
theorem SU:∀ (l:List (Nat×b4)) (x:pc l) (b:Nat),xg (eO (hg g l x) b).body (eO (hg c7 l x) b).body
 | [],_,_=>xg.refl _
 | p::l,x,b=>by
  simp only [hg,eO];split
  ·exact ae7 p.2 x
  ·rw [SQ (g:=g) p.2 x];exact SU l _ b
theorem ph.bE (h:ph H H' κ κ' g):∀ (l:List (Nat×b4)) (x:pc l) (b:Nat) {k:bD},jz P H κ F w k (eO (hg c7 l x) b).body->jz P H' κ' F w k (eO (hg g l x) b).body
 | [],_,_,k,_=>trivial
 | p::l,x,b,k,aa=>by
  simp only [hg,eO] at aa ⊢;split
  ·rename_i e;rw [if_pos e] at aa;exact h.body p.2 x aa
  ·rename_i e;rw [if_neg e] at aa;rw [SQ (g:=g) p.2 x];exact h.bE l _ b aa
theorem Lv:∀ (l:List (Nat×bQ)) (b:Nat),(eO l b).gen=0
 | [],_=>rfl
 | p::l,b=>by
  simp only [eO];split
  ·rfl
  ·exact Lv l b
end
end Go.Fer
namespace Go.Fer
open Go.RowKit
theorem F7 {al:Type} {k:al->Nat}:∀ {l:List al},(l.map k).Nodup->∀ {p:al},p∈l->l.find? (λq=>k q == k p)=some p
 | [],_,_,h=>by cases h
 | a::l,aD,p,h=>by
  simp only [List.map_cons,List.nodup_cons] at aD;by_cases e:k a=k p
  ·grind
  ·rw [List.find?_cons_of_neg (by grind)];rcases List.mem_cons.1 h with rfl | h
   ·omega
   ·exact F7 aD.2 h
theorem Cz {al:Type} {k:al->Nat} {l:List al} (aD:(l.map k).Nodup) {p q:al} (ar:p∈l) (br:q∈l) (e:k p=k q):p=q:=by
 have G:=F7 aD ar;rw [e,F7 aD br] at G;grind
theorem SV:∀ {l:z6'},(l.map (·.1)).Nodup->∀ {p},p∈l->hT l p.1=p.2
 | [],_,_,h=>by cases h
 | a::l,aD,p,h=>by
  simp only [List.map_cons,List.nodup_cons] at aD;simp only [hT];by_cases e:p.1=a.1
  ·grind
  ·rw [if_neg e];rcases List.mem_cons.1 h with rfl | h
   ·omega
   ·exact SV aD.2 h
theorem SW:∀ {l:z6'} {b:Nat},b ∉ l.map (·.1)->hT l b=(mS,0)
 | [],_,_=>rfl
 | a::l,b,h=>by
  simp only [List.map_cons,List.mem_cons,not_or] at h;simp only [hT];rw [if_neg h.1];exact SW h.2
theorem SX (s:aB) (d:Nat) (f:Nat->Nat) (ins:List Nat):∀ (l:List (Nat×b4)) (j:Nat),(r3 s d f ins l j).map (·.1)=l.map (·.1)
 | [],_=>rfl
 | p::l,j=>by
  simp only [r3,List.map_cons,SX s d f ins l (j+1)];grind
theorem SY (s:aB) (d:Nat) (f:Nat->Nat) (ins:List Nat):∀ (l:List (Nat×b4)) (j:Nat) {p:Nat×(Nat×Nat)},p∈r3 s d f ins l j->
  (p.1∈ins/\p.2.1=f p.1/\∃ t,(p.1,t)∈l/\((p.2.2=(s.ab (f p.1)).gen/\((∀ (g:Nat->Nat×Nat) (R:Type) (z:t.cons R),(t.body g z).1.fc=false)\/(wA<=p.1/\∃ e,t=.bj e)))\/p.2.2=(s.ab (f p.1)).gen+1))\/
  (p.1 ∉ ins/\p.2.2=(s.ab p.2.1).gen+1/\50000+10*d+j<=p.2.1/\p.2.1<50000+10*d+j+l.length)
 | [],_,p,h=>by cases h
 | q::l,j,p,h=>by
  simp only [r3,List.mem_cons] at h;rcases h with h | h
  ·by_cases br:ins.contains q.1=true
   ·rw [if_pos br] at h;subst h;refine .inl ⟨by grind,rfl,q.2,by simp,?_⟩;obtain ⟨dx,t⟩:=q;cases t with
    | bj e=>
     grind
    | _=>first | exact .inr rfl | exact .inl ⟨rfl,.inl λ_ _ _=>rfl⟩
   grind
  ·rcases SY s d f ins l (j+1) h with ⟨G,V,t,ah,a7⟩ | ⟨G,V,ah,a7⟩
   ·exact .inl ⟨G,V,t,List.mem_cons_of_mem _ ah,a7⟩
   ·exact .inr ⟨G,V,by omega,by simp only [List.length_cons];omega⟩
theorem F8 (g:Nat->Nat×Nat):∀ (l:List (Nat×b4)) (x:pc l) (b:Nat),(eO (hg g l x) b=⟨0,.fw⟩/\b ∉ l.map (·.1))\/∃ q∈l,q.1=b/\∃ (R:Type) (z:q.2.cons R),eO (hg g l x) b=⟨0,(q.2.body g z).1⟩
 | [],_,_=>.inl ⟨rfl,by simp⟩
 | p::l,x,b=>by
  simp only [hg,eO];by_cases e:b=p.1
  ·grind
  ·rw [if_neg e];rcases F8 g l (p.2.body g x).2 b with ⟨G,V⟩ | ⟨q,G,V⟩
   ·exact .inl ⟨G,by rw [List.map_cons,List.mem_cons,not_or];exact ⟨e,V⟩⟩
   ·exact .inr ⟨q,List.mem_cons_of_mem _ G,V⟩
theorem ae9 {t u:b4} (h:t.Fy u=true) {g g':Nat->Nat×Nat} {R Lw:Type} (z:t.cons R) (ma:u.cons Lw) :
  ((t.body g z).1.fC=true->(u.body g' ma).1.fC=true/\∀ k,(u.body g' ma).1.b1 k=true)/\((t.body g z).1.gQ=true->(u.body g' ma).1.gQ=true/\∀ k,(u.body g' ma).1.b1 k=true)/\(t.body g z).1.mD=false:=by
 cases t<;>cases u<;>first
  | exact Bool.noConfusion h
  | exact ⟨λ_=>⟨rfl,λ_=>rfl⟩,λh=>Bool.noConfusion h,rfl⟩
  | exact ⟨λh=>Bool.noConfusion h,λ_=>⟨rfl,λ_=>rfl⟩,rfl⟩
  | exact ⟨λh=>Bool.noConfusion h,λh=>Bool.noConfusion h,rfl⟩
theorem xh:∀ (ts:List (Nat×bX)) {R:Type} (g:Nat->Nat×Nat) (z:oo ts R) (i:Nat),ts.any (λp=>p.1 == i)=false->fo (eA g ts z).1 i=.undef
 | [],_,_,_,_,_=>rfl
 | p::ts,_,g,z,i,h=>by
  simp only [List.any_cons,Bool.or_eq_false_iff,beq_eq_false_iff_ne] at h;simp only [eA,fo];rw [if_neg (Ne.symm h.1)];exact xh ts g _ i h.2
theorem Lx {P:Program} {H:Nat->bL} {κ:Nat->bD} {F:Nat->Prop} {w:World}:∀ (g:z9') {us aE:List Value},Cy g us aE->∀ (c:Nat->aI) (i:Nat),(∀ j,j<aE.length->bA P H κ F w (c (i+j)) (aE.getD j undef))->
  (pe g c i).length=g.length/\us.length=g.length/\∀ j,j<g.length->bA P H κ F w ((pe g c i).getD j .undef) (us.getD j undef)
 | [],[],aE,_,_,_,_=>⟨rfl,rfl,λj aH=>by cases aH⟩
 | [],_::_,_,h,_,_,_=>h.elim
 | none::g,[],_,h,_,_,_=>h.elim
 | some n::g,[],_,h,_,_,_=>h.elim
 | none::g,u::us,aE,h,c,i,af=>by
  obtain ⟨rJ,rfl,h⟩:=h;obtain ⟨G,V,ah⟩:=Lx g h c (i+1) λj aH=>by
   have:=af (j+1) (by grind);rw [show i+(j+1)=i+1+j by omega] at this;simpa using this
  refine ⟨by simp [pe,G],by grind,λj aH=>?_⟩;cases j with
  | zero=>simpa [pe] using af 0 (by simp)
  | succ j=>simpa [pe] using ah j (by grind)
 | some n::g,u::us,aE,h,c,i,af=>by
  obtain ⟨cs,rJ,rfl,aD,nH,rfl,h⟩:=h;obtain ⟨G,V,ah⟩:=Lx g h c (i+n) λj aH=>by
   have:=af (n+j) (by grind);rw [show i+(n+j)=i+n+j by omega] at this;have e:(cs.toList++rJ).getD (n+j) undef=rJ.getD j undef:=by
    grind
   rw [e] at this;omega
  refine ⟨by simp [pe,G],by grind,λj aH=>?_⟩;cases j with
  | zero=>
   simp only [pe,List.getD_cons_zero];refine ⟨cs.toList,by simp,by omega,λj aH=>?_⟩;grind
  | succ j=>simpa [pe] using ah j (by grind)
theorem ae_ {P:Program} {H:Nat->bL} {κ:Nat->bD} {F:Nat->Prop} {w:World} {g:z9'} {v:Value} {aE:List Value} (h:F6 g v aE) {c:Nat->aI} (af:∀ j,bA P H κ F w (c j) (aE.getD j undef)) :
  bA P H κ F w (K7 (pe g c 0)) v:=by
 obtain ⟨us,G,V,ah⟩:=h;obtain ⟨aU,_,bP⟩:=Lx g ah c 0 (λj _=>by simpa using af j);subst V;generalize pe g c 0=l at aU bP;unfold K7;split
 ·grind
 ·rename_i ak;have ez:us.length≠1:=λe=>by
   have:l.length=1:=by omega
   match l,this with
   | [x],_=>grind
  rw [if_neg ez];refine ⟨us,rfl,by omega,λi M=>?_⟩;unfold hb;grind
end Go.Fer
namespace Go.Fer
open Go.RowKit
section
variable {C:b8} {s:aB} {a:Act} {w:World} {κ:Nat->bD} {F:Nat->Prop}
theorem bm.args (U:bm C s a w κ F) {avs:List aI} {us:List Value} (aD:us.length<=eP) (ak:avs.length=us.length) (af:∀ i,i<us.length->bA C.P s.ab κ F w (avs.getD i .undef) (us.getD i undef)) :
    bm { C with nt:=us.length,dfr:=[],r:=none } (r2 s avs) { tmps:=us.toArray,defers:=[] } w κ F:=
  { U with
    dF:=by simp,dfr:=rfl,ga:=aD
    bT:=λi=>by
      show bA C.P s.ab κ F w (if i=b5 then s.az b5 else if i<avs.length then avs.getD i .undef else .undef) (us.toArray.getD i undef);split
      · rename_i e
        subst e
        have G:=U.bT b5
        have V:a.tmps.getD b5 undef=undef:=by
          have:=U.dF;have:=U.ga;rw [Array.getD_eq_getD_getElem?,Array.getElem?_eq_none (by unfold b5 eP at *;omega)];rfl
        have ah:us.toArray.getD b5 undef=undef:=by
          rw [Array.getD_eq_getD_getElem?,Array.getElem?_eq_none (by simp only [List.size_toArray];unfold b5 eP at *;omega)];rfl
        grind
      · split
        · simp_all
        · trivial
    bE:=U.bE
    eK:=λl aN L n st e=>U.eK l aN L n st (by simpa [r2] using e) }
def q5 (C:b8) (w:World) (F':Nat->Prop) (n:Nat) (an Y:Nat->Prop) (ib:(Nat->Option Nat)×(Nat->Option (bD×Nat))):b8:=
 { C with w0:=w,F0:=F',K0:=λr=>r<w.heap.size/\¬an r/\¬Y r,nt:=n,dfr:=[],r:=none,ib:=ib.1,JC:=ib.2 }
structure CA (C:b8) (s:aB) (w:World) (κ:Nat->bD) (F:Nat->Prop) (sl:aI) (Y:Nat->Prop):Prop where
 eK:∀ l aN L n st,sl=.aW l aN L n st->(∃ I,C.b'=⟨l,aN,L,I⟩)/\C.b'.hy C.P/\C.b'.at aN n st F Y w
 low:∀ r,Y r->r<w.heap.size/\¬F r/\¬C.K0 r
 an:∀ b,(s.ab b).body.b1 (κ b)=true->¬Y (κ b).ab
 F9:sl=.undef->∀ r,¬Y r
theorem bm.ae' (U:bm C s a w κ F) {sl:aI} (h:∀ l aN L n st,sl=.aW l aN L n st->s.az b5=.aW l aN L n st):∃ Y,CA C s w κ F sl Y:=by
 by_cases aG:∃ l aN L n st,sl=.aW l aN L n st
 ·obtain ⟨l,aN,L,n,st,e⟩:=aG;obtain ⟨G,V,Y,ah,a7,bM⟩:=U.eK l aN L n st (h _ _ _ _ _ e);refine ⟨Y,⟨λdG kv e2 iT il a8=>?_,ah,a7,λa8=>?_⟩⟩
  ·rw [e] at a8;cases a8;exact ⟨G,V,bM⟩
  ·rw [e] at a8;cases a8
 ·exact ⟨λ_=>False,⟨λl aN L n st e=>(aG ⟨l,aN,L,n,st,e⟩).elim,λ_ h=>h.elim,λ_ _ h=>h,λ_ _ h=>h⟩⟩
theorem afa {C1:b8} {eE:aB} {ca:Act} {F':Nat->Prop} {bW:List Nat} {f:Nat->Nat} {sh:dH} {D:sh.ai} {Y:Nat->Prop} {ids:List Nat} (jk:C1.P=C.P) (tm:C1.aP=C.aP) (q6:C1.dfr=[])
  (gH:bm C1 (eE.cy bW) ca w κ F') (ay:F3 C1 eE ca w κ f F' sh D bW) (iA:CA C (eE.cy bW) w κ F' ((sh.st D).az b5) Y)
  (aw:∀ b bf,b∈sh.oq->bf∈sh.oq->f b=f bf->b=bf) (hid:∀ b∈ids,eP<=b) :
  bm (q5 C w F' C1.nt (λr=>∃ b,((sh.st D).ab b).body.b1 (κ (f b))=true/\(κ (f b)).ab=r) Y (λb=>if b∈ids then some (κ (f b)).ab else none,λb=>if b∈ids/\wA<=b then some (κ (f b),((sh.st D).ab b).body.len) else none)) (sh.st D) ca w (λb=>κ (f b)) F' where
 dF:=gH.dF
 dfr:=gH.dfr.trans q6
 bT:=λi=>by have:=ay.bT i;rw [jk] at this;exact this
 bE:=λb=>by have:=ay.bE b;rw [jk] at this;exact this
 an:=λb aa=>by
  have G:=gH.an (f b) (ay.xe aa);exact ⟨G.1,G.2.1,λh=>h.2.1 ⟨b,aa,rfl⟩⟩
 inj:=λb bf aa dh e=>aw b bf (ay.b1 b aa).2.2 (ay.b1 bf dh).2.2 (gH.inj _ _ (ay.xe aa) (ay.xe dh) e)
 c_:=gH.c_
 ha:=λr U=>.inl U
 hN:=λr U=>U
 hq:=λr U=>U.1
 eD:=λ_ _=>rfl
 size:=Nat.le_refl _
 en:=da.refl _
 ga:=gH.ga
 kk:=λb r h=>by
  simp only [q5] at h;grind
 jA:=λb r h _=>by
  simp only [q5] at h;grind
 j1:=λb k h=>by
  simp only [q5] at h;grind
 kl:=λb k h _ _=>by
  simp only [q5] at h;grind
 eK:=λl aN L n st e=>by
  obtain ⟨G,V,ah⟩:=iA.eK l aN L n st e;exact ⟨G,V,Y,λr U=>⟨(iA.low r U).1,(iA.low r U).2.1,λh=>h.2.2 U⟩,λb aa=>iA.an _ (ay.xe aa),ah⟩
 jB:=by have:=gH.jB;rw [jk,tm] at this;exact this
 iv:=by have:=gH.iv;rw [jk] at this;exact this
structure SZ (s:aB) (κ:Nat->bD) (ib:(Nat->Option Nat)×(Nat->Option (bD×Nat))) (bs:List (Nat×bQ)) (cc:z6'):Prop where
 ec:(cc.map (·.1)).Nodup
 ef:(cc.map (·.2.1)).Nodup
 fw:mS ∉ cc.map (·.2.1)
 afb:(s.ab mS).body=.fw
 S0:∀ p∈cc,(p.2.1<eP/\(s.ab p.2.1).gen<p.2.2)\/
  (((eO bs p.1).body.fC=true->(s.ab p.2.1).body.fC=true/\ib.1 p.1=some (κ p.2.1).ab)/\((eO bs p.1).body.gQ=true->(s.ab p.2.1).body.gQ=true/\ib.1 p.1=some (κ p.2.1).ab)/\(eO bs p.1).body.mD=false/\
   ((p.2.2=(s.ab p.2.1).gen/\((eO bs p.1).body.fc=true->(s.ab p.2.1).body.fc=true/\(eO bs p.1).body.eY=(s.ab p.2.1).body.eY/\ib.2 p.1=some (κ p.2.1,(s.ab p.2.1).body.len)))\/p.2.2=(s.ab p.2.1).gen+1))
theorem afc {F' an Y:Nat->Prop} {sl:aI} {n:Nat} {ib:(Nat->Option Nat)×(Nat->Option (bD×Nat))} {ins:List Nat} {bR:dH} {bn:bR.ai} {aE:List Value} {w':World} {mT:Nat->bD} {eg:Nat->Prop}
    (U:bm C s a w κ F') (iA:CA C s w κ F' sl Y) (gb:∀ r,an r->∃ b,b∈ins/\(s.ab b).body.b1 (κ b)=true/\(κ b).ab=r)
    (hG:bm { q5 C w F' n an Y ib with nt:=aE.length } (bR.st bn) { tmps:=aE.toArray,defers:=[] } w' mT eg)
    {cc:z6'} (gf:SZ s κ ib (hg (hT cc) bR.bE (eA (hT cc) bR.bT bn).2) cc)
    {H':Nat->bL} {κn:Nat->bD} (zy:∀ p∈cc,H' p.2.1=⟨p.2.2,(eO (hg (hT cc) bR.bE (eA (hT cc) bR.bT bn).2) p.1).body⟩/\κn p.2.1=mT p.1)
    (CB:∀ b,b ∉ cc.map (·.2.1)->κn b=κ b/\(b∈ins->H' b=⟨(s.ab b).gen+1,.fw⟩)/\(b ∉ ins->H' b=s.ab b))
    {X:aI} (zz:X=fo (eA (hT cc) bR.bT bn).1 b5\/X=.undef\/(X=s.az b5/\sl=.undef)) :
    bm C ⟨λi=>if i=b5 then X else s.az i,H'⟩ a w' κn eg/\
    ∀ i,bA C.P H' κn eg w' (fo (eA (hT cc) bR.bT bn).1 i) (aE.toArray.getD i undef):=by
  generalize CC:hg (hT cc) bR.bE (eA (hT cc) bR.bT bn).2=bs at gf zy;have qV:∀ b,xg (eO bs b).body ((bR.st bn).ab b).body:=λb=>by
    rw [<-CC,SS (Lu bR.bT bn)];exact SU bR.bE (eA c7 bR.bT bn).2 b
  have CD:ph (bR.st bn).ab H' mT κn (hT cc):=by
    intro b;refine ⟨Lv _ b,?_⟩;by_cases aa:b∈cc.map (·.1)
    · obtain ⟨p,ar,rfl⟩:=List.mem_map.1 aa
      rw [SV gf.ec ar]
      obtain ⟨G,V⟩:=zy p ar
      rw [G,V]
      obtain ⟨aU,aX,bP,gx,o',xi,_⟩:=qV p.1
      exact ⟨Nat.le_refl _,λ_=>⟨λh=>⟨aU ▸ h,rfl⟩,λh=>⟨aX ▸ h,rfl,bP,gx⟩,λh=>⟨o' ▸ h,rfl⟩,λh=>⟨xi ▸ h,rfl⟩⟩⟩
    · rw [SW aa]
      obtain ⟨_,V,ah⟩:=CB mS gf.fw
      have ay:(H' mS).body=.fw:=by
        by_cases M:mS∈ins
        · grind
        · rw [ah M];exact gf.afb
      refine ⟨Nat.zero_le _,λ_=>?_⟩
      show ((H' mS).body.fC=true->_)/\((H' mS).body.fc=true->_)/\((H' mS).body.gQ=true->_)/\((H' mS).body.mD=true->_)
      rw [ay]
      exact ⟨λh=>(by cases h),λh=>(by cases h),λh=>(by cases h),λh=>(by cases h)⟩
  have F_:∀ b,(∃ p∈cc,p.2.1=b)\/b ∉ cc.map (·.2.1):=λb=>by
    grind
  have Ga:∀ p∈cc,∀ r,ib.1 p.1=some r->(eO bs p.1).body.fC=true\/(eO bs p.1).body.gQ=true->(mT p.1).ab=r:=λp ar r U h=>by
    obtain ⟨aU,_,_,_,o',_⟩:=qV p.1;exact hG.jA p.1 r U (h.imp (λh=>aU ▸ h) (λh=>o' ▸ h))
  have afd:∀ p∈cc,∀ k,ib.2 p.1=some k->(eO bs p.1).body.fc=true->mT p.1=k.1/\(eO bs p.1).body.len=k.2:=λp ar k ao h=>by
    obtain ⟨_,aX,bP,_⟩:=qV p.1;obtain ⟨G,V⟩:=hG.kl p.1 k ao (Lv _ _) (aX ▸ h);grind
  have ak:fm s.ab κ H' κn:=by
    rw [Bs];intro b;rcases F_ b with ⟨p,ar,rfl⟩ | aa
    · obtain ⟨G,V⟩:=zy p ar
      rw [G,V]
      rcases gf.S0 p ar with ⟨_,h⟩ | ⟨hc,hm,hit,h⟩
      · exact ⟨Nat.le_of_lt h,λe=>(by grind)⟩
      · rcases h with ⟨h,e6⟩ | h
        · refine ⟨Nat.le_of_eq h.symm,λ_=>⟨λh=>⟨(hc h).1,Ga p ar _ (hc h).2 (.inl h)⟩,λh=>?_,λh=>⟨(hm h).1,Ga p ar _ (hm h).2 (.inr h)⟩,λh=>?_⟩⟩
          · have h:(eO bs p.1).body.fc=true:=h
            obtain ⟨ca,a2,a3⟩:=e6 h
            obtain ⟨dB,eu⟩:=afd p ar _ a3 h
            exact ⟨ca,dB,eu,a2⟩
          · have h:(eO bs p.1).body.mD=true:=h
            rw [hit] at h;cases h
        · exact ⟨by grind,λe=>(by grind)⟩
    · obtain ⟨G,V,ah⟩:=CB b aa
      rw [G]
      by_cases M:b∈ins
      · rw [V M]
        exact ⟨Nat.le_succ _,λe=>(by grind)⟩
      · rw [ah M];exact pX.refl _ _
  have zA:w.heap.size<=w'.heap.size:=hG.size;have bo:∀ r,F' r->eg r:=hG.hN;have iF:∀ r,r<w.heap.size->¬an r->¬Y r->w'.heap[r]?=w.heap[r]?:=λr G V ah=>hG.eD r ⟨G,V,ah⟩;have u9:∀ r,C.K0 r->r<w.heap.size:=λr h=>Nat.lt_of_lt_of_le (U.hq r h) U.size;have Ly:∀ r,an r->¬C.K0 r/\¬F' r:=λr h=>by
    obtain ⟨b,_,G,rfl⟩:=gb r h;exact ⟨(U.an b G).2.2,(U.an b G).2.1⟩
  have S1:∀ r,¬(r<w.heap.size/\¬an r/\¬Y r)->¬C.K0 r:=λr h ao=>h ⟨u9 r ao,λag=>(Ly r ag).1 ao,λaS=>(iA.low r aS).2.2 ao⟩;have qc:cZ F' w w':=⟨zA,λr h=>iF r (U.c_ r h) (λag=>(Ly r ag).2 h) λaS=>(iA.low r aS).2.1 h⟩
  have zc:∀ r,eg r->F' r\/¬(r<w.heap.size/\¬an r/\¬Y r):=hG.ha;have r_:∀ b,b ∉ ins->(s.ab b).body.b1 (κ b)=true->(κ b).ab<w.heap.size/\¬an (κ b).ab/\¬Y (κ b).ab:=λb aa ag=>by
    refine ⟨(U.an b ag).1,λh=>?_,iA.an b ag⟩;obtain ⟨bf,G,V,ah⟩:=gb _ h;exact aa (U.inj bf b V ag ah ▸ G)
  have yH:∀ b,(H' b).body.b1 (κn b)=true->(∃ p∈cc,p.2.1=b/\((bR.st bn).ab p.1).body.b1 (mT p.1)=true/\κn b=mT p.1)\/(b ∉ cc.map (·.2.1)/\b ∉ ins/\κn b=κ b/\(s.ab b).body.b1 (κ b)=true):=λb aa=>by
    rcases F_ b with ⟨p,ar,rfl⟩ | aD
    · obtain ⟨G,V⟩:=zy p ar
      rw [G,V] at aa
      exact .inl ⟨p,ar,rfl,by rw [<-(qV p.1).2.2.2.2.2.2];exact aa,V⟩
    · obtain ⟨G,V,ah⟩:=CB b aD
      by_cases M:b∈ins
      · rw [V M] at aa;cases aa
      grind
  have fi:∀ i,bA C.P H' κn eg w' (fo (eA (hT cc) bR.bT bn).1 i) (aE.toArray.getD i undef):=λi=>CD.bT bR.bT bn i (hG.bT i);refine ⟨{ dF := U.dF, dfr := U.dfr, bT := λi => ?_, bE := λb => ?_, an := λb aa => ?_, inj := λb bf aa dh e => ?_, c_ := hG.c_, ha := λr h => ?_, hN := λr h => bo r (U.hN r h), hq := U.hq, eD := λr h => ?_,size:=Nat.le_trans U.size zA,en:=U.en.trans hG.en,ga:=U.ga,kk:=U.kk,jA:=λb r h hc=>?_,j1:=U.j1,kl:=λb k h aY ba=>?_,eK:=λl aN L m st e=>?_,jB:=U.jB,iv:=hG.iv },fi⟩
  · show bA C.P H' κn eg w' (if i=b5 then X else s.az i) _
    split
    · rename_i e
      subst e
      have hu:a.tmps.getD b5 undef=undef:=by
        have:=U.dF;have:=U.ga;rw [Array.getD_eq_getD_getElem?,Array.getElem?_eq_none (by unfold b5 eP at *;omega)];rfl
      rcases zz with rfl | rfl | ⟨rfl,_⟩
      · have h:=fi b5
        have Lz:aE.toArray.getD b5 undef=undef:=by
          have:aE.length<=eP:=hG.ga;rw [Array.getD_eq_getD_getElem?,Array.getElem?_eq_none (by simp only [List.size_toArray];unfold b5 eP at *;omega)];rfl
        grind
      · trivial
      · exact bA.later ak bo qc (U.bT b5)
    · exact bA.later ak bo qc (U.bT i)
  · show jz C.P H' κn eg w' (κn b) (H' b).body
    rcases F_ b with ⟨p,ar,rfl⟩ | aD
    · obtain ⟨G,V⟩:=zy p ar
      rw [G,V,<-CC,SS (Lu bR.bT bn)]
      exact CD.bE bR.bE (eA c7 bR.bT bn).2 p.1 (hG.bE p.1)
    · obtain ⟨G,V,ah⟩:=CB b aD
      by_cases M:b∈ins
      · rw [V M];trivial
      · have:=cB.k3 (H':=H') (κ':=κn) (U.bE b) ak bo qc (by grind) G λag=>iF _ (r_ b M ag).1 (r_ b M ag).2.1 (r_ b M ag).2.2
        exact this
  · rcases yH b aa with ⟨p,ar,_,G,V⟩ | ⟨_,G,V,ah⟩
    · have:=hG.an p.1 G
      rw [V]
      exact ⟨this.1,this.2.1,S1 _ this.2.2⟩
    · rw [V]
      have a7:=U.an b ah
      grind
  · rcases yH b aa with ⟨p,ar,rfl,G,V⟩ | ⟨_,G,V,ah⟩<;>rcases yH bf dh with ⟨p',BJ,rfl,yZ,wM⟩ | ⟨_,yZ,wM,S2⟩
    · rw [V,wM] at e
      have:=hG.inj _ _ G yZ e
      rw [Cz gf.ec ar BJ this]
    · rw [V,wM] at e
      exact ((hG.an p.1 G).2.2 (e ▸ r_ bf yZ S2)).elim
    · rw [V,wM] at e
      exact ((hG.an p'.1 yZ).2.2 (e ▸ r_ b G ah)).elim
    · rw [V,wM] at e
      exact U.inj b bf ah S2 e
  · rcases zc r h with h | h
    · exact U.ha r h
    grind
  · exact (iF r (u9 r h) (λag=>(Ly r ag).1 h) λaS=>(iA.low r aS).2.2 h).trans (U.eD r h)
  · have aL:=U.kk b r h
    rcases F_ b with ⟨p,ar,rfl⟩ | aD
    · obtain ⟨G,V⟩:=zy p ar
      simp only [G] at hc
      rcases gf.S0 p ar with ⟨ah,_⟩ | ⟨aU,aX,_⟩
      · omega
      · rw [V]
        rcases hc with hc | hc
        · rw [Ga p ar _ (aU hc).2 (.inl hc)]
          exact U.jA _ r h (.inl (aU hc).1)
        · rw [Ga p ar _ (aX hc).2 (.inr hc)]
          exact U.jA _ r h (.inr (aX hc).1)
    · obtain ⟨G,V,ah⟩:=CB b aD
      by_cases M:b∈ins
      · simp only [V M] at hc
        rcases hc with hc | hc<;>cases hc
      · simp only [ah M] at hc
        rw [G]
        exact U.jA b r h hc
  · have aL:=U.j1 b k h
    have aY:(H' b).gen=0:=aY
    have ba:(H' b).body.fc=true:=ba
    show κn b=k.1/\(H' b).body.len=k.2
    obtain ⟨g1,eo⟩:=ak b
    obtain ⟨ca,a2,a3,_⟩:=(eo (by omega)).2.1 ba
    obtain ⟨aU,aX⟩:=U.kl b k h (by omega) ca
    grind
  · have e:X=.aW l aN L m st:=by grind
    rcases zz with rfl | rfl | ⟨rfl,afe⟩
    · obtain ⟨G,V,gr,ah,a7,bM⟩:=hG.eK l aN L m st (SR bR.bT bn b5 e)
      refine ⟨G,V,gr,λr bd=>⟨(ah r bd).1,(ah r bd).2.1,S1 r (ah r bd).2.2⟩,λb aa aS=>?_,bM⟩
      rcases yH b aa with ⟨p,ar,rfl,aU,aX⟩ | ⟨_,aU,aX,bP⟩
      · grind
      · rw [aX] at aS;exact (ah _ aS).2.2 (r_ b aU bP)
    · cases e
    · obtain ⟨G,V,gr,ah,a7,bM⟩:=U.eK l aN L m st e
      have S3:∀ r,gr r->r<w.heap.size/\¬an r/\¬Y r:=λr aS=>⟨(ah r aS).1,λag=>by
        grind,iA.F9 afe r⟩
      have Bt:∀ r,eg r->¬gr r:=λr aw aS=>(zc r aw).elim (ah r aS).2.1 λh=>h (S3 r aS)
      refine ⟨G,V,gr,λr aS=>⟨Nat.lt_of_lt_of_le (ah r aS).1 zA,λaw=>Bt r aw aS,(ah r aS).2.2⟩,λb aa aS=>?_,V.JB bM bo (λr aw=>?_) zA hG.en hG.c_ Bt⟩
      · rcases yH b aa with ⟨p,ar,rfl,aU,aX⟩ | ⟨_,aU,aX,bP⟩
        · rw [aX] at aS;exact (hG.an _ aU).2.2 (S3 _ aS)
        grind
      · rcases aw with aw | aw
        · exact qc.2 r aw
        grind
end
end Go.Fer
namespace Go.Fer
open Go.RowKit
section
variable {C:b8} {T:Nat->ad} {o:Oper} {s:aB}
theorem cO.bC {P:Program} {aR:dE} {k:FuncId} {c:cG} (aw:cO P aR k c) {C:b8} {a:Act} {w:World} {κ:Nat->bD} {F:Nat->Prop} {D:c.ck.ai} (h:bm C (c.ck.st D) a w κ F) (G:C.P=P) (V:C.w0=w) (ah:C.r=none) (a7:C.dfr=[]) (bM:C.nt=c.ka) (dr:C.aP=aR) (aG:(c.sh D).cr) :
  Calls P k a.tmps w λe w'=>∃ v bn aE κ' F',e=.returned v/\(c.sh D).bR bn/\F6 c.kx v aE/\bm { C with nt:=aE.length } (c.bR.st bn) { tmps:=aE.toArray,defers:=[] } w' κ' F':=
 aw.iO C a w κ F D G V ah a7 bM dr h aG
theorem S4 {C:b8} {s:aB} {LA:Nat->aI} {a ca:Act} {w:World} {κ:Nat->bD} {F:Nat->Prop} {ec:Nat} {c:cG} {f:Nat->Nat} {D:c.ck.ai} {bW:List Nat} {d m:Nat} {cc:z6'}
    (U:bm C s a w κ F) (gH:bm { C with nt:=ec,dfr:=[],r:=none } ⟨LA,s.ab⟩ ca w κ F) (qd:LA b5=s.az b5)
    (nO:c.ck.zk f ⟨LA,s.ab⟩=some (D,bW)) (S5:r3 (s.cy bW) d f c.ck.oq c.bR.bE 0=cc) (eb:Cn c f (s.cy bW) cc d m=true) :
    ∃ (F' an Y:Nat->Prop) (ib:(Nat->Option Nat)×(Nat->Option (bD×Nat))),(∀ r,F r->F' r)/\bm C (s.cy bW) a w κ F'/\(∀ r,an r->∃ b,((s.cy bW).ab b).body.b1 (κ b)=true/\(κ b).ab=r)/\CA C (s.cy bW) w κ F' ((c.ck.st D).az b5) Y/\(∀ l aN L n st,(c.ck.st D).az b5=.aW l aN L n st->s.az b5=.aW l aN L n st)/\
      bm (q5 C w F' ec an Y ib) (c.ck.st D) ca w (λb=>κ (f b)) F'/\
      ∀ LB hB,bm { C with w0:=LB } (s.cy bW) a hB κ F'->CA C (s.cy bW) hB κ F' ((c.ck.st D).az b5) Y->∀ (bn:c.bR.ai) (aE:List Value) (w':World) (mT:Nat->bD) (eg:Nat->Prop),bm { q5 C hB F' ec an Y ib with nt:=aE.length } (c.bR.st bn) { tmps:=aE.toArray,defers:=[] } w' mT eg->
        ∃ κn,bm { C with w0:=LB } (w6 (s.cy bW) c f cc bn) a w' κn eg/\∀ i,bA C.P (w6 (s.cy bW) c f cc bn).ab κn eg w' (fo (eA (hT cc) c.bR.bT bn).1 i) (aE.toArray.getD i undef):=by
  simp only [Cn,Bool.and_eq_true,decide_eq_true_eq,Bool.not_eq_true'] at eb;obtain ⟨⟨⟨⟨⟨⟨⟨⟨⟨⟨bF,c2⟩,c3⟩,c4⟩,c5⟩,lE⟩,oe⟩,wK⟩,c9⟩,Gb⟩,_⟩:=eb;have c3:(c.ck.bE.map (·.1)).Nodup:=of_decide_eq_true c3;have c4:(c.ck.bE.map λp=>f p.1).Nodup:=of_decide_eq_true c4;have c5:(cc.map (·.1)).Nodup:=of_decide_eq_true c5;have lE:(cc.map (·.2.1)).Nodup:=of_decide_eq_true lE;have wK:mS ∉ cc.map (·.2.1):=λh=>by
    grind
  have c9:((s.cy bW).ab mS).body=.fw:=by
    grind
  obtain ⟨F',f1,gH,ay⟩:=dH.SH nO gH;have bd : bm C (s.cy bW) a w κ F' := { gH with
    dF:=U.dF,dfr:=U.dfr,ga:=U.ga,bT:=λi=>bA.later (Rt s bW κ) f1 (cZ.refl _ _) (U.bT i)
    bE:=gH.bE
    eK:=λl aN L n st e=>gH.eK l aN L n st (by simpa [aB.cy,qd] using e) }
  obtain ⟨Y,iA⟩:=bd.ae' (sl:=(c.ck.st D).az b5) λl aN L n st e=>by simpa [aB.cy,qd] using ay.aW l aN L n st e
  have hid:∀ b∈c.ck.bE.map (·.1),eP<=b:=λb aa=>by grind
  have Gc:∀ b,b∈c.ck.oq->∃ q∈c.ck.bE,q.1=b/\q.2.Ci=true:=λb aa=>by
    obtain ⟨q,br,e⟩:=List.mem_filterMap.1 aa;grind
  have CE:=afa (C:=C) (C1:={ C with nt:=ec,dfr:=[],r:=none }) (ids:=c.ck.bE.map (·.1)) rfl rfl rfl gH ay ⟨iA.eK,iA.low,iA.an,iA.F9⟩ (λb bf aa dh e=>by
    obtain ⟨q,br,rfl,_⟩:=Gc b aa;obtain ⟨q',tn,rfl,_⟩:=Gc bf dh;rw [Cz (k:=λp=>f p.1) c4 br tn e]) hid
  refine ⟨F',_,Y,_,f1,bd,λr ⟨b,aa,e⟩=>⟨f b,ay.xe aa,e⟩,iA,λl aN L n st e=>by simpa [aB.cy,qd] using ay.aW l aN L n st e,CE,λLB hB Kn Gd bn aE w' mT eg hG=>?_⟩;have CC:∀ (b:Nat) (q':Nat×b4),q'∈c.bR.bE->q'.1=b->b∈c.ck.oq->∀ (R:Type) (z:q'.2.cons R),((q'.2.body (hT cc) z).1.fC=true->((s.cy bW).ab (f b)).body.fC=true)/\((q'.2.body (hT cc) z).1.gQ=true->((s.cy bW).ab (f b)).body.gQ=true)/\(q'.2.body (hT cc) z).1.mD=false:=by
    intro b q' tn e aa R z;obtain ⟨q,br,rfl,LC⟩:=Gc b aa;have ao:=List.all_eq_true.1 (List.all_eq_true.1 Gb q' tn) q br;rw [e,LC] at ao;simp only [beq_self_eq_true,Bool.and_self,Bool.not_true,Bool.false_or] at ao;rcases F8 c7 c.ck.bE (eA c7 c.ck.bT D).2 q.1 with ⟨_,V⟩ | ⟨dP,V,ah,Lw,ma,a7⟩
    · grind
    · obtain rfl:=Cz c3 V br ah
      have a7:(c.ck.st D).ab dP.1=⟨0,(dP.2.body c7 ma).1⟩:=a7
      obtain ⟨aU,aX,bP⟩:=ae9 ao z ma (g:=hT cc) (g':=c7)
      have tH:=ay.zu dP.1
      refine ⟨λhc=>?_,λhc=>?_,bP⟩
      · have bM:=ay.b1 dP.1 (by grind)
        simp only [aB.cy,if_neg bM.1]
        exact tH.2.1 (by grind)
      · have bM:=ay.b1 dP.1 (by grind)
        simp only [aB.cy,if_neg bM.1]
        exact tH.2.2.2.1 (by grind)
  have aff:cc.map (·.1)=c.bR.bE.map (·.1):=by rw [<-S5];exact SX ..
  have gf:SZ (s.cy bW) κ (λb=>if b∈c.ck.bE.map (·.1) then some (κ (f b)).ab else none,λb=>if b∈c.ck.bE.map (·.1)/\wA<=b then some (κ (f b),((c.ck.st D).ab b).body.len) else none) (hg (hT cc) c.bR.bE (eA (hT cc) c.bR.bT bn).2) cc:=by
    refine ⟨c5,lE,wK,c9,λp ar=>?_⟩;rw [<-S5] at ar;rcases SY _ _ _ _ _ _ ar with ⟨G,V,t,ah,a7⟩ | ⟨_,V,ah,a7⟩
    · rw [V]
      have jL:p.1∈c.ck.bE.map (·.1):=by
        grind
      rcases F8 (hT cc) c.bR.bE (eA (hT cc) c.bR.bT bn).2 p.1 with ⟨_,aX⟩ | ⟨q',aU,aX,R,z,bP⟩
      · grind
      · rw [bP]
        obtain ⟨dB,eu,kj⟩:=CC p.1 q' aU aX G R z
        have:q'=(p.1,t):=Cz (aff ▸ c5) aU ah aX
        subst this
        refine .inr ⟨λh=>⟨dB h,if_pos jL⟩,λh=>⟨eu h,if_pos jL⟩,kj,a7.imp (λa7=>⟨a7.1,λe6=>?_⟩) id⟩
        rcases a7.2 with bM | ⟨ao,e,rfl⟩
        · grind
        · obtain ⟨q,br,Ls,LC⟩:=Gc p.1 G
          have xj:=List.all_eq_true.1 (List.all_eq_true.1 Gb _ aU) q br
          rw [Ls,LC] at xj
          simp only [beq_self_eq_true,Bool.and_self,Bool.not_true,Bool.false_or] at xj
          rcases F8 c7 c.ck.bE (eA c7 c.ck.bT D).2 p.1 with ⟨_,wM⟩ | ⟨dP,m2,m3,Lw,ma,m4⟩
          · grind
          · obtain rfl:=Cz c3 m2 br (m3.trans Ls.symm)
            have m4:(c.ck.st D).ab p.1=⟨0,(dP.2.body c7 ma).1⟩:=m4
            obtain ⟨dx,LD⟩:=dP
            have xj:b4.Fy (.bj e) LD=true:=xj
            obtain rfl:LD=.bj e:=by
              cases LD<;>first | (simp only [b4.Fy,decide_eq_true_eq] at xj;rw [xj]) | cases xj
            have tH:=ay.zu p.1
            have afg:((c.ck.st D).ab p.1).body.fc=true:=by rw [m4];rfl
            obtain ⟨cf,cF,ep⟩:=tH.2.2.1 afg
            have bl:((s.cy bW).ab (f p.1)).body.fc=true/\((s.cy bW).ab (f p.1)).body.len=(s.ab (f p.1)).body.len/\((s.cy bW).ab (f p.1)).body.eY=(s.ab (f p.1)).body.eY:=by
              simp only [aB.cy];split
              · rcases yX s.ab (s.ab (f p.1)) with a8 | ⟨_,_,aj,a8⟩ | ⟨_,_,_,aj,_⟩ | ⟨_,_,_,_,aj,_,_⟩
                · grind
                · rw [a8,aj];exact ⟨rfl,rfl,rfl⟩
                · have cf:(s.ab (f p.1)).body.fc=true:=cf
                  rw [aj] at cf;cases cf
                · have cf:(s.ab (f p.1)).body.fc=true:=cf
                  rw [aj] at cf;cases cf
              grind
            have cF:((c.ck.st D).ab p.1).body.len=(s.ab (f p.1)).body.len:=cF
            have ep:((c.ck.st D).ab p.1).body.eY=(s.ab (f p.1)).body.eY:=ep
            refine ⟨bl.1,?_,?_⟩
            · rw [bl.2.2,<-ep,m4];rfl
            grind
    · refine .inl ⟨?_,by omega⟩
      unfold eP
      omega
  obtain ⟨nP,fi⟩:=afc (ins:=c.ck.oq.map f) (X:=if c.bR.bT.any (λp=>p.1 == b5) then fo (eA (hT cc) c.bR.bT bn).1 b5 else if c.ck.bT.any (λp=>p.1 == b5) then .undef else (s.cy bW).az b5)
    (H':=(w6 (s.cy bW) c f cc bn).ab)
    (κn:=λb=>match cc.find? (λp=>p.2.1 == b) with
      | some p=>mT p.1
      | none=>κ b) Kn ⟨Gd.eK,Gd.low,Gd.an,Gd.F9⟩ (λr ⟨b,aa,e⟩=>⟨f b,List.mem_map_of_mem (ay.b1 b aa).2.2,ay.xe aa,e⟩) hG gf
    (λp ar=>by simp only [w6,F7 (k:=λp=>p.2.1) lE ar,and_self]) (λb aa=>by
      have aD:cc.find? (λp=>p.2.1 == b)=none:=List.find?_eq_none.2 λp ar e=>aa (List.mem_map.2 ⟨p,ar,by grind⟩);simp only [w6,aD,true_and];grind)
    (by
      split
      · simp
      · split
        · simp
        · rename_i V
          exact .inr (.inr ⟨rfl,xh c.ck.bT c7 D b5 (Bool.eq_false_iff.2 V)⟩))
  exact ⟨_,nP,fi⟩
theorem S6 (bh:∀ i,o.dst=some i->i<C.nt) {f0:Operand} {args:Array Operand} {dj:Array TypeId} (ag:o.op=.call { callee:=.value f0,args:=args,argTypes:=dj }) {c:cG} (aw:∀ D a w,cu C s a w->(c.sh D).cr->∃ k,cO C.P C.aP k c/\a.eval f0=.func (.func k) #[] #[]) {b':hS}
  (h:w7 C.aP s o args.toList c=some b'):qb C o s b':=by
 obtain ⟨args⟩:=args;unfold w7 at h;generalize awH:qZ c (r2 s (qY C.aP s args))=f at h;split at h
 ·rename_i D bW nO;split at h
  ·rename_i eb;cases h;have afh:qU (a_ C.aP s.az) o->jE (args.map (a_ C.aP s.az)):=λaa=>Cu aa λx aj=>by rw [ag];simp [Op.operands,Call.operands];simp_all
   refine ⟨λa w Q K U be LF=>?_,λgs ov=>(by grind),afh⟩;obtain ⟨k,aw,ao⟩:=aw D a w U LF.1;obtain ⟨κ,F,U⟩:=U;have hlen:args.length=c.ka/\args.length<=eP:=by
    simp only [Cn,Bool.and_eq_true,decide_eq_true_eq] at eb;omega
   have dY:=U.args (avs:=qY C.aP s args) (us:=args.map a.eval) (by grind) (by simp [qY]) λi M=>by
    have dt:i<args.length:=by grind
    have G:=rQ be i (by grind);have aF:(args.map (a_ C.aP s.az)).getD i .undef=a_ C.aP s.az args[i]:=by grind
    rw [aF] at G;have bB:(qY C.aP s args).getD i .undef=(use (a_ C.aP s.az args[i])).2:=by simp [qY,List.getD_eq_getElem?_getD,dt]
    have di:(args.map a.eval).getD i undef=a.eval args[i]:=by grind
    rw [bB,di];exact o4 (j5 U args[i]) G
   obtain ⟨F',an,Y,ib,_,bd,_,iA,_,CE,LG⟩:=S4 U dY rfl nO rfl eb;have c1:(execOp a.eval o).run C.P w=.ok (.enter k (args.map a.eval).toArray) w:=by
    simp only [execOp,ag,Sem.run_bind,resolve,ao,Deferred.ofValue,Sem.run_pure,Result.andThen_ok,invoke];have:=aw.enter (args.map a.eval).toArray w;grind
   have tJ:=aw.bC CE rfl rfl rfl rfl (by show (args.map a.eval).length=_;grind) rfl LF.1;refine B7 (by grind) c1 tJ λe w' ⟨v,bn,aE,mT,eg,he,fW,Ge,hG⟩=>⟨v,he,LF.2 bn fW _ _ ?_⟩
   obtain ⟨κn,nP,fi⟩:=LG C.w0 w bd iA bn aE w' mT eg hG;exact ⟨_,eg,bm.set nP bh (ae_ Ge λj=>by simpa [Array.getD_eq_getD_getElem?,List.getD_eq_getElem?_getD] using fi j)⟩
  grind
 grind
theorem afi (bh:∀ i,o.dst=some i->i<C.nt) {k:Nat} {args:Array Operand} {dj:Array TypeId} (ag:o.op=.call { callee:=.value (.func k),args:=args,argTypes:=dj }) {c:cG} (aw:cO C.P C.aP k c) {b':hS}
  (h:w7 C.aP s o args.toList c=some b'):qb C o s b':=
 S6 bh ag (λ_ _ _ _ _=>⟨k,aw,rfl⟩) h
theorem cO.yI {P:Program} {aR:dE} {k:FuncId} {c:cG} (h:cO P aR k c) {sh:c.ck.ai->A c.bR.ai} (aG:∀ D,A.le (c.sh D) (sh D)):cO P aR k { c with sh:=sh } where
 enter:=h.enter
 iO:=λC a w κ F D aF bB di gv h1 mC U qT=>by
  obtain ⟨aU,aX⟩:=aG D qT;exact (h.iO C a w κ F D aF bB di gv h1 mC U aU).mono λe w' ⟨v,bn,aE,κ',F',G,V,ah⟩=>⟨v,bn,aE,κ',F',G,aX bn V,ah⟩
theorem afj {Ψ:Nat->Option e1} (bh:∀ i,o.dst=some i->i<C.nt) {t:Nat} {args:Array Operand} {dj:Array TypeId} (ag:o.op=.call { callee:=.value (.tmp t),args:=args,argTypes:=dj })
  (cV:∀ c sh ids,Ψ Ss=some (.FH c sh ids)->∀ k∈ids,cO C.P C.aP k { c with sh:=sh k }) {b':hS} (h:FL C.aP Ψ s o t args.toList=some b'):qb C o s b':=by
 unfold FL at h;split at h
 ·rename_i n aD;split at h
  ·rename_i c sh ids hc;refine S6 bh ag (λD a w U aG=>?_) h;obtain ⟨⟨k,ao,rfl⟩,_⟩:=aG;refine ⟨k,(cV c sh ids hc k ao).yI (sh:=(St c sh ids (some k)).sh) λD h=>⟨h.2,λy aS=>aS⟩,?_⟩;obtain ⟨κ,F,U⟩:=U;have af:bA C.P s.ab κ F w (s.az t) (a.tmps.getD t undef):=U.bT t;rw [aD] at af;obtain ⟨_,af⟩:=(dV rfl).1 af;exact (List.cons.inj af).1
  ·cases h
 ·cases h
end
end Go.Fer
namespace Go.Fer
open Go.RowKit
section
variable {C:b8} {o:Oper} {s:aB}
theorem bm.round {s:aB} {a:Act} {w w':World} {κ:Nat->bD} {F' eg Y Gf:Nat->Prop} {l:Nat} {aN:ad} {L:List aN.ai->Prop} {I} {ef:List aN.ai} {LH:Bool} (U:bm C s a w κ F') (ow:C.b'=⟨l,aN,L,I⟩) (cH:C.b'.hy C.P)
    (aS:∀ r,Y r->r<w.heap.size/\¬F' r/\¬C.K0 r) (LI:∀ b,(s.ab b).body.b1 (κ b)=true->¬Y (κ b).ab)
    (g1:∀ r,F' r->eg r) (eo:∀ r,eg r->F' r\/Y r\/w.heap.size<=r) (g3:∀ r,eg r->r<w'.heap.size) (g4:∀ r,r<w.heap.size->¬Y r->w'.heap[r]?=w.heap[r]?)
    (g5:∀ r,Gf r->(Y r\/w.heap.size<=r)/\r<w'.heap.size/\¬eg r) (g6:w.heap.size<=w'.heap.size) (g7:da w w') (g8:I ef LH eg Gf w') :
    bm C ⟨λi=>if i=b5 then .aW l aN L ef LH else s.az i,s.ab⟩ a w' κ eg:=by
  have qc:cZ F' w w':=⟨g6,λr h=>g4 r (U.c_ r h) λB0=>(aS r B0).2.1 h⟩
  have k8:∀ r,w.heap.size<=r->¬C.K0 r:=λr h ao=>by have:=U.hq r ao;have:=U.size;omega
  refine { dF := U.dF, dfr := U.dfr, bT := λi => ?_, bE := λb => cB.k3 (U.bE b) (fm.refl _ _) g1 qc rfl rfl λag => g4 _ (U.an b ag).1 (LI b ag), an := λb aa => ?_, inj := U.inj, c_ := g3, ha := λr h => ?_,hN:=λr h=>g1 r (U.hN r h),hq:=U.hq,eD:=λr h=>?_,size:=Nat.le_trans U.size g6,en:=U.en.trans g7,ga:=U.ga,kk:=U.kk,jA:=U.jA,j1:=U.j1,kl:=U.kl,eK:=λdG kv e2 iT il e=>?_,jB:=U.jB,iv:=U.iv.mono g1 qc }
  · show bA C.P s.ab κ eg w' (if i=b5 then .aW l aN L ef LH else s.az i) _
    split
    · trivial
    · exact bA.later (fm.refl _ _) g1 qc (U.bT i)
  · have h:=U.an b aa
    grind
  · rcases eo r h with h | h | h
    · exact U.ha r h
    · exact .inr (aS r h).2.2
    · exact .inr (k8 r h)
  · exact (g4 r (Nat.lt_of_lt_of_le (U.hq r h) U.size) λk=>(aS r k).2.2 h).trans (U.eD r h)
  · simp only [if_true] at e
    cases e
    refine ⟨⟨I,ow⟩,cH,Gf,λr h=>⟨(g5 r h).2.1,(g5 r h).2.2,?_⟩,λb aa h=>?_,?_⟩
    · grind
    · rcases (g5 _ h).1 with h | h
      · grind
      · exact absurd (U.an b aa).1 (Nat.not_lt.2 h)
    · rw [ow];exact lB.yD.2 g8
theorem afk (bh:∀ i,o.dst=some i->i<C.nt) {t:Nat} {args:Array Operand} {dj:Array TypeId} (ag:o.op=.call { callee:=.value (.tmp t),args:=args,argTypes:=dj }) {b':hS}
  (h:FM C.aP s o t args.toList=some b'):qb C o s b':=by
 obtain ⟨args⟩:=args;unfold FM at h;split at h
 ·rename_i dG l aN L n st LJ tB;split at h
  ·rename_i x bW aj;cases h;refine ⟨λa w Q K U be hm=>?_,λgs ov=>(by grind),λaa=>Cu aa λx aj=>by rw [ag];simp [Op.operands,Call.operands];simp_all⟩;obtain ⟨κ,F,U⟩:=U;rw [A.kF] at hm;obtain ⟨⟨rfl,rfl,Gg⟩,hm⟩:=hm;obtain ⟨F',f1,bd,f2⟩:=bm.k6 (p6 _ aj) U;have dY:fl C.P aN F' w (args.map a.eval) x:=by
    refine uX U.bE f1 aN aj f2 (by simp) λi M dM=>?_;simp only [List.getElem_map];have dt:i<args.length:=by grind
    have G:=rQ be i (by grind);have aF:(args.map (a_ C.aP s.az)).getD i .undef=a_ C.aP s.az args[i]:=by grind
    rw [show (List.map (a_ C.aP s.az) (⟨args⟩:Array Operand).toList)=args.map (a_ C.aP s.az) from rfl,aF] at G;exact o4 (j5 U args[i]) G
   have af:a.eval (.tmp t)=.func (.yield dG) #[] #[]:=by
    have:=j5 U (.tmp t);have e:a_ C.aP s.az (.tmp t)=.g_ dG:=LJ;rw [e] at this;exact this
   obtain ⟨⟨I,ow⟩,cH,Y,aS,LI,eF⟩:=bd.eK dG aN L n false tB;have afl:lB.hy C.P ⟨dG,aN,L,I⟩:=ow ▸ cH;rw [ow] at eF;have eF:=lB.yD.1 eF;obtain ⟨fn,tmps,assign,body,G,V⟩:=afl.yield eF bd.c_ (λr h=>⟨(aS r h).1,(aS r h).2.1⟩) Gg dY;have c1:(execOp a.eval o).run C.P w=.ok (.round dG fn tmps assign body) w:=by
    simp only [execOp,ag,Sem.run_bind,resolve,af,Deferred.ofValue,Sem.run_pure,Result.andThen_ok,invoke];grind
   refine ⟨λ_ _=>trivial,?_⟩;rw [yS (by grind),c1,Oper.uponIn_round];refine ⟨λaG=>(by cases aG),?_⟩;have ah:RoundIn (dS C.r) 0 C.P dG fn tmps assign body w _:=V;refine ah.mono λe w' ⟨b,eg,Gf,he,g1,eo,g3,g4,g5,g6,g7,g8⟩=>?_;subst he;refine hm.2 b trivial _ _ ⟨κ,eg,bm.set ?_ bh (fa.2 rfl)⟩;exact bd.round ow cH aS LI g1 eo g3 g4 g5 g6 g7 g8
  grind
 grind
end
end Go.Fer
namespace Go.Fer
open Go.RowKit
section
variable {C:b8} {T:Nat->ad} {bg:Nat->Option aO} {s:aB} {res:ey}
theorem S7 {ms:Array MapEntry} {j:Nat} (aH:j<ms.size) (hu:∀ i (h:i<ms.size),ms[i].born=ms[j].born->i=j):ms.findIdx? (λe=>(e.born:Int) == (ms[j].born:Int))=some j:=by
 rw [Array.findIdx?_eq_some_iff_getElem];grind
theorem afm (ms:Array MapEntry) (e:MapEntry) (f:MapEntry->MapEntry):(ms.push e).modify ms.size f=ms.push (f e):=by
 grind
theorem afn (ms:Array MapEntry) (j:Nat) (f g:MapEntry->MapEntry):(ms.modify j f).modify j g=ms.modify j λe=>g (f e):=by
 grind
theorem zB {a:Act} {d:Nat} {v:Value} {x:Operand} (h:x≠.tmp d):(a.put (some d) v).eval x=a.eval x:=Act.eval_put λuK e=>by grind
theorem CF {a:Act} {d:Nat} {v:Value} (h:d<a.tmps.size):(a.put (some d) v).eval (.tmp d)=v:=by
 simp [Act.put,Act.eval,Array.getD_eq_getD_getElem?,h]
theorem afo (aV:dT C.P T) {hO gw kN kc:Oper} {d1 d2:Nat} {ty:TypeId} {m x y:Operand} (G:hO.op=.mapEntry ty m x) (t1:hO.dst=some d1) (V:gw.op=.extract (.tmp d1) 1) (t2:gw.dst=some d2)
  (ah:kN.op=.entryStore ty m (.tmp d2) y) (t3:kN.dst=none) (h9:kc.op=.mapUpdate ty m x y) (LK:kc.dst=none) (kd:m≠.tmp d1) (pj:m≠.tmp d2) (xk:y≠.tmp d1) (r':y≠.tmp d2) (p8:d1<C.nt) (hU:d2<C.nt)
  (h:(bt C.aP T bg (a_ C.aP s.az) kc).run s.ab=some res) {a:Act} {w:World} {κ:Nat->bD} {F:Nat->Prop} {Q:Exit->Act->World->Prop} {K:Act->World->Prop} (U:bm C s a w κ F) (be:res.b9) (hc:res.c)
  (iF:∀ a' w',cu C (((s.h5 none res).set (some d1) .undef).set (some d2) .undef) a' w'->K a' w') :
  hO.wpIn (dS C.r) 0 C.P a w (λca cj=>gw.wpIn (dS C.r) 0 C.P ca cj (λa2 c6=>kN.wpIn (dS C.r) 0 C.P a2 c6 K Q) Q) Q:=by
 have kL:=Kl aV LK (.inl h9) h a w κ F Q U be hc;rw [LK] at kL;have aF:∀ c,hO.op≠.defer c:=by grind
 have bB:∀ c,gw.op≠.defer c:=by grind
 have di:∀ c,kN.op≠.defer c:=by grind
 have afp:∀ c,kc.op≠.defer c:=by grind
 simp only [bt,h9,qK] at h;split at h
 ·rename_i k v aL;obtain ⟨k9,y8,M,mL,hf⟩:=(aV.b_ aL (by simp)).mp;obtain ⟨inf,mf,i1,i2,i3,i4,i5,i6⟩:=ko hf.kn;split at h
  ·rename_i xl;split at h
   ·rename_i b g tv;simp only [aq.e0,Option.bind_eq_some_iff,aq.run_bind,aq.eZ,aq.bN] at h;obtain ⟨⟨dJ,ob⟩,aj,⟨mM,oc⟩,aS,h⟩:=h;split at h
    ·rename_i aC;obtain ⟨aC,p4⟩:=aC;have p4:b ∉ ob++oc:=by
      grind
     split at h
     ·rename_i k' h2 es aa;simp only [Option.map_eq_some_iff] at h;obtain ⟨RU,o7,rfl⟩:=h;obtain ⟨e,rfl⟩:=kH o7;cases e;obtain ⟨F',f1,bd,f2⟩:=bm.k6 ((mI aj).append (mI aS)) U;have hm:bA C.P s.ab κ F w (use (a_ C.aP s.az m)).2 (a.eval m):=cK U m rfl be.1;rw [tv] at hm;have kM:=hm.2 aC.symm (by rw [aa];rfl);have tw:=l9 U.bE f1 aj f2.left (cK U x rfl be.2.1);have o_:(s.cy (ob++oc)).ab b=s.ab b:=by simp only [aB.cy];grind
      have aT:=bd.bE b;unfold cB at aT;rw [o_,aa] at aT;obtain ⟨ms,clk,hw,tx⟩:=aT;have fg:k.kJ=true/\k.j4<=100:=by simpa [ti] using xl
      have eb:=(B8 (em:=false) k 10000 fg.1 (by omega)).1 mL tw;have ks:=tx.es;obtain ⟨f,dx,dP⟩:=wQ (β:=v.ai) (xs:=es) (es:=ms.toList) xl mL tw ks.1 (λj e p G V=>(ks.2 j e p G V).1);have eT:(getObj (κ b).ab).run C.P w=.ok (.map ms clk) w:=by simp [getObj,Sem.run,hw]
      obtain ⟨hq,Km,Fj,RV⟩:=tx;have tK:d1<a.tmps.size:=by have:=U.dF;omega
      have ch:(κ b).ab<w.heap.size:=(Array.getElem?_eq_some_iff.1 hw).1;have chain:∀ (cj c6:World) (u:Value) (n:Int),(execOp a.eval hO).run C.P w=.ok (.value (.tuple #[u,goInt n])) cj->(Instr.entryStore ty (.map (some (κ b).ab)) (goInt n) (a.eval y)).run C.P cj=.ok () c6->
        (execOp a.eval kc).run C.P w=.ok .skip c6->
        hO.wpIn (dS C.r) 0 C.P a w (λca cj=>gw.wpIn (dS C.r) 0 C.P ca cj (λa2 c6=>kN.wpIn (dS C.r) 0 C.P a2 c6 K Q) Q) Q:=by
       intro cj c6 u n cf cF afq;have j9:=kL.2;rw [yS afp,afq,Oper.uponIn_skip,LK] at j9;refine hr aF cf ?_;rw [t1];have afr:(a.put (some d1) (.tuple #[u,goInt n])).eval (.tmp d1)=.tuple #[u,goInt n]:=CF tK;refine hr (v:=goInt n) (w':=cj) bB (by simp [execOp,V,afr,Instr.extract]) ?_;rw [t2];have afs:d2<(a.put (some d1) (.tuple #[u,goInt n])).tmps.size:=by have:=U.dF;simp [Act.put];omega
       have aft:((a.put (some d1) (.tuple #[u,goInt n])).put (some d2) (goInt n)).eval (.tmp d2)=goInt n:=CF afs;have LL:((a.put (some d1) (.tuple #[u,goInt n])).put (some d2) (goInt n)).eval m=.map (some (κ b).ab):=by rw [zB pj,zB kd,kM]
       have afu:((a.put (some d1) (.tuple #[u,goInt n])).put (some d2) (goInt n)).eval y=a.eval y:=by rw [zB r',zB xk]
       refine E6 di (w':=c6) (by simp only [execOp,ah,aft,LL,afu,Sem.run_bind,cF,Result.andThen_ok,Sem.run_pure]) ?_;rw [t3];refine iF _ _ ?_;obtain ⟨κ',F',j9⟩:=j9;exact ⟨κ',F',bm.set (bm.set (d:=some d1) (av:=.undef) j9 (λi e=>by grind) trivial) (λi e=>by grind) trivial⟩
      rcases dP with ⟨rfl,ez⟩ | ⟨j,e,p,g1,eo,g3,g4,rfl⟩
      ·refine chain { w with heap:=w.heap.setIfInBounds (κ b).ab (.map (ms.push { key:=a.eval x,val:=mf,born:=clk }) (clk+1)) } { w with heap:=w.heap.setIfInBounds (κ b).ab (.map (ms.push { key:=a.eval x,val:=a.eval y,born:=clk }) (clk+1)) } mf clk ?_ ?_ ?_
       ·simp only [execOp,G,kM,Instr.mapEntry,Sem.run_bind,dC M,Result.andThen_ok,eT,eb,dx,qL i1 i4,rZ hw,Sem.run_pure]
       ·have LM:(getObj (κ b).ab).run C.P { w with heap:=w.heap.setIfInBounds (κ b).ab (.map (ms.push { key:=a.eval x,val:=mf,born:=clk }) (clk+1)) }=.ok (.map (ms.push { key:=a.eval x,val:=mf,born:=clk }) (clk+1)) { w with heap:=w.heap.setIfInBounds (κ b).ab (.map (ms.push { key:=a.eval x,val:=mf,born:=clk }) (clk+1)) }:=by simp [getObj,Sem.run,ch]
        have LN:(ms.push { key:=a.eval x,val:=mf,born:=clk }).findIdx? (λe=>(e.born:Int) == (clk:Int))=some ms.size:=by
         have:=S7 (ms:=ms.push { key:=a.eval x,val:=mf,born:=clk }) (j:=ms.size) (by simp) λi M he=>by
          grind
         grind
        simp only [Instr.entryStore,Sem.run_bind,LM,Result.andThen_ok,goInt,asInt,asIntOf,Sem.run_pure,LN];rw [rZ (es:=ms.push { key:=a.eval x,val:=mf,born:=clk }) (clk:=clk+1) (by grind),afm];simp
       ·simp only [execOp,h9,kM,Instr.mapUpdate,Sem.run_bind,dC M,Result.andThen_ok,eT,eb,dx,rZ hw,Sem.run_pure]
      ·have aH:j<es.length:=(List.getElem?_eq_some_iff.1 eo).1;have wR:j<ms.size:=by omega
       have Ko:ms[j]=e:=by
        grind
       obtain ⟨jj,cj,cf,cF,ep⟩:=Kk C.P w e.key (a.eval x);have lL:cj.heap[(κ b).ab]?=some (.map ms clk):=by rcases ep with rfl | rfl<;>exact hw
       have S8:(κ b).ab<cj.heap.size:=(Array.getElem?_eq_some_iff.1 lL).1;have mK:((ms[j]?).map (·.key)).getD (a.eval x)=e.key:=by
        grind
       have LO:((ms[j]?).map (λx=>(x.born:Int))).getD 0=(ms[j].born:Int):=by grind
       rw [Nat.zero_add] at dx;refine chain { cj with heap:=cj.heap.setIfInBounds (κ b).ab (.map (ms.modify j λe=>{ e with key:=jj }) clk) } { cj with heap:=cj.heap.setIfInBounds (κ b).ab (.map (ms.modify j λe=>{ e with key:=jj,val:=a.eval y }) clk) } e.val ms[j].born ?_ ?_ ?_
       ·simp only [execOp,G,kM,Instr.mapEntry,Sem.run_bind,dC M,Result.andThen_ok,eT,eb,dx];rw [mK,cf];simp only [Result.andThen_ok,rZ lL,Sem.run_pure,LO]
       ·have LM:(getObj (κ b).ab).run C.P { cj with heap:=cj.heap.setIfInBounds (κ b).ab (.map (ms.modify j λe=>{ e with key:=jj }) clk) }=.ok (.map (ms.modify j λe=>{ e with key:=jj }) clk) { cj with heap:=cj.heap.setIfInBounds (κ b).ab (.map (ms.modify j λe=>{ e with key:=jj }) clk) }:=by simp [getObj,Sem.run,S8]
        have mg:∀ i (h:i<(ms.modify j λe=>{ e with key:=jj }).size),((ms.modify j λe=>{ e with key:=jj })[i]).born=(ms[i]'(by grind)).born:=by
         grind
        have LN:(ms.modify j λe=>{ e with key:=jj }).findIdx? (λe=>(e.born:Int) == (ms[j].born:Int))=some j:=by
         have:=S7 (ms:=ms.modify j λe=>{ e with key:=jj }) (j:=j) (by grind) λi M he=>by
          grind
         grind
        simp only [Instr.entryStore,Sem.run_bind,LM,Result.andThen_ok,goInt,asInt,asIntOf,Sem.run_pure,LN];rw [rZ (es:=ms.modify j λe=>{ e with key:=jj }) (clk:=clk) (by grind),afn];simp
       ·simp only [execOp,h9,kM,Instr.mapUpdate,Sem.run_bind,dC M,Result.andThen_ok,eT,eb,dx];rw [mK,cf];simp only [Result.andThen_ok,rZ lL,Sem.run_pure]
     grind
    grind
   ·cases h
  ·cases h
 ·cases h
end
end Go.Fer
namespace Go.Fer
open Go.RowKit
structure CG (P:Program) (k:FuncId) (c:zl):Prop where
 enter:∀ args w,(callFunc k args).run P w=.ok (.enter k args) w
 iO:∀ (l:Nat) (I:List c.aN.ai->Bool->(Nat->Prop)->(Nat->Prop)->World->Prop) (F Y:Nat->Prop) (w:World) (args:List Value) (x:c.ts.ai),fl P c.ts F w args x->c.pre x->lB.hy P ⟨l,c.aN,λT=>T=c.seq x,I⟩->
  (∀ r,F r->r<w.heap.size)->nA P F w->(∀ r,Y r->r<w.heap.size/\¬F r)->I [] false F Y w->Calls P k (args++[Value.func (.yield l) #[] #[]]).toArray w λe w'=>
   ∃ v pre st F' gr,e=.returned v/\(st=false->pre=c.seq x)/\I pre st F' gr w'/\(∀ r,F r->F' r)/\(∀ r,F' r->F r\/Y r\/w.heap.size<=r)/\(∀ r,F' r->r<w'.heap.size)/\
    (∀ r,r<w.heap.size->¬Y r->w'.heap[r]?=w.heap[r]?)/\(∀ r,gr r->(Y r\/w.heap.size<=r)/\r<w'.heap.size/\¬F' r)/\w.heap.size<=w'.heap.size/\da w w'
def e1.hy (P:Program) (aR:dE) (k:FuncId):e1->Prop
 | .du c=>h0 P k c.ts c.aW c.sh/\(c.dR=true->∀ x,(c.sh x).Cj)
 | .e7 c=>cO P aR k c
 | .cq c=>CG P k c
 | .K4 c=>h0 P k c.ts c.aW c.sh/\QT P k c.ts c.aW c.sh
 | .FH c sh ids=>∀ k∈ids,cO P aR k { c with sh:=sh k }
 | .ky c=>nD c.aW=true/\B5 P k c
def lQ (P:Program) (aR:dE) (Ψ:Nat->Option e1):Prop:=∀ k c,Ψ k=some c->c.hy P aR k
section
variable {C:b8} {T:Nat->ad} {bg:Nat->Option aO} {Ψ:Nat->Option e1} {s:aB} {o:Oper} {Q:Exit->Act->World->Prop} {ops:Array Oper}
theorem afv (cz:jh C.P bg) (cV:lQ C.P C.aP Ψ) {k:Nat} {c:hE} (h:K5 bg Ψ k=some c):h0 C.P k c.ts c.aW c.sh:=by
 unfold K5 at h;split at h
 ·rename_i c' jH;cases h;have:e1.hy C.P C.aP k (.du c):=cV k _ jH;exact this.1
 ·cases h
 ·obtain ⟨f,aw,h⟩:=Option.bind_eq_some_iff.1 h;split at h
  ·cases h
  ·rename_i he;cases h;exact (cz k f aw).1 (by simpa using he)
theorem afw {P:Program} {w:World} {ty j:TypeId} (aH:P.underlying ty=some (.slice j)) (q:Option Addr) (n cap d:Nat):(Op.equalIn (d+1) ty (.slice q n cap) (.slice none 0 0)).run P w=.ok q.isNone w:=by
 cases q<;>simp [Op.equalIn,dC aH]
theorem afx {P:Program} {w:World} (op:BinOp) (t:TypeId) (x y:Operand) (q q':Option Addr) (n iT cap cap':Nat):(eqGuard op t x y (.slice q n cap) (.slice q' iT cap')).run P w=.ok () w:=by
 cases op<;>simp [eqGuard]
theorem S9 {P:Program} {w:World} {ty j:TypeId} {x y:Operand} (aH:P.underlying ty=some (.slice j)) (q:Option Addr) (n cap:Nat) :
  (do eqGuard .eql ty x y (.slice q n cap) (.slice none 0 0);binOp .eql ty (.slice q n cap) (.slice none 0 0):Sem Value).run P w=.ok (.bool q.isNone) w/\(do eqGuard .neq ty x y (.slice q n cap) (.slice none 0 0);binOp .neq ty (.slice q n cap) (.slice none 0 0):Sem Value).run P w=.ok (.bool (!q.isNone)) w:=by
 have h:(Op.equalIn 10000 ty (.slice q n cap) (.slice none 0 0)).run P w=.ok q.isNone w:=afw (w:=w) aH q n cap 9999;constructor<;>simp [afx,binOp,Op.equal,Op.maxDepth,h]
theorem afy (aV:dT C.P T) (bh:∀ i,o.dst=some i->i<C.nt) {op:BinOp} {ty mG:TypeId} {x y:Operand} (ag:o.op=.binOp op ty x y mG) {b':hS} (h:Cp C.aP T s o op ty x y=some b'):qb C o s b':=by
 have yV:∀ c,o.op≠.defer c:=by grind
 unfold Cp at h;split at h
 ·rename_i e aL afz;have dk:=aV.b_ aL (by simp);obtain ⟨j,aH,_⟩:=dk.sl;split at h
  ·rename_i xs l hQ;have key:∀ (a:Act) (w:World) (κ:Nat->bD) (F:Nat->Prop),bm C s a w κ F->(use (a_ C.aP s.az x)).1->∃ b:Bool,(b=true->xs=[])/\(op=.eql->(execOp a.eval o).run C.P w=.ok (.value (.bool b)) w)/\(op=.neq->(execOp a.eval o).run C.P w=.ok (.value (.bool (!b))) w):=by
    intro a w κ F U be;have aj:=BM U hQ (cK U x rfl be);obtain ⟨_,q,cap,aF,m1,m2,m3,_⟩:=(dV rfl).1 aj;have aF:=(List.cons.inj aF).1;have aS:a.eval y=.slice none 0 0:=by
     have:=j5 U y;rw [afz] at this;exact this
    refine ⟨q.isNone,λbr=>?_,λkL=>?_,λkL=>?_⟩
    ·simp_all
    ·subst kL;have U:=(S9 (w:=w) (x:=x) (y:=y) aH q xs.length cap).1;rw [<-aF,<-aS] at U;simp only [execOp,ag,Sem.run_bind] at U ⊢;simp_all
    ·subst kL;have U:=(S9 (w:=w) (x:=x) (y:=y) aH q xs.length cap).2;rw [<-aF,<-aS] at U;simp only [execOp,ag,Sem.run_bind] at U ⊢;simp_all
   split at h
   ·cases h;refine ⟨λa w Q K U be hm=>?_,λgs ov=>(by grind),λaa=>aa x (by rw [ag];simp [Op.operands])⟩;obtain ⟨κ,F,U⟩:=U;obtain ⟨b,dB,eu,_⟩:=key a w κ F U be;exact hr yV (eu rfl) (hm.2 b dB _ _ ⟨κ,F,bm.set U bh (fa.2 rfl)⟩)
   ·cases h;refine ⟨λa w Q K U be hm=>?_,λgs ov=>(by grind),λaa=>aa x (by rw [ag];simp [Op.operands])⟩;obtain ⟨κ,F,U⟩:=U;obtain ⟨b,dB,_,eu⟩:=key a w κ F U be;exact hr yV (eu rfl) (hm.2 b dB _ _ ⟨κ,F,bm.set U bh (fa.2 rfl)⟩)
   grind
  grind
 grind
theorem LP (aV:dT C.P T) (cz:jh C.P bg) (cV:lQ C.P C.aP Ψ) (bh:∀ i,o.dst=some i->i<C.nt) {b':hS} (h:q0 C.aP T bg Ψ s o=some b'):qb C o s b':=by
 unfold q0 at h;split at h
 ·rename_i c ag;obtain ⟨callee,args,dj⟩:=c;split at h
  ·rename_i f aw;simp only at aw;subst aw;split at h
   ·split at h
    ·rename_i c' jH;exact afi bh ag (cV _ _ jH) h
    ·rename_i c' jH;have ah:e1.hy C.P C.aP _ (.K4 c'):=cV _ _ jH;exact aeW bh ag ah.1 ah.2 h
    ·split at h
     ·rename_i du LQ;exact aeV bh ag (afv cz cV LQ) h
     grind
   ·split at h
    ·rename_i r U;cases h;exact aeX bh ag U
    ·split at h
     ·rename_i r U;cases h;exact afj bh ag (λc sh ids hc=>cV _ _ hc) U
     ·exact afk bh ag h
   grind
  grind
 ·rename_i ty x ag;exact aeY aV bh ag h
 ·rename_i x str ag;exact ae2 bh ag h
 ·rename_i x ag;exact aeZ bh ag h
 ·rename_i op ty x y mG ag;exact afy aV bh ag h
 grind
theorem S_ (want b:Bool):((some b == some want:Bool))=Fu want b:=by cases want<;>cases b<;>rfl
theorem S' {a:Act} {j d:Nat} {q7:Oper} (G:ops[j]?=some q7) (V:q7.dst=some d) {b:Bool} (h:a.tmps.getD d Go.undef=.bool b):yielded ops a.tmps j=some b:=by
 have:a.tmps[d]?=some (.bool b):=by
  rw [Array.getD_eq_getD_getElem?] at h;cases he:a.tmps[d]? with
  | none=>rw [he] at h;cases h
  | some v=>grind
 simp [yielded,G,V,this]
theorem afA {a:Act} {j d:Nat} {q7:Oper} (G:ops[j]?=some q7) (V:q7.dst=some d) (h:a.tmps.getD d Go.undef=Go.undef):yielded ops a.tmps j=none:=by
 unfold yielded;rw [G];simp only [Option.bind_some,V];rw [Array.getD_eq_getD_getElem?] at h;cases he:a.tmps[d]? with
 | none=>rfl
 | some v=>rw [he] at h;cases h;rfl
theorem LR {a:Act} {w:World} {κ:Nat->bD} {F:Nat->Prop} (U:bm C s a w κ F) {g:Option Bool} (h:kt s.az ops o.guard=some g) :
  Region.wanted o (yielded ops a.tmps)=g.getD true:=by
 unfold Region.wanted;cases aC:o.guard with
 | none=>rw [aC] at h;cases h;rfl
 | some p=>
  obtain ⟨j,want⟩:=p;rw [aC] at h;simp only [kt] at h ⊢;split at h
  ·rename_i q7 aH;split at h
   ·rename_i d ay;have aG:=U.bT d;split at h
    ·rename_i b aa;cases h;rw [aa] at aG;rw [S' aH ay (fa.1 aG),S_];rfl
    ·rename_i g' b aa;cases h;rw [aa] at aG;obtain ⟨G,V⟩:=aG;cases g' with
     | true=>
      rw [S' aH ay (fa.1 (G rfl)),S_];simp
     | false=>
      rw [afA aH ay (V rfl)];rfl
    grind
   grind
  grind
theorem afB {b9 c:Prop} {e4 r6:aI} {hB w_:List (Nat×bL)} (aC:Cq o e4 hB=some (w_,r6)) (h:(bt C.aP T bg (a_ C.aP s.az) o).run s.ab=some ⟨b9,c,e4,hB⟩) :
    (∀ a w,cu C (s.h5 o.dst ⟨b9,c,e4,hB⟩) a w->cu C ((s.fU w_).set o.dst r6) a w)/\(∀ a w κ F,bm C s a w κ F->∃ κ' F',bm C (s.fU w_) a w κ' F'):=by
  unfold Cq at aC;split at aC
  · cases aC
    exact ⟨λa w h=>h,λa w κ F h=>⟨κ,F,h⟩⟩
  · rename_i p dG
    split at aC
    · rename_i LS first cW ag
      cases aC
      refine ⟨λa w h=>h,λa w κ F U=>?_⟩
      simp only [bt,ag] at h
      split at h
      · split at h
        · split at h
          · simp only [aq.e0,Option.bind_eq_some_iff,aq.run_bind,aq.bN,Option.some.injEq] at h
            obtain ⟨⟨y,l⟩,aS,he⟩:=h
            obtain ⟨F',_,bd,_⟩:=bm.k6 (p6 _ aS) U
            have he:(jD l).run s.ab=p::dG:=by grind
            rw [<-he,tk]
            grind
          · split at h
            · simp only [aq.e0,Option.bind_eq_some_iff,aq.run_bind,aq.bN,Option.some.injEq] at h
              obtain ⟨⟨y,l⟩,aS,he⟩:=h
              obtain ⟨F',_,bd,_⟩:=bm.k6 (p6 _ aS) U
              have he:(jD l).run s.ab=p::dG:=by grind
              rw [<-he,tk]
              grind
            · simp only [bO,aq.bN,Option.some.injEq] at h
              cases h
        · split at h
          · simp only [bO,aq.bN,Option.some.injEq] at h
            cases h
          · cases h
      · cases h
    · rename_i ty n ps ag
      split at aC
      · rename_i bf g' e xs bS
        split at aC
        · rename_i afC
          obtain ⟨⟨rfl,rfl⟩,_⟩:=afC
          cases aC
          obtain ⟨b,⟨afD,iE⟩⟩:=p
          simp only at bS
          subst bS
          have k8:o.dst=some b/\afD=(s.ab b).gen+1:=by
            simp only [bt,ag] at h;split at h
            · simp only [aq.e0,Option.bind_eq_some_iff,aq.run_bind] at h
              obtain ⟨⟨ys,bW⟩,_,h⟩:=h
              obtain ⟨b0,zb,ao⟩:=qN h
              grind
            · cases h
          obtain ⟨bh,rfl⟩:=k8
          refine ⟨λa w j9=>?_,λa w κ F U=>?_⟩
          · obtain ⟨κ,F,U⟩:=j9
            rw [bh] at U ⊢
            simp only [aB.h5,aB.fU] at U
            have aj:(dA (.slice e) (.an b ((s.ab b).gen+1))).run ((s.cw b ⟨(s.ab b).gen+1,.bj e xs⟩).set (some b) (.an b ((s.ab b).gen+1))).ab=some (xs,[b]):=by
              simp [dA,km,dX,aB.set,aB.cw,eR,ad.eC]
            obtain ⟨zC,f1,gH,f2⟩:=bm.k6 (mI aj) U
            have aG:=U.bT b
            have af:=l9 (v:=a.tmps.getD b undef) U.bE f1 aj f2 (by simpa [aB.set] using aG)
            have fi:∀ i,i≠b->((s.cw b ⟨(s.ab b).gen+1,.bj e xs⟩).set (some b) (.an b ((s.ab b).gen+1))).az i=s.az i:=λi M=>by simp [aB.set,aB.cw,M]
            have cI:bm C ⟨λi=>if i=b then .val (.slice e) xs else s.az i,(((s.cw b ⟨(s.ab b).gen+1,.bj e xs⟩).set (some b) (.an b ((s.ab b).gen+1))).cy [b]).ab⟩ a w κ zC:=
              { gH with
                dF:=gH.dF,dfr:=gH.dfr,bE:=gH.bE
                bT:=λi=>by
                  show bA _ _ _ _ _ (if i=b then .val (.slice e) xs else s.az i) _;split
                  · rename_i M
                    subst M
                    exact af
                  · rename_i M
                    rw [<-fi i M]
                    exact gH.bT i
                eK:=λl aN L n st a8=>by
                  have a8:(if b5=b then aI.val (.slice e) xs else s.az b5)=.aW l aN L n st:=a8;split at a8
                  · cases a8
                  · rename_i M
                    exact gH.eK l aN L n st ((fi b5 M).trans a8) }
            refine ⟨κ,zC,cI.yI ⟨λi=>.inl ?_,λi=>?_⟩⟩
            · rfl
            · by_cases M:i=b
              · subst M
                right
                simp [aB.set,aB.fU,aB.cw,aB.cy,ff]
              · left
                simp [aB.set,aB.fU,aB.cw,aB.cy,M]
          · have aD:=Lp U (b:=b) (e:=e)
            refine ⟨_,F,aD.yI ⟨λi=>.inl rfl,λi=>?_⟩⟩
            by_cases M:i=b
            · subst M
              right
              simp [aB.fU,aB.cw]
            · left
              simp [aB.fU,aB.cw,M]
        grind
      grind
    grind
theorem sa {β:Type} {b:Bool} {p:Prop} {m:A β} {O:β->Prop} (aa:b=true->p):A.cv (r4 b p m) O<->p/\A.cv m O:=by
 cases b with
 | true=>exact ⟨λh=>⟨aa rfl,h⟩,λh=>h.2⟩
 | false=>exact A.kF
def qe (ops:Array Oper) (s:aB) (tg:pf):Prop:=∀ p∈tg,∃ b a,s.az p.1=.hz b a/\kt s.az ops (some p.2)=some (some b)
theorem afE {j d:Nat}:r5 ops j d=true<->d∈Fv ops (some (j,true)):=by
 have key:∀ (x:Option Oper),(match x with | some o=>(match o.dst with | some e=>e == d | none=>false) | none=>false)=true<->d∈(match x with | some o=>o.dst.toList | none=>[]):=by
  grind
 exact key _
theorem qe.hh {s':aB} {tg:pf} (h:qe ops s tg) (aG:∀ i,o.dst≠some i->s'.az i=s.az i)
  (ay:∀ d k,o.dst=some d->o.guard=some k->∃ b a,s'.az d=.hz b a/\kt s.az ops (some k)=some (some b)):qe ops s' (w8 ops tg o):=by
 unfold w8;cases bh:o.dst with
 | none=>
  intro p ar;obtain ⟨b,a,G,V⟩:=h p ar;refine ⟨b,a,(aG _ (by grind)).trans G,?_⟩;rw [<-V];exact KH λt _=>aG t (by grind)
 | some d=>
  have congr:∀ k:Nat×Bool,r5 ops k.1 d=false->kt s'.az ops (some k)=kt s.az ops (some k):=λk ao=>KH λt aL=>aG t (by
   rw [bh];intro e;cases e;have:r5 ops k.1 d=true:=afE.2 aL;grind)
  have uW:qe ops s' (tg.filter λp=>p.1 != d&&!r5 ops p.2.1 d):=by
   intro p ar;simp only [List.mem_filter,Bool.and_eq_true,bne_iff_ne,ne_eq,Bool.not_eq_true'] at ar;obtain ⟨b,a,G,V⟩:=h p ar.1;grind
  simp only;split
  ·rename_i k ao;split
   ·omega
   ·rename_i Ta;intro p ar;rcases List.mem_cons.1 ar with rfl | ar
    ·grind
    ·exact uW p ar
  omega
section
variable {aR:dE} {tg:pf} {gk:Option (Nat×Bool)}
theorem CH (aV:qe ops s tg) (aC:∀ k,gk=some k->kt s.az ops (some k)=some (some true)) {x:Operand} (h:w9 (a_ aR s.az) tg gk x=true):(use (a_ aR s.az x)).1:=by
 unfold w9 at h;rw [Bool.or_eq_true] at h;rcases h with h | h
 ·exact Fs (by grind)
 ·split at h
  ·rename_i t k;obtain ⟨p,ar,u0⟩:=List.any_eq_true.1 h;simp only [Bool.and_eq_true,beq_iff_eq] at u0;obtain ⟨rfl,G,V⟩:=u0;have u0:p.2=k:=Prod.ext G V;obtain ⟨b,a,aU,aX⟩:=aV p ar;rw [u0,aC k rfl] at aX;cases aX;have e:a_ aR s.az (.tmp p.1)=s.az p.1:=rfl;rw [e,aU];rfl
  grind
theorem Tb (aV:qe ops s tg) (aC:∀ k,gk=some k->kt s.az ops (some k)=some (some true)) (h:K8 (a_ aR s.az) tg gk o=true):qU (a_ aR s.az) o:=
 λx aj=>CH aV aC (List.all_eq_true.1 h x aj)
theorem Tc (aV:qe ops s tg) {c x:Operand} {want:Bool} {p1:Prop} {iU:Bool} (hc:use (a_ aR s.az c)=(p1,.val .bool iU)) (CJ:p1) (h:FR ops tg c x want=true) (hw:Fu want iU=true):(use (a_ aR s.az x)).1:=by
 unfold FR at h;split at h
 ·rename_i c t;obtain ⟨p,ar,u0⟩:=List.any_eq_true.1 h;simp only [Bool.and_eq_true,beq_iff_eq] at u0;obtain ⟨rfl,G,rfl⟩:=u0;obtain ⟨b,a,aU,aX⟩:=aV p ar;have e:a_ aR s.az (.tmp p.1)=s.az p.1:=rfl;rw [e,aU];show b=true;unfold r5 at G;have xm:p.2=(p.2.1,p.2.2):=rfl;rw [xm] at aX;unfold kt at aX;have jH:use (s.az c)=(p1,.val .bool iU):=hc;split at G
  ·rename_i q7 aH;split at G
   ·rename_i d ay;have afF:d=c:=by grind
    subst afF;simp only [aH,ay] at aX;split at aX
    ·rename_i b0 zb;rw [zb] at jH;simp only [use,Prod.mk.injEq,aI.val.injEq,heq_eq_eq,true_and] at jH;grind
    ·rename_i g0 b0 zb;rw [zb] at jH;simp only [use,Prod.mk.injEq,aI.val.injEq,heq_eq_eq,true_and] at jH;grind
    grind
   grind
  grind
 grind
theorem Gh (aV:qe ops s tg) (aC:∀ k,gk=some k->kt s.az ops (some k)=some (some true)) (h:zm (a_ aR s.az) ops tg gk o=true):(bt aR T bg (a_ aR s.az) o).cS (la λr=>r.b9):=by
 cases ag:o.op with
 | pick c a b=>
  simp only [zm,ag,Bool.and_eq_true,Bool.or_eq_true] at h;obtain ⟨G,V,ah⟩:=h;unfold bt;rw [ag];simp only;split
  ·rename_i p1 iU lN;have CJ:p1:=by have:=CH aV aC G;grind
   split
   ·split
    ·rename_i yP av ba;refine .bO ⟨CJ,λaf=>?_⟩;have:(use (a_ aR s.az a)).1:=by
      rcases V with V | V
      ·exact CH aV aC V
      ·exact Tc aV lN CJ V af
     grind
    ·exact .bY
   ·split
    ·rename_i yP av ba;refine .bO ⟨CJ,λaf=>?_⟩;have:(use (a_ aR s.az b)).1:=by
      rcases ah with ah | ah
      ·exact CH aV aC ah
      ·exact Tc aV lN CJ ah (by subst af;rfl)
     grind
    ·exact .bY
   ·exact .bY
  ·exact .bY
 | _=>
  simp only [zm,ag] at h;exact R_ (Tb aV aC h)
theorem afG (aV:qe ops s tg) (aC:∀ k,gk=some k->kt s.az ops (some k)=some (some true)) {b9 c:Prop} {e4 r6:aI} {hB w_:List (Nat×bL)} (hw:Cq o e4 hB=some (w_,r6)) (U:(bt aR T bg (a_ aR s.az) o).run s.ab=some ⟨b9,c,e4,hB⟩)
  (h:K9 (a_ aR s.az) tg gk o r6=true):(use r6).1:=by
 unfold K9 at h;rw [Bool.or_eq_true] at h;rcases h with h | h
 ·exact Fs (by grind)
 ·split at h
  ·rename_i x ag;simp only [bt,ag,bO,aq.bN,Option.some.injEq,ey.mk.injEq] at U;obtain ⟨_,_,rfl,rfl⟩:=U;simp only [Cq,Option.some.injEq,Prod.mk.injEq] at hw;obtain ⟨_,rfl⟩:=hw;exact CH aV aC h
  grind
end
theorem aB.CK {s:aB} {d:Option Nat} {v:aI} {i:Nat} (h:d≠some i):(s.set d v).az i=s.az i:=by
 cases d with
 | none=>rfl
 | some d=>simp only [aB.set];grind
theorem aB.LU {s:aB} {d:Nat} {v:aI}:(s.set (some d) v).az d=v:=by simp [aB.set]
theorem aB.zh:∀ (l:List (Nat×bL)) (s:aB),(s.fU l).az=s.az
 | [],_=>rfl
 | p::l,s=>by
  have:=aB.zh l (s.cw p.1 p.2);exact this
theorem afH {aR:dE} {b':hS} {gs:Bool->b'.al->aB} (h:q0 aR T bg Ψ s o=some b') (aC:b'.Ck=some gs):∀ g y,∃ v,(gs g y).az=(s.set o.dst (.hz g v)).az:=by
 have after:∀ (t:ad) (bW:List Nat) (v:aI),(qX s o t bW v).az=(s.set o.dst v).az:=λt bW v=>by
  unfold qX;split
  ·rfl
  ·cases o.dst<;>rfl
 have du:∀ {args:List Operand} {c:hE} {b':hS} {gs:Bool->b'.al->aB},Cl aR s o args c=some b'->b'.Ck=some gs->∀ g y,∃ v,(gs g y).az=(s.set o.dst (.hz g v)).az:=by
  intro args c b' gs h aC;unfold Cl at h;split at h
  ·cases h;cases aC;exact λg y=>⟨_,after _ _ _⟩
  grind
 have FG:∀ {t:Nat} {args:List Operand} {b':hS} {gs:Bool->b'.al->aB},Cm aR s o t args=some b'->b'.Ck=some gs->∀ g y,∃ v,(gs g y).az=(s.set o.dst (.hz g v)).az:=by
  intro t args b' gs h aC;unfold Cm at h;split at h
  ·split at h
   ·cases h;cases aC;exact λg y=>⟨_,after _ _ _⟩
   grind
  grind
 unfold q0 at h;split at h
 ·split at h
  ·split at h
   ·split at h
    ·unfold w7 at h;grind
    ·unfold FJ at h;grind
    ·split at h
     ·exact du h aC
     grind
   ·split at h
    ·rename_i U;cases h;exact FG U aC
    ·split at h
     ·rename_i U;cases h;unfold FL w7 at U;grind
     ·unfold FM at h;grind
   grind
  grind
 ·unfold FN at h;grind
 ·unfold FP at h;grind
 ·unfold FQ at h;grind
 ·unfold Cp at h;grind
 grind
theorem u_ {x:Operand} {t:Nat} (h:h8 x=some t):x=.tmp t:=by
 cases x<;>simp [h8] at h;rw [h]
theorem Td {o gw kN kc:Oper} {d1 d2:Nat} (h:zn o gw kN=some (kc,d1,d2)):∃ ty m x y,o.op=.mapEntry ty m x/\o.dst=some d1/\gw.op=.extract (.tmp d1) 1/\gw.dst=some d2/\kN.op=.entryStore ty m (.tmp d2) y/\kN.dst=none/\
  kc.op=.mapUpdate ty m x y/\kc.dst=none/\m≠.tmp d1/\m≠.tmp d2/\y≠.tmp d1/\y≠.tmp d2/\o.guard=none/\gw.guard=none/\kN.guard=none:=by
 unfold zn at h;split at h
 ·rename_i ty m x ag;split at h
  ·rename_i e xn;split at h
   ·rename_i mG dw a8 y awI;split at h
    ·rename_i acX J5 LV CL Te;split at h
     ·rename_i hc;simp only [Option.some.injEq,Prod.mk.injEq] at h;obtain ⟨rfl,rfl,rfl⟩:=h;obtain ⟨bF,c2,rfl,c4,c5,lE,oe,wK,c9,Gb,afI,c12,afJ⟩:=hc;obtain ⟨ox,tL⟩:=Option.isSome_iff_exists.1 c4;have fh:=u_ tL;have hm:=u_ (c5.symm.trans tL);have aF:=u_ bF;have bB:=u_ c2;subst aF;subst bB;refine ⟨mG,m,x,y,ag,LV,xn,CL,?_,Te,rfl,Te,λe=>oe (by grind),λe=>wK (by grind),λe=>c9 (by grind),λe=>Gb (by grind),Option.isNone_iff_eq_none.1 afI,Option.isNone_iff_eq_none.1 c12,Option.isNone_iff_eq_none.1 afJ⟩;grind
     grind
    grind
   grind
  grind
 grind
theorem LW {β:Type} (aV:dT C.P T) (cz:jh C.P bg) (cV:lQ C.P C.aP Ψ) (ay:∀ o∈ops.toList,k_ o C.nt=true) {k:aB->A β} {O:β->Prop}
  (ao:∀ s' a' w',cu C s' a' w'->A.cv (k s') O->Q .normal a' w'):∀ (os:List Oper) (n:Nat) (tg:pf) (s:aB) (a:Act) (w:World),ops.toList.drop n=os->qe ops s tg->cu C s a w->A.cv (me C.aP T bg Ψ ops os tg s k) O->
   wpOpsIn (dS C.r) 0 C.P ops Q (List.range' n os.length) a w:=by
 intro os;generalize hlen:os.length=len;induction len using Nat.strongRecOn generalizing os with
 | _ len Tf=>
 subst hlen;cases os with
 | nil=>
  intro n tg s a w _ _ U hm;exact ao s a w U hm
 | cons o os=>
  have aM:=Tf os.length (by simp) os rfl;intro n tg s a w aD xo U hm;have ch:n<ops.toList.length:=by
   grind
  rw [List.drop_eq_getElem_cons ch] at aD;injection aD with p8 hU
  have eT:ops[n]?=some o:=by
   grind
  have jL:o∈ops.toList:=p8 ▸ List.getElem_mem ch;have xp:=ay o jL;have bh:∀ i,o.dst=some i->i<C.nt:=λi M=>by
   have:=xp;simp only [k_,Bool.and_eq_true] at this;grind
  simp only [List.length_cons,List.range'_succ,wpOpsIn,eT];obtain ⟨κ,F,eU⟩:=U;unfold me at hm;split at hm
  ·rename_i kc d1 d2 sb;cases os with
   | nil=>exact hm.1.elim
   | cons gw os=>
    cases os with
    | nil=>exact hm.1.elim
    | cons kN os=>
     simp only at hm;split at hm
     ·rename_i res gg;obtain ⟨ty,m,x,y,f1,f2,f3,f4,f5,f6,f7,f8,f9,f10,f11,f12,g1,eo,g3⟩:=Td sb;have Tg:=hU;have BU:n+1<ops.toList.length:=by
       grind
      rw [List.drop_eq_getElem_cons BU] at Tg;injection Tg with afK Th
      have afL:n+2<ops.toList.length:=by
       grind
      rw [List.drop_eq_getElem_cons afL] at Th;injection Th with awJ afM
      have afN:ops[n+1]?=some gw:=by
       grind
      have awK:ops[n+2]?=some kN:=by
       grind
      have CL:d2<C.nt:=by
       have:=ay gw (afK ▸ List.getElem_mem BU);simp only [k_,Bool.and_eq_true] at this;grind
      rw [A.kF,A.kF] at hm;have cj:Region.wanted o (yielded ops a.tmps)=true:=by unfold Region.wanted;rw [g1]
      have c6:∀ a':Act,Region.wanted gw (yielded ops a'.tmps)=true:=λa'=>by unfold Region.wanted;rw [eo]
      have eV:∀ a':Act,Region.wanted kN (yielded ops a'.tmps)=true:=λa'=>by unfold Region.wanted;rw [g3]
      have:=afo (Q:=Q) (K:=λa' w'=>wpOpsIn (dS C.r) 0 C.P ops Q (List.range' (n+3) os.length) a' w') aV f1 f2 f3 f4 f5 f6 f7 f8 f9 f10 f11 f12 (bh d1 f2) CL gg eU hm.1 hm.2.1
       λa' w' bd=>Tf os.length (by grind) os rfl (n+3) [] _ a' w' afM (λp ar=>by cases ar) bd hm.2.2
      rw [cj];simp only [if_true];refine Oper.wpIn_mono (λca awL G=>?_) this;simp only [List.length_cons,List.range'_succ,wpOpsIn,afN,c6,if_true];grind
     ·exact hm.1.elim
  split at hm
  ·exact hm.1.elim
  ·rename_i aC;have awM:o.guard=none:=by
    cases h:o.guard with
    | none=>rfl
    | some p=>
     rw [h] at aC;simp only [kt] at aC;grind
   rw [LR eU aC];simp only [Option.getD_none,if_true];split at hm
   ·rename_i res gg;rw [sa λaa=>(Gh xo (gk:=none) (λk ao=>by cases ao) aa).run s.ab res gg,sa λaa=>(ze aa).run s.ab res gg] at hm;refine Oper.wpIn_mono (λa' w' bd=>aM (n+1) _ _ a' w' hU (xo.hh (λi M=>?_) λd k _ ao=>by grind) bd hm.2.2) (wV aV cz xp gg a w κ F Q eU hm.1 hm.2.1);unfold aB.h5;rw [aB.CK M,aB.zh]
   ·split at hm
    ·rename_i b' ow;obtain ⟨jG,p5,mb⟩:=LP aV cz cV bh ow;rw [sa λaa=>mb (KA aa),A.fT] at hm;exact jG a w Q _ ⟨κ,F,eU⟩ hm.1 (hm.2.mono λy aS a' w' bd=>aM (n+1) _ _ a' w' hU (λp ar=>by cases ar) bd aS)
    ·exact hm.1.elim
  ·rename_i g aC;have Gi:∀ k,o.guard=some k->g=true->kt s.az ops (some k)=some (some true):=λk ao aL=>by grind
   rw [LR eU aC];simp only [Option.getD_some];split at hm
   ·rename_i b9 c afO afP gg;split at hm
    ·rename_i hB e4 xq;obtain ⟨afQ,afR⟩:=afB xq gg;rw [sa λaa=>by
      simp only [Bool.and_eq_true] at aa;exact λGj=>⟨(Gh xo (λk ao=>Gi k ao Gj) aa.1).run s.ab _ gg,(ze aa.2.1).run s.ab _ gg,afG xo (λk ao=>Gi k ao Gj) xq gg aa.2.2⟩] at hm
     have CM:qe ops ((s.fU hB).set o.dst (.hz g (use e4).2)) (w8 ops tg o):=xo.hh (λi M=>by rw [aB.CK M,aB.zh]) λd k ay ao=>⟨g,(use e4).2,by rw [ay,aB.LU],by grind⟩
     cases g with
     | true=>
      simp only [if_true];obtain ⟨G,V,ah⟩:=hm.1 rfl;refine Oper.wpIn_mono (λa' w' bd=>aM (n+1) _ _ a' w' hU CM (cu.Lq (av':=.hz true (use e4).2) (afQ a' w' bd) bh λκ F v af=>⟨λ_=>o4 af ah,λh=>(by cases h)⟩) hm.2) (wV aV cz xp gg a w κ F Q eU G V)
     | false=>
      simp only [Bool.false_eq_true,if_false];refine ⟨λ_ _=>trivial,aM (n+1) _ _ _ w hU CM ?_ hm.2⟩;obtain ⟨κ',F',afS⟩:=afR a w κ F eU;exact ⟨κ',F',afS.set (av:=.hz false (use e4).2) bh ⟨λh=>(by cases h),λ_=>rfl⟩⟩
    ·cases g with
     | true=>
      simp only [if_true] at hm ⊢;rw [A.kF,A.kF] at hm;exact Oper.wpIn_mono (λa' w' bd=>aM (n+1) _ _ a' w' hU (λp ar=>by cases ar) bd hm.2.2) (wV aV cz xp gg a w κ F Q eU hm.1 hm.2.1)
     | false=>
      simp only [Bool.false_eq_true,if_false] at hm ⊢;exact ⟨λ_ _=>trivial,aM (n+1) _ _ _ w hU (λp ar=>by cases ar) ⟨κ,F,eU.set (av:=.hz false (Sv afP (use afO).2)) bh ⟨λh=>(by cases h),λ_=>rfl⟩⟩ hm⟩
   ·split at hm
    ·rename_i b' ow;obtain ⟨jG,p5,mb⟩:=LP aV cz cV bh ow;split at hm
     ·rename_i gs ov;obtain ⟨dx,dP⟩:=p5 gs ov;rw [sa λaa Gj=>mb (Tb xo (λk ao=>Gi k ao Gj) aa),A.fT] at hm;have CM:∀ y,qe ops (gs g y) (w8 ops tg o):=λy=>by
       obtain ⟨v,af⟩:=afH ow ov g y;exact xo.hh (λi M=>by rw [af,aB.CK M]) λd k ay ao=>⟨g,v,by rw [af,ay,aB.LU],by grind⟩
      cases g with
      | true=>
       simp only [if_true];exact jG a w Q _ ⟨κ,F,eU⟩ (hm.1 rfl) (hm.2.mono λy aS a' w' bd=>aM (n+1) _ _ a' w' hU (CM y) (dx y a' w' bd) aS)
      | false=>
       simp only [Bool.false_eq_true,if_false];exact ⟨λ_ _=>trivial,aM (n+1) _ _ _ w hU (CM b'.d) (dP a w ⟨κ,F,eU⟩) (by
        have h:=hm.2;simp only [cg,Bool.false_eq_true,if_false] at h;exact h.2 b'.d rfl)⟩
     ·cases g with
      | true=>
       simp only [if_true] at hm ⊢;rw [A.kF,A.fT] at hm;exact jG a w Q _ ⟨κ,F,eU⟩ hm.1 (hm.2.mono λy aS a' w' bd=>aM (n+1) _ _ a' w' hU (λp ar=>by cases ar) bd aS)
      | false=>
       simp only [Bool.false_eq_true,if_false] at hm ⊢;exact ⟨λ_ _=>trivial,aM (n+1) _ _ _ w hU (λp ar=>by cases ar) ⟨κ,F,eU.set (av:=.hz false (use ((b'.st b'.d).az (o.dst.getD 0))).2) bh ⟨λh=>(by cases h),λ_=>rfl⟩⟩ hm⟩
    ·exact hm.1.elim
end
end Go.Fer
namespace Go.Fer
open Go.RowKit
section
variable {C:b8} {T:Nat->ad} {bg:Nat->Option aO} {s:aB} {res:ey}
theorem afT {P:Program}:∀ (t:ad),t.kJ=true->∀ {F F':Nat->Prop} {w w':World} {cs:List Value} {x:t.ai},bK P t F w cs x->bK P t F' w' cs x:=by
 intro t;induction t with
 | bool=>intro _ F F' w w' cs x h;exact h
 | int k=>intro _ F F' w w' cs x h;exact h
 | str=>intro _ F F' w w' cs x h;exact h
 | cQ=>intro hc;cases hc
 | st t aM=>intro hc F F' w w' cs x h;simp only [bK] at h ⊢;exact aM hc h
 | aA a b fv eJ=>
  intro hc F F' w w' cs x h;simp only [ad.kJ,Bool.and_eq_true] at hc;simp only [bK] at h ⊢;grind
 | slice e aM=>intro hc;cases hc
 | array n e aM=>intro hc;cases hc
 | bI e aM=>intro hc;cases hc
 | map k v wo wq=>intro hc;cases hc
 | fn a b fv eJ=>intro hc;cases hc
 | cq a aM=>intro hc;cases hc
 | ej=>intro hc;cases hc
theorem Ti {P:Program} {t:ad} (h:t.kJ=true) {F F':Nat->Prop} {w w':World} {v:Value} {x:t.ai} (af:ek P t F w v x):ek P t F' w' v x:=⟨af.1,afT t h af.2⟩
theorem Gk (a:Act) {i j:Nat} (h:i≠j) (v u:Value):(a.put (some i) v).put (some j) u=(a.put (some j) u).put (some i) v:=by
 simp only [Act.put];rw [Array.setIfInBounds_comm _ _ h]
theorem Gl {P:Program} {ty k9 y8:TypeId} (M:P.underlying ty=some (.map k9 y8)) {r:Nat} {ms:Array MapEntry} {clk:Nat} {w:World} (hw:w.heap[r]?=some (.map ms clk)) {key u:Value} {f:Option (Nat×Value)}
  (eb:(Instr.checkKey ms.isEmpty 10000 k9 key).run P w=.ok () w) (aw:(Instr.findKey k9 key ms.toList).run P w=.ok f w) (hu:(∃ i,f=some (i,u))\/(f=none/\(zeroValue y8).run P w=.ok u w)) :
  (Instr.lookup ty (.map (some r)) key false).run P w=.ok u w:=by
 have eT:(getObj r).run P w=.ok (.map ms clk) w:=by simp [getObj,Sem.run,hw]
 rcases hu with ⟨i,rfl⟩ | ⟨rfl,bl⟩
 ·simp only [Instr.lookup,Sem.run_bind,dC M,Result.andThen_ok,Sem.run_pure,eT,eb,aw];rfl
 ·simp only [Instr.lookup,Sem.run_bind,dC M,Result.andThen_ok,Sem.run_pure,eT,eb,aw,bl];rfl
theorem afU (aV:dT C.P T) {gy hF kc:Oper} {ty:TypeId} {m x y:Operand} (iG:gy.op=.lookup ty m x false) (ks:hF.op=.mapEntry ty m x) (h9:kc.op=.mapUpdate ty m x y) {dO:aB} (qR:dO.ab=s.ab)
  (pj:a_ C.aP dO.az m=a_ C.aP s.az m) (Fe:a_ C.aP dO.az x=a_ C.aP s.az x) (h:(bt C.aP T bg (a_ C.aP dO.az) kc).run dO.ab=some res)
  {a:Act} {w:World} {κ:Nat->bD} {F:Nat->Prop} (U:bm C s a w κ F) (LX:(use (a_ C.aP s.az m)).1) (LY:(use (a_ C.aP s.az x)).1) :
  ∃ u n wE,∀ a':Act,a'.eval m=a.eval m->a'.eval x=a.eval x->
   (execOp a'.eval gy).run C.P w=.ok (.value u) w/\(execOp a'.eval gy).run C.P wE=.ok (.value u) wE/\(execOp a'.eval hF).run C.P w=.ok (.value (.tuple #[u,goInt n])) wE:=by
 simp only [bt,h9,qK,pj,Fe,qR] at h;split at h
 ·rename_i k v aL;obtain ⟨k9,y8,M,mL,hf⟩:=(aV.b_ aL (by simp)).mp;obtain ⟨inf,mf,i1,i2,i3,i4,i5,i6⟩:=ko hf.kn;split at h
  ·rename_i xl;split at h
   ·rename_i b g tv;simp only [aq.e0,Option.bind_eq_some_iff,aq.run_bind,aq.eZ,aq.bN] at h;obtain ⟨⟨dJ,ob⟩,aj,⟨mM,oc⟩,aS,h⟩:=h;split at h
    ·rename_i aC;obtain ⟨aC,_⟩:=aC;split at h
     ·rename_i k' h2 es aa;simp only [Option.map_eq_some_iff] at h;obtain ⟨RU,o7,rfl⟩:=h;obtain ⟨e,rfl⟩:=kH o7;cases e;have hm:bA C.P s.ab κ F w (use (a_ C.aP s.az m)).2 (a.eval m):=cK U m rfl LX;rw [tv] at hm;have kM:=hm.2 aC.symm (by rw [aa];rfl);have fg:k.kJ=true/\k.j4<=100:=by simpa [ti] using xl
      have tw:=BM U aj (cK U x rfl LY);have Gm:∀ (F':Nat->Prop) w',ek C.P k F' w' (a.eval x) dJ:=λF' w'=>Ti fg.1 tw;have aT:=U.bE b;unfold cB at aT;rw [aa] at aT;obtain ⟨ms,clk,hw,tx⟩:=aT;have eb:∀ em w',(Instr.checkKey em 10000 k9 (a.eval x)).run C.P w'=.ok () w':=λem w'=>(B8 (em:=em) (F:=λ_=>True) k 10000 fg.1 (by omega)).1 mL (Gm _ w');have Tj:=tx.es;have Ta:∀ (j:Nat) (e:MapEntry) (p:k.ai×v.ai),ms.toList[j]?=some e->es[j]?=some p->∀ (F':Nat->Prop) w',ek C.P k F' w' e.key p.1:=λj e p G V F' w'=>Ti fg.1 (Tj.2 j e p G V).1;obtain ⟨f,dx,dP⟩:=wQ (F:=λ_=>True) (w:=w) (β:=v.ai) (xs:=es) (es:=ms.toList) xl mL (Gm _ w) Tj.1 (λj e p G V=>Ta j e p G V _ w);have eT:(getObj (κ b).ab).run C.P w=.ok (.map ms clk) w:=by simp [getObj,Sem.run,hw]
      obtain ⟨hq,Km,Fj,RV⟩:=tx;have ch:(κ b).ab<w.heap.size:=(Array.getElem?_eq_some_iff.1 hw).1;have bl:∀ w',(zeroValue y8).run C.P w'=.ok mf w':=λw'=>qL i1 i4;have pk:∀ (a':Act) (w':World) (u:Value),a'.eval m=a.eval m->a'.eval x=a.eval x->(Instr.lookup ty (.map (some (κ b).ab)) (a.eval x) false).run C.P w'=.ok u w'->(execOp a'.eval gy).run C.P w'=.ok (.value u) w':=by
       intro a' w' u aF bB bd;simp only [execOp,iG,aF,bB,kM,Sem.run_bind,bd,Result.andThen_ok,Sem.run_pure]
      have afV:∀ q:k.ai,gE k dJ q=true<->dJ=q:=λq=>Ki k fg.1 dJ q;rcases dP with ⟨rfl,ez⟩ | ⟨j,e,p,g1,eo,g3,g4,rfl⟩
      ·let cj:World:={ w with heap:=w.heap.setIfInBounds (κ b).ab (.map (ms.push { key:=a.eval x,val:=mf,born:=clk }) (clk+1)) }
       have lL:cj.heap[(κ b).ab]?=some (.map (ms.push { key:=a.eval x,val:=mf,born:=clk }) (clk+1)):=by grind
       obtain ⟨iy,cf,cF⟩:=wQ (F:=λ_=>True) (w:=cj) (β:=v.ai) (xs:=es++[(dJ,v.db)]) (es:=(ms.push { key:=a.eval x,val:=mf,born:=clk }).toList) xl mL (Gm _ cj) (by grind) (λj e p G V=>by
        grind)
       have q8:∃ i,iy=some (i,mf):=by
        rcases cF with ⟨_,ep⟩ | ⟨j,e,p,eE,dO,eH,oy,rfl⟩
        ·have:=ep (dJ,v.db) (by simp);grind
        ·by_cases aH:j<es.length
         ·grind
         grind
       refine ⟨mf,clk,cj,λa' aF bB=>⟨pk a' w mf aF bB (Gl M hw (eb _ w) dx (.inr ⟨rfl,bl w⟩)),pk a' cj mf aF bB (Gl M lL (eb _ cj) cf (.inl q8)),?_⟩⟩;simp only [execOp,ks,aF,bB,kM,Instr.mapEntry,Sem.run_bind,dC M,Result.andThen_ok,eT,eb,dx,bl,rZ hw,Sem.run_pure];rfl
      ·have aH:j<es.length:=(List.getElem?_eq_some_iff.1 eo).1;have wR:j<ms.size:=by omega
       have Ko:ms[j]=e:=by
        grind
       obtain ⟨jj,cj,t1,t2,t3⟩:=Kk C.P w e.key (a.eval x);have lL:cj.heap[(κ b).ab]?=some (.map ms clk):=by rcases t3 with rfl | rfl<;>exact hw
       have S8:(κ b).ab<cj.heap.size:=(Array.getElem?_eq_some_iff.1 lL).1;have mK:((ms[j]?).map (·.key)).getD (a.eval x)=e.key:=by
        grind
       have LO:((ms[j]?).map (λx=>(x.born:Int))).getD 0=(ms[j].born:Int):=by grind
       rw [Nat.zero_add] at dx;have ady:dJ=p.1:=(afV p.1).1 g3;let c6:World:={ cj with heap:=cj.heap.setIfInBounds (κ b).ab (.map (ms.modify j λe=>{ e with key:=jj }) clk) }
       have gR:c6.heap[(κ b).ab]?=some (.map (ms.modify j λe=>{ e with key:=jj }) clk):=by grind
       have uP:∀ (F':Nat->Prop) w',ek C.P k F' w' jj p.1:=λF' w'=>by
        grind
       have y5:∀ i,(ms.modify j λe=>{ e with key:=jj }).toList[i]?=if i=j then some { e with key:=jj } else ms.toList[i]?:=λi=>by
        grind
       obtain ⟨iy,cf,cF⟩:=wQ (F:=λ_=>True) (w:=c6) (β:=v.ai) (xs:=es) (es:=(ms.modify j λe=>{ e with key:=jj }).toList) xl mL (Gm _ c6) (by grind) (λi a8 p' G V=>by
        rw [y5] at G;grind)
       have q8:∃ i,iy=some (i,e.val):=by
        rcases cF with ⟨_,ep⟩ | ⟨i,a8,p',eE,dO,eH,oy,rfl⟩
        ·have:=ep p (List.mem_of_getElem? eo);rw [g3] at this;cases this
        ·have y9:i=j:=by
          rcases Nat.lt_trichotomy i j with h | h | h
          ·have:=g4 i p' h dO;rw [eH] at this;cases this
          ·exact h
          ·have:=oy j p h eo;rw [g3] at this;cases this
         subst y9;rw [y5,if_pos rfl] at eE;cases eE;exact ⟨_,rfl⟩
       refine ⟨e.val,ms[j].born,c6,λa' aF bB=>⟨pk a' w e.val aF bB (Gl M hw (eb _ w) dx (.inl ⟨_,rfl⟩)),pk a' c6 e.val aF bB (Gl M gR (eb _ c6) cf (.inl q8)),?_⟩⟩;simp only [execOp,ks,aF,bB,kM,Instr.mapEntry,Sem.run_bind,dC M,Result.andThen_ok,eT,eb,dx];rw [mK,t1];simp only [Result.andThen_ok,rZ lL,Sem.run_pure,LO];rfl
     grind
    grind
   ·cases h
  ·cases h
 ·cases h
end
end Go.Fer
namespace Go.Fer
open Go.RowKit
section
variable {C:b8} {T:Nat->ad} {bg:Nat->Option aO} {Ψ:Nat->Option e1} {s:aB} {o:Oper} {Q:Exit->Act->World->Prop} {ops:Array Oper}
theorem A.afW {al:Type} {m:A al} (h:m.Cj) {d x:al} (aj:m.bR x):x=m.val d:=by
 unfold A.val;have he:∃ x,m.bR x:=⟨x,aj⟩
 rw [dif_pos he];exact h _ _ aj he.choose_spec
theorem Tk (cz:jh C.P bg) (cV:lQ C.P C.aP Ψ):jh C.P (FI bg Ψ):=by
 intro k c h;unfold FI at h;split at h
 ·rename_i du LQ;split at h
  ·rename_i ay;cases h;simp only [Bool.and_eq_true,Bool.not_eq_true'] at ay;have h:=cV k _ LQ;obtain ⟨G,V⟩:h0 C.P k du.ts du.aW du.sh/\(du.dR=true->∀ x,(du.sh x).Cj):=h;exact ⟨λ_=>G.yI λx aG=>⟨aG,λy aS=>A.afW (V ay.1 x) aS⟩,λhe=>by rw [show nD du.FG.aW=nD du.aW from rfl,ay.2] at he;cases he⟩
  grind
 ·rename_i c' hc;cases h;have h:nD c.aW=true/\B5 C.P k c:=cV k _ hc;exact ⟨λhe=>(by rw [h.1] at he;cases he),λ_=>h.2⟩
 ·cases h
 ·exact cz k c h
theorem Tl {β:Type} {m:A β} {O:β->Prop}:∀ (l:List Prop),A.cv (Cr l m) O->(∀ p∈l,p)/\A.cv m O:=by
 intro l;induction l with
 | nil=>intro h;exact ⟨λp ar=>(by cases ar),h⟩
 | cons p l aM=>
  intro h;simp only [Cr] at h;rw [A.kF] at h;grind
theorem Tm {dx dP:Bool} {b9 c:Prop} (G:dx=true->b9) (V:dP=true->c) (h:∀ p∈Cd dx dP b9 c,p):b9/\c:=by
 unfold Cd at h;constructor
 ·cases dx with
  | true=>grind
  | false=>simp_all
 ·cases dP with
  | true=>grind
  | false=>simp_all
theorem Tn (aV:dT C.P T) (cz:jh C.P bg) (ay:k_ o C.nt=true) {r:eN} (h:uZ C.aP T bg ops s o=some r) (hc:∀ p∈r.cs,p) {a:Act} {w:World} (U:cu C s a w) {K:Act->World->Prop}
  (iF:∀ a' w',cu C (r.h6 s) a' w'->K a' w') :
  if Region.wanted o (yielded ops a.tmps) then o.wpIn (dS C.r) 0 C.P a w K Q else (∀ f,o.about C.P w a.eval=some f->(dS C.r).fn f)/\K (a.put o.dst undef) w:=by
 have bh:∀ i,o.dst=some i->i<C.nt:=λi M=>by
  have:=ay;simp only [k_,Bool.and_eq_true] at this;grind
 obtain ⟨κ,F,eU⟩:=U;unfold uZ at h;split at h
 ·cases h
 ·rename_i g aC;rw [LR eU aC];split at h
  ·cases h
  ·rename_i res gg;split at h
   ·cases h;simp only [Option.getD_none,if_true];obtain ⟨G,V⟩:=Tm (λaa=>(R' aa).run s.ab res gg) (λaa=>(ze aa).run s.ab res gg) hc;exact Oper.wpIn_mono iF (wV aV cz ay gg a w κ F Q eU G V)
   ·rename_i b;split at h
    ·rename_i xq;cases h;have hc:∀ p∈Cd (r1 (a_ C.aP s.az) o&&(mP (a_ C.aP s.az) o&&!res.e4.zd)) true (b=true->res.b9/\(res.c/\(use res.e4).1)) True,p:=hc;obtain ⟨G,_⟩:=Tm (λaa=>by
      simp only [Bool.and_eq_true,Bool.not_eq_true'] at aa;exact λ_=>⟨(R' aa.1).run s.ab _ gg,(ze aa.2.1).run s.ab _ gg,Fs aa.2.2⟩) (λ_=>trivial) hc
     obtain ⟨b9,c,e4,hB⟩:=res;simp only at xq;subst xq;cases b with
     | true=>
      simp only [Option.getD_some,if_true];obtain ⟨G,V,ah⟩:=G rfl;refine Oper.wpIn_mono (λa' w' bd=>iF a' w' ?_) (wV aV cz ay gg a w κ F Q eU G V);exact cu.Lq (av':=.hz true (use e4).2) bd bh λκ F v af=>⟨λ_=>o4 af ah,λh=>(by cases h)⟩
     | false=>
      simp only [Option.getD_some,Bool.false_eq_true,if_false];exact ⟨λ_ _=>trivial,iF _ _ ⟨κ,F,eU.set (av:=.hz false (use e4).2) bh ⟨λh=>(by cases h),λ_=>rfl⟩⟩⟩
    grind
theorem To (cl:List (List Nat)):∀ n,zp cl n<=n/\∀ j,zp cl n<=j->j<n->∀ i,i<j->i∈cl.getD j []
 | 0=>⟨Nat.le_refl _,λj _ h=>by omega⟩
 | n+1=>by
  unfold zp;split
  ·rename_i h;obtain ⟨G,V⟩:=To cl n;refine ⟨by omega,λj aH LZ i M=>?_⟩;by_cases e:j=n
   ·simp_all
   grind
  grind
theorem afX {n:Nat} (q9:Cg ops.toList=true) (afY:∀ j,n<=j->j<ops.size->∀ i,i<j->i∈(ih ops.toList).getD j []):∀ (k j cd:Nat) (listed:Array Bool) (a:Act) (w:World),n<=j->j+k=ops.size->listed.size=ops.size->
  (∀ i,listed.getD i false=decide (i<j))->k<=cd->wpOpsIn (dS C.r) 0 C.P ops Q (List.range' j k) a w->wpAnyIn (dS C.r) 0 C.P .any ops Q cd listed a w:=by
 intro k;induction k with
 | zero=>
  intro j cd listed a w afZ af0 cb ak aw h;have U:∀ i,i ∉ Region.ready .any ops listed:=λi M=>by
   rw [mem_ready] at M;grind
  have iH:Region.ready .any ops listed=[]:=List.eq_nil_iff_forall_not_mem.2 U;cases cd with
  | zero=>exact ⟨iH,h⟩
  | succ cd=>exact ⟨λ_=>h,λi M=>absurd M (U i)⟩
 | succ k aM=>
  intro j cd listed a w afZ af0 cb ak aw h;have aH:j<ops.size:=by omega
  cases cd with
  | zero=>omega
  | succ cd=>
   have qf:∀ q o,ops[q]?=some o->listed.getD q false=true->∀ i∈h7 o,listed.getD i false=true:=λq o ag br i M=>by
    rw [ak] at br ⊢;have br:q<j:=by grind
    have:=List.all_eq_true.1 q9 q (by grind);grind
   have af1:∀ i,i∈Region.ready .any ops listed<->i=j:=λi=>by
    constructor
    ·intro M;rw [mem_ready] at M;obtain ⟨aY,o,ag,Gn⟩:=M;have jg:i<ops.size:=(Array.getElem?_eq_some_iff.1 ag).1;have CN:listed.getD i false=false:=by
      grind
     rw [ak] at CN;have Fm:j<=i:=by grind
     by_cases e:i=j
     ·exact e
     ·exfalso;have sc:∀ k∈h7 o,listed.getD k false=true:=by
       intro k ao;obtain ⟨e,he,u'⟩:=List.mem_filterMap.1 ao;grind
      have CO:∀ k∈(ih ops.toList).getD i [],listed.getD k false=true\/k=i:=by
       intro k ao;refine w1 (p:=λj=>listed.getD j false=true\/j=i) ops.toList [] (λj i M=>by grind) (λj hP j' k ao aH=>?_) i k ao (.inr rfl);have lf:ops[j]?=some hP:=by grind
       rcases (by simp_all:listed.getD j false=true\/j=i) with aH | aH
       ·exact .inl (qf j hP lf aH k ao)
       ·subst aH;rw [ag] at lf;cases lf;exact .inl (sc k ao)
      grind
    ·rintro rfl;rw [mem_ready];refine ⟨?_,ops[i],by simp,λe he aa=>?_⟩
     ·grind
     ·have jg:e.on∈h7 ops[i]:=List.mem_filterMap.2 ⟨e,by grind,by grind⟩;have:=List.all_eq_true.1 q9 i (by grind);grind
   refine ⟨λU=>?_,λi M=>?_⟩
   ·simp_all
   ·obtain rfl:=(af1 i).1 M;have eT:ops[i]?=some ops[i]:=by simp
    rw [List.range'_succ] at h;simp only [wpOpsIn,eT] at h;have next:∀ a w,wpOpsIn (dS C.r) 0 C.P ops Q (List.range' (i+1) k) a w->wpAnyIn (dS C.r) 0 C.P .any ops Q cd (listed.setIfInBounds i true) a w:=λa w cR=>by
     refine aM (i+1) cd _ a w (by omega) (by omega) (by grind) (λq=>?_) (by omega) cR;by_cases e:q=i
     ·simp_all
     ·rw [getD_set_ne false (Ne.symm e),ak,decide_eq_decide];omega
    unfold wpOpIn;rw [eT];simp only;split
    ·rename_i hw;rw [if_pos hw] at h;exact Oper.wpIn_mono next h
    grind
theorem af2 (aV:dT C.P T) (cz:jh C.P bg) (ay:∀ o∈ops.toList,k_ o C.nt=true) {l:List eN} {s':aB} (aG:wW C.aP T bg ops ops.toList s=some (l,s')) (cH:zg ops.toList l=true)
  (hc:∀ r∈l,∀ p∈r.cs,p) (tM:∀ a' w',cu C s' a' w'->Q .normal a' w'):∀ (cd:Nat) (listed:Array Bool) (a:Act) (w:World),listed.size=ops.size->
   (∀ j o,ops[j]?=some o->listed.getD j false=true->∀ i∈h7 o,listed.getD i false=true)->((List.range ops.size).filter λj=>!listed.getD j false).length<=cd->
   cu C (jm l s λj=>listed.getD j false) a w->wpAnyIn (dS C.r) 0 C.P .any ops Q cd listed a w:=by
 obtain ⟨hlen,rT,CP⟩:=Sg _ _ aG;simp only [zg,Bool.and_eq_true] at cH;obtain ⟨q9,L0⟩:=cH;have af3:∀ j o,ops[j]?=some o->∀ i∈h7 o,i<j:=by
  intro j o ag i M;have aH:j<ops.toList.length:=by
   grind
  have:=List.all_eq_true.1 q9 j (by grind);grind
 have af4:∀ i j x y,i<j->l[i]?=some x->l[j]?=some y->((ih ops.toList).getD j []).contains i=true\/x.apart y=true:=by
  intro i j x y y9 M aH;have zD:j<l.length:=(List.getElem?_eq_some_iff.1 aH).1;have:=List.all_eq_true.1 L0 j (by grind);grind
 have CQ:∀ listed:Array Bool,listed.size=ops.size->Region.ready .any ops listed=[]->∀ j,j<ops.size->listed.getD j false=true:=by
  intro listed cb U j;induction j using Nat.strongRecOn with
  | _ j aM=>
   intro aH;cases ak:listed.getD j false with
   | true=>rfl
   | false=>
    exfalso;have jL:j∈Region.ready .any ops listed:=by
     rw [mem_ready];refine ⟨?_,ops[j],by simp,λe he aa=>?_⟩
     ·grind
     ·have jg:e.on∈h7 ops[j]:=List.mem_filterMap.2 ⟨e,by grind,by grind⟩;grind
    grind
 have nP:∀ (listed:Array Bool) (a:Act) (w:World),listed.size=ops.size->Region.ready .any ops listed=[]->cu C (jm l s λj=>listed.getD j false) a w->Q .normal a w:=by
  intro listed a w cb U j9;have fB:=CQ listed cb U;refine tM a w ?_;have:jm l s (λj=>listed.getD j false)=s':=by
   rw [rT];unfold jm;rw [List.filter_eq_self.2 λp ar=>?_,Ch];obtain ⟨_,V⟩:=zi ar;grind
  grind
 intro cd;induction cd with
 | zero=>
  intro listed a w cb _ L1 j9;have U:Region.ready .any ops listed=[]:=by
   cases U:Region.ready .any ops listed with
   | nil=>rfl
   | cons j awN=>
    exfalso;have jL:j∈Region.ready .any ops listed:=by grind
    rw [mem_ready] at jL;obtain ⟨aY,o,ag,_⟩:=jL;have aH:=(Array.getElem?_eq_some_iff.1 ag).1;have:j∈(List.range ops.size).filter λj=>!listed.getD j false:=by
     grind
    grind
  exact ⟨U,nP listed a w cb U j9⟩
 | succ cd aM=>
  intro listed a w cb qf L1 j9;refine ⟨λU=>nP listed a w cb U j9,λi M=>?_⟩;rw [mem_ready] at M;obtain ⟨aY,o,ag,Gn⟩:=M;have jg:i<ops.size:=(Array.getElem?_eq_some_iff.1 ag).1;have CN:listed.getD i false=false:=by
   grind
  have jL:o∈ops.toList:=by
   grind
  have sc:∀ k∈h7 o,listed.getD k false=true:=by
   intro k ao;obtain ⟨e,he,u'⟩:=List.mem_filterMap.1 ao;grind
  obtain ⟨r,U,gj⟩:=CP i o (by grind);have af5:∀ j k,k∈(ih ops.toList).getD j []->listed.getD j false=true->listed.getD k false=true:=by
   refine w1 (p:=λj=>listed.getD j false=true) ops.toList [] (λj i M=>by grind) λj hP j' k ao aH=>?_;exact qf j hP (by grind) (by simpa using aH) k ao
  have CO:∀ k∈(ih ops.toList).getD i [],listed.getD k false=true\/k=i:=by
   intro k ao;refine w1 (p:=λj=>listed.getD j false=true\/j=i) ops.toList [] (λj i M=>by grind) (λj hP j' k ao aH=>?_) i k ao (.inr rfl);have lf:ops[j]?=some hP:=by grind
   rcases (by simpa using aH:listed.getD j false=true\/j=i) with aH | aH
   ·exact .inl (qf j hP lf aH k ao)
   ·subst aH;rw [ag] at lf;cases lf;exact .inl (sc k ao)
  have gG:∀ j x,j<i->l[j]?=some x->listed.getD j false=false->x.apart r=true:=by
   grind
  have tE:∀ j x,i<j->l[j]?=some x->listed.getD j false=true->r.apart x=true:=by
   grind
  obtain ⟨aU,aX,bP⟩:=Sd (s:=s) (f:=λj=>listed.getD j false) U CN gG tE;have L2:=Sh gj aU aX;unfold wpOpIn;rw [ag];refine Tn aV cz (ay o jL) L2 (hc r (List.mem_of_getElem? U)) j9 λa' w' bd=>?_;have eT:∀ j,(listed.setIfInBounds i true).getD j false=if j=i then true else listed.getD j false:=by
   intro j;by_cases e:j=i
   ·subst e;rw [if_pos rfl,Array.getD_eq_getD_getElem?,Array.getElem?_setIfInBounds_self_of_lt (by omega)];rfl
   ·rw [if_neg e,getD_set_ne false (Ne.symm e)]
  refine aM _ a' w' (by grind) (λj hP j' aH k ao=>?_) ?_ ?_
  ·rw [eT] at aH ⊢;split
   ·rfl
   ·split at aH
    ·rename_i e;subst e;rw [ag] at j';cases j';exact sc k ao
    ·exact qf j hP j' aH k ao
  ·have ch:((List.range ops.size).filter λj=>!(listed.setIfInBounds i true).getD j false).length<((List.range ops.size).filter λj=>!listed.getD j false).length:=by
    have aF:(List.range ops.size).filter (λj=>!(listed.setIfInBounds i true).getD j false)=((List.range ops.size).filter λj=>!listed.getD j false).filter λj=>decide (j≠i):=by
     rw [List.filter_filter];apply List.filter_congr;intro j _;rw [eT];simp
    rw [aF];have L3:i∈(List.range ops.size).filter λj=>!listed.getD j false:=by
     grind
    exact List.length_filter_lt_length_iff_exists.2 ⟨i,L3,by simp⟩
   omega
  ·have:jm l s (λj=>(listed.setIfInBounds i true).getD j false)=r.h6 (jm l s λj=>listed.getD j false):=by
    rw [<-bP];congr 1;funext j;grind
   grind
def Gp (n:Nat) (l b e x:Bool) (listed:Array Bool):Prop:=∀ i,listed.getD i false=(decide (i<n)||(l&&decide (i=n))||(b&&decide (i=n+1))||(e&&decide (i=n+2))||(x&&decide (i=n+3)))
def mh (a:Act) (ed fD d1 d2:Nat) (u vB vE vX:Value) (l b e x:Bool):Act:=
 let ca:=if l=true then a.put (some ed) u else a
 let a2:=if b=true then ca.put (some fD) vB else ca
 let a3:=if e=true then a2.put (some d1) vE else a2
 if x=true then a3.put (some d2) vX else a3
theorem af6 (a:Act) (d:Option Nat) (v:Value):(a.put d v).tmps.size=a.tmps.size:=by cases d<;>simp [Act.put]
theorem af7 (a:Act) (ed fD d1 d2:Nat) (u vB vE vX:Value) (l b e x:Bool):(mh a ed fD d1 d2 u vB vE vX l b e x).tmps.size=a.tmps.size:=by
 unfold mh;cases l<;>cases b<;>cases e<;>cases x<;>simp [af6]
theorem Tp {a:Act} {ed fD d1 d2:Nat} {u vB vE vX:Value} {l b e x:Bool} {y:Operand} (G:y≠.tmp ed) (V:y≠.tmp fD) (ah:y≠.tmp d1) (a7:y≠.tmp d2):(mh a ed fD d1 d2 u vB vE vX l b e x).eval y=a.eval y:=by
 unfold mh;cases l<;>cases b<;>cases e<;>cases x<;>simp [zB,G,V,ah,a7]
theorem CR {o:Oper} {a:Act} {w w':World} {K:Act->World->Prop} {v:Value} (ay:∀ c,o.op≠.defer c) (h:(execOp a.eval o).run C.P w=.ok (.value v) w') (ao:o.wpIn (dS C.r) 0 C.P a w K Q):K (a.put o.dst v) w':=by
 have:=ao.2;rw [yS ay,h] at this;exact this
theorem af8 {n:Nat} (Tq:ops.size=n+5) (q9:Cg ops.toList=true) {gy ik hF iC lO:Oper} (xr:ops[n]?=some gy) (va:ops[n+1]?=some ik) (zE:ops[n+2]?=some hF) (CS:ops[n+3]?=some iC) (CT:ops[n+4]?=some lO)
  (CU:gy.guard=none) (CV:ik.guard=none) (Gq:hF.guard=none) (Gr:iC.guard=none) (Gs:lO.guard=none) (CW:∀ c,gy.op≠.defer c) (Gt:∀ c,ik.op≠.defer c) (Gu:∀ c,hF.op≠.defer c) (Gv:∀ c,iC.op≠.defer c)
  (gG:∀ q,q<5->∀ i,i<n->i∈(ih ops.toList).getD (n+q) []) (L4:n∈(ih ops.toList).getD (n+1) []) (Tr:n+2∈(ih ops.toList).getD (n+3) []) (zF:∀ q,q<4->n+q∈(ih ops.toList).getD (n+4) [])
  (Ts:∀ i∈h7 hF,i<n) (Tt:∀ i∈h7 iC,i<n\/i=n+2)
  {ed fD d1 d2:Nat} (sd:gy.dst=some ed) (de:ik.dst=some fD) (CX:hF.dst=some d1) (Gw:iC.dst=some d2) (_n1:ed≠fD) (ef:ed≠d1) (jF:ed≠d2) (n4:fD≠d1) (CY:fD≠d2)
  {a:Act} {w wE:World} {u vB vE vX:Value}
  (Tu:∀ b e x,(execOp (mh a ed fD d1 d2 u vB vE vX false b e x).eval gy).run C.P (if e=true then wE else w)=.ok (.value u) (if e=true then wE else w))
  (Tv:∀ e x,(execOp (mh a ed fD d1 d2 u vB vE vX true false e x).eval ik).run C.P (if e=true then wE else w)=.ok (.value vB) (if e=true then wE else w))
  (Tw:∀ l b x,(execOp (mh a ed fD d1 d2 u vB vE vX l b false x).eval hF).run C.P w=.ok (.value vE) wE)
  (Tx:∀ l b,(execOp (mh a ed fD d1 d2 u vB vE vX l b true false).eval iC).run C.P wE=.ok (.value vX) wE)
  (h:wpOpsIn (dS C.r) 0 C.P ops Q (List.range' n 5) a w):∀ (cd:Nat) (listed:Array Bool),listed.size=ops.size->(∀ i,listed.getD i false=decide (i<n))->5<=cd->wpAnyIn (dS C.r) 0 C.P .any ops Q cd listed a w:=by
 let aN:=mh a ed fD d1 d2 u vB vE vX;let ax:=λe:Bool=>if e=true then wE else w
 have wt:∀ {o:Oper},o.guard=none->∀ a':Act,Region.wanted o (yielded ops a'.tmps)=true:=λh a'=>by unfold Region.wanted;rw [h]
 have Gx:lO.wpIn (dS C.r) 0 C.P (aN true true true true) wE (λa' w'=>Q .normal a' w') Q:=by
  have h1:List.range' n 5=[n,n+1,n+2,n+3,n+4]:=rfl;rw [h1] at h;simp only [wpOpsIn,xr,va,zE,CS,CT,wt CU,wt CV,wt Gq,wt Gr,wt Gs,if_true] at h;have G:=CR (a:=aN false false false false) (w:=w) CW (Tu false false false) h;rw [sd] at G;have V:=CR (a:=aN true false false false) (w:=w) Gt (Tv false false) G;rw [de] at V;have ah:=CR (a:=aN true true false false) (w:=w) Gu (Tw true true false) V;rw [CX] at ah;have a7:=CR (a:=aN true true true false) (w:=wE) Gv (Tx true true) ah;rw [Gw] at a7;exact a7
 have af9:∀ {l b e x:Bool} {listed:Array Bool},Gp n l b e x listed->(b=true->l=true)->(x=true->e=true)->∀ q o,ops[q]?=some o->listed.getD q false=true->∀ i∈h7 o,listed.getD i false=true:=by
  intro l b e x listed bo aa aj q o ag br i M;have af_:q<ops.size:=(Array.getElem?_eq_some_iff.1 ag).1;have awO:i<q:=by
   have:=List.all_eq_true.1 q9 q (by grind);grind
  rw [bo] at br ⊢;grind
 have awP:∀ {listed:Array Bool} {i:Nat},listed.size=ops.size->i<ops.size->(listed[i]?.getD true=false<->listed.getD i false=false):=by
  intro listed i cb M;rw [Array.getD_eq_getD_getElem?,Array.getElem?_eq_getElem (by omega)];rfl
 have af':∀ {l b e x:Bool} {listed:Array Bool},Gp n l b e x listed->(b=true->l=true)->(x=true->e=true)->listed.size=ops.size->∀ i∈Region.ready .any ops listed,(i=n/\l=false)\/(i=n+1/\l=true/\b=false)\/(i=n+2/\e=false)\/(i=n+3/\e=true/\x=false)\/(i=n+4/\l=true/\b=true/\e=true/\x=true):=by
  intro l b e x listed bo aa aj cb i M;have qf:=af9 bo aa aj;rw [mem_ready] at M;obtain ⟨aY,o,ag,Gn⟩:=M;have jg:i<ops.size:=(Array.getElem?_eq_some_iff.1 ag).1;have aY:listed.getD i false=false:=by
   grind
  have sc:∀ k∈h7 o,listed.getD k false=true:=by
   intro k ao;obtain ⟨e,he,u'⟩:=List.mem_filterMap.1 ao;split at u'
   ·rename_i aa;cases u';grind
   grind
  have CO:∀ k∈(ih ops.toList).getD i [],listed.getD k false=true\/k=i:=by
   intro k ao;refine w1 (p:=λj=>listed.getD j false=true\/j=i) ops.toList [] (λj i M=>by simp at M) (λj hP j' k ao aH=>?_) i k ao (.inr rfl);have lf:ops[j]?=some hP:=by grind
   rcases (by simpa using aH:listed.getD j false=true\/j=i) with aH | aH
   ·exact .inl (qf j hP lf aH k ao)
   ·subst aH;rw [ag] at lf;cases lf;exact .inl (sc k ao)
  rw [bo] at aY;simp only [Bool.or_eq_false_iff,Bool.and_eq_false_iff,decide_eq_false_iff_not] at aY;obtain ⟨⟨⟨⟨hi,aU⟩,aX⟩,bP⟩,gx⟩:=aY;have Fm:n<=i:=by omega
  have aga:i=n\/i=n+1\/i=n+2\/i=n+3\/i=n+4:=by omega
  have flag:∀ q,q<4->n+q∈(ih ops.toList).getD i []->n+q≠i->(if q=0 then l else if q=1 then b else if q=2 then e else x)=true:=by
   intro q br hm ez;rcases CO _ hm with h | h
   ·rw [bo] at h;simp only [Bool.or_eq_true,Bool.and_eq_true,decide_eq_true_eq] at h;rcases h with (((h | ⟨G,h⟩) | ⟨G,h⟩) | ⟨G,h⟩) | ⟨G,h⟩
    ·omega
    ·grind
    ·have:q=1:=by omega
     subst this;exact G
    ·have:q=2:=by omega
     subst this;exact G
    ·have:q=3:=by omega
     subst this;exact G
   omega
  rcases aga with rfl | rfl | rfl | rfl | rfl
  ·grind
  ·exact .inr (.inl ⟨rfl,flag 0 (by omega) L4 (by omega),by grind⟩)
  ·grind
  ·grind
  ·exact .inr (.inr (.inr (.inr ⟨rfl,flag 0 (by omega) (zF 0 (by omega)) (by omega),flag 1 (by omega) (zF 1 (by omega)) (by omega),flag 2 (by omega) (zF 2 (by omega)) (by omega),flag 3 (by omega) (zF 3 (by omega)) (by omega)⟩)))
 have agb:∀ {l b e x:Bool} {listed:Array Bool},Gp n l b e x listed->(b=true->l=true)->(x=true->e=true)->listed.size=ops.size->Region.ready .any ops listed≠[]:=by
  intro l b e x listed bo aa aj cb uV;have mk:∀ i o,ops[i]?=some o->listed.getD i false=false->(∀ k∈h7 o,listed.getD k false=true)->False:=by
   intro i o ag aY ay;have jg:i<ops.size:=(Array.getElem?_eq_some_iff.1 ag).1;have:i∈Region.ready .any ops listed:=by
    rw [mem_ready];refine ⟨?_,o,ag,λe he aa=>ay e.on (List.mem_filterMap.2 ⟨e,by grind,by grind⟩)⟩;grind
   grind
  have lt:∀ q o,ops[q]?=some o->∀ i∈h7 o,i<q:=by
   intro q o ag i M;have af_:q<ops.size:=(Array.getElem?_eq_some_iff.1 ag).1;have:=List.all_eq_true.1 q9 q (by grind);rw [show ops.toList[q]?=some o by grind] at this;have:=List.all_eq_true.1 this i M;grind
  cases l with
  | false=>
   have o_:b=false:=by grind
   subst o_;exact mk n gy xr (by rw [bo];simp) λk ao=>by rw [bo];grind
  | true=>
   cases b with
   | false=>exact mk (n+1) ik va (by rw [bo];simp) λk ao=>by rw [bo];grind
   | true=>
    cases e with
    | false=>
     have L5:x=false:=by grind
     subst L5;exact mk (n+2) hF zE (by rw [bo];simp) λk ao=>by rw [bo];grind
    | true=>
     cases x with
     | false=>exact mk (n+3) iC CS (by rw [bo];simp) λk ao=>by rw [bo];grind
     | true=>exact mk (n+4) lO CT (by rw [bo];simp) λk ao=>by rw [bo];grind
 have CZ:∀ {listed:Array Bool} (i:Nat),listed.size=ops.size->i<ops.size->∀ q,(listed.setIfInBounds i true).getD q false=(listed.getD q false||decide (q=i)):=by
  intro listed i cb M q;by_cases e:q=i
  ·grind
  grind
 let cc:=λ(l b e x:Bool)=>∀ (cd:Nat) (listed:Array Bool),Gp n l b e x listed->listed.size=ops.size->5<=cd+(l.toNat+b.toNat+e.toNat+x.toNat)->wpAnyIn (dS C.r) 0 C.P .any ops Q cd listed (aN l b e x) (ax e);have step:∀ l b e x,(b=true->l=true)->(x=true->e=true)->(l=false->cc true b e x)->(l=true->b=false->cc l true e x)->(e=false->cc l b true x)->(e=true->x=false->cc l b e true)->cc l b e x:=by
  intro l b e x aa aj eE dO eH oy cd listed bo cb sb;have awQ:l.toNat<=1/\b.toNat<=1/\e.toNat<=1/\x.toNat<=1:=⟨Bool.toNat_le l,Bool.toNat_le b,Bool.toNat_le e,Bool.toNat_le x⟩
  cases cd with
  | zero=>omega
  | succ cd=>
   refine ⟨λU=>absurd U (agb bo aa aj cb),λi M=>?_⟩;rcases af' bo aa aj cb i M with ⟨rfl,G⟩ | ⟨rfl,G,V⟩ | ⟨rfl,G⟩ | ⟨rfl,G,V⟩ | ⟨rfl,G,V,ah,a7⟩
   ·subst G;have o_:b=false:=by grind
    subst o_;unfold wpOpIn;simp only [xr,wt CU,if_true];refine hr CW (Tu false e x) ?_;rw [sd];have yQ:(aN false false e x).put (some ed) u=aN true false e x:=by
     simp only [aN,mh];cases e<;>cases x<;>simp [Gk _ ef.symm,Gk _ jF.symm]
    show wpAnyIn _ _ _ _ _ _ _ _ ((aN false false e x).put (some ed) u) (ax e);rw [yQ];refine eE rfl cd _ (λq=>?_) (by grind) (by grind);rw [CZ i cb (by omega),bo];by_cases br:q=i<;>simp [br]
   ·subst G;subst V;unfold wpOpIn;simp only [va,wt CV,if_true];refine hr Gt (Tv e x) ?_;rw [de];have yQ:(aN true false e x).put (some fD) vB=aN true true e x:=by
     simp only [aN,mh];cases e<;>cases x<;>simp [Gk _ n4.symm,Gk _ CY.symm]
    show wpAnyIn _ _ _ _ _ _ _ _ ((aN true false e x).put (some fD) vB) (ax e);rw [yQ];refine dO rfl rfl cd _ (λq=>?_) (by grind) (by grind);rw [CZ (n+1) cb (by omega),bo];by_cases br:q=n+1<;>simp [br]
   ·subst G;have L5:x=false:=by grind
    subst L5;unfold wpOpIn;simp only [zE,wt Gq,if_true];refine hr Gu (Tw l b false) ?_;rw [CX];show wpAnyIn _ _ _ _ _ _ _ _ (aN l b true false) (ax true);refine eH rfl cd _ (λq=>?_) (by grind) (by grind);rw [CZ (n+2) cb (by omega),bo];simp
   ·subst G;subst V;unfold wpOpIn;simp only [CS,wt Gr,if_true];refine hr Gv (Tx l b) ?_;rw [Gw];show wpAnyIn _ _ _ _ _ _ _ _ (aN l b true true) (ax true);refine oy rfl rfl cd _ (λq=>?_) (by grind) (by grind);rw [CZ (n+3) cb (by omega),bo];simp
   ·subst G;subst V;subst ah;subst a7;unfold wpOpIn;simp only [CT,wt Gs,if_true];refine Oper.wpIn_mono (λa' w' br=>?_) Gx;have fB:∀ i,(listed.setIfInBounds (n+4) true).getD i false=decide (i<n+5):=λi=>by
     rw [CZ (n+4) cb (by omega),bo,Bool.eq_iff_iff];simp only [Bool.or_eq_true,Bool.and_eq_true,decide_eq_true_eq,true_and];omega
    have U:∀ i,i ∉ Region.ready .any ops (listed.setIfInBounds (n+4) true):=λi M=>by
     rw [mem_ready] at M;obtain ⟨aY,o,ag,_⟩:=M;grind
    have iH:Region.ready .any ops (listed.setIfInBounds (n+4) true)=[]:=List.eq_nil_iff_forall_not_mem.2 U;cases cd with
    | zero=>exact ⟨iH,br⟩
    | succ cd=>exact ⟨λ_=>br,λi M=>absurd M (U i)⟩
 have f:∀ {p:Prop},(true:Bool)=false->p:=λh=>by cases h
 have iy:∀ {p:Prop},(false:Bool)=true->p:=λh=>by cases h
 have Ty:cc true true true true:=step _ _ _ _ (λ_=>rfl) (λ_=>rfl) f (λ_=>f) f (λ_=>f);have Tz:cc true true true false:=step _ _ _ _ (λ_=>rfl) (λ_=>rfl) f (λ_=>f) f (λ_ _=>Ty);have agc:cc true true false false:=step _ _ _ _ (λ_=>rfl) iy f (λ_=>f) (λ_=>Tz) iy;have TA:cc true false true true:=step _ _ _ _ (λ_=>rfl) (λ_=>rfl) f (λ_ _=>Ty) f (λ_=>f);have TB:cc true false true false:=step _ _ _ _ (λ_=>rfl) (λ_=>rfl) f (λ_ _=>Tz) f (λ_ _=>TA);have agd:cc true false false false:=step _ _ _ _ (λ_=>rfl) iy f (λ_ _=>agc) (λ_=>TB) iy;have age:cc false false true true:=step _ _ _ _ iy (λ_=>rfl) (λ_=>TA) iy f (λ_=>f);have agf:cc false false true false:=step _ _ _ _ iy (λ_=>rfl) (λ_=>TB) iy f (λ_ _=>age);have agh:cc false false false false:=step _ _ _ _ iy iy (λ_=>agd) iy (λ_=>agf) iy;intro cd listed cb ak sb;exact agh cd listed (λi=>by grind) cb (by omega)
theorem agi {n:Nat} (aD:n<=ops.size) (aV:dT C.P T) (cz:jh C.P bg) (ay:∀ o∈ops.toList,k_ o C.nt=true) {l:List eN} {s':aB} (aG:wW C.aP T bg ops (ops.toList.take n) s=some (l,s')) (cH:zg (ops.toList.take n) l=true) (afY:∀ j,n<=j->j<ops.size->∀ i,i<n->i∈(ih ops.toList).getD j [])
  (hc:∀ r∈l,∀ p∈r.cs,p) (tM:∀ (cd:Nat) (listed:Array Bool) a' w',listed.size=ops.size->(∀ i,listed.getD i false=decide (i<n))->ops.size - n<=cd->cu C s' a' w'->wpAnyIn (dS C.r) 0 C.P .any ops Q cd listed a' w'):∀ (cd:Nat) (listed:Array Bool) (a:Act) (w:World),listed.size=ops.size->
   (∀ j o,ops[j]?=some o->listed.getD j false=true->∀ i∈h7 o,listed.getD i false=true)->(∀ i,n<=i->listed.getD i false=false)->((List.range ops.size).filter λj=>!listed.getD j false).length<=cd->
   cu C (jm l s λj=>listed.getD j false) a w->wpAnyIn (dS C.r) 0 C.P .any ops Q cd listed a w:=by
 obtain ⟨hlen,rT,CP⟩:=Sg _ _ aG;have Gg:(ops.toList.take n).length=n:=by grind
 have iG:∀ i,i<n->(ops.toList.take n)[i]?=ops[i]?:=λi M=>by
  grind
 simp only [zg,Bool.and_eq_true] at cH;obtain ⟨q9,L0⟩:=cH;have af3:∀ j o,j<n->ops[j]?=some o->∀ i∈h7 o,i<j:=by
  intro j o LZ ag i M;have:=List.all_eq_true.1 q9 j (by grind);grind
 have af4:∀ i j x y,i<j->l[i]?=some x->l[j]?=some y->((ih (ops.toList.take n)).getD j []).contains i=true\/x.apart y=true:=by
  intro i j x y y9 M aH;have zD:j<l.length:=(List.getElem?_eq_some_iff.1 aH).1;have:=List.all_eq_true.1 L0 j (by grind);grind
 intro cd;induction cd with
 | zero=>
  intro listed a w cb _ pa L1 j9;have fB:∀ i,listed.getD i false=decide (i<n):=λi=>by
   by_cases M:i<n
   ·cases ak:listed.getD i false with
    | true=>grind
    | false=>
     exfalso;have:i∈(List.range ops.size).filter λj=>!listed.getD j false:=by
      grind
     grind
   grind
  refine tM 0 listed a w cb fB ?_ ?_
  ·by_cases ch:n<ops.size
   ·have:n∈(List.range ops.size).filter λj=>!listed.getD j false:=by
     grind
    grind
   ·omega
  ·have:jm l s (λj=>listed.getD j false)=s':=by
    rw [rT];unfold jm;rw [List.filter_eq_self.2 λp ar=>?_,Ch];obtain ⟨_,V⟩:=zi ar;grind
   grind
 | succ cd aM=>
  intro listed a w cb qf pa L1 j9;by_cases CQ:∀ i,i<n->listed.getD i false=true
  ·have fB:∀ i,listed.getD i false=decide (i<n):=λi=>by
    grind
   refine tM (cd+1) listed a w cb fB ?_ ?_
   ·have G:(List.range' n (ops.size - n)).length<=((List.range ops.size).filter λj=>!listed.getD j false).length:=by
     have e:(List.range ops.size).filter (λj=>!listed.getD j false)=List.range' n (ops.size - n):=by
      have V:(List.range ops.size).filter (λj=>!listed.getD j false)=(List.range ops.size).filter λj=>decide (n<=j):=List.filter_congr λj _=>by
       grind
      rw [V];have ah:List.range ops.size=List.range n++List.range' n (ops.size - n):=by
       rw [List.range_eq_range',List.range_eq_range'];have:=(List.range'_append (s:=0) (m:=n) (n:=ops.size - n) (step:=1))
       grind
      rw [ah,List.filter_append,List.filter_eq_nil_iff.2 λj aH=>by grind,List.filter_eq_self.2 λj aH=>by grind];rfl
     grind
    grind
   ·have:jm l s (λj=>listed.getD j false)=s':=by
     rw [rT];unfold jm;rw [List.filter_eq_self.2 λp ar=>?_,Ch];obtain ⟨_,V⟩:=zi ar;grind
    grind
  ·refine ⟨λU=>absurd ?_ CQ,λi M=>?_⟩
   ·intro j;induction j using Nat.strongRecOn with
    | _ j awR=>
     intro aH;cases ak:listed.getD j false with
     | true=>rfl
     | false=>
      exfalso;have jL:j∈Region.ready .any ops listed:=by
       rw [mem_ready];refine ⟨?_,ops[j],by simp,λe he aa=>?_⟩
       ·grind
       ·have jg:e.on∈h7 ops[j]:=List.mem_filterMap.2 ⟨e,by grind,by grind⟩;grind
      grind
   ·rw [mem_ready] at M;obtain ⟨aY,o,ag,Gn⟩:=M;have jg:i<ops.size:=(Array.getElem?_eq_some_iff.1 ag).1;have CN:listed.getD i false=false:=by
     grind
    have jL:o∈ops.toList:=by
     grind
    have sc:∀ k∈h7 o,listed.getD k false=true:=by
     intro k ao;obtain ⟨e,he,u'⟩:=List.mem_filterMap.1 ao;split at u'
     ·rename_i aa;cases u';exact Gn e (by simpa using he) aa
     ·cases u'
    have M:i<n:=by
     by_cases M:i<n
     ·exact M
     ·exfalso;have CO:∀ k∈(ih ops.toList).getD i [],listed.getD k false=true\/k=i:=by
       intro k ao;refine w1 (p:=λj=>listed.getD j false=true\/j=i) ops.toList [] (λj i M=>by simp at M) (λj hP j' k ao aH=>?_) i k ao (.inr rfl);have lf:ops[j]?=some hP:=by grind
       rcases (by simpa using aH:listed.getD j false=true\/j=i) with aH | aH
       ·exact .inl (qf j hP lf aH k ao)
       ·subst aH;rw [ag] at lf;cases lf;exact .inl (sc k ao)
      grind
    obtain ⟨r,U,gj⟩:=CP i o (by grind);have af5:∀ j k,k∈(ih (ops.toList.take n)).getD j []->listed.getD j false=true->listed.getD k false=true:=by
     refine w1 (p:=λj=>listed.getD j false=true) (ops.toList.take n) [] (λj i M=>by simp at M) λj hP j' k ao aH=>?_;have LZ:j<n:=by grind
     exact qf j hP (by grind) (by simpa using aH) k ao
    have CO:∀ k∈(ih (ops.toList.take n)).getD i [],listed.getD k false=true\/k=i:=by
     intro k ao;refine w1 (p:=λj=>listed.getD j false=true\/j=i) (ops.toList.take n) [] (λj i M=>by simp at M) (λj hP j' k ao aH=>?_) i k ao (.inr rfl);have LZ:j<n:=by grind
     have lf:ops[j]?=some hP:=by grind
     rcases (by simpa using aH:listed.getD j false=true\/j=i) with aH | aH
     ·exact .inl (qf j hP lf aH k ao)
     ·subst aH;rw [ag] at lf;cases lf;exact .inl (sc k ao)
    have gG:∀ j x,j<i->l[j]?=some x->listed.getD j false=false->x.apart r=true:=by
     grind
    have tE:∀ j x,i<j->l[j]?=some x->listed.getD j false=true->r.apart x=true:=by
     grind
    obtain ⟨aU,aX,bP⟩:=Sd (s:=s) (f:=λj=>listed.getD j false) U CN gG tE;have L2:=Sh gj aU aX;unfold wpOpIn;rw [ag];refine Tn aV cz (ay o jL) L2 (hc r (List.mem_of_getElem? U)) j9 λa' w' bd=>?_;have eT:∀ j,(listed.setIfInBounds i true).getD j false=if j=i then true else listed.getD j false:=by
     intro j;by_cases e:j=i
     ·subst e;rw [if_pos rfl,Array.getD_eq_getD_getElem?,Array.getElem?_setIfInBounds_self_of_lt (by omega)];rfl
     ·rw [if_neg e,getD_set_ne false (Ne.symm e)]
    refine aM _ a' w' (by grind) (λj hP j' aH k ao=>?_) (λq br=>by rw [eT,if_neg (by omega)];grind) ?_ ?_
    ·rw [eT] at aH ⊢;split
     ·rfl
     ·split at aH
      ·rename_i e;subst e;rw [ag] at j';cases j';exact sc k ao
      ·exact qf j hP j' aH k ao
    ·have ch:((List.range ops.size).filter λj=>!(listed.setIfInBounds i true).getD j false).length<((List.range ops.size).filter λj=>!listed.getD j false).length:=by
      have aF:(List.range ops.size).filter (λj=>!(listed.setIfInBounds i true).getD j false)=((List.range ops.size).filter λj=>!listed.getD j false).filter λj=>decide (j≠i):=by
       rw [List.filter_filter];apply List.filter_congr;intro j _;rw [eT];simp
      rw [aF];have L3:i∈(List.range ops.size).filter λj=>!listed.getD j false:=by
       grind
      exact List.length_filter_lt_length_iff_exists.2 ⟨i,L3,by simp⟩
     omega
    ·have:jm l s (λj=>(listed.setIfInBounds i true).getD j false)=r.h6 (jm l s λj=>listed.getD j false):=by
      rw [<-bP];congr 1;funext j;grind
     grind
theorem TC {β:Type} {b:Bool} {p:Prop} {m:A β} {O:β->Prop} (h:A.cv (r4 b p m) O):A.cv m O:=by
 cases b with
 | true=>exact h
 | false=>exact (A.kF.1 h).2
theorem agj {gy ik hF iC lO:Oper} (h:K_ gy ik hF iC lO=true):∃ ty m x Gy L6 k c ed fD d1 d2 kc y,gy.op=.lookup ty m x false/\ik.op=.binOp .add Gy (.tmp ed) (.const (.int k c)) L6/\hF.op=.mapEntry ty m x/\iC.op=.extract (.tmp d1) 1/\
  kc.op=.mapUpdate ty m x y/\zn hF iC lO=some (kc,d1,d2)/\gy.dst=some ed/\ik.dst=some fD/\hF.dst=some d1/\iC.dst=some d2/\fL k c/\(ed≠fD/\ed≠d1/\ed≠d2/\fD≠d1/\fD≠d2/\d1≠d2)/\
  (m≠.tmp ed/\m≠.tmp fD/\m≠.tmp d1/\m≠.tmp d2)/\(x≠.tmp ed/\x≠.tmp fD/\x≠.tmp d1/\x≠.tmp d2)/\(∃ ox,m=.tmp ox)/\(∃ L7,x=.tmp L7)/\gy.guard=none/\ik.guard=none/\hF.guard=none/\iC.guard=none/\lO.guard=none:=by
 unfold K_ at h;split at h
 ·rename_i ty m x Gy t k c L6 mG dw dJ iG aT ks;split at h
  ·rename_i ed fD kc d1 d2 sd de sb;simp only [decide_eq_true_eq] at h;obtain ⟨rfl,rfl,jg,aF,bB,ec,ef,jF,n4,CY,TD,eE,dO,ca,a2,a3,a4,dB,eu,kj,nx,dx,dP⟩:=h;obtain ⟨awS,awT,awU,awV,f1,f2,f3,f4,f5,f6,f7,f8,f9,f10,f11,f12,g1,eo,g3⟩:=Td sb;obtain ⟨ox,tL⟩:=Option.isSome_iff_exists.1 eE;obtain ⟨L7,TE⟩:=Option.isSome_iff_exists.1 dO;have em:=u_ tL;have ex:=u_ TE;have agk:=u_ (aF.trans tL);have agl:=u_ (bB.trans TE);rw [f1] at ks;simp only [Op.mapEntry.injEq] at ks;obtain ⟨rfl,rfl,rfl⟩:=ks;subst em;subst ex;subst agk;subst agl;refine ⟨_,_,_,_,_,_,_,_,_,_,_,kc,_,iG,aT,f1,f3,f7,sb,sd,de,f2,f4,jg,⟨ec,ef,jF,n4,CY,TD⟩,?_,?_,⟨_,rfl⟩,⟨_,rfl⟩,Option.isNone_iff_eq_none.1 dx,Option.isNone_iff_eq_none.1 dP,g1,eo,g3⟩
   ·simp only [h8,ne_eq,Option.some.injEq] at ca a2 a3 a4;exact ⟨λe=>ca (by cases e;rfl),λe=>a2 (by cases e;rfl),λe=>a3 (by cases e;rfl),λe=>a4 (by cases e;rfl)⟩
   ·simp only [h8,ne_eq,Option.some.injEq] at dB eu kj nx;exact ⟨λe=>dB (by cases e;rfl),λe=>eu (by cases e;rfl),λe=>kj (by cases e;rfl),λe=>nx (by cases e;rfl)⟩
  grind
 grind
theorem agm {β:Type} {n:Nat} (r9:FU ops.toList=true) (aD:n=ops.size - 5) (aV:dT C.P T) (cz:jh C.P bg) (cV:lQ C.P C.aP Ψ) (ay:∀ o∈ops.toList,k_ o C.nt=true) {k:aB->A β} {O:β->Prop}
  (ao:∀ s' a' w',cu C s' a' w'->A.cv (k s') O->Q .normal a' w') (hm:A.cv (me C.aP T bg Ψ ops (ops.toList.drop n) [] s k) O) :
  (n<=ops.size/\∀ j,n<=j->j<ops.size->∀ i,i<n->i∈(ih ops.toList).getD j [])/\∀ (a:Act) (w:World),cu C s a w->∀ (cd:Nat) (listed:Array Bool),listed.size=ops.size->(∀ i,listed.getD i false=decide (i<n))->ops.size - n<=cd->wpAnyIn (dS C.r) 0 C.P .any ops Q cd listed a w:=by
 unfold FU at r9;rw [show ops.toList.length - 5=n by grind] at r9;split at r9
 ·rename_i gy ik hF iC lO TF;simp only [Bool.and_eq_true,List.all_eq_true,List.mem_range,List.contains_eq_mem,decide_eq_true_eq,Bool.or_eq_true] at r9;obtain ⟨agn,⟨⟨⟨⟨⟨q9,gG⟩,L4⟩,Tr⟩,zF⟩,Ts⟩,Tt⟩:=r9;have Tq:ops.size=n+5:=by
   have:=congrArg List.length TF;grind
  have C0:∀ q (o:Oper),[gy,ik,hF,iC,lO][q]?=some o->ops[n+q]?=some o:=λq o h=>by
   grind
  have xr:=C0 0 gy rfl;have va:=C0 1 ik rfl;have zE:=C0 2 hF rfl;have CS:=C0 3 iC rfl;have CT:=C0 4 lO rfl;have mem:∀ {q o},ops[n+q]?=some o->o∈ops.toList:=λh=>by
   grind
  obtain ⟨ty,m,x,Gy,L6,fg,c,ed,fD,d1,d2,kc,y,iG,aT,ks,zz,h9,tl,sd,de,CX,Gw,jg,⟨ec,ef,jF,n4,CY,TD⟩,⟨m1,m2,m3,m4⟩,⟨wJ,wI,TG,ago⟩,⟨ox,em⟩,⟨L7,ex⟩,CU,CV,Gq,Gr,Gs⟩:=agj agn;have CW:∀ c,gy.op≠.defer c:=by grind
  have Gt:∀ c,ik.op≠.defer c:=by grind
  have Gu:∀ c,hF.op≠.defer c:=by grind
  have Gv:∀ c,iC.op≠.defer c:=by grind
  refine ⟨⟨by omega,λj G V i M=>by have:=gG (j - n) (by omega) i M;simp_all⟩,λa w U cd listed cb ak sb=>?_⟩;have TH:=LW (Q:=Q) aV cz cV ay ao _ n [] s a w rfl (λp ar=>by cases ar) U hm;rw [show (ops.toList.drop n).length=5 by grind] at TH;rw [TF] at hm;obtain ⟨κ,F,eU⟩:=U;have gd:∀ {o:Oper},o.guard=none->∀ s:aB,kt s.az ops o.guard=some none:=λh s=>by rw [h];rfl
  have TI:∀ {o:Oper} {os},(∀ ty m x,o.op≠.mapEntry ty m x)->zo o os=none:=λ{o os} h=>by
   unfold zo;split
   ·unfold zn;simp
   ·rfl
  have Gg:zo gy [ik,hF,iC,lO]=none:=TI (by grind);unfold me at hm;rw [Gg] at hm;simp only [gd CU] at hm;split at hm
  ·rename_i tN Gz;rw [sa λaa=>(Gh (s:=s) (λp ar=>by cases ar) (gk:=none) (λk ao=>by cases ao) aa).run s.ab tN Gz,sa λaa=>(ze aa).run s.ab tN Gz] at hm;obtain ⟨L8,agp,hm⟩:=hm;have agq:=wV aV cz (ay gy (mem xr)) Gz;have xt:=Gz;simp only [bt,iG,yO] at xt;have agr:(use (a_ C.aP s.az m)).1/\(use (a_ C.aP s.az x)).1/\tN.hB=[]/\∃ v u,tN.e4=.val v u:=by
    split at xt
    ·rename_i jj awW awX;split at xt
     ·simp only [aq.e0,Option.bind_eq_some_iff,bO,aq.bN,Option.some.injEq] at xt;obtain ⟨es,o7,⟨y,l⟩,aS,rfl⟩:=xt;exact ⟨L8.1,L8.2,rfl,_,_,rfl⟩
     ·cases xt
    ·cases xt
   obtain ⟨LX,LY,TJ,TK,TL,ags⟩:=agr;have agt:zo ik [hF,iC,lO]=none:=TI (by grind);unfold me at hm;rw [agt] at hm;simp only [gd CV] at hm;split at hm
   ·rename_i L9 agu;have hm:=TC (TC hm);have vb:=agu;have aF:(s.h5 gy.dst tN).az ed=.val TK TL:=by rw [sd,aB.h5,aB.LU,ags]
    have lN:wD (.int fg c)=.val (.int fg) c:=by simp [wD,jg]
    have agv:∃ ca,TK=.int fg/\L9.hB=[]/\ca=TL:=by
     simp only [bt,aT,a_,aF,lN,use,aI.l_,aI.tf] at vb;split at vb
     ·rename_i aU ca aX dB G V;split at G
      ·rename_i bP TG ah;cases V;cases ah;cases G;split at vb
       ·rename_i uP;simp only [yK,bO,aq.bN,Option.some.injEq] at vb;grind
       ·cases vb
      grind
     ·rename_i pa;exfalso;split at vb
      ·grind
      ·simp only [aq.e0,Option.bind_eq_some_iff] at vb;obtain ⟨⟨c',h2⟩,G,V⟩:=vb;simp only [yL,aq.e0,Option.bind_eq_some_iff,aq.bN] at G;grind
    obtain ⟨lg,rfl,TM,rfl⟩:=agv;have iz:((s.h5 gy.dst tN).h5 ik.dst L9).ab=s.ab:=by
     simp only [aB.h5,TJ,TM,aB.fU,sd,de,aB.set]
    have eD:∀ {t:Nat},t≠ed->t≠fD->((s.h5 gy.dst tN).h5 ik.dst L9).az t=s.az t:=λ{t} G V=>by
     simp only [aB.h5,TJ,TM,aB.fU];rw [aB.CK (by grind),aB.CK (by grind)]
    unfold me at hm;rw [show zo hF [iC,lO]=some (kc,d1,d2) from tl] at hm;simp only at hm;split at hm
    ·rename_i awY agw;obtain ⟨u,mi,wE,TN⟩:=afU (s:=s) aV iG ks h9 iz (by rw [em];exact eD (λe=>m1 (by grind)) (λe=>m2 (by grind))) (by rw [ex];exact eD (λe=>wJ (by grind)) (λe=>wI (by grind))) agw eU LX LY;have agx:=(TN a rfl rfl).1;have agy:=CR (K:=λa' w'=>cu C (s.h5 gy.dst tN) a' w') (Q:=Q) CW agx (agq a w κ F Q eU L8 agp);have TO:ed<a.tmps.size:=by
      have:=ay gy (mem xr);simp only [k_,Bool.and_eq_true] at this;have:=this.1;rw [sd] at this;have G:=eU.dF;grind
     have awZ:d1<a.tmps.size:=by
      have:=ay hF (mem zE);simp only [k_,Bool.and_eq_true] at this;have:=this.1;rw [CX] at this;have G:=eU.dF;grind
     have hu:u=.int fg lg:=by
      obtain ⟨aeR,zC,gH⟩:=agy;have G:=gH.bT ed;rw [aF,sd] at G;have V:(a.put (some ed) u).tmps.getD ed Go.undef=u:=CF TO;rw [V] at G;exact (gP.1 G).1
     subst hu;let vB:Value:=.int fg (fg.wrap (lg+c));have agz:∀ (a':Act) (w':World),a'.eval (.tmp ed)=.int fg lg->(execOp a'.eval ik).run C.P w'=.ok (.value vB) w':=λa' w' h=>by
      have V:a'.eval (.const (.int fg c))=.int fg c:=rfl;have ah:(Go.binOp .add Gy (.int fg lg) (.int fg c)).run C.P w'=.ok vB w':=by simp [Go.binOp,Op.intArith,vB]
      simp only [execOp,aT,h,V,Sem.run_bind,Rc,Result.andThen_ok,ah,Sem.run_pure]
     have agA:∀ (a':Act) (w':World),a'.eval (.tmp d1)=.tuple #[.int fg lg,goInt mi]->(execOp a'.eval iC).run C.P w'=.ok (.value (goInt mi)) w':=λa' w' h=>by
      simp [execOp,zz,h,Instr.extract]
     have LL:∀ l b e dJ,(mh a ed fD d1 d2 (.int fg lg) vB (.tuple #[.int fg lg,goInt mi]) (goInt mi) l b e dJ).eval m=a.eval m:=λl b e dJ=>Tp m1 m2 m3 m4;have agB:∀ l b e dJ,(mh a ed fD d1 d2 (.int fg lg) vB (.tuple #[.int fg lg,goInt mi]) (goInt mi) l b e dJ).eval x=a.eval x:=λl b e dJ=>Tp wJ wI TG ago;refine af8 (wE:=wE) (u:=.int fg lg) (vB:=vB) (vE:=.tuple #[.int fg lg,goInt mi]) (vX:=goInt mi) Tq q9 xr va zE CS CT CU CV Gq Gr Gs CW Gt Gu Gv gG L4 Tr zF Ts Tt sd de CX Gw ec ef jF n4 CY ?_ ?_ ?_ ?_ TH cd listed cb ak (by omega)
     ·intro b e dJ;have:=TN _ (LL false b e dJ) (agB false b e dJ);cases e
      ·exact this.1
      ·exact this.2.1
     ·intro e dJ;refine agz _ _ ?_;have G:(mh a ed fD d1 d2 (.int fg lg) vB (.tuple #[.int fg lg,goInt mi]) (goInt mi) true false e dJ).eval (.tmp ed)=(a.put (some ed) (.int fg lg)).eval (.tmp ed):=by
       have dx:Operand.tmp ed≠.tmp d1:=λh=>ef (by grind);have dP:Operand.tmp ed≠.tmp d2:=λh=>jF (by grind);unfold mh;cases e<;>cases dJ<;>simp [zB,dx,dP]
      rw [G];exact CF TO
     ·grind
     ·intro l b;refine agA _ _ ?_;have G:mh a ed fD d1 d2 (.int fg lg) vB (.tuple #[.int fg lg,goInt mi]) (goInt mi) l b true false=(mh a ed fD d1 d2 (.int fg lg) vB (.tuple #[.int fg lg,goInt mi]) (goInt mi) l b false false).put (some d1) (.tuple #[.int fg lg,goInt mi]):=rfl;rw [G];exact CF (by rw [af7];omega)
    ·exact hm.1.elim
   ·rename_i aw0;exfalso;have:q0 C.aP T bg Ψ (s.h5 gy.dst tN) ik=none:=by
     have lN:wD (.int fg c)=.val (.int fg) c:=by simp [wD,jg]
     simp only [q0,aT,Cp,a_,lN];simp
    rw [this] at hm;exact hm.1
  ·exfalso;have:q0 C.aP T bg Ψ s gy=none:=by simp only [q0,iG]
   rw [this] at hm;exact hm.1
 grind
theorem agC {β:Type} {L:List (aB->A β)} (iG:L≠[]) {o:Oper} (aV:dT C.P T) (cz:jh C.P bg) (cV:lQ C.P C.aP Ψ) (xp:k_ o C.nt=true) {O:β->Prop} {s:aB} {a:Act} {w:World} (U:cu C s a w)
  (hm:∀ k∈L,A.cv (FW C.aP T bg Ψ ops o s k) O) {K:Act->World->Prop} (iF:∀ s' a' w',cu C s' a' w'->(∀ k∈L,A.cv (k s') O)->K a' w'):o.guard=none/\o.wpIn (dS C.r) 0 C.P a w K Q:=by
 obtain ⟨hi,lM⟩:=List.exists_mem_of_ne_nil L iG;have bh:∀ i,o.dst=some i->i<C.nt:=λi M=>by
  have:=xp;simp only [k_,Bool.and_eq_true] at this;grind
 unfold FW at hm;split at hm
 ·exact (hm hi lM).1.elim
 ·rename_i aC;refine ⟨aC,?_⟩;split at hm
  ·rename_i res gg;obtain ⟨κ,F,eU⟩:=U;have hm:∀ k∈L,res.b9/\res.c/\A.cv (k (s.h5 o.dst res)) O:=λk ao=>by
    have:=hm k ao;rw [sa λaa=>(Gh (ops:=ops) (tg:=[]) (s:=s) (λp ar=>by cases ar) (gk:=none) (λk ao=>by cases ao) aa).run s.ab res gg,sa λaa=>(ze aa).run s.ab res gg] at this;omega
   exact Oper.wpIn_mono (λa' w' bd=>iF _ a' w' bd λk ao=>(hm k ao).2.2) (wV aV cz xp gg a w κ F Q eU (hm hi lM).1 (hm hi lM).2.1)
  ·split at hm
   ·rename_i b' ow;obtain ⟨jG,p5,mb⟩:=LP aV cz cV bh ow;have hm:∀ k∈L,b'.b9/\A.cv b'.m λy=>A.cv (k (b'.st y)) O:=λk ao=>by
     have:=hm k ao;rw [sa λaa=>mb (KA aa),A.fT] at this;omega
    refine jG a w Q _ U (hm hi lM).1 ⟨(hm hi lM).2.1,λy aS a' w' bd=>iF _ a' w' bd λk ao=>(hm k ao).2.2 y aS⟩
   ·exact (hm hi lM).1.elim
theorem agD {ops:List Oper} {done:List Nat} {i:Nat}:i∈u4 ops done<->i<ops.length/\i ∉ done/\∃ o,ops[i]?=some o/\∀ j∈h7 o,j∈done:=by
 unfold u4;grind
theorem TP {ops:List Oper}:∀ (f:Nat) (done:List Nat),q1 ops f done≠[]
 | 0,done=>by simp [q1]
 | f+1,done=>by
  unfold q1;split
  ·simp
  ·rename_i l ak;cases hc:u4 ops done with
   | nil=>grind
   | cons i b_=>
    rw [List.flatMap_cons];intro h;rw [List.append_eq_nil_iff,List.map_eq_nil_iff] at h;exact TP f _ h.1
theorem GA {listed:Array Bool} {done:List Nat} (cb:listed.size=ops.size) (ak:∀ i,listed.getD i false=done.contains i):Region.ready .any ops listed=u4 ops.toList done:=by
 unfold Region.ready u4;rw [Array.length_toList];refine List.filter_congr λi M=>?_;have M:i<ops.size:=by grind
 have G:listed.getD i true=done.contains i:=by
  grind
 rw [G];congr 1;have ag:ops.toList[i]?=some ops[i]:=by simp
 rw [ag,Array.getElem?_eq_getElem M];show ops[i].after.all _=(h7 ops[i]).all _;rw [Bool.eq_iff_iff,Array.all_eq_true',List.all_eq_true];unfold h7;grind
theorem agE {β:Type} (aV:dT C.P T) (cz:jh C.P bg) (cV:lQ C.P C.aP Ψ) (ay:∀ o∈ops.toList,k_ o C.nt=true) {k:aB->A β} {O:β->Prop} (ao:∀ s' a' w',cu C s' a' w'->A.cv (k s') O->Q .normal a' w'):∀ (cd:Nat) (done:List Nat) (listed:Array Bool) (s:aB) (a:Act) (w:World),listed.size=ops.size->(∀ i,listed.getD i false=done.contains i)->FV ops.toList cd done=true->
  cu C s a w->(∀ l∈q1 ops.toList cd done,A.cv (zq C.aP T bg Ψ ops l s k) O)->wpAnyIn (dS C.r) 0 C.P .any ops Q cd listed a w:=by
 intro cd;induction cd with
 | zero=>
  intro done listed s a w cb ak aC U hm;have oj:=GA (ops:=ops) cb ak;refine ⟨?_,ao s a w U (hm [] (by simp [q1]))⟩;rw [oj];exact List.isEmpty_iff.1 aC
 | succ cd aM=>
  intro done listed s a w cb ak aC U hm;have oj:=GA (ops:=ops) cb ak;refine ⟨λaY=>?_,λi M=>?_⟩
  ·rw [oj] at aY;refine ao s a w U (hm [] ?_);unfold q1;grind
  ·rw [oj] at M;obtain ⟨p7,jg,o,ag,_⟩:=agD.1 M;have p7:i<ops.size:=by omega
   have j':ops[i]?=some o:=by grind
   have agF:o∈ops.toList:=List.mem_of_getElem? ag;have jL:∀ l∈q1 ops.toList cd (i::done),A.cv (FW C.aP T bg Ψ ops o s λs'=>zq C.aP T bg Ψ ops l s' k) O:=λl hle=>by
    have:=hm (i::l) (by
     unfold q1;grind)
    unfold zq at this;grind
   obtain ⟨g1,eo⟩:=agC (Q:=Q) (L:=(q1 ops.toList cd (i::done)).map λl=>λs'=>zq C.aP T bg Ψ ops l s' k) (by simpa using TP cd (i::done)) aV cz cV (ay o agF) U
    (λk' agG=>by obtain ⟨l,hle,rfl⟩:=List.mem_map.1 agG;exact jL l hle)
    (K:=wpAnyIn (dS C.r) 0 C.P .any ops Q cd (listed.setIfInBounds i true)) λs' a' w' bd SN=>by
     refine aM (i::done) _ s' a' w' (by grind) (λj=>?_) ?_ bd λl hle=>SN _ (List.mem_map.2 ⟨l,hle,rfl⟩)
     ·by_cases e:j=i
      ·simp_all
      ·rw [getD_set_ne false (Ne.symm e),ak j];simp [e]
     ·unfold FV at aC;grind
   unfold wpOpIn;rw [j'];simp only;have hw:Region.wanted o (yielded ops a.tmps)=true:=by unfold Region.wanted;rw [g1]
   grind
theorem TQ {β:Type} (aV:dT C.P T) (cz:jh C.P bg) (cV:lQ C.P C.aP Ψ) (ay:∀ o∈ops.toList,k_ o C.nt=true) {k:aB->A β} {O:β->Prop}
  (ao:∀ s' a' w',cu C s' a' w'->A.cv (k s') O->Q .normal a' w') {a:Act} {w:World} (U:cu C s a w) (hm:A.cv (zr C.aP T bg Ψ ops s k) O):wpAnyIn (dS C.r) 0 C.P .any ops Q ops.size (Array.replicate ops.size false) a w.drew:=by
 unfold zr at hm;split at hm
 ·rename_i l s' aG;split at hm
  ·rename_i cH;obtain ⟨G,V⟩:=Tl _ hm;obtain ⟨κ,F,eU⟩:=U;refine af2 aV cz ay aG cH (λr U p ar=>G p (List.mem_flatMap.2 ⟨r,U,ar⟩)) (λa' w' bd=>ao s' a' w' bd V) ops.size (Array.replicate ops.size false) a _ (by simp) (λj o _ ak=>?_) ?_ ⟨κ,F,?_⟩
   ·have:(Array.replicate ops.size false).getD j false=false:=by
     rw [Array.getD_eq_getD_getElem?,Array.getElem?_replicate];grind
    grind
   ·grind
   ·have:jm l s (λj=>(Array.replicate ops.size false).getD j false)=s:=by
     unfold jm;rw [List.filter_eq_nil_iff.2 λp _=>?_]
     ·rfl
     ·simp only [Array.getD_eq_getD_getElem?,Array.getElem?_replicate];grind
    rw [this];exact eU.drew
  ·exact hm.1.elim
 ·split at hm
  ·rename_i l s' aG;split at hm
   ·rename_i cH;rw [Bool.and_eq_true] at cH;obtain ⟨G,V⟩:=Tl _ hm;obtain ⟨κ,F,eU⟩:=U;have cont:(lP ops.toList<=ops.size/\∀ j,lP ops.toList<=j->j<ops.size->∀ i,i<lP ops.toList->i∈(ih ops.toList).getD j [])/\∀ (cd:Nat) (listed:Array Bool) a' w',listed.size=ops.size->(∀ i,listed.getD i false=decide (i<lP ops.toList))->ops.size - lP ops.toList<=cd->cu C s' a' w'->wpAnyIn (dS C.r) 0 C.P .any ops Q cd listed a' w':=by
     by_cases r9:FU ops.toList=true
     ·have L_:lP ops.toList=ops.size - 5:=by unfold lP;grind
      obtain ⟨aF,bB⟩:=agm (Q:=Q) r9 L_ aV cz cV ay ao V;grind
     ·have L_:lP ops.toList=zp (ih ops.toList) ops.toList.length:=by unfold lP;grind
      obtain ⟨p8,hU⟩:=To (ih ops.toList) ops.toList.length;have p8:lP ops.toList<=ops.size:=by grind
      have hU:∀ j,lP ops.toList<=j->j<ops.size->∀ i,i<j->i∈(ih ops.toList).getD j []:=λj G V=>hU j (by omega) (by omega);refine ⟨⟨p8,λj G V i M=>hU j G V i (by omega)⟩,λcd listed a' w' cb fB sb bd=>?_⟩;refine afX cH.2 hU (ops.size - lP ops.toList) (lP ops.toList) cd listed a' w' (Nat.le_refl _) (by omega) cb fB sb ?_;have hlen:(ops.toList.drop (lP ops.toList)).length=ops.size - lP ops.toList:=by simp
      rw [<-hlen];exact LW (Q:=Q) aV cz cV ay ao _ _ [] s' a' w' rfl (λp ar=>by cases ar) bd V
    obtain ⟨⟨p8,hU⟩,aw1⟩:=cont;refine agi p8 aV cz ay aG cH.1 hU (λr U p ar=>G p (List.mem_flatMap.2 ⟨r,U,ar⟩)) (λcd listed a' w' cb fB sb bd=>?_) ops.size (Array.replicate ops.size false) a _ (by simp) (λj o _ ak=>?_) (λi _=>?_) ?_ ⟨κ,F,?_⟩
    ·grind
    ·have:(Array.replicate ops.size false).getD j false=false:=by
      rw [Array.getD_eq_getD_getElem?,Array.getElem?_replicate];grind
     grind
    ·rw [Array.getD_eq_getD_getElem?,Array.getElem?_replicate];grind
    ·grind
    ·have:jm l s (λj=>(Array.replicate ops.size false).getD j false)=s:=by
      unfold jm;rw [List.filter_eq_nil_iff.2 λp _=>?_]
      ·rfl
      ·simp only [Array.getD_eq_getD_getElem?,Array.getElem?_replicate];grind
     rw [this];exact eU.drew
   ·exact hm.1.elim
  ·unfold Sx at hm;split at hm
   ·rename_i y0;obtain ⟨κ,F,eU⟩:=U;refine agE aV cz cV ay ao ops.size [] (Array.replicate ops.size false) s a _ (by simp) (λi=>?_) y0 ⟨κ,F,eU.drew⟩ λl hle=>⟨hm.1 _ (List.mem_map.2 ⟨l,hle,rfl⟩),λy aS=>hm.2 y ⟨_,List.mem_map.2 ⟨l,hle,rfl⟩,aS⟩⟩
    rw [Array.getD_eq_getD_getElem?,Array.getElem?_replicate];grind
   ·exact hm.1.elim
theorem agH {β:Type} {id:Nat} (eh:C.P.follows .mixedOrders=true) (aV:dT C.P T) (cz:jh C.P bg) (cV:lQ C.P C.aP Ψ) (ay:∀ o∈ops.toList,k_ o C.nt=true) {k:aB->A β} {O:β->Prop}
  (ao:∀ s' a' w',cu C s' a' w'->A.cv (k s') O->Q .normal a' w') {a:Act} {w:World} (U:cu C s a w) (hm:A.cv (zr C.aP T bg Ψ ops s k) O):(Code.region id ops true).wpIn (dS C.r) 0 C.P Q a w:=
 wpIn_region_any eh (TQ aV cz cV ay ao U hm)
theorem zG {ops:Array Oper} {j:Nat} {o:Oper} (h:ops[j]?=some o):(lb ops.toList).toArray[j]?=some (if j=0 then o else { o with after:=o.after.push ⟨0,.phase⟩ }):=by
 obtain ⟨l⟩:=ops;cases l with
 | nil=>simp at h
 | cons x l=>
  cases j with
  | zero=>simpa [lb] using h
  | succ j=>
   simp only [List.getElem?_toArray,List.getElem?_cons_succ] at h;simp [lb,h]
theorem L' (ops:Array Oper):(lb ops.toList).toArray.size=ops.size:=by
 obtain ⟨l⟩:=ops;cases l<;>simp [lb]
theorem agI {ops:Array Oper} {j:Nat} {hO:Oper} (h:(lb ops.toList).toArray[j]?=some hO):∃ o,ops[j]?=some o/\hO=if j=0 then o else { o with after:=o.after.push ⟨0,.phase⟩ }:=by
 have aH:j<ops.size:=by rw [<-L'];exact (Array.getElem?_eq_some_iff.1 h).1
 have:=zG (ops:=ops) (j:=j) (o:=ops[j]) (by simp [aH]);rw [h] at this;cases this;exact ⟨ops[j],by simp [aH],rfl⟩
theorem agJ (ops:Array Oper):yielded (lb ops.toList).toArray=yielded ops:=by
 funext t j;unfold yielded;cases h:ops[j]? with
 | none=>
  have:(lb ops.toList).toArray[j]?=none:=by
   rw [Array.getElem?_eq_none_iff,L'];exact Array.getElem?_eq_none_iff.1 h
  rw [this]
 | some o=>
  rw [zG h];by_cases aH:j=0
  ·rw [if_pos aH]
  ·rw [if_neg aH];rfl
theorem agK {F:Fence} {P:Program}:∀ (cd:Nat) (listed:Array Bool) (a:Act) (w:World),listed.getD 0 false=true->wpAnyIn F 0 P .any (lb ops.toList).toArray Q cd listed a w->wpAnyIn F 0 P .any ops Q cd listed a w:=by
 have oj:∀ (listed:Array Bool),listed.getD 0 false=true->∀ i,i∈Region.ready .any ops listed->i∈Region.ready .any (lb ops.toList).toArray listed:=by
  intro listed aY i M;rw [mem_ready] at M ⊢;obtain ⟨G,o,ag,V⟩:=M;refine ⟨G,_,zG ag,λe he aa=>?_⟩;split at he
  ·exact V e he aa
  ·rcases Array.mem_push.1 he with he | rfl
   ·exact V e he aa
   ·exact aY
 have agL:∀ (listed:Array Bool),Region.ready .any ops listed=[]->Region.ready .any (lb ops.toList).toArray listed=[]:=by
  intro listed h;rw [List.eq_nil_iff_forall_not_mem] at h ⊢;intro i M;refine h i ?_;rw [mem_ready] at M ⊢;obtain ⟨G,hO,ag,V⟩:=M;obtain ⟨o,j',rfl⟩:=agI ag;refine ⟨G,o,j',λe he aa=>V e ?_ aa⟩;split
  ·exact he
  ·exact Array.mem_push_of_mem _ he
 have agM:∀ (listed:Array Bool),listed.getD 0 false=true->Region.ready .any (lb ops.toList).toArray listed=[]->Region.ready .any ops listed=[]:=by
  intro listed aY h;rw [List.eq_nil_iff_forall_not_mem] at h ⊢;exact λi M=>h i (oj listed aY i M)
 intro cd;induction cd with
 | zero=>
  intro listed a w aY h;exact ⟨agM listed aY h.1,h.2⟩
 | succ cd aM=>
  intro listed a w aY h;refine ⟨λU=>h.1 (agL listed U),λi M=>?_⟩;have ao:=h.2 i (oj listed aY i M);have next:∀ a w,wpAnyIn F 0 P .any (lb ops.toList).toArray Q cd (listed.setIfInBounds i true) a w->wpAnyIn F 0 P .any ops Q cd (listed.setIfInBounds i true) a w:=λa w=>aM _ a w (getD_set_true aY)
  have ao:=wpOpIn_mono next ao
  unfold wpOpIn at ao ⊢;rw [mem_ready] at M;obtain ⟨_,o,ag,_⟩:=M;rw [ag];rw [zG ag,agJ] at ao;by_cases om:i=0
  ·rw [if_pos om] at ao;exact ao
  ·rw [if_neg om] at ao;exact ao
theorem agN {β:Type} {id:Nat} (eh:C.P.follows .mixedOrders=true) (agO:C.r=none) (aw:K' ops=true) (aV:dT C.P T) (cz:jh C.P bg) (cV:lQ C.P C.aP Ψ) (ay:∀ o∈ops.toList,k_ o C.nt=true) {k:aB->A β} {O:β->Prop}
  (ao:∀ s' a' w',cu C s' a' w'->A.cv (k s') O->Q .normal a' w') {a:Act} {w:World} (U:cu C s a w) (hm:A.cv (zr C.aP T bg Ψ (lb ops.toList).toArray s k) O):(Code.region id ops true).wpIn (dS C.r) 0 C.P Q a w:=by
 refine wpIn_mono (Q:=λe a w=>e=.normal/\Q e a w) (wpIn_region_any eh ?_) λe a w h=>h.2;have ij:=TQ (Q:=λe a w=>e=.normal/\Q e a w) (ops:=(lb ops.toList).toArray) aV cz cV (λo ag=>?_) (λs' a' w' G V=>⟨rfl,ao s' a' w' G V⟩) U hm
 ·rw [L'] at ij;have q_:(dS C.r).round=none:=by rw [agO];rfl
  unfold K' at aw;split at aw
  ·cases aw
  ·rename_i o l ak;simp only [Bool.and_eq_true,List.all_eq_true,Bool.or_eq_true] at aw;obtain ⟨G,V,ah,a7,bM⟩:=aw;have aY:ops[0]?=some o:=by rw [<-Array.getElem?_toList,ak];rfl
   obtain ⟨m,hm⟩:∃ m,ops.size=m+1:=⟨l.length,by rw [<-Array.length_toList,ak];rfl⟩
   rw [hm] at ij ⊢;have aC:o.guard=none:=by simpa using V
   have iH:∀ (ops:Array Oper),ops[0]?=some o->0∈Region.ready .any ops (Array.replicate (m+1) false):=λops h=>by
    rw [mem_ready];refine ⟨by simp,o,h,λe he=>?_⟩;rw [Array.isEmpty_iff.1 ah] at he;simp at he
   have kL:∃ x,o.op=.move x:=by
    revert G;cases o.op<;>simp
   obtain ⟨x,aj⟩:=kL;have aS:YieldsFenced C.P ops o (a.eval x) a:=⟨.inl ⟨by unfold Region.wanted;rw [aC],λw=>by simp [execOp,aj]⟩,λw=>by unfold Oper.about;rw [aj]⟩
   have gj:=ij.2 0 (iH _ (by rw [zG aY];rfl));unfold wpOpIn at gj;rw [zG aY] at gj;simp only [if_true] at gj;rw [show Region.wanted o (yielded (lb ops.toList).toArray a.tmps)=true by unfold Region.wanted;rw [aC],if_pos rfl] at gj;have gj:wpAnyIn (dS C.r) 0 C.P .any (lb ops.toList).toArray (λe a w=>e=.normal/\Q e a w) m ((Array.replicate (m+1) false).setIfInBounds 0 true) (a.put o.dst (a.eval x)) w.drew:=by
    have:=gj.2;rw [q_,Oper.semAt_none] at this;simpa [execOp,aj,Oper.uponIn] using this
   refine wpAnyIn_first q_ aY (Region.noSelect_spec a7) (λc a w h=>by cases h.1) m _ a _ (λj q7 TR agP _ he=>?_) (iH _ aY) aS (agK m _ _ _ (by simp) gj);have jL:q7∈l:=by
    rw [<-Array.getElem?_toList,ak] at TR;cases j with
    | zero=>exact absurd rfl agP
    | succ j=>exact List.mem_of_getElem? TR
   rcases bM q7 jL with h | h
   ·exfalso;have h:0∈h7 q7:=by simpa using h
    obtain ⟨e,agQ,wT⟩:=List.mem_filterMap.1 h;split at wT
    ·rename_i aa;exact he e (by simpa using agQ) aa (by simpa using wT)
    ·cases wT
   ·exact h
 ·have ag:o∈(lb ops.toList):=by simpa using ag
  obtain ⟨ol⟩:=ops;cases ol with
  | nil=>cases ag
  | cons x l=>
   rcases List.mem_cons.1 ag with rfl | ag
   ·exact ay _ (by simp)
   ·obtain ⟨p,ar,rfl⟩:=List.mem_map.1 ag;have:=ay p (by simp [ar]);exact this
end
end Go.Fer
namespace Go.Fer
open Go.RowKit
theorem gz {β:Type} {O:β->Prop} (h:A.cv (A.fail:A β) O):False:=h.1
theorem tO {β:Type} {sh:dH} {s:aB} {k:sh.ai->A β} {O:β->Prop} (h:A.cv (sh.mR s k) O):∃ D,sh.iX s=some D/\A.cv (k D) O:=by
 unfold dH.mR at h;split at h
 ·grind
 ·exact (gz h).elim
def oz (B:Nat):Deferred:={ target:=.collected B,args:=#[] }
structure nQ where
 w:World
 K:Nat->Prop
 ms:List Nat
def b8.hh (C:b8) (u:nQ):b8:={ C with w0:=u.w,K0:=u.K,dfr:=u.ms.map oz++C.dfr }
structure b8.jM (C:b8) (u:nQ):Prop where
 se:∀ B∈u.ms,u.K B/\u.w.heap[B]?=some (.deferred (some []))
 ew:∀ B∈u.ms,¬C.K0 B/\C.w0.heap.size<=B
 mj:u.ms.Nodup
 hi:∀ r,C.K0 r->u.K r
 eD:∀ r,C.K0 r->u.w.heap[r]?=C.w0.heap[r]?
 size:C.w0.heap.size<=u.w.heap.size
 en:da C.w0 u.w
def b8.hC (C:b8):nQ:=⟨C.w0,C.K0,[]⟩
theorem b8.vc (C:b8):C.jM C.hC:=⟨λ_ h=>by simp [b8.hC] at h,λ_ h=>by simp [b8.hC] at h,List.nodup_nil,λ_ h=>h,λ_ _=>rfl,Nat.le_refl _,da.refl _⟩
def nQ.then (u v:nQ):nQ:=⟨v.w,v.K,v.ms++u.ms⟩
theorem b8.zH (C:b8) (u v:nQ):(C.hh u).hh v=C.hh (u.then v):=by
 simp [b8.hh,nQ.then]
theorem b8.jM.then {C:b8} {u v:nQ} (h:C.jM u) (k:(C.hh u).jM v):C.jM (u.then v) where
 se:=λB aT=>by
  rcases List.mem_append.1 aT with aT | aT
  ·exact k.se B aT
  ·obtain ⟨G,V⟩:=h.se B aT;exact ⟨k.hi B G,(k.eD B G).trans V⟩
 ew:=λB aT=>by
  rcases List.mem_append.1 aT with aT | aT
  ·obtain ⟨G,V⟩:=k.ew B aT;exact ⟨λah=>G (h.hi B ah),Nat.le_trans h.size V⟩
  ·exact h.ew B aT
 mj:=List.nodup_append.2 ⟨k.mj,h.mj,λa ba b aa e=>(k.ew a ba).1 (e ▸ (h.se b aa).1)⟩
 hi:=λr U=>k.hi r (h.hi r U)
 eD:=λr U=>(k.eD r (h.hi r U)).trans (h.eD r U)
 size:=Nat.le_trans h.size k.size
 en:=h.en.trans k.en
theorem bm.TS {C:b8} {s:aB} {a:Act} {w:World} {κ:Nat->bD} {F F':Nat->Prop} (h:bm C s a w κ F) {w0 w':World} {F0 K0:Nat->Prop} {nt:Nat} {dfr:List Deferred} {r:Option Nat} {sl:Nat->aI} {a':Act}
    (Ma:a'.tmps.size=nt) (Mb:a'.defers=dfr) (ra:nt<=eP) (fi:∀ i,bA C.P s.ab κ F w (sl i) (a'.tmps.getD i undef)) (pa:∀ l aN L n st,sl b5≠.aW l aN L n st)
    (heq:∀ r,F r\/(∃ b,(s.ab b).body.b1 (κ b)=true/\(κ b).ab=r)->w'.heap[r]?=w.heap[r]?) (cb:w.heap.size<=w'.heap.size)
    (bo:∀ r,F r->F' r) (je:∀ r,F' r->r<w'.heap.size) (C2:∀ b,(s.ab b).body.b1 (κ b)=true->¬F' (κ b).ab)
    (Mc:∀ r,F' r->F0 r\/¬K0 r) (Md:∀ r,F0 r->F' r) (C3:∀ r,K0 r->r<w0.heap.size) (tP:∀ r,K0 r->w'.heap[r]?=w0.heap[r]?) (gb:∀ b,(s.ab b).body.b1 (κ b)=true->¬K0 (κ b).ab)
    (mU:w0.heap.size<=w'.heap.size) (hc:da w0 w') :
    bm { C with w0:=w0,F0:=F0,K0:=K0,nt:=nt,dfr:=dfr,r:=r } ⟨sl,s.ab⟩ a' w' κ F':=by
  have he:cZ F w w':=⟨cb,λr U=>heq r (.inl U)⟩
  exact {
          dF:=Ma,dfr:=Mb,bT:=λi=>bA.later (fm.refl _ _) bo he (fi i)
          bE:=λb=>cB.k3 (h.bE b) (fm.refl _ _) bo he rfl rfl λag=>heq _ (.inr ⟨b,ag,rfl⟩)
          an:=λb aa=>⟨Nat.lt_of_lt_of_le (h.an b aa).1 cb,C2 b aa,gb b aa⟩,inj:=h.inj,c_:=je
          ha:=Mc,hN:=Md,hq:=C3,eD:=tP,size:=mU,en:=hc,ga:=ra,kk:=h.kk,jA:=h.jA,j1:=h.j1,kl:=h.kl,eK:=λl aN L n st e=>(pa l aN L n st e).elim,jB:=h.jB,iv:=h.iv.mono bo he }
theorem bm.vd {C:b8} {s:aB} {a:Act} {w:World} {κ:Nat->bD} {F:Nat->Prop} (h:bm C s a w κ F) {w0 w':World} {F0 K0:Nat->Prop} {nt:Nat} {dfr:List Deferred} {r:Option Nat} {sl:Nat->aI} {a':Act}
  (Ma:a'.tmps.size=nt) (Mb:a'.defers=dfr) (ra:nt<=eP) (fi:∀ i,bA C.P s.ab κ F w (sl i) (a'.tmps.getD i undef)) (pa:∀ l aN L n st,sl b5≠.aW l aN L n st)
  (heq:∀ r,F r\/(∃ b,(s.ab b).body.b1 (κ b)=true/\(κ b).ab=r)->w'.heap[r]?=w.heap[r]?) (cb:w.heap.size<=w'.heap.size)
  (Mc:∀ r,F r->F0 r\/¬K0 r) (Md:∀ r,F0 r->F r) (C3:∀ r,K0 r->r<w0.heap.size) (tP:∀ r,K0 r->w'.heap[r]?=w0.heap[r]?) (gb:∀ b,(s.ab b).body.b1 (κ b)=true->¬K0 (κ b).ab)
  (mU:w0.heap.size<=w'.heap.size) (hc:da w0 w') :
  bm { C with w0:=w0,F0:=F0,K0:=K0,nt:=nt,dfr:=dfr,r:=r } ⟨sl,s.ab⟩ a' w' κ F:=
 h.TS Ma Mb ra fi pa heq cb (λ_ h=>h) (λr U=>Nat.lt_of_lt_of_le (h.c_ r U) cb) (λb aa=>(h.an b aa).2.1) Mc Md C3 tP gb mU hc
theorem bm.GB {C:b8} {s:aB} {a:Act} {w:World} {κ:Nat->bD} {F:Nat->Prop} (h:bm C s a w κ F) {w0 w':World} {K0:Nat->Prop} {r:Option Nat}
    (iF:∀ r,K0 r->C.K0 r) (heq:∀ r,F r\/¬C.K0 r->w'.heap[r]?=w.heap[r]?) (cb:w.heap.size<=w'.heap.size) (xu:da w w')
    (C3:∀ r,K0 r->r<w0.heap.size) (tP:∀ r,K0 r->w'.heap[r]?=w0.heap[r]?) (mU:w0.heap.size<=w'.heap.size) (hc:da w0 w') :
    bm { C with w0:=w0,K0:=K0,r:=r } s a w' κ F:=by
  have he:cZ F w w':=⟨cb,λr U=>heq r (.inl U)⟩
  have je:∀ r,F r->r<w'.heap.size:=λr U=>Nat.lt_of_lt_of_le (h.c_ r U) cb;exact {
          dF:=h.dF,dfr:=h.dfr,bT:=λi=>bA.later (fm.refl _ _) (λ_ h=>h) he (h.bT i)
          bE:=λb=>cB.k3 (h.bE b) (fm.refl _ _) (λ_ h=>h) he rfl rfl λag=>heq _ (.inr (h.an b ag).2.2)
          an:=λb aa=>⟨Nat.lt_of_lt_of_le (h.an b aa).1 cb,(h.an b aa).2.1,λk=>(h.an b aa).2.2 (iF _ k)⟩,inj:=h.inj,c_:=je
          ha:=λr U=>(h.ha r U).imp id λk k'=>k (iF r k'),hN:=h.hN,hq:=C3,eD:=tP,size:=mU,en:=hc,ga:=h.ga,kk:=h.kk,jA:=h.jA,j1:=h.j1,kl:=h.kl
          eK:=λl aN L n st e=>by
            obtain ⟨G,V,Y,ah,a7,bM⟩:=h.eK l aN L n st e;exact ⟨G,V,Y,λr U=>⟨Nat.lt_of_lt_of_le (ah r U).1 cb,(ah r U).2.1,λk=>(ah r U).2.2 (iF r k)⟩,a7,V.JB bM (λ_ h=>h) (λr U=>heq r (U.imp id λaS=>(ah r aS).2.2)) cb xu je λr aw aS=>(ah r aS).2.1 aw⟩
          jB:=h.jB,iv:=h.iv.mono (λ_ h=>h) he }
theorem TT {P:Program} {H:Nat->bL} {κ:Nat->bD} {F:Nat->Prop} {w:World} {aN:ad} {x:aN.ai}:∀ (ps:List Tmp) (args:List Value) (j:Nat) (f:Nat->aI) (ox:Array Value),ps.length=args.length->(∀ p∈ps,p<ox.size)->
  (∀ i,bA P H κ F w (f i) (ox.getD i undef))->(∀ i,i<args.length->bA P H κ F w (kp aN x (j+i)) (args.getD i undef))->
  ∀ i,bA P H κ F w (zt aN x ps j f i) (((ps.zip args).foldl (λtmps p=>tmps.setIfInBounds p.1 p.2) ox).getD i undef)
 | [],[],_,_,_,_,_,aw,_,i=>aw i
 | p::ps,v::args,j,f,ox,ak,ar,aw,af,i=>by
  simp only [zt,List.zip_cons_cons,List.foldl_cons];refine TT ps args (j+1) _ _ (by grind) (λq br=>by grind) (λi=>?_) (λi M=>?_) i
  ·rw [Array.getD_eq_getD_getElem?,Array.getElem?_setIfInBounds];by_cases e:i=p
   ·grind
   ·rw [if_neg e,if_neg (Ne.symm e)];simp_all
  ·have:=af (i+1) (by grind);grind
theorem agR {ps:List Tmp} {args:List Value}:∀ {ox:Array Value},((ps.zip args).foldl (λtmps p=>tmps.setIfInBounds p.1 p.2) ox).size=ox.size:=by
 generalize ps.zip args=l;induction l with
 | nil=>simp
 | cons p l aM=>grind
end Go.Fer
namespace Go.Fer
open Go.RowKit
def sf:dd->Option Code
 | .normal=>none
 | .exit id=>some (.exit id)
 | .ret=>some .ret
def e8 (fn:FuncId) (ox:Array Value) (ps:Array Tmp) (assign body:Code) (B:Nat) (st:LoopState) (e:dd):Loop:=
 { state:=st,pending:=sf e,fn:=fn,tmps:=ox,params:=ps,assign:=assign,body:=body,defers:=B }
def GC (P:Program) (aP:dE) (nt:Nat) (assign body:Code) (l:Nat) {rout:dH} (run:aB->A (dd×rout.ai)):Prop:=
 ∀ (C1:b8),C1.P=P->C1.aP=aP->C1.nt=nt->C1.r=some l->∀ (eE:aB) (ca:Act) (cj:World) (qg:dd×rout.ai->Prop),cu C1 eE ca cj->A.cv (run eE) qg->
  assign.wpIn (dS (some l)) 0 P (Exit.then (λa2 c6=>∃ u dO,C1.jM u/\cu (C1.hh u) dO a2 c6/\
   ∀ (hs:b8),hs.P=P->hs.aP=aP->hs.nt=nt->hs.r=some l->∀ (c6:World),cu hs dO a2 c6->
    body.wpIn (dS (some l)) 0 P (λe a3 eV=>∃ (a8:dd) (v:nQ) (eH:aB) (bn:rout.ai),e=a8.pg/\hs.jM v/\cu (hs.hh v) eH a3 eV/\rout.iX eH=some bn/\qg (a8,bn)) a2 c6) (λ_ _ _=>False)) ca cj
theorem agS {ts:List (Nat×bX)} {R:Type} (h:ts.isEmpty=true) (g:Nat->Nat×Nat) (z:oo ts R) (i:Nat):fo (eA g ts z).1 i=.undef:=by
 cases ts with
 | nil=>rfl
 | cons p ts=>cases h
theorem agT {P:Program} {l:Nat} {R:Ending->World->Prop} {e:dd} {a:Act} {w:World} {r:Loop} (h:w.heap[l]?=some (.loop r))
  (jN:R (.returned (.bool (sf e).isNone)) (w.putObj l (.loop { r with state:=if (sf e).isNone then .ready else .done,pending:=sf e }))):roundPost P l R e.pg a w:=by
 cases e with
 | normal=>exact ⟨_,_,run_endRound none h,jN⟩
 | exit id=>exact ⟨_,_,run_endRound (some (.exit id)) h,jN⟩
 | ret=>exact ⟨_,_,run_endRound (some .ret) h,jN⟩
theorem agU {CI:b8} {sh rin rout:dH} {aN:ad} {ps:Array Tmp} {assign body:Code} {a:Act} {ax:World} {κ:Nat->bD} {F:Nat->Prop} {D:sh.ai} {fn:FuncId} {l B:Nat} {x:aN.ai} {args:List Value} {run:aB->A (dd×rout.ai)}
  {Or:dd×sh.ai->Prop} {Y Z:Nat->Prop} (agV:Z l)
  (U:bm CI (sh.st D) a ax κ F) (eb:nN sh rout aN ps.toList a.tmps.size=true) (C4:GC CI.P CI.aP a.tmps.size assign body l run) (hm:A.cv (tG sh rin rout aN ps.toList D x run) Or)
  (ak:ax.heap[l]?=some (.loop (e8 fn a.tmps ps assign body B .ready .normal))) (agW:¬F l) (rU:∀ b,((sh.st D).ab b).body.b1 (κ b)=true->Y (κ b).ab/\¬Z (κ b).ab) (dY:fl CI.P aN F ax args x) :
  ∃ tmps,(Instr.yield l args.toArray).run CI.P ax=.ok (.round l fn tmps assign body) ax/\RoundIn Fence.wide 0 CI.P l fn tmps assign body ax λe qh=>
   ∃ (cX:dd) (iD:sh.ai) (κ':Nat->bD) (F':Nat->Prop) (o:Obj),e=.returned (.bool (sf cX).isNone)/\Or (cX,iD)/\qh.heap[l]?=some (.loop (e8 fn a.tmps ps assign body B (if (sf cX).isNone then .ready else .done) cX))/\
    bm { CI with w0:=ax.putObj l o,F0:=F,K0:=λr=>r<ax.heap.size/\(Z r\/¬Y r) } (sh.st iD) a qh κ' F':=by
 simp only [nN,Bool.and_eq_true,decide_eq_true_eq,Bool.not_eq_true',List.all_eq_true] at eb;obtain ⟨⟨⟨⟨aU,aX⟩,bP⟩,gx⟩,o'⟩:=eb;have zI:l<ax.heap.size:=(Array.getElem?_eq_some_iff.1 ak).1;obtain ⟨iw,GD⟩:=tr (H:=(sh.st D).ab) (κ:=κ) aN dY bP;have pa:(sh.st D).az b5=.undef:=xh sh.bT c7 D b5 aX;have Fa:(Array.zip ps args.toArray).foldl (λtmps (x:Tmp×Value)=>match x with | (t,a)=>tmps.setIfInBounds t a) a.tmps=(ps.toList.zip args).foldl (λtmps p=>tmps.setIfInBounds p.1 p.2) a.tmps:=by
  rw [<-Array.foldl_toList];simp
 refine ⟨(ps.toList.zip args).foldl (λtmps p=>tmps.setIfInBounds p.1 p.2) a.tmps,?_,?_⟩
 ·rw [<-Fa];exact run_yield ak (by show args.toArray.size=ps.size;grind)
 have agX:bm { CI with w0:=ax,F0:=F,K0:=λr=>r<ax.heap.size/\(Z r\/¬Y r) } (sh.st D) a ax κ F:=
  U.vd U.dF U.dfr U.ga U.bT (λl aN L n st e=>by have e:(sh.st D).az b5=.aW l aN L n st:=e;grind) (λ_ _=>rfl) (Nat.le_refl _) (λ_ h=>.inl h) (λ_ h=>h) (λ_ h=>h.1) (λ_ _=>rfl)
   (λb aa h=>h.2.elim (rU b aa).2 λh=>h (rU b aa).1) (Nat.le_refl _) (da.refl _)
 unfold tG at hm;split at hm
 ·rename_i aK bW agY;split at hm
  ·rename_i cH;rw [A.fT] at hm;have gH:bm { CI with w0:=ax,F0:=F,K0:=λr=>r<ax.heap.size/\(Z r\/¬Y r),nt:=a.tmps.size,dfr:=[],r:=none } ⟨(xb (sh.st D) aN x ps.toList).az,(sh.st D).ab⟩ { tmps:=(ps.toList.zip args).foldl (λtmps p=>tmps.setIfInBounds p.1 p.2) a.tmps,defers:=[] } ax κ F:=by
    refine U.vd agR rfl (by rw [U.dF];exact U.ga) (λi=>?_) (λdG kv e2 iT il e=>?_) (λ_ _=>rfl) (Nat.le_refl _) (λ_ h=>.inl h) (λ_ h=>h) (λ_ h=>h.1) (λ_ _=>rfl)
     (λb aa h=>h.2.elim (rU b aa).2 λh=>h (rU b aa).1) (Nat.le_refl _) (da.refl _)
    ·show bA CI.P (sh.st D).ab κ F ax (if i=b5 then (sh.st D).az b5 else zt aN x ps.toList 0 (sh.st D).az i) _;split
     ·rw [pa];trivial
     ·exact TT ps.toList args 0 _ _ (by omega) (λp ar=>by grind) U.bT (λi M=>by grind) i
    ·have e:(if b5=b5 then (sh.st D).az b5 else zt aN x ps.toList 0 (sh.st D).az b5)=.aW dG kv e2 iT il:=e;grind
   obtain ⟨F',an,gr,ib,f1,bd,gb,C5,aw2,CE,LG⟩:=S4 (c:=u5 rin rout) agX gH (by rfl) agY rfl cH;have Me:l<ax.heap.size/\(Z l\/¬Y l):=⟨zI,.inl agV⟩
   have TU:¬F' l:=λh=>(bd.ha l h).elim agW λh=>h Me;have agZ:¬an l:=λh=>by
    obtain ⟨b,G,V⟩:=gb l h;exact (bd.an b G).2.2 (V ▸ Me)
   have ag0:¬gr l:=λh=>(C5.low l h).2.2 Me;have TV:l<ax.heap.size/\¬an l/\¬gr l:=⟨zI,agZ,ag0⟩
   have GF:bm { q5 CI ax F' a.tmps.size an gr ib with r:=some l } (rin.st aK) _ ax _ F':=CE.GB (w0:=ax) (w':=ax) (K0:=λr=>r<ax.heap.size/\¬an r/\¬gr r) (r:=some l) (λ_ h=>h) (λ_ _=>rfl) (Nat.le_refl _) (da.refl _) (λ_ h=>h.1) (λ_ _=>rfl) (Nat.le_refl _) (da.refl _);refine roundIn_of_wpIn trivial ?_;refine wpIn_mono (C4 { q5 CI ax F' a.tmps.size an gr ib with r:=some l } rfl rfl rfl rfl (rin.st aK) _ ax _ ⟨_,_,GF⟩ hm) λe a2 c6 br=>?_;cases e with
   | normal=>
    obtain ⟨u,dO,hu,⟨mT,eg,cI⟩,bS⟩:=br;have sg:u.K l:=hu.hi l TV;have gh:c6.heap[l]?=some (.loop (e8 fn a.tmps ps assign body B .ready .normal)):=(cI.eD l sg).trans ((hu.eD l TV).trans ak);refine ⟨_,run_beginRound gh rfl,?_⟩;have ag1:l<c6.heap.size:=(Array.getElem?_eq_some_iff.1 gh).1;have ag2:¬eg l:=λh=>(cI.ha l h).elim TU λh=>h sg;have oA:=cI.GB (w0:=c6.putObj l (.loop (e8 fn a.tmps ps assign body B .busy .normal))) (w':=c6.putObj l (.loop (e8 fn a.tmps ps assign body B .busy .normal))) (K0:=u.K) (r:=some l) (λ_ h=>h)
     (λr h=>World.putObj_heap_other λe=>by
      subst e;exact h.elim ag2 λh=>h sg) (by simp) ⟨rfl,rfl,rfl⟩ (λr h=>by
       have:=cI.hq r h;have:=cI.size;simp;omega) (λ_ _=>rfl) (Nat.le_refl _) (da.refl _)
    refine wpIn_mono (bS { ({ q5 CI ax F' a.tmps.size an gr ib with r:=some l }:b8).hh u with w0:=c6.putObj l (.loop (e8 fn a.tmps ps assign body B .busy .normal)),K0:=u.K,r:=some l } rfl rfl rfl rfl _ ⟨mT,eg,oA⟩) λe a3 eV ⟨a8,v,eH,bn,he,af,⟨GG,TW,ml⟩,fW,GH⟩=>?_;subst he;obtain ⟨GG,TX,f4,oB⟩:=dH.zv fW ml;have wN:v.K l:=af.hi l sg;have GI:eV.heap[l]?=some (.loop (e8 fn a.tmps ps assign body B .busy .normal)):=(oB.eD l wN).trans ((af.eD l sg).trans (World.putObj_heap_same ag1));have TY:l<eV.heap.size:=(Array.getElem?_eq_some_iff.1 GI).1;have aw3:¬TX l:=λh=>(oB.ha l h).elim TU λh=>h wN;generalize gj:(if (sf a8).isNone then LoopState.ready else .done)=il;refine agT GI ?_;rw [gj];have mg:bm { CI with w0:=ax.putObj l (.loop (e8 fn a.tmps ps assign body B il a8)),F0:=F,K0:=λr=>r<ax.heap.size/\(Z r\/¬Y r) } ((sh.st D).cy bW) a (ax.putObj l (.loop (e8 fn a.tmps ps assign body B il a8))) κ F':=
     bd.GB (λ_ h=>h) (λr h=>World.putObj_heap_other λe=>by
      grind) (by simp) ⟨rfl,rfl,rfl⟩ (λr h=>by simpa using h.1) (λ_ _=>rfl) (Nat.le_refl _) (da.refl _)
    have zA:ax.heap.size<=eV.heap.size:=by
     have G:=hu.size;have V:=cI.size;have ah:=af.size;have a7:=oB.size;have G:ax.heap.size<=u.w.heap.size:=G;have V:u.w.heap.size<=c6.heap.size:=V;have ah:(c6.putObj l (.loop (e8 fn a.tmps ps assign body B .busy .normal))).heap.size<=v.w.heap.size:=ah;have a7:v.w.heap.size<=eV.heap.size:=a7;simp only [World.putObj_size] at ah;omega
    have xv:da ax eV:=by
     have G:da ax u.w:=hu.en;have V:da u.w c6:=cI.en;have ah:da c6 v.w:=⟨af.en.os,af.en.tape,af.en.output⟩
     exact G.trans (V.trans (ah.trans oB.en))
    have ag3:∀ i,(rout.st bn).az i=.undef:=λi=>agS aU c7 bn i;have lN:∀ r,(r<(ax.putObj l (.loop (e8 fn a.tmps ps assign body B il a8))).heap.size/\¬an r/\¬gr r)->(r<ax.heap.size/\¬an r/\¬gr r):=λr h=>⟨by simpa using h.1,h.2⟩
    have hG:=oB.vd (w0:=ax.putObj l (.loop (e8 fn a.tmps ps assign body B il a8))) (w':=eV.putObj l (.loop (e8 fn a.tmps ps assign body B il a8))) (F0:=F') (K0:=λr=>r<(ax.putObj l (.loop (e8 fn a.tmps ps assign body B il a8))).heap.size/\¬an r/\¬gr r) (nt:=0) (dfr:=[]) (r:=none) (sl:=(rout.st bn).az) (a':={ tmps:=#[],defers:=[] }) rfl rfl (Nat.zero_le _)
     (λi=>by rw [ag3];trivial) (λl aN L n st e=>by grind)
     (λr h=>World.putObj_heap_other λe=>by
      subst e;rcases h with h | ⟨b,G,V⟩
      ·grind
      ·exact (oB.an b G).2.2 (V ▸ wN)) (by simp) (λr h=>(oB.ha r h).imp id λh ds=>h (af.hi r (hu.hi r (lN r ds)))) oB.hN (λr h=>h.1)
     (λr h=>by
      by_cases e:r=l
      ·subst e;rw [World.putObj_heap_same TY,World.putObj_heap_same zI]
      ·rw [World.putObj_heap_other e,World.putObj_heap_other e];have G:u.K r:=hu.hi r (lN r h);exact (oB.eD r (af.hi r G)).trans ((af.eD r G).trans ((World.putObj_heap_other e).trans ((cI.eD r G).trans (hu.eD r (lN r h))))))
     (λb aa h=>(oB.an b aa).2.2 (af.hi _ (hu.hi _ (lN _ h)))) (by simpa using zA) ⟨xv.os,xv.tape,xv.output⟩
    obtain ⟨κn,nP,_⟩:=LG (ax.putObj l (.loop (e8 fn a.tmps ps assign body B il a8))) (ax.putObj l (.loop (e8 fn a.tmps ps assign body B il a8))) mg ⟨λdG kv e2 iT il e=>(by
      grind),λr h=>⟨by simpa using (C5.low r h).1,(C5.low r h).2⟩,C5.an,C5.F9⟩ bn [] (eV.putObj l (.loop (e8 fn a.tmps ps assign body B il a8))) GG TX hG
    obtain ⟨iD,Mf,ag4⟩:=tO GH;obtain ⟨κn,ag5,_,ag6⟩:=dH.zv Mf nP;exact ⟨a8,iD,κn,ag5,(.loop (e8 fn a.tmps ps assign body B il a8)),rfl,A.ea.1 ag4,by rw [gj];exact World.putObj_heap_same TY,ag6⟩
   | _=>exact br.elim
  ·exact hm.1.elim
 ·exact hm.1.elim
theorem TZ {w:World} {o hP:Obj} {r:Nat} (h:r<w.heap.size):((w.alloc o).alloc hP).heap[r]?=w.heap[r]?:=
 (o1 _ _ (by simp;omega)).trans (o1 _ _ h)
def ag7 (C CI:b8) {β:Type} (sh rin rout:dH) (aN:ad) (au:List aN.ai->Prop) (ps:Array Tmp) (assign body:Code) (a:Act) (fn:FuncId) (l B:Nat) (run:aB->A (dd×rout.ai)) (k:dd->aB->A β) (O:β->Prop)
  (st:Bool) (F Y:Nat->Prop) (ax:World):Prop:=
 ∃ (e:dd) (D:sh.ai) (κ:Nat->bD),bm CI (sh.st D) a ax κ F/\ax.heap[l]?=some (.loop (e8 fn a.tmps ps assign body B (if st then .done else .ready) e))/\ax.heap[B]?=some (.deferred (some []))/\
  (∀ b,((sh.st D).ab b).body.b1 (κ b)=true->Y (κ b).ab/\¬((κ b).ab=l\/(κ b).ab=B))/\Y l/\Y B/\¬F l/\¬F B/\C.P=CI.P/\
  (st=false->e=.normal/\∀ R,au R->A.cv (jK (λD y=>tG sh rin rout aN ps.toList D y run) R D) λp=>A.cv (k p.1 (sh.st p.2)) O)/\(st=true->e≠.normal/\A.cv (k e (sh.st D)) O)
theorem T0 {C CI:b8} {β:Type} {sh rin rout:dH} {aN:ad} {S:List aN.ai->Prop} {ps:Array Tmp} {assign body:Code} {a:Act} {fn:FuncId} {l B:Nat} {run:aB->A (dd×rout.ai)} {k:dd->aB->A β} {O:β->Prop}
  (iF:CI.K0=λ_=>False) (ag8:l≠B) (eb:nN sh rout aN ps.toList a.tmps.size=true) (C4:GC CI.P CI.aP a.tmps.size assign body l run) :
  EN CI.P (fl CI.P aN) l S λpre=>ag7 C CI sh rin rout aN (λR=>S (pre++R)) ps assign body a fn l B run k O where
 Bo:=λ{pre st F F' Y w w'} h bo heq cb jH je C2=>by
  have hc:da w w':=⟨jH.1,jH.2.1,jH.2.2⟩
  obtain ⟨e,D,κ,U,G,V,ah,a7,bM,dr,fY,jb,pT⟩:=h;have pa:(sh.st D).az b5=.undef:=by
   simp only [nN,Bool.and_eq_true,Bool.not_eq_true'] at eb;exact xh sh.bT c7 D b5 eb.1.1.1.2
  have tQ:∀ r,CI.K0 r->False:=λr h=>by grind
  refine ⟨e,D,κ,?_,(heq l (.inr a7)).trans G,(heq B (.inr bM)).trans V,ah,a7,bM,λh=>C2 l h a7,λh=>C2 B h bM,jb,pT⟩;exact U.TS U.dF U.dfr U.ga U.bT (λdG kv e2 iT il e=>by have e:(sh.st D).az b5=.aW dG kv e2 iT il:=e;grind)
   (λr bd=>heq r (bd.imp id λ⟨b,aa,e⟩=>e ▸ (ah b aa).1)) cb bo je (λb aa aw=>C2 _ aw (ah b aa).1) (λr _=>.inr (tQ r)) (λr h=>bo r (U.hN r h)) (λr h=>(tQ r h).elim) (λr h=>(tQ r h).elim) (λb _=>tQ _)
   (Nat.le_trans U.size cb) (U.en.trans hc)
 yield:=λ{pre F Y w args x} h je T1 aj dY=>by
  obtain ⟨Mg,Mh⟩:=aj;obtain ⟨e,D,κ,U,G,V,ah,a7,bM,dr,fY,jb,pT,_⟩:=h;obtain ⟨rfl,hm⟩:=pT rfl;have pa:∀ D:sh.ai,(sh.st D).az b5=.undef:=λD=>by
   simp only [nN,Bool.and_eq_true,Bool.not_eq_true'] at eb;exact xh sh.bT c7 D b5 eb.1.1.1.2
  have tQ:∀ r,CI.K0 r->False:=λr h=>by grind
  have hm:A.cv (tG sh rin rout aN ps.toList D x run) λp=>∀ T,S (pre++x::T)->A.cv (match p.1 with
    | .normal=>jK (λD y=>tG sh rin rout aN ps.toList D y run) T p.2
    | .exit id=>A.pure (.exit id,p.2)
    | .ret=>A.pure (.ret,p.2)) λp=>A.cv (k p.1 (sh.st p.2)) O:=by
   have G:=λT aV=>A.fT.1 (hm (x::T) aV);exact ⟨(G Mg Mh).1,λy aS T aV=>(G T aV).2 y aS⟩
  obtain ⟨tmps,aS,ag9⟩:=agU (Z:=λr=>r=l\/r=B) (.inl rfl) U eb C4 hm G dr ah dY;refine ⟨fn,tmps,assign,body,aS,ag9.mono λa8 qh ⟨cX,iD,κ',F',o,he,GH,GJ,bd⟩=>?_⟩;have zI:l<w.heap.size:=(T1 l a7).1;have Mi:B<w.heap.size:=(T1 B bM).1;have g1:∀ r,F r->F' r:=bd.hN;have eo:∀ r,F' r->F r\/Y r\/w.heap.size<=r:=λr cI=>by
   rcases bd.ha r cI with h | h
   ·exact .inl h
   ·by_cases ch:r<w.heap.size
    ·by_cases aS:Y r
     ·exact .inr (.inl aS)
     ·exact (h ⟨ch,.inr aS⟩).elim
    ·exact .inr (.inr (Nat.le_of_not_lt ch))
  have T2:∀ r,r<w.heap.size->¬F r->(r=l\/r=B)->¬F' r:=λr ch aw bl q8=>(bd.ha r q8).elim aw λh=>h ⟨ch,.inl bl⟩;have T3:¬F' l:=T2 l zI dr (.inl rfl);have va:¬F' B:=T2 B Mi fY (.inr rfl);have T4:∀ b,((sh.st iD).ab b).body.b1 (κ' b)=true->¬((κ' b).ab=l\/(κ' b).ab=B)/\(Y (κ' b).ab\/w.heap.size<=(κ' b).ab):=λb aa=>by
   have ao:=(bd.an b aa).2.2;grind
  have GK:w.heap.size<=qh.heap.size:=by have:=bd.size;simpa using this
  have gc:da w qh:=⟨bd.en.os,bd.en.tape,bd.en.output⟩
  have aw4:∀ T,pre++[x]++T=pre++x::T:=λT=>by simp
  refine ⟨(sf cX).isNone,F',λr=>(∃ b,((sh.st iD).ab b).body.b1 (κ' b)=true/\(κ' b).ab=r)\/r=l\/r=B,he,g1,eo,bd.c_,λr ch aS=>?_,λr cI=>?_,GK,⟨gc.os,gc.tape,gc.output⟩,?_⟩
  ·have ez:r≠l:=λe=>aS (e ▸ a7);exact (bd.eD r ⟨ch,.inr aS⟩).trans (World.putObj_heap_other ez)
  ·rcases cI with ⟨b,aa,rfl⟩ | rfl | rfl
   ·exact ⟨(T4 b aa).2,(bd.an b aa).1,(bd.an b aa).2.1⟩
   ·exact ⟨.inl a7,Nat.lt_of_lt_of_le zI GK,T3⟩
   ·exact ⟨.inl bM,Nat.lt_of_lt_of_le Mi GK,va⟩
  ·refine ⟨cX,iD,κ',?_,?_,?_,λb aa=>⟨.inl ⟨b,aa,rfl⟩,(T4 b aa).1⟩,.inr (.inl rfl),.inr (.inr rfl),T3,va,jb,λgj=>?_,λgj=>?_⟩
   ·exact bd.vd bd.dF bd.dfr bd.ga bd.bT (λdG kv e2 iT il e=>by have e:(sh.st iD).az b5=.aW dG kv e2 iT il:=e;grind) (λ_ _=>rfl) (Nat.le_refl _) (λr _=>.inr (tQ r)) (λr h=>g1 r (U.hN r h))
     (λr h=>(tQ r h).elim) (λr h=>(tQ r h).elim) (λb _=>tQ _) (Nat.le_trans U.size GK) (U.en.trans gc)
   ·grind
   ·exact (bd.eD B ⟨Mi,.inl (.inr rfl)⟩).trans ((World.putObj_heap_other (Ne.symm ag8)).trans V)
   ·cases cX with
    | normal=>grind
    | _=>cases gj
   ·cases cX with
    | normal=>cases gj
    | exit id=>exact ⟨by simp,(GH Mg Mh).2 _ rfl⟩
    | ret=>exact ⟨by simp,(GH Mg Mh).2 _ rfl⟩
theorem T5 {P:Program} {l:Nat} {aN:ad} {S:List aN.ai->Prop} {I:List aN.ai->Bool->(Nat->Prop)->(Nat->Prop)->World->Prop} (h:EN P (fl P aN) l S I):lB.hy P ⟨l,aN,S,I⟩ where
 Bo:=λG V ah a7 bM dr fY=>h.Bo G V ah a7 ⟨bM.os,bM.tape,bM.output⟩ dr fY
 yield:=λG V ah a7 bM=>YieldAt.mono (h.yield G V ah a7 bM) λ_ _ ⟨b,F',gr,aU,aX,bP,gx,o',xi,GL,C6,Mj⟩=>⟨b,F',gr,aU,aX,bP,gx,o',xi,GL,⟨C6.1,C6.2.1,C6.2.2⟩,Mj⟩
end Go.Fer
