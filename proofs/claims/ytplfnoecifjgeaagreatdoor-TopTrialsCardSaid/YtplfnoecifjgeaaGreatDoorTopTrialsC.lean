/- Part 3 of the proof of TopTrials: shallow programs of Go functions, and what they compute. No condition. -/
import Derived.Test.YtplfnoecifjgeaaGreatDoorTopTrialsB
import Derived.RangeFuncIn
import Derived.RangeFuncRecord
import Derived.RangeFuncBound
noncomputable section
set_option linter.unusedVariables false
set_option linter.unusedSimpArgs false
namespace Go.Fer
open Go.RowKit
def oC(x y:bQ):Prop:=(y.fJ=true->x.fJ=true)/\(y.fg=true->x.fg=true/\y.len=x.len/\y.e2=x.e2)/\(y.gV=true->x.gV=true)/\(y.mL=true->x.mL=true)/\∀ k,y.bZ k=true->x.bZ k=true
theorem oC.refl(x:bQ):oC x x:=⟨id,λh=>⟨h,rfl,rfl⟩,id,id,λ_=>id⟩
theorem oC.fy(x:bQ):oC x .fy:=⟨λh=>(by cases h),λh=>(by cases h),λh=>(by cases h),λh=>(by cases h),λ_ h=>(by cases h)⟩
def sr(f:Nat->Nat)(H H':Nat->bJ):Prop:=∀ b,(H' b).gen=0/\oC (H (f b)).body (H' b).body
section
variable {P:Program} {H H':Nat->bJ} {κ:Nat->bC} {F F':Nat->Prop} {w:World} {f:Nat->Nat}
theorem S4(aB:sr f H H'){b off:Nat}{v:Value}(h:bB P H κ F w (.aW (f b) (H (f b)).gen off) v):bB P H' (λb=>κ (f b)) F' w (.aW b 0 off) v:=
 ⟨⟨Nat.zero_le _,h.1.2⟩,λ_ hc=>h.2 rfl ((aB b).2.1 hc)⟩
def LA(P:Program)(H H':Nat->bJ)(κ:Nat->bC)(f:Nat->Nat)(F F':Nat->Prop)(w:World){R:Type}(r:Option (R×List Nat))(l:List Nat)(av av':aG)(y:R):Prop:=
 ∃ m,r=some (y,m)/\(∀ b∈m,b∈l)/\(iW H κ F' l->∀ v,bB P H κ F w av v->bB P H' (λb=>κ (f b)) F' w av' v)
theorem LA.hE{R:Type}{r:Option (R×List Nat)}{l:List Nat}{av av':aG}{y:R}(h:r=some (y,l))(k:∀ v,bB P H κ F w av v->bB P H' (λb=>κ (f b)) F' w av' v):LA P H H' κ f F F' w r l av av' y:=
 ⟨l,h,λ_ W=>W,λ_=>k⟩
theorem kD{ak:Type}{b:Bool}{r:Option ak}{x:ak}(h:vp b r=some x):b=true/\r=some x:=by
 cases b with
 | true=>exact⟨rfl,h⟩
 | false=>cases h
theorem qe{t:ad}{av:aG}{R:Type}{r:Option (R×List Nat)}{z:t.ai×R}{l:List Nat}(h:xq H t av r=some (z,l)):∃ e1 m,(dB t av).run H=some (z.1,e1)/\r=some (z.2,m)/\l=e1++m:=by
 unfold xq at h;grind
theorem LB{t:ad}{av:aG}{R:Type}{r:Option (R×List Nat)}{z:t.ai×R}{l:List Nat}(h:K6 t av r=some (z,l)):av=.dV t z.1/\r=some (z.2,l):=by
 unfold K6 at h;grind
theorem LC{b:Nat}{av:aG}{R:Type}{r:Option (R×List Nat)}{z:(Nat×Nat)×R}{l:List Nat}(h:K7 H b av r=some (z,l)) :
  r=some (z.2,l)/\(av=.sub b (H b).gen z.1.1 z.1.2\/(av=.own b (H b).gen/\(H b).body.fg=true/\z.1=(0,(H b).body.len))):=by
 unfold K7 at h;grind
theorem Gz{aL:ad}{av:aG}{R:Type}{r:Option (R×List Nat)}{z:(Nat×(List aL.ai->Prop)×List aL.ai×Bool)×R}{l:List Nat}(h:K8 aL av r=some (z,l)) :
  r=some (z.2,l)/\av=.aV z.1.1 aL z.1.2.1 z.1.2.2.1 z.1.2.2.2:=by
 unfold K8 at h;grind
theorem LD{b:Nat}{av:aG}{R:Type}{r:Option (R×List Nat)}{z:Nat×R}{l:List Nat}(h:K_ H b av r=some (z,l)):r=some (z.2,l)/\av=.iV b (H b).gen z.1:=by
 unfold K_ at h;grind
theorem LF{av:aG}{R:Type}{r:Option (R×List Nat)}{z:Nat×R}{l:List Nat}(h:K9 av r=some (z,l)):r=some (z.2,l)/\av=.hd z.1:=by
 unfold K9 at h;grind
theorem S5{b off:Nat}{av:aG}(h:F8 H b off av=true):av=.aW b (H b).gen off:=by
 unfold F8 at h;grind
theorem S6{b:Nat}{av:aG}(h:F9 H b av=true):av=.own b (H b).gen:=by
 unfold F9 at h;grind
theorem afe{b:Nat}{av:aG}(h:K' H b av=true):av=.fI b (H b).gen:=by
 unfold K' at h;grind
theorem aff{b:Nat}{av:aG}(h:La H b av=true):av=.j2 b (H b).gen:=by
 unfold La at h;grind
theorem afg{av:aG}(h:Lb av=true):av=.cu:=by
 unfold Lb at h;grind
theorem afh(aB:sr f H H'){k:FuncId}{fY:z8'}{av:aG}(h:Lc H f k fY av=true){v:Value}(ae:bB P H κ F w av v):bB P H' (λb=>κ (f b)) F' w (.iy k fY.length (vn c8 fY)) v:=by
 unfold Lc at h;split at h
 ·rename_i k' n cZ;simp only[Bool.and_eq_true,beq_iff_eq]at h;obtain⟨⟨rfl,rfl⟩,e⟩:=h;obtain⟨aC,E,U,ag⟩:=ae;refine⟨aC,E,U,λi G=>?_⟩;have he:=List.all_eq_true.1 e i (by grind);have ae:=ag i G;rw[show fY[i]?=some fY[i] by simp]at he;rw[S5 he]at ae;have:vn c8 fY i=.aW fY[i].1 0 fY[i].2:=by simp[vn,hg,List.getD_eq_getElem?_getD,G,c8]
  rw[this];exact S4 aB ae
 grind
theorem afi(aB:sr f H H'){bs:List Nat}{av:aG}(h:Ld H f bs av=true){v:Value}(ae:bB P H κ F w av v):bB P H' (λb=>κ (f b)) F' w (.agg bs.length (vo c8 bs)) v:=by
 unfold Ld at h;split at h
 ·rename_i n ds;simp only[Bool.and_eq_true,beq_iff_eq]at h;obtain⟨rfl,e⟩:=h;obtain⟨aC,E,U,ag⟩:=ae;refine⟨aC,E,U,λi G=>?_⟩;have he:=List.all_eq_true.1 e i (by grind);obtain⟨ae,hc⟩:=ag i G;refine⟨?_,hc⟩;rw[show bs[i]?=some bs[i] by simp]at he;rw[S6 he]at ae;have:vo c8 bs i=.own bs[i] 0:=by simp[vo,hg,List.getD_eq_getElem?_getD,G,c8]
  rw[this];refine⟨⟨Nat.zero_le _,ae.1.2⟩,λ_ hc=>?_⟩;obtain⟨aP,aR,_⟩:=(aB bs[i]).2.2.1 hc;rw[aR];exact ae.2 rfl aP
 grind
theorem xC(aS:∀ b,cF P H κ F w b)(bo:∀ r,F r->F' r)(aB:sr f H H')(t:bW){av:aG}{R:Type}{r:Option (R×List Nat)}{z:t.cons R}{l:List Nat}(h:t.ja H f av r=some (z,l)) :
  LA P H H' κ f F F' w r l av (t.av c8 z).1 (t.av c8 z).2:=by
 cases t with
 | undef=>exact .hE h λ_ _=>by simp only[bW.av,bB]
 | val t=>
  obtain⟨e1,m,ah,rfl,rfl⟩:=qe h;exact⟨m,rfl,λb W=>List.mem_append_right _ W,λaj v ae=>mi aS bo ah aj.left ae⟩
 | dV t=>
  obtain⟨rfl,rfl⟩:=LB h;exact .hE rfl λv ⟨p,bj,E,U,ag⟩=>⟨p,bj,E,U.mono bo (c1.refl _ _),fe _ bo (c1.refl _ _) ag⟩
 | aW b off=>
  obtain⟨E,U⟩:=kD h;obtain rfl:=S5 E;exact .hE U λv ae=>S4 aB ae
 | own b=>
  obtain⟨E,U⟩:=kD h;obtain rfl:=S6 E;refine .hE U λv ae=>⟨⟨Nat.zero_le _,ae.1.2⟩,λ_ hc=>?_⟩
  obtain⟨aP,aR,_⟩:=(aB b).2.2.1 hc;simp only[c8];rw[aR];exact ae.2 rfl aP
 | sub b=>
  obtain⟨E,U⟩:=LC h;refine .hE E λv ae=>?_;rcases U with rfl | ⟨rfl,e',ag⟩
  ·refine⟨⟨Nat.zero_le _,ae.1.2⟩,λ_ hc=>?_⟩;obtain⟨aP,aR,bO⟩:=(aB b).2.2.1 hc;simp only[c8]at aR bO ⊢;rw[aR,bO];exact ae.2 rfl aP
  ·refine⟨⟨Nat.zero_le _,ae.1.2⟩,λ_ hc=>?_⟩;obtain⟨aP,aR,bO⟩:=(aB b).2.2.1 hc;have:=ae.2 rfl aP;simp only[c8]at aR bO ⊢;rw[aR,bO,ag];refine⟨⟨Nat.zero_le _,Nat.le_refl _⟩,?_⟩;rw[this];unfold bC.slice;cases aA:(κ (f b)).e8 with
   | true=>exact .inl ⟨aA,rfl⟩
   | false=>exact .inr ⟨aA,(κ (f b)).off,by simp,by simp,λ_=>by simp⟩
 | fI b=>
  obtain⟨E,U⟩:=kD h;obtain rfl:=afe E;exact .hE U λv ae=>⟨⟨Nat.zero_le _,ae.1.2⟩,λ_ hc=>ae.2 rfl ((aB b).2.2.2.1 hc)⟩
 | j2 b=>
  obtain⟨E,U⟩:=kD h;obtain rfl:=aff E;exact .hE U λv ae=>⟨⟨Nat.zero_le _,ae.1.2⟩,λ_ hc=>ae.2 rfl ((aB b).2.2.2.2.1 hc)⟩
 | cu=>
  obtain⟨E,U⟩:=kD h;obtain rfl:=afg E;exact .hE U λv ae=>ae
 | iy k fY=>
  obtain⟨E,U⟩:=kD h;exact .hE U λv ae=>afh aB E ae
 | hF bs=>
  obtain⟨E,U⟩:=kD h;exact .hE U λv ae=>afi aB E ae
 | iV b=>
  obtain⟨E,rfl⟩:=LD h;refine .hE E λv ae=>⟨⟨Nat.zero_le _,ae.1.2⟩,λ_ hc=>?_⟩
  obtain⟨aP,aR,bO⟩:=(aB b).2.2.1 hc;have:=ae.2 rfl aP;simp only[c8]at aR bO ⊢;rw[aR,bO];exact this
 | aV aL=>
  obtain⟨E,rfl⟩:=Gz h;exact .hE E λv ae=>ae
 | hd=>
  obtain⟨E,rfl⟩:=LF h;exact .hE E λv ae=>ae
theorem afj(aS:∀ b,cF P H κ F w b)(bo:∀ r,F r->F' r)(aB:sr f H H'):∀ (ts:List bW) {c:Nat->aG} {i:Nat} {R:Type} {r:Option (R×List Nat)} {z:qc ts R} {l:List Nat},zI H f ts c i r=some (z,l)->
  ∃ m,r=some ((pf c8 ts z).2,m)/\(∀ b∈m,b∈l)/\(iW H κ F' l->∀ j,j<ts.length->∀ v,bB P H κ F w (c (i+j)) v->bB P H' (λb=>κ (f b)) F' w ((pf c8 ts z).1.getD j .undef) v):=by
 intro ts;induction ts with
 | nil=>intro c i R r z l h;exact⟨l,h,λ_ W=>W,λ_ j aE=>by cases aE⟩
 | cons t ts aJ=>
  intro c i R r z l h;obtain⟨m1,E,U,ag⟩:=xC (F':=F') (H':=H') aS bo aB t h;obtain⟨m2,aP,aR,gx⟩:=aJ E;refine⟨m2,aP,λb W=>U b (aR b W),λaj j aE v ae=>?_⟩;cases j with
  | zero=>exact ag aj v ae
  | succ j=>
   have:=gx (λb W=>aj b (U b W)) j (by grind) v (by grind);simpa [pf]using this
theorem afk(aS:∀ b,cF P H κ F w b)(bo:∀ r,F r->F' r)(aB:sr f H H'):∀ (ts:List (Nat×bW)) {c:Nat->aG} {R:Type} {r:Option (R×List Nat)} {z:oz ts R} {l:List Nat},xt H f ts c r=some (z,l)->
  ∃ m,r=some ((eC c8 ts z).2,m)/\(∀ b∈m,b∈l)/\(iW H κ F' l->∀ i v,bB P H κ F w (c i) v->bB P H' (λb=>κ (f b)) F' w (fr (eC c8 ts z).1 i) v):=by
 intro ts;induction ts with
 | nil=>intro c R r z l h;exact⟨l,h,λ_ W=>W,λ_ _ _ _=>by simp only[eC,fr,bB]⟩
 | cons p ts aJ=>
  intro c R r z l h;obtain⟨m1,E,U,ag⟩:=xC (F':=F') (H':=H') aS bo aB p.2 h;obtain⟨m2,aP,aR,gx⟩:=aJ E;refine⟨m2,aP,λb W=>U b (aR b W),λaj i v ae=>?_⟩;simp only[eC,fr];split
  ·grind
  ·exact gx (λb W=>aj b (U b W)) i v ae
theorem GA(t:bW){av:aG}{R:Type}{r:Option (R×List Nat)}{z:t.cons R}{l:List Nat}(h:t.ja H f av r=some (z,l)):∃ m,r=some ((t.av c8 z).2,m)/\∀ b∈m,b∈l:=by
 cases t with
 | undef=>exact⟨l,h,λ_ h=>h⟩
 | val t=>obtain⟨_,m,_,U,ag⟩:=qe h;exact⟨m,U,λb W=>ag ▸ List.mem_append_right _ W⟩
 | dV t=>exact⟨l,(LB h).2,λ_ h=>h⟩
 | sub b=>exact⟨l,(LC h).1,λ_ h=>h⟩
 | aV aL=>exact⟨l,(Gz h).1,λ_ h=>h⟩
 | hd=>exact⟨l,(LF h).1,λ_ h=>h⟩
 | iV b=>exact⟨l,(LD h).1,λ_ h=>h⟩
 | aW b off=>exact⟨l,(kD h).2,λ_ h=>h⟩
 | own b=>exact⟨l,(kD h).2,λ_ h=>h⟩
 | fI b=>exact⟨l,(kD h).2,λ_ h=>h⟩
 | j2 b=>exact⟨l,(kD h).2,λ_ h=>h⟩
 | cu=>exact⟨l,(kD h).2,λ_ h=>h⟩
 | iy k fY=>exact⟨l,(kD h).2,λ_ h=>h⟩
 | hF bs=>exact⟨l,(kD h).2,λ_ h=>h⟩
theorem afl:∀ (ts:List bW) {c:Nat->aG} {i:Nat} {R:Type} {r:Option (R×List Nat)} {z:qc ts R} {l:List Nat},zI H f ts c i r=some (z,l)->∃ m,r=some ((pf c8 ts z).2,m)/\∀ b∈m,b∈l:=by
 intro ts;induction ts with
 | nil=>intro c i R r z l h;exact⟨l,h,λ_ h=>h⟩
 | cons t ts aJ=>
  intro c i R r z l h;obtain⟨m,E,U⟩:=GA t h;obtain⟨dx,ag,a1⟩:=aJ E;exact⟨dx,ag,λb W=>U b (a1 b W)⟩
theorem afm:∀ (ts:List (Nat×bW)) {c:Nat->aG} {R:Type} {r:Option (R×List Nat)} {z:oz ts R} {l:List Nat},xt H f ts c r=some (z,l)->∃ m,r=some ((eC c8 ts z).2,m)/\∀ b∈m,b∈l:=by
 intro ts;induction ts with
 | nil=>intro c R r z l h;exact⟨l,h,λ_ h=>h⟩
 | cons p ts aJ=>
  intro c R r z l h;obtain⟨m,E,U⟩:=GA p.2 h;obtain⟨dx,ag,a1⟩:=aJ E;exact⟨dx,ag,λb W=>U b (a1 b W)⟩
theorem CU(t:bW){av:aG}{R:Type}{r:Option (R×List Nat)}{z:t.cons R}{l:List Nat}(h:t.ja H f av r=some (z,l))(M:∀ y m,r=some (y,m)->gL H m):gL H l:=by
 cases t with
 | undef=>exact M _ _ h
 | val t=>obtain⟨_,m,E,U,rfl⟩:=qe h;exact (mQ E).append (M _ _ U)
 | dV t=>exact M _ _ (LB h).2
 | sub b=>exact M _ _ (LC h).1
 | aV aL=>exact M _ _ (Gz h).1
 | hd=>exact M _ _ (LF h).1
 | iV b=>exact M _ _ (LD h).1
 | aW b off=>exact M _ _ (kD h).2
 | own b=>exact M _ _ (kD h).2
 | fI b=>exact M _ _ (kD h).2
 | j2 b=>exact M _ _ (kD h).2
 | cu=>exact M _ _ (kD h).2
 | iy k fY=>exact M _ _ (kD h).2
 | hF bs=>exact M _ _ (kD h).2
theorem afn:∀ (ts:List bW) {c:Nat->aG} {i:Nat} {R:Type} {r:Option (R×List Nat)} {z:qc ts R} {l:List Nat},zI H f ts c i r=some (z,l)->(∀ y m,r=some (y,m)->gL H m)->gL H l:=by
 intro ts;induction ts with
 | nil=>intro c i R r z l h M;exact M _ _ h
 | cons t ts aJ=>intro c i R r z l h M;exact CU t h λy m hm=>aJ hm M
theorem afo:∀ (ts:List (Nat×bW)) {c:Nat->aG} {R:Type} {r:Option (R×List Nat)} {z:oz ts R} {l:List Nat},xt H f ts c r=some (z,l)->(∀ y m,r=some (y,m)->gL H m)->gL H l:=by
 intro ts;induction ts with
 | nil=>intro c R r z l h M;exact M _ _ h
 | cons p ts aJ=>intro c R r z l h M;exact CU p.2 h λy m hm=>aJ hm M
theorem LG{t:ad}{ts:List bW}{iI:bQ}{R:Type}{r:Option (R×List Nat)}{z:qc ts R}{l:List Nat}(h:Le H f t ts iI r=some (z,l)):∃ c,iI=.cells t c/\t.size=ts.length/\zI H f ts c 0 r=some (z,l):=by
 unfold Le at h;grind
theorem LH{e:ad}{iI:bQ}{R:Type}{r:Option (R×List Nat)}{z:List e.ai×R}{l:List Nat}(h:Lf e iI r=some (z,l)):r=some (z.2,l)/\iI=.bh e z.1:=by
 unfold Lf at h;grind
theorem LI{e:ad}{t:bW}{iI:bQ}{R:Type}{r:Option (R×List Nat)}{z:(List e.ai×Nat)×t.cons R}{l:List Nat}(h:Li H f e t iI r=some (z,l)):∃ v,iI=.gn e z.1.1 z.1.2 v/\t.ja H f v r=some (z.2,l):=by
 unfold Li at h;grind
theorem LJ{k v:ad}{iI:bQ}{R:Type}{r:Option (R×List Nat)}{z:List (k.ai×v.ai)×R}{l:List Nat}(h:Lg k v iI r=some (z,l)):r=some (z.2,l)/\iI=.mp k v z.1:=by
 unfold Lg at h;grind
theorem LK{k v:ad}{iI:bQ}{R:Type}{r:Option (R×List Nat)}{z:(Option (k.ai×v.ai)×List (k.ai×v.ai))×R}{l:List Nat}(h:Lh k v iI r=some (z,l)):r=some (z.2,l)/\iI=.cr k v z.1.1 z.1.2:=by
 unfold Lh at h;grind
theorem LL{t:ad}{iI:bQ}{R:Type}{r:Option (R×List Nat)}{z:t.ai×R}{l:List Nat}(h:Lj H t iI r=some (z,l)):∃ c,iI=.cells t c/\xq H t (.agg t.size c) r=some (z,l):=by
 unfold Lj at h;grind
theorem LM{t:ad}{b:Nat}{R:Type}{r:Option (R×List Nat)}{z:t.ai×R}{l:List Nat}(h:Lk H t b r=some (z,l)):∃ e1 m,(dB (.bH t) (.aW b (H b).gen 0)).run H=some (some z.1,e1)/\r=some (z.2,m)/\l=e1++m:=by
 unfold Lk at h;split at h
 ·rename_i x e1 ah;split at h
  ·cases h;exact⟨e1,_,ah,rfl,rfl⟩
  ·cases h
 ·cases h
theorem S7{e:ad}{b:Nat}{xs:List e.ai}{l:List Nat}(h:(dB (.slice e) (.own b (H b).gen)).run H=some (xs,l)):(H b).body=.bh e xs\/(H b).body=.hC e xs:=by
 simp only[dB,kq,ad.eE,if_true,dW,aq.e3,aq.bM]at h;split at h
 ·rename_i a6 ys W;simp only[Option.map_eq_some_iff,Prod.mk.injEq]at h;obtain⟨z,bk,rfl,_⟩:=h;obtain⟨qX,rfl⟩:=kN bk;grind
 ·rename_i a6 ys W;simp only[Option.map_eq_some_iff,Prod.mk.injEq]at h;obtain⟨z,bk,rfl,_⟩:=h;obtain⟨qX,rfl⟩:=kN bk;grind
 grind
theorem afp{k v:ad}{b:Nat}{xs:List (k.ai×v.ai)}{l:List Nat}(h:(dB (.map k v) (.fI b (H b).gen)).run H=some (xs,l)):(H b).body=.mp k v xs\/(H b).body=.jh k v xs:=by
 simp only[dB,kq,ad.eE,if_true,dW,aq.e3,aq.bM]at h;split at h
 ·rename_i k' h2 ys W;simp only[Option.map_eq_some_iff,Prod.mk.injEq]at h;obtain⟨z,bk,rfl,_⟩:=h;obtain⟨qX,rfl⟩:=kN bk;grind
 ·rename_i k' h2 ys W;simp only[Option.map_eq_some_iff,Prod.mk.injEq]at h;obtain⟨z,bk,rfl,_⟩:=h;obtain⟨qX,rfl⟩:=kN bk;grind
 grind
theorem afq{t:ad}{b:Nat}{x:Option t.ai}{l:List Nat}(h:(dB (.bH t) (.aW b (H b).gen 0)).run H=some (x,l)):(H b).body.fJ=true:=by
 simp only[dB,kq,tw,aq.e3,and_self,if_true]at h;split at h
 ·rename_i W;rw[W];rfl
 ·rename_i W;rw[W];rfl
 ·cases h
theorem b1.S8(t:b1){b:Nat}{R:Type}{r:Option (R×List Nat)}{z:t.cons R}{l:List Nat}(h:t.ja H f b r=some (z,l)) :
  (∃ m,r=some ((t.body c8 z).2,m)/\∀ c∈m,c∈l)/\oC (H b).body (t.body c8 z).1/\∀ k,(t.body c8 z).1.bZ k=true->t.CK=true:=by
 cases t with
 | cells t ts=>
  obtain⟨c,e,aD,h⟩:=LG h;refine⟨afl ts h,?_,λ_ _=>rfl⟩;rw[e];exact⟨λ_=>rfl,λh=>(by cases h),λh=>(by cases h),λh=>(by cases h),λ_ _=>rfl⟩
 | bh e=>
  obtain⟨E,U⟩:=LH h;refine⟨⟨l,E,λ_ h=>h⟩,?_,λ_ _=>rfl⟩;rw[U];exact oC.refl _
 | hC e=>
  obtain⟨e1,m,E,U,rfl⟩:=qe h;refine⟨⟨m,U,λ_ h=>List.mem_append_right _ h⟩,?_,λ_ h=>(by cases h)⟩;rcases S7 E with e | e<;>rw[e]
  ·exact⟨λh=>(by cases h),λ_=>⟨rfl,rfl,rfl⟩,λh=>(by cases h),λh=>(by cases h),λ_ h=>(by cases h)⟩
  ·exact oC.refl _
 | mp k v=>
  obtain⟨E,U⟩:=LJ h;refine⟨⟨l,E,λ_ h=>h⟩,?_,λ_ _=>rfl⟩;rw[U];exact oC.refl _
 | jh k v=>
  obtain⟨e1,m,E,U,rfl⟩:=qe h;refine⟨⟨m,U,λ_ h=>List.mem_append_right _ h⟩,?_,λ_ h=>(by cases h)⟩;rcases afp E with e | e<;>rw[e]
  ·exact⟨λh=>(by cases h),λh=>(by cases h),λ_=>rfl,λh=>(by cases h),λ_ h=>(by cases h)⟩
  ·exact oC.refl _
 | fZ t=>
  obtain⟨c,e,h⟩:=LL h;obtain⟨e1,m,E,U,rfl⟩:=qe h;refine⟨⟨m,U,λ_ h=>List.mem_append_right _ h⟩,?_,λ_ _=>rfl⟩;rw[e];exact⟨λ_=>rfl,λh=>(by cases h),λh=>(by cases h),λh=>(by cases h),λ_ _=>rfl⟩
 | gJ t=>
  obtain⟨e1,m,E,U,rfl⟩:=LM h;refine⟨⟨m,U,λ_ h=>List.mem_append_right _ h⟩,?_,λ_ h=>(by cases h)⟩;exact⟨λ_=>afq E,λh=>(by cases h),λh=>(by cases h),λh=>(by cases h),λ_ h=>(by cases h)⟩
 | cr k v=>
  obtain⟨E,U⟩:=LK h;refine⟨⟨l,E,λ_ h=>h⟩,?_,λ_ _=>rfl⟩;rw[U];exact oC.refl _
 | gn e t=>
  obtain⟨v,aw,h⟩:=LI h;refine⟨GA t h,?_,λ_ _=>rfl⟩;rw[aw];exact⟨λh=>(by cases h),λ_=>⟨rfl,rfl,rfl⟩,λh=>(by cases h),λh=>(by cases h),λ_ h=>h⟩
theorem b1.CU(t:b1){b:Nat}{R:Type}{r:Option (R×List Nat)}{z:t.cons R}{l:List Nat}(h:t.ja H f b r=some (z,l))(M:∀ y m,r=some (y,m)->gL H m):gL H l:=by
 cases t with
 | cells t ts=>obtain⟨c,e,aD,h⟩:=LG h;exact afn ts h M
 | bh e=>exact M _ _ (LH h).1
 | hC e=>obtain⟨e1,m,E,U,rfl⟩:=qe h;exact (mQ E).append (M _ _ U)
 | mp k v=>exact M _ _ (LJ h).1
 | jh k v=>obtain⟨e1,m,E,U,rfl⟩:=qe h;exact (mQ E).append (M _ _ U)
 | fZ t=>obtain⟨c,e,h⟩:=LL h;obtain⟨e1,m,E,U,rfl⟩:=qe h;exact (mQ E).append (M _ _ U)
 | gJ t=>obtain⟨e1,m,E,U,rfl⟩:=LM h;exact (mQ E).append (M _ _ U)
 | cr k v=>exact M _ _ (LK h).1
 | gn e t=>obtain⟨v,_,h⟩:=LI h;exact Go.Fer.CU t h M
theorem b1.afr(aS:∀ b,cF P H κ F w b)(bo:∀ r,F r->F' r)(aB:sr f H H')(t:b1){b:Nat}{R:Type}{r:Option (R×List Nat)}{z:t.cons R}{l:List Nat}(h:t.ja H f b r=some (z,l))(aj:iW H κ F' l) :
  jB P H' (λb=>κ (f b)) F' w (κ b) (t.body c8 z).1:=by
 have W:=aS b;unfold cF at W;cases t with
 | cells t ts=>
  obtain⟨c,e,aD,h⟩:=LG h;rw[e]at W;obtain⟨cs,T,aP,aR,bO⟩:=W;obtain⟨m,_,_,gx⟩:=afj (H':=H') aS bo aB ts h;refine⟨cs,T,aP,aR,λi G=>⟨?_,(bO i G).2⟩⟩;have:=gx aj i (by omega) _ (by rw[Nat.zero_add];exact (bO i G).1);exact this
 | bh e=>
  rw[(LH h).2]at W;refine⟨W.1,λaA=>?_⟩;obtain⟨cs,T,E,U,ag,a1,bL⟩:=W.2 aA;exact⟨cs,T,E,U,ag,a1,bL.mono bo (c1.refl _ _)⟩
 | hC e=>
  obtain⟨e1,m,E,U,rfl⟩:=qe h;have vf:=S7 E;have xD:=mi (v:=(κ b).slice (H b).body.len) aS bo E aj.left ⟨⟨Nat.le_refl _,by unfold bC.slice;split<;>rfl⟩,λ_ _=>rfl⟩;have:=((dU rfl).1 xD).2;rcases vf with a6 | a6<;>(rw[a6]at this;exact this)
 | mp k v=>
  rw[(LJ h).2]at W;obtain⟨ms,clk,E,U⟩:=W;exact⟨ms,clk,E,U.mono bo (c1.refl _ _)⟩
 | jh k v=>
  obtain⟨e1,m,E,U,rfl⟩:=qe h;have xD:=mi (v:=.map (some (κ b).aa)) aS bo E aj.left ⟨⟨Nat.le_refl _,rfl⟩,λ_ _=>rfl⟩;exact ((dU rfl).1 xD).2
 | fZ t=>
  obtain⟨c,e,h⟩:=LL h;rw[e]at W;obtain⟨cs,T,aP,aR,bO⟩:=W;obtain⟨e1,m,ah,_,rfl⟩:=qe h;have ae:bB P H κ F w (.agg t.size c) (.agg cs):=⟨cs.toList,by simp,by omega,λj aE=>by
   simp_all⟩
  have xD:=mi (F':=F') aS bo ah aj.left ae;have iA:=y7 (P:=P) (H:=H') (κ:=λb=>κ (f b)) t xD.2;refine⟨cs,T,aP,aR,λi G=>⟨?_,(bO i G).2⟩⟩;have:=(iA.kO i (by rw[iA.len];simpa [Value.cells,aR]using G)).1;rw[List.getD_eq_getElem?_getD]at this;rw[Array.getD_eq_getD_getElem?];simpa [Value.cells]using this
 | gJ t=>
  obtain⟨e1,m,E,U,rfl⟩:=LM h;have xD:=mi (v:=.pointer (some ⟨(κ b).aa,0,none⟩)) aS bo E aj.left ⟨⟨Nat.le_refl _,rfl⟩,λ_ _=>rfl⟩;rcases ((dU rfl).1 xD).2 with⟨_,e⟩ | ⟨p,y,bj,aw,aN,ag,a1⟩
  ·cases e
  ·simp only[List.cons.injEq,Value.pointer.injEq,Option.some.injEq,and_true]at aw;subst aw;cases aN;exact⟨bj,ag,a1⟩
 | cr k v=>
  rw[(LK h).2]at W;exact wZ.mono W bo (c1.refl _ _) rfl
 | gn e t=>
  obtain⟨v,aw,h⟩:=LI h;rw[aw]at W;obtain⟨aX,cs,T,E,U,ag,a1,bL,dm,fS,jg⟩:=W;obtain⟨m,_,_,gx⟩:=xC (F':=F') (H':=H') aS bo aB t h;refine⟨aX,cs,T,E,U,ag,a1,bL,λj aE qO=>?_,gx aj _ fS,jg⟩;obtain⟨bj,d1,d2⟩:=dm j aE qO;exact⟨bj,d1,fe e bo (c1.refl _ _) d2⟩
theorem afs:∀ (l:List (Nat×b1)) {x:pe l} {m:List Nat},xr H f l=some (x,m)->∀ b,eP (hi c8 l x) b=⟨0,.fy⟩\/
  ∃ iI,eP (hi c8 l x) b=⟨0,iI⟩/\oC (H (f b)).body iI/\∃ t,(b,t)∈l/\∀ k,iI.bZ k=true->t.CK=true:=by
 intro l;induction l with
 | nil=>intro x m _ b;exact .inl rfl
 | cons q l aJ=>
  intro x m h b;obtain⟨dy,dO⟩:=q;simp only[xr]at h;obtain⟨⟨dx,E,U⟩,ag,a1⟩:=b1.S8 dO h;by_cases e:b=dy
  ·subst e;exact .inr ⟨_,by simp only[hi,eP,if_true],ag,dO,by simp,a1⟩
  ·rcases aJ E b with k | ⟨iI,aP,aR,t,bO,gx⟩
   ·exact .inl (by simpa [hi,eP,e]using k)
   ·exact .inr ⟨iI,by simpa [hi,eP,e]using aP,aR,t,List.mem_cons_of_mem _ bO,gx⟩
theorem aft:∀ (l:List (Nat×b1)) {x:pe l} {m:List Nat},xr H f l=some (x,m)->gL H m:=by
 intro l;induction l with
 | nil=>intro x m h;cases h;exact .nil H
 | cons q l aJ=>intro x m h;exact b1.CU q.2 h λy m hm=>aJ hm
theorem afu(aS:∀ b,cF P H κ F w b)(bo:∀ r,F r->F' r)(aB:sr f H H'):∀ (l:List (Nat×b1)) {x:pe l} {m:List Nat},xr H f l=some (x,m)->iW H κ F' m->∀ b,jB P H' (λb=>κ (f b)) F' w (κ (f b)) (eP (hi c8 l x) b).body:=by
 intro l;induction l with
 | nil=>intro x m _ _ b;trivial
 | cons q l aJ=>
  intro x m h hm b;obtain⟨dy,dO⟩:=q;simp only[xr]at h;obtain⟨⟨dx,E,U⟩,_⟩:=b1.S8 dO h;by_cases e:b=dy
  ·subst e;simp only[hi,eP,if_true];exact b1.afr aS bo aB dO h hm
  ·have:=aJ E (λc hc=>hm c (U c hc)) b;simpa [hi,eP,e]using this
theorem afv:∀ (ts:List (Nat×bW)) {c:Nat->aG} {R:Type} {r:Option (R×List Nat)} {z:oz ts R} {l:List Nat},xt H f ts c r=some (z,l)->∀ {i dH aL L n st},fr (eC c8 ts z).1 i=.aV dH aL L n st->c i=.aV dH aL L n st:=by
 intro ts;induction ts with
 | nil=>intro c R r z l _ i dH aL L n st e;cases e
 | cons p ts aJ=>
  intro c R r z l h i dH aL L n st e;obtain⟨jH,t⟩:=p;simp only[xt]at h;obtain⟨m,E,_⟩:=GA t h;simp only[eC,fr]at e;split at e
  ·rename_i afw;subst afw;cases t with
   | aV kA=>
    obtain⟨_,ag⟩:=Gz h;rw[ag];exact e
   | _=>cases e
  grind
end
structure GB(C:b_)(s:az)(a:Act)(w:World)(κ:Nat->bC)(f:Nat->Nat)(F':Nat->Prop)(sh:dI)(D:sh.ai)(bU:List Nat):Prop where
 bT:∀ i,bB C.P (sh.st D).aa (λb=>κ (f b)) F' w ((sh.st D).ax i) (a.tmps.getD i Go.undef)
 bD:∀ b,cF C.P (sh.st D).aa (λb=>κ (f b)) F' w b
 bZ:∀ b,((sh.st D).aa b).body.bZ (κ (f b))=true->f b ∉ bU/\(s.aa (f b)).body.bZ (κ (f b))=true/\b∈sh.oA
 zS:sr f s.aa (sh.st D).aa
 aV:∀ l aL L n st,(sh.st D).ax b5=.aV l aL L n st->s.ax b5=.aV l aL L n st
theorem dI.S9{C:b_}{sh:dI}{f:Nat->Nat}{s:az}{a:Act}{w:World}{κ:Nat->bC}{F:Nat->Prop}{D:sh.ai}{bU:List Nat}(h:sh.zJ f s=some (D,bU))(M:bl C s a w κ F) :
  ∃ F',(∀ r,F r->F' r)/\bl C (s.cA bU) a w κ F'/\GB C s a w κ f F' sh D bU:=by
 unfold dI.zJ at h;split at h
 ·rename_i iH axS ow;split at h
  ·rename_i e';cases h;obtain⟨m,E,hm⟩:=afm sh.bT ow;have lP:gL s.aa bU:=afo sh.bT ow λy m hm=>aft sh.bD hm;obtain⟨F',f1,bb,f2⟩:=bl.lg lP M;have S_:=afs sh.bD E;have tY:sr f s.aa (sh.st D).aa:=by
    intro b;show (eP (hi c8 sh.bD (eC c8 sh.bT D).2) b).gen=0/\oC (s.aa (f b)).body (eP (hi c8 sh.bD (eC c8 sh.bT D).2) b).body;rcases S_ b with e | ⟨iI,e,k,_⟩
    ·rw[e];exact⟨rfl,oC.fy _⟩
    grind
   obtain⟨m2,_,_,afx⟩:=afk (F':=F') (w:=w) M.bD f1 tY sh.bT ow;refine⟨F',f1,bb,{ bT:=λi=>afx f2 i _ (M.bT i),bD:=λb=>?_,bZ:=λb W=>?_,zS:=tY,aV:=λl aL L n st e=>afv sh.bT ow e }⟩
   ·exact afu M.bD f1 tY sh.bD E (λc hc=>f2 c (hm c hc)) b
   ·have al:=(tY b).2.2.2.2.2 _ W;rcases S_ b with e | ⟨iI,e,_,t,aH,axT⟩
    ·have e:(sh.st D).aa b=_:=e;rw[e]at W;cases W
    ·have e:(sh.st D).aa b=_:=e;rw[e]at W;have bd:b∈sh.oA:=List.mem_filterMap.2 ⟨(b,t),aH,by grind⟩;grind
  grind
 grind
theorem GB.xE{C:b_}{s:az}{a:Act}{w:World}{κ:Nat->bC}{f:Nat->Nat}{F':Nat->Prop}{sh:dI}{D:sh.ai}{bU:List Nat}(h:GB C s a w κ f F' sh D bU){b:Nat}(W:((sh.st D).aa b).body.bZ (κ (f b))=true) :
  ((s.cA bU).aa (f b)).body.bZ (κ (f b))=true:=by
 obtain⟨E,U,_⟩:=h.bZ b W;simp only[az.cA,if_neg E];exact U
theorem LN{C:b_}{s:az}{a:Act}{w:World}{κ:Nat->bC}{F:Nat->Prop}(M:bl C s a w κ F){b:Nat}{e:ad} :
  bl C (s.cy b ⟨(s.aa b).gen+1,.bh e []⟩) a w (λi=>if i=b then ⟨0,0,0,true⟩ else κ i) F:=
 M.Cq (k:=⟨0,0,0,true⟩) (Nat.lt_succ_self _) (.inl rfl) (Nat.le_refl _) (λ_ _=>rfl) (λh=>by cases h) (dc.refl _) λ_ _=>⟨λ_=>rfl,λh=>by cases h⟩
theorem afy{C:b_}{s:az}{a:Act}{w:World}{κ:Nat->bC}{F:Nat->Prop}(M:bl C s a w κ F){i b be g':Nat}(aD:s.ax i=.own be g'):∃ κ',bl C (Lm s i b be g') a w κ' F:=by
 unfold Lm;split
 ·rename_i e xs au bS;obtain⟨eN,rfl⟩:=of_decide_eq_true au;generalize mR:(λj=>if j=b then (⟨(s.aa b).gen+1,.bh e xs⟩:bJ) else if j=be then ⟨(s.aa be).gen+1,.fy⟩ else s.aa j)=H';generalize iJ:(λj=>if j=b then κ be else κ j)=κ';have E:H' b=⟨(s.aa b).gen+1,.bh e xs⟩:=by grind
  have U:H' be=⟨(s.aa be).gen+1,.fy⟩:=by grind
  have ag:∀ j,j≠b->j≠be->H' j=s.aa j:=λj aP aR=>by grind
  have aP:κ' b=κ be:=by grind
  have bO:∀ j,j≠b->κ' j=κ j:=λj k=>by grind
  have aj:fq s.aa κ H' κ':=by
   rw[BU];intro j;by_cases aw:j=b
   ·subst aw;rw[E];exact⟨Nat.le_succ _,λe=>absurd e (Nat.ne_of_lt (Nat.lt_succ_self _))⟩
   ·by_cases aN:j=be
    ·subst aN;rw[U];exact⟨Nat.le_succ _,λe=>absurd e (Nat.ne_of_lt (Nat.lt_succ_self _))⟩
    ·rw[ag j aw aN,bO j aw];exact p0.refl _ _
  have gq:∀ j,(H' j).body.bZ (κ' j)=true->(j=b/\(s.aa be).body.bZ (κ be)=true)\/(j≠b/\j≠be/\(s.aa j).body.bZ (κ j)=true):=λj aE=>by
   by_cases aw:j=b
   ·grind
   ·by_cases aN:j=be
    ·subst aN;rw[U]at aE;cases aE
    grind
  have h:=M.move (H':=H') (κ':=κ') (F':=F) (w':=w) aj (λ_ h=>h) (λ_ h=>.inl h) (Nat.le_refl _) (λ_ _ _=>rfl) (dc.refl w)
   (λ_ j=>by
    by_cases aw:j=b
    ·subst aw;have aS:=M.bD be;unfold cF at aS ⊢;rw[bS]at aS;rw[E,aP];exact aS
    ·by_cases aN:j=be
     ·subst aN;unfold cF;rw[U];trivial
     ·exact cF.lb (M.bD j) aj (λ_ h=>h) (c1.refl _ _) (by grind) (bO j aw) λ_=>rfl)
   (λj aE=>by
    rcases gq j aE with⟨rfl,h⟩ | ⟨aw,_,h⟩
    ·rw[aP];have:=M.own be h;grind
    ·rw[bO j aw];have:=M.own j h;grind)
   (λj j9 aE fV e=>by
    rcases gq j aE with⟨rfl,h⟩ | ⟨aw,aN,h⟩<;>rcases gq j9 fV with⟨rfl,ds⟩ | ⟨S',afz,ds⟩
    ·rfl
    ·rw[aP,bO j9 S']at e;exact absurd (M.inj be j9 h ds e).symm afz
    ·rw[aP,bO j aw]at e;exact absurd (M.inj j be h ds e) aN
    ·rw[bO j aw,bO j9 S']at e;exact M.inj j j9 h ds e)
   M.da
   (λj _ aE=>by
    by_cases aw:j=b
    ·subst aw;rw[E]at aE;rcases aE with aE | aE<;>cases aE
    ·by_cases aN:j=be
     ·subst aN;rw[U]at aE;rcases aE with aE | aE<;>cases aE
     grind)
  refine⟨κ',{ h with bT:=λj=>?_,dG:=h.dG,dfr:=h.dfr,bD:=h.bD,eK:=λl aL L n st a6=>?_ }⟩
  ·show bB C.P _ _ F w (if j=i then .own b ((s.aa b).gen+1) else s.ax j) _;split
   ·rename_i e;subst e;have ae:=M.bT j;rw[aD]at ae;have ie:=ae.2 rfl (by rw[bS];rfl);rw[bS]at ie;exact⟨⟨by grind,ae.1.2⟩,λ_ _=>by grind⟩
   ·exact h.bT j
  ·have a6:(if b5=i then .own b ((s.aa b).gen+1) else s.ax b5)=.aV l aL L n st:=a6;split at a6
   ·cases a6
   ·exact h.eK l aL L n st a6
 grind
theorem afA{C:b_}{bs:List (Nat×b1)}{s:az}{a:Act}{w:World}{κ:Nat->bC}{F:Nat->Prop}(M:bl C s a w κ F)(i b:Nat):∃ κ',bl C (Ln bs s i b) a w κ' F:=by
 unfold Ln;split
 ·rename_i e aD _;have h:=LN M (b:=b) (e:=e);refine⟨_,{ h with bT:=λj=>?_,dG:=h.dG,dfr:=h.dfr,bD:=h.bD,eK:=λl aL L n st a6=>?_ }⟩
  ·show bB C.P _ _ F w (if j=i then .own b ((s.aa b).gen+1) else s.ax j) _;split
   ·rename_i e;subst e;have ae:=M.bT j;rw[aD]at ae;have ae:a.tmps.getD j undef=.slice none 0 0:=ae;rw[ae];exact⟨⟨by simp[az.cy],rfl⟩,λ_ _=>by simp[bC.slice]⟩
   ·exact h.bT j
  ·have a6:(if b5=i then .own b ((s.aa b).gen+1) else s.ax b5)=.aV l aL L n st:=a6;split at a6
   ·cases a6
   ·exact h.eK l aL L n st a6
 ·rename_i aD _;exact afy M aD
 grind
theorem afB{C:b_}{bs:List (Nat×b1)}{s:az}{a:Act}{w:World}{κ:Nat->bC}{F:Nat->Prop}(M:bl C s a w κ F)(c j b:Nat):∃ κ',bl C (Lo bs s c j b) a w κ' F:=by
 unfold Lo;split
 ·rename_i t f hc;split
  ·rename_i e ao au _;have Ta:c≠b:=λe=>by grind
   have h:=LN M (b:=b) (e:=e);have iD:(s.cy b ⟨(s.aa b).gen+1,.bh e []⟩).aa c=s.aa c:=by simp[az.cy,Ta]
   have aS:=h.bD c;unfold cF at aS;rw[iD,hc]at aS;obtain⟨cs,T,E,U,ag⟩:=aS;refine⟨_,h.o6 (w':=w) (b:=c) (x:=⟨(s.aa c).gen,.cells t λq=>if q=j then .own b ((s.aa b).gen+1) else f q⟩) (by rw[iD,hc];rfl) rfl
    (qP (by rw[iD]) (λ_=>by rw[iD,hc];rfl) (λh=>by cases h) (λh=>by cases h) (λh=>by cases h)) (λ_=>by rw[iD,hc];rfl) (λh=>by cases h) (λ_ _=>rfl) rfl (dc.refl _) λH mR aj _=>?_⟩
   refine⟨cs,T,E,U,λq br=>⟨?_,(ag q br).2⟩⟩;show bB C.P H _ F w (if q=j then .own b ((s.aa b).gen+1) else f q) _;split
   ·rename_i eq;subst eq;have ae:=(ag q br).1;rw[ao]at ae;have ae:cs.getD q undef=.slice none 0 0:=ae;rw[ae];have afC:H b=⟨(s.aa b).gen+1,.bh e []⟩:=by rw[mR];simp[az.cy,Ne.symm Ta]
    exact⟨⟨by grind,rfl⟩,λ_ _=>by rw[afC];simp[bC.slice]⟩
   ·exact bB.later aj (λ_ h=>h) (c1.refl _ _) (ag q br).1
  grind
 grind
theorem afD{C:b_}(sh:dI){s:az}{a:Act}{w:World}{κ:Nat->bC}{F:Nat->Prop}(M:bl C s a w κ F):∃ κ',bl C (sh.Gc s) a w κ' F:=by
 have E:∀ (l:List (Nat×bW)) (s:az) (κ:Nat->bC),bl C s a w κ F->∃ κ',bl C (F_ sh.bD l s) a w κ' F:=by
  intro l;induction l with
  | nil=>intro s κ h;exact⟨κ,h⟩
  | cons p l aJ=>
   intro s κ h;simp only[F_];split
   ·obtain⟨κ',ds⟩:=afA (bs:=sh.bD) h p.1 _;exact aJ _ _ ds
   grind
 have U:∀ (c:Nat) (l:List bW) (j:Nat) (s:az) (κ:Nat->bC),bl C s a w κ F->∃ κ',bl C (Ga sh.bD c l j s) a w κ' F:=by
  intro c l;induction l with
  | nil=>intro j s κ h;exact⟨κ,h⟩
  | cons t l aJ=>
   intro j s κ h;simp only[Ga];split
   ·obtain⟨κ',ds⟩:=afB (bs:=sh.bD) h c j _;exact aJ _ _ _ ds
   ·exact aJ _ _ _ h
 have ag:∀ (l:List (Nat×b1)) (s:az) (κ:Nat->bC),bl C s a w κ F->∃ κ',bl C (Gb sh.bD l s) a w κ' F:=by
  intro l;induction l with
  | nil=>intro s κ h;exact⟨κ,h⟩
  | cons p l aJ=>
   intro s κ h;simp only[Gb];split
   ·obtain⟨κ',ds⟩:=U p.1 _ 0 s κ h;exact aJ _ _ ds
   grind
 obtain⟨afE,gN⟩:=E sh.bT s κ M;exact ag sh.bD _ _ gN
theorem Tb:∀ (l:List (Nat×b1)) (x:pe l) (b:Nat),(eP (hi c8 l x) b).body.fg=true->∃ q∈l,q.1=b/\q.2.SM=true
 | [],_,_,h=>by cases h
 | p::l,x,b,h=>by
  simp only[hi,eP]at h;by_cases e:b=p.1
  ·rw[if_pos e]at h;refine⟨p,by simp,e.symm,?_⟩;obtain⟨jH,t⟩:=p;cases t<;>first | rfl | cases h
  ·rw[if_neg e]at h;obtain⟨q,E,U⟩:=Tb l _ b h;grind
theorem dI.zT{C:b_}{sh:dI}{s:az}{a:Act}{w:World}{D:sh.ai}{κ:Nat->bC}{F:Nat->Prop}(h:sh.ja s=some D)(M:bl C s a w κ F):∃ κ' F',(∀ r,F r->F' r)/\bl C (sh.st D) a w κ' F':=by
  obtain⟨κ,M⟩:=afD sh M;unfold dI.ja at h;generalize sh.Gc s=s at h M;split at h;case h_2=>cases h
  rename_i afF;simp only[Option.map_eq_some_iff]at h;obtain⟨⟨iH,bU⟩,h,rfl⟩:=h;obtain⟨F',f1,bb,au⟩:=dI.S9 h M;have gq:=λb W=>au.xE (b:=b) W;exact⟨κ, F', f1, { bb with
    dG:=bb.dG,dfr:=bb.dfr,bT:=au.bT,bD:=au.bD,own:=λb W=>bb.own b (gq b W),inj:=λb be W db=>bb.inj b be (gq b W) (gq be db)
    jC:=λb r M hc=>bb.jC b r M (hc.imp (λhc=>by
      have aX:=(au.zS b).2.1 hc;simp only[az.cA];split
      · rcases zj s.aa (s.aa b) with e | ⟨_,_,ah,_⟩ | ⟨_,_,_,ah,_⟩ | ⟨_,_,_,_,_,_,e⟩
        · grind
        · rw[ah]at aX;cases aX
        · rw[ah]at aX;cases aX
        · rw[e];rfl
      omega) (λhc=>by
      have aX:=(au.zS b).2.2.2.1 hc;simp only[az.cA];split
      · rcases zj s.aa (s.aa b) with e | ⟨_,_,ah,_⟩ | ⟨_,_,_,_,e⟩ | ⟨_,_,_,_,ah,_,_⟩
        · grind
        · rw[ah]at aX;cases aX
        · rw[e];rfl
        · rw[ah]at aX;cases aX
      omega))
    kp:=λb k al _ ba=>by
      obtain⟨b8,a2,_⟩:=(au.zS b).2.2.1 ba;have aB:(s.aa b).gen=0:=by
        rcases Tb sh.bD (eC c8 sh.bT iH).2 b ba with⟨q,br,rfl,jk⟩
        have:=List.all_eq_true.1 afF q br;rw[jk]at this;have FW:=M.j3 _ k al;grind
      obtain⟨aP,aR⟩:=M.kp b k al aB b8;grind
    eK:=λl aL L n st e=>by
      obtain⟨E,U,Y,ag,a1,bL⟩:=bb.eK l aL L n st (au.aV l aL L n st e);grind }⟩
theorem dI.xC{C:b_}{sh:dI}{s:az}{a:Act}{w:World}{D:sh.ai}(h:sh.ja s=some D)(M:ct C s a w):ct C (sh.st D) a w:=by
 obtain⟨κ,F,M⟩:=M;obtain⟨κ',F',_,bb⟩:=dI.zT h M;exact⟨κ',F',bb⟩
end Go.Fer
namespace Go.Fer
open Go.RowKit
def afG(C:b_)(o:Oper)(s:az)(cc:hU):Prop:=
 ∀ (a:Act) (w:World) (Q:Exit->Act->World->Prop) (K:Act->World->Prop),ct C s a w->cc.ca->A.cx cc.m (λy=>∀ a' w',ct C (cc.st y) a' w'->K a' w')->o.wpIn (dS C.r) 0 C.P a w K Q
def afH(C:b_)(o:Oper)(s:az)(cc:hU):Prop:=
 ∀ gs,cc.CM=some gs->(∀ y a w,ct C (cc.st y) a w->ct C (gs true y) a w)/\∀ a w,ct C s a w->ct C (gs false cc.d) (a.put o.dst Go.undef) w
structure qf(C:b_)(o:Oper)(s:az)(cc:hU):Prop where
 prog:afG C o s cc
 axU:afH C o s cc
 axV:q2 (a7 C.aM s.ax) o->cc.ca
theorem ct.LO{C:b_}{s:az}{d:Option Nat}{av av':aG}{a:Act}{w:World}(h:ct C (s.set d av) a w)
  (au:∀ i,d=some i->i<C.nt) (ae:∀ κ F v,bB C.P s.aa κ F w av v->bB C.P s.aa κ F w av' v):ct C (s.set d av') a w:=by
 cases d with
 | none=>exact h
 | some d=>
  obtain⟨κ,F,h⟩:=h;have aA:=h.gp;have w2:=au d rfl;have aH:b5≠d:=by unfold b5 eQ at *;omega
  refine⟨κ,F,{ h with bT:=λi=>?_,dG:=h.dG,dfr:=h.dfr,bD:=h.bD,eK:=λl aL L n st e=>h.eK l aL L n st ?_ }⟩
  ·have G:=h.bT i;simp only[az.set]at G ⊢;grind
  ·simp only[az.set,if_neg aH]at e ⊢;exact e
section
variable {C:b_} {T:Nat->ad} {bf:Nat->Option aK} {o:Oper} {s:az}
theorem CV{args:List Operand}(W:q2 (a7 C.aM s.ax) o)(ba:∀ x∈args,x∈o.op.operands.toList):jG (args.map (a7 C.aM s.ax)):=
 CB λv ae=>by
  simp only[List.mem_map]at ae;obtain⟨p,an,rfl⟩:=ae;exact W p (ba p an)
theorem Tc(bg:∀ i,o.dst=some i->i<C.nt){aV:ad}{bU:List Nat}(lP:gL s.aa bU){d:aV.ai} :
  (∀ (y:aV.ai) a w,ct C (q5 s o aV bU (qQ aV y)) a w->ct C (q5 s o aV bU (.hB true (qQ aV y))) a w)/\∀ a w,ct C s a w->ct C (q5 s o aV bU (.hB false (qQ aV d))) (a.put o.dst Go.undef) w:=by
 refine⟨λy a w h=>ct.LO h bg λκ F v ae=>⟨λ_=>ae,λh=>(by cases h)⟩,λa w h=>?_⟩;obtain⟨κ,F,M⟩:=h;obtain⟨F',_,bb,_⟩:=bl.lg lP M;unfold q5;split
 ·exact⟨κ,F,M.set bg ⟨λh=>(by cases h),λ_=>rfl⟩⟩
 ·exact⟨κ,F',bb.set bg ⟨λh=>(by cases h),λ_=>rfl⟩⟩
theorem afI(bg:∀ i,o.dst=some i->i<C.nt){k:Nat}{args:Array Operand}{dn:Array TypeId}(af:o.op=.call { callee:=.value (.func k),args:=args,argTypes:=dn }){dv:hG}(ao:h1 C.P k dv.ts dv.aV dv.sh){cc:hU}
  (h:CN C.aM s o args.toList dv=some cc):qf C o s cc:=by
 unfold CN at h;split at h
 ·rename_i x bU ah;cases h;refine⟨λa w Q K M bd hm=>?_,λgs oD=>?_,λW=>CV W λx ah=>by rw[af];simp[Op.operands,Call.operands];simp_all⟩
  ·obtain⟨κ,F,M⟩:=M;exact Sb M ao bg af bd ah hm.1 λy w' aQ v j'=>hm.2 y aQ _ _ j'
  ·cases oD;exact Tc bg (p_ _ ah)
 grind
theorem afJ(bg:∀ i,o.dst=some i->i<C.nt){k:Nat}{args:Array Operand}{dn:Array TypeId}(af:o.op=.call { callee:=.value (.func k),args:=args,argTypes:=dn }){dv:hG}(ao:h1 C.P k dv.ts dv.aV dv.sh)(CW:Rj C.P k dv.ts dv.aV dv.sh){cc:hU}
  (h:Gh C.aM s o args.toList dv=some cc):qf C o s cc:=by
 unfold Gh at h;split at h
 ·rename_i x bU ah;cases h;refine⟨λa w Q K M bd hm=>?_,λgs oD=>(by grind),λW=>CV W λx ah=>by rw[af];simp[Op.operands,Call.operands];simp_all⟩;obtain⟨κ,F,M⟩:=M;obtain⟨args⟩:=args;have c6:(execOp a.eval o).run C.P w=.ok (.enter k (args.map a.eval).toArray) w:=by
   simp only[execOp,af,Sem.run_bind,resolve,Act.eval,Deferred.ofValue,Sem.run_pure,Result.andThen_ok,invoke];have:=ao.enter (args.map a.eval).toArray w;grind
  obtain⟨F',f1,bb,f2⟩:=bl.lg (p_ _ ah) M;have dX:fp C.P dv.ts F' w (args.map a.eval) x:=by
   refine vj M.bD f1 dv.ts ah f2 (by simp) λi G dK=>?_;simp only[List.getElem_map];have dz:i<args.length:=by grind
   have E:=r8 bd i (by grind);have aw:(args.map (a7 C.aM s.ax)).getD i .undef=a7 C.aM s.ax args[i]:=by grind
   rw[show (List.map (a7 C.aM s.ax) (⟨args⟩:Array Operand).toList)=args.map (a7 C.aM s.ax) from rfl,aw]at E;exact o8 (j7 M args[i]) E
  refine Cw (by grind) c6 (CW.iU F' w _ x bb.da bb.iz dX hm.1) λe w' ⟨v,y,he,aQ,gu,W⟩=>⟨v,he,hm.2 y aQ _ _ ⟨κ,_,(M.grow W).set bg (Cv ?_)⟩⟩
  obtain⟨aC,dy,dO,ou⟩:=gu;exact⟨aC,dy,dO,fe _ (λr M=>.inr M) (c1.refl _ _) ou⟩
 grind
theorem afK(bg:∀ i,o.dst=some i->i<C.nt){t:Nat}{args:Array Operand}{dn:Array TypeId}(af:o.op=.call { callee:=.value (.tmp t),args:=args,argTypes:=dn }){cc:hU}
  (h:CO C.aM s o t args.toList=some cc):qf C o s cc:=by
 unfold CO at h;split at h
 ·rename_i ca aL b f hu;split at h
  ·rename_i x bU ah;cases h;obtain⟨args⟩:=args;refine⟨λa w Q K M bd hm=>?_,λgs oD=>?_,λW=>⟨?_,CV W λx ah=>by rw[af];simp[Op.operands,Call.operands];simp_all⟩⟩
   ·obtain⟨κ,F,M⟩:=M;obtain⟨F',f1,bb,f2⟩:=bl.lg (p_ _ ah) M;have dX:fp C.P aL F' w (args.map a.eval) x:=by
     refine vj M.bD f1 aL ah f2 (by simp) λi G dK=>?_;simp only[List.getElem_map];have dz:i<args.length:=by grind
     have E:=r8 bd.2 i (by grind);have aw:(args.map (a7 C.aM s.ax)).getD i .undef=a7 C.aM s.ax args[i]:=by grind
     rw[show (List.map (a7 C.aM s.ax) (⟨args⟩:Array Operand).toList)=args.map (a7 C.aM s.ax) from rfl,aw]at E;exact o8 (j7 M args[i]) E
    have GC:bB C.P s.aa κ F w (use (a7 C.aM s.ax (.tmp t))).2 (a.eval (.tmp t)):=cO M (.tmp t) hu bd.1 |> λh=>by
     have e:use (a7 C.aM s.ax (.tmp t))=(ca,.val (.fn aL b) f):=hu;grind
    have e:use (a7 C.aM s.ax (.tmp t))=(ca,.val (.fn aL b) f):=hu;rw[e]at GC;obtain⟨_,u,xF,_,tp⟩:=(dU rfl).1 GC;have xF:a.eval (.tmp t)=u:=(List.cons.inj xF).1;obtain⟨g,cZ,aB,ss,LP⟩:=tp F' w f1 (c1.refl _ _) bb.da bb.iz (args.map a.eval) x dX.1 dX.2 hm.1;have c6:(execOp a.eval o).run C.P w=.ok (.enter g ((args.map a.eval).toArray++cZ)) w:=by
     have ae:a.eval (.tmp t)=.func (.func g) #[] cZ:=xF.trans aB;simp only[execOp,af,Sem.run_bind,resolve,ae,Deferred.ofValue,Sem.run_pure,Result.andThen_ok,invoke];grind
    refine Cw (by grind) c6 LP λe w' ⟨v,y,aC,he,aQ,E,U,ag,W⟩=>⟨v,he,hm.2 y aQ _ _ ?_⟩
    have gu:tt C.P b (u3 F' w w') w' v y:=⟨aC,E,U,ag⟩
    unfold q5;by_cases an:b.pure=true
    ·rw[if_pos an];have aB:=M.grow W;refine⟨κ,_,aB.set bg (Cv ?_)⟩;exact⟨aC,E,R' an ⟨U,ag⟩⟩
    ·rw[if_neg an];have aB:=bb.grow W;exact⟨κ,_,aB.set bg (Cv gu)⟩
   ·cases oD;exact Tc bg (p_ _ ah)
   ·have:=W (.tmp t) (by rw[af];simp[Op.operands,Call.operands]);have e:use (a7 C.aM s.ax (.tmp t))=(ca,.val (.fn aL b) f):=hu;grind
  grind
 grind
theorem afL(aU:dT C.P T)(bg:∀ i,o.dst=some i->i<C.nt){ty:TypeId}{x:Operand}(af:o.op=.range ty x){cc:hU}(h:Gl C.aM T s o ty x=some cc):qf C o s cc:=by
 unfold Gl at h;split at h
 ·rename_i k v d aH au;split at h;rename_i ca av hu;split at h
  ·rename_i es bU o';split at h
   ·cases h
   ·rename_i tL;cases h;have tL:d ∉ bU:=by grind
    obtain⟨i,j,G,_,_⟩:=(aU.b6 aH (by simp)).mp;refine⟨λa w Q K M bd hm=>?_,λgs oD=>(by grind),λW=>q2.use W (by rw[af];simp[Op.operands]) hu⟩;obtain⟨κ,F,M⟩:=M;obtain⟨F',f1,bb,f2⟩:=bl.lg (mQ o') M;have ae:=cO M x hu bd;have nM:=((dU rfl).1 (mi M.bD f1 o' f2 ae)).2;have iJ:=hm.2 () rfl;have pb:(s.cA bU).aa d=s.aa d:=by simp only[az.cA];grind
    have fin:∀ (cr:Obj),(∀ w',w'=w.alloc cr->wZ C.P k v F' w' w.heap.size none es)->(execOp a.eval o).run C.P w=.ok (.value (.pointer (some ⟨w.heap.size,0,none⟩))) (w.alloc cr)->o.wpIn (dS C.r) 0 C.P a w K Q:=by
     intro cr hit c6;have E:=bb.alloc (b:=d) (x:=⟨(s.aa d).gen+1,.cr k v none es⟩) (M.fK (bg d au)) (by grind) (o:=cr) (k:=⟨w.heap.size,0,0,false⟩) rfl λH κ' _ _ _=>hit _ rfl;refine ht (by grind) c6 (iJ _ _ ⟨_,F',bl.set (s:=(s.cA bU).cy d _) E bg ⟨⟨by simp[az.cy],rfl⟩,λ_ _=>by simp⟩⟩)
    rcases nM with⟨aw,rfl⟩ | ⟨r,ms,clk,aw,m1,m2,m3,m4,m5,m6⟩
    ·have ah:a.eval x=.map none:=(List.cons.inj aw).1;refine fin (.mapIter none 0 #[] 0) (λw' hw=>.inl ⟨by rw[hw];exact p1 _ _,rfl,rfl⟩) ?_;simp[execOp,af,Instr.range,dC G,ah]
    ·have ah:a.eval x=.map (some r):=(List.cons.inj aw).1;refine fin (.mapIter (some r) clk #[] clk) (λw' hw=>.inr ⟨r,ms,clk,#[],m1,?_,by rw[hw];exact p1 _ _,λi G=>(m5 i (by omega) G).2.2.2.2,m6,?_,λc hc=>by cases hc⟩) ?_
     ·rw[hw,o5 _ _ (bb.da r m1)];exact m2
     ·refine⟨List.range ms.size,by grind,List.nodup_range,λi=>by simp,λj aE fV=>?_⟩;have xg:j<ms.size:=by omega
      obtain⟨aP,aR,bO,gx,_⟩:=m5 j fV xg;refine⟨by grind,?_⟩;simp only[List.getElem_range];have he:c1 F' w w':=by rw[hw];exact c1.alloc bb.da _
      exact y0.mono ⟨aP,aR,bO,gx⟩ (λ_ h=>h) he
     ·have eU:(getObj r).run C.P w=.ok (.map ms clk) w:=by simp[getObj,Sem.run,m2]
      simp[execOp,af,Instr.range,dC G,ah,eU]
  grind
 grind
theorem afM(bg:∀ i,o.dst=some i->i<C.nt){x:Operand}(af:o.op=.entry x){cc:hU}(h:Gp C.aM s o x=some cc):qf C o s cc:=by
 unfold Gp at h;split at h
 ·rename_i b g ah;split at h
  ·rename_i aB;split at h
   ·rename_i k v c cm W;cases h;refine⟨λa w Q K M _ hm=>?_,λgs oD=>(by grind),λ_=>trivial⟩;obtain⟨κ,F,M⟩:=M;have ae:=j7 M x;rw[ah]at ae;have ae:=ae.2 aB.symm (by rw[W];rfl);have aS:=M.bD b;unfold cF at aS;rw[W]at aS;have fk:=A.kL.1 hm;have iJ:=A.ea.1 fk.2;obtain⟨c',jI⟩:=Option.isSome_iff_exists.1 fk.1;subst jI;rcases aS with⟨_,_,e⟩ | ⟨lK,es,clk,seen,E,U,ag,a1,bL,_,fS⟩
    ·cases e
    ·obtain⟨i,G,aD,he⟩:=fS c' rfl;have vk:es.find? (λe=>e.born == es[i].born)=some es[i]:=by
      rw[<-Array.find?_toList];have jM:es[i]∈es.toList:=by simp
      cases ao:es.toList.find? (λe=>e.born == es[i].born) with
      | none=>grind
      | some e=>
       have jg:=List.find?_some ao;have pX:=List.mem_of_find?_eq_some ao;obtain⟨j,aE,rfl⟩:=List.mem_iff_getElem.1 pX;grind
     have CX:(getObj (κ b).aa).run C.P w=.ok (.mapIter (some lK) clk seen clk) w:=by simp[getObj,Sem.run,ag]
     have xj:(getObj lK).run C.P w=.ok (.map es clk) w:=by simp[getObj,Sem.run,U]
     have c6:(execOp a.eval o).run C.P w=.ok (.value (.tuple #[es[i].key,es[i].val])) w:=by
      simp[execOp,af,Instr.entry,ae,CX,xj,aD,vk]
     refine ht (by grind) c6 (iJ _ _ ⟨κ,F,M.set bg ⟨[es[i].key,es[i].val],rfl,rfl,λn aA=>?_⟩⟩);match n,aA with
     | 0,_=>exact⟨he.1,he.2.1⟩
     | 1,_=>exact⟨he.2.2.1,he.2.2.2⟩
   grind
  grind
 grind
theorem afN{es:Array MapEntry}{seen:Array Nat}{clk:Nat}(a1:∀ i (h:i<es.size),es[i].born<clk) :
  (es.filter λe=>!seen.contains e.born).filter (λe=>decide (e.born<clk))=(es.filter λe=>!seen.contains e.born)/\(es.filter λe=>!seen.contains e.born).filter (λe=>decide (e.born>=clk))=#[]:=by
 have fT:∀ e∈es.filter λe=>!seen.contains e.born,e.born<clk:=by
  intro e he;have:=(Array.mem_filter.1 he).1;obtain⟨i,G,rfl⟩:=Array.mem_iff_getElem.1 this;grind
 constructor
 ·exact Array.filter_eq_self.2 λe he=>by grind
 ·exact Array.filter_eq_empty_iff.2 λe he=>by grind
theorem afO(P:Program)(w:World)(n:Nat):∃ j w',(choose (.mapNext n)).run P w=.ok j w'/\(0<n->j<n)/\(w'=w\/w'=w.drew):=by
 rw[run_choose];by_cases h:n<=1
 ·have:(Question.mapNext n).forced=true:=by simp[Question.forced,h]
  rw[this];grind
 ·have:(Question.mapNext n).forced=false:=by simp[Question.forced];omega
  rw[this];exact⟨_,_,rfl,λaA=>Nat.mod_lt _ aA,.inr rfl⟩
theorem afP(bg:∀ i,o.dst=some i->i<C.nt){x:Operand}{str:Bool}(af:o.op=.next x str){cc:hU}(h:Gn C.aM s o x str=some cc):qf C o s cc:=by
  unfold Gn at h;split at h
  · rename_i b g ah
    split at h
    · rename_i aB
      split at h
      · rename_i k v c cm W
        cases h
        refine⟨λa w Q K M _ hm=>?_,λgs oD=>(by grind),λ_=>trivial⟩
        obtain⟨κ,F,M⟩:=M
        have ae:=j7 M x
        rw[ah]at ae
        have ae:=ae.2 aB.symm (by rw[W];rfl)
        have aS:=M.bD b
        unfold cF at aS
        rw[W]at aS
        have au:∀ c,o.op≠.defer c:=by grind
        have gl:∀ w',(w'=w\/w'=w.drew)->cm=[]->(execOp a.eval o).run C.P w=.ok (.value (.tuple #[.bool false])) w'->o.wpIn (dS C.r) 0 C.P a w K Q:=by
          intro w' CY su c6;have cN:bl C s a w' κ F:=by
            rcases CY with rfl | rfl
            · exact M
            · exact M.drew
          have R8:s.cy b ⟨g,.cr k v c cm⟩=s:=by
            unfold az.cy;congr 1;funext i;by_cases G:i=b
            · rw[if_pos G,G,<-W,<-aB]
            grind
          refine ht au c6 (hm.2 none su _ _ ⟨κ,F,bl.set (s:=s.cy b ⟨g,.cr k v c cm⟩) (by grind) bg ⟨[.bool false],rfl,rfl,λn aA=>?_⟩⟩);have:n=0:=by simp only[SW]at aA;omega
          subst this;exact ff.2 rfl
        rcases aS with⟨E,U,_⟩ | ⟨lK,es,clk,seen,E,U,ag,a1,bL,⟨ids,i1,i2,i3,i4⟩,fS⟩
        · refine gl w (.inl rfl) U ?_
          have CX:(getObj (κ b).aa).run C.P w=.ok (.mapIter none 0 #[] 0) w:=by simp[getObj,Sem.run,E]
          simp[execOp,af,Instr.next,ae,CX]
        · have CX:(getObj (κ b).aa).run C.P w=.ok (.mapIter (some lK) clk seen clk) w:=by simp[getObj,Sem.run,ag]
          have xj:(getObj lK).run C.P w=.ok (.map es clk) w:=by simp[getObj,Sem.run,U]
          obtain⟨f1,f2⟩:=afN (seen:=seen) a1
          have fT:(!seen.isEmpty&&!es.isEmpty&&es.all (λe=>decide (e.born>=clk)))=false:=by
            by_cases he:es.size=0
            · grind
            · have:es.all (λe=>decide (e.born>=clk))=false:=by
                rw[Array.all_eq_false];exact⟨0,by omega,by grind⟩
              grind
          generalize afQ:(es.filter λe=>!seen.contains e.born)=left at f1 f2
          have afR:((if left.isEmpty=true then #[none] else #[])++Array.map some (left++(#[]:Array MapEntry)))=(if left.isEmpty=true then #[none] else Array.map some left):=by
            grind
          obtain⟨j,w',bE,c2,c3⟩:=afO C.P w (if left.isEmpty=true then #[none] else Array.map some left).size
          have cV:w'.heap=w.heap:=by rcases c3 with rfl | rfl<;>rfl
          have zU : ∀ r c7, (match (if left.isEmpty = true then #[none] else Array.map some left)[j]? with
                | some (some e)=>(do setObj (κ b).aa (.mapIter (some lK) clk (seen.push e.born) clk);pure (.tuple #[.bool true,e.key,e.val]):Sem Value)
                | some none=>pure (.tuple #[.bool false])
                | none => stuck "Next: no such candidate").run C.P w' = .ok r c7 -> (execOp a.eval o).run C.P w = .ok (.value r) c7 := by
            intro r c7 cN;simp only[execOp,af,Instr.next,ae,Sem.run_bind,CX,Result.andThen_ok,xj,fT,Bool.false_eq_true,if_false,afQ,f1,f2,afR,bE];exact (congrArg (λ(z:Result Value)=>z.andThen λv w'=>Sem.run C.P (Pure.pure (Next.value v)) w') cN).trans rfl
          by_cases hle:left.isEmpty=true
          · have Ku:left=#[]:=by grind
            have su:cm=[]:=by
              have:ids=[]:=List.eq_nil_iff_forall_not_mem.2 λi G=>by
                obtain⟨LQ,dz⟩:=(i3 i).1 G;have:es[i]∈left:=by
                  grind
                grind
              grind
            rw[hle]at zU c2
            simp only[if_true]at zU c2
            have aE:j=0:=by grind
            subst aE
            exact gl w' c3 su (zU _ _ rfl)
          · have hle:left.isEmpty=false:=by grind
            rw[hle]at zU c2
            simp only[Bool.false_eq_true,if_false]at zU c2
            have axW:0<left.size:=by
              grind
            have aE:j<left.size:=by grind
            have jM:left[j]∈(es.filter λe=>!seen.contains e.born):=by grind
            obtain⟨tN,Td⟩:=Array.mem_filter.1 jM
            obtain⟨i0,oy,afS⟩:=Array.mem_iff_getElem.1 tN
            have afT:i0∈ids:=(i3 i0).2 ⟨oy,by grind⟩
            obtain⟨q,br,LR⟩:=List.mem_iff_getElem.1 afT
            have LS:q<cm.length:=by omega
            have mS:(setObj (κ b).aa (.mapIter (some lK) clk (seen.push left[j].born) clk)).run C.P w'=.ok () { w' with heap:=w'.heap.setIfInBounds (κ b).aa (.mapIter (some lK) clk (seen.push left[j].born) clk) }:=by
              simp[setObj,Sem.run,cV,ag]
            have c6:=zU (.tuple #[.bool true,left[j].key,left[j].val]) { w' with heap:=w'.heap.setIfInBounds (κ b).aa (.mapIter (some lK) clk (seen.push left[j].born) clk) } (by
              rw[show (Array.map some left)[j]?=some (some left[j]) by simp];simp only[Sem.run_bind,mS,Result.andThen_ok,Sem.run_pure])
            have i_:dc w w':=by rcases c3 with rfl | rfl<;>exact⟨rfl,rfl,rfl⟩
            have cb:(κ b).aa<w.heap.size:=(Array.getElem?_eq_some_iff.1 ag).1
            have eN:lK≠(κ b).aa:=λe=>(M.own b (by grind)).2.1 (e ▸ E)
            have gv:fq s.aa κ (λi=>if i=b then (⟨g,.cr k v cm[q]? (cm.eraseIdx q)⟩:bJ) else s.aa i) κ:=
              qP aB.symm (λh=>by cases h) (λh=>by cases h) (λh=>by cases h) (λ_=>by rw[W];rfl)
            have gW:=M.o6 (b:=b) (x:=⟨g,.cr k v cm[q]? (cm.eraseIdx q)⟩) (w':={ w' with heap:=w'.heap.setIfInBounds (κ b).aa (.mapIter (some lK) clk (seen.push left[j].born) clk) }) (by rw[W];rfl) rfl gv (λh=>by cases h) (λh=>by cases h)
              (λr KK=>by grind) (by grind) ⟨i_.os,i_.tape,i_.output⟩ λH _ _ he=>by
                refine .inr ⟨lK,es,clk,seen.push left[j].born,E,?_,by grind,a1,bL,⟨ids.eraseIdx q,?_,?_,λi=>?_,λn aA CA=>?_⟩,λc' jI=>?_⟩
                · grind
                · grind
                · grind
                · rw[List.mem_eraseIdx_iff_getElem]
                  constructor
                  · rintro⟨n,aA,GD,rfl⟩
                    obtain⟨tZ,rb⟩:=(i3 ids[n]).1 (by simp)
                    refine⟨tZ,?_⟩
                    simp only[Array.contains_push,Bool.or_eq_false_iff]
                    refine⟨rb,?_⟩
                    rw[<-afS]
                    simp only[beq_eq_false_iff_ne,ne_eq]
                    intro e
                    have:ids[n]=i0:=bL _ _ tZ oy (by omega)
                    exact GD ((List.getElem?_inj aA i2).1 (by grind))
                  · rintro⟨tZ,rb⟩
                    simp only[Array.contains_push,Bool.or_eq_false_iff]at rb
                    obtain⟨n,aA,rfl⟩:=List.mem_iff_getElem.1 ((i3 i).2 ⟨tZ,rb.1⟩)
                    grind
                · have vs:(ids.eraseIdx q)[n]=if h:n<q then ids[n]'(by omega) else ids[n+1]'(by grind):=by
                    rw[List.getElem_eraseIdx]
                  have Te:(cm.eraseIdx q)[n]=if h:n<q then cm[n]'(by omega) else cm[n+1]'(by grind):=by
                    rw[List.getElem_eraseIdx]
                  have hlen:n+1<ids.length:=by grind
                  by_cases GD:n<q
                  · obtain⟨tZ,rb⟩:=i4 n (by omega) (by omega)
                    simp only[vs,Te,GD,dif_pos]
                    exact⟨tZ,rb.mono (λ_ h=>h) he⟩
                  · obtain⟨tZ,rb⟩:=i4 (n+1) hlen (by omega)
                    simp only[vs,Te,GD,dif_neg,not_false_eq_true]
                    exact⟨tZ,rb.mono (λ_ h=>h) he⟩
                · rw[List.getElem?_eq_getElem LS]at jI
                  cases jI
                  obtain⟨tZ,rb⟩:=i4 q br LS
                  refine⟨i0,oy,by grind,?_⟩
                  have aw:es[ids[q]]=es[i0]:=by congr 1
                  rw[aw]at rb
                  exact rb.mono (λ_ h=>h) he
            refine ht au c6 (hm.2 (some q) LS _ _ ⟨κ,F,bl.set (s:=s.cy b _) gW bg ⟨[.bool true,left[j].key,left[j].val],rfl,rfl,λn aA=>?_⟩⟩)
            match n,aA with
            | 0,_=>exact ff.2 rfl
            | 1,_=>trivial
            | 2,_=>trivial
      grind
    grind
  grind
end
end Go.Fer
namespace Go.Fer
open Go.RowKit
def CZ:z9'->List Value->List Value->Prop
 | [],[],aC=>aC=[]
 | none::g,u::us,aC=>∃ r1,aC=u::r1/\CZ g us r1
 | some n::g,u::us,aC=>∃ cs r1,u=.agg cs/\cs.size=n/\(∀ c∈cs.toList,c.oneCell'=true)/\aC=cs.toList++r1/\CZ g us r1
 | _,_,_=>False
def GF(g:z9')(v:Value)(aC:List Value):Prop:=∃ us:List Value,us.length=g.length/\v=(if us.length=1 then us.getD 0 undef else .tuple us.toArray)/\CZ g us aC
structure cR(P:Program)(aO:dF)(k:FuncId)(c:cK):Prop where
 enter:∀ args w,(callFunc k args).run P w=.ok (.enter k args) w
 iU:∀ (C:b_) (a:Act) (w:World) (κ:Nat->bC) (F:Nat->Prop) (D:c.cp.ai),C.P=P->C.w0=w->C.r=none->C.dfr=[]->C.nt=c.kd->C.aM=aO->bl C (c.cp.st D) a w κ F->(c.sh D).ck->
  Calls P k a.tmps w λe w'=>∃ v bm aC κ' F',e=.returned v/\(c.sh D).bK bm/\GF c.kB v aC/\bl { C with nt:=aC.length } (c.bK.st bm) { tmps:=aC.toArray,defers:=[] } w' κ' F'
section
variable {P:Program} {H H':Nat->bJ} {κ κ':Nat->bC} {F:Nat->Prop} {w:World} {g:Nat->Nat×Nat}
def pk(H H':Nat->bJ)(κ κ':Nat->bC)(g:Nat->Nat×Nat):Prop:=∀ b,(H b).gen=0/\p0 ⟨(g b).2,(H b).body⟩ (H' (g b).1) (κ b) (κ' (g b).1)
theorem pk.aW(h:pk H H' κ κ' g){b off:Nat}{v:Value}(ae:bB P H κ F w (.aW b 0 off) v):bB P H' κ' F w (.aW (g b).1 (g b).2 off) v:=by
 obtain⟨aX,aP,aR⟩:=h b;refine⟨⟨aP,ae.1.2⟩,λaB hc=>?_⟩;obtain⟨bE,c2⟩:=(aR aB).1 hc;rw[c2];exact ae.2 aX.symm bE
theorem pk.av(h:pk H H' κ κ' g)(t:bW){R:Type}(z:t.cons R){v:Value}(ae:bB P H κ F w (t.av c8 z).1 v):bB P H' κ' F w (t.av g z).1 v:=by
 cases t with
 | undef=>trivial
 | val t=>exact ae
 | dV t=>exact ae
 | aW b off=>exact h.aW ae
 | own b=>
  obtain⟨aX,aP,aR⟩:=h b;refine⟨⟨aP,ae.1.2⟩,λaB hc=>?_⟩;obtain⟨bE,c2,c3,c4⟩:=(aR aB).2.1 hc;rw[c2,c3];exact ae.2 aX.symm bE
 | sub b=>
  obtain⟨aX,aP,aR⟩:=h b;refine⟨⟨aP,ae.1.2⟩,λaB hc=>?_⟩;obtain⟨bE,c2,c3,c4⟩:=(aR aB).2.1 hc;rw[c2,c3,c4];exact ae.2 aX.symm bE
 | fI b=>
  obtain⟨aX,aP,aR⟩:=h b;refine⟨⟨aP,ae.1.2⟩,λaB hc=>?_⟩;obtain⟨bE,c2⟩:=(aR aB).2.2.1 hc;rw[c2];exact ae.2 aX.symm bE
 | j2 b=>
  obtain⟨aX,aP,aR⟩:=h b;refine⟨⟨aP,ae.1.2⟩,λaB hc=>?_⟩;obtain⟨bE,c2⟩:=(aR aB).2.2.2 hc;rw[c2];exact ae.2 aX.symm bE
 | cu=>exact ae
 | iy k fY=>
  obtain⟨aC,E,U,ag⟩:=ae;refine⟨aC,E,U,λi G=>?_⟩;have:=ag i G;have aw:vn c8 fY i=.aW fY[i].1 0 fY[i].2:=by simp[vn,hg,List.getD_eq_getElem?_getD,G,c8]
  have aN:vn g fY i=.aW (g fY[i].1).1 (g fY[i].1).2 fY[i].2:=by simp[vn,hg,List.getD_eq_getElem?_getD,G]
  rw[aw]at this;rw[aN];exact h.aW this
 | hF bs=>
  obtain⟨aC,E,U,ag⟩:=ae;refine⟨aC,E,U,λi G=>?_⟩;obtain⟨this,jI⟩:=ag i G;refine⟨?_,jI⟩;have aw:vo c8 bs i=.own bs[i] 0:=by simp[vo,hg,List.getD_eq_getElem?_getD,G,c8]
  have aN:vo g bs i=.own (g bs[i]).1 (g bs[i]).2:=by simp[vo,hg,List.getD_eq_getElem?_getD,G]
  rw[aw]at this;rw[aN];obtain⟨aX,aP,aR⟩:=h bs[i];refine⟨⟨aP,this.1.2⟩,λaB hc=>?_⟩;obtain⟨bE,c2,c3,c4⟩:=(aR aB).2.1 hc;rw[c2,c3];exact this.2 aX.symm bE
 | iV b=>
  obtain⟨aX,aP,aR⟩:=h b;refine⟨⟨aP,ae.1.2⟩,λaB hc=>?_⟩;obtain⟨bE,c2,c3,c4⟩:=(aR aB).2.1 hc;rw[c2,c3,c4];exact ae.2 aX.symm bE
 | aV aL=>trivial
 | hd=>exact ae
theorem zV(t:bW){R:Type}(z:t.cons R):(t.av g z).2=(t.av c8 z).2:=by cases t<;>rfl
theorem Tf:∀ (ts:List bW) {R:Type} (z:qc ts R),(pf g ts z).2=(pf c8 ts z).2
 | [],_,_=>rfl
 | t::ts,_,z=>by simp only[pf];rw[zV (g:=g) t z];exact Tf ts _
theorem Tg(t:b1){R:Type}(z:t.cons R):(t.body g z).2=(t.body c8 z).2:=by
 cases t with
 | cells t l=>exact Tf l z
 | gn e t=>exact zV t z.2
 | _=>rfl
theorem LU:∀ (ts:List (Nat×bW)) {R:Type} (z:oz ts R),(eC g ts z).2=(eC c8 ts z).2
 | [],_,_=>rfl
 | p::ts,_,z=>by simp only[eC];rw[zV (g:=g) p.2 z];exact LU ts _
theorem pk.avs(h:pk H H' κ κ' g):∀ (ts:List bW) {R:Type} (z:qc ts R) (i:Nat) {v:Value},bB P H κ F w ((pf c8 ts z).1.getD i .undef) v->bB P H' κ' F w ((pf g ts z).1.getD i .undef) v
 | [],_,_,i,v,_=>by simp[pf,bB]
 | t::ts,_,z,i,v,ae=>by
  simp only[pf]at ae ⊢;cases i with
  | zero=>exact h.av t z ae
  | succ i=>
   simp only[List.getD_cons_succ]at ae ⊢;rw[zV (g:=g) t z];exact h.avs ts _ i ae
theorem pk.bT(h:pk H H' κ κ' g):∀ (ts:List (Nat×bW)) {R:Type} (z:oz ts R) (i:Nat) {v:Value},bB P H κ F w (fr (eC c8 ts z).1 i) v->bB P H' κ' F w (fr (eC g ts z).1 i) v
 | [],_,_,i,v,_=>by simp[eC,fr,bB]
 | p::ts,_,z,i,v,ae=>by
  simp only[eC,fr]at ae ⊢;by_cases e:i=p.1
  ·rw[if_pos e]at ae ⊢;exact h.av p.2 z ae
  ·rw[if_neg e]at ae ⊢;rw[zV (g:=g) p.2 z];exact h.bT ts _ i ae
theorem Th:∀ (ts:List (Nat×bW)) {R:Type} (z:oz ts R) (i:Nat) {l aL L n st},fr (eC g ts z).1 i=.aV l aL L n st->fr (eC c8 ts z).1 i=.aV l aL L n st
 | [],_,_,i,_,_,_,_,_,h=>by simp[eC,fr]at h
 | p::ts,_,z,i,l,aL,L,n,st,h=>by
  simp only[eC,fr]at h ⊢;by_cases e:i=p.1
  ·rw[if_pos e]at h ⊢;obtain⟨jH,t⟩:=p;cases t<;>first | exact h | cases h
  ·rw[if_neg e]at h ⊢;rw[zV (g:=g) p.2 z]at h;exact Th ts _ i h
def xG(x y:bQ):Prop:=x.fJ=y.fJ/\x.fg=y.fg/\x.len=y.len/\x.e2=y.e2/\x.gV=y.gV/\x.mL=y.mL/\∀ k,x.bZ k=y.bZ k
theorem xG.refl(x:bQ):xG x x:=⟨rfl,rfl,rfl,rfl,rfl,rfl,λ_=>rfl⟩
theorem afU(t:b1){R:Type}(z:t.cons R):xG (t.body g z).1 (t.body c8 z).1:=by
 cases t with
 | cells t l=>exact⟨rfl,rfl,rfl,rfl,rfl,rfl,λ_=>rfl⟩
 | gn e t=>exact⟨rfl,rfl,rfl,rfl,rfl,rfl,λ_=>rfl⟩
 | _=>exact xG.refl _
theorem afV:∀ (t:ad) (x:t.ai) (av:aG),av∈nH t x->∀ {v:Value},bB P H κ F w av v->bB P H' κ' F w av v:=by
  intro t;induction t with
  | cT=>intro x av h;cases h
  | st t aJ=>intro x av h;exact aJ x av h
  | ay a b fx eJ=>
   intro x av h;rcases List.mem_append.1 h with h | h
   ·exact fx _ av h
   ·exact eJ _ av h
  | array n e aJ=>
   intro x av h;simp only[nH,List.mem_flatMap]at h;grind
  | _=>
   intro x av h v ae;simp only[nH,List.mem_singleton]at h;subst h;exact ae
theorem pk.body(h:pk H H' κ κ' g)(t:b1){R:Type}(z:t.cons R){k:bC}(W:jB P H κ F w k (t.body c8 z).1):jB P H' κ' F w k (t.body g z).1:=by
 cases t with
 | cells t l=>
  obtain⟨cs,T,E,U,ag⟩:=W;exact⟨cs,T,E,U,λi G=>⟨h.avs l z i (ag i G).1,(ag i G).2⟩⟩
 | fZ t=>
  obtain⟨cs,T,E,U,ag⟩:=W;refine⟨cs,T,E,U,λi G=>⟨?_,(ag i G).2⟩⟩;have:=(ag i G).1;unfold hg at this ⊢;rw[List.getD_eq_getElem?_getD]at this ⊢;cases aj:(nH t z.1)[i]? with
  | none=>trivial
  | some av=>
   rw[aj]at this;simp only[Option.getD_some]at this ⊢;have jM:=List.mem_of_getElem? aj;exact afV t z.1 av jM this
 | bh e=>exact W
 | hC e=>exact W
 | mp k v=>exact W
 | jh k v=>exact W
 | gJ t=>exact W
 | cr k v=>exact W
 | gn e t=>
  obtain⟨aX,cs,T,E,U,ag,a1,bL,dm,fS,jg⟩:=W;exact⟨aX,cs,T,E,U,ag,a1,bL,dm,h.av t z.2 fS,jg⟩
theorem Ti{l:List (Nat×b1)}{x y:pe l}(h:x=y)(g:Nat->Nat×Nat)(b:Nat):eP (hi g l x) b=eP (hi g l y) b:=by rw[h]
theorem Tj:∀ (l:List (Nat×b1)) (x:pe l) (b:Nat),xG (eP (hi g l x) b).body (eP (hi c8 l x) b).body
 | [],_,_=>xG.refl _
 | p::l,x,b=>by
  simp only[hi,eP];split
  ·exact afU p.2 x
  ·rw[Tg (g:=g) p.2 x];exact Tj l _ b
theorem pk.bD(h:pk H H' κ κ' g):∀ (l:List (Nat×b1)) (x:pe l) (b:Nat) {k:bC},jB P H κ F w k (eP (hi c8 l x) b).body->jB P H' κ' F w k (eP (hi g l x) b).body
 | [],_,_,k,_=>trivial
 | p::l,x,b,k,W=>by
  simp only[hi,eP]at W ⊢;split
  ·rename_i e;rw[if_pos e]at W;exact h.body p.2 x W
  ·rename_i e;rw[if_neg e]at W;rw[Tg (g:=g) p.2 x];exact h.bD l _ b W
theorem LV:∀ (l:List (Nat×bQ)) (b:Nat),(eP l b).gen=0
 | [],_=>rfl
 | p::l,b=>by
  simp only[eP];split
  ·rfl
  ·exact LV l b
end
end Go.Fer
namespace Go.Fer
open Go.RowKit
theorem GG{ak:Type}{k:ak->Nat}:∀ {l:List ak},(l.map k).Nodup->∀ {p:ak},p∈l->l.find? (λq=>k q == k p)=some p
 | [],_,_,h=>by cases h
 | a::l,aA,p,h=>by
  simp only[List.map_cons,List.nodup_cons]at aA;by_cases e:k a=k p
  ·grind
  ·rw[List.find?_cons_of_neg (by grind)];rcases List.mem_cons.1 h with rfl | h
   ·omega
   ·exact GG aA.2 h
theorem C0{ak:Type}{k:ak->Nat}{l:List ak}(aA:(l.map k).Nodup){p q:ak}(an:p∈l)(br:q∈l)(e:k p=k q):p=q:=by
 have E:=GG aA an;rw[e,GG aA br]at E;grind
theorem Tk:∀ {l:z6'},(l.map (·.1)).Nodup->∀ {p},p∈l->hV l p.1=p.2
 | [],_,_,h=>by cases h
 | a::l,aA,p,h=>by
  simp only[List.map_cons,List.nodup_cons]at aA;simp only[hV];by_cases e:p.1=a.1
  ·grind
  ·rw[if_neg e];rcases List.mem_cons.1 h with rfl | h
   ·omega
   ·exact Tk aA.2 h
theorem Tl:∀ {l:z6'} {b:Nat},b ∉ l.map (·.1)->hV l b=(m',0)
 | [],_,_=>rfl
 | a::l,b,h=>by
  simp only[List.map_cons,List.mem_cons,not_or]at h;simp only[hV];rw[if_neg h.1];exact Tl h.2
theorem Tm(s:az)(d:Nat)(f:Nat->Nat)(ins:List Nat):∀ (l:List (Nat×b1)) (j:Nat),(sj s d f ins l j).map (·.1)=l.map (·.1)
 | [],_=>rfl
 | p::l,j=>by
  simp only[sj,List.map_cons,Tm s d f ins l (j+1)];grind
theorem Tn(s:az)(d:Nat)(f:Nat->Nat)(ins:List Nat):∀ (l:List (Nat×b1)) (j:Nat) {p:Nat×(Nat×Nat)},p∈sj s d f ins l j->
  (p.1∈ins/\p.2.1=f p.1/\∃ t,(p.1,t)∈l/\((p.2.2=(s.aa (f p.1)).gen/\((∀ (g:Nat->Nat×Nat) (R:Type) (z:t.cons R),(t.body g z).1.fg=false)\/(w1<=p.1/\∃ e,t=.bh e)))\/p.2.2=(s.aa (f p.1)).gen+1))\/
  (p.1 ∉ ins/\p.2.2=(s.aa p.2.1).gen+1/\50000+10*d+j<=p.2.1/\p.2.1<50000+10*d+j+l.length)
 | [],_,p,h=>by cases h
 | q::l,j,p,h=>by
  simp only[sj,List.mem_cons]at h;rcases h with h | h
  ·by_cases br:ins.contains q.1=true
   ·rw[if_pos br]at h;subst h;refine .inl ⟨by grind,rfl,q.2,by simp,?_⟩;obtain⟨dy,t⟩:=q;cases t with
    | bh e=>
     grind
    | _=>first | exact .inr rfl | exact .inl ⟨rfl,.inl λ_ _ _=>rfl⟩
   grind
  ·rcases Tn s d f ins l (j+1) h with⟨E,U,t,ag,a1⟩ | ⟨E,U,ag,a1⟩
   ·exact .inl ⟨E,U,t,List.mem_cons_of_mem _ ag,a1⟩
   ·exact .inr ⟨E,U,by omega,by simp only[List.length_cons];omega⟩
theorem GH(g:Nat->Nat×Nat):∀ (l:List (Nat×b1)) (x:pe l) (b:Nat),(eP (hi g l x) b=⟨0,.fy⟩/\b ∉ l.map (·.1))\/∃ q∈l,q.1=b/\∃ (R:Type) (z:q.2.cons R),eP (hi g l x) b=⟨0,(q.2.body g z).1⟩
 | [],_,_=>.inl ⟨rfl,by simp⟩
 | p::l,x,b=>by
  simp only[hi,eP];by_cases e:b=p.1
  ·grind
  ·rw[if_neg e];rcases GH g l (p.2.body g x).2 b with⟨E,U⟩ | ⟨q,E,U⟩
   ·exact .inl ⟨E,by rw[List.map_cons,List.mem_cons,not_or];exact⟨e,U⟩⟩
   ·exact .inr ⟨q,List.mem_cons_of_mem _ E,U⟩
theorem afW{t u:b1}(h:t.F7 u=true){g g':Nat->Nat×Nat}{R LW:Type}(z:t.cons R)(mm:u.cons LW) :
  ((t.body g z).1.fJ=true->(u.body g' mm).1.fJ=true/\∀ k,(u.body g' mm).1.bZ k=true)/\((t.body g z).1.gV=true->(u.body g' mm).1.gV=true/\∀ k,(u.body g' mm).1.bZ k=true)/\(t.body g z).1.mL=false:=by
 cases t<;>cases u<;>first
  | exact Bool.noConfusion h
  | exact⟨λ_=>⟨rfl,λ_=>rfl⟩,λh=>Bool.noConfusion h,rfl⟩
  | exact⟨λh=>Bool.noConfusion h,λ_=>⟨rfl,λ_=>rfl⟩,rfl⟩
  | exact⟨λh=>Bool.noConfusion h,λh=>Bool.noConfusion h,rfl⟩
theorem xH:∀ (ts:List (Nat×bW)) {R:Type} (g:Nat->Nat×Nat) (z:oz ts R) (i:Nat),ts.any (λp=>p.1 == i)=false->fr (eC g ts z).1 i=.undef
 | [],_,_,_,_,_=>rfl
 | p::ts,_,g,z,i,h=>by
  simp only[List.any_cons,Bool.or_eq_false_iff,beq_eq_false_iff_ne]at h;simp only[eC,fr];rw[if_neg (Ne.symm h.1)];exact xH ts g _ i h.2
theorem LX{P:Program}{H:Nat->bJ}{κ:Nat->bC}{F:Nat->Prop}{w:World}:∀ (g:z9') {us aC:List Value},CZ g us aC->∀ (c:Nat->aG) (i:Nat),(∀ j,j<aC.length->bB P H κ F w (c (i+j)) (aC.getD j undef))->
  (pg g c i).length=g.length/\us.length=g.length/\∀ j,j<g.length->bB P H κ F w ((pg g c i).getD j .undef) (us.getD j undef)
 | [],[],aC,_,_,_,_=>⟨rfl,rfl,λj aE=>by cases aE⟩
 | [],_::_,_,h,_,_,_=>h.elim
 | none::g,[],_,h,_,_,_=>h.elim
 | some n::g,[],_,h,_,_,_=>h.elim
 | none::g,u::us,aC,h,c,i,ae=>by
  obtain⟨r1,rfl,h⟩:=h;obtain⟨E,U,ag⟩:=LX g h c (i+1) λj aE=>by
   have:=ae (j+1) (by grind);rw[show i+(j+1)=i+1+j by omega]at this;simpa using this
  refine⟨by simp[pg,E],by grind,λj aE=>?_⟩;cases j with
  | zero=>simpa [pg]using ae 0 (by simp)
  | succ j=>simpa [pg]using ag j (by grind)
 | some n::g,u::us,aC,h,c,i,ae=>by
  obtain⟨cs,r1,rfl,aA,nN,rfl,h⟩:=h;obtain⟨E,U,ag⟩:=LX g h c (i+n) λj aE=>by
   have:=ae (n+j) (by grind);rw[show i+(n+j)=i+n+j by omega]at this;have e:(cs.toList++r1).getD (n+j) undef=r1.getD j undef:=by
    grind
   rw[e]at this;omega
  refine⟨by simp[pg,E],by grind,λj aE=>?_⟩;cases j with
  | zero=>
   simp only[pg,List.getD_cons_zero];refine⟨cs.toList,by simp,by omega,λj aE=>?_⟩;grind
  | succ j=>simpa [pg]using ag j (by grind)
theorem afX{P:Program}{H:Nat->bJ}{κ:Nat->bC}{F:Nat->Prop}{w:World}{g:z9'}{v:Value}{aC:List Value}(h:GF g v aC){c:Nat->aG}(ae:∀ j,bB P H κ F w (c j) (aC.getD j undef)) :
  bB P H κ F w (Ls (pg g c 0)) v:=by
 obtain⟨us,E,U,ag⟩:=h;obtain⟨aP,_,bO⟩:=LX g ag c 0 (λj _=>by simpa using ae j);subst U;generalize pg g c 0=l at aP bO;unfold Ls;split
 ·grind
 ·rename_i aj;have eN:us.length≠1:=λe=>by
   have:l.length=1:=by omega
   match l,this with
   | [x],_=>grind
  rw[if_neg eN];refine⟨us,rfl,by omega,λi G=>?_⟩;unfold hg;grind
section
variable {C:b_} {s:az} {a:Act} {w:World} {κ:Nat->bC} {F:Nat->Prop}
theorem bl.args(M:bl C s a w κ F){avs:List aG}{us:List Value}(aA:us.length<=eQ)(aj:avs.length=us.length)(ae:∀ i,i<us.length->bB C.P s.aa κ F w (avs.getD i .undef) (us.getD i undef)) :
    bl { C with nt:=us.length,dfr:=[],r:=none } (si s avs) { tmps:=us.toArray,defers:=[] } w κ F:=
  { M with
    dG:=by simp,dfr:=rfl,gp:=aA
    bT:=λi=>by
      show bB C.P s.aa κ F w (if i=b5 then s.ax b5 else if i<avs.length then avs.getD i .undef else .undef) (us.toArray.getD i undef);split
      · rename_i e
        subst e
        have E:=M.bT b5
        have U:a.tmps.getD b5 undef=undef:=by
          have:=M.dG;have:=M.gp;rw[Array.getD_eq_getD_getElem?,Array.getElem?_eq_none (by unfold b5 eQ at *;omega)];rfl
        have ag:us.toArray.getD b5 undef=undef:=by
          rw[Array.getD_eq_getD_getElem?,Array.getElem?_eq_none (by simp only[List.size_toArray];unfold b5 eQ at *;omega)];rfl
        grind
      · split
        · simp_all
        · trivial
    bD:=M.bD
    eK:=λl aL L n st e=>M.eK l aL L n st (by simpa [si]using e) }
def re(C:b_)(w:World)(F':Nat->Prop)(n:Nat)(own Y:Nat->Prop)(ia:(Nat->Option Nat)×(Nat->Option (bC×Nat))):b_:=
 { C with w0:=w,F0:=F',K0:=λr=>r<w.heap.size/\¬own r/\¬Y r,nt:=n,dfr:=[],r:=none,ia:=ia.1,JZ:=ia.2 }
structure C2(C:b_)(s:az)(w:World)(κ:Nat->bC)(F:Nat->Prop)(sl:aG)(Y:Nat->Prop):Prop where
 eK:∀ l aL L n st,sl=.aV l aL L n st->(∃ I,C.cc=⟨l,aL,L,I⟩)/\C.cc.hA C.P/\C.cc.at aL n st F Y w
 low:∀ r,Y r->r<w.heap.size/\¬F r/\¬C.K0 r
 own:∀ b,(s.aa b).body.bZ (κ b)=true->¬Y (κ b).aa
 GI:sl=.undef->∀ r,¬Y r
theorem bl.afY(M:bl C s a w κ F){sl:aG}(h:∀ l aL L n st,sl=.aV l aL L n st->s.ax b5=.aV l aL L n st):∃ Y,C2 C s w κ F sl Y:=by
 by_cases aD:∃ l aL L n st,sl=.aV l aL L n st
 ·obtain⟨l,aL,L,n,st,e⟩:=aD;obtain⟨E,U,Y,ag,a1,bL⟩:=M.eK l aL L n st (h _ _ _ _ _ e);refine⟨Y,⟨λdH kA e6 iY il a6=>?_,ag,a1,λa6=>?_⟩⟩
  ·rw[e]at a6;cases a6;exact⟨E,U,bL⟩
  ·rw[e]at a6;cases a6
 ·exact⟨λ_=>False,⟨λl aL L n st e=>(aD ⟨l,aL,L,n,st,e⟩).elim,λ_ h=>h.elim,λ_ _ h=>h,λ_ _ h=>h⟩⟩
theorem afZ{C1:b_}{eG:az}{b8:Act}{F':Nat->Prop}{bU:List Nat}{f:Nat->Nat}{sh:dI}{D:sh.ai}{Y:Nat->Prop}{ids:List Nat}(jq:C1.P=C.P)(tG:C1.aM=C.aM)(rf:C1.dfr=[])
  (gN:bl C1 (eG.cA bU) b8 w κ F') (au:GB C1 eG b8 w κ f F' sh D bU) (iE:C2 C (eG.cA bU) w κ F' ((sh.st D).ax b5) Y)
  (ao:∀ b be,b∈sh.oA->be∈sh.oA->f b=f be->b=be) (hid:∀ b∈ids,eQ<=b) :
  bl (re C w F' C1.nt (λr=>∃ b,((sh.st D).aa b).body.bZ (κ (f b))=true/\(κ (f b)).aa=r) Y (λb=>if b∈ids then some (κ (f b)).aa else none,λb=>if b∈ids/\w1<=b then some (κ (f b),((sh.st D).aa b).body.len) else none)) (sh.st D) b8 w (λb=>κ (f b)) F' where
 dG:=gN.dG
 dfr:=gN.dfr.trans rf
 bT:=λi=>by have:=au.bT i;rw[jq]at this;exact this
 bD:=λb=>by have:=au.bD b;rw[jq]at this;exact this
 own:=λb W=>by
  have E:=gN.own (f b) (au.xE W);exact⟨E.1,E.2.1,λh=>h.2.1 ⟨b,W,rfl⟩⟩
 inj:=λb be W db e=>ao b be (au.bZ b W).2.2 (au.bZ be db).2.2 (gN.inj _ _ (au.xE W) (au.xE db) e)
 da:=gN.da
 hf:=λr M=>.inl M
 hP:=λr M=>M
 hs:=λr M=>M.1
 eF:=λ_ _=>rfl
 size:=Nat.le_refl _
 ev:=dc.refl _
 gp:=gN.gp
 ko:=λb r h=>by
  simp only[re]at h;grind
 jC:=λb r h _=>by
  simp only[re]at h;grind
 j3:=λb k h=>by
  simp only[re]at h;grind
 kp:=λb k h _ _=>by
  simp only[re]at h;grind
 eK:=λl aL L n st e=>by
  obtain⟨E,U,ag⟩:=iE.eK l aL L n st e;exact⟨E,U,Y,λr M=>⟨(iE.low r M).1,(iE.low r M).2.1,λh=>h.2.2 M⟩,λb W=>iE.own _ (au.xE W),ag⟩
 jD:=by have:=gN.jD;rw[jq,tG]at this;exact this
 iz:=by have:=gN.iz;rw[jq]at this;exact this
structure To(s:az)(κ:Nat->bC)(ia:(Nat->Option Nat)×(Nat->Option (bC×Nat)))(bs:List (Nat×bQ))(cg:z6'):Prop where
 eb:(cg.map (·.1)).Nodup
 ee:(cg.map (·.2.1)).Nodup
 fy:m' ∉ cg.map (·.2.1)
 af0:(s.aa m').body=.fy
 Tp:∀ p∈cg,(p.2.1<eQ/\(s.aa p.2.1).gen<p.2.2)\/
  (((eP bs p.1).body.fJ=true->(s.aa p.2.1).body.fJ=true/\ia.1 p.1=some (κ p.2.1).aa)/\((eP bs p.1).body.gV=true->(s.aa p.2.1).body.gV=true/\ia.1 p.1=some (κ p.2.1).aa)/\(eP bs p.1).body.mL=false/\
   ((p.2.2=(s.aa p.2.1).gen/\((eP bs p.1).body.fg=true->(s.aa p.2.1).body.fg=true/\(eP bs p.1).body.e2=(s.aa p.2.1).body.e2/\ia.2 p.1=some (κ p.2.1,(s.aa p.2.1).body.len)))\/p.2.2=(s.aa p.2.1).gen+1))
theorem af1{F' own Y:Nat->Prop}{sl:aG}{n:Nat}{ia:(Nat->Option Nat)×(Nat->Option (bC×Nat))}{ins:List Nat}{bK:dI}{bm:bK.ai}{aC:List Value}{w':World}{na:Nat->bC}{ek:Nat->Prop}
    (M:bl C s a w κ F') (iE:C2 C s w κ F' sl Y) (gq:∀ r,own r->∃ b,b∈ins/\(s.aa b).body.bZ (κ b)=true/\(κ b).aa=r)
    (hI:bl { re C w F' n own Y ia with nt:=aC.length } (bK.st bm) { tmps:=aC.toArray,defers:=[] } w' na ek)
    {cg:z6'} (gr:To s κ ia (hi (hV cg) bK.bD (eC (hV cg) bK.bT bm).2) cg)
    {H':Nat->bJ} {κn:Nat->bC} (zW:∀ p∈cg,H' p.2.1=⟨p.2.2,(eP (hi (hV cg) bK.bD (eC (hV cg) bK.bT bm).2) p.1).body⟩/\κn p.2.1=na p.1)
    (C3:∀ b,b ∉ cg.map (·.2.1)->κn b=κ b/\(b∈ins->H' b=⟨(s.aa b).gen+1,.fy⟩)/\(b ∉ ins->H' b=s.aa b))
    {X:aG} (zX:X=fr (eC (hV cg) bK.bT bm).1 b5\/X=.undef\/(X=s.ax b5/\sl=.undef)) :
    bl C ⟨λi=>if i=b5 then X else s.ax i,H'⟩ a w' κn ek/\
    ∀ i,bB C.P H' κn ek w' (fr (eC (hV cg) bK.bT bm).1 i) (aC.toArray.getD i undef):=by
  generalize C4:hi (hV cg) bK.bD (eC (hV cg) bK.bT bm).2=bs at gr zW;have q3:∀ b,xG (eP bs b).body ((bK.st bm).aa b).body:=λb=>by
    rw[<-C4,Ti (LU bK.bT bm)];exact Tj bK.bD (eC c8 bK.bT bm).2 b
  have C5:pk (bK.st bm).aa H' na κn (hV cg):=by
    intro b;refine⟨LV _ b,?_⟩;by_cases W:b∈cg.map (·.1)
    · obtain⟨p,an,rfl⟩:=List.mem_map.1 W
      rw[Tk gr.eb an]
      obtain⟨E,U⟩:=zW p an
      rw[E,U]
      obtain⟨aP,aR,bO,gx,ox,vt,_⟩:=q3 p.1
      exact⟨Nat.le_refl _,λ_=>⟨λh=>⟨aP ▸ h,rfl⟩,λh=>⟨aR ▸ h,rfl,bO,gx⟩,λh=>⟨ox ▸ h,rfl⟩,λh=>⟨vt ▸ h,rfl⟩⟩⟩
    · rw[Tl W]
      obtain⟨_,U,ag⟩:=C3 m' gr.fy
      have au:(H' m').body=.fy:=by
        by_cases G:m'∈ins
        · grind
        · rw[ag G];exact gr.af0
      refine⟨Nat.zero_le _,λ_=>?_⟩
      show ((H' m').body.fJ=true->_)/\((H' m').body.fg=true->_)/\((H' m').body.gV=true->_)/\((H' m').body.mL=true->_)
      rw[au]
      exact⟨λh=>(by cases h),λh=>(by cases h),λh=>(by cases h),λh=>(by cases h)⟩
  have GJ:∀ b,(∃ p∈cg,p.2.1=b)\/b ∉ cg.map (·.2.1):=λb=>by
    grind
  have GK:∀ p∈cg,∀ r,ia.1 p.1=some r->(eP bs p.1).body.fJ=true\/(eP bs p.1).body.gV=true->(na p.1).aa=r:=λp an r M h=>by
    obtain⟨aP,_,_,_,ox,_⟩:=q3 p.1;exact hI.jC p.1 r M (h.imp (λh=>aP ▸ h) (λh=>ox ▸ h))
  have af2:∀ p∈cg,∀ k,ia.2 p.1=some k->(eP bs p.1).body.fg=true->na p.1=k.1/\(eP bs p.1).body.len=k.2:=λp an k al h=>by
    obtain⟨_,aR,bO,_⟩:=q3 p.1;obtain⟨E,U⟩:=hI.kp p.1 k al (LV _ _) (aR ▸ h);grind
  have aj:fq s.aa κ H' κn:=by
    rw[BU];intro b;rcases GJ b with⟨p,an,rfl⟩ | W
    · obtain⟨E,U⟩:=zW p an
      rw[E,U]
      rcases gr.Tp p an with⟨_,h⟩ | ⟨hc,hm,hit,h⟩
      · exact⟨Nat.le_of_lt h,λe=>(by grind)⟩
      · rcases h with⟨h,e'⟩ | h
        · refine⟨Nat.le_of_eq h.symm,λ_=>⟨λh=>⟨(hc h).1,GK p an _ (hc h).2 (.inl h)⟩,λh=>?_,λh=>⟨(hm h).1,GK p an _ (hm h).2 (.inr h)⟩,λh=>?_⟩⟩
          · have h:(eP bs p.1).body.fg=true:=h
            obtain⟨b8,a2,a3⟩:=e' h
            obtain⟨dN,e0⟩:=af2 p an _ a3 h
            exact⟨b8,dN,e0,a2⟩
          · have h:(eP bs p.1).body.mL=true:=h
            rw[hit]at h;cases h
        · exact⟨by grind,λe=>(by grind)⟩
    · obtain⟨E,U,ag⟩:=C3 b W
      rw[E]
      by_cases G:b∈ins
      · rw[U G]
        exact⟨Nat.le_succ _,λe=>(by grind)⟩
      · rw[ag G];exact p0.refl _ _
  have zY:w.heap.size<=w'.heap.size:=hI.size;have bo:∀ r,F' r->ek r:=hI.hP;have iJ:∀ r,r<w.heap.size->¬own r->¬Y r->w'.heap[r]?=w.heap[r]?:=λr E U ag=>hI.eF r ⟨E,U,ag⟩;have vu:∀ r,C.K0 r->r<w.heap.size:=λr h=>Nat.lt_of_lt_of_le (M.hs r h) M.size;have LY:∀ r,own r->¬C.K0 r/\¬F' r:=λr h=>by
    obtain⟨b,_,E,rfl⟩:=gq r h;exact⟨(M.own b E).2.2,(M.own b E).2.1⟩
  have Tq:∀ r,¬(r<w.heap.size/\¬own r/\¬Y r)->¬C.K0 r:=λr h al=>h ⟨vu r al,λaf=>(LY r af).1 al,λaQ=>(iE.low r aQ).2.2 al⟩;have qg:c1 F' w w':=⟨zY,λr h=>iJ r (M.da r h) (λaf=>(LY r af).2 h) λaQ=>(iE.low r aQ).2.1 h⟩
  have zB:∀ r,ek r->F' r\/¬(r<w.heap.size/\¬own r/\¬Y r):=hI.hf;have su:∀ b,b ∉ ins->(s.aa b).body.bZ (κ b)=true->(κ b).aa<w.heap.size/\¬own (κ b).aa/\¬Y (κ b).aa:=λb W af=>by
    refine⟨(M.own b af).1,λh=>?_,iE.own b af⟩;obtain⟨be,E,U,ag⟩:=gq _ h;exact W (M.inj be b U af ag ▸ E)
  have y5:∀ b,(H' b).body.bZ (κn b)=true->(∃ p∈cg,p.2.1=b/\((bK.st bm).aa p.1).body.bZ (na p.1)=true/\κn b=na p.1)\/(b ∉ cg.map (·.2.1)/\b ∉ ins/\κn b=κ b/\(s.aa b).body.bZ (κ b)=true):=λb W=>by
    rcases GJ b with⟨p,an,rfl⟩ | aA
    · obtain⟨E,U⟩:=zW p an
      rw[E,U]at W
      exact .inl ⟨p,an,rfl,by rw[<-(q3 p.1).2.2.2.2.2.2];exact W,U⟩
    · obtain⟨E,U,ag⟩:=C3 b aA
      by_cases G:b∈ins
      · rw[U G]at W;cases W
      grind
  have fl:∀ i,bB C.P H' κn ek w' (fr (eC (hV cg) bK.bT bm).1 i) (aC.toArray.getD i undef):=λi=>C5.bT bK.bT bm i (hI.bT i);refine⟨{ dG := M.dG, dfr := M.dfr, bT := λi => ?_, bD := λb => ?_, own := λb W => ?_, inj := λb be W db e => ?_, da := hI.da, hf := λr h => ?_, hP := λr h => bo r (M.hP r h), hs := M.hs, eF := λr h => ?_,size:=Nat.le_trans M.size zY,ev:=M.ev.trans hI.ev,gp:=M.gp,ko:=M.ko,jC:=λb r h hc=>?_,j3:=M.j3,kp:=λb k h aX ba=>?_,eK:=λl aL L m st e=>?_,jD:=M.jD,iz:=hI.iz },fl⟩
  · show bB C.P H' κn ek w' (if i=b5 then X else s.ax i) _
    split
    · rename_i e
      subst e
      have hu:a.tmps.getD b5 undef=undef:=by
        have:=M.dG;have:=M.gp;rw[Array.getD_eq_getD_getElem?,Array.getElem?_eq_none (by unfold b5 eQ at *;omega)];rfl
      rcases zX with rfl | rfl | ⟨rfl,_⟩
      · have h:=fl b5
        have LZ:aC.toArray.getD b5 undef=undef:=by
          have:aC.length<=eQ:=hI.gp;rw[Array.getD_eq_getD_getElem?,Array.getElem?_eq_none (by simp only[List.size_toArray];unfold b5 eQ at *;omega)];rfl
        grind
      · trivial
      · exact bB.later aj bo qg (M.bT b5)
    · exact bB.later aj bo qg (M.bT i)
  · show jB C.P H' κn ek w' (κn b) (H' b).body
    rcases GJ b with⟨p,an,rfl⟩ | aA
    · obtain⟨E,U⟩:=zW p an
      rw[E,U,<-C4,Ti (LU bK.bT bm)]
      exact C5.bD bK.bD (eC c8 bK.bT bm).2 p.1 (hI.bD p.1)
    · obtain⟨E,U,ag⟩:=C3 b aA
      by_cases G:b∈ins
      · rw[U G];trivial
      · have:=cF.lb (H':=H') (κ':=κn) (M.bD b) aj bo qg (by grind) E λaf=>iJ _ (su b G af).1 (su b G af).2.1 (su b G af).2.2
        exact this
  · rcases y5 b W with⟨p,an,_,E,U⟩ | ⟨_,E,U,ag⟩
    · have:=hI.own p.1 E
      rw[U]
      exact⟨this.1,this.2.1,Tq _ this.2.2⟩
    · rw[U]
      have a1:=M.own b ag
      grind
  · rcases y5 b W with⟨p,an,rfl,E,U⟩ | ⟨_,E,U,ag⟩<;>rcases y5 be db with⟨p',B',rfl,zl,xb⟩ | ⟨_,zl,xb,Tr⟩
    · rw[U,xb]at e
      have:=hI.inj _ _ E zl e
      rw[C0 gr.eb an B' this]
    · rw[U,xb]at e
      exact ((hI.own p.1 E).2.2 (e ▸ su be zl Tr)).elim
    · rw[U,xb]at e
      exact ((hI.own p'.1 zl).2.2 (e ▸ su b E ag)).elim
    · rw[U,xb]at e
      exact M.inj b be ag Tr e
  · rcases zB r h with h | h
    · exact M.hf r h
    grind
  · exact (iJ r (vu r h) (λaf=>(LY r af).1 h) λaQ=>(iE.low r aQ).2.2 h).trans (M.eF r h)
  · have aH:=M.ko b r h
    rcases GJ b with⟨p,an,rfl⟩ | aA
    · obtain⟨E,U⟩:=zW p an
      simp only[E]at hc
      rcases gr.Tp p an with⟨ag,_⟩ | ⟨aP,aR,_⟩
      · omega
      · rw[U]
        rcases hc with hc | hc
        · rw[GK p an _ (aP hc).2 (.inl hc)]
          exact M.jC _ r h (.inl (aP hc).1)
        · rw[GK p an _ (aR hc).2 (.inr hc)]
          exact M.jC _ r h (.inr (aR hc).1)
    · obtain⟨E,U,ag⟩:=C3 b aA
      by_cases G:b∈ins
      · simp only[U G]at hc
        rcases hc with hc | hc<;>cases hc
      · simp only[ag G]at hc
        rw[E]
        exact M.jC b r h hc
  · have aH:=M.j3 b k h
    have aX:(H' b).gen=0:=aX
    have ba:(H' b).body.fg=true:=ba
    show κn b=k.1/\(H' b).body.len=k.2
    obtain⟨g1,ew⟩:=aj b
    obtain⟨b8,a2,a3,_⟩:=(ew (by omega)).2.1 ba
    obtain⟨aP,aR⟩:=M.kp b k h (by omega) b8
    grind
  · have e:X=.aV l aL L m st:=by grind
    rcases zX with rfl | rfl | ⟨rfl,af3⟩
    · obtain⟨E,U,gD,ag,a1,bL⟩:=hI.eK l aL L m st (Th bK.bT bm b5 e)
      refine⟨E,U,gD,λr bb=>⟨(ag r bb).1,(ag r bb).2.1,Tq r (ag r bb).2.2⟩,λb W aQ=>?_,bL⟩
      rcases y5 b W with⟨p,an,rfl,aP,aR⟩ | ⟨_,aP,aR,bO⟩
      · grind
      · rw[aR]at aQ;exact (ag _ aQ).2.2 (su b aP bO)
    · cases e
    · obtain⟨E,U,gD,ag,a1,bL⟩:=M.eK l aL L m st e
      have Ts:∀ r,gD r->r<w.heap.size/\¬own r/\¬Y r:=λr aQ=>⟨(ag r aQ).1,λaf=>by
        grind,iE.GI af3 r⟩
      have BV:∀ r,ek r->¬gD r:=λr ao aQ=>(zB r ao).elim (ag r aQ).2.1 λh=>h (Ts r aQ)
      refine⟨E,U,gD,λr aQ=>⟨Nat.lt_of_lt_of_le (ag r aQ).1 zY,λao=>BV r ao aQ,(ag r aQ).2.2⟩,λb W aQ=>?_,U.JY bL bo (λr ao=>?_) zY hI.ev hI.da BV⟩
      · rcases y5 b W with⟨p,an,rfl,aP,aR⟩ | ⟨_,aP,aR,bO⟩
        · rw[aR]at aQ;exact (hI.own _ aP).2.2 (Ts _ aQ)
        grind
      · rcases ao with ao | ao
        · exact qg.2 r ao
        grind
end
end Go.Fer
namespace Go.Fer
open Go.RowKit
section
variable {C:b_} {T:Nat->ad} {o:Oper} {s:az}
theorem cR.bx{P:Program}{aO:dF}{k:FuncId}{c:cK}(ao:cR P aO k c){C:b_}{a:Act}{w:World}{κ:Nat->bC}{F:Nat->Prop}{D:c.cp.ai}(h:bl C (c.cp.st D) a w κ F)(E:C.P=P)(U:C.w0=w)(ag:C.r=none)(a1:C.dfr=[])(bL:C.nt=c.kd)(dm:C.aM=aO)(aD:(c.sh D).ck) :
  Calls P k a.tmps w λe w'=>∃ v bm aC κ' F',e=.returned v/\(c.sh D).bK bm/\GF c.kB v aC/\bl { C with nt:=aC.length } (c.bK.st bm) { tmps:=aC.toArray,defers:=[] } w' κ' F':=
 ao.iU C a w κ F D E U ag a1 bL dm h aD
theorem Tt{C:b_}{s:az}{L0:Nat->aG}{a b8:Act}{w:World}{κ:Nat->bC}{F:Nat->Prop}{eb:Nat}{c:cK}{f:Nat->Nat}{D:c.cp.ai}{bU:List Nat}{d m:Nat}{cg:z6'}
    (M:bl C s a w κ F) (gN:bl { C with nt:=eb,dfr:=[],r:=none } ⟨L0,s.aa⟩ b8 w κ F) (qh:L0 b5=s.ax b5)
    (nV:c.cp.zJ f ⟨L0,s.aa⟩=some (D,bU)) (Tu:sj (s.cA bU) d f c.cp.oA c.bK.bD 0=cg) (ec:CP c f (s.cA bU) cg d m=true) :
    ∃ (F' own Y:Nat->Prop) (ia:(Nat->Option Nat)×(Nat->Option (bC×Nat))),(∀ r,F r->F' r)/\bl C (s.cA bU) a w κ F'/\(∀ r,own r->∃ b,((s.cA bU).aa b).body.bZ (κ b)=true/\(κ b).aa=r)/\C2 C (s.cA bU) w κ F' ((c.cp.st D).ax b5) Y/\(∀ l aL L n st,(c.cp.st D).ax b5=.aV l aL L n st->s.ax b5=.aV l aL L n st)/\
      bl (re C w F' eb own Y ia) (c.cp.st D) b8 w (λb=>κ (f b)) F'/\
      ∀ L1 hD,bl { C with w0:=L1 } (s.cA bU) a hD κ F'->C2 C (s.cA bU) hD κ F' ((c.cp.st D).ax b5) Y->∀ (bm:c.bK.ai) (aC:List Value) (w':World) (na:Nat->bC) (ek:Nat->Prop),bl { re C hD F' eb own Y ia with nt:=aC.length } (c.bK.st bm) { tmps:=aC.toArray,defers:=[] } w' na ek->
        ∃ κn,bl { C with w0:=L1 } (xv (s.cA bU) c f cg bm) a w' κn ek/\∀ i,bB C.P (xv (s.cA bU) c f cg bm).aa κn ek w' (fr (eC (hV cg) c.bK.bT bm).1 i) (aC.toArray.getD i undef):=by
  simp only[CP,Bool.and_eq_true,decide_eq_true_eq,Bool.not_eq_true']at ec;obtain⟨⟨⟨⟨⟨⟨⟨⟨⟨⟨bE,c2⟩,c3⟩,c4⟩,c5⟩,lO⟩,oq⟩,w_⟩,c9⟩,GL⟩,_⟩:=ec;have c3:(c.cp.bD.map (·.1)).Nodup:=of_decide_eq_true c3;have c4:(c.cp.bD.map λp=>f p.1).Nodup:=of_decide_eq_true c4;have c5:(cg.map (·.1)).Nodup:=of_decide_eq_true c5;have lO:(cg.map (·.2.1)).Nodup:=of_decide_eq_true lO;have w_:m' ∉ cg.map (·.2.1):=λh=>by
    grind
  have c9:((s.cA bU).aa m').body=.fy:=by
    grind
  obtain⟨F',f1,gN,au⟩:=dI.S9 nV gN;have bb : bl C (s.cA bU) a w κ F' := { gN with
    dG:=M.dG,dfr:=M.dfr,gp:=M.gp,bT:=λi=>bB.later (RV s bU κ) f1 (c1.refl _ _) (M.bT i)
    bD:=gN.bD
    eK:=λl aL L n st e=>gN.eK l aL L n st (by simpa [az.cA,qh]using e) }
  obtain⟨Y,iE⟩:=bb.afY (sl:=(c.cp.st D).ax b5) λl aL L n st e=>by simpa [az.cA,qh]using au.aV l aL L n st e
  have hid:∀ b∈c.cp.bD.map (·.1),eQ<=b:=λb W=>by grind
  have GM:∀ b,b∈c.cp.oA->∃ q∈c.cp.bD,q.1=b/\q.2.CK=true:=λb W=>by
    obtain⟨q,br,e⟩:=List.mem_filterMap.1 W;grind
  have C6:=afZ (C:=C) (C1:={ C with nt:=eb,dfr:=[],r:=none }) (ids:=c.cp.bD.map (·.1)) rfl rfl rfl gN au ⟨iE.eK,iE.low,iE.own,iE.GI⟩ (λb be W db e=>by
    obtain⟨q,br,rfl,_⟩:=GM b W;obtain⟨q',tH,rfl,_⟩:=GM be db;rw[C0 (k:=λp=>f p.1) c4 br tH e]) hid
  refine⟨F',_,Y,_,f1,bb,λr ⟨b,W,e⟩=>⟨f b,au.xE W,e⟩,iE,λl aL L n st e=>by simpa [az.cA,qh]using au.aV l aL L n st e,C6,λL1 hD KK GN bm aC w' na ek hI=>?_⟩;have C4:∀ (b:Nat) (q':Nat×b1),q'∈c.bK.bD->q'.1=b->b∈c.cp.oA->∀ (R:Type) (z:q'.2.cons R),((q'.2.body (hV cg) z).1.fJ=true->((s.cA bU).aa (f b)).body.fJ=true)/\((q'.2.body (hV cg) z).1.gV=true->((s.cA bU).aa (f b)).body.gV=true)/\(q'.2.body (hV cg) z).1.mL=false:=by
    intro b q' tH e W R z;obtain⟨q,br,rfl,L2⟩:=GM b W;have al:=List.all_eq_true.1 (List.all_eq_true.1 GL q' tH) q br;rw[e,L2]at al;simp only[beq_self_eq_true,Bool.and_self,Bool.not_true,Bool.false_or]at al;rcases GH c8 c.cp.bD (eC c8 c.cp.bT D).2 q.1 with⟨_,U⟩ | ⟨dO,U,ag,LW,mm,a1⟩
    · grind
    · obtain rfl:=C0 c3 U br ag
      have a1:(c.cp.st D).aa dO.1=⟨0,(dO.2.body c8 mm).1⟩:=a1
      obtain⟨aP,aR,bO⟩:=afW al z mm (g:=hV cg) (g':=c8)
      have tY:=au.zS dO.1
      refine⟨λhc=>?_,λhc=>?_,bO⟩
      · have bL:=au.bZ dO.1 (by grind)
        simp only[az.cA,if_neg bL.1]
        exact tY.2.1 (by grind)
      · have bL:=au.bZ dO.1 (by grind)
        simp only[az.cA,if_neg bL.1]
        exact tY.2.2.2.1 (by grind)
  have af4:cg.map (·.1)=c.bK.bD.map (·.1):=by rw[<-Tu];exact Tm ..
  have gr:To (s.cA bU) κ (λb=>if b∈c.cp.bD.map (·.1) then some (κ (f b)).aa else none,λb=>if b∈c.cp.bD.map (·.1)/\w1<=b then some (κ (f b),((c.cp.st D).aa b).body.len) else none) (hi (hV cg) c.bK.bD (eC (hV cg) c.bK.bT bm).2) cg:=by
    refine⟨c5,lO,w_,c9,λp an=>?_⟩;rw[<-Tu]at an;rcases Tn _ _ _ _ _ _ an with⟨E,U,t,ag,a1⟩ | ⟨_,U,ag,a1⟩
    · rw[U]
      have jM:p.1∈c.cp.bD.map (·.1):=by
        grind
      rcases GH (hV cg) c.bK.bD (eC (hV cg) c.bK.bT bm).2 p.1 with⟨_,aR⟩ | ⟨q',aP,aR,R,z,bO⟩
      · grind
      · rw[bO]
        obtain⟨dN,e0,mJ⟩:=C4 p.1 q' aP aR E R z
        have:q'=(p.1,t):=C0 (af4 ▸ c5) aP ag aR
        subst this
        refine .inr ⟨λh=>⟨dN h,if_pos jM⟩,λh=>⟨e0 h,if_pos jM⟩,mJ,a1.imp (λa1=>⟨a1.1,λe'=>?_⟩) id⟩
        rcases a1.2 with bL | ⟨al,e,rfl⟩
        · grind
        · obtain⟨q,br,LR,L2⟩:=GM p.1 E
          have xI:=List.all_eq_true.1 (List.all_eq_true.1 GL _ aP) q br
          rw[LR,L2]at xI
          simp only[beq_self_eq_true,Bool.and_self,Bool.not_true,Bool.false_or]at xI
          rcases GH c8 c.cp.bD (eC c8 c.cp.bT D).2 p.1 with⟨_,xb⟩ | ⟨dO,m2,m3,LW,mm,m4⟩
          · grind
          · obtain rfl:=C0 c3 m2 br (m3.trans LR.symm)
            have m4:(c.cp.st D).aa p.1=⟨0,(dO.2.body c8 mm).1⟩:=m4
            obtain⟨dy,L3⟩:=dO
            have xI:b1.F7 (.bh e) L3=true:=xI
            obtain rfl:L3=.bh e:=by
              cases L3<;>first | (simp only[b1.F7,decide_eq_true_eq]at xI;rw[xI]) | cases xI
            have tY:=au.zS p.1
            have af5:((c.cp.st D).aa p.1).body.fg=true:=by rw[m4];rfl
            obtain⟨b4,cv,ef⟩:=tY.2.2.1 af5
            have bk:((s.cA bU).aa (f p.1)).body.fg=true/\((s.cA bU).aa (f p.1)).body.len=(s.aa (f p.1)).body.len/\((s.cA bU).aa (f p.1)).body.e2=(s.aa (f p.1)).body.e2:=by
              simp only[az.cA];split
              · rcases zj s.aa (s.aa (f p.1)) with a6 | ⟨_,_,ah,a6⟩ | ⟨_,_,_,ah,_⟩ | ⟨_,_,_,_,ah,_,_⟩
                · grind
                · rw[a6,ah];exact⟨rfl,rfl,rfl⟩
                · have b4:(s.aa (f p.1)).body.fg=true:=b4
                  rw[ah]at b4;cases b4
                · have b4:(s.aa (f p.1)).body.fg=true:=b4
                  rw[ah]at b4;cases b4
              grind
            have cv:((c.cp.st D).aa p.1).body.len=(s.aa (f p.1)).body.len:=cv
            have ef:((c.cp.st D).aa p.1).body.e2=(s.aa (f p.1)).body.e2:=ef
            refine⟨bk.1,?_,?_⟩
            · rw[bk.2.2,<-ef,m4];rfl
            grind
    · refine .inl ⟨?_,by omega⟩
      unfold eQ
      omega
  obtain⟨nW,fl⟩:=af1 (ins:=c.cp.oA.map f) (X:=if c.bK.bT.any (λp=>p.1 == b5) then fr (eC (hV cg) c.bK.bT bm).1 b5 else if c.cp.bT.any (λp=>p.1 == b5) then .undef else (s.cA bU).ax b5)
    (H':=(xv (s.cA bU) c f cg bm).aa)
    (κn:=λb=>match cg.find? (λp=>p.2.1 == b) with
      | some p=>na p.1
      | none=>κ b) KK ⟨GN.eK,GN.low,GN.own,GN.GI⟩ (λr ⟨b,W,e⟩=>⟨f b,List.mem_map_of_mem (au.bZ b W).2.2,au.xE W,e⟩) hI gr
    (λp an=>by simp only[xv,GG (k:=λp=>p.2.1) lO an,and_self]) (λb W=>by
      have aA:cg.find? (λp=>p.2.1 == b)=none:=List.find?_eq_none.2 λp an e=>W (List.mem_map.2 ⟨p,an,by grind⟩);simp only[xv,aA,true_and];grind)
    (by
      split
      · simp
      · split
        · simp
        · rename_i U
          exact .inr (.inr ⟨rfl,xH c.cp.bT c8 D b5 (Bool.eq_false_iff.2 U)⟩))
  exact⟨_,nW,fl⟩
theorem Tv(bg:∀ i,o.dst=some i->i<C.nt){f0:Operand}{args:Array Operand}{dn:Array TypeId}(af:o.op=.call { callee:=.value f0,args:=args,argTypes:=dn }){c:cK}(ao:∀ D a w,ct C s a w->(c.sh D).ck->∃ k,cR C.P C.aM k c/\a.eval f0=.func (.func k) #[] #[]){cc:hU}
  (h:xw C.aM s o args.toList c=some cc):qf C o s cc:=by
 obtain⟨args⟩:=args;unfold xw at h;generalize axX:q7 c (si s (q6 C.aM s args))=f at h;split at h
 ·rename_i D bU nV;split at h
  ·rename_i ec;cases h;have af6:q2 (a7 C.aM s.ax) o->jG (args.map (a7 C.aM s.ax)):=λW=>CV W λx ah=>by rw[af];simp[Op.operands,Call.operands];simp_all
   refine⟨λa w Q K M bd L4=>?_,λgs oD=>(by grind),af6⟩;obtain⟨k,ao,al⟩:=ao D a w M L4.1;obtain⟨κ,F,M⟩:=M;have hlen:args.length=c.kd/\args.length<=eQ:=by
    simp only[CP,Bool.and_eq_true,decide_eq_true_eq]at ec;omega
   have dX:=M.args (avs:=q6 C.aM s args) (us:=args.map a.eval) (by grind) (by simp[q6]) λi G=>by
    have dz:i<args.length:=by grind
    have E:=r8 bd i (by grind);have aw:(args.map (a7 C.aM s.ax)).getD i .undef=a7 C.aM s.ax args[i]:=by grind
    rw[aw]at E;have aN:(q6 C.aM s args).getD i .undef=(use (a7 C.aM s.ax args[i])).2:=by simp[q6,List.getD_eq_getElem?_getD,dz]
    have cE:(args.map a.eval).getD i undef=a.eval args[i]:=by grind
    rw[aN,cE];exact o8 (j7 M args[i]) E
   obtain⟨F',own,Y,ia,_,bb,_,iE,_,C6,L5⟩:=Tt M dX rfl nV rfl ec;have c6:(execOp a.eval o).run C.P w=.ok (.enter k (args.map a.eval).toArray) w:=by
    simp only[execOp,af,Sem.run_bind,resolve,al,Deferred.ofValue,Sem.run_pure,Result.andThen_ok,invoke];have:=ao.enter (args.map a.eval).toArray w;grind
   have t_:=ao.bx C6 rfl rfl rfl rfl (by show (args.map a.eval).length=_;grind) rfl L4.1;refine Cw (by grind) c6 t_ λe w' ⟨v,bm,aC,na,ek,he,gi,GO,hI⟩=>⟨v,he,L4.2 bm gi _ _ ?_⟩
   obtain⟨κn,nW,fl⟩:=L5 C.w0 w bb iE bm aC w' na ek hI;exact⟨_,ek,bl.set nW bg (afX GO λj=>by simpa [Array.getD_eq_getD_getElem?,List.getD_eq_getElem?_getD]using fl j)⟩
  grind
 grind
theorem af7(bg:∀ i,o.dst=some i->i<C.nt){k:Nat}{args:Array Operand}{dn:Array TypeId}(af:o.op=.call { callee:=.value (.func k),args:=args,argTypes:=dn }){c:cK}(ao:cR C.P C.aM k c){cc:hU}
  (h:xw C.aM s o args.toList c=some cc):qf C o s cc:=
 Tv bg af (λ_ _ _ _ _=>⟨k,ao,rfl⟩) h
theorem cR.y6{P:Program}{aO:dF}{k:FuncId}{c:cK}(h:cR P aO k c){sh:c.cp.ai->A c.bK.ai}(aD:∀ D,A.le (c.sh D) (sh D)):cR P aO k { c with sh:=sh } where
 enter:=h.enter
 iU:=λC a w κ F D aw aN cE ed dY la M q1=>by
  obtain⟨aP,aR⟩:=aD D q1;exact (h.iU C a w κ F D aw aN cE ed dY la M aP).mono λe w' ⟨v,bm,aC,κ',F',E,U,ag⟩=>⟨v,bm,aC,κ',F',E,aR bm U,ag⟩
theorem af8{Ψ:Nat->Option e5}(bg:∀ i,o.dst=some i->i<C.nt){t:Nat}{args:Array Operand}{dn:Array TypeId}(af:o.op=.call { callee:=.value (.tmp t),args:=args,argTypes:=dn })
  (cY:∀ c sh ids,Ψ SU=some (.Gf c sh ids)->∀ k∈ids,cR C.P C.aM k { c with sh:=sh k }) {cc:hU} (h:Gj C.aM Ψ s o t args.toList=some cc):qf C o s cc:=by
 unfold Gj at h;split at h
 ·rename_i n aA;split at h
  ·rename_i c sh ids hc;refine Tv bg af (λD a w M aD=>?_) h;obtain⟨⟨k,al,rfl⟩,_⟩:=aD;refine⟨k,(cY c sh ids hc k al).y6 (sh:=(SV c sh ids (some k)).sh) λD h=>⟨h.2,λy aQ=>aQ⟩,?_⟩;obtain⟨κ,F,M⟩:=M;have ae:bB C.P s.aa κ F w (s.ax t) (a.tmps.getD t undef):=M.bT t;rw[aA]at ae;obtain⟨_,ae⟩:=(dU rfl).1 ae;exact (List.cons.inj ae).1
  ·cases h
 ·cases h
end
end Go.Fer
namespace Go.Fer
open Go.RowKit
section
variable {C:b_} {o:Oper} {s:az}
theorem bl.round{s:az}{a:Act}{w w':World}{κ:Nat->bC}{F' ek Y GP:Nat->Prop}{l:Nat}{aL:ad}{L:List aL.ai->Prop}{I}{ee:List aL.ai}{L6:Bool}(M:bl C s a w κ F')(oE:C.cc=⟨l,aL,L,I⟩)(cL:C.cc.hA C.P)
    (aQ:∀ r,Y r->r<w.heap.size/\¬F' r/\¬C.K0 r) (L7:∀ b,(s.aa b).body.bZ (κ b)=true->¬Y (κ b).aa)
    (g1:∀ r,F' r->ek r) (ew:∀ r,ek r->F' r\/Y r\/w.heap.size<=r) (g3:∀ r,ek r->r<w'.heap.size) (g4:∀ r,r<w.heap.size->¬Y r->w'.heap[r]?=w.heap[r]?)
    (g5:∀ r,GP r->(Y r\/w.heap.size<=r)/\r<w'.heap.size/\¬ek r) (g6:w.heap.size<=w'.heap.size) (g7:dc w w') (g8:I ee L6 ek GP w') :
    bl C ⟨λi=>if i=b5 then .aV l aL L ee L6 else s.ax i,s.aa⟩ a w' κ ek:=by
  have qg:c1 F' w w':=⟨g6,λr h=>g4 r (M.da r h) λCp=>(aQ r Cp).2.1 h⟩
  have lk:∀ r,w.heap.size<=r->¬C.K0 r:=λr h al=>by have:=M.hs r al;have:=M.size;omega
  refine { dG := M.dG, dfr := M.dfr, bT := λi => ?_, bD := λb => cF.lb (M.bD b) (fq.refl _ _) g1 qg rfl rfl λaf => g4 _ (M.own b af).1 (L7 b af), own := λb W => ?_, inj := M.inj, da := g3, hf := λr h => ?_,hP:=λr h=>g1 r (M.hP r h),hs:=M.hs,eF:=λr h=>?_,size:=Nat.le_trans M.size g6,ev:=M.ev.trans g7,gp:=M.gp,ko:=M.ko,jC:=M.jC,j3:=M.j3,kp:=M.kp,eK:=λdH kA e6 iY il e=>?_,jD:=M.jD,iz:=M.iz.mono g1 qg }
  · show bB C.P s.aa κ ek w' (if i=b5 then .aV l aL L ee L6 else s.ax i) _
    split
    · trivial
    · exact bB.later (fq.refl _ _) g1 qg (M.bT i)
  · have h:=M.own b W
    grind
  · rcases ew r h with h | h | h
    · exact M.hf r h
    · exact .inr (aQ r h).2.2
    · exact .inr (lk r h)
  · exact (g4 r (Nat.lt_of_lt_of_le (M.hs r h) M.size) λk=>(aQ r k).2.2 h).trans (M.eF r h)
  · simp only[if_true]at e
    cases e
    refine⟨⟨I,oE⟩,cL,GP,λr h=>⟨(g5 r h).2.1,(g5 r h).2.2,?_⟩,λb W h=>?_,?_⟩
    · grind
    · rcases (g5 _ h).1 with h | h
      · grind
      · exact absurd (M.own b W).1 (Nat.not_lt.2 h)
    · rw[oE];exact lL.y1.2 g8
theorem af9(bg:∀ i,o.dst=some i->i<C.nt){t:Nat}{args:Array Operand}{dn:Array TypeId}(af:o.op=.call { callee:=.value (.tmp t),args:=args,argTypes:=dn }){cc:hU}
  (h:Gk C.aM s o t args.toList=some cc):qf C o s cc:=by
 obtain⟨args⟩:=args;unfold Gk at h;split at h
 ·rename_i dH l aL L n st L8 tS;split at h
  ·rename_i x bU ah;cases h;refine⟨λa w Q K M bd hm=>?_,λgs oD=>(by grind),λW=>CV W λx ah=>by rw[af];simp[Op.operands,Call.operands];simp_all⟩;obtain⟨κ,F,M⟩:=M;rw[A.kL]at hm;obtain⟨⟨rfl,rfl,GQ⟩,hm⟩:=hm;obtain⟨F',f1,bb,f2⟩:=bl.lg (p_ _ ah) M;have dX:fp C.P aL F' w (args.map a.eval) x:=by
    refine vj M.bD f1 aL ah f2 (by simp) λi G dK=>?_;simp only[List.getElem_map];have dz:i<args.length:=by grind
    have E:=r8 bd i (by grind);have aw:(args.map (a7 C.aM s.ax)).getD i .undef=a7 C.aM s.ax args[i]:=by grind
    rw[show (List.map (a7 C.aM s.ax) (⟨args⟩:Array Operand).toList)=args.map (a7 C.aM s.ax) from rfl,aw]at E;exact o8 (j7 M args[i]) E
   have ae:a.eval (.tmp t)=.func (.yield dH) #[] #[]:=by
    have:=j7 M (.tmp t);have e:a7 C.aM s.ax (.tmp t)=.hd dH:=L8;rw[e]at this;exact this
   obtain⟨⟨I,oE⟩,cL,Y,aQ,L7,eA⟩:=bb.eK dH aL L n false tS;have af_:lL.hA C.P ⟨dH,aL,L,I⟩:=oE ▸ cL;rw[oE]at eA;have eA:=lL.y1.1 eA;obtain⟨fn,tmps,assign,body,E,U⟩:=af_.yield eA bb.da (λr h=>⟨(aQ r h).1,(aQ r h).2.1⟩) GQ dX;have c6:(execOp a.eval o).run C.P w=.ok (.round dH fn tmps assign body) w:=by
    simp only[execOp,af,Sem.run_bind,resolve,ae,Deferred.ofValue,Sem.run_pure,Result.andThen_ok,invoke];grind
   refine⟨λ_ _=>trivial,?_⟩;rw[ze (by grind),c6,Oper.uponIn_round];refine⟨λaD=>(by cases aD),?_⟩;have ag:RoundIn (dS C.r) 0 C.P dH fn tmps assign body w _:=U;refine ag.mono λe w' ⟨b,ek,GP,he,g1,ew,g3,g4,g5,g6,g7,g8⟩=>?_;subst he;refine hm.2 b trivial _ _ ⟨κ,ek,bl.set ?_ bg (ff.2 rfl)⟩;exact bb.round oE cL aQ L7 g1 ew g3 g4 g5 g6 g7 g8
  grind
 grind
end
end Go.Fer
namespace Go.Fer
open Go.RowKit
section
variable {C:b_} {T:Nat->ad} {bf:Nat->Option aK} {s:az} {res:eB}
theorem Tw{ms:Array MapEntry}{j:Nat}(aE:j<ms.size)(hu:∀ i (h:i<ms.size),ms[i].born=ms[j].born->i=j):ms.findIdx? (λe=>(e.born:Int) == (ms[j].born:Int))=some j:=by
 rw[Array.findIdx?_eq_some_iff_getElem];grind
theorem af'(ms:Array MapEntry)(e:MapEntry)(f:MapEntry->MapEntry):(ms.push e).modify ms.size f=ms.push (f e):=by
 grind
theorem aga(ms:Array MapEntry)(j:Nat)(f g:MapEntry->MapEntry):(ms.modify j f).modify j g=ms.modify j λe=>g (f e):=by
 grind
theorem zZ{a:Act}{d:Nat}{v:Value}{x:Operand}(h:x≠.tmp d):(a.put (some d) v).eval x=a.eval x:=Act.eval_put λu7 e=>by grind
theorem C7{a:Act}{d:Nat}{v:Value}(h:d<a.tmps.size):(a.put (some d) v).eval (.tmp d)=v:=by
 simp[Act.put,Act.eval,Array.getD_eq_getD_getElem?,h]
theorem agb(aU:dT C.P T){hQ gF kU ke:Oper}{d1 d2:Nat}{ty:TypeId}{m x y:Operand}(E:hQ.op=.mapEntry ty m x)(t1:hQ.dst=some d1)(U:gF.op=.extract (.tmp d1) 1)(t2:gF.dst=some d2)
  (ag:kU.op=.entryStore ty m (.tmp d2) y) (t3:kU.dst=none) (h9:ke.op=.mapUpdate ty m x y) (L9:ke.dst=none) (kf:m≠.tmp d1) (pn:m≠.tmp d2) (xJ:y≠.tmp d1) (sv:y≠.tmp d2) (qb:d1<C.nt) (hW:d2<C.nt)
  (h:(bw C.aM T bf (a7 C.aM s.ax) ke).run s.aa=some res) {a:Act} {w:World} {κ:Nat->bC} {F:Nat->Prop} {Q:Exit->Act->World->Prop} {K:Act->World->Prop} (M:bl C s a w κ F) (bd:res.ca) (hc:res.c)
  (iJ:∀ a' w',ct C (((s.h5 none res).set (some d1) .undef).set (some d2) .undef) a' w'->K a' w') :
  hQ.wpIn (dS C.r) 0 C.P a w (λb8 cn=>gF.wpIn (dS C.r) 0 C.P b8 cn (λa2 c7=>kU.wpIn (dS C.r) 0 C.P a2 c7 K Q) Q) Q:=by
 have kS:=KI aU L9 (.inl h9) h a w κ F Q M bd hc;rw[L9]at kS;have aw:∀ c,hQ.op≠.defer c:=by grind
 have aN:∀ c,gF.op≠.defer c:=by grind
 have cE:∀ c,kU.op≠.defer c:=by grind
 have agc:∀ c,ke.op≠.defer c:=by grind
 simp only[bw,h9,qS]at h;split at h
 ·rename_i k v aH;obtain⟨ll,zv,G,mT,hh⟩:=(aU.b6 aH (by simp)).mp;obtain⟨inf,mr,i1,i2,i3,i4,i5,i6⟩:=ks hh.kr;split at h
  ·rename_i xK;split at h
   ·rename_i b g tN;simp only[aq.e4,Option.bind_eq_some_iff,aq.run_bind,aq.e3,aq.bM]at h;obtain⟨⟨dJ,oj⟩,ah,⟨mU,om⟩,aQ,h⟩:=h;split at h
    ·rename_i aB;obtain⟨aB,p7⟩:=aB;have p7:b ∉ oj++om:=by
      grind
     split at h
     ·rename_i k' h2 es W;simp only[Option.map_eq_some_iff]at h;obtain⟨Sj,o',rfl⟩:=h;obtain⟨e,rfl⟩:=kN o';cases e;obtain⟨F',f1,bb,f2⟩:=bl.lg ((mQ ah).append (mQ aQ)) M;have hm:bB C.P s.aa κ F w (use (a7 C.aM s.ax m)).2 (a.eval m):=cO M m rfl bd.1;rw[tN]at hm;have kT:=hm.2 aB.symm (by rw[W];rfl);have tO:=mi M.bD f1 ah f2.left (cO M x rfl bd.2.1);have pb:(s.cA (oj++om)).aa b=s.aa b:=by simp only[az.cA];grind
      have aS:=bb.bD b;unfold cF at aS;rw[pb,W]at aS;obtain⟨ms,clk,hw,tP⟩:=aS;have fj:k.kP=true/\k.j6<=100:=by simpa [tB]using xK
      have ec:=(Cx (em:=false) k 10000 fj.1 (by omega)).1 mT tO;have ln:=tP.es;obtain⟨f,dy,dO⟩:=xf (β:=v.ai) (xs:=es) (es:=ms.toList) xK mT tO ln.1 (λj e p E U=>(ln.2 j e p E U).1);have eU:(getObj (κ b).aa).run C.P w=.ok (.map ms clk) w:=by simp[getObj,Sem.run,hw]
      obtain⟨hs,KJ,FT,Sk⟩:=tP;have t':d1<a.tmps.size:=by have:=M.dG;omega
      have cb:(κ b).aa<w.heap.size:=(Array.getElem?_eq_some_iff.1 hw).1;have chain:∀ (cn c7:World) (u:Value) (n:Int),(execOp a.eval hQ).run C.P w=.ok (.value (.tuple #[u,goInt n])) cn->(Instr.entryStore ty (.map (some (κ b).aa)) (goInt n) (a.eval y)).run C.P cn=.ok () c7->
        (execOp a.eval ke).run C.P w=.ok .skip c7->
        hQ.wpIn (dS C.r) 0 C.P a w (λb8 cn=>gF.wpIn (dS C.r) 0 C.P b8 cn (λa2 c7=>kU.wpIn (dS C.r) 0 C.P a2 c7 K Q) Q) Q:=by
       intro cn c7 u n b4 cv agd;have j':=kS.2;rw[ze agc,agd,Oper.uponIn_skip,L9]at j';refine ht aw b4 ?_;rw[t1];have age:(a.put (some d1) (.tuple #[u,goInt n])).eval (.tmp d1)=.tuple #[u,goInt n]:=C7 t';refine ht (v:=goInt n) (w':=cn) aN (by simp[execOp,U,age,Instr.extract]) ?_;rw[t2];have agf:d2<(a.put (some d1) (.tuple #[u,goInt n])).tmps.size:=by have:=M.dG;simp[Act.put];omega
       have agh:((a.put (some d1) (.tuple #[u,goInt n])).put (some d2) (goInt n)).eval (.tmp d2)=goInt n:=C7 agf;have L_:((a.put (some d1) (.tuple #[u,goInt n])).put (some d2) (goInt n)).eval m=.map (some (κ b).aa):=by rw[zZ pn,zZ kf,kT]
       have agi:((a.put (some d1) (.tuple #[u,goInt n])).put (some d2) (goInt n)).eval y=a.eval y:=by rw[zZ sv,zZ xJ]
       refine FE cE (w':=c7) (by simp only[execOp,ag,agh,L_,agi,Sem.run_bind,cv,Result.andThen_ok,Sem.run_pure]) ?_;rw[t3];refine iJ _ _ ?_;obtain⟨κ',F',j'⟩:=j';exact⟨κ',F',bl.set (bl.set (d:=some d1) (av:=.undef) j' (λi e=>by grind) trivial) (λi e=>by grind) trivial⟩
      rcases dO with⟨rfl,eN⟩ | ⟨j,e,p,g1,ew,g3,g4,rfl⟩
      ·refine chain { w with heap:=w.heap.setIfInBounds (κ b).aa (.map (ms.push { key:=a.eval x,val:=mr,born:=clk }) (clk+1)) } { w with heap:=w.heap.setIfInBounds (κ b).aa (.map (ms.push { key:=a.eval x,val:=a.eval y,born:=clk }) (clk+1)) } mr clk ?_ ?_ ?_
       ·simp only[execOp,E,kT,Instr.mapEntry,Sem.run_bind,dC G,Result.andThen_ok,eU,ec,dy,qT i1 i4,se hw,Sem.run_pure]
       ·have L':(getObj (κ b).aa).run C.P { w with heap:=w.heap.setIfInBounds (κ b).aa (.map (ms.push { key:=a.eval x,val:=mr,born:=clk }) (clk+1)) }=.ok (.map (ms.push { key:=a.eval x,val:=mr,born:=clk }) (clk+1)) { w with heap:=w.heap.setIfInBounds (κ b).aa (.map (ms.push { key:=a.eval x,val:=mr,born:=clk }) (clk+1)) }:=by simp[getObj,Sem.run,cb]
        have Ma:(ms.push { key:=a.eval x,val:=mr,born:=clk }).findIdx? (λe=>(e.born:Int) == (clk:Int))=some ms.size:=by
         have:=Tw (ms:=ms.push { key:=a.eval x,val:=mr,born:=clk }) (j:=ms.size) (by simp) λi G he=>by
          grind
         grind
        simp only[Instr.entryStore,Sem.run_bind,L',Result.andThen_ok,goInt,asInt,asIntOf,Sem.run_pure,Ma];rw[se (es:=ms.push { key:=a.eval x,val:=mr,born:=clk }) (clk:=clk+1) (by grind),af'];simp
       ·simp only[execOp,h9,kT,Instr.mapUpdate,Sem.run_bind,dC G,Result.andThen_ok,eU,ec,dy,se hw,Sem.run_pure]
      ·have aE:j<es.length:=(List.getElem?_eq_some_iff.1 ew).1;have xg:j<ms.size:=by omega
       have KL:ms[j]=e:=by
        grind
       obtain⟨jo,cn,b4,cv,ef⟩:=KH C.P w e.key (a.eval x);have lS:cn.heap[(κ b).aa]?=some (.map ms clk):=by rcases ef with rfl | rfl<;>exact hw
       have Tx:(κ b).aa<cn.heap.size:=(Array.getElem?_eq_some_iff.1 lS).1;have nO:((ms[j]?).map (·.key)).getD (a.eval x)=e.key:=by
        grind
       have Mb:((ms[j]?).map (λx=>(x.born:Int))).getD 0=(ms[j].born:Int):=by grind
       rw[Nat.zero_add]at dy;refine chain { cn with heap:=cn.heap.setIfInBounds (κ b).aa (.map (ms.modify j λe=>{ e with key:=jo }) clk) } { cn with heap:=cn.heap.setIfInBounds (κ b).aa (.map (ms.modify j λe=>{ e with key:=jo,val:=a.eval y }) clk) } e.val ms[j].born ?_ ?_ ?_
       ·simp only[execOp,E,kT,Instr.mapEntry,Sem.run_bind,dC G,Result.andThen_ok,eU,ec,dy];rw[nO,b4];simp only[Result.andThen_ok,se lS,Sem.run_pure,Mb]
       ·have L':(getObj (κ b).aa).run C.P { cn with heap:=cn.heap.setIfInBounds (κ b).aa (.map (ms.modify j λe=>{ e with key:=jo }) clk) }=.ok (.map (ms.modify j λe=>{ e with key:=jo }) clk) { cn with heap:=cn.heap.setIfInBounds (κ b).aa (.map (ms.modify j λe=>{ e with key:=jo }) clk) }:=by simp[getObj,Sem.run,Tx]
        have mu:∀ i (h:i<(ms.modify j λe=>{ e with key:=jo }).size),((ms.modify j λe=>{ e with key:=jo })[i]).born=(ms[i]'(by grind)).born:=by
         grind
        have Ma:(ms.modify j λe=>{ e with key:=jo }).findIdx? (λe=>(e.born:Int) == (ms[j].born:Int))=some j:=by
         have:=Tw (ms:=ms.modify j λe=>{ e with key:=jo }) (j:=j) (by grind) λi G he=>by
          grind
         grind
        simp only[Instr.entryStore,Sem.run_bind,L',Result.andThen_ok,goInt,asInt,asIntOf,Sem.run_pure,Ma];rw[se (es:=ms.modify j λe=>{ e with key:=jo }) (clk:=clk) (by grind),aga];simp
       ·simp only[execOp,h9,kT,Instr.mapUpdate,Sem.run_bind,dC G,Result.andThen_ok,eU,ec,dy];rw[nO,b4];simp only[Result.andThen_ok,se lS,Sem.run_pure]
     grind
    grind
   ·cases h
  ·cases h
 ·cases h
end
end Go.Fer
namespace Go.Fer
open Go.RowKit
structure C8(P:Program)(k:FuncId)(c:zK):Prop where
 enter:∀ args w,(callFunc k args).run P w=.ok (.enter k args) w
 iU:∀ (l:Nat) (I:List c.aL.ai->Bool->(Nat->Prop)->(Nat->Prop)->World->Prop) (F Y:Nat->Prop) (w:World) (args:List Value) (x:c.ts.ai),fp P c.ts F w args x->c.pre x->lL.hA P ⟨l,c.aL,λT=>T=c.seq x,I⟩->
  (∀ r,F r->r<w.heap.size)->nG P F w->(∀ r,Y r->r<w.heap.size/\¬F r)->I [] false F Y w->Calls P k (args++[Value.func (.yield l) #[] #[]]).toArray w λe w'=>
   ∃ v pre st F' gD,e=.returned v/\(st=false->pre=c.seq x)/\I pre st F' gD w'/\(∀ r,F r->F' r)/\(∀ r,F' r->F r\/Y r\/w.heap.size<=r)/\(∀ r,F' r->r<w'.heap.size)/\
    (∀ r,r<w.heap.size->¬Y r->w'.heap[r]?=w.heap[r]?)/\(∀ r,gD r->(Y r\/w.heap.size<=r)/\r<w'.heap.size/\¬F' r)/\w.heap.size<=w'.heap.size/\dc w w'
def e5.hA(P:Program)(aO:dF)(k:FuncId):e5->Prop
 | .dv c=>h1 P k c.ts c.aV c.sh/\(c.dR=true->∀ x,(c.sh x).CL)
 | .fa c=>cR P aO k c
 | .cr c=>C8 P k c
 | .Lp c=>h1 P k c.ts c.aV c.sh/\Rj P k c.ts c.aV c.sh
 | .Gf c sh ids=>∀ k∈ids,cR P aO k { c with sh:=sh k }
 | .kC c=>nJ c.aV=true/\Cu P k c
def lW(P:Program)(aO:dF)(Ψ:Nat->Option e5):Prop:=∀ k c,Ψ k=some c->c.hA P aO k
section
variable {C:b_} {T:Nat->ad} {bf:Nat->Option aK} {Ψ:Nat->Option e5} {s:az} {o:Oper} {Q:Exit->Act->World->Prop} {ops:Array Oper}
theorem agj(cB:jm C.P bf)(cY:lW C.P C.aM Ψ){k:Nat}{c:hG}(h:Lq bf Ψ k=some c):h1 C.P k c.ts c.aV c.sh:=by
 unfold Lq at h;split at h
 ·rename_i c' jI;cases h;have:e5.hA C.P C.aM k (.dv c):=cY k _ jI;exact this.1
 ·cases h
 ·obtain⟨f,ao,h⟩:=Option.bind_eq_some_iff.1 h;split at h
  ·cases h
  ·rename_i he;cases h;exact (cB k f ao).1 (by simpa using he)
theorem agk{P:Program}{w:World}{ty j:TypeId}(aE:P.underlying ty=some (.slice j))(q:Option Addr)(n cap d:Nat):(Op.equalIn (d+1) ty (.slice q n cap) (.slice none 0 0)).run P w=.ok q.isNone w:=by
 cases q<;>simp[Op.equalIn,dC aE]
theorem agl{P:Program}{w:World}(op:BinOp)(t:TypeId)(x y:Operand)(q q':Option Addr)(n iY cap cap':Nat):(eqGuard op t x y (.slice q n cap) (.slice q' iY cap')).run P w=.ok () w:=by
 cases op<;>simp[eqGuard]
theorem Ty{P:Program}{w:World}{ty j:TypeId}{x y:Operand}(aE:P.underlying ty=some (.slice j))(q:Option Addr)(n cap:Nat) :
  (do eqGuard .eql ty x y (.slice q n cap) (.slice none 0 0);binOp .eql ty (.slice q n cap) (.slice none 0 0):Sem Value).run P w=.ok (.bool q.isNone) w/\(do eqGuard .neq ty x y (.slice q n cap) (.slice none 0 0);binOp .neq ty (.slice q n cap) (.slice none 0 0):Sem Value).run P w=.ok (.bool (!q.isNone)) w:=by
 have h:(Op.equalIn 10000 ty (.slice q n cap) (.slice none 0 0)).run P w=.ok q.isNone w:=agk (w:=w) aE q n cap 9999;constructor<;>simp[agl,binOp,Op.equal,Op.maxDepth,h]
theorem agm(aU:dT C.P T)(bg:∀ i,o.dst=some i->i<C.nt){op:BinOp}{ty mO:TypeId}{x y:Operand}(af:o.op=.binOp op ty x y mO){cc:hU}(h:CR C.aM T s o op ty x y=some cc):qf C o s cc:=by
 have zh:∀ c,o.op≠.defer c:=by grind
 unfold CR at h;split at h
 ·rename_i e aH agn;have dp:=aU.b6 aH (by simp);obtain⟨j,aE,_⟩:=dp.sl;split at h
  ·rename_i xs l hS;have key:∀ (a:Act) (w:World) (κ:Nat->bC) (F:Nat->Prop),bl C s a w κ F->(use (a7 C.aM s.ax x)).1->∃ b:Bool,(b=true->xs=[])/\(op=.eql->(execOp a.eval o).run C.P w=.ok (.value (.bool b)) w)/\(op=.neq->(execOp a.eval o).run C.P w=.ok (.value (.bool (!b))) w):=by
    intro a w κ F M bd;have ah:=Cb M hS (cO M x rfl bd);obtain⟨_,q,cap,aw,m1,m2,m3,_⟩:=(dU rfl).1 ah;have aw:=(List.cons.inj aw).1;have aQ:a.eval y=.slice none 0 0:=by
     have:=j7 M y;rw[agn]at this;exact this
    refine⟨q.isNone,λbr=>?_,λkS=>?_,λkS=>?_⟩
    ·simp_all
    ·subst kS;have M:=(Ty (w:=w) (x:=x) (y:=y) aE q xs.length cap).1;rw[<-aw,<-aQ]at M;simp only[execOp,af,Sem.run_bind]at M ⊢;simp_all
    ·subst kS;have M:=(Ty (w:=w) (x:=x) (y:=y) aE q xs.length cap).2;rw[<-aw,<-aQ]at M;simp only[execOp,af,Sem.run_bind]at M ⊢;simp_all
   split at h
   ·cases h;refine⟨λa w Q K M bd hm=>?_,λgs oD=>(by grind),λW=>W x (by rw[af];simp[Op.operands])⟩;obtain⟨κ,F,M⟩:=M;obtain⟨b,dN,e0,_⟩:=key a w κ F M bd;exact ht zh (e0 rfl) (hm.2 b dN _ _ ⟨κ,F,bl.set M bg (ff.2 rfl)⟩)
   ·cases h;refine⟨λa w Q K M bd hm=>?_,λgs oD=>(by grind),λW=>W x (by rw[af];simp[Op.operands])⟩;obtain⟨κ,F,M⟩:=M;obtain⟨b,dN,_,e0⟩:=key a w κ F M bd;exact ht zh (e0 rfl) (hm.2 b dN _ _ ⟨κ,F,bl.set M bg (ff.2 rfl)⟩)
   grind
  grind
 grind
theorem Mc(aU:dT C.P T)(cB:jm C.P bf)(cY:lW C.P C.aM Ψ)(bg:∀ i,o.dst=some i->i<C.nt){cc:hU}(h:q8 C.aM T bf Ψ s o=some cc):qf C o s cc:=by
 unfold q8 at h;split at h
 ·rename_i c af;obtain⟨callee,args,dn⟩:=c;split at h
  ·rename_i f ao;simp only at ao;subst ao;split at h
   ·split at h
    ·rename_i c' jI;exact af7 bg af (cY _ _ jI) h
    ·rename_i c' jI;have ag:e5.hA C.P C.aM _ (.Lp c'):=cY _ _ jI;exact afJ bg af ag.1 ag.2 h
    ·split at h
     ·rename_i dv Md;exact afI bg af (agj cB cY Md) h
     grind
   ·split at h
    ·rename_i r M;cases h;exact afK bg af M
    ·split at h
     ·rename_i r M;cases h;exact af8 bg af (λc sh ids hc=>cY _ _ hc) M
     ·exact af9 bg af h
   grind
  grind
 ·rename_i ty x af;exact afL aU bg af h
 ·rename_i x str af;exact afP bg af h
 ·rename_i x af;exact afM bg af h
 ·rename_i op ty x y mO af;exact agm aU bg af h
 grind
theorem Tz(want b:Bool):((some b == some want:Bool))=F3 want b:=by cases want<;>cases b<;>rfl
theorem TA{a:Act}{j d:Nat}{rh:Oper}(E:ops[j]?=some rh)(U:rh.dst=some d){b:Bool}(h:a.tmps.getD d Go.undef=.bool b):yielded ops a.tmps j=some b:=by
 have:a.tmps[d]?=some (.bool b):=by
  rw[Array.getD_eq_getD_getElem?]at h;cases he:a.tmps[d]? with
  | none=>rw[he]at h;cases h
  | some v=>grind
 simp[yielded,E,U,this]
theorem ago{a:Act}{j d:Nat}{rh:Oper}(E:ops[j]?=some rh)(U:rh.dst=some d)(h:a.tmps.getD d Go.undef=Go.undef):yielded ops a.tmps j=none:=by
 unfold yielded;rw[E];simp only[Option.bind_some,U];rw[Array.getD_eq_getD_getElem?]at h;cases he:a.tmps[d]? with
 | none=>rfl
 | some v=>rw[he]at h;cases h;rfl
theorem Me{a:Act}{w:World}{κ:Nat->bC}{F:Nat->Prop}(M:bl C s a w κ F){g:Option Bool}(h:ky s.ax ops o.guard=some g) :
  Region.wanted o (yielded ops a.tmps)=g.getD true:=by
 unfold Region.wanted;cases aB:o.guard with
 | none=>rw[aB]at h;cases h;rfl
 | some p=>
  obtain⟨j,want⟩:=p;rw[aB]at h;simp only[ky]at h ⊢;split at h
  ·rename_i rh aE;split at h
   ·rename_i d au;have aD:=M.bT d;split at h
    ·rename_i b W;cases h;rw[W]at aD;rw[TA aE au (ff.1 aD),Tz];rfl
    ·rename_i g' b W;cases h;rw[W]at aD;obtain⟨E,U⟩:=aD;cases g' with
     | true=>
      rw[TA aE au (ff.1 (E rfl)),Tz];simp
     | false=>
      rw[ago aE au (U rfl)];rfl
    grind
   grind
  grind
theorem agp{ca c:Prop}{e9 so:aG}{hD xz:List (Nat×bJ)}(aB:CS o e9 hD=some (xz,so))(h:(bw C.aM T bf (a7 C.aM s.ax) o).run s.aa=some ⟨ca,c,e9,hD⟩) :
    (∀ a w,ct C (s.h5 o.dst ⟨ca,c,e9,hD⟩) a w->ct C ((s.gh xz).set o.dst so) a w)/\(∀ a w κ F,bl C s a w κ F->∃ κ' F',bl C (s.gh xz) a w κ' F'):=by
  unfold CS at aB;split at aB
  · cases aB
    exact⟨λa w h=>h,λa w κ F h=>⟨κ,F,h⟩⟩
  · rename_i p dH
    split at aB
    · rename_i Mf first cZ af
      cases aB
      refine⟨λa w h=>h,λa w κ F M=>?_⟩
      simp only[bw,af]at h
      split at h
      · split at h
        · split at h
          · simp only[aq.e4,Option.bind_eq_some_iff,aq.run_bind,aq.bM,Option.some.injEq]at h
            obtain⟨⟨y,l⟩,aQ,he⟩:=h
            obtain⟨F',_,bb,_⟩:=bl.lg (p_ _ aQ) M
            have he:(jF l).run s.aa=p::dH:=by grind
            rw[<-he,tE]
            grind
          · split at h
            · simp only[aq.e4,Option.bind_eq_some_iff,aq.run_bind,aq.bM,Option.some.injEq]at h
              obtain⟨⟨y,l⟩,aQ,he⟩:=h
              obtain⟨F',_,bb,_⟩:=bl.lg (p_ _ aQ) M
              have he:(jF l).run s.aa=p::dH:=by grind
              rw[<-he,tE]
              grind
            · simp only[bN,aq.bM,Option.some.injEq]at h
              cases h
        · split at h
          · simp only[bN,aq.bM,Option.some.injEq]at h
            cases h
          · cases h
      · cases h
    · rename_i ty n ps af
      split at aB
      · rename_i be g' e xs bS
        split at aB
        · rename_i agq
          obtain⟨⟨rfl,rfl⟩,_⟩:=agq
          cases aB
          obtain⟨b,⟨agr,iI⟩⟩:=p
          simp only at bS
          subst bS
          have lk:o.dst=some b/\agr=(s.aa b).gen+1:=by
            simp only[bw,af]at h;split at h
            · simp only[aq.e4,Option.bind_eq_some_iff,aq.run_bind]at h
              obtain⟨⟨ys,bU⟩,_,h⟩:=h
              obtain⟨b0,zA,al⟩:=qV h
              grind
            · cases h
          obtain⟨bg,rfl⟩:=lk
          refine⟨λa w j'=>?_,λa w κ F M=>?_⟩
          · obtain⟨κ,F,M⟩:=j'
            rw[bg]at M ⊢
            simp only[az.h5,az.gh]at M
            have ah:(dB (.slice e) (.own b ((s.aa b).gen+1))).run ((s.cy b ⟨(s.aa b).gen+1,.bh e xs⟩).set (some b) (.own b ((s.aa b).gen+1))).aa=some (xs,[b]):=by
              simp[dB,kq,dW,az.set,az.cy,eS,ad.eE]
            obtain⟨z1,f1,gN,f2⟩:=bl.lg (mQ ah) M
            have aD:=M.bT b
            have ae:=mi (v:=a.tmps.getD b undef) M.bD f1 ah f2 (by simpa [az.set]using aD)
            have fl:∀ i,i≠b->((s.cy b ⟨(s.aa b).gen+1,.bh e xs⟩).set (some b) (.own b ((s.aa b).gen+1))).ax i=s.ax i:=λi G=>by simp[az.set,az.cy,G]
            have cN:bl C ⟨λi=>if i=b then .val (.slice e) xs else s.ax i,(((s.cy b ⟨(s.aa b).gen+1,.bh e xs⟩).set (some b) (.own b ((s.aa b).gen+1))).cA [b]).aa⟩ a w κ z1:=
              { gN with
                dG:=gN.dG,dfr:=gN.dfr,bD:=gN.bD
                bT:=λi=>by
                  show bB _ _ _ _ _ (if i=b then .val (.slice e) xs else s.ax i) _;split
                  · rename_i G
                    subst G
                    exact ae
                  · rename_i G
                    rw[<-fl i G]
                    exact gN.bT i
                eK:=λl aL L n st a6=>by
                  have a6:(if b5=b then aG.val (.slice e) xs else s.ax b5)=.aV l aL L n st:=a6;split at a6
                  · cases a6
                  · rename_i G
                    exact gN.eK l aL L n st ((fl b5 G).trans a6) }
            refine⟨κ,z1,cN.y6 ⟨λi=>.inl ?_,λi=>?_⟩⟩
            · rfl
            · by_cases G:i=b
              · subst G
                right
                simp[az.set,az.gh,az.cy,az.cA,fi]
              · left
                simp[az.set,az.gh,az.cy,az.cA,G]
          · have aA:=LN M (b:=b) (e:=e)
            refine⟨_,F,aA.y6 ⟨λi=>.inl rfl,λi=>?_⟩⟩
            by_cases G:i=b
            · subst G
              right
              simp[az.gh,az.cy]
            · left
              simp[az.gh,az.cy,G]
        grind
      grind
    grind
theorem sw{β:Type}{b:Bool}{p:Prop}{m:A β}{O:β->Prop}(W:b=true->p):A.cx (sk b p m) O<->p/\A.cx m O:=by
 cases b with
 | true=>exact⟨λh=>⟨W rfl,h⟩,λh=>h.2⟩
 | false=>exact A.kL
def qi(ops:Array Oper)(s:az)(tg:ph):Prop:=∀ p∈tg,∃ b a,s.ax p.1=.hB b a/\ky s.ax ops (some p.2)=some (some b)
theorem ags{j d:Nat}:sn ops j d=true<->d∈F4 ops (some (j,true)):=by
 have key:∀ (x:Option Oper),(match x with | some o=>(match o.dst with | some e=>e == d | none=>false) | none=>false)=true<->d∈(match x with | some o=>o.dst.toList | none=>[]):=by
  grind
 exact key _
theorem qi.hj{s':az}{tg:ph}(h:qi ops s tg)(aD:∀ i,o.dst≠some i->s'.ax i=s.ax i)
  (au:∀ d k,o.dst=some d->o.guard=some k->∃ b a,s'.ax d=.hB b a/\ky s.ax ops (some k)=some (some b)):qi ops s' (xx ops tg o):=by
 unfold xx;cases bg:o.dst with
 | none=>
  intro p an;obtain⟨b,a,E,U⟩:=h p an;refine⟨b,a,(aD _ (by grind)).trans E,?_⟩;rw[<-U];exact K5 λt _=>aD t (by grind)
 | some d=>
  have congr:∀ k:Nat×Bool,sn ops k.1 d=false->ky s'.ax ops (some k)=ky s.ax ops (some k):=λk al=>K5 λt aH=>aD t (by
   rw[bg];intro e;cases e;have:sn ops k.1 d=true:=ags.2 aH;grind)
  have vi:qi ops s' (tg.filter λp=>p.1 != d&&!sn ops p.2.1 d):=by
   intro p an;simp only[List.mem_filter,Bool.and_eq_true,bne_iff_ne,ne_eq,Bool.not_eq_true']at an;obtain⟨b,a,E,U⟩:=h p an.1;grind
  simp only;split
  ·rename_i k al;split
   ·omega
   ·rename_i TB;intro p an;rcases List.mem_cons.1 an with rfl | an
    ·grind
    ·exact vi p an
  omega
section
variable {aO:dF} {tg:ph} {gk:Option (Nat×Bool)}
theorem C9(aU:qi ops s tg)(aB:∀ k,gk=some k->ky s.ax ops (some k)=some (some true)){x:Operand}(h:xy (a7 aO s.ax) tg gk x=true):(use (a7 aO s.ax x)).1:=by
 unfold xy at h;rw[Bool.or_eq_true]at h;rcases h with h | h
 ·exact F1 (by grind)
 ·split at h
  ·rename_i t k;obtain⟨p,an,vm⟩:=List.any_eq_true.1 h;simp only[Bool.and_eq_true,beq_iff_eq]at vm;obtain⟨rfl,E,U⟩:=vm;have vm:p.2=k:=Prod.ext E U;obtain⟨b,a,aP,aR⟩:=aU p an;rw[vm,aB k rfl]at aR;cases aR;have e:a7 aO s.ax (.tmp p.1)=s.ax p.1:=rfl;rw[e,aP];rfl
  grind
theorem TC(aU:qi ops s tg)(aB:∀ k,gk=some k->ky s.ax ops (some k)=some (some true))(h:Lt (a7 aO s.ax) tg gk o=true):q2 (a7 aO s.ax) o:=
 λx ah=>C9 aU aB (List.all_eq_true.1 h x ah)
theorem TD(aU:qi ops s tg){c x:Operand}{want:Bool}{p4:Prop}{iZ:Bool}(hc:use (a7 aO s.ax c)=(p4,.val .bool iZ))(C_:p4)(h:Gq ops tg c x want=true)(hw:F3 want iZ=true):(use (a7 aO s.ax x)).1:=by
 unfold Gq at h;split at h
 ·rename_i c t;obtain⟨p,an,vm⟩:=List.any_eq_true.1 h;simp only[Bool.and_eq_true,beq_iff_eq]at vm;obtain⟨rfl,E,rfl⟩:=vm;obtain⟨b,a,aP,aR⟩:=aU p an;have e:a7 aO s.ax (.tmp p.1)=s.ax p.1:=rfl;rw[e,aP];show b=true;unfold sn at E;have xL:p.2=(p.2.1,p.2.2):=rfl;rw[xL]at aR;unfold ky at aR;have jI:use (s.ax c)=(p4,.val .bool iZ):=hc;split at E
  ·rename_i rh aE;split at E
   ·rename_i d au;have agt:d=c:=by grind
    subst agt;simp only[aE,au]at aR;split at aR
    ·rename_i b0 zA;rw[zA]at jI;simp only[use,Prod.mk.injEq,aG.val.injEq,heq_eq_eq,true_and]at jI;grind
    ·rename_i g0 b0 zA;rw[zA]at jI;simp only[use,Prod.mk.injEq,aG.val.injEq,heq_eq_eq,true_and]at jI;grind
    grind
   grind
  grind
 grind
theorem GR(aU:qi ops s tg)(aB:∀ k,gk=some k->ky s.ax ops (some k)=some (some true))(h:zL (a7 aO s.ax) ops tg gk o=true):(bw aO T bf (a7 aO s.ax) o).cW (lp λr=>r.ca):=by
 cases af:o.op with
 | pick c a b=>
  simp only[zL,af,Bool.and_eq_true,Bool.or_eq_true]at h;obtain⟨E,U,ag⟩:=h;unfold bw;rw[af];simp only;split
  ·rename_i p4 iZ lT;have C_:p4:=by have:=C9 aU aB E;grind
   split
   ·split
    ·rename_i zb av ba;refine .bN ⟨C_,λae=>?_⟩;have:(use (a7 aO s.ax a)).1:=by
      rcases U with U | U
      ·exact C9 aU aB U
      ·exact TD aU lT C_ U ae
     grind
    ·exact .bX
   ·split
    ·rename_i zb av ba;refine .bN ⟨C_,λae=>?_⟩;have:(use (a7 aO s.ax b)).1:=by
      rcases ag with ag | ag
      ·exact C9 aU aB ag
      ·exact TD aU lT C_ ag (by subst ae;rfl)
     grind
    ·exact .bX
   ·exact .bX
  ·exact .bX
 | _=>
  simp only[zL,af]at h;exact SA (TC aU aB h)
theorem agu(aU:qi ops s tg)(aB:∀ k,gk=some k->ky s.ax ops (some k)=some (some true)){ca c:Prop}{e9 so:aG}{hD xz:List (Nat×bJ)}(hw:CS o e9 hD=some (xz,so))(M:(bw aO T bf (a7 aO s.ax) o).run s.aa=some ⟨ca,c,e9,hD⟩)
  (h:Lu (a7 aO s.ax) tg gk o so=true):(use so).1:=by
 unfold Lu at h;rw[Bool.or_eq_true]at h;rcases h with h | h
 ·exact F1 (by grind)
 ·split at h
  ·rename_i x af;simp only[bw,af,bN,aq.bM,Option.some.injEq,eB.mk.injEq]at M;obtain⟨_,_,rfl,rfl⟩:=M;simp only[CS,Option.some.injEq,Prod.mk.injEq]at hw;obtain⟨_,rfl⟩:=hw;exact C9 aU aB h
  grind
end
theorem az.C'{s:az}{d:Option Nat}{v:aG}{i:Nat}(h:d≠some i):(s.set d v).ax i=s.ax i:=by
 cases d with
 | none=>rfl
 | some d=>simp only[az.set];grind
theorem az.Mg{s:az}{d:Nat}{v:aG}:(s.set (some d) v).ax d=v:=by simp[az.set]
theorem az.zG:∀ (l:List (Nat×bJ)) (s:az),(s.gh l).ax=s.ax
 | [],_=>rfl
 | p::l,s=>by
  have:=az.zG l (s.cy p.1 p.2);exact this
theorem agv{aO:dF}{cc:hU}{gs:Bool->cc.ak->az}(h:q8 aO T bf Ψ s o=some cc)(aB:cc.CM=some gs):∀ g y,∃ v,(gs g y).ax=(s.set o.dst (.hB g v)).ax:=by
 have after:∀ (t:ad) (bU:List Nat) (v:aG),(q5 s o t bU v).ax=(s.set o.dst v).ax:=λt bU v=>by
  unfold q5;split
  ·rfl
  ·cases o.dst<;>rfl
 have dv:∀ {args:List Operand} {c:hG} {cc:hU} {gs:Bool->cc.ak->az},CN aO s o args c=some cc->cc.CM=some gs->∀ g y,∃ v,(gs g y).ax=(s.set o.dst (.hB g v)).ax:=by
  intro args c cc gs h aB;unfold CN at h;split at h
  ·cases h;cases aB;exact λg y=>⟨_,after _ _ _⟩
  grind
 have Ge:∀ {t:Nat} {args:List Operand} {cc:hU} {gs:Bool->cc.ak->az},CO aO s o t args=some cc->cc.CM=some gs->∀ g y,∃ v,(gs g y).ax=(s.set o.dst (.hB g v)).ax:=by
  intro t args cc gs h aB;unfold CO at h;split at h
  ·split at h
   ·cases h;cases aB;exact λg y=>⟨_,after _ _ _⟩
   grind
  grind
 unfold q8 at h;split at h
 ·split at h
  ·split at h
   ·split at h
    ·unfold xw at h;grind
    ·unfold Gh at h;grind
    ·split at h
     ·exact dv h aB
     grind
   ·split at h
    ·rename_i M;cases h;exact Ge M aB
    ·split at h
     ·rename_i M;cases h;unfold Gj xw at M;grind
     ·unfold Gk at h;grind
   grind
  grind
 ·unfold Gl at h;grind
 ·unfold Gn at h;grind
 ·unfold Gp at h;grind
 ·unfold CR at h;grind
 grind
theorem vv{x:Operand}{t:Nat}(h:h8 x=some t):x=.tmp t:=by
 cases x<;>simp[h8]at h;rw[h]
theorem TE{o gF kU ke:Oper}{d1 d2:Nat}(h:zM o gF kU=some (ke,d1,d2)):∃ ty m x y,o.op=.mapEntry ty m x/\o.dst=some d1/\gF.op=.extract (.tmp d1) 1/\gF.dst=some d2/\kU.op=.entryStore ty m (.tmp d2) y/\kU.dst=none/\
  ke.op=.mapUpdate ty m x y/\ke.dst=none/\m≠.tmp d1/\m≠.tmp d2/\y≠.tmp d1/\y≠.tmp d2/\o.guard=none/\gF.guard=none/\kU.guard=none:=by
 unfold zM at h;split at h
 ·rename_i ty m x af;split at h
  ·rename_i e xM;split at h
   ·rename_i mO dx a6 y axY;split at h
    ·rename_i adM Kq Mh Da TF;split at h
     ·rename_i hc;simp only[Option.some.injEq,Prod.mk.injEq]at h;obtain⟨rfl,rfl,rfl⟩:=h;obtain⟨bE,c2,rfl,c4,c5,lO,oq,w_,c9,GL,agw,c12,agx⟩:=hc;obtain⟨oF,ua⟩:=Option.isSome_iff_exists.1 c4;have fk:=vv ua;have hm:=vv (c5.symm.trans ua);have aw:=vv bE;have aN:=vv c2;subst aw;subst aN;refine⟨mO,m,x,y,af,Mh,xM,Da,?_,TF,rfl,TF,λe=>oq (by grind),λe=>w_ (by grind),λe=>c9 (by grind),λe=>GL (by grind),Option.isNone_iff_eq_none.1 agw,Option.isNone_iff_eq_none.1 c12,Option.isNone_iff_eq_none.1 agx⟩;grind
     grind
    grind
   grind
  grind
 grind
theorem Mi{β:Type}(aU:dT C.P T)(cB:jm C.P bf)(cY:lW C.P C.aM Ψ)(au:∀ o∈ops.toList,lo o C.nt=true){k:az->A β}{O:β->Prop}
  (al:∀ s' a' w',ct C s' a' w'->A.cx (k s') O->Q .normal a' w'):∀ (os:List Oper) (n:Nat) (tg:ph) (s:az) (a:Act) (w:World),ops.toList.drop n=os->qi ops s tg->ct C s a w->A.cx (mq C.aM T bf Ψ ops os tg s k) O->
   wpOpsIn (dS C.r) 0 C.P ops Q (List.range' n os.length) a w:=by
 intro os;generalize hlen:os.length=len;induction len using Nat.strongRecOn generalizing os with
 | _ len TG=>
 subst hlen;cases os with
 | nil=>
  intro n tg s a w _ _ M hm;exact al s a w M hm
 | cons o os=>
  have aJ:=TG os.length (by simp) os rfl;intro n tg s a w aA xN M hm;have cb:n<ops.toList.length:=by
   grind
  rw[List.drop_eq_getElem_cons cb]at aA;injection aA with qb hW
  have eU:ops[n]?=some o:=by
   grind
  have jM:o∈ops.toList:=qb ▸ List.getElem_mem cb;have xO:=au o jM;have bg:∀ i,o.dst=some i->i<C.nt:=λi G=>by
   have:=xO;simp only[lo,Bool.and_eq_true]at this;grind
  simp only[List.length_cons,List.range'_succ,wpOpsIn,eU];obtain⟨κ,F,eV⟩:=M;unfold mq at hm;split at hm
  ·rename_i ke d1 d2 sx;cases os with
   | nil=>exact hm.1.elim
   | cons gF os=>
    cases os with
    | nil=>exact hm.1.elim
    | cons kU os=>
     simp only at hm;split at hm
     ·rename_i res gu;obtain⟨ty,m,x,y,f1,f2,f3,f4,f5,f6,f7,f8,f9,f10,f11,f12,g1,ew,g3⟩:=TE sx;have TH:=hW;have Cj:n+1<ops.toList.length:=by
       grind
      rw[List.drop_eq_getElem_cons Cj]at TH;injection TH with agy TI
      have agz:n+2<ops.toList.length:=by
       grind
      rw[List.drop_eq_getElem_cons agz]at TI;injection TI with axZ agA
      have agB:ops[n+1]?=some gF:=by
       grind
      have ax0:ops[n+2]?=some kU:=by
       grind
      have Da:d2<C.nt:=by
       have:=au gF (agy ▸ List.getElem_mem Cj);simp only[lo,Bool.and_eq_true]at this;grind
      rw[A.kL,A.kL]at hm;have cn:Region.wanted o (yielded ops a.tmps)=true:=by unfold Region.wanted;rw[g1]
      have c7:∀ a':Act,Region.wanted gF (yielded ops a'.tmps)=true:=λa'=>by unfold Region.wanted;rw[ew]
      have eW:∀ a':Act,Region.wanted kU (yielded ops a'.tmps)=true:=λa'=>by unfold Region.wanted;rw[g3]
      have:=agb (Q:=Q) (K:=λa' w'=>wpOpsIn (dS C.r) 0 C.P ops Q (List.range' (n+3) os.length) a' w') aU f1 f2 f3 f4 f5 f6 f7 f8 f9 f10 f11 f12 (bg d1 f2) Da gu eV hm.1 hm.2.1
       λa' w' bb=>TG os.length (by grind) os rfl (n+3) [] _ a' w' agA (λp an=>by cases an) bb hm.2.2
      rw[cn];simp only[if_true];refine Oper.wpIn_mono (λb8 ax1 E=>?_) this;simp only[List.length_cons,List.range'_succ,wpOpsIn,agB,c7,if_true];grind
     ·exact hm.1.elim
  split at hm
  ·exact hm.1.elim
  ·rename_i aB;have ax2:o.guard=none:=by
    cases h:o.guard with
    | none=>rfl
    | some p=>
     rw[h]at aB;simp only[ky]at aB;grind
   rw[Me eV aB];simp only[Option.getD_none,if_true];split at hm
   ·rename_i res gu;rw[sw λW=>(GR xN (gk:=none) (λk al=>by cases al) W).run s.aa res gu,sw λW=>(zD W).run s.aa res gu]at hm;refine Oper.wpIn_mono (λa' w' bb=>aJ (n+1) _ _ a' w' hW (xN.hj (λi G=>?_) λd k _ al=>by grind) bb hm.2.2) (xk aU cB xO gu a w κ F Q eV hm.1 hm.2.1);unfold az.h5;rw[az.C' G,az.zG]
   ·split at hm
    ·rename_i cc oE;obtain⟨jH,p8,mn⟩:=Mc aU cB cY bg oE;rw[sw λW=>mn (KX W),A.gg]at hm;exact jH a w Q _ ⟨κ,F,eV⟩ hm.1 (hm.2.mono λy aQ a' w' bb=>aJ (n+1) _ _ a' w' hW (λp an=>by cases an) bb aQ)
    ·exact hm.1.elim
  ·rename_i g aB;have GS:∀ k,o.guard=some k->g=true->ky s.ax ops (some k)=some (some true):=λk al aH=>by grind
   rw[Me eV aB];simp only[Option.getD_some];split at hm
   ·rename_i ca c agC agD gu;split at hm
    ·rename_i hD e9 xP;obtain⟨agE,agF⟩:=agp xP gu;rw[sw λW=>by
      simp only[Bool.and_eq_true]at W;exact λGU=>⟨(GR xN (λk al=>GS k al GU) W.1).run s.aa _ gu,(zD W.2.1).run s.aa _ gu,agu xN (λk al=>GS k al GU) xP gu W.2.2⟩]at hm
     have Db:qi ops ((s.gh hD).set o.dst (.hB g (use e9).2)) (xx ops tg o):=xN.hj (λi G=>by rw[az.C' G,az.zG]) λd k au al=>⟨g,(use e9).2,by rw[au,az.Mg],by grind⟩
     cases g with
     | true=>
      simp only[if_true];obtain⟨E,U,ag⟩:=hm.1 rfl;refine Oper.wpIn_mono (λa' w' bb=>aJ (n+1) _ _ a' w' hW Db (ct.LO (av':=.hB true (use e9).2) (agE a' w' bb) bg λκ F v ae=>⟨λ_=>o8 ae ag,λh=>(by cases h)⟩) hm.2) (xk aU cB xO gu a w κ F Q eV E U)
     | false=>
      simp only[Bool.false_eq_true,if_false];refine⟨λ_ _=>trivial,aJ (n+1) _ _ _ w hW Db ?_ hm.2⟩;obtain⟨κ',F',agG⟩:=agF a w κ F eV;exact⟨κ',F',agG.set (av:=.hB false (use e9).2) bg ⟨λh=>(by cases h),λ_=>rfl⟩⟩
    ·cases g with
     | true=>
      simp only[if_true]at hm ⊢;rw[A.kL,A.kL]at hm;exact Oper.wpIn_mono (λa' w' bb=>aJ (n+1) _ _ a' w' hW (λp an=>by cases an) bb hm.2.2) (xk aU cB xO gu a w κ F Q eV hm.1 hm.2.1)
     | false=>
      simp only[Bool.false_eq_true,if_false]at hm ⊢;exact⟨λ_ _=>trivial,aJ (n+1) _ _ _ w hW (λp an=>by cases an) ⟨κ,F,eV.set (av:=.hB false (SX agD (use agC).2)) bg ⟨λh=>(by cases h),λ_=>rfl⟩⟩ hm⟩
   ·split at hm
    ·rename_i cc oE;obtain⟨jH,p8,mn⟩:=Mc aU cB cY bg oE;split at hm
     ·rename_i gs oD;obtain⟨dy,dO⟩:=p8 gs oD;rw[sw λW GU=>mn (TC xN (λk al=>GS k al GU) W),A.gg]at hm;have Db:∀ y,qi ops (gs g y) (xx ops tg o):=λy=>by
       obtain⟨v,ae⟩:=agv oE oD g y;exact xN.hj (λi G=>by rw[ae,az.C' G]) λd k au al=>⟨g,v,by rw[ae,au,az.Mg],by grind⟩
      cases g with
      | true=>
       simp only[if_true];exact jH a w Q _ ⟨κ,F,eV⟩ (hm.1 rfl) (hm.2.mono λy aQ a' w' bb=>aJ (n+1) _ _ a' w' hW (Db y) (dy y a' w' bb) aQ)
      | false=>
       simp only[Bool.false_eq_true,if_false];exact⟨λ_ _=>trivial,aJ (n+1) _ _ _ w hW (Db cc.d) (dO a w ⟨κ,F,eV⟩) (by
        have h:=hm.2;simp only[cq,Bool.false_eq_true,if_false]at h;exact h.2 cc.d rfl)⟩
     ·cases g with
      | true=>
       simp only[if_true]at hm ⊢;rw[A.kL,A.gg]at hm;exact jH a w Q _ ⟨κ,F,eV⟩ hm.1 (hm.2.mono λy aQ a' w' bb=>aJ (n+1) _ _ a' w' hW (λp an=>by cases an) bb aQ)
      | false=>
       simp only[Bool.false_eq_true,if_false]at hm ⊢;exact⟨λ_ _=>trivial,aJ (n+1) _ _ _ w hW (λp an=>by cases an) ⟨κ,F,eV.set (av:=.hB false (use ((cc.st cc.d).ax (o.dst.getD 0))).2) bg ⟨λh=>(by cases h),λ_=>rfl⟩⟩ hm⟩
    ·exact hm.1.elim
end
end Go.Fer
namespace Go.Fer
open Go.RowKit
section
variable {C:b_} {T:Nat->ad} {bf:Nat->Option aK} {s:az} {res:eB}
theorem agH{P:Program}:∀ (t:ad),t.kP=true->∀ {F F':Nat->Prop} {w w':World} {cs:List Value} {x:t.ai},bI P t F w cs x->bI P t F' w' cs x:=by
 intro t;induction t with
 | bool=>intro _ F F' w w' cs x h;exact h
 | int k=>intro _ F F' w w' cs x h;exact h
 | str=>intro _ F F' w w' cs x h;exact h
 | cT=>intro hc;cases hc
 | st t aJ=>intro hc F F' w w' cs x h;simp only[bI]at h ⊢;exact aJ hc h
 | ay a b fx eJ=>
  intro hc F F' w w' cs x h;simp only[ad.kP,Bool.and_eq_true]at hc;simp only[bI]at h ⊢;grind
 | slice e aJ=>intro hc;cases hc
 | array n e aJ=>intro hc;cases hc
 | bH e aJ=>intro hc;cases hc
 | map k v wT wU=>intro hc;cases hc
 | fn a b fx eJ=>intro hc;cases hc
 | cr a aJ=>intro hc;cases hc
 | et=>intro hc;cases hc
theorem TJ{P:Program}{t:ad}(h:t.kP=true){F F':Nat->Prop}{w w':World}{v:Value}{x:t.ai}(ae:eu P t F w v x):eu P t F' w' v x:=⟨ae.1,agH t h ae.2⟩
theorem GV(a:Act){i j:Nat}(h:i≠j)(v u:Value):(a.put (some i) v).put (some j) u=(a.put (some j) u).put (some i) v:=by
 simp only[Act.put];rw[Array.setIfInBounds_comm _ _ h]
theorem GW{P:Program}{ty ll zv:TypeId}(G:P.underlying ty=some (.map ll zv)){r:Nat}{ms:Array MapEntry}{clk:Nat}{w:World}(hw:w.heap[r]?=some (.map ms clk)){key u:Value}{f:Option (Nat×Value)}
  (ec:(Instr.checkKey ms.isEmpty 10000 ll key).run P w=.ok () w) (ao:(Instr.findKey ll key ms.toList).run P w=.ok f w) (hu:(∃ i,f=some (i,u))\/(f=none/\(zeroValue zv).run P w=.ok u w)) :
  (Instr.lookup ty (.map (some r)) key false).run P w=.ok u w:=by
 have eU:(getObj r).run P w=.ok (.map ms clk) w:=by simp[getObj,Sem.run,hw]
 rcases hu with⟨i,rfl⟩ | ⟨rfl,bk⟩
 ·simp only[Instr.lookup,Sem.run_bind,dC G,Result.andThen_ok,Sem.run_pure,eU,ec,ao];rfl
 ·simp only[Instr.lookup,Sem.run_bind,dC G,Result.andThen_ok,Sem.run_pure,eU,ec,ao,bk];rfl
theorem agI(aU:dT C.P T){gG hH ke:Oper}{ty:TypeId}{m x y:Operand}(iK:gG.op=.lookup ty m x false)(ln:hH.op=.mapEntry ty m x)(h9:ke.op=.mapUpdate ty m x y){dL:az}(qZ:dL.aa=s.aa)
  (pn:a7 C.aM dL.ax m=a7 C.aM s.ax m) (FN:a7 C.aM dL.ax x=a7 C.aM s.ax x) (h:(bw C.aM T bf (a7 C.aM dL.ax) ke).run dL.aa=some res)
  {a:Act} {w:World} {κ:Nat->bC} {F:Nat->Prop} (M:bl C s a w κ F) (Mj:(use (a7 C.aM s.ax m)).1) (Mk:(use (a7 C.aM s.ax x)).1) :
  ∃ u n wE,∀ a':Act,a'.eval m=a.eval m->a'.eval x=a.eval x->
   (execOp a'.eval gG).run C.P w=.ok (.value u) w/\(execOp a'.eval gG).run C.P wE=.ok (.value u) wE/\(execOp a'.eval hH).run C.P w=.ok (.value (.tuple #[u,goInt n])) wE:=by
 simp only[bw,h9,qS,pn,FN,qZ]at h;split at h
 ·rename_i k v aH;obtain⟨ll,zv,G,mT,hh⟩:=(aU.b6 aH (by simp)).mp;obtain⟨inf,mr,i1,i2,i3,i4,i5,i6⟩:=ks hh.kr;split at h
  ·rename_i xK;split at h
   ·rename_i b g tN;simp only[aq.e4,Option.bind_eq_some_iff,aq.run_bind,aq.e3,aq.bM]at h;obtain⟨⟨dJ,oj⟩,ah,⟨mU,om⟩,aQ,h⟩:=h;split at h
    ·rename_i aB;obtain⟨aB,_⟩:=aB;split at h
     ·rename_i k' h2 es W;simp only[Option.map_eq_some_iff]at h;obtain⟨Sj,o',rfl⟩:=h;obtain⟨e,rfl⟩:=kN o';cases e;have hm:bB C.P s.aa κ F w (use (a7 C.aM s.ax m)).2 (a.eval m):=cO M m rfl Mj;rw[tN]at hm;have kT:=hm.2 aB.symm (by rw[W];rfl);have fj:k.kP=true/\k.j6<=100:=by simpa [tB]using xK
      have tO:=Cb M ah (cO M x rfl Mk);have GX:∀ (F':Nat->Prop) w',eu C.P k F' w' (a.eval x) dJ:=λF' w'=>TJ fj.1 tO;have aS:=M.bD b;unfold cF at aS;rw[W]at aS;obtain⟨ms,clk,hw,tP⟩:=aS;have ec:∀ em w',(Instr.checkKey em 10000 ll (a.eval x)).run C.P w'=.ok () w':=λem w'=>(Cx (em:=em) (F:=λ_=>True) k 10000 fj.1 (by omega)).1 mT (GX _ w');have TK:=tP.es;have TB:∀ (j:Nat) (e:MapEntry) (p:k.ai×v.ai),ms.toList[j]?=some e->es[j]?=some p->∀ (F':Nat->Prop) w',eu C.P k F' w' e.key p.1:=λj e p E U F' w'=>TJ fj.1 (TK.2 j e p E U).1;obtain⟨f,dy,dO⟩:=xf (F:=λ_=>True) (w:=w) (β:=v.ai) (xs:=es) (es:=ms.toList) xK mT (GX _ w) TK.1 (λj e p E U=>TB j e p E U _ w);have eU:(getObj (κ b).aa).run C.P w=.ok (.map ms clk) w:=by simp[getObj,Sem.run,hw]
      obtain⟨hs,KJ,FT,Sk⟩:=tP;have cb:(κ b).aa<w.heap.size:=(Array.getElem?_eq_some_iff.1 hw).1;have bk:∀ w',(zeroValue zv).run C.P w'=.ok mr w':=λw'=>qT i1 i4;have GY:∀ (a':Act) (w':World) (u:Value),a'.eval m=a.eval m->a'.eval x=a.eval x->(Instr.lookup ty (.map (some (κ b).aa)) (a.eval x) false).run C.P w'=.ok u w'->(execOp a'.eval gG).run C.P w'=.ok (.value u) w':=by
       intro a' w' u aw aN bb;simp only[execOp,iK,aw,aN,kT,Sem.run_bind,bb,Result.andThen_ok,Sem.run_pure]
      have agJ:∀ q:k.ai,gK k dJ q=true<->dJ=q:=λq=>KF k fj.1 dJ q;rcases dO with⟨rfl,eN⟩ | ⟨j,e,p,g1,ew,g3,g4,rfl⟩
      ·let cn:World:={ w with heap:=w.heap.setIfInBounds (κ b).aa (.map (ms.push { key:=a.eval x,val:=mr,born:=clk }) (clk+1)) }
       have lS:cn.heap[(κ b).aa]?=some (.map (ms.push { key:=a.eval x,val:=mr,born:=clk }) (clk+1)):=by grind
       obtain⟨iC,b4,cv⟩:=xf (F:=λ_=>True) (w:=cn) (β:=v.ai) (xs:=es++[(dJ,v.de)]) (es:=(ms.push { key:=a.eval x,val:=mr,born:=clk }).toList) xK mT (GX _ cn) (by grind) (λj e p E U=>by
        grind)
       have ri:∃ i,iC=some (i,mr):=by
        rcases cv with⟨_,ef⟩ | ⟨j,e,p,eG,dL,eI,oG,rfl⟩
        ·have:=ef (dJ,v.de) (by simp);grind
        ·by_cases aE:j<es.length
         ·grind
         grind
       refine⟨mr,clk,cn,λa' aw aN=>⟨GY a' w mr aw aN (GW G hw (ec _ w) dy (.inr ⟨rfl,bk w⟩)),GY a' cn mr aw aN (GW G lS (ec _ cn) b4 (.inl ri)),?_⟩⟩;simp only[execOp,ln,aw,aN,kT,Instr.mapEntry,Sem.run_bind,dC G,Result.andThen_ok,eU,ec,dy,bk,se hw,Sem.run_pure];rfl
      ·have aE:j<es.length:=(List.getElem?_eq_some_iff.1 ew).1;have xg:j<ms.size:=by omega
       have KL:ms[j]=e:=by
        grind
       obtain⟨jo,cn,t1,t2,t3⟩:=KH C.P w e.key (a.eval x);have lS:cn.heap[(κ b).aa]?=some (.map ms clk):=by rcases t3 with rfl | rfl<;>exact hw
       have Tx:(κ b).aa<cn.heap.size:=(Array.getElem?_eq_some_iff.1 lS).1;have nO:((ms[j]?).map (·.key)).getD (a.eval x)=e.key:=by
        grind
       have Mb:((ms[j]?).map (λx=>(x.born:Int))).getD 0=(ms[j].born:Int):=by grind
       rw[Nat.zero_add]at dy;have ael:dJ=p.1:=(agJ p.1).1 g3;let c7:World:={ cn with heap:=cn.heap.setIfInBounds (κ b).aa (.map (ms.modify j λe=>{ e with key:=jo }) clk) }
       have gW:c7.heap[(κ b).aa]?=some (.map (ms.modify j λe=>{ e with key:=jo }) clk):=by grind
       have vb:∀ (F':Nat->Prop) w',eu C.P k F' w' jo p.1:=λF' w'=>by
        grind
       have zr:∀ i,(ms.modify j λe=>{ e with key:=jo }).toList[i]?=if i=j then some { e with key:=jo } else ms.toList[i]?:=λi=>by
        grind
       obtain⟨iC,b4,cv⟩:=xf (F:=λ_=>True) (w:=c7) (β:=v.ai) (xs:=es) (es:=(ms.modify j λe=>{ e with key:=jo }).toList) xK mT (GX _ c7) (by grind) (λi a6 p' E U=>by
        rw[zr]at E;grind)
       have ri:∃ i,iC=some (i,e.val):=by
        rcases cv with⟨_,ef⟩ | ⟨i,a6,p',eG,dL,eI,oG,rfl⟩
        ·have:=ef p (List.mem_of_getElem? ew);rw[g3]at this;cases this
        ·have zw:i=j:=by
          rcases Nat.lt_trichotomy i j with h | h | h
          ·have:=g4 i p' h dL;rw[eI]at this;cases this
          ·exact h
          ·have:=oG j p h ew;rw[g3]at this;cases this
         subst zw;rw[zr,if_pos rfl]at eG;cases eG;exact⟨_,rfl⟩
       refine⟨e.val,ms[j].born,c7,λa' aw aN=>⟨GY a' w e.val aw aN (GW G hw (ec _ w) dy (.inl ⟨_,rfl⟩)),GY a' c7 e.val aw aN (GW G gW (ec _ c7) b4 (.inl ri)),?_⟩⟩;simp only[execOp,ln,aw,aN,kT,Instr.mapEntry,Sem.run_bind,dC G,Result.andThen_ok,eU,ec,dy];rw[nO,t1];simp only[Result.andThen_ok,se lS,Sem.run_pure,Mb];rfl
     grind
    grind
   ·cases h
  ·cases h
 ·cases h
end
end Go.Fer
namespace Go.Fer
open Go.RowKit
section
variable {C:b_} {T:Nat->ad} {bf:Nat->Option aK} {Ψ:Nat->Option e5} {s:az} {o:Oper} {Q:Exit->Act->World->Prop} {ops:Array Oper}
theorem A.agK{ak:Type}{m:A ak}(h:m.CL){d x:ak}(ah:m.bK x):x=m.val d:=by
 unfold A.val;have he:∃ x,m.bK x:=⟨x,ah⟩
 rw[dif_pos he];exact h _ _ ah he.choose_spec
theorem TL(cB:jm C.P bf)(cY:lW C.P C.aM Ψ):jm C.P (Gg bf Ψ):=by
 intro k c h;unfold Gg at h;split at h
 ·rename_i dv Md;split at h
  ·rename_i au;cases h;simp only[Bool.and_eq_true,Bool.not_eq_true']at au;have h:=cY k _ Md;obtain⟨E,U⟩:h1 C.P k dv.ts dv.aV dv.sh/\(dv.dR=true->∀ x,(dv.sh x).CL):=h;exact⟨λ_=>E.y6 λx aD=>⟨aD,λy aQ=>A.agK (U au.1 x) aQ⟩,λhe=>by rw[show nJ dv.Ge.aV=nJ dv.aV from rfl,au.2]at he;cases he⟩
  grind
 ·rename_i c' hc;cases h;have h:nJ c.aV=true/\Cu C.P k c:=cY k _ hc;exact⟨λhe=>(by rw[h.1]at he;cases he),λ_=>h.2⟩
 ·cases h
 ·exact cB k c h
theorem TM{β:Type}{m:A β}{O:β->Prop}:∀ (l:List Prop),A.cx (CT l m) O->(∀ p∈l,p)/\A.cx m O:=by
 intro l;induction l with
 | nil=>intro h;exact⟨λp an=>(by cases an),h⟩
 | cons p l aJ=>
  intro h;simp only[CT]at h;rw[A.kL]at h;grind
theorem TN{dy dO:Bool}{ca c:Prop}(E:dy=true->ca)(U:dO=true->c)(h:∀ p∈CE dy dO ca c,p):ca/\c:=by
 unfold CE at h;constructor
 ·cases dy with
  | true=>grind
  | false=>simp_all
 ·cases dO with
  | true=>grind
  | false=>simp_all
theorem TO(aU:dT C.P T)(cB:jm C.P bf)(au:lo o C.nt=true){r:eO}(h:vl C.aM T bf ops s o=some r)(hc:∀ p∈r.cs,p){a:Act}{w:World}(M:ct C s a w){K:Act->World->Prop}
  (iJ:∀ a' w',ct C (r.h6 s) a' w'->K a' w') :
  if Region.wanted o (yielded ops a.tmps) then o.wpIn (dS C.r) 0 C.P a w K Q else (∀ f,o.about C.P w a.eval=some f->(dS C.r).fn f)/\K (a.put o.dst undef) w:=by
 have bg:∀ i,o.dst=some i->i<C.nt:=λi G=>by
  have:=au;simp only[lo,Bool.and_eq_true]at this;grind
 obtain⟨κ,F,eV⟩:=M;unfold vl at h;split at h
 ·cases h
 ·rename_i g aB;rw[Me eV aB];split at h
  ·cases h
  ·rename_i res gu;split at h
   ·cases h;simp only[Option.getD_none,if_true];obtain⟨E,U⟩:=TN (λW=>(SB W).run s.aa res gu) (λW=>(zD W).run s.aa res gu) hc;exact Oper.wpIn_mono iJ (xk aU cB au gu a w κ F Q eV E U)
   ·rename_i b;split at h
    ·rename_i xP;cases h;have hc:∀ p∈CE (sg (a7 C.aM s.ax) o&&(mY (a7 C.aM s.ax) o&&!res.e9.zC)) true (b=true->res.ca/\(res.c/\(use res.e9).1)) True,p:=hc;obtain⟨E,_⟩:=TN (λW=>by
      simp only[Bool.and_eq_true,Bool.not_eq_true']at W;exact λ_=>⟨(SB W.1).run s.aa _ gu,(zD W.2.1).run s.aa _ gu,F1 W.2.2⟩) (λ_=>trivial) hc
     obtain⟨ca,c,e9,hD⟩:=res;simp only at xP;subst xP;cases b with
     | true=>
      simp only[Option.getD_some,if_true];obtain⟨E,U,ag⟩:=E rfl;refine Oper.wpIn_mono (λa' w' bb=>iJ a' w' ?_) (xk aU cB au gu a w κ F Q eV E U);exact ct.LO (av':=.hB true (use e9).2) bb bg λκ F v ae=>⟨λ_=>o8 ae ag,λh=>(by cases h)⟩
     | false=>
      simp only[Option.getD_some,Bool.false_eq_true,if_false];exact⟨λ_ _=>trivial,iJ _ _ ⟨κ,F,eV.set (av:=.hB false (use e9).2) bg ⟨λh=>(by cases h),λ_=>rfl⟩⟩⟩
    grind
theorem TP(cl:List (List Nat)):∀ n,zO cl n<=n/\∀ j,zO cl n<=j->j<n->∀ i,i<j->i∈cl.getD j []
 | 0=>⟨Nat.le_refl _,λj _ h=>by omega⟩
 | n+1=>by
  unfold zO;split
  ·rename_i h;obtain⟨E,U⟩:=TP cl n;refine⟨by omega,λj aE Ml i G=>?_⟩;by_cases e:j=n
   ·simp_all
   grind
  grind
theorem agL{n:Nat}(rj:CH ops.toList=true)(agM:∀ j,n<=j->j<ops.size->∀ i,i<j->i∈(ih ops.toList).getD j []):∀ (k j cj:Nat) (listed:Array Bool) (a:Act) (w:World),n<=j->j+k=ops.size->listed.size=ops.size->
  (∀ i,listed.getD i false=decide (i<j))->k<=cj->wpOpsIn (dS C.r) 0 C.P ops Q (List.range' j k) a w->wpAnyIn (dS C.r) 0 C.P .any ops Q cj listed a w:=by
 intro k;induction k with
 | zero=>
  intro j cj listed a w agN agO cd aj ao h;have M:∀ i,i ∉ Region.ready .any ops listed:=λi G=>by
   rw[mem_ready]at G;grind
  have iL:Region.ready .any ops listed=[]:=List.eq_nil_iff_forall_not_mem.2 M;cases cj with
  | zero=>exact⟨iL,h⟩
  | succ cj=>exact⟨λ_=>h,λi G=>absurd G (M i)⟩
 | succ k aJ=>
  intro j cj listed a w agN agO cd aj ao h;have aE:j<ops.size:=by omega
  cases cj with
  | zero=>omega
  | succ cj=>
   have qj:∀ q o,ops[q]?=some o->listed.getD q false=true->∀ i∈h7 o,listed.getD i false=true:=λq o af br i G=>by
    rw[aj]at br ⊢;have br:q<j:=by grind
    have:=List.all_eq_true.1 rj q (by grind);grind
   have agP:∀ i,i∈Region.ready .any ops listed<->i=j:=λi=>by
    constructor
    ·intro G;rw[mem_ready]at G;obtain⟨aX,o,af,GZ⟩:=G;have ig:i<ops.size:=(Array.getElem?_eq_some_iff.1 af).1;have Dc:listed.getD i false=false:=by
      grind
     rw[aj]at Dc;have FW:j<=i:=by grind
     by_cases e:i=j
     ·exact e
     ·exfalso;have sy:∀ k∈h7 o,listed.getD k false=true:=by
       intro k al;obtain⟨e,he,vw⟩:=List.mem_filterMap.1 al;grind
      have Dd:∀ k∈(ih ops.toList).getD i [],listed.getD k false=true\/k=i:=by
       intro k al;refine xp (p:=λj=>listed.getD j false=true\/j=i) ops.toList [] (λj i G=>by grind) (λj hR kc k al aE=>?_) i k al (.inr rfl);have ls:ops[j]?=some hR:=by grind
       rcases (by simp_all:listed.getD j false=true\/j=i) with aE | aE
       ·exact .inl (qj j hR ls aE k al)
       ·subst aE;rw[af]at ls;cases ls;exact .inl (sy k al)
      grind
    ·rintro rfl;rw[mem_ready];refine⟨?_,ops[i],by simp,λe he W=>?_⟩
     ·grind
     ·have ig:e.on∈h7 ops[i]:=List.mem_filterMap.2 ⟨e,by grind,by grind⟩;have:=List.all_eq_true.1 rj i (by grind);grind
   refine⟨λM=>?_,λi G=>?_⟩
   ·simp_all
   ·obtain rfl:=(agP i).1 G;have eU:ops[i]?=some ops[i]:=by simp
    rw[List.range'_succ]at h;simp only[wpOpsIn,eU]at h;have next:∀ a w,wpOpsIn (dS C.r) 0 C.P ops Q (List.range' (i+1) k) a w->wpAnyIn (dS C.r) 0 C.P .any ops Q cj (listed.setIfInBounds i true) a w:=λa w cV=>by
     refine aJ (i+1) cj _ a w (by omega) (by omega) (by grind) (λq=>?_) (by omega) cV;by_cases e:q=i
     ·simp_all
     ·rw[getD_set_ne false (Ne.symm e),aj,decide_eq_decide];omega
    unfold wpOpIn;rw[eU];simp only;split
    ·rename_i hw;rw[if_pos hw]at h;exact Oper.wpIn_mono next h
    grind
theorem agQ(aU:dT C.P T)(cB:jm C.P bf)(au:∀ o∈ops.toList,lo o C.nt=true){l:List eO}{s':az}(aD:xl C.aM T bf ops ops.toList s=some (l,s'))(cL:zF ops.toList l=true)
  (hc:∀ r∈l,∀ p∈r.cs,p) (ub:∀ a' w',ct C s' a' w'->Q .normal a' w'):∀ (cj:Nat) (listed:Array Bool) (a:Act) (w:World),listed.size=ops.size->
   (∀ j o,ops[j]?=some o->listed.getD j false=true->∀ i∈h7 o,listed.getD i false=true)->((List.range ops.size).filter λj=>!listed.getD j false).length<=cj->
   ct C (js l s λj=>listed.getD j false) a w->wpAnyIn (dS C.r) 0 C.P .any ops Q cj listed a w:=by
 obtain⟨hlen,r',De⟩:=SI _ _ aD;simp only[zF,Bool.and_eq_true]at cL;obtain⟨rj,Mm⟩:=cL;have agR:∀ j o,ops[j]?=some o->∀ i∈h7 o,i<j:=by
  intro j o af i G;have aE:j<ops.toList.length:=by
   grind
  have:=List.all_eq_true.1 rj j (by grind);grind
 have agS:∀ i j x y,i<j->l[i]?=some x->l[j]?=some y->((ih ops.toList).getD j []).contains i=true\/x.apart y=true:=by
  intro i j x y zw G aE;have z6:j<l.length:=(List.getElem?_eq_some_iff.1 aE).1;have:=List.all_eq_true.1 Mm j (by grind);grind
 have Df:∀ listed:Array Bool,listed.size=ops.size->Region.ready .any ops listed=[]->∀ j,j<ops.size->listed.getD j false=true:=by
  intro listed cd M j;induction j using Nat.strongRecOn with
  | _ j aJ=>
   intro aE;cases aj:listed.getD j false with
   | true=>rfl
   | false=>
    exfalso;have jM:j∈Region.ready .any ops listed:=by
     rw[mem_ready];refine⟨?_,ops[j],by simp,λe he W=>?_⟩
     ·grind
     ·have ig:e.on∈h7 ops[j]:=List.mem_filterMap.2 ⟨e,by grind,by grind⟩;grind
    grind
 have nW:∀ (listed:Array Bool) (a:Act) (w:World),listed.size=ops.size->Region.ready .any ops listed=[]->ct C (js l s λj=>listed.getD j false) a w->Q .normal a w:=by
  intro listed a w cd M j';have fT:=Df listed cd M;refine ub a w ?_;have:js l s (λj=>listed.getD j false)=s':=by
   rw[r'];unfold js;rw[List.filter_eq_self.2 λp an=>?_,CJ];obtain⟨_,U⟩:=zH an;grind
  grind
 intro cj;induction cj with
 | zero=>
  intro listed a w cd _ Mn j';have M:Region.ready .any ops listed=[]:=by
   cases M:Region.ready .any ops listed with
   | nil=>rfl
   | cons j ax3=>
    exfalso;have jM:j∈Region.ready .any ops listed:=by grind
    rw[mem_ready]at jM;obtain⟨aX,o,af,_⟩:=jM;have aE:=(Array.getElem?_eq_some_iff.1 af).1;have:j∈(List.range ops.size).filter λj=>!listed.getD j false:=by
     grind
    grind
  exact⟨M,nW listed a w cd M j'⟩
 | succ cj aJ=>
  intro listed a w cd qj Mn j';refine⟨λM=>nW listed a w cd M j',λi G=>?_⟩;rw[mem_ready]at G;obtain⟨aX,o,af,GZ⟩:=G;have ig:i<ops.size:=(Array.getElem?_eq_some_iff.1 af).1;have Dc:listed.getD i false=false:=by
   grind
  have jM:o∈ops.toList:=by
   grind
  have sy:∀ k∈h7 o,listed.getD k false=true:=by
   intro k al;obtain⟨e,he,vw⟩:=List.mem_filterMap.1 al;grind
  obtain⟨r,M,gy⟩:=De i o (by grind);have agT:∀ j k,k∈(ih ops.toList).getD j []->listed.getD j false=true->listed.getD k false=true:=by
   refine xp (p:=λj=>listed.getD j false=true) ops.toList [] (λj i G=>by grind) λj hR kc k al aE=>?_;exact qj j hR (by grind) (by simpa using aE) k al
  have Dd:∀ k∈(ih ops.toList).getD i [],listed.getD k false=true\/k=i:=by
   intro k al;refine xp (p:=λj=>listed.getD j false=true\/j=i) ops.toList [] (λj i G=>by grind) (λj hR kc k al aE=>?_) i k al (.inr rfl);have ls:ops[j]?=some hR:=by grind
   rcases (by simpa using aE:listed.getD j false=true\/j=i) with aE | aE
   ·exact .inl (qj j hR ls aE k al)
   ·subst aE;rw[af]at ls;cases ls;exact .inl (sy k al)
  have gM:∀ j x,j<i->l[j]?=some x->listed.getD j false=false->x.apart r=true:=by
   grind
  have tV:∀ j x,i<j->l[j]?=some x->listed.getD j false=true->r.apart x=true:=by
   grind
  obtain⟨aP,aR,bO⟩:=SF (s:=s) (f:=λj=>listed.getD j false) M Dc gM tV;have Mo:=SJ gy aP aR;unfold wpOpIn;rw[af];refine TO aU cB (au o jM) Mo (hc r (List.mem_of_getElem? M)) j' λa' w' bb=>?_;have eU:∀ j,(listed.setIfInBounds i true).getD j false=if j=i then true else listed.getD j false:=by
   intro j;by_cases e:j=i
   ·subst e;rw[if_pos rfl,Array.getD_eq_getD_getElem?,Array.getElem?_setIfInBounds_self_of_lt (by omega)];rfl
   ·rw[if_neg e,getD_set_ne false (Ne.symm e)]
  refine aJ _ a' w' (by grind) (λj hR kc aE k al=>?_) ?_ ?_
  ·rw[eU]at aE ⊢;split
   ·rfl
   ·split at aE
    ·rename_i e;subst e;rw[af]at kc;cases kc;exact sy k al
    ·exact qj j hR kc aE k al
  ·have cb:((List.range ops.size).filter λj=>!(listed.setIfInBounds i true).getD j false).length<((List.range ops.size).filter λj=>!listed.getD j false).length:=by
    have aw:(List.range ops.size).filter (λj=>!(listed.setIfInBounds i true).getD j false)=((List.range ops.size).filter λj=>!listed.getD j false).filter λj=>decide (j≠i):=by
     rw[List.filter_filter];apply List.filter_congr;intro j _;rw[eU];simp
    rw[aw];have Mp:i∈(List.range ops.size).filter λj=>!listed.getD j false:=by
     grind
    exact List.length_filter_lt_length_iff_exists.2 ⟨i,Mp,by simp⟩
   omega
  ·have:js l s (λj=>(listed.setIfInBounds i true).getD j false)=r.h6 (js l s λj=>listed.getD j false):=by
    rw[<-bO];congr 1;funext j;grind
   grind
def G0(n:Nat)(l b e x:Bool)(listed:Array Bool):Prop:=∀ i,listed.getD i false=(decide (i<n)||(l&&decide (i=n))||(b&&decide (i=n+1))||(e&&decide (i=n+2))||(x&&decide (i=n+3)))
def mv(a:Act)(eg fL d1 d2:Nat)(u vB vE vX:Value)(l b e x:Bool):Act:=
 let b8:=if l=true then a.put (some eg) u else a
 let a2:=if b=true then b8.put (some fL) vB else b8
 let a3:=if e=true then a2.put (some d1) vE else a2
 if x=true then a3.put (some d2) vX else a3
theorem agU(a:Act)(d:Option Nat)(v:Value):(a.put d v).tmps.size=a.tmps.size:=by cases d<;>simp[Act.put]
theorem agV(a:Act)(eg fL d1 d2:Nat)(u vB vE vX:Value)(l b e x:Bool):(mv a eg fL d1 d2 u vB vE vX l b e x).tmps.size=a.tmps.size:=by
 unfold mv;cases l<;>cases b<;>cases e<;>cases x<;>simp[agU]
theorem TQ{a:Act}{eg fL d1 d2:Nat}{u vB vE vX:Value}{l b e x:Bool}{y:Operand}(E:y≠.tmp eg)(U:y≠.tmp fL)(ag:y≠.tmp d1)(a1:y≠.tmp d2):(mv a eg fL d1 d2 u vB vE vX l b e x).eval y=a.eval y:=by
 unfold mv;cases l<;>cases b<;>cases e<;>cases x<;>simp[zZ,E,U,ag,a1]
theorem Dg{o:Oper}{a:Act}{w w':World}{K:Act->World->Prop}{v:Value}(au:∀ c,o.op≠.defer c)(h:(execOp a.eval o).run C.P w=.ok (.value v) w')(al:o.wpIn (dS C.r) 0 C.P a w K Q):K (a.put o.dst v) w':=by
 have:=al.2;rw[ze au,h]at this;exact this
theorem agW{n:Nat}(TR:ops.size=n+5)(rj:CH ops.toList=true){gG ik hH iG lU:Oper}(xQ:ops[n]?=some gG)(vx:ops[n+1]?=some ik)(z7:ops[n+2]?=some hH)(Dh:ops[n+3]?=some iG)(Di:ops[n+4]?=some lU)
  (Dj:gG.guard=none) (Dk:ik.guard=none) (G1:hH.guard=none) (G2:iG.guard=none) (G3:lU.guard=none) (Dl:∀ c,gG.op≠.defer c) (G4:∀ c,ik.op≠.defer c) (G5:∀ c,hH.op≠.defer c) (G6:∀ c,iG.op≠.defer c)
  (gM:∀ q,q<5->∀ i,i<n->i∈(ih ops.toList).getD (n+q) []) (Mq:n∈(ih ops.toList).getD (n+1) []) (TS:n+2∈(ih ops.toList).getD (n+3) []) (z8:∀ q,q<4->n+q∈(ih ops.toList).getD (n+4) [])
  (TT:∀ i∈h7 hH,i<n) (TU:∀ i∈h7 iG,i<n\/i=n+2)
  {eg fL d1 d2:Nat} (sz:gG.dst=some eg) (dd:ik.dst=some fL) (Dm:hH.dst=some d1) (G7:iG.dst=some d2) (_n1:eg≠fL) (ee:eg≠d1) (jl:eg≠d2) (n4:fL≠d1) (Dn:fL≠d2)
  {a:Act} {w wE:World} {u vB vE vX:Value}
  (TV:∀ b e x,(execOp (mv a eg fL d1 d2 u vB vE vX false b e x).eval gG).run C.P (if e=true then wE else w)=.ok (.value u) (if e=true then wE else w))
  (TW:∀ e x,(execOp (mv a eg fL d1 d2 u vB vE vX true false e x).eval ik).run C.P (if e=true then wE else w)=.ok (.value vB) (if e=true then wE else w))
  (TX:∀ l b x,(execOp (mv a eg fL d1 d2 u vB vE vX l b false x).eval hH).run C.P w=.ok (.value vE) wE)
  (TY:∀ l b,(execOp (mv a eg fL d1 d2 u vB vE vX l b true false).eval iG).run C.P wE=.ok (.value vX) wE)
  (h:wpOpsIn (dS C.r) 0 C.P ops Q (List.range' n 5) a w):∀ (cj:Nat) (listed:Array Bool),listed.size=ops.size->(∀ i,listed.getD i false=decide (i<n))->5<=cj->wpAnyIn (dS C.r) 0 C.P .any ops Q cj listed a w:=by
 let aL:=mv a eg fL d1 d2 u vB vE vX;let ar:=λe:Bool=>if e=true then wE else w
 have wt:∀ {o:Oper},o.guard=none->∀ a':Act,Region.wanted o (yielded ops a'.tmps)=true:=λh a'=>by unfold Region.wanted;rw[h]
 have G8:lU.wpIn (dS C.r) 0 C.P (aL true true true true) wE (λa' w'=>Q .normal a' w') Q:=by
  have dY:List.range' n 5=[n,n+1,n+2,n+3,n+4]:=rfl;rw[dY]at h;simp only[wpOpsIn,xQ,vx,z7,Dh,Di,wt Dj,wt Dk,wt G1,wt G2,wt G3,if_true]at h;have E:=Dg (a:=aL false false false false) (w:=w) Dl (TV false false false) h;rw[sz]at E;have U:=Dg (a:=aL true false false false) (w:=w) G4 (TW false false) E;rw[dd]at U;have ag:=Dg (a:=aL true true false false) (w:=w) G5 (TX true true false) U;rw[Dm]at ag;have a1:=Dg (a:=aL true true true false) (w:=wE) G6 (TY true true) ag;rw[G7]at a1;exact a1
 have agX:∀ {l b e x:Bool} {listed:Array Bool},G0 n l b e x listed->(b=true->l=true)->(x=true->e=true)->∀ q o,ops[q]?=some o->listed.getD q false=true->∀ i∈h7 o,listed.getD i false=true:=by
  intro l b e x listed bo W ah q o af br i G;have agY:q<ops.size:=(Array.getElem?_eq_some_iff.1 af).1;have ax4:i<q:=by
   have:=List.all_eq_true.1 rj q (by grind);grind
  rw[bo]at br ⊢;grind
 have ax5:∀ {listed:Array Bool} {i:Nat},listed.size=ops.size->i<ops.size->(listed[i]?.getD true=false<->listed.getD i false=false):=by
  intro listed i cd G;rw[Array.getD_eq_getD_getElem?,Array.getElem?_eq_getElem (by omega)];rfl
 have agZ:∀ {l b e x:Bool} {listed:Array Bool},G0 n l b e x listed->(b=true->l=true)->(x=true->e=true)->listed.size=ops.size->∀ i∈Region.ready .any ops listed,(i=n/\l=false)\/(i=n+1/\l=true/\b=false)\/(i=n+2/\e=false)\/(i=n+3/\e=true/\x=false)\/(i=n+4/\l=true/\b=true/\e=true/\x=true):=by
  intro l b e x listed bo W ah cd i G;have qj:=agX bo W ah;rw[mem_ready]at G;obtain⟨aX,o,af,GZ⟩:=G;have ig:i<ops.size:=(Array.getElem?_eq_some_iff.1 af).1;have aX:listed.getD i false=false:=by
   grind
  have sy:∀ k∈h7 o,listed.getD k false=true:=by
   intro k al;obtain⟨e,he,vw⟩:=List.mem_filterMap.1 al;split at vw
   ·rename_i W;cases vw;grind
   grind
  have Dd:∀ k∈(ih ops.toList).getD i [],listed.getD k false=true\/k=i:=by
   intro k al;refine xp (p:=λj=>listed.getD j false=true\/j=i) ops.toList [] (λj i G=>by simp at G) (λj hR kc k al aE=>?_) i k al (.inr rfl);have ls:ops[j]?=some hR:=by grind
   rcases (by simpa using aE:listed.getD j false=true\/j=i) with aE | aE
   ·exact .inl (qj j hR ls aE k al)
   ·subst aE;rw[af]at ls;cases ls;exact .inl (sy k al)
  rw[bo]at aX;simp only[Bool.or_eq_false_iff,Bool.and_eq_false_iff,decide_eq_false_iff_not]at aX;obtain⟨⟨⟨⟨hk,aP⟩,aR⟩,bO⟩,gx⟩:=aX;have FW:n<=i:=by omega
  have ag0:i=n\/i=n+1\/i=n+2\/i=n+3\/i=n+4:=by omega
  have flag:∀ q,q<4->n+q∈(ih ops.toList).getD i []->n+q≠i->(if q=0 then l else if q=1 then b else if q=2 then e else x)=true:=by
   intro q br hm eN;rcases Dd _ hm with h | h
   ·rw[bo]at h;simp only[Bool.or_eq_true,Bool.and_eq_true,decide_eq_true_eq]at h;rcases h with (((h | ⟨E,h⟩) | ⟨E,h⟩) | ⟨E,h⟩) | ⟨E,h⟩
    ·omega
    ·grind
    ·have:q=1:=by omega
     subst this;exact E
    ·have:q=2:=by omega
     subst this;exact E
    ·have:q=3:=by omega
     subst this;exact E
   omega
  rcases ag0 with rfl | rfl | rfl | rfl | rfl
  ·grind
  ·exact .inr (.inl ⟨rfl,flag 0 (by omega) Mq (by omega),by grind⟩)
  ·grind
  ·grind
  ·exact .inr (.inr (.inr (.inr ⟨rfl,flag 0 (by omega) (z8 0 (by omega)) (by omega),flag 1 (by omega) (z8 1 (by omega)) (by omega),flag 2 (by omega) (z8 2 (by omega)) (by omega),flag 3 (by omega) (z8 3 (by omega)) (by omega)⟩)))
 have ag1:∀ {l b e x:Bool} {listed:Array Bool},G0 n l b e x listed->(b=true->l=true)->(x=true->e=true)->listed.size=ops.size->Region.ready .any ops listed≠[]:=by
  intro l b e x listed bo W ah cd vh;have mk:∀ i o,ops[i]?=some o->listed.getD i false=false->(∀ k∈h7 o,listed.getD k false=true)->False:=by
   intro i o af aX au;have ig:i<ops.size:=(Array.getElem?_eq_some_iff.1 af).1;have:i∈Region.ready .any ops listed:=by
    rw[mem_ready];refine⟨?_,o,af,λe he W=>au e.on (List.mem_filterMap.2 ⟨e,by grind,by grind⟩)⟩;grind
   grind
  have lt:∀ q o,ops[q]?=some o->∀ i∈h7 o,i<q:=by
   intro q o af i G;have agY:q<ops.size:=(Array.getElem?_eq_some_iff.1 af).1;have:=List.all_eq_true.1 rj q (by grind);rw[show ops.toList[q]?=some o by grind]at this;have:=List.all_eq_true.1 this i G;grind
  cases l with
  | false=>
   have pb:b=false:=by grind
   subst pb;exact mk n gG xQ (by rw[bo];simp) λk al=>by rw[bo];grind
  | true=>
   cases b with
   | false=>exact mk (n+1) ik vx (by rw[bo];simp) λk al=>by rw[bo];grind
   | true=>
    cases e with
    | false=>
     have Mr:x=false:=by grind
     subst Mr;exact mk (n+2) hH z7 (by rw[bo];simp) λk al=>by rw[bo];grind
    | true=>
     cases x with
     | false=>exact mk (n+3) iG Dh (by rw[bo];simp) λk al=>by rw[bo];grind
     | true=>exact mk (n+4) lU Di (by rw[bo];simp) λk al=>by rw[bo];grind
 have Dp:∀ {listed:Array Bool} (i:Nat),listed.size=ops.size->i<ops.size->∀ q,(listed.setIfInBounds i true).getD q false=(listed.getD q false||decide (q=i)):=by
  intro listed i cd G q;by_cases e:q=i
  ·grind
  grind
 let cg:=λ(l b e x:Bool)=>∀ (cj:Nat) (listed:Array Bool),G0 n l b e x listed->listed.size=ops.size->5<=cj+(l.toNat+b.toNat+e.toNat+x.toNat)->wpAnyIn (dS C.r) 0 C.P .any ops Q cj listed (aL l b e x) (ar e);have step:∀ l b e x,(b=true->l=true)->(x=true->e=true)->(l=false->cg true b e x)->(l=true->b=false->cg l true e x)->(e=false->cg l b true x)->(e=true->x=false->cg l b e true)->cg l b e x:=by
  intro l b e x W ah eG dL eI oG cj listed bo cd sx;have ax6:l.toNat<=1/\b.toNat<=1/\e.toNat<=1/\x.toNat<=1:=⟨Bool.toNat_le l,Bool.toNat_le b,Bool.toNat_le e,Bool.toNat_le x⟩
  cases cj with
  | zero=>omega
  | succ cj=>
   refine⟨λM=>absurd M (ag1 bo W ah cd),λi G=>?_⟩;rcases agZ bo W ah cd i G with⟨rfl,E⟩ | ⟨rfl,E,U⟩ | ⟨rfl,E⟩ | ⟨rfl,E,U⟩ | ⟨rfl,E,U,ag,a1⟩
   ·subst E;have pb:b=false:=by grind
    subst pb;unfold wpOpIn;simp only[xQ,wt Dj,if_true];refine ht Dl (TV false e x) ?_;rw[sz];have zc:(aL false false e x).put (some eg) u=aL true false e x:=by
     simp only[aL,mv];cases e<;>cases x<;>simp[GV _ ee.symm,GV _ jl.symm]
    show wpAnyIn _ _ _ _ _ _ _ _ ((aL false false e x).put (some eg) u) (ar e);rw[zc];refine eG rfl cj _ (λq=>?_) (by grind) (by grind);rw[Dp i cd (by omega),bo];by_cases br:q=i<;>simp[br]
   ·subst E;subst U;unfold wpOpIn;simp only[vx,wt Dk,if_true];refine ht G4 (TW e x) ?_;rw[dd];have zc:(aL true false e x).put (some fL) vB=aL true true e x:=by
     simp only[aL,mv];cases e<;>cases x<;>simp[GV _ n4.symm,GV _ Dn.symm]
    show wpAnyIn _ _ _ _ _ _ _ _ ((aL true false e x).put (some fL) vB) (ar e);rw[zc];refine dL rfl rfl cj _ (λq=>?_) (by grind) (by grind);rw[Dp (n+1) cd (by omega),bo];by_cases br:q=n+1<;>simp[br]
   ·subst E;have Mr:x=false:=by grind
    subst Mr;unfold wpOpIn;simp only[z7,wt G1,if_true];refine ht G5 (TX l b false) ?_;rw[Dm];show wpAnyIn _ _ _ _ _ _ _ _ (aL l b true false) (ar true);refine eI rfl cj _ (λq=>?_) (by grind) (by grind);rw[Dp (n+2) cd (by omega),bo];simp
   ·subst E;subst U;unfold wpOpIn;simp only[Dh,wt G2,if_true];refine ht G6 (TY l b) ?_;rw[G7];show wpAnyIn _ _ _ _ _ _ _ _ (aL l b true true) (ar true);refine oG rfl rfl cj _ (λq=>?_) (by grind) (by grind);rw[Dp (n+3) cd (by omega),bo];simp
   ·subst E;subst U;subst ag;subst a1;unfold wpOpIn;simp only[Di,wt G3,if_true];refine Oper.wpIn_mono (λa' w' br=>?_) G8;have fT:∀ i,(listed.setIfInBounds (n+4) true).getD i false=decide (i<n+5):=λi=>by
     rw[Dp (n+4) cd (by omega),bo,Bool.eq_iff_iff];simp only[Bool.or_eq_true,Bool.and_eq_true,decide_eq_true_eq,true_and];omega
    have M:∀ i,i ∉ Region.ready .any ops (listed.setIfInBounds (n+4) true):=λi G=>by
     rw[mem_ready]at G;obtain⟨aX,o,af,_⟩:=G;grind
    have iL:Region.ready .any ops (listed.setIfInBounds (n+4) true)=[]:=List.eq_nil_iff_forall_not_mem.2 M;cases cj with
    | zero=>exact⟨iL,br⟩
    | succ cj=>exact⟨λ_=>br,λi G=>absurd G (M i)⟩
 have f:∀ {p:Prop},(true:Bool)=false->p:=λh=>by cases h
 have iC:∀ {p:Prop},(false:Bool)=true->p:=λh=>by cases h
 have TZ:cg true true true true:=step _ _ _ _ (λ_=>rfl) (λ_=>rfl) f (λ_=>f) f (λ_=>f);have T0:cg true true true false:=step _ _ _ _ (λ_=>rfl) (λ_=>rfl) f (λ_=>f) f (λ_ _=>TZ);have ag2:cg true true false false:=step _ _ _ _ (λ_=>rfl) iC f (λ_=>f) (λ_=>T0) iC;have T1:cg true false true true:=step _ _ _ _ (λ_=>rfl) (λ_=>rfl) f (λ_ _=>TZ) f (λ_=>f);have T2:cg true false true false:=step _ _ _ _ (λ_=>rfl) (λ_=>rfl) f (λ_ _=>T0) f (λ_ _=>T1);have ag3:cg true false false false:=step _ _ _ _ (λ_=>rfl) iC f (λ_ _=>ag2) (λ_=>T2) iC;have ag4:cg false false true true:=step _ _ _ _ iC (λ_=>rfl) (λ_=>T1) iC f (λ_=>f);have ag5:cg false false true false:=step _ _ _ _ iC (λ_=>rfl) (λ_=>T2) iC f (λ_ _=>ag4);have ag6:cg false false false false:=step _ _ _ _ iC iC (λ_=>ag3) iC (λ_=>ag5) iC;intro cj listed cd aj sx;exact ag6 cj listed (λi=>by grind) cd (by omega)
theorem ag7{n:Nat}(aA:n<=ops.size)(aU:dT C.P T)(cB:jm C.P bf)(au:∀ o∈ops.toList,lo o C.nt=true){l:List eO}{s':az}(aD:xl C.aM T bf ops (ops.toList.take n) s=some (l,s'))(cL:zF (ops.toList.take n) l=true)(agM:∀ j,n<=j->j<ops.size->∀ i,i<n->i∈(ih ops.toList).getD j [])
  (hc:∀ r∈l,∀ p∈r.cs,p) (ub:∀ (cj:Nat) (listed:Array Bool) a' w',listed.size=ops.size->(∀ i,listed.getD i false=decide (i<n))->ops.size - n<=cj->ct C s' a' w'->wpAnyIn (dS C.r) 0 C.P .any ops Q cj listed a' w'):∀ (cj:Nat) (listed:Array Bool) (a:Act) (w:World),listed.size=ops.size->
   (∀ j o,ops[j]?=some o->listed.getD j false=true->∀ i∈h7 o,listed.getD i false=true)->(∀ i,n<=i->listed.getD i false=false)->((List.range ops.size).filter λj=>!listed.getD j false).length<=cj->
   ct C (js l s λj=>listed.getD j false) a w->wpAnyIn (dS C.r) 0 C.P .any ops Q cj listed a w:=by
 obtain⟨hlen,r',De⟩:=SI _ _ aD;have GQ:(ops.toList.take n).length=n:=by grind
 have iK:∀ i,i<n->(ops.toList.take n)[i]?=ops[i]?:=λi G=>by
  grind
 simp only[zF,Bool.and_eq_true]at cL;obtain⟨rj,Mm⟩:=cL;have agR:∀ j o,j<n->ops[j]?=some o->∀ i∈h7 o,i<j:=by
  intro j o Ml af i G;have:=List.all_eq_true.1 rj j (by grind);grind
 have agS:∀ i j x y,i<j->l[i]?=some x->l[j]?=some y->((ih (ops.toList.take n)).getD j []).contains i=true\/x.apart y=true:=by
  intro i j x y zw G aE;have z6:j<l.length:=(List.getElem?_eq_some_iff.1 aE).1;have:=List.all_eq_true.1 Mm j (by grind);grind
 intro cj;induction cj with
 | zero=>
  intro listed a w cd _ pc Mn j';have fT:∀ i,listed.getD i false=decide (i<n):=λi=>by
   by_cases G:i<n
   ·cases aj:listed.getD i false with
    | true=>grind
    | false=>
     exfalso;have:i∈(List.range ops.size).filter λj=>!listed.getD j false:=by
      grind
     grind
   grind
  refine ub 0 listed a w cd fT ?_ ?_
  ·by_cases cb:n<ops.size
   ·have:n∈(List.range ops.size).filter λj=>!listed.getD j false:=by
     grind
    grind
   ·omega
  ·have:js l s (λj=>listed.getD j false)=s':=by
    rw[r'];unfold js;rw[List.filter_eq_self.2 λp an=>?_,CJ];obtain⟨_,U⟩:=zH an;grind
   grind
 | succ cj aJ=>
  intro listed a w cd qj pc Mn j';by_cases Df:∀ i,i<n->listed.getD i false=true
  ·have fT:∀ i,listed.getD i false=decide (i<n):=λi=>by
    grind
   refine ub (cj+1) listed a w cd fT ?_ ?_
   ·have E:(List.range' n (ops.size - n)).length<=((List.range ops.size).filter λj=>!listed.getD j false).length:=by
     have e:(List.range ops.size).filter (λj=>!listed.getD j false)=List.range' n (ops.size - n):=by
      have U:(List.range ops.size).filter (λj=>!listed.getD j false)=(List.range ops.size).filter λj=>decide (n<=j):=List.filter_congr λj _=>by
       grind
      rw[U];have ag:List.range ops.size=List.range n++List.range' n (ops.size - n):=by
       rw[List.range_eq_range',List.range_eq_range'];have:=(List.range'_append (s:=0) (m:=n) (n:=ops.size - n) (step:=1))
       grind
      rw[ag,List.filter_append,List.filter_eq_nil_iff.2 λj aE=>by grind,List.filter_eq_self.2 λj aE=>by grind];rfl
     grind
    grind
   ·have:js l s (λj=>listed.getD j false)=s':=by
     rw[r'];unfold js;rw[List.filter_eq_self.2 λp an=>?_,CJ];obtain⟨_,U⟩:=zH an;grind
    grind
  ·refine⟨λM=>absurd ?_ Df,λi G=>?_⟩
   ·intro j;induction j using Nat.strongRecOn with
    | _ j ax7=>
     intro aE;cases aj:listed.getD j false with
     | true=>rfl
     | false=>
      exfalso;have jM:j∈Region.ready .any ops listed:=by
       rw[mem_ready];refine⟨?_,ops[j],by simp,λe he W=>?_⟩
       ·grind
       ·have ig:e.on∈h7 ops[j]:=List.mem_filterMap.2 ⟨e,by grind,by grind⟩;grind
      grind
   ·rw[mem_ready]at G;obtain⟨aX,o,af,GZ⟩:=G;have ig:i<ops.size:=(Array.getElem?_eq_some_iff.1 af).1;have Dc:listed.getD i false=false:=by
     grind
    have jM:o∈ops.toList:=by
     grind
    have sy:∀ k∈h7 o,listed.getD k false=true:=by
     intro k al;obtain⟨e,he,vw⟩:=List.mem_filterMap.1 al;split at vw
     ·rename_i W;cases vw;exact GZ e (by simpa using he) W
     ·cases vw
    have G:i<n:=by
     by_cases G:i<n
     ·exact G
     ·exfalso;have Dd:∀ k∈(ih ops.toList).getD i [],listed.getD k false=true\/k=i:=by
       intro k al;refine xp (p:=λj=>listed.getD j false=true\/j=i) ops.toList [] (λj i G=>by simp at G) (λj hR kc k al aE=>?_) i k al (.inr rfl);have ls:ops[j]?=some hR:=by grind
       rcases (by simpa using aE:listed.getD j false=true\/j=i) with aE | aE
       ·exact .inl (qj j hR ls aE k al)
       ·subst aE;rw[af]at ls;cases ls;exact .inl (sy k al)
      grind
    obtain⟨r,M,gy⟩:=De i o (by grind);have agT:∀ j k,k∈(ih (ops.toList.take n)).getD j []->listed.getD j false=true->listed.getD k false=true:=by
     refine xp (p:=λj=>listed.getD j false=true) (ops.toList.take n) [] (λj i G=>by simp at G) λj hR kc k al aE=>?_;have Ml:j<n:=by grind
     exact qj j hR (by grind) (by simpa using aE) k al
    have Dd:∀ k∈(ih (ops.toList.take n)).getD i [],listed.getD k false=true\/k=i:=by
     intro k al;refine xp (p:=λj=>listed.getD j false=true\/j=i) (ops.toList.take n) [] (λj i G=>by simp at G) (λj hR kc k al aE=>?_) i k al (.inr rfl);have Ml:j<n:=by grind
     have ls:ops[j]?=some hR:=by grind
     rcases (by simpa using aE:listed.getD j false=true\/j=i) with aE | aE
     ·exact .inl (qj j hR ls aE k al)
     ·subst aE;rw[af]at ls;cases ls;exact .inl (sy k al)
    have gM:∀ j x,j<i->l[j]?=some x->listed.getD j false=false->x.apart r=true:=by
     grind
    have tV:∀ j x,i<j->l[j]?=some x->listed.getD j false=true->r.apart x=true:=by
     grind
    obtain⟨aP,aR,bO⟩:=SF (s:=s) (f:=λj=>listed.getD j false) M Dc gM tV;have Mo:=SJ gy aP aR;unfold wpOpIn;rw[af];refine TO aU cB (au o jM) Mo (hc r (List.mem_of_getElem? M)) j' λa' w' bb=>?_;have eU:∀ j,(listed.setIfInBounds i true).getD j false=if j=i then true else listed.getD j false:=by
     intro j;by_cases e:j=i
     ·subst e;rw[if_pos rfl,Array.getD_eq_getD_getElem?,Array.getElem?_setIfInBounds_self_of_lt (by omega)];rfl
     ·rw[if_neg e,getD_set_ne false (Ne.symm e)]
    refine aJ _ a' w' (by grind) (λj hR kc aE k al=>?_) (λq br=>by rw[eU,if_neg (by omega)];grind) ?_ ?_
    ·rw[eU]at aE ⊢;split
     ·rfl
     ·split at aE
      ·rename_i e;subst e;rw[af]at kc;cases kc;exact sy k al
      ·exact qj j hR kc aE k al
    ·have cb:((List.range ops.size).filter λj=>!(listed.setIfInBounds i true).getD j false).length<((List.range ops.size).filter λj=>!listed.getD j false).length:=by
      have aw:(List.range ops.size).filter (λj=>!(listed.setIfInBounds i true).getD j false)=((List.range ops.size).filter λj=>!listed.getD j false).filter λj=>decide (j≠i):=by
       rw[List.filter_filter];apply List.filter_congr;intro j _;rw[eU];simp
      rw[aw];have Mp:i∈(List.range ops.size).filter λj=>!listed.getD j false:=by
       grind
      exact List.length_filter_lt_length_iff_exists.2 ⟨i,Mp,by simp⟩
     omega
    ·have:js l s (λj=>(listed.setIfInBounds i true).getD j false)=r.h6 (js l s λj=>listed.getD j false):=by
      rw[<-bO];congr 1;funext j;grind
     grind
theorem T3{β:Type}{b:Bool}{p:Prop}{m:A β}{O:β->Prop}(h:A.cx (sk b p m) O):A.cx m O:=by
 cases b with
 | true=>exact h
 | false=>exact (A.kL.1 h).2
theorem ag8{gG ik hH iG lU:Oper}(h:Lv gG ik hH iG lU=true):∃ ty m x G9 Ms k c eg fL d1 d2 ke y,gG.op=.lookup ty m x false/\ik.op=.binOp .add G9 (.tmp eg) (.const (.int k c)) Ms/\hH.op=.mapEntry ty m x/\iG.op=.extract (.tmp d1) 1/\
  ke.op=.mapUpdate ty m x y/\zM hH iG lU=some (ke,d1,d2)/\gG.dst=some eg/\ik.dst=some fL/\hH.dst=some d1/\iG.dst=some d2/\fU k c/\(eg≠fL/\eg≠d1/\eg≠d2/\fL≠d1/\fL≠d2/\d1≠d2)/\
  (m≠.tmp eg/\m≠.tmp fL/\m≠.tmp d1/\m≠.tmp d2)/\(x≠.tmp eg/\x≠.tmp fL/\x≠.tmp d1/\x≠.tmp d2)/\(∃ oF,m=.tmp oF)/\(∃ Mt,x=.tmp Mt)/\gG.guard=none/\ik.guard=none/\hH.guard=none/\iG.guard=none/\lU.guard=none:=by
 unfold Lv at h;split at h
 ·rename_i ty m x G9 t k c Ms mO dx dJ iK aS ln;split at h
  ·rename_i eg fL ke d1 d2 sz dd sx;simp only[decide_eq_true_eq]at h;obtain⟨rfl,rfl,ig,aw,aN,eb,ee,jl,n4,Dn,T4,eG,dL,b8,a2,a3,a4,dN,e0,mJ,rY,dy,dO⟩:=h;obtain⟨ax8,ax9,ax_,ax',f1,f2,f3,f4,f5,f6,f7,f8,f9,f10,f11,f12,g1,ew,g3⟩:=TE sx;obtain⟨oF,ua⟩:=Option.isSome_iff_exists.1 eG;obtain⟨Mt,T5⟩:=Option.isSome_iff_exists.1 dL;have em:=vv ua;have ex:=vv T5;have ag9:=vv (aw.trans ua);have ag_:=vv (aN.trans T5);rw[f1]at ln;simp only[Op.mapEntry.injEq]at ln;obtain⟨rfl,rfl,rfl⟩:=ln;subst em;subst ex;subst ag9;subst ag_;refine⟨_,_,_,_,_,_,_,_,_,_,_,ke,_,iK,aS,f1,f3,f7,sx,sz,dd,f2,f4,ig,⟨eb,ee,jl,n4,Dn,T4⟩,?_,?_,⟨_,rfl⟩,⟨_,rfl⟩,Option.isNone_iff_eq_none.1 dy,Option.isNone_iff_eq_none.1 dO,g1,ew,g3⟩
   ·simp only[h8,ne_eq,Option.some.injEq]at b8 a2 a3 a4;exact⟨λe=>b8 (by cases e;rfl),λe=>a2 (by cases e;rfl),λe=>a3 (by cases e;rfl),λe=>a4 (by cases e;rfl)⟩
   ·simp only[h8,ne_eq,Option.some.injEq]at dN e0 mJ rY;exact⟨λe=>dN (by cases e;rfl),λe=>e0 (by cases e;rfl),λe=>mJ (by cases e;rfl),λe=>rY (by cases e;rfl)⟩
  grind
 grind
theorem ag'{β:Type}{n:Nat}(ss:Gs ops.toList=true)(aA:n=ops.size - 5)(aU:dT C.P T)(cB:jm C.P bf)(cY:lW C.P C.aM Ψ)(au:∀ o∈ops.toList,lo o C.nt=true){k:az->A β}{O:β->Prop}
  (al:∀ s' a' w',ct C s' a' w'->A.cx (k s') O->Q .normal a' w') (hm:A.cx (mq C.aM T bf Ψ ops (ops.toList.drop n) [] s k) O) :
  (n<=ops.size/\∀ j,n<=j->j<ops.size->∀ i,i<n->i∈(ih ops.toList).getD j [])/\∀ (a:Act) (w:World),ct C s a w->∀ (cj:Nat) (listed:Array Bool),listed.size=ops.size->(∀ i,listed.getD i false=decide (i<n))->ops.size - n<=cj->wpAnyIn (dS C.r) 0 C.P .any ops Q cj listed a w:=by
 unfold Gs at ss;rw[show ops.toList.length - 5=n by grind]at ss;split at ss
 ·rename_i gG ik hH iG lU T6;simp only[Bool.and_eq_true,List.all_eq_true,List.mem_range,List.contains_eq_mem,decide_eq_true_eq,Bool.or_eq_true]at ss;obtain⟨aha,⟨⟨⟨⟨⟨rj,gM⟩,Mq⟩,TS⟩,z8⟩,TT⟩,TU⟩:=ss;have TR:ops.size=n+5:=by
   have:=congrArg List.length T6;grind
  have Dq:∀ q (o:Oper),[gG,ik,hH,iG,lU][q]?=some o->ops[n+q]?=some o:=λq o h=>by
   grind
  have xQ:=Dq 0 gG rfl;have vx:=Dq 1 ik rfl;have z7:=Dq 2 hH rfl;have Dh:=Dq 3 iG rfl;have Di:=Dq 4 lU rfl;have mem:∀ {q o},ops[n+q]?=some o->o∈ops.toList:=λh=>by
   grind
  obtain⟨ty,m,x,G9,Ms,fj,c,eg,fL,d1,d2,ke,y,iK,aS,ln,zX,h9,tF,sz,dd,Dm,G7,ig,⟨eb,ee,jl,n4,Dn,T4⟩,⟨m1,m2,m3,m4⟩,⟨w9,w8,T7,ahb⟩,⟨oF,em⟩,⟨Mt,ex⟩,Dj,Dk,G1,G2,G3⟩:=ag8 aha;have Dl:∀ c,gG.op≠.defer c:=by grind
  have G4:∀ c,ik.op≠.defer c:=by grind
  have G5:∀ c,hH.op≠.defer c:=by grind
  have G6:∀ c,iG.op≠.defer c:=by grind
  refine⟨⟨by omega,λj E U i G=>by have:=gM (j - n) (by omega) i G;simp_all⟩,λa w M cj listed cd aj sx=>?_⟩;have T8:=Mi (Q:=Q) aU cB cY au al _ n [] s a w rfl (λp an=>by cases an) M hm;rw[show (ops.toList.drop n).length=5 by grind]at T8;rw[T6]at hm;obtain⟨κ,F,eV⟩:=M;have gd:∀ {o:Oper},o.guard=none->∀ s:az,ky s.ax ops o.guard=some none:=λh s=>by rw[h];rfl
  have T9:∀ {o:Oper} {os},(∀ ty m x,o.op≠.mapEntry ty m x)->zN o os=none:=λ{o os} h=>by
   unfold zN;split
   ·unfold zM;simp
   ·rfl
  have GQ:zN gG [ik,hH,iG,lU]=none:=T9 (by grind);unfold mq at hm;rw[GQ]at hm;simp only[gd Dj]at hm;split at hm
  ·rename_i uc G_;rw[sw λW=>(GR (s:=s) (λp an=>by cases an) (gk:=none) (λk al=>by cases al) W).run s.aa uc G_,sw λW=>(zD W).run s.aa uc G_]at hm;obtain⟨Mu,ahc,hm⟩:=hm;have ahd:=xk aU cB (au gG (mem xQ)) G_;have xR:=G_;simp only[bw,iK,za]at xR;have ahe:(use (a7 C.aM s.ax m)).1/\(use (a7 C.aM s.ax x)).1/\uc.hD=[]/\∃ v u,uc.e9=.val v u:=by
    split at xR
    ·rename_i jo aya ayb;split at xR
     ·simp only[aq.e4,Option.bind_eq_some_iff,bN,aq.bM,Option.some.injEq]at xR;obtain⟨es,o',⟨y,l⟩,aQ,rfl⟩:=xR;exact⟨Mu.1,Mu.2,rfl,_,_,rfl⟩
     ·cases xR
    ·cases xR
   obtain⟨Mj,Mk,T_,T',Ua,ahf⟩:=ahe;have ahg:zN ik [hH,iG,lU]=none:=T9 (by grind);unfold mq at hm;rw[ahg]at hm;simp only[gd Dk]at hm;split at hm
   ·rename_i Mv ahh;have hm:=T3 (T3 hm);have vy:=ahh;have aw:(s.h5 gG.dst uc).ax eg=.val T' Ua:=by rw[sz,az.h5,az.Mg,ahf]
    have lT:w4 (.int fj c)=.val (.int fj) c:=by simp[w4,ig]
    have ahi:∃ b8,T'=.int fj/\Mv.hD=[]/\b8=Ua:=by
     simp only[bw,aS,a7,aw,lT,use,aG.mj,aG.tz]at vy;split at vy
     ·rename_i aP b8 aR dN E U;split at E
      ·rename_i bO T7 ag;cases U;cases ag;cases E;split at vy
       ·rename_i vb;simp only[y8,bN,aq.bM,Option.some.injEq]at vy;grind
       ·cases vy
      grind
     ·rename_i pc;exfalso;split at vy
      ·grind
      ·simp only[aq.e4,Option.bind_eq_some_iff]at vy;obtain⟨⟨c',h2⟩,E,U⟩:=vy;simp only[y9,aq.e4,Option.bind_eq_some_iff,aq.bM]at E;grind
    obtain⟨lu,rfl,Ub,rfl⟩:=ahi;have iD:((s.h5 gG.dst uc).h5 ik.dst Mv).aa=s.aa:=by
     simp only[az.h5,T_,Ub,az.gh,sz,dd,az.set]
    have eF:∀ {t:Nat},t≠eg->t≠fL->((s.h5 gG.dst uc).h5 ik.dst Mv).ax t=s.ax t:=λ{t} E U=>by
     simp only[az.h5,T_,Ub,az.gh];rw[az.C' (by grind),az.C' (by grind)]
    unfold mq at hm;rw[show zN hH [iG,lU]=some (ke,d1,d2) from tF]at hm;simp only at hm;split at hm
    ·rename_i ayc ahj;obtain⟨u,mw,wE,Uc⟩:=agI (s:=s) aU iK ln h9 iD (by rw[em];exact eF (λe=>m1 (by grind)) (λe=>m2 (by grind))) (by rw[ex];exact eF (λe=>w9 (by grind)) (λe=>w8 (by grind))) ahj eV Mj Mk;have ahk:=(Uc a rfl rfl).1;have ahl:=Dg (K:=λa' w'=>ct C (s.h5 gG.dst uc) a' w') (Q:=Q) Dl ahk (ahd a w κ F Q eV Mu ahc);have Ud:eg<a.tmps.size:=by
      have:=au gG (mem xQ);simp only[lo,Bool.and_eq_true]at this;have:=this.1;rw[sz]at this;have E:=eV.dG;grind
     have ayd:d1<a.tmps.size:=by
      have:=au hH (mem z7);simp only[lo,Bool.and_eq_true]at this;have:=this.1;rw[Dm]at this;have E:=eV.dG;grind
     have hu:u=.int fj lu:=by
      obtain⟨afE,z1,gN⟩:=ahl;have E:=gN.bT eg;rw[aw,sz]at E;have U:(a.put (some eg) u).tmps.getD eg Go.undef=u:=C7 Ud;rw[U]at E;exact (gU.1 E).1
     subst hu;let vB:Value:=.int fj (fj.wrap (lu+c));have ahm:∀ (a':Act) (w':World),a'.eval (.tmp eg)=.int fj lu->(execOp a'.eval ik).run C.P w'=.ok (.value vB) w':=λa' w' h=>by
      have U:a'.eval (.const (.int fj c))=.int fj c:=rfl;have ag:(Go.binOp .add G9 (.int fj lu) (.int fj c)).run C.P w'=.ok vB w':=by simp[Go.binOp,Op.intArith,vB]
      simp only[execOp,aS,h,U,Sem.run_bind,RE,Result.andThen_ok,ag,Sem.run_pure]
     have ahn:∀ (a':Act) (w':World),a'.eval (.tmp d1)=.tuple #[.int fj lu,goInt mw]->(execOp a'.eval iG).run C.P w'=.ok (.value (goInt mw)) w':=λa' w' h=>by
      simp[execOp,zX,h,Instr.extract]
     have L_:∀ l b e dJ,(mv a eg fL d1 d2 (.int fj lu) vB (.tuple #[.int fj lu,goInt mw]) (goInt mw) l b e dJ).eval m=a.eval m:=λl b e dJ=>TQ m1 m2 m3 m4;have aho:∀ l b e dJ,(mv a eg fL d1 d2 (.int fj lu) vB (.tuple #[.int fj lu,goInt mw]) (goInt mw) l b e dJ).eval x=a.eval x:=λl b e dJ=>TQ w9 w8 T7 ahb;refine agW (wE:=wE) (u:=.int fj lu) (vB:=vB) (vE:=.tuple #[.int fj lu,goInt mw]) (vX:=goInt mw) TR rj xQ vx z7 Dh Di Dj Dk G1 G2 G3 Dl G4 G5 G6 gM Mq TS z8 TT TU sz dd Dm G7 eb ee jl n4 Dn ?_ ?_ ?_ ?_ T8 cj listed cd aj (by omega)
     ·intro b e dJ;have:=Uc _ (L_ false b e dJ) (aho false b e dJ);cases e
      ·exact this.1
      ·exact this.2.1
     ·intro e dJ;refine ahm _ _ ?_;have E:(mv a eg fL d1 d2 (.int fj lu) vB (.tuple #[.int fj lu,goInt mw]) (goInt mw) true false e dJ).eval (.tmp eg)=(a.put (some eg) (.int fj lu)).eval (.tmp eg):=by
       have dy:Operand.tmp eg≠.tmp d1:=λh=>ee (by grind);have dO:Operand.tmp eg≠.tmp d2:=λh=>jl (by grind);unfold mv;cases e<;>cases dJ<;>simp[zZ,dy,dO]
      rw[E];exact C7 Ud
     ·grind
     ·intro l b;refine ahn _ _ ?_;have E:mv a eg fL d1 d2 (.int fj lu) vB (.tuple #[.int fj lu,goInt mw]) (goInt mw) l b true false=(mv a eg fL d1 d2 (.int fj lu) vB (.tuple #[.int fj lu,goInt mw]) (goInt mw) l b false false).put (some d1) (.tuple #[.int fj lu,goInt mw]):=rfl;rw[E];exact C7 (by rw[agV];omega)
    ·exact hm.1.elim
   ·rename_i aye;exfalso;have:q8 C.aM T bf Ψ (s.h5 gG.dst uc) ik=none:=by
     have lT:w4 (.int fj c)=.val (.int fj) c:=by simp[w4,ig]
     simp only[q8,aS,CR,a7,lT];simp
    rw[this]at hm;exact hm.1
  ·exfalso;have:q8 C.aM T bf Ψ s gG=none:=by simp only[q8,iK]
   rw[this]at hm;exact hm.1
 grind
theorem ahp{β:Type}{L:List (az->A β)}(iK:L≠[]){o:Oper}(aU:dT C.P T)(cB:jm C.P bf)(cY:lW C.P C.aM Ψ)(xO:lo o C.nt=true){O:β->Prop}{s:az}{a:Act}{w:World}(M:ct C s a w)
  (hm:∀ k∈L,A.cx (Gu C.aM T bf Ψ ops o s k) O) {K:Act->World->Prop} (iJ:∀ s' a' w',ct C s' a' w'->(∀ k∈L,A.cx (k s') O)->K a' w'):o.guard=none/\o.wpIn (dS C.r) 0 C.P a w K Q:=by
 obtain⟨hk,mW⟩:=List.exists_mem_of_ne_nil L iK;have bg:∀ i,o.dst=some i->i<C.nt:=λi G=>by
  have:=xO;simp only[lo,Bool.and_eq_true]at this;grind
 unfold Gu at hm;split at hm
 ·exact (hm hk mW).1.elim
 ·rename_i aB;refine⟨aB,?_⟩;split at hm
  ·rename_i res gu;obtain⟨κ,F,eV⟩:=M;have hm:∀ k∈L,res.ca/\res.c/\A.cx (k (s.h5 o.dst res)) O:=λk al=>by
    have:=hm k al;rw[sw λW=>(GR (ops:=ops) (tg:=[]) (s:=s) (λp an=>by cases an) (gk:=none) (λk al=>by cases al) W).run s.aa res gu,sw λW=>(zD W).run s.aa res gu]at this;omega
   exact Oper.wpIn_mono (λa' w' bb=>iJ _ a' w' bb λk al=>(hm k al).2.2) (xk aU cB xO gu a w κ F Q eV (hm hk mW).1 (hm hk mW).2.1)
  ·split at hm
   ·rename_i cc oE;obtain⟨jH,p8,mn⟩:=Mc aU cB cY bg oE;have hm:∀ k∈L,cc.ca/\A.cx cc.m λy=>A.cx (k (cc.st y)) O:=λk al=>by
     have:=hm k al;rw[sw λW=>mn (KX W),A.gg]at this;omega
    refine jH a w Q _ M (hm hk mW).1 ⟨(hm hk mW).2.1,λy aQ a' w' bb=>iJ _ a' w' bb λk al=>(hm k al).2.2 y aQ⟩
   ·exact (hm hk mW).1.elim
theorem ahq{ops:List Oper}{done:List Nat}{i:Nat}:i∈vq ops done<->i<ops.length/\i ∉ done/\∃ o,ops[i]?=some o/\∀ j∈h7 o,j∈done:=by
 unfold vq;grind
theorem Ue{ops:List Oper}:∀ (f:Nat) (done:List Nat),q9 ops f done≠[]
 | 0,done=>by simp[q9]
 | f+1,done=>by
  unfold q9;split
  ·simp
  ·rename_i l aj;cases hc:vq ops done with
   | nil=>grind
   | cons i b6=>
    rw[List.flatMap_cons];intro h;rw[List.append_eq_nil_iff,List.map_eq_nil_iff]at h;exact Ue f _ h.1
theorem Uf{listed:Array Bool}{done:List Nat}(cd:listed.size=ops.size)(aj:∀ i,listed.getD i false=done.contains i):Region.ready .any ops listed=vq ops.toList done:=by
 unfold Region.ready vq;rw[Array.length_toList];refine List.filter_congr λi G=>?_;have G:i<ops.size:=by grind
 have E:listed.getD i true=done.contains i:=by
  grind
 rw[E];congr 1;have af:ops.toList[i]?=some ops[i]:=by simp
 rw[af,Array.getElem?_eq_getElem G];show ops[i].after.all _=(h7 ops[i]).all _;rw[Bool.eq_iff_iff,Array.all_eq_true',List.all_eq_true];unfold h7;grind
theorem ahr{β:Type}(aU:dT C.P T)(cB:jm C.P bf)(cY:lW C.P C.aM Ψ)(au:∀ o∈ops.toList,lo o C.nt=true){k:az->A β}{O:β->Prop}(al:∀ s' a' w',ct C s' a' w'->A.cx (k s') O->Q .normal a' w'):∀ (cj:Nat) (done:List Nat) (listed:Array Bool) (s:az) (a:Act) (w:World),listed.size=ops.size->(∀ i,listed.getD i false=done.contains i)->Gt ops.toList cj done=true->
  ct C s a w->(∀ l∈q9 ops.toList cj done,A.cx (zP C.aM T bf Ψ ops l s k) O)->wpAnyIn (dS C.r) 0 C.P .any ops Q cj listed a w:=by
 intro cj;induction cj with
 | zero=>
  intro done listed s a w cd aj aB M hm;have ow:=Uf (ops:=ops) cd aj;refine⟨?_,al s a w M (hm [] (by simp[q9]))⟩;rw[ow];exact List.isEmpty_iff.1 aB
 | succ cj aJ=>
  intro done listed s a w cd aj aB M hm;have ow:=Uf (ops:=ops) cd aj;refine⟨λaX=>?_,λi G=>?_⟩
  ·rw[ow]at aX;refine al s a w M (hm [] ?_);unfold q9;grind
  ·rw[ow]at G;obtain⟨qa,ig,o,af,_⟩:=ahq.1 G;have qa:i<ops.size:=by omega
   have kc:ops[i]?=some o:=by grind
   have ahs:o∈ops.toList:=List.mem_of_getElem? af;have jM:∀ l∈q9 ops.toList cj (i::done),A.cx (Gu C.aM T bf Ψ ops o s λs'=>zP C.aM T bf Ψ ops l s' k) O:=λl hle=>by
    have:=hm (i::l) (by
     unfold q9;grind)
    unfold zP at this;grind
   obtain⟨g1,ew⟩:=ahp (Q:=Q) (L:=(q9 ops.toList cj (i::done)).map λl=>λs'=>zP C.aM T bf Ψ ops l s' k) (by simpa using Ue cj (i::done)) aU cB cY (au o ahs) M
    (λk' aht=>by obtain⟨l,hle,rfl⟩:=List.mem_map.1 aht;exact jM l hle)
    (K:=wpAnyIn (dS C.r) 0 C.P .any ops Q cj (listed.setIfInBounds i true)) λs' a' w' bb Td=>by
     refine aJ (i::done) _ s' a' w' (by grind) (λj=>?_) ?_ bb λl hle=>Td _ (List.mem_map.2 ⟨l,hle,rfl⟩)
     ·by_cases e:j=i
      ·simp_all
      ·rw[getD_set_ne false (Ne.symm e),aj j];simp[e]
     ·unfold Gt at aB;grind
   unfold wpOpIn;rw[kc];simp only;have hw:Region.wanted o (yielded ops a.tmps)=true:=by unfold Region.wanted;rw[g1]
   grind
theorem Ug{β:Type}(aU:dT C.P T)(cB:jm C.P bf)(cY:lW C.P C.aM Ψ)(au:∀ o∈ops.toList,lo o C.nt=true){k:az->A β}{O:β->Prop}
  (al:∀ s' a' w',ct C s' a' w'->A.cx (k s') O->Q .normal a' w') {a:Act} {w:World} (M:ct C s a w) (hm:A.cx (zQ C.aM T bf Ψ ops s k) O):wpAnyIn (dS C.r) 0 C.P .any ops Q ops.size (Array.replicate ops.size false) a w.drew:=by
 unfold zQ at hm;split at hm
 ·rename_i l s' aD;split at hm
  ·rename_i cL;obtain⟨E,U⟩:=TM _ hm;obtain⟨κ,F,eV⟩:=M;refine agQ aU cB au aD cL (λr M p an=>E p (List.mem_flatMap.2 ⟨r,M,an⟩)) (λa' w' bb=>al s' a' w' bb U) ops.size (Array.replicate ops.size false) a _ (by simp) (λj o _ aj=>?_) ?_ ⟨κ,F,?_⟩
   ·have:(Array.replicate ops.size false).getD j false=false:=by
     rw[Array.getD_eq_getD_getElem?,Array.getElem?_replicate];grind
    grind
   ·grind
   ·have:js l s (λj=>(Array.replicate ops.size false).getD j false)=s:=by
     unfold js;rw[List.filter_eq_nil_iff.2 λp _=>?_]
     ·rfl
     ·simp only[Array.getD_eq_getD_getElem?,Array.getElem?_replicate];grind
    rw[this];exact eV.drew
  ·exact hm.1.elim
 ·split at hm
  ·rename_i l s' aD;split at hm
   ·rename_i cL;rw[Bool.and_eq_true]at cL;obtain⟨E,U⟩:=TM _ hm;obtain⟨κ,F,eV⟩:=M;have cont:(lV ops.toList<=ops.size/\∀ j,lV ops.toList<=j->j<ops.size->∀ i,i<lV ops.toList->i∈(ih ops.toList).getD j [])/\∀ (cj:Nat) (listed:Array Bool) a' w',listed.size=ops.size->(∀ i,listed.getD i false=decide (i<lV ops.toList))->ops.size - lV ops.toList<=cj->ct C s' a' w'->wpAnyIn (dS C.r) 0 C.P .any ops Q cj listed a' w':=by
     by_cases ss:Gs ops.toList=true
     ·have Mw:lV ops.toList=ops.size - 5:=by unfold lV;grind
      obtain⟨aw,aN⟩:=ag' (Q:=Q) ss Mw aU cB cY au al U;grind
     ·have Mw:lV ops.toList=zO (ih ops.toList) ops.toList.length:=by unfold lV;grind
      obtain⟨qb,hW⟩:=TP (ih ops.toList) ops.toList.length;have qb:lV ops.toList<=ops.size:=by grind
      have hW:∀ j,lV ops.toList<=j->j<ops.size->∀ i,i<j->i∈(ih ops.toList).getD j []:=λj E U=>hW j (by omega) (by omega);refine⟨⟨qb,λj E U i G=>hW j E U i (by omega)⟩,λcj listed a' w' cd fT sx bb=>?_⟩;refine agL cL.2 hW (ops.size - lV ops.toList) (lV ops.toList) cj listed a' w' (Nat.le_refl _) (by omega) cd fT sx ?_;have hlen:(ops.toList.drop (lV ops.toList)).length=ops.size - lV ops.toList:=by simp
      rw[<-hlen];exact Mi (Q:=Q) aU cB cY au al _ _ [] s' a' w' rfl (λp an=>by cases an) bb U
    obtain⟨⟨qb,hW⟩,ayf⟩:=cont;refine ag7 qb aU cB au aD cL.1 hW (λr M p an=>E p (List.mem_flatMap.2 ⟨r,M,an⟩)) (λcj listed a' w' cd fT sx bb=>?_) ops.size (Array.replicate ops.size false) a _ (by simp) (λj o _ aj=>?_) (λi _=>?_) ?_ ⟨κ,F,?_⟩
    ·grind
    ·have:(Array.replicate ops.size false).getD j false=false:=by
      rw[Array.getD_eq_getD_getElem?,Array.getElem?_replicate];grind
     grind
    ·rw[Array.getD_eq_getD_getElem?,Array.getElem?_replicate];grind
    ·grind
    ·have:js l s (λj=>(Array.replicate ops.size false).getD j false)=s:=by
      unfold js;rw[List.filter_eq_nil_iff.2 λp _=>?_]
      ·rfl
      ·simp only[Array.getD_eq_getD_getElem?,Array.getElem?_replicate];grind
     rw[this];exact eV.drew
   ·exact hm.1.elim
  ·unfold SZ at hm;split at hm
   ·rename_i zm;obtain⟨κ,F,eV⟩:=M;refine ahr aU cB cY au al ops.size [] (Array.replicate ops.size false) s a _ (by simp) (λi=>?_) zm ⟨κ,F,eV.drew⟩ λl hle=>⟨hm.1 _ (List.mem_map.2 ⟨l,hle,rfl⟩),λy aQ=>hm.2 y ⟨_,List.mem_map.2 ⟨l,hle,rfl⟩,aQ⟩⟩
    rw[Array.getD_eq_getD_getElem?,Array.getElem?_replicate];grind
   ·exact hm.1.elim
theorem ahu{β:Type}{id:Nat}(en:C.P.follows .mixedOrders=true)(aU:dT C.P T)(cB:jm C.P bf)(cY:lW C.P C.aM Ψ)(au:∀ o∈ops.toList,lo o C.nt=true){k:az->A β}{O:β->Prop}
  (al:∀ s' a' w',ct C s' a' w'->A.cx (k s') O->Q .normal a' w') {a:Act} {w:World} (M:ct C s a w) (hm:A.cx (zQ C.aM T bf Ψ ops s k) O):(Code.region id ops true).wpIn (dS C.r) 0 C.P Q a w:=
 wpIn_region_any en (Ug aU cB cY au al M hm)
theorem z_{ops:Array Oper}{j:Nat}{o:Oper}(h:ops[j]?=some o):(lq ops.toList).toArray[j]?=some (if j=0 then o else { o with after:=o.after.push ⟨0,.phase⟩ }):=by
 obtain⟨l⟩:=ops;cases l with
 | nil=>simp at h
 | cons x l=>
  cases j with
  | zero=>simpa [lq]using h
  | succ j=>
   simp only[List.getElem?_toArray,List.getElem?_cons_succ]at h;simp[lq,h]
theorem Mx(ops:Array Oper):(lq ops.toList).toArray.size=ops.size:=by
 obtain⟨l⟩:=ops;cases l<;>simp[lq]
theorem ahv{ops:Array Oper}{j:Nat}{hQ:Oper}(h:(lq ops.toList).toArray[j]?=some hQ):∃ o,ops[j]?=some o/\hQ=if j=0 then o else { o with after:=o.after.push ⟨0,.phase⟩ }:=by
 have aE:j<ops.size:=by rw[<-Mx];exact (Array.getElem?_eq_some_iff.1 h).1
 have:=z_ (ops:=ops) (j:=j) (o:=ops[j]) (by simp[aE]);rw[h]at this;cases this;exact⟨ops[j],by simp[aE],rfl⟩
theorem ahw(ops:Array Oper):yielded (lq ops.toList).toArray=yielded ops:=by
 funext t j;unfold yielded;cases h:ops[j]? with
 | none=>
  have:(lq ops.toList).toArray[j]?=none:=by
   rw[Array.getElem?_eq_none_iff,Mx];exact Array.getElem?_eq_none_iff.1 h
  rw[this]
 | some o=>
  rw[z_ h];by_cases aE:j=0
  ·rw[if_pos aE]
  ·rw[if_neg aE];rfl
theorem ahx{F:Fence}{P:Program}:∀ (cj:Nat) (listed:Array Bool) (a:Act) (w:World),listed.getD 0 false=true->wpAnyIn F 0 P .any (lq ops.toList).toArray Q cj listed a w->wpAnyIn F 0 P .any ops Q cj listed a w:=by
 have ow:∀ (listed:Array Bool),listed.getD 0 false=true->∀ i,i∈Region.ready .any ops listed->i∈Region.ready .any (lq ops.toList).toArray listed:=by
  intro listed aX i G;rw[mem_ready]at G ⊢;obtain⟨E,o,af,U⟩:=G;refine⟨E,_,z_ af,λe he W=>?_⟩;split at he
  ·exact U e he W
  ·rcases Array.mem_push.1 he with he | rfl
   ·exact U e he W
   ·exact aX
 have ahy:∀ (listed:Array Bool),Region.ready .any ops listed=[]->Region.ready .any (lq ops.toList).toArray listed=[]:=by
  intro listed h;rw[List.eq_nil_iff_forall_not_mem]at h ⊢;intro i G;refine h i ?_;rw[mem_ready]at G ⊢;obtain⟨E,hQ,af,U⟩:=G;obtain⟨o,kc,rfl⟩:=ahv af;refine⟨E,o,kc,λe he W=>U e ?_ W⟩;split
  ·exact he
  ·exact Array.mem_push_of_mem _ he
 have ahz:∀ (listed:Array Bool),listed.getD 0 false=true->Region.ready .any (lq ops.toList).toArray listed=[]->Region.ready .any ops listed=[]:=by
  intro listed aX h;rw[List.eq_nil_iff_forall_not_mem]at h ⊢;exact λi G=>h i (ow listed aX i G)
 intro cj;induction cj with
 | zero=>
  intro listed a w aX h;exact⟨ahz listed aX h.1,h.2⟩
 | succ cj aJ=>
  intro listed a w aX h;refine⟨λM=>h.1 (ahy listed M),λi G=>?_⟩;have al:=h.2 i (ow listed aX i G);have next:∀ a w,wpAnyIn F 0 P .any (lq ops.toList).toArray Q cj (listed.setIfInBounds i true) a w->wpAnyIn F 0 P .any ops Q cj (listed.setIfInBounds i true) a w:=λa w=>aJ _ a w (getD_set_true aX)
  have al:=wpOpIn_mono next al
  unfold wpOpIn at al ⊢;rw[mem_ready]at G;obtain⟨_,o,af,_⟩:=G;rw[af];rw[z_ af,ahw]at al;by_cases oy:i=0
  ·rw[if_pos oy]at al;exact al
  ·rw[if_neg oy]at al;exact al
theorem ahA{β:Type}{id:Nat}(en:C.P.follows .mixedOrders=true)(ahB:C.r=none)(ao:Lw ops=true)(aU:dT C.P T)(cB:jm C.P bf)(cY:lW C.P C.aM Ψ)(au:∀ o∈ops.toList,lo o C.nt=true){k:az->A β}{O:β->Prop}
  (al:∀ s' a' w',ct C s' a' w'->A.cx (k s') O->Q .normal a' w') {a:Act} {w:World} (M:ct C s a w) (hm:A.cx (zQ C.aM T bf Ψ (lq ops.toList).toArray s k) O):(Code.region id ops true).wpIn (dS C.r) 0 C.P Q a w:=by
 refine wpIn_mono (Q:=λe a w=>e=.normal/\Q e a w) (wpIn_region_any en ?_) λe a w h=>h.2;have ij:=Ug (Q:=λe a w=>e=.normal/\Q e a w) (ops:=(lq ops.toList).toArray) aU cB cY (λo af=>?_) (λs' a' w' E U=>⟨rfl,al s' a' w' E U⟩) M hm
 ·rw[Mx]at ij;have rk:(dS C.r).round=none:=by rw[ahB];rfl
  unfold Lw at ao;split at ao
  ·cases ao
  ·rename_i o l aj;simp only[Bool.and_eq_true,List.all_eq_true,Bool.or_eq_true]at ao;obtain⟨E,U,ag,a1,bL⟩:=ao;have aX:ops[0]?=some o:=by rw[<-Array.getElem?_toList,aj];rfl
   obtain⟨m,hm⟩:∃ m,ops.size=m+1:=⟨l.length,by rw[<-Array.length_toList,aj];rfl⟩
   rw[hm]at ij ⊢;have aB:o.guard=none:=by simpa using U
   have iL:∀ (ops:Array Oper),ops[0]?=some o->0∈Region.ready .any ops (Array.replicate (m+1) false):=λops h=>by
    rw[mem_ready];refine⟨by simp,o,h,λe he=>?_⟩;rw[Array.isEmpty_iff.1 ag]at he;simp at he
   have kS:∃ x,o.op=.move x:=by
    revert E;cases o.op<;>simp
   obtain⟨x,ah⟩:=kS;have aQ:YieldsFenced C.P ops o (a.eval x) a:=⟨.inl ⟨by unfold Region.wanted;rw[aB],λw=>by simp[execOp,ah]⟩,λw=>by unfold Oper.about;rw[ah]⟩
   have gy:=ij.2 0 (iL _ (by rw[z_ aX];rfl));unfold wpOpIn at gy;rw[z_ aX]at gy;simp only[if_true]at gy;rw[show Region.wanted o (yielded (lq ops.toList).toArray a.tmps)=true by unfold Region.wanted;rw[aB],if_pos rfl]at gy;have gy:wpAnyIn (dS C.r) 0 C.P .any (lq ops.toList).toArray (λe a w=>e=.normal/\Q e a w) m ((Array.replicate (m+1) false).setIfInBounds 0 true) (a.put o.dst (a.eval x)) w.drew:=by
    have:=gy.2;rw[rk,Oper.semAt_none]at this;simpa [execOp,ah,Oper.uponIn]using this
   refine wpAnyIn_first rk aX (Region.noSelect_spec a1) (λc a w h=>by cases h.1) m _ a _ (λj rh Uh ahC _ he=>?_) (iL _ aX) aQ (ahx m _ _ _ (by simp) gy);have jM:rh∈l:=by
    rw[<-Array.getElem?_toList,aj]at Uh;cases j with
    | zero=>exact absurd rfl ahC
    | succ j=>exact List.mem_of_getElem? Uh
   rcases bL rh jM with h | h
   ·exfalso;have h:0∈h7 rh:=by simpa using h
    obtain⟨e,ahD,xi⟩:=List.mem_filterMap.1 h;split at xi
    ·rename_i W;exact he e (by simpa using ahD) W (by simpa using xi)
    ·cases xi
   ·exact h
 ·have af:o∈(lq ops.toList):=by simpa using af
  obtain⟨ol⟩:=ops;cases ol with
  | nil=>cases af
  | cons x l=>
   rcases List.mem_cons.1 af with rfl | af
   ·exact au _ (by simp)
   ·obtain⟨p,an,rfl⟩:=List.mem_map.1 af;have:=au p (by simp[an]);exact this
end
end Go.Fer
namespace Go.Fer
open Go.RowKit
theorem gH{β:Type}{O:β->Prop}(h:A.cx (A.fail:A β) O):False:=h.1
theorem ud{β:Type}{sh:dI}{s:az}{k:sh.ai->A β}{O:β->Prop}(h:A.cx (sh.m_ s k) O):∃ D,sh.ja s=some D/\A.cx (k D) O:=by
 unfold dI.m_ at h;split at h
 ·grind
 ·exact (gH h).elim
def oH(B:Nat):Deferred:={ target:=.collected B,args:=#[] }
structure nX where
 w:World
 K:Nat->Prop
 ms:List Nat
def b_.hj(C:b_)(u:nX):b_:={ C with w0:=u.w,K0:=u.K,dfr:=u.ms.map oH++C.dfr }
structure b_.jN(C:b_)(u:nX):Prop where
 sA:∀ B∈u.ms,u.K B/\u.w.heap[B]?=some (.deferred (some []))
 ez:∀ B∈u.ms,¬C.K0 B/\C.w0.heap.size<=B
 mx:u.ms.Nodup
 hk:∀ r,C.K0 r->u.K r
 eF:∀ r,C.K0 r->u.w.heap[r]?=C.w0.heap[r]?
 size:C.w0.heap.size<=u.w.heap.size
 ev:dc C.w0 u.w
def b_.hE(C:b_):nX:=⟨C.w0,C.K0,[]⟩
theorem b_.vz(C:b_):C.jN C.hE:=⟨λ_ h=>by simp[b_.hE]at h,λ_ h=>by simp[b_.hE]at h,List.nodup_nil,λ_ h=>h,λ_ _=>rfl,Nat.le_refl _,dc.refl _⟩
def nX.then(u v:nX):nX:=⟨v.w,v.K,v.ms++u.ms⟩
theorem b_.z'(C:b_)(u v:nX):(C.hj u).hj v=C.hj (u.then v):=by
 simp[b_.hj,nX.then]
theorem b_.jN.then{C:b_}{u v:nX}(h:C.jN u)(k:(C.hj u).jN v):C.jN (u.then v) where
 sA:=λB aS=>by
  rcases List.mem_append.1 aS with aS | aS
  ·exact k.sA B aS
  ·obtain⟨E,U⟩:=h.sA B aS;exact⟨k.hk B E,(k.eF B E).trans U⟩
 ez:=λB aS=>by
  rcases List.mem_append.1 aS with aS | aS
  ·obtain⟨E,U⟩:=k.ez B aS;exact⟨λag=>E (h.hk B ag),Nat.le_trans h.size U⟩
  ·exact h.ez B aS
 mx:=List.nodup_append.2 ⟨k.mx,h.mx,λa ba b W e=>(k.ez a ba).1 (e ▸ (h.sA b W).1)⟩
 hk:=λr M=>k.hk r (h.hk r M)
 eF:=λr M=>(k.eF r (h.hk r M)).trans (h.eF r M)
 size:=Nat.le_trans h.size k.size
 ev:=h.ev.trans k.ev
theorem bl.Ui{C:b_}{s:az}{a:Act}{w:World}{κ:Nat->bC}{F F':Nat->Prop}(h:bl C s a w κ F){w0 w':World}{F0 K0:Nat->Prop}{nt:Nat}{dfr:List Deferred}{r:Option Nat}{sl:Nat->aG}{a':Act}
    (My:a'.tmps.size=nt) (Mz:a'.defers=dfr) (rl:nt<=eQ) (fl:∀ i,bB C.P s.aa κ F w (sl i) (a'.tmps.getD i undef)) (pc:∀ l aL L n st,sl b5≠.aV l aL L n st)
    (heq:∀ r,F r\/(∃ b,(s.aa b).body.bZ (κ b)=true/\(κ b).aa=r)->w'.heap[r]?=w.heap[r]?) (cd:w.heap.size<=w'.heap.size)
    (bo:∀ r,F r->F' r) (jj:∀ r,F' r->r<w'.heap.size) (Dr:∀ b,(s.aa b).body.bZ (κ b)=true->¬F' (κ b).aa)
    (MA:∀ r,F' r->F0 r\/¬K0 r) (MB:∀ r,F0 r->F' r) (Ds:∀ r,K0 r->r<w0.heap.size) (ue:∀ r,K0 r->w'.heap[r]?=w0.heap[r]?) (gq:∀ b,(s.aa b).body.bZ (κ b)=true->¬K0 (κ b).aa)
    (nb:w0.heap.size<=w'.heap.size) (hc:dc w0 w') :
    bl { C with w0:=w0,F0:=F0,K0:=K0,nt:=nt,dfr:=dfr,r:=r } ⟨sl,s.aa⟩ a' w' κ F':=by
  have he:c1 F w w':=⟨cd,λr M=>heq r (.inl M)⟩
  exact {
          dG:=My,dfr:=Mz,bT:=λi=>bB.later (fq.refl _ _) bo he (fl i)
          bD:=λb=>cF.lb (h.bD b) (fq.refl _ _) bo he rfl rfl λaf=>heq _ (.inr ⟨b,af,rfl⟩)
          own:=λb W=>⟨Nat.lt_of_lt_of_le (h.own b W).1 cd,Dr b W,gq b W⟩,inj:=h.inj,da:=jj
          hf:=MA,hP:=MB,hs:=Ds,eF:=ue,size:=nb,ev:=hc,gp:=rl,ko:=h.ko,jC:=h.jC,j3:=h.j3,kp:=h.kp,eK:=λl aL L n st e=>(pc l aL L n st e).elim,jD:=h.jD,iz:=h.iz.mono bo he }
theorem bl.vA{C:b_}{s:az}{a:Act}{w:World}{κ:Nat->bC}{F:Nat->Prop}(h:bl C s a w κ F){w0 w':World}{F0 K0:Nat->Prop}{nt:Nat}{dfr:List Deferred}{r:Option Nat}{sl:Nat->aG}{a':Act}
  (My:a'.tmps.size=nt) (Mz:a'.defers=dfr) (rl:nt<=eQ) (fl:∀ i,bB C.P s.aa κ F w (sl i) (a'.tmps.getD i undef)) (pc:∀ l aL L n st,sl b5≠.aV l aL L n st)
  (heq:∀ r,F r\/(∃ b,(s.aa b).body.bZ (κ b)=true/\(κ b).aa=r)->w'.heap[r]?=w.heap[r]?) (cd:w.heap.size<=w'.heap.size)
  (MA:∀ r,F r->F0 r\/¬K0 r) (MB:∀ r,F0 r->F r) (Ds:∀ r,K0 r->r<w0.heap.size) (ue:∀ r,K0 r->w'.heap[r]?=w0.heap[r]?) (gq:∀ b,(s.aa b).body.bZ (κ b)=true->¬K0 (κ b).aa)
  (nb:w0.heap.size<=w'.heap.size) (hc:dc w0 w') :
  bl { C with w0:=w0,F0:=F0,K0:=K0,nt:=nt,dfr:=dfr,r:=r } ⟨sl,s.aa⟩ a' w' κ F:=
 h.Ui My Mz rl fl pc heq cd (λ_ h=>h) (λr M=>Nat.lt_of_lt_of_le (h.da r M) cd) (λb W=>(h.own b W).2.1) MA MB Ds ue gq nb hc
theorem bl.G'{C:b_}{s:az}{a:Act}{w:World}{κ:Nat->bC}{F:Nat->Prop}(h:bl C s a w κ F){w0 w':World}{K0:Nat->Prop}{r:Option Nat}
    (iJ:∀ r,K0 r->C.K0 r) (heq:∀ r,F r\/¬C.K0 r->w'.heap[r]?=w.heap[r]?) (cd:w.heap.size<=w'.heap.size) (xS:dc w w')
    (Ds:∀ r,K0 r->r<w0.heap.size) (ue:∀ r,K0 r->w'.heap[r]?=w0.heap[r]?) (nb:w0.heap.size<=w'.heap.size) (hc:dc w0 w') :
    bl { C with w0:=w0,K0:=K0,r:=r } s a w' κ F:=by
  have he:c1 F w w':=⟨cd,λr M=>heq r (.inl M)⟩
  have jj:∀ r,F r->r<w'.heap.size:=λr M=>Nat.lt_of_lt_of_le (h.da r M) cd;exact {
          dG:=h.dG,dfr:=h.dfr,bT:=λi=>bB.later (fq.refl _ _) (λ_ h=>h) he (h.bT i)
          bD:=λb=>cF.lb (h.bD b) (fq.refl _ _) (λ_ h=>h) he rfl rfl λaf=>heq _ (.inr (h.own b af).2.2)
          own:=λb W=>⟨Nat.lt_of_lt_of_le (h.own b W).1 cd,(h.own b W).2.1,λk=>(h.own b W).2.2 (iJ _ k)⟩,inj:=h.inj,da:=jj
          hf:=λr M=>(h.hf r M).imp id λk k'=>k (iJ r k'),hP:=h.hP,hs:=Ds,eF:=ue,size:=nb,ev:=hc,gp:=h.gp,ko:=h.ko,jC:=h.jC,j3:=h.j3,kp:=h.kp
          eK:=λl aL L n st e=>by
            obtain⟨E,U,Y,ag,a1,bL⟩:=h.eK l aL L n st e;exact⟨E,U,Y,λr M=>⟨Nat.lt_of_lt_of_le (ag r M).1 cd,(ag r M).2.1,λk=>(ag r M).2.2 (iJ r k)⟩,a1,U.JY bL (λ_ h=>h) (λr M=>heq r (M.imp id λaQ=>(ag r aQ).2.2)) cd xS jj λr ao aQ=>(ag r aQ).2.1 ao⟩
          jD:=h.jD,iz:=h.iz.mono (λ_ h=>h) he }
theorem Uj{P:Program}{H:Nat->bJ}{κ:Nat->bC}{F:Nat->Prop}{w:World}{aL:ad}{x:aL.ai}:∀ (ps:List Tmp) (args:List Value) (j:Nat) (f:Nat->aG) (oF:Array Value),ps.length=args.length->(∀ p∈ps,p<oF.size)->
  (∀ i,bB P H κ F w (f i) (oF.getD i undef))->(∀ i,i<args.length->bB P H κ F w (kt aL x (j+i)) (args.getD i undef))->
  ∀ i,bB P H κ F w (zR aL x ps j f i) (((ps.zip args).foldl (λtmps p=>tmps.setIfInBounds p.1 p.2) oF).getD i undef)
 | [],[],_,_,_,_,_,ao,_,i=>ao i
 | p::ps,v::args,j,f,oF,aj,an,ao,ae,i=>by
  simp only[zR,List.zip_cons_cons,List.foldl_cons];refine Uj ps args (j+1) _ _ (by grind) (λq br=>by grind) (λi=>?_) (λi G=>?_) i
  ·rw[Array.getD_eq_getD_getElem?,Array.getElem?_setIfInBounds];by_cases e:i=p
   ·grind
   ·rw[if_neg e,if_neg (Ne.symm e)];simp_all
  ·have:=ae (i+1) (by grind);grind
theorem ahE{ps:List Tmp}{args:List Value}:∀ {oF:Array Value},((ps.zip args).foldl (λtmps p=>tmps.setIfInBounds p.1 p.2) oF).size=oF.size:=by
 generalize ps.zip args=l;induction l with
 | nil=>simp
 | cons p l aJ=>grind
def sB:di->Option Code
 | .normal=>none
 | .exit id=>some (.exit id)
 | .ret=>some .ret
def fb(fn:FuncId)(oF:Array Value)(ps:Array Tmp)(assign body:Code)(B:Nat)(st:LoopState)(e:di):Loop:=
 { state:=st,pending:=sB e,fn:=fn,tmps:=oF,params:=ps,assign:=assign,body:=body,defers:=B }
def Ha(P:Program)(aM:dF)(nt:Nat)(assign body:Code)(l:Nat){rout:dI}(run:az->A (di×rout.ai)):Prop:=
 ∀ (C1:b_),C1.P=P->C1.aM=aM->C1.nt=nt->C1.r=some l->∀ (eG:az) (b8:Act) (cn:World) (qk:di×rout.ai->Prop),ct C1 eG b8 cn->A.cx (run eG) qk->
  assign.wpIn (dS (some l)) 0 P (Exit.then (λa2 c7=>∃ u dL,C1.jN u/\ct (C1.hj u) dL a2 c7/\
   ∀ (hv:b_),hv.P=P->hv.aM=aM->hv.nt=nt->hv.r=some l->∀ (c7:World),ct hv dL a2 c7->
    body.wpIn (dS (some l)) 0 P (λe a3 eW=>∃ (a6:di) (v:nX) (eI:az) (bm:rout.ai),e=a6.pj/\hv.jN v/\ct (hv.hj v) eI a3 eW/\rout.ja eI=some bm/\qk (a6,bm)) a2 c7) (λ_ _ _=>False)) b8 cn
theorem ahF{ts:List (Nat×bW)}{R:Type}(h:ts.isEmpty=true)(g:Nat->Nat×Nat)(z:oz ts R)(i:Nat):fr (eC g ts z).1 i=.undef:=by
 cases ts with
 | nil=>rfl
 | cons p ts=>cases h
theorem ahG{P:Program}{l:Nat}{R:Ending->World->Prop}{e:di}{a:Act}{w:World}{r:Loop}(h:w.heap[l]?=some (.loop r))
  (jO:R (.returned (.bool (sB e).isNone)) (w.putObj l (.loop { r with state:=if (sB e).isNone then .ready else .done,pending:=sB e }))):roundPost P l R e.pj a w:=by
 cases e with
 | normal=>exact⟨_,_,run_endRound none h,jO⟩
 | exit id=>exact⟨_,_,run_endRound (some (.exit id)) h,jO⟩
 | ret=>exact⟨_,_,run_endRound (some .ret) h,jO⟩
theorem ahH{CI:b_}{sh rin rout:dI}{aL:ad}{ps:Array Tmp}{assign body:Code}{a:Act}{ar:World}{κ:Nat->bC}{F:Nat->Prop}{D:sh.ai}{fn:FuncId}{l B:Nat}{x:aL.ai}{args:List Value}{run:az->A (di×rout.ai)}
  {Or:di×sh.ai->Prop} {Y Z:Nat->Prop} (ahI:Z l)
  (M:bl CI (sh.st D) a ar κ F) (ec:nU sh rout aL ps.toList a.tmps.size=true) (Dt:Ha CI.P CI.aM a.tmps.size assign body l run) (hm:A.cx (tX sh rin rout aL ps.toList D x run) Or)
  (aj:ar.heap[l]?=some (.loop (fb fn a.tmps ps assign body B .ready .normal))) (ahJ:¬F l) (p9:∀ b,((sh.st D).aa b).body.bZ (κ b)=true->Y (κ b).aa/\¬Z (κ b).aa) (dX:fp CI.P aL F ar args x) :
  ∃ tmps,(Instr.yield l args.toArray).run CI.P ar=.ok (.round l fn tmps assign body) ar/\RoundIn Fence.wide 0 CI.P l fn tmps assign body ar λe ql=>
   ∃ (bG:di) (iH:sh.ai) (κ':Nat->bC) (F':Nat->Prop) (o:Obj),e=.returned (.bool (sB bG).isNone)/\Or (bG,iH)/\ql.heap[l]?=some (.loop (fb fn a.tmps ps assign body B (if (sB bG).isNone then .ready else .done) bG))/\
    bl { CI with w0:=ar.putObj l o,F0:=F,K0:=λr=>r<ar.heap.size/\(Z r\/¬Y r) } (sh.st iH) a ql κ' F':=by
 simp only[nU,Bool.and_eq_true,decide_eq_true_eq,Bool.not_eq_true',List.all_eq_true]at ec;obtain⟨⟨⟨⟨aP,aR⟩,bO⟩,gx⟩,ox⟩:=ec;have Aa:l<ar.heap.size:=(Array.getElem?_eq_some_iff.1 aj).1;obtain⟨iA,Hb⟩:=tK (H:=(sh.st D).aa) (κ:=κ) aL dX bO;have pc:(sh.st D).ax b5=.undef:=xH sh.bT c8 D b5 aR;have FK:(Array.zip ps args.toArray).foldl (λtmps (x:Tmp×Value)=>match x with | (t,a)=>tmps.setIfInBounds t a) a.tmps=(ps.toList.zip args).foldl (λtmps p=>tmps.setIfInBounds p.1 p.2) a.tmps:=by
  rw[<-Array.foldl_toList];simp
 refine⟨(ps.toList.zip args).foldl (λtmps p=>tmps.setIfInBounds p.1 p.2) a.tmps,?_,?_⟩
 ·rw[<-FK];exact run_yield aj (by show args.toArray.size=ps.size;grind)
 have ahK:bl { CI with w0:=ar,F0:=F,K0:=λr=>r<ar.heap.size/\(Z r\/¬Y r) } (sh.st D) a ar κ F:=
  M.vA M.dG M.dfr M.gp M.bT (λl aL L n st e=>by have e:(sh.st D).ax b5=.aV l aL L n st:=e;grind) (λ_ _=>rfl) (Nat.le_refl _) (λ_ h=>.inl h) (λ_ h=>h) (λ_ h=>h.1) (λ_ _=>rfl)
   (λb W h=>h.2.elim (p9 b W).2 λh=>h (p9 b W).1) (Nat.le_refl _) (dc.refl _)
 unfold tX at hm;split at hm
 ·rename_i aI bU ahL;split at hm
  ·rename_i cL;rw[A.gg]at hm;have gN:bl { CI with w0:=ar,F0:=F,K0:=λr=>r<ar.heap.size/\(Z r\/¬Y r),nt:=a.tmps.size,dfr:=[],r:=none } ⟨(xB (sh.st D) aL x ps.toList).ax,(sh.st D).aa⟩ { tmps:=(ps.toList.zip args).foldl (λtmps p=>tmps.setIfInBounds p.1 p.2) a.tmps,defers:=[] } ar κ F:=by
    refine M.vA ahE rfl (by rw[M.dG];exact M.gp) (λi=>?_) (λdH kA e6 iY il e=>?_) (λ_ _=>rfl) (Nat.le_refl _) (λ_ h=>.inl h) (λ_ h=>h) (λ_ h=>h.1) (λ_ _=>rfl)
     (λb W h=>h.2.elim (p9 b W).2 λh=>h (p9 b W).1) (Nat.le_refl _) (dc.refl _)
    ·show bB CI.P (sh.st D).aa κ F ar (if i=b5 then (sh.st D).ax b5 else zR aL x ps.toList 0 (sh.st D).ax i) _;split
     ·rw[pc];trivial
     ·exact Uj ps.toList args 0 _ _ (by omega) (λp an=>by grind) M.bT (λi G=>by grind) i
    ·have e:(if b5=b5 then (sh.st D).ax b5 else zR aL x ps.toList 0 (sh.st D).ax b5)=.aV dH kA e6 iY il:=e;grind
   obtain⟨F',own,gD,ia,f1,bb,gq,Du,ayg,C6,L5⟩:=Tt (c:=vr rin rout) ahK gN (by rfl) ahL rfl cL;have MC:l<ar.heap.size/\(Z l\/¬Y l):=⟨Aa,.inl ahI⟩
   have Uk:¬F' l:=λh=>(bb.hf l h).elim ahJ λh=>h MC;have ahM:¬own l:=λh=>by
    obtain⟨b,E,U⟩:=gq l h;exact (bb.own b E).2.2 (U ▸ MC)
   have ahN:¬gD l:=λh=>(Du.low l h).2.2 MC;have Ul:l<ar.heap.size/\¬own l/\¬gD l:=⟨Aa,ahM,ahN⟩
   have Hc:bl { re CI ar F' a.tmps.size own gD ia with r:=some l } (rin.st aI) _ ar _ F':=C6.G' (w0:=ar) (w':=ar) (K0:=λr=>r<ar.heap.size/\¬own r/\¬gD r) (r:=some l) (λ_ h=>h) (λ_ _=>rfl) (Nat.le_refl _) (dc.refl _) (λ_ h=>h.1) (λ_ _=>rfl) (Nat.le_refl _) (dc.refl _);refine roundIn_of_wpIn trivial ?_;refine wpIn_mono (Dt { re CI ar F' a.tmps.size own gD ia with r:=some l } rfl rfl rfl rfl (rin.st aI) _ ar _ ⟨_,_,Hc⟩ hm) λe a2 c7 br=>?_;cases e with
   | normal=>
    obtain⟨u,dL,hu,⟨na,ek,cN⟩,bS⟩:=br;have sC:u.K l:=hu.hk l Ul;have gv:c7.heap[l]?=some (.loop (fb fn a.tmps ps assign body B .ready .normal)):=(cN.eF l sC).trans ((hu.eF l Ul).trans aj);refine⟨_,run_beginRound gv rfl,?_⟩;have ahO:l<c7.heap.size:=(Array.getElem?_eq_some_iff.1 gv).1;have ahP:¬ek l:=λh=>(cN.hf l h).elim Uk λh=>h sC;have oI:=cN.G' (w0:=c7.putObj l (.loop (fb fn a.tmps ps assign body B .busy .normal))) (w':=c7.putObj l (.loop (fb fn a.tmps ps assign body B .busy .normal))) (K0:=u.K) (r:=some l) (λ_ h=>h)
     (λr h=>World.putObj_heap_other λe=>by
      subst e;exact h.elim ahP λh=>h sC) (by simp) ⟨rfl,rfl,rfl⟩ (λr h=>by
       have:=cN.hs r h;have:=cN.size;simp;omega) (λ_ _=>rfl) (Nat.le_refl _) (dc.refl _)
    refine wpIn_mono (bS { ({ re CI ar F' a.tmps.size own gD ia with r:=some l }:b_).hj u with w0:=c7.putObj l (.loop (fb fn a.tmps ps assign body B .busy .normal)),K0:=u.K,r:=some l } rfl rfl rfl rfl _ ⟨na,ek,oI⟩) λe a3 eW ⟨a6,v,eI,bm,he,ae,⟨Hd,Um,my⟩,gi,He⟩=>?_;subst he;obtain⟨Hd,Un,f4,oJ⟩:=dI.zT gi my;have xc:v.K l:=ae.hk l sC;have Hf:eW.heap[l]?=some (.loop (fb fn a.tmps ps assign body B .busy .normal)):=(oJ.eF l xc).trans ((ae.eF l sC).trans (World.putObj_heap_same ahO));have Uo:l<eW.heap.size:=(Array.getElem?_eq_some_iff.1 Hf).1;have ayh:¬Un l:=λh=>(oJ.hf l h).elim Uk λh=>h xc;generalize gy:(if (sB a6).isNone then LoopState.ready else .done)=il;refine ahG Hf ?_;rw[gy];have mu:bl { CI with w0:=ar.putObj l (.loop (fb fn a.tmps ps assign body B il a6)),F0:=F,K0:=λr=>r<ar.heap.size/\(Z r\/¬Y r) } ((sh.st D).cA bU) a (ar.putObj l (.loop (fb fn a.tmps ps assign body B il a6))) κ F':=
     bb.G' (λ_ h=>h) (λr h=>World.putObj_heap_other λe=>by
      grind) (by simp) ⟨rfl,rfl,rfl⟩ (λr h=>by simpa using h.1) (λ_ _=>rfl) (Nat.le_refl _) (dc.refl _)
    have zY:ar.heap.size<=eW.heap.size:=by
     have E:=hu.size;have U:=cN.size;have ag:=ae.size;have a1:=oJ.size;have E:ar.heap.size<=u.w.heap.size:=E;have U:u.w.heap.size<=c7.heap.size:=U;have ag:(c7.putObj l (.loop (fb fn a.tmps ps assign body B .busy .normal))).heap.size<=v.w.heap.size:=ag;have a1:v.w.heap.size<=eW.heap.size:=a1;simp only[World.putObj_size]at ag;omega
    have xT:dc ar eW:=by
     have E:dc ar u.w:=hu.ev;have U:dc u.w c7:=cN.ev;have ag:dc c7 v.w:=⟨ae.ev.os,ae.ev.tape,ae.ev.output⟩
     exact E.trans (U.trans (ag.trans oJ.ev))
    have ahQ:∀ i,(rout.st bm).ax i=.undef:=λi=>ahF aP c8 bm i;have lT:∀ r,(r<(ar.putObj l (.loop (fb fn a.tmps ps assign body B il a6))).heap.size/\¬own r/\¬gD r)->(r<ar.heap.size/\¬own r/\¬gD r):=λr h=>⟨by simpa using h.1,h.2⟩
    have hI:=oJ.vA (w0:=ar.putObj l (.loop (fb fn a.tmps ps assign body B il a6))) (w':=eW.putObj l (.loop (fb fn a.tmps ps assign body B il a6))) (F0:=F') (K0:=λr=>r<(ar.putObj l (.loop (fb fn a.tmps ps assign body B il a6))).heap.size/\¬own r/\¬gD r) (nt:=0) (dfr:=[]) (r:=none) (sl:=(rout.st bm).ax) (a':={ tmps:=#[],defers:=[] }) rfl rfl (Nat.zero_le _)
     (λi=>by rw[ahQ];trivial) (λl aL L n st e=>by grind)
     (λr h=>World.putObj_heap_other λe=>by
      subst e;rcases h with h | ⟨b,E,U⟩
      ·grind
      ·exact (oJ.own b E).2.2 (U ▸ xc)) (by simp) (λr h=>(oJ.hf r h).imp id λh ds=>h (ae.hk r (hu.hk r (lT r ds)))) oJ.hP (λr h=>h.1)
     (λr h=>by
      by_cases e:r=l
      ·subst e;rw[World.putObj_heap_same Uo,World.putObj_heap_same Aa]
      ·rw[World.putObj_heap_other e,World.putObj_heap_other e];have E:u.K r:=hu.hk r (lT r h);exact (oJ.eF r (ae.hk r E)).trans ((ae.eF r E).trans ((World.putObj_heap_other e).trans ((cN.eF r E).trans (hu.eF r (lT r h))))))
     (λb W h=>(oJ.own b W).2.2 (ae.hk _ (hu.hk _ (lT _ h)))) (by simpa using zY) ⟨xT.os,xT.tape,xT.output⟩
    obtain⟨κn,nW,_⟩:=L5 (ar.putObj l (.loop (fb fn a.tmps ps assign body B il a6))) (ar.putObj l (.loop (fb fn a.tmps ps assign body B il a6))) mu ⟨λdH kA e6 iY il e=>(by
      grind),λr h=>⟨by simpa using (Du.low r h).1,(Du.low r h).2⟩,Du.own,Du.GI⟩ bm [] (eW.putObj l (.loop (fb fn a.tmps ps assign body B il a6))) Hd Un hI
    obtain⟨iH,MD,ahR⟩:=ud He;obtain⟨κn,ahS,_,ahT⟩:=dI.zT MD nW;exact⟨a6,iH,κn,ahS,(.loop (fb fn a.tmps ps assign body B il a6)),rfl,A.ea.1 ahR,by rw[gy];exact World.putObj_heap_same Uo,ahT⟩
   | _=>exact br.elim
  ·exact hm.1.elim
 ·exact hm.1.elim
theorem Up{w:World}{o hR:Obj}{r:Nat}(h:r<w.heap.size):((w.alloc o).alloc hR).heap[r]?=w.heap[r]?:=
 (o5 _ _ (by simp;omega)).trans (o5 _ _ h)
def ahU(C CI:b_){β:Type}(sh rin rout:dI)(aL:ad)(b':List aL.ai->Prop)(ps:Array Tmp)(assign body:Code)(a:Act)(fn:FuncId)(l B:Nat)(run:az->A (di×rout.ai))(k:di->az->A β)(O:β->Prop)
  (st:Bool) (F Y:Nat->Prop) (ar:World):Prop:=
 ∃ (e:di) (D:sh.ai) (κ:Nat->bC),bl CI (sh.st D) a ar κ F/\ar.heap[l]?=some (.loop (fb fn a.tmps ps assign body B (if st then .done else .ready) e))/\ar.heap[B]?=some (.deferred (some []))/\
  (∀ b,((sh.st D).aa b).body.bZ (κ b)=true->Y (κ b).aa/\¬((κ b).aa=l\/(κ b).aa=B))/\Y l/\Y B/\¬F l/\¬F B/\C.P=CI.P/\
  (st=false->e=.normal/\∀ R,b' R->A.cx (jL (λD y=>tX sh rin rout aL ps.toList D y run) R D) λp=>A.cx (k p.1 (sh.st p.2)) O)/\(st=true->e≠.normal/\A.cx (k e (sh.st D)) O)
theorem Uq{C CI:b_}{β:Type}{sh rin rout:dI}{aL:ad}{S:List aL.ai->Prop}{ps:Array Tmp}{assign body:Code}{a:Act}{fn:FuncId}{l B:Nat}{run:az->A (di×rout.ai)}{k:di->az->A β}{O:β->Prop}
  (iJ:CI.K0=λ_=>False) (ahV:l≠B) (ec:nU sh rout aL ps.toList a.tmps.size=true) (Dt:Ha CI.P CI.aM a.tmps.size assign body l run) :
  Fk CI.P (fp CI.P aL) l S λpre=>ahU C CI sh rin rout aL (λR=>S (pre++R)) ps assign body a fn l B run k O where
 BQ:=λ{pre st F F' Y w w'} h bo heq cd jI jj Dr=>by
  have hc:dc w w':=⟨jI.1,jI.2.1,jI.2.2⟩
  obtain⟨e,D,κ,M,E,U,ag,a1,bL,dm,fS,jg,pX⟩:=h;have pc:(sh.st D).ax b5=.undef:=by
   simp only[nU,Bool.and_eq_true,Bool.not_eq_true']at ec;exact xH sh.bT c8 D b5 ec.1.1.1.2
  have uf:∀ r,CI.K0 r->False:=λr h=>by grind
  refine⟨e,D,κ,?_,(heq l (.inr a1)).trans E,(heq B (.inr bL)).trans U,ag,a1,bL,λh=>Dr l h a1,λh=>Dr B h bL,jg,pX⟩;exact M.Ui M.dG M.dfr M.gp M.bT (λdH kA e6 iY il e=>by have e:(sh.st D).ax b5=.aV dH kA e6 iY il:=e;grind)
   (λr bb=>heq r (bb.imp id λ⟨b,W,e⟩=>e ▸ (ag b W).1)) cd bo jj (λb W ao=>Dr _ ao (ag b W).1) (λr _=>.inr (uf r)) (λr h=>bo r (M.hP r h)) (λr h=>(uf r h).elim) (λr h=>(uf r h).elim) (λb _=>uf _)
   (Nat.le_trans M.size cd) (M.ev.trans hc)
 yield:=λ{pre F Y w args x} h jj Ur ah dX=>by
  obtain⟨ME,MF⟩:=ah;obtain⟨e,D,κ,M,E,U,ag,a1,bL,dm,fS,jg,pX,_⟩:=h;obtain⟨rfl,hm⟩:=pX rfl;have pc:∀ D:sh.ai,(sh.st D).ax b5=.undef:=λD=>by
   simp only[nU,Bool.and_eq_true,Bool.not_eq_true']at ec;exact xH sh.bT c8 D b5 ec.1.1.1.2
  have uf:∀ r,CI.K0 r->False:=λr h=>by grind
  have hm:A.cx (tX sh rin rout aL ps.toList D x run) λp=>∀ T,S (pre++x::T)->A.cx (match p.1 with
    | .normal=>jL (λD y=>tX sh rin rout aL ps.toList D y run) T p.2
    | .exit id=>A.pure (.exit id,p.2)
    | .ret=>A.pure (.ret,p.2)) λp=>A.cx (k p.1 (sh.st p.2)) O:=by
   have E:=λT aU=>A.gg.1 (hm (x::T) aU);exact⟨(E ME MF).1,λy aQ T aU=>(E T aU).2 y aQ⟩
  obtain⟨tmps,aQ,ahW⟩:=ahH (Z:=λr=>r=l\/r=B) (.inl rfl) M ec Dt hm E dm ag dX;refine⟨fn,tmps,assign,body,aQ,ahW.mono λa6 ql ⟨bG,iH,κ',F',o,he,He,Hg,bb⟩=>?_⟩;have Aa:l<w.heap.size:=(Ur l a1).1;have MG:B<w.heap.size:=(Ur B bL).1;have g1:∀ r,F r->F' r:=bb.hP;have ew:∀ r,F' r->F r\/Y r\/w.heap.size<=r:=λr cN=>by
   rcases bb.hf r cN with h | h
   ·exact .inl h
   ·by_cases cb:r<w.heap.size
    ·by_cases aQ:Y r
     ·exact .inr (.inl aQ)
     ·exact (h ⟨cb,.inr aQ⟩).elim
    ·exact .inr (.inr (Nat.le_of_not_lt cb))
  have Us:∀ r,r<w.heap.size->¬F r->(r=l\/r=B)->¬F' r:=λr cb ao bk ri=>(bb.hf r ri).elim ao λh=>h ⟨cb,.inl bk⟩;have Ut:¬F' l:=Us l Aa dm (.inl rfl);have vx:¬F' B:=Us B MG fS (.inr rfl);have Uu:∀ b,((sh.st iH).aa b).body.bZ (κ' b)=true->¬((κ' b).aa=l\/(κ' b).aa=B)/\(Y (κ' b).aa\/w.heap.size<=(κ' b).aa):=λb W=>by
   have al:=(bb.own b W).2.2;grind
  have Hh:w.heap.size<=ql.heap.size:=by have:=bb.size;simpa using this
  have gc:dc w ql:=⟨bb.ev.os,bb.ev.tape,bb.ev.output⟩
  have ayi:∀ T,pre++[x]++T=pre++x::T:=λT=>by simp
  refine⟨(sB bG).isNone,F',λr=>(∃ b,((sh.st iH).aa b).body.bZ (κ' b)=true/\(κ' b).aa=r)\/r=l\/r=B,he,g1,ew,bb.da,λr cb aQ=>?_,λr cN=>?_,Hh,⟨gc.os,gc.tape,gc.output⟩,?_⟩
  ·have eN:r≠l:=λe=>aQ (e ▸ a1);exact (bb.eF r ⟨cb,.inr aQ⟩).trans (World.putObj_heap_other eN)
  ·rcases cN with⟨b,W,rfl⟩ | rfl | rfl
   ·exact⟨(Uu b W).2,(bb.own b W).1,(bb.own b W).2.1⟩
   ·exact⟨.inl a1,Nat.lt_of_lt_of_le Aa Hh,Ut⟩
   ·exact⟨.inl bL,Nat.lt_of_lt_of_le MG Hh,vx⟩
  ·refine⟨bG,iH,κ',?_,?_,?_,λb W=>⟨.inl ⟨b,W,rfl⟩,(Uu b W).1⟩,.inr (.inl rfl),.inr (.inr rfl),Ut,vx,jg,λgy=>?_,λgy=>?_⟩
   ·exact bb.vA bb.dG bb.dfr bb.gp bb.bT (λdH kA e6 iY il e=>by have e:(sh.st iH).ax b5=.aV dH kA e6 iY il:=e;grind) (λ_ _=>rfl) (Nat.le_refl _) (λr _=>.inr (uf r)) (λr h=>g1 r (M.hP r h))
     (λr h=>(uf r h).elim) (λr h=>(uf r h).elim) (λb _=>uf _) (Nat.le_trans M.size Hh) (M.ev.trans gc)
   ·grind
   ·exact (bb.eF B ⟨MG,.inl (.inr rfl)⟩).trans ((World.putObj_heap_other (Ne.symm ahV)).trans U)
   ·cases bG with
    | normal=>grind
    | _=>cases gy
   ·cases bG with
    | normal=>cases gy
    | exit id=>exact⟨by simp,(He ME MF).2 _ rfl⟩
    | ret=>exact⟨by simp,(He ME MF).2 _ rfl⟩
theorem Uv{P:Program}{l:Nat}{aL:ad}{S:List aL.ai->Prop}{I:List aL.ai->Bool->(Nat->Prop)->(Nat->Prop)->World->Prop}(h:Fk P (fp P aL) l S I):lL.hA P ⟨l,aL,S,I⟩ where
 BQ:=λE U ag a1 bL dm fS=>h.BQ E U ag a1 ⟨bL.os,bL.tape,bL.output⟩ dm fS
 yield:=λE U ag a1 bL=>YieldAt.mono (h.yield E U ag a1 bL) λ_ _ ⟨b,F',gD,aP,aR,bO,gx,ox,vt,Dv,Ab,MH⟩=>⟨b,F',gD,aP,aR,bO,gx,ox,vt,Dv,⟨Ab.1,Ab.2.1,Ab.2.2⟩,MH⟩
end Go.Fer
