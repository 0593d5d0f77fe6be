/- Part 3 of the proof of TopShop: shallow programs of Go functions, and what they compute. No condition. -/
import Derived.Test.YtplfnoecifjgeaaGreatDoorTopShopB
import Derived.RangeFuncIn
import Derived.RangeFuncRecord
import Derived.RangeFuncBound
noncomputable section
set_option linter.unusedVariables false
set_option linter.unusedSimpArgs false
namespace Go.Fer
open Go.RowKit
def oE(x y:bQ):Prop:=(y.fH=true->x.fH=true)/\(y.fh=true->x.fh=true/\y.len=x.len/\y.e2=x.e2)/\(y.gT=true->x.gT=true)/\(y.mI=true->x.mI=true)/\∀ k,y.b1 k=true->x.b1 k=true
theorem oE.refl(x:bQ):oE x x:=⟨id,λh=>⟨h,rfl,rfl⟩,id,id,λ_=>id⟩
theorem oE.fz(x:bQ):oE x .fz:=⟨λh=>(by cases h),λh=>(by cases h),λh=>(by cases h),λh=>(by cases h),λ_ h=>(by cases h)⟩
def si(f:Nat->Nat)(H H':Nat->bJ):Prop:=∀ b,(H' b).gen=0/\oE (H (f b)).body (H' b).body
section
variable {P:Program} {H H':Nat->bJ} {κ:Nat->bD} {F F':Nat->Prop} {w:World} {f:Nat->Nat}
theorem Te(aB:si f H H'){b off:Nat}{v:Value}(h:bB P H κ F w (.aW (f b) (H (f b)).gen off) v):bB P H' (λb=>κ (f b)) F' w (.aW b 0 off) v:=
 ⟨⟨Nat.zero_le _,h.1.2⟩,λ_ hc=>h.2 rfl ((aB b).2.1 hc)⟩
def LR(P:Program)(H H':Nat->bJ)(κ:Nat->bD)(f:Nat->Nat)(F F':Nat->Prop)(w:World){R:Type}(r:Option (R×List Nat))(l:List Nat)(av av':aG)(y:R):Prop:=
 ∃ m,r=some (y,m)/\(∀ b∈m,b∈l)/\(iX H κ F' l->∀ v,bB P H κ F w av v->bB P H' (λb=>κ (f b)) F' w av' v)
theorem LR.hF{R:Type}{r:Option (R×List Nat)}{l:List Nat}{av av':aG}{y:R}(h:r=some (y,l))(k:∀ v,bB P H κ F w av v->bB P H' (λb=>κ (f b)) F' w av' v):LR P H H' κ f F F' w r l av av' y:=
 ⟨l,h,λ_ W=>W,λ_=>k⟩
theorem kB{ak:Type}{b:Bool}{r:Option ak}{x:ak}(h:vf b r=some x):b=true/\r=some x:=by
 cases b with
 | true=>exact⟨rfl,h⟩
 | false=>cases h
theorem qc{t:ad}{av:aG}{R:Type}{r:Option (R×List Nat)}{z:t.ai×R}{l:List Nat}(h:xn H t av r=some (z,l)):∃ e1 m,(dA t av).run H=some (z.1,e1)/\r=some (z.2,m)/\l=e1++m:=by
 unfold xn at h;grind
theorem LS{t:ad}{av:aG}{R:Type}{r:Option (R×List Nat)}{z:t.ai×R}{l:List Nat}(h:Lk t av r=some (z,l)):av=.dW t z.1/\r=some (z.2,l):=by
 unfold Lk at h;grind
theorem LU{b:Nat}{av:aG}{R:Type}{r:Option (R×List Nat)}{z:(Nat×Nat)×R}{l:List Nat}(h:Ll H b av r=some (z,l)) :
  r=some (z.2,l)/\(av=.sub b (H b).gen z.1.1 z.1.2\/(av=.own b (H b).gen/\(H b).body.fh=true/\z.1=(0,(H b).body.len))):=by
 unfold Ll at h;grind
theorem GG{aK:ad}{av:aG}{R:Type}{r:Option (R×List Nat)}{z:(Nat×(List aK.ai->Prop)×List aK.ai×Bool)×R}{l:List Nat}(h:Lm aK av r=some (z,l)) :
  r=some (z.2,l)/\av=.aV z.1.1 aK z.1.2.1 z.1.2.2.1 z.1.2.2.2:=by
 unfold Lm at h;grind
theorem LV{b:Nat}{av:aG}{R:Type}{r:Option (R×List Nat)}{z:Nat×R}{l:List Nat}(h:Lo H b av r=some (z,l)):r=some (z.2,l)/\av=.iW b (H b).gen z.1:=by
 unfold Lo at h;grind
theorem LW{av:aG}{R:Type}{r:Option (R×List Nat)}{z:Nat×R}{l:List Nat}(h:Ln av r=some (z,l)):r=some (z.2,l)/\av=.hg z.1:=by
 unfold Ln at h;grind
theorem Tf{b off:Nat}{av:aG}(h:Gd H b off av=true):av=.aW b (H b).gen off:=by
 unfold Gd at h;grind
theorem Tg{b:Nat}{av:aG}(h:Ge H b av=true):av=.own b (H b).gen:=by
 unfold Ge at h;grind
theorem afq{b:Nat}{av:aG}(h:Lp H b av=true):av=.fG b (H b).gen:=by
 unfold Lp at h;grind
theorem afr{b:Nat}{av:aG}(h:Lq H b av=true):av=.j1 b (H b).gen:=by
 unfold Lq at h;grind
theorem afs{av:aG}(h:Lr av=true):av=.cv:=by
 unfold Lr at h;grind
theorem aft(aB:si f H H'){k:FuncId}{fX:z8'}{av:aG}(h:Ls H f k fX av=true){v:Value}(ae:bB P H κ F w av v):bB P H' (λb=>κ (f b)) F' w (.iA k fX.length (vd da fX)) v:=by
 unfold Ls at h;split at h
 ·rename_i k' n c6;simp only[Bool.and_eq_true,beq_iff_eq]at h;obtain⟨⟨rfl,rfl⟩,e⟩:=h;obtain⟨aC,E,U,ah⟩:=ae;refine⟨aC,E,U,λi G=>?_⟩;have he:=List.all_eq_true.1 e i (by grind);have ae:=ah i G;rw[show fX[i]?=some fX[i] by simp]at he;rw[Tf he]at ae;have:vd da fX i=.aW fX[i].1 0 fX[i].2:=by simp[vd,hi,List.getD_eq_getElem?_getD,G,da]
  rw[this];exact Te aB ae
 grind
theorem afu(aB:si f H H'){bs:List Nat}{av:aG}(h:Lt H f bs av=true){v:Value}(ae:bB P H κ F w av v):bB P H' (λb=>κ (f b)) F' w (.agg bs.length (ve da bs)) v:=by
 unfold Lt at h;split at h
 ·rename_i n dw;simp only[Bool.and_eq_true,beq_iff_eq]at h;obtain⟨rfl,e⟩:=h;obtain⟨aC,E,U,ah⟩:=ae;refine⟨aC,E,U,λi G=>?_⟩;have he:=List.all_eq_true.1 e i (by grind);obtain⟨ae,hc⟩:=ah i G;refine⟨?_,hc⟩;rw[show bs[i]?=some bs[i] by simp]at he;rw[Tg he]at ae;have:ve da bs i=.own bs[i] 0:=by simp[ve,hi,List.getD_eq_getElem?_getD,G,da]
  rw[this];refine⟨⟨Nat.zero_le _,ae.1.2⟩,λ_ hc=>?_⟩;obtain⟨aO,aR,_⟩:=(aB bs[i]).2.2.1 hc;rw[aR];exact ae.2 rfl aO
 grind
theorem xz(aT:∀ b,cE P H κ F w b)(bn:∀ r,F r->F' r)(aB:si f H H')(t:bW){av:aG}{R:Type}{r:Option (R×List Nat)}{z:t.cons R}{l:List Nat}(h:t.jb H f av r=some (z,l)) :
  LR P H H' κ f F F' w r l av (t.av da z).1 (t.av da z).2:=by
 cases t with
 | undef=>exact .hF h λ_ _=>by simp only[bW.av,bB]
 | val t=>
  obtain⟨e1,m,ag,rfl,rfl⟩:=qc h;exact⟨m,rfl,λb W=>List.mem_append_right _ W,λaj v ae=>mc aT bn ag aj.left ae⟩
 | dW t=>
  obtain⟨rfl,rfl⟩:=LS h;exact .hF rfl λv ⟨p,bh,E,U,ah⟩=>⟨p,bh,E,U.mono bn (c7.refl _ _),ff _ bn (c7.refl _ _) ah⟩
 | aW b off=>
  obtain⟨E,U⟩:=kB h;obtain rfl:=Tf E;exact .hF U λv ae=>Te aB ae
 | own b=>
  obtain⟨E,U⟩:=kB h;obtain rfl:=Tg E;refine .hF U λv ae=>⟨⟨Nat.zero_le _,ae.1.2⟩,λ_ hc=>?_⟩
  obtain⟨aO,aR,_⟩:=(aB b).2.2.1 hc;simp only[da];rw[aR];exact ae.2 rfl aO
 | sub b=>
  obtain⟨E,U⟩:=LU h;refine .hF E λv ae=>?_;rcases U with rfl | ⟨rfl,fa,ah⟩
  ·refine⟨⟨Nat.zero_le _,ae.1.2⟩,λ_ hc=>?_⟩;obtain⟨aO,aR,bO⟩:=(aB b).2.2.1 hc;simp only[da]at aR bO ⊢;rw[aR,bO];exact ae.2 rfl aO
  ·refine⟨⟨Nat.zero_le _,ae.1.2⟩,λ_ hc=>?_⟩;obtain⟨aO,aR,bO⟩:=(aB b).2.2.1 hc;have:=ae.2 rfl aO;simp only[da]at aR bO ⊢;rw[aR,bO,ah];refine⟨⟨Nat.zero_le _,Nat.le_refl _⟩,?_⟩;rw[this];unfold bD.slice;cases aw:(κ (f b)).e9 with
   | true=>exact .inl ⟨aw,rfl⟩
   | false=>exact .inr ⟨aw,(κ (f b)).off,by simp,by simp,λ_=>by simp⟩
 | fG b=>
  obtain⟨E,U⟩:=kB h;obtain rfl:=afq E;exact .hF U λv ae=>⟨⟨Nat.zero_le _,ae.1.2⟩,λ_ hc=>ae.2 rfl ((aB b).2.2.2.1 hc)⟩
 | j1 b=>
  obtain⟨E,U⟩:=kB h;obtain rfl:=afr E;exact .hF U λv ae=>⟨⟨Nat.zero_le _,ae.1.2⟩,λ_ hc=>ae.2 rfl ((aB b).2.2.2.2.1 hc)⟩
 | cv=>
  obtain⟨E,U⟩:=kB h;obtain rfl:=afs E;exact .hF U λv ae=>ae
 | iA k fX=>
  obtain⟨E,U⟩:=kB h;exact .hF U λv ae=>aft aB E ae
 | hG bs=>
  obtain⟨E,U⟩:=kB h;exact .hF U λv ae=>afu aB E ae
 | iW b=>
  obtain⟨E,rfl⟩:=LV h;refine .hF E λv ae=>⟨⟨Nat.zero_le _,ae.1.2⟩,λ_ hc=>?_⟩
  obtain⟨aO,aR,bO⟩:=(aB b).2.2.1 hc;have:=ae.2 rfl aO;simp only[da]at aR bO ⊢;rw[aR,bO];exact this
 | aV aK=>
  obtain⟨E,rfl⟩:=GG h;exact .hF E λv ae=>ae
 | hg=>
  obtain⟨E,rfl⟩:=LW h;exact .hF E λv ae=>ae
theorem afv(aT:∀ b,cE P H κ F w b)(bn:∀ r,F r->F' r)(aB:si f H H'):∀ (ts:List bW) {c:Nat->aG} {i:Nat} {R:Type} {r:Option (R×List Nat)} {z:qa ts R} {l:List Nat},zH H f ts c i r=some (z,l)->
  ∃ m,r=some ((pk da ts z).2,m)/\(∀ b∈m,b∈l)/\(iX H κ F' l->∀ j,j<ts.length->∀ v,bB P H κ F w (c (i+j)) v->bB P H' (λb=>κ (f b)) F' w ((pk da ts z).1.getD j .undef) v):=by
 intro ts;induction ts with
 | nil=>intro c i R r z l h;exact⟨l,h,λ_ W=>W,λ_ j aE=>by cases aE⟩
 | cons t ts aJ=>
  intro c i R r z l h;obtain⟨m1,E,U,ah⟩:=xz (F':=F') (H':=H') aT bn aB t h;obtain⟨m2,aO,aR,fI⟩:=aJ E;refine⟨m2,aO,λb W=>U b (aR b W),λaj j aE v ae=>?_⟩;cases j with
  | zero=>exact ah aj v ae
  | succ j=>
   have:=fI (λb W=>aj b (U b W)) j (by grind) v (by grind);simpa [pk]using this
theorem afw(aT:∀ b,cE P H κ F w b)(bn:∀ r,F r->F' r)(aB:si f H H'):∀ (ts:List (Nat×bW)) {c:Nat->aG} {R:Type} {r:Option (R×List Nat)} {z:oB ts R} {l:List Nat},xp H f ts c r=some (z,l)->
  ∃ m,r=some ((eD da ts z).2,m)/\(∀ b∈m,b∈l)/\(iX H κ F' l->∀ i v,bB P H κ F w (c i) v->bB P H' (λb=>κ (f b)) F' w (fr (eD da ts z).1 i) v):=by
 intro ts;induction ts with
 | nil=>intro c R r z l h;exact⟨l,h,λ_ W=>W,λ_ _ _ _=>by simp only[eD,fr,bB]⟩
 | cons p ts aJ=>
  intro c R r z l h;obtain⟨m1,E,U,ah⟩:=xz (F':=F') (H':=H') aT bn aB p.2 h;obtain⟨m2,aO,aR,fI⟩:=aJ E;refine⟨m2,aO,λb W=>U b (aR b W),λaj i v ae=>?_⟩;simp only[eD,fr];split
  ·grind
  ·exact fI (λb W=>aj b (U b W)) i v ae
theorem GH(t:bW){av:aG}{R:Type}{r:Option (R×List Nat)}{z:t.cons R}{l:List Nat}(h:t.jb H f av r=some (z,l)):∃ m,r=some ((t.av da z).2,m)/\∀ b∈m,b∈l:=by
 cases t with
 | undef=>exact⟨l,h,λ_ h=>h⟩
 | val t=>obtain⟨_,m,_,U,ah⟩:=qc h;exact⟨m,U,λb W=>ah ▸ List.mem_append_right _ W⟩
 | dW t=>exact⟨l,(LS h).2,λ_ h=>h⟩
 | sub b=>exact⟨l,(LU h).1,λ_ h=>h⟩
 | aV aK=>exact⟨l,(GG h).1,λ_ h=>h⟩
 | hg=>exact⟨l,(LW h).1,λ_ h=>h⟩
 | iW b=>exact⟨l,(LV h).1,λ_ h=>h⟩
 | aW b off=>exact⟨l,(kB h).2,λ_ h=>h⟩
 | own b=>exact⟨l,(kB h).2,λ_ h=>h⟩
 | fG b=>exact⟨l,(kB h).2,λ_ h=>h⟩
 | j1 b=>exact⟨l,(kB h).2,λ_ h=>h⟩
 | cv=>exact⟨l,(kB h).2,λ_ h=>h⟩
 | iA k fX=>exact⟨l,(kB h).2,λ_ h=>h⟩
 | hG bs=>exact⟨l,(kB h).2,λ_ h=>h⟩
theorem afx:∀ (ts:List bW) {c:Nat->aG} {i:Nat} {R:Type} {r:Option (R×List Nat)} {z:qa ts R} {l:List Nat},zH H f ts c i r=some (z,l)->∃ m,r=some ((pk da ts z).2,m)/\∀ b∈m,b∈l:=by
 intro ts;induction ts with
 | nil=>intro c i R r z l h;exact⟨l,h,λ_ h=>h⟩
 | cons t ts aJ=>
  intro c i R r z l h;obtain⟨m,E,U⟩:=GH t h;obtain⟨dz,ah,a1⟩:=aJ E;exact⟨dz,ah,λb W=>U b (a1 b W)⟩
theorem afy:∀ (ts:List (Nat×bW)) {c:Nat->aG} {R:Type} {r:Option (R×List Nat)} {z:oB ts R} {l:List Nat},xp H f ts c r=some (z,l)->∃ m,r=some ((eD da ts z).2,m)/\∀ b∈m,b∈l:=by
 intro ts;induction ts with
 | nil=>intro c R r z l h;exact⟨l,h,λ_ h=>h⟩
 | cons p ts aJ=>
  intro c R r z l h;obtain⟨m,E,U⟩:=GH p.2 h;obtain⟨dz,ah,a1⟩:=aJ E;exact⟨dz,ah,λb W=>U b (a1 b W)⟩
theorem CZ(t:bW){av:aG}{R:Type}{r:Option (R×List Nat)}{z:t.cons R}{l:List Nat}(h:t.jb H f av r=some (z,l))(M:∀ y m,r=some (y,m)->gI H m):gI H l:=by
 cases t with
 | undef=>exact M _ _ h
 | val t=>obtain⟨_,m,E,U,rfl⟩:=qc h;exact (mN E).append (M _ _ U)
 | dW t=>exact M _ _ (LS h).2
 | sub b=>exact M _ _ (LU h).1
 | aV aK=>exact M _ _ (GG h).1
 | hg=>exact M _ _ (LW h).1
 | iW b=>exact M _ _ (LV h).1
 | aW b off=>exact M _ _ (kB h).2
 | own b=>exact M _ _ (kB h).2
 | fG b=>exact M _ _ (kB h).2
 | j1 b=>exact M _ _ (kB h).2
 | cv=>exact M _ _ (kB h).2
 | iA k fX=>exact M _ _ (kB h).2
 | hG bs=>exact M _ _ (kB h).2
theorem afz:∀ (ts:List bW) {c:Nat->aG} {i:Nat} {R:Type} {r:Option (R×List Nat)} {z:qa ts R} {l:List Nat},zH H f ts c i r=some (z,l)->(∀ y m,r=some (y,m)->gI H m)->gI H l:=by
 intro ts;induction ts with
 | nil=>intro c i R r z l h M;exact M _ _ h
 | cons t ts aJ=>intro c i R r z l h M;exact CZ t h λy m hm=>aJ hm M
theorem afA:∀ (ts:List (Nat×bW)) {c:Nat->aG} {R:Type} {r:Option (R×List Nat)} {z:oB ts R} {l:List Nat},xp H f ts c r=some (z,l)->(∀ y m,r=some (y,m)->gI H m)->gI H l:=by
 intro ts;induction ts with
 | nil=>intro c R r z l h M;exact M _ _ h
 | cons p ts aJ=>intro c R r z l h M;exact CZ p.2 h λy m hm=>aJ hm M
theorem LX{t:ad}{ts:List bW}{iK:bQ}{R:Type}{r:Option (R×List Nat)}{z:qa ts R}{l:List Nat}(h:Lu H f t ts iK r=some (z,l)):∃ c,iK=.cells t c/\t.size=ts.length/\zH H f ts c 0 r=some (z,l):=by
 unfold Lu at h;grind
theorem LY{e:ad}{iK:bQ}{R:Type}{r:Option (R×List Nat)}{z:List e.ai×R}{l:List Nat}(h:Lv e iK r=some (z,l)):r=some (z.2,l)/\iK=.bg e z.1:=by
 unfold Lv at h;grind
theorem LZ{e:ad}{t:bW}{iK:bQ}{R:Type}{r:Option (R×List Nat)}{z:(List e.ai×Nat)×t.cons R}{l:List Nat}(h:Ly H f e t iK r=some (z,l)):∃ v,iK=.gj e z.1.1 z.1.2 v/\t.jb H f v r=some (z.2,l):=by
 unfold Ly at h;grind
theorem L0{k v:ad}{iK:bQ}{R:Type}{r:Option (R×List Nat)}{z:List (k.ai×v.ai)×R}{l:List Nat}(h:Lw k v iK r=some (z,l)):r=some (z.2,l)/\iK=.mp k v z.1:=by
 unfold Lw at h;grind
theorem L1{k v:ad}{iK:bQ}{R:Type}{r:Option (R×List Nat)}{z:(Option (k.ai×v.ai)×List (k.ai×v.ai))×R}{l:List Nat}(h:Lx k v iK r=some (z,l)):r=some (z.2,l)/\iK=.ct k v z.1.1 z.1.2:=by
 unfold Lx at h;grind
theorem L2{t:ad}{iK:bQ}{R:Type}{r:Option (R×List Nat)}{z:t.ai×R}{l:List Nat}(h:Lz H t iK r=some (z,l)):∃ c,iK=.cells t c/\xn H t (.agg t.size c) r=some (z,l):=by
 unfold Lz at h;grind
theorem L3{t:ad}{b:Nat}{R:Type}{r:Option (R×List Nat)}{z:t.ai×R}{l:List Nat}(h:LA H t b r=some (z,l)):∃ e1 m,(dA (.bH t) (.aW b (H b).gen 0)).run H=some (some z.1,e1)/\r=some (z.2,m)/\l=e1++m:=by
 unfold LA at h;split at h
 ·rename_i x e1 ag;split at h
  ·cases h;exact⟨e1,_,ag,rfl,rfl⟩
  ·cases h
 ·cases h
theorem Th{e:ad}{b:Nat}{xs:List e.ai}{l:List Nat}(h:(dA (.slice e) (.own b (H b).gen)).run H=some (xs,l)):(H b).body=.bg e xs\/(H b).body=.hD e xs:=by
 simp only[dA,ko,ad.eG,if_true,dX,aq.e3,aq.bN]at h;split at h
 ·rename_i a6 ys W;simp only[Option.map_eq_some_iff,Prod.mk.injEq]at h;obtain⟨z,bk,rfl,_⟩:=h;obtain⟨qV,rfl⟩:=kM bk;grind
 ·rename_i a6 ys W;simp only[Option.map_eq_some_iff,Prod.mk.injEq]at h;obtain⟨z,bk,rfl,_⟩:=h;obtain⟨qV,rfl⟩:=kM bk;grind
 grind
theorem afB{k v:ad}{b:Nat}{xs:List (k.ai×v.ai)}{l:List Nat}(h:(dA (.map k v) (.fG b (H b).gen)).run H=some (xs,l)):(H b).body=.mp k v xs\/(H b).body=.jh k v xs:=by
 simp only[dA,ko,ad.eG,if_true,dX,aq.e3,aq.bN]at h;split at h
 ·rename_i k' h4 ys W;simp only[Option.map_eq_some_iff,Prod.mk.injEq]at h;obtain⟨z,bk,rfl,_⟩:=h;obtain⟨qV,rfl⟩:=kM bk;grind
 ·rename_i k' h4 ys W;simp only[Option.map_eq_some_iff,Prod.mk.injEq]at h;obtain⟨z,bk,rfl,_⟩:=h;obtain⟨qV,rfl⟩:=kM bk;grind
 grind
theorem afC{t:ad}{b:Nat}{x:Option t.ai}{l:List Nat}(h:(dA (.bH t) (.aW b (H b).gen 0)).run H=some (x,l)):(H b).body.fH=true:=by
 simp only[dA,ko,tm,aq.e3,and_self,if_true]at h;split at h
 ·rename_i W;rw[W];rfl
 ·rename_i W;rw[W];rfl
 ·cases h
theorem b2.Ti(t:b2){b:Nat}{R:Type}{r:Option (R×List Nat)}{z:t.cons R}{l:List Nat}(h:t.jb H f b r=some (z,l)) :
  (∃ m,r=some ((t.body da z).2,m)/\∀ c∈m,c∈l)/\oE (H b).body (t.body da z).1/\∀ k,(t.body da z).1.b1 k=true->t.CP=true:=by
 cases t with
 | cells t ts=>
  obtain⟨c,e,aD,h⟩:=LX h;refine⟨afx ts h,?_,λ_ _=>rfl⟩;rw[e];exact⟨λ_=>rfl,λh=>(by cases h),λh=>(by cases h),λh=>(by cases h),λ_ _=>rfl⟩
 | bg e=>
  obtain⟨E,U⟩:=LY h;refine⟨⟨l,E,λ_ h=>h⟩,?_,λ_ _=>rfl⟩;rw[U];exact oE.refl _
 | hD e=>
  obtain⟨e1,m,E,U,rfl⟩:=qc h;refine⟨⟨m,U,λ_ h=>List.mem_append_right _ h⟩,?_,λ_ h=>(by cases h)⟩;rcases Th E with e | e<;>rw[e]
  ·exact⟨λh=>(by cases h),λ_=>⟨rfl,rfl,rfl⟩,λh=>(by cases h),λh=>(by cases h),λ_ h=>(by cases h)⟩
  ·exact oE.refl _
 | mp k v=>
  obtain⟨E,U⟩:=L0 h;refine⟨⟨l,E,λ_ h=>h⟩,?_,λ_ _=>rfl⟩;rw[U];exact oE.refl _
 | jh k v=>
  obtain⟨e1,m,E,U,rfl⟩:=qc h;refine⟨⟨m,U,λ_ h=>List.mem_append_right _ h⟩,?_,λ_ h=>(by cases h)⟩;rcases afB E with e | e<;>rw[e]
  ·exact⟨λh=>(by cases h),λh=>(by cases h),λ_=>rfl,λh=>(by cases h),λ_ h=>(by cases h)⟩
  ·exact oE.refl _
 | gb t=>
  obtain⟨c,e,h⟩:=L2 h;obtain⟨e1,m,E,U,rfl⟩:=qc h;refine⟨⟨m,U,λ_ h=>List.mem_append_right _ h⟩,?_,λ_ _=>rfl⟩;rw[e];exact⟨λ_=>rfl,λh=>(by cases h),λh=>(by cases h),λh=>(by cases h),λ_ _=>rfl⟩
 | gG t=>
  obtain⟨e1,m,E,U,rfl⟩:=L3 h;refine⟨⟨m,U,λ_ h=>List.mem_append_right _ h⟩,?_,λ_ h=>(by cases h)⟩;exact⟨λ_=>afC E,λh=>(by cases h),λh=>(by cases h),λh=>(by cases h),λ_ h=>(by cases h)⟩
 | ct k v=>
  obtain⟨E,U⟩:=L1 h;refine⟨⟨l,E,λ_ h=>h⟩,?_,λ_ _=>rfl⟩;rw[U];exact oE.refl _
 | gj e t=>
  obtain⟨v,ax,h⟩:=LZ h;refine⟨GH t h,?_,λ_ _=>rfl⟩;rw[ax];exact⟨λh=>(by cases h),λ_=>⟨rfl,rfl,rfl⟩,λh=>(by cases h),λh=>(by cases h),λ_ h=>h⟩
theorem b2.CZ(t:b2){b:Nat}{R:Type}{r:Option (R×List Nat)}{z:t.cons R}{l:List Nat}(h:t.jb H f b r=some (z,l))(M:∀ y m,r=some (y,m)->gI H m):gI H l:=by
 cases t with
 | cells t ts=>obtain⟨c,e,aD,h⟩:=LX h;exact afz ts h M
 | bg e=>exact M _ _ (LY h).1
 | hD e=>obtain⟨e1,m,E,U,rfl⟩:=qc h;exact (mN E).append (M _ _ U)
 | mp k v=>exact M _ _ (L0 h).1
 | jh k v=>obtain⟨e1,m,E,U,rfl⟩:=qc h;exact (mN E).append (M _ _ U)
 | gb t=>obtain⟨c,e,h⟩:=L2 h;obtain⟨e1,m,E,U,rfl⟩:=qc h;exact (mN E).append (M _ _ U)
 | gG t=>obtain⟨e1,m,E,U,rfl⟩:=L3 h;exact (mN E).append (M _ _ U)
 | ct k v=>exact M _ _ (L1 h).1
 | gj e t=>obtain⟨v,_,h⟩:=LZ h;exact Go.Fer.CZ t h M
theorem b2.afD(aT:∀ b,cE P H κ F w b)(bn:∀ r,F r->F' r)(aB:si f H H')(t:b2){b:Nat}{R:Type}{r:Option (R×List Nat)}{z:t.cons R}{l:List Nat}(h:t.jb H f b r=some (z,l))(aj:iX H κ F' l) :
  jD P H' (λb=>κ (f b)) F' w (κ b) (t.body da z).1:=by
 have W:=aT b;unfold cE at W;cases t with
 | cells t ts=>
  obtain⟨c,e,aD,h⟩:=LX h;rw[e]at W;obtain⟨cs,T,aO,aR,bO⟩:=W;obtain⟨m,_,_,fI⟩:=afv (H':=H') aT bn aB ts h;refine⟨cs,T,aO,aR,λi G=>⟨?_,(bO i G).2⟩⟩;have:=fI aj i (by omega) _ (by rw[Nat.zero_add];exact (bO i G).1);exact this
 | bg e=>
  rw[(LY h).2]at W;refine⟨W.1,λaw=>?_⟩;obtain⟨cs,T,E,U,ah,a1,bK⟩:=W.2 aw;exact⟨cs,T,E,U,ah,a1,bK.mono bn (c7.refl _ _)⟩
 | hD e=>
  obtain⟨e1,m,E,U,rfl⟩:=qc h;have u6:=Th E;have xA:=mc (v:=(κ b).slice (H b).body.len) aT bn E aj.left ⟨⟨Nat.le_refl _,by unfold bD.slice;split<;>rfl⟩,λ_ _=>rfl⟩;have:=((dV rfl).1 xA).2;rcases u6 with a6 | a6<;>(rw[a6]at this;exact this)
 | mp k v=>
  rw[(L0 h).2]at W;obtain⟨ms,clk,E,U⟩:=W;exact⟨ms,clk,E,U.mono bn (c7.refl _ _)⟩
 | jh k v=>
  obtain⟨e1,m,E,U,rfl⟩:=qc h;have xA:=mc (v:=.map (some (κ b).aa)) aT bn E aj.left ⟨⟨Nat.le_refl _,rfl⟩,λ_ _=>rfl⟩;exact ((dV rfl).1 xA).2
 | gb t=>
  obtain⟨c,e,h⟩:=L2 h;rw[e]at W;obtain⟨cs,T,aO,aR,bO⟩:=W;obtain⟨e1,m,ag,_,rfl⟩:=qc h;have ae:bB P H κ F w (.agg t.size c) (.agg cs):=⟨cs.toList,by simp,by omega,λj aE=>by
   simp_all⟩
  have xA:=mc (F':=F') aT bn ag aj.left ae;have iC:=y6 (P:=P) (H:=H') (κ:=λb=>κ (f b)) t xA.2;refine⟨cs,T,aO,aR,λi G=>⟨?_,(bO i G).2⟩⟩;have:=(iC.kN i (by rw[iC.len];simpa [Value.cells,aR]using G)).1;rw[List.getD_eq_getElem?_getD]at this;rw[Array.getD_eq_getD_getElem?];simpa [Value.cells]using this
 | gG t=>
  obtain⟨e1,m,E,U,rfl⟩:=L3 h;have xA:=mc (v:=.pointer (some ⟨(κ b).aa,0,none⟩)) aT bn E aj.left ⟨⟨Nat.le_refl _,rfl⟩,λ_ _=>rfl⟩;rcases ((dV rfl).1 xA).2 with⟨_,e⟩ | ⟨p,y,bh,ax,aM,ah,a1⟩
  ·cases e
  ·simp only[List.cons.injEq,Value.pointer.injEq,Option.some.injEq,and_true]at ax;subst ax;cases aM;exact⟨bh,ah,a1⟩
 | ct k v=>
  rw[(L1 h).2]at W;exact wW.mono W bn (c7.refl _ _) rfl
 | gj e t=>
  obtain⟨v,ax,h⟩:=LZ h;rw[ax]at W;obtain⟨aX,cs,T,E,U,ah,a1,bK,dp,fF,ix⟩:=W;obtain⟨m,_,_,fI⟩:=xz (F':=F') (H':=H') aT bn aB t h;refine⟨aX,cs,T,E,U,ah,a1,bK,λj aE qM=>?_,fI aj _ fF,ix⟩;obtain⟨bh,d1,d2⟩:=dp j aE qM;exact⟨bh,d1,ff e bn (c7.refl _ _) d2⟩
theorem afE:∀ (l:List (Nat×b2)) {x:pj l} {m:List Nat},xo H f l=some (x,m)->∀ b,eR (hk da l x) b=⟨0,.fz⟩\/
  ∃ iK,eR (hk da l x) b=⟨0,iK⟩/\oE (H (f b)).body iK/\∃ t,(b,t)∈l/\∀ k,iK.b1 k=true->t.CP=true:=by
 intro l;induction l with
 | nil=>intro x m _ b;exact .inl rfl
 | cons q l aJ=>
  intro x m h b;obtain⟨ds,dI⟩:=q;simp only[xo]at h;obtain⟨⟨dz,E,U⟩,ah,a1⟩:=b2.Ti dI h;by_cases e:b=ds
  ·subst e;exact .inr ⟨_,by simp only[hk,eR,if_true],ah,dI,by simp,a1⟩
  ·rcases aJ E b with k | ⟨iK,aO,aR,t,bO,fI⟩
   ·exact .inl (by simpa [hk,eR,e]using k)
   ·exact .inr ⟨iK,by simpa [hk,eR,e]using aO,aR,t,List.mem_cons_of_mem _ bO,fI⟩
theorem afF:∀ (l:List (Nat×b2)) {x:pj l} {m:List Nat},xo H f l=some (x,m)->gI H m:=by
 intro l;induction l with
 | nil=>intro x m h;cases h;exact .nil H
 | cons q l aJ=>intro x m h;exact b2.CZ q.2 h λy m hm=>aJ hm
theorem afG(aT:∀ b,cE P H κ F w b)(bn:∀ r,F r->F' r)(aB:si f H H'):∀ (l:List (Nat×b2)) {x:pj l} {m:List Nat},xo H f l=some (x,m)->iX H κ F' m->∀ b,jD P H' (λb=>κ (f b)) F' w (κ (f b)) (eR (hk da l x) b).body:=by
 intro l;induction l with
 | nil=>intro x m _ _ b;trivial
 | cons q l aJ=>
  intro x m h hm b;obtain⟨ds,dI⟩:=q;simp only[xo]at h;obtain⟨⟨dz,E,U⟩,_⟩:=b2.Ti dI h;by_cases e:b=ds
  ·subst e;simp only[hk,eR,if_true];exact b2.afD aT bn aB dI h hm
  ·have:=aJ E (λc hc=>hm c (U c hc)) b;simpa [hk,eR,e]using this
theorem afH:∀ (ts:List (Nat×bW)) {c:Nat->aG} {R:Type} {r:Option (R×List Nat)} {z:oB ts R} {l:List Nat},xp H f ts c r=some (z,l)->∀ {i dJ aK L n st},fr (eD da ts z).1 i=.aV dJ aK L n st->c i=.aV dJ aK L n st:=by
 intro ts;induction ts with
 | nil=>intro c R r z l _ i dJ aK L n st e;cases e
 | cons p ts aJ=>
  intro c R r z l h i dJ aK L n st e;obtain⟨jJ,t⟩:=p;simp only[xp]at h;obtain⟨m,E,_⟩:=GH t h;simp only[eD,fr]at e;split at e
  ·rename_i afI;subst afI;cases t with
   | aV ky=>
    obtain⟨_,ah⟩:=GG h;rw[ah];exact e
   | _=>cases e
  grind
end
structure GI(C:b9)(s:aA)(a:Act)(w:World)(κ:Nat->bD)(f:Nat->Nat)(F':Nat->Prop)(sh:dK)(D:sh.ai)(bU:List Nat):Prop where
 bT:∀ i,bB C.P (sh.st D).aa (λb=>κ (f b)) F' w ((sh.st D).ay i) (a.tmps.getD i Go.undef)
 bF:∀ b,cE C.P (sh.st D).aa (λb=>κ (f b)) F' w b
 b1:∀ b,((sh.st D).aa b).body.b1 (κ (f b))=true->f b ∉ bU/\(s.aa (f b)).body.b1 (κ (f b))=true/\b∈sh.oC
 zR:si f s.aa (sh.st D).aa
 aV:∀ l aK L n st,(sh.st D).ay b4=.aV l aK L n st->s.ay b4=.aV l aK L n st
theorem dK.Tj{C:b9}{sh:dK}{f:Nat->Nat}{s:aA}{a:Act}{w:World}{κ:Nat->bD}{F:Nat->Prop}{D:sh.ai}{bU:List Nat}(h:sh.zI f s=some (D,bU))(M:bl C s a w κ F) :
  ∃ F',(∀ r,F r->F' r)/\bl C (s.cz bU) a w κ F'/\GI C s a w κ f F' sh D bU:=by
 unfold dK.zI at h;split at h
 ·rename_i iJ axF oz;split at h
  ·rename_i fa;cases h;obtain⟨m,E,hm⟩:=afy sh.bT oz;have lN:gI s.aa bU:=afA sh.bT oz λy m hm=>afF sh.bF hm;obtain⟨F',f1,bb,f2⟩:=bl.lb lN M;have Tk:=afE sh.bF E;have tQ:si f s.aa (sh.st D).aa:=by
    intro b;show (eR (hk da sh.bF (eD da sh.bT D).2) b).gen=0/\oE (s.aa (f b)).body (eR (hk da sh.bF (eD da sh.bT D).2) b).body;rcases Tk b with e | ⟨iK,e,k,_⟩
    ·rw[e];exact⟨rfl,oE.fz _⟩
    grind
   obtain⟨m2,_,_,afJ⟩:=afw (F':=F') (w:=w) M.bF f1 tQ sh.bT oz;refine⟨F',f1,bb,{ bT:=λi=>afJ f2 i _ (M.bT i),bF:=λb=>?_,b1:=λb W=>?_,zR:=tQ,aV:=λl aK L n st e=>afH sh.bT oz e }⟩
   ·exact afG M.bF f1 tQ sh.bF E (λc hc=>f2 c (hm c hc)) b
   ·have al:=(tQ b).2.2.2.2.2 _ W;rcases Tk b with e | ⟨iK,e,_,t,aH,axG⟩
    ·have e:(sh.st D).aa b=_:=e;rw[e]at W;cases W
    ·have e:(sh.st D).aa b=_:=e;rw[e]at W;have bc:b∈sh.oC:=List.mem_filterMap.2 ⟨(b,t),aH,by grind⟩;grind
  grind
 grind
theorem GI.xB{C:b9}{s:aA}{a:Act}{w:World}{κ:Nat->bD}{f:Nat->Nat}{F':Nat->Prop}{sh:dK}{D:sh.ai}{bU:List Nat}(h:GI C s a w κ f F' sh D bU){b:Nat}(W:((sh.st D).aa b).body.b1 (κ (f b))=true) :
  ((s.cz bU).aa (f b)).body.b1 (κ (f b))=true:=by
 obtain⟨E,U,_⟩:=h.b1 b W;simp only[aA.cz,if_neg E];exact U
theorem L4{C:b9}{s:aA}{a:Act}{w:World}{κ:Nat->bD}{F:Nat->Prop}(M:bl C s a w κ F){b:Nat}{e:ad} :
  bl C (s.cx b ⟨(s.aa b).gen+1,.bg e []⟩) a w (λi=>if i=b then ⟨0,0,0,true⟩ else κ i) F:=
 M.Cv (k:=⟨0,0,0,true⟩) (Nat.lt_succ_self _) (.inl rfl) (Nat.le_refl _) (λ_ _=>rfl) (λh=>by cases h) (dd.refl _) λ_ _=>⟨λ_=>rfl,λh=>by cases h⟩
theorem afK{C:b9}{s:aA}{a:Act}{w:World}{κ:Nat->bD}{F:Nat->Prop}(M:bl C s a w κ F){i b bd g':Nat}(aD:s.ay i=.own bd g'):∃ κ',bl C (LC s i b bd g') a w κ' F:=by
 unfold LC;split
 ·rename_i e xs ar bS;obtain⟨eP,rfl⟩:=of_decide_eq_true ar;generalize mO:(λj=>if j=b then (⟨(s.aa b).gen+1,.bg e xs⟩:bJ) else if j=bd then ⟨(s.aa bd).gen+1,.fz⟩ else s.aa j)=H';generalize iL:(λj=>if j=b then κ bd else κ j)=κ';have E:H' b=⟨(s.aa b).gen+1,.bg e xs⟩:=by grind
  have U:H' bd=⟨(s.aa bd).gen+1,.fz⟩:=by grind
  have ah:∀ j,j≠b->j≠bd->H' j=s.aa j:=λj aO aR=>by grind
  have aO:κ' b=κ bd:=by grind
  have bO:∀ j,j≠b->κ' j=κ j:=λj k=>by grind
  have aj:fq s.aa κ H' κ':=by
   rw[BZ];intro j;by_cases ax:j=b
   ·subst ax;rw[E];exact⟨Nat.le_succ _,λe=>absurd e (Nat.ne_of_lt (Nat.lt_succ_self _))⟩
   ·by_cases aM:j=bd
    ·subst aM;rw[U];exact⟨Nat.le_succ _,λe=>absurd e (Nat.ne_of_lt (Nat.lt_succ_self _))⟩
    ·rw[ah j ax aM,bO j ax];exact pZ.refl _ _
  have gm:∀ j,(H' j).body.b1 (κ' j)=true->(j=b/\(s.aa bd).body.b1 (κ bd)=true)\/(j≠b/\j≠bd/\(s.aa j).body.b1 (κ j)=true):=λj aE=>by
   by_cases ax:j=b
   ·grind
   ·by_cases aM:j=bd
    ·subst aM;rw[U]at aE;cases aE
    grind
  have h:=M.move (H':=H') (κ':=κ') (F':=F) (w':=w) aj (λ_ h=>h) (λ_ h=>.inl h) (Nat.le_refl _) (λ_ _ _=>rfl) (dd.refl w)
   (λ_ j=>by
    by_cases ax:j=b
    ·subst ax;have aT:=M.bF bd;unfold cE at aT ⊢;rw[bS]at aT;rw[E,aO];exact aT
    ·by_cases aM:j=bd
     ·subst aM;unfold cE;rw[U];trivial
     ·exact cE.k9 (M.bF j) aj (λ_ h=>h) (c7.refl _ _) (by grind) (bO j ax) λ_=>rfl)
   (λj aE=>by
    rcases gm j aE with⟨rfl,h⟩ | ⟨ax,_,h⟩
    ·rw[aO];have:=M.own bd h;grind
    ·rw[bO j ax];have:=M.own j h;grind)
   (λj j8 aE fT e=>by
    rcases gm j aE with⟨rfl,h⟩ | ⟨ax,aM,h⟩<;>rcases gm j8 fT with⟨rfl,dw⟩ | ⟨Tl,afL,dw⟩
    ·rfl
    ·rw[aO,bO j8 Tl]at e;exact absurd (M.inj bd j8 h dw e).symm afL
    ·rw[aO,bO j ax]at e;exact absurd (M.inj j bd h dw e) aM
    ·rw[bO j ax,bO j8 Tl]at e;exact M.inj j j8 h dw e)
   M.dc
   (λj _ aE=>by
    by_cases ax:j=b
    ·subst ax;rw[E]at aE;rcases aE with aE | aE<;>cases aE
    ·by_cases aM:j=bd
     ·subst aM;rw[U]at aE;rcases aE with aE | aE<;>cases aE
     grind)
  refine⟨κ',{ h with bT:=λj=>?_,dH:=h.dH,dfr:=h.dfr,bF:=h.bF,eM:=λl aK L n st a6=>?_ }⟩
  ·show bB C.P _ _ F w (if j=i then .own b ((s.aa b).gen+1) else s.ay j) _;split
   ·rename_i e;subst e;have ae:=M.bT j;rw[aD]at ae;have ih:=ae.2 rfl (by rw[bS];rfl);rw[bS]at ih;exact⟨⟨by grind,ae.1.2⟩,λ_ _=>by grind⟩
   ·exact h.bT j
  ·have a6:(if b4=i then .own b ((s.aa b).gen+1) else s.ay b4)=.aV l aK L n st:=a6;split at a6
   ·cases a6
   ·exact h.eM l aK L n st a6
 grind
theorem afM{C:b9}{bs:List (Nat×b2)}{s:aA}{a:Act}{w:World}{κ:Nat->bD}{F:Nat->Prop}(M:bl C s a w κ F)(i b:Nat):∃ κ',bl C (LD bs s i b) a w κ' F:=by
 unfold LD;split
 ·rename_i e aD _;have h:=L4 M (b:=b) (e:=e);refine⟨_,{ h with bT:=λj=>?_,dH:=h.dH,dfr:=h.dfr,bF:=h.bF,eM:=λl aK L n st a6=>?_ }⟩
  ·show bB C.P _ _ F w (if j=i then .own b ((s.aa b).gen+1) else s.ay j) _;split
   ·rename_i e;subst e;have ae:=M.bT j;rw[aD]at ae;have ae:a.tmps.getD j undef=.slice none 0 0:=ae;rw[ae];exact⟨⟨by simp[aA.cx],rfl⟩,λ_ _=>by simp[bD.slice]⟩
   ·exact h.bT j
  ·have a6:(if b4=i then .own b ((s.aa b).gen+1) else s.ay b4)=.aV l aK L n st:=a6;split at a6
   ·cases a6
   ·exact h.eM l aK L n st a6
 ·rename_i aD _;exact afK M aD
 grind
theorem afN{C:b9}{bs:List (Nat×b2)}{s:aA}{a:Act}{w:World}{κ:Nat->bD}{F:Nat->Prop}(M:bl C s a w κ F)(c j b:Nat):∃ κ',bl C (LF bs s c j b) a w κ' F:=by
 unfold LF;split
 ·rename_i t f hc;split
  ·rename_i e ao ar _;have Tm:c≠b:=λe=>by grind
   have h:=L4 M (b:=b) (e:=e);have iF:(s.cx b ⟨(s.aa b).gen+1,.bg e []⟩).aa c=s.aa c:=by simp[aA.cx,Tm]
   have aT:=h.bF c;unfold cE at aT;rw[iF,hc]at aT;obtain⟨cs,T,E,U,ah⟩:=aT;refine⟨_,h.o9 (w':=w) (b:=c) (x:=⟨(s.aa c).gen,.cells t λq=>if q=j then .own b ((s.aa b).gen+1) else f q⟩) (by rw[iF,hc];rfl) rfl
    (qN (by rw[iF]) (λ_=>by rw[iF,hc];rfl) (λh=>by cases h) (λh=>by cases h) (λh=>by cases h)) (λ_=>by rw[iF,hc];rfl) (λh=>by cases h) (λ_ _=>rfl) rfl (dd.refl _) λH mO aj _=>?_⟩
   refine⟨cs,T,E,U,λq bt=>⟨?_,(ah q bt).2⟩⟩;show bB C.P H _ F w (if q=j then .own b ((s.aa b).gen+1) else f q) _;split
   ·rename_i eq;subst eq;have ae:=(ah q bt).1;rw[ao]at ae;have ae:cs.getD q undef=.slice none 0 0:=ae;rw[ae];have afO:H b=⟨(s.aa b).gen+1,.bg e []⟩:=by rw[mO];simp[aA.cx,Ne.symm Tm]
    exact⟨⟨by grind,rfl⟩,λ_ _=>by rw[afO];simp[bD.slice]⟩
   ·exact bB.later aj (λ_ h=>h) (c7.refl _ _) (ah q bt).1
  grind
 grind
theorem afP{C:b9}(sh:dK){s:aA}{a:Act}{w:World}{κ:Nat->bD}{F:Nat->Prop}(M:bl C s a w κ F):∃ κ',bl C (sh.Gi s) a w κ' F:=by
 have E:∀ (l:List (Nat×bW)) (s:aA) (κ:Nat->bD),bl C s a w κ F->∃ κ',bl C (Gf sh.bF l s) a w κ' F:=by
  intro l;induction l with
  | nil=>intro s κ h;exact⟨κ,h⟩
  | cons p l aJ=>
   intro s κ h;simp only[Gf];split
   ·obtain⟨κ',dw⟩:=afM (bs:=sh.bF) h p.1 _;exact aJ _ _ dw
   grind
 have U:∀ (c:Nat) (l:List bW) (j:Nat) (s:aA) (κ:Nat->bD),bl C s a w κ F->∃ κ',bl C (Gg sh.bF c l j s) a w κ' F:=by
  intro c l;induction l with
  | nil=>intro j s κ h;exact⟨κ,h⟩
  | cons t l aJ=>
   intro j s κ h;simp only[Gg];split
   ·obtain⟨κ',dw⟩:=afN (bs:=sh.bF) h c j _;exact aJ _ _ _ dw
   ·exact aJ _ _ _ h
 have ah:∀ (l:List (Nat×b2)) (s:aA) (κ:Nat->bD),bl C s a w κ F->∃ κ',bl C (Gh sh.bF l s) a w κ' F:=by
  intro l;induction l with
  | nil=>intro s κ h;exact⟨κ,h⟩
  | cons p l aJ=>
   intro s κ h;simp only[Gh];split
   ·obtain⟨κ',dw⟩:=U p.1 _ 0 s κ h;exact aJ _ _ dw
   grind
 obtain⟨afQ,gK⟩:=E sh.bT s κ M;exact ah sh.bF _ _ gK
theorem Tn:∀ (l:List (Nat×b2)) (x:pj l) (b:Nat),(eR (hk da l x) b).body.fh=true->∃ q∈l,q.1=b/\q.2.SZ=true
 | [],_,_,h=>by cases h
 | p::l,x,b,h=>by
  simp only[hk,eR]at h;by_cases e:b=p.1
  ·rw[if_pos e]at h;refine⟨p,by simp,e.symm,?_⟩;obtain⟨jJ,t⟩:=p;cases t<;>first | rfl | cases h
  ·rw[if_neg e]at h;obtain⟨q,E,U⟩:=Tn l _ b h;grind
theorem dK.zS{C:b9}{sh:dK}{s:aA}{a:Act}{w:World}{D:sh.ai}{κ:Nat->bD}{F:Nat->Prop}(h:sh.jb s=some D)(M:bl C s a w κ F):∃ κ' F',(∀ r,F r->F' r)/\bl C (sh.st D) a w κ' F':=by
  obtain⟨κ,M⟩:=afP sh M;unfold dK.jb at h;generalize sh.Gi s=s at h M;split at h;case h_2=>cases h
  rename_i afR;simp only[Option.map_eq_some_iff]at h;obtain⟨⟨iJ,bU⟩,h,rfl⟩:=h;obtain⟨F',f1,bb,ar⟩:=dK.Tj h M;have gm:=λb W=>ar.xB (b:=b) W;exact⟨κ, F', f1, { bb with
    dH:=bb.dH,dfr:=bb.dfr,bT:=ar.bT,bF:=ar.bF,own:=λb W=>bb.own b (gm b W),inj:=λb bd W cR=>bb.inj b bd (gm b W) (gm bd cR)
    jE:=λb r M hc=>bb.jE b r M (hc.imp (λhc=>by
      have aX:=(ar.zR b).2.1 hc;simp only[aA.cz];split
      · rcases zi s.aa (s.aa b) with e | ⟨_,_,ag,_⟩ | ⟨_,_,_,ag,_⟩ | ⟨_,_,_,_,_,_,e⟩
        · grind
        · rw[ag]at aX;cases aX
        · rw[ag]at aX;cases aX
        · rw[e];rfl
      omega) (λhc=>by
      have aX:=(ar.zR b).2.2.2.1 hc;simp only[aA.cz];split
      · rcases zi s.aa (s.aa b) with e | ⟨_,_,ag,_⟩ | ⟨_,_,_,_,e⟩ | ⟨_,_,_,_,ag,_,_⟩
        · grind
        · rw[ag]at aX;cases aX
        · rw[e];rfl
        · rw[ag]at aX;cases aX
      omega))
    kn:=λb k al _ a8=>by
      obtain⟨b8,a2,_⟩:=(ar.zR b).2.2.1 a8;have aB:(s.aa b).gen=0:=by
        rcases Tn sh.bF (eD da sh.bT iJ).2 b a8 with⟨q,bt,rfl,jk⟩
        have:=List.all_eq_true.1 afR q bt;rw[jk]at this;have F3:=M.j2 _ k al;grind
      obtain⟨aO,aR⟩:=M.kn b k al aB b8;grind
    eM:=λl aK L n st e=>by
      obtain⟨E,U,Y,ah,a1,bK⟩:=bb.eM l aK L n st (ar.aV l aK L n st e);grind }⟩
theorem dK.xz{C:b9}{sh:dK}{s:aA}{a:Act}{w:World}{D:sh.ai}(h:sh.jb s=some D)(M:cu C s a w):cu C (sh.st D) a w:=by
 obtain⟨κ,F,M⟩:=M;obtain⟨κ',F',_,bb⟩:=dK.zS h M;exact⟨κ',F',bb⟩
end Go.Fer
namespace Go.Fer
open Go.RowKit
def afS(C:b9)(o:Oper)(s:aA)(cd:hV):Prop:=
 ∀ (a:Act) (w:World) (Q:Exit->Act->World->Prop) (K:Act->World->Prop),cu C s a w->cd.ca->A.cw cd.m (λy=>∀ a' w',cu C (cd.st y) a' w'->K a' w')->o.wpIn (dS C.r) 0 C.P a w K Q
def afT(C:b9)(o:Oper)(s:aA)(cd:hV):Prop:=
 ∀ gs,cd.CR=some gs->(∀ y a w,cu C (cd.st y) a w->cu C (gs true y) a w)/\∀ a w,cu C s a w->cu C (gs false cd.d) (a.put o.dst Go.undef) w
structure qd(C:b9)(o:Oper)(s:aA)(cd:hV):Prop where
 prog:afS C o s cd
 axH:afT C o s cd
 axI:q0 (a7 C.aN s.ay) o->cd.ca
theorem cu.L5{C:b9}{s:aA}{d:Option Nat}{av av':aG}{a:Act}{w:World}(h:cu C (s.set d av) a w)
  (ar:∀ i,d=some i->i<C.nt) (ae:∀ κ F v,bB C.P s.aa κ F w av v->bB C.P s.aa κ F w av' v):cu C (s.set d av') a w:=by
 cases d with
 | none=>exact h
 | some d=>
  obtain⟨κ,F,h⟩:=h;have aw:=h.gl;have wY:=ar d rfl;have aH:b4≠d:=by unfold b4 eS at *;omega
  refine⟨κ,F,{ h with bT:=λi=>?_,dH:=h.dH,dfr:=h.dfr,bF:=h.bF,eM:=λl aK L n st e=>h.eM l aK L n st ?_ }⟩
  ·have G:=h.bT i;simp only[aA.set]at G ⊢;grind
  ·simp only[aA.set,if_neg aH]at e ⊢;exact e
section
variable {C:b9} {T:Nat->ad} {be:Nat->Option aL} {o:Oper} {s:aA}
theorem C0{args:List Operand}(W:q0 (a7 C.aN s.ay) o)(a8:∀ x∈args,x∈o.op.operands.toList):jI (args.map (a7 C.aN s.ay)):=
 CG λv ae=>by
  simp only[List.mem_map]at ae;obtain⟨p,an,rfl⟩:=ae;exact W p (a8 p an)
theorem To(bf:∀ i,o.dst=some i->i<C.nt){aV:ad}{bU:List Nat}(lN:gI s.aa bU){d:aV.ai} :
  (∀ (y:aV.ai) a w,cu C (q3 s o aV bU (qO aV y)) a w->cu C (q3 s o aV bU (.hC true (qO aV y))) a w)/\∀ a w,cu C s a w->cu C (q3 s o aV bU (.hC false (qO aV d))) (a.put o.dst Go.undef) w:=by
 refine⟨λy a w h=>cu.L5 h bf λκ F v ae=>⟨λ_=>ae,λh=>(by cases h)⟩,λa w h=>?_⟩;obtain⟨κ,F,M⟩:=h;obtain⟨F',_,bb,_⟩:=bl.lb lN M;unfold q3;split
 ·exact⟨κ,F,M.set bf ⟨λh=>(by cases h),λ_=>rfl⟩⟩
 ·exact⟨κ,F',bb.set bf ⟨λh=>(by cases h),λ_=>rfl⟩⟩
theorem afU(bf:∀ i,o.dst=some i->i<C.nt){k:Nat}{args:Array Operand}{dq:Array TypeId}(af:o.op=.call { callee:=.value (.func k),args:=args,argTypes:=dq }){dx:hH}(ao:h3 C.P k dx.ts dx.aV dx.sh){cd:hV}
  (h:CS C.aN s o args.toList dx=some cd):qd C o s cd:=by
 unfold CS at h;split at h
 ·rename_i x bU ag;cases h;refine⟨λa w Q K M bc hm=>?_,λgs oF=>?_,λW=>C0 W λx ag=>by rw[af];simp[Op.operands,Call.operands];simp_all⟩
  ·obtain⟨κ,F,M⟩:=M;exact Sn M ao bf af bc ag hm.1 λy w' aS v j_=>hm.2 y aS _ _ j_
  ·cases oF;exact To bf (p8 _ ag)
 grind
theorem afV(bf:∀ i,o.dst=some i->i<C.nt){k:Nat}{args:Array Operand}{dq:Array TypeId}(af:o.op=.call { callee:=.value (.func k),args:=args,argTypes:=dq }){dx:hH}(ao:h3 C.P k dx.ts dx.aV dx.sh)(C2:Rv C.P k dx.ts dx.aV dx.sh){cd:hV}
  (h:Gn C.aN s o args.toList dx=some cd):qd C o s cd:=by
 unfold Gn at h;split at h
 ·rename_i x bU ag;cases h;refine⟨λa w Q K M bc hm=>?_,λgs oF=>(by grind),λW=>C0 W λx ag=>by rw[af];simp[Op.operands,Call.operands];simp_all⟩;obtain⟨κ,F,M⟩:=M;obtain⟨args⟩:=args;have c8:(execOp a.eval o).run C.P w=.ok (.enter k (args.map a.eval).toArray) w:=by
   simp only[execOp,af,Sem.run_bind,resolve,Act.eval,Deferred.ofValue,Sem.run_pure,Result.andThen_ok,invoke];have:=ao.enter (args.map a.eval).toArray w;grind
  obtain⟨F',f1,bb,f2⟩:=bl.lb (p8 _ ag) M;have dY:fp C.P dx.ts F' w (args.map a.eval) x:=by
   refine u' M.bF f1 dx.ts ag f2 (by simp) λi G dO=>?_;simp only[List.getElem_map];have dv:i<args.length:=by grind
   have E:=r1 bc i (by grind);have ax:(args.map (a7 C.aN s.ay)).getD i .undef=a7 C.aN s.ay args[i]:=by grind
   rw[show (List.map (a7 C.aN s.ay) (⟨args⟩:Array Operand).toList)=args.map (a7 C.aN s.ay) from rfl,ax]at E;exact o' (j6 M args[i]) E
  refine CB (by grind) c8 (C2.iV F' w _ x bb.dc bb.iB dY hm.1) λe w' ⟨v,y,he,aS,gp,W⟩=>⟨v,he,hm.2 y aS _ _ ⟨κ,_,(M.grow W).set bf (CA ?_)⟩⟩
  obtain⟨aC,ds,dI,nP⟩:=gp;exact⟨aC,ds,dI,ff _ (λr M=>.inr M) (c7.refl _ _) nP⟩
 grind
theorem afW(bf:∀ i,o.dst=some i->i<C.nt){t:Nat}{args:Array Operand}{dq:Array TypeId}(af:o.op=.call { callee:=.value (.tmp t),args:=args,argTypes:=dq }){cd:hV}
  (h:CT C.aN s o t args.toList=some cd):qd C o s cd:=by
 unfold CT at h;split at h
 ·rename_i ca aK b f hu;split at h
  ·rename_i x bU ag;cases h;obtain⟨args⟩:=args;refine⟨λa w Q K M bc hm=>?_,λgs oF=>?_,λW=>⟨?_,C0 W λx ag=>by rw[af];simp[Op.operands,Call.operands];simp_all⟩⟩
   ·obtain⟨κ,F,M⟩:=M;obtain⟨F',f1,bb,f2⟩:=bl.lb (p8 _ ag) M;have dY:fp C.P aK F' w (args.map a.eval) x:=by
     refine u' M.bF f1 aK ag f2 (by simp) λi G dO=>?_;simp only[List.getElem_map];have dv:i<args.length:=by grind
     have E:=r1 bc.2 i (by grind);have ax:(args.map (a7 C.aN s.ay)).getD i .undef=a7 C.aN s.ay args[i]:=by grind
     rw[show (List.map (a7 C.aN s.ay) (⟨args⟩:Array Operand).toList)=args.map (a7 C.aN s.ay) from rfl,ax]at E;exact o' (j6 M args[i]) E
    have GJ:bB C.P s.aa κ F w (use (a7 C.aN s.ay (.tmp t))).2 (a.eval (.tmp t)):=cO M (.tmp t) hu bc.1 |> λh=>by
     have e:use (a7 C.aN s.ay (.tmp t))=(ca,.val (.fn aK b) f):=hu;grind
    have e:use (a7 C.aN s.ay (.tmp t))=(ca,.val (.fn aK b) f):=hu;rw[e]at GJ;obtain⟨_,u,xC,_,tf⟩:=(dV rfl).1 GJ;have xC:a.eval (.tmp t)=u:=(List.cons.inj xC).1;obtain⟨g,c6,aB,sj,L6⟩:=tf F' w f1 (c7.refl _ _) bb.dc bb.iB (args.map a.eval) x dY.1 dY.2 hm.1;have c8:(execOp a.eval o).run C.P w=.ok (.enter g ((args.map a.eval).toArray++c6)) w:=by
     have ae:a.eval (.tmp t)=.func (.func g) #[] c6:=xC.trans aB;simp only[execOp,af,Sem.run_bind,resolve,ae,Deferred.ofValue,Sem.run_pure,Result.andThen_ok,invoke];grind
    refine CB (by grind) c8 L6 λe w' ⟨v,y,aC,he,aS,E,U,ah,W⟩=>⟨v,he,hm.2 y aS _ _ ?_⟩
    have gp:tj C.P b (uT F' w w') w' v y:=⟨aC,E,U,ah⟩
    unfold q3;by_cases an:b.pure=true
    ·rw[if_pos an];have aB:=M.grow W;refine⟨κ,_,aB.set bf (CA ?_)⟩;exact⟨aC,E,Sl an ⟨U,ah⟩⟩
    ·rw[if_neg an];have aB:=bb.grow W;exact⟨κ,_,aB.set bf (CA gp)⟩
   ·cases oF;exact To bf (p8 _ ag)
   ·have:=W (.tmp t) (by rw[af];simp[Op.operands,Call.operands]);have e:use (a7 C.aN s.ay (.tmp t))=(ca,.val (.fn aK b) f):=hu;grind
  grind
 grind
theorem afX(aU:dT C.P T)(bf:∀ i,o.dst=some i->i<C.nt){ty:TypeId}{x:Operand}(af:o.op=.range ty x){cd:hV}(h:Gs C.aN T s o ty x=some cd):qd C o s cd:=by
 unfold Gs at h;split at h
 ·rename_i k v d aH ar;split at h;rename_i ca av hu;split at h
  ·rename_i es bU pd;split at h
   ·cases h
   ·rename_i tD;cases h;have tD:d ∉ bU:=by grind
    obtain⟨i,j,G,_,_⟩:=(aU.cb aH (by simp)).mp;refine⟨λa w Q K M bc hm=>?_,λgs oF=>(by grind),λW=>q0.use W (by rw[af];simp[Op.operands]) hu⟩;obtain⟨κ,F,M⟩:=M;obtain⟨F',f1,bb,f2⟩:=bl.lb (mN pd) M;have ae:=cO M x hu bc;have nN:=((dV rfl).1 (mc M.bF f1 pd f2 ae)).2;have iL:=hm.2 () rfl;have pf:(s.cz bU).aa d=s.aa d:=by simp only[aA.cz];grind
    have fin:∀ (ct:Obj),(∀ w',w'=w.alloc ct->wW C.P k v F' w' w.heap.size none es)->(execOp a.eval o).run C.P w=.ok (.value (.pointer (some ⟨w.heap.size,0,none⟩))) (w.alloc ct)->o.wpIn (dS C.r) 0 C.P a w K Q:=by
     intro ct hit c8;have E:=bb.alloc (b:=d) (x:=⟨(s.aa d).gen+1,.ct k v none es⟩) (M.fU (bf d ar)) (by grind) (o:=ct) (k:=⟨w.heap.size,0,0,false⟩) rfl λH κ' _ _ _=>hit _ rfl;refine ht (by grind) c8 (iL _ _ ⟨_,F',bl.set (s:=(s.cz bU).cx d _) E bf ⟨⟨by simp[aA.cx],rfl⟩,λ_ _=>by simp⟩⟩)
    rcases nN with⟨ax,rfl⟩ | ⟨r,ms,clk,ax,m1,m2,m3,m4,m5,m6⟩
    ·have ag:a.eval x=.map none:=(List.cons.inj ax).1;refine fin (.mapIter none 0 #[] 0) (λw' hw=>.inl ⟨by rw[hw];exact p0 _ _,rfl,rfl⟩) ?_;simp[execOp,af,Instr.range,dD G,ag]
    ·have ag:a.eval x=.map (some r):=(List.cons.inj ax).1;refine fin (.mapIter (some r) clk #[] clk) (λw' hw=>.inr ⟨r,ms,clk,#[],m1,?_,by rw[hw];exact p0 _ _,λi G=>(m5 i (by omega) G).2.2.2.2,m6,?_,λc hc=>by cases hc⟩) ?_
     ·rw[hw,o8 _ _ (bb.dc r m1)];exact m2
     ·refine⟨List.range ms.size,by grind,List.nodup_range,λi=>by simp,λj aE fT=>?_⟩;have xd:j<ms.size:=by omega
      obtain⟨aO,aR,bO,fI,_⟩:=m5 j fT xd;refine⟨by grind,?_⟩;simp only[List.getElem_range];have he:c7 F' w w':=by rw[hw];exact c7.alloc bb.dc _
      exact yZ.mono ⟨aO,aR,bO,fI⟩ (λ_ h=>h) he
     ·have eW:(getObj r).run C.P w=.ok (.map ms clk) w:=by simp[getObj,Sem.run,m2]
      simp[execOp,af,Instr.range,dD G,ag,eW]
  grind
 grind
theorem afY(bf:∀ i,o.dst=some i->i<C.nt){x:Operand}(af:o.op=.entry x){cd:hV}(h:Gv C.aN s o x=some cd):qd C o s cd:=by
 unfold Gv at h;split at h
 ·rename_i b g ag;split at h
  ·rename_i aB;split at h
   ·rename_i k v c cm W;cases h;refine⟨λa w Q K M _ hm=>?_,λgs oF=>(by grind),λ_=>trivial⟩;obtain⟨κ,F,M⟩:=M;have ae:=j6 M x;rw[ag]at ae;have ae:=ae.2 aB.symm (by rw[W];rfl);have aT:=M.bF b;unfold cE at aT;rw[W]at aT;have fl:=A.kK.1 hm;have iL:=A.ea.1 fl.2;obtain⟨c',jK⟩:=Option.isSome_iff_exists.1 fl.1;subst jK;rcases aT with⟨_,_,e⟩ | ⟨lI,es,clk,seen,E,U,ah,a1,bK,_,fF⟩
    ·cases e
    ·obtain⟨i,G,aD,he⟩:=fF c' rfl;have va:es.find? (λe=>e.born == es[i].born)=some es[i]:=by
      rw[<-Array.find?_toList];have jO:es[i]∈es.toList:=by simp
      cases ao:es.toList.find? (λe=>e.born == es[i].born) with
      | none=>grind
      | some e=>
       have ix:=List.find?_some ao;have o5:=List.mem_of_find?_eq_some ao;obtain⟨j,aE,rfl⟩:=List.mem_iff_getElem.1 o5;grind
     have C3:(getObj (κ b).aa).run C.P w=.ok (.mapIter (some lI) clk seen clk) w:=by simp[getObj,Sem.run,ah]
     have xg:(getObj lI).run C.P w=.ok (.map es clk) w:=by simp[getObj,Sem.run,U]
     have c8:(execOp a.eval o).run C.P w=.ok (.value (.tuple #[es[i].key,es[i].val])) w:=by
      simp[execOp,af,Instr.entry,ae,C3,xg,aD,va]
     refine ht (by grind) c8 (iL _ _ ⟨κ,F,M.set bf ⟨[es[i].key,es[i].val],rfl,rfl,λn aw=>?_⟩⟩);match n,aw with
     | 0,_=>exact⟨he.1,he.2.1⟩
     | 1,_=>exact⟨he.2.2.1,he.2.2.2⟩
   grind
  grind
 grind
theorem afZ{es:Array MapEntry}{seen:Array Nat}{clk:Nat}(a1:∀ i (h:i<es.size),es[i].born<clk) :
  (es.filter λe=>!seen.contains e.born).filter (λe=>decide (e.born<clk))=(es.filter λe=>!seen.contains e.born)/\(es.filter λe=>!seen.contains e.born).filter (λe=>decide (e.born>=clk))=#[]:=by
 have fR:∀ e∈es.filter λe=>!seen.contains e.born,e.born<clk:=by
  intro e he;have:=(Array.mem_filter.1 he).1;obtain⟨i,G,rfl⟩:=Array.mem_iff_getElem.1 this;grind
 constructor
 ·exact Array.filter_eq_self.2 λe he=>by grind
 ·exact Array.filter_eq_empty_iff.2 λe he=>by grind
theorem af0(P:Program)(w:World)(n:Nat):∃ j w',(choose (.mapNext n)).run P w=.ok j w'/\(0<n->j<n)/\(w'=w\/w'=w.drew):=by
 rw[run_choose];by_cases h:n<=1
 ·have:(Question.mapNext n).forced=true:=by simp[Question.forced,h]
  rw[this];grind
 ·have:(Question.mapNext n).forced=false:=by simp[Question.forced];omega
  rw[this];exact⟨_,_,rfl,λaw=>Nat.mod_lt _ aw,.inr rfl⟩
theorem af1(bf:∀ i,o.dst=some i->i<C.nt){x:Operand}{str:Bool}(af:o.op=.next x str){cd:hV}(h:Gu C.aN s o x str=some cd):qd C o s cd:=by
  unfold Gu at h;split at h
  · rename_i b g ag
    split at h
    · rename_i aB
      split at h
      · rename_i k v c cm W
        cases h
        refine⟨λa w Q K M _ hm=>?_,λgs oF=>(by grind),λ_=>trivial⟩
        obtain⟨κ,F,M⟩:=M
        have ae:=j6 M x
        rw[ag]at ae
        have ae:=ae.2 aB.symm (by rw[W];rfl)
        have aT:=M.bF b
        unfold cE at aT
        rw[W]at aT
        have ar:∀ c,o.op≠.defer c:=by grind
        have gh:∀ w',(w'=w\/w'=w.drew)->cm=[]->(execOp a.eval o).run C.P w=.ok (.value (.tuple #[.bool false])) w'->o.wpIn (dS C.r) 0 C.P a w K Q:=by
          intro w' C4 sk c8;have cN:bl C s a w' κ F:=by
            rcases C4 with rfl | rfl
            · exact M
            · exact M.drew
          have Si:s.cx b ⟨g,.ct k v c cm⟩=s:=by
            unfold aA.cx;congr 1;funext i;by_cases G:i=b
            · rw[if_pos G,G,<-W,<-aB]
            grind
          refine ht ar c8 (hm.2 none sk _ _ ⟨κ,F,bl.set (s:=s.cx b ⟨g,.ct k v c cm⟩) (by grind) bf ⟨[.bool false],rfl,rfl,λn aw=>?_⟩⟩);have:n=0:=by simp only[S8]at aw;omega
          subst this;exact fg.2 rfl
        rcases aT with⟨E,U,_⟩ | ⟨lI,es,clk,seen,E,U,ah,a1,bK,⟨ids,i1,i2,i3,i4⟩,fF⟩
        · refine gh w (.inl rfl) U ?_
          have C3:(getObj (κ b).aa).run C.P w=.ok (.mapIter none 0 #[] 0) w:=by simp[getObj,Sem.run,E]
          simp[execOp,af,Instr.next,ae,C3]
        · have C3:(getObj (κ b).aa).run C.P w=.ok (.mapIter (some lI) clk seen clk) w:=by simp[getObj,Sem.run,ah]
          have xg:(getObj lI).run C.P w=.ok (.map es clk) w:=by simp[getObj,Sem.run,U]
          obtain⟨f1,f2⟩:=afZ (seen:=seen) a1
          have fR:(!seen.isEmpty&&!es.isEmpty&&es.all (λe=>decide (e.born>=clk)))=false:=by
            by_cases he:es.size=0
            · grind
            · have:es.all (λe=>decide (e.born>=clk))=false:=by
                rw[Array.all_eq_false];exact⟨0,by omega,by grind⟩
              grind
          generalize af2:(es.filter λe=>!seen.contains e.born)=left at f1 f2
          have af3:((if left.isEmpty=true then #[none] else #[])++Array.map some (left++(#[]:Array MapEntry)))=(if left.isEmpty=true then #[none] else Array.map some left):=by
            grind
          obtain⟨j,w',bE,c2,c3⟩:=af0 C.P w (if left.isEmpty=true then #[none] else Array.map some left).size
          have cW:w'.heap=w.heap:=by rcases c3 with rfl | rfl<;>rfl
          have zT : ∀ r c_, (match (if left.isEmpty = true then #[none] else Array.map some left)[j]? with
                | some (some e)=>(do setObj (κ b).aa (.mapIter (some lI) clk (seen.push e.born) clk);pure (.tuple #[.bool true,e.key,e.val]):Sem Value)
                | some none=>pure (.tuple #[.bool false])
                | none => stuck "Next: no such candidate").run C.P w' = .ok r c_ -> (execOp a.eval o).run C.P w = .ok (.value r) c_ := by
            intro r c_ cN;simp only[execOp,af,Instr.next,ae,Sem.run_bind,C3,Result.andThen_ok,xg,fR,Bool.false_eq_true,if_false,af2,f1,f2,af3,bE];exact (congrArg (λ(z:Result Value)=>z.andThen λv w'=>Sem.run C.P (Pure.pure (Next.value v)) w') cN).trans rfl
          by_cases hle:left.isEmpty=true
          · have KK:left=#[]:=by grind
            have sk:cm=[]:=by
              have:ids=[]:=List.eq_nil_iff_forall_not_mem.2 λi G=>by
                obtain⟨L7,dv⟩:=(i3 i).1 G;have:es[i]∈left:=by
                  grind
                grind
              grind
            rw[hle]at zT c2
            simp only[if_true]at zT c2
            have aE:j=0:=by grind
            subst aE
            exact gh w' c3 sk (zT _ _ rfl)
          · have hle:left.isEmpty=false:=by grind
            rw[hle]at zT c2
            simp only[Bool.false_eq_true,if_false]at zT c2
            have axJ:0<left.size:=by
              grind
            have aE:j<left.size:=by grind
            have jO:left[j]∈(es.filter λe=>!seen.contains e.born):=by grind
            obtain⟨tF,Tp⟩:=Array.mem_filter.1 jO
            obtain⟨i0,oA,af4⟩:=Array.mem_iff_getElem.1 tF
            have af5:i0∈ids:=(i3 i0).2 ⟨oA,by grind⟩
            obtain⟨q,bt,L8⟩:=List.mem_iff_getElem.1 af5
            have L9:q<cm.length:=by omega
            have mQ:(setObj (κ b).aa (.mapIter (some lI) clk (seen.push left[j].born) clk)).run C.P w'=.ok () { w' with heap:=w'.heap.setIfInBounds (κ b).aa (.mapIter (some lI) clk (seen.push left[j].born) clk) }:=by
              simp[setObj,Sem.run,cW,ah]
            have c8:=zT (.tuple #[.bool true,left[j].key,left[j].val]) { w' with heap:=w'.heap.setIfInBounds (κ b).aa (.mapIter (some lI) clk (seen.push left[j].born) clk) } (by
              rw[show (Array.map some left)[j]?=some (some left[j]) by simp];simp only[Sem.run_bind,mQ,Result.andThen_ok,Sem.run_pure])
            have i':dd w w':=by rcases c3 with rfl | rfl<;>exact⟨rfl,rfl,rfl⟩
            have cc:(κ b).aa<w.heap.size:=(Array.getElem?_eq_some_iff.1 ah).1
            have eP:lI≠(κ b).aa:=λe=>(M.own b (by grind)).2.1 (e ▸ E)
            have gq:fq s.aa κ (λi=>if i=b then (⟨g,.ct k v cm[q]? (cm.eraseIdx q)⟩:bJ) else s.aa i) κ:=
              qN aB.symm (λh=>by cases h) (λh=>by cases h) (λh=>by cases h) (λ_=>by rw[W];rfl)
            have gU:=M.o9 (b:=b) (x:=⟨g,.ct k v cm[q]? (cm.eraseIdx q)⟩) (w':={ w' with heap:=w'.heap.setIfInBounds (κ b).aa (.mapIter (some lI) clk (seen.push left[j].born) clk) }) (by rw[W];rfl) rfl gq (λh=>by cases h) (λh=>by cases h)
              (λr K1=>by grind) (by grind) ⟨i'.os,i'.tape,i'.output⟩ λH _ _ he=>by
                refine .inr ⟨lI,es,clk,seen.push left[j].born,E,?_,by grind,a1,bK,⟨ids.eraseIdx q,?_,?_,λi=>?_,λn aw CF=>?_⟩,λc' jK=>?_⟩
                · grind
                · grind
                · grind
                · rw[List.mem_eraseIdx_iff_getElem]
                  constructor
                  · rintro⟨n,aw,GK,rfl⟩
                    obtain⟨tR,q_⟩:=(i3 ids[n]).1 (by simp)
                    refine⟨tR,?_⟩
                    simp only[Array.contains_push,Bool.or_eq_false_iff]
                    refine⟨q_,?_⟩
                    rw[<-af4]
                    simp only[beq_eq_false_iff_ne,ne_eq]
                    intro e
                    have:ids[n]=i0:=bK _ _ tR oA (by omega)
                    exact GK ((List.getElem?_inj aw i2).1 (by grind))
                  · rintro⟨tR,q_⟩
                    simp only[Array.contains_push,Bool.or_eq_false_iff]at q_
                    obtain⟨n,aw,rfl⟩:=List.mem_iff_getElem.1 ((i3 i).2 ⟨tR,q_.1⟩)
                    grind
                · have vi:(ids.eraseIdx q)[n]=if h:n<q then ids[n]'(by omega) else ids[n+1]'(by grind):=by
                    rw[List.getElem_eraseIdx]
                  have Tq:(cm.eraseIdx q)[n]=if h:n<q then cm[n]'(by omega) else cm[n+1]'(by grind):=by
                    rw[List.getElem_eraseIdx]
                  have hlen:n+1<ids.length:=by grind
                  by_cases GK:n<q
                  · obtain⟨tR,q_⟩:=i4 n (by omega) (by omega)
                    simp only[vi,Tq,GK,dif_pos]
                    exact⟨tR,q_.mono (λ_ h=>h) he⟩
                  · obtain⟨tR,q_⟩:=i4 (n+1) hlen (by omega)
                    simp only[vi,Tq,GK,dif_neg,not_false_eq_true]
                    exact⟨tR,q_.mono (λ_ h=>h) he⟩
                · rw[List.getElem?_eq_getElem L9]at jK
                  cases jK
                  obtain⟨tR,q_⟩:=i4 q bt L9
                  refine⟨i0,oA,by grind,?_⟩
                  have ax:es[ids[q]]=es[i0]:=by congr 1
                  rw[ax]at q_
                  exact q_.mono (λ_ h=>h) he
            refine ht ar c8 (hm.2 (some q) L9 _ _ ⟨κ,F,bl.set (s:=s.cx b _) gU bf ⟨[.bool true,left[j].key,left[j].val],rfl,rfl,λn aw=>?_⟩⟩)
            match n,aw with
            | 0,_=>exact fg.2 rfl
            | 1,_=>trivial
            | 2,_=>trivial
      grind
    grind
  grind
end
end Go.Fer
namespace Go.Fer
open Go.RowKit
def C5:z9'->List Value->List Value->Prop
 | [],[],aC=>aC=[]
 | none::g,u::us,aC=>∃ rU,aC=u::rU/\C5 g us rU
 | some n::g,u::us,aC=>∃ cs rU,u=.agg cs/\cs.size=n/\(∀ c∈cs.toList,c.oneCell'=true)/\aC=cs.toList++rU/\C5 g us rU
 | _,_,_=>False
def GL(g:z9')(v:Value)(aC:List Value):Prop:=∃ us:List Value,us.length=g.length/\v=(if us.length=1 then us.getD 0 undef else .tuple us.toArray)/\C5 g us aC
structure cS(P:Program)(aP:dG)(k:FuncId)(c:cK):Prop where
 enter:∀ args w,(callFunc k args).run P w=.ok (.enter k args) w
 iV:∀ (C:b9) (a:Act) (w:World) (κ:Nat->bD) (F:Nat->Prop) (D:c.cp.ai),C.P=P->C.w0=w->C.r=none->C.dfr=[]->C.nt=c.kc->C.aN=aP->bl C (c.cp.st D) a w κ F->(c.sh D).ck->
  Calls P k a.tmps w λe w'=>∃ v bm aC κ' F',e=.returned v/\(c.sh D).bL bm/\GL c.kz v aC/\bl { C with nt:=aC.length } (c.bL.st bm) { tmps:=aC.toArray,defers:=[] } w' κ' F'
section
variable {P:Program} {H H':Nat->bJ} {κ κ':Nat->bD} {F:Nat->Prop} {w:World} {g:Nat->Nat×Nat}
def pr(H H':Nat->bJ)(κ κ':Nat->bD)(g:Nat->Nat×Nat):Prop:=∀ b,(H b).gen=0/\pZ ⟨(g b).2,(H b).body⟩ (H' (g b).1) (κ b) (κ' (g b).1)
theorem pr.aW(h:pr H H' κ κ' g){b off:Nat}{v:Value}(ae:bB P H κ F w (.aW b 0 off) v):bB P H' κ' F w (.aW (g b).1 (g b).2 off) v:=by
 obtain⟨aX,aO,aR⟩:=h b;refine⟨⟨aO,ae.1.2⟩,λaB hc=>?_⟩;obtain⟨bE,c2⟩:=(aR aB).1 hc;rw[c2];exact ae.2 aX.symm bE
theorem pr.av(h:pr H H' κ κ' g)(t:bW){R:Type}(z:t.cons R){v:Value}(ae:bB P H κ F w (t.av da z).1 v):bB P H' κ' F w (t.av g z).1 v:=by
 cases t with
 | undef=>trivial
 | val t=>exact ae
 | dW t=>exact ae
 | aW b off=>exact h.aW ae
 | own b=>
  obtain⟨aX,aO,aR⟩:=h b;refine⟨⟨aO,ae.1.2⟩,λaB hc=>?_⟩;obtain⟨bE,c2,c3,c4⟩:=(aR aB).2.1 hc;rw[c2,c3];exact ae.2 aX.symm bE
 | sub b=>
  obtain⟨aX,aO,aR⟩:=h b;refine⟨⟨aO,ae.1.2⟩,λaB hc=>?_⟩;obtain⟨bE,c2,c3,c4⟩:=(aR aB).2.1 hc;rw[c2,c3,c4];exact ae.2 aX.symm bE
 | fG b=>
  obtain⟨aX,aO,aR⟩:=h b;refine⟨⟨aO,ae.1.2⟩,λaB hc=>?_⟩;obtain⟨bE,c2⟩:=(aR aB).2.2.1 hc;rw[c2];exact ae.2 aX.symm bE
 | j1 b=>
  obtain⟨aX,aO,aR⟩:=h b;refine⟨⟨aO,ae.1.2⟩,λaB hc=>?_⟩;obtain⟨bE,c2⟩:=(aR aB).2.2.2 hc;rw[c2];exact ae.2 aX.symm bE
 | cv=>exact ae
 | iA k fX=>
  obtain⟨aC,E,U,ah⟩:=ae;refine⟨aC,E,U,λi G=>?_⟩;have:=ah i G;have ax:vd da fX i=.aW fX[i].1 0 fX[i].2:=by simp[vd,hi,List.getD_eq_getElem?_getD,G,da]
  have aM:vd g fX i=.aW (g fX[i].1).1 (g fX[i].1).2 fX[i].2:=by simp[vd,hi,List.getD_eq_getElem?_getD,G]
  rw[ax]at this;rw[aM];exact h.aW this
 | hG bs=>
  obtain⟨aC,E,U,ah⟩:=ae;refine⟨aC,E,U,λi G=>?_⟩;obtain⟨this,jK⟩:=ah i G;refine⟨?_,jK⟩;have ax:ve da bs i=.own bs[i] 0:=by simp[ve,hi,List.getD_eq_getElem?_getD,G,da]
  have aM:ve g bs i=.own (g bs[i]).1 (g bs[i]).2:=by simp[ve,hi,List.getD_eq_getElem?_getD,G]
  rw[ax]at this;rw[aM];obtain⟨aX,aO,aR⟩:=h bs[i];refine⟨⟨aO,this.1.2⟩,λaB hc=>?_⟩;obtain⟨bE,c2,c3,c4⟩:=(aR aB).2.1 hc;rw[c2,c3];exact this.2 aX.symm bE
 | iW b=>
  obtain⟨aX,aO,aR⟩:=h b;refine⟨⟨aO,ae.1.2⟩,λaB hc=>?_⟩;obtain⟨bE,c2,c3,c4⟩:=(aR aB).2.1 hc;rw[c2,c3,c4];exact ae.2 aX.symm bE
 | aV aK=>trivial
 | hg=>exact ae
theorem zU(t:bW){R:Type}(z:t.cons R):(t.av g z).2=(t.av da z).2:=by cases t<;>rfl
theorem Tr:∀ (ts:List bW) {R:Type} (z:qa ts R),(pk g ts z).2=(pk da ts z).2
 | [],_,_=>rfl
 | t::ts,_,z=>by simp only[pk];rw[zU (g:=g) t z];exact Tr ts _
theorem Ts(t:b2){R:Type}(z:t.cons R):(t.body g z).2=(t.body da z).2:=by
 cases t with
 | cells t l=>exact Tr l z
 | gj e t=>exact zU t z.2
 | _=>rfl
theorem L_:∀ (ts:List (Nat×bW)) {R:Type} (z:oB ts R),(eD g ts z).2=(eD da ts z).2
 | [],_,_=>rfl
 | p::ts,_,z=>by simp only[eD];rw[zU (g:=g) p.2 z];exact L_ ts _
theorem pr.avs(h:pr H H' κ κ' g):∀ (ts:List bW) {R:Type} (z:qa ts R) (i:Nat) {v:Value},bB P H κ F w ((pk da ts z).1.getD i .undef) v->bB P H' κ' F w ((pk g ts z).1.getD i .undef) v
 | [],_,_,i,v,_=>by simp[pk,bB]
 | t::ts,_,z,i,v,ae=>by
  simp only[pk]at ae ⊢;cases i with
  | zero=>exact h.av t z ae
  | succ i=>
   simp only[List.getD_cons_succ]at ae ⊢;rw[zU (g:=g) t z];exact h.avs ts _ i ae
theorem pr.bT(h:pr H H' κ κ' g):∀ (ts:List (Nat×bW)) {R:Type} (z:oB ts R) (i:Nat) {v:Value},bB P H κ F w (fr (eD da ts z).1 i) v->bB P H' κ' F w (fr (eD g ts z).1 i) v
 | [],_,_,i,v,_=>by simp[eD,fr,bB]
 | p::ts,_,z,i,v,ae=>by
  simp only[eD,fr]at ae ⊢;by_cases e:i=p.1
  ·rw[if_pos e]at ae ⊢;exact h.av p.2 z ae
  ·rw[if_neg e]at ae ⊢;rw[zU (g:=g) p.2 z];exact h.bT ts _ i ae
theorem Tt:∀ (ts:List (Nat×bW)) {R:Type} (z:oB ts R) (i:Nat) {l aK L n st},fr (eD g ts z).1 i=.aV l aK L n st->fr (eD da ts z).1 i=.aV l aK L n st
 | [],_,_,i,_,_,_,_,_,h=>by simp[eD,fr]at h
 | p::ts,_,z,i,l,aK,L,n,st,h=>by
  simp only[eD,fr]at h ⊢;by_cases e:i=p.1
  ·rw[if_pos e]at h ⊢;obtain⟨jJ,t⟩:=p;cases t<;>first | exact h | cases h
  ·rw[if_neg e]at h ⊢;rw[zU (g:=g) p.2 z]at h;exact Tt ts _ i h
def xD(x y:bQ):Prop:=x.fH=y.fH/\x.fh=y.fh/\x.len=y.len/\x.e2=y.e2/\x.gT=y.gT/\x.mI=y.mI/\∀ k,x.b1 k=y.b1 k
theorem xD.refl(x:bQ):xD x x:=⟨rfl,rfl,rfl,rfl,rfl,rfl,λ_=>rfl⟩
theorem af6(t:b2){R:Type}(z:t.cons R):xD (t.body g z).1 (t.body da z).1:=by
 cases t with
 | cells t l=>exact⟨rfl,rfl,rfl,rfl,rfl,rfl,λ_=>rfl⟩
 | gj e t=>exact⟨rfl,rfl,rfl,rfl,rfl,rfl,λ_=>rfl⟩
 | _=>exact xD.refl _
theorem af7:∀ (t:ad) (x:t.ai) (av:aG),av∈nI t x->∀ {v:Value},bB P H κ F w av v->bB P H' κ' F w av v:=by
  intro t;induction t with
  | cV=>intro x av h;cases h
  | st t aJ=>intro x av h;exact aJ x av h
  | az a b fy eL=>
   intro x av h;rcases List.mem_append.1 h with h | h
   ·exact fy _ av h
   ·exact eL _ av h
  | array n e aJ=>
   intro x av h;simp only[nI,List.mem_flatMap]at h;grind
  | _=>
   intro x av h v ae;simp only[nI,List.mem_singleton]at h;subst h;exact ae
theorem pr.body(h:pr H H' κ κ' g)(t:b2){R:Type}(z:t.cons R){k:bD}(W:jD P H κ F w k (t.body da z).1):jD P H' κ' F w k (t.body g z).1:=by
 cases t with
 | cells t l=>
  obtain⟨cs,T,E,U,ah⟩:=W;exact⟨cs,T,E,U,λi G=>⟨h.avs l z i (ah i G).1,(ah i G).2⟩⟩
 | gb t=>
  obtain⟨cs,T,E,U,ah⟩:=W;refine⟨cs,T,E,U,λi G=>⟨?_,(ah i G).2⟩⟩;have:=(ah i G).1;unfold hi at this ⊢;rw[List.getD_eq_getElem?_getD]at this ⊢;cases aj:(nI t z.1)[i]? with
  | none=>trivial
  | some av=>
   rw[aj]at this;simp only[Option.getD_some]at this ⊢;have jO:=List.mem_of_getElem? aj;exact af7 t z.1 av jO this
 | bg e=>exact W
 | hD e=>exact W
 | mp k v=>exact W
 | jh k v=>exact W
 | gG t=>exact W
 | ct k v=>exact W
 | gj e t=>
  obtain⟨aX,cs,T,E,U,ah,a1,bK,dp,fF,ix⟩:=W;exact⟨aX,cs,T,E,U,ah,a1,bK,dp,h.av t z.2 fF,ix⟩
theorem Tu{l:List (Nat×b2)}{x y:pj l}(h:x=y)(g:Nat->Nat×Nat)(b:Nat):eR (hk g l x) b=eR (hk g l y) b:=by rw[h]
theorem Tv:∀ (l:List (Nat×b2)) (x:pj l) (b:Nat),xD (eR (hk g l x) b).body (eR (hk da l x) b).body
 | [],_,_=>xD.refl _
 | p::l,x,b=>by
  simp only[hk,eR];split
  ·exact af6 p.2 x
  ·rw[Ts (g:=g) p.2 x];exact Tv l _ b
theorem pr.bF(h:pr H H' κ κ' g):∀ (l:List (Nat×b2)) (x:pj l) (b:Nat) {k:bD},jD P H κ F w k (eR (hk da l x) b).body->jD P H' κ' F w k (eR (hk g l x) b).body
 | [],_,_,k,_=>trivial
 | p::l,x,b,k,W=>by
  simp only[hk,eR]at W ⊢;split
  ·rename_i e;rw[if_pos e]at W;exact h.body p.2 x W
  ·rename_i e;rw[if_neg e]at W;rw[Ts (g:=g) p.2 x];exact h.bF l _ b W
theorem L':∀ (l:List (Nat×bQ)) (b:Nat),(eR l b).gen=0
 | [],_=>rfl
 | p::l,b=>by
  simp only[eR];split
  ·rfl
  ·exact L' l b
end
end Go.Fer
namespace Go.Fer
open Go.RowKit
theorem GM{ak:Type}{k:ak->Nat}:∀ {l:List ak},(l.map k).Nodup->∀ {p:ak},p∈l->l.find? (λq=>k q == k p)=some p
 | [],_,_,h=>by cases h
 | a::l,aw,p,h=>by
  simp only[List.map_cons,List.nodup_cons]at aw;by_cases e:k a=k p
  ·grind
  ·rw[List.find?_cons_of_neg (by grind)];rcases List.mem_cons.1 h with rfl | h
   ·omega
   ·exact GM aw.2 h
theorem C6{ak:Type}{k:ak->Nat}{l:List ak}(aw:(l.map k).Nodup){p q:ak}(an:p∈l)(bt:q∈l)(e:k p=k q):p=q:=by
 have E:=GM aw an;rw[e,GM aw bt]at E;grind
theorem Tw:∀ {l:z6'},(l.map (·.1)).Nodup->∀ {p},p∈l->hW l p.1=p.2
 | [],_,_,h=>by cases h
 | a::l,aw,p,h=>by
  simp only[List.map_cons,List.nodup_cons]at aw;simp only[hW];by_cases e:p.1=a.1
  ·grind
  ·rw[if_neg e];rcases List.mem_cons.1 h with rfl | h
   ·omega
   ·exact Tw aw.2 h
theorem Tx:∀ {l:z6'} {b:Nat},b ∉ l.map (·.1)->hW l b=(m_,0)
 | [],_,_=>rfl
 | a::l,b,h=>by
  simp only[List.map_cons,List.mem_cons,not_or]at h;simp only[hW];rw[if_neg h.1];exact Tx h.2
theorem Ty(s:aA)(d:Nat)(f:Nat->Nat)(ins:List Nat):∀ (l:List (Nat×b2)) (j:Nat),(sc s d f ins l j).map (·.1)=l.map (·.1)
 | [],_=>rfl
 | p::l,j=>by
  simp only[sc,List.map_cons,Ty s d f ins l (j+1)];grind
theorem Tz(s:aA)(d:Nat)(f:Nat->Nat)(ins:List Nat):∀ (l:List (Nat×b2)) (j:Nat) {p:Nat×(Nat×Nat)},p∈sc s d f ins l j->
  (p.1∈ins/\p.2.1=f p.1/\∃ t,(p.1,t)∈l/\((p.2.2=(s.aa (f p.1)).gen/\((∀ (g:Nat->Nat×Nat) (R:Type) (z:t.cons R),(t.body g z).1.fh=false)\/(wX<=p.1/\∃ e,t=.bg e)))\/p.2.2=(s.aa (f p.1)).gen+1))\/
  (p.1 ∉ ins/\p.2.2=(s.aa p.2.1).gen+1/\50000+10*d+j<=p.2.1/\p.2.1<50000+10*d+j+l.length)
 | [],_,p,h=>by cases h
 | q::l,j,p,h=>by
  simp only[sc,List.mem_cons]at h;rcases h with h | h
  ·by_cases bt:ins.contains q.1=true
   ·rw[if_pos bt]at h;subst h;refine .inl ⟨by grind,rfl,q.2,by simp,?_⟩;obtain⟨ds,t⟩:=q;cases t with
    | bg e=>
     grind
    | _=>first | exact .inr rfl | exact .inl ⟨rfl,.inl λ_ _ _=>rfl⟩
   grind
  ·rcases Tz s d f ins l (j+1) h with⟨E,U,t,ah,a1⟩ | ⟨E,U,ah,a1⟩
   ·exact .inl ⟨E,U,t,List.mem_cons_of_mem _ ah,a1⟩
   ·exact .inr ⟨E,U,by omega,by simp only[List.length_cons];omega⟩
theorem GN(g:Nat->Nat×Nat):∀ (l:List (Nat×b2)) (x:pj l) (b:Nat),(eR (hk g l x) b=⟨0,.fz⟩/\b ∉ l.map (·.1))\/∃ q∈l,q.1=b/\∃ (R:Type) (z:q.2.cons R),eR (hk g l x) b=⟨0,(q.2.body g z).1⟩
 | [],_,_=>.inl ⟨rfl,by simp⟩
 | p::l,x,b=>by
  simp only[hk,eR];by_cases e:b=p.1
  ·grind
  ·rw[if_neg e];rcases GN g l (p.2.body g x).2 b with⟨E,U⟩ | ⟨q,E,U⟩
   ·exact .inl ⟨E,by rw[List.map_cons,List.mem_cons,not_or];exact⟨e,U⟩⟩
   ·exact .inr ⟨q,List.mem_cons_of_mem _ E,U⟩
theorem af8{t u:b2}(h:t.Gc u=true){g g':Nat->Nat×Nat}{R Ma:Type}(z:t.cons R)(mg:u.cons Ma) :
  ((t.body g z).1.fH=true->(u.body g' mg).1.fH=true/\∀ k,(u.body g' mg).1.b1 k=true)/\((t.body g z).1.gT=true->(u.body g' mg).1.gT=true/\∀ k,(u.body g' mg).1.b1 k=true)/\(t.body g z).1.mI=false:=by
 cases t<;>cases u<;>first
  | exact Bool.noConfusion h
  | exact⟨λ_=>⟨rfl,λ_=>rfl⟩,λh=>Bool.noConfusion h,rfl⟩
  | exact⟨λh=>Bool.noConfusion h,λ_=>⟨rfl,λ_=>rfl⟩,rfl⟩
  | exact⟨λh=>Bool.noConfusion h,λh=>Bool.noConfusion h,rfl⟩
theorem xE:∀ (ts:List (Nat×bW)) {R:Type} (g:Nat->Nat×Nat) (z:oB ts R) (i:Nat),ts.any (λp=>p.1 == i)=false->fr (eD g ts z).1 i=.undef
 | [],_,_,_,_,_=>rfl
 | p::ts,_,g,z,i,h=>by
  simp only[List.any_cons,Bool.or_eq_false_iff,beq_eq_false_iff_ne]at h;simp only[eD,fr];rw[if_neg (Ne.symm h.1)];exact xE ts g _ i h.2
theorem Mb{P:Program}{H:Nat->bJ}{κ:Nat->bD}{F:Nat->Prop}{w:World}:∀ (g:z9') {us aC:List Value},C5 g us aC->∀ (c:Nat->aG) (i:Nat),(∀ j,j<aC.length->bB P H κ F w (c (i+j)) (aC.getD j undef))->
  (pn g c i).length=g.length/\us.length=g.length/\∀ j,j<g.length->bB P H κ F w ((pn g c i).getD j .undef) (us.getD j undef)
 | [],[],aC,_,_,_,_=>⟨rfl,rfl,λj aE=>by cases aE⟩
 | [],_::_,_,h,_,_,_=>h.elim
 | none::g,[],_,h,_,_,_=>h.elim
 | some n::g,[],_,h,_,_,_=>h.elim
 | none::g,u::us,aC,h,c,i,ae=>by
  obtain⟨rU,rfl,h⟩:=h;obtain⟨E,U,ah⟩:=Mb g h c (i+1) λj aE=>by
   have:=ae (j+1) (by grind);rw[show i+(j+1)=i+1+j by omega]at this;simpa using this
  refine⟨by simp[pn,E],by grind,λj aE=>?_⟩;cases j with
  | zero=>simpa [pn]using ae 0 (by simp)
  | succ j=>simpa [pn]using ah j (by grind)
 | some n::g,u::us,aC,h,c,i,ae=>by
  obtain⟨cs,rU,rfl,aw,nO,rfl,h⟩:=h;obtain⟨E,U,ah⟩:=Mb g h c (i+n) λj aE=>by
   have:=ae (n+j) (by grind);rw[show i+(n+j)=i+n+j by omega]at this;have e:(cs.toList++rU).getD (n+j) undef=rU.getD j undef:=by
    grind
   rw[e]at this;omega
  refine⟨by simp[pn,E],by grind,λj aE=>?_⟩;cases j with
  | zero=>
   simp only[pn,List.getD_cons_zero];refine⟨cs.toList,by simp,by omega,λj aE=>?_⟩;grind
  | succ j=>simpa [pn]using ah j (by grind)
theorem af9{P:Program}{H:Nat->bJ}{κ:Nat->bD}{F:Nat->Prop}{w:World}{g:z9'}{v:Value}{aC:List Value}(h:GL g v aC){c:Nat->aG}(ae:∀ j,bB P H κ F w (c j) (aC.getD j undef)) :
  bB P H κ F w (LJ (pn g c 0)) v:=by
 obtain⟨us,E,U,ah⟩:=h;obtain⟨aO,_,bO⟩:=Mb g ah c 0 (λj _=>by simpa using ae j);subst U;generalize pn g c 0=l at aO bO;unfold LJ;split
 ·grind
 ·rename_i aj;have eP:us.length≠1:=λe=>by
   have:l.length=1:=by omega
   match l,this with
   | [x],_=>grind
  rw[if_neg eP];refine⟨us,rfl,by omega,λi G=>?_⟩;unfold hi;grind
section
variable {C:b9} {s:aA} {a:Act} {w:World} {κ:Nat->bD} {F:Nat->Prop}
theorem bl.args(M:bl C s a w κ F){avs:List aG}{us:List Value}(aw:us.length<=eS)(aj:avs.length=us.length)(ae:∀ i,i<us.length->bB C.P s.aa κ F w (avs.getD i .undef) (us.getD i undef)) :
    bl { C with nt:=us.length,dfr:=[],r:=none } (sb s avs) { tmps:=us.toArray,defers:=[] } w κ F:=
  { M with
    dH:=by simp,dfr:=rfl,gl:=aw
    bT:=λi=>by
      show bB C.P s.aa κ F w (if i=b4 then s.ay b4 else if i<avs.length then avs.getD i .undef else .undef) (us.toArray.getD i undef);split
      · rename_i e
        subst e
        have E:=M.bT b4
        have U:a.tmps.getD b4 undef=undef:=by
          have:=M.dH;have:=M.gl;rw[Array.getD_eq_getD_getElem?,Array.getElem?_eq_none (by unfold b4 eS at *;omega)];rfl
        have ah:us.toArray.getD b4 undef=undef:=by
          rw[Array.getD_eq_getD_getElem?,Array.getElem?_eq_none (by simp only[List.size_toArray];unfold b4 eS at *;omega)];rfl
        grind
      · split
        · simp_all
        · trivial
    bF:=M.bF
    eM:=λl aK L n st e=>M.eM l aK L n st (by simpa [sb]using e) }
def ra(C:b9)(w:World)(F':Nat->Prop)(n:Nat)(own Y:Nat->Prop)(ie:(Nat->Option Nat)×(Nat->Option (bD×Nat))):b9:=
 { C with w0:=w,F0:=F',K0:=λr=>r<w.heap.size/\¬own r/\¬Y r,nt:=n,dfr:=[],r:=none,ie:=ie.1,Kd:=ie.2 }
structure C7(C:b9)(s:aA)(w:World)(κ:Nat->bD)(F:Nat->Prop)(sl:aG)(Y:Nat->Prop):Prop where
 eM:∀ l aK L n st,sl=.aV l aK L n st->(∃ I,C.cd=⟨l,aK,L,I⟩)/\C.cd.hB C.P/\C.cd.at aK n st F Y w
 low:∀ r,Y r->r<w.heap.size/\¬F r/\¬C.K0 r
 own:∀ b,(s.aa b).body.b1 (κ b)=true->¬Y (κ b).aa
 GO:sl=.undef->∀ r,¬Y r
theorem bl.af_(M:bl C s a w κ F){sl:aG}(h:∀ l aK L n st,sl=.aV l aK L n st->s.ay b4=.aV l aK L n st):∃ Y,C7 C s w κ F sl Y:=by
 by_cases aD:∃ l aK L n st,sl=.aV l aK L n st
 ·obtain⟨l,aK,L,n,st,e⟩:=aD;obtain⟨E,U,Y,ah,a1,bK⟩:=M.eM l aK L n st (h _ _ _ _ _ e);refine⟨Y,⟨λdJ ky e6 iZ im a6=>?_,ah,a1,λa6=>?_⟩⟩
  ·rw[e]at a6;cases a6;exact⟨E,U,bK⟩
  ·rw[e]at a6;cases a6
 ·exact⟨λ_=>False,⟨λl aK L n st e=>(aD ⟨l,aK,L,n,st,e⟩).elim,λ_ h=>h.elim,λ_ _ h=>h,λ_ _ h=>h⟩⟩
theorem af'{C1:b9}{ey:aA}{b8:Act}{F':Nat->Prop}{bU:List Nat}{f:Nat->Nat}{sh:dK}{D:sh.ai}{Y:Nat->Prop}{ids:List Nat}(jr:C1.P=C.P)(tx:C1.aN=C.aN)(rb:C1.dfr=[])
  (gK:bl C1 (ey.cz bU) b8 w κ F') (ar:GI C1 ey b8 w κ f F' sh D bU) (iG:C7 C (ey.cz bU) w κ F' ((sh.st D).ay b4) Y)
  (ao:∀ b bd,b∈sh.oC->bd∈sh.oC->f b=f bd->b=bd) (hid:∀ b∈ids,eS<=b) :
  bl (ra C w F' C1.nt (λr=>∃ b,((sh.st D).aa b).body.b1 (κ (f b))=true/\(κ (f b)).aa=r) Y (λb=>if b∈ids then some (κ (f b)).aa else none,λb=>if b∈ids/\wX<=b then some (κ (f b),((sh.st D).aa b).body.len) else none)) (sh.st D) b8 w (λb=>κ (f b)) F' where
 dH:=gK.dH
 dfr:=gK.dfr.trans rb
 bT:=λi=>by have:=ar.bT i;rw[jr]at this;exact this
 bF:=λb=>by have:=ar.bF b;rw[jr]at this;exact this
 own:=λb W=>by
  have E:=gK.own (f b) (ar.xB W);exact⟨E.1,E.2.1,λh=>h.2.1 ⟨b,W,rfl⟩⟩
 inj:=λb bd W cR e=>ao b bd (ar.b1 b W).2.2 (ar.b1 bd cR).2.2 (gK.inj _ _ (ar.xB W) (ar.xB cR) e)
 dc:=gK.dc
 hh:=λr M=>.inl M
 hQ:=λr M=>M
 hs:=λr M=>M.1
 eH:=λ_ _=>rfl
 size:=Nat.le_refl _
 eu:=dd.refl _
 gl:=gK.gl
 km:=λb r h=>by
  simp only[ra]at h;grind
 jE:=λb r h _=>by
  simp only[ra]at h;grind
 j2:=λb k h=>by
  simp only[ra]at h;grind
 kn:=λb k h _ _=>by
  simp only[ra]at h;grind
 eM:=λl aK L n st e=>by
  obtain⟨E,U,ah⟩:=iG.eM l aK L n st e;exact⟨E,U,Y,λr M=>⟨(iG.low r M).1,(iG.low r M).2.1,λh=>h.2.2 M⟩,λb W=>iG.own _ (ar.xB W),ah⟩
 jF:=by have:=gK.jF;rw[jr,tx]at this;exact this
 iB:=by have:=gK.iB;rw[jr]at this;exact this
structure TA(s:aA)(κ:Nat->bD)(ie:(Nat->Option Nat)×(Nat->Option (bD×Nat)))(bs:List (Nat×bQ))(cg:z6'):Prop where
 ec:(cg.map (·.1)).Nodup
 ef:(cg.map (·.2.1)).Nodup
 fz:m_ ∉ cg.map (·.2.1)
 aga:(s.aa m_).body=.fz
 TB:∀ p∈cg,(p.2.1<eS/\(s.aa p.2.1).gen<p.2.2)\/
  (((eR bs p.1).body.fH=true->(s.aa p.2.1).body.fH=true/\ie.1 p.1=some (κ p.2.1).aa)/\((eR bs p.1).body.gT=true->(s.aa p.2.1).body.gT=true/\ie.1 p.1=some (κ p.2.1).aa)/\(eR bs p.1).body.mI=false/\
   ((p.2.2=(s.aa p.2.1).gen/\((eR bs p.1).body.fh=true->(s.aa p.2.1).body.fh=true/\(eR bs p.1).body.e2=(s.aa p.2.1).body.e2/\ie.2 p.1=some (κ p.2.1,(s.aa p.2.1).body.len)))\/p.2.2=(s.aa p.2.1).gen+1))
theorem agb{F' own Y:Nat->Prop}{sl:aG}{n:Nat}{ie:(Nat->Option Nat)×(Nat->Option (bD×Nat))}{ins:List Nat}{bL:dK}{bm:bL.ai}{aC:List Value}{w':World}{m':Nat->bD}{ek:Nat->Prop}
    (M:bl C s a w κ F') (iG:C7 C s w κ F' sl Y) (gm:∀ r,own r->∃ b,b∈ins/\(s.aa b).body.b1 (κ b)=true/\(κ b).aa=r)
    (hJ:bl { ra C w F' n own Y ie with nt:=aC.length } (bL.st bm) { tmps:=aC.toArray,defers:=[] } w' m' ek)
    {cg:z6'} (gn:TA s κ ie (hk (hW cg) bL.bF (eD (hW cg) bL.bT bm).2) cg)
    {H':Nat->bJ} {κn:Nat->bD} (zV:∀ p∈cg,H' p.2.1=⟨p.2.2,(eR (hk (hW cg) bL.bF (eD (hW cg) bL.bT bm).2) p.1).body⟩/\κn p.2.1=m' p.1)
    (C8:∀ b,b ∉ cg.map (·.2.1)->κn b=κ b/\(b∈ins->H' b=⟨(s.aa b).gen+1,.fz⟩)/\(b ∉ ins->H' b=s.aa b))
    {X:aG} (zW:X=fr (eD (hW cg) bL.bT bm).1 b4\/X=.undef\/(X=s.ay b4/\sl=.undef)) :
    bl C ⟨λi=>if i=b4 then X else s.ay i,H'⟩ a w' κn ek/\
    ∀ i,bB C.P H' κn ek w' (fr (eD (hW cg) bL.bT bm).1 i) (aC.toArray.getD i undef):=by
  generalize C9:hk (hW cg) bL.bF (eD (hW cg) bL.bT bm).2=bs at gn zV;have q1:∀ b,xD (eR bs b).body ((bL.st bm).aa b).body:=λb=>by
    rw[<-C9,Tu (L_ bL.bT bm)];exact Tv bL.bF (eD da bL.bT bm).2 b
  have C_:pr (bL.st bm).aa H' m' κn (hW cg):=by
    intro b;refine⟨L' _ b,?_⟩;by_cases W:b∈cg.map (·.1)
    · obtain⟨p,an,rfl⟩:=List.mem_map.1 W
      rw[Tw gn.ec an]
      obtain⟨E,U⟩:=zV p an
      rw[E,U]
      obtain⟨aO,aR,bO,fI,mT,tS,_⟩:=q1 p.1
      exact⟨Nat.le_refl _,λ_=>⟨λh=>⟨aO ▸ h,rfl⟩,λh=>⟨aR ▸ h,rfl,bO,fI⟩,λh=>⟨mT ▸ h,rfl⟩,λh=>⟨tS ▸ h,rfl⟩⟩⟩
    · rw[Tx W]
      obtain⟨_,U,ah⟩:=C8 m_ gn.fz
      have ar:(H' m_).body=.fz:=by
        by_cases G:m_∈ins
        · grind
        · rw[ah G];exact gn.aga
      refine⟨Nat.zero_le _,λ_=>?_⟩
      show ((H' m_).body.fH=true->_)/\((H' m_).body.fh=true->_)/\((H' m_).body.gT=true->_)/\((H' m_).body.mI=true->_)
      rw[ar]
      exact⟨λh=>(by cases h),λh=>(by cases h),λh=>(by cases h),λh=>(by cases h)⟩
  have GP:∀ b,(∃ p∈cg,p.2.1=b)\/b ∉ cg.map (·.2.1):=λb=>by
    grind
  have GQ:∀ p∈cg,∀ r,ie.1 p.1=some r->(eR bs p.1).body.fH=true\/(eR bs p.1).body.gT=true->(m' p.1).aa=r:=λp an r M h=>by
    obtain⟨aO,_,_,_,mT,_⟩:=q1 p.1;exact hJ.jE p.1 r M (h.imp (λh=>aO ▸ h) (λh=>mT ▸ h))
  have agc:∀ p∈cg,∀ k,ie.2 p.1=some k->(eR bs p.1).body.fh=true->m' p.1=k.1/\(eR bs p.1).body.len=k.2:=λp an k al h=>by
    obtain⟨_,aR,bO,_⟩:=q1 p.1;obtain⟨E,U⟩:=hJ.kn p.1 k al (L' _ _) (aR ▸ h);grind
  have aj:fq s.aa κ H' κn:=by
    rw[BZ];intro b;rcases GP b with⟨p,an,rfl⟩ | W
    · obtain⟨E,U⟩:=zV p an
      rw[E,U]
      rcases gn.TB p an with⟨_,h⟩ | ⟨hc,hm,hit,h⟩
      · exact⟨Nat.le_of_lt h,λe=>(by grind)⟩
      · rcases h with⟨h,fa⟩ | h
        · refine⟨Nat.le_of_eq h.symm,λ_=>⟨λh=>⟨(hc h).1,GQ p an _ (hc h).2 (.inl h)⟩,λh=>?_,λh=>⟨(hm h).1,GQ p an _ (hm h).2 (.inr h)⟩,λh=>?_⟩⟩
          · have h:(eR bs p.1).body.fh=true:=h
            obtain⟨b8,a2,a3⟩:=fa h
            obtain⟨dL,eA⟩:=agc p an _ a3 h
            exact⟨b8,dL,eA,a2⟩
          · have h:(eR bs p.1).body.mI=true:=h
            rw[hit]at h;cases h
        · exact⟨by grind,λe=>(by grind)⟩
    · obtain⟨E,U,ah⟩:=C8 b W
      rw[E]
      by_cases G:b∈ins
      · rw[U G]
        exact⟨Nat.le_succ _,λe=>(by grind)⟩
      · rw[ah G];exact pZ.refl _ _
  have zX:w.heap.size<=w'.heap.size:=hJ.size;have bn:∀ r,F' r->ek r:=hJ.hQ;have iL:∀ r,r<w.heap.size->¬own r->¬Y r->w'.heap[r]?=w.heap[r]?:=λr E U ah=>hJ.eH r ⟨E,U,ah⟩;have vj:∀ r,C.K0 r->r<w.heap.size:=λr h=>Nat.lt_of_lt_of_le (M.hs r h) M.size;have Mc:∀ r,own r->¬C.K0 r/\¬F' r:=λr h=>by
    obtain⟨b,_,E,rfl⟩:=gm r h;exact⟨(M.own b E).2.2,(M.own b E).2.1⟩
  have TC:∀ r,¬(r<w.heap.size/\¬own r/\¬Y r)->¬C.K0 r:=λr h al=>h ⟨vj r al,λaf=>(Mc r af).1 al,λaS=>(iG.low r aS).2.2 al⟩;have qe:c7 F' w w':=⟨zX,λr h=>iL r (M.dc r h) (λaf=>(Mc r af).2 h) λaS=>(iG.low r aS).2.1 h⟩
  have zA:∀ r,ek r->F' r\/¬(r<w.heap.size/\¬own r/\¬Y r):=hJ.hh;have sk:∀ b,b ∉ ins->(s.aa b).body.b1 (κ b)=true->(κ b).aa<w.heap.size/\¬own (κ b).aa/\¬Y (κ b).aa:=λb W af=>by
    refine⟨(M.own b af).1,λh=>?_,iG.own b af⟩;obtain⟨bd,E,U,ah⟩:=gm _ h;exact W (M.inj bd b U af ah ▸ E)
  have y4:∀ b,(H' b).body.b1 (κn b)=true->(∃ p∈cg,p.2.1=b/\((bL.st bm).aa p.1).body.b1 (m' p.1)=true/\κn b=m' p.1)\/(b ∉ cg.map (·.2.1)/\b ∉ ins/\κn b=κ b/\(s.aa b).body.b1 (κ b)=true):=λb W=>by
    rcases GP b with⟨p,an,rfl⟩ | aw
    · obtain⟨E,U⟩:=zV p an
      rw[E,U]at W
      exact .inl ⟨p,an,rfl,by rw[<-(q1 p.1).2.2.2.2.2.2];exact W,U⟩
    · obtain⟨E,U,ah⟩:=C8 b aw
      by_cases G:b∈ins
      · rw[U G]at W;cases W
      grind
  have fm:∀ i,bB C.P H' κn ek w' (fr (eD (hW cg) bL.bT bm).1 i) (aC.toArray.getD i undef):=λi=>C_.bT bL.bT bm i (hJ.bT i);refine⟨{ dH := M.dH, dfr := M.dfr, bT := λi => ?_, bF := λb => ?_, own := λb W => ?_, inj := λb bd W cR e => ?_, dc := hJ.dc, hh := λr h => ?_, hQ := λr h => bn r (M.hQ r h), hs := M.hs, eH := λr h => ?_,size:=Nat.le_trans M.size zX,eu:=M.eu.trans hJ.eu,gl:=M.gl,km:=M.km,jE:=λb r h hc=>?_,j2:=M.j2,kn:=λb k h aX a8=>?_,eM:=λl aK L m st e=>?_,jF:=M.jF,iB:=hJ.iB },fm⟩
  · show bB C.P H' κn ek w' (if i=b4 then X else s.ay i) _
    split
    · rename_i e
      subst e
      have hu:a.tmps.getD b4 undef=undef:=by
        have:=M.dH;have:=M.gl;rw[Array.getD_eq_getD_getElem?,Array.getElem?_eq_none (by unfold b4 eS at *;omega)];rfl
      rcases zW with rfl | rfl | ⟨rfl,_⟩
      · have h:=fm b4
        have Md:aC.toArray.getD b4 undef=undef:=by
          have:aC.length<=eS:=hJ.gl;rw[Array.getD_eq_getD_getElem?,Array.getElem?_eq_none (by simp only[List.size_toArray];unfold b4 eS at *;omega)];rfl
        grind
      · trivial
      · exact bB.later aj bn qe (M.bT b4)
    · exact bB.later aj bn qe (M.bT i)
  · show jD C.P H' κn ek w' (κn b) (H' b).body
    rcases GP b with⟨p,an,rfl⟩ | aw
    · obtain⟨E,U⟩:=zV p an
      rw[E,U,<-C9,Tu (L_ bL.bT bm)]
      exact C_.bF bL.bF (eD da bL.bT bm).2 p.1 (hJ.bF p.1)
    · obtain⟨E,U,ah⟩:=C8 b aw
      by_cases G:b∈ins
      · rw[U G];trivial
      · have:=cE.k9 (H':=H') (κ':=κn) (M.bF b) aj bn qe (by grind) E λaf=>iL _ (sk b G af).1 (sk b G af).2.1 (sk b G af).2.2
        exact this
  · rcases y4 b W with⟨p,an,_,E,U⟩ | ⟨_,E,U,ah⟩
    · have:=hJ.own p.1 E
      rw[U]
      exact⟨this.1,this.2.1,TC _ this.2.2⟩
    · rw[U]
      have a1:=M.own b ah
      grind
  · rcases y4 b W with⟨p,an,rfl,E,U⟩ | ⟨_,E,U,ah⟩<;>rcases y4 bd cR with⟨p',Ce,rfl,zk,w9⟩ | ⟨_,zk,w9,TD⟩
    · rw[U,w9]at e
      have:=hJ.inj _ _ E zk e
      rw[C6 gn.ec an Ce this]
    · rw[U,w9]at e
      exact ((hJ.own p.1 E).2.2 (e ▸ sk bd zk TD)).elim
    · rw[U,w9]at e
      exact ((hJ.own p'.1 zk).2.2 (e ▸ sk b E ah)).elim
    · rw[U,w9]at e
      exact M.inj b bd ah TD e
  · rcases zA r h with h | h
    · exact M.hh r h
    grind
  · exact (iL r (vj r h) (λaf=>(Mc r af).1 h) λaS=>(iG.low r aS).2.2 h).trans (M.eH r h)
  · have aH:=M.km b r h
    rcases GP b with⟨p,an,rfl⟩ | aw
    · obtain⟨E,U⟩:=zV p an
      simp only[E]at hc
      rcases gn.TB p an with⟨ah,_⟩ | ⟨aO,aR,_⟩
      · omega
      · rw[U]
        rcases hc with hc | hc
        · rw[GQ p an _ (aO hc).2 (.inl hc)]
          exact M.jE _ r h (.inl (aO hc).1)
        · rw[GQ p an _ (aR hc).2 (.inr hc)]
          exact M.jE _ r h (.inr (aR hc).1)
    · obtain⟨E,U,ah⟩:=C8 b aw
      by_cases G:b∈ins
      · simp only[U G]at hc
        rcases hc with hc | hc<;>cases hc
      · simp only[ah G]at hc
        rw[E]
        exact M.jE b r h hc
  · have aH:=M.j2 b k h
    have aX:(H' b).gen=0:=aX
    have a8:(H' b).body.fh=true:=a8
    show κn b=k.1/\(H' b).body.len=k.2
    obtain⟨g1,ee⟩:=aj b
    obtain⟨b8,a2,a3,_⟩:=(ee (by omega)).2.1 a8
    obtain⟨aO,aR⟩:=M.kn b k h (by omega) b8
    grind
  · have e:X=.aV l aK L m st:=by grind
    rcases zW with rfl | rfl | ⟨rfl,agd⟩
    · obtain⟨E,U,gy,ah,a1,bK⟩:=hJ.eM l aK L m st (Tt bL.bT bm b4 e)
      refine⟨E,U,gy,λr bb=>⟨(ah r bb).1,(ah r bb).2.1,TC r (ah r bb).2.2⟩,λb W aS=>?_,bK⟩
      rcases y4 b W with⟨p,an,rfl,aO,aR⟩ | ⟨_,aO,aR,bO⟩
      · grind
      · rw[aR]at aS;exact (ah _ aS).2.2 (sk b aO bO)
    · cases e
    · obtain⟨E,U,gy,ah,a1,bK⟩:=M.eM l aK L m st e
      have TE:∀ r,gy r->r<w.heap.size/\¬own r/\¬Y r:=λr aS=>⟨(ah r aS).1,λaf=>by
        grind,iG.GO agd r⟩
      have B0:∀ r,ek r->¬gy r:=λr ao aS=>(zA r ao).elim (ah r aS).2.1 λh=>h (TE r aS)
      refine⟨E,U,gy,λr aS=>⟨Nat.lt_of_lt_of_le (ah r aS).1 zX,λao=>B0 r ao aS,(ah r aS).2.2⟩,λb W aS=>?_,U.Kc bK bn (λr ao=>?_) zX hJ.eu hJ.dc B0⟩
      · rcases y4 b W with⟨p,an,rfl,aO,aR⟩ | ⟨_,aO,aR,bO⟩
        · rw[aR]at aS;exact (hJ.own _ aO).2.2 (TE _ aS)
        grind
      · rcases ao with ao | ao
        · exact qe.2 r ao
        grind
end
end Go.Fer
namespace Go.Fer
open Go.RowKit
section
variable {C:b9} {T:Nat->ad} {o:Oper} {s:aA}
theorem cS.bz{P:Program}{aP:dG}{k:FuncId}{c:cK}(ao:cS P aP k c){C:b9}{a:Act}{w:World}{κ:Nat->bD}{F:Nat->Prop}{D:c.cp.ai}(h:bl C (c.cp.st D) a w κ F)(E:C.P=P)(U:C.w0=w)(ah:C.r=none)(a1:C.dfr=[])(bK:C.nt=c.kc)(dp:C.aN=aP)(aD:(c.sh D).ck) :
  Calls P k a.tmps w λe w'=>∃ v bm aC κ' F',e=.returned v/\(c.sh D).bL bm/\GL c.kz v aC/\bl { C with nt:=aC.length } (c.bL.st bm) { tmps:=aC.toArray,defers:=[] } w' κ' F':=
 ao.iV C a w κ F D E U ah a1 bK dp h aD
theorem TF{C:b9}{s:aA}{Me:Nat->aG}{a b8:Act}{w:World}{κ:Nat->bD}{F:Nat->Prop}{ec:Nat}{c:cK}{f:Nat->Nat}{D:c.cp.ai}{bU:List Nat}{d m:Nat}{cg:z6'}
    (M:bl C s a w κ F) (gK:bl { C with nt:=ec,dfr:=[],r:=none } ⟨Me,s.aa⟩ b8 w κ F) (qf:Me b4=s.ay b4)
    (nX:c.cp.zI f ⟨Me,s.aa⟩=some (D,bU)) (TG:sc (s.cz bU) d f c.cp.oC c.bL.bF 0=cg) (ed:CU c f (s.cz bU) cg d m=true) :
    ∃ (F' own Y:Nat->Prop) (ie:(Nat->Option Nat)×(Nat->Option (bD×Nat))),(∀ r,F r->F' r)/\bl C (s.cz bU) a w κ F'/\(∀ r,own r->∃ b,((s.cz bU).aa b).body.b1 (κ b)=true/\(κ b).aa=r)/\C7 C (s.cz bU) w κ F' ((c.cp.st D).ay b4) Y/\(∀ l aK L n st,(c.cp.st D).ay b4=.aV l aK L n st->s.ay b4=.aV l aK L n st)/\
      bl (ra C w F' ec own Y ie) (c.cp.st D) b8 w (λb=>κ (f b)) F'/\
      ∀ Mf hE,bl { C with w0:=Mf } (s.cz bU) a hE κ F'->C7 C (s.cz bU) hE κ F' ((c.cp.st D).ay b4) Y->∀ (bm:c.bL.ai) (aC:List Value) (w':World) (m':Nat->bD) (ek:Nat->Prop),bl { ra C hE F' ec own Y ie with nt:=aC.length } (c.bL.st bm) { tmps:=aC.toArray,defers:=[] } w' m' ek->
        ∃ κn,bl { C with w0:=Mf } (xr (s.cz bU) c f cg bm) a w' κn ek/\∀ i,bB C.P (xr (s.cz bU) c f cg bm).aa κn ek w' (fr (eD (hW cg) c.bL.bT bm).1 i) (aC.toArray.getD i undef):=by
  simp only[CU,Bool.and_eq_true,decide_eq_true_eq,Bool.not_eq_true']at ed;obtain⟨⟨⟨⟨⟨⟨⟨⟨⟨⟨bE,c2⟩,c3⟩,c4⟩,c5⟩,lM⟩,ox⟩,w7⟩,c9⟩,GR⟩,_⟩:=ed;have c3:(c.cp.bF.map (·.1)).Nodup:=of_decide_eq_true c3;have c4:(c.cp.bF.map λp=>f p.1).Nodup:=of_decide_eq_true c4;have c5:(cg.map (·.1)).Nodup:=of_decide_eq_true c5;have lM:(cg.map (·.2.1)).Nodup:=of_decide_eq_true lM;have w7:m_ ∉ cg.map (·.2.1):=λh=>by
    grind
  have c9:((s.cz bU).aa m_).body=.fz:=by
    grind
  obtain⟨F',f1,gK,ar⟩:=dK.Tj nX gK;have bb : bl C (s.cz bU) a w κ F' := { gK with
    dH:=M.dH,dfr:=M.dfr,gl:=M.gl,bT:=λi=>bB.later (R7 s bU κ) f1 (c7.refl _ _) (M.bT i)
    bF:=gK.bF
    eM:=λl aK L n st e=>gK.eM l aK L n st (by simpa [aA.cz,qf]using e) }
  obtain⟨Y,iG⟩:=bb.af_ (sl:=(c.cp.st D).ay b4) λl aK L n st e=>by simpa [aA.cz,qf]using ar.aV l aK L n st e
  have hid:∀ b∈c.cp.bF.map (·.1),eS<=b:=λb W=>by grind
  have GS:∀ b,b∈c.cp.oC->∃ q∈c.cp.bF,q.1=b/\q.2.CP=true:=λb W=>by
    obtain⟨q,bt,e⟩:=List.mem_filterMap.1 W;grind
  have C':=af' (C:=C) (C1:={ C with nt:=ec,dfr:=[],r:=none }) (ids:=c.cp.bF.map (·.1)) rfl rfl rfl gK ar ⟨iG.eM,iG.low,iG.own,iG.GO⟩ (λb bd W cR e=>by
    obtain⟨q,bt,rfl,_⟩:=GS b W;obtain⟨q',tz,rfl,_⟩:=GS bd cR;rw[C6 (k:=λp=>f p.1) c4 bt tz e]) hid
  refine⟨F',_,Y,_,f1,bb,λr ⟨b,W,e⟩=>⟨f b,ar.xB W,e⟩,iG,λl aK L n st e=>by simpa [aA.cz,qf]using ar.aV l aK L n st e,C',λMf hE K1 GU bm aC w' m' ek hJ=>?_⟩;have C9:∀ (b:Nat) (q':Nat×b2),q'∈c.bL.bF->q'.1=b->b∈c.cp.oC->∀ (R:Type) (z:q'.2.cons R),((q'.2.body (hW cg) z).1.fH=true->((s.cz bU).aa (f b)).body.fH=true)/\((q'.2.body (hW cg) z).1.gT=true->((s.cz bU).aa (f b)).body.gT=true)/\(q'.2.body (hW cg) z).1.mI=false:=by
    intro b q' tz e W R z;obtain⟨q,bt,rfl,Mg⟩:=GS b W;have al:=List.all_eq_true.1 (List.all_eq_true.1 GR q' tz) q bt;rw[e,Mg]at al;simp only[beq_self_eq_true,Bool.and_self,Bool.not_true,Bool.false_or]at al;rcases GN da c.cp.bF (eD da c.cp.bT D).2 q.1 with⟨_,U⟩ | ⟨dI,U,ah,Ma,mg,a1⟩
    · grind
    · obtain rfl:=C6 c3 U bt ah
      have a1:(c.cp.st D).aa dI.1=⟨0,(dI.2.body da mg).1⟩:=a1
      obtain⟨aO,aR,bO⟩:=af8 al z mg (g:=hW cg) (g':=da)
      have tQ:=ar.zR dI.1
      refine⟨λhc=>?_,λhc=>?_,bO⟩
      · have bK:=ar.b1 dI.1 (by grind)
        simp only[aA.cz,if_neg bK.1]
        exact tQ.2.1 (by grind)
      · have bK:=ar.b1 dI.1 (by grind)
        simp only[aA.cz,if_neg bK.1]
        exact tQ.2.2.2.1 (by grind)
  have age:cg.map (·.1)=c.bL.bF.map (·.1):=by rw[<-TG];exact Ty ..
  have gn:TA (s.cz bU) κ (λb=>if b∈c.cp.bF.map (·.1) then some (κ (f b)).aa else none,λb=>if b∈c.cp.bF.map (·.1)/\wX<=b then some (κ (f b),((c.cp.st D).aa b).body.len) else none) (hk (hW cg) c.bL.bF (eD (hW cg) c.bL.bT bm).2) cg:=by
    refine⟨c5,lM,w7,c9,λp an=>?_⟩;rw[<-TG]at an;rcases Tz _ _ _ _ _ _ an with⟨E,U,t,ah,a1⟩ | ⟨_,U,ah,a1⟩
    · rw[U]
      have jO:p.1∈c.cp.bF.map (·.1):=by
        grind
      rcases GN (hW cg) c.bL.bF (eD (hW cg) c.bL.bT bm).2 p.1 with⟨_,aR⟩ | ⟨q',aO,aR,R,z,bO⟩
      · grind
      · rw[bO]
        obtain⟨dL,eA,mG⟩:=C9 p.1 q' aO aR E R z
        have:q'=(p.1,t):=C6 (age ▸ c5) aO ah aR
        subst this
        refine .inr ⟨λh=>⟨dL h,if_pos jO⟩,λh=>⟨eA h,if_pos jO⟩,mG,a1.imp (λa1=>⟨a1.1,λfa=>?_⟩) id⟩
        rcases a1.2 with bK | ⟨al,e,rfl⟩
        · grind
        · obtain⟨q,bt,L8,Mg⟩:=GS p.1 E
          have xF:=List.all_eq_true.1 (List.all_eq_true.1 GR _ aO) q bt
          rw[L8,Mg]at xF
          simp only[beq_self_eq_true,Bool.and_self,Bool.not_true,Bool.false_or]at xF
          rcases GN da c.cp.bF (eD da c.cp.bT D).2 p.1 with⟨_,w9⟩ | ⟨dI,m2,m3,Ma,mg,m4⟩
          · grind
          · obtain rfl:=C6 c3 m2 bt (m3.trans L8.symm)
            have m4:(c.cp.st D).aa p.1=⟨0,(dI.2.body da mg).1⟩:=m4
            obtain⟨ds,Mh⟩:=dI
            have xF:b2.Gc (.bg e) Mh=true:=xF
            obtain rfl:Mh=.bg e:=by
              cases Mh<;>first | (simp only[b2.Gc,decide_eq_true_eq]at xF;rw[xF]) | cases xF
            have tQ:=ar.zR p.1
            have agf:((c.cp.st D).aa p.1).body.fh=true:=by rw[m4];rfl
            obtain⟨b_,cy,eg⟩:=tQ.2.2.1 agf
            have bk:((s.cz bU).aa (f p.1)).body.fh=true/\((s.cz bU).aa (f p.1)).body.len=(s.aa (f p.1)).body.len/\((s.cz bU).aa (f p.1)).body.e2=(s.aa (f p.1)).body.e2:=by
              simp only[aA.cz];split
              · rcases zi s.aa (s.aa (f p.1)) with a6 | ⟨_,_,ag,a6⟩ | ⟨_,_,_,ag,_⟩ | ⟨_,_,_,_,ag,_,_⟩
                · grind
                · rw[a6,ag];exact⟨rfl,rfl,rfl⟩
                · have b_:(s.aa (f p.1)).body.fh=true:=b_
                  rw[ag]at b_;cases b_
                · have b_:(s.aa (f p.1)).body.fh=true:=b_
                  rw[ag]at b_;cases b_
              grind
            have cy:((c.cp.st D).aa p.1).body.len=(s.aa (f p.1)).body.len:=cy
            have eg:((c.cp.st D).aa p.1).body.e2=(s.aa (f p.1)).body.e2:=eg
            refine⟨bk.1,?_,?_⟩
            · rw[bk.2.2,<-eg,m4];rfl
            grind
    · refine .inl ⟨?_,by omega⟩
      unfold eS
      omega
  obtain⟨nY,fm⟩:=agb (ins:=c.cp.oC.map f) (X:=if c.bL.bT.any (λp=>p.1 == b4) then fr (eD (hW cg) c.bL.bT bm).1 b4 else if c.cp.bT.any (λp=>p.1 == b4) then .undef else (s.cz bU).ay b4)
    (H':=(xr (s.cz bU) c f cg bm).aa)
    (κn:=λb=>match cg.find? (λp=>p.2.1 == b) with
      | some p=>m' p.1
      | none=>κ b) K1 ⟨GU.eM,GU.low,GU.own,GU.GO⟩ (λr ⟨b,W,e⟩=>⟨f b,List.mem_map_of_mem (ar.b1 b W).2.2,ar.xB W,e⟩) hJ gn
    (λp an=>by simp only[xr,GM (k:=λp=>p.2.1) lM an,and_self]) (λb W=>by
      have aw:cg.find? (λp=>p.2.1 == b)=none:=List.find?_eq_none.2 λp an e=>W (List.mem_map.2 ⟨p,an,by grind⟩);simp only[xr,aw,true_and];grind)
    (by
      split
      · simp
      · split
        · simp
        · rename_i U
          exact .inr (.inr ⟨rfl,xE c.cp.bT da D b4 (Bool.eq_false_iff.2 U)⟩))
  exact⟨_,nY,fm⟩
theorem TH(bf:∀ i,o.dst=some i->i<C.nt){f0:Operand}{args:Array Operand}{dq:Array TypeId}(af:o.op=.call { callee:=.value f0,args:=args,argTypes:=dq }){c:cK}(ao:∀ D a w,cu C s a w->(c.sh D).ck->∃ k,cS C.P C.aN k c/\a.eval f0=.func (.func k) #[] #[]){cd:hV}
  (h:xt C.aN s o args.toList c=some cd):qd C o s cd:=by
 obtain⟨args⟩:=args;unfold xt at h;generalize axK:q5 c (sb s (q4 C.aN s args))=f at h;split at h
 ·rename_i D bU nX;split at h
  ·rename_i ed;cases h;have agh:q0 (a7 C.aN s.ay) o->jI (args.map (a7 C.aN s.ay)):=λW=>C0 W λx ag=>by rw[af];simp[Op.operands,Call.operands];simp_all
   refine⟨λa w Q K M bc Mi=>?_,λgs oF=>(by grind),agh⟩;obtain⟨k,ao,al⟩:=ao D a w M Mi.1;obtain⟨κ,F,M⟩:=M;have hlen:args.length=c.kc/\args.length<=eS:=by
    simp only[CU,Bool.and_eq_true,decide_eq_true_eq]at ed;omega
   have dY:=M.args (avs:=q4 C.aN s args) (us:=args.map a.eval) (by grind) (by simp[q4]) λi G=>by
    have dv:i<args.length:=by grind
    have E:=r1 bc i (by grind);have ax:(args.map (a7 C.aN s.ay)).getD i .undef=a7 C.aN s.ay args[i]:=by grind
    rw[ax]at E;have aM:(q4 C.aN s args).getD i .undef=(use (a7 C.aN s.ay args[i])).2:=by simp[q4,List.getD_eq_getElem?_getD,dv]
    have cD:(args.map a.eval).getD i undef=a.eval args[i]:=by grind
    rw[aM,cD];exact o' (j6 M args[i]) E
   obtain⟨F',own,Y,ie,_,bb,_,iG,_,C',Mj⟩:=TF M dY rfl nX rfl ed;have c8:(execOp a.eval o).run C.P w=.ok (.enter k (args.map a.eval).toArray) w:=by
    simp only[execOp,af,Sem.run_bind,resolve,al,Deferred.ofValue,Sem.run_pure,Result.andThen_ok,invoke];have:=ao.enter (args.map a.eval).toArray w;grind
   have tT:=ao.bz C' rfl rfl rfl rfl (by show (args.map a.eval).length=_;grind) rfl Mi.1;refine CB (by grind) c8 tT λe w' ⟨v,bm,aC,m',ek,he,gf,GV,hJ⟩=>⟨v,he,Mi.2 bm gf _ _ ?_⟩
   obtain⟨κn,nY,fm⟩:=Mj C.w0 w bb iG bm aC w' m' ek hJ;exact⟨_,ek,bl.set nY bf (af9 GV λj=>by simpa [Array.getD_eq_getD_getElem?,List.getD_eq_getElem?_getD]using fm j)⟩
  grind
 grind
theorem agi(bf:∀ i,o.dst=some i->i<C.nt){k:Nat}{args:Array Operand}{dq:Array TypeId}(af:o.op=.call { callee:=.value (.func k),args:=args,argTypes:=dq }){c:cK}(ao:cS C.P C.aN k c){cd:hV}
  (h:xt C.aN s o args.toList c=some cd):qd C o s cd:=
 TH bf af (λ_ _ _ _ _=>⟨k,ao,rfl⟩) h
theorem cS.y5{P:Program}{aP:dG}{k:FuncId}{c:cK}(h:cS P aP k c){sh:c.cp.ai->A c.bL.ai}(aD:∀ D,A.le (c.sh D) (sh D)):cS P aP k { c with sh:=sh } where
 enter:=h.enter
 iV:=λC a w κ F D ax aM cD et eb k8 M qZ=>by
  obtain⟨aO,aR⟩:=aD D qZ;exact (h.iV C a w κ F D ax aM cD et eb k8 M aO).mono λe w' ⟨v,bm,aC,κ',F',E,U,ah⟩=>⟨v,bm,aC,κ',F',E,aR bm U,ah⟩
theorem agj{Ψ:Nat->Option e5}(bf:∀ i,o.dst=some i->i<C.nt){t:Nat}{args:Array Operand}{dq:Array TypeId}(af:o.op=.call { callee:=.value (.tmp t),args:=args,argTypes:=dq })
  (cZ:∀ c sh ids,Ψ S6=some (.Gl c sh ids)->∀ k∈ids,cS C.P C.aN k { c with sh:=sh k }) {cd:hV} (h:Gq C.aN Ψ s o t args.toList=some cd):qd C o s cd:=by
 unfold Gq at h;split at h
 ·rename_i n aw;split at h
  ·rename_i c sh ids hc;refine TH bf af (λD a w M aD=>?_) h;obtain⟨⟨k,al,rfl⟩,_⟩:=aD;refine⟨k,(cZ c sh ids hc k al).y5 (sh:=(S7 c sh ids (some k)).sh) λD h=>⟨h.2,λy aS=>aS⟩,?_⟩;obtain⟨κ,F,M⟩:=M;have ae:bB C.P s.aa κ F w (s.ay t) (a.tmps.getD t undef):=M.bT t;rw[aw]at ae;obtain⟨_,ae⟩:=(dV rfl).1 ae;exact (List.cons.inj ae).1
  ·cases h
 ·cases h
end
end Go.Fer
namespace Go.Fer
open Go.RowKit
section
variable {C:b9} {o:Oper} {s:aA}
theorem bl.round{s:aA}{a:Act}{w w':World}{κ:Nat->bD}{F' ek Y GW:Nat->Prop}{l:Nat}{aK:ad}{L:List aK.ai->Prop}{I}{ef:List aK.ai}{Mk:Bool}(M:bl C s a w κ F')(oG:C.cd=⟨l,aK,L,I⟩)(cL:C.cd.hB C.P)
    (aS:∀ r,Y r->r<w.heap.size/\¬F' r/\¬C.K0 r) (Ml:∀ b,(s.aa b).body.b1 (κ b)=true->¬Y (κ b).aa)
    (g1:∀ r,F' r->ek r) (ee:∀ r,ek r->F' r\/Y r\/w.heap.size<=r) (g3:∀ r,ek r->r<w'.heap.size) (g4:∀ r,r<w.heap.size->¬Y r->w'.heap[r]?=w.heap[r]?)
    (g5:∀ r,GW r->(Y r\/w.heap.size<=r)/\r<w'.heap.size/\¬ek r) (g6:w.heap.size<=w'.heap.size) (g7:dd w w') (g8:I ef Mk ek GW w') :
    bl C ⟨λi=>if i=b4 then .aV l aK L ef Mk else s.ay i,s.aa⟩ a w' κ ek:=by
  have qe:c7 F' w w':=⟨g6,λr h=>g4 r (M.dc r h) λCu=>(aS r Cu).2.1 h⟩
  have lg:∀ r,w.heap.size<=r->¬C.K0 r:=λr h al=>by have:=M.hs r al;have:=M.size;omega
  refine { dH := M.dH, dfr := M.dfr, bT := λi => ?_, bF := λb => cE.k9 (M.bF b) (fq.refl _ _) g1 qe rfl rfl λaf => g4 _ (M.own b af).1 (Ml b af), own := λb W => ?_, inj := M.inj, dc := g3, hh := λr h => ?_,hQ:=λr h=>g1 r (M.hQ r h),hs:=M.hs,eH:=λr h=>?_,size:=Nat.le_trans M.size g6,eu:=M.eu.trans g7,gl:=M.gl,km:=M.km,jE:=M.jE,j2:=M.j2,kn:=M.kn,eM:=λdJ ky e6 iZ im e=>?_,jF:=M.jF,iB:=M.iB.mono g1 qe }
  · show bB C.P s.aa κ ek w' (if i=b4 then .aV l aK L ef Mk else s.ay i) _
    split
    · trivial
    · exact bB.later (fq.refl _ _) g1 qe (M.bT i)
  · have h:=M.own b W
    grind
  · rcases ee r h with h | h | h
    · exact M.hh r h
    · exact .inr (aS r h).2.2
    · exact .inr (lg r h)
  · exact (g4 r (Nat.lt_of_lt_of_le (M.hs r h) M.size) λk=>(aS r k).2.2 h).trans (M.eH r h)
  · simp only[if_true]at e
    cases e
    refine⟨⟨I,oG⟩,cL,GW,λr h=>⟨(g5 r h).2.1,(g5 r h).2.2,?_⟩,λb W h=>?_,?_⟩
    · grind
    · rcases (g5 _ h).1 with h | h
      · grind
      · exact absurd (M.own b W).1 (Nat.not_lt.2 h)
    · rw[oG];exact lJ.y0.2 g8
theorem agk(bf:∀ i,o.dst=some i->i<C.nt){t:Nat}{args:Array Operand}{dq:Array TypeId}(af:o.op=.call { callee:=.value (.tmp t),args:=args,argTypes:=dq }){cd:hV}
  (h:Gr C.aN s o t args.toList=some cd):qd C o s cd:=by
 obtain⟨args⟩:=args;unfold Gr at h;split at h
 ·rename_i dJ l aK L n st Mm tK;split at h
  ·rename_i x bU ag;cases h;refine⟨λa w Q K M bc hm=>?_,λgs oF=>(by grind),λW=>C0 W λx ag=>by rw[af];simp[Op.operands,Call.operands];simp_all⟩;obtain⟨κ,F,M⟩:=M;rw[A.kK]at hm;obtain⟨⟨rfl,rfl,GX⟩,hm⟩:=hm;obtain⟨F',f1,bb,f2⟩:=bl.lb (p8 _ ag) M;have dY:fp C.P aK F' w (args.map a.eval) x:=by
    refine u' M.bF f1 aK ag f2 (by simp) λi G dO=>?_;simp only[List.getElem_map];have dv:i<args.length:=by grind
    have E:=r1 bc i (by grind);have ax:(args.map (a7 C.aN s.ay)).getD i .undef=a7 C.aN s.ay args[i]:=by grind
    rw[show (List.map (a7 C.aN s.ay) (⟨args⟩:Array Operand).toList)=args.map (a7 C.aN s.ay) from rfl,ax]at E;exact o' (j6 M args[i]) E
   have ae:a.eval (.tmp t)=.func (.yield dJ) #[] #[]:=by
    have:=j6 M (.tmp t);have e:a7 C.aN s.ay (.tmp t)=.hg dJ:=Mm;rw[e]at this;exact this
   obtain⟨⟨I,oG⟩,cL,Y,aS,Ml,eB⟩:=bb.eM dJ aK L n false tK;have agl:lJ.hB C.P ⟨dJ,aK,L,I⟩:=oG ▸ cL;rw[oG]at eB;have eB:=lJ.y0.1 eB;obtain⟨fn,tmps,assign,body,E,U⟩:=agl.yield eB bb.dc (λr h=>⟨(aS r h).1,(aS r h).2.1⟩) GX dY;have c8:(execOp a.eval o).run C.P w=.ok (.round dJ fn tmps assign body) w:=by
    simp only[execOp,af,Sem.run_bind,resolve,ae,Deferred.ofValue,Sem.run_pure,Result.andThen_ok,invoke];grind
   refine⟨λ_ _=>trivial,?_⟩;rw[zd (by grind),c8,Oper.uponIn_round];refine⟨λaD=>(by cases aD),?_⟩;have ah:RoundIn (dS C.r) 0 C.P dJ fn tmps assign body w _:=U;refine ah.mono λe w' ⟨b,ek,GW,he,g1,ee,g3,g4,g5,g6,g7,g8⟩=>?_;subst he;refine hm.2 b trivial _ _ ⟨κ,ek,bl.set ?_ bf (fg.2 rfl)⟩;exact bb.round oG cL aS Ml g1 ee g3 g4 g5 g6 g7 g8
  grind
 grind
end
end Go.Fer
namespace Go.Fer
open Go.RowKit
section
variable {C:b9} {T:Nat->ad} {be:Nat->Option aL} {s:aA} {res:eC}
theorem TI{ms:Array MapEntry}{j:Nat}(aE:j<ms.size)(hu:∀ i (h:i<ms.size),ms[i].born=ms[j].born->i=j):ms.findIdx? (λe=>(e.born:Int) == (ms[j].born:Int))=some j:=by
 rw[Array.findIdx?_eq_some_iff_getElem];grind
theorem agm(ms:Array MapEntry)(e:MapEntry)(f:MapEntry->MapEntry):(ms.push e).modify ms.size f=ms.push (f e):=by
 grind
theorem agn(ms:Array MapEntry)(j:Nat)(f g:MapEntry->MapEntry):(ms.modify j f).modify j g=ms.modify j λe=>g (f e):=by
 grind
theorem zY{a:Act}{d:Nat}{v:Value}{x:Operand}(h:x≠.tmp d):(a.put (some d) v).eval x=a.eval x:=Act.eval_put λuX e=>by grind
theorem Da{a:Act}{d:Nat}{v:Value}(h:d<a.tmps.size):(a.put (some d) v).eval (.tmp d)=v:=by
 simp[Act.put,Act.eval,Array.getD_eq_getD_getElem?,h]
theorem ago(aU:dT C.P T){hR gA kS kd:Oper}{d1 d2:Nat}{ty:TypeId}{m x y:Operand}(E:hR.op=.mapEntry ty m x)(t1:hR.dst=some d1)(U:gA.op=.extract (.tmp d1) 1)(t2:gA.dst=some d2)
  (ah:kS.op=.entryStore ty m (.tmp d2) y) (t3:kS.dst=none) (h':kd.op=.mapUpdate ty m x y) (Mn:kd.dst=none) (ke:m≠.tmp d1) (pt:m≠.tmp d2) (xG:y≠.tmp d1) (sn:y≠.tmp d2) (p_:d1<C.nt) (hX:d2<C.nt)
  (h:(bw C.aN T be (a7 C.aN s.ay) kd).run s.aa=some res) {a:Act} {w:World} {κ:Nat->bD} {F:Nat->Prop} {Q:Exit->Act->World->Prop} {K:Act->World->Prop} (M:bl C s a w κ F) (bc:res.ca) (hc:res.c)
  (iL:∀ a' w',cu C (((s.h7 none res).set (some d1) .undef).set (some d2) .undef) a' w'->K a' w') :
  hR.wpIn (dS C.r) 0 C.P a w (λb8 cn=>gA.wpIn (dS C.r) 0 C.P b8 cn (λa2 c_=>kS.wpIn (dS C.r) 0 C.P a2 c_ K Q) Q) Q:=by
 have kQ:=KY aU Mn (.inl h') h a w κ F Q M bc hc;rw[Mn]at kQ;have ax:∀ c,hR.op≠.defer c:=by grind
 have aM:∀ c,gA.op≠.defer c:=by grind
 have cD:∀ c,kS.op≠.defer c:=by grind
 have agp:∀ c,kd.op≠.defer c:=by grind
 simp only[bw,h',qQ]at h;split at h
 ·rename_i k v aH;obtain⟨lh,zu,G,mR,hj⟩:=(aU.cb aH (by simp)).mp;obtain⟨inf,ml,i1,i2,i3,i4,i5,i6⟩:=kq hj.kp;split at h
  ·rename_i xH;split at h
   ·rename_i b g tF;simp only[aq.e4,Option.bind_eq_some_iff,aq.run_bind,aq.e3,aq.bN]at h;obtain⟨⟨dM,ou⟩,ag,⟨mS,ov⟩,aS,h⟩:=h;split at h
    ·rename_i aB;obtain⟨aB,p6⟩:=aB;have p6:b ∉ ou++ov:=by
      grind
     split at h
     ·rename_i k' h4 es W;simp only[Option.map_eq_some_iff]at h;obtain⟨Sw,pd,rfl⟩:=h;obtain⟨e,rfl⟩:=kM pd;cases e;obtain⟨F',f1,bb,f2⟩:=bl.lb ((mN ag).append (mN aS)) M;have hm:bB C.P s.aa κ F w (use (a7 C.aN s.ay m)).2 (a.eval m):=cO M m rfl bc.1;rw[tF]at hm;have kR:=hm.2 aB.symm (by rw[W];rfl);have tG:=mc M.bF f1 ag f2.left (cO M x rfl bc.2.1);have pf:(s.cz (ou++ov)).aa b=s.aa b:=by simp only[aA.cz];grind
      have aT:=bb.bF b;unfold cE at aT;rw[pf,W]at aT;obtain⟨ms,clk,hw,tH⟩:=aT;have fk:k.kO=true/\k.j5<=100:=by simpa [tr]using xH
      have ed:=(CC (em:=false) k 10000 fk.1 (by omega)).1 mR tG;have lj:=tH.es;obtain⟨f,ds,dI⟩:=xc (β:=v.ai) (xs:=es) (es:=ms.toList) xH mR tG lj.1 (λj e p E U=>(lj.2 j e p E U).1);have eW:(getObj (κ b).aa).run C.P w=.ok (.map ms clk) w:=by simp[getObj,Sem.run,hw]
      obtain⟨hs,KZ,FZ,Sx⟩:=tH;have tU:d1<a.tmps.size:=by have:=M.dH;omega
      have cc:(κ b).aa<w.heap.size:=(Array.getElem?_eq_some_iff.1 hw).1;have chain:∀ (cn c_:World) (u:Value) (n:Int),(execOp a.eval hR).run C.P w=.ok (.value (.tuple #[u,goInt n])) cn->(Instr.entryStore ty (.map (some (κ b).aa)) (goInt n) (a.eval y)).run C.P cn=.ok () c_->
        (execOp a.eval kd).run C.P w=.ok .skip c_->
        hR.wpIn (dS C.r) 0 C.P a w (λb8 cn=>gA.wpIn (dS C.r) 0 C.P b8 cn (λa2 c_=>kS.wpIn (dS C.r) 0 C.P a2 c_ K Q) Q) Q:=by
       intro cn c_ u n b_ cy agq;have j_:=kQ.2;rw[zd agp,agq,Oper.uponIn_skip,Mn]at j_;refine ht ax b_ ?_;rw[t1];have agr:(a.put (some d1) (.tuple #[u,goInt n])).eval (.tmp d1)=.tuple #[u,goInt n]:=Da tU;refine ht (v:=goInt n) (w':=cn) aM (by simp[execOp,U,agr,Instr.extract]) ?_;rw[t2];have ags:d2<(a.put (some d1) (.tuple #[u,goInt n])).tmps.size:=by have:=M.dH;simp[Act.put];omega
       have agt:((a.put (some d1) (.tuple #[u,goInt n])).put (some d2) (goInt n)).eval (.tmp d2)=goInt n:=Da ags;have Mo:((a.put (some d1) (.tuple #[u,goInt n])).put (some d2) (goInt n)).eval m=.map (some (κ b).aa):=by rw[zY pt,zY ke,kR]
       have agu:((a.put (some d1) (.tuple #[u,goInt n])).put (some d2) (goInt n)).eval y=a.eval y:=by rw[zY sn,zY xG]
       refine FK cD (w':=c_) (by simp only[execOp,ah,agt,Mo,agu,Sem.run_bind,cy,Result.andThen_ok,Sem.run_pure]) ?_;rw[t3];refine iL _ _ ?_;obtain⟨κ',F',j_⟩:=j_;exact⟨κ',F',bl.set (bl.set (d:=some d1) (av:=.undef) j_ (λi e=>by grind) trivial) (λi e=>by grind) trivial⟩
      rcases dI with⟨rfl,eP⟩ | ⟨j,e,p,g1,ee,g3,g4,rfl⟩
      ·refine chain { w with heap:=w.heap.setIfInBounds (κ b).aa (.map (ms.push { key:=a.eval x,val:=ml,born:=clk }) (clk+1)) } { w with heap:=w.heap.setIfInBounds (κ b).aa (.map (ms.push { key:=a.eval x,val:=a.eval y,born:=clk }) (clk+1)) } ml clk ?_ ?_ ?_
       ·simp only[execOp,E,kR,Instr.mapEntry,Sem.run_bind,dD G,Result.andThen_ok,eW,ed,ds,qR i1 i4,r_ hw,Sem.run_pure]
       ·have Mp:(getObj (κ b).aa).run C.P { w with heap:=w.heap.setIfInBounds (κ b).aa (.map (ms.push { key:=a.eval x,val:=ml,born:=clk }) (clk+1)) }=.ok (.map (ms.push { key:=a.eval x,val:=ml,born:=clk }) (clk+1)) { w with heap:=w.heap.setIfInBounds (κ b).aa (.map (ms.push { key:=a.eval x,val:=ml,born:=clk }) (clk+1)) }:=by simp[getObj,Sem.run,cc]
        have Mq:(ms.push { key:=a.eval x,val:=ml,born:=clk }).findIdx? (λe=>(e.born:Int) == (clk:Int))=some ms.size:=by
         have:=TI (ms:=ms.push { key:=a.eval x,val:=ml,born:=clk }) (j:=ms.size) (by simp) λi G he=>by
          grind
         grind
        simp only[Instr.entryStore,Sem.run_bind,Mp,Result.andThen_ok,goInt,asInt,asIntOf,Sem.run_pure,Mq];rw[r_ (es:=ms.push { key:=a.eval x,val:=ml,born:=clk }) (clk:=clk+1) (by grind),agm];simp
       ·simp only[execOp,h',kR,Instr.mapUpdate,Sem.run_bind,dD G,Result.andThen_ok,eW,ed,ds,r_ hw,Sem.run_pure]
      ·have aE:j<es.length:=(List.getElem?_eq_some_iff.1 ee).1;have xd:j<ms.size:=by omega
       have K2:ms[j]=e:=by
        grind
       obtain⟨jq,cn,b_,cy,eg⟩:=KX C.P w e.key (a.eval x);have lR:cn.heap[(κ b).aa]?=some (.map ms clk):=by rcases eg with rfl | rfl<;>exact hw
       have TJ:(κ b).aa<cn.heap.size:=(Array.getElem?_eq_some_iff.1 lR).1;have nQ:((ms[j]?).map (·.key)).getD (a.eval x)=e.key:=by
        grind
       have Mr:((ms[j]?).map (λx=>(x.born:Int))).getD 0=(ms[j].born:Int):=by grind
       rw[Nat.zero_add]at ds;refine chain { cn with heap:=cn.heap.setIfInBounds (κ b).aa (.map (ms.modify j λe=>{ e with key:=jq }) clk) } { cn with heap:=cn.heap.setIfInBounds (κ b).aa (.map (ms.modify j λe=>{ e with key:=jq,val:=a.eval y }) clk) } e.val ms[j].born ?_ ?_ ?_
       ·simp only[execOp,E,kR,Instr.mapEntry,Sem.run_bind,dD G,Result.andThen_ok,eW,ed,ds];rw[nQ,b_];simp only[Result.andThen_ok,r_ lR,Sem.run_pure,Mr]
       ·have Mp:(getObj (κ b).aa).run C.P { cn with heap:=cn.heap.setIfInBounds (κ b).aa (.map (ms.modify j λe=>{ e with key:=jq }) clk) }=.ok (.map (ms.modify j λe=>{ e with key:=jq }) clk) { cn with heap:=cn.heap.setIfInBounds (κ b).aa (.map (ms.modify j λe=>{ e with key:=jq }) clk) }:=by simp[getObj,Sem.run,TJ]
        have mm:∀ i (h:i<(ms.modify j λe=>{ e with key:=jq }).size),((ms.modify j λe=>{ e with key:=jq })[i]).born=(ms[i]'(by grind)).born:=by
         grind
        have Mq:(ms.modify j λe=>{ e with key:=jq }).findIdx? (λe=>(e.born:Int) == (ms[j].born:Int))=some j:=by
         have:=TI (ms:=ms.modify j λe=>{ e with key:=jq }) (j:=j) (by grind) λi G he=>by
          grind
         grind
        simp only[Instr.entryStore,Sem.run_bind,Mp,Result.andThen_ok,goInt,asInt,asIntOf,Sem.run_pure,Mq];rw[r_ (es:=ms.modify j λe=>{ e with key:=jq }) (clk:=clk) (by grind),agn];simp
       ·simp only[execOp,h',kR,Instr.mapUpdate,Sem.run_bind,dD G,Result.andThen_ok,eW,ed,ds];rw[nQ,b_];simp only[Result.andThen_ok,r_ lR,Sem.run_pure]
     grind
    grind
   ·cases h
  ·cases h
 ·cases h
end
end Go.Fer
namespace Go.Fer
open Go.RowKit
structure Db(P:Program)(k:FuncId)(c:zJ):Prop where
 enter:∀ args w,(callFunc k args).run P w=.ok (.enter k args) w
 iV:∀ (l:Nat) (I:List c.aK.ai->Bool->(Nat->Prop)->(Nat->Prop)->World->Prop) (F Y:Nat->Prop) (w:World) (args:List Value) (x:c.ts.ai),fp P c.ts F w args x->c.pre x->lJ.hB P ⟨l,c.aK,λT=>T=c.seq x,I⟩->
  (∀ r,F r->r<w.heap.size)->nH P F w->(∀ r,Y r->r<w.heap.size/\¬F r)->I [] false F Y w->Calls P k (args++[Value.func (.yield l) #[] #[]]).toArray w λe w'=>
   ∃ v pre st F' gy,e=.returned v/\(st=false->pre=c.seq x)/\I pre st F' gy w'/\(∀ r,F r->F' r)/\(∀ r,F' r->F r\/Y r\/w.heap.size<=r)/\(∀ r,F' r->r<w'.heap.size)/\
    (∀ r,r<w.heap.size->¬Y r->w'.heap[r]?=w.heap[r]?)/\(∀ r,gy r->(Y r\/w.heap.size<=r)/\r<w'.heap.size/\¬F' r)/\w.heap.size<=w'.heap.size/\dd w w'
def e5.hB(P:Program)(aP:dG)(k:FuncId):e5->Prop
 | .dx c=>h3 P k c.ts c.aV c.sh/\(c.dR=true->∀ x,(c.sh x).CQ)
 | .fb c=>cS P aP k c
 | .ct c=>Db P k c
 | .LG c=>h3 P k c.ts c.aV c.sh/\Rv P k c.ts c.aV c.sh
 | .Gl c sh ids=>∀ k∈ids,cS P aP k { c with sh:=sh k }
 | .kA c=>nK c.aV=true/\Cz P k c
def lV(P:Program)(aP:dG)(Ψ:Nat->Option e5):Prop:=∀ k c,Ψ k=some c->c.hB P aP k
section
variable {C:b9} {T:Nat->ad} {be:Nat->Option aL} {Ψ:Nat->Option e5} {s:aA} {o:Oper} {Q:Exit->Act->World->Prop} {ops:Array Oper}
theorem agv(cA:jn C.P be)(cZ:lV C.P C.aN Ψ){k:Nat}{c:hH}(h:LH be Ψ k=some c):h3 C.P k c.ts c.aV c.sh:=by
 unfold LH at h;split at h
 ·rename_i c' jK;cases h;have:e5.hB C.P C.aN k (.dx c):=cZ k _ jK;exact this.1
 ·cases h
 ·obtain⟨f,ao,h⟩:=Option.bind_eq_some_iff.1 h;split at h
  ·cases h
  ·rename_i he;cases h;exact (cA k f ao).1 (by simpa using he)
theorem agw{P:Program}{w:World}{ty j:TypeId}(aE:P.underlying ty=some (.slice j))(q:Option Addr)(n cap d:Nat):(Op.equalIn (d+1) ty (.slice q n cap) (.slice none 0 0)).run P w=.ok q.isNone w:=by
 cases q<;>simp[Op.equalIn,dD aE]
theorem agx{P:Program}{w:World}(op:BinOp)(t:TypeId)(x y:Operand)(q q':Option Addr)(n iZ cap cap':Nat):(eqGuard op t x y (.slice q n cap) (.slice q' iZ cap')).run P w=.ok () w:=by
 cases op<;>simp[eqGuard]
theorem TK{P:Program}{w:World}{ty j:TypeId}{x y:Operand}(aE:P.underlying ty=some (.slice j))(q:Option Addr)(n cap:Nat) :
  (do eqGuard .eql ty x y (.slice q n cap) (.slice none 0 0);binOp .eql ty (.slice q n cap) (.slice none 0 0):Sem Value).run P w=.ok (.bool q.isNone) w/\(do eqGuard .neq ty x y (.slice q n cap) (.slice none 0 0);binOp .neq ty (.slice q n cap) (.slice none 0 0):Sem Value).run P w=.ok (.bool (!q.isNone)) w:=by
 have h:(Op.equalIn 10000 ty (.slice q n cap) (.slice none 0 0)).run P w=.ok q.isNone w:=agw (w:=w) aE q n cap 9999;constructor<;>simp[agx,binOp,Op.equal,Op.maxDepth,h]
theorem agy(aU:dT C.P T)(bf:∀ i,o.dst=some i->i<C.nt){op:BinOp}{ty mL:TypeId}{x y:Operand}(af:o.op=.binOp op ty x y mL){cd:hV}(h:CW C.aN T s o op ty x y=some cd):qd C o s cd:=by
 have zg:∀ c,o.op≠.defer c:=by grind
 unfold CW at h;split at h
 ·rename_i e aH agz;have dr:=aU.cb aH (by simp);obtain⟨j,aE,_⟩:=dr.sl;split at h
  ·rename_i xs l hT;have key:∀ (a:Act) (w:World) (κ:Nat->bD) (F:Nat->Prop),bl C s a w κ F->(use (a7 C.aN s.ay x)).1->∃ b:Bool,(b=true->xs=[])/\(op=.eql->(execOp a.eval o).run C.P w=.ok (.value (.bool b)) w)/\(op=.neq->(execOp a.eval o).run C.P w=.ok (.value (.bool (!b))) w):=by
    intro a w κ F M bc;have ag:=Cg M hT (cO M x rfl bc);obtain⟨_,q,cap,ax,m1,m2,m3,_⟩:=(dV rfl).1 ag;have ax:=(List.cons.inj ax).1;have aS:a.eval y=.slice none 0 0:=by
     have:=j6 M y;rw[agz]at this;exact this
    refine⟨q.isNone,λbt=>?_,λkQ=>?_,λkQ=>?_⟩
    ·simp_all
    ·subst kQ;have M:=(TK (w:=w) (x:=x) (y:=y) aE q xs.length cap).1;rw[<-ax,<-aS]at M;simp only[execOp,af,Sem.run_bind]at M ⊢;simp_all
    ·subst kQ;have M:=(TK (w:=w) (x:=x) (y:=y) aE q xs.length cap).2;rw[<-ax,<-aS]at M;simp only[execOp,af,Sem.run_bind]at M ⊢;simp_all
   split at h
   ·cases h;refine⟨λa w Q K M bc hm=>?_,λgs oF=>(by grind),λW=>W x (by rw[af];simp[Op.operands])⟩;obtain⟨κ,F,M⟩:=M;obtain⟨b,dL,eA,_⟩:=key a w κ F M bc;exact ht zg (eA rfl) (hm.2 b dL _ _ ⟨κ,F,bl.set M bf (fg.2 rfl)⟩)
   ·cases h;refine⟨λa w Q K M bc hm=>?_,λgs oF=>(by grind),λW=>W x (by rw[af];simp[Op.operands])⟩;obtain⟨κ,F,M⟩:=M;obtain⟨b,dL,_,eA⟩:=key a w κ F M bc;exact ht zg (eA rfl) (hm.2 b dL _ _ ⟨κ,F,bl.set M bf (fg.2 rfl)⟩)
   grind
  grind
 grind
theorem Ms(aU:dT C.P T)(cA:jn C.P be)(cZ:lV C.P C.aN Ψ)(bf:∀ i,o.dst=some i->i<C.nt){cd:hV}(h:q6 C.aN T be Ψ s o=some cd):qd C o s cd:=by
 unfold q6 at h;split at h
 ·rename_i c af;obtain⟨callee,args,dq⟩:=c;split at h
  ·rename_i f ao;simp only at ao;subst ao;split at h
   ·split at h
    ·rename_i c' jK;exact agi bf af (cZ _ _ jK) h
    ·rename_i c' jK;have ah:e5.hB C.P C.aN _ (.LG c'):=cZ _ _ jK;exact afV bf af ah.1 ah.2 h
    ·split at h
     ·rename_i dx Mt;exact afU bf af (agv cA cZ Mt) h
     grind
   ·split at h
    ·rename_i r M;cases h;exact afW bf af M
    ·split at h
     ·rename_i r M;cases h;exact agj bf af (λc sh ids hc=>cZ _ _ hc) M
     ·exact agk bf af h
   grind
  grind
 ·rename_i ty x af;exact afX aU bf af h
 ·rename_i x str af;exact af1 bf af h
 ·rename_i x af;exact afY bf af h
 ·rename_i op ty x y mL af;exact agy aU bf af h
 grind
theorem TL(want b:Bool):((some b == some want:Bool))=F9 want b:=by cases want<;>cases b<;>rfl
theorem TM{a:Act}{j d:Nat}{re:Oper}(E:ops[j]?=some re)(U:re.dst=some d){b:Bool}(h:a.tmps.getD d Go.undef=.bool b):yielded ops a.tmps j=some b:=by
 have:a.tmps[d]?=some (.bool b):=by
  rw[Array.getD_eq_getD_getElem?]at h;cases he:a.tmps[d]? with
  | none=>rw[he]at h;cases h
  | some v=>grind
 simp[yielded,E,U,this]
theorem agA{a:Act}{j d:Nat}{re:Oper}(E:ops[j]?=some re)(U:re.dst=some d)(h:a.tmps.getD d Go.undef=Go.undef):yielded ops a.tmps j=none:=by
 unfold yielded;rw[E];simp only[Option.bind_some,U];rw[Array.getD_eq_getD_getElem?]at h;cases he:a.tmps[d]? with
 | none=>rfl
 | some v=>rw[he]at h;cases h;rfl
theorem Mu{a:Act}{w:World}{κ:Nat->bD}{F:Nat->Prop}(M:bl C s a w κ F){g:Option Bool}(h:kv s.ay ops o.guard=some g) :
  Region.wanted o (yielded ops a.tmps)=g.getD true:=by
 unfold Region.wanted;cases aB:o.guard with
 | none=>rw[aB]at h;cases h;rfl
 | some p=>
  obtain⟨j,want⟩:=p;rw[aB]at h;simp only[kv]at h ⊢;split at h
  ·rename_i re aE;split at h
   ·rename_i d ar;have aD:=M.bT d;split at h
    ·rename_i b W;cases h;rw[W]at aD;rw[TM aE ar (fg.1 aD),TL];rfl
    ·rename_i g' b W;cases h;rw[W]at aD;obtain⟨E,U⟩:=aD;cases g' with
     | true=>
      rw[TM aE ar (fg.1 (E rfl)),TL];simp
     | false=>
      rw[agA aE ar (U rfl)];rfl
    grind
   grind
  grind
theorem agB{ca c:Prop}{e_ sf:aG}{hE xw:List (Nat×bJ)}(aB:CX o e_ hE=some (xw,sf))(h:(bw C.aN T be (a7 C.aN s.ay) o).run s.aa=some ⟨ca,c,e_,hE⟩) :
    (∀ a w,cu C (s.h7 o.dst ⟨ca,c,e_,hE⟩) a w->cu C ((s.ga xw).set o.dst sf) a w)/\(∀ a w κ F,bl C s a w κ F->∃ κ' F',bl C (s.ga xw) a w κ' F'):=by
  unfold CX at aB;split at aB
  · cases aB
    exact⟨λa w h=>h,λa w κ F h=>⟨κ,F,h⟩⟩
  · rename_i p dJ
    split at aB
    · rename_i Mv first c6 af
      cases aB
      refine⟨λa w h=>h,λa w κ F M=>?_⟩
      simp only[bw,af]at h
      split at h
      · split at h
        · split at h
          · simp only[aq.e4,Option.bind_eq_some_iff,aq.run_bind,aq.bN,Option.some.injEq]at h
            obtain⟨⟨y,l⟩,aS,he⟩:=h
            obtain⟨F',_,bb,_⟩:=bl.lb (p8 _ aS) M
            have he:(jH l).run s.aa=p::dJ:=by grind
            rw[<-he,tv]
            grind
          · split at h
            · simp only[aq.e4,Option.bind_eq_some_iff,aq.run_bind,aq.bN,Option.some.injEq]at h
              obtain⟨⟨y,l⟩,aS,he⟩:=h
              obtain⟨F',_,bb,_⟩:=bl.lb (p8 _ aS) M
              have he:(jH l).run s.aa=p::dJ:=by grind
              rw[<-he,tv]
              grind
            · simp only[bP,aq.bN,Option.some.injEq]at h
              cases h
        · split at h
          · simp only[bP,aq.bN,Option.some.injEq]at h
            cases h
          · cases h
      · cases h
    · rename_i ty n ps af
      split at aB
      · rename_i bd g' e xs bS
        split at aB
        · rename_i agC
          obtain⟨⟨rfl,rfl⟩,_⟩:=agC
          cases aB
          obtain⟨b,⟨agD,iK⟩⟩:=p
          simp only at bS
          subst bS
          have lg:o.dst=some b/\agD=(s.aa b).gen+1:=by
            simp only[bw,af]at h;split at h
            · simp only[aq.e4,Option.bind_eq_some_iff,aq.run_bind]at h
              obtain⟨⟨ys,bU⟩,_,h⟩:=h
              obtain⟨b0,zz,al⟩:=qT h
              grind
            · cases h
          obtain⟨bf,rfl⟩:=lg
          refine⟨λa w j_=>?_,λa w κ F M=>?_⟩
          · obtain⟨κ,F,M⟩:=j_
            rw[bf]at M ⊢
            simp only[aA.h7,aA.ga]at M
            have ag:(dA (.slice e) (.own b ((s.aa b).gen+1))).run ((s.cx b ⟨(s.aa b).gen+1,.bg e xs⟩).set (some b) (.own b ((s.aa b).gen+1))).aa=some (xs,[b]):=by
              simp[dA,ko,dX,aA.set,aA.cx,eU,ad.eG]
            obtain⟨zZ,f1,gK,f2⟩:=bl.lb (mN ag) M
            have aD:=M.bT b
            have ae:=mc (v:=a.tmps.getD b undef) M.bF f1 ag f2 (by simpa [aA.set]using aD)
            have fm:∀ i,i≠b->((s.cx b ⟨(s.aa b).gen+1,.bg e xs⟩).set (some b) (.own b ((s.aa b).gen+1))).ay i=s.ay i:=λi G=>by simp[aA.set,aA.cx,G]
            have cN:bl C ⟨λi=>if i=b then .val (.slice e) xs else s.ay i,(((s.cx b ⟨(s.aa b).gen+1,.bg e xs⟩).set (some b) (.own b ((s.aa b).gen+1))).cz [b]).aa⟩ a w κ zZ:=
              { gK with
                dH:=gK.dH,dfr:=gK.dfr,bF:=gK.bF
                bT:=λi=>by
                  show bB _ _ _ _ _ (if i=b then .val (.slice e) xs else s.ay i) _;split
                  · rename_i G
                    subst G
                    exact ae
                  · rename_i G
                    rw[<-fm i G]
                    exact gK.bT i
                eM:=λl aK L n st a6=>by
                  have a6:(if b4=b then aG.val (.slice e) xs else s.ay b4)=.aV l aK L n st:=a6;split at a6
                  · cases a6
                  · rename_i G
                    exact gK.eM l aK L n st ((fm b4 G).trans a6) }
            refine⟨κ,zZ,cN.y5 ⟨λi=>.inl ?_,λi=>?_⟩⟩
            · rfl
            · by_cases G:i=b
              · subst G
                right
                simp[aA.set,aA.ga,aA.cx,aA.cz,fj]
              · left
                simp[aA.set,aA.ga,aA.cx,aA.cz,G]
          · have aw:=L4 M (b:=b) (e:=e)
            refine⟨_,F,aw.y5 ⟨λi=>.inl rfl,λi=>?_⟩⟩
            by_cases G:i=b
            · subst G
              right
              simp[aA.ga,aA.cx]
            · left
              simp[aA.ga,aA.cx,G]
        grind
      grind
    grind
theorem so{β:Type}{b:Bool}{p:Prop}{m:A β}{O:β->Prop}(W:b=true->p):A.cw (sd b p m) O<->p/\A.cw m O:=by
 cases b with
 | true=>exact⟨λh=>⟨W rfl,h⟩,λh=>h.2⟩
 | false=>exact A.kK
def qg(ops:Array Oper)(s:aA)(tg:po):Prop:=∀ p∈tg,∃ b a,s.ay p.1=.hC b a/\kv s.ay ops (some p.2)=some (some b)
theorem agE{j d:Nat}:se ops j d=true<->d∈F_ ops (some (j,true)):=by
 have key:∀ (x:Option Oper),(match x with | some o=>(match o.dst with | some e=>e == d | none=>false) | none=>false)=true<->d∈(match x with | some o=>o.dst.toList | none=>[]):=by
  grind
 exact key _
theorem qg.hl{s':aA}{tg:po}(h:qg ops s tg)(aD:∀ i,o.dst≠some i->s'.ay i=s.ay i)
  (ar:∀ d k,o.dst=some d->o.guard=some k->∃ b a,s'.ay d=.hC b a/\kv s.ay ops (some k)=some (some b)):qg ops s' (xu ops tg o):=by
 unfold xu;cases bf:o.dst with
 | none=>
  intro p an;obtain⟨b,a,E,U⟩:=h p an;refine⟨b,a,(aD _ (by grind)).trans E,?_⟩;rw[<-U];exact Lj λt _=>aD t (by grind)
 | some d=>
  have congr:∀ k:Nat×Bool,se ops k.1 d=false->kv s'.ay ops (some k)=kv s.ay ops (some k):=λk al=>Lj λt aH=>aD t (by
   rw[bf];intro e;cases e;have:se ops k.1 d=true:=agE.2 aH;grind)
  have u_:qg ops s' (tg.filter λp=>p.1 != d&&!se ops p.2.1 d):=by
   intro p an;simp only[List.mem_filter,Bool.and_eq_true,bne_iff_ne,ne_eq,Bool.not_eq_true']at an;obtain⟨b,a,E,U⟩:=h p an.1;grind
  simp only;split
  ·rename_i k al;split
   ·omega
   ·rename_i TN;intro p an;rcases List.mem_cons.1 an with rfl | an
    ·grind
    ·exact u_ p an
  omega
section
variable {aP:dG} {tg:po} {gk:Option (Nat×Bool)}
theorem Dc(aU:qg ops s tg)(aB:∀ k,gk=some k->kv s.ay ops (some k)=some (some true)){x:Operand}(h:xv (a7 aP s.ay) tg gk x=true):(use (a7 aP s.ay x)).1:=by
 unfold xv at h;rw[Bool.or_eq_true]at h;rcases h with h | h
 ·exact F7 (by grind)
 ·split at h
  ·rename_i t k;obtain⟨p,an,vc⟩:=List.any_eq_true.1 h;simp only[Bool.and_eq_true,beq_iff_eq]at vc;obtain⟨rfl,E,U⟩:=vc;have vc:p.2=k:=Prod.ext E U;obtain⟨b,a,aO,aR⟩:=aU p an;rw[vc,aB k rfl]at aR;cases aR;have e:a7 aP s.ay (.tmp p.1)=s.ay p.1:=rfl;rw[e,aO];rfl
  grind
theorem TO(aU:qg ops s tg)(aB:∀ k,gk=some k->kv s.ay ops (some k)=some (some true))(h:LK (a7 aP s.ay) tg gk o=true):q0 (a7 aP s.ay) o:=
 λx ag=>Dc aU aB (List.all_eq_true.1 h x ag)
theorem TP(aU:qg ops s tg){c x:Operand}{want:Bool}{p3:Prop}{i_:Bool}(hc:use (a7 aP s.ay c)=(p3,.val .bool i_))(Dd:p3)(h:Gw ops tg c x want=true)(hw:F9 want i_=true):(use (a7 aP s.ay x)).1:=by
 unfold Gw at h;split at h
 ·rename_i c t;obtain⟨p,an,vc⟩:=List.any_eq_true.1 h;simp only[Bool.and_eq_true,beq_iff_eq]at vc;obtain⟨rfl,E,rfl⟩:=vc;obtain⟨b,a,aO,aR⟩:=aU p an;have e:a7 aP s.ay (.tmp p.1)=s.ay p.1:=rfl;rw[e,aO];show b=true;unfold se at E;have xI:p.2=(p.2.1,p.2.2):=rfl;rw[xI]at aR;unfold kv at aR;have jK:use (s.ay c)=(p3,.val .bool i_):=hc;split at E
  ·rename_i re aE;split at E
   ·rename_i d ar;have agF:d=c:=by grind
    subst agF;simp only[aE,ar]at aR;split at aR
    ·rename_i b0 zz;rw[zz]at jK;simp only[use,Prod.mk.injEq,aG.val.injEq,heq_eq_eq,true_and]at jK;grind
    ·rename_i g0 b0 zz;rw[zz]at jK;simp only[use,Prod.mk.injEq,aG.val.injEq,heq_eq_eq,true_and]at jK;grind
    grind
   grind
  grind
 grind
theorem GY(aU:qg ops s tg)(aB:∀ k,gk=some k->kv s.ay ops (some k)=some (some true))(h:zK (a7 aP s.ay) ops tg gk o=true):(bw aP T be (a7 aP s.ay) o).cX (ll λr=>r.ca):=by
 cases af:o.op with
 | pick c a b=>
  simp only[zK,af,Bool.and_eq_true,Bool.or_eq_true]at h;obtain⟨E,U,ah⟩:=h;unfold bw;rw[af];simp only;split
  ·rename_i p3 i_ lS;have Dd:p3:=by have:=Dc aU aB E;grind
   split
   ·split
    ·rename_i za av a8;refine .bP ⟨Dd,λae=>?_⟩;have:(use (a7 aP s.ay a)).1:=by
      rcases U with U | U
      ·exact Dc aU aB U
      ·exact TP aU lS Dd U ae
     grind
    ·exact .bY
   ·split
    ·rename_i za av a8;refine .bP ⟨Dd,λae=>?_⟩;have:(use (a7 aP s.ay b)).1:=by
      rcases ah with ah | ah
      ·exact Dc aU aB ah
      ·exact TP aU lS Dd ah (by subst ae;rfl)
     grind
    ·exact .bY
   ·exact .bY
  ·exact .bY
 | _=>
  simp only[zK,af]at h;exact SM (TO aU aB h)
theorem agG(aU:qg ops s tg)(aB:∀ k,gk=some k->kv s.ay ops (some k)=some (some true)){ca c:Prop}{e_ sf:aG}{hE xw:List (Nat×bJ)}(hw:CX o e_ hE=some (xw,sf))(M:(bw aP T be (a7 aP s.ay) o).run s.aa=some ⟨ca,c,e_,hE⟩)
  (h:LL (a7 aP s.ay) tg gk o sf=true):(use sf).1:=by
 unfold LL at h;rw[Bool.or_eq_true]at h;rcases h with h | h
 ·exact F7 (by grind)
 ·split at h
  ·rename_i x af;simp only[bw,af,bP,aq.bN,Option.some.injEq,eC.mk.injEq]at M;obtain⟨_,_,rfl,rfl⟩:=M;simp only[CX,Option.some.injEq,Prod.mk.injEq]at hw;obtain⟨_,rfl⟩:=hw;exact Dc aU aB h
  grind
end
theorem aA.De{s:aA}{d:Option Nat}{v:aG}{i:Nat}(h:d≠some i):(s.set d v).ay i=s.ay i:=by
 cases d with
 | none=>rfl
 | some d=>simp only[aA.set];grind
theorem aA.Mw{s:aA}{d:Nat}{v:aG}:(s.set (some d) v).ay d=v:=by simp[aA.set]
theorem aA.zF:∀ (l:List (Nat×bJ)) (s:aA),(s.ga l).ay=s.ay
 | [],_=>rfl
 | p::l,s=>by
  have:=aA.zF l (s.cx p.1 p.2);exact this
theorem agH{aP:dG}{cd:hV}{gs:Bool->cd.ak->aA}(h:q6 aP T be Ψ s o=some cd)(aB:cd.CR=some gs):∀ g y,∃ v,(gs g y).ay=(s.set o.dst (.hC g v)).ay:=by
 have after:∀ (t:ad) (bU:List Nat) (v:aG),(q3 s o t bU v).ay=(s.set o.dst v).ay:=λt bU v=>by
  unfold q3;split
  ·rfl
  ·cases o.dst<;>rfl
 have dx:∀ {args:List Operand} {c:hH} {cd:hV} {gs:Bool->cd.ak->aA},CS aP s o args c=some cd->cd.CR=some gs->∀ g y,∃ v,(gs g y).ay=(s.set o.dst (.hC g v)).ay:=by
  intro args c cd gs h aB;unfold CS at h;split at h
  ·cases h;cases aB;exact λg y=>⟨_,after _ _ _⟩
  grind
 have Gk:∀ {t:Nat} {args:List Operand} {cd:hV} {gs:Bool->cd.ak->aA},CT aP s o t args=some cd->cd.CR=some gs->∀ g y,∃ v,(gs g y).ay=(s.set o.dst (.hC g v)).ay:=by
  intro t args cd gs h aB;unfold CT at h;split at h
  ·split at h
   ·cases h;cases aB;exact λg y=>⟨_,after _ _ _⟩
   grind
  grind
 unfold q6 at h;split at h
 ·split at h
  ·split at h
   ·split at h
    ·unfold xt at h;grind
    ·unfold Gn at h;grind
    ·split at h
     ·exact dx h aB
     grind
   ·split at h
    ·rename_i M;cases h;exact Gk M aB
    ·split at h
     ·rename_i M;cases h;unfold Gq xt at M;grind
     ·unfold Gr at h;grind
   grind
  grind
 ·unfold Gs at h;grind
 ·unfold Gu at h;grind
 ·unfold Gv at h;grind
 ·unfold CW at h;grind
 grind
theorem vk{x:Operand}{t:Nat}(h:h_ x=some t):x=.tmp t:=by
 cases x<;>simp[h_]at h;rw[h]
theorem TQ{o gA kS kd:Oper}{d1 d2:Nat}(h:zL o gA kS=some (kd,d1,d2)):∃ ty m x y,o.op=.mapEntry ty m x/\o.dst=some d1/\gA.op=.extract (.tmp d1) 1/\gA.dst=some d2/\kS.op=.entryStore ty m (.tmp d2) y/\kS.dst=none/\
  kd.op=.mapUpdate ty m x y/\kd.dst=none/\m≠.tmp d1/\m≠.tmp d2/\y≠.tmp d1/\y≠.tmp d2/\o.guard=none/\gA.guard=none/\kS.guard=none:=by
 unfold zL at h;split at h
 ·rename_i ty m x af;split at h
  ·rename_i e xJ;split at h
   ·rename_i mL dz a6 y axL;split at h
    ·rename_i adY KG Mx Df TR;split at h
     ·rename_i hc;simp only[Option.some.injEq,Prod.mk.injEq]at h;obtain⟨rfl,rfl,rfl⟩:=h;obtain⟨bE,c2,rfl,c4,c5,lM,ox,w7,c9,GR,agI,c12,agJ⟩:=hc;obtain⟨oH,tV⟩:=Option.isSome_iff_exists.1 c4;have fl:=vk tV;have hm:=vk (c5.symm.trans tV);have ax:=vk bE;have aM:=vk c2;subst ax;subst aM;refine⟨mL,m,x,y,af,Mx,xJ,Df,?_,TR,rfl,TR,λe=>ox (by grind),λe=>w7 (by grind),λe=>c9 (by grind),λe=>GR (by grind),Option.isNone_iff_eq_none.1 agI,Option.isNone_iff_eq_none.1 c12,Option.isNone_iff_eq_none.1 agJ⟩;grind
     grind
    grind
   grind
  grind
 grind
theorem My{β:Type}(aU:dT C.P T)(cA:jn C.P be)(cZ:lV C.P C.aN Ψ)(ar:∀ o∈ops.toList,lk o C.nt=true){k:aA->A β}{O:β->Prop}
  (al:∀ s' a' w',cu C s' a' w'->A.cw (k s') O->Q .normal a' w'):∀ (os:List Oper) (n:Nat) (tg:po) (s:aA) (a:Act) (w:World),ops.toList.drop n=os->qg ops s tg->cu C s a w->A.cw (mj C.aN T be Ψ ops os tg s k) O->
   wpOpsIn (dS C.r) 0 C.P ops Q (List.range' n os.length) a w:=by
 intro os;generalize hlen:os.length=len;induction len using Nat.strongRecOn generalizing os with
 | _ len TS=>
 subst hlen;cases os with
 | nil=>
  intro n tg s a w _ _ M hm;exact al s a w M hm
 | cons o os=>
  have aJ:=TS os.length (by simp) os rfl;intro n tg s a w aw xK M hm;have cc:n<ops.toList.length:=by
   grind
  rw[List.drop_eq_getElem_cons cc]at aw;injection aw with p_ hX
  have eW:ops[n]?=some o:=by
   grind
  have jO:o∈ops.toList:=p_ ▸ List.getElem_mem cc;have xL:=ar o jO;have bf:∀ i,o.dst=some i->i<C.nt:=λi G=>by
   have:=xL;simp only[lk,Bool.and_eq_true]at this;grind
  simp only[List.length_cons,List.range'_succ,wpOpsIn,eW];obtain⟨κ,F,eX⟩:=M;unfold mj at hm;split at hm
  ·rename_i kd d1 d2 sq;cases os with
   | nil=>exact hm.1.elim
   | cons gA os=>
    cases os with
    | nil=>exact hm.1.elim
    | cons kS os=>
     simp only at hm;split at hm
     ·rename_i res gp;obtain⟨ty,m,x,y,f1,f2,f3,f4,f5,f6,f7,f8,f9,f10,f11,f12,g1,ee,g3⟩:=TQ sq;have TT:=hX;have Co:n+1<ops.toList.length:=by
       grind
      rw[List.drop_eq_getElem_cons Co]at TT;injection TT with agK TU
      have agL:n+2<ops.toList.length:=by
       grind
      rw[List.drop_eq_getElem_cons agL]at TU;injection TU with axM agM
      have agN:ops[n+1]?=some gA:=by
       grind
      have axN:ops[n+2]?=some kS:=by
       grind
      have Df:d2<C.nt:=by
       have:=ar gA (agK ▸ List.getElem_mem Co);simp only[lk,Bool.and_eq_true]at this;grind
      rw[A.kK,A.kK]at hm;have cn:Region.wanted o (yielded ops a.tmps)=true:=by unfold Region.wanted;rw[g1]
      have c_:∀ a':Act,Region.wanted gA (yielded ops a'.tmps)=true:=λa'=>by unfold Region.wanted;rw[ee]
      have eY:∀ a':Act,Region.wanted kS (yielded ops a'.tmps)=true:=λa'=>by unfold Region.wanted;rw[g3]
      have:=ago (Q:=Q) (K:=λa' w'=>wpOpsIn (dS C.r) 0 C.P ops Q (List.range' (n+3) os.length) a' w') aU f1 f2 f3 f4 f5 f6 f7 f8 f9 f10 f11 f12 (bf d1 f2) Df gp eX hm.1 hm.2.1
       λa' w' bb=>TS os.length (by grind) os rfl (n+3) [] _ a' w' agM (λp an=>by cases an) bb hm.2.2
      rw[cn];simp only[if_true];refine Oper.wpIn_mono (λb8 axO E=>?_) this;simp only[List.length_cons,List.range'_succ,wpOpsIn,agN,c_,if_true];grind
     ·exact hm.1.elim
  split at hm
  ·exact hm.1.elim
  ·rename_i aB;have axP:o.guard=none:=by
    cases h:o.guard with
    | none=>rfl
    | some p=>
     rw[h]at aB;simp only[kv]at aB;grind
   rw[Mu eX aB];simp only[Option.getD_none,if_true];split at hm
   ·rename_i res gp;rw[so λW=>(GY xK (gk:=none) (λk al=>by cases al) W).run s.aa res gp,so λW=>(zC W).run s.aa res gp]at hm;refine Oper.wpIn_mono (λa' w' bb=>aJ (n+1) _ _ a' w' hX (xK.hl (λi G=>?_) λd k _ al=>by grind) bb hm.2.2) (xh aU cA xL gp a w κ F Q eX hm.1 hm.2.1);unfold aA.h7;rw[aA.De G,aA.zF]
   ·split at hm
    ·rename_i cd oG;obtain⟨jJ,p7,mh⟩:=Ms aU cA cZ bf oG;rw[so λW=>mh (Lc W),A.f']at hm;exact jJ a w Q _ ⟨κ,F,eX⟩ hm.1 (hm.2.mono λy aS a' w' bb=>aJ (n+1) _ _ a' w' hX (λp an=>by cases an) bb aS)
    ·exact hm.1.elim
  ·rename_i g aB;have GZ:∀ k,o.guard=some k->g=true->kv s.ay ops (some k)=some (some true):=λk al aH=>by grind
   rw[Mu eX aB];simp only[Option.getD_some];split at hm
   ·rename_i ca c agO agP gp;split at hm
    ·rename_i hE e_ xM;obtain⟨agQ,agR⟩:=agB xM gp;rw[so λW=>by
      simp only[Bool.and_eq_true]at W;exact λG0=>⟨(GY xK (λk al=>GZ k al G0) W.1).run s.aa _ gp,(zC W.2.1).run s.aa _ gp,agG xK (λk al=>GZ k al G0) xM gp W.2.2⟩]at hm
     have Dg:qg ops ((s.ga hE).set o.dst (.hC g (use e_).2)) (xu ops tg o):=xK.hl (λi G=>by rw[aA.De G,aA.zF]) λd k ar al=>⟨g,(use e_).2,by rw[ar,aA.Mw],by grind⟩
     cases g with
     | true=>
      simp only[if_true];obtain⟨E,U,ah⟩:=hm.1 rfl;refine Oper.wpIn_mono (λa' w' bb=>aJ (n+1) _ _ a' w' hX Dg (cu.L5 (av':=.hC true (use e_).2) (agQ a' w' bb) bf λκ F v ae=>⟨λ_=>o' ae ah,λh=>(by cases h)⟩) hm.2) (xh aU cA xL gp a w κ F Q eX E U)
     | false=>
      simp only[Bool.false_eq_true,if_false];refine⟨λ_ _=>trivial,aJ (n+1) _ _ _ w hX Dg ?_ hm.2⟩;obtain⟨κ',F',agS⟩:=agR a w κ F eX;exact⟨κ',F',agS.set (av:=.hC false (use e_).2) bf ⟨λh=>(by cases h),λ_=>rfl⟩⟩
    ·cases g with
     | true=>
      simp only[if_true]at hm ⊢;rw[A.kK,A.kK]at hm;exact Oper.wpIn_mono (λa' w' bb=>aJ (n+1) _ _ a' w' hX (λp an=>by cases an) bb hm.2.2) (xh aU cA xL gp a w κ F Q eX hm.1 hm.2.1)
     | false=>
      simp only[Bool.false_eq_true,if_false]at hm ⊢;exact⟨λ_ _=>trivial,aJ (n+1) _ _ _ w hX (λp an=>by cases an) ⟨κ,F,eX.set (av:=.hC false (S9 agP (use agO).2)) bf ⟨λh=>(by cases h),λ_=>rfl⟩⟩ hm⟩
   ·split at hm
    ·rename_i cd oG;obtain⟨jJ,p7,mh⟩:=Ms aU cA cZ bf oG;split at hm
     ·rename_i gs oF;obtain⟨ds,dI⟩:=p7 gs oF;rw[so λW G0=>mh (TO xK (λk al=>GZ k al G0) W),A.f']at hm;have Dg:∀ y,qg ops (gs g y) (xu ops tg o):=λy=>by
       obtain⟨v,ae⟩:=agH oG oF g y;exact xK.hl (λi G=>by rw[ae,aA.De G]) λd k ar al=>⟨g,v,by rw[ae,ar,aA.Mw],by grind⟩
      cases g with
      | true=>
       simp only[if_true];exact jJ a w Q _ ⟨κ,F,eX⟩ (hm.1 rfl) (hm.2.mono λy aS a' w' bb=>aJ (n+1) _ _ a' w' hX (Dg y) (ds y a' w' bb) aS)
      | false=>
       simp only[Bool.false_eq_true,if_false];exact⟨λ_ _=>trivial,aJ (n+1) _ _ _ w hX (Dg cd.d) (dI a w ⟨κ,F,eX⟩) (by
        have h:=hm.2;simp only[cq,Bool.false_eq_true,if_false]at h;exact h.2 cd.d rfl)⟩
     ·cases g with
      | true=>
       simp only[if_true]at hm ⊢;rw[A.kK,A.f']at hm;exact jJ a w Q _ ⟨κ,F,eX⟩ hm.1 (hm.2.mono λy aS a' w' bb=>aJ (n+1) _ _ a' w' hX (λp an=>by cases an) bb aS)
      | false=>
       simp only[Bool.false_eq_true,if_false]at hm ⊢;exact⟨λ_ _=>trivial,aJ (n+1) _ _ _ w hX (λp an=>by cases an) ⟨κ,F,eX.set (av:=.hC false (use ((cd.st cd.d).ay (o.dst.getD 0))).2) bf ⟨λh=>(by cases h),λ_=>rfl⟩⟩ hm⟩
    ·exact hm.1.elim
end
end Go.Fer
namespace Go.Fer
open Go.RowKit
section
variable {C:b9} {T:Nat->ad} {be:Nat->Option aL} {s:aA} {res:eC}
theorem agT{P:Program}:∀ (t:ad),t.kO=true->∀ {F F':Nat->Prop} {w w':World} {cs:List Value} {x:t.ai},bI P t F w cs x->bI P t F' w' cs x:=by
 intro t;induction t with
 | bool=>intro _ F F' w w' cs x h;exact h
 | int k=>intro _ F F' w w' cs x h;exact h
 | str=>intro _ F F' w w' cs x h;exact h
 | cV=>intro hc;cases hc
 | st t aJ=>intro hc F F' w w' cs x h;simp only[bI]at h ⊢;exact aJ hc h
 | az a b fy eL=>
  intro hc F F' w w' cs x h;simp only[ad.kO,Bool.and_eq_true]at hc;simp only[bI]at h ⊢;grind
 | slice e aJ=>intro hc;cases hc
 | array n e aJ=>intro hc;cases hc
 | bH e aJ=>intro hc;cases hc
 | map k v wQ wR=>intro hc;cases hc
 | fn a b fy eL=>intro hc;cases hc
 | ct a aJ=>intro hc;cases hc
 | ep=>intro hc;cases hc
theorem TV{P:Program}{t:ad}(h:t.kO=true){F F':Nat->Prop}{w w':World}{v:Value}{x:t.ai}(ae:er P t F w v x):er P t F' w' v x:=⟨ae.1,agT t h ae.2⟩
theorem G1(a:Act){i j:Nat}(h:i≠j)(v u:Value):(a.put (some i) v).put (some j) u=(a.put (some j) u).put (some i) v:=by
 simp only[Act.put];rw[Array.setIfInBounds_comm _ _ h]
theorem G2{P:Program}{ty lh zu:TypeId}(G:P.underlying ty=some (.map lh zu)){r:Nat}{ms:Array MapEntry}{clk:Nat}{w:World}(hw:w.heap[r]?=some (.map ms clk)){key u:Value}{f:Option (Nat×Value)}
  (ed:(Instr.checkKey ms.isEmpty 10000 lh key).run P w=.ok () w) (ao:(Instr.findKey lh key ms.toList).run P w=.ok f w) (hu:(∃ i,f=some (i,u))\/(f=none/\(zeroValue zu).run P w=.ok u w)) :
  (Instr.lookup ty (.map (some r)) key false).run P w=.ok u w:=by
 have eW:(getObj r).run P w=.ok (.map ms clk) w:=by simp[getObj,Sem.run,hw]
 rcases hu with⟨i,rfl⟩ | ⟨rfl,bk⟩
 ·simp only[Instr.lookup,Sem.run_bind,dD G,Result.andThen_ok,Sem.run_pure,eW,ed,ao];rfl
 ·simp only[Instr.lookup,Sem.run_bind,dD G,Result.andThen_ok,Sem.run_pure,eW,ed,ao,bk];rfl
theorem agU(aU:dT C.P T){gB hI kd:Oper}{ty:TypeId}{m x y:Operand}(iM:gB.op=.lookup ty m x false)(lj:hI.op=.mapEntry ty m x)(h':kd.op=.mapUpdate ty m x y){dN:aA}(qX:dN.aa=s.aa)
  (pt:a7 C.aN dN.ay m=a7 C.aN s.ay m) (FU:a7 C.aN dN.ay x=a7 C.aN s.ay x) (h:(bw C.aN T be (a7 C.aN dN.ay) kd).run dN.aa=some res)
  {a:Act} {w:World} {κ:Nat->bD} {F:Nat->Prop} (M:bl C s a w κ F) (Mz:(use (a7 C.aN s.ay m)).1) (MA:(use (a7 C.aN s.ay x)).1) :
  ∃ u n wE,∀ a':Act,a'.eval m=a.eval m->a'.eval x=a.eval x->
   (execOp a'.eval gB).run C.P w=.ok (.value u) w/\(execOp a'.eval gB).run C.P wE=.ok (.value u) wE/\(execOp a'.eval hI).run C.P w=.ok (.value (.tuple #[u,goInt n])) wE:=by
 simp only[bw,h',qQ,pt,FU,qX]at h;split at h
 ·rename_i k v aH;obtain⟨lh,zu,G,mR,hj⟩:=(aU.cb aH (by simp)).mp;obtain⟨inf,ml,i1,i2,i3,i4,i5,i6⟩:=kq hj.kp;split at h
  ·rename_i xH;split at h
   ·rename_i b g tF;simp only[aq.e4,Option.bind_eq_some_iff,aq.run_bind,aq.e3,aq.bN]at h;obtain⟨⟨dM,ou⟩,ag,⟨mS,ov⟩,aS,h⟩:=h;split at h
    ·rename_i aB;obtain⟨aB,_⟩:=aB;split at h
     ·rename_i k' h4 es W;simp only[Option.map_eq_some_iff]at h;obtain⟨Sw,pd,rfl⟩:=h;obtain⟨e,rfl⟩:=kM pd;cases e;have hm:bB C.P s.aa κ F w (use (a7 C.aN s.ay m)).2 (a.eval m):=cO M m rfl Mz;rw[tF]at hm;have kR:=hm.2 aB.symm (by rw[W];rfl);have fk:k.kO=true/\k.j5<=100:=by simpa [tr]using xH
      have tG:=Cg M ag (cO M x rfl MA);have G3:∀ (F':Nat->Prop) w',er C.P k F' w' (a.eval x) dM:=λF' w'=>TV fk.1 tG;have aT:=M.bF b;unfold cE at aT;rw[W]at aT;obtain⟨ms,clk,hw,tH⟩:=aT;have ed:∀ em w',(Instr.checkKey em 10000 lh (a.eval x)).run C.P w'=.ok () w':=λem w'=>(CC (em:=em) (F:=λ_=>True) k 10000 fk.1 (by omega)).1 mR (G3 _ w');have TW:=tH.es;have TN:∀ (j:Nat) (e:MapEntry) (p:k.ai×v.ai),ms.toList[j]?=some e->es[j]?=some p->∀ (F':Nat->Prop) w',er C.P k F' w' e.key p.1:=λj e p E U F' w'=>TV fk.1 (TW.2 j e p E U).1;obtain⟨f,ds,dI⟩:=xc (F:=λ_=>True) (w:=w) (β:=v.ai) (xs:=es) (es:=ms.toList) xH mR (G3 _ w) TW.1 (λj e p E U=>TN j e p E U _ w);have eW:(getObj (κ b).aa).run C.P w=.ok (.map ms clk) w:=by simp[getObj,Sem.run,hw]
      obtain⟨hs,KZ,FZ,Sx⟩:=tH;have cc:(κ b).aa<w.heap.size:=(Array.getElem?_eq_some_iff.1 hw).1;have bk:∀ w',(zeroValue zu).run C.P w'=.ok ml w':=λw'=>qR i1 i4;have G4:∀ (a':Act) (w':World) (u:Value),a'.eval m=a.eval m->a'.eval x=a.eval x->(Instr.lookup ty (.map (some (κ b).aa)) (a.eval x) false).run C.P w'=.ok u w'->(execOp a'.eval gB).run C.P w'=.ok (.value u) w':=by
       intro a' w' u ax aM bb;simp only[execOp,iM,ax,aM,kR,Sem.run_bind,bb,Result.andThen_ok,Sem.run_pure]
      have agV:∀ q:k.ai,gH k dM q=true<->dM=q:=λq=>KV k fk.1 dM q;rcases dI with⟨rfl,eP⟩ | ⟨j,e,p,g1,ee,g3,g4,rfl⟩
      ·let cn:World:={ w with heap:=w.heap.setIfInBounds (κ b).aa (.map (ms.push { key:=a.eval x,val:=ml,born:=clk }) (clk+1)) }
       have lR:cn.heap[(κ b).aa]?=some (.map (ms.push { key:=a.eval x,val:=ml,born:=clk }) (clk+1)):=by grind
       obtain⟨iE,b_,cy⟩:=xc (F:=λ_=>True) (w:=cn) (β:=v.ai) (xs:=es++[(dM,v.dh)]) (es:=(ms.push { key:=a.eval x,val:=ml,born:=clk }).toList) xH mR (G3 _ cn) (by grind) (λj e p E U=>by
        grind)
       have rf:∃ i,iE=some (i,ml):=by
        rcases cy with⟨_,eg⟩ | ⟨j,e,p,ey,dN,eJ,oI,rfl⟩
        ·have:=eg (dM,v.dh) (by simp);grind
        ·by_cases aE:j<es.length
         ·grind
         grind
       refine⟨ml,clk,cn,λa' ax aM=>⟨G4 a' w ml ax aM (G2 G hw (ed _ w) ds (.inr ⟨rfl,bk w⟩)),G4 a' cn ml ax aM (G2 G lR (ed _ cn) b_ (.inl rf)),?_⟩⟩;simp only[execOp,lj,ax,aM,kR,Instr.mapEntry,Sem.run_bind,dD G,Result.andThen_ok,eW,ed,ds,bk,r_ hw,Sem.run_pure];rfl
      ·have aE:j<es.length:=(List.getElem?_eq_some_iff.1 ee).1;have xd:j<ms.size:=by omega
       have K2:ms[j]=e:=by
        grind
       obtain⟨jq,cn,t1,t2,t3⟩:=KX C.P w e.key (a.eval x);have lR:cn.heap[(κ b).aa]?=some (.map ms clk):=by rcases t3 with rfl | rfl<;>exact hw
       have TJ:(κ b).aa<cn.heap.size:=(Array.getElem?_eq_some_iff.1 lR).1;have nQ:((ms[j]?).map (·.key)).getD (a.eval x)=e.key:=by
        grind
       have Mr:((ms[j]?).map (λx=>(x.born:Int))).getD 0=(ms[j].born:Int):=by grind
       rw[Nat.zero_add]at ds;have aex:dM=p.1:=(agV p.1).1 g3;let c_:World:={ cn with heap:=cn.heap.setIfInBounds (κ b).aa (.map (ms.modify j λe=>{ e with key:=jq }) clk) }
       have gU:c_.heap[(κ b).aa]?=some (.map (ms.modify j λe=>{ e with key:=jq }) clk):=by grind
       have u2:∀ (F':Nat->Prop) w',er C.P k F' w' jq p.1:=λF' w'=>by
        grind
       have zq:∀ i,(ms.modify j λe=>{ e with key:=jq }).toList[i]?=if i=j then some { e with key:=jq } else ms.toList[i]?:=λi=>by
        grind
       obtain⟨iE,b_,cy⟩:=xc (F:=λ_=>True) (w:=c_) (β:=v.ai) (xs:=es) (es:=(ms.modify j λe=>{ e with key:=jq }).toList) xH mR (G3 _ c_) (by grind) (λi a6 p' E U=>by
        rw[zq]at E;grind)
       have rf:∃ i,iE=some (i,e.val):=by
        rcases cy with⟨_,eg⟩ | ⟨i,a6,p',ey,dN,eJ,oI,rfl⟩
        ·have:=eg p (List.mem_of_getElem? ee);rw[g3]at this;cases this
        ·have zv:i=j:=by
          rcases Nat.lt_trichotomy i j with h | h | h
          ·have:=g4 i p' h dN;rw[eJ]at this;cases this
          ·exact h
          ·have:=oI j p h ee;rw[g3]at this;cases this
         subst zv;rw[zq,if_pos rfl]at ey;cases ey;exact⟨_,rfl⟩
       refine⟨e.val,ms[j].born,c_,λa' ax aM=>⟨G4 a' w e.val ax aM (G2 G hw (ed _ w) ds (.inl ⟨_,rfl⟩)),G4 a' c_ e.val ax aM (G2 G gU (ed _ c_) b_ (.inl rf)),?_⟩⟩;simp only[execOp,lj,ax,aM,kR,Instr.mapEntry,Sem.run_bind,dD G,Result.andThen_ok,eW,ed,ds];rw[nQ,t1];simp only[Result.andThen_ok,r_ lR,Sem.run_pure,Mr];rfl
     grind
    grind
   ·cases h
  ·cases h
 ·cases h
end
end Go.Fer
namespace Go.Fer
open Go.RowKit
section
variable {C:b9} {T:Nat->ad} {be:Nat->Option aL} {Ψ:Nat->Option e5} {s:aA} {o:Oper} {Q:Exit->Act->World->Prop} {ops:Array Oper}
theorem A.agW{ak:Type}{m:A ak}(h:m.CQ){d x:ak}(ag:m.bL x):x=m.val d:=by
 unfold A.val;have he:∃ x,m.bL x:=⟨x,ag⟩
 rw[dif_pos he];exact h _ _ ag he.choose_spec
theorem TX(cA:jn C.P be)(cZ:lV C.P C.aN Ψ):jn C.P (Gm be Ψ):=by
 intro k c h;unfold Gm at h;split at h
 ·rename_i dx Mt;split at h
  ·rename_i ar;cases h;simp only[Bool.and_eq_true,Bool.not_eq_true']at ar;have h:=cZ k _ Mt;obtain⟨E,U⟩:h3 C.P k dx.ts dx.aV dx.sh/\(dx.dR=true->∀ x,(dx.sh x).CQ):=h;exact⟨λ_=>E.y5 λx aD=>⟨aD,λy aS=>A.agW (U ar.1 x) aS⟩,λhe=>by rw[show nK dx.Gk.aV=nK dx.aV from rfl,ar.2]at he;cases he⟩
  grind
 ·rename_i c' hc;cases h;have h:nK c.aV=true/\Cz C.P k c:=cZ k _ hc;exact⟨λhe=>(by rw[h.1]at he;cases he),λ_=>h.2⟩
 ·cases h
 ·exact cA k c h
theorem TY{β:Type}{m:A β}{O:β->Prop}:∀ (l:List Prop),A.cw (CY l m) O->(∀ p∈l,p)/\A.cw m O:=by
 intro l;induction l with
 | nil=>intro h;exact⟨λp an=>(by cases an),h⟩
 | cons p l aJ=>
  intro h;simp only[CY]at h;rw[A.kK]at h;grind
theorem TZ{ds dI:Bool}{ca c:Prop}(E:ds=true->ca)(U:dI=true->c)(h:∀ p∈CK ds dI ca c,p):ca/\c:=by
 unfold CK at h;constructor
 ·cases ds with
  | true=>grind
  | false=>simp_all
 ·cases dI with
  | true=>grind
  | false=>simp_all
theorem T0(aU:dT C.P T)(cA:jn C.P be)(ar:lk o C.nt=true){r:eQ}(h:vb C.aN T be ops s o=some r)(hc:∀ p∈r.cs,p){a:Act}{w:World}(M:cu C s a w){K:Act->World->Prop}
  (iL:∀ a' w',cu C (r.h8 s) a' w'->K a' w') :
  if Region.wanted o (yielded ops a.tmps) then o.wpIn (dS C.r) 0 C.P a w K Q else (∀ f,o.about C.P w a.eval=some f->(dS C.r).fn f)/\K (a.put o.dst undef) w:=by
 have bf:∀ i,o.dst=some i->i<C.nt:=λi G=>by
  have:=ar;simp only[lk,Bool.and_eq_true]at this;grind
 obtain⟨κ,F,eX⟩:=M;unfold vb at h;split at h
 ·cases h
 ·rename_i g aB;rw[Mu eX aB];split at h
  ·cases h
  ·rename_i res gp;split at h
   ·cases h;simp only[Option.getD_none,if_true];obtain⟨E,U⟩:=TZ (λW=>(SN W).run s.aa res gp) (λW=>(zC W).run s.aa res gp) hc;exact Oper.wpIn_mono iL (xh aU cA ar gp a w κ F Q eX E U)
   ·rename_i b;split at h
    ·rename_i xM;cases h;have hc:∀ p∈CK (sa (a7 C.aN s.ay) o&&(mX (a7 C.aN s.ay) o&&!res.e_.zB)) true (b=true->res.ca/\(res.c/\(use res.e_).1)) True,p:=hc;obtain⟨E,_⟩:=TZ (λW=>by
      simp only[Bool.and_eq_true,Bool.not_eq_true']at W;exact λ_=>⟨(SN W.1).run s.aa _ gp,(zC W.2.1).run s.aa _ gp,F7 W.2.2⟩) (λ_=>trivial) hc
     obtain⟨ca,c,e_,hE⟩:=res;simp only at xM;subst xM;cases b with
     | true=>
      simp only[Option.getD_some,if_true];obtain⟨E,U,ah⟩:=E rfl;refine Oper.wpIn_mono (λa' w' bb=>iL a' w' ?_) (xh aU cA ar gp a w κ F Q eX E U);exact cu.L5 (av':=.hC true (use e_).2) bb bf λκ F v ae=>⟨λ_=>o' ae ah,λh=>(by cases h)⟩
     | false=>
      simp only[Option.getD_some,Bool.false_eq_true,if_false];exact⟨λ_ _=>trivial,iL _ _ ⟨κ,F,eX.set (av:=.hC false (use e_).2) bf ⟨λh=>(by cases h),λ_=>rfl⟩⟩⟩
    grind
theorem T1(cl:List (List Nat)):∀ n,zN cl n<=n/\∀ j,zN cl n<=j->j<n->∀ i,i<j->i∈cl.getD j []
 | 0=>⟨Nat.le_refl _,λj _ h=>by omega⟩
 | n+1=>by
  unfold zN;split
  ·rename_i h;obtain⟨E,U⟩:=T1 cl n;refine⟨by omega,λj aE MB i G=>?_⟩;by_cases e:j=n
   ·simp_all
   grind
  grind
theorem agX{n:Nat}(rh:CN ops.toList=true)(agY:∀ j,n<=j->j<ops.size->∀ i,i<j->i∈(ij ops.toList).getD j []):∀ (k j cj:Nat) (listed:Array Bool) (a:Act) (w:World),n<=j->j+k=ops.size->listed.size=ops.size->
  (∀ i,listed.getD i false=decide (i<j))->k<=cj->wpOpsIn (dS C.r) 0 C.P ops Q (List.range' j k) a w->wpAnyIn (dS C.r) 0 C.P .any ops Q cj listed a w:=by
 intro k;induction k with
 | zero=>
  intro j cj listed a w agZ ag0 cf aj ao h;have M:∀ i,i ∉ Region.ready .any ops listed:=λi G=>by
   rw[mem_ready]at G;grind
  have iN:Region.ready .any ops listed=[]:=List.eq_nil_iff_forall_not_mem.2 M;cases cj with
  | zero=>exact⟨iN,h⟩
  | succ cj=>exact⟨λ_=>h,λi G=>absurd G (M i)⟩
 | succ k aJ=>
  intro j cj listed a w agZ ag0 cf aj ao h;have aE:j<ops.size:=by omega
  cases cj with
  | zero=>omega
  | succ cj=>
   have qh:∀ q o,ops[q]?=some o->listed.getD q false=true->∀ i∈h9 o,listed.getD i false=true:=λq o af bt i G=>by
    rw[aj]at bt ⊢;have bt:q<j:=by grind
    have:=List.all_eq_true.1 rh q (by grind);grind
   have ag1:∀ i,i∈Region.ready .any ops listed<->i=j:=λi=>by
    constructor
    ·intro G;rw[mem_ready]at G;obtain⟨aX,o,af,G5⟩:=G;have jm:i<ops.size:=(Array.getElem?_eq_some_iff.1 af).1;have Dh:listed.getD i false=false:=by
      grind
     rw[aj]at Dh;have F3:j<=i:=by grind
     by_cases e:i=j
     ·exact e
     ·exfalso;have sr:∀ k∈h9 o,listed.getD k false=true:=by
       intro k al;obtain⟨e,he,vl⟩:=List.mem_filterMap.1 al;grind
      have Di:∀ k∈(ij ops.toList).getD i [],listed.getD k false=true\/k=i:=by
       intro k al;refine xm (p:=λj=>listed.getD j false=true\/j=i) ops.toList [] (λj i G=>by grind) (λj hS ka k al aE=>?_) i k al (.inr rfl);have lp:ops[j]?=some hS:=by grind
       rcases (by simp_all:listed.getD j false=true\/j=i) with aE | aE
       ·exact .inl (qh j hS lp aE k al)
       ·subst aE;rw[af]at lp;cases lp;exact .inl (sr k al)
      grind
    ·rintro rfl;rw[mem_ready];refine⟨?_,ops[i],by simp,λe he W=>?_⟩
     ·grind
     ·have jm:e.on∈h9 ops[i]:=List.mem_filterMap.2 ⟨e,by grind,by grind⟩;have:=List.all_eq_true.1 rh i (by grind);grind
   refine⟨λM=>?_,λi G=>?_⟩
   ·simp_all
   ·obtain rfl:=(ag1 i).1 G;have eW:ops[i]?=some ops[i]:=by simp
    rw[List.range'_succ]at h;simp only[wpOpsIn,eW]at h;have next:∀ a w,wpOpsIn (dS C.r) 0 C.P ops Q (List.range' (i+1) k) a w->wpAnyIn (dS C.r) 0 C.P .any ops Q cj (listed.setIfInBounds i true) a w:=λa w cW=>by
     refine aJ (i+1) cj _ a w (by omega) (by omega) (by grind) (λq=>?_) (by omega) cW;by_cases e:q=i
     ·simp_all
     ·rw[getD_set_ne false (Ne.symm e),aj,decide_eq_decide];omega
    unfold wpOpIn;rw[eW];simp only;split
    ·rename_i hw;rw[if_pos hw]at h;exact Oper.wpIn_mono next h
    grind
theorem ag2(aU:dT C.P T)(cA:jn C.P be)(ar:∀ o∈ops.toList,lk o C.nt=true){l:List eQ}{s':aA}(aD:xi C.aN T be ops ops.toList s=some (l,s'))(cL:zE ops.toList l=true)
  (hc:∀ r∈l,∀ p∈r.cs,p) (tW:∀ a' w',cu C s' a' w'->Q .normal a' w'):∀ (cj:Nat) (listed:Array Bool) (a:Act) (w:World),listed.size=ops.size->
   (∀ j o,ops[j]?=some o->listed.getD j false=true->∀ i∈h9 o,listed.getD i false=true)->((List.range ops.size).filter λj=>!listed.getD j false).length<=cj->
   cu C (jt l s λj=>listed.getD j false) a w->wpAnyIn (dS C.r) 0 C.P .any ops Q cj listed a w:=by
 obtain⟨hlen,r4,Dj⟩:=SV _ _ aD;simp only[zE,Bool.and_eq_true]at cL;obtain⟨rh,MC⟩:=cL;have ag3:∀ j o,ops[j]?=some o->∀ i∈h9 o,i<j:=by
  intro j o af i G;have aE:j<ops.toList.length:=by
   grind
  have:=List.all_eq_true.1 rh j (by grind);grind
 have ag4:∀ i j x y,i<j->l[i]?=some x->l[j]?=some y->((ij ops.toList).getD j []).contains i=true\/x.apart y=true:=by
  intro i j x y zv G aE;have z1:j<l.length:=(List.getElem?_eq_some_iff.1 aE).1;have:=List.all_eq_true.1 MC j (by grind);grind
 have Dk:∀ listed:Array Bool,listed.size=ops.size->Region.ready .any ops listed=[]->∀ j,j<ops.size->listed.getD j false=true:=by
  intro listed cf M j;induction j using Nat.strongRecOn with
  | _ j aJ=>
   intro aE;cases aj:listed.getD j false with
   | true=>rfl
   | false=>
    exfalso;have jO:j∈Region.ready .any ops listed:=by
     rw[mem_ready];refine⟨?_,ops[j],by simp,λe he W=>?_⟩
     ·grind
     ·have jm:e.on∈h9 ops[j]:=List.mem_filterMap.2 ⟨e,by grind,by grind⟩;grind
    grind
 have nY:∀ (listed:Array Bool) (a:Act) (w:World),listed.size=ops.size->Region.ready .any ops listed=[]->cu C (jt l s λj=>listed.getD j false) a w->Q .normal a w:=by
  intro listed a w cf M j_;have fR:=Dk listed cf M;refine tW a w ?_;have:jt l s (λj=>listed.getD j false)=s':=by
   rw[r4];unfold jt;rw[List.filter_eq_self.2 λp an=>?_,CO];obtain⟨_,U⟩:=zG an;grind
  grind
 intro cj;induction cj with
 | zero=>
  intro listed a w cf _ MD j_;have M:Region.ready .any ops listed=[]:=by
   cases M:Region.ready .any ops listed with
   | nil=>rfl
   | cons j axQ=>
    exfalso;have jO:j∈Region.ready .any ops listed:=by grind
    rw[mem_ready]at jO;obtain⟨aX,o,af,_⟩:=jO;have aE:=(Array.getElem?_eq_some_iff.1 af).1;have:j∈(List.range ops.size).filter λj=>!listed.getD j false:=by
     grind
    grind
  exact⟨M,nY listed a w cf M j_⟩
 | succ cj aJ=>
  intro listed a w cf qh MD j_;refine⟨λM=>nY listed a w cf M j_,λi G=>?_⟩;rw[mem_ready]at G;obtain⟨aX,o,af,G5⟩:=G;have jm:i<ops.size:=(Array.getElem?_eq_some_iff.1 af).1;have Dh:listed.getD i false=false:=by
   grind
  have jO:o∈ops.toList:=by
   grind
  have sr:∀ k∈h9 o,listed.getD k false=true:=by
   intro k al;obtain⟨e,he,vl⟩:=List.mem_filterMap.1 al;grind
  obtain⟨r,M,fY⟩:=Dj i o (by grind);have ag5:∀ j k,k∈(ij ops.toList).getD j []->listed.getD j false=true->listed.getD k false=true:=by
   refine xm (p:=λj=>listed.getD j false=true) ops.toList [] (λj i G=>by grind) λj hS ka k al aE=>?_;exact qh j hS (by grind) (by simpa using aE) k al
  have Di:∀ k∈(ij ops.toList).getD i [],listed.getD k false=true\/k=i:=by
   intro k al;refine xm (p:=λj=>listed.getD j false=true\/j=i) ops.toList [] (λj i G=>by grind) (λj hS ka k al aE=>?_) i k al (.inr rfl);have lp:ops[j]?=some hS:=by grind
   rcases (by simpa using aE:listed.getD j false=true\/j=i) with aE | aE
   ·exact .inl (qh j hS lp aE k al)
   ·subst aE;rw[af]at lp;cases lp;exact .inl (sr k al)
  have gJ:∀ j x,j<i->l[j]?=some x->listed.getD j false=false->x.apart r=true:=by
   grind
  have tN:∀ j x,i<j->l[j]?=some x->listed.getD j false=true->r.apart x=true:=by
   grind
  obtain⟨aO,aR,bO⟩:=SR (s:=s) (f:=λj=>listed.getD j false) M Dh gJ tN;have ME:=SW fY aO aR;unfold wpOpIn;rw[af];refine T0 aU cA (ar o jO) ME (hc r (List.mem_of_getElem? M)) j_ λa' w' bb=>?_;have eW:∀ j,(listed.setIfInBounds i true).getD j false=if j=i then true else listed.getD j false:=by
   intro j;by_cases e:j=i
   ·subst e;rw[if_pos rfl,Array.getD_eq_getD_getElem?,Array.getElem?_setIfInBounds_self_of_lt (by omega)];rfl
   ·rw[if_neg e,getD_set_ne false (Ne.symm e)]
  refine aJ _ a' w' (by grind) (λj hS ka aE k al=>?_) ?_ ?_
  ·rw[eW]at aE ⊢;split
   ·rfl
   ·split at aE
    ·rename_i e;subst e;rw[af]at ka;cases ka;exact sr k al
    ·exact qh j hS ka aE k al
  ·have cc:((List.range ops.size).filter λj=>!(listed.setIfInBounds i true).getD j false).length<((List.range ops.size).filter λj=>!listed.getD j false).length:=by
    have ax:(List.range ops.size).filter (λj=>!(listed.setIfInBounds i true).getD j false)=((List.range ops.size).filter λj=>!listed.getD j false).filter λj=>decide (j≠i):=by
     rw[List.filter_filter];apply List.filter_congr;intro j _;rw[eW];simp
    rw[ax];have MF:i∈(List.range ops.size).filter λj=>!listed.getD j false:=by
     grind
    exact List.length_filter_lt_length_iff_exists.2 ⟨i,MF,by simp⟩
   omega
  ·have:jt l s (λj=>(listed.setIfInBounds i true).getD j false)=r.h8 (jt l s λj=>listed.getD j false):=by
    rw[<-bO];congr 1;funext j;grind
   grind
def G6(n:Nat)(l b e x:Bool)(listed:Array Bool):Prop:=∀ i,listed.getD i false=(decide (i<n)||(l&&decide (i=n))||(b&&decide (i=n+1))||(e&&decide (i=n+2))||(x&&decide (i=n+3)))
def mn(a:Act)(eh fJ d1 d2:Nat)(u vB vE vX:Value)(l b e x:Bool):Act:=
 let b8:=if l=true then a.put (some eh) u else a
 let a2:=if b=true then b8.put (some fJ) vB else b8
 let a3:=if e=true then a2.put (some d1) vE else a2
 if x=true then a3.put (some d2) vX else a3
theorem ag6(a:Act)(d:Option Nat)(v:Value):(a.put d v).tmps.size=a.tmps.size:=by cases d<;>simp[Act.put]
theorem ag7(a:Act)(eh fJ d1 d2:Nat)(u vB vE vX:Value)(l b e x:Bool):(mn a eh fJ d1 d2 u vB vE vX l b e x).tmps.size=a.tmps.size:=by
 unfold mn;cases l<;>cases b<;>cases e<;>cases x<;>simp[ag6]
theorem T2{a:Act}{eh fJ d1 d2:Nat}{u vB vE vX:Value}{l b e x:Bool}{y:Operand}(E:y≠.tmp eh)(U:y≠.tmp fJ)(ah:y≠.tmp d1)(a1:y≠.tmp d2):(mn a eh fJ d1 d2 u vB vE vX l b e x).eval y=a.eval y:=by
 unfold mn;cases l<;>cases b<;>cases e<;>cases x<;>simp[zY,E,U,ah,a1]
theorem Dl{o:Oper}{a:Act}{w w':World}{K:Act->World->Prop}{v:Value}(ar:∀ c,o.op≠.defer c)(h:(execOp a.eval o).run C.P w=.ok (.value v) w')(al:o.wpIn (dS C.r) 0 C.P a w K Q):K (a.put o.dst v) w':=by
 have:=al.2;rw[zd ar,h]at this;exact this
theorem ag8{n:Nat}(T3:ops.size=n+5)(rh:CN ops.toList=true){gB il hI iI lT:Oper}(xN:ops[n]?=some gB)(vm:ops[n+1]?=some il)(z6:ops[n+2]?=some hI)(Dm:ops[n+3]?=some iI)(Dn:ops[n+4]?=some lT)
  (Dp:gB.guard=none) (Dq:il.guard=none) (G7:hI.guard=none) (G8:iI.guard=none) (G9:lT.guard=none) (Dr:∀ c,gB.op≠.defer c) (G_:∀ c,il.op≠.defer c) (G':∀ c,hI.op≠.defer c) (Ha:∀ c,iI.op≠.defer c)
  (gJ:∀ q,q<5->∀ i,i<n->i∈(ij ops.toList).getD (n+q) []) (MG:n∈(ij ops.toList).getD (n+1) []) (T4:n+2∈(ij ops.toList).getD (n+3) []) (z7:∀ q,q<4->n+q∈(ij ops.toList).getD (n+4) [])
  (T5:∀ i∈h9 hI,i<n) (T6:∀ i∈h9 iI,i<n\/i=n+2)
  {eh fJ d1 d2:Nat} (ss:gB.dst=some eh) (dk:il.dst=some fJ) (Ds:hI.dst=some d1) (Hb:iI.dst=some d2) (_n1:eh≠fJ) (ef:eh≠d1) (jl:eh≠d2) (n4:fJ≠d1) (Dt:fJ≠d2)
  {a:Act} {w wE:World} {u vB vE vX:Value}
  (T7:∀ b e x,(execOp (mn a eh fJ d1 d2 u vB vE vX false b e x).eval gB).run C.P (if e=true then wE else w)=.ok (.value u) (if e=true then wE else w))
  (T8:∀ e x,(execOp (mn a eh fJ d1 d2 u vB vE vX true false e x).eval il).run C.P (if e=true then wE else w)=.ok (.value vB) (if e=true then wE else w))
  (T9:∀ l b x,(execOp (mn a eh fJ d1 d2 u vB vE vX l b false x).eval hI).run C.P w=.ok (.value vE) wE)
  (T_:∀ l b,(execOp (mn a eh fJ d1 d2 u vB vE vX l b true false).eval iI).run C.P wE=.ok (.value vX) wE)
  (h:wpOpsIn (dS C.r) 0 C.P ops Q (List.range' n 5) a w):∀ (cj:Nat) (listed:Array Bool),listed.size=ops.size->(∀ i,listed.getD i false=decide (i<n))->5<=cj->wpAnyIn (dS C.r) 0 C.P .any ops Q cj listed a w:=by
 let aK:=mn a eh fJ d1 d2 u vB vE vX;let au:=λe:Bool=>if e=true then wE else w
 have wt:∀ {o:Oper},o.guard=none->∀ a':Act,Region.wanted o (yielded ops a'.tmps)=true:=λh a'=>by unfold Region.wanted;rw[h]
 have Hc:lT.wpIn (dS C.r) 0 C.P (aK true true true true) wE (λa' w'=>Q .normal a' w') Q:=by
  have eb:List.range' n 5=[n,n+1,n+2,n+3,n+4]:=rfl;rw[eb]at h;simp only[wpOpsIn,xN,vm,z6,Dm,Dn,wt Dp,wt Dq,wt G7,wt G8,wt G9,if_true]at h;have E:=Dl (a:=aK false false false false) (w:=w) Dr (T7 false false false) h;rw[ss]at E;have U:=Dl (a:=aK true false false false) (w:=w) G_ (T8 false false) E;rw[dk]at U;have ah:=Dl (a:=aK true true false false) (w:=w) G' (T9 true true false) U;rw[Ds]at ah;have a1:=Dl (a:=aK true true true false) (w:=wE) Ha (T_ true true) ah;rw[Hb]at a1;exact a1
 have ag9:∀ {l b e x:Bool} {listed:Array Bool},G6 n l b e x listed->(b=true->l=true)->(x=true->e=true)->∀ q o,ops[q]?=some o->listed.getD q false=true->∀ i∈h9 o,listed.getD i false=true:=by
  intro l b e x listed bn W ag q o af bt i G;have ag_:q<ops.size:=(Array.getElem?_eq_some_iff.1 af).1;have axR:i<q:=by
   have:=List.all_eq_true.1 rh q (by grind);grind
  rw[bn]at bt ⊢;grind
 have axS:∀ {listed:Array Bool} {i:Nat},listed.size=ops.size->i<ops.size->(listed[i]?.getD true=false<->listed.getD i false=false):=by
  intro listed i cf G;rw[Array.getD_eq_getD_getElem?,Array.getElem?_eq_getElem (by omega)];rfl
 have ag':∀ {l b e x:Bool} {listed:Array Bool},G6 n l b e x listed->(b=true->l=true)->(x=true->e=true)->listed.size=ops.size->∀ i∈Region.ready .any ops listed,(i=n/\l=false)\/(i=n+1/\l=true/\b=false)\/(i=n+2/\e=false)\/(i=n+3/\e=true/\x=false)\/(i=n+4/\l=true/\b=true/\e=true/\x=true):=by
  intro l b e x listed bn W ag cf i G;have qh:=ag9 bn W ag;rw[mem_ready]at G;obtain⟨aX,o,af,G5⟩:=G;have jm:i<ops.size:=(Array.getElem?_eq_some_iff.1 af).1;have aX:listed.getD i false=false:=by
   grind
  have sr:∀ k∈h9 o,listed.getD k false=true:=by
   intro k al;obtain⟨e,he,vl⟩:=List.mem_filterMap.1 al;split at vl
   ·rename_i W;cases vl;grind
   grind
  have Di:∀ k∈(ij ops.toList).getD i [],listed.getD k false=true\/k=i:=by
   intro k al;refine xm (p:=λj=>listed.getD j false=true\/j=i) ops.toList [] (λj i G=>by simp at G) (λj hS ka k al aE=>?_) i k al (.inr rfl);have lp:ops[j]?=some hS:=by grind
   rcases (by simpa using aE:listed.getD j false=true\/j=i) with aE | aE
   ·exact .inl (qh j hS lp aE k al)
   ·subst aE;rw[af]at lp;cases lp;exact .inl (sr k al)
  rw[bn]at aX;simp only[Bool.or_eq_false_iff,Bool.and_eq_false_iff,decide_eq_false_iff_not]at aX;obtain⟨⟨⟨⟨gV,aO⟩,aR⟩,bO⟩,fI⟩:=aX;have F3:n<=i:=by omega
  have aha:i=n\/i=n+1\/i=n+2\/i=n+3\/i=n+4:=by omega
  have flag:∀ q,q<4->n+q∈(ij ops.toList).getD i []->n+q≠i->(if q=0 then l else if q=1 then b else if q=2 then e else x)=true:=by
   intro q bt hm eP;rcases Di _ hm with h | h
   ·rw[bn]at h;simp only[Bool.or_eq_true,Bool.and_eq_true,decide_eq_true_eq]at h;rcases h with (((h | ⟨E,h⟩) | ⟨E,h⟩) | ⟨E,h⟩) | ⟨E,h⟩
    ·omega
    ·grind
    ·have:q=1:=by omega
     subst this;exact E
    ·have:q=2:=by omega
     subst this;exact E
    ·have:q=3:=by omega
     subst this;exact E
   omega
  rcases aha with rfl | rfl | rfl | rfl | rfl
  ·grind
  ·exact .inr (.inl ⟨rfl,flag 0 (by omega) MG (by omega),by grind⟩)
  ·grind
  ·grind
  ·exact .inr (.inr (.inr (.inr ⟨rfl,flag 0 (by omega) (z7 0 (by omega)) (by omega),flag 1 (by omega) (z7 1 (by omega)) (by omega),flag 2 (by omega) (z7 2 (by omega)) (by omega),flag 3 (by omega) (z7 3 (by omega)) (by omega)⟩)))
 have ahb:∀ {l b e x:Bool} {listed:Array Bool},G6 n l b e x listed->(b=true->l=true)->(x=true->e=true)->listed.size=ops.size->Region.ready .any ops listed≠[]:=by
  intro l b e x listed bn W ag cf u9;have mk:∀ i o,ops[i]?=some o->listed.getD i false=false->(∀ k∈h9 o,listed.getD k false=true)->False:=by
   intro i o af aX ar;have jm:i<ops.size:=(Array.getElem?_eq_some_iff.1 af).1;have:i∈Region.ready .any ops listed:=by
    rw[mem_ready];refine⟨?_,o,af,λe he W=>ar e.on (List.mem_filterMap.2 ⟨e,by grind,by grind⟩)⟩;grind
   grind
  have lt:∀ q o,ops[q]?=some o->∀ i∈h9 o,i<q:=by
   intro q o af i G;have ag_:q<ops.size:=(Array.getElem?_eq_some_iff.1 af).1;have:=List.all_eq_true.1 rh q (by grind);rw[show ops.toList[q]?=some o by grind]at this;have:=List.all_eq_true.1 this i G;grind
  cases l with
  | false=>
   have pf:b=false:=by grind
   subst pf;exact mk n gB xN (by rw[bn];simp) λk al=>by rw[bn];grind
  | true=>
   cases b with
   | false=>exact mk (n+1) il vm (by rw[bn];simp) λk al=>by rw[bn];grind
   | true=>
    cases e with
    | false=>
     have MH:x=false:=by grind
     subst MH;exact mk (n+2) hI z6 (by rw[bn];simp) λk al=>by rw[bn];grind
    | true=>
     cases x with
     | false=>exact mk (n+3) iI Dm (by rw[bn];simp) λk al=>by rw[bn];grind
     | true=>exact mk (n+4) lT Dn (by rw[bn];simp) λk al=>by rw[bn];grind
 have Du:∀ {listed:Array Bool} (i:Nat),listed.size=ops.size->i<ops.size->∀ q,(listed.setIfInBounds i true).getD q false=(listed.getD q false||decide (q=i)):=by
  intro listed i cf G q;by_cases e:q=i
  ·grind
  grind
 let cg:=λ(l b e x:Bool)=>∀ (cj:Nat) (listed:Array Bool),G6 n l b e x listed->listed.size=ops.size->5<=cj+(l.toNat+b.toNat+e.toNat+x.toNat)->wpAnyIn (dS C.r) 0 C.P .any ops Q cj listed (aK l b e x) (au e);have step:∀ l b e x,(b=true->l=true)->(x=true->e=true)->(l=false->cg true b e x)->(l=true->b=false->cg l true e x)->(e=false->cg l b true x)->(e=true->x=false->cg l b e true)->cg l b e x:=by
  intro l b e x W ag ey dN eJ oI cj listed bn cf sq;have axT:l.toNat<=1/\b.toNat<=1/\e.toNat<=1/\x.toNat<=1:=⟨Bool.toNat_le l,Bool.toNat_le b,Bool.toNat_le e,Bool.toNat_le x⟩
  cases cj with
  | zero=>omega
  | succ cj=>
   refine⟨λM=>absurd M (ahb bn W ag cf),λi G=>?_⟩;rcases ag' bn W ag cf i G with⟨rfl,E⟩ | ⟨rfl,E,U⟩ | ⟨rfl,E⟩ | ⟨rfl,E,U⟩ | ⟨rfl,E,U,ah,a1⟩
   ·subst E;have pf:b=false:=by grind
    subst pf;unfold wpOpIn;simp only[xN,wt Dp,if_true];refine ht Dr (T7 false e x) ?_;rw[ss];have zb:(aK false false e x).put (some eh) u=aK true false e x:=by
     simp only[aK,mn];cases e<;>cases x<;>simp[G1 _ ef.symm,G1 _ jl.symm]
    show wpAnyIn _ _ _ _ _ _ _ _ ((aK false false e x).put (some eh) u) (au e);rw[zb];refine ey rfl cj _ (λq=>?_) (by grind) (by grind);rw[Du i cf (by omega),bn];by_cases bt:q=i<;>simp[bt]
   ·subst E;subst U;unfold wpOpIn;simp only[vm,wt Dq,if_true];refine ht G_ (T8 e x) ?_;rw[dk];have zb:(aK true false e x).put (some fJ) vB=aK true true e x:=by
     simp only[aK,mn];cases e<;>cases x<;>simp[G1 _ n4.symm,G1 _ Dt.symm]
    show wpAnyIn _ _ _ _ _ _ _ _ ((aK true false e x).put (some fJ) vB) (au e);rw[zb];refine dN rfl rfl cj _ (λq=>?_) (by grind) (by grind);rw[Du (n+1) cf (by omega),bn];by_cases bt:q=n+1<;>simp[bt]
   ·subst E;have MH:x=false:=by grind
    subst MH;unfold wpOpIn;simp only[z6,wt G7,if_true];refine ht G' (T9 l b false) ?_;rw[Ds];show wpAnyIn _ _ _ _ _ _ _ _ (aK l b true false) (au true);refine eJ rfl cj _ (λq=>?_) (by grind) (by grind);rw[Du (n+2) cf (by omega),bn];simp
   ·subst E;subst U;unfold wpOpIn;simp only[Dm,wt G8,if_true];refine ht Ha (T_ l b) ?_;rw[Hb];show wpAnyIn _ _ _ _ _ _ _ _ (aK l b true true) (au true);refine oI rfl rfl cj _ (λq=>?_) (by grind) (by grind);rw[Du (n+3) cf (by omega),bn];simp
   ·subst E;subst U;subst ah;subst a1;unfold wpOpIn;simp only[Dn,wt G9,if_true];refine Oper.wpIn_mono (λa' w' bt=>?_) Hc;have fR:∀ i,(listed.setIfInBounds (n+4) true).getD i false=decide (i<n+5):=λi=>by
     rw[Du (n+4) cf (by omega),bn,Bool.eq_iff_iff];simp only[Bool.or_eq_true,Bool.and_eq_true,decide_eq_true_eq,true_and];omega
    have M:∀ i,i ∉ Region.ready .any ops (listed.setIfInBounds (n+4) true):=λi G=>by
     rw[mem_ready]at G;obtain⟨aX,o,af,_⟩:=G;grind
    have iN:Region.ready .any ops (listed.setIfInBounds (n+4) true)=[]:=List.eq_nil_iff_forall_not_mem.2 M;cases cj with
    | zero=>exact⟨iN,bt⟩
    | succ cj=>exact⟨λ_=>bt,λi G=>absurd G (M i)⟩
 have f:∀ {p:Prop},(true:Bool)=false->p:=λh=>by cases h
 have iE:∀ {p:Prop},(false:Bool)=true->p:=λh=>by cases h
 have T':cg true true true true:=step _ _ _ _ (λ_=>rfl) (λ_=>rfl) f (λ_=>f) f (λ_=>f);have Ua:cg true true true false:=step _ _ _ _ (λ_=>rfl) (λ_=>rfl) f (λ_=>f) f (λ_ _=>T');have ahc:cg true true false false:=step _ _ _ _ (λ_=>rfl) iE f (λ_=>f) (λ_=>Ua) iE;have Ub:cg true false true true:=step _ _ _ _ (λ_=>rfl) (λ_=>rfl) f (λ_ _=>T') f (λ_=>f);have Uc:cg true false true false:=step _ _ _ _ (λ_=>rfl) (λ_=>rfl) f (λ_ _=>Ua) f (λ_ _=>Ub);have ahd:cg true false false false:=step _ _ _ _ (λ_=>rfl) iE f (λ_ _=>ahc) (λ_=>Uc) iE;have ahe:cg false false true true:=step _ _ _ _ iE (λ_=>rfl) (λ_=>Ub) iE f (λ_=>f);have ahf:cg false false true false:=step _ _ _ _ iE (λ_=>rfl) (λ_=>Uc) iE f (λ_ _=>ahe);have ahg:cg false false false false:=step _ _ _ _ iE iE (λ_=>ahd) iE (λ_=>ahf) iE;intro cj listed cf aj sq;exact ahg cj listed (λi=>by grind) cf (by omega)
theorem ahh{n:Nat}(aw:n<=ops.size)(aU:dT C.P T)(cA:jn C.P be)(ar:∀ o∈ops.toList,lk o C.nt=true){l:List eQ}{s':aA}(aD:xi C.aN T be ops (ops.toList.take n) s=some (l,s'))(cL:zE (ops.toList.take n) l=true)(agY:∀ j,n<=j->j<ops.size->∀ i,i<n->i∈(ij ops.toList).getD j [])
  (hc:∀ r∈l,∀ p∈r.cs,p) (tW:∀ (cj:Nat) (listed:Array Bool) a' w',listed.size=ops.size->(∀ i,listed.getD i false=decide (i<n))->ops.size - n<=cj->cu C s' a' w'->wpAnyIn (dS C.r) 0 C.P .any ops Q cj listed a' w'):∀ (cj:Nat) (listed:Array Bool) (a:Act) (w:World),listed.size=ops.size->
   (∀ j o,ops[j]?=some o->listed.getD j false=true->∀ i∈h9 o,listed.getD i false=true)->(∀ i,n<=i->listed.getD i false=false)->((List.range ops.size).filter λj=>!listed.getD j false).length<=cj->
   cu C (jt l s λj=>listed.getD j false) a w->wpAnyIn (dS C.r) 0 C.P .any ops Q cj listed a w:=by
 obtain⟨hlen,r4,Dj⟩:=SV _ _ aD;have GX:(ops.toList.take n).length=n:=by grind
 have iM:∀ i,i<n->(ops.toList.take n)[i]?=ops[i]?:=λi G=>by
  grind
 simp only[zE,Bool.and_eq_true]at cL;obtain⟨rh,MC⟩:=cL;have ag3:∀ j o,j<n->ops[j]?=some o->∀ i∈h9 o,i<j:=by
  intro j o MB af i G;have:=List.all_eq_true.1 rh j (by grind);grind
 have ag4:∀ i j x y,i<j->l[i]?=some x->l[j]?=some y->((ij (ops.toList.take n)).getD j []).contains i=true\/x.apart y=true:=by
  intro i j x y zv G aE;have z1:j<l.length:=(List.getElem?_eq_some_iff.1 aE).1;have:=List.all_eq_true.1 MC j (by grind);grind
 intro cj;induction cj with
 | zero=>
  intro listed a w cf _ pg MD j_;have fR:∀ i,listed.getD i false=decide (i<n):=λi=>by
   by_cases G:i<n
   ·cases aj:listed.getD i false with
    | true=>grind
    | false=>
     exfalso;have:i∈(List.range ops.size).filter λj=>!listed.getD j false:=by
      grind
     grind
   grind
  refine tW 0 listed a w cf fR ?_ ?_
  ·by_cases cc:n<ops.size
   ·have:n∈(List.range ops.size).filter λj=>!listed.getD j false:=by
     grind
    grind
   ·omega
  ·have:jt l s (λj=>listed.getD j false)=s':=by
    rw[r4];unfold jt;rw[List.filter_eq_self.2 λp an=>?_,CO];obtain⟨_,U⟩:=zG an;grind
   grind
 | succ cj aJ=>
  intro listed a w cf qh pg MD j_;by_cases Dk:∀ i,i<n->listed.getD i false=true
  ·have fR:∀ i,listed.getD i false=decide (i<n):=λi=>by
    grind
   refine tW (cj+1) listed a w cf fR ?_ ?_
   ·have E:(List.range' n (ops.size - n)).length<=((List.range ops.size).filter λj=>!listed.getD j false).length:=by
     have e:(List.range ops.size).filter (λj=>!listed.getD j false)=List.range' n (ops.size - n):=by
      have U:(List.range ops.size).filter (λj=>!listed.getD j false)=(List.range ops.size).filter λj=>decide (n<=j):=List.filter_congr λj _=>by
       grind
      rw[U];have ah:List.range ops.size=List.range n++List.range' n (ops.size - n):=by
       rw[List.range_eq_range',List.range_eq_range'];have:=(List.range'_append (s:=0) (m:=n) (n:=ops.size - n) (step:=1))
       grind
      rw[ah,List.filter_append,List.filter_eq_nil_iff.2 λj aE=>by grind,List.filter_eq_self.2 λj aE=>by grind];rfl
     grind
    grind
   ·have:jt l s (λj=>listed.getD j false)=s':=by
     rw[r4];unfold jt;rw[List.filter_eq_self.2 λp an=>?_,CO];obtain⟨_,U⟩:=zG an;grind
    grind
  ·refine⟨λM=>absurd ?_ Dk,λi G=>?_⟩
   ·intro j;induction j using Nat.strongRecOn with
    | _ j axU=>
     intro aE;cases aj:listed.getD j false with
     | true=>rfl
     | false=>
      exfalso;have jO:j∈Region.ready .any ops listed:=by
       rw[mem_ready];refine⟨?_,ops[j],by simp,λe he W=>?_⟩
       ·grind
       ·have jm:e.on∈h9 ops[j]:=List.mem_filterMap.2 ⟨e,by grind,by grind⟩;grind
      grind
   ·rw[mem_ready]at G;obtain⟨aX,o,af,G5⟩:=G;have jm:i<ops.size:=(Array.getElem?_eq_some_iff.1 af).1;have Dh:listed.getD i false=false:=by
     grind
    have jO:o∈ops.toList:=by
     grind
    have sr:∀ k∈h9 o,listed.getD k false=true:=by
     intro k al;obtain⟨e,he,vl⟩:=List.mem_filterMap.1 al;split at vl
     ·rename_i W;cases vl;exact G5 e (by simpa using he) W
     ·cases vl
    have G:i<n:=by
     by_cases G:i<n
     ·exact G
     ·exfalso;have Di:∀ k∈(ij ops.toList).getD i [],listed.getD k false=true\/k=i:=by
       intro k al;refine xm (p:=λj=>listed.getD j false=true\/j=i) ops.toList [] (λj i G=>by simp at G) (λj hS ka k al aE=>?_) i k al (.inr rfl);have lp:ops[j]?=some hS:=by grind
       rcases (by simpa using aE:listed.getD j false=true\/j=i) with aE | aE
       ·exact .inl (qh j hS lp aE k al)
       ·subst aE;rw[af]at lp;cases lp;exact .inl (sr k al)
      grind
    obtain⟨r,M,fY⟩:=Dj i o (by grind);have ag5:∀ j k,k∈(ij (ops.toList.take n)).getD j []->listed.getD j false=true->listed.getD k false=true:=by
     refine xm (p:=λj=>listed.getD j false=true) (ops.toList.take n) [] (λj i G=>by simp at G) λj hS ka k al aE=>?_;have MB:j<n:=by grind
     exact qh j hS (by grind) (by simpa using aE) k al
    have Di:∀ k∈(ij (ops.toList.take n)).getD i [],listed.getD k false=true\/k=i:=by
     intro k al;refine xm (p:=λj=>listed.getD j false=true\/j=i) (ops.toList.take n) [] (λj i G=>by simp at G) (λj hS ka k al aE=>?_) i k al (.inr rfl);have MB:j<n:=by grind
     have lp:ops[j]?=some hS:=by grind
     rcases (by simpa using aE:listed.getD j false=true\/j=i) with aE | aE
     ·exact .inl (qh j hS lp aE k al)
     ·subst aE;rw[af]at lp;cases lp;exact .inl (sr k al)
    have gJ:∀ j x,j<i->l[j]?=some x->listed.getD j false=false->x.apart r=true:=by
     grind
    have tN:∀ j x,i<j->l[j]?=some x->listed.getD j false=true->r.apart x=true:=by
     grind
    obtain⟨aO,aR,bO⟩:=SR (s:=s) (f:=λj=>listed.getD j false) M Dh gJ tN;have ME:=SW fY aO aR;unfold wpOpIn;rw[af];refine T0 aU cA (ar o jO) ME (hc r (List.mem_of_getElem? M)) j_ λa' w' bb=>?_;have eW:∀ j,(listed.setIfInBounds i true).getD j false=if j=i then true else listed.getD j false:=by
     intro j;by_cases e:j=i
     ·subst e;rw[if_pos rfl,Array.getD_eq_getD_getElem?,Array.getElem?_setIfInBounds_self_of_lt (by omega)];rfl
     ·rw[if_neg e,getD_set_ne false (Ne.symm e)]
    refine aJ _ a' w' (by grind) (λj hS ka aE k al=>?_) (λq bt=>by rw[eW,if_neg (by omega)];grind) ?_ ?_
    ·rw[eW]at aE ⊢;split
     ·rfl
     ·split at aE
      ·rename_i e;subst e;rw[af]at ka;cases ka;exact sr k al
      ·exact qh j hS ka aE k al
    ·have cc:((List.range ops.size).filter λj=>!(listed.setIfInBounds i true).getD j false).length<((List.range ops.size).filter λj=>!listed.getD j false).length:=by
      have ax:(List.range ops.size).filter (λj=>!(listed.setIfInBounds i true).getD j false)=((List.range ops.size).filter λj=>!listed.getD j false).filter λj=>decide (j≠i):=by
       rw[List.filter_filter];apply List.filter_congr;intro j _;rw[eW];simp
      rw[ax];have MF:i∈(List.range ops.size).filter λj=>!listed.getD j false:=by
       grind
      exact List.length_filter_lt_length_iff_exists.2 ⟨i,MF,by simp⟩
     omega
    ·have:jt l s (λj=>(listed.setIfInBounds i true).getD j false)=r.h8 (jt l s λj=>listed.getD j false):=by
      rw[<-bO];congr 1;funext j;grind
     grind
theorem Ud{β:Type}{b:Bool}{p:Prop}{m:A β}{O:β->Prop}(h:A.cw (sd b p m) O):A.cw m O:=by
 cases b with
 | true=>exact h
 | false=>exact (A.kK.1 h).2
theorem ahi{gB il hI iI lT:Oper}(h:LM gB il hI iI lT=true):∃ ty m x Hd MI k c eh fJ d1 d2 kd y,gB.op=.lookup ty m x false/\il.op=.binOp .add Hd (.tmp eh) (.const (.int k c)) MI/\hI.op=.mapEntry ty m x/\iI.op=.extract (.tmp d1) 1/\
  kd.op=.mapUpdate ty m x y/\zL hI iI lT=some (kd,d1,d2)/\gB.dst=some eh/\il.dst=some fJ/\hI.dst=some d1/\iI.dst=some d2/\fS k c/\(eh≠fJ/\eh≠d1/\eh≠d2/\fJ≠d1/\fJ≠d2/\d1≠d2)/\
  (m≠.tmp eh/\m≠.tmp fJ/\m≠.tmp d1/\m≠.tmp d2)/\(x≠.tmp eh/\x≠.tmp fJ/\x≠.tmp d1/\x≠.tmp d2)/\(∃ oH,m=.tmp oH)/\(∃ MJ,x=.tmp MJ)/\gB.guard=none/\il.guard=none/\hI.guard=none/\iI.guard=none/\lT.guard=none:=by
 unfold LM at h;split at h
 ·rename_i ty m x Hd t k c MI mL dz dM iM aT lj;split at h
  ·rename_i eh fJ kd d1 d2 ss dk sq;simp only[decide_eq_true_eq]at h;obtain⟨rfl,rfl,jm,ax,aM,ec,ef,jl,n4,Dt,Ue,ey,dN,b8,a2,a3,a4,dL,eA,mG,rR,ds,dI⟩:=h;obtain⟨axV,axW,axX,axY,f1,f2,f3,f4,f5,f6,f7,f8,f9,f10,f11,f12,g1,ee,g3⟩:=TQ sq;obtain⟨oH,tV⟩:=Option.isSome_iff_exists.1 ey;obtain⟨MJ,Uf⟩:=Option.isSome_iff_exists.1 dN;have em:=vk tV;have ex:=vk Uf;have ahj:=vk (ax.trans tV);have ahk:=vk (aM.trans Uf);rw[f1]at lj;simp only[Op.mapEntry.injEq]at lj;obtain⟨rfl,rfl,rfl⟩:=lj;subst em;subst ex;subst ahj;subst ahk;refine⟨_,_,_,_,_,_,_,_,_,_,_,kd,_,iM,aT,f1,f3,f7,sq,ss,dk,f2,f4,jm,⟨ec,ef,jl,n4,Dt,Ue⟩,?_,?_,⟨_,rfl⟩,⟨_,rfl⟩,Option.isNone_iff_eq_none.1 ds,Option.isNone_iff_eq_none.1 dI,g1,ee,g3⟩
   ·simp only[h_,ne_eq,Option.some.injEq]at b8 a2 a3 a4;exact⟨λe=>b8 (by cases e;rfl),λe=>a2 (by cases e;rfl),λe=>a3 (by cases e;rfl),λe=>a4 (by cases e;rfl)⟩
   ·simp only[h_,ne_eq,Option.some.injEq]at dL eA mG rR;exact⟨λe=>dL (by cases e;rfl),λe=>eA (by cases e;rfl),λe=>mG (by cases e;rfl),λe=>rR (by cases e;rfl)⟩
  grind
 grind
theorem ahl{β:Type}{n:Nat}(sj:Gy ops.toList=true)(aw:n=ops.size - 5)(aU:dT C.P T)(cA:jn C.P be)(cZ:lV C.P C.aN Ψ)(ar:∀ o∈ops.toList,lk o C.nt=true){k:aA->A β}{O:β->Prop}
  (al:∀ s' a' w',cu C s' a' w'->A.cw (k s') O->Q .normal a' w') (hm:A.cw (mj C.aN T be Ψ ops (ops.toList.drop n) [] s k) O) :
  (n<=ops.size/\∀ j,n<=j->j<ops.size->∀ i,i<n->i∈(ij ops.toList).getD j [])/\∀ (a:Act) (w:World),cu C s a w->∀ (cj:Nat) (listed:Array Bool),listed.size=ops.size->(∀ i,listed.getD i false=decide (i<n))->ops.size - n<=cj->wpAnyIn (dS C.r) 0 C.P .any ops Q cj listed a w:=by
 unfold Gy at sj;rw[show ops.toList.length - 5=n by grind]at sj;split at sj
 ·rename_i gB il hI iI lT Ug;simp only[Bool.and_eq_true,List.all_eq_true,List.mem_range,List.contains_eq_mem,decide_eq_true_eq,Bool.or_eq_true]at sj;obtain⟨ahm,⟨⟨⟨⟨⟨rh,gJ⟩,MG⟩,T4⟩,z7⟩,T5⟩,T6⟩:=sj;have T3:ops.size=n+5:=by
   have:=congrArg List.length Ug;grind
  have Dv:∀ q (o:Oper),[gB,il,hI,iI,lT][q]?=some o->ops[n+q]?=some o:=λq o h=>by
   grind
  have xN:=Dv 0 gB rfl;have vm:=Dv 1 il rfl;have z6:=Dv 2 hI rfl;have Dm:=Dv 3 iI rfl;have Dn:=Dv 4 lT rfl;have mem:∀ {q o},ops[n+q]?=some o->o∈ops.toList:=λh=>by
   grind
  obtain⟨ty,m,x,Hd,MI,fk,c,eh,fJ,d1,d2,kd,y,iM,aT,lj,zW,h',tw,ss,dk,Ds,Hb,jm,⟨ec,ef,jl,n4,Dt,Ue⟩,⟨m1,m2,m3,m4⟩,⟨w6,w5,Uh,ahn⟩,⟨oH,em⟩,⟨MJ,ex⟩,Dp,Dq,G7,G8,G9⟩:=ahi ahm;have Dr:∀ c,gB.op≠.defer c:=by grind
  have G_:∀ c,il.op≠.defer c:=by grind
  have G':∀ c,hI.op≠.defer c:=by grind
  have Ha:∀ c,iI.op≠.defer c:=by grind
  refine⟨⟨by omega,λj E U i G=>by have:=gJ (j - n) (by omega) i G;simp_all⟩,λa w M cj listed cf aj sq=>?_⟩;have Ui:=My (Q:=Q) aU cA cZ ar al _ n [] s a w rfl (λp an=>by cases an) M hm;rw[show (ops.toList.drop n).length=5 by grind]at Ui;rw[Ug]at hm;obtain⟨κ,F,eX⟩:=M;have gd:∀ {o:Oper},o.guard=none->∀ s:aA,kv s.ay ops o.guard=some none:=λh s=>by rw[h];rfl
  have Uj:∀ {o:Oper} {os},(∀ ty m x,o.op≠.mapEntry ty m x)->zM o os=none:=λ{o os} h=>by
   unfold zM;split
   ·unfold zL;simp
   ·rfl
  have GX:zM gB [il,hI,iI,lT]=none:=Uj (by grind);unfold mj at hm;rw[GX]at hm;simp only[gd Dp]at hm;split at hm
  ·rename_i tX He;rw[so λW=>(GY (s:=s) (λp an=>by cases an) (gk:=none) (λk al=>by cases al) W).run s.aa tX He,so λW=>(zC W).run s.aa tX He]at hm;obtain⟨MK,aho,hm⟩:=hm;have ahp:=xh aU cA (ar gB (mem xN)) He;have xO:=He;simp only[bw,iM,y']at xO;have ahq:(use (a7 C.aN s.ay m)).1/\(use (a7 C.aN s.ay x)).1/\tX.hE=[]/\∃ v u,tX.e_=.val v u:=by
    split at xO
    ·rename_i jq axZ ax0;split at xO
     ·simp only[aq.e4,Option.bind_eq_some_iff,bP,aq.bN,Option.some.injEq]at xO;obtain⟨es,pd,⟨y,l⟩,aS,rfl⟩:=xO;exact⟨MK.1,MK.2,rfl,_,_,rfl⟩
     ·cases xO
    ·cases xO
   obtain⟨Mz,MA,Uk,Ul,Um,ahr⟩:=ahq;have ahs:zM il [hI,iI,lT]=none:=Uj (by grind);unfold mj at hm;rw[ahs]at hm;simp only[gd Dq]at hm;split at hm
   ·rename_i ML aht;have hm:=Ud (Ud hm);have vn:=aht;have ax:(s.h7 gB.dst tX).ay eh=.val Ul Um:=by rw[ss,aA.h7,aA.Mw,ahr]
    have lS:w1 (.int fk c)=.val (.int fk) c:=by simp[w1,jm]
    have ahu:∃ b8,Ul=.int fk/\ML.hE=[]/\b8=Um:=by
     simp only[bw,aT,a7,ax,lS,use,aG.me,aG.tp]at vn;split at vn
     ·rename_i aO b8 aR dL E U;split at E
      ·rename_i bO Uh ah;cases U;cases ah;cases E;split at vn
       ·rename_i u2;simp only[y7,bP,aq.bN,Option.some.injEq]at vn;grind
       ·cases vn
      grind
     ·rename_i pg;exfalso;split at vn
      ·grind
      ·simp only[aq.e4,Option.bind_eq_some_iff]at vn;obtain⟨⟨c',h4⟩,E,U⟩:=vn;simp only[y8,aq.e4,Option.bind_eq_some_iff,aq.bN]at E;grind
    obtain⟨lq,rfl,Un,rfl⟩:=ahu;have iF:((s.h7 gB.dst tX).h7 il.dst ML).aa=s.aa:=by
     simp only[aA.h7,Uk,Un,aA.ga,ss,dk,aA.set]
    have eH:∀ {t:Nat},t≠eh->t≠fJ->((s.h7 gB.dst tX).h7 il.dst ML).ay t=s.ay t:=λ{t} E U=>by
     simp only[aA.h7,Uk,Un,aA.ga];rw[aA.De (by grind),aA.De (by grind)]
    unfold mj at hm;rw[show zM hI [iI,lT]=some (kd,d1,d2) from tw]at hm;simp only at hm;split at hm
    ·rename_i ax1 ahv;obtain⟨u,mo,wE,Uo⟩:=agU (s:=s) aU iM lj h' iF (by rw[em];exact eH (λe=>m1 (by grind)) (λe=>m2 (by grind))) (by rw[ex];exact eH (λe=>w6 (by grind)) (λe=>w5 (by grind))) ahv eX Mz MA;have ahw:=(Uo a rfl rfl).1;have ahx:=Dl (K:=λa' w'=>cu C (s.h7 gB.dst tX) a' w') (Q:=Q) Dr ahw (ahp a w κ F Q eX MK aho);have Up:eh<a.tmps.size:=by
      have:=ar gB (mem xN);simp only[lk,Bool.and_eq_true]at this;have:=this.1;rw[ss]at this;have E:=eX.dH;grind
     have ax2:d1<a.tmps.size:=by
      have:=ar hI (mem z6);simp only[lk,Bool.and_eq_true]at this;have:=this.1;rw[Ds]at this;have E:=eX.dH;grind
     have hu:u=.int fk lq:=by
      obtain⟨afQ,zZ,gK⟩:=ahx;have E:=gK.bT eh;rw[ax,ss]at E;have U:(a.put (some eh) u).tmps.getD eh Go.undef=u:=Da Up;rw[U]at E;exact (gS.1 E).1
     subst hu;let vB:Value:=.int fk (fk.wrap (lq+c));have ahy:∀ (a':Act) (w':World),a'.eval (.tmp eh)=.int fk lq->(execOp a'.eval il).run C.P w'=.ok (.value vB) w':=λa' w' h=>by
      have U:a'.eval (.const (.int fk c))=.int fk c:=rfl;have ah:(Go.binOp .add Hd (.int fk lq) (.int fk c)).run C.P w'=.ok vB w':=by simp[Go.binOp,Op.intArith,vB]
      simp only[execOp,aT,h,U,Sem.run_bind,RR,Result.andThen_ok,ah,Sem.run_pure]
     have ahz:∀ (a':Act) (w':World),a'.eval (.tmp d1)=.tuple #[.int fk lq,goInt mo]->(execOp a'.eval iI).run C.P w'=.ok (.value (goInt mo)) w':=λa' w' h=>by
      simp[execOp,zW,h,Instr.extract]
     have Mo:∀ l b e dM,(mn a eh fJ d1 d2 (.int fk lq) vB (.tuple #[.int fk lq,goInt mo]) (goInt mo) l b e dM).eval m=a.eval m:=λl b e dM=>T2 m1 m2 m3 m4;have ahA:∀ l b e dM,(mn a eh fJ d1 d2 (.int fk lq) vB (.tuple #[.int fk lq,goInt mo]) (goInt mo) l b e dM).eval x=a.eval x:=λl b e dM=>T2 w6 w5 Uh ahn;refine ag8 (wE:=wE) (u:=.int fk lq) (vB:=vB) (vE:=.tuple #[.int fk lq,goInt mo]) (vX:=goInt mo) T3 rh xN vm z6 Dm Dn Dp Dq G7 G8 G9 Dr G_ G' Ha gJ MG T4 z7 T5 T6 ss dk Ds Hb ec ef jl n4 Dt ?_ ?_ ?_ ?_ Ui cj listed cf aj (by omega)
     ·intro b e dM;have:=Uo _ (Mo false b e dM) (ahA false b e dM);cases e
      ·exact this.1
      ·exact this.2.1
     ·intro e dM;refine ahy _ _ ?_;have E:(mn a eh fJ d1 d2 (.int fk lq) vB (.tuple #[.int fk lq,goInt mo]) (goInt mo) true false e dM).eval (.tmp eh)=(a.put (some eh) (.int fk lq)).eval (.tmp eh):=by
       have ds:Operand.tmp eh≠.tmp d1:=λh=>ef (by grind);have dI:Operand.tmp eh≠.tmp d2:=λh=>jl (by grind);unfold mn;cases e<;>cases dM<;>simp[zY,ds,dI]
      rw[E];exact Da Up
     ·grind
     ·intro l b;refine ahz _ _ ?_;have E:mn a eh fJ d1 d2 (.int fk lq) vB (.tuple #[.int fk lq,goInt mo]) (goInt mo) l b true false=(mn a eh fJ d1 d2 (.int fk lq) vB (.tuple #[.int fk lq,goInt mo]) (goInt mo) l b false false).put (some d1) (.tuple #[.int fk lq,goInt mo]):=rfl;rw[E];exact Da (by rw[ag7];omega)
    ·exact hm.1.elim
   ·rename_i ax3;exfalso;have:q6 C.aN T be Ψ (s.h7 gB.dst tX) il=none:=by
     have lS:w1 (.int fk c)=.val (.int fk) c:=by simp[w1,jm]
     simp only[q6,aT,CW,a7,lS];simp
    rw[this]at hm;exact hm.1
  ·exfalso;have:q6 C.aN T be Ψ s gB=none:=by simp only[q6,iM]
   rw[this]at hm;exact hm.1
 grind
theorem ahB{β:Type}{L:List (aA->A β)}(iM:L≠[]){o:Oper}(aU:dT C.P T)(cA:jn C.P be)(cZ:lV C.P C.aN Ψ)(xL:lk o C.nt=true){O:β->Prop}{s:aA}{a:Act}{w:World}(M:cu C s a w)
  (hm:∀ k∈L,A.cw (GA C.aN T be Ψ ops o s k) O) {K:Act->World->Prop} (iL:∀ s' a' w',cu C s' a' w'->(∀ k∈L,A.cw (k s') O)->K a' w'):o.guard=none/\o.wpIn (dS C.r) 0 C.P a w K Q:=by
 obtain⟨gV,mV⟩:=List.exists_mem_of_ne_nil L iM;have bf:∀ i,o.dst=some i->i<C.nt:=λi G=>by
  have:=xL;simp only[lk,Bool.and_eq_true]at this;grind
 unfold GA at hm;split at hm
 ·exact (hm gV mV).1.elim
 ·rename_i aB;refine⟨aB,?_⟩;split at hm
  ·rename_i res gp;obtain⟨κ,F,eX⟩:=M;have hm:∀ k∈L,res.ca/\res.c/\A.cw (k (s.h7 o.dst res)) O:=λk al=>by
    have:=hm k al;rw[so λW=>(GY (ops:=ops) (tg:=[]) (s:=s) (λp an=>by cases an) (gk:=none) (λk al=>by cases al) W).run s.aa res gp,so λW=>(zC W).run s.aa res gp]at this;omega
   exact Oper.wpIn_mono (λa' w' bb=>iL _ a' w' bb λk al=>(hm k al).2.2) (xh aU cA xL gp a w κ F Q eX (hm gV mV).1 (hm gV mV).2.1)
  ·split at hm
   ·rename_i cd oG;obtain⟨jJ,p7,mh⟩:=Ms aU cA cZ bf oG;have hm:∀ k∈L,cd.ca/\A.cw cd.m λy=>A.cw (k (cd.st y)) O:=λk al=>by
     have:=hm k al;rw[so λW=>mh (Lc W),A.f']at this;omega
    refine jJ a w Q _ M (hm gV mV).1 ⟨(hm gV mV).2.1,λy aS a' w' bb=>iL _ a' w' bb λk al=>(hm k al).2.2 y aS⟩
   ·exact (hm gV mV).1.elim
theorem ahC{ops:List Oper}{done:List Nat}{i:Nat}:i∈vg ops done<->i<ops.length/\i ∉ done/\∃ o,ops[i]?=some o/\∀ j∈h9 o,j∈done:=by
 unfold vg;grind
theorem Uq{ops:List Oper}:∀ (f:Nat) (done:List Nat),q7 ops f done≠[]
 | 0,done=>by simp[q7]
 | f+1,done=>by
  unfold q7;split
  ·simp
  ·rename_i l aj;cases hc:vg ops done with
   | nil=>grind
   | cons i cb=>
    rw[List.flatMap_cons];intro h;rw[List.append_eq_nil_iff,List.map_eq_nil_iff]at h;exact Uq f _ h.1
theorem Ur{listed:Array Bool}{done:List Nat}(cf:listed.size=ops.size)(aj:∀ i,listed.getD i false=done.contains i):Region.ready .any ops listed=vg ops.toList done:=by
 unfold Region.ready vg;rw[Array.length_toList];refine List.filter_congr λi G=>?_;have G:i<ops.size:=by grind
 have E:listed.getD i true=done.contains i:=by
  grind
 rw[E];congr 1;have af:ops.toList[i]?=some ops[i]:=by simp
 rw[af,Array.getElem?_eq_getElem G];show ops[i].after.all _=(h9 ops[i]).all _;rw[Bool.eq_iff_iff,Array.all_eq_true',List.all_eq_true];unfold h9;grind
theorem ahD{β:Type}(aU:dT C.P T)(cA:jn C.P be)(cZ:lV C.P C.aN Ψ)(ar:∀ o∈ops.toList,lk o C.nt=true){k:aA->A β}{O:β->Prop}(al:∀ s' a' w',cu C s' a' w'->A.cw (k s') O->Q .normal a' w'):∀ (cj:Nat) (done:List Nat) (listed:Array Bool) (s:aA) (a:Act) (w:World),listed.size=ops.size->(∀ i,listed.getD i false=done.contains i)->Gz ops.toList cj done=true->
  cu C s a w->(∀ l∈q7 ops.toList cj done,A.cw (zO C.aN T be Ψ ops l s k) O)->wpAnyIn (dS C.r) 0 C.P .any ops Q cj listed a w:=by
 intro cj;induction cj with
 | zero=>
  intro done listed s a w cf aj aB M hm;have oz:=Ur (ops:=ops) cf aj;refine⟨?_,al s a w M (hm [] (by simp[q7]))⟩;rw[oz];exact List.isEmpty_iff.1 aB
 | succ cj aJ=>
  intro done listed s a w cf aj aB M hm;have oz:=Ur (ops:=ops) cf aj;refine⟨λaX=>?_,λi G=>?_⟩
  ·rw[oz]at aX;refine al s a w M (hm [] ?_);unfold q7;grind
  ·rw[oz]at G;obtain⟨p9,jm,o,af,_⟩:=ahC.1 G;have p9:i<ops.size:=by omega
   have ka:ops[i]?=some o:=by grind
   have ahE:o∈ops.toList:=List.mem_of_getElem? af;have jO:∀ l∈q7 ops.toList cj (i::done),A.cw (GA C.aN T be Ψ ops o s λs'=>zO C.aN T be Ψ ops l s' k) O:=λl hle=>by
    have:=hm (i::l) (by
     unfold q7;grind)
    unfold zO at this;grind
   obtain⟨g1,ee⟩:=ahB (Q:=Q) (L:=(q7 ops.toList cj (i::done)).map λl=>λs'=>zO C.aN T be Ψ ops l s' k) (by simpa using Uq cj (i::done)) aU cA cZ (ar o ahE) M
    (λk' ahF=>by obtain⟨l,hle,rfl⟩:=List.mem_map.1 ahF;exact jO l hle)
    (K:=wpAnyIn (dS C.r) 0 C.P .any ops Q cj (listed.setIfInBounds i true)) λs' a' w' bb Tp=>by
     refine aJ (i::done) _ s' a' w' (by grind) (λj=>?_) ?_ bb λl hle=>Tp _ (List.mem_map.2 ⟨l,hle,rfl⟩)
     ·by_cases e:j=i
      ·simp_all
      ·rw[getD_set_ne false (Ne.symm e),aj j];simp[e]
     ·unfold Gz at aB;grind
   unfold wpOpIn;rw[ka];simp only;have hw:Region.wanted o (yielded ops a.tmps)=true:=by unfold Region.wanted;rw[g1]
   grind
theorem Us{β:Type}(aU:dT C.P T)(cA:jn C.P be)(cZ:lV C.P C.aN Ψ)(ar:∀ o∈ops.toList,lk o C.nt=true){k:aA->A β}{O:β->Prop}
  (al:∀ s' a' w',cu C s' a' w'->A.cw (k s') O->Q .normal a' w') {a:Act} {w:World} (M:cu C s a w) (hm:A.cw (zP C.aN T be Ψ ops s k) O):wpAnyIn (dS C.r) 0 C.P .any ops Q ops.size (Array.replicate ops.size false) a w.drew:=by
 unfold zP at hm;split at hm
 ·rename_i l s' aD;split at hm
  ·rename_i cL;obtain⟨E,U⟩:=TY _ hm;obtain⟨κ,F,eX⟩:=M;refine ag2 aU cA ar aD cL (λr M p an=>E p (List.mem_flatMap.2 ⟨r,M,an⟩)) (λa' w' bb=>al s' a' w' bb U) ops.size (Array.replicate ops.size false) a _ (by simp) (λj o _ aj=>?_) ?_ ⟨κ,F,?_⟩
   ·have:(Array.replicate ops.size false).getD j false=false:=by
     rw[Array.getD_eq_getD_getElem?,Array.getElem?_replicate];grind
    grind
   ·grind
   ·have:jt l s (λj=>(Array.replicate ops.size false).getD j false)=s:=by
     unfold jt;rw[List.filter_eq_nil_iff.2 λp _=>?_]
     ·rfl
     ·simp only[Array.getD_eq_getD_getElem?,Array.getElem?_replicate];grind
    rw[this];exact eX.drew
  ·exact hm.1.elim
 ·split at hm
  ·rename_i l s' aD;split at hm
   ·rename_i cL;rw[Bool.and_eq_true]at cL;obtain⟨E,U⟩:=TY _ hm;obtain⟨κ,F,eX⟩:=M;have cont:(lU ops.toList<=ops.size/\∀ j,lU ops.toList<=j->j<ops.size->∀ i,i<lU ops.toList->i∈(ij ops.toList).getD j [])/\∀ (cj:Nat) (listed:Array Bool) a' w',listed.size=ops.size->(∀ i,listed.getD i false=decide (i<lU ops.toList))->ops.size - lU ops.toList<=cj->cu C s' a' w'->wpAnyIn (dS C.r) 0 C.P .any ops Q cj listed a' w':=by
     by_cases sj:Gy ops.toList=true
     ·have MM:lU ops.toList=ops.size - 5:=by unfold lU;grind
      obtain⟨ax,aM⟩:=ahl (Q:=Q) sj MM aU cA cZ ar al U;grind
     ·have MM:lU ops.toList=zN (ij ops.toList) ops.toList.length:=by unfold lU;grind
      obtain⟨p_,hX⟩:=T1 (ij ops.toList) ops.toList.length;have p_:lU ops.toList<=ops.size:=by grind
      have hX:∀ j,lU ops.toList<=j->j<ops.size->∀ i,i<j->i∈(ij ops.toList).getD j []:=λj E U=>hX j (by omega) (by omega);refine⟨⟨p_,λj E U i G=>hX j E U i (by omega)⟩,λcj listed a' w' cf fR sq bb=>?_⟩;refine agX cL.2 hX (ops.size - lU ops.toList) (lU ops.toList) cj listed a' w' (Nat.le_refl _) (by omega) cf fR sq ?_;have hlen:(ops.toList.drop (lU ops.toList)).length=ops.size - lU ops.toList:=by simp
      rw[<-hlen];exact My (Q:=Q) aU cA cZ ar al _ _ [] s' a' w' rfl (λp an=>by cases an) bb U
    obtain⟨⟨p_,hX⟩,ax4⟩:=cont;refine ahh p_ aU cA ar aD cL.1 hX (λr M p an=>E p (List.mem_flatMap.2 ⟨r,M,an⟩)) (λcj listed a' w' cf fR sq bb=>?_) ops.size (Array.replicate ops.size false) a _ (by simp) (λj o _ aj=>?_) (λi _=>?_) ?_ ⟨κ,F,?_⟩
    ·grind
    ·have:(Array.replicate ops.size false).getD j false=false:=by
      rw[Array.getD_eq_getD_getElem?,Array.getElem?_replicate];grind
     grind
    ·rw[Array.getD_eq_getD_getElem?,Array.getElem?_replicate];grind
    ·grind
    ·have:jt l s (λj=>(Array.replicate ops.size false).getD j false)=s:=by
      unfold jt;rw[List.filter_eq_nil_iff.2 λp _=>?_]
      ·rfl
      ·simp only[Array.getD_eq_getD_getElem?,Array.getElem?_replicate];grind
     rw[this];exact eX.drew
   ·exact hm.1.elim
  ·unfold S' at hm;split at hm
   ·rename_i zl;obtain⟨κ,F,eX⟩:=M;refine ahD aU cA cZ ar al ops.size [] (Array.replicate ops.size false) s a _ (by simp) (λi=>?_) zl ⟨κ,F,eX.drew⟩ λl hle=>⟨hm.1 _ (List.mem_map.2 ⟨l,hle,rfl⟩),λy aS=>hm.2 y ⟨_,List.mem_map.2 ⟨l,hle,rfl⟩,aS⟩⟩
    rw[Array.getD_eq_getD_getElem?,Array.getElem?_replicate];grind
   ·exact hm.1.elim
theorem ahG{β:Type}{id:Nat}(en:C.P.follows .mixedOrders=true)(aU:dT C.P T)(cA:jn C.P be)(cZ:lV C.P C.aN Ψ)(ar:∀ o∈ops.toList,lk o C.nt=true){k:aA->A β}{O:β->Prop}
  (al:∀ s' a' w',cu C s' a' w'->A.cw (k s') O->Q .normal a' w') {a:Act} {w:World} (M:cu C s a w) (hm:A.cw (zP C.aN T be Ψ ops s k) O):(Code.region id ops true).wpIn (dS C.r) 0 C.P Q a w:=
 wpIn_region_any en (Us aU cA cZ ar al M hm)
theorem z8{ops:Array Oper}{j:Nat}{o:Oper}(h:ops[j]?=some o):(ln ops.toList).toArray[j]?=some (if j=0 then o else { o with after:=o.after.push ⟨0,.phase⟩ }):=by
 obtain⟨l⟩:=ops;cases l with
 | nil=>simp at h
 | cons x l=>
  cases j with
  | zero=>simpa [ln]using h
  | succ j=>
   simp only[List.getElem?_toArray,List.getElem?_cons_succ]at h;simp[ln,h]
theorem MN(ops:Array Oper):(ln ops.toList).toArray.size=ops.size:=by
 obtain⟨l⟩:=ops;cases l<;>simp[ln]
theorem ahH{ops:Array Oper}{j:Nat}{hR:Oper}(h:(ln ops.toList).toArray[j]?=some hR):∃ o,ops[j]?=some o/\hR=if j=0 then o else { o with after:=o.after.push ⟨0,.phase⟩ }:=by
 have aE:j<ops.size:=by rw[<-MN];exact (Array.getElem?_eq_some_iff.1 h).1
 have:=z8 (ops:=ops) (j:=j) (o:=ops[j]) (by simp[aE]);rw[h]at this;cases this;exact⟨ops[j],by simp[aE],rfl⟩
theorem ahI(ops:Array Oper):yielded (ln ops.toList).toArray=yielded ops:=by
 funext t j;unfold yielded;cases h:ops[j]? with
 | none=>
  have:(ln ops.toList).toArray[j]?=none:=by
   rw[Array.getElem?_eq_none_iff,MN];exact Array.getElem?_eq_none_iff.1 h
  rw[this]
 | some o=>
  rw[z8 h];by_cases aE:j=0
  ·rw[if_pos aE]
  ·rw[if_neg aE];rfl
theorem ahJ{F:Fence}{P:Program}:∀ (cj:Nat) (listed:Array Bool) (a:Act) (w:World),listed.getD 0 false=true->wpAnyIn F 0 P .any (ln ops.toList).toArray Q cj listed a w->wpAnyIn F 0 P .any ops Q cj listed a w:=by
 have oz:∀ (listed:Array Bool),listed.getD 0 false=true->∀ i,i∈Region.ready .any ops listed->i∈Region.ready .any (ln ops.toList).toArray listed:=by
  intro listed aX i G;rw[mem_ready]at G ⊢;obtain⟨E,o,af,U⟩:=G;refine⟨E,_,z8 af,λe he W=>?_⟩;split at he
  ·exact U e he W
  ·rcases Array.mem_push.1 he with he | rfl
   ·exact U e he W
   ·exact aX
 have ahK:∀ (listed:Array Bool),Region.ready .any ops listed=[]->Region.ready .any (ln ops.toList).toArray listed=[]:=by
  intro listed h;rw[List.eq_nil_iff_forall_not_mem]at h ⊢;intro i G;refine h i ?_;rw[mem_ready]at G ⊢;obtain⟨E,hR,af,U⟩:=G;obtain⟨o,ka,rfl⟩:=ahH af;refine⟨E,o,ka,λe he W=>U e ?_ W⟩;split
  ·exact he
  ·exact Array.mem_push_of_mem _ he
 have ahL:∀ (listed:Array Bool),listed.getD 0 false=true->Region.ready .any (ln ops.toList).toArray listed=[]->Region.ready .any ops listed=[]:=by
  intro listed aX h;rw[List.eq_nil_iff_forall_not_mem]at h ⊢;exact λi G=>h i (oz listed aX i G)
 intro cj;induction cj with
 | zero=>
  intro listed a w aX h;exact⟨ahL listed aX h.1,h.2⟩
 | succ cj aJ=>
  intro listed a w aX h;refine⟨λM=>h.1 (ahK listed M),λi G=>?_⟩;have al:=h.2 i (oz listed aX i G);have next:∀ a w,wpAnyIn F 0 P .any (ln ops.toList).toArray Q cj (listed.setIfInBounds i true) a w->wpAnyIn F 0 P .any ops Q cj (listed.setIfInBounds i true) a w:=λa w=>aJ _ a w (getD_set_true aX)
  have al:=wpOpIn_mono next al
  unfold wpOpIn at al ⊢;rw[mem_ready]at G;obtain⟨_,o,af,_⟩:=G;rw[af];rw[z8 af,ahI]at al;by_cases oA:i=0
  ·rw[if_pos oA]at al;exact al
  ·rw[if_neg oA]at al;exact al
theorem ahM{β:Type}{id:Nat}(en:C.P.follows .mixedOrders=true)(ahN:C.r=none)(ao:LN ops=true)(aU:dT C.P T)(cA:jn C.P be)(cZ:lV C.P C.aN Ψ)(ar:∀ o∈ops.toList,lk o C.nt=true){k:aA->A β}{O:β->Prop}
  (al:∀ s' a' w',cu C s' a' w'->A.cw (k s') O->Q .normal a' w') {a:Act} {w:World} (M:cu C s a w) (hm:A.cw (zP C.aN T be Ψ (ln ops.toList).toArray s k) O):(Code.region id ops true).wpIn (dS C.r) 0 C.P Q a w:=by
 refine wpIn_mono (Q:=λe a w=>e=.normal/\Q e a w) (wpIn_region_any en ?_) λe a w h=>h.2;have ik:=Us (Q:=λe a w=>e=.normal/\Q e a w) (ops:=(ln ops.toList).toArray) aU cA cZ (λo af=>?_) (λs' a' w' E U=>⟨rfl,al s' a' w' E U⟩) M hm
 ·rw[MN]at ik;have ri:(dS C.r).round=none:=by rw[ahN];rfl
  unfold LN at ao;split at ao
  ·cases ao
  ·rename_i o l aj;simp only[Bool.and_eq_true,List.all_eq_true,Bool.or_eq_true]at ao;obtain⟨E,U,ah,a1,bK⟩:=ao;have aX:ops[0]?=some o:=by rw[<-Array.getElem?_toList,aj];rfl
   obtain⟨m,hm⟩:∃ m,ops.size=m+1:=⟨l.length,by rw[<-Array.length_toList,aj];rfl⟩
   rw[hm]at ik ⊢;have aB:o.guard=none:=by simpa using U
   have iN:∀ (ops:Array Oper),ops[0]?=some o->0∈Region.ready .any ops (Array.replicate (m+1) false):=λops h=>by
    rw[mem_ready];refine⟨by simp,o,h,λe he=>?_⟩;rw[Array.isEmpty_iff.1 ah]at he;simp at he
   have kQ:∃ x,o.op=.move x:=by
    revert E;cases o.op<;>simp
   obtain⟨x,ag⟩:=kQ;have aS:YieldsFenced C.P ops o (a.eval x) a:=⟨.inl ⟨by unfold Region.wanted;rw[aB],λw=>by simp[execOp,ag]⟩,λw=>by unfold Oper.about;rw[ag]⟩
   have fY:=ik.2 0 (iN _ (by rw[z8 aX];rfl));unfold wpOpIn at fY;rw[z8 aX]at fY;simp only[if_true]at fY;rw[show Region.wanted o (yielded (ln ops.toList).toArray a.tmps)=true by unfold Region.wanted;rw[aB],if_pos rfl]at fY;have fY:wpAnyIn (dS C.r) 0 C.P .any (ln ops.toList).toArray (λe a w=>e=.normal/\Q e a w) m ((Array.replicate (m+1) false).setIfInBounds 0 true) (a.put o.dst (a.eval x)) w.drew:=by
    have:=fY.2;rw[ri,Oper.semAt_none]at this;simpa [execOp,ag,Oper.uponIn]using this
   refine wpAnyIn_first ri aX (Region.noSelect_spec a1) (λc a w h=>by cases h.1) m _ a _ (λj re Ut ahO _ he=>?_) (iN _ aX) aS (ahJ m _ _ _ (by simp) fY);have jO:re∈l:=by
    rw[<-Array.getElem?_toList,aj]at Ut;cases j with
    | zero=>exact absurd rfl ahO
    | succ j=>exact List.mem_of_getElem? Ut
   rcases bK re jO with h | h
   ·exfalso;have h:0∈h9 re:=by simpa using h
    obtain⟨e,ahP,xf⟩:=List.mem_filterMap.1 h;split at xf
    ·rename_i W;exact he e (by simpa using ahP) W (by simpa using xf)
    ·cases xf
   ·exact h
 ·have af:o∈(ln ops.toList):=by simpa using af
  obtain⟨ol⟩:=ops;cases ol with
  | nil=>cases af
  | cons x l=>
   rcases List.mem_cons.1 af with rfl | af
   ·exact ar _ (by simp)
   ·obtain⟨p,an,rfl⟩:=List.mem_map.1 af;have:=ar p (by simp[an]);exact this
end
end Go.Fer
namespace Go.Fer
open Go.RowKit
theorem gC{β:Type}{O:β->Prop}(h:A.cw (A.fail:A β) O):False:=h.1
theorem tY{β:Type}{sh:dK}{s:aA}{k:sh.ai->A β}{O:β->Prop}(h:A.cw (sh.mZ s k) O):∃ D,sh.jb s=some D/\A.cw (k D) O:=by
 unfold dK.mZ at h;split at h
 ·grind
 ·exact (gC h).elim
def oJ(B:Nat):Deferred:={ target:=.collected B,args:=#[] }
structure nZ where
 w:World
 K:Nat->Prop
 ms:List Nat
def b9.hl(C:b9)(u:nZ):b9:={ C with w0:=u.w,K0:=u.K,dfr:=u.ms.map oJ++C.dfr }
structure b9.jP(C:b9)(u:nZ):Prop where
 su:∀ B∈u.ms,u.K B/\u.w.heap[B]?=some (.deferred (some []))
 ez:∀ B∈u.ms,¬C.K0 B/\C.w0.heap.size<=B
 mq:u.ms.Nodup
 gV:∀ r,C.K0 r->u.K r
 eH:∀ r,C.K0 r->u.w.heap[r]?=C.w0.heap[r]?
 size:C.w0.heap.size<=u.w.heap.size
 eu:dd C.w0 u.w
def b9.hF(C:b9):nZ:=⟨C.w0,C.K0,[]⟩
theorem b9.vo(C:b9):C.jP C.hF:=⟨λ_ h=>by simp[b9.hF]at h,λ_ h=>by simp[b9.hF]at h,List.nodup_nil,λ_ h=>h,λ_ _=>rfl,Nat.le_refl _,dd.refl _⟩
def nZ.then(u v:nZ):nZ:=⟨v.w,v.K,v.ms++u.ms⟩
theorem b9.z_(C:b9)(u v:nZ):(C.hl u).hl v=C.hl (u.then v):=by
 simp[b9.hl,nZ.then]
theorem b9.jP.then{C:b9}{u v:nZ}(h:C.jP u)(k:(C.hl u).jP v):C.jP (u.then v) where
 su:=λB aT=>by
  rcases List.mem_append.1 aT with aT | aT
  ·exact k.su B aT
  ·obtain⟨E,U⟩:=h.su B aT;exact⟨k.gV B E,(k.eH B E).trans U⟩
 ez:=λB aT=>by
  rcases List.mem_append.1 aT with aT | aT
  ·obtain⟨E,U⟩:=k.ez B aT;exact⟨λah=>E (h.gV B ah),Nat.le_trans h.size U⟩
  ·exact h.ez B aT
 mq:=List.nodup_append.2 ⟨k.mq,h.mq,λa a8 b W e=>(k.ez a a8).1 (e ▸ (h.su b W).1)⟩
 gV:=λr M=>k.gV r (h.gV r M)
 eH:=λr M=>(k.eH r (h.gV r M)).trans (h.eH r M)
 size:=Nat.le_trans h.size k.size
 eu:=h.eu.trans k.eu
theorem bl.Uu{C:b9}{s:aA}{a:Act}{w:World}{κ:Nat->bD}{F F':Nat->Prop}(h:bl C s a w κ F){w0 w':World}{F0 K0:Nat->Prop}{nt:Nat}{dfr:List Deferred}{r:Option Nat}{sl:Nat->aG}{a':Act}
    (MO:a'.tmps.size=nt) (MP:a'.defers=dfr) (rj:nt<=eS) (fm:∀ i,bB C.P s.aa κ F w (sl i) (a'.tmps.getD i undef)) (pg:∀ l aK L n st,sl b4≠.aV l aK L n st)
    (heq:∀ r,F r\/(∃ b,(s.aa b).body.b1 (κ b)=true/\(κ b).aa=r)->w'.heap[r]?=w.heap[r]?) (cf:w.heap.size<=w'.heap.size)
    (bn:∀ r,F r->F' r) (jj:∀ r,F' r->r<w'.heap.size) (Dw:∀ b,(s.aa b).body.b1 (κ b)=true->¬F' (κ b).aa)
    (MQ:∀ r,F' r->F0 r\/¬K0 r) (MR:∀ r,F0 r->F' r) (Dx:∀ r,K0 r->r<w0.heap.size) (tZ:∀ r,K0 r->w'.heap[r]?=w0.heap[r]?) (gm:∀ b,(s.aa b).body.b1 (κ b)=true->¬K0 (κ b).aa)
    (na:w0.heap.size<=w'.heap.size) (hc:dd w0 w') :
    bl { C with w0:=w0,F0:=F0,K0:=K0,nt:=nt,dfr:=dfr,r:=r } ⟨sl,s.aa⟩ a' w' κ F':=by
  have he:c7 F w w':=⟨cf,λr M=>heq r (.inl M)⟩
  exact {
          dH:=MO,dfr:=MP,bT:=λi=>bB.later (fq.refl _ _) bn he (fm i)
          bF:=λb=>cE.k9 (h.bF b) (fq.refl _ _) bn he rfl rfl λaf=>heq _ (.inr ⟨b,af,rfl⟩)
          own:=λb W=>⟨Nat.lt_of_lt_of_le (h.own b W).1 cf,Dw b W,gm b W⟩,inj:=h.inj,dc:=jj
          hh:=MQ,hQ:=MR,hs:=Dx,eH:=tZ,size:=na,eu:=hc,gl:=rj,km:=h.km,jE:=h.jE,j2:=h.j2,kn:=h.kn,eM:=λl aK L n st e=>(pg l aK L n st e).elim,jF:=h.jF,iB:=h.iB.mono bn he }
theorem bl.vp{C:b9}{s:aA}{a:Act}{w:World}{κ:Nat->bD}{F:Nat->Prop}(h:bl C s a w κ F){w0 w':World}{F0 K0:Nat->Prop}{nt:Nat}{dfr:List Deferred}{r:Option Nat}{sl:Nat->aG}{a':Act}
  (MO:a'.tmps.size=nt) (MP:a'.defers=dfr) (rj:nt<=eS) (fm:∀ i,bB C.P s.aa κ F w (sl i) (a'.tmps.getD i undef)) (pg:∀ l aK L n st,sl b4≠.aV l aK L n st)
  (heq:∀ r,F r\/(∃ b,(s.aa b).body.b1 (κ b)=true/\(κ b).aa=r)->w'.heap[r]?=w.heap[r]?) (cf:w.heap.size<=w'.heap.size)
  (MQ:∀ r,F r->F0 r\/¬K0 r) (MR:∀ r,F0 r->F r) (Dx:∀ r,K0 r->r<w0.heap.size) (tZ:∀ r,K0 r->w'.heap[r]?=w0.heap[r]?) (gm:∀ b,(s.aa b).body.b1 (κ b)=true->¬K0 (κ b).aa)
  (na:w0.heap.size<=w'.heap.size) (hc:dd w0 w') :
  bl { C with w0:=w0,F0:=F0,K0:=K0,nt:=nt,dfr:=dfr,r:=r } ⟨sl,s.aa⟩ a' w' κ F:=
 h.Uu MO MP rj fm pg heq cf (λ_ h=>h) (λr M=>Nat.lt_of_lt_of_le (h.dc r M) cf) (λb W=>(h.own b W).2.1) MQ MR Dx tZ gm na hc
theorem bl.Hf{C:b9}{s:aA}{a:Act}{w:World}{κ:Nat->bD}{F:Nat->Prop}(h:bl C s a w κ F){w0 w':World}{K0:Nat->Prop}{r:Option Nat}
    (iL:∀ r,K0 r->C.K0 r) (heq:∀ r,F r\/¬C.K0 r->w'.heap[r]?=w.heap[r]?) (cf:w.heap.size<=w'.heap.size) (xP:dd w w')
    (Dx:∀ r,K0 r->r<w0.heap.size) (tZ:∀ r,K0 r->w'.heap[r]?=w0.heap[r]?) (na:w0.heap.size<=w'.heap.size) (hc:dd w0 w') :
    bl { C with w0:=w0,K0:=K0,r:=r } s a w' κ F:=by
  have he:c7 F w w':=⟨cf,λr M=>heq r (.inl M)⟩
  have jj:∀ r,F r->r<w'.heap.size:=λr M=>Nat.lt_of_lt_of_le (h.dc r M) cf;exact {
          dH:=h.dH,dfr:=h.dfr,bT:=λi=>bB.later (fq.refl _ _) (λ_ h=>h) he (h.bT i)
          bF:=λb=>cE.k9 (h.bF b) (fq.refl _ _) (λ_ h=>h) he rfl rfl λaf=>heq _ (.inr (h.own b af).2.2)
          own:=λb W=>⟨Nat.lt_of_lt_of_le (h.own b W).1 cf,(h.own b W).2.1,λk=>(h.own b W).2.2 (iL _ k)⟩,inj:=h.inj,dc:=jj
          hh:=λr M=>(h.hh r M).imp id λk k'=>k (iL r k'),hQ:=h.hQ,hs:=Dx,eH:=tZ,size:=na,eu:=hc,gl:=h.gl,km:=h.km,jE:=h.jE,j2:=h.j2,kn:=h.kn
          eM:=λl aK L n st e=>by
            obtain⟨E,U,Y,ah,a1,bK⟩:=h.eM l aK L n st e;exact⟨E,U,Y,λr M=>⟨Nat.lt_of_lt_of_le (ah r M).1 cf,(ah r M).2.1,λk=>(ah r M).2.2 (iL r k)⟩,a1,U.Kc bK (λ_ h=>h) (λr M=>heq r (M.imp id λaS=>(ah r aS).2.2)) cf xP jj λr ao aS=>(ah r aS).2.1 ao⟩
          jF:=h.jF,iB:=h.iB.mono (λ_ h=>h) he }
theorem Uv{P:Program}{H:Nat->bJ}{κ:Nat->bD}{F:Nat->Prop}{w:World}{aK:ad}{x:aK.ai}:∀ (ps:List Tmp) (args:List Value) (j:Nat) (f:Nat->aG) (oH:Array Value),ps.length=args.length->(∀ p∈ps,p<oH.size)->
  (∀ i,bB P H κ F w (f i) (oH.getD i undef))->(∀ i,i<args.length->bB P H κ F w (kr aK x (j+i)) (args.getD i undef))->
  ∀ i,bB P H κ F w (zQ aK x ps j f i) (((ps.zip args).foldl (λtmps p=>tmps.setIfInBounds p.1 p.2) oH).getD i undef)
 | [],[],_,_,_,_,_,ao,_,i=>ao i
 | p::ps,v::args,j,f,oH,aj,an,ao,ae,i=>by
  simp only[zQ,List.zip_cons_cons,List.foldl_cons];refine Uv ps args (j+1) _ _ (by grind) (λq bt=>by grind) (λi=>?_) (λi G=>?_) i
  ·rw[Array.getD_eq_getD_getElem?,Array.getElem?_setIfInBounds];by_cases e:i=p
   ·grind
   ·rw[if_neg e,if_neg (Ne.symm e)];simp_all
  ·have:=ae (i+1) (by grind);grind
theorem ahQ{ps:List Tmp}{args:List Value}:∀ {oH:Array Value},((ps.zip args).foldl (λtmps p=>tmps.setIfInBounds p.1 p.2) oH).size=oH.size:=by
 generalize ps.zip args=l;induction l with
 | nil=>simp
 | cons p l aJ=>grind
def sv:dj->Option Code
 | .normal=>none
 | .exit id=>some (.exit id)
 | .ret=>some .ret
def fc(fn:FuncId)(oH:Array Value)(ps:Array Tmp)(assign body:Code)(B:Nat)(st:LoopState)(e:dj):Loop:=
 { state:=st,pending:=sv e,fn:=fn,tmps:=oH,params:=ps,assign:=assign,body:=body,defers:=B }
def Hg(P:Program)(aN:dG)(nt:Nat)(assign body:Code)(l:Nat){rout:dK}(run:aA->A (dj×rout.ai)):Prop:=
 ∀ (C1:b9),C1.P=P->C1.aN=aN->C1.nt=nt->C1.r=some l->∀ (ey:aA) (b8:Act) (cn:World) (qi:dj×rout.ai->Prop),cu C1 ey b8 cn->A.cw (run ey) qi->
  assign.wpIn (dS (some l)) 0 P (Exit.then (λa2 c_=>∃ u dN,C1.jP u/\cu (C1.hl u) dN a2 c_/\
   ∀ (hv:b9),hv.P=P->hv.aN=aN->hv.nt=nt->hv.r=some l->∀ (c_:World),cu hv dN a2 c_->
    body.wpIn (dS (some l)) 0 P (λe a3 eY=>∃ (a6:dj) (v:nZ) (eJ:aA) (bm:rout.ai),e=a6.pq/\hv.jP v/\cu (hv.hl v) eJ a3 eY/\rout.jb eJ=some bm/\qi (a6,bm)) a2 c_) (λ_ _ _=>False)) b8 cn
theorem ahR{ts:List (Nat×bW)}{R:Type}(h:ts.isEmpty=true)(g:Nat->Nat×Nat)(z:oB ts R)(i:Nat):fr (eD g ts z).1 i=.undef:=by
 cases ts with
 | nil=>rfl
 | cons p ts=>cases h
theorem ahS{P:Program}{l:Nat}{R:Ending->World->Prop}{e:dj}{a:Act}{w:World}{r:Loop}(h:w.heap[l]?=some (.loop r))
  (jQ:R (.returned (.bool (sv e).isNone)) (w.putObj l (.loop { r with state:=if (sv e).isNone then .ready else .done,pending:=sv e }))):roundPost P l R e.pq a w:=by
 cases e with
 | normal=>exact⟨_,_,run_endRound none h,jQ⟩
 | exit id=>exact⟨_,_,run_endRound (some (.exit id)) h,jQ⟩
 | ret=>exact⟨_,_,run_endRound (some .ret) h,jQ⟩
theorem ahT{CI:b9}{sh rin rout:dK}{aK:ad}{ps:Array Tmp}{assign body:Code}{a:Act}{au:World}{κ:Nat->bD}{F:Nat->Prop}{D:sh.ai}{fn:FuncId}{l B:Nat}{x:aK.ai}{args:List Value}{run:aA->A (dj×rout.ai)}
  {Or:dj×sh.ai->Prop} {Y Z:Nat->Prop} (ahU:Z l)
  (M:bl CI (sh.st D) a au κ F) (ed:nW sh rout aK ps.toList a.tmps.size=true) (Dy:Hg CI.P CI.aN a.tmps.size assign body l run) (hm:A.cw (tP sh rin rout aK ps.toList D x run) Or)
  (aj:au.heap[l]?=some (.loop (fc fn a.tmps ps assign body B .ready .normal))) (ahV:¬F l) (r5:∀ b,((sh.st D).aa b).body.b1 (κ b)=true->Y (κ b).aa/\¬Z (κ b).aa) (dY:fp CI.P aK F au args x) :
  ∃ tmps,(Instr.yield l args.toArray).run CI.P au=.ok (.round l fn tmps assign body) au/\RoundIn Fence.wide 0 CI.P l fn tmps assign body au λe qj=>
   ∃ (bG:dj) (iJ:sh.ai) (κ':Nat->bD) (F':Nat->Prop) (o:Obj),e=.returned (.bool (sv bG).isNone)/\Or (bG,iJ)/\qj.heap[l]?=some (.loop (fc fn a.tmps ps assign body B (if (sv bG).isNone then .ready else .done) bG))/\
    bl { CI with w0:=au.putObj l o,F0:=F,K0:=λr=>r<au.heap.size/\(Z r\/¬Y r) } (sh.st iJ) a qj κ' F':=by
 simp only[nW,Bool.and_eq_true,decide_eq_true_eq,Bool.not_eq_true',List.all_eq_true]at ed;obtain⟨⟨⟨⟨aO,aR⟩,bO⟩,fI⟩,mT⟩:=ed;have z':l<au.heap.size:=(Array.getElem?_eq_some_iff.1 aj).1;obtain⟨iC,Hh⟩:=tC (H:=(sh.st D).aa) (κ:=κ) aK dY bO;have pg:(sh.st D).ay b4=.undef:=xE sh.bT da D b4 aR;have FQ:(Array.zip ps args.toArray).foldl (λtmps (x:Tmp×Value)=>match x with | (t,a)=>tmps.setIfInBounds t a) a.tmps=(ps.toList.zip args).foldl (λtmps p=>tmps.setIfInBounds p.1 p.2) a.tmps:=by
  rw[<-Array.foldl_toList];simp
 refine⟨(ps.toList.zip args).foldl (λtmps p=>tmps.setIfInBounds p.1 p.2) a.tmps,?_,?_⟩
 ·rw[<-FQ];exact run_yield aj (by show args.toArray.size=ps.size;grind)
 have ahW:bl { CI with w0:=au,F0:=F,K0:=λr=>r<au.heap.size/\(Z r\/¬Y r) } (sh.st D) a au κ F:=
  M.vp M.dH M.dfr M.gl M.bT (λl aK L n st e=>by have e:(sh.st D).ay b4=.aV l aK L n st:=e;grind) (λ_ _=>rfl) (Nat.le_refl _) (λ_ h=>.inl h) (λ_ h=>h) (λ_ h=>h.1) (λ_ _=>rfl)
   (λb W h=>h.2.elim (r5 b W).2 λh=>h (r5 b W).1) (Nat.le_refl _) (dd.refl _)
 unfold tP at hm;split at hm
 ·rename_i aI bU ahX;split at hm
  ·rename_i cL;rw[A.f']at hm;have gK:bl { CI with w0:=au,F0:=F,K0:=λr=>r<au.heap.size/\(Z r\/¬Y r),nt:=a.tmps.size,dfr:=[],r:=none } ⟨(xy (sh.st D) aK x ps.toList).ay,(sh.st D).aa⟩ { tmps:=(ps.toList.zip args).foldl (λtmps p=>tmps.setIfInBounds p.1 p.2) a.tmps,defers:=[] } au κ F:=by
    refine M.vp ahQ rfl (by rw[M.dH];exact M.gl) (λi=>?_) (λdJ ky e6 iZ im e=>?_) (λ_ _=>rfl) (Nat.le_refl _) (λ_ h=>.inl h) (λ_ h=>h) (λ_ h=>h.1) (λ_ _=>rfl)
     (λb W h=>h.2.elim (r5 b W).2 λh=>h (r5 b W).1) (Nat.le_refl _) (dd.refl _)
    ·show bB CI.P (sh.st D).aa κ F au (if i=b4 then (sh.st D).ay b4 else zQ aK x ps.toList 0 (sh.st D).ay i) _;split
     ·rw[pg];trivial
     ·exact Uv ps.toList args 0 _ _ (by omega) (λp an=>by grind) M.bT (λi G=>by grind) i
    ·have e:(if b4=b4 then (sh.st D).ay b4 else zQ aK x ps.toList 0 (sh.st D).ay b4)=.aV dJ ky e6 iZ im:=e;grind
   obtain⟨F',own,gy,ie,f1,bb,gm,Dz,ax5,C',Mj⟩:=TF (c:=vh rin rout) ahW gK (by rfl) ahX rfl cL;have MS:l<au.heap.size/\(Z l\/¬Y l):=⟨z',.inl ahU⟩
   have Uw:¬F' l:=λh=>(bb.hh l h).elim ahV λh=>h MS;have ahY:¬own l:=λh=>by
    obtain⟨b,E,U⟩:=gm l h;exact (bb.own b E).2.2 (U ▸ MS)
   have ahZ:¬gy l:=λh=>(Dz.low l h).2.2 MS;have Ux:l<au.heap.size/\¬own l/\¬gy l:=⟨z',ahY,ahZ⟩
   have Hi:bl { ra CI au F' a.tmps.size own gy ie with r:=some l } (rin.st aI) _ au _ F':=C'.Hf (w0:=au) (w':=au) (K0:=λr=>r<au.heap.size/\¬own r/\¬gy r) (r:=some l) (λ_ h=>h) (λ_ _=>rfl) (Nat.le_refl _) (dd.refl _) (λ_ h=>h.1) (λ_ _=>rfl) (Nat.le_refl _) (dd.refl _);refine roundIn_of_wpIn trivial ?_;refine wpIn_mono (Dy { ra CI au F' a.tmps.size own gy ie with r:=some l } rfl rfl rfl rfl (rin.st aI) _ au _ ⟨_,_,Hi⟩ hm) λe a2 c_ bt=>?_;cases e with
   | normal=>
    obtain⟨u,dN,hu,⟨m',ek,cN⟩,bS⟩:=bt;have sw:u.K l:=hu.gV l Ux;have gq:c_.heap[l]?=some (.loop (fc fn a.tmps ps assign body B .ready .normal)):=(cN.eH l sw).trans ((hu.eH l Ux).trans aj);refine⟨_,run_beginRound gq rfl,?_⟩;have ah0:l<c_.heap.size:=(Array.getElem?_eq_some_iff.1 gq).1;have ah1:¬ek l:=λh=>(cN.hh l h).elim Uw λh=>h sw;have oK:=cN.Hf (w0:=c_.putObj l (.loop (fc fn a.tmps ps assign body B .busy .normal))) (w':=c_.putObj l (.loop (fc fn a.tmps ps assign body B .busy .normal))) (K0:=u.K) (r:=some l) (λ_ h=>h)
     (λr h=>World.putObj_heap_other λe=>by
      subst e;exact h.elim ah1 λh=>h sw) (by simp) ⟨rfl,rfl,rfl⟩ (λr h=>by
       have:=cN.hs r h;have:=cN.size;simp;omega) (λ_ _=>rfl) (Nat.le_refl _) (dd.refl _)
    refine wpIn_mono (bS { ({ ra CI au F' a.tmps.size own gy ie with r:=some l }:b9).hl u with w0:=c_.putObj l (.loop (fc fn a.tmps ps assign body B .busy .normal)),K0:=u.K,r:=some l } rfl rfl rfl rfl _ ⟨m',ek,oK⟩) λe a3 eY ⟨a6,v,eJ,bm,he,ae,⟨Hj,Uy,mr⟩,gf,Hk⟩=>?_;subst he;obtain⟨Hj,Uz,f4,oL⟩:=dK.zS gf mr;have w_:v.K l:=ae.gV l sw;have Hl:eY.heap[l]?=some (.loop (fc fn a.tmps ps assign body B .busy .normal)):=(oL.eH l w_).trans ((ae.eH l sw).trans (World.putObj_heap_same ah0));have UA:l<eY.heap.size:=(Array.getElem?_eq_some_iff.1 Hl).1;have ax6:¬Uz l:=λh=>(oL.hh l h).elim Uw λh=>h w_;generalize fY:(if (sv a6).isNone then LoopState.ready else .done)=im;refine ahS Hl ?_;rw[fY];have mm:bl { CI with w0:=au.putObj l (.loop (fc fn a.tmps ps assign body B im a6)),F0:=F,K0:=λr=>r<au.heap.size/\(Z r\/¬Y r) } ((sh.st D).cz bU) a (au.putObj l (.loop (fc fn a.tmps ps assign body B im a6))) κ F':=
     bb.Hf (λ_ h=>h) (λr h=>World.putObj_heap_other λe=>by
      grind) (by simp) ⟨rfl,rfl,rfl⟩ (λr h=>by simpa using h.1) (λ_ _=>rfl) (Nat.le_refl _) (dd.refl _)
    have zX:au.heap.size<=eY.heap.size:=by
     have E:=hu.size;have U:=cN.size;have ah:=ae.size;have a1:=oL.size;have E:au.heap.size<=u.w.heap.size:=E;have U:u.w.heap.size<=c_.heap.size:=U;have ah:(c_.putObj l (.loop (fc fn a.tmps ps assign body B .busy .normal))).heap.size<=v.w.heap.size:=ah;have a1:v.w.heap.size<=eY.heap.size:=a1;simp only[World.putObj_size]at ah;omega
    have xQ:dd au eY:=by
     have E:dd au u.w:=hu.eu;have U:dd u.w c_:=cN.eu;have ah:dd c_ v.w:=⟨ae.eu.os,ae.eu.tape,ae.eu.output⟩
     exact E.trans (U.trans (ah.trans oL.eu))
    have ah2:∀ i,(rout.st bm).ay i=.undef:=λi=>ahR aO da bm i;have lS:∀ r,(r<(au.putObj l (.loop (fc fn a.tmps ps assign body B im a6))).heap.size/\¬own r/\¬gy r)->(r<au.heap.size/\¬own r/\¬gy r):=λr h=>⟨by simpa using h.1,h.2⟩
    have hJ:=oL.vp (w0:=au.putObj l (.loop (fc fn a.tmps ps assign body B im a6))) (w':=eY.putObj l (.loop (fc fn a.tmps ps assign body B im a6))) (F0:=F') (K0:=λr=>r<(au.putObj l (.loop (fc fn a.tmps ps assign body B im a6))).heap.size/\¬own r/\¬gy r) (nt:=0) (dfr:=[]) (r:=none) (sl:=(rout.st bm).ay) (a':={ tmps:=#[],defers:=[] }) rfl rfl (Nat.zero_le _)
     (λi=>by rw[ah2];trivial) (λl aK L n st e=>by grind)
     (λr h=>World.putObj_heap_other λe=>by
      subst e;rcases h with h | ⟨b,E,U⟩
      ·grind
      ·exact (oL.own b E).2.2 (U ▸ w_)) (by simp) (λr h=>(oL.hh r h).imp id λh dw=>h (ae.gV r (hu.gV r (lS r dw)))) oL.hQ (λr h=>h.1)
     (λr h=>by
      by_cases e:r=l
      ·subst e;rw[World.putObj_heap_same UA,World.putObj_heap_same z']
      ·rw[World.putObj_heap_other e,World.putObj_heap_other e];have E:u.K r:=hu.gV r (lS r h);exact (oL.eH r (ae.gV r E)).trans ((ae.eH r E).trans ((World.putObj_heap_other e).trans ((cN.eH r E).trans (hu.eH r (lS r h))))))
     (λb W h=>(oL.own b W).2.2 (ae.gV _ (hu.gV _ (lS _ h)))) (by simpa using zX) ⟨xQ.os,xQ.tape,xQ.output⟩
    obtain⟨κn,nY,_⟩:=Mj (au.putObj l (.loop (fc fn a.tmps ps assign body B im a6))) (au.putObj l (.loop (fc fn a.tmps ps assign body B im a6))) mm ⟨λdJ ky e6 iZ im e=>(by
      grind),λr h=>⟨by simpa using (Dz.low r h).1,(Dz.low r h).2⟩,Dz.own,Dz.GO⟩ bm [] (eY.putObj l (.loop (fc fn a.tmps ps assign body B im a6))) Hj Uz hJ
    obtain⟨iJ,MT,ah3⟩:=tY Hk;obtain⟨κn,ah4,_,ah5⟩:=dK.zS MT nY;exact⟨a6,iJ,κn,ah4,(.loop (fc fn a.tmps ps assign body B im a6)),rfl,A.ea.1 ah3,by rw[fY];exact World.putObj_heap_same UA,ah5⟩
   | _=>exact bt.elim
  ·exact hm.1.elim
 ·exact hm.1.elim
theorem UB{w:World}{o hS:Obj}{r:Nat}(h:r<w.heap.size):((w.alloc o).alloc hS).heap[r]?=w.heap[r]?:=
 (o8 _ _ (by simp;omega)).trans (o8 _ _ h)
def ah6(C CI:b9){β:Type}(sh rin rout:dK)(aK:ad)(b7:List aK.ai->Prop)(ps:Array Tmp)(assign body:Code)(a:Act)(fn:FuncId)(l B:Nat)(run:aA->A (dj×rout.ai))(k:dj->aA->A β)(O:β->Prop)
  (st:Bool) (F Y:Nat->Prop) (au:World):Prop:=
 ∃ (e:dj) (D:sh.ai) (κ:Nat->bD),bl CI (sh.st D) a au κ F/\au.heap[l]?=some (.loop (fc fn a.tmps ps assign body B (if st then .done else .ready) e))/\au.heap[B]?=some (.deferred (some []))/\
  (∀ b,((sh.st D).aa b).body.b1 (κ b)=true->Y (κ b).aa/\¬((κ b).aa=l\/(κ b).aa=B))/\Y l/\Y B/\¬F l/\¬F B/\C.P=CI.P/\
  (st=false->e=.normal/\∀ R,b7 R->A.cw (jN (λD y=>tP sh rin rout aK ps.toList D y run) R D) λp=>A.cw (k p.1 (sh.st p.2)) O)/\(st=true->e≠.normal/\A.cw (k e (sh.st D)) O)
theorem UC{C CI:b9}{β:Type}{sh rin rout:dK}{aK:ad}{S:List aK.ai->Prop}{ps:Array Tmp}{assign body:Code}{a:Act}{fn:FuncId}{l B:Nat}{run:aA->A (dj×rout.ai)}{k:dj->aA->A β}{O:β->Prop}
  (iL:CI.K0=λ_=>False) (ah7:l≠B) (ed:nW sh rout aK ps.toList a.tmps.size=true) (Dy:Hg CI.P CI.aN a.tmps.size assign body l run) :
  Fs CI.P (fp CI.P aK) l S λpre=>ah6 C CI sh rin rout aK (λR=>S (pre++R)) ps assign body a fn l B run k O where
 BV:=λ{pre st F F' Y w w'} h bn heq cf jK jj Dw=>by
  have hc:dd w w':=⟨jK.1,jK.2.1,jK.2.2⟩
  obtain⟨e,D,κ,M,E,U,ah,a1,bK,dp,fF,ix,o5⟩:=h;have pg:(sh.st D).ay b4=.undef:=by
   simp only[nW,Bool.and_eq_true,Bool.not_eq_true']at ed;exact xE sh.bT da D b4 ed.1.1.1.2
  have t_:∀ r,CI.K0 r->False:=λr h=>by grind
  refine⟨e,D,κ,?_,(heq l (.inr a1)).trans E,(heq B (.inr bK)).trans U,ah,a1,bK,λh=>Dw l h a1,λh=>Dw B h bK,ix,o5⟩;exact M.Uu M.dH M.dfr M.gl M.bT (λdJ ky e6 iZ im e=>by have e:(sh.st D).ay b4=.aV dJ ky e6 iZ im:=e;grind)
   (λr bb=>heq r (bb.imp id λ⟨b,W,e⟩=>e ▸ (ah b W).1)) cf bn jj (λb W ao=>Dw _ ao (ah b W).1) (λr _=>.inr (t_ r)) (λr h=>bn r (M.hQ r h)) (λr h=>(t_ r h).elim) (λr h=>(t_ r h).elim) (λb _=>t_ _)
   (Nat.le_trans M.size cf) (M.eu.trans hc)
 yield:=λ{pre F Y w args x} h jj UD ag dY=>by
  obtain⟨MU,MV⟩:=ag;obtain⟨e,D,κ,M,E,U,ah,a1,bK,dp,fF,ix,o5,_⟩:=h;obtain⟨rfl,hm⟩:=o5 rfl;have pg:∀ D:sh.ai,(sh.st D).ay b4=.undef:=λD=>by
   simp only[nW,Bool.and_eq_true,Bool.not_eq_true']at ed;exact xE sh.bT da D b4 ed.1.1.1.2
  have t_:∀ r,CI.K0 r->False:=λr h=>by grind
  have hm:A.cw (tP sh rin rout aK ps.toList D x run) λp=>∀ T,S (pre++x::T)->A.cw (match p.1 with
    | .normal=>jN (λD y=>tP sh rin rout aK ps.toList D y run) T p.2
    | .exit id=>A.pure (.exit id,p.2)
    | .ret=>A.pure (.ret,p.2)) λp=>A.cw (k p.1 (sh.st p.2)) O:=by
   have E:=λT aU=>A.f'.1 (hm (x::T) aU);exact⟨(E MU MV).1,λy aS T aU=>(E T aU).2 y aS⟩
  obtain⟨tmps,aS,ah8⟩:=ahT (Z:=λr=>r=l\/r=B) (.inl rfl) M ed Dy hm E dp ah dY;refine⟨fn,tmps,assign,body,aS,ah8.mono λa6 qj ⟨bG,iJ,κ',F',o,he,Hk,Hm,bb⟩=>?_⟩;have z':l<w.heap.size:=(UD l a1).1;have MW:B<w.heap.size:=(UD B bK).1;have g1:∀ r,F r->F' r:=bb.hQ;have ee:∀ r,F' r->F r\/Y r\/w.heap.size<=r:=λr cN=>by
   rcases bb.hh r cN with h | h
   ·exact .inl h
   ·by_cases cc:r<w.heap.size
    ·by_cases aS:Y r
     ·exact .inr (.inl aS)
     ·exact (h ⟨cc,.inr aS⟩).elim
    ·exact .inr (.inr (Nat.le_of_not_lt cc))
  have UE:∀ r,r<w.heap.size->¬F r->(r=l\/r=B)->¬F' r:=λr cc ao bk rf=>(bb.hh r rf).elim ao λh=>h ⟨cc,.inl bk⟩;have UF:¬F' l:=UE l z' dp (.inl rfl);have vm:¬F' B:=UE B MW fF (.inr rfl);have UG:∀ b,((sh.st iJ).aa b).body.b1 (κ' b)=true->¬((κ' b).aa=l\/(κ' b).aa=B)/\(Y (κ' b).aa\/w.heap.size<=(κ' b).aa):=λb W=>by
   have al:=(bb.own b W).2.2;grind
  have Hn:w.heap.size<=qj.heap.size:=by have:=bb.size;simpa using this
  have gc:dd w qj:=⟨bb.eu.os,bb.eu.tape,bb.eu.output⟩
  have ax7:∀ T,pre++[x]++T=pre++x::T:=λT=>by simp
  refine⟨(sv bG).isNone,F',λr=>(∃ b,((sh.st iJ).aa b).body.b1 (κ' b)=true/\(κ' b).aa=r)\/r=l\/r=B,he,g1,ee,bb.dc,λr cc aS=>?_,λr cN=>?_,Hn,⟨gc.os,gc.tape,gc.output⟩,?_⟩
  ·have eP:r≠l:=λe=>aS (e ▸ a1);exact (bb.eH r ⟨cc,.inr aS⟩).trans (World.putObj_heap_other eP)
  ·rcases cN with⟨b,W,rfl⟩ | rfl | rfl
   ·exact⟨(UG b W).2,(bb.own b W).1,(bb.own b W).2.1⟩
   ·exact⟨.inl a1,Nat.lt_of_lt_of_le z' Hn,UF⟩
   ·exact⟨.inl bK,Nat.lt_of_lt_of_le MW Hn,vm⟩
  ·refine⟨bG,iJ,κ',?_,?_,?_,λb W=>⟨.inl ⟨b,W,rfl⟩,(UG b W).1⟩,.inr (.inl rfl),.inr (.inr rfl),UF,vm,ix,λfY=>?_,λfY=>?_⟩
   ·exact bb.vp bb.dH bb.dfr bb.gl bb.bT (λdJ ky e6 iZ im e=>by have e:(sh.st iJ).ay b4=.aV dJ ky e6 iZ im:=e;grind) (λ_ _=>rfl) (Nat.le_refl _) (λr _=>.inr (t_ r)) (λr h=>g1 r (M.hQ r h))
     (λr h=>(t_ r h).elim) (λr h=>(t_ r h).elim) (λb _=>t_ _) (Nat.le_trans M.size Hn) (M.eu.trans gc)
   ·grind
   ·exact (bb.eH B ⟨MW,.inl (.inr rfl)⟩).trans ((World.putObj_heap_other (Ne.symm ah7)).trans U)
   ·cases bG with
    | normal=>grind
    | _=>cases fY
   ·cases bG with
    | normal=>cases fY
    | exit id=>exact⟨by simp,(Hk MU MV).2 _ rfl⟩
    | ret=>exact⟨by simp,(Hk MU MV).2 _ rfl⟩
theorem UH{P:Program}{l:Nat}{aK:ad}{S:List aK.ai->Prop}{I:List aK.ai->Bool->(Nat->Prop)->(Nat->Prop)->World->Prop}(h:Fs P (fp P aK) l S I):lJ.hB P ⟨l,aK,S,I⟩ where
 BV:=λE U ah a1 bK dp fF=>h.BV E U ah a1 ⟨bK.os,bK.tape,bK.output⟩ dp fF
 yield:=λE U ah a1 bK=>YieldAt.mono (h.yield E U ah a1 bK) λ_ _ ⟨b,F',gy,aO,aR,bO,fI,mT,tS,DA,DB,MX⟩=>⟨b,F',gy,aO,aR,bO,fI,mT,tS,DA,⟨DB.1,DB.2.1,DB.2.2⟩,MX⟩
end Go.Fer
