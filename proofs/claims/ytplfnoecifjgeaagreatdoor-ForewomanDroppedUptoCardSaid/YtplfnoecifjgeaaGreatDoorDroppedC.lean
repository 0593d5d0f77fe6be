/- Part 3 of the proof of Dropped: shallow programs of Go functions, and what they compute. No condition. -/
import Derived.Test.YtplfnoecifjgeaaGreatDoorDroppedB
import Derived.RangeFuncIn
import Derived.RangeFuncRecord
import Derived.RangeFuncBound
noncomputable section
set_option linter.unusedVariables false
set_option linter.unusedSimpArgs false
namespace Go.Fer
open Go.RowKit
def oA(x y:bP):Prop:=(y.fI=true->x.fI=true)/\(y.e3=true->x.e3=true/\y.len=x.len/\y.e4=x.e4)/\(y.gV=true->x.gV=true)/\(y.mJ=true->x.mJ=true)/\∀ k,y.b1 k=true->x.b1 k=true
theorem oA.refl(x:bP):oA x x:=⟨id,λh=>⟨h,rfl,rfl⟩,id,id,λ_=>id⟩
theorem oA.fz(x:bP):oA x .fz:=⟨λh=>(by cases h),λh=>(by cases h),λh=>(by cases h),λh=>(by cases h),λ_ h=>(by cases h)⟩
def sq(f:Nat->Nat)(H H':Nat->bK):Prop:=∀ b,(H' b).gen=0/\oA (H (f b)).body (H' b).body
section
variable {P:Program} {H H':Nat->bK} {κ:Nat->bD} {F F':Nat->Prop} {w:World} {f:Nat->Nat}
theorem S6(aC:sq f H H'){b off:Nat}{v:Value}(h:bu P H κ F w (.a7 (f b) (H (f b)).gen off) v):bu P H' (λb=>κ (f b)) F' w (.a7 b 0 off) v:=
 ⟨⟨Nat.zero_le _,h.1.2⟩,λ_ hc=>h.2 rfl ((aC b).2.1 hc)⟩
def LB(P:Program)(H H':Nat->bK)(κ:Nat->bD)(f:Nat->Nat)(F F':Nat->Prop)(w:World){R:Type}(r:Option (R×List Nat))(l:List Nat)(av av':aF)(y:R):Prop:=
 ∃ m,r=some (y,m)/\(∀ b∈m,b∈l)/\(iU H κ F' l->∀ v,bu P H κ F w av v->bu P H' (λb=>κ (f b)) F' w av' v)
theorem LB.hF{R:Type}{r:Option (R×List Nat)}{l:List Nat}{av av':aF}{y:R}(h:r=some (y,l))(k:∀ v,bu P H κ F w av v->bu P H' (λb=>κ (f b)) F' w av' v):LB P H H' κ f F F' w r l av av' y:=
 ⟨l,h,λ_ aa=>aa,λ_=>k⟩
theorem kz{al:Type}{b:Bool}{r:Option al}{x:al}(h:vl b r=some x):b=true/\r=some x:=by
 cases b with
 | true=>exact⟨rfl,h⟩
 | false=>cases h
theorem qe{t:ad}{av:aF}{R:Type}{r:Option (R×List Nat)}{z:t.aj×R}{l:List Nat}(h:xk H t av r=some (z,l)):∃ fc m,(dz t av).run H=some (z.1,fc)/\r=some (z.2,m)/\l=fc++m:=by
 unfold xk at h;grind
theorem LC{t:ad}{av:aF}{R:Type}{r:Option (R×List Nat)}{z:t.aj×R}{l:List Nat}(h:K7 t av r=some (z,l)):av=.dV t z.1/\r=some (z.2,l):=by
 unfold K7 at h;grind
theorem LD{b:Nat}{av:aF}{R:Type}{r:Option (R×List Nat)}{z:(Nat×Nat)×R}{l:List Nat}(h:K8 H b av r=some (z,l)) :
  r=some (z.2,l)/\(av=.sub b (H b).gen z.1.1 z.1.2\/(av=.own b (H b).gen/\(H b).body.e3=true/\z.1=(0,(H b).body.len))):=by
 unfold K8 at h;grind
theorem Gt{aL:ad}{av:aF}{R:Type}{r:Option (R×List Nat)}{z:(Nat×(List aL.aj->Prop)×List aL.aj×Bool)×R}{l:List Nat}(h:K9 aL av r=some (z,l)) :
  r=some (z.2,l)/\av=.aR z.1.1 aL z.1.2.1 z.1.2.2.1 z.1.2.2.2:=by
 unfold K9 at h;grind
theorem LF{b:Nat}{av:aF}{R:Type}{r:Option (R×List Nat)}{z:Nat×R}{l:List Nat}(h:K' H b av r=some (z,l)):r=some (z.2,l)/\av=.iT b (H b).gen z.1:=by
 unfold K' at h;grind
theorem LG{av:aF}{R:Type}{r:Option (R×List Nat)}{z:Nat×R}{l:List Nat}(h:K_ av r=some (z,l)):r=some (z.2,l)/\av=.hf z.1:=by
 unfold K_ at h;grind
theorem S7{b off:Nat}{av:aF}(h:F3 H b off av=true):av=.a7 b (H b).gen off:=by
 unfold F3 at h;grind
theorem S8{b:Nat}{av:aF}(h:F4 H b av=true):av=.own b (H b).gen:=by
 unfold F4 at h;grind
theorem afg{b:Nat}{av:aF}(h:La H b av=true):av=.fH b (H b).gen:=by
 unfold La at h;grind
theorem afh{b:Nat}{av:aF}(h:Lb H b av=true):av=.j2 b (H b).gen:=by
 unfold Lb at h;grind
theorem afi{av:aF}(h:Lc av=true):av=.cS:=by
 unfold Lc at h;grind
theorem afj(aC:sq f H H'){k:FuncId}{fU:z8'}{av:aF}(h:Ld H f k fU av=true){v:Value}(af:bu P H κ F w av v):bu P H' (λb=>κ (f b)) F' w (.ix k fU.length (vj db fU)) v:=by
 unfold Ld at h;split at h
 ·rename_i k' n c6;simp only[Bool.and_eq_true,beq_iff_eq]at h;obtain⟨⟨rfl,rfl⟩,e⟩:=h;obtain⟨aE,E,U,ah⟩:=af;refine⟨aE,E,U,λi G=>?_⟩;have he:=List.all_eq_true.1 e i (by grind);have af:=ah i G;rw[show fU[i]?=some fU[i] by simp]at he;rw[S7 he]at af;have:vj db fU i=.a7 fU[i].1 0 fU[i].2:=by simp[vj,hh,List.getD_eq_getElem?_getD,G,db]
  rw[this];exact S6 aC af
 grind
theorem afk(aC:sq f H H'){bs:List Nat}{av:aF}(h:Le H f bs av=true){v:Value}(af:bu P H κ F w av v):bu P H' (λb=>κ (f b)) F' w (.agg bs.length (vk db bs)) v:=by
 unfold Le at h;split at h
 ·rename_i n de;simp only[Bool.and_eq_true,beq_iff_eq]at h;obtain⟨rfl,e⟩:=h;obtain⟨aE,E,U,ah⟩:=af;refine⟨aE,E,U,λi G=>?_⟩;have he:=List.all_eq_true.1 e i (by grind);obtain⟨af,hc⟩:=ah i G;refine⟨?_,hc⟩;rw[show bs[i]?=some bs[i] by simp]at he;rw[S8 he]at af;have:vk db bs i=.own bs[i] 0:=by simp[vk,hh,List.getD_eq_getElem?_getD,G,db]
  rw[this];refine⟨⟨Nat.zero_le _,af.1.2⟩,λ_ hc=>?_⟩;obtain⟨aW,aY,_⟩:=(aC bs[i]).2.2.1 hc;rw[aY];exact af.2 rfl aW
 grind
theorem xv(aU:∀ b,cE P H κ F w b)(bn:∀ r,F r->F' r)(aC:sq f H H')(t:bY){av:aF}{R:Type}{r:Option (R×List Nat)}{z:t.cons R}{l:List Nat}(h:t.i' H f av r=some (z,l)) :
  LB P H H' κ f F F' w r l av (t.av db z).1 (t.av db z).2:=by
 cases t with
 | undef=>exact .hF h λ_ _=>by simp only[bY.av,bu]
 | val t=>
  obtain⟨fc,m,ai,rfl,rfl⟩:=qe h;exact⟨m,rfl,λb aa=>List.mem_append_right _ aa,λak v af=>mf aU bn ai ak.left af⟩
 | dV t=>
  obtain⟨rfl,rfl⟩:=LC h;exact .hF rfl λv ⟨p,bj,E,U,ah⟩=>⟨p,bj,E,U.mono bn (c8.refl _ _),fe _ bn (c8.refl _ _) ah⟩
 | a7 b off=>
  obtain⟨E,U⟩:=kz h;obtain rfl:=S7 E;exact .hF U λv af=>S6 aC af
 | own b=>
  obtain⟨E,U⟩:=kz h;obtain rfl:=S8 E;refine .hF U λv af=>⟨⟨Nat.zero_le _,af.1.2⟩,λ_ hc=>?_⟩
  obtain⟨aW,aY,_⟩:=(aC b).2.2.1 hc;simp only[db];rw[aY];exact af.2 rfl aW
 | sub b=>
  obtain⟨E,U⟩:=LD h;refine .hF E λv af=>?_;rcases U with rfl | ⟨rfl,e',ah⟩
  ·refine⟨⟨Nat.zero_le _,af.1.2⟩,λ_ hc=>?_⟩;obtain⟨aW,aY,bO⟩:=(aC b).2.2.1 hc;simp only[db]at aY bO ⊢;rw[aY,bO];exact af.2 rfl aW
  ·refine⟨⟨Nat.zero_le _,af.1.2⟩,λ_ hc=>?_⟩;obtain⟨aW,aY,bO⟩:=(aC b).2.2.1 hc;have:=af.2 rfl aW;simp only[db]at aY bO ⊢;rw[aY,bO,ah];refine⟨⟨Nat.zero_le _,Nat.le_refl _⟩,?_⟩;rw[this];unfold bD.slice;cases aA:(κ (f b)).e8 with
   | true=>exact .inl ⟨aA,rfl⟩
   | false=>exact .inr ⟨aA,(κ (f b)).off,by simp,by simp,λ_=>by simp⟩
 | fH b=>
  obtain⟨E,U⟩:=kz h;obtain rfl:=afg E;exact .hF U λv af=>⟨⟨Nat.zero_le _,af.1.2⟩,λ_ hc=>af.2 rfl ((aC b).2.2.2.1 hc)⟩
 | j2 b=>
  obtain⟨E,U⟩:=kz h;obtain rfl:=afh E;exact .hF U λv af=>⟨⟨Nat.zero_le _,af.1.2⟩,λ_ hc=>af.2 rfl ((aC b).2.2.2.2.1 hc)⟩
 | cS=>
  obtain⟨E,U⟩:=kz h;obtain rfl:=afi E;exact .hF U λv af=>af
 | ix k fU=>
  obtain⟨E,U⟩:=kz h;exact .hF U λv af=>afj aC E af
 | hG bs=>
  obtain⟨E,U⟩:=kz h;exact .hF U λv af=>afk aC E af
 | iT b=>
  obtain⟨E,rfl⟩:=LF h;refine .hF E λv af=>⟨⟨Nat.zero_le _,af.1.2⟩,λ_ hc=>?_⟩
  obtain⟨aW,aY,bO⟩:=(aC b).2.2.1 hc;have:=af.2 rfl aW;simp only[db]at aY bO ⊢;rw[aY,bO];exact this
 | aR aL=>
  obtain⟨E,rfl⟩:=Gt h;exact .hF E λv af=>af
 | hf=>
  obtain⟨E,rfl⟩:=LG h;exact .hF E λv af=>af
theorem afl(aU:∀ b,cE P H κ F w b)(bn:∀ r,F r->F' r)(aC:sq f H H'):∀ (ts:List bY) {c:Nat->aF} {i:Nat} {R:Type} {r:Option (R×List Nat)} {z:qc ts R} {l:List Nat},zG H f ts c i r=some (z,l)->
  ∃ m,r=some ((pg db ts z).2,m)/\(∀ b∈m,b∈l)/\(iU H κ F' l->∀ j,j<ts.length->∀ v,bu P H κ F w (c (i+j)) v->bu P H' (λb=>κ (f b)) F' w ((pg db ts z).1.getD j .undef) v):=by
 intro ts;induction ts with
 | nil=>intro c i R r z l h;exact⟨l,h,λ_ aa=>aa,λ_ j aG=>by cases aG⟩
 | cons t ts aJ=>
  intro c i R r z l h;obtain⟨m1,E,U,ah⟩:=xv (F':=F') (H':=H') aU bn aC t h;obtain⟨m2,aW,aY,gC⟩:=aJ E;refine⟨m2,aW,λb aa=>U b (aY b aa),λak j aG v af=>?_⟩;cases j with
  | zero=>exact ah ak v af
  | succ j=>
   have:=gC (λb aa=>ak b (U b aa)) j (by grind) v (by grind);simpa [pg]using this
theorem afm(aU:∀ b,cE P H κ F w b)(bn:∀ r,F r->F' r)(aC:sq f H H'):∀ (ts:List (Nat×bY)) {c:Nat->aF} {R:Type} {r:Option (R×List Nat)} {z:oy ts R} {l:List Nat},xm H f ts c r=some (z,l)->
  ∃ m,r=some ((eE db ts z).2,m)/\(∀ b∈m,b∈l)/\(iU H κ F' l->∀ i v,bu P H κ F w (c i) v->bu P H' (λb=>κ (f b)) F' w (fp (eE db ts z).1 i) v):=by
 intro ts;induction ts with
 | nil=>intro c R r z l h;exact⟨l,h,λ_ aa=>aa,λ_ _ _ _=>by simp only[eE,fp,bu]⟩
 | cons p ts aJ=>
  intro c R r z l h;obtain⟨m1,E,U,ah⟩:=xv (F':=F') (H':=H') aU bn aC p.2 h;obtain⟨m2,aW,aY,gC⟩:=aJ E;refine⟨m2,aW,λb aa=>U b (aY b aa),λak i v af=>?_⟩;simp only[eE,fp];split
  ·grind
  ·exact gC (λb aa=>ak b (U b aa)) i v af
theorem Gu(t:bY){av:aF}{R:Type}{r:Option (R×List Nat)}{z:t.cons R}{l:List Nat}(h:t.i' H f av r=some (z,l)):∃ m,r=some ((t.av db z).2,m)/\∀ b∈m,b∈l:=by
 cases t with
 | undef=>exact⟨l,h,λ_ h=>h⟩
 | val t=>obtain⟨_,m,_,U,ah⟩:=qe h;exact⟨m,U,λb aa=>ah ▸ List.mem_append_right _ aa⟩
 | dV t=>exact⟨l,(LC h).2,λ_ h=>h⟩
 | sub b=>exact⟨l,(LD h).1,λ_ h=>h⟩
 | aR aL=>exact⟨l,(Gt h).1,λ_ h=>h⟩
 | hf=>exact⟨l,(LG h).1,λ_ h=>h⟩
 | iT b=>exact⟨l,(LF h).1,λ_ h=>h⟩
 | a7 b off=>exact⟨l,(kz h).2,λ_ h=>h⟩
 | own b=>exact⟨l,(kz h).2,λ_ h=>h⟩
 | fH b=>exact⟨l,(kz h).2,λ_ h=>h⟩
 | j2 b=>exact⟨l,(kz h).2,λ_ h=>h⟩
 | cS=>exact⟨l,(kz h).2,λ_ h=>h⟩
 | ix k fU=>exact⟨l,(kz h).2,λ_ h=>h⟩
 | hG bs=>exact⟨l,(kz h).2,λ_ h=>h⟩
theorem afn:∀ (ts:List bY) {c:Nat->aF} {i:Nat} {R:Type} {r:Option (R×List Nat)} {z:qc ts R} {l:List Nat},zG H f ts c i r=some (z,l)->∃ m,r=some ((pg db ts z).2,m)/\∀ b∈m,b∈l:=by
 intro ts;induction ts with
 | nil=>intro c i R r z l h;exact⟨l,h,λ_ h=>h⟩
 | cons t ts aJ=>
  intro c i R r z l h;obtain⟨m,E,U⟩:=Gu t h;obtain⟨dx,ah,aZ⟩:=aJ E;exact⟨dx,ah,λb aa=>U b (aZ b aa)⟩
theorem afo:∀ (ts:List (Nat×bY)) {c:Nat->aF} {R:Type} {r:Option (R×List Nat)} {z:oy ts R} {l:List Nat},xm H f ts c r=some (z,l)->∃ m,r=some ((eE db ts z).2,m)/\∀ b∈m,b∈l:=by
 intro ts;induction ts with
 | nil=>intro c R r z l h;exact⟨l,h,λ_ h=>h⟩
 | cons p ts aJ=>
  intro c R r z l h;obtain⟨m,E,U⟩:=Gu p.2 h;obtain⟨dx,ah,aZ⟩:=aJ E;exact⟨dx,ah,λb aa=>U b (aZ b aa)⟩
theorem CR(t:bY){av:aF}{R:Type}{r:Option (R×List Nat)}{z:t.cons R}{l:List Nat}(h:t.i' H f av r=some (z,l))(M:∀ y m,r=some (y,m)->gK H m):gK H l:=by
 cases t with
 | undef=>exact M _ _ h
 | val t=>obtain⟨_,m,E,U,rfl⟩:=qe h;exact (mO E).append (M _ _ U)
 | dV t=>exact M _ _ (LC h).2
 | sub b=>exact M _ _ (LD h).1
 | aR aL=>exact M _ _ (Gt h).1
 | hf=>exact M _ _ (LG h).1
 | iT b=>exact M _ _ (LF h).1
 | a7 b off=>exact M _ _ (kz h).2
 | own b=>exact M _ _ (kz h).2
 | fH b=>exact M _ _ (kz h).2
 | j2 b=>exact M _ _ (kz h).2
 | cS=>exact M _ _ (kz h).2
 | ix k fU=>exact M _ _ (kz h).2
 | hG bs=>exact M _ _ (kz h).2
theorem afp:∀ (ts:List bY) {c:Nat->aF} {i:Nat} {R:Type} {r:Option (R×List Nat)} {z:qc ts R} {l:List Nat},zG H f ts c i r=some (z,l)->(∀ y m,r=some (y,m)->gK H m)->gK H l:=by
 intro ts;induction ts with
 | nil=>intro c i R r z l h M;exact M _ _ h
 | cons t ts aJ=>intro c i R r z l h M;exact CR t h λy m hm=>aJ hm M
theorem afq:∀ (ts:List (Nat×bY)) {c:Nat->aF} {R:Type} {r:Option (R×List Nat)} {z:oy ts R} {l:List Nat},xm H f ts c r=some (z,l)->(∀ y m,r=some (y,m)->gK H m)->gK H l:=by
 intro ts;induction ts with
 | nil=>intro c R r z l h M;exact M _ _ h
 | cons p ts aJ=>intro c R r z l h M;exact CR p.2 h λy m hm=>aJ hm M
theorem LH{t:ad}{ts:List bY}{iG:bP}{R:Type}{r:Option (R×List Nat)}{z:qc ts R}{l:List Nat}(h:Lf H f t ts iG r=some (z,l)):∃ c,iG=.cells t c/\t.size=ts.length/\zG H f ts c 0 r=some (z,l):=by
 unfold Lf at h;grind
theorem LI{e:ad}{iG:bP}{R:Type}{r:Option (R×List Nat)}{z:List e.aj×R}{l:List Nat}(h:Lg e iG r=some (z,l)):r=some (z.2,l)/\iG=.bf e z.1:=by
 unfold Lg at h;grind
theorem LJ{e:ad}{t:bY}{iG:bP}{R:Type}{r:Option (R×List Nat)}{z:(List e.aj×Nat)×t.cons R}{l:List Nat}(h:Lj H f e t iG r=some (z,l)):∃ v,iG=.gh e z.1.1 z.1.2 v/\t.i' H f v r=some (z.2,l):=by
 unfold Lj at h;grind
theorem LK{k v:ad}{iG:bP}{R:Type}{r:Option (R×List Nat)}{z:List (k.aj×v.aj)×R}{l:List Nat}(h:Lh k v iG r=some (z,l)):r=some (z.2,l)/\iG=.mp k v z.1:=by
 unfold Lh at h;grind
theorem LL{k v:ad}{iG:bP}{R:Type}{r:Option (R×List Nat)}{z:(Option (k.aj×v.aj)×List (k.aj×v.aj))×R}{l:List Nat}(h:Li k v iG r=some (z,l)):r=some (z.2,l)/\iG=.cu k v z.1.1 z.1.2:=by
 unfold Li at h;grind
theorem LM{t:ad}{iG:bP}{R:Type}{r:Option (R×List Nat)}{z:t.aj×R}{l:List Nat}(h:Lk H t iG r=some (z,l)):∃ c,iG=.cells t c/\xk H t (.agg t.size c) r=some (z,l):=by
 unfold Lk at h;grind
theorem LN{t:ad}{b:Nat}{R:Type}{r:Option (R×List Nat)}{z:t.aj×R}{l:List Nat}(h:Ll H t b r=some (z,l)):∃ fc m,(dz (.bH t) (.a7 b (H b).gen 0)).run H=some (some z.1,fc)/\r=some (z.2,m)/\l=fc++m:=by
 unfold Ll at h;split at h
 ·rename_i x fc ai;split at h
  ·cases h;exact⟨fc,_,ai,rfl,rfl⟩
  ·cases h
 ·cases h
theorem S9{e:ad}{b:Nat}{xs:List e.aj}{l:List Nat}(h:(dz (.slice e) (.own b (H b).gen)).run H=some (xs,l)):(H b).body=.bf e xs\/(H b).body=.hD e xs:=by
 simp only[dz,kn,ad.eG,if_true,dW,aq.e5,aq.bL]at h;split at h
 ·rename_i a1 ys aa;simp only[Option.map_eq_some_iff,Prod.mk.injEq]at h;obtain⟨z,bk,rfl,_⟩:=h;obtain⟨qZ,rfl⟩:=kK bk;grind
 ·rename_i a1 ys aa;simp only[Option.map_eq_some_iff,Prod.mk.injEq]at h;obtain⟨z,bk,rfl,_⟩:=h;obtain⟨qZ,rfl⟩:=kK bk;grind
 grind
theorem afr{k v:ad}{b:Nat}{xs:List (k.aj×v.aj)}{l:List Nat}(h:(dz (.map k v) (.fH b (H b).gen)).run H=some (xs,l)):(H b).body=.mp k v xs\/(H b).body=.jh k v xs:=by
 simp only[dz,kn,ad.eG,if_true,dW,aq.e5,aq.bL]at h;split at h
 ·rename_i k' h5 ys aa;simp only[Option.map_eq_some_iff,Prod.mk.injEq]at h;obtain⟨z,bk,rfl,_⟩:=h;obtain⟨qZ,rfl⟩:=kK bk;grind
 ·rename_i k' h5 ys aa;simp only[Option.map_eq_some_iff,Prod.mk.injEq]at h;obtain⟨z,bk,rfl,_⟩:=h;obtain⟨qZ,rfl⟩:=kK bk;grind
 grind
theorem afs{t:ad}{b:Nat}{x:Option t.aj}{l:List Nat}(h:(dz (.bH t) (.a7 b (H b).gen 0)).run H=some (x,l)):(H b).body.fI=true:=by
 simp only[dz,kn,tw,aq.e5,and_self,if_true]at h;split at h
 ·rename_i aa;rw[aa];rfl
 ·rename_i aa;rw[aa];rfl
 ·cases h
theorem b3.S_(t:b3){b:Nat}{R:Type}{r:Option (R×List Nat)}{z:t.cons R}{l:List Nat}(h:t.i' H f b r=some (z,l)) :
  (∃ m,r=some ((t.body db z).2,m)/\∀ c∈m,c∈l)/\oA (H b).body (t.body db z).1/\∀ k,(t.body db z).1.b1 k=true->t.CG=true:=by
 cases t with
 | cells t ts=>
  obtain⟨c,e,aD,h⟩:=LH h;refine⟨afn ts h,?_,λ_ _=>rfl⟩;rw[e];exact⟨λ_=>rfl,λh=>(by cases h),λh=>(by cases h),λh=>(by cases h),λ_ _=>rfl⟩
 | bf e=>
  obtain⟨E,U⟩:=LI h;refine⟨⟨l,E,λ_ h=>h⟩,?_,λ_ _=>rfl⟩;rw[U];exact oA.refl _
 | hD e=>
  obtain⟨fc,m,E,U,rfl⟩:=qe h;refine⟨⟨m,U,λ_ h=>List.mem_append_right _ h⟩,?_,λ_ h=>(by cases h)⟩;rcases S9 E with e | e<;>rw[e]
  ·exact⟨λh=>(by cases h),λ_=>⟨rfl,rfl,rfl⟩,λh=>(by cases h),λh=>(by cases h),λ_ h=>(by cases h)⟩
  ·exact oA.refl _
 | mp k v=>
  obtain⟨E,U⟩:=LK h;refine⟨⟨l,E,λ_ h=>h⟩,?_,λ_ _=>rfl⟩;rw[U];exact oA.refl _
 | jh k v=>
  obtain⟨fc,m,E,U,rfl⟩:=qe h;refine⟨⟨m,U,λ_ h=>List.mem_append_right _ h⟩,?_,λ_ h=>(by cases h)⟩;rcases afr E with e | e<;>rw[e]
  ·exact⟨λh=>(by cases h),λh=>(by cases h),λ_=>rfl,λh=>(by cases h),λ_ h=>(by cases h)⟩
  ·exact oA.refl _
 | whole t=>
  obtain⟨c,e,h⟩:=LM h;obtain⟨fc,m,E,U,rfl⟩:=qe h;refine⟨⟨m,U,λ_ h=>List.mem_append_right _ h⟩,?_,λ_ _=>rfl⟩;rw[e];exact⟨λ_=>rfl,λh=>(by cases h),λh=>(by cases h),λh=>(by cases h),λ_ _=>rfl⟩
 | gI t=>
  obtain⟨fc,m,E,U,rfl⟩:=LN h;refine⟨⟨m,U,λ_ h=>List.mem_append_right _ h⟩,?_,λ_ h=>(by cases h)⟩;exact⟨λ_=>afs E,λh=>(by cases h),λh=>(by cases h),λh=>(by cases h),λ_ h=>(by cases h)⟩
 | cu k v=>
  obtain⟨E,U⟩:=LL h;refine⟨⟨l,E,λ_ h=>h⟩,?_,λ_ _=>rfl⟩;rw[U];exact oA.refl _
 | gh e t=>
  obtain⟨v,ay,h⟩:=LJ h;refine⟨Gu t h,?_,λ_ _=>rfl⟩;rw[ay];exact⟨λh=>(by cases h),λ_=>⟨rfl,rfl,rfl⟩,λh=>(by cases h),λh=>(by cases h),λ_ h=>h⟩
theorem b3.CR(t:b3){b:Nat}{R:Type}{r:Option (R×List Nat)}{z:t.cons R}{l:List Nat}(h:t.i' H f b r=some (z,l))(M:∀ y m,r=some (y,m)->gK H m):gK H l:=by
 cases t with
 | cells t ts=>obtain⟨c,e,aD,h⟩:=LH h;exact afp ts h M
 | bf e=>exact M _ _ (LI h).1
 | hD e=>obtain⟨fc,m,E,U,rfl⟩:=qe h;exact (mO E).append (M _ _ U)
 | mp k v=>exact M _ _ (LK h).1
 | jh k v=>obtain⟨fc,m,E,U,rfl⟩:=qe h;exact (mO E).append (M _ _ U)
 | whole t=>obtain⟨c,e,h⟩:=LM h;obtain⟨fc,m,E,U,rfl⟩:=qe h;exact (mO E).append (M _ _ U)
 | gI t=>obtain⟨fc,m,E,U,rfl⟩:=LN h;exact (mO E).append (M _ _ U)
 | cu k v=>exact M _ _ (LL h).1
 | gh e t=>obtain⟨v,_,h⟩:=LJ h;exact Go.Fer.CR t h M
theorem b3.aft(aU:∀ b,cE P H κ F w b)(bn:∀ r,F r->F' r)(aC:sq f H H')(t:b3){b:Nat}{R:Type}{r:Option (R×List Nat)}{z:t.cons R}{l:List Nat}(h:t.i' H f b r=some (z,l))(ak:iU H κ F' l) :
  jC P H' (λb=>κ (f b)) F' w (κ b) (t.body db z).1:=by
 have aa:=aU b;unfold cE at aa;cases t with
 | cells t ts=>
  obtain⟨c,e,aD,h⟩:=LH h;rw[e]at aa;obtain⟨cs,T,aW,aY,bO⟩:=aa;obtain⟨m,_,_,gC⟩:=afl (H':=H') aU bn aC ts h;refine⟨cs,T,aW,aY,λi G=>⟨?_,(bO i G).2⟩⟩;have:=gC ak i (by omega) _ (by rw[Nat.zero_add];exact (bO i G).1);exact this
 | bf e=>
  rw[(LI h).2]at aa;refine⟨aa.1,λaA=>?_⟩;obtain⟨cs,T,E,U,ah,aZ,bM⟩:=aa.2 aA;exact⟨cs,T,E,U,ah,aZ,bM.mono bn (c8.refl _ _)⟩
 | hD e=>
  obtain⟨fc,m,E,U,rfl⟩:=qe h;have vb:=S9 E;have xw:=mf (v:=(κ b).slice (H b).body.len) aU bn E ak.left ⟨⟨Nat.le_refl _,by unfold bD.slice;split<;>rfl⟩,λ_ _=>rfl⟩;have:=((dT rfl).1 xw).2;rcases vb with a1 | a1<;>(rw[a1]at this;exact this)
 | mp k v=>
  rw[(LK h).2]at aa;obtain⟨ms,clk,E,U⟩:=aa;exact⟨ms,clk,E,U.mono bn (c8.refl _ _)⟩
 | jh k v=>
  obtain⟨fc,m,E,U,rfl⟩:=qe h;have xw:=mf (v:=.map (some (κ b).ab)) aU bn E ak.left ⟨⟨Nat.le_refl _,rfl⟩,λ_ _=>rfl⟩;exact ((dT rfl).1 xw).2
 | whole t=>
  obtain⟨c,e,h⟩:=LM h;rw[e]at aa;obtain⟨cs,T,aW,aY,bO⟩:=aa;obtain⟨fc,m,ai,_,rfl⟩:=qe h;have af:bu P H κ F w (.agg t.size c) (.agg cs):=⟨cs.toList,by simp,by omega,λj aG=>by
   simp_all⟩
  have xw:=mf (F':=F') aU bn ai ak.left af;have iz:=y5 (P:=P) (H:=H') (κ:=λb=>κ (f b)) t xw.2;refine⟨cs,T,aW,aY,λi G=>⟨?_,(bO i G).2⟩⟩;have:=(iz.kL i (by rw[iz.len];simpa [Value.cells,aY]using G)).1;rw[List.getD_eq_getElem?_getD]at this;rw[Array.getD_eq_getD_getElem?];simpa [Value.cells]using this
 | gI t=>
  obtain⟨fc,m,E,U,rfl⟩:=LN h;have xw:=mf (v:=.pointer (some ⟨(κ b).ab,0,none⟩)) aU bn E ak.left ⟨⟨Nat.le_refl _,rfl⟩,λ_ _=>rfl⟩;rcases ((dT rfl).1 xw).2 with⟨_,e⟩ | ⟨p,y,bj,ay,aN,ah,aZ⟩
  ·cases e
  ·simp only[List.cons.injEq,Value.pointer.injEq,Option.some.injEq,and_true]at ay;subst ay;cases aN;exact⟨bj,ah,aZ⟩
 | cu k v=>
  rw[(LL h).2]at aa;exact wS.mono aa bn (c8.refl _ _) rfl
 | gh e t=>
  obtain⟨v,ay,h⟩:=LJ h;rw[ay]at aa;obtain⟨aX,cs,T,E,U,ah,aZ,bM,dt,gb,iQ⟩:=aa;obtain⟨m,_,_,gC⟩:=xv (F':=F') (H':=H') aU bn aC t h;refine⟨aX,cs,T,E,U,ah,aZ,bM,λj aG qN=>?_,gC ak _ gb,iQ⟩;obtain⟨bj,d1,d2⟩:=dt j aG qN;exact⟨bj,d1,fe e bn (c8.refl _ _) d2⟩
theorem afu:∀ (l:List (Nat×b3)) {x:pf l} {m:List Nat},xl H f l=some (x,m)->∀ b,eP (hj db l x) b=⟨0,.fz⟩\/
  ∃ iG,eP (hj db l x) b=⟨0,iG⟩/\oA (H (f b)).body iG/\∃ t,(b,t)∈l/\∀ k,iG.b1 k=true->t.CG=true:=by
 intro l;induction l with
 | nil=>intro x m _ b;exact .inl rfl
 | cons q l aJ=>
  intro x m h b;obtain⟨du,dF⟩:=q;simp only[xl]at h;obtain⟨⟨dx,E,U⟩,ah,aZ⟩:=b3.S_ dF h;by_cases e:b=du
  ·subst e;exact .inr ⟨_,by simp only[hj,eP,if_true],ah,dF,by simp,aZ⟩
  ·rcases aJ E b with k | ⟨iG,aW,aY,t,bO,gC⟩
   ·exact .inl (by simpa [hj,eP,e]using k)
   ·exact .inr ⟨iG,by simpa [hj,eP,e]using aW,aY,t,List.mem_cons_of_mem _ bO,gC⟩
theorem afv:∀ (l:List (Nat×b3)) {x:pf l} {m:List Nat},xl H f l=some (x,m)->gK H m:=by
 intro l;induction l with
 | nil=>intro x m h;cases h;exact .nil H
 | cons q l aJ=>intro x m h;exact b3.CR q.2 h λy m hm=>aJ hm
theorem afw(aU:∀ b,cE P H κ F w b)(bn:∀ r,F r->F' r)(aC:sq f H H'):∀ (l:List (Nat×b3)) {x:pf l} {m:List Nat},xl H f l=some (x,m)->iU H κ F' m->∀ b,jC P H' (λb=>κ (f b)) F' w (κ (f b)) (eP (hj db l x) b).body:=by
 intro l;induction l with
 | nil=>intro x m _ _ b;trivial
 | cons q l aJ=>
  intro x m h hm b;obtain⟨du,dF⟩:=q;simp only[xl]at h;obtain⟨⟨dx,E,U⟩,_⟩:=b3.S_ dF h;by_cases e:b=du
  ·subst e;simp only[hj,eP,if_true];exact b3.aft aU bn aC dF h hm
  ·have:=aJ E (λc hc=>hm c (U c hc)) b;simpa [hj,eP,e]using this
theorem afx:∀ (ts:List (Nat×bY)) {c:Nat->aF} {R:Type} {r:Option (R×List Nat)} {z:oy ts R} {l:List Nat},xm H f ts c r=some (z,l)->∀ {i dG aL L n st},fp (eE db ts z).1 i=.aR dG aL L n st->c i=.aR dG aL L n st:=by
 intro ts;induction ts with
 | nil=>intro c R r z l _ i dG aL L n st e;cases e
 | cons p ts aJ=>
  intro c R r z l h i dG aL L n st e;obtain⟨jJ,t⟩:=p;simp only[xm]at h;obtain⟨m,E,_⟩:=Gu t h;simp only[eE,fp]at e;split at e
  ·rename_i afy;subst afy;cases t with
   | aR kv=>
    obtain⟨_,ah⟩:=Gt h;rw[ah];exact e
   | _=>cases e
  grind
end
structure Gv(C:b_)(s:aB)(a:Act)(w:World)(κ:Nat->bD)(f:Nat->Nat)(F':Nat->Prop)(sh:dH)(D:sh.aj)(bV:List Nat):Prop where
 bT:∀ i,bu C.P (sh.st D).ab (λb=>κ (f b)) F' w ((sh.st D).ax i) (a.tmps.getD i Go.undef)
 bE:∀ b,cE C.P (sh.st D).ab (λb=>κ (f b)) F' w b
 b1:∀ b,((sh.st D).ab b).body.b1 (κ (f b))=true->f b ∉ bV/\(s.ab (f b)).body.b1 (κ (f b))=true/\b∈sh.oz
 zT:sq f s.ab (sh.st D).ab
 aR:∀ l aL L n st,(sh.st D).ax b5=.aR l aL L n st->s.ax b5=.aR l aL L n st
theorem dH.S'{C:b_}{sh:dH}{f:Nat->Nat}{s:aB}{a:Act}{w:World}{κ:Nat->bD}{F:Nat->Prop}{D:sh.aj}{bV:List Nat}(h:sh.zH f s=some (D,bV))(M:bl C s a w κ F) :
  ∃ F',(∀ r,F r->F' r)/\bl C (s.cB bV) a w κ F'/\Gv C s a w κ f F' sh D bV:=by
 unfold dH.zH at h;split at h
 ·rename_i iF axr ow;split at h
  ·rename_i e';cases h;obtain⟨m,E,hm⟩:=afo sh.bT ow;have lL:gK s.ab bV:=afq sh.bT ow λy m hm=>afv sh.bE hm;obtain⟨F',f1,bc,f2⟩:=bl.k_ lL M;have Ta:=afu sh.bE E;have tZ:sq f s.ab (sh.st D).ab:=by
    intro b;show (eP (hj db sh.bE (eE db sh.bT D).2) b).gen=0/\oA (s.ab (f b)).body (eP (hj db sh.bE (eE db sh.bT D).2) b).body;rcases Ta b with e | ⟨iG,e,k,_⟩
    ·rw[e];exact⟨rfl,oA.fz _⟩
    grind
   obtain⟨m2,_,_,afz⟩:=afm (F':=F') (w:=w) M.bE f1 tZ sh.bT ow;refine⟨F',f1,bc,{ bT:=λi=>afz f2 i _ (M.bT i),bE:=λb=>?_,b1:=λb aa=>?_,zT:=tZ,aR:=λl aL L n st e=>afx sh.bT ow e }⟩
   ·exact afw M.bE f1 tZ sh.bE E (λc hc=>f2 c (hm c hc)) b
   ·have an:=(tZ b).2.2.2.2.2 _ aa;rcases Ta b with e | ⟨iG,e,_,t,aK,axs⟩
    ·have e:(sh.st D).ab b=_:=e;rw[e]at aa;cases aa
    ·have e:(sh.st D).ab b=_:=e;rw[e]at aa;have bd:b∈sh.oz:=List.mem_filterMap.2 ⟨(b,t),aK,by grind⟩;grind
  grind
 grind
theorem Gv.xx{C:b_}{s:aB}{a:Act}{w:World}{κ:Nat->bD}{f:Nat->Nat}{F':Nat->Prop}{sh:dH}{D:sh.aj}{bV:List Nat}(h:Gv C s a w κ f F' sh D bV){b:Nat}(aa:((sh.st D).ab b).body.b1 (κ (f b))=true) :
  ((s.cB bV).ab (f b)).body.b1 (κ (f b))=true:=by
 obtain⟨E,U,_⟩:=h.b1 b aa;simp only[aB.cB,if_neg E];exact U
theorem LO{C:b_}{s:aB}{a:Act}{w:World}{κ:Nat->bD}{F:Nat->Prop}(M:bl C s a w κ F){b:Nat}{e:ad} :
  bl C (s.cx b ⟨(s.ab b).gen+1,.bf e []⟩) a w (λi=>if i=b then ⟨0,0,0,true⟩ else κ i) F:=
 M.Co (k:=⟨0,0,0,true⟩) (Nat.lt_succ_self _) (.inl rfl) (Nat.le_refl _) (λ_ _=>rfl) (λh=>by cases h) (df.refl _) λ_ _=>⟨λ_=>rfl,λh=>by cases h⟩
theorem afA{C:b_}{s:aB}{a:Act}{w:World}{κ:Nat->bD}{F:Nat->Prop}(M:bl C s a w κ F){i b be g':Nat}(aD:s.ax i=.own be g'):∃ κ',bl C (Ln s i b be g') a w κ' F:=by
 unfold Ln;split
 ·rename_i e xs aw bS;obtain⟨eD,rfl⟩:=of_decide_eq_true aw;generalize mP:(λj=>if j=b then (⟨(s.ab b).gen+1,.bf e xs⟩:bK) else if j=be then ⟨(s.ab be).gen+1,.fz⟩ else s.ab j)=H';generalize iH:(λj=>if j=b then κ be else κ j)=κ';have E:H' b=⟨(s.ab b).gen+1,.bf e xs⟩:=by grind
  have U:H' be=⟨(s.ab be).gen+1,.fz⟩:=by grind
  have ah:∀ j,j≠b->j≠be->H' j=s.ab j:=λj aW aY=>by grind
  have aW:κ' b=κ be:=by grind
  have bO:∀ j,j≠b->κ' j=κ j:=λj k=>by grind
  have ak:fo s.ab κ H' κ':=by
   rw[BT];intro j;by_cases ay:j=b
   ·subst ay;rw[E];exact⟨Nat.le_succ _,λe=>absurd e (Nat.ne_of_lt (Nat.lt_succ_self _))⟩
   ·by_cases aN:j=be
    ·subst aN;rw[U];exact⟨Nat.le_succ _,λe=>absurd e (Nat.ne_of_lt (Nat.lt_succ_self _))⟩
    ·rw[ah j ay aN,bO j ay];exact p1.refl _ _
  have gj:∀ j,(H' j).body.b1 (κ' j)=true->(j=b/\(s.ab be).body.b1 (κ be)=true)\/(j≠b/\j≠be/\(s.ab j).body.b1 (κ j)=true):=λj aG=>by
   by_cases ay:j=b
   ·grind
   ·by_cases aN:j=be
    ·subst aN;rw[U]at aG;cases aG
    grind
  have h:=M.move (H':=H') (κ':=κ') (F':=F) (w':=w) ak (λ_ h=>h) (λ_ h=>.inl h) (Nat.le_refl _) (λ_ _ _=>rfl) (df.refl w)
   (λ_ j=>by
    by_cases ay:j=b
    ·subst ay;have aU:=M.bE be;unfold cE at aU ⊢;rw[bS]at aU;rw[E,aW];exact aU
    ·by_cases aN:j=be
     ·subst aN;unfold cE;rw[U];trivial
     ·exact cE.k6 (M.bE j) ak (λ_ h=>h) (c8.refl _ _) (by grind) (bO j ay) λ_=>rfl)
   (λj aG=>by
    rcases gj j aG with⟨rfl,h⟩ | ⟨ay,_,h⟩
    ·rw[aW];have:=M.own be h;grind
    ·rw[bO j ay];have:=M.own j h;grind)
   (λj j9 aG fS e=>by
    rcases gj j aG with⟨rfl,h⟩ | ⟨ay,aN,h⟩<;>rcases gj j9 fS with⟨rfl,de⟩ | ⟨Tb,afB,de⟩
    ·rfl
    ·rw[aW,bO j9 Tb]at e;exact absurd (M.inj be j9 h de e).symm afB
    ·rw[aW,bO j ay]at e;exact absurd (M.inj j be h de e) aN
    ·rw[bO j ay,bO j9 Tb]at e;exact M.inj j j9 h de e)
   M.dd
   (λj _ aG=>by
    by_cases ay:j=b
    ·subst ay;rw[E]at aG;rcases aG with aG | aG<;>cases aG
    ·by_cases aN:j=be
     ·subst aN;rw[U]at aG;rcases aG with aG | aG<;>cases aG
     grind)
  refine⟨κ',{ h with bT:=λj=>?_,dE:=h.dE,dfr:=h.dfr,bE:=h.bE,eB:=λl aL L n st a1=>?_ }⟩
  ·show bu C.P _ _ F w (if j=i then .own b ((s.ab b).gen+1) else s.ax j) _;split
   ·rename_i e;subst e;have af:=M.bT j;rw[aD]at af;have ij:=af.2 rfl (by rw[bS];rfl);rw[bS]at ij;exact⟨⟨by grind,af.1.2⟩,λ_ _=>by grind⟩
   ·exact h.bT j
  ·have a1:(if b5=i then .own b ((s.ab b).gen+1) else s.ax b5)=.aR l aL L n st:=a1;split at a1
   ·cases a1
   ·exact h.eB l aL L n st a1
 grind
theorem afC{C:b_}{bs:List (Nat×b3)}{s:aB}{a:Act}{w:World}{κ:Nat->bD}{F:Nat->Prop}(M:bl C s a w κ F)(i b:Nat):∃ κ',bl C (Lo bs s i b) a w κ' F:=by
 unfold Lo;split
 ·rename_i e aD _;have h:=LO M (b:=b) (e:=e);refine⟨_,{ h with bT:=λj=>?_,dE:=h.dE,dfr:=h.dfr,bE:=h.bE,eB:=λl aL L n st a1=>?_ }⟩
  ·show bu C.P _ _ F w (if j=i then .own b ((s.ab b).gen+1) else s.ax j) _;split
   ·rename_i e;subst e;have af:=M.bT j;rw[aD]at af;have af:a.tmps.getD j undef=.slice none 0 0:=af;rw[af];exact⟨⟨by simp[aB.cx],rfl⟩,λ_ _=>by simp[bD.slice]⟩
   ·exact h.bT j
  ·have a1:(if b5=i then .own b ((s.ab b).gen+1) else s.ax b5)=.aR l aL L n st:=a1;split at a1
   ·cases a1
   ·exact h.eB l aL L n st a1
 ·rename_i aD _;exact afA M aD
 grind
theorem afD{C:b_}{bs:List (Nat×b3)}{s:aB}{a:Act}{w:World}{κ:Nat->bD}{F:Nat->Prop}(M:bl C s a w κ F)(c j b:Nat):∃ κ',bl C (Lp bs s c j b) a w κ' F:=by
 unfold Lp;split
 ·rename_i t f hc;split
  ·rename_i e ar aw _;have Tc:c≠b:=λe=>by grind
   have h:=LO M (b:=b) (e:=e);have iC:(s.cx b ⟨(s.ab b).gen+1,.bf e []⟩).ab c=s.ab c:=by simp[aB.cx,Tc]
   have aU:=h.bE c;unfold cE at aU;rw[iC,hc]at aU;obtain⟨cs,T,E,U,ah⟩:=aU;refine⟨_,h.o6 (w':=w) (b:=c) (x:=⟨(s.ab c).gen,.cells t λq=>if q=j then .own b ((s.ab b).gen+1) else f q⟩) (by rw[iC,hc];rfl) rfl
    (qP (by rw[iC]) (λ_=>by rw[iC,hc];rfl) (λh=>by cases h) (λh=>by cases h) (λh=>by cases h)) (λ_=>by rw[iC,hc];rfl) (λh=>by cases h) (λ_ _=>rfl) rfl (df.refl _) λH mP ak _=>?_⟩
   refine⟨cs,T,E,U,λq bq=>⟨?_,(ah q bq).2⟩⟩;show bu C.P H _ F w (if q=j then .own b ((s.ab b).gen+1) else f q) _;split
   ·rename_i eq;subst eq;have af:=(ah q bq).1;rw[ar]at af;have af:cs.getD q undef=.slice none 0 0:=af;rw[af];have afE:H b=⟨(s.ab b).gen+1,.bf e []⟩:=by rw[mP];simp[aB.cx,Ne.symm Tc]
    exact⟨⟨by grind,rfl⟩,λ_ _=>by rw[afE];simp[bD.slice]⟩
   ·exact bu.later ak (λ_ h=>h) (c8.refl _ _) (ah q bq).1
  grind
 grind
theorem afF{C:b_}(sh:dH){s:aB}{a:Act}{w:World}{κ:Nat->bD}{F:Nat->Prop}(M:bl C s a w κ F):∃ κ',bl C (sh.F8 s) a w κ' F:=by
 have E:∀ (l:List (Nat×bY)) (s:aB) (κ:Nat->bD),bl C s a w κ F->∃ κ',bl C (F5 sh.bE l s) a w κ' F:=by
  intro l;induction l with
  | nil=>intro s κ h;exact⟨κ,h⟩
  | cons p l aJ=>
   intro s κ h;simp only[F5];split
   ·obtain⟨κ',de⟩:=afC (bs:=sh.bE) h p.1 _;exact aJ _ _ de
   grind
 have U:∀ (c:Nat) (l:List bY) (j:Nat) (s:aB) (κ:Nat->bD),bl C s a w κ F->∃ κ',bl C (F6 sh.bE c l j s) a w κ' F:=by
  intro c l;induction l with
  | nil=>intro j s κ h;exact⟨κ,h⟩
  | cons t l aJ=>
   intro j s κ h;simp only[F6];split
   ·obtain⟨κ',de⟩:=afD (bs:=sh.bE) h c j _;exact aJ _ _ _ de
   ·exact aJ _ _ _ h
 have ah:∀ (l:List (Nat×b3)) (s:aB) (κ:Nat->bD),bl C s a w κ F->∃ κ',bl C (F7 sh.bE l s) a w κ' F:=by
  intro l;induction l with
  | nil=>intro s κ h;exact⟨κ,h⟩
  | cons p l aJ=>
   intro s κ h;simp only[F7];split
   ·obtain⟨κ',de⟩:=U p.1 _ 0 s κ h;exact aJ _ _ de
   grind
 obtain⟨afG,gM⟩:=E sh.bT s κ M;exact ah sh.bE _ _ gM
theorem Td:∀ (l:List (Nat×b3)) (x:pf l) (b:Nat),(eP (hj db l x) b).body.e3=true->∃ q∈l,q.1=b/\q.2.SO=true
 | [],_,_,h=>by cases h
 | p::l,x,b,h=>by
  simp only[hj,eP]at h;by_cases e:b=p.1
  ·rw[if_pos e]at h;refine⟨p,by simp,e.symm,?_⟩;obtain⟨jJ,t⟩:=p;cases t<;>first | rfl | cases h
  ·rw[if_neg e]at h;obtain⟨q,E,U⟩:=Td l _ b h;grind
theorem dH.zU{C:b_}{sh:dH}{s:aB}{a:Act}{w:World}{D:sh.aj}{κ:Nat->bD}{F:Nat->Prop}(h:sh.i' s=some D)(M:bl C s a w κ F):∃ κ' F',(∀ r,F r->F' r)/\bl C (sh.st D) a w κ' F':=by
  obtain⟨κ,M⟩:=afF sh M;unfold dH.i' at h;generalize sh.F8 s=s at h M;split at h;case h_2=>cases h
  rename_i afH;simp only[Option.map_eq_some_iff]at h;obtain⟨⟨iF,bV⟩,h,rfl⟩:=h;obtain⟨F',f1,bc,aw⟩:=dH.S' h M;have gj:=λb aa=>aw.xx (b:=b) aa;exact⟨κ, F', f1, { bc with
    dE:=bc.dE,dfr:=bc.dfr,bT:=aw.bT,bE:=aw.bE,own:=λb aa=>bc.own b (gj b aa),inj:=λb be aa cW=>bc.inj b be (gj b aa) (gj be cW)
    jD:=λb r M hc=>bc.jD b r M (hc.imp (λhc=>by
      have aX:=(aw.zT b).2.1 hc;simp only[aB.cB];split
      · rcases zg s.ab (s.ab b) with e | ⟨_,_,ai,_⟩ | ⟨_,_,_,ai,_⟩ | ⟨_,_,_,_,_,_,e⟩
        · grind
        · rw[ai]at aX;cases aX
        · rw[ai]at aX;cases aX
        · rw[e];rfl
      omega) (λhc=>by
      have aX:=(aw.zT b).2.2.2.1 hc;simp only[aB.cB];split
      · rcases zg s.ab (s.ab b) with e | ⟨_,_,ai,_⟩ | ⟨_,_,_,_,e⟩ | ⟨_,_,_,_,ai,_,_⟩
        · grind
        · rw[ai]at aX;cases aX
        · rw[e];rfl
        · rw[ai]at aX;cases aX
      omega))
    km:=λb k an _ bb=>by
      obtain⟨b9,a2,_⟩:=(aw.zT b).2.2.1 bb;have aC:(s.ab b).gen=0:=by
        rcases Td sh.bE (eE db sh.bT iF).2 b bb with⟨q,bq,rfl,jk⟩
        have:=List.all_eq_true.1 afH q bq;rw[jk]at this;have FQ:=M.j3 _ k an;grind
      obtain⟨aW,aY⟩:=M.km b k an aC b9;grind
    eB:=λl aL L n st e=>by
      obtain⟨E,U,Y,ah,aZ,bM⟩:=bc.eB l aL L n st (aw.aR l aL L n st e);grind }⟩
theorem dH.xv{C:b_}{sh:dH}{s:aB}{a:Act}{w:World}{D:sh.aj}(h:sh.i' s=some D)(M:cr C s a w):cr C (sh.st D) a w:=by
 obtain⟨κ,F,M⟩:=M;obtain⟨κ',F',_,bc⟩:=dH.zU h M;exact⟨κ',F',bc⟩
end Go.Fer
namespace Go.Fer
open Go.RowKit
def afI(C:b_)(o:Oper)(s:aB)(bU:hY):Prop:=
 ∀ (a:Act) (w:World) (Q:Exit->Act->World->Prop) (K:Act->World->Prop),cr C s a w->bU.b7->A.cw bU.m (λy=>∀ a' w',cr C (bU.st y) a' w'->K a' w')->o.wpIn (dR C.r) 0 C.P a w K Q
def afJ(C:b_)(o:Oper)(s:aB)(bU:hY):Prop:=
 ∀ gs,bU.CJ=some gs->(∀ y a w,cr C (bU.st y) a w->cr C (gs true y) a w)/\∀ a w,cr C s a w->cr C (gs false bU.d) (a.put o.dst Go.undef) w
structure qf(C:b_)(o:Oper)(s:aB)(bU:hY):Prop where
 prog:afI C o s bU
 axt:afJ C o s bU
 axu:q4 (a8 C.aO s.ax) o->bU.b7
theorem cr.LP{C:b_}{s:aB}{d:Option Nat}{av av':aF}{a:Act}{w:World}(h:cr C (s.set d av) a w)
  (aw:∀ i,d=some i->i<C.nt) (af:∀ κ F v,bu C.P s.ab κ F w av v->bu C.P s.ab κ F w av' v):cr C (s.set d av') a w:=by
 cases d with
 | none=>exact h
 | some d=>
  obtain⟨κ,F,h⟩:=h;have aA:=h.gi;have qO:=aw d rfl;have aK:b5≠d:=by unfold b5 eQ at *;omega
  refine⟨κ,F,{ h with bT:=λi=>?_,dE:=h.dE,dfr:=h.dfr,bE:=h.bE,eB:=λl aL L n st e=>h.eB l aL L n st ?_ }⟩
  ·have G:=h.bT i;simp only[aB.set]at G ⊢;grind
  ·simp only[aB.set,if_neg aK]at e ⊢;exact e
section
variable {C:b_} {T:Nat->ad} {bg:Nat->Option aP} {o:Oper} {s:aB}
theorem CS{args:List Operand}(aa:q4 (a8 C.aO s.ax) o)(bb:∀ x∈args,x∈o.op.operands.toList):jH (args.map (a8 C.aO s.ax)):=
 Cy λv af=>by
  simp only[List.mem_map]at af;obtain⟨p,ao,rfl⟩:=af;exact aa p (bb p ao)
theorem Te(bh:∀ i,o.dst=some i->i<C.nt){aR:ad}{bV:List Nat}(lL:gK s.ab bV){d:aR.aj} :
  (∀ (y:aR.aj) a w,cr C (q7 s o aR bV (qS aR y)) a w->cr C (q7 s o aR bV (.hC true (qS aR y))) a w)/\∀ a w,cr C s a w->cr C (q7 s o aR bV (.hC false (qS aR d))) (a.put o.dst Go.undef) w:=by
 refine⟨λy a w h=>cr.LP h bh λκ F v af=>⟨λ_=>af,λh=>(by cases h)⟩,λa w h=>?_⟩;obtain⟨κ,F,M⟩:=h;obtain⟨F',_,bc,_⟩:=bl.k_ lL M;unfold q7;split
 ·exact⟨κ,F,M.set bh ⟨λh=>(by cases h),λ_=>rfl⟩⟩
 ·exact⟨κ,F',bc.set bh ⟨λh=>(by cases h),λ_=>rfl⟩⟩
theorem Tf(bh:∀ i,o.dst=some i->i<C.nt){k:Nat}{args:Array Operand}{dn:Array TypeId}(ag:o.op=.call { callee:=.value (.func k),args:=args,argTypes:=dn }){cY:hk}(ar:gU C.P k cY.ts cY.aR cY.sh){bU:hY}
  (h:zL C.aO s o args.toList cY=some bU):qf C o s bU:=by
 unfold zL at h;split at h
 ·rename_i x bV ai;cases h;refine⟨λa w Q K M bd hm=>?_,λgs oB=>?_,λaa=>CS aa λx ai=>by rw[ag];simp[Op.operands,Call.operands];simp_all⟩
  ·obtain⟨κ,F,M⟩:=M;exact Sd M ar bh ag bd ai hm.1 λy w' aS v j'=>hm.2 y aS _ _ j'
  ·cases oB;exact Te bh (p_ _ ai)
 grind
theorem afK(bh:∀ i,o.dst=some i->i<C.nt){k:Nat}{args:Array Operand}{dn:Array TypeId}(ag:o.op=.call { callee:=.value (.func k),args:=args,argTypes:=dn }){cY:hk}(ar:gU C.P k cY.ts cY.aR cY.sh)(CT:Fh C.P k cY.ts cY.aR cY.sh){bU:hY}
  (h:Gb C.aO s o args.toList cY=some bU):qf C o s bU:=by
 unfold Gb at h;split at h
 ·rename_i x bV ai;cases h;refine⟨λa w Q K M bd hm=>?_,λgs oB=>(by grind),λaa=>CS aa λx ai=>by rw[ag];simp[Op.operands,Call.operands];simp_all⟩;obtain⟨κ,F,M⟩:=M;obtain⟨args⟩:=args;have c_:(execOp a.eval o).run C.P w=.ok (.enter k (args.map a.eval).toArray) w:=by
   simp only[execOp,ag,Sem.run_bind,resolve,Act.eval,Deferred.ofValue,Sem.run_pure,Result.andThen_ok,invoke];have:=ar.enter (args.map a.eval).toArray w;grind
  obtain⟨F',f1,bc,f2⟩:=bl.k_ (p_ _ ai) M;have dX:fm C.P cY.ts F' w (args.map a.eval) x:=by
   refine vf M.bE f1 cY.ts ai f2 (by simp) λi G dM=>?_;simp only[List.getElem_map];have dA:i<args.length:=by grind
   have E:=r6 bd i (by grind);have ay:(args.map (a8 C.aO s.ax)).getD i .undef=a8 C.aO s.ax args[i]:=by grind
   rw[show (List.map (a8 C.aO s.ax) (⟨args⟩:Array Operand).toList)=args.map (a8 C.aO s.ax) from rfl,ay]at E;exact o8 (j7 M args[i]) E
  refine Ct (by grind) c_ (CT.iw F' w _ x bc.dd bc.iy dX hm.1) λe w' ⟨v,y,he,aS,gm,aa⟩=>⟨v,he,hm.2 y aS _ _ ⟨κ,_,(M.grow aa).set bh (Cs ?_)⟩⟩
  obtain⟨aE,du,dF,ou⟩:=gm;exact⟨aE,du,dF,fe _ (λr M=>.inr M) (c8.refl _ _) ou⟩
 grind
theorem afL(bh:∀ i,o.dst=some i->i<C.nt){t:Nat}{args:Array Operand}{dn:Array TypeId}(ag:o.op=.call { callee:=.value (.tmp t),args:=args,argTypes:=dn }){bU:hY}
  (h:CK C.aO s o t args.toList=some bU):qf C o s bU:=by
 unfold CK at h;split at h
 ·rename_i b7 aL b f hu;split at h
  ·rename_i x bV ai;cases h;obtain⟨args⟩:=args;refine⟨λa w Q K M bd hm=>?_,λgs oB=>?_,λaa=>⟨?_,CS aa λx ai=>by rw[ag];simp[Op.operands,Call.operands];simp_all⟩⟩
   ·have hu:=RD hu;obtain⟨κ,F,M⟩:=M;obtain⟨F',f1,bc,f2⟩:=bl.k_ (p_ _ ai) M;have dX:fm C.P aL F' w (args.map a.eval) x:=by
     refine vf M.bE f1 aL ai f2 (by simp) λi G dM=>?_;simp only[List.getElem_map];have dA:i<args.length:=by grind
     have E:=r6 bd.2 i (by grind);have ay:(args.map (a8 C.aO s.ax)).getD i .undef=a8 C.aO s.ax args[i]:=by grind
     rw[show (List.map (a8 C.aO s.ax) (⟨args⟩:Array Operand).toList)=args.map (a8 C.aO s.ax) from rfl,ay]at E;exact o8 (j7 M args[i]) E
    have Gw:bu C.P s.ab κ F w (use (a8 C.aO s.ax (.tmp t))).2 (a.eval (.tmp t)):=cN M (.tmp t) hu bd.1 |> λh=>by
     have e:use (a8 C.aO s.ax (.tmp t))=(b7,.val (.fn aL b) f):=hu;grind
    have e:use (a8 C.aO s.ax (.tmp t))=(b7,.val (.fn aL b) f):=hu;rw[e]at Gw;obtain⟨_,u,xy,_,wI⟩:=(dT rfl).1 Gw;have xy:a.eval (.tmp t)=u:=(List.cons.inj xy).1;obtain⟨g,c6,aC,sr,LQ⟩:=wI F' w f1 (c8.refl _ _) bc.dd bc.iy (args.map a.eval) x dX.1 dX.2 hm.1;have c_:(execOp a.eval o).run C.P w=.ok (.enter g ((args.map a.eval).toArray++c6)) w:=by
     have af:a.eval (.tmp t)=.func (.func g) #[] c6:=xy.trans aC;simp only[execOp,ag,Sem.run_bind,resolve,af,Deferred.ofValue,Sem.run_pure,Result.andThen_ok,invoke];grind
    refine Ct (by grind) c_ LQ λe w' ⟨v,y,aE,he,aS,E,U,ah,aa⟩=>⟨v,he,hm.2 y aS _ _ ?_⟩
    have gm:tr C.P b (u0 F' w w') w' v y:=⟨aE,E,U,ah⟩
    unfold q7;by_cases ao:b.pure=true
    ·rw[if_pos ao];have aC:=M.grow aa;refine⟨κ,_,aC.set bh (Cs ?_)⟩;exact⟨aE,E,KE ao ⟨U,ah⟩⟩
    ·rw[if_neg ao];have aC:=bc.grow aa;exact⟨κ,_,aC.set bh (Cs gm)⟩
   ·cases oB;exact Te bh (p_ _ ai)
   ·have:=aa (.tmp t) (by rw[ag];simp[Op.operands,Call.operands]);have e:use (a8 C.aO s.ax (.tmp t))=(b7,.val (.fn aL b) f):=RD hu;grind
  grind
 grind
theorem afM(aV:dS C.P T)(bh:∀ i,o.dst=some i->i<C.nt){ty:TypeId}{x:Operand}(ag:o.op=.range ty x){bU:hY}(h:Gf C.aO T s o ty x=some bU):qf C o s bU:=by
 unfold Gf at h;split at h
 ·rename_i k v d aK aw;split at h;rename_i b7 av hu;split at h
  ·rename_i es bV o_;split at h
   ·cases h
   ·rename_i tL;cases h;have tL:d ∉ bV:=by grind
    obtain⟨i,j,G,_,_⟩:=(aV.cb aK (by simp)).mp;refine⟨λa w Q K M bd hm=>?_,λgs oB=>(by grind),λaa=>q4.use aa (by rw[ag];simp[Op.operands]) hu⟩;obtain⟨κ,F,M⟩:=M;obtain⟨F',f1,bc,f2⟩:=bl.k_ (mO o_) M;have af:=cN M x hu bd;have nL:=((dT rfl).1 (mf M.bE f1 o_ f2 af)).2;have iH:=hm.2 () rfl;have pb:(s.cB bV).ab d=s.ab d:=by simp only[aB.cB];grind
    have fin:∀ (cu:Obj),(∀ w',w'=w.alloc cu->wS C.P k v F' w' w.heap.size none es)->(execOp a.eval o).run C.P w=.ok (.value (.pointer (some ⟨w.heap.size,0,none⟩))) (w.alloc cu)->o.wpIn (dR C.r) 0 C.P a w K Q:=by
     intro cu hit c_;have E:=bc.alloc (b:=d) (x:=⟨(s.ab d).gen+1,.cu k v none es⟩) (M.gL (bh d aw)) (by grind) (o:=cu) (k:=⟨w.heap.size,0,0,false⟩) rfl λH κ' _ _ _=>hit _ rfl;refine hx (by grind) c_ (iH _ _ ⟨_,F',bl.set (s:=(s.cB bV).cx d _) E bh ⟨⟨by simp[aB.cx],rfl⟩,λ_ _=>by simp⟩⟩)
    rcases nL with⟨ay,rfl⟩ | ⟨r,ms,clk,ay,m1,m2,m3,m4,m5,m6⟩
    ·have ai:a.eval x=.map none:=(List.cons.inj ay).1;refine fin (.mapIter none 0 #[] 0) (λw' hw=>.inl ⟨by rw[hw];exact p2 _ _,rfl,rfl⟩) ?_;simp[execOp,ag,Instr.range,dC G,ai]
    ·have ai:a.eval x=.map (some r):=(List.cons.inj ay).1;refine fin (.mapIter (some r) clk #[] clk) (λw' hw=>.inr ⟨r,ms,clk,#[],m1,?_,by rw[hw];exact p2 _ _,λi G=>(m5 i (by omega) G).2.2.2.2,m6,?_,λc hc=>by cases hc⟩) ?_
     ·rw[hw,o5 _ _ (bc.dd r m1)];exact m2
     ·refine⟨List.range ms.size,by grind,List.nodup_range,λi=>by simp,λj aG fS=>?_⟩;have xa:j<ms.size:=by omega
      obtain⟨aW,aY,bO,gC,_⟩:=m5 j fS xa;refine⟨by grind,?_⟩;simp only[List.getElem_range];have he:c8 F' w w':=by rw[hw];exact c8.alloc bc.dd _
      exact yY.mono ⟨aW,aY,bO,gC⟩ (λ_ h=>h) he
     ·have eU:(getObj r).run C.P w=.ok (.map ms clk) w:=by simp[getObj,Sem.run,m2]
      simp[execOp,ag,Instr.range,dC G,ai,eU]
  grind
 grind
theorem afN(bh:∀ i,o.dst=some i->i<C.nt){x:Operand}(ag:o.op=.entry x){bU:hY}(h:Gi C.aO s o x=some bU):qf C o s bU:=by
 unfold Gi at h;split at h
 ·rename_i b g ai;split at h
  ·rename_i aC;split at h
   ·rename_i k v c ch aa;cases h;refine⟨λa w Q K M _ hm=>?_,λgs oB=>(by grind),λ_=>trivial⟩;obtain⟨κ,F,M⟩:=M;have af:=j7 M x;rw[ai]at af;have af:=af.2 aC.symm (by rw[aa];rfl);have aU:=M.bE b;unfold cE at aU;rw[aa]at aU;have fj:=A.kI.1 hm;have iH:=A.d'.1 fj.2;obtain⟨c',i_⟩:=Option.isSome_iff_exists.1 fj.1;subst i_;rcases aU with⟨_,_,e⟩ | ⟨lG,es,clk,seen,E,U,ah,aZ,bM,_,gb⟩
    ·cases e
    ·obtain⟨i,G,aD,he⟩:=gb c' rfl;have vg:es.find? (λe=>e.born == es[i].born)=some es[i]:=by
      rw[<-Array.find?_toList];have jN:es[i]∈es.toList:=by simp
      cases ar:es.toList.find? (λe=>e.born == es[i].born) with
      | none=>grind
      | some e=>
       have iQ:=List.find?_some ar;have pW:=List.mem_of_find?_eq_some ar;obtain⟨j,aG,rfl⟩:=List.mem_iff_getElem.1 pW;grind
     have CU:(getObj (κ b).ab).run C.P w=.ok (.mapIter (some lG) clk seen clk) w:=by simp[getObj,Sem.run,ah]
     have xd:(getObj lG).run C.P w=.ok (.map es clk) w:=by simp[getObj,Sem.run,U]
     have c_:(execOp a.eval o).run C.P w=.ok (.value (.tuple #[es[i].key,es[i].val])) w:=by
      simp[execOp,ag,Instr.entry,af,CU,xd,aD,vg]
     refine hx (by grind) c_ (iH _ _ ⟨κ,F,M.set bh ⟨[es[i].key,es[i].val],rfl,rfl,λn aA=>?_⟩⟩);match n,aA with
     | 0,_=>exact⟨he.1,he.2.1⟩
     | 1,_=>exact⟨he.2.2.1,he.2.2.2⟩
   grind
  grind
 grind
theorem afO{es:Array MapEntry}{seen:Array Nat}{clk:Nat}(aZ:∀ i (h:i<es.size),es[i].born<clk) :
  (es.filter λe=>!seen.contains e.born).filter (λe=>decide (e.born<clk))=(es.filter λe=>!seen.contains e.born)/\(es.filter λe=>!seen.contains e.born).filter (λe=>decide (e.born>=clk))=#[]:=by
 have fG:∀ e∈es.filter λe=>!seen.contains e.born,e.born<clk:=by
  intro e he;have:=(Array.mem_filter.1 he).1;obtain⟨i,G,rfl⟩:=Array.mem_iff_getElem.1 this;grind
 constructor
 ·exact Array.filter_eq_self.2 λe he=>by grind
 ·exact Array.filter_eq_empty_iff.2 λe he=>by grind
theorem afP(P:Program)(w:World)(n:Nat):∃ j w',(choose (.mapNext n)).run P w=.ok j w'/\(0<n->j<n)/\(w'=w\/w'=w.drew):=by
 rw[run_choose];by_cases h:n<=1
 ·have:(Question.mapNext n).forced=true:=by simp[Question.forced,h]
  rw[this];grind
 ·have:(Question.mapNext n).forced=false:=by simp[Question.forced];omega
  rw[this];exact⟨_,_,rfl,λaA=>Nat.mod_lt _ aA,.inr rfl⟩
theorem afQ(bh:∀ i,o.dst=some i->i<C.nt){x:Operand}{str:Bool}(ag:o.op=.next x str){bU:hY}(h:Gh C.aO s o x str=some bU):qf C o s bU:=by
  unfold Gh at h;split at h
  · rename_i b g ai
    split at h
    · rename_i aC
      split at h
      · rename_i k v c ch aa
        cases h
        refine⟨λa w Q K M _ hm=>?_,λgs oB=>(by grind),λ_=>trivial⟩
        obtain⟨κ,F,M⟩:=M
        have af:=j7 M x
        rw[ai]at af
        have af:=af.2 aC.symm (by rw[aa];rfl)
        have aU:=M.bE b
        unfold cE at aU
        rw[aa]at aU
        have aw:∀ c,o.op≠.defer c:=by grind
        have gf:∀ w',(w'=w\/w'=w.drew)->ch=[]->(execOp a.eval o).run C.P w=.ok (.value (.tuple #[.bool false])) w'->o.wpIn (dR C.r) 0 C.P a w K Q:=by
          intro w' LR ss c_;have cM:bl C s a w' κ F:=by
            rcases LR with rfl | rfl
            · exact M
            · exact M.drew
          have R':s.cx b ⟨g,.cu k v c ch⟩=s:=by
            unfold aB.cx;congr 1;funext i;by_cases G:i=b
            · rw[if_pos G,G,<-aa,<-aC]
            grind
          refine hx aw c_ (hm.2 none ss _ _ ⟨κ,F,bl.set (s:=s.cx b ⟨g,.cu k v c ch⟩) (by grind) bh ⟨[.bool false],rfl,rfl,λn aA=>?_⟩⟩);have:n=0:=by simp only[SY]at aA;omega
          subst this;exact ff.2 rfl
        rcases aU with⟨E,U,_⟩ | ⟨lG,es,clk,seen,E,U,ah,aZ,bM,⟨ids,i1,i2,i3,i4⟩,gb⟩
        · refine gf w (.inl rfl) U ?_
          have CU:(getObj (κ b).ab).run C.P w=.ok (.mapIter none 0 #[] 0) w:=by simp[getObj,Sem.run,E]
          simp[execOp,ag,Instr.next,af,CU]
        · have CU:(getObj (κ b).ab).run C.P w=.ok (.mapIter (some lG) clk seen clk) w:=by simp[getObj,Sem.run,ah]
          have xd:(getObj lG).run C.P w=.ok (.map es clk) w:=by simp[getObj,Sem.run,U]
          obtain⟨f1,f2⟩:=afO (seen:=seen) aZ
          have fG:(!seen.isEmpty&&!es.isEmpty&&es.all (λe=>decide (e.born>=clk)))=false:=by
            by_cases he:es.size=0
            · grind
            · have:es.all (λe=>decide (e.born>=clk))=false:=by
                rw[Array.all_eq_false];exact⟨0,by omega,by grind⟩
              grind
          generalize afR:(es.filter λe=>!seen.contains e.born)=left at f1 f2
          have afS:((if left.isEmpty=true then #[none] else #[])++Array.map some (left++(#[]:Array MapEntry)))=(if left.isEmpty=true then #[none] else Array.map some left):=by
            grind
          obtain⟨j,w',bF,c2,c3⟩:=afP C.P w (if left.isEmpty=true then #[none] else Array.map some left).size
          have c7:w'.heap=w.heap:=by rcases c3 with rfl | rfl<;>rfl
          have zV : ∀ r da, (match (if left.isEmpty = true then #[none] else Array.map some left)[j]? with
                | some (some e)=>(do setObj (κ b).ab (.mapIter (some lG) clk (seen.push e.born) clk);pure (.tuple #[.bool true,e.key,e.val]):Sem Value)
                | some none=>pure (.tuple #[.bool false])
                | none => stuck "Next: no such candidate").run C.P w' = .ok r da -> (execOp a.eval o).run C.P w = .ok (.value r) da := by
            intro r da cM;simp only[execOp,ag,Instr.next,af,Sem.run_bind,CU,Result.andThen_ok,xd,fG,Bool.false_eq_true,if_false,afR,f1,f2,afS,bF];exact (congrArg (λ(z:Result Value)=>z.andThen λv w'=>Sem.run C.P (Pure.pure (Next.value v)) w') cM).trans rfl
          by_cases hle:left.isEmpty=true
          · have Ku:left=#[]:=by grind
            have ss:ch=[]:=by
              have:ids=[]:=List.eq_nil_iff_forall_not_mem.2 λi G=>by
                obtain⟨LS,dA⟩:=(i3 i).1 G;have:es[i]∈left:=by
                  grind
                grind
              grind
            rw[hle]at zV c2
            simp only[if_true]at zV c2
            have aG:j=0:=by grind
            subst aG
            exact gf w' c3 ss (zV _ _ rfl)
          · have hle:left.isEmpty=false:=by grind
            rw[hle]at zV c2
            simp only[Bool.false_eq_true,if_false]at zV c2
            have axv:0<left.size:=by
              grind
            have aG:j<left.size:=by grind
            have jN:left[j]∈(es.filter λe=>!seen.contains e.born):=by grind
            obtain⟨tN,Tg⟩:=Array.mem_filter.1 jN
            obtain⟨i0,ox,afT⟩:=Array.mem_iff_getElem.1 tN
            have afU:i0∈ids:=(i3 i0).2 ⟨ox,by grind⟩
            obtain⟨q,bq,LU⟩:=List.mem_iff_getElem.1 afU
            have LV:q<ch.length:=by omega
            have o':(setObj (κ b).ab (.mapIter (some lG) clk (seen.push left[j].born) clk)).run C.P w'=.ok () { w' with heap:=w'.heap.setIfInBounds (κ b).ab (.mapIter (some lG) clk (seen.push left[j].born) clk) }:=by
              simp[setObj,Sem.run,c7,ah]
            have c_:=zV (.tuple #[.bool true,left[j].key,left[j].val]) { w' with heap:=w'.heap.setIfInBounds (κ b).ab (.mapIter (some lG) clk (seen.push left[j].born) clk) } (by
              rw[show (Array.map some left)[j]?=some (some left[j]) by simp];simp only[Sem.run_bind,o',Result.andThen_ok,Sem.run_pure])
            have iY:df w w':=by rcases c3 with rfl | rfl<;>exact⟨rfl,rfl,rfl⟩
            have cc:(κ b).ab<w.heap.size:=(Array.getElem?_eq_some_iff.1 ah).1
            have eD:lG≠(κ b).ab:=λe=>(M.own b (by grind)).2.1 (e ▸ E)
            have gn:fo s.ab κ (λi=>if i=b then (⟨g,.cu k v ch[q]? (ch.eraseIdx q)⟩:bK) else s.ab i) κ:=
              qP aC.symm (λh=>by cases h) (λh=>by cases h) (λh=>by cases h) (λ_=>by rw[aa];rfl)
            have gE:=M.o6 (b:=b) (x:=⟨g,.cu k v ch[q]? (ch.eraseIdx q)⟩) (w':={ w' with heap:=w'.heap.setIfInBounds (κ b).ab (.mapIter (some lG) clk (seen.push left[j].born) clk) }) (by rw[aa];rfl) rfl gn (λh=>by cases h) (λh=>by cases h)
              (λr KL=>by grind) (by grind) ⟨iY.os,iY.tape,iY.output⟩ λH _ _ he=>by
                refine .inr ⟨lG,es,clk,seen.push left[j].born,E,?_,by grind,aZ,bM,⟨ids.eraseIdx q,?_,?_,λi=>?_,λn aA Cx=>?_⟩,λc' i_=>?_⟩
                · grind
                · grind
                · grind
                · rw[List.mem_eraseIdx_iff_getElem]
                  constructor
                  · rintro⟨n,aA,Gx,rfl⟩
                    obtain⟨t_,rf⟩:=(i3 ids[n]).1 (by simp)
                    refine⟨t_,?_⟩
                    simp only[Array.contains_push,Bool.or_eq_false_iff]
                    refine⟨rf,?_⟩
                    rw[<-afT]
                    simp only[beq_eq_false_iff_ne,ne_eq]
                    intro e
                    have:ids[n]=i0:=bM _ _ t_ ox (by omega)
                    exact Gx ((List.getElem?_inj aA i2).1 (by grind))
                  · rintro⟨t_,rf⟩
                    simp only[Array.contains_push,Bool.or_eq_false_iff]at rf
                    obtain⟨n,aA,rfl⟩:=List.mem_iff_getElem.1 ((i3 i).2 ⟨t_,rf.1⟩)
                    grind
                · have vo:(ids.eraseIdx q)[n]=if h:n<q then ids[n]'(by omega) else ids[n+1]'(by grind):=by
                    rw[List.getElem_eraseIdx]
                  have Th:(ch.eraseIdx q)[n]=if h:n<q then ch[n]'(by omega) else ch[n+1]'(by grind):=by
                    rw[List.getElem_eraseIdx]
                  have hlen:n+1<ids.length:=by grind
                  by_cases Gx:n<q
                  · obtain⟨t_,rf⟩:=i4 n (by omega) (by omega)
                    simp only[vo,Th,Gx,dif_pos]
                    exact⟨t_,rf.mono (λ_ h=>h) he⟩
                  · obtain⟨t_,rf⟩:=i4 (n+1) hlen (by omega)
                    simp only[vo,Th,Gx,dif_neg,not_false_eq_true]
                    exact⟨t_,rf.mono (λ_ h=>h) he⟩
                · rw[List.getElem?_eq_getElem LV]at i_
                  cases i_
                  obtain⟨t_,rf⟩:=i4 q bq LV
                  refine⟨i0,ox,by grind,?_⟩
                  have ay:es[ids[q]]=es[i0]:=by congr 1
                  rw[ay]at rf
                  exact rf.mono (λ_ h=>h) he
            refine hx aw c_ (hm.2 (some q) LV _ _ ⟨κ,F,bl.set (s:=s.cx b _) gE bh ⟨[.bool true,left[j].key,left[j].val],rfl,rfl,λn aA=>?_⟩⟩)
            match n,aA with
            | 0,_=>exact ff.2 rfl
            | 1,_=>trivial
            | 2,_=>trivial
      grind
    grind
  grind
end
end Go.Fer
namespace Go.Fer
open Go.RowKit
def CV:z9'->List Value->List Value->Prop
 | [],[],aE=>aE=[]
 | none::g,u::us,aE=>∃ rZ,aE=u::rZ/\CV g us rZ
 | some n::g,u::us,aE=>∃ cs rZ,u=.agg cs/\cs.size=n/\(∀ c∈cs.toList,c.oneCell'=true)/\aE=cs.toList++rZ/\CV g us rZ
 | _,_,_=>False
def Gy(g:z9')(v:Value)(aE:List Value):Prop:=∃ us:List Value,us.length=g.length/\v=(if us.length=1 then us.getD 0 undef else .tuple us.toArray)/\CV g us aE
structure cO(P:Program)(aQ:dD)(k:FuncId)(c:cG):Prop where
 enter:∀ args w,(callFunc k args).run P w=.ok (.enter k args) w
 iw:∀ (C:b_) (a:Act) (w:World) (κ:Nat->bD) (F:Nat->Prop) (D:c.cp.aj),C.P=P->C.w0=w->C.r=none->C.dfr=[]->C.nt=c.ke->C.aO=aQ->bl C (c.cp.st D) a w κ F->(c.sh D).cq->
  Calls P k a.tmps w λe w'=>∃ v bm aE κ' F',e=.returned v/\(c.sh D).bQ bm/\Gy c.kx v aE/\bl { C with nt:=aE.length } (c.bQ.st bm) { tmps:=aE.toArray,defers:=[] } w' κ' F'
section
variable {P:Program} {H H':Nat->bK} {κ κ':Nat->bD} {F:Nat->Prop} {w:World} {g:Nat->Nat×Nat}
def pn(H H':Nat->bK)(κ κ':Nat->bD)(g:Nat->Nat×Nat):Prop:=∀ b,(H b).gen=0/\p1 ⟨(g b).2,(H b).body⟩ (H' (g b).1) (κ b) (κ' (g b).1)
theorem pn.a7(h:pn H H' κ κ' g){b off:Nat}{v:Value}(af:bu P H κ F w (.a7 b 0 off) v):bu P H' κ' F w (.a7 (g b).1 (g b).2 off) v:=by
 obtain⟨aX,aW,aY⟩:=h b;refine⟨⟨aW,af.1.2⟩,λaC hc=>?_⟩;obtain⟨bF,c2⟩:=(aY aC).1 hc;rw[c2];exact af.2 aX.symm bF
theorem pn.av(h:pn H H' κ κ' g)(t:bY){R:Type}(z:t.cons R){v:Value}(af:bu P H κ F w (t.av db z).1 v):bu P H' κ' F w (t.av g z).1 v:=by
 cases t with
 | undef=>trivial
 | val t=>exact af
 | dV t=>exact af
 | a7 b off=>exact h.a7 af
 | own b=>
  obtain⟨aX,aW,aY⟩:=h b;refine⟨⟨aW,af.1.2⟩,λaC hc=>?_⟩;obtain⟨bF,c2,c3,c4⟩:=(aY aC).2.1 hc;rw[c2,c3];exact af.2 aX.symm bF
 | sub b=>
  obtain⟨aX,aW,aY⟩:=h b;refine⟨⟨aW,af.1.2⟩,λaC hc=>?_⟩;obtain⟨bF,c2,c3,c4⟩:=(aY aC).2.1 hc;rw[c2,c3,c4];exact af.2 aX.symm bF
 | fH b=>
  obtain⟨aX,aW,aY⟩:=h b;refine⟨⟨aW,af.1.2⟩,λaC hc=>?_⟩;obtain⟨bF,c2⟩:=(aY aC).2.2.1 hc;rw[c2];exact af.2 aX.symm bF
 | j2 b=>
  obtain⟨aX,aW,aY⟩:=h b;refine⟨⟨aW,af.1.2⟩,λaC hc=>?_⟩;obtain⟨bF,c2⟩:=(aY aC).2.2.2 hc;rw[c2];exact af.2 aX.symm bF
 | cS=>exact af
 | ix k fU=>
  obtain⟨aE,E,U,ah⟩:=af;refine⟨aE,E,U,λi G=>?_⟩;have:=ah i G;have ay:vj db fU i=.a7 fU[i].1 0 fU[i].2:=by simp[vj,hh,List.getD_eq_getElem?_getD,G,db]
  have aN:vj g fU i=.a7 (g fU[i].1).1 (g fU[i].1).2 fU[i].2:=by simp[vj,hh,List.getD_eq_getElem?_getD,G]
  rw[ay]at this;rw[aN];exact h.a7 this
 | hG bs=>
  obtain⟨aE,E,U,ah⟩:=af;refine⟨aE,E,U,λi G=>?_⟩;obtain⟨this,i_⟩:=ah i G;refine⟨?_,i_⟩;have ay:vk db bs i=.own bs[i] 0:=by simp[vk,hh,List.getD_eq_getElem?_getD,G,db]
  have aN:vk g bs i=.own (g bs[i]).1 (g bs[i]).2:=by simp[vk,hh,List.getD_eq_getElem?_getD,G]
  rw[ay]at this;rw[aN];obtain⟨aX,aW,aY⟩:=h bs[i];refine⟨⟨aW,this.1.2⟩,λaC hc=>?_⟩;obtain⟨bF,c2,c3,c4⟩:=(aY aC).2.1 hc;rw[c2,c3];exact this.2 aX.symm bF
 | iT b=>
  obtain⟨aX,aW,aY⟩:=h b;refine⟨⟨aW,af.1.2⟩,λaC hc=>?_⟩;obtain⟨bF,c2,c3,c4⟩:=(aY aC).2.1 hc;rw[c2,c3,c4];exact af.2 aX.symm bF
 | aR aL=>trivial
 | hf=>exact af
theorem zW(t:bY){R:Type}(z:t.cons R):(t.av g z).2=(t.av db z).2:=by cases t<;>rfl
theorem Ti:∀ (ts:List bY) {R:Type} (z:qc ts R),(pg g ts z).2=(pg db ts z).2
 | [],_,_=>rfl
 | t::ts,_,z=>by simp only[pg];rw[zW (g:=g) t z];exact Ti ts _
theorem Tj(t:b3){R:Type}(z:t.cons R):(t.body g z).2=(t.body db z).2:=by
 cases t with
 | cells t l=>exact Ti l z
 | gh e t=>exact zW t z.2
 | _=>rfl
theorem LW:∀ (ts:List (Nat×bY)) {R:Type} (z:oy ts R),(eE g ts z).2=(eE db ts z).2
 | [],_,_=>rfl
 | p::ts,_,z=>by simp only[eE];rw[zW (g:=g) p.2 z];exact LW ts _
theorem pn.avs(h:pn H H' κ κ' g):∀ (ts:List bY) {R:Type} (z:qc ts R) (i:Nat) {v:Value},bu P H κ F w ((pg db ts z).1.getD i .undef) v->bu P H' κ' F w ((pg g ts z).1.getD i .undef) v
 | [],_,_,i,v,_=>by simp[pg,bu]
 | t::ts,_,z,i,v,af=>by
  simp only[pg]at af ⊢;cases i with
  | zero=>exact h.av t z af
  | succ i=>
   simp only[List.getD_cons_succ]at af ⊢;rw[zW (g:=g) t z];exact h.avs ts _ i af
theorem pn.bT(h:pn H H' κ κ' g):∀ (ts:List (Nat×bY)) {R:Type} (z:oy ts R) (i:Nat) {v:Value},bu P H κ F w (fp (eE db ts z).1 i) v->bu P H' κ' F w (fp (eE g ts z).1 i) v
 | [],_,_,i,v,_=>by simp[eE,fp,bu]
 | p::ts,_,z,i,v,af=>by
  simp only[eE,fp]at af ⊢;by_cases e:i=p.1
  ·rw[if_pos e]at af ⊢;exact h.av p.2 z af
  ·rw[if_neg e]at af ⊢;rw[zW (g:=g) p.2 z];exact h.bT ts _ i af
theorem Tk:∀ (ts:List (Nat×bY)) {R:Type} (z:oy ts R) (i:Nat) {l aL L n st},fp (eE g ts z).1 i=.aR l aL L n st->fp (eE db ts z).1 i=.aR l aL L n st
 | [],_,_,i,_,_,_,_,_,h=>by simp[eE,fp]at h
 | p::ts,_,z,i,l,aL,L,n,st,h=>by
  simp only[eE,fp]at h ⊢;by_cases e:i=p.1
  ·rw[if_pos e]at h ⊢;obtain⟨jJ,t⟩:=p;cases t<;>first | exact h | cases h
  ·rw[if_neg e]at h ⊢;rw[zW (g:=g) p.2 z]at h;exact Tk ts _ i h
def xz(x y:bP):Prop:=x.fI=y.fI/\x.e3=y.e3/\x.len=y.len/\x.e4=y.e4/\x.gV=y.gV/\x.mJ=y.mJ/\∀ k,x.b1 k=y.b1 k
theorem xz.refl(x:bP):xz x x:=⟨rfl,rfl,rfl,rfl,rfl,rfl,λ_=>rfl⟩
theorem afV(t:b3){R:Type}(z:t.cons R):xz (t.body g z).1 (t.body db z).1:=by
 cases t with
 | cells t l=>exact⟨rfl,rfl,rfl,rfl,rfl,rfl,λ_=>rfl⟩
 | gh e t=>exact⟨rfl,rfl,rfl,rfl,rfl,rfl,λ_=>rfl⟩
 | _=>exact xz.refl _
theorem afW:∀ (t:ad) (x:t.aj) (av:aF),av∈nG t x->∀ {v:Value},bu P H κ F w av v->bu P H' κ' F w av v:=by
  intro t;induction t with
  | cV=>intro x av h;cases h
  | st t aJ=>intro x av h;exact aJ x av h
  | az a b fy eL=>
   intro x av h;rcases List.mem_append.1 h with h | h
   ·exact fy _ av h
   ·exact eL _ av h
  | array n e aJ=>
   intro x av h;simp only[nG,List.mem_flatMap]at h;grind
  | _=>
   intro x av h v af;simp only[nG,List.mem_singleton]at h;subst h;exact af
theorem pn.body(h:pn H H' κ κ' g)(t:b3){R:Type}(z:t.cons R){k:bD}(aa:jC P H κ F w k (t.body db z).1):jC P H' κ' F w k (t.body g z).1:=by
 cases t with
 | cells t l=>
  obtain⟨cs,T,E,U,ah⟩:=aa;exact⟨cs,T,E,U,λi G=>⟨h.avs l z i (ah i G).1,(ah i G).2⟩⟩
 | whole t=>
  obtain⟨cs,T,E,U,ah⟩:=aa;refine⟨cs,T,E,U,λi G=>⟨?_,(ah i G).2⟩⟩;have:=(ah i G).1;unfold hh at this ⊢;rw[List.getD_eq_getElem?_getD]at this ⊢;cases ak:(nG t z.1)[i]? with
  | none=>trivial
  | some av=>
   rw[ak]at this;simp only[Option.getD_some]at this ⊢;have jN:=List.mem_of_getElem? ak;exact afW t z.1 av jN this
 | bf e=>exact aa
 | hD e=>exact aa
 | mp k v=>exact aa
 | jh k v=>exact aa
 | gI t=>exact aa
 | cu k v=>exact aa
 | gh e t=>
  obtain⟨aX,cs,T,E,U,ah,aZ,bM,dt,gb,iQ⟩:=aa;exact⟨aX,cs,T,E,U,ah,aZ,bM,dt,h.av t z.2 gb,iQ⟩
theorem Tl{l:List (Nat×b3)}{x y:pf l}(h:x=y)(g:Nat->Nat×Nat)(b:Nat):eP (hj g l x) b=eP (hj g l y) b:=by rw[h]
theorem Tm:∀ (l:List (Nat×b3)) (x:pf l) (b:Nat),xz (eP (hj g l x) b).body (eP (hj db l x) b).body
 | [],_,_=>xz.refl _
 | p::l,x,b=>by
  simp only[hj,eP];split
  ·exact afV p.2 x
  ·rw[Tj (g:=g) p.2 x];exact Tm l _ b
theorem pn.bE(h:pn H H' κ κ' g):∀ (l:List (Nat×b3)) (x:pf l) (b:Nat) {k:bD},jC P H κ F w k (eP (hj db l x) b).body->jC P H' κ' F w k (eP (hj g l x) b).body
 | [],_,_,k,_=>trivial
 | p::l,x,b,k,aa=>by
  simp only[hj,eP]at aa ⊢;split
  ·rename_i e;rw[if_pos e]at aa;exact h.body p.2 x aa
  ·rename_i e;rw[if_neg e]at aa;rw[Tj (g:=g) p.2 x];exact h.bE l _ b aa
theorem LX:∀ (l:List (Nat×bP)) (b:Nat),(eP l b).gen=0
 | [],_=>rfl
 | p::l,b=>by
  simp only[eP];split
  ·rfl
  ·exact LX l b
end
end Go.Fer
namespace Go.Fer
open Go.RowKit
theorem Gz{al:Type}{k:al->Nat}:∀ {l:List al},(l.map k).Nodup->∀ {p:al},p∈l->l.find? (λq=>k q == k p)=some p
 | [],_,_,h=>by cases h
 | a::l,aA,p,h=>by
  simp only[List.map_cons,List.nodup_cons]at aA;by_cases e:k a=k p
  ·grind
  ·rw[List.find?_cons_of_neg (by grind)];rcases List.mem_cons.1 h with rfl | h
   ·omega
   ·exact Gz aA.2 h
theorem CW{al:Type}{k:al->Nat}{l:List al}(aA:(l.map k).Nodup){p q:al}(ao:p∈l)(bq:q∈l)(e:k p=k q):p=q:=by
 have E:=Gz aA ao;rw[e,Gz aA bq]at E;grind
theorem Tn:∀ {l:z6'},(l.map (·.1)).Nodup->∀ {p},p∈l->hZ l p.1=p.2
 | [],_,_,h=>by cases h
 | a::l,aA,p,h=>by
  simp only[List.map_cons,List.nodup_cons]at aA;simp only[hZ];by_cases e:p.1=a.1
  ·grind
  ·rw[if_neg e];rcases List.mem_cons.1 h with rfl | h
   ·omega
   ·exact Tn aA.2 h
theorem To:∀ {l:z6'} {b:Nat},b ∉ l.map (·.1)->hZ l b=(mY,0)
 | [],_,_=>rfl
 | a::l,b,h=>by
  simp only[List.map_cons,List.mem_cons,not_or]at h;simp only[hZ];rw[if_neg h.1];exact To h.2
theorem Tp(s:aB)(d:Nat)(f:Nat->Nat)(ins:List Nat):∀ (l:List (Nat×b3)) (j:Nat),(si s d f ins l j).map (·.1)=l.map (·.1)
 | [],_=>rfl
 | p::l,j=>by
  simp only[si,List.map_cons,Tp s d f ins l (j+1)];grind
theorem Tq(s:aB)(d:Nat)(f:Nat->Nat)(ins:List Nat):∀ (l:List (Nat×b3)) (j:Nat) {p:Nat×(Nat×Nat)},p∈si s d f ins l j->
  (p.1∈ins/\p.2.1=f p.1/\∃ t,(p.1,t)∈l/\((p.2.2=(s.ab (f p.1)).gen/\((∀ (g:Nat->Nat×Nat) (R:Type) (z:t.cons R),(t.body g z).1.e3=false)\/(wT<=p.1/\∃ e,t=.bf e)))\/p.2.2=(s.ab (f p.1)).gen+1))\/
  (p.1 ∉ ins/\p.2.2=(s.ab p.2.1).gen+1/\50000+10*d+j<=p.2.1/\p.2.1<50000+10*d+j+l.length)
 | [],_,p,h=>by cases h
 | q::l,j,p,h=>by
  simp only[si,List.mem_cons]at h;rcases h with h | h
  ·by_cases bq:ins.contains q.1=true
   ·rw[if_pos bq]at h;subst h;refine .inl ⟨by grind,rfl,q.2,by simp,?_⟩;obtain⟨du,t⟩:=q;cases t with
    | bf e=>
     grind
    | _=>first | exact .inr rfl | exact .inl ⟨rfl,.inl λ_ _ _=>rfl⟩
   grind
  ·rcases Tq s d f ins l (j+1) h with⟨E,U,t,ah,aZ⟩ | ⟨E,U,ah,aZ⟩
   ·exact .inl ⟨E,U,t,List.mem_cons_of_mem _ ah,aZ⟩
   ·exact .inr ⟨E,U,by omega,by simp only[List.length_cons];omega⟩
theorem GA(g:Nat->Nat×Nat):∀ (l:List (Nat×b3)) (x:pf l) (b:Nat),(eP (hj g l x) b=⟨0,.fz⟩/\b ∉ l.map (·.1))\/∃ q∈l,q.1=b/\∃ (R:Type) (z:q.2.cons R),eP (hj g l x) b=⟨0,(q.2.body g z).1⟩
 | [],_,_=>.inl ⟨rfl,by simp⟩
 | p::l,x,b=>by
  simp only[hj,eP];by_cases e:b=p.1
  ·grind
  ·rw[if_neg e];rcases GA g l (p.2.body g x).2 b with⟨E,U⟩ | ⟨q,E,U⟩
   ·exact .inl ⟨E,by rw[List.map_cons,List.mem_cons,not_or];exact⟨e,U⟩⟩
   ·exact .inr ⟨q,List.mem_cons_of_mem _ E,U⟩
theorem afX{t u:b3}(h:t.F2 u=true){g g':Nat->Nat×Nat}{R LY:Type}(z:t.cons R)(mi:u.cons LY) :
  ((t.body g z).1.fI=true->(u.body g' mi).1.fI=true/\∀ k,(u.body g' mi).1.b1 k=true)/\((t.body g z).1.gV=true->(u.body g' mi).1.gV=true/\∀ k,(u.body g' mi).1.b1 k=true)/\(t.body g z).1.mJ=false:=by
 cases t<;>cases u<;>first
  | exact Bool.noConfusion h
  | exact⟨λ_=>⟨rfl,λ_=>rfl⟩,λh=>Bool.noConfusion h,rfl⟩
  | exact⟨λh=>Bool.noConfusion h,λ_=>⟨rfl,λ_=>rfl⟩,rfl⟩
  | exact⟨λh=>Bool.noConfusion h,λh=>Bool.noConfusion h,rfl⟩
theorem xA:∀ (ts:List (Nat×bY)) {R:Type} (g:Nat->Nat×Nat) (z:oy ts R) (i:Nat),ts.any (λp=>p.1 == i)=false->fp (eE g ts z).1 i=.undef
 | [],_,_,_,_,_=>rfl
 | p::ts,_,g,z,i,h=>by
  simp only[List.any_cons,Bool.or_eq_false_iff,beq_eq_false_iff_ne]at h;simp only[eE,fp];rw[if_neg (Ne.symm h.1)];exact xA ts g _ i h.2
theorem LZ{P:Program}{H:Nat->bK}{κ:Nat->bD}{F:Nat->Prop}{w:World}:∀ (g:z9') {us aE:List Value},CV g us aE->∀ (c:Nat->aF) (i:Nat),(∀ j,j<aE.length->bu P H κ F w (c (i+j)) (aE.getD j undef))->
  (ph g c i).length=g.length/\us.length=g.length/\∀ j,j<g.length->bu P H κ F w ((ph g c i).getD j .undef) (us.getD j undef)
 | [],[],aE,_,_,_,_=>⟨rfl,rfl,λj aG=>by cases aG⟩
 | [],_::_,_,h,_,_,_=>h.elim
 | none::g,[],_,h,_,_,_=>h.elim
 | some n::g,[],_,h,_,_,_=>h.elim
 | none::g,u::us,aE,h,c,i,af=>by
  obtain⟨rZ,rfl,h⟩:=h;obtain⟨E,U,ah⟩:=LZ g h c (i+1) λj aG=>by
   have:=af (j+1) (by grind);rw[show i+(j+1)=i+1+j by omega]at this;simpa using this
  refine⟨by simp[ph,E],by grind,λj aG=>?_⟩;cases j with
  | zero=>simpa [ph]using af 0 (by simp)
  | succ j=>simpa [ph]using ah j (by grind)
 | some n::g,u::us,aE,h,c,i,af=>by
  obtain⟨cs,rZ,rfl,aA,nM,rfl,h⟩:=h;obtain⟨E,U,ah⟩:=LZ g h c (i+n) λj aG=>by
   have:=af (n+j) (by grind);rw[show i+(n+j)=i+n+j by omega]at this;have e:(cs.toList++rZ).getD (n+j) undef=rZ.getD j undef:=by
    grind
   rw[e]at this;omega
  refine⟨by simp[ph,E],by grind,λj aG=>?_⟩;cases j with
  | zero=>
   simp only[ph,List.getD_cons_zero];refine⟨cs.toList,by simp,by omega,λj aG=>?_⟩;grind
  | succ j=>simpa [ph]using ah j (by grind)
theorem afY{P:Program}{H:Nat->bK}{κ:Nat->bD}{F:Nat->Prop}{w:World}{g:z9'}{v:Value}{aE:List Value}(h:Gy g v aE){c:Nat->aF}(af:∀ j,bu P H κ F w (c j) (aE.getD j undef)) :
  bu P H κ F w (Ls (ph g c 0)) v:=by
 obtain⟨us,E,U,ah⟩:=h;obtain⟨aW,_,bO⟩:=LZ g ah c 0 (λj _=>by simpa using af j);subst U;generalize ph g c 0=l at aW bO;unfold Ls;split
 ·grind
 ·rename_i ak;have eD:us.length≠1:=λe=>by
   have:l.length=1:=by omega
   match l,this with
   | [x],_=>grind
  rw[if_neg eD];refine⟨us,rfl,by omega,λi G=>?_⟩;unfold hh;grind
section
variable {C:b_} {s:aB} {a:Act} {w:World} {κ:Nat->bD} {F:Nat->Prop}
theorem bl.args(M:bl C s a w κ F){avs:List aF}{us:List Value}(aA:us.length<=eQ)(ak:avs.length=us.length)(af:∀ i,i<us.length->bu C.P s.ab κ F w (avs.getD i .undef) (us.getD i undef)) :
    bl { C with nt:=us.length,dfr:=[],r:=none } (sg s avs) { tmps:=us.toArray,defers:=[] } w κ F:=
  { M with
    dE:=by simp,dfr:=rfl,gi:=aA
    bT:=λi=>by
      show bu C.P s.ab κ F w (if i=b5 then s.ax b5 else if i<avs.length then avs.getD i .undef else .undef) (us.toArray.getD i undef);split
      · rename_i e
        subst e
        have E:=M.bT b5
        have U:a.tmps.getD b5 undef=undef:=by
          have:=M.dE;have:=M.gi;rw[Array.getD_eq_getD_getElem?,Array.getElem?_eq_none (by unfold b5 eQ at *;omega)];rfl
        have ah:us.toArray.getD b5 undef=undef:=by
          rw[Array.getD_eq_getD_getElem?,Array.getElem?_eq_none (by simp only[List.size_toArray];unfold b5 eQ at *;omega)];rfl
        grind
      · split
        · simp_all
        · trivial
    bE:=M.bE
    eB:=λl aL L n st e=>M.eB l aL L n st (by simpa [sg]using e) }
def rh(C:b_)(w:World)(F':Nat->Prop)(n:Nat)(own Y:Nat->Prop)(ig:(Nat->Option Nat)×(Nat->Option (bD×Nat))):b_:=
 { C with w0:=w,F0:=F',K0:=λr=>r<w.heap.size/\¬own r/\¬Y r,nt:=n,dfr:=[],r:=none,ig:=ig.1,JZ:=ig.2 }
structure CX(C:b_)(s:aB)(w:World)(κ:Nat->bD)(F:Nat->Prop)(sl:aF)(Y:Nat->Prop):Prop where
 eB:∀ l aL L n st,sl=.aR l aL L n st->(∃ I,C.bU=⟨l,aL,L,I⟩)/\C.bU.ht C.P/\C.bU.at aL n st F Y w
 low:∀ r,Y r->r<w.heap.size/\¬F r/\¬C.K0 r
 own:∀ b,(s.ab b).body.b1 (κ b)=true->¬Y (κ b).ab
 GB:sl=.undef->∀ r,¬Y r
theorem bl.afZ(M:bl C s a w κ F){sl:aF}(h:∀ l aL L n st,sl=.aR l aL L n st->s.ax b5=.aR l aL L n st):∃ Y,CX C s w κ F sl Y:=by
 by_cases aD:∃ l aL L n st,sl=.aR l aL L n st
 ·obtain⟨l,aL,L,n,st,e⟩:=aD;obtain⟨E,U,Y,ah,aZ,bM⟩:=M.eB l aL L n st (h _ _ _ _ _ e);refine⟨Y,⟨λdG kv e7 iW im a1=>?_,ah,aZ,λa1=>?_⟩⟩
  ·rw[e]at a1;cases a1;exact⟨E,U,bM⟩
  ·rw[e]at a1;cases a1
 ·exact⟨λ_=>False,⟨λl aL L n st e=>(aD ⟨l,aL,L,n,st,e⟩).elim,λ_ h=>h.elim,λ_ _ h=>h,λ_ _ h=>h⟩⟩
theorem af0{C1:b_}{eI:aB}{b9:Act}{F':Nat->Prop}{bV:List Nat}{f:Nat->Nat}{sh:dH}{D:sh.aj}{Y:Nat->Prop}{ids:List Nat}(jq:C1.P=C.P)(tG:C1.aO=C.aO)(ri:C1.dfr=[])
  (gM:bl C1 (eI.cB bV) b9 w κ F') (aw:Gv C1 eI b9 w κ f F' sh D bV) (hX:CX C (eI.cB bV) w κ F' ((sh.st D).ax b5) Y)
  (ar:∀ b be,b∈sh.oz->be∈sh.oz->f b=f be->b=be) (hid:∀ b∈ids,eQ<=b) :
  bl (rh C w F' C1.nt (λr=>∃ b,((sh.st D).ab b).body.b1 (κ (f b))=true/\(κ (f b)).ab=r) Y (λb=>if b∈ids then some (κ (f b)).ab else none,λb=>if b∈ids/\wT<=b then some (κ (f b),((sh.st D).ab b).body.len) else none)) (sh.st D) b9 w (λb=>κ (f b)) F' where
 dE:=gM.dE
 dfr:=gM.dfr.trans ri
 bT:=λi=>by have:=aw.bT i;rw[jq]at this;exact this
 bE:=λb=>by have:=aw.bE b;rw[jq]at this;exact this
 own:=λb aa=>by
  have E:=gM.own (f b) (aw.xx aa);exact⟨E.1,E.2.1,λh=>h.2.1 ⟨b,aa,rfl⟩⟩
 inj:=λb be aa cW e=>ar b be (aw.b1 b aa).2.2 (aw.b1 be cW).2.2 (gM.inj _ _ (aw.xx aa) (aw.xx cW) e)
 dd:=gM.dd
 hg:=λr M=>.inl M
 hS:=λr M=>M
 hv:=λr M=>M.1
 eH:=λ_ _=>rfl
 size:=Nat.le_refl _
 er:=df.refl _
 gi:=gM.gi
 kl:=λb r h=>by
  simp only[rh]at h;grind
 jD:=λb r h _=>by
  simp only[rh]at h;grind
 j3:=λb k h=>by
  simp only[rh]at h;grind
 km:=λb k h _ _=>by
  simp only[rh]at h;grind
 eB:=λl aL L n st e=>by
  obtain⟨E,U,ah⟩:=hX.eB l aL L n st e;exact⟨E,U,Y,λr M=>⟨(hX.low r M).1,(hX.low r M).2.1,λh=>h.2.2 M⟩,λb aa=>hX.own _ (aw.xx aa),ah⟩
 jE:=by have:=gM.jE;rw[jq,tG]at this;exact this
 iy:=by have:=gM.iy;rw[jq]at this;exact this
structure Tr(s:aB)(κ:Nat->bD)(ig:(Nat->Option Nat)×(Nat->Option (bD×Nat)))(bs:List (Nat×bP))(cf:z6'):Prop where
 ee:(cf.map (·.1)).Nodup
 eh:(cf.map (·.2.1)).Nodup
 fz:mY ∉ cf.map (·.2.1)
 af1:(s.ab mY).body=.fz
 Ts:∀ p∈cf,(p.2.1<eQ/\(s.ab p.2.1).gen<p.2.2)\/
  (((eP bs p.1).body.fI=true->(s.ab p.2.1).body.fI=true/\ig.1 p.1=some (κ p.2.1).ab)/\((eP bs p.1).body.gV=true->(s.ab p.2.1).body.gV=true/\ig.1 p.1=some (κ p.2.1).ab)/\(eP bs p.1).body.mJ=false/\
   ((p.2.2=(s.ab p.2.1).gen/\((eP bs p.1).body.e3=true->(s.ab p.2.1).body.e3=true/\(eP bs p.1).body.e4=(s.ab p.2.1).body.e4/\ig.2 p.1=some (κ p.2.1,(s.ab p.2.1).body.len)))\/p.2.2=(s.ab p.2.1).gen+1))
theorem af2{F' own Y:Nat->Prop}{sl:aF}{n:Nat}{ig:(Nat->Option Nat)×(Nat->Option (bD×Nat))}{ins:List Nat}{bQ:dH}{bm:bQ.aj}{aE:List Value}{w':World}{mZ:Nat->bD}{ei:Nat->Prop}
    (M:bl C s a w κ F') (hX:CX C s w κ F' sl Y) (gj:∀ r,own r->∃ b,b∈ins/\(s.ab b).body.b1 (κ b)=true/\(κ b).ab=r)
    (hJ:bl { rh C w F' n own Y ig with nt:=aE.length } (bQ.st bm) { tmps:=aE.toArray,defers:=[] } w' mZ ei)
    {cf:z6'} (gl:Tr s κ ig (hj (hZ cf) bQ.bE (eE (hZ cf) bQ.bT bm).2) cf)
    {H':Nat->bK} {κn:Nat->bD} (zX:∀ p∈cf,H' p.2.1=⟨p.2.2,(eP (hj (hZ cf) bQ.bE (eE (hZ cf) bQ.bT bm).2) p.1).body⟩/\κn p.2.1=mZ p.1)
    (CY:∀ b,b ∉ cf.map (·.2.1)->κn b=κ b/\(b∈ins->H' b=⟨(s.ab b).gen+1,.fz⟩)/\(b ∉ ins->H' b=s.ab b))
    {X:aF} (t':X=fp (eE (hZ cf) bQ.bT bm).1 b5\/X=.undef\/(X=s.ax b5/\sl=.undef)) :
    bl C ⟨λi=>if i=b5 then X else s.ax i,H'⟩ a w' κn ei/\
    ∀ i,bu C.P H' κn ei w' (fp (eE (hZ cf) bQ.bT bm).1 i) (aE.toArray.getD i undef):=by
  generalize CZ:hj (hZ cf) bQ.bE (eE (hZ cf) bQ.bT bm).2=bs at gl zX;have q5:∀ b,xz (eP bs b).body ((bQ.st bm).ab b).body:=λb=>by
    rw[<-CZ,Tl (LW bQ.bT bm)];exact Tm bQ.bE (eE db bQ.bT bm).2 b
  have C0:pn (bQ.st bm).ab H' mZ κn (hZ cf):=by
    intro b;refine⟨LX _ b,?_⟩;by_cases aa:b∈cf.map (·.1)
    · obtain⟨p,ao,rfl⟩:=List.mem_map.1 aa
      rw[Tn gl.ee ao]
      obtain⟨E,U⟩:=zX p ao
      rw[E,U]
      obtain⟨aW,aY,bO,gC,pc,xB,_⟩:=q5 p.1
      exact⟨Nat.le_refl _,λ_=>⟨λh=>⟨aW ▸ h,rfl⟩,λh=>⟨aY ▸ h,rfl,bO,gC⟩,λh=>⟨pc ▸ h,rfl⟩,λh=>⟨xB ▸ h,rfl⟩⟩⟩
    · rw[To aa]
      obtain⟨_,U,ah⟩:=CY mY gl.fz
      have aw:(H' mY).body=.fz:=by
        by_cases G:mY∈ins
        · grind
        · rw[ah G];exact gl.af1
      refine⟨Nat.zero_le _,λ_=>?_⟩
      show ((H' mY).body.fI=true->_)/\((H' mY).body.e3=true->_)/\((H' mY).body.gV=true->_)/\((H' mY).body.mJ=true->_)
      rw[aw]
      exact⟨λh=>(by cases h),λh=>(by cases h),λh=>(by cases h),λh=>(by cases h)⟩
  have GC:∀ b,(∃ p∈cf,p.2.1=b)\/b ∉ cf.map (·.2.1):=λb=>by
    grind
  have GD:∀ p∈cf,∀ r,ig.1 p.1=some r->(eP bs p.1).body.fI=true\/(eP bs p.1).body.gV=true->(mZ p.1).ab=r:=λp ao r M h=>by
    obtain⟨aW,_,_,_,pc,_⟩:=q5 p.1;exact hJ.jD p.1 r M (h.imp (λh=>aW ▸ h) (λh=>pc ▸ h))
  have af3:∀ p∈cf,∀ k,ig.2 p.1=some k->(eP bs p.1).body.e3=true->mZ p.1=k.1/\(eP bs p.1).body.len=k.2:=λp ao k an h=>by
    obtain⟨_,aY,bO,_⟩:=q5 p.1;obtain⟨E,U⟩:=hJ.km p.1 k an (LX _ _) (aY ▸ h);grind
  have ak:fo s.ab κ H' κn:=by
    rw[BT];intro b;rcases GC b with⟨p,ao,rfl⟩ | aa
    · obtain⟨E,U⟩:=zX p ao
      rw[E,U]
      rcases gl.Ts p ao with⟨_,h⟩ | ⟨hc,hm,hit,h⟩
      · exact⟨Nat.le_of_lt h,λe=>(by grind)⟩
      · rcases h with⟨h,e'⟩ | h
        · refine⟨Nat.le_of_eq h.symm,λ_=>⟨λh=>⟨(hc h).1,GD p ao _ (hc h).2 (.inl h)⟩,λh=>?_,λh=>⟨(hm h).1,GD p ao _ (hm h).2 (.inr h)⟩,λh=>?_⟩⟩
          · have h:(eP bs p.1).body.e3=true:=h
            obtain⟨b9,a2,a3⟩:=e' h
            obtain⟨dP,e2⟩:=af3 p ao _ a3 h
            exact⟨b9,dP,e2,a2⟩
          · have h:(eP bs p.1).body.mJ=true:=h
            rw[hit]at h;cases h
        · exact⟨by grind,λe=>(by grind)⟩
    · obtain⟨E,U,ah⟩:=CY b aa
      rw[E]
      by_cases G:b∈ins
      · rw[U G]
        exact⟨Nat.le_succ _,λe=>(by grind)⟩
      · rw[ah G];exact p1.refl _ _
  have zY:w.heap.size<=w'.heap.size:=hJ.size;have bn:∀ r,F' r->ei r:=hJ.hS;have iH:∀ r,r<w.heap.size->¬own r->¬Y r->w'.heap[r]?=w.heap[r]?:=λr E U ah=>hJ.eH r ⟨E,U,ah⟩;have vp:∀ r,C.K0 r->r<w.heap.size:=λr h=>Nat.lt_of_lt_of_le (M.hv r h) M.size;have L0:∀ r,own r->¬C.K0 r/\¬F' r:=λr h=>by
    obtain⟨b,_,E,rfl⟩:=gj r h;exact⟨(M.own b E).2.2,(M.own b E).2.1⟩
  have Tt:∀ r,¬(r<w.heap.size/\¬own r/\¬Y r)->¬C.K0 r:=λr h an=>h ⟨vp r an,λag=>(L0 r ag).1 an,λaS=>(hX.low r aS).2.2 an⟩;have qg:c8 F' w w':=⟨zY,λr h=>iH r (M.dd r h) (λag=>(L0 r ag).2 h) λaS=>(hX.low r aS).2.1 h⟩
  have zz:∀ r,ei r->F' r\/¬(r<w.heap.size/\¬own r/\¬Y r):=hJ.hg;have ss:∀ b,b ∉ ins->(s.ab b).body.b1 (κ b)=true->(κ b).ab<w.heap.size/\¬own (κ b).ab/\¬Y (κ b).ab:=λb aa ag=>by
    refine⟨(M.own b ag).1,λh=>?_,hX.own b ag⟩;obtain⟨be,E,U,ah⟩:=gj _ h;exact aa (M.inj be b U ag ah ▸ E)
  have y3:∀ b,(H' b).body.b1 (κn b)=true->(∃ p∈cf,p.2.1=b/\((bQ.st bm).ab p.1).body.b1 (mZ p.1)=true/\κn b=mZ p.1)\/(b ∉ cf.map (·.2.1)/\b ∉ ins/\κn b=κ b/\(s.ab b).body.b1 (κ b)=true):=λb aa=>by
    rcases GC b with⟨p,ao,rfl⟩ | aA
    · obtain⟨E,U⟩:=zX p ao
      rw[E,U]at aa
      exact .inl ⟨p,ao,rfl,by rw[<-(q5 p.1).2.2.2.2.2.2];exact aa,U⟩
    · obtain⟨E,U,ah⟩:=CY b aA
      by_cases G:b∈ins
      · rw[U G]at aa;cases aa
      grind
  have fk:∀ i,bu C.P H' κn ei w' (fp (eE (hZ cf) bQ.bT bm).1 i) (aE.toArray.getD i undef):=λi=>C0.bT bQ.bT bm i (hJ.bT i);refine⟨{ dE := M.dE, dfr := M.dfr, bT := λi => ?_, bE := λb => ?_, own := λb aa => ?_, inj := λb be aa cW e => ?_, dd := hJ.dd, hg := λr h => ?_, hS := λr h => bn r (M.hS r h), hv := M.hv, eH := λr h => ?_,size:=Nat.le_trans M.size zY,er:=M.er.trans hJ.er,gi:=M.gi,kl:=M.kl,jD:=λb r h hc=>?_,j3:=M.j3,km:=λb k h aX bb=>?_,eB:=λl aL L m st e=>?_,jE:=M.jE,iy:=hJ.iy },fk⟩
  · show bu C.P H' κn ei w' (if i=b5 then X else s.ax i) _
    split
    · rename_i e
      subst e
      have hu:a.tmps.getD b5 undef=undef:=by
        have:=M.dE;have:=M.gi;rw[Array.getD_eq_getD_getElem?,Array.getElem?_eq_none (by unfold b5 eQ at *;omega)];rfl
      rcases t' with rfl | rfl | ⟨rfl,_⟩
      · have h:=fk b5
        have L1:aE.toArray.getD b5 undef=undef:=by
          have:aE.length<=eQ:=hJ.gi;rw[Array.getD_eq_getD_getElem?,Array.getElem?_eq_none (by simp only[List.size_toArray];unfold b5 eQ at *;omega)];rfl
        grind
      · trivial
      · exact bu.later ak bn qg (M.bT b5)
    · exact bu.later ak bn qg (M.bT i)
  · show jC C.P H' κn ei w' (κn b) (H' b).body
    rcases GC b with⟨p,ao,rfl⟩ | aA
    · obtain⟨E,U⟩:=zX p ao
      rw[E,U,<-CZ,Tl (LW bQ.bT bm)]
      exact C0.bE bQ.bE (eE db bQ.bT bm).2 p.1 (hJ.bE p.1)
    · obtain⟨E,U,ah⟩:=CY b aA
      by_cases G:b∈ins
      · rw[U G];trivial
      · have:=cE.k6 (H':=H') (κ':=κn) (M.bE b) ak bn qg (by grind) E λag=>iH _ (ss b G ag).1 (ss b G ag).2.1 (ss b G ag).2.2
        exact this
  · rcases y3 b aa with⟨p,ao,_,E,U⟩ | ⟨_,E,U,ah⟩
    · have:=hJ.own p.1 E
      rw[U]
      exact⟨this.1,this.2.1,Tt _ this.2.2⟩
    · rw[U]
      have aZ:=M.own b ah
      grind
  · rcases y3 b aa with⟨p,ao,rfl,E,U⟩ | ⟨_,E,U,ah⟩<;>rcases y3 be cW with⟨p',B_,rfl,zi,w6⟩ | ⟨_,zi,w6,Tu⟩
    · rw[U,w6]at e
      have:=hJ.inj _ _ E zi e
      rw[CW gl.ee ao B_ this]
    · rw[U,w6]at e
      exact ((hJ.own p.1 E).2.2 (e ▸ ss be zi Tu)).elim
    · rw[U,w6]at e
      exact ((hJ.own p'.1 zi).2.2 (e ▸ ss b E ah)).elim
    · rw[U,w6]at e
      exact M.inj b be ah Tu e
  · rcases zz r h with h | h
    · exact M.hg r h
    grind
  · exact (iH r (vp r h) (λag=>(L0 r ag).1 h) λaS=>(hX.low r aS).2.2 h).trans (M.eH r h)
  · have aK:=M.kl b r h
    rcases GC b with⟨p,ao,rfl⟩ | aA
    · obtain⟨E,U⟩:=zX p ao
      simp only[E]at hc
      rcases gl.Ts p ao with⟨ah,_⟩ | ⟨aW,aY,_⟩
      · omega
      · rw[U]
        rcases hc with hc | hc
        · rw[GD p ao _ (aW hc).2 (.inl hc)]
          exact M.jD _ r h (.inl (aW hc).1)
        · rw[GD p ao _ (aY hc).2 (.inr hc)]
          exact M.jD _ r h (.inr (aY hc).1)
    · obtain⟨E,U,ah⟩:=CY b aA
      by_cases G:b∈ins
      · simp only[U G]at hc
        rcases hc with hc | hc<;>cases hc
      · simp only[ah G]at hc
        rw[E]
        exact M.jD b r h hc
  · have aK:=M.j3 b k h
    have aX:(H' b).gen=0:=aX
    have bb:(H' b).body.e3=true:=bb
    show κn b=k.1/\(H' b).body.len=k.2
    obtain⟨g1,et⟩:=ak b
    obtain⟨b9,a2,a3,_⟩:=(et (by omega)).2.1 bb
    obtain⟨aW,aY⟩:=M.km b k h (by omega) b9
    grind
  · have e:X=.aR l aL L m st:=by grind
    rcases t' with rfl | rfl | ⟨rfl,af4⟩
    · obtain⟨E,U,gz,ah,aZ,bM⟩:=hJ.eB l aL L m st (Tk bQ.bT bm b5 e)
      refine⟨E,U,gz,λr bc=>⟨(ah r bc).1,(ah r bc).2.1,Tt r (ah r bc).2.2⟩,λb aa aS=>?_,bM⟩
      rcases y3 b aa with⟨p,ao,rfl,aW,aY⟩ | ⟨_,aW,aY,bO⟩
      · grind
      · rw[aY]at aS;exact (ah _ aS).2.2 (ss b aW bO)
    · cases e
    · obtain⟨E,U,gz,ah,aZ,bM⟩:=M.eB l aL L m st e
      have Tv:∀ r,gz r->r<w.heap.size/\¬own r/\¬Y r:=λr aS=>⟨(ah r aS).1,λag=>by
        grind,hX.GB af4 r⟩
      have BU:∀ r,ei r->¬gz r:=λr ar aS=>(zz r ar).elim (ah r aS).2.1 λh=>h (Tv r aS)
      refine⟨E,U,gz,λr aS=>⟨Nat.lt_of_lt_of_le (ah r aS).1 zY,λar=>BU r ar aS,(ah r aS).2.2⟩,λb aa aS=>?_,U.JY bM bn (λr ar=>?_) zY hJ.er hJ.dd BU⟩
      · rcases y3 b aa with⟨p,ao,rfl,aW,aY⟩ | ⟨_,aW,aY,bO⟩
        · rw[aY]at aS;exact (hJ.own _ aW).2.2 (Tv _ aS)
        grind
      · rcases ar with ar | ar
        · exact qg.2 r ar
        grind
end
end Go.Fer
namespace Go.Fer
open Go.RowKit
section
variable {C:b_} {T:Nat->ad} {o:Oper} {s:aB}
theorem cO.bB{P:Program}{aQ:dD}{k:FuncId}{c:cG}(ar:cO P aQ k c){C:b_}{a:Act}{w:World}{κ:Nat->bD}{F:Nat->Prop}{D:c.cp.aj}(h:bl C (c.cp.st D) a w κ F)(E:C.P=P)(U:C.w0=w)(ah:C.r=none)(aZ:C.dfr=[])(bM:C.nt=c.ke)(dt:C.aO=aQ)(aD:(c.sh D).cq) :
  Calls P k a.tmps w λe w'=>∃ v bm aE κ' F',e=.returned v/\(c.sh D).bQ bm/\Gy c.kx v aE/\bl { C with nt:=aE.length } (c.bQ.st bm) { tmps:=aE.toArray,defers:=[] } w' κ' F':=
 ar.iw C a w κ F D E U ah aZ bM dt h aD
theorem Tw{C:b_}{s:aB}{L2:Nat->aF}{a b9:Act}{w:World}{κ:Nat->bD}{F:Nat->Prop}{ee:Nat}{c:cG}{f:Nat->Nat}{D:c.cp.aj}{bV:List Nat}{d m:Nat}{cf:z6'}
    (M:bl C s a w κ F) (gM:bl { C with nt:=ee,dfr:=[],r:=none } ⟨L2,s.ab⟩ b9 w κ F) (qh:L2 b5=s.ax b5)
    (nV:c.cp.zH f ⟨L2,s.ab⟩=some (D,bV)) (Tx:si (s.cB bV) d f c.cp.oz c.bQ.bE 0=cf) (eb:CL c f (s.cB bV) cf d m=true) :
    ∃ (F' own Y:Nat->Prop) (ig:(Nat->Option Nat)×(Nat->Option (bD×Nat))),(∀ r,F r->F' r)/\bl C (s.cB bV) a w κ F'/\(∀ r,own r->∃ b,((s.cB bV).ab b).body.b1 (κ b)=true/\(κ b).ab=r)/\CX C (s.cB bV) w κ F' ((c.cp.st D).ax b5) Y/\(∀ l aL L n st,(c.cp.st D).ax b5=.aR l aL L n st->s.ax b5=.aR l aL L n st)/\
      bl (rh C w F' ee own Y ig) (c.cp.st D) b9 w (λb=>κ (f b)) F'/\
      ∀ L3 hE,bl { C with w0:=L3 } (s.cB bV) a hE κ F'->CX C (s.cB bV) hE κ F' ((c.cp.st D).ax b5) Y->∀ (bm:c.bQ.aj) (aE:List Value) (w':World) (mZ:Nat->bD) (ei:Nat->Prop),bl { rh C hE F' ee own Y ig with nt:=aE.length } (c.bQ.st bm) { tmps:=aE.toArray,defers:=[] } w' mZ ei->
        ∃ κn,bl { C with w0:=L3 } (xo (s.cB bV) c f cf bm) a w' κn ei/\∀ i,bu C.P (xo (s.cB bV) c f cf bm).ab κn ei w' (fp (eE (hZ cf) c.bQ.bT bm).1 i) (aE.toArray.getD i undef):=by
  simp only[CL,Bool.and_eq_true,decide_eq_true_eq,Bool.not_eq_true']at eb;obtain⟨⟨⟨⟨⟨⟨⟨⟨⟨⟨bF,c2⟩,c3⟩,c4⟩,c5⟩,lK⟩,oq⟩,w2⟩,c9⟩,GF⟩,_⟩:=eb;have c3:(c.cp.bE.map (·.1)).Nodup:=of_decide_eq_true c3;have c4:(c.cp.bE.map λp=>f p.1).Nodup:=of_decide_eq_true c4;have c5:(cf.map (·.1)).Nodup:=of_decide_eq_true c5;have lK:(cf.map (·.2.1)).Nodup:=of_decide_eq_true lK;have w2:mY ∉ cf.map (·.2.1):=λh=>by
    grind
  have c9:((s.cB bV).ab mY).body=.fz:=by
    grind
  obtain⟨F',f1,gM,aw⟩:=dH.S' nV gM;have bc : bl C (s.cB bV) a w κ F' := { gM with
    dE:=M.dE,dfr:=M.dfr,gi:=M.gi,bT:=λi=>bu.later (RY s bV κ) f1 (c8.refl _ _) (M.bT i)
    bE:=gM.bE
    eB:=λl aL L n st e=>gM.eB l aL L n st (by simpa [aB.cB,qh]using e) }
  obtain⟨Y,hX⟩:=bc.afZ (sl:=(c.cp.st D).ax b5) λl aL L n st e=>by simpa [aB.cB,qh]using aw.aR l aL L n st e
  have hid:∀ b∈c.cp.bE.map (·.1),eQ<=b:=λb aa=>by grind
  have GG:∀ b,b∈c.cp.oz->∃ q∈c.cp.bE,q.1=b/\q.2.CG=true:=λb aa=>by
    obtain⟨q,bq,e⟩:=List.mem_filterMap.1 aa;grind
  have C2:=af0 (C:=C) (C1:={ C with nt:=ee,dfr:=[],r:=none }) (ids:=c.cp.bE.map (·.1)) rfl rfl rfl gM aw ⟨hX.eB,hX.low,hX.own,hX.GB⟩ (λb be aa cW e=>by
    obtain⟨q,bq,rfl,_⟩:=GG b aa;obtain⟨q',tH,rfl,_⟩:=GG be cW;rw[CW (k:=λp=>f p.1) c4 bq tH e]) hid
  refine⟨F',_,Y,_,f1,bc,λr ⟨b,aa,e⟩=>⟨f b,aw.xx aa,e⟩,hX,λl aL L n st e=>by simpa [aB.cB,qh]using aw.aR l aL L n st e,C2,λL3 hE KL GH bm aE w' mZ ei hJ=>?_⟩;have CZ:∀ (b:Nat) (q':Nat×b3),q'∈c.bQ.bE->q'.1=b->b∈c.cp.oz->∀ (R:Type) (z:q'.2.cons R),((q'.2.body (hZ cf) z).1.fI=true->((s.cB bV).ab (f b)).body.fI=true)/\((q'.2.body (hZ cf) z).1.gV=true->((s.cB bV).ab (f b)).body.gV=true)/\(q'.2.body (hZ cf) z).1.mJ=false:=by
    intro b q' tH e aa R z;obtain⟨q,bq,rfl,L4⟩:=GG b aa;have an:=List.all_eq_true.1 (List.all_eq_true.1 GF q' tH) q bq;rw[e,L4]at an;simp only[beq_self_eq_true,Bool.and_self,Bool.not_true,Bool.false_or]at an;rcases GA db c.cp.bE (eE db c.cp.bT D).2 q.1 with⟨_,U⟩ | ⟨dF,U,ah,LY,mi,aZ⟩
    · grind
    · obtain rfl:=CW c3 U bq ah
      have aZ:(c.cp.st D).ab dF.1=⟨0,(dF.2.body db mi).1⟩:=aZ
      obtain⟨aW,aY,bO⟩:=afX an z mi (g:=hZ cf) (g':=db)
      have tZ:=aw.zT dF.1
      refine⟨λhc=>?_,λhc=>?_,bO⟩
      · have bM:=aw.b1 dF.1 (by grind)
        simp only[aB.cB,if_neg bM.1]
        exact tZ.2.1 (by grind)
      · have bM:=aw.b1 dF.1 (by grind)
        simp only[aB.cB,if_neg bM.1]
        exact tZ.2.2.2.1 (by grind)
  have af5:cf.map (·.1)=c.bQ.bE.map (·.1):=by rw[<-Tx];exact Tp ..
  have gl:Tr (s.cB bV) κ (λb=>if b∈c.cp.bE.map (·.1) then some (κ (f b)).ab else none,λb=>if b∈c.cp.bE.map (·.1)/\wT<=b then some (κ (f b),((c.cp.st D).ab b).body.len) else none) (hj (hZ cf) c.bQ.bE (eE (hZ cf) c.bQ.bT bm).2) cf:=by
    refine⟨c5,lK,w2,c9,λp ao=>?_⟩;rw[<-Tx]at ao;rcases Tq _ _ _ _ _ _ ao with⟨E,U,t,ah,aZ⟩ | ⟨_,U,ah,aZ⟩
    · rw[U]
      have jN:p.1∈c.cp.bE.map (·.1):=by
        grind
      rcases GA (hZ cf) c.bQ.bE (eE (hZ cf) c.bQ.bT bm).2 p.1 with⟨_,aY⟩ | ⟨q',aW,aY,R,z,bO⟩
      · grind
      · rw[bO]
        obtain⟨dP,e2,mH⟩:=CZ p.1 q' aW aY E R z
        have:q'=(p.1,t):=CW (af5 ▸ c5) aW ah aY
        subst this
        refine .inr ⟨λh=>⟨dP h,if_pos jN⟩,λh=>⟨e2 h,if_pos jN⟩,mH,aZ.imp (λaZ=>⟨aZ.1,λe'=>?_⟩) id⟩
        rcases aZ.2 with bM | ⟨an,e,rfl⟩
        · grind
        · obtain⟨q,bq,LU,L4⟩:=GG p.1 E
          have xC:=List.all_eq_true.1 (List.all_eq_true.1 GF _ aW) q bq
          rw[LU,L4]at xC
          simp only[beq_self_eq_true,Bool.and_self,Bool.not_true,Bool.false_or]at xC
          rcases GA db c.cp.bE (eE db c.cp.bT D).2 p.1 with⟨_,w6⟩ | ⟨dF,m2,m3,LY,mi,m4⟩
          · grind
          · obtain rfl:=CW c3 m2 bq (m3.trans LU.symm)
            have m4:(c.cp.st D).ab p.1=⟨0,(dF.2.body db mi).1⟩:=m4
            obtain⟨du,L5⟩:=dF
            have xC:b3.F2 (.bf e) L5=true:=xC
            obtain rfl:L5=.bf e:=by
              cases L5<;>first | (simp only[b3.F2,decide_eq_true_eq]at xC;rw[xC]) | cases xC
            have tZ:=aw.zT p.1
            have af6:((c.cp.st D).ab p.1).body.e3=true:=by rw[m4];rfl
            obtain⟨cj,cK,eu⟩:=tZ.2.2.1 af6
            have bk:((s.cB bV).ab (f p.1)).body.e3=true/\((s.cB bV).ab (f p.1)).body.len=(s.ab (f p.1)).body.len/\((s.cB bV).ab (f p.1)).body.e4=(s.ab (f p.1)).body.e4:=by
              simp only[aB.cB];split
              · rcases zg s.ab (s.ab (f p.1)) with a1 | ⟨_,_,ai,a1⟩ | ⟨_,_,_,ai,_⟩ | ⟨_,_,_,_,ai,_,_⟩
                · grind
                · rw[a1,ai];exact⟨rfl,rfl,rfl⟩
                · have cj:(s.ab (f p.1)).body.e3=true:=cj
                  rw[ai]at cj;cases cj
                · have cj:(s.ab (f p.1)).body.e3=true:=cj
                  rw[ai]at cj;cases cj
              grind
            have cK:((c.cp.st D).ab p.1).body.len=(s.ab (f p.1)).body.len:=cK
            have eu:((c.cp.st D).ab p.1).body.e4=(s.ab (f p.1)).body.e4:=eu
            refine⟨bk.1,?_,?_⟩
            · rw[bk.2.2,<-eu,m4];rfl
            grind
    · refine .inl ⟨?_,by omega⟩
      unfold eQ
      omega
  obtain⟨nW,fk⟩:=af2 (ins:=c.cp.oz.map f) (X:=if c.bQ.bT.any (λp=>p.1 == b5) then fp (eE (hZ cf) c.bQ.bT bm).1 b5 else if c.cp.bT.any (λp=>p.1 == b5) then .undef else (s.cB bV).ax b5)
    (H':=(xo (s.cB bV) c f cf bm).ab)
    (κn:=λb=>match cf.find? (λp=>p.2.1 == b) with
      | some p=>mZ p.1
      | none=>κ b) KL ⟨GH.eB,GH.low,GH.own,GH.GB⟩ (λr ⟨b,aa,e⟩=>⟨f b,List.mem_map_of_mem (aw.b1 b aa).2.2,aw.xx aa,e⟩) hJ gl
    (λp ao=>by simp only[xo,Gz (k:=λp=>p.2.1) lK ao,and_self]) (λb aa=>by
      have aA:cf.find? (λp=>p.2.1 == b)=none:=List.find?_eq_none.2 λp ao e=>aa (List.mem_map.2 ⟨p,ao,by grind⟩);simp only[xo,aA,true_and];grind)
    (by
      split
      · simp
      · split
        · simp
        · rename_i U
          exact .inr (.inr ⟨rfl,xA c.cp.bT db D b5 (Bool.eq_false_iff.2 U)⟩))
  exact⟨_,nW,fk⟩
theorem Ty(bh:∀ i,o.dst=some i->i<C.nt){f0:Operand}{args:Array Operand}{dn:Array TypeId}(ag:o.op=.call { callee:=.value f0,args:=args,argTypes:=dn }){c:cG}(ar:∀ D a w,cr C s a w->(c.sh D).cq->∃ k,cO C.P C.aO k c/\a.eval f0=.func (.func k) #[] #[]){bU:hY}
  (h:tW C.aO s o args.toList c=some bU):qf C o s bU:=by
 obtain⟨args⟩:=args;unfold tW at h;generalize axw:q9 c (sg s (q8 C.aO s args))=f at h;split at h
 ·rename_i D bV nV;split at h
  ·rename_i eb;cases h;have af7:q4 (a8 C.aO s.ax) o->jH (args.map (a8 C.aO s.ax)):=λaa=>CS aa λx ai=>by rw[ag];simp[Op.operands,Call.operands];simp_all
   refine⟨λa w Q K M bd L6=>?_,λgs oB=>(by grind),af7⟩;obtain⟨k,ar,an⟩:=ar D a w M L6.1;obtain⟨κ,F,M⟩:=M;have hlen:args.length=c.ke/\args.length<=eQ:=by
    simp only[CL,Bool.and_eq_true,decide_eq_true_eq]at eb;omega
   have dX:=M.args (avs:=q8 C.aO s args) (us:=args.map a.eval) (by grind) (by simp[q8]) λi G=>by
    have dA:i<args.length:=by grind
    have E:=r6 bd i (by grind);have ay:(args.map (a8 C.aO s.ax)).getD i .undef=a8 C.aO s.ax args[i]:=by grind
    rw[ay]at E;have aN:(q8 C.aO s args).getD i .undef=(use (a8 C.aO s.ax args[i])).2:=by simp[q8,List.getD_eq_getElem?_getD,dA]
    have cA:(args.map a.eval).getD i undef=a.eval args[i]:=by grind
    rw[aN,cA];exact o8 (j7 M args[i]) E
   obtain⟨F',own,Y,ig,_,bc,_,hX,_,C2,L7⟩:=Tw M dX rfl nV rfl eb;have c_:(execOp a.eval o).run C.P w=.ok (.enter k (args.map a.eval).toArray) w:=by
    simp only[execOp,ag,Sem.run_bind,resolve,an,Deferred.ofValue,Sem.run_pure,Result.andThen_ok,invoke];have:=ar.enter (args.map a.eval).toArray w;grind
   have ua:=ar.bB C2 rfl rfl rfl rfl (by show (args.map a.eval).length=_;grind) rfl L6.1;refine Ct (by grind) c_ ua λe w' ⟨v,bm,aE,mZ,ei,he,fZ,GI,hJ⟩=>⟨v,he,L6.2 bm fZ _ _ ?_⟩
   obtain⟨κn,nW,fk⟩:=L7 C.w0 w bc hX bm aE w' mZ ei hJ;exact⟨_,ei,bl.set nW bh (afY GI λj=>by simpa [Array.getD_eq_getD_getElem?,List.getD_eq_getElem?_getD]using fk j)⟩
  grind
 grind
theorem Tz(bh:∀ i,o.dst=some i->i<C.nt){k:Nat}{args:Array Operand}{dn:Array TypeId}(ag:o.op=.call { callee:=.value (.func k),args:=args,argTypes:=dn }){c:cG}(ar:cO C.P C.aO k c){bU:hY}
  (h:tW C.aO s o args.toList c=some bU):qf C o s bU:=
 Ty bh ag (λ_ _ _ _ _=>⟨k,ar,rfl⟩) h
theorem cO.y4{P:Program}{aQ:dD}{k:FuncId}{c:cG}(h:cO P aQ k c){sh:c.cp.aj->A c.bQ.aj}(aD:∀ D,A.le (c.sh D) (sh D)):cO P aQ k { c with sh:=sh } where
 enter:=h.enter
 iw:=λC a w κ F D ay aN cA ea dU k5 M q3=>by
  obtain⟨aW,aY⟩:=aD D q3;exact (h.iw C a w κ F D ay aN cA ea dU k5 M aW).mono λe w' ⟨v,bm,aE,κ',F',E,U,ah⟩=>⟨v,bm,aE,κ',F',E,aY bm U,ah⟩
theorem af8{Ψ:Nat->Option eV}(bh:∀ i,o.dst=some i->i<C.nt){t:Nat}{args:Array Operand}{dn:Array TypeId}(ag:o.op=.call { callee:=.value (.tmp t),args:=args,argTypes:=dn })
  (cT:∀ c sh ids,Ψ SW=some (.F_ c sh ids)->∀ k∈ids,cO C.P C.aO k { c with sh:=sh k }) {bU:hY} (h:Gd C.aO Ψ s o t args.toList=some bU):qf C o s bU:=by
 unfold Gd at h;split at h
 ·rename_i n aA;split at h
  ·rename_i c sh ids hc;refine Ty bh ag (λD a w M aD=>?_) h;obtain⟨⟨k,an,rfl⟩,_⟩:=aD;refine⟨k,(cT c sh ids hc k an).y4 (sh:=(SX c sh ids (some k)).sh) λD h=>⟨h.2,λy aS=>aS⟩,?_⟩;obtain⟨κ,F,M⟩:=M;have af:bu C.P s.ab κ F w (s.ax t) (a.tmps.getD t undef):=M.bT t;rw[aA]at af;obtain⟨_,af⟩:=(dT rfl).1 af;exact (List.cons.inj af).1
  ·cases h
 ·cases h
end
end Go.Fer
namespace Go.Fer
open Go.RowKit
section
variable {C:b_} {o:Oper} {s:aB}
theorem bl.round{s:aB}{a:Act}{w w':World}{κ:Nat->bD}{F' ei Y GJ:Nat->Prop}{l:Nat}{aL:ad}{L:List aL.aj->Prop}{I}{eh:List aL.aj}{L8:Bool}(M:bl C s a w κ F')(oC:C.bU=⟨l,aL,L,I⟩)(cC:C.bU.ht C.P)
    (aS:∀ r,Y r->r<w.heap.size/\¬F' r/\¬C.K0 r) (L9:∀ b,(s.ab b).body.b1 (κ b)=true->¬Y (κ b).ab)
    (g1:∀ r,F' r->ei r) (et:∀ r,ei r->F' r\/Y r\/w.heap.size<=r) (g3:∀ r,ei r->r<w'.heap.size) (g4:∀ r,r<w.heap.size->¬Y r->w'.heap[r]?=w.heap[r]?)
    (g5:∀ r,GJ r->(Y r\/w.heap.size<=r)/\r<w'.heap.size/\¬ei r) (g6:w.heap.size<=w'.heap.size) (g7:df w w') (g8:I eh L8 ei GJ w') :
    bl C ⟨λi=>if i=b5 then .aR l aL L eh L8 else s.ax i,s.ab⟩ a w' κ ei:=by
  have qg:c8 F' w w':=⟨g6,λr h=>g4 r (M.dd r h) λCn=>(aS r Cn).2.1 h⟩
  have lb:∀ r,w.heap.size<=r->¬C.K0 r:=λr h an=>by have:=M.hv r an;have:=M.size;omega
  refine { dE := M.dE, dfr := M.dfr, bT := λi => ?_, bE := λb => cE.k6 (M.bE b) (fo.refl _ _) g1 qg rfl rfl λag => g4 _ (M.own b ag).1 (L9 b ag), own := λb aa => ?_, inj := M.inj, dd := g3, hg := λr h => ?_,hS:=λr h=>g1 r (M.hS r h),hv:=M.hv,eH:=λr h=>?_,size:=Nat.le_trans M.size g6,er:=M.er.trans g7,gi:=M.gi,kl:=M.kl,jD:=M.jD,j3:=M.j3,km:=M.km,eB:=λdG kv e7 iW im e=>?_,jE:=M.jE,iy:=M.iy.mono g1 qg }
  · show bu C.P s.ab κ ei w' (if i=b5 then .aR l aL L eh L8 else s.ax i) _
    split
    · trivial
    · exact bu.later (fo.refl _ _) g1 qg (M.bT i)
  · have h:=M.own b aa
    grind
  · rcases et r h with h | h | h
    · exact M.hg r h
    · exact .inr (aS r h).2.2
    · exact .inr (lb r h)
  · exact (g4 r (Nat.lt_of_lt_of_le (M.hv r h) M.size) λk=>(aS r k).2.2 h).trans (M.eH r h)
  · simp only[if_true]at e
    cases e
    refine⟨⟨I,oC⟩,cC,GJ,λr h=>⟨(g5 r h).2.1,(g5 r h).2.2,?_⟩,λb aa h=>?_,?_⟩
    · grind
    · rcases (g5 _ h).1 with h | h
      · grind
      · exact absurd (M.own b aa).1 (Nat.not_lt.2 h)
    · rw[oC];exact lH.yZ.2 g8
theorem af9(bh:∀ i,o.dst=some i->i<C.nt){t:Nat}{args:Array Operand}{dn:Array TypeId}(ag:o.op=.call { callee:=.value (.tmp t),args:=args,argTypes:=dn }){bU:hY}
  (h:Ge C.aO s o t args.toList=some bU):qf C o s bU:=by
 obtain⟨args⟩:=args;unfold Ge at h;split at h
 ·rename_i dG l aL L n st L_ tS;split at h
  ·rename_i x bV ai;cases h;refine⟨λa w Q K M bd hm=>?_,λgs oB=>(by grind),λaa=>CS aa λx ai=>by rw[ag];simp[Op.operands,Call.operands];simp_all⟩;obtain⟨κ,F,M⟩:=M;rw[A.kI]at hm;obtain⟨⟨rfl,rfl,GK⟩,hm⟩:=hm;obtain⟨F',f1,bc,f2⟩:=bl.k_ (p_ _ ai) M;have dX:fm C.P aL F' w (args.map a.eval) x:=by
    refine vf M.bE f1 aL ai f2 (by simp) λi G dM=>?_;simp only[List.getElem_map];have dA:i<args.length:=by grind
    have E:=r6 bd i (by grind);have ay:(args.map (a8 C.aO s.ax)).getD i .undef=a8 C.aO s.ax args[i]:=by grind
    rw[show (List.map (a8 C.aO s.ax) (⟨args⟩:Array Operand).toList)=args.map (a8 C.aO s.ax) from rfl,ay]at E;exact o8 (j7 M args[i]) E
   have af:a.eval (.tmp t)=.func (.yield dG) #[] #[]:=by
    have:=j7 M (.tmp t);have e:a8 C.aO s.ax (.tmp t)=.hf dG:=congrArg aF.qR L_;rw[e]at this;exact this
   obtain⟨⟨I,oC⟩,cC,Y,aS,L9,eA⟩:=bc.eB dG aL L n false tS;have af_:lH.ht C.P ⟨dG,aL,L,I⟩:=oC ▸ cC;rw[oC]at eA;have eA:=lH.yZ.1 eA;obtain⟨fn,tmps,assign,body,E,U⟩:=af_.yield eA bc.dd (λr h=>⟨(aS r h).1,(aS r h).2.1⟩) GK dX;have c_:(execOp a.eval o).run C.P w=.ok (.round dG fn tmps assign body) w:=by
    simp only[execOp,ag,Sem.run_bind,resolve,af,Deferred.ofValue,Sem.run_pure,Result.andThen_ok,invoke];grind
   refine⟨λ_ _=>trivial,?_⟩;rw[zc (by grind),c_,Oper.uponIn_round];refine⟨λaD=>(by cases aD),?_⟩;have ah:RoundIn (dR C.r) 0 C.P dG fn tmps assign body w _:=U;refine ah.mono λe w' ⟨b,ei,GJ,he,g1,et,g3,g4,g5,g6,g7,g8⟩=>?_;subst he;refine hm.2 b trivial _ _ ⟨κ,ei,bl.set ?_ bh (ff.2 rfl)⟩;exact bc.round oC cC aS L9 g1 et g3 g4 g5 g6 g7 g8
  grind
 grind
end
end Go.Fer
namespace Go.Fer
open Go.RowKit
section
variable {C:b_} {T:Nat->ad} {bg:Nat->Option aP} {s:aB} {res:eC}
theorem TA{ms:Array MapEntry}{j:Nat}(aG:j<ms.size)(hu:∀ i (h:i<ms.size),ms[i].born=ms[j].born->i=j):ms.findIdx? (λe=>(e.born:Int) == (ms[j].born:Int))=some j:=by
 rw[Array.findIdx?_eq_some_iff_getElem];grind
theorem af'(ms:Array MapEntry)(e:MapEntry)(f:MapEntry->MapEntry):(ms.push e).modify ms.size f=ms.push (f e):=by
 grind
theorem aga(ms:Array MapEntry)(j:Nat)(f g:MapEntry->MapEntry):(ms.modify j f).modify j g=ms.modify j λe=>g (f e):=by
 grind
theorem zZ{a:Act}{d:Nat}{v:Value}{x:Operand}(h:x≠.tmp d):(a.put (some d) v).eval x=a.eval x:=Act.eval_put λqQ e=>by grind
theorem C3{a:Act}{d:Nat}{v:Value}(h:d<a.tmps.size):(a.put (some d) v).eval (.tmp d)=v:=by
 simp[Act.put,Act.eval,Array.getD_eq_getD_getElem?,h]
theorem agb(aV:dS C.P T){hT gB kQ kf:Oper}{d1 d2:Nat}{ty:TypeId}{m x y:Operand}(E:hT.op=.mapEntry ty m x)(t1:hT.dst=some d1)(U:gB.op=.extract (.tmp d1) 1)(t2:gB.dst=some d2)
  (ah:kQ.op=.entryStore ty m (.tmp d2) y) (t3:kQ.dst=none) (ia:kf.op=.mapUpdate ty m x y) (L':kf.dst=none) (kg:m≠.tmp d1) (po:m≠.tmp d2) (xD:y≠.tmp d1) (su:y≠.tmp d2) (qb:d1<C.nt) (h0:d2<C.nt)
  (h:(bt C.aO T bg (a8 C.aO s.ax) kf).run s.ab=some res) {a:Act} {w:World} {κ:Nat->bD} {F:Nat->Prop} {Q:Exit->Act->World->Prop} {K:Act->World->Prop} (M:bl C s a w κ F) (bd:res.b7) (hc:res.c)
  (iH:∀ a' w',cr C (((s.h8 none res).set (some d1) .undef).set (some d2) .undef) a' w'->K a' w') :
  hT.wpIn (dR C.r) 0 C.P a w (λb9 cn=>gB.wpIn (dR C.r) 0 C.P b9 cn (λa2 da=>kQ.wpIn (dR C.r) 0 C.P a2 da K Q) Q) Q:=by
 have kO:=KJ aV L' (.inl ia) h a w κ F Q M bd hc;rw[L']at kO;have ay:∀ c,hT.op≠.defer c:=by grind
 have aN:∀ c,gB.op≠.defer c:=by grind
 have cA:∀ c,kQ.op≠.defer c:=by grind
 have agc:∀ c,kf.op≠.defer c:=by grind
 simp only[bt,ia,qU]at h;split at h
 ·rename_i k v aK;obtain⟨ld,zt,G,mQ,hi⟩:=(aV.cb aK (by simp)).mp;obtain⟨inf,mn,i1,i2,i3,i4,i5,i6⟩:=kp hi.ko;split at h
  ·rename_i xE;split at h
   ·rename_i b g tN;simp only[aq.e6,Option.bind_eq_some_iff,aq.run_bind,aq.e5,aq.bL]at h;obtain⟨⟨dK,oj⟩,ai,⟨mR,om⟩,aS,h⟩:=h;split at h
    ·rename_i aC;obtain⟨aC,p8⟩:=aC;have p8:b ∉ oj++om:=by
      grind
     split at h
     ·rename_i k' h5 es aa;simp only[Option.map_eq_some_iff]at h;obtain⟨Sl,o_,rfl⟩:=h;obtain⟨e,rfl⟩:=kK o_;cases e;obtain⟨F',f1,bc,f2⟩:=bl.k_ ((mO ai).append (mO aS)) M;have hm:bu C.P s.ab κ F w (use (a8 C.aO s.ax m)).2 (a.eval m):=cN M m rfl bd.1;rw[tN]at hm;have kP:=hm.2 aC.symm (by rw[aa];rfl);have tO:=mf M.bE f1 ai f2.left (cN M x rfl bd.2.1);have pb:(s.cB (oj++om)).ab b=s.ab b:=by simp only[aB.cB];grind
      have aU:=bc.bE b;unfold cE at aU;rw[pb,aa]at aU;obtain⟨ms,clk,hw,tP⟩:=aU;have fi:k.kM=true/\k.j6<=100:=by simpa [tB]using xE
      have eb:=(Cu (em:=false) k 10000 fi.1 (by omega)).1 mQ tO;have ka:=tP.es;obtain⟨f,du,dF⟩:=w_ (β:=v.aj) (xs:=es) (es:=ms.toList) xE mQ tO ka.1 (λj e p E U=>(ka.2 j e p E U).1);have eU:(getObj (κ b).ab).run C.P w=.ok (.map ms clk) w:=by simp[getObj,Sem.run,hw]
      obtain⟨hv,KK,FN,Sm⟩:=tP;have ub:d1<a.tmps.size:=by have:=M.dE;omega
      have cc:(κ b).ab<w.heap.size:=(Array.getElem?_eq_some_iff.1 hw).1;have chain:∀ (cn da:World) (u:Value) (n:Int),(execOp a.eval hT).run C.P w=.ok (.value (.tuple #[u,goInt n])) cn->(Instr.entryStore ty (.map (some (κ b).ab)) (goInt n) (a.eval y)).run C.P cn=.ok () da->
        (execOp a.eval kf).run C.P w=.ok .skip da->
        hT.wpIn (dR C.r) 0 C.P a w (λb9 cn=>gB.wpIn (dR C.r) 0 C.P b9 cn (λa2 da=>kQ.wpIn (dR C.r) 0 C.P a2 da K Q) Q) Q:=by
       intro cn da u n cj cK agd;have j':=kO.2;rw[zc agc,agd,Oper.uponIn_skip,L']at j';refine hx ay cj ?_;rw[t1];have age:(a.put (some d1) (.tuple #[u,goInt n])).eval (.tmp d1)=.tuple #[u,goInt n]:=C3 ub;refine hx (v:=goInt n) (w':=cn) aN (by simp[execOp,U,age,Instr.extract]) ?_;rw[t2];have agf:d2<(a.put (some d1) (.tuple #[u,goInt n])).tmps.size:=by have:=M.dE;simp[Act.put];omega
       have agh:((a.put (some d1) (.tuple #[u,goInt n])).put (some d2) (goInt n)).eval (.tmp d2)=goInt n:=C3 agf;have Ma:((a.put (some d1) (.tuple #[u,goInt n])).put (some d2) (goInt n)).eval m=.map (some (κ b).ab):=by rw[zZ po,zZ kg,kP]
       have agi:((a.put (some d1) (.tuple #[u,goInt n])).put (some d2) (goInt n)).eval y=a.eval y:=by rw[zZ su,zZ xD]
       refine Fz cA (w':=da) (by simp only[execOp,ah,agh,Ma,agi,Sem.run_bind,cK,Result.andThen_ok,Sem.run_pure]) ?_;rw[t3];refine iH _ _ ?_;obtain⟨κ',F',j'⟩:=j';exact⟨κ',F',bl.set (bl.set (d:=some d1) (av:=.undef) j' (λi e=>by grind) trivial) (λi e=>by grind) trivial⟩
      rcases dF with⟨rfl,eD⟩ | ⟨j,e,p,g1,et,g3,g4,rfl⟩
      ·refine chain { w with heap:=w.heap.setIfInBounds (κ b).ab (.map (ms.push { key:=a.eval x,val:=mn,born:=clk }) (clk+1)) } { w with heap:=w.heap.setIfInBounds (κ b).ab (.map (ms.push { key:=a.eval x,val:=a.eval y,born:=clk }) (clk+1)) } mn clk ?_ ?_ ?_
       ·simp only[execOp,E,kP,Instr.mapEntry,Sem.run_bind,dC G,Result.andThen_ok,eU,eb,du,qV i1 i4,sd hw,Sem.run_pure]
       ·have Mb:(getObj (κ b).ab).run C.P { w with heap:=w.heap.setIfInBounds (κ b).ab (.map (ms.push { key:=a.eval x,val:=mn,born:=clk }) (clk+1)) }=.ok (.map (ms.push { key:=a.eval x,val:=mn,born:=clk }) (clk+1)) { w with heap:=w.heap.setIfInBounds (κ b).ab (.map (ms.push { key:=a.eval x,val:=mn,born:=clk }) (clk+1)) }:=by simp[getObj,Sem.run,cc]
        have Mc:(ms.push { key:=a.eval x,val:=mn,born:=clk }).findIdx? (λe=>(e.born:Int) == (clk:Int))=some ms.size:=by
         have:=TA (ms:=ms.push { key:=a.eval x,val:=mn,born:=clk }) (j:=ms.size) (by simp) λi G he=>by
          grind
         grind
        simp only[Instr.entryStore,Sem.run_bind,Mb,Result.andThen_ok,goInt,asInt,asIntOf,Sem.run_pure,Mc];rw[sd (es:=ms.push { key:=a.eval x,val:=mn,born:=clk }) (clk:=clk+1) (by grind),af'];simp
       ·simp only[execOp,ia,kP,Instr.mapUpdate,Sem.run_bind,dC G,Result.andThen_ok,eU,eb,du,sd hw,Sem.run_pure]
      ·have aG:j<es.length:=(List.getElem?_eq_some_iff.1 et).1;have xa:j<ms.size:=by omega
       have KM:ms[j]=e:=by
        grind
       obtain⟨jo,cn,cj,cK,eu⟩:=KI C.P w e.key (a.eval x);have lR:cn.heap[(κ b).ab]?=some (.map ms clk):=by rcases eu with rfl | rfl<;>exact hw
       have TB:(κ b).ab<cn.heap.size:=(Array.getElem?_eq_some_iff.1 lR).1;have nN:((ms[j]?).map (·.key)).getD (a.eval x)=e.key:=by
        grind
       have Md:((ms[j]?).map (λx=>(x.born:Int))).getD 0=(ms[j].born:Int):=by grind
       rw[Nat.zero_add]at du;refine chain { cn with heap:=cn.heap.setIfInBounds (κ b).ab (.map (ms.modify j λe=>{ e with key:=jo }) clk) } { cn with heap:=cn.heap.setIfInBounds (κ b).ab (.map (ms.modify j λe=>{ e with key:=jo,val:=a.eval y }) clk) } e.val ms[j].born ?_ ?_ ?_
       ·simp only[execOp,E,kP,Instr.mapEntry,Sem.run_bind,dC G,Result.andThen_ok,eU,eb,du];rw[nN,cj];simp only[Result.andThen_ok,sd lR,Sem.run_pure,Md]
       ·have Mb:(getObj (κ b).ab).run C.P { cn with heap:=cn.heap.setIfInBounds (κ b).ab (.map (ms.modify j λe=>{ e with key:=jo }) clk) }=.ok (.map (ms.modify j λe=>{ e with key:=jo }) clk) { cn with heap:=cn.heap.setIfInBounds (κ b).ab (.map (ms.modify j λe=>{ e with key:=jo }) clk) }:=by simp[getObj,Sem.run,TB]
        have mo:∀ i (h:i<(ms.modify j λe=>{ e with key:=jo }).size),((ms.modify j λe=>{ e with key:=jo })[i]).born=(ms[i]'(by grind)).born:=by
         grind
        have Mc:(ms.modify j λe=>{ e with key:=jo }).findIdx? (λe=>(e.born:Int) == (ms[j].born:Int))=some j:=by
         have:=TA (ms:=ms.modify j λe=>{ e with key:=jo }) (j:=j) (by grind) λi G he=>by
          grind
         grind
        simp only[Instr.entryStore,Sem.run_bind,Mb,Result.andThen_ok,goInt,asInt,asIntOf,Sem.run_pure,Mc];rw[sd (es:=ms.modify j λe=>{ e with key:=jo }) (clk:=clk) (by grind),aga];simp
       ·simp only[execOp,ia,kP,Instr.mapUpdate,Sem.run_bind,dC G,Result.andThen_ok,eU,eb,du];rw[nN,cj];simp only[Result.andThen_ok,sd lR,Sem.run_pure]
     grind
    grind
   ·cases h
  ·cases h
 ·cases h
end
end Go.Fer
namespace Go.Fer
open Go.RowKit
structure C4(P:Program)(k:FuncId)(c:zK):Prop where
 enter:∀ args w,(callFunc k args).run P w=.ok (.enter k args) w
 iw:∀ (l:Nat) (I:List c.aL.aj->Bool->(Nat->Prop)->(Nat->Prop)->World->Prop) (F Y:Nat->Prop) (w:World) (args:List Value) (x:c.ts.aj),fm P c.ts F w args x->c.pre x->lH.ht P ⟨l,c.aL,λT=>T=c.seq x,I⟩->
  (∀ r,F r->r<w.heap.size)->nF P F w->(∀ r,Y r->r<w.heap.size/\¬F r)->I [] false F Y w->Calls P k (args++[Value.func (.yield l) #[] #[]]).toArray w λe w'=>
   ∃ v pre st F' gz,e=.returned v/\(st=false->pre=c.seq x)/\I pre st F' gz w'/\(∀ r,F r->F' r)/\(∀ r,F' r->F r\/Y r\/w.heap.size<=r)/\(∀ r,F' r->r<w'.heap.size)/\
    (∀ r,r<w.heap.size->¬Y r->w'.heap[r]?=w.heap[r]?)/\(∀ r,gz r->(Y r\/w.heap.size<=r)/\r<w'.heap.size/\¬F' r)/\w.heap.size<=w'.heap.size/\df w w'
def eV.ht(P:Program)(aQ:dD)(k:FuncId):eV->Prop
 | .cY c=>gU P k c.ts c.aR c.sh/\(c.dI=true->∀ x,(c.sh x).zI)
 | .eW c=>cO P aQ k c
 | .cu c=>C4 P k c
 | .F9 c=>gU P k c.ts c.aR c.sh/\Fh P k c.ts c.aR c.sh
 | .F_ c sh ids=>∀ k∈ids,cO P aQ k { c with sh:=sh k }
 | .ky c=>k8 c.aR=true/\zp P k c
 | .CH c b=>(gU P k c.ts c.aR c.sh/\(c.dI=true->∀ x,(c.sh x).zI))/\cO P aQ k b
def lV(P:Program)(aQ:dD)(Ψ:Nat->Option eV):Prop:=∀ k c,Ψ k=some c->c.ht P aQ k
section
variable {C:b_} {T:Nat->ad} {bg:Nat->Option aP} {Ψ:Nat->Option eV} {s:aB} {o:Oper} {Q:Exit->Act->World->Prop} {ops:Array Oper}
theorem agj(cv:jm C.P bg)(cT:lV C.P C.aO Ψ){k:Nat}{c:hk}(h:Lq bg Ψ k=some c):gU C.P k c.ts c.aR c.sh:=by
 unfold Lq at h;split at h
 ·rename_i c' i_;cases h;have:eV.ht C.P C.aO k (.cY c):=cT k _ i_;exact this.1
 ·cases h
 ·obtain⟨f,ar,h⟩:=Option.bind_eq_some_iff.1 h;split at h
  ·cases h
  ·rename_i he;cases h;exact (cv k f ar).1 (by simpa using he)
theorem agk{P:Program}{w:World}{ty j:TypeId}(aG:P.underlying ty=some (.slice j))(q:Option Addr)(n cap d:Nat):(Op.equalIn (d+1) ty (.slice q n cap) (.slice none 0 0)).run P w=.ok q.isNone w:=by
 cases q<;>simp[Op.equalIn,dC aG]
theorem agl{P:Program}{w:World}(op:BinOp)(t:TypeId)(x y:Operand)(q q':Option Addr)(n iW cap cap':Nat):(eqGuard op t x y (.slice q n cap) (.slice q' iW cap')).run P w=.ok () w:=by
 cases op<;>simp[eqGuard]
theorem TC{P:Program}{w:World}{ty j:TypeId}{x y:Operand}(aG:P.underlying ty=some (.slice j))(q:Option Addr)(n cap:Nat) :
  (do eqGuard .eql ty x y (.slice q n cap) (.slice none 0 0);binOp .eql ty (.slice q n cap) (.slice none 0 0):Sem Value).run P w=.ok (.bool q.isNone) w/\(do eqGuard .neq ty x y (.slice q n cap) (.slice none 0 0);binOp .neq ty (.slice q n cap) (.slice none 0 0):Sem Value).run P w=.ok (.bool (!q.isNone)) w:=by
 have h:(Op.equalIn 10000 ty (.slice q n cap) (.slice none 0 0)).run P w=.ok q.isNone w:=agk (w:=w) aG q n cap 9999;constructor<;>simp[agl,binOp,Op.equal,Op.maxDepth,h]
theorem agm(aV:dS C.P T)(bh:∀ i,o.dst=some i->i<C.nt){op:BinOp}{ty mM:TypeId}{x y:Operand}(ag:o.op=.binOp op ty x y mM){bU:hY}(h:CN C.aO T s o op ty x y=some bU):qf C o s bU:=by
 have zf:∀ c,o.op≠.defer c:=by grind
 unfold CN at h;split at h
 ·rename_i e aK agn;have dp:=aV.cb aK (by simp);obtain⟨j,aG,_⟩:=dp.sl;split at h
  ·rename_i xs l hV;have key:∀ (a:Act) (w:World) (κ:Nat->bD) (F:Nat->Prop),bl C s a w κ F->(use (a8 C.aO s.ax x)).1->∃ b:Bool,(b=true->xs=[])/\(op=.eql->(execOp a.eval o).run C.P w=.ok (.value (.bool b)) w)/\(op=.neq->(execOp a.eval o).run C.P w=.ok (.value (.bool (!b))) w):=by
    intro a w κ F M bd;have ai:=Ca M hV (cN M x rfl bd);obtain⟨_,q,cap,ay,m1,m2,m3,_⟩:=(dT rfl).1 ai;have ay:=(List.cons.inj ay).1;have aS:a.eval y=.slice none 0 0:=by
     have:=j7 M y;rw[agn]at this;exact this
    refine⟨q.isNone,λbq=>?_,λkO=>?_,λkO=>?_⟩
    ·simp_all
    ·subst kO;have M:=(TC (w:=w) (x:=x) (y:=y) aG q xs.length cap).1;rw[<-ay,<-aS]at M;simp only[execOp,ag,Sem.run_bind]at M ⊢;simp_all
    ·subst kO;have M:=(TC (w:=w) (x:=x) (y:=y) aG q xs.length cap).2;rw[<-ay,<-aS]at M;simp only[execOp,ag,Sem.run_bind]at M ⊢;simp_all
   split at h
   ·cases h;refine⟨λa w Q K M bd hm=>?_,λgs oB=>(by grind),λaa=>aa x (by rw[ag];simp[Op.operands])⟩;obtain⟨κ,F,M⟩:=M;obtain⟨b,dP,e2,_⟩:=key a w κ F M bd;exact hx zf (e2 rfl) (hm.2 b dP _ _ ⟨κ,F,bl.set M bh (ff.2 rfl)⟩)
   ·cases h;refine⟨λa w Q K M bd hm=>?_,λgs oB=>(by grind),λaa=>aa x (by rw[ag];simp[Op.operands])⟩;obtain⟨κ,F,M⟩:=M;obtain⟨b,dP,_,e2⟩:=key a w κ F M bd;exact hx zf (e2 rfl) (hm.2 b dP _ _ ⟨κ,F,bl.set M bh (ff.2 rfl)⟩)
   grind
  grind
 grind
theorem Me(aV:dS C.P T)(cv:jm C.P bg)(cT:lV C.P C.aO Ψ)(bh:∀ i,o.dst=some i->i<C.nt){bU:hY}(h:q_ C.aO T bg Ψ s o=some bU):qf C o s bU:=by
 unfold q_ at h;split at h
 ·rename_i c ag;obtain⟨callee,args,dn⟩:=c;split at h
  ·rename_i f ar;simp only at ar;subst ar;split at h
   ·split at h
    ·rename_i c' i_;exact Tz bh ag (cT _ _ i_) h
    ·rename_i a b i_;have ah:eV.ht C.P C.aO _ (.CH a b):=cT _ _ i_;split at h
     ·rename_i r M;cases h;exact Tz bh ag ah.2 M
     ·exact Tf bh ag ah.1.1 h
    ·rename_i c' i_;have ah:eV.ht C.P C.aO _ (.F9 c'):=cT _ _ i_;exact afK bh ag ah.1 ah.2 h
    ·split at h
     ·rename_i cY C5;exact Tf bh ag (agj cv cT C5) h
     grind
   ·split at h
    ·rename_i r M;cases h;exact afL bh ag M
    ·split at h
     ·rename_i r M;cases h;exact af8 bh ag (λc sh ids hc=>cT _ _ hc) M
     ·exact af9 bh ag h
   grind
  grind
 ·rename_i ty x ag;exact afM aV bh ag h
 ·rename_i x str ag;exact afQ bh ag h
 ·rename_i x ag;exact afN bh ag h
 ·rename_i op ty x y mM ag;exact agm aV bh ag h
 grind
theorem TD(want b:Bool):((some b == some want:Bool))=FX want b:=by cases want<;>cases b<;>rfl
theorem TE{a:Act}{j d:Nat}{rj:Oper}(E:ops[j]?=some rj)(U:rj.dst=some d){b:Bool}(h:a.tmps.getD d Go.undef=.bool b):yielded ops a.tmps j=some b:=by
 have:a.tmps[d]?=some (.bool b):=by
  rw[Array.getD_eq_getD_getElem?]at h;cases he:a.tmps[d]? with
  | none=>rw[he]at h;cases h
  | some v=>grind
 simp[yielded,E,U,this]
theorem ago{a:Act}{j d:Nat}{rj:Oper}(E:ops[j]?=some rj)(U:rj.dst=some d)(h:a.tmps.getD d Go.undef=Go.undef):yielded ops a.tmps j=none:=by
 unfold yielded;rw[E];simp only[Option.bind_some,U];rw[Array.getD_eq_getD_getElem?]at h;cases he:a.tmps[d]? with
 | none=>rfl
 | some v=>rw[he]at h;cases h;rfl
theorem Mf{a:Act}{w:World}{κ:Nat->bD}{F:Nat->Prop}(M:bl C s a w κ F){g:Option Bool}(h:kt s.ax ops o.guard=some g) :
  Region.wanted o (yielded ops a.tmps)=g.getD true:=by
 unfold Region.wanted;cases aC:o.guard with
 | none=>rw[aC]at h;cases h;rfl
 | some p=>
  obtain⟨j,want⟩:=p;rw[aC]at h;simp only[kt]at h ⊢;split at h
  ·rename_i rj aG;split at h
   ·rename_i d aw;have aD:=M.bT d;split at h
    ·rename_i b aa;cases h;rw[aa]at aD;rw[TE aG aw (ff.1 aD),TD];rfl
    ·rename_i g' b aa;cases h;rw[aa]at aD;obtain⟨E,U⟩:=aD;cases g' with
     | true=>
      rw[TE aG aw (ff.1 (E rfl)),TD];simp
     | false=>
      rw[ago aG aw (U rfl)];rfl
    grind
   grind
  grind
theorem agp{b7 c:Prop}{e9 sn:aF}{hE xr:List (Nat×bK)}(aC:CO o e9 hE=some (xr,sn))(h:(bt C.aO T bg (a8 C.aO s.ax) o).run s.ab=some ⟨b7,c,e9,hE⟩) :
    (∀ a w,cr C (s.h8 o.dst ⟨b7,c,e9,hE⟩) a w->cr C ((s.fY xr).set o.dst sn) a w)/\(∀ a w κ F,bl C s a w κ F->∃ κ' F',bl C (s.fY xr) a w κ' F'):=by
  unfold CO at aC;split at aC
  · cases aC
    exact⟨λa w h=>h,λa w κ F h=>⟨κ,F,h⟩⟩
  · rename_i p dG
    split at aC
    · rename_i Mg first c6 ag
      cases aC
      refine⟨λa w h=>h,λa w κ F M=>?_⟩
      simp only[bt,ag]at h
      split at h
      · split at h
        · split at h
          · simp only[aq.e6,Option.bind_eq_some_iff,aq.run_bind,aq.bL,Option.some.injEq]at h
            obtain⟨⟨y,l⟩,aS,he⟩:=h
            obtain⟨F',_,bc,_⟩:=bl.k_ (p_ _ aS) M
            have he:(jG l).run s.ab=p::dG:=by grind
            rw[<-he,tE]
            grind
          · split at h
            · simp only[aq.e6,Option.bind_eq_some_iff,aq.run_bind,aq.bL,Option.some.injEq]at h
              obtain⟨⟨y,l⟩,aS,he⟩:=h
              obtain⟨F',_,bc,_⟩:=bl.k_ (p_ _ aS) M
              have he:(jG l).run s.ab=p::dG:=by grind
              rw[<-he,tE]
              grind
            · simp only[bN,aq.bL,Option.some.injEq]at h
              cases h
        · split at h
          · simp only[bN,aq.bL,Option.some.injEq]at h
            cases h
          · cases h
      · cases h
    · rename_i ty n ps ag
      split at aC
      · rename_i be g' e xs bS
        split at aC
        · rename_i agq
          obtain⟨⟨rfl,rfl⟩,_⟩:=agq
          cases aC
          obtain⟨b,⟨agr,iG⟩⟩:=p
          simp only at bS
          subst bS
          have lb:o.dst=some b/\agr=(s.ab b).gen+1:=by
            simp only[bt,ag]at h;split at h
            · simp only[aq.e6,Option.bind_eq_some_iff,aq.run_bind]at h
              obtain⟨⟨ys,bV⟩,_,h⟩:=h
              obtain⟨b0,zy,an⟩:=qX h
              grind
            · cases h
          obtain⟨bh,rfl⟩:=lb
          refine⟨λa w j'=>?_,λa w κ F M=>?_⟩
          · obtain⟨κ,F,M⟩:=j'
            rw[bh]at M ⊢
            simp only[aB.h8,aB.fY]at M
            have ai:(dz (.slice e) (.own b ((s.ab b).gen+1))).run ((s.cx b ⟨(s.ab b).gen+1,.bf e xs⟩).set (some b) (.own b ((s.ab b).gen+1))).ab=some (xs,[b]):=by
              simp[dz,kn,dW,aB.set,aB.cx,eS,ad.eG]
            obtain⟨z1,f1,gM,f2⟩:=bl.k_ (mO ai) M
            have aD:=M.bT b
            have af:=mf (v:=a.tmps.getD b undef) M.bE f1 ai f2 (by simpa [aB.set]using aD)
            have fk:∀ i,i≠b->((s.cx b ⟨(s.ab b).gen+1,.bf e xs⟩).set (some b) (.own b ((s.ab b).gen+1))).ax i=s.ax i:=λi G=>by simp[aB.set,aB.cx,G]
            have cM:bl C ⟨λi=>if i=b then .val (.slice e) xs else s.ax i,(((s.cx b ⟨(s.ab b).gen+1,.bf e xs⟩).set (some b) (.own b ((s.ab b).gen+1))).cB [b]).ab⟩ a w κ z1:=
              { gM with
                dE:=gM.dE,dfr:=gM.dfr,bE:=gM.bE
                bT:=λi=>by
                  show bu _ _ _ _ _ (if i=b then .val (.slice e) xs else s.ax i) _;split
                  · rename_i G
                    subst G
                    exact af
                  · rename_i G
                    rw[<-fk i G]
                    exact gM.bT i
                eB:=λl aL L n st a1=>by
                  have a1:(if b5=b then aF.val (.slice e) xs else s.ax b5)=.aR l aL L n st:=a1;split at a1
                  · cases a1
                  · rename_i G
                    exact gM.eB l aL L n st ((fk b5 G).trans a1) }
            refine⟨κ,z1,cM.y4 ⟨λi=>.inl ?_,λi=>?_⟩⟩
            · rfl
            · by_cases G:i=b
              · subst G
                right
                simp[aB.set,aB.fY,aB.cx,aB.cB,fh]
              · left
                simp[aB.set,aB.fY,aB.cx,aB.cB,G]
          · have aA:=LO M (b:=b) (e:=e)
            refine⟨_,F,aA.y4 ⟨λi=>.inl rfl,λi=>?_⟩⟩
            by_cases G:i=b
            · subst G
              right
              simp[aB.fY,aB.cx]
            · left
              simp[aB.fY,aB.cx,G]
        grind
      grind
    grind
theorem sv{β:Type}{b:Bool}{p:Prop}{m:A β}{O:β->Prop}(aa:b=true->p):A.cw (sj b p m) O<->p/\A.cw m O:=by
 cases b with
 | true=>exact⟨λh=>⟨aa rfl,h⟩,λh=>h.2⟩
 | false=>exact A.kI
def qi(ops:Array Oper)(s:aB)(tg:pj):Prop:=∀ p∈tg,∃ b a,s.ax p.1=.hC b a/\kt s.ax ops (some p.2)=some (some b)
theorem ags{j d:Nat}:sk ops j d=true<->d∈FY ops (some (j,true)):=by
 have key:∀ (x:Option Oper),(match x with | some o=>(match o.dst with | some e=>e == d | none=>false) | none=>false)=true<->d∈(match x with | some o=>o.dst.toList | none=>[]):=by
  grind
 exact key _
theorem qi.hl{s':aB}{tg:pj}(h:qi ops s tg)(aD:∀ i,o.dst≠some i->s'.ax i=s.ax i)
  (aw:∀ d k,o.dst=some d->o.guard=some k->∃ b a,s'.ax d=.hC b a/\kt s.ax ops (some k)=some (some b)):qi ops s' (xp ops tg o):=by
 unfold xp;cases bh:o.dst with
 | none=>
  intro p ao;obtain⟨b,a,E,U⟩:=h p ao;refine⟨b,a,(aD _ (by grind)).trans E,?_⟩;rw[<-U];exact K6 λt _=>aD t (by grind)
 | some d=>
  have congr:∀ k:Nat×Bool,sk ops k.1 d=false->kt s'.ax ops (some k)=kt s.ax ops (some k):=λk an=>K6 λt aK=>aD t (by
   rw[bh];intro e;cases e;have:sk ops k.1 d=true:=ags.2 aK;grind)
  have ve:qi ops s' (tg.filter λp=>p.1 != d&&!sk ops p.2.1 d):=by
   intro p ao;simp only[List.mem_filter,Bool.and_eq_true,bne_iff_ne,ne_eq,Bool.not_eq_true']at ao;obtain⟨b,a,E,U⟩:=h p ao.1;grind
  simp only;split
  ·rename_i k an;split
   ·omega
   ·rename_i TF;intro p ao;rcases List.mem_cons.1 ao with rfl | ao
    ·grind
    ·exact ve p ao
  omega
section
variable {aQ:dD} {tg:pj} {gk:Option (Nat×Bool)}
theorem C6(aV:qi ops s tg)(aC:∀ k,gk=some k->kt s.ax ops (some k)=some (some true)){x:Operand}(h:xq (a8 aQ s.ax) tg gk x=true):(use (a8 aQ s.ax x)).1:=by
 unfold xq at h;rw[Bool.or_eq_true]at h;rcases h with h | h
 ·exact FV (by grind)
 ·split at h
  ·rename_i t k;obtain⟨p,ao,vi⟩:=List.any_eq_true.1 h;simp only[Bool.and_eq_true,beq_iff_eq]at vi;obtain⟨rfl,E,U⟩:=vi;have vi:p.2=k:=Prod.ext E U;obtain⟨b,a,aW,aY⟩:=aV p ao;rw[vi,aC k rfl]at aY;cases aY;have e:a8 aQ s.ax (.tmp p.1)=(s.ax p.1).qR:=rfl;rw[e,aW];rfl
  grind
theorem TG(aV:qi ops s tg)(aC:∀ k,gk=some k->kt s.ax ops (some k)=some (some true))(h:Lt (a8 aQ s.ax) tg gk o=true):q4 (a8 aQ s.ax) o:=
 λx ai=>C6 aV aC (List.all_eq_true.1 h x ai)
theorem TH(aV:qi ops s tg){c x:Operand}{want:Bool}{p5:Prop}{iX:Bool}(hc:use (a8 aQ s.ax c)=(p5,.val .bool iX))(C7:p5)(h:Gj ops tg c x want=true)(hw:FX want iX=true):(use (a8 aQ s.ax x)).1:=by
 unfold Gj at h;split at h
 ·rename_i c t;obtain⟨p,ao,vi⟩:=List.any_eq_true.1 h;simp only[Bool.and_eq_true,beq_iff_eq]at vi;obtain⟨rfl,E,rfl⟩:=vi;obtain⟨b,a,aW,aY⟩:=aV p ao;have e:a8 aQ s.ax (.tmp p.1)=(s.ax p.1).qR:=rfl;rw[e,aW];show b=true;unfold sk at E;have xF:p.2=(p.2.1,p.2.2):=rfl;rw[xF]at aY;unfold kt at aY;have i_:use (s.ax c)=(p5,.val .bool iX):=ac5 hc;split at E
  ·rename_i rj aG;split at E
   ·rename_i d aw;have agt:d=c:=by grind
    subst agt;simp only[aG,aw]at aY;split at aY
    ·rename_i b0 zy;rw[zy]at i_;simp only[use,Prod.mk.injEq,aF.val.injEq,heq_eq_eq,true_and]at i_;grind
    ·rename_i g0 b0 zy;rw[zy]at i_;simp only[use,Prod.mk.injEq,aF.val.injEq,heq_eq_eq,true_and]at i_;grind
    grind
   grind
  grind
 grind
theorem GL(aV:qi ops s tg)(aC:∀ k,gk=some k->kt s.ax ops (some k)=some (some true))(h:zM (a8 aQ s.ax) ops tg gk o=true):(bt aQ T bg (a8 aQ s.ax) o).cX (lg λr=>r.b7):=by
 cases ag:o.op with
 | pick c a b=>
  simp only[zM,ag,Bool.and_eq_true,Bool.or_eq_true]at h;obtain⟨E,U,ah⟩:=h;unfold bt;rw[ag];simp only;split
  ·rename_i p5 iX lS;have C7:p5:=by have:=C6 aV aC E;grind
   split
   ·split
    ·rename_i y' av bb;refine .bN ⟨C7,λaf=>?_⟩;have:(use (a8 aQ s.ax a)).1:=by
      rcases U with U | U
      ·exact C6 aV aC U
      ·exact TH aV lS C7 U af
     grind
    ·exact .bX
   ·split
    ·rename_i y' av bb;refine .bN ⟨C7,λaf=>?_⟩;have:(use (a8 aQ s.ax b)).1:=by
      rcases ah with ah | ah
      ·exact C6 aV aC ah
      ·exact TH aV lS C7 ah (by subst af;rfl)
     grind
    ·exact .bX
   ·exact .bX
  ·exact .bX
 | _=>
  simp only[zM,ag]at h;exact SC (TG aV aC h)
theorem agu(aV:qi ops s tg)(aC:∀ k,gk=some k->kt s.ax ops (some k)=some (some true)){b7 c:Prop}{e9 sn:aF}{hE xr:List (Nat×bK)}(hw:CO o e9 hE=some (xr,sn))(M:(bt aQ T bg (a8 aQ s.ax) o).run s.ab=some ⟨b7,c,e9,hE⟩)
  (h:Lu (a8 aQ s.ax) tg gk o sn=true):(use sn).1:=by
 unfold Lu at h;rw[Bool.or_eq_true]at h;rcases h with h | h
 ·exact FV (by grind)
 ·split at h
  ·rename_i x ag;simp only[bt,ag,bN,aq.bL,Option.some.injEq,eC.mk.injEq]at M;obtain⟨_,_,rfl,rfl⟩:=M;simp only[CO,Option.some.injEq,Prod.mk.injEq]at hw;obtain⟨_,rfl⟩:=hw;exact C6 aV aC h
  grind
end
theorem aB.C8{s:aB}{d:Option Nat}{v:aF}{i:Nat}(h:d≠some i):(s.set d v).ax i=s.ax i:=by
 cases d with
 | none=>rfl
 | some d=>simp only[aB.set];grind
theorem aB.Mh{s:aB}{d:Nat}{v:aF}:(s.set (some d) v).ax d=v:=by simp[aB.set]
theorem aB.zE:∀ (l:List (Nat×bK)) (s:aB),(s.fY l).ax=s.ax
 | [],_=>rfl
 | p::l,s=>by
  have:=aB.zE l (s.cx p.1 p.2);exact this
theorem agv{aQ:dD}{bU:hY}{gs:Bool->bU.al->aB}(h:q_ aQ T bg Ψ s o=some bU)(aC:bU.CJ=some gs):∀ g y,∃ v,(gs g y).ax=(s.set o.dst (.hC g v)).ax:=by
 have after:∀ (t:ad) (bV:List Nat) (v:aF),(q7 s o t bV v).ax=(s.set o.dst v).ax:=λt bV v=>by
  unfold q7;split
  ·rfl
  ·cases o.dst<;>rfl
 have cY:∀ {args:List Operand} {c:hk} {bU:hY} {gs:Bool->bU.al->aB},zL aQ s o args c=some bU->bU.CJ=some gs->∀ g y,∃ v,(gs g y).ax=(s.set o.dst (.hC g v)).ax:=by
  intro args c bU gs h aC;unfold zL at h;split at h
  ·cases h;cases aC;exact λg y=>⟨_,after _ _ _⟩
  grind
 have zJ:∀ {t:Nat} {args:List Operand} {bU:hY} {gs:Bool->bU.al->aB},CK aQ s o t args=some bU->bU.CJ=some gs->∀ g y,∃ v,(gs g y).ax=(s.set o.dst (.hC g v)).ax:=by
  intro t args bU gs h aC;unfold CK at h;split at h
  ·split at h
   ·cases h;cases aC;exact λg y=>⟨_,after _ _ _⟩
   grind
  grind
 unfold q_ at h;split at h
 ·split at h
  ·split at h
   ·split at h
    ·unfold tW at h;grind
    ·split at h
     ·rename_i M;cases h;unfold tW at M;grind
     ·exact cY h aC
    ·unfold Gb at h;grind
    ·split at h
     ·exact cY h aC
     grind
   ·split at h
    ·rename_i M;cases h;exact zJ M aC
    ·split at h
     ·rename_i M;cases h;unfold Gd tW at M;grind
     ·unfold Ge at h;grind
   grind
  grind
 ·unfold Gf at h;grind
 ·unfold Gh at h;grind
 ·unfold Gi at h;grind
 ·unfold CN at h;grind
 grind
theorem vq{x:Operand}{t:Nat}(h:h' x=some t):x=.tmp t:=by
 cases x<;>simp[h']at h;rw[h]
theorem TI{o gB kQ kf:Oper}{d1 d2:Nat}(h:zN o gB kQ=some (kf,d1,d2)):∃ ty m x y,o.op=.mapEntry ty m x/\o.dst=some d1/\gB.op=.extract (.tmp d1) 1/\gB.dst=some d2/\kQ.op=.entryStore ty m (.tmp d2) y/\kQ.dst=none/\
  kf.op=.mapUpdate ty m x y/\kf.dst=none/\m≠.tmp d1/\m≠.tmp d2/\y≠.tmp d1/\y≠.tmp d2/\o.guard=none/\gB.guard=none/\kQ.guard=none:=by
 unfold zN at h;split at h
 ·rename_i ty m x ag;split at h
  ·rename_i e xG;split at h
   ·rename_i mM dx a1 y axx;split at h
    ·rename_i adN Kq Mi C9 TJ;split at h
     ·rename_i hc;simp only[Option.some.injEq,Prod.mk.injEq]at h;obtain⟨rfl,rfl,rfl⟩:=h;obtain⟨bF,c2,rfl,c4,c5,lK,oq,w2,c9,GF,agw,c12,agx⟩:=hc;obtain⟨oD,uc⟩:=Option.isSome_iff_exists.1 c4;have fj:=vq uc;have hm:=vq (c5.symm.trans uc);have ay:=vq bF;have aN:=vq c2;subst ay;subst aN;refine⟨mM,m,x,y,ag,Mi,xG,C9,?_,TJ,rfl,TJ,λe=>oq (by grind),λe=>w2 (by grind),λe=>c9 (by grind),λe=>GF (by grind),Option.isNone_iff_eq_none.1 agw,Option.isNone_iff_eq_none.1 c12,Option.isNone_iff_eq_none.1 agx⟩;grind
     grind
    grind
   grind
  grind
 grind
theorem Mj{β:Type}(aV:dS C.P T)(cv:jm C.P bg)(cT:lV C.P C.aO Ψ)(aw:∀ o∈ops.toList,lf o C.nt=true){k:aB->A β}{O:β->Prop}
  (an:∀ s' a' w',cr C s' a' w'->A.cw (k s') O->Q .normal a' w'):∀ (os:List Oper) (n:Nat) (tg:pj) (s:aB) (a:Act) (w:World),ops.toList.drop n=os->qi ops s tg->cr C s a w->A.cw (mm C.aO T bg Ψ ops os tg s k) O->
   wpOpsIn (dR C.r) 0 C.P ops Q (List.range' n os.length) a w:=by
 intro os;generalize hlen:os.length=len;induction len using Nat.strongRecOn generalizing os with
 | _ len TK=>
 subst hlen;cases os with
 | nil=>
  intro n tg s a w _ _ M hm;exact an s a w M hm
 | cons o os=>
  have aJ:=TK os.length (by simp) os rfl;intro n tg s a w aA xH M hm;have cc:n<ops.toList.length:=by
   grind
  rw[List.drop_eq_getElem_cons cc]at aA;injection aA with qb h0
  have eU:ops[n]?=some o:=by
   grind
  have jN:o∈ops.toList:=qb ▸ List.getElem_mem cc;have xI:=aw o jN;have bh:∀ i,o.dst=some i->i<C.nt:=λi G=>by
   have:=xI;simp only[lf,Bool.and_eq_true]at this;grind
  simp only[List.length_cons,List.range'_succ,wpOpsIn,eU];obtain⟨κ,F,eX⟩:=M;unfold mm at hm;split at hm
  ·rename_i kf d1 d2 sw;cases os with
   | nil=>exact hm.1.elim
   | cons gB os=>
    cases os with
    | nil=>exact hm.1.elim
    | cons kQ os=>
     simp only at hm;split at hm
     ·rename_i res gm;obtain⟨ty,m,x,y,f1,f2,f3,f4,f5,f6,f7,f8,f9,f10,f11,f12,g1,et,g3⟩:=TI sw;have TL:=h0;have Ch:n+1<ops.toList.length:=by
       grind
      rw[List.drop_eq_getElem_cons Ch]at TL;injection TL with agy TM
      have agz:n+2<ops.toList.length:=by
       grind
      rw[List.drop_eq_getElem_cons agz]at TM;injection TM with axy agA
      have agB:ops[n+1]?=some gB:=by
       grind
      have axz:ops[n+2]?=some kQ:=by
       grind
      have C9:d2<C.nt:=by
       have:=aw gB (agy ▸ List.getElem_mem Ch);simp only[lf,Bool.and_eq_true]at this;grind
      rw[A.kI,A.kI]at hm;have cn:Region.wanted o (yielded ops a.tmps)=true:=by unfold Region.wanted;rw[g1]
      have da:∀ a':Act,Region.wanted gB (yielded ops a'.tmps)=true:=λa'=>by unfold Region.wanted;rw[et]
      have eY:∀ a':Act,Region.wanted kQ (yielded ops a'.tmps)=true:=λa'=>by unfold Region.wanted;rw[g3]
      have:=agb (Q:=Q) (K:=λa' w'=>wpOpsIn (dR C.r) 0 C.P ops Q (List.range' (n+3) os.length) a' w') aV f1 f2 f3 f4 f5 f6 f7 f8 f9 f10 f11 f12 (bh d1 f2) C9 gm eX hm.1 hm.2.1
       λa' w' bc=>TK os.length (by grind) os rfl (n+3) [] _ a' w' agA (λp ao=>by cases ao) bc hm.2.2
      rw[cn];simp only[if_true];refine Oper.wpIn_mono (λb9 axA E=>?_) this;simp only[List.length_cons,List.range'_succ,wpOpsIn,agB,da,if_true];grind
     ·exact hm.1.elim
  split at hm
  ·exact hm.1.elim
  ·rename_i aC;have axB:o.guard=none:=by
    cases h:o.guard with
    | none=>rfl
    | some p=>
     rw[h]at aC;simp only[kt]at aC;grind
   rw[Mf eX aC];simp only[Option.getD_none,if_true];split at hm
   ·rename_i res gm;rw[sv λaa=>(GL xH (gk:=none) (λk an=>by cases an) aa).run s.ab res gm,sv λaa=>(zB aa).run s.ab res gm]at hm;refine Oper.wpIn_mono (λa' w' bc=>aJ (n+1) _ _ a' w' h0 (xH.hl (λi G=>?_) λd k _ an=>by grind) bc hm.2.2) (xe aV cv xI gm a w κ F Q eX hm.1 hm.2.1);unfold aB.h8;rw[aB.C8 G,aB.zE]
   ·split at hm
    ·rename_i bU oC;obtain⟨jJ,p9,mj⟩:=Me aV cv cT bh oC;rw[sv λaa=>mj (KY aa),A.fX]at hm;exact jJ a w Q _ ⟨κ,F,eX⟩ hm.1 (hm.2.mono λy aS a' w' bc=>aJ (n+1) _ _ a' w' h0 (λp ao=>by cases ao) bc aS)
    ·exact hm.1.elim
  ·rename_i g aC;have GM:∀ k,o.guard=some k->g=true->kt s.ax ops (some k)=some (some true):=λk an aK=>by grind
   rw[Mf eX aC];simp only[Option.getD_some];split at hm
   ·rename_i b7 c agC agD gm;split at hm
    ·rename_i hE e9 xJ;obtain⟨agE,agF⟩:=agp xJ gm;rw[sv λaa=>by
      simp only[Bool.and_eq_true]at aa;exact λGN=>⟨(GL xH (λk an=>GM k an GN) aa.1).run s.ab _ gm,(zB aa.2.1).run s.ab _ gm,agu xH (λk an=>GM k an GN) xJ gm aa.2.2⟩]at hm
     have C_:qi ops ((s.fY hE).set o.dst (.hC g (use e9).2)) (xp ops tg o):=xH.hl (λi G=>by rw[aB.C8 G,aB.zE]) λd k aw an=>⟨g,(use e9).2,by rw[aw,aB.Mh],by grind⟩
     cases g with
     | true=>
      simp only[if_true];obtain⟨E,U,ah⟩:=hm.1 rfl;refine Oper.wpIn_mono (λa' w' bc=>aJ (n+1) _ _ a' w' h0 C_ (cr.LP (av':=.hC true (use e9).2) (agE a' w' bc) bh λκ F v af=>⟨λ_=>o8 af ah,λh=>(by cases h)⟩) hm.2) (xe aV cv xI gm a w κ F Q eX E U)
     | false=>
      simp only[Bool.false_eq_true,if_false];refine⟨λ_ _=>trivial,aJ (n+1) _ _ _ w h0 C_ ?_ hm.2⟩;obtain⟨κ',F',agG⟩:=agF a w κ F eX;exact⟨κ',F',agG.set (av:=.hC false (use e9).2) bh ⟨λh=>(by cases h),λ_=>rfl⟩⟩
    ·cases g with
     | true=>
      simp only[if_true]at hm ⊢;rw[A.kI,A.kI]at hm;exact Oper.wpIn_mono (λa' w' bc=>aJ (n+1) _ _ a' w' h0 (λp ao=>by cases ao) bc hm.2.2) (xe aV cv xI gm a w κ F Q eX hm.1 hm.2.1)
     | false=>
      simp only[Bool.false_eq_true,if_false]at hm ⊢;exact⟨λ_ _=>trivial,aJ (n+1) _ _ _ w h0 (λp ao=>by cases ao) ⟨κ,F,eX.set (av:=.hC false (SZ agD (use agC).2)) bh ⟨λh=>(by cases h),λ_=>rfl⟩⟩ hm⟩
   ·split at hm
    ·rename_i bU oC;obtain⟨jJ,p9,mj⟩:=Me aV cv cT bh oC;split at hm
     ·rename_i gs oB;obtain⟨du,dF⟩:=p9 gs oB;rw[sv λaa GN=>mj (TG xH (λk an=>GM k an GN) aa),A.fX]at hm;have C_:∀ y,qi ops (gs g y) (xp ops tg o):=λy=>by
       obtain⟨v,af⟩:=agv oC oB g y;exact xH.hl (λi G=>by rw[af,aB.C8 G]) λd k aw an=>⟨g,v,by rw[af,aw,aB.Mh],by grind⟩
      cases g with
      | true=>
       simp only[if_true];exact jJ a w Q _ ⟨κ,F,eX⟩ (hm.1 rfl) (hm.2.mono λy aS a' w' bc=>aJ (n+1) _ _ a' w' h0 (C_ y) (du y a' w' bc) aS)
      | false=>
       simp only[Bool.false_eq_true,if_false];exact⟨λ_ _=>trivial,aJ (n+1) _ _ _ w h0 (C_ bU.d) (dF a w ⟨κ,F,eX⟩) (by
        have h:=hm.2;simp only[ck,Bool.false_eq_true,if_false]at h;exact h.2 bU.d rfl)⟩
     ·cases g with
      | true=>
       simp only[if_true]at hm ⊢;rw[A.kI,A.fX]at hm;exact jJ a w Q _ ⟨κ,F,eX⟩ hm.1 (hm.2.mono λy aS a' w' bc=>aJ (n+1) _ _ a' w' h0 (λp ao=>by cases ao) bc aS)
      | false=>
       simp only[Bool.false_eq_true,if_false]at hm ⊢;exact⟨λ_ _=>trivial,aJ (n+1) _ _ _ w h0 (λp ao=>by cases ao) ⟨κ,F,eX.set (av:=.hC false (use ((bU.st bU.d).ax (o.dst.getD 0))).2) bh ⟨λh=>(by cases h),λ_=>rfl⟩⟩ hm⟩
    ·exact hm.1.elim
end
end Go.Fer
namespace Go.Fer
open Go.RowKit
section
variable {C:b_} {T:Nat->ad} {bg:Nat->Option aP} {s:aB} {res:eC}
theorem agH{P:Program}:∀ (t:ad),t.kM=true->∀ {F F':Nat->Prop} {w w':World} {cs:List Value} {x:t.aj},bJ P t F w cs x->bJ P t F' w' cs x:=by
 intro t;induction t with
 | bool=>intro _ F F' w w' cs x h;exact h
 | int k=>intro _ F F' w w' cs x h;exact h
 | str=>intro _ F F' w w' cs x h;exact h
 | cV=>intro hc;cases hc
 | st t aJ=>intro hc F F' w w' cs x h;simp only[bJ]at h ⊢;exact aJ hc h
 | az a b fy eL=>
  intro hc F F' w w' cs x h;simp only[ad.kM,Bool.and_eq_true]at hc;simp only[bJ]at h ⊢;grind
 | slice e aJ=>intro hc;cases hc
 | array n e aJ=>intro hc;cases hc
 | bH e aJ=>intro hc;cases hc
 | map k v wL wM=>intro hc;cases hc
 | fn a b fy eL=>intro hc;cases hc
 | cu a aJ=>intro hc;cases hc
 | eo=>intro hc;cases hc
theorem TN{P:Program}{t:ad}(h:t.kM=true){F F':Nat->Prop}{w w':World}{v:Value}{x:t.aj}(af:ep P t F w v x):ep P t F' w' v x:=⟨af.1,agH t h af.2⟩
theorem GO(a:Act){i j:Nat}(h:i≠j)(v u:Value):(a.put (some i) v).put (some j) u=(a.put (some j) u).put (some i) v:=by
 simp only[Act.put];rw[Array.setIfInBounds_comm _ _ h]
theorem GP{P:Program}{ty ld zt:TypeId}(G:P.underlying ty=some (.map ld zt)){r:Nat}{ms:Array MapEntry}{clk:Nat}{w:World}(hw:w.heap[r]?=some (.map ms clk)){key u:Value}{f:Option (Nat×Value)}
  (eb:(Instr.checkKey ms.isEmpty 10000 ld key).run P w=.ok () w) (ar:(Instr.findKey ld key ms.toList).run P w=.ok f w) (hu:(∃ i,f=some (i,u))\/(f=none/\(zeroValue zt).run P w=.ok u w)) :
  (Instr.lookup ty (.map (some r)) key false).run P w=.ok u w:=by
 have eU:(getObj r).run P w=.ok (.map ms clk) w:=by simp[getObj,Sem.run,hw]
 rcases hu with⟨i,rfl⟩ | ⟨rfl,bk⟩
 ·simp only[Instr.lookup,Sem.run_bind,dC G,Result.andThen_ok,Sem.run_pure,eU,eb,ar];rfl
 ·simp only[Instr.lookup,Sem.run_bind,dC G,Result.andThen_ok,Sem.run_pure,eU,eb,ar,bk];rfl
theorem agI(aV:dS C.P T){gD hI kf:Oper}{ty:TypeId}{m x y:Operand}(hK:gD.op=.lookup ty m x false)(ka:hI.op=.mapEntry ty m x)(ia:kf.op=.mapUpdate ty m x y){dO:aB}(q1:dO.ab=s.ab)
  (po:a8 C.aO dO.ax m=a8 C.aO s.ax m) (FI:a8 C.aO dO.ax x=a8 C.aO s.ax x) (h:(bt C.aO T bg (a8 C.aO dO.ax) kf).run dO.ab=some res)
  {a:Act} {w:World} {κ:Nat->bD} {F:Nat->Prop} (M:bl C s a w κ F) (Mk:(use (a8 C.aO s.ax m)).1) (Ml:(use (a8 C.aO s.ax x)).1) :
  ∃ u n wE,∀ a':Act,a'.eval m=a.eval m->a'.eval x=a.eval x->
   (execOp a'.eval gD).run C.P w=.ok (.value u) w/\(execOp a'.eval gD).run C.P wE=.ok (.value u) wE/\(execOp a'.eval hI).run C.P w=.ok (.value (.tuple #[u,goInt n])) wE:=by
 simp only[bt,ia,qU,po,FI,q1]at h;split at h
 ·rename_i k v aK;obtain⟨ld,zt,G,mQ,hi⟩:=(aV.cb aK (by simp)).mp;obtain⟨inf,mn,i1,i2,i3,i4,i5,i6⟩:=kp hi.ko;split at h
  ·rename_i xE;split at h
   ·rename_i b g tN;simp only[aq.e6,Option.bind_eq_some_iff,aq.run_bind,aq.e5,aq.bL]at h;obtain⟨⟨dK,oj⟩,ai,⟨mR,om⟩,aS,h⟩:=h;split at h
    ·rename_i aC;obtain⟨aC,_⟩:=aC;split at h
     ·rename_i k' h5 es aa;simp only[Option.map_eq_some_iff]at h;obtain⟨Sl,o_,rfl⟩:=h;obtain⟨e,rfl⟩:=kK o_;cases e;have hm:bu C.P s.ab κ F w (use (a8 C.aO s.ax m)).2 (a.eval m):=cN M m rfl Mk;rw[tN]at hm;have kP:=hm.2 aC.symm (by rw[aa];rfl);have fi:k.kM=true/\k.j6<=100:=by simpa [tB]using xE
      have tO:=Ca M ai (cN M x rfl Ml);have GQ:∀ (F':Nat->Prop) w',ep C.P k F' w' (a.eval x) dK:=λF' w'=>TN fi.1 tO;have aU:=M.bE b;unfold cE at aU;rw[aa]at aU;obtain⟨ms,clk,hw,tP⟩:=aU;have eb:∀ em w',(Instr.checkKey em 10000 ld (a.eval x)).run C.P w'=.ok () w':=λem w'=>(Cu (em:=em) (F:=λ_=>True) k 10000 fi.1 (by omega)).1 mQ (GQ _ w');have TO:=tP.es;have TF:∀ (j:Nat) (e:MapEntry) (p:k.aj×v.aj),ms.toList[j]?=some e->es[j]?=some p->∀ (F':Nat->Prop) w',ep C.P k F' w' e.key p.1:=λj e p E U F' w'=>TN fi.1 (TO.2 j e p E U).1;obtain⟨f,du,dF⟩:=w_ (F:=λ_=>True) (w:=w) (β:=v.aj) (xs:=es) (es:=ms.toList) xE mQ (GQ _ w) TO.1 (λj e p E U=>TF j e p E U _ w);have eU:(getObj (κ b).ab).run C.P w=.ok (.map ms clk) w:=by simp[getObj,Sem.run,hw]
      obtain⟨hv,KK,FN,Sm⟩:=tP;have cc:(κ b).ab<w.heap.size:=(Array.getElem?_eq_some_iff.1 hw).1;have bk:∀ w',(zeroValue zt).run C.P w'=.ok mn w':=λw'=>qV i1 i4;have pq:∀ (a':Act) (w':World) (u:Value),a'.eval m=a.eval m->a'.eval x=a.eval x->(Instr.lookup ty (.map (some (κ b).ab)) (a.eval x) false).run C.P w'=.ok u w'->(execOp a'.eval gD).run C.P w'=.ok (.value u) w':=by
       intro a' w' u ay aN bc;simp only[execOp,hK,ay,aN,kP,Sem.run_bind,bc,Result.andThen_ok,Sem.run_pure]
      have agJ:∀ q:k.aj,gJ k dK q=true<->dK=q:=λq=>KG k fi.1 dK q;rcases dF with⟨rfl,eD⟩ | ⟨j,e,p,g1,et,g3,g4,rfl⟩
      ·let cn:World:={ w with heap:=w.heap.setIfInBounds (κ b).ab (.map (ms.push { key:=a.eval x,val:=mn,born:=clk }) (clk+1)) }
       have lR:cn.heap[(κ b).ab]?=some (.map (ms.push { key:=a.eval x,val:=mn,born:=clk }) (clk+1)):=by grind
       obtain⟨iB,cj,cK⟩:=w_ (F:=λ_=>True) (w:=cn) (β:=v.aj) (xs:=es++[(dK,v.dh)]) (es:=(ms.push { key:=a.eval x,val:=mn,born:=clk }).toList) xE mQ (GQ _ cn) (by grind) (λj e p E U=>by
        grind)
       have rk:∃ i,iB=some (i,mn):=by
        rcases cK with⟨_,eu⟩ | ⟨j,e,p,eI,dO,eJ,oE,rfl⟩
        ·have:=eu (dK,v.dh) (by simp);grind
        ·by_cases aG:j<es.length
         ·grind
         grind
       refine⟨mn,clk,cn,λa' ay aN=>⟨pq a' w mn ay aN (GP G hw (eb _ w) du (.inr ⟨rfl,bk w⟩)),pq a' cn mn ay aN (GP G lR (eb _ cn) cj (.inl rk)),?_⟩⟩;simp only[execOp,ka,ay,aN,kP,Instr.mapEntry,Sem.run_bind,dC G,Result.andThen_ok,eU,eb,du,bk,sd hw,Sem.run_pure];rfl
      ·have aG:j<es.length:=(List.getElem?_eq_some_iff.1 et).1;have xa:j<ms.size:=by omega
       have KM:ms[j]=e:=by
        grind
       obtain⟨jo,cn,t1,t2,t3⟩:=KI C.P w e.key (a.eval x);have lR:cn.heap[(κ b).ab]?=some (.map ms clk):=by rcases t3 with rfl | rfl<;>exact hw
       have TB:(κ b).ab<cn.heap.size:=(Array.getElem?_eq_some_iff.1 lR).1;have nN:((ms[j]?).map (·.key)).getD (a.eval x)=e.key:=by
        grind
       have Md:((ms[j]?).map (λx=>(x.born:Int))).getD 0=(ms[j].born:Int):=by grind
       rw[Nat.zero_add]at du;have aem:dK=p.1:=(agJ p.1).1 g3;let da:World:={ cn with heap:=cn.heap.setIfInBounds (κ b).ab (.map (ms.modify j λe=>{ e with key:=jo }) clk) }
       have gE:da.heap[(κ b).ab]?=some (.map (ms.modify j λe=>{ e with key:=jo }) clk):=by grind
       have u9:∀ (F':Nat->Prop) w',ep C.P k F' w' jo p.1:=λF' w'=>by
        grind
       have zo:∀ i,(ms.modify j λe=>{ e with key:=jo }).toList[i]?=if i=j then some { e with key:=jo } else ms.toList[i]?:=λi=>by
        grind
       obtain⟨iB,cj,cK⟩:=w_ (F:=λ_=>True) (w:=da) (β:=v.aj) (xs:=es) (es:=(ms.modify j λe=>{ e with key:=jo }).toList) xE mQ (GQ _ da) (by grind) (λi a1 p' E U=>by
        rw[zo]at E;grind)
       have rk:∃ i,iB=some (i,e.val):=by
        rcases cK with⟨_,eu⟩ | ⟨i,a1,p',eI,dO,eJ,oE,rfl⟩
        ·have:=eu p (List.mem_of_getElem? et);rw[g3]at this;cases this
        ·have zu:i=j:=by
          rcases Nat.lt_trichotomy i j with h | h | h
          ·have:=g4 i p' h dO;rw[eJ]at this;cases this
          ·exact h
          ·have:=oE j p h et;rw[g3]at this;cases this
         subst zu;rw[zo,if_pos rfl]at eI;cases eI;exact⟨_,rfl⟩
       refine⟨e.val,ms[j].born,da,λa' ay aN=>⟨pq a' w e.val ay aN (GP G hw (eb _ w) du (.inl ⟨_,rfl⟩)),pq a' da e.val ay aN (GP G gE (eb _ da) cj (.inl rk)),?_⟩⟩;simp only[execOp,ka,ay,aN,kP,Instr.mapEntry,Sem.run_bind,dC G,Result.andThen_ok,eU,eb,du];rw[nN,t1];simp only[Result.andThen_ok,sd lR,Sem.run_pure,Md];rfl
     grind
    grind
   ·cases h
  ·cases h
 ·cases h
end
end Go.Fer
namespace Go.Fer
open Go.RowKit
section
variable {C:b_} {T:Nat->ad} {bg:Nat->Option aP} {Ψ:Nat->Option eV} {s:aB} {o:Oper} {Q:Exit->Act->World->Prop} {ops:Array Oper}
theorem A.agK{al:Type}{m:A al}(h:m.zI){d x:al}(ai:m.bQ x):x=m.val d:=by
 unfold A.val;have he:∃ x,m.bQ x:=⟨x,ai⟩
 rw[dif_pos he];exact h _ _ ai he.choose_spec
theorem TP(cv:jm C.P bg)(cT:lV C.P C.aO Ψ):jm C.P (Ga bg Ψ):=by
 intro k c h;have aD:∀ cY:hk,gU C.P k cY.ts cY.aR cY.sh/\(cY.dI=true->∀ x,(cY.sh x).zI)->(match cY.dI&&!k8 cY.aR with | true=>some cY.zJ | false=>none)=some c->(k8 c.aR=false->gU C.P k c.ts c.aR c.sh)/\(k8 c.aR=true->zp C.P k c):=λcY q de=>by
  clear h;split at de
  ·rename_i aw;cases de;simp only[Bool.and_eq_true,Bool.not_eq_true']at aw;exact⟨λ_=>q.1.y4 λx aD=>⟨aD,λy aS=>A.agK (q.2 aw.1 x) aS⟩,λhe=>by rw[show k8 cY.zJ.aR=k8 cY.aR from rfl,aw.2]at he;cases he⟩
  ·cases de
 unfold Ga at h;split at h
 ·rename_i cY C5;exact aD cY (cT k _ C5) h
 ·rename_i c' hc;cases h;have h:k8 c.aR=true/\zp C.P k c:=cT k _ hc;exact⟨λhe=>(by rw[h.1]at he;cases he),λ_=>h.2⟩
 ·rename_i cY b C5;have de:(_/\_)/\cO C.P C.aO k b:=cT k _ C5;exact aD cY de.1 h
 ·cases h
 ·exact cv k c h
theorem TQ{β:Type}{m:A β}{O:β->Prop}:∀ (l:List Prop),A.cw (CP l m) O->(∀ p∈l,p)/\A.cw m O:=by
 intro l;induction l with
 | nil=>intro h;exact⟨λp ao=>(by cases ao),h⟩
 | cons p l aJ=>
  intro h;simp only[CP]at h;rw[A.kI]at h;grind
theorem TR{du dF:Bool}{b7 c:Prop}(E:du=true->b7)(U:dF=true->c)(h:∀ p∈CB du dF b7 c,p):b7/\c:=by
 unfold CB at h;constructor
 ·cases du with
  | true=>grind
  | false=>simp_all
 ·cases dF with
  | true=>grind
  | false=>simp_all
theorem TS(aV:dS C.P T)(cv:jm C.P bg)(aw:lf o C.nt=true){r:eO}(h:vh C.aO T bg ops s o=some r)(hc:∀ p∈r.cs,p){a:Act}{w:World}(M:cr C s a w){K:Act->World->Prop}
  (iH:∀ a' w',cr C (r.h9 s) a' w'->K a' w') :
  if Region.wanted o (yielded ops a.tmps) then o.wpIn (dR C.r) 0 C.P a w K Q else (∀ f,o.about C.P w a.eval=some f->(dR C.r).fn f)/\K (a.put o.dst undef) w:=by
 have bh:∀ i,o.dst=some i->i<C.nt:=λi G=>by
  have:=aw;simp only[lf,Bool.and_eq_true]at this;grind
 obtain⟨κ,F,eX⟩:=M;unfold vh at h;split at h
 ·cases h
 ·rename_i g aC;rw[Mf eX aC];split at h
  ·cases h
  ·rename_i res gm;split at h
   ·cases h;simp only[Option.getD_none,if_true];obtain⟨E,U⟩:=TR (λaa=>(SD aa).run s.ab res gm) (λaa=>(zB aa).run s.ab res gm) hc;exact Oper.wpIn_mono iH (xe aV cv aw gm a w κ F Q eX E U)
   ·rename_i b;split at h
    ·rename_i xJ;cases h;have hc:∀ p∈CB (sf (a8 C.aO s.ax) o&&(mV (a8 C.aO s.ax) o&&!res.e9.zA)) true (b=true->res.b7/\(res.c/\(use res.e9).1)) True,p:=hc;obtain⟨E,_⟩:=TR (λaa=>by
      simp only[Bool.and_eq_true,Bool.not_eq_true']at aa;exact λ_=>⟨(SD aa.1).run s.ab _ gm,(zB aa.2.1).run s.ab _ gm,FV aa.2.2⟩) (λ_=>trivial) hc
     obtain⟨b7,c,e9,hE⟩:=res;simp only at xJ;subst xJ;cases b with
     | true=>
      simp only[Option.getD_some,if_true];obtain⟨E,U,ah⟩:=E rfl;refine Oper.wpIn_mono (λa' w' bc=>iH a' w' ?_) (xe aV cv aw gm a w κ F Q eX E U);exact cr.LP (av':=.hC true (use e9).2) bc bh λκ F v af=>⟨λ_=>o8 af ah,λh=>(by cases h)⟩
     | false=>
      simp only[Option.getD_some,Bool.false_eq_true,if_false];exact⟨λ_ _=>trivial,iH _ _ ⟨κ,F,eX.set (av:=.hC false (use e9).2) bh ⟨λh=>(by cases h),λ_=>rfl⟩⟩⟩
    grind
theorem TT(cl:List (List Nat)):∀ n,zP cl n<=n/\∀ j,zP cl n<=j->j<n->∀ i,i<j->i∈cl.getD j []
 | 0=>⟨Nat.le_refl _,λj _ h=>by omega⟩
 | n+1=>by
  unfold zP;split
  ·rename_i h;obtain⟨E,U⟩:=TT cl n;refine⟨by omega,λj aG Mm i G=>?_⟩;by_cases e:j=n
   ·simp_all
   grind
  grind
theorem agL{n:Nat}(rl:CE ops.toList=true)(agM:∀ j,n<=j->j<ops.size->∀ i,i<j->i∈(ik ops.toList).getD j []):∀ (k j cg:Nat) (listed:Array Bool) (a:Act) (w:World),n<=j->j+k=ops.size->listed.size=ops.size->
  (∀ i,listed.getD i false=decide (i<j))->k<=cg->wpOpsIn (dR C.r) 0 C.P ops Q (List.range' j k) a w->wpAnyIn (dR C.r) 0 C.P .any ops Q cg listed a w:=by
 intro k;induction k with
 | zero=>
  intro j cg listed a w agN agO cd ak ar h;have M:∀ i,i ∉ Region.ready .any ops listed:=λi G=>by
   rw[mem_ready]at G;grind
  have iI:Region.ready .any ops listed=[]:=List.eq_nil_iff_forall_not_mem.2 M;cases cg with
  | zero=>exact⟨iI,h⟩
  | succ cg=>exact⟨λ_=>h,λi G=>absurd G (M i)⟩
 | succ k aJ=>
  intro j cg listed a w agN agO cd ak ar h;have aG:j<ops.size:=by omega
  cases cg with
  | zero=>omega
  | succ cg=>
   have qj:∀ q o,ops[q]?=some o->listed.getD q false=true->∀ i∈h_ o,listed.getD i false=true:=λq o ag bq i G=>by
    rw[ak]at bq ⊢;have bq:q<j:=by grind
    have:=List.all_eq_true.1 rl q (by grind);grind
   have agP:∀ i,i∈Region.ready .any ops listed<->i=j:=λi=>by
    constructor
    ·intro G;rw[mem_ready]at G;obtain⟨aX,o,ag,GR⟩:=G;have jl:i<ops.size:=(Array.getElem?_eq_some_iff.1 ag).1;have C':listed.getD i false=false:=by
      grind
     rw[ak]at C';have FQ:j<=i:=by grind
     by_cases e:i=j
     ·exact e
     ·exfalso;have sx:∀ k∈h_ o,listed.getD k false=true:=by
       intro k an;obtain⟨e,he,vr⟩:=List.mem_filterMap.1 an;grind
      have Da:∀ k∈(ik ops.toList).getD i [],listed.getD k false=true\/k=i:=by
       intro k an;refine xj (p:=λj=>listed.getD j false=true\/j=i) ops.toList [] (λj i G=>by grind) (λj hU kd k an aG=>?_) i k an (.inr rfl);have lk:ops[j]?=some hU:=by grind
       rcases (by simp_all:listed.getD j false=true\/j=i) with aG | aG
       ·exact .inl (qj j hU lk aG k an)
       ·subst aG;rw[ag]at lk;cases lk;exact .inl (sx k an)
      grind
    ·rintro rfl;rw[mem_ready];refine⟨?_,ops[i],by simp,λe he aa=>?_⟩
     ·grind
     ·have jl:e.on∈h_ ops[i]:=List.mem_filterMap.2 ⟨e,by grind,by grind⟩;have:=List.all_eq_true.1 rl i (by grind);grind
   refine⟨λM=>?_,λi G=>?_⟩
   ·simp_all
   ·obtain rfl:=(agP i).1 G;have eU:ops[i]?=some ops[i]:=by simp
    rw[List.range'_succ]at h;simp only[wpOpsIn,eU]at h;have next:∀ a w,wpOpsIn (dR C.r) 0 C.P ops Q (List.range' (i+1) k) a w->wpAnyIn (dR C.r) 0 C.P .any ops Q cg (listed.setIfInBounds i true) a w:=λa w c7=>by
     refine aJ (i+1) cg _ a w (by omega) (by omega) (by grind) (λq=>?_) (by omega) c7;by_cases e:q=i
     ·simp_all
     ·rw[getD_set_ne false (Ne.symm e),ak,decide_eq_decide];omega
    unfold wpOpIn;rw[eU];simp only;split
    ·rename_i hw;rw[if_pos hw]at h;exact Oper.wpIn_mono next h
    grind
theorem agQ(aV:dS C.P T)(cv:jm C.P bg)(aw:∀ o∈ops.toList,lf o C.nt=true){l:List eO}{s':aB}(aD:xf C.aO T bg ops ops.toList s=some (l,s'))(cC:zD ops.toList l=true)
  (hc:∀ r∈l,∀ p∈r.cs,p) (ud:∀ a' w',cr C s' a' w'->Q .normal a' w'):∀ (cg:Nat) (listed:Array Bool) (a:Act) (w:World),listed.size=ops.size->
   (∀ j o,ops[j]?=some o->listed.getD j false=true->∀ i∈h_ o,listed.getD i false=true)->((List.range ops.size).filter λj=>!listed.getD j false).length<=cg->
   cr C (js l s λj=>listed.getD j false) a w->wpAnyIn (dR C.r) 0 C.P .any ops Q cg listed a w:=by
 obtain⟨hlen,r9,Db⟩:=SK _ _ aD;simp only[zD,Bool.and_eq_true]at cC;obtain⟨rl,Mn⟩:=cC;have agR:∀ j o,ops[j]?=some o->∀ i∈h_ o,i<j:=by
  intro j o ag i G;have aG:j<ops.toList.length:=by
   grind
  have:=List.all_eq_true.1 rl j (by grind);grind
 have agS:∀ i j x y,i<j->l[i]?=some x->l[j]?=some y->((ik ops.toList).getD j []).contains i=true\/x.apart y=true:=by
  intro i j x y zu G aG;have z6:j<l.length:=(List.getElem?_eq_some_iff.1 aG).1;have:=List.all_eq_true.1 Mn j (by grind);grind
 have Dc:∀ listed:Array Bool,listed.size=ops.size->Region.ready .any ops listed=[]->∀ j,j<ops.size->listed.getD j false=true:=by
  intro listed cd M j;induction j using Nat.strongRecOn with
  | _ j aJ=>
   intro aG;cases ak:listed.getD j false with
   | true=>rfl
   | false=>
    exfalso;have jN:j∈Region.ready .any ops listed:=by
     rw[mem_ready];refine⟨?_,ops[j],by simp,λe he aa=>?_⟩
     ·grind
     ·have jl:e.on∈h_ ops[j]:=List.mem_filterMap.2 ⟨e,by grind,by grind⟩;grind
    grind
 have nW:∀ (listed:Array Bool) (a:Act) (w:World),listed.size=ops.size->Region.ready .any ops listed=[]->cr C (js l s λj=>listed.getD j false) a w->Q .normal a w:=by
  intro listed a w cd M j';have fG:=Dc listed cd M;refine ud a w ?_;have:js l s (λj=>listed.getD j false)=s':=by
   rw[r9];unfold js;rw[List.filter_eq_self.2 λp ao=>?_,CF];obtain⟨_,U⟩:=zF ao;grind
  grind
 intro cg;induction cg with
 | zero=>
  intro listed a w cd _ Mo j';have M:Region.ready .any ops listed=[]:=by
   cases M:Region.ready .any ops listed with
   | nil=>rfl
   | cons j axC=>
    exfalso;have jN:j∈Region.ready .any ops listed:=by grind
    rw[mem_ready]at jN;obtain⟨aX,o,ag,_⟩:=jN;have aG:=(Array.getElem?_eq_some_iff.1 ag).1;have:j∈(List.range ops.size).filter λj=>!listed.getD j false:=by
     grind
    grind
  exact⟨M,nW listed a w cd M j'⟩
 | succ cg aJ=>
  intro listed a w cd qj Mo j';refine⟨λM=>nW listed a w cd M j',λi G=>?_⟩;rw[mem_ready]at G;obtain⟨aX,o,ag,GR⟩:=G;have jl:i<ops.size:=(Array.getElem?_eq_some_iff.1 ag).1;have C':listed.getD i false=false:=by
   grind
  have jN:o∈ops.toList:=by
   grind
  have sx:∀ k∈h_ o,listed.getD k false=true:=by
   intro k an;obtain⟨e,he,vr⟩:=List.mem_filterMap.1 an;grind
  obtain⟨r,M,gq⟩:=Db i o (by grind);have agT:∀ j k,k∈(ik ops.toList).getD j []->listed.getD j false=true->listed.getD k false=true:=by
   refine xj (p:=λj=>listed.getD j false=true) ops.toList [] (λj i G=>by grind) λj hU kd k an aG=>?_;exact qj j hU (by grind) (by simpa using aG) k an
  have Da:∀ k∈(ik ops.toList).getD i [],listed.getD k false=true\/k=i:=by
   intro k an;refine xj (p:=λj=>listed.getD j false=true\/j=i) ops.toList [] (λj i G=>by grind) (λj hU kd k an aG=>?_) i k an (.inr rfl);have lk:ops[j]?=some hU:=by grind
   rcases (by simpa using aG:listed.getD j false=true\/j=i) with aG | aG
   ·exact .inl (qj j hU lk aG k an)
   ·subst aG;rw[ag]at lk;cases lk;exact .inl (sx k an)
  have gH:∀ j x,j<i->l[j]?=some x->listed.getD j false=false->x.apart r=true:=by
   grind
  have tV:∀ j x,i<j->l[j]?=some x->listed.getD j false=true->r.apart x=true:=by
   grind
  obtain⟨aW,aY,bO⟩:=SH (s:=s) (f:=λj=>listed.getD j false) M C' gH tV;have Mp:=SL gq aW aY;unfold wpOpIn;rw[ag];refine TS aV cv (aw o jN) Mp (hc r (List.mem_of_getElem? M)) j' λa' w' bc=>?_;have eU:∀ j,(listed.setIfInBounds i true).getD j false=if j=i then true else listed.getD j false:=by
   intro j;by_cases e:j=i
   ·subst e;rw[if_pos rfl,Array.getD_eq_getD_getElem?,Array.getElem?_setIfInBounds_self_of_lt (by omega)];rfl
   ·rw[if_neg e,getD_set_ne false (Ne.symm e)]
  refine aJ _ a' w' (by grind) (λj hU kd aG k an=>?_) ?_ ?_
  ·rw[eU]at aG ⊢;split
   ·rfl
   ·split at aG
    ·rename_i e;subst e;rw[ag]at kd;cases kd;exact sx k an
    ·exact qj j hU kd aG k an
  ·have cc:((List.range ops.size).filter λj=>!(listed.setIfInBounds i true).getD j false).length<((List.range ops.size).filter λj=>!listed.getD j false).length:=by
    have ay:(List.range ops.size).filter (λj=>!(listed.setIfInBounds i true).getD j false)=((List.range ops.size).filter λj=>!listed.getD j false).filter λj=>decide (j≠i):=by
     rw[List.filter_filter];apply List.filter_congr;intro j _;rw[eU];simp
    rw[ay];have Mq:i∈(List.range ops.size).filter λj=>!listed.getD j false:=by
     grind
    exact List.length_filter_lt_length_iff_exists.2 ⟨i,Mq,by simp⟩
   omega
  ·have:js l s (λj=>(listed.setIfInBounds i true).getD j false)=r.h9 (js l s λj=>listed.getD j false):=by
    rw[<-bO];congr 1;funext j;grind
   grind
def GS(n:Nat)(l b e x:Bool)(listed:Array Bool):Prop:=∀ i,listed.getD i false=(decide (i<n)||(l&&decide (i=n))||(b&&decide (i=n+1))||(e&&decide (i=n+2))||(x&&decide (i=n+3)))
def mq(a:Act)(ef fJ d1 d2:Nat)(u vB vE vX:Value)(l b e x:Bool):Act:=
 let b9:=if l=true then a.put (some ef) u else a
 let a2:=if b=true then b9.put (some fJ) vB else b9
 let a3:=if e=true then a2.put (some d1) vE else a2
 if x=true then a3.put (some d2) vX else a3
theorem agU(a:Act)(d:Option Nat)(v:Value):(a.put d v).tmps.size=a.tmps.size:=by cases d<;>simp[Act.put]
theorem agV(a:Act)(ef fJ d1 d2:Nat)(u vB vE vX:Value)(l b e x:Bool):(mq a ef fJ d1 d2 u vB vE vX l b e x).tmps.size=a.tmps.size:=by
 unfold mq;cases l<;>cases b<;>cases e<;>cases x<;>simp[agU]
theorem TU{a:Act}{ef fJ d1 d2:Nat}{u vB vE vX:Value}{l b e x:Bool}{y:Operand}(E:y≠.tmp ef)(U:y≠.tmp fJ)(ah:y≠.tmp d1)(aZ:y≠.tmp d2):(mq a ef fJ d1 d2 u vB vE vX l b e x).eval y=a.eval y:=by
 unfold mq;cases l<;>cases b<;>cases e<;>cases x<;>simp[zZ,E,U,ah,aZ]
theorem Dd{o:Oper}{a:Act}{w w':World}{K:Act->World->Prop}{v:Value}(aw:∀ c,o.op≠.defer c)(h:(execOp a.eval o).run C.P w=.ok (.value v) w')(an:o.wpIn (dR C.r) 0 C.P a w K Q):K (a.put o.dst v) w':=by
 have:=an.2;rw[zc aw,h]at this;exact this
theorem agW{n:Nat}(TV:ops.size=n+5)(rl:CE ops.toList=true){gD il hI iE lT:Oper}(xK:ops[n]?=some gD)(vs:ops[n+1]?=some il)(z7:ops[n+2]?=some hI)(De:ops[n+3]?=some iE)(Df:ops[n+4]?=some lT)
  (Dg:gD.guard=none) (Dh:il.guard=none) (GU:hI.guard=none) (GV:iE.guard=none) (GW:lT.guard=none) (Di:∀ c,gD.op≠.defer c) (GX:∀ c,il.op≠.defer c) (GY:∀ c,hI.op≠.defer c) (GZ:∀ c,iE.op≠.defer c)
  (gH:∀ q,q<5->∀ i,i<n->i∈(ik ops.toList).getD (n+q) []) (Mr:n∈(ik ops.toList).getD (n+1) []) (TW:n+2∈(ik ops.toList).getD (n+3) []) (z8:∀ q,q<4->n+q∈(ik ops.toList).getD (n+4) [])
  (TX:∀ i∈h_ hI,i<n) (TY:∀ i∈h_ iE,i<n\/i=n+2)
  {ef fJ d1 d2:Nat} (sy:gD.dst=some ef) (dk:il.dst=some fJ) (Dj:hI.dst=some d1) (G0:iE.dst=some d2) (_n1:ef≠fJ) (eh:ef≠d1) (jI:ef≠d2) (n4:fJ≠d1) (Dk:fJ≠d2)
  {a:Act} {w wE:World} {u vB vE vX:Value}
  (TZ:∀ b e x,(execOp (mq a ef fJ d1 d2 u vB vE vX false b e x).eval gD).run C.P (if e=true then wE else w)=.ok (.value u) (if e=true then wE else w))
  (T0:∀ e x,(execOp (mq a ef fJ d1 d2 u vB vE vX true false e x).eval il).run C.P (if e=true then wE else w)=.ok (.value vB) (if e=true then wE else w))
  (T1:∀ l b x,(execOp (mq a ef fJ d1 d2 u vB vE vX l b false x).eval hI).run C.P w=.ok (.value vE) wE)
  (T2:∀ l b,(execOp (mq a ef fJ d1 d2 u vB vE vX l b true false).eval iE).run C.P wE=.ok (.value vX) wE)
  (h:wpOpsIn (dR C.r) 0 C.P ops Q (List.range' n 5) a w):∀ (cg:Nat) (listed:Array Bool),listed.size=ops.size->(∀ i,listed.getD i false=decide (i<n))->5<=cg->wpAnyIn (dR C.r) 0 C.P .any ops Q cg listed a w:=by
 let aL:=mq a ef fJ d1 d2 u vB vE vX;let au:=λe:Bool=>if e=true then wE else w
 have wt:∀ {o:Oper},o.guard=none->∀ a':Act,Region.wanted o (yielded ops a'.tmps)=true:=λh a'=>by unfold Region.wanted;rw[h]
 have G1:lT.wpIn (dR C.r) 0 C.P (aL true true true true) wE (λa' w'=>Q .normal a' w') Q:=by
  have dU:List.range' n 5=[n,n+1,n+2,n+3,n+4]:=rfl;rw[dU]at h;simp only[wpOpsIn,xK,vs,z7,De,Df,wt Dg,wt Dh,wt GU,wt GV,wt GW,if_true]at h;have E:=Dd (a:=aL false false false false) (w:=w) Di (TZ false false false) h;rw[sy]at E;have U:=Dd (a:=aL true false false false) (w:=w) GX (T0 false false) E;rw[dk]at U;have ah:=Dd (a:=aL true true false false) (w:=w) GY (T1 true true false) U;rw[Dj]at ah;have aZ:=Dd (a:=aL true true true false) (w:=wE) GZ (T2 true true) ah;rw[G0]at aZ;exact aZ
 have agX:∀ {l b e x:Bool} {listed:Array Bool},GS n l b e x listed->(b=true->l=true)->(x=true->e=true)->∀ q o,ops[q]?=some o->listed.getD q false=true->∀ i∈h_ o,listed.getD i false=true:=by
  intro l b e x listed bn aa ai q o ag bq i G;have agY:q<ops.size:=(Array.getElem?_eq_some_iff.1 ag).1;have axD:i<q:=by
   have:=List.all_eq_true.1 rl q (by grind);grind
  rw[bn]at bq ⊢;grind
 have axE:∀ {listed:Array Bool} {i:Nat},listed.size=ops.size->i<ops.size->(listed[i]?.getD true=false<->listed.getD i false=false):=by
  intro listed i cd G;rw[Array.getD_eq_getD_getElem?,Array.getElem?_eq_getElem (by omega)];rfl
 have agZ:∀ {l b e x:Bool} {listed:Array Bool},GS n l b e x listed->(b=true->l=true)->(x=true->e=true)->listed.size=ops.size->∀ i∈Region.ready .any ops listed,(i=n/\l=false)\/(i=n+1/\l=true/\b=false)\/(i=n+2/\e=false)\/(i=n+3/\e=true/\x=false)\/(i=n+4/\l=true/\b=true/\e=true/\x=true):=by
  intro l b e x listed bn aa ai cd i G;have qj:=agX bn aa ai;rw[mem_ready]at G;obtain⟨aX,o,ag,GR⟩:=G;have jl:i<ops.size:=(Array.getElem?_eq_some_iff.1 ag).1;have aX:listed.getD i false=false:=by
   grind
  have sx:∀ k∈h_ o,listed.getD k false=true:=by
   intro k an;obtain⟨e,he,vr⟩:=List.mem_filterMap.1 an;split at vr
   ·rename_i aa;cases vr;grind
   grind
  have Da:∀ k∈(ik ops.toList).getD i [],listed.getD k false=true\/k=i:=by
   intro k an;refine xj (p:=λj=>listed.getD j false=true\/j=i) ops.toList [] (λj i G=>by simp at G) (λj hU kd k an aG=>?_) i k an (.inr rfl);have lk:ops[j]?=some hU:=by grind
   rcases (by simpa using aG:listed.getD j false=true\/j=i) with aG | aG
   ·exact .inl (qj j hU lk aG k an)
   ·subst aG;rw[ag]at lk;cases lk;exact .inl (sx k an)
  rw[bn]at aX;simp only[Bool.or_eq_false_iff,Bool.and_eq_false_iff,decide_eq_false_iff_not]at aX;obtain⟨⟨⟨⟨hn,aW⟩,aY⟩,bO⟩,gC⟩:=aX;have FQ:n<=i:=by omega
  have ag0:i=n\/i=n+1\/i=n+2\/i=n+3\/i=n+4:=by omega
  have flag:∀ q,q<4->n+q∈(ik ops.toList).getD i []->n+q≠i->(if q=0 then l else if q=1 then b else if q=2 then e else x)=true:=by
   intro q bq hm eD;rcases Da _ hm with h | h
   ·rw[bn]at h;simp only[Bool.or_eq_true,Bool.and_eq_true,decide_eq_true_eq]at h;rcases h with (((h | ⟨E,h⟩) | ⟨E,h⟩) | ⟨E,h⟩) | ⟨E,h⟩
    ·omega
    ·grind
    ·have:q=1:=by omega
     subst this;exact E
    ·have:q=2:=by omega
     subst this;exact E
    ·have:q=3:=by omega
     subst this;exact E
   omega
  rcases ag0 with rfl | rfl | rfl | rfl | rfl
  ·grind
  ·exact .inr (.inl ⟨rfl,flag 0 (by omega) Mr (by omega),by grind⟩)
  ·grind
  ·grind
  ·exact .inr (.inr (.inr (.inr ⟨rfl,flag 0 (by omega) (z8 0 (by omega)) (by omega),flag 1 (by omega) (z8 1 (by omega)) (by omega),flag 2 (by omega) (z8 2 (by omega)) (by omega),flag 3 (by omega) (z8 3 (by omega)) (by omega)⟩)))
 have ag1:∀ {l b e x:Bool} {listed:Array Bool},GS n l b e x listed->(b=true->l=true)->(x=true->e=true)->listed.size=ops.size->Region.ready .any ops listed≠[]:=by
  intro l b e x listed bn aa ai cd vd;have mk:∀ i o,ops[i]?=some o->listed.getD i false=false->(∀ k∈h_ o,listed.getD k false=true)->False:=by
   intro i o ag aX aw;have jl:i<ops.size:=(Array.getElem?_eq_some_iff.1 ag).1;have:i∈Region.ready .any ops listed:=by
    rw[mem_ready];refine⟨?_,o,ag,λe he aa=>aw e.on (List.mem_filterMap.2 ⟨e,by grind,by grind⟩)⟩;grind
   grind
  have lt:∀ q o,ops[q]?=some o->∀ i∈h_ o,i<q:=by
   intro q o ag i G;have agY:q<ops.size:=(Array.getElem?_eq_some_iff.1 ag).1;have:=List.all_eq_true.1 rl q (by grind);rw[show ops.toList[q]?=some o by grind]at this;have:=List.all_eq_true.1 this i G;grind
  cases l with
  | false=>
   have pb:b=false:=by grind
   subst pb;exact mk n gD xK (by rw[bn];simp) λk an=>by rw[bn];grind
  | true=>
   cases b with
   | false=>exact mk (n+1) il vs (by rw[bn];simp) λk an=>by rw[bn];grind
   | true=>
    cases e with
    | false=>
     have Ms:x=false:=by grind
     subst Ms;exact mk (n+2) hI z7 (by rw[bn];simp) λk an=>by rw[bn];grind
    | true=>
     cases x with
     | false=>exact mk (n+3) iE De (by rw[bn];simp) λk an=>by rw[bn];grind
     | true=>exact mk (n+4) lT Df (by rw[bn];simp) λk an=>by rw[bn];grind
 have Dl:∀ {listed:Array Bool} (i:Nat),listed.size=ops.size->i<ops.size->∀ q,(listed.setIfInBounds i true).getD q false=(listed.getD q false||decide (q=i)):=by
  intro listed i cd G q;by_cases e:q=i
  ·grind
  grind
 let cf:=λ(l b e x:Bool)=>∀ (cg:Nat) (listed:Array Bool),GS n l b e x listed->listed.size=ops.size->5<=cg+(l.toNat+b.toNat+e.toNat+x.toNat)->wpAnyIn (dR C.r) 0 C.P .any ops Q cg listed (aL l b e x) (au e);have step:∀ l b e x,(b=true->l=true)->(x=true->e=true)->(l=false->cf true b e x)->(l=true->b=false->cf l true e x)->(e=false->cf l b true x)->(e=true->x=false->cf l b e true)->cf l b e x:=by
  intro l b e x aa ai eI dO eJ oE cg listed bn cd sw;have axF:l.toNat<=1/\b.toNat<=1/\e.toNat<=1/\x.toNat<=1:=⟨Bool.toNat_le l,Bool.toNat_le b,Bool.toNat_le e,Bool.toNat_le x⟩
  cases cg with
  | zero=>omega
  | succ cg=>
   refine⟨λM=>absurd M (ag1 bn aa ai cd),λi G=>?_⟩;rcases agZ bn aa ai cd i G with⟨rfl,E⟩ | ⟨rfl,E,U⟩ | ⟨rfl,E⟩ | ⟨rfl,E,U⟩ | ⟨rfl,E,U,ah,aZ⟩
   ·subst E;have pb:b=false:=by grind
    subst pb;unfold wpOpIn;simp only[xK,wt Dg,if_true];refine hx Di (TZ false e x) ?_;rw[sy];have za:(aL false false e x).put (some ef) u=aL true false e x:=by
     simp only[aL,mq];cases e<;>cases x<;>simp[GO _ eh.symm,GO _ jI.symm]
    show wpAnyIn _ _ _ _ _ _ _ _ ((aL false false e x).put (some ef) u) (au e);rw[za];refine eI rfl cg _ (λq=>?_) (by grind) (by grind);rw[Dl i cd (by omega),bn];by_cases bq:q=i<;>simp[bq]
   ·subst E;subst U;unfold wpOpIn;simp only[vs,wt Dh,if_true];refine hx GX (T0 e x) ?_;rw[dk];have za:(aL true false e x).put (some fJ) vB=aL true true e x:=by
     simp only[aL,mq];cases e<;>cases x<;>simp[GO _ n4.symm,GO _ Dk.symm]
    show wpAnyIn _ _ _ _ _ _ _ _ ((aL true false e x).put (some fJ) vB) (au e);rw[za];refine dO rfl rfl cg _ (λq=>?_) (by grind) (by grind);rw[Dl (n+1) cd (by omega),bn];by_cases bq:q=n+1<;>simp[bq]
   ·subst E;have Ms:x=false:=by grind
    subst Ms;unfold wpOpIn;simp only[z7,wt GU,if_true];refine hx GY (T1 l b false) ?_;rw[Dj];show wpAnyIn _ _ _ _ _ _ _ _ (aL l b true false) (au true);refine eJ rfl cg _ (λq=>?_) (by grind) (by grind);rw[Dl (n+2) cd (by omega),bn];simp
   ·subst E;subst U;unfold wpOpIn;simp only[De,wt GV,if_true];refine hx GZ (T2 l b) ?_;rw[G0];show wpAnyIn _ _ _ _ _ _ _ _ (aL l b true true) (au true);refine oE rfl rfl cg _ (λq=>?_) (by grind) (by grind);rw[Dl (n+3) cd (by omega),bn];simp
   ·subst E;subst U;subst ah;subst aZ;unfold wpOpIn;simp only[Df,wt GW,if_true];refine Oper.wpIn_mono (λa' w' bq=>?_) G1;have fG:∀ i,(listed.setIfInBounds (n+4) true).getD i false=decide (i<n+5):=λi=>by
     rw[Dl (n+4) cd (by omega),bn,Bool.eq_iff_iff];simp only[Bool.or_eq_true,Bool.and_eq_true,decide_eq_true_eq,true_and];omega
    have M:∀ i,i ∉ Region.ready .any ops (listed.setIfInBounds (n+4) true):=λi G=>by
     rw[mem_ready]at G;obtain⟨aX,o,ag,_⟩:=G;grind
    have iI:Region.ready .any ops (listed.setIfInBounds (n+4) true)=[]:=List.eq_nil_iff_forall_not_mem.2 M;cases cg with
    | zero=>exact⟨iI,bq⟩
    | succ cg=>exact⟨λ_=>bq,λi G=>absurd G (M i)⟩
 have f:∀ {p:Prop},(true:Bool)=false->p:=λh=>by cases h
 have iB:∀ {p:Prop},(false:Bool)=true->p:=λh=>by cases h
 have T3:cf true true true true:=step _ _ _ _ (λ_=>rfl) (λ_=>rfl) f (λ_=>f) f (λ_=>f);have T4:cf true true true false:=step _ _ _ _ (λ_=>rfl) (λ_=>rfl) f (λ_=>f) f (λ_ _=>T3);have ag2:cf true true false false:=step _ _ _ _ (λ_=>rfl) iB f (λ_=>f) (λ_=>T4) iB;have T5:cf true false true true:=step _ _ _ _ (λ_=>rfl) (λ_=>rfl) f (λ_ _=>T3) f (λ_=>f);have T6:cf true false true false:=step _ _ _ _ (λ_=>rfl) (λ_=>rfl) f (λ_ _=>T4) f (λ_ _=>T5);have ag3:cf true false false false:=step _ _ _ _ (λ_=>rfl) iB f (λ_ _=>ag2) (λ_=>T6) iB;have ag4:cf false false true true:=step _ _ _ _ iB (λ_=>rfl) (λ_=>T5) iB f (λ_=>f);have ag5:cf false false true false:=step _ _ _ _ iB (λ_=>rfl) (λ_=>T6) iB f (λ_ _=>ag4);have ag6:cf false false false false:=step _ _ _ _ iB iB (λ_=>ag3) iB (λ_=>ag5) iB;intro cg listed cd ak sw;exact ag6 cg listed (λi=>by grind) cd (by omega)
theorem ag7{n:Nat}(aA:n<=ops.size)(aV:dS C.P T)(cv:jm C.P bg)(aw:∀ o∈ops.toList,lf o C.nt=true){l:List eO}{s':aB}(aD:xf C.aO T bg ops (ops.toList.take n) s=some (l,s'))(cC:zD (ops.toList.take n) l=true)(agM:∀ j,n<=j->j<ops.size->∀ i,i<n->i∈(ik ops.toList).getD j [])
  (hc:∀ r∈l,∀ p∈r.cs,p) (ud:∀ (cg:Nat) (listed:Array Bool) a' w',listed.size=ops.size->(∀ i,listed.getD i false=decide (i<n))->ops.size - n<=cg->cr C s' a' w'->wpAnyIn (dR C.r) 0 C.P .any ops Q cg listed a' w'):∀ (cg:Nat) (listed:Array Bool) (a:Act) (w:World),listed.size=ops.size->
   (∀ j o,ops[j]?=some o->listed.getD j false=true->∀ i∈h_ o,listed.getD i false=true)->(∀ i,n<=i->listed.getD i false=false)->((List.range ops.size).filter λj=>!listed.getD j false).length<=cg->
   cr C (js l s λj=>listed.getD j false) a w->wpAnyIn (dR C.r) 0 C.P .any ops Q cg listed a w:=by
 obtain⟨hlen,r9,Db⟩:=SK _ _ aD;have GK:(ops.toList.take n).length=n:=by grind
 have hK:∀ i,i<n->(ops.toList.take n)[i]?=ops[i]?:=λi G=>by
  grind
 simp only[zD,Bool.and_eq_true]at cC;obtain⟨rl,Mn⟩:=cC;have agR:∀ j o,j<n->ops[j]?=some o->∀ i∈h_ o,i<j:=by
  intro j o Mm ag i G;have:=List.all_eq_true.1 rl j (by grind);grind
 have agS:∀ i j x y,i<j->l[i]?=some x->l[j]?=some y->((ik (ops.toList.take n)).getD j []).contains i=true\/x.apart y=true:=by
  intro i j x y zu G aG;have z6:j<l.length:=(List.getElem?_eq_some_iff.1 aG).1;have:=List.all_eq_true.1 Mn j (by grind);grind
 intro cg;induction cg with
 | zero=>
  intro listed a w cd _ pd Mo j';have fG:∀ i,listed.getD i false=decide (i<n):=λi=>by
   by_cases G:i<n
   ·cases ak:listed.getD i false with
    | true=>grind
    | false=>
     exfalso;have:i∈(List.range ops.size).filter λj=>!listed.getD j false:=by
      grind
     grind
   grind
  refine ud 0 listed a w cd fG ?_ ?_
  ·by_cases cc:n<ops.size
   ·have:n∈(List.range ops.size).filter λj=>!listed.getD j false:=by
     grind
    grind
   ·omega
  ·have:js l s (λj=>listed.getD j false)=s':=by
    rw[r9];unfold js;rw[List.filter_eq_self.2 λp ao=>?_,CF];obtain⟨_,U⟩:=zF ao;grind
   grind
 | succ cg aJ=>
  intro listed a w cd qj pd Mo j';by_cases Dc:∀ i,i<n->listed.getD i false=true
  ·have fG:∀ i,listed.getD i false=decide (i<n):=λi=>by
    grind
   refine ud (cg+1) listed a w cd fG ?_ ?_
   ·have E:(List.range' n (ops.size - n)).length<=((List.range ops.size).filter λj=>!listed.getD j false).length:=by
     have e:(List.range ops.size).filter (λj=>!listed.getD j false)=List.range' n (ops.size - n):=by
      have U:(List.range ops.size).filter (λj=>!listed.getD j false)=(List.range ops.size).filter λj=>decide (n<=j):=List.filter_congr λj _=>by
       grind
      rw[U];have ah:List.range ops.size=List.range n++List.range' n (ops.size - n):=by
       rw[List.range_eq_range',List.range_eq_range'];have:=(List.range'_append (s:=0) (m:=n) (n:=ops.size - n) (step:=1))
       grind
      rw[ah,List.filter_append,List.filter_eq_nil_iff.2 λj aG=>by grind,List.filter_eq_self.2 λj aG=>by grind];rfl
     grind
    grind
   ·have:js l s (λj=>listed.getD j false)=s':=by
     rw[r9];unfold js;rw[List.filter_eq_self.2 λp ao=>?_,CF];obtain⟨_,U⟩:=zF ao;grind
    grind
  ·refine⟨λM=>absurd ?_ Dc,λi G=>?_⟩
   ·intro j;induction j using Nat.strongRecOn with
    | _ j axG=>
     intro aG;cases ak:listed.getD j false with
     | true=>rfl
     | false=>
      exfalso;have jN:j∈Region.ready .any ops listed:=by
       rw[mem_ready];refine⟨?_,ops[j],by simp,λe he aa=>?_⟩
       ·grind
       ·have jl:e.on∈h_ ops[j]:=List.mem_filterMap.2 ⟨e,by grind,by grind⟩;grind
      grind
   ·rw[mem_ready]at G;obtain⟨aX,o,ag,GR⟩:=G;have jl:i<ops.size:=(Array.getElem?_eq_some_iff.1 ag).1;have C':listed.getD i false=false:=by
     grind
    have jN:o∈ops.toList:=by
     grind
    have sx:∀ k∈h_ o,listed.getD k false=true:=by
     intro k an;obtain⟨e,he,vr⟩:=List.mem_filterMap.1 an;split at vr
     ·rename_i aa;cases vr;exact GR e (by simpa using he) aa
     ·cases vr
    have G:i<n:=by
     by_cases G:i<n
     ·exact G
     ·exfalso;have Da:∀ k∈(ik ops.toList).getD i [],listed.getD k false=true\/k=i:=by
       intro k an;refine xj (p:=λj=>listed.getD j false=true\/j=i) ops.toList [] (λj i G=>by simp at G) (λj hU kd k an aG=>?_) i k an (.inr rfl);have lk:ops[j]?=some hU:=by grind
       rcases (by simpa using aG:listed.getD j false=true\/j=i) with aG | aG
       ·exact .inl (qj j hU lk aG k an)
       ·subst aG;rw[ag]at lk;cases lk;exact .inl (sx k an)
      grind
    obtain⟨r,M,gq⟩:=Db i o (by grind);have agT:∀ j k,k∈(ik (ops.toList.take n)).getD j []->listed.getD j false=true->listed.getD k false=true:=by
     refine xj (p:=λj=>listed.getD j false=true) (ops.toList.take n) [] (λj i G=>by simp at G) λj hU kd k an aG=>?_;have Mm:j<n:=by grind
     exact qj j hU (by grind) (by simpa using aG) k an
    have Da:∀ k∈(ik (ops.toList.take n)).getD i [],listed.getD k false=true\/k=i:=by
     intro k an;refine xj (p:=λj=>listed.getD j false=true\/j=i) (ops.toList.take n) [] (λj i G=>by simp at G) (λj hU kd k an aG=>?_) i k an (.inr rfl);have Mm:j<n:=by grind
     have lk:ops[j]?=some hU:=by grind
     rcases (by simpa using aG:listed.getD j false=true\/j=i) with aG | aG
     ·exact .inl (qj j hU lk aG k an)
     ·subst aG;rw[ag]at lk;cases lk;exact .inl (sx k an)
    have gH:∀ j x,j<i->l[j]?=some x->listed.getD j false=false->x.apart r=true:=by
     grind
    have tV:∀ j x,i<j->l[j]?=some x->listed.getD j false=true->r.apart x=true:=by
     grind
    obtain⟨aW,aY,bO⟩:=SH (s:=s) (f:=λj=>listed.getD j false) M C' gH tV;have Mp:=SL gq aW aY;unfold wpOpIn;rw[ag];refine TS aV cv (aw o jN) Mp (hc r (List.mem_of_getElem? M)) j' λa' w' bc=>?_;have eU:∀ j,(listed.setIfInBounds i true).getD j false=if j=i then true else listed.getD j false:=by
     intro j;by_cases e:j=i
     ·subst e;rw[if_pos rfl,Array.getD_eq_getD_getElem?,Array.getElem?_setIfInBounds_self_of_lt (by omega)];rfl
     ·rw[if_neg e,getD_set_ne false (Ne.symm e)]
    refine aJ _ a' w' (by grind) (λj hU kd aG k an=>?_) (λq bq=>by rw[eU,if_neg (by omega)];grind) ?_ ?_
    ·rw[eU]at aG ⊢;split
     ·rfl
     ·split at aG
      ·rename_i e;subst e;rw[ag]at kd;cases kd;exact sx k an
      ·exact qj j hU kd aG k an
    ·have cc:((List.range ops.size).filter λj=>!(listed.setIfInBounds i true).getD j false).length<((List.range ops.size).filter λj=>!listed.getD j false).length:=by
      have ay:(List.range ops.size).filter (λj=>!(listed.setIfInBounds i true).getD j false)=((List.range ops.size).filter λj=>!listed.getD j false).filter λj=>decide (j≠i):=by
       rw[List.filter_filter];apply List.filter_congr;intro j _;rw[eU];simp
      rw[ay];have Mq:i∈(List.range ops.size).filter λj=>!listed.getD j false:=by
       grind
      exact List.length_filter_lt_length_iff_exists.2 ⟨i,Mq,by simp⟩
     omega
    ·have:js l s (λj=>(listed.setIfInBounds i true).getD j false)=r.h9 (js l s λj=>listed.getD j false):=by
      rw[<-bO];congr 1;funext j;grind
     grind
theorem T7{β:Type}{b:Bool}{p:Prop}{m:A β}{O:β->Prop}(h:A.cw (sj b p m) O):A.cw m O:=by
 cases b with
 | true=>exact h
 | false=>exact (A.kI.1 h).2
theorem ag8{gD il hI iE lT:Oper}(h:Lv gD il hI iE lT=true):∃ ty m x G2 Mt k c ef fJ d1 d2 kf y,gD.op=.lookup ty m x false/\il.op=.binOp .add G2 (.tmp ef) (.const (.int k c)) Mt/\hI.op=.mapEntry ty m x/\iE.op=.extract (.tmp d1) 1/\
  kf.op=.mapUpdate ty m x y/\zN hI iE lT=some (kf,d1,d2)/\gD.dst=some ef/\il.dst=some fJ/\hI.dst=some d1/\iE.dst=some d2/\fR k c/\(ef≠fJ/\ef≠d1/\ef≠d2/\fJ≠d1/\fJ≠d2/\d1≠d2)/\
  (m≠.tmp ef/\m≠.tmp fJ/\m≠.tmp d1/\m≠.tmp d2)/\(x≠.tmp ef/\x≠.tmp fJ/\x≠.tmp d1/\x≠.tmp d2)/\(∃ oD,m=.tmp oD)/\(∃ Mu,x=.tmp Mu)/\gD.guard=none/\il.guard=none/\hI.guard=none/\iE.guard=none/\lT.guard=none:=by
 unfold Lv at h;split at h
 ·rename_i ty m x G2 t k c Mt mM dx dK hK aU ka;split at h
  ·rename_i ef fJ kf d1 d2 sy dk sw;simp only[decide_eq_true_eq]at h;obtain⟨rfl,rfl,jl,ay,aN,ee,eh,jI,n4,Dk,T8,eI,dO,b9,a2,a3,a4,dP,e2,mH,rW,du,dF⟩:=h;obtain⟨axH,axI,axJ,axK,f1,f2,f3,f4,f5,f6,f7,f8,f9,f10,f11,f12,g1,et,g3⟩:=TI sw;obtain⟨oD,uc⟩:=Option.isSome_iff_exists.1 eI;obtain⟨Mu,T9⟩:=Option.isSome_iff_exists.1 dO;have em:=vq uc;have ex:=vq T9;have ag9:=vq (ay.trans uc);have ag_:=vq (aN.trans T9);rw[f1]at ka;simp only[Op.mapEntry.injEq]at ka;obtain⟨rfl,rfl,rfl⟩:=ka;subst em;subst ex;subst ag9;subst ag_;refine⟨_,_,_,_,_,_,_,_,_,_,_,kf,_,hK,aU,f1,f3,f7,sw,sy,dk,f2,f4,jl,⟨ee,eh,jI,n4,Dk,T8⟩,?_,?_,⟨_,rfl⟩,⟨_,rfl⟩,Option.isNone_iff_eq_none.1 du,Option.isNone_iff_eq_none.1 dF,g1,et,g3⟩
   ·simp only[h',ne_eq,Option.some.injEq]at b9 a2 a3 a4;exact⟨λe=>b9 (by cases e;rfl),λe=>a2 (by cases e;rfl),λe=>a3 (by cases e;rfl),λe=>a4 (by cases e;rfl)⟩
   ·simp only[h',ne_eq,Option.some.injEq]at dP e2 mH rW;exact⟨λe=>dP (by cases e;rfl),λe=>e2 (by cases e;rfl),λe=>mH (by cases e;rfl),λe=>rW (by cases e;rfl)⟩
  grind
 grind
theorem ag'{β:Type}{n:Nat}(sr:Gl ops.toList=true)(aA:n=ops.size - 5)(aV:dS C.P T)(cv:jm C.P bg)(cT:lV C.P C.aO Ψ)(aw:∀ o∈ops.toList,lf o C.nt=true){k:aB->A β}{O:β->Prop}
  (an:∀ s' a' w',cr C s' a' w'->A.cw (k s') O->Q .normal a' w') (hm:A.cw (mm C.aO T bg Ψ ops (ops.toList.drop n) [] s k) O) :
  (n<=ops.size/\∀ j,n<=j->j<ops.size->∀ i,i<n->i∈(ik ops.toList).getD j [])/\∀ (a:Act) (w:World),cr C s a w->∀ (cg:Nat) (listed:Array Bool),listed.size=ops.size->(∀ i,listed.getD i false=decide (i<n))->ops.size - n<=cg->wpAnyIn (dR C.r) 0 C.P .any ops Q cg listed a w:=by
 unfold Gl at sr;rw[show ops.toList.length - 5=n by grind]at sr;split at sr
 ·rename_i gD il hI iE lT T_;simp only[Bool.and_eq_true,List.all_eq_true,List.mem_range,List.contains_eq_mem,decide_eq_true_eq,Bool.or_eq_true]at sr;obtain⟨aha,⟨⟨⟨⟨⟨rl,gH⟩,Mr⟩,TW⟩,z8⟩,TX⟩,TY⟩:=sr;have TV:ops.size=n+5:=by
   have:=congrArg List.length T_;grind
  have Dm:∀ q (o:Oper),[gD,il,hI,iE,lT][q]?=some o->ops[n+q]?=some o:=λq o h=>by
   grind
  have xK:=Dm 0 gD rfl;have vs:=Dm 1 il rfl;have z7:=Dm 2 hI rfl;have De:=Dm 3 iE rfl;have Df:=Dm 4 lT rfl;have mem:∀ {q o},ops[n+q]?=some o->o∈ops.toList:=λh=>by
   grind
  obtain⟨ty,m,x,G2,Mt,fi,c,ef,fJ,d1,d2,kf,y,hK,aU,ka,t',ia,tF,sy,dk,Dj,G0,jl,⟨ee,eh,jI,n4,Dk,T8⟩,⟨m1,m2,m3,m4⟩,⟨w1,wZ,T',ahb⟩,⟨oD,em⟩,⟨Mu,ex⟩,Dg,Dh,GU,GV,GW⟩:=ag8 aha;have Di:∀ c,gD.op≠.defer c:=by grind
  have GX:∀ c,il.op≠.defer c:=by grind
  have GY:∀ c,hI.op≠.defer c:=by grind
  have GZ:∀ c,iE.op≠.defer c:=by grind
  refine⟨⟨by omega,λj E U i G=>by have:=gH (j - n) (by omega) i G;simp_all⟩,λa w M cg listed cd ak sw=>?_⟩;have Ua:=Mj (Q:=Q) aV cv cT aw an _ n [] s a w rfl (λp ao=>by cases ao) M hm;rw[show (ops.toList.drop n).length=5 by grind]at Ua;rw[T_]at hm;obtain⟨κ,F,eX⟩:=M;have gd:∀ {o:Oper},o.guard=none->∀ s:aB,kt s.ax ops o.guard=some none:=λh s=>by rw[h];rfl
  have Ub:∀ {o:Oper} {os},(∀ ty m x,o.op≠.mapEntry ty m x)->zO o os=none:=λ{o os} h=>by
   unfold zO;split
   ·unfold zN;simp
   ·rfl
  have GK:zO gD [il,hI,iE,lT]=none:=Ub (by grind);unfold mm at hm;rw[GK]at hm;simp only[gd Dg]at hm;split at hm
  ·rename_i ue G3;rw[sv λaa=>(GL (s:=s) (λp ao=>by cases ao) (gk:=none) (λk an=>by cases an) aa).run s.ab ue G3,sv λaa=>(zB aa).run s.ab ue G3]at hm;obtain⟨Mv,ahc,hm⟩:=hm;have ahd:=xe aV cv (aw gD (mem xK)) G3;have xL:=G3;simp only[bt,hK,y_]at xL;have ahe:(use (a8 C.aO s.ax m)).1/\(use (a8 C.aO s.ax x)).1/\ue.hE=[]/\∃ v u,ue.e9=.val v u:=by
    split at xL
    ·rename_i jo axL axM;split at xL
     ·simp only[aq.e6,Option.bind_eq_some_iff,bN,aq.bL,Option.some.injEq]at xL;obtain⟨es,o_,⟨y,l⟩,aS,rfl⟩:=xL;exact⟨Mv.1,Mv.2,rfl,_,_,rfl⟩
     ·cases xL
    ·cases xL
   obtain⟨Mk,Ml,Uc,Ud,Ue,ahf⟩:=ahe;have ahg:zO il [hI,iE,lT]=none:=Ub (by grind);unfold mm at hm;rw[ahg]at hm;simp only[gd Dh]at hm;split at hm
   ·rename_i Mw ahh;have hm:=T7 (T7 hm);have vt:=ahh;have ay:(s.h8 gD.dst ue).ax ef=.val Ud Ue:=by rw[sy,aB.h8,aB.Mh,ahf]
    have lS:wV (.int fi c)=.val (.int fi) c:=by simp[wV,jl]
    have ahi:∃ b9,Ud=.int fi/\Mw.hE=[]/\b9=Ue:=by
     simp only[bt,aU,a8,ay,aF.qR,lS,use,aF.mg,aF.tz]at vt;split at vt
     ·rename_i aW b9 aY dP E U;split at E
      ·rename_i bO T' ah;cases U;cases ah;cases E;split at vt
       ·rename_i u9;simp only[y6,bN,aq.bL,Option.some.injEq]at vt;grind
       ·cases vt
      grind
     ·rename_i pd;exfalso;split at vt
      ·grind
      ·simp only[aq.e6,Option.bind_eq_some_iff]at vt;obtain⟨⟨c',h5⟩,E,U⟩:=vt;simp only[y7,aq.e6,Option.bind_eq_some_iff,aq.bL]at E;grind
    obtain⟨ll,rfl,Uf,rfl⟩:=ahi;have iC:((s.h8 gD.dst ue).h8 il.dst Mw).ab=s.ab:=by
     simp only[aB.h8,Uc,Uf,aB.fY,sy,dk,aB.set]
    have eH:∀ {t:Nat},t≠ef->t≠fJ->((s.h8 gD.dst ue).h8 il.dst Mw).ax t=s.ax t:=λ{t} E U=>by
     simp only[aB.h8,Uc,Uf,aB.fY];rw[aB.C8 (by grind),aB.C8 (by grind)]
    unfold mm at hm;rw[show zO hI [iE,lT]=some (kf,d1,d2) from tF]at hm;simp only at hm;split at hm
    ·rename_i axN ahj;obtain⟨u,mr,wE,Ug⟩:=agI (s:=s) aV hK ka ia iC (by rw[em];exact congrArg aF.qR (eH (λe=>m1 (by grind)) (λe=>m2 (by grind)))) (by rw[ex];exact congrArg aF.qR (eH (λe=>w1 (by grind)) (λe=>wZ (by grind)))) ahj eX Mk Ml;have ahk:=(Ug a rfl rfl).1;have ahl:=Dd (K:=λa' w'=>cr C (s.h8 gD.dst ue) a' w') (Q:=Q) Di ahk (ahd a w κ F Q eX Mv ahc);have Uh:ef<a.tmps.size:=by
      have:=aw gD (mem xK);simp only[lf,Bool.and_eq_true]at this;have:=this.1;rw[sy]at this;have E:=eX.dE;grind
     have axO:d1<a.tmps.size:=by
      have:=aw hI (mem z7);simp only[lf,Bool.and_eq_true]at this;have:=this.1;rw[Dj]at this;have E:=eX.dE;grind
     have hu:u=.int fi ll:=by
      obtain⟨afG,z1,gM⟩:=ahl;have E:=gM.bT ef;rw[ay,sy]at E;have U:(a.put (some ef) u).tmps.getD ef Go.undef=u:=C3 Uh;rw[U]at E;exact (gT.1 E).1
     subst hu;let vB:Value:=.int fi (fi.wrap (ll+c));have ahm:∀ (a':Act) (w':World),a'.eval (.tmp ef)=.int fi ll->(execOp a'.eval il).run C.P w'=.ok (.value vB) w':=λa' w' h=>by
      have U:a'.eval (.const (.int fi c))=.int fi c:=rfl;have ah:(Go.binOp .add G2 (.int fi ll) (.int fi c)).run C.P w'=.ok vB w':=by simp[Go.binOp,Op.intArith,vB]
      simp only[execOp,aU,h,U,Sem.run_bind,RG,Result.andThen_ok,ah,Sem.run_pure]
     have ahn:∀ (a':Act) (w':World),a'.eval (.tmp d1)=.tuple #[.int fi ll,goInt mr]->(execOp a'.eval iE).run C.P w'=.ok (.value (goInt mr)) w':=λa' w' h=>by
      simp[execOp,t',h,Instr.extract]
     have Ma:∀ l b e dK,(mq a ef fJ d1 d2 (.int fi ll) vB (.tuple #[.int fi ll,goInt mr]) (goInt mr) l b e dK).eval m=a.eval m:=λl b e dK=>TU m1 m2 m3 m4;have aho:∀ l b e dK,(mq a ef fJ d1 d2 (.int fi ll) vB (.tuple #[.int fi ll,goInt mr]) (goInt mr) l b e dK).eval x=a.eval x:=λl b e dK=>TU w1 wZ T' ahb;refine agW (wE:=wE) (u:=.int fi ll) (vB:=vB) (vE:=.tuple #[.int fi ll,goInt mr]) (vX:=goInt mr) TV rl xK vs z7 De Df Dg Dh GU GV GW Di GX GY GZ gH Mr TW z8 TX TY sy dk Dj G0 ee eh jI n4 Dk ?_ ?_ ?_ ?_ Ua cg listed cd ak (by omega)
     ·intro b e dK;have:=Ug _ (Ma false b e dK) (aho false b e dK);cases e
      ·exact this.1
      ·exact this.2.1
     ·intro e dK;refine ahm _ _ ?_;have E:(mq a ef fJ d1 d2 (.int fi ll) vB (.tuple #[.int fi ll,goInt mr]) (goInt mr) true false e dK).eval (.tmp ef)=(a.put (some ef) (.int fi ll)).eval (.tmp ef):=by
       have du:Operand.tmp ef≠.tmp d1:=λh=>eh (by grind);have dF:Operand.tmp ef≠.tmp d2:=λh=>jI (by grind);unfold mq;cases e<;>cases dK<;>simp[zZ,du,dF]
      rw[E];exact C3 Uh
     ·grind
     ·intro l b;refine ahn _ _ ?_;have E:mq a ef fJ d1 d2 (.int fi ll) vB (.tuple #[.int fi ll,goInt mr]) (goInt mr) l b true false=(mq a ef fJ d1 d2 (.int fi ll) vB (.tuple #[.int fi ll,goInt mr]) (goInt mr) l b false false).put (some d1) (.tuple #[.int fi ll,goInt mr]):=rfl;rw[E];exact C3 (by rw[agV];omega)
    ·exact hm.1.elim
   ·rename_i axP;exfalso;have:q_ C.aO T bg Ψ (s.h8 gD.dst ue) il=none:=by
     have lS:wV (.int fi c)=.val (.int fi) c:=by simp[wV,jl]
     simp only[q_,aU,CN,a8,lS];simp
    rw[this]at hm;exact hm.1
  ·exfalso;have:q_ C.aO T bg Ψ s gD=none:=by simp only[q_,hK]
   rw[this]at hm;exact hm.1
 grind
theorem ahp{β:Type}{L:List (aB->A β)}(hK:L≠[]){o:Oper}(aV:dS C.P T)(cv:jm C.P bg)(cT:lV C.P C.aO Ψ)(xI:lf o C.nt=true){O:β->Prop}{s:aB}{a:Act}{w:World}(M:cr C s a w)
  (hm:∀ k∈L,A.cw (Gn C.aO T bg Ψ ops o s k) O) {K:Act->World->Prop} (iH:∀ s' a' w',cr C s' a' w'->(∀ k∈L,A.cw (k s') O)->K a' w'):o.guard=none/\o.wpIn (dR C.r) 0 C.P a w K Q:=by
 obtain⟨hn,mT⟩:=List.exists_mem_of_ne_nil L hK;have bh:∀ i,o.dst=some i->i<C.nt:=λi G=>by
  have:=xI;simp only[lf,Bool.and_eq_true]at this;grind
 unfold Gn at hm;split at hm
 ·exact (hm hn mT).1.elim
 ·rename_i aC;refine⟨aC,?_⟩;split at hm
  ·rename_i res gm;obtain⟨κ,F,eX⟩:=M;have hm:∀ k∈L,res.b7/\res.c/\A.cw (k (s.h8 o.dst res)) O:=λk an=>by
    have:=hm k an;rw[sv λaa=>(GL (ops:=ops) (tg:=[]) (s:=s) (λp ao=>by cases ao) (gk:=none) (λk an=>by cases an) aa).run s.ab res gm,sv λaa=>(zB aa).run s.ab res gm]at this;omega
   exact Oper.wpIn_mono (λa' w' bc=>iH _ a' w' bc λk an=>(hm k an).2.2) (xe aV cv xI gm a w κ F Q eX (hm hn mT).1 (hm hn mT).2.1)
  ·split at hm
   ·rename_i bU oC;obtain⟨jJ,p9,mj⟩:=Me aV cv cT bh oC;have hm:∀ k∈L,bU.b7/\A.cw bU.m λy=>A.cw (k (bU.st y)) O:=λk an=>by
     have:=hm k an;rw[sv λaa=>mj (KY aa),A.fX]at this;omega
    refine jJ a w Q _ M (hm hn mT).1 ⟨(hm hn mT).2.1,λy aS a' w' bc=>iH _ a' w' bc λk an=>(hm k an).2.2 y aS⟩
   ·exact (hm hn mT).1.elim
theorem ahq{ops:List Oper}{done:List Nat}{i:Nat}:i∈vm ops done<->i<ops.length/\i ∉ done/\∃ o,ops[i]?=some o/\∀ j∈h_ o,j∈done:=by
 unfold vm;grind
theorem Ui{ops:List Oper}:∀ (f:Nat) (done:List Nat),ra ops f done≠[]
 | 0,done=>by simp[ra]
 | f+1,done=>by
  unfold ra;split
  ·simp
  ·rename_i l ak;cases hc:vm ops done with
   | nil=>grind
   | cons i cb=>
    rw[List.flatMap_cons];intro h;rw[List.append_eq_nil_iff,List.map_eq_nil_iff]at h;exact Ui f _ h.1
theorem G4{listed:Array Bool}{done:List Nat}(cd:listed.size=ops.size)(ak:∀ i,listed.getD i false=done.contains i):Region.ready .any ops listed=vm ops.toList done:=by
 unfold Region.ready vm;rw[Array.length_toList];refine List.filter_congr λi G=>?_;have G:i<ops.size:=by grind
 have E:listed.getD i true=done.contains i:=by
  grind
 rw[E];congr 1;have ag:ops.toList[i]?=some ops[i]:=by simp
 rw[ag,Array.getElem?_eq_getElem G];show ops[i].after.all _=(h_ ops[i]).all _;rw[Bool.eq_iff_iff,Array.all_eq_true',List.all_eq_true];unfold h_;grind
theorem ahr{β:Type}(aV:dS C.P T)(cv:jm C.P bg)(cT:lV C.P C.aO Ψ)(aw:∀ o∈ops.toList,lf o C.nt=true){k:aB->A β}{O:β->Prop}(an:∀ s' a' w',cr C s' a' w'->A.cw (k s') O->Q .normal a' w'):∀ (cg:Nat) (done:List Nat) (listed:Array Bool) (s:aB) (a:Act) (w:World),listed.size=ops.size->(∀ i,listed.getD i false=done.contains i)->Gm ops.toList cg done=true->
  cr C s a w->(∀ l∈ra ops.toList cg done,A.cw (zQ C.aO T bg Ψ ops l s k) O)->wpAnyIn (dR C.r) 0 C.P .any ops Q cg listed a w:=by
 intro cg;induction cg with
 | zero=>
  intro done listed s a w cd ak aC M hm;have ow:=G4 (ops:=ops) cd ak;refine⟨?_,an s a w M (hm [] (by simp[ra]))⟩;rw[ow];exact List.isEmpty_iff.1 aC
 | succ cg aJ=>
  intro done listed s a w cd ak aC M hm;have ow:=G4 (ops:=ops) cd ak;refine⟨λaX=>?_,λi G=>?_⟩
  ·rw[ow]at aX;refine an s a w M (hm [] ?_);unfold ra;grind
  ·rw[ow]at G;obtain⟨qa,jl,o,ag,_⟩:=ahq.1 G;have qa:i<ops.size:=by omega
   have kd:ops[i]?=some o:=by grind
   have ahs:o∈ops.toList:=List.mem_of_getElem? ag;have jN:∀ l∈ra ops.toList cg (i::done),A.cw (Gn C.aO T bg Ψ ops o s λs'=>zQ C.aO T bg Ψ ops l s' k) O:=λl hle=>by
    have:=hm (i::l) (by
     unfold ra;grind)
    unfold zQ at this;grind
   obtain⟨g1,et⟩:=ahp (Q:=Q) (L:=(ra ops.toList cg (i::done)).map λl=>λs'=>zQ C.aO T bg Ψ ops l s' k) (by simpa using Ui cg (i::done)) aV cv cT (aw o ahs) M
    (λk' aht=>by obtain⟨l,hle,rfl⟩:=List.mem_map.1 aht;exact jN l hle)
    (K:=wpAnyIn (dR C.r) 0 C.P .any ops Q cg (listed.setIfInBounds i true)) λs' a' w' bc Tg=>by
     refine aJ (i::done) _ s' a' w' (by grind) (λj=>?_) ?_ bc λl hle=>Tg _ (List.mem_map.2 ⟨l,hle,rfl⟩)
     ·by_cases e:j=i
      ·simp_all
      ·rw[getD_set_ne false (Ne.symm e),ak j];simp[e]
     ·unfold Gm at aC;grind
   unfold wpOpIn;rw[kd];simp only;have hw:Region.wanted o (yielded ops a.tmps)=true:=by unfold Region.wanted;rw[g1]
   grind
theorem Uj{β:Type}(aV:dS C.P T)(cv:jm C.P bg)(cT:lV C.P C.aO Ψ)(aw:∀ o∈ops.toList,lf o C.nt=true){k:aB->A β}{O:β->Prop}
  (an:∀ s' a' w',cr C s' a' w'->A.cw (k s') O->Q .normal a' w') {a:Act} {w:World} (M:cr C s a w) (hm:A.cw (zR C.aO T bg Ψ ops s k) O):wpAnyIn (dR C.r) 0 C.P .any ops Q ops.size (Array.replicate ops.size false) a w.drew:=by
 unfold zR at hm;split at hm
 ·rename_i l s' aD;split at hm
  ·rename_i cC;obtain⟨E,U⟩:=TQ _ hm;obtain⟨κ,F,eX⟩:=M;refine agQ aV cv aw aD cC (λr M p ao=>E p (List.mem_flatMap.2 ⟨r,M,ao⟩)) (λa' w' bc=>an s' a' w' bc U) ops.size (Array.replicate ops.size false) a _ (by simp) (λj o _ ak=>?_) ?_ ⟨κ,F,?_⟩
   ·have:(Array.replicate ops.size false).getD j false=false:=by
     rw[Array.getD_eq_getD_getElem?,Array.getElem?_replicate];grind
    grind
   ·grind
   ·have:js l s (λj=>(Array.replicate ops.size false).getD j false)=s:=by
     unfold js;rw[List.filter_eq_nil_iff.2 λp _=>?_]
     ·rfl
     ·simp only[Array.getD_eq_getD_getElem?,Array.getElem?_replicate];grind
    rw[this];exact eX.drew
  ·exact hm.1.elim
 ·split at hm
  ·rename_i l s' aD;split at hm
   ·rename_i cC;rw[Bool.and_eq_true]at cC;obtain⟨E,U⟩:=TQ _ hm;obtain⟨κ,F,eX⟩:=M;have cont:(lU ops.toList<=ops.size/\∀ j,lU ops.toList<=j->j<ops.size->∀ i,i<lU ops.toList->i∈(ik ops.toList).getD j [])/\∀ (cg:Nat) (listed:Array Bool) a' w',listed.size=ops.size->(∀ i,listed.getD i false=decide (i<lU ops.toList))->ops.size - lU ops.toList<=cg->cr C s' a' w'->wpAnyIn (dR C.r) 0 C.P .any ops Q cg listed a' w':=by
     by_cases sr:Gl ops.toList=true
     ·have Mx:lU ops.toList=ops.size - 5:=by unfold lU;grind
      obtain⟨ay,aN⟩:=ag' (Q:=Q) sr Mx aV cv cT aw an U;grind
     ·have Mx:lU ops.toList=zP (ik ops.toList) ops.toList.length:=by unfold lU;grind
      obtain⟨qb,h0⟩:=TT (ik ops.toList) ops.toList.length;have qb:lU ops.toList<=ops.size:=by grind
      have h0:∀ j,lU ops.toList<=j->j<ops.size->∀ i,i<j->i∈(ik ops.toList).getD j []:=λj E U=>h0 j (by omega) (by omega);refine⟨⟨qb,λj E U i G=>h0 j E U i (by omega)⟩,λcg listed a' w' cd fG sw bc=>?_⟩;refine agL cC.2 h0 (ops.size - lU ops.toList) (lU ops.toList) cg listed a' w' (Nat.le_refl _) (by omega) cd fG sw ?_;have hlen:(ops.toList.drop (lU ops.toList)).length=ops.size - lU ops.toList:=by simp
      rw[<-hlen];exact Mj (Q:=Q) aV cv cT aw an _ _ [] s' a' w' rfl (λp ao=>by cases ao) bc U
    obtain⟨⟨qb,h0⟩,axQ⟩:=cont;refine ag7 qb aV cv aw aD cC.1 h0 (λr M p ao=>E p (List.mem_flatMap.2 ⟨r,M,ao⟩)) (λcg listed a' w' cd fG sw bc=>?_) ops.size (Array.replicate ops.size false) a _ (by simp) (λj o _ ak=>?_) (λi _=>?_) ?_ ⟨κ,F,?_⟩
    ·grind
    ·have:(Array.replicate ops.size false).getD j false=false:=by
      rw[Array.getD_eq_getD_getElem?,Array.getElem?_replicate];grind
     grind
    ·rw[Array.getD_eq_getD_getElem?,Array.getElem?_replicate];grind
    ·grind
    ·have:js l s (λj=>(Array.replicate ops.size false).getD j false)=s:=by
      unfold js;rw[List.filter_eq_nil_iff.2 λp _=>?_]
      ·rfl
      ·simp only[Array.getD_eq_getD_getElem?,Array.getElem?_replicate];grind
     rw[this];exact eX.drew
   ·exact hm.1.elim
  ·unfold S1 at hm;split at hm
   ·rename_i zj;obtain⟨κ,F,eX⟩:=M;refine ahr aV cv cT aw an ops.size [] (Array.replicate ops.size false) s a _ (by simp) (λi=>?_) zj ⟨κ,F,eX.drew⟩ λl hle=>⟨hm.1 _ (List.mem_map.2 ⟨l,hle,rfl⟩),λy aS=>hm.2 y ⟨_,List.mem_map.2 ⟨l,hle,rfl⟩,aS⟩⟩
    rw[Array.getD_eq_getD_getElem?,Array.getElem?_replicate];grind
   ·exact hm.1.elim
theorem ahu{β:Type}{id:Nat}(ec:C.P.follows .mixedOrders=true)(aV:dS C.P T)(cv:jm C.P bg)(cT:lV C.P C.aO Ψ)(aw:∀ o∈ops.toList,lf o C.nt=true){k:aB->A β}{O:β->Prop}
  (an:∀ s' a' w',cr C s' a' w'->A.cw (k s') O->Q .normal a' w') {a:Act} {w:World} (M:cr C s a w) (hm:A.cw (zR C.aO T bg Ψ ops s k) O):(Code.region id ops true).wpIn (dR C.r) 0 C.P Q a w:=
 wpIn_region_any ec (Uj aV cv cT aw an M hm)
theorem z_{ops:Array Oper}{j:Nat}{o:Oper}(h:ops[j]?=some o):(lh ops.toList).toArray[j]?=some (if j=0 then o else { o with after:=o.after.push ⟨0,.phase⟩ }):=by
 obtain⟨l⟩:=ops;cases l with
 | nil=>simp at h
 | cons x l=>
  cases j with
  | zero=>simpa [lh]using h
  | succ j=>
   simp only[List.getElem?_toArray,List.getElem?_cons_succ]at h;simp[lh,h]
theorem My(ops:Array Oper):(lh ops.toList).toArray.size=ops.size:=by
 obtain⟨l⟩:=ops;cases l<;>simp[lh]
theorem ahv{ops:Array Oper}{j:Nat}{hT:Oper}(h:(lh ops.toList).toArray[j]?=some hT):∃ o,ops[j]?=some o/\hT=if j=0 then o else { o with after:=o.after.push ⟨0,.phase⟩ }:=by
 have aG:j<ops.size:=by rw[<-My];exact (Array.getElem?_eq_some_iff.1 h).1
 have:=z_ (ops:=ops) (j:=j) (o:=ops[j]) (by simp[aG]);rw[h]at this;cases this;exact⟨ops[j],by simp[aG],rfl⟩
theorem ahw(ops:Array Oper):yielded (lh ops.toList).toArray=yielded ops:=by
 funext t j;unfold yielded;cases h:ops[j]? with
 | none=>
  have:(lh ops.toList).toArray[j]?=none:=by
   rw[Array.getElem?_eq_none_iff,My];exact Array.getElem?_eq_none_iff.1 h
  rw[this]
 | some o=>
  rw[z_ h];by_cases aG:j=0
  ·rw[if_pos aG]
  ·rw[if_neg aG];rfl
theorem ahx{F:Fence}{P:Program}:∀ (cg:Nat) (listed:Array Bool) (a:Act) (w:World),listed.getD 0 false=true->wpAnyIn F 0 P .any (lh ops.toList).toArray Q cg listed a w->wpAnyIn F 0 P .any ops Q cg listed a w:=by
 have ow:∀ (listed:Array Bool),listed.getD 0 false=true->∀ i,i∈Region.ready .any ops listed->i∈Region.ready .any (lh ops.toList).toArray listed:=by
  intro listed aX i G;rw[mem_ready]at G ⊢;obtain⟨E,o,ag,U⟩:=G;refine⟨E,_,z_ ag,λe he aa=>?_⟩;split at he
  ·exact U e he aa
  ·rcases Array.mem_push.1 he with he | rfl
   ·exact U e he aa
   ·exact aX
 have ahy:∀ (listed:Array Bool),Region.ready .any ops listed=[]->Region.ready .any (lh ops.toList).toArray listed=[]:=by
  intro listed h;rw[List.eq_nil_iff_forall_not_mem]at h ⊢;intro i G;refine h i ?_;rw[mem_ready]at G ⊢;obtain⟨E,hT,ag,U⟩:=G;obtain⟨o,kd,rfl⟩:=ahv ag;refine⟨E,o,kd,λe he aa=>U e ?_ aa⟩;split
  ·exact he
  ·exact Array.mem_push_of_mem _ he
 have ahz:∀ (listed:Array Bool),listed.getD 0 false=true->Region.ready .any (lh ops.toList).toArray listed=[]->Region.ready .any ops listed=[]:=by
  intro listed aX h;rw[List.eq_nil_iff_forall_not_mem]at h ⊢;exact λi G=>h i (ow listed aX i G)
 intro cg;induction cg with
 | zero=>
  intro listed a w aX h;exact⟨ahz listed aX h.1,h.2⟩
 | succ cg aJ=>
  intro listed a w aX h;refine⟨λM=>h.1 (ahy listed M),λi G=>?_⟩;have an:=h.2 i (ow listed aX i G);have next:∀ a w,wpAnyIn F 0 P .any (lh ops.toList).toArray Q cg (listed.setIfInBounds i true) a w->wpAnyIn F 0 P .any ops Q cg (listed.setIfInBounds i true) a w:=λa w=>aJ _ a w (getD_set_true aX)
  have an:=wpOpIn_mono next an
  unfold wpOpIn at an ⊢;rw[mem_ready]at G;obtain⟨_,o,ag,_⟩:=G;rw[ag];rw[z_ ag,ahw]at an;by_cases ox:i=0
  ·rw[if_pos ox]at an;exact an
  ·rw[if_neg ox]at an;exact an
theorem ahA{β:Type}{id:Nat}(ec:C.P.follows .mixedOrders=true)(ahB:C.r=none)(ar:Lw ops=true)(aV:dS C.P T)(cv:jm C.P bg)(cT:lV C.P C.aO Ψ)(aw:∀ o∈ops.toList,lf o C.nt=true){k:aB->A β}{O:β->Prop}
  (an:∀ s' a' w',cr C s' a' w'->A.cw (k s') O->Q .normal a' w') {a:Act} {w:World} (M:cr C s a w) (hm:A.cw (zR C.aO T bg Ψ (lh ops.toList).toArray s k) O):(Code.region id ops true).wpIn (dR C.r) 0 C.P Q a w:=by
 refine wpIn_mono (Q:=λe a w=>e=.normal/\Q e a w) (wpIn_region_any ec ?_) λe a w h=>h.2;have hH:=Uj (Q:=λe a w=>e=.normal/\Q e a w) (ops:=(lh ops.toList).toArray) aV cv cT (λo ag=>?_) (λs' a' w' E U=>⟨rfl,an s' a' w' E U⟩) M hm
 ·rw[My]at hH;have rm:(dR C.r).round=none:=by rw[ahB];rfl
  unfold Lw at ar;split at ar
  ·cases ar
  ·rename_i o l ak;simp only[Bool.and_eq_true,List.all_eq_true,Bool.or_eq_true]at ar;obtain⟨E,U,ah,aZ,bM⟩:=ar;have aX:ops[0]?=some o:=by rw[<-Array.getElem?_toList,ak];rfl
   obtain⟨m,hm⟩:∃ m,ops.size=m+1:=⟨l.length,by rw[<-Array.length_toList,ak];rfl⟩
   rw[hm]at hH ⊢;have aC:o.guard=none:=by simpa using U
   have iI:∀ (ops:Array Oper),ops[0]?=some o->0∈Region.ready .any ops (Array.replicate (m+1) false):=λops h=>by
    rw[mem_ready];refine⟨by simp,o,h,λe he=>?_⟩;rw[Array.isEmpty_iff.1 ah]at he;simp at he
   have kO:∃ x,o.op=.move x:=by
    revert E;cases o.op<;>simp
   obtain⟨x,ai⟩:=kO;have aS:YieldsFenced C.P ops o (a.eval x) a:=⟨.inl ⟨by unfold Region.wanted;rw[aC],λw=>by simp[execOp,ai]⟩,λw=>by unfold Oper.about;rw[ai]⟩
   have gq:=hH.2 0 (iI _ (by rw[z_ aX];rfl));unfold wpOpIn at gq;rw[z_ aX]at gq;simp only[if_true]at gq;rw[show Region.wanted o (yielded (lh ops.toList).toArray a.tmps)=true by unfold Region.wanted;rw[aC],if_pos rfl]at gq;have gq:wpAnyIn (dR C.r) 0 C.P .any (lh ops.toList).toArray (λe a w=>e=.normal/\Q e a w) m ((Array.replicate (m+1) false).setIfInBounds 0 true) (a.put o.dst (a.eval x)) w.drew:=by
    have:=gq.2;rw[rm,Oper.semAt_none]at this;simpa [execOp,ai,Oper.uponIn]using this
   refine wpAnyIn_first rm aX (Region.noSelect_spec aZ) (λc a w h=>by cases h.1) m _ a _ (λj rj Uk ahC _ he=>?_) (iI _ aX) aS (ahx m _ _ _ (by simp) gq);have jN:rj∈l:=by
    rw[<-Array.getElem?_toList,ak]at Uk;cases j with
    | zero=>exact absurd rfl ahC
    | succ j=>exact List.mem_of_getElem? Uk
   rcases bM rj jN with h | h
   ·exfalso;have h:0∈h_ rj:=by simpa using h
    obtain⟨e,ahD,xc⟩:=List.mem_filterMap.1 h;split at xc
    ·rename_i aa;exact he e (by simpa using ahD) aa (by simpa using xc)
    ·cases xc
   ·exact h
 ·have ag:o∈(lh ops.toList):=by simpa using ag
  obtain⟨ol⟩:=ops;cases ol with
  | nil=>cases ag
  | cons x l=>
   rcases List.mem_cons.1 ag with rfl | ag
   ·exact aw _ (by simp)
   ·obtain⟨p,ao,rfl⟩:=List.mem_map.1 ag;have:=aw p (by simp[ao]);exact this
end
end Go.Fer
namespace Go.Fer
open Go.RowKit
theorem gr{β:Type}{O:β->Prop}(h:A.cw (A.fail:A β) O):False:=h.1
theorem uf{β:Type}{sh:dH}{s:aB}{k:sh.aj->A β}{O:β->Prop}(h:A.cw (sh.mX s k) O):∃ D,sh.i' s=some D/\A.cw (k D) O:=by
 unfold dH.mX at h;split at h
 ·grind
 ·exact (gr h).elim
def oF(B:Nat):Deferred:={ target:=.collected B,args:=#[] }
structure nX where
 w:World
 K:Nat->Prop
 ms:List Nat
def b_.hl(C:b_)(u:nX):b_:={ C with w0:=u.w,K0:=u.K,dfr:=u.ms.map oF++C.dfr }
structure b_.jO(C:b_)(u:nX):Prop where
 sz:∀ B∈u.ms,u.K B/\u.w.heap[B]?=some (.deferred (some []))
 ey:∀ B∈u.ms,¬C.K0 B/\C.w0.heap.size<=B
 mu:u.ms.Nodup
 hn:∀ r,C.K0 r->u.K r
 eH:∀ r,C.K0 r->u.w.heap[r]?=C.w0.heap[r]?
 size:C.w0.heap.size<=u.w.heap.size
 er:df C.w0 u.w
def b_.hF(C:b_):nX:=⟨C.w0,C.K0,[]⟩
theorem b_.vu(C:b_):C.jO C.hF:=⟨λ_ h=>by simp[b_.hF]at h,λ_ h=>by simp[b_.hF]at h,List.nodup_nil,λ_ h=>h,λ_ _=>rfl,Nat.le_refl _,df.refl _⟩
def nX.then(u v:nX):nX:=⟨v.w,v.K,v.ms++u.ms⟩
theorem b_.z'(C:b_)(u v:nX):(C.hl u).hl v=C.hl (u.then v):=by
 simp[b_.hl,nX.then]
theorem b_.jO.then{C:b_}{u v:nX}(h:C.jO u)(k:(C.hl u).jO v):C.jO (u.then v) where
 sz:=λB aU=>by
  rcases List.mem_append.1 aU with aU | aU
  ·exact k.sz B aU
  ·obtain⟨E,U⟩:=h.sz B aU;exact⟨k.hn B E,(k.eH B E).trans U⟩
 ey:=λB aU=>by
  rcases List.mem_append.1 aU with aU | aU
  ·obtain⟨E,U⟩:=k.ey B aU;exact⟨λah=>E (h.hn B ah),Nat.le_trans h.size U⟩
  ·exact h.ey B aU
 mu:=List.nodup_append.2 ⟨k.mu,h.mu,λa bb b aa e=>(k.ey a bb).1 (e ▸ (h.sz b aa).1)⟩
 hn:=λr M=>k.hn r (h.hn r M)
 eH:=λr M=>(k.eH r (h.hn r M)).trans (h.eH r M)
 size:=Nat.le_trans h.size k.size
 er:=h.er.trans k.er
theorem bl.Ul{C:b_}{s:aB}{a:Act}{w:World}{κ:Nat->bD}{F F':Nat->Prop}(h:bl C s a w κ F){w0 w':World}{F0 K0:Nat->Prop}{nt:Nat}{dfr:List Deferred}{r:Option Nat}{sl:Nat->aF}{a':Act}
    (Mz:a'.tmps.size=nt) (MA:a'.defers=dfr) (rn:nt<=eQ) (fk:∀ i,bu C.P s.ab κ F w (sl i) (a'.tmps.getD i undef)) (pd:∀ l aL L n st,sl b5≠.aR l aL L n st)
    (heq:∀ r,F r\/(∃ b,(s.ab b).body.b1 (κ b)=true/\(κ b).ab=r)->w'.heap[r]?=w.heap[r]?) (cd:w.heap.size<=w'.heap.size)
    (bn:∀ r,F r->F' r) (jj:∀ r,F' r->r<w'.heap.size) (Dn:∀ b,(s.ab b).body.b1 (κ b)=true->¬F' (κ b).ab)
    (MB:∀ r,F' r->F0 r\/¬K0 r) (MC:∀ r,F0 r->F' r) (Dp:∀ r,K0 r->r<w0.heap.size) (ug:∀ r,K0 r->w'.heap[r]?=w0.heap[r]?) (gj:∀ b,(s.ab b).body.b1 (κ b)=true->¬K0 (κ b).ab)
    (m_:w0.heap.size<=w'.heap.size) (hc:df w0 w') :
    bl { C with w0:=w0,F0:=F0,K0:=K0,nt:=nt,dfr:=dfr,r:=r } ⟨sl,s.ab⟩ a' w' κ F':=by
  have he:c8 F w w':=⟨cd,λr M=>heq r (.inl M)⟩
  exact {
          dE:=Mz,dfr:=MA,bT:=λi=>bu.later (fo.refl _ _) bn he (fk i)
          bE:=λb=>cE.k6 (h.bE b) (fo.refl _ _) bn he rfl rfl λag=>heq _ (.inr ⟨b,ag,rfl⟩)
          own:=λb aa=>⟨Nat.lt_of_lt_of_le (h.own b aa).1 cd,Dn b aa,gj b aa⟩,inj:=h.inj,dd:=jj
          hg:=MB,hS:=MC,hv:=Dp,eH:=ug,size:=m_,er:=hc,gi:=rn,kl:=h.kl,jD:=h.jD,j3:=h.j3,km:=h.km,eB:=λl aL L n st e=>(pd l aL L n st e).elim,jE:=h.jE,iy:=h.iy.mono bn he }
theorem bl.vv{C:b_}{s:aB}{a:Act}{w:World}{κ:Nat->bD}{F:Nat->Prop}(h:bl C s a w κ F){w0 w':World}{F0 K0:Nat->Prop}{nt:Nat}{dfr:List Deferred}{r:Option Nat}{sl:Nat->aF}{a':Act}
  (Mz:a'.tmps.size=nt) (MA:a'.defers=dfr) (rn:nt<=eQ) (fk:∀ i,bu C.P s.ab κ F w (sl i) (a'.tmps.getD i undef)) (pd:∀ l aL L n st,sl b5≠.aR l aL L n st)
  (heq:∀ r,F r\/(∃ b,(s.ab b).body.b1 (κ b)=true/\(κ b).ab=r)->w'.heap[r]?=w.heap[r]?) (cd:w.heap.size<=w'.heap.size)
  (MB:∀ r,F r->F0 r\/¬K0 r) (MC:∀ r,F0 r->F r) (Dp:∀ r,K0 r->r<w0.heap.size) (ug:∀ r,K0 r->w'.heap[r]?=w0.heap[r]?) (gj:∀ b,(s.ab b).body.b1 (κ b)=true->¬K0 (κ b).ab)
  (m_:w0.heap.size<=w'.heap.size) (hc:df w0 w') :
  bl { C with w0:=w0,F0:=F0,K0:=K0,nt:=nt,dfr:=dfr,r:=r } ⟨sl,s.ab⟩ a' w' κ F:=
 h.Ul Mz MA rn fk pd heq cd (λ_ h=>h) (λr M=>Nat.lt_of_lt_of_le (h.dd r M) cd) (λb aa=>(h.own b aa).2.1) MB MC Dp ug gj m_ hc
theorem bl.G5{C:b_}{s:aB}{a:Act}{w:World}{κ:Nat->bD}{F:Nat->Prop}(h:bl C s a w κ F){w0 w':World}{K0:Nat->Prop}{r:Option Nat}
    (iH:∀ r,K0 r->C.K0 r) (heq:∀ r,F r\/¬C.K0 r->w'.heap[r]?=w.heap[r]?) (cd:w.heap.size<=w'.heap.size) (xM:df w w')
    (Dp:∀ r,K0 r->r<w0.heap.size) (ug:∀ r,K0 r->w'.heap[r]?=w0.heap[r]?) (m_:w0.heap.size<=w'.heap.size) (hc:df w0 w') :
    bl { C with w0:=w0,K0:=K0,r:=r } s a w' κ F:=by
  have he:c8 F w w':=⟨cd,λr M=>heq r (.inl M)⟩
  have jj:∀ r,F r->r<w'.heap.size:=λr M=>Nat.lt_of_lt_of_le (h.dd r M) cd;exact {
          dE:=h.dE,dfr:=h.dfr,bT:=λi=>bu.later (fo.refl _ _) (λ_ h=>h) he (h.bT i)
          bE:=λb=>cE.k6 (h.bE b) (fo.refl _ _) (λ_ h=>h) he rfl rfl λag=>heq _ (.inr (h.own b ag).2.2)
          own:=λb aa=>⟨Nat.lt_of_lt_of_le (h.own b aa).1 cd,(h.own b aa).2.1,λk=>(h.own b aa).2.2 (iH _ k)⟩,inj:=h.inj,dd:=jj
          hg:=λr M=>(h.hg r M).imp id λk k'=>k (iH r k'),hS:=h.hS,hv:=Dp,eH:=ug,size:=m_,er:=hc,gi:=h.gi,kl:=h.kl,jD:=h.jD,j3:=h.j3,km:=h.km
          eB:=λl aL L n st e=>by
            obtain⟨E,U,Y,ah,aZ,bM⟩:=h.eB l aL L n st e;exact⟨E,U,Y,λr M=>⟨Nat.lt_of_lt_of_le (ah r M).1 cd,(ah r M).2.1,λk=>(ah r M).2.2 (iH r k)⟩,aZ,U.JY bM (λ_ h=>h) (λr M=>heq r (M.imp id λaS=>(ah r aS).2.2)) cd xM jj λr ar aS=>(ah r aS).2.1 ar⟩
          jE:=h.jE,iy:=h.iy.mono (λ_ h=>h) he }
theorem Um{P:Program}{H:Nat->bK}{κ:Nat->bD}{F:Nat->Prop}{w:World}{aL:ad}{x:aL.aj}:∀ (ps:List Tmp) (args:List Value) (j:Nat) (f:Nat->aF) (oD:Array Value),ps.length=args.length->(∀ p∈ps,p<oD.size)->
  (∀ i,bu P H κ F w (f i) (oD.getD i undef))->(∀ i,i<args.length->bu P H κ F w (kq aL x (j+i)) (args.getD i undef))->
  ∀ i,bu P H κ F w (zS aL x ps j f i) (((ps.zip args).foldl (λtmps p=>tmps.setIfInBounds p.1 p.2) oD).getD i undef)
 | [],[],_,_,_,_,_,ar,_,i=>ar i
 | p::ps,v::args,j,f,oD,ak,ao,ar,af,i=>by
  simp only[zS,List.zip_cons_cons,List.foldl_cons];refine Um ps args (j+1) _ _ (by grind) (λq bq=>by grind) (λi=>?_) (λi G=>?_) i
  ·rw[Array.getD_eq_getD_getElem?,Array.getElem?_setIfInBounds];by_cases e:i=p
   ·grind
   ·rw[if_neg e,if_neg (Ne.symm e)];simp_all
  ·have:=af (i+1) (by grind);grind
theorem ahE{ps:List Tmp}{args:List Value}:∀ {oD:Array Value},((ps.zip args).foldl (λtmps p=>tmps.setIfInBounds p.1 p.2) oD).size=oD.size:=by
 generalize ps.zip args=l;induction l with
 | nil=>simp
 | cons p l aJ=>grind
def sA:dj->Option Code
 | .normal=>none
 | .exit id=>some (.exit id)
 | .ret=>some .ret
def fa(fn:FuncId)(oD:Array Value)(ps:Array Tmp)(assign body:Code)(B:Nat)(st:LoopState)(e:dj):Loop:=
 { state:=st,pending:=sA e,fn:=fn,tmps:=oD,params:=ps,assign:=assign,body:=body,defers:=B }
def G6(P:Program)(aO:dD)(nt:Nat)(assign body:Code)(l:Nat){rout:dH}(run:aB->A (dj×rout.aj)):Prop:=
 ∀ (C1:b_),C1.P=P->C1.aO=aO->C1.nt=nt->C1.r=some l->∀ (eI:aB) (b9:Act) (cn:World) (qk:dj×rout.aj->Prop),cr C1 eI b9 cn->A.cw (run eI) qk->
  assign.wpIn (dR (some l)) 0 P (Exit.then (λa2 da=>∃ u dO,C1.jO u/\cr (C1.hl u) dO a2 da/\
   ∀ (hy:b_),hy.P=P->hy.aO=aO->hy.nt=nt->hy.r=some l->∀ (da:World),cr hy dO a2 da->
    body.wpIn (dR (some l)) 0 P (λe a3 eY=>∃ (a1:dj) (v:nX) (eJ:aB) (bm:rout.aj),e=a1.pk/\hy.jO v/\cr (hy.hl v) eJ a3 eY/\rout.i' eJ=some bm/\qk (a1,bm)) a2 da) (λ_ _ _=>False)) b9 cn
theorem ahF{ts:List (Nat×bY)}{R:Type}(h:ts.isEmpty=true)(g:Nat->Nat×Nat)(z:oy ts R)(i:Nat):fp (eE g ts z).1 i=.undef:=by
 cases ts with
 | nil=>rfl
 | cons p ts=>cases h
theorem ahG{P:Program}{l:Nat}{R:Ending->World->Prop}{e:dj}{a:Act}{w:World}{r:Loop}(h:w.heap[l]?=some (.loop r))
  (jP:R (.returned (.bool (sA e).isNone)) (w.putObj l (.loop { r with state:=if (sA e).isNone then .ready else .done,pending:=sA e }))):roundPost P l R e.pk a w:=by
 cases e with
 | normal=>exact⟨_,_,run_endRound none h,jP⟩
 | exit id=>exact⟨_,_,run_endRound (some (.exit id)) h,jP⟩
 | ret=>exact⟨_,_,run_endRound (some .ret) h,jP⟩
theorem ahH{CI:b_}{sh rin rout:dH}{aL:ad}{ps:Array Tmp}{assign body:Code}{a:Act}{au:World}{κ:Nat->bD}{F:Nat->Prop}{D:sh.aj}{fn:FuncId}{l B:Nat}{x:aL.aj}{args:List Value}{run:aB->A (dj×rout.aj)}
  {Or:dj×sh.aj->Prop} {Y Z:Nat->Prop} (ahI:Z l)
  (M:bl CI (sh.st D) a au κ F) (eb:nU sh rout aL ps.toList a.tmps.size=true) (Dq:G6 CI.P CI.aO a.tmps.size assign body l run) (hm:A.cw (tY sh rin rout aL ps.toList D x run) Or)
  (ak:au.heap[l]?=some (.loop (fa fn a.tmps ps assign body B .ready .normal))) (ahJ:¬F l) (r_:∀ b,((sh.st D).ab b).body.b1 (κ b)=true->Y (κ b).ab/\¬Z (κ b).ab) (dX:fm CI.P aL F au args x) :
  ∃ tmps,(Instr.yield l args.toArray).run CI.P au=.ok (.round l fn tmps assign body) au/\RoundIn Fence.wide 0 CI.P l fn tmps assign body au λe pX=>
   ∃ (bG:dj) (iF:sh.aj) (κ':Nat->bD) (F':Nat->Prop) (o:Obj),e=.returned (.bool (sA bG).isNone)/\Or (bG,iF)/\pX.heap[l]?=some (.loop (fa fn a.tmps ps assign body B (if (sA bG).isNone then .ready else .done) bG))/\
    bl { CI with w0:=au.putObj l o,F0:=F,K0:=λr=>r<au.heap.size/\(Z r\/¬Y r) } (sh.st iF) a pX κ' F':=by
 simp only[nU,Bool.and_eq_true,decide_eq_true_eq,Bool.not_eq_true',List.all_eq_true]at eb;obtain⟨⟨⟨⟨aW,aY⟩,bO⟩,gC⟩,pc⟩:=eb;have Aa:l<au.heap.size:=(Array.getElem?_eq_some_iff.1 ak).1;obtain⟨iz,G7⟩:=tK (H:=(sh.st D).ab) (κ:=κ) aL dX bO;have pd:(sh.st D).ax b5=.undef:=xA sh.bT db D b5 aY;have FF:(Array.zip ps args.toArray).foldl (λtmps (x:Tmp×Value)=>match x with | (t,a)=>tmps.setIfInBounds t a) a.tmps=(ps.toList.zip args).foldl (λtmps p=>tmps.setIfInBounds p.1 p.2) a.tmps:=by
  rw[<-Array.foldl_toList];simp
 refine⟨(ps.toList.zip args).foldl (λtmps p=>tmps.setIfInBounds p.1 p.2) a.tmps,?_,?_⟩
 ·rw[<-FF];exact run_yield ak (by show args.toArray.size=ps.size;grind)
 have ahK:bl { CI with w0:=au,F0:=F,K0:=λr=>r<au.heap.size/\(Z r\/¬Y r) } (sh.st D) a au κ F:=
  M.vv M.dE M.dfr M.gi M.bT (λl aL L n st e=>by have e:(sh.st D).ax b5=.aR l aL L n st:=e;grind) (λ_ _=>rfl) (Nat.le_refl _) (λ_ h=>.inl h) (λ_ h=>h) (λ_ h=>h.1) (λ_ _=>rfl)
   (λb aa h=>h.2.elim (r_ b aa).2 λh=>h (r_ b aa).1) (Nat.le_refl _) (df.refl _)
 unfold tY at hm;split at hm
 ·rename_i aI bV ahL;split at hm
  ·rename_i cC;rw[A.fX]at hm;have gM:bl { CI with w0:=au,F0:=F,K0:=λr=>r<au.heap.size/\(Z r\/¬Y r),nt:=a.tmps.size,dfr:=[],r:=none } ⟨(xu (sh.st D) aL x ps.toList).ax,(sh.st D).ab⟩ { tmps:=(ps.toList.zip args).foldl (λtmps p=>tmps.setIfInBounds p.1 p.2) a.tmps,defers:=[] } au κ F:=by
    refine M.vv ahE rfl (by rw[M.dE];exact M.gi) (λi=>?_) (λdG kv e7 iW im e=>?_) (λ_ _=>rfl) (Nat.le_refl _) (λ_ h=>.inl h) (λ_ h=>h) (λ_ h=>h.1) (λ_ _=>rfl)
     (λb aa h=>h.2.elim (r_ b aa).2 λh=>h (r_ b aa).1) (Nat.le_refl _) (df.refl _)
    ·show bu CI.P (sh.st D).ab κ F au (if i=b5 then (sh.st D).ax b5 else zS aL x ps.toList 0 (sh.st D).ax i) _;split
     ·rw[pd];trivial
     ·exact Um ps.toList args 0 _ _ (by omega) (λp ao=>by grind) M.bT (λi G=>by grind) i
    ·have e:(if b5=b5 then (sh.st D).ax b5 else zS aL x ps.toList 0 (sh.st D).ax b5)=.aR dG kv e7 iW im:=e;grind
   obtain⟨F',own,gz,ig,f1,bc,gj,Dr,axR,C2,L7⟩:=Tw (c:=vn rin rout) ahK gM (by rfl) ahL rfl cC;have MD:l<au.heap.size/\(Z l\/¬Y l):=⟨Aa,.inl ahI⟩
   have Un:¬F' l:=λh=>(bc.hg l h).elim ahJ λh=>h MD;have ahM:¬own l:=λh=>by
    obtain⟨b,E,U⟩:=gj l h;exact (bc.own b E).2.2 (U ▸ MD)
   have ahN:¬gz l:=λh=>(Dr.low l h).2.2 MD;have Uo:l<au.heap.size/\¬own l/\¬gz l:=⟨Aa,ahM,ahN⟩
   have G8:bl { rh CI au F' a.tmps.size own gz ig with r:=some l } (rin.st aI) _ au _ F':=C2.G5 (w0:=au) (w':=au) (K0:=λr=>r<au.heap.size/\¬own r/\¬gz r) (r:=some l) (λ_ h=>h) (λ_ _=>rfl) (Nat.le_refl _) (df.refl _) (λ_ h=>h.1) (λ_ _=>rfl) (Nat.le_refl _) (df.refl _);refine roundIn_of_wpIn trivial ?_;refine wpIn_mono (Dq { rh CI au F' a.tmps.size own gz ig with r:=some l } rfl rfl rfl rfl (rin.st aI) _ au _ ⟨_,_,G8⟩ hm) λe a2 da bq=>?_;cases e with
   | normal=>
    obtain⟨u,dO,hu,⟨mZ,ei,cM⟩,bS⟩:=bq;have sB:u.K l:=hu.hn l Uo;have gn:da.heap[l]?=some (.loop (fa fn a.tmps ps assign body B .ready .normal)):=(cM.eH l sB).trans ((hu.eH l Uo).trans ak);refine⟨_,run_beginRound gn rfl,?_⟩;have ahO:l<da.heap.size:=(Array.getElem?_eq_some_iff.1 gn).1;have ahP:¬ei l:=λh=>(cM.hg l h).elim Un λh=>h sB;have oG:=cM.G5 (w0:=da.putObj l (.loop (fa fn a.tmps ps assign body B .busy .normal))) (w':=da.putObj l (.loop (fa fn a.tmps ps assign body B .busy .normal))) (K0:=u.K) (r:=some l) (λ_ h=>h)
     (λr h=>World.putObj_heap_other λe=>by
      subst e;exact h.elim ahP λh=>h sB) (by simp) ⟨rfl,rfl,rfl⟩ (λr h=>by
       have:=cM.hv r h;have:=cM.size;simp;omega) (λ_ _=>rfl) (Nat.le_refl _) (df.refl _)
    refine wpIn_mono (bS { ({ rh CI au F' a.tmps.size own gz ig with r:=some l }:b_).hl u with w0:=da.putObj l (.loop (fa fn a.tmps ps assign body B .busy .normal)),K0:=u.K,r:=some l } rfl rfl rfl rfl _ ⟨mZ,ei,oG⟩) λe a3 eY ⟨a1,v,eJ,bm,he,af,⟨G9,Up,mv⟩,fZ,G_⟩=>?_;subst he;obtain⟨G9,Uq,f4,oH⟩:=dH.zU fZ mv;have w7:v.K l:=af.hn l sB;have G':eY.heap[l]?=some (.loop (fa fn a.tmps ps assign body B .busy .normal)):=(oH.eH l w7).trans ((af.eH l sB).trans (World.putObj_heap_same ahO));have Ur:l<eY.heap.size:=(Array.getElem?_eq_some_iff.1 G').1;have axS:¬Uq l:=λh=>(oH.hg l h).elim Un λh=>h w7;generalize gq:(if (sA a1).isNone then LoopState.ready else .done)=im;refine ahG G' ?_;rw[gq];have mo:bl { CI with w0:=au.putObj l (.loop (fa fn a.tmps ps assign body B im a1)),F0:=F,K0:=λr=>r<au.heap.size/\(Z r\/¬Y r) } ((sh.st D).cB bV) a (au.putObj l (.loop (fa fn a.tmps ps assign body B im a1))) κ F':=
     bc.G5 (λ_ h=>h) (λr h=>World.putObj_heap_other λe=>by
      grind) (by simp) ⟨rfl,rfl,rfl⟩ (λr h=>by simpa using h.1) (λ_ _=>rfl) (Nat.le_refl _) (df.refl _)
    have zY:au.heap.size<=eY.heap.size:=by
     have E:=hu.size;have U:=cM.size;have ah:=af.size;have aZ:=oH.size;have E:au.heap.size<=u.w.heap.size:=E;have U:u.w.heap.size<=da.heap.size:=U;have ah:(da.putObj l (.loop (fa fn a.tmps ps assign body B .busy .normal))).heap.size<=v.w.heap.size:=ah;have aZ:v.w.heap.size<=eY.heap.size:=aZ;simp only[World.putObj_size]at ah;omega
    have xN:df au eY:=by
     have E:df au u.w:=hu.er;have U:df u.w da:=cM.er;have ah:df da v.w:=⟨af.er.os,af.er.tape,af.er.output⟩
     exact E.trans (U.trans (ah.trans oH.er))
    have ahQ:∀ i,(rout.st bm).ax i=.undef:=λi=>ahF aW db bm i;have lS:∀ r,(r<(au.putObj l (.loop (fa fn a.tmps ps assign body B im a1))).heap.size/\¬own r/\¬gz r)->(r<au.heap.size/\¬own r/\¬gz r):=λr h=>⟨by simpa using h.1,h.2⟩
    have hJ:=oH.vv (w0:=au.putObj l (.loop (fa fn a.tmps ps assign body B im a1))) (w':=eY.putObj l (.loop (fa fn a.tmps ps assign body B im a1))) (F0:=F') (K0:=λr=>r<(au.putObj l (.loop (fa fn a.tmps ps assign body B im a1))).heap.size/\¬own r/\¬gz r) (nt:=0) (dfr:=[]) (r:=none) (sl:=(rout.st bm).ax) (a':={ tmps:=#[],defers:=[] }) rfl rfl (Nat.zero_le _)
     (λi=>by rw[ahQ];trivial) (λl aL L n st e=>by grind)
     (λr h=>World.putObj_heap_other λe=>by
      subst e;rcases h with h | ⟨b,E,U⟩
      ·grind
      ·exact (oH.own b E).2.2 (U ▸ w7)) (by simp) (λr h=>(oH.hg r h).imp id λh de=>h (af.hn r (hu.hn r (lS r de)))) oH.hS (λr h=>h.1)
     (λr h=>by
      by_cases e:r=l
      ·subst e;rw[World.putObj_heap_same Ur,World.putObj_heap_same Aa]
      ·rw[World.putObj_heap_other e,World.putObj_heap_other e];have E:u.K r:=hu.hn r (lS r h);exact (oH.eH r (af.hn r E)).trans ((af.eH r E).trans ((World.putObj_heap_other e).trans ((cM.eH r E).trans (hu.eH r (lS r h))))))
     (λb aa h=>(oH.own b aa).2.2 (af.hn _ (hu.hn _ (lS _ h)))) (by simpa using zY) ⟨xN.os,xN.tape,xN.output⟩
    obtain⟨κn,nW,_⟩:=L7 (au.putObj l (.loop (fa fn a.tmps ps assign body B im a1))) (au.putObj l (.loop (fa fn a.tmps ps assign body B im a1))) mo ⟨λdG kv e7 iW im e=>(by
      grind),λr h=>⟨by simpa using (Dr.low r h).1,(Dr.low r h).2⟩,Dr.own,Dr.GB⟩ bm [] (eY.putObj l (.loop (fa fn a.tmps ps assign body B im a1))) G9 Uq hJ
    obtain⟨iF,ME,ahR⟩:=uf G_;obtain⟨κn,ahS,_,ahT⟩:=dH.zU ME nW;exact⟨a1,iF,κn,ahS,(.loop (fa fn a.tmps ps assign body B im a1)),rfl,A.d'.1 ahR,by rw[gq];exact World.putObj_heap_same Ur,ahT⟩
   | _=>exact bq.elim
  ·exact hm.1.elim
 ·exact hm.1.elim
theorem Us{w:World}{o hU:Obj}{r:Nat}(h:r<w.heap.size):((w.alloc o).alloc hU).heap[r]?=w.heap[r]?:=
 (o5 _ _ (by simp;omega)).trans (o5 _ _ h)
def ahU(C CI:b_){β:Type}(sh rin rout:dH)(aL:ad)(ca:List aL.aj->Prop)(ps:Array Tmp)(assign body:Code)(a:Act)(fn:FuncId)(l B:Nat)(run:aB->A (dj×rout.aj))(k:dj->aB->A β)(O:β->Prop)
  (st:Bool) (F Y:Nat->Prop) (au:World):Prop:=
 ∃ (e:dj) (D:sh.aj) (κ:Nat->bD),bl CI (sh.st D) a au κ F/\au.heap[l]?=some (.loop (fa fn a.tmps ps assign body B (if st then .done else .ready) e))/\au.heap[B]?=some (.deferred (some []))/\
  (∀ b,((sh.st D).ab b).body.b1 (κ b)=true->Y (κ b).ab/\¬((κ b).ab=l\/(κ b).ab=B))/\Y l/\Y B/\¬F l/\¬F B/\C.P=CI.P/\
  (st=false->e=.normal/\∀ R,ca R->A.cw (jM (λD y=>tY sh rin rout aL ps.toList D y run) R D) λp=>A.cw (k p.1 (sh.st p.2)) O)/\(st=true->e≠.normal/\A.cw (k e (sh.st D)) O)
theorem Ut{C CI:b_}{β:Type}{sh rin rout:dH}{aL:ad}{S:List aL.aj->Prop}{ps:Array Tmp}{assign body:Code}{a:Act}{fn:FuncId}{l B:Nat}{run:aB->A (dj×rout.aj)}{k:dj->aB->A β}{O:β->Prop}
  (iH:CI.K0=λ_=>False) (ahV:l≠B) (eb:nU sh rout aL ps.toList a.tmps.size=true) (Dq:G6 CI.P CI.aO a.tmps.size assign body l run) :
  Fe CI.P (fm CI.P aL) l S λpre=>ahU C CI sh rin rout aL (λR=>S (pre++R)) ps assign body a fn l B run k O where
 BP:=λ{pre st F F' Y w w'} h bn heq cd i_ jj Dn=>by
  have hc:df w w':=⟨i_.1,i_.2.1,i_.2.2⟩
  obtain⟨e,D,κ,M,E,U,ah,aZ,bM,dt,gb,iQ,pW⟩:=h;have pd:(sh.st D).ax b5=.undef:=by
   simp only[nU,Bool.and_eq_true,Bool.not_eq_true']at eb;exact xA sh.bT db D b5 eb.1.1.1.2
  have uh:∀ r,CI.K0 r->False:=λr h=>by grind
  refine⟨e,D,κ,?_,(heq l (.inr aZ)).trans E,(heq B (.inr bM)).trans U,ah,aZ,bM,λh=>Dn l h aZ,λh=>Dn B h bM,iQ,pW⟩;exact M.Ul M.dE M.dfr M.gi M.bT (λdG kv e7 iW im e=>by have e:(sh.st D).ax b5=.aR dG kv e7 iW im:=e;grind)
   (λr bc=>heq r (bc.imp id λ⟨b,aa,e⟩=>e ▸ (ah b aa).1)) cd bn jj (λb aa ar=>Dn _ ar (ah b aa).1) (λr _=>.inr (uh r)) (λr h=>bn r (M.hS r h)) (λr h=>(uh r h).elim) (λr h=>(uh r h).elim) (λb _=>uh _)
   (Nat.le_trans M.size cd) (M.er.trans hc)
 yield:=λ{pre F Y w args x} h jj Uu ai dX=>by
  obtain⟨MF,Ds⟩:=ai;obtain⟨e,D,κ,M,E,U,ah,aZ,bM,dt,gb,iQ,pW,_⟩:=h;obtain⟨rfl,hm⟩:=pW rfl;have pd:∀ D:sh.aj,(sh.st D).ax b5=.undef:=λD=>by
   simp only[nU,Bool.and_eq_true,Bool.not_eq_true']at eb;exact xA sh.bT db D b5 eb.1.1.1.2
  have uh:∀ r,CI.K0 r->False:=λr h=>by grind
  have hm:A.cw (tY sh rin rout aL ps.toList D x run) λp=>∀ T,S (pre++x::T)->A.cw (match p.1 with
    | .normal=>jM (λD y=>tY sh rin rout aL ps.toList D y run) T p.2
    | .exit id=>A.pure (.exit id,p.2)
    | .ret=>A.pure (.ret,p.2)) λp=>A.cw (k p.1 (sh.st p.2)) O:=by
   have E:=λT aV=>A.fX.1 (hm (x::T) aV);exact⟨(E MF Ds).1,λy aS T aV=>(E T aV).2 y aS⟩
  obtain⟨tmps,aS,ahW⟩:=ahH (Z:=λr=>r=l\/r=B) (.inl rfl) M eb Dq hm E dt ah dX;refine⟨fn,tmps,assign,body,aS,ahW.mono λa1 pX ⟨bG,iF,κ',F',o,he,G_,Ha,bc⟩=>?_⟩;have Aa:l<w.heap.size:=(Uu l aZ).1;have MG:B<w.heap.size:=(Uu B bM).1;have g1:∀ r,F r->F' r:=bc.hS;have et:∀ r,F' r->F r\/Y r\/w.heap.size<=r:=λr cM=>by
   rcases bc.hg r cM with h | h
   ·exact .inl h
   ·by_cases cc:r<w.heap.size
    ·by_cases aS:Y r
     ·exact .inr (.inl aS)
     ·exact (h ⟨cc,.inr aS⟩).elim
    ·exact .inr (.inr (Nat.le_of_not_lt cc))
  have Uv:∀ r,r<w.heap.size->¬F r->(r=l\/r=B)->¬F' r:=λr cc ar bk rk=>(bc.hg r rk).elim ar λh=>h ⟨cc,.inl bk⟩;have Uw:¬F' l:=Uv l Aa dt (.inl rfl);have vs:¬F' B:=Uv B MG gb (.inr rfl);have Ux:∀ b,((sh.st iF).ab b).body.b1 (κ' b)=true->¬((κ' b).ab=l\/(κ' b).ab=B)/\(Y (κ' b).ab\/w.heap.size<=(κ' b).ab):=λb aa=>by
   have an:=(bc.own b aa).2.2;grind
  have Hb:w.heap.size<=pX.heap.size:=by have:=bc.size;simpa using this
  have gc:df w pX:=⟨bc.er.os,bc.er.tape,bc.er.output⟩
  have axT:∀ T,pre++[x]++T=pre++x::T:=λT=>by simp
  refine⟨(sA bG).isNone,F',λr=>(∃ b,((sh.st iF).ab b).body.b1 (κ' b)=true/\(κ' b).ab=r)\/r=l\/r=B,he,g1,et,bc.dd,λr cc aS=>?_,λr cM=>?_,Hb,⟨gc.os,gc.tape,gc.output⟩,?_⟩
  ·have eD:r≠l:=λe=>aS (e ▸ aZ);exact (bc.eH r ⟨cc,.inr aS⟩).trans (World.putObj_heap_other eD)
  ·rcases cM with⟨b,aa,rfl⟩ | rfl | rfl
   ·exact⟨(Ux b aa).2,(bc.own b aa).1,(bc.own b aa).2.1⟩
   ·exact⟨.inl aZ,Nat.lt_of_lt_of_le Aa Hb,Uw⟩
   ·exact⟨.inl bM,Nat.lt_of_lt_of_le MG Hb,vs⟩
  ·refine⟨bG,iF,κ',?_,?_,?_,λb aa=>⟨.inl ⟨b,aa,rfl⟩,(Ux b aa).1⟩,.inr (.inl rfl),.inr (.inr rfl),Uw,vs,iQ,λgq=>?_,λgq=>?_⟩
   ·exact bc.vv bc.dE bc.dfr bc.gi bc.bT (λdG kv e7 iW im e=>by have e:(sh.st iF).ax b5=.aR dG kv e7 iW im:=e;grind) (λ_ _=>rfl) (Nat.le_refl _) (λr _=>.inr (uh r)) (λr h=>g1 r (M.hS r h))
     (λr h=>(uh r h).elim) (λr h=>(uh r h).elim) (λb _=>uh _) (Nat.le_trans M.size Hb) (M.er.trans gc)
   ·grind
   ·exact (bc.eH B ⟨MG,.inl (.inr rfl)⟩).trans ((World.putObj_heap_other (Ne.symm ahV)).trans U)
   ·cases bG with
    | normal=>grind
    | _=>cases gq
   ·cases bG with
    | normal=>cases gq
    | exit id=>exact⟨by simp,(G_ MF Ds).2 _ rfl⟩
    | ret=>exact⟨by simp,(G_ MF Ds).2 _ rfl⟩
theorem Uy{P:Program}{l:Nat}{aL:ad}{S:List aL.aj->Prop}{I:List aL.aj->Bool->(Nat->Prop)->(Nat->Prop)->World->Prop}(h:Fe P (fm P aL) l S I):lH.ht P ⟨l,aL,S,I⟩ where
 BP:=λE U ah aZ bM dt gb=>h.BP E U ah aZ ⟨bM.os,bM.tape,bM.output⟩ dt gb
 yield:=λE U ah aZ bM=>YieldAt.mono (h.yield E U ah aZ bM) λ_ _ ⟨b,F',gz,aW,aY,bO,gC,pc,xB,Hc,Dt,MH⟩=>⟨b,F',gz,aW,aY,bO,gC,pc,xB,Hc,⟨Dt.1,Dt.2.1,Dt.2.2⟩,MH⟩
end Go.Fer
