/- Part 3 of the proof of Halves: shallow programs of Go functions, and what they compute. No condition. -/
import Derived.Test.YtplfnoecifjgeaaGreatDoorHalvesB
import Derived.RangeFuncIn
import Derived.RangeFuncRecord
import Derived.RangeFuncBound
noncomputable section
set_option linter.unusedVariables false
set_option linter.unusedSimpArgs false
namespace Go.Fer
open Go.RowKit
def n9(x y:bA):Prop:=(y.fm=true->x.fm=true)/\(y.eR=true->x.eR=true/\y.len=x.len/\y.eE=x.eE)/\(y.gy=true->x.gy=true)/\(y.ml=true->x.ml=true)/\∀ k,y.bI k=true->x.bI k=true
theorem n9.refl(x:bA):n9 x x:=⟨id,λh=>⟨h,rfl,rfl⟩,id,id,λ_=>id⟩
theorem n9.fb(x:bA):n9 x .fb:=⟨λh=>(by cases h),λh=>(by cases h),λh=>(by cases h),λh=>(by cases h),λ_ h=>(by cases h)⟩
def rW(f:Nat->Nat)(H H':Nat->bt):Prop:=∀ b,(H' b).gen=0/\n9 (H (f b)).body (H' b).body
section
variable {P:Program} {H H':Nat->bt} {κ:Nat->bk} {F F':Nat->Prop} {w:World} {f:Nat->Nat}
theorem Sk(az:rW f H H'){b off:Nat}{v:Value}(h:bh P H κ F w (.loc (f b) (H (f b)).gen off) v):bh P H' (λb=>κ (f b)) F' w (.loc b 0 off) v:=
 ⟨⟨Nat.zero_le _,h.1.2⟩,λ_ hc=>h.2 rfl ((az b).2.1 hc)⟩
def KX(P:Program)(H H':Nat->bt)(κ:Nat->bk)(f:Nat->Nat)(F F':Nat->Prop)(w:World){R:Type}(r:Option (R×List Nat))(l:List Nat)(av av':aC)(y:R):Prop:=
 ∃ m,r=some (y,m)/\(∀ b∈m,b∈l)/\(iF H κ F' l->∀ v,bh P H κ F w av v->bh P H' (λb=>κ (f b)) F' w av' v)
theorem KX.hg{R:Type}{r:Option (R×List Nat)}{l:List Nat}{av av':aC}{y:R}(h:r=some (y,l))(k:∀ v,bh P H κ F w av v->bh P H' (λb=>κ (f b)) F' w av' v):KX P H H' κ f F F' w r l av av' y:=
 ⟨l,h,λ_ aa=>aa,λ_=>k⟩
theorem kh{ai:Type}{b:Bool}{r:Option ai}{x:ai}(h:uS b r=some x):b=true/\r=some x:=by
 cases b with
 | true=>exact⟨rfl,h⟩
 | false=>cases h
theorem pW{t:ad}{av:aC}{R:Type}{r:Option (R×List Nat)}{z:t.ag×R}{l:List Nat}(h:wW H t av r=some (z,l)):∃ eD m,(da t av).run H=some (z.1,eD)/\r=some (z.2,m)/\l=eD++m:=by
 unfold wW at h;grind
theorem KY{t:ad}{av:aC}{R:Type}{r:Option (R×List Nat)}{z:t.ag×R}{l:List Nat}(h:Kr t av r=some (z,l)):av=.dx t z.1/\r=some (z.2,l):=by
 unfold Kr at h;grind
theorem KZ{b:Nat}{av:aC}{R:Type}{r:Option (R×List Nat)}{z:(Nat×Nat)×R}{l:List Nat}(h:Ks H b av r=some (z,l)) :
  r=some (z.2,l)/\(av=.sub b (H b).gen z.1.1 z.1.2\/(av=.own b (H b).gen/\(H b).body.eR=true/\z.1=(0,(H b).body.len))):=by
 unfold Ks at h;grind
theorem FP{aH:ad}{av:aC}{R:Type}{r:Option (R×List Nat)}{z:(Nat×(List aH.ag->Prop)×List aH.ag×Bool)×R}{l:List Nat}(h:Kt aH av r=some (z,l)) :
  r=some (z.2,l)/\av=.tr z.1.1 aH z.1.2.1 z.1.2.2.1 z.1.2.2.2:=by
 unfold Kt at h;grind
theorem K1{b:Nat}{av:aC}{R:Type}{r:Option (R×List Nat)}{z:Nat×R}{l:List Nat}(h:Kv H b av r=some (z,l)):r=some (z.2,l)/\av=.iE b (H b).gen z.1:=by
 unfold Kv at h;grind
theorem K2{av:aC}{R:Type}{r:Option (R×List Nat)}{z:Nat×R}{l:List Nat}(h:Ku av r=some (z,l)):r=some (z.2,l)/\av=.gJ z.1:=by
 unfold Ku at h;grind
theorem Sl{b off:Nat}{av:aC}(h:Fo H b off av=true):av=.loc b (H b).gen off:=by
 unfold Fo at h;grind
theorem Sm{b:Nat}{av:aC}(h:Fp H b av=true):av=.own b (H b).gen:=by
 unfold Fp at h;grind
theorem aef{b:Nat}{av:aC}(h:Kw H b av=true):av=.fk b (H b).gen:=by
 unfold Kw at h;grind
theorem aeg{b:Nat}{av:aC}(h:Kx H b av=true):av=.jM b (H b).gen:=by
 unfold Kx at h;grind
theorem aeh{av:aC}(h:Ky av=true):av=.cQ:=by
 unfold Ky at h;grind
theorem aei(az:rW f H H'){k:FuncId}{fA:z8'}{av:aC}(h:Kz H f k fA av=true){v:Value}(hv:bh P H κ F w av v):bh P H' (λb=>κ (f b)) F' w (.ib k fA.length (uQ cG fA)) v:=by
 unfold Kz at h;split at h
 ·rename_i k' n cC;simp only[Bool.and_eq_true,beq_iff_eq]at h;obtain⟨⟨rfl,rfl⟩,e⟩:=h;obtain⟨aA,h1,h2,h3⟩:=hv;refine⟨aA,h1,h2,λi E=>?_⟩;have he:=List.all_eq_true.1 e i (by grind);have hv:=h3 i E;rw[show fA[i]?=some fA[i] by simp]at he;rw[Sl he]at hv;have:uQ cG fA i=.loc fA[i].1 0 fA[i].2:=by simp[uQ,gL,List.getD_eq_getElem?_getD,E,cG]
  rw[this];exact Sk az hv
 grind
theorem aej(az:rW f H H'){bs:List Nat}{av:aC}(h:KA H f bs av=true){v:Value}(hv:bh P H κ F w av v):bh P H' (λb=>κ (f b)) F' w (.agg bs.length (uR cG bs)) v:=by
 unfold KA at h;split at h
 ·rename_i n cX;simp only[Bool.and_eq_true,beq_iff_eq]at h;obtain⟨rfl,e⟩:=h;obtain⟨aA,h1,h2,h3⟩:=hv;refine⟨aA,h1,h2,λi E=>?_⟩;have he:=List.all_eq_true.1 e i (by grind);obtain⟨hv,hc⟩:=h3 i E;refine⟨?_,hc⟩;rw[show bs[i]?=some bs[i] by simp]at he;rw[Sm he]at hv;have:uR cG bs i=.own bs[i] 0:=by simp[uR,gL,List.getD_eq_getElem?_getD,E,cG]
  rw[this];refine⟨⟨Nat.zero_le _,hv.1.2⟩,λ_ hc=>?_⟩;obtain⟨aM,aO,_⟩:=(az bs[i]).2.2.1 hc;rw[aO];exact hv.2 rfl aM
 grind
theorem w8(aL:∀ b,cf P H κ F w b)(ba:∀ r,F r->F' r)(az:rW f H H')(t:bG){av:aC}{R:Type}{r:Option (R×List Nat)}{z:t.cons R}{l:List Nat}(h:t.iL H f av r=some (z,l)) :
  KX P H H' κ f F F' w r l av (t.av cG z).1 (t.av cG z).2:=by
 cases t with
 | undef=>exact .hg h λ_ _=>by simp only[bG.av,bh]
 | val t=>
  obtain⟨eD,m,hx,rfl,rfl⟩:=pW h;exact⟨m,rfl,λb aa=>List.mem_append_right _ aa,λah v hv=>lS aL ba hx ah.left hv⟩
 | dx t=>
  obtain⟨rfl,rfl⟩:=KY h;exact .hg rfl λv ⟨p,a7,h1,h2,h3⟩=>⟨p,a7,h1,h2.mono ba (cD.refl _ _),eP _ ba (cD.refl _ _) h3⟩
 | loc b off=>
  obtain⟨h1,h2⟩:=kh h;obtain rfl:=Sl h1;exact .hg h2 λv hv=>Sk az hv
 | own b=>
  obtain⟨h1,h2⟩:=kh h;obtain rfl:=Sm h1;refine .hg h2 λv hv=>⟨⟨Nat.zero_le _,hv.1.2⟩,λ_ hc=>?_⟩
  obtain⟨aM,aO,_⟩:=(az b).2.2.1 hc;simp only[cG];rw[aO];exact hv.2 rfl aM
 | sub b=>
  obtain⟨h1,h2⟩:=KZ h;refine .hg h1 λv hv=>?_;rcases h2 with rfl | ⟨rfl,eL,h3⟩
  ·refine⟨⟨Nat.zero_le _,hv.1.2⟩,λ_ hc=>?_⟩;obtain⟨aM,aO,bz⟩:=(az b).2.2.1 hc;simp only[cG]at aO bz ⊢;rw[aO,bz];exact hv.2 rfl aM
  ·refine⟨⟨Nat.zero_le _,hv.1.2⟩,λ_ hc=>?_⟩;obtain⟨aM,aO,bz⟩:=(az b).2.2.1 hc;have:=hv.2 rfl aM;simp only[cG]at aO bz ⊢;rw[aO,bz,h3];refine⟨⟨Nat.zero_le _,Nat.le_refl _⟩,?_⟩;rw[this];unfold bk.slice;cases ax:(κ (f b)).eI with
   | true=>exact .inl ⟨ax,rfl⟩
   | false=>exact .inr ⟨ax,(κ (f b)).off,by simp,by simp,λ_=>by simp⟩
 | fk b=>
  obtain⟨h1,h2⟩:=kh h;obtain rfl:=aef h1;exact .hg h2 λv hv=>⟨⟨Nat.zero_le _,hv.1.2⟩,λ_ hc=>hv.2 rfl ((az b).2.2.2.1 hc)⟩
 | jM b=>
  obtain⟨h1,h2⟩:=kh h;obtain rfl:=aeg h1;exact .hg h2 λv hv=>⟨⟨Nat.zero_le _,hv.1.2⟩,λ_ hc=>hv.2 rfl ((az b).2.2.2.2.1 hc)⟩
 | cQ=>
  obtain⟨h1,h2⟩:=kh h;obtain rfl:=aeh h1;exact .hg h2 λv hv=>hv
 | ib k fA=>
  obtain⟨h1,h2⟩:=kh h;exact .hg h2 λv hv=>aei az h1 hv
 | hh bs=>
  obtain⟨h1,h2⟩:=kh h;exact .hg h2 λv hv=>aej az h1 hv
 | iE b=>
  obtain⟨h1,rfl⟩:=K1 h;refine .hg h1 λv hv=>⟨⟨Nat.zero_le _,hv.1.2⟩,λ_ hc=>?_⟩
  obtain⟨aM,aO,bz⟩:=(az b).2.2.1 hc;have:=hv.2 rfl aM;simp only[cG]at aO bz ⊢;rw[aO,bz];exact this
 | tr aH=>
  obtain⟨h1,rfl⟩:=FP h;exact .hg h1 λv hv=>hv
 | gJ=>
  obtain⟨h1,rfl⟩:=K2 h;exact .hg h1 λv hv=>hv
theorem aek(aL:∀ b,cf P H κ F w b)(ba:∀ r,F r->F' r)(az:rW f H H'):∀ (ts:List bG) {c:Nat->aC} {i:Nat} {R:Type} {r:Option (R×List Nat)} {z:pU ts R} {l:List Nat},zh H f ts c i r=some (z,l)->
  ∃ m,r=some ((oZ cG ts z).2,m)/\(∀ b∈m,b∈l)/\(iF H κ F' l->∀ j,j<ts.length->∀ v,bh P H κ F w (c (i+j)) v->bh P H' (λb=>κ (f b)) F' w ((oZ cG ts z).1.getD j .undef) v):=by
 intro ts;induction ts with
 | nil=>intro c i R r z l h;exact⟨l,h,λ_ aa=>aa,λ_ j aB=>by cases aB⟩
 | cons t ts aG=>
  intro c i R r z l h;obtain⟨m1,h1,h2,h3⟩:=w8 (F':=F') (H':=H') aL ba az t h;obtain⟨m2,aM,aO,f'⟩:=aG h1;refine⟨m2,aM,λb aa=>h2 b (aO b aa),λah j aB v hv=>?_⟩;cases j with
  | zero=>exact h3 ah v hv
  | succ j=>
   have:=f' (λb aa=>ah b (h2 b aa)) j (by grind) v (by grind);simpa [oZ]using this
theorem ael(aL:∀ b,cf P H κ F w b)(ba:∀ r,F r->F' r)(az:rW f H H'):∀ (ts:List (Nat×bG)) {c:Nat->aC} {R:Type} {r:Option (R×List Nat)} {z:n6 ts R} {l:List Nat},wY H f ts c r=some (z,l)->
  ∃ m,r=some ((dY cG ts z).2,m)/\(∀ b∈m,b∈l)/\(iF H κ F' l->∀ i v,bh P H κ F w (c i) v->bh P H' (λb=>κ (f b)) F' w (e5 (dY cG ts z).1 i) v):=by
 intro ts;induction ts with
 | nil=>intro c R r z l h;exact⟨l,h,λ_ aa=>aa,λ_ _ _ _=>by simp only[dY,e5,bh]⟩
 | cons p ts aG=>
  intro c R r z l h;obtain⟨m1,h1,h2,h3⟩:=w8 (F':=F') (H':=H') aL ba az p.2 h;obtain⟨m2,aM,aO,f'⟩:=aG h1;refine⟨m2,aM,λb aa=>h2 b (aO b aa),λah i v hv=>?_⟩;simp only[dY,e5];split
  ·grind
  ·exact f' (λb aa=>ah b (h2 b aa)) i v hv
theorem FQ(t:bG){av:aC}{R:Type}{r:Option (R×List Nat)}{z:t.cons R}{l:List Nat}(h:t.iL H f av r=some (z,l)):∃ m,r=some ((t.av cG z).2,m)/\∀ b∈m,b∈l:=by
 cases t with
 | undef=>exact⟨l,h,λ_ h=>h⟩
 | val t=>obtain⟨_,m,_,h2,h3⟩:=pW h;exact⟨m,h2,λb aa=>h3 ▸ List.mem_append_right _ aa⟩
 | dx t=>exact⟨l,(KY h).2,λ_ h=>h⟩
 | sub b=>exact⟨l,(KZ h).1,λ_ h=>h⟩
 | tr aH=>exact⟨l,(FP h).1,λ_ h=>h⟩
 | gJ=>exact⟨l,(K2 h).1,λ_ h=>h⟩
 | iE b=>exact⟨l,(K1 h).1,λ_ h=>h⟩
 | loc b off=>exact⟨l,(kh h).2,λ_ h=>h⟩
 | own b=>exact⟨l,(kh h).2,λ_ h=>h⟩
 | fk b=>exact⟨l,(kh h).2,λ_ h=>h⟩
 | jM b=>exact⟨l,(kh h).2,λ_ h=>h⟩
 | cQ=>exact⟨l,(kh h).2,λ_ h=>h⟩
 | ib k fA=>exact⟨l,(kh h).2,λ_ h=>h⟩
 | hh bs=>exact⟨l,(kh h).2,λ_ h=>h⟩
theorem aem:∀ (ts:List bG) {c:Nat->aC} {i:Nat} {R:Type} {r:Option (R×List Nat)} {z:pU ts R} {l:List Nat},zh H f ts c i r=some (z,l)->∃ m,r=some ((oZ cG ts z).2,m)/\∀ b∈m,b∈l:=by
 intro ts;induction ts with
 | nil=>intro c i R r z l h;exact⟨l,h,λ_ h=>h⟩
 | cons t ts aG=>
  intro c i R r z l h;obtain⟨m,h1,h2⟩:=FQ t h;obtain⟨c7,h3,aQ⟩:=aG h1;exact⟨c7,h3,λb aa=>h2 b (aQ b aa)⟩
theorem aen:∀ (ts:List (Nat×bG)) {c:Nat->aC} {R:Type} {r:Option (R×List Nat)} {z:n6 ts R} {l:List Nat},wY H f ts c r=some (z,l)->∃ m,r=some ((dY cG ts z).2,m)/\∀ b∈m,b∈l:=by
 intro ts;induction ts with
 | nil=>intro c R r z l h;exact⟨l,h,λ_ h=>h⟩
 | cons p ts aG=>
  intro c R r z l h;obtain⟨m,h1,h2⟩:=FQ p.2 h;obtain⟨c7,h3,aQ⟩:=aG h1;exact⟨c7,h3,λb aa=>h2 b (aQ b aa)⟩
theorem Cl(t:bG){av:aC}{R:Type}{r:Option (R×List Nat)}{z:t.cons R}{l:List Nat}(h:t.iL H f av r=some (z,l))(G:∀ y m,r=some (y,m)->gi H m):gi H l:=by
 cases t with
 | undef=>exact G _ _ h
 | val t=>obtain⟨_,m,h1,h2,rfl⟩:=pW h;exact (mr h1).append (G _ _ h2)
 | dx t=>exact G _ _ (KY h).2
 | sub b=>exact G _ _ (KZ h).1
 | tr aH=>exact G _ _ (FP h).1
 | gJ=>exact G _ _ (K2 h).1
 | iE b=>exact G _ _ (K1 h).1
 | loc b off=>exact G _ _ (kh h).2
 | own b=>exact G _ _ (kh h).2
 | fk b=>exact G _ _ (kh h).2
 | jM b=>exact G _ _ (kh h).2
 | cQ=>exact G _ _ (kh h).2
 | ib k fA=>exact G _ _ (kh h).2
 | hh bs=>exact G _ _ (kh h).2
theorem aeo:∀ (ts:List bG) {c:Nat->aC} {i:Nat} {R:Type} {r:Option (R×List Nat)} {z:pU ts R} {l:List Nat},zh H f ts c i r=some (z,l)->(∀ y m,r=some (y,m)->gi H m)->gi H l:=by
 intro ts;induction ts with
 | nil=>intro c i R r z l h G;exact G _ _ h
 | cons t ts aG=>intro c i R r z l h G;exact Cl t h λy m aj=>aG aj G
theorem aep:∀ (ts:List (Nat×bG)) {c:Nat->aC} {R:Type} {r:Option (R×List Nat)} {z:n6 ts R} {l:List Nat},wY H f ts c r=some (z,l)->(∀ y m,r=some (y,m)->gi H m)->gi H l:=by
 intro ts;induction ts with
 | nil=>intro c R r z l h G;exact G _ _ h
 | cons p ts aG=>intro c R r z l h G;exact Cl p.2 h λy m aj=>aG aj G
theorem K3{t:ad}{ts:List bG}{iu:bA}{R:Type}{r:Option (R×List Nat)}{z:pU ts R}{l:List Nat}(h:KB H f t ts iu r=some (z,l)):∃ c,iu=.cells t c/\t.size=ts.length/\zh H f ts c 0 r=some (z,l):=by
 unfold KB at h;grind
theorem K4{e:ad}{iu:bA}{R:Type}{r:Option (R×List Nat)}{z:List e.ag×R}{l:List Nat}(h:KC e iu r=some (z,l)):r=some (z.2,l)/\iu=.a6 e z.1:=by
 unfold KC at h;grind
theorem K5{e:ad}{t:bG}{iu:bA}{R:Type}{r:Option (R×List Nat)}{z:(List e.ag×Nat)×t.cons R}{l:List Nat}(h:KF H f e t iu r=some (z,l)):∃ v,iu=.fN e z.1.1 z.1.2 v/\t.iL H f v r=some (z.2,l):=by
 unfold KF at h;grind
theorem K6{k v:ad}{iu:bA}{R:Type}{r:Option (R×List Nat)}{z:List (k.ag×v.ag)×R}{l:List Nat}(h:KD k v iu r=some (z,l)):r=some (z.2,l)/\iu=.mp k v z.1:=by
 unfold KD at h;grind
theorem K7{k v:ad}{iu:bA}{R:Type}{r:Option (R×List Nat)}{z:(Option (k.ag×v.ag)×List (k.ag×v.ag))×R}{l:List Nat}(h:KE k v iu r=some (z,l)):r=some (z.2,l)/\iu=.b6 k v z.1.1 z.1.2:=by
 unfold KE at h;grind
theorem K8{t:ad}{iu:bA}{R:Type}{r:Option (R×List Nat)}{z:t.ag×R}{l:List Nat}(h:KG H t iu r=some (z,l)):∃ c,iu=.cells t c/\wW H t (.agg t.size c) r=some (z,l):=by
 unfold KG at h;grind
theorem K9{t:ad}{b:Nat}{R:Type}{r:Option (R×List Nat)}{z:t.ag×R}{l:List Nat}(h:KH H t b r=some (z,l)):∃ eD m,(da (.bp t) (.loc b (H b).gen 0)).run H=some (some z.1,eD)/\r=some (z.2,m)/\l=eD++m:=by
 unfold KH at h;split at h
 ·rename_i x eD hx;split at h
  ·cases h;exact⟨eD,_,hx,rfl,rfl⟩
  ·cases h
 ·cases h
theorem Sn{e:ad}{b:Nat}{xs:List e.ag}{l:List Nat}(h:(da (.slice e) (.own b (H b).gen)).run H=some (xs,l)):(H b).body=.a6 e xs\/(H b).body=.hd e xs:=by
 simp only[da,j8,ad.d_,if_true,dy,ao.eF,ao.bw]at h;split at h
 ·rename_i aR ys aa;simp only[Option.map_eq_some_iff,Prod.mk.injEq]at h;obtain⟨z,a8,rfl,_⟩:=h;obtain⟨qD,rfl⟩:=kq a8;grind
 ·rename_i aR ys aa;simp only[Option.map_eq_some_iff,Prod.mk.injEq]at h;obtain⟨z,a8,rfl,_⟩:=h;obtain⟨qD,rfl⟩:=kq a8;grind
 grind
theorem aeq{k v:ad}{b:Nat}{xs:List (k.ag×v.ag)}{l:List Nat}(h:(da (.map k v) (.fk b (H b).gen)).run H=some (xs,l)):(H b).body=.mp k v xs\/(H b).body=.iT k v xs:=by
 simp only[da,j8,ad.d_,if_true,dy,ao.eF,ao.bw]at h;split at h
 ·rename_i k' hL ys aa;simp only[Option.map_eq_some_iff,Prod.mk.injEq]at h;obtain⟨z,a8,rfl,_⟩:=h;obtain⟨qD,rfl⟩:=kq a8;grind
 ·rename_i k' hL ys aa;simp only[Option.map_eq_some_iff,Prod.mk.injEq]at h;obtain⟨z,a8,rfl,_⟩:=h;obtain⟨qD,rfl⟩:=kq a8;grind
 grind
theorem aer{t:ad}{b:Nat}{x:Option t.ag}{l:List Nat}(h:(da (.bp t) (.loc b (H b).gen 0)).run H=some (x,l)):(H b).body.fm=true:=by
 simp only[da,j8,sU,ao.eF,and_self,if_true]at h;split at h
 ·rename_i aa;rw[aa];rfl
 ·rename_i aa;rw[aa];rfl
 ·cases h
theorem bM.Sp(t:bM){b:Nat}{R:Type}{r:Option (R×List Nat)}{z:t.cons R}{l:List Nat}(h:t.iL H f b r=some (z,l)) :
  (∃ m,r=some ((t.body cG z).2,m)/\∀ c∈m,c∈l)/\n9 (H b).body (t.body cG z).1/\∀ k,(t.body cG z).1.bI k=true->t.Cb=true:=by
 cases t with
 | cells t ts=>
  obtain⟨c,e,hs,h⟩:=K3 h;refine⟨aem ts h,?_,λ_ _=>rfl⟩;rw[e];exact⟨λ_=>rfl,λh=>(by cases h),λh=>(by cases h),λh=>(by cases h),λ_ _=>rfl⟩
 | a6 e=>
  obtain⟨h1,h2⟩:=K4 h;refine⟨⟨l,h1,λ_ h=>h⟩,?_,λ_ _=>rfl⟩;rw[h2];exact n9.refl _
 | hd e=>
  obtain⟨eD,m,h1,h2,rfl⟩:=pW h;refine⟨⟨m,h2,λ_ h=>List.mem_append_right _ h⟩,?_,λ_ h=>(by cases h)⟩;rcases Sn h1 with e | e<;>rw[e]
  ·exact⟨λh=>(by cases h),λ_=>⟨rfl,rfl,rfl⟩,λh=>(by cases h),λh=>(by cases h),λ_ h=>(by cases h)⟩
  ·exact n9.refl _
 | mp k v=>
  obtain⟨h1,h2⟩:=K6 h;refine⟨⟨l,h1,λ_ h=>h⟩,?_,λ_ _=>rfl⟩;rw[h2];exact n9.refl _
 | iT k v=>
  obtain⟨eD,m,h1,h2,rfl⟩:=pW h;refine⟨⟨m,h2,λ_ h=>List.mem_append_right _ h⟩,?_,λ_ h=>(by cases h)⟩;rcases aeq h1 with e | e<;>rw[e]
  ·exact⟨λh=>(by cases h),λh=>(by cases h),λ_=>rfl,λh=>(by cases h),λ_ h=>(by cases h)⟩
  ·exact n9.refl _
 | fH t=>
  obtain⟨c,e,h⟩:=K8 h;obtain⟨eD,m,h1,h2,rfl⟩:=pW h;refine⟨⟨m,h2,λ_ h=>List.mem_append_right _ h⟩,?_,λ_ _=>rfl⟩;rw[e];exact⟨λ_=>rfl,λh=>(by cases h),λh=>(by cases h),λh=>(by cases h),λ_ _=>rfl⟩
 | gg t=>
  obtain⟨eD,m,h1,h2,rfl⟩:=K9 h;refine⟨⟨m,h2,λ_ h=>List.mem_append_right _ h⟩,?_,λ_ h=>(by cases h)⟩;exact⟨λ_=>aer h1,λh=>(by cases h),λh=>(by cases h),λh=>(by cases h),λ_ h=>(by cases h)⟩
 | b6 k v=>
  obtain⟨h1,h2⟩:=K7 h;refine⟨⟨l,h1,λ_ h=>h⟩,?_,λ_ _=>rfl⟩;rw[h2];exact n9.refl _
 | fN e t=>
  obtain⟨v,e1,h⟩:=K5 h;refine⟨FQ t h,?_,λ_ _=>rfl⟩;rw[e1];exact⟨λh=>(by cases h),λ_=>⟨rfl,rfl,rfl⟩,λh=>(by cases h),λh=>(by cases h),λ_ h=>h⟩
theorem bM.Cl(t:bM){b:Nat}{R:Type}{r:Option (R×List Nat)}{z:t.cons R}{l:List Nat}(h:t.iL H f b r=some (z,l))(G:∀ y m,r=some (y,m)->gi H m):gi H l:=by
 cases t with
 | cells t ts=>obtain⟨c,e,hs,h⟩:=K3 h;exact aeo ts h G
 | a6 e=>exact G _ _ (K4 h).1
 | hd e=>obtain⟨eD,m,h1,h2,rfl⟩:=pW h;exact (mr h1).append (G _ _ h2)
 | mp k v=>exact G _ _ (K6 h).1
 | iT k v=>obtain⟨eD,m,h1,h2,rfl⟩:=pW h;exact (mr h1).append (G _ _ h2)
 | fH t=>obtain⟨c,e,h⟩:=K8 h;obtain⟨eD,m,h1,h2,rfl⟩:=pW h;exact (mr h1).append (G _ _ h2)
 | gg t=>obtain⟨eD,m,h1,h2,rfl⟩:=K9 h;exact (mr h1).append (G _ _ h2)
 | b6 k v=>exact G _ _ (K7 h).1
 | fN e t=>obtain⟨v,_,h⟩:=K5 h;exact Go.Fer.Cl t h G
theorem bM.aes(aL:∀ b,cf P H κ F w b)(ba:∀ r,F r->F' r)(az:rW f H H')(t:bM){b:Nat}{R:Type}{r:Option (R×List Nat)}{z:t.cons R}{l:List Nat}(h:t.iL H f b r=some (z,l))(ah:iF H κ F' l) :
  jl P H' (λb=>κ (f b)) F' w (κ b) (t.body cG z).1:=by
 have aa:=aL b;unfold cf at aa;cases t with
 | cells t ts=>
  obtain⟨c,e,hs,h⟩:=K3 h;rw[e]at aa;obtain⟨cs,T,aM,aO,bz⟩:=aa;obtain⟨m,_,_,f'⟩:=aek (H':=H') aL ba az ts h;refine⟨cs,T,aM,aO,λi E=>⟨?_,(bz i E).2⟩⟩;have:=f' ah i (by omega) _ (by rw[Nat.zero_add];exact (bz i E).1);exact this
 | a6 e=>
  rw[(K4 h).2]at aa;refine⟨aa.1,λax=>?_⟩;obtain⟨cs,T,h1,h2,h3,aQ,bu⟩:=aa.2 ax;exact⟨cs,T,h1,h2,h3,aQ,bu.mono ba (cD.refl _ _)⟩
 | hd e=>
  obtain⟨eD,m,h1,h2,rfl⟩:=pW h;have uI:=Sn h1;have w9:=lS (v:=(κ b).slice (H b).body.len) aL ba h1 ah.left ⟨⟨Nat.le_refl _,by unfold bk.slice;split<;>rfl⟩,λ_ _=>rfl⟩;have:=((dw rfl).1 w9).2;rcases uI with aR | aR<;>(rw[aR]at this;exact this)
 | mp k v=>
  rw[(K6 h).2]at aa;obtain⟨ms,clk,h1,h2⟩:=aa;exact⟨ms,clk,h1,h2.mono ba (cD.refl _ _)⟩
 | iT k v=>
  obtain⟨eD,m,h1,h2,rfl⟩:=pW h;have w9:=lS (v:=.map (some (κ b).ab)) aL ba h1 ah.left ⟨⟨Nat.le_refl _,rfl⟩,λ_ _=>rfl⟩;exact ((dw rfl).1 w9).2
 | fH t=>
  obtain⟨c,e,h⟩:=K8 h;rw[e]at aa;obtain⟨cs,T,aM,aO,bz⟩:=aa;obtain⟨eD,m,hx,_,rfl⟩:=pW h;have hv:bh P H κ F w (.agg t.size c) (.agg cs):=⟨cs.toList,by simp,by omega,λj aB=>by
   simp_all⟩
  have w9:=lS (F':=F') aL ba hx ah.left hv;have ig:=yI (P:=P) (H:=H') (κ:=λb=>κ (f b)) t w9.2;refine⟨cs,T,aM,aO,λi E=>⟨?_,(bz i E).2⟩⟩;have:=(ig.kr i (by rw[ig.len];simpa [Value.cells,aO]using E)).1;rw[List.getD_eq_getElem?_getD]at this;rw[Array.getD_eq_getD_getElem?];simpa [Value.cells]using this
 | gg t=>
  obtain⟨eD,m,h1,h2,rfl⟩:=K9 h;have w9:=lS (v:=.pointer (some ⟨(κ b).ab,0,none⟩)) aL ba h1 ah.left ⟨⟨Nat.le_refl _,rfl⟩,λ_ _=>rfl⟩;rcases ((dw rfl).1 w9).2 with⟨_,e⟩ | ⟨p,y,a7,e1,e2,h3,aQ⟩
  ·cases e
  ·simp only[List.cons.injEq,Value.pointer.injEq,Option.some.injEq,and_true]at e1;subst e1;cases e2;exact⟨a7,h3,aQ⟩
 | b6 k v=>
  rw[(K7 h).2]at aa;exact wq.mono aa ba (cD.refl _ _) rfl
 | fN e t=>
  obtain⟨v,e1,h⟩:=K5 h;rw[e1]at aa;obtain⟨h0,cs,T,h1,h2,h3,aQ,bu,cW,fK,iS⟩:=aa;obtain⟨m,_,_,f'⟩:=w8 (F':=F') (H':=H') aL ba az t h;refine⟨h0,cs,T,h1,h2,h3,aQ,bu,λj aB qu=>?_,f' ah _ fK,iS⟩;obtain⟨a7,d1,d2⟩:=cW j aB qu;exact⟨a7,d1,eP e ba (cD.refl _ _) d2⟩
theorem aet:∀ (l:List (Nat×bM)) {x:oY l} {m:List Nat},wX H f l=some (x,m)->∀ b,ek (gN cG l x) b=⟨0,.fb⟩\/
  ∃ iu,ek (gN cG l x) b=⟨0,iu⟩/\n9 (H (f b)).body iu/\∃ t,(b,t)∈l/\∀ k,iu.bI k=true->t.Cb=true:=by
 intro l;induction l with
 | nil=>intro x m _ b;exact .inl rfl
 | cons q l aG=>
  intro x m h b;obtain⟨c8,q2⟩:=q;simp only[wX]at h;obtain⟨⟨c7,h1,h2⟩,h3,aQ⟩:=bM.Sp q2 h;by_cases e:b=c8
  ·subst e;exact .inr ⟨_,by simp only[gN,ek,if_true],h3,q2,by simp,aQ⟩
  ·rcases aG h1 b with k | ⟨iu,aM,aO,t,bz,f'⟩
   ·exact .inl (by simpa [gN,ek,e]using k)
   ·exact .inr ⟨iu,by simpa [gN,ek,e]using aM,aO,t,List.mem_cons_of_mem _ bz,f'⟩
theorem aeu:∀ (l:List (Nat×bM)) {x:oY l} {m:List Nat},wX H f l=some (x,m)->gi H m:=by
 intro l;induction l with
 | nil=>intro x m h;cases h;exact .nil H
 | cons q l aG=>intro x m h;exact bM.Cl q.2 h λy m aj=>aG aj
theorem aev(aL:∀ b,cf P H κ F w b)(ba:∀ r,F r->F' r)(az:rW f H H'):∀ (l:List (Nat×bM)) {x:oY l} {m:List Nat},wX H f l=some (x,m)->iF H κ F' m->∀ b,jl P H' (λb=>κ (f b)) F' w (κ (f b)) (ek (gN cG l x) b).body:=by
 intro l;induction l with
 | nil=>intro x m _ _ b;trivial
 | cons q l aG=>
  intro x m h aj b;obtain⟨c8,q2⟩:=q;simp only[wX]at h;obtain⟨⟨c7,h1,h2⟩,_⟩:=bM.Sp q2 h;by_cases e:b=c8
  ·subst e;simp only[gN,ek,if_true];exact bM.aes aL ba az q2 h aj
  ·have:=aG h1 (λc hc=>aj c (h2 c hc)) b;simpa [gN,ek,e]using this
theorem aew:∀ (ts:List (Nat×bG)) {c:Nat->aC} {R:Type} {r:Option (R×List Nat)} {z:n6 ts R} {l:List Nat},wY H f ts c r=some (z,l)->∀ {i l' aH L n st},e5 (dY cG ts z).1 i=.tr l' aH L n st->c i=.tr l' aH L n st:=by
 intro ts;induction ts with
 | nil=>intro c R r z l _ i l' aH L n st e;cases e
 | cons p ts aG=>
  intro c R r z l h i l' aH L n st e;obtain⟨jt,t⟩:=p;simp only[wY]at h;obtain⟨m,h1,_⟩:=FQ t h;simp only[dY,e5]at e;split at e
  ·rename_i aex;subst aex;cases t with
   | tr kf=>
    obtain⟨_,h3⟩:=FP h;rw[h3];exact e
   | _=>cases e
  grind
end
structure FR(C:bP)(s:ay)(a:Act)(w:World)(κ:Nat->bk)(f:Nat->Nat)(F':Nat->Prop)(sh:dh)(A:sh.ag)(fl:List Nat):Prop where
 bD:∀ i,bh C.P (sh.st A).ab (λb=>κ (f b)) F' w ((sh.st A).au i) (a.tmps.getD i Go.undef)
 bl:∀ b,cf C.P (sh.st A).ab (λb=>κ (f b)) F' w b
 bI:∀ b,((sh.st A).ab b).body.bI (κ (f b))=true->f b ∉ fl/\(s.ab (f b)).body.bI (κ (f b))=true/\b∈sh.n7
 zq:rW f s.ab (sh.st A).ab
 tr:∀ l aH L n st,(sh.st A).au TRS=.tr l aH L n st->s.au TRS=.tr l aH L n st
theorem dh.Sq{C:bP}{sh:dh}{f:Nat->Nat}{s:ay}{a:Act}{w:World}{κ:Nat->bk}{F:Nat->Prop}{A:sh.ag}{fl:List Nat}(h:sh.zi f s=some (A,fl))(G:a_ C s a w κ F) :
  ∃ F',(∀ r,F r->F' r)/\a_ C (s.ca fl) a w κ F'/\FR C s a w κ f F' sh A fl:=by
 unfold dh.zi at h;split at h
 ·rename_i ir awq n3;split at h
  ·rename_i eL;cases h;obtain⟨m,h1,aj⟩:=aen sh.bD n3;have lk:gi s.ab fl:=aep sh.bD n3 λy m aj=>aeu sh.bl aj;obtain⟨F',f1,aW,f2⟩:=a_.kO lk G;have Sr:=aet sh.bl h1;have tt:rW f s.ab (sh.st A).ab:=by
    intro b;show (ek (gN cG sh.bl (dY cG sh.bD A).2) b).gen=0/\n9 (s.ab (f b)).body (ek (gN cG sh.bl (dY cG sh.bD A).2) b).body;rcases Sr b with e | ⟨iu,e,k,_⟩
    ·rw[e];exact⟨rfl,n9.fb _⟩
    grind
   obtain⟨m2,_,_,aey⟩:=ael (F':=F') (w:=w) G.bl f1 tt sh.bD n3;refine⟨F',f1,aW,{ bD:=λi=>aey f2 i _ (G.bD i),bl:=λb=>?_,bI:=λb aa=>?_,zq:=tt,tr:=λl aH L n st e=>aew sh.bD n3 e }⟩
   ·exact aev G.bl f1 tt sh.bl h1 (λc hc=>f2 c (aj c hc)) b
   ·have an:=(tt b).2.2.2.2.2 _ aa;rcases Sr b with e | ⟨iu,e,_,t,aF,awr⟩
    ·have e:(sh.st A).ab b=_:=e;rw[e]at aa;cases aa
    ·have e:(sh.st A).ab b=_:=e;rw[e]at aa;have aX:b∈sh.n7:=List.mem_filterMap.2 ⟨(b,t),aF,by grind⟩;grind
  grind
 grind
theorem FR.w_{C:bP}{s:ay}{a:Act}{w:World}{κ:Nat->bk}{f:Nat->Nat}{F':Nat->Prop}{sh:dh}{A:sh.ag}{fl:List Nat}(h:FR C s a w κ f F' sh A fl){b:Nat}(aa:((sh.st A).ab b).body.bI (κ (f b))=true) :
  ((s.ca fl).ab (f b)).body.bI (κ (f b))=true:=by
 obtain⟨h1,h2,_⟩:=h.bI b aa;simp only[ay.ca,if_neg h1];exact h2
theorem K_{C:bP}{s:ay}{a:Act}{w:World}{κ:Nat->bk}{F:Nat->Prop}(G:a_ C s a w κ F){b:Nat}{e:ad} :
  a_ C (s.b_ b ⟨(s.ab b).gen+1,.a6 e []⟩) a w (λi=>if i=b then ⟨0,0,0,true⟩ else κ i) F:=
 G.BU (k:=⟨0,0,0,true⟩) (Nat.lt_succ_self _) (.inl rfl) (Nat.le_refl _) (λ_ _=>rfl) (λh=>by cases h) (cL.refl _) λ_ _=>⟨λ_=>rfl,λh=>by cases h⟩
theorem aez{C:bP}{s:ay}{a:Act}{w:World}{κ:Nat->bk}{F:Nat->Prop}(G:a_ C s a w κ F){i b aZ g':Nat}(hs:s.au i=.own aZ g'):∃ κ',a_ C (KJ s i b aZ g') a w κ' F:=by
 unfold KJ;split
 ·rename_i e xs ar bC;obtain⟨dX,rfl⟩:=of_decide_eq_true ar;generalize mu:(λj=>if j=b then (⟨(s.ab b).gen+1,.a6 e xs⟩:bt) else if j=aZ then ⟨(s.ab aZ).gen+1,.fb⟩ else s.ab j)=H';generalize iv:(λj=>if j=b then κ aZ else κ j)=κ';have h1:H' b=⟨(s.ab b).gen+1,.a6 e xs⟩:=by grind
  have h2:H' aZ=⟨(s.ab aZ).gen+1,.fb⟩:=by grind
  have h3:∀ j,j≠b->j≠aZ->H' j=s.ab j:=λj aM aO=>by grind
  have aM:κ' b=κ aZ:=by grind
  have bz:∀ j,j≠b->κ' j=κ j:=λj k=>by grind
  have ah:eZ s.ab κ H' κ':=by
   rw[Bm];intro j;by_cases e1:j=b
   ·subst e1;rw[h1];exact⟨Nat.le_succ _,λe=>absurd e (Nat.ne_of_lt (Nat.lt_succ_self _))⟩
   ·by_cases e2:j=aZ
    ·subst e2;rw[h2];exact⟨Nat.le_succ _,λe=>absurd e (Nat.ne_of_lt (Nat.lt_succ_self _))⟩
    ·rw[h3 j e1 e2,bz j e1];exact pI.refl _ _
  have fP:∀ j,(H' j).body.bI (κ' j)=true->(j=b/\(s.ab aZ).body.bI (κ aZ)=true)\/(j≠b/\j≠aZ/\(s.ab j).body.bI (κ j)=true):=λj aB=>by
   by_cases e1:j=b
   ·grind
   ·by_cases e2:j=aZ
    ·subst e2;rw[h2]at aB;cases aB
    grind
  have h:=G.move (H':=H') (κ':=κ') (F':=F) (w':=w) ah (λ_ h=>h) (λ_ h=>.inl h) (Nat.le_refl _) (λ_ _ _=>rfl) (cL.refl w)
   (λ_ j=>by
    by_cases e1:j=b
    ·subst e1;have aL:=G.bl aZ;unfold cf at aL ⊢;rw[bC]at aL;rw[h1,aM];exact aL
    ·by_cases e2:j=aZ
     ·subst e2;unfold cf;rw[h2];trivial
     ·exact cf.kL (G.bl j) ah (λ_ h=>h) (cD.refl _ _) (by grind) (bz j e1) λ_=>rfl)
   (λj aB=>by
    rcases fP j aB with⟨rfl,h⟩ | ⟨e1,_,h⟩
    ·rw[aM];have:=G.own aZ h;grind
    ·rw[bz j e1];have:=G.own j h;grind)
   (λj jT aB fx e=>by
    rcases fP j aB with⟨rfl,h⟩ | ⟨e1,e2,h⟩<;>rcases fP jT fx with⟨rfl,cX⟩ | ⟨Ss,aeA,cX⟩
    ·rfl
    ·rw[aM,bz jT Ss]at e;exact absurd (G.inj aZ jT h cX e).symm aeA
    ·rw[aM,bz j e1]at e;exact absurd (G.inj j aZ h cX e) e2
    ·rw[bz j e1,bz jT Ss]at e;exact G.inj j jT h cX e)
   G.cK
   (λj _ aB=>by
    by_cases e1:j=b
    ·subst e1;rw[h1]at aB;rcases aB with aB | aB<;>cases aB
    ·by_cases e2:j=aZ
     ·subst e2;rw[h2]at aB;rcases aB with aB | aB<;>cases aB
     grind)
  refine⟨κ',{ h with bD:=λj=>?_,df:=h.df,dfr:=h.dfr,bl:=h.bl,pro:=λl aH L n st aR=>?_ }⟩
  ·show bh C.P _ _ F w (if j=i then .own b ((s.ab b).gen+1) else s.au j) _;split
   ·rename_i e;subst e;have hv:=G.bD j;rw[hs]at hv;have hZ:=hv.2 rfl (by rw[bC];rfl);rw[bC]at hZ;exact⟨⟨by grind,hv.1.2⟩,λ_ _=>by grind⟩
   ·exact h.bD j
  ·have aR:(if TRS=i then .own b ((s.ab b).gen+1) else s.au TRS)=.tr l aH L n st:=aR;split at aR
   ·cases aR
   ·exact h.pro l aH L n st aR
 grind
theorem aeB{C:bP}{bs:List (Nat×bM)}{s:ay}{a:Act}{w:World}{κ:Nat->bk}{F:Nat->Prop}(G:a_ C s a w κ F)(i b:Nat):∃ κ',a_ C (KK bs s i b) a w κ' F:=by
 unfold KK;split
 ·rename_i e hs _;have h:=K_ G (b:=b) (e:=e);refine⟨_,{ h with bD:=λj=>?_,df:=h.df,dfr:=h.dfr,bl:=h.bl,pro:=λl aH L n st aR=>?_ }⟩
  ·show bh C.P _ _ F w (if j=i then .own b ((s.ab b).gen+1) else s.au j) _;split
   ·rename_i e;subst e;have hv:=G.bD j;rw[hs]at hv;have hv:a.tmps.getD j undef=.slice none 0 0:=hv;rw[hv];exact⟨⟨by simp[ay.b_],rfl⟩,λ_ _=>by simp[bk.slice]⟩
   ·exact h.bD j
  ·have aR:(if TRS=i then .own b ((s.ab b).gen+1) else s.au TRS)=.tr l aH L n st:=aR;split at aR
   ·cases aR
   ·exact h.pro l aH L n st aR
 ·rename_i hs _;exact aez G hs
 grind
theorem aeC{C:bP}{bs:List (Nat×bM)}{s:ay}{a:Act}{w:World}{κ:Nat->bk}{F:Nat->Prop}(G:a_ C s a w κ F)(c j b:Nat):∃ κ',a_ C (KL bs s c j b) a w κ' F:=by
 unfold KL;split
 ·rename_i t f hc;split
  ·rename_i e aq ar _;have St:c≠b:=λe=>by grind
   have h:=K_ G (b:=b) (e:=e);have ik:(s.b_ b ⟨(s.ab b).gen+1,.a6 e []⟩).ab c=s.ab c:=by simp[ay.b_,St]
   have aL:=h.bl c;unfold cf at aL;rw[ik,hc]at aL;obtain⟨cs,T,h1,h2,h3⟩:=aL;refine⟨_,h.oL (w':=w) (b:=c) (x:=⟨(s.ab c).gen,.cells t λq=>if q=j then .own b ((s.ab b).gen+1) else f q⟩) (by rw[ik,hc];rfl) rfl
    (qv (by rw[ik]) (λ_=>by rw[ik,hc];rfl) (λh=>by cases h) (λh=>by cases h) (λh=>by cases h)) (λ_=>by rw[ik,hc];rfl) (λh=>by cases h) (λ_ _=>rfl) rfl (cL.refl _) λH mu ah _=>?_⟩
   refine⟨cs,T,h1,h2,λq bd=>⟨?_,(h3 q bd).2⟩⟩;show bh C.P H _ F w (if q=j then .own b ((s.ab b).gen+1) else f q) _;split
   ·rename_i eq;subst eq;have hv:=(h3 q bd).1;rw[aq]at hv;have hv:cs.getD q undef=.slice none 0 0:=hv;rw[hv];have aeD:H b=⟨(s.ab b).gen+1,.a6 e []⟩:=by rw[mu];simp[ay.b_,Ne.symm St]
    exact⟨⟨by grind,rfl⟩,λ_ _=>by rw[aeD];simp[bk.slice]⟩
   ·exact bh.later ah (λ_ h=>h) (cD.refl _ _) (h3 q bd).1
  grind
 grind
theorem aeE{C:bP}(sh:dh){s:ay}{a:Act}{w:World}{κ:Nat->bk}{F:Nat->Prop}(G:a_ C s a w κ F):∃ κ',a_ C (sh.Fu s) a w κ' F:=by
 have h1:∀ (l:List (Nat×bG)) (s:ay) (κ:Nat->bk),a_ C s a w κ F->∃ κ',a_ C (Fq sh.bl l s) a w κ' F:=by
  intro l;induction l with
  | nil=>intro s κ h;exact⟨κ,h⟩
  | cons p l aG=>
   intro s κ h;simp only[Fq];split
   ·obtain⟨κ',cX⟩:=aeB (bs:=sh.bl) h p.1 _;exact aG _ _ cX
   grind
 have h2:∀ (c:Nat) (l:List bG) (j:Nat) (s:ay) (κ:Nat->bk),a_ C s a w κ F->∃ κ',a_ C (Fs sh.bl c l j s) a w κ' F:=by
  intro c l;induction l with
  | nil=>intro j s κ h;exact⟨κ,h⟩
  | cons t l aG=>
   intro j s κ h;simp only[Fs];split
   ·obtain⟨κ',cX⟩:=aeC (bs:=sh.bl) h c j _;exact aG _ _ _ cX
   ·exact aG _ _ _ h
 have h3:∀ (l:List (Nat×bM)) (s:ay) (κ:Nat->bk),a_ C s a w κ F->∃ κ',a_ C (Ft sh.bl l s) a w κ' F:=by
  intro l;induction l with
  | nil=>intro s κ h;exact⟨κ,h⟩
  | cons p l aG=>
   intro s κ h;simp only[Ft];split
   ·obtain⟨κ',cX⟩:=h2 p.1 _ 0 s κ h;exact aG _ _ cX
   grind
 obtain⟨aeF,gl⟩:=h1 sh.bD s κ G;exact h3 sh.bl _ _ gl
theorem Su:∀ (l:List (Nat×bM)) (x:oY l) (b:Nat),(ek (gN cG l x) b).body.eR=true->∃ q∈l,q.1=b/\q.2.R5=true
 | [],_,_,h=>by cases h
 | p::l,x,b,h=>by
  simp only[gN,ek]at h;by_cases e:b=p.1
  ·rw[if_pos e]at h;refine⟨p,by simp,e.symm,?_⟩;obtain⟨jt,t⟩:=p;cases t<;>first | rfl | cases h
  ·rw[if_neg e]at h;obtain⟨q,h1,h2⟩:=Su l _ b h;grind
theorem dh.zr{C:bP}{sh:dh}{s:ay}{a:Act}{w:World}{A:sh.ag}{κ:Nat->bk}{F:Nat->Prop}(h:sh.iL s=some A)(G:a_ C s a w κ F):∃ κ' F',(∀ r,F r->F' r)/\a_ C (sh.st A) a w κ' F':=by
  obtain⟨κ,G⟩:=aeE sh G;unfold dh.iL at h;generalize sh.Fu s=s at h G;split at h;case h_2=>cases h
  rename_i aeG;simp only[Option.map_eq_some_iff]at h;obtain⟨⟨ir,fl⟩,h,rfl⟩:=h;obtain⟨F',f1,aW,ar⟩:=dh.Sq h G;have fP:=λb aa=>ar.w_ (b:=b) aa;exact⟨κ, F', f1, { aW with
    df:=aW.df,dfr:=aW.dfr,bD:=ar.bD,bl:=ar.bl,own:=λb aa=>aW.own b (fP b aa),inj:=λb aZ aa cY=>aW.inj b aZ (fP b aa) (fP aZ cY)
    jm:=λb r G hc=>aW.jm b r G (hc.imp (λhc=>by
      have h0:=(ar.zq b).2.1 hc;simp only[ay.ca];split
      · rcases yW s.ab (s.ab b) with e | ⟨_,_,hx,_⟩ | ⟨_,_,_,hx,_⟩ | ⟨_,_,_,_,_,_,e⟩
        · grind
        · rw[hx]at h0;cases h0
        · rw[hx]at h0;cases h0
        · rw[e];rfl
      omega) (λhc=>by
      have h0:=(ar.zq b).2.2.2.1 hc;simp only[ay.ca];split
      · rcases yW s.ab (s.ab b) with e | ⟨_,_,hx,_⟩ | ⟨_,_,_,_,e⟩ | ⟨_,_,_,_,hx,_,_⟩
        · grind
        · rw[hx]at h0;cases h0
        · rw[e];rfl
        · rw[hx]at h0;cases h0
      omega))
    j7:=λb k an _ aU=>by
      obtain⟨bT,a2,_⟩:=(ar.zq b).2.2.1 aU;have az:(s.ab b).gen=0:=by
        rcases Su sh.bl (dY cG sh.bD ir).2 b aU with⟨q,bd,rfl,iW⟩
        have:=List.all_eq_true.1 aeG q bd;rw[iW]at this;have Fb:=G.jN _ k an;grind
      obtain⟨aM,aO⟩:=G.j7 b k an az bT;grind
    pro:=λl aH L n st e=>by
      obtain⟨h1,h2,Y,h3,aQ,bu⟩:=aW.pro l aH L n st (ar.tr l aH L n st e);grind }⟩
theorem dh.w8{C:bP}{sh:dh}{s:ay}{a:Act}{w:World}{A:sh.ag}(h:sh.iL s=some A)(G:b7 C s a w):b7 C (sh.st A) a w:=by
 obtain⟨κ,F,G⟩:=G;obtain⟨κ',F',_,aW⟩:=dh.zr h G;exact⟨κ',F',aW⟩
end Go.Fer
namespace Go.Fer
open Go.RowKit
def aeH(C:bP)(o:Oper)(s:ay)(pr:hC):Prop:=
 ∀ (a:Act) (w:World) (Q:Exit->Act->World->Prop) (K:Act->World->Prop),b7 C s a w->pr.bQ->M.b9 pr.m (λy=>∀ a' w',b7 C (pr.st y) a' w'->K a' w')->o.wpIn (du C.r) 0 C.P a w K Q
def aeI(C:bP)(o:Oper)(s:ay)(pr:hC):Prop:=
 ∀ gs,pr.Cd=some gs->(∀ y a w,b7 C (pr.st y) a w->b7 C (gs true y) a w)/\∀ a w,b7 C s a w->b7 C (gs false pr.d) (a.put o.dst Go.undef) w
structure pX(C:bP)(o:Oper)(s:ay)(pr:hC):Prop where
 prog:aeH C o s pr
 aws:aeI C o s pr
 awt:qH (aS C.aI s.au) o->pr.bQ
theorem b7.K'{C:bP}{s:ay}{d:Option Nat}{av av':aC}{a:Act}{w:World}(h:b7 C (s.set d av) a w)
  (ar:∀ i,d=some i->i<C.nt) (hv:∀ κ F v,bh C.P s.ab κ F w av v->bh C.P s.ab κ F w av' v):b7 C (s.set d av') a w:=by
 cases d with
 | none=>exact h
 | some d=>
  obtain⟨κ,F,h⟩:=h;have ax:=h.fO;have wv:=ar d rfl;have aF:TRS≠d:=by unfold TRS eo at *;omega
  refine⟨κ,F,{ h with bD:=λi=>?_,df:=h.df,dfr:=h.dfr,bl:=h.bl,pro:=λl aH L n st e=>h.pro l aH L n st ?_ }⟩
  ·have E:=h.bD i;simp only[ay.set]at E ⊢;grind
  ·simp only[ay.set,if_neg aF]at e ⊢;exact e
section
variable {C:bP} {T:Nat->ad} {aY:Nat->Option aJ} {o:Oper} {s:ay}
theorem Cm{args:List Operand}(aa:qH (aS C.aI s.au) o)(aU:∀ x∈args,x∈o.op.operands.toList):jr (args.map (aS C.aI s.au)):=
 B5 λv hv=>by
  simp only[List.mem_map]at hv;obtain⟨p,hp,rfl⟩:=hv;exact aa p (aU p hp)
theorem Sv(a1:∀ i,o.dst=some i->i<C.nt){tr:ad}{fl:List Nat}(lk:gi s.ab fl){d:tr.ag} :
  (∀ (y:tr.ag) a w,b7 C (qK s o tr fl (qw tr y)) a w->b7 C (qK s o tr fl (.hb true (qw tr y))) a w)/\∀ a w,b7 C s a w->b7 C (qK s o tr fl (.hb false (qw tr d))) (a.put o.dst Go.undef) w:=by
 refine⟨λy a w h=>b7.K' h a1 λκ F v hv=>⟨λ_=>hv,λh=>(by cases h)⟩,λa w h=>?_⟩;obtain⟨κ,F,G⟩:=h;obtain⟨F',_,aW,_⟩:=a_.kO lk G;unfold qK;split
 ·exact⟨κ,F,G.set a1 ⟨λh=>(by cases h),λ_=>rfl⟩⟩
 ·exact⟨κ,F',aW.set a1 ⟨λh=>(by cases h),λ_=>rfl⟩⟩
theorem aeJ(a1:∀ i,o.dst=some i->i<C.nt){k:Nat}{args:Array Operand}{cR:Array TypeId}(af:o.op=.call { callee:=.value (.func k),args:=args,argTypes:=cR }){c6:SC}(aq:hK C.P k c6.ts c6.tr c6.sh){pr:hC}
  (h:Ce C.aI s o args.toList c6=some pr):pX C o s pr:=by
 unfold Ce at h;split at h
 ·rename_i x fl hx;cases h;refine⟨λa w Q K G aX aj=>?_,λgs n_=>?_,λaa=>Cm aa λx hx=>by rw[af];simp[Op.operands,Call.operands];simp_all⟩
  ·obtain⟨κ,F,G⟩:=G;exact Ru G aq a1 af aX hx aj.1 λy w' aK v jV=>aj.2 y aK _ _ jV
  ·cases n_;exact Sv a1 (pR _ hx)
 grind
theorem aeK(a1:∀ i,o.dst=some i->i<C.nt){k:Nat}{args:Array Operand}{cR:Array TypeId}(af:o.op=.call { callee:=.value (.func k),args:=args,argTypes:=cR }){c6:SC}(aq:hK C.P k c6.ts c6.tr c6.sh)(Cn:QC C.P k c6.ts c6.tr c6.sh){pr:hC}
  (h:Fy C.aI s o args.toList c6=some pr):pX C o s pr:=by
 unfold Fy at h;split at h
 ·rename_i x fl hx;cases h;refine⟨λa w Q K G aX aj=>?_,λgs n_=>(by grind),λaa=>Cm aa λx hx=>by rw[af];simp[Op.operands,Call.operands];simp_all⟩;obtain⟨κ,F,G⟩:=G;obtain⟨args⟩:=args;have cE:(execOp a.eval o).run C.P w=.ok (.enter k (args.map a.eval).toArray) w:=by
   simp only[execOp,af,Sem.run_bind,resolve,Act.eval,Deferred.ofValue,Sem.run_pure,Result.andThen_ok,invoke];have:=aq.enter (args.map a.eval).toArray w;grind
  obtain⟨F',f1,aW,f2⟩:=a_.kO (pR _ hx) G;have dz:eY C.P c6.ts F' w (args.map a.eval) x:=by
   refine uM G.bl f1 c6.ts hx f2 (by simp) λi E dn=>?_;simp only[List.getElem_map];have db:i<args.length:=by grind
   have h1:=rE aX i (by grind);have e1:(args.map (aS C.aI s.au)).getD i .undef=aS C.aI s.au args[i]:=by grind
   rw[show (List.map (aS C.aI s.au) (⟨args⟩:Array Operand).toList)=args.map (aS C.aI s.au) from rfl,e1]at h1;exact oN (jR G args[i]) h1
  refine B0 (by grind) cE (Cn.iD F' w _ x aW.cK aW.ie dz aj.1) λe w' ⟨v,y,he,aK,fR,aa⟩=>⟨v,he,aj.2 y aK _ _ ⟨κ,_,(G.grow aa).set a1 (BZ ?_)⟩⟩
  obtain⟨aA,c8,q2,q3⟩:=fR;exact⟨aA,c8,q2,eP _ (λr G=>.inr G) (cD.refl _ _) q3⟩
 grind
theorem aeL(a1:∀ i,o.dst=some i->i<C.nt){t:Nat}{args:Array Operand}{cR:Array TypeId}(af:o.op=.call { callee:=.value (.tmp t),args:=args,argTypes:=cR }){pr:hC}
  (h:Cf C.aI s o t args.toList=some pr):pX C o s pr:=by
 unfold Cf at h;split at h
 ·rename_i bQ aH b f hu;split at h
  ·rename_i x fl hx;cases h;obtain⟨args⟩:=args;refine⟨λa w Q K G aX aj=>?_,λgs n_=>?_,λaa=>⟨?_,Cm aa λx hx=>by rw[af];simp[Op.operands,Call.operands];simp_all⟩⟩
   ·obtain⟨κ,F,G⟩:=G;obtain⟨F',f1,aW,f2⟩:=a_.kO (pR _ hx) G;have dz:eY C.P aH F' w (args.map a.eval) x:=by
     refine uM G.bl f1 aH hx f2 (by simp) λi E dn=>?_;simp only[List.getElem_map];have db:i<args.length:=by grind
     have h1:=rE aX.2 i (by grind);have e1:(args.map (aS C.aI s.au)).getD i .undef=aS C.aI s.au args[i]:=by grind
     rw[show (List.map (aS C.aI s.au) (⟨args⟩:Array Operand).toList)=args.map (aS C.aI s.au) from rfl,e1]at h1;exact oN (jR G args[i]) h1
    have FT:bh C.P s.ab κ F w (use (aS C.aI s.au (.tmp t))).2 (a.eval (.tmp t)):=cq G (.tmp t) hu aX.1 |> λh=>by
     have e:use (aS C.aI s.au (.tmp t))=(bQ,.val (.fn aH b) f):=hu;grind
    have e:use (aS C.aI s.au (.tmp t))=(bQ,.val (.fn aH b) f):=hu;rw[e]at FT;obtain⟨_,u,xa,_,sN⟩:=(dw rfl).1 FT;have xa:a.eval (.tmp t)=u:=(List.cons.inj xa).1;obtain⟨g,cC,az,rX,La⟩:=sN F' w f1 (cD.refl _ _) aW.cK aW.ie (args.map a.eval) x dz.1 dz.2 aj.1;have cE:(execOp a.eval o).run C.P w=.ok (.enter g ((args.map a.eval).toArray++cC)) w:=by
     have hv:a.eval (.tmp t)=.func (.func g) #[] cC:=xa.trans az;simp only[execOp,af,Sem.run_bind,resolve,hv,Deferred.ofValue,Sem.run_pure,Result.andThen_ok,invoke];grind
    refine B0 (by grind) cE La λe w' ⟨v,y,aA,he,aK,h1,h2,h3,aa⟩=>⟨v,he,aj.2 y aK _ _ ?_⟩
    have fR:sR C.P b (uv F' w w') w' v y:=⟨aA,h1,h2,h3⟩
    unfold qK;by_cases hp:b.pure=true
    ·rw[if_pos hp];have az:=G.grow aa;refine⟨κ,_,az.set a1 (BZ ?_)⟩;exact⟨aA,h1,Rs hp ⟨h2,h3⟩⟩
    ·rw[if_neg hp];have az:=aW.grow aa;exact⟨κ,_,az.set a1 (BZ fR)⟩
   ·cases n_;exact Sv a1 (pR _ hx)
   ·have:=aa (.tmp t) (by rw[af];simp[Op.operands,Call.operands]);have e:use (aS C.aI s.au (.tmp t))=(bQ,.val (.fn aH b) f):=hu;grind
  grind
 grind
theorem aeM(hT:dv C.P T)(a1:∀ i,o.dst=some i->i<C.nt){ty:TypeId}{x:Operand}(af:o.op=.range ty x){pr:hC}(h:FC C.aI T s o ty x=some pr):pX C o s pr:=by
 unfold FC at h;split at h
 ·rename_i k v d aF ar;split at h;rename_i bQ av hu;split at h
  ·rename_i es fl oQ;split at h
   ·cases h
   ·rename_i ta;cases h;have ta:d ∉ fl:=by grind
    obtain⟨i,j,E,_,_⟩:=(hT.bR aF (by simp)).mp;refine⟨λa w Q K G aX aj=>?_,λgs n_=>(by grind),λaa=>qH.use aa (by rw[af];simp[Op.operands]) hu⟩;obtain⟨κ,F,G⟩:=G;obtain⟨F',f1,aW,f2⟩:=a_.kO (mr oQ) G;have hv:=cq G x hu aX;have nq:=((dw rfl).1 (lS G.bl f1 oQ f2 hv)).2;have iv:=aj.2 () rfl;have oT:(s.ca fl).ab d=s.ab d:=by simp only[ay.ca];grind
    have fin:∀ (b6:Obj),(∀ w',w'=w.alloc b6->wq C.P k v F' w' w.heap.size none es)->(execOp a.eval o).run C.P w=.ok (.value (.pointer (some ⟨w.heap.size,0,none⟩))) (w.alloc b6)->o.wpIn (du C.r) 0 C.P a w K Q:=by
     intro b6 hit cE;have h1:=aW.alloc (b:=d) (x:=⟨(s.ab d).gen+1,.b6 k v none es⟩) (G.gz (a1 d ar)) (by grind) (o:=b6) (k:=⟨w.heap.size,0,0,false⟩) rfl λH κ' _ _ _=>hit _ rfl;refine gW (by grind) cE (iv _ _ ⟨_,F',a_.set (s:=(s.ca fl).b_ d _) h1 a1 ⟨⟨by simp[ay.b_],rfl⟩,λ_ _=>by simp⟩⟩)
    rcases nq with⟨e1,rfl⟩ | ⟨r,ms,clk,e1,m1,m2,m3,m4,m5,m6⟩
    ·have hx:a.eval x=.map none:=(List.cons.inj e1).1;refine fin (.mapIter none 0 #[] 0) (λw' hw=>.inl ⟨by rw[hw];exact pJ _ _,rfl,rfl⟩) ?_;simp[execOp,af,Instr.range,dc E,hx]
    ·have hx:a.eval x=.map (some r):=(List.cons.inj e1).1;refine fin (.mapIter (some r) clk #[] clk) (λw' hw=>.inr ⟨r,ms,clk,#[],m1,?_,by rw[hw];exact pJ _ _,λi E=>(m5 i (by omega) E).2.2.2.2,m6,?_,λc hc=>by cases hc⟩) ?_
     ·rw[hw,oK _ _ (aW.cK r m1)];exact m2
     ·refine⟨List.range ms.size,by grind,List.nodup_range,λi=>by simp,λj aB fx=>?_⟩;have wM:j<ms.size:=by omega
      obtain⟨aM,aO,bz,f',_⟩:=m5 j fx wM;refine⟨by grind,?_⟩;simp only[List.getElem_range];have he:cD F' w w':=by rw[hw];exact cD.alloc aW.cK _
      exact yB.mono ⟨aM,aO,bz,f'⟩ (λ_ h=>h) he
     ·have ew:(getObj r).run C.P w=.ok (.map ms clk) w:=by simp[getObj,Sem.run,m2]
      simp[execOp,af,Instr.range,dc E,hx,ew]
  grind
 grind
theorem aeN(a1:∀ i,o.dst=some i->i<C.nt){x:Operand}(af:o.op=.entry x){pr:hC}(h:FF C.aI s o x=some pr):pX C o s pr:=by
 unfold FF at h;split at h
 ·rename_i b g hx;split at h
  ·rename_i az;split at h
   ·rename_i k v c bZ aa;cases h;refine⟨λa w Q K G _ aj=>?_,λgs n_=>(by grind),λ_=>trivial⟩;obtain⟨κ,F,G⟩:=G;have hv:=jR G x;rw[hx]at hv;have hv:=hv.2 az.symm (by rw[aa];rfl);have aL:=G.bl b;unfold cf at aL;rw[aa]at aL;have eV:=M.ko.1 aj;have iv:=M.dC.1 eV.2;obtain⟨c',ju⟩:=Option.isSome_iff_exists.1 eV.1;subst ju;rcases aL with⟨_,_,e⟩ | ⟨ld,es,clk,seen,h1,h2,h3,aQ,bu,_,fK⟩
    ·cases e
    ·obtain⟨i,E,hs,he⟩:=fK c' rfl;have uN:es.find? (λe=>e.born == es[i].born)=some es[i]:=by
      rw[<-Array.find?_toList];have jy:es[i]∈es.toList:=by simp
      cases aq:es.toList.find? (λe=>e.born == es[i].born) with
      | none=>grind
      | some e=>
       have iS:=List.find?_some aq;have pF:=List.mem_of_find?_eq_some aq;obtain⟨j,aB,rfl⟩:=List.mem_iff_getElem.1 pF;grind
     have Co:(getObj (κ b).ab).run C.P w=.ok (.mapIter (some ld) clk seen clk) w:=by simp[getObj,Sem.run,h3]
     have wP:(getObj ld).run C.P w=.ok (.map es clk) w:=by simp[getObj,Sem.run,h2]
     have cE:(execOp a.eval o).run C.P w=.ok (.value (.tuple #[es[i].key,es[i].val])) w:=by
      simp[execOp,af,Instr.entry,hv,Co,wP,hs,uN]
     refine gW (by grind) cE (iv _ _ ⟨κ,F,G.set a1 ⟨[es[i].key,es[i].val],rfl,rfl,λn ax=>?_⟩⟩);match n,ax with
     | 0,_=>exact⟨he.1,he.2.1⟩
     | 1,_=>exact⟨he.2.2.1,he.2.2.2⟩
   grind
  grind
 grind
theorem aeO{es:Array MapEntry}{seen:Array Nat}{clk:Nat}(aQ:∀ i (h:i<es.size),es[i].born<clk) :
  (es.filter λe=>!seen.contains e.born).filter (λe=>decide (e.born<clk))=(es.filter λe=>!seen.contains e.born)/\(es.filter λe=>!seen.contains e.born).filter (λe=>decide (e.born>=clk))=#[]:=by
 have fj:∀ e∈es.filter λe=>!seen.contains e.born,e.born<clk:=by
  intro e he;have:=(Array.mem_filter.1 he).1;obtain⟨i,E,rfl⟩:=Array.mem_iff_getElem.1 this;grind
 constructor
 ·exact Array.filter_eq_self.2 λe he=>by grind
 ·exact Array.filter_eq_empty_iff.2 λe he=>by grind
theorem aeP(P:Program)(w:World)(n:Nat):∃ j w',(choose (.mapNext n)).run P w=.ok j w'/\(0<n->j<n)/\(w'=w\/w'=w.drew):=by
 rw[run_choose];by_cases h:n<=1
 ·have:(Question.mapNext n).forced=true:=by simp[Question.forced,h]
  rw[this];grind
 ·have:(Question.mapNext n).forced=false:=by simp[Question.forced];omega
  rw[this];exact⟨_,_,rfl,λax=>Nat.mod_lt _ ax,.inr rfl⟩
theorem aeQ(a1:∀ i,o.dst=some i->i<C.nt){x:Operand}{str:Bool}(af:o.op=.next x str){pr:hC}(h:FE C.aI s o x str=some pr):pX C o s pr:=by
  unfold FE at h;split at h
  · rename_i b g hx
    split at h
    · rename_i az
      split at h
      · rename_i k v c bZ aa
        cases h
        refine⟨λa w Q K G _ aj=>?_,λgs n_=>(by grind),λ_=>trivial⟩
        obtain⟨κ,F,G⟩:=G
        have hv:=jR G x
        rw[hx]at hv
        have hv:=hv.2 az.symm (by rw[aa];rfl)
        have aL:=G.bl b
        unfold cf at aL
        rw[aa]at aL
        have ar:∀ c,o.op≠.defer c:=by grind
        have fL:∀ w',(w'=w\/w'=w.drew)->bZ=[]->(execOp a.eval o).run C.P w=.ok (.value (.tuple #[.bool false])) w'->o.wpIn (du C.r) 0 C.P a w K Q:=by
          intro w' Cp rY cE;have cp:a_ C s a w' κ F:=by
            rcases Cp with rfl | rfl
            · exact G
            · exact G.drew
          have Rp:s.b_ b ⟨g,.b6 k v c bZ⟩=s:=by
            unfold ay.b_;congr 1;funext i;by_cases E:i=b
            · rw[if_pos E,E,<-aa,<-az]
            grind
          refine gW ar cE (aj.2 none rY _ _ ⟨κ,F,a_.set (s:=s.b_ b ⟨g,.b6 k v c bZ⟩) (by grind) a1 ⟨[.bool false],rfl,rfl,λn ax=>?_⟩⟩);have:n=0:=by simp only[Sc]at ax;omega
          subst this;exact eQ.2 rfl
        rcases aL with⟨h1,h2,_⟩ | ⟨ld,es,clk,seen,h1,h2,h3,aQ,bu,⟨ids,i1,i2,i3,i4⟩,fK⟩
        · refine fL w (.inl rfl) h2 ?_
          have Co:(getObj (κ b).ab).run C.P w=.ok (.mapIter none 0 #[] 0) w:=by simp[getObj,Sem.run,h1]
          simp[execOp,af,Instr.next,hv,Co]
        · have Co:(getObj (κ b).ab).run C.P w=.ok (.mapIter (some ld) clk seen clk) w:=by simp[getObj,Sem.run,h3]
          have wP:(getObj ld).run C.P w=.ok (.map es clk) w:=by simp[getObj,Sem.run,h2]
          obtain⟨f1,f2⟩:=aeO (seen:=seen) aQ
          have fj:(!seen.isEmpty&&!es.isEmpty&&es.all (λe=>decide (e.born>=clk)))=false:=by
            by_cases he:es.size=0
            · grind
            · have:es.all (λe=>decide (e.born>=clk))=false:=by
                rw[Array.all_eq_false];exact⟨0,by omega,by grind⟩
              grind
          generalize aeR:(es.filter λe=>!seen.contains e.born)=left at f1 f2
          have aeS:((if left.isEmpty=true then #[none] else #[])++Array.map some (left++(#[]:Array MapEntry)))=(if left.isEmpty=true then #[none] else Array.map some left):=by
            grind
          obtain⟨j,w',c1,c2,c3⟩:=aeP C.P w (if left.isEmpty=true then #[none] else Array.map some left).size
          have cy:w'.heap=w.heap:=by rcases c3 with rfl | rfl<;>rfl
          have zt : ∀ r cF, (match (if left.isEmpty = true then #[none] else Array.map some left)[j]? with
                | some (some e)=>(do setObj (κ b).ab (.mapIter (some ld) clk (seen.push e.born) clk);pure (.tuple #[.bool true,e.key,e.val]):Sem Value)
                | some none=>pure (.tuple #[.bool false])
                | none => stuck "Next: no such candidate").run C.P w' = .ok r cF -> (execOp a.eval o).run C.P w = .ok (.value r) cF := by
            intro r cF cp;simp only[execOp,af,Instr.next,hv,Sem.run_bind,Co,Result.andThen_ok,wP,fj,Bool.false_eq_true,if_false,aeR,f1,f2,aeS,c1];exact (congrArg (λ(z:Result Value)=>z.andThen λv w'=>Sem.run C.P (Pure.pure (Next.value v)) w') cp).trans rfl
          by_cases hle:left.isEmpty=true
          · have JS:left=#[]:=by grind
            have rY:bZ=[]:=by
              have:ids=[]:=List.eq_nil_iff_forall_not_mem.2 λi E=>by
                obtain⟨Lb,db⟩:=(i3 i).1 E;have:es[i]∈left:=by
                  grind
                grind
              grind
            rw[hle]at zt c2
            simp only[if_true]at zt c2
            have aB:j=0:=by grind
            subst aB
            exact fL w' c3 rY (zt _ _ rfl)
          · have hle:left.isEmpty=false:=by grind
            rw[hle]at zt c2
            simp only[Bool.false_eq_true,if_false]at zt c2
            have awu:0<left.size:=by
              grind
            have aB:j<left.size:=by grind
            have jy:left[j]∈(es.filter λe=>!seen.contains e.born):=by grind
            obtain⟨tc,Sw⟩:=Array.mem_filter.1 jy
            obtain⟨i0,n5,aeT⟩:=Array.mem_iff_getElem.1 tc
            have aeU:i0∈ids:=(i3 i0).2 ⟨n5,by grind⟩
            obtain⟨q,bd,Lc⟩:=List.mem_iff_getElem.1 aeU
            have Ld:q<bZ.length:=by omega
            have oR:(setObj (κ b).ab (.mapIter (some ld) clk (seen.push left[j].born) clk)).run C.P w'=.ok () { w' with heap:=w'.heap.setIfInBounds (κ b).ab (.mapIter (some ld) clk (seen.push left[j].born) clk) }:=by
              simp[setObj,Sem.run,cy,h3]
            have cE:=zt (.tuple #[.bool true,left[j].key,left[j].val]) { w' with heap:=w'.heap.setIfInBounds (κ b).ab (.mapIter (some ld) clk (seen.push left[j].born) clk) } (by
              rw[show (Array.map some left)[j]?=some (some left[j]) by simp];simp only[Sem.run_bind,oR,Result.andThen_ok,Sem.run_pure])
            have iJ:cL w w':=by rcases c3 with rfl | rfl<;>exact⟨rfl,rfl,rfl⟩
            have b1:(κ b).ab<w.heap.size:=(Array.getElem?_eq_some_iff.1 h3).1
            have dX:ld≠(κ b).ab:=λe=>(G.own b (by grind)).2.1 (e ▸ h1)
            have fS:eZ s.ab κ (λi=>if i=b then (⟨g,.b6 k v bZ[q]? (bZ.eraseIdx q)⟩:bt) else s.ab i) κ:=
              qv az.symm (λh=>by cases h) (λh=>by cases h) (λh=>by cases h) (λ_=>by rw[aa];rfl)
            have gA:=G.oL (b:=b) (x:=⟨g,.b6 k v bZ[q]? (bZ.eraseIdx q)⟩) (w':={ w' with heap:=w'.heap.setIfInBounds (κ b).ab (.mapIter (some ld) clk (seen.push left[j].born) clk) }) (by rw[aa];rfl) rfl fS (λh=>by cases h) (λh=>by cases h)
              (λr J8=>by grind) (by grind) ⟨iJ.os,iJ.tape,iJ.output⟩ λH _ _ he=>by
                refine .inr ⟨ld,es,clk,seen.push left[j].born,h1,?_,by grind,aQ,bu,⟨ids.eraseIdx q,?_,?_,λi=>?_,λn ax B4=>?_⟩,λc' ju=>?_⟩
                · grind
                · grind
                · grind
                · rw[List.mem_eraseIdx_iff_getElem]
                  constructor
                  · rintro⟨n,ax,FU,rfl⟩
                    obtain⟨tu,qR⟩:=(i3 ids[n]).1 (by simp)
                    refine⟨tu,?_⟩
                    simp only[Array.contains_push,Bool.or_eq_false_iff]
                    refine⟨qR,?_⟩
                    rw[<-aeT]
                    simp only[beq_eq_false_iff_ne,ne_eq]
                    intro e
                    have:ids[n]=i0:=bu _ _ tu n5 (by omega)
                    exact FU ((List.getElem?_inj ax i2).1 (by grind))
                  · rintro⟨tu,qR⟩
                    simp only[Array.contains_push,Bool.or_eq_false_iff]at qR
                    obtain⟨n,ax,rfl⟩:=List.mem_iff_getElem.1 ((i3 i).2 ⟨tu,qR.1⟩)
                    grind
                · have uV:(ids.eraseIdx q)[n]=if h:n<q then ids[n]'(by omega) else ids[n+1]'(by grind):=by
                    rw[List.getElem_eraseIdx]
                  have Sx:(bZ.eraseIdx q)[n]=if h:n<q then bZ[n]'(by omega) else bZ[n+1]'(by grind):=by
                    rw[List.getElem_eraseIdx]
                  have hlen:n+1<ids.length:=by grind
                  by_cases FU:n<q
                  · obtain⟨tu,qR⟩:=i4 n (by omega) (by omega)
                    simp only[uV,Sx,FU,dif_pos]
                    exact⟨tu,qR.mono (λ_ h=>h) he⟩
                  · obtain⟨tu,qR⟩:=i4 (n+1) hlen (by omega)
                    simp only[uV,Sx,FU,dif_neg,not_false_eq_true]
                    exact⟨tu,qR.mono (λ_ h=>h) he⟩
                · rw[List.getElem?_eq_getElem Ld]at ju
                  cases ju
                  obtain⟨tu,qR⟩:=i4 q bd Ld
                  refine⟨i0,n5,by grind,?_⟩
                  have e1:es[ids[q]]=es[i0]:=by congr 1
                  rw[e1]at qR
                  exact qR.mono (λ_ h=>h) he
            refine gW ar cE (aj.2 (some q) Ld _ _ ⟨κ,F,a_.set (s:=s.b_ b _) gA a1 ⟨[.bool true,left[j].key,left[j].val],rfl,rfl,λn ax=>?_⟩⟩)
            match n,ax with
            | 0,_=>exact eQ.2 rfl
            | 1,_=>trivial
            | 2,_=>trivial
      grind
    grind
  grind
end
end Go.Fer
namespace Go.Fer
open Go.RowKit
def Cq:z9'->List Value->List Value->Prop
 | [],[],aA=>aA=[]
 | none::g,u::us,aA=>∃ rv,aA=u::rv/\Cq g us rv
 | some n::g,u::us,aA=>∃ cs rv,u=.agg cs/\cs.size=n/\(∀ c∈cs.toList,c.oneCell'=true)/\aA=cs.toList++rv/\Cq g us rv
 | _,_,_=>False
def FV(g:z9')(v:Value)(aA:List Value):Prop:=∃ us:List Value,us.length=g.length/\v=(if us.length=1 then us.getD 0 undef else .tuple us.toArray)/\Cq g us aA
structure IoSpec(P:Program)(U:dd)(k:FuncId)(c:IOC):Prop where
 enter:∀ args w,(callFunc k args).run P w=.ok (.enter k args) w
 iD:∀ (C:bP) (a:Act) (w:World) (κ:Nat->bk) (F:Nat->Prop) (A:c.b3.ag),C.P=P->C.w0=w->C.r=none->C.dfr=[]->C.nt=c.jZ->C.aI=U->a_ C (c.b3.st A) a w κ F->(c.sh A).b4->
  Calls P k a.tmps w λe w'=>∃ v τ aA κ' F',e=.returned v/\(c.sh A).bB τ/\FV c.kg v aA/\a_ { C with nt:=aA.length } (c.bB.st τ) { tmps:=aA.toArray,defers:=[] } w' κ' F'
section
variable {P:Program} {H H':Nat->bt} {κ κ':Nat->bk} {F:Nat->Prop} {w:World} {g:Nat->Nat×Nat}
def o4(H H':Nat->bt)(κ κ':Nat->bk)(g:Nat->Nat×Nat):Prop:=∀ b,(H b).gen=0/\pI ⟨(g b).2,(H b).body⟩ (H' (g b).1) (κ b) (κ' (g b).1)
theorem o4.loc(h:o4 H H' κ κ' g){b off:Nat}{v:Value}(hv:bh P H κ F w (.loc b 0 off) v):bh P H' κ' F w (.loc (g b).1 (g b).2 off) v:=by
 obtain⟨h0,aM,aO⟩:=h b;refine⟨⟨aM,hv.1.2⟩,λaz hc=>?_⟩;obtain⟨c1,c2⟩:=(aO az).1 hc;rw[c2];exact hv.2 h0.symm c1
theorem o4.av(h:o4 H H' κ κ' g)(t:bG){R:Type}(z:t.cons R){v:Value}(hv:bh P H κ F w (t.av cG z).1 v):bh P H' κ' F w (t.av g z).1 v:=by
 cases t with
 | undef=>trivial
 | val t=>exact hv
 | dx t=>exact hv
 | loc b off=>exact h.loc hv
 | own b=>
  obtain⟨h0,aM,aO⟩:=h b;refine⟨⟨aM,hv.1.2⟩,λaz hc=>?_⟩;obtain⟨c1,c2,c3,c4⟩:=(aO az).2.1 hc;rw[c2,c3];exact hv.2 h0.symm c1
 | sub b=>
  obtain⟨h0,aM,aO⟩:=h b;refine⟨⟨aM,hv.1.2⟩,λaz hc=>?_⟩;obtain⟨c1,c2,c3,c4⟩:=(aO az).2.1 hc;rw[c2,c3,c4];exact hv.2 h0.symm c1
 | fk b=>
  obtain⟨h0,aM,aO⟩:=h b;refine⟨⟨aM,hv.1.2⟩,λaz hc=>?_⟩;obtain⟨c1,c2⟩:=(aO az).2.2.1 hc;rw[c2];exact hv.2 h0.symm c1
 | jM b=>
  obtain⟨h0,aM,aO⟩:=h b;refine⟨⟨aM,hv.1.2⟩,λaz hc=>?_⟩;obtain⟨c1,c2⟩:=(aO az).2.2.2 hc;rw[c2];exact hv.2 h0.symm c1
 | cQ=>exact hv
 | ib k fA=>
  obtain⟨aA,h1,h2,h3⟩:=hv;refine⟨aA,h1,h2,λi E=>?_⟩;have:=h3 i E;have e1:uQ cG fA i=.loc fA[i].1 0 fA[i].2:=by simp[uQ,gL,List.getD_eq_getElem?_getD,E,cG]
  have e2:uQ g fA i=.loc (g fA[i].1).1 (g fA[i].1).2 fA[i].2:=by simp[uQ,gL,List.getD_eq_getElem?_getD,E]
  rw[e1]at this;rw[e2];exact h.loc this
 | hh bs=>
  obtain⟨aA,h1,h2,h3⟩:=hv;refine⟨aA,h1,h2,λi E=>?_⟩;obtain⟨this,ju⟩:=h3 i E;refine⟨?_,ju⟩;have e1:uR cG bs i=.own bs[i] 0:=by simp[uR,gL,List.getD_eq_getElem?_getD,E,cG]
  have e2:uR g bs i=.own (g bs[i]).1 (g bs[i]).2:=by simp[uR,gL,List.getD_eq_getElem?_getD,E]
  rw[e1]at this;rw[e2];obtain⟨h0,aM,aO⟩:=h bs[i];refine⟨⟨aM,this.1.2⟩,λaz hc=>?_⟩;obtain⟨c1,c2,c3,c4⟩:=(aO az).2.1 hc;rw[c2,c3];exact this.2 h0.symm c1
 | iE b=>
  obtain⟨h0,aM,aO⟩:=h b;refine⟨⟨aM,hv.1.2⟩,λaz hc=>?_⟩;obtain⟨c1,c2,c3,c4⟩:=(aO az).2.1 hc;rw[c2,c3,c4];exact hv.2 h0.symm c1
 | tr aH=>trivial
 | gJ=>exact hv
theorem zu(t:bG){R:Type}(z:t.cons R):(t.av g z).2=(t.av cG z).2:=by cases t<;>rfl
theorem Sy:∀ (ts:List bG) {R:Type} (z:pU ts R),(oZ g ts z).2=(oZ cG ts z).2
 | [],_,_=>rfl
 | t::ts,_,z=>by simp only[oZ];rw[zu (g:=g) t z];exact Sy ts _
theorem Sz(t:bM){R:Type}(z:t.cons R):(t.body g z).2=(t.body cG z).2:=by
 cases t with
 | cells t l=>exact Sy l z
 | fN e t=>exact zu t z.2
 | _=>rfl
theorem Le:∀ (ts:List (Nat×bG)) {R:Type} (z:n6 ts R),(dY g ts z).2=(dY cG ts z).2
 | [],_,_=>rfl
 | p::ts,_,z=>by simp only[dY];rw[zu (g:=g) p.2 z];exact Le ts _
theorem o4.avs(h:o4 H H' κ κ' g):∀ (ts:List bG) {R:Type} (z:pU ts R) (i:Nat) {v:Value},bh P H κ F w ((oZ cG ts z).1.getD i .undef) v->bh P H' κ' F w ((oZ g ts z).1.getD i .undef) v
 | [],_,_,i,v,_=>by simp[oZ,bh]
 | t::ts,_,z,i,v,hv=>by
  simp only[oZ]at hv ⊢;cases i with
  | zero=>exact h.av t z hv
  | succ i=>
   simp only[List.getD_cons_succ]at hv ⊢;rw[zu (g:=g) t z];exact h.avs ts _ i hv
theorem o4.bD(h:o4 H H' κ κ' g):∀ (ts:List (Nat×bG)) {R:Type} (z:n6 ts R) (i:Nat) {v:Value},bh P H κ F w (e5 (dY cG ts z).1 i) v->bh P H' κ' F w (e5 (dY g ts z).1 i) v
 | [],_,_,i,v,_=>by simp[dY,e5,bh]
 | p::ts,_,z,i,v,hv=>by
  simp only[dY,e5]at hv ⊢;by_cases e:i=p.1
  ·rw[if_pos e]at hv ⊢;exact h.av p.2 z hv
  ·rw[if_neg e]at hv ⊢;rw[zu (g:=g) p.2 z];exact h.bD ts _ i hv
theorem SA:∀ (ts:List (Nat×bG)) {R:Type} (z:n6 ts R) (i:Nat) {l aH L n st},e5 (dY g ts z).1 i=.tr l aH L n st->e5 (dY cG ts z).1 i=.tr l aH L n st
 | [],_,_,i,_,_,_,_,_,h=>by simp[dY,e5]at h
 | p::ts,_,z,i,l,aH,L,n,st,h=>by
  simp only[dY,e5]at h ⊢;by_cases e:i=p.1
  ·rw[if_pos e]at h ⊢;obtain⟨jt,t⟩:=p;cases t<;>first | exact h | cases h
  ·rw[if_neg e]at h ⊢;rw[zu (g:=g) p.2 z]at h;exact SA ts _ i h
def xb(x y:bA):Prop:=x.fm=y.fm/\x.eR=y.eR/\x.len=y.len/\x.eE=y.eE/\x.gy=y.gy/\x.ml=y.ml/\∀ k,x.bI k=y.bI k
theorem xb.refl(x:bA):xb x x:=⟨rfl,rfl,rfl,rfl,rfl,rfl,λ_=>rfl⟩
theorem aeV(t:bM){R:Type}(z:t.cons R):xb (t.body g z).1 (t.body cG z).1:=by
 cases t with
 | cells t l=>exact⟨rfl,rfl,rfl,rfl,rfl,rfl,λ_=>rfl⟩
 | fN e t=>exact⟨rfl,rfl,rfl,rfl,rfl,rfl,λ_=>rfl⟩
 | _=>exact xb.refl _
theorem aeW:∀ (t:ad) (x:t.ag) (av:aC),av∈nk t x->∀ {v:Value},bh P H κ F w av v->bh P H' κ' F w av v:=by
  intro t;induction t with
  | cx=>intro x av h;cases h
  | st t aG=>intro x av h;exact aG x av h
  | aw a b fa eg=>
   intro x av h;rcases List.mem_append.1 h with h | h
   ·exact fa _ av h
   ·exact eg _ av h
  | array n e aG=>
   intro x av h;simp only[nk,List.mem_flatMap]at h;grind
  | _=>
   intro x av h v hv;simp only[nk,List.mem_singleton]at h;subst h;exact hv
theorem o4.body(h:o4 H H' κ κ' g)(t:bM){R:Type}(z:t.cons R){k:bk}(aa:jl P H κ F w k (t.body cG z).1):jl P H' κ' F w k (t.body g z).1:=by
 cases t with
 | cells t l=>
  obtain⟨cs,T,h1,h2,h3⟩:=aa;exact⟨cs,T,h1,h2,λi E=>⟨h.avs l z i (h3 i E).1,(h3 i E).2⟩⟩
 | fH t=>
  obtain⟨cs,T,h1,h2,h3⟩:=aa;refine⟨cs,T,h1,h2,λi E=>⟨?_,(h3 i E).2⟩⟩;have:=(h3 i E).1;unfold gL at this ⊢;rw[List.getD_eq_getElem?_getD]at this ⊢;cases ah:(nk t z.1)[i]? with
  | none=>trivial
  | some av=>
   rw[ah]at this;simp only[Option.getD_some]at this ⊢;have jy:=List.mem_of_getElem? ah;exact aeW t z.1 av jy this
 | a6 e=>exact aa
 | hd e=>exact aa
 | mp k v=>exact aa
 | iT k v=>exact aa
 | gg t=>exact aa
 | b6 k v=>exact aa
 | fN e t=>
  obtain⟨h0,cs,T,h1,h2,h3,aQ,bu,cW,fK,iS⟩:=aa;exact⟨h0,cs,T,h1,h2,h3,aQ,bu,cW,h.av t z.2 fK,iS⟩
theorem SB{l:List (Nat×bM)}{x y:oY l}(h:x=y)(g:Nat->Nat×Nat)(b:Nat):ek (gN g l x) b=ek (gN g l y) b:=by rw[h]
theorem SD:∀ (l:List (Nat×bM)) (x:oY l) (b:Nat),xb (ek (gN g l x) b).body (ek (gN cG l x) b).body
 | [],_,_=>xb.refl _
 | p::l,x,b=>by
  simp only[gN,ek];split
  ·exact aeV p.2 x
  ·rw[Sz (g:=g) p.2 x];exact SD l _ b
theorem o4.bl(h:o4 H H' κ κ' g):∀ (l:List (Nat×bM)) (x:oY l) (b:Nat) {k:bk},jl P H κ F w k (ek (gN cG l x) b).body->jl P H' κ' F w k (ek (gN g l x) b).body
 | [],_,_,k,_=>trivial
 | p::l,x,b,k,aa=>by
  simp only[gN,ek]at aa ⊢;split
  ·rename_i e;rw[if_pos e]at aa;exact h.body p.2 x aa
  ·rename_i e;rw[if_neg e]at aa;rw[Sz (g:=g) p.2 x];exact h.bl l _ b aa
theorem Lf:∀ (l:List (Nat×bA)) (b:Nat),(ek l b).gen=0
 | [],_=>rfl
 | p::l,b=>by
  simp only[ek];split
  ·rfl
  ·exact Lf l b
end
end Go.Fer
namespace Go.Fer
open Go.RowKit
theorem FW{ai:Type}{k:ai->Nat}:∀ {l:List ai},(l.map k).Nodup->∀ {p:ai},p∈l->l.find? (λq=>k q == k p)=some p
 | [],_,_,h=>by cases h
 | a::l,ax,p,h=>by
  simp only[List.map_cons,List.nodup_cons]at ax;by_cases e:k a=k p
  ·grind
  ·rw[List.find?_cons_of_neg (by grind)];rcases List.mem_cons.1 h with rfl | h
   ·omega
   ·exact FW ax.2 h
theorem Cr{ai:Type}{k:ai->Nat}{l:List ai}(ax:(l.map k).Nodup){p q:ai}(hp:p∈l)(bd:q∈l)(e:k p=k q):p=q:=by
 have h1:=FW ax hp;rw[e,FW ax bd]at h1;grind
theorem SE:∀ {l:z6'},(l.map (·.1)).Nodup->∀ {p},p∈l->hE l p.1=p.2
 | [],_,_,h=>by cases h
 | a::l,ax,p,h=>by
  simp only[List.map_cons,List.nodup_cons]at ax;simp only[hE];by_cases e:p.1=a.1
  ·grind
  ·rw[if_neg e];rcases List.mem_cons.1 h with rfl | h
   ·omega
   ·exact SE ax.2 h
theorem SF:∀ {l:z6'} {b:Nat},b ∉ l.map (·.1)->hE l b=(mD,0)
 | [],_,_=>rfl
 | a::l,b,h=>by
  simp only[List.map_cons,List.mem_cons,not_or]at h;simp only[hE];rw[if_neg h.1];exact SF h.2
theorem SG(s:ay)(d:Nat)(f:Nat->Nat)(ins:List Nat):∀ (l:List (Nat×bM)) (j:Nat),(rR s d f ins l j).map (·.1)=l.map (·.1)
 | [],_=>rfl
 | p::l,j=>by
  simp only[rR,List.map_cons,SG s d f ins l (j+1)];grind
theorem SH(s:ay)(d:Nat)(f:Nat->Nat)(ins:List Nat):∀ (l:List (Nat×bM)) (j:Nat) {p:Nat×(Nat×Nat)},p∈rR s d f ins l j->
  (p.1∈ins/\p.2.1=f p.1/\∃ t,(p.1,t)∈l/\((p.2.2=(s.ab (f p.1)).gen/\((∀ (g:Nat->Nat×Nat) (R:Type) (z:t.cons R),(t.body g z).1.eR=false)\/(wu<=p.1/\∃ e,t=.a6 e)))\/p.2.2=(s.ab (f p.1)).gen+1))\/
  (p.1 ∉ ins/\p.2.2=(s.ab p.2.1).gen+1/\50000+10*d+j<=p.2.1/\p.2.1<50000+10*d+j+l.length)
 | [],_,p,h=>by cases h
 | q::l,j,p,h=>by
  simp only[rR,List.mem_cons]at h;rcases h with h | h
  ·by_cases bd:ins.contains q.1=true
   ·rw[if_pos bd]at h;subst h;refine .inl ⟨by grind,rfl,q.2,by simp,?_⟩;obtain⟨c8,t⟩:=q;cases t with
    | a6 e=>
     grind
    | _=>first | exact .inr rfl | exact .inl ⟨rfl,.inl λ_ _ _=>rfl⟩
   grind
  ·rcases SH s d f ins l (j+1) h with⟨h1,h2,t,h3,aQ⟩ | ⟨h1,h2,h3,aQ⟩
   ·exact .inl ⟨h1,h2,t,List.mem_cons_of_mem _ h3,aQ⟩
   ·exact .inr ⟨h1,h2,by omega,by simp only[List.length_cons];omega⟩
theorem FX(g:Nat->Nat×Nat):∀ (l:List (Nat×bM)) (x:oY l) (b:Nat),(ek (gN g l x) b=⟨0,.fb⟩/\b ∉ l.map (·.1))\/∃ q∈l,q.1=b/\∃ (R:Type) (z:q.2.cons R),ek (gN g l x) b=⟨0,(q.2.body g z).1⟩
 | [],_,_=>.inl ⟨rfl,by simp⟩
 | p::l,x,b=>by
  simp only[gN,ek];by_cases e:b=p.1
  ·grind
  ·rw[if_neg e];rcases FX g l (p.2.body g x).2 b with⟨h1,h2⟩ | ⟨q,h1,h2⟩
   ·exact .inl ⟨h1,by rw[List.map_cons,List.mem_cons,not_or];exact⟨e,h2⟩⟩
   ·exact .inr ⟨q,List.mem_cons_of_mem _ h1,h2⟩
theorem aeX{t u:bM}(h:t.Fm u=true){g g':Nat->Nat×Nat}{R Lg:Type}(z:t.cons R)(lV:u.cons Lg) :
  ((t.body g z).1.fm=true->(u.body g' lV).1.fm=true/\∀ k,(u.body g' lV).1.bI k=true)/\((t.body g z).1.gy=true->(u.body g' lV).1.gy=true/\∀ k,(u.body g' lV).1.bI k=true)/\(t.body g z).1.ml=false:=by
 cases t<;>cases u<;>first
  | exact Bool.noConfusion h
  | exact⟨λ_=>⟨rfl,λ_=>rfl⟩,λh=>Bool.noConfusion h,rfl⟩
  | exact⟨λh=>Bool.noConfusion h,λ_=>⟨rfl,λ_=>rfl⟩,rfl⟩
  | exact⟨λh=>Bool.noConfusion h,λh=>Bool.noConfusion h,rfl⟩
theorem xc:∀ (ts:List (Nat×bG)) {R:Type} (g:Nat->Nat×Nat) (z:n6 ts R) (i:Nat),ts.any (λp=>p.1 == i)=false->e5 (dY g ts z).1 i=.undef
 | [],_,_,_,_,_=>rfl
 | p::ts,_,g,z,i,h=>by
  simp only[List.any_cons,Bool.or_eq_false_iff,beq_eq_false_iff_ne]at h;simp only[dY,e5];rw[if_neg (Ne.symm h.1)];exact xc ts g _ i h.2
theorem Lh{P:Program}{H:Nat->bt}{κ:Nat->bk}{F:Nat->Prop}{w:World}:∀ (g:z9') {us aA:List Value},Cq g us aA->∀ (c:Nat->aC) (i:Nat),(∀ j,j<aA.length->bh P H κ F w (c (i+j)) (aA.getD j undef))->
  (o0 g c i).length=g.length/\us.length=g.length/\∀ j,j<g.length->bh P H κ F w ((o0 g c i).getD j .undef) (us.getD j undef)
 | [],[],aA,_,_,_,_=>⟨rfl,rfl,λj aB=>by cases aB⟩
 | [],_::_,_,h,_,_,_=>h.elim
 | none::g,[],_,h,_,_,_=>h.elim
 | some n::g,[],_,h,_,_,_=>h.elim
 | none::g,u::us,aA,h,c,i,hv=>by
  obtain⟨rv,rfl,h⟩:=h;obtain⟨h1,h2,h3⟩:=Lh g h c (i+1) λj aB=>by
   have:=hv (j+1) (by grind);rw[show i+(j+1)=i+1+j by omega]at this;simpa using this
  refine⟨by simp[o0,h1],by grind,λj aB=>?_⟩;cases j with
  | zero=>simpa [o0]using hv 0 (by simp)
  | succ j=>simpa [o0]using h3 j (by grind)
 | some n::g,u::us,aA,h,c,i,hv=>by
  obtain⟨cs,rv,rfl,ax,ns,rfl,h⟩:=h;obtain⟨h1,h2,h3⟩:=Lh g h c (i+n) λj aB=>by
   have:=hv (n+j) (by grind);rw[show i+(n+j)=i+n+j by omega]at this;have e:(cs.toList++rv).getD (n+j) undef=rv.getD j undef:=by
    grind
   rw[e]at this;omega
  refine⟨by simp[o0,h1],by grind,λj aB=>?_⟩;cases j with
  | zero=>
   simp only[o0,List.getD_cons_zero];refine⟨cs.toList,by simp,by omega,λj aB=>?_⟩;grind
  | succ j=>simpa [o0]using h3 j (by grind)
theorem aeY{P:Program}{H:Nat->bt}{κ:Nat->bk}{F:Nat->Prop}{w:World}{g:z9'}{v:Value}{aA:List Value}(h:FV g v aA){c:Nat->aC}(hv:∀ j,bh P H κ F w (c j) (aA.getD j undef)) :
  bh P H κ F w (KP (o0 g c 0)) v:=by
 obtain⟨us,h1,h2,h3⟩:=h;obtain⟨aM,_,bz⟩:=Lh g h3 c 0 (λj _=>by simpa using hv j);subst h2;generalize o0 g c 0=l at aM bz;unfold KP;split
 ·grind
 ·rename_i ah;have dX:us.length≠1:=λe=>by
   have:l.length=1:=by omega
   match l,this with
   | [x],_=>grind
  rw[if_neg dX];refine⟨us,rfl,by omega,λi E=>?_⟩;unfold gL;grind
section
variable {C:bP} {s:ay} {a:Act} {w:World} {κ:Nat->bk} {F:Nat->Prop}
theorem a_.args(G:a_ C s a w κ F){avs:List aC}{us:List Value}(ax:us.length<=eo)(ah:avs.length=us.length)(hv:∀ i,i<us.length->bh C.P s.ab κ F w (avs.getD i .undef) (us.getD i undef)) :
    a_ { C with nt:=us.length,dfr:=[],r:=none } (rQ s avs) { tmps:=us.toArray,defers:=[] } w κ F:=
  { G with
    df:=by simp,dfr:=rfl,fO:=ax
    bD:=λi=>by
      show bh C.P s.ab κ F w (if i=TRS then s.au TRS else if i<avs.length then avs.getD i .undef else .undef) (us.toArray.getD i undef);split
      · rename_i e
        subst e
        have h1:=G.bD TRS
        have h2:a.tmps.getD TRS undef=undef:=by
          have:=G.df;have:=G.fO;rw[Array.getD_eq_getD_getElem?,Array.getElem?_eq_none (by unfold TRS eo at *;omega)];rfl
        have h3:us.toArray.getD TRS undef=undef:=by
          rw[Array.getD_eq_getD_getElem?,Array.getElem?_eq_none (by simp only[List.size_toArray];unfold TRS eo at *;omega)];rfl
        grind
      · split
        · simp_all
        · trivial
    bl:=G.bl
    pro:=λl aH L n st e=>G.pro l aH L n st (by simpa [rQ]using e) }
def qS(C:bP)(w:World)(F':Nat->Prop)(n:Nat)(own Y:Nat->Prop)(hX:(Nat->Option Nat)×(Nat->Option (bk×Nat))):bP:=
 { C with w0:=w,F0:=F',K0:=λr=>r<w.heap.size/\¬own r/\¬Y r,nt:=n,dfr:=[],r:=none,hX:=hX.1,Jn:=hX.2 }
structure Cs(C:bP)(s:ay)(w:World)(κ:Nat->bk)(F:Nat->Prop)(sl:aC)(Y:Nat->Prop):Prop where
 pro:∀ l aH L n st,sl=.tr l aH L n st->(∃ I,C.pr=⟨l,aH,L,I⟩)/\C.pr.Ok C.P/\C.pr.at aH n st F Y w
 low:∀ r,Y r->r<w.heap.size/\¬F r/\¬C.K0 r
 own:∀ b,(s.ab b).body.bI (κ b)=true->¬Y (κ b).ab
 non:sl=.undef->∀ r,¬Y r
theorem a_.aeZ(G:a_ C s a w κ F){sl:aC}(h:∀ l aH L n st,sl=.tr l aH L n st->s.au TRS=.tr l aH L n st):∃ Y,Cs C s w κ F sl Y:=by
 by_cases hs:∃ l aH L n st,sl=.tr l aH L n st
 ·obtain⟨l,aH,L,n,st,e⟩:=hs;obtain⟨h1,h2,Y,h3,aQ,bu⟩:=G.pro l aH L n st (h _ _ _ _ _ e);refine⟨Y,⟨λl' kf L' iH h7 aR=>?_,h3,aQ,λaR=>?_⟩⟩
  ·rw[e]at aR;cases aR;exact⟨h1,h2,bu⟩
  ·rw[e]at aR;cases aR
 ·exact⟨λ_=>False,⟨λl aH L n st e=>(hs ⟨l,aH,L,n,st,e⟩).elim,λ_ h=>h.elim,λ_ _ h=>h,λ_ _ h=>h⟩⟩
theorem ae0{C1:bP}{ea:ay}{bT:Act}{F':Nat->Prop}{fl:List Nat}{f:Nat->Nat}{sh:dh}{A:sh.ag}{Y:Nat->Prop}{ids:List Nat}(i_:C1.P=C.P)(s6:C1.aI=C.aI)(qT:C1.dfr=[])
  (gl:a_ C1 (ea.ca fl) bT w κ F') (ar:FR C1 ea bT w κ f F' sh A fl) (il:Cs C (ea.ca fl) w κ F' ((sh.st A).au TRS) Y)
  (aq:∀ b aZ,b∈sh.n7->aZ∈sh.n7->f b=f aZ->b=aZ) (hid:∀ b∈ids,eo<=b) :
  a_ (qS C w F' C1.nt (λr=>∃ b,((sh.st A).ab b).body.bI (κ (f b))=true/\(κ (f b)).ab=r) Y (λb=>if b∈ids then some (κ (f b)).ab else none,λb=>if b∈ids/\wu<=b then some (κ (f b),((sh.st A).ab b).body.len) else none)) (sh.st A) bT w (λb=>κ (f b)) F' where
 df:=gl.df
 dfr:=gl.dfr.trans qT
 bD:=λi=>by have:=ar.bD i;rw[i_]at this;exact this
 bl:=λb=>by have:=ar.bl b;rw[i_]at this;exact this
 own:=λb aa=>by
  have h1:=gl.own (f b) (ar.w_ aa);exact⟨h1.1,h1.2.1,λh=>h.2.1 ⟨b,aa,rfl⟩⟩
 inj:=λb aZ aa cY e=>aq b aZ (ar.bI b aa).2.2 (ar.bI aZ cY).2.2 (gl.inj _ _ (ar.w_ aa) (ar.w_ cY) e)
 cK:=gl.cK
 gK:=λr G=>.inl G
 hy:=λr G=>G
 gV:=λr G=>G.1
 d':=λ_ _=>rfl
 size:=Nat.le_refl _
 dO:=cL.refl _
 fO:=gl.fO
 j6:=λb r h=>by
  simp only[qS]at h;grind
 jm:=λb r h _=>by
  simp only[qS]at h;grind
 jN:=λb k h=>by
  simp only[qS]at h;grind
 j7:=λb k h _ _=>by
  simp only[qS]at h;grind
 pro:=λl aH L n st e=>by
  obtain⟨h1,h2,h3⟩:=il.pro l aH L n st e;exact⟨h1,h2,Y,λr G=>⟨(il.low r G).1,(il.low r G).2.1,λh=>h.2.2 G⟩,λb aa=>il.own _ (ar.w_ aa),h3⟩
 jn:=by have:=gl.jn;rw[i_,s6]at this;exact this
 ie:=by have:=gl.ie;rw[i_]at this;exact this
structure SI(s:ay)(κ:Nat->bk)(hX:(Nat->Option Nat)×(Nat->Option (bk×Nat)))(bs:List (Nat×bA))(bV:z6'):Prop where
 dF:(bV.map (·.1)).Nodup
 dI:(bV.map (·.2.1)).Nodup
 fb:mD ∉ bV.map (·.2.1)
 ae1:(s.ab mD).body=.fb
 SJ:∀ p∈bV,(p.2.1<eo/\(s.ab p.2.1).gen<p.2.2)\/
  (((ek bs p.1).body.fm=true->(s.ab p.2.1).body.fm=true/\hX.1 p.1=some (κ p.2.1).ab)/\((ek bs p.1).body.gy=true->(s.ab p.2.1).body.gy=true/\hX.1 p.1=some (κ p.2.1).ab)/\(ek bs p.1).body.ml=false/\
   ((p.2.2=(s.ab p.2.1).gen/\((ek bs p.1).body.eR=true->(s.ab p.2.1).body.eR=true/\(ek bs p.1).body.eE=(s.ab p.2.1).body.eE/\hX.2 p.1=some (κ p.2.1,(s.ab p.2.1).body.len)))\/p.2.2=(s.ab p.2.1).gen+1))
theorem ae2{F' own Y:Nat->Prop}{sl:aC}{n:Nat}{hX:(Nat->Option Nat)×(Nat->Option (bk×Nat))}{ins:List Nat}{bB:dh}{τ:bB.ag}{aA:List Value}{w':World}{mE:Nat->bk}{dJ:Nat->Prop}
    (G:a_ C s a w κ F') (il:Cs C s w κ F' sl Y) (fP:∀ r,own r->∃ b,b∈ins/\(s.ab b).body.bI (κ b)=true/\(κ b).ab=r)
    (hj:a_ { qS C w F' n own Y hX with nt:=aA.length } (bB.st τ) { tmps:=aA.toArray,defers:=[] } w' mE dJ)
    {bV:z6'} (fQ:SI s κ hX (gN (hE bV) bB.bl (dY (hE bV) bB.bD τ).2) bV)
    {H':Nat->bt} {κn:Nat->bk} (zv:∀ p∈bV,H' p.2.1=⟨p.2.2,(ek (gN (hE bV) bB.bl (dY (hE bV) bB.bD τ).2) p.1).body⟩/\κn p.2.1=mE p.1)
    (Ct:∀ b,b ∉ bV.map (·.2.1)->κn b=κ b/\(b∈ins->H' b=⟨(s.ab b).gen+1,.fb⟩)/\(b ∉ ins->H' b=s.ab b))
    {X:aC} (zw:X=e5 (dY (hE bV) bB.bD τ).1 TRS\/X=.undef\/(X=s.au TRS/\sl=.undef)) :
    a_ C ⟨λi=>if i=TRS then X else s.au i,H'⟩ a w' κn dJ/\
    ∀ i,bh C.P H' κn dJ w' (e5 (dY (hE bV) bB.bD τ).1 i) (aA.toArray.getD i undef):=by
  generalize Cu:gN (hE bV) bB.bl (dY (hE bV) bB.bD τ).2=bs at fQ zv;have qI:∀ b,xb (ek bs b).body ((bB.st τ).ab b).body:=λb=>by
    rw[<-Cu,SB (Le bB.bD τ)];exact SD bB.bl (dY cG bB.bD τ).2 b
  have Cv:o4 (bB.st τ).ab H' mE κn (hE bV):=by
    intro b;refine⟨Lf _ b,?_⟩;by_cases aa:b∈bV.map (·.1)
    · obtain⟨p,hp,rfl⟩:=List.mem_map.1 aa
      rw[SE fQ.dF hp]
      obtain⟨h1,h2⟩:=zv p hp
      rw[h1,h2]
      obtain⟨aM,aO,bz,f',oV,xd,_⟩:=qI p.1
      exact⟨Nat.le_refl _,λ_=>⟨λh=>⟨aM ▸ h,rfl⟩,λh=>⟨aO ▸ h,rfl,bz,f'⟩,λh=>⟨oV ▸ h,rfl⟩,λh=>⟨xd ▸ h,rfl⟩⟩⟩
    · rw[SF aa]
      obtain⟨_,h2,h3⟩:=Ct mD fQ.fb
      have ar:(H' mD).body=.fb:=by
        by_cases E:mD∈ins
        · grind
        · rw[h3 E];exact fQ.ae1
      refine⟨Nat.zero_le _,λ_=>?_⟩
      show ((H' mD).body.fm=true->_)/\((H' mD).body.eR=true->_)/\((H' mD).body.gy=true->_)/\((H' mD).body.ml=true->_)
      rw[ar]
      exact⟨λh=>(by cases h),λh=>(by cases h),λh=>(by cases h),λh=>(by cases h)⟩
  have FY:∀ b,(∃ p∈bV,p.2.1=b)\/b ∉ bV.map (·.2.1):=λb=>by
    grind
  have FZ:∀ p∈bV,∀ r,hX.1 p.1=some r->(ek bs p.1).body.fm=true\/(ek bs p.1).body.gy=true->(mE p.1).ab=r:=λp hp r G h=>by
    obtain⟨aM,_,_,_,oV,_⟩:=qI p.1;exact hj.jm p.1 r G (h.imp (λh=>aM ▸ h) (λh=>oV ▸ h))
  have ae3:∀ p∈bV,∀ k,hX.2 p.1=some k->(ek bs p.1).body.eR=true->mE p.1=k.1/\(ek bs p.1).body.len=k.2:=λp hp k an h=>by
    obtain⟨_,aO,bz,_⟩:=qI p.1;obtain⟨h1,h2⟩:=hj.j7 p.1 k an (Lf _ _) (aO ▸ h);grind
  have ah:eZ s.ab κ H' κn:=by
    rw[Bm];intro b;rcases FY b with⟨p,hp,rfl⟩ | aa
    · obtain⟨h1,h2⟩:=zv p hp
      rw[h1,h2]
      rcases fQ.SJ p hp with⟨_,h⟩ | ⟨hc,aj,hit,h⟩
      · exact⟨Nat.le_of_lt h,λe=>(by grind)⟩
      · rcases h with⟨h,eL⟩ | h
        · refine⟨Nat.le_of_eq h.symm,λ_=>⟨λh=>⟨(hc h).1,FZ p hp _ (hc h).2 (.inl h)⟩,λh=>?_,λh=>⟨(aj h).1,FZ p hp _ (aj h).2 (.inr h)⟩,λh=>?_⟩⟩
          · have h:(ek bs p.1).body.eR=true:=h
            obtain⟨bT,a2,a3⟩:=eL h
            obtain⟨dr,eC⟩:=ae3 p hp _ a3 h
            exact⟨bT,dr,eC,a2⟩
          · have h:(ek bs p.1).body.ml=true:=h
            rw[hit]at h;cases h
        · exact⟨by grind,λe=>(by grind)⟩
    · obtain⟨h1,h2,h3⟩:=Ct b aa
      rw[h1]
      by_cases E:b∈ins
      · rw[h2 E]
        exact⟨Nat.le_succ _,λe=>(by grind)⟩
      · rw[h3 E];exact pI.refl _ _
  have zx:w.heap.size<=w'.heap.size:=hj.size;have ba:∀ r,F' r->dJ r:=hj.hy;have iv:∀ r,r<w.heap.size->¬own r->¬Y r->w'.heap[r]?=w.heap[r]?:=λr h1 h2 h3=>hj.d' r ⟨h1,h2,h3⟩;have uW:∀ r,C.K0 r->r<w.heap.size:=λr h=>Nat.lt_of_lt_of_le (G.gV r h) G.size;have Li:∀ r,own r->¬C.K0 r/\¬F' r:=λr h=>by
    obtain⟨b,_,h1,rfl⟩:=fP r h;exact⟨(G.own b h1).2.2,(G.own b h1).2.1⟩
  have SK:∀ r,¬(r<w.heap.size/\¬own r/\¬Y r)->¬C.K0 r:=λr h an=>h ⟨uW r an,λaf=>(Li r af).1 an,λaK=>(il.low r aK).2.2 an⟩;have pY:cD F' w w':=⟨zx,λr h=>iv r (G.cK r h) (λaf=>(Li r af).2 h) λaK=>(il.low r aK).2.1 h⟩
  have za:∀ r,dJ r->F' r\/¬(r<w.heap.size/\¬own r/\¬Y r):=hj.gK;have rY:∀ b,b ∉ ins->(s.ab b).body.bI (κ b)=true->(κ b).ab<w.heap.size/\¬own (κ b).ab/\¬Y (κ b).ab:=λb aa af=>by
    refine⟨(G.own b af).1,λh=>?_,il.own b af⟩;obtain⟨aZ,h1,h2,h3⟩:=fP _ h;exact aa (G.inj aZ b h2 af h3 ▸ h1)
  have yG:∀ b,(H' b).body.bI (κn b)=true->(∃ p∈bV,p.2.1=b/\((bB.st τ).ab p.1).body.bI (mE p.1)=true/\κn b=mE p.1)\/(b ∉ bV.map (·.2.1)/\b ∉ ins/\κn b=κ b/\(s.ab b).body.bI (κ b)=true):=λb aa=>by
    rcases FY b with⟨p,hp,rfl⟩ | ax
    · obtain⟨h1,h2⟩:=zv p hp
      rw[h1,h2]at aa
      exact .inl ⟨p,hp,rfl,by rw[<-(qI p.1).2.2.2.2.2.2];exact aa,h2⟩
    · obtain⟨h1,h2,h3⟩:=Ct b ax
      by_cases E:b∈ins
      · rw[h2 E]at aa;cases aa
      grind
  have hsl:∀ i,bh C.P H' κn dJ w' (e5 (dY (hE bV) bB.bD τ).1 i) (aA.toArray.getD i undef):=λi=>Cv.bD bB.bD τ i (hj.bD i);refine⟨{ df := G.df, dfr := G.dfr, bD := λi => ?_, bl := λb => ?_, own := λb aa => ?_, inj := λb aZ aa cY e => ?_, cK := hj.cK, gK := λr h => ?_, hy := λr h => ba r (G.hy r h), gV := G.gV, d' := λr h => ?_,size:=Nat.le_trans G.size zx,dO:=G.dO.trans hj.dO,fO:=G.fO,j6:=G.j6,jm:=λb r h hc=>?_,jN:=G.jN,j7:=λb k h h0 aU=>?_,pro:=λl aH L m st e=>?_,jn:=G.jn,ie:=hj.ie },hsl⟩
  · show bh C.P H' κn dJ w' (if i=TRS then X else s.au i) _
    split
    · rename_i e
      subst e
      have hu:a.tmps.getD TRS undef=undef:=by
        have:=G.df;have:=G.fO;rw[Array.getD_eq_getD_getElem?,Array.getElem?_eq_none (by unfold TRS eo at *;omega)];rfl
      rcases zw with rfl | rfl | ⟨rfl,_⟩
      · have h:=hsl TRS
        have Lj:aA.toArray.getD TRS undef=undef:=by
          have:aA.length<=eo:=hj.fO;rw[Array.getD_eq_getD_getElem?,Array.getElem?_eq_none (by simp only[List.size_toArray];unfold TRS eo at *;omega)];rfl
        grind
      · trivial
      · exact bh.later ah ba pY (G.bD TRS)
    · exact bh.later ah ba pY (G.bD i)
  · show jl C.P H' κn dJ w' (κn b) (H' b).body
    rcases FY b with⟨p,hp,rfl⟩ | ax
    · obtain⟨h1,h2⟩:=zv p hp
      rw[h1,h2,<-Cu,SB (Le bB.bD τ)]
      exact Cv.bl bB.bl (dY cG bB.bD τ).2 p.1 (hj.bl p.1)
    · obtain⟨h1,h2,h3⟩:=Ct b ax
      by_cases E:b∈ins
      · rw[h2 E];trivial
      · have:=cf.kL (H':=H') (κ':=κn) (G.bl b) ah ba pY (by grind) h1 λaf=>iv _ (rY b E af).1 (rY b E af).2.1 (rY b E af).2.2
        exact this
  · rcases yG b aa with⟨p,hp,_,h1,h2⟩ | ⟨_,h1,h2,h3⟩
    · have:=hj.own p.1 h1
      rw[h2]
      exact⟨this.1,this.2.1,SK _ this.2.2⟩
    · rw[h2]
      have aQ:=G.own b h3
      grind
  · rcases yG b aa with⟨p,hp,rfl,h1,h2⟩ | ⟨_,h1,h2,h3⟩<;>rcases yG aZ cY with⟨p',BD,rfl,yY,wH⟩ | ⟨_,yY,wH,SL⟩
    · rw[h2,wH]at e
      have:=hj.inj _ _ h1 yY e
      rw[Cr fQ.dF hp BD this]
    · rw[h2,wH]at e
      exact ((hj.own p.1 h1).2.2 (e ▸ rY aZ yY SL)).elim
    · rw[h2,wH]at e
      exact ((hj.own p'.1 yY).2.2 (e ▸ rY b h1 h3)).elim
    · rw[h2,wH]at e
      exact G.inj b aZ h3 SL e
  · rcases za r h with h | h
    · exact G.gK r h
    grind
  · exact (iv r (uW r h) (λaf=>(Li r af).1 h) λaK=>(il.low r aK).2.2 h).trans (G.d' r h)
  · have aF:=G.j6 b r h
    rcases FY b with⟨p,hp,rfl⟩ | ax
    · obtain⟨h1,h2⟩:=zv p hp
      simp only[h1]at hc
      rcases fQ.SJ p hp with⟨h3,_⟩ | ⟨aM,aO,_⟩
      · omega
      · rw[h2]
        rcases hc with hc | hc
        · rw[FZ p hp _ (aM hc).2 (.inl hc)]
          exact G.jm _ r h (.inl (aM hc).1)
        · rw[FZ p hp _ (aO hc).2 (.inr hc)]
          exact G.jm _ r h (.inr (aO hc).1)
    · obtain⟨h1,h2,h3⟩:=Ct b ax
      by_cases E:b∈ins
      · simp only[h2 E]at hc
        rcases hc with hc | hc<;>cases hc
      · simp only[h3 E]at hc
        rw[h1]
        exact G.jm b r h hc
  · have aF:=G.jN b k h
    have h0:(H' b).gen=0:=h0
    have aU:(H' b).body.eR=true:=aU
    show κn b=k.1/\(H' b).body.len=k.2
    obtain⟨g1,dP⟩:=ah b
    obtain⟨bT,a2,a3,_⟩:=(dP (by omega)).2.1 aU
    obtain⟨aM,aO⟩:=G.j7 b k h (by omega) bT
    grind
  · have e:X=.tr l aH L m st:=by grind
    rcases zw with rfl | rfl | ⟨rfl,ae4⟩
    · obtain⟨h1,h2,fY,h3,aQ,bu⟩:=hj.pro l aH L m st (SA bB.bD τ TRS e)
      refine⟨h1,h2,fY,λr aW=>⟨(h3 r aW).1,(h3 r aW).2.1,SK r (h3 r aW).2.2⟩,λb aa aK=>?_,bu⟩
      rcases yG b aa with⟨p,hp,rfl,aM,aO⟩ | ⟨_,aM,aO,bz⟩
      · grind
      · rw[aO]at aK;exact (h3 _ aK).2.2 (rY b aM bz)
    · cases e
    · obtain⟨h1,h2,fY,h3,aQ,bu⟩:=G.pro l aH L m st e
      have SM:∀ r,fY r->r<w.heap.size/\¬own r/\¬Y r:=λr aK=>⟨(h3 r aK).1,λaf=>by
        grind,il.non ae4 r⟩
      have Bn:∀ r,dJ r->¬fY r:=λr aq aK=>(za r aq).elim (h3 r aK).2.1 λh=>h (SM r aK)
      refine⟨h1,h2,fY,λr aK=>⟨Nat.lt_of_lt_of_le (h3 r aK).1 zx,λaq=>Bn r aq aK,(h3 r aK).2.2⟩,λb aa aK=>?_,h2.Jm bu ba (λr aq=>?_) zx hj.dO hj.cK Bn⟩
      · rcases yG b aa with⟨p,hp,rfl,aM,aO⟩ | ⟨_,aM,aO,bz⟩
        · rw[aO]at aK;exact (hj.own _ aM).2.2 (SM _ aK)
        grind
      · rcases aq with aq | aq
        · exact pY.2 r aq
        grind
end
end Go.Fer
namespace Go.Fer
open Go.RowKit
section
variable {C:bP} {T:Nat->ad} {o:Oper} {s:ay}
theorem IoSpec.bm{P:Program}{U:dd}{k:FuncId}{c:IOC}(aq:IoSpec P U k c){C:bP}{a:Act}{w:World}{κ:Nat->bk}{F:Nat->Prop}{A:c.b3.ag}(h:a_ C (c.b3.st A) a w κ F)(h1:C.P=P)(h2:C.w0=w)(h3:C.r=none)(aQ:C.dfr=[])(bu:C.nt=c.jZ)(cW:C.aI=U)(hs:(c.sh A).b4) :
  Calls P k a.tmps w λe w'=>∃ v τ aA κ' F',e=.returned v/\(c.sh A).bB τ/\FV c.kg v aA/\a_ { C with nt:=aA.length } (c.bB.st τ) { tmps:=aA.toArray,defers:=[] } w' κ' F':=
 aq.iD C a w κ F A h1 h2 h3 aQ bu cW h hs
theorem SN{C:bP}{s:ay}{Lk:Nat->aC}{a bT:Act}{w:World}{κ:Nat->bk}{F:Nat->Prop}{dF:Nat}{c:IOC}{f:Nat->Nat}{A:c.b3.ag}{fl:List Nat}{d m:Nat}{bV:z6'}
    (G:a_ C s a w κ F) (gl:a_ { C with nt:=dF,dfr:=[],r:=none } ⟨Lk,s.ab⟩ bT w κ F) (pZ:Lk TRS=s.au TRS)
    (nB:c.b3.zi f ⟨Lk,s.ab⟩=some (A,fl)) (SO:rR (s.ca fl) d f c.b3.n7 c.bB.bl 0=bV) (dE:Cg c f (s.ca fl) bV d m=true) :
    ∃ (F' own Y:Nat->Prop) (hX:(Nat->Option Nat)×(Nat->Option (bk×Nat))),(∀ r,F r->F' r)/\a_ C (s.ca fl) a w κ F'/\(∀ r,own r->∃ b,((s.ca fl).ab b).body.bI (κ b)=true/\(κ b).ab=r)/\Cs C (s.ca fl) w κ F' ((c.b3.st A).au TRS) Y/\(∀ l aH L n st,(c.b3.st A).au TRS=.tr l aH L n st->s.au TRS=.tr l aH L n st)/\
      a_ (qS C w F' dF own Y hX) (c.b3.st A) bT w (λb=>κ (f b)) F'/\
      ∀ Ll hf,a_ { C with w0:=Ll } (s.ca fl) a hf κ F'->Cs C (s.ca fl) hf κ F' ((c.b3.st A).au TRS) Y->∀ (τ:c.bB.ag) (aA:List Value) (w':World) (mE:Nat->bk) (dJ:Nat->Prop),a_ { qS C hf F' dF own Y hX with nt:=aA.length } (c.bB.st τ) { tmps:=aA.toArray,defers:=[] } w' mE dJ->
        ∃ κn,a_ { C with w0:=Ll } (w1 (s.ca fl) c f bV τ) a w' κn dJ/\∀ i,bh C.P (w1 (s.ca fl) c f bV τ).ab κn dJ w' (e5 (dY (hE bV) c.bB.bD τ).1 i) (aA.toArray.getD i undef):=by
  simp only[Cg,Bool.and_eq_true,decide_eq_true_eq,Bool.not_eq_true']at dE;obtain⟨⟨⟨⟨⟨⟨⟨⟨⟨⟨c1,c2⟩,c3⟩,c4⟩,c5⟩,lj⟩,n0⟩,wF⟩,c9⟩,F1⟩,_⟩:=dE;have c3:(c.b3.bl.map (·.1)).Nodup:=of_decide_eq_true c3;have c4:(c.b3.bl.map λp=>f p.1).Nodup:=of_decide_eq_true c4;have c5:(bV.map (·.1)).Nodup:=of_decide_eq_true c5;have lj:(bV.map (·.2.1)).Nodup:=of_decide_eq_true lj;have wF:mD ∉ bV.map (·.2.1):=λh=>by
    grind
  have c9:((s.ca fl).ab mD).body=.fb:=by
    grind
  obtain⟨F',f1,gl,ar⟩:=dh.Sq nB gl;have aW : a_ C (s.ca fl) a w κ F' := { gl with
    df:=G.df,dfr:=G.dfr,fO:=G.fO,bD:=λi=>bh.later (Rb s fl κ) f1 (cD.refl _ _) (G.bD i)
    bl:=gl.bl
    pro:=λl aH L n st e=>gl.pro l aH L n st (by simpa [ay.ca,pZ]using e) }
  obtain⟨Y,il⟩:=aW.aeZ (sl:=(c.b3.st A).au TRS) λl aH L n st e=>by simpa [ay.ca,pZ]using ar.tr l aH L n st e
  have hid:∀ b∈c.b3.bl.map (·.1),eo<=b:=λb aa=>by grind
  have F2:∀ b,b∈c.b3.n7->∃ q∈c.b3.bl,q.1=b/\q.2.Cb=true:=λb aa=>by
    obtain⟨q,bd,e⟩:=List.mem_filterMap.1 aa;grind
  have Cw:=ae0 (C:=C) (C1:={ C with nt:=dF,dfr:=[],r:=none }) (ids:=c.b3.bl.map (·.1)) rfl rfl rfl gl ar ⟨il.pro,il.low,il.own,il.non⟩ (λb aZ aa cY e=>by
    obtain⟨q,bd,rfl,_⟩:=F2 b aa;obtain⟨q',s7,rfl,_⟩:=F2 aZ cY;rw[Cr (k:=λp=>f p.1) c4 bd s7 e]) hid
  refine⟨F',_,Y,_,f1,aW,λr ⟨b,aa,e⟩=>⟨f b,ar.w_ aa,e⟩,il,λl aH L n st e=>by simpa [ay.ca,pZ]using ar.tr l aH L n st e,Cw,λLl hf J8 F3 τ aA w' mE dJ hj=>?_⟩;have Cu:∀ (b:Nat) (q':Nat×bM),q'∈c.bB.bl->q'.1=b->b∈c.b3.n7->∀ (R:Type) (z:q'.2.cons R),((q'.2.body (hE bV) z).1.fm=true->((s.ca fl).ab (f b)).body.fm=true)/\((q'.2.body (hE bV) z).1.gy=true->((s.ca fl).ab (f b)).body.gy=true)/\(q'.2.body (hE bV) z).1.ml=false:=by
    intro b q' s7 e aa R z;obtain⟨q,bd,rfl,Lm⟩:=F2 b aa;have an:=List.all_eq_true.1 (List.all_eq_true.1 F1 q' s7) q bd;rw[e,Lm]at an;simp only[beq_self_eq_true,Bool.and_self,Bool.not_true,Bool.false_or]at an;rcases FX cG c.b3.bl (dY cG c.b3.bD A).2 q.1 with⟨_,h2⟩ | ⟨q2,h2,h3,Lg,lV,aQ⟩
    · grind
    · obtain rfl:=Cr c3 h2 bd h3
      have aQ:(c.b3.st A).ab q2.1=⟨0,(q2.2.body cG lV).1⟩:=aQ
      obtain⟨aM,aO,bz⟩:=aeX an z lV (g:=hE bV) (g':=cG)
      have tt:=ar.zq q2.1
      refine⟨λhc=>?_,λhc=>?_,bz⟩
      · have bu:=ar.bI q2.1 (by grind)
        simp only[ay.ca,if_neg bu.1]
        exact tt.2.1 (by grind)
      · have bu:=ar.bI q2.1 (by grind)
        simp only[ay.ca,if_neg bu.1]
        exact tt.2.2.2.1 (by grind)
  have ae5:bV.map (·.1)=c.bB.bl.map (·.1):=by rw[<-SO];exact SG ..
  have fQ:SI (s.ca fl) κ (λb=>if b∈c.b3.bl.map (·.1) then some (κ (f b)).ab else none,λb=>if b∈c.b3.bl.map (·.1)/\wu<=b then some (κ (f b),((c.b3.st A).ab b).body.len) else none) (gN (hE bV) c.bB.bl (dY (hE bV) c.bB.bD τ).2) bV:=by
    refine⟨c5,lj,wF,c9,λp hp=>?_⟩;rw[<-SO]at hp;rcases SH _ _ _ _ _ _ hp with⟨h1,h2,t,h3,aQ⟩ | ⟨_,h2,h3,aQ⟩
    · rw[h2]
      have jy:p.1∈c.b3.bl.map (·.1):=by
        grind
      rcases FX (hE bV) c.bB.bl (dY (hE bV) c.bB.bD τ).2 p.1 with⟨_,aO⟩ | ⟨q',aM,aO,R,z,bz⟩
      · grind
      · rw[bz]
        obtain⟨dr,eC,mi⟩:=Cu p.1 q' aM aO h1 R z
        have:q'=(p.1,t):=Cr (ae5 ▸ c5) aM h3 aO
        subst this
        refine .inr ⟨λh=>⟨dr h,if_pos jy⟩,λh=>⟨eC h,if_pos jy⟩,mi,aQ.imp (λaQ=>⟨aQ.1,λeL=>?_⟩) id⟩
        rcases aQ.2 with bu | ⟨an,e,rfl⟩
        · grind
        · obtain⟨q,bd,Lc,Lm⟩:=F2 p.1 h1
          have xe:=List.all_eq_true.1 (List.all_eq_true.1 F1 _ aM) q bd
          rw[Lc,Lm]at xe
          simp only[beq_self_eq_true,Bool.and_self,Bool.not_true,Bool.false_or]at xe
          rcases FX cG c.b3.bl (dY cG c.b3.bD A).2 p.1 with⟨_,wH⟩ | ⟨q2,m2,m3,Lg,lV,m4⟩
          · grind
          · obtain rfl:=Cr c3 m2 bd (m3.trans Lc.symm)
            have m4:(c.b3.st A).ab p.1=⟨0,(q2.2.body cG lV).1⟩:=m4
            obtain⟨c8,Ln⟩:=q2
            have xe:bM.Fm (.a6 e) Ln=true:=xe
            obtain rfl:Ln=.a6 e:=by
              cases Ln<;>first | (simp only[bM.Fm,decide_eq_true_eq]at xe;rw[xe]) | cases xe
            have tt:=ar.zq p.1
            have ae6:((c.b3.st A).ab p.1).body.eR=true:=by rw[m4];rfl
            obtain⟨bY,cm,dQ⟩:=tt.2.2.1 ae6
            have a8:((s.ca fl).ab (f p.1)).body.eR=true/\((s.ca fl).ab (f p.1)).body.len=(s.ab (f p.1)).body.len/\((s.ca fl).ab (f p.1)).body.eE=(s.ab (f p.1)).body.eE:=by
              simp only[ay.ca];split
              · rcases yW s.ab (s.ab (f p.1)) with aR | ⟨_,_,hx,aR⟩ | ⟨_,_,_,hx,_⟩ | ⟨_,_,_,_,hx,_,_⟩
                · grind
                · rw[aR,hx];exact⟨rfl,rfl,rfl⟩
                · have bY:(s.ab (f p.1)).body.eR=true:=bY
                  rw[hx]at bY;cases bY
                · have bY:(s.ab (f p.1)).body.eR=true:=bY
                  rw[hx]at bY;cases bY
              grind
            have cm:((c.b3.st A).ab p.1).body.len=(s.ab (f p.1)).body.len:=cm
            have dQ:((c.b3.st A).ab p.1).body.eE=(s.ab (f p.1)).body.eE:=dQ
            refine⟨a8.1,?_,?_⟩
            · rw[a8.2.2,<-dQ,m4];rfl
            grind
    · refine .inl ⟨?_,by omega⟩
      unfold eo
      omega
  obtain⟨nC,hsl⟩:=ae2 (ins:=c.b3.n7.map f) (X:=if c.bB.bD.any (λp=>p.1 == TRS) then e5 (dY (hE bV) c.bB.bD τ).1 TRS else if c.b3.bD.any (λp=>p.1 == TRS) then .undef else (s.ca fl).au TRS)
    (H':=(w1 (s.ca fl) c f bV τ).ab)
    (κn:=λb=>match bV.find? (λp=>p.2.1 == b) with
      | some p=>mE p.1
      | none=>κ b) J8 ⟨F3.pro,F3.low,F3.own,F3.non⟩ (λr ⟨b,aa,e⟩=>⟨f b,List.mem_map_of_mem (ar.bI b aa).2.2,ar.w_ aa,e⟩) hj fQ
    (λp hp=>by simp only[w1,FW (k:=λp=>p.2.1) lj hp,and_self]) (λb aa=>by
      have ax:bV.find? (λp=>p.2.1 == b)=none:=List.find?_eq_none.2 λp hp e=>aa (List.mem_map.2 ⟨p,hp,by grind⟩);simp only[w1,ax,true_and];grind)
    (by
      split
      · simp
      · split
        · simp
        · rename_i h2
          exact .inr (.inr ⟨rfl,xc c.b3.bD cG A TRS (Bool.eq_false_iff.2 h2)⟩))
  exact⟨_,nC,hsl⟩
theorem SP(a1:∀ i,o.dst=some i->i<C.nt){f0:Operand}{args:Array Operand}{cR:Array TypeId}(af:o.op=.call { callee:=.value f0,args:=args,argTypes:=cR }){c:IOC}(aq:∀ A a w,b7 C s a w->(c.sh A).b4->∃ k,IoSpec C.P C.aI k c/\a.eval f0=.func (.func k) #[] #[]){pr:hC}
  (h:w2 C.aI s o args.toList c=some pr):pX C o s pr:=by
 obtain⟨args⟩:=args;unfold w2 at h;generalize awv:qM c (rQ s (qL C.aI s args))=f at h;split at h
 ·rename_i A fl nB;split at h
  ·rename_i dE;cases h;have ae7:qH (aS C.aI s.au) o->jr (args.map (aS C.aI s.au)):=λaa=>Cm aa λx hx=>by rw[af];simp[Op.operands,Call.operands];simp_all
   refine⟨λa w Q K G aX Lo=>?_,λgs n_=>(by grind),ae7⟩;obtain⟨k,aq,an⟩:=aq A a w G Lo.1;obtain⟨κ,F,G⟩:=G;have hlen:args.length=c.jZ/\args.length<=eo:=by
    simp only[Cg,Bool.and_eq_true,decide_eq_true_eq]at dE;omega
   have dz:=G.args (avs:=qL C.aI s args) (us:=args.map a.eval) (by grind) (by simp[qL]) λi E=>by
    have db:i<args.length:=by grind
    have h1:=rE aX i (by grind);have e1:(args.map (aS C.aI s.au)).getD i .undef=aS C.aI s.au args[i]:=by grind
    rw[e1]at h1;have e2:(qL C.aI s args).getD i .undef=(use (aS C.aI s.au args[i])).2:=by simp[qL,List.getD_eq_getElem?_getD,db]
    have e3:(args.map a.eval).getD i undef=a.eval args[i]:=by grind
    rw[e2,e3];exact oN (jR G args[i]) h1
   obtain⟨F',own,Y,hX,_,aW,_,il,_,Cw,Lp⟩:=SN G dz rfl nB rfl dE;have cE:(execOp a.eval o).run C.P w=.ok (.enter k (args.map a.eval).toArray) w:=by
    simp only[execOp,af,Sem.run_bind,resolve,an,Deferred.ofValue,Sem.run_pure,Result.andThen_ok,invoke];have:=aq.enter (args.map a.eval).toArray w;grind
   have tv:=aq.bm Cw rfl rfl rfl rfl (by show (args.map a.eval).length=_;grind) rfl Lo.1;refine B0 (by grind) cE tv λe w' ⟨v,τ,aA,mE,dJ,he,hτ,F4,hj⟩=>⟨v,he,Lo.2 τ hτ _ _ ?_⟩
   obtain⟨κn,nC,hsl⟩:=Lp C.w0 w aW il τ aA w' mE dJ hj;exact⟨_,dJ,a_.set nC a1 (aeY F4 λj=>by simpa [Array.getD_eq_getD_getElem?,List.getD_eq_getElem?_getD]using hsl j)⟩
  grind
 grind
theorem ae8(a1:∀ i,o.dst=some i->i<C.nt){k:Nat}{args:Array Operand}{cR:Array TypeId}(af:o.op=.call { callee:=.value (.func k),args:=args,argTypes:=cR }){c:IOC}(aq:IoSpec C.P C.aI k c){pr:hC}
  (h:w2 C.aI s o args.toList c=some pr):pX C o s pr:=
 SP a1 af (λ_ _ _ _ _=>⟨k,aq,rfl⟩) h
theorem IoSpec.yH{P:Program}{U:dd}{k:FuncId}{c:IOC}(h:IoSpec P U k c){sh:c.b3.ag->M c.bB.ag}(hs:∀ A,M.le (c.sh A) (sh A)):IoSpec P U k { c with sh:=sh } where
 enter:=h.enter
 iD:=λC a w κ F A e1 e2 e3 e4 dD kK G qG=>by
  obtain⟨aM,aO⟩:=hs A qG;exact (h.iD C a w κ F A e1 e2 e3 e4 dD kK G aM).mono λe w' ⟨v,τ,aA,κ',F',h1,h2,h3⟩=>⟨v,τ,aA,κ',F',h1,aO τ h2,h3⟩
theorem ae9{Ψ:Nat->Option eH}(a1:∀ i,o.dst=some i->i<C.nt){t:Nat}{args:Array Operand}{cR:Array TypeId}(af:o.op=.call { callee:=.value (.tmp t),args:=args,argTypes:=cR })
  (cB:∀ c sh ids,Ψ Sa=some (.Fw c sh ids)->∀ k∈ids,IoSpec C.P C.aI k { c with sh:=sh k }) {pr:hC} (h:FA C.aI Ψ s o t args.toList=some pr):pX C o s pr:=by
 unfold FA at h;split at h
 ·rename_i n ax;split at h
  ·rename_i c sh ids hc;refine SP a1 af (λA a w G hs=>?_) h;obtain⟨⟨k,an,rfl⟩,_⟩:=hs;refine⟨k,(cB c sh ids hc k an).yH (sh:=(Sb c sh ids (some k)).sh) λA h=>⟨h.2,λy aK=>aK⟩,?_⟩;obtain⟨κ,F,G⟩:=G;have hv:bh C.P s.ab κ F w (s.au t) (a.tmps.getD t undef):=G.bD t;rw[ax]at hv;obtain⟨_,hv⟩:=(dw rfl).1 hv;exact (List.cons.inj hv).1
  ·cases h
 ·cases h
end
end Go.Fer
namespace Go.Fer
open Go.RowKit
section
variable {C:bP} {o:Oper} {s:ay}
theorem a_.round{s:ay}{a:Act}{w w':World}{κ:Nat->bk}{F' dJ Y F5:Nat->Prop}{l:Nat}{aH:ad}{L:List aH.ag->Prop}{I}{dI:List aH.ag}{Lq:Bool}(G:a_ C s a w κ F')(n':C.pr=⟨l,aH,L,I⟩)(cn:C.pr.Ok C.P)
    (aK:∀ r,Y r->r<w.heap.size/\¬F' r/\¬C.K0 r) (Lr:∀ b,(s.ab b).body.bI (κ b)=true->¬Y (κ b).ab)
    (g1:∀ r,F' r->dJ r) (dP:∀ r,dJ r->F' r\/Y r\/w.heap.size<=r) (g3:∀ r,dJ r->r<w'.heap.size) (g4:∀ r,r<w.heap.size->¬Y r->w'.heap[r]?=w.heap[r]?)
    (g5:∀ r,F5 r->(Y r\/w.heap.size<=r)/\r<w'.heap.size/\¬dJ r) (g6:w.heap.size<=w'.heap.size) (g7:cL w w') (g8:I dI Lq dJ F5 w') :
    a_ C ⟨λi=>if i=TRS then .tr l aH L dI Lq else s.au i,s.ab⟩ a w' κ dJ:=by
  have pY:cD F' w w':=⟨g6,λr h=>g4 r (G.cK r h) λBT=>(aK r BT).2.1 h⟩
  have kQ:∀ r,w.heap.size<=r->¬C.K0 r:=λr h an=>by have:=G.gV r an;have:=G.size;omega
  refine { df := G.df, dfr := G.dfr, bD := λi => ?_, bl := λb => cf.kL (G.bl b) (eZ.refl _ _) g1 pY rfl rfl λaf => g4 _ (G.own b af).1 (Lr b af), own := λb aa => ?_, inj := G.inj, cK := g3, gK := λr h => ?_,hy:=λr h=>g1 r (G.hy r h),gV:=G.gV,d':=λr h=>?_,size:=Nat.le_trans G.size g6,dO:=G.dO.trans g7,fO:=G.fO,j6:=G.j6,jm:=G.jm,jN:=G.jN,j7:=G.j7,pro:=λl' kf L' iH h7 e=>?_,jn:=G.jn,ie:=G.ie.mono g1 pY }
  · show bh C.P s.ab κ dJ w' (if i=TRS then .tr l aH L dI Lq else s.au i) _
    split
    · trivial
    · exact bh.later (eZ.refl _ _) g1 pY (G.bD i)
  · have h:=G.own b aa
    grind
  · rcases dP r h with h | h | h
    · exact G.gK r h
    · exact .inr (aK r h).2.2
    · exact .inr (kQ r h)
  · exact (g4 r (Nat.lt_of_lt_of_le (G.gV r h) G.size) λk=>(aK r k).2.2 h).trans (G.d' r h)
  · simp only[if_true]at e
    cases e
    refine⟨⟨I,n'⟩,cn,F5,λr h=>⟨(g5 r h).2.1,(g5 r h).2.2,?_⟩,λb aa h=>?_,?_⟩
    · grind
    · rcases (g5 _ h).1 with h | h
      · grind
      · exact absurd (G.own b aa).1 (Nat.not_lt.2 h)
    · rw[n'];exact lf.yC.2 g8
theorem ae_(a1:∀ i,o.dst=some i->i<C.nt){t:Nat}{args:Array Operand}{cR:Array TypeId}(af:o.op=.call { callee:=.value (.tmp t),args:=args,argTypes:=cR }){pr:hC}
  (h:FB C.aI s o t args.toList=some pr):pX C o s pr:=by
 obtain⟨args⟩:=args;unfold FB at h;split at h
 ·rename_i l' l aH L n st Ls tk;split at h
  ·rename_i x fl hx;cases h;refine⟨λa w Q K G aX aj=>?_,λgs n_=>(by grind),λaa=>Cm aa λx hx=>by rw[af];simp[Op.operands,Call.operands];simp_all⟩;obtain⟨κ,F,G⟩:=G;rw[M.ko]at aj;obtain⟨⟨rfl,rfl,F6⟩,aj⟩:=aj;obtain⟨F',f1,aW,f2⟩:=a_.kO (pR _ hx) G;have dz:eY C.P aH F' w (args.map a.eval) x:=by
    refine uM G.bl f1 aH hx f2 (by simp) λi E dn=>?_;simp only[List.getElem_map];have db:i<args.length:=by grind
    have h1:=rE aX i (by grind);have e1:(args.map (aS C.aI s.au)).getD i .undef=aS C.aI s.au args[i]:=by grind
    rw[show (List.map (aS C.aI s.au) (⟨args⟩:Array Operand).toList)=args.map (aS C.aI s.au) from rfl,e1]at h1;exact oN (jR G args[i]) h1
   have hv:a.eval (.tmp t)=.func (.yield l') #[] #[]:=by
    have:=jR G (.tmp t);have e:aS C.aI s.au (.tmp t)=.gJ l':=Ls;rw[e]at this;exact this
   obtain⟨⟨I,n'⟩,cn,Y,aK,Lr,eb⟩:=aW.pro l' aH L n false tk;have ae':lf.Ok C.P ⟨l',aH,L,I⟩:=n' ▸ cn;rw[n']at eb;have eb:=lf.yC.1 eb;obtain⟨fn,tmps,assign,body,h1,h2⟩:=ae'.yield eb aW.cK (λr h=>⟨(aK r h).1,(aK r h).2.1⟩) F6 dz;have cE:(execOp a.eval o).run C.P w=.ok (.round l' fn tmps assign body) w:=by
    simp only[execOp,af,Sem.run_bind,resolve,hv,Deferred.ofValue,Sem.run_pure,Result.andThen_ok,invoke];grind
   refine⟨λ_ _=>trivial,?_⟩;rw[yR (by grind),cE,Oper.uponIn_round];refine⟨λhs=>(by cases hs),?_⟩;have h3:RoundIn (du C.r) 0 C.P l' fn tmps assign body w _:=h2;refine h3.mono λe w' ⟨b,dJ,F5,he,g1,dP,g3,g4,g5,g6,g7,g8⟩=>?_;subst he;refine aj.2 b trivial _ _ ⟨κ,dJ,a_.set ?_ a1 (eQ.2 rfl)⟩;exact aW.round n' cn aK Lr g1 dP g3 g4 g5 g6 g7 g8
  grind
 grind
end
end Go.Fer
namespace Go.Fer
open Go.RowKit
section
variable {C:bP} {T:Nat->ad} {aY:Nat->Option aJ} {s:ay} {res:dW}
theorem SQ{ms:Array MapEntry}{j:Nat}(aB:j<ms.size)(hu:∀ i (h:i<ms.size),ms[i].born=ms[j].born->i=j):ms.findIdx? (λe=>(e.born:Int) == (ms[j].born:Int))=some j:=by
 rw[Array.findIdx?_eq_some_iff_getElem];grind
theorem afa(ms:Array MapEntry)(e:MapEntry)(f:MapEntry->MapEntry):(ms.push e).modify ms.size f=ms.push (f e):=by
 grind
theorem afb(ms:Array MapEntry)(j:Nat)(f g:MapEntry->MapEntry):(ms.modify j f).modify j g=ms.modify j λe=>g (f e):=by
 grind
theorem zy{a:Act}{d:Nat}{v:Value}{x:Operand}(h:x≠.tmp d):(a.put (some d) v).eval x=a.eval x:=Act.eval_put λuz e=>by grind
theorem Cx{a:Act}{d:Nat}{v:Value}(h:d<a.tmps.size):(a.put (some d) v).eval (.tmp d)=v:=by
 simp[Act.put,Act.eval,Array.getD_eq_getD_getElem?,h]
theorem afc(hT:dv C.P T){o1 f_ kx oU:Oper}{d1 d2:Nat}{ty:TypeId}{m x y:Operand}(h1:o1.op=.mapEntry ty m x)(t1:o1.dst=some d1)(h2:f_.op=.extract (.tmp d1) 1)(t2:f_.dst=some d2)
  (h3:kx.op=.entryStore ty m (.tmp d2) y) (t3:kx.dst=none) (hS:oU.op=.mapUpdate ty m x y) (Lt:oU.dst=none) (j0:m≠.tmp d1) (o5:m≠.tmp d2) (xf:y≠.tmp d1) (rZ:y≠.tmp d2) (pT:d1<C.nt) (hF:d2<C.nt)
  (h:(be C.aI T aY (aS C.aI s.au) oU).run s.ab=some res) {a:Act} {w:World} {κ:Nat->bk} {F:Nat->Prop} {Q:Exit->Act->World->Prop} {K:Act->World->Prop} (G:a_ C s a w κ F) (aX:res.bQ) (hc:res.c)
  (iv:∀ a' w',b7 C (((s.hO none res).set (some d1) .undef).set (some d2) .undef) a' w'->K a' w') :
  o1.wpIn (du C.r) 0 C.P a w (λbT b2=>f_.wpIn (du C.r) 0 C.P bT b2 (λa2 cF=>kx.wpIn (du C.r) 0 C.P a2 cF K Q) Q) Q:=by
 have ku:=J6 hT Lt (.inl hS) h a w κ F Q G aX hc;rw[Lt]at ku;have e1:∀ c,o1.op≠.defer c:=by grind
 have e2:∀ c,f_.op≠.defer c:=by grind
 have e3:∀ c,kx.op≠.defer c:=by grind
 have afd:∀ c,oU.op≠.defer c:=by grind
 simp only[be,hS,qy]at h;split at h
 ·rename_i k v aF;obtain⟨kR,y7,E,mv,gM⟩:=(hT.bR aF (by simp)).mp;obtain⟨inf,lZ,i1,i2,i3,i4,i5,i6⟩:=j_ gM.j9;split at h
  ·rename_i xg;split at h
   ·rename_i b g tc;simp only[ao.eG,Option.bind_eq_some_iff,ao.run_bind,ao.eF,ao.bw]at h;obtain⟨⟨dk,nX⟩,hx,⟨mw,nY⟩,aK,h⟩:=h;split at h
    ·rename_i az;obtain⟨az,pO⟩:=az;have pO:b ∉ nX++nY:=by
      grind
     split at h
     ·rename_i k' hL es aa;simp only[Option.map_eq_some_iff]at h;obtain⟨RC,oQ,rfl⟩:=h;obtain⟨e,rfl⟩:=kq oQ;cases e;obtain⟨F',f1,aW,f2⟩:=a_.kO ((mr hx).append (mr aK)) G;have aj:bh C.P s.ab κ F w (use (aS C.aI s.au m)).2 (a.eval m):=cq G m rfl aX.1;rw[tc]at aj;have kv:=aj.2 az.symm (by rw[aa];rfl);have td:=lS G.bl f1 hx f2.left (cq G x rfl aX.2.1);have oT:(s.ca (nX++nY)).ab b=s.ab b:=by simp only[ay.ca];grind
      have aL:=aW.bl b;unfold cf at aL;rw[oT,aa]at aL;obtain⟨ms,clk,hw,tf⟩:=aL;have eU:k.ks=true/\k.jQ<=100:=by simpa [sY]using xg
      have dE:=(B1 (em:=false) k 10000 eU.1 (by omega)).1 mv td;have jW:=tf.es;obtain⟨f,c8,q2⟩:=wL (β:=v.ag) (xs:=es) (es:=ms.toList) xg mv td jW.1 (λj e p h1 h2=>(jW.2 j e p h1 h2).1);have ew:(getObj (κ b).ab).run C.P w=.ok (.map ms clk) w:=by simp[getObj,Sem.run,hw]
      obtain⟨gV,J7,E_,RD⟩:=tf;have tw:d1<a.tmps.size:=by have:=G.df;omega
      have b1:(κ b).ab<w.heap.size:=(Array.getElem?_eq_some_iff.1 hw).1;have chain:∀ (b2 cF:World) (u:Value) (n:Int),(execOp a.eval o1).run C.P w=.ok (.value (.tuple #[u,goInt n])) b2->(Instr.entryStore ty (.map (some (κ b).ab)) (goInt n) (a.eval y)).run C.P b2=.ok () cF->
        (execOp a.eval oU).run C.P w=.ok .skip cF->
        o1.wpIn (du C.r) 0 C.P a w (λbT b2=>f_.wpIn (du C.r) 0 C.P bT b2 (λa2 cF=>kx.wpIn (du C.r) 0 C.P a2 cF K Q) Q) Q:=by
       intro b2 cF u n bY cm afe;have jV:=ku.2;rw[yR afd,afe,Oper.uponIn_skip,Lt]at jV;refine gW e1 bY ?_;rw[t1];have aff:(a.put (some d1) (.tuple #[u,goInt n])).eval (.tmp d1)=.tuple #[u,goInt n]:=Cx tw;refine gW (v:=goInt n) (w':=b2) e2 (by simp[execOp,h2,aff,Instr.extract]) ?_;rw[t2];have afg:d2<(a.put (some d1) (.tuple #[u,goInt n])).tmps.size:=by have:=G.df;simp[Act.put];omega
       have afh:((a.put (some d1) (.tuple #[u,goInt n])).put (some d2) (goInt n)).eval (.tmp d2)=goInt n:=Cx afg;have Lu:((a.put (some d1) (.tuple #[u,goInt n])).put (some d2) (goInt n)).eval m=.map (some (κ b).ab):=by rw[zy o5,zy j0,kv]
       have afi:((a.put (some d1) (.tuple #[u,goInt n])).put (some d2) (goInt n)).eval y=a.eval y:=by rw[zy rZ,zy xf]
       refine EW e3 (w':=cF) (by simp only[execOp,h3,afh,Lu,afi,Sem.run_bind,cm,Result.andThen_ok,Sem.run_pure]) ?_;rw[t3];refine iv _ _ ?_;obtain⟨κ',F',jV⟩:=jV;exact⟨κ',F',a_.set (a_.set (d:=some d1) (av:=.undef) jV (λi e=>by grind) trivial) (λi e=>by grind) trivial⟩
      rcases q2 with⟨rfl,dX⟩ | ⟨j,e,p,g1,dP,g3,g4,rfl⟩
      ·refine chain { w with heap:=w.heap.setIfInBounds (κ b).ab (.map (ms.push { key:=a.eval x,val:=lZ,born:=clk }) (clk+1)) } { w with heap:=w.heap.setIfInBounds (κ b).ab (.map (ms.push { key:=a.eval x,val:=a.eval y,born:=clk }) (clk+1)) } lZ clk ?_ ?_ ?_
       ·simp only[execOp,h1,kv,Instr.mapEntry,Sem.run_bind,dc E,Result.andThen_ok,ew,dE,c8,qz i1 i4,rN hw,Sem.run_pure]
       ·have Lv:(getObj (κ b).ab).run C.P { w with heap:=w.heap.setIfInBounds (κ b).ab (.map (ms.push { key:=a.eval x,val:=lZ,born:=clk }) (clk+1)) }=.ok (.map (ms.push { key:=a.eval x,val:=lZ,born:=clk }) (clk+1)) { w with heap:=w.heap.setIfInBounds (κ b).ab (.map (ms.push { key:=a.eval x,val:=lZ,born:=clk }) (clk+1)) }:=by simp[getObj,Sem.run,b1]
        have Lw:(ms.push { key:=a.eval x,val:=lZ,born:=clk }).findIdx? (λe=>(e.born:Int) == (clk:Int))=some ms.size:=by
         have:=SQ (ms:=ms.push { key:=a.eval x,val:=lZ,born:=clk }) (j:=ms.size) (by simp) λi E he=>by
          grind
         grind
        simp only[Instr.entryStore,Sem.run_bind,Lv,Result.andThen_ok,goInt,asInt,asIntOf,Sem.run_pure,Lw];rw[rN (es:=ms.push { key:=a.eval x,val:=lZ,born:=clk }) (clk:=clk+1) (by grind),afa];simp
       ·simp only[execOp,hS,kv,Instr.mapUpdate,Sem.run_bind,dc E,Result.andThen_ok,ew,dE,c8,rN hw,Sem.run_pure]
      ·have aB:j<es.length:=(List.getElem?_eq_some_iff.1 dP).1;have wM:j<ms.size:=by omega
       have J9:ms[j]=e:=by
        grind
       obtain⟨iZ,b2,bY,cm,dQ⟩:=J5 C.P w e.key (a.eval x);have lu:b2.heap[(κ b).ab]?=some (.map ms clk):=by rcases dQ with rfl | rfl<;>exact hw
       have SR:(κ b).ab<b2.heap.size:=(Array.getElem?_eq_some_iff.1 lu).1;have nu:((ms[j]?).map (·.key)).getD (a.eval x)=e.key:=by
        grind
       have Lx:((ms[j]?).map (λx=>(x.born:Int))).getD 0=(ms[j].born:Int):=by grind
       rw[Nat.zero_add]at c8;refine chain { b2 with heap:=b2.heap.setIfInBounds (κ b).ab (.map (ms.modify j λe=>{ e with key:=iZ }) clk) } { b2 with heap:=b2.heap.setIfInBounds (κ b).ab (.map (ms.modify j λe=>{ e with key:=iZ,val:=a.eval y }) clk) } e.val ms[j].born ?_ ?_ ?_
       ·simp only[execOp,h1,kv,Instr.mapEntry,Sem.run_bind,dc E,Result.andThen_ok,ew,dE,c8];rw[nu,bY];simp only[Result.andThen_ok,rN lu,Sem.run_pure,Lx]
       ·have Lv:(getObj (κ b).ab).run C.P { b2 with heap:=b2.heap.setIfInBounds (κ b).ab (.map (ms.modify j λe=>{ e with key:=iZ }) clk) }=.ok (.map (ms.modify j λe=>{ e with key:=iZ }) clk) { b2 with heap:=b2.heap.setIfInBounds (κ b).ab (.map (ms.modify j λe=>{ e with key:=iZ }) clk) }:=by simp[getObj,Sem.run,SR]
        have l0:∀ i (h:i<(ms.modify j λe=>{ e with key:=iZ }).size),((ms.modify j λe=>{ e with key:=iZ })[i]).born=(ms[i]'(by grind)).born:=by
         grind
        have Lw:(ms.modify j λe=>{ e with key:=iZ }).findIdx? (λe=>(e.born:Int) == (ms[j].born:Int))=some j:=by
         have:=SQ (ms:=ms.modify j λe=>{ e with key:=iZ }) (j:=j) (by grind) λi E he=>by
          grind
         grind
        simp only[Instr.entryStore,Sem.run_bind,Lv,Result.andThen_ok,goInt,asInt,asIntOf,Sem.run_pure,Lw];rw[rN (es:=ms.modify j λe=>{ e with key:=iZ }) (clk:=clk) (by grind),afb];simp
       ·simp only[execOp,hS,kv,Instr.mapUpdate,Sem.run_bind,dc E,Result.andThen_ok,ew,dE,c8];rw[nu,bY];simp only[Result.andThen_ok,rN lu,Sem.run_pure]
     grind
    grind
   ·cases h
  ·cases h
 ·cases h
end
end Go.Fer
namespace Go.Fer
open Go.RowKit
structure Cy(P:Program)(k:FuncId)(c:ITC):Prop where
 enter:∀ args w,(callFunc k args).run P w=.ok (.enter k args) w
 iD:∀ (l:Nat) (I:List c.aH.ag->Bool->(Nat->Prop)->(Nat->Prop)->World->Prop) (F Y:Nat->Prop) (w:World) (args:List Value) (x:c.ts.ag),eY P c.ts F w args x->c.pre x->lf.Ok P ⟨l,c.aH,λT=>T=c.seq x,I⟩->
  (∀ r,F r->r<w.heap.size)->nj P F w->(∀ r,Y r->r<w.heap.size/\¬F r)->I [] false F Y w->Calls P k (args++[Value.func (.yield l) #[] #[]]).toArray w λe w'=>
   ∃ v pre st F' fY,e=.returned v/\(st=false->pre=c.seq x)/\I pre st F' fY w'/\(∀ r,F r->F' r)/\(∀ r,F' r->F r\/Y r\/w.heap.size<=r)/\(∀ r,F' r->r<w'.heap.size)/\
    (∀ r,r<w.heap.size->¬Y r->w'.heap[r]?=w.heap[r]?)/\(∀ r,fY r->(Y r\/w.heap.size<=r)/\r<w'.heap.size/\¬F' r)/\w.heap.size<=w'.heap.size/\cL w w'
def eH.Ok(P:Program)(U:dd)(k:FuncId):eH->Prop
 | .c6 c=>hK P k c.ts c.tr c.sh/\(c.dt=true->∀ x,(c.sh x).Cc)
 | .io c=>IoSpec P U k c
 | .b6 c=>Cy P k c
 | .KM c=>hK P k c.ts c.tr c.sh/\QC P k c.ts c.tr c.sh
 | .Fw c sh ids=>∀ k∈ids,IoSpec P U k { c with sh:=sh k }
 | .ow c=>nm c.tr=true/\BY P k c
def lz(P:Program)(U:dd)(Ψ:Nat->Option eH):Prop:=∀ k c,Ψ k=some c->c.Ok P U k
section
variable {C:bP} {T:Nat->ad} {aY:Nat->Option aJ} {Ψ:Nat->Option eH} {s:ay} {o:Oper} {Q:Exit->Act->World->Prop} {ops:Array Oper}
theorem afj(cb:iX C.P aY)(cB:lz C.P C.aI Ψ){k:Nat}{c:SC}(h:KN aY Ψ k=some c):hK C.P k c.ts c.tr c.sh:=by
 unfold KN at h;split at h
 ·rename_i c' ju;cases h;have:eH.Ok C.P C.aI k (.c6 c):=cB k _ ju;exact this.1
 ·cases h
 ·obtain⟨f,aq,h⟩:=Option.bind_eq_some_iff.1 h;split at h
  ·cases h
  ·rename_i he;cases h;exact (cb k f aq).1 (by simpa using he)
theorem afk{P:Program}{w:World}{ty j:TypeId}(aB:P.underlying ty=some (.slice j))(q:Option Addr)(n cap d:Nat):(Op.equalIn (d+1) ty (.slice q n cap) (.slice none 0 0)).run P w=.ok q.isNone w:=by
 cases q<;>simp[Op.equalIn,dc aB]
theorem afl{P:Program}{w:World}(op:BinOp)(t:TypeId)(x y:Operand)(q q':Option Addr)(n iH cap cap':Nat):(eqGuard op t x y (.slice q n cap) (.slice q' iH cap')).run P w=.ok () w:=by
 cases op<;>simp[eqGuard]
theorem SS{P:Program}{w:World}{ty j:TypeId}{x y:Operand}(aB:P.underlying ty=some (.slice j))(q:Option Addr)(n cap:Nat) :
  (do eqGuard .eql ty x y (.slice q n cap) (.slice none 0 0);binOp .eql ty (.slice q n cap) (.slice none 0 0):Sem Value).run P w=.ok (.bool q.isNone) w/\(do eqGuard .neq ty x y (.slice q n cap) (.slice none 0 0);binOp .neq ty (.slice q n cap) (.slice none 0 0):Sem Value).run P w=.ok (.bool (!q.isNone)) w:=by
 have h:(Op.equalIn 10000 ty (.slice q n cap) (.slice none 0 0)).run P w=.ok q.isNone w:=afk (w:=w) aB q n cap 9999;constructor<;>simp[afl,binOp,Op.equal,Op.maxDepth,h]
theorem afm(hT:dv C.P T)(a1:∀ i,o.dst=some i->i<C.nt){op:BinOp}{ty mo:TypeId}{x y:Operand}(af:o.op=.binOp op ty x y mo){pr:hC}(h:Ci C.aI T s o op ty x y=some pr):pX C o s pr:=by
 have yU:∀ c,o.op≠.defer c:=by grind
 unfold Ci at h;split at h
 ·rename_i e aF afn;have cS:=hT.bR aF (by simp);obtain⟨j,aB,_⟩:=cS.sl;split at h
  ·rename_i xs l hA;have key:∀ (a:Act) (w:World) (κ:Nat->bk) (F:Nat->Prop),a_ C s a w κ F->(use (aS C.aI s.au x)).1->∃ b:Bool,(b=true->xs=[])/\(op=.eql->(execOp a.eval o).run C.P w=.ok (.value (.bool b)) w)/\(op=.neq->(execOp a.eval o).run C.P w=.ok (.value (.bool (!b))) w):=by
    intro a w κ F G aX;have hx:=BF G hA (cq G x rfl aX);obtain⟨_,q,cap,e1,m1,m2,m3,_⟩:=(dw rfl).1 hx;have e1:=(List.cons.inj e1).1;have aK:a.eval y=.slice none 0 0:=by
     have:=jR G y;rw[afn]at this;exact this
    refine⟨q.isNone,λbd=>?_,λku=>?_,λku=>?_⟩
    ·simp_all
    ·subst ku;have G:=(SS (w:=w) (x:=x) (y:=y) aB q xs.length cap).1;rw[<-e1,<-aK]at G;simp only[execOp,af,Sem.run_bind]at G ⊢;simp_all
    ·subst ku;have G:=(SS (w:=w) (x:=x) (y:=y) aB q xs.length cap).2;rw[<-e1,<-aK]at G;simp only[execOp,af,Sem.run_bind]at G ⊢;simp_all
   split at h
   ·cases h;refine⟨λa w Q K G aX aj=>?_,λgs n_=>(by grind),λaa=>aa x (by rw[af];simp[Op.operands])⟩;obtain⟨κ,F,G⟩:=G;obtain⟨b,dr,eC,_⟩:=key a w κ F G aX;exact gW yU (eC rfl) (aj.2 b dr _ _ ⟨κ,F,a_.set G a1 (eQ.2 rfl)⟩)
   ·cases h;refine⟨λa w Q K G aX aj=>?_,λgs n_=>(by grind),λaa=>aa x (by rw[af];simp[Op.operands])⟩;obtain⟨κ,F,G⟩:=G;obtain⟨b,dr,_,eC⟩:=key a w κ F G aX;exact gW yU (eC rfl) (aj.2 b dr _ _ ⟨κ,F,a_.set G a1 (eQ.2 rfl)⟩)
   grind
  grind
 grind
theorem Ly(hT:dv C.P T)(cb:iX C.P aY)(cB:lz C.P C.aI Ψ)(a1:∀ i,o.dst=some i->i<C.nt){pr:hC}(h:qN C.aI T aY Ψ s o=some pr):pX C o s pr:=by
 unfold qN at h;split at h
 ·rename_i c af;obtain⟨callee,args,cR⟩:=c;split at h
  ·rename_i f aq;simp only at aq;subst aq;split at h
   ·split at h
    ·rename_i c' ju;exact ae8 a1 af (cB _ _ ju) h
    ·rename_i c' ju;have h3:eH.Ok C.P C.aI _ (.KM c'):=cB _ _ ju;exact aeK a1 af h3.1 h3.2 h
    ·split at h
     ·rename_i c6 Lz;exact aeJ a1 af (afj cb cB Lz) h
     grind
   ·split at h
    ·rename_i r G;cases h;exact aeL a1 af G
    ·split at h
     ·rename_i r G;cases h;exact ae9 a1 af (λc sh ids hc=>cB _ _ hc) G
     ·exact ae_ a1 af h
   grind
  grind
 ·rename_i ty x af;exact aeM hT a1 af h
 ·rename_i x str af;exact aeQ a1 af h
 ·rename_i x af;exact aeN a1 af h
 ·rename_i op ty x y mo af;exact afm hT a1 af h
 grind
theorem SU(want b:Bool):((some b == some want:Bool))=Fi want b:=by cases want<;>cases b<;>rfl
theorem SV{a:Act}{j d:Nat}{qU:Oper}(h1:ops[j]?=some qU)(h2:qU.dst=some d){b:Bool}(h:a.tmps.getD d Go.undef=.bool b):yielded ops a.tmps j=some b:=by
 have:a.tmps[d]?=some (.bool b):=by
  rw[Array.getD_eq_getD_getElem?]at h;cases he:a.tmps[d]? with
  | none=>rw[he]at h;cases h
  | some v=>grind
 simp[yielded,h1,h2,this]
theorem afo{a:Act}{j d:Nat}{qU:Oper}(h1:ops[j]?=some qU)(h2:qU.dst=some d)(h:a.tmps.getD d Go.undef=Go.undef):yielded ops a.tmps j=none:=by
 unfold yielded;rw[h1];simp only[Option.bind_some,h2];rw[Array.getD_eq_getD_getElem?]at h;cases he:a.tmps[d]? with
 | none=>rfl
 | some v=>rw[he]at h;cases h;rfl
theorem LA{a:Act}{w:World}{κ:Nat->bk}{F:Nat->Prop}(G:a_ C s a w κ F){g:Option Bool}(h:kd s.au ops o.guard=some g) :
  Region.wanted o (yielded ops a.tmps)=g.getD true:=by
 unfold Region.wanted;cases az:o.guard with
 | none=>rw[az]at h;cases h;rfl
 | some p=>
  obtain⟨j,want⟩:=p;rw[az]at h;simp only[kd]at h ⊢;split at h
  ·rename_i qU aB;split at h
   ·rename_i d ar;have hs:=G.bD d;split at h
    ·rename_i b aa;cases h;rw[aa]at hs;rw[SV aB ar (eQ.1 hs),SU];rfl
    ·rename_i g' b aa;cases h;rw[aa]at hs;obtain⟨h1,h2⟩:=hs;cases g' with
     | true=>
      rw[SV aB ar (eQ.1 (h1 rfl)),SU];simp
     | false=>
      rw[afo aB ar (h2 rfl)];rfl
    grind
   grind
  grind
theorem afp{bQ c:Prop}{eJ rU:aC}{hf w5:List (Nat×bt)}(az:Cj o eJ hf=some (w5,rU))(h:(be C.aI T aY (aS C.aI s.au) o).run s.ab=some ⟨bQ,c,eJ,hf⟩) :
    (∀ a w,b7 C (s.hO o.dst ⟨bQ,c,eJ,hf⟩) a w->b7 C ((s.fG w5).set o.dst rU) a w)/\(∀ a w κ F,a_ C s a w κ F->∃ κ' F',a_ C (s.fG w5) a w κ' F'):=by
  unfold Cj at az;split at az
  · cases az
    exact⟨λa w h=>h,λa w κ F h=>⟨κ,F,h⟩⟩
  · rename_i p l'
    split at az
    · rename_i LB first cC af
      cases az
      refine⟨λa w h=>h,λa w κ F G=>?_⟩
      simp only[be,af]at h
      split at h
      · split at h
        · split at h
          · simp only[ao.eG,Option.bind_eq_some_iff,ao.run_bind,ao.bw,Option.some.injEq]at h
            obtain⟨⟨y,l⟩,aK,he⟩:=h
            obtain⟨F',_,aW,_⟩:=a_.kO (pR _ aK) G
            have he:(jq l).run s.ab=p::l':=by grind
            rw[<-he,s4]
            grind
          · split at h
            · simp only[ao.eG,Option.bind_eq_some_iff,ao.run_bind,ao.bw,Option.some.injEq]at h
              obtain⟨⟨y,l⟩,aK,he⟩:=h
              obtain⟨F',_,aW,_⟩:=a_.kO (pR _ aK) G
              have he:(jq l).run s.ab=p::l':=by grind
              rw[<-he,s4]
              grind
            · simp only[bx,ao.bw,Option.some.injEq]at h
              cases h
        · split at h
          · simp only[bx,ao.bw,Option.some.injEq]at h
            cases h
          · cases h
      · cases h
    · rename_i ty n ps af
      split at az
      · rename_i aZ g' e xs bC
        split at az
        · rename_i afq
          obtain⟨⟨rfl,rfl⟩,_⟩:=afq
          cases az
          obtain⟨b,⟨afr,iu⟩⟩:=p
          simp only at bC
          subst bC
          have kQ:o.dst=some b/\afr=(s.ab b).gen+1:=by
            simp only[be,af]at h;split at h
            · simp only[ao.eG,Option.bind_eq_some_iff,ao.run_bind]at h
              obtain⟨⟨ys,fl⟩,_,h⟩:=h
              obtain⟨b0,y',an⟩:=qB h
              grind
            · cases h
          obtain⟨a1,rfl⟩:=kQ
          refine⟨λa w jV=>?_,λa w κ F G=>?_⟩
          · obtain⟨κ,F,G⟩:=jV
            rw[a1]at G ⊢
            simp only[ay.hO,ay.fG]at G
            have hx:(da (.slice e) (.own b ((s.ab b).gen+1))).run ((s.b_ b ⟨(s.ab b).gen+1,.a6 e xs⟩).set (some b) (.own b ((s.ab b).gen+1))).ab=some (xs,[b]):=by
              simp[da,j8,dy,ay.set,ay.b_,eu,ad.d_]
            obtain⟨zz,f1,gl,f2⟩:=a_.kO (mr hx) G
            have hs:=G.bD b
            have hv:=lS (v:=a.tmps.getD b undef) G.bl f1 hx f2 (by simpa [ay.set]using hs)
            have hsl:∀ i,i≠b->((s.b_ b ⟨(s.ab b).gen+1,.a6 e xs⟩).set (some b) (.own b ((s.ab b).gen+1))).au i=s.au i:=λi E=>by simp[ay.set,ay.b_,E]
            have cp:a_ C ⟨λi=>if i=b then .val (.slice e) xs else s.au i,(((s.b_ b ⟨(s.ab b).gen+1,.a6 e xs⟩).set (some b) (.own b ((s.ab b).gen+1))).ca [b]).ab⟩ a w κ zz:=
              { gl with
                df:=gl.df,dfr:=gl.dfr,bl:=gl.bl
                bD:=λi=>by
                  show bh _ _ _ _ _ (if i=b then .val (.slice e) xs else s.au i) _;split
                  · rename_i E
                    subst E
                    exact hv
                  · rename_i E
                    rw[<-hsl i E]
                    exact gl.bD i
                pro:=λl aH L n st aR=>by
                  have aR:(if TRS=b then aC.val (.slice e) xs else s.au TRS)=.tr l aH L n st:=aR;split at aR
                  · cases aR
                  · rename_i E
                    exact gl.pro l aH L n st ((hsl TRS E).trans aR) }
            refine⟨κ,zz,cp.yH ⟨λi=>.inl ?_,λi=>?_⟩⟩
            · rfl
            · by_cases E:i=b
              · subst E
                right
                simp[ay.set,ay.fG,ay.b_,ay.ca,eT]
              · left
                simp[ay.set,ay.fG,ay.b_,ay.ca,E]
          · have ax:=K_ G (b:=b) (e:=e)
            refine⟨_,F,ax.yH ⟨λi=>.inl rfl,λi=>?_⟩⟩
            by_cases E:i=b
            · subst E
              right
              simp[ay.fG,ay.b_]
            · left
              simp[ay.fG,ay.b_,E]
        grind
      grind
    grind
theorem r0{β:Type}{b:Bool}{p:Prop}{m:M β}{O:β->Prop}(aa:b=true->p):M.b9 (rS b p m) O<->p/\M.b9 m O:=by
 cases b with
 | true=>exact⟨λh=>⟨aa rfl,h⟩,λh=>h.2⟩
 | false=>exact M.ko
def p0(ops:Array Oper)(s:ay)(tg:o2):Prop:=∀ p∈tg,∃ b a,s.au p.1=.hb b a/\kd s.au ops (some p.2)=some (some b)
theorem afs{j d:Nat}:rT ops j d=true<->d∈Fj ops (some (j,true)):=by
 have key:∀ (x:Option Oper),(match x with | some o=>(match o.dst with | some e=>e == d | none=>false) | none=>false)=true<->d∈(match x with | some o=>o.dst.toList | none=>[]):=by
  grind
 exact key _
theorem p0.gO{s':ay}{tg:o2}(h:p0 ops s tg)(hs:∀ i,o.dst≠some i->s'.au i=s.au i)
  (ar:∀ d k,o.dst=some d->o.guard=some k->∃ b a,s'.au d=.hb b a/\kd s.au ops (some k)=some (some b)):p0 ops s' (w3 ops tg o):=by
 unfold w3;cases a1:o.dst with
 | none=>
  intro p hp;obtain⟨b,a,h1,h2⟩:=h p hp;refine⟨b,a,(hs _ (by grind)).trans h1,?_⟩;rw[<-h2];exact Kq λt _=>hs t (by grind)
 | some d=>
  have congr:∀ k:Nat×Bool,rT ops k.1 d=false->kd s'.au ops (some k)=kd s.au ops (some k):=λk an=>Kq λt aF=>hs t (by
   rw[a1];intro e;cases e;have:rT ops k.1 d=true:=afs.2 aF;grind)
  have uL:p0 ops s' (tg.filter λp=>p.1 != d&&!rT ops p.2.1 d):=by
   intro p hp;simp only[List.mem_filter,Bool.and_eq_true,bne_iff_ne,ne_eq,Bool.not_eq_true']at hp;obtain⟨b,a,h1,h2⟩:=h p hp.1;grind
  simp only;split
  ·rename_i k an;split
   ·omega
   ·rename_i SW;intro p hp;rcases List.mem_cons.1 hp with rfl | hp
    ·grind
    ·exact uL p hp
  omega
section
variable {U:dd} {tg:o2} {gk:Option (Nat×Bool)}
theorem Cz(hT:p0 ops s tg)(az:∀ k,gk=some k->kd s.au ops (some k)=some (some true)){x:Operand}(h:w4 (aS U s.au) tg gk x=true):(use (aS U s.au x)).1:=by
 unfold w4 at h;rw[Bool.or_eq_true]at h;rcases h with h | h
 ·exact Fg (by grind)
 ·split at h
  ·rename_i t k;obtain⟨p,hp,uP⟩:=List.any_eq_true.1 h;simp only[Bool.and_eq_true,beq_iff_eq]at uP;obtain⟨rfl,h1,h2⟩:=uP;have uP:p.2=k:=Prod.ext h1 h2;obtain⟨b,a,aM,aO⟩:=hT p hp;rw[uP,az k rfl]at aO;cases aO;have e:aS U s.au (.tmp p.1)=s.au p.1:=rfl;rw[e,aM];rfl
  grind
theorem SX(hT:p0 ops s tg)(az:∀ k,gk=some k->kd s.au ops (some k)=some (some true))(h:KQ (aS U s.au) tg gk o=true):qH (aS U s.au) o:=
 λx hx=>Cz hT az (List.all_eq_true.1 h x hx)
theorem SY(hT:p0 ops s tg){c x:Operand}{want:Bool}{oc:Prop}{iI:Bool}(hc:use (aS U s.au c)=(oc,.val .bool iI))(CA:oc)(h:FG ops tg c x want=true)(hw:Fi want iI=true):(use (aS U s.au x)).1:=by
 unfold FG at h;split at h
 ·rename_i c t;obtain⟨p,hp,uP⟩:=List.any_eq_true.1 h;simp only[Bool.and_eq_true,beq_iff_eq]at uP;obtain⟨rfl,h1,rfl⟩:=uP;obtain⟨b,a,aM,aO⟩:=hT p hp;have e:aS U s.au (.tmp p.1)=s.au p.1:=rfl;rw[e,aM];show b=true;unfold rT at h1;have xh:p.2=(p.2.1,p.2.2):=rfl;rw[xh]at aO;unfold kd at aO;have ju:use (s.au c)=(oc,.val .bool iI):=hc;split at h1
  ·rename_i qU aB;split at h1
   ·rename_i d ar;have aft:d=c:=by grind
    subst aft;simp only[aB,ar]at aO;split at aO
    ·rename_i b0 y';rw[y']at ju;simp only[use,Prod.mk.injEq,aC.val.injEq,heq_eq_eq,true_and]at ju;grind
    ·rename_i g0 b0 y';rw[y']at ju;simp only[use,Prod.mk.injEq,aC.val.injEq,heq_eq_eq,true_and]at ju;grind
    grind
   grind
  grind
 grind
theorem F7(hT:p0 ops s tg)(az:∀ k,gk=some k->kd s.au ops (some k)=some (some true))(h:zj (aS U s.au) ops tg gk o=true):(be U T aY (aS U s.au) o).cz (kT λr=>r.bQ):=by
 cases af:o.op with
 | pick c a b=>
  simp only[zj,af,Bool.and_eq_true,Bool.or_eq_true]at h;obtain⟨h1,h2,h3⟩:=h;unfold be;rw[af];simp only;split
  ·rename_i oc iI lv;have CA:oc:=by have:=Cz hT az h1;grind
   split
   ·split
    ·rename_i yO av aU;refine .bx ⟨CA,λhv=>?_⟩;have:(use (aS U s.au a)).1:=by
      rcases h2 with h2 | h2
      ·exact Cz hT az h2
      ·exact SY hT lv CA h2 hv
     grind
    ·exact .bF
   ·split
    ·rename_i yO av aU;refine .bx ⟨CA,λhv=>?_⟩;have:(use (aS U s.au b)).1:=by
      rcases h3 with h3 | h3
      ·exact Cz hT az h3
      ·exact SY hT lv CA h3 (by subst hv;rfl)
     grind
    ·exact .bF
   ·exact .bF
  ·exact .bF
 | _=>
  simp only[zj,af]at h;exact RT (SX hT az h)
theorem afu(hT:p0 ops s tg)(az:∀ k,gk=some k->kd s.au ops (some k)=some (some true)){bQ c:Prop}{eJ rU:aC}{hf w5:List (Nat×bt)}(hw:Cj o eJ hf=some (w5,rU))(G:(be U T aY (aS U s.au) o).run s.ab=some ⟨bQ,c,eJ,hf⟩)
  (h:KR (aS U s.au) tg gk o rU=true):(use rU).1:=by
 unfold KR at h;rw[Bool.or_eq_true]at h;rcases h with h | h
 ·exact Fg (by grind)
 ·split at h
  ·rename_i x af;simp only[be,af,bx,ao.bw,Option.some.injEq,dW.mk.injEq]at G;obtain⟨_,_,rfl,rfl⟩:=G;simp only[Cj,Option.some.injEq,Prod.mk.injEq]at hw;obtain⟨_,rfl⟩:=hw;exact Cz hT az h
  grind
end
theorem ay.CB{s:ay}{d:Option Nat}{v:aC}{i:Nat}(h:d≠some i):(s.set d v).au i=s.au i:=by
 cases d with
 | none=>rfl
 | some d=>simp only[ay.set];grind
theorem ay.LC{s:ay}{d:Nat}{v:aC}:(s.set (some d) v).au d=v:=by simp[ay.set]
theorem ay.zf:∀ (l:List (Nat×bt)) (s:ay),(s.fG l).au=s.au
 | [],_=>rfl
 | p::l,s=>by
  have:=ay.zf l (s.b_ p.1 p.2);exact this
theorem afv{U:dd}{pr:hC}{gs:Bool->pr.ai->ay}(h:qN U T aY Ψ s o=some pr)(az:pr.Cd=some gs):∀ g y,∃ v,(gs g y).au=(s.set o.dst (.hb g v)).au:=by
 have after:∀ (t:ad) (fl:List Nat) (v:aC),(qK s o t fl v).au=(s.set o.dst v).au:=λt fl v=>by
  unfold qK;split
  ·rfl
  ·cases o.dst<;>rfl
 have c6:∀ {args:List Operand} {c:SC} {pr:hC} {gs:Bool->pr.ai->ay},Ce U s o args c=some pr->pr.Cd=some gs->∀ g y,∃ v,(gs g y).au=(s.set o.dst (.hb g v)).au:=by
  intro args c pr gs h az;unfold Ce at h;split at h
  ·cases h;cases az;exact λg y=>⟨_,after _ _ _⟩
  grind
 have fc:∀ {t:Nat} {args:List Operand} {pr:hC} {gs:Bool->pr.ai->ay},Cf U s o t args=some pr->pr.Cd=some gs->∀ g y,∃ v,(gs g y).au=(s.set o.dst (.hb g v)).au:=by
  intro t args pr gs h az;unfold Cf at h;split at h
  ·split at h
   ·cases h;cases az;exact λg y=>⟨_,after _ _ _⟩
   grind
  grind
 unfold qN at h;split at h
 ·split at h
  ·split at h
   ·split at h
    ·unfold w2 at h;grind
    ·unfold Fy at h;grind
    ·split at h
     ·exact c6 h az
     grind
   ·split at h
    ·rename_i G;cases h;exact fc G az
    ·split at h
     ·rename_i G;cases h;unfold FA w2 at G;grind
     ·unfold FB at h;grind
   grind
  grind
 ·unfold FC at h;grind
 ·unfold FE at h;grind
 ·unfold FF at h;grind
 ·unfold Ci at h;grind
 grind
theorem uX{x:Operand}{t:Nat}(h:hR x=some t):x=.tmp t:=by
 cases x<;>simp[hR]at h;rw[h]
theorem SZ{o f_ kx oU:Oper}{d1 d2:Nat}(h:zk o f_ kx=some (oU,d1,d2)):∃ ty m x y,o.op=.mapEntry ty m x/\o.dst=some d1/\f_.op=.extract (.tmp d1) 1/\f_.dst=some d2/\kx.op=.entryStore ty m (.tmp d2) y/\kx.dst=none/\
  oU.op=.mapUpdate ty m x y/\oU.dst=none/\m≠.tmp d1/\m≠.tmp d2/\y≠.tmp d1/\y≠.tmp d2/\o.guard=none/\f_.guard=none/\kx.guard=none:=by
 unfold zk at h;split at h
 ·rename_i ty m x af;split at h
  ·rename_i e xi;split at h
   ·rename_i mo c7 aR y aww;split at h
    ·rename_i acL JO LD CC S0;split at h
     ·rename_i hc;simp only[Option.some.injEq,Prod.mk.injEq]at h;obtain⟨rfl,rfl,rfl⟩:=h;obtain⟨c1,c2,rfl,c4,c5,lj,n0,wF,c9,F1,afw,c12,afx⟩:=hc;obtain⟨oa,tx⟩:=Option.isSome_iff_exists.1 c4;have eV:=uX tx;have aj:=uX (c5.symm.trans tx);have e1:=uX c1;have e2:=uX c2;subst e1;subst e2;refine⟨mo,m,x,y,af,LD,xi,CC,?_,S0,rfl,S0,λe=>n0 (by grind),λe=>wF (by grind),λe=>c9 (by grind),λe=>F1 (by grind),Option.isNone_iff_eq_none.1 afw,Option.isNone_iff_eq_none.1 c12,Option.isNone_iff_eq_none.1 afx⟩;grind
     grind
    grind
   grind
  grind
 grind
theorem LF{β:Type}(hT:dv C.P T)(cb:iX C.P aY)(cB:lz C.P C.aI Ψ)(ar:∀ o∈ops.toList,kS o C.nt=true){k:ay->M β}{O:β->Prop}
  (an:∀ s' a' w',b7 C s' a' w'->M.b9 (k s') O->Q .normal a' w'):∀ (os:List Oper) (n:Nat) (tg:o2) (s:ay) (a:Act) (w:World),ops.toList.drop n=os->p0 ops s tg->b7 C s a w->M.b9 (lY C.aI T aY Ψ ops os tg s k) O->
   wpOpsIn (du C.r) 0 C.P ops Q (List.range' n os.length) a w:=by
 intro os;generalize hlen:os.length=len;induction len using Nat.strongRecOn generalizing os with
 | _ len S1=>
 subst hlen;cases os with
 | nil=>
  intro n tg s a w _ _ G aj;exact an s a w G aj
 | cons o os=>
  have aG:=S1 os.length (by simp) os rfl;intro n tg s a w ax xj G aj;have b1:n<ops.toList.length:=by
   grind
  rw[List.drop_eq_getElem_cons b1]at ax;injection ax with pT hF
  have ew:ops[n]?=some o:=by
   grind
  have jy:o∈ops.toList:=pT ▸ List.getElem_mem b1;have xk:=ar o jy;have a1:∀ i,o.dst=some i->i<C.nt:=λi E=>by
   have:=xk;simp only[kS,Bool.and_eq_true]at this;grind
  simp only[List.length_cons,List.range'_succ,wpOpsIn,ew];obtain⟨κ,F,ez⟩:=G;unfold lY at aj;split at aj
  ·rename_i oU d1 d2 r1;cases os with
   | nil=>exact aj.1.elim
   | cons f_ os=>
    cases os with
    | nil=>exact aj.1.elim
    | cons kx os=>
     simp only at aj;split at aj
     ·rename_i res fR;obtain⟨ty,m,x,y,f1,f2,f3,f4,f5,f6,f7,f8,f9,f10,f11,f12,g1,dP,g3⟩:=SZ r1;have S2:=hF;have BN:n+1<ops.toList.length:=by
       grind
      rw[List.drop_eq_getElem_cons BN]at S2;injection S2 with afy S3
      have afz:n+2<ops.toList.length:=by
       grind
      rw[List.drop_eq_getElem_cons afz]at S3;injection S3 with awx afA
      have afB:ops[n+1]?=some f_:=by
       grind
      have awy:ops[n+2]?=some kx:=by
       grind
      have CC:d2<C.nt:=by
       have:=ar f_ (afy ▸ List.getElem_mem BN);simp only[kS,Bool.and_eq_true]at this;grind
      rw[M.ko,M.ko]at aj;have b2:Region.wanted o (yielded ops a.tmps)=true:=by unfold Region.wanted;rw[g1]
      have cF:∀ a':Act,Region.wanted f_ (yielded ops a'.tmps)=true:=λa'=>by unfold Region.wanted;rw[dP]
      have eA:∀ a':Act,Region.wanted kx (yielded ops a'.tmps)=true:=λa'=>by unfold Region.wanted;rw[g3]
      have:=afc (Q:=Q) (K:=λa' w'=>wpOpsIn (du C.r) 0 C.P ops Q (List.range' (n+3) os.length) a' w') hT f1 f2 f3 f4 f5 f6 f7 f8 f9 f10 f11 f12 (a1 d1 f2) CC fR ez aj.1 aj.2.1
       λa' w' aW=>S1 os.length (by grind) os rfl (n+3) [] _ a' w' afA (λp hp=>by cases hp) aW aj.2.2
      rw[b2];simp only[if_true];refine Oper.wpIn_mono (λbT awz h1=>?_) this;simp only[List.length_cons,List.range'_succ,wpOpsIn,afB,cF,if_true];grind
     ·exact aj.1.elim
  split at aj
  ·exact aj.1.elim
  ·rename_i az;have awA:o.guard=none:=by
    cases h:o.guard with
    | none=>rfl
    | some p=>
     rw[h]at az;simp only[kd]at az;grind
   rw[LA ez az];simp only[Option.getD_none,if_true];split at aj
   ·rename_i res fR;rw[r0 λaa=>(F7 xj (gk:=none) (λk an=>by cases an) aa).run s.ab res fR,r0 λaa=>(zc aa).run s.ab res fR]at aj;refine Oper.wpIn_mono (λa' w' aW=>aG (n+1) _ _ a' w' hF (xj.gO (λi E=>?_) λd k _ an=>by grind) aW aj.2.2) (wQ hT cb xk fR a w κ F Q ez aj.1 aj.2.1);unfold ay.hO;rw[ay.CB E,ay.zf]
   ·split at aj
    ·rename_i pr n';obtain⟨jt,pP,lW⟩:=Ly hT cb cB a1 n';rw[r0 λaa=>lW (Kj aa),M.fF]at aj;exact jt a w Q _ ⟨κ,F,ez⟩ aj.1 (aj.2.mono λy aK a' w' aW=>aG (n+1) _ _ a' w' hF (λp hp=>by cases hp) aW aK)
    ·exact aj.1.elim
  ·rename_i g az;have F8:∀ k,o.guard=some k->g=true->kd s.au ops (some k)=some (some true):=λk an aF=>by grind
   rw[LA ez az];simp only[Option.getD_some];split at aj
   ·rename_i bQ c afC afD fR;split at aj
    ·rename_i hf eJ xl;obtain⟨afE,afF⟩:=afp xl fR;rw[r0 λaa=>by
      simp only[Bool.and_eq_true]at aa;exact λF9=>⟨(F7 xj (λk an=>F8 k an F9) aa.1).run s.ab _ fR,(zc aa.2.1).run s.ab _ fR,afu xj (λk an=>F8 k an F9) xl fR aa.2.2⟩]at aj
     have CD:p0 ops ((s.fG hf).set o.dst (.hb g (use eJ).2)) (w3 ops tg o):=xj.gO (λi E=>by rw[ay.CB E,ay.zf]) λd k ar an=>⟨g,(use eJ).2,by rw[ar,ay.LC],by grind⟩
     cases g with
     | true=>
      simp only[if_true];obtain⟨h1,h2,h3⟩:=aj.1 rfl;refine Oper.wpIn_mono (λa' w' aW=>aG (n+1) _ _ a' w' hF CD (b7.K' (av':=.hb true (use eJ).2) (afE a' w' aW) a1 λκ F v hv=>⟨λ_=>oN hv h3,λh=>(by cases h)⟩) aj.2) (wQ hT cb xk fR a w κ F Q ez h1 h2)
     | false=>
      simp only[Bool.false_eq_true,if_false];refine⟨λ_ _=>trivial,aG (n+1) _ _ _ w hF CD ?_ aj.2⟩;obtain⟨κ',F',afG⟩:=afF a w κ F ez;exact⟨κ',F',afG.set (av:=.hb false (use eJ).2) a1 ⟨λh=>(by cases h),λ_=>rfl⟩⟩
    ·cases g with
     | true=>
      simp only[if_true]at aj ⊢;rw[M.ko,M.ko]at aj;exact Oper.wpIn_mono (λa' w' aW=>aG (n+1) _ _ a' w' hF (λp hp=>by cases hp) aW aj.2.2) (wQ hT cb xk fR a w κ F Q ez aj.1 aj.2.1)
     | false=>
      simp only[Bool.false_eq_true,if_false]at aj ⊢;exact⟨λ_ _=>trivial,aG (n+1) _ _ _ w hF (λp hp=>by cases hp) ⟨κ,F,ez.set (av:=.hb false (Sd afD (use afC).2)) a1 ⟨λh=>(by cases h),λ_=>rfl⟩⟩ aj⟩
   ·split at aj
    ·rename_i pr n';obtain⟨jt,pP,lW⟩:=Ly hT cb cB a1 n';split at aj
     ·rename_i gs n_;obtain⟨c8,q2⟩:=pP gs n_;rw[r0 λaa F9=>lW (SX xj (λk an=>F8 k an F9) aa),M.fF]at aj;have CD:∀ y,p0 ops (gs g y) (w3 ops tg o):=λy=>by
       obtain⟨v,hv⟩:=afv n' n_ g y;exact xj.gO (λi E=>by rw[hv,ay.CB E]) λd k ar an=>⟨g,v,by rw[hv,ar,ay.LC],by grind⟩
      cases g with
      | true=>
       simp only[if_true];exact jt a w Q _ ⟨κ,F,ez⟩ (aj.1 rfl) (aj.2.mono λy aK a' w' aW=>aG (n+1) _ _ a' w' hF (CD y) (c8 y a' w' aW) aK)
      | false=>
       simp only[Bool.false_eq_true,if_false];exact⟨λ_ _=>trivial,aG (n+1) _ _ _ w hF (CD pr.d) (q2 a w ⟨κ,F,ez⟩) (by
        have h:=aj.2;simp only[bS,Bool.false_eq_true,if_false]at h;exact h.2 pr.d rfl)⟩
     ·cases g with
      | true=>
       simp only[if_true]at aj ⊢;rw[M.ko,M.fF]at aj;exact jt a w Q _ ⟨κ,F,ez⟩ aj.1 (aj.2.mono λy aK a' w' aW=>aG (n+1) _ _ a' w' hF (λp hp=>by cases hp) aW aK)
      | false=>
       simp only[Bool.false_eq_true,if_false]at aj ⊢;exact⟨λ_ _=>trivial,aG (n+1) _ _ _ w hF (λp hp=>by cases hp) ⟨κ,F,ez.set (av:=.hb false (use ((pr.st pr.d).au (o.dst.getD 0))).2) a1 ⟨λh=>(by cases h),λ_=>rfl⟩⟩ aj⟩
    ·exact aj.1.elim
end
end Go.Fer
namespace Go.Fer
open Go.RowKit
section
variable {C:bP} {T:Nat->ad} {aY:Nat->Option aJ} {s:ay} {res:dW}
theorem afH{P:Program}:∀ (t:ad),t.ks=true->∀ {F F':Nat->Prop} {w w':World} {cs:List Value} {x:t.ag},br P t F w cs x->br P t F' w' cs x:=by
 intro t;induction t with
 | bool=>intro _ F F' w w' cs x h;exact h
 | int k=>intro _ F F' w w' cs x h;exact h
 | str=>intro _ F F' w w' cs x h;exact h
 | cx=>intro hc;cases hc
 | st t aG=>intro hc F F' w w' cs x h;simp only[br]at h ⊢;exact aG hc h
 | aw a b fa eg=>
  intro hc F F' w w' cs x h;simp only[ad.ks,Bool.and_eq_true]at hc;simp only[br]at h ⊢;grind
 | slice e aG=>intro hc;cases hc
 | array n e aG=>intro hc;cases hc
 | bp e aG=>intro hc;cases hc
 | map k v wg wh=>intro hc;cases hc
 | fn a b fa eg=>intro hc;cases hc
 | b6 a aG=>intro hc;cases hc
 | dM=>intro hc;cases hc
theorem S4{P:Program}{t:ad}(h:t.ks=true){F F':Nat->Prop}{w w':World}{v:Value}{x:t.ag}(hv:dN P t F w v x):dN P t F' w' v x:=⟨hv.1,afH t h hv.2⟩
theorem F_(a:Act){i j:Nat}(h:i≠j)(v u:Value):(a.put (some i) v).put (some j) u=(a.put (some j) u).put (some i) v:=by
 simp only[Act.put];rw[Array.setIfInBounds_comm _ _ h]
theorem Ga{P:Program}{ty kR y7:TypeId}(E:P.underlying ty=some (.map kR y7)){r:Nat}{ms:Array MapEntry}{clk:Nat}{w:World}(hw:w.heap[r]?=some (.map ms clk)){key u:Value}{f:Option (Nat×Value)}
  (dE:(Instr.checkKey ms.isEmpty 10000 kR key).run P w=.ok () w) (aq:(Instr.findKey kR key ms.toList).run P w=.ok f w) (hu:(∃ i,f=some (i,u))\/(f=none/\(zeroValue y7).run P w=.ok u w)) :
  (Instr.lookup ty (.map (some r)) key false).run P w=.ok u w:=by
 have ew:(getObj r).run P w=.ok (.map ms clk) w:=by simp[getObj,Sem.run,hw]
 rcases hu with⟨i,rfl⟩ | ⟨rfl,a8⟩
 ·simp only[Instr.lookup,Sem.run_bind,dc E,Result.andThen_ok,Sem.run_pure,ew,dE,aq];rfl
 ·simp only[Instr.lookup,Sem.run_bind,dc E,Result.andThen_ok,Sem.run_pure,ew,dE,aq,a8];rfl
theorem afI(hT:dv C.P T){ga hi oU:Oper}{ty:TypeId}{m x y:Operand}(hU:ga.op=.lookup ty m x false)(jW:hi.op=.mapEntry ty m x)(hS:oU.op=.mapUpdate ty m x y){dq:ay}(pQ:dq.ab=s.ab)
  (o5:aS C.aI dq.au m=aS C.aI s.au m) (E5:aS C.aI dq.au x=aS C.aI s.au x) (h:(be C.aI T aY (aS C.aI dq.au) oU).run dq.ab=some res)
  {a:Act} {w:World} {κ:Nat->bk} {F:Nat->Prop} (G:a_ C s a w κ F) (LG:(use (aS C.aI s.au m)).1) (LH:(use (aS C.aI s.au x)).1) :
  ∃ u n wE,∀ a':Act,a'.eval m=a.eval m->a'.eval x=a.eval x->
   (execOp a'.eval ga).run C.P w=.ok (.value u) w/\(execOp a'.eval ga).run C.P wE=.ok (.value u) wE/\(execOp a'.eval hi).run C.P w=.ok (.value (.tuple #[u,goInt n])) wE:=by
 simp only[be,hS,qy,o5,E5,pQ]at h;split at h
 ·rename_i k v aF;obtain⟨kR,y7,E,mv,gM⟩:=(hT.bR aF (by simp)).mp;obtain⟨inf,lZ,i1,i2,i3,i4,i5,i6⟩:=j_ gM.j9;split at h
  ·rename_i xg;split at h
   ·rename_i b g tc;simp only[ao.eG,Option.bind_eq_some_iff,ao.run_bind,ao.eF,ao.bw]at h;obtain⟨⟨dk,nX⟩,hx,⟨mw,nY⟩,aK,h⟩:=h;split at h
    ·rename_i az;obtain⟨az,_⟩:=az;split at h
     ·rename_i k' hL es aa;simp only[Option.map_eq_some_iff]at h;obtain⟨RC,oQ,rfl⟩:=h;obtain⟨e,rfl⟩:=kq oQ;cases e;have aj:bh C.P s.ab κ F w (use (aS C.aI s.au m)).2 (a.eval m):=cq G m rfl LG;rw[tc]at aj;have kv:=aj.2 az.symm (by rw[aa];rfl);have eU:k.ks=true/\k.jQ<=100:=by simpa [sY]using xg
      have td:=BF G hx (cq G x rfl LH);have Gb:∀ (F':Nat->Prop) w',dN C.P k F' w' (a.eval x) dk:=λF' w'=>S4 eU.1 td;have aL:=G.bl b;unfold cf at aL;rw[aa]at aL;obtain⟨ms,clk,hw,tf⟩:=aL;have dE:∀ em w',(Instr.checkKey em 10000 kR (a.eval x)).run C.P w'=.ok () w':=λem w'=>(B1 (em:=em) (F:=λ_=>True) k 10000 eU.1 (by omega)).1 mv (Gb _ w');have S5:=tf.es;have SW:∀ (j:Nat) (e:MapEntry) (p:k.ag×v.ag),ms.toList[j]?=some e->es[j]?=some p->∀ (F':Nat->Prop) w',dN C.P k F' w' e.key p.1:=λj e p h1 h2 F' w'=>S4 eU.1 (S5.2 j e p h1 h2).1;obtain⟨f,c8,q2⟩:=wL (F:=λ_=>True) (w:=w) (β:=v.ag) (xs:=es) (es:=ms.toList) xg mv (Gb _ w) S5.1 (λj e p h1 h2=>SW j e p h1 h2 _ w);have ew:(getObj (κ b).ab).run C.P w=.ok (.map ms clk) w:=by simp[getObj,Sem.run,hw]
      obtain⟨gV,J7,E_,RD⟩:=tf;have b1:(κ b).ab<w.heap.size:=(Array.getElem?_eq_some_iff.1 hw).1;have a8:∀ w',(zeroValue y7).run C.P w'=.ok lZ w':=λw'=>qz i1 i4;have o6:∀ (a':Act) (w':World) (u:Value),a'.eval m=a.eval m->a'.eval x=a.eval x->(Instr.lookup ty (.map (some (κ b).ab)) (a.eval x) false).run C.P w'=.ok u w'->(execOp a'.eval ga).run C.P w'=.ok (.value u) w':=by
       intro a' w' u e1 e2 aW;simp only[execOp,hU,e1,e2,kv,Sem.run_bind,aW,Result.andThen_ok,Sem.run_pure]
      have afJ:∀ q:k.ag,gh k dk q=true<->dk=q:=λq=>J3 k eU.1 dk q;rcases q2 with⟨rfl,dX⟩ | ⟨j,e,p,g1,dP,g3,g4,rfl⟩
      ·let b2:World:={ w with heap:=w.heap.setIfInBounds (κ b).ab (.map (ms.push { key:=a.eval x,val:=lZ,born:=clk }) (clk+1)) }
       have lu:b2.heap[(κ b).ab]?=some (.map (ms.push { key:=a.eval x,val:=lZ,born:=clk }) (clk+1)):=by grind
       obtain⟨ij,bY,cm⟩:=wL (F:=λ_=>True) (w:=b2) (β:=v.ag) (xs:=es++[(dk,v.cM)]) (es:=(ms.push { key:=a.eval x,val:=lZ,born:=clk }).toList) xg mv (Gb _ b2) (by grind) (λj e p h1 h2=>by
        grind)
       have qV:∃ i,ij=some (i,lZ):=by
        rcases cm with⟨_,dQ⟩ | ⟨j,e,p,ea,dq,ee,ob,rfl⟩
        ·have:=dQ (dk,v.cM) (by simp);grind
        ·by_cases aB:j<es.length
         ·grind
         grind
       refine⟨lZ,clk,b2,λa' e1 e2=>⟨o6 a' w lZ e1 e2 (Ga E hw (dE _ w) c8 (.inr ⟨rfl,a8 w⟩)),o6 a' b2 lZ e1 e2 (Ga E lu (dE _ b2) bY (.inl qV)),?_⟩⟩;simp only[execOp,jW,e1,e2,kv,Instr.mapEntry,Sem.run_bind,dc E,Result.andThen_ok,ew,dE,c8,a8,rN hw,Sem.run_pure];rfl
      ·have aB:j<es.length:=(List.getElem?_eq_some_iff.1 dP).1;have wM:j<ms.size:=by omega
       have J9:ms[j]=e:=by
        grind
       obtain⟨iZ,b2,t1,t2,t3⟩:=J5 C.P w e.key (a.eval x);have lu:b2.heap[(κ b).ab]?=some (.map ms clk):=by rcases t3 with rfl | rfl<;>exact hw
       have SR:(κ b).ab<b2.heap.size:=(Array.getElem?_eq_some_iff.1 lu).1;have nu:((ms[j]?).map (·.key)).getD (a.eval x)=e.key:=by
        grind
       have Lx:((ms[j]?).map (λx=>(x.born:Int))).getD 0=(ms[j].born:Int):=by grind
       rw[Nat.zero_add]at c8;have adm:dk=p.1:=(afJ p.1).1 g3;let cF:World:={ b2 with heap:=b2.heap.setIfInBounds (κ b).ab (.map (ms.modify j λe=>{ e with key:=iZ }) clk) }
       have gA:cF.heap[(κ b).ab]?=some (.map (ms.modify j λe=>{ e with key:=iZ }) clk):=by grind
       have uE:∀ (F':Nat->Prop) w',dN C.P k F' w' iZ p.1:=λF' w'=>by
        grind
       have y4:∀ i,(ms.modify j λe=>{ e with key:=iZ }).toList[i]?=if i=j then some { e with key:=iZ } else ms.toList[i]?:=λi=>by
        grind
       obtain⟨ij,bY,cm⟩:=wL (F:=λ_=>True) (w:=cF) (β:=v.ag) (xs:=es) (es:=(ms.modify j λe=>{ e with key:=iZ }).toList) xg mv (Gb _ cF) (by grind) (λi aR p' h1 h2=>by
        rw[y4]at h1;grind)
       have qV:∃ i,ij=some (i,e.val):=by
        rcases cm with⟨_,dQ⟩ | ⟨i,aR,p',ea,dq,ee,ob,rfl⟩
        ·have:=dQ p (List.mem_of_getElem? dP);rw[g3]at this;cases this
        ·have y8:i=j:=by
          rcases Nat.lt_trichotomy i j with h | h | h
          ·have:=g4 i p' h dq;rw[ee]at this;cases this
          ·exact h
          ·have:=ob j p h dP;rw[g3]at this;cases this
         subst y8;rw[y4,if_pos rfl]at ea;cases ea;exact⟨_,rfl⟩
       refine⟨e.val,ms[j].born,cF,λa' e1 e2=>⟨o6 a' w e.val e1 e2 (Ga E hw (dE _ w) c8 (.inl ⟨_,rfl⟩)),o6 a' cF e.val e1 e2 (Ga E gA (dE _ cF) bY (.inl qV)),?_⟩⟩;simp only[execOp,jW,e1,e2,kv,Instr.mapEntry,Sem.run_bind,dc E,Result.andThen_ok,ew,dE,c8];rw[nu,t1];simp only[Result.andThen_ok,rN lu,Sem.run_pure,Lx];rfl
     grind
    grind
   ·cases h
  ·cases h
 ·cases h
end
end Go.Fer
namespace Go.Fer
open Go.RowKit
section
variable {C:bP} {T:Nat->ad} {aY:Nat->Option aJ} {Ψ:Nat->Option eH} {s:ay} {o:Oper} {Q:Exit->Act->World->Prop} {ops:Array Oper}
theorem M.afK{ai:Type}{m:M ai}(h:m.Cc){d x:ai}(hx:m.bB x):x=m.val d:=by
 unfold M.val;have he:∃ x,m.bB x:=⟨x,hx⟩
 rw[dif_pos he];exact h _ _ hx he.choose_spec
theorem S6(cb:iX C.P aY)(cB:lz C.P C.aI Ψ):iX C.P (Fx aY Ψ):=by
 intro k c h;unfold Fx at h;split at h
 ·rename_i c6 Lz;split at h
  ·rename_i ar;cases h;simp only[Bool.and_eq_true,Bool.not_eq_true']at ar;have h:=cB k _ Lz;obtain⟨h1,h2⟩:hK C.P k c6.ts c6.tr c6.sh/\(c6.dt=true->∀ x,(c6.sh x).Cc):=h;exact⟨λ_=>h1.yH λx hs=>⟨hs,λy aK=>M.afK (h2 ar.1 x) aK⟩,λhe=>by rw[show nm c6.fc.tr=nm c6.tr from rfl,ar.2]at he;cases he⟩
  grind
 ·rename_i c' hc;cases h;have h:nm c.tr=true/\BY C.P k c:=cB k _ hc;exact⟨λhe=>(by rw[h.1]at he;cases he),λ_=>h.2⟩
 ·cases h
 ·exact cb k c h
theorem S7{β:Type}{m:M β}{O:β->Prop}:∀ (l:List Prop),M.b9 (Ck l m) O->(∀ p∈l,p)/\M.b9 m O:=by
 intro l;induction l with
 | nil=>intro h;exact⟨λp hp=>(by cases hp),h⟩
 | cons p l aG=>
  intro h;simp only[Ck]at h;rw[M.ko]at h;grind
theorem S8{c8 q2:Bool}{bQ c:Prop}(h1:c8=true->bQ)(h2:q2=true->c)(h:∀ p∈B8 c8 q2 bQ c,p):bQ/\c:=by
 unfold B8 at h;constructor
 ·cases c8 with
  | true=>grind
  | false=>simp_all
 ·cases q2 with
  | true=>grind
  | false=>simp_all
theorem S9(hT:dv C.P T)(cb:iX C.P aY)(ar:kS o C.nt=true){r:ej}(h:uO C.aI T aY ops s o=some r)(hc:∀ p∈r.cs,p){a:Act}{w:World}(G:b7 C s a w){K:Act->World->Prop}
  (iv:∀ a' w',b7 C (r.hP s) a' w'->K a' w') :
  if Region.wanted o (yielded ops a.tmps) then o.wpIn (du C.r) 0 C.P a w K Q else (∀ f,o.about C.P w a.eval=some f->(du C.r).fn f)/\K (a.put o.dst undef) w:=by
 have a1:∀ i,o.dst=some i->i<C.nt:=λi E=>by
  have:=ar;simp only[kS,Bool.and_eq_true]at this;grind
 obtain⟨κ,F,ez⟩:=G;unfold uO at h;split at h
 ·cases h
 ·rename_i g az;rw[LA ez az];split at h
  ·cases h
  ·rename_i res fR;split at h
   ·cases h;simp only[Option.getD_none,if_true];obtain⟨h1,h2⟩:=S8 (λaa=>(RU aa).run s.ab res fR) (λaa=>(zc aa).run s.ab res fR) hc;exact Oper.wpIn_mono iv (wQ hT cb ar fR a w κ F Q ez h1 h2)
   ·rename_i b;split at h
    ·rename_i xl;cases h;have hc:∀ p∈B8 (rP (aS C.aI s.au) o&&(mA (aS C.aI s.au) o&&!res.eJ.zb)) true (b=true->res.bQ/\(res.c/\(use res.eJ).1)) True,p:=hc;obtain⟨h1,_⟩:=S8 (λaa=>by
      simp only[Bool.and_eq_true,Bool.not_eq_true']at aa;exact λ_=>⟨(RU aa.1).run s.ab _ fR,(zc aa.2.1).run s.ab _ fR,Fg aa.2.2⟩) (λ_=>trivial) hc
     obtain⟨bQ,c,eJ,hf⟩:=res;simp only at xl;subst xl;cases b with
     | true=>
      simp only[Option.getD_some,if_true];obtain⟨h1,h2,h3⟩:=h1 rfl;refine Oper.wpIn_mono (λa' w' aW=>iv a' w' ?_) (wQ hT cb ar fR a w κ F Q ez h1 h2);exact b7.K' (av':=.hb true (use eJ).2) aW a1 λκ F v hv=>⟨λ_=>oN hv h3,λh=>(by cases h)⟩
     | false=>
      simp only[Option.getD_some,Bool.false_eq_true,if_false];exact⟨λ_ _=>trivial,iv _ _ ⟨κ,F,ez.set (av:=.hb false (use eJ).2) a1 ⟨λh=>(by cases h),λ_=>rfl⟩⟩⟩
    grind
theorem S_(cl:List (List Nat)):∀ n,zm cl n<=n/\∀ j,zm cl n<=j->j<n->∀ i,i<j->i∈cl.getD j []
 | 0=>⟨Nat.le_refl _,λj _ h=>by omega⟩
 | n+1=>by
  unfold zm;split
  ·rename_i h;obtain⟨h1,h2⟩:=S_ cl n;refine⟨by omega,λj aB LI i E=>?_⟩;by_cases e:j=n
   ·simp_all
   grind
  grind
theorem afL{n:Nat}(qW:B' ops.toList=true)(afM:∀ j,n<=j->j<ops.size->∀ i,i<j->i∈(h4 ops.toList).getD j []):∀ (k j bW:Nat) (listed:Array Bool) (a:Act) (w:World),n<=j->j+k=ops.size->listed.size=ops.size->
  (∀ i,listed.getD i false=decide (i<j))->k<=bW->wpOpsIn (du C.r) 0 C.P ops Q (List.range' j k) a w->wpAnyIn (du C.r) 0 C.P .any ops Q bW listed a w:=by
 intro k;induction k with
 | zero=>
  intro j bW listed a w afN afO bU ah aq h;have G:∀ i,i ∉ Region.ready .any ops listed:=λi E=>by
   rw[mem_ready]at E;grind
  have iw:Region.ready .any ops listed=[]:=List.eq_nil_iff_forall_not_mem.2 G;cases bW with
  | zero=>exact⟨iw,h⟩
  | succ bW=>exact⟨λ_=>h,λi E=>absurd E (G i)⟩
 | succ k aG=>
  intro j bW listed a w afN afO bU ah aq h;have aB:j<ops.size:=by omega
  cases bW with
  | zero=>omega
  | succ bW=>
   have p1:∀ q o,ops[q]?=some o->listed.getD q false=true->∀ i∈hQ o,listed.getD i false=true:=λq o af bd i E=>by
    rw[ah]at bd ⊢;have bd:q<j:=by grind
    have:=List.all_eq_true.1 qW q (by grind);grind
   have afP:∀ i,i∈Region.ready .any ops listed<->i=j:=λi=>by
    constructor
    ·intro E;rw[mem_ready]at E;obtain⟨h0,o,af,Gc⟩:=E;have hin:i<ops.size:=(Array.getElem?_eq_some_iff.1 af).1;have CE:listed.getD i false=false:=by
      grind
     rw[ah]at CE;have Fb:j<=i:=by grind
     by_cases e:i=j
     ·exact e
     ·exfalso;have r2:∀ k∈hQ o,listed.getD k false=true:=by
       intro k an;obtain⟨e,he,uY⟩:=List.mem_filterMap.1 an;grind
      have CF:∀ k∈(h4 ops.toList).getD i [],listed.getD k false=true\/k=i:=by
       intro k an;refine wV (p:=λj=>listed.getD j false=true\/j=i) ops.toList [] (λj i E=>by grind) (λj hz jY k an aB=>?_) i k an (.inr rfl);have kW:ops[j]?=some hz:=by grind
       rcases (by simp_all:listed.getD j false=true\/j=i) with aB | aB
       ·exact .inl (p1 j hz kW aB k an)
       ·subst aB;rw[af]at kW;cases kW;exact .inl (r2 k an)
      grind
    ·rintro rfl;rw[mem_ready];refine⟨?_,ops[i],by simp,λe he aa=>?_⟩
     ·grind
     ·have hin:e.on∈hQ ops[i]:=List.mem_filterMap.2 ⟨e,by grind,by grind⟩;have:=List.all_eq_true.1 qW i (by grind);grind
   refine⟨λG=>?_,λi E=>?_⟩
   ·simp_all
   ·obtain rfl:=(afP i).1 E;have ew:ops[i]?=some ops[i]:=by simp
    rw[List.range'_succ]at h;simp only[wpOpsIn,ew]at h;have next:∀ a w,wpOpsIn (du C.r) 0 C.P ops Q (List.range' (i+1) k) a w->wpAnyIn (du C.r) 0 C.P .any ops Q bW (listed.setIfInBounds i true) a w:=λa w cy=>by
     refine aG (i+1) bW _ a w (by omega) (by omega) (by grind) (λq=>?_) (by omega) cy;by_cases e:q=i
     ·simp_all
     ·rw[getD_set_ne false (Ne.symm e),ah,decide_eq_decide];omega
    unfold wpOpIn;rw[ew];simp only;split
    ·rename_i hw;rw[if_pos hw]at h;exact Oper.wpIn_mono next h
    grind
theorem afQ(hT:dv C.P T)(cb:iX C.P aY)(ar:∀ o∈ops.toList,kS o C.nt=true){l:List ej}{s':ay}(hs:wR C.aI T aY ops ops.toList s=some (l,s'))(cn:ze ops.toList l=true)
  (hc:∀ r∈l,∀ p∈r.cs,p) (tz:∀ a' w',b7 C s' a' w'->Q .normal a' w'):∀ (bW:Nat) (listed:Array Bool) (a:Act) (w:World),listed.size=ops.size->
   (∀ j o,ops[j]?=some o->listed.getD j false=true->∀ i∈hQ o,listed.getD i false=true)->((List.range ops.size).filter λj=>!listed.getD j false).length<=bW->
   b7 C (ja l s λj=>listed.getD j false) a w->wpAnyIn (du C.r) 0 C.P .any ops Q bW listed a w:=by
 obtain⟨hlen,rH,CG⟩:=R1 _ _ hs;simp only[ze,Bool.and_eq_true]at cn;obtain⟨qW,LJ⟩:=cn;have afR:∀ j o,ops[j]?=some o->∀ i∈hQ o,i<j:=by
  intro j o af i E;have aB:j<ops.toList.length:=by
   grind
  have:=List.all_eq_true.1 qW j (by grind);grind
 have afS:∀ i j x y,i<j->l[i]?=some x->l[j]?=some y->((h4 ops.toList).getD j []).contains i=true\/x.apart y=true:=by
  intro i j x y y8 E aB;have zA:j<l.length:=(List.getElem?_eq_some_iff.1 aB).1;have:=List.all_eq_true.1 LJ j (by grind);grind
 have CH:∀ listed:Array Bool,listed.size=ops.size->Region.ready .any ops listed=[]->∀ j,j<ops.size->listed.getD j false=true:=by
  intro listed bU G j;induction j using Nat.strongRecOn with
  | _ j aG=>
   intro aB;cases ah:listed.getD j false with
   | true=>rfl
   | false=>
    exfalso;have jy:j∈Region.ready .any ops listed:=by
     rw[mem_ready];refine⟨?_,ops[j],by simp,λe he aa=>?_⟩
     ·grind
     ·have hin:e.on∈hQ ops[j]:=List.mem_filterMap.2 ⟨e,by grind,by grind⟩;grind
    grind
 have nC:∀ (listed:Array Bool) (a:Act) (w:World),listed.size=ops.size->Region.ready .any ops listed=[]->b7 C (ja l s λj=>listed.getD j false) a w->Q .normal a w:=by
  intro listed a w bU G jV;have fj:=CH listed bU G;refine tz a w ?_;have:ja l s (λj=>listed.getD j false)=s':=by
   rw[rH];unfold ja;rw[List.filter_eq_self.2 λp hp=>?_,Ca];obtain⟨_,h2⟩:=zg hp;grind
  grind
 intro bW;induction bW with
 | zero=>
  intro listed a w bU _ LK jV;have G:Region.ready .any ops listed=[]:=by
   cases G:Region.ready .any ops listed with
   | nil=>rfl
   | cons j awB=>
    exfalso;have jy:j∈Region.ready .any ops listed:=by grind
    rw[mem_ready]at jy;obtain⟨h0,o,af,_⟩:=jy;have aB:=(Array.getElem?_eq_some_iff.1 af).1;have:j∈(List.range ops.size).filter λj=>!listed.getD j false:=by
     grind
    grind
  exact⟨G,nC listed a w bU G jV⟩
 | succ bW aG=>
  intro listed a w bU p1 LK jV;refine⟨λG=>nC listed a w bU G jV,λi E=>?_⟩;rw[mem_ready]at E;obtain⟨h0,o,af,Gc⟩:=E;have hin:i<ops.size:=(Array.getElem?_eq_some_iff.1 af).1;have CE:listed.getD i false=false:=by
   grind
  have jy:o∈ops.toList:=by
   grind
  have r2:∀ k∈hQ o,listed.getD k false=true:=by
   intro k an;obtain⟨e,he,uY⟩:=List.mem_filterMap.1 an;grind
  obtain⟨r,G,fB⟩:=CG i o (by grind);have afT:∀ j k,k∈(h4 ops.toList).getD j []->listed.getD j false=true->listed.getD k false=true:=by
   refine wV (p:=λj=>listed.getD j false=true) ops.toList [] (λj i E=>by grind) λj hz jY k an aB=>?_;exact p1 j hz (by grind) (by simpa using aB) k an
  have CF:∀ k∈(h4 ops.toList).getD i [],listed.getD k false=true\/k=i:=by
   intro k an;refine wV (p:=λj=>listed.getD j false=true\/j=i) ops.toList [] (λj i E=>by grind) (λj hz jY k an aB=>?_) i k an (.inr rfl);have kW:ops[j]?=some hz:=by grind
   rcases (by simpa using aB:listed.getD j false=true\/j=i) with aB | aB
   ·exact .inl (p1 j hz kW aB k an)
   ·subst aB;rw[af]at kW;cases kW;exact .inl (r2 k an)
  have gj:∀ j x,j<i->l[j]?=some x->listed.getD j false=false->x.apart r=true:=by
   grind
  have tn:∀ j x,i<j->l[j]?=some x->listed.getD j false=true->r.apart x=true:=by
   grind
  obtain⟨aM,aO,bz⟩:=RY (s:=s) (f:=λj=>listed.getD j false) G CE gj tn;have LL:=R2 fB aM aO;unfold wpOpIn;rw[af];refine S9 hT cb (ar o jy) LL (hc r (List.mem_of_getElem? G)) jV λa' w' aW=>?_;have ew:∀ j,(listed.setIfInBounds i true).getD j false=if j=i then true else listed.getD j false:=by
   intro j;by_cases e:j=i
   ·subst e;rw[if_pos rfl,Array.getD_eq_getD_getElem?,Array.getElem?_setIfInBounds_self_of_lt (by omega)];rfl
   ·rw[if_neg e,getD_set_ne false (Ne.symm e)]
  refine aG _ a' w' (by grind) (λj hz jY aB k an=>?_) ?_ ?_
  ·rw[ew]at aB ⊢;split
   ·rfl
   ·split at aB
    ·rename_i e;subst e;rw[af]at jY;cases jY;exact r2 k an
    ·exact p1 j hz jY aB k an
  ·have b1:((List.range ops.size).filter λj=>!(listed.setIfInBounds i true).getD j false).length<((List.range ops.size).filter λj=>!listed.getD j false).length:=by
    have e1:(List.range ops.size).filter (λj=>!(listed.setIfInBounds i true).getD j false)=((List.range ops.size).filter λj=>!listed.getD j false).filter λj=>decide (j≠i):=by
     rw[List.filter_filter];apply List.filter_congr;intro j _;rw[ew];simp
    rw[e1];have LM:i∈(List.range ops.size).filter λj=>!listed.getD j false:=by
     grind
    exact List.length_filter_lt_length_iff_exists.2 ⟨i,LM,by simp⟩
   omega
  ·have:ja l s (λj=>(listed.setIfInBounds i true).getD j false)=r.hP (ja l s λj=>listed.getD j false):=by
    rw[<-bz];congr 1;funext j;grind
   grind
def Gd(n:Nat)(l b e x:Bool)(listed:Array Bool):Prop:=∀ i,listed.getD i false=(decide (i<n)||(l&&decide (i=n))||(b&&decide (i=n+1))||(e&&decide (i=n+2))||(x&&decide (i=n+3)))
def l1(a:Act)(dG fo d1 d2:Nat)(u vB vE vX:Value)(l b e x:Bool):Act:=
 let bT:=if l=true then a.put (some dG) u else a
 let a2:=if b=true then bT.put (some fo) vB else bT
 let a3:=if e=true then a2.put (some d1) vE else a2
 if x=true then a3.put (some d2) vX else a3
theorem afU(a:Act)(d:Option Nat)(v:Value):(a.put d v).tmps.size=a.tmps.size:=by cases d<;>simp[Act.put]
theorem afV(a:Act)(dG fo d1 d2:Nat)(u vB vE vX:Value)(l b e x:Bool):(l1 a dG fo d1 d2 u vB vE vX l b e x).tmps.size=a.tmps.size:=by
 unfold l1;cases l<;>cases b<;>cases e<;>cases x<;>simp[afU]
theorem S'{a:Act}{dG fo d1 d2:Nat}{u vB vE vX:Value}{l b e x:Bool}{y:Operand}(h1:y≠.tmp dG)(h2:y≠.tmp fo)(h3:y≠.tmp d1)(aQ:y≠.tmp d2):(l1 a dG fo d1 d2 u vB vE vX l b e x).eval y=a.eval y:=by
 unfold l1;cases l<;>cases b<;>cases e<;>cases x<;>simp[zy,h1,h2,h3,aQ]
theorem CJ{o:Oper}{a:Act}{w w':World}{K:Act->World->Prop}{v:Value}(ar:∀ c,o.op≠.defer c)(h:(execOp a.eval o).run C.P w=.ok (.value v) w')(an:o.wpIn (du C.r) 0 C.P a w K Q):K (a.put o.dst v) w':=by
 have:=an.2;rw[yR ar,h]at this;exact this
theorem afW{n:Nat}(Ta:ops.size=n+5)(qW:B' ops.toList=true){ga h6 hi iq lx:Oper}(xm:ops[n]?=some ga)(uZ:ops[n+1]?=some h6)(zB:ops[n+2]?=some hi)(CK:ops[n+3]?=some iq)(CL:ops[n+4]?=some lx)
  (CM:ga.guard=none) (CN:h6.guard=none) (Ge:hi.guard=none) (Gf:iq.guard=none) (Gg:lx.guard=none) (CO:∀ c,ga.op≠.defer c) (Gh:∀ c,h6.op≠.defer c) (Gi:∀ c,hi.op≠.defer c) (Gj:∀ c,iq.op≠.defer c)
  (gj:∀ q,q<5->∀ i,i<n->i∈(h4 ops.toList).getD (n+q) []) (LN:n∈(h4 ops.toList).getD (n+1) []) (Tb:n+2∈(h4 ops.toList).getD (n+3) []) (zC:∀ q,q<4->n+q∈(h4 ops.toList).getD (n+4) [])
  (Tc:∀ i∈hQ hi,i<n) (Td:∀ i∈hQ iq,i<n\/i=n+2)
  {dG fo d1 d2:Nat} (r3:ga.dst=some dG) (cP:h6.dst=some fo) (CP:hi.dst=some d1) (Gk:iq.dst=some d2) (_n1:dG≠fo) (dI:dG≠d1) (js:dG≠d2) (n4:fo≠d1) (CQ:fo≠d2)
  {a:Act} {w wE:World} {u vB vE vX:Value}
  (Te:∀ b e x,(execOp (l1 a dG fo d1 d2 u vB vE vX false b e x).eval ga).run C.P (if e=true then wE else w)=.ok (.value u) (if e=true then wE else w))
  (Tf:∀ e x,(execOp (l1 a dG fo d1 d2 u vB vE vX true false e x).eval h6).run C.P (if e=true then wE else w)=.ok (.value vB) (if e=true then wE else w))
  (Tg:∀ l b x,(execOp (l1 a dG fo d1 d2 u vB vE vX l b false x).eval hi).run C.P w=.ok (.value vE) wE)
  (Th:∀ l b,(execOp (l1 a dG fo d1 d2 u vB vE vX l b true false).eval iq).run C.P wE=.ok (.value vX) wE)
  (h:wpOpsIn (du C.r) 0 C.P ops Q (List.range' n 5) a w):∀ (bW:Nat) (listed:Array Bool),listed.size=ops.size->(∀ i,listed.getD i false=decide (i<n))->5<=bW->wpAnyIn (du C.r) 0 C.P .any ops Q bW listed a w:=by
 let aH:=l1 a dG fo d1 d2 u vB vE vX;let W:=λe:Bool=>if e=true then wE else w
 have wt:∀ {o:Oper},o.guard=none->∀ a':Act,Region.wanted o (yielded ops a'.tmps)=true:=λh a'=>by unfold Region.wanted;rw[h]
 have Gl:lx.wpIn (du C.r) 0 C.P (aH true true true true) wE (λa' w'=>Q .normal a' w') Q:=by
  have dD:List.range' n 5=[n,n+1,n+2,n+3,n+4]:=rfl;rw[dD]at h;simp only[wpOpsIn,xm,uZ,zB,CK,CL,wt CM,wt CN,wt Ge,wt Gf,wt Gg,if_true]at h;have h1:=CJ (a:=aH false false false false) (w:=w) CO (Te false false false) h;rw[r3]at h1;have h2:=CJ (a:=aH true false false false) (w:=w) Gh (Tf false false) h1;rw[cP]at h2;have h3:=CJ (a:=aH true true false false) (w:=w) Gi (Tg true true false) h2;rw[CP]at h3;have aQ:=CJ (a:=aH true true true false) (w:=wE) Gj (Th true true) h3;rw[Gk]at aQ;exact aQ
 have afX:∀ {l b e x:Bool} {listed:Array Bool},Gd n l b e x listed->(b=true->l=true)->(x=true->e=true)->∀ q o,ops[q]?=some o->listed.getD q false=true->∀ i∈hQ o,listed.getD i false=true:=by
  intro l b e x listed ba aa hx q o af bd i E;have afY:q<ops.size:=(Array.getElem?_eq_some_iff.1 af).1;have awC:i<q:=by
   have:=List.all_eq_true.1 qW q (by grind);grind
  rw[ba]at bd ⊢;grind
 have awD:∀ {listed:Array Bool} {i:Nat},listed.size=ops.size->i<ops.size->(listed[i]?.getD true=false<->listed.getD i false=false):=by
  intro listed i bU E;rw[Array.getD_eq_getD_getElem?,Array.getElem?_eq_getElem (by omega)];rfl
 have afZ:∀ {l b e x:Bool} {listed:Array Bool},Gd n l b e x listed->(b=true->l=true)->(x=true->e=true)->listed.size=ops.size->∀ i∈Region.ready .any ops listed,(i=n/\l=false)\/(i=n+1/\l=true/\b=false)\/(i=n+2/\e=false)\/(i=n+3/\e=true/\x=false)\/(i=n+4/\l=true/\b=true/\e=true/\x=true):=by
  intro l b e x listed ba aa hx bU i E;have p1:=afX ba aa hx;rw[mem_ready]at E;obtain⟨h0,o,af,Gc⟩:=E;have hin:i<ops.size:=(Array.getElem?_eq_some_iff.1 af).1;have h0:listed.getD i false=false:=by
   grind
  have r2:∀ k∈hQ o,listed.getD k false=true:=by
   intro k an;obtain⟨e,he,uY⟩:=List.mem_filterMap.1 an;split at uY
   ·rename_i aa;cases uY;grind
   grind
  have CF:∀ k∈(h4 ops.toList).getD i [],listed.getD k false=true\/k=i:=by
   intro k an;refine wV (p:=λj=>listed.getD j false=true\/j=i) ops.toList [] (λj i E=>by simp at E) (λj hz jY k an aB=>?_) i k an (.inr rfl);have kW:ops[j]?=some hz:=by grind
   rcases (by simpa using aB:listed.getD j false=true\/j=i) with aB | aB
   ·exact .inl (p1 j hz kW aB k an)
   ·subst aB;rw[af]at kW;cases kW;exact .inl (r2 k an)
  rw[ba]at h0;simp only[Bool.or_eq_false_iff,Bool.and_eq_false_iff,decide_eq_false_iff_not]at h0;obtain⟨⟨⟨⟨gP,aM⟩,aO⟩,bz⟩,f'⟩:=h0;have Fb:n<=i:=by omega
  have af0:i=n\/i=n+1\/i=n+2\/i=n+3\/i=n+4:=by omega
  have flag:∀ q,q<4->n+q∈(h4 ops.toList).getD i []->n+q≠i->(if q=0 then l else if q=1 then b else if q=2 then e else x)=true:=by
   intro q bd aj dX;rcases CF _ aj with h | h
   ·rw[ba]at h;simp only[Bool.or_eq_true,Bool.and_eq_true,decide_eq_true_eq]at h;rcases h with (((h | ⟨h1,h⟩) | ⟨h1,h⟩) | ⟨h1,h⟩) | ⟨h1,h⟩
    ·omega
    ·grind
    ·have:q=1:=by omega
     subst this;exact h1
    ·have:q=2:=by omega
     subst this;exact h1
    ·have:q=3:=by omega
     subst this;exact h1
   omega
  rcases af0 with rfl | rfl | rfl | rfl | rfl
  ·grind
  ·exact .inr (.inl ⟨rfl,flag 0 (by omega) LN (by omega),by grind⟩)
  ·grind
  ·grind
  ·exact .inr (.inr (.inr (.inr ⟨rfl,flag 0 (by omega) (zC 0 (by omega)) (by omega),flag 1 (by omega) (zC 1 (by omega)) (by omega),flag 2 (by omega) (zC 2 (by omega)) (by omega),flag 3 (by omega) (zC 3 (by omega)) (by omega)⟩)))
 have af1:∀ {l b e x:Bool} {listed:Array Bool},Gd n l b e x listed->(b=true->l=true)->(x=true->e=true)->listed.size=ops.size->Region.ready .any ops listed≠[]:=by
  intro l b e x listed ba aa hx bU uK;have mk:∀ i o,ops[i]?=some o->listed.getD i false=false->(∀ k∈hQ o,listed.getD k false=true)->False:=by
   intro i o af h0 ar;have hin:i<ops.size:=(Array.getElem?_eq_some_iff.1 af).1;have:i∈Region.ready .any ops listed:=by
    rw[mem_ready];refine⟨?_,o,af,λe he aa=>ar e.on (List.mem_filterMap.2 ⟨e,by grind,by grind⟩)⟩;grind
   grind
  have lt:∀ q o,ops[q]?=some o->∀ i∈hQ o,i<q:=by
   intro q o af i E;have afY:q<ops.size:=(Array.getElem?_eq_some_iff.1 af).1;have:=List.all_eq_true.1 qW q (by grind);rw[show ops.toList[q]?=some o by grind]at this;have:=List.all_eq_true.1 this i E;grind
  cases l with
  | false=>
   have oT:b=false:=by grind
   subst oT;exact mk n ga xm (by rw[ba];simp) λk an=>by rw[ba];grind
  | true=>
   cases b with
   | false=>exact mk (n+1) h6 uZ (by rw[ba];simp) λk an=>by rw[ba];grind
   | true=>
    cases e with
    | false=>
     have LO:x=false:=by grind
     subst LO;exact mk (n+2) hi zB (by rw[ba];simp) λk an=>by rw[ba];grind
    | true=>
     cases x with
     | false=>exact mk (n+3) iq CK (by rw[ba];simp) λk an=>by rw[ba];grind
     | true=>exact mk (n+4) lx CL (by rw[ba];simp) λk an=>by rw[ba];grind
 have CR:∀ {listed:Array Bool} (i:Nat),listed.size=ops.size->i<ops.size->∀ q,(listed.setIfInBounds i true).getD q false=(listed.getD q false||decide (q=i)):=by
  intro listed i bU E q;by_cases e:q=i
  ·grind
  grind
 let bV:=λ(l b e x:Bool)=>∀ (bW:Nat) (listed:Array Bool),Gd n l b e x listed->listed.size=ops.size->5<=bW+(l.toNat+b.toNat+e.toNat+x.toNat)->wpAnyIn (du C.r) 0 C.P .any ops Q bW listed (aH l b e x) (W e);have step:∀ l b e x,(b=true->l=true)->(x=true->e=true)->(l=false->bV true b e x)->(l=true->b=false->bV l true e x)->(e=false->bV l b true x)->(e=true->x=false->bV l b e true)->bV l b e x:=by
  intro l b e x aa hx ea dq ee ob bW listed ba bU r1;have awE:l.toNat<=1/\b.toNat<=1/\e.toNat<=1/\x.toNat<=1:=⟨Bool.toNat_le l,Bool.toNat_le b,Bool.toNat_le e,Bool.toNat_le x⟩
  cases bW with
  | zero=>omega
  | succ bW=>
   refine⟨λG=>absurd G (af1 ba aa hx bU),λi E=>?_⟩;rcases afZ ba aa hx bU i E with⟨rfl,h1⟩ | ⟨rfl,h1,h2⟩ | ⟨rfl,h1⟩ | ⟨rfl,h1,h2⟩ | ⟨rfl,h1,h2,h3,aQ⟩
   ·subst h1;have oT:b=false:=by grind
    subst oT;unfold wpOpIn;simp only[xm,wt CM,if_true];refine gW CO (Te false e x) ?_;rw[r3];have yP:(aH false false e x).put (some dG) u=aH true false e x:=by
     simp only[aH,l1];cases e<;>cases x<;>simp[F_ _ dI.symm,F_ _ js.symm]
    show wpAnyIn _ _ _ _ _ _ _ _ ((aH false false e x).put (some dG) u) (W e);rw[yP];refine ea rfl bW _ (λq=>?_) (by grind) (by grind);rw[CR i bU (by omega),ba];by_cases bd:q=i<;>simp[bd]
   ·subst h1;subst h2;unfold wpOpIn;simp only[uZ,wt CN,if_true];refine gW Gh (Tf e x) ?_;rw[cP];have yP:(aH true false e x).put (some fo) vB=aH true true e x:=by
     simp only[aH,l1];cases e<;>cases x<;>simp[F_ _ n4.symm,F_ _ CQ.symm]
    show wpAnyIn _ _ _ _ _ _ _ _ ((aH true false e x).put (some fo) vB) (W e);rw[yP];refine dq rfl rfl bW _ (λq=>?_) (by grind) (by grind);rw[CR (n+1) bU (by omega),ba];by_cases bd:q=n+1<;>simp[bd]
   ·subst h1;have LO:x=false:=by grind
    subst LO;unfold wpOpIn;simp only[zB,wt Ge,if_true];refine gW Gi (Tg l b false) ?_;rw[CP];show wpAnyIn _ _ _ _ _ _ _ _ (aH l b true false) (W true);refine ee rfl bW _ (λq=>?_) (by grind) (by grind);rw[CR (n+2) bU (by omega),ba];simp
   ·subst h1;subst h2;unfold wpOpIn;simp only[CK,wt Gf,if_true];refine gW Gj (Th l b) ?_;rw[Gk];show wpAnyIn _ _ _ _ _ _ _ _ (aH l b true true) (W true);refine ob rfl rfl bW _ (λq=>?_) (by grind) (by grind);rw[CR (n+3) bU (by omega),ba];simp
   ·subst h1;subst h2;subst h3;subst aQ;unfold wpOpIn;simp only[CL,wt Gg,if_true];refine Oper.wpIn_mono (λa' w' bd=>?_) Gl;have fj:∀ i,(listed.setIfInBounds (n+4) true).getD i false=decide (i<n+5):=λi=>by
     rw[CR (n+4) bU (by omega),ba,Bool.eq_iff_iff];simp only[Bool.or_eq_true,Bool.and_eq_true,decide_eq_true_eq,true_and];omega
    have G:∀ i,i ∉ Region.ready .any ops (listed.setIfInBounds (n+4) true):=λi E=>by
     rw[mem_ready]at E;obtain⟨h0,o,af,_⟩:=E;grind
    have iw:Region.ready .any ops (listed.setIfInBounds (n+4) true)=[]:=List.eq_nil_iff_forall_not_mem.2 G;cases bW with
    | zero=>exact⟨iw,bd⟩
    | succ bW=>exact⟨λ_=>bd,λi E=>absurd E (G i)⟩
 have f:∀ {p:Prop},(true:Bool)=false->p:=λh=>by cases h
 have ij:∀ {p:Prop},(false:Bool)=true->p:=λh=>by cases h
 have Ti:bV true true true true:=step _ _ _ _ (λ_=>rfl) (λ_=>rfl) f (λ_=>f) f (λ_=>f);have Tj:bV true true true false:=step _ _ _ _ (λ_=>rfl) (λ_=>rfl) f (λ_=>f) f (λ_ _=>Ti);have af2:bV true true false false:=step _ _ _ _ (λ_=>rfl) ij f (λ_=>f) (λ_=>Tj) ij;have Tk:bV true false true true:=step _ _ _ _ (λ_=>rfl) (λ_=>rfl) f (λ_ _=>Ti) f (λ_=>f);have Tl:bV true false true false:=step _ _ _ _ (λ_=>rfl) (λ_=>rfl) f (λ_ _=>Tj) f (λ_ _=>Tk);have af3:bV true false false false:=step _ _ _ _ (λ_=>rfl) ij f (λ_ _=>af2) (λ_=>Tl) ij;have af4:bV false false true true:=step _ _ _ _ ij (λ_=>rfl) (λ_=>Tk) ij f (λ_=>f);have af5:bV false false true false:=step _ _ _ _ ij (λ_=>rfl) (λ_=>Tl) ij f (λ_ _=>af4);have af6:bV false false false false:=step _ _ _ _ ij ij (λ_=>af3) ij (λ_=>af5) ij;intro bW listed bU ah r1;exact af6 bW listed (λi=>by grind) bU (by omega)
theorem af7{n:Nat}(ax:n<=ops.size)(hT:dv C.P T)(cb:iX C.P aY)(ar:∀ o∈ops.toList,kS o C.nt=true){l:List ej}{s':ay}(hs:wR C.aI T aY ops (ops.toList.take n) s=some (l,s'))(cn:ze (ops.toList.take n) l=true)(afM:∀ j,n<=j->j<ops.size->∀ i,i<n->i∈(h4 ops.toList).getD j [])
  (hc:∀ r∈l,∀ p∈r.cs,p) (tz:∀ (bW:Nat) (listed:Array Bool) a' w',listed.size=ops.size->(∀ i,listed.getD i false=decide (i<n))->ops.size - n<=bW->b7 C s' a' w'->wpAnyIn (du C.r) 0 C.P .any ops Q bW listed a' w'):∀ (bW:Nat) (listed:Array Bool) (a:Act) (w:World),listed.size=ops.size->
   (∀ j o,ops[j]?=some o->listed.getD j false=true->∀ i∈hQ o,listed.getD i false=true)->(∀ i,n<=i->listed.getD i false=false)->((List.range ops.size).filter λj=>!listed.getD j false).length<=bW->
   b7 C (ja l s λj=>listed.getD j false) a w->wpAnyIn (du C.r) 0 C.P .any ops Q bW listed a w:=by
 obtain⟨hlen,rH,CG⟩:=R1 _ _ hs;have F6:(ops.toList.take n).length=n:=by grind
 have hU:∀ i,i<n->(ops.toList.take n)[i]?=ops[i]?:=λi E=>by
  grind
 simp only[ze,Bool.and_eq_true]at cn;obtain⟨qW,LJ⟩:=cn;have afR:∀ j o,j<n->ops[j]?=some o->∀ i∈hQ o,i<j:=by
  intro j o LI af i E;have:=List.all_eq_true.1 qW j (by grind);grind
 have afS:∀ i j x y,i<j->l[i]?=some x->l[j]?=some y->((h4 (ops.toList.take n)).getD j []).contains i=true\/x.apart y=true:=by
  intro i j x y y8 E aB;have zA:j<l.length:=(List.getElem?_eq_some_iff.1 aB).1;have:=List.all_eq_true.1 LJ j (by grind);grind
 intro bW;induction bW with
 | zero=>
  intro listed a w bU _ oW LK jV;have fj:∀ i,listed.getD i false=decide (i<n):=λi=>by
   by_cases E:i<n
   ·cases ah:listed.getD i false with
    | true=>grind
    | false=>
     exfalso;have:i∈(List.range ops.size).filter λj=>!listed.getD j false:=by
      grind
     grind
   grind
  refine tz 0 listed a w bU fj ?_ ?_
  ·by_cases b1:n<ops.size
   ·have:n∈(List.range ops.size).filter λj=>!listed.getD j false:=by
     grind
    grind
   ·omega
  ·have:ja l s (λj=>listed.getD j false)=s':=by
    rw[rH];unfold ja;rw[List.filter_eq_self.2 λp hp=>?_,Ca];obtain⟨_,h2⟩:=zg hp;grind
   grind
 | succ bW aG=>
  intro listed a w bU p1 oW LK jV;by_cases CH:∀ i,i<n->listed.getD i false=true
  ·have fj:∀ i,listed.getD i false=decide (i<n):=λi=>by
    grind
   refine tz (bW+1) listed a w bU fj ?_ ?_
   ·have h1:(List.range' n (ops.size - n)).length<=((List.range ops.size).filter λj=>!listed.getD j false).length:=by
     have e:(List.range ops.size).filter (λj=>!listed.getD j false)=List.range' n (ops.size - n):=by
      have h2:(List.range ops.size).filter (λj=>!listed.getD j false)=(List.range ops.size).filter λj=>decide (n<=j):=List.filter_congr λj _=>by
       grind
      rw[h2];have h3:List.range ops.size=List.range n++List.range' n (ops.size - n):=by
       rw[List.range_eq_range',List.range_eq_range'];have:=(List.range'_append (s:=0) (m:=n) (n:=ops.size - n) (step:=1))
       grind
      rw[h3,List.filter_append,List.filter_eq_nil_iff.2 λj aB=>by grind,List.filter_eq_self.2 λj aB=>by grind];rfl
     grind
    grind
   ·have:ja l s (λj=>listed.getD j false)=s':=by
     rw[rH];unfold ja;rw[List.filter_eq_self.2 λp hp=>?_,Ca];obtain⟨_,h2⟩:=zg hp;grind
    grind
  ·refine⟨λG=>absurd ?_ CH,λi E=>?_⟩
   ·intro j;induction j using Nat.strongRecOn with
    | _ j awF=>
     intro aB;cases ah:listed.getD j false with
     | true=>rfl
     | false=>
      exfalso;have jy:j∈Region.ready .any ops listed:=by
       rw[mem_ready];refine⟨?_,ops[j],by simp,λe he aa=>?_⟩
       ·grind
       ·have hin:e.on∈hQ ops[j]:=List.mem_filterMap.2 ⟨e,by grind,by grind⟩;grind
      grind
   ·rw[mem_ready]at E;obtain⟨h0,o,af,Gc⟩:=E;have hin:i<ops.size:=(Array.getElem?_eq_some_iff.1 af).1;have CE:listed.getD i false=false:=by
     grind
    have jy:o∈ops.toList:=by
     grind
    have r2:∀ k∈hQ o,listed.getD k false=true:=by
     intro k an;obtain⟨e,he,uY⟩:=List.mem_filterMap.1 an;split at uY
     ·rename_i aa;cases uY;exact Gc e (by simpa using he) aa
     ·cases uY
    have E:i<n:=by
     by_cases E:i<n
     ·exact E
     ·exfalso;have CF:∀ k∈(h4 ops.toList).getD i [],listed.getD k false=true\/k=i:=by
       intro k an;refine wV (p:=λj=>listed.getD j false=true\/j=i) ops.toList [] (λj i E=>by simp at E) (λj hz jY k an aB=>?_) i k an (.inr rfl);have kW:ops[j]?=some hz:=by grind
       rcases (by simpa using aB:listed.getD j false=true\/j=i) with aB | aB
       ·exact .inl (p1 j hz kW aB k an)
       ·subst aB;rw[af]at kW;cases kW;exact .inl (r2 k an)
      grind
    obtain⟨r,G,fB⟩:=CG i o (by grind);have afT:∀ j k,k∈(h4 (ops.toList.take n)).getD j []->listed.getD j false=true->listed.getD k false=true:=by
     refine wV (p:=λj=>listed.getD j false=true) (ops.toList.take n) [] (λj i E=>by simp at E) λj hz jY k an aB=>?_;have LI:j<n:=by grind
     exact p1 j hz (by grind) (by simpa using aB) k an
    have CF:∀ k∈(h4 (ops.toList.take n)).getD i [],listed.getD k false=true\/k=i:=by
     intro k an;refine wV (p:=λj=>listed.getD j false=true\/j=i) (ops.toList.take n) [] (λj i E=>by simp at E) (λj hz jY k an aB=>?_) i k an (.inr rfl);have LI:j<n:=by grind
     have kW:ops[j]?=some hz:=by grind
     rcases (by simpa using aB:listed.getD j false=true\/j=i) with aB | aB
     ·exact .inl (p1 j hz kW aB k an)
     ·subst aB;rw[af]at kW;cases kW;exact .inl (r2 k an)
    have gj:∀ j x,j<i->l[j]?=some x->listed.getD j false=false->x.apart r=true:=by
     grind
    have tn:∀ j x,i<j->l[j]?=some x->listed.getD j false=true->r.apart x=true:=by
     grind
    obtain⟨aM,aO,bz⟩:=RY (s:=s) (f:=λj=>listed.getD j false) G CE gj tn;have LL:=R2 fB aM aO;unfold wpOpIn;rw[af];refine S9 hT cb (ar o jy) LL (hc r (List.mem_of_getElem? G)) jV λa' w' aW=>?_;have ew:∀ j,(listed.setIfInBounds i true).getD j false=if j=i then true else listed.getD j false:=by
     intro j;by_cases e:j=i
     ·subst e;rw[if_pos rfl,Array.getD_eq_getD_getElem?,Array.getElem?_setIfInBounds_self_of_lt (by omega)];rfl
     ·rw[if_neg e,getD_set_ne false (Ne.symm e)]
    refine aG _ a' w' (by grind) (λj hz jY aB k an=>?_) (λq bd=>by rw[ew,if_neg (by omega)];grind) ?_ ?_
    ·rw[ew]at aB ⊢;split
     ·rfl
     ·split at aB
      ·rename_i e;subst e;rw[af]at jY;cases jY;exact r2 k an
      ·exact p1 j hz jY aB k an
    ·have b1:((List.range ops.size).filter λj=>!(listed.setIfInBounds i true).getD j false).length<((List.range ops.size).filter λj=>!listed.getD j false).length:=by
      have e1:(List.range ops.size).filter (λj=>!(listed.setIfInBounds i true).getD j false)=((List.range ops.size).filter λj=>!listed.getD j false).filter λj=>decide (j≠i):=by
       rw[List.filter_filter];apply List.filter_congr;intro j _;rw[ew];simp
      rw[e1];have LM:i∈(List.range ops.size).filter λj=>!listed.getD j false:=by
       grind
      exact List.length_filter_lt_length_iff_exists.2 ⟨i,LM,by simp⟩
     omega
    ·have:ja l s (λj=>(listed.setIfInBounds i true).getD j false)=r.hP (ja l s λj=>listed.getD j false):=by
      rw[<-bz];congr 1;funext j;grind
     grind
theorem Tm{β:Type}{b:Bool}{p:Prop}{m:M β}{O:β->Prop}(h:M.b9 (rS b p m) O):M.b9 m O:=by
 cases b with
 | true=>exact h
 | false=>exact (M.ko.1 h).2
theorem af8{ga h6 hi iq lx:Oper}(h:KS ga h6 hi iq lx=true):∃ ty m x Gm LP k c dG fo d1 d2 oU y,ga.op=.lookup ty m x false/\h6.op=.binOp .add Gm (.tmp dG) (.const (.int k c)) LP/\hi.op=.mapEntry ty m x/\iq.op=.extract (.tmp d1) 1/\
  oU.op=.mapUpdate ty m x y/\zk hi iq lx=some (oU,d1,d2)/\ga.dst=some dG/\h6.dst=some fo/\hi.dst=some d1/\iq.dst=some d2/\fw k c/\(dG≠fo/\dG≠d1/\dG≠d2/\fo≠d1/\fo≠d2/\d1≠d2)/\
  (m≠.tmp dG/\m≠.tmp fo/\m≠.tmp d1/\m≠.tmp d2)/\(x≠.tmp dG/\x≠.tmp fo/\x≠.tmp d1/\x≠.tmp d2)/\(∃ oa,m=.tmp oa)/\(∃ LQ,x=.tmp LQ)/\ga.guard=none/\h6.guard=none/\hi.guard=none/\iq.guard=none/\lx.guard=none:=by
 unfold KS at h;split at h
 ·rename_i ty m x Gm t k c LP mo c7 dk hU aL jW;split at h
  ·rename_i dG fo oU d1 d2 r3 cP r1;simp only[decide_eq_true_eq]at h;obtain⟨rfl,rfl,hin,e1,e2,dF,dI,js,n4,CQ,Tn,ea,dq,bT,a2,a3,a4,dr,eC,mi,rs,c8,q2⟩:=h;obtain⟨awG,awH,awI,awJ,f1,f2,f3,f4,f5,f6,f7,f8,f9,f10,f11,f12,g1,dP,g3⟩:=SZ r1;obtain⟨oa,tx⟩:=Option.isSome_iff_exists.1 ea;obtain⟨LQ,To⟩:=Option.isSome_iff_exists.1 dq;have em:=uX tx;have ex:=uX To;have af9:=uX (e1.trans tx);have af_:=uX (e2.trans To);rw[f1]at jW;simp only[Op.mapEntry.injEq]at jW;obtain⟨rfl,rfl,rfl⟩:=jW;subst em;subst ex;subst af9;subst af_;refine⟨_,_,_,_,_,_,_,_,_,_,_,oU,_,hU,aL,f1,f3,f7,r1,r3,cP,f2,f4,hin,⟨dF,dI,js,n4,CQ,Tn⟩,?_,?_,⟨_,rfl⟩,⟨_,rfl⟩,Option.isNone_iff_eq_none.1 c8,Option.isNone_iff_eq_none.1 q2,g1,dP,g3⟩
   ·simp only[hR,ne_eq,Option.some.injEq]at bT a2 a3 a4;exact⟨λe=>bT (by cases e;rfl),λe=>a2 (by cases e;rfl),λe=>a3 (by cases e;rfl),λe=>a4 (by cases e;rfl)⟩
   ·simp only[hR,ne_eq,Option.some.injEq]at dr eC mi rs;exact⟨λe=>dr (by cases e;rfl),λe=>eC (by cases e;rfl),λe=>mi (by cases e;rfl),λe=>rs (by cases e;rfl)⟩
  grind
 grind
theorem af'{β:Type}{n:Nat}(rX:FI ops.toList=true)(ax:n=ops.size - 5)(hT:dv C.P T)(cb:iX C.P aY)(cB:lz C.P C.aI Ψ)(ar:∀ o∈ops.toList,kS o C.nt=true){k:ay->M β}{O:β->Prop}
  (an:∀ s' a' w',b7 C s' a' w'->M.b9 (k s') O->Q .normal a' w') (aj:M.b9 (lY C.aI T aY Ψ ops (ops.toList.drop n) [] s k) O) :
  (n<=ops.size/\∀ j,n<=j->j<ops.size->∀ i,i<n->i∈(h4 ops.toList).getD j [])/\∀ (a:Act) (w:World),b7 C s a w->∀ (bW:Nat) (listed:Array Bool),listed.size=ops.size->(∀ i,listed.getD i false=decide (i<n))->ops.size - n<=bW->wpAnyIn (du C.r) 0 C.P .any ops Q bW listed a w:=by
 unfold FI at rX;rw[show ops.toList.length - 5=n by grind]at rX;split at rX
 ·rename_i ga h6 hi iq lx Tp;simp only[Bool.and_eq_true,List.all_eq_true,List.mem_range,List.contains_eq_mem,decide_eq_true_eq,Bool.or_eq_true]at rX;obtain⟨aga,⟨⟨⟨⟨⟨qW,gj⟩,LN⟩,Tb⟩,zC⟩,Tc⟩,Td⟩:=rX;have Ta:ops.size=n+5:=by
   have:=congrArg List.length Tp;grind
  have CS:∀ q (o:Oper),[ga,h6,hi,iq,lx][q]?=some o->ops[n+q]?=some o:=λq o h=>by
   grind
  have xm:=CS 0 ga rfl;have uZ:=CS 1 h6 rfl;have zB:=CS 2 hi rfl;have CK:=CS 3 iq rfl;have CL:=CS 4 lx rfl;have mem:∀ {q o},ops[n+q]?=some o->o∈ops.toList:=λh=>by
   grind
  obtain⟨ty,m,x,Gm,LP,eU,c,dG,fo,d1,d2,oU,y,hU,aL,jW,zw,hS,s5,r3,cP,CP,Gk,hin,⟨dF,dI,js,n4,CQ,Tn⟩,⟨m1,m2,m3,m4⟩,⟨wD,wC,Tq,agb⟩,⟨oa,em⟩,⟨LQ,ex⟩,CM,CN,Ge,Gf,Gg⟩:=af8 aga;have CO:∀ c,ga.op≠.defer c:=by grind
  have Gh:∀ c,h6.op≠.defer c:=by grind
  have Gi:∀ c,hi.op≠.defer c:=by grind
  have Gj:∀ c,iq.op≠.defer c:=by grind
  refine⟨⟨by omega,λj h1 h2 i E=>by have:=gj (j - n) (by omega) i E;simp_all⟩,λa w G bW listed bU ah r1=>?_⟩;have Ts:=LF (Q:=Q) hT cb cB ar an _ n [] s a w rfl (λp hp=>by cases hp) G aj;rw[show (ops.toList.drop n).length=5 by grind]at Ts;rw[Tp]at aj;obtain⟨κ,F,ez⟩:=G;have gd:∀ {o:Oper},o.guard=none->∀ s:ay,kd s.au ops o.guard=some none:=λh s=>by rw[h];rfl
  have Tt:∀ {o:Oper} {os},(∀ ty m x,o.op≠.mapEntry ty m x)->zl o os=none:=λ{o os} h=>by
   unfold zl;split
   ·unfold zk;simp
   ·rfl
  have F6:zl ga [h6,hi,iq,lx]=none:=Tt (by grind);unfold lY at aj;rw[F6]at aj;simp only[gd CM]at aj;split at aj
  ·rename_i tA Gn;rw[r0 λaa=>(F7 (s:=s) (λp hp=>by cases hp) (gk:=none) (λk an=>by cases an) aa).run s.ab tA Gn,r0 λaa=>(zc aa).run s.ab tA Gn]at aj;obtain⟨LR,agc,aj⟩:=aj;have agd:=wQ hT cb (ar ga (mem xm)) Gn;have xn:=Gn;simp only[be,hU,yN]at xn;have age:(use (aS C.aI s.au m)).1/\(use (aS C.aI s.au x)).1/\tA.hf=[]/\∃ v u,tA.eJ=.val v u:=by
    split at xn
    ·rename_i iZ awK awL;split at xn
     ·simp only[ao.eG,Option.bind_eq_some_iff,bx,ao.bw,Option.some.injEq]at xn;obtain⟨es,oQ,⟨y,l⟩,aK,rfl⟩:=xn;exact⟨LR.1,LR.2,rfl,_,_,rfl⟩
     ·cases xn
    ·cases xn
   obtain⟨LG,LH,Tu,Tv,Tw,agf⟩:=age;have agh:zl h6 [hi,iq,lx]=none:=Tt (by grind);unfold lY at aj;rw[agh]at aj;simp only[gd CN]at aj;split at aj
   ·rename_i LS agi;have aj:=Tm (Tm aj);have u0:=agi;have e1:(s.hO ga.dst tA).au dG=.val Tv Tw:=by rw[r3,ay.hO,ay.LC,agf]
    have lv:wy (.int eU c)=.val (.int eU) c:=by simp[wy,hin]
    have agj:∃ bT,Tv=.int eU/\LS.hf=[]/\bT=Tw:=by
     simp only[be,aL,aS,e1,lv,use,aC.lT,aC.sW]at u0;split at u0
     ·rename_i aM bT aO dr h1 h2;split at h1
      ·rename_i bz Tq h3;cases h2;cases h3;cases h1;split at u0
       ·rename_i uE;simp only[yJ,bx,ao.bw,Option.some.injEq]at u0;grind
       ·cases u0
      grind
     ·rename_i oW;exfalso;split at u0
      ·grind
      ·simp only[ao.eG,Option.bind_eq_some_iff]at u0;obtain⟨⟨c',hL⟩,h1,h2⟩:=u0;simp only[yK,ao.eG,Option.bind_eq_some_iff,ao.bw]at h1;grind
    obtain⟨kX,rfl,Tx,rfl⟩:=agj;have ik:((s.hO ga.dst tA).hO h6.dst LS).ab=s.ab:=by
     simp only[ay.hO,Tu,Tx,ay.fG,r3,cP,ay.set]
    have d':∀ {t:Nat},t≠dG->t≠fo->((s.hO ga.dst tA).hO h6.dst LS).au t=s.au t:=λ{t} h1 h2=>by
     simp only[ay.hO,Tu,Tx,ay.fG];rw[ay.CB (by grind),ay.CB (by grind)]
    unfold lY at aj;rw[show zl hi [iq,lx]=some (oU,d1,d2) from s5]at aj;simp only at aj;split at aj
    ·rename_i awM agk;obtain⟨u,l2,wE,Ty⟩:=afI (s:=s) hT hU jW hS ik (by rw[em];exact d' (λe=>m1 (by grind)) (λe=>m2 (by grind))) (by rw[ex];exact d' (λe=>wD (by grind)) (λe=>wC (by grind))) agk ez LG LH;have agl:=(Ty a rfl rfl).1;have agm:=CJ (K:=λa' w'=>b7 C (s.hO ga.dst tA) a' w') (Q:=Q) CO agl (agd a w κ F Q ez LR agc);have Tz:dG<a.tmps.size:=by
      have:=ar ga (mem xm);simp only[kS,Bool.and_eq_true]at this;have:=this.1;rw[r3]at this;have h1:=ez.df;grind
     have awN:d1<a.tmps.size:=by
      have:=ar hi (mem zB);simp only[kS,Bool.and_eq_true]at this;have:=this.1;rw[CP]at this;have h1:=ez.df;grind
     have hu:u=.int eU kX:=by
      obtain⟨aeF,zz,gl⟩:=agm;have h1:=gl.bD dG;rw[e1,r3]at h1;have h2:(a.put (some dG) u).tmps.getD dG Go.undef=u:=Cx Tz;rw[h2]at h1;exact (gx.1 h1).1
     subst hu;let vB:Value:=.int eU (eU.wrap (kX+c));have agn:∀ (a':Act) (w':World),a'.eval (.tmp dG)=.int eU kX->(execOp a'.eval h6).run C.P w'=.ok (.value vB) w':=λa' w' h=>by
      have h2:a'.eval (.const (.int eU c))=.int eU c:=rfl;have h3:(Go.binOp .add Gm (.int eU kX) (.int eU c)).run C.P w'=.ok vB w':=by simp[Go.binOp,Op.intArith,vB]
      simp only[execOp,aL,h,h2,Sem.run_bind,QX,Result.andThen_ok,h3,Sem.run_pure]
     have ago:∀ (a':Act) (w':World),a'.eval (.tmp d1)=.tuple #[.int eU kX,goInt l2]->(execOp a'.eval iq).run C.P w'=.ok (.value (goInt l2)) w':=λa' w' h=>by
      simp[execOp,zw,h,Instr.extract]
     have Lu:∀ l b e dk,(l1 a dG fo d1 d2 (.int eU kX) vB (.tuple #[.int eU kX,goInt l2]) (goInt l2) l b e dk).eval m=a.eval m:=λl b e dk=>S' m1 m2 m3 m4;have agp:∀ l b e dk,(l1 a dG fo d1 d2 (.int eU kX) vB (.tuple #[.int eU kX,goInt l2]) (goInt l2) l b e dk).eval x=a.eval x:=λl b e dk=>S' wD wC Tq agb;refine afW (wE:=wE) (u:=.int eU kX) (vB:=vB) (vE:=.tuple #[.int eU kX,goInt l2]) (vX:=goInt l2) Ta qW xm uZ zB CK CL CM CN Ge Gf Gg CO Gh Gi Gj gj LN Tb zC Tc Td r3 cP CP Gk dF dI js n4 CQ ?_ ?_ ?_ ?_ Ts bW listed bU ah (by omega)
     ·intro b e dk;have:=Ty _ (Lu false b e dk) (agp false b e dk);cases e
      ·exact this.1
      ·exact this.2.1
     ·intro e dk;refine agn _ _ ?_;have h1:(l1 a dG fo d1 d2 (.int eU kX) vB (.tuple #[.int eU kX,goInt l2]) (goInt l2) true false e dk).eval (.tmp dG)=(a.put (some dG) (.int eU kX)).eval (.tmp dG):=by
       have c8:Operand.tmp dG≠.tmp d1:=λh=>dI (by grind);have q2:Operand.tmp dG≠.tmp d2:=λh=>js (by grind);unfold l1;cases e<;>cases dk<;>simp[zy,c8,q2]
      rw[h1];exact Cx Tz
     ·grind
     ·intro l b;refine ago _ _ ?_;have h1:l1 a dG fo d1 d2 (.int eU kX) vB (.tuple #[.int eU kX,goInt l2]) (goInt l2) l b true false=(l1 a dG fo d1 d2 (.int eU kX) vB (.tuple #[.int eU kX,goInt l2]) (goInt l2) l b false false).put (some d1) (.tuple #[.int eU kX,goInt l2]):=rfl;rw[h1];exact Cx (by rw[afV];omega)
    ·exact aj.1.elim
   ·rename_i awO;exfalso;have:qN C.aI T aY Ψ (s.hO ga.dst tA) h6=none:=by
     have lv:wy (.int eU c)=.val (.int eU) c:=by simp[wy,hin]
     simp only[qN,aL,Ci,aS,lv];simp
    rw[this]at aj;exact aj.1
  ·exfalso;have:qN C.aI T aY Ψ s ga=none:=by simp only[qN,hU]
   rw[this]at aj;exact aj.1
 grind
theorem agq{β:Type}{L:List (ay->M β)}(hU:L≠[]){o:Oper}(hT:dv C.P T)(cb:iX C.P aY)(cB:lz C.P C.aI Ψ)(xk:kS o C.nt=true){O:β->Prop}{s:ay}{a:Act}{w:World}(G:b7 C s a w)
  (aj:∀ k∈L,M.b9 (FK C.aI T aY Ψ ops o s k) O) {K:Act->World->Prop} (iv:∀ s' a' w',b7 C s' a' w'->(∀ k∈L,M.b9 (k s') O)->K a' w'):o.guard=none/\o.wpIn (du C.r) 0 C.P a w K Q:=by
 obtain⟨gP,my⟩:=List.exists_mem_of_ne_nil L hU;have a1:∀ i,o.dst=some i->i<C.nt:=λi E=>by
  have:=xk;simp only[kS,Bool.and_eq_true]at this;grind
 unfold FK at aj;split at aj
 ·exact (aj gP my).1.elim
 ·rename_i az;refine⟨az,?_⟩;split at aj
  ·rename_i res fR;obtain⟨κ,F,ez⟩:=G;have aj:∀ k∈L,res.bQ/\res.c/\M.b9 (k (s.hO o.dst res)) O:=λk an=>by
    have:=aj k an;rw[r0 λaa=>(F7 (ops:=ops) (tg:=[]) (s:=s) (λp hp=>by cases hp) (gk:=none) (λk an=>by cases an) aa).run s.ab res fR,r0 λaa=>(zc aa).run s.ab res fR]at this;omega
   exact Oper.wpIn_mono (λa' w' aW=>iv _ a' w' aW λk an=>(aj k an).2.2) (wQ hT cb xk fR a w κ F Q ez (aj gP my).1 (aj gP my).2.1)
  ·split at aj
   ·rename_i pr n';obtain⟨jt,pP,lW⟩:=Ly hT cb cB a1 n';have aj:∀ k∈L,pr.bQ/\M.b9 pr.m λy=>M.b9 (k (pr.st y)) O:=λk an=>by
     have:=aj k an;rw[r0 λaa=>lW (Kj aa),M.fF]at this;omega
    refine jt a w Q _ G (aj gP my).1 ⟨(aj gP my).2.1,λy aK a' w' aW=>iv _ a' w' aW λk an=>(aj k an).2.2 y aK⟩
   ·exact (aj gP my).1.elim
theorem agr{ops:List Oper}{done:List Nat}{i:Nat}:i∈uT ops done<->i<ops.length/\i ∉ done/\∃ o,ops[i]?=some o/\∀ j∈hQ o,j∈done:=by
 unfold uT;grind
theorem TA{ops:List Oper}:∀ (f:Nat) (done:List Nat),qO ops f done≠[]
 | 0,done=>by simp[qO]
 | f+1,done=>by
  unfold qO;split
  ·simp
  ·rename_i l ah;cases hc:uT ops done with
   | nil=>grind
   | cons i bR=>
    rw[List.flatMap_cons];intro h;rw[List.append_eq_nil_iff,List.map_eq_nil_iff]at h;exact TA f _ h.1
theorem Gp{listed:Array Bool}{done:List Nat}(bU:listed.size=ops.size)(ah:∀ i,listed.getD i false=done.contains i):Region.ready .any ops listed=uT ops.toList done:=by
 unfold Region.ready uT;rw[Array.length_toList];refine List.filter_congr λi E=>?_;have E:i<ops.size:=by grind
 have h1:listed.getD i true=done.contains i:=by
  grind
 rw[h1];congr 1;have af:ops.toList[i]?=some ops[i]:=by simp
 rw[af,Array.getElem?_eq_getElem E];show ops[i].after.all _=(hQ ops[i]).all _;rw[Bool.eq_iff_iff,Array.all_eq_true',List.all_eq_true];unfold hQ;grind
theorem ags{β:Type}(hT:dv C.P T)(cb:iX C.P aY)(cB:lz C.P C.aI Ψ)(ar:∀ o∈ops.toList,kS o C.nt=true){k:ay->M β}{O:β->Prop}(an:∀ s' a' w',b7 C s' a' w'->M.b9 (k s') O->Q .normal a' w'):∀ (bW:Nat) (done:List Nat) (listed:Array Bool) (s:ay) (a:Act) (w:World),listed.size=ops.size->(∀ i,listed.getD i false=done.contains i)->FJ ops.toList bW done=true->
  b7 C s a w->(∀ l∈qO ops.toList bW done,M.b9 (zn C.aI T aY Ψ ops l s k) O)->wpAnyIn (du C.r) 0 C.P .any ops Q bW listed a w:=by
 intro bW;induction bW with
 | zero=>
  intro done listed s a w bU ah az G aj;have n3:=Gp (ops:=ops) bU ah;refine⟨?_,an s a w G (aj [] (by simp[qO]))⟩;rw[n3];exact List.isEmpty_iff.1 az
 | succ bW aG=>
  intro done listed s a w bU ah az G aj;have n3:=Gp (ops:=ops) bU ah;refine⟨λh0=>?_,λi E=>?_⟩
  ·rw[n3]at h0;refine an s a w G (aj [] ?_);unfold qO;grind
  ·rw[n3]at E;obtain⟨pS,hin,o,af,_⟩:=agr.1 E;have pS:i<ops.size:=by omega
   have jY:ops[i]?=some o:=by grind
   have agt:o∈ops.toList:=List.mem_of_getElem? af;have jy:∀ l∈qO ops.toList bW (i::done),M.b9 (FK C.aI T aY Ψ ops o s λs'=>zn C.aI T aY Ψ ops l s' k) O:=λl hle=>by
    have:=aj (i::l) (by
     unfold qO;grind)
    unfold zn at this;grind
   obtain⟨g1,dP⟩:=agq (Q:=Q) (L:=(qO ops.toList bW (i::done)).map λl=>λs'=>zn C.aI T aY Ψ ops l s' k) (by simpa using TA bW (i::done)) hT cb cB (ar o agt) G
    (λk' agu=>by obtain⟨l,hle,rfl⟩:=List.mem_map.1 agu;exact jy l hle)
    (K:=wpAnyIn (du C.r) 0 C.P .any ops Q bW (listed.setIfInBounds i true)) λs' a' w' aW Sw=>by
     refine aG (i::done) _ s' a' w' (by grind) (λj=>?_) ?_ aW λl hle=>Sw _ (List.mem_map.2 ⟨l,hle,rfl⟩)
     ·by_cases e:j=i
      ·simp_all
      ·rw[getD_set_ne false (Ne.symm e),ah j];simp[e]
     ·unfold FJ at az;grind
   unfold wpOpIn;rw[jY];simp only;have hw:Region.wanted o (yielded ops a.tmps)=true:=by unfold Region.wanted;rw[g1]
   grind
theorem TB{β:Type}(hT:dv C.P T)(cb:iX C.P aY)(cB:lz C.P C.aI Ψ)(ar:∀ o∈ops.toList,kS o C.nt=true){k:ay->M β}{O:β->Prop}
  (an:∀ s' a' w',b7 C s' a' w'->M.b9 (k s') O->Q .normal a' w') {a:Act} {w:World} (G:b7 C s a w) (aj:M.b9 (zo C.aI T aY Ψ ops s k) O):wpAnyIn (du C.r) 0 C.P .any ops Q ops.size (Array.replicate ops.size false) a w.drew:=by
 unfold zo at aj;split at aj
 ·rename_i l s' hs;split at aj
  ·rename_i cn;obtain⟨h1,h2⟩:=S7 _ aj;obtain⟨κ,F,ez⟩:=G;refine afQ hT cb ar hs cn (λr G p hp=>h1 p (List.mem_flatMap.2 ⟨r,G,hp⟩)) (λa' w' aW=>an s' a' w' aW h2) ops.size (Array.replicate ops.size false) a _ (by simp) (λj o _ ah=>?_) ?_ ⟨κ,F,?_⟩
   ·have:(Array.replicate ops.size false).getD j false=false:=by
     rw[Array.getD_eq_getD_getElem?,Array.getElem?_replicate];grind
    grind
   ·grind
   ·have:ja l s (λj=>(Array.replicate ops.size false).getD j false)=s:=by
     unfold ja;rw[List.filter_eq_nil_iff.2 λp _=>?_]
     ·rfl
     ·simp only[Array.getD_eq_getD_getElem?,Array.getElem?_replicate];grind
    rw[this];exact ez.drew
  ·exact aj.1.elim
 ·split at aj
  ·rename_i l s' hs;split at aj
   ·rename_i cn;rw[Bool.and_eq_true]at cn;obtain⟨h1,h2⟩:=S7 _ aj;obtain⟨κ,F,ez⟩:=G;have cont:(ly ops.toList<=ops.size/\∀ j,ly ops.toList<=j->j<ops.size->∀ i,i<ly ops.toList->i∈(h4 ops.toList).getD j [])/\∀ (bW:Nat) (listed:Array Bool) a' w',listed.size=ops.size->(∀ i,listed.getD i false=decide (i<ly ops.toList))->ops.size - ly ops.toList<=bW->b7 C s' a' w'->wpAnyIn (du C.r) 0 C.P .any ops Q bW listed a' w':=by
     by_cases rX:FI ops.toList=true
     ·have en:ly ops.toList=ops.size - 5:=by unfold ly;grind
      obtain⟨e1,e2⟩:=af' (Q:=Q) rX en hT cb cB ar an h2;grind
     ·have en:ly ops.toList=zm (h4 ops.toList) ops.toList.length:=by unfold ly;grind
      obtain⟨pT,hF⟩:=S_ (h4 ops.toList) ops.toList.length;have pT:ly ops.toList<=ops.size:=by grind
      have hF:∀ j,ly ops.toList<=j->j<ops.size->∀ i,i<j->i∈(h4 ops.toList).getD j []:=λj h1 h2=>hF j (by omega) (by omega);refine⟨⟨pT,λj h1 h2 i E=>hF j h1 h2 i (by omega)⟩,λbW listed a' w' bU fj r1 aW=>?_⟩;refine afL cn.2 hF (ops.size - ly ops.toList) (ly ops.toList) bW listed a' w' (Nat.le_refl _) (by omega) bU fj r1 ?_;have hlen:(ops.toList.drop (ly ops.toList)).length=ops.size - ly ops.toList:=by simp
      rw[<-hlen];exact LF (Q:=Q) hT cb cB ar an _ _ [] s' a' w' rfl (λp hp=>by cases hp) aW h2
    obtain⟨⟨pT,hF⟩,awP⟩:=cont;refine af7 pT hT cb ar hs cn.1 hF (λr G p hp=>h1 p (List.mem_flatMap.2 ⟨r,G,hp⟩)) (λbW listed a' w' bU fj r1 aW=>?_) ops.size (Array.replicate ops.size false) a _ (by simp) (λj o _ ah=>?_) (λi _=>?_) ?_ ⟨κ,F,?_⟩
    ·grind
    ·have:(Array.replicate ops.size false).getD j false=false:=by
      rw[Array.getD_eq_getD_getElem?,Array.getElem?_replicate];grind
     grind
    ·rw[Array.getD_eq_getD_getElem?,Array.getElem?_replicate];grind
    ·grind
    ·have:ja l s (λj=>(Array.replicate ops.size false).getD j false)=s:=by
      unfold ja;rw[List.filter_eq_nil_iff.2 λp _=>?_]
      ·rfl
      ·simp only[Array.getD_eq_getD_getElem?,Array.getElem?_replicate];grind
     rw[this];exact ez.drew
   ·exact aj.1.elim
  ·unfold Sf at aj;split at aj
   ·rename_i yZ;obtain⟨κ,F,ez⟩:=G;refine ags hT cb cB ar an ops.size [] (Array.replicate ops.size false) s a _ (by simp) (λi=>?_) yZ ⟨κ,F,ez.drew⟩ λl hle=>⟨aj.1 _ (List.mem_map.2 ⟨l,hle,rfl⟩),λy aK=>aj.2 y ⟨_,List.mem_map.2 ⟨l,hle,rfl⟩,aK⟩⟩
    rw[Array.getD_eq_getD_getElem?,Array.getElem?_replicate];grind
   ·exact aj.1.elim
theorem agv{β:Type}{id:Nat}(dK:C.P.follows .mixedOrders=true)(hT:dv C.P T)(cb:iX C.P aY)(cB:lz C.P C.aI Ψ)(ar:∀ o∈ops.toList,kS o C.nt=true){k:ay->M β}{O:β->Prop}
  (an:∀ s' a' w',b7 C s' a' w'->M.b9 (k s') O->Q .normal a' w') {a:Act} {w:World} (G:b7 C s a w) (aj:M.b9 (zo C.aI T aY Ψ ops s k) O):(Code.region id ops true).wpIn (du C.r) 0 C.P Q a w:=
 wpIn_region_any dK (TB hT cb cB ar an G aj)
theorem zD{ops:Array Oper}{j:Nat}{o:Oper}(h:ops[j]?=some o):(kU ops.toList).toArray[j]?=some (if j=0 then o else { o with after:=o.after.push ⟨0,.phase⟩ }):=by
 obtain⟨l⟩:=ops;cases l with
 | nil=>simp at h
 | cons x l=>
  cases j with
  | zero=>simpa [kU]using h
  | succ j=>
   simp only[List.getElem?_toArray,List.getElem?_cons_succ]at h;simp[kU,h]
theorem LU(ops:Array Oper):(kU ops.toList).toArray.size=ops.size:=by
 obtain⟨l⟩:=ops;cases l<;>simp[kU]
theorem agw{ops:Array Oper}{j:Nat}{o1:Oper}(h:(kU ops.toList).toArray[j]?=some o1):∃ o,ops[j]?=some o/\o1=if j=0 then o else { o with after:=o.after.push ⟨0,.phase⟩ }:=by
 have aB:j<ops.size:=by rw[<-LU];exact (Array.getElem?_eq_some_iff.1 h).1
 have:=zD (ops:=ops) (j:=j) (o:=ops[j]) (by simp[aB]);rw[h]at this;cases this;exact⟨ops[j],by simp[aB],rfl⟩
theorem agx(ops:Array Oper):yielded (kU ops.toList).toArray=yielded ops:=by
 funext t j;unfold yielded;cases h:ops[j]? with
 | none=>
  have:(kU ops.toList).toArray[j]?=none:=by
   rw[Array.getElem?_eq_none_iff,LU];exact Array.getElem?_eq_none_iff.1 h
  rw[this]
 | some o=>
  rw[zD h];by_cases aB:j=0
  ·rw[if_pos aB]
  ·rw[if_neg aB];rfl
theorem agy{F:Fence}{P:Program}:∀ (bW:Nat) (listed:Array Bool) (a:Act) (w:World),listed.getD 0 false=true->wpAnyIn F 0 P .any (kU ops.toList).toArray Q bW listed a w->wpAnyIn F 0 P .any ops Q bW listed a w:=by
 have n3:∀ (listed:Array Bool),listed.getD 0 false=true->∀ i,i∈Region.ready .any ops listed->i∈Region.ready .any (kU ops.toList).toArray listed:=by
  intro listed h0 i E;rw[mem_ready]at E ⊢;obtain⟨h1,o,af,h2⟩:=E;refine⟨h1,_,zD af,λe he aa=>?_⟩;split at he
  ·exact h2 e he aa
  ·rcases Array.mem_push.1 he with he | rfl
   ·exact h2 e he aa
   ·exact h0
 have agz:∀ (listed:Array Bool),Region.ready .any ops listed=[]->Region.ready .any (kU ops.toList).toArray listed=[]:=by
  intro listed h;rw[List.eq_nil_iff_forall_not_mem]at h ⊢;intro i E;refine h i ?_;rw[mem_ready]at E ⊢;obtain⟨h1,o1,af,h2⟩:=E;obtain⟨o,jY,rfl⟩:=agw af;refine⟨h1,o,jY,λe he aa=>h2 e ?_ aa⟩;split
  ·exact he
  ·exact Array.mem_push_of_mem _ he
 have agA:∀ (listed:Array Bool),listed.getD 0 false=true->Region.ready .any (kU ops.toList).toArray listed=[]->Region.ready .any ops listed=[]:=by
  intro listed h0 h;rw[List.eq_nil_iff_forall_not_mem]at h ⊢;exact λi E=>h i (n3 listed h0 i E)
 intro bW;induction bW with
 | zero=>
  intro listed a w h0 h;exact⟨agA listed h0 h.1,h.2⟩
 | succ bW aG=>
  intro listed a w h0 h;refine⟨λG=>h.1 (agz listed G),λi E=>?_⟩;have an:=h.2 i (n3 listed h0 i E);have next:∀ a w,wpAnyIn F 0 P .any (kU ops.toList).toArray Q bW (listed.setIfInBounds i true) a w->wpAnyIn F 0 P .any ops Q bW (listed.setIfInBounds i true) a w:=λa w=>aG _ a w (getD_set_true h0)
  have an:=wpOpIn_mono next an
  unfold wpOpIn at an ⊢;rw[mem_ready]at E;obtain⟨_,o,af,_⟩:=E;rw[af];rw[zD af,agx]at an;by_cases n5:i=0
  ·rw[if_pos n5]at an;exact an
  ·rw[if_neg n5]at an;exact an
theorem agB{β:Type}{id:Nat}(dK:C.P.follows .mixedOrders=true)(agC:C.r=none)(aq:KT ops=true)(hT:dv C.P T)(cb:iX C.P aY)(cB:lz C.P C.aI Ψ)(ar:∀ o∈ops.toList,kS o C.nt=true){k:ay->M β}{O:β->Prop}
  (an:∀ s' a' w',b7 C s' a' w'->M.b9 (k s') O->Q .normal a' w') {a:Act} {w:World} (G:b7 C s a w) (aj:M.b9 (zo C.aI T aY Ψ (kU ops.toList).toArray s k) O):(Code.region id ops true).wpIn (du C.r) 0 C.P Q a w:=by
 refine wpIn_mono (Q:=λe a w=>e=.normal/\Q e a w) (wpIn_region_any dK ?_) λe a w h=>h.2;have h5:=TB (Q:=λe a w=>e=.normal/\Q e a w) (ops:=(kU ops.toList).toArray) hT cb cB (λo af=>?_) (λs' a' w' h1 h2=>⟨rfl,an s' a' w' h1 h2⟩) G aj
 ·rw[LU]at h5;have qX:(du C.r).round=none:=by rw[agC];rfl
  unfold KT at aq;split at aq
  ·cases aq
  ·rename_i o l ah;simp only[Bool.and_eq_true,List.all_eq_true,Bool.or_eq_true]at aq;obtain⟨h1,h2,h3,aQ,bu⟩:=aq;have h0:ops[0]?=some o:=by rw[<-Array.getElem?_toList,ah];rfl
   obtain⟨m,aj⟩:∃ m,ops.size=m+1:=⟨l.length,by rw[<-Array.length_toList,ah];rfl⟩
   rw[aj]at h5 ⊢;have az:o.guard=none:=by simpa using h2
   have iw:∀ (ops:Array Oper),ops[0]?=some o->0∈Region.ready .any ops (Array.replicate (m+1) false):=λops h=>by
    rw[mem_ready];refine⟨by simp,o,h,λe he=>?_⟩;rw[Array.isEmpty_iff.1 h3]at he;simp at he
   have ku:∃ x,o.op=.move x:=by
    revert h1;cases o.op<;>simp
   obtain⟨x,hx⟩:=ku;have aK:YieldsFenced C.P ops o (a.eval x) a:=⟨.inl ⟨by unfold Region.wanted;rw[az],λw=>by simp[execOp,hx]⟩,λw=>by unfold Oper.about;rw[hx]⟩
   have fB:=h5.2 0 (iw _ (by rw[zD h0];rfl));unfold wpOpIn at fB;rw[zD h0]at fB;simp only[if_true]at fB;rw[show Region.wanted o (yielded (kU ops.toList).toArray a.tmps)=true by unfold Region.wanted;rw[az],if_pos rfl]at fB;have fB:wpAnyIn (du C.r) 0 C.P .any (kU ops.toList).toArray (λe a w=>e=.normal/\Q e a w) m ((Array.replicate (m+1) false).setIfInBounds 0 true) (a.put o.dst (a.eval x)) w.drew:=by
    have:=fB.2;rw[qX,Oper.semAt_none]at this;simpa [execOp,hx,Oper.uponIn]using this
   refine wpAnyIn_first qX h0 (Region.noSelect_spec aQ) (λc a w h=>by cases h.1) m _ a _ (λj qU TC agD _ he=>?_) (iw _ h0) aK (agy m _ _ _ (by simp) fB);have jy:qU∈l:=by
    rw[<-Array.getElem?_toList,ah]at TC;cases j with
    | zero=>exact absurd rfl agD
    | succ j=>exact List.mem_of_getElem? TC
   rcases bu qU jy with h | h
   ·exfalso;have h:0∈hQ qU:=by simpa using h
    obtain⟨e,agE,wO⟩:=List.mem_filterMap.1 h;split at wO
    ·rename_i aa;exact he e (by simpa using agE) aa (by simpa using wO)
    ·cases wO
   ·exact h
 ·have af:o∈(kU ops.toList):=by simpa using af
  obtain⟨ol⟩:=ops;cases ol with
  | nil=>cases af
  | cons x l=>
   rcases List.mem_cons.1 af with rfl | af
   ·exact ar _ (by simp)
   ·obtain⟨p,hp,rfl⟩:=List.mem_map.1 af;have:=ar p (by simp[hp]);exact this
end
end Go.Fer
namespace Go.Fer
open Go.RowKit
theorem gb{β:Type}{O:β->Prop}(h:M.b9 (M.fail:M β) O):False:=h.1
theorem tB{β:Type}{sh:dh}{s:ay}{k:sh.ag->M β}{O:β->Prop}(h:M.b9 (sh.mC s k) O):∃ A,sh.iL s=some A/\M.b9 (k A) O:=by
 unfold dh.mC at h;split at h
 ·grind
 ·exact (gb h).elim
def od(B:Nat):Deferred:={ target:=.collected B,args:=#[] }
structure nD where
 w:World
 K:Nat->Prop
 ms:List Nat
def bP.gO(C:bP)(u:nD):bP:={ C with w0:=u.w,K0:=u.K,dfr:=u.ms.map od++C.dfr }
structure bP.jz(C:bP)(u:nD):Prop where
 r4:∀ B∈u.ms,u.K B/\u.w.heap[B]?=some (.deferred (some []))
 dU:∀ B∈u.ms,¬C.K0 B/\C.w0.heap.size<=B
 l3:u.ms.Nodup
 gP:∀ r,C.K0 r->u.K r
 d':∀ r,C.K0 r->u.w.heap[r]?=C.w0.heap[r]?
 size:C.w0.heap.size<=u.w.heap.size
 dO:cL C.w0 u.w
def bP.hg(C:bP):nD:=⟨C.w0,C.K0,[]⟩
theorem bP.u1(C:bP):C.jz C.hg:=⟨λ_ h=>by simp[bP.hg]at h,λ_ h=>by simp[bP.hg]at h,List.nodup_nil,λ_ h=>h,λ_ _=>rfl,Nat.le_refl _,cL.refl _⟩
def nD.then(u v:nD):nD:=⟨v.w,v.K,v.ms++u.ms⟩
theorem bP.zE(C:bP)(u v:nD):(C.gO u).gO v=C.gO (u.then v):=by
 simp[bP.gO,nD.then]
theorem bP.jz.then{C:bP}{u v:nD}(h:C.jz u)(k:(C.gO u).jz v):C.jz (u.then v) where
 r4:=λB aL=>by
  rcases List.mem_append.1 aL with aL | aL
  ·exact k.r4 B aL
  ·obtain⟨h1,h2⟩:=h.r4 B aL;exact⟨k.gP B h1,(k.d' B h1).trans h2⟩
 dU:=λB aL=>by
  rcases List.mem_append.1 aL with aL | aL
  ·obtain⟨h1,h2⟩:=k.dU B aL;exact⟨λh3=>h1 (h.gP B h3),Nat.le_trans h.size h2⟩
  ·exact h.dU B aL
 l3:=List.nodup_append.2 ⟨k.l3,h.l3,λa aU b aa e=>(k.dU a aU).1 (e ▸ (h.r4 b aa).1)⟩
 gP:=λr G=>k.gP r (h.gP r G)
 d':=λr G=>(k.d' r (h.gP r G)).trans (h.d' r G)
 size:=Nat.le_trans h.size k.size
 dO:=h.dO.trans k.dO
theorem a_.TD{C:bP}{s:ay}{a:Act}{w:World}{κ:Nat->bk}{F F':Nat->Prop}(h:a_ C s a w κ F){w0 w':World}{F0 K0:Nat->Prop}{nt:Nat}{dfr:List Deferred}{r:Option Nat}{sl:Nat->aC}{a':Act}
    (LV:a'.tmps.size=nt) (LW:a'.defers=dfr) (qY:nt<=eo) (hsl:∀ i,bh C.P s.ab κ F w (sl i) (a'.tmps.getD i undef)) (oW:∀ l aH L n st,sl TRS≠.tr l aH L n st)
    (heq:∀ r,F r\/(∃ b,(s.ab b).body.bI (κ b)=true/\(κ b).ab=r)->w'.heap[r]?=w.heap[r]?) (bU:w.heap.size<=w'.heap.size)
    (ba:∀ r,F r->F' r) (iV:∀ r,F' r->r<w'.heap.size) (CT:∀ b,(s.ab b).body.bI (κ b)=true->¬F' (κ b).ab)
    (LX:∀ r,F' r->F0 r\/¬K0 r) (LY:∀ r,F0 r->F' r) (CU:∀ r,K0 r->r<w0.heap.size) (tC:∀ r,K0 r->w'.heap[r]?=w0.heap[r]?) (fP:∀ b,(s.ab b).body.bI (κ b)=true->¬K0 (κ b).ab)
    (mF:w0.heap.size<=w'.heap.size) (hc:cL w0 w') :
    a_ { C with w0:=w0,F0:=F0,K0:=K0,nt:=nt,dfr:=dfr,r:=r } ⟨sl,s.ab⟩ a' w' κ F':=by
  have he:cD F w w':=⟨bU,λr G=>heq r (.inl G)⟩
  exact {
          df:=LV,dfr:=LW,bD:=λi=>bh.later (eZ.refl _ _) ba he (hsl i)
          bl:=λb=>cf.kL (h.bl b) (eZ.refl _ _) ba he rfl rfl λaf=>heq _ (.inr ⟨b,af,rfl⟩)
          own:=λb aa=>⟨Nat.lt_of_lt_of_le (h.own b aa).1 bU,CT b aa,fP b aa⟩,inj:=h.inj,cK:=iV
          gK:=LX,hy:=LY,gV:=CU,d':=tC,size:=mF,dO:=hc,fO:=qY,j6:=h.j6,jm:=h.jm,jN:=h.jN,j7:=h.j7,pro:=λl aH L n st e=>(oW l aH L n st e).elim,jn:=h.jn,ie:=h.ie.mono ba he }
theorem a_.u2{C:bP}{s:ay}{a:Act}{w:World}{κ:Nat->bk}{F:Nat->Prop}(h:a_ C s a w κ F){w0 w':World}{F0 K0:Nat->Prop}{nt:Nat}{dfr:List Deferred}{r:Option Nat}{sl:Nat->aC}{a':Act}
  (LV:a'.tmps.size=nt) (LW:a'.defers=dfr) (qY:nt<=eo) (hsl:∀ i,bh C.P s.ab κ F w (sl i) (a'.tmps.getD i undef)) (oW:∀ l aH L n st,sl TRS≠.tr l aH L n st)
  (heq:∀ r,F r\/(∃ b,(s.ab b).body.bI (κ b)=true/\(κ b).ab=r)->w'.heap[r]?=w.heap[r]?) (bU:w.heap.size<=w'.heap.size)
  (LX:∀ r,F r->F0 r\/¬K0 r) (LY:∀ r,F0 r->F r) (CU:∀ r,K0 r->r<w0.heap.size) (tC:∀ r,K0 r->w'.heap[r]?=w0.heap[r]?) (fP:∀ b,(s.ab b).body.bI (κ b)=true->¬K0 (κ b).ab)
  (mF:w0.heap.size<=w'.heap.size) (hc:cL w0 w') :
  a_ { C with w0:=w0,F0:=F0,K0:=K0,nt:=nt,dfr:=dfr,r:=r } ⟨sl,s.ab⟩ a' w' κ F:=
 h.TD LV LW qY hsl oW heq bU (λ_ h=>h) (λr G=>Nat.lt_of_lt_of_le (h.cK r G) bU) (λb aa=>(h.own b aa).2.1) LX LY CU tC fP mF hc
theorem a_.Gq{C:bP}{s:ay}{a:Act}{w:World}{κ:Nat->bk}{F:Nat->Prop}(h:a_ C s a w κ F){w0 w':World}{K0:Nat->Prop}{r:Option Nat}
    (iv:∀ r,K0 r->C.K0 r) (heq:∀ r,F r\/¬C.K0 r->w'.heap[r]?=w.heap[r]?) (bU:w.heap.size<=w'.heap.size) (xo:cL w w')
    (CU:∀ r,K0 r->r<w0.heap.size) (tC:∀ r,K0 r->w'.heap[r]?=w0.heap[r]?) (mF:w0.heap.size<=w'.heap.size) (hc:cL w0 w') :
    a_ { C with w0:=w0,K0:=K0,r:=r } s a w' κ F:=by
  have he:cD F w w':=⟨bU,λr G=>heq r (.inl G)⟩
  have iV:∀ r,F r->r<w'.heap.size:=λr G=>Nat.lt_of_lt_of_le (h.cK r G) bU;exact {
          df:=h.df,dfr:=h.dfr,bD:=λi=>bh.later (eZ.refl _ _) (λ_ h=>h) he (h.bD i)
          bl:=λb=>cf.kL (h.bl b) (eZ.refl _ _) (λ_ h=>h) he rfl rfl λaf=>heq _ (.inr (h.own b af).2.2)
          own:=λb aa=>⟨Nat.lt_of_lt_of_le (h.own b aa).1 bU,(h.own b aa).2.1,λk=>(h.own b aa).2.2 (iv _ k)⟩,inj:=h.inj,cK:=iV
          gK:=λr G=>(h.gK r G).imp id λk k'=>k (iv r k'),hy:=h.hy,gV:=CU,d':=tC,size:=mF,dO:=hc,fO:=h.fO,j6:=h.j6,jm:=h.jm,jN:=h.jN,j7:=h.j7
          pro:=λl aH L n st e=>by
            obtain⟨h1,h2,Y,h3,aQ,bu⟩:=h.pro l aH L n st e;exact⟨h1,h2,Y,λr G=>⟨Nat.lt_of_lt_of_le (h3 r G).1 bU,(h3 r G).2.1,λk=>(h3 r G).2.2 (iv r k)⟩,aQ,h2.Jm bu (λ_ h=>h) (λr G=>heq r (G.imp id λaK=>(h3 r aK).2.2)) bU xo iV λr aq aK=>(h3 r aK).2.1 aq⟩
          jn:=h.jn,ie:=h.ie.mono (λ_ h=>h) he }
theorem TE{P:Program}{H:Nat->bt}{κ:Nat->bk}{F:Nat->Prop}{w:World}{aH:ad}{x:aH.ag}:∀ (ps:List Tmp) (args:List Value) (j:Nat) (f:Nat->aC) (oa:Array Value),ps.length=args.length->(∀ p∈ps,p<oa.size)->
  (∀ i,bh P H κ F w (f i) (oa.getD i undef))->(∀ i,i<args.length->bh P H κ F w (j' aH x (j+i)) (args.getD i undef))->
  ∀ i,bh P H κ F w (zp aH x ps j f i) (((ps.zip args).foldl (λtmps p=>tmps.setIfInBounds p.1 p.2) oa).getD i undef)
 | [],[],_,_,_,_,_,aq,_,i=>aq i
 | p::ps,v::args,j,f,oa,ah,hp,aq,hv,i=>by
  simp only[zp,List.zip_cons_cons,List.foldl_cons];refine TE ps args (j+1) _ _ (by grind) (λq bd=>by grind) (λi=>?_) (λi E=>?_) i
  ·rw[Array.getD_eq_getD_getElem?,Array.getElem?_setIfInBounds];by_cases e:i=p
   ·grind
   ·rw[if_neg e,if_neg (Ne.symm e)];simp_all
  ·have:=hv (i+1) (by grind);grind
theorem agF{ps:List Tmp}{args:List Value}:∀ {oa:Array Value},((ps.zip args).foldl (λtmps p=>tmps.setIfInBounds p.1 p.2) oa).size=oa.size:=by
 generalize ps.zip args=l;induction l with
 | nil=>simp
 | cons p l aG=>grind
def r5:cO->Option Code
 | .normal=>none
 | .exit id=>some (.exit id)
 | .ret=>some .ret
def eM(fn:FuncId)(oa:Array Value)(ps:Array Tmp)(assign body:Code)(B:Nat)(st:LoopState)(e:cO):Loop:=
 { state:=st,pending:=r5 e,fn:=fn,tmps:=oa,params:=ps,assign:=assign,body:=body,defers:=B }
def Gr(P:Program)(aI:dd)(nt:Nat)(assign body:Code)(l:Nat){rout:dh}(run:ay->M (cO×rout.ag)):Prop:=
 ∀ (C1:bP),C1.P=P->C1.aI=aI->C1.nt=nt->C1.r=some l->∀ (ea:ay) (bT:Act) (b2:World) (p2:cO×rout.ag->Prop),b7 C1 ea bT b2->M.b9 (run ea) p2->
  assign.wpIn (du (some l)) 0 P (Exit.then (λa2 cF=>∃ u dq,C1.jz u/\b7 (C1.gO u) dq a2 cF/\
   ∀ (gX:bP),gX.P=P->gX.aI=aI->gX.nt=nt->gX.r=some l->∀ (cF:World),b7 gX dq a2 cF->
    body.wpIn (du (some l)) 0 P (λe a3 eA=>∃ (aR:cO) (v:nD) (ee:ay) (τ:rout.ag),e=aR.o3/\gX.jz v/\b7 (gX.gO v) ee a3 eA/\rout.iL ee=some τ/\p2 (aR,τ)) a2 cF) (λ_ _ _=>False)) bT b2
theorem agG{ts:List (Nat×bG)}{R:Type}(h:ts.isEmpty=true)(g:Nat->Nat×Nat)(z:n6 ts R)(i:Nat):e5 (dY g ts z).1 i=.undef:=by
 cases ts with
 | nil=>rfl
 | cons p ts=>cases h
theorem agH{P:Program}{l:Nat}{R:Ending->World->Prop}{e:cO}{a:Act}{w:World}{r:Loop}(h:w.heap[l]?=some (.loop r))
  (jA:R (.returned (.bool (r5 e).isNone)) (w.putObj l (.loop { r with state:=if (r5 e).isNone then .ready else .done,pending:=r5 e }))):roundPost P l R e.o3 a w:=by
 cases e with
 | normal=>exact⟨_,_,run_endRound none h,jA⟩
 | exit id=>exact⟨_,_,run_endRound (some (.exit id)) h,jA⟩
 | ret=>exact⟨_,_,run_endRound (some .ret) h,jA⟩
theorem agI{CI:bP}{sh rin rout:dh}{aH:ad}{ps:Array Tmp}{assign body:Code}{a:Act}{W:World}{κ:Nat->bk}{F:Nat->Prop}{A:sh.ag}{fn:FuncId}{l B:Nat}{x:aH.ag}{args:List Value}{run:ay->M (cO×rout.ag)}
  {Or:cO×sh.ag->Prop} {Y Z:Nat->Prop} (agJ:Z l)
  (G:a_ CI (sh.st A) a W κ F) (dE:nA sh rout aH ps.toList a.tmps.size=true) (CV:Gr CI.P CI.aI a.tmps.size assign body l run) (aj:M.b9 (tq sh rin rout aH ps.toList A x run) Or)
  (ah:W.heap[l]?=some (.loop (eM fn a.tmps ps assign body B .ready .normal))) (agK:¬F l) (rI:∀ b,((sh.st A).ab b).body.bI (κ b)=true->Y (κ b).ab/\¬Z (κ b).ab) (dz:eY CI.P aH F W args x) :
  ∃ tmps,(Instr.yield l args.toArray).run CI.P W=.ok (.round l fn tmps assign body) W/\RoundIn Fence.wide 0 CI.P l fn tmps assign body W λe p3=>
   ∃ (e0:cO) (ir:sh.ag) (κ':Nat->bk) (F':Nat->Prop) (o:Obj),e=.returned (.bool (r5 e0).isNone)/\Or (e0,ir)/\p3.heap[l]?=some (.loop (eM fn a.tmps ps assign body B (if (r5 e0).isNone then .ready else .done) e0))/\
    a_ { CI with w0:=W.putObj l o,F0:=F,K0:=λr=>r<W.heap.size/\(Z r\/¬Y r) } (sh.st ir) a p3 κ' F':=by
 simp only[nA,Bool.and_eq_true,decide_eq_true_eq,Bool.not_eq_true',List.all_eq_true]at dE;obtain⟨⟨⟨⟨aM,aO⟩,bz⟩,f'⟩,oV⟩:=dE;have zF:l<W.heap.size:=(Array.getElem?_eq_some_iff.1 ah).1;obtain⟨ig,Gs⟩:=s_ (H:=(sh.st A).ab) (κ:=κ) aH dz bz;have oW:(sh.st A).au TRS=.undef:=xc sh.bD cG A TRS aO;have E2:(Array.zip ps args.toArray).foldl (λtmps (x:Tmp×Value)=>match x with | (t,a)=>tmps.setIfInBounds t a) a.tmps=(ps.toList.zip args).foldl (λtmps p=>tmps.setIfInBounds p.1 p.2) a.tmps:=by
  rw[<-Array.foldl_toList];simp
 refine⟨(ps.toList.zip args).foldl (λtmps p=>tmps.setIfInBounds p.1 p.2) a.tmps,?_,?_⟩
 ·rw[<-E2];exact run_yield ah (by show args.toArray.size=ps.size;grind)
 have agL:a_ { CI with w0:=W,F0:=F,K0:=λr=>r<W.heap.size/\(Z r\/¬Y r) } (sh.st A) a W κ F:=
  G.u2 G.df G.dfr G.fO G.bD (λl aH L n st e=>by have e:(sh.st A).au TRS=.tr l aH L n st:=e;grind) (λ_ _=>rfl) (Nat.le_refl _) (λ_ h=>.inl h) (λ_ h=>h) (λ_ h=>h.1) (λ_ _=>rfl)
   (λb aa h=>h.2.elim (rI b aa).2 λh=>h (rI b aa).1) (Nat.le_refl _) (cL.refl _)
 unfold tq at aj;split at aj
 ·rename_i aD fl agM;split at aj
  ·rename_i cn;rw[M.fF]at aj;have gl:a_ { CI with w0:=W,F0:=F,K0:=λr=>r<W.heap.size/\(Z r\/¬Y r),nt:=a.tmps.size,dfr:=[],r:=none } ⟨(w7 (sh.st A) aH x ps.toList).au,(sh.st A).ab⟩ { tmps:=(ps.toList.zip args).foldl (λtmps p=>tmps.setIfInBounds p.1 p.2) a.tmps,defers:=[] } W κ F:=by
    refine G.u2 agF rfl (by rw[G.df];exact G.fO) (λi=>?_) (λl' kf L' iH h7 e=>?_) (λ_ _=>rfl) (Nat.le_refl _) (λ_ h=>.inl h) (λ_ h=>h) (λ_ h=>h.1) (λ_ _=>rfl)
     (λb aa h=>h.2.elim (rI b aa).2 λh=>h (rI b aa).1) (Nat.le_refl _) (cL.refl _)
    ·show bh CI.P (sh.st A).ab κ F W (if i=TRS then (sh.st A).au TRS else zp aH x ps.toList 0 (sh.st A).au i) _;split
     ·rw[oW];trivial
     ·exact TE ps.toList args 0 _ _ (by omega) (λp hp=>by grind) G.bD (λi E=>by grind) i
    ·have e:(if TRS=TRS then (sh.st A).au TRS else zp aH x ps.toList 0 (sh.st A).au TRS)=.tr l' kf L' iH h7:=e;grind
   obtain⟨F',own,fY,hX,f1,aW,fP,CW,awQ,Cw,Lp⟩:=SN (c:=uU rin rout) agL gl (by rfl) agM rfl cn;have LZ:l<W.heap.size/\(Z l\/¬Y l):=⟨zF,.inl agJ⟩
   have TF:¬F' l:=λh=>(aW.gK l h).elim agK λh=>h LZ;have agN:¬own l:=λh=>by
    obtain⟨b,h1,h2⟩:=fP l h;exact (aW.own b h1).2.2 (h2 ▸ LZ)
   have agO:¬fY l:=λh=>(CW.low l h).2.2 LZ;have TG:l<W.heap.size/\¬own l/\¬fY l:=⟨zF,agN,agO⟩
   have Gt:a_ { qS CI W F' a.tmps.size own fY hX with r:=some l } (rin.st aD) _ W _ F':=Cw.Gq (w0:=W) (w':=W) (K0:=λr=>r<W.heap.size/\¬own r/\¬fY r) (r:=some l) (λ_ h=>h) (λ_ _=>rfl) (Nat.le_refl _) (cL.refl _) (λ_ h=>h.1) (λ_ _=>rfl) (Nat.le_refl _) (cL.refl _);refine roundIn_of_wpIn trivial ?_;refine wpIn_mono (CV { qS CI W F' a.tmps.size own fY hX with r:=some l } rfl rfl rfl rfl (rin.st aD) _ W _ ⟨_,_,Gt⟩ aj) λe a2 cF bd=>?_;cases e with
   | normal=>
    obtain⟨u,dq,hu,⟨mE,dJ,cp⟩,bC⟩:=bd;have r6:u.K l:=hu.gP l TG;have fS:cF.heap[l]?=some (.loop (eM fn a.tmps ps assign body B .ready .normal)):=(cp.d' l r6).trans ((hu.d' l TG).trans ah);refine⟨_,run_beginRound fS rfl,?_⟩;have agP:l<cF.heap.size:=(Array.getElem?_eq_some_iff.1 fS).1;have agQ:¬dJ l:=λh=>(cp.gK l h).elim TF λh=>h r6;have oe:=cp.Gq (w0:=cF.putObj l (.loop (eM fn a.tmps ps assign body B .busy .normal))) (w':=cF.putObj l (.loop (eM fn a.tmps ps assign body B .busy .normal))) (K0:=u.K) (r:=some l) (λ_ h=>h)
     (λr h=>World.putObj_heap_other λe=>by
      subst e;exact h.elim agQ λh=>h r6) (by simp) ⟨rfl,rfl,rfl⟩ (λr h=>by
       have:=cp.gV r h;have:=cp.size;simp;omega) (λ_ _=>rfl) (Nat.le_refl _) (cL.refl _)
    refine wpIn_mono (bC { ({ qS CI W F' a.tmps.size own fY hX with r:=some l }:bP).gO u with w0:=cF.putObj l (.loop (eM fn a.tmps ps assign body B .busy .normal)),K0:=u.K,r:=some l } rfl rfl rfl rfl _ ⟨mE,dJ,oe⟩) λe a3 eA ⟨aR,v,ee,τ,he,hv,⟨Gu,TH,l4⟩,hτ,Gv⟩=>?_;subst he;obtain⟨Gu,TI,f4,og⟩:=dh.zr hτ l4;have wI:v.K l:=hv.gP l r6;have Gw:eA.heap[l]?=some (.loop (eM fn a.tmps ps assign body B .busy .normal)):=(og.d' l wI).trans ((hv.d' l r6).trans (World.putObj_heap_same agP));have TJ:l<eA.heap.size:=(Array.getElem?_eq_some_iff.1 Gw).1;have awR:¬TI l:=λh=>(og.gK l h).elim TF λh=>h wI;generalize fB:(if (r5 aR).isNone then LoopState.ready else .done)=h7;refine agH Gw ?_;rw[fB];have l0:a_ { CI with w0:=W.putObj l (.loop (eM fn a.tmps ps assign body B h7 aR)),F0:=F,K0:=λr=>r<W.heap.size/\(Z r\/¬Y r) } ((sh.st A).ca fl) a (W.putObj l (.loop (eM fn a.tmps ps assign body B h7 aR))) κ F':=
     aW.Gq (λ_ h=>h) (λr h=>World.putObj_heap_other λe=>by
      grind) (by simp) ⟨rfl,rfl,rfl⟩ (λr h=>by simpa using h.1) (λ_ _=>rfl) (Nat.le_refl _) (cL.refl _)
    have zx:W.heap.size<=eA.heap.size:=by
     have h1:=hu.size;have h2:=cp.size;have h3:=hv.size;have aQ:=og.size;have h1:W.heap.size<=u.w.heap.size:=h1;have h2:u.w.heap.size<=cF.heap.size:=h2;have h3:(cF.putObj l (.loop (eM fn a.tmps ps assign body B .busy .normal))).heap.size<=v.w.heap.size:=h3;have aQ:v.w.heap.size<=eA.heap.size:=aQ;simp only[World.putObj_size]at h3;omega
    have xp:cL W eA:=by
     have h1:cL W u.w:=hu.dO;have h2:cL u.w cF:=cp.dO;have h3:cL cF v.w:=⟨hv.dO.os,hv.dO.tape,hv.dO.output⟩
     exact h1.trans (h2.trans (h3.trans og.dO))
    have agR:∀ i,(rout.st τ).au i=.undef:=λi=>agG aM cG τ i;have lv:∀ r,(r<(W.putObj l (.loop (eM fn a.tmps ps assign body B h7 aR))).heap.size/\¬own r/\¬fY r)->(r<W.heap.size/\¬own r/\¬fY r):=λr h=>⟨by simpa using h.1,h.2⟩
    have hj:=og.u2 (w0:=W.putObj l (.loop (eM fn a.tmps ps assign body B h7 aR))) (w':=eA.putObj l (.loop (eM fn a.tmps ps assign body B h7 aR))) (F0:=F') (K0:=λr=>r<(W.putObj l (.loop (eM fn a.tmps ps assign body B h7 aR))).heap.size/\¬own r/\¬fY r) (nt:=0) (dfr:=[]) (r:=none) (sl:=(rout.st τ).au) (a':={ tmps:=#[],defers:=[] }) rfl rfl (Nat.zero_le _)
     (λi=>by rw[agR];trivial) (λl aH L n st e=>by grind)
     (λr h=>World.putObj_heap_other λe=>by
      subst e;rcases h with h | ⟨b,h1,h2⟩
      ·grind
      ·exact (og.own b h1).2.2 (h2 ▸ wI)) (by simp) (λr h=>(og.gK r h).imp id λh cX=>h (hv.gP r (hu.gP r (lv r cX)))) og.hy (λr h=>h.1)
     (λr h=>by
      by_cases e:r=l
      ·subst e;rw[World.putObj_heap_same TJ,World.putObj_heap_same zF]
      ·rw[World.putObj_heap_other e,World.putObj_heap_other e];have h1:u.K r:=hu.gP r (lv r h);exact (og.d' r (hv.gP r h1)).trans ((hv.d' r h1).trans ((World.putObj_heap_other e).trans ((cp.d' r h1).trans (hu.d' r (lv r h))))))
     (λb aa h=>(og.own b aa).2.2 (hv.gP _ (hu.gP _ (lv _ h)))) (by simpa using zx) ⟨xp.os,xp.tape,xp.output⟩
    obtain⟨κn,nC,_⟩:=Lp (W.putObj l (.loop (eM fn a.tmps ps assign body B h7 aR))) (W.putObj l (.loop (eM fn a.tmps ps assign body B h7 aR))) l0 ⟨λl' kf L' iH h7 e=>(by
      grind),λr h=>⟨by simpa using (CW.low r h).1,(CW.low r h).2⟩,CW.own,CW.non⟩ τ [] (eA.putObj l (.loop (eM fn a.tmps ps assign body B h7 aR))) Gu TI hj
    obtain⟨ir,L0,agS⟩:=tB Gv;obtain⟨κn,agT,_,agU⟩:=dh.zr L0 nC;exact⟨aR,ir,κn,agT,(.loop (eM fn a.tmps ps assign body B h7 aR)),rfl,M.dC.1 agS,by rw[fB];exact World.putObj_heap_same TJ,agU⟩
   | _=>exact bd.elim
  ·exact aj.1.elim
 ·exact aj.1.elim
theorem TK{w:World}{o hz:Obj}{r:Nat}(h:r<w.heap.size):((w.alloc o).alloc hz).heap[r]?=w.heap[r]?:=
 (oK _ _ (by simp;omega)).trans (oK _ _ h)
def agV(C CI:bP){β:Type}(sh rin rout:dh)(aH:ad)(D:List aH.ag->Prop)(ps:Array Tmp)(assign body:Code)(a:Act)(fn:FuncId)(l B:Nat)(run:ay->M (cO×rout.ag))(k:cO->ay->M β)(O:β->Prop)
  (st:Bool) (F Y:Nat->Prop) (W:World):Prop:=
 ∃ (e:cO) (A:sh.ag) (κ:Nat->bk),a_ CI (sh.st A) a W κ F/\W.heap[l]?=some (.loop (eM fn a.tmps ps assign body B (if st then .done else .ready) e))/\W.heap[B]?=some (.deferred (some []))/\
  (∀ b,((sh.st A).ab b).body.bI (κ b)=true->Y (κ b).ab/\¬((κ b).ab=l\/(κ b).ab=B))/\Y l/\Y B/\¬F l/\¬F B/\C.P=CI.P/\
  (st=false->e=.normal/\∀ R,D R->M.b9 (jx (λA y=>tq sh rin rout aH ps.toList A y run) R A) λp=>M.b9 (k p.1 (sh.st p.2)) O)/\(st=true->e≠.normal/\M.b9 (k e (sh.st A)) O)
theorem TL{C CI:bP}{β:Type}{sh rin rout:dh}{aH:ad}{S:List aH.ag->Prop}{ps:Array Tmp}{assign body:Code}{a:Act}{fn:FuncId}{l B:Nat}{run:ay->M (cO×rout.ag)}{k:cO->ay->M β}{O:β->Prop}
  (iv:CI.K0=λ_=>False) (agW:l≠B) (dE:nA sh rout aH ps.toList a.tmps.size=true) (CV:Gr CI.P CI.aI a.tmps.size assign body l run) :
  ED CI.P (eY CI.P aH) l S λpre=>agV C CI sh rin rout aH (λR=>S (pre++R)) ps assign body a fn l B run k O where
 Bi:=λ{pre st F F' Y w w'} h ba heq bU ju iV CT=>by
  have hc:cL w w':=⟨ju.1,ju.2.1,ju.2.2⟩
  obtain⟨e,A,κ,G,h1,h2,h3,aQ,bu,cW,fK,iS,pF⟩:=h;have oW:(sh.st A).au TRS=.undef:=by
   simp only[nA,Bool.and_eq_true,Bool.not_eq_true']at dE;exact xc sh.bD cG A TRS dE.1.1.1.2
  have tD:∀ r,CI.K0 r->False:=λr h=>by grind
  refine⟨e,A,κ,?_,(heq l (.inr aQ)).trans h1,(heq B (.inr bu)).trans h2,h3,aQ,bu,λh=>CT l h aQ,λh=>CT B h bu,iS,pF⟩;exact G.TD G.df G.dfr G.fO G.bD (λl' kf L' iH h7 e=>by have e:(sh.st A).au TRS=.tr l' kf L' iH h7:=e;grind)
   (λr aW=>heq r (aW.imp id λ⟨b,aa,e⟩=>e ▸ (h3 b aa).1)) bU ba iV (λb aa aq=>CT _ aq (h3 b aa).1) (λr _=>.inr (tD r)) (λr h=>ba r (G.hy r h)) (λr h=>(tD r h).elim) (λr h=>(tD r h).elim) (λb _=>tD _)
   (Nat.le_trans G.size bU) (G.dO.trans hc)
 yield:=λ{pre F Y w args x} h iV TM hx dz=>by
  obtain⟨L1,L2⟩:=hx;obtain⟨e,A,κ,G,h1,h2,h3,aQ,bu,cW,fK,iS,pF,_⟩:=h;obtain⟨rfl,aj⟩:=pF rfl;have oW:∀ A:sh.ag,(sh.st A).au TRS=.undef:=λA=>by
   simp only[nA,Bool.and_eq_true,Bool.not_eq_true']at dE;exact xc sh.bD cG A TRS dE.1.1.1.2
  have tD:∀ r,CI.K0 r->False:=λr h=>by grind
  have aj:M.b9 (tq sh rin rout aH ps.toList A x run) λp=>∀ T,S (pre++x::T)->M.b9 (match p.1 with
    | .normal=>jx (λA y=>tq sh rin rout aH ps.toList A y run) T p.2
    | .exit id=>M.pure (.exit id,p.2)
    | .ret=>M.pure (.ret,p.2)) λp=>M.b9 (k p.1 (sh.st p.2)) O:=by
   have h1:=λT hT=>M.fF.1 (aj (x::T) hT);exact⟨(h1 L1 L2).1,λy aK T hT=>(h1 T hT).2 y aK⟩
  obtain⟨tmps,aK,agX⟩:=agI (Z:=λr=>r=l\/r=B) (.inl rfl) G dE CV aj h1 cW h3 dz;refine⟨fn,tmps,assign,body,aK,agX.mono λaR p3 ⟨e0,ir,κ',F',o,he,Gv,Gx,aW⟩=>?_⟩;have zF:l<w.heap.size:=(TM l aQ).1;have L3:B<w.heap.size:=(TM B bu).1;have g1:∀ r,F r->F' r:=aW.hy;have dP:∀ r,F' r->F r\/Y r\/w.heap.size<=r:=λr cp=>by
   rcases aW.gK r cp with h | h
   ·exact .inl h
   ·by_cases b1:r<w.heap.size
    ·by_cases aK:Y r
     ·exact .inr (.inl aK)
     ·exact (h ⟨b1,.inr aK⟩).elim
    ·exact .inr (.inr (Nat.le_of_not_lt b1))
  have TN:∀ r,r<w.heap.size->¬F r->(r=l\/r=B)->¬F' r:=λr b1 aq a8 qV=>(aW.gK r qV).elim aq λh=>h ⟨b1,.inl a8⟩;have TO:¬F' l:=TN l zF cW (.inl rfl);have uZ:¬F' B:=TN B L3 fK (.inr rfl);have TP:∀ b,((sh.st ir).ab b).body.bI (κ' b)=true->¬((κ' b).ab=l\/(κ' b).ab=B)/\(Y (κ' b).ab\/w.heap.size<=(κ' b).ab):=λb aa=>by
   have an:=(aW.own b aa).2.2;grind
  have Gy:w.heap.size<=p3.heap.size:=by have:=aW.size;simpa using this
  have gc:cL w p3:=⟨aW.dO.os,aW.dO.tape,aW.dO.output⟩
  have awS:∀ T,pre++[x]++T=pre++x::T:=λT=>by simp
  refine⟨(r5 e0).isNone,F',λr=>(∃ b,((sh.st ir).ab b).body.bI (κ' b)=true/\(κ' b).ab=r)\/r=l\/r=B,he,g1,dP,aW.cK,λr b1 aK=>?_,λr cp=>?_,Gy,⟨gc.os,gc.tape,gc.output⟩,?_⟩
  ·have dX:r≠l:=λe=>aK (e ▸ aQ);exact (aW.d' r ⟨b1,.inr aK⟩).trans (World.putObj_heap_other dX)
  ·rcases cp with⟨b,aa,rfl⟩ | rfl | rfl
   ·exact⟨(TP b aa).2,(aW.own b aa).1,(aW.own b aa).2.1⟩
   ·exact⟨.inl aQ,Nat.lt_of_lt_of_le zF Gy,TO⟩
   ·exact⟨.inl bu,Nat.lt_of_lt_of_le L3 Gy,uZ⟩
  ·refine⟨e0,ir,κ',?_,?_,?_,λb aa=>⟨.inl ⟨b,aa,rfl⟩,(TP b aa).1⟩,.inr (.inl rfl),.inr (.inr rfl),TO,uZ,iS,λfB=>?_,λfB=>?_⟩
   ·exact aW.u2 aW.df aW.dfr aW.fO aW.bD (λl' kf L' iH h7 e=>by have e:(sh.st ir).au TRS=.tr l' kf L' iH h7:=e;grind) (λ_ _=>rfl) (Nat.le_refl _) (λr _=>.inr (tD r)) (λr h=>g1 r (G.hy r h))
     (λr h=>(tD r h).elim) (λr h=>(tD r h).elim) (λb _=>tD _) (Nat.le_trans G.size Gy) (G.dO.trans gc)
   ·grind
   ·exact (aW.d' B ⟨L3,.inl (.inr rfl)⟩).trans ((World.putObj_heap_other (Ne.symm agW)).trans h2)
   ·cases e0 with
    | normal=>grind
    | _=>cases fB
   ·cases e0 with
    | normal=>cases fB
    | exit id=>exact⟨by simp,(Gv L1 L2).2 _ rfl⟩
    | ret=>exact⟨by simp,(Gv L1 L2).2 _ rfl⟩
theorem TQ{P:Program}{l:Nat}{aH:ad}{S:List aH.ag->Prop}{I:List aH.ag->Bool->(Nat->Prop)->(Nat->Prop)->World->Prop}(h:ED P (eY P aH) l S I):lf.Ok P ⟨l,aH,S,I⟩ where
 Bi:=λh1 h2 h3 aQ bu cW fK=>h.Bi h1 h2 h3 aQ ⟨bu.os,bu.tape,bu.output⟩ cW fK
 yield:=λh1 h2 h3 aQ bu=>YieldAt.mono (h.yield h1 h2 h3 aQ bu) λ_ _ ⟨b,F',fY,aM,aO,bz,f',oV,xd,Gz,CX,L4⟩=>⟨b,F',fY,aM,aO,bz,f',oV,xd,Gz,⟨CX.1,CX.2.1,CX.2.2⟩,L4⟩
end Go.Fer
