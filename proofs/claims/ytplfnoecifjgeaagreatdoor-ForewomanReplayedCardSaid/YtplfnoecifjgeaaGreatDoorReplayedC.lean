/- Part 3 of the proof of Replayed: shallow programs of Go functions, and what they compute. No condition. -/
import Derived.Test.YtplfnoecifjgeaaGreatDoorReplayedB
import Derived.RangeFuncIn
import Derived.RangeFuncRecord
import Derived.RangeFuncBound
noncomputable section
set_option linter.unusedVariables false
set_option linter.unusedSimpArgs false
namespace Go.Fer
open Go.RowKit
def n_(x y:bB):Prop:=(y.fm=true->x.fm=true)/\(y.eR=true->x.eR=true/\y.len=x.len/\y.eE=x.eE)/\(y.gz=true->x.gz=true)/\(y.mn=true->x.mn=true)/\∀ k,y.bL k=true->x.bL k=true
theorem n_.refl(x:bB):n_ x x:=⟨id,λh=>⟨h,rfl,rfl⟩,id,id,λ_=>id⟩
theorem n_.fb(x:bB):n_ x .fb:=⟨λh=>(by cases h),λh=>(by cases h),λh=>(by cases h),λh=>(by cases h),λ_ h=>(by cases h)⟩
def rZ(f:Nat->Nat)(H H':Nat->bu):Prop:=∀ b,(H' b).gen=0/\n_ (H (f b)).body (H' b).body
section
variable {P:Program} {H H':Nat->bu} {κ:Nat->bm} {F F':Nat->Prop} {w:World} {f:Nat->Nat}
theorem Sn(az:rZ f H H'){b off:Nat}{v:Value}(h:bk P H κ F w (.loc (f b) (H (f b)).gen off) v):bk P H' (λb=>κ (f b)) F' w (.loc b 0 off) v:=
 ⟨⟨Nat.zero_le _,h.1.2⟩,λ_ hc=>h.2 rfl ((az b).2.1 hc)⟩
def K7(P:Program)(H H':Nat->bu)(κ:Nat->bm)(f:Nat->Nat)(F F':Nat->Prop)(w:World){R:Type}(r:Option (R×List Nat))(l:List Nat)(av av':aD)(y:R):Prop:=
 ∃ m,r=some (y,m)/\(∀ b∈m,b∈l)/\(iF H κ F' l->∀ v,bk P H κ F w av v->bk P H' (λb=>κ (f b)) F' w av' v)
theorem K7.hh{R:Type}{r:Option (R×List Nat)}{l:List Nat}{av av':aD}{y:R}(h:r=some (y,l))(k:∀ v,bk P H κ F w av v->bk P H' (λb=>κ (f b)) F' w av' v):K7 P H H' κ f F F' w r l av av' y:=
 ⟨l,h,λ_ ab=>ab,λ_=>k⟩
theorem kl{aj:Type}{b:Bool}{r:Option aj}{x:aj}(h:uY b r=some x):b=true/\r=some x:=by
 cases b with
 | true=>exact⟨rfl,h⟩
 | false=>cases h
theorem p1{t:ae}{av:aD}{R:Type}{r:Option (R×List Nat)}{z:t.ah×R}{l:List Nat}(h:w1 H t av r=some (z,l)):∃ eO m,(dc t av).run H=some (z.1,eO)/\r=some (z.2,m)/\l=eO++m:=by
 unfold w1 at h;grind
theorem K8{t:ae}{av:aD}{R:Type}{r:Option (R×List Nat)}{z:t.ah×R}{l:List Nat}(h:KA t av r=some (z,l)):av=.dy t z.1/\r=some (z.2,l):=by
 unfold KA at h;grind
theorem K9{b:Nat}{av:aD}{R:Type}{r:Option (R×List Nat)}{z:(Nat×Nat)×R}{l:List Nat}(h:KB H b av r=some (z,l)) :
  r=some (z.2,l)/\(av=.sub b (H b).gen z.1.1 z.1.2\/(av=.own b (H b).gen/\(H b).body.eR=true/\z.1=(0,(H b).body.len))):=by
 unfold KB at h;grind
theorem FX{aI:ae}{av:aD}{R:Type}{r:Option (R×List Nat)}{z:(Nat×(List aI.ah->Prop)×List aI.ah×Bool)×R}{l:List Nat}(h:KC aI av r=some (z,l)) :
  r=some (z.2,l)/\av=.tr z.1.1 aI z.1.2.1 z.1.2.2.1 z.1.2.2.2:=by
 unfold KC at h;grind
theorem K_{b:Nat}{av:aD}{R:Type}{r:Option (R×List Nat)}{z:Nat×R}{l:List Nat}(h:KE H b av r=some (z,l)):r=some (z.2,l)/\av=.iE b (H b).gen z.1:=by
 unfold KE at h;grind
theorem K'{av:aD}{R:Type}{r:Option (R×List Nat)}{z:Nat×R}{l:List Nat}(h:KD av r=some (z,l)):r=some (z.2,l)/\av=.gK z.1:=by
 unfold KD at h;grind
theorem Sp{b off:Nat}{av:aD}(h:Fw H b off av=true):av=.loc b (H b).gen off:=by
 unfold Fw at h;grind
theorem Sq{b:Nat}{av:aD}(h:Fx H b av=true):av=.own b (H b).gen:=by
 unfold Fx at h;grind
theorem aeo{b:Nat}{av:aD}(h:KF H b av=true):av=.fk b (H b).gen:=by
 unfold KF at h;grind
theorem aep{b:Nat}{av:aD}(h:KG H b av=true):av=.jP b (H b).gen:=by
 unfold KG at h;grind
theorem aeq{av:aD}(h:KH av=true):av=.cR:=by
 unfold KH at h;grind
theorem aer(az:rZ f H H'){k:FuncId}{fC:z8'}{av:aD}(h:KI H f k fC av=true){v:Value}(hv:bk P H κ F w av v):bk P H' (λb=>κ (f b)) F' w (.h' k fC.length (uW cJ fC)) v:=by
 unfold KI at h;split at h
 ·rename_i k' n cF;simp only[Bool.and_eq_true,beq_iff_eq]at h;obtain⟨⟨rfl,rfl⟩,e⟩:=h;obtain⟨aB,h1,h2,h3⟩:=hv;refine⟨aB,h1,h2,λi G=>?_⟩;have he:=List.all_eq_true.1 e i (by grind);have hv:=h3 i G;rw[show fC[i]?=some fC[i] by simp]at he;rw[Sp he]at hv;have:uW cJ fC i=.loc fC[i].1 0 fC[i].2:=by simp[uW,gM,List.getD_eq_getElem?_getD,G,cJ]
  rw[this];exact Sn az hv
 grind
theorem aes(az:rZ f H H'){bs:List Nat}{av:aD}(h:KJ H f bs av=true){v:Value}(hv:bk P H κ F w av v):bk P H' (λb=>κ (f b)) F' w (.agg bs.length (uX cJ bs)) v:=by
 unfold KJ at h;split at h
 ·rename_i n cZ;simp only[Bool.and_eq_true,beq_iff_eq]at h;obtain⟨rfl,e⟩:=h;obtain⟨aB,h1,h2,h3⟩:=hv;refine⟨aB,h1,h2,λi G=>?_⟩;have he:=List.all_eq_true.1 e i (by grind);obtain⟨hv,hc⟩:=h3 i G;refine⟨?_,hc⟩;rw[show bs[i]?=some bs[i] by simp]at he;rw[Sq he]at hv;have:uX cJ bs i=.own bs[i] 0:=by simp[uX,gM,List.getD_eq_getElem?_getD,G,cJ]
  rw[this];refine⟨⟨Nat.zero_le _,hv.1.2⟩,λ_ hc=>?_⟩;obtain⟨aO,aP,_⟩:=(az bs[i]).2.2.1 hc;rw[aP];exact hv.2 rfl aO
 grind
theorem xb(aN:∀ b,cg P H κ F w b)(bb:∀ r,F r->F' r)(az:rZ f H H')(t:bH){av:aD}{R:Type}{r:Option (R×List Nat)}{z:t.cons R}{l:List Nat}(h:t.iL H f av r=some (z,l)) :
  K7 P H H' κ f F F' w r l av (t.av cJ z).1 (t.av cJ z).2:=by
 cases t with
 | undef=>exact .hh h λ_ _=>by simp only[bH.av,bk]
 | val t=>
  obtain⟨eO,m,hx,rfl,rfl⟩:=p1 h;exact⟨m,rfl,λb ab=>List.mem_append_right _ ab,λai v hv=>lW aN bb hx ai.left hv⟩
 | dy t=>
  obtain⟨rfl,rfl⟩:=K8 h;exact .hh rfl λv ⟨p,a8,h1,h2,h3⟩=>⟨p,a8,h1,h2.mono bb (cG.refl _ _),eP _ bb (cG.refl _ _) h3⟩
 | loc b off=>
  obtain⟨h1,h2⟩:=kl h;obtain rfl:=Sp h1;exact .hh h2 λv hv=>Sn az hv
 | own b=>
  obtain⟨h1,h2⟩:=kl h;obtain rfl:=Sq h1;refine .hh h2 λv hv=>⟨⟨Nat.zero_le _,hv.1.2⟩,λ_ hc=>?_⟩
  obtain⟨aO,aP,_⟩:=(az b).2.2.1 hc;simp only[cJ];rw[aP];exact hv.2 rfl aO
 | sub b=>
  obtain⟨h1,h2⟩:=K9 h;refine .hh h1 λv hv=>?_;rcases h2 with rfl | ⟨rfl,eL,h3⟩
  ·refine⟨⟨Nat.zero_le _,hv.1.2⟩,λ_ hc=>?_⟩;obtain⟨aO,aP,bA⟩:=(az b).2.2.1 hc;simp only[cJ]at aP bA ⊢;rw[aP,bA];exact hv.2 rfl aO
  ·refine⟨⟨Nat.zero_le _,hv.1.2⟩,λ_ hc=>?_⟩;obtain⟨aO,aP,bA⟩:=(az b).2.2.1 hc;have:=hv.2 rfl aO;simp only[cJ]at aP bA ⊢;rw[aP,bA,h3];refine⟨⟨Nat.zero_le _,Nat.le_refl _⟩,?_⟩;rw[this];unfold bm.slice;cases aA:(κ (f b)).eI with
   | true=>exact .inl ⟨aA,rfl⟩
   | false=>exact .inr ⟨aA,(κ (f b)).off,by simp,by simp,λ_=>by simp⟩
 | fk b=>
  obtain⟨h1,h2⟩:=kl h;obtain rfl:=aeo h1;exact .hh h2 λv hv=>⟨⟨Nat.zero_le _,hv.1.2⟩,λ_ hc=>hv.2 rfl ((az b).2.2.2.1 hc)⟩
 | jP b=>
  obtain⟨h1,h2⟩:=kl h;obtain rfl:=aep h1;exact .hh h2 λv hv=>⟨⟨Nat.zero_le _,hv.1.2⟩,λ_ hc=>hv.2 rfl ((az b).2.2.2.2.1 hc)⟩
 | cR=>
  obtain⟨h1,h2⟩:=kl h;obtain rfl:=aeq h1;exact .hh h2 λv hv=>hv
 | h' k fC=>
  obtain⟨h1,h2⟩:=kl h;exact .hh h2 λv hv=>aer az h1 hv
 | hi bs=>
  obtain⟨h1,h2⟩:=kl h;exact .hh h2 λv hv=>aes az h1 hv
 | iE b=>
  obtain⟨h1,rfl⟩:=K_ h;refine .hh h1 λv hv=>⟨⟨Nat.zero_le _,hv.1.2⟩,λ_ hc=>?_⟩
  obtain⟨aO,aP,bA⟩:=(az b).2.2.1 hc;have:=hv.2 rfl aO;simp only[cJ]at aP bA ⊢;rw[aP,bA];exact this
 | tr aI=>
  obtain⟨h1,rfl⟩:=FX h;exact .hh h1 λv hv=>hv
 | gK=>
  obtain⟨h1,rfl⟩:=K' h;exact .hh h1 λv hv=>hv
theorem aet(aN:∀ b,cg P H κ F w b)(bb:∀ r,F r->F' r)(az:rZ f H H'):∀ (ts:List bH) {c:Nat->aD} {i:Nat} {R:Type} {r:Option (R×List Nat)} {z:pZ ts R} {l:List Nat},zh H f ts c i r=some (z,l)->
  ∃ m,r=some ((o3 cJ ts z).2,m)/\(∀ b∈m,b∈l)/\(iF H κ F' l->∀ j,j<ts.length->∀ v,bk P H κ F w (c (i+j)) v->bk P H' (λb=>κ (f b)) F' w ((o3 cJ ts z).1.getD j .undef) v):=by
 intro ts;induction ts with
 | nil=>intro c i R r z l h;exact⟨l,h,λ_ ab=>ab,λ_ j aC=>by cases aC⟩
 | cons t ts aG=>
  intro c i R r z l h;obtain⟨m1,h1,h2,h3⟩:=xb (F':=F') (H':=H') aN bb az t h;obtain⟨m2,aO,aP,ga⟩:=aG h1;refine⟨m2,aO,λb ab=>h2 b (aP b ab),λai j aC v hv=>?_⟩;cases j with
  | zero=>exact h3 ai v hv
  | succ j=>
   have:=ga (λb ab=>ai b (h2 b ab)) j (by grind) v (by grind);simpa [o3]using this
theorem aeu(aN:∀ b,cg P H κ F w b)(bb:∀ r,F r->F' r)(az:rZ f H H'):∀ (ts:List (Nat×bH)) {c:Nat->aD} {R:Type} {r:Option (R×List Nat)} {z:n7 ts R} {l:List Nat},w3 H f ts c r=some (z,l)->
  ∃ m,r=some ((d_ cJ ts z).2,m)/\(∀ b∈m,b∈l)/\(iF H κ F' l->∀ i v,bk P H κ F w (c i) v->bk P H' (λb=>κ (f b)) F' w (e5 (d_ cJ ts z).1 i) v):=by
 intro ts;induction ts with
 | nil=>intro c R r z l h;exact⟨l,h,λ_ ab=>ab,λ_ _ _ _=>by simp only[d_,e5,bk]⟩
 | cons p ts aG=>
  intro c R r z l h;obtain⟨m1,h1,h2,h3⟩:=xb (F':=F') (H':=H') aN bb az p.2 h;obtain⟨m2,aO,aP,ga⟩:=aG h1;refine⟨m2,aO,λb ab=>h2 b (aP b ab),λai i v hv=>?_⟩;simp only[d_,e5];split
  ·grind
  ·exact ga (λb ab=>ai b (h2 b ab)) i v hv
theorem FY(t:bH){av:aD}{R:Type}{r:Option (R×List Nat)}{z:t.cons R}{l:List Nat}(h:t.iL H f av r=some (z,l)):∃ m,r=some ((t.av cJ z).2,m)/\∀ b∈m,b∈l:=by
 cases t with
 | undef=>exact⟨l,h,λ_ h=>h⟩
 | val t=>obtain⟨_,m,_,h2,h3⟩:=p1 h;exact⟨m,h2,λb ab=>h3 ▸ List.mem_append_right _ ab⟩
 | dy t=>exact⟨l,(K8 h).2,λ_ h=>h⟩
 | sub b=>exact⟨l,(K9 h).1,λ_ h=>h⟩
 | tr aI=>exact⟨l,(FX h).1,λ_ h=>h⟩
 | gK=>exact⟨l,(K' h).1,λ_ h=>h⟩
 | iE b=>exact⟨l,(K_ h).1,λ_ h=>h⟩
 | loc b off=>exact⟨l,(kl h).2,λ_ h=>h⟩
 | own b=>exact⟨l,(kl h).2,λ_ h=>h⟩
 | fk b=>exact⟨l,(kl h).2,λ_ h=>h⟩
 | jP b=>exact⟨l,(kl h).2,λ_ h=>h⟩
 | cR=>exact⟨l,(kl h).2,λ_ h=>h⟩
 | h' k fC=>exact⟨l,(kl h).2,λ_ h=>h⟩
 | hi bs=>exact⟨l,(kl h).2,λ_ h=>h⟩
theorem aev:∀ (ts:List bH) {c:Nat->aD} {i:Nat} {R:Type} {r:Option (R×List Nat)} {z:pZ ts R} {l:List Nat},zh H f ts c i r=some (z,l)->∃ m,r=some ((o3 cJ ts z).2,m)/\∀ b∈m,b∈l:=by
 intro ts;induction ts with
 | nil=>intro c i R r z l h;exact⟨l,h,λ_ h=>h⟩
 | cons t ts aG=>
  intro c i R r z l h;obtain⟨m,h1,h2⟩:=FY t h;obtain⟨c8,h3,aR⟩:=aG h1;exact⟨c8,h3,λb ab=>h2 b (aR b ab)⟩
theorem aew:∀ (ts:List (Nat×bH)) {c:Nat->aD} {R:Type} {r:Option (R×List Nat)} {z:n7 ts R} {l:List Nat},w3 H f ts c r=some (z,l)->∃ m,r=some ((d_ cJ ts z).2,m)/\∀ b∈m,b∈l:=by
 intro ts;induction ts with
 | nil=>intro c R r z l h;exact⟨l,h,λ_ h=>h⟩
 | cons p ts aG=>
  intro c R r z l h;obtain⟨m,h1,h2⟩:=FY p.2 h;obtain⟨c8,h3,aR⟩:=aG h1;exact⟨c8,h3,λb ab=>h2 b (aR b ab)⟩
theorem Cp(t:bH){av:aD}{R:Type}{r:Option (R×List Nat)}{z:t.cons R}{l:List Nat}(h:t.iL H f av r=some (z,l))(V:∀ y m,r=some (y,m)->gl H m):gl H l:=by
 cases t with
 | undef=>exact V _ _ h
 | val t=>obtain⟨_,m,h1,h2,rfl⟩:=p1 h;exact (mv h1).append (V _ _ h2)
 | dy t=>exact V _ _ (K8 h).2
 | sub b=>exact V _ _ (K9 h).1
 | tr aI=>exact V _ _ (FX h).1
 | gK=>exact V _ _ (K' h).1
 | iE b=>exact V _ _ (K_ h).1
 | loc b off=>exact V _ _ (kl h).2
 | own b=>exact V _ _ (kl h).2
 | fk b=>exact V _ _ (kl h).2
 | jP b=>exact V _ _ (kl h).2
 | cR=>exact V _ _ (kl h).2
 | h' k fC=>exact V _ _ (kl h).2
 | hi bs=>exact V _ _ (kl h).2
theorem aex:∀ (ts:List bH) {c:Nat->aD} {i:Nat} {R:Type} {r:Option (R×List Nat)} {z:pZ ts R} {l:List Nat},zh H f ts c i r=some (z,l)->(∀ y m,r=some (y,m)->gl H m)->gl H l:=by
 intro ts;induction ts with
 | nil=>intro c i R r z l h V;exact V _ _ h
 | cons t ts aG=>intro c i R r z l h V;exact Cp t h λy m an=>aG an V
theorem aey:∀ (ts:List (Nat×bH)) {c:Nat->aD} {R:Type} {r:Option (R×List Nat)} {z:n7 ts R} {l:List Nat},w3 H f ts c r=some (z,l)->(∀ y m,r=some (y,m)->gl H m)->gl H l:=by
 intro ts;induction ts with
 | nil=>intro c R r z l h V;exact V _ _ h
 | cons p ts aG=>intro c R r z l h V;exact Cp p.2 h λy m an=>aG an V
theorem La{t:ae}{ts:List bH}{ir:bB}{R:Type}{r:Option (R×List Nat)}{z:pZ ts R}{l:List Nat}(h:KK H f t ts ir r=some (z,l)):∃ c,ir=.cells t c/\t.size=ts.length/\zh H f ts c 0 r=some (z,l):=by
 unfold KK at h;grind
theorem Lb{e:ae}{ir:bB}{R:Type}{r:Option (R×List Nat)}{z:List e.ah×R}{l:List Nat}(h:KL e ir r=some (z,l)):r=some (z.2,l)/\ir=.a7 e z.1:=by
 unfold KL at h;grind
theorem Lc{e:ae}{t:bH}{ir:bB}{R:Type}{r:Option (R×List Nat)}{z:(List e.ah×Nat)×t.cons R}{l:List Nat}(h:KO H f e t ir r=some (z,l)):∃ v,ir=.fN e z.1.1 z.1.2 v/\t.iL H f v r=some (z.2,l):=by
 unfold KO at h;grind
theorem Ld{k v:ae}{ir:bB}{R:Type}{r:Option (R×List Nat)}{z:List (k.ah×v.ah)×R}{l:List Nat}(h:KM k v ir r=some (z,l)):r=some (z.2,l)/\ir=.mp k v z.1:=by
 unfold KM at h;grind
theorem Le{k v:ae}{ir:bB}{R:Type}{r:Option (R×List Nat)}{z:(Option (k.ah×v.ah)×List (k.ah×v.ah))×R}{l:List Nat}(h:KN k v ir r=some (z,l)):r=some (z.2,l)/\ir=.b5 k v z.1.1 z.1.2:=by
 unfold KN at h;grind
theorem Lf{t:ae}{ir:bB}{R:Type}{r:Option (R×List Nat)}{z:t.ah×R}{l:List Nat}(h:KP H t ir r=some (z,l)):∃ c,ir=.cells t c/\w1 H t (.agg t.size c) r=some (z,l):=by
 unfold KP at h;grind
theorem Lg{t:ae}{b:Nat}{R:Type}{r:Option (R×List Nat)}{z:t.ah×R}{l:List Nat}(h:KQ H t b r=some (z,l)):∃ eO m,(dc (.bq t) (.loc b (H b).gen 0)).run H=some (some z.1,eO)/\r=some (z.2,m)/\l=eO++m:=by
 unfold KQ at h;split at h
 ·rename_i x eO hx;split at h
  ·cases h;exact⟨eO,_,hx,rfl,rfl⟩
  ·cases h
 ·cases h
theorem Sr{e:ae}{b:Nat}{xs:List e.ah}{l:List Nat}(h:(dc (.slice e) (.own b (H b).gen)).run H=some (xs,l)):(H b).body=.a7 e xs\/(H b).body=.hf e xs:=by
 simp only[dc,j',ae.ea,if_true,dz,aq.eF,aq.bx]at h;split at h
 ·rename_i aS ys ab;simp only[Option.map_eq_some_iff,Prod.mk.injEq]at h;obtain⟨z,a_,rfl,_⟩:=h;obtain⟨qF,rfl⟩:=kt a_;grind
 ·rename_i aS ys ab;simp only[Option.map_eq_some_iff,Prod.mk.injEq]at h;obtain⟨z,a_,rfl,_⟩:=h;obtain⟨qF,rfl⟩:=kt a_;grind
 grind
theorem aez{k v:ae}{b:Nat}{xs:List (k.ah×v.ah)}{l:List Nat}(h:(dc (.map k v) (.fk b (H b).gen)).run H=some (xs,l)):(H b).body=.mp k v xs\/(H b).body=.iU k v xs:=by
 simp only[dc,j',ae.ea,if_true,dz,aq.eF,aq.bx]at h;split at h
 ·rename_i k' hM ys ab;simp only[Option.map_eq_some_iff,Prod.mk.injEq]at h;obtain⟨z,a_,rfl,_⟩:=h;obtain⟨qF,rfl⟩:=kt a_;grind
 ·rename_i k' hM ys ab;simp only[Option.map_eq_some_iff,Prod.mk.injEq]at h;obtain⟨z,a_,rfl,_⟩:=h;obtain⟨qF,rfl⟩:=kt a_;grind
 grind
theorem aeA{t:ae}{b:Nat}{x:Option t.ah}{l:List Nat}(h:(dc (.bq t) (.loc b (H b).gen 0)).run H=some (x,l)):(H b).body.fm=true:=by
 simp only[dc,j',sZ,aq.eF,and_self,if_true]at h;split at h
 ·rename_i ab;rw[ab];rfl
 ·rename_i ab;rw[ab];rfl
 ·cases h
theorem bN.Ss(t:bN){b:Nat}{R:Type}{r:Option (R×List Nat)}{z:t.cons R}{l:List Nat}(h:t.iL H f b r=some (z,l)) :
  (∃ m,r=some ((t.body cJ z).2,m)/\∀ c∈m,c∈l)/\n_ (H b).body (t.body cJ z).1/\∀ k,(t.body cJ z).1.bL k=true->t.Cf=true:=by
 cases t with
 | cells t ts=>
  obtain⟨c,e,hs,h⟩:=La h;refine⟨aev ts h,?_,λ_ _=>rfl⟩;rw[e];exact⟨λ_=>rfl,λh=>(by cases h),λh=>(by cases h),λh=>(by cases h),λ_ _=>rfl⟩
 | a7 e=>
  obtain⟨h1,h2⟩:=Lb h;refine⟨⟨l,h1,λ_ h=>h⟩,?_,λ_ _=>rfl⟩;rw[h2];exact n_.refl _
 | hf e=>
  obtain⟨eO,m,h1,h2,rfl⟩:=p1 h;refine⟨⟨m,h2,λ_ h=>List.mem_append_right _ h⟩,?_,λ_ h=>(by cases h)⟩;rcases Sr h1 with e | e<;>rw[e]
  ·exact⟨λh=>(by cases h),λ_=>⟨rfl,rfl,rfl⟩,λh=>(by cases h),λh=>(by cases h),λ_ h=>(by cases h)⟩
  ·exact n_.refl _
 | mp k v=>
  obtain⟨h1,h2⟩:=Ld h;refine⟨⟨l,h1,λ_ h=>h⟩,?_,λ_ _=>rfl⟩;rw[h2];exact n_.refl _
 | iU k v=>
  obtain⟨eO,m,h1,h2,rfl⟩:=p1 h;refine⟨⟨m,h2,λ_ h=>List.mem_append_right _ h⟩,?_,λ_ h=>(by cases h)⟩;rcases aez h1 with e | e<;>rw[e]
  ·exact⟨λh=>(by cases h),λh=>(by cases h),λ_=>rfl,λh=>(by cases h),λ_ h=>(by cases h)⟩
  ·exact n_.refl _
 | fI t=>
  obtain⟨c,e,h⟩:=Lf h;obtain⟨eO,m,h1,h2,rfl⟩:=p1 h;refine⟨⟨m,h2,λ_ h=>List.mem_append_right _ h⟩,?_,λ_ _=>rfl⟩;rw[e];exact⟨λ_=>rfl,λh=>(by cases h),λh=>(by cases h),λh=>(by cases h),λ_ _=>rfl⟩
 | gi t=>
  obtain⟨eO,m,h1,h2,rfl⟩:=Lg h;refine⟨⟨m,h2,λ_ h=>List.mem_append_right _ h⟩,?_,λ_ h=>(by cases h)⟩;exact⟨λ_=>aeA h1,λh=>(by cases h),λh=>(by cases h),λh=>(by cases h),λ_ h=>(by cases h)⟩
 | b5 k v=>
  obtain⟨h1,h2⟩:=Le h;refine⟨⟨l,h1,λ_ h=>h⟩,?_,λ_ _=>rfl⟩;rw[h2];exact n_.refl _
 | fN e t=>
  obtain⟨v,e1,h⟩:=Lc h;refine⟨FY t h,?_,λ_ _=>rfl⟩;rw[e1];exact⟨λh=>(by cases h),λ_=>⟨rfl,rfl,rfl⟩,λh=>(by cases h),λh=>(by cases h),λ_ h=>h⟩
theorem bN.Cp(t:bN){b:Nat}{R:Type}{r:Option (R×List Nat)}{z:t.cons R}{l:List Nat}(h:t.iL H f b r=some (z,l))(V:∀ y m,r=some (y,m)->gl H m):gl H l:=by
 cases t with
 | cells t ts=>obtain⟨c,e,hs,h⟩:=La h;exact aex ts h V
 | a7 e=>exact V _ _ (Lb h).1
 | hf e=>obtain⟨eO,m,h1,h2,rfl⟩:=p1 h;exact (mv h1).append (V _ _ h2)
 | mp k v=>exact V _ _ (Ld h).1
 | iU k v=>obtain⟨eO,m,h1,h2,rfl⟩:=p1 h;exact (mv h1).append (V _ _ h2)
 | fI t=>obtain⟨c,e,h⟩:=Lf h;obtain⟨eO,m,h1,h2,rfl⟩:=p1 h;exact (mv h1).append (V _ _ h2)
 | gi t=>obtain⟨eO,m,h1,h2,rfl⟩:=Lg h;exact (mv h1).append (V _ _ h2)
 | b5 k v=>exact V _ _ (Le h).1
 | fN e t=>obtain⟨v,_,h⟩:=Lc h;exact Go.Fer.Cp t h V
theorem bN.aeB(aN:∀ b,cg P H κ F w b)(bb:∀ r,F r->F' r)(az:rZ f H H')(t:bN){b:Nat}{R:Type}{r:Option (R×List Nat)}{z:t.cons R}{l:List Nat}(h:t.iL H f b r=some (z,l))(ai:iF H κ F' l) :
  jm P H' (λb=>κ (f b)) F' w (κ b) (t.body cJ z).1:=by
 have ab:=aN b;unfold cg at ab;cases t with
 | cells t ts=>
  obtain⟨c,e,hs,h⟩:=La h;rw[e]at ab;obtain⟨cs,T,aO,aP,bA⟩:=ab;obtain⟨m,_,_,ga⟩:=aet (H':=H') aN bb az ts h;refine⟨cs,T,aO,aP,λi G=>⟨?_,(bA i G).2⟩⟩;have:=ga ai i (by omega) _ (by rw[Nat.zero_add];exact (bA i G).1);exact this
 | a7 e=>
  rw[(Lb h).2]at ab;refine⟨ab.1,λaA=>?_⟩;obtain⟨cs,T,h1,h2,h3,aR,bw⟩:=ab.2 aA;exact⟨cs,T,h1,h2,h3,aR,bw.mono bb (cG.refl _ _)⟩
 | hf e=>
  obtain⟨eO,m,h1,h2,rfl⟩:=p1 h;have uO:=Sr h1;have xc:=lW (v:=(κ b).slice (H b).body.len) aN bb h1 ai.left ⟨⟨Nat.le_refl _,by unfold bm.slice;split<;>rfl⟩,λ_ _=>rfl⟩;have:=((dx rfl).1 xc).2;rcases uO with aS | aS<;>(rw[aS]at this;exact this)
 | mp k v=>
  rw[(Ld h).2]at ab;obtain⟨ms,clk,h1,h2⟩:=ab;exact⟨ms,clk,h1,h2.mono bb (cG.refl _ _)⟩
 | iU k v=>
  obtain⟨eO,m,h1,h2,rfl⟩:=p1 h;have xc:=lW (v:=.map (some (κ b).ad)) aN bb h1 ai.left ⟨⟨Nat.le_refl _,rfl⟩,λ_ _=>rfl⟩;exact ((dx rfl).1 xc).2
 | fI t=>
  obtain⟨c,e,h⟩:=Lf h;rw[e]at ab;obtain⟨cs,T,aO,aP,bA⟩:=ab;obtain⟨eO,m,hx,_,rfl⟩:=p1 h;have hv:bk P H κ F w (.agg t.size c) (.agg cs):=⟨cs.toList,by simp,by omega,λj aC=>by
   simp_all⟩
  have xc:=lW (F':=F') aN bb hx ai.left hv;have ie:=yI (P:=P) (H:=H') (κ:=λb=>κ (f b)) t xc.2;refine⟨cs,T,aO,aP,λi G=>⟨?_,(bA i G).2⟩⟩;have:=(ie.ku i (by rw[ie.len];simpa [Value.cells,aP]using G)).1;rw[List.getD_eq_getElem?_getD]at this;rw[Array.getD_eq_getD_getElem?];simpa [Value.cells]using this
 | gi t=>
  obtain⟨eO,m,h1,h2,rfl⟩:=Lg h;have xc:=lW (v:=.pointer (some ⟨(κ b).ad,0,none⟩)) aN bb h1 ai.left ⟨⟨Nat.le_refl _,rfl⟩,λ_ _=>rfl⟩;rcases ((dx rfl).1 xc).2 with⟨_,e⟩ | ⟨p,y,a8,e1,e2,h3,aR⟩
  ·cases e
  ·simp only[List.cons.injEq,Value.pointer.injEq,Option.some.injEq,and_true]at e1;subst e1;cases e2;exact⟨a8,h3,aR⟩
 | b5 k v=>
  rw[(Le h).2]at ab;exact wy.mono ab bb (cG.refl _ _) rfl
 | fN e t=>
  obtain⟨v,e1,h⟩:=Lc h;rw[e1]at ab;obtain⟨h0,cs,T,h1,h2,h3,aR,bw,cY,fK,iS⟩:=ab;obtain⟨m,_,_,ga⟩:=xb (F':=F') (H':=H') aN bb az t h;refine⟨h0,cs,T,h1,h2,h3,aR,bw,λj aC qw=>?_,ga ai _ fK,iS⟩;obtain⟨a8,d1,d2⟩:=cY j aC qw;exact⟨a8,d1,eP e bb (cG.refl _ _) d2⟩
theorem aeC:∀ (l:List (Nat×bN)) {x:o2 l} {m:List Nat},w2 H f l=some (x,m)->∀ b,et (gP cJ l x) b=⟨0,.fb⟩\/
  ∃ ir,et (gP cJ l x) b=⟨0,ir⟩/\n_ (H (f b)).body ir/\∃ t,(b,t)∈l/\∀ k,ir.bL k=true->t.Cf=true:=by
 intro l;induction l with
 | nil=>intro x m _ b;exact .inl rfl
 | cons q l aG=>
  intro x m h b;obtain⟨c_,q2⟩:=q;simp only[w2]at h;obtain⟨⟨c8,h1,h2⟩,h3,aR⟩:=bN.Ss q2 h;by_cases e:b=c_
  ·subst e;exact .inr ⟨_,by simp only[gP,et,if_true],h3,q2,by simp,aR⟩
  ·rcases aG h1 b with k | ⟨ir,aO,aP,t,bA,ga⟩
   ·exact .inl (by simpa [gP,et,e]using k)
   ·exact .inr ⟨ir,by simpa [gP,et,e]using aO,aP,t,List.mem_cons_of_mem _ bA,ga⟩
theorem aeD:∀ (l:List (Nat×bN)) {x:o2 l} {m:List Nat},w2 H f l=some (x,m)->gl H m:=by
 intro l;induction l with
 | nil=>intro x m h;cases h;exact .nil H
 | cons q l aG=>intro x m h;exact bN.Cp q.2 h λy m an=>aG an
theorem aeE(aN:∀ b,cg P H κ F w b)(bb:∀ r,F r->F' r)(az:rZ f H H'):∀ (l:List (Nat×bN)) {x:o2 l} {m:List Nat},w2 H f l=some (x,m)->iF H κ F' m->∀ b,jm P H' (λb=>κ (f b)) F' w (κ (f b)) (et (gP cJ l x) b).body:=by
 intro l;induction l with
 | nil=>intro x m _ _ b;trivial
 | cons q l aG=>
  intro x m h an b;obtain⟨c_,q2⟩:=q;simp only[w2]at h;obtain⟨⟨c8,h1,h2⟩,_⟩:=bN.Ss q2 h;by_cases e:b=c_
  ·subst e;simp only[gP,et,if_true];exact bN.aeB aN bb az q2 h an
  ·have:=aG h1 (λc hc=>an c (h2 c hc)) b;simpa [gP,et,e]using this
theorem aeF:∀ (ts:List (Nat×bH)) {c:Nat->aD} {R:Type} {r:Option (R×List Nat)} {z:n7 ts R} {l:List Nat},w3 H f ts c r=some (z,l)->∀ {i l' aI L n st},e5 (d_ cJ ts z).1 i=.tr l' aI L n st->c i=.tr l' aI L n st:=by
 intro ts;induction ts with
 | nil=>intro c R r z l _ i l' aI L n st e;cases e
 | cons p ts aG=>
  intro c R r z l h i l' aI L n st e;obtain⟨ju,t⟩:=p;simp only[w3]at h;obtain⟨m,h1,_⟩:=FY t h;simp only[d_,e5]at e;split at e
  ·rename_i aeG;subst aeG;cases t with
   | tr kj=>
    obtain⟨_,h3⟩:=FX h;rw[h3];exact e
   | _=>cases e
  grind
end
structure FZ(C:bQ)(s:ay)(a:Act)(w:World)(κ:Nat->bm)(f:Nat->Nat)(F':Nat->Prop)(sh:dj)(A:sh.ah)(fl:List Nat):Prop where
 bE:∀ i,bk C.P (sh.st A).ad (λb=>κ (f b)) F' w ((sh.st A).aw i) (a.tmps.getD i Go.undef)
 bn:∀ b,cg C.P (sh.st A).ad (λb=>κ (f b)) F' w b
 bL:∀ b,((sh.st A).ad b).body.bL (κ (f b))=true->f b ∉ fl/\(s.ad (f b)).body.bL (κ (f b))=true/\b∈sh.n8
 zq:rZ f s.ad (sh.st A).ad
 tr:∀ l aI L n st,(sh.st A).aw TRS=.tr l aI L n st->s.aw TRS=.tr l aI L n st
theorem dj.St{C:bQ}{sh:dj}{f:Nat->Nat}{s:ay}{a:Act}{w:World}{κ:Nat->bm}{F:Nat->Prop}{A:sh.ah}{fl:List Nat}(h:sh.zi f s=some (A,fl))(V:ba C s a w κ F) :
  ∃ F',(∀ r,F r->F' r)/\ba C (s.cb fl) a w κ F'/\FZ C s a w κ f F' sh A fl:=by
 unfold dj.zi at h;split at h
 ·rename_i iq awN n5;split at h
  ·rename_i eL;cases h;obtain⟨m,h1,an⟩:=aew sh.bE n5;have lq:gl s.ad fl:=aey sh.bE n5 λy m an=>aeD sh.bn an;obtain⟨F',f1,aX,f2⟩:=ba.kS lq V;have Su:=aeC sh.bn h1;have tz:rZ f s.ad (sh.st A).ad:=by
    intro b;show (et (gP cJ sh.bn (d_ cJ sh.bE A).2) b).gen=0/\n_ (s.ad (f b)).body (et (gP cJ sh.bn (d_ cJ sh.bE A).2) b).body;rcases Su b with e | ⟨ir,e,k,_⟩
    ·rw[e];exact⟨rfl,n_.fb _⟩
    grind
   obtain⟨m2,_,_,aeH⟩:=aeu (F':=F') (w:=w) V.bn f1 tz sh.bE n5;refine⟨F',f1,aX,{ bE:=λi=>aeH f2 i _ (V.bE i),bn:=λb=>?_,bL:=λb ab=>?_,zq:=tz,tr:=λl aI L n st e=>aeF sh.bE n5 e }⟩
   ·exact aeE V.bn f1 tz sh.bn h1 (λc hc=>f2 c (an c hc)) b
   ·have ao:=(tz b).2.2.2.2.2 _ ab;rcases Su b with e | ⟨ir,e,_,t,aH,awO⟩
    ·have e:(sh.st A).ad b=_:=e;rw[e]at ab;cases ab
    ·have e:(sh.st A).ad b=_:=e;rw[e]at ab;have aY:b∈sh.n8:=List.mem_filterMap.2 ⟨(b,t),aH,by grind⟩;grind
  grind
 grind
theorem FZ.xd{C:bQ}{s:ay}{a:Act}{w:World}{κ:Nat->bm}{f:Nat->Nat}{F':Nat->Prop}{sh:dj}{A:sh.ah}{fl:List Nat}(h:FZ C s a w κ f F' sh A fl){b:Nat}(ab:((sh.st A).ad b).body.bL (κ (f b))=true) :
  ((s.cb fl).ad (f b)).body.bL (κ (f b))=true:=by
 obtain⟨h1,h2,_⟩:=h.bL b ab;simp only[ay.cb,if_neg h1];exact h2
theorem Lh{C:bQ}{s:ay}{a:Act}{w:World}{κ:Nat->bm}{F:Nat->Prop}(V:ba C s a w κ F){b:Nat}{e:ae} :
  ba C (s.b' b ⟨(s.ad b).gen+1,.a7 e []⟩) a w (λi=>if i=b then ⟨0,0,0,true⟩ else κ i) F:=
 V.BY (k:=⟨0,0,0,true⟩) (Nat.lt_succ_self _) (.inl rfl) (Nat.le_refl _) (λ_ _=>rfl) (λh=>by cases h) (cM.refl _) λ_ _=>⟨λ_=>rfl,λh=>by cases h⟩
theorem aeI{C:bQ}{s:ay}{a:Act}{w:World}{κ:Nat->bm}{F:Nat->Prop}(V:ba C s a w κ F){i b aZ g':Nat}(hs:s.aw i=.own aZ g'):∃ κ',ba C (KS s i b aZ g') a w κ' F:=by
 unfold KS;split
 ·rename_i e xs au bD;obtain⟨dZ,rfl⟩:=of_decide_eq_true au;generalize mw:(λj=>if j=b then (⟨(s.ad b).gen+1,.a7 e xs⟩:bu) else if j=aZ then ⟨(s.ad aZ).gen+1,.fb⟩ else s.ad j)=H';generalize iu:(λj=>if j=b then κ aZ else κ j)=κ';have h1:H' b=⟨(s.ad b).gen+1,.a7 e xs⟩:=by grind
  have h2:H' aZ=⟨(s.ad aZ).gen+1,.fb⟩:=by grind
  have h3:∀ j,j≠b->j≠aZ->H' j=s.ad j:=λj aO aP=>by grind
  have aO:κ' b=κ aZ:=by grind
  have bA:∀ j,j≠b->κ' j=κ j:=λj k=>by grind
  have ai:eZ s.ad κ H' κ':=by
   rw[Bq];intro j;by_cases e1:j=b
   ·subst e1;rw[h1];exact⟨Nat.le_succ _,λe=>absurd e (Nat.ne_of_lt (Nat.lt_succ_self _))⟩
   ·by_cases e2:j=aZ
    ·subst e2;rw[h2];exact⟨Nat.le_succ _,λe=>absurd e (Nat.ne_of_lt (Nat.lt_succ_self _))⟩
    ·rw[h3 j e1 e2,bA j e1];exact pO.refl _ _
  have fP:∀ j,(H' j).body.bL (κ' j)=true->(j=b/\(s.ad aZ).body.bL (κ aZ)=true)\/(j≠b/\j≠aZ/\(s.ad j).body.bL (κ j)=true):=λj aC=>by
   by_cases e1:j=b
   ·grind
   ·by_cases e2:j=aZ
    ·subst e2;rw[h2]at aC;cases aC
    grind
  have h:=V.move (H':=H') (κ':=κ') (F':=F) (w':=w) ai (λ_ h=>h) (λ_ h=>.inl h) (Nat.le_refl _) (λ_ _ _=>rfl) (cM.refl w)
   (λ_ j=>by
    by_cases e1:j=b
    ·subst e1;have aN:=V.bn aZ;unfold cg at aN ⊢;rw[bD]at aN;rw[h1,aO];exact aN
    ·by_cases e2:j=aZ
     ·subst e2;unfold cg;rw[h2];trivial
     ·exact cg.kP (V.bn j) ai (λ_ h=>h) (cG.refl _ _) (by grind) (bA j e1) λ_=>rfl)
   (λj aC=>by
    rcases fP j aC with⟨rfl,h⟩ | ⟨e1,_,h⟩
    ·rw[aO];have:=V.own aZ h;grind
    ·rw[bA j e1];have:=V.own j h;grind)
   (λj jW aC fz e=>by
    rcases fP j aC with⟨rfl,h⟩ | ⟨e1,e2,h⟩<;>rcases fP jW fz with⟨rfl,cZ⟩ | ⟨Sv,aeJ,cZ⟩
    ·rfl
    ·rw[aO,bA jW Sv]at e;exact absurd (V.inj aZ jW h cZ e).symm aeJ
    ·rw[aO,bA j e1]at e;exact absurd (V.inj j aZ h cZ e) e2
    ·rw[bA j e1,bA jW Sv]at e;exact V.inj j jW h cZ e)
   V.cL
   (λj _ aC=>by
    by_cases e1:j=b
    ·subst e1;rw[h1]at aC;rcases aC with aC | aC<;>cases aC
    ·by_cases e2:j=aZ
     ·subst e2;rw[h2]at aC;rcases aC with aC | aC<;>cases aC
     grind)
  refine⟨κ',{ h with bE:=λj=>?_,di:=h.di,dfr:=h.dfr,bn:=h.bn,pro:=λl aI L n st aS=>?_ }⟩
  ·show bk C.P _ _ F w (if j=i then .own b ((s.ad b).gen+1) else s.aw j) _;split
   ·rename_i e;subst e;have hv:=V.bE j;rw[hs]at hv;have hZ:=hv.2 rfl (by rw[bD];rfl);rw[bD]at hZ;exact⟨⟨by grind,hv.1.2⟩,λ_ _=>by grind⟩
   ·exact h.bE j
  ·have aS:(if TRS=i then .own b ((s.ad b).gen+1) else s.aw TRS)=.tr l aI L n st:=aS;split at aS
   ·cases aS
   ·exact h.pro l aI L n st aS
 grind
theorem aeK{C:bQ}{bs:List (Nat×bN)}{s:ay}{a:Act}{w:World}{κ:Nat->bm}{F:Nat->Prop}(V:ba C s a w κ F)(i b:Nat):∃ κ',ba C (KT bs s i b) a w κ' F:=by
 unfold KT;split
 ·rename_i e hs _;have h:=Lh V (b:=b) (e:=e);refine⟨_,{ h with bE:=λj=>?_,di:=h.di,dfr:=h.dfr,bn:=h.bn,pro:=λl aI L n st aS=>?_ }⟩
  ·show bk C.P _ _ F w (if j=i then .own b ((s.ad b).gen+1) else s.aw j) _;split
   ·rename_i e;subst e;have hv:=V.bE j;rw[hs]at hv;have hv:a.tmps.getD j undef=.slice none 0 0:=hv;rw[hv];exact⟨⟨by simp[ay.b'],rfl⟩,λ_ _=>by simp[bm.slice]⟩
   ·exact h.bE j
  ·have aS:(if TRS=i then .own b ((s.ad b).gen+1) else s.aw TRS)=.tr l aI L n st:=aS;split at aS
   ·cases aS
   ·exact h.pro l aI L n st aS
 ·rename_i hs _;exact aeI V hs
 grind
theorem aeL{C:bQ}{bs:List (Nat×bN)}{s:ay}{a:Act}{w:World}{κ:Nat->bm}{F:Nat->Prop}(V:ba C s a w κ F)(c j b:Nat):∃ κ',ba C (KU bs s c j b) a w κ' F:=by
 unfold KU;split
 ·rename_i t f hc;split
  ·rename_i e ar au _;have Sw:c≠b:=λe=>by grind
   have h:=Lh V (b:=b) (e:=e);have ij:(s.b' b ⟨(s.ad b).gen+1,.a7 e []⟩).ad c=s.ad c:=by simp[ay.b',Sw]
   have aN:=h.bn c;unfold cg at aN;rw[ij,hc]at aN;obtain⟨cs,T,h1,h2,h3⟩:=aN;refine⟨_,h.oO (w':=w) (b:=c) (x:=⟨(s.ad c).gen,.cells t λq=>if q=j then .own b ((s.ad b).gen+1) else f q⟩) (by rw[ij,hc];rfl) rfl
    (qx (by rw[ij]) (λ_=>by rw[ij,hc];rfl) (λh=>by cases h) (λh=>by cases h) (λh=>by cases h)) (λ_=>by rw[ij,hc];rfl) (λh=>by cases h) (λ_ _=>rfl) rfl (cM.refl _) λH mw ai _=>?_⟩
   refine⟨cs,T,h1,h2,λq be=>⟨?_,(h3 q be).2⟩⟩;show bk C.P H _ F w (if q=j then .own b ((s.ad b).gen+1) else f q) _;split
   ·rename_i eq;subst eq;have hv:=(h3 q be).1;rw[ar]at hv;have hv:cs.getD q undef=.slice none 0 0:=hv;rw[hv];have aeM:H b=⟨(s.ad b).gen+1,.a7 e []⟩:=by rw[mw];simp[ay.b',Ne.symm Sw]
    exact⟨⟨by grind,rfl⟩,λ_ _=>by rw[aeM];simp[bm.slice]⟩
   ·exact bk.later ai (λ_ h=>h) (cG.refl _ _) (h3 q be).1
  grind
 grind
theorem aeN{C:bQ}(sh:dj){s:ay}{a:Act}{w:World}{κ:Nat->bm}{F:Nat->Prop}(V:ba C s a w κ F):∃ κ',ba C (sh.FB s) a w κ' F:=by
 have h1:∀ (l:List (Nat×bH)) (s:ay) (κ:Nat->bm),ba C s a w κ F->∃ κ',ba C (Fy sh.bn l s) a w κ' F:=by
  intro l;induction l with
  | nil=>intro s κ h;exact⟨κ,h⟩
  | cons p l aG=>
   intro s κ h;simp only[Fy];split
   ·obtain⟨κ',cZ⟩:=aeK (bs:=sh.bn) h p.1 _;exact aG _ _ cZ
   grind
 have h2:∀ (c:Nat) (l:List bH) (j:Nat) (s:ay) (κ:Nat->bm),ba C s a w κ F->∃ κ',ba C (Fz sh.bn c l j s) a w κ' F:=by
  intro c l;induction l with
  | nil=>intro j s κ h;exact⟨κ,h⟩
  | cons t l aG=>
   intro j s κ h;simp only[Fz];split
   ·obtain⟨κ',cZ⟩:=aeL (bs:=sh.bn) h c j _;exact aG _ _ _ cZ
   ·exact aG _ _ _ h
 have h3:∀ (l:List (Nat×bN)) (s:ay) (κ:Nat->bm),ba C s a w κ F->∃ κ',ba C (FA sh.bn l s) a w κ' F:=by
  intro l;induction l with
  | nil=>intro s κ h;exact⟨κ,h⟩
  | cons p l aG=>
   intro s κ h;simp only[FA];split
   ·obtain⟨κ',cZ⟩:=h2 p.1 _ 0 s κ h;exact aG _ _ cZ
   grind
 obtain⟨aeO,gn⟩:=h1 sh.bE s κ V;exact h3 sh.bn _ _ gn
theorem Sx:∀ (l:List (Nat×bN)) (x:o2 l) (b:Nat),(et (gP cJ l x) b).body.eR=true->∃ q∈l,q.1=b/\q.2.R8=true
 | [],_,_,h=>by cases h
 | p::l,x,b,h=>by
  simp only[gP,et]at h;by_cases e:b=p.1
  ·rw[if_pos e]at h;refine⟨p,by simp,e.symm,?_⟩;obtain⟨ju,t⟩:=p;cases t<;>first | rfl | cases h
  ·rw[if_neg e]at h;obtain⟨q,h1,h2⟩:=Sx l _ b h;grind
theorem dj.zr{C:bQ}{sh:dj}{s:ay}{a:Act}{w:World}{A:sh.ah}{κ:Nat->bm}{F:Nat->Prop}(h:sh.iL s=some A)(V:ba C s a w κ F):∃ κ' F',(∀ r,F r->F' r)/\ba C (sh.st A) a w κ' F':=by
  obtain⟨κ,V⟩:=aeN sh V;unfold dj.iL at h;generalize sh.FB s=s at h V;split at h;case h_2=>cases h
  rename_i aeP;simp only[Option.map_eq_some_iff]at h;obtain⟨⟨iq,fl⟩,h,rfl⟩:=h;obtain⟨F',f1,aX,au⟩:=dj.St h V;have fP:=λb ab=>au.xd (b:=b) ab;exact⟨κ, F', f1, { aX with
    di:=aX.di,dfr:=aX.dfr,bE:=au.bE,bn:=au.bn,own:=λb ab=>aX.own b (fP b ab),inj:=λb aZ ab cS=>aX.inj b aZ (fP b ab) (fP aZ cS)
    jn:=λb r V hc=>aX.jn b r V (hc.imp (λhc=>by
      have h0:=(au.zq b).2.1 hc;simp only[ay.cb];split
      · rcases yW s.ad (s.ad b) with e | ⟨_,_,hx,_⟩ | ⟨_,_,_,hx,_⟩ | ⟨_,_,_,_,_,_,e⟩
        · grind
        · rw[hx]at h0;cases h0
        · rw[hx]at h0;cases h0
        · rw[e];rfl
      omega) (λhc=>by
      have h0:=(au.zq b).2.2.2.1 hc;simp only[ay.cb];split
      · rcases yW s.ad (s.ad b) with e | ⟨_,_,hx,_⟩ | ⟨_,_,_,_,e⟩ | ⟨_,_,_,_,hx,_,_⟩
        · grind
        · rw[hx]at h0;cases h0
        · rw[e];rfl
        · rw[hx]at h0;cases h0
      omega))
    j_:=λb k ao _ aU=>by
      obtain⟨bT,a2,_⟩:=(au.zq b).2.2.1 aU;have az:(s.ad b).gen=0:=by
        rcases Sx sh.bn (d_ cJ sh.bE iq).2 b aU with⟨q,be,rfl,iX⟩
        have:=List.all_eq_true.1 aeP q be;rw[iX]at this;have Fj:=V.jQ _ k ao;grind
      obtain⟨aO,aP⟩:=V.j_ b k ao az bT;grind
    pro:=λl aI L n st e=>by
      obtain⟨h1,h2,Y,h3,aR,bw⟩:=aX.pro l aI L n st (au.tr l aI L n st e);grind }⟩
theorem dj.xb{C:bQ}{sh:dj}{s:ay}{a:Act}{w:World}{A:sh.ah}(h:sh.iL s=some A)(V:b9 C s a w):b9 C (sh.st A) a w:=by
 obtain⟨κ,F,V⟩:=V;obtain⟨κ',F',_,aX⟩:=dj.zr h V;exact⟨κ',F',aX⟩
end Go.Fer
namespace Go.Fer
open Go.RowKit
def aeQ(C:bQ)(o:Oper)(s:ay)(pr:hC):Prop:=
 ∀ (a:Act) (w:World) (Q:Exit->Act->World->Prop) (K:Act->World->Prop),b9 C s a w->pr.bR->M.b_ pr.m (λy=>∀ a' w',b9 C (pr.st y) a' w'->K a' w')->o.wpIn (dv C.r) 0 C.P a w K Q
def aeR(C:bQ)(o:Oper)(s:ay)(pr:hC):Prop:=
 ∀ gs,pr.Ch=some gs->(∀ y a w,b9 C (pr.st y) a w->b9 C (gs true y) a w)/\∀ a w,b9 C s a w->b9 C (gs false pr.d) (a.put o.dst Go.undef) w
structure p2(C:bQ)(o:Oper)(s:ay)(pr:hC):Prop where
 prog:aeQ C o s pr
 awP:aeR C o s pr
 awQ:qK (aT C.aL s.aw) o->pr.bR
theorem b9.Li{C:bQ}{s:ay}{d:Option Nat}{av av':aD}{a:Act}{w:World}(h:b9 C (s.set d av) a w)
  (au:∀ i,d=some i->i<C.nt) (hv:∀ κ F v,bk C.P s.ad κ F w av v->bk C.P s.ad κ F w av' v):b9 C (s.set d av') a w:=by
 cases d with
 | none=>exact h
 | some d=>
  obtain⟨κ,F,h⟩:=h;have aA:=h.fO;have wA:=au d rfl;have aH:TRS≠d:=by unfold TRS eu at *;omega
  refine⟨κ,F,{ h with bE:=λi=>?_,di:=h.di,dfr:=h.dfr,bn:=h.bn,pro:=λl aI L n st e=>h.pro l aI L n st ?_ }⟩
  ·have G:=h.bE i;simp only[ay.set]at G ⊢;grind
  ·simp only[ay.set,if_neg aH]at e ⊢;exact e
section
variable {C:bQ} {T:Nat->ae} {a1:Nat->Option aJ} {o:Oper} {s:ay}
theorem Cq{args:List Operand}(ab:qK (aT C.aL s.aw) o)(aU:∀ x∈args,x∈o.op.operands.toList):js (args.map (aT C.aL s.aw)):=
 B9 λv hv=>by
  simp only[List.mem_map]at hv;obtain⟨p,hp,rfl⟩:=hv;exact ab p (aU p hp)
theorem Sy(a6:∀ i,o.dst=some i->i<C.nt){tr:ae}{fl:List Nat}(lq:gl s.ad fl){d:tr.ah} :
  (∀ (y:tr.ah) a w,b9 C (qN s o tr fl (qy tr y)) a w->b9 C (qN s o tr fl (.hd true (qy tr y))) a w)/\∀ a w,b9 C s a w->b9 C (qN s o tr fl (.hd false (qy tr d))) (a.put o.dst Go.undef) w:=by
 refine⟨λy a w h=>b9.Li h a6 λκ F v hv=>⟨λ_=>hv,λh=>(by cases h)⟩,λa w h=>?_⟩;obtain⟨κ,F,V⟩:=h;obtain⟨F',_,aX,_⟩:=ba.kS lq V;unfold qN;split
 ·exact⟨κ,F,V.set a6 ⟨λh=>(by cases h),λ_=>rfl⟩⟩
 ·exact⟨κ,F',aX.set a6 ⟨λh=>(by cases h),λ_=>rfl⟩⟩
theorem aeS(a6:∀ i,o.dst=some i->i<C.nt){k:Nat}{args:Array Operand}{cU:Array TypeId}(ag:o.op=.call { callee:=.value (.func k),args:=args,argTypes:=cU }){c7:SC}(ar:hL C.P k c7.ts c7.tr c7.sh){pr:hC}
  (h:Ci C.aL s o args.toList c7=some pr):p2 C o s pr:=by
 unfold Ci at h;split at h
 ·rename_i x fl hx;cases h;refine⟨λa w Q K V aY an=>?_,λgs n'=>?_,λab=>Cq ab λx hx=>by rw[ag];simp[Op.operands,Call.operands];simp_all⟩
  ·obtain⟨κ,F,V⟩:=V;exact Rx V ar a6 ag aY hx an.1 λy w' aM v jY=>an.2 y aM _ _ jY
  ·cases n';exact Sy a6 (pW _ hx)
 grind
theorem aeT(a6:∀ i,o.dst=some i->i<C.nt){k:Nat}{args:Array Operand}{cU:Array TypeId}(ag:o.op=.call { callee:=.value (.func k),args:=args,argTypes:=cU }){c7:SC}(ar:hL C.P k c7.ts c7.tr c7.sh)(Cr:QF C.P k c7.ts c7.tr c7.sh){pr:hC}
  (h:FF C.aL s o args.toList c7=some pr):p2 C o s pr:=by
 unfold FF at h;split at h
 ·rename_i x fl hx;cases h;refine⟨λa w Q K V aY an=>?_,λgs n'=>(by grind),λab=>Cq ab λx hx=>by rw[ag];simp[Op.operands,Call.operands];simp_all⟩;obtain⟨κ,F,V⟩:=V;obtain⟨args⟩:=args;have cH:(execOp a.eval o).run C.P w=.ok (.enter k (args.map a.eval).toArray) w:=by
   simp only[execOp,ag,Sem.run_bind,resolve,Act.eval,Deferred.ofValue,Sem.run_pure,Result.andThen_ok,invoke];have:=ar.enter (args.map a.eval).toArray w;grind
  obtain⟨F',f1,aX,f2⟩:=ba.kS (pW _ hx) V;have dA:eY C.P c7.ts F' w (args.map a.eval) x:=by
   refine uS V.bn f1 c7.ts hx f2 (by simp) λi G dp=>?_;simp only[List.getElem_map];have c6:i<args.length:=by grind
   have h1:=rH aY i (by grind);have e1:(args.map (aT C.aL s.aw)).getD i .undef=aT C.aL s.aw args[i]:=by grind
   rw[show (List.map (aT C.aL s.aw) (⟨args⟩:Array Operand).toList)=args.map (aT C.aL s.aw) from rfl,e1]at h1;exact oQ (jU V args[i]) h1
  refine B4 (by grind) cH (Cr.iD F' w _ x aX.cL aX.ib dA an.1) λe w' ⟨v,y,he,aM,fR,ab⟩=>⟨v,he,an.2 y aM _ _ ⟨κ,_,(V.grow ab).set a6 (B3 ?_)⟩⟩
  obtain⟨aB,c_,q2,q3⟩:=fR;exact⟨aB,c_,q2,eP _ (λr V=>.inr V) (cG.refl _ _) q3⟩
 grind
theorem aeU(a6:∀ i,o.dst=some i->i<C.nt){t:Nat}{args:Array Operand}{cU:Array TypeId}(ag:o.op=.call { callee:=.value (.tmp t),args:=args,argTypes:=cU }){pr:hC}
  (h:Cj C.aL s o t args.toList=some pr):p2 C o s pr:=by
 unfold Cj at h;split at h
 ·rename_i bR aI b f hu;split at h
  ·rename_i x fl hx;cases h;obtain⟨args⟩:=args;refine⟨λa w Q K V aY an=>?_,λgs n'=>?_,λab=>⟨?_,Cq ab λx hx=>by rw[ag];simp[Op.operands,Call.operands];simp_all⟩⟩
   ·obtain⟨κ,F,V⟩:=V;obtain⟨F',f1,aX,f2⟩:=ba.kS (pW _ hx) V;have dA:eY C.P aI F' w (args.map a.eval) x:=by
     refine uS V.bn f1 aI hx f2 (by simp) λi G dp=>?_;simp only[List.getElem_map];have c6:i<args.length:=by grind
     have h1:=rH aY.2 i (by grind);have e1:(args.map (aT C.aL s.aw)).getD i .undef=aT C.aL s.aw args[i]:=by grind
     rw[show (List.map (aT C.aL s.aw) (⟨args⟩:Array Operand).toList)=args.map (aT C.aL s.aw) from rfl,e1]at h1;exact oQ (jU V args[i]) h1
    have F1:bk C.P s.ad κ F w (use (aT C.aL s.aw (.tmp t))).2 (a.eval (.tmp t)):=ct V (.tmp t) hu aY.1 |> λh=>by
     have e:use (aT C.aL s.aw (.tmp t))=(bR,.val (.fn aI b) f):=hu;grind
    have e:use (aT C.aL s.aw (.tmp t))=(bR,.val (.fn aI b) f):=hu;rw[e]at F1;obtain⟨_,u,xe,_,sS⟩:=(dx rfl).1 F1;have xe:a.eval (.tmp t)=u:=(List.cons.inj xe).1;obtain⟨g,cF,az,r0,Lj⟩:=sS F' w f1 (cG.refl _ _) aX.cL aX.ib (args.map a.eval) x dA.1 dA.2 an.1;have cH:(execOp a.eval o).run C.P w=.ok (.enter g ((args.map a.eval).toArray++cF)) w:=by
     have hv:a.eval (.tmp t)=.func (.func g) #[] cF:=xe.trans az;simp only[execOp,ag,Sem.run_bind,resolve,hv,Deferred.ofValue,Sem.run_pure,Result.andThen_ok,invoke];grind
    refine B4 (by grind) cH Lj λe w' ⟨v,y,aB,he,aM,h1,h2,h3,ab⟩=>⟨v,he,an.2 y aM _ _ ?_⟩
    have fR:sW C.P b (uB F' w w') w' v y:=⟨aB,h1,h2,h3⟩
    unfold qN;by_cases hp:b.pure=true
    ·rw[if_pos hp];have az:=V.grow ab;refine⟨κ,_,az.set a6 (B3 ?_)⟩;exact⟨aB,h1,Rv hp ⟨h2,h3⟩⟩
    ·rw[if_neg hp];have az:=aX.grow ab;exact⟨κ,_,az.set a6 (B3 fR)⟩
   ·cases n';exact Sy a6 (pW _ hx)
   ·have:=ab (.tmp t) (by rw[ag];simp[Op.operands,Call.operands]);have e:use (aT C.aL s.aw (.tmp t))=(bR,.val (.fn aI b) f):=hu;grind
  grind
 grind
theorem aeV(hT:dw C.P T)(a6:∀ i,o.dst=some i->i<C.nt){ty:TypeId}{x:Operand}(ag:o.op=.range ty x){pr:hC}(h:FJ C.aL T s o ty x=some pr):p2 C o s pr:=by
 unfold FJ at h;split at h
 ·rename_i k v d aH au;split at h;rename_i bR av hu;split at h
  ·rename_i es fl oT;split at h
   ·cases h
   ·rename_i ti;cases h;have ti:d ∉ fl:=by grind
    obtain⟨i,j,G,_,_⟩:=(hT.bS aH (by simp)).mp;refine⟨λa w Q K V aY an=>?_,λgs n'=>(by grind),λab=>qK.use ab (by rw[ag];simp[Op.operands]) hu⟩;obtain⟨κ,F,V⟩:=V;obtain⟨F',f1,aX,f2⟩:=ba.kS (mv oT) V;have hv:=ct V x hu aY;have ns:=((dx rfl).1 (lW V.bn f1 oT f2 hv)).2;have iu:=an.2 () rfl;have oX:(s.cb fl).ad d=s.ad d:=by simp only[ay.cb];grind
    have fin:∀ (b5:Obj),(∀ w',w'=w.alloc b5->wy C.P k v F' w' w.heap.size none es)->(execOp a.eval o).run C.P w=.ok (.value (.pointer (some ⟨w.heap.size,0,none⟩))) (w.alloc b5)->o.wpIn (dv C.r) 0 C.P a w K Q:=by
     intro b5 hit cH;have h1:=aX.alloc (b:=d) (x:=⟨(s.ad d).gen+1,.b5 k v none es⟩) (V.gN (a6 d au)) (by grind) (o:=b5) (k:=⟨w.heap.size,0,0,false⟩) rfl λH κ' _ _ _=>hit _ rfl;refine gY (by grind) cH (iu _ _ ⟨_,F',ba.set (s:=(s.cb fl).b' d _) h1 a6 ⟨⟨by simp[ay.b'],rfl⟩,λ_ _=>by simp⟩⟩)
    rcases ns with⟨e1,rfl⟩ | ⟨r,ms,clk,e1,m1,m2,m3,m4,m5,m6⟩
    ·have hx:a.eval x=.map none:=(List.cons.inj e1).1;refine fin (.mapIter none 0 #[] 0) (λw' hw=>.inl ⟨by rw[hw];exact pP _ _,rfl,rfl⟩) ?_;simp[execOp,ag,Instr.range,df G,hx]
    ·have hx:a.eval x=.map (some r):=(List.cons.inj e1).1;refine fin (.mapIter (some r) clk #[] clk) (λw' hw=>.inr ⟨r,ms,clk,#[],m1,?_,by rw[hw];exact pP _ _,λi G=>(m5 i (by omega) G).2.2.2.2,m6,?_,λc hc=>by cases hc⟩) ?_
     ·rw[hw,oN _ _ (aX.cL r m1)];exact m2
     ·refine⟨List.range ms.size,by grind,List.nodup_range,λi=>by simp,λj aC fz=>?_⟩;have wQ:j<ms.size:=by omega
      obtain⟨aO,aP,bA,ga,_⟩:=m5 j fz wQ;refine⟨by grind,?_⟩;simp only[List.getElem_range];have he:cG F' w w':=by rw[hw];exact cG.alloc aX.cL _
      exact yB.mono ⟨aO,aP,bA,ga⟩ (λ_ h=>h) he
     ·have eA:(getObj r).run C.P w=.ok (.map ms clk) w:=by simp[getObj,Sem.run,m2]
      simp[execOp,ag,Instr.range,df G,hx,eA]
  grind
 grind
theorem aeW(a6:∀ i,o.dst=some i->i<C.nt){x:Operand}(ag:o.op=.entry x){pr:hC}(h:FM C.aL s o x=some pr):p2 C o s pr:=by
 unfold FM at h;split at h
 ·rename_i b g hx;split at h
  ·rename_i az;split at h
   ·rename_i k v c bY ab;cases h;refine⟨λa w Q K V _ an=>?_,λgs n'=>(by grind),λ_=>trivial⟩;obtain⟨κ,F,V⟩:=V;have hv:=jU V x;rw[hx]at hv;have hv:=hv.2 az.symm (by rw[ab];rfl);have aN:=V.bn b;unfold cg at aN;rw[ab]at aN;have eV:=M.kr.1 an;have iu:=M.dE.1 eV.2;obtain⟨c',jv⟩:=Option.isSome_iff_exists.1 eV.1;subst jv;rcases aN with⟨_,_,e⟩ | ⟨lh,es,clk,seen,h1,h2,h3,aR,bw,_,fK⟩
    ·cases e
    ·obtain⟨i,G,hs,he⟩:=fK c' rfl;have uT:es.find? (λe=>e.born == es[i].born)=some es[i]:=by
      rw[<-Array.find?_toList];have jz:es[i]∈es.toList:=by simp
      cases ar:es.toList.find? (λe=>e.born == es[i].born) with
      | none=>grind
      | some e=>
       have iS:=List.find?_some ar;have pK:=List.mem_of_find?_eq_some ar;obtain⟨j,aC,rfl⟩:=List.mem_iff_getElem.1 pK;grind
     have Cs:(getObj (κ b).ad).run C.P w=.ok (.mapIter (some lh) clk seen clk) w:=by simp[getObj,Sem.run,h3]
     have wT:(getObj lh).run C.P w=.ok (.map es clk) w:=by simp[getObj,Sem.run,h2]
     have cH:(execOp a.eval o).run C.P w=.ok (.value (.tuple #[es[i].key,es[i].val])) w:=by
      simp[execOp,ag,Instr.entry,hv,Cs,wT,hs,uT]
     refine gY (by grind) cH (iu _ _ ⟨κ,F,V.set a6 ⟨[es[i].key,es[i].val],rfl,rfl,λn aA=>?_⟩⟩);match n,aA with
     | 0,_=>exact⟨he.1,he.2.1⟩
     | 1,_=>exact⟨he.2.2.1,he.2.2.2⟩
   grind
  grind
 grind
theorem aeX{es:Array MapEntry}{seen:Array Nat}{clk:Nat}(aR:∀ i (h:i<es.size),es[i].born<clk) :
  (es.filter λe=>!seen.contains e.born).filter (λe=>decide (e.born<clk))=(es.filter λe=>!seen.contains e.born)/\(es.filter λe=>!seen.contains e.born).filter (λe=>decide (e.born>=clk))=#[]:=by
 have fj:∀ e∈es.filter λe=>!seen.contains e.born,e.born<clk:=by
  intro e he;have:=(Array.mem_filter.1 he).1;obtain⟨i,G,rfl⟩:=Array.mem_iff_getElem.1 this;grind
 constructor
 ·exact Array.filter_eq_self.2 λe he=>by grind
 ·exact Array.filter_eq_empty_iff.2 λe he=>by grind
theorem aeY(P:Program)(w:World)(n:Nat):∃ j w',(choose (.mapNext n)).run P w=.ok j w'/\(0<n->j<n)/\(w'=w\/w'=w.drew):=by
 rw[run_choose];by_cases h:n<=1
 ·have:(Question.mapNext n).forced=true:=by simp[Question.forced,h]
  rw[this];grind
 ·have:(Question.mapNext n).forced=false:=by simp[Question.forced];omega
  rw[this];exact⟨_,_,rfl,λaA=>Nat.mod_lt _ aA,.inr rfl⟩
theorem aeZ(a6:∀ i,o.dst=some i->i<C.nt){x:Operand}{str:Bool}(ag:o.op=.next x str){pr:hC}(h:FL C.aL s o x str=some pr):p2 C o s pr:=by
  unfold FL at h;split at h
  · rename_i b g hx
    split at h
    · rename_i az
      split at h
      · rename_i k v c bY ab
        cases h
        refine⟨λa w Q K V _ an=>?_,λgs n'=>(by grind),λ_=>trivial⟩
        obtain⟨κ,F,V⟩:=V
        have hv:=jU V x
        rw[hx]at hv
        have hv:=hv.2 az.symm (by rw[ab];rfl)
        have aN:=V.bn b
        unfold cg at aN
        rw[ab]at aN
        have au:∀ c,o.op≠.defer c:=by grind
        have fL:∀ w',(w'=w\/w'=w.drew)->bY=[]->(execOp a.eval o).run C.P w=.ok (.value (.tuple #[.bool false])) w'->o.wpIn (dv C.r) 0 C.P a w K Q:=by
          intro w' Ct r1 cH;have cr:ba C s a w' κ F:=by
            rcases Ct with rfl | rfl
            · exact V
            · exact V.drew
          have Rs:s.b' b ⟨g,.b5 k v c bY⟩=s:=by
            unfold ay.b';congr 1;funext i;by_cases G:i=b
            · rw[if_pos G,G,<-ab,<-az]
            grind
          refine gY au cH (an.2 none r1 _ _ ⟨κ,F,ba.set (s:=s.b' b ⟨g,.b5 k v c bY⟩) (by grind) a6 ⟨[.bool false],rfl,rfl,λn aA=>?_⟩⟩);have:n=0:=by simp only[Sf]at aA;omega
          subst this;exact eQ.2 rfl
        rcases aN with⟨h1,h2,_⟩ | ⟨lh,es,clk,seen,h1,h2,h3,aR,bw,⟨ids,i1,i2,i3,i4⟩,fK⟩
        · refine fL w (.inl rfl) h2 ?_
          have Cs:(getObj (κ b).ad).run C.P w=.ok (.mapIter none 0 #[] 0) w:=by simp[getObj,Sem.run,h1]
          simp[execOp,ag,Instr.next,hv,Cs]
        · have Cs:(getObj (κ b).ad).run C.P w=.ok (.mapIter (some lh) clk seen clk) w:=by simp[getObj,Sem.run,h3]
          have wT:(getObj lh).run C.P w=.ok (.map es clk) w:=by simp[getObj,Sem.run,h2]
          obtain⟨f1,f2⟩:=aeX (seen:=seen) aR
          have fj:(!seen.isEmpty&&!es.isEmpty&&es.all (λe=>decide (e.born>=clk)))=false:=by
            by_cases he:es.size=0
            · grind
            · have:es.all (λe=>decide (e.born>=clk))=false:=by
                rw[Array.all_eq_false];exact⟨0,by omega,by grind⟩
              grind
          generalize ae0:(es.filter λe=>!seen.contains e.born)=left at f1 f2
          have ae1:((if left.isEmpty=true then #[none] else #[])++Array.map some (left++(#[]:Array MapEntry)))=(if left.isEmpty=true then #[none] else Array.map some left):=by
            grind
          obtain⟨j,w',c1,c2,c3⟩:=aeY C.P w (if left.isEmpty=true then #[none] else Array.map some left).size
          have cz:w'.heap=w.heap:=by rcases c3 with rfl | rfl<;>rfl
          have zt : ∀ r cI, (match (if left.isEmpty = true then #[none] else Array.map some left)[j]? with
                | some (some e)=>(do setObj (κ b).ad (.mapIter (some lh) clk (seen.push e.born) clk);pure (.tuple #[.bool true,e.key,e.val]):Sem Value)
                | some none=>pure (.tuple #[.bool false])
                | none => stuck "Next: no such candidate").run C.P w' = .ok r cI -> (execOp a.eval o).run C.P w = .ok (.value r) cI := by
            intro r cI cr;simp only[execOp,ag,Instr.next,hv,Sem.run_bind,Cs,Result.andThen_ok,wT,fj,Bool.false_eq_true,if_false,ae0,f1,f2,ae1,c1];exact (congrArg (λ(z:Result Value)=>z.andThen λv w'=>Sem.run C.P (Pure.pure (Next.value v)) w') cr).trans rfl
          by_cases hle:left.isEmpty=true
          · have J1:left=#[]:=by grind
            have r1:bY=[]:=by
              have:ids=[]:=List.eq_nil_iff_forall_not_mem.2 λi G=>by
                obtain⟨u1,c6⟩:=(i3 i).1 G;have:es[i]∈left:=by
                  grind
                grind
              grind
            rw[hle]at zt c2
            simp only[if_true]at zt c2
            have aC:j=0:=by grind
            subst aC
            exact fL w' c3 r1 (zt _ _ rfl)
          · have hle:left.isEmpty=false:=by grind
            rw[hle]at zt c2
            simp only[Bool.false_eq_true,if_false]at zt c2
            have awR:0<left.size:=by
              grind
            have aC:j<left.size:=by grind
            have jz:left[j]∈(es.filter λe=>!seen.contains e.born):=by grind
            obtain⟨tk,Sz⟩:=Array.mem_filter.1 jz
            obtain⟨i0,n6,ae2⟩:=Array.mem_iff_getElem.1 tk
            have ae3:i0∈ids:=(i3 i0).2 ⟨n6,by grind⟩
            obtain⟨q,be,Lk⟩:=List.mem_iff_getElem.1 ae3
            have Ll:q<bY.length:=by omega
            have oV:(setObj (κ b).ad (.mapIter (some lh) clk (seen.push left[j].born) clk)).run C.P w'=.ok () { w' with heap:=w'.heap.setIfInBounds (κ b).ad (.mapIter (some lh) clk (seen.push left[j].born) clk) }:=by
              simp[setObj,Sem.run,cz,h3]
            have cH:=zt (.tuple #[.bool true,left[j].key,left[j].val]) { w' with heap:=w'.heap.setIfInBounds (κ b).ad (.mapIter (some lh) clk (seen.push left[j].born) clk) } (by
              rw[show (Array.map some left)[j]?=some (some left[j]) by simp];simp only[Sem.run_bind,oV,Result.andThen_ok,Sem.run_pure])
            have iJ:cM w w':=by rcases c3 with rfl | rfl<;>exact⟨rfl,rfl,rfl⟩
            have bZ:(κ b).ad<w.heap.size:=(Array.getElem?_eq_some_iff.1 h3).1
            have dZ:lh≠(κ b).ad:=λe=>(V.own b (by grind)).2.1 (e ▸ h1)
            have fS:eZ s.ad κ (λi=>if i=b then (⟨g,.b5 k v bY[q]? (bY.eraseIdx q)⟩:bu) else s.ad i) κ:=
              qx az.symm (λh=>by cases h) (λh=>by cases h) (λh=>by cases h) (λ_=>by rw[ab];rfl)
            have gA:=V.oO (b:=b) (x:=⟨g,.b5 k v bY[q]? (bY.eraseIdx q)⟩) (w':={ w' with heap:=w'.heap.setIfInBounds (κ b).ad (.mapIter (some lh) clk (seen.push left[j].born) clk) }) (by rw[ab];rfl) rfl fS (λh=>by cases h) (λh=>by cases h)
              (λr Kf=>by grind) (by grind) ⟨iJ.os,iJ.tape,iJ.output⟩ λH _ _ he=>by
                refine .inr ⟨lh,es,clk,seen.push left[j].born,h1,?_,by grind,aR,bw,⟨ids.eraseIdx q,?_,?_,λi=>?_,λn aA B8=>?_⟩,λc' jv=>?_⟩
                · grind
                · grind
                · grind
                · rw[List.mem_eraseIdx_iff_getElem]
                  constructor
                  · rintro⟨n,aA,F2,rfl⟩
                    obtain⟨tA,qU⟩:=(i3 ids[n]).1 (by simp)
                    refine⟨tA,?_⟩
                    simp only[Array.contains_push,Bool.or_eq_false_iff]
                    refine⟨qU,?_⟩
                    rw[<-ae2]
                    simp only[beq_eq_false_iff_ne,ne_eq]
                    intro e
                    have:ids[n]=i0:=bw _ _ tA n6 (by omega)
                    exact F2 ((List.getElem?_inj aA i2).1 (by grind))
                  · rintro⟨tA,qU⟩
                    simp only[Array.contains_push,Bool.or_eq_false_iff]at qU
                    obtain⟨n,aA,rfl⟩:=List.mem_iff_getElem.1 ((i3 i).2 ⟨tA,qU.1⟩)
                    grind
                · have u2:(ids.eraseIdx q)[n]=if h:n<q then ids[n]'(by omega) else ids[n+1]'(by grind):=by
                    rw[List.getElem_eraseIdx]
                  have SA:(bY.eraseIdx q)[n]=if h:n<q then bY[n]'(by omega) else bY[n+1]'(by grind):=by
                    rw[List.getElem_eraseIdx]
                  have hlen:n+1<ids.length:=by grind
                  by_cases F2:n<q
                  · obtain⟨tA,qU⟩:=i4 n (by omega) (by omega)
                    simp only[u2,SA,F2,dif_pos]
                    exact⟨tA,qU.mono (λ_ h=>h) he⟩
                  · obtain⟨tA,qU⟩:=i4 (n+1) hlen (by omega)
                    simp only[u2,SA,F2,dif_neg,not_false_eq_true]
                    exact⟨tA,qU.mono (λ_ h=>h) he⟩
                · rw[List.getElem?_eq_getElem Ll]at jv
                  cases jv
                  obtain⟨tA,qU⟩:=i4 q be Ll
                  refine⟨i0,n6,by grind,?_⟩
                  have e1:es[ids[q]]=es[i0]:=by congr 1
                  rw[e1]at qU
                  exact qU.mono (λ_ h=>h) he
            refine gY au cH (an.2 (some q) Ll _ _ ⟨κ,F,ba.set (s:=s.b' b _) gA a6 ⟨[.bool true,left[j].key,left[j].val],rfl,rfl,λn aA=>?_⟩⟩)
            match n,aA with
            | 0,_=>exact eQ.2 rfl
            | 1,_=>trivial
            | 2,_=>trivial
      grind
    grind
  grind
end
end Go.Fer
namespace Go.Fer
open Go.RowKit
def Cu:z9'->List Value->List Value->Prop
 | [],[],aB=>aB=[]
 | none::g,u::us,aB=>∃ rA,aB=u::rA/\Cu g us rA
 | some n::g,u::us,aB=>∃ cs rA,u=.agg cs/\cs.size=n/\(∀ c∈cs.toList,c.oneCell'=true)/\aB=cs.toList++rA/\Cu g us rA
 | _,_,_=>False
def F3(g:z9')(v:Value)(aB:List Value):Prop:=∃ us:List Value,us.length=g.length/\v=(if us.length=1 then us.getD 0 undef else .tuple us.toArray)/\Cu g us aB
structure IoSpec(P:Program)(U:dh)(k:FuncId)(c:IOC):Prop where
 enter:∀ args w,(callFunc k args).run P w=.ok (.enter k args) w
 iD:∀ (C:bQ) (a:Act) (w:World) (κ:Nat->bm) (F:Nat->Prop) (A:c.b2.ah),C.P=P->C.w0=w->C.r=none->C.dfr=[]->C.nt=c.j1->C.aL=U->ba C (c.b2.st A) a w κ F->(c.sh A).b8->
  Calls P k a.tmps w λe w'=>∃ v τ aB κ' F',e=.returned v/\(c.sh A).bC τ/\F3 c.kk v aB/\ba { C with nt:=aB.length } (c.bC.st τ) { tmps:=aB.toArray,defers:=[] } w' κ' F'
section
variable {P:Program} {H H':Nat->bu} {κ κ':Nat->bm} {F:Nat->Prop} {w:World} {g:Nat->Nat×Nat}
def o7(H H':Nat->bu)(κ κ':Nat->bm)(g:Nat->Nat×Nat):Prop:=∀ b,(H b).gen=0/\pO ⟨(g b).2,(H b).body⟩ (H' (g b).1) (κ b) (κ' (g b).1)
theorem o7.loc(h:o7 H H' κ κ' g){b off:Nat}{v:Value}(hv:bk P H κ F w (.loc b 0 off) v):bk P H' κ' F w (.loc (g b).1 (g b).2 off) v:=by
 obtain⟨h0,aO,aP⟩:=h b;refine⟨⟨aO,hv.1.2⟩,λaz hc=>?_⟩;obtain⟨c1,c2⟩:=(aP az).1 hc;rw[c2];exact hv.2 h0.symm c1
theorem o7.av(h:o7 H H' κ κ' g)(t:bH){R:Type}(z:t.cons R){v:Value}(hv:bk P H κ F w (t.av cJ z).1 v):bk P H' κ' F w (t.av g z).1 v:=by
 cases t with
 | undef=>trivial
 | val t=>exact hv
 | dy t=>exact hv
 | loc b off=>exact h.loc hv
 | own b=>
  obtain⟨h0,aO,aP⟩:=h b;refine⟨⟨aO,hv.1.2⟩,λaz hc=>?_⟩;obtain⟨c1,c2,c3,c4⟩:=(aP az).2.1 hc;rw[c2,c3];exact hv.2 h0.symm c1
 | sub b=>
  obtain⟨h0,aO,aP⟩:=h b;refine⟨⟨aO,hv.1.2⟩,λaz hc=>?_⟩;obtain⟨c1,c2,c3,c4⟩:=(aP az).2.1 hc;rw[c2,c3,c4];exact hv.2 h0.symm c1
 | fk b=>
  obtain⟨h0,aO,aP⟩:=h b;refine⟨⟨aO,hv.1.2⟩,λaz hc=>?_⟩;obtain⟨c1,c2⟩:=(aP az).2.2.1 hc;rw[c2];exact hv.2 h0.symm c1
 | jP b=>
  obtain⟨h0,aO,aP⟩:=h b;refine⟨⟨aO,hv.1.2⟩,λaz hc=>?_⟩;obtain⟨c1,c2⟩:=(aP az).2.2.2 hc;rw[c2];exact hv.2 h0.symm c1
 | cR=>exact hv
 | h' k fC=>
  obtain⟨aB,h1,h2,h3⟩:=hv;refine⟨aB,h1,h2,λi G=>?_⟩;have:=h3 i G;have e1:uW cJ fC i=.loc fC[i].1 0 fC[i].2:=by simp[uW,gM,List.getD_eq_getElem?_getD,G,cJ]
  have e2:uW g fC i=.loc (g fC[i].1).1 (g fC[i].1).2 fC[i].2:=by simp[uW,gM,List.getD_eq_getElem?_getD,G]
  rw[e1]at this;rw[e2];exact h.loc this
 | hi bs=>
  obtain⟨aB,h1,h2,h3⟩:=hv;refine⟨aB,h1,h2,λi G=>?_⟩;obtain⟨this,jv⟩:=h3 i G;refine⟨?_,jv⟩;have e1:uX cJ bs i=.own bs[i] 0:=by simp[uX,gM,List.getD_eq_getElem?_getD,G,cJ]
  have e2:uX g bs i=.own (g bs[i]).1 (g bs[i]).2:=by simp[uX,gM,List.getD_eq_getElem?_getD,G]
  rw[e1]at this;rw[e2];obtain⟨h0,aO,aP⟩:=h bs[i];refine⟨⟨aO,this.1.2⟩,λaz hc=>?_⟩;obtain⟨c1,c2,c3,c4⟩:=(aP az).2.1 hc;rw[c2,c3];exact this.2 h0.symm c1
 | iE b=>
  obtain⟨h0,aO,aP⟩:=h b;refine⟨⟨aO,hv.1.2⟩,λaz hc=>?_⟩;obtain⟨c1,c2,c3,c4⟩:=(aP az).2.1 hc;rw[c2,c3,c4];exact hv.2 h0.symm c1
 | tr aI=>trivial
 | gK=>exact hv
theorem zu(t:bH){R:Type}(z:t.cons R):(t.av g z).2=(t.av cJ z).2:=by cases t<;>rfl
theorem SB:∀ (ts:List bH) {R:Type} (z:pZ ts R),(o3 g ts z).2=(o3 cJ ts z).2
 | [],_,_=>rfl
 | t::ts,_,z=>by simp only[o3];rw[zu (g:=g) t z];exact SB ts _
theorem SD(t:bN){R:Type}(z:t.cons R):(t.body g z).2=(t.body cJ z).2:=by
 cases t with
 | cells t l=>exact SB l z
 | fN e t=>exact zu t z.2
 | _=>rfl
theorem Lm:∀ (ts:List (Nat×bH)) {R:Type} (z:n7 ts R),(d_ g ts z).2=(d_ cJ ts z).2
 | [],_,_=>rfl
 | p::ts,_,z=>by simp only[d_];rw[zu (g:=g) p.2 z];exact Lm ts _
theorem o7.avs(h:o7 H H' κ κ' g):∀ (ts:List bH) {R:Type} (z:pZ ts R) (i:Nat) {v:Value},bk P H κ F w ((o3 cJ ts z).1.getD i .undef) v->bk P H' κ' F w ((o3 g ts z).1.getD i .undef) v
 | [],_,_,i,v,_=>by simp[o3,bk]
 | t::ts,_,z,i,v,hv=>by
  simp only[o3]at hv ⊢;cases i with
  | zero=>exact h.av t z hv
  | succ i=>
   simp only[List.getD_cons_succ]at hv ⊢;rw[zu (g:=g) t z];exact h.avs ts _ i hv
theorem o7.bE(h:o7 H H' κ κ' g):∀ (ts:List (Nat×bH)) {R:Type} (z:n7 ts R) (i:Nat) {v:Value},bk P H κ F w (e5 (d_ cJ ts z).1 i) v->bk P H' κ' F w (e5 (d_ g ts z).1 i) v
 | [],_,_,i,v,_=>by simp[d_,e5,bk]
 | p::ts,_,z,i,v,hv=>by
  simp only[d_,e5]at hv ⊢;by_cases e:i=p.1
  ·rw[if_pos e]at hv ⊢;exact h.av p.2 z hv
  ·rw[if_neg e]at hv ⊢;rw[zu (g:=g) p.2 z];exact h.bE ts _ i hv
theorem SE:∀ (ts:List (Nat×bH)) {R:Type} (z:n7 ts R) (i:Nat) {l aI L n st},e5 (d_ g ts z).1 i=.tr l aI L n st->e5 (d_ cJ ts z).1 i=.tr l aI L n st
 | [],_,_,i,_,_,_,_,_,h=>by simp[d_,e5]at h
 | p::ts,_,z,i,l,aI,L,n,st,h=>by
  simp only[d_,e5]at h ⊢;by_cases e:i=p.1
  ·rw[if_pos e]at h ⊢;obtain⟨ju,t⟩:=p;cases t<;>first | exact h | cases h
  ·rw[if_neg e]at h ⊢;rw[zu (g:=g) p.2 z]at h;exact SE ts _ i h
def xf(x y:bB):Prop:=x.fm=y.fm/\x.eR=y.eR/\x.len=y.len/\x.eE=y.eE/\x.gz=y.gz/\x.mn=y.mn/\∀ k,x.bL k=y.bL k
theorem xf.refl(x:bB):xf x x:=⟨rfl,rfl,rfl,rfl,rfl,rfl,λ_=>rfl⟩
theorem ae4(t:bN){R:Type}(z:t.cons R):xf (t.body g z).1 (t.body cJ z).1:=by
 cases t with
 | cells t l=>exact⟨rfl,rfl,rfl,rfl,rfl,rfl,λ_=>rfl⟩
 | fN e t=>exact⟨rfl,rfl,rfl,rfl,rfl,rfl,λ_=>rfl⟩
 | _=>exact xf.refl _
theorem ae5:∀ (t:ae) (x:t.ah) (av:aD),av∈nl t x->∀ {v:Value},bk P H κ F w av v->bk P H' κ' F w av v:=by
  intro t;induction t with
  | cy=>intro x av h;cases h
  | st t aG=>intro x av h;exact aG x av h
  | ax a b fa ei=>
   intro x av h;rcases List.mem_append.1 h with h | h
   ·exact fa _ av h
   ·exact ei _ av h
  | array n e aG=>
   intro x av h;simp only[nl,List.mem_flatMap]at h;grind
  | _=>
   intro x av h v hv;simp only[nl,List.mem_singleton]at h;subst h;exact hv
theorem o7.body(h:o7 H H' κ κ' g)(t:bN){R:Type}(z:t.cons R){k:bm}(ab:jm P H κ F w k (t.body cJ z).1):jm P H' κ' F w k (t.body g z).1:=by
 cases t with
 | cells t l=>
  obtain⟨cs,T,h1,h2,h3⟩:=ab;exact⟨cs,T,h1,h2,λi G=>⟨h.avs l z i (h3 i G).1,(h3 i G).2⟩⟩
 | fI t=>
  obtain⟨cs,T,h1,h2,h3⟩:=ab;refine⟨cs,T,h1,h2,λi G=>⟨?_,(h3 i G).2⟩⟩;have:=(h3 i G).1;unfold gM at this ⊢;rw[List.getD_eq_getElem?_getD]at this ⊢;cases ai:(nl t z.1)[i]? with
  | none=>trivial
  | some av=>
   rw[ai]at this;simp only[Option.getD_some]at this ⊢;have jz:=List.mem_of_getElem? ai;exact ae5 t z.1 av jz this
 | a7 e=>exact ab
 | hf e=>exact ab
 | mp k v=>exact ab
 | iU k v=>exact ab
 | gi t=>exact ab
 | b5 k v=>exact ab
 | fN e t=>
  obtain⟨h0,cs,T,h1,h2,h3,aR,bw,cY,fK,iS⟩:=ab;exact⟨h0,cs,T,h1,h2,h3,aR,bw,cY,h.av t z.2 fK,iS⟩
theorem SF{l:List (Nat×bN)}{x y:o2 l}(h:x=y)(g:Nat->Nat×Nat)(b:Nat):et (gP g l x) b=et (gP g l y) b:=by rw[h]
theorem SG:∀ (l:List (Nat×bN)) (x:o2 l) (b:Nat),xf (et (gP g l x) b).body (et (gP cJ l x) b).body
 | [],_,_=>xf.refl _
 | p::l,x,b=>by
  simp only[gP,et];split
  ·exact ae4 p.2 x
  ·rw[SD (g:=g) p.2 x];exact SG l _ b
theorem o7.bn(h:o7 H H' κ κ' g):∀ (l:List (Nat×bN)) (x:o2 l) (b:Nat) {k:bm},jm P H κ F w k (et (gP cJ l x) b).body->jm P H' κ' F w k (et (gP g l x) b).body
 | [],_,_,k,_=>trivial
 | p::l,x,b,k,ab=>by
  simp only[gP,et]at ab ⊢;split
  ·rename_i e;rw[if_pos e]at ab;exact h.body p.2 x ab
  ·rename_i e;rw[if_neg e]at ab;rw[SD (g:=g) p.2 x];exact h.bn l _ b ab
theorem Ln:∀ (l:List (Nat×bB)) (b:Nat),(et l b).gen=0
 | [],_=>rfl
 | p::l,b=>by
  simp only[et];split
  ·rfl
  ·exact Ln l b
end
end Go.Fer
namespace Go.Fer
open Go.RowKit
theorem F4{aj:Type}{k:aj->Nat}:∀ {l:List aj},(l.map k).Nodup->∀ {p:aj},p∈l->l.find? (λq=>k q == k p)=some p
 | [],_,_,h=>by cases h
 | a::l,aA,p,h=>by
  simp only[List.map_cons,List.nodup_cons]at aA;by_cases e:k a=k p
  ·grind
  ·rw[List.find?_cons_of_neg (by grind)];rcases List.mem_cons.1 h with rfl | h
   ·omega
   ·exact F4 aA.2 h
theorem Cv{aj:Type}{k:aj->Nat}{l:List aj}(aA:(l.map k).Nodup){p q:aj}(hp:p∈l)(be:q∈l)(e:k p=k q):p=q:=by
 have h1:=F4 aA hp;rw[e,F4 aA be]at h1;grind
theorem SH:∀ {l:z6'},(l.map (·.1)).Nodup->∀ {p},p∈l->hE l p.1=p.2
 | [],_,_,h=>by cases h
 | a::l,aA,p,h=>by
  simp only[List.map_cons,List.nodup_cons]at aA;simp only[hE];by_cases e:p.1=a.1
  ·grind
  ·rw[if_neg e];rcases List.mem_cons.1 h with rfl | h
   ·omega
   ·exact SH aA.2 h
theorem SI:∀ {l:z6'} {b:Nat},b ∉ l.map (·.1)->hE l b=(mE,0)
 | [],_,_=>rfl
 | a::l,b,h=>by
  simp only[List.map_cons,List.mem_cons,not_or]at h;simp only[hE];rw[if_neg h.1];exact SI h.2
theorem SJ(s:ay)(d:Nat)(f:Nat->Nat)(ins:List Nat):∀ (l:List (Nat×bN)) (j:Nat),(rU s d f ins l j).map (·.1)=l.map (·.1)
 | [],_=>rfl
 | p::l,j=>by
  simp only[rU,List.map_cons,SJ s d f ins l (j+1)];grind
theorem SK(s:ay)(d:Nat)(f:Nat->Nat)(ins:List Nat):∀ (l:List (Nat×bN)) (j:Nat) {p:Nat×(Nat×Nat)},p∈rU s d f ins l j->
  (p.1∈ins/\p.2.1=f p.1/\∃ t,(p.1,t)∈l/\((p.2.2=(s.ad (f p.1)).gen/\((∀ (g:Nat->Nat×Nat) (R:Type) (z:t.cons R),(t.body g z).1.eR=false)\/(wz<=p.1/\∃ e,t=.a7 e)))\/p.2.2=(s.ad (f p.1)).gen+1))\/
  (p.1 ∉ ins/\p.2.2=(s.ad p.2.1).gen+1/\50000+10*d+j<=p.2.1/\p.2.1<50000+10*d+j+l.length)
 | [],_,p,h=>by cases h
 | q::l,j,p,h=>by
  simp only[rU,List.mem_cons]at h;rcases h with h | h
  ·by_cases be:ins.contains q.1=true
   ·rw[if_pos be]at h;subst h;refine .inl ⟨by grind,rfl,q.2,by simp,?_⟩;obtain⟨c_,t⟩:=q;cases t with
    | a7 e=>
     grind
    | _=>first | exact .inr rfl | exact .inl ⟨rfl,.inl λ_ _ _=>rfl⟩
   grind
  ·rcases SK s d f ins l (j+1) h with⟨h1,h2,t,h3,aR⟩ | ⟨h1,h2,h3,aR⟩
   ·exact .inl ⟨h1,h2,t,List.mem_cons_of_mem _ h3,aR⟩
   ·exact .inr ⟨h1,h2,by omega,by simp only[List.length_cons];omega⟩
theorem F5(g:Nat->Nat×Nat):∀ (l:List (Nat×bN)) (x:o2 l) (b:Nat),(et (gP g l x) b=⟨0,.fb⟩/\b ∉ l.map (·.1))\/∃ q∈l,q.1=b/\∃ (R:Type) (z:q.2.cons R),et (gP g l x) b=⟨0,(q.2.body g z).1⟩
 | [],_,_=>.inl ⟨rfl,by simp⟩
 | p::l,x,b=>by
  simp only[gP,et];by_cases e:b=p.1
  ·grind
  ·rw[if_neg e];rcases F5 g l (p.2.body g x).2 b with⟨h1,h2⟩ | ⟨q,h1,h2⟩
   ·exact .inl ⟨h1,by rw[List.map_cons,List.mem_cons,not_or];exact⟨e,h2⟩⟩
   ·exact .inr ⟨q,List.mem_cons_of_mem _ h1,h2⟩
theorem ae6{t u:bN}(h:t.Fv u=true){g g':Nat->Nat×Nat}{R Lo:Type}(z:t.cons R)(lZ:u.cons Lo) :
  ((t.body g z).1.fm=true->(u.body g' lZ).1.fm=true/\∀ k,(u.body g' lZ).1.bL k=true)/\((t.body g z).1.gz=true->(u.body g' lZ).1.gz=true/\∀ k,(u.body g' lZ).1.bL k=true)/\(t.body g z).1.mn=false:=by
 cases t<;>cases u<;>first
  | exact Bool.noConfusion h
  | exact⟨λ_=>⟨rfl,λ_=>rfl⟩,λh=>Bool.noConfusion h,rfl⟩
  | exact⟨λh=>Bool.noConfusion h,λ_=>⟨rfl,λ_=>rfl⟩,rfl⟩
  | exact⟨λh=>Bool.noConfusion h,λh=>Bool.noConfusion h,rfl⟩
theorem xg:∀ (ts:List (Nat×bH)) {R:Type} (g:Nat->Nat×Nat) (z:n7 ts R) (i:Nat),ts.any (λp=>p.1 == i)=false->e5 (d_ g ts z).1 i=.undef
 | [],_,_,_,_,_=>rfl
 | p::ts,_,g,z,i,h=>by
  simp only[List.any_cons,Bool.or_eq_false_iff,beq_eq_false_iff_ne]at h;simp only[d_,e5];rw[if_neg (Ne.symm h.1)];exact xg ts g _ i h.2
theorem Lp{P:Program}{H:Nat->bu}{κ:Nat->bm}{F:Nat->Prop}{w:World}:∀ (g:z9') {us aB:List Value},Cu g us aB->∀ (c:Nat->aD) (i:Nat),(∀ j,j<aB.length->bk P H κ F w (c (i+j)) (aB.getD j undef))->
  (o4 g c i).length=g.length/\us.length=g.length/\∀ j,j<g.length->bk P H κ F w ((o4 g c i).getD j .undef) (us.getD j undef)
 | [],[],aB,_,_,_,_=>⟨rfl,rfl,λj aC=>by cases aC⟩
 | [],_::_,_,h,_,_,_=>h.elim
 | none::g,[],_,h,_,_,_=>h.elim
 | some n::g,[],_,h,_,_,_=>h.elim
 | none::g,u::us,aB,h,c,i,hv=>by
  obtain⟨rA,rfl,h⟩:=h;obtain⟨h1,h2,h3⟩:=Lp g h c (i+1) λj aC=>by
   have:=hv (j+1) (by grind);rw[show i+(j+1)=i+1+j by omega]at this;simpa using this
  refine⟨by simp[o4,h1],by grind,λj aC=>?_⟩;cases j with
  | zero=>simpa [o4]using hv 0 (by simp)
  | succ j=>simpa [o4]using h3 j (by grind)
 | some n::g,u::us,aB,h,c,i,hv=>by
  obtain⟨cs,rA,rfl,aA,nu,rfl,h⟩:=h;obtain⟨h1,h2,h3⟩:=Lp g h c (i+n) λj aC=>by
   have:=hv (n+j) (by grind);rw[show i+(n+j)=i+n+j by omega]at this;have e:(cs.toList++rA).getD (n+j) undef=rA.getD j undef:=by
    grind
   rw[e]at this;omega
  refine⟨by simp[o4,h1],by grind,λj aC=>?_⟩;cases j with
  | zero=>
   simp only[o4,List.getD_cons_zero];refine⟨cs.toList,by simp,by omega,λj aC=>?_⟩;grind
  | succ j=>simpa [o4]using h3 j (by grind)
theorem ae7{P:Program}{H:Nat->bu}{κ:Nat->bm}{F:Nat->Prop}{w:World}{g:z9'}{v:Value}{aB:List Value}(h:F3 g v aB){c:Nat->aD}(hv:∀ j,bk P H κ F w (c j) (aB.getD j undef)) :
  bk P H κ F w (KY (o4 g c 0)) v:=by
 obtain⟨us,h1,h2,h3⟩:=h;obtain⟨aO,_,bA⟩:=Lp g h3 c 0 (λj _=>by simpa using hv j);subst h2;generalize o4 g c 0=l at aO bA;unfold KY;split
 ·grind
 ·rename_i ai;have dZ:us.length≠1:=λe=>by
   have:l.length=1:=by omega
   match l,this with
   | [x],_=>grind
  rw[if_neg dZ];refine⟨us,rfl,by omega,λi G=>?_⟩;unfold gM;grind
section
variable {C:bQ} {s:ay} {a:Act} {w:World} {κ:Nat->bm} {F:Nat->Prop}
theorem ba.args(V:ba C s a w κ F){avs:List aD}{us:List Value}(aA:us.length<=eu)(ai:avs.length=us.length)(hv:∀ i,i<us.length->bk C.P s.ad κ F w (avs.getD i .undef) (us.getD i undef)) :
    ba { C with nt:=us.length,dfr:=[],r:=none } (rT s avs) { tmps:=us.toArray,defers:=[] } w κ F:=
  { V with
    di:=by simp,dfr:=rfl,fO:=aA
    bE:=λi=>by
      show bk C.P s.ad κ F w (if i=TRS then s.aw TRS else if i<avs.length then avs.getD i .undef else .undef) (us.toArray.getD i undef);split
      · rename_i e
        subst e
        have h1:=V.bE TRS
        have h2:a.tmps.getD TRS undef=undef:=by
          have:=V.di;have:=V.fO;rw[Array.getD_eq_getD_getElem?,Array.getElem?_eq_none (by unfold TRS eu at *;omega)];rfl
        have h3:us.toArray.getD TRS undef=undef:=by
          rw[Array.getD_eq_getD_getElem?,Array.getElem?_eq_none (by simp only[List.size_toArray];unfold TRS eu at *;omega)];rfl
        grind
      · split
        · simp_all
        · trivial
    bn:=V.bn
    pro:=λl aI L n st e=>V.pro l aI L n st (by simpa [rT]using e) }
def qV(C:bQ)(w:World)(F':Nat->Prop)(n:Nat)(own Y:Nat->Prop)(hX:(Nat->Option Nat)×(Nat->Option (bm×Nat))):bQ:=
 { C with w0:=w,F0:=F',K0:=λr=>r<w.heap.size/\¬own r/\¬Y r,nt:=n,dfr:=[],r:=none,hX:=hX.1,Jw:=hX.2 }
structure Cw(C:bQ)(s:ay)(w:World)(κ:Nat->bm)(F:Nat->Prop)(sl:aD)(Y:Nat->Prop):Prop where
 pro:∀ l aI L n st,sl=.tr l aI L n st->(∃ I,C.pr=⟨l,aI,L,I⟩)/\C.pr.Ok C.P/\C.pr.at aI n st F Y w
 low:∀ r,Y r->r<w.heap.size/\¬F r/\¬C.K0 r
 own:∀ b,(s.ad b).body.bL (κ b)=true->¬Y (κ b).ad
 non:sl=.undef->∀ r,¬Y r
theorem ba.ae8(V:ba C s a w κ F){sl:aD}(h:∀ l aI L n st,sl=.tr l aI L n st->s.aw TRS=.tr l aI L n st):∃ Y,Cw C s w κ F sl Y:=by
 by_cases hs:∃ l aI L n st,sl=.tr l aI L n st
 ·obtain⟨l,aI,L,n,st,e⟩:=hs;obtain⟨h1,h2,Y,h3,aR,bw⟩:=V.pro l aI L n st (h _ _ _ _ _ e);refine⟨Y,⟨λl' kj L' iH h7 aS=>?_,h3,aR,λaS=>?_⟩⟩
  ·rw[e]at aS;cases aS;exact⟨h1,h2,bw⟩
  ·rw[e]at aS;cases aS
 ·exact⟨λ_=>False,⟨λl aI L n st e=>(hs ⟨l,aI,L,n,st,e⟩).elim,λ_ h=>h.elim,λ_ _ h=>h,λ_ _ h=>h⟩⟩
theorem ae9{C1:bQ}{ed:ay}{bT:Act}{F':Nat->Prop}{fl:List Nat}{f:Nat->Nat}{sh:dj}{A:sh.ah}{Y:Nat->Prop}{ids:List Nat}(i':C1.P=C.P)(ta:C1.aL=C.aL)(qW:C1.dfr=[])
  (gn:ba C1 (ed.cb fl) bT w κ F') (au:FZ C1 ed bT w κ f F' sh A fl) (ik:Cw C (ed.cb fl) w κ F' ((sh.st A).aw TRS) Y)
  (ar:∀ b aZ,b∈sh.n8->aZ∈sh.n8->f b=f aZ->b=aZ) (hid:∀ b∈ids,eu<=b) :
  ba (qV C w F' C1.nt (λr=>∃ b,((sh.st A).ad b).body.bL (κ (f b))=true/\(κ (f b)).ad=r) Y (λb=>if b∈ids then some (κ (f b)).ad else none,λb=>if b∈ids/\wz<=b then some (κ (f b),((sh.st A).ad b).body.len) else none)) (sh.st A) bT w (λb=>κ (f b)) F' where
 di:=gn.di
 dfr:=gn.dfr.trans qW
 bE:=λi=>by have:=au.bE i;rw[i']at this;exact this
 bn:=λb=>by have:=au.bn b;rw[i']at this;exact this
 own:=λb ab=>by
  have h1:=gn.own (f b) (au.xd ab);exact⟨h1.1,h1.2.1,λh=>h.2.1 ⟨b,ab,rfl⟩⟩
 inj:=λb aZ ab cS e=>ar b aZ (au.bL b ab).2.2 (au.bL aZ cS).2.2 (gn.inj _ _ (au.xd ab) (au.xd cS) e)
 cL:=gn.cL
 gL:=λr V=>.inl V
 hy:=λr V=>V
 gX:=λr V=>V.1
 eb:=λ_ _=>rfl
 size:=Nat.le_refl _
 dQ:=cM.refl _
 fO:=gn.fO
 j9:=λb r h=>by
  simp only[qV]at h;grind
 jn:=λb r h _=>by
  simp only[qV]at h;grind
 jQ:=λb k h=>by
  simp only[qV]at h;grind
 j_:=λb k h _ _=>by
  simp only[qV]at h;grind
 pro:=λl aI L n st e=>by
  obtain⟨h1,h2,h3⟩:=ik.pro l aI L n st e;exact⟨h1,h2,Y,λr V=>⟨(ik.low r V).1,(ik.low r V).2.1,λh=>h.2.2 V⟩,λb ab=>ik.own _ (au.xd ab),h3⟩
 jo:=by have:=gn.jo;rw[i',ta]at this;exact this
 ib:=by have:=gn.ib;rw[i']at this;exact this
structure SL(s:ay)(κ:Nat->bm)(hX:(Nat->Option Nat)×(Nat->Option (bm×Nat)))(bs:List (Nat×bB))(bV:z6'):Prop where
 dG:(bV.map (·.1)).Nodup
 dJ:(bV.map (·.2.1)).Nodup
 fb:mE ∉ bV.map (·.2.1)
 ae_:(s.ad mE).body=.fb
 SM:∀ p∈bV,(p.2.1<eu/\(s.ad p.2.1).gen<p.2.2)\/
  (((et bs p.1).body.fm=true->(s.ad p.2.1).body.fm=true/\hX.1 p.1=some (κ p.2.1).ad)/\((et bs p.1).body.gz=true->(s.ad p.2.1).body.gz=true/\hX.1 p.1=some (κ p.2.1).ad)/\(et bs p.1).body.mn=false/\
   ((p.2.2=(s.ad p.2.1).gen/\((et bs p.1).body.eR=true->(s.ad p.2.1).body.eR=true/\(et bs p.1).body.eE=(s.ad p.2.1).body.eE/\hX.2 p.1=some (κ p.2.1,(s.ad p.2.1).body.len)))\/p.2.2=(s.ad p.2.1).gen+1))
theorem ae'{F' own Y:Nat->Prop}{sl:aD}{n:Nat}{hX:(Nat->Option Nat)×(Nat->Option (bm×Nat))}{ins:List Nat}{bC:dj}{τ:bC.ah}{aB:List Value}{w':World}{mF:Nat->bm}{dK:Nat->Prop}
    (V:ba C s a w κ F') (ik:Cw C s w κ F' sl Y) (fP:∀ r,own r->∃ b,b∈ins/\(s.ad b).body.bL (κ b)=true/\(κ b).ad=r)
    (hk:ba { qV C w F' n own Y hX with nt:=aB.length } (bC.st τ) { tmps:=aB.toArray,defers:=[] } w' mF dK)
    {bV:z6'} (fQ:SL s κ hX (gP (hE bV) bC.bn (d_ (hE bV) bC.bE τ).2) bV)
    {H':Nat->bu} {κn:Nat->bm} (zv:∀ p∈bV,H' p.2.1=⟨p.2.2,(et (gP (hE bV) bC.bn (d_ (hE bV) bC.bE τ).2) p.1).body⟩/\κn p.2.1=mF p.1)
    (Cx:∀ b,b ∉ bV.map (·.2.1)->κn b=κ b/\(b∈ins->H' b=⟨(s.ad b).gen+1,.fb⟩)/\(b ∉ ins->H' b=s.ad b))
    {X:aD} (zw:X=e5 (d_ (hE bV) bC.bE τ).1 TRS\/X=.undef\/(X=s.aw TRS/\sl=.undef)) :
    ba C ⟨λi=>if i=TRS then X else s.aw i,H'⟩ a w' κn dK/\
    ∀ i,bk C.P H' κn dK w' (e5 (d_ (hE bV) bC.bE τ).1 i) (aB.toArray.getD i undef):=by
  generalize Cy:gP (hE bV) bC.bn (d_ (hE bV) bC.bE τ).2=bs at fQ zv;have qL:∀ b,xf (et bs b).body ((bC.st τ).ad b).body:=λb=>by
    rw[<-Cy,SF (Lm bC.bE τ)];exact SG bC.bn (d_ cJ bC.bE τ).2 b
  have Cz:o7 (bC.st τ).ad H' mF κn (hE bV):=by
    intro b;refine⟨Ln _ b,?_⟩;by_cases ab:b∈bV.map (·.1)
    · obtain⟨p,hp,rfl⟩:=List.mem_map.1 ab
      rw[SH fQ.dG hp]
      obtain⟨h1,h2⟩:=zv p hp
      rw[h1,h2]
      obtain⟨aO,aP,bA,ga,oY,xh,_⟩:=qL p.1
      exact⟨Nat.le_refl _,λ_=>⟨λh=>⟨aO ▸ h,rfl⟩,λh=>⟨aP ▸ h,rfl,bA,ga⟩,λh=>⟨oY ▸ h,rfl⟩,λh=>⟨xh ▸ h,rfl⟩⟩⟩
    · rw[SI ab]
      obtain⟨_,h2,h3⟩:=Cx mE fQ.fb
      have au:(H' mE).body=.fb:=by
        by_cases G:mE∈ins
        · grind
        · rw[h3 G];exact fQ.ae_
      refine⟨Nat.zero_le _,λ_=>?_⟩
      show ((H' mE).body.fm=true->_)/\((H' mE).body.eR=true->_)/\((H' mE).body.gz=true->_)/\((H' mE).body.mn=true->_)
      rw[au]
      exact⟨λh=>(by cases h),λh=>(by cases h),λh=>(by cases h),λh=>(by cases h)⟩
  have F6:∀ b,(∃ p∈bV,p.2.1=b)\/b ∉ bV.map (·.2.1):=λb=>by
    grind
  have F7:∀ p∈bV,∀ r,hX.1 p.1=some r->(et bs p.1).body.fm=true\/(et bs p.1).body.gz=true->(mF p.1).ad=r:=λp hp r V h=>by
    obtain⟨aO,_,_,_,oY,_⟩:=qL p.1;exact hk.jn p.1 r V (h.imp (λh=>aO ▸ h) (λh=>oY ▸ h))
  have afa:∀ p∈bV,∀ k,hX.2 p.1=some k->(et bs p.1).body.eR=true->mF p.1=k.1/\(et bs p.1).body.len=k.2:=λp hp k ao h=>by
    obtain⟨_,aP,bA,_⟩:=qL p.1;obtain⟨h1,h2⟩:=hk.j_ p.1 k ao (Ln _ _) (aP ▸ h);grind
  have ai:eZ s.ad κ H' κn:=by
    rw[Bq];intro b;rcases F6 b with⟨p,hp,rfl⟩ | ab
    · obtain⟨h1,h2⟩:=zv p hp
      rw[h1,h2]
      rcases fQ.SM p hp with⟨_,h⟩ | ⟨hc,an,hit,h⟩
      · exact⟨Nat.le_of_lt h,λe=>(by grind)⟩
      · rcases h with⟨h,eL⟩ | h
        · refine⟨Nat.le_of_eq h.symm,λ_=>⟨λh=>⟨(hc h).1,F7 p hp _ (hc h).2 (.inl h)⟩,λh=>?_,λh=>⟨(an h).1,F7 p hp _ (an h).2 (.inr h)⟩,λh=>?_⟩⟩
          · have h:(et bs p.1).body.eR=true:=h
            obtain⟨bT,a2,a3⟩:=eL h
            obtain⟨dd,dV⟩:=afa p hp _ a3 h
            exact⟨bT,dd,dV,a2⟩
          · have h:(et bs p.1).body.mn=true:=h
            rw[hit]at h;cases h
        · exact⟨by grind,λe=>(by grind)⟩
    · obtain⟨h1,h2,h3⟩:=Cx b ab
      rw[h1]
      by_cases G:b∈ins
      · rw[h2 G]
        exact⟨Nat.le_succ _,λe=>(by grind)⟩
      · rw[h3 G];exact pO.refl _ _
  have zx:w.heap.size<=w'.heap.size:=hk.size;have bb:∀ r,F' r->dK r:=hk.hy;have iu:∀ r,r<w.heap.size->¬own r->¬Y r->w'.heap[r]?=w.heap[r]?:=λr h1 h2 h3=>hk.eb r ⟨h1,h2,h3⟩;have u3:∀ r,C.K0 r->r<w.heap.size:=λr h=>Nat.lt_of_lt_of_le (V.gX r h) V.size;have Lq:∀ r,own r->¬C.K0 r/\¬F' r:=λr h=>by
    obtain⟨b,_,h1,rfl⟩:=fP r h;exact⟨(V.own b h1).2.2,(V.own b h1).2.1⟩
  have SN:∀ r,¬(r<w.heap.size/\¬own r/\¬Y r)->¬C.K0 r:=λr h ao=>h ⟨u3 r ao,λag=>(Lq r ag).1 ao,λaM=>(ik.low r aM).2.2 ao⟩;have p3:cG F' w w':=⟨zx,λr h=>iu r (V.cL r h) (λag=>(Lq r ag).2 h) λaM=>(ik.low r aM).2.1 h⟩
  have za:∀ r,dK r->F' r\/¬(r<w.heap.size/\¬own r/\¬Y r):=hk.gL;have r1:∀ b,b ∉ ins->(s.ad b).body.bL (κ b)=true->(κ b).ad<w.heap.size/\¬own (κ b).ad/\¬Y (κ b).ad:=λb ab ag=>by
    refine⟨(V.own b ag).1,λh=>?_,ik.own b ag⟩;obtain⟨aZ,h1,h2,h3⟩:=fP _ h;exact ab (V.inj aZ b h2 ag h3 ▸ h1)
  have yG:∀ b,(H' b).body.bL (κn b)=true->(∃ p∈bV,p.2.1=b/\((bC.st τ).ad p.1).body.bL (mF p.1)=true/\κn b=mF p.1)\/(b ∉ bV.map (·.2.1)/\b ∉ ins/\κn b=κ b/\(s.ad b).body.bL (κ b)=true):=λb ab=>by
    rcases F6 b with⟨p,hp,rfl⟩ | aA
    · obtain⟨h1,h2⟩:=zv p hp
      rw[h1,h2]at ab
      exact .inl ⟨p,hp,rfl,by rw[<-(qL p.1).2.2.2.2.2.2];exact ab,h2⟩
    · obtain⟨h1,h2,h3⟩:=Cx b aA
      by_cases G:b∈ins
      · rw[h2 G]at ab;cases ab
      grind
  have hsl:∀ i,bk C.P H' κn dK w' (e5 (d_ (hE bV) bC.bE τ).1 i) (aB.toArray.getD i undef):=λi=>Cz.bE bC.bE τ i (hk.bE i);refine⟨{ di := V.di, dfr := V.dfr, bE := λi => ?_, bn := λb => ?_, own := λb ab => ?_, inj := λb aZ ab cS e => ?_, cL := hk.cL, gL := λr h => ?_, hy := λr h => bb r (V.hy r h), gX := V.gX, eb := λr h => ?_,size:=Nat.le_trans V.size zx,dQ:=V.dQ.trans hk.dQ,fO:=V.fO,j9:=V.j9,jn:=λb r h hc=>?_,jQ:=V.jQ,j_:=λb k h h0 aU=>?_,pro:=λl aI L m st e=>?_,jo:=V.jo,ib:=hk.ib },hsl⟩
  · show bk C.P H' κn dK w' (if i=TRS then X else s.aw i) _
    split
    · rename_i e
      subst e
      have hu:a.tmps.getD TRS undef=undef:=by
        have:=V.di;have:=V.fO;rw[Array.getD_eq_getD_getElem?,Array.getElem?_eq_none (by unfold TRS eu at *;omega)];rfl
      rcases zw with rfl | rfl | ⟨rfl,_⟩
      · have h:=hsl TRS
        have Lr:aB.toArray.getD TRS undef=undef:=by
          have:aB.length<=eu:=hk.fO;rw[Array.getD_eq_getD_getElem?,Array.getElem?_eq_none (by simp only[List.size_toArray];unfold TRS eu at *;omega)];rfl
        grind
      · trivial
      · exact bk.later ai bb p3 (V.bE TRS)
    · exact bk.later ai bb p3 (V.bE i)
  · show jm C.P H' κn dK w' (κn b) (H' b).body
    rcases F6 b with⟨p,hp,rfl⟩ | aA
    · obtain⟨h1,h2⟩:=zv p hp
      rw[h1,h2,<-Cy,SF (Lm bC.bE τ)]
      exact Cz.bn bC.bn (d_ cJ bC.bE τ).2 p.1 (hk.bn p.1)
    · obtain⟨h1,h2,h3⟩:=Cx b aA
      by_cases G:b∈ins
      · rw[h2 G];trivial
      · have:=cg.kP (H':=H') (κ':=κn) (V.bn b) ai bb p3 (by grind) h1 λag=>iu _ (r1 b G ag).1 (r1 b G ag).2.1 (r1 b G ag).2.2
        exact this
  · rcases yG b ab with⟨p,hp,_,h1,h2⟩ | ⟨_,h1,h2,h3⟩
    · have:=hk.own p.1 h1
      rw[h2]
      exact⟨this.1,this.2.1,SN _ this.2.2⟩
    · rw[h2]
      have aR:=V.own b h3
      grind
  · rcases yG b ab with⟨p,hp,rfl,h1,h2⟩ | ⟨_,h1,h2,h3⟩<;>rcases yG aZ cS with⟨p',BH,rfl,yY,wL⟩ | ⟨_,yY,wL,SO⟩
    · rw[h2,wL]at e
      have:=hk.inj _ _ h1 yY e
      rw[Cv fQ.dG hp BH this]
    · rw[h2,wL]at e
      exact ((hk.own p.1 h1).2.2 (e ▸ r1 aZ yY SO)).elim
    · rw[h2,wL]at e
      exact ((hk.own p'.1 yY).2.2 (e ▸ r1 b h1 h3)).elim
    · rw[h2,wL]at e
      exact V.inj b aZ h3 SO e
  · rcases za r h with h | h
    · exact V.gL r h
    grind
  · exact (iu r (u3 r h) (λag=>(Lq r ag).1 h) λaM=>(ik.low r aM).2.2 h).trans (V.eb r h)
  · have aH:=V.j9 b r h
    rcases F6 b with⟨p,hp,rfl⟩ | aA
    · obtain⟨h1,h2⟩:=zv p hp
      simp only[h1]at hc
      rcases fQ.SM p hp with⟨h3,_⟩ | ⟨aO,aP,_⟩
      · omega
      · rw[h2]
        rcases hc with hc | hc
        · rw[F7 p hp _ (aO hc).2 (.inl hc)]
          exact V.jn _ r h (.inl (aO hc).1)
        · rw[F7 p hp _ (aP hc).2 (.inr hc)]
          exact V.jn _ r h (.inr (aP hc).1)
    · obtain⟨h1,h2,h3⟩:=Cx b aA
      by_cases G:b∈ins
      · simp only[h2 G]at hc
        rcases hc with hc | hc<;>cases hc
      · simp only[h3 G]at hc
        rw[h1]
        exact V.jn b r h hc
  · have aH:=V.jQ b k h
    have h0:(H' b).gen=0:=h0
    have aU:(H' b).body.eR=true:=aU
    show κn b=k.1/\(H' b).body.len=k.2
    obtain⟨g1,dR⟩:=ai b
    obtain⟨bT,a2,a3,_⟩:=(dR (by omega)).2.1 aU
    obtain⟨aO,aP⟩:=V.j_ b k h (by omega) bT
    grind
  · have e:X=.tr l aI L m st:=by grind
    rcases zw with rfl | rfl | ⟨rfl,afb⟩
    · obtain⟨h1,h2,fZ,h3,aR,bw⟩:=hk.pro l aI L m st (SE bC.bE τ TRS e)
      refine⟨h1,h2,fZ,λr aX=>⟨(h3 r aX).1,(h3 r aX).2.1,SN r (h3 r aX).2.2⟩,λb ab aM=>?_,bw⟩
      rcases yG b ab with⟨p,hp,rfl,aO,aP⟩ | ⟨_,aO,aP,bA⟩
      · grind
      · rw[aP]at aM;exact (h3 _ aM).2.2 (r1 b aO bA)
    · cases e
    · obtain⟨h1,h2,fZ,h3,aR,bw⟩:=V.pro l aI L m st e
      have SP:∀ r,fZ r->r<w.heap.size/\¬own r/\¬Y r:=λr aM=>⟨(h3 r aM).1,λag=>by
        grind,ik.non afb r⟩
      have Br:∀ r,dK r->¬fZ r:=λr ar aM=>(za r ar).elim (h3 r aM).2.1 λh=>h (SP r aM)
      refine⟨h1,h2,fZ,λr aM=>⟨Nat.lt_of_lt_of_le (h3 r aM).1 zx,λar=>Br r ar aM,(h3 r aM).2.2⟩,λb ab aM=>?_,h2.Jv bw bb (λr ar=>?_) zx hk.dQ hk.cL Br⟩
      · rcases yG b ab with⟨p,hp,rfl,aO,aP⟩ | ⟨_,aO,aP,bA⟩
        · rw[aP]at aM;exact (hk.own _ aO).2.2 (SP _ aM)
        grind
      · rcases ar with ar | ar
        · exact p3.2 r ar
        grind
end
end Go.Fer
namespace Go.Fer
open Go.RowKit
section
variable {C:bQ} {T:Nat->ae} {o:Oper} {s:ay}
theorem IoSpec.bl{P:Program}{U:dh}{k:FuncId}{c:IOC}(ar:IoSpec P U k c){C:bQ}{a:Act}{w:World}{κ:Nat->bm}{F:Nat->Prop}{A:c.b2.ah}(h:ba C (c.b2.st A) a w κ F)(h1:C.P=P)(h2:C.w0=w)(h3:C.r=none)(aR:C.dfr=[])(bw:C.nt=c.j1)(cY:C.aL=U)(hs:(c.sh A).b8) :
  Calls P k a.tmps w λe w'=>∃ v τ aB κ' F',e=.returned v/\(c.sh A).bC τ/\F3 c.kk v aB/\ba { C with nt:=aB.length } (c.bC.st τ) { tmps:=aB.toArray,defers:=[] } w' κ' F':=
 ar.iD C a w κ F A h1 h2 h3 aR bw cY h hs
theorem SQ{C:bQ}{s:ay}{Ls:Nat->aD}{a bT:Act}{w:World}{κ:Nat->bm}{F:Nat->Prop}{dG:Nat}{c:IOC}{f:Nat->Nat}{A:c.b2.ah}{fl:List Nat}{d m:Nat}{bV:z6'}
    (V:ba C s a w κ F) (gn:ba { C with nt:=dG,dfr:=[],r:=none } ⟨Ls,s.ad⟩ bT w κ F) (p4:Ls TRS=s.aw TRS)
    (nC:c.b2.zi f ⟨Ls,s.ad⟩=some (A,fl)) (SR:rU (s.cb fl) d f c.b2.n8 c.bC.bn 0=bV) (dF:Ck c f (s.cb fl) bV d m=true) :
    ∃ (F' own Y:Nat->Prop) (hX:(Nat->Option Nat)×(Nat->Option (bm×Nat))),(∀ r,F r->F' r)/\ba C (s.cb fl) a w κ F'/\(∀ r,own r->∃ b,((s.cb fl).ad b).body.bL (κ b)=true/\(κ b).ad=r)/\Cw C (s.cb fl) w κ F' ((c.b2.st A).aw TRS) Y/\(∀ l aI L n st,(c.b2.st A).aw TRS=.tr l aI L n st->s.aw TRS=.tr l aI L n st)/\
      ba (qV C w F' dG own Y hX) (c.b2.st A) bT w (λb=>κ (f b)) F'/\
      ∀ Lt hg,ba { C with w0:=Lt } (s.cb fl) a hg κ F'->Cw C (s.cb fl) hg κ F' ((c.b2.st A).aw TRS) Y->∀ (τ:c.bC.ah) (aB:List Value) (w':World) (mF:Nat->bm) (dK:Nat->Prop),ba { qV C hg F' dG own Y hX with nt:=aB.length } (c.bC.st τ) { tmps:=aB.toArray,defers:=[] } w' mF dK->
        ∃ κn,ba { C with w0:=Lt } (w5 (s.cb fl) c f bV τ) a w' κn dK/\∀ i,bk C.P (w5 (s.cb fl) c f bV τ).ad κn dK w' (e5 (d_ (hE bV) c.bC.bE τ).1 i) (aB.toArray.getD i undef):=by
  simp only[Ck,Bool.and_eq_true,decide_eq_true_eq,Bool.not_eq_true']at dF;obtain⟨⟨⟨⟨⟨⟨⟨⟨⟨⟨c1,c2⟩,c3⟩,c4⟩,c5⟩,lp⟩,n1⟩,wJ⟩,c9⟩,F8⟩,_⟩:=dF;have c3:(c.b2.bn.map (·.1)).Nodup:=of_decide_eq_true c3;have c4:(c.b2.bn.map λp=>f p.1).Nodup:=of_decide_eq_true c4;have c5:(bV.map (·.1)).Nodup:=of_decide_eq_true c5;have lp:(bV.map (·.2.1)).Nodup:=of_decide_eq_true lp;have wJ:mE ∉ bV.map (·.2.1):=λh=>by
    grind
  have c9:((s.cb fl).ad mE).body=.fb:=by
    grind
  obtain⟨F',f1,gn,au⟩:=dj.St nC gn;have aX : ba C (s.cb fl) a w κ F' := { gn with
    di:=V.di,dfr:=V.dfr,fO:=V.fO,bE:=λi=>bk.later (Rf s fl κ) f1 (cG.refl _ _) (V.bE i)
    bn:=gn.bn
    pro:=λl aI L n st e=>gn.pro l aI L n st (by simpa [ay.cb,p4]using e) }
  obtain⟨Y,ik⟩:=aX.ae8 (sl:=(c.b2.st A).aw TRS) λl aI L n st e=>by simpa [ay.cb,p4]using au.tr l aI L n st e
  have hid:∀ b∈c.b2.bn.map (·.1),eu<=b:=λb ab=>by grind
  have F9:∀ b,b∈c.b2.n8->∃ q∈c.b2.bn,q.1=b/\q.2.Cf=true:=λb ab=>by
    obtain⟨q,be,e⟩:=List.mem_filterMap.1 ab;grind
  have CA:=ae9 (C:=C) (C1:={ C with nt:=dG,dfr:=[],r:=none }) (ids:=c.b2.bn.map (·.1)) rfl rfl rfl gn au ⟨ik.pro,ik.low,ik.own,ik.non⟩ (λb aZ ab cS e=>by
    obtain⟨q,be,rfl,_⟩:=F9 b ab;obtain⟨q',tb,rfl,_⟩:=F9 aZ cS;rw[Cv (k:=λp=>f p.1) c4 be tb e]) hid
  refine⟨F',_,Y,_,f1,aX,λr ⟨b,ab,e⟩=>⟨f b,au.xd ab,e⟩,ik,λl aI L n st e=>by simpa [ay.cb,p4]using au.tr l aI L n st e,CA,λLt hg Kf F_ τ aB w' mF dK hk=>?_⟩;have Cy:∀ (b:Nat) (q':Nat×bN),q'∈c.bC.bn->q'.1=b->b∈c.b2.n8->∀ (R:Type) (z:q'.2.cons R),((q'.2.body (hE bV) z).1.fm=true->((s.cb fl).ad (f b)).body.fm=true)/\((q'.2.body (hE bV) z).1.gz=true->((s.cb fl).ad (f b)).body.gz=true)/\(q'.2.body (hE bV) z).1.mn=false:=by
    intro b q' tb e ab R z;obtain⟨q,be,rfl,Lu⟩:=F9 b ab;have ao:=List.all_eq_true.1 (List.all_eq_true.1 F8 q' tb) q be;rw[e,Lu]at ao;simp only[beq_self_eq_true,Bool.and_self,Bool.not_true,Bool.false_or]at ao;rcases F5 cJ c.b2.bn (d_ cJ c.b2.bE A).2 q.1 with⟨_,h2⟩ | ⟨q2,h2,h3,Lo,lZ,aR⟩
    · grind
    · obtain rfl:=Cv c3 h2 be h3
      have aR:(c.b2.st A).ad q2.1=⟨0,(q2.2.body cJ lZ).1⟩:=aR
      obtain⟨aO,aP,bA⟩:=ae6 ao z lZ (g:=hE bV) (g':=cJ)
      have tz:=au.zq q2.1
      refine⟨λhc=>?_,λhc=>?_,bA⟩
      · have bw:=au.bL q2.1 (by grind)
        simp only[ay.cb,if_neg bw.1]
        exact tz.2.1 (by grind)
      · have bw:=au.bL q2.1 (by grind)
        simp only[ay.cb,if_neg bw.1]
        exact tz.2.2.2.1 (by grind)
  have afc:bV.map (·.1)=c.bC.bn.map (·.1):=by rw[<-SR];exact SJ ..
  have fQ:SL (s.cb fl) κ (λb=>if b∈c.b2.bn.map (·.1) then some (κ (f b)).ad else none,λb=>if b∈c.b2.bn.map (·.1)/\wz<=b then some (κ (f b),((c.b2.st A).ad b).body.len) else none) (gP (hE bV) c.bC.bn (d_ (hE bV) c.bC.bE τ).2) bV:=by
    refine⟨c5,lp,wJ,c9,λp hp=>?_⟩;rw[<-SR]at hp;rcases SK _ _ _ _ _ _ hp with⟨h1,h2,t,h3,aR⟩ | ⟨_,h2,h3,aR⟩
    · rw[h2]
      have jz:p.1∈c.b2.bn.map (·.1):=by
        grind
      rcases F5 (hE bV) c.bC.bn (d_ (hE bV) c.bC.bE τ).2 p.1 with⟨_,aP⟩ | ⟨q',aO,aP,R,z,bA⟩
      · grind
      · rw[bA]
        obtain⟨dd,dV,j8⟩:=Cy p.1 q' aO aP h1 R z
        have:q'=(p.1,t):=Cv (afc ▸ c5) aO h3 aP
        subst this
        refine .inr ⟨λh=>⟨dd h,if_pos jz⟩,λh=>⟨dV h,if_pos jz⟩,j8,aR.imp (λaR=>⟨aR.1,λeL=>?_⟩) id⟩
        rcases aR.2 with bw | ⟨ao,e,rfl⟩
        · grind
        · obtain⟨q,be,Lk,Lu⟩:=F9 p.1 h1
          have xi:=List.all_eq_true.1 (List.all_eq_true.1 F8 _ aO) q be
          rw[Lk,Lu]at xi
          simp only[beq_self_eq_true,Bool.and_self,Bool.not_true,Bool.false_or]at xi
          rcases F5 cJ c.b2.bn (d_ cJ c.b2.bE A).2 p.1 with⟨_,wL⟩ | ⟨q2,m2,m3,Lo,lZ,m4⟩
          · grind
          · obtain rfl:=Cv c3 m2 be (m3.trans Lk.symm)
            have m4:(c.b2.st A).ad p.1=⟨0,(q2.2.body cJ lZ).1⟩:=m4
            obtain⟨c_,Lv⟩:=q2
            have xi:bN.Fv (.a7 e) Lv=true:=xi
            obtain rfl:Lv=.a7 e:=by
              cases Lv<;>first | (simp only[bN.Fv,decide_eq_true_eq]at xi;rw[xi]) | cases xi
            have tz:=au.zq p.1
            have afd:((c.b2.st A).ad p.1).body.eR=true:=by rw[m4];rfl
            obtain⟨bX,cn,dS⟩:=tz.2.2.1 afd
            have a_:((s.cb fl).ad (f p.1)).body.eR=true/\((s.cb fl).ad (f p.1)).body.len=(s.ad (f p.1)).body.len/\((s.cb fl).ad (f p.1)).body.eE=(s.ad (f p.1)).body.eE:=by
              simp only[ay.cb];split
              · rcases yW s.ad (s.ad (f p.1)) with aS | ⟨_,_,hx,aS⟩ | ⟨_,_,_,hx,_⟩ | ⟨_,_,_,_,hx,_,_⟩
                · grind
                · rw[aS,hx];exact⟨rfl,rfl,rfl⟩
                · have bX:(s.ad (f p.1)).body.eR=true:=bX
                  rw[hx]at bX;cases bX
                · have bX:(s.ad (f p.1)).body.eR=true:=bX
                  rw[hx]at bX;cases bX
              grind
            have cn:((c.b2.st A).ad p.1).body.len=(s.ad (f p.1)).body.len:=cn
            have dS:((c.b2.st A).ad p.1).body.eE=(s.ad (f p.1)).body.eE:=dS
            refine⟨a_.1,?_,?_⟩
            · rw[a_.2.2,<-dS,m4];rfl
            grind
    · refine .inl ⟨?_,by omega⟩
      unfold eu
      omega
  obtain⟨nD,hsl⟩:=ae' (ins:=c.b2.n8.map f) (X:=if c.bC.bE.any (λp=>p.1 == TRS) then e5 (d_ (hE bV) c.bC.bE τ).1 TRS else if c.b2.bE.any (λp=>p.1 == TRS) then .undef else (s.cb fl).aw TRS)
    (H':=(w5 (s.cb fl) c f bV τ).ad)
    (κn:=λb=>match bV.find? (λp=>p.2.1 == b) with
      | some p=>mF p.1
      | none=>κ b) Kf ⟨F_.pro,F_.low,F_.own,F_.non⟩ (λr ⟨b,ab,e⟩=>⟨f b,List.mem_map_of_mem (au.bL b ab).2.2,au.xd ab,e⟩) hk fQ
    (λp hp=>by simp only[w5,F4 (k:=λp=>p.2.1) lp hp,and_self]) (λb ab=>by
      have aA:bV.find? (λp=>p.2.1 == b)=none:=List.find?_eq_none.2 λp hp e=>ab (List.mem_map.2 ⟨p,hp,by grind⟩);simp only[w5,aA,true_and];grind)
    (by
      split
      · simp
      · split
        · simp
        · rename_i h2
          exact .inr (.inr ⟨rfl,xg c.b2.bE cJ A TRS (Bool.eq_false_iff.2 h2)⟩))
  exact⟨_,nD,hsl⟩
theorem SS(a6:∀ i,o.dst=some i->i<C.nt){f0:Operand}{args:Array Operand}{cU:Array TypeId}(ag:o.op=.call { callee:=.value f0,args:=args,argTypes:=cU }){c:IOC}(ar:∀ A a w,b9 C s a w->(c.sh A).b8->∃ k,IoSpec C.P C.aL k c/\a.eval f0=.func (.func k) #[] #[]){pr:hC}
  (h:w6 C.aL s o args.toList c=some pr):p2 C o s pr:=by
 obtain⟨args⟩:=args;unfold w6 at h;generalize awS:qP c (rT s (qO C.aL s args))=f at h;split at h
 ·rename_i A fl nC;split at h
  ·rename_i dF;cases h;have afe:qK (aT C.aL s.aw) o->js (args.map (aT C.aL s.aw)):=λab=>Cq ab λx hx=>by rw[ag];simp[Op.operands,Call.operands];simp_all
   refine⟨λa w Q K V aY Lw=>?_,λgs n'=>(by grind),afe⟩;obtain⟨k,ar,ao⟩:=ar A a w V Lw.1;obtain⟨κ,F,V⟩:=V;have hlen:args.length=c.j1/\args.length<=eu:=by
    simp only[Ck,Bool.and_eq_true,decide_eq_true_eq]at dF;omega
   have dA:=V.args (avs:=qO C.aL s args) (us:=args.map a.eval) (by grind) (by simp[qO]) λi G=>by
    have c6:i<args.length:=by grind
    have h1:=rH aY i (by grind);have e1:(args.map (aT C.aL s.aw)).getD i .undef=aT C.aL s.aw args[i]:=by grind
    rw[e1]at h1;have e2:(qO C.aL s args).getD i .undef=(use (aT C.aL s.aw args[i])).2:=by simp[qO,List.getD_eq_getElem?_getD,c6]
    have e3:(args.map a.eval).getD i undef=a.eval args[i]:=by grind
    rw[e2,e3];exact oQ (jU V args[i]) h1
   obtain⟨F',own,Y,hX,_,aX,_,ik,_,CA,Lx⟩:=SQ V dA rfl nC rfl dF;have cH:(execOp a.eval o).run C.P w=.ok (.enter k (args.map a.eval).toArray) w:=by
    simp only[execOp,ag,Sem.run_bind,resolve,ao,Deferred.ofValue,Sem.run_pure,Result.andThen_ok,invoke];have:=ar.enter (args.map a.eval).toArray w;grind
   have tB:=ar.bl CA rfl rfl rfl rfl (by show (args.map a.eval).length=_;grind) rfl Lw.1;refine B4 (by grind) cH tB λe w' ⟨v,τ,aB,mF,dK,he,hτ,Ga,hk⟩=>⟨v,he,Lw.2 τ hτ _ _ ?_⟩
   obtain⟨κn,nD,hsl⟩:=Lx C.w0 w aX ik τ aB w' mF dK hk;exact⟨_,dK,ba.set nD a6 (ae7 Ga λj=>by simpa [Array.getD_eq_getD_getElem?,List.getD_eq_getElem?_getD]using hsl j)⟩
  grind
 grind
theorem aff(a6:∀ i,o.dst=some i->i<C.nt){k:Nat}{args:Array Operand}{cU:Array TypeId}(ag:o.op=.call { callee:=.value (.func k),args:=args,argTypes:=cU }){c:IOC}(ar:IoSpec C.P C.aL k c){pr:hC}
  (h:w6 C.aL s o args.toList c=some pr):p2 C o s pr:=
 SS a6 ag (λ_ _ _ _ _=>⟨k,ar,rfl⟩) h
theorem IoSpec.yH{P:Program}{U:dh}{k:FuncId}{c:IOC}(h:IoSpec P U k c){sh:c.b2.ah->M c.bC.ah}(hs:∀ A,M.le (c.sh A) (sh A)):IoSpec P U k { c with sh:=sh } where
 enter:=h.enter
 iD:=λC a w κ F A e1 e2 e3 e4 dB kO V qJ=>by
  obtain⟨aO,aP⟩:=hs A qJ;exact (h.iD C a w κ F A e1 e2 e3 e4 dB kO V aO).mono λe w' ⟨v,τ,aB,κ',F',h1,h2,h3⟩=>⟨v,τ,aB,κ',F',h1,aP τ h2,h3⟩
theorem afg{Ψ:Nat->Option eH}(a6:∀ i,o.dst=some i->i<C.nt){t:Nat}{args:Array Operand}{cU:Array TypeId}(ag:o.op=.call { callee:=.value (.tmp t),args:=args,argTypes:=cU })
  (cD:∀ c sh ids,Ψ Sd=some (.FD c sh ids)->∀ k∈ids,IoSpec C.P C.aL k { c with sh:=sh k }) {pr:hC} (h:FH C.aL Ψ s o t args.toList=some pr):p2 C o s pr:=by
 unfold FH at h;split at h
 ·rename_i n aA;split at h
  ·rename_i c sh ids hc;refine SS a6 ag (λA a w V hs=>?_) h;obtain⟨⟨k,ao,rfl⟩,_⟩:=hs;refine⟨k,(cD c sh ids hc k ao).yH (sh:=(Se c sh ids (some k)).sh) λA h=>⟨h.2,λy aM=>aM⟩,?_⟩;obtain⟨κ,F,V⟩:=V;have hv:bk C.P s.ad κ F w (s.aw t) (a.tmps.getD t undef):=V.bE t;rw[aA]at hv;obtain⟨_,hv⟩:=(dx rfl).1 hv;exact (List.cons.inj hv).1
  ·cases h
 ·cases h
end
end Go.Fer
namespace Go.Fer
open Go.RowKit
section
variable {C:bQ} {o:Oper} {s:ay}
theorem ba.round{s:ay}{a:Act}{w w':World}{κ:Nat->bm}{F' dK Y Gb:Nat->Prop}{l:Nat}{aI:ae}{L:List aI.ah->Prop}{I}{dJ:List aI.ah}{Ly:Bool}(V:ba C s a w κ F')(oa:C.pr=⟨l,aI,L,I⟩)(cp:C.pr.Ok C.P)
    (aM:∀ r,Y r->r<w.heap.size/\¬F' r/\¬C.K0 r) (Lz:∀ b,(s.ad b).body.bL (κ b)=true->¬Y (κ b).ad)
    (g1:∀ r,F' r->dK r) (dR:∀ r,dK r->F' r\/Y r\/w.heap.size<=r) (g3:∀ r,dK r->r<w'.heap.size) (g4:∀ r,r<w.heap.size->¬Y r->w'.heap[r]?=w.heap[r]?)
    (g5:∀ r,Gb r->(Y r\/w.heap.size<=r)/\r<w'.heap.size/\¬dK r) (g6:w.heap.size<=w'.heap.size) (g7:cM w w') (g8:I dJ Ly dK Gb w') :
    ba C ⟨λi=>if i=TRS then .tr l aI L dJ Ly else s.aw i,s.ad⟩ a w' κ dK:=by
  have p3:cG F' w w':=⟨g6,λr h=>g4 r (V.cL r h) λBX=>(aM r BX).2.1 h⟩
  have kU:∀ r,w.heap.size<=r->¬C.K0 r:=λr h ao=>by have:=V.gX r ao;have:=V.size;omega
  refine { di := V.di, dfr := V.dfr, bE := λi => ?_, bn := λb => cg.kP (V.bn b) (eZ.refl _ _) g1 p3 rfl rfl λag => g4 _ (V.own b ag).1 (Lz b ag), own := λb ab => ?_, inj := V.inj, cL := g3, gL := λr h => ?_,hy:=λr h=>g1 r (V.hy r h),gX:=V.gX,eb:=λr h=>?_,size:=Nat.le_trans V.size g6,dQ:=V.dQ.trans g7,fO:=V.fO,j9:=V.j9,jn:=V.jn,jQ:=V.jQ,j_:=V.j_,pro:=λl' kj L' iH h7 e=>?_,jo:=V.jo,ib:=V.ib.mono g1 p3 }
  · show bk C.P s.ad κ dK w' (if i=TRS then .tr l aI L dJ Ly else s.aw i) _
    split
    · trivial
    · exact bk.later (eZ.refl _ _) g1 p3 (V.bE i)
  · have h:=V.own b ab
    grind
  · rcases dR r h with h | h | h
    · exact V.gL r h
    · exact .inr (aM r h).2.2
    · exact .inr (kU r h)
  · exact (g4 r (Nat.lt_of_lt_of_le (V.gX r h) V.size) λk=>(aM r k).2.2 h).trans (V.eb r h)
  · simp only[if_true]at e
    cases e
    refine⟨⟨I,oa⟩,cp,Gb,λr h=>⟨(g5 r h).2.1,(g5 r h).2.2,?_⟩,λb ab h=>?_,?_⟩
    · grind
    · rcases (g5 _ h).1 with h | h
      · grind
      · exact absurd (V.own b ab).1 (Nat.not_lt.2 h)
    · rw[oa];exact lj.yC.2 g8
theorem afh(a6:∀ i,o.dst=some i->i<C.nt){t:Nat}{args:Array Operand}{cU:Array TypeId}(ag:o.op=.call { callee:=.value (.tmp t),args:=args,argTypes:=cU }){pr:hC}
  (h:FI C.aL s o t args.toList=some pr):p2 C o s pr:=by
 obtain⟨args⟩:=args;unfold FI at h;split at h
 ·rename_i l' l aI L n st LA tq;split at h
  ·rename_i x fl hx;cases h;refine⟨λa w Q K V aY an=>?_,λgs n'=>(by grind),λab=>Cq ab λx hx=>by rw[ag];simp[Op.operands,Call.operands];simp_all⟩;obtain⟨κ,F,V⟩:=V;rw[M.kr]at an;obtain⟨⟨rfl,rfl,Gc⟩,an⟩:=an;obtain⟨F',f1,aX,f2⟩:=ba.kS (pW _ hx) V;have dA:eY C.P aI F' w (args.map a.eval) x:=by
    refine uS V.bn f1 aI hx f2 (by simp) λi G dp=>?_;simp only[List.getElem_map];have c6:i<args.length:=by grind
    have h1:=rH aY i (by grind);have e1:(args.map (aT C.aL s.aw)).getD i .undef=aT C.aL s.aw args[i]:=by grind
    rw[show (List.map (aT C.aL s.aw) (⟨args⟩:Array Operand).toList)=args.map (aT C.aL s.aw) from rfl,e1]at h1;exact oQ (jU V args[i]) h1
   have hv:a.eval (.tmp t)=.func (.yield l') #[] #[]:=by
    have:=jU V (.tmp t);have e:aT C.aL s.aw (.tmp t)=.gK l':=LA;rw[e]at this;exact this
   obtain⟨⟨I,oa⟩,cp,Y,aM,Lz,ee⟩:=aX.pro l' aI L n false tq;have afi:lj.Ok C.P ⟨l',aI,L,I⟩:=oa ▸ cp;rw[oa]at ee;have ee:=lj.yC.1 ee;obtain⟨fn,tmps,assign,body,h1,h2⟩:=afi.yield ee aX.cL (λr h=>⟨(aM r h).1,(aM r h).2.1⟩) Gc dA;have cH:(execOp a.eval o).run C.P w=.ok (.round l' fn tmps assign body) w:=by
    simp only[execOp,ag,Sem.run_bind,resolve,hv,Deferred.ofValue,Sem.run_pure,Result.andThen_ok,invoke];grind
   refine⟨λ_ _=>trivial,?_⟩;rw[yR (by grind),cH,Oper.uponIn_round];refine⟨λhs=>(by cases hs),?_⟩;have h3:RoundIn (dv C.r) 0 C.P l' fn tmps assign body w _:=h2;refine h3.mono λe w' ⟨b,dK,Gb,he,g1,dR,g3,g4,g5,g6,g7,g8⟩=>?_;subst he;refine an.2 b trivial _ _ ⟨κ,dK,ba.set ?_ a6 (eQ.2 rfl)⟩;exact aX.round oa cp aM Lz g1 dR g3 g4 g5 g6 g7 g8
  grind
 grind
end
end Go.Fer
namespace Go.Fer
open Go.RowKit
section
variable {C:bQ} {T:Nat->ae} {a1:Nat->Option aJ} {s:ay} {res:dY}
theorem SU{ms:Array MapEntry}{j:Nat}(aC:j<ms.size)(hu:∀ i (h:i<ms.size),ms[i].born=ms[j].born->i=j):ms.findIdx? (λe=>(e.born:Int) == (ms[j].born:Int))=some j:=by
 rw[Array.findIdx?_eq_some_iff_getElem];grind
theorem afj(ms:Array MapEntry)(e:MapEntry)(f:MapEntry->MapEntry):(ms.push e).modify ms.size f=ms.push (f e):=by
 grind
theorem afk(ms:Array MapEntry)(j:Nat)(f g:MapEntry->MapEntry):(ms.modify j f).modify j g=ms.modify j λe=>g (f e):=by
 grind
theorem zy{a:Act}{d:Nat}{v:Value}{x:Operand}(h:x≠.tmp d):(a.put (some d) v).eval x=a.eval x:=Act.eval_put λuF e=>by grind
theorem CB{a:Act}{d:Nat}{v:Value}(h:d<a.tmps.size):(a.put (some d) v).eval (.tmp d)=v:=by
 simp[Act.put,Act.eval,Array.getD_eq_getD_getElem?,h]
theorem afl(hT:dw C.P T){o1 f' kA oU:Oper}{d1 d2:Nat}{ty:TypeId}{m x y:Operand}(h1:o1.op=.mapEntry ty m x)(t1:o1.dst=some d1)(h2:f'.op=.extract (.tmp d1) 1)(t2:f'.dst=some d2)
  (h3:kA.op=.entryStore ty m (.tmp d2) y) (t3:kA.dst=none) (hU:oU.op=.mapUpdate ty m x y) (LB:oU.dst=none) (j2:m≠.tmp d1) (o8:m≠.tmp d2) (xj:y≠.tmp d1) (r2:y≠.tmp d2) (pY:d1<C.nt) (hF:d2<C.nt)
  (h:(bf C.aL T a1 (aT C.aL s.aw) oU).run s.ad=some res) {a:Act} {w:World} {κ:Nat->bm} {F:Nat->Prop} {Q:Exit->Act->World->Prop} {K:Act->World->Prop} (V:ba C s a w κ F) (aY:res.bR) (hc:res.c)
  (iu:∀ a' w',b9 C (((s.hP none res).set (some d1) .undef).set (some d2) .undef) a' w'->K a' w') :
  o1.wpIn (dv C.r) 0 C.P a w (λbT b1=>f'.wpIn (dv C.r) 0 C.P bT b1 (λa2 cI=>kA.wpIn (dv C.r) 0 C.P a2 cI K Q) Q) Q:=by
 have ky:=Kd hT LB (.inl hU) h a w κ F Q V aY hc;rw[LB]at ky;have e1:∀ c,o1.op≠.defer c:=by grind
 have e2:∀ c,f'.op≠.defer c:=by grind
 have e3:∀ c,kA.op≠.defer c:=by grind
 have afm:∀ c,oU.op≠.defer c:=by grind
 simp only[bf,hU,qA]at h;split at h
 ·rename_i k v aH;obtain⟨kV,y7,G,mx,gO⟩:=(hT.bS aH (by simp)).mp;obtain⟨inf,l3,i1,i2,i3,i4,i5,i6⟩:=kc gO.ka;split at h
  ·rename_i xk;split at h
   ·rename_i b g tk;simp only[aq.eG,Option.bind_eq_some_iff,aq.run_bind,aq.eF,aq.bx]at h;obtain⟨⟨dn,nY⟩,hx,⟨my,nZ⟩,aM,h⟩:=h;split at h
    ·rename_i az;obtain⟨az,pU⟩:=az;have pU:b ∉ nY++nZ:=by
      grind
     split at h
     ·rename_i k' hM es ab;simp only[Option.map_eq_some_iff]at h;obtain⟨RF,oT,rfl⟩:=h;obtain⟨e,rfl⟩:=kt oT;cases e;obtain⟨F',f1,aX,f2⟩:=ba.kS ((mv hx).append (mv aM)) V;have an:bk C.P s.ad κ F w (use (aT C.aL s.aw m)).2 (a.eval m):=ct V m rfl aY.1;rw[tk]at an;have kz:=an.2 az.symm (by rw[ab];rfl);have tl:=lW V.bn f1 hx f2.left (ct V x rfl aY.2.1);have oX:(s.cb (nY++nZ)).ad b=s.ad b:=by simp only[ay.cb];grind
      have aN:=aX.bn b;unfold cg at aN;rw[oX,ab]at aN;obtain⟨ms,clk,hw,tm⟩:=aN;have eU:k.kv=true/\k.jT<=100:=by simpa [s6]using xk
      have dF:=(B5 (em:=false) k 10000 eU.1 (by omega)).1 mx tl;have kg:=tm.es;obtain⟨f,c_,q2⟩:=wP (β:=v.ah) (xs:=es) (es:=ms.toList) xk mx tl kg.1 (λj e p h1 h2=>(kg.2 j e p h1 h2).1);have eA:(getObj (κ b).ad).run C.P w=.ok (.map ms clk) w:=by simp[getObj,Sem.run,hw]
      obtain⟨gX,Ke,Fg,RG⟩:=tm;have tC:d1<a.tmps.size:=by have:=V.di;omega
      have bZ:(κ b).ad<w.heap.size:=(Array.getElem?_eq_some_iff.1 hw).1;have chain:∀ (b1 cI:World) (u:Value) (n:Int),(execOp a.eval o1).run C.P w=.ok (.value (.tuple #[u,goInt n])) b1->(Instr.entryStore ty (.map (some (κ b).ad)) (goInt n) (a.eval y)).run C.P b1=.ok () cI->
        (execOp a.eval oU).run C.P w=.ok .skip cI->
        o1.wpIn (dv C.r) 0 C.P a w (λbT b1=>f'.wpIn (dv C.r) 0 C.P bT b1 (λa2 cI=>kA.wpIn (dv C.r) 0 C.P a2 cI K Q) Q) Q:=by
       intro b1 cI u n bX cn afn;have jY:=ky.2;rw[yR afm,afn,Oper.uponIn_skip,LB]at jY;refine gY e1 bX ?_;rw[t1];have afo:(a.put (some d1) (.tuple #[u,goInt n])).eval (.tmp d1)=.tuple #[u,goInt n]:=CB tC;refine gY (v:=goInt n) (w':=b1) e2 (by simp[execOp,h2,afo,Instr.extract]) ?_;rw[t2];have afp:d2<(a.put (some d1) (.tuple #[u,goInt n])).tmps.size:=by have:=V.di;simp[Act.put];omega
       have afq:((a.put (some d1) (.tuple #[u,goInt n])).put (some d2) (goInt n)).eval (.tmp d2)=goInt n:=CB afp;have LC:((a.put (some d1) (.tuple #[u,goInt n])).put (some d2) (goInt n)).eval m=.map (some (κ b).ad):=by rw[zy o8,zy j2,kz]
       have afr:((a.put (some d1) (.tuple #[u,goInt n])).put (some d2) (goInt n)).eval y=a.eval y:=by rw[zy r2,zy xj]
       refine E3 e3 (w':=cI) (by simp only[execOp,h3,afq,LC,afr,Sem.run_bind,cn,Result.andThen_ok,Sem.run_pure]) ?_;rw[t3];refine iu _ _ ?_;obtain⟨κ',F',jY⟩:=jY;exact⟨κ',F',ba.set (ba.set (d:=some d1) (av:=.undef) jY (λi e=>by grind) trivial) (λi e=>by grind) trivial⟩
      rcases q2 with⟨rfl,dZ⟩ | ⟨j,e,p,g1,dR,g3,g4,rfl⟩
      ·refine chain { w with heap:=w.heap.setIfInBounds (κ b).ad (.map (ms.push { key:=a.eval x,val:=l3,born:=clk }) (clk+1)) } { w with heap:=w.heap.setIfInBounds (κ b).ad (.map (ms.push { key:=a.eval x,val:=a.eval y,born:=clk }) (clk+1)) } l3 clk ?_ ?_ ?_
       ·simp only[execOp,h1,kz,Instr.mapEntry,Sem.run_bind,df G,Result.andThen_ok,eA,dF,c_,qB i1 i4,rQ hw,Sem.run_pure]
       ·have LD:(getObj (κ b).ad).run C.P { w with heap:=w.heap.setIfInBounds (κ b).ad (.map (ms.push { key:=a.eval x,val:=l3,born:=clk }) (clk+1)) }=.ok (.map (ms.push { key:=a.eval x,val:=l3,born:=clk }) (clk+1)) { w with heap:=w.heap.setIfInBounds (κ b).ad (.map (ms.push { key:=a.eval x,val:=l3,born:=clk }) (clk+1)) }:=by simp[getObj,Sem.run,bZ]
        have LF:(ms.push { key:=a.eval x,val:=l3,born:=clk }).findIdx? (λe=>(e.born:Int) == (clk:Int))=some ms.size:=by
         have:=SU (ms:=ms.push { key:=a.eval x,val:=l3,born:=clk }) (j:=ms.size) (by simp) λi G he=>by
          grind
         grind
        simp only[Instr.entryStore,Sem.run_bind,LD,Result.andThen_ok,goInt,asInt,asIntOf,Sem.run_pure,LF];rw[rQ (es:=ms.push { key:=a.eval x,val:=l3,born:=clk }) (clk:=clk+1) (by grind),afj];simp
       ·simp only[execOp,hU,kz,Instr.mapUpdate,Sem.run_bind,df G,Result.andThen_ok,eA,dF,c_,rQ hw,Sem.run_pure]
      ·have aC:j<es.length:=(List.getElem?_eq_some_iff.1 dR).1;have wQ:j<ms.size:=by omega
       have Kg:ms[j]=e:=by
        grind
       obtain⟨i_,b1,bX,cn,dS⟩:=Kc C.P w e.key (a.eval x);have ly:b1.heap[(κ b).ad]?=some (.map ms clk):=by rcases dS with rfl | rfl<;>exact hw
       have SV:(κ b).ad<b1.heap.size:=(Array.getElem?_eq_some_iff.1 ly).1;have nv:((ms[j]?).map (·.key)).getD (a.eval x)=e.key:=by
        grind
       have LG:((ms[j]?).map (λx=>(x.born:Int))).getD 0=(ms[j].born:Int):=by grind
       rw[Nat.zero_add]at c_;refine chain { b1 with heap:=b1.heap.setIfInBounds (κ b).ad (.map (ms.modify j λe=>{ e with key:=i_ }) clk) } { b1 with heap:=b1.heap.setIfInBounds (κ b).ad (.map (ms.modify j λe=>{ e with key:=i_,val:=a.eval y }) clk) } e.val ms[j].born ?_ ?_ ?_
       ·simp only[execOp,h1,kz,Instr.mapEntry,Sem.run_bind,df G,Result.andThen_ok,eA,dF,c_];rw[nv,bX];simp only[Result.andThen_ok,rQ ly,Sem.run_pure,LG]
       ·have LD:(getObj (κ b).ad).run C.P { b1 with heap:=b1.heap.setIfInBounds (κ b).ad (.map (ms.modify j λe=>{ e with key:=i_ }) clk) }=.ok (.map (ms.modify j λe=>{ e with key:=i_ }) clk) { b1 with heap:=b1.heap.setIfInBounds (κ b).ad (.map (ms.modify j λe=>{ e with key:=i_ }) clk) }:=by simp[getObj,Sem.run,SV]
        have l4:∀ i (h:i<(ms.modify j λe=>{ e with key:=i_ }).size),((ms.modify j λe=>{ e with key:=i_ })[i]).born=(ms[i]'(by grind)).born:=by
         grind
        have LF:(ms.modify j λe=>{ e with key:=i_ }).findIdx? (λe=>(e.born:Int) == (ms[j].born:Int))=some j:=by
         have:=SU (ms:=ms.modify j λe=>{ e with key:=i_ }) (j:=j) (by grind) λi G he=>by
          grind
         grind
        simp only[Instr.entryStore,Sem.run_bind,LD,Result.andThen_ok,goInt,asInt,asIntOf,Sem.run_pure,LF];rw[rQ (es:=ms.modify j λe=>{ e with key:=i_ }) (clk:=clk) (by grind),afk];simp
       ·simp only[execOp,hU,kz,Instr.mapUpdate,Sem.run_bind,df G,Result.andThen_ok,eA,dF,c_];rw[nv,bX];simp only[Result.andThen_ok,rQ ly,Sem.run_pure]
     grind
    grind
   ·cases h
  ·cases h
 ·cases h
end
end Go.Fer
namespace Go.Fer
open Go.RowKit
structure CC(P:Program)(k:FuncId)(c:ITC):Prop where
 enter:∀ args w,(callFunc k args).run P w=.ok (.enter k args) w
 iD:∀ (l:Nat) (I:List c.aI.ah->Bool->(Nat->Prop)->(Nat->Prop)->World->Prop) (F Y:Nat->Prop) (w:World) (args:List Value) (x:c.ts.ah),eY P c.ts F w args x->c.pre x->lj.Ok P ⟨l,c.aI,λT=>T=c.seq x,I⟩->
  (∀ r,F r->r<w.heap.size)->nk P F w->(∀ r,Y r->r<w.heap.size/\¬F r)->I [] false F Y w->Calls P k (args++[Value.func (.yield l) #[] #[]]).toArray w λe w'=>
   ∃ v pre st F' fZ,e=.returned v/\(st=false->pre=c.seq x)/\I pre st F' fZ w'/\(∀ r,F r->F' r)/\(∀ r,F' r->F r\/Y r\/w.heap.size<=r)/\(∀ r,F' r->r<w'.heap.size)/\
    (∀ r,r<w.heap.size->¬Y r->w'.heap[r]?=w.heap[r]?)/\(∀ r,fZ r->(Y r\/w.heap.size<=r)/\r<w'.heap.size/\¬F' r)/\w.heap.size<=w'.heap.size/\cM w w'
def eH.Ok(P:Program)(U:dh)(k:FuncId):eH->Prop
 | .c7 c=>hL P k c.ts c.tr c.sh/\(c.du=true->∀ x,(c.sh x).Cg)
 | .io c=>IoSpec P U k c
 | .b5 c=>CC P k c
 | .KV c=>hL P k c.ts c.tr c.sh/\QF P k c.ts c.tr c.sh
 | .FD c sh ids=>∀ k∈ids,IoSpec P U k { c with sh:=sh k }
 | .ow c=>nn c.tr=true/\B2 P k c
def lD(P:Program)(U:dh)(Ψ:Nat->Option eH):Prop:=∀ k c,Ψ k=some c->c.Ok P U k
section
variable {C:bQ} {T:Nat->ae} {a1:Nat->Option aJ} {Ψ:Nat->Option eH} {s:ay} {o:Oper} {Q:Exit->Act->World->Prop} {ops:Array Oper}
theorem afs(cc:iY C.P a1)(cD:lD C.P C.aL Ψ){k:Nat}{c:SC}(h:KW a1 Ψ k=some c):hL C.P k c.ts c.tr c.sh:=by
 unfold KW at h;split at h
 ·rename_i c' jv;cases h;have:eH.Ok C.P C.aL k (.c7 c):=cD k _ jv;exact this.1
 ·cases h
 ·obtain⟨f,ar,h⟩:=Option.bind_eq_some_iff.1 h;split at h
  ·cases h
  ·rename_i he;cases h;exact (cc k f ar).1 (by simpa using he)
theorem aft{P:Program}{w:World}{ty j:TypeId}(aC:P.underlying ty=some (.slice j))(q:Option Addr)(n cap d:Nat):(Op.equalIn (d+1) ty (.slice q n cap) (.slice none 0 0)).run P w=.ok q.isNone w:=by
 cases q<;>simp[Op.equalIn,df aC]
theorem afu{P:Program}{w:World}(op:BinOp)(t:TypeId)(x y:Operand)(q q':Option Addr)(n iH cap cap':Nat):(eqGuard op t x y (.slice q n cap) (.slice q' iH cap')).run P w=.ok () w:=by
 cases op<;>simp[eqGuard]
theorem SW{P:Program}{w:World}{ty j:TypeId}{x y:Operand}(aC:P.underlying ty=some (.slice j))(q:Option Addr)(n cap:Nat) :
  (do eqGuard .eql ty x y (.slice q n cap) (.slice none 0 0);binOp .eql ty (.slice q n cap) (.slice none 0 0):Sem Value).run P w=.ok (.bool q.isNone) w/\(do eqGuard .neq ty x y (.slice q n cap) (.slice none 0 0);binOp .neq ty (.slice q n cap) (.slice none 0 0):Sem Value).run P w=.ok (.bool (!q.isNone)) w:=by
 have h:(Op.equalIn 10000 ty (.slice q n cap) (.slice none 0 0)).run P w=.ok q.isNone w:=aft (w:=w) aC q n cap 9999;constructor<;>simp[afu,binOp,Op.equal,Op.maxDepth,h]
theorem afv(hT:dw C.P T)(a6:∀ i,o.dst=some i->i<C.nt){op:BinOp}{ty mr:TypeId}{x y:Operand}(ag:o.op=.binOp op ty x y mr){pr:hC}(h:Cm C.aL T s o op ty x y=some pr):p2 C o s pr:=by
 have yU:∀ c,o.op≠.defer c:=by grind
 unfold Cm at h;split at h
 ·rename_i e aH afw;have cV:=hT.bS aH (by simp);obtain⟨j,aC,_⟩:=cV.sl;split at h
  ·rename_i xs l hA;have key:∀ (a:Act) (w:World) (κ:Nat->bm) (F:Nat->Prop),ba C s a w κ F->(use (aT C.aL s.aw x)).1->∃ b:Bool,(b=true->xs=[])/\(op=.eql->(execOp a.eval o).run C.P w=.ok (.value (.bool b)) w)/\(op=.neq->(execOp a.eval o).run C.P w=.ok (.value (.bool (!b))) w):=by
    intro a w κ F V aY;have hx:=BJ V hA (ct V x rfl aY);obtain⟨_,q,cap,e1,m1,m2,m3,_⟩:=(dx rfl).1 hx;have e1:=(List.cons.inj e1).1;have aM:a.eval y=.slice none 0 0:=by
     have:=jU V y;rw[afw]at this;exact this
    refine⟨q.isNone,λbe=>?_,λky=>?_,λky=>?_⟩
    ·simp_all
    ·subst ky;have V:=(SW (w:=w) (x:=x) (y:=y) aC q xs.length cap).1;rw[<-e1,<-aM]at V;simp only[execOp,ag,Sem.run_bind]at V ⊢;simp_all
    ·subst ky;have V:=(SW (w:=w) (x:=x) (y:=y) aC q xs.length cap).2;rw[<-e1,<-aM]at V;simp only[execOp,ag,Sem.run_bind]at V ⊢;simp_all
   split at h
   ·cases h;refine⟨λa w Q K V aY an=>?_,λgs n'=>(by grind),λab=>ab x (by rw[ag];simp[Op.operands])⟩;obtain⟨κ,F,V⟩:=V;obtain⟨b,dd,dV,_⟩:=key a w κ F V aY;exact gY yU (dV rfl) (an.2 b dd _ _ ⟨κ,F,ba.set V a6 (eQ.2 rfl)⟩)
   ·cases h;refine⟨λa w Q K V aY an=>?_,λgs n'=>(by grind),λab=>ab x (by rw[ag];simp[Op.operands])⟩;obtain⟨κ,F,V⟩:=V;obtain⟨b,dd,_,dV⟩:=key a w κ F V aY;exact gY yU (dV rfl) (an.2 b dd _ _ ⟨κ,F,ba.set V a6 (eQ.2 rfl)⟩)
   grind
  grind
 grind
theorem LH(hT:dw C.P T)(cc:iY C.P a1)(cD:lD C.P C.aL Ψ)(a6:∀ i,o.dst=some i->i<C.nt){pr:hC}(h:qQ C.aL T a1 Ψ s o=some pr):p2 C o s pr:=by
 unfold qQ at h;split at h
 ·rename_i c ag;obtain⟨callee,args,cU⟩:=c;split at h
  ·rename_i f ar;simp only at ar;subst ar;split at h
   ·split at h
    ·rename_i c' jv;exact aff a6 ag (cD _ _ jv) h
    ·rename_i c' jv;have h3:eH.Ok C.P C.aL _ (.KV c'):=cD _ _ jv;exact aeT a6 ag h3.1 h3.2 h
    ·split at h
     ·rename_i c7 LI;exact aeS a6 ag (afs cc cD LI) h
     grind
   ·split at h
    ·rename_i r V;cases h;exact aeU a6 ag V
    ·split at h
     ·rename_i r V;cases h;exact afg a6 ag (λc sh ids hc=>cD _ _ hc) V
     ·exact afh a6 ag h
   grind
  grind
 ·rename_i ty x ag;exact aeV hT a6 ag h
 ·rename_i x str ag;exact aeZ a6 ag h
 ·rename_i x ag;exact aeW a6 ag h
 ·rename_i op ty x y mr ag;exact afv hT a6 ag h
 grind
theorem SX(want b:Bool):((some b == some want:Bool))=Fq want b:=by cases want<;>cases b<;>rfl
theorem SY{a:Act}{j d:Nat}{qX:Oper}(h1:ops[j]?=some qX)(h2:qX.dst=some d){b:Bool}(h:a.tmps.getD d Go.undef=.bool b):yielded ops a.tmps j=some b:=by
 have:a.tmps[d]?=some (.bool b):=by
  rw[Array.getD_eq_getD_getElem?]at h;cases he:a.tmps[d]? with
  | none=>rw[he]at h;cases h
  | some v=>grind
 simp[yielded,h1,h2,this]
theorem afx{a:Act}{j d:Nat}{qX:Oper}(h1:ops[j]?=some qX)(h2:qX.dst=some d)(h:a.tmps.getD d Go.undef=Go.undef):yielded ops a.tmps j=none:=by
 unfold yielded;rw[h1];simp only[Option.bind_some,h2];rw[Array.getD_eq_getD_getElem?]at h;cases he:a.tmps[d]? with
 | none=>rfl
 | some v=>rw[he]at h;cases h;rfl
theorem LJ{a:Act}{w:World}{κ:Nat->bm}{F:Nat->Prop}(V:ba C s a w κ F){g:Option Bool}(h:kh s.aw ops o.guard=some g) :
  Region.wanted o (yielded ops a.tmps)=g.getD true:=by
 unfold Region.wanted;cases az:o.guard with
 | none=>rw[az]at h;cases h;rfl
 | some p=>
  obtain⟨j,want⟩:=p;rw[az]at h;simp only[kh]at h ⊢;split at h
  ·rename_i qX aC;split at h
   ·rename_i d au;have hs:=V.bE d;split at h
    ·rename_i b ab;cases h;rw[ab]at hs;rw[SY aC au (eQ.1 hs),SX];rfl
    ·rename_i g' b ab;cases h;rw[ab]at hs;obtain⟨h1,h2⟩:=hs;cases g' with
     | true=>
      rw[SY aC au (eQ.1 (h1 rfl)),SX];simp
     | false=>
      rw[afx aC au (h2 rfl)];rfl
    grind
   grind
  grind
theorem afy{bR c:Prop}{eJ rX:aD}{hg w9:List (Nat×bu)}(az:Cn o eJ hg=some (w9,rX))(h:(bf C.aL T a1 (aT C.aL s.aw) o).run s.ad=some ⟨bR,c,eJ,hg⟩) :
    (∀ a w,b9 C (s.hP o.dst ⟨bR,c,eJ,hg⟩) a w->b9 C ((s.fH w9).set o.dst rX) a w)/\(∀ a w κ F,ba C s a w κ F->∃ κ' F',ba C (s.fH w9) a w κ' F'):=by
  unfold Cn at az;split at az
  · cases az
    exact⟨λa w h=>h,λa w κ F h=>⟨κ,F,h⟩⟩
  · rename_i p l'
    split at az
    · rename_i LK first cF ag
      cases az
      refine⟨λa w h=>h,λa w κ F V=>?_⟩
      simp only[bf,ag]at h
      split at h
      · split at h
        · split at h
          · simp only[aq.eG,Option.bind_eq_some_iff,aq.run_bind,aq.bx,Option.some.injEq]at h
            obtain⟨⟨y,l⟩,aM,he⟩:=h
            obtain⟨F',_,aX,_⟩:=ba.kS (pW _ aM) V
            have he:(jr l).run s.ad=p::l':=by grind
            rw[<-he,s9]
            grind
          · split at h
            · simp only[aq.eG,Option.bind_eq_some_iff,aq.run_bind,aq.bx,Option.some.injEq]at h
              obtain⟨⟨y,l⟩,aM,he⟩:=h
              obtain⟨F',_,aX,_⟩:=ba.kS (pW _ aM) V
              have he:(jr l).run s.ad=p::l':=by grind
              rw[<-he,s9]
              grind
            · simp only[bz,aq.bx,Option.some.injEq]at h
              cases h
        · split at h
          · simp only[bz,aq.bx,Option.some.injEq]at h
            cases h
          · cases h
      · cases h
    · rename_i ty n ps ag
      split at az
      · rename_i aZ g' e xs bD
        split at az
        · rename_i afz
          obtain⟨⟨rfl,rfl⟩,_⟩:=afz
          cases az
          obtain⟨b,⟨afA,ir⟩⟩:=p
          simp only at bD
          subst bD
          have kU:o.dst=some b/\afA=(s.ad b).gen+1:=by
            simp only[bf,ag]at h;split at h
            · simp only[aq.eG,Option.bind_eq_some_iff,aq.run_bind]at h
              obtain⟨⟨ys,fl⟩,_,h⟩:=h
              obtain⟨b0,y',ao⟩:=qD h
              grind
            · cases h
          obtain⟨a6,rfl⟩:=kU
          refine⟨λa w jY=>?_,λa w κ F V=>?_⟩
          · obtain⟨κ,F,V⟩:=jY
            rw[a6]at V ⊢
            simp only[ay.hP,ay.fH]at V
            have hx:(dc (.slice e) (.own b ((s.ad b).gen+1))).run ((s.b' b ⟨(s.ad b).gen+1,.a7 e xs⟩).set (some b) (.own b ((s.ad b).gen+1))).ad=some (xs,[b]):=by
              simp[dc,j',dz,ay.set,ay.b',ew,ae.ea]
            obtain⟨zz,f1,gn,f2⟩:=ba.kS (mv hx) V
            have hs:=V.bE b
            have hv:=lW (v:=a.tmps.getD b undef) V.bn f1 hx f2 (by simpa [ay.set]using hs)
            have hsl:∀ i,i≠b->((s.b' b ⟨(s.ad b).gen+1,.a7 e xs⟩).set (some b) (.own b ((s.ad b).gen+1))).aw i=s.aw i:=λi G=>by simp[ay.set,ay.b',G]
            have cr:ba C ⟨λi=>if i=b then .val (.slice e) xs else s.aw i,(((s.b' b ⟨(s.ad b).gen+1,.a7 e xs⟩).set (some b) (.own b ((s.ad b).gen+1))).cb [b]).ad⟩ a w κ zz:=
              { gn with
                di:=gn.di,dfr:=gn.dfr,bn:=gn.bn
                bE:=λi=>by
                  show bk _ _ _ _ _ (if i=b then .val (.slice e) xs else s.aw i) _;split
                  · rename_i G
                    subst G
                    exact hv
                  · rename_i G
                    rw[<-hsl i G]
                    exact gn.bE i
                pro:=λl aI L n st aS=>by
                  have aS:(if TRS=b then aD.val (.slice e) xs else s.aw TRS)=.tr l aI L n st:=aS;split at aS
                  · cases aS
                  · rename_i G
                    exact gn.pro l aI L n st ((hsl TRS G).trans aS) }
            refine⟨κ,zz,cr.yH ⟨λi=>.inl ?_,λi=>?_⟩⟩
            · rfl
            · by_cases G:i=b
              · subst G
                right
                simp[ay.set,ay.fH,ay.b',ay.cb,eT]
              · left
                simp[ay.set,ay.fH,ay.b',ay.cb,G]
          · have aA:=Lh V (b:=b) (e:=e)
            refine⟨_,F,aA.yH ⟨λi=>.inl rfl,λi=>?_⟩⟩
            by_cases G:i=b
            · subst G
              right
              simp[ay.fH,ay.b']
            · left
              simp[ay.fH,ay.b',G]
        grind
      grind
    grind
theorem r3{β:Type}{b:Bool}{p:Prop}{m:M β}{O:β->Prop}(ab:b=true->p):M.b_ (rV b p m) O<->p/\M.b_ m O:=by
 cases b with
 | true=>exact⟨λh=>⟨ab rfl,h⟩,λh=>h.2⟩
 | false=>exact M.kr
def p5(ops:Array Oper)(s:ay)(tg:o5):Prop:=∀ p∈tg,∃ b a,s.aw p.1=.hd b a/\kh s.aw ops (some p.2)=some (some b)
theorem afB{j d:Nat}:rW ops j d=true<->d∈Fs ops (some (j,true)):=by
 have key:∀ (x:Option Oper),(match x with | some o=>(match o.dst with | some e=>e == d | none=>false) | none=>false)=true<->d∈(match x with | some o=>o.dst.toList | none=>[]):=by
  grind
 exact key _
theorem p5.gQ{s':ay}{tg:o5}(h:p5 ops s tg)(hs:∀ i,o.dst≠some i->s'.aw i=s.aw i)
  (au:∀ d k,o.dst=some d->o.guard=some k->∃ b a,s'.aw d=.hd b a/\kh s.aw ops (some k)=some (some b)):p5 ops s' (w7 ops tg o):=by
 unfold w7;cases a6:o.dst with
 | none=>
  intro p hp;obtain⟨b,a,h1,h2⟩:=h p hp;refine⟨b,a,(hs _ (by grind)).trans h1,?_⟩;rw[<-h2];exact Kz λt _=>hs t (by grind)
 | some d=>
  have congr:∀ k:Nat×Bool,rW ops k.1 d=false->kh s'.aw ops (some k)=kh s.aw ops (some k):=λk ao=>Kz λt aH=>hs t (by
   rw[a6];intro e;cases e;have:rW ops k.1 d=true:=afB.2 aH;grind)
  have uR:p5 ops s' (tg.filter λp=>p.1 != d&&!rW ops p.2.1 d):=by
   intro p hp;simp only[List.mem_filter,Bool.and_eq_true,bne_iff_ne,ne_eq,Bool.not_eq_true']at hp;obtain⟨b,a,h1,h2⟩:=h p hp.1;grind
  simp only;split
  ·rename_i k ao;split
   ·omega
   ·rename_i SZ;intro p hp;rcases List.mem_cons.1 hp with rfl | hp
    ·grind
    ·exact uR p hp
  omega
section
variable {U:dh} {tg:o5} {gk:Option (Nat×Bool)}
theorem CD(hT:p5 ops s tg)(az:∀ k,gk=some k->kh s.aw ops (some k)=some (some true)){x:Operand}(h:w8 (aT U s.aw) tg gk x=true):(use (aT U s.aw x)).1:=by
 unfold w8 at h;rw[Bool.or_eq_true]at h;rcases h with h | h
 ·exact Fo (by grind)
 ·split at h
  ·rename_i t k;obtain⟨p,hp,uV⟩:=List.any_eq_true.1 h;simp only[Bool.and_eq_true,beq_iff_eq]at uV;obtain⟨rfl,h1,h2⟩:=uV;have uV:p.2=k:=Prod.ext h1 h2;obtain⟨b,a,aO,aP⟩:=hT p hp;rw[uV,az k rfl]at aP;cases aP;have e:aT U s.aw (.tmp p.1)=s.aw p.1:=rfl;rw[e,aO];rfl
  grind
theorem S0(hT:p5 ops s tg)(az:∀ k,gk=some k->kh s.aw ops (some k)=some (some true))(h:KZ (aT U s.aw) tg gk o=true):qK (aT U s.aw) o:=
 λx hx=>CD hT az (List.all_eq_true.1 h x hx)
theorem S1(hT:p5 ops s tg){c x:Operand}{want:Bool}{oc:Prop}{iI:Bool}(hc:use (aT U s.aw c)=(oc,.val .bool iI))(CE:oc)(h:FN ops tg c x want=true)(hw:Fq want iI=true):(use (aT U s.aw x)).1:=by
 unfold FN at h;split at h
 ·rename_i c t;obtain⟨p,hp,uV⟩:=List.any_eq_true.1 h;simp only[Bool.and_eq_true,beq_iff_eq]at uV;obtain⟨rfl,h1,rfl⟩:=uV;obtain⟨b,a,aO,aP⟩:=hT p hp;have e:aT U s.aw (.tmp p.1)=s.aw p.1:=rfl;rw[e,aO];show b=true;unfold rW at h1;have xl:p.2=(p.2.1,p.2.2):=rfl;rw[xl]at aP;unfold kh at aP;have jv:use (s.aw c)=(oc,.val .bool iI):=hc;split at h1
  ·rename_i qX aC;split at h1
   ·rename_i d au;have afC:d=c:=by grind
    subst afC;simp only[aC,au]at aP;split at aP
    ·rename_i b0 y';rw[y']at jv;simp only[use,Prod.mk.injEq,aD.val.injEq,heq_eq_eq,true_and]at jv;grind
    ·rename_i g0 b0 y';rw[y']at jv;simp only[use,Prod.mk.injEq,aD.val.injEq,heq_eq_eq,true_and]at jv;grind
    grind
   grind
  grind
 grind
theorem Gd(hT:p5 ops s tg)(az:∀ k,gk=some k->kh s.aw ops (some k)=some (some true))(h:zj (aT U s.aw) ops tg gk o=true):(bf U T a1 (aT U s.aw) o).cA (kX λr=>r.bR):=by
 cases ag:o.op with
 | pick c a b=>
  simp only[zj,ag,Bool.and_eq_true,Bool.or_eq_true]at h;obtain⟨h1,h2,h3⟩:=h;unfold bf;rw[ag];simp only;split
  ·rename_i oc iI lA;have CE:oc:=by have:=CD hT az h1;grind
   split
   ·split
    ·rename_i yO av aU;refine .bz ⟨CE,λhv=>?_⟩;have:(use (aT U s.aw a)).1:=by
      rcases h2 with h2 | h2
      ·exact CD hT az h2
      ·exact S1 hT lA CE h2 hv
     grind
    ·exact .bI
   ·split
    ·rename_i yO av aU;refine .bz ⟨CE,λhv=>?_⟩;have:(use (aT U s.aw b)).1:=by
      rcases h3 with h3 | h3
      ·exact CD hT az h3
      ·exact S1 hT lA CE h3 (by subst hv;rfl)
     grind
    ·exact .bI
   ·exact .bI
  ·exact .bI
 | _=>
  simp only[zj,ag]at h;exact RW (S0 hT az h)
theorem afD(hT:p5 ops s tg)(az:∀ k,gk=some k->kh s.aw ops (some k)=some (some true)){bR c:Prop}{eJ rX:aD}{hg w9:List (Nat×bu)}(hw:Cn o eJ hg=some (w9,rX))(V:(bf U T a1 (aT U s.aw) o).run s.ad=some ⟨bR,c,eJ,hg⟩)
  (h:K1 (aT U s.aw) tg gk o rX=true):(use rX).1:=by
 unfold K1 at h;rw[Bool.or_eq_true]at h;rcases h with h | h
 ·exact Fo (by grind)
 ·split at h
  ·rename_i x ag;simp only[bf,ag,bz,aq.bx,Option.some.injEq,dY.mk.injEq]at V;obtain⟨_,_,rfl,rfl⟩:=V;simp only[Cn,Option.some.injEq,Prod.mk.injEq]at hw;obtain⟨_,rfl⟩:=hw;exact CD hT az h
  grind
end
theorem ay.CF{s:ay}{d:Option Nat}{v:aD}{i:Nat}(h:d≠some i):(s.set d v).aw i=s.aw i:=by
 cases d with
 | none=>rfl
 | some d=>simp only[ay.set];grind
theorem ay.LL{s:ay}{d:Nat}{v:aD}:(s.set (some d) v).aw d=v:=by simp[ay.set]
theorem ay.zf:∀ (l:List (Nat×bu)) (s:ay),(s.fH l).aw=s.aw
 | [],_=>rfl
 | p::l,s=>by
  have:=ay.zf l (s.b' p.1 p.2);exact this
theorem afE{U:dh}{pr:hC}{gs:Bool->pr.aj->ay}(h:qQ U T a1 Ψ s o=some pr)(az:pr.Ch=some gs):∀ g y,∃ v,(gs g y).aw=(s.set o.dst (.hd g v)).aw:=by
 have after:∀ (t:ae) (fl:List Nat) (v:aD),(qN s o t fl v).aw=(s.set o.dst v).aw:=λt fl v=>by
  unfold qN;split
  ·rfl
  ·cases o.dst<;>rfl
 have c7:∀ {args:List Operand} {c:SC} {pr:hC} {gs:Bool->pr.aj->ay},Ci U s o args c=some pr->pr.Ch=some gs->∀ g y,∃ v,(gs g y).aw=(s.set o.dst (.hd g v)).aw:=by
  intro args c pr gs h az;unfold Ci at h;split at h
  ·cases h;cases az;exact λg y=>⟨_,after _ _ _⟩
  grind
 have fc:∀ {t:Nat} {args:List Operand} {pr:hC} {gs:Bool->pr.aj->ay},Cj U s o t args=some pr->pr.Ch=some gs->∀ g y,∃ v,(gs g y).aw=(s.set o.dst (.hd g v)).aw:=by
  intro t args pr gs h az;unfold Cj at h;split at h
  ·split at h
   ·cases h;cases az;exact λg y=>⟨_,after _ _ _⟩
   grind
  grind
 unfold qQ at h;split at h
 ·split at h
  ·split at h
   ·split at h
    ·unfold w6 at h;grind
    ·unfold FF at h;grind
    ·split at h
     ·exact c7 h az
     grind
   ·split at h
    ·rename_i V;cases h;exact fc V az
    ·split at h
     ·rename_i V;cases h;unfold FH w6 at V;grind
     ·unfold FI at h;grind
   grind
  grind
 ·unfold FJ at h;grind
 ·unfold FL at h;grind
 ·unfold FM at h;grind
 ·unfold Cm at h;grind
 grind
theorem u4{x:Operand}{t:Nat}(h:hS x=some t):x=.tmp t:=by
 cases x<;>simp[hS]at h;rw[h]
theorem S2{o f' kA oU:Oper}{d1 d2:Nat}(h:zk o f' kA=some (oU,d1,d2)):∃ ty m x y,o.op=.mapEntry ty m x/\o.dst=some d1/\f'.op=.extract (.tmp d1) 1/\f'.dst=some d2/\kA.op=.entryStore ty m (.tmp d2) y/\kA.dst=none/\
  oU.op=.mapUpdate ty m x y/\oU.dst=none/\m≠.tmp d1/\m≠.tmp d2/\y≠.tmp d1/\y≠.tmp d2/\o.guard=none/\f'.guard=none/\kA.guard=none:=by
 unfold zk at h;split at h
 ·rename_i ty m x ag;split at h
  ·rename_i e xm;split at h
   ·rename_i mr c8 aS y awT;split at h
    ·rename_i acU JX LM CG S3;split at h
     ·rename_i hc;simp only[Option.some.injEq,Prod.mk.injEq]at h;obtain⟨rfl,rfl,rfl⟩:=h;obtain⟨c1,c2,rfl,c4,c5,lp,n1,wJ,c9,F8,afF,c12,afG⟩:=hc;obtain⟨ob,tD⟩:=Option.isSome_iff_exists.1 c4;have eV:=u4 tD;have an:=u4 (c5.symm.trans tD);have e1:=u4 c1;have e2:=u4 c2;subst e1;subst e2;refine⟨mr,m,x,y,ag,LM,xm,CG,?_,S3,rfl,S3,λe=>n1 (by grind),λe=>wJ (by grind),λe=>c9 (by grind),λe=>F8 (by grind),Option.isNone_iff_eq_none.1 afF,Option.isNone_iff_eq_none.1 c12,Option.isNone_iff_eq_none.1 afG⟩;grind
     grind
    grind
   grind
  grind
 grind
theorem LN{β:Type}(hT:dw C.P T)(cc:iY C.P a1)(cD:lD C.P C.aL Ψ)(au:∀ o∈ops.toList,kW o C.nt=true){k:ay->M β}{O:β->Prop}
  (ao:∀ s' a' w',b9 C s' a' w'->M.b_ (k s') O->Q .normal a' w'):∀ (os:List Oper) (n:Nat) (tg:o5) (s:ay) (a:Act) (w:World),ops.toList.drop n=os->p5 ops s tg->b9 C s a w->M.b_ (l2 C.aL T a1 Ψ ops os tg s k) O->
   wpOpsIn (dv C.r) 0 C.P ops Q (List.range' n os.length) a w:=by
 intro os;generalize hlen:os.length=len;induction len using Nat.strongRecOn generalizing os with
 | _ len S4=>
 subst hlen;cases os with
 | nil=>
  intro n tg s a w _ _ V an;exact ao s a w V an
 | cons o os=>
  have aG:=S4 os.length (by simp) os rfl;intro n tg s a w aA xn V an;have bZ:n<ops.toList.length:=by
   grind
  rw[List.drop_eq_getElem_cons bZ]at aA;injection aA with pY hF
  have eA:ops[n]?=some o:=by
   grind
  have jz:o∈ops.toList:=pY ▸ List.getElem_mem bZ;have xo:=au o jz;have a6:∀ i,o.dst=some i->i<C.nt:=λi G=>by
   have:=xo;simp only[kW,Bool.and_eq_true]at this;grind
  simp only[List.length_cons,List.range'_succ,wpOpsIn,eA];obtain⟨κ,F,eB⟩:=V;unfold l2 at an;split at an
  ·rename_i oU d1 d2 r4;cases os with
   | nil=>exact an.1.elim
   | cons f' os=>
    cases os with
    | nil=>exact an.1.elim
    | cons kA os=>
     simp only at an;split at an
     ·rename_i res fR;obtain⟨ty,m,x,y,f1,f2,f3,f4,f5,f6,f7,f8,f9,f10,f11,f12,g1,dR,g3⟩:=S2 r4;have S5:=hF;have BR:n+1<ops.toList.length:=by
       grind
      rw[List.drop_eq_getElem_cons BR]at S5;injection S5 with afH S6
      have afI:n+2<ops.toList.length:=by
       grind
      rw[List.drop_eq_getElem_cons afI]at S6;injection S6 with awU afJ
      have afK:ops[n+1]?=some f':=by
       grind
      have awV:ops[n+2]?=some kA:=by
       grind
      have CG:d2<C.nt:=by
       have:=au f' (afH ▸ List.getElem_mem BR);simp only[kW,Bool.and_eq_true]at this;grind
      rw[M.kr,M.kr]at an;have b1:Region.wanted o (yielded ops a.tmps)=true:=by unfold Region.wanted;rw[g1]
      have cI:∀ a':Act,Region.wanted f' (yielded ops a'.tmps)=true:=λa'=>by unfold Region.wanted;rw[dR]
      have eC:∀ a':Act,Region.wanted kA (yielded ops a'.tmps)=true:=λa'=>by unfold Region.wanted;rw[g3]
      have:=afl (Q:=Q) (K:=λa' w'=>wpOpsIn (dv C.r) 0 C.P ops Q (List.range' (n+3) os.length) a' w') hT f1 f2 f3 f4 f5 f6 f7 f8 f9 f10 f11 f12 (a6 d1 f2) CG fR eB an.1 an.2.1
       λa' w' aX=>S4 os.length (by grind) os rfl (n+3) [] _ a' w' afJ (λp hp=>by cases hp) aX an.2.2
      rw[b1];simp only[if_true];refine Oper.wpIn_mono (λbT awW h1=>?_) this;simp only[List.length_cons,List.range'_succ,wpOpsIn,afK,cI,if_true];grind
     ·exact an.1.elim
  split at an
  ·exact an.1.elim
  ·rename_i az;have awX:o.guard=none:=by
    cases h:o.guard with
    | none=>rfl
    | some p=>
     rw[h]at az;simp only[kh]at az;grind
   rw[LJ eB az];simp only[Option.getD_none,if_true];split at an
   ·rename_i res fR;rw[r3 λab=>(Gd xn (gk:=none) (λk ao=>by cases ao) ab).run s.ad res fR,r3 λab=>(zc ab).run s.ad res fR]at an;refine Oper.wpIn_mono (λa' w' aX=>aG (n+1) _ _ a' w' hF (xn.gQ (λi G=>?_) λd k _ ao=>by grind) aX an.2.2) (wU hT cc xo fR a w κ F Q eB an.1 an.2.1);unfold ay.hP;rw[ay.CF G,ay.zf]
   ·split at an
    ·rename_i pr oa;obtain⟨ju,pV,l0⟩:=LH hT cc cD a6 oa;rw[r3 λab=>l0 (Ks ab),M.fG]at an;exact ju a w Q _ ⟨κ,F,eB⟩ an.1 (an.2.mono λy aM a' w' aX=>aG (n+1) _ _ a' w' hF (λp hp=>by cases hp) aX aM)
    ·exact an.1.elim
  ·rename_i g az;have Ge:∀ k,o.guard=some k->g=true->kh s.aw ops (some k)=some (some true):=λk ao aH=>by grind
   rw[LJ eB az];simp only[Option.getD_some];split at an
   ·rename_i bR c afL afM fR;split at an
    ·rename_i hg eJ xp;obtain⟨afN,afO⟩:=afy xp fR;rw[r3 λab=>by
      simp only[Bool.and_eq_true]at ab;exact λGf=>⟨(Gd xn (λk ao=>Ge k ao Gf) ab.1).run s.ad _ fR,(zc ab.2.1).run s.ad _ fR,afD xn (λk ao=>Ge k ao Gf) xp fR ab.2.2⟩]at an
     have CH:p5 ops ((s.fH hg).set o.dst (.hd g (use eJ).2)) (w7 ops tg o):=xn.gQ (λi G=>by rw[ay.CF G,ay.zf]) λd k au ao=>⟨g,(use eJ).2,by rw[au,ay.LL],by grind⟩
     cases g with
     | true=>
      simp only[if_true];obtain⟨h1,h2,h3⟩:=an.1 rfl;refine Oper.wpIn_mono (λa' w' aX=>aG (n+1) _ _ a' w' hF CH (b9.Li (av':=.hd true (use eJ).2) (afN a' w' aX) a6 λκ F v hv=>⟨λ_=>oQ hv h3,λh=>(by cases h)⟩) an.2) (wU hT cc xo fR a w κ F Q eB h1 h2)
     | false=>
      simp only[Bool.false_eq_true,if_false];refine⟨λ_ _=>trivial,aG (n+1) _ _ _ w hF CH ?_ an.2⟩;obtain⟨κ',F',afP⟩:=afO a w κ F eB;exact⟨κ',F',afP.set (av:=.hd false (use eJ).2) a6 ⟨λh=>(by cases h),λ_=>rfl⟩⟩
    ·cases g with
     | true=>
      simp only[if_true]at an ⊢;rw[M.kr,M.kr]at an;exact Oper.wpIn_mono (λa' w' aX=>aG (n+1) _ _ a' w' hF (λp hp=>by cases hp) aX an.2.2) (wU hT cc xo fR a w κ F Q eB an.1 an.2.1)
     | false=>
      simp only[Bool.false_eq_true,if_false]at an ⊢;exact⟨λ_ _=>trivial,aG (n+1) _ _ _ w hF (λp hp=>by cases hp) ⟨κ,F,eB.set (av:=.hd false (Sg afM (use afL).2)) a6 ⟨λh=>(by cases h),λ_=>rfl⟩⟩ an⟩
   ·split at an
    ·rename_i pr oa;obtain⟨ju,pV,l0⟩:=LH hT cc cD a6 oa;split at an
     ·rename_i gs n';obtain⟨c_,q2⟩:=pV gs n';rw[r3 λab Gf=>l0 (S0 xn (λk ao=>Ge k ao Gf) ab),M.fG]at an;have CH:∀ y,p5 ops (gs g y) (w7 ops tg o):=λy=>by
       obtain⟨v,hv⟩:=afE oa n' g y;exact xn.gQ (λi G=>by rw[hv,ay.CF G]) λd k au ao=>⟨g,v,by rw[hv,au,ay.LL],by grind⟩
      cases g with
      | true=>
       simp only[if_true];exact ju a w Q _ ⟨κ,F,eB⟩ (an.1 rfl) (an.2.mono λy aM a' w' aX=>aG (n+1) _ _ a' w' hF (CH y) (c_ y a' w' aX) aM)
      | false=>
       simp only[Bool.false_eq_true,if_false];exact⟨λ_ _=>trivial,aG (n+1) _ _ _ w hF (CH pr.d) (q2 a w ⟨κ,F,eB⟩) (by
        have h:=an.2;simp only[b3,Bool.false_eq_true,if_false]at h;exact h.2 pr.d rfl)⟩
     ·cases g with
      | true=>
       simp only[if_true]at an ⊢;rw[M.kr,M.fG]at an;exact ju a w Q _ ⟨κ,F,eB⟩ an.1 (an.2.mono λy aM a' w' aX=>aG (n+1) _ _ a' w' hF (λp hp=>by cases hp) aX aM)
      | false=>
       simp only[Bool.false_eq_true,if_false]at an ⊢;exact⟨λ_ _=>trivial,aG (n+1) _ _ _ w hF (λp hp=>by cases hp) ⟨κ,F,eB.set (av:=.hd false (use ((pr.st pr.d).aw (o.dst.getD 0))).2) a6 ⟨λh=>(by cases h),λ_=>rfl⟩⟩ an⟩
    ·exact an.1.elim
end
end Go.Fer
namespace Go.Fer
open Go.RowKit
section
variable {C:bQ} {T:Nat->ae} {a1:Nat->Option aJ} {s:ay} {res:dY}
theorem afQ{P:Program}:∀ (t:ae),t.kv=true->∀ {F F':Nat->Prop} {w w':World} {cs:List Value} {x:t.ah},bt P t F w cs x->bt P t F' w' cs x:=by
 intro t;induction t with
 | bool=>intro _ F F' w w' cs x h;exact h
 | int k=>intro _ F F' w w' cs x h;exact h
 | str=>intro _ F F' w w' cs x h;exact h
 | cy=>intro hc;cases hc
 | st t aG=>intro hc F F' w w' cs x h;simp only[bt]at h ⊢;exact aG hc h
 | ax a b fa ei=>
  intro hc F F' w w' cs x h;simp only[ae.kv,Bool.and_eq_true]at hc;simp only[bt]at h ⊢;grind
 | slice e aG=>intro hc;cases hc
 | array n e aG=>intro hc;cases hc
 | bq e aG=>intro hc;cases hc
 | map k v wm wo=>intro hc;cases hc
 | fn a b fa ei=>intro hc;cases hc
 | b5 a aG=>intro hc;cases hc
 | dO=>intro hc;cases hc
theorem S7{P:Program}{t:ae}(h:t.kv=true){F F':Nat->Prop}{w w':World}{v:Value}{x:t.ah}(hv:dP P t F w v x):dP P t F' w' v x:=⟨hv.1,afQ t h hv.2⟩
theorem Gg(a:Act){i j:Nat}(h:i≠j)(v u:Value):(a.put (some i) v).put (some j) u=(a.put (some j) u).put (some i) v:=by
 simp only[Act.put];rw[Array.setIfInBounds_comm _ _ h]
theorem Gh{P:Program}{ty kV y7:TypeId}(G:P.underlying ty=some (.map kV y7)){r:Nat}{ms:Array MapEntry}{clk:Nat}{w:World}(hw:w.heap[r]?=some (.map ms clk)){key u:Value}{f:Option (Nat×Value)}
  (dF:(Instr.checkKey ms.isEmpty 10000 kV key).run P w=.ok () w) (ar:(Instr.findKey kV key ms.toList).run P w=.ok f w) (hu:(∃ i,f=some (i,u))\/(f=none/\(zeroValue y7).run P w=.ok u w)) :
  (Instr.lookup ty (.map (some r)) key false).run P w=.ok u w:=by
 have eA:(getObj r).run P w=.ok (.map ms clk) w:=by simp[getObj,Sem.run,hw]
 rcases hu with⟨i,rfl⟩ | ⟨rfl,a_⟩
 ·simp only[Instr.lookup,Sem.run_bind,df G,Result.andThen_ok,Sem.run_pure,eA,dF,ar];rfl
 ·simp only[Instr.lookup,Sem.run_bind,df G,Result.andThen_ok,Sem.run_pure,eA,dF,ar,a_];rfl
theorem afR(hT:dw C.P T){gb hj oU:Oper}{ty:TypeId}{m x y:Operand}(iv:gb.op=.lookup ty m x false)(kg:hj.op=.mapEntry ty m x)(hU:oU.op=.mapUpdate ty m x y){dr:ay}(qH:dr.ad=s.ad)
  (o8:aT C.aL dr.aw m=aT C.aL s.aw m) (Fa:aT C.aL dr.aw x=aT C.aL s.aw x) (h:(bf C.aL T a1 (aT C.aL dr.aw) oU).run dr.ad=some res)
  {a:Act} {w:World} {κ:Nat->bm} {F:Nat->Prop} (V:ba C s a w κ F) (LO:(use (aT C.aL s.aw m)).1) (LP:(use (aT C.aL s.aw x)).1) :
  ∃ u n wE,∀ a':Act,a'.eval m=a.eval m->a'.eval x=a.eval x->
   (execOp a'.eval gb).run C.P w=.ok (.value u) w/\(execOp a'.eval gb).run C.P wE=.ok (.value u) wE/\(execOp a'.eval hj).run C.P w=.ok (.value (.tuple #[u,goInt n])) wE:=by
 simp only[bf,hU,qA,o8,Fa,qH]at h;split at h
 ·rename_i k v aH;obtain⟨kV,y7,G,mx,gO⟩:=(hT.bS aH (by simp)).mp;obtain⟨inf,l3,i1,i2,i3,i4,i5,i6⟩:=kc gO.ka;split at h
  ·rename_i xk;split at h
   ·rename_i b g tk;simp only[aq.eG,Option.bind_eq_some_iff,aq.run_bind,aq.eF,aq.bx]at h;obtain⟨⟨dn,nY⟩,hx,⟨my,nZ⟩,aM,h⟩:=h;split at h
    ·rename_i az;obtain⟨az,_⟩:=az;split at h
     ·rename_i k' hM es ab;simp only[Option.map_eq_some_iff]at h;obtain⟨RF,oT,rfl⟩:=h;obtain⟨e,rfl⟩:=kt oT;cases e;have an:bk C.P s.ad κ F w (use (aT C.aL s.aw m)).2 (a.eval m):=ct V m rfl LO;rw[tk]at an;have kz:=an.2 az.symm (by rw[ab];rfl);have eU:k.kv=true/\k.jT<=100:=by simpa [s6]using xk
      have tl:=BJ V hx (ct V x rfl LP);have Gi:∀ (F':Nat->Prop) w',dP C.P k F' w' (a.eval x) dn:=λF' w'=>S7 eU.1 tl;have aN:=V.bn b;unfold cg at aN;rw[ab]at aN;obtain⟨ms,clk,hw,tm⟩:=aN;have dF:∀ em w',(Instr.checkKey em 10000 kV (a.eval x)).run C.P w'=.ok () w':=λem w'=>(B5 (em:=em) (F:=λ_=>True) k 10000 eU.1 (by omega)).1 mx (Gi _ w');have S8:=tm.es;have SZ:∀ (j:Nat) (e:MapEntry) (p:k.ah×v.ah),ms.toList[j]?=some e->es[j]?=some p->∀ (F':Nat->Prop) w',dP C.P k F' w' e.key p.1:=λj e p h1 h2 F' w'=>S7 eU.1 (S8.2 j e p h1 h2).1;obtain⟨f,c_,q2⟩:=wP (F:=λ_=>True) (w:=w) (β:=v.ah) (xs:=es) (es:=ms.toList) xk mx (Gi _ w) S8.1 (λj e p h1 h2=>SZ j e p h1 h2 _ w);have eA:(getObj (κ b).ad).run C.P w=.ok (.map ms clk) w:=by simp[getObj,Sem.run,hw]
      obtain⟨gX,Ke,Fg,RG⟩:=tm;have bZ:(κ b).ad<w.heap.size:=(Array.getElem?_eq_some_iff.1 hw).1;have a_:∀ w',(zeroValue y7).run C.P w'=.ok l3 w':=λw'=>qB i1 i4;have o9:∀ (a':Act) (w':World) (u:Value),a'.eval m=a.eval m->a'.eval x=a.eval x->(Instr.lookup ty (.map (some (κ b).ad)) (a.eval x) false).run C.P w'=.ok u w'->(execOp a'.eval gb).run C.P w'=.ok (.value u) w':=by
       intro a' w' u e1 e2 aX;simp only[execOp,iv,e1,e2,kz,Sem.run_bind,aX,Result.andThen_ok,Sem.run_pure]
      have afS:∀ q:k.ah,gj k dn q=true<->dn=q:=λq=>Ka k eU.1 dn q;rcases q2 with⟨rfl,dZ⟩ | ⟨j,e,p,g1,dR,g3,g4,rfl⟩
      ·let b1:World:={ w with heap:=w.heap.setIfInBounds (κ b).ad (.map (ms.push { key:=a.eval x,val:=l3,born:=clk }) (clk+1)) }
       have ly:b1.heap[(κ b).ad]?=some (.map (ms.push { key:=a.eval x,val:=l3,born:=clk }) (clk+1)):=by grind
       obtain⟨ih,bX,cn⟩:=wP (F:=λ_=>True) (w:=b1) (β:=v.ah) (xs:=es++[(dn,v.cN)]) (es:=(ms.push { key:=a.eval x,val:=l3,born:=clk }).toList) xk mx (Gi _ b1) (by grind) (λj e p h1 h2=>by
        grind)
       have qY:∃ i,ih=some (i,l3):=by
        rcases cn with⟨_,dS⟩ | ⟨j,e,p,ed,dr,eg,od,rfl⟩
        ·have:=dS (dn,v.cN) (by simp);grind
        ·by_cases aC:j<es.length
         ·grind
         grind
       refine⟨l3,clk,b1,λa' e1 e2=>⟨o9 a' w l3 e1 e2 (Gh G hw (dF _ w) c_ (.inr ⟨rfl,a_ w⟩)),o9 a' b1 l3 e1 e2 (Gh G ly (dF _ b1) bX (.inl qY)),?_⟩⟩;simp only[execOp,kg,e1,e2,kz,Instr.mapEntry,Sem.run_bind,df G,Result.andThen_ok,eA,dF,c_,a_,rQ hw,Sem.run_pure];rfl
      ·have aC:j<es.length:=(List.getElem?_eq_some_iff.1 dR).1;have wQ:j<ms.size:=by omega
       have Kg:ms[j]=e:=by
        grind
       obtain⟨i_,b1,t1,t2,t3⟩:=Kc C.P w e.key (a.eval x);have ly:b1.heap[(κ b).ad]?=some (.map ms clk):=by rcases t3 with rfl | rfl<;>exact hw
       have SV:(κ b).ad<b1.heap.size:=(Array.getElem?_eq_some_iff.1 ly).1;have nv:((ms[j]?).map (·.key)).getD (a.eval x)=e.key:=by
        grind
       have LG:((ms[j]?).map (λx=>(x.born:Int))).getD 0=(ms[j].born:Int):=by grind
       rw[Nat.zero_add]at c_;have adv:dn=p.1:=(afS p.1).1 g3;let cI:World:={ b1 with heap:=b1.heap.setIfInBounds (κ b).ad (.map (ms.modify j λe=>{ e with key:=i_ }) clk) }
       have gA:cI.heap[(κ b).ad]?=some (.map (ms.modify j λe=>{ e with key:=i_ }) clk):=by grind
       have uK:∀ (F':Nat->Prop) w',dP C.P k F' w' i_ p.1:=λF' w'=>by
        grind
       have y4:∀ i,(ms.modify j λe=>{ e with key:=i_ }).toList[i]?=if i=j then some { e with key:=i_ } else ms.toList[i]?:=λi=>by
        grind
       obtain⟨ih,bX,cn⟩:=wP (F:=λ_=>True) (w:=cI) (β:=v.ah) (xs:=es) (es:=(ms.modify j λe=>{ e with key:=i_ }).toList) xk mx (Gi _ cI) (by grind) (λi aS p' h1 h2=>by
        rw[y4]at h1;grind)
       have qY:∃ i,ih=some (i,e.val):=by
        rcases cn with⟨_,dS⟩ | ⟨i,aS,p',ed,dr,eg,od,rfl⟩
        ·have:=dS p (List.mem_of_getElem? dR);rw[g3]at this;cases this
        ·have y8:i=j:=by
          rcases Nat.lt_trichotomy i j with h | h | h
          ·have:=g4 i p' h dr;rw[eg]at this;cases this
          ·exact h
          ·have:=od j p h dR;rw[g3]at this;cases this
         subst y8;rw[y4,if_pos rfl]at ed;cases ed;exact⟨_,rfl⟩
       refine⟨e.val,ms[j].born,cI,λa' e1 e2=>⟨o9 a' w e.val e1 e2 (Gh G hw (dF _ w) c_ (.inl ⟨_,rfl⟩)),o9 a' cI e.val e1 e2 (Gh G gA (dF _ cI) bX (.inl qY)),?_⟩⟩;simp only[execOp,kg,e1,e2,kz,Instr.mapEntry,Sem.run_bind,df G,Result.andThen_ok,eA,dF,c_];rw[nv,t1];simp only[Result.andThen_ok,rQ ly,Sem.run_pure,LG];rfl
     grind
    grind
   ·cases h
  ·cases h
 ·cases h
end
end Go.Fer
namespace Go.Fer
open Go.RowKit
section
variable {C:bQ} {T:Nat->ae} {a1:Nat->Option aJ} {Ψ:Nat->Option eH} {s:ay} {o:Oper} {Q:Exit->Act->World->Prop} {ops:Array Oper}
theorem M.afT{aj:Type}{m:M aj}(h:m.Cg){d x:aj}(hx:m.bC x):x=m.val d:=by
 unfold M.val;have he:∃ x,m.bC x:=⟨x,hx⟩
 rw[dif_pos he];exact h _ _ hx he.choose_spec
theorem S9(cc:iY C.P a1)(cD:lD C.P C.aL Ψ):iY C.P (FE a1 Ψ):=by
 intro k c h;unfold FE at h;split at h
 ·rename_i c7 LI;split at h
  ·rename_i au;cases h;simp only[Bool.and_eq_true,Bool.not_eq_true']at au;have h:=cD k _ LI;obtain⟨h1,h2⟩:hL C.P k c7.ts c7.tr c7.sh/\(c7.du=true->∀ x,(c7.sh x).Cg):=h;exact⟨λ_=>h1.yH λx hs=>⟨hs,λy aM=>M.afT (h2 au.1 x) aM⟩,λhe=>by rw[show nn c7.fc.tr=nn c7.tr from rfl,au.2]at he;cases he⟩
  grind
 ·rename_i c' hc;cases h;have h:nn c.tr=true/\B2 C.P k c:=cD k _ hc;exact⟨λhe=>(by rw[h.1]at he;cases he),λ_=>h.2⟩
 ·cases h
 ·exact cc k c h
theorem S_{β:Type}{m:M β}{O:β->Prop}:∀ (l:List Prop),M.b_ (Co l m) O->(∀ p∈l,p)/\M.b_ m O:=by
 intro l;induction l with
 | nil=>intro h;exact⟨λp hp=>(by cases hp),h⟩
 | cons p l aG=>
  intro h;simp only[Co]at h;rw[M.kr]at h;grind
theorem S'{c_ q2:Bool}{bR c:Prop}(h1:c_=true->bR)(h2:q2=true->c)(h:∀ p∈Ca c_ q2 bR c,p):bR/\c:=by
 unfold Ca at h;constructor
 ·cases c_ with
  | true=>grind
  | false=>simp_all
 ·cases q2 with
  | true=>grind
  | false=>simp_all
theorem Ta(hT:dw C.P T)(cc:iY C.P a1)(au:kW o C.nt=true){r:eo}(h:uU C.aL T a1 ops s o=some r)(hc:∀ p∈r.cs,p){a:Act}{w:World}(V:b9 C s a w){K:Act->World->Prop}
  (iu:∀ a' w',b9 C (r.hQ s) a' w'->K a' w') :
  if Region.wanted o (yielded ops a.tmps) then o.wpIn (dv C.r) 0 C.P a w K Q else (∀ f,o.about C.P w a.eval=some f->(dv C.r).fn f)/\K (a.put o.dst undef) w:=by
 have a6:∀ i,o.dst=some i->i<C.nt:=λi G=>by
  have:=au;simp only[kW,Bool.and_eq_true]at this;grind
 obtain⟨κ,F,eB⟩:=V;unfold uU at h;split at h
 ·cases h
 ·rename_i g az;rw[LJ eB az];split at h
  ·cases h
  ·rename_i res fR;split at h
   ·cases h;simp only[Option.getD_none,if_true];obtain⟨h1,h2⟩:=S' (λab=>(RX ab).run s.ad res fR) (λab=>(zc ab).run s.ad res fR) hc;exact Oper.wpIn_mono iu (wU hT cc au fR a w κ F Q eB h1 h2)
   ·rename_i b;split at h
    ·rename_i xp;cases h;have hc:∀ p∈Ca (rS (aT C.aL s.aw) o&&(mB (aT C.aL s.aw) o&&!res.eJ.zb)) true (b=true->res.bR/\(res.c/\(use res.eJ).1)) True,p:=hc;obtain⟨h1,_⟩:=S' (λab=>by
      simp only[Bool.and_eq_true,Bool.not_eq_true']at ab;exact λ_=>⟨(RX ab.1).run s.ad _ fR,(zc ab.2.1).run s.ad _ fR,Fo ab.2.2⟩) (λ_=>trivial) hc
     obtain⟨bR,c,eJ,hg⟩:=res;simp only at xp;subst xp;cases b with
     | true=>
      simp only[Option.getD_some,if_true];obtain⟨h1,h2,h3⟩:=h1 rfl;refine Oper.wpIn_mono (λa' w' aX=>iu a' w' ?_) (wU hT cc au fR a w κ F Q eB h1 h2);exact b9.Li (av':=.hd true (use eJ).2) aX a6 λκ F v hv=>⟨λ_=>oQ hv h3,λh=>(by cases h)⟩
     | false=>
      simp only[Option.getD_some,Bool.false_eq_true,if_false];exact⟨λ_ _=>trivial,iu _ _ ⟨κ,F,eB.set (av:=.hd false (use eJ).2) a6 ⟨λh=>(by cases h),λ_=>rfl⟩⟩⟩
    grind
theorem Tb(cl:List (List Nat)):∀ n,zm cl n<=n/\∀ j,zm cl n<=j->j<n->∀ i,i<j->i∈cl.getD j []
 | 0=>⟨Nat.le_refl _,λj _ h=>by omega⟩
 | n+1=>by
  unfold zm;split
  ·rename_i h;obtain⟨h1,h2⟩:=Tb cl n;refine⟨by omega,λj aC LQ i G=>?_⟩;by_cases e:j=n
   ·simp_all
   grind
  grind
theorem afU{n:Nat}(qZ:Cd ops.toList=true)(afV:∀ j,n<=j->j<ops.size->∀ i,i<j->i∈(h4 ops.toList).getD j []):∀ (k j bW:Nat) (listed:Array Bool) (a:Act) (w:World),n<=j->j+k=ops.size->listed.size=ops.size->
  (∀ i,listed.getD i false=decide (i<j))->k<=bW->wpOpsIn (dv C.r) 0 C.P ops Q (List.range' j k) a w->wpAnyIn (dv C.r) 0 C.P .any ops Q bW listed a w:=by
 intro k;induction k with
 | zero=>
  intro j bW listed a w afW afX bU ai ar h;have V:∀ i,i ∉ Region.ready .any ops listed:=λi G=>by
   rw[mem_ready]at G;grind
  have iw:Region.ready .any ops listed=[]:=List.eq_nil_iff_forall_not_mem.2 V;cases bW with
  | zero=>exact⟨iw,h⟩
  | succ bW=>exact⟨λ_=>h,λi G=>absurd G (V i)⟩
 | succ k aG=>
  intro j bW listed a w afW afX bU ai ar h;have aC:j<ops.size:=by omega
  cases bW with
  | zero=>omega
  | succ bW=>
   have p6:∀ q o,ops[q]?=some o->listed.getD q false=true->∀ i∈hR o,listed.getD i false=true:=λq o ag be i G=>by
    rw[ai]at be ⊢;have be:q<j:=by grind
    have:=List.all_eq_true.1 qZ q (by grind);grind
   have afY:∀ i,i∈Region.ready .any ops listed<->i=j:=λi=>by
    constructor
    ·intro G;rw[mem_ready]at G;obtain⟨h0,o,ag,Gj⟩:=G;have hin:i<ops.size:=(Array.getElem?_eq_some_iff.1 ag).1;have CJ:listed.getD i false=false:=by
      grind
     rw[ai]at CJ;have Fj:j<=i:=by grind
     by_cases e:i=j
     ·exact e
     ·exfalso;have r5:∀ k∈hR o,listed.getD k false=true:=by
       intro k ao;obtain⟨e,he,u5⟩:=List.mem_filterMap.1 ao;grind
      have CK:∀ k∈(h4 ops.toList).getD i [],listed.getD k false=true\/k=i:=by
       intro k ao;refine wZ (p:=λj=>listed.getD j false=true\/j=i) ops.toList [] (λj i G=>by grind) (λj hz j0 k ao aC=>?_) i k ao (.inr rfl);have k0:ops[j]?=some hz:=by grind
       rcases (by simp_all:listed.getD j false=true\/j=i) with aC | aC
       ·exact .inl (p6 j hz k0 aC k ao)
       ·subst aC;rw[ag]at k0;cases k0;exact .inl (r5 k ao)
      grind
    ·rintro rfl;rw[mem_ready];refine⟨?_,ops[i],by simp,λe he ab=>?_⟩
     ·grind
     ·have hin:e.on∈hR ops[i]:=List.mem_filterMap.2 ⟨e,by grind,by grind⟩;have:=List.all_eq_true.1 qZ i (by grind);grind
   refine⟨λV=>?_,λi G=>?_⟩
   ·simp_all
   ·obtain rfl:=(afY i).1 G;have eA:ops[i]?=some ops[i]:=by simp
    rw[List.range'_succ]at h;simp only[wpOpsIn,eA]at h;have next:∀ a w,wpOpsIn (dv C.r) 0 C.P ops Q (List.range' (i+1) k) a w->wpAnyIn (dv C.r) 0 C.P .any ops Q bW (listed.setIfInBounds i true) a w:=λa w cz=>by
     refine aG (i+1) bW _ a w (by omega) (by omega) (by grind) (λq=>?_) (by omega) cz;by_cases e:q=i
     ·simp_all
     ·rw[getD_set_ne false (Ne.symm e),ai,decide_eq_decide];omega
    unfold wpOpIn;rw[eA];simp only;split
    ·rename_i hw;rw[if_pos hw]at h;exact Oper.wpIn_mono next h
    grind
theorem afZ(hT:dw C.P T)(cc:iY C.P a1)(au:∀ o∈ops.toList,kW o C.nt=true){l:List eo}{s':ay}(hs:wV C.aL T a1 ops ops.toList s=some (l,s'))(cp:ze ops.toList l=true)
  (hc:∀ r∈l,∀ p∈r.cs,p) (tE:∀ a' w',b9 C s' a' w'->Q .normal a' w'):∀ (bW:Nat) (listed:Array Bool) (a:Act) (w:World),listed.size=ops.size->
   (∀ j o,ops[j]?=some o->listed.getD j false=true->∀ i∈hR o,listed.getD i false=true)->((List.range ops.size).filter λj=>!listed.getD j false).length<=bW->
   b9 C (jb l s λj=>listed.getD j false) a w->wpAnyIn (dv C.r) 0 C.P .any ops Q bW listed a w:=by
 obtain⟨hlen,rK,CL⟩:=R4 _ _ hs;simp only[ze,Bool.and_eq_true]at cp;obtain⟨qZ,LR⟩:=cp;have af0:∀ j o,ops[j]?=some o->∀ i∈hR o,i<j:=by
  intro j o ag i G;have aC:j<ops.toList.length:=by
   grind
  have:=List.all_eq_true.1 qZ j (by grind);grind
 have af1:∀ i j x y,i<j->l[i]?=some x->l[j]?=some y->((h4 ops.toList).getD j []).contains i=true\/x.apart y=true:=by
  intro i j x y y8 G aC;have zA:j<l.length:=(List.getElem?_eq_some_iff.1 aC).1;have:=List.all_eq_true.1 LR j (by grind);grind
 have CM:∀ listed:Array Bool,listed.size=ops.size->Region.ready .any ops listed=[]->∀ j,j<ops.size->listed.getD j false=true:=by
  intro listed bU V j;induction j using Nat.strongRecOn with
  | _ j aG=>
   intro aC;cases ai:listed.getD j false with
   | true=>rfl
   | false=>
    exfalso;have jz:j∈Region.ready .any ops listed:=by
     rw[mem_ready];refine⟨?_,ops[j],by simp,λe he ab=>?_⟩
     ·grind
     ·have hin:e.on∈hR ops[j]:=List.mem_filterMap.2 ⟨e,by grind,by grind⟩;grind
    grind
 have nD:∀ (listed:Array Bool) (a:Act) (w:World),listed.size=ops.size->Region.ready .any ops listed=[]->b9 C (jb l s λj=>listed.getD j false) a w->Q .normal a w:=by
  intro listed a w bU V jY;have fj:=CM listed bU V;refine tE a w ?_;have:jb l s (λj=>listed.getD j false)=s':=by
   rw[rK];unfold jb;rw[List.filter_eq_self.2 λp hp=>?_,Ce];obtain⟨_,h2⟩:=zg hp;grind
  grind
 intro bW;induction bW with
 | zero=>
  intro listed a w bU _ LS jY;have V:Region.ready .any ops listed=[]:=by
   cases V:Region.ready .any ops listed with
   | nil=>rfl
   | cons j awY=>
    exfalso;have jz:j∈Region.ready .any ops listed:=by grind
    rw[mem_ready]at jz;obtain⟨h0,o,ag,_⟩:=jz;have aC:=(Array.getElem?_eq_some_iff.1 ag).1;have:j∈(List.range ops.size).filter λj=>!listed.getD j false:=by
     grind
    grind
  exact⟨V,nD listed a w bU V jY⟩
 | succ bW aG=>
  intro listed a w bU p6 LS jY;refine⟨λV=>nD listed a w bU V jY,λi G=>?_⟩;rw[mem_ready]at G;obtain⟨h0,o,ag,Gj⟩:=G;have hin:i<ops.size:=(Array.getElem?_eq_some_iff.1 ag).1;have CJ:listed.getD i false=false:=by
   grind
  have jz:o∈ops.toList:=by
   grind
  have r5:∀ k∈hR o,listed.getD k false=true:=by
   intro k ao;obtain⟨e,he,u5⟩:=List.mem_filterMap.1 ao;grind
  obtain⟨r,V,fU⟩:=CL i o (by grind);have af2:∀ j k,k∈(h4 ops.toList).getD j []->listed.getD j false=true->listed.getD k false=true:=by
   refine wZ (p:=λj=>listed.getD j false=true) ops.toList [] (λj i G=>by grind) λj hz j0 k ao aC=>?_;exact p6 j hz (by grind) (by simpa using aC) k ao
  have CK:∀ k∈(h4 ops.toList).getD i [],listed.getD k false=true\/k=i:=by
   intro k ao;refine wZ (p:=λj=>listed.getD j false=true\/j=i) ops.toList [] (λj i G=>by grind) (λj hz j0 k ao aC=>?_) i k ao (.inr rfl);have k0:ops[j]?=some hz:=by grind
   rcases (by simpa using aC:listed.getD j false=true\/j=i) with aC | aC
   ·exact .inl (p6 j hz k0 aC k ao)
   ·subst aC;rw[ag]at k0;cases k0;exact .inl (r5 k ao)
  have gm:∀ j x,j<i->l[j]?=some x->listed.getD j false=false->x.apart r=true:=by
   grind
  have tv:∀ j x,i<j->l[j]?=some x->listed.getD j false=true->r.apart x=true:=by
   grind
  obtain⟨aO,aP,bA⟩:=R1 (s:=s) (f:=λj=>listed.getD j false) V CJ gm tv;have LU:=R5 fU aO aP;unfold wpOpIn;rw[ag];refine Ta hT cc (au o jz) LU (hc r (List.mem_of_getElem? V)) jY λa' w' aX=>?_;have eA:∀ j,(listed.setIfInBounds i true).getD j false=if j=i then true else listed.getD j false:=by
   intro j;by_cases e:j=i
   ·subst e;rw[if_pos rfl,Array.getD_eq_getD_getElem?,Array.getElem?_setIfInBounds_self_of_lt (by omega)];rfl
   ·rw[if_neg e,getD_set_ne false (Ne.symm e)]
  refine aG _ a' w' (by grind) (λj hz j0 aC k ao=>?_) ?_ ?_
  ·rw[eA]at aC ⊢;split
   ·rfl
   ·split at aC
    ·rename_i e;subst e;rw[ag]at j0;cases j0;exact r5 k ao
    ·exact p6 j hz j0 aC k ao
  ·have bZ:((List.range ops.size).filter λj=>!(listed.setIfInBounds i true).getD j false).length<((List.range ops.size).filter λj=>!listed.getD j false).length:=by
    have e1:(List.range ops.size).filter (λj=>!(listed.setIfInBounds i true).getD j false)=((List.range ops.size).filter λj=>!listed.getD j false).filter λj=>decide (j≠i):=by
     rw[List.filter_filter];apply List.filter_congr;intro j _;rw[eA];simp
    rw[e1];have LV:i∈(List.range ops.size).filter λj=>!listed.getD j false:=by
     grind
    exact List.length_filter_lt_length_iff_exists.2 ⟨i,LV,by simp⟩
   omega
  ·have:jb l s (λj=>(listed.setIfInBounds i true).getD j false)=r.hQ (jb l s λj=>listed.getD j false):=by
    rw[<-bA];congr 1;funext j;grind
   grind
def Gk(n:Nat)(l b e x:Bool)(listed:Array Bool):Prop:=∀ i,listed.getD i false=(decide (i<n)||(l&&decide (i=n))||(b&&decide (i=n+1))||(e&&decide (i=n+2))||(x&&decide (i=n+3)))
def l5(a:Act)(dH fo d1 d2:Nat)(u vB vE vX:Value)(l b e x:Bool):Act:=
 let bT:=if l=true then a.put (some dH) u else a
 let a2:=if b=true then bT.put (some fo) vB else bT
 let a3:=if e=true then a2.put (some d1) vE else a2
 if x=true then a3.put (some d2) vX else a3
theorem af3(a:Act)(d:Option Nat)(v:Value):(a.put d v).tmps.size=a.tmps.size:=by cases d<;>simp[Act.put]
theorem af4(a:Act)(dH fo d1 d2:Nat)(u vB vE vX:Value)(l b e x:Bool):(l5 a dH fo d1 d2 u vB vE vX l b e x).tmps.size=a.tmps.size:=by
 unfold l5;cases l<;>cases b<;>cases e<;>cases x<;>simp[af3]
theorem Tc{a:Act}{dH fo d1 d2:Nat}{u vB vE vX:Value}{l b e x:Bool}{y:Operand}(h1:y≠.tmp dH)(h2:y≠.tmp fo)(h3:y≠.tmp d1)(aR:y≠.tmp d2):(l5 a dH fo d1 d2 u vB vE vX l b e x).eval y=a.eval y:=by
 unfold l5;cases l<;>cases b<;>cases e<;>cases x<;>simp[zy,h1,h2,h3,aR]
theorem CN{o:Oper}{a:Act}{w w':World}{K:Act->World->Prop}{v:Value}(au:∀ c,o.op≠.defer c)(h:(execOp a.eval o).run C.P w=.ok (.value v) w')(ao:o.wpIn (dv C.r) 0 C.P a w K Q):K (a.put o.dst v) w':=by
 have:=ao.2;rw[yR au,h]at this;exact this
theorem af5{n:Nat}(Td:ops.size=n+5)(qZ:Cd ops.toList=true){gb h6 hj im lB:Oper}(xq:ops[n]?=some gb)(u6:ops[n+1]?=some h6)(zB:ops[n+2]?=some hj)(CO:ops[n+3]?=some im)(CP:ops[n+4]?=some lB)
  (CQ:gb.guard=none) (CR:h6.guard=none) (Gl:hj.guard=none) (Gm:im.guard=none) (Gn:lB.guard=none) (CS:∀ c,gb.op≠.defer c) (Gp:∀ c,h6.op≠.defer c) (Gq:∀ c,hj.op≠.defer c) (Gr:∀ c,im.op≠.defer c)
  (gm:∀ q,q<5->∀ i,i<n->i∈(h4 ops.toList).getD (n+q) []) (LW:n∈(h4 ops.toList).getD (n+1) []) (Te:n+2∈(h4 ops.toList).getD (n+3) []) (zC:∀ q,q<4->n+q∈(h4 ops.toList).getD (n+4) [])
  (Tf:∀ i∈hR hj,i<n) (Tg:∀ i∈hR im,i<n\/i=n+2)
  {dH fo d1 d2:Nat} (r6:gb.dst=some dH) (cQ:h6.dst=some fo) (CT:hj.dst=some d1) (Gs:im.dst=some d2) (_n1:dH≠fo) (dJ:dH≠d1) (jt:dH≠d2) (n4:fo≠d1) (CU:fo≠d2)
  {a:Act} {w wE:World} {u vB vE vX:Value}
  (Th:∀ b e x,(execOp (l5 a dH fo d1 d2 u vB vE vX false b e x).eval gb).run C.P (if e=true then wE else w)=.ok (.value u) (if e=true then wE else w))
  (Ti:∀ e x,(execOp (l5 a dH fo d1 d2 u vB vE vX true false e x).eval h6).run C.P (if e=true then wE else w)=.ok (.value vB) (if e=true then wE else w))
  (Tj:∀ l b x,(execOp (l5 a dH fo d1 d2 u vB vE vX l b false x).eval hj).run C.P w=.ok (.value vE) wE)
  (Tk:∀ l b,(execOp (l5 a dH fo d1 d2 u vB vE vX l b true false).eval im).run C.P wE=.ok (.value vX) wE)
  (h:wpOpsIn (dv C.r) 0 C.P ops Q (List.range' n 5) a w):∀ (bW:Nat) (listed:Array Bool),listed.size=ops.size->(∀ i,listed.getD i false=decide (i<n))->5<=bW->wpAnyIn (dv C.r) 0 C.P .any ops Q bW listed a w:=by
 let aI:=l5 a dH fo d1 d2 u vB vE vX;let W:=λe:Bool=>if e=true then wE else w
 have wt:∀ {o:Oper},o.guard=none->∀ a':Act,Region.wanted o (yielded ops a'.tmps)=true:=λh a'=>by unfold Region.wanted;rw[h]
 have Gt:lB.wpIn (dv C.r) 0 C.P (aI true true true true) wE (λa' w'=>Q .normal a' w') Q:=by
  have dB:List.range' n 5=[n,n+1,n+2,n+3,n+4]:=rfl;rw[dB]at h;simp only[wpOpsIn,xq,u6,zB,CO,CP,wt CQ,wt CR,wt Gl,wt Gm,wt Gn,if_true]at h;have h1:=CN (a:=aI false false false false) (w:=w) CS (Th false false false) h;rw[r6]at h1;have h2:=CN (a:=aI true false false false) (w:=w) Gp (Ti false false) h1;rw[cQ]at h2;have h3:=CN (a:=aI true true false false) (w:=w) Gq (Tj true true false) h2;rw[CT]at h3;have aR:=CN (a:=aI true true true false) (w:=wE) Gr (Tk true true) h3;rw[Gs]at aR;exact aR
 have af6:∀ {l b e x:Bool} {listed:Array Bool},Gk n l b e x listed->(b=true->l=true)->(x=true->e=true)->∀ q o,ops[q]?=some o->listed.getD q false=true->∀ i∈hR o,listed.getD i false=true:=by
  intro l b e x listed bb ab hx q o ag be i G;have af7:q<ops.size:=(Array.getElem?_eq_some_iff.1 ag).1;have awZ:i<q:=by
   have:=List.all_eq_true.1 qZ q (by grind);grind
  rw[bb]at be ⊢;grind
 have aw0:∀ {listed:Array Bool} {i:Nat},listed.size=ops.size->i<ops.size->(listed[i]?.getD true=false<->listed.getD i false=false):=by
  intro listed i bU G;rw[Array.getD_eq_getD_getElem?,Array.getElem?_eq_getElem (by omega)];rfl
 have af8:∀ {l b e x:Bool} {listed:Array Bool},Gk n l b e x listed->(b=true->l=true)->(x=true->e=true)->listed.size=ops.size->∀ i∈Region.ready .any ops listed,(i=n/\l=false)\/(i=n+1/\l=true/\b=false)\/(i=n+2/\e=false)\/(i=n+3/\e=true/\x=false)\/(i=n+4/\l=true/\b=true/\e=true/\x=true):=by
  intro l b e x listed bb ab hx bU i G;have p6:=af6 bb ab hx;rw[mem_ready]at G;obtain⟨h0,o,ag,Gj⟩:=G;have hin:i<ops.size:=(Array.getElem?_eq_some_iff.1 ag).1;have h0:listed.getD i false=false:=by
   grind
  have r5:∀ k∈hR o,listed.getD k false=true:=by
   intro k ao;obtain⟨e,he,u5⟩:=List.mem_filterMap.1 ao;split at u5
   ·rename_i ab;cases u5;grind
   grind
  have CK:∀ k∈(h4 ops.toList).getD i [],listed.getD k false=true\/k=i:=by
   intro k ao;refine wZ (p:=λj=>listed.getD j false=true\/j=i) ops.toList [] (λj i G=>by simp at G) (λj hz j0 k ao aC=>?_) i k ao (.inr rfl);have k0:ops[j]?=some hz:=by grind
   rcases (by simpa using aC:listed.getD j false=true\/j=i) with aC | aC
   ·exact .inl (p6 j hz k0 aC k ao)
   ·subst aC;rw[ag]at k0;cases k0;exact .inl (r5 k ao)
  rw[bb]at h0;simp only[Bool.or_eq_false_iff,Bool.and_eq_false_iff,decide_eq_false_iff_not]at h0;obtain⟨⟨⟨⟨gR,aO⟩,aP⟩,bA⟩,ga⟩:=h0;have Fj:n<=i:=by omega
  have af9:i=n\/i=n+1\/i=n+2\/i=n+3\/i=n+4:=by omega
  have flag:∀ q,q<4->n+q∈(h4 ops.toList).getD i []->n+q≠i->(if q=0 then l else if q=1 then b else if q=2 then e else x)=true:=by
   intro q be an dZ;rcases CK _ an with h | h
   ·rw[bb]at h;simp only[Bool.or_eq_true,Bool.and_eq_true,decide_eq_true_eq]at h;rcases h with (((h | ⟨h1,h⟩) | ⟨h1,h⟩) | ⟨h1,h⟩) | ⟨h1,h⟩
    ·omega
    ·grind
    ·have:q=1:=by omega
     subst this;exact h1
    ·have:q=2:=by omega
     subst this;exact h1
    ·have:q=3:=by omega
     subst this;exact h1
   omega
  rcases af9 with rfl | rfl | rfl | rfl | rfl
  ·grind
  ·exact .inr (.inl ⟨rfl,flag 0 (by omega) LW (by omega),by grind⟩)
  ·grind
  ·grind
  ·exact .inr (.inr (.inr (.inr ⟨rfl,flag 0 (by omega) (zC 0 (by omega)) (by omega),flag 1 (by omega) (zC 1 (by omega)) (by omega),flag 2 (by omega) (zC 2 (by omega)) (by omega),flag 3 (by omega) (zC 3 (by omega)) (by omega)⟩)))
 have af_:∀ {l b e x:Bool} {listed:Array Bool},Gk n l b e x listed->(b=true->l=true)->(x=true->e=true)->listed.size=ops.size->Region.ready .any ops listed≠[]:=by
  intro l b e x listed bb ab hx bU uQ;have mk:∀ i o,ops[i]?=some o->listed.getD i false=false->(∀ k∈hR o,listed.getD k false=true)->False:=by
   intro i o ag h0 au;have hin:i<ops.size:=(Array.getElem?_eq_some_iff.1 ag).1;have:i∈Region.ready .any ops listed:=by
    rw[mem_ready];refine⟨?_,o,ag,λe he ab=>au e.on (List.mem_filterMap.2 ⟨e,by grind,by grind⟩)⟩;grind
   grind
  have lt:∀ q o,ops[q]?=some o->∀ i∈hR o,i<q:=by
   intro q o ag i G;have af7:q<ops.size:=(Array.getElem?_eq_some_iff.1 ag).1;have:=List.all_eq_true.1 qZ q (by grind);rw[show ops.toList[q]?=some o by grind]at this;have:=List.all_eq_true.1 this i G;grind
  cases l with
  | false=>
   have oX:b=false:=by grind
   subst oX;exact mk n gb xq (by rw[bb];simp) λk ao=>by rw[bb];grind
  | true=>
   cases b with
   | false=>exact mk (n+1) h6 u6 (by rw[bb];simp) λk ao=>by rw[bb];grind
   | true=>
    cases e with
    | false=>
     have LX:x=false:=by grind
     subst LX;exact mk (n+2) hj zB (by rw[bb];simp) λk ao=>by rw[bb];grind
    | true=>
     cases x with
     | false=>exact mk (n+3) im CO (by rw[bb];simp) λk ao=>by rw[bb];grind
     | true=>exact mk (n+4) lB CP (by rw[bb];simp) λk ao=>by rw[bb];grind
 have CV:∀ {listed:Array Bool} (i:Nat),listed.size=ops.size->i<ops.size->∀ q,(listed.setIfInBounds i true).getD q false=(listed.getD q false||decide (q=i)):=by
  intro listed i bU G q;by_cases e:q=i
  ·grind
  grind
 let bV:=λ(l b e x:Bool)=>∀ (bW:Nat) (listed:Array Bool),Gk n l b e x listed->listed.size=ops.size->5<=bW+(l.toNat+b.toNat+e.toNat+x.toNat)->wpAnyIn (dv C.r) 0 C.P .any ops Q bW listed (aI l b e x) (W e);have step:∀ l b e x,(b=true->l=true)->(x=true->e=true)->(l=false->bV true b e x)->(l=true->b=false->bV l true e x)->(e=false->bV l b true x)->(e=true->x=false->bV l b e true)->bV l b e x:=by
  intro l b e x ab hx ed dr eg od bW listed bb bU r4;have aw1:l.toNat<=1/\b.toNat<=1/\e.toNat<=1/\x.toNat<=1:=⟨Bool.toNat_le l,Bool.toNat_le b,Bool.toNat_le e,Bool.toNat_le x⟩
  cases bW with
  | zero=>omega
  | succ bW=>
   refine⟨λV=>absurd V (af_ bb ab hx bU),λi G=>?_⟩;rcases af8 bb ab hx bU i G with⟨rfl,h1⟩ | ⟨rfl,h1,h2⟩ | ⟨rfl,h1⟩ | ⟨rfl,h1,h2⟩ | ⟨rfl,h1,h2,h3,aR⟩
   ·subst h1;have oX:b=false:=by grind
    subst oX;unfold wpOpIn;simp only[xq,wt CQ,if_true];refine gY CS (Th false e x) ?_;rw[r6];have yP:(aI false false e x).put (some dH) u=aI true false e x:=by
     simp only[aI,l5];cases e<;>cases x<;>simp[Gg _ dJ.symm,Gg _ jt.symm]
    show wpAnyIn _ _ _ _ _ _ _ _ ((aI false false e x).put (some dH) u) (W e);rw[yP];refine ed rfl bW _ (λq=>?_) (by grind) (by grind);rw[CV i bU (by omega),bb];by_cases be:q=i<;>simp[be]
   ·subst h1;subst h2;unfold wpOpIn;simp only[u6,wt CR,if_true];refine gY Gp (Ti e x) ?_;rw[cQ];have yP:(aI true false e x).put (some fo) vB=aI true true e x:=by
     simp only[aI,l5];cases e<;>cases x<;>simp[Gg _ n4.symm,Gg _ CU.symm]
    show wpAnyIn _ _ _ _ _ _ _ _ ((aI true false e x).put (some fo) vB) (W e);rw[yP];refine dr rfl rfl bW _ (λq=>?_) (by grind) (by grind);rw[CV (n+1) bU (by omega),bb];by_cases be:q=n+1<;>simp[be]
   ·subst h1;have LX:x=false:=by grind
    subst LX;unfold wpOpIn;simp only[zB,wt Gl,if_true];refine gY Gq (Tj l b false) ?_;rw[CT];show wpAnyIn _ _ _ _ _ _ _ _ (aI l b true false) (W true);refine eg rfl bW _ (λq=>?_) (by grind) (by grind);rw[CV (n+2) bU (by omega),bb];simp
   ·subst h1;subst h2;unfold wpOpIn;simp only[CO,wt Gm,if_true];refine gY Gr (Tk l b) ?_;rw[Gs];show wpAnyIn _ _ _ _ _ _ _ _ (aI l b true true) (W true);refine od rfl rfl bW _ (λq=>?_) (by grind) (by grind);rw[CV (n+3) bU (by omega),bb];simp
   ·subst h1;subst h2;subst h3;subst aR;unfold wpOpIn;simp only[CP,wt Gn,if_true];refine Oper.wpIn_mono (λa' w' be=>?_) Gt;have fj:∀ i,(listed.setIfInBounds (n+4) true).getD i false=decide (i<n+5):=λi=>by
     rw[CV (n+4) bU (by omega),bb,Bool.eq_iff_iff];simp only[Bool.or_eq_true,Bool.and_eq_true,decide_eq_true_eq,true_and];omega
    have V:∀ i,i ∉ Region.ready .any ops (listed.setIfInBounds (n+4) true):=λi G=>by
     rw[mem_ready]at G;obtain⟨h0,o,ag,_⟩:=G;grind
    have iw:Region.ready .any ops (listed.setIfInBounds (n+4) true)=[]:=List.eq_nil_iff_forall_not_mem.2 V;cases bW with
    | zero=>exact⟨iw,be⟩
    | succ bW=>exact⟨λ_=>be,λi G=>absurd G (V i)⟩
 have f:∀ {p:Prop},(true:Bool)=false->p:=λh=>by cases h
 have ih:∀ {p:Prop},(false:Bool)=true->p:=λh=>by cases h
 have Tl:bV true true true true:=step _ _ _ _ (λ_=>rfl) (λ_=>rfl) f (λ_=>f) f (λ_=>f);have Tm:bV true true true false:=step _ _ _ _ (λ_=>rfl) (λ_=>rfl) f (λ_=>f) f (λ_ _=>Tl);have af':bV true true false false:=step _ _ _ _ (λ_=>rfl) ih f (λ_=>f) (λ_=>Tm) ih;have Tn:bV true false true true:=step _ _ _ _ (λ_=>rfl) (λ_=>rfl) f (λ_ _=>Tl) f (λ_=>f);have To:bV true false true false:=step _ _ _ _ (λ_=>rfl) (λ_=>rfl) f (λ_ _=>Tm) f (λ_ _=>Tn);have aga:bV true false false false:=step _ _ _ _ (λ_=>rfl) ih f (λ_ _=>af') (λ_=>To) ih;have agb:bV false false true true:=step _ _ _ _ ih (λ_=>rfl) (λ_=>Tn) ih f (λ_=>f);have agc:bV false false true false:=step _ _ _ _ ih (λ_=>rfl) (λ_=>To) ih f (λ_ _=>agb);have agd:bV false false false false:=step _ _ _ _ ih ih (λ_=>aga) ih (λ_=>agc) ih;intro bW listed bU ai r4;exact agd bW listed (λi=>by grind) bU (by omega)
theorem age{n:Nat}(aA:n<=ops.size)(hT:dw C.P T)(cc:iY C.P a1)(au:∀ o∈ops.toList,kW o C.nt=true){l:List eo}{s':ay}(hs:wV C.aL T a1 ops (ops.toList.take n) s=some (l,s'))(cp:ze (ops.toList.take n) l=true)(afV:∀ j,n<=j->j<ops.size->∀ i,i<n->i∈(h4 ops.toList).getD j [])
  (hc:∀ r∈l,∀ p∈r.cs,p) (tE:∀ (bW:Nat) (listed:Array Bool) a' w',listed.size=ops.size->(∀ i,listed.getD i false=decide (i<n))->ops.size - n<=bW->b9 C s' a' w'->wpAnyIn (dv C.r) 0 C.P .any ops Q bW listed a' w'):∀ (bW:Nat) (listed:Array Bool) (a:Act) (w:World),listed.size=ops.size->
   (∀ j o,ops[j]?=some o->listed.getD j false=true->∀ i∈hR o,listed.getD i false=true)->(∀ i,n<=i->listed.getD i false=false)->((List.range ops.size).filter λj=>!listed.getD j false).length<=bW->
   b9 C (jb l s λj=>listed.getD j false) a w->wpAnyIn (dv C.r) 0 C.P .any ops Q bW listed a w:=by
 obtain⟨hlen,rK,CL⟩:=R4 _ _ hs;have Gc:(ops.toList.take n).length=n:=by grind
 have iv:∀ i,i<n->(ops.toList.take n)[i]?=ops[i]?:=λi G=>by
  grind
 simp only[ze,Bool.and_eq_true]at cp;obtain⟨qZ,LR⟩:=cp;have af0:∀ j o,j<n->ops[j]?=some o->∀ i∈hR o,i<j:=by
  intro j o LQ ag i G;have:=List.all_eq_true.1 qZ j (by grind);grind
 have af1:∀ i j x y,i<j->l[i]?=some x->l[j]?=some y->((h4 (ops.toList.take n)).getD j []).contains i=true\/x.apart y=true:=by
  intro i j x y y8 G aC;have zA:j<l.length:=(List.getElem?_eq_some_iff.1 aC).1;have:=List.all_eq_true.1 LR j (by grind);grind
 intro bW;induction bW with
 | zero=>
  intro listed a w bU _ oZ LS jY;have fj:∀ i,listed.getD i false=decide (i<n):=λi=>by
   by_cases G:i<n
   ·cases ai:listed.getD i false with
    | true=>grind
    | false=>
     exfalso;have:i∈(List.range ops.size).filter λj=>!listed.getD j false:=by
      grind
     grind
   grind
  refine tE 0 listed a w bU fj ?_ ?_
  ·by_cases bZ:n<ops.size
   ·have:n∈(List.range ops.size).filter λj=>!listed.getD j false:=by
     grind
    grind
   ·omega
  ·have:jb l s (λj=>listed.getD j false)=s':=by
    rw[rK];unfold jb;rw[List.filter_eq_self.2 λp hp=>?_,Ce];obtain⟨_,h2⟩:=zg hp;grind
   grind
 | succ bW aG=>
  intro listed a w bU p6 oZ LS jY;by_cases CM:∀ i,i<n->listed.getD i false=true
  ·have fj:∀ i,listed.getD i false=decide (i<n):=λi=>by
    grind
   refine tE (bW+1) listed a w bU fj ?_ ?_
   ·have h1:(List.range' n (ops.size - n)).length<=((List.range ops.size).filter λj=>!listed.getD j false).length:=by
     have e:(List.range ops.size).filter (λj=>!listed.getD j false)=List.range' n (ops.size - n):=by
      have h2:(List.range ops.size).filter (λj=>!listed.getD j false)=(List.range ops.size).filter λj=>decide (n<=j):=List.filter_congr λj _=>by
       grind
      rw[h2];have h3:List.range ops.size=List.range n++List.range' n (ops.size - n):=by
       rw[List.range_eq_range',List.range_eq_range'];have:=(List.range'_append (s:=0) (m:=n) (n:=ops.size - n) (step:=1))
       grind
      rw[h3,List.filter_append,List.filter_eq_nil_iff.2 λj aC=>by grind,List.filter_eq_self.2 λj aC=>by grind];rfl
     grind
    grind
   ·have:jb l s (λj=>listed.getD j false)=s':=by
     rw[rK];unfold jb;rw[List.filter_eq_self.2 λp hp=>?_,Ce];obtain⟨_,h2⟩:=zg hp;grind
    grind
  ·refine⟨λV=>absurd ?_ CM,λi G=>?_⟩
   ·intro j;induction j using Nat.strongRecOn with
    | _ j aw2=>
     intro aC;cases ai:listed.getD j false with
     | true=>rfl
     | false=>
      exfalso;have jz:j∈Region.ready .any ops listed:=by
       rw[mem_ready];refine⟨?_,ops[j],by simp,λe he ab=>?_⟩
       ·grind
       ·have hin:e.on∈hR ops[j]:=List.mem_filterMap.2 ⟨e,by grind,by grind⟩;grind
      grind
   ·rw[mem_ready]at G;obtain⟨h0,o,ag,Gj⟩:=G;have hin:i<ops.size:=(Array.getElem?_eq_some_iff.1 ag).1;have CJ:listed.getD i false=false:=by
     grind
    have jz:o∈ops.toList:=by
     grind
    have r5:∀ k∈hR o,listed.getD k false=true:=by
     intro k ao;obtain⟨e,he,u5⟩:=List.mem_filterMap.1 ao;split at u5
     ·rename_i ab;cases u5;exact Gj e (by simpa using he) ab
     ·cases u5
    have G:i<n:=by
     by_cases G:i<n
     ·exact G
     ·exfalso;have CK:∀ k∈(h4 ops.toList).getD i [],listed.getD k false=true\/k=i:=by
       intro k ao;refine wZ (p:=λj=>listed.getD j false=true\/j=i) ops.toList [] (λj i G=>by simp at G) (λj hz j0 k ao aC=>?_) i k ao (.inr rfl);have k0:ops[j]?=some hz:=by grind
       rcases (by simpa using aC:listed.getD j false=true\/j=i) with aC | aC
       ·exact .inl (p6 j hz k0 aC k ao)
       ·subst aC;rw[ag]at k0;cases k0;exact .inl (r5 k ao)
      grind
    obtain⟨r,V,fU⟩:=CL i o (by grind);have af2:∀ j k,k∈(h4 (ops.toList.take n)).getD j []->listed.getD j false=true->listed.getD k false=true:=by
     refine wZ (p:=λj=>listed.getD j false=true) (ops.toList.take n) [] (λj i G=>by simp at G) λj hz j0 k ao aC=>?_;have LQ:j<n:=by grind
     exact p6 j hz (by grind) (by simpa using aC) k ao
    have CK:∀ k∈(h4 (ops.toList.take n)).getD i [],listed.getD k false=true\/k=i:=by
     intro k ao;refine wZ (p:=λj=>listed.getD j false=true\/j=i) (ops.toList.take n) [] (λj i G=>by simp at G) (λj hz j0 k ao aC=>?_) i k ao (.inr rfl);have LQ:j<n:=by grind
     have k0:ops[j]?=some hz:=by grind
     rcases (by simpa using aC:listed.getD j false=true\/j=i) with aC | aC
     ·exact .inl (p6 j hz k0 aC k ao)
     ·subst aC;rw[ag]at k0;cases k0;exact .inl (r5 k ao)
    have gm:∀ j x,j<i->l[j]?=some x->listed.getD j false=false->x.apart r=true:=by
     grind
    have tv:∀ j x,i<j->l[j]?=some x->listed.getD j false=true->r.apart x=true:=by
     grind
    obtain⟨aO,aP,bA⟩:=R1 (s:=s) (f:=λj=>listed.getD j false) V CJ gm tv;have LU:=R5 fU aO aP;unfold wpOpIn;rw[ag];refine Ta hT cc (au o jz) LU (hc r (List.mem_of_getElem? V)) jY λa' w' aX=>?_;have eA:∀ j,(listed.setIfInBounds i true).getD j false=if j=i then true else listed.getD j false:=by
     intro j;by_cases e:j=i
     ·subst e;rw[if_pos rfl,Array.getD_eq_getD_getElem?,Array.getElem?_setIfInBounds_self_of_lt (by omega)];rfl
     ·rw[if_neg e,getD_set_ne false (Ne.symm e)]
    refine aG _ a' w' (by grind) (λj hz j0 aC k ao=>?_) (λq be=>by rw[eA,if_neg (by omega)];grind) ?_ ?_
    ·rw[eA]at aC ⊢;split
     ·rfl
     ·split at aC
      ·rename_i e;subst e;rw[ag]at j0;cases j0;exact r5 k ao
      ·exact p6 j hz j0 aC k ao
    ·have bZ:((List.range ops.size).filter λj=>!(listed.setIfInBounds i true).getD j false).length<((List.range ops.size).filter λj=>!listed.getD j false).length:=by
      have e1:(List.range ops.size).filter (λj=>!(listed.setIfInBounds i true).getD j false)=((List.range ops.size).filter λj=>!listed.getD j false).filter λj=>decide (j≠i):=by
       rw[List.filter_filter];apply List.filter_congr;intro j _;rw[eA];simp
      rw[e1];have LV:i∈(List.range ops.size).filter λj=>!listed.getD j false:=by
       grind
      exact List.length_filter_lt_length_iff_exists.2 ⟨i,LV,by simp⟩
     omega
    ·have:jb l s (λj=>(listed.setIfInBounds i true).getD j false)=r.hQ (jb l s λj=>listed.getD j false):=by
      rw[<-bA];congr 1;funext j;grind
     grind
theorem Tp{β:Type}{b:Bool}{p:Prop}{m:M β}{O:β->Prop}(h:M.b_ (rV b p m) O):M.b_ m O:=by
 cases b with
 | true=>exact h
 | false=>exact (M.kr.1 h).2
theorem agf{gb h6 hj im lB:Oper}(h:K2 gb h6 hj im lB=true):∃ ty m x Gu LY k c dH fo d1 d2 oU y,gb.op=.lookup ty m x false/\h6.op=.binOp .add Gu (.tmp dH) (.const (.int k c)) LY/\hj.op=.mapEntry ty m x/\im.op=.extract (.tmp d1) 1/\
  oU.op=.mapUpdate ty m x y/\zk hj im lB=some (oU,d1,d2)/\gb.dst=some dH/\h6.dst=some fo/\hj.dst=some d1/\im.dst=some d2/\fy k c/\(dH≠fo/\dH≠d1/\dH≠d2/\fo≠d1/\fo≠d2/\d1≠d2)/\
  (m≠.tmp dH/\m≠.tmp fo/\m≠.tmp d1/\m≠.tmp d2)/\(x≠.tmp dH/\x≠.tmp fo/\x≠.tmp d1/\x≠.tmp d2)/\(∃ ob,m=.tmp ob)/\(∃ LZ,x=.tmp LZ)/\gb.guard=none/\h6.guard=none/\hj.guard=none/\im.guard=none/\lB.guard=none:=by
 unfold K2 at h;split at h
 ·rename_i ty m x Gu t k c LY mr c8 dn iv aN kg;split at h
  ·rename_i dH fo oU d1 d2 r6 cQ r4;simp only[decide_eq_true_eq]at h;obtain⟨rfl,rfl,hin,e1,e2,dG,dJ,jt,n4,CU,Tq,ed,dr,bT,a2,a3,a4,dd,dV,j8,nh,c_,q2⟩:=h;obtain⟨aw3,aw4,aw5,aw6,f1,f2,f3,f4,f5,f6,f7,f8,f9,f10,f11,f12,g1,dR,g3⟩:=S2 r4;obtain⟨ob,tD⟩:=Option.isSome_iff_exists.1 ed;obtain⟨LZ,Ts⟩:=Option.isSome_iff_exists.1 dr;have em:=u4 tD;have ex:=u4 Ts;have agh:=u4 (e1.trans tD);have agi:=u4 (e2.trans Ts);rw[f1]at kg;simp only[Op.mapEntry.injEq]at kg;obtain⟨rfl,rfl,rfl⟩:=kg;subst em;subst ex;subst agh;subst agi;refine⟨_,_,_,_,_,_,_,_,_,_,_,oU,_,iv,aN,f1,f3,f7,r4,r6,cQ,f2,f4,hin,⟨dG,dJ,jt,n4,CU,Tq⟩,?_,?_,⟨_,rfl⟩,⟨_,rfl⟩,Option.isNone_iff_eq_none.1 c_,Option.isNone_iff_eq_none.1 q2,g1,dR,g3⟩
   ·simp only[hS,ne_eq,Option.some.injEq]at bT a2 a3 a4;exact⟨λe=>bT (by cases e;rfl),λe=>a2 (by cases e;rfl),λe=>a3 (by cases e;rfl),λe=>a4 (by cases e;rfl)⟩
   ·simp only[hS,ne_eq,Option.some.injEq]at dd dV j8 nh;exact⟨λe=>dd (by cases e;rfl),λe=>dV (by cases e;rfl),λe=>j8 (by cases e;rfl),λe=>nh (by cases e;rfl)⟩
  grind
 grind
theorem agj{β:Type}{n:Nat}(r0:FP ops.toList=true)(aA:n=ops.size - 5)(hT:dw C.P T)(cc:iY C.P a1)(cD:lD C.P C.aL Ψ)(au:∀ o∈ops.toList,kW o C.nt=true){k:ay->M β}{O:β->Prop}
  (ao:∀ s' a' w',b9 C s' a' w'->M.b_ (k s') O->Q .normal a' w') (an:M.b_ (l2 C.aL T a1 Ψ ops (ops.toList.drop n) [] s k) O) :
  (n<=ops.size/\∀ j,n<=j->j<ops.size->∀ i,i<n->i∈(h4 ops.toList).getD j [])/\∀ (a:Act) (w:World),b9 C s a w->∀ (bW:Nat) (listed:Array Bool),listed.size=ops.size->(∀ i,listed.getD i false=decide (i<n))->ops.size - n<=bW->wpAnyIn (dv C.r) 0 C.P .any ops Q bW listed a w:=by
 unfold FP at r0;rw[show ops.toList.length - 5=n by grind]at r0;split at r0
 ·rename_i gb h6 hj im lB Tt;simp only[Bool.and_eq_true,List.all_eq_true,List.mem_range,List.contains_eq_mem,decide_eq_true_eq,Bool.or_eq_true]at r0;obtain⟨agk,⟨⟨⟨⟨⟨qZ,gm⟩,LW⟩,Te⟩,zC⟩,Tf⟩,Tg⟩:=r0;have Td:ops.size=n+5:=by
   have:=congrArg List.length Tt;grind
  have CW:∀ q (o:Oper),[gb,h6,hj,im,lB][q]?=some o->ops[n+q]?=some o:=λq o h=>by
   grind
  have xq:=CW 0 gb rfl;have u6:=CW 1 h6 rfl;have zB:=CW 2 hj rfl;have CO:=CW 3 im rfl;have CP:=CW 4 lB rfl;have mem:∀ {q o},ops[n+q]?=some o->o∈ops.toList:=λh=>by
   grind
  obtain⟨ty,m,x,Gu,LY,eU,c,dH,fo,d1,d2,oU,y,iv,aN,kg,zw,hU,s_,r6,cQ,CT,Gs,hin,⟨dG,dJ,jt,n4,CU,Tq⟩,⟨m1,m2,m3,m4⟩,⟨wI,wH,Tu,agl⟩,⟨ob,em⟩,⟨LZ,ex⟩,CQ,CR,Gl,Gm,Gn⟩:=agf agk;have CS:∀ c,gb.op≠.defer c:=by grind
  have Gp:∀ c,h6.op≠.defer c:=by grind
  have Gq:∀ c,hj.op≠.defer c:=by grind
  have Gr:∀ c,im.op≠.defer c:=by grind
  refine⟨⟨by omega,λj h1 h2 i G=>by have:=gm (j - n) (by omega) i G;simp_all⟩,λa w V bW listed bU ai r4=>?_⟩;have Tv:=LN (Q:=Q) hT cc cD au ao _ n [] s a w rfl (λp hp=>by cases hp) V an;rw[show (ops.toList.drop n).length=5 by grind]at Tv;rw[Tt]at an;obtain⟨κ,F,eB⟩:=V;have gd:∀ {o:Oper},o.guard=none->∀ s:ay,kh s.aw ops o.guard=some none:=λh s=>by rw[h];rfl
  have Tw:∀ {o:Oper} {os},(∀ ty m x,o.op≠.mapEntry ty m x)->zl o os=none:=λ{o os} h=>by
   unfold zl;split
   ·unfold zk;simp
   ·rfl
  have Gc:zl gb [h6,hj,im,lB]=none:=Tw (by grind);unfold l2 at an;rw[Gc]at an;simp only[gd CQ]at an;split at an
  ·rename_i tF Gv;rw[r3 λab=>(Gd (s:=s) (λp hp=>by cases hp) (gk:=none) (λk ao=>by cases ao) ab).run s.ad tF Gv,r3 λab=>(zc ab).run s.ad tF Gv]at an;obtain⟨L0,agm,an⟩:=an;have agn:=wU hT cc (au gb (mem xq)) Gv;have xr:=Gv;simp only[bf,iv,yN]at xr;have ago:(use (aT C.aL s.aw m)).1/\(use (aT C.aL s.aw x)).1/\tF.hg=[]/\∃ v u,tF.eJ=.val v u:=by
    split at xr
    ·rename_i i_ aw7 aw8;split at xr
     ·simp only[aq.eG,Option.bind_eq_some_iff,bz,aq.bx,Option.some.injEq]at xr;obtain⟨es,oT,⟨y,l⟩,aM,rfl⟩:=xr;exact⟨L0.1,L0.2,rfl,_,_,rfl⟩
     ·cases xr
    ·cases xr
   obtain⟨LO,LP,Tx,Ty,Tz,agp⟩:=ago;have agq:zl h6 [hj,im,lB]=none:=Tw (by grind);unfold l2 at an;rw[agq]at an;simp only[gd CR]at an;split at an
   ·rename_i L1 agr;have an:=Tp (Tp an);have u7:=agr;have e1:(s.hP gb.dst tF).aw dH=.val Ty Tz:=by rw[r6,ay.hP,ay.LL,agp]
    have lA:wC (.int eU c)=.val (.int eU) c:=by simp[wC,hin]
    have ags:∃ bT,Ty=.int eU/\L1.hg=[]/\bT=Tz:=by
     simp only[bf,aN,aT,e1,lA,use,aD.lX,aD.s4]at u7;split at u7
     ·rename_i aO bT aP dd h1 h2;split at h1
      ·rename_i bA Tu h3;cases h2;cases h3;cases h1;split at u7
       ·rename_i uK;simp only[yJ,bz,aq.bx,Option.some.injEq]at u7;grind
       ·cases u7
      grind
     ·rename_i oZ;exfalso;split at u7
      ·grind
      ·simp only[aq.eG,Option.bind_eq_some_iff]at u7;obtain⟨⟨c',hM⟩,h1,h2⟩:=u7;simp only[yK,aq.eG,Option.bind_eq_some_iff,aq.bx]at h1;grind
    obtain⟨k1,rfl,TA,rfl⟩:=ags;have ij:((s.hP gb.dst tF).hP h6.dst L1).ad=s.ad:=by
     simp only[ay.hP,Tx,TA,ay.fH,r6,cQ,ay.set]
    have eb:∀ {t:Nat},t≠dH->t≠fo->((s.hP gb.dst tF).hP h6.dst L1).aw t=s.aw t:=λ{t} h1 h2=>by
     simp only[ay.hP,Tx,TA,ay.fH];rw[ay.CF (by grind),ay.CF (by grind)]
    unfold l2 at an;rw[show zl hj [im,lB]=some (oU,d1,d2) from s_]at an;simp only at an;split at an
    ·rename_i aw9 agt;obtain⟨u,l6,wE,TB⟩:=afR (s:=s) hT iv kg hU ij (by rw[em];exact eb (λe=>m1 (by grind)) (λe=>m2 (by grind))) (by rw[ex];exact eb (λe=>wI (by grind)) (λe=>wH (by grind))) agt eB LO LP;have agu:=(TB a rfl rfl).1;have agv:=CN (K:=λa' w'=>b9 C (s.hP gb.dst tF) a' w') (Q:=Q) CS agu (agn a w κ F Q eB L0 agm);have TC:dH<a.tmps.size:=by
      have:=au gb (mem xq);simp only[kW,Bool.and_eq_true]at this;have:=this.1;rw[r6]at this;have h1:=eB.di;grind
     have aw_:d1<a.tmps.size:=by
      have:=au hj (mem zB);simp only[kW,Bool.and_eq_true]at this;have:=this.1;rw[CT]at this;have h1:=eB.di;grind
     have hu:u=.int eU k1:=by
      obtain⟨aeO,zz,gn⟩:=agv;have h1:=gn.bE dH;rw[e1,r6]at h1;have h2:(a.put (some dH) u).tmps.getD dH Go.undef=u:=CB TC;rw[h2]at h1;exact (gy.1 h1).1
     subst hu;let vB:Value:=.int eU (eU.wrap (k1+c));have agw:∀ (a':Act) (w':World),a'.eval (.tmp dH)=.int eU k1->(execOp a'.eval h6).run C.P w'=.ok (.value vB) w':=λa' w' h=>by
      have h2:a'.eval (.const (.int eU c))=.int eU c:=rfl;have h3:(Go.binOp .add Gu (.int eU k1) (.int eU c)).run C.P w'=.ok vB w':=by simp[Go.binOp,Op.intArith,vB]
      simp only[execOp,aN,h,h2,Sem.run_bind,Q0,Result.andThen_ok,h3,Sem.run_pure]
     have agx:∀ (a':Act) (w':World),a'.eval (.tmp d1)=.tuple #[.int eU k1,goInt l6]->(execOp a'.eval im).run C.P w'=.ok (.value (goInt l6)) w':=λa' w' h=>by
      simp[execOp,zw,h,Instr.extract]
     have LC:∀ l b e dn,(l5 a dH fo d1 d2 (.int eU k1) vB (.tuple #[.int eU k1,goInt l6]) (goInt l6) l b e dn).eval m=a.eval m:=λl b e dn=>Tc m1 m2 m3 m4;have agy:∀ l b e dn,(l5 a dH fo d1 d2 (.int eU k1) vB (.tuple #[.int eU k1,goInt l6]) (goInt l6) l b e dn).eval x=a.eval x:=λl b e dn=>Tc wI wH Tu agl;refine af5 (wE:=wE) (u:=.int eU k1) (vB:=vB) (vE:=.tuple #[.int eU k1,goInt l6]) (vX:=goInt l6) Td qZ xq u6 zB CO CP CQ CR Gl Gm Gn CS Gp Gq Gr gm LW Te zC Tf Tg r6 cQ CT Gs dG dJ jt n4 CU ?_ ?_ ?_ ?_ Tv bW listed bU ai (by omega)
     ·intro b e dn;have:=TB _ (LC false b e dn) (agy false b e dn);cases e
      ·exact this.1
      ·exact this.2.1
     ·intro e dn;refine agw _ _ ?_;have h1:(l5 a dH fo d1 d2 (.int eU k1) vB (.tuple #[.int eU k1,goInt l6]) (goInt l6) true false e dn).eval (.tmp dH)=(a.put (some dH) (.int eU k1)).eval (.tmp dH):=by
       have c_:Operand.tmp dH≠.tmp d1:=λh=>dJ (by grind);have q2:Operand.tmp dH≠.tmp d2:=λh=>jt (by grind);unfold l5;cases e<;>cases dn<;>simp[zy,c_,q2]
      rw[h1];exact CB TC
     ·grind
     ·intro l b;refine agx _ _ ?_;have h1:l5 a dH fo d1 d2 (.int eU k1) vB (.tuple #[.int eU k1,goInt l6]) (goInt l6) l b true false=(l5 a dH fo d1 d2 (.int eU k1) vB (.tuple #[.int eU k1,goInt l6]) (goInt l6) l b false false).put (some d1) (.tuple #[.int eU k1,goInt l6]):=rfl;rw[h1];exact CB (by rw[af4];omega)
    ·exact an.1.elim
   ·rename_i aw';exfalso;have:qQ C.aL T a1 Ψ (s.hP gb.dst tF) h6=none:=by
     have lA:wC (.int eU c)=.val (.int eU) c:=by simp[wC,hin]
     simp only[qQ,aN,Cm,aT,lA];simp
    rw[this]at an;exact an.1
  ·exfalso;have:qQ C.aL T a1 Ψ s gb=none:=by simp only[qQ,iv]
   rw[this]at an;exact an.1
 grind
theorem agz{β:Type}{L:List (ay->M β)}(iv:L≠[]){o:Oper}(hT:dw C.P T)(cc:iY C.P a1)(cD:lD C.P C.aL Ψ)(xo:kW o C.nt=true){O:β->Prop}{s:ay}{a:Act}{w:World}(V:b9 C s a w)
  (an:∀ k∈L,M.b_ (FR C.aL T a1 Ψ ops o s k) O) {K:Act->World->Prop} (iu:∀ s' a' w',b9 C s' a' w'->(∀ k∈L,M.b_ (k s') O)->K a' w'):o.guard=none/\o.wpIn (dv C.r) 0 C.P a w K Q:=by
 obtain⟨gR,lz⟩:=List.exists_mem_of_ne_nil L iv;have a6:∀ i,o.dst=some i->i<C.nt:=λi G=>by
  have:=xo;simp only[kW,Bool.and_eq_true]at this;grind
 unfold FR at an;split at an
 ·exact (an gR lz).1.elim
 ·rename_i az;refine⟨az,?_⟩;split at an
  ·rename_i res fR;obtain⟨κ,F,eB⟩:=V;have an:∀ k∈L,res.bR/\res.c/\M.b_ (k (s.hP o.dst res)) O:=λk ao=>by
    have:=an k ao;rw[r3 λab=>(Gd (ops:=ops) (tg:=[]) (s:=s) (λp hp=>by cases hp) (gk:=none) (λk ao=>by cases ao) ab).run s.ad res fR,r3 λab=>(zc ab).run s.ad res fR]at this;omega
   exact Oper.wpIn_mono (λa' w' aX=>iu _ a' w' aX λk ao=>(an k ao).2.2) (wU hT cc xo fR a w κ F Q eB (an gR lz).1 (an gR lz).2.1)
  ·split at an
   ·rename_i pr oa;obtain⟨ju,pV,l0⟩:=LH hT cc cD a6 oa;have an:∀ k∈L,pr.bR/\M.b_ pr.m λy=>M.b_ (k (pr.st y)) O:=λk ao=>by
     have:=an k ao;rw[r3 λab=>l0 (Ks ab),M.fG]at this;omega
    refine ju a w Q _ V (an gR lz).1 ⟨(an gR lz).2.1,λy aM a' w' aX=>iu _ a' w' aX λk ao=>(an k ao).2.2 y aM⟩
   ·exact (an gR lz).1.elim
theorem agA{ops:List Oper}{done:List Nat}{i:Nat}:i∈uZ ops done<->i<ops.length/\i ∉ done/\∃ o,ops[i]?=some o/\∀ j∈hR o,j∈done:=by
 unfold uZ;grind
theorem TD{ops:List Oper}:∀ (f:Nat) (done:List Nat),qR ops f done≠[]
 | 0,done=>by simp[qR]
 | f+1,done=>by
  unfold qR;split
  ·simp
  ·rename_i l ai;cases hc:uZ ops done with
   | nil=>grind
   | cons i bS=>
    rw[List.flatMap_cons];intro h;rw[List.append_eq_nil_iff,List.map_eq_nil_iff]at h;exact TD f _ h.1
theorem Gw{listed:Array Bool}{done:List Nat}(bU:listed.size=ops.size)(ai:∀ i,listed.getD i false=done.contains i):Region.ready .any ops listed=uZ ops.toList done:=by
 unfold Region.ready uZ;rw[Array.length_toList];refine List.filter_congr λi G=>?_;have G:i<ops.size:=by grind
 have h1:listed.getD i true=done.contains i:=by
  grind
 rw[h1];congr 1;have ag:ops.toList[i]?=some ops[i]:=by simp
 rw[ag,Array.getElem?_eq_getElem G];show ops[i].after.all _=(hR ops[i]).all _;rw[Bool.eq_iff_iff,Array.all_eq_true',List.all_eq_true];unfold hR;grind
theorem agB{β:Type}(hT:dw C.P T)(cc:iY C.P a1)(cD:lD C.P C.aL Ψ)(au:∀ o∈ops.toList,kW o C.nt=true){k:ay->M β}{O:β->Prop}(ao:∀ s' a' w',b9 C s' a' w'->M.b_ (k s') O->Q .normal a' w'):∀ (bW:Nat) (done:List Nat) (listed:Array Bool) (s:ay) (a:Act) (w:World),listed.size=ops.size->(∀ i,listed.getD i false=done.contains i)->FQ ops.toList bW done=true->
  b9 C s a w->(∀ l∈qR ops.toList bW done,M.b_ (zn C.aL T a1 Ψ ops l s k) O)->wpAnyIn (dv C.r) 0 C.P .any ops Q bW listed a w:=by
 intro bW;induction bW with
 | zero=>
  intro done listed s a w bU ai az V an;have n5:=Gw (ops:=ops) bU ai;refine⟨?_,ao s a w V (an [] (by simp[qR]))⟩;rw[n5];exact List.isEmpty_iff.1 az
 | succ bW aG=>
  intro done listed s a w bU ai az V an;have n5:=Gw (ops:=ops) bU ai;refine⟨λh0=>?_,λi G=>?_⟩
  ·rw[n5]at h0;refine ao s a w V (an [] ?_);unfold qR;grind
  ·rw[n5]at G;obtain⟨pX,hin,o,ag,_⟩:=agA.1 G;have pX:i<ops.size:=by omega
   have j0:ops[i]?=some o:=by grind
   have agC:o∈ops.toList:=List.mem_of_getElem? ag;have jz:∀ l∈qR ops.toList bW (i::done),M.b_ (FR C.aL T a1 Ψ ops o s λs'=>zn C.aL T a1 Ψ ops l s' k) O:=λl hle=>by
    have:=an (i::l) (by
     unfold qR;grind)
    unfold zn at this;grind
   obtain⟨g1,dR⟩:=agz (Q:=Q) (L:=(qR ops.toList bW (i::done)).map λl=>λs'=>zn C.aL T a1 Ψ ops l s' k) (by simpa using TD bW (i::done)) hT cc cD (au o agC) V
    (λk' agD=>by obtain⟨l,hle,rfl⟩:=List.mem_map.1 agD;exact jz l hle)
    (K:=wpAnyIn (dv C.r) 0 C.P .any ops Q bW (listed.setIfInBounds i true)) λs' a' w' aX Sz=>by
     refine aG (i::done) _ s' a' w' (by grind) (λj=>?_) ?_ aX λl hle=>Sz _ (List.mem_map.2 ⟨l,hle,rfl⟩)
     ·by_cases e:j=i
      ·simp_all
      ·rw[getD_set_ne false (Ne.symm e),ai j];simp[e]
     ·unfold FQ at az;grind
   unfold wpOpIn;rw[j0];simp only;have hw:Region.wanted o (yielded ops a.tmps)=true:=by unfold Region.wanted;rw[g1]
   grind
theorem TE{β:Type}(hT:dw C.P T)(cc:iY C.P a1)(cD:lD C.P C.aL Ψ)(au:∀ o∈ops.toList,kW o C.nt=true){k:ay->M β}{O:β->Prop}
  (ao:∀ s' a' w',b9 C s' a' w'->M.b_ (k s') O->Q .normal a' w') {a:Act} {w:World} (V:b9 C s a w) (an:M.b_ (zo C.aL T a1 Ψ ops s k) O):wpAnyIn (dv C.r) 0 C.P .any ops Q ops.size (Array.replicate ops.size false) a w.drew:=by
 unfold zo at an;split at an
 ·rename_i l s' hs;split at an
  ·rename_i cp;obtain⟨h1,h2⟩:=S_ _ an;obtain⟨κ,F,eB⟩:=V;refine afZ hT cc au hs cp (λr V p hp=>h1 p (List.mem_flatMap.2 ⟨r,V,hp⟩)) (λa' w' aX=>ao s' a' w' aX h2) ops.size (Array.replicate ops.size false) a _ (by simp) (λj o _ ai=>?_) ?_ ⟨κ,F,?_⟩
   ·have:(Array.replicate ops.size false).getD j false=false:=by
     rw[Array.getD_eq_getD_getElem?,Array.getElem?_replicate];grind
    grind
   ·grind
   ·have:jb l s (λj=>(Array.replicate ops.size false).getD j false)=s:=by
     unfold jb;rw[List.filter_eq_nil_iff.2 λp _=>?_]
     ·rfl
     ·simp only[Array.getD_eq_getD_getElem?,Array.getElem?_replicate];grind
    rw[this];exact eB.drew
  ·exact an.1.elim
 ·split at an
  ·rename_i l s' hs;split at an
   ·rename_i cp;rw[Bool.and_eq_true]at cp;obtain⟨h1,h2⟩:=S_ _ an;obtain⟨κ,F,eB⟩:=V;have cont:(lC ops.toList<=ops.size/\∀ j,lC ops.toList<=j->j<ops.size->∀ i,i<lC ops.toList->i∈(h4 ops.toList).getD j [])/\∀ (bW:Nat) (listed:Array Bool) a' w',listed.size=ops.size->(∀ i,listed.getD i false=decide (i<lC ops.toList))->ops.size - lC ops.toList<=bW->b9 C s' a' w'->wpAnyIn (dv C.r) 0 C.P .any ops Q bW listed a' w':=by
     by_cases r0:FP ops.toList=true
     ·have en:lC ops.toList=ops.size - 5:=by unfold lC;grind
      obtain⟨e1,e2⟩:=agj (Q:=Q) r0 en hT cc cD au ao h2;grind
     ·have en:lC ops.toList=zm (h4 ops.toList) ops.toList.length:=by unfold lC;grind
      obtain⟨pY,hF⟩:=Tb (h4 ops.toList) ops.toList.length;have pY:lC ops.toList<=ops.size:=by grind
      have hF:∀ j,lC ops.toList<=j->j<ops.size->∀ i,i<j->i∈(h4 ops.toList).getD j []:=λj h1 h2=>hF j (by omega) (by omega);refine⟨⟨pY,λj h1 h2 i G=>hF j h1 h2 i (by omega)⟩,λbW listed a' w' bU fj r4 aX=>?_⟩;refine afU cp.2 hF (ops.size - lC ops.toList) (lC ops.toList) bW listed a' w' (Nat.le_refl _) (by omega) bU fj r4 ?_;have hlen:(ops.toList.drop (lC ops.toList)).length=ops.size - lC ops.toList:=by simp
      rw[<-hlen];exact LN (Q:=Q) hT cc cD au ao _ _ [] s' a' w' rfl (λp hp=>by cases hp) aX h2
    obtain⟨⟨pY,hF⟩,axa⟩:=cont;refine age pY hT cc au hs cp.1 hF (λr V p hp=>h1 p (List.mem_flatMap.2 ⟨r,V,hp⟩)) (λbW listed a' w' bU fj r4 aX=>?_) ops.size (Array.replicate ops.size false) a _ (by simp) (λj o _ ai=>?_) (λi _=>?_) ?_ ⟨κ,F,?_⟩
    ·grind
    ·have:(Array.replicate ops.size false).getD j false=false:=by
      rw[Array.getD_eq_getD_getElem?,Array.getElem?_replicate];grind
     grind
    ·rw[Array.getD_eq_getD_getElem?,Array.getElem?_replicate];grind
    ·grind
    ·have:jb l s (λj=>(Array.replicate ops.size false).getD j false)=s:=by
      unfold jb;rw[List.filter_eq_nil_iff.2 λp _=>?_]
      ·rfl
      ·simp only[Array.getD_eq_getD_getElem?,Array.getElem?_replicate];grind
     rw[this];exact eB.drew
   ·exact an.1.elim
  ·unfold Si at an;split at an
   ·rename_i yZ;obtain⟨κ,F,eB⟩:=V;refine agB hT cc cD au ao ops.size [] (Array.replicate ops.size false) s a _ (by simp) (λi=>?_) yZ ⟨κ,F,eB.drew⟩ λl hle=>⟨an.1 _ (List.mem_map.2 ⟨l,hle,rfl⟩),λy aM=>an.2 y ⟨_,List.mem_map.2 ⟨l,hle,rfl⟩,aM⟩⟩
    rw[Array.getD_eq_getD_getElem?,Array.getElem?_replicate];grind
   ·exact an.1.elim
theorem agE{β:Type}{id:Nat}(dL:C.P.follows .mixedOrders=true)(hT:dw C.P T)(cc:iY C.P a1)(cD:lD C.P C.aL Ψ)(au:∀ o∈ops.toList,kW o C.nt=true){k:ay->M β}{O:β->Prop}
  (ao:∀ s' a' w',b9 C s' a' w'->M.b_ (k s') O->Q .normal a' w') {a:Act} {w:World} (V:b9 C s a w) (an:M.b_ (zo C.aL T a1 Ψ ops s k) O):(Code.region id ops true).wpIn (dv C.r) 0 C.P Q a w:=
 wpIn_region_any dL (TE hT cc cD au ao V an)
theorem zD{ops:Array Oper}{j:Nat}{o:Oper}(h:ops[j]?=some o):(kY ops.toList).toArray[j]?=some (if j=0 then o else { o with after:=o.after.push ⟨0,.phase⟩ }):=by
 obtain⟨l⟩:=ops;cases l with
 | nil=>simp at h
 | cons x l=>
  cases j with
  | zero=>simpa [kY]using h
  | succ j=>
   simp only[List.getElem?_toArray,List.getElem?_cons_succ]at h;simp[kY,h]
theorem L2(ops:Array Oper):(kY ops.toList).toArray.size=ops.size:=by
 obtain⟨l⟩:=ops;cases l<;>simp[kY]
theorem agF{ops:Array Oper}{j:Nat}{o1:Oper}(h:(kY ops.toList).toArray[j]?=some o1):∃ o,ops[j]?=some o/\o1=if j=0 then o else { o with after:=o.after.push ⟨0,.phase⟩ }:=by
 have aC:j<ops.size:=by rw[<-L2];exact (Array.getElem?_eq_some_iff.1 h).1
 have:=zD (ops:=ops) (j:=j) (o:=ops[j]) (by simp[aC]);rw[h]at this;cases this;exact⟨ops[j],by simp[aC],rfl⟩
theorem agG(ops:Array Oper):yielded (kY ops.toList).toArray=yielded ops:=by
 funext t j;unfold yielded;cases h:ops[j]? with
 | none=>
  have:(kY ops.toList).toArray[j]?=none:=by
   rw[Array.getElem?_eq_none_iff,L2];exact Array.getElem?_eq_none_iff.1 h
  rw[this]
 | some o=>
  rw[zD h];by_cases aC:j=0
  ·rw[if_pos aC]
  ·rw[if_neg aC];rfl
theorem agH{F:Fence}{P:Program}:∀ (bW:Nat) (listed:Array Bool) (a:Act) (w:World),listed.getD 0 false=true->wpAnyIn F 0 P .any (kY ops.toList).toArray Q bW listed a w->wpAnyIn F 0 P .any ops Q bW listed a w:=by
 have n5:∀ (listed:Array Bool),listed.getD 0 false=true->∀ i,i∈Region.ready .any ops listed->i∈Region.ready .any (kY ops.toList).toArray listed:=by
  intro listed h0 i G;rw[mem_ready]at G ⊢;obtain⟨h1,o,ag,h2⟩:=G;refine⟨h1,_,zD ag,λe he ab=>?_⟩;split at he
  ·exact h2 e he ab
  ·rcases Array.mem_push.1 he with he | rfl
   ·exact h2 e he ab
   ·exact h0
 have agI:∀ (listed:Array Bool),Region.ready .any ops listed=[]->Region.ready .any (kY ops.toList).toArray listed=[]:=by
  intro listed h;rw[List.eq_nil_iff_forall_not_mem]at h ⊢;intro i G;refine h i ?_;rw[mem_ready]at G ⊢;obtain⟨h1,o1,ag,h2⟩:=G;obtain⟨o,j0,rfl⟩:=agF ag;refine⟨h1,o,j0,λe he ab=>h2 e ?_ ab⟩;split
  ·exact he
  ·exact Array.mem_push_of_mem _ he
 have agJ:∀ (listed:Array Bool),listed.getD 0 false=true->Region.ready .any (kY ops.toList).toArray listed=[]->Region.ready .any ops listed=[]:=by
  intro listed h0 h;rw[List.eq_nil_iff_forall_not_mem]at h ⊢;exact λi G=>h i (n5 listed h0 i G)
 intro bW;induction bW with
 | zero=>
  intro listed a w h0 h;exact⟨agJ listed h0 h.1,h.2⟩
 | succ bW aG=>
  intro listed a w h0 h;refine⟨λV=>h.1 (agI listed V),λi G=>?_⟩;have ao:=h.2 i (n5 listed h0 i G);have next:∀ a w,wpAnyIn F 0 P .any (kY ops.toList).toArray Q bW (listed.setIfInBounds i true) a w->wpAnyIn F 0 P .any ops Q bW (listed.setIfInBounds i true) a w:=λa w=>aG _ a w (getD_set_true h0)
  have ao:=wpOpIn_mono next ao
  unfold wpOpIn at ao ⊢;rw[mem_ready]at G;obtain⟨_,o,ag,_⟩:=G;rw[ag];rw[zD ag,agG]at ao;by_cases n6:i=0
  ·rw[if_pos n6]at ao;exact ao
  ·rw[if_neg n6]at ao;exact ao
theorem agK{β:Type}{id:Nat}(dL:C.P.follows .mixedOrders=true)(agL:C.r=none)(ar:K3 ops=true)(hT:dw C.P T)(cc:iY C.P a1)(cD:lD C.P C.aL Ψ)(au:∀ o∈ops.toList,kW o C.nt=true){k:ay->M β}{O:β->Prop}
  (ao:∀ s' a' w',b9 C s' a' w'->M.b_ (k s') O->Q .normal a' w') {a:Act} {w:World} (V:b9 C s a w) (an:M.b_ (zo C.aL T a1 Ψ (kY ops.toList).toArray s k) O):(Code.region id ops true).wpIn (dv C.r) 0 C.P Q a w:=by
 refine wpIn_mono (Q:=λe a w=>e=.normal/\Q e a w) (wpIn_region_any dL ?_) λe a w h=>h.2;have h5:=TE (Q:=λe a w=>e=.normal/\Q e a w) (ops:=(kY ops.toList).toArray) hT cc cD (λo ag=>?_) (λs' a' w' h1 h2=>⟨rfl,ao s' a' w' h1 h2⟩) V an
 ·rw[L2]at h5;have q0:(dv C.r).round=none:=by rw[agL];rfl
  unfold K3 at ar;split at ar
  ·cases ar
  ·rename_i o l ai;simp only[Bool.and_eq_true,List.all_eq_true,Bool.or_eq_true]at ar;obtain⟨h1,h2,h3,aR,bw⟩:=ar;have h0:ops[0]?=some o:=by rw[<-Array.getElem?_toList,ai];rfl
   obtain⟨m,an⟩:∃ m,ops.size=m+1:=⟨l.length,by rw[<-Array.length_toList,ai];rfl⟩
   rw[an]at h5 ⊢;have az:o.guard=none:=by simpa using h2
   have iw:∀ (ops:Array Oper),ops[0]?=some o->0∈Region.ready .any ops (Array.replicate (m+1) false):=λops h=>by
    rw[mem_ready];refine⟨by simp,o,h,λe he=>?_⟩;rw[Array.isEmpty_iff.1 h3]at he;simp at he
   have ky:∃ x,o.op=.move x:=by
    revert h1;cases o.op<;>simp
   obtain⟨x,hx⟩:=ky;have aM:YieldsFenced C.P ops o (a.eval x) a:=⟨.inl ⟨by unfold Region.wanted;rw[az],λw=>by simp[execOp,hx]⟩,λw=>by unfold Oper.about;rw[hx]⟩
   have fU:=h5.2 0 (iw _ (by rw[zD h0];rfl));unfold wpOpIn at fU;rw[zD h0]at fU;simp only[if_true]at fU;rw[show Region.wanted o (yielded (kY ops.toList).toArray a.tmps)=true by unfold Region.wanted;rw[az],if_pos rfl]at fU;have fU:wpAnyIn (dv C.r) 0 C.P .any (kY ops.toList).toArray (λe a w=>e=.normal/\Q e a w) m ((Array.replicate (m+1) false).setIfInBounds 0 true) (a.put o.dst (a.eval x)) w.drew:=by
    have:=fU.2;rw[q0,Oper.semAt_none]at this;simpa [execOp,hx,Oper.uponIn]using this
   refine wpAnyIn_first q0 h0 (Region.noSelect_spec aR) (λc a w h=>by cases h.1) m _ a _ (λj qX TF agM _ he=>?_) (iw _ h0) aM (agH m _ _ _ (by simp) fU);have jz:qX∈l:=by
    rw[<-Array.getElem?_toList,ai]at TF;cases j with
    | zero=>exact absurd rfl agM
    | succ j=>exact List.mem_of_getElem? TF
   rcases bw qX jz with h | h
   ·exfalso;have h:0∈hR qX:=by simpa using h
    obtain⟨e,agN,wS⟩:=List.mem_filterMap.1 h;split at wS
    ·rename_i ab;exact he e (by simpa using agN) ab (by simpa using wS)
    ·cases wS
   ·exact h
 ·have ag:o∈(kY ops.toList):=by simpa using ag
  obtain⟨ol⟩:=ops;cases ol with
  | nil=>cases ag
  | cons x l=>
   rcases List.mem_cons.1 ag with rfl | ag
   ·exact au _ (by simp)
   ·obtain⟨p,hp,rfl⟩:=List.mem_map.1 ag;have:=au p (by simp[hp]);exact this
end
end Go.Fer
namespace Go.Fer
open Go.RowKit
theorem gf{β:Type}{O:β->Prop}(h:M.b_ (M.fail:M β) O):False:=h.1
theorem tG{β:Type}{sh:dj}{s:ay}{k:sh.ah->M β}{O:β->Prop}(h:M.b_ (sh.mD s k) O):∃ A,sh.iL s=some A/\M.b_ (k A) O:=by
 unfold dj.mD at h;split at h
 ·grind
 ·exact (gf h).elim
def oe(B:Nat):Deferred:={ target:=.collected B,args:=#[] }
structure nE where
 w:World
 K:Nat->Prop
 ms:List Nat
def bQ.gQ(C:bQ)(u:nE):bQ:={ C with w0:=u.w,K0:=u.K,dfr:=u.ms.map oe++C.dfr }
structure bQ.jA(C:bQ)(u:nE):Prop where
 r7:∀ B∈u.ms,u.K B/\u.w.heap[B]?=some (.deferred (some []))
 dX:∀ B∈u.ms,¬C.K0 B/\C.w0.heap.size<=B
 l7:u.ms.Nodup
 gR:∀ r,C.K0 r->u.K r
 eb:∀ r,C.K0 r->u.w.heap[r]?=C.w0.heap[r]?
 size:C.w0.heap.size<=u.w.heap.size
 dQ:cM C.w0 u.w
def bQ.hh(C:bQ):nE:=⟨C.w0,C.K0,[]⟩
theorem bQ.u9(C:bQ):C.jA C.hh:=⟨λ_ h=>by simp[bQ.hh]at h,λ_ h=>by simp[bQ.hh]at h,List.nodup_nil,λ_ h=>h,λ_ _=>rfl,Nat.le_refl _,cM.refl _⟩
def nE.then(u v:nE):nE:=⟨v.w,v.K,v.ms++u.ms⟩
theorem bQ.zE(C:bQ)(u v:nE):(C.gQ u).gQ v=C.gQ (u.then v):=by
 simp[bQ.gQ,nE.then]
theorem bQ.jA.then{C:bQ}{u v:nE}(h:C.jA u)(k:(C.gQ u).jA v):C.jA (u.then v) where
 r7:=λB aN=>by
  rcases List.mem_append.1 aN with aN | aN
  ·exact k.r7 B aN
  ·obtain⟨h1,h2⟩:=h.r7 B aN;exact⟨k.gR B h1,(k.eb B h1).trans h2⟩
 dX:=λB aN=>by
  rcases List.mem_append.1 aN with aN | aN
  ·obtain⟨h1,h2⟩:=k.dX B aN;exact⟨λh3=>h1 (h.gR B h3),Nat.le_trans h.size h2⟩
  ·exact h.dX B aN
 l7:=List.nodup_append.2 ⟨k.l7,h.l7,λa aU b ab e=>(k.dX a aU).1 (e ▸ (h.r7 b ab).1)⟩
 gR:=λr V=>k.gR r (h.gR r V)
 eb:=λr V=>(k.eb r (h.gR r V)).trans (h.eb r V)
 size:=Nat.le_trans h.size k.size
 dQ:=h.dQ.trans k.dQ
theorem ba.TG{C:bQ}{s:ay}{a:Act}{w:World}{κ:Nat->bm}{F F':Nat->Prop}(h:ba C s a w κ F){w0 w':World}{F0 K0:Nat->Prop}{nt:Nat}{dfr:List Deferred}{r:Option Nat}{sl:Nat->aD}{a':Act}
    (L3:a'.tmps.size=nt) (L4:a'.defers=dfr) (q1:nt<=eu) (hsl:∀ i,bk C.P s.ad κ F w (sl i) (a'.tmps.getD i undef)) (oZ:∀ l aI L n st,sl TRS≠.tr l aI L n st)
    (heq:∀ r,F r\/(∃ b,(s.ad b).body.bL (κ b)=true/\(κ b).ad=r)->w'.heap[r]?=w.heap[r]?) (bU:w.heap.size<=w'.heap.size)
    (bb:∀ r,F r->F' r) (iW:∀ r,F' r->r<w'.heap.size) (CX:∀ b,(s.ad b).body.bL (κ b)=true->¬F' (κ b).ad)
    (L5:∀ r,F' r->F0 r\/¬K0 r) (L6:∀ r,F0 r->F' r) (CY:∀ r,K0 r->r<w0.heap.size) (tH:∀ r,K0 r->w'.heap[r]?=w0.heap[r]?) (fP:∀ b,(s.ad b).body.bL (κ b)=true->¬K0 (κ b).ad)
    (mG:w0.heap.size<=w'.heap.size) (hc:cM w0 w') :
    ba { C with w0:=w0,F0:=F0,K0:=K0,nt:=nt,dfr:=dfr,r:=r } ⟨sl,s.ad⟩ a' w' κ F':=by
  have he:cG F w w':=⟨bU,λr V=>heq r (.inl V)⟩
  exact {
          di:=L3,dfr:=L4,bE:=λi=>bk.later (eZ.refl _ _) bb he (hsl i)
          bn:=λb=>cg.kP (h.bn b) (eZ.refl _ _) bb he rfl rfl λag=>heq _ (.inr ⟨b,ag,rfl⟩)
          own:=λb ab=>⟨Nat.lt_of_lt_of_le (h.own b ab).1 bU,CX b ab,fP b ab⟩,inj:=h.inj,cL:=iW
          gL:=L5,hy:=L6,gX:=CY,eb:=tH,size:=mG,dQ:=hc,fO:=q1,j9:=h.j9,jn:=h.jn,jQ:=h.jQ,j_:=h.j_,pro:=λl aI L n st e=>(oZ l aI L n st e).elim,jo:=h.jo,ib:=h.ib.mono bb he }
theorem ba.u_{C:bQ}{s:ay}{a:Act}{w:World}{κ:Nat->bm}{F:Nat->Prop}(h:ba C s a w κ F){w0 w':World}{F0 K0:Nat->Prop}{nt:Nat}{dfr:List Deferred}{r:Option Nat}{sl:Nat->aD}{a':Act}
  (L3:a'.tmps.size=nt) (L4:a'.defers=dfr) (q1:nt<=eu) (hsl:∀ i,bk C.P s.ad κ F w (sl i) (a'.tmps.getD i undef)) (oZ:∀ l aI L n st,sl TRS≠.tr l aI L n st)
  (heq:∀ r,F r\/(∃ b,(s.ad b).body.bL (κ b)=true/\(κ b).ad=r)->w'.heap[r]?=w.heap[r]?) (bU:w.heap.size<=w'.heap.size)
  (L5:∀ r,F r->F0 r\/¬K0 r) (L6:∀ r,F0 r->F r) (CY:∀ r,K0 r->r<w0.heap.size) (tH:∀ r,K0 r->w'.heap[r]?=w0.heap[r]?) (fP:∀ b,(s.ad b).body.bL (κ b)=true->¬K0 (κ b).ad)
  (mG:w0.heap.size<=w'.heap.size) (hc:cM w0 w') :
  ba { C with w0:=w0,F0:=F0,K0:=K0,nt:=nt,dfr:=dfr,r:=r } ⟨sl,s.ad⟩ a' w' κ F:=
 h.TG L3 L4 q1 hsl oZ heq bU (λ_ h=>h) (λr V=>Nat.lt_of_lt_of_le (h.cL r V) bU) (λb ab=>(h.own b ab).2.1) L5 L6 CY tH fP mG hc
theorem ba.Gx{C:bQ}{s:ay}{a:Act}{w:World}{κ:Nat->bm}{F:Nat->Prop}(h:ba C s a w κ F){w0 w':World}{K0:Nat->Prop}{r:Option Nat}
    (iu:∀ r,K0 r->C.K0 r) (heq:∀ r,F r\/¬C.K0 r->w'.heap[r]?=w.heap[r]?) (bU:w.heap.size<=w'.heap.size) (xt:cM w w')
    (CY:∀ r,K0 r->r<w0.heap.size) (tH:∀ r,K0 r->w'.heap[r]?=w0.heap[r]?) (mG:w0.heap.size<=w'.heap.size) (hc:cM w0 w') :
    ba { C with w0:=w0,K0:=K0,r:=r } s a w' κ F:=by
  have he:cG F w w':=⟨bU,λr V=>heq r (.inl V)⟩
  have iW:∀ r,F r->r<w'.heap.size:=λr V=>Nat.lt_of_lt_of_le (h.cL r V) bU;exact {
          di:=h.di,dfr:=h.dfr,bE:=λi=>bk.later (eZ.refl _ _) (λ_ h=>h) he (h.bE i)
          bn:=λb=>cg.kP (h.bn b) (eZ.refl _ _) (λ_ h=>h) he rfl rfl λag=>heq _ (.inr (h.own b ag).2.2)
          own:=λb ab=>⟨Nat.lt_of_lt_of_le (h.own b ab).1 bU,(h.own b ab).2.1,λk=>(h.own b ab).2.2 (iu _ k)⟩,inj:=h.inj,cL:=iW
          gL:=λr V=>(h.gL r V).imp id λk k'=>k (iu r k'),hy:=h.hy,gX:=CY,eb:=tH,size:=mG,dQ:=hc,fO:=h.fO,j9:=h.j9,jn:=h.jn,jQ:=h.jQ,j_:=h.j_
          pro:=λl aI L n st e=>by
            obtain⟨h1,h2,Y,h3,aR,bw⟩:=h.pro l aI L n st e;exact⟨h1,h2,Y,λr V=>⟨Nat.lt_of_lt_of_le (h3 r V).1 bU,(h3 r V).2.1,λk=>(h3 r V).2.2 (iu r k)⟩,aR,h2.Jv bw (λ_ h=>h) (λr V=>heq r (V.imp id λaM=>(h3 r aM).2.2)) bU xt iW λr ar aM=>(h3 r aM).2.1 ar⟩
          jo:=h.jo,ib:=h.ib.mono (λ_ h=>h) he }
theorem TH{P:Program}{H:Nat->bu}{κ:Nat->bm}{F:Nat->Prop}{w:World}{aI:ae}{x:aI.ah}:∀ (ps:List Tmp) (args:List Value) (j:Nat) (f:Nat->aD) (ob:Array Value),ps.length=args.length->(∀ p∈ps,p<ob.size)->
  (∀ i,bk P H κ F w (f i) (ob.getD i undef))->(∀ i,i<args.length->bk P H κ F w (kd aI x (j+i)) (args.getD i undef))->
  ∀ i,bk P H κ F w (zp aI x ps j f i) (((ps.zip args).foldl (λtmps p=>tmps.setIfInBounds p.1 p.2) ob).getD i undef)
 | [],[],_,_,_,_,_,ar,_,i=>ar i
 | p::ps,v::args,j,f,ob,ai,hp,ar,hv,i=>by
  simp only[zp,List.zip_cons_cons,List.foldl_cons];refine TH ps args (j+1) _ _ (by grind) (λq be=>by grind) (λi=>?_) (λi G=>?_) i
  ·rw[Array.getD_eq_getD_getElem?,Array.getElem?_setIfInBounds];by_cases e:i=p
   ·grind
   ·rw[if_neg e,if_neg (Ne.symm e)];simp_all
  ·have:=hv (i+1) (by grind);grind
theorem agO{ps:List Tmp}{args:List Value}:∀ {ob:Array Value},((ps.zip args).foldl (λtmps p=>tmps.setIfInBounds p.1 p.2) ob).size=ob.size:=by
 generalize ps.zip args=l;induction l with
 | nil=>simp
 | cons p l aG=>grind
def r8:cP->Option Code
 | .normal=>none
 | .exit id=>some (.exit id)
 | .ret=>some .ret
def eM(fn:FuncId)(ob:Array Value)(ps:Array Tmp)(assign body:Code)(B:Nat)(st:LoopState)(e:cP):Loop:=
 { state:=st,pending:=r8 e,fn:=fn,tmps:=ob,params:=ps,assign:=assign,body:=body,defers:=B }
def Gy(P:Program)(aL:dh)(nt:Nat)(assign body:Code)(l:Nat){rout:dj}(run:ay->M (cP×rout.ah)):Prop:=
 ∀ (C1:bQ),C1.P=P->C1.aL=aL->C1.nt=nt->C1.r=some l->∀ (ed:ay) (bT:Act) (b1:World) (p7:cP×rout.ah->Prop),b9 C1 ed bT b1->M.b_ (run ed) p7->
  assign.wpIn (dv (some l)) 0 P (Exit.then (λa2 cI=>∃ u dr,C1.jA u/\b9 (C1.gQ u) dr a2 cI/\
   ∀ (gZ:bQ),gZ.P=P->gZ.aL=aL->gZ.nt=nt->gZ.r=some l->∀ (cI:World),b9 gZ dr a2 cI->
    body.wpIn (dv (some l)) 0 P (λe a3 eC=>∃ (aS:cP) (v:nE) (eg:ay) (τ:rout.ah),e=aS.o6/\gZ.jA v/\b9 (gZ.gQ v) eg a3 eC/\rout.iL eg=some τ/\p7 (aS,τ)) a2 cI) (λ_ _ _=>False)) bT b1
theorem agP{ts:List (Nat×bH)}{R:Type}(h:ts.isEmpty=true)(g:Nat->Nat×Nat)(z:n7 ts R)(i:Nat):e5 (d_ g ts z).1 i=.undef:=by
 cases ts with
 | nil=>rfl
 | cons p ts=>cases h
theorem agQ{P:Program}{l:Nat}{R:Ending->World->Prop}{e:cP}{a:Act}{w:World}{r:Loop}(h:w.heap[l]?=some (.loop r))
  (jB:R (.returned (.bool (r8 e).isNone)) (w.putObj l (.loop { r with state:=if (r8 e).isNone then .ready else .done,pending:=r8 e }))):roundPost P l R e.o6 a w:=by
 cases e with
 | normal=>exact⟨_,_,run_endRound none h,jB⟩
 | exit id=>exact⟨_,_,run_endRound (some (.exit id)) h,jB⟩
 | ret=>exact⟨_,_,run_endRound (some .ret) h,jB⟩
theorem agR{CI:bQ}{sh rin rout:dj}{aI:ae}{ps:Array Tmp}{assign body:Code}{a:Act}{W:World}{κ:Nat->bm}{F:Nat->Prop}{A:sh.ah}{fn:FuncId}{l B:Nat}{x:aI.ah}{args:List Value}{run:ay->M (cP×rout.ah)}
  {Or:cP×sh.ah->Prop} {Y Z:Nat->Prop} (agS:Z l)
  (V:ba CI (sh.st A) a W κ F) (dF:nB sh rout aI ps.toList a.tmps.size=true) (CZ:Gy CI.P CI.aL a.tmps.size assign body l run) (an:M.b_ (tx sh rin rout aI ps.toList A x run) Or)
  (ai:W.heap[l]?=some (.loop (eM fn a.tmps ps assign body B .ready .normal))) (agT:¬F l) (rL:∀ b,((sh.st A).ad b).body.bL (κ b)=true->Y (κ b).ad/\¬Z (κ b).ad) (dA:eY CI.P aI F W args x) :
  ∃ tmps,(Instr.yield l args.toArray).run CI.P W=.ok (.round l fn tmps assign body) W/\RoundIn Fence.wide 0 CI.P l fn tmps assign body W λe p8=>
   ∃ (e0:cP) (iq:sh.ah) (κ':Nat->bm) (F':Nat->Prop) (o:Obj),e=.returned (.bool (r8 e0).isNone)/\Or (e0,iq)/\p8.heap[l]?=some (.loop (eM fn a.tmps ps assign body B (if (r8 e0).isNone then .ready else .done) e0))/\
    ba { CI with w0:=W.putObj l o,F0:=F,K0:=λr=>r<W.heap.size/\(Z r\/¬Y r) } (sh.st iq) a p8 κ' F':=by
 simp only[nB,Bool.and_eq_true,decide_eq_true_eq,Bool.not_eq_true',List.all_eq_true]at dF;obtain⟨⟨⟨⟨aO,aP⟩,bA⟩,ga⟩,oY⟩:=dF;have zF:l<W.heap.size:=(Array.getElem?_eq_some_iff.1 ai).1;obtain⟨ie,Gz⟩:=tf (H:=(sh.st A).ad) (κ:=κ) aI dA bA;have oZ:(sh.st A).aw TRS=.undef:=xg sh.bE cJ A TRS aP;have E9:(Array.zip ps args.toArray).foldl (λtmps (x:Tmp×Value)=>match x with | (t,a)=>tmps.setIfInBounds t a) a.tmps=(ps.toList.zip args).foldl (λtmps p=>tmps.setIfInBounds p.1 p.2) a.tmps:=by
  rw[<-Array.foldl_toList];simp
 refine⟨(ps.toList.zip args).foldl (λtmps p=>tmps.setIfInBounds p.1 p.2) a.tmps,?_,?_⟩
 ·rw[<-E9];exact run_yield ai (by show args.toArray.size=ps.size;grind)
 have agU:ba { CI with w0:=W,F0:=F,K0:=λr=>r<W.heap.size/\(Z r\/¬Y r) } (sh.st A) a W κ F:=
  V.u_ V.di V.dfr V.fO V.bE (λl aI L n st e=>by have e:(sh.st A).aw TRS=.tr l aI L n st:=e;grind) (λ_ _=>rfl) (Nat.le_refl _) (λ_ h=>.inl h) (λ_ h=>h) (λ_ h=>h.1) (λ_ _=>rfl)
   (λb ab h=>h.2.elim (rL b ab).2 λh=>h (rL b ab).1) (Nat.le_refl _) (cM.refl _)
 unfold tx at an;split at an
 ·rename_i aF fl agV;split at an
  ·rename_i cp;rw[M.fG]at an;have gn:ba { CI with w0:=W,F0:=F,K0:=λr=>r<W.heap.size/\(Z r\/¬Y r),nt:=a.tmps.size,dfr:=[],r:=none } ⟨(xa (sh.st A) aI x ps.toList).aw,(sh.st A).ad⟩ { tmps:=(ps.toList.zip args).foldl (λtmps p=>tmps.setIfInBounds p.1 p.2) a.tmps,defers:=[] } W κ F:=by
    refine V.u_ agO rfl (by rw[V.di];exact V.fO) (λi=>?_) (λl' kj L' iH h7 e=>?_) (λ_ _=>rfl) (Nat.le_refl _) (λ_ h=>.inl h) (λ_ h=>h) (λ_ h=>h.1) (λ_ _=>rfl)
     (λb ab h=>h.2.elim (rL b ab).2 λh=>h (rL b ab).1) (Nat.le_refl _) (cM.refl _)
    ·show bk CI.P (sh.st A).ad κ F W (if i=TRS then (sh.st A).aw TRS else zp aI x ps.toList 0 (sh.st A).aw i) _;split
     ·rw[oZ];trivial
     ·exact TH ps.toList args 0 _ _ (by omega) (λp hp=>by grind) V.bE (λi G=>by grind) i
    ·have e:(if TRS=TRS then (sh.st A).aw TRS else zp aI x ps.toList 0 (sh.st A).aw TRS)=.tr l' kj L' iH h7:=e;grind
   obtain⟨F',own,fZ,hX,f1,aX,fP,C0,axb,CA,Lx⟩:=SQ (c:=u0 rin rout) agU gn (by rfl) agV rfl cp;have L7:l<W.heap.size/\(Z l\/¬Y l):=⟨zF,.inl agS⟩
   have TI:¬F' l:=λh=>(aX.gL l h).elim agT λh=>h L7;have agW:¬own l:=λh=>by
    obtain⟨b,h1,h2⟩:=fP l h;exact (aX.own b h1).2.2 (h2 ▸ L7)
   have agX:¬fZ l:=λh=>(C0.low l h).2.2 L7;have TJ:l<W.heap.size/\¬own l/\¬fZ l:=⟨zF,agW,agX⟩
   have GA:ba { qV CI W F' a.tmps.size own fZ hX with r:=some l } (rin.st aF) _ W _ F':=CA.Gx (w0:=W) (w':=W) (K0:=λr=>r<W.heap.size/\¬own r/\¬fZ r) (r:=some l) (λ_ h=>h) (λ_ _=>rfl) (Nat.le_refl _) (cM.refl _) (λ_ h=>h.1) (λ_ _=>rfl) (Nat.le_refl _) (cM.refl _);refine roundIn_of_wpIn trivial ?_;refine wpIn_mono (CZ { qV CI W F' a.tmps.size own fZ hX with r:=some l } rfl rfl rfl rfl (rin.st aF) _ W _ ⟨_,_,GA⟩ an) λe a2 cI be=>?_;cases e with
   | normal=>
    obtain⟨u,dr,hu,⟨mF,dK,cr⟩,bD⟩:=be;have r9:u.K l:=hu.gR l TJ;have fS:cI.heap[l]?=some (.loop (eM fn a.tmps ps assign body B .ready .normal)):=(cr.eb l r9).trans ((hu.eb l TJ).trans ai);refine⟨_,run_beginRound fS rfl,?_⟩;have agY:l<cI.heap.size:=(Array.getElem?_eq_some_iff.1 fS).1;have agZ:¬dK l:=λh=>(cr.gL l h).elim TI λh=>h r9;have og:=cr.Gx (w0:=cI.putObj l (.loop (eM fn a.tmps ps assign body B .busy .normal))) (w':=cI.putObj l (.loop (eM fn a.tmps ps assign body B .busy .normal))) (K0:=u.K) (r:=some l) (λ_ h=>h)
     (λr h=>World.putObj_heap_other λe=>by
      subst e;exact h.elim agZ λh=>h r9) (by simp) ⟨rfl,rfl,rfl⟩ (λr h=>by
       have:=cr.gX r h;have:=cr.size;simp;omega) (λ_ _=>rfl) (Nat.le_refl _) (cM.refl _)
    refine wpIn_mono (bD { ({ qV CI W F' a.tmps.size own fZ hX with r:=some l }:bQ).gQ u with w0:=cI.putObj l (.loop (eM fn a.tmps ps assign body B .busy .normal)),K0:=u.K,r:=some l } rfl rfl rfl rfl _ ⟨mF,dK,og⟩) λe a3 eC ⟨aS,v,eg,τ,he,hv,⟨GB,TK,l8⟩,hτ,GC⟩=>?_;subst he;obtain⟨GB,TL,f4,oh⟩:=dj.zr hτ l8;have wM:v.K l:=hv.gR l r9;have GD:eC.heap[l]?=some (.loop (eM fn a.tmps ps assign body B .busy .normal)):=(oh.eb l wM).trans ((hv.eb l r9).trans (World.putObj_heap_same agY));have TM:l<eC.heap.size:=(Array.getElem?_eq_some_iff.1 GD).1;have axc:¬TL l:=λh=>(oh.gL l h).elim TI λh=>h wM;generalize fU:(if (r8 aS).isNone then LoopState.ready else .done)=h7;refine agQ GD ?_;rw[fU];have l4:ba { CI with w0:=W.putObj l (.loop (eM fn a.tmps ps assign body B h7 aS)),F0:=F,K0:=λr=>r<W.heap.size/\(Z r\/¬Y r) } ((sh.st A).cb fl) a (W.putObj l (.loop (eM fn a.tmps ps assign body B h7 aS))) κ F':=
     aX.Gx (λ_ h=>h) (λr h=>World.putObj_heap_other λe=>by
      grind) (by simp) ⟨rfl,rfl,rfl⟩ (λr h=>by simpa using h.1) (λ_ _=>rfl) (Nat.le_refl _) (cM.refl _)
    have zx:W.heap.size<=eC.heap.size:=by
     have h1:=hu.size;have h2:=cr.size;have h3:=hv.size;have aR:=oh.size;have h1:W.heap.size<=u.w.heap.size:=h1;have h2:u.w.heap.size<=cI.heap.size:=h2;have h3:(cI.putObj l (.loop (eM fn a.tmps ps assign body B .busy .normal))).heap.size<=v.w.heap.size:=h3;have aR:v.w.heap.size<=eC.heap.size:=aR;simp only[World.putObj_size]at h3;omega
    have xu:cM W eC:=by
     have h1:cM W u.w:=hu.dQ;have h2:cM u.w cI:=cr.dQ;have h3:cM cI v.w:=⟨hv.dQ.os,hv.dQ.tape,hv.dQ.output⟩
     exact h1.trans (h2.trans (h3.trans oh.dQ))
    have ag0:∀ i,(rout.st τ).aw i=.undef:=λi=>agP aO cJ τ i;have lA:∀ r,(r<(W.putObj l (.loop (eM fn a.tmps ps assign body B h7 aS))).heap.size/\¬own r/\¬fZ r)->(r<W.heap.size/\¬own r/\¬fZ r):=λr h=>⟨by simpa using h.1,h.2⟩
    have hk:=oh.u_ (w0:=W.putObj l (.loop (eM fn a.tmps ps assign body B h7 aS))) (w':=eC.putObj l (.loop (eM fn a.tmps ps assign body B h7 aS))) (F0:=F') (K0:=λr=>r<(W.putObj l (.loop (eM fn a.tmps ps assign body B h7 aS))).heap.size/\¬own r/\¬fZ r) (nt:=0) (dfr:=[]) (r:=none) (sl:=(rout.st τ).aw) (a':={ tmps:=#[],defers:=[] }) rfl rfl (Nat.zero_le _)
     (λi=>by rw[ag0];trivial) (λl aI L n st e=>by grind)
     (λr h=>World.putObj_heap_other λe=>by
      subst e;rcases h with h | ⟨b,h1,h2⟩
      ·grind
      ·exact (oh.own b h1).2.2 (h2 ▸ wM)) (by simp) (λr h=>(oh.gL r h).imp id λh cZ=>h (hv.gR r (hu.gR r (lA r cZ)))) oh.hy (λr h=>h.1)
     (λr h=>by
      by_cases e:r=l
      ·subst e;rw[World.putObj_heap_same TM,World.putObj_heap_same zF]
      ·rw[World.putObj_heap_other e,World.putObj_heap_other e];have h1:u.K r:=hu.gR r (lA r h);exact (oh.eb r (hv.gR r h1)).trans ((hv.eb r h1).trans ((World.putObj_heap_other e).trans ((cr.eb r h1).trans (hu.eb r (lA r h))))))
     (λb ab h=>(oh.own b ab).2.2 (hv.gR _ (hu.gR _ (lA _ h)))) (by simpa using zx) ⟨xu.os,xu.tape,xu.output⟩
    obtain⟨κn,nD,_⟩:=Lx (W.putObj l (.loop (eM fn a.tmps ps assign body B h7 aS))) (W.putObj l (.loop (eM fn a.tmps ps assign body B h7 aS))) l4 ⟨λl' kj L' iH h7 e=>(by
      grind),λr h=>⟨by simpa using (C0.low r h).1,(C0.low r h).2⟩,C0.own,C0.non⟩ τ [] (eC.putObj l (.loop (eM fn a.tmps ps assign body B h7 aS))) GB TL hk
    obtain⟨iq,L8,ag1⟩:=tG GC;obtain⟨κn,ag2,_,ag3⟩:=dj.zr L8 nD;exact⟨aS,iq,κn,ag2,(.loop (eM fn a.tmps ps assign body B h7 aS)),rfl,M.dE.1 ag1,by rw[fU];exact World.putObj_heap_same TM,ag3⟩
   | _=>exact be.elim
  ·exact an.1.elim
 ·exact an.1.elim
theorem TN{w:World}{o hz:Obj}{r:Nat}(h:r<w.heap.size):((w.alloc o).alloc hz).heap[r]?=w.heap[r]?:=
 (oN _ _ (by simp;omega)).trans (oN _ _ h)
def ag4(C CI:bQ){β:Type}(sh rin rout:dj)(aI:ae)(D:List aI.ah->Prop)(ps:Array Tmp)(assign body:Code)(a:Act)(fn:FuncId)(l B:Nat)(run:ay->M (cP×rout.ah))(k:cP->ay->M β)(O:β->Prop)
  (st:Bool) (F Y:Nat->Prop) (W:World):Prop:=
 ∃ (e:cP) (A:sh.ah) (κ:Nat->bm),ba CI (sh.st A) a W κ F/\W.heap[l]?=some (.loop (eM fn a.tmps ps assign body B (if st then .done else .ready) e))/\W.heap[B]?=some (.deferred (some []))/\
  (∀ b,((sh.st A).ad b).body.bL (κ b)=true->Y (κ b).ad/\¬((κ b).ad=l\/(κ b).ad=B))/\Y l/\Y B/\¬F l/\¬F B/\C.P=CI.P/\
  (st=false->e=.normal/\∀ R,D R->M.b_ (jy (λA y=>tx sh rin rout aI ps.toList A y run) R A) λp=>M.b_ (k p.1 (sh.st p.2)) O)/\(st=true->e≠.normal/\M.b_ (k e (sh.st A)) O)
theorem TO{C CI:bQ}{β:Type}{sh rin rout:dj}{aI:ae}{S:List aI.ah->Prop}{ps:Array Tmp}{assign body:Code}{a:Act}{fn:FuncId}{l B:Nat}{run:ay->M (cP×rout.ah)}{k:cP->ay->M β}{O:β->Prop}
  (iu:CI.K0=λ_=>False) (ag5:l≠B) (dF:nB sh rout aI ps.toList a.tmps.size=true) (CZ:Gy CI.P CI.aL a.tmps.size assign body l run) :
  EK CI.P (eY CI.P aI) l S λpre=>ag4 C CI sh rin rout aI (λR=>S (pre++R)) ps assign body a fn l B run k O where
 Bm:=λ{pre st F F' Y w w'} h bb heq bU jv iW CX=>by
  have hc:cM w w':=⟨jv.1,jv.2.1,jv.2.2⟩
  obtain⟨e,A,κ,V,h1,h2,h3,aR,bw,cY,fK,iS,pK⟩:=h;have oZ:(sh.st A).aw TRS=.undef:=by
   simp only[nB,Bool.and_eq_true,Bool.not_eq_true']at dF;exact xg sh.bE cJ A TRS dF.1.1.1.2
  have tJ:∀ r,CI.K0 r->False:=λr h=>by grind
  refine⟨e,A,κ,?_,(heq l (.inr aR)).trans h1,(heq B (.inr bw)).trans h2,h3,aR,bw,λh=>CX l h aR,λh=>CX B h bw,iS,pK⟩;exact V.TG V.di V.dfr V.fO V.bE (λl' kj L' iH h7 e=>by have e:(sh.st A).aw TRS=.tr l' kj L' iH h7:=e;grind)
   (λr aX=>heq r (aX.imp id λ⟨b,ab,e⟩=>e ▸ (h3 b ab).1)) bU bb iW (λb ab ar=>CX _ ar (h3 b ab).1) (λr _=>.inr (tJ r)) (λr h=>bb r (V.hy r h)) (λr h=>(tJ r h).elim) (λr h=>(tJ r h).elim) (λb _=>tJ _)
   (Nat.le_trans V.size bU) (V.dQ.trans hc)
 yield:=λ{pre F Y w args x} h iW TP hx dA=>by
  obtain⟨L9,L_⟩:=hx;obtain⟨e,A,κ,V,h1,h2,h3,aR,bw,cY,fK,iS,pK,_⟩:=h;obtain⟨rfl,an⟩:=pK rfl;have oZ:∀ A:sh.ah,(sh.st A).aw TRS=.undef:=λA=>by
   simp only[nB,Bool.and_eq_true,Bool.not_eq_true']at dF;exact xg sh.bE cJ A TRS dF.1.1.1.2
  have tJ:∀ r,CI.K0 r->False:=λr h=>by grind
  have an:M.b_ (tx sh rin rout aI ps.toList A x run) λp=>∀ T,S (pre++x::T)->M.b_ (match p.1 with
    | .normal=>jy (λA y=>tx sh rin rout aI ps.toList A y run) T p.2
    | .exit id=>M.pure (.exit id,p.2)
    | .ret=>M.pure (.ret,p.2)) λp=>M.b_ (k p.1 (sh.st p.2)) O:=by
   have h1:=λT hT=>M.fG.1 (an (x::T) hT);exact⟨(h1 L9 L_).1,λy aM T hT=>(h1 T hT).2 y aM⟩
  obtain⟨tmps,aM,ag6⟩:=agR (Z:=λr=>r=l\/r=B) (.inl rfl) V dF CZ an h1 cY h3 dA;refine⟨fn,tmps,assign,body,aM,ag6.mono λaS p8 ⟨e0,iq,κ',F',o,he,GC,GF,aX⟩=>?_⟩;have zF:l<w.heap.size:=(TP l aR).1;have Ma:B<w.heap.size:=(TP B bw).1;have g1:∀ r,F r->F' r:=aX.hy;have dR:∀ r,F' r->F r\/Y r\/w.heap.size<=r:=λr cr=>by
   rcases aX.gL r cr with h | h
   ·exact .inl h
   ·by_cases bZ:r<w.heap.size
    ·by_cases aM:Y r
     ·exact .inr (.inl aM)
     ·exact (h ⟨bZ,.inr aM⟩).elim
    ·exact .inr (.inr (Nat.le_of_not_lt bZ))
  have TQ:∀ r,r<w.heap.size->¬F r->(r=l\/r=B)->¬F' r:=λr bZ ar a_ qY=>(aX.gL r qY).elim ar λh=>h ⟨bZ,.inl a_⟩;have TR:¬F' l:=TQ l zF cY (.inl rfl);have u6:¬F' B:=TQ B Ma fK (.inr rfl);have TS:∀ b,((sh.st iq).ad b).body.bL (κ' b)=true->¬((κ' b).ad=l\/(κ' b).ad=B)/\(Y (κ' b).ad\/w.heap.size<=(κ' b).ad):=λb ab=>by
   have ao:=(aX.own b ab).2.2;grind
  have GG:w.heap.size<=p8.heap.size:=by have:=aX.size;simpa using this
  have gc:cM w p8:=⟨aX.dQ.os,aX.dQ.tape,aX.dQ.output⟩
  have axd:∀ T,pre++[x]++T=pre++x::T:=λT=>by simp
  refine⟨(r8 e0).isNone,F',λr=>(∃ b,((sh.st iq).ad b).body.bL (κ' b)=true/\(κ' b).ad=r)\/r=l\/r=B,he,g1,dR,aX.cL,λr bZ aM=>?_,λr cr=>?_,GG,⟨gc.os,gc.tape,gc.output⟩,?_⟩
  ·have dZ:r≠l:=λe=>aM (e ▸ aR);exact (aX.eb r ⟨bZ,.inr aM⟩).trans (World.putObj_heap_other dZ)
  ·rcases cr with⟨b,ab,rfl⟩ | rfl | rfl
   ·exact⟨(TS b ab).2,(aX.own b ab).1,(aX.own b ab).2.1⟩
   ·exact⟨.inl aR,Nat.lt_of_lt_of_le zF GG,TR⟩
   ·exact⟨.inl bw,Nat.lt_of_lt_of_le Ma GG,u6⟩
  ·refine⟨e0,iq,κ',?_,?_,?_,λb ab=>⟨.inl ⟨b,ab,rfl⟩,(TS b ab).1⟩,.inr (.inl rfl),.inr (.inr rfl),TR,u6,iS,λfU=>?_,λfU=>?_⟩
   ·exact aX.u_ aX.di aX.dfr aX.fO aX.bE (λl' kj L' iH h7 e=>by have e:(sh.st iq).aw TRS=.tr l' kj L' iH h7:=e;grind) (λ_ _=>rfl) (Nat.le_refl _) (λr _=>.inr (tJ r)) (λr h=>g1 r (V.hy r h))
     (λr h=>(tJ r h).elim) (λr h=>(tJ r h).elim) (λb _=>tJ _) (Nat.le_trans V.size GG) (V.dQ.trans gc)
   ·grind
   ·exact (aX.eb B ⟨Ma,.inl (.inr rfl)⟩).trans ((World.putObj_heap_other (Ne.symm ag5)).trans h2)
   ·cases e0 with
    | normal=>grind
    | _=>cases fU
   ·cases e0 with
    | normal=>cases fU
    | exit id=>exact⟨by simp,(GC L9 L_).2 _ rfl⟩
    | ret=>exact⟨by simp,(GC L9 L_).2 _ rfl⟩
theorem TT{P:Program}{l:Nat}{aI:ae}{S:List aI.ah->Prop}{I:List aI.ah->Bool->(Nat->Prop)->(Nat->Prop)->World->Prop}(h:EK P (eY P aI) l S I):lj.Ok P ⟨l,aI,S,I⟩ where
 Bm:=λh1 h2 h3 aR bw cY fK=>h.Bm h1 h2 h3 aR ⟨bw.os,bw.tape,bw.output⟩ cY fK
 yield:=λh1 h2 h3 aR bw=>YieldAt.mono (h.yield h1 h2 h3 aR bw) λ_ _ ⟨b,F',fZ,aO,aP,bA,ga,oY,xh,GH,C2,Mb⟩=>⟨b,F',fZ,aO,aP,bA,ga,oY,xh,GH,⟨C2.1,C2.2.1,C2.2.2⟩,Mb⟩
end Go.Fer
