/- Part 3 of the proof of TopTrials: shallow programs of Go functions, and what they compute. No condition. -/
import Derived.Test.YtplfnoecifjgeaaGreatDoorTopTrialsB
import Derived.RangeFuncIn
import Derived.RangeFuncRecord
import Derived.RangeFuncBound
noncomputable section
set_option linter.unusedVariables false
set_option linter.unusedSimpArgs false
namespace Go.Fer
open Go.RowKit
def oF(x y:bR):Prop:=(y.fK=true->x.fK=true)/\(y.fh=true->x.fh=true/\y.len=x.len/\y.e3=x.e3)/\(y.gW=true->x.gW=true)/\(y.mO=true->x.mO=true)/\∀ k,y.b1 k=true->x.b1 k=true
theorem oF.refl(x:bR):oF x x:=⟨id,λh=>⟨h,rfl,rfl⟩,id,id,λ_=>id⟩
theorem oF.fz(x:bR):oF x .fz:=⟨λh=>(by cases h),λh=>(by cases h),λh=>(by cases h),λh=>(by cases h),λ_ h=>(by cases h)⟩
def sw(f:Nat->Nat)(H H':Nat->bK):Prop:=∀ b,(H' b).gen=0/\oF (H (f b)).body (H' b).body
section
variable {P:Program} {H H':Nat->bK} {κ:Nat->bD} {F F':Nat->Prop} {w:World} {f:Nat->Nat}
theorem S8(aC:sw f H H'){b off:Nat}{v:Value}(h:bC P H κ F w (.aX (f b) (H (f b)).gen off) v):bC P H' (λb=>κ (f b)) F' w (.aX b 0 off) v:=
 ⟨⟨Nat.zero_le _,h.1.2⟩,λ_ hc=>h.2 rfl ((aC b).2.1 hc)⟩
def LF(P:Program)(H H':Nat->bK)(κ:Nat->bD)(f:Nat->Nat)(F F':Nat->Prop)(w:World){R:Type}(r:Option (R×List Nat))(l:List Nat)(av av':aH)(y:R):Prop:=
 ∃ m,r=some (y,m)/\(∀ b∈m,b∈l)/\(iX H κ F' l->∀ v,bC P H κ F w av v->bC P H' (λb=>κ (f b)) F' w av' v)
theorem LF.hF{R:Type}{r:Option (R×List Nat)}{l:List Nat}{av av':aH}{y:R}(h:r=some (y,l))(k:∀ v,bC P H κ F w av v->bC P H' (λb=>κ (f b)) F' w av' v):LF P H H' κ f F F' w r l av av' y:=
 ⟨l,h,λ_ W=>W,λ_=>k⟩
theorem kE{ak:Type}{b:Bool}{r:Option ak}{x:ak}(h:vt b r=some x):b=true/\r=some x:=by
 cases b with
 | true=>exact⟨rfl,h⟩
 | false=>cases h
theorem qh{t:ad}{av:aH}{R:Type}{r:Option (R×List Nat)}{z:t.ai×R}{l:List Nat}(h:xv H t av r=some (z,l)):∃ e2 m,(dC t av).run H=some (z.1,e2)/\r=some (z.2,m)/\l=e2++m:=by
 unfold xv at h;grind
theorem LG{t:ad}{av:aH}{R:Type}{r:Option (R×List Nat)}{z:t.ai×R}{l:List Nat}(h:K_ t av r=some (z,l)):av=.dW t z.1/\r=some (z.2,l):=by
 unfold K_ at h;grind
theorem LH{b:Nat}{av:aH}{R:Type}{r:Option (R×List Nat)}{z:(Nat×Nat)×R}{l:List Nat}(h:K' H b av r=some (z,l)) :
  r=some (z.2,l)/\(av=.sub b (H b).gen z.1.1 z.1.2\/(av=.al b (H b).gen/\(H b).body.fh=true/\z.1=(0,(H b).body.len))):=by
 unfold K' at h;grind
theorem GD{aM:ad}{av:aH}{R:Type}{r:Option (R×List Nat)}{z:(Nat×(List aM.ai->Prop)×List aM.ai×Bool)×R}{l:List Nat}(h:La aM av r=some (z,l)) :
  r=some (z.2,l)/\av=.aW z.1.1 aM z.1.2.1 z.1.2.2.1 z.1.2.2.2:=by
 unfold La at h;grind
theorem LI{b:Nat}{av:aH}{R:Type}{r:Option (R×List Nat)}{z:Nat×R}{l:List Nat}(h:Lc H b av r=some (z,l)):r=some (z.2,l)/\av=.iW b (H b).gen z.1:=by
 unfold Lc at h;grind
theorem LJ{av:aH}{R:Type}{r:Option (R×List Nat)}{z:Nat×R}{l:List Nat}(h:Lb av r=some (z,l)):r=some (z.2,l)/\av=.hf z.1:=by
 unfold Lb at h;grind
theorem S9{b off:Nat}{av:aH}(h:Gb H b off av=true):av=.aX b (H b).gen off:=by
 unfold Gb at h;grind
theorem S_{b:Nat}{av:aH}(h:Gc H b av=true):av=.al b (H b).gen:=by
 unfold Gc at h;grind
theorem afi{b:Nat}{av:aH}(h:Ld H b av=true):av=.fJ b (H b).gen:=by
 unfold Ld at h;grind
theorem afj{b:Nat}{av:aH}(h:Le H b av=true):av=.j3 b (H b).gen:=by
 unfold Le at h;grind
theorem afk{av:aH}(h:Lf av=true):av=.cv:=by
 unfold Lf at h;grind
theorem afl(aC:sw f H H'){k:FuncId}{fZ:z8'}{av:aH}(h:Lg H f k fZ av=true){v:Value}(ae:bC P H κ F w av v):bC P H' (λb=>κ (f b)) F' w (.iz k fZ.length (vr c_ fZ)) v:=by
 unfold Lg at h;split at h
 ·rename_i k' n c1;simp only[Bool.and_eq_true,beq_iff_eq]at h;obtain⟨⟨rfl,rfl⟩,e⟩:=h;obtain⟨aD,E,U,ag⟩:=ae;refine⟨aD,E,U,λi G=>?_⟩;have he:=List.all_eq_true.1 e i (by grind);have ae:=ag i G;rw[show fZ[i]?=some fZ[i] by simp]at he;rw[S9 he]at ae;have:vr c_ fZ i=.aX fZ[i].1 0 fZ[i].2:=by simp[vr,hh,List.getD_eq_getElem?_getD,G,c_]
  rw[this];exact S8 aC ae
 grind
theorem afm(aC:sw f H H'){bs:List Nat}{av:aH}(h:Lh H f bs av=true){v:Value}(ae:bC P H κ F w av v):bC P H' (λb=>κ (f b)) F' w (.agg bs.length (vs c_ bs)) v:=by
 unfold Lh at h;split at h
 ·rename_i n dt;simp only[Bool.and_eq_true,beq_iff_eq]at h;obtain⟨rfl,e⟩:=h;obtain⟨aD,E,U,ag⟩:=ae;refine⟨aD,E,U,λi G=>?_⟩;have he:=List.all_eq_true.1 e i (by grind);obtain⟨ae,hc⟩:=ag i G;refine⟨?_,hc⟩;rw[show bs[i]?=some bs[i] by simp]at he;rw[S_ he]at ae;have:vs c_ bs i=.al bs[i] 0:=by simp[vs,hh,List.getD_eq_getElem?_getD,G,c_]
  rw[this];refine⟨⟨Nat.zero_le _,ae.1.2⟩,λ_ hc=>?_⟩;obtain⟨aQ,aS,_⟩:=(aC bs[i]).2.2.1 hc;rw[aS];exact ae.2 rfl aQ
 grind
theorem xG(aT:∀ b,cG P H κ F w b)(bp:∀ r,F r->F' r)(aC:sw f H H')(t:bX){av:aH}{R:Type}{r:Option (R×List Nat)}{z:t.cons R}{l:List Nat}(h:t.jb H f av r=some (z,l)) :
  LF P H H' κ f F F' w r l av (t.av c_ z).1 (t.av c_ z).2:=by
 cases t with
 | undef=>exact .hF h λ_ _=>by simp only[bX.av,bC]
 | val t=>
  obtain⟨e2,m,ah,rfl,rfl⟩:=qh h;exact⟨m,rfl,λb W=>List.mem_append_right _ W,λaj v ae=>mm aT bp ah aj.left ae⟩
 | dW t=>
  obtain⟨rfl,rfl⟩:=LG h;exact .hF rfl λv ⟨p,bk,E,U,ag⟩=>⟨p,bk,E,U.mono bp (c6.refl _ _),ff _ bp (c6.refl _ _) ag⟩
 | aX b off=>
  obtain⟨E,U⟩:=kE h;obtain rfl:=S9 E;exact .hF U λv ae=>S8 aC ae
 | al b=>
  obtain⟨E,U⟩:=kE h;obtain rfl:=S_ E;refine .hF U λv ae=>⟨⟨Nat.zero_le _,ae.1.2⟩,λ_ hc=>?_⟩
  obtain⟨aQ,aS,_⟩:=(aC b).2.2.1 hc;simp only[c_];rw[aS];exact ae.2 rfl aQ
 | sub b=>
  obtain⟨E,U⟩:=LH h;refine .hF E λv ae=>?_;rcases U with rfl | ⟨rfl,fa,ag⟩
  ·refine⟨⟨Nat.zero_le _,ae.1.2⟩,λ_ hc=>?_⟩;obtain⟨aQ,aS,bP⟩:=(aC b).2.2.1 hc;simp only[c_]at aS bP ⊢;rw[aS,bP];exact ae.2 rfl aQ
  ·refine⟨⟨Nat.zero_le _,ae.1.2⟩,λ_ hc=>?_⟩;obtain⟨aQ,aS,bP⟩:=(aC b).2.2.1 hc;have:=ae.2 rfl aQ;simp only[c_]at aS bP ⊢;rw[aS,bP,ag];refine⟨⟨Nat.zero_le _,Nat.le_refl _⟩,?_⟩;rw[this];unfold bD.slice;cases aB:(κ (f b)).e9 with
   | true=>exact .inl ⟨aB,rfl⟩
   | false=>exact .inr ⟨aB,(κ (f b)).off,by simp,by simp,λ_=>by simp⟩
 | fJ b=>
  obtain⟨E,U⟩:=kE h;obtain rfl:=afi E;exact .hF U λv ae=>⟨⟨Nat.zero_le _,ae.1.2⟩,λ_ hc=>ae.2 rfl ((aC b).2.2.2.1 hc)⟩
 | j3 b=>
  obtain⟨E,U⟩:=kE h;obtain rfl:=afj E;exact .hF U λv ae=>⟨⟨Nat.zero_le _,ae.1.2⟩,λ_ hc=>ae.2 rfl ((aC b).2.2.2.2.1 hc)⟩
 | cv=>
  obtain⟨E,U⟩:=kE h;obtain rfl:=afk E;exact .hF U λv ae=>ae
 | iz k fZ=>
  obtain⟨E,U⟩:=kE h;exact .hF U λv ae=>afl aC E ae
 | hG bs=>
  obtain⟨E,U⟩:=kE h;exact .hF U λv ae=>afm aC E ae
 | iW b=>
  obtain⟨E,rfl⟩:=LI h;refine .hF E λv ae=>⟨⟨Nat.zero_le _,ae.1.2⟩,λ_ hc=>?_⟩
  obtain⟨aQ,aS,bP⟩:=(aC b).2.2.1 hc;have:=ae.2 rfl aQ;simp only[c_]at aS bP ⊢;rw[aS,bP];exact this
 | aW aM=>
  obtain⟨E,rfl⟩:=GD h;exact .hF E λv ae=>ae
 | hf=>
  obtain⟨E,rfl⟩:=LJ h;exact .hF E λv ae=>ae
theorem afn(aT:∀ b,cG P H κ F w b)(bp:∀ r,F r->F' r)(aC:sw f H H'):∀ (ts:List bX) {c:Nat->aH} {i:Nat} {R:Type} {r:Option (R×List Nat)} {z:qf ts R} {l:List Nat},zM H f ts c i r=some (z,l)->
  ∃ m,r=some ((pj c_ ts z).2,m)/\(∀ b∈m,b∈l)/\(iX H κ F' l->∀ j,j<ts.length->∀ v,bC P H κ F w (c (i+j)) v->bC P H' (λb=>κ (f b)) F' w ((pj c_ ts z).1.getD j .undef) v):=by
 intro ts;induction ts with
 | nil=>intro c i R r z l h;exact⟨l,h,λ_ W=>W,λ_ j aF=>by cases aF⟩
 | cons t ts aK=>
  intro c i R r z l h;obtain⟨m1,E,U,ag⟩:=xG (F':=F') (H':=H') aT bp aC t h;obtain⟨m2,aQ,aS,gy⟩:=aK E;refine⟨m2,aQ,λb W=>U b (aS b W),λaj j aF v ae=>?_⟩;cases j with
  | zero=>exact ag aj v ae
  | succ j=>
   have:=gy (λb W=>aj b (U b W)) j (by grind) v (by grind);simpa [pj]using this
theorem afo(aT:∀ b,cG P H κ F w b)(bp:∀ r,F r->F' r)(aC:sw f H H'):∀ (ts:List (Nat×bX)) {c:Nat->aH} {R:Type} {r:Option (R×List Nat)} {z:oC ts R} {l:List Nat},xx H f ts c r=some (z,l)->
  ∃ m,r=some ((eD c_ ts z).2,m)/\(∀ b∈m,b∈l)/\(iX H κ F' l->∀ i v,bC P H κ F w (c i) v->bC P H' (λb=>κ (f b)) F' w (fs (eD c_ ts z).1 i) v):=by
 intro ts;induction ts with
 | nil=>intro c R r z l h;exact⟨l,h,λ_ W=>W,λ_ _ _ _=>by simp only[eD,fs,bC]⟩
 | cons p ts aK=>
  intro c R r z l h;obtain⟨m1,E,U,ag⟩:=xG (F':=F') (H':=H') aT bp aC p.2 h;obtain⟨m2,aQ,aS,gy⟩:=aK E;refine⟨m2,aQ,λb W=>U b (aS b W),λaj i v ae=>?_⟩;simp only[eD,fs];split
  ·grind
  ·exact gy (λb W=>aj b (U b W)) i v ae
theorem GF(t:bX){av:aH}{R:Type}{r:Option (R×List Nat)}{z:t.cons R}{l:List Nat}(h:t.jb H f av r=some (z,l)):∃ m,r=some ((t.av c_ z).2,m)/\∀ b∈m,b∈l:=by
 cases t with
 | undef=>exact⟨l,h,λ_ h=>h⟩
 | val t=>obtain⟨_,m,_,U,ag⟩:=qh h;exact⟨m,U,λb W=>ag ▸ List.mem_append_right _ W⟩
 | dW t=>exact⟨l,(LG h).2,λ_ h=>h⟩
 | sub b=>exact⟨l,(LH h).1,λ_ h=>h⟩
 | aW aM=>exact⟨l,(GD h).1,λ_ h=>h⟩
 | hf=>exact⟨l,(LJ h).1,λ_ h=>h⟩
 | iW b=>exact⟨l,(LI h).1,λ_ h=>h⟩
 | aX b off=>exact⟨l,(kE h).2,λ_ h=>h⟩
 | al b=>exact⟨l,(kE h).2,λ_ h=>h⟩
 | fJ b=>exact⟨l,(kE h).2,λ_ h=>h⟩
 | j3 b=>exact⟨l,(kE h).2,λ_ h=>h⟩
 | cv=>exact⟨l,(kE h).2,λ_ h=>h⟩
 | iz k fZ=>exact⟨l,(kE h).2,λ_ h=>h⟩
 | hG bs=>exact⟨l,(kE h).2,λ_ h=>h⟩
theorem afp:∀ (ts:List bX) {c:Nat->aH} {i:Nat} {R:Type} {r:Option (R×List Nat)} {z:qf ts R} {l:List Nat},zM H f ts c i r=some (z,l)->∃ m,r=some ((pj c_ ts z).2,m)/\∀ b∈m,b∈l:=by
 intro ts;induction ts with
 | nil=>intro c i R r z l h;exact⟨l,h,λ_ h=>h⟩
 | cons t ts aK=>
  intro c i R r z l h;obtain⟨m,E,U⟩:=GF t h;obtain⟨dy,ag,a6⟩:=aK E;exact⟨dy,ag,λb W=>U b (a6 b W)⟩
theorem afq:∀ (ts:List (Nat×bX)) {c:Nat->aH} {R:Type} {r:Option (R×List Nat)} {z:oC ts R} {l:List Nat},xx H f ts c r=some (z,l)->∃ m,r=some ((eD c_ ts z).2,m)/\∀ b∈m,b∈l:=by
 intro ts;induction ts with
 | nil=>intro c R r z l h;exact⟨l,h,λ_ h=>h⟩
 | cons p ts aK=>
  intro c R r z l h;obtain⟨m,E,U⟩:=GF p.2 h;obtain⟨dy,ag,a6⟩:=aK E;exact⟨dy,ag,λb W=>U b (a6 b W)⟩
theorem CY(t:bX){av:aH}{R:Type}{r:Option (R×List Nat)}{z:t.cons R}{l:List Nat}(h:t.jb H f av r=some (z,l))(M:∀ y m,r=some (y,m)->gM H m):gM H l:=by
 cases t with
 | undef=>exact M _ _ h
 | val t=>obtain⟨_,m,E,U,rfl⟩:=qh h;exact (mT E).append (M _ _ U)
 | dW t=>exact M _ _ (LG h).2
 | sub b=>exact M _ _ (LH h).1
 | aW aM=>exact M _ _ (GD h).1
 | hf=>exact M _ _ (LJ h).1
 | iW b=>exact M _ _ (LI h).1
 | aX b off=>exact M _ _ (kE h).2
 | al b=>exact M _ _ (kE h).2
 | fJ b=>exact M _ _ (kE h).2
 | j3 b=>exact M _ _ (kE h).2
 | cv=>exact M _ _ (kE h).2
 | iz k fZ=>exact M _ _ (kE h).2
 | hG bs=>exact M _ _ (kE h).2
theorem afr:∀ (ts:List bX) {c:Nat->aH} {i:Nat} {R:Type} {r:Option (R×List Nat)} {z:qf ts R} {l:List Nat},zM H f ts c i r=some (z,l)->(∀ y m,r=some (y,m)->gM H m)->gM H l:=by
 intro ts;induction ts with
 | nil=>intro c i R r z l h M;exact M _ _ h
 | cons t ts aK=>intro c i R r z l h M;exact CY t h λy m hm=>aK hm M
theorem afs:∀ (ts:List (Nat×bX)) {c:Nat->aH} {R:Type} {r:Option (R×List Nat)} {z:oC ts R} {l:List Nat},xx H f ts c r=some (z,l)->(∀ y m,r=some (y,m)->gM H m)->gM H l:=by
 intro ts;induction ts with
 | nil=>intro c R r z l h M;exact M _ _ h
 | cons p ts aK=>intro c R r z l h M;exact CY p.2 h λy m hm=>aK hm M
theorem LK{t:ad}{ts:List bX}{iJ:bR}{R:Type}{r:Option (R×List Nat)}{z:qf ts R}{l:List Nat}(h:Li H f t ts iJ r=some (z,l)):∃ c,iJ=.cells t c/\t.size=ts.length/\zM H f ts c 0 r=some (z,l):=by
 unfold Li at h;grind
theorem LL{e:ad}{iJ:bR}{R:Type}{r:Option (R×List Nat)}{z:List e.ai×R}{l:List Nat}(h:Lj e iJ r=some (z,l)):r=some (z.2,l)/\iJ=.bj e z.1:=by
 unfold Lj at h;grind
theorem LM{e:ad}{t:bX}{iJ:bR}{R:Type}{r:Option (R×List Nat)}{z:(List e.ai×Nat)×t.cons R}{l:List Nat}(h:Lm H f e t iJ r=some (z,l)):∃ v,iJ=.gp e z.1.1 z.1.2 v/\t.jb H f v r=some (z.2,l):=by
 unfold Lm at h;grind
theorem LN{k v:ad}{iJ:bR}{R:Type}{r:Option (R×List Nat)}{z:List (k.ai×v.ai)×R}{l:List Nat}(h:Lk k v iJ r=some (z,l)):r=some (z.2,l)/\iJ=.mp k v z.1:=by
 unfold Lk at h;grind
theorem LO{k v:ad}{iJ:bR}{R:Type}{r:Option (R×List Nat)}{z:(Option (k.ai×v.ai)×List (k.ai×v.ai))×R}{l:List Nat}(h:Ll k v iJ r=some (z,l)):r=some (z.2,l)/\iJ=.ct k v z.1.1 z.1.2:=by
 unfold Ll at h;grind
theorem LP{t:ad}{iJ:bR}{R:Type}{r:Option (R×List Nat)}{z:t.ai×R}{l:List Nat}(h:Ln H t iJ r=some (z,l)):∃ c,iJ=.cells t c/\xv H t (.agg t.size c) r=some (z,l):=by
 unfold Ln at h;grind
theorem LQ{t:ad}{b:Nat}{R:Type}{r:Option (R×List Nat)}{z:t.ai×R}{l:List Nat}(h:Lo H t b r=some (z,l)):∃ e2 m,(dC (.bI t) (.aX b (H b).gen 0)).run H=some (some z.1,e2)/\r=some (z.2,m)/\l=e2++m:=by
 unfold Lo at h;split at h
 ·rename_i x e2 ah;split at h
  ·cases h;exact⟨e2,_,ah,rfl,rfl⟩
  ·cases h
 ·cases h
theorem S'{e:ad}{b:Nat}{xs:List e.ai}{l:List Nat}(h:(dC (.slice e) (.al b (H b).gen)).run H=some (xs,l)):(H b).body=.bj e xs\/(H b).body=.hD e xs:=by
 simp only[dC,kr,ad.eF,if_true,dX,ar.e4,ar.bN]at h;split at h
 ·rename_i a7 ys W;simp only[Option.map_eq_some_iff,Prod.mk.injEq]at h;obtain⟨z,bl,rfl,_⟩:=h;obtain⟨q1,rfl⟩:=kO bl;grind
 ·rename_i a7 ys W;simp only[Option.map_eq_some_iff,Prod.mk.injEq]at h;obtain⟨z,bl,rfl,_⟩:=h;obtain⟨q1,rfl⟩:=kO bl;grind
 grind
theorem aft{k v:ad}{b:Nat}{xs:List (k.ai×v.ai)}{l:List Nat}(h:(dC (.map k v) (.fJ b (H b).gen)).run H=some (xs,l)):(H b).body=.mp k v xs\/(H b).body=.ji k v xs:=by
 simp only[dC,kr,ad.eF,if_true,dX,ar.e4,ar.bN]at h;split at h
 ·rename_i k' h3 ys W;simp only[Option.map_eq_some_iff,Prod.mk.injEq]at h;obtain⟨z,bl,rfl,_⟩:=h;obtain⟨q1,rfl⟩:=kO bl;grind
 ·rename_i k' h3 ys W;simp only[Option.map_eq_some_iff,Prod.mk.injEq]at h;obtain⟨z,bl,rfl,_⟩:=h;obtain⟨q1,rfl⟩:=kO bl;grind
 grind
theorem afu{t:ad}{b:Nat}{x:Option t.ai}{l:List Nat}(h:(dC (.bI t) (.aX b (H b).gen 0)).run H=some (x,l)):(H b).body.fK=true:=by
 simp only[dC,kr,tB,ar.e4,and_self,if_true]at h;split at h
 ·rename_i W;rw[W];rfl
 ·rename_i W;rw[W];rfl
 ·cases h
theorem b2.Ta(t:b2){b:Nat}{R:Type}{r:Option (R×List Nat)}{z:t.cons R}{l:List Nat}(h:t.jb H f b r=some (z,l)) :
  (∃ m,r=some ((t.body c_ z).2,m)/\∀ c∈m,c∈l)/\oF (H b).body (t.body c_ z).1/\∀ k,(t.body c_ z).1.b1 k=true->t.CO=true:=by
 cases t with
 | cells t ts=>
  obtain⟨c,e,aE,h⟩:=LK h;refine⟨afp ts h,?_,λ_ _=>rfl⟩;rw[e];exact⟨λ_=>rfl,λh=>(by cases h),λh=>(by cases h),λh=>(by cases h),λ_ _=>rfl⟩
 | bj e=>
  obtain⟨E,U⟩:=LL h;refine⟨⟨l,E,λ_ h=>h⟩,?_,λ_ _=>rfl⟩;rw[U];exact oF.refl _
 | hD e=>
  obtain⟨e2,m,E,U,rfl⟩:=qh h;refine⟨⟨m,U,λ_ h=>List.mem_append_right _ h⟩,?_,λ_ h=>(by cases h)⟩;rcases S' E with e | e<;>rw[e]
  ·exact⟨λh=>(by cases h),λ_=>⟨rfl,rfl,rfl⟩,λh=>(by cases h),λh=>(by cases h),λ_ h=>(by cases h)⟩
  ·exact oF.refl _
 | mp k v=>
  obtain⟨E,U⟩:=LN h;refine⟨⟨l,E,λ_ h=>h⟩,?_,λ_ _=>rfl⟩;rw[U];exact oF.refl _
 | ji k v=>
  obtain⟨e2,m,E,U,rfl⟩:=qh h;refine⟨⟨m,U,λ_ h=>List.mem_append_right _ h⟩,?_,λ_ h=>(by cases h)⟩;rcases aft E with e | e<;>rw[e]
  ·exact⟨λh=>(by cases h),λh=>(by cases h),λ_=>rfl,λh=>(by cases h),λ_ h=>(by cases h)⟩
  ·exact oF.refl _
 | f_ t=>
  obtain⟨c,e,h⟩:=LP h;obtain⟨e2,m,E,U,rfl⟩:=qh h;refine⟨⟨m,U,λ_ h=>List.mem_append_right _ h⟩,?_,λ_ _=>rfl⟩;rw[e];exact⟨λ_=>rfl,λh=>(by cases h),λh=>(by cases h),λh=>(by cases h),λ_ _=>rfl⟩
 | gK t=>
  obtain⟨e2,m,E,U,rfl⟩:=LQ h;refine⟨⟨m,U,λ_ h=>List.mem_append_right _ h⟩,?_,λ_ h=>(by cases h)⟩;exact⟨λ_=>afu E,λh=>(by cases h),λh=>(by cases h),λh=>(by cases h),λ_ h=>(by cases h)⟩
 | ct k v=>
  obtain⟨E,U⟩:=LO h;refine⟨⟨l,E,λ_ h=>h⟩,?_,λ_ _=>rfl⟩;rw[U];exact oF.refl _
 | gp e t=>
  obtain⟨v,ax,h⟩:=LM h;refine⟨GF t h,?_,λ_ _=>rfl⟩;rw[ax];exact⟨λh=>(by cases h),λ_=>⟨rfl,rfl,rfl⟩,λh=>(by cases h),λh=>(by cases h),λ_ h=>h⟩
theorem b2.CY(t:b2){b:Nat}{R:Type}{r:Option (R×List Nat)}{z:t.cons R}{l:List Nat}(h:t.jb H f b r=some (z,l))(M:∀ y m,r=some (y,m)->gM H m):gM H l:=by
 cases t with
 | cells t ts=>obtain⟨c,e,aE,h⟩:=LK h;exact afr ts h M
 | bj e=>exact M _ _ (LL h).1
 | hD e=>obtain⟨e2,m,E,U,rfl⟩:=qh h;exact (mT E).append (M _ _ U)
 | mp k v=>exact M _ _ (LN h).1
 | ji k v=>obtain⟨e2,m,E,U,rfl⟩:=qh h;exact (mT E).append (M _ _ U)
 | f_ t=>obtain⟨c,e,h⟩:=LP h;obtain⟨e2,m,E,U,rfl⟩:=qh h;exact (mT E).append (M _ _ U)
 | gK t=>obtain⟨e2,m,E,U,rfl⟩:=LQ h;exact (mT E).append (M _ _ U)
 | ct k v=>exact M _ _ (LO h).1
 | gp e t=>obtain⟨v,_,h⟩:=LM h;exact Go.Fer.CY t h M
theorem b2.afv(aT:∀ b,cG P H κ F w b)(bp:∀ r,F r->F' r)(aC:sw f H H')(t:b2){b:Nat}{R:Type}{r:Option (R×List Nat)}{z:t.cons R}{l:List Nat}(h:t.jb H f b r=some (z,l))(aj:iX H κ F' l) :
  jC P H' (λb=>κ (f b)) F' w (κ b) (t.body c_ z).1:=by
 have W:=aT b;unfold cG at W;cases t with
 | cells t ts=>
  obtain⟨c,e,aE,h⟩:=LK h;rw[e]at W;obtain⟨cs,T,aQ,aS,bP⟩:=W;obtain⟨m,_,_,gy⟩:=afn (H':=H') aT bp aC ts h;refine⟨cs,T,aQ,aS,λi G=>⟨?_,(bP i G).2⟩⟩;have:=gy aj i (by omega) _ (by rw[Nat.zero_add];exact (bP i G).1);exact this
 | bj e=>
  rw[(LL h).2]at W;refine⟨W.1,λaB=>?_⟩;obtain⟨cs,T,E,U,ag,a6,bM⟩:=W.2 aB;exact⟨cs,T,E,U,ag,a6,bM.mono bp (c6.refl _ _)⟩
 | hD e=>
  obtain⟨e2,m,E,U,rfl⟩:=qh h;have vj:=S' E;have xH:=mm (v:=(κ b).slice (H b).body.len) aT bp E aj.left ⟨⟨Nat.le_refl _,by unfold bD.slice;split<;>rfl⟩,λ_ _=>rfl⟩;have:=((dV rfl).1 xH).2;rcases vj with a7 | a7<;>(rw[a7]at this;exact this)
 | mp k v=>
  rw[(LN h).2]at W;obtain⟨ms,clk,E,U⟩:=W;exact⟨ms,clk,E,U.mono bp (c6.refl _ _)⟩
 | ji k v=>
  obtain⟨e2,m,E,U,rfl⟩:=qh h;have xH:=mm (v:=.map (some (κ b).aa)) aT bp E aj.left ⟨⟨Nat.le_refl _,rfl⟩,λ_ _=>rfl⟩;exact ((dV rfl).1 xH).2
 | f_ t=>
  obtain⟨c,e,h⟩:=LP h;rw[e]at W;obtain⟨cs,T,aQ,aS,bP⟩:=W;obtain⟨e2,m,ah,_,rfl⟩:=qh h;have ae:bC P H κ F w (.agg t.size c) (.agg cs):=⟨cs.toList,by simp,by omega,λj aF=>by
   simp_all⟩
  have xH:=mm (F':=F') aT bp ah aj.left ae;have iB:=y' (P:=P) (H:=H') (κ:=λb=>κ (f b)) t xH.2;refine⟨cs,T,aQ,aS,λi G=>⟨?_,(bP i G).2⟩⟩;have:=(iB.kP i (by rw[iB.len];simpa [Value.cells,aS]using G)).1;rw[List.getD_eq_getElem?_getD]at this;rw[Array.getD_eq_getD_getElem?];simpa [Value.cells]using this
 | gK t=>
  obtain⟨e2,m,E,U,rfl⟩:=LQ h;have xH:=mm (v:=.pointer (some ⟨(κ b).aa,0,none⟩)) aT bp E aj.left ⟨⟨Nat.le_refl _,rfl⟩,λ_ _=>rfl⟩;rcases ((dV rfl).1 xH).2 with⟨_,e⟩ | ⟨p,y,bk,ax,aO,ag,a6⟩
  ·cases e
  ·simp only[List.cons.injEq,Value.pointer.injEq,Option.some.injEq,and_true]at ax;subst ax;cases aO;exact⟨bk,ag,a6⟩
 | ct k v=>
  rw[(LO h).2]at W;exact w4.mono W bp (c6.refl _ _) rfl
 | gp e t=>
  obtain⟨v,ax,h⟩:=LM h;rw[ax]at W;obtain⟨aY,cs,T,E,U,ag,a6,bM,dn,fT,jh⟩:=W;obtain⟨m,_,_,gy⟩:=xG (F':=F') (H':=H') aT bp aC t h;refine⟨aY,cs,T,E,U,ag,a6,bM,λj aF qS=>?_,gy aj _ fT,jh⟩;obtain⟨bk,d1,d2⟩:=dn j aF qS;exact⟨bk,d1,ff e bp (c6.refl _ _) d2⟩
theorem afw:∀ (l:List (Nat×b2)) {x:ph l} {m:List Nat},xw H f l=some (x,m)->∀ b,eQ (hj c_ l x) b=⟨0,.fz⟩\/
  ∃ iJ,eQ (hj c_ l x) b=⟨0,iJ⟩/\oF (H (f b)).body iJ/\∃ t,(b,t)∈l/\∀ k,iJ.b1 k=true->t.CO=true:=by
 intro l;induction l with
 | nil=>intro x m _ b;exact .inl rfl
 | cons q l aK=>
  intro x m h b;obtain⟨dz,dP⟩:=q;simp only[xw]at h;obtain⟨⟨dy,E,U⟩,ag,a6⟩:=b2.Ta dP h;by_cases e:b=dz
  ·subst e;exact .inr ⟨_,by simp only[hj,eQ,if_true],ag,dP,by simp,a6⟩
  ·rcases aK E b with k | ⟨iJ,aQ,aS,t,bP,gy⟩
   ·exact .inl (by simpa [hj,eQ,e]using k)
   ·exact .inr ⟨iJ,by simpa [hj,eQ,e]using aQ,aS,t,List.mem_cons_of_mem _ bP,gy⟩
theorem afx:∀ (l:List (Nat×b2)) {x:ph l} {m:List Nat},xw H f l=some (x,m)->gM H m:=by
 intro l;induction l with
 | nil=>intro x m h;cases h;exact .nil H
 | cons q l aK=>intro x m h;exact b2.CY q.2 h λy m hm=>aK hm
theorem afy(aT:∀ b,cG P H κ F w b)(bp:∀ r,F r->F' r)(aC:sw f H H'):∀ (l:List (Nat×b2)) {x:ph l} {m:List Nat},xw H f l=some (x,m)->iX H κ F' m->∀ b,jC P H' (λb=>κ (f b)) F' w (κ (f b)) (eQ (hj c_ l x) b).body:=by
 intro l;induction l with
 | nil=>intro x m _ _ b;trivial
 | cons q l aK=>
  intro x m h hm b;obtain⟨dz,dP⟩:=q;simp only[xw]at h;obtain⟨⟨dy,E,U⟩,_⟩:=b2.Ta dP h;by_cases e:b=dz
  ·subst e;simp only[hj,eQ,if_true];exact b2.afv aT bp aC dP h hm
  ·have:=aK E (λc hc=>hm c (U c hc)) b;simpa [hj,eQ,e]using this
theorem afz:∀ (ts:List (Nat×bX)) {c:Nat->aH} {R:Type} {r:Option (R×List Nat)} {z:oC ts R} {l:List Nat},xx H f ts c r=some (z,l)->∀ {i dI aM L n st},fs (eD c_ ts z).1 i=.aW dI aM L n st->c i=.aW dI aM L n st:=by
 intro ts;induction ts with
 | nil=>intro c R r z l _ i dI aM L n st e;cases e
 | cons p ts aK=>
  intro c R r z l h i dI aM L n st e;obtain⟨jI,t⟩:=p;simp only[xx]at h;obtain⟨m,E,_⟩:=GF t h;simp only[eD,fs]at e;split at e
  ·rename_i afA;subst afA;cases t with
   | aW kB=>
    obtain⟨_,ag⟩:=GD h;rw[ag];exact e
   | _=>cases e
  grind
end
structure GG(C:b')(s:aA)(a:Act)(w:World)(κ:Nat->bD)(f:Nat->Nat)(F':Nat->Prop)(sh:dJ)(D:sh.ai)(bV:List Nat):Prop where
 bU:∀ i,bC C.P (sh.st D).aa (λb=>κ (f b)) F' w ((sh.st D).ay i) (a.tmps.getD i Go.undef)
 bE:∀ b,cG C.P (sh.st D).aa (λb=>κ (f b)) F' w b
 b1:∀ b,((sh.st D).aa b).body.b1 (κ (f b))=true->f b ∉ bV/\(s.aa (f b)).body.b1 (κ (f b))=true/\b∈sh.oD
 zW:sw f s.aa (sh.st D).aa
 aW:∀ l aM L n st,(sh.st D).ay b6=.aW l aM L n st->s.ay b6=.aW l aM L n st
theorem dJ.Tb{C:b'}{sh:dJ}{f:Nat->Nat}{s:aA}{a:Act}{w:World}{κ:Nat->bD}{F:Nat->Prop}{D:sh.ai}{bV:List Nat}(h:sh.zN f s=some (D,bV))(M:bm C s a w κ F) :
  ∃ F',(∀ r,F r->F' r)/\bm C (s.cB bV) a w κ F'/\GG C s a w κ f F' sh D bV:=by
 unfold dJ.zN at h;split at h
 ·rename_i iI axW oz;split at h
  ·rename_i fa;cases h;obtain⟨m,E,hm⟩:=afq sh.bU oz;have lR:gM s.aa bV:=afs sh.bU oz λy m hm=>afx sh.bE hm;obtain⟨F',f1,bc,f2⟩:=bm.lj lR M;have Tc:=afw sh.bE E;have ua:sw f s.aa (sh.st D).aa:=by
    intro b;show (eQ (hj c_ sh.bE (eD c_ sh.bU D).2) b).gen=0/\oF (s.aa (f b)).body (eQ (hj c_ sh.bE (eD c_ sh.bU D).2) b).body;rcases Tc b with e | ⟨iJ,e,k,_⟩
    ·rw[e];exact⟨rfl,oF.fz _⟩
    grind
   obtain⟨m2,_,_,afB⟩:=afo (F':=F') (w:=w) M.bE f1 ua sh.bU oz;refine⟨F',f1,bc,{ bU:=λi=>afB f2 i _ (M.bU i),bE:=λb=>?_,b1:=λb W=>?_,zW:=ua,aW:=λl aM L n st e=>afz sh.bU oz e }⟩
   ·exact afy M.bE f1 ua sh.bE E (λc hc=>f2 c (hm c hc)) b
   ·have an:=(ua b).2.2.2.2.2 _ W;rcases Tc b with e | ⟨iJ,e,_,t,aI,axX⟩
    ·have e:(sh.st D).aa b=_:=e;rw[e]at W;cases W
    ·have e:(sh.st D).aa b=_:=e;rw[e]at W;have be:b∈sh.oD:=List.mem_filterMap.2 ⟨(b,t),aI,by grind⟩;grind
  grind
 grind
theorem GG.xI{C:b'}{s:aA}{a:Act}{w:World}{κ:Nat->bD}{f:Nat->Nat}{F':Nat->Prop}{sh:dJ}{D:sh.ai}{bV:List Nat}(h:GG C s a w κ f F' sh D bV){b:Nat}(W:((sh.st D).aa b).body.b1 (κ (f b))=true) :
  ((s.cB bV).aa (f b)).body.b1 (κ (f b))=true:=by
 obtain⟨E,U,_⟩:=h.b1 b W;simp only[aA.cB,if_neg E];exact U
theorem LR{C:b'}{s:aA}{a:Act}{w:World}{κ:Nat->bD}{F:Nat->Prop}(M:bm C s a w κ F){b:Nat}{e:ad} :
  bm C (s.cz b ⟨(s.aa b).gen+1,.bj e []⟩) a w (λi=>if i=b then ⟨0,0,0,true⟩ else κ i) F:=
 M.Cu (k:=⟨0,0,0,true⟩) (Nat.lt_succ_self _) (.inl rfl) (Nat.le_refl _) (λ_ _=>rfl) (λh=>by cases h) (dd.refl _) λ_ _=>⟨λ_=>rfl,λh=>by cases h⟩
theorem afC{C:b'}{s:aA}{a:Act}{w:World}{κ:Nat->bD}{F:Nat->Prop}(M:bm C s a w κ F){i b bf g':Nat}(aE:s.ay i=.al bf g'):∃ κ',bm C (Lq s i b bf g') a w κ' F:=by
 unfold Lq;split
 ·rename_i e xs aw bT;obtain⟨eO,rfl⟩:=of_decide_eq_true aw;generalize mU:(λj=>if j=b then (⟨(s.aa b).gen+1,.bj e xs⟩:bK) else if j=bf then ⟨(s.aa bf).gen+1,.fz⟩ else s.aa j)=H';generalize iK:(λj=>if j=b then κ bf else κ j)=κ';have E:H' b=⟨(s.aa b).gen+1,.bj e xs⟩:=by grind
  have U:H' bf=⟨(s.aa bf).gen+1,.fz⟩:=by grind
  have ag:∀ j,j≠b->j≠bf->H' j=s.aa j:=λj aQ aS=>by grind
  have aQ:κ' b=κ bf:=by grind
  have bP:∀ j,j≠b->κ' j=κ j:=λj k=>by grind
  have aj:fr s.aa κ H' κ':=by
   rw[BY];intro j;by_cases ax:j=b
   ·subst ax;rw[E];exact⟨Nat.le_succ _,λe=>absurd e (Nat.ne_of_lt (Nat.lt_succ_self _))⟩
   ·by_cases aO:j=bf
    ·subst aO;rw[U];exact⟨Nat.le_succ _,λe=>absurd e (Nat.ne_of_lt (Nat.lt_succ_self _))⟩
    ·rw[ag j ax aO,bP j ax];exact p3.refl _ _
  have gr:∀ j,(H' j).body.b1 (κ' j)=true->(j=b/\(s.aa bf).body.b1 (κ bf)=true)\/(j≠b/\j≠bf/\(s.aa j).body.b1 (κ j)=true):=λj aF=>by
   by_cases ax:j=b
   ·grind
   ·by_cases aO:j=bf
    ·subst aO;rw[U]at aF;cases aF
    grind
  have h:=M.move (H':=H') (κ':=κ') (F':=F) (w':=w) aj (λ_ h=>h) (λ_ h=>.inl h) (Nat.le_refl _) (λ_ _ _=>rfl) (dd.refl w)
   (λ_ j=>by
    by_cases ax:j=b
    ·subst ax;have aT:=M.bE bf;unfold cG at aT ⊢;rw[bT]at aT;rw[E,aQ];exact aT
    ·by_cases aO:j=bf
     ·subst aO;unfold cG;rw[U];trivial
     ·exact cG.lf (M.bE j) aj (λ_ h=>h) (c6.refl _ _) (by grind) (bP j ax) λ_=>rfl)
   (λj aF=>by
    rcases gr j aF with⟨rfl,h⟩ | ⟨ax,_,h⟩
    ·rw[aQ];have:=M.al bf h;grind
    ·rw[bP j ax];have:=M.al j h;grind)
   (λj j_ aF fW e=>by
    rcases gr j aF with⟨rfl,h⟩ | ⟨ax,aO,h⟩<;>rcases gr j_ fW with⟨rfl,dt⟩ | ⟨Td,afD,dt⟩
    ·rfl
    ·rw[aQ,bP j_ Td]at e;exact absurd (M.inj bf j_ h dt e).symm afD
    ·rw[aQ,bP j ax]at e;exact absurd (M.inj j bf h dt e) aO
    ·rw[bP j ax,bP j_ Td]at e;exact M.inj j j_ h dt e)
   M.db
   (λj _ aF=>by
    by_cases ax:j=b
    ·subst ax;rw[E]at aF;rcases aF with aF | aF<;>cases aF
    ·by_cases aO:j=bf
     ·subst aO;rw[U]at aF;rcases aF with aF | aF<;>cases aF
     grind)
  refine⟨κ',{ h with bU:=λj=>?_,dH:=h.dH,dfr:=h.dfr,bE:=h.bE,eL:=λl aM L n st a7=>?_ }⟩
  ·show bC C.P _ _ F w (if j=i then .al b ((s.aa b).gen+1) else s.ay j) _;split
   ·rename_i e;subst e;have ae:=M.bU j;rw[aE]at ae;have ig:=ae.2 rfl (by rw[bT];rfl);rw[bT]at ig;exact⟨⟨by grind,ae.1.2⟩,λ_ _=>by grind⟩
   ·exact h.bU j
  ·have a7:(if b6=i then .al b ((s.aa b).gen+1) else s.ay b6)=.aW l aM L n st:=a7;split at a7
   ·cases a7
   ·exact h.eL l aM L n st a7
 grind
theorem afE{C:b'}{bs:List (Nat×b2)}{s:aA}{a:Act}{w:World}{κ:Nat->bD}{F:Nat->Prop}(M:bm C s a w κ F)(i b:Nat):∃ κ',bm C (Lr bs s i b) a w κ' F:=by
 unfold Lr;split
 ·rename_i e aE _;have h:=LR M (b:=b) (e:=e);refine⟨_,{ h with bU:=λj=>?_,dH:=h.dH,dfr:=h.dfr,bE:=h.bE,eL:=λl aM L n st a7=>?_ }⟩
  ·show bC C.P _ _ F w (if j=i then .al b ((s.aa b).gen+1) else s.ay j) _;split
   ·rename_i e;subst e;have ae:=M.bU j;rw[aE]at ae;have ae:a.tmps.getD j undef=.slice none 0 0:=ae;rw[ae];exact⟨⟨by simp[aA.cz],rfl⟩,λ_ _=>by simp[bD.slice]⟩
   ·exact h.bU j
  ·have a7:(if b6=i then .al b ((s.aa b).gen+1) else s.ay b6)=.aW l aM L n st:=a7;split at a7
   ·cases a7
   ·exact h.eL l aM L n st a7
 ·rename_i aE _;exact afC M aE
 grind
theorem afF{C:b'}{bs:List (Nat×b2)}{s:aA}{a:Act}{w:World}{κ:Nat->bD}{F:Nat->Prop}(M:bm C s a w κ F)(c j b:Nat):∃ κ',bm C (Ls bs s c j b) a w κ' F:=by
 unfold Ls;split
 ·rename_i t f hc;split
  ·rename_i e aq aw _;have Te:c≠b:=λe=>by grind
   have h:=LR M (b:=b) (e:=e);have iE:(s.cz b ⟨(s.aa b).gen+1,.bj e []⟩).aa c=s.aa c:=by simp[aA.cz,Te]
   have aT:=h.bE c;unfold cG at aT;rw[iE,hc]at aT;obtain⟨cs,T,E,U,ag⟩:=aT;refine⟨_,h.o9 (w':=w) (b:=c) (x:=⟨(s.aa c).gen,.cells t λq=>if q=j then .al b ((s.aa b).gen+1) else f q⟩) (by rw[iE,hc];rfl) rfl
    (qT (by rw[iE]) (λ_=>by rw[iE,hc];rfl) (λh=>by cases h) (λh=>by cases h) (λh=>by cases h)) (λ_=>by rw[iE,hc];rfl) (λh=>by cases h) (λ_ _=>rfl) rfl (dd.refl _) λH mU aj _=>?_⟩
   refine⟨cs,T,E,U,λq bt=>⟨?_,(ag q bt).2⟩⟩;show bC C.P H _ F w (if q=j then .al b ((s.aa b).gen+1) else f q) _;split
   ·rename_i eq;subst eq;have ae:=(ag q bt).1;rw[aq]at ae;have ae:cs.getD q undef=.slice none 0 0:=ae;rw[ae];have afG:H b=⟨(s.aa b).gen+1,.bj e []⟩:=by rw[mU];simp[aA.cz,Ne.symm Te]
    exact⟨⟨by grind,rfl⟩,λ_ _=>by rw[afG];simp[bD.slice]⟩
   ·exact bC.lb aj (λ_ h=>h) (c6.refl _ _) (ag q bt).1
  grind
 grind
theorem afH{C:b'}(sh:dJ){s:aA}{a:Act}{w:World}{κ:Nat->bD}{F:Nat->Prop}(M:bm C s a w κ F):∃ κ',bm C (sh.Gg s) a w κ' F:=by
 have E:∀ (l:List (Nat×bX)) (s:aA) (κ:Nat->bD),bm C s a w κ F->∃ κ',bm C (Gd sh.bE l s) a w κ' F:=by
  intro l;induction l with
  | nil=>intro s κ h;exact⟨κ,h⟩
  | cons p l aK=>
   intro s κ h;simp only[Gd];split
   ·obtain⟨κ',dt⟩:=afE (bs:=sh.bE) h p.1 _;exact aK _ _ dt
   grind
 have U:∀ (c:Nat) (l:List bX) (j:Nat) (s:aA) (κ:Nat->bD),bm C s a w κ F->∃ κ',bm C (Ge sh.bE c l j s) a w κ' F:=by
  intro c l;induction l with
  | nil=>intro j s κ h;exact⟨κ,h⟩
  | cons t l aK=>
   intro j s κ h;simp only[Ge];split
   ·obtain⟨κ',dt⟩:=afF (bs:=sh.bE) h c j _;exact aK _ _ _ dt
   ·exact aK _ _ _ h
 have ag:∀ (l:List (Nat×b2)) (s:aA) (κ:Nat->bD),bm C s a w κ F->∃ κ',bm C (Gf sh.bE l s) a w κ' F:=by
  intro l;induction l with
  | nil=>intro s κ h;exact⟨κ,h⟩
  | cons p l aK=>
   intro s κ h;simp only[Gf];split
   ·obtain⟨κ',dt⟩:=U p.1 _ 0 s κ h;exact aK _ _ dt
   grind
 obtain⟨afI,gO⟩:=E sh.bU s κ M;exact ag sh.bE _ _ gO
theorem Tf:∀ (l:List (Nat×b2)) (x:ph l) (b:Nat),(eQ (hj c_ l x) b).body.fh=true->∃ q∈l,q.1=b/\q.2.SQ=true
 | [],_,_,h=>by cases h
 | p::l,x,b,h=>by
  simp only[hj,eQ]at h;by_cases e:b=p.1
  ·rw[if_pos e]at h;refine⟨p,by simp,e.symm,?_⟩;obtain⟨jI,t⟩:=p;cases t<;>first | rfl | cases h
  ·rw[if_neg e]at h;obtain⟨q,E,U⟩:=Tf l _ b h;grind
theorem dJ.zX{C:b'}{sh:dJ}{s:aA}{a:Act}{w:World}{D:sh.ai}{κ:Nat->bD}{F:Nat->Prop}(h:sh.jb s=some D)(M:bm C s a w κ F):∃ κ' F',(∀ r,F r->F' r)/\bm C (sh.st D) a w κ' F':=by
  obtain⟨κ,M⟩:=afH sh M;unfold dJ.jb at h;generalize sh.Gg s=s at h M;split at h;case h_2=>cases h
  rename_i afJ;simp only[Option.map_eq_some_iff]at h;obtain⟨⟨iI,bV⟩,h,rfl⟩:=h;obtain⟨F',f1,bc,aw⟩:=dJ.Tb h M;have gr:=λb W=>aw.xI (b:=b) W;exact⟨κ, F', f1, { bc with
    dH:=bc.dH,dfr:=bc.dfr,bU:=aw.bU,bE:=aw.bE,al:=λb W=>bc.al b (gr b W),inj:=λb bf W dc=>bc.inj b bf (gr b W) (gr bf dc)
    jD:=λb r M hc=>bc.jD b r M (hc.imp (λhc=>by
      have aY:=(aw.zW b).2.1 hc;simp only[aA.cB];split
      · rcases zn s.aa (s.aa b) with e | ⟨_,_,ah,_⟩ | ⟨_,_,_,ah,_⟩ | ⟨_,_,_,_,_,_,e⟩
        · grind
        · rw[ah]at aY;cases aY
        · rw[ah]at aY;cases aY
        · rw[e];rfl
      omega) (λhc=>by
      have aY:=(aw.zW b).2.2.2.1 hc;simp only[aA.cB];split
      · rcases zn s.aa (s.aa b) with e | ⟨_,_,ah,_⟩ | ⟨_,_,_,_,e⟩ | ⟨_,_,_,_,ah,_,_⟩
        · grind
        · rw[ah]at aY;cases aY
        · rw[e];rfl
        · rw[ah]at aY;cases aY
      omega))
    kq:=λb k an _ bb=>by
      obtain⟨b9,a2,_⟩:=(aw.zW b).2.2.1 bb;have aC:(s.aa b).gen=0:=by
        rcases Tf sh.bE (eD c_ sh.bU iI).2 b bb with⟨q,bt,rfl,jl⟩
        have:=List.all_eq_true.1 afJ q bt;rw[jl]at this;have F1:=M.j4 _ k an;grind
      obtain⟨aQ,aS⟩:=M.kq b k an aC b9;grind
    eL:=λl aM L n st e=>by
      obtain⟨E,U,Y,ag,a6,bM⟩:=bc.eL l aM L n st (aw.aW l aM L n st e);grind }⟩
theorem dJ.xG{C:b'}{sh:dJ}{s:aA}{a:Act}{w:World}{D:sh.ai}(h:sh.jb s=some D)(M:cu C s a w):cu C (sh.st D) a w:=by
 obtain⟨κ,F,M⟩:=M;obtain⟨κ',F',_,bc⟩:=dJ.zX h M;exact⟨κ',F',bc⟩
end Go.Fer
namespace Go.Fer
open Go.RowKit
def afK(C:b')(o:Oper)(s:aA)(cd:hV):Prop:=
 ∀ (a:Act) (w:World) (Q:Exit->Act->World->Prop) (K:Act->World->Prop),cu C s a w->cd.cb->A.cy cd.m (λy=>∀ a' w',cu C (cd.st y) a' w'->K a' w')->o.wpIn (dT C.r) 0 C.P a w K Q
def afL(C:b')(o:Oper)(s:aA)(cd:hV):Prop:=
 ∀ gs,cd.CQ=some gs->(∀ y a w,cu C (cd.st y) a w->cu C (gs true y) a w)/\∀ a w,cu C s a w->cu C (gs false cd.d) (a.put o.dst Go.undef) w
structure qi(C:b')(o:Oper)(s:aA)(cd:hV):Prop where
 prog:afK C o s cd
 axY:afL C o s cd
 axZ:q6 (a8 C.aN s.ay) o->cd.cb
theorem cu.LS{C:b'}{s:aA}{d:Option Nat}{av av':aH}{a:Act}{w:World}(h:cu C (s.set d av) a w)
  (aw:∀ i,d=some i->i<C.nt) (ae:∀ κ F v,bC C.P s.aa κ F w av v->bC C.P s.aa κ F w av' v):cu C (s.set d av') a w:=by
 cases d with
 | none=>exact h
 | some d=>
  obtain⟨κ,F,h⟩:=h;have aB:=h.gq;have w6:=aw d rfl;have aI:b6≠d:=by unfold b6 eR at *;omega
  refine⟨κ,F,{ h with bU:=λi=>?_,dH:=h.dH,dfr:=h.dfr,bE:=h.bE,eL:=λl aM L n st e=>h.eL l aM L n st ?_ }⟩
  ·have G:=h.bU i;simp only[aA.set]at G ⊢;grind
  ·simp only[aA.set,if_neg aI]at e ⊢;exact e
section
variable {C:b'} {T:Nat->ad} {bg:Nat->Option aL} {o:Oper} {s:aA}
theorem CZ{args:List Operand}(W:q6 (a8 C.aN s.ay) o)(bb:∀ x∈args,x∈o.op.operands.toList):jH (args.map (a8 C.aN s.ay)):=
 CF λv ae=>by
  simp only[List.mem_map]at ae;obtain⟨p,ao,rfl⟩:=ae;exact W p (bb p ao)
theorem Tg(bh:∀ i,o.dst=some i->i<C.nt){aW:ad}{bV:List Nat}(lR:gM s.aa bV){d:aW.ai} :
  (∀ (y:aW.ai) a w,cu C (q9 s o aW bV (qU aW y)) a w->cu C (q9 s o aW bV (.hC true (qU aW y))) a w)/\∀ a w,cu C s a w->cu C (q9 s o aW bV (.hC false (qU aW d))) (a.put o.dst Go.undef) w:=by
 refine⟨λy a w h=>cu.LS h bh λκ F v ae=>⟨λ_=>ae,λh=>(by cases h)⟩,λa w h=>?_⟩;obtain⟨κ,F,M⟩:=h;obtain⟨F',_,bc,_⟩:=bm.lj lR M;unfold q9;split
 ·exact⟨κ,F,M.set bh ⟨λh=>(by cases h),λ_=>rfl⟩⟩
 ·exact⟨κ,F',bc.set bh ⟨λh=>(by cases h),λ_=>rfl⟩⟩
theorem afM(bh:∀ i,o.dst=some i->i<C.nt){k:Nat}{args:Array Operand}{dp:Array TypeId}(af:o.op=.call { callee:=.value (.func k),args:=args,argTypes:=dp }){dw:hH}(aq:h2 C.P k dw.ts dw.aW dw.sh){cd:hV}
  (h:CR C.aN s o args.toList dw=some cd):qi C o s cd:=by
 unfold CR at h;split at h
 ·rename_i x bV ah;cases h;refine⟨λa w Q K M be hm=>?_,λgs oG=>?_,λW=>CZ W λx ah=>by rw[af];simp[Op.operands,Call.operands];simp_all⟩
  ·obtain⟨κ,F,M⟩:=M;exact Sf M aq bh af be ah hm.1 λy w' aR v ka=>hm.2 y aR _ _ ka
  ·cases oG;exact Tg bh (qc _ ah)
 grind
theorem afN(bh:∀ i,o.dst=some i->i<C.nt){k:Nat}{args:Array Operand}{dp:Array TypeId}(af:o.op=.call { callee:=.value (.func k),args:=args,argTypes:=dp }){dw:hH}(aq:h2 C.P k dw.ts dw.aW dw.sh)(C0:Rn C.P k dw.ts dw.aW dw.sh){cd:hV}
  (h:Gl C.aN s o args.toList dw=some cd):qi C o s cd:=by
 unfold Gl at h;split at h
 ·rename_i x bV ah;cases h;refine⟨λa w Q K M be hm=>?_,λgs oG=>(by grind),λW=>CZ W λx ah=>by rw[af];simp[Op.operands,Call.operands];simp_all⟩;obtain⟨κ,F,M⟩:=M;obtain⟨args⟩:=args;have c7:(execOp a.eval o).run C.P w=.ok (.enter k (args.map a.eval).toArray) w:=by
   simp only[execOp,af,Sem.run_bind,resolve,Act.eval,Deferred.ofValue,Sem.run_pure,Result.andThen_ok,invoke];have:=aq.enter (args.map a.eval).toArray w;grind
  obtain⟨F',f1,bc,f2⟩:=bm.lj (qc _ ah) M;have dY:fq C.P dw.ts F' w (args.map a.eval) x:=by
   refine vn M.bE f1 dw.ts ah f2 (by simp) λi G dL=>?_;simp only[List.getElem_map];have dA:i<args.length:=by grind
   have E:=sa be i (by grind);have ax:(args.map (a8 C.aN s.ay)).getD i .undef=a8 C.aN s.ay args[i]:=by grind
   rw[show (List.map (a8 C.aN s.ay) (⟨args⟩:Array Operand).toList)=args.map (a8 C.aN s.ay) from rfl,ax]at E;exact o' (j8 M args[i]) E
  refine CA (by grind) c7 (C0.iV F' w _ x bc.db bc.iA dY hm.1) λe w' ⟨v,y,he,aR,gv,W⟩=>⟨v,he,hm.2 y aR _ _ ⟨κ,_,(M.grow W).set bh (Cz ?_)⟩⟩
  obtain⟨aD,dz,dP,ox⟩:=gv;exact⟨aD,dz,dP,ff _ (λr M=>.inr M) (c6.refl _ _) ox⟩
 grind
theorem afO(bh:∀ i,o.dst=some i->i<C.nt){t:Nat}{args:Array Operand}{dp:Array TypeId}(af:o.op=.call { callee:=.value (.tmp t),args:=args,argTypes:=dp }){cd:hV}
  (h:CS C.aN s o t args.toList=some cd):qi C o s cd:=by
 unfold CS at h;split at h
 ·rename_i cb aM b f hu;split at h
  ·rename_i x bV ah;cases h;obtain⟨args⟩:=args;refine⟨λa w Q K M be hm=>?_,λgs oG=>?_,λW=>⟨?_,CZ W λx ah=>by rw[af];simp[Op.operands,Call.operands];simp_all⟩⟩
   ·obtain⟨κ,F,M⟩:=M;obtain⟨F',f1,bc,f2⟩:=bm.lj (qc _ ah) M;have dY:fq C.P aM F' w (args.map a.eval) x:=by
     refine vn M.bE f1 aM ah f2 (by simp) λi G dL=>?_;simp only[List.getElem_map];have dA:i<args.length:=by grind
     have E:=sa be.2 i (by grind);have ax:(args.map (a8 C.aN s.ay)).getD i .undef=a8 C.aN s.ay args[i]:=by grind
     rw[show (List.map (a8 C.aN s.ay) (⟨args⟩:Array Operand).toList)=args.map (a8 C.aN s.ay) from rfl,ax]at E;exact o' (j8 M args[i]) E
    have GH:bC C.P s.aa κ F w (use (a8 C.aN s.ay (.tmp t))).2 (a.eval (.tmp t)):=cP M (.tmp t) hu be.1 |> λh=>by
     have e:use (a8 C.aN s.ay (.tmp t))=(cb,.val (.fn aM b) f):=hu;grind
    have e:use (a8 C.aN s.ay (.tmp t))=(cb,.val (.fn aM b) f):=hu;rw[e]at GH;obtain⟨_,u,xJ,_,tu⟩:=(dV rfl).1 GH;have xJ:a.eval (.tmp t)=u:=(List.cons.inj xJ).1;obtain⟨g,c1,aC,sx,LU⟩:=tu F' w f1 (c6.refl _ _) bc.db bc.iA (args.map a.eval) x dY.1 dY.2 hm.1;have c7:(execOp a.eval o).run C.P w=.ok (.enter g ((args.map a.eval).toArray++c1)) w:=by
     have ae:a.eval (.tmp t)=.func (.func g) #[] c1:=xJ.trans aC;simp only[execOp,af,Sem.run_bind,resolve,ae,Deferred.ofValue,Sem.run_pure,Result.andThen_ok,invoke];grind
    refine CA (by grind) c7 LU λe w' ⟨v,y,aD,he,aR,E,U,ag,W⟩=>⟨v,he,hm.2 y aR _ _ ?_⟩
    have gv:tx C.P b (u7 F' w w') w' v y:=⟨aD,E,U,ag⟩
    unfold q9;by_cases ao:b.pure=true
    ·rw[if_pos ao];have aC:=M.grow W;refine⟨κ,_,aC.set bh (Cz ?_)⟩;exact⟨aD,E,Sd ao ⟨U,ag⟩⟩
    ·rw[if_neg ao];have aC:=bc.grow W;exact⟨κ,_,aC.set bh (Cz gv)⟩
   ·cases oG;exact Tg bh (qc _ ah)
   ·have:=W (.tmp t) (by rw[af];simp[Op.operands,Call.operands]);have e:use (a8 C.aN s.ay (.tmp t))=(cb,.val (.fn aM b) f):=hu;grind
  grind
 grind
theorem afP(aV:dU C.P T)(bh:∀ i,o.dst=some i->i<C.nt){ty:TypeId}{x:Operand}(af:o.op=.range ty x){cd:hV}(h:Gq C.aN T s o ty x=some cd):qi C o s cd:=by
 unfold Gq at h;split at h
 ·rename_i k v d aI aw;split at h;rename_i cb av hu;split at h
  ·rename_i es bV pc;split at h
   ·cases h
   ·rename_i tP;cases h;have tP:d ∉ bV:=by grind
    obtain⟨i,j,G,_,_⟩:=(aV.b7 aI (by simp)).mp;refine⟨λa w Q K M be hm=>?_,λgs oG=>(by grind),λW=>q6.use W (by rw[af];simp[Op.operands]) hu⟩;obtain⟨κ,F,M⟩:=M;obtain⟨F',f1,bc,f2⟩:=bm.lj (mT pc) M;have ae:=cP M x hu be;have nP:=((dV rfl).1 (mm M.bE f1 pc f2 ae)).2;have iK:=hm.2 () rfl;have pe:(s.cB bV).aa d=s.aa d:=by simp only[aA.cB];grind
    have fin:∀ (ct:Obj),(∀ w',w'=w.alloc ct->w4 C.P k v F' w' w.heap.size none es)->(execOp a.eval o).run C.P w=.ok (.value (.pointer (some ⟨w.heap.size,0,none⟩))) (w.alloc ct)->o.wpIn (dT C.r) 0 C.P a w K Q:=by
     intro ct hit c7;have E:=bc.alloc (b:=d) (x:=⟨(s.aa d).gen+1,.ct k v none es⟩) (M.fL (bh d aw)) (by grind) (o:=ct) (k:=⟨w.heap.size,0,0,false⟩) rfl λH κ' _ _ _=>hit _ rfl;refine hv (by grind) c7 (iK _ _ ⟨_,F',bm.set (s:=(s.cB bV).cz d _) E bh ⟨⟨by simp[aA.cz],rfl⟩,λ_ _=>by simp⟩⟩)
    rcases nP with⟨ax,rfl⟩ | ⟨r,ms,clk,ax,m1,m2,m3,m4,m5,m6⟩
    ·have ah:a.eval x=.map none:=(List.cons.inj ax).1;refine fin (.mapIter none 0 #[] 0) (λw' hw=>.inl ⟨by rw[hw];exact p4 _ _,rfl,rfl⟩) ?_;simp[execOp,af,Instr.range,dD G,ah]
    ·have ah:a.eval x=.map (some r):=(List.cons.inj ax).1;refine fin (.mapIter (some r) clk #[] clk) (λw' hw=>.inr ⟨r,ms,clk,#[],m1,?_,by rw[hw];exact p4 _ _,λi G=>(m5 i (by omega) G).2.2.2.2,m6,?_,λc hc=>by cases hc⟩) ?_
     ·rw[hw,o8 _ _ (bc.db r m1)];exact m2
     ·refine⟨List.range ms.size,by grind,List.nodup_range,λi=>by simp,λj aF fW=>?_⟩;have xk:j<ms.size:=by omega
      obtain⟨aQ,aS,bP,gy,_⟩:=m5 j fW xk;refine⟨by grind,?_⟩;simp only[List.getElem_range];have he:c6 F' w w':=by rw[hw];exact c6.alloc bc.db _
      exact y4.mono ⟨aQ,aS,bP,gy⟩ (λ_ h=>h) he
     ·have eV:(getObj r).run C.P w=.ok (.map ms clk) w:=by simp[getObj,Sem.run,m2]
      simp[execOp,af,Instr.range,dD G,ah,eV]
  grind
 grind
theorem afQ(bh:∀ i,o.dst=some i->i<C.nt){x:Operand}(af:o.op=.entry x){cd:hV}(h:Gt C.aN s o x=some cd):qi C o s cd:=by
 unfold Gt at h;split at h
 ·rename_i b g ah;split at h
  ·rename_i aC;split at h
   ·rename_i k v c cn W;cases h;refine⟨λa w Q K M _ hm=>?_,λgs oG=>(by grind),λ_=>trivial⟩;obtain⟨κ,F,M⟩:=M;have ae:=j8 M x;rw[ah]at ae;have ae:=ae.2 aC.symm (by rw[W];rfl);have aT:=M.bE b;unfold cG at aT;rw[W]at aT;have fl:=A.kM.1 hm;have iK:=A.eb.1 fl.2;obtain⟨c',jJ⟩:=Option.isSome_iff_exists.1 fl.1;subst jJ;rcases aT with⟨_,_,e⟩ | ⟨lM,es,clk,seen,E,U,ag,a6,bM,_,fT⟩
    ·cases e
    ·obtain⟨i,G,aE,he⟩:=fT c' rfl;have vo:es.find? (λe=>e.born == es[i].born)=some es[i]:=by
      rw[<-Array.find?_toList];have jN:es[i]∈es.toList:=by simp
      cases aq:es.toList.find? (λe=>e.born == es[i].born) with
      | none=>grind
      | some e=>
       have jh:=List.find?_some aq;have p0:=List.mem_of_find?_eq_some aq;obtain⟨j,aF,rfl⟩:=List.mem_iff_getElem.1 p0;grind
     have C2:(getObj (κ b).aa).run C.P w=.ok (.mapIter (some lM) clk seen clk) w:=by simp[getObj,Sem.run,ag]
     have xn:(getObj lM).run C.P w=.ok (.map es clk) w:=by simp[getObj,Sem.run,U]
     have c7:(execOp a.eval o).run C.P w=.ok (.value (.tuple #[es[i].key,es[i].val])) w:=by
      simp[execOp,af,Instr.entry,ae,C2,xn,aE,vo]
     refine hv (by grind) c7 (iK _ _ ⟨κ,F,M.set bh ⟨[es[i].key,es[i].val],rfl,rfl,λn aB=>?_⟩⟩);match n,aB with
     | 0,_=>exact⟨he.1,he.2.1⟩
     | 1,_=>exact⟨he.2.2.1,he.2.2.2⟩
   grind
  grind
 grind
theorem afR{es:Array MapEntry}{seen:Array Nat}{clk:Nat}(a6:∀ i (h:i<es.size),es[i].born<clk) :
  (es.filter λe=>!seen.contains e.born).filter (λe=>decide (e.born<clk))=(es.filter λe=>!seen.contains e.born)/\(es.filter λe=>!seen.contains e.born).filter (λe=>decide (e.born>=clk))=#[]:=by
 have fU:∀ e∈es.filter λe=>!seen.contains e.born,e.born<clk:=by
  intro e he;have:=(Array.mem_filter.1 he).1;obtain⟨i,G,rfl⟩:=Array.mem_iff_getElem.1 this;grind
 constructor
 ·exact Array.filter_eq_self.2 λe he=>by grind
 ·exact Array.filter_eq_empty_iff.2 λe he=>by grind
theorem afS(P:Program)(w:World)(n:Nat):∃ j w',(choose (.mapNext n)).run P w=.ok j w'/\(0<n->j<n)/\(w'=w\/w'=w.drew):=by
 rw[run_choose];by_cases h:n<=1
 ·have:(Question.mapNext n).forced=true:=by simp[Question.forced,h]
  rw[this];grind
 ·have:(Question.mapNext n).forced=false:=by simp[Question.forced];omega
  rw[this];exact⟨_,_,rfl,λaB=>Nat.mod_lt _ aB,.inr rfl⟩
theorem afT(bh:∀ i,o.dst=some i->i<C.nt){x:Operand}{str:Bool}(af:o.op=.next x str){cd:hV}(h:Gs C.aN s o x str=some cd):qi C o s cd:=by
  unfold Gs at h;split at h
  · rename_i b g ah
    split at h
    · rename_i aC
      split at h
      · rename_i k v c cn W
        cases h
        refine⟨λa w Q K M _ hm=>?_,λgs oG=>(by grind),λ_=>trivial⟩
        obtain⟨κ,F,M⟩:=M
        have ae:=j8 M x
        rw[ah]at ae
        have ae:=ae.2 aC.symm (by rw[W];rfl)
        have aT:=M.bE b
        unfold cG at aT
        rw[W]at aT
        have aw:∀ c,o.op≠.defer c:=by grind
        have gm:∀ w',(w'=w\/w'=w.drew)->cn=[]->(execOp a.eval o).run C.P w=.ok (.value (.tuple #[.bool false])) w'->o.wpIn (dT C.r) 0 C.P a w K Q:=by
          intro w' C3 sy c7;have cO:bm C s a w' κ F:=by
            rcases C3 with rfl | rfl
            · exact M
            · exact M.drew
          have Sa:s.cz b ⟨g,.ct k v c cn⟩=s:=by
            unfold aA.cz;congr 1;funext i;by_cases G:i=b
            · rw[if_pos G,G,<-W,<-aC]
            grind
          refine hv aw c7 (hm.2 none sy _ _ ⟨κ,F,bm.set (s:=s.cz b ⟨g,.ct k v c cn⟩) (by grind) bh ⟨[.bool false],rfl,rfl,λn aB=>?_⟩⟩);have:n=0:=by simp only[S0]at aB;omega
          subst this;exact fg.2 rfl
        rcases aT with⟨E,U,_⟩ | ⟨lM,es,clk,seen,E,U,ag,a6,bM,⟨ids,i1,i2,i3,i4⟩,fT⟩
        · refine gm w (.inl rfl) U ?_
          have C2:(getObj (κ b).aa).run C.P w=.ok (.mapIter none 0 #[] 0) w:=by simp[getObj,Sem.run,E]
          simp[execOp,af,Instr.next,ae,C2]
        · have C2:(getObj (κ b).aa).run C.P w=.ok (.mapIter (some lM) clk seen clk) w:=by simp[getObj,Sem.run,ag]
          have xn:(getObj lM).run C.P w=.ok (.map es clk) w:=by simp[getObj,Sem.run,U]
          obtain⟨f1,f2⟩:=afR (seen:=seen) a6
          have fU:(!seen.isEmpty&&!es.isEmpty&&es.all (λe=>decide (e.born>=clk)))=false:=by
            by_cases he:es.size=0
            · grind
            · have:es.all (λe=>decide (e.born>=clk))=false:=by
                rw[Array.all_eq_false];exact⟨0,by omega,by grind⟩
              grind
          generalize afU:(es.filter λe=>!seen.contains e.born)=left at f1 f2
          have afV:((if left.isEmpty=true then #[none] else #[])++Array.map some (left++(#[]:Array MapEntry)))=(if left.isEmpty=true then #[none] else Array.map some left):=by
            grind
          obtain⟨j,w',bF,c2,c3⟩:=afS C.P w (if left.isEmpty=true then #[none] else Array.map some left).size
          have cW:w'.heap=w.heap:=by rcases c3 with rfl | rfl<;>rfl
          have zY : ∀ r c8, (match (if left.isEmpty = true then #[none] else Array.map some left)[j]? with
                | some (some e)=>(do setObj (κ b).aa (.mapIter (some lM) clk (seen.push e.born) clk);pure (.tuple #[.bool true,e.key,e.val]):Sem Value)
                | some none=>pure (.tuple #[.bool false])
                | none => stuck "Next: no such candidate").run C.P w' = .ok r c8 -> (execOp a.eval o).run C.P w = .ok (.value r) c8 := by
            intro r c8 cO;simp only[execOp,af,Instr.next,ae,Sem.run_bind,C2,Result.andThen_ok,xn,fU,Bool.false_eq_true,if_false,afU,f1,f2,afV,bF];exact (congrArg (λ(z:Result Value)=>z.andThen λv w'=>Sem.run C.P (Pure.pure (Next.value v)) w') cO).trans rfl
          by_cases hle:left.isEmpty=true
          · have Ky:left=#[]:=by grind
            have sy:cn=[]:=by
              have:ids=[]:=List.eq_nil_iff_forall_not_mem.2 λi G=>by
                obtain⟨LV,dA⟩:=(i3 i).1 G;have:es[i]∈left:=by
                  grind
                grind
              grind
            rw[hle]at zY c2
            simp only[if_true]at zY c2
            have aF:j=0:=by grind
            subst aF
            exact gm w' c3 sy (zY _ _ rfl)
          · have hle:left.isEmpty=false:=by grind
            rw[hle]at zY c2
            simp only[Bool.false_eq_true,if_false]at zY c2
            have ax0:0<left.size:=by
              grind
            have aF:j<left.size:=by grind
            have jN:left[j]∈(es.filter λe=>!seen.contains e.born):=by grind
            obtain⟨tR,Th⟩:=Array.mem_filter.1 jN
            obtain⟨i0,oB,afW⟩:=Array.mem_iff_getElem.1 tR
            have afX:i0∈ids:=(i3 i0).2 ⟨oB,by grind⟩
            obtain⟨q,bt,LW⟩:=List.mem_iff_getElem.1 afX
            have LX:q<cn.length:=by omega
            have mV:(setObj (κ b).aa (.mapIter (some lM) clk (seen.push left[j].born) clk)).run C.P w'=.ok () { w' with heap:=w'.heap.setIfInBounds (κ b).aa (.mapIter (some lM) clk (seen.push left[j].born) clk) }:=by
              simp[setObj,Sem.run,cW,ag]
            have c7:=zY (.tuple #[.bool true,left[j].key,left[j].val]) { w' with heap:=w'.heap.setIfInBounds (κ b).aa (.mapIter (some lM) clk (seen.push left[j].born) clk) } (by
              rw[show (Array.map some left)[j]?=some (some left[j]) by simp];simp only[Sem.run_bind,mV,Result.andThen_ok,Sem.run_pure])
            have i':dd w w':=by rcases c3 with rfl | rfl<;>exact⟨rfl,rfl,rfl⟩
            have cc:(κ b).aa<w.heap.size:=(Array.getElem?_eq_some_iff.1 ag).1
            have eO:lM≠(κ b).aa:=λe=>(M.al b (by grind)).2.1 (e ▸ E)
            have gw:fr s.aa κ (λi=>if i=b then (⟨g,.ct k v cn[q]? (cn.eraseIdx q)⟩:bK) else s.aa i) κ:=
              qT aC.symm (λh=>by cases h) (λh=>by cases h) (λh=>by cases h) (λ_=>by rw[W];rfl)
            have gX:=M.o9 (b:=b) (x:=⟨g,.ct k v cn[q]? (cn.eraseIdx q)⟩) (w':={ w' with heap:=w'.heap.setIfInBounds (κ b).aa (.mapIter (some lM) clk (seen.push left[j].born) clk) }) (by rw[W];rfl) rfl gw (λh=>by cases h) (λh=>by cases h)
              (λr KO=>by grind) (by grind) ⟨i'.os,i'.tape,i'.output⟩ λH _ _ he=>by
                refine .inr ⟨lM,es,clk,seen.push left[j].born,E,?_,by grind,a6,bM,⟨ids.eraseIdx q,?_,?_,λi=>?_,λn aB CE=>?_⟩,λc' jJ=>?_⟩
                · grind
                · grind
                · grind
                · rw[List.mem_eraseIdx_iff_getElem]
                  constructor
                  · rintro⟨n,aB,GI,rfl⟩
                    obtain⟨ub,ri⟩:=(i3 ids[n]).1 (by simp)
                    refine⟨ub,?_⟩
                    simp only[Array.contains_push,Bool.or_eq_false_iff]
                    refine⟨ri,?_⟩
                    rw[<-afW]
                    simp only[beq_eq_false_iff_ne,ne_eq]
                    intro e
                    have:ids[n]=i0:=bM _ _ ub oB (by omega)
                    exact GI ((List.getElem?_inj aB i2).1 (by grind))
                  · rintro⟨ub,ri⟩
                    simp only[Array.contains_push,Bool.or_eq_false_iff]at ri
                    obtain⟨n,aB,rfl⟩:=List.mem_iff_getElem.1 ((i3 i).2 ⟨ub,ri.1⟩)
                    grind
                · have vw:(ids.eraseIdx q)[n]=if h:n<q then ids[n]'(by omega) else ids[n+1]'(by grind):=by
                    rw[List.getElem_eraseIdx]
                  have Ti:(cn.eraseIdx q)[n]=if h:n<q then cn[n]'(by omega) else cn[n+1]'(by grind):=by
                    rw[List.getElem_eraseIdx]
                  have hlen:n+1<ids.length:=by grind
                  by_cases GI:n<q
                  · obtain⟨ub,ri⟩:=i4 n (by omega) (by omega)
                    simp only[vw,Ti,GI,dif_pos]
                    exact⟨ub,ri.mono (λ_ h=>h) he⟩
                  · obtain⟨ub,ri⟩:=i4 (n+1) hlen (by omega)
                    simp only[vw,Ti,GI,dif_neg,not_false_eq_true]
                    exact⟨ub,ri.mono (λ_ h=>h) he⟩
                · rw[List.getElem?_eq_getElem LX]at jJ
                  cases jJ
                  obtain⟨ub,ri⟩:=i4 q bt LX
                  refine⟨i0,oB,by grind,?_⟩
                  have ax:es[ids[q]]=es[i0]:=by congr 1
                  rw[ax]at ri
                  exact ri.mono (λ_ h=>h) he
            refine hv aw c7 (hm.2 (some q) LX _ _ ⟨κ,F,bm.set (s:=s.cz b _) gX bh ⟨[.bool true,left[j].key,left[j].val],rfl,rfl,λn aB=>?_⟩⟩)
            match n,aB with
            | 0,_=>exact fg.2 rfl
            | 1,_=>trivial
            | 2,_=>trivial
      grind
    grind
  grind
end
end Go.Fer
namespace Go.Fer
open Go.RowKit
def C4:z9'->List Value->List Value->Prop
 | [],[],aD=>aD=[]
 | none::g,u::us,aD=>∃ r5,aD=u::r5/\C4 g us r5
 | some n::g,u::us,aD=>∃ cs r5,u=.agg cs/\cs.size=n/\(∀ c∈cs.toList,c.oneCell'=true)/\aD=cs.toList++r5/\C4 g us r5
 | _,_,_=>False
def GJ(g:z9')(v:Value)(aD:List Value):Prop:=∃ us:List Value,us.length=g.length/\v=(if us.length=1 then us.getD 0 undef else .tuple us.toArray)/\C4 g us aD
structure cS(P:Program)(aP:dG)(k:FuncId)(c:cL):Prop where
 enter:∀ args w,(callFunc k args).run P w=.ok (.enter k args) w
 iV:∀ (C:b') (a:Act) (w:World) (κ:Nat->bD) (F:Nat->Prop) (D:c.cq.ai),C.P=P->C.w0=w->C.r=none->C.dfr=[]->C.nt=c.ke->C.aN=aP->bm C (c.cq.st D) a w κ F->(c.sh D).cm->
  Calls P k a.tmps w λe w'=>∃ v bn aD κ' F',e=.returned v/\(c.sh D).bL bn/\GJ c.kC v aD/\bm { C with nt:=aD.length } (c.bL.st bn) { tmps:=aD.toArray,defers:=[] } w' κ' F'
section
variable {P:Program} {H H':Nat->bK} {κ κ':Nat->bD} {F:Nat->Prop} {w:World} {g:Nat->Nat×Nat}
def pq(H H':Nat->bK)(κ κ':Nat->bD)(g:Nat->Nat×Nat):Prop:=∀ b,(H b).gen=0/\p3 ⟨(g b).2,(H b).body⟩ (H' (g b).1) (κ b) (κ' (g b).1)
theorem pq.aX(h:pq H H' κ κ' g){b off:Nat}{v:Value}(ae:bC P H κ F w (.aX b 0 off) v):bC P H' κ' F w (.aX (g b).1 (g b).2 off) v:=by
 obtain⟨aY,aQ,aS⟩:=h b;refine⟨⟨aQ,ae.1.2⟩,λaC hc=>?_⟩;obtain⟨bF,c2⟩:=(aS aC).1 hc;rw[c2];exact ae.2 aY.symm bF
theorem pq.av(h:pq H H' κ κ' g)(t:bX){R:Type}(z:t.cons R){v:Value}(ae:bC P H κ F w (t.av c_ z).1 v):bC P H' κ' F w (t.av g z).1 v:=by
 cases t with
 | undef=>trivial
 | val t=>exact ae
 | dW t=>exact ae
 | aX b off=>exact h.aX ae
 | al b=>
  obtain⟨aY,aQ,aS⟩:=h b;refine⟨⟨aQ,ae.1.2⟩,λaC hc=>?_⟩;obtain⟨bF,c2,c3,c4⟩:=(aS aC).2.1 hc;rw[c2,c3];exact ae.2 aY.symm bF
 | sub b=>
  obtain⟨aY,aQ,aS⟩:=h b;refine⟨⟨aQ,ae.1.2⟩,λaC hc=>?_⟩;obtain⟨bF,c2,c3,c4⟩:=(aS aC).2.1 hc;rw[c2,c3,c4];exact ae.2 aY.symm bF
 | fJ b=>
  obtain⟨aY,aQ,aS⟩:=h b;refine⟨⟨aQ,ae.1.2⟩,λaC hc=>?_⟩;obtain⟨bF,c2⟩:=(aS aC).2.2.1 hc;rw[c2];exact ae.2 aY.symm bF
 | j3 b=>
  obtain⟨aY,aQ,aS⟩:=h b;refine⟨⟨aQ,ae.1.2⟩,λaC hc=>?_⟩;obtain⟨bF,c2⟩:=(aS aC).2.2.2 hc;rw[c2];exact ae.2 aY.symm bF
 | cv=>exact ae
 | iz k fZ=>
  obtain⟨aD,E,U,ag⟩:=ae;refine⟨aD,E,U,λi G=>?_⟩;have:=ag i G;have ax:vr c_ fZ i=.aX fZ[i].1 0 fZ[i].2:=by simp[vr,hh,List.getD_eq_getElem?_getD,G,c_]
  have aO:vr g fZ i=.aX (g fZ[i].1).1 (g fZ[i].1).2 fZ[i].2:=by simp[vr,hh,List.getD_eq_getElem?_getD,G]
  rw[ax]at this;rw[aO];exact h.aX this
 | hG bs=>
  obtain⟨aD,E,U,ag⟩:=ae;refine⟨aD,E,U,λi G=>?_⟩;obtain⟨this,jJ⟩:=ag i G;refine⟨?_,jJ⟩;have ax:vs c_ bs i=.al bs[i] 0:=by simp[vs,hh,List.getD_eq_getElem?_getD,G,c_]
  have aO:vs g bs i=.al (g bs[i]).1 (g bs[i]).2:=by simp[vs,hh,List.getD_eq_getElem?_getD,G]
  rw[ax]at this;rw[aO];obtain⟨aY,aQ,aS⟩:=h bs[i];refine⟨⟨aQ,this.1.2⟩,λaC hc=>?_⟩;obtain⟨bF,c2,c3,c4⟩:=(aS aC).2.1 hc;rw[c2,c3];exact this.2 aY.symm bF
 | iW b=>
  obtain⟨aY,aQ,aS⟩:=h b;refine⟨⟨aQ,ae.1.2⟩,λaC hc=>?_⟩;obtain⟨bF,c2,c3,c4⟩:=(aS aC).2.1 hc;rw[c2,c3,c4];exact ae.2 aY.symm bF
 | aW aM=>trivial
 | hf=>exact ae
theorem zZ(t:bX){R:Type}(z:t.cons R):(t.av g z).2=(t.av c_ z).2:=by cases t<;>rfl
theorem Tj:∀ (ts:List bX) {R:Type} (z:qf ts R),(pj g ts z).2=(pj c_ ts z).2
 | [],_,_=>rfl
 | t::ts,_,z=>by simp only[pj];rw[zZ (g:=g) t z];exact Tj ts _
theorem Tk(t:b2){R:Type}(z:t.cons R):(t.body g z).2=(t.body c_ z).2:=by
 cases t with
 | cells t l=>exact Tj l z
 | gp e t=>exact zZ t z.2
 | _=>rfl
theorem LY:∀ (ts:List (Nat×bX)) {R:Type} (z:oC ts R),(eD g ts z).2=(eD c_ ts z).2
 | [],_,_=>rfl
 | p::ts,_,z=>by simp only[eD];rw[zZ (g:=g) p.2 z];exact LY ts _
theorem pq.avs(h:pq H H' κ κ' g):∀ (ts:List bX) {R:Type} (z:qf ts R) (i:Nat) {v:Value},bC P H κ F w ((pj c_ ts z).1.getD i .undef) v->bC P H' κ' F w ((pj g ts z).1.getD i .undef) v
 | [],_,_,i,v,_=>by simp[pj,bC]
 | t::ts,_,z,i,v,ae=>by
  simp only[pj]at ae ⊢;cases i with
  | zero=>exact h.av t z ae
  | succ i=>
   simp only[List.getD_cons_succ]at ae ⊢;rw[zZ (g:=g) t z];exact h.avs ts _ i ae
theorem pq.bU(h:pq H H' κ κ' g):∀ (ts:List (Nat×bX)) {R:Type} (z:oC ts R) (i:Nat) {v:Value},bC P H κ F w (fs (eD c_ ts z).1 i) v->bC P H' κ' F w (fs (eD g ts z).1 i) v
 | [],_,_,i,v,_=>by simp[eD,fs,bC]
 | p::ts,_,z,i,v,ae=>by
  simp only[eD,fs]at ae ⊢;by_cases e:i=p.1
  ·rw[if_pos e]at ae ⊢;exact h.av p.2 z ae
  ·rw[if_neg e]at ae ⊢;rw[zZ (g:=g) p.2 z];exact h.bU ts _ i ae
theorem Tl:∀ (ts:List (Nat×bX)) {R:Type} (z:oC ts R) (i:Nat) {l aM L n st},fs (eD g ts z).1 i=.aW l aM L n st->fs (eD c_ ts z).1 i=.aW l aM L n st
 | [],_,_,i,_,_,_,_,_,h=>by simp[eD,fs]at h
 | p::ts,_,z,i,l,aM,L,n,st,h=>by
  simp only[eD,fs]at h ⊢;by_cases e:i=p.1
  ·rw[if_pos e]at h ⊢;obtain⟨jI,t⟩:=p;cases t<;>first | exact h | cases h
  ·rw[if_neg e]at h ⊢;rw[zZ (g:=g) p.2 z]at h;exact Tl ts _ i h
def xK(x y:bR):Prop:=x.fK=y.fK/\x.fh=y.fh/\x.len=y.len/\x.e3=y.e3/\x.gW=y.gW/\x.mO=y.mO/\∀ k,x.b1 k=y.b1 k
theorem xK.refl(x:bR):xK x x:=⟨rfl,rfl,rfl,rfl,rfl,rfl,λ_=>rfl⟩
theorem afY(t:b2){R:Type}(z:t.cons R):xK (t.body g z).1 (t.body c_ z).1:=by
 cases t with
 | cells t l=>exact⟨rfl,rfl,rfl,rfl,rfl,rfl,λ_=>rfl⟩
 | gp e t=>exact⟨rfl,rfl,rfl,rfl,rfl,rfl,λ_=>rfl⟩
 | _=>exact xK.refl _
theorem afZ:∀ (t:ad) (x:t.ai) (av:aH),av∈nK t x->∀ {v:Value},bC P H κ F w av v->bC P H' κ' F w av v:=by
  intro t;induction t with
  | cU=>intro x av h;cases h
  | st t aK=>intro x av h;exact aK x av h
  | az a b fy eK=>
   intro x av h;rcases List.mem_append.1 h with h | h
   ·exact fy _ av h
   ·exact eK _ av h
  | array n e aK=>
   intro x av h;simp only[nK,List.mem_flatMap]at h;grind
  | _=>
   intro x av h v ae;simp only[nK,List.mem_singleton]at h;subst h;exact ae
theorem pq.body(h:pq H H' κ κ' g)(t:b2){R:Type}(z:t.cons R){k:bD}(W:jC P H κ F w k (t.body c_ z).1):jC P H' κ' F w k (t.body g z).1:=by
 cases t with
 | cells t l=>
  obtain⟨cs,T,E,U,ag⟩:=W;exact⟨cs,T,E,U,λi G=>⟨h.avs l z i (ag i G).1,(ag i G).2⟩⟩
 | f_ t=>
  obtain⟨cs,T,E,U,ag⟩:=W;refine⟨cs,T,E,U,λi G=>⟨?_,(ag i G).2⟩⟩;have:=(ag i G).1;unfold hh at this ⊢;rw[List.getD_eq_getElem?_getD]at this ⊢;cases aj:(nK t z.1)[i]? with
  | none=>trivial
  | some av=>
   rw[aj]at this;simp only[Option.getD_some]at this ⊢;have jN:=List.mem_of_getElem? aj;exact afZ t z.1 av jN this
 | bj e=>exact W
 | hD e=>exact W
 | mp k v=>exact W
 | ji k v=>exact W
 | gK t=>exact W
 | ct k v=>exact W
 | gp e t=>
  obtain⟨aY,cs,T,E,U,ag,a6,bM,dn,fT,jh⟩:=W;exact⟨aY,cs,T,E,U,ag,a6,bM,dn,h.av t z.2 fT,jh⟩
theorem Tm{l:List (Nat×b2)}{x y:ph l}(h:x=y)(g:Nat->Nat×Nat)(b:Nat):eQ (hj g l x) b=eQ (hj g l y) b:=by rw[h]
theorem Tn:∀ (l:List (Nat×b2)) (x:ph l) (b:Nat),xK (eQ (hj g l x) b).body (eQ (hj c_ l x) b).body
 | [],_,_=>xK.refl _
 | p::l,x,b=>by
  simp only[hj,eQ];split
  ·exact afY p.2 x
  ·rw[Tk (g:=g) p.2 x];exact Tn l _ b
theorem pq.bE(h:pq H H' κ κ' g):∀ (l:List (Nat×b2)) (x:ph l) (b:Nat) {k:bD},jC P H κ F w k (eQ (hj c_ l x) b).body->jC P H' κ' F w k (eQ (hj g l x) b).body
 | [],_,_,k,_=>trivial
 | p::l,x,b,k,W=>by
  simp only[hj,eQ]at W ⊢;split
  ·rename_i e;rw[if_pos e]at W;exact h.body p.2 x W
  ·rename_i e;rw[if_neg e]at W;rw[Tk (g:=g) p.2 x];exact h.bE l _ b W
theorem LZ:∀ (l:List (Nat×bR)) (b:Nat),(eQ l b).gen=0
 | [],_=>rfl
 | p::l,b=>by
  simp only[eQ];split
  ·rfl
  ·exact LZ l b
end
end Go.Fer
namespace Go.Fer
open Go.RowKit
theorem GK{ak:Type}{k:ak->Nat}:∀ {l:List ak},(l.map k).Nodup->∀ {p:ak},p∈l->l.find? (λq=>k q == k p)=some p
 | [],_,_,h=>by cases h
 | a::l,aB,p,h=>by
  simp only[List.map_cons,List.nodup_cons]at aB;by_cases e:k a=k p
  ·grind
  ·rw[List.find?_cons_of_neg (by grind)];rcases List.mem_cons.1 h with rfl | h
   ·omega
   ·exact GK aB.2 h
theorem C5{ak:Type}{k:ak->Nat}{l:List ak}(aB:(l.map k).Nodup){p q:ak}(ao:p∈l)(bt:q∈l)(e:k p=k q):p=q:=by
 have E:=GK aB ao;rw[e,GK aB bt]at E;grind
theorem To:∀ {l:z6'},(l.map (·.1)).Nodup->∀ {p},p∈l->hW l p.1=p.2
 | [],_,_,h=>by cases h
 | a::l,aB,p,h=>by
  simp only[List.map_cons,List.nodup_cons]at aB;simp only[hW];by_cases e:p.1=a.1
  ·grind
  ·rw[if_neg e];rcases List.mem_cons.1 h with rfl | h
   ·omega
   ·exact To aB.2 h
theorem Tp:∀ {l:z6'} {b:Nat},b ∉ l.map (·.1)->hW l b=(nc,0)
 | [],_,_=>rfl
 | a::l,b,h=>by
  simp only[List.map_cons,List.mem_cons,not_or]at h;simp only[hW];rw[if_neg h.1];exact Tp h.2
theorem Tq(s:aA)(d:Nat)(f:Nat->Nat)(ins:List Nat):∀ (l:List (Nat×b2)) (j:Nat),(sq s d f ins l j).map (·.1)=l.map (·.1)
 | [],_=>rfl
 | p::l,j=>by
  simp only[sq,List.map_cons,Tq s d f ins l (j+1)];grind
theorem Tr(s:aA)(d:Nat)(f:Nat->Nat)(ins:List Nat):∀ (l:List (Nat×b2)) (j:Nat) {p:Nat×(Nat×Nat)},p∈sq s d f ins l j->
  (p.1∈ins/\p.2.1=f p.1/\∃ t,(p.1,t)∈l/\((p.2.2=(s.aa (f p.1)).gen/\((∀ (g:Nat->Nat×Nat) (R:Type) (z:t.cons R),(t.body g z).1.fh=false)\/(w5<=p.1/\∃ e,t=.bj e)))\/p.2.2=(s.aa (f p.1)).gen+1))\/
  (p.1 ∉ ins/\p.2.2=(s.aa p.2.1).gen+1/\50000+10*d+j<=p.2.1/\p.2.1<50000+10*d+j+l.length)
 | [],_,p,h=>by cases h
 | q::l,j,p,h=>by
  simp only[sq,List.mem_cons]at h;rcases h with h | h
  ·by_cases bt:ins.contains q.1=true
   ·rw[if_pos bt]at h;subst h;refine .inl ⟨by grind,rfl,q.2,by simp,?_⟩;obtain⟨dz,t⟩:=q;cases t with
    | bj e=>
     grind
    | _=>first | exact .inr rfl | exact .inl ⟨rfl,.inl λ_ _ _=>rfl⟩
   grind
  ·rcases Tr s d f ins l (j+1) h with⟨E,U,t,ag,a6⟩ | ⟨E,U,ag,a6⟩
   ·exact .inl ⟨E,U,t,List.mem_cons_of_mem _ ag,a6⟩
   ·exact .inr ⟨E,U,by omega,by simp only[List.length_cons];omega⟩
theorem GL(g:Nat->Nat×Nat):∀ (l:List (Nat×b2)) (x:ph l) (b:Nat),(eQ (hj g l x) b=⟨0,.fz⟩/\b ∉ l.map (·.1))\/∃ q∈l,q.1=b/\∃ (R:Type) (z:q.2.cons R),eQ (hj g l x) b=⟨0,(q.2.body g z).1⟩
 | [],_,_=>.inl ⟨rfl,by simp⟩
 | p::l,x,b=>by
  simp only[hj,eQ];by_cases e:b=p.1
  ·grind
  ·rw[if_neg e];rcases GL g l (p.2.body g x).2 b with⟨E,U⟩ | ⟨q,E,U⟩
   ·exact .inl ⟨E,by rw[List.map_cons,List.mem_cons,not_or];exact⟨e,U⟩⟩
   ·exact .inr ⟨q,List.mem_cons_of_mem _ E,U⟩
theorem af0{t u:b2}(h:t.Ga u=true){g g':Nat->Nat×Nat}{R L0:Type}(z:t.cons R)(mq:u.cons L0) :
  ((t.body g z).1.fK=true->(u.body g' mq).1.fK=true/\∀ k,(u.body g' mq).1.b1 k=true)/\((t.body g z).1.gW=true->(u.body g' mq).1.gW=true/\∀ k,(u.body g' mq).1.b1 k=true)/\(t.body g z).1.mO=false:=by
 cases t<;>cases u<;>first
  | exact Bool.noConfusion h
  | exact⟨λ_=>⟨rfl,λ_=>rfl⟩,λh=>Bool.noConfusion h,rfl⟩
  | exact⟨λh=>Bool.noConfusion h,λ_=>⟨rfl,λ_=>rfl⟩,rfl⟩
  | exact⟨λh=>Bool.noConfusion h,λh=>Bool.noConfusion h,rfl⟩
theorem xL:∀ (ts:List (Nat×bX)) {R:Type} (g:Nat->Nat×Nat) (z:oC ts R) (i:Nat),ts.any (λp=>p.1 == i)=false->fs (eD g ts z).1 i=.undef
 | [],_,_,_,_,_=>rfl
 | p::ts,_,g,z,i,h=>by
  simp only[List.any_cons,Bool.or_eq_false_iff,beq_eq_false_iff_ne]at h;simp only[eD,fs];rw[if_neg (Ne.symm h.1)];exact xL ts g _ i h.2
theorem L1{P:Program}{H:Nat->bK}{κ:Nat->bD}{F:Nat->Prop}{w:World}:∀ (g:z9') {us aD:List Value},C4 g us aD->∀ (c:Nat->aH) (i:Nat),(∀ j,j<aD.length->bC P H κ F w (c (i+j)) (aD.getD j undef))->
  (pk g c i).length=g.length/\us.length=g.length/\∀ j,j<g.length->bC P H κ F w ((pk g c i).getD j .undef) (us.getD j undef)
 | [],[],aD,_,_,_,_=>⟨rfl,rfl,λj aF=>by cases aF⟩
 | [],_::_,_,h,_,_,_=>h.elim
 | none::g,[],_,h,_,_,_=>h.elim
 | some n::g,[],_,h,_,_,_=>h.elim
 | none::g,u::us,aD,h,c,i,ae=>by
  obtain⟨r5,rfl,h⟩:=h;obtain⟨E,U,ag⟩:=L1 g h c (i+1) λj aF=>by
   have:=ae (j+1) (by grind);rw[show i+(j+1)=i+1+j by omega]at this;simpa using this
  refine⟨by simp[pk,E],by grind,λj aF=>?_⟩;cases j with
  | zero=>simpa [pk]using ae 0 (by simp)
  | succ j=>simpa [pk]using ag j (by grind)
 | some n::g,u::us,aD,h,c,i,ae=>by
  obtain⟨cs,r5,rfl,aB,nQ,rfl,h⟩:=h;obtain⟨E,U,ag⟩:=L1 g h c (i+n) λj aF=>by
   have:=ae (n+j) (by grind);rw[show i+(n+j)=i+n+j by omega]at this;have e:(cs.toList++r5).getD (n+j) undef=r5.getD j undef:=by
    grind
   rw[e]at this;omega
  refine⟨by simp[pk,E],by grind,λj aF=>?_⟩;cases j with
  | zero=>
   simp only[pk,List.getD_cons_zero];refine⟨cs.toList,by simp,by omega,λj aF=>?_⟩;grind
  | succ j=>simpa [pk]using ag j (by grind)
theorem af1{P:Program}{H:Nat->bK}{κ:Nat->bD}{F:Nat->Prop}{w:World}{g:z9'}{v:Value}{aD:List Value}(h:GJ g v aD){c:Nat->aH}(ae:∀ j,bC P H κ F w (c j) (aD.getD j undef)) :
  bC P H κ F w (Lw (pk g c 0)) v:=by
 obtain⟨us,E,U,ag⟩:=h;obtain⟨aQ,_,bP⟩:=L1 g ag c 0 (λj _=>by simpa using ae j);subst U;generalize pk g c 0=l at aQ bP;unfold Lw;split
 ·grind
 ·rename_i aj;have eO:us.length≠1:=λe=>by
   have:l.length=1:=by omega
   match l,this with
   | [x],_=>grind
  rw[if_neg eO];refine⟨us,rfl,by omega,λi G=>?_⟩;unfold hh;grind
section
variable {C:b'} {s:aA} {a:Act} {w:World} {κ:Nat->bD} {F:Nat->Prop}
theorem bm.args(M:bm C s a w κ F){avs:List aH}{us:List Value}(aB:us.length<=eR)(aj:avs.length=us.length)(ae:∀ i,i<us.length->bC C.P s.aa κ F w (avs.getD i .undef) (us.getD i undef)) :
    bm { C with nt:=us.length,dfr:=[],r:=none } (so s avs) { tmps:=us.toArray,defers:=[] } w κ F:=
  { M with
    dH:=by simp,dfr:=rfl,gq:=aB
    bU:=λi=>by
      show bC C.P s.aa κ F w (if i=b6 then s.ay b6 else if i<avs.length then avs.getD i .undef else .undef) (us.toArray.getD i undef);split
      · rename_i e
        subst e
        have E:=M.bU b6
        have U:a.tmps.getD b6 undef=undef:=by
          have:=M.dH;have:=M.gq;rw[Array.getD_eq_getD_getElem?,Array.getElem?_eq_none (by unfold b6 eR at *;omega)];rfl
        have ag:us.toArray.getD b6 undef=undef:=by
          rw[Array.getD_eq_getD_getElem?,Array.getElem?_eq_none (by simp only[List.size_toArray];unfold b6 eR at *;omega)];rfl
        grind
      · split
        · simp_all
        · trivial
    bE:=M.bE
    eL:=λl aM L n st e=>M.eL l aM L n st (by simpa [so]using e) }
def rj(C:b')(w:World)(F':Nat->Prop)(n:Nat)(al Y:Nat->Prop)(ib:(Nat->Option Nat)×(Nat->Option (bD×Nat))):b':=
 { C with w0:=w,F0:=F',K0:=λr=>r<w.heap.size/\¬al r/\¬Y r,nt:=n,dfr:=[],r:=none,ib:=ib.1,J3:=ib.2 }
structure C6(C:b')(s:aA)(w:World)(κ:Nat->bD)(F:Nat->Prop)(sl:aH)(Y:Nat->Prop):Prop where
 eL:∀ l aM L n st,sl=.aW l aM L n st->(∃ I,C.cd=⟨l,aM,L,I⟩)/\C.cd.hB C.P/\C.cd.at aM n st F Y w
 low:∀ r,Y r->r<w.heap.size/\¬F r/\¬C.K0 r
 al:∀ b,(s.aa b).body.b1 (κ b)=true->¬Y (κ b).aa
 GM:sl=.undef->∀ r,¬Y r
theorem bm.af2(M:bm C s a w κ F){sl:aH}(h:∀ l aM L n st,sl=.aW l aM L n st->s.ay b6=.aW l aM L n st):∃ Y,C6 C s w κ F sl Y:=by
 by_cases aE:∃ l aM L n st,sl=.aW l aM L n st
 ·obtain⟨l,aM,L,n,st,e⟩:=aE;obtain⟨E,U,Y,ag,a6,bM⟩:=M.eL l aM L n st (h _ _ _ _ _ e);refine⟨Y,⟨λdI kB e7 iZ im a7=>?_,ag,a6,λa7=>?_⟩⟩
  ·rw[e]at a7;cases a7;exact⟨E,U,bM⟩
  ·rw[e]at a7;cases a7
 ·exact⟨λ_=>False,⟨λl aM L n st e=>(aE ⟨l,aM,L,n,st,e⟩).elim,λ_ h=>h.elim,λ_ _ h=>h,λ_ _ h=>h⟩⟩
theorem af3{C1:b'}{eH:aA}{b9:Act}{F':Nat->Prop}{bV:List Nat}{f:Nat->Nat}{sh:dJ}{D:sh.ai}{Y:Nat->Prop}{ids:List Nat}(jr:C1.P=C.P)(tK:C1.aN=C.aN)(rk:C1.dfr=[])
  (gO:bm C1 (eH.cB bV) b9 w κ F') (aw:GG C1 eH b9 w κ f F' sh D bV) (iF:C6 C (eH.cB bV) w κ F' ((sh.st D).ay b6) Y)
  (aq:∀ b bf,b∈sh.oD->bf∈sh.oD->f b=f bf->b=bf) (hid:∀ b∈ids,eR<=b) :
  bm (rj C w F' C1.nt (λr=>∃ b,((sh.st D).aa b).body.b1 (κ (f b))=true/\(κ (f b)).aa=r) Y (λb=>if b∈ids then some (κ (f b)).aa else none,λb=>if b∈ids/\w5<=b then some (κ (f b),((sh.st D).aa b).body.len) else none)) (sh.st D) b9 w (λb=>κ (f b)) F' where
 dH:=gO.dH
 dfr:=gO.dfr.trans rk
 bU:=λi=>by have:=aw.bU i;rw[jr]at this;exact this
 bE:=λb=>by have:=aw.bE b;rw[jr]at this;exact this
 al:=λb W=>by
  have E:=gO.al (f b) (aw.xI W);exact⟨E.1,E.2.1,λh=>h.2.1 ⟨b,W,rfl⟩⟩
 inj:=λb bf W dc e=>aq b bf (aw.b1 b W).2.2 (aw.b1 bf dc).2.2 (gO.inj _ _ (aw.xI W) (aw.xI dc) e)
 db:=gO.db
 hg:=λr M=>.inl M
 hQ:=λr M=>M
 ht:=λr M=>M.1
 eG:=λ_ _=>rfl
 size:=Nat.le_refl _
 ew:=dd.refl _
 gq:=gO.gq
 kp:=λb r h=>by
  simp only[rj]at h;grind
 jD:=λb r h _=>by
  simp only[rj]at h;grind
 j4:=λb k h=>by
  simp only[rj]at h;grind
 kq:=λb k h _ _=>by
  simp only[rj]at h;grind
 eL:=λl aM L n st e=>by
  obtain⟨E,U,ag⟩:=iF.eL l aM L n st e;exact⟨E,U,Y,λr M=>⟨(iF.low r M).1,(iF.low r M).2.1,λh=>h.2.2 M⟩,λb W=>iF.al _ (aw.xI W),ag⟩
 jE:=by have:=gO.jE;rw[jr,tK]at this;exact this
 iA:=by have:=gO.iA;rw[jr]at this;exact this
structure Ts(s:aA)(κ:Nat->bD)(ib:(Nat->Option Nat)×(Nat->Option (bD×Nat)))(bs:List (Nat×bR))(ch:z6'):Prop where
 ec:(ch.map (·.1)).Nodup
 ef:(ch.map (·.2.1)).Nodup
 fz:nc ∉ ch.map (·.2.1)
 af4:(s.aa nc).body=.fz
 Tt:∀ p∈ch,(p.2.1<eR/\(s.aa p.2.1).gen<p.2.2)\/
  (((eQ bs p.1).body.fK=true->(s.aa p.2.1).body.fK=true/\ib.1 p.1=some (κ p.2.1).aa)/\((eQ bs p.1).body.gW=true->(s.aa p.2.1).body.gW=true/\ib.1 p.1=some (κ p.2.1).aa)/\(eQ bs p.1).body.mO=false/\
   ((p.2.2=(s.aa p.2.1).gen/\((eQ bs p.1).body.fh=true->(s.aa p.2.1).body.fh=true/\(eQ bs p.1).body.e3=(s.aa p.2.1).body.e3/\ib.2 p.1=some (κ p.2.1,(s.aa p.2.1).body.len)))\/p.2.2=(s.aa p.2.1).gen+1))
theorem af5{F' al Y:Nat->Prop}{sl:aH}{n:Nat}{ib:(Nat->Option Nat)×(Nat->Option (bD×Nat))}{ins:List Nat}{bL:dJ}{bn:bL.ai}{aD:List Value}{w':World}{nd:Nat->bD}{en:Nat->Prop}
    (M:bm C s a w κ F') (iF:C6 C s w κ F' sl Y) (gr:∀ r,al r->∃ b,b∈ins/\(s.aa b).body.b1 (κ b)=true/\(κ b).aa=r)
    (hJ:bm { rj C w F' n al Y ib with nt:=aD.length } (bL.st bn) { tmps:=aD.toArray,defers:=[] } w' nd en)
    {ch:z6'} (gu:Ts s κ ib (hj (hW ch) bL.bE (eD (hW ch) bL.bU bn).2) ch)
    {H':Nat->bK} {κn:Nat->bD} (z1:∀ p∈ch,H' p.2.1=⟨p.2.2,(eQ (hj (hW ch) bL.bE (eD (hW ch) bL.bU bn).2) p.1).body⟩/\κn p.2.1=nd p.1)
    (C7:∀ b,b ∉ ch.map (·.2.1)->κn b=κ b/\(b∈ins->H' b=⟨(s.aa b).gen+1,.fz⟩)/\(b ∉ ins->H' b=s.aa b))
    {X:aH} (z6:X=fs (eD (hW ch) bL.bU bn).1 b6\/X=.undef\/(X=s.ay b6/\sl=.undef)) :
    bm C ⟨λi=>if i=b6 then X else s.ay i,H'⟩ a w' κn en/\
    ∀ i,bC C.P H' κn en w' (fs (eD (hW ch) bL.bU bn).1 i) (aD.toArray.getD i undef):=by
  generalize C8:hj (hW ch) bL.bE (eD (hW ch) bL.bU bn).2=bs at gu z1;have q7:∀ b,xK (eQ bs b).body ((bL.st bn).aa b).body:=λb=>by
    rw[<-C8,Tm (LY bL.bU bn)];exact Tn bL.bE (eD c_ bL.bU bn).2 b
  have C9:pq (bL.st bn).aa H' nd κn (hW ch):=by
    intro b;refine⟨LZ _ b,?_⟩;by_cases W:b∈ch.map (·.1)
    · obtain⟨p,ao,rfl⟩:=List.mem_map.1 W
      rw[To gu.ec ao]
      obtain⟨E,U⟩:=z1 p ao
      rw[E,U]
      obtain⟨aQ,aS,bP,gy,oA,vx,_⟩:=q7 p.1
      exact⟨Nat.le_refl _,λ_=>⟨λh=>⟨aQ ▸ h,rfl⟩,λh=>⟨aS ▸ h,rfl,bP,gy⟩,λh=>⟨oA ▸ h,rfl⟩,λh=>⟨vx ▸ h,rfl⟩⟩⟩
    · rw[Tp W]
      obtain⟨_,U,ag⟩:=C7 nc gu.fz
      have aw:(H' nc).body=.fz:=by
        by_cases G:nc∈ins
        · grind
        · rw[ag G];exact gu.af4
      refine⟨Nat.zero_le _,λ_=>?_⟩
      show ((H' nc).body.fK=true->_)/\((H' nc).body.fh=true->_)/\((H' nc).body.gW=true->_)/\((H' nc).body.mO=true->_)
      rw[aw]
      exact⟨λh=>(by cases h),λh=>(by cases h),λh=>(by cases h),λh=>(by cases h)⟩
  have GN:∀ b,(∃ p∈ch,p.2.1=b)\/b ∉ ch.map (·.2.1):=λb=>by
    grind
  have GO:∀ p∈ch,∀ r,ib.1 p.1=some r->(eQ bs p.1).body.fK=true\/(eQ bs p.1).body.gW=true->(nd p.1).aa=r:=λp ao r M h=>by
    obtain⟨aQ,_,_,_,oA,_⟩:=q7 p.1;exact hJ.jD p.1 r M (h.imp (λh=>aQ ▸ h) (λh=>oA ▸ h))
  have af6:∀ p∈ch,∀ k,ib.2 p.1=some k->(eQ bs p.1).body.fh=true->nd p.1=k.1/\(eQ bs p.1).body.len=k.2:=λp ao k an h=>by
    obtain⟨_,aS,bP,_⟩:=q7 p.1;obtain⟨E,U⟩:=hJ.kq p.1 k an (LZ _ _) (aS ▸ h);grind
  have aj:fr s.aa κ H' κn:=by
    rw[BY];intro b;rcases GN b with⟨p,ao,rfl⟩ | W
    · obtain⟨E,U⟩:=z1 p ao
      rw[E,U]
      rcases gu.Tt p ao with⟨_,h⟩ | ⟨hc,hm,hit,h⟩
      · exact⟨Nat.le_of_lt h,λe=>(by grind)⟩
      · rcases h with⟨h,fa⟩ | h
        · refine⟨Nat.le_of_eq h.symm,λ_=>⟨λh=>⟨(hc h).1,GO p ao _ (hc h).2 (.inl h)⟩,λh=>?_,λh=>⟨(hm h).1,GO p ao _ (hm h).2 (.inr h)⟩,λh=>?_⟩⟩
          · have h:(eQ bs p.1).body.fh=true:=h
            obtain⟨b9,a2,a3⟩:=fa h
            obtain⟨dO,e1⟩:=af6 p ao _ a3 h
            exact⟨b9,dO,e1,a2⟩
          · have h:(eQ bs p.1).body.mO=true:=h
            rw[hit]at h;cases h
        · exact⟨by grind,λe=>(by grind)⟩
    · obtain⟨E,U,ag⟩:=C7 b W
      rw[E]
      by_cases G:b∈ins
      · rw[U G]
        exact⟨Nat.le_succ _,λe=>(by grind)⟩
      · rw[ag G];exact p3.refl _ _
  have z7:w.heap.size<=w'.heap.size:=hJ.size;have bp:∀ r,F' r->en r:=hJ.hQ;have iK:∀ r,r<w.heap.size->¬al r->¬Y r->w'.heap[r]?=w.heap[r]?:=λr E U ag=>hJ.eG r ⟨E,U,ag⟩;have vy:∀ r,C.K0 r->r<w.heap.size:=λr h=>Nat.lt_of_lt_of_le (M.ht r h) M.size;have L2:∀ r,al r->¬C.K0 r/\¬F' r:=λr h=>by
    obtain⟨b,_,E,rfl⟩:=gr r h;exact⟨(M.al b E).2.2,(M.al b E).2.1⟩
  have Tu:∀ r,¬(r<w.heap.size/\¬al r/\¬Y r)->¬C.K0 r:=λr h an=>h ⟨vy r an,λaf=>(L2 r af).1 an,λaR=>(iF.low r aR).2.2 an⟩;have qj:c6 F' w w':=⟨z7,λr h=>iK r (M.db r h) (λaf=>(L2 r af).2 h) λaR=>(iF.low r aR).2.1 h⟩
  have zF:∀ r,en r->F' r\/¬(r<w.heap.size/\¬al r/\¬Y r):=hJ.hg;have sy:∀ b,b ∉ ins->(s.aa b).body.b1 (κ b)=true->(κ b).aa<w.heap.size/\¬al (κ b).aa/\¬Y (κ b).aa:=λb W af=>by
    refine⟨(M.al b af).1,λh=>?_,iF.al b af⟩;obtain⟨bf,E,U,ag⟩:=gr _ h;exact W (M.inj bf b U af ag ▸ E)
  have y9:∀ b,(H' b).body.b1 (κn b)=true->(∃ p∈ch,p.2.1=b/\((bL.st bn).aa p.1).body.b1 (nd p.1)=true/\κn b=nd p.1)\/(b ∉ ch.map (·.2.1)/\b ∉ ins/\κn b=κ b/\(s.aa b).body.b1 (κ b)=true):=λb W=>by
    rcases GN b with⟨p,ao,rfl⟩ | aB
    · obtain⟨E,U⟩:=z1 p ao
      rw[E,U]at W
      exact .inl ⟨p,ao,rfl,by rw[<-(q7 p.1).2.2.2.2.2.2];exact W,U⟩
    · obtain⟨E,U,ag⟩:=C7 b aB
      by_cases G:b∈ins
      · rw[U G]at W;cases W
      grind
  have fm:∀ i,bC C.P H' κn en w' (fs (eD (hW ch) bL.bU bn).1 i) (aD.toArray.getD i undef):=λi=>C9.bU bL.bU bn i (hJ.bU i);refine⟨{ dH := M.dH, dfr := M.dfr, bU := λi => ?_, bE := λb => ?_, al := λb W => ?_, inj := λb bf W dc e => ?_, db := hJ.db, hg := λr h => ?_, hQ := λr h => bp r (M.hQ r h), ht := M.ht, eG := λr h => ?_,size:=Nat.le_trans M.size z7,ew:=M.ew.trans hJ.ew,gq:=M.gq,kp:=M.kp,jD:=λb r h hc=>?_,j4:=M.j4,kq:=λb k h aY bb=>?_,eL:=λl aM L m st e=>?_,jE:=M.jE,iA:=hJ.iA },fm⟩
  · show bC C.P H' κn en w' (if i=b6 then X else s.ay i) _
    split
    · rename_i e
      subst e
      have hu:a.tmps.getD b6 undef=undef:=by
        have:=M.dH;have:=M.gq;rw[Array.getD_eq_getD_getElem?,Array.getElem?_eq_none (by unfold b6 eR at *;omega)];rfl
      rcases z6 with rfl | rfl | ⟨rfl,_⟩
      · have h:=fm b6
        have L3:aD.toArray.getD b6 undef=undef:=by
          have:aD.length<=eR:=hJ.gq;rw[Array.getD_eq_getD_getElem?,Array.getElem?_eq_none (by simp only[List.size_toArray];unfold b6 eR at *;omega)];rfl
        grind
      · trivial
      · exact bC.lb aj bp qj (M.bU b6)
    · exact bC.lb aj bp qj (M.bU i)
  · show jC C.P H' κn en w' (κn b) (H' b).body
    rcases GN b with⟨p,ao,rfl⟩ | aB
    · obtain⟨E,U⟩:=z1 p ao
      rw[E,U,<-C8,Tm (LY bL.bU bn)]
      exact C9.bE bL.bE (eD c_ bL.bU bn).2 p.1 (hJ.bE p.1)
    · obtain⟨E,U,ag⟩:=C7 b aB
      by_cases G:b∈ins
      · rw[U G];trivial
      · have:=cG.lf (H':=H') (κ':=κn) (M.bE b) aj bp qj (by grind) E λaf=>iK _ (sy b G af).1 (sy b G af).2.1 (sy b G af).2.2
        exact this
  · rcases y9 b W with⟨p,ao,_,E,U⟩ | ⟨_,E,U,ag⟩
    · have:=hJ.al p.1 E
      rw[U]
      exact⟨this.1,this.2.1,Tu _ this.2.2⟩
    · rw[U]
      have a6:=M.al b ag
      grind
  · rcases y9 b W with⟨p,ao,rfl,E,U⟩ | ⟨_,E,U,ag⟩<;>rcases y9 bf dc with⟨p',Cd,rfl,zp,xf⟩ | ⟨_,zp,xf,Tv⟩
    · rw[U,xf]at e
      have:=hJ.inj _ _ E zp e
      rw[C5 gu.ec ao Cd this]
    · rw[U,xf]at e
      exact ((hJ.al p.1 E).2.2 (e ▸ sy bf zp Tv)).elim
    · rw[U,xf]at e
      exact ((hJ.al p'.1 zp).2.2 (e ▸ sy b E ag)).elim
    · rw[U,xf]at e
      exact M.inj b bf ag Tv e
  · rcases zF r h with h | h
    · exact M.hg r h
    grind
  · exact (iK r (vy r h) (λaf=>(L2 r af).1 h) λaR=>(iF.low r aR).2.2 h).trans (M.eG r h)
  · have aI:=M.kp b r h
    rcases GN b with⟨p,ao,rfl⟩ | aB
    · obtain⟨E,U⟩:=z1 p ao
      simp only[E]at hc
      rcases gu.Tt p ao with⟨ag,_⟩ | ⟨aQ,aS,_⟩
      · omega
      · rw[U]
        rcases hc with hc | hc
        · rw[GO p ao _ (aQ hc).2 (.inl hc)]
          exact M.jD _ r h (.inl (aQ hc).1)
        · rw[GO p ao _ (aS hc).2 (.inr hc)]
          exact M.jD _ r h (.inr (aS hc).1)
    · obtain⟨E,U,ag⟩:=C7 b aB
      by_cases G:b∈ins
      · simp only[U G]at hc
        rcases hc with hc | hc<;>cases hc
      · simp only[ag G]at hc
        rw[E]
        exact M.jD b r h hc
  · have aI:=M.j4 b k h
    have aY:(H' b).gen=0:=aY
    have bb:(H' b).body.fh=true:=bb
    show κn b=k.1/\(H' b).body.len=k.2
    obtain⟨g1,ey⟩:=aj b
    obtain⟨b9,a2,a3,_⟩:=(ey (by omega)).2.1 bb
    obtain⟨aQ,aS⟩:=M.kq b k h (by omega) b9
    grind
  · have e:X=.aW l aM L m st:=by grind
    rcases z6 with rfl | rfl | ⟨rfl,af7⟩
    · obtain⟨E,U,gE,ag,a6,bM⟩:=hJ.eL l aM L m st (Tl bL.bU bn b6 e)
      refine⟨E,U,gE,λr bc=>⟨(ag r bc).1,(ag r bc).2.1,Tu r (ag r bc).2.2⟩,λb W aR=>?_,bM⟩
      rcases y9 b W with⟨p,ao,rfl,aQ,aS⟩ | ⟨_,aQ,aS,bP⟩
      · grind
      · rw[aS]at aR;exact (ag _ aR).2.2 (sy b aQ bP)
    · cases e
    · obtain⟨E,U,gE,ag,a6,bM⟩:=M.eL l aM L m st e
      have Tw:∀ r,gE r->r<w.heap.size/\¬al r/\¬Y r:=λr aR=>⟨(ag r aR).1,λaf=>by
        grind,iF.GM af7 r⟩
      have BZ:∀ r,en r->¬gE r:=λr aq aR=>(zF r aq).elim (ag r aR).2.1 λh=>h (Tw r aR)
      refine⟨E,U,gE,λr aR=>⟨Nat.lt_of_lt_of_le (ag r aR).1 z7,λaq=>BZ r aq aR,(ag r aR).2.2⟩,λb W aR=>?_,U.J2 bM bp (λr aq=>?_) z7 hJ.ew hJ.db BZ⟩
      · rcases y9 b W with⟨p,ao,rfl,aQ,aS⟩ | ⟨_,aQ,aS,bP⟩
        · rw[aS]at aR;exact (hJ.al _ aQ).2.2 (Tw _ aR)
        grind
      · rcases aq with aq | aq
        · exact qj.2 r aq
        grind
end
end Go.Fer
namespace Go.Fer
open Go.RowKit
section
variable {C:b'} {T:Nat->ad} {o:Oper} {s:aA}
theorem cS.bz{P:Program}{aP:dG}{k:FuncId}{c:cL}(aq:cS P aP k c){C:b'}{a:Act}{w:World}{κ:Nat->bD}{F:Nat->Prop}{D:c.cq.ai}(h:bm C (c.cq.st D) a w κ F)(E:C.P=P)(U:C.w0=w)(ag:C.r=none)(a6:C.dfr=[])(bM:C.nt=c.ke)(dn:C.aN=aP)(aE:(c.sh D).cm) :
  Calls P k a.tmps w λe w'=>∃ v bn aD κ' F',e=.returned v/\(c.sh D).bL bn/\GJ c.kC v aD/\bm { C with nt:=aD.length } (c.bL.st bn) { tmps:=aD.toArray,defers:=[] } w' κ' F':=
 aq.iV C a w κ F D E U ag a6 bM dn h aE
theorem Tx{C:b'}{s:aA}{L4:Nat->aH}{a b9:Act}{w:World}{κ:Nat->bD}{F:Nat->Prop}{ec:Nat}{c:cL}{f:Nat->Nat}{D:c.cq.ai}{bV:List Nat}{d m:Nat}{ch:z6'}
    (M:bm C s a w κ F) (gO:bm { C with nt:=ec,dfr:=[],r:=none } ⟨L4,s.aa⟩ b9 w κ F) (qk:L4 b6=s.ay b6)
    (nY:c.cq.zN f ⟨L4,s.aa⟩=some (D,bV)) (Ty:sq (s.cB bV) d f c.cq.oD c.bL.bE 0=ch) (ed:CT c f (s.cB bV) ch d m=true) :
    ∃ (F' al Y:Nat->Prop) (ib:(Nat->Option Nat)×(Nat->Option (bD×Nat))),(∀ r,F r->F' r)/\bm C (s.cB bV) a w κ F'/\(∀ r,al r->∃ b,((s.cB bV).aa b).body.b1 (κ b)=true/\(κ b).aa=r)/\C6 C (s.cB bV) w κ F' ((c.cq.st D).ay b6) Y/\(∀ l aM L n st,(c.cq.st D).ay b6=.aW l aM L n st->s.ay b6=.aW l aM L n st)/\
      bm (rj C w F' ec al Y ib) (c.cq.st D) b9 w (λb=>κ (f b)) F'/\
      ∀ L5 hE,bm { C with w0:=L5 } (s.cB bV) a hE κ F'->C6 C (s.cB bV) hE κ F' ((c.cq.st D).ay b6) Y->∀ (bn:c.bL.ai) (aD:List Value) (w':World) (nd:Nat->bD) (en:Nat->Prop),bm { rj C hE F' ec al Y ib with nt:=aD.length } (c.bL.st bn) { tmps:=aD.toArray,defers:=[] } w' nd en->
        ∃ κn,bm { C with w0:=L5 } (xz (s.cB bV) c f ch bn) a w' κn en/\∀ i,bC C.P (xz (s.cB bV) c f ch bn).aa κn en w' (fs (eD (hW ch) c.bL.bU bn).1 i) (aD.toArray.getD i undef):=by
  simp only[CT,Bool.and_eq_true,decide_eq_true_eq,Bool.not_eq_true']at ed;obtain⟨⟨⟨⟨⟨⟨⟨⟨⟨⟨bF,c2⟩,c3⟩,c4⟩,c5⟩,lQ⟩,ov⟩,xd⟩,c9⟩,GP⟩,_⟩:=ed;have c3:(c.cq.bE.map (·.1)).Nodup:=of_decide_eq_true c3;have c4:(c.cq.bE.map λp=>f p.1).Nodup:=of_decide_eq_true c4;have c5:(ch.map (·.1)).Nodup:=of_decide_eq_true c5;have lQ:(ch.map (·.2.1)).Nodup:=of_decide_eq_true lQ;have xd:nc ∉ ch.map (·.2.1):=λh=>by
    grind
  have c9:((s.cB bV).aa nc).body=.fz:=by
    grind
  obtain⟨F',f1,gO,aw⟩:=dJ.Tb nY gO;have bc : bm C (s.cB bV) a w κ F' := { gO with
    dH:=M.dH,dfr:=M.dfr,gq:=M.gq,bU:=λi=>bC.lb (RZ s bV κ) f1 (c6.refl _ _) (M.bU i)
    bE:=gO.bE
    eL:=λl aM L n st e=>gO.eL l aM L n st (by simpa [aA.cB,qk]using e) }
  obtain⟨Y,iF⟩:=bc.af2 (sl:=(c.cq.st D).ay b6) λl aM L n st e=>by simpa [aA.cB,qk]using aw.aW l aM L n st e
  have hid:∀ b∈c.cq.bE.map (·.1),eR<=b:=λb W=>by grind
  have GQ:∀ b,b∈c.cq.oD->∃ q∈c.cq.bE,q.1=b/\q.2.CO=true:=λb W=>by
    obtain⟨q,bt,e⟩:=List.mem_filterMap.1 W;grind
  have C_:=af3 (C:=C) (C1:={ C with nt:=ec,dfr:=[],r:=none }) (ids:=c.cq.bE.map (·.1)) rfl rfl rfl gO aw ⟨iF.eL,iF.low,iF.al,iF.GM⟩ (λb bf W dc e=>by
    obtain⟨q,bt,rfl,_⟩:=GQ b W;obtain⟨q',tL,rfl,_⟩:=GQ bf dc;rw[C5 (k:=λp=>f p.1) c4 bt tL e]) hid
  refine⟨F',_,Y,_,f1,bc,λr ⟨b,W,e⟩=>⟨f b,aw.xI W,e⟩,iF,λl aM L n st e=>by simpa [aA.cB,qk]using aw.aW l aM L n st e,C_,λL5 hE KO GR bn aD w' nd en hJ=>?_⟩;have C8:∀ (b:Nat) (q':Nat×b2),q'∈c.bL.bE->q'.1=b->b∈c.cq.oD->∀ (R:Type) (z:q'.2.cons R),((q'.2.body (hW ch) z).1.fK=true->((s.cB bV).aa (f b)).body.fK=true)/\((q'.2.body (hW ch) z).1.gW=true->((s.cB bV).aa (f b)).body.gW=true)/\(q'.2.body (hW ch) z).1.mO=false:=by
    intro b q' tL e W R z;obtain⟨q,bt,rfl,L6⟩:=GQ b W;have an:=List.all_eq_true.1 (List.all_eq_true.1 GP q' tL) q bt;rw[e,L6]at an;simp only[beq_self_eq_true,Bool.and_self,Bool.not_true,Bool.false_or]at an;rcases GL c_ c.cq.bE (eD c_ c.cq.bU D).2 q.1 with⟨_,U⟩ | ⟨dP,U,ag,L0,mq,a6⟩
    · grind
    · obtain rfl:=C5 c3 U bt ag
      have a6:(c.cq.st D).aa dP.1=⟨0,(dP.2.body c_ mq).1⟩:=a6
      obtain⟨aQ,aS,bP⟩:=af0 an z mq (g:=hW ch) (g':=c_)
      have ua:=aw.zW dP.1
      refine⟨λhc=>?_,λhc=>?_,bP⟩
      · have bM:=aw.b1 dP.1 (by grind)
        simp only[aA.cB,if_neg bM.1]
        exact ua.2.1 (by grind)
      · have bM:=aw.b1 dP.1 (by grind)
        simp only[aA.cB,if_neg bM.1]
        exact ua.2.2.2.1 (by grind)
  have af8:ch.map (·.1)=c.bL.bE.map (·.1):=by rw[<-Ty];exact Tq ..
  have gu:Ts (s.cB bV) κ (λb=>if b∈c.cq.bE.map (·.1) then some (κ (f b)).aa else none,λb=>if b∈c.cq.bE.map (·.1)/\w5<=b then some (κ (f b),((c.cq.st D).aa b).body.len) else none) (hj (hW ch) c.bL.bE (eD (hW ch) c.bL.bU bn).2) ch:=by
    refine⟨c5,lQ,xd,c9,λp ao=>?_⟩;rw[<-Ty]at ao;rcases Tr _ _ _ _ _ _ ao with⟨E,U,t,ag,a6⟩ | ⟨_,U,ag,a6⟩
    · rw[U]
      have jN:p.1∈c.cq.bE.map (·.1):=by
        grind
      rcases GL (hW ch) c.bL.bE (eD (hW ch) c.bL.bU bn).2 p.1 with⟨_,aS⟩ | ⟨q',aQ,aS,R,z,bP⟩
      · grind
      · rw[bP]
        obtain⟨dO,e1,mM⟩:=C8 p.1 q' aQ aS E R z
        have:q'=(p.1,t):=C5 (af8 ▸ c5) aQ ag aS
        subst this
        refine .inr ⟨λh=>⟨dO h,if_pos jN⟩,λh=>⟨e1 h,if_pos jN⟩,mM,a6.imp (λa6=>⟨a6.1,λfa=>?_⟩) id⟩
        rcases a6.2 with bM | ⟨an,e,rfl⟩
        · grind
        · obtain⟨q,bt,LW,L6⟩:=GQ p.1 E
          have xM:=List.all_eq_true.1 (List.all_eq_true.1 GP _ aQ) q bt
          rw[LW,L6]at xM
          simp only[beq_self_eq_true,Bool.and_self,Bool.not_true,Bool.false_or]at xM
          rcases GL c_ c.cq.bE (eD c_ c.cq.bU D).2 p.1 with⟨_,xf⟩ | ⟨dP,m2,m3,L0,mq,m4⟩
          · grind
          · obtain rfl:=C5 c3 m2 bt (m3.trans LW.symm)
            have m4:(c.cq.st D).aa p.1=⟨0,(dP.2.body c_ mq).1⟩:=m4
            obtain⟨dz,L7⟩:=dP
            have xM:b2.Ga (.bj e) L7=true:=xM
            obtain rfl:L7=.bj e:=by
              cases L7<;>first | (simp only[b2.Ga,decide_eq_true_eq]at xM;rw[xM]) | cases xM
            have ua:=aw.zW p.1
            have af9:((c.cq.st D).aa p.1).body.fh=true:=by rw[m4];rfl
            obtain⟨b5,cw,eg⟩:=ua.2.2.1 af9
            have bl:((s.cB bV).aa (f p.1)).body.fh=true/\((s.cB bV).aa (f p.1)).body.len=(s.aa (f p.1)).body.len/\((s.cB bV).aa (f p.1)).body.e3=(s.aa (f p.1)).body.e3:=by
              simp only[aA.cB];split
              · rcases zn s.aa (s.aa (f p.1)) with a7 | ⟨_,_,ah,a7⟩ | ⟨_,_,_,ah,_⟩ | ⟨_,_,_,_,ah,_,_⟩
                · grind
                · rw[a7,ah];exact⟨rfl,rfl,rfl⟩
                · have b5:(s.aa (f p.1)).body.fh=true:=b5
                  rw[ah]at b5;cases b5
                · have b5:(s.aa (f p.1)).body.fh=true:=b5
                  rw[ah]at b5;cases b5
              grind
            have cw:((c.cq.st D).aa p.1).body.len=(s.aa (f p.1)).body.len:=cw
            have eg:((c.cq.st D).aa p.1).body.e3=(s.aa (f p.1)).body.e3:=eg
            refine⟨bl.1,?_,?_⟩
            · rw[bl.2.2,<-eg,m4];rfl
            grind
    · refine .inl ⟨?_,by omega⟩
      unfold eR
      omega
  obtain⟨nZ,fm⟩:=af5 (ins:=c.cq.oD.map f) (X:=if c.bL.bU.any (λp=>p.1 == b6) then fs (eD (hW ch) c.bL.bU bn).1 b6 else if c.cq.bU.any (λp=>p.1 == b6) then .undef else (s.cB bV).ay b6)
    (H':=(xz (s.cB bV) c f ch bn).aa)
    (κn:=λb=>match ch.find? (λp=>p.2.1 == b) with
      | some p=>nd p.1
      | none=>κ b) KO ⟨GR.eL,GR.low,GR.al,GR.GM⟩ (λr ⟨b,W,e⟩=>⟨f b,List.mem_map_of_mem (aw.b1 b W).2.2,aw.xI W,e⟩) hJ gu
    (λp ao=>by simp only[xz,GK (k:=λp=>p.2.1) lQ ao,and_self]) (λb W=>by
      have aB:ch.find? (λp=>p.2.1 == b)=none:=List.find?_eq_none.2 λp ao e=>W (List.mem_map.2 ⟨p,ao,by grind⟩);simp only[xz,aB,true_and];grind)
    (by
      split
      · simp
      · split
        · simp
        · rename_i U
          exact .inr (.inr ⟨rfl,xL c.cq.bU c_ D b6 (Bool.eq_false_iff.2 U)⟩))
  exact⟨_,nZ,fm⟩
theorem Tz(bh:∀ i,o.dst=some i->i<C.nt){f0:Operand}{args:Array Operand}{dp:Array TypeId}(af:o.op=.call { callee:=.value f0,args:=args,argTypes:=dp }){c:cL}(aq:∀ D a w,cu C s a w->(c.sh D).cm->∃ k,cS C.P C.aN k c/\a.eval f0=.func (.func k) #[] #[]){cd:hV}
  (h:xA C.aN s o args.toList c=some cd):qi C o s cd:=by
 obtain⟨args⟩:=args;unfold xA at h;generalize ax1:ra c (so s (q_ C.aN s args))=f at h;split at h
 ·rename_i D bV nY;split at h
  ·rename_i ed;cases h;have af_:q6 (a8 C.aN s.ay) o->jH (args.map (a8 C.aN s.ay)):=λW=>CZ W λx ah=>by rw[af];simp[Op.operands,Call.operands];simp_all
   refine⟨λa w Q K M be L8=>?_,λgs oG=>(by grind),af_⟩;obtain⟨k,aq,an⟩:=aq D a w M L8.1;obtain⟨κ,F,M⟩:=M;have hlen:args.length=c.ke/\args.length<=eR:=by
    simp only[CT,Bool.and_eq_true,decide_eq_true_eq]at ed;omega
   have dY:=M.args (avs:=q_ C.aN s args) (us:=args.map a.eval) (by grind) (by simp[q_]) λi G=>by
    have dA:i<args.length:=by grind
    have E:=sa be i (by grind);have ax:(args.map (a8 C.aN s.ay)).getD i .undef=a8 C.aN s.ay args[i]:=by grind
    rw[ax]at E;have aO:(q_ C.aN s args).getD i .undef=(use (a8 C.aN s.ay args[i])).2:=by simp[q_,List.getD_eq_getElem?_getD,dA]
    have cF:(args.map a.eval).getD i undef=a.eval args[i]:=by grind
    rw[aO,cF];exact o' (j8 M args[i]) E
   obtain⟨F',al,Y,ib,_,bc,_,iF,_,C_,L9⟩:=Tx M dY rfl nY rfl ed;have c7:(execOp a.eval o).run C.P w=.ok (.enter k (args.map a.eval).toArray) w:=by
    simp only[execOp,af,Sem.run_bind,resolve,an,Deferred.ofValue,Sem.run_pure,Result.andThen_ok,invoke];have:=aq.enter (args.map a.eval).toArray w;grind
   have uc:=aq.bz C_ rfl rfl rfl rfl (by show (args.map a.eval).length=_;grind) rfl L8.1;refine CA (by grind) c7 uc λe w' ⟨v,bn,aD,nd,en,he,gj,GS,hJ⟩=>⟨v,he,L8.2 bn gj _ _ ?_⟩
   obtain⟨κn,nZ,fm⟩:=L9 C.w0 w bc iF bn aD w' nd en hJ;exact⟨_,en,bm.set nZ bh (af1 GS λj=>by simpa [Array.getD_eq_getD_getElem?,List.getD_eq_getElem?_getD]using fm j)⟩
  grind
 grind
theorem af'(bh:∀ i,o.dst=some i->i<C.nt){k:Nat}{args:Array Operand}{dp:Array TypeId}(af:o.op=.call { callee:=.value (.func k),args:=args,argTypes:=dp }){c:cL}(aq:cS C.P C.aN k c){cd:hV}
  (h:xA C.aN s o args.toList c=some cd):qi C o s cd:=
 Tz bh af (λ_ _ _ _ _=>⟨k,aq,rfl⟩) h
theorem cS.y_{P:Program}{aP:dG}{k:FuncId}{c:cL}(h:cS P aP k c){sh:c.cq.ai->A c.bL.ai}(aE:∀ D,A.le (c.sh D) (sh D)):cS P aP k { c with sh:=sh } where
 enter:=h.enter
 iV:=λC a w κ F D ax aO cF ee dZ ld M q5=>by
  obtain⟨aQ,aS⟩:=aE D q5;exact (h.iV C a w κ F D ax aO cF ee dZ ld M aQ).mono λe w' ⟨v,bn,aD,κ',F',E,U,ag⟩=>⟨v,bn,aD,κ',F',E,aS bn U,ag⟩
theorem aga{Ψ:Nat->Option e6}(bh:∀ i,o.dst=some i->i<C.nt){t:Nat}{args:Array Operand}{dp:Array TypeId}(af:o.op=.call { callee:=.value (.tmp t),args:=args,argTypes:=dp })
  (cZ:∀ c sh ids,Ψ SY=some (.Gj c sh ids)->∀ k∈ids,cS C.P C.aN k { c with sh:=sh k }) {cd:hV} (h:Gn C.aN Ψ s o t args.toList=some cd):qi C o s cd:=by
 unfold Gn at h;split at h
 ·rename_i n aB;split at h
  ·rename_i c sh ids hc;refine Tz bh af (λD a w M aE=>?_) h;obtain⟨⟨k,an,rfl⟩,_⟩:=aE;refine⟨k,(cZ c sh ids hc k an).y_ (sh:=(SZ c sh ids (some k)).sh) λD h=>⟨h.2,λy aR=>aR⟩,?_⟩;obtain⟨κ,F,M⟩:=M;have ae:bC C.P s.aa κ F w (s.ay t) (a.tmps.getD t undef):=M.bU t;rw[aB]at ae;obtain⟨_,ae⟩:=(dV rfl).1 ae;exact (List.cons.inj ae).1
  ·cases h
 ·cases h
end
end Go.Fer
namespace Go.Fer
open Go.RowKit
section
variable {C:b'} {o:Oper} {s:aA}
theorem bm.round{s:aA}{a:Act}{w w':World}{κ:Nat->bD}{F' en Y GU:Nat->Prop}{l:Nat}{aM:ad}{L:List aM.ai->Prop}{I}{ef:List aM.ai}{L_:Bool}(M:bm C s a w κ F')(oH:C.cd=⟨l,aM,L,I⟩)(cM:C.cd.hB C.P)
    (aR:∀ r,Y r->r<w.heap.size/\¬F' r/\¬C.K0 r) (L':∀ b,(s.aa b).body.b1 (κ b)=true->¬Y (κ b).aa)
    (g1:∀ r,F' r->en r) (ey:∀ r,en r->F' r\/Y r\/w.heap.size<=r) (g3:∀ r,en r->r<w'.heap.size) (g4:∀ r,r<w.heap.size->¬Y r->w'.heap[r]?=w.heap[r]?)
    (g5:∀ r,GU r->(Y r\/w.heap.size<=r)/\r<w'.heap.size/\¬en r) (g6:w.heap.size<=w'.heap.size) (g7:dd w w') (g8:I ef L_ en GU w') :
    bm C ⟨λi=>if i=b6 then .aW l aM L ef L_ else s.ay i,s.aa⟩ a w' κ en:=by
  have qj:c6 F' w w':=⟨g6,λr h=>g4 r (M.db r h) λCt=>(aR r Ct).2.1 h⟩
  have ln:∀ r,w.heap.size<=r->¬C.K0 r:=λr h an=>by have:=M.ht r an;have:=M.size;omega
  refine { dH := M.dH, dfr := M.dfr, bU := λi => ?_, bE := λb => cG.lf (M.bE b) (fr.refl _ _) g1 qj rfl rfl λaf => g4 _ (M.al b af).1 (L' b af), al := λb W => ?_, inj := M.inj, db := g3, hg := λr h => ?_,hQ:=λr h=>g1 r (M.hQ r h),ht:=M.ht,eG:=λr h=>?_,size:=Nat.le_trans M.size g6,ew:=M.ew.trans g7,gq:=M.gq,kp:=M.kp,jD:=M.jD,j4:=M.j4,kq:=M.kq,eL:=λdI kB e7 iZ im e=>?_,jE:=M.jE,iA:=M.iA.mono g1 qj }
  · show bC C.P s.aa κ en w' (if i=b6 then .aW l aM L ef L_ else s.ay i) _
    split
    · trivial
    · exact bC.lb (fr.refl _ _) g1 qj (M.bU i)
  · have h:=M.al b W
    grind
  · rcases ey r h with h | h | h
    · exact M.hg r h
    · exact .inr (aR r h).2.2
    · exact .inr (ln r h)
  · exact (g4 r (Nat.lt_of_lt_of_le (M.ht r h) M.size) λk=>(aR r k).2.2 h).trans (M.eG r h)
  · simp only[if_true]at e
    cases e
    refine⟨⟨I,oH⟩,cM,GU,λr h=>⟨(g5 r h).2.1,(g5 r h).2.2,?_⟩,λb W h=>?_,?_⟩
    · grind
    · rcases (g5 _ h).1 with h | h
      · grind
      · exact absurd (M.al b W).1 (Nat.not_lt.2 h)
    · rw[oH];exact lN.y5.2 g8
theorem agb(bh:∀ i,o.dst=some i->i<C.nt){t:Nat}{args:Array Operand}{dp:Array TypeId}(af:o.op=.call { callee:=.value (.tmp t),args:=args,argTypes:=dp }){cd:hV}
  (h:Gp C.aN s o t args.toList=some cd):qi C o s cd:=by
 obtain⟨args⟩:=args;unfold Gp at h;split at h
 ·rename_i dI l aM L n st Ma tW;split at h
  ·rename_i x bV ah;cases h;refine⟨λa w Q K M be hm=>?_,λgs oG=>(by grind),λW=>CZ W λx ah=>by rw[af];simp[Op.operands,Call.operands];simp_all⟩;obtain⟨κ,F,M⟩:=M;rw[A.kM]at hm;obtain⟨⟨rfl,rfl,GV⟩,hm⟩:=hm;obtain⟨F',f1,bc,f2⟩:=bm.lj (qc _ ah) M;have dY:fq C.P aM F' w (args.map a.eval) x:=by
    refine vn M.bE f1 aM ah f2 (by simp) λi G dL=>?_;simp only[List.getElem_map];have dA:i<args.length:=by grind
    have E:=sa be i (by grind);have ax:(args.map (a8 C.aN s.ay)).getD i .undef=a8 C.aN s.ay args[i]:=by grind
    rw[show (List.map (a8 C.aN s.ay) (⟨args⟩:Array Operand).toList)=args.map (a8 C.aN s.ay) from rfl,ax]at E;exact o' (j8 M args[i]) E
   have ae:a.eval (.tmp t)=.func (.yield dI) #[] #[]:=by
    have:=j8 M (.tmp t);have e:a8 C.aN s.ay (.tmp t)=.hf dI:=Ma;rw[e]at this;exact this
   obtain⟨⟨I,oH⟩,cM,Y,aR,L',eB⟩:=bc.eL dI aM L n false tW;have agc:lN.hB C.P ⟨dI,aM,L,I⟩:=oH ▸ cM;rw[oH]at eB;have eB:=lN.y5.1 eB;obtain⟨fn,tmps,assign,body,E,U⟩:=agc.yield eB bc.db (λr h=>⟨(aR r h).1,(aR r h).2.1⟩) GV dY;have c7:(execOp a.eval o).run C.P w=.ok (.round dI fn tmps assign body) w:=by
    simp only[execOp,af,Sem.run_bind,resolve,ae,Deferred.ofValue,Sem.run_pure,Result.andThen_ok,invoke];grind
   refine⟨λ_ _=>trivial,?_⟩;rw[zi (by grind),c7,Oper.uponIn_round];refine⟨λaE=>(by cases aE),?_⟩;have ag:RoundIn (dT C.r) 0 C.P dI fn tmps assign body w _:=U;refine ag.mono λe w' ⟨b,en,GU,he,g1,ey,g3,g4,g5,g6,g7,g8⟩=>?_;subst he;refine hm.2 b trivial _ _ ⟨κ,en,bm.set ?_ bh (fg.2 rfl)⟩;exact bc.round oH cM aR L' g1 ey g3 g4 g5 g6 g7 g8
  grind
 grind
end
end Go.Fer
namespace Go.Fer
open Go.RowKit
section
variable {C:b'} {T:Nat->ad} {bg:Nat->Option aL} {s:aA} {res:eC}
theorem TA{ms:Array MapEntry}{j:Nat}(aF:j<ms.size)(hu:∀ i (h:i<ms.size),ms[i].born=ms[j].born->i=j):ms.findIdx? (λe=>(e.born:Int) == (ms[j].born:Int))=some j:=by
 rw[Array.findIdx?_eq_some_iff_getElem];grind
theorem agd(ms:Array MapEntry)(e:MapEntry)(f:MapEntry->MapEntry):(ms.push e).modify ms.size f=ms.push (f e):=by
 grind
theorem age(ms:Array MapEntry)(j:Nat)(f g:MapEntry->MapEntry):(ms.modify j f).modify j g=ms.modify j λe=>g (f e):=by
 grind
theorem z8{a:Act}{d:Nat}{v:Value}{x:Operand}(h:x≠.tmp d):(a.put (some d) v).eval x=a.eval x:=Act.eval_put λva e=>by grind
theorem C'{a:Act}{d:Nat}{v:Value}(h:d<a.tmps.size):(a.put (some d) v).eval (.tmp d)=v:=by
 simp[Act.put,Act.eval,Array.getD_eq_getD_getElem?,h]
theorem agf(aV:dU C.P T){hR gG kV kf:Oper}{d1 d2:Nat}{ty:TypeId}{m x y:Operand}(E:hR.op=.mapEntry ty m x)(t1:hR.dst=some d1)(U:gG.op=.extract (.tmp d1) 1)(t2:gG.dst=some d2)
  (ag:kV.op=.entryStore ty m (.tmp d2) y) (t3:kV.dst=none) (h_:kf.op=.mapUpdate ty m x y) (Mb:kf.dst=none) (kg:m≠.tmp d1) (pr:m≠.tmp d2) (xN:y≠.tmp d1) (sz:y≠.tmp d2) (qe:d1<C.nt) (hX:d2<C.nt)
  (h:(bx C.aN T bg (a8 C.aN s.ay) kf).run s.aa=some res) {a:Act} {w:World} {κ:Nat->bD} {F:Nat->Prop} {Q:Exit->Act->World->Prop} {K:Act->World->Prop} (M:bm C s a w κ F) (be:res.cb) (hc:res.c)
  (iK:∀ a' w',cu C (((s.h6 none res).set (some d1) .undef).set (some d2) .undef) a' w'->K a' w') :
  hR.wpIn (dT C.r) 0 C.P a w (λb9 cp=>gG.wpIn (dT C.r) 0 C.P b9 cp (λa2 c8=>kV.wpIn (dT C.r) 0 C.P a2 c8 K Q) Q) Q:=by
 have kT:=KM aV Mb (.inl h_) h a w κ F Q M be hc;rw[Mb]at kT;have ax:∀ c,hR.op≠.defer c:=by grind
 have aO:∀ c,gG.op≠.defer c:=by grind
 have cF:∀ c,kV.op≠.defer c:=by grind
 have agh:∀ c,kf.op≠.defer c:=by grind
 simp only[bx,h_,qW]at h;split at h
 ·rename_i k v aI;obtain⟨lo,zz,G,mW,hi⟩:=(aV.b7 aI (by simp)).mp;obtain⟨inf,mw,i1,i2,i3,i4,i5,i6⟩:=kt hi.ks;split at h
  ·rename_i xO;split at h
   ·rename_i b g tR;simp only[ar.e5,Option.bind_eq_some_iff,ar.run_bind,ar.e4,ar.bN]at h;obtain⟨⟨dK,oq⟩,ah,⟨mX,ot⟩,aR,h⟩:=h;split at h
    ·rename_i aC;obtain⟨aC,p_⟩:=aC;have p_:b ∉ oq++ot:=by
      grind
     split at h
     ·rename_i k' h3 es W;simp only[Option.map_eq_some_iff]at h;obtain⟨Sn,pc,rfl⟩:=h;obtain⟨e,rfl⟩:=kO pc;cases e;obtain⟨F',f1,bc,f2⟩:=bm.lj ((mT ah).append (mT aR)) M;have hm:bC C.P s.aa κ F w (use (a8 C.aN s.ay m)).2 (a.eval m):=cP M m rfl be.1;rw[tR]at hm;have kU:=hm.2 aC.symm (by rw[W];rfl);have tS:=mm M.bE f1 ah f2.left (cP M x rfl be.2.1);have pe:(s.cB (oq++ot)).aa b=s.aa b:=by simp only[aA.cB];grind
      have aT:=bc.bE b;unfold cG at aT;rw[pe,W]at aT;obtain⟨ms,clk,hw,tT⟩:=aT;have fk:k.kQ=true/\k.j7<=100:=by simpa [tF]using xO
      have ed:=(CB (em:=false) k 10000 fk.1 (by omega)).1 mW tS;have lp:=tT.es;obtain⟨f,dz,dP⟩:=xj (β:=v.ai) (xs:=es) (es:=ms.toList) xO mW tS lp.1 (λj e p E U=>(lp.2 j e p E U).1);have eV:(getObj (κ b).aa).run C.P w=.ok (.map ms clk) w:=by simp[getObj,Sem.run,hw]
      obtain⟨ht,KN,FX,Sp⟩:=tT;have ud:d1<a.tmps.size:=by have:=M.dH;omega
      have cc:(κ b).aa<w.heap.size:=(Array.getElem?_eq_some_iff.1 hw).1;have chain:∀ (cp c8:World) (u:Value) (n:Int),(execOp a.eval hR).run C.P w=.ok (.value (.tuple #[u,goInt n])) cp->(Instr.entryStore ty (.map (some (κ b).aa)) (goInt n) (a.eval y)).run C.P cp=.ok () c8->
        (execOp a.eval kf).run C.P w=.ok .skip c8->
        hR.wpIn (dT C.r) 0 C.P a w (λb9 cp=>gG.wpIn (dT C.r) 0 C.P b9 cp (λa2 c8=>kV.wpIn (dT C.r) 0 C.P a2 c8 K Q) Q) Q:=by
       intro cp c8 u n b5 cw agi;have ka:=kT.2;rw[zi agh,agi,Oper.uponIn_skip,Mb]at ka;refine hv ax b5 ?_;rw[t1];have agj:(a.put (some d1) (.tuple #[u,goInt n])).eval (.tmp d1)=.tuple #[u,goInt n]:=C' ud;refine hv (v:=goInt n) (w':=cp) aO (by simp[execOp,U,agj,Instr.extract]) ?_;rw[t2];have agk:d2<(a.put (some d1) (.tuple #[u,goInt n])).tmps.size:=by have:=M.dH;simp[Act.put];omega
       have agl:((a.put (some d1) (.tuple #[u,goInt n])).put (some d2) (goInt n)).eval (.tmp d2)=goInt n:=C' agk;have Mc:((a.put (some d1) (.tuple #[u,goInt n])).put (some d2) (goInt n)).eval m=.map (some (κ b).aa):=by rw[z8 pr,z8 kg,kU]
       have agm:((a.put (some d1) (.tuple #[u,goInt n])).put (some d2) (goInt n)).eval y=a.eval y:=by rw[z8 sz,z8 xN]
       refine FI cF (w':=c8) (by simp only[execOp,ag,agl,Mc,agm,Sem.run_bind,cw,Result.andThen_ok,Sem.run_pure]) ?_;rw[t3];refine iK _ _ ?_;obtain⟨κ',F',ka⟩:=ka;exact⟨κ',F',bm.set (bm.set (d:=some d1) (av:=.undef) ka (λi e=>by grind) trivial) (λi e=>by grind) trivial⟩
      rcases dP with⟨rfl,eO⟩ | ⟨j,e,p,g1,ey,g3,g4,rfl⟩
      ·refine chain { w with heap:=w.heap.setIfInBounds (κ b).aa (.map (ms.push { key:=a.eval x,val:=mw,born:=clk }) (clk+1)) } { w with heap:=w.heap.setIfInBounds (κ b).aa (.map (ms.push { key:=a.eval x,val:=a.eval y,born:=clk }) (clk+1)) } mw clk ?_ ?_ ?_
       ·simp only[execOp,E,kU,Instr.mapEntry,Sem.run_bind,dD G,Result.andThen_ok,eV,ed,dz,qX i1 i4,sj hw,Sem.run_pure]
       ·have Md:(getObj (κ b).aa).run C.P { w with heap:=w.heap.setIfInBounds (κ b).aa (.map (ms.push { key:=a.eval x,val:=mw,born:=clk }) (clk+1)) }=.ok (.map (ms.push { key:=a.eval x,val:=mw,born:=clk }) (clk+1)) { w with heap:=w.heap.setIfInBounds (κ b).aa (.map (ms.push { key:=a.eval x,val:=mw,born:=clk }) (clk+1)) }:=by simp[getObj,Sem.run,cc]
        have Me:(ms.push { key:=a.eval x,val:=mw,born:=clk }).findIdx? (λe=>(e.born:Int) == (clk:Int))=some ms.size:=by
         have:=TA (ms:=ms.push { key:=a.eval x,val:=mw,born:=clk }) (j:=ms.size) (by simp) λi G he=>by
          grind
         grind
        simp only[Instr.entryStore,Sem.run_bind,Md,Result.andThen_ok,goInt,asInt,asIntOf,Sem.run_pure,Me];rw[sj (es:=ms.push { key:=a.eval x,val:=mw,born:=clk }) (clk:=clk+1) (by grind),agd];simp
       ·simp only[execOp,h_,kU,Instr.mapUpdate,Sem.run_bind,dD G,Result.andThen_ok,eV,ed,dz,sj hw,Sem.run_pure]
      ·have aF:j<es.length:=(List.getElem?_eq_some_iff.1 ey).1;have xk:j<ms.size:=by omega
       have KP:ms[j]=e:=by
        grind
       obtain⟨jq,cp,b5,cw,eg⟩:=KL C.P w e.key (a.eval x);have lU:cp.heap[(κ b).aa]?=some (.map ms clk):=by rcases eg with rfl | rfl<;>exact hw
       have TB:(κ b).aa<cp.heap.size:=(Array.getElem?_eq_some_iff.1 lU).1;have nR:((ms[j]?).map (·.key)).getD (a.eval x)=e.key:=by
        grind
       have Mf:((ms[j]?).map (λx=>(x.born:Int))).getD 0=(ms[j].born:Int):=by grind
       rw[Nat.zero_add]at dz;refine chain { cp with heap:=cp.heap.setIfInBounds (κ b).aa (.map (ms.modify j λe=>{ e with key:=jq }) clk) } { cp with heap:=cp.heap.setIfInBounds (κ b).aa (.map (ms.modify j λe=>{ e with key:=jq,val:=a.eval y }) clk) } e.val ms[j].born ?_ ?_ ?_
       ·simp only[execOp,E,kU,Instr.mapEntry,Sem.run_bind,dD G,Result.andThen_ok,eV,ed,dz];rw[nR,b5];simp only[Result.andThen_ok,sj lU,Sem.run_pure,Mf]
       ·have Md:(getObj (κ b).aa).run C.P { cp with heap:=cp.heap.setIfInBounds (κ b).aa (.map (ms.modify j λe=>{ e with key:=jq }) clk) }=.ok (.map (ms.modify j λe=>{ e with key:=jq }) clk) { cp with heap:=cp.heap.setIfInBounds (κ b).aa (.map (ms.modify j λe=>{ e with key:=jq }) clk) }:=by simp[getObj,Sem.run,TB]
        have mx:∀ i (h:i<(ms.modify j λe=>{ e with key:=jq }).size),((ms.modify j λe=>{ e with key:=jq })[i]).born=(ms[i]'(by grind)).born:=by
         grind
        have Me:(ms.modify j λe=>{ e with key:=jq }).findIdx? (λe=>(e.born:Int) == (ms[j].born:Int))=some j:=by
         have:=TA (ms:=ms.modify j λe=>{ e with key:=jq }) (j:=j) (by grind) λi G he=>by
          grind
         grind
        simp only[Instr.entryStore,Sem.run_bind,Md,Result.andThen_ok,goInt,asInt,asIntOf,Sem.run_pure,Me];rw[sj (es:=ms.modify j λe=>{ e with key:=jq }) (clk:=clk) (by grind),age];simp
       ·simp only[execOp,h_,kU,Instr.mapUpdate,Sem.run_bind,dD G,Result.andThen_ok,eV,ed,dz];rw[nR,b5];simp only[Result.andThen_ok,sj lU,Sem.run_pure]
     grind
    grind
   ·cases h
  ·cases h
 ·cases h
end
end Go.Fer
namespace Go.Fer
open Go.RowKit
structure Da(P:Program)(k:FuncId)(c:zO):Prop where
 enter:∀ args w,(callFunc k args).run P w=.ok (.enter k args) w
 iV:∀ (l:Nat) (I:List c.aM.ai->Bool->(Nat->Prop)->(Nat->Prop)->World->Prop) (F Y:Nat->Prop) (w:World) (args:List Value) (x:c.ts.ai),fq P c.ts F w args x->c.pre x->lN.hB P ⟨l,c.aM,λT=>T=c.seq x,I⟩->
  (∀ r,F r->r<w.heap.size)->nJ P F w->(∀ r,Y r->r<w.heap.size/\¬F r)->I [] false F Y w->Calls P k (args++[Value.func (.yield l) #[] #[]]).toArray w λe w'=>
   ∃ v pre st F' gE,e=.returned v/\(st=false->pre=c.seq x)/\I pre st F' gE w'/\(∀ r,F r->F' r)/\(∀ r,F' r->F r\/Y r\/w.heap.size<=r)/\(∀ r,F' r->r<w'.heap.size)/\
    (∀ r,r<w.heap.size->¬Y r->w'.heap[r]?=w.heap[r]?)/\(∀ r,gE r->(Y r\/w.heap.size<=r)/\r<w'.heap.size/\¬F' r)/\w.heap.size<=w'.heap.size/\dd w w'
def e6.hB(P:Program)(aP:dG)(k:FuncId):e6->Prop
 | .dw c=>h2 P k c.ts c.aW c.sh/\(c.dS=true->∀ x,(c.sh x).CP)
 | .fb c=>cS P aP k c
 | .ct c=>Da P k c
 | .Lt c=>h2 P k c.ts c.aW c.sh/\Rn P k c.ts c.aW c.sh
 | .Gj c sh ids=>∀ k∈ids,cS P aP k { c with sh:=sh k }
 | .kD c=>nM c.aW=true/\Cy P k c
def lY(P:Program)(aP:dG)(Ψ:Nat->Option e6):Prop:=∀ k c,Ψ k=some c->c.hB P aP k
section
variable {C:b'} {T:Nat->ad} {bg:Nat->Option aL} {Ψ:Nat->Option e6} {s:aA} {o:Oper} {Q:Exit->Act->World->Prop} {ops:Array Oper}
theorem agn(cC:jn C.P bg)(cZ:lY C.P C.aN Ψ){k:Nat}{c:hH}(h:Lu bg Ψ k=some c):h2 C.P k c.ts c.aW c.sh:=by
 unfold Lu at h;split at h
 ·rename_i c' jJ;cases h;have:e6.hB C.P C.aN k (.dw c):=cZ k _ jJ;exact this.1
 ·cases h
 ·obtain⟨f,aq,h⟩:=Option.bind_eq_some_iff.1 h;split at h
  ·cases h
  ·rename_i he;cases h;exact (cC k f aq).1 (by simpa using he)
theorem ago{P:Program}{w:World}{ty j:TypeId}(aF:P.underlying ty=some (.slice j))(q:Option Addr)(n cap d:Nat):(Op.equalIn (d+1) ty (.slice q n cap) (.slice none 0 0)).run P w=.ok q.isNone w:=by
 cases q<;>simp[Op.equalIn,dD aF]
theorem agp{P:Program}{w:World}(op:BinOp)(t:TypeId)(x y:Operand)(q q':Option Addr)(n iZ cap cap':Nat):(eqGuard op t x y (.slice q n cap) (.slice q' iZ cap')).run P w=.ok () w:=by
 cases op<;>simp[eqGuard]
theorem TC{P:Program}{w:World}{ty j:TypeId}{x y:Operand}(aF:P.underlying ty=some (.slice j))(q:Option Addr)(n cap:Nat) :
  (do eqGuard .eql ty x y (.slice q n cap) (.slice none 0 0);binOp .eql ty (.slice q n cap) (.slice none 0 0):Sem Value).run P w=.ok (.bool q.isNone) w/\(do eqGuard .neq ty x y (.slice q n cap) (.slice none 0 0);binOp .neq ty (.slice q n cap) (.slice none 0 0):Sem Value).run P w=.ok (.bool (!q.isNone)) w:=by
 have h:(Op.equalIn 10000 ty (.slice q n cap) (.slice none 0 0)).run P w=.ok q.isNone w:=ago (w:=w) aF q n cap 9999;constructor<;>simp[agp,binOp,Op.equal,Op.maxDepth,h]
theorem agq(aV:dU C.P T)(bh:∀ i,o.dst=some i->i<C.nt){op:BinOp}{ty mR:TypeId}{x y:Operand}(af:o.op=.binOp op ty x y mR){cd:hV}(h:CV C.aN T s o op ty x y=some cd):qi C o s cd:=by
 have zl:∀ c,o.op≠.defer c:=by grind
 unfold CV at h;split at h
 ·rename_i e aI agr;have dq:=aV.b7 aI (by simp);obtain⟨j,aF,_⟩:=dq.sl;split at h
  ·rename_i xs l hT;have key:∀ (a:Act) (w:World) (κ:Nat->bD) (F:Nat->Prop),bm C s a w κ F->(use (a8 C.aN s.ay x)).1->∃ b:Bool,(b=true->xs=[])/\(op=.eql->(execOp a.eval o).run C.P w=.ok (.value (.bool b)) w)/\(op=.neq->(execOp a.eval o).run C.P w=.ok (.value (.bool (!b))) w):=by
    intro a w κ F M be;have ah:=Cf M hT (cP M x rfl be);obtain⟨_,q,cap,ax,m1,m2,m3,_⟩:=(dV rfl).1 ah;have ax:=(List.cons.inj ax).1;have aR:a.eval y=.slice none 0 0:=by
     have:=j8 M y;rw[agr]at this;exact this
    refine⟨q.isNone,λbt=>?_,λkT=>?_,λkT=>?_⟩
    ·simp_all
    ·subst kT;have M:=(TC (w:=w) (x:=x) (y:=y) aF q xs.length cap).1;rw[<-ax,<-aR]at M;simp only[execOp,af,Sem.run_bind]at M ⊢;simp_all
    ·subst kT;have M:=(TC (w:=w) (x:=x) (y:=y) aF q xs.length cap).2;rw[<-ax,<-aR]at M;simp only[execOp,af,Sem.run_bind]at M ⊢;simp_all
   split at h
   ·cases h;refine⟨λa w Q K M be hm=>?_,λgs oG=>(by grind),λW=>W x (by rw[af];simp[Op.operands])⟩;obtain⟨κ,F,M⟩:=M;obtain⟨b,dO,e1,_⟩:=key a w κ F M be;exact hv zl (e1 rfl) (hm.2 b dO _ _ ⟨κ,F,bm.set M bh (fg.2 rfl)⟩)
   ·cases h;refine⟨λa w Q K M be hm=>?_,λgs oG=>(by grind),λW=>W x (by rw[af];simp[Op.operands])⟩;obtain⟨κ,F,M⟩:=M;obtain⟨b,dO,_,e1⟩:=key a w κ F M be;exact hv zl (e1 rfl) (hm.2 b dO _ _ ⟨κ,F,bm.set M bh (fg.2 rfl)⟩)
   grind
  grind
 grind
theorem Mg(aV:dU C.P T)(cC:jn C.P bg)(cZ:lY C.P C.aN Ψ)(bh:∀ i,o.dst=some i->i<C.nt){cd:hV}(h:rb C.aN T bg Ψ s o=some cd):qi C o s cd:=by
 unfold rb at h;split at h
 ·rename_i c af;obtain⟨callee,args,dp⟩:=c;split at h
  ·rename_i f aq;simp only at aq;subst aq;split at h
   ·split at h
    ·rename_i c' jJ;exact af' bh af (cZ _ _ jJ) h
    ·rename_i c' jJ;have ag:e6.hB C.P C.aN _ (.Lt c'):=cZ _ _ jJ;exact afN bh af ag.1 ag.2 h
    ·split at h
     ·rename_i dw Mh;exact afM bh af (agn cC cZ Mh) h
     grind
   ·split at h
    ·rename_i r M;cases h;exact afO bh af M
    ·split at h
     ·rename_i r M;cases h;exact aga bh af (λc sh ids hc=>cZ _ _ hc) M
     ·exact agb bh af h
   grind
  grind
 ·rename_i ty x af;exact afP aV bh af h
 ·rename_i x str af;exact afT bh af h
 ·rename_i x af;exact afQ bh af h
 ·rename_i op ty x y mR af;exact agq aV bh af h
 grind
theorem TD(want b:Bool):((some b == some want:Bool))=F7 want b:=by cases want<;>cases b<;>rfl
theorem TE{a:Act}{j d:Nat}{rl:Oper}(E:ops[j]?=some rl)(U:rl.dst=some d){b:Bool}(h:a.tmps.getD d Go.undef=.bool b):yielded ops a.tmps j=some b:=by
 have:a.tmps[d]?=some (.bool b):=by
  rw[Array.getD_eq_getD_getElem?]at h;cases he:a.tmps[d]? with
  | none=>rw[he]at h;cases h
  | some v=>grind
 simp[yielded,E,U,this]
theorem ags{a:Act}{j d:Nat}{rl:Oper}(E:ops[j]?=some rl)(U:rl.dst=some d)(h:a.tmps.getD d Go.undef=Go.undef):yielded ops a.tmps j=none:=by
 unfold yielded;rw[E];simp only[Option.bind_some,U];rw[Array.getD_eq_getD_getElem?]at h;cases he:a.tmps[d]? with
 | none=>rfl
 | some v=>rw[he]at h;cases h;rfl
theorem Mi{a:Act}{w:World}{κ:Nat->bD}{F:Nat->Prop}(M:bm C s a w κ F){g:Option Bool}(h:kz s.ay ops o.guard=some g) :
  Region.wanted o (yielded ops a.tmps)=g.getD true:=by
 unfold Region.wanted;cases aC:o.guard with
 | none=>rw[aC]at h;cases h;rfl
 | some p=>
  obtain⟨j,want⟩:=p;rw[aC]at h;simp only[kz]at h ⊢;split at h
  ·rename_i rl aF;split at h
   ·rename_i d aw;have aE:=M.bU d;split at h
    ·rename_i b W;cases h;rw[W]at aE;rw[TE aF aw (fg.1 aE),TD];rfl
    ·rename_i g' b W;cases h;rw[W]at aE;obtain⟨E,U⟩:=aE;cases g' with
     | true=>
      rw[TE aF aw (fg.1 (E rfl)),TD];simp
     | false=>
      rw[ags aF aw (U rfl)];rfl
    grind
   grind
  grind
theorem agt{cb c:Prop}{e_ su:aH}{hE xD:List (Nat×bK)}(aC:CW o e_ hE=some (xD,su))(h:(bx C.aN T bg (a8 C.aN s.ay) o).run s.aa=some ⟨cb,c,e_,hE⟩) :
    (∀ a w,cu C (s.h6 o.dst ⟨cb,c,e_,hE⟩) a w->cu C ((s.gi xD).set o.dst su) a w)/\(∀ a w κ F,bm C s a w κ F->∃ κ' F',bm C (s.gi xD) a w κ' F'):=by
  unfold CW at aC;split at aC
  · cases aC
    exact⟨λa w h=>h,λa w κ F h=>⟨κ,F,h⟩⟩
  · rename_i p dI
    split at aC
    · rename_i Mj first c1 af
      cases aC
      refine⟨λa w h=>h,λa w κ F M=>?_⟩
      simp only[bx,af]at h
      split at h
      · split at h
        · split at h
          · simp only[ar.e5,Option.bind_eq_some_iff,ar.run_bind,ar.bN,Option.some.injEq]at h
            obtain⟨⟨y,l⟩,aR,he⟩:=h
            obtain⟨F',_,bc,_⟩:=bm.lj (qc _ aR) M
            have he:(jG l).run s.aa=p::dI:=by grind
            rw[<-he,tI]
            grind
          · split at h
            · simp only[ar.e5,Option.bind_eq_some_iff,ar.run_bind,ar.bN,Option.some.injEq]at h
              obtain⟨⟨y,l⟩,aR,he⟩:=h
              obtain⟨F',_,bc,_⟩:=bm.lj (qc _ aR) M
              have he:(jG l).run s.aa=p::dI:=by grind
              rw[<-he,tI]
              grind
            · simp only[bO,ar.bN,Option.some.injEq]at h
              cases h
        · split at h
          · simp only[bO,ar.bN,Option.some.injEq]at h
            cases h
          · cases h
      · cases h
    · rename_i ty n ps af
      split at aC
      · rename_i bf g' e xs bT
        split at aC
        · rename_i agu
          obtain⟨⟨rfl,rfl⟩,_⟩:=agu
          cases aC
          obtain⟨b,⟨agv,iJ⟩⟩:=p
          simp only at bT
          subst bT
          have ln:o.dst=some b/\agv=(s.aa b).gen+1:=by
            simp only[bx,af]at h;split at h
            · simp only[ar.e5,Option.bind_eq_some_iff,ar.run_bind]at h
              obtain⟨⟨ys,bV⟩,_,h⟩:=h
              obtain⟨b0,zE,an⟩:=qZ h
              grind
            · cases h
          obtain⟨bh,rfl⟩:=ln
          refine⟨λa w ka=>?_,λa w κ F M=>?_⟩
          · obtain⟨κ,F,M⟩:=ka
            rw[bh]at M ⊢
            simp only[aA.h6,aA.gi]at M
            have ah:(dC (.slice e) (.al b ((s.aa b).gen+1))).run ((s.cz b ⟨(s.aa b).gen+1,.bj e xs⟩).set (some b) (.al b ((s.aa b).gen+1))).aa=some (xs,[b]):=by
              simp[dC,kr,dX,aA.set,aA.cz,eT,ad.eF]
            obtain⟨z_,f1,gO,f2⟩:=bm.lj (mT ah) M
            have aE:=M.bU b
            have ae:=mm (v:=a.tmps.getD b undef) M.bE f1 ah f2 (by simpa [aA.set]using aE)
            have fm:∀ i,i≠b->((s.cz b ⟨(s.aa b).gen+1,.bj e xs⟩).set (some b) (.al b ((s.aa b).gen+1))).ay i=s.ay i:=λi G=>by simp[aA.set,aA.cz,G]
            have cO:bm C ⟨λi=>if i=b then .val (.slice e) xs else s.ay i,(((s.cz b ⟨(s.aa b).gen+1,.bj e xs⟩).set (some b) (.al b ((s.aa b).gen+1))).cB [b]).aa⟩ a w κ z_:=
              { gO with
                dH:=gO.dH,dfr:=gO.dfr,bE:=gO.bE
                bU:=λi=>by
                  show bC _ _ _ _ _ (if i=b then .val (.slice e) xs else s.ay i) _;split
                  · rename_i G
                    subst G
                    exact ae
                  · rename_i G
                    rw[<-fm i G]
                    exact gO.bU i
                eL:=λl aM L n st a7=>by
                  have a7:(if b6=b then aH.val (.slice e) xs else s.ay b6)=.aW l aM L n st:=a7;split at a7
                  · cases a7
                  · rename_i G
                    exact gO.eL l aM L n st ((fm b6 G).trans a7) }
            refine⟨κ,z_,cO.y_ ⟨λi=>.inl ?_,λi=>?_⟩⟩
            · rfl
            · by_cases G:i=b
              · subst G
                right
                simp[aA.set,aA.gi,aA.cz,aA.cB,fj]
              · left
                simp[aA.set,aA.gi,aA.cz,aA.cB,G]
          · have aB:=LR M (b:=b) (e:=e)
            refine⟨_,F,aB.y_ ⟨λi=>.inl rfl,λi=>?_⟩⟩
            by_cases G:i=b
            · subst G
              right
              simp[aA.gi,aA.cz]
            · left
              simp[aA.gi,aA.cz,G]
        grind
      grind
    grind
theorem sA{β:Type}{b:Bool}{p:Prop}{m:A β}{O:β->Prop}(W:b=true->p):A.cy (sr b p m) O<->p/\A.cy m O:=by
 cases b with
 | true=>exact⟨λh=>⟨W rfl,h⟩,λh=>h.2⟩
 | false=>exact A.kM
def ql(ops:Array Oper)(s:aA)(tg:pn):Prop:=∀ p∈tg,∃ b a,s.ay p.1=.hC b a/\kz s.ay ops (some p.2)=some (some b)
theorem agw{j d:Nat}:ss ops j d=true<->d∈F8 ops (some (j,true)):=by
 have key:∀ (x:Option Oper),(match x with | some o=>(match o.dst with | some e=>e == d | none=>false) | none=>false)=true<->d∈(match x with | some o=>o.dst.toList | none=>[]):=by
  grind
 exact key _
theorem ql.hk{s':aA}{tg:pn}(h:ql ops s tg)(aE:∀ i,o.dst≠some i->s'.ay i=s.ay i)
  (aw:∀ d k,o.dst=some d->o.guard=some k->∃ b a,s'.ay d=.hC b a/\kz s.ay ops (some k)=some (some b)):ql ops s' (xB ops tg o):=by
 unfold xB;cases bh:o.dst with
 | none=>
  intro p ao;obtain⟨b,a,E,U⟩:=h p ao;refine⟨b,a,(aE _ (by grind)).trans E,?_⟩;rw[<-U];exact K9 λt _=>aE t (by grind)
 | some d=>
  have congr:∀ k:Nat×Bool,ss ops k.1 d=false->kz s'.ay ops (some k)=kz s.ay ops (some k):=λk an=>K9 λt aI=>aE t (by
   rw[bh];intro e;cases e;have:ss ops k.1 d=true:=agw.2 aI;grind)
  have vm:ql ops s' (tg.filter λp=>p.1 != d&&!ss ops p.2.1 d):=by
   intro p ao;simp only[List.mem_filter,Bool.and_eq_true,bne_iff_ne,ne_eq,Bool.not_eq_true']at ao;obtain⟨b,a,E,U⟩:=h p ao.1;grind
  simp only;split
  ·rename_i k an;split
   ·omega
   ·rename_i TF;intro p ao;rcases List.mem_cons.1 ao with rfl | ao
    ·grind
    ·exact vm p ao
  omega
section
variable {aP:dG} {tg:pn} {gk:Option (Nat×Bool)}
theorem Db(aV:ql ops s tg)(aC:∀ k,gk=some k->kz s.ay ops (some k)=some (some true)){x:Operand}(h:xC (a8 aP s.ay) tg gk x=true):(use (a8 aP s.ay x)).1:=by
 unfold xC at h;rw[Bool.or_eq_true]at h;rcases h with h | h
 ·exact F5 (by grind)
 ·split at h
  ·rename_i t k;obtain⟨p,ao,vq⟩:=List.any_eq_true.1 h;simp only[Bool.and_eq_true,beq_iff_eq]at vq;obtain⟨rfl,E,U⟩:=vq;have vq:p.2=k:=Prod.ext E U;obtain⟨b,a,aQ,aS⟩:=aV p ao;rw[vq,aC k rfl]at aS;cases aS;have e:a8 aP s.ay (.tmp p.1)=s.ay p.1:=rfl;rw[e,aQ];rfl
  grind
theorem TG(aV:ql ops s tg)(aC:∀ k,gk=some k->kz s.ay ops (some k)=some (some true))(h:Lx (a8 aP s.ay) tg gk o=true):q6 (a8 aP s.ay) o:=
 λx ah=>Db aV aC (List.all_eq_true.1 h x ah)
theorem TH(aV:ql ops s tg){c x:Operand}{want:Bool}{p7:Prop}{i_:Bool}(hc:use (a8 aP s.ay c)=(p7,.val .bool i_))(Dc:p7)(h:Gu ops tg c x want=true)(hw:F7 want i_=true):(use (a8 aP s.ay x)).1:=by
 unfold Gu at h;split at h
 ·rename_i c t;obtain⟨p,ao,vq⟩:=List.any_eq_true.1 h;simp only[Bool.and_eq_true,beq_iff_eq]at vq;obtain⟨rfl,E,rfl⟩:=vq;obtain⟨b,a,aQ,aS⟩:=aV p ao;have e:a8 aP s.ay (.tmp p.1)=s.ay p.1:=rfl;rw[e,aQ];show b=true;unfold ss at E;have xP:p.2=(p.2.1,p.2.2):=rfl;rw[xP]at aS;unfold kz at aS;have jJ:use (s.ay c)=(p7,.val .bool i_):=hc;split at E
  ·rename_i rl aF;split at E
   ·rename_i d aw;have agx:d=c:=by grind
    subst agx;simp only[aF,aw]at aS;split at aS
    ·rename_i b0 zE;rw[zE]at jJ;simp only[use,Prod.mk.injEq,aH.val.injEq,heq_eq_eq,true_and]at jJ;grind
    ·rename_i g0 b0 zE;rw[zE]at jJ;simp only[use,Prod.mk.injEq,aH.val.injEq,heq_eq_eq,true_and]at jJ;grind
    grind
   grind
  grind
 grind
theorem GW(aV:ql ops s tg)(aC:∀ k,gk=some k->kz s.ay ops (some k)=some (some true))(h:zP (a8 aP s.ay) ops tg gk o=true):(bx aP T bg (a8 aP s.ay) o).cX (lr λr=>r.cb):=by
 cases af:o.op with
 | pick c a b=>
  simp only[zP,af,Bool.and_eq_true,Bool.or_eq_true]at h;obtain⟨E,U,ag⟩:=h;unfold bx;rw[af];simp only;split
  ·rename_i p7 i_ lV;have Dc:p7:=by have:=Db aV aC E;grind
   split
   ·split
    ·rename_i zf av bb;refine .bO ⟨Dc,λae=>?_⟩;have:(use (a8 aP s.ay a)).1:=by
      rcases U with U | U
      ·exact Db aV aC U
      ·exact TH aV lV Dc U ae
     grind
    ·exact .bY
   ·split
    ·rename_i zf av bb;refine .bO ⟨Dc,λae=>?_⟩;have:(use (a8 aP s.ay b)).1:=by
      rcases ag with ag | ag
      ·exact Db aV aC ag
      ·exact TH aV lV Dc ag (by subst ae;rfl)
     grind
    ·exact .bY
   ·exact .bY
  ·exact .bY
 | _=>
  simp only[zP,af]at h;exact SE (TG aV aC h)
theorem agy(aV:ql ops s tg)(aC:∀ k,gk=some k->kz s.ay ops (some k)=some (some true)){cb c:Prop}{e_ su:aH}{hE xD:List (Nat×bK)}(hw:CW o e_ hE=some (xD,su))(M:(bx aP T bg (a8 aP s.ay) o).run s.aa=some ⟨cb,c,e_,hE⟩)
  (h:Ly (a8 aP s.ay) tg gk o su=true):(use su).1:=by
 unfold Ly at h;rw[Bool.or_eq_true]at h;rcases h with h | h
 ·exact F5 (by grind)
 ·split at h
  ·rename_i x af;simp only[bx,af,bO,ar.bN,Option.some.injEq,eC.mk.injEq]at M;obtain⟨_,_,rfl,rfl⟩:=M;simp only[CW,Option.some.injEq,Prod.mk.injEq]at hw;obtain⟨_,rfl⟩:=hw;exact Db aV aC h
  grind
end
theorem aA.Dd{s:aA}{d:Option Nat}{v:aH}{i:Nat}(h:d≠some i):(s.set d v).ay i=s.ay i:=by
 cases d with
 | none=>rfl
 | some d=>simp only[aA.set];grind
theorem aA.Mk{s:aA}{d:Nat}{v:aH}:(s.set (some d) v).ay d=v:=by simp[aA.set]
theorem aA.zK:∀ (l:List (Nat×bK)) (s:aA),(s.gi l).ay=s.ay
 | [],_=>rfl
 | p::l,s=>by
  have:=aA.zK l (s.cz p.1 p.2);exact this
theorem agz{aP:dG}{cd:hV}{gs:Bool->cd.ak->aA}(h:rb aP T bg Ψ s o=some cd)(aC:cd.CQ=some gs):∀ g y,∃ v,(gs g y).ay=(s.set o.dst (.hC g v)).ay:=by
 have after:∀ (t:ad) (bV:List Nat) (v:aH),(q9 s o t bV v).ay=(s.set o.dst v).ay:=λt bV v=>by
  unfold q9;split
  ·rfl
  ·cases o.dst<;>rfl
 have dw:∀ {args:List Operand} {c:hH} {cd:hV} {gs:Bool->cd.ak->aA},CR aP s o args c=some cd->cd.CQ=some gs->∀ g y,∃ v,(gs g y).ay=(s.set o.dst (.hC g v)).ay:=by
  intro args c cd gs h aC;unfold CR at h;split at h
  ·cases h;cases aC;exact λg y=>⟨_,after _ _ _⟩
  grind
 have Gi:∀ {t:Nat} {args:List Operand} {cd:hV} {gs:Bool->cd.ak->aA},CS aP s o t args=some cd->cd.CQ=some gs->∀ g y,∃ v,(gs g y).ay=(s.set o.dst (.hC g v)).ay:=by
  intro t args cd gs h aC;unfold CS at h;split at h
  ·split at h
   ·cases h;cases aC;exact λg y=>⟨_,after _ _ _⟩
   grind
  grind
 unfold rb at h;split at h
 ·split at h
  ·split at h
   ·split at h
    ·unfold xA at h;grind
    ·unfold Gl at h;grind
    ·split at h
     ·exact dw h aC
     grind
   ·split at h
    ·rename_i M;cases h;exact Gi M aC
    ·split at h
     ·rename_i M;cases h;unfold Gn xA at M;grind
     ·unfold Gp at h;grind
   grind
  grind
 ·unfold Gq at h;grind
 ·unfold Gs at h;grind
 ·unfold Gt at h;grind
 ·unfold CV at h;grind
 grind
theorem vz{x:Operand}{t:Nat}(h:h9 x=some t):x=.tmp t:=by
 cases x<;>simp[h9]at h;rw[h]
theorem TI{o gG kV kf:Oper}{d1 d2:Nat}(h:zQ o gG kV=some (kf,d1,d2)):∃ ty m x y,o.op=.mapEntry ty m x/\o.dst=some d1/\gG.op=.extract (.tmp d1) 1/\gG.dst=some d2/\kV.op=.entryStore ty m (.tmp d2) y/\kV.dst=none/\
  kf.op=.mapUpdate ty m x y/\kf.dst=none/\m≠.tmp d1/\m≠.tmp d2/\y≠.tmp d1/\y≠.tmp d2/\o.guard=none/\gG.guard=none/\kV.guard=none:=by
 unfold zQ at h;split at h
 ·rename_i ty m x af;split at h
  ·rename_i e xQ;split at h
   ·rename_i mR dy a7 y ax2;split at h
    ·rename_i adQ Ku Ml De TJ;split at h
     ·rename_i hc;simp only[Option.some.injEq,Prod.mk.injEq]at h;obtain⟨rfl,rfl,rfl⟩:=h;obtain⟨bF,c2,rfl,c4,c5,lQ,ov,xd,c9,GP,agA,c12,agB⟩:=hc;obtain⟨oI,ue⟩:=Option.isSome_iff_exists.1 c4;have fl:=vz ue;have hm:=vz (c5.symm.trans ue);have ax:=vz bF;have aO:=vz c2;subst ax;subst aO;refine⟨mR,m,x,y,af,Ml,xQ,De,?_,TJ,rfl,TJ,λe=>ov (by grind),λe=>xd (by grind),λe=>c9 (by grind),λe=>GP (by grind),Option.isNone_iff_eq_none.1 agA,Option.isNone_iff_eq_none.1 c12,Option.isNone_iff_eq_none.1 agB⟩;grind
     grind
    grind
   grind
  grind
 grind
theorem Mm{β:Type}(aV:dU C.P T)(cC:jn C.P bg)(cZ:lY C.P C.aN Ψ)(aw:∀ o∈ops.toList,lq o C.nt=true){k:aA->A β}{O:β->Prop}
  (an:∀ s' a' w',cu C s' a' w'->A.cy (k s') O->Q .normal a' w'):∀ (os:List Oper) (n:Nat) (tg:pn) (s:aA) (a:Act) (w:World),ops.toList.drop n=os->ql ops s tg->cu C s a w->A.cy (mv C.aN T bg Ψ ops os tg s k) O->
   wpOpsIn (dT C.r) 0 C.P ops Q (List.range' n os.length) a w:=by
 intro os;generalize hlen:os.length=len;induction len using Nat.strongRecOn generalizing os with
 | _ len TK=>
 subst hlen;cases os with
 | nil=>
  intro n tg s a w _ _ M hm;exact an s a w M hm
 | cons o os=>
  have aK:=TK os.length (by simp) os rfl;intro n tg s a w aB xR M hm;have cc:n<ops.toList.length:=by
   grind
  rw[List.drop_eq_getElem_cons cc]at aB;injection aB with qe hX
  have eV:ops[n]?=some o:=by
   grind
  have jN:o∈ops.toList:=qe ▸ List.getElem_mem cc;have xS:=aw o jN;have bh:∀ i,o.dst=some i->i<C.nt:=λi G=>by
   have:=xS;simp only[lq,Bool.and_eq_true]at this;grind
  simp only[List.length_cons,List.range'_succ,wpOpsIn,eV];obtain⟨κ,F,eW⟩:=M;unfold mv at hm;split at hm
  ·rename_i kf d1 d2 sB;cases os with
   | nil=>exact hm.1.elim
   | cons gG os=>
    cases os with
    | nil=>exact hm.1.elim
    | cons kV os=>
     simp only at hm;split at hm
     ·rename_i res gv;obtain⟨ty,m,x,y,f1,f2,f3,f4,f5,f6,f7,f8,f9,f10,f11,f12,g1,ey,g3⟩:=TI sB;have TL:=hX;have Cn:n+1<ops.toList.length:=by
       grind
      rw[List.drop_eq_getElem_cons Cn]at TL;injection TL with agC TM
      have agD:n+2<ops.toList.length:=by
       grind
      rw[List.drop_eq_getElem_cons agD]at TM;injection TM with ax3 agE
      have agF:ops[n+1]?=some gG:=by
       grind
      have ax4:ops[n+2]?=some kV:=by
       grind
      have De:d2<C.nt:=by
       have:=aw gG (agC ▸ List.getElem_mem Cn);simp only[lq,Bool.and_eq_true]at this;grind
      rw[A.kM,A.kM]at hm;have cp:Region.wanted o (yielded ops a.tmps)=true:=by unfold Region.wanted;rw[g1]
      have c8:∀ a':Act,Region.wanted gG (yielded ops a'.tmps)=true:=λa'=>by unfold Region.wanted;rw[ey]
      have eX:∀ a':Act,Region.wanted kV (yielded ops a'.tmps)=true:=λa'=>by unfold Region.wanted;rw[g3]
      have:=agf (Q:=Q) (K:=λa' w'=>wpOpsIn (dT C.r) 0 C.P ops Q (List.range' (n+3) os.length) a' w') aV f1 f2 f3 f4 f5 f6 f7 f8 f9 f10 f11 f12 (bh d1 f2) De gv eW hm.1 hm.2.1
       λa' w' bc=>TK os.length (by grind) os rfl (n+3) [] _ a' w' agE (λp ao=>by cases ao) bc hm.2.2
      rw[cp];simp only[if_true];refine Oper.wpIn_mono (λb9 ax5 E=>?_) this;simp only[List.length_cons,List.range'_succ,wpOpsIn,agF,c8,if_true];grind
     ·exact hm.1.elim
  split at hm
  ·exact hm.1.elim
  ·rename_i aC;have ax6:o.guard=none:=by
    cases h:o.guard with
    | none=>rfl
    | some p=>
     rw[h]at aC;simp only[kz]at aC;grind
   rw[Mi eW aC];simp only[Option.getD_none,if_true];split at hm
   ·rename_i res gv;rw[sA λW=>(GW xR (gk:=none) (λk an=>by cases an) W).run s.aa res gv,sA λW=>(zH W).run s.aa res gv]at hm;refine Oper.wpIn_mono (λa' w' bc=>aK (n+1) _ _ a' w' hX (xR.hk (λi G=>?_) λd k _ an=>by grind) bc hm.2.2) (xo aV cC xS gv a w κ F Q eW hm.1 hm.2.1);unfold aA.h6;rw[aA.Dd G,aA.zK]
   ·split at hm
    ·rename_i cd oH;obtain⟨jI,qa,mr⟩:=Mg aV cC cZ bh oH;rw[sA λW=>mr (K2 W),A.gh]at hm;exact jI a w Q _ ⟨κ,F,eW⟩ hm.1 (hm.2.mono λy aR a' w' bc=>aK (n+1) _ _ a' w' hX (λp ao=>by cases ao) bc aR)
    ·exact hm.1.elim
  ·rename_i g aC;have GX:∀ k,o.guard=some k->g=true->kz s.ay ops (some k)=some (some true):=λk an aI=>by grind
   rw[Mi eW aC];simp only[Option.getD_some];split at hm
   ·rename_i cb c agG agH gv;split at hm
    ·rename_i hE e_ xT;obtain⟨agI,agJ⟩:=agt xT gv;rw[sA λW=>by
      simp only[Bool.and_eq_true]at W;exact λGY=>⟨(GW xR (λk an=>GX k an GY) W.1).run s.aa _ gv,(zH W.2.1).run s.aa _ gv,agy xR (λk an=>GX k an GY) xT gv W.2.2⟩]at hm
     have Df:ql ops ((s.gi hE).set o.dst (.hC g (use e_).2)) (xB ops tg o):=xR.hk (λi G=>by rw[aA.Dd G,aA.zK]) λd k aw an=>⟨g,(use e_).2,by rw[aw,aA.Mk],by grind⟩
     cases g with
     | true=>
      simp only[if_true];obtain⟨E,U,ag⟩:=hm.1 rfl;refine Oper.wpIn_mono (λa' w' bc=>aK (n+1) _ _ a' w' hX Df (cu.LS (av':=.hC true (use e_).2) (agI a' w' bc) bh λκ F v ae=>⟨λ_=>o' ae ag,λh=>(by cases h)⟩) hm.2) (xo aV cC xS gv a w κ F Q eW E U)
     | false=>
      simp only[Bool.false_eq_true,if_false];refine⟨λ_ _=>trivial,aK (n+1) _ _ _ w hX Df ?_ hm.2⟩;obtain⟨κ',F',agK⟩:=agJ a w κ F eW;exact⟨κ',F',agK.set (av:=.hC false (use e_).2) bh ⟨λh=>(by cases h),λ_=>rfl⟩⟩
    ·cases g with
     | true=>
      simp only[if_true]at hm ⊢;rw[A.kM,A.kM]at hm;exact Oper.wpIn_mono (λa' w' bc=>aK (n+1) _ _ a' w' hX (λp ao=>by cases ao) bc hm.2.2) (xo aV cC xS gv a w κ F Q eW hm.1 hm.2.1)
     | false=>
      simp only[Bool.false_eq_true,if_false]at hm ⊢;exact⟨λ_ _=>trivial,aK (n+1) _ _ _ w hX (λp ao=>by cases ao) ⟨κ,F,eW.set (av:=.hC false (S1 agH (use agG).2)) bh ⟨λh=>(by cases h),λ_=>rfl⟩⟩ hm⟩
   ·split at hm
    ·rename_i cd oH;obtain⟨jI,qa,mr⟩:=Mg aV cC cZ bh oH;split at hm
     ·rename_i gs oG;obtain⟨dz,dP⟩:=qa gs oG;rw[sA λW GY=>mr (TG xR (λk an=>GX k an GY) W),A.gh]at hm;have Df:∀ y,ql ops (gs g y) (xB ops tg o):=λy=>by
       obtain⟨v,ae⟩:=agz oH oG g y;exact xR.hk (λi G=>by rw[ae,aA.Dd G]) λd k aw an=>⟨g,v,by rw[ae,aw,aA.Mk],by grind⟩
      cases g with
      | true=>
       simp only[if_true];exact jI a w Q _ ⟨κ,F,eW⟩ (hm.1 rfl) (hm.2.mono λy aR a' w' bc=>aK (n+1) _ _ a' w' hX (Df y) (dz y a' w' bc) aR)
      | false=>
       simp only[Bool.false_eq_true,if_false];exact⟨λ_ _=>trivial,aK (n+1) _ _ _ w hX (Df cd.d) (dP a w ⟨κ,F,eW⟩) (by
        have h:=hm.2;simp only[cr,Bool.false_eq_true,if_false]at h;exact h.2 cd.d rfl)⟩
     ·cases g with
      | true=>
       simp only[if_true]at hm ⊢;rw[A.kM,A.gh]at hm;exact jI a w Q _ ⟨κ,F,eW⟩ hm.1 (hm.2.mono λy aR a' w' bc=>aK (n+1) _ _ a' w' hX (λp ao=>by cases ao) bc aR)
      | false=>
       simp only[Bool.false_eq_true,if_false]at hm ⊢;exact⟨λ_ _=>trivial,aK (n+1) _ _ _ w hX (λp ao=>by cases ao) ⟨κ,F,eW.set (av:=.hC false (use ((cd.st cd.d).ay (o.dst.getD 0))).2) bh ⟨λh=>(by cases h),λ_=>rfl⟩⟩ hm⟩
    ·exact hm.1.elim
end
end Go.Fer
namespace Go.Fer
open Go.RowKit
section
variable {C:b'} {T:Nat->ad} {bg:Nat->Option aL} {s:aA} {res:eC}
theorem agL{P:Program}:∀ (t:ad),t.kQ=true->∀ {F F':Nat->Prop} {w w':World} {cs:List Value} {x:t.ai},bJ P t F w cs x->bJ P t F' w' cs x:=by
 intro t;induction t with
 | bool=>intro _ F F' w w' cs x h;exact h
 | int k=>intro _ F F' w w' cs x h;exact h
 | str=>intro _ F F' w w' cs x h;exact h
 | cU=>intro hc;cases hc
 | st t aK=>intro hc F F' w w' cs x h;simp only[bJ]at h ⊢;exact aK hc h
 | az a b fy eK=>
  intro hc F F' w w' cs x h;simp only[ad.kQ,Bool.and_eq_true]at hc;simp only[bJ]at h ⊢;grind
 | slice e aK=>intro hc;cases hc
 | array n e aK=>intro hc;cases hc
 | bI e aK=>intro hc;cases hc
 | map k v wX wY=>intro hc;cases hc
 | fn a b fy eK=>intro hc;cases hc
 | ct a aK=>intro hc;cases hc
 | eu=>intro hc;cases hc
theorem TN{P:Program}{t:ad}(h:t.kQ=true){F F':Nat->Prop}{w w':World}{v:Value}{x:t.ai}(ae:ev P t F w v x):ev P t F' w' v x:=⟨ae.1,agL t h ae.2⟩
theorem GZ(a:Act){i j:Nat}(h:i≠j)(v u:Value):(a.put (some i) v).put (some j) u=(a.put (some j) u).put (some i) v:=by
 simp only[Act.put];rw[Array.setIfInBounds_comm _ _ h]
theorem G0{P:Program}{ty lo zz:TypeId}(G:P.underlying ty=some (.map lo zz)){r:Nat}{ms:Array MapEntry}{clk:Nat}{w:World}(hw:w.heap[r]?=some (.map ms clk)){key u:Value}{f:Option (Nat×Value)}
  (ed:(Instr.checkKey ms.isEmpty 10000 lo key).run P w=.ok () w) (aq:(Instr.findKey lo key ms.toList).run P w=.ok f w) (hu:(∃ i,f=some (i,u))\/(f=none/\(zeroValue zz).run P w=.ok u w)) :
  (Instr.lookup ty (.map (some r)) key false).run P w=.ok u w:=by
 have eV:(getObj r).run P w=.ok (.map ms clk) w:=by simp[getObj,Sem.run,hw]
 rcases hu with⟨i,rfl⟩ | ⟨rfl,bl⟩
 ·simp only[Instr.lookup,Sem.run_bind,dD G,Result.andThen_ok,Sem.run_pure,eV,ed,aq];rfl
 ·simp only[Instr.lookup,Sem.run_bind,dD G,Result.andThen_ok,Sem.run_pure,eV,ed,aq,bl];rfl
theorem agM(aV:dU C.P T){gH hI kf:Oper}{ty:TypeId}{m x y:Operand}(iL:gH.op=.lookup ty m x false)(lp:hI.op=.mapEntry ty m x)(h_:kf.op=.mapUpdate ty m x y){dM:aA}(q3:dM.aa=s.aa)
  (pr:a8 C.aN dM.ay m=a8 C.aN s.ay m) (FR:a8 C.aN dM.ay x=a8 C.aN s.ay x) (h:(bx C.aN T bg (a8 C.aN dM.ay) kf).run dM.aa=some res)
  {a:Act} {w:World} {κ:Nat->bD} {F:Nat->Prop} (M:bm C s a w κ F) (Mn:(use (a8 C.aN s.ay m)).1) (Mo:(use (a8 C.aN s.ay x)).1) :
  ∃ u n wE,∀ a':Act,a'.eval m=a.eval m->a'.eval x=a.eval x->
   (execOp a'.eval gH).run C.P w=.ok (.value u) w/\(execOp a'.eval gH).run C.P wE=.ok (.value u) wE/\(execOp a'.eval hI).run C.P w=.ok (.value (.tuple #[u,goInt n])) wE:=by
 simp only[bx,h_,qW,pr,FR,q3]at h;split at h
 ·rename_i k v aI;obtain⟨lo,zz,G,mW,hi⟩:=(aV.b7 aI (by simp)).mp;obtain⟨inf,mw,i1,i2,i3,i4,i5,i6⟩:=kt hi.ks;split at h
  ·rename_i xO;split at h
   ·rename_i b g tR;simp only[ar.e5,Option.bind_eq_some_iff,ar.run_bind,ar.e4,ar.bN]at h;obtain⟨⟨dK,oq⟩,ah,⟨mX,ot⟩,aR,h⟩:=h;split at h
    ·rename_i aC;obtain⟨aC,_⟩:=aC;split at h
     ·rename_i k' h3 es W;simp only[Option.map_eq_some_iff]at h;obtain⟨Sn,pc,rfl⟩:=h;obtain⟨e,rfl⟩:=kO pc;cases e;have hm:bC C.P s.aa κ F w (use (a8 C.aN s.ay m)).2 (a.eval m):=cP M m rfl Mn;rw[tR]at hm;have kU:=hm.2 aC.symm (by rw[W];rfl);have fk:k.kQ=true/\k.j7<=100:=by simpa [tF]using xO
      have tS:=Cf M ah (cP M x rfl Mo);have G1:∀ (F':Nat->Prop) w',ev C.P k F' w' (a.eval x) dK:=λF' w'=>TN fk.1 tS;have aT:=M.bE b;unfold cG at aT;rw[W]at aT;obtain⟨ms,clk,hw,tT⟩:=aT;have ed:∀ em w',(Instr.checkKey em 10000 lo (a.eval x)).run C.P w'=.ok () w':=λem w'=>(CB (em:=em) (F:=λ_=>True) k 10000 fk.1 (by omega)).1 mW (G1 _ w');have TO:=tT.es;have TF:∀ (j:Nat) (e:MapEntry) (p:k.ai×v.ai),ms.toList[j]?=some e->es[j]?=some p->∀ (F':Nat->Prop) w',ev C.P k F' w' e.key p.1:=λj e p E U F' w'=>TN fk.1 (TO.2 j e p E U).1;obtain⟨f,dz,dP⟩:=xj (F:=λ_=>True) (w:=w) (β:=v.ai) (xs:=es) (es:=ms.toList) xO mW (G1 _ w) TO.1 (λj e p E U=>TF j e p E U _ w);have eV:(getObj (κ b).aa).run C.P w=.ok (.map ms clk) w:=by simp[getObj,Sem.run,hw]
      obtain⟨ht,KN,FX,Sp⟩:=tT;have cc:(κ b).aa<w.heap.size:=(Array.getElem?_eq_some_iff.1 hw).1;have bl:∀ w',(zeroValue zz).run C.P w'=.ok mw w':=λw'=>qX i1 i4;have G2:∀ (a':Act) (w':World) (u:Value),a'.eval m=a.eval m->a'.eval x=a.eval x->(Instr.lookup ty (.map (some (κ b).aa)) (a.eval x) false).run C.P w'=.ok u w'->(execOp a'.eval gH).run C.P w'=.ok (.value u) w':=by
       intro a' w' u ax aO bc;simp only[execOp,iL,ax,aO,kU,Sem.run_bind,bc,Result.andThen_ok,Sem.run_pure]
      have agN:∀ q:k.ai,gL k dK q=true<->dK=q:=λq=>KJ k fk.1 dK q;rcases dP with⟨rfl,eO⟩ | ⟨j,e,p,g1,ey,g3,g4,rfl⟩
      ·let cp:World:={ w with heap:=w.heap.setIfInBounds (κ b).aa (.map (ms.push { key:=a.eval x,val:=mw,born:=clk }) (clk+1)) }
       have lU:cp.heap[(κ b).aa]?=some (.map (ms.push { key:=a.eval x,val:=mw,born:=clk }) (clk+1)):=by grind
       obtain⟨iD,b5,cw⟩:=xj (F:=λ_=>True) (w:=cp) (β:=v.ai) (xs:=es++[(dK,v.df)]) (es:=(ms.push { key:=a.eval x,val:=mw,born:=clk }).toList) xO mW (G1 _ cp) (by grind) (λj e p E U=>by
        grind)
       have rm:∃ i,iD=some (i,mw):=by
        rcases cw with⟨_,eg⟩ | ⟨j,e,p,eH,dM,eJ,oJ,rfl⟩
        ·have:=eg (dK,v.df) (by simp);grind
        ·by_cases aF:j<es.length
         ·grind
         grind
       refine⟨mw,clk,cp,λa' ax aO=>⟨G2 a' w mw ax aO (G0 G hw (ed _ w) dz (.inr ⟨rfl,bl w⟩)),G2 a' cp mw ax aO (G0 G lU (ed _ cp) b5 (.inl rm)),?_⟩⟩;simp only[execOp,lp,ax,aO,kU,Instr.mapEntry,Sem.run_bind,dD G,Result.andThen_ok,eV,ed,dz,bl,sj hw,Sem.run_pure];rfl
      ·have aF:j<es.length:=(List.getElem?_eq_some_iff.1 ey).1;have xk:j<ms.size:=by omega
       have KP:ms[j]=e:=by
        grind
       obtain⟨jq,cp,t1,t2,t3⟩:=KL C.P w e.key (a.eval x);have lU:cp.heap[(κ b).aa]?=some (.map ms clk):=by rcases t3 with rfl | rfl<;>exact hw
       have TB:(κ b).aa<cp.heap.size:=(Array.getElem?_eq_some_iff.1 lU).1;have nR:((ms[j]?).map (·.key)).getD (a.eval x)=e.key:=by
        grind
       have Mf:((ms[j]?).map (λx=>(x.born:Int))).getD 0=(ms[j].born:Int):=by grind
       rw[Nat.zero_add]at dz;have aep:dK=p.1:=(agN p.1).1 g3;let c8:World:={ cp with heap:=cp.heap.setIfInBounds (κ b).aa (.map (ms.modify j λe=>{ e with key:=jq }) clk) }
       have gX:c8.heap[(κ b).aa]?=some (.map (ms.modify j λe=>{ e with key:=jq }) clk):=by grind
       have vf:∀ (F':Nat->Prop) w',ev C.P k F' w' jq p.1:=λF' w'=>by
        grind
       have zw:∀ i,(ms.modify j λe=>{ e with key:=jq }).toList[i]?=if i=j then some { e with key:=jq } else ms.toList[i]?:=λi=>by
        grind
       obtain⟨iD,b5,cw⟩:=xj (F:=λ_=>True) (w:=c8) (β:=v.ai) (xs:=es) (es:=(ms.modify j λe=>{ e with key:=jq }).toList) xO mW (G1 _ c8) (by grind) (λi a7 p' E U=>by
        rw[zw]at E;grind)
       have rm:∃ i,iD=some (i,e.val):=by
        rcases cw with⟨_,eg⟩ | ⟨i,a7,p',eH,dM,eJ,oJ,rfl⟩
        ·have:=eg p (List.mem_of_getElem? ey);rw[g3]at this;cases this
        ·have zA:i=j:=by
          rcases Nat.lt_trichotomy i j with h | h | h
          ·have:=g4 i p' h dM;rw[eJ]at this;cases this
          ·exact h
          ·have:=oJ j p h ey;rw[g3]at this;cases this
         subst zA;rw[zw,if_pos rfl]at eH;cases eH;exact⟨_,rfl⟩
       refine⟨e.val,ms[j].born,c8,λa' ax aO=>⟨G2 a' w e.val ax aO (G0 G hw (ed _ w) dz (.inl ⟨_,rfl⟩)),G2 a' c8 e.val ax aO (G0 G gX (ed _ c8) b5 (.inl rm)),?_⟩⟩;simp only[execOp,lp,ax,aO,kU,Instr.mapEntry,Sem.run_bind,dD G,Result.andThen_ok,eV,ed,dz];rw[nR,t1];simp only[Result.andThen_ok,sj lU,Sem.run_pure,Mf];rfl
     grind
    grind
   ·cases h
  ·cases h
 ·cases h
end
end Go.Fer
namespace Go.Fer
open Go.RowKit
section
variable {C:b'} {T:Nat->ad} {bg:Nat->Option aL} {Ψ:Nat->Option e6} {s:aA} {o:Oper} {Q:Exit->Act->World->Prop} {ops:Array Oper}
theorem A.agO{ak:Type}{m:A ak}(h:m.CP){d x:ak}(ah:m.bL x):x=m.val d:=by
 unfold A.val;have he:∃ x,m.bL x:=⟨x,ah⟩
 rw[dif_pos he];exact h _ _ ah he.choose_spec
theorem TP(cC:jn C.P bg)(cZ:lY C.P C.aN Ψ):jn C.P (Gk bg Ψ):=by
 intro k c h;unfold Gk at h;split at h
 ·rename_i dw Mh;split at h
  ·rename_i aw;cases h;simp only[Bool.and_eq_true,Bool.not_eq_true']at aw;have h:=cZ k _ Mh;obtain⟨E,U⟩:h2 C.P k dw.ts dw.aW dw.sh/\(dw.dS=true->∀ x,(dw.sh x).CP):=h;exact⟨λ_=>E.y_ λx aE=>⟨aE,λy aR=>A.agO (U aw.1 x) aR⟩,λhe=>by rw[show nM dw.Gi.aW=nM dw.aW from rfl,aw.2]at he;cases he⟩
  grind
 ·rename_i c' hc;cases h;have h:nM c.aW=true/\Cy C.P k c:=cZ k _ hc;exact⟨λhe=>(by rw[h.1]at he;cases he),λ_=>h.2⟩
 ·cases h
 ·exact cC k c h
theorem TQ{β:Type}{m:A β}{O:β->Prop}:∀ (l:List Prop),A.cy (CX l m) O->(∀ p∈l,p)/\A.cy m O:=by
 intro l;induction l with
 | nil=>intro h;exact⟨λp ao=>(by cases ao),h⟩
 | cons p l aK=>
  intro h;simp only[CX]at h;rw[A.kM]at h;grind
theorem TR{dz dP:Bool}{cb c:Prop}(E:dz=true->cb)(U:dP=true->c)(h:∀ p∈CJ dz dP cb c,p):cb/\c:=by
 unfold CJ at h;constructor
 ·cases dz with
  | true=>grind
  | false=>simp_all
 ·cases dP with
  | true=>grind
  | false=>simp_all
theorem TS(aV:dU C.P T)(cC:jn C.P bg)(aw:lq o C.nt=true){r:eP}(h:vp C.aN T bg ops s o=some r)(hc:∀ p∈r.cs,p){a:Act}{w:World}(M:cu C s a w){K:Act->World->Prop}
  (iK:∀ a' w',cu C (r.h7 s) a' w'->K a' w') :
  if Region.wanted o (yielded ops a.tmps) then o.wpIn (dT C.r) 0 C.P a w K Q else (∀ f,o.about C.P w a.eval=some f->(dT C.r).fn f)/\K (a.put o.dst undef) w:=by
 have bh:∀ i,o.dst=some i->i<C.nt:=λi G=>by
  have:=aw;simp only[lq,Bool.and_eq_true]at this;grind
 obtain⟨κ,F,eW⟩:=M;unfold vp at h;split at h
 ·cases h
 ·rename_i g aC;rw[Mi eW aC];split at h
  ·cases h
  ·rename_i res gv;split at h
   ·cases h;simp only[Option.getD_none,if_true];obtain⟨E,U⟩:=TR (λW=>(SF W).run s.aa res gv) (λW=>(zH W).run s.aa res gv) hc;exact Oper.wpIn_mono iK (xo aV cC aw gv a w κ F Q eW E U)
   ·rename_i b;split at h
    ·rename_i xT;cases h;have hc:∀ p∈CJ (sn (a8 C.aN s.ay) o&&(m' (a8 C.aN s.ay) o&&!res.e_.zG)) true (b=true->res.cb/\(res.c/\(use res.e_).1)) True,p:=hc;obtain⟨E,_⟩:=TR (λW=>by
      simp only[Bool.and_eq_true,Bool.not_eq_true']at W;exact λ_=>⟨(SF W.1).run s.aa _ gv,(zH W.2.1).run s.aa _ gv,F5 W.2.2⟩) (λ_=>trivial) hc
     obtain⟨cb,c,e_,hE⟩:=res;simp only at xT;subst xT;cases b with
     | true=>
      simp only[Option.getD_some,if_true];obtain⟨E,U,ag⟩:=E rfl;refine Oper.wpIn_mono (λa' w' bc=>iK a' w' ?_) (xo aV cC aw gv a w κ F Q eW E U);exact cu.LS (av':=.hC true (use e_).2) bc bh λκ F v ae=>⟨λ_=>o' ae ag,λh=>(by cases h)⟩
     | false=>
      simp only[Option.getD_some,Bool.false_eq_true,if_false];exact⟨λ_ _=>trivial,iK _ _ ⟨κ,F,eW.set (av:=.hC false (use e_).2) bh ⟨λh=>(by cases h),λ_=>rfl⟩⟩⟩
    grind
theorem TT(cl:List (List Nat)):∀ n,zS cl n<=n/\∀ j,zS cl n<=j->j<n->∀ i,i<j->i∈cl.getD j []
 | 0=>⟨Nat.le_refl _,λj _ h=>by omega⟩
 | n+1=>by
  unfold zS;split
  ·rename_i h;obtain⟨E,U⟩:=TT cl n;refine⟨by omega,λj aF Mp i G=>?_⟩;by_cases e:j=n
   ·simp_all
   grind
  grind
theorem agP{n:Nat}(rn:CM ops.toList=true)(agQ:∀ j,n<=j->j<ops.size->∀ i,i<j->i∈(ij ops.toList).getD j []):∀ (k j ck:Nat) (listed:Array Bool) (a:Act) (w:World),n<=j->j+k=ops.size->listed.size=ops.size->
  (∀ i,listed.getD i false=decide (i<j))->k<=ck->wpOpsIn (dT C.r) 0 C.P ops Q (List.range' j k) a w->wpAnyIn (dT C.r) 0 C.P .any ops Q ck listed a w:=by
 intro k;induction k with
 | zero=>
  intro j ck listed a w agR agS cf aj aq h;have M:∀ i,i ∉ Region.ready .any ops listed:=λi G=>by
   rw[mem_ready]at G;grind
  have iM:Region.ready .any ops listed=[]:=List.eq_nil_iff_forall_not_mem.2 M;cases ck with
  | zero=>exact⟨iM,h⟩
  | succ ck=>exact⟨λ_=>h,λi G=>absurd G (M i)⟩
 | succ k aK=>
  intro j ck listed a w agR agS cf aj aq h;have aF:j<ops.size:=by omega
  cases ck with
  | zero=>omega
  | succ ck=>
   have qm:∀ q o,ops[q]?=some o->listed.getD q false=true->∀ i∈h8 o,listed.getD i false=true:=λq o af bt i G=>by
    rw[aj]at bt ⊢;have bt:q<j:=by grind
    have:=List.all_eq_true.1 rn q (by grind);grind
   have agT:∀ i,i∈Region.ready .any ops listed<->i=j:=λi=>by
    constructor
    ·intro G;rw[mem_ready]at G;obtain⟨aY,o,af,G3⟩:=G;have ih:i<ops.size:=(Array.getElem?_eq_some_iff.1 af).1;have Dg:listed.getD i false=false:=by
      grind
     rw[aj]at Dg;have F1:j<=i:=by grind
     by_cases e:i=j
     ·exact e
     ·exfalso;have sC:∀ k∈h8 o,listed.getD k false=true:=by
       intro k an;obtain⟨e,he,vA⟩:=List.mem_filterMap.1 an;grind
      have Dh:∀ k∈(ij ops.toList).getD i [],listed.getD k false=true\/k=i:=by
       intro k an;refine xu (p:=λj=>listed.getD j false=true\/j=i) ops.toList [] (λj i G=>by grind) (λj hS kd k an aF=>?_) i k an (.inr rfl);have lv:ops[j]?=some hS:=by grind
       rcases (by simp_all:listed.getD j false=true\/j=i) with aF | aF
       ·exact .inl (qm j hS lv aF k an)
       ·subst aF;rw[af]at lv;cases lv;exact .inl (sC k an)
      grind
    ·rintro rfl;rw[mem_ready];refine⟨?_,ops[i],by simp,λe he W=>?_⟩
     ·grind
     ·have ih:e.on∈h8 ops[i]:=List.mem_filterMap.2 ⟨e,by grind,by grind⟩;have:=List.all_eq_true.1 rn i (by grind);grind
   refine⟨λM=>?_,λi G=>?_⟩
   ·simp_all
   ·obtain rfl:=(agT i).1 G;have eV:ops[i]?=some ops[i]:=by simp
    rw[List.range'_succ]at h;simp only[wpOpsIn,eV]at h;have next:∀ a w,wpOpsIn (dT C.r) 0 C.P ops Q (List.range' (i+1) k) a w->wpAnyIn (dT C.r) 0 C.P .any ops Q ck (listed.setIfInBounds i true) a w:=λa w cW=>by
     refine aK (i+1) ck _ a w (by omega) (by omega) (by grind) (λq=>?_) (by omega) cW;by_cases e:q=i
     ·simp_all
     ·rw[getD_set_ne false (Ne.symm e),aj,decide_eq_decide];omega
    unfold wpOpIn;rw[eV];simp only;split
    ·rename_i hw;rw[if_pos hw]at h;exact Oper.wpIn_mono next h
    grind
theorem agU(aV:dU C.P T)(cC:jn C.P bg)(aw:∀ o∈ops.toList,lq o C.nt=true){l:List eP}{s':aA}(aE:xp C.aN T bg ops ops.toList s=some (l,s'))(cM:zJ ops.toList l=true)
  (hc:∀ r∈l,∀ p∈r.cs,p) (uf:∀ a' w',cu C s' a' w'->Q .normal a' w'):∀ (ck:Nat) (listed:Array Bool) (a:Act) (w:World),listed.size=ops.size->
   (∀ j o,ops[j]?=some o->listed.getD j false=true->∀ i∈h8 o,listed.getD i false=true)->((List.range ops.size).filter λj=>!listed.getD j false).length<=ck->
   cu C (jt l s λj=>listed.getD j false) a w->wpAnyIn (dT C.r) 0 C.P .any ops Q ck listed a w:=by
 obtain⟨hlen,sd,Di⟩:=SM _ _ aE;simp only[zJ,Bool.and_eq_true]at cM;obtain⟨rn,Mq⟩:=cM;have agV:∀ j o,ops[j]?=some o->∀ i∈h8 o,i<j:=by
  intro j o af i G;have aF:j<ops.toList.length:=by
   grind
  have:=List.all_eq_true.1 rn j (by grind);grind
 have agW:∀ i j x y,i<j->l[i]?=some x->l[j]?=some y->((ij ops.toList).getD j []).contains i=true\/x.apart y=true:=by
  intro i j x y zA G aF;have z':j<l.length:=(List.getElem?_eq_some_iff.1 aF).1;have:=List.all_eq_true.1 Mq j (by grind);grind
 have Dj:∀ listed:Array Bool,listed.size=ops.size->Region.ready .any ops listed=[]->∀ j,j<ops.size->listed.getD j false=true:=by
  intro listed cf M j;induction j using Nat.strongRecOn with
  | _ j aK=>
   intro aF;cases aj:listed.getD j false with
   | true=>rfl
   | false=>
    exfalso;have jN:j∈Region.ready .any ops listed:=by
     rw[mem_ready];refine⟨?_,ops[j],by simp,λe he W=>?_⟩
     ·grind
     ·have ih:e.on∈h8 ops[j]:=List.mem_filterMap.2 ⟨e,by grind,by grind⟩;grind
    grind
 have nZ:∀ (listed:Array Bool) (a:Act) (w:World),listed.size=ops.size->Region.ready .any ops listed=[]->cu C (jt l s λj=>listed.getD j false) a w->Q .normal a w:=by
  intro listed a w cf M ka;have fU:=Dj listed cf M;refine uf a w ?_;have:jt l s (λj=>listed.getD j false)=s':=by
   rw[sd];unfold jt;rw[List.filter_eq_self.2 λp ao=>?_,CN];obtain⟨_,U⟩:=zL ao;grind
  grind
 intro ck;induction ck with
 | zero=>
  intro listed a w cf _ Mr ka;have M:Region.ready .any ops listed=[]:=by
   cases M:Region.ready .any ops listed with
   | nil=>rfl
   | cons j ax7=>
    exfalso;have jN:j∈Region.ready .any ops listed:=by grind
    rw[mem_ready]at jN;obtain⟨aY,o,af,_⟩:=jN;have aF:=(Array.getElem?_eq_some_iff.1 af).1;have:j∈(List.range ops.size).filter λj=>!listed.getD j false:=by
     grind
    grind
  exact⟨M,nZ listed a w cf M ka⟩
 | succ ck aK=>
  intro listed a w cf qm Mr ka;refine⟨λM=>nZ listed a w cf M ka,λi G=>?_⟩;rw[mem_ready]at G;obtain⟨aY,o,af,G3⟩:=G;have ih:i<ops.size:=(Array.getElem?_eq_some_iff.1 af).1;have Dg:listed.getD i false=false:=by
   grind
  have jN:o∈ops.toList:=by
   grind
  have sC:∀ k∈h8 o,listed.getD k false=true:=by
   intro k an;obtain⟨e,he,vA⟩:=List.mem_filterMap.1 an;grind
  obtain⟨r,M,gz⟩:=Di i o (by grind);have agX:∀ j k,k∈(ij ops.toList).getD j []->listed.getD j false=true->listed.getD k false=true:=by
   refine xu (p:=λj=>listed.getD j false=true) ops.toList [] (λj i G=>by grind) λj hS kd k an aF=>?_;exact qm j hS (by grind) (by simpa using aF) k an
  have Dh:∀ k∈(ij ops.toList).getD i [],listed.getD k false=true\/k=i:=by
   intro k an;refine xu (p:=λj=>listed.getD j false=true\/j=i) ops.toList [] (λj i G=>by grind) (λj hS kd k an aF=>?_) i k an (.inr rfl);have lv:ops[j]?=some hS:=by grind
   rcases (by simpa using aF:listed.getD j false=true\/j=i) with aF | aF
   ·exact .inl (qm j hS lv aF k an)
   ·subst aF;rw[af]at lv;cases lv;exact .inl (sC k an)
  have gN:∀ j x,j<i->l[j]?=some x->listed.getD j false=false->x.apart r=true:=by
   grind
  have tZ:∀ j x,i<j->l[j]?=some x->listed.getD j false=true->r.apart x=true:=by
   grind
  obtain⟨aQ,aS,bP⟩:=SJ (s:=s) (f:=λj=>listed.getD j false) M Dg gN tZ;have Ms:=SN gz aQ aS;unfold wpOpIn;rw[af];refine TS aV cC (aw o jN) Ms (hc r (List.mem_of_getElem? M)) ka λa' w' bc=>?_;have eV:∀ j,(listed.setIfInBounds i true).getD j false=if j=i then true else listed.getD j false:=by
   intro j;by_cases e:j=i
   ·subst e;rw[if_pos rfl,Array.getD_eq_getD_getElem?,Array.getElem?_setIfInBounds_self_of_lt (by omega)];rfl
   ·rw[if_neg e,getD_set_ne false (Ne.symm e)]
  refine aK _ a' w' (by grind) (λj hS kd aF k an=>?_) ?_ ?_
  ·rw[eV]at aF ⊢;split
   ·rfl
   ·split at aF
    ·rename_i e;subst e;rw[af]at kd;cases kd;exact sC k an
    ·exact qm j hS kd aF k an
  ·have cc:((List.range ops.size).filter λj=>!(listed.setIfInBounds i true).getD j false).length<((List.range ops.size).filter λj=>!listed.getD j false).length:=by
    have ax:(List.range ops.size).filter (λj=>!(listed.setIfInBounds i true).getD j false)=((List.range ops.size).filter λj=>!listed.getD j false).filter λj=>decide (j≠i):=by
     rw[List.filter_filter];apply List.filter_congr;intro j _;rw[eV];simp
    rw[ax];have Mt:i∈(List.range ops.size).filter λj=>!listed.getD j false:=by
     grind
    exact List.length_filter_lt_length_iff_exists.2 ⟨i,Mt,by simp⟩
   omega
  ·have:jt l s (λj=>(listed.setIfInBounds i true).getD j false)=r.h7 (jt l s λj=>listed.getD j false):=by
    rw[<-bP];congr 1;funext j;grind
   grind
def G4(n:Nat)(l b e x:Bool)(listed:Array Bool):Prop:=∀ i,listed.getD i false=(decide (i<n)||(l&&decide (i=n))||(b&&decide (i=n+1))||(e&&decide (i=n+2))||(x&&decide (i=n+3)))
def my(a:Act)(eh fM d1 d2:Nat)(u vB vE vX:Value)(l b e x:Bool):Act:=
 let b9:=if l=true then a.put (some eh) u else a
 let a2:=if b=true then b9.put (some fM) vB else b9
 let a3:=if e=true then a2.put (some d1) vE else a2
 if x=true then a3.put (some d2) vX else a3
theorem agY(a:Act)(d:Option Nat)(v:Value):(a.put d v).tmps.size=a.tmps.size:=by cases d<;>simp[Act.put]
theorem agZ(a:Act)(eh fM d1 d2:Nat)(u vB vE vX:Value)(l b e x:Bool):(my a eh fM d1 d2 u vB vE vX l b e x).tmps.size=a.tmps.size:=by
 unfold my;cases l<;>cases b<;>cases e<;>cases x<;>simp[agY]
theorem TU{a:Act}{eh fM d1 d2:Nat}{u vB vE vX:Value}{l b e x:Bool}{y:Operand}(E:y≠.tmp eh)(U:y≠.tmp fM)(ag:y≠.tmp d1)(a6:y≠.tmp d2):(my a eh fM d1 d2 u vB vE vX l b e x).eval y=a.eval y:=by
 unfold my;cases l<;>cases b<;>cases e<;>cases x<;>simp[z8,E,U,ag,a6]
theorem Dk{o:Oper}{a:Act}{w w':World}{K:Act->World->Prop}{v:Value}(aw:∀ c,o.op≠.defer c)(h:(execOp a.eval o).run C.P w=.ok (.value v) w')(an:o.wpIn (dT C.r) 0 C.P a w K Q):K (a.put o.dst v) w':=by
 have:=an.2;rw[zi aw,h]at this;exact this
theorem ag0{n:Nat}(TV:ops.size=n+5)(rn:CM ops.toList=true){gH il hI iH lW:Oper}(xU:ops[n]?=some gH)(vC:ops[n+1]?=some il)(Aa:ops[n+2]?=some hI)(Dl:ops[n+3]?=some iH)(Dm:ops[n+4]?=some lW)
  (Dn:gH.guard=none) (Dp:il.guard=none) (G5:hI.guard=none) (G6:iH.guard=none) (G7:lW.guard=none) (Dq:∀ c,gH.op≠.defer c) (G8:∀ c,il.op≠.defer c) (G9:∀ c,hI.op≠.defer c) (G_:∀ c,iH.op≠.defer c)
  (gN:∀ q,q<5->∀ i,i<n->i∈(ij ops.toList).getD (n+q) []) (Mu:n∈(ij ops.toList).getD (n+1) []) (TW:n+2∈(ij ops.toList).getD (n+3) []) (Ab:∀ q,q<4->n+q∈(ij ops.toList).getD (n+4) [])
  (TX:∀ i∈h8 hI,i<n) (TY:∀ i∈h8 iH,i<n\/i=n+2)
  {eh fM d1 d2:Nat} (sD:gH.dst=some eh) (de:il.dst=some fM) (Dr:hI.dst=some d1) (G':iH.dst=some d2) (_n1:eh≠fM) (ef:eh≠d1) (jm:eh≠d2) (n4:fM≠d1) (Ds:fM≠d2)
  {a:Act} {w wE:World} {u vB vE vX:Value}
  (TZ:∀ b e x,(execOp (my a eh fM d1 d2 u vB vE vX false b e x).eval gH).run C.P (if e=true then wE else w)=.ok (.value u) (if e=true then wE else w))
  (T0:∀ e x,(execOp (my a eh fM d1 d2 u vB vE vX true false e x).eval il).run C.P (if e=true then wE else w)=.ok (.value vB) (if e=true then wE else w))
  (T1:∀ l b x,(execOp (my a eh fM d1 d2 u vB vE vX l b false x).eval hI).run C.P w=.ok (.value vE) wE)
  (T2:∀ l b,(execOp (my a eh fM d1 d2 u vB vE vX l b true false).eval iH).run C.P wE=.ok (.value vX) wE)
  (h:wpOpsIn (dT C.r) 0 C.P ops Q (List.range' n 5) a w):∀ (ck:Nat) (listed:Array Bool),listed.size=ops.size->(∀ i,listed.getD i false=decide (i<n))->5<=ck->wpAnyIn (dT C.r) 0 C.P .any ops Q ck listed a w:=by
 let aM:=my a eh fM d1 d2 u vB vE vX;let au:=λe:Bool=>if e=true then wE else w
 have wt:∀ {o:Oper},o.guard=none->∀ a':Act,Region.wanted o (yielded ops a'.tmps)=true:=λh a'=>by unfold Region.wanted;rw[h]
 have Ha:lW.wpIn (dT C.r) 0 C.P (aM true true true true) wE (λa' w'=>Q .normal a' w') Q:=by
  have dZ:List.range' n 5=[n,n+1,n+2,n+3,n+4]:=rfl;rw[dZ]at h;simp only[wpOpsIn,xU,vC,Aa,Dl,Dm,wt Dn,wt Dp,wt G5,wt G6,wt G7,if_true]at h;have E:=Dk (a:=aM false false false false) (w:=w) Dq (TZ false false false) h;rw[sD]at E;have U:=Dk (a:=aM true false false false) (w:=w) G8 (T0 false false) E;rw[de]at U;have ag:=Dk (a:=aM true true false false) (w:=w) G9 (T1 true true false) U;rw[Dr]at ag;have a6:=Dk (a:=aM true true true false) (w:=wE) G_ (T2 true true) ag;rw[G']at a6;exact a6
 have ag1:∀ {l b e x:Bool} {listed:Array Bool},G4 n l b e x listed->(b=true->l=true)->(x=true->e=true)->∀ q o,ops[q]?=some o->listed.getD q false=true->∀ i∈h8 o,listed.getD i false=true:=by
  intro l b e x listed bp W ah q o af bt i G;have ag2:q<ops.size:=(Array.getElem?_eq_some_iff.1 af).1;have ax8:i<q:=by
   have:=List.all_eq_true.1 rn q (by grind);grind
  rw[bp]at bt ⊢;grind
 have ax9:∀ {listed:Array Bool} {i:Nat},listed.size=ops.size->i<ops.size->(listed[i]?.getD true=false<->listed.getD i false=false):=by
  intro listed i cf G;rw[Array.getD_eq_getD_getElem?,Array.getElem?_eq_getElem (by omega)];rfl
 have ag3:∀ {l b e x:Bool} {listed:Array Bool},G4 n l b e x listed->(b=true->l=true)->(x=true->e=true)->listed.size=ops.size->∀ i∈Region.ready .any ops listed,(i=n/\l=false)\/(i=n+1/\l=true/\b=false)\/(i=n+2/\e=false)\/(i=n+3/\e=true/\x=false)\/(i=n+4/\l=true/\b=true/\e=true/\x=true):=by
  intro l b e x listed bp W ah cf i G;have qm:=ag1 bp W ah;rw[mem_ready]at G;obtain⟨aY,o,af,G3⟩:=G;have ih:i<ops.size:=(Array.getElem?_eq_some_iff.1 af).1;have aY:listed.getD i false=false:=by
   grind
  have sC:∀ k∈h8 o,listed.getD k false=true:=by
   intro k an;obtain⟨e,he,vA⟩:=List.mem_filterMap.1 an;split at vA
   ·rename_i W;cases vA;grind
   grind
  have Dh:∀ k∈(ij ops.toList).getD i [],listed.getD k false=true\/k=i:=by
   intro k an;refine xu (p:=λj=>listed.getD j false=true\/j=i) ops.toList [] (λj i G=>by simp at G) (λj hS kd k an aF=>?_) i k an (.inr rfl);have lv:ops[j]?=some hS:=by grind
   rcases (by simpa using aF:listed.getD j false=true\/j=i) with aF | aF
   ·exact .inl (qm j hS lv aF k an)
   ·subst aF;rw[af]at lv;cases lv;exact .inl (sC k an)
  rw[bp]at aY;simp only[Bool.or_eq_false_iff,Bool.and_eq_false_iff,decide_eq_false_iff_not]at aY;obtain⟨⟨⟨⟨hl,aQ⟩,aS⟩,bP⟩,gy⟩:=aY;have F1:n<=i:=by omega
  have ag4:i=n\/i=n+1\/i=n+2\/i=n+3\/i=n+4:=by omega
  have flag:∀ q,q<4->n+q∈(ij ops.toList).getD i []->n+q≠i->(if q=0 then l else if q=1 then b else if q=2 then e else x)=true:=by
   intro q bt hm eO;rcases Dh _ hm with h | h
   ·rw[bp]at h;simp only[Bool.or_eq_true,Bool.and_eq_true,decide_eq_true_eq]at h;rcases h with (((h | ⟨E,h⟩) | ⟨E,h⟩) | ⟨E,h⟩) | ⟨E,h⟩
    ·omega
    ·grind
    ·have:q=1:=by omega
     subst this;exact E
    ·have:q=2:=by omega
     subst this;exact E
    ·have:q=3:=by omega
     subst this;exact E
   omega
  rcases ag4 with rfl | rfl | rfl | rfl | rfl
  ·grind
  ·exact .inr (.inl ⟨rfl,flag 0 (by omega) Mu (by omega),by grind⟩)
  ·grind
  ·grind
  ·exact .inr (.inr (.inr (.inr ⟨rfl,flag 0 (by omega) (Ab 0 (by omega)) (by omega),flag 1 (by omega) (Ab 1 (by omega)) (by omega),flag 2 (by omega) (Ab 2 (by omega)) (by omega),flag 3 (by omega) (Ab 3 (by omega)) (by omega)⟩)))
 have ag5:∀ {l b e x:Bool} {listed:Array Bool},G4 n l b e x listed->(b=true->l=true)->(x=true->e=true)->listed.size=ops.size->Region.ready .any ops listed≠[]:=by
  intro l b e x listed bp W ah cf vl;have mk:∀ i o,ops[i]?=some o->listed.getD i false=false->(∀ k∈h8 o,listed.getD k false=true)->False:=by
   intro i o af aY aw;have ih:i<ops.size:=(Array.getElem?_eq_some_iff.1 af).1;have:i∈Region.ready .any ops listed:=by
    rw[mem_ready];refine⟨?_,o,af,λe he W=>aw e.on (List.mem_filterMap.2 ⟨e,by grind,by grind⟩)⟩;grind
   grind
  have lt:∀ q o,ops[q]?=some o->∀ i∈h8 o,i<q:=by
   intro q o af i G;have ag2:q<ops.size:=(Array.getElem?_eq_some_iff.1 af).1;have:=List.all_eq_true.1 rn q (by grind);rw[show ops.toList[q]?=some o by grind]at this;have:=List.all_eq_true.1 this i G;grind
  cases l with
  | false=>
   have pe:b=false:=by grind
   subst pe;exact mk n gH xU (by rw[bp];simp) λk an=>by rw[bp];grind
  | true=>
   cases b with
   | false=>exact mk (n+1) il vC (by rw[bp];simp) λk an=>by rw[bp];grind
   | true=>
    cases e with
    | false=>
     have Mv:x=false:=by grind
     subst Mv;exact mk (n+2) hI Aa (by rw[bp];simp) λk an=>by rw[bp];grind
    | true=>
     cases x with
     | false=>exact mk (n+3) iH Dl (by rw[bp];simp) λk an=>by rw[bp];grind
     | true=>exact mk (n+4) lW Dm (by rw[bp];simp) λk an=>by rw[bp];grind
 have Dt:∀ {listed:Array Bool} (i:Nat),listed.size=ops.size->i<ops.size->∀ q,(listed.setIfInBounds i true).getD q false=(listed.getD q false||decide (q=i)):=by
  intro listed i cf G q;by_cases e:q=i
  ·grind
  grind
 let ch:=λ(l b e x:Bool)=>∀ (ck:Nat) (listed:Array Bool),G4 n l b e x listed->listed.size=ops.size->5<=ck+(l.toNat+b.toNat+e.toNat+x.toNat)->wpAnyIn (dT C.r) 0 C.P .any ops Q ck listed (aM l b e x) (au e);have step:∀ l b e x,(b=true->l=true)->(x=true->e=true)->(l=false->ch true b e x)->(l=true->b=false->ch l true e x)->(e=false->ch l b true x)->(e=true->x=false->ch l b e true)->ch l b e x:=by
  intro l b e x W ah eH dM eJ oJ ck listed bp cf sB;have ax_:l.toNat<=1/\b.toNat<=1/\e.toNat<=1/\x.toNat<=1:=⟨Bool.toNat_le l,Bool.toNat_le b,Bool.toNat_le e,Bool.toNat_le x⟩
  cases ck with
  | zero=>omega
  | succ ck=>
   refine⟨λM=>absurd M (ag5 bp W ah cf),λi G=>?_⟩;rcases ag3 bp W ah cf i G with⟨rfl,E⟩ | ⟨rfl,E,U⟩ | ⟨rfl,E⟩ | ⟨rfl,E,U⟩ | ⟨rfl,E,U,ag,a6⟩
   ·subst E;have pe:b=false:=by grind
    subst pe;unfold wpOpIn;simp only[xU,wt Dn,if_true];refine hv Dq (TZ false e x) ?_;rw[sD];have zg:(aM false false e x).put (some eh) u=aM true false e x:=by
     simp only[aM,my];cases e<;>cases x<;>simp[GZ _ ef.symm,GZ _ jm.symm]
    show wpAnyIn _ _ _ _ _ _ _ _ ((aM false false e x).put (some eh) u) (au e);rw[zg];refine eH rfl ck _ (λq=>?_) (by grind) (by grind);rw[Dt i cf (by omega),bp];by_cases bt:q=i<;>simp[bt]
   ·subst E;subst U;unfold wpOpIn;simp only[vC,wt Dp,if_true];refine hv G8 (T0 e x) ?_;rw[de];have zg:(aM true false e x).put (some fM) vB=aM true true e x:=by
     simp only[aM,my];cases e<;>cases x<;>simp[GZ _ n4.symm,GZ _ Ds.symm]
    show wpAnyIn _ _ _ _ _ _ _ _ ((aM true false e x).put (some fM) vB) (au e);rw[zg];refine dM rfl rfl ck _ (λq=>?_) (by grind) (by grind);rw[Dt (n+1) cf (by omega),bp];by_cases bt:q=n+1<;>simp[bt]
   ·subst E;have Mv:x=false:=by grind
    subst Mv;unfold wpOpIn;simp only[Aa,wt G5,if_true];refine hv G9 (T1 l b false) ?_;rw[Dr];show wpAnyIn _ _ _ _ _ _ _ _ (aM l b true false) (au true);refine eJ rfl ck _ (λq=>?_) (by grind) (by grind);rw[Dt (n+2) cf (by omega),bp];simp
   ·subst E;subst U;unfold wpOpIn;simp only[Dl,wt G6,if_true];refine hv G_ (T2 l b) ?_;rw[G'];show wpAnyIn _ _ _ _ _ _ _ _ (aM l b true true) (au true);refine oJ rfl rfl ck _ (λq=>?_) (by grind) (by grind);rw[Dt (n+3) cf (by omega),bp];simp
   ·subst E;subst U;subst ag;subst a6;unfold wpOpIn;simp only[Dm,wt G7,if_true];refine Oper.wpIn_mono (λa' w' bt=>?_) Ha;have fU:∀ i,(listed.setIfInBounds (n+4) true).getD i false=decide (i<n+5):=λi=>by
     rw[Dt (n+4) cf (by omega),bp,Bool.eq_iff_iff];simp only[Bool.or_eq_true,Bool.and_eq_true,decide_eq_true_eq,true_and];omega
    have M:∀ i,i ∉ Region.ready .any ops (listed.setIfInBounds (n+4) true):=λi G=>by
     rw[mem_ready]at G;obtain⟨aY,o,af,_⟩:=G;grind
    have iM:Region.ready .any ops (listed.setIfInBounds (n+4) true)=[]:=List.eq_nil_iff_forall_not_mem.2 M;cases ck with
    | zero=>exact⟨iM,bt⟩
    | succ ck=>exact⟨λ_=>bt,λi G=>absurd G (M i)⟩
 have f:∀ {p:Prop},(true:Bool)=false->p:=λh=>by cases h
 have iD:∀ {p:Prop},(false:Bool)=true->p:=λh=>by cases h
 have T3:ch true true true true:=step _ _ _ _ (λ_=>rfl) (λ_=>rfl) f (λ_=>f) f (λ_=>f);have T4:ch true true true false:=step _ _ _ _ (λ_=>rfl) (λ_=>rfl) f (λ_=>f) f (λ_ _=>T3);have ag6:ch true true false false:=step _ _ _ _ (λ_=>rfl) iD f (λ_=>f) (λ_=>T4) iD;have T5:ch true false true true:=step _ _ _ _ (λ_=>rfl) (λ_=>rfl) f (λ_ _=>T3) f (λ_=>f);have T6:ch true false true false:=step _ _ _ _ (λ_=>rfl) (λ_=>rfl) f (λ_ _=>T4) f (λ_ _=>T5);have ag7:ch true false false false:=step _ _ _ _ (λ_=>rfl) iD f (λ_ _=>ag6) (λ_=>T6) iD;have ag8:ch false false true true:=step _ _ _ _ iD (λ_=>rfl) (λ_=>T5) iD f (λ_=>f);have ag9:ch false false true false:=step _ _ _ _ iD (λ_=>rfl) (λ_=>T6) iD f (λ_ _=>ag8);have ag_:ch false false false false:=step _ _ _ _ iD iD (λ_=>ag7) iD (λ_=>ag9) iD;intro ck listed cf aj sB;exact ag_ ck listed (λi=>by grind) cf (by omega)
theorem ag'{n:Nat}(aB:n<=ops.size)(aV:dU C.P T)(cC:jn C.P bg)(aw:∀ o∈ops.toList,lq o C.nt=true){l:List eP}{s':aA}(aE:xp C.aN T bg ops (ops.toList.take n) s=some (l,s'))(cM:zJ (ops.toList.take n) l=true)(agQ:∀ j,n<=j->j<ops.size->∀ i,i<n->i∈(ij ops.toList).getD j [])
  (hc:∀ r∈l,∀ p∈r.cs,p) (uf:∀ (ck:Nat) (listed:Array Bool) a' w',listed.size=ops.size->(∀ i,listed.getD i false=decide (i<n))->ops.size - n<=ck->cu C s' a' w'->wpAnyIn (dT C.r) 0 C.P .any ops Q ck listed a' w'):∀ (ck:Nat) (listed:Array Bool) (a:Act) (w:World),listed.size=ops.size->
   (∀ j o,ops[j]?=some o->listed.getD j false=true->∀ i∈h8 o,listed.getD i false=true)->(∀ i,n<=i->listed.getD i false=false)->((List.range ops.size).filter λj=>!listed.getD j false).length<=ck->
   cu C (jt l s λj=>listed.getD j false) a w->wpAnyIn (dT C.r) 0 C.P .any ops Q ck listed a w:=by
 obtain⟨hlen,sd,Di⟩:=SM _ _ aE;have GV:(ops.toList.take n).length=n:=by grind
 have iL:∀ i,i<n->(ops.toList.take n)[i]?=ops[i]?:=λi G=>by
  grind
 simp only[zJ,Bool.and_eq_true]at cM;obtain⟨rn,Mq⟩:=cM;have agV:∀ j o,j<n->ops[j]?=some o->∀ i∈h8 o,i<j:=by
  intro j o Mp af i G;have:=List.all_eq_true.1 rn j (by grind);grind
 have agW:∀ i j x y,i<j->l[i]?=some x->l[j]?=some y->((ij (ops.toList.take n)).getD j []).contains i=true\/x.apart y=true:=by
  intro i j x y zA G aF;have z':j<l.length:=(List.getElem?_eq_some_iff.1 aF).1;have:=List.all_eq_true.1 Mq j (by grind);grind
 intro ck;induction ck with
 | zero=>
  intro listed a w cf _ pf Mr ka;have fU:∀ i,listed.getD i false=decide (i<n):=λi=>by
   by_cases G:i<n
   ·cases aj:listed.getD i false with
    | true=>grind
    | false=>
     exfalso;have:i∈(List.range ops.size).filter λj=>!listed.getD j false:=by
      grind
     grind
   grind
  refine uf 0 listed a w cf fU ?_ ?_
  ·by_cases cc:n<ops.size
   ·have:n∈(List.range ops.size).filter λj=>!listed.getD j false:=by
     grind
    grind
   ·omega
  ·have:jt l s (λj=>listed.getD j false)=s':=by
    rw[sd];unfold jt;rw[List.filter_eq_self.2 λp ao=>?_,CN];obtain⟨_,U⟩:=zL ao;grind
   grind
 | succ ck aK=>
  intro listed a w cf qm pf Mr ka;by_cases Dj:∀ i,i<n->listed.getD i false=true
  ·have fU:∀ i,listed.getD i false=decide (i<n):=λi=>by
    grind
   refine uf (ck+1) listed a w cf fU ?_ ?_
   ·have E:(List.range' n (ops.size - n)).length<=((List.range ops.size).filter λj=>!listed.getD j false).length:=by
     have e:(List.range ops.size).filter (λj=>!listed.getD j false)=List.range' n (ops.size - n):=by
      have U:(List.range ops.size).filter (λj=>!listed.getD j false)=(List.range ops.size).filter λj=>decide (n<=j):=List.filter_congr λj _=>by
       grind
      rw[U];have ag:List.range ops.size=List.range n++List.range' n (ops.size - n):=by
       rw[List.range_eq_range',List.range_eq_range'];have:=(List.range'_append (s:=0) (m:=n) (n:=ops.size - n) (step:=1))
       grind
      rw[ag,List.filter_append,List.filter_eq_nil_iff.2 λj aF=>by grind,List.filter_eq_self.2 λj aF=>by grind];rfl
     grind
    grind
   ·have:jt l s (λj=>listed.getD j false)=s':=by
     rw[sd];unfold jt;rw[List.filter_eq_self.2 λp ao=>?_,CN];obtain⟨_,U⟩:=zL ao;grind
    grind
  ·refine⟨λM=>absurd ?_ Dj,λi G=>?_⟩
   ·intro j;induction j using Nat.strongRecOn with
    | _ j ax'=>
     intro aF;cases aj:listed.getD j false with
     | true=>rfl
     | false=>
      exfalso;have jN:j∈Region.ready .any ops listed:=by
       rw[mem_ready];refine⟨?_,ops[j],by simp,λe he W=>?_⟩
       ·grind
       ·have ih:e.on∈h8 ops[j]:=List.mem_filterMap.2 ⟨e,by grind,by grind⟩;grind
      grind
   ·rw[mem_ready]at G;obtain⟨aY,o,af,G3⟩:=G;have ih:i<ops.size:=(Array.getElem?_eq_some_iff.1 af).1;have Dg:listed.getD i false=false:=by
     grind
    have jN:o∈ops.toList:=by
     grind
    have sC:∀ k∈h8 o,listed.getD k false=true:=by
     intro k an;obtain⟨e,he,vA⟩:=List.mem_filterMap.1 an;split at vA
     ·rename_i W;cases vA;exact G3 e (by simpa using he) W
     ·cases vA
    have G:i<n:=by
     by_cases G:i<n
     ·exact G
     ·exfalso;have Dh:∀ k∈(ij ops.toList).getD i [],listed.getD k false=true\/k=i:=by
       intro k an;refine xu (p:=λj=>listed.getD j false=true\/j=i) ops.toList [] (λj i G=>by simp at G) (λj hS kd k an aF=>?_) i k an (.inr rfl);have lv:ops[j]?=some hS:=by grind
       rcases (by simpa using aF:listed.getD j false=true\/j=i) with aF | aF
       ·exact .inl (qm j hS lv aF k an)
       ·subst aF;rw[af]at lv;cases lv;exact .inl (sC k an)
      grind
    obtain⟨r,M,gz⟩:=Di i o (by grind);have agX:∀ j k,k∈(ij (ops.toList.take n)).getD j []->listed.getD j false=true->listed.getD k false=true:=by
     refine xu (p:=λj=>listed.getD j false=true) (ops.toList.take n) [] (λj i G=>by simp at G) λj hS kd k an aF=>?_;have Mp:j<n:=by grind
     exact qm j hS (by grind) (by simpa using aF) k an
    have Dh:∀ k∈(ij (ops.toList.take n)).getD i [],listed.getD k false=true\/k=i:=by
     intro k an;refine xu (p:=λj=>listed.getD j false=true\/j=i) (ops.toList.take n) [] (λj i G=>by simp at G) (λj hS kd k an aF=>?_) i k an (.inr rfl);have Mp:j<n:=by grind
     have lv:ops[j]?=some hS:=by grind
     rcases (by simpa using aF:listed.getD j false=true\/j=i) with aF | aF
     ·exact .inl (qm j hS lv aF k an)
     ·subst aF;rw[af]at lv;cases lv;exact .inl (sC k an)
    have gN:∀ j x,j<i->l[j]?=some x->listed.getD j false=false->x.apart r=true:=by
     grind
    have tZ:∀ j x,i<j->l[j]?=some x->listed.getD j false=true->r.apart x=true:=by
     grind
    obtain⟨aQ,aS,bP⟩:=SJ (s:=s) (f:=λj=>listed.getD j false) M Dg gN tZ;have Ms:=SN gz aQ aS;unfold wpOpIn;rw[af];refine TS aV cC (aw o jN) Ms (hc r (List.mem_of_getElem? M)) ka λa' w' bc=>?_;have eV:∀ j,(listed.setIfInBounds i true).getD j false=if j=i then true else listed.getD j false:=by
     intro j;by_cases e:j=i
     ·subst e;rw[if_pos rfl,Array.getD_eq_getD_getElem?,Array.getElem?_setIfInBounds_self_of_lt (by omega)];rfl
     ·rw[if_neg e,getD_set_ne false (Ne.symm e)]
    refine aK _ a' w' (by grind) (λj hS kd aF k an=>?_) (λq bt=>by rw[eV,if_neg (by omega)];grind) ?_ ?_
    ·rw[eV]at aF ⊢;split
     ·rfl
     ·split at aF
      ·rename_i e;subst e;rw[af]at kd;cases kd;exact sC k an
      ·exact qm j hS kd aF k an
    ·have cc:((List.range ops.size).filter λj=>!(listed.setIfInBounds i true).getD j false).length<((List.range ops.size).filter λj=>!listed.getD j false).length:=by
      have ax:(List.range ops.size).filter (λj=>!(listed.setIfInBounds i true).getD j false)=((List.range ops.size).filter λj=>!listed.getD j false).filter λj=>decide (j≠i):=by
       rw[List.filter_filter];apply List.filter_congr;intro j _;rw[eV];simp
      rw[ax];have Mt:i∈(List.range ops.size).filter λj=>!listed.getD j false:=by
       grind
      exact List.length_filter_lt_length_iff_exists.2 ⟨i,Mt,by simp⟩
     omega
    ·have:jt l s (λj=>(listed.setIfInBounds i true).getD j false)=r.h7 (jt l s λj=>listed.getD j false):=by
      rw[<-bP];congr 1;funext j;grind
     grind
theorem T7{β:Type}{b:Bool}{p:Prop}{m:A β}{O:β->Prop}(h:A.cy (sr b p m) O):A.cy m O:=by
 cases b with
 | true=>exact h
 | false=>exact (A.kM.1 h).2
theorem aha{gH il hI iH lW:Oper}(h:Lz gH il hI iH lW=true):∃ ty m x Hb Mw k c eh fM d1 d2 kf y,gH.op=.lookup ty m x false/\il.op=.binOp .add Hb (.tmp eh) (.const (.int k c)) Mw/\hI.op=.mapEntry ty m x/\iH.op=.extract (.tmp d1) 1/\
  kf.op=.mapUpdate ty m x y/\zQ hI iH lW=some (kf,d1,d2)/\gH.dst=some eh/\il.dst=some fM/\hI.dst=some d1/\iH.dst=some d2/\fV k c/\(eh≠fM/\eh≠d1/\eh≠d2/\fM≠d1/\fM≠d2/\d1≠d2)/\
  (m≠.tmp eh/\m≠.tmp fM/\m≠.tmp d1/\m≠.tmp d2)/\(x≠.tmp eh/\x≠.tmp fM/\x≠.tmp d1/\x≠.tmp d2)/\(∃ oI,m=.tmp oI)/\(∃ Mx,x=.tmp Mx)/\gH.guard=none/\il.guard=none/\hI.guard=none/\iH.guard=none/\lW.guard=none:=by
 unfold Lz at h;split at h
 ·rename_i ty m x Hb t k c Mw mR dy dK iL aT lp;split at h
  ·rename_i eh fM kf d1 d2 sD de sB;simp only[decide_eq_true_eq]at h;obtain⟨rfl,rfl,ih,ax,aO,ec,ef,jm,n4,Ds,T8,eH,dM,b9,a2,a3,a4,dO,e1,mM,r2,dz,dP⟩:=h;obtain⟨aya,ayb,ayc,ayd,f1,f2,f3,f4,f5,f6,f7,f8,f9,f10,f11,f12,g1,ey,g3⟩:=TI sB;obtain⟨oI,ue⟩:=Option.isSome_iff_exists.1 eH;obtain⟨Mx,T9⟩:=Option.isSome_iff_exists.1 dM;have em:=vz ue;have ex:=vz T9;have ahb:=vz (ax.trans ue);have ahc:=vz (aO.trans T9);rw[f1]at lp;simp only[Op.mapEntry.injEq]at lp;obtain⟨rfl,rfl,rfl⟩:=lp;subst em;subst ex;subst ahb;subst ahc;refine⟨_,_,_,_,_,_,_,_,_,_,_,kf,_,iL,aT,f1,f3,f7,sB,sD,de,f2,f4,ih,⟨ec,ef,jm,n4,Ds,T8⟩,?_,?_,⟨_,rfl⟩,⟨_,rfl⟩,Option.isNone_iff_eq_none.1 dz,Option.isNone_iff_eq_none.1 dP,g1,ey,g3⟩
   ·simp only[h9,ne_eq,Option.some.injEq]at b9 a2 a3 a4;exact⟨λe=>b9 (by cases e;rfl),λe=>a2 (by cases e;rfl),λe=>a3 (by cases e;rfl),λe=>a4 (by cases e;rfl)⟩
   ·simp only[h9,ne_eq,Option.some.injEq]at dO e1 mM r2;exact⟨λe=>dO (by cases e;rfl),λe=>e1 (by cases e;rfl),λe=>mM (by cases e;rfl),λe=>r2 (by cases e;rfl)⟩
  grind
 grind
theorem ahd{β:Type}{n:Nat}(sx:Gw ops.toList=true)(aB:n=ops.size - 5)(aV:dU C.P T)(cC:jn C.P bg)(cZ:lY C.P C.aN Ψ)(aw:∀ o∈ops.toList,lq o C.nt=true){k:aA->A β}{O:β->Prop}
  (an:∀ s' a' w',cu C s' a' w'->A.cy (k s') O->Q .normal a' w') (hm:A.cy (mv C.aN T bg Ψ ops (ops.toList.drop n) [] s k) O) :
  (n<=ops.size/\∀ j,n<=j->j<ops.size->∀ i,i<n->i∈(ij ops.toList).getD j [])/\∀ (a:Act) (w:World),cu C s a w->∀ (ck:Nat) (listed:Array Bool),listed.size=ops.size->(∀ i,listed.getD i false=decide (i<n))->ops.size - n<=ck->wpAnyIn (dT C.r) 0 C.P .any ops Q ck listed a w:=by
 unfold Gw at sx;rw[show ops.toList.length - 5=n by grind]at sx;split at sx
 ·rename_i gH il hI iH lW T_;simp only[Bool.and_eq_true,List.all_eq_true,List.mem_range,List.contains_eq_mem,decide_eq_true_eq,Bool.or_eq_true]at sx;obtain⟨ahe,⟨⟨⟨⟨⟨rn,gN⟩,Mu⟩,TW⟩,Ab⟩,TX⟩,TY⟩:=sx;have TV:ops.size=n+5:=by
   have:=congrArg List.length T_;grind
  have Du:∀ q (o:Oper),[gH,il,hI,iH,lW][q]?=some o->ops[n+q]?=some o:=λq o h=>by
   grind
  have xU:=Du 0 gH rfl;have vC:=Du 1 il rfl;have Aa:=Du 2 hI rfl;have Dl:=Du 3 iH rfl;have Dm:=Du 4 lW rfl;have mem:∀ {q o},ops[n+q]?=some o->o∈ops.toList:=λh=>by
   grind
  obtain⟨ty,m,x,Hb,Mw,fk,c,eh,fM,d1,d2,kf,y,iL,aT,lp,z6,h_,tJ,sD,de,Dr,G',ih,⟨ec,ef,jm,n4,Ds,T8⟩,⟨m1,m2,m3,m4⟩,⟨xc,xb,T',ahf⟩,⟨oI,em⟩,⟨Mx,ex⟩,Dn,Dp,G5,G6,G7⟩:=aha ahe;have Dq:∀ c,gH.op≠.defer c:=by grind
  have G8:∀ c,il.op≠.defer c:=by grind
  have G9:∀ c,hI.op≠.defer c:=by grind
  have G_:∀ c,iH.op≠.defer c:=by grind
  refine⟨⟨by omega,λj E U i G=>by have:=gN (j - n) (by omega) i G;simp_all⟩,λa w M ck listed cf aj sB=>?_⟩;have Ua:=Mm (Q:=Q) aV cC cZ aw an _ n [] s a w rfl (λp ao=>by cases ao) M hm;rw[show (ops.toList.drop n).length=5 by grind]at Ua;rw[T_]at hm;obtain⟨κ,F,eW⟩:=M;have gd:∀ {o:Oper},o.guard=none->∀ s:aA,kz s.ay ops o.guard=some none:=λh s=>by rw[h];rfl
  have Ub:∀ {o:Oper} {os},(∀ ty m x,o.op≠.mapEntry ty m x)->zR o os=none:=λ{o os} h=>by
   unfold zR;split
   ·unfold zQ;simp
   ·rfl
  have GV:zR gH [il,hI,iH,lW]=none:=Ub (by grind);unfold mv at hm;rw[GV]at hm;simp only[gd Dn]at hm;split at hm
  ·rename_i ug Hc;rw[sA λW=>(GW (s:=s) (λp ao=>by cases ao) (gk:=none) (λk an=>by cases an) W).run s.aa ug Hc,sA λW=>(zH W).run s.aa ug Hc]at hm;obtain⟨My,ahg,hm⟩:=hm;have ahh:=xo aV cC (aw gH (mem xU)) Hc;have xV:=Hc;simp only[bx,iL,ze]at xV;have ahi:(use (a8 C.aN s.ay m)).1/\(use (a8 C.aN s.ay x)).1/\ug.hE=[]/\∃ v u,ug.e_=.val v u:=by
    split at xV
    ·rename_i jq aye ayf;split at xV
     ·simp only[ar.e5,Option.bind_eq_some_iff,bO,ar.bN,Option.some.injEq]at xV;obtain⟨es,pc,⟨y,l⟩,aR,rfl⟩:=xV;exact⟨My.1,My.2,rfl,_,_,rfl⟩
     ·cases xV
    ·cases xV
   obtain⟨Mn,Mo,Uc,Ud,Ue,ahj⟩:=ahi;have ahk:zR il [hI,iH,lW]=none:=Ub (by grind);unfold mv at hm;rw[ahk]at hm;simp only[gd Dp]at hm;split at hm
   ·rename_i Mz ahl;have hm:=T7 (T7 hm);have vD:=ahl;have ax:(s.h6 gH.dst ug).ay eh=.val Ud Ue:=by rw[sD,aA.h6,aA.Mk,ahj]
    have lV:w8 (.int fk c)=.val (.int fk) c:=by simp[w8,ih]
    have ahm:∃ b9,Ud=.int fk/\Mz.hE=[]/\b9=Ue:=by
     simp only[bx,aT,a8,ax,lV,use,aH.mn,aH.tD]at vD;split at vD
     ·rename_i aQ b9 aS dO E U;split at E
      ·rename_i bP T' ag;cases U;cases ag;cases E;split at vD
       ·rename_i vf;simp only[za,bO,ar.bN,Option.some.injEq]at vD;grind
       ·cases vD
      grind
     ·rename_i pf;exfalso;split at vD
      ·grind
      ·simp only[ar.e5,Option.bind_eq_some_iff]at vD;obtain⟨⟨c',h3⟩,E,U⟩:=vD;simp only[zb,ar.e5,Option.bind_eq_some_iff,ar.bN]at E;grind
    obtain⟨lx,rfl,Uf,rfl⟩:=ahm;have iE:((s.h6 gH.dst ug).h6 il.dst Mz).aa=s.aa:=by
     simp only[aA.h6,Uc,Uf,aA.gi,sD,de,aA.set]
    have eG:∀ {t:Nat},t≠eh->t≠fM->((s.h6 gH.dst ug).h6 il.dst Mz).ay t=s.ay t:=λ{t} E U=>by
     simp only[aA.h6,Uc,Uf,aA.gi];rw[aA.Dd (by grind),aA.Dd (by grind)]
    unfold mv at hm;rw[show zR hI [iH,lW]=some (kf,d1,d2) from tJ]at hm;simp only at hm;split at hm
    ·rename_i ayg ahn;obtain⟨u,mz,wE,Ug⟩:=agM (s:=s) aV iL lp h_ iE (by rw[em];exact eG (λe=>m1 (by grind)) (λe=>m2 (by grind))) (by rw[ex];exact eG (λe=>xc (by grind)) (λe=>xb (by grind))) ahn eW Mn Mo;have aho:=(Ug a rfl rfl).1;have ahp:=Dk (K:=λa' w'=>cu C (s.h6 gH.dst ug) a' w') (Q:=Q) Dq aho (ahh a w κ F Q eW My ahg);have Uh:eh<a.tmps.size:=by
      have:=aw gH (mem xU);simp only[lq,Bool.and_eq_true]at this;have:=this.1;rw[sD]at this;have E:=eW.dH;grind
     have ayh:d1<a.tmps.size:=by
      have:=aw hI (mem Aa);simp only[lq,Bool.and_eq_true]at this;have:=this.1;rw[Dr]at this;have E:=eW.dH;grind
     have hu:u=.int fk lx:=by
      obtain⟨afI,z_,gO⟩:=ahp;have E:=gO.bU eh;rw[ax,sD]at E;have U:(a.put (some eh) u).tmps.getD eh Go.undef=u:=C' Uh;rw[U]at E;exact (gV.1 E).1
     subst hu;let vB:Value:=.int fk (fk.wrap (lx+c));have ahq:∀ (a':Act) (w':World),a'.eval (.tmp eh)=.int fk lx->(execOp a'.eval il).run C.P w'=.ok (.value vB) w':=λa' w' h=>by
      have U:a'.eval (.const (.int fk c))=.int fk c:=rfl;have ag:(Go.binOp .add Hb (.int fk lx) (.int fk c)).run C.P w'=.ok vB w':=by simp[Go.binOp,Op.intArith,vB]
      simp only[execOp,aT,h,U,Sem.run_bind,RI,Result.andThen_ok,ag,Sem.run_pure]
     have ahr:∀ (a':Act) (w':World),a'.eval (.tmp d1)=.tuple #[.int fk lx,goInt mz]->(execOp a'.eval iH).run C.P w'=.ok (.value (goInt mz)) w':=λa' w' h=>by
      simp[execOp,z6,h,Instr.extract]
     have Mc:∀ l b e dK,(my a eh fM d1 d2 (.int fk lx) vB (.tuple #[.int fk lx,goInt mz]) (goInt mz) l b e dK).eval m=a.eval m:=λl b e dK=>TU m1 m2 m3 m4;have ahs:∀ l b e dK,(my a eh fM d1 d2 (.int fk lx) vB (.tuple #[.int fk lx,goInt mz]) (goInt mz) l b e dK).eval x=a.eval x:=λl b e dK=>TU xc xb T' ahf;refine ag0 (wE:=wE) (u:=.int fk lx) (vB:=vB) (vE:=.tuple #[.int fk lx,goInt mz]) (vX:=goInt mz) TV rn xU vC Aa Dl Dm Dn Dp G5 G6 G7 Dq G8 G9 G_ gN Mu TW Ab TX TY sD de Dr G' ec ef jm n4 Ds ?_ ?_ ?_ ?_ Ua ck listed cf aj (by omega)
     ·intro b e dK;have:=Ug _ (Mc false b e dK) (ahs false b e dK);cases e
      ·exact this.1
      ·exact this.2.1
     ·intro e dK;refine ahq _ _ ?_;have E:(my a eh fM d1 d2 (.int fk lx) vB (.tuple #[.int fk lx,goInt mz]) (goInt mz) true false e dK).eval (.tmp eh)=(a.put (some eh) (.int fk lx)).eval (.tmp eh):=by
       have dz:Operand.tmp eh≠.tmp d1:=λh=>ef (by grind);have dP:Operand.tmp eh≠.tmp d2:=λh=>jm (by grind);unfold my;cases e<;>cases dK<;>simp[z8,dz,dP]
      rw[E];exact C' Uh
     ·grind
     ·intro l b;refine ahr _ _ ?_;have E:my a eh fM d1 d2 (.int fk lx) vB (.tuple #[.int fk lx,goInt mz]) (goInt mz) l b true false=(my a eh fM d1 d2 (.int fk lx) vB (.tuple #[.int fk lx,goInt mz]) (goInt mz) l b false false).put (some d1) (.tuple #[.int fk lx,goInt mz]):=rfl;rw[E];exact C' (by rw[agZ];omega)
    ·exact hm.1.elim
   ·rename_i ayi;exfalso;have:rb C.aN T bg Ψ (s.h6 gH.dst ug) il=none:=by
     have lV:w8 (.int fk c)=.val (.int fk) c:=by simp[w8,ih]
     simp only[rb,aT,CV,a8,lV];simp
    rw[this]at hm;exact hm.1
  ·exfalso;have:rb C.aN T bg Ψ s gH=none:=by simp only[rb,iL]
   rw[this]at hm;exact hm.1
 grind
theorem aht{β:Type}{L:List (aA->A β)}(iL:L≠[]){o:Oper}(aV:dU C.P T)(cC:jn C.P bg)(cZ:lY C.P C.aN Ψ)(xS:lq o C.nt=true){O:β->Prop}{s:aA}{a:Act}{w:World}(M:cu C s a w)
  (hm:∀ k∈L,A.cy (Gy C.aN T bg Ψ ops o s k) O) {K:Act->World->Prop} (iK:∀ s' a' w',cu C s' a' w'->(∀ k∈L,A.cy (k s') O)->K a' w'):o.guard=none/\o.wpIn (dT C.r) 0 C.P a w K Q:=by
 obtain⟨hl,mZ⟩:=List.exists_mem_of_ne_nil L iL;have bh:∀ i,o.dst=some i->i<C.nt:=λi G=>by
  have:=xS;simp only[lq,Bool.and_eq_true]at this;grind
 unfold Gy at hm;split at hm
 ·exact (hm hl mZ).1.elim
 ·rename_i aC;refine⟨aC,?_⟩;split at hm
  ·rename_i res gv;obtain⟨κ,F,eW⟩:=M;have hm:∀ k∈L,res.cb/\res.c/\A.cy (k (s.h6 o.dst res)) O:=λk an=>by
    have:=hm k an;rw[sA λW=>(GW (ops:=ops) (tg:=[]) (s:=s) (λp ao=>by cases ao) (gk:=none) (λk an=>by cases an) W).run s.aa res gv,sA λW=>(zH W).run s.aa res gv]at this;omega
   exact Oper.wpIn_mono (λa' w' bc=>iK _ a' w' bc λk an=>(hm k an).2.2) (xo aV cC xS gv a w κ F Q eW (hm hl mZ).1 (hm hl mZ).2.1)
  ·split at hm
   ·rename_i cd oH;obtain⟨jI,qa,mr⟩:=Mg aV cC cZ bh oH;have hm:∀ k∈L,cd.cb/\A.cy cd.m λy=>A.cy (k (cd.st y)) O:=λk an=>by
     have:=hm k an;rw[sA λW=>mr (K2 W),A.gh]at this;omega
    refine jI a w Q _ M (hm hl mZ).1 ⟨(hm hl mZ).2.1,λy aR a' w' bc=>iK _ a' w' bc λk an=>(hm k an).2.2 y aR⟩
   ·exact (hm hl mZ).1.elim
theorem ahu{ops:List Oper}{done:List Nat}{i:Nat}:i∈vu ops done<->i<ops.length/\i ∉ done/\∃ o,ops[i]?=some o/\∀ j∈h8 o,j∈done:=by
 unfold vu;grind
theorem Ui{ops:List Oper}:∀ (f:Nat) (done:List Nat),re ops f done≠[]
 | 0,done=>by simp[re]
 | f+1,done=>by
  unfold re;split
  ·simp
  ·rename_i l aj;cases hc:vu ops done with
   | nil=>grind
   | cons i b7=>
    rw[List.flatMap_cons];intro h;rw[List.append_eq_nil_iff,List.map_eq_nil_iff]at h;exact Ui f _ h.1
theorem Uj{listed:Array Bool}{done:List Nat}(cf:listed.size=ops.size)(aj:∀ i,listed.getD i false=done.contains i):Region.ready .any ops listed=vu ops.toList done:=by
 unfold Region.ready vu;rw[Array.length_toList];refine List.filter_congr λi G=>?_;have G:i<ops.size:=by grind
 have E:listed.getD i true=done.contains i:=by
  grind
 rw[E];congr 1;have af:ops.toList[i]?=some ops[i]:=by simp
 rw[af,Array.getElem?_eq_getElem G];show ops[i].after.all _=(h8 ops[i]).all _;rw[Bool.eq_iff_iff,Array.all_eq_true',List.all_eq_true];unfold h8;grind
theorem ahv{β:Type}(aV:dU C.P T)(cC:jn C.P bg)(cZ:lY C.P C.aN Ψ)(aw:∀ o∈ops.toList,lq o C.nt=true){k:aA->A β}{O:β->Prop}(an:∀ s' a' w',cu C s' a' w'->A.cy (k s') O->Q .normal a' w'):∀ (ck:Nat) (done:List Nat) (listed:Array Bool) (s:aA) (a:Act) (w:World),listed.size=ops.size->(∀ i,listed.getD i false=done.contains i)->Gx ops.toList ck done=true->
  cu C s a w->(∀ l∈re ops.toList ck done,A.cy (zT C.aN T bg Ψ ops l s k) O)->wpAnyIn (dT C.r) 0 C.P .any ops Q ck listed a w:=by
 intro ck;induction ck with
 | zero=>
  intro done listed s a w cf aj aC M hm;have oz:=Uj (ops:=ops) cf aj;refine⟨?_,an s a w M (hm [] (by simp[re]))⟩;rw[oz];exact List.isEmpty_iff.1 aC
 | succ ck aK=>
  intro done listed s a w cf aj aC M hm;have oz:=Uj (ops:=ops) cf aj;refine⟨λaY=>?_,λi G=>?_⟩
  ·rw[oz]at aY;refine an s a w M (hm [] ?_);unfold re;grind
  ·rw[oz]at G;obtain⟨qd,ih,o,af,_⟩:=ahu.1 G;have qd:i<ops.size:=by omega
   have kd:ops[i]?=some o:=by grind
   have ahw:o∈ops.toList:=List.mem_of_getElem? af;have jN:∀ l∈re ops.toList ck (i::done),A.cy (Gy C.aN T bg Ψ ops o s λs'=>zT C.aN T bg Ψ ops l s' k) O:=λl hle=>by
    have:=hm (i::l) (by
     unfold re;grind)
    unfold zT at this;grind
   obtain⟨g1,ey⟩:=aht (Q:=Q) (L:=(re ops.toList ck (i::done)).map λl=>λs'=>zT C.aN T bg Ψ ops l s' k) (by simpa using Ui ck (i::done)) aV cC cZ (aw o ahw) M
    (λk' ahx=>by obtain⟨l,hle,rfl⟩:=List.mem_map.1 ahx;exact jN l hle)
    (K:=wpAnyIn (dT C.r) 0 C.P .any ops Q ck (listed.setIfInBounds i true)) λs' a' w' bc Th=>by
     refine aK (i::done) _ s' a' w' (by grind) (λj=>?_) ?_ bc λl hle=>Th _ (List.mem_map.2 ⟨l,hle,rfl⟩)
     ·by_cases e:j=i
      ·simp_all
      ·rw[getD_set_ne false (Ne.symm e),aj j];simp[e]
     ·unfold Gx at aC;grind
   unfold wpOpIn;rw[kd];simp only;have hw:Region.wanted o (yielded ops a.tmps)=true:=by unfold Region.wanted;rw[g1]
   grind
theorem Uk{β:Type}(aV:dU C.P T)(cC:jn C.P bg)(cZ:lY C.P C.aN Ψ)(aw:∀ o∈ops.toList,lq o C.nt=true){k:aA->A β}{O:β->Prop}
  (an:∀ s' a' w',cu C s' a' w'->A.cy (k s') O->Q .normal a' w') {a:Act} {w:World} (M:cu C s a w) (hm:A.cy (zU C.aN T bg Ψ ops s k) O):wpAnyIn (dT C.r) 0 C.P .any ops Q ops.size (Array.replicate ops.size false) a w.drew:=by
 unfold zU at hm;split at hm
 ·rename_i l s' aE;split at hm
  ·rename_i cM;obtain⟨E,U⟩:=TQ _ hm;obtain⟨κ,F,eW⟩:=M;refine agU aV cC aw aE cM (λr M p ao=>E p (List.mem_flatMap.2 ⟨r,M,ao⟩)) (λa' w' bc=>an s' a' w' bc U) ops.size (Array.replicate ops.size false) a _ (by simp) (λj o _ aj=>?_) ?_ ⟨κ,F,?_⟩
   ·have:(Array.replicate ops.size false).getD j false=false:=by
     rw[Array.getD_eq_getD_getElem?,Array.getElem?_replicate];grind
    grind
   ·grind
   ·have:jt l s (λj=>(Array.replicate ops.size false).getD j false)=s:=by
     unfold jt;rw[List.filter_eq_nil_iff.2 λp _=>?_]
     ·rfl
     ·simp only[Array.getD_eq_getD_getElem?,Array.getElem?_replicate];grind
    rw[this];exact eW.drew
  ·exact hm.1.elim
 ·split at hm
  ·rename_i l s' aE;split at hm
   ·rename_i cM;rw[Bool.and_eq_true]at cM;obtain⟨E,U⟩:=TQ _ hm;obtain⟨κ,F,eW⟩:=M;have cont:(lX ops.toList<=ops.size/\∀ j,lX ops.toList<=j->j<ops.size->∀ i,i<lX ops.toList->i∈(ij ops.toList).getD j [])/\∀ (ck:Nat) (listed:Array Bool) a' w',listed.size=ops.size->(∀ i,listed.getD i false=decide (i<lX ops.toList))->ops.size - lX ops.toList<=ck->cu C s' a' w'->wpAnyIn (dT C.r) 0 C.P .any ops Q ck listed a' w':=by
     by_cases sx:Gw ops.toList=true
     ·have MA:lX ops.toList=ops.size - 5:=by unfold lX;grind
      obtain⟨ax,aO⟩:=ahd (Q:=Q) sx MA aV cC cZ aw an U;grind
     ·have MA:lX ops.toList=zS (ij ops.toList) ops.toList.length:=by unfold lX;grind
      obtain⟨qe,hX⟩:=TT (ij ops.toList) ops.toList.length;have qe:lX ops.toList<=ops.size:=by grind
      have hX:∀ j,lX ops.toList<=j->j<ops.size->∀ i,i<j->i∈(ij ops.toList).getD j []:=λj E U=>hX j (by omega) (by omega);refine⟨⟨qe,λj E U i G=>hX j E U i (by omega)⟩,λck listed a' w' cf fU sB bc=>?_⟩;refine agP cM.2 hX (ops.size - lX ops.toList) (lX ops.toList) ck listed a' w' (Nat.le_refl _) (by omega) cf fU sB ?_;have hlen:(ops.toList.drop (lX ops.toList)).length=ops.size - lX ops.toList:=by simp
      rw[<-hlen];exact Mm (Q:=Q) aV cC cZ aw an _ _ [] s' a' w' rfl (λp ao=>by cases ao) bc U
    obtain⟨⟨qe,hX⟩,ayj⟩:=cont;refine ag' qe aV cC aw aE cM.1 hX (λr M p ao=>E p (List.mem_flatMap.2 ⟨r,M,ao⟩)) (λck listed a' w' cf fU sB bc=>?_) ops.size (Array.replicate ops.size false) a _ (by simp) (λj o _ aj=>?_) (λi _=>?_) ?_ ⟨κ,F,?_⟩
    ·grind
    ·have:(Array.replicate ops.size false).getD j false=false:=by
      rw[Array.getD_eq_getD_getElem?,Array.getElem?_replicate];grind
     grind
    ·rw[Array.getD_eq_getD_getElem?,Array.getElem?_replicate];grind
    ·grind
    ·have:jt l s (λj=>(Array.replicate ops.size false).getD j false)=s:=by
      unfold jt;rw[List.filter_eq_nil_iff.2 λp _=>?_]
      ·rfl
      ·simp only[Array.getD_eq_getD_getElem?,Array.getElem?_replicate];grind
     rw[this];exact eW.drew
   ·exact hm.1.elim
  ·unfold S3 at hm;split at hm
   ·rename_i zq;obtain⟨κ,F,eW⟩:=M;refine ahv aV cC cZ aw an ops.size [] (Array.replicate ops.size false) s a _ (by simp) (λi=>?_) zq ⟨κ,F,eW.drew⟩ λl hle=>⟨hm.1 _ (List.mem_map.2 ⟨l,hle,rfl⟩),λy aR=>hm.2 y ⟨_,List.mem_map.2 ⟨l,hle,rfl⟩,aR⟩⟩
    rw[Array.getD_eq_getD_getElem?,Array.getElem?_replicate];grind
   ·exact hm.1.elim
theorem ahy{β:Type}{id:Nat}(eo:C.P.follows .mixedOrders=true)(aV:dU C.P T)(cC:jn C.P bg)(cZ:lY C.P C.aN Ψ)(aw:∀ o∈ops.toList,lq o C.nt=true){k:aA->A β}{O:β->Prop}
  (an:∀ s' a' w',cu C s' a' w'->A.cy (k s') O->Q .normal a' w') {a:Act} {w:World} (M:cu C s a w) (hm:A.cy (zU C.aN T bg Ψ ops s k) O):(Code.region id ops true).wpIn (dT C.r) 0 C.P Q a w:=
 wpIn_region_any eo (Uk aV cC cZ aw an M hm)
theorem Ac{ops:Array Oper}{j:Nat}{o:Oper}(h:ops[j]?=some o):(ls ops.toList).toArray[j]?=some (if j=0 then o else { o with after:=o.after.push ⟨0,.phase⟩ }):=by
 obtain⟨l⟩:=ops;cases l with
 | nil=>simp at h
 | cons x l=>
  cases j with
  | zero=>simpa [ls]using h
  | succ j=>
   simp only[List.getElem?_toArray,List.getElem?_cons_succ]at h;simp[ls,h]
theorem MB(ops:Array Oper):(ls ops.toList).toArray.size=ops.size:=by
 obtain⟨l⟩:=ops;cases l<;>simp[ls]
theorem ahz{ops:Array Oper}{j:Nat}{hR:Oper}(h:(ls ops.toList).toArray[j]?=some hR):∃ o,ops[j]?=some o/\hR=if j=0 then o else { o with after:=o.after.push ⟨0,.phase⟩ }:=by
 have aF:j<ops.size:=by rw[<-MB];exact (Array.getElem?_eq_some_iff.1 h).1
 have:=Ac (ops:=ops) (j:=j) (o:=ops[j]) (by simp[aF]);rw[h]at this;cases this;exact⟨ops[j],by simp[aF],rfl⟩
theorem ahA(ops:Array Oper):yielded (ls ops.toList).toArray=yielded ops:=by
 funext t j;unfold yielded;cases h:ops[j]? with
 | none=>
  have:(ls ops.toList).toArray[j]?=none:=by
   rw[Array.getElem?_eq_none_iff,MB];exact Array.getElem?_eq_none_iff.1 h
  rw[this]
 | some o=>
  rw[Ac h];by_cases aF:j=0
  ·rw[if_pos aF]
  ·rw[if_neg aF];rfl
theorem ahB{F:Fence}{P:Program}:∀ (ck:Nat) (listed:Array Bool) (a:Act) (w:World),listed.getD 0 false=true->wpAnyIn F 0 P .any (ls ops.toList).toArray Q ck listed a w->wpAnyIn F 0 P .any ops Q ck listed a w:=by
 have oz:∀ (listed:Array Bool),listed.getD 0 false=true->∀ i,i∈Region.ready .any ops listed->i∈Region.ready .any (ls ops.toList).toArray listed:=by
  intro listed aY i G;rw[mem_ready]at G ⊢;obtain⟨E,o,af,U⟩:=G;refine⟨E,_,Ac af,λe he W=>?_⟩;split at he
  ·exact U e he W
  ·rcases Array.mem_push.1 he with he | rfl
   ·exact U e he W
   ·exact aY
 have ahC:∀ (listed:Array Bool),Region.ready .any ops listed=[]->Region.ready .any (ls ops.toList).toArray listed=[]:=by
  intro listed h;rw[List.eq_nil_iff_forall_not_mem]at h ⊢;intro i G;refine h i ?_;rw[mem_ready]at G ⊢;obtain⟨E,hR,af,U⟩:=G;obtain⟨o,kd,rfl⟩:=ahz af;refine⟨E,o,kd,λe he W=>U e ?_ W⟩;split
  ·exact he
  ·exact Array.mem_push_of_mem _ he
 have ahD:∀ (listed:Array Bool),listed.getD 0 false=true->Region.ready .any (ls ops.toList).toArray listed=[]->Region.ready .any ops listed=[]:=by
  intro listed aY h;rw[List.eq_nil_iff_forall_not_mem]at h ⊢;exact λi G=>h i (oz listed aY i G)
 intro ck;induction ck with
 | zero=>
  intro listed a w aY h;exact⟨ahD listed aY h.1,h.2⟩
 | succ ck aK=>
  intro listed a w aY h;refine⟨λM=>h.1 (ahC listed M),λi G=>?_⟩;have an:=h.2 i (oz listed aY i G);have next:∀ a w,wpAnyIn F 0 P .any (ls ops.toList).toArray Q ck (listed.setIfInBounds i true) a w->wpAnyIn F 0 P .any ops Q ck (listed.setIfInBounds i true) a w:=λa w=>aK _ a w (getD_set_true aY)
  have an:=wpOpIn_mono next an
  unfold wpOpIn at an ⊢;rw[mem_ready]at G;obtain⟨_,o,af,_⟩:=G;rw[af];rw[Ac af,ahA]at an;by_cases oB:i=0
  ·rw[if_pos oB]at an;exact an
  ·rw[if_neg oB]at an;exact an
theorem ahE{β:Type}{id:Nat}(eo:C.P.follows .mixedOrders=true)(ahF:C.r=none)(aq:LA ops=true)(aV:dU C.P T)(cC:jn C.P bg)(cZ:lY C.P C.aN Ψ)(aw:∀ o∈ops.toList,lq o C.nt=true){k:aA->A β}{O:β->Prop}
  (an:∀ s' a' w',cu C s' a' w'->A.cy (k s') O->Q .normal a' w') {a:Act} {w:World} (M:cu C s a w) (hm:A.cy (zU C.aN T bg Ψ (ls ops.toList).toArray s k) O):(Code.region id ops true).wpIn (dT C.r) 0 C.P Q a w:=by
 refine wpIn_mono (Q:=λe a w=>e=.normal/\Q e a w) (wpIn_region_any eo ?_) λe a w h=>h.2;have ik:=Uk (Q:=λe a w=>e=.normal/\Q e a w) (ops:=(ls ops.toList).toArray) aV cC cZ (λo af=>?_) (λs' a' w' E U=>⟨rfl,an s' a' w' E U⟩) M hm
 ·rw[MB]at ik;have rp:(dT C.r).round=none:=by rw[ahF];rfl
  unfold LA at aq;split at aq
  ·cases aq
  ·rename_i o l aj;simp only[Bool.and_eq_true,List.all_eq_true,Bool.or_eq_true]at aq;obtain⟨E,U,ag,a6,bM⟩:=aq;have aY:ops[0]?=some o:=by rw[<-Array.getElem?_toList,aj];rfl
   obtain⟨m,hm⟩:∃ m,ops.size=m+1:=⟨l.length,by rw[<-Array.length_toList,aj];rfl⟩
   rw[hm]at ik ⊢;have aC:o.guard=none:=by simpa using U
   have iM:∀ (ops:Array Oper),ops[0]?=some o->0∈Region.ready .any ops (Array.replicate (m+1) false):=λops h=>by
    rw[mem_ready];refine⟨by simp,o,h,λe he=>?_⟩;rw[Array.isEmpty_iff.1 ag]at he;simp at he
   have kT:∃ x,o.op=.move x:=by
    revert E;cases o.op<;>simp
   obtain⟨x,ah⟩:=kT;have aR:YieldsFenced C.P ops o (a.eval x) a:=⟨.inl ⟨by unfold Region.wanted;rw[aC],λw=>by simp[execOp,ah]⟩,λw=>by unfold Oper.about;rw[ah]⟩
   have gz:=ik.2 0 (iM _ (by rw[Ac aY];rfl));unfold wpOpIn at gz;rw[Ac aY]at gz;simp only[if_true]at gz;rw[show Region.wanted o (yielded (ls ops.toList).toArray a.tmps)=true by unfold Region.wanted;rw[aC],if_pos rfl]at gz;have gz:wpAnyIn (dT C.r) 0 C.P .any (ls ops.toList).toArray (λe a w=>e=.normal/\Q e a w) m ((Array.replicate (m+1) false).setIfInBounds 0 true) (a.put o.dst (a.eval x)) w.drew:=by
    have:=gz.2;rw[rp,Oper.semAt_none]at this;simpa [execOp,ah,Oper.uponIn]using this
   refine wpAnyIn_first rp aY (Region.noSelect_spec a6) (λc a w h=>by cases h.1) m _ a _ (λj rl Ul ahG _ he=>?_) (iM _ aY) aR (ahB m _ _ _ (by simp) gz);have jN:rl∈l:=by
    rw[<-Array.getElem?_toList,aj]at Ul;cases j with
    | zero=>exact absurd rfl ahG
    | succ j=>exact List.mem_of_getElem? Ul
   rcases bM rl jN with h | h
   ·exfalso;have h:0∈h8 rl:=by simpa using h
    obtain⟨e,ahH,xm⟩:=List.mem_filterMap.1 h;split at xm
    ·rename_i W;exact he e (by simpa using ahH) W (by simpa using xm)
    ·cases xm
   ·exact h
 ·have af:o∈(ls ops.toList):=by simpa using af
  obtain⟨ol⟩:=ops;cases ol with
  | nil=>cases af
  | cons x l=>
   rcases List.mem_cons.1 af with rfl | af
   ·exact aw _ (by simp)
   ·obtain⟨p,ao,rfl⟩:=List.mem_map.1 af;have:=aw p (by simp[ao]);exact this
end
end Go.Fer
namespace Go.Fer
open Go.RowKit
theorem gI{β:Type}{O:β->Prop}(h:A.cy (A.fail:A β) O):False:=h.1
theorem uh{β:Type}{sh:dJ}{s:aA}{k:sh.ai->A β}{O:β->Prop}(h:A.cy (sh.nb s k) O):∃ D,sh.jb s=some D/\A.cy (k D) O:=by
 unfold dJ.nb at h;split at h
 ·grind
 ·exact (gI h).elim
def oK(B:Nat):Deferred:={ target:=.collected B,args:=#[] }
structure n0 where
 w:World
 K:Nat->Prop
 ms:List Nat
def b'.hk(C:b')(u:n0):b':={ C with w0:=u.w,K0:=u.K,dfr:=u.ms.map oK++C.dfr }
structure b'.jO(C:b')(u:n0):Prop where
 sE:∀ B∈u.ms,u.K B/\u.w.heap[B]?=some (.deferred (some []))
 eA:∀ B∈u.ms,¬C.K0 B/\C.w0.heap.size<=B
 mA:u.ms.Nodup
 hl:∀ r,C.K0 r->u.K r
 eG:∀ r,C.K0 r->u.w.heap[r]?=C.w0.heap[r]?
 size:C.w0.heap.size<=u.w.heap.size
 ew:dd C.w0 u.w
def b'.hF(C:b'):n0:=⟨C.w0,C.K0,[]⟩
theorem b'.vF(C:b'):C.jO C.hF:=⟨λ_ h=>by simp[b'.hF]at h,λ_ h=>by simp[b'.hF]at h,List.nodup_nil,λ_ h=>h,λ_ _=>rfl,Nat.le_refl _,dd.refl _⟩
def n0.then(u v:n0):n0:=⟨v.w,v.K,v.ms++u.ms⟩
theorem b'.Ad(C:b')(u v:n0):(C.hk u).hk v=C.hk (u.then v):=by
 simp[b'.hk,n0.then]
theorem b'.jO.then{C:b'}{u v:n0}(h:C.jO u)(k:(C.hk u).jO v):C.jO (u.then v) where
 sE:=λB aT=>by
  rcases List.mem_append.1 aT with aT | aT
  ·exact k.sE B aT
  ·obtain⟨E,U⟩:=h.sE B aT;exact⟨k.hl B E,(k.eG B E).trans U⟩
 eA:=λB aT=>by
  rcases List.mem_append.1 aT with aT | aT
  ·obtain⟨E,U⟩:=k.eA B aT;exact⟨λag=>E (h.hl B ag),Nat.le_trans h.size U⟩
  ·exact h.eA B aT
 mA:=List.nodup_append.2 ⟨k.mA,h.mA,λa bb b W e=>(k.eA a bb).1 (e ▸ (h.sE b W).1)⟩
 hl:=λr M=>k.hl r (h.hl r M)
 eG:=λr M=>(k.eG r (h.hl r M)).trans (h.eG r M)
 size:=Nat.le_trans h.size k.size
 ew:=h.ew.trans k.ew
theorem bm.Um{C:b'}{s:aA}{a:Act}{w:World}{κ:Nat->bD}{F F':Nat->Prop}(h:bm C s a w κ F){w0 w':World}{F0 K0:Nat->Prop}{nt:Nat}{dfr:List Deferred}{r:Option Nat}{sl:Nat->aH}{a':Act}
    (MC:a'.tmps.size=nt) (MD:a'.defers=dfr) (rq:nt<=eR) (fm:∀ i,bC C.P s.aa κ F w (sl i) (a'.tmps.getD i undef)) (pf:∀ l aM L n st,sl b6≠.aW l aM L n st)
    (heq:∀ r,F r\/(∃ b,(s.aa b).body.b1 (κ b)=true/\(κ b).aa=r)->w'.heap[r]?=w.heap[r]?) (cf:w.heap.size<=w'.heap.size)
    (bp:∀ r,F r->F' r) (jk:∀ r,F' r->r<w'.heap.size) (Dv:∀ b,(s.aa b).body.b1 (κ b)=true->¬F' (κ b).aa)
    (ME:∀ r,F' r->F0 r\/¬K0 r) (MF:∀ r,F0 r->F' r) (Dw:∀ r,K0 r->r<w0.heap.size) (ui:∀ r,K0 r->w'.heap[r]?=w0.heap[r]?) (gr:∀ b,(s.aa b).body.b1 (κ b)=true->¬K0 (κ b).aa)
    (nf:w0.heap.size<=w'.heap.size) (hc:dd w0 w') :
    bm { C with w0:=w0,F0:=F0,K0:=K0,nt:=nt,dfr:=dfr,r:=r } ⟨sl,s.aa⟩ a' w' κ F':=by
  have he:c6 F w w':=⟨cf,λr M=>heq r (.inl M)⟩
  exact {
          dH:=MC,dfr:=MD,bU:=λi=>bC.lb (fr.refl _ _) bp he (fm i)
          bE:=λb=>cG.lf (h.bE b) (fr.refl _ _) bp he rfl rfl λaf=>heq _ (.inr ⟨b,af,rfl⟩)
          al:=λb W=>⟨Nat.lt_of_lt_of_le (h.al b W).1 cf,Dv b W,gr b W⟩,inj:=h.inj,db:=jk
          hg:=ME,hQ:=MF,ht:=Dw,eG:=ui,size:=nf,ew:=hc,gq:=rq,kp:=h.kp,jD:=h.jD,j4:=h.j4,kq:=h.kq,eL:=λl aM L n st e=>(pf l aM L n st e).elim,jE:=h.jE,iA:=h.iA.mono bp he }
theorem bm.vG{C:b'}{s:aA}{a:Act}{w:World}{κ:Nat->bD}{F:Nat->Prop}(h:bm C s a w κ F){w0 w':World}{F0 K0:Nat->Prop}{nt:Nat}{dfr:List Deferred}{r:Option Nat}{sl:Nat->aH}{a':Act}
  (MC:a'.tmps.size=nt) (MD:a'.defers=dfr) (rq:nt<=eR) (fm:∀ i,bC C.P s.aa κ F w (sl i) (a'.tmps.getD i undef)) (pf:∀ l aM L n st,sl b6≠.aW l aM L n st)
  (heq:∀ r,F r\/(∃ b,(s.aa b).body.b1 (κ b)=true/\(κ b).aa=r)->w'.heap[r]?=w.heap[r]?) (cf:w.heap.size<=w'.heap.size)
  (ME:∀ r,F r->F0 r\/¬K0 r) (MF:∀ r,F0 r->F r) (Dw:∀ r,K0 r->r<w0.heap.size) (ui:∀ r,K0 r->w'.heap[r]?=w0.heap[r]?) (gr:∀ b,(s.aa b).body.b1 (κ b)=true->¬K0 (κ b).aa)
  (nf:w0.heap.size<=w'.heap.size) (hc:dd w0 w') :
  bm { C with w0:=w0,F0:=F0,K0:=K0,nt:=nt,dfr:=dfr,r:=r } ⟨sl,s.aa⟩ a' w' κ F:=
 h.Um MC MD rq fm pf heq cf (λ_ h=>h) (λr M=>Nat.lt_of_lt_of_le (h.db r M) cf) (λb W=>(h.al b W).2.1) ME MF Dw ui gr nf hc
theorem bm.Hd{C:b'}{s:aA}{a:Act}{w:World}{κ:Nat->bD}{F:Nat->Prop}(h:bm C s a w κ F){w0 w':World}{K0:Nat->Prop}{r:Option Nat}
    (iK:∀ r,K0 r->C.K0 r) (heq:∀ r,F r\/¬C.K0 r->w'.heap[r]?=w.heap[r]?) (cf:w.heap.size<=w'.heap.size) (xW:dd w w')
    (Dw:∀ r,K0 r->r<w0.heap.size) (ui:∀ r,K0 r->w'.heap[r]?=w0.heap[r]?) (nf:w0.heap.size<=w'.heap.size) (hc:dd w0 w') :
    bm { C with w0:=w0,K0:=K0,r:=r } s a w' κ F:=by
  have he:c6 F w w':=⟨cf,λr M=>heq r (.inl M)⟩
  have jk:∀ r,F r->r<w'.heap.size:=λr M=>Nat.lt_of_lt_of_le (h.db r M) cf;exact {
          dH:=h.dH,dfr:=h.dfr,bU:=λi=>bC.lb (fr.refl _ _) (λ_ h=>h) he (h.bU i)
          bE:=λb=>cG.lf (h.bE b) (fr.refl _ _) (λ_ h=>h) he rfl rfl λaf=>heq _ (.inr (h.al b af).2.2)
          al:=λb W=>⟨Nat.lt_of_lt_of_le (h.al b W).1 cf,(h.al b W).2.1,λk=>(h.al b W).2.2 (iK _ k)⟩,inj:=h.inj,db:=jk
          hg:=λr M=>(h.hg r M).imp id λk k'=>k (iK r k'),hQ:=h.hQ,ht:=Dw,eG:=ui,size:=nf,ew:=hc,gq:=h.gq,kp:=h.kp,jD:=h.jD,j4:=h.j4,kq:=h.kq
          eL:=λl aM L n st e=>by
            obtain⟨E,U,Y,ag,a6,bM⟩:=h.eL l aM L n st e;exact⟨E,U,Y,λr M=>⟨Nat.lt_of_lt_of_le (ag r M).1 cf,(ag r M).2.1,λk=>(ag r M).2.2 (iK r k)⟩,a6,U.J2 bM (λ_ h=>h) (λr M=>heq r (M.imp id λaR=>(ag r aR).2.2)) cf xW jk λr aq aR=>(ag r aR).2.1 aq⟩
          jE:=h.jE,iA:=h.iA.mono (λ_ h=>h) he }
theorem Un{P:Program}{H:Nat->bK}{κ:Nat->bD}{F:Nat->Prop}{w:World}{aM:ad}{x:aM.ai}:∀ (ps:List Tmp) (args:List Value) (j:Nat) (f:Nat->aH) (oI:Array Value),ps.length=args.length->(∀ p∈ps,p<oI.size)->
  (∀ i,bC P H κ F w (f i) (oI.getD i undef))->(∀ i,i<args.length->bC P H κ F w (ku aM x (j+i)) (args.getD i undef))->
  ∀ i,bC P H κ F w (zV aM x ps j f i) (((ps.zip args).foldl (λtmps p=>tmps.setIfInBounds p.1 p.2) oI).getD i undef)
 | [],[],_,_,_,_,_,aq,_,i=>aq i
 | p::ps,v::args,j,f,oI,aj,ao,aq,ae,i=>by
  simp only[zV,List.zip_cons_cons,List.foldl_cons];refine Un ps args (j+1) _ _ (by grind) (λq bt=>by grind) (λi=>?_) (λi G=>?_) i
  ·rw[Array.getD_eq_getD_getElem?,Array.getElem?_setIfInBounds];by_cases e:i=p
   ·grind
   ·rw[if_neg e,if_neg (Ne.symm e)];simp_all
  ·have:=ae (i+1) (by grind);grind
theorem ahI{ps:List Tmp}{args:List Value}:∀ {oI:Array Value},((ps.zip args).foldl (λtmps p=>tmps.setIfInBounds p.1 p.2) oI).size=oI.size:=by
 generalize ps.zip args=l;induction l with
 | nil=>simp
 | cons p l aK=>grind
def sF:dj->Option Code
 | .normal=>none
 | .exit id=>some (.exit id)
 | .ret=>some .ret
def fc(fn:FuncId)(oI:Array Value)(ps:Array Tmp)(assign body:Code)(B:Nat)(st:LoopState)(e:dj):Loop:=
 { state:=st,pending:=sF e,fn:=fn,tmps:=oI,params:=ps,assign:=assign,body:=body,defers:=B }
def He(P:Program)(aN:dG)(nt:Nat)(assign body:Code)(l:Nat){rout:dJ}(run:aA->A (dj×rout.ai)):Prop:=
 ∀ (C1:b'),C1.P=P->C1.aN=aN->C1.nt=nt->C1.r=some l->∀ (eH:aA) (b9:Act) (cp:World) (qn:dj×rout.ai->Prop),cu C1 eH b9 cp->A.cy (run eH) qn->
  assign.wpIn (dT (some l)) 0 P (Exit.then (λa2 c8=>∃ u dM,C1.jO u/\cu (C1.hk u) dM a2 c8/\
   ∀ (hx:b'),hx.P=P->hx.aN=aN->hx.nt=nt->hx.r=some l->∀ (c8:World),cu hx dM a2 c8->
    body.wpIn (dT (some l)) 0 P (λe a3 eX=>∃ (a7:dj) (v:n0) (eJ:aA) (bn:rout.ai),e=a7.po/\hx.jO v/\cu (hx.hk v) eJ a3 eX/\rout.jb eJ=some bn/\qn (a7,bn)) a2 c8) (λ_ _ _=>False)) b9 cp
theorem ahJ{ts:List (Nat×bX)}{R:Type}(h:ts.isEmpty=true)(g:Nat->Nat×Nat)(z:oC ts R)(i:Nat):fs (eD g ts z).1 i=.undef:=by
 cases ts with
 | nil=>rfl
 | cons p ts=>cases h
theorem ahK{P:Program}{l:Nat}{R:Ending->World->Prop}{e:dj}{a:Act}{w:World}{r:Loop}(h:w.heap[l]?=some (.loop r))
  (jP:R (.returned (.bool (sF e).isNone)) (w.putObj l (.loop { r with state:=if (sF e).isNone then .ready else .done,pending:=sF e }))):roundPost P l R e.po a w:=by
 cases e with
 | normal=>exact⟨_,_,run_endRound none h,jP⟩
 | exit id=>exact⟨_,_,run_endRound (some (.exit id)) h,jP⟩
 | ret=>exact⟨_,_,run_endRound (some .ret) h,jP⟩
theorem ahL{CI:b'}{sh rin rout:dJ}{aM:ad}{ps:Array Tmp}{assign body:Code}{a:Act}{au:World}{κ:Nat->bD}{F:Nat->Prop}{D:sh.ai}{fn:FuncId}{l B:Nat}{x:aM.ai}{args:List Value}{run:aA->A (dj×rout.ai)}
  {Or:dj×sh.ai->Prop} {Y Z:Nat->Prop} (ahM:Z l)
  (M:bm CI (sh.st D) a au κ F) (ed:nX sh rout aM ps.toList a.tmps.size=true) (Dx:He CI.P CI.aN a.tmps.size assign body l run) (hm:A.cy (t' sh rin rout aM ps.toList D x run) Or)
  (aj:au.heap[l]?=some (.loop (fc fn a.tmps ps assign body B .ready .normal))) (ahN:¬F l) (qb:∀ b,((sh.st D).aa b).body.b1 (κ b)=true->Y (κ b).aa/\¬Z (κ b).aa) (dY:fq CI.P aM F au args x) :
  ∃ tmps,(Instr.yield l args.toArray).run CI.P au=.ok (.round l fn tmps assign body) au/\RoundIn Fence.wide 0 CI.P l fn tmps assign body au λe qo=>
   ∃ (bH:dj) (iI:sh.ai) (κ':Nat->bD) (F':Nat->Prop) (o:Obj),e=.returned (.bool (sF bH).isNone)/\Or (bH,iI)/\qo.heap[l]?=some (.loop (fc fn a.tmps ps assign body B (if (sF bH).isNone then .ready else .done) bH))/\
    bm { CI with w0:=au.putObj l o,F0:=F,K0:=λr=>r<au.heap.size/\(Z r\/¬Y r) } (sh.st iI) a qo κ' F':=by
 simp only[nX,Bool.and_eq_true,decide_eq_true_eq,Bool.not_eq_true',List.all_eq_true]at ed;obtain⟨⟨⟨⟨aQ,aS⟩,bP⟩,gy⟩,oA⟩:=ed;have Ae:l<au.heap.size:=(Array.getElem?_eq_some_iff.1 aj).1;obtain⟨iB,Hf⟩:=tO (H:=(sh.st D).aa) (κ:=κ) aM dY bP;have pf:(sh.st D).ay b6=.undef:=xL sh.bU c_ D b6 aS;have FO:(Array.zip ps args.toArray).foldl (λtmps (x:Tmp×Value)=>match x with | (t,a)=>tmps.setIfInBounds t a) a.tmps=(ps.toList.zip args).foldl (λtmps p=>tmps.setIfInBounds p.1 p.2) a.tmps:=by
  rw[<-Array.foldl_toList];simp
 refine⟨(ps.toList.zip args).foldl (λtmps p=>tmps.setIfInBounds p.1 p.2) a.tmps,?_,?_⟩
 ·rw[<-FO];exact run_yield aj (by show args.toArray.size=ps.size;grind)
 have ahO:bm { CI with w0:=au,F0:=F,K0:=λr=>r<au.heap.size/\(Z r\/¬Y r) } (sh.st D) a au κ F:=
  M.vG M.dH M.dfr M.gq M.bU (λl aM L n st e=>by have e:(sh.st D).ay b6=.aW l aM L n st:=e;grind) (λ_ _=>rfl) (Nat.le_refl _) (λ_ h=>.inl h) (λ_ h=>h) (λ_ h=>h.1) (λ_ _=>rfl)
   (λb W h=>h.2.elim (qb b W).2 λh=>h (qb b W).1) (Nat.le_refl _) (dd.refl _)
 unfold t' at hm;split at hm
 ·rename_i aJ bV ahP;split at hm
  ·rename_i cM;rw[A.gh]at hm;have gO:bm { CI with w0:=au,F0:=F,K0:=λr=>r<au.heap.size/\(Z r\/¬Y r),nt:=a.tmps.size,dfr:=[],r:=none } ⟨(xF (sh.st D) aM x ps.toList).ay,(sh.st D).aa⟩ { tmps:=(ps.toList.zip args).foldl (λtmps p=>tmps.setIfInBounds p.1 p.2) a.tmps,defers:=[] } au κ F:=by
    refine M.vG ahI rfl (by rw[M.dH];exact M.gq) (λi=>?_) (λdI kB e7 iZ im e=>?_) (λ_ _=>rfl) (Nat.le_refl _) (λ_ h=>.inl h) (λ_ h=>h) (λ_ h=>h.1) (λ_ _=>rfl)
     (λb W h=>h.2.elim (qb b W).2 λh=>h (qb b W).1) (Nat.le_refl _) (dd.refl _)
    ·show bC CI.P (sh.st D).aa κ F au (if i=b6 then (sh.st D).ay b6 else zV aM x ps.toList 0 (sh.st D).ay i) _;split
     ·rw[pf];trivial
     ·exact Un ps.toList args 0 _ _ (by omega) (λp ao=>by grind) M.bU (λi G=>by grind) i
    ·have e:(if b6=b6 then (sh.st D).ay b6 else zV aM x ps.toList 0 (sh.st D).ay b6)=.aW dI kB e7 iZ im:=e;grind
   obtain⟨F',al,gE,ib,f1,bc,gr,Dy,ayk,C_,L9⟩:=Tx (c:=vv rin rout) ahO gO (by rfl) ahP rfl cM;have MG:l<au.heap.size/\(Z l\/¬Y l):=⟨Ae,.inl ahM⟩
   have Uo:¬F' l:=λh=>(bc.hg l h).elim ahN λh=>h MG;have ahQ:¬al l:=λh=>by
    obtain⟨b,E,U⟩:=gr l h;exact (bc.al b E).2.2 (U ▸ MG)
   have ahR:¬gE l:=λh=>(Dy.low l h).2.2 MG;have Up:l<au.heap.size/\¬al l/\¬gE l:=⟨Ae,ahQ,ahR⟩
   have Hg:bm { rj CI au F' a.tmps.size al gE ib with r:=some l } (rin.st aJ) _ au _ F':=C_.Hd (w0:=au) (w':=au) (K0:=λr=>r<au.heap.size/\¬al r/\¬gE r) (r:=some l) (λ_ h=>h) (λ_ _=>rfl) (Nat.le_refl _) (dd.refl _) (λ_ h=>h.1) (λ_ _=>rfl) (Nat.le_refl _) (dd.refl _);refine roundIn_of_wpIn trivial ?_;refine wpIn_mono (Dx { rj CI au F' a.tmps.size al gE ib with r:=some l } rfl rfl rfl rfl (rin.st aJ) _ au _ ⟨_,_,Hg⟩ hm) λe a2 c8 bt=>?_;cases e with
   | normal=>
    obtain⟨u,dM,hu,⟨nd,en,cO⟩,bT⟩:=bt;have sG:u.K l:=hu.hl l Up;have gw:c8.heap[l]?=some (.loop (fc fn a.tmps ps assign body B .ready .normal)):=(cO.eG l sG).trans ((hu.eG l Up).trans aj);refine⟨_,run_beginRound gw rfl,?_⟩;have ahS:l<c8.heap.size:=(Array.getElem?_eq_some_iff.1 gw).1;have ahT:¬en l:=λh=>(cO.hg l h).elim Uo λh=>h sG;have oL:=cO.Hd (w0:=c8.putObj l (.loop (fc fn a.tmps ps assign body B .busy .normal))) (w':=c8.putObj l (.loop (fc fn a.tmps ps assign body B .busy .normal))) (K0:=u.K) (r:=some l) (λ_ h=>h)
     (λr h=>World.putObj_heap_other λe=>by
      subst e;exact h.elim ahT λh=>h sG) (by simp) ⟨rfl,rfl,rfl⟩ (λr h=>by
       have:=cO.ht r h;have:=cO.size;simp;omega) (λ_ _=>rfl) (Nat.le_refl _) (dd.refl _)
    refine wpIn_mono (bT { ({ rj CI au F' a.tmps.size al gE ib with r:=some l }:b').hk u with w0:=c8.putObj l (.loop (fc fn a.tmps ps assign body B .busy .normal)),K0:=u.K,r:=some l } rfl rfl rfl rfl _ ⟨nd,en,oL⟩) λe a3 eX ⟨a7,v,eJ,bn,he,ae,⟨Hh,Uq,mB⟩,gj,Hi⟩=>?_;subst he;obtain⟨Hh,Ur,f4,oM⟩:=dJ.zX gj mB;have xg:v.K l:=ae.hl l sG;have Hj:eX.heap[l]?=some (.loop (fc fn a.tmps ps assign body B .busy .normal)):=(oM.eG l xg).trans ((ae.eG l sG).trans (World.putObj_heap_same ahS));have Us:l<eX.heap.size:=(Array.getElem?_eq_some_iff.1 Hj).1;have ayl:¬Ur l:=λh=>(oM.hg l h).elim Uo λh=>h xg;generalize gz:(if (sF a7).isNone then LoopState.ready else .done)=im;refine ahK Hj ?_;rw[gz];have mx:bm { CI with w0:=au.putObj l (.loop (fc fn a.tmps ps assign body B im a7)),F0:=F,K0:=λr=>r<au.heap.size/\(Z r\/¬Y r) } ((sh.st D).cB bV) a (au.putObj l (.loop (fc fn a.tmps ps assign body B im a7))) κ F':=
     bc.Hd (λ_ h=>h) (λr h=>World.putObj_heap_other λe=>by
      grind) (by simp) ⟨rfl,rfl,rfl⟩ (λr h=>by simpa using h.1) (λ_ _=>rfl) (Nat.le_refl _) (dd.refl _)
    have z7:au.heap.size<=eX.heap.size:=by
     have E:=hu.size;have U:=cO.size;have ag:=ae.size;have a6:=oM.size;have E:au.heap.size<=u.w.heap.size:=E;have U:u.w.heap.size<=c8.heap.size:=U;have ag:(c8.putObj l (.loop (fc fn a.tmps ps assign body B .busy .normal))).heap.size<=v.w.heap.size:=ag;have a6:v.w.heap.size<=eX.heap.size:=a6;simp only[World.putObj_size]at ag;omega
    have xX:dd au eX:=by
     have E:dd au u.w:=hu.ew;have U:dd u.w c8:=cO.ew;have ag:dd c8 v.w:=⟨ae.ew.os,ae.ew.tape,ae.ew.output⟩
     exact E.trans (U.trans (ag.trans oM.ew))
    have ahU:∀ i,(rout.st bn).ay i=.undef:=λi=>ahJ aQ c_ bn i;have lV:∀ r,(r<(au.putObj l (.loop (fc fn a.tmps ps assign body B im a7))).heap.size/\¬al r/\¬gE r)->(r<au.heap.size/\¬al r/\¬gE r):=λr h=>⟨by simpa using h.1,h.2⟩
    have hJ:=oM.vG (w0:=au.putObj l (.loop (fc fn a.tmps ps assign body B im a7))) (w':=eX.putObj l (.loop (fc fn a.tmps ps assign body B im a7))) (F0:=F') (K0:=λr=>r<(au.putObj l (.loop (fc fn a.tmps ps assign body B im a7))).heap.size/\¬al r/\¬gE r) (nt:=0) (dfr:=[]) (r:=none) (sl:=(rout.st bn).ay) (a':={ tmps:=#[],defers:=[] }) rfl rfl (Nat.zero_le _)
     (λi=>by rw[ahU];trivial) (λl aM L n st e=>by grind)
     (λr h=>World.putObj_heap_other λe=>by
      subst e;rcases h with h | ⟨b,E,U⟩
      ·grind
      ·exact (oM.al b E).2.2 (U ▸ xg)) (by simp) (λr h=>(oM.hg r h).imp id λh dt=>h (ae.hl r (hu.hl r (lV r dt)))) oM.hQ (λr h=>h.1)
     (λr h=>by
      by_cases e:r=l
      ·subst e;rw[World.putObj_heap_same Us,World.putObj_heap_same Ae]
      ·rw[World.putObj_heap_other e,World.putObj_heap_other e];have E:u.K r:=hu.hl r (lV r h);exact (oM.eG r (ae.hl r E)).trans ((ae.eG r E).trans ((World.putObj_heap_other e).trans ((cO.eG r E).trans (hu.eG r (lV r h))))))
     (λb W h=>(oM.al b W).2.2 (ae.hl _ (hu.hl _ (lV _ h)))) (by simpa using z7) ⟨xX.os,xX.tape,xX.output⟩
    obtain⟨κn,nZ,_⟩:=L9 (au.putObj l (.loop (fc fn a.tmps ps assign body B im a7))) (au.putObj l (.loop (fc fn a.tmps ps assign body B im a7))) mx ⟨λdI kB e7 iZ im e=>(by
      grind),λr h=>⟨by simpa using (Dy.low r h).1,(Dy.low r h).2⟩,Dy.al,Dy.GM⟩ bn [] (eX.putObj l (.loop (fc fn a.tmps ps assign body B im a7))) Hh Ur hJ
    obtain⟨iI,MH,ahV⟩:=uh Hi;obtain⟨κn,ahW,_,ahX⟩:=dJ.zX MH nZ;exact⟨a7,iI,κn,ahW,(.loop (fc fn a.tmps ps assign body B im a7)),rfl,A.eb.1 ahV,by rw[gz];exact World.putObj_heap_same Us,ahX⟩
   | _=>exact bt.elim
  ·exact hm.1.elim
 ·exact hm.1.elim
theorem Ut{w:World}{o hS:Obj}{r:Nat}(h:r<w.heap.size):((w.alloc o).alloc hS).heap[r]?=w.heap[r]?:=
 (o8 _ _ (by simp;omega)).trans (o8 _ _ h)
def ahY(C CI:b'){β:Type}(sh rin rout:dJ)(aM:ad)(ca:List aM.ai->Prop)(ps:Array Tmp)(assign body:Code)(a:Act)(fn:FuncId)(l B:Nat)(run:aA->A (dj×rout.ai))(k:dj->aA->A β)(O:β->Prop)
  (st:Bool) (F Y:Nat->Prop) (au:World):Prop:=
 ∃ (e:dj) (D:sh.ai) (κ:Nat->bD),bm CI (sh.st D) a au κ F/\au.heap[l]?=some (.loop (fc fn a.tmps ps assign body B (if st then .done else .ready) e))/\au.heap[B]?=some (.deferred (some []))/\
  (∀ b,((sh.st D).aa b).body.b1 (κ b)=true->Y (κ b).aa/\¬((κ b).aa=l\/(κ b).aa=B))/\Y l/\Y B/\¬F l/\¬F B/\C.P=CI.P/\
  (st=false->e=.normal/\∀ R,ca R->A.cy (jM (λD y=>t' sh rin rout aM ps.toList D y run) R D) λp=>A.cy (k p.1 (sh.st p.2)) O)/\(st=true->e≠.normal/\A.cy (k e (sh.st D)) O)
theorem Uu{C CI:b'}{β:Type}{sh rin rout:dJ}{aM:ad}{S:List aM.ai->Prop}{ps:Array Tmp}{assign body:Code}{a:Act}{fn:FuncId}{l B:Nat}{run:aA->A (dj×rout.ai)}{k:dj->aA->A β}{O:β->Prop}
  (iK:CI.K0=λ_=>False) (ahZ:l≠B) (ed:nX sh rout aM ps.toList a.tmps.size=true) (Dx:He CI.P CI.aN a.tmps.size assign body l run) :
  Fp CI.P (fq CI.P aM) l S λpre=>ahY C CI sh rin rout aM (λR=>S (pre++R)) ps assign body a fn l B run k O where
 BU:=λ{pre st F F' Y w w'} h bp heq cf jJ jk Dv=>by
  have hc:dd w w':=⟨jJ.1,jJ.2.1,jJ.2.2⟩
  obtain⟨e,D,κ,M,E,U,ag,a6,bM,dn,fT,jh,p0⟩:=h;have pf:(sh.st D).ay b6=.undef:=by
   simp only[nX,Bool.and_eq_true,Bool.not_eq_true']at ed;exact xL sh.bU c_ D b6 ed.1.1.1.2
  have uj:∀ r,CI.K0 r->False:=λr h=>by grind
  refine⟨e,D,κ,?_,(heq l (.inr a6)).trans E,(heq B (.inr bM)).trans U,ag,a6,bM,λh=>Dv l h a6,λh=>Dv B h bM,jh,p0⟩;exact M.Um M.dH M.dfr M.gq M.bU (λdI kB e7 iZ im e=>by have e:(sh.st D).ay b6=.aW dI kB e7 iZ im:=e;grind)
   (λr bc=>heq r (bc.imp id λ⟨b,W,e⟩=>e ▸ (ag b W).1)) cf bp jk (λb W aq=>Dv _ aq (ag b W).1) (λr _=>.inr (uj r)) (λr h=>bp r (M.hQ r h)) (λr h=>(uj r h).elim) (λr h=>(uj r h).elim) (λb _=>uj _)
   (Nat.le_trans M.size cf) (M.ew.trans hc)
 yield:=λ{pre F Y w args x} h jk Uv ah dY=>by
  obtain⟨MI,MJ⟩:=ah;obtain⟨e,D,κ,M,E,U,ag,a6,bM,dn,fT,jh,p0,_⟩:=h;obtain⟨rfl,hm⟩:=p0 rfl;have pf:∀ D:sh.ai,(sh.st D).ay b6=.undef:=λD=>by
   simp only[nX,Bool.and_eq_true,Bool.not_eq_true']at ed;exact xL sh.bU c_ D b6 ed.1.1.1.2
  have uj:∀ r,CI.K0 r->False:=λr h=>by grind
  have hm:A.cy (t' sh rin rout aM ps.toList D x run) λp=>∀ T,S (pre++x::T)->A.cy (match p.1 with
    | .normal=>jM (λD y=>t' sh rin rout aM ps.toList D y run) T p.2
    | .exit id=>A.pure (.exit id,p.2)
    | .ret=>A.pure (.ret,p.2)) λp=>A.cy (k p.1 (sh.st p.2)) O:=by
   have E:=λT aV=>A.gh.1 (hm (x::T) aV);exact⟨(E MI MJ).1,λy aR T aV=>(E T aV).2 y aR⟩
  obtain⟨tmps,aR,ah0⟩:=ahL (Z:=λr=>r=l\/r=B) (.inl rfl) M ed Dx hm E dn ag dY;refine⟨fn,tmps,assign,body,aR,ah0.mono λa7 qo ⟨bH,iI,κ',F',o,he,Hi,Hk,bc⟩=>?_⟩;have Ae:l<w.heap.size:=(Uv l a6).1;have MK:B<w.heap.size:=(Uv B bM).1;have g1:∀ r,F r->F' r:=bc.hQ;have ey:∀ r,F' r->F r\/Y r\/w.heap.size<=r:=λr cO=>by
   rcases bc.hg r cO with h | h
   ·exact .inl h
   ·by_cases cc:r<w.heap.size
    ·by_cases aR:Y r
     ·exact .inr (.inl aR)
     ·exact (h ⟨cc,.inr aR⟩).elim
    ·exact .inr (.inr (Nat.le_of_not_lt cc))
  have Uw:∀ r,r<w.heap.size->¬F r->(r=l\/r=B)->¬F' r:=λr cc aq bl rm=>(bc.hg r rm).elim aq λh=>h ⟨cc,.inl bl⟩;have Ux:¬F' l:=Uw l Ae dn (.inl rfl);have vC:¬F' B:=Uw B MK fT (.inr rfl);have Uy:∀ b,((sh.st iI).aa b).body.b1 (κ' b)=true->¬((κ' b).aa=l\/(κ' b).aa=B)/\(Y (κ' b).aa\/w.heap.size<=(κ' b).aa):=λb W=>by
   have an:=(bc.al b W).2.2;grind
  have Hl:w.heap.size<=qo.heap.size:=by have:=bc.size;simpa using this
  have gc:dd w qo:=⟨bc.ew.os,bc.ew.tape,bc.ew.output⟩
  have aym:∀ T,pre++[x]++T=pre++x::T:=λT=>by simp
  refine⟨(sF bH).isNone,F',λr=>(∃ b,((sh.st iI).aa b).body.b1 (κ' b)=true/\(κ' b).aa=r)\/r=l\/r=B,he,g1,ey,bc.db,λr cc aR=>?_,λr cO=>?_,Hl,⟨gc.os,gc.tape,gc.output⟩,?_⟩
  ·have eO:r≠l:=λe=>aR (e ▸ a6);exact (bc.eG r ⟨cc,.inr aR⟩).trans (World.putObj_heap_other eO)
  ·rcases cO with⟨b,W,rfl⟩ | rfl | rfl
   ·exact⟨(Uy b W).2,(bc.al b W).1,(bc.al b W).2.1⟩
   ·exact⟨.inl a6,Nat.lt_of_lt_of_le Ae Hl,Ux⟩
   ·exact⟨.inl bM,Nat.lt_of_lt_of_le MK Hl,vC⟩
  ·refine⟨bH,iI,κ',?_,?_,?_,λb W=>⟨.inl ⟨b,W,rfl⟩,(Uy b W).1⟩,.inr (.inl rfl),.inr (.inr rfl),Ux,vC,jh,λgz=>?_,λgz=>?_⟩
   ·exact bc.vG bc.dH bc.dfr bc.gq bc.bU (λdI kB e7 iZ im e=>by have e:(sh.st iI).ay b6=.aW dI kB e7 iZ im:=e;grind) (λ_ _=>rfl) (Nat.le_refl _) (λr _=>.inr (uj r)) (λr h=>g1 r (M.hQ r h))
     (λr h=>(uj r h).elim) (λr h=>(uj r h).elim) (λb _=>uj _) (Nat.le_trans M.size Hl) (M.ew.trans gc)
   ·grind
   ·exact (bc.eG B ⟨MK,.inl (.inr rfl)⟩).trans ((World.putObj_heap_other (Ne.symm ahZ)).trans U)
   ·cases bH with
    | normal=>grind
    | _=>cases gz
   ·cases bH with
    | normal=>cases gz
    | exit id=>exact⟨by simp,(Hi MI MJ).2 _ rfl⟩
    | ret=>exact⟨by simp,(Hi MI MJ).2 _ rfl⟩
theorem Uz{P:Program}{l:Nat}{aM:ad}{S:List aM.ai->Prop}{I:List aM.ai->Bool->(Nat->Prop)->(Nat->Prop)->World->Prop}(h:Fp P (fq P aM) l S I):lN.hB P ⟨l,aM,S,I⟩ where
 BU:=λE U ag a6 bM dn fT=>h.BU E U ag a6 ⟨bM.os,bM.tape,bM.output⟩ dn fT
 yield:=λE U ag a6 bM=>YieldAt.mono (h.yield E U ag a6 bM) λ_ _ ⟨b,F',gE,aQ,aS,bP,gy,oA,vx,Dz,Af,ML⟩=>⟨b,F',gE,aQ,aS,bP,gy,oA,vx,Dz,⟨Af.1,Af.2.1,Af.2.2⟩,ML⟩
end Go.Fer
