/- Part 3 of the proof of Answers: shallow programs of Go functions, and what they compute. No condition. -/
import Derived.Test.YtplfnoecifjgeaaGreatDoorAnswersB
import Derived.RangeFuncIn
import Derived.RangeFuncRecord
import Derived.RangeFuncBound
noncomputable section
set_option linter.unusedVariables false
set_option linter.unusedSimpArgs false
namespace Go.Fer
open Go.RowKit
def oR(x y:bP):Prop:=(y.fH=true->x.fH=true)/\(y.fe=true->x.fe=true/\y.len=x.len/\y.eZ=x.eZ)/\(y.gW=true->x.gW=true)/\(y.mQ=true->x.mQ=true)/\∀ k,y.bY k=true->x.bY k=true
theorem oR.refl(x:bP):oR x x:=⟨id,λh=>⟨h,rfl,rfl⟩,id,id,λ_=>id⟩
theorem oR.fx(x:bP):oR x .fx:=⟨λh=>(by cases h),λh=>(by cases h),λh=>(by cases h),λh=>(by cases h),λ_ h=>(by cases h)⟩
def sJ(f:Nat->Nat)(H H':Nat->bJ):Prop:=∀ b,(H' b).gen=0/\oR (H (f b)).body (H' b).body
section
variable {P:Program} {H H':Nat->bJ} {κ:Nat->bA} {F F':Nat->Prop} {w:World} {f:Nat->Nat}
theorem Tf(aB:sJ f H H'){b off:Nat}{v:Value}(h:bx P H κ F w (.bc (f b) (H (f b)).gen off) v):bx P H' (λb=>κ (f b)) F' w (.bc b 0 off) v:=
 ⟨⟨Nat.zero_le _,h.1.2⟩,λ_ hc=>h.2 rfl ((aB b).2.1 hc)⟩
def Mc(P:Program)(H H':Nat->bJ)(κ:Nat->bA)(f:Nat->Nat)(F F':Nat->Prop)(w:World){R:Type}(r:Option (R×List Nat))(l:List Nat)(av av':aG)(y:R):Prop:=
 ∃ m,r=some (y,m)/\(∀ b∈m,b∈l)/\(iX H κ F' l->∀ v,bx P H κ F w av v->bx P H' (λb=>κ (f b)) F' w av' v)
theorem Mc.hG{R:Type}{r:Option (R×List Nat)}{l:List Nat}{av av':aG}{y:R}(h:r=some (y,l))(k:∀ v,bx P H κ F w av v->bx P H' (λb=>κ (f b)) F' w av' v):Mc P H H' κ f F F' w r l av av' y:=
 ⟨l,h,λ_ W=>W,λ_=>k⟩
theorem kJ{ak:Type}{b:Bool}{r:Option ak}{x:ak}(h:vF b r=some x):b=true/\r=some x:=by
 cases b with
 | true=>exact⟨rfl,h⟩
 | false=>cases h
theorem qD{t:ab}{av:aG}{R:Type}{r:Option (R×List Nat)}{z:t.aj×R}{l:List Nat}(h:xF H t av r=some (z,l)):∃ ey m,(dy t av).run H=some (z.1,ey)/\r=some (z.2,m)/\l=ey++m:=by
 unfold xF at h;grind
theorem Md{t:ab}{av:aG}{R:Type}{r:Option (R×List Nat)}{z:t.aj×R}{l:List Nat}(h:LH t av r=some (z,l)):av=.dU t z.1/\r=some (z.2,l):=by
 unfold LH at h;grind
theorem Me{b:Nat}{av:aG}{R:Type}{r:Option (R×List Nat)}{z:(Nat×Nat)×R}{l:List Nat}(h:LI H b av r=some (z,l)) :
  r=some (z.2,l)/\(av=.sub b (H b).gen z.1.1 z.1.2\/(av=.own b (H b).gen/\(H b).body.fe=true/\z.1=(0,(H b).body.len))):=by
 unfold LI at h;grind
theorem G3{aJ:ab}{av:aG}{R:Type}{r:Option (R×List Nat)}{z:(Nat×(List aJ.aj->Prop)×List aJ.aj×Bool)×R}{l:List Nat}(h:LJ aJ av r=some (z,l)) :
  r=some (z.2,l)/\av=.aW z.1.1 aJ z.1.2.1 z.1.2.2.1 z.1.2.2.2:=by
 unfold LJ at h;grind
theorem Mf{b:Nat}{av:aG}{R:Type}{r:Option (R×List Nat)}{z:Nat×R}{l:List Nat}(h:LL H b av r=some (z,l)):r=some (z.2,l)/\av=.iW b (H b).gen z.1:=by
 unfold LL at h;grind
theorem Mg{av:aG}{R:Type}{r:Option (R×List Nat)}{z:Nat×R}{l:List Nat}(h:LK av r=some (z,l)):r=some (z.2,l)/\av=.hg z.1:=by
 unfold LK at h;grind
theorem Tg{b off:Nat}{av:aG}(h:GA H b off av=true):av=.bc b (H b).gen off:=by
 unfold GA at h;grind
theorem Th{b:Nat}{av:aG}(h:GB H b av=true):av=.own b (H b).gen:=by
 unfold GB at h;grind
theorem afz{b:Nat}{av:aG}(h:LM H b av=true):av=.fG b (H b).gen:=by
 unfold LM at h;grind
theorem afA{b:Nat}{av:aG}(h:LN H b av=true):av=.j8 b (H b).gen:=by
 unfold LN at h;grind
theorem afB{av:aG}(h:LO av=true):av=.dm:=by
 unfold LO at h;grind
theorem afC(aB:sJ f H H'){k:FuncId}{fU:z8'}{av:aG}(h:LP H f k fU av=true){v:Value}(ae:bx P H κ F w av v):bx P H' (λb=>κ (f b)) F' w (.iB k fU.length (vC c8 fU)) v:=by
 unfold LP at h;split at h
 ·rename_i k' n cZ;simp only[Bool.and_eq_true,beq_iff_eq]at h;obtain⟨⟨rfl,rfl⟩,e⟩:=h;obtain⟨aC,E,U,ag⟩:=ae;refine⟨aC,E,U,λi G=>?_⟩;have he:=List.all_eq_true.1 e i (by grind);have ae:=ag i G;rw[show fU[i]?=some fU[i] by simp]at he;rw[Tg he]at ae;have:vC c8 fU i=.bc fU[i].1 0 fU[i].2:=by simp[vC,hi,List.getD_eq_getElem?_getD,G,c8]
  rw[this];exact Tf aB ae
 grind
theorem afD(aB:sJ f H H'){bs:List Nat}{av:aG}(h:LQ H f bs av=true){v:Value}(ae:bx P H κ F w av v):bx P H' (λb=>κ (f b)) F' w (.agg bs.length (vD c8 bs)) v:=by
 unfold LQ at h;split at h
 ·rename_i n ds;simp only[Bool.and_eq_true,beq_iff_eq]at h;obtain⟨rfl,e⟩:=h;obtain⟨aC,E,U,ag⟩:=ae;refine⟨aC,E,U,λi G=>?_⟩;have he:=List.all_eq_true.1 e i (by grind);obtain⟨ae,hc⟩:=ag i G;refine⟨?_,hc⟩;rw[show bs[i]?=some bs[i] by simp]at he;rw[Th he]at ae;have:vD c8 bs i=.own bs[i] 0:=by simp[vD,hi,List.getD_eq_getElem?_getD,G,c8]
  rw[this];refine⟨⟨Nat.zero_le _,ae.1.2⟩,λ_ hc=>?_⟩;obtain⟨aQ,aV,_⟩:=(aB bs[i]).2.2.1 hc;rw[aV];exact ae.2 rfl aQ
 grind
theorem xQ(aS:∀ b,cC P H κ F w b)(bm:∀ r,F r->F' r)(aB:sJ f H H')(t:bX){av:aG}{R:Type}{r:Option (R×List Nat)}{z:t.cons R}{l:List Nat}(h:t.jb H f av r=some (z,l)) :
  Mc P H H' κ f F F' w r l av (t.av c8 z).1 (t.av c8 z).2:=by
 cases t with
 | undef=>exact .hG h λ_ _=>by simp only[bX.av,bx]
 | val t=>
  obtain⟨ey,m,ah,rfl,rfl⟩:=qD h;exact⟨m,rfl,λb W=>List.mem_append_right _ W,λai v ae=>mr aS bm ah ai.left ae⟩
 | dU t=>
  obtain⟨rfl,rfl⟩:=Md h;exact .hG rfl λv ⟨p,bh,E,U,ag⟩=>⟨p,bh,E,U.mono bm (c1.refl _ _),fb _ bm (c1.refl _ _) ag⟩
 | bc b off=>
  obtain⟨E,U⟩:=kJ h;obtain rfl:=Tg E;exact .hG U λv ae=>Tf aB ae
 | own b=>
  obtain⟨E,U⟩:=kJ h;obtain rfl:=Th E;refine .hG U λv ae=>⟨⟨Nat.zero_le _,ae.1.2⟩,λ_ hc=>?_⟩
  obtain⟨aQ,aV,_⟩:=(aB b).2.2.1 hc;simp only[c8];rw[aV];exact ae.2 rfl aQ
 | sub b=>
  obtain⟨E,U⟩:=Me h;refine .hG E λv ae=>?_;rcases U with rfl | ⟨rfl,e8,ag⟩
  ·refine⟨⟨Nat.zero_le _,ae.1.2⟩,λ_ hc=>?_⟩;obtain⟨aQ,aV,bK⟩:=(aB b).2.2.1 hc;simp only[c8]at aV bK ⊢;rw[aV,bK];exact ae.2 rfl aQ
  ·refine⟨⟨Nat.zero_le _,ae.1.2⟩,λ_ hc=>?_⟩;obtain⟨aQ,aV,bK⟩:=(aB b).2.2.1 hc;have:=ae.2 rfl aQ;simp only[c8]at aV bK ⊢;rw[aV,bK,ag];refine⟨⟨Nat.zero_le _,Nat.le_refl _⟩,?_⟩;rw[this];unfold bA.slice;cases au:(κ (f b)).e5 with
   | true=>exact .inl ⟨au,rfl⟩
   | false=>exact .inr ⟨au,(κ (f b)).off,by simp,by simp,λ_=>by simp⟩
 | fG b=>
  obtain⟨E,U⟩:=kJ h;obtain rfl:=afz E;exact .hG U λv ae=>⟨⟨Nat.zero_le _,ae.1.2⟩,λ_ hc=>ae.2 rfl ((aB b).2.2.2.1 hc)⟩
 | j8 b=>
  obtain⟨E,U⟩:=kJ h;obtain rfl:=afA E;exact .hG U λv ae=>⟨⟨Nat.zero_le _,ae.1.2⟩,λ_ hc=>ae.2 rfl ((aB b).2.2.2.2.1 hc)⟩
 | dm=>
  obtain⟨E,U⟩:=kJ h;obtain rfl:=afB E;exact .hG U λv ae=>ae
 | iB k fU=>
  obtain⟨E,U⟩:=kJ h;exact .hG U λv ae=>afC aB E ae
 | hH bs=>
  obtain⟨E,U⟩:=kJ h;exact .hG U λv ae=>afD aB E ae
 | iW b=>
  obtain⟨E,rfl⟩:=Mf h;refine .hG E λv ae=>⟨⟨Nat.zero_le _,ae.1.2⟩,λ_ hc=>?_⟩
  obtain⟨aQ,aV,bK⟩:=(aB b).2.2.1 hc;have:=ae.2 rfl aQ;simp only[c8]at aV bK ⊢;rw[aV,bK];exact this
 | aW aJ=>
  obtain⟨E,rfl⟩:=G3 h;exact .hG E λv ae=>ae
 | hg=>
  obtain⟨E,rfl⟩:=Mg h;exact .hG E λv ae=>ae
theorem afE(aS:∀ b,cC P H κ F w b)(bm:∀ r,F r->F' r)(aB:sJ f H H'):∀ (ts:List bX) {c:Nat->aG} {i:Nat} {R:Type} {r:Option (R×List Nat)} {z:qB ts R} {l:List Nat},Ae H f ts c i r=some (z,l)->
  ∃ m,r=some ((pH c8 ts z).2,m)/\(∀ b∈m,b∈l)/\(iX H κ F' l->∀ j,j<ts.length->∀ v,bx P H κ F w (c (i+j)) v->bx P H' (λb=>κ (f b)) F' w ((pH c8 ts z).1.getD j .undef) v):=by
 intro ts;induction ts with
 | nil=>intro c i R r z l h;exact⟨l,h,λ_ W=>W,λ_ j aE=>by cases aE⟩
 | cons t ts aH=>
  intro c i R r z l h;obtain⟨m1,E,U,ag⟩:=xQ (F':=F') (H':=H') aS bm aB t h;obtain⟨m2,aQ,aV,fz⟩:=aH E;refine⟨m2,aQ,λb W=>U b (aV b W),λai j aE v ae=>?_⟩;cases j with
  | zero=>exact ag ai v ae
  | succ j=>
   have:=fz (λb W=>ai b (U b W)) j (by grind) v (by grind);simpa [pH]using this
theorem afF(aS:∀ b,cC P H κ F w b)(bm:∀ r,F r->F' r)(aB:sJ f H H'):∀ (ts:List (Nat×bX)) {c:Nat->aG} {R:Type} {r:Option (R×List Nat)} {z:oO ts R} {l:List Nat},xH H f ts c r=some (z,l)->
  ∃ m,r=some ((eC c8 ts z).2,m)/\(∀ b∈m,b∈l)/\(iX H κ F' l->∀ i v,bx P H κ F w (c i) v->bx P H' (λb=>κ (f b)) F' w (fq (eC c8 ts z).1 i) v):=by
 intro ts;induction ts with
 | nil=>intro c R r z l h;exact⟨l,h,λ_ W=>W,λ_ _ _ _=>by simp only[eC,fq,bx]⟩
 | cons p ts aH=>
  intro c R r z l h;obtain⟨m1,E,U,ag⟩:=xQ (F':=F') (H':=H') aS bm aB p.2 h;obtain⟨m2,aQ,aV,fz⟩:=aH E;refine⟨m2,aQ,λb W=>U b (aV b W),λai i v ae=>?_⟩;simp only[eC,fq];split
  ·grind
  ·exact fz (λb W=>ai b (U b W)) i v ae
theorem G4(t:bX){av:aG}{R:Type}{r:Option (R×List Nat)}{z:t.cons R}{l:List Nat}(h:t.jb H f av r=some (z,l)):∃ m,r=some ((t.av c8 z).2,m)/\∀ b∈m,b∈l:=by
 cases t with
 | undef=>exact⟨l,h,λ_ h=>h⟩
 | val t=>obtain⟨_,m,_,U,ag⟩:=qD h;exact⟨m,U,λb W=>ag ▸ List.mem_append_right _ W⟩
 | dU t=>exact⟨l,(Md h).2,λ_ h=>h⟩
 | sub b=>exact⟨l,(Me h).1,λ_ h=>h⟩
 | aW aJ=>exact⟨l,(G3 h).1,λ_ h=>h⟩
 | hg=>exact⟨l,(Mg h).1,λ_ h=>h⟩
 | iW b=>exact⟨l,(Mf h).1,λ_ h=>h⟩
 | bc b off=>exact⟨l,(kJ h).2,λ_ h=>h⟩
 | own b=>exact⟨l,(kJ h).2,λ_ h=>h⟩
 | fG b=>exact⟨l,(kJ h).2,λ_ h=>h⟩
 | j8 b=>exact⟨l,(kJ h).2,λ_ h=>h⟩
 | dm=>exact⟨l,(kJ h).2,λ_ h=>h⟩
 | iB k fU=>exact⟨l,(kJ h).2,λ_ h=>h⟩
 | hH bs=>exact⟨l,(kJ h).2,λ_ h=>h⟩
theorem afG:∀ (ts:List bX) {c:Nat->aG} {i:Nat} {R:Type} {r:Option (R×List Nat)} {z:qB ts R} {l:List Nat},Ae H f ts c i r=some (z,l)->∃ m,r=some ((pH c8 ts z).2,m)/\∀ b∈m,b∈l:=by
 intro ts;induction ts with
 | nil=>intro c i R r z l h;exact⟨l,h,λ_ h=>h⟩
 | cons t ts aH=>
  intro c i R r z l h;obtain⟨m,E,U⟩:=G4 t h;obtain⟨dw,ag,a6⟩:=aH E;exact⟨dw,ag,λb W=>U b (a6 b W)⟩
theorem afH:∀ (ts:List (Nat×bX)) {c:Nat->aG} {R:Type} {r:Option (R×List Nat)} {z:oO ts R} {l:List Nat},xH H f ts c r=some (z,l)->∃ m,r=some ((eC c8 ts z).2,m)/\∀ b∈m,b∈l:=by
 intro ts;induction ts with
 | nil=>intro c R r z l h;exact⟨l,h,λ_ h=>h⟩
 | cons p ts aH=>
  intro c R r z l h;obtain⟨m,E,U⟩:=G4 p.2 h;obtain⟨dw,ag,a6⟩:=aH E;exact⟨dw,ag,λb W=>U b (a6 b W)⟩
theorem Dj(t:bX){av:aG}{R:Type}{r:Option (R×List Nat)}{z:t.cons R}{l:List Nat}(h:t.jb H f av r=some (z,l))(M:∀ y m,r=some (y,m)->gN H m):gN H l:=by
 cases t with
 | undef=>exact M _ _ h
 | val t=>obtain⟨_,m,E,U,rfl⟩:=qD h;exact (mV E).append (M _ _ U)
 | dU t=>exact M _ _ (Md h).2
 | sub b=>exact M _ _ (Me h).1
 | aW aJ=>exact M _ _ (G3 h).1
 | hg=>exact M _ _ (Mg h).1
 | iW b=>exact M _ _ (Mf h).1
 | bc b off=>exact M _ _ (kJ h).2
 | own b=>exact M _ _ (kJ h).2
 | fG b=>exact M _ _ (kJ h).2
 | j8 b=>exact M _ _ (kJ h).2
 | dm=>exact M _ _ (kJ h).2
 | iB k fU=>exact M _ _ (kJ h).2
 | hH bs=>exact M _ _ (kJ h).2
theorem afI:∀ (ts:List bX) {c:Nat->aG} {i:Nat} {R:Type} {r:Option (R×List Nat)} {z:qB ts R} {l:List Nat},Ae H f ts c i r=some (z,l)->(∀ y m,r=some (y,m)->gN H m)->gN H l:=by
 intro ts;induction ts with
 | nil=>intro c i R r z l h M;exact M _ _ h
 | cons t ts aH=>intro c i R r z l h M;exact Dj t h λy m hm=>aH hm M
theorem afJ:∀ (ts:List (Nat×bX)) {c:Nat->aG} {R:Type} {r:Option (R×List Nat)} {z:oO ts R} {l:List Nat},xH H f ts c r=some (z,l)->(∀ y m,r=some (y,m)->gN H m)->gN H l:=by
 intro ts;induction ts with
 | nil=>intro c R r z l h M;exact M _ _ h
 | cons p ts aH=>intro c R r z l h M;exact Dj p.2 h λy m hm=>aH hm M
theorem Mh{t:ab}{ts:List bX}{iL:bP}{R:Type}{r:Option (R×List Nat)}{z:qB ts R}{l:List Nat}(h:LR H f t ts iL r=some (z,l)):∃ c,iL=.cells t c/\t.size=ts.length/\Ae H f ts c 0 r=some (z,l):=by
 unfold LR at h;grind
theorem Mi{e:ab}{iL:bP}{R:Type}{r:Option (R×List Nat)}{z:List e.aj×R}{l:List Nat}(h:LS e iL r=some (z,l)):r=some (z.2,l)/\iL=.bg e z.1:=by
 unfold LS at h;grind
theorem Mj{e:ab}{t:bX}{iL:bP}{R:Type}{r:Option (R×List Nat)}{z:(List e.aj×Nat)×t.cons R}{l:List Nat}(h:LW H f e t iL r=some (z,l)):∃ v,iL=.gi e z.1.1 z.1.2 v/\t.jb H f v r=some (z.2,l):=by
 unfold LW at h;grind
theorem Mk{k v:ab}{iL:bP}{R:Type}{r:Option (R×List Nat)}{z:List (k.aj×v.aj)×R}{l:List Nat}(h:LU k v iL r=some (z,l)):r=some (z.2,l)/\iL=.mp k v z.1:=by
 unfold LU at h;grind
theorem Ml{k v:ab}{iL:bP}{R:Type}{r:Option (R×List Nat)}{z:(Option (k.aj×v.aj)×List (k.aj×v.aj))×R}{l:List Nat}(h:LV k v iL r=some (z,l)):r=some (z.2,l)/\iL=.cq k v z.1.1 z.1.2:=by
 unfold LV at h;grind
theorem Mm{t:ab}{iL:bP}{R:Type}{r:Option (R×List Nat)}{z:t.aj×R}{l:List Nat}(h:LX H t iL r=some (z,l)):∃ c,iL=.cells t c/\xF H t (.agg t.size c) r=some (z,l):=by
 unfold LX at h;grind
theorem Mn{t:ab}{b:Nat}{R:Type}{r:Option (R×List Nat)}{z:t.aj×R}{l:List Nat}(h:LY H t b r=some (z,l)):∃ ey m,(dy (.bG t) (.bc b (H b).gen 0)).run H=some (some z.1,ey)/\r=some (z.2,m)/\l=ey++m:=by
 unfold LY at h;split at h
 ·rename_i x ey ah;split at h
  ·cases h;exact⟨ey,_,ah,rfl,rfl⟩
  ·cases h
 ·cases h
theorem Ti{e:ab}{b:Nat}{xs:List e.aj}{l:List Nat}(h:(dy (.slice e) (.own b (H b).gen)).run H=some (xs,l)):(H b).body=.bg e xs\/(H b).body=.hE e xs:=by
 simp only[dy,kx,ab.eF,if_true,dV,ao.e0,ao.bL]at h;split at h
 ·rename_i aY ys W;simp only[Option.map_eq_some_iff,Prod.mk.injEq]at h;obtain⟨z,bj,rfl,_⟩:=h;obtain⟨rq,rfl⟩:=kT bj;grind
 ·rename_i aY ys W;simp only[Option.map_eq_some_iff,Prod.mk.injEq]at h;obtain⟨z,bj,rfl,_⟩:=h;obtain⟨rq,rfl⟩:=kT bj;grind
 grind
theorem afK{k v:ab}{b:Nat}{xs:List (k.aj×v.aj)}{l:List Nat}(h:(dy (.map k v) (.fG b (H b).gen)).run H=some (xs,l)):(H b).body=.mp k v xs\/(H b).body=.jk k v xs:=by
 simp only[dy,kx,ab.eF,if_true,dV,ao.e0,ao.bL]at h;split at h
 ·rename_i k' h7 ys W;simp only[Option.map_eq_some_iff,Prod.mk.injEq]at h;obtain⟨z,bj,rfl,_⟩:=h;obtain⟨rq,rfl⟩:=kT bj;grind
 ·rename_i k' h7 ys W;simp only[Option.map_eq_some_iff,Prod.mk.injEq]at h;obtain⟨z,bj,rfl,_⟩:=h;obtain⟨rq,rfl⟩:=kT bj;grind
 grind
theorem afL{t:ab}{b:Nat}{x:Option t.aj}{l:List Nat}(h:(dy (.bG t) (.bc b (H b).gen 0)).run H=some (x,l)):(H b).body.fH=true:=by
 simp only[dy,kx,tQ,ao.e0,and_self,if_true]at h;split at h
 ·rename_i W;rw[W];rfl
 ·rename_i W;rw[W];rfl
 ·cases h
theorem b5.Tj(t:b5){b:Nat}{R:Type}{r:Option (R×List Nat)}{z:t.cons R}{l:List Nat}(h:t.jb H f b r=some (z,l)) :
  (∃ m,r=some ((t.body c8 z).2,m)/\∀ c∈m,c∈l)/\oR (H b).body (t.body c8 z).1/\∀ k,(t.body c8 z).1.bY k=true->t.C'=true:=by
 cases t with
 | cells t ts=>
  obtain⟨c,e,aD,h⟩:=Mh h;refine⟨afG ts h,?_,λ_ _=>rfl⟩;rw[e];exact⟨λ_=>rfl,λh=>(by cases h),λh=>(by cases h),λh=>(by cases h),λ_ _=>rfl⟩
 | bg e=>
  obtain⟨E,U⟩:=Mi h;refine⟨⟨l,E,λ_ h=>h⟩,?_,λ_ _=>rfl⟩;rw[U];exact oR.refl _
 | hE e=>
  obtain⟨ey,m,E,U,rfl⟩:=qD h;refine⟨⟨m,U,λ_ h=>List.mem_append_right _ h⟩,?_,λ_ h=>(by cases h)⟩;rcases Ti E with e | e<;>rw[e]
  ·exact⟨λh=>(by cases h),λ_=>⟨rfl,rfl,rfl⟩,λh=>(by cases h),λh=>(by cases h),λ_ h=>(by cases h)⟩
  ·exact oR.refl _
 | mp k v=>
  obtain⟨E,U⟩:=Mk h;refine⟨⟨l,E,λ_ h=>h⟩,?_,λ_ _=>rfl⟩;rw[U];exact oR.refl _
 | jk k v=>
  obtain⟨ey,m,E,U,rfl⟩:=qD h;refine⟨⟨m,U,λ_ h=>List.mem_append_right _ h⟩,?_,λ_ h=>(by cases h)⟩;rcases afK E with e | e<;>rw[e]
  ·exact⟨λh=>(by cases h),λh=>(by cases h),λ_=>rfl,λh=>(by cases h),λ_ h=>(by cases h)⟩
  ·exact oR.refl _
 | f_ t=>
  obtain⟨c,e,h⟩:=Mm h;obtain⟨ey,m,E,U,rfl⟩:=qD h;refine⟨⟨m,U,λ_ h=>List.mem_append_right _ h⟩,?_,λ_ _=>rfl⟩;rw[e];exact⟨λ_=>rfl,λh=>(by cases h),λh=>(by cases h),λh=>(by cases h),λ_ _=>rfl⟩
 | gL t=>
  obtain⟨ey,m,E,U,rfl⟩:=Mn h;refine⟨⟨m,U,λ_ h=>List.mem_append_right _ h⟩,?_,λ_ h=>(by cases h)⟩;exact⟨λ_=>afL E,λh=>(by cases h),λh=>(by cases h),λh=>(by cases h),λ_ h=>(by cases h)⟩
 | cq k v=>
  obtain⟨E,U⟩:=Ml h;refine⟨⟨l,E,λ_ h=>h⟩,?_,λ_ _=>rfl⟩;rw[U];exact oR.refl _
 | gi e t=>
  obtain⟨v,ax,h⟩:=Mj h;refine⟨G4 t h,?_,λ_ _=>rfl⟩;rw[ax];exact⟨λh=>(by cases h),λ_=>⟨rfl,rfl,rfl⟩,λh=>(by cases h),λh=>(by cases h),λ_ h=>h⟩
theorem b5.Dj(t:b5){b:Nat}{R:Type}{r:Option (R×List Nat)}{z:t.cons R}{l:List Nat}(h:t.jb H f b r=some (z,l))(M:∀ y m,r=some (y,m)->gN H m):gN H l:=by
 cases t with
 | cells t ts=>obtain⟨c,e,aD,h⟩:=Mh h;exact afI ts h M
 | bg e=>exact M _ _ (Mi h).1
 | hE e=>obtain⟨ey,m,E,U,rfl⟩:=qD h;exact (mV E).append (M _ _ U)
 | mp k v=>exact M _ _ (Mk h).1
 | jk k v=>obtain⟨ey,m,E,U,rfl⟩:=qD h;exact (mV E).append (M _ _ U)
 | f_ t=>obtain⟨c,e,h⟩:=Mm h;obtain⟨ey,m,E,U,rfl⟩:=qD h;exact (mV E).append (M _ _ U)
 | gL t=>obtain⟨ey,m,E,U,rfl⟩:=Mn h;exact (mV E).append (M _ _ U)
 | cq k v=>exact M _ _ (Ml h).1
 | gi e t=>obtain⟨v,_,h⟩:=Mj h;exact Go.Fer.Dj t h M
theorem b5.afM(aS:∀ b,cC P H κ F w b)(bm:∀ r,F r->F' r)(aB:sJ f H H')(t:b5){b:Nat}{R:Type}{r:Option (R×List Nat)}{z:t.cons R}{l:List Nat}(h:t.jb H f b r=some (z,l))(ai:iX H κ F' l) :
  jF P H' (λb=>κ (f b)) F' w (κ b) (t.body c8 z).1:=by
 have W:=aS b;unfold cC at W;cases t with
 | cells t ts=>
  obtain⟨c,e,aD,h⟩:=Mh h;rw[e]at W;obtain⟨cs,T,aQ,aV,bK⟩:=W;obtain⟨m,_,_,fz⟩:=afE (H':=H') aS bm aB ts h;refine⟨cs,T,aQ,aV,λi G=>⟨?_,(bK i G).2⟩⟩;have:=fz ai i (by omega) _ (by rw[Nat.zero_add];exact (bK i G).1);exact this
 | bg e=>
  rw[(Mi h).2]at W;refine⟨W.1,λau=>?_⟩;obtain⟨cs,T,E,U,ag,a6,bM⟩:=W.2 au;exact⟨cs,T,E,U,ag,a6,bM.mono bm (c1.refl _ _)⟩
 | hE e=>
  obtain⟨ey,m,E,U,rfl⟩:=qD h;have vt:=Ti E;have xR:=mr (v:=(κ b).slice (H b).body.len) aS bm E ai.left ⟨⟨Nat.le_refl _,by unfold bA.slice;split<;>rfl⟩,λ_ _=>rfl⟩;have:=((dT rfl).1 xR).2;rcases vt with aY | aY<;>(rw[aY]at this;exact this)
 | mp k v=>
  rw[(Mk h).2]at W;obtain⟨ms,clk,E,U⟩:=W;exact⟨ms,clk,E,U.mono bm (c1.refl _ _)⟩
 | jk k v=>
  obtain⟨ey,m,E,U,rfl⟩:=qD h;have xR:=mr (v:=.map (some (κ b).aa)) aS bm E ai.left ⟨⟨Nat.le_refl _,rfl⟩,λ_ _=>rfl⟩;exact ((dT rfl).1 xR).2
 | f_ t=>
  obtain⟨c,e,h⟩:=Mm h;rw[e]at W;obtain⟨cs,T,aQ,aV,bK⟩:=W;obtain⟨ey,m,ah,_,rfl⟩:=qD h;have ae:bx P H κ F w (.agg t.size c) (.agg cs):=⟨cs.toList,by simp,by omega,λj aE=>by
   simp_all⟩
  have xR:=mr (F':=F') aS bm ah ai.left ae;have iD:=zy (P:=P) (H:=H') (κ:=λb=>κ (f b)) t xR.2;refine⟨cs,T,aQ,aV,λi G=>⟨?_,(bK i G).2⟩⟩;have:=(iD.kU i (by rw[iD.len];simpa [Value.cells,aV]using G)).1;rw[List.getD_eq_getElem?_getD]at this;rw[Array.getD_eq_getD_getElem?];simpa [Value.cells]using this
 | gL t=>
  obtain⟨ey,m,E,U,rfl⟩:=Mn h;have xR:=mr (v:=.pointer (some ⟨(κ b).aa,0,none⟩)) aS bm E ai.left ⟨⟨Nat.le_refl _,rfl⟩,λ_ _=>rfl⟩;rcases ((dT rfl).1 xR).2 with⟨_,e⟩ | ⟨p,y,bh,ax,aO,ag,a6⟩
  ·cases e
  ·simp only[List.cons.injEq,Value.pointer.injEq,Option.some.injEq,and_true]at ax;subst ax;cases aO;exact⟨bh,ag,a6⟩
 | cq k v=>
  rw[(Ml h).2]at W;exact xd.mono W bm (c1.refl _ _) rfl
 | gi e t=>
  obtain⟨v,ax,h⟩:=Mj h;rw[ax]at W;obtain⟨aT,cs,T,E,U,ag,a6,bM,dt,gK,iU⟩:=W;obtain⟨m,_,_,fz⟩:=xQ (F':=F') (H':=H') aS bm aB t h;refine⟨aT,cs,T,E,U,ag,a6,bM,λj aE re=>?_,fz ai _ gK,iU⟩;obtain⟨bh,d1,d2⟩:=dt j aE re;exact⟨bh,d1,fb e bm (c1.refl _ _) d2⟩
theorem afN:∀ (l:List (Nat×b5)) {x:pG l} {m:List Nat},xG H f l=some (x,m)->∀ b,eO (hk c8 l x) b=⟨0,.fx⟩\/
  ∃ iL,eO (hk c8 l x) b=⟨0,iL⟩/\oR (H (f b)).body iL/\∃ t,(b,t)∈l/\∀ k,iL.bY k=true->t.C'=true:=by
 intro l;induction l with
 | nil=>intro x m _ b;exact .inl rfl
 | cons q l aH=>
  intro x m h b;obtain⟨df,dJ⟩:=q;simp only[xG]at h;obtain⟨⟨dw,E,U⟩,ag,a6⟩:=b5.Tj dJ h;by_cases e:b=df
  ·subst e;exact .inr ⟨_,by simp only[hk,eO,if_true],ag,dJ,by simp,a6⟩
  ·rcases aH E b with k | ⟨iL,aQ,aV,t,bK,fz⟩
   ·exact .inl (by simpa [hk,eO,e]using k)
   ·exact .inr ⟨iL,by simpa [hk,eO,e]using aQ,aV,t,List.mem_cons_of_mem _ bK,fz⟩
theorem afO:∀ (l:List (Nat×b5)) {x:pG l} {m:List Nat},xG H f l=some (x,m)->gN H m:=by
 intro l;induction l with
 | nil=>intro x m h;cases h;exact .nil H
 | cons q l aH=>intro x m h;exact b5.Dj q.2 h λy m hm=>aH hm
theorem afP(aS:∀ b,cC P H κ F w b)(bm:∀ r,F r->F' r)(aB:sJ f H H'):∀ (l:List (Nat×b5)) {x:pG l} {m:List Nat},xG H f l=some (x,m)->iX H κ F' m->∀ b,jF P H' (λb=>κ (f b)) F' w (κ (f b)) (eO (hk c8 l x) b).body:=by
 intro l;induction l with
 | nil=>intro x m _ _ b;trivial
 | cons q l aH=>
  intro x m h hm b;obtain⟨df,dJ⟩:=q;simp only[xG]at h;obtain⟨⟨dw,E,U⟩,_⟩:=b5.Tj dJ h;by_cases e:b=df
  ·subst e;simp only[hk,eO,if_true];exact b5.afM aS bm aB dJ h hm
  ·have:=aH E (λc hc=>hm c (U c hc)) b;simpa [hk,eO,e]using this
theorem afQ:∀ (ts:List (Nat×bX)) {c:Nat->aG} {R:Type} {r:Option (R×List Nat)} {z:oO ts R} {l:List Nat},xH H f ts c r=some (z,l)->∀ {i dE aJ L n st},fq (eC c8 ts z).1 i=.aW dE aJ L n st->c i=.aW dE aJ L n st:=by
 intro ts;induction ts with
 | nil=>intro c R r z l _ i dE aJ L n st e;cases e
 | cons p ts aH=>
  intro c R r z l h i dE aJ L n st e;obtain⟨jM,t⟩:=p;simp only[xH]at h;obtain⟨m,E,_⟩:=G4 t h;simp only[eC,fq]at e;split at e
  ·rename_i afR;subst afR;cases t with
   | aW kG=>
    obtain⟨_,ag⟩:=G3 h;rw[ag];exact e
   | _=>cases e
  grind
end
structure G5(C:b8)(s:aA)(a:Act)(w:World)(κ:Nat->bA)(f:Nat->Nat)(F':Nat->Prop)(sh:dF)(D:sh.aj)(bU:List Nat):Prop where
 bS:∀ i,bx C.P (sh.st D).aa (λb=>κ (f b)) F' w ((sh.st D).ay i) (a.tmps.getD i Go.undef)
 bB:∀ b,cC C.P (sh.st D).aa (λb=>κ (f b)) F' w b
 bY:∀ b,((sh.st D).aa b).body.bY (κ (f b))=true->f b ∉ bU/\(s.aa (f b)).body.bY (κ (f b))=true/\b∈sh.oP
 Ao:sJ f s.aa (sh.st D).aa
 aW:∀ l aJ L n st,(sh.st D).ay b4=.aW l aJ L n st->s.ay b4=.aW l aJ L n st
theorem dF.Tk{C:b8}{sh:dF}{f:Nat->Nat}{s:aA}{a:Act}{w:World}{κ:Nat->bA}{F:Nat->Prop}{D:sh.aj}{bU:List Nat}(h:sh.Af f s=some (D,bU))(M:bk C s a w κ F) :
  ∃ F',(∀ r,F r->F' r)/\bk C (s.cy bU) a w κ F'/\G5 C s a w κ f F' sh D bU:=by
 unfold dF.Af at h;split at h
 ·rename_i iK aya oM;split at h
  ·rename_i e8;cases h;obtain⟨m,E,hm⟩:=afH sh.bS oM;have lP:gN s.aa bU:=afJ sh.bS oM λy m hm=>afO sh.bB hm;obtain⟨F',f1,a_,f2⟩:=bk.lk lP M;have Tl:=afN sh.bB E;have ur:sJ f s.aa (sh.st D).aa:=by
    intro b;show (eO (hk c8 sh.bB (eC c8 sh.bS D).2) b).gen=0/\oR (s.aa (f b)).body (eO (hk c8 sh.bB (eC c8 sh.bS D).2) b).body;rcases Tl b with e | ⟨iL,e,k,_⟩
    ·rw[e];exact⟨rfl,oR.fx _⟩
    grind
   obtain⟨m2,_,_,afS⟩:=afF (F':=F') (w:=w) M.bB f1 ur sh.bS oM;refine⟨F',f1,a_,{ bS:=λi=>afS f2 i _ (M.bS i),bB:=λb=>?_,bY:=λb W=>?_,Ao:=ur,aW:=λl aJ L n st e=>afQ sh.bS oM e }⟩
   ·exact afP M.bB f1 ur sh.bB E (λc hc=>f2 c (hm c hc)) b
   ·have al:=(ur b).2.2.2.2.2 _ W;rcases Tl b with e | ⟨iL,e,_,t,aL,ayb⟩
    ·have e:(sh.st D).aa b=_:=e;rw[e]at W;cases W
    ·have e:(sh.st D).aa b=_:=e;rw[e]at W;have bb:b∈sh.oP:=List.mem_filterMap.2 ⟨(b,t),aL,by grind⟩;grind
  grind
 grind
theorem G5.xS{C:b8}{s:aA}{a:Act}{w:World}{κ:Nat->bA}{f:Nat->Nat}{F':Nat->Prop}{sh:dF}{D:sh.aj}{bU:List Nat}(h:G5 C s a w κ f F' sh D bU){b:Nat}(W:((sh.st D).aa b).body.bY (κ (f b))=true) :
  ((s.cy bU).aa (f b)).body.bY (κ (f b))=true:=by
 obtain⟨E,U,_⟩:=h.bY b W;simp only[aA.cy,if_neg E];exact U
theorem Mo{C:b8}{s:aA}{a:Act}{w:World}{κ:Nat->bA}{F:Nat->Prop}(M:bk C s a w κ F){b:Nat}{e:ab} :
  bk C (s.cw b ⟨(s.aa b).gen+1,.bg e []⟩) a w (λi=>if i=b then ⟨0,0,0,true⟩ else κ i) F:=
 M.CR (k:=⟨0,0,0,true⟩) (Nat.lt_succ_self _) (.inl rfl) (Nat.le_refl _) (λ_ _=>rfl) (λh=>by cases h) (dc.refl _) λ_ _=>⟨λ_=>rfl,λh=>by cases h⟩
theorem afT{C:b8}{s:aA}{a:Act}{w:World}{κ:Nat->bA}{F:Nat->Prop}(M:bk C s a w κ F){i b bd g':Nat}(aD:s.ay i=.own bd g'):∃ κ',bk C (L0 s i b bd g') a w κ' F:=by
 unfold L0;split
 ·rename_i e xs aq bR;obtain⟨eB,rfl⟩:=of_decide_eq_true aq;generalize mW:(λj=>if j=b then (⟨(s.aa b).gen+1,.bg e xs⟩:bJ) else if j=bd then ⟨(s.aa bd).gen+1,.fx⟩ else s.aa j)=H';generalize iM:(λj=>if j=b then κ bd else κ j)=κ';have E:H' b=⟨(s.aa b).gen+1,.bg e xs⟩:=by grind
  have U:H' bd=⟨(s.aa bd).gen+1,.fx⟩:=by grind
  have ag:∀ j,j≠b->j≠bd->H' j=s.aa j:=λj aQ aV=>by grind
  have aQ:κ' b=κ bd:=by grind
  have bK:∀ j,j≠b->κ' j=κ j:=λj k=>by grind
  have ai:fp s.aa κ H' κ':=by
   rw[Ci];intro j;by_cases ax:j=b
   ·subst ax;rw[E];exact⟨Nat.le_succ _,λe=>absurd e (Nat.ne_of_lt (Nat.lt_succ_self _))⟩
   ·by_cases aO:j=bd
    ·subst aO;rw[U];exact⟨Nat.le_succ _,λe=>absurd e (Nat.ne_of_lt (Nat.lt_succ_self _))⟩
    ·rw[ag j ax aO,bK j ax];exact qn.refl _ _
  have gl:∀ j,(H' j).body.bY (κ' j)=true->(j=b/\(s.aa bd).body.bY (κ bd)=true)\/(j≠b/\j≠bd/\(s.aa j).body.bY (κ j)=true):=λj aE=>by
   by_cases ax:j=b
   ·grind
   ·by_cases aO:j=bd
    ·subst aO;rw[U]at aE;cases aE
    grind
  have h:=M.move (H':=H') (κ':=κ') (F':=F) (w':=w) ai (λ_ h=>h) (λ_ h=>.inl h) (Nat.le_refl _) (λ_ _ _=>rfl) (dc.refl w)
   (λ_ j=>by
    by_cases ax:j=b
    ·subst ax;have aS:=M.bB bd;unfold cC at aS ⊢;rw[bR]at aS;rw[E,aQ];exact aS
    ·by_cases aO:j=bd
     ·subst aO;unfold cC;rw[U];trivial
     ·exact cC.lg (M.bB j) ai (λ_ h=>h) (c1.refl _ _) (by grind) (bK j ax) λ_=>rfl)
   (λj aE=>by
    rcases gl j aE with⟨rfl,h⟩ | ⟨ax,_,h⟩
    ·rw[aQ];have:=M.own bd h;grind
    ·rw[bK j ax];have:=M.own j h;grind)
   (λj kf aE fR e=>by
    rcases gl j aE with⟨rfl,h⟩ | ⟨ax,aO,h⟩<;>rcases gl kf fR with⟨rfl,ds⟩ | ⟨Tm,afU,ds⟩
    ·rfl
    ·rw[aQ,bK kf Tm]at e;exact absurd (M.inj bd kf h ds e).symm afU
    ·rw[aQ,bK j ax]at e;exact absurd (M.inj j bd h ds e) aO
    ·rw[bK j ax,bK kf Tm]at e;exact M.inj j kf h ds e)
   M.da
   (λj _ aE=>by
    by_cases ax:j=b
    ·subst ax;rw[E]at aE;rcases aE with aE | aE<;>cases aE
    ·by_cases aO:j=bd
     ·subst aO;rw[U]at aE;rcases aE with aE | aE<;>cases aE
     grind)
  refine⟨κ',{ h with bS:=λj=>?_,dD:=h.dD,dfr:=h.dfr,bB:=h.bB,eK:=λl aJ L n st aY=>?_ }⟩
  ·show bx C.P _ _ F w (if j=i then .own b ((s.aa b).gen+1) else s.ay j) _;split
   ·rename_i e;subst e;have ae:=M.bS j;rw[aD]at ae;have im:=ae.2 rfl (by rw[bR];rfl);rw[bR]at im;exact⟨⟨by grind,ae.1.2⟩,λ_ _=>by grind⟩
   ·exact h.bS j
  ·have aY:(if b4=i then .own b ((s.aa b).gen+1) else s.ay b4)=.aW l aJ L n st:=aY;split at aY
   ·cases aY
   ·exact h.eK l aJ L n st aY
 grind
theorem afV{C:b8}{bs:List (Nat×b5)}{s:aA}{a:Act}{w:World}{κ:Nat->bA}{F:Nat->Prop}(M:bk C s a w κ F)(i b:Nat):∃ κ',bk C (L1 bs s i b) a w κ' F:=by
 unfold L1;split
 ·rename_i e aD _;have h:=Mo M (b:=b) (e:=e);refine⟨_,{ h with bS:=λj=>?_,dD:=h.dD,dfr:=h.dfr,bB:=h.bB,eK:=λl aJ L n st aY=>?_ }⟩
  ·show bx C.P _ _ F w (if j=i then .own b ((s.aa b).gen+1) else s.ay j) _;split
   ·rename_i e;subst e;have ae:=M.bS j;rw[aD]at ae;have ae:a.tmps.getD j undef=.slice none 0 0:=ae;rw[ae];exact⟨⟨by simp[aA.cw],rfl⟩,λ_ _=>by simp[bA.slice]⟩
   ·exact h.bS j
  ·have aY:(if b4=i then .own b ((s.aa b).gen+1) else s.ay b4)=.aW l aJ L n st:=aY;split at aY
   ·cases aY
   ·exact h.eK l aJ L n st aY
 ·rename_i aD _;exact afT M aD
 grind
theorem afW{C:b8}{bs:List (Nat×b5)}{s:aA}{a:Act}{w:World}{κ:Nat->bA}{F:Nat->Prop}(M:bk C s a w κ F)(c j b:Nat):∃ κ',bk C (L2 bs s c j b) a w κ' F:=by
 unfold L2;split
 ·rename_i t f hc;split
  ·rename_i e ar aq _;have Tn:c≠b:=λe=>by grind
   have h:=Mo M (b:=b) (e:=e);have iG:(s.cw b ⟨(s.aa b).gen+1,.bg e []⟩).aa c=s.aa c:=by simp[aA.cw,Tn]
   have aS:=h.bB c;unfold cC at aS;rw[iG,hc]at aS;obtain⟨cs,T,E,U,ag⟩:=aS;refine⟨_,h.pt (w':=w) (b:=c) (x:=⟨(s.aa c).gen,.cells t λq=>if q=j then .own b ((s.aa b).gen+1) else f q⟩) (by rw[iG,hc];rfl) rfl
    (rf (by rw[iG]) (λ_=>by rw[iG,hc];rfl) (λh=>by cases h) (λh=>by cases h) (λh=>by cases h)) (λ_=>by rw[iG,hc];rfl) (λh=>by cases h) (λ_ _=>rfl) rfl (dc.refl _) λH mW ai _=>?_⟩
   refine⟨cs,T,E,U,λq bp=>⟨?_,(ag q bp).2⟩⟩;show bx C.P H _ F w (if q=j then .own b ((s.aa b).gen+1) else f q) _;split
   ·rename_i eq;subst eq;have ae:=(ag q bp).1;rw[ar]at ae;have ae:cs.getD q undef=.slice none 0 0:=ae;rw[ae];have afX:H b=⟨(s.aa b).gen+1,.bg e []⟩:=by rw[mW];simp[aA.cw,Ne.symm Tn]
    exact⟨⟨by grind,rfl⟩,λ_ _=>by rw[afX];simp[bA.slice]⟩
   ·exact bx.later ai (λ_ h=>h) (c1.refl _ _) (ag q bp).1
  grind
 grind
theorem afY{C:b8}(sh:dF){s:aA}{a:Act}{w:World}{κ:Nat->bA}{F:Nat->Prop}(M:bk C s a w κ F):∃ κ',bk C (sh.GG s) a w κ' F:=by
 have E:∀ (l:List (Nat×bX)) (s:aA) (κ:Nat->bA),bk C s a w κ F->∃ κ',bk C (GC sh.bB l s) a w κ' F:=by
  intro l;induction l with
  | nil=>intro s κ h;exact⟨κ,h⟩
  | cons p l aH=>
   intro s κ h;simp only[GC];split
   ·obtain⟨κ',ds⟩:=afV (bs:=sh.bB) h p.1 _;exact aH _ _ ds
   grind
 have U:∀ (c:Nat) (l:List bX) (j:Nat) (s:aA) (κ:Nat->bA),bk C s a w κ F->∃ κ',bk C (GD sh.bB c l j s) a w κ' F:=by
  intro c l;induction l with
  | nil=>intro j s κ h;exact⟨κ,h⟩
  | cons t l aH=>
   intro j s κ h;simp only[GD];split
   ·obtain⟨κ',ds⟩:=afW (bs:=sh.bB) h c j _;exact aH _ _ _ ds
   ·exact aH _ _ _ h
 have ag:∀ (l:List (Nat×b5)) (s:aA) (κ:Nat->bA),bk C s a w κ F->∃ κ',bk C (GF sh.bB l s) a w κ' F:=by
  intro l;induction l with
  | nil=>intro s κ h;exact⟨κ,h⟩
  | cons p l aH=>
   intro s κ h;simp only[GF];split
   ·obtain⟨κ',ds⟩:=U p.1 _ 0 s κ h;exact aH _ _ ds
   grind
 obtain⟨afZ,gP⟩:=E sh.bS s κ M;exact ag sh.bB _ _ gP
theorem To:∀ (l:List (Nat×b5)) (x:pG l) (b:Nat),(eO (hk c8 l x) b).body.fe=true->∃ q∈l,q.1=b/\q.2.S0=true
 | [],_,_,h=>by cases h
 | p::l,x,b,h=>by
  simp only[hk,eO]at h;by_cases e:b=p.1
  ·rw[if_pos e]at h;refine⟨p,by simp,e.symm,?_⟩;obtain⟨jM,t⟩:=p;cases t<;>first | rfl | cases h
  ·rw[if_neg e]at h;obtain⟨q,E,U⟩:=To l _ b h;grind
theorem dF.Ap{C:b8}{sh:dF}{s:aA}{a:Act}{w:World}{D:sh.aj}{κ:Nat->bA}{F:Nat->Prop}(h:sh.jb s=some D)(M:bk C s a w κ F):∃ κ' F',(∀ r,F r->F' r)/\bk C (sh.st D) a w κ' F':=by
  obtain⟨κ,M⟩:=afY sh M;unfold dF.jb at h;generalize sh.GG s=s at h M;split at h;case h_2=>cases h
  rename_i af0;simp only[Option.map_eq_some_iff]at h;obtain⟨⟨iK,bU⟩,h,rfl⟩:=h;obtain⟨F',f1,a_,aq⟩:=dF.Tk h M;have gl:=λb W=>aq.xS (b:=b) W;exact⟨κ, F', f1, { a_ with
    dD:=a_.dD,dfr:=a_.dfr,bS:=aq.bS,bB:=aq.bB,own:=λb W=>a_.own b (gl b W),inj:=λb bd W dd=>a_.inj b bd (gl b W) (gl bd dd)
    jG:=λb r M hc=>a_.jG b r M (hc.imp (λhc=>by
      have aT:=(aq.Ao b).2.1 hc;simp only[aA.cy];split
      · rcases zM s.aa (s.aa b) with e | ⟨_,_,ah,_⟩ | ⟨_,_,_,ah,_⟩ | ⟨_,_,_,_,_,_,e⟩
        · grind
        · rw[ah]at aT;cases aT
        · rw[ah]at aT;cases aT
        · rw[e];rfl
      omega) (λhc=>by
      have aT:=(aq.Ao b).2.2.2.1 hc;simp only[aA.cy];split
      · rcases zM s.aa (s.aa b) with e | ⟨_,_,ah,_⟩ | ⟨_,_,_,_,e⟩ | ⟨_,_,_,_,ah,_,_⟩
        · grind
        · rw[ah]at aT;cases aT
        · rw[e];rfl
        · rw[ah]at aT;cases aT
      omega))
    kv:=λb k al _ a8=>by
      obtain⟨b',a2,_⟩:=(aq.Ao b).2.2.1 a8;have aB:(s.aa b).gen=0:=by
        rcases To sh.bB (eC c8 sh.bS iK).2 b a8 with⟨q,bp,rfl,jn⟩
        have:=List.all_eq_true.1 af0 q bp;rw[jn]at this;have Gp:=M.j9 _ k al;grind
      obtain⟨aQ,aV⟩:=M.kv b k al aB b';grind
    eK:=λl aJ L n st e=>by
      obtain⟨E,U,Y,ag,a6,bM⟩:=a_.eK l aJ L n st (aq.aW l aJ L n st e);grind }⟩
theorem dF.xQ{C:b8}{sh:dF}{s:aA}{a:Act}{w:World}{D:sh.aj}(h:sh.jb s=some D)(M:cr C s a w):cr C (sh.st D) a w:=by
 obtain⟨κ,F,M⟩:=M;obtain⟨κ',F',_,a_⟩:=dF.Ap h M;exact⟨κ',F',a_⟩
end Go.Fer
namespace Go.Fer
open Go.RowKit
def af1(C:b8)(o:Oper)(s:aA)(cc:hX):Prop:=
 ∀ (a:Act) (w:World) (Q:Exit->Act->World->Prop) (K:Act->World->Prop),cr C s a w->cc.ca->A.cu cc.m (λy=>∀ a' w',cr C (cc.st y) a' w'->K a' w')->o.wpIn (dQ C.r) 0 C.P a w K Q
def af2(C:b8)(o:Oper)(s:aA)(cc:hX):Prop:=
 ∀ gs,cc.Db=some gs->(∀ y a w,cr C (cc.st y) a w->cr C (gs true y) a w)/\∀ a w,cr C s a w->cr C (gs false cc.d) (a.put o.dst Go.undef) w
structure qE(C:b8)(o:Oper)(s:aA)(cc:hX):Prop where
 prog:af1 C o s cc
 ayc:af2 C o s cc
 ayd:ry (aZ C.aN s.ay) o->cc.ca
theorem cr.Mp{C:b8}{s:aA}{d:Option Nat}{av av':aG}{a:Act}{w:World}(h:cr C (s.set d av) a w)
  (aq:∀ i,d=some i->i<C.nt) (ae:∀ κ F v,bx C.P s.aa κ F w av v->bx C.P s.aa κ F w av' v):cr C (s.set d av') a w:=by
 cases d with
 | none=>exact h
 | some d=>
  obtain⟨κ,F,h⟩:=h;have au:=h.gj;have xf:=aq d rfl;have aL:b4≠d:=by unfold b4 eP at *;omega
  refine⟨κ,F,{ h with bS:=λi=>?_,dD:=h.dD,dfr:=h.dfr,bB:=h.bB,eK:=λl aJ L n st e=>h.eK l aJ L n st ?_ }⟩
  ·have G:=h.bS i;simp only[aA.set]at G ⊢;grind
  ·simp only[aA.set,if_neg aL]at e ⊢;exact e
section
variable {C:b8} {T:Nat->ab} {be:Nat->Option aM} {o:Oper} {s:aA}
theorem Dk{args:List Operand}(W:ry (aZ C.aN s.ay) o)(a8:∀ x∈args,x∈o.op.operands.toList):jK (args.map (aZ C.aN s.ay)):=
 C3 λv ae=>by
  simp only[List.mem_map]at ae;obtain⟨p,an,rfl⟩:=ae;exact W p (a8 p an)
theorem Tp(bf:∀ i,o.dst=some i->i<C.nt){aW:ab}{bU:List Nat}(lP:gN s.aa bU){d:aW.aj} :
  (∀ (y:aW.aj) a w,cr C (rB s o aW bU (rh aW y)) a w->cr C (rB s o aW bU (.hD true (rh aW y))) a w)/\∀ a w,cr C s a w->cr C (rB s o aW bU (.hD false (rh aW d))) (a.put o.dst Go.undef) w:=by
 refine⟨λy a w h=>cr.Mp h bf λκ F v ae=>⟨λ_=>ae,λh=>(by cases h)⟩,λa w h=>?_⟩;obtain⟨κ,F,M⟩:=h;obtain⟨F',_,a_,_⟩:=bk.lk lP M;unfold rB;split
 ·exact⟨κ,F,M.set bf ⟨λh=>(by cases h),λ_=>rfl⟩⟩
 ·exact⟨κ,F',a_.set bf ⟨λh=>(by cases h),λ_=>rfl⟩⟩
theorem af3(bf:∀ i,o.dst=some i->i<C.nt){k:Nat}{args:Array Operand}{dn:Array TypeId}(af:o.op=.call { callee:=.value (.func k),args:=args,argTypes:=dn }){du:hI}(ar:h6 C.P k du.ts du.aW du.sh){cc:hX}
  (h:Dc C.aN s o args.toList du=some cc):qE C o s cc:=by
 unfold Dc at h;split at h
 ·rename_i x bU ah;cases h;refine⟨λa w Q K M bb hm=>?_,λgs oS=>?_,λW=>Dk W λx ah=>by rw[af];simp[Op.operands,Call.operands];simp_all⟩
  ·obtain⟨κ,F,M⟩:=M;exact Sn M ar bf af bb ah hm.1 λy w' aR v kh=>hm.2 y aR _ _ kh
  ·cases oS;exact Tp bf (qy _ ah)
 grind
theorem af4(bf:∀ i,o.dst=some i->i<C.nt){k:Nat}{args:Array Operand}{dn:Array TypeId}(af:o.op=.call { callee:=.value (.func k),args:=args,argTypes:=dn }){du:hI}(ar:h6 C.P k du.ts du.aW du.sh)(Dl:Rv C.P k du.ts du.aW du.sh){cc:hX}
  (h:GL C.aN s o args.toList du=some cc):qE C o s cc:=by
 unfold GL at h;split at h
 ·rename_i x bU ah;cases h;refine⟨λa w Q K M bb hm=>?_,λgs oS=>(by grind),λW=>Dk W λx ah=>by rw[af];simp[Op.operands,Call.operands];simp_all⟩;obtain⟨κ,F,M⟩:=M;obtain⟨args⟩:=args;have c6:(execOp a.eval o).run C.P w=.ok (.enter k (args.map a.eval).toArray) w:=by
   simp only[execOp,af,Sem.run_bind,resolve,Act.eval,Deferred.ofValue,Sem.run_pure,Result.andThen_ok,invoke];have:=ar.enter (args.map a.eval).toArray w;grind
  obtain⟨F',f1,a_,f2⟩:=bk.lk (qy _ ah) M;have dW:fo C.P du.ts F' w (args.map a.eval) x:=by
   refine vx M.bB f1 du.ts ah f2 (by simp) λi G dI=>?_;simp only[List.getElem_map];have dz:i<args.length:=by grind
   have E:=sq bb i (by grind);have ax:(args.map (aZ C.aN s.ay)).getD i .undef=aZ C.aN s.ay args[i]:=by grind
   rw[show (List.map (aZ C.aN s.ay) (⟨args⟩:Array Operand).toList)=args.map (aZ C.aN s.ay) from rfl,ax]at E;exact pw (kc M args[i]) E
  refine CX (by grind) c6 (Dl.iV F' w _ x a_.da a_.iC dW hm.1) λe w' ⟨v,y,he,aR,gn,W⟩=>⟨v,he,hm.2 y aR _ _ ⟨κ,_,(M.grow W).set bf (CW ?_)⟩⟩
  obtain⟨aC,df,dJ,mX⟩:=gn;exact⟨aC,df,dJ,fb _ (λr M=>.inr M) (c1.refl _ _) mX⟩
 grind
theorem af5(bf:∀ i,o.dst=some i->i<C.nt){t:Nat}{args:Array Operand}{dn:Array TypeId}(af:o.op=.call { callee:=.value (.tmp t),args:=args,argTypes:=dn }){cc:hX}
  (h:Dd C.aN s o t args.toList=some cc):qE C o s cc:=by
 unfold Dd at h;split at h
 ·rename_i ca aJ b f hu;split at h
  ·rename_i x bU ah;cases h;obtain⟨args⟩:=args;refine⟨λa w Q K M bb hm=>?_,λgs oS=>?_,λW=>⟨?_,Dk W λx ah=>by rw[af];simp[Op.operands,Call.operands];simp_all⟩⟩
   ·obtain⟨κ,F,M⟩:=M;obtain⟨F',f1,a_,f2⟩:=bk.lk (qy _ ah) M;have dW:fo C.P aJ F' w (args.map a.eval) x:=by
     refine vx M.bB f1 aJ ah f2 (by simp) λi G dI=>?_;simp only[List.getElem_map];have dz:i<args.length:=by grind
     have E:=sq bb.2 i (by grind);have ax:(args.map (aZ C.aN s.ay)).getD i .undef=aZ C.aN s.ay args[i]:=by grind
     rw[show (List.map (aZ C.aN s.ay) (⟨args⟩:Array Operand).toList)=args.map (aZ C.aN s.ay) from rfl,ax]at E;exact pw (kc M args[i]) E
    have G6:bx C.P s.aa κ F w (use (aZ C.aN s.ay (.tmp t))).2 (a.eval (.tmp t)):=cM M (.tmp t) hu bb.1 |> λh=>by
     have e:use (aZ C.aN s.ay (.tmp t))=(ca,.val (.fn aJ b) f):=hu;grind
    have e:use (aZ C.aN s.ay (.tmp t))=(ca,.val (.fn aJ b) f):=hu;rw[e]at G6;obtain⟨_,u,xT,_,tK⟩:=(dT rfl).1 G6;have xT:a.eval (.tmp t)=u:=(List.cons.inj xT).1;obtain⟨g,cZ,aB,sK,Mq⟩:=tK F' w f1 (c1.refl _ _) a_.da a_.iC (args.map a.eval) x dW.1 dW.2 hm.1;have c6:(execOp a.eval o).run C.P w=.ok (.enter g ((args.map a.eval).toArray++cZ)) w:=by
     have ae:a.eval (.tmp t)=.func (.func g) #[] cZ:=xT.trans aB;simp only[execOp,af,Sem.run_bind,resolve,ae,Deferred.ofValue,Sem.run_pure,Result.andThen_ok,invoke];grind
    refine CX (by grind) c6 Mq λe w' ⟨v,y,aC,he,aR,E,U,ag,W⟩=>⟨v,he,hm.2 y aR _ _ ?_⟩
    have gn:tN C.P b (vg F' w w') w' v y:=⟨aC,E,U,ag⟩
    unfold rB;by_cases an:b.pure=true
    ·rw[if_pos an];have aB:=M.grow W;refine⟨κ,_,aB.set bf (CW ?_)⟩;exact⟨aC,E,Sl an ⟨U,ag⟩⟩
    ·rw[if_neg an];have aB:=a_.grow W;exact⟨κ,_,aB.set bf (CW gn)⟩
   ·cases oS;exact Tp bf (qy _ ah)
   ·have:=W (.tmp t) (by rw[af];simp[Op.operands,Call.operands]);have e:use (aZ C.aN s.ay (.tmp t))=(ca,.val (.fn aJ b) f):=hu;grind
  grind
 grind
theorem af6(aU:dR C.P T)(bf:∀ i,o.dst=some i->i<C.nt){ty:TypeId}{x:Operand}(af:o.op=.range ty x){cc:hX}(h:GP C.aN T s o ty x=some cc):qE C o s cc:=by
 unfold GP at h;split at h
 ·rename_i k v d aL aq;split at h;rename_i ca av hu;split at h
  ·rename_i es bU pz;split at h
   ·cases h
   ·rename_i ub;cases h;have ub:d ∉ bU:=by grind
    obtain⟨i,j,G,_,_⟩:=(aU.cb aL (by simp)).mp;refine⟨λa w Q K M bb hm=>?_,λgs oS=>(by grind),λW=>ry.use W (by rw[af];simp[Op.operands]) hu⟩;obtain⟨κ,F,M⟩:=M;obtain⟨F',f1,a_,f2⟩:=bk.lk (mV pz) M;have ae:=cM M x hu bb;have nX:=((dT rfl).1 (mr M.bB f1 pz f2 ae)).2;have iM:=hm.2 () rfl;have pC:(s.cy bU).aa d=s.aa d:=by simp only[aA.cy];grind
    have fin:∀ (cq:Obj),(∀ w',w'=w.alloc cq->xd C.P k v F' w' w.heap.size none es)->(execOp a.eval o).run C.P w=.ok (.value (.pointer (some ⟨w.heap.size,0,none⟩))) (w.alloc cq)->o.wpIn (dQ C.r) 0 C.P a w K Q:=by
     intro cq hit c6;have E:=a_.alloc (b:=d) (x:=⟨(s.aa d).gen+1,.cq k v none es⟩) (M.gp (bf d aq)) (by grind) (o:=cq) (k:=⟨w.heap.size,0,0,false⟩) rfl λH κ' _ _ _=>hit _ rfl;refine hx (by grind) c6 (iM _ _ ⟨_,F',bk.set (s:=(s.cy bU).cw d _) E bf ⟨⟨by simp[aA.cw],rfl⟩,λ_ _=>by simp⟩⟩)
    rcases nX with⟨ax,rfl⟩ | ⟨r,ms,clk,ax,m1,m2,m3,m4,m5,m6⟩
    ·have ah:a.eval x=.map none:=(List.cons.inj ax).1;refine fin (.mapIter none 0 #[] 0) (λw' hw=>.inl ⟨by rw[hw];exact qo _ _,rfl,rfl⟩) ?_;simp[execOp,af,Instr.range,dA G,ah]
    ·have ah:a.eval x=.map (some r):=(List.cons.inj ax).1;refine fin (.mapIter (some r) clk #[] clk) (λw' hw=>.inr ⟨r,ms,clk,#[],m1,?_,by rw[hw];exact qo _ _,λi G=>(m5 i (by omega) G).2.2.2.2,m6,?_,λc hc=>by cases hc⟩) ?_
     ·rw[hw,pr _ _ (a_.da r m1)];exact m2
     ·refine⟨List.range ms.size,by grind,List.nodup_range,λi=>by simp,λj aE fR=>?_⟩;have xv:j<ms.size:=by omega
      obtain⟨aQ,aV,bK,fz,_⟩:=m5 j fR xv;refine⟨by grind,?_⟩;simp only[List.getElem_range];have he:c1 F' w w':=by rw[hw];exact c1.alloc a_.da _
      exact zq.mono ⟨aQ,aV,bK,fz⟩ (λ_ h=>h) he
     ·have eT:(getObj r).run C.P w=.ok (.map ms clk) w:=by simp[getObj,Sem.run,m2]
      simp[execOp,af,Instr.range,dA G,ah,eT]
  grind
 grind
theorem af7(bf:∀ i,o.dst=some i->i<C.nt){x:Operand}(af:o.op=.entry x){cc:hX}(h:GS C.aN s o x=some cc):qE C o s cc:=by
 unfold GS at h;split at h
 ·rename_i b g ah;split at h
  ·rename_i aB;split at h
   ·rename_i k v c ck W;cases h;refine⟨λa w Q K M _ hm=>?_,λgs oS=>(by grind),λ_=>trivial⟩;obtain⟨κ,F,M⟩:=M;have ae:=kc M x;rw[ah]at ae;have ae:=ae.2 aB.symm (by rw[W];rfl);have aS:=M.bB b;unfold cC at aS;rw[W]at aS;have fi:=A.kR.1 hm;have iM:=A.d_.1 fi.2;obtain⟨c',jN⟩:=Option.isSome_iff_exists.1 fi.1;subst jN;rcases aS with⟨_,_,e⟩ | ⟨lK,es,clk,seen,E,U,ag,a6,bM,_,gK⟩
    ·cases e
    ·obtain⟨i,G,aD,he⟩:=gK c' rfl;have vy:es.find? (λe=>e.born == es[i].born)=some es[i]:=by
      rw[<-Array.find?_toList];have jR:es[i]∈es.toList:=by simp
      cases ar:es.toList.find? (λe=>e.born == es[i].born) with
      | none=>grind
      | some e=>
       have iU:=List.find?_some ar;have qk:=List.mem_of_find?_eq_some ar;obtain⟨j,aE,rfl⟩:=List.mem_iff_getElem.1 qk;grind
     have Dm:(getObj (κ b).aa).run C.P w=.ok (.mapIter (some lK) clk seen clk) w:=by simp[getObj,Sem.run,ag]
     have xy:(getObj lK).run C.P w=.ok (.map es clk) w:=by simp[getObj,Sem.run,U]
     have c6:(execOp a.eval o).run C.P w=.ok (.value (.tuple #[es[i].key,es[i].val])) w:=by
      simp[execOp,af,Instr.entry,ae,Dm,xy,aD,vy]
     refine hx (by grind) c6 (iM _ _ ⟨κ,F,M.set bf ⟨[es[i].key,es[i].val],rfl,rfl,λn au=>?_⟩⟩);match n,au with
     | 0,_=>exact⟨he.1,he.2.1⟩
     | 1,_=>exact⟨he.2.2.1,he.2.2.2⟩
   grind
  grind
 grind
theorem af8{es:Array MapEntry}{seen:Array Nat}{clk:Nat}(a6:∀ i (h:i<es.size),es[i].born<clk) :
  (es.filter λe=>!seen.contains e.born).filter (λe=>decide (e.born<clk))=(es.filter λe=>!seen.contains e.born)/\(es.filter λe=>!seen.contains e.born).filter (λe=>decide (e.born>=clk))=#[]:=by
 have fF:∀ e∈es.filter λe=>!seen.contains e.born,e.born<clk:=by
  intro e he;have:=(Array.mem_filter.1 he).1;obtain⟨i,G,rfl⟩:=Array.mem_iff_getElem.1 this;grind
 constructor
 ·exact Array.filter_eq_self.2 λe he=>by grind
 ·exact Array.filter_eq_empty_iff.2 λe he=>by grind
theorem af9(P:Program)(w:World)(n:Nat):∃ j w',(choose (.mapNext n)).run P w=.ok j w'/\(0<n->j<n)/\(w'=w\/w'=w.drew):=by
 rw[run_choose];by_cases h:n<=1
 ·have:(Question.mapNext n).forced=true:=by simp[Question.forced,h]
  rw[this];grind
 ·have:(Question.mapNext n).forced=false:=by simp[Question.forced];omega
  rw[this];exact⟨_,_,rfl,λau=>Nat.mod_lt _ au,.inr rfl⟩
theorem af_(bf:∀ i,o.dst=some i->i<C.nt){x:Operand}{str:Bool}(af:o.op=.next x str){cc:hX}(h:GR C.aN s o x str=some cc):qE C o s cc:=by
  unfold GR at h;split at h
  · rename_i b g ah
    split at h
    · rename_i aB
      split at h
      · rename_i k v c ck W
        cases h
        refine⟨λa w Q K M _ hm=>?_,λgs oS=>(by grind),λ_=>trivial⟩
        obtain⟨κ,F,M⟩:=M
        have ae:=kc M x
        rw[ah]at ae
        have ae:=ae.2 aB.symm (by rw[W];rfl)
        have aS:=M.bB b
        unfold cC at aS
        rw[W]at aS
        have aq:∀ c,o.op≠.defer c:=by grind
        have gg:∀ w',(w'=w\/w'=w.drew)->ck=[]->(execOp a.eval o).run C.P w=.ok (.value (.tuple #[.bool false])) w'->o.wpIn (dQ C.r) 0 C.P a w K Q:=by
          intro w' Dn sL c6;have cL:bk C s a w' κ F:=by
            rcases Dn with rfl | rfl
            · exact M
            · exact M.drew
          have Si:s.cw b ⟨g,.cq k v c ck⟩=s:=by
            unfold aA.cw;congr 1;funext i;by_cases G:i=b
            · rw[if_pos G,G,<-W,<-aB]
            grind
          refine hx aq c6 (hm.2 none sL _ _ ⟨κ,F,bk.set (s:=s.cw b ⟨g,.cq k v c ck⟩) (by grind) bf ⟨[.bool false],rfl,rfl,λn au=>?_⟩⟩);have:n=0:=by simp only[S9]at au;omega
          subst this;exact fc.2 rfl
        rcases aS with⟨E,U,_⟩ | ⟨lK,es,clk,seen,E,U,ag,a6,bM,⟨ids,i1,i2,i3,i4⟩,gK⟩
        · refine gg w (.inl rfl) U ?_
          have Dm:(getObj (κ b).aa).run C.P w=.ok (.mapIter none 0 #[] 0) w:=by simp[getObj,Sem.run,E]
          simp[execOp,af,Instr.next,ae,Dm]
        · have Dm:(getObj (κ b).aa).run C.P w=.ok (.mapIter (some lK) clk seen clk) w:=by simp[getObj,Sem.run,ag]
          have xy:(getObj lK).run C.P w=.ok (.map es clk) w:=by simp[getObj,Sem.run,U]
          obtain⟨f1,f2⟩:=af8 (seen:=seen) a6
          have fF:(!seen.isEmpty&&!es.isEmpty&&es.all (λe=>decide (e.born>=clk)))=false:=by
            by_cases he:es.size=0
            · grind
            · have:es.all (λe=>decide (e.born>=clk))=false:=by
                rw[Array.all_eq_false];exact⟨0,by omega,by grind⟩
              grind
          generalize af':(es.filter λe=>!seen.contains e.born)=left at f1 f2
          have aga:((if left.isEmpty=true then #[none] else #[])++Array.map some (left++(#[]:Array MapEntry)))=(if left.isEmpty=true then #[none] else Array.map some left):=by
            grind
          obtain⟨j,w',bC,c2,c3⟩:=af9 C.P w (if left.isEmpty=true then #[none] else Array.map some left).size
          have cT:w'.heap=w.heap:=by rcases c3 with rfl | rfl<;>rfl
          have Aq : ∀ r c7, (match (if left.isEmpty = true then #[none] else Array.map some left)[j]? with
                | some (some e)=>(do setObj (κ b).aa (.mapIter (some lK) clk (seen.push e.born) clk);pure (.tuple #[.bool true,e.key,e.val]):Sem Value)
                | some none=>pure (.tuple #[.bool false])
                | none => stuck "Next: no such candidate").run C.P w' = .ok r c7 -> (execOp a.eval o).run C.P w = .ok (.value r) c7 := by
            intro r c7 cL;simp only[execOp,af,Instr.next,ae,Sem.run_bind,Dm,Result.andThen_ok,xy,fF,Bool.false_eq_true,if_false,af',f1,f2,aga,bC];exact (congrArg (λ(z:Result Value)=>z.andThen λv w'=>Sem.run C.P (Pure.pure (Next.value v)) w') cL).trans rfl
          by_cases hle:left.isEmpty=true
          · have K7:left=#[]:=by grind
            have sL:ck=[]:=by
              have:ids=[]:=List.eq_nil_iff_forall_not_mem.2 λi G=>by
                obtain⟨Mr,dz⟩:=(i3 i).1 G;have:es[i]∈left:=by
                  grind
                grind
              grind
            rw[hle]at Aq c2
            simp only[if_true]at Aq c2
            have aE:j=0:=by grind
            subst aE
            exact gg w' c3 sL (Aq _ _ rfl)
          · have hle:left.isEmpty=false:=by grind
            rw[hle]at Aq c2
            simp only[Bool.false_eq_true,if_false]at Aq c2
            have aye:0<left.size:=by
              grind
            have aE:j<left.size:=by grind
            have jR:left[j]∈(es.filter λe=>!seen.contains e.born):=by grind
            obtain⟨ud,Tq⟩:=Array.mem_filter.1 jR
            obtain⟨i0,oN,agb⟩:=Array.mem_iff_getElem.1 ud
            have agc:i0∈ids:=(i3 i0).2 ⟨oN,by grind⟩
            obtain⟨q,bp,Ms⟩:=List.mem_iff_getElem.1 agc
            have Mt:q<ck.length:=by omega
            have pA:(setObj (κ b).aa (.mapIter (some lK) clk (seen.push left[j].born) clk)).run C.P w'=.ok () { w' with heap:=w'.heap.setIfInBounds (κ b).aa (.mapIter (some lK) clk (seen.push left[j].born) clk) }:=by
              simp[setObj,Sem.run,cT,ag]
            have c6:=Aq (.tuple #[.bool true,left[j].key,left[j].val]) { w' with heap:=w'.heap.setIfInBounds (κ b).aa (.mapIter (some lK) clk (seen.push left[j].born) clk) } (by
              rw[show (Array.map some left)[j]?=some (some left[j]) by simp];simp only[Sem.run_bind,pA,Result.andThen_ok,Sem.run_pure])
            have i':dc w w':=by rcases c3 with rfl | rfl<;>exact⟨rfl,rfl,rfl⟩
            have cj:(κ b).aa<w.heap.size:=(Array.getElem?_eq_some_iff.1 ag).1
            have eB:lK≠(κ b).aa:=λe=>(M.own b (by grind)).2.1 (e ▸ E)
            have gq:fp s.aa κ (λi=>if i=b then (⟨g,.cq k v ck[q]? (ck.eraseIdx q)⟩:bJ) else s.aa i) κ:=
              rf aB.symm (λh=>by cases h) (λh=>by cases h) (λh=>by cases h) (λ_=>by rw[W];rfl)
            have gX:=M.pt (b:=b) (x:=⟨g,.cq k v ck[q]? (ck.eraseIdx q)⟩) (w':={ w' with heap:=w'.heap.setIfInBounds (κ b).aa (.mapIter (some lK) clk (seen.push left[j].born) clk) }) (by rw[W];rfl) rfl gq (λh=>by cases h) (λh=>by cases h)
              (λr Ll=>by grind) (by grind) ⟨i'.os,i'.tape,i'.output⟩ λH _ _ he=>by
                refine .inr ⟨lK,es,clk,seen.push left[j].born,E,?_,by grind,a6,bM,⟨ids.eraseIdx q,?_,?_,λi=>?_,λn au C2=>?_⟩,λc' jN=>?_⟩
                · grind
                · grind
                · grind
                · rw[List.mem_eraseIdx_iff_getElem]
                  constructor
                  · rintro⟨n,au,G7,rfl⟩
                    obtain⟨lZ,pL⟩:=(i3 ids[n]).1 (by simp)
                    refine⟨lZ,?_⟩
                    simp only[Array.contains_push,Bool.or_eq_false_iff]
                    refine⟨pL,?_⟩
                    rw[<-agb]
                    simp only[beq_eq_false_iff_ne,ne_eq]
                    intro e
                    have:ids[n]=i0:=bM _ _ lZ oN (by omega)
                    exact G7 ((List.getElem?_inj au i2).1 (by grind))
                  · rintro⟨lZ,pL⟩
                    simp only[Array.contains_push,Bool.or_eq_false_iff]at pL
                    obtain⟨n,au,rfl⟩:=List.mem_iff_getElem.1 ((i3 i).2 ⟨lZ,pL.1⟩)
                    grind
                · have vI:(ids.eraseIdx q)[n]=if h:n<q then ids[n]'(by omega) else ids[n+1]'(by grind):=by
                    rw[List.getElem_eraseIdx]
                  have Tr:(ck.eraseIdx q)[n]=if h:n<q then ck[n]'(by omega) else ck[n+1]'(by grind):=by
                    rw[List.getElem_eraseIdx]
                  have hlen:n+1<ids.length:=by grind
                  by_cases G7:n<q
                  · obtain⟨lZ,pL⟩:=i4 n (by omega) (by omega)
                    simp only[vI,Tr,G7,dif_pos]
                    exact⟨lZ,pL.mono (λ_ h=>h) he⟩
                  · obtain⟨lZ,pL⟩:=i4 (n+1) hlen (by omega)
                    simp only[vI,Tr,G7,dif_neg,not_false_eq_true]
                    exact⟨lZ,pL.mono (λ_ h=>h) he⟩
                · rw[List.getElem?_eq_getElem Mt]at jN
                  cases jN
                  obtain⟨lZ,pL⟩:=i4 q bp Mt
                  refine⟨i0,oN,by grind,?_⟩
                  have ax:es[ids[q]]=es[i0]:=by congr 1
                  rw[ax]at pL
                  exact pL.mono (λ_ h=>h) he
            refine hx aq c6 (hm.2 (some q) Mt _ _ ⟨κ,F,bk.set (s:=s.cw b _) gX bf ⟨[.bool true,left[j].key,left[j].val],rfl,rfl,λn au=>?_⟩⟩)
            match n,au with
            | 0,_=>exact fc.2 rfl
            | 1,_=>trivial
            | 2,_=>trivial
      grind
    grind
  grind
end
end Go.Fer
namespace Go.Fer
open Go.RowKit
def Dp:z9'->List Value->List Value->Prop
 | [],[],aC=>aC=[]
 | none::g,u::us,aC=>∃ se,aC=u::se/\Dp g us se
 | some n::g,u::us,aC=>∃ cs se,u=.agg cs/\cs.size=n/\(∀ c∈cs.toList,c.oneCell'=true)/\aC=cs.toList++se/\Dp g us se
 | _,_,_=>False
def G8(g:z9')(v:Value)(aC:List Value):Prop:=∃ us:List Value,us.length=g.length/\v=(if us.length=1 then us.getD 0 undef else .tuple us.toArray)/\Dp g us aC
structure cQ(P:Program)(aP:dC)(k:FuncId)(c:cJ):Prop where
 enter:∀ args w,(callFunc k args).run P w=.ok (.enter k args) w
 iV:∀ (C:b8) (a:Act) (w:World) (κ:Nat->bA) (F:Nat->Prop) (D:c.cm.aj),C.P=P->C.w0=w->C.r=none->C.dfr=[]->C.nt=c.kk->C.aN=aP->bk C (c.cm.st D) a w κ F->(c.sh D).b1->
  Calls P k a.tmps w λe w'=>∃ v bl aC κ' F',e=.returned v/\(c.sh D).bQ bl/\G8 c.kH v aC/\bk { C with nt:=aC.length } (c.bQ.st bl) { tmps:=aC.toArray,defers:=[] } w' κ' F'
section
variable {P:Program} {H H':Nat->bJ} {κ κ':Nat->bA} {F:Nat->Prop} {w:World} {g:Nat->Nat×Nat}
def pM(H H':Nat->bJ)(κ κ':Nat->bA)(g:Nat->Nat×Nat):Prop:=∀ b,(H b).gen=0/\qn ⟨(g b).2,(H b).body⟩ (H' (g b).1) (κ b) (κ' (g b).1)
theorem pM.bc(h:pM H H' κ κ' g){b off:Nat}{v:Value}(ae:bx P H κ F w (.bc b 0 off) v):bx P H' κ' F w (.bc (g b).1 (g b).2 off) v:=by
 obtain⟨aT,aQ,aV⟩:=h b;refine⟨⟨aQ,ae.1.2⟩,λaB hc=>?_⟩;obtain⟨bC,c2⟩:=(aV aB).1 hc;rw[c2];exact ae.2 aT.symm bC
theorem pM.av(h:pM H H' κ κ' g)(t:bX){R:Type}(z:t.cons R){v:Value}(ae:bx P H κ F w (t.av c8 z).1 v):bx P H' κ' F w (t.av g z).1 v:=by
 cases t with
 | undef=>trivial
 | val t=>exact ae
 | dU t=>exact ae
 | bc b off=>exact h.bc ae
 | own b=>
  obtain⟨aT,aQ,aV⟩:=h b;refine⟨⟨aQ,ae.1.2⟩,λaB hc=>?_⟩;obtain⟨bC,c2,c3,c4⟩:=(aV aB).2.1 hc;rw[c2,c3];exact ae.2 aT.symm bC
 | sub b=>
  obtain⟨aT,aQ,aV⟩:=h b;refine⟨⟨aQ,ae.1.2⟩,λaB hc=>?_⟩;obtain⟨bC,c2,c3,c4⟩:=(aV aB).2.1 hc;rw[c2,c3,c4];exact ae.2 aT.symm bC
 | fG b=>
  obtain⟨aT,aQ,aV⟩:=h b;refine⟨⟨aQ,ae.1.2⟩,λaB hc=>?_⟩;obtain⟨bC,c2⟩:=(aV aB).2.2.1 hc;rw[c2];exact ae.2 aT.symm bC
 | j8 b=>
  obtain⟨aT,aQ,aV⟩:=h b;refine⟨⟨aQ,ae.1.2⟩,λaB hc=>?_⟩;obtain⟨bC,c2⟩:=(aV aB).2.2.2 hc;rw[c2];exact ae.2 aT.symm bC
 | dm=>exact ae
 | iB k fU=>
  obtain⟨aC,E,U,ag⟩:=ae;refine⟨aC,E,U,λi G=>?_⟩;have:=ag i G;have ax:vC c8 fU i=.bc fU[i].1 0 fU[i].2:=by simp[vC,hi,List.getD_eq_getElem?_getD,G,c8]
  have aO:vC g fU i=.bc (g fU[i].1).1 (g fU[i].1).2 fU[i].2:=by simp[vC,hi,List.getD_eq_getElem?_getD,G]
  rw[ax]at this;rw[aO];exact h.bc this
 | hH bs=>
  obtain⟨aC,E,U,ag⟩:=ae;refine⟨aC,E,U,λi G=>?_⟩;obtain⟨this,jN⟩:=ag i G;refine⟨?_,jN⟩;have ax:vD c8 bs i=.own bs[i] 0:=by simp[vD,hi,List.getD_eq_getElem?_getD,G,c8]
  have aO:vD g bs i=.own (g bs[i]).1 (g bs[i]).2:=by simp[vD,hi,List.getD_eq_getElem?_getD,G]
  rw[ax]at this;rw[aO];obtain⟨aT,aQ,aV⟩:=h bs[i];refine⟨⟨aQ,this.1.2⟩,λaB hc=>?_⟩;obtain⟨bC,c2,c3,c4⟩:=(aV aB).2.1 hc;rw[c2,c3];exact this.2 aT.symm bC
 | iW b=>
  obtain⟨aT,aQ,aV⟩:=h b;refine⟨⟨aQ,ae.1.2⟩,λaB hc=>?_⟩;obtain⟨bC,c2,c3,c4⟩:=(aV aB).2.1 hc;rw[c2,c3,c4];exact ae.2 aT.symm bC
 | aW aJ=>trivial
 | hg=>exact ae
theorem Ar(t:bX){R:Type}(z:t.cons R):(t.av g z).2=(t.av c8 z).2:=by cases t<;>rfl
theorem Ts:∀ (ts:List bX) {R:Type} (z:qB ts R),(pH g ts z).2=(pH c8 ts z).2
 | [],_,_=>rfl
 | t::ts,_,z=>by simp only[pH];rw[Ar (g:=g) t z];exact Ts ts _
theorem Tt(t:b5){R:Type}(z:t.cons R):(t.body g z).2=(t.body c8 z).2:=by
 cases t with
 | cells t l=>exact Ts l z
 | gi e t=>exact Ar t z.2
 | _=>rfl
theorem Mu:∀ (ts:List (Nat×bX)) {R:Type} (z:oO ts R),(eC g ts z).2=(eC c8 ts z).2
 | [],_,_=>rfl
 | p::ts,_,z=>by simp only[eC];rw[Ar (g:=g) p.2 z];exact Mu ts _
theorem pM.avs(h:pM H H' κ κ' g):∀ (ts:List bX) {R:Type} (z:qB ts R) (i:Nat) {v:Value},bx P H κ F w ((pH c8 ts z).1.getD i .undef) v->bx P H' κ' F w ((pH g ts z).1.getD i .undef) v
 | [],_,_,i,v,_=>by simp[pH,bx]
 | t::ts,_,z,i,v,ae=>by
  simp only[pH]at ae ⊢;cases i with
  | zero=>exact h.av t z ae
  | succ i=>
   simp only[List.getD_cons_succ]at ae ⊢;rw[Ar (g:=g) t z];exact h.avs ts _ i ae
theorem pM.bS(h:pM H H' κ κ' g):∀ (ts:List (Nat×bX)) {R:Type} (z:oO ts R) (i:Nat) {v:Value},bx P H κ F w (fq (eC c8 ts z).1 i) v->bx P H' κ' F w (fq (eC g ts z).1 i) v
 | [],_,_,i,v,_=>by simp[eC,fq,bx]
 | p::ts,_,z,i,v,ae=>by
  simp only[eC,fq]at ae ⊢;by_cases e:i=p.1
  ·rw[if_pos e]at ae ⊢;exact h.av p.2 z ae
  ·rw[if_neg e]at ae ⊢;rw[Ar (g:=g) p.2 z];exact h.bS ts _ i ae
theorem Tu:∀ (ts:List (Nat×bX)) {R:Type} (z:oO ts R) (i:Nat) {l aJ L n st},fq (eC g ts z).1 i=.aW l aJ L n st->fq (eC c8 ts z).1 i=.aW l aJ L n st
 | [],_,_,i,_,_,_,_,_,h=>by simp[eC,fq]at h
 | p::ts,_,z,i,l,aJ,L,n,st,h=>by
  simp only[eC,fq]at h ⊢;by_cases e:i=p.1
  ·rw[if_pos e]at h ⊢;obtain⟨jM,t⟩:=p;cases t<;>first | exact h | cases h
  ·rw[if_neg e]at h ⊢;rw[Ar (g:=g) p.2 z]at h;exact Tu ts _ i h
def xU(x y:bP):Prop:=x.fH=y.fH/\x.fe=y.fe/\x.len=y.len/\x.eZ=y.eZ/\x.gW=y.gW/\x.mQ=y.mQ/\∀ k,x.bY k=y.bY k
theorem xU.refl(x:bP):xU x x:=⟨rfl,rfl,rfl,rfl,rfl,rfl,λ_=>rfl⟩
theorem agd(t:b5){R:Type}(z:t.cons R):xU (t.body g z).1 (t.body c8 z).1:=by
 cases t with
 | cells t l=>exact⟨rfl,rfl,rfl,rfl,rfl,rfl,λ_=>rfl⟩
 | gi e t=>exact⟨rfl,rfl,rfl,rfl,rfl,rfl,λ_=>rfl⟩
 | _=>exact xU.refl _
theorem age:∀ (t:ab) (x:t.aj) (av:aG),av∈nS t x->∀ {v:Value},bx P H κ F w av v->bx P H' κ' F w av v:=by
  intro t;induction t with
  | cS=>intro x av h;cases h
  | st t aH=>intro x av h;exact aH x av h
  | az a b fw eJ=>
   intro x av h;rcases List.mem_append.1 h with h | h
   ·exact fw _ av h
   ·exact eJ _ av h
  | array n e aH=>
   intro x av h;simp only[nS,List.mem_flatMap]at h;grind
  | _=>
   intro x av h v ae;simp only[nS,List.mem_singleton]at h;subst h;exact ae
theorem pM.body(h:pM H H' κ κ' g)(t:b5){R:Type}(z:t.cons R){k:bA}(W:jF P H κ F w k (t.body c8 z).1):jF P H' κ' F w k (t.body g z).1:=by
 cases t with
 | cells t l=>
  obtain⟨cs,T,E,U,ag⟩:=W;exact⟨cs,T,E,U,λi G=>⟨h.avs l z i (ag i G).1,(ag i G).2⟩⟩
 | f_ t=>
  obtain⟨cs,T,E,U,ag⟩:=W;refine⟨cs,T,E,U,λi G=>⟨?_,(ag i G).2⟩⟩;have:=(ag i G).1;unfold hi at this ⊢;rw[List.getD_eq_getElem?_getD]at this ⊢;cases ai:(nS t z.1)[i]? with
  | none=>trivial
  | some av=>
   rw[ai]at this;simp only[Option.getD_some]at this ⊢;have jR:=List.mem_of_getElem? ai;exact age t z.1 av jR this
 | bg e=>exact W
 | hE e=>exact W
 | mp k v=>exact W
 | jk k v=>exact W
 | gL t=>exact W
 | cq k v=>exact W
 | gi e t=>
  obtain⟨aT,cs,T,E,U,ag,a6,bM,dt,gK,iU⟩:=W;exact⟨aT,cs,T,E,U,ag,a6,bM,dt,h.av t z.2 gK,iU⟩
theorem Tv{l:List (Nat×b5)}{x y:pG l}(h:x=y)(g:Nat->Nat×Nat)(b:Nat):eO (hk g l x) b=eO (hk g l y) b:=by rw[h]
theorem Tw:∀ (l:List (Nat×b5)) (x:pG l) (b:Nat),xU (eO (hk g l x) b).body (eO (hk c8 l x) b).body
 | [],_,_=>xU.refl _
 | p::l,x,b=>by
  simp only[hk,eO];split
  ·exact agd p.2 x
  ·rw[Tt (g:=g) p.2 x];exact Tw l _ b
theorem pM.bB(h:pM H H' κ κ' g):∀ (l:List (Nat×b5)) (x:pG l) (b:Nat) {k:bA},jF P H κ F w k (eO (hk c8 l x) b).body->jF P H' κ' F w k (eO (hk g l x) b).body
 | [],_,_,k,_=>trivial
 | p::l,x,b,k,W=>by
  simp only[hk,eO]at W ⊢;split
  ·rename_i e;rw[if_pos e]at W;exact h.body p.2 x W
  ·rename_i e;rw[if_neg e]at W;rw[Tt (g:=g) p.2 x];exact h.bB l _ b W
theorem Mv:∀ (l:List (Nat×bP)) (b:Nat),(eO l b).gen=0
 | [],_=>rfl
 | p::l,b=>by
  simp only[eO];split
  ·rfl
  ·exact Mv l b
end
end Go.Fer
namespace Go.Fer
open Go.RowKit
theorem G9{ak:Type}{k:ak->Nat}:∀ {l:List ak},(l.map k).Nodup->∀ {p:ak},p∈l->l.find? (λq=>k q == k p)=some p
 | [],_,_,h=>by cases h
 | a::l,au,p,h=>by
  simp only[List.map_cons,List.nodup_cons]at au;by_cases e:k a=k p
  ·grind
  ·rw[List.find?_cons_of_neg (by grind)];rcases List.mem_cons.1 h with rfl | h
   ·omega
   ·exact G9 au.2 h
theorem Dq{ak:Type}{k:ak->Nat}{l:List ak}(au:(l.map k).Nodup){p q:ak}(an:p∈l)(bp:q∈l)(e:k p=k q):p=q:=by
 have E:=G9 au an;rw[e,G9 au bp]at E;grind
theorem Tx:∀ {l:z6'},(l.map (·.1)).Nodup->∀ {p},p∈l->hY l p.1=p.2
 | [],_,_,h=>by cases h
 | a::l,au,p,h=>by
  simp only[List.map_cons,List.nodup_cons]at au;simp only[hY];by_cases e:p.1=a.1
  ·grind
  ·rw[if_neg e];rcases List.mem_cons.1 h with rfl | h
   ·omega
   ·exact Tx au.2 h
theorem Ty:∀ {l:z6'} {b:Nat},b ∉ l.map (·.1)->hY l b=(nf,0)
 | [],_,_=>rfl
 | a::l,b,h=>by
  simp only[List.map_cons,List.mem_cons,not_or]at h;simp only[hY];rw[if_neg h.1];exact Ty h.2
theorem Tz(s:aA)(d:Nat)(f:Nat->Nat)(ins:List Nat):∀ (l:List (Nat×b5)) (j:Nat),(sE s d f ins l j).map (·.1)=l.map (·.1)
 | [],_=>rfl
 | p::l,j=>by
  simp only[sE,List.map_cons,Tz s d f ins l (j+1)];grind
theorem TA(s:aA)(d:Nat)(f:Nat->Nat)(ins:List Nat):∀ (l:List (Nat×b5)) (j:Nat) {p:Nat×(Nat×Nat)},p∈sE s d f ins l j->
  (p.1∈ins/\p.2.1=f p.1/\∃ t,(p.1,t)∈l/\((p.2.2=(s.aa (f p.1)).gen/\((∀ (g:Nat->Nat×Nat) (R:Type) (z:t.cons R),(t.body g z).1.fe=false)\/(xe<=p.1/\∃ e,t=.bg e)))\/p.2.2=(s.aa (f p.1)).gen+1))\/
  (p.1 ∉ ins/\p.2.2=(s.aa p.2.1).gen+1/\50000+10*d+j<=p.2.1/\p.2.1<50000+10*d+j+l.length)
 | [],_,p,h=>by cases h
 | q::l,j,p,h=>by
  simp only[sE,List.mem_cons]at h;rcases h with h | h
  ·by_cases bp:ins.contains q.1=true
   ·rw[if_pos bp]at h;subst h;refine .inl ⟨by grind,rfl,q.2,by simp,?_⟩;obtain⟨df,t⟩:=q;cases t with
    | bg e=>
     grind
    | _=>first | exact .inr rfl | exact .inl ⟨rfl,.inl λ_ _ _=>rfl⟩
   grind
  ·rcases TA s d f ins l (j+1) h with⟨E,U,t,ag,a6⟩ | ⟨E,U,ag,a6⟩
   ·exact .inl ⟨E,U,t,List.mem_cons_of_mem _ ag,a6⟩
   ·exact .inr ⟨E,U,by omega,by simp only[List.length_cons];omega⟩
theorem G_(g:Nat->Nat×Nat):∀ (l:List (Nat×b5)) (x:pG l) (b:Nat),(eO (hk g l x) b=⟨0,.fx⟩/\b ∉ l.map (·.1))\/∃ q∈l,q.1=b/\∃ (R:Type) (z:q.2.cons R),eO (hk g l x) b=⟨0,(q.2.body g z).1⟩
 | [],_,_=>.inl ⟨rfl,by simp⟩
 | p::l,x,b=>by
  simp only[hk,eO];by_cases e:b=p.1
  ·grind
  ·rw[if_neg e];rcases G_ g l (p.2.body g x).2 b with⟨E,U⟩ | ⟨q,E,U⟩
   ·exact .inl ⟨E,by rw[List.map_cons,List.mem_cons,not_or];exact⟨e,U⟩⟩
   ·exact .inr ⟨q,List.mem_cons_of_mem _ E,U⟩
theorem agf{t u:b5}(h:t.Gz u=true){g g':Nat->Nat×Nat}{R Mw:Type}(z:t.cons R)(mw:u.cons Mw) :
  ((t.body g z).1.fH=true->(u.body g' mw).1.fH=true/\∀ k,(u.body g' mw).1.bY k=true)/\((t.body g z).1.gW=true->(u.body g' mw).1.gW=true/\∀ k,(u.body g' mw).1.bY k=true)/\(t.body g z).1.mQ=false:=by
 cases t<;>cases u<;>first
  | exact Bool.noConfusion h
  | exact⟨λ_=>⟨rfl,λ_=>rfl⟩,λh=>Bool.noConfusion h,rfl⟩
  | exact⟨λh=>Bool.noConfusion h,λ_=>⟨rfl,λ_=>rfl⟩,rfl⟩
  | exact⟨λh=>Bool.noConfusion h,λh=>Bool.noConfusion h,rfl⟩
theorem xV:∀ (ts:List (Nat×bX)) {R:Type} (g:Nat->Nat×Nat) (z:oO ts R) (i:Nat),ts.any (λp=>p.1 == i)=false->fq (eC g ts z).1 i=.undef
 | [],_,_,_,_,_=>rfl
 | p::ts,_,g,z,i,h=>by
  simp only[List.any_cons,Bool.or_eq_false_iff,beq_eq_false_iff_ne]at h;simp only[eC,fq];rw[if_neg (Ne.symm h.1)];exact xV ts g _ i h.2
theorem Mx{P:Program}{H:Nat->bJ}{κ:Nat->bA}{F:Nat->Prop}{w:World}:∀ (g:z9') {us aC:List Value},Dp g us aC->∀ (c:Nat->aG) (i:Nat),(∀ j,j<aC.length->bx P H κ F w (c (i+j)) (aC.getD j undef))->
  (pI g c i).length=g.length/\us.length=g.length/\∀ j,j<g.length->bx P H κ F w ((pI g c i).getD j .undef) (us.getD j undef)
 | [],[],aC,_,_,_,_=>⟨rfl,rfl,λj aE=>by cases aE⟩
 | [],_::_,_,h,_,_,_=>h.elim
 | none::g,[],_,h,_,_,_=>h.elim
 | some n::g,[],_,h,_,_,_=>h.elim
 | none::g,u::us,aC,h,c,i,ae=>by
  obtain⟨se,rfl,h⟩:=h;obtain⟨E,U,ag⟩:=Mx g h c (i+1) λj aE=>by
   have:=ae (j+1) (by grind);rw[show i+(j+1)=i+1+j by omega]at this;simpa using this
  refine⟨by simp[pI,E],by grind,λj aE=>?_⟩;cases j with
  | zero=>simpa [pI]using ae 0 (by simp)
  | succ j=>simpa [pI]using ag j (by grind)
 | some n::g,u::us,aC,h,c,i,ae=>by
  obtain⟨cs,se,rfl,au,nY,rfl,h⟩:=h;obtain⟨E,U,ag⟩:=Mx g h c (i+n) λj aE=>by
   have:=ae (n+j) (by grind);rw[show i+(n+j)=i+n+j by omega]at this;have e:(cs.toList++se).getD (n+j) undef=se.getD j undef:=by
    grind
   rw[e]at this;omega
  refine⟨by simp[pI,E],by grind,λj aE=>?_⟩;cases j with
  | zero=>
   simp only[pI,List.getD_cons_zero];refine⟨cs.toList,by simp,by omega,λj aE=>?_⟩;grind
  | succ j=>simpa [pI]using ag j (by grind)
theorem agh{P:Program}{H:Nat->bJ}{κ:Nat->bA}{F:Nat->Prop}{w:World}{g:z9'}{v:Value}{aC:List Value}(h:G8 g v aC){c:Nat->aG}(ae:∀ j,bx P H κ F w (c j) (aC.getD j undef)) :
  bx P H κ F w (L6 (pI g c 0)) v:=by
 obtain⟨us,E,U,ag⟩:=h;obtain⟨aQ,_,bK⟩:=Mx g ag c 0 (λj _=>by simpa using ae j);subst U;generalize pI g c 0=l at aQ bK;unfold L6;split
 ·grind
 ·rename_i ai;have eB:us.length≠1:=λe=>by
   have:l.length=1:=by omega
   match l,this with
   | [x],_=>grind
  rw[if_neg eB];refine⟨us,rfl,by omega,λi G=>?_⟩;unfold hi;grind
section
variable {C:b8} {s:aA} {a:Act} {w:World} {κ:Nat->bA} {F:Nat->Prop}
theorem bk.args(M:bk C s a w κ F){avs:List aG}{us:List Value}(au:us.length<=eP)(ai:avs.length=us.length)(ae:∀ i,i<us.length->bx C.P s.aa κ F w (avs.getD i .undef) (us.getD i undef)) :
    bk { C with nt:=us.length,dfr:=[],r:=none } (sD s avs) { tmps:=us.toArray,defers:=[] } w κ F:=
  { M with
    dD:=by simp,dfr:=rfl,gj:=au
    bS:=λi=>by
      show bx C.P s.aa κ F w (if i=b4 then s.ay b4 else if i<avs.length then avs.getD i .undef else .undef) (us.toArray.getD i undef);split
      · rename_i e
        subst e
        have E:=M.bS b4
        have U:a.tmps.getD b4 undef=undef:=by
          have:=M.dD;have:=M.gj;rw[Array.getD_eq_getD_getElem?,Array.getElem?_eq_none (by unfold b4 eP at *;omega)];rfl
        have ag:us.toArray.getD b4 undef=undef:=by
          rw[Array.getD_eq_getD_getElem?,Array.getElem?_eq_none (by simp only[List.size_toArray];unfold b4 eP at *;omega)];rfl
        grind
      · split
        · simp_all
        · trivial
    bB:=M.bB
    eK:=λl aJ L n st e=>M.eK l aJ L n st (by simpa [sD]using e) }
def rI(C:b8)(w:World)(F':Nat->Prop)(n:Nat)(own Y:Nat->Prop)(ik:(Nat->Option Nat)×(Nat->Option (bA×Nat))):b8:=
 { C with w0:=w,F0:=F',K0:=λr=>r<w.heap.size/\¬own r/\¬Y r,nt:=n,dfr:=[],r:=none,ik:=ik.1,KA:=ik.2 }
structure Dr(C:b8)(s:aA)(w:World)(κ:Nat->bA)(F:Nat->Prop)(sl:aG)(Y:Nat->Prop):Prop where
 eK:∀ l aJ L n st,sl=.aW l aJ L n st->(∃ I,C.cc=⟨l,aJ,L,I⟩)/\C.cc.hC C.P/\C.cc.at aJ n st F Y w
 low:∀ r,Y r->r<w.heap.size/\¬F r/\¬C.K0 r
 own:∀ b,(s.aa b).body.bY (κ b)=true->¬Y (κ b).aa
 G':sl=.undef->∀ r,¬Y r
theorem bk.agi(M:bk C s a w κ F){sl:aG}(h:∀ l aJ L n st,sl=.aW l aJ L n st->s.ay b4=.aW l aJ L n st):∃ Y,Dr C s w κ F sl Y:=by
 by_cases aD:∃ l aJ L n st,sl=.aW l aJ L n st
 ·obtain⟨l,aJ,L,n,st,e⟩:=aD;obtain⟨E,U,Y,ag,a6,bM⟩:=M.eK l aJ L n st (h _ _ _ _ _ e);refine⟨Y,⟨λdE kG e3 iZ iv aY=>?_,ag,a6,λaY=>?_⟩⟩
  ·rw[e]at aY;cases aY;exact⟨E,U,bM⟩
  ·rw[e]at aY;cases aY
 ·exact⟨λ_=>False,⟨λl aJ L n st e=>(aD ⟨l,aJ,L,n,st,e⟩).elim,λ_ h=>h.elim,λ_ _ h=>h,λ_ _ h=>h⟩⟩
theorem agj{C1:b8}{ev:aA}{b':Act}{F':Nat->Prop}{bU:List Nat}{f:Nat->Nat}{sh:dF}{D:sh.aj}{Y:Nat->Prop}{ids:List Nat}(js:C1.P=C.P)(tY:C1.aN=C.aN)(rJ:C1.dfr=[])
  (gP:bk C1 (ev.cy bU) b' w κ F') (aq:G5 C1 ev b' w κ f F' sh D bU) (iH:Dr C (ev.cy bU) w κ F' ((sh.st D).ay b4) Y)
  (ar:∀ b bd,b∈sh.oP->bd∈sh.oP->f b=f bd->b=bd) (hid:∀ b∈ids,eP<=b) :
  bk (rI C w F' C1.nt (λr=>∃ b,((sh.st D).aa b).body.bY (κ (f b))=true/\(κ (f b)).aa=r) Y (λb=>if b∈ids then some (κ (f b)).aa else none,λb=>if b∈ids/\xe<=b then some (κ (f b),((sh.st D).aa b).body.len) else none)) (sh.st D) b' w (λb=>κ (f b)) F' where
 dD:=gP.dD
 dfr:=gP.dfr.trans rJ
 bS:=λi=>by have:=aq.bS i;rw[js]at this;exact this
 bB:=λb=>by have:=aq.bB b;rw[js]at this;exact this
 own:=λb W=>by
  have E:=gP.own (f b) (aq.xS W);exact⟨E.1,E.2.1,λh=>h.2.1 ⟨b,W,rfl⟩⟩
 inj:=λb bd W dd e=>ar b bd (aq.bY b W).2.2 (aq.bY bd dd).2.2 (gP.inj _ _ (aq.xS W) (aq.xS dd) e)
 da:=gP.da
 hh:=λr M=>.inl M
 hS:=λr M=>M
 hv:=λr M=>M.1
 eG:=λ_ _=>rfl
 size:=Nat.le_refl _
 ep:=dc.refl _
 gj:=gP.gj
 ku:=λb r h=>by
  simp only[rI]at h;grind
 jG:=λb r h _=>by
  simp only[rI]at h;grind
 j9:=λb k h=>by
  simp only[rI]at h;grind
 kv:=λb k h _ _=>by
  simp only[rI]at h;grind
 eK:=λl aJ L n st e=>by
  obtain⟨E,U,ag⟩:=iH.eK l aJ L n st e;exact⟨E,U,Y,λr M=>⟨(iH.low r M).1,(iH.low r M).2.1,λh=>h.2.2 M⟩,λb W=>iH.own _ (aq.xS W),ag⟩
 jH:=by have:=gP.jH;rw[js,tY]at this;exact this
 iC:=by have:=gP.iC;rw[js]at this;exact this
structure TB(s:aA)(κ:Nat->bA)(ik:(Nat->Option Nat)×(Nat->Option (bA×Nat)))(bs:List (Nat×bP))(cg:z6'):Prop where
 dN:(cg.map (·.1)).Nodup
 ei:(cg.map (·.2.1)).Nodup
 fx:nf ∉ cg.map (·.2.1)
 agk:(s.aa nf).body=.fx
 TC:∀ p∈cg,(p.2.1<eP/\(s.aa p.2.1).gen<p.2.2)\/
  (((eO bs p.1).body.fH=true->(s.aa p.2.1).body.fH=true/\ik.1 p.1=some (κ p.2.1).aa)/\((eO bs p.1).body.gW=true->(s.aa p.2.1).body.gW=true/\ik.1 p.1=some (κ p.2.1).aa)/\(eO bs p.1).body.mQ=false/\
   ((p.2.2=(s.aa p.2.1).gen/\((eO bs p.1).body.fe=true->(s.aa p.2.1).body.fe=true/\(eO bs p.1).body.eZ=(s.aa p.2.1).body.eZ/\ik.2 p.1=some (κ p.2.1,(s.aa p.2.1).body.len)))\/p.2.2=(s.aa p.2.1).gen+1))
theorem agl{F' own Y:Nat->Prop}{sl:aG}{n:Nat}{ik:(Nat->Option Nat)×(Nat->Option (bA×Nat))}{ins:List Nat}{bQ:dF}{bl:bQ.aj}{aC:List Value}{w':World}{ng:Nat->bA}{ej:Nat->Prop}
    (M:bk C s a w κ F') (iH:Dr C s w κ F' sl Y) (gl:∀ r,own r->∃ b,b∈ins/\(s.aa b).body.bY (κ b)=true/\(κ b).aa=r)
    (hK:bk { rI C w F' n own Y ik with nt:=aC.length } (bQ.st bl) { tmps:=aC.toArray,defers:=[] } w' ng ej)
    {cg:z6'} (gm:TB s κ ik (hk (hY cg) bQ.bB (eC (hY cg) bQ.bS bl).2) cg)
    {H':Nat->bJ} {κn:Nat->bA} (As:∀ p∈cg,H' p.2.1=⟨p.2.2,(eO (hk (hY cg) bQ.bB (eC (hY cg) bQ.bS bl).2) p.1).body⟩/\κn p.2.1=ng p.1)
    (Ds:∀ b,b ∉ cg.map (·.2.1)->κn b=κ b/\(b∈ins->H' b=⟨(s.aa b).gen+1,.fx⟩)/\(b ∉ ins->H' b=s.aa b))
    {X:aG} (iN:X=fq (eC (hY cg) bQ.bS bl).1 b4\/X=.undef\/(X=s.ay b4/\sl=.undef)) :
    bk C ⟨λi=>if i=b4 then X else s.ay i,H'⟩ a w' κn ej/\
    ∀ i,bx C.P H' κn ej w' (fq (eC (hY cg) bQ.bS bl).1 i) (aC.toArray.getD i undef):=by
  generalize Dt:hk (hY cg) bQ.bB (eC (hY cg) bQ.bS bl).2=bs at gm As;have rz:∀ b,xU (eO bs b).body ((bQ.st bl).aa b).body:=λb=>by
    rw[<-Dt,Tv (Mu bQ.bS bl)];exact Tw bQ.bB (eC c8 bQ.bS bl).2 b
  have Du:pM (bQ.st bl).aa H' ng κn (hY cg):=by
    intro b;refine⟨Mv _ b,?_⟩;by_cases W:b∈cg.map (·.1)
    · obtain⟨p,an,rfl⟩:=List.mem_map.1 W
      rw[Tx gm.dN an]
      obtain⟨E,U⟩:=As p an
      rw[E,U]
      obtain⟨aQ,aV,bK,fz,pD,xW,_⟩:=rz p.1
      exact⟨Nat.le_refl _,λ_=>⟨λh=>⟨aQ ▸ h,rfl⟩,λh=>⟨aV ▸ h,rfl,bK,fz⟩,λh=>⟨pD ▸ h,rfl⟩,λh=>⟨xW ▸ h,rfl⟩⟩⟩
    · rw[Ty W]
      obtain⟨_,U,ag⟩:=Ds nf gm.fx
      have aq:(H' nf).body=.fx:=by
        by_cases G:nf∈ins
        · grind
        · rw[ag G];exact gm.agk
      refine⟨Nat.zero_le _,λ_=>?_⟩
      show ((H' nf).body.fH=true->_)/\((H' nf).body.fe=true->_)/\((H' nf).body.gW=true->_)/\((H' nf).body.mQ=true->_)
      rw[aq]
      exact⟨λh=>(by cases h),λh=>(by cases h),λh=>(by cases h),λh=>(by cases h)⟩
  have Ha:∀ b,(∃ p∈cg,p.2.1=b)\/b ∉ cg.map (·.2.1):=λb=>by
    grind
  have Hb:∀ p∈cg,∀ r,ik.1 p.1=some r->(eO bs p.1).body.fH=true\/(eO bs p.1).body.gW=true->(ng p.1).aa=r:=λp an r M h=>by
    obtain⟨aQ,_,_,_,pD,_⟩:=rz p.1;exact hK.jG p.1 r M (h.imp (λh=>aQ ▸ h) (λh=>pD ▸ h))
  have agm:∀ p∈cg,∀ k,ik.2 p.1=some k->(eO bs p.1).body.fe=true->ng p.1=k.1/\(eO bs p.1).body.len=k.2:=λp an k al h=>by
    obtain⟨_,aV,bK,_⟩:=rz p.1;obtain⟨E,U⟩:=hK.kv p.1 k al (Mv _ _) (aV ▸ h);grind
  have ai:fp s.aa κ H' κn:=by
    rw[Ci];intro b;rcases Ha b with⟨p,an,rfl⟩ | W
    · obtain⟨E,U⟩:=As p an
      rw[E,U]
      rcases gm.TC p an with⟨_,h⟩ | ⟨hc,hm,hit,h⟩
      · exact⟨Nat.le_of_lt h,λe=>(by grind)⟩
      · rcases h with⟨h,e8⟩ | h
        · refine⟨Nat.le_of_eq h.symm,λ_=>⟨λh=>⟨(hc h).1,Hb p an _ (hc h).2 (.inl h)⟩,λh=>?_,λh=>⟨(hm h).1,Hb p an _ (hm h).2 (.inr h)⟩,λh=>?_⟩⟩
          · have h:(eO bs p.1).body.fe=true:=h
            obtain⟨b',a2,a3⟩:=e8 h
            obtain⟨dr,eb⟩:=agm p an _ a3 h
            exact⟨b',dr,eb,a2⟩
          · have h:(eO bs p.1).body.mQ=true:=h
            rw[hit]at h;cases h
        · exact⟨by grind,λe=>(by grind)⟩
    · obtain⟨E,U,ag⟩:=Ds b W
      rw[E]
      by_cases G:b∈ins
      · rw[U G]
        exact⟨Nat.le_succ _,λe=>(by grind)⟩
      · rw[ag G];exact qn.refl _ _
  have Au:w.heap.size<=w'.heap.size:=hK.size;have bm:∀ r,F' r->ej r:=hK.hS;have iM:∀ r,r<w.heap.size->¬own r->¬Y r->w'.heap[r]?=w.heap[r]?:=λr E U ag=>hK.eG r ⟨E,U,ag⟩;have vJ:∀ r,C.K0 r->r<w.heap.size:=λr h=>Nat.lt_of_lt_of_le (M.hv r h) M.size;have My:∀ r,own r->¬C.K0 r/\¬F' r:=λr h=>by
    obtain⟨b,_,E,rfl⟩:=gl r h;exact⟨(M.own b E).2.2,(M.own b E).2.1⟩
  have TD:∀ r,¬(r<w.heap.size/\¬own r/\¬Y r)->¬C.K0 r:=λr h al=>h ⟨vJ r al,λaf=>(My r af).1 al,λaR=>(iH.low r aR).2.2 al⟩;have qF:c1 F' w w':=⟨Au,λr h=>iM r (M.da r h) (λaf=>(My r af).2 h) λaR=>(iH.low r aR).2.1 h⟩
  have z8:∀ r,ej r->F' r\/¬(r<w.heap.size/\¬own r/\¬Y r):=hK.hh;have sL:∀ b,b ∉ ins->(s.aa b).body.bY (κ b)=true->(κ b).aa<w.heap.size/\¬own (κ b).aa/\¬Y (κ b).aa:=λb W af=>by
    refine⟨(M.own b af).1,λh=>?_,iH.own b af⟩;obtain⟨bd,E,U,ag⟩:=gl _ h;exact W (M.inj bd b U af ag ▸ E)
  have zw:∀ b,(H' b).body.bY (κn b)=true->(∃ p∈cg,p.2.1=b/\((bQ.st bl).aa p.1).body.bY (ng p.1)=true/\κn b=ng p.1)\/(b ∉ cg.map (·.2.1)/\b ∉ ins/\κn b=κ b/\(s.aa b).body.bY (κ b)=true):=λb W=>by
    rcases Ha b with⟨p,an,rfl⟩ | au
    · obtain⟨E,U⟩:=As p an
      rw[E,U]at W
      exact .inl ⟨p,an,rfl,by rw[<-(rz p.1).2.2.2.2.2.2];exact W,U⟩
    · obtain⟨E,U,ag⟩:=Ds b au
      by_cases G:b∈ins
      · rw[U G]at W;cases W
      grind
  have fj:∀ i,bx C.P H' κn ej w' (fq (eC (hY cg) bQ.bS bl).1 i) (aC.toArray.getD i undef):=λi=>Du.bS bQ.bS bl i (hK.bS i);refine⟨{ dD := M.dD, dfr := M.dfr, bS := λi => ?_, bB := λb => ?_, own := λb W => ?_, inj := λb bd W dd e => ?_, da := hK.da, hh := λr h => ?_, hS := λr h => bm r (M.hS r h), hv := M.hv, eG := λr h => ?_,size:=Nat.le_trans M.size Au,ep:=M.ep.trans hK.ep,gj:=M.gj,ku:=M.ku,jG:=λb r h hc=>?_,j9:=M.j9,kv:=λb k h aT a8=>?_,eK:=λl aJ L m st e=>?_,jH:=M.jH,iC:=hK.iC },fj⟩
  · show bx C.P H' κn ej w' (if i=b4 then X else s.ay i) _
    split
    · rename_i e
      subst e
      have hu:a.tmps.getD b4 undef=undef:=by
        have:=M.dD;have:=M.gj;rw[Array.getD_eq_getD_getElem?,Array.getElem?_eq_none (by unfold b4 eP at *;omega)];rfl
      rcases iN with rfl | rfl | ⟨rfl,_⟩
      · have h:=fj b4
        have Mz:aC.toArray.getD b4 undef=undef:=by
          have:aC.length<=eP:=hK.gj;rw[Array.getD_eq_getD_getElem?,Array.getElem?_eq_none (by simp only[List.size_toArray];unfold b4 eP at *;omega)];rfl
        grind
      · trivial
      · exact bx.later ai bm qF (M.bS b4)
    · exact bx.later ai bm qF (M.bS i)
  · show jF C.P H' κn ej w' (κn b) (H' b).body
    rcases Ha b with⟨p,an,rfl⟩ | au
    · obtain⟨E,U⟩:=As p an
      rw[E,U,<-Dt,Tv (Mu bQ.bS bl)]
      exact Du.bB bQ.bB (eC c8 bQ.bS bl).2 p.1 (hK.bB p.1)
    · obtain⟨E,U,ag⟩:=Ds b au
      by_cases G:b∈ins
      · rw[U G];trivial
      · have:=cC.lg (H':=H') (κ':=κn) (M.bB b) ai bm qF (by grind) E λaf=>iM _ (sL b G af).1 (sL b G af).2.1 (sL b G af).2.2
        exact this
  · rcases zw b W with⟨p,an,_,E,U⟩ | ⟨_,E,U,ag⟩
    · have:=hK.own p.1 E
      rw[U]
      exact⟨this.1,this.2.1,TD _ this.2.2⟩
    · rw[U]
      have a6:=M.own b ag
      grind
  · rcases zw b W with⟨p,an,rfl,E,U⟩ | ⟨_,E,U,ag⟩<;>rcases zw bd dd with⟨p',Cz,rfl,zO,xp⟩ | ⟨_,zO,xp,TE⟩
    · rw[U,xp]at e
      have:=hK.inj _ _ E zO e
      rw[Dq gm.dN an Cz this]
    · rw[U,xp]at e
      exact ((hK.own p.1 E).2.2 (e ▸ sL bd zO TE)).elim
    · rw[U,xp]at e
      exact ((hK.own p'.1 zO).2.2 (e ▸ sL b E ag)).elim
    · rw[U,xp]at e
      exact M.inj b bd ag TE e
  · rcases z8 r h with h | h
    · exact M.hh r h
    grind
  · exact (iM r (vJ r h) (λaf=>(My r af).1 h) λaR=>(iH.low r aR).2.2 h).trans (M.eG r h)
  · have aL:=M.ku b r h
    rcases Ha b with⟨p,an,rfl⟩ | au
    · obtain⟨E,U⟩:=As p an
      simp only[E]at hc
      rcases gm.TC p an with⟨ag,_⟩ | ⟨aQ,aV,_⟩
      · omega
      · rw[U]
        rcases hc with hc | hc
        · rw[Hb p an _ (aQ hc).2 (.inl hc)]
          exact M.jG _ r h (.inl (aQ hc).1)
        · rw[Hb p an _ (aV hc).2 (.inr hc)]
          exact M.jG _ r h (.inr (aV hc).1)
    · obtain⟨E,U,ag⟩:=Ds b au
      by_cases G:b∈ins
      · simp only[U G]at hc
        rcases hc with hc | hc<;>cases hc
      · simp only[ag G]at hc
        rw[E]
        exact M.jG b r h hc
  · have aL:=M.j9 b k h
    have aT:(H' b).gen=0:=aT
    have a8:(H' b).body.fe=true:=a8
    show κn b=k.1/\(H' b).body.len=k.2
    obtain⟨g1,eh⟩:=ai b
    obtain⟨b',a2,a3,_⟩:=(eh (by omega)).2.1 a8
    obtain⟨aQ,aV⟩:=M.kv b k h (by omega) b'
    grind
  · have e:X=.aW l aJ L m st:=by grind
    rcases iN with rfl | rfl | ⟨rfl,agn⟩
    · obtain⟨E,U,gB,ag,a6,bM⟩:=hK.eK l aJ L m st (Tu bQ.bS bl b4 e)
      refine⟨E,U,gB,λr a_=>⟨(ag r a_).1,(ag r a_).2.1,TD r (ag r a_).2.2⟩,λb W aR=>?_,bM⟩
      rcases zw b W with⟨p,an,rfl,aQ,aV⟩ | ⟨_,aQ,aV,bK⟩
      · grind
      · rw[aV]at aR;exact (ag _ aR).2.2 (sL b aQ bK)
    · cases e
    · obtain⟨E,U,gB,ag,a6,bM⟩:=M.eK l aJ L m st e
      have TF:∀ r,gB r->r<w.heap.size/\¬own r/\¬Y r:=λr aR=>⟨(ag r aR).1,λaf=>by
        grind,iH.G' agn r⟩
      have Cj:∀ r,ej r->¬gB r:=λr ar aR=>(z8 r ar).elim (ag r aR).2.1 λh=>h (TF r aR)
      refine⟨E,U,gB,λr aR=>⟨Nat.lt_of_lt_of_le (ag r aR).1 Au,λar=>Cj r ar aR,(ag r aR).2.2⟩,λb W aR=>?_,U.Kz bM bm (λr ar=>?_) Au hK.ep hK.da Cj⟩
      · rcases zw b W with⟨p,an,rfl,aQ,aV⟩ | ⟨_,aQ,aV,bK⟩
        · rw[aV]at aR;exact (hK.own _ aQ).2.2 (TF _ aR)
        grind
      · rcases ar with ar | ar
        · exact qF.2 r ar
        grind
end
end Go.Fer
namespace Go.Fer
open Go.RowKit
section
variable {C:b8} {T:Nat->ab} {o:Oper} {s:aA}
theorem cQ.bD{P:Program}{aP:dC}{k:FuncId}{c:cJ}(ar:cQ P aP k c){C:b8}{a:Act}{w:World}{κ:Nat->bA}{F:Nat->Prop}{D:c.cm.aj}(h:bk C (c.cm.st D) a w κ F)(E:C.P=P)(U:C.w0=w)(ag:C.r=none)(a6:C.dfr=[])(bM:C.nt=c.kk)(dt:C.aN=aP)(aD:(c.sh D).b1) :
  Calls P k a.tmps w λe w'=>∃ v bl aC κ' F',e=.returned v/\(c.sh D).bQ bl/\G8 c.kH v aC/\bk { C with nt:=aC.length } (c.bQ.st bl) { tmps:=aC.toArray,defers:=[] } w' κ' F':=
 ar.iV C a w κ F D E U ag a6 bM dt h aD
theorem TG{C:b8}{s:aA}{MA:Nat->aG}{a b':Act}{w:World}{κ:Nat->bA}{F:Nat->Prop}{dN:Nat}{c:cJ}{f:Nat->Nat}{D:c.cm.aj}{bU:List Nat}{d m:Nat}{cg:z6'}
    (M:bk C s a w κ F) (gP:bk { C with nt:=dN,dfr:=[],r:=none } ⟨MA,s.aa⟩ b' w κ F) (qG:MA b4=s.ay b4)
    (n7:c.cm.Af f ⟨MA,s.aa⟩=some (D,bU)) (TH:sE (s.cy bU) d f c.cm.oP c.bQ.bB 0=cg) (d':De c f (s.cy bU) cg d m=true) :
    ∃ (F' own Y:Nat->Prop) (ik:(Nat->Option Nat)×(Nat->Option (bA×Nat))),(∀ r,F r->F' r)/\bk C (s.cy bU) a w κ F'/\(∀ r,own r->∃ b,((s.cy bU).aa b).body.bY (κ b)=true/\(κ b).aa=r)/\Dr C (s.cy bU) w κ F' ((c.cm.st D).ay b4) Y/\(∀ l aJ L n st,(c.cm.st D).ay b4=.aW l aJ L n st->s.ay b4=.aW l aJ L n st)/\
      bk (rI C w F' dN own Y ik) (c.cm.st D) b' w (λb=>κ (f b)) F'/\
      ∀ MB hF,bk { C with w0:=MB } (s.cy bU) a hF κ F'->Dr C (s.cy bU) hF κ F' ((c.cm.st D).ay b4) Y->∀ (bl:c.bQ.aj) (aC:List Value) (w':World) (ng:Nat->bA) (ej:Nat->Prop),bk { rI C hF F' dN own Y ik with nt:=aC.length } (c.bQ.st bl) { tmps:=aC.toArray,defers:=[] } w' ng ej->
        ∃ κn,bk { C with w0:=MB } (xJ (s.cy bU) c f cg bl) a w' κn ej/\∀ i,bx C.P (xJ (s.cy bU) c f cg bl).aa κn ej w' (fq (eC (hY cg) c.bQ.bS bl).1 i) (aC.toArray.getD i undef):=by
  simp only[De,Bool.and_eq_true,decide_eq_true_eq,Bool.not_eq_true']at d';obtain⟨⟨⟨⟨⟨⟨⟨⟨⟨⟨bC,c2⟩,c3⟩,c4⟩,c5⟩,lO⟩,oK⟩,xn⟩,c9⟩,Hc⟩,_⟩:=d';have c3:(c.cm.bB.map (·.1)).Nodup:=of_decide_eq_true c3;have c4:(c.cm.bB.map λp=>f p.1).Nodup:=of_decide_eq_true c4;have c5:(cg.map (·.1)).Nodup:=of_decide_eq_true c5;have lO:(cg.map (·.2.1)).Nodup:=of_decide_eq_true lO;have xn:nf ∉ cg.map (·.2.1):=λh=>by
    grind
  have c9:((s.cy bU).aa nf).body=.fx:=by
    grind
  obtain⟨F',f1,gP,aq⟩:=dF.Tk n7 gP;have a_ : bk C (s.cy bU) a w κ F' := { gP with
    dD:=M.dD,dfr:=M.dfr,gj:=M.gj,bS:=λi=>bx.later (R7 s bU κ) f1 (c1.refl _ _) (M.bS i)
    bB:=gP.bB
    eK:=λl aJ L n st e=>gP.eK l aJ L n st (by simpa [aA.cy,qG]using e) }
  obtain⟨Y,iH⟩:=a_.agi (sl:=(c.cm.st D).ay b4) λl aJ L n st e=>by simpa [aA.cy,qG]using aq.aW l aJ L n st e
  have hid:∀ b∈c.cm.bB.map (·.1),eP<=b:=λb W=>by grind
  have Hd:∀ b,b∈c.cm.oP->∃ q∈c.cm.bB,q.1=b/\q.2.C'=true:=λb W=>by
    obtain⟨q,bp,e⟩:=List.mem_filterMap.1 W;grind
  have Dv:=agj (C:=C) (C1:={ C with nt:=dN,dfr:=[],r:=none }) (ids:=c.cm.bB.map (·.1)) rfl rfl rfl gP aq ⟨iH.eK,iH.low,iH.own,iH.G'⟩ (λb bd W dd e=>by
    obtain⟨q,bp,rfl,_⟩:=Hd b W;obtain⟨q',tZ,rfl,_⟩:=Hd bd dd;rw[Dq (k:=λp=>f p.1) c4 bp tZ e]) hid
  refine⟨F',_,Y,_,f1,a_,λr ⟨b,W,e⟩=>⟨f b,aq.xS W,e⟩,iH,λl aJ L n st e=>by simpa [aA.cy,qG]using aq.aW l aJ L n st e,Dv,λMB hF Ll He bl aC w' ng ej hK=>?_⟩;have Dt:∀ (b:Nat) (q':Nat×b5),q'∈c.bQ.bB->q'.1=b->b∈c.cm.oP->∀ (R:Type) (z:q'.2.cons R),((q'.2.body (hY cg) z).1.fH=true->((s.cy bU).aa (f b)).body.fH=true)/\((q'.2.body (hY cg) z).1.gW=true->((s.cy bU).aa (f b)).body.gW=true)/\(q'.2.body (hY cg) z).1.mQ=false:=by
    intro b q' tZ e W R z;obtain⟨q,bp,rfl,MC⟩:=Hd b W;have al:=List.all_eq_true.1 (List.all_eq_true.1 Hc q' tZ) q bp;rw[e,MC]at al;simp only[beq_self_eq_true,Bool.and_self,Bool.not_true,Bool.false_or]at al;rcases G_ c8 c.cm.bB (eC c8 c.cm.bS D).2 q.1 with⟨_,U⟩ | ⟨dJ,U,ag,Mw,mw,a6⟩
    · grind
    · obtain rfl:=Dq c3 U bp ag
      have a6:(c.cm.st D).aa dJ.1=⟨0,(dJ.2.body c8 mw).1⟩:=a6
      obtain⟨aQ,aV,bK⟩:=agf al z mw (g:=hY cg) (g':=c8)
      have ur:=aq.Ao dJ.1
      refine⟨λhc=>?_,λhc=>?_,bK⟩
      · have bM:=aq.bY dJ.1 (by grind)
        simp only[aA.cy,if_neg bM.1]
        exact ur.2.1 (by grind)
      · have bM:=aq.bY dJ.1 (by grind)
        simp only[aA.cy,if_neg bM.1]
        exact ur.2.2.2.1 (by grind)
  have ago:cg.map (·.1)=c.bQ.bB.map (·.1):=by rw[<-TH];exact Tz ..
  have gm:TB (s.cy bU) κ (λb=>if b∈c.cm.bB.map (·.1) then some (κ (f b)).aa else none,λb=>if b∈c.cm.bB.map (·.1)/\xe<=b then some (κ (f b),((c.cm.st D).aa b).body.len) else none) (hk (hY cg) c.bQ.bB (eC (hY cg) c.bQ.bS bl).2) cg:=by
    refine⟨c5,lO,xn,c9,λp an=>?_⟩;rw[<-TH]at an;rcases TA _ _ _ _ _ _ an with⟨E,U,t,ag,a6⟩ | ⟨_,U,ag,a6⟩
    · rw[U]
      have jR:p.1∈c.cm.bB.map (·.1):=by
        grind
      rcases G_ (hY cg) c.bQ.bB (eC (hY cg) c.bQ.bS bl).2 p.1 with⟨_,aV⟩ | ⟨q',aQ,aV,R,z,bK⟩
      · grind
      · rw[bK]
        obtain⟨dr,eb,lH⟩:=Dt p.1 q' aQ aV E R z
        have:q'=(p.1,t):=Dq (ago ▸ c5) aQ ag aV
        subst this
        refine .inr ⟨λh=>⟨dr h,if_pos jR⟩,λh=>⟨eb h,if_pos jR⟩,lH,a6.imp (λa6=>⟨a6.1,λe8=>?_⟩) id⟩
        rcases a6.2 with bM | ⟨al,e,rfl⟩
        · grind
        · obtain⟨q,bp,Ms,MC⟩:=Hd p.1 E
          have xX:=List.all_eq_true.1 (List.all_eq_true.1 Hc _ aQ) q bp
          rw[Ms,MC]at xX
          simp only[beq_self_eq_true,Bool.and_self,Bool.not_true,Bool.false_or]at xX
          rcases G_ c8 c.cm.bB (eC c8 c.cm.bS D).2 p.1 with⟨_,xp⟩ | ⟨dJ,m2,m3,Mw,mw,m4⟩
          · grind
          · obtain rfl:=Dq c3 m2 bp (m3.trans Ms.symm)
            have m4:(c.cm.st D).aa p.1=⟨0,(dJ.2.body c8 mw).1⟩:=m4
            obtain⟨df,MD⟩:=dJ
            have xX:b5.Gz (.bg e) MD=true:=xX
            obtain rfl:MD=.bg e:=by
              cases MD<;>first | (simp only[b5.Gz,decide_eq_true_eq]at xX;rw[xX]) | cases xX
            have ur:=aq.Ao p.1
            have agp:((c.cm.st D).aa p.1).body.fe=true:=by rw[m4];rfl
            obtain⟨cf,cI,er⟩:=ur.2.2.1 agp
            have bj:((s.cy bU).aa (f p.1)).body.fe=true/\((s.cy bU).aa (f p.1)).body.len=(s.aa (f p.1)).body.len/\((s.cy bU).aa (f p.1)).body.eZ=(s.aa (f p.1)).body.eZ:=by
              simp only[aA.cy];split
              · rcases zM s.aa (s.aa (f p.1)) with aY | ⟨_,_,ah,aY⟩ | ⟨_,_,_,ah,_⟩ | ⟨_,_,_,_,ah,_,_⟩
                · grind
                · rw[aY,ah];exact⟨rfl,rfl,rfl⟩
                · have cf:(s.aa (f p.1)).body.fe=true:=cf
                  rw[ah]at cf;cases cf
                · have cf:(s.aa (f p.1)).body.fe=true:=cf
                  rw[ah]at cf;cases cf
              grind
            have cI:((c.cm.st D).aa p.1).body.len=(s.aa (f p.1)).body.len:=cI
            have er:((c.cm.st D).aa p.1).body.eZ=(s.aa (f p.1)).body.eZ:=er
            refine⟨bj.1,?_,?_⟩
            · rw[bj.2.2,<-er,m4];rfl
            grind
    · refine .inl ⟨?_,by omega⟩
      unfold eP
      omega
  obtain⟨n8,fj⟩:=agl (ins:=c.cm.oP.map f) (X:=if c.bQ.bS.any (λp=>p.1 == b4) then fq (eC (hY cg) c.bQ.bS bl).1 b4 else if c.cm.bS.any (λp=>p.1 == b4) then .undef else (s.cy bU).ay b4)
    (H':=(xJ (s.cy bU) c f cg bl).aa)
    (κn:=λb=>match cg.find? (λp=>p.2.1 == b) with
      | some p=>ng p.1
      | none=>κ b) Ll ⟨He.eK,He.low,He.own,He.G'⟩ (λr ⟨b,W,e⟩=>⟨f b,List.mem_map_of_mem (aq.bY b W).2.2,aq.xS W,e⟩) hK gm
    (λp an=>by simp only[xJ,G9 (k:=λp=>p.2.1) lO an,and_self]) (λb W=>by
      have au:cg.find? (λp=>p.2.1 == b)=none:=List.find?_eq_none.2 λp an e=>W (List.mem_map.2 ⟨p,an,by grind⟩);simp only[xJ,au,true_and];grind)
    (by
      split
      · simp
      · split
        · simp
        · rename_i U
          exact .inr (.inr ⟨rfl,xV c.cm.bS c8 D b4 (Bool.eq_false_iff.2 U)⟩))
  exact⟨_,n8,fj⟩
theorem TI(bf:∀ i,o.dst=some i->i<C.nt){f0:Operand}{args:Array Operand}{dn:Array TypeId}(af:o.op=.call { callee:=.value f0,args:=args,argTypes:=dn }){c:cJ}(ar:∀ D a w,cr C s a w->(c.sh D).b1->∃ k,cQ C.P C.aN k c/\a.eval f0=.func (.func k) #[] #[]){cc:hX}
  (h:xK C.aN s o args.toList c=some cc):qE C o s cc:=by
 obtain⟨args⟩:=args;unfold xK at h;generalize ayf:rD c (sD s (rC C.aN s args))=f at h;split at h
 ·rename_i D bU n7;split at h
  ·rename_i d';cases h;have agq:ry (aZ C.aN s.ay) o->jK (args.map (aZ C.aN s.ay)):=λW=>Dk W λx ah=>by rw[af];simp[Op.operands,Call.operands];simp_all
   refine⟨λa w Q K M bb ME=>?_,λgs oS=>(by grind),agq⟩;obtain⟨k,ar,al⟩:=ar D a w M ME.1;obtain⟨κ,F,M⟩:=M;have hlen:args.length=c.kk/\args.length<=eP:=by
    simp only[De,Bool.and_eq_true,decide_eq_true_eq]at d';omega
   have dW:=M.args (avs:=rC C.aN s args) (us:=args.map a.eval) (by grind) (by simp[rC]) λi G=>by
    have dz:i<args.length:=by grind
    have E:=sq bb i (by grind);have ax:(args.map (aZ C.aN s.ay)).getD i .undef=aZ C.aN s.ay args[i]:=by grind
    rw[ax]at E;have aO:(rC C.aN s args).getD i .undef=(use (aZ C.aN s.ay args[i])).2:=by simp[rC,List.getD_eq_getElem?_getD,dz]
    have cv:(args.map a.eval).getD i undef=a.eval args[i]:=by grind
    rw[aO,cv];exact pw (kc M args[i]) E
   obtain⟨F',own,Y,ik,_,a_,_,iH,_,Dv,MF⟩:=TG M dW rfl n7 rfl d';have c6:(execOp a.eval o).run C.P w=.ok (.enter k (args.map a.eval).toArray) w:=by
    simp only[execOp,af,Sem.run_bind,resolve,al,Deferred.ofValue,Sem.run_pure,Result.andThen_ok,invoke];have:=ar.enter (args.map a.eval).toArray w;grind
   have uu:=ar.bD Dv rfl rfl rfl rfl (by show (args.map a.eval).length=_;grind) rfl ME.1;refine CX (by grind) c6 uu λe w' ⟨v,bl,aC,ng,ej,he,f',Hf,hK⟩=>⟨v,he,ME.2 bl f' _ _ ?_⟩
   obtain⟨κn,n8,fj⟩:=MF C.w0 w a_ iH bl aC w' ng ej hK;exact⟨_,ej,bk.set n8 bf (agh Hf λj=>by simpa [Array.getD_eq_getD_getElem?,List.getD_eq_getElem?_getD]using fj j)⟩
  grind
 grind
theorem agr(bf:∀ i,o.dst=some i->i<C.nt){k:Nat}{args:Array Operand}{dn:Array TypeId}(af:o.op=.call { callee:=.value (.func k),args:=args,argTypes:=dn }){c:cJ}(ar:cQ C.P C.aN k c){cc:hX}
  (h:xK C.aN s o args.toList c=some cc):qE C o s cc:=
 TI bf af (λ_ _ _ _ _=>⟨k,ar,rfl⟩) h
theorem cQ.zx{P:Program}{aP:dC}{k:FuncId}{c:cJ}(h:cQ P aP k c){sh:c.cm.aj->A c.bQ.aj}(aD:∀ D,A.le (c.sh D) (sh D)):cQ P aP k { c with sh:=sh } where
 enter:=h.enter
 iV:=λC a w κ F D ax aO cv ec gV j7 M rv=>by
  obtain⟨aQ,aV⟩:=aD D rv;exact (h.iV C a w κ F D ax aO cv ec gV j7 M aQ).mono λe w' ⟨v,bl,aC,κ',F',E,U,ag⟩=>⟨v,bl,aC,κ',F',E,aV bl U,ag⟩
theorem ags{Ψ:Nat->Option e2}(bf:∀ i,o.dst=some i->i<C.nt){t:Nat}{args:Array Operand}{dn:Array TypeId}(af:o.op=.call { callee:=.value (.tmp t),args:=args,argTypes:=dn })
  (cW:∀ c sh ids,Ψ S7=some (.GJ c sh ids)->∀ k∈ids,cQ C.P C.aN k { c with sh:=sh k }) {cc:hX} (h:GN C.aN Ψ s o t args.toList=some cc):qE C o s cc:=by
 unfold GN at h;split at h
 ·rename_i n au;split at h
  ·rename_i c sh ids hc;refine TI bf af (λD a w M aD=>?_) h;obtain⟨⟨k,al,rfl⟩,_⟩:=aD;refine⟨k,(cW c sh ids hc k al).zx (sh:=(S8 c sh ids (some k)).sh) λD h=>⟨h.2,λy aR=>aR⟩,?_⟩;obtain⟨κ,F,M⟩:=M;have ae:bx C.P s.aa κ F w (s.ay t) (a.tmps.getD t undef):=M.bS t;rw[au]at ae;obtain⟨_,ae⟩:=(dT rfl).1 ae;exact (List.cons.inj ae).1
  ·cases h
 ·cases h
end
end Go.Fer
namespace Go.Fer
open Go.RowKit
section
variable {C:b8} {o:Oper} {s:aA}
theorem bk.round{s:aA}{a:Act}{w w':World}{κ:Nat->bA}{F' ej Y Hg:Nat->Prop}{l:Nat}{aJ:ab}{L:List aJ.aj->Prop}{I}{ei:List aJ.aj}{MG:Bool}(M:bk C s a w κ F')(oT:C.cc=⟨l,aJ,L,I⟩)(cK:C.cc.hC C.P)
    (aR:∀ r,Y r->r<w.heap.size/\¬F' r/\¬C.K0 r) (MH:∀ b,(s.aa b).body.bY (κ b)=true->¬Y (κ b).aa)
    (g1:∀ r,F' r->ej r) (eh:∀ r,ej r->F' r\/Y r\/w.heap.size<=r) (g3:∀ r,ej r->r<w'.heap.size) (g4:∀ r,r<w.heap.size->¬Y r->w'.heap[r]?=w.heap[r]?)
    (g5:∀ r,Hg r->(Y r\/w.heap.size<=r)/\r<w'.heap.size/\¬ej r) (g6:w.heap.size<=w'.heap.size) (g7:dc w w') (g8:I ei MG ej Hg w') :
    bk C ⟨λi=>if i=b4 then .aW l aJ L ei MG else s.ay i,s.aa⟩ a w' κ ej:=by
  have qF:c1 F' w w':=⟨g6,λr h=>g4 r (M.da r h) λCQ=>(aR r CQ).2.1 h⟩
  have ln:∀ r,w.heap.size<=r->¬C.K0 r:=λr h al=>by have:=M.hv r al;have:=M.size;omega
  refine { dD := M.dD, dfr := M.dfr, bS := λi => ?_, bB := λb => cC.lg (M.bB b) (fp.refl _ _) g1 qF rfl rfl λaf => g4 _ (M.own b af).1 (MH b af), own := λb W => ?_, inj := M.inj, da := g3, hh := λr h => ?_,hS:=λr h=>g1 r (M.hS r h),hv:=M.hv,eG:=λr h=>?_,size:=Nat.le_trans M.size g6,ep:=M.ep.trans g7,gj:=M.gj,ku:=M.ku,jG:=M.jG,j9:=M.j9,kv:=M.kv,eK:=λdE kG e3 iZ iv e=>?_,jH:=M.jH,iC:=M.iC.mono g1 qF }
  · show bx C.P s.aa κ ej w' (if i=b4 then .aW l aJ L ei MG else s.ay i) _
    split
    · trivial
    · exact bx.later (fp.refl _ _) g1 qF (M.bS i)
  · have h:=M.own b W
    grind
  · rcases eh r h with h | h | h
    · exact M.hh r h
    · exact .inr (aR r h).2.2
    · exact .inr (ln r h)
  · exact (g4 r (Nat.lt_of_lt_of_le (M.hv r h) M.size) λk=>(aR r k).2.2 h).trans (M.eG r h)
  · simp only[if_true]at e
    cases e
    refine⟨⟨I,oT⟩,cK,Hg,λr h=>⟨(g5 r h).2.1,(g5 r h).2.2,?_⟩,λb W h=>?_,?_⟩
    · grind
    · rcases (g5 _ h).1 with h | h
      · grind
      · exact absurd (M.own b W).1 (Nat.not_lt.2 h)
    · rw[oT];exact lL.zr.2 g8
theorem agt(bf:∀ i,o.dst=some i->i<C.nt){t:Nat}{args:Array Operand}{dn:Array TypeId}(af:o.op=.call { callee:=.value (.tmp t),args:=args,argTypes:=dn }){cc:hX}
  (h:GO C.aN s o t args.toList=some cc):qE C o s cc:=by
 obtain⟨args⟩:=args;unfold GO at h;split at h
 ·rename_i dE l aJ L n st MI ui;split at h
  ·rename_i x bU ah;cases h;refine⟨λa w Q K M bb hm=>?_,λgs oS=>(by grind),λW=>Dk W λx ah=>by rw[af];simp[Op.operands,Call.operands];simp_all⟩;obtain⟨κ,F,M⟩:=M;rw[A.kR]at hm;obtain⟨⟨rfl,rfl,Hh⟩,hm⟩:=hm;obtain⟨F',f1,a_,f2⟩:=bk.lk (qy _ ah) M;have dW:fo C.P aJ F' w (args.map a.eval) x:=by
    refine vx M.bB f1 aJ ah f2 (by simp) λi G dI=>?_;simp only[List.getElem_map];have dz:i<args.length:=by grind
    have E:=sq bb i (by grind);have ax:(args.map (aZ C.aN s.ay)).getD i .undef=aZ C.aN s.ay args[i]:=by grind
    rw[show (List.map (aZ C.aN s.ay) (⟨args⟩:Array Operand).toList)=args.map (aZ C.aN s.ay) from rfl,ax]at E;exact pw (kc M args[i]) E
   have ae:a.eval (.tmp t)=.func (.yield dE) #[] #[]:=by
    have:=kc M (.tmp t);have e:aZ C.aN s.ay (.tmp t)=.hg dE:=MI;rw[e]at this;exact this
   obtain⟨⟨I,oT⟩,cK,Y,aR,MH,ez⟩:=a_.eK dE aJ L n false ui;have agu:lL.hC C.P ⟨dE,aJ,L,I⟩:=oT ▸ cK;rw[oT]at ez;have ez:=lL.zr.1 ez;obtain⟨fn,tmps,assign,body,E,U⟩:=agu.yield ez a_.da (λr h=>⟨(aR r h).1,(aR r h).2.1⟩) Hh dW;have c6:(execOp a.eval o).run C.P w=.ok (.round dE fn tmps assign body) w:=by
    simp only[execOp,af,Sem.run_bind,resolve,ae,Deferred.ofValue,Sem.run_pure,Result.andThen_ok,invoke];grind
   refine⟨λ_ _=>trivial,?_⟩;rw[zH (by grind),c6,Oper.uponIn_round];refine⟨λaD=>(by cases aD),?_⟩;have ag:RoundIn (dQ C.r) 0 C.P dE fn tmps assign body w _:=U;refine ag.mono λe w' ⟨b,ej,Hg,he,g1,eh,g3,g4,g5,g6,g7,g8⟩=>?_;subst he;refine hm.2 b trivial _ _ ⟨κ,ej,bk.set ?_ bf (fc.2 rfl)⟩;exact a_.round oT cK aR MH g1 eh g3 g4 g5 g6 g7 g8
  grind
 grind
end
end Go.Fer
namespace Go.Fer
open Go.RowKit
section
variable {C:b8} {T:Nat->ab} {be:Nat->Option aM} {s:aA} {res:eA}
theorem TJ{ms:Array MapEntry}{j:Nat}(aE:j<ms.size)(hu:∀ i (h:i<ms.size),ms[i].born=ms[j].born->i=j):ms.findIdx? (λe=>(e.born:Int) == (ms[j].born:Int))=some j:=by
 rw[Array.findIdx?_eq_some_iff_getElem];grind
theorem agv(ms:Array MapEntry)(e:MapEntry)(f:MapEntry->MapEntry):(ms.push e).modify ms.size f=ms.push (f e):=by
 grind
theorem agw(ms:Array MapEntry)(j:Nat)(f g:MapEntry->MapEntry):(ms.modify j f).modify j g=ms.modify j λe=>g (f e):=by
 grind
theorem Av{a:Act}{d:Nat}{v:Value}{x:Operand}(h:x≠.tmp d):(a.put (some d) v).eval x=a.eval x:=Act.eval_put λvk e=>by grind
theorem Dw{a:Act}{d:Nat}{v:Value}(h:d<a.tmps.size):(a.put (some d) v).eval (.tmp d)=v:=by
 simp[Act.put,Act.eval,Array.getD_eq_getD_getElem?,h]
theorem agx(aU:dR C.P T){gD gE kZ kl:Oper}{d1 d2:Nat}{ty:TypeId}{m x y:Operand}(E:gD.op=.mapEntry ty m x)(t1:gD.dst=some d1)(U:gE.op=.extract (.tmp d1) 1)(t2:gE.dst=some d2)
  (ag:kZ.op=.entryStore ty m (.tmp d2) y) (t3:kZ.dst=none) (ie:kl.op=.mapUpdate ty m x y) (MJ:kl.dst=none) (km:m≠.tmp d1) (pN:m≠.tmp d2) (xY:y≠.tmp d1) (sM:y≠.tmp d2) (qA:d1<C.nt) (hZ:d2<C.nt)
  (h:(br C.aN T be (aZ C.aN s.ay) kl).run s.aa=some res) {a:Act} {w:World} {κ:Nat->bA} {F:Nat->Prop} {Q:Exit->Act->World->Prop} {K:Act->World->Prop} (M:bk C s a w κ F) (bb:res.ca) (hc:res.c)
  (iM:∀ a' w',cr C (((s.h_ none res).set (some d1) .undef).set (some d2) .undef) a' w'->K a' w') :
  gD.wpIn (dQ C.r) 0 C.P a w (λb' b_=>gE.wpIn (dQ C.r) 0 C.P b' b_ (λa2 c7=>kZ.wpIn (dQ C.r) 0 C.P a2 c7 K Q) Q) Q:=by
 have kX:=Lj aU MJ (.inl ie) h a w κ F Q M bb hc;rw[MJ]at kX;have ax:∀ c,gD.op≠.defer c:=by grind
 have aO:∀ c,gE.op≠.defer c:=by grind
 have cv:∀ c,kZ.op≠.defer c:=by grind
 have agy:∀ c,kl.op≠.defer c:=by grind
 simp only[br,ie,rj]at h;split at h
 ·rename_i k v aL;obtain⟨lo,zX,G,mY,hj⟩:=(aU.cb aL (by simp)).mp;obtain⟨inf,mA,i1,i2,i3,i4,i5,i6⟩:=kz hj.ky;split at h
  ·rename_i xZ;split at h
   ·rename_i b g ud;simp only[ao.e1,Option.bind_eq_some_iff,ao.run_bind,ao.e0,ao.bL]at h;obtain⟨⟨dH,oH⟩,ah,⟨mZ,oI⟩,aR,h⟩:=h;split at h
    ·rename_i aB;obtain⟨aB,qw⟩:=aB;have qw:b ∉ oH++oI:=by
      grind
     split at h
     ·rename_i k' h7 es W;simp only[Option.map_eq_some_iff]at h;obtain⟨Sw,pz,rfl⟩:=h;obtain⟨e,rfl⟩:=kT pz;cases e;obtain⟨F',f1,a_,f2⟩:=bk.lk ((mV ah).append (mV aR)) M;have hm:bx C.P s.aa κ F w (use (aZ C.aN s.ay m)).2 (a.eval m):=cM M m rfl bb.1;rw[ud]at hm;have kY:=hm.2 aB.symm (by rw[W];rfl);have ue:=mr M.bB f1 ah f2.left (cM M x rfl bb.2.1);have pC:(s.cy (oH++oI)).aa b=s.aa b:=by simp only[aA.cy];grind
      have aS:=a_.bB b;unfold cC at aS;rw[pC,W]at aS;obtain⟨ms,clk,hw,uf⟩:=aS;have fh:k.kV=true/\k.ka<=100:=by simpa [tU]using xZ
      have d':=(CY (em:=false) k 10000 fh.1 (by omega)).1 mY ue;have kD:=uf.es;obtain⟨f,df,dJ⟩:=xu (β:=v.aj) (xs:=es) (es:=ms.toList) xZ mY ue kD.1 (λj e p E U=>(kD.2 j e p E U).1);have eT:(getObj (κ b).aa).run C.P w=.ok (.map ms clk) w:=by simp[getObj,Sem.run,hw]
      obtain⟨hv,Lk,Gl,Sx⟩:=uf;have uv:d1<a.tmps.size:=by have:=M.dD;omega
      have cj:(κ b).aa<w.heap.size:=(Array.getElem?_eq_some_iff.1 hw).1;have chain:∀ (b_ c7:World) (u:Value) (n:Int),(execOp a.eval gD).run C.P w=.ok (.value (.tuple #[u,goInt n])) b_->(Instr.entryStore ty (.map (some (κ b).aa)) (goInt n) (a.eval y)).run C.P b_=.ok () c7->
        (execOp a.eval kl).run C.P w=.ok .skip c7->
        gD.wpIn (dQ C.r) 0 C.P a w (λb' b_=>gE.wpIn (dQ C.r) 0 C.P b' b_ (λa2 c7=>kZ.wpIn (dQ C.r) 0 C.P a2 c7 K Q) Q) Q:=by
       intro b_ c7 u n cf cI agz;have kh:=kX.2;rw[zH agy,agz,Oper.uponIn_skip,MJ]at kh;refine hx ax cf ?_;rw[t1];have agA:(a.put (some d1) (.tuple #[u,goInt n])).eval (.tmp d1)=.tuple #[u,goInt n]:=Dw uv;refine hx (v:=goInt n) (w':=b_) aO (by simp[execOp,U,agA,Instr.extract]) ?_;rw[t2];have agB:d2<(a.put (some d1) (.tuple #[u,goInt n])).tmps.size:=by have:=M.dD;simp[Act.put];omega
       have agC:((a.put (some d1) (.tuple #[u,goInt n])).put (some d2) (goInt n)).eval (.tmp d2)=goInt n:=Dw agB;have MK:((a.put (some d1) (.tuple #[u,goInt n])).put (some d2) (goInt n)).eval m=.map (some (κ b).aa):=by rw[Av pN,Av km,kY]
       have agD:((a.put (some d1) (.tuple #[u,goInt n])).put (some d2) (goInt n)).eval y=a.eval y:=by rw[Av sM,Av xY]
       refine F8 cv (w':=c7) (by simp only[execOp,ag,agC,MK,agD,Sem.run_bind,cI,Result.andThen_ok,Sem.run_pure]) ?_;rw[t3];refine iM _ _ ?_;obtain⟨κ',F',kh⟩:=kh;exact⟨κ',F',bk.set (bk.set (d:=some d1) (av:=.undef) kh (λi e=>by grind) trivial) (λi e=>by grind) trivial⟩
      rcases dJ with⟨rfl,eB⟩ | ⟨j,e,p,g1,eh,g3,g4,rfl⟩
      ·refine chain { w with heap:=w.heap.setIfInBounds (κ b).aa (.map (ms.push { key:=a.eval x,val:=mA,born:=clk }) (clk+1)) } { w with heap:=w.heap.setIfInBounds (κ b).aa (.map (ms.push { key:=a.eval x,val:=a.eval y,born:=clk }) (clk+1)) } mA clk ?_ ?_ ?_
       ·simp only[execOp,E,kY,Instr.mapEntry,Sem.run_bind,dA G,Result.andThen_ok,eT,d',df,rk i1 i4,sA hw,Sem.run_pure]
       ·have ML:(getObj (κ b).aa).run C.P { w with heap:=w.heap.setIfInBounds (κ b).aa (.map (ms.push { key:=a.eval x,val:=mA,born:=clk }) (clk+1)) }=.ok (.map (ms.push { key:=a.eval x,val:=mA,born:=clk }) (clk+1)) { w with heap:=w.heap.setIfInBounds (κ b).aa (.map (ms.push { key:=a.eval x,val:=mA,born:=clk }) (clk+1)) }:=by simp[getObj,Sem.run,cj]
        have MM:(ms.push { key:=a.eval x,val:=mA,born:=clk }).findIdx? (λe=>(e.born:Int) == (clk:Int))=some ms.size:=by
         have:=TJ (ms:=ms.push { key:=a.eval x,val:=mA,born:=clk }) (j:=ms.size) (by simp) λi G he=>by
          grind
         grind
        simp only[Instr.entryStore,Sem.run_bind,ML,Result.andThen_ok,goInt,asInt,asIntOf,Sem.run_pure,MM];rw[sA (es:=ms.push { key:=a.eval x,val:=mA,born:=clk }) (clk:=clk+1) (by grind),agv];simp
       ·simp only[execOp,ie,kY,Instr.mapUpdate,Sem.run_bind,dA G,Result.andThen_ok,eT,d',df,sA hw,Sem.run_pure]
      ·have aE:j<es.length:=(List.getElem?_eq_some_iff.1 eh).1;have xv:j<ms.size:=by omega
       have Lm:ms[j]=e:=by
        grind
       obtain⟨jr,b_,cf,cI,er⟩:=Li C.P w e.key (a.eval x);have lV:b_.heap[(κ b).aa]?=some (.map ms clk):=by rcases er with rfl | rfl<;>exact hw
       have TK:(κ b).aa<b_.heap.size:=(Array.getElem?_eq_some_iff.1 lV).1;have nZ:((ms[j]?).map (·.key)).getD (a.eval x)=e.key:=by
        grind
       have MN:((ms[j]?).map (λx=>(x.born:Int))).getD 0=(ms[j].born:Int):=by grind
       rw[Nat.zero_add]at df;refine chain { b_ with heap:=b_.heap.setIfInBounds (κ b).aa (.map (ms.modify j λe=>{ e with key:=jr }) clk) } { b_ with heap:=b_.heap.setIfInBounds (κ b).aa (.map (ms.modify j λe=>{ e with key:=jr,val:=a.eval y }) clk) } e.val ms[j].born ?_ ?_ ?_
       ·simp only[execOp,E,kY,Instr.mapEntry,Sem.run_bind,dA G,Result.andThen_ok,eT,d',df];rw[nZ,cf];simp only[Result.andThen_ok,sA lV,Sem.run_pure,MN]
       ·have ML:(getObj (κ b).aa).run C.P { b_ with heap:=b_.heap.setIfInBounds (κ b).aa (.map (ms.modify j λe=>{ e with key:=jr }) clk) }=.ok (.map (ms.modify j λe=>{ e with key:=jr }) clk) { b_ with heap:=b_.heap.setIfInBounds (κ b).aa (.map (ms.modify j λe=>{ e with key:=jr }) clk) }:=by simp[getObj,Sem.run,TK]
        have mB:∀ i (h:i<(ms.modify j λe=>{ e with key:=jr }).size),((ms.modify j λe=>{ e with key:=jr })[i]).born=(ms[i]'(by grind)).born:=by
         grind
        have MM:(ms.modify j λe=>{ e with key:=jr }).findIdx? (λe=>(e.born:Int) == (ms[j].born:Int))=some j:=by
         have:=TJ (ms:=ms.modify j λe=>{ e with key:=jr }) (j:=j) (by grind) λi G he=>by
          grind
         grind
        simp only[Instr.entryStore,Sem.run_bind,ML,Result.andThen_ok,goInt,asInt,asIntOf,Sem.run_pure,MM];rw[sA (es:=ms.modify j λe=>{ e with key:=jr }) (clk:=clk) (by grind),agw];simp
       ·simp only[execOp,ie,kY,Instr.mapUpdate,Sem.run_bind,dA G,Result.andThen_ok,eT,d',df];rw[nZ,cf];simp only[Result.andThen_ok,sA lV,Sem.run_pure]
     grind
    grind
   ·cases h
  ·cases h
 ·cases h
end
end Go.Fer
namespace Go.Fer
open Go.RowKit
structure Dx(P:Program)(k:FuncId)(c:Ag):Prop where
 enter:∀ args w,(callFunc k args).run P w=.ok (.enter k args) w
 iV:∀ (l:Nat) (I:List c.aJ.aj->Bool->(Nat->Prop)->(Nat->Prop)->World->Prop) (F Y:Nat->Prop) (w:World) (args:List Value) (x:c.ts.aj),fo P c.ts F w args x->c.pre x->lL.hC P ⟨l,c.aJ,λT=>T=c.seq x,I⟩->
  (∀ r,F r->r<w.heap.size)->nR P F w->(∀ r,Y r->r<w.heap.size/\¬F r)->I [] false F Y w->Calls P k (args++[Value.func (.yield l) #[] #[]]).toArray w λe w'=>
   ∃ v pre st F' gB,e=.returned v/\(st=false->pre=c.seq x)/\I pre st F' gB w'/\(∀ r,F r->F' r)/\(∀ r,F' r->F r\/Y r\/w.heap.size<=r)/\(∀ r,F' r->r<w'.heap.size)/\
    (∀ r,r<w.heap.size->¬Y r->w'.heap[r]?=w.heap[r]?)/\(∀ r,gB r->(Y r\/w.heap.size<=r)/\r<w'.heap.size/\¬F' r)/\w.heap.size<=w'.heap.size/\dc w w'
def e2.hC(P:Program)(aP:dC)(k:FuncId):e2->Prop
 | .du c=>h6 P k c.ts c.aW c.sh/\(c.dP=true->∀ x,(c.sh x).Da)
 | .e9 c=>cQ P aP k c
 | .cq c=>Dx P k c
 | .L3 c=>h6 P k c.ts c.aW c.sh/\Rv P k c.ts c.aW c.sh
 | .GJ c sh ids=>∀ k∈ids,cQ P aP k { c with sh:=sh k }
 | .kI c=>nU c.aW=true/\CV P k c
def l0(P:Program)(aP:dC)(Ψ:Nat->Option e2):Prop:=∀ k c,Ψ k=some c->c.hC P aP k
section
variable {C:b8} {T:Nat->ab} {be:Nat->Option aM} {Ψ:Nat->Option e2} {s:aA} {o:Oper} {Q:Exit->Act->World->Prop} {ops:Array Oper}
theorem agE(cz:jo C.P be)(cW:l0 C.P C.aN Ψ){k:Nat}{c:hI}(h:L4 be Ψ k=some c):h6 C.P k c.ts c.aW c.sh:=by
 unfold L4 at h;split at h
 ·rename_i c' jN;cases h;have:e2.hC C.P C.aN k (.du c):=cW k _ jN;exact this.1
 ·cases h
 ·obtain⟨f,ar,h⟩:=Option.bind_eq_some_iff.1 h;split at h
  ·cases h
  ·rename_i he;cases h;exact (cz k f ar).1 (by simpa using he)
theorem agF{P:Program}{w:World}{ty j:TypeId}(aE:P.underlying ty=some (.slice j))(q:Option Addr)(n cap d:Nat):(Op.equalIn (d+1) ty (.slice q n cap) (.slice none 0 0)).run P w=.ok q.isNone w:=by
 cases q<;>simp[Op.equalIn,dA aE]
theorem agG{P:Program}{w:World}(op:BinOp)(t:TypeId)(x y:Operand)(q q':Option Addr)(n iZ cap cap':Nat):(eqGuard op t x y (.slice q n cap) (.slice q' iZ cap')).run P w=.ok () w:=by
 cases op<;>simp[eqGuard]
theorem TL{P:Program}{w:World}{ty j:TypeId}{x y:Operand}(aE:P.underlying ty=some (.slice j))(q:Option Addr)(n cap:Nat) :
  (do eqGuard .eql ty x y (.slice q n cap) (.slice none 0 0);binOp .eql ty (.slice q n cap) (.slice none 0 0):Sem Value).run P w=.ok (.bool q.isNone) w/\(do eqGuard .neq ty x y (.slice q n cap) (.slice none 0 0);binOp .neq ty (.slice q n cap) (.slice none 0 0):Sem Value).run P w=.ok (.bool (!q.isNone)) w:=by
 have h:(Op.equalIn 10000 ty (.slice q n cap) (.slice none 0 0)).run P w=.ok q.isNone w:=agF (w:=w) aE q n cap 9999;constructor<;>simp[agG,binOp,Op.equal,Op.maxDepth,h]
theorem agH(aU:dR C.P T)(bf:∀ i,o.dst=some i->i<C.nt){op:BinOp}{ty mT:TypeId}{x y:Operand}(af:o.op=.binOp op ty x y mT){cc:hX}(h:Dg C.aN T s o op ty x y=some cc):qE C o s cc:=by
 have zK:∀ c,o.op≠.defer c:=by grind
 unfold Dg at h;split at h
 ·rename_i e aL agI;have dp:=aU.cb aL (by simp);obtain⟨j,aE,_⟩:=dp.sl;split at h
  ·rename_i xs l hU;have key:∀ (a:Act) (w:World) (κ:Nat->bA) (F:Nat->Prop),bk C s a w κ F->(use (aZ C.aN s.ay x)).1->∃ b:Bool,(b=true->xs=[])/\(op=.eql->(execOp a.eval o).run C.P w=.ok (.value (.bool b)) w)/\(op=.neq->(execOp a.eval o).run C.P w=.ok (.value (.bool (!b))) w):=by
    intro a w κ F M bb;have ah:=CB M hU (cM M x rfl bb);obtain⟨_,q,cap,ax,m1,m2,m3,_⟩:=(dT rfl).1 ah;have ax:=(List.cons.inj ax).1;have aR:a.eval y=.slice none 0 0:=by
     have:=kc M y;rw[agI]at this;exact this
    refine⟨q.isNone,λbp=>?_,λkX=>?_,λkX=>?_⟩
    ·simp_all
    ·subst kX;have M:=(TL (w:=w) (x:=x) (y:=y) aE q xs.length cap).1;rw[<-ax,<-aR]at M;simp only[execOp,af,Sem.run_bind]at M ⊢;simp_all
    ·subst kX;have M:=(TL (w:=w) (x:=x) (y:=y) aE q xs.length cap).2;rw[<-ax,<-aR]at M;simp only[execOp,af,Sem.run_bind]at M ⊢;simp_all
   split at h
   ·cases h;refine⟨λa w Q K M bb hm=>?_,λgs oS=>(by grind),λW=>W x (by rw[af];simp[Op.operands])⟩;obtain⟨κ,F,M⟩:=M;obtain⟨b,dr,eb,_⟩:=key a w κ F M bb;exact hx zK (eb rfl) (hm.2 b dr _ _ ⟨κ,F,bk.set M bf (fc.2 rfl)⟩)
   ·cases h;refine⟨λa w Q K M bb hm=>?_,λgs oS=>(by grind),λW=>W x (by rw[af];simp[Op.operands])⟩;obtain⟨κ,F,M⟩:=M;obtain⟨b,dr,_,eb⟩:=key a w κ F M bb;exact hx zK (eb rfl) (hm.2 b dr _ _ ⟨κ,F,bk.set M bf (fc.2 rfl)⟩)
   grind
  grind
 grind
theorem MO(aU:dR C.P T)(cz:jo C.P be)(cW:l0 C.P C.aN Ψ)(bf:∀ i,o.dst=some i->i<C.nt){cc:hX}(h:rE C.aN T be Ψ s o=some cc):qE C o s cc:=by
 unfold rE at h;split at h
 ·rename_i c af;obtain⟨callee,args,dn⟩:=c;split at h
  ·rename_i f ar;simp only at ar;subst ar;split at h
   ·split at h
    ·rename_i c' jN;exact agr bf af (cW _ _ jN) h
    ·rename_i c' jN;have ag:e2.hC C.P C.aN _ (.L3 c'):=cW _ _ jN;exact af4 bf af ag.1 ag.2 h
    ·split at h
     ·rename_i du MP;exact af3 bf af (agE cz cW MP) h
     grind
   ·split at h
    ·rename_i r M;cases h;exact af5 bf af M
    ·split at h
     ·rename_i r M;cases h;exact ags bf af (λc sh ids hc=>cW _ _ hc) M
     ·exact agt bf af h
   grind
  grind
 ·rename_i ty x af;exact af6 aU bf af h
 ·rename_i x str af;exact af_ bf af h
 ·rename_i x af;exact af7 bf af h
 ·rename_i op ty x y mT af;exact agH aU bf af h
 grind
theorem TM(want b:Bool):((some b == some want:Bool))=Gv want b:=by cases want<;>cases b<;>rfl
theorem TN{a:Act}{j d:Nat}{rK:Oper}(E:ops[j]?=some rK)(U:rK.dst=some d){b:Bool}(h:a.tmps.getD d Go.undef=.bool b):yielded ops a.tmps j=some b:=by
 have:a.tmps[d]?=some (.bool b):=by
  rw[Array.getD_eq_getD_getElem?]at h;cases he:a.tmps[d]? with
  | none=>rw[he]at h;cases h
  | some v=>grind
 simp[yielded,E,U,this]
theorem agJ{a:Act}{j d:Nat}{rK:Oper}(E:ops[j]?=some rK)(U:rK.dst=some d)(h:a.tmps.getD d Go.undef=Go.undef):yielded ops a.tmps j=none:=by
 unfold yielded;rw[E];simp only[Option.bind_some,U];rw[Array.getD_eq_getD_getElem?]at h;cases he:a.tmps[d]? with
 | none=>rfl
 | some v=>rw[he]at h;cases h;rfl
theorem MQ{a:Act}{w:World}{κ:Nat->bA}{F:Nat->Prop}(M:bk C s a w κ F){g:Option Bool}(h:kE s.ay ops o.guard=some g) :
  Region.wanted o (yielded ops a.tmps)=g.getD true:=by
 unfold Region.wanted;cases aB:o.guard with
 | none=>rw[aB]at h;cases h;rfl
 | some p=>
  obtain⟨j,want⟩:=p;rw[aB]at h;simp only[kE]at h ⊢;split at h
  ·rename_i rK aE;split at h
   ·rename_i d aq;have aD:=M.bS d;split at h
    ·rename_i b W;cases h;rw[W]at aD;rw[TN aE aq (fc.1 aD),TM];rfl
    ·rename_i g' b W;cases h;rw[W]at aD;obtain⟨E,U⟩:=aD;cases g' with
     | true=>
      rw[TN aE aq (fc.1 (E rfl)),TM];simp
     | false=>
      rw[agJ aE aq (U rfl)];rfl
    grind
   grind
  grind
theorem agK{ca c:Prop}{e6 sH:aG}{hF xN:List (Nat×bJ)}(aB:Dh o e6 hF=some (xN,sH))(h:(br C.aN T be (aZ C.aN s.ay) o).run s.aa=some ⟨ca,c,e6,hF⟩) :
    (∀ a w,cr C (s.h_ o.dst ⟨ca,c,e6,hF⟩) a w->cr C ((s.fZ xN).set o.dst sH) a w)/\(∀ a w κ F,bk C s a w κ F->∃ κ' F',bk C (s.fZ xN) a w κ' F'):=by
  unfold Dh at aB;split at aB
  · cases aB
    exact⟨λa w h=>h,λa w κ F h=>⟨κ,F,h⟩⟩
  · rename_i p dE
    split at aB
    · rename_i MR first cZ af
      cases aB
      refine⟨λa w h=>h,λa w κ F M=>?_⟩
      simp only[br,af]at h
      split at h
      · split at h
        · split at h
          · simp only[ao.e1,Option.bind_eq_some_iff,ao.run_bind,ao.bL,Option.some.injEq]at h
            obtain⟨⟨y,l⟩,aR,he⟩:=h
            obtain⟨F',_,a_,_⟩:=bk.lk (qy _ aR) M
            have he:(jJ l).run s.aa=p::dE:=by grind
            rw[<-he,tW]
            grind
          · split at h
            · simp only[ao.e1,Option.bind_eq_some_iff,ao.run_bind,ao.bL,Option.some.injEq]at h
              obtain⟨⟨y,l⟩,aR,he⟩:=h
              obtain⟨F',_,a_,_⟩:=bk.lk (qy _ aR) M
              have he:(jJ l).run s.aa=p::dE:=by grind
              rw[<-he,tW]
              grind
            · simp only[bN,ao.bL,Option.some.injEq]at h
              cases h
        · split at h
          · simp only[bN,ao.bL,Option.some.injEq]at h
            cases h
          · cases h
      · cases h
    · rename_i ty n ps af
      split at aB
      · rename_i bd g' e xs bR
        split at aB
        · rename_i agL
          obtain⟨⟨rfl,rfl⟩,_⟩:=agL
          cases aB
          obtain⟨b,⟨agM,iL⟩⟩:=p
          simp only at bR
          subst bR
          have ln:o.dst=some b/\agM=(s.aa b).gen+1:=by
            simp only[br,af]at h;split at h
            · simp only[ao.e1,Option.bind_eq_some_iff,ao.run_bind]at h
              obtain⟨⟨ys,bU⟩,_,h⟩:=h
              obtain⟨b0,z7,al⟩:=rm h
              grind
            · cases h
          obtain⟨bf,rfl⟩:=ln
          refine⟨λa w kh=>?_,λa w κ F M=>?_⟩
          · obtain⟨κ,F,M⟩:=kh
            rw[bf]at M ⊢
            simp only[aA.h_,aA.fZ]at M
            have ah:(dy (.slice e) (.own b ((s.aa b).gen+1))).run ((s.cw b ⟨(s.aa b).gen+1,.bg e xs⟩).set (some b) (.own b ((s.aa b).gen+1))).aa=some (xs,[b]):=by
              simp[dy,kx,dV,aA.set,aA.cw,eR,ab.eF]
            obtain⟨Aw,f1,gP,f2⟩:=bk.lk (mV ah) M
            have aD:=M.bS b
            have ae:=mr (v:=a.tmps.getD b undef) M.bB f1 ah f2 (by simpa [aA.set]using aD)
            have fj:∀ i,i≠b->((s.cw b ⟨(s.aa b).gen+1,.bg e xs⟩).set (some b) (.own b ((s.aa b).gen+1))).ay i=s.ay i:=λi G=>by simp[aA.set,aA.cw,G]
            have cL:bk C ⟨λi=>if i=b then .val (.slice e) xs else s.ay i,(((s.cw b ⟨(s.aa b).gen+1,.bg e xs⟩).set (some b) (.own b ((s.aa b).gen+1))).cy [b]).aa⟩ a w κ Aw:=
              { gP with
                dD:=gP.dD,dfr:=gP.dfr,bB:=gP.bB
                bS:=λi=>by
                  show bx _ _ _ _ _ (if i=b then .val (.slice e) xs else s.ay i) _;split
                  · rename_i G
                    subst G
                    exact ae
                  · rename_i G
                    rw[<-fj i G]
                    exact gP.bS i
                eK:=λl aJ L n st aY=>by
                  have aY:(if b4=b then aG.val (.slice e) xs else s.ay b4)=.aW l aJ L n st:=aY;split at aY
                  · cases aY
                  · rename_i G
                    exact gP.eK l aJ L n st ((fj b4 G).trans aY) }
            refine⟨κ,Aw,cL.zx ⟨λi=>.inl ?_,λi=>?_⟩⟩
            · rfl
            · by_cases G:i=b
              · subst G
                right
                simp[aA.set,aA.fZ,aA.cw,aA.cy,fg]
              · left
                simp[aA.set,aA.fZ,aA.cw,aA.cy,G]
          · have au:=Mo M (b:=b) (e:=e)
            refine⟨_,F,au.zx ⟨λi=>.inl rfl,λi=>?_⟩⟩
            by_cases G:i=b
            · subst G
              right
              simp[aA.fZ,aA.cw]
            · left
              simp[aA.fZ,aA.cw,G]
        grind
      grind
    grind
theorem sN{β:Type}{b:Bool}{p:Prop}{m:A β}{O:β->Prop}(W:b=true->p):A.cu (sF b p m) O<->p/\A.cu m O:=by
 cases b with
 | true=>exact⟨λh=>⟨W rfl,h⟩,λh=>h.2⟩
 | false=>exact A.kR
def qH(ops:Array Oper)(s:aA)(tg:pJ):Prop:=∀ p∈tg,∃ b a,s.ay p.1=.hD b a/\kE s.ay ops (some p.2)=some (some b)
theorem agN{j d:Nat}:sG ops j d=true<->d∈Gw ops (some (j,true)):=by
 have key:∀ (x:Option Oper),(match x with | some o=>(match o.dst with | some e=>e == d | none=>false) | none=>false)=true<->d∈(match x with | some o=>o.dst.toList | none=>[]):=by
  grind
 exact key _
theorem qH.hl{s':aA}{tg:pJ}(h:qH ops s tg)(aD:∀ i,o.dst≠some i->s'.ay i=s.ay i)
  (aq:∀ d k,o.dst=some d->o.guard=some k->∃ b a,s'.ay d=.hD b a/\kE s.ay ops (some k)=some (some b)):qH ops s' (xL ops tg o):=by
 unfold xL;cases bf:o.dst with
 | none=>
  intro p an;obtain⟨b,a,E,U⟩:=h p an;refine⟨b,a,(aD _ (by grind)).trans E,?_⟩;rw[<-U];exact LG λt _=>aD t (by grind)
 | some d=>
  have congr:∀ k:Nat×Bool,sG ops k.1 d=false->kE s'.ay ops (some k)=kE s.ay ops (some k):=λk al=>LG λt aL=>aD t (by
   rw[bf];intro e;cases e;have:sG ops k.1 d=true:=agN.2 aL;grind)
  have vw:qH ops s' (tg.filter λp=>p.1 != d&&!sG ops p.2.1 d):=by
   intro p an;simp only[List.mem_filter,Bool.and_eq_true,bne_iff_ne,ne_eq,Bool.not_eq_true']at an;obtain⟨b,a,E,U⟩:=h p an.1;grind
  simp only;split
  ·rename_i k al;split
   ·omega
   ·rename_i TO;intro p an;rcases List.mem_cons.1 an with rfl | an
    ·grind
    ·exact vw p an
  omega
section
variable {aP:dC} {tg:pJ} {gk:Option (Nat×Bool)}
theorem Dy(aU:qH ops s tg)(aB:∀ k,gk=some k->kE s.ay ops (some k)=some (some true)){x:Operand}(h:xM (aZ aP s.ay) tg gk x=true):(use (aZ aP s.ay x)).1:=by
 unfold xM at h;rw[Bool.or_eq_true]at h;rcases h with h | h
 ·exact Gt (by grind)
 ·split at h
  ·rename_i t k;obtain⟨p,an,vA⟩:=List.any_eq_true.1 h;simp only[Bool.and_eq_true,beq_iff_eq]at vA;obtain⟨rfl,E,U⟩:=vA;have vA:p.2=k:=Prod.ext E U;obtain⟨b,a,aQ,aV⟩:=aU p an;rw[vA,aB k rfl]at aV;cases aV;have e:aZ aP s.ay (.tmp p.1)=s.ay p.1:=rfl;rw[e,aQ];rfl
  grind
theorem TP(aU:qH ops s tg)(aB:∀ k,gk=some k->kE s.ay ops (some k)=some (some true))(h:L7 (aZ aP s.ay) tg gk o=true):ry (aZ aP s.ay) o:=
 λx ah=>Dy aU aB (List.all_eq_true.1 h x ah)
theorem TQ(aU:qH ops s tg){c x:Operand}{want:Bool}{qt:Prop}{i_:Bool}(hc:use (aZ aP s.ay c)=(qt,.val .bool i_))(Dz:qt)(h:GU ops tg c x want=true)(hw:Gv want i_=true):(use (aZ aP s.ay x)).1:=by
 unfold GU at h;split at h
 ·rename_i c t;obtain⟨p,an,vA⟩:=List.any_eq_true.1 h;simp only[Bool.and_eq_true,beq_iff_eq]at vA;obtain⟨rfl,E,rfl⟩:=vA;obtain⟨b,a,aQ,aV⟩:=aU p an;have e:aZ aP s.ay (.tmp p.1)=s.ay p.1:=rfl;rw[e,aQ];show b=true;unfold sG at E;have x0:p.2=(p.2.1,p.2.2):=rfl;rw[x0]at aV;unfold kE at aV;have jN:use (s.ay c)=(qt,.val .bool i_):=hc;split at E
  ·rename_i rK aE;split at E
   ·rename_i d aq;have agO:d=c:=by grind
    subst agO;simp only[aE,aq]at aV;split at aV
    ·rename_i b0 z7;rw[z7]at jN;simp only[use,Prod.mk.injEq,aG.val.injEq,heq_eq_eq,true_and]at jN;grind
    ·rename_i g0 b0 z7;rw[z7]at jN;simp only[use,Prod.mk.injEq,aG.val.injEq,heq_eq_eq,true_and]at jN;grind
    grind
   grind
  grind
 grind
theorem Hi(aU:qH ops s tg)(aB:∀ k,gk=some k->kE s.ay ops (some k)=some (some true))(h:Ah (aZ aP s.ay) ops tg gk o=true):(br aP T be (aZ aP s.ay) o).cU (lq λr=>r.ca):=by
 cases af:o.op with
 | pick c a b=>
  simp only[Ah,af,Bool.and_eq_true,Bool.or_eq_true]at h;obtain⟨E,U,ag⟩:=h;unfold br;rw[af];simp only;split
  ·rename_i qt i_ lW;have Dz:qt:=by have:=Dy aU aB E;grind
   split
   ·split
    ·rename_i zE av a8;refine .bN ⟨Dz,λae=>?_⟩;have:(use (aZ aP s.ay a)).1:=by
      rcases U with U | U
      ·exact Dy aU aB U
      ·exact TQ aU lW Dz U ae
     grind
    ·exact .bV
   ·split
    ·rename_i zE av a8;refine .bN ⟨Dz,λae=>?_⟩;have:(use (aZ aP s.ay b)).1:=by
      rcases ag with ag | ag
      ·exact Dy aU aB ag
      ·exact TQ aU lW Dz ag (by subst ae;rfl)
     grind
    ·exact .bV
   ·exact .bV
  ·exact .bV
 | _=>
  simp only[Ah,af]at h;exact SN (TP aU aB h)
theorem agP(aU:qH ops s tg)(aB:∀ k,gk=some k->kE s.ay ops (some k)=some (some true)){ca c:Prop}{e6 sH:aG}{hF xN:List (Nat×bJ)}(hw:Dh o e6 hF=some (xN,sH))(M:(br aP T be (aZ aP s.ay) o).run s.aa=some ⟨ca,c,e6,hF⟩)
  (h:L8 (aZ aP s.ay) tg gk o sH=true):(use sH).1:=by
 unfold L8 at h;rw[Bool.or_eq_true]at h;rcases h with h | h
 ·exact Gt (by grind)
 ·split at h
  ·rename_i x af;simp only[br,af,bN,ao.bL,Option.some.injEq,eA.mk.injEq]at M;obtain⟨_,_,rfl,rfl⟩:=M;simp only[Dh,Option.some.injEq,Prod.mk.injEq]at hw;obtain⟨_,rfl⟩:=hw;exact Dy aU aB h
  grind
end
theorem aA.DA{s:aA}{d:Option Nat}{v:aG}{i:Nat}(h:d≠some i):(s.set d v).ay i=s.ay i:=by
 cases d with
 | none=>rfl
 | some d=>simp only[aA.set];grind
theorem aA.MS{s:aA}{d:Nat}{v:aG}:(s.set (some d) v).ay d=v:=by simp[aA.set]
theorem aA.Ac:∀ (l:List (Nat×bJ)) (s:aA),(s.fZ l).ay=s.ay
 | [],_=>rfl
 | p::l,s=>by
  have:=aA.Ac l (s.cw p.1 p.2);exact this
theorem agQ{aP:dC}{cc:hX}{gs:Bool->cc.ak->aA}(h:rE aP T be Ψ s o=some cc)(aB:cc.Db=some gs):∀ g y,∃ v,(gs g y).ay=(s.set o.dst (.hD g v)).ay:=by
 have after:∀ (t:ab) (bU:List Nat) (v:aG),(rB s o t bU v).ay=(s.set o.dst v).ay:=λt bU v=>by
  unfold rB;split
  ·rfl
  ·cases o.dst<;>rfl
 have du:∀ {args:List Operand} {c:hI} {cc:hX} {gs:Bool->cc.ak->aA},Dc aP s o args c=some cc->cc.Db=some gs->∀ g y,∃ v,(gs g y).ay=(s.set o.dst (.hD g v)).ay:=by
  intro args c cc gs h aB;unfold Dc at h;split at h
  ·cases h;cases aB;exact λg y=>⟨_,after _ _ _⟩
  grind
 have GI:∀ {t:Nat} {args:List Operand} {cc:hX} {gs:Bool->cc.ak->aA},Dd aP s o t args=some cc->cc.Db=some gs->∀ g y,∃ v,(gs g y).ay=(s.set o.dst (.hD g v)).ay:=by
  intro t args cc gs h aB;unfold Dd at h;split at h
  ·split at h
   ·cases h;cases aB;exact λg y=>⟨_,after _ _ _⟩
   grind
  grind
 unfold rE at h;split at h
 ·split at h
  ·split at h
   ·split at h
    ·unfold xK at h;grind
    ·unfold GL at h;grind
    ·split at h
     ·exact du h aB
     grind
   ·split at h
    ·rename_i M;cases h;exact GI M aB
    ·split at h
     ·rename_i M;cases h;unfold GN xK at M;grind
     ·unfold GO at h;grind
   grind
  grind
 ·unfold GP at h;grind
 ·unfold GR at h;grind
 ·unfold GS at h;grind
 ·unfold Dg at h;grind
 grind
theorem vK{x:Operand}{t:Nat}(h:ib x=some t):x=.tmp t:=by
 cases x<;>simp[ib]at h;rw[h]
theorem TR{o gE kZ kl:Oper}{d1 d2:Nat}(h:Ai o gE kZ=some (kl,d1,d2)):∃ ty m x y,o.op=.mapEntry ty m x/\o.dst=some d1/\gE.op=.extract (.tmp d1) 1/\gE.dst=some d2/\kZ.op=.entryStore ty m (.tmp d2) y/\kZ.dst=none/\
  kl.op=.mapUpdate ty m x y/\kl.dst=none/\m≠.tmp d1/\m≠.tmp d2/\y≠.tmp d1/\y≠.tmp d2/\o.guard=none/\gE.guard=none/\kZ.guard=none:=by
 unfold Ai at h;split at h
 ·rename_i ty m x af;split at h
  ·rename_i e x1;split at h
   ·rename_i mT dw aY y ayg;split at h
    ·rename_i ad7 K3 MT DB TS;split at h
     ·rename_i hc;simp only[Option.some.injEq,Prod.mk.injEq]at h;obtain⟨rfl,rfl,rfl⟩:=h;obtain⟨bC,c2,rfl,c4,c5,lO,oK,xn,c9,Hc,agR,c12,agS⟩:=hc;obtain⟨oU,uw⟩:=Option.isSome_iff_exists.1 c4;have fi:=vK uw;have hm:=vK (c5.symm.trans uw);have ax:=vK bC;have aO:=vK c2;subst ax;subst aO;refine⟨mT,m,x,y,af,MT,x1,DB,?_,TS,rfl,TS,λe=>oK (by grind),λe=>xn (by grind),λe=>c9 (by grind),λe=>Hc (by grind),Option.isNone_iff_eq_none.1 agR,Option.isNone_iff_eq_none.1 c12,Option.isNone_iff_eq_none.1 agS⟩;grind
     grind
    grind
   grind
  grind
 grind
theorem MU{β:Type}(aU:dR C.P T)(cz:jo C.P be)(cW:l0 C.P C.aN Ψ)(aq:∀ o∈ops.toList,lp o C.nt=true){k:aA->A β}{O:β->Prop}
  (al:∀ s' a' w',cr C s' a' w'->A.cu (k s') O->Q .normal a' w'):∀ (os:List Oper) (n:Nat) (tg:pJ) (s:aA) (a:Act) (w:World),ops.toList.drop n=os->qH ops s tg->cr C s a w->A.cu (mz C.aN T be Ψ ops os tg s k) O->
   wpOpsIn (dQ C.r) 0 C.P ops Q (List.range' n os.length) a w:=by
 intro os;generalize hlen:os.length=len;induction len using Nat.strongRecOn generalizing os with
 | _ len TT=>
 subst hlen;cases os with
 | nil=>
  intro n tg s a w _ _ M hm;exact al s a w M hm
 | cons o os=>
  have aH:=TT os.length (by simp) os rfl;intro n tg s a w au x2 M hm;have cj:n<ops.toList.length:=by
   grind
  rw[List.drop_eq_getElem_cons cj]at au;injection au with qA hZ
  have eT:ops[n]?=some o:=by
   grind
  have jR:o∈ops.toList:=qA ▸ List.getElem_mem cj;have x3:=aq o jR;have bf:∀ i,o.dst=some i->i<C.nt:=λi G=>by
   have:=x3;simp only[lp,Bool.and_eq_true]at this;grind
  simp only[List.length_cons,List.range'_succ,wpOpsIn,eT];obtain⟨κ,F,eU⟩:=M;unfold mz at hm;split at hm
  ·rename_i kl d1 d2 sO;cases os with
   | nil=>exact hm.1.elim
   | cons gE os=>
    cases os with
    | nil=>exact hm.1.elim
    | cons kZ os=>
     simp only at hm;split at hm
     ·rename_i res gn;obtain⟨ty,m,x,y,f1,f2,f3,f4,f5,f6,f7,f8,f9,f10,f11,f12,g1,eh,g3⟩:=TR sO;have TU:=hZ;have CK:n+1<ops.toList.length:=by
       grind
      rw[List.drop_eq_getElem_cons CK]at TU;injection TU with agT TV
      have agU:n+2<ops.toList.length:=by
       grind
      rw[List.drop_eq_getElem_cons agU]at TV;injection TV with ayh agV
      have agW:ops[n+1]?=some gE:=by
       grind
      have ayi:ops[n+2]?=some kZ:=by
       grind
      have DB:d2<C.nt:=by
       have:=aq gE (agT ▸ List.getElem_mem CK);simp only[lp,Bool.and_eq_true]at this;grind
      rw[A.kR,A.kR]at hm;have b_:Region.wanted o (yielded ops a.tmps)=true:=by unfold Region.wanted;rw[g1]
      have c7:∀ a':Act,Region.wanted gE (yielded ops a'.tmps)=true:=λa'=>by unfold Region.wanted;rw[eh]
      have eV:∀ a':Act,Region.wanted kZ (yielded ops a'.tmps)=true:=λa'=>by unfold Region.wanted;rw[g3]
      have:=agx (Q:=Q) (K:=λa' w'=>wpOpsIn (dQ C.r) 0 C.P ops Q (List.range' (n+3) os.length) a' w') aU f1 f2 f3 f4 f5 f6 f7 f8 f9 f10 f11 f12 (bf d1 f2) DB gn eU hm.1 hm.2.1
       λa' w' a_=>TT os.length (by grind) os rfl (n+3) [] _ a' w' agV (λp an=>by cases an) a_ hm.2.2
      rw[b_];simp only[if_true];refine Oper.wpIn_mono (λb' ayj E=>?_) this;simp only[List.length_cons,List.range'_succ,wpOpsIn,agW,c7,if_true];grind
     ·exact hm.1.elim
  split at hm
  ·exact hm.1.elim
  ·rename_i aB;have ayk:o.guard=none:=by
    cases h:o.guard with
    | none=>rfl
    | some p=>
     rw[h]at aB;simp only[kE]at aB;grind
   rw[MQ eU aB];simp only[Option.getD_none,if_true];split at hm
   ·rename_i res gn;rw[sN λW=>(Hi x2 (gk:=none) (λk al=>by cases al) W).run s.aa res gn,sN λW=>(z' W).run s.aa res gn]at hm;refine Oper.wpIn_mono (λa' w' a_=>aH (n+1) _ _ a' w' hZ (x2.hl (λi G=>?_) λd k _ al=>by grind) a_ hm.2.2) (xz aU cz x3 gn a w κ F Q eU hm.1 hm.2.1);unfold aA.h_;rw[aA.DA G,aA.Ac]
   ·split at hm
    ·rename_i cc oT;obtain⟨jM,qx,mx⟩:=MO aU cz cW bf oT;rw[sN λW=>mx (Ly W),A.fY]at hm;exact jM a w Q _ ⟨κ,F,eU⟩ hm.1 (hm.2.mono λy aR a' w' a_=>aH (n+1) _ _ a' w' hZ (λp an=>by cases an) a_ aR)
    ·exact hm.1.elim
  ·rename_i g aB;have Hj:∀ k,o.guard=some k->g=true->kE s.ay ops (some k)=some (some true):=λk al aL=>by grind
   rw[MQ eU aB];simp only[Option.getD_some];split at hm
   ·rename_i ca c agX agY gn;split at hm
    ·rename_i hF e6 x4;obtain⟨agZ,ag0⟩:=agK x4 gn;rw[sN λW=>by
      simp only[Bool.and_eq_true]at W;exact λHk=>⟨(Hi x2 (λk al=>Hj k al Hk) W.1).run s.aa _ gn,(z' W.2.1).run s.aa _ gn,agP x2 (λk al=>Hj k al Hk) x4 gn W.2.2⟩]at hm
     have DC:qH ops ((s.fZ hF).set o.dst (.hD g (use e6).2)) (xL ops tg o):=x2.hl (λi G=>by rw[aA.DA G,aA.Ac]) λd k aq al=>⟨g,(use e6).2,by rw[aq,aA.MS],by grind⟩
     cases g with
     | true=>
      simp only[if_true];obtain⟨E,U,ag⟩:=hm.1 rfl;refine Oper.wpIn_mono (λa' w' a_=>aH (n+1) _ _ a' w' hZ DC (cr.Mp (av':=.hD true (use e6).2) (agZ a' w' a_) bf λκ F v ae=>⟨λ_=>pw ae ag,λh=>(by cases h)⟩) hm.2) (xz aU cz x3 gn a w κ F Q eU E U)
     | false=>
      simp only[Bool.false_eq_true,if_false];refine⟨λ_ _=>trivial,aH (n+1) _ _ _ w hZ DC ?_ hm.2⟩;obtain⟨κ',F',ag1⟩:=ag0 a w κ F eU;exact⟨κ',F',ag1.set (av:=.hD false (use e6).2) bf ⟨λh=>(by cases h),λ_=>rfl⟩⟩
    ·cases g with
     | true=>
      simp only[if_true]at hm ⊢;rw[A.kR,A.kR]at hm;exact Oper.wpIn_mono (λa' w' a_=>aH (n+1) _ _ a' w' hZ (λp an=>by cases an) a_ hm.2.2) (xz aU cz x3 gn a w κ F Q eU hm.1 hm.2.1)
     | false=>
      simp only[Bool.false_eq_true,if_false]at hm ⊢;exact⟨λ_ _=>trivial,aH (n+1) _ _ _ w hZ (λp an=>by cases an) ⟨κ,F,eU.set (av:=.hD false (S_ agY (use agX).2)) bf ⟨λh=>(by cases h),λ_=>rfl⟩⟩ hm⟩
   ·split at hm
    ·rename_i cc oT;obtain⟨jM,qx,mx⟩:=MO aU cz cW bf oT;split at hm
     ·rename_i gs oS;obtain⟨df,dJ⟩:=qx gs oS;rw[sN λW Hk=>mx (TP x2 (λk al=>Hj k al Hk) W),A.fY]at hm;have DC:∀ y,qH ops (gs g y) (xL ops tg o):=λy=>by
       obtain⟨v,ae⟩:=agQ oT oS g y;exact x2.hl (λi G=>by rw[ae,aA.DA G]) λd k aq al=>⟨g,v,by rw[ae,aq,aA.MS],by grind⟩
      cases g with
      | true=>
       simp only[if_true];exact jM a w Q _ ⟨κ,F,eU⟩ (hm.1 rfl) (hm.2.mono λy aR a' w' a_=>aH (n+1) _ _ a' w' hZ (DC y) (df y a' w' a_) aR)
      | false=>
       simp only[Bool.false_eq_true,if_false];exact⟨λ_ _=>trivial,aH (n+1) _ _ _ w hZ (DC cc.d) (dJ a w ⟨κ,F,eU⟩) (by
        have h:=hm.2;simp only[ct,Bool.false_eq_true,if_false]at h;exact h.2 cc.d rfl)⟩
     ·cases g with
      | true=>
       simp only[if_true]at hm ⊢;rw[A.kR,A.fY]at hm;exact jM a w Q _ ⟨κ,F,eU⟩ hm.1 (hm.2.mono λy aR a' w' a_=>aH (n+1) _ _ a' w' hZ (λp an=>by cases an) a_ aR)
      | false=>
       simp only[Bool.false_eq_true,if_false]at hm ⊢;exact⟨λ_ _=>trivial,aH (n+1) _ _ _ w hZ (λp an=>by cases an) ⟨κ,F,eU.set (av:=.hD false (use ((cc.st cc.d).ay (o.dst.getD 0))).2) bf ⟨λh=>(by cases h),λ_=>rfl⟩⟩ hm⟩
    ·exact hm.1.elim
end
end Go.Fer
namespace Go.Fer
open Go.RowKit
section
variable {C:b8} {T:Nat->ab} {be:Nat->Option aM} {s:aA} {res:eA}
theorem ag2{P:Program}:∀ (t:ab),t.kV=true->∀ {F F':Nat->Prop} {w w':World} {cs:List Value} {x:t.aj},bH P t F w cs x->bH P t F' w' cs x:=by
 intro t;induction t with
 | bool=>intro _ F F' w w' cs x h;exact h
 | int k=>intro _ F F' w w' cs x h;exact h
 | str=>intro _ F F' w w' cs x h;exact h
 | cS=>intro hc;cases hc
 | st t aH=>intro hc F F' w w' cs x h;simp only[bH]at h ⊢;exact aH hc h
 | az a b fw eJ=>
  intro hc F F' w w' cs x h;simp only[ab.kV,Bool.and_eq_true]at hc;simp only[bH]at h ⊢;grind
 | slice e aH=>intro hc;cases hc
 | array n e aH=>intro hc;cases hc
 | bG e aH=>intro hc;cases hc
 | map k v w8 w9=>intro hc;cases hc
 | fn a b fw eJ=>intro hc;cases hc
 | cq a aH=>intro hc;cases hc
 | en=>intro hc;cases hc
theorem TW{P:Program}{t:ab}(h:t.kV=true){F F':Nat->Prop}{w w':World}{v:Value}{x:t.aj}(ae:eo P t F w v x):eo P t F' w' v x:=⟨ae.1,ag2 t h ae.2⟩
theorem Hl(a:Act){i j:Nat}(h:i≠j)(v u:Value):(a.put (some i) v).put (some j) u=(a.put (some j) u).put (some i) v:=by
 simp only[Act.put];rw[Array.setIfInBounds_comm _ _ h]
theorem Hm{P:Program}{ty lo zX:TypeId}(G:P.underlying ty=some (.map lo zX)){r:Nat}{ms:Array MapEntry}{clk:Nat}{w:World}(hw:w.heap[r]?=some (.map ms clk)){key u:Value}{f:Option (Nat×Value)}
  (d':(Instr.checkKey ms.isEmpty 10000 lo key).run P w=.ok () w) (ar:(Instr.findKey lo key ms.toList).run P w=.ok f w) (hu:(∃ i,f=some (i,u))\/(f=none/\(zeroValue zX).run P w=.ok u w)) :
  (Instr.lookup ty (.map (some r)) key false).run P w=.ok u w:=by
 have eT:(getObj r).run P w=.ok (.map ms clk) w:=by simp[getObj,Sem.run,hw]
 rcases hu with⟨i,rfl⟩ | ⟨rfl,bj⟩
 ·simp only[Instr.lookup,Sem.run_bind,dA G,Result.andThen_ok,Sem.run_pure,eT,d',ar];rfl
 ·simp only[Instr.lookup,Sem.run_bind,dA G,Result.andThen_ok,Sem.run_pure,eT,d',ar,bj];rfl
theorem ag3(aU:dR C.P T){gF hJ kl:Oper}{ty:TypeId}{m x y:Operand}(iO:gF.op=.lookup ty m x false)(kD:hJ.op=.mapEntry ty m x)(ie:kl.op=.mapUpdate ty m x y){dM:aA}(rs:dM.aa=s.aa)
  (pN:aZ C.aN dM.ay m=aZ C.aN s.ay m) (Gg:aZ C.aN dM.ay x=aZ C.aN s.ay x) (h:(br C.aN T be (aZ C.aN dM.ay) kl).run dM.aa=some res)
  {a:Act} {w:World} {κ:Nat->bA} {F:Nat->Prop} (M:bk C s a w κ F) (MV:(use (aZ C.aN s.ay m)).1) (MW:(use (aZ C.aN s.ay x)).1) :
  ∃ u n wE,∀ a':Act,a'.eval m=a.eval m->a'.eval x=a.eval x->
   (execOp a'.eval gF).run C.P w=.ok (.value u) w/\(execOp a'.eval gF).run C.P wE=.ok (.value u) wE/\(execOp a'.eval hJ).run C.P w=.ok (.value (.tuple #[u,goInt n])) wE:=by
 simp only[br,ie,rj,pN,Gg,rs]at h;split at h
 ·rename_i k v aL;obtain⟨lo,zX,G,mY,hj⟩:=(aU.cb aL (by simp)).mp;obtain⟨inf,mA,i1,i2,i3,i4,i5,i6⟩:=kz hj.ky;split at h
  ·rename_i xZ;split at h
   ·rename_i b g ud;simp only[ao.e1,Option.bind_eq_some_iff,ao.run_bind,ao.e0,ao.bL]at h;obtain⟨⟨dH,oH⟩,ah,⟨mZ,oI⟩,aR,h⟩:=h;split at h
    ·rename_i aB;obtain⟨aB,_⟩:=aB;split at h
     ·rename_i k' h7 es W;simp only[Option.map_eq_some_iff]at h;obtain⟨Sw,pz,rfl⟩:=h;obtain⟨e,rfl⟩:=kT pz;cases e;have hm:bx C.P s.aa κ F w (use (aZ C.aN s.ay m)).2 (a.eval m):=cM M m rfl MV;rw[ud]at hm;have kY:=hm.2 aB.symm (by rw[W];rfl);have fh:k.kV=true/\k.ka<=100:=by simpa [tU]using xZ
      have ue:=CB M ah (cM M x rfl MW);have Hn:∀ (F':Nat->Prop) w',eo C.P k F' w' (a.eval x) dH:=λF' w'=>TW fh.1 ue;have aS:=M.bB b;unfold cC at aS;rw[W]at aS;obtain⟨ms,clk,hw,uf⟩:=aS;have d':∀ em w',(Instr.checkKey em 10000 lo (a.eval x)).run C.P w'=.ok () w':=λem w'=>(CY (em:=em) (F:=λ_=>True) k 10000 fh.1 (by omega)).1 mY (Hn _ w');have TX:=uf.es;have TO:∀ (j:Nat) (e:MapEntry) (p:k.aj×v.aj),ms.toList[j]?=some e->es[j]?=some p->∀ (F':Nat->Prop) w',eo C.P k F' w' e.key p.1:=λj e p E U F' w'=>TW fh.1 (TX.2 j e p E U).1;obtain⟨f,df,dJ⟩:=xu (F:=λ_=>True) (w:=w) (β:=v.aj) (xs:=es) (es:=ms.toList) xZ mY (Hn _ w) TX.1 (λj e p E U=>TO j e p E U _ w);have eT:(getObj (κ b).aa).run C.P w=.ok (.map ms clk) w:=by simp[getObj,Sem.run,hw]
      obtain⟨hv,Lk,Gl,Sx⟩:=uf;have cj:(κ b).aa<w.heap.size:=(Array.getElem?_eq_some_iff.1 hw).1;have bj:∀ w',(zeroValue zX).run C.P w'=.ok mA w':=λw'=>rk i1 i4;have pO:∀ (a':Act) (w':World) (u:Value),a'.eval m=a.eval m->a'.eval x=a.eval x->(Instr.lookup ty (.map (some (κ b).aa)) (a.eval x) false).run C.P w'=.ok u w'->(execOp a'.eval gF).run C.P w'=.ok (.value u) w':=by
       intro a' w' u ax aO a_;simp only[execOp,iO,ax,aO,kY,Sem.run_bind,a_,Result.andThen_ok,Sem.run_pure]
      have ag4:∀ q:k.aj,gM k dH q=true<->dH=q:=λq=>Lg k fh.1 dH q;rcases dJ with⟨rfl,eB⟩ | ⟨j,e,p,g1,eh,g3,g4,rfl⟩
      ·let b_:World:={ w with heap:=w.heap.setIfInBounds (κ b).aa (.map (ms.push { key:=a.eval x,val:=mA,born:=clk }) (clk+1)) }
       have lV:b_.heap[(κ b).aa]?=some (.map (ms.push { key:=a.eval x,val:=mA,born:=clk }) (clk+1)):=by grind
       obtain⟨iF,cf,cI⟩:=xu (F:=λ_=>True) (w:=b_) (β:=v.aj) (xs:=es++[(dH,v.de)]) (es:=(ms.push { key:=a.eval x,val:=mA,born:=clk }).toList) xZ mY (Hn _ b_) (by grind) (λj e p E U=>by
        grind)
       have rL:∃ i,iF=some (i,mA):=by
        rcases cI with⟨_,er⟩ | ⟨j,e,p,ev,dM,eI,oV,rfl⟩
        ·have:=er (dH,v.de) (by simp);grind
        ·by_cases aE:j<es.length
         ·grind
         grind
       refine⟨mA,clk,b_,λa' ax aO=>⟨pO a' w mA ax aO (Hm G hw (d' _ w) df (.inr ⟨rfl,bj w⟩)),pO a' b_ mA ax aO (Hm G lV (d' _ b_) cf (.inl rL)),?_⟩⟩;simp only[execOp,kD,ax,aO,kY,Instr.mapEntry,Sem.run_bind,dA G,Result.andThen_ok,eT,d',df,bj,sA hw,Sem.run_pure];rfl
      ·have aE:j<es.length:=(List.getElem?_eq_some_iff.1 eh).1;have xv:j<ms.size:=by omega
       have Lm:ms[j]=e:=by
        grind
       obtain⟨jr,b_,t1,t2,t3⟩:=Li C.P w e.key (a.eval x);have lV:b_.heap[(κ b).aa]?=some (.map ms clk):=by rcases t3 with rfl | rfl<;>exact hw
       have TK:(κ b).aa<b_.heap.size:=(Array.getElem?_eq_some_iff.1 lV).1;have nZ:((ms[j]?).map (·.key)).getD (a.eval x)=e.key:=by
        grind
       have MN:((ms[j]?).map (λx=>(x.born:Int))).getD 0=(ms[j].born:Int):=by grind
       rw[Nat.zero_add]at df;have aeG:dH=p.1:=(ag4 p.1).1 g3;let c7:World:={ b_ with heap:=b_.heap.setIfInBounds (κ b).aa (.map (ms.modify j λe=>{ e with key:=jr }) clk) }
       have gX:c7.heap[(κ b).aa]?=some (.map (ms.modify j λe=>{ e with key:=jr }) clk):=by grind
       have vp:∀ (F':Nat->Prop) w',eo C.P k F' w' jr p.1:=λF' w'=>by
        grind
       have zU:∀ i,(ms.modify j λe=>{ e with key:=jr }).toList[i]?=if i=j then some { e with key:=jr } else ms.toList[i]?:=λi=>by
        grind
       obtain⟨iF,cf,cI⟩:=xu (F:=λ_=>True) (w:=c7) (β:=v.aj) (xs:=es) (es:=(ms.modify j λe=>{ e with key:=jr }).toList) xZ mY (Hn _ c7) (by grind) (λi aY p' E U=>by
        rw[zU]at E;grind)
       have rL:∃ i,iF=some (i,e.val):=by
        rcases cI with⟨_,er⟩ | ⟨i,aY,p',ev,dM,eI,oV,rfl⟩
        ·have:=er p (List.mem_of_getElem? eh);rw[g3]at this;cases this
        ·have zY:i=j:=by
          rcases Nat.lt_trichotomy i j with h | h | h
          ·have:=g4 i p' h dM;rw[eI]at this;cases this
          ·exact h
          ·have:=oV j p h eh;rw[g3]at this;cases this
         subst zY;rw[zU,if_pos rfl]at ev;cases ev;exact⟨_,rfl⟩
       refine⟨e.val,ms[j].born,c7,λa' ax aO=>⟨pO a' w e.val ax aO (Hm G hw (d' _ w) df (.inl ⟨_,rfl⟩)),pO a' c7 e.val ax aO (Hm G gX (d' _ c7) cf (.inl rL)),?_⟩⟩;simp only[execOp,kD,ax,aO,kY,Instr.mapEntry,Sem.run_bind,dA G,Result.andThen_ok,eT,d',df];rw[nZ,t1];simp only[Result.andThen_ok,sA lV,Sem.run_pure,MN];rfl
     grind
    grind
   ·cases h
  ·cases h
 ·cases h
end
end Go.Fer
namespace Go.Fer
open Go.RowKit
section
variable {C:b8} {T:Nat->ab} {be:Nat->Option aM} {Ψ:Nat->Option e2} {s:aA} {o:Oper} {Q:Exit->Act->World->Prop} {ops:Array Oper}
theorem A.ag5{ak:Type}{m:A ak}(h:m.Da){d x:ak}(ah:m.bQ x):x=m.val d:=by
 unfold A.val;have he:∃ x,m.bQ x:=⟨x,ah⟩
 rw[dif_pos he];exact h _ _ ah he.choose_spec
theorem TY(cz:jo C.P be)(cW:l0 C.P C.aN Ψ):jo C.P (GK be Ψ):=by
 intro k c h;unfold GK at h;split at h
 ·rename_i du MP;split at h
  ·rename_i aq;cases h;simp only[Bool.and_eq_true,Bool.not_eq_true']at aq;have h:=cW k _ MP;obtain⟨E,U⟩:h6 C.P k du.ts du.aW du.sh/\(du.dP=true->∀ x,(du.sh x).Da):=h;exact⟨λ_=>E.zx λx aD=>⟨aD,λy aR=>A.ag5 (U aq.1 x) aR⟩,λhe=>by rw[show nU du.GI.aW=nU du.aW from rfl,aq.2]at he;cases he⟩
  grind
 ·rename_i c' hc;cases h;have h:nU c.aW=true/\CV C.P k c:=cW k _ hc;exact⟨λhe=>(by rw[h.1]at he;cases he),λ_=>h.2⟩
 ·cases h
 ·exact cz k c h
theorem TZ{β:Type}{m:A β}{O:β->Prop}:∀ (l:List Prop),A.cu (Di l m) O->(∀ p∈l,p)/\A.cu m O:=by
 intro l;induction l with
 | nil=>intro h;exact⟨λp an=>(by cases an),h⟩
 | cons p l aH=>
  intro h;simp only[Di]at h;rw[A.kR]at h;grind
theorem T0{df dJ:Bool}{ca c:Prop}(E:df=true->ca)(U:dJ=true->c)(h:∀ p∈C6 df dJ ca c,p):ca/\c:=by
 unfold C6 at h;constructor
 ·cases df with
  | true=>grind
  | false=>simp_all
 ·cases dJ with
  | true=>grind
  | false=>simp_all
theorem T1(aU:dR C.P T)(cz:jo C.P be)(aq:lp o C.nt=true){r:eN}(h:vz C.aN T be ops s o=some r)(hc:∀ p∈r.cs,p){a:Act}{w:World}(M:cr C s a w){K:Act->World->Prop}
  (iM:∀ a' w',cr C (r.h' s) a' w'->K a' w') :
  if Region.wanted o (yielded ops a.tmps) then o.wpIn (dQ C.r) 0 C.P a w K Q else (∀ f,o.about C.P w a.eval=some f->(dQ C.r).fn f)/\K (a.put o.dst undef) w:=by
 have bf:∀ i,o.dst=some i->i<C.nt:=λi G=>by
  have:=aq;simp only[lp,Bool.and_eq_true]at this;grind
 obtain⟨κ,F,eU⟩:=M;unfold vz at h;split at h
 ·cases h
 ·rename_i g aB;rw[MQ eU aB];split at h
  ·cases h
  ·rename_i res gn;split at h
   ·cases h;simp only[Option.getD_none,if_true];obtain⟨E,U⟩:=T0 (λW=>(SO W).run s.aa res gn) (λW=>(z' W).run s.aa res gn) hc;exact Oper.wpIn_mono iM (xz aU cz aq gn a w κ F Q eU E U)
   ·rename_i b;split at h
    ·rename_i x4;cases h;have hc:∀ p∈C6 (sC (aZ C.aN s.ay) o&&(nb (aZ C.aN s.ay) o&&!res.e6.z_)) true (b=true->res.ca/\(res.c/\(use res.e6).1)) True,p:=hc;obtain⟨E,_⟩:=T0 (λW=>by
      simp only[Bool.and_eq_true,Bool.not_eq_true']at W;exact λ_=>⟨(SO W.1).run s.aa _ gn,(z' W.2.1).run s.aa _ gn,Gt W.2.2⟩) (λ_=>trivial) hc
     obtain⟨ca,c,e6,hF⟩:=res;simp only at x4;subst x4;cases b with
     | true=>
      simp only[Option.getD_some,if_true];obtain⟨E,U,ag⟩:=E rfl;refine Oper.wpIn_mono (λa' w' a_=>iM a' w' ?_) (xz aU cz aq gn a w κ F Q eU E U);exact cr.Mp (av':=.hD true (use e6).2) a_ bf λκ F v ae=>⟨λ_=>pw ae ag,λh=>(by cases h)⟩
     | false=>
      simp only[Option.getD_some,Bool.false_eq_true,if_false];exact⟨λ_ _=>trivial,iM _ _ ⟨κ,F,eU.set (av:=.hD false (use e6).2) bf ⟨λh=>(by cases h),λ_=>rfl⟩⟩⟩
    grind
theorem T2(cl:List (List Nat)):∀ n,Ak cl n<=n/\∀ j,Ak cl n<=j->j<n->∀ i,i<j->i∈cl.getD j []
 | 0=>⟨Nat.le_refl _,λj _ h=>by omega⟩
 | n+1=>by
  unfold Ak;split
  ·rename_i h;obtain⟨E,U⟩:=T2 cl n;refine⟨by omega,λj aE MX i G=>?_⟩;by_cases e:j=n
   ·simp_all
   grind
  grind
theorem ag6{n:Nat}(rM:C9 ops.toList=true)(ag7:∀ j,n<=j->j<ops.size->∀ i,i<j->i∈(iq ops.toList).getD j []):∀ (k j ch:Nat) (listed:Array Bool) (a:Act) (w:World),n<=j->j+k=ops.size->listed.size=ops.size->
  (∀ i,listed.getD i false=decide (i<j))->k<=ch->wpOpsIn (dQ C.r) 0 C.P ops Q (List.range' j k) a w->wpAnyIn (dQ C.r) 0 C.P .any ops Q ch listed a w:=by
 intro k;induction k with
 | zero=>
  intro j ch listed a w ag8 ag9 cd ai ar h;have M:∀ i,i ∉ Region.ready .any ops listed:=λi G=>by
   rw[mem_ready]at G;grind
  have iP:Region.ready .any ops listed=[]:=List.eq_nil_iff_forall_not_mem.2 M;cases ch with
  | zero=>exact⟨iP,h⟩
  | succ ch=>exact⟨λ_=>h,λi G=>absurd G (M i)⟩
 | succ k aH=>
  intro j ch listed a w ag8 ag9 cd ai ar h;have aE:j<ops.size:=by omega
  cases ch with
  | zero=>omega
  | succ ch=>
   have qI:∀ q o,ops[q]?=some o->listed.getD q false=true->∀ i∈ia o,listed.getD i false=true:=λq o af bp i G=>by
    rw[ai]at bp ⊢;have bp:q<j:=by grind
    have:=List.all_eq_true.1 rM q (by grind);grind
   have ag_:∀ i,i∈Region.ready .any ops listed<->i=j:=λi=>by
    constructor
    ·intro G;rw[mem_ready]at G;obtain⟨aT,o,af,Ho⟩:=G;have hW:i<ops.size:=(Array.getElem?_eq_some_iff.1 af).1;have DD:listed.getD i false=false:=by
      grind
     rw[ai]at DD;have Gp:j<=i:=by grind
     by_cases e:i=j
     ·exact e
     ·exfalso;have sP:∀ k∈ia o,listed.getD k false=true:=by
       intro k al;obtain⟨e,he,vL⟩:=List.mem_filterMap.1 al;grind
      have DE:∀ k∈(iq ops.toList).getD i [],listed.getD k false=true\/k=i:=by
       intro k al;refine xE (p:=λj=>listed.getD j false=true\/j=i) ops.toList [] (λj i G=>by grind) (λj hT kj k al aE=>?_) i k al (.inr rfl);have lu:ops[j]?=some hT:=by grind
       rcases (by simp_all:listed.getD j false=true\/j=i) with aE | aE
       ·exact .inl (qI j hT lu aE k al)
       ·subst aE;rw[af]at lu;cases lu;exact .inl (sP k al)
      grind
    ·rintro rfl;rw[mem_ready];refine⟨?_,ops[i],by simp,λe he W=>?_⟩
     ·grind
     ·have hW:e.on∈ia ops[i]:=List.mem_filterMap.2 ⟨e,by grind,by grind⟩;have:=List.all_eq_true.1 rM i (by grind);grind
   refine⟨λM=>?_,λi G=>?_⟩
   ·simp_all
   ·obtain rfl:=(ag_ i).1 G;have eT:ops[i]?=some ops[i]:=by simp
    rw[List.range'_succ]at h;simp only[wpOpsIn,eT]at h;have next:∀ a w,wpOpsIn (dQ C.r) 0 C.P ops Q (List.range' (i+1) k) a w->wpAnyIn (dQ C.r) 0 C.P .any ops Q ch (listed.setIfInBounds i true) a w:=λa w cT=>by
     refine aH (i+1) ch _ a w (by omega) (by omega) (by grind) (λq=>?_) (by omega) cT;by_cases e:q=i
     ·simp_all
     ·rw[getD_set_ne false (Ne.symm e),ai,decide_eq_decide];omega
    unfold wpOpIn;rw[eT];simp only;split
    ·rename_i hw;rw[if_pos hw]at h;exact Oper.wpIn_mono next h
    grind
theorem ag'(aU:dR C.P T)(cz:jo C.P be)(aq:∀ o∈ops.toList,lp o C.nt=true){l:List eN}{s':aA}(aD:xA C.aN T be ops ops.toList s=some (l,s'))(cK:Ab ops.toList l=true)
  (hc:∀ r∈l,∀ p∈r.cs,p) (ux:∀ a' w',cr C s' a' w'->Q .normal a' w'):∀ (ch:Nat) (listed:Array Bool) (a:Act) (w:World),listed.size=ops.size->
   (∀ j o,ops[j]?=some o->listed.getD j false=true->∀ i∈ia o,listed.getD i false=true)->((List.range ops.size).filter λj=>!listed.getD j false).length<=ch->
   cr C (ju l s λj=>listed.getD j false) a w->wpAnyIn (dQ C.r) 0 C.P .any ops Q ch listed a w:=by
 obtain⟨hlen,su,DF⟩:=SW _ _ aD;simp only[Ab,Bool.and_eq_true]at cK;obtain⟨rM,MY⟩:=cK;have aha:∀ j o,ops[j]?=some o->∀ i∈ia o,i<j:=by
  intro j o af i G;have aE:j<ops.toList.length:=by
   grind
  have:=List.all_eq_true.1 rM j (by grind);grind
 have ahb:∀ i j x y,i<j->l[i]?=some x->l[j]?=some y->((iq ops.toList).getD j []).contains i=true\/x.apart y=true:=by
  intro i j x y zY G aE;have Ax:j<l.length:=(List.getElem?_eq_some_iff.1 aE).1;have:=List.all_eq_true.1 MY j (by grind);grind
 have DG:∀ listed:Array Bool,listed.size=ops.size->Region.ready .any ops listed=[]->∀ j,j<ops.size->listed.getD j false=true:=by
  intro listed cd M j;induction j using Nat.strongRecOn with
  | _ j aH=>
   intro aE;cases ai:listed.getD j false with
   | true=>rfl
   | false=>
    exfalso;have jR:j∈Region.ready .any ops listed:=by
     rw[mem_ready];refine⟨?_,ops[j],by simp,λe he W=>?_⟩
     ·grind
     ·have hW:e.on∈ia ops[j]:=List.mem_filterMap.2 ⟨e,by grind,by grind⟩;grind
    grind
 have n8:∀ (listed:Array Bool) (a:Act) (w:World),listed.size=ops.size->Region.ready .any ops listed=[]->cr C (ju l s λj=>listed.getD j false) a w->Q .normal a w:=by
  intro listed a w cd M kh;have fF:=DG listed cd M;refine ux a w ?_;have:ju l s (λj=>listed.getD j false)=s':=by
   rw[su];unfold ju;rw[List.filter_eq_self.2 λp an=>?_,C_];obtain⟨_,U⟩:=Ad an;grind
  grind
 intro ch;induction ch with
 | zero=>
  intro listed a w cd _ MZ kh;have M:Region.ready .any ops listed=[]:=by
   cases M:Region.ready .any ops listed with
   | nil=>rfl
   | cons j ayl=>
    exfalso;have jR:j∈Region.ready .any ops listed:=by grind
    rw[mem_ready]at jR;obtain⟨aT,o,af,_⟩:=jR;have aE:=(Array.getElem?_eq_some_iff.1 af).1;have:j∈(List.range ops.size).filter λj=>!listed.getD j false:=by
     grind
    grind
  exact⟨M,n8 listed a w cd M kh⟩
 | succ ch aH=>
  intro listed a w cd qI MZ kh;refine⟨λM=>n8 listed a w cd M kh,λi G=>?_⟩;rw[mem_ready]at G;obtain⟨aT,o,af,Ho⟩:=G;have hW:i<ops.size:=(Array.getElem?_eq_some_iff.1 af).1;have DD:listed.getD i false=false:=by
   grind
  have jR:o∈ops.toList:=by
   grind
  have sP:∀ k∈ia o,listed.getD k false=true:=by
   intro k al;obtain⟨e,he,vL⟩:=List.mem_filterMap.1 al;grind
  obtain⟨r,M,gu⟩:=DF i o (by grind);have ahc:∀ j k,k∈(iq ops.toList).getD j []->listed.getD j false=true->listed.getD k false=true:=by
   refine xE (p:=λj=>listed.getD j false=true) ops.toList [] (λj i G=>by grind) λj hT kj k al aE=>?_;exact qI j hT (by grind) (by simpa using aE) k al
  have DE:∀ k∈(iq ops.toList).getD i [],listed.getD k false=true\/k=i:=by
   intro k al;refine xE (p:=λj=>listed.getD j false=true\/j=i) ops.toList [] (λj i G=>by grind) (λj hT kj k al aE=>?_) i k al (.inr rfl);have lu:ops[j]?=some hT:=by grind
   rcases (by simpa using aE:listed.getD j false=true\/j=i) with aE | aE
   ·exact .inl (qI j hT lu aE k al)
   ·subst aE;rw[af]at lu;cases lu;exact .inl (sP k al)
  have gO:∀ j x,j<i->l[j]?=some x->listed.getD j false=false->x.apart r=true:=by
   grind
  have um:∀ j x,i<j->l[j]?=some x->listed.getD j false=true->r.apart x=true:=by
   grind
  obtain⟨aQ,aV,bK⟩:=SS (s:=s) (f:=λj=>listed.getD j false) M DD gO um;have M0:=SX gu aQ aV;unfold wpOpIn;rw[af];refine T1 aU cz (aq o jR) M0 (hc r (List.mem_of_getElem? M)) kh λa' w' a_=>?_;have eT:∀ j,(listed.setIfInBounds i true).getD j false=if j=i then true else listed.getD j false:=by
   intro j;by_cases e:j=i
   ·subst e;rw[if_pos rfl,Array.getD_eq_getD_getElem?,Array.getElem?_setIfInBounds_self_of_lt (by omega)];rfl
   ·rw[if_neg e,getD_set_ne false (Ne.symm e)]
  refine aH _ a' w' (by grind) (λj hT kj aE k al=>?_) ?_ ?_
  ·rw[eT]at aE ⊢;split
   ·rfl
   ·split at aE
    ·rename_i e;subst e;rw[af]at kj;cases kj;exact sP k al
    ·exact qI j hT kj aE k al
  ·have cj:((List.range ops.size).filter λj=>!(listed.setIfInBounds i true).getD j false).length<((List.range ops.size).filter λj=>!listed.getD j false).length:=by
    have ax:(List.range ops.size).filter (λj=>!(listed.setIfInBounds i true).getD j false)=((List.range ops.size).filter λj=>!listed.getD j false).filter λj=>decide (j≠i):=by
     rw[List.filter_filter];apply List.filter_congr;intro j _;rw[eT];simp
    rw[ax];have M1:i∈(List.range ops.size).filter λj=>!listed.getD j false:=by
     grind
    exact List.length_filter_lt_length_iff_exists.2 ⟨i,M1,by simp⟩
   omega
  ·have:ju l s (λj=>(listed.setIfInBounds i true).getD j false)=r.h' (ju l s λj=>listed.getD j false):=by
    rw[<-bK];congr 1;funext j;grind
   grind
def Hp(n:Nat)(l b e x:Bool)(listed:Array Bool):Prop:=∀ i,listed.getD i false=(decide (i<n)||(l&&decide (i=n))||(b&&decide (i=n+1))||(e&&decide (i=n+2))||(x&&decide (i=n+3)))
def mC(a:Act)(ed fI d1 d2:Nat)(u vB vE vX:Value)(l b e x:Bool):Act:=
 let b':=if l=true then a.put (some ed) u else a
 let a2:=if b=true then b'.put (some fI) vB else b'
 let a3:=if e=true then a2.put (some d1) vE else a2
 if x=true then a3.put (some d2) vX else a3
theorem ahd(a:Act)(d:Option Nat)(v:Value):(a.put d v).tmps.size=a.tmps.size:=by cases d<;>simp[Act.put]
theorem ahe(a:Act)(ed fI d1 d2:Nat)(u vB vE vX:Value)(l b e x:Bool):(mC a ed fI d1 d2 u vB vE vX l b e x).tmps.size=a.tmps.size:=by
 unfold mC;cases l<;>cases b<;>cases e<;>cases x<;>simp[ahd]
theorem T3{a:Act}{ed fI d1 d2:Nat}{u vB vE vX:Value}{l b e x:Bool}{y:Operand}(E:y≠.tmp ed)(U:y≠.tmp fI)(ag:y≠.tmp d1)(a6:y≠.tmp d2):(mC a ed fI d1 d2 u vB vE vX l b e x).eval y=a.eval y:=by
 unfold mC;cases l<;>cases b<;>cases e<;>cases x<;>simp[Av,E,U,ag,a6]
theorem DH{o:Oper}{a:Act}{w w':World}{K:Act->World->Prop}{v:Value}(aq:∀ c,o.op≠.defer c)(h:(execOp a.eval o).run C.P w=.ok (.value v) w')(al:o.wpIn (dQ C.r) 0 C.P a w K Q):K (a.put o.dst v) w':=by
 have:=al.2;rw[zH aq,h]at this;exact this
theorem ahf{n:Nat}(T4:ops.size=n+5)(rM:C9 ops.toList=true){gF iu hJ iJ lX:Oper}(x5:ops[n]?=some gF)(vM:ops[n+1]?=some iu)(Ay:ops[n+2]?=some hJ)(DI:ops[n+3]?=some iJ)(DJ:ops[n+4]?=some lX)
  (DK:gF.guard=none) (DL:iu.guard=none) (Hq:hJ.guard=none) (Hr:iJ.guard=none) (Hs:lX.guard=none) (DM:∀ c,gF.op≠.defer c) (Ht:∀ c,iu.op≠.defer c) (Hu:∀ c,hJ.op≠.defer c) (Hv:∀ c,iJ.op≠.defer c)
  (gO:∀ q,q<5->∀ i,i<n->i∈(iq ops.toList).getD (n+q) []) (M2:n∈(iq ops.toList).getD (n+1) []) (T5:n+2∈(iq ops.toList).getD (n+3) []) (Az:∀ q,q<4->n+q∈(iq ops.toList).getD (n+4) [])
  (T6:∀ i∈ia hJ,i<n) (T7:∀ i∈ia iJ,i<n\/i=n+2)
  {ed fI d1 d2:Nat} (sQ:gF.dst=some ed) (dj:iu.dst=some fI) (DN:hJ.dst=some d1) (Hw:iJ.dst=some d2) (_n1:ed≠fI) (ei:ed≠d1) (jL:ed≠d2) (n4:fI≠d1) (DO:fI≠d2)
  {a:Act} {w wE:World} {u vB vE vX:Value}
  (T8:∀ b e x,(execOp (mC a ed fI d1 d2 u vB vE vX false b e x).eval gF).run C.P (if e=true then wE else w)=.ok (.value u) (if e=true then wE else w))
  (T9:∀ e x,(execOp (mC a ed fI d1 d2 u vB vE vX true false e x).eval iu).run C.P (if e=true then wE else w)=.ok (.value vB) (if e=true then wE else w))
  (T_:∀ l b x,(execOp (mC a ed fI d1 d2 u vB vE vX l b false x).eval hJ).run C.P w=.ok (.value vE) wE)
  (T':∀ l b,(execOp (mC a ed fI d1 d2 u vB vE vX l b true false).eval iJ).run C.P wE=.ok (.value vX) wE)
  (h:wpOpsIn (dQ C.r) 0 C.P ops Q (List.range' n 5) a w):∀ (ch:Nat) (listed:Array Bool),listed.size=ops.size->(∀ i,listed.getD i false=decide (i<n))->5<=ch->wpAnyIn (dQ C.r) 0 C.P .any ops Q ch listed a w:=by
 let aJ:=mC a ed fI d1 d2 u vB vE vX;let aw:=λe:Bool=>if e=true then wE else w
 have wt:∀ {o:Oper},o.guard=none->∀ a':Act,Region.wanted o (yielded ops a'.tmps)=true:=λh a'=>by unfold Region.wanted;rw[h]
 have Hx:lX.wpIn (dQ C.r) 0 C.P (aJ true true true true) wE (λa' w'=>Q .normal a' w') Q:=by
  have gV:List.range' n 5=[n,n+1,n+2,n+3,n+4]:=rfl;rw[gV]at h;simp only[wpOpsIn,x5,vM,Ay,DI,DJ,wt DK,wt DL,wt Hq,wt Hr,wt Hs,if_true]at h;have E:=DH (a:=aJ false false false false) (w:=w) DM (T8 false false false) h;rw[sQ]at E;have U:=DH (a:=aJ true false false false) (w:=w) Ht (T9 false false) E;rw[dj]at U;have ag:=DH (a:=aJ true true false false) (w:=w) Hu (T_ true true false) U;rw[DN]at ag;have a6:=DH (a:=aJ true true true false) (w:=wE) Hv (T' true true) ag;rw[Hw]at a6;exact a6
 have ahg:∀ {l b e x:Bool} {listed:Array Bool},Hp n l b e x listed->(b=true->l=true)->(x=true->e=true)->∀ q o,ops[q]?=some o->listed.getD q false=true->∀ i∈ia o,listed.getD i false=true:=by
  intro l b e x listed bm W ah q o af bp i G;have ahh:q<ops.size:=(Array.getElem?_eq_some_iff.1 af).1;have aym:i<q:=by
   have:=List.all_eq_true.1 rM q (by grind);grind
  rw[bm]at bp ⊢;grind
 have ayn:∀ {listed:Array Bool} {i:Nat},listed.size=ops.size->i<ops.size->(listed[i]?.getD true=false<->listed.getD i false=false):=by
  intro listed i cd G;rw[Array.getD_eq_getD_getElem?,Array.getElem?_eq_getElem (by omega)];rfl
 have ahi:∀ {l b e x:Bool} {listed:Array Bool},Hp n l b e x listed->(b=true->l=true)->(x=true->e=true)->listed.size=ops.size->∀ i∈Region.ready .any ops listed,(i=n/\l=false)\/(i=n+1/\l=true/\b=false)\/(i=n+2/\e=false)\/(i=n+3/\e=true/\x=false)\/(i=n+4/\l=true/\b=true/\e=true/\x=true):=by
  intro l b e x listed bm W ah cd i G;have qI:=ahg bm W ah;rw[mem_ready]at G;obtain⟨aT,o,af,Ho⟩:=G;have hW:i<ops.size:=(Array.getElem?_eq_some_iff.1 af).1;have aT:listed.getD i false=false:=by
   grind
  have sP:∀ k∈ia o,listed.getD k false=true:=by
   intro k al;obtain⟨e,he,vL⟩:=List.mem_filterMap.1 al;split at vL
   ·rename_i W;cases vL;grind
   grind
  have DE:∀ k∈(iq ops.toList).getD i [],listed.getD k false=true\/k=i:=by
   intro k al;refine xE (p:=λj=>listed.getD j false=true\/j=i) ops.toList [] (λj i G=>by simp at G) (λj hT kj k al aE=>?_) i k al (.inr rfl);have lu:ops[j]?=some hT:=by grind
   rcases (by simpa using aE:listed.getD j false=true\/j=i) with aE | aE
   ·exact .inl (qI j hT lu aE k al)
   ·subst aE;rw[af]at lu;cases lu;exact .inl (sP k al)
  rw[bm]at aT;simp only[Bool.or_eq_false_iff,Bool.and_eq_false_iff,decide_eq_false_iff_not]at aT;obtain⟨⟨⟨⟨hn,aQ⟩,aV⟩,bK⟩,fz⟩:=aT;have Gp:n<=i:=by omega
  have ahj:i=n\/i=n+1\/i=n+2\/i=n+3\/i=n+4:=by omega
  have flag:∀ q,q<4->n+q∈(iq ops.toList).getD i []->n+q≠i->(if q=0 then l else if q=1 then b else if q=2 then e else x)=true:=by
   intro q bp hm eB;rcases DE _ hm with h | h
   ·rw[bm]at h;simp only[Bool.or_eq_true,Bool.and_eq_true,decide_eq_true_eq]at h;rcases h with (((h | ⟨E,h⟩) | ⟨E,h⟩) | ⟨E,h⟩) | ⟨E,h⟩
    ·omega
    ·grind
    ·have:q=1:=by omega
     subst this;exact E
    ·have:q=2:=by omega
     subst this;exact E
    ·have:q=3:=by omega
     subst this;exact E
   omega
  rcases ahj with rfl | rfl | rfl | rfl | rfl
  ·grind
  ·exact .inr (.inl ⟨rfl,flag 0 (by omega) M2 (by omega),by grind⟩)
  ·grind
  ·grind
  ·exact .inr (.inr (.inr (.inr ⟨rfl,flag 0 (by omega) (Az 0 (by omega)) (by omega),flag 1 (by omega) (Az 1 (by omega)) (by omega),flag 2 (by omega) (Az 2 (by omega)) (by omega),flag 3 (by omega) (Az 3 (by omega)) (by omega)⟩)))
 have ahk:∀ {l b e x:Bool} {listed:Array Bool},Hp n l b e x listed->(b=true->l=true)->(x=true->e=true)->listed.size=ops.size->Region.ready .any ops listed≠[]:=by
  intro l b e x listed bm W ah cd vv;have mk:∀ i o,ops[i]?=some o->listed.getD i false=false->(∀ k∈ia o,listed.getD k false=true)->False:=by
   intro i o af aT aq;have hW:i<ops.size:=(Array.getElem?_eq_some_iff.1 af).1;have:i∈Region.ready .any ops listed:=by
    rw[mem_ready];refine⟨?_,o,af,λe he W=>aq e.on (List.mem_filterMap.2 ⟨e,by grind,by grind⟩)⟩;grind
   grind
  have lt:∀ q o,ops[q]?=some o->∀ i∈ia o,i<q:=by
   intro q o af i G;have ahh:q<ops.size:=(Array.getElem?_eq_some_iff.1 af).1;have:=List.all_eq_true.1 rM q (by grind);rw[show ops.toList[q]?=some o by grind]at this;have:=List.all_eq_true.1 this i G;grind
  cases l with
  | false=>
   have pC:b=false:=by grind
   subst pC;exact mk n gF x5 (by rw[bm];simp) λk al=>by rw[bm];grind
  | true=>
   cases b with
   | false=>exact mk (n+1) iu vM (by rw[bm];simp) λk al=>by rw[bm];grind
   | true=>
    cases e with
    | false=>
     have M3:x=false:=by grind
     subst M3;exact mk (n+2) hJ Ay (by rw[bm];simp) λk al=>by rw[bm];grind
    | true=>
     cases x with
     | false=>exact mk (n+3) iJ DI (by rw[bm];simp) λk al=>by rw[bm];grind
     | true=>exact mk (n+4) lX DJ (by rw[bm];simp) λk al=>by rw[bm];grind
 have DP:∀ {listed:Array Bool} (i:Nat),listed.size=ops.size->i<ops.size->∀ q,(listed.setIfInBounds i true).getD q false=(listed.getD q false||decide (q=i)):=by
  intro listed i cd G q;by_cases e:q=i
  ·grind
  grind
 let cg:=λ(l b e x:Bool)=>∀ (ch:Nat) (listed:Array Bool),Hp n l b e x listed->listed.size=ops.size->5<=ch+(l.toNat+b.toNat+e.toNat+x.toNat)->wpAnyIn (dQ C.r) 0 C.P .any ops Q ch listed (aJ l b e x) (aw e);have step:∀ l b e x,(b=true->l=true)->(x=true->e=true)->(l=false->cg true b e x)->(l=true->b=false->cg l true e x)->(e=false->cg l b true x)->(e=true->x=false->cg l b e true)->cg l b e x:=by
  intro l b e x W ah ev dM eI oV ch listed bm cd sO;have ayo:l.toNat<=1/\b.toNat<=1/\e.toNat<=1/\x.toNat<=1:=⟨Bool.toNat_le l,Bool.toNat_le b,Bool.toNat_le e,Bool.toNat_le x⟩
  cases ch with
  | zero=>omega
  | succ ch=>
   refine⟨λM=>absurd M (ahk bm W ah cd),λi G=>?_⟩;rcases ahi bm W ah cd i G with⟨rfl,E⟩ | ⟨rfl,E,U⟩ | ⟨rfl,E⟩ | ⟨rfl,E,U⟩ | ⟨rfl,E,U,ag,a6⟩
   ·subst E;have pC:b=false:=by grind
    subst pC;unfold wpOpIn;simp only[x5,wt DK,if_true];refine hx DM (T8 false e x) ?_;rw[sQ];have zF:(aJ false false e x).put (some ed) u=aJ true false e x:=by
     simp only[aJ,mC];cases e<;>cases x<;>simp[Hl _ ei.symm,Hl _ jL.symm]
    show wpAnyIn _ _ _ _ _ _ _ _ ((aJ false false e x).put (some ed) u) (aw e);rw[zF];refine ev rfl ch _ (λq=>?_) (by grind) (by grind);rw[DP i cd (by omega),bm];by_cases bp:q=i<;>simp[bp]
   ·subst E;subst U;unfold wpOpIn;simp only[vM,wt DL,if_true];refine hx Ht (T9 e x) ?_;rw[dj];have zF:(aJ true false e x).put (some fI) vB=aJ true true e x:=by
     simp only[aJ,mC];cases e<;>cases x<;>simp[Hl _ n4.symm,Hl _ DO.symm]
    show wpAnyIn _ _ _ _ _ _ _ _ ((aJ true false e x).put (some fI) vB) (aw e);rw[zF];refine dM rfl rfl ch _ (λq=>?_) (by grind) (by grind);rw[DP (n+1) cd (by omega),bm];by_cases bp:q=n+1<;>simp[bp]
   ·subst E;have M3:x=false:=by grind
    subst M3;unfold wpOpIn;simp only[Ay,wt Hq,if_true];refine hx Hu (T_ l b false) ?_;rw[DN];show wpAnyIn _ _ _ _ _ _ _ _ (aJ l b true false) (aw true);refine eI rfl ch _ (λq=>?_) (by grind) (by grind);rw[DP (n+2) cd (by omega),bm];simp
   ·subst E;subst U;unfold wpOpIn;simp only[DI,wt Hr,if_true];refine hx Hv (T' l b) ?_;rw[Hw];show wpAnyIn _ _ _ _ _ _ _ _ (aJ l b true true) (aw true);refine oV rfl rfl ch _ (λq=>?_) (by grind) (by grind);rw[DP (n+3) cd (by omega),bm];simp
   ·subst E;subst U;subst ag;subst a6;unfold wpOpIn;simp only[DJ,wt Hs,if_true];refine Oper.wpIn_mono (λa' w' bp=>?_) Hx;have fF:∀ i,(listed.setIfInBounds (n+4) true).getD i false=decide (i<n+5):=λi=>by
     rw[DP (n+4) cd (by omega),bm,Bool.eq_iff_iff];simp only[Bool.or_eq_true,Bool.and_eq_true,decide_eq_true_eq,true_and];omega
    have M:∀ i,i ∉ Region.ready .any ops (listed.setIfInBounds (n+4) true):=λi G=>by
     rw[mem_ready]at G;obtain⟨aT,o,af,_⟩:=G;grind
    have iP:Region.ready .any ops (listed.setIfInBounds (n+4) true)=[]:=List.eq_nil_iff_forall_not_mem.2 M;cases ch with
    | zero=>exact⟨iP,bp⟩
    | succ ch=>exact⟨λ_=>bp,λi G=>absurd G (M i)⟩
 have f:∀ {p:Prop},(true:Bool)=false->p:=λh=>by cases h
 have iF:∀ {p:Prop},(false:Bool)=true->p:=λh=>by cases h
 have Ua:cg true true true true:=step _ _ _ _ (λ_=>rfl) (λ_=>rfl) f (λ_=>f) f (λ_=>f);have Ub:cg true true true false:=step _ _ _ _ (λ_=>rfl) (λ_=>rfl) f (λ_=>f) f (λ_ _=>Ua);have ahl:cg true true false false:=step _ _ _ _ (λ_=>rfl) iF f (λ_=>f) (λ_=>Ub) iF;have Uc:cg true false true true:=step _ _ _ _ (λ_=>rfl) (λ_=>rfl) f (λ_ _=>Ua) f (λ_=>f);have Ud:cg true false true false:=step _ _ _ _ (λ_=>rfl) (λ_=>rfl) f (λ_ _=>Ub) f (λ_ _=>Uc);have ahm:cg true false false false:=step _ _ _ _ (λ_=>rfl) iF f (λ_ _=>ahl) (λ_=>Ud) iF;have ahn:cg false false true true:=step _ _ _ _ iF (λ_=>rfl) (λ_=>Uc) iF f (λ_=>f);have aho:cg false false true false:=step _ _ _ _ iF (λ_=>rfl) (λ_=>Ud) iF f (λ_ _=>ahn);have ahp:cg false false false false:=step _ _ _ _ iF iF (λ_=>ahm) iF (λ_=>aho) iF;intro ch listed cd ai sO;exact ahp ch listed (λi=>by grind) cd (by omega)
theorem ahq{n:Nat}(au:n<=ops.size)(aU:dR C.P T)(cz:jo C.P be)(aq:∀ o∈ops.toList,lp o C.nt=true){l:List eN}{s':aA}(aD:xA C.aN T be ops (ops.toList.take n) s=some (l,s'))(cK:Ab (ops.toList.take n) l=true)(ag7:∀ j,n<=j->j<ops.size->∀ i,i<n->i∈(iq ops.toList).getD j [])
  (hc:∀ r∈l,∀ p∈r.cs,p) (ux:∀ (ch:Nat) (listed:Array Bool) a' w',listed.size=ops.size->(∀ i,listed.getD i false=decide (i<n))->ops.size - n<=ch->cr C s' a' w'->wpAnyIn (dQ C.r) 0 C.P .any ops Q ch listed a' w'):∀ (ch:Nat) (listed:Array Bool) (a:Act) (w:World),listed.size=ops.size->
   (∀ j o,ops[j]?=some o->listed.getD j false=true->∀ i∈ia o,listed.getD i false=true)->(∀ i,n<=i->listed.getD i false=false)->((List.range ops.size).filter λj=>!listed.getD j false).length<=ch->
   cr C (ju l s λj=>listed.getD j false) a w->wpAnyIn (dQ C.r) 0 C.P .any ops Q ch listed a w:=by
 obtain⟨hlen,su,DF⟩:=SW _ _ aD;have Hh:(ops.toList.take n).length=n:=by grind
 have iO:∀ i,i<n->(ops.toList.take n)[i]?=ops[i]?:=λi G=>by
  grind
 simp only[Ab,Bool.and_eq_true]at cK;obtain⟨rM,MY⟩:=cK;have aha:∀ j o,j<n->ops[j]?=some o->∀ i∈ia o,i<j:=by
  intro j o MX af i G;have:=List.all_eq_true.1 rM j (by grind);grind
 have ahb:∀ i j x y,i<j->l[i]?=some x->l[j]?=some y->((iq (ops.toList.take n)).getD j []).contains i=true\/x.apart y=true:=by
  intro i j x y zY G aE;have Ax:j<l.length:=(List.getElem?_eq_some_iff.1 aE).1;have:=List.all_eq_true.1 MY j (by grind);grind
 intro ch;induction ch with
 | zero=>
  intro listed a w cd _ pE MZ kh;have fF:∀ i,listed.getD i false=decide (i<n):=λi=>by
   by_cases G:i<n
   ·cases ai:listed.getD i false with
    | true=>grind
    | false=>
     exfalso;have:i∈(List.range ops.size).filter λj=>!listed.getD j false:=by
      grind
     grind
   grind
  refine ux 0 listed a w cd fF ?_ ?_
  ·by_cases cj:n<ops.size
   ·have:n∈(List.range ops.size).filter λj=>!listed.getD j false:=by
     grind
    grind
   ·omega
  ·have:ju l s (λj=>listed.getD j false)=s':=by
    rw[su];unfold ju;rw[List.filter_eq_self.2 λp an=>?_,C_];obtain⟨_,U⟩:=Ad an;grind
   grind
 | succ ch aH=>
  intro listed a w cd qI pE MZ kh;by_cases DG:∀ i,i<n->listed.getD i false=true
  ·have fF:∀ i,listed.getD i false=decide (i<n):=λi=>by
    grind
   refine ux (ch+1) listed a w cd fF ?_ ?_
   ·have E:(List.range' n (ops.size - n)).length<=((List.range ops.size).filter λj=>!listed.getD j false).length:=by
     have e:(List.range ops.size).filter (λj=>!listed.getD j false)=List.range' n (ops.size - n):=by
      have U:(List.range ops.size).filter (λj=>!listed.getD j false)=(List.range ops.size).filter λj=>decide (n<=j):=List.filter_congr λj _=>by
       grind
      rw[U];have ag:List.range ops.size=List.range n++List.range' n (ops.size - n):=by
       rw[List.range_eq_range',List.range_eq_range'];have:=(List.range'_append (s:=0) (m:=n) (n:=ops.size - n) (step:=1))
       grind
      rw[ag,List.filter_append,List.filter_eq_nil_iff.2 λj aE=>by grind,List.filter_eq_self.2 λj aE=>by grind];rfl
     grind
    grind
   ·have:ju l s (λj=>listed.getD j false)=s':=by
     rw[su];unfold ju;rw[List.filter_eq_self.2 λp an=>?_,C_];obtain⟨_,U⟩:=Ad an;grind
    grind
  ·refine⟨λM=>absurd ?_ DG,λi G=>?_⟩
   ·intro j;induction j using Nat.strongRecOn with
    | _ j ayp=>
     intro aE;cases ai:listed.getD j false with
     | true=>rfl
     | false=>
      exfalso;have jR:j∈Region.ready .any ops listed:=by
       rw[mem_ready];refine⟨?_,ops[j],by simp,λe he W=>?_⟩
       ·grind
       ·have hW:e.on∈ia ops[j]:=List.mem_filterMap.2 ⟨e,by grind,by grind⟩;grind
      grind
   ·rw[mem_ready]at G;obtain⟨aT,o,af,Ho⟩:=G;have hW:i<ops.size:=(Array.getElem?_eq_some_iff.1 af).1;have DD:listed.getD i false=false:=by
     grind
    have jR:o∈ops.toList:=by
     grind
    have sP:∀ k∈ia o,listed.getD k false=true:=by
     intro k al;obtain⟨e,he,vL⟩:=List.mem_filterMap.1 al;split at vL
     ·rename_i W;cases vL;exact Ho e (by simpa using he) W
     ·cases vL
    have G:i<n:=by
     by_cases G:i<n
     ·exact G
     ·exfalso;have DE:∀ k∈(iq ops.toList).getD i [],listed.getD k false=true\/k=i:=by
       intro k al;refine xE (p:=λj=>listed.getD j false=true\/j=i) ops.toList [] (λj i G=>by simp at G) (λj hT kj k al aE=>?_) i k al (.inr rfl);have lu:ops[j]?=some hT:=by grind
       rcases (by simpa using aE:listed.getD j false=true\/j=i) with aE | aE
       ·exact .inl (qI j hT lu aE k al)
       ·subst aE;rw[af]at lu;cases lu;exact .inl (sP k al)
      grind
    obtain⟨r,M,gu⟩:=DF i o (by grind);have ahc:∀ j k,k∈(iq (ops.toList.take n)).getD j []->listed.getD j false=true->listed.getD k false=true:=by
     refine xE (p:=λj=>listed.getD j false=true) (ops.toList.take n) [] (λj i G=>by simp at G) λj hT kj k al aE=>?_;have MX:j<n:=by grind
     exact qI j hT (by grind) (by simpa using aE) k al
    have DE:∀ k∈(iq (ops.toList.take n)).getD i [],listed.getD k false=true\/k=i:=by
     intro k al;refine xE (p:=λj=>listed.getD j false=true\/j=i) (ops.toList.take n) [] (λj i G=>by simp at G) (λj hT kj k al aE=>?_) i k al (.inr rfl);have MX:j<n:=by grind
     have lu:ops[j]?=some hT:=by grind
     rcases (by simpa using aE:listed.getD j false=true\/j=i) with aE | aE
     ·exact .inl (qI j hT lu aE k al)
     ·subst aE;rw[af]at lu;cases lu;exact .inl (sP k al)
    have gO:∀ j x,j<i->l[j]?=some x->listed.getD j false=false->x.apart r=true:=by
     grind
    have um:∀ j x,i<j->l[j]?=some x->listed.getD j false=true->r.apart x=true:=by
     grind
    obtain⟨aQ,aV,bK⟩:=SS (s:=s) (f:=λj=>listed.getD j false) M DD gO um;have M0:=SX gu aQ aV;unfold wpOpIn;rw[af];refine T1 aU cz (aq o jR) M0 (hc r (List.mem_of_getElem? M)) kh λa' w' a_=>?_;have eT:∀ j,(listed.setIfInBounds i true).getD j false=if j=i then true else listed.getD j false:=by
     intro j;by_cases e:j=i
     ·subst e;rw[if_pos rfl,Array.getD_eq_getD_getElem?,Array.getElem?_setIfInBounds_self_of_lt (by omega)];rfl
     ·rw[if_neg e,getD_set_ne false (Ne.symm e)]
    refine aH _ a' w' (by grind) (λj hT kj aE k al=>?_) (λq bp=>by rw[eT,if_neg (by omega)];grind) ?_ ?_
    ·rw[eT]at aE ⊢;split
     ·rfl
     ·split at aE
      ·rename_i e;subst e;rw[af]at kj;cases kj;exact sP k al
      ·exact qI j hT kj aE k al
    ·have cj:((List.range ops.size).filter λj=>!(listed.setIfInBounds i true).getD j false).length<((List.range ops.size).filter λj=>!listed.getD j false).length:=by
      have ax:(List.range ops.size).filter (λj=>!(listed.setIfInBounds i true).getD j false)=((List.range ops.size).filter λj=>!listed.getD j false).filter λj=>decide (j≠i):=by
       rw[List.filter_filter];apply List.filter_congr;intro j _;rw[eT];simp
      rw[ax];have M1:i∈(List.range ops.size).filter λj=>!listed.getD j false:=by
       grind
      exact List.length_filter_lt_length_iff_exists.2 ⟨i,M1,by simp⟩
     omega
    ·have:ju l s (λj=>(listed.setIfInBounds i true).getD j false)=r.h' (ju l s λj=>listed.getD j false):=by
      rw[<-bK];congr 1;funext j;grind
     grind
theorem Ue{β:Type}{b:Bool}{p:Prop}{m:A β}{O:β->Prop}(h:A.cu (sF b p m) O):A.cu m O:=by
 cases b with
 | true=>exact h
 | false=>exact (A.kR.1 h).2
theorem ahr{gF iu hJ iJ lX:Oper}(h:L9 gF iu hJ iJ lX=true):∃ ty m x Hy M4 k c ed fI d1 d2 kl y,gF.op=.lookup ty m x false/\iu.op=.binOp .add Hy (.tmp ed) (.const (.int k c)) M4/\hJ.op=.mapEntry ty m x/\iJ.op=.extract (.tmp d1) 1/\
  kl.op=.mapUpdate ty m x y/\Ai hJ iJ lX=some (kl,d1,d2)/\gF.dst=some ed/\iu.dst=some fI/\hJ.dst=some d1/\iJ.dst=some d2/\fQ k c/\(ed≠fI/\ed≠d1/\ed≠d2/\fI≠d1/\fI≠d2/\d1≠d2)/\
  (m≠.tmp ed/\m≠.tmp fI/\m≠.tmp d1/\m≠.tmp d2)/\(x≠.tmp ed/\x≠.tmp fI/\x≠.tmp d1/\x≠.tmp d2)/\(∃ oU,m=.tmp oU)/\(∃ M5,x=.tmp M5)/\gF.guard=none/\iu.guard=none/\hJ.guard=none/\iJ.guard=none/\lX.guard=none:=by
 unfold L9 at h;split at h
 ·rename_i ty m x Hy t k c M4 mT dw dH iO aS kD;split at h
  ·rename_i ed fI kl d1 d2 sQ dj sO;simp only[decide_eq_true_eq]at h;obtain⟨rfl,rfl,hW,ax,aO,dN,ei,jL,n4,DO,Uf,ev,dM,b',a2,a3,a4,dr,eb,lH,qj,df,dJ⟩:=h;obtain⟨ayq,ayr,ays,ayt,f1,f2,f3,f4,f5,f6,f7,f8,f9,f10,f11,f12,g1,eh,g3⟩:=TR sO;obtain⟨oU,uw⟩:=Option.isSome_iff_exists.1 ev;obtain⟨M5,Ug⟩:=Option.isSome_iff_exists.1 dM;have em:=vK uw;have ex:=vK Ug;have ahs:=vK (ax.trans uw);have aht:=vK (aO.trans Ug);rw[f1]at kD;simp only[Op.mapEntry.injEq]at kD;obtain⟨rfl,rfl,rfl⟩:=kD;subst em;subst ex;subst ahs;subst aht;refine⟨_,_,_,_,_,_,_,_,_,_,_,kl,_,iO,aS,f1,f3,f7,sO,sQ,dj,f2,f4,hW,⟨dN,ei,jL,n4,DO,Uf⟩,?_,?_,⟨_,rfl⟩,⟨_,rfl⟩,Option.isNone_iff_eq_none.1 df,Option.isNone_iff_eq_none.1 dJ,g1,eh,g3⟩
   ·simp only[ib,ne_eq,Option.some.injEq]at b' a2 a3 a4;exact⟨λe=>b' (by cases e;rfl),λe=>a2 (by cases e;rfl),λe=>a3 (by cases e;rfl),λe=>a4 (by cases e;rfl)⟩
   ·simp only[ib,ne_eq,Option.some.injEq]at dr eb lH qj;exact⟨λe=>dr (by cases e;rfl),λe=>eb (by cases e;rfl),λe=>lH (by cases e;rfl),λe=>qj (by cases e;rfl)⟩
  grind
 grind
theorem ahu{β:Type}{n:Nat}(sK:GW ops.toList=true)(au:n=ops.size - 5)(aU:dR C.P T)(cz:jo C.P be)(cW:l0 C.P C.aN Ψ)(aq:∀ o∈ops.toList,lp o C.nt=true){k:aA->A β}{O:β->Prop}
  (al:∀ s' a' w',cr C s' a' w'->A.cu (k s') O->Q .normal a' w') (hm:A.cu (mz C.aN T be Ψ ops (ops.toList.drop n) [] s k) O) :
  (n<=ops.size/\∀ j,n<=j->j<ops.size->∀ i,i<n->i∈(iq ops.toList).getD j [])/\∀ (a:Act) (w:World),cr C s a w->∀ (ch:Nat) (listed:Array Bool),listed.size=ops.size->(∀ i,listed.getD i false=decide (i<n))->ops.size - n<=ch->wpAnyIn (dQ C.r) 0 C.P .any ops Q ch listed a w:=by
 unfold GW at sK;rw[show ops.toList.length - 5=n by grind]at sK;split at sK
 ·rename_i gF iu hJ iJ lX Uh;simp only[Bool.and_eq_true,List.all_eq_true,List.mem_range,List.contains_eq_mem,decide_eq_true_eq,Bool.or_eq_true]at sK;obtain⟨ahv,⟨⟨⟨⟨⟨rM,gO⟩,M2⟩,T5⟩,Az⟩,T6⟩,T7⟩:=sK;have T4:ops.size=n+5:=by
   have:=congrArg List.length Uh;grind
  have DQ:∀ q (o:Oper),[gF,iu,hJ,iJ,lX][q]?=some o->ops[n+q]?=some o:=λq o h=>by
   grind
  have x5:=DQ 0 gF rfl;have vM:=DQ 1 iu rfl;have Ay:=DQ 2 hJ rfl;have DI:=DQ 3 iJ rfl;have DJ:=DQ 4 lX rfl;have mem:∀ {q o},ops[n+q]?=some o->o∈ops.toList:=λh=>by
   grind
  obtain⟨ty,m,x,Hy,M4,fh,c,ed,fI,d1,d2,kl,y,iO,aS,kD,iN,ie,tX,sQ,dj,DN,Hw,hW,⟨dN,ei,jL,n4,DO,Uf⟩,⟨m1,m2,m3,m4⟩,⟨xm,xl,Ui,ahw⟩,⟨oU,em⟩,⟨M5,ex⟩,DK,DL,Hq,Hr,Hs⟩:=ahr ahv;have DM:∀ c,gF.op≠.defer c:=by grind
  have Ht:∀ c,iu.op≠.defer c:=by grind
  have Hu:∀ c,hJ.op≠.defer c:=by grind
  have Hv:∀ c,iJ.op≠.defer c:=by grind
  refine⟨⟨by omega,λj E U i G=>by have:=gO (j - n) (by omega) i G;simp_all⟩,λa w M ch listed cd ai sO=>?_⟩;have Uj:=MU (Q:=Q) aU cz cW aq al _ n [] s a w rfl (λp an=>by cases an) M hm;rw[show (ops.toList.drop n).length=5 by grind]at Uj;rw[Uh]at hm;obtain⟨κ,F,eU⟩:=M;have gd:∀ {o:Oper},o.guard=none->∀ s:aA,kE s.ay ops o.guard=some none:=λh s=>by rw[h];rfl
  have Uk:∀ {o:Oper} {os},(∀ ty m x,o.op≠.mapEntry ty m x)->Aj o os=none:=λ{o os} h=>by
   unfold Aj;split
   ·unfold Ai;simp
   ·rfl
  have Hh:Aj gF [iu,hJ,iJ,lX]=none:=Uk (by grind);unfold mz at hm;rw[Hh]at hm;simp only[gd DK]at hm;split at hm
  ·rename_i uy Hz;rw[sN λW=>(Hi (s:=s) (λp an=>by cases an) (gk:=none) (λk al=>by cases al) W).run s.aa uy Hz,sN λW=>(z' W).run s.aa uy Hz]at hm;obtain⟨M6,ahx,hm⟩:=hm;have ahy:=xz aU cz (aq gF (mem x5)) Hz;have x6:=Hz;simp only[br,iO,zD]at x6;have ahz:(use (aZ C.aN s.ay m)).1/\(use (aZ C.aN s.ay x)).1/\uy.hF=[]/\∃ v u,uy.e6=.val v u:=by
    split at x6
    ·rename_i jr ayu ayv;split at x6
     ·simp only[ao.e1,Option.bind_eq_some_iff,bN,ao.bL,Option.some.injEq]at x6;obtain⟨es,pz,⟨y,l⟩,aR,rfl⟩:=x6;exact⟨M6.1,M6.2,rfl,_,_,rfl⟩
     ·cases x6
    ·cases x6
   obtain⟨MV,MW,Ul,Um,Un,ahA⟩:=ahz;have ahB:Aj iu [hJ,iJ,lX]=none:=Uk (by grind);unfold mz at hm;rw[ahB]at hm;simp only[gd DL]at hm;split at hm
   ·rename_i M7 ahC;have hm:=Ue (Ue hm);have vN:=ahC;have ax:(s.h_ gF.dst uy).ay ed=.val Um Un:=by rw[sQ,aA.h_,aA.MS,ahA]
    have lW:xh (.int fh c)=.val (.int fh) c:=by simp[xh,hW]
    have ahD:∃ b',Um=.int fh/\M7.hF=[]/\b'=Un:=by
     simp only[br,aS,aZ,ax,lW,use,aG.mu,aG.tS]at vN;split at vN
     ·rename_i aQ b' aV dr E U;split at E
      ·rename_i bK Ui ag;cases U;cases ag;cases E;split at vN
       ·rename_i vp;simp only[zz,bN,ao.bL,Option.some.injEq]at vN;grind
       ·cases vN
      grind
     ·rename_i pE;exfalso;split at vN
      ·grind
      ·simp only[ao.e1,Option.bind_eq_some_iff]at vN;obtain⟨⟨c',h7⟩,E,U⟩:=vN;simp only[zA,ao.e1,Option.bind_eq_some_iff,ao.bL]at E;grind
    obtain⟨lv,rfl,Uo,rfl⟩:=ahD;have iG:((s.h_ gF.dst uy).h_ iu.dst M7).aa=s.aa:=by
     simp only[aA.h_,Ul,Uo,aA.fZ,sQ,dj,aA.set]
    have eG:∀ {t:Nat},t≠ed->t≠fI->((s.h_ gF.dst uy).h_ iu.dst M7).ay t=s.ay t:=λ{t} E U=>by
     simp only[aA.h_,Ul,Uo,aA.fZ];rw[aA.DA (by grind),aA.DA (by grind)]
    unfold mz at hm;rw[show Aj hJ [iJ,lX]=some (kl,d1,d2) from tX]at hm;simp only at hm;split at hm
    ·rename_i ayw ahE;obtain⟨u,mD,wE,Up⟩:=ag3 (s:=s) aU iO kD ie iG (by rw[em];exact eG (λe=>m1 (by grind)) (λe=>m2 (by grind))) (by rw[ex];exact eG (λe=>xm (by grind)) (λe=>xl (by grind))) ahE eU MV MW;have ahF:=(Up a rfl rfl).1;have ahG:=DH (K:=λa' w'=>cr C (s.h_ gF.dst uy) a' w') (Q:=Q) DM ahF (ahy a w κ F Q eU M6 ahx);have Uq:ed<a.tmps.size:=by
      have:=aq gF (mem x5);simp only[lp,Bool.and_eq_true]at this;have:=this.1;rw[sQ]at this;have E:=eU.dD;grind
     have ayx:d1<a.tmps.size:=by
      have:=aq hJ (mem Ay);simp only[lp,Bool.and_eq_true]at this;have:=this.1;rw[DN]at this;have E:=eU.dD;grind
     have hu:u=.int fh lv:=by
      obtain⟨afZ,Aw,gP⟩:=ahG;have E:=gP.bS ed;rw[ax,sQ]at E;have U:(a.put (some ed) u).tmps.getD ed Go.undef=u:=Dw Uq;rw[U]at E;exact (gU.1 E).1
     subst hu;let vB:Value:=.int fh (fh.wrap (lv+c));have ahH:∀ (a':Act) (w':World),a'.eval (.tmp ed)=.int fh lv->(execOp a'.eval iu).run C.P w'=.ok (.value vB) w':=λa' w' h=>by
      have U:a'.eval (.const (.int fh c))=.int fh c:=rfl;have ag:(Go.binOp .add Hy (.int fh lv) (.int fh c)).run C.P w'=.ok vB w':=by simp[Go.binOp,Op.intArith,vB]
      simp only[execOp,aS,h,U,Sem.run_bind,RR,Result.andThen_ok,ag,Sem.run_pure]
     have ahI:∀ (a':Act) (w':World),a'.eval (.tmp d1)=.tuple #[.int fh lv,goInt mD]->(execOp a'.eval iJ).run C.P w'=.ok (.value (goInt mD)) w':=λa' w' h=>by
      simp[execOp,iN,h,Instr.extract]
     have MK:∀ l b e dH,(mC a ed fI d1 d2 (.int fh lv) vB (.tuple #[.int fh lv,goInt mD]) (goInt mD) l b e dH).eval m=a.eval m:=λl b e dH=>T3 m1 m2 m3 m4;have ahJ:∀ l b e dH,(mC a ed fI d1 d2 (.int fh lv) vB (.tuple #[.int fh lv,goInt mD]) (goInt mD) l b e dH).eval x=a.eval x:=λl b e dH=>T3 xm xl Ui ahw;refine ahf (wE:=wE) (u:=.int fh lv) (vB:=vB) (vE:=.tuple #[.int fh lv,goInt mD]) (vX:=goInt mD) T4 rM x5 vM Ay DI DJ DK DL Hq Hr Hs DM Ht Hu Hv gO M2 T5 Az T6 T7 sQ dj DN Hw dN ei jL n4 DO ?_ ?_ ?_ ?_ Uj ch listed cd ai (by omega)
     ·intro b e dH;have:=Up _ (MK false b e dH) (ahJ false b e dH);cases e
      ·exact this.1
      ·exact this.2.1
     ·intro e dH;refine ahH _ _ ?_;have E:(mC a ed fI d1 d2 (.int fh lv) vB (.tuple #[.int fh lv,goInt mD]) (goInt mD) true false e dH).eval (.tmp ed)=(a.put (some ed) (.int fh lv)).eval (.tmp ed):=by
       have df:Operand.tmp ed≠.tmp d1:=λh=>ei (by grind);have dJ:Operand.tmp ed≠.tmp d2:=λh=>jL (by grind);unfold mC;cases e<;>cases dH<;>simp[Av,df,dJ]
      rw[E];exact Dw Uq
     ·grind
     ·intro l b;refine ahI _ _ ?_;have E:mC a ed fI d1 d2 (.int fh lv) vB (.tuple #[.int fh lv,goInt mD]) (goInt mD) l b true false=(mC a ed fI d1 d2 (.int fh lv) vB (.tuple #[.int fh lv,goInt mD]) (goInt mD) l b false false).put (some d1) (.tuple #[.int fh lv,goInt mD]):=rfl;rw[E];exact Dw (by rw[ahe];omega)
    ·exact hm.1.elim
   ·rename_i ayy;exfalso;have:rE C.aN T be Ψ (s.h_ gF.dst uy) iu=none:=by
     have lW:xh (.int fh c)=.val (.int fh) c:=by simp[xh,hW]
     simp only[rE,aS,Dg,aZ,lW];simp
    rw[this]at hm;exact hm.1
  ·exfalso;have:rE C.aN T be Ψ s gF=none:=by simp only[rE,iO]
   rw[this]at hm;exact hm.1
 grind
theorem ahK{β:Type}{L:List (aA->A β)}(iO:L≠[]){o:Oper}(aU:dR C.P T)(cz:jo C.P be)(cW:l0 C.P C.aN Ψ)(x3:lp o C.nt=true){O:β->Prop}{s:aA}{a:Act}{w:World}(M:cr C s a w)
  (hm:∀ k∈L,A.cu (GY C.aN T be Ψ ops o s k) O) {K:Act->World->Prop} (iM:∀ s' a' w',cr C s' a' w'->(∀ k∈L,A.cu (k s') O)->K a' w'):o.guard=none/\o.wpIn (dQ C.r) 0 C.P a w K Q:=by
 obtain⟨hn,m'⟩:=List.exists_mem_of_ne_nil L iO;have bf:∀ i,o.dst=some i->i<C.nt:=λi G=>by
  have:=x3;simp only[lp,Bool.and_eq_true]at this;grind
 unfold GY at hm;split at hm
 ·exact (hm hn m').1.elim
 ·rename_i aB;refine⟨aB,?_⟩;split at hm
  ·rename_i res gn;obtain⟨κ,F,eU⟩:=M;have hm:∀ k∈L,res.ca/\res.c/\A.cu (k (s.h_ o.dst res)) O:=λk al=>by
    have:=hm k al;rw[sN λW=>(Hi (ops:=ops) (tg:=[]) (s:=s) (λp an=>by cases an) (gk:=none) (λk al=>by cases al) W).run s.aa res gn,sN λW=>(z' W).run s.aa res gn]at this;omega
   exact Oper.wpIn_mono (λa' w' a_=>iM _ a' w' a_ λk al=>(hm k al).2.2) (xz aU cz x3 gn a w κ F Q eU (hm hn m').1 (hm hn m').2.1)
  ·split at hm
   ·rename_i cc oT;obtain⟨jM,qx,mx⟩:=MO aU cz cW bf oT;have hm:∀ k∈L,cc.ca/\A.cu cc.m λy=>A.cu (k (cc.st y)) O:=λk al=>by
     have:=hm k al;rw[sN λW=>mx (Ly W),A.fY]at this;omega
    refine jM a w Q _ M (hm hn m').1 ⟨(hm hn m').2.1,λy aR a' w' a_=>iM _ a' w' a_ λk al=>(hm k al).2.2 y aR⟩
   ·exact (hm hn m').1.elim
theorem ahL{ops:List Oper}{done:List Nat}{i:Nat}:i∈vG ops done<->i<ops.length/\i ∉ done/\∃ o,ops[i]?=some o/\∀ j∈ia o,j∈done:=by
 unfold vG;grind
theorem Ur{ops:List Oper}:∀ (f:Nat) (done:List Nat),rF ops f done≠[]
 | 0,done=>by simp[rF]
 | f+1,done=>by
  unfold rF;split
  ·simp
  ·rename_i l ai;cases hc:vG ops done with
   | nil=>grind
   | cons i cb=>
    rw[List.flatMap_cons];intro h;rw[List.append_eq_nil_iff,List.map_eq_nil_iff]at h;exact Ur f _ h.1
theorem HA{listed:Array Bool}{done:List Nat}(cd:listed.size=ops.size)(ai:∀ i,listed.getD i false=done.contains i):Region.ready .any ops listed=vG ops.toList done:=by
 unfold Region.ready vG;rw[Array.length_toList];refine List.filter_congr λi G=>?_;have G:i<ops.size:=by grind
 have E:listed.getD i true=done.contains i:=by
  grind
 rw[E];congr 1;have af:ops.toList[i]?=some ops[i]:=by simp
 rw[af,Array.getElem?_eq_getElem G];show ops[i].after.all _=(ia ops[i]).all _;rw[Bool.eq_iff_iff,Array.all_eq_true',List.all_eq_true];unfold ia;grind
theorem ahM{β:Type}(aU:dR C.P T)(cz:jo C.P be)(cW:l0 C.P C.aN Ψ)(aq:∀ o∈ops.toList,lp o C.nt=true){k:aA->A β}{O:β->Prop}(al:∀ s' a' w',cr C s' a' w'->A.cu (k s') O->Q .normal a' w'):∀ (ch:Nat) (done:List Nat) (listed:Array Bool) (s:aA) (a:Act) (w:World),listed.size=ops.size->(∀ i,listed.getD i false=done.contains i)->GX ops.toList ch done=true->
  cr C s a w->(∀ l∈rF ops.toList ch done,A.cu (Al C.aN T be Ψ ops l s k) O)->wpAnyIn (dQ C.r) 0 C.P .any ops Q ch listed a w:=by
 intro ch;induction ch with
 | zero=>
  intro done listed s a w cd ai aB M hm;have oM:=HA (ops:=ops) cd ai;refine⟨?_,al s a w M (hm [] (by simp[rF]))⟩;rw[oM];exact List.isEmpty_iff.1 aB
 | succ ch aH=>
  intro done listed s a w cd ai aB M hm;have oM:=HA (ops:=ops) cd ai;refine⟨λaT=>?_,λi G=>?_⟩
  ·rw[oM]at aT;refine al s a w M (hm [] ?_);unfold rF;grind
  ·rw[oM]at G;obtain⟨qz,hW,o,af,_⟩:=ahL.1 G;have qz:i<ops.size:=by omega
   have kj:ops[i]?=some o:=by grind
   have ahN:o∈ops.toList:=List.mem_of_getElem? af;have jR:∀ l∈rF ops.toList ch (i::done),A.cu (GY C.aN T be Ψ ops o s λs'=>Al C.aN T be Ψ ops l s' k) O:=λl hle=>by
    have:=hm (i::l) (by
     unfold rF;grind)
    unfold Al at this;grind
   obtain⟨g1,eh⟩:=ahK (Q:=Q) (L:=(rF ops.toList ch (i::done)).map λl=>λs'=>Al C.aN T be Ψ ops l s' k) (by simpa using Ur ch (i::done)) aU cz cW (aq o ahN) M
    (λk' ahO=>by obtain⟨l,hle,rfl⟩:=List.mem_map.1 ahO;exact jR l hle)
    (K:=wpAnyIn (dQ C.r) 0 C.P .any ops Q ch (listed.setIfInBounds i true)) λs' a' w' a_ Tq=>by
     refine aH (i::done) _ s' a' w' (by grind) (λj=>?_) ?_ a_ λl hle=>Tq _ (List.mem_map.2 ⟨l,hle,rfl⟩)
     ·by_cases e:j=i
      ·simp_all
      ·rw[getD_set_ne false (Ne.symm e),ai j];simp[e]
     ·unfold GX at aB;grind
   unfold wpOpIn;rw[kj];simp only;have hw:Region.wanted o (yielded ops a.tmps)=true:=by unfold Region.wanted;rw[g1]
   grind
theorem Us{β:Type}(aU:dR C.P T)(cz:jo C.P be)(cW:l0 C.P C.aN Ψ)(aq:∀ o∈ops.toList,lp o C.nt=true){k:aA->A β}{O:β->Prop}
  (al:∀ s' a' w',cr C s' a' w'->A.cu (k s') O->Q .normal a' w') {a:Act} {w:World} (M:cr C s a w) (hm:A.cu (Am C.aN T be Ψ ops s k) O):wpAnyIn (dQ C.r) 0 C.P .any ops Q ops.size (Array.replicate ops.size false) a w.drew:=by
 unfold Am at hm;split at hm
 ·rename_i l s' aD;split at hm
  ·rename_i cK;obtain⟨E,U⟩:=TZ _ hm;obtain⟨κ,F,eU⟩:=M;refine ag' aU cz aq aD cK (λr M p an=>E p (List.mem_flatMap.2 ⟨r,M,an⟩)) (λa' w' a_=>al s' a' w' a_ U) ops.size (Array.replicate ops.size false) a _ (by simp) (λj o _ ai=>?_) ?_ ⟨κ,F,?_⟩
   ·have:(Array.replicate ops.size false).getD j false=false:=by
     rw[Array.getD_eq_getD_getElem?,Array.getElem?_replicate];grind
    grind
   ·grind
   ·have:ju l s (λj=>(Array.replicate ops.size false).getD j false)=s:=by
     unfold ju;rw[List.filter_eq_nil_iff.2 λp _=>?_]
     ·rfl
     ·simp only[Array.getD_eq_getD_getElem?,Array.getElem?_replicate];grind
    rw[this];exact eU.drew
  ·exact hm.1.elim
 ·split at hm
  ·rename_i l s' aD;split at hm
   ·rename_i cK;rw[Bool.and_eq_true]at cK;obtain⟨E,U⟩:=TZ _ hm;obtain⟨κ,F,eU⟩:=M;have cont:(lY ops.toList<=ops.size/\∀ j,lY ops.toList<=j->j<ops.size->∀ i,i<lY ops.toList->i∈(iq ops.toList).getD j [])/\∀ (ch:Nat) (listed:Array Bool) a' w',listed.size=ops.size->(∀ i,listed.getD i false=decide (i<lY ops.toList))->ops.size - lY ops.toList<=ch->cr C s' a' w'->wpAnyIn (dQ C.r) 0 C.P .any ops Q ch listed a' w':=by
     by_cases sK:GW ops.toList=true
     ·have M8:lY ops.toList=ops.size - 5:=by unfold lY;grind
      obtain⟨ax,aO⟩:=ahu (Q:=Q) sK M8 aU cz cW aq al U;grind
     ·have M8:lY ops.toList=Ak (iq ops.toList) ops.toList.length:=by unfold lY;grind
      obtain⟨qA,hZ⟩:=T2 (iq ops.toList) ops.toList.length;have qA:lY ops.toList<=ops.size:=by grind
      have hZ:∀ j,lY ops.toList<=j->j<ops.size->∀ i,i<j->i∈(iq ops.toList).getD j []:=λj E U=>hZ j (by omega) (by omega);refine⟨⟨qA,λj E U i G=>hZ j E U i (by omega)⟩,λch listed a' w' cd fF sO a_=>?_⟩;refine ag6 cK.2 hZ (ops.size - lY ops.toList) (lY ops.toList) ch listed a' w' (Nat.le_refl _) (by omega) cd fF sO ?_;have hlen:(ops.toList.drop (lY ops.toList)).length=ops.size - lY ops.toList:=by simp
      rw[<-hlen];exact MU (Q:=Q) aU cz cW aq al _ _ [] s' a' w' rfl (λp an=>by cases an) a_ U
    obtain⟨⟨qA,hZ⟩,ayz⟩:=cont;refine ahq qA aU cz aq aD cK.1 hZ (λr M p an=>E p (List.mem_flatMap.2 ⟨r,M,an⟩)) (λch listed a' w' cd fF sO a_=>?_) ops.size (Array.replicate ops.size false) a _ (by simp) (λj o _ ai=>?_) (λi _=>?_) ?_ ⟨κ,F,?_⟩
    ·grind
    ·have:(Array.replicate ops.size false).getD j false=false:=by
      rw[Array.getD_eq_getD_getElem?,Array.getElem?_replicate];grind
     grind
    ·rw[Array.getD_eq_getD_getElem?,Array.getElem?_replicate];grind
    ·grind
    ·have:ju l s (λj=>(Array.replicate ops.size false).getD j false)=s:=by
      unfold ju;rw[List.filter_eq_nil_iff.2 λp _=>?_]
      ·rfl
      ·simp only[Array.getD_eq_getD_getElem?,Array.getElem?_replicate];grind
     rw[this];exact eU.drew
   ·exact hm.1.elim
  ·unfold Ta at hm;split at hm
   ·rename_i zP;obtain⟨κ,F,eU⟩:=M;refine ahM aU cz cW aq al ops.size [] (Array.replicate ops.size false) s a _ (by simp) (λi=>?_) zP ⟨κ,F,eU.drew⟩ λl hle=>⟨hm.1 _ (List.mem_map.2 ⟨l,hle,rfl⟩),λy aR=>hm.2 y ⟨_,List.mem_map.2 ⟨l,hle,rfl⟩,aR⟩⟩
    rw[Array.getD_eq_getD_getElem?,Array.getElem?_replicate];grind
   ·exact hm.1.elim
theorem ahP{β:Type}{id:Nat}(ek:C.P.follows .mixedOrders=true)(aU:dR C.P T)(cz:jo C.P be)(cW:l0 C.P C.aN Ψ)(aq:∀ o∈ops.toList,lp o C.nt=true){k:aA->A β}{O:β->Prop}
  (al:∀ s' a' w',cr C s' a' w'->A.cu (k s') O->Q .normal a' w') {a:Act} {w:World} (M:cr C s a w) (hm:A.cu (Am C.aN T be Ψ ops s k) O):(Code.region id ops true).wpIn (dQ C.r) 0 C.P Q a w:=
 wpIn_region_any ek (Us aU cz cW aq al M hm)
theorem AA{ops:Array Oper}{j:Nat}{o:Oper}(h:ops[j]?=some o):(lr ops.toList).toArray[j]?=some (if j=0 then o else { o with after:=o.after.push ⟨0,.phase⟩ }):=by
 obtain⟨l⟩:=ops;cases l with
 | nil=>simp at h
 | cons x l=>
  cases j with
  | zero=>simpa [lr]using h
  | succ j=>
   simp only[List.getElem?_toArray,List.getElem?_cons_succ]at h;simp[lr,h]
theorem M9(ops:Array Oper):(lr ops.toList).toArray.size=ops.size:=by
 obtain⟨l⟩:=ops;cases l<;>simp[lr]
theorem ahQ{ops:Array Oper}{j:Nat}{gD:Oper}(h:(lr ops.toList).toArray[j]?=some gD):∃ o,ops[j]?=some o/\gD=if j=0 then o else { o with after:=o.after.push ⟨0,.phase⟩ }:=by
 have aE:j<ops.size:=by rw[<-M9];exact (Array.getElem?_eq_some_iff.1 h).1
 have:=AA (ops:=ops) (j:=j) (o:=ops[j]) (by simp[aE]);rw[h]at this;cases this;exact⟨ops[j],by simp[aE],rfl⟩
theorem ahR(ops:Array Oper):yielded (lr ops.toList).toArray=yielded ops:=by
 funext t j;unfold yielded;cases h:ops[j]? with
 | none=>
  have:(lr ops.toList).toArray[j]?=none:=by
   rw[Array.getElem?_eq_none_iff,M9];exact Array.getElem?_eq_none_iff.1 h
  rw[this]
 | some o=>
  rw[AA h];by_cases aE:j=0
  ·rw[if_pos aE]
  ·rw[if_neg aE];rfl
theorem ahS{F:Fence}{P:Program}:∀ (ch:Nat) (listed:Array Bool) (a:Act) (w:World),listed.getD 0 false=true->wpAnyIn F 0 P .any (lr ops.toList).toArray Q ch listed a w->wpAnyIn F 0 P .any ops Q ch listed a w:=by
 have oM:∀ (listed:Array Bool),listed.getD 0 false=true->∀ i,i∈Region.ready .any ops listed->i∈Region.ready .any (lr ops.toList).toArray listed:=by
  intro listed aT i G;rw[mem_ready]at G ⊢;obtain⟨E,o,af,U⟩:=G;refine⟨E,_,AA af,λe he W=>?_⟩;split at he
  ·exact U e he W
  ·rcases Array.mem_push.1 he with he | rfl
   ·exact U e he W
   ·exact aT
 have ahT:∀ (listed:Array Bool),Region.ready .any ops listed=[]->Region.ready .any (lr ops.toList).toArray listed=[]:=by
  intro listed h;rw[List.eq_nil_iff_forall_not_mem]at h ⊢;intro i G;refine h i ?_;rw[mem_ready]at G ⊢;obtain⟨E,gD,af,U⟩:=G;obtain⟨o,kj,rfl⟩:=ahQ af;refine⟨E,o,kj,λe he W=>U e ?_ W⟩;split
  ·exact he
  ·exact Array.mem_push_of_mem _ he
 have ahU:∀ (listed:Array Bool),listed.getD 0 false=true->Region.ready .any (lr ops.toList).toArray listed=[]->Region.ready .any ops listed=[]:=by
  intro listed aT h;rw[List.eq_nil_iff_forall_not_mem]at h ⊢;exact λi G=>h i (oM listed aT i G)
 intro ch;induction ch with
 | zero=>
  intro listed a w aT h;exact⟨ahU listed aT h.1,h.2⟩
 | succ ch aH=>
  intro listed a w aT h;refine⟨λM=>h.1 (ahT listed M),λi G=>?_⟩;have al:=h.2 i (oM listed aT i G);have next:∀ a w,wpAnyIn F 0 P .any (lr ops.toList).toArray Q ch (listed.setIfInBounds i true) a w->wpAnyIn F 0 P .any ops Q ch (listed.setIfInBounds i true) a w:=λa w=>aH _ a w (getD_set_true aT)
  have al:=wpOpIn_mono next al
  unfold wpOpIn at al ⊢;rw[mem_ready]at G;obtain⟨_,o,af,_⟩:=G;rw[af];rw[AA af,ahR]at al;by_cases oN:i=0
  ·rw[if_pos oN]at al;exact al
  ·rw[if_neg oN]at al;exact al
theorem ahV{β:Type}{id:Nat}(ek:C.P.follows .mixedOrders=true)(ahW:C.r=none)(ar:L_ ops=true)(aU:dR C.P T)(cz:jo C.P be)(cW:l0 C.P C.aN Ψ)(aq:∀ o∈ops.toList,lp o C.nt=true){k:aA->A β}{O:β->Prop}
  (al:∀ s' a' w',cr C s' a' w'->A.cu (k s') O->Q .normal a' w') {a:Act} {w:World} (M:cr C s a w) (hm:A.cu (Am C.aN T be Ψ (lr ops.toList).toArray s k) O):(Code.region id ops true).wpIn (dQ C.r) 0 C.P Q a w:=by
 refine wpIn_mono (Q:=λe a w=>e=.normal/\Q e a w) (wpIn_region_any ek ?_) λe a w h=>h.2;have ir:=Us (Q:=λe a w=>e=.normal/\Q e a w) (ops:=(lr ops.toList).toArray) aU cz cW (λo af=>?_) (λs' a' w' E U=>⟨rfl,al s' a' w' E U⟩) M hm
 ·rw[M9]at ir;have rN:(dQ C.r).round=none:=by rw[ahW];rfl
  unfold L_ at ar;split at ar
  ·cases ar
  ·rename_i o l ai;simp only[Bool.and_eq_true,List.all_eq_true,Bool.or_eq_true]at ar;obtain⟨E,U,ag,a6,bM⟩:=ar;have aT:ops[0]?=some o:=by rw[<-Array.getElem?_toList,ai];rfl
   obtain⟨m,hm⟩:∃ m,ops.size=m+1:=⟨l.length,by rw[<-Array.length_toList,ai];rfl⟩
   rw[hm]at ir ⊢;have aB:o.guard=none:=by simpa using U
   have iP:∀ (ops:Array Oper),ops[0]?=some o->0∈Region.ready .any ops (Array.replicate (m+1) false):=λops h=>by
    rw[mem_ready];refine⟨by simp,o,h,λe he=>?_⟩;rw[Array.isEmpty_iff.1 ag]at he;simp at he
   have kX:∃ x,o.op=.move x:=by
    revert E;cases o.op<;>simp
   obtain⟨x,ah⟩:=kX;have aR:YieldsFenced C.P ops o (a.eval x) a:=⟨.inl ⟨by unfold Region.wanted;rw[aB],λw=>by simp[execOp,ah]⟩,λw=>by unfold Oper.about;rw[ah]⟩
   have gu:=ir.2 0 (iP _ (by rw[AA aT];rfl));unfold wpOpIn at gu;rw[AA aT]at gu;simp only[if_true]at gu;rw[show Region.wanted o (yielded (lr ops.toList).toArray a.tmps)=true by unfold Region.wanted;rw[aB],if_pos rfl]at gu;have gu:wpAnyIn (dQ C.r) 0 C.P .any (lr ops.toList).toArray (λe a w=>e=.normal/\Q e a w) m ((Array.replicate (m+1) false).setIfInBounds 0 true) (a.put o.dst (a.eval x)) w.drew:=by
    have:=gu.2;rw[rN,Oper.semAt_none]at this;simpa [execOp,ah,Oper.uponIn]using this
   refine wpAnyIn_first rN aT (Region.noSelect_spec a6) (λc a w h=>by cases h.1) m _ a _ (λj rK Ut ahX _ he=>?_) (iP _ aT) aR (ahS m _ _ _ (by simp) gu);have jR:rK∈l:=by
    rw[<-Array.getElem?_toList,ai]at Ut;cases j with
    | zero=>exact absurd rfl ahX
    | succ j=>exact List.mem_of_getElem? Ut
   rcases bM rK jR with h | h
   ·exfalso;have h:0∈ia rK:=by simpa using h
    obtain⟨e,ahY,xx⟩:=List.mem_filterMap.1 h;split at xx
    ·rename_i W;exact he e (by simpa using ahY) W (by simpa using xx)
    ·cases xx
   ·exact h
 ·have af:o∈(lr ops.toList):=by simpa using af
  obtain⟨ol⟩:=ops;cases ol with
  | nil=>cases af
  | cons x l=>
   rcases List.mem_cons.1 af with rfl | af
   ·exact aq _ (by simp)
   ·obtain⟨p,an,rfl⟩:=List.mem_map.1 af;have:=aq p (by simp[an]);exact this
end
end Go.Fer
namespace Go.Fer
open Go.RowKit
theorem gG{β:Type}{O:β->Prop}(h:A.cu (A.fail:A β) O):False:=h.1
theorem uz{β:Type}{sh:dF}{s:aA}{k:sh.aj->A β}{O:β->Prop}(h:A.cu (sh.nd s k) O):∃ D,sh.jb s=some D/\A.cu (k D) O:=by
 unfold dF.nd at h;split at h
 ·grind
 ·exact (gG h).elim
def oW(B:Nat):Deferred:={ target:=.collected B,args:=#[] }
structure n9 where
 w:World
 K:Nat->Prop
 ms:List Nat
def b8.hl(C:b8)(u:n9):b8:={ C with w0:=u.w,K0:=u.K,dfr:=u.ms.map oW++C.dfr }
structure b8.jS(C:b8)(u:n9):Prop where
 sR:∀ B∈u.ms,u.K B/\u.w.heap[B]?=some (.deferred (some []))
 ew:∀ B∈u.ms,¬C.K0 B/\C.w0.heap.size<=B
 mE:u.ms.Nodup
 hn:∀ r,C.K0 r->u.K r
 eG:∀ r,C.K0 r->u.w.heap[r]?=C.w0.heap[r]?
 size:C.w0.heap.size<=u.w.heap.size
 ep:dc C.w0 u.w
def b8.hG(C:b8):n9:=⟨C.w0,C.K0,[]⟩
theorem b8.vO(C:b8):C.jS C.hG:=⟨λ_ h=>by simp[b8.hG]at h,λ_ h=>by simp[b8.hG]at h,List.nodup_nil,λ_ h=>h,λ_ _=>rfl,Nat.le_refl _,dc.refl _⟩
def n9.then(u v:n9):n9:=⟨v.w,v.K,v.ms++u.ms⟩
theorem b8.AB(C:b8)(u v:n9):(C.hl u).hl v=C.hl (u.then v):=by
 simp[b8.hl,n9.then]
theorem b8.jS.then{C:b8}{u v:n9}(h:C.jS u)(k:(C.hl u).jS v):C.jS (u.then v) where
 sR:=λB aS=>by
  rcases List.mem_append.1 aS with aS | aS
  ·exact k.sR B aS
  ·obtain⟨E,U⟩:=h.sR B aS;exact⟨k.hn B E,(k.eG B E).trans U⟩
 ew:=λB aS=>by
  rcases List.mem_append.1 aS with aS | aS
  ·obtain⟨E,U⟩:=k.ew B aS;exact⟨λag=>E (h.hn B ag),Nat.le_trans h.size U⟩
  ·exact h.ew B aS
 mE:=List.nodup_append.2 ⟨k.mE,h.mE,λa a8 b W e=>(k.ew a a8).1 (e ▸ (h.sR b W).1)⟩
 hn:=λr M=>k.hn r (h.hn r M)
 eG:=λr M=>(k.eG r (h.hn r M)).trans (h.eG r M)
 size:=Nat.le_trans h.size k.size
 ep:=h.ep.trans k.ep
theorem bk.Uu{C:b8}{s:aA}{a:Act}{w:World}{κ:Nat->bA}{F F':Nat->Prop}(h:bk C s a w κ F){w0 w':World}{F0 K0:Nat->Prop}{nt:Nat}{dfr:List Deferred}{r:Option Nat}{sl:Nat->aG}{a':Act}
    (M_:a'.tmps.size=nt) (M':a'.defers=dfr) (rO:nt<=eP) (fj:∀ i,bx C.P s.aa κ F w (sl i) (a'.tmps.getD i undef)) (pE:∀ l aJ L n st,sl b4≠.aW l aJ L n st)
    (heq:∀ r,F r\/(∃ b,(s.aa b).body.bY (κ b)=true/\(κ b).aa=r)->w'.heap[r]?=w.heap[r]?) (cd:w.heap.size<=w'.heap.size)
    (bm:∀ r,F r->F' r) (jm:∀ r,F' r->r<w'.heap.size) (DR:∀ b,(s.aa b).body.bY (κ b)=true->¬F' (κ b).aa)
    (Na:∀ r,F' r->F0 r\/¬K0 r) (Nb:∀ r,F0 r->F' r) (DS:∀ r,K0 r->r<w0.heap.size) (uA:∀ r,K0 r->w'.heap[r]?=w0.heap[r]?) (gl:∀ b,(s.aa b).body.bY (κ b)=true->¬K0 (κ b).aa)
    (nh:w0.heap.size<=w'.heap.size) (hc:dc w0 w') :
    bk { C with w0:=w0,F0:=F0,K0:=K0,nt:=nt,dfr:=dfr,r:=r } ⟨sl,s.aa⟩ a' w' κ F':=by
  have he:c1 F w w':=⟨cd,λr M=>heq r (.inl M)⟩
  exact {
          dD:=M_,dfr:=M',bS:=λi=>bx.later (fp.refl _ _) bm he (fj i)
          bB:=λb=>cC.lg (h.bB b) (fp.refl _ _) bm he rfl rfl λaf=>heq _ (.inr ⟨b,af,rfl⟩)
          own:=λb W=>⟨Nat.lt_of_lt_of_le (h.own b W).1 cd,DR b W,gl b W⟩,inj:=h.inj,da:=jm
          hh:=Na,hS:=Nb,hv:=DS,eG:=uA,size:=nh,ep:=hc,gj:=rO,ku:=h.ku,jG:=h.jG,j9:=h.j9,kv:=h.kv,eK:=λl aJ L n st e=>(pE l aJ L n st e).elim,jH:=h.jH,iC:=h.iC.mono bm he }
theorem bk.vP{C:b8}{s:aA}{a:Act}{w:World}{κ:Nat->bA}{F:Nat->Prop}(h:bk C s a w κ F){w0 w':World}{F0 K0:Nat->Prop}{nt:Nat}{dfr:List Deferred}{r:Option Nat}{sl:Nat->aG}{a':Act}
  (M_:a'.tmps.size=nt) (M':a'.defers=dfr) (rO:nt<=eP) (fj:∀ i,bx C.P s.aa κ F w (sl i) (a'.tmps.getD i undef)) (pE:∀ l aJ L n st,sl b4≠.aW l aJ L n st)
  (heq:∀ r,F r\/(∃ b,(s.aa b).body.bY (κ b)=true/\(κ b).aa=r)->w'.heap[r]?=w.heap[r]?) (cd:w.heap.size<=w'.heap.size)
  (Na:∀ r,F r->F0 r\/¬K0 r) (Nb:∀ r,F0 r->F r) (DS:∀ r,K0 r->r<w0.heap.size) (uA:∀ r,K0 r->w'.heap[r]?=w0.heap[r]?) (gl:∀ b,(s.aa b).body.bY (κ b)=true->¬K0 (κ b).aa)
  (nh:w0.heap.size<=w'.heap.size) (hc:dc w0 w') :
  bk { C with w0:=w0,F0:=F0,K0:=K0,nt:=nt,dfr:=dfr,r:=r } ⟨sl,s.aa⟩ a' w' κ F:=
 h.Uu M_ M' rO fj pE heq cd (λ_ h=>h) (λr M=>Nat.lt_of_lt_of_le (h.da r M) cd) (λb W=>(h.own b W).2.1) Na Nb DS uA gl nh hc
theorem bk.HB{C:b8}{s:aA}{a:Act}{w:World}{κ:Nat->bA}{F:Nat->Prop}(h:bk C s a w κ F){w0 w':World}{K0:Nat->Prop}{r:Option Nat}
    (iM:∀ r,K0 r->C.K0 r) (heq:∀ r,F r\/¬C.K0 r->w'.heap[r]?=w.heap[r]?) (cd:w.heap.size<=w'.heap.size) (x7:dc w w')
    (DS:∀ r,K0 r->r<w0.heap.size) (uA:∀ r,K0 r->w'.heap[r]?=w0.heap[r]?) (nh:w0.heap.size<=w'.heap.size) (hc:dc w0 w') :
    bk { C with w0:=w0,K0:=K0,r:=r } s a w' κ F:=by
  have he:c1 F w w':=⟨cd,λr M=>heq r (.inl M)⟩
  have jm:∀ r,F r->r<w'.heap.size:=λr M=>Nat.lt_of_lt_of_le (h.da r M) cd;exact {
          dD:=h.dD,dfr:=h.dfr,bS:=λi=>bx.later (fp.refl _ _) (λ_ h=>h) he (h.bS i)
          bB:=λb=>cC.lg (h.bB b) (fp.refl _ _) (λ_ h=>h) he rfl rfl λaf=>heq _ (.inr (h.own b af).2.2)
          own:=λb W=>⟨Nat.lt_of_lt_of_le (h.own b W).1 cd,(h.own b W).2.1,λk=>(h.own b W).2.2 (iM _ k)⟩,inj:=h.inj,da:=jm
          hh:=λr M=>(h.hh r M).imp id λk k'=>k (iM r k'),hS:=h.hS,hv:=DS,eG:=uA,size:=nh,ep:=hc,gj:=h.gj,ku:=h.ku,jG:=h.jG,j9:=h.j9,kv:=h.kv
          eK:=λl aJ L n st e=>by
            obtain⟨E,U,Y,ag,a6,bM⟩:=h.eK l aJ L n st e;exact⟨E,U,Y,λr M=>⟨Nat.lt_of_lt_of_le (ag r M).1 cd,(ag r M).2.1,λk=>(ag r M).2.2 (iM r k)⟩,a6,U.Kz bM (λ_ h=>h) (λr M=>heq r (M.imp id λaR=>(ag r aR).2.2)) cd x7 jm λr ar aR=>(ag r aR).2.1 ar⟩
          jH:=h.jH,iC:=h.iC.mono (λ_ h=>h) he }
theorem Uv{P:Program}{H:Nat->bJ}{κ:Nat->bA}{F:Nat->Prop}{w:World}{aJ:ab}{x:aJ.aj}:∀ (ps:List Tmp) (args:List Value) (j:Nat) (f:Nat->aG) (oU:Array Value),ps.length=args.length->(∀ p∈ps,p<oU.size)->
  (∀ i,bx P H κ F w (f i) (oU.getD i undef))->(∀ i,i<args.length->bx P H κ F w (kA aJ x (j+i)) (args.getD i undef))->
  ∀ i,bx P H κ F w (An aJ x ps j f i) (((ps.zip args).foldl (λtmps p=>tmps.setIfInBounds p.1 p.2) oU).getD i undef)
 | [],[],_,_,_,_,_,ar,_,i=>ar i
 | p::ps,v::args,j,f,oU,ai,an,ar,ae,i=>by
  simp only[An,List.zip_cons_cons,List.foldl_cons];refine Uv ps args (j+1) _ _ (by grind) (λq bp=>by grind) (λi=>?_) (λi G=>?_) i
  ·rw[Array.getD_eq_getD_getElem?,Array.getElem?_setIfInBounds];by_cases e:i=p
   ·grind
   ·rw[if_neg e,if_neg (Ne.symm e)];simp_all
  ·have:=ae (i+1) (by grind);grind
theorem ahZ{ps:List Tmp}{args:List Value}:∀ {oU:Array Value},((ps.zip args).foldl (λtmps p=>tmps.setIfInBounds p.1 p.2) oU).size=oU.size:=by
 generalize ps.zip args=l;induction l with
 | nil=>simp
 | cons p l aH=>grind
def sS:di->Option Code
 | .normal=>none
 | .exit id=>some (.exit id)
 | .ret=>some .ret
def e_(fn:FuncId)(oU:Array Value)(ps:Array Tmp)(assign body:Code)(B:Nat)(st:LoopState)(e:di):Loop:=
 { state:=st,pending:=sS e,fn:=fn,tmps:=oU,params:=ps,assign:=assign,body:=body,defers:=B }
def HC(P:Program)(aN:dC)(nt:Nat)(assign body:Code)(l:Nat){rout:dF}(run:aA->A (di×rout.aj)):Prop:=
 ∀ (C1:b8),C1.P=P->C1.aN=aN->C1.nt=nt->C1.r=some l->∀ (ev:aA) (b':Act) (b_:World) (qJ:di×rout.aj->Prop),cr C1 ev b' b_->A.cu (run ev) qJ->
  assign.wpIn (dQ (some l)) 0 P (Exit.then (λa2 c7=>∃ u dM,C1.jS u/\cr (C1.hl u) dM a2 c7/\
   ∀ (hy:b8),hy.P=P->hy.aN=aN->hy.nt=nt->hy.r=some l->∀ (c7:World),cr hy dM a2 c7->
    body.wpIn (dQ (some l)) 0 P (λe a3 eV=>∃ (aY:di) (v:n9) (eI:aA) (bl:rout.aj),e=aY.pK/\hy.jS v/\cr (hy.hl v) eI a3 eV/\rout.jb eI=some bl/\qJ (aY,bl)) a2 c7) (λ_ _ _=>False)) b' b_
theorem ah0{ts:List (Nat×bX)}{R:Type}(h:ts.isEmpty=true)(g:Nat->Nat×Nat)(z:oO ts R)(i:Nat):fq (eC g ts z).1 i=.undef:=by
 cases ts with
 | nil=>rfl
 | cons p ts=>cases h
theorem ah1{P:Program}{l:Nat}{R:Ending->World->Prop}{e:di}{a:Act}{w:World}{r:Loop}(h:w.heap[l]?=some (.loop r))
  (jT:R (.returned (.bool (sS e).isNone)) (w.putObj l (.loop { r with state:=if (sS e).isNone then .ready else .done,pending:=sS e }))):roundPost P l R e.pK a w:=by
 cases e with
 | normal=>exact⟨_,_,run_endRound none h,jT⟩
 | exit id=>exact⟨_,_,run_endRound (some (.exit id)) h,jT⟩
 | ret=>exact⟨_,_,run_endRound (some .ret) h,jT⟩
theorem ah2{CI:b8}{sh rin rout:dF}{aJ:ab}{ps:Array Tmp}{assign body:Code}{a:Act}{aw:World}{κ:Nat->bA}{F:Nat->Prop}{D:sh.aj}{fn:FuncId}{l B:Nat}{x:aJ.aj}{args:List Value}{run:aA->A (di×rout.aj)}
  {Or:di×sh.aj->Prop} {Y Z:Nat->Prop} (ah3:Z l)
  (M:bk CI (sh.st D) a aw κ F) (d':n6 sh rout aJ ps.toList a.tmps.size=true) (DT:HC CI.P CI.aN a.tmps.size assign body l run) (hm:A.cu (uq sh rin rout aJ ps.toList D x run) Or)
  (ai:aw.heap[l]?=some (.loop (e_ fn a.tmps ps assign body B .ready .normal))) (ah4:¬F l) (sv:∀ b,((sh.st D).aa b).body.bY (κ b)=true->Y (κ b).aa/\¬Z (κ b).aa) (dW:fo CI.P aJ F aw args x) :
  ∃ tmps,(Instr.yield l args.toArray).run CI.P aw=.ok (.round l fn tmps assign body) aw/\RoundIn Fence.wide 0 CI.P l fn tmps assign body aw λe qK=>
   ∃ (bE:di) (iK:sh.aj) (κ':Nat->bA) (F':Nat->Prop) (o:Obj),e=.returned (.bool (sS bE).isNone)/\Or (bE,iK)/\qK.heap[l]?=some (.loop (e_ fn a.tmps ps assign body B (if (sS bE).isNone then .ready else .done) bE))/\
    bk { CI with w0:=aw.putObj l o,F0:=F,K0:=λr=>r<aw.heap.size/\(Z r\/¬Y r) } (sh.st iK) a qK κ' F':=by
 simp only[n6,Bool.and_eq_true,decide_eq_true_eq,Bool.not_eq_true',List.all_eq_true]at d';obtain⟨⟨⟨⟨aQ,aV⟩,bK⟩,fz⟩,pD⟩:=d';have AD:l<aw.heap.size:=(Array.getElem?_eq_some_iff.1 ai).1;obtain⟨iD,HD⟩:=ua (H:=(sh.st D).aa) (κ:=κ) aJ dW bK;have pE:(sh.st D).ay b4=.undef:=xV sh.bS c8 D b4 aV;have Gd:(Array.zip ps args.toArray).foldl (λtmps (x:Tmp×Value)=>match x with | (t,a)=>tmps.setIfInBounds t a) a.tmps=(ps.toList.zip args).foldl (λtmps p=>tmps.setIfInBounds p.1 p.2) a.tmps:=by
  rw[<-Array.foldl_toList];simp
 refine⟨(ps.toList.zip args).foldl (λtmps p=>tmps.setIfInBounds p.1 p.2) a.tmps,?_,?_⟩
 ·rw[<-Gd];exact run_yield ai (by show args.toArray.size=ps.size;grind)
 have ah5:bk { CI with w0:=aw,F0:=F,K0:=λr=>r<aw.heap.size/\(Z r\/¬Y r) } (sh.st D) a aw κ F:=
  M.vP M.dD M.dfr M.gj M.bS (λl aJ L n st e=>by have e:(sh.st D).ay b4=.aW l aJ L n st:=e;grind) (λ_ _=>rfl) (Nat.le_refl _) (λ_ h=>.inl h) (λ_ h=>h) (λ_ h=>h.1) (λ_ _=>rfl)
   (λb W h=>h.2.elim (sv b W).2 λh=>h (sv b W).1) (Nat.le_refl _) (dc.refl _)
 unfold uq at hm;split at hm
 ·rename_i aI bU ah6;split at hm
  ·rename_i cK;rw[A.fY]at hm;have gP:bk { CI with w0:=aw,F0:=F,K0:=λr=>r<aw.heap.size/\(Z r\/¬Y r),nt:=a.tmps.size,dfr:=[],r:=none } ⟨(xP (sh.st D) aJ x ps.toList).ay,(sh.st D).aa⟩ { tmps:=(ps.toList.zip args).foldl (λtmps p=>tmps.setIfInBounds p.1 p.2) a.tmps,defers:=[] } aw κ F:=by
    refine M.vP ahZ rfl (by rw[M.dD];exact M.gj) (λi=>?_) (λdE kG e3 iZ iv e=>?_) (λ_ _=>rfl) (Nat.le_refl _) (λ_ h=>.inl h) (λ_ h=>h) (λ_ h=>h.1) (λ_ _=>rfl)
     (λb W h=>h.2.elim (sv b W).2 λh=>h (sv b W).1) (Nat.le_refl _) (dc.refl _)
    ·show bx CI.P (sh.st D).aa κ F aw (if i=b4 then (sh.st D).ay b4 else An aJ x ps.toList 0 (sh.st D).ay i) _;split
     ·rw[pE];trivial
     ·exact Uv ps.toList args 0 _ _ (by omega) (λp an=>by grind) M.bS (λi G=>by grind) i
    ·have e:(if b4=b4 then (sh.st D).ay b4 else An aJ x ps.toList 0 (sh.st D).ay b4)=.aW dE kG e3 iZ iv:=e;grind
   obtain⟨F',own,gB,ik,f1,a_,gl,DU,ayA,Dv,MF⟩:=TG (c:=vH rin rout) ah5 gP (by rfl) ah6 rfl cK;have Nc:l<aw.heap.size/\(Z l\/¬Y l):=⟨AD,.inl ah3⟩
   have Uw:¬F' l:=λh=>(a_.hh l h).elim ah4 λh=>h Nc;have ah7:¬own l:=λh=>by
    obtain⟨b,E,U⟩:=gl l h;exact (a_.own b E).2.2 (U ▸ Nc)
   have ah8:¬gB l:=λh=>(DU.low l h).2.2 Nc;have Ux:l<aw.heap.size/\¬own l/\¬gB l:=⟨AD,ah7,ah8⟩
   have HE:bk { rI CI aw F' a.tmps.size own gB ik with r:=some l } (rin.st aI) _ aw _ F':=Dv.HB (w0:=aw) (w':=aw) (K0:=λr=>r<aw.heap.size/\¬own r/\¬gB r) (r:=some l) (λ_ h=>h) (λ_ _=>rfl) (Nat.le_refl _) (dc.refl _) (λ_ h=>h.1) (λ_ _=>rfl) (Nat.le_refl _) (dc.refl _);refine roundIn_of_wpIn trivial ?_;refine wpIn_mono (DT { rI CI aw F' a.tmps.size own gB ik with r:=some l } rfl rfl rfl rfl (rin.st aI) _ aw _ ⟨_,_,HE⟩ hm) λe a2 c7 bp=>?_;cases e with
   | normal=>
    obtain⟨u,dM,hu,⟨ng,ej,cL⟩,bR⟩:=bp;have sT:u.K l:=hu.hn l Ux;have gq:c7.heap[l]?=some (.loop (e_ fn a.tmps ps assign body B .ready .normal)):=(cL.eG l sT).trans ((hu.eG l Ux).trans ai);refine⟨_,run_beginRound gq rfl,?_⟩;have ah9:l<c7.heap.size:=(Array.getElem?_eq_some_iff.1 gq).1;have ah_:¬ej l:=λh=>(cL.hh l h).elim Uw λh=>h sT;have oX:=cL.HB (w0:=c7.putObj l (.loop (e_ fn a.tmps ps assign body B .busy .normal))) (w':=c7.putObj l (.loop (e_ fn a.tmps ps assign body B .busy .normal))) (K0:=u.K) (r:=some l) (λ_ h=>h)
     (λr h=>World.putObj_heap_other λe=>by
      subst e;exact h.elim ah_ λh=>h sT) (by simp) ⟨rfl,rfl,rfl⟩ (λr h=>by
       have:=cL.hv r h;have:=cL.size;simp;omega) (λ_ _=>rfl) (Nat.le_refl _) (dc.refl _)
    refine wpIn_mono (bR { ({ rI CI aw F' a.tmps.size own gB ik with r:=some l }:b8).hl u with w0:=c7.putObj l (.loop (e_ fn a.tmps ps assign body B .busy .normal)),K0:=u.K,r:=some l } rfl rfl rfl rfl _ ⟨ng,ej,oX⟩) λe a3 eV ⟨aY,v,eI,bl,he,ae,⟨HF,Uy,mF⟩,f',HG⟩=>?_;subst he;obtain⟨HF,Uz,f4,oY⟩:=dF.Ap f' mF;have xq:v.K l:=ae.hn l sT;have HH:eV.heap[l]?=some (.loop (e_ fn a.tmps ps assign body B .busy .normal)):=(oY.eG l xq).trans ((ae.eG l sT).trans (World.putObj_heap_same ah9));have UA:l<eV.heap.size:=(Array.getElem?_eq_some_iff.1 HH).1;have ayB:¬Uz l:=λh=>(oY.hh l h).elim Uw λh=>h xq;generalize gu:(if (sS aY).isNone then LoopState.ready else .done)=iv;refine ah1 HH ?_;rw[gu];have mB:bk { CI with w0:=aw.putObj l (.loop (e_ fn a.tmps ps assign body B iv aY)),F0:=F,K0:=λr=>r<aw.heap.size/\(Z r\/¬Y r) } ((sh.st D).cy bU) a (aw.putObj l (.loop (e_ fn a.tmps ps assign body B iv aY))) κ F':=
     a_.HB (λ_ h=>h) (λr h=>World.putObj_heap_other λe=>by
      grind) (by simp) ⟨rfl,rfl,rfl⟩ (λr h=>by simpa using h.1) (λ_ _=>rfl) (Nat.le_refl _) (dc.refl _)
    have Au:aw.heap.size<=eV.heap.size:=by
     have E:=hu.size;have U:=cL.size;have ag:=ae.size;have a6:=oY.size;have E:aw.heap.size<=u.w.heap.size:=E;have U:u.w.heap.size<=c7.heap.size:=U;have ag:(c7.putObj l (.loop (e_ fn a.tmps ps assign body B .busy .normal))).heap.size<=v.w.heap.size:=ag;have a6:v.w.heap.size<=eV.heap.size:=a6;simp only[World.putObj_size]at ag;omega
    have x8:dc aw eV:=by
     have E:dc aw u.w:=hu.ep;have U:dc u.w c7:=cL.ep;have ag:dc c7 v.w:=⟨ae.ep.os,ae.ep.tape,ae.ep.output⟩
     exact E.trans (U.trans (ag.trans oY.ep))
    have ah':∀ i,(rout.st bl).ay i=.undef:=λi=>ah0 aQ c8 bl i;have lW:∀ r,(r<(aw.putObj l (.loop (e_ fn a.tmps ps assign body B iv aY))).heap.size/\¬own r/\¬gB r)->(r<aw.heap.size/\¬own r/\¬gB r):=λr h=>⟨by simpa using h.1,h.2⟩
    have hK:=oY.vP (w0:=aw.putObj l (.loop (e_ fn a.tmps ps assign body B iv aY))) (w':=eV.putObj l (.loop (e_ fn a.tmps ps assign body B iv aY))) (F0:=F') (K0:=λr=>r<(aw.putObj l (.loop (e_ fn a.tmps ps assign body B iv aY))).heap.size/\¬own r/\¬gB r) (nt:=0) (dfr:=[]) (r:=none) (sl:=(rout.st bl).ay) (a':={ tmps:=#[],defers:=[] }) rfl rfl (Nat.zero_le _)
     (λi=>by rw[ah'];trivial) (λl aJ L n st e=>by grind)
     (λr h=>World.putObj_heap_other λe=>by
      subst e;rcases h with h | ⟨b,E,U⟩
      ·grind
      ·exact (oY.own b E).2.2 (U ▸ xq)) (by simp) (λr h=>(oY.hh r h).imp id λh ds=>h (ae.hn r (hu.hn r (lW r ds)))) oY.hS (λr h=>h.1)
     (λr h=>by
      by_cases e:r=l
      ·subst e;rw[World.putObj_heap_same UA,World.putObj_heap_same AD]
      ·rw[World.putObj_heap_other e,World.putObj_heap_other e];have E:u.K r:=hu.hn r (lW r h);exact (oY.eG r (ae.hn r E)).trans ((ae.eG r E).trans ((World.putObj_heap_other e).trans ((cL.eG r E).trans (hu.eG r (lW r h))))))
     (λb W h=>(oY.own b W).2.2 (ae.hn _ (hu.hn _ (lW _ h)))) (by simpa using Au) ⟨x8.os,x8.tape,x8.output⟩
    obtain⟨κn,n8,_⟩:=MF (aw.putObj l (.loop (e_ fn a.tmps ps assign body B iv aY))) (aw.putObj l (.loop (e_ fn a.tmps ps assign body B iv aY))) mB ⟨λdE kG e3 iZ iv e=>(by
      grind),λr h=>⟨by simpa using (DU.low r h).1,(DU.low r h).2⟩,DU.own,DU.G'⟩ bl [] (eV.putObj l (.loop (e_ fn a.tmps ps assign body B iv aY))) HF Uz hK
    obtain⟨iK,Nd,aia⟩:=uz HG;obtain⟨κn,aib,_,aic⟩:=dF.Ap Nd n8;exact⟨aY,iK,κn,aib,(.loop (e_ fn a.tmps ps assign body B iv aY)),rfl,A.d_.1 aia,by rw[gu];exact World.putObj_heap_same UA,aic⟩
   | _=>exact bp.elim
  ·exact hm.1.elim
 ·exact hm.1.elim
theorem UB{w:World}{o hT:Obj}{r:Nat}(h:r<w.heap.size):((w.alloc o).alloc hT).heap[r]?=w.heap[r]?:=
 (pr _ _ (by simp;omega)).trans (pr _ _ h)
def aid(C CI:b8){β:Type}(sh rin rout:dF)(aJ:ab)(bT:List aJ.aj->Prop)(ps:Array Tmp)(assign body:Code)(a:Act)(fn:FuncId)(l B:Nat)(run:aA->A (di×rout.aj))(k:di->aA->A β)(O:β->Prop)
  (st:Bool) (F Y:Nat->Prop) (aw:World):Prop:=
 ∃ (e:di) (D:sh.aj) (κ:Nat->bA),bk CI (sh.st D) a aw κ F/\aw.heap[l]?=some (.loop (e_ fn a.tmps ps assign body B (if st then .done else .ready) e))/\aw.heap[B]?=some (.deferred (some []))/\
  (∀ b,((sh.st D).aa b).body.bY (κ b)=true->Y (κ b).aa/\¬((κ b).aa=l\/(κ b).aa=B))/\Y l/\Y B/\¬F l/\¬F B/\C.P=CI.P/\
  (st=false->e=.normal/\∀ R,bT R->A.cu (jQ (λD y=>uq sh rin rout aJ ps.toList D y run) R D) λp=>A.cu (k p.1 (sh.st p.2)) O)/\(st=true->e≠.normal/\A.cu (k e (sh.st D)) O)
theorem UC{C CI:b8}{β:Type}{sh rin rout:dF}{aJ:ab}{S:List aJ.aj->Prop}{ps:Array Tmp}{assign body:Code}{a:Act}{fn:FuncId}{l B:Nat}{run:aA->A (di×rout.aj)}{k:di->aA->A β}{O:β->Prop}
  (iM:CI.K0=λ_=>False) (aie:l≠B) (d':n6 sh rout aJ ps.toList a.tmps.size=true) (DT:HC CI.P CI.aN a.tmps.size assign body l run) :
  FO CI.P (fo CI.P aJ) l S λpre=>aid C CI sh rin rout aJ (λR=>S (pre++R)) ps assign body a fn l B run k O where
 Ce:=λ{pre st F F' Y w w'} h bm heq cd jN jm DR=>by
  have hc:dc w w':=⟨jN.1,jN.2.1,jN.2.2⟩
  obtain⟨e,D,κ,M,E,U,ag,a6,bM,dt,gK,iU,qk⟩:=h;have pE:(sh.st D).ay b4=.undef:=by
   simp only[n6,Bool.and_eq_true,Bool.not_eq_true']at d';exact xV sh.bS c8 D b4 d'.1.1.1.2
  have uB:∀ r,CI.K0 r->False:=λr h=>by grind
  refine⟨e,D,κ,?_,(heq l (.inr a6)).trans E,(heq B (.inr bM)).trans U,ag,a6,bM,λh=>DR l h a6,λh=>DR B h bM,iU,qk⟩;exact M.Uu M.dD M.dfr M.gj M.bS (λdE kG e3 iZ iv e=>by have e:(sh.st D).ay b4=.aW dE kG e3 iZ iv:=e;grind)
   (λr a_=>heq r (a_.imp id λ⟨b,W,e⟩=>e ▸ (ag b W).1)) cd bm jm (λb W ar=>DR _ ar (ag b W).1) (λr _=>.inr (uB r)) (λr h=>bm r (M.hS r h)) (λr h=>(uB r h).elim) (λr h=>(uB r h).elim) (λb _=>uB _)
   (Nat.le_trans M.size cd) (M.ep.trans hc)
 yield:=λ{pre F Y w args x} h jm UD ah dW=>by
  obtain⟨Nf,Ng⟩:=ah;obtain⟨e,D,κ,M,E,U,ag,a6,bM,dt,gK,iU,qk,_⟩:=h;obtain⟨rfl,hm⟩:=qk rfl;have pE:∀ D:sh.aj,(sh.st D).ay b4=.undef:=λD=>by
   simp only[n6,Bool.and_eq_true,Bool.not_eq_true']at d';exact xV sh.bS c8 D b4 d'.1.1.1.2
  have uB:∀ r,CI.K0 r->False:=λr h=>by grind
  have hm:A.cu (uq sh rin rout aJ ps.toList D x run) λp=>∀ T,S (pre++x::T)->A.cu (match p.1 with
    | .normal=>jQ (λD y=>uq sh rin rout aJ ps.toList D y run) T p.2
    | .exit id=>A.pure (.exit id,p.2)
    | .ret=>A.pure (.ret,p.2)) λp=>A.cu (k p.1 (sh.st p.2)) O:=by
   have E:=λT aU=>A.fY.1 (hm (x::T) aU);exact⟨(E Nf Ng).1,λy aR T aU=>(E T aU).2 y aR⟩
  obtain⟨tmps,aR,aif⟩:=ah2 (Z:=λr=>r=l\/r=B) (.inl rfl) M d' DT hm E dt ag dW;refine⟨fn,tmps,assign,body,aR,aif.mono λaY qK ⟨bE,iK,κ',F',o,he,HG,HI,a_⟩=>?_⟩;have AD:l<w.heap.size:=(UD l a6).1;have Nh:B<w.heap.size:=(UD B bM).1;have g1:∀ r,F r->F' r:=a_.hS;have eh:∀ r,F' r->F r\/Y r\/w.heap.size<=r:=λr cL=>by
   rcases a_.hh r cL with h | h
   ·exact .inl h
   ·by_cases cj:r<w.heap.size
    ·by_cases aR:Y r
     ·exact .inr (.inl aR)
     ·exact (h ⟨cj,.inr aR⟩).elim
    ·exact .inr (.inr (Nat.le_of_not_lt cj))
  have UE:∀ r,r<w.heap.size->¬F r->(r=l\/r=B)->¬F' r:=λr cj ar bj rL=>(a_.hh r rL).elim ar λh=>h ⟨cj,.inl bj⟩;have UF:¬F' l:=UE l AD dt (.inl rfl);have vM:¬F' B:=UE B Nh gK (.inr rfl);have UG:∀ b,((sh.st iK).aa b).body.bY (κ' b)=true->¬((κ' b).aa=l\/(κ' b).aa=B)/\(Y (κ' b).aa\/w.heap.size<=(κ' b).aa):=λb W=>by
   have al:=(a_.own b W).2.2;grind
  have HJ:w.heap.size<=qK.heap.size:=by have:=a_.size;simpa using this
  have gc:dc w qK:=⟨a_.ep.os,a_.ep.tape,a_.ep.output⟩
  have ayC:∀ T,pre++[x]++T=pre++x::T:=λT=>by simp
  refine⟨(sS bE).isNone,F',λr=>(∃ b,((sh.st iK).aa b).body.bY (κ' b)=true/\(κ' b).aa=r)\/r=l\/r=B,he,g1,eh,a_.da,λr cj aR=>?_,λr cL=>?_,HJ,⟨gc.os,gc.tape,gc.output⟩,?_⟩
  ·have eB:r≠l:=λe=>aR (e ▸ a6);exact (a_.eG r ⟨cj,.inr aR⟩).trans (World.putObj_heap_other eB)
  ·rcases cL with⟨b,W,rfl⟩ | rfl | rfl
   ·exact⟨(UG b W).2,(a_.own b W).1,(a_.own b W).2.1⟩
   ·exact⟨.inl a6,Nat.lt_of_lt_of_le AD HJ,UF⟩
   ·exact⟨.inl bM,Nat.lt_of_lt_of_le Nh HJ,vM⟩
  ·refine⟨bE,iK,κ',?_,?_,?_,λb W=>⟨.inl ⟨b,W,rfl⟩,(UG b W).1⟩,.inr (.inl rfl),.inr (.inr rfl),UF,vM,iU,λgu=>?_,λgu=>?_⟩
   ·exact a_.vP a_.dD a_.dfr a_.gj a_.bS (λdE kG e3 iZ iv e=>by have e:(sh.st iK).ay b4=.aW dE kG e3 iZ iv:=e;grind) (λ_ _=>rfl) (Nat.le_refl _) (λr _=>.inr (uB r)) (λr h=>g1 r (M.hS r h))
     (λr h=>(uB r h).elim) (λr h=>(uB r h).elim) (λb _=>uB _) (Nat.le_trans M.size HJ) (M.ep.trans gc)
   ·grind
   ·exact (a_.eG B ⟨Nh,.inl (.inr rfl)⟩).trans ((World.putObj_heap_other (Ne.symm aie)).trans U)
   ·cases bE with
    | normal=>grind
    | _=>cases gu
   ·cases bE with
    | normal=>cases gu
    | exit id=>exact⟨by simp,(HG Nf Ng).2 _ rfl⟩
    | ret=>exact⟨by simp,(HG Nf Ng).2 _ rfl⟩
theorem UH{P:Program}{l:Nat}{aJ:ab}{S:List aJ.aj->Prop}{I:List aJ.aj->Bool->(Nat->Prop)->(Nat->Prop)->World->Prop}(h:FO P (fo P aJ) l S I):lL.hC P ⟨l,aJ,S,I⟩ where
 Ce:=λE U ag a6 bM dt gK=>h.Ce E U ag a6 ⟨bM.os,bM.tape,bM.output⟩ dt gK
 yield:=λE U ag a6 bM=>YieldAt.mono (h.yield E U ag a6 bM) λ_ _ ⟨b,F',gB,aQ,aV,bK,fz,pD,xW,HK,DV,Ni⟩=>⟨b,F',gB,aQ,aV,bK,fz,pD,xW,HK,⟨DV.1,DV.2.1,DV.2.2⟩,Ni⟩
end Go.Fer
