/- Part 2 of the proof of TopExtra: shallow programs of Go functions, and what they compute. No condition. -/
import Derived.Test.YtkmpcdkmiikalaaGreatTopExtraA
noncomputable section
namespace Go.Fer
open Go.RowKit
def hg (P:Program) (e:ai) (F:Nat->Prop) (w:World) (all:List Value) (xs:List e.aq):Prop:=
 all.length=xs.length*e.size/\∀ i (h:i<xs.length),bM P e F w ((all.drop (i*e.size)).take e.size) xs[i]
theorem hg.append {P:Program} {e:ai} {F:Nat->Prop} {w:World} {l m:List Value} {xs bG:List e.aq} (h:hg P e F w l xs) (k:hg P e F w m bG):hg P e F w (l++m) (xs++bG):=by
 refine ⟨by simp [h.1,k.1,Nat.add_mul],λi U=>?_⟩;by_cases au:i<xs.length
 ·have aK:(xs++bG)[i]=xs[i]:=List.getElem_append_left au;rw [aK];have hle:(i+1)*e.size<=xs.length*e.size:=Nat.mul_le_mul_right _ (by omega);rw [Nat.add_mul,Nat.one_mul] at hle;have:((l++m).drop (i*e.size)).take e.size=(l.drop (i*e.size)).take e.size:=by
   rw [List.drop_append_of_le_length (by rw [h.1];omega),List.take_append_of_le_length (by simp [h.1];omega)]
  rw [this];exact h.2 i au
 ·have eA:i - xs.length<bG.length:=by grind
  have aK:(xs++bG)[i]=bG[i - xs.length]:=List.getElem_append_right (by omega);rw [aK];have hm:i*e.size=xs.length*e.size+(i - xs.length)*e.size:=by rw [<-Nat.add_mul];grind
  have:(l++m).drop (i*e.size)=m.drop ((i - xs.length)*e.size):=by
   rw [hm,<-h.1,List.drop_append,List.drop_of_length_le (by omega)];simp
  rw [this];exact k.2 _ eA
theorem hg.Cb {P:Program} {e:ai} {F:Nat->Prop} {w:World} {all pre post:List Value} {cs:Array Value} {xs:List e.aq} (h:hg P e F w all xs) (hc:cs.toList=pre++(all++post)):qj P e F w cs pre.length xs:=by
 intro i U;have hle:(i+1)*e.size<=xs.length*e.size:=Nat.mul_le_mul_right _ (by omega);rw [Nat.add_mul,Nat.one_mul] at hle;refine ⟨_,λj aC=>?_,h.2 i U⟩;have gU:j<e.size:=by grind
 rw [<-Array.getElem?_toList,hc,List.getElem?_append_right (by omega),List.getElem?_append_left (by grind)];grind
theorem Fl {P:Program} {e:ai} {F:Nat->Prop} {w:World}:∀ {xs:List e.aq} {p:Addr},(0<xs.length->p.spot=none)->(∀ i (h:i<xs.length),∃ bn,la w ⟨p.block,p.off+i*e.size,none⟩ bn/\bM P e F w bn xs[i])->
  ∃ all,hg P e F w all xs/\la w p all
 | [],p,ar,_=>⟨[],⟨by simp,λi U=>by grind⟩,λh=>by grind,λj aC=>by grind⟩
 | x::xs,p,ar,h=>by
  obtain ⟨bn,d1,d2⟩:=h 0 (by simp);have zx:=jj e d2;obtain ⟨all,bN,b1⟩:=Fl (P:=P) (F:=F) (w:=w) (xs:=xs) (p:=⟨p.block,p.off+e.size,none⟩) (λ_=>rfl) (λi U=>by
   obtain ⟨Q5,aS,aY⟩:=h (i+1) (by grind);grind)
  refine ⟨bn++all,?_,λ_=>ar (by simp),λj aC=>?_⟩
  ·have M:hg P e F w bn [x]:=⟨by grind,λi U=>by
    have:i=0:=by grind
    subst this;grind⟩
   exact M.append bN
  ·rcases Nat.lt_or_ge j bn.length with M | M
   ·rw [List.getElem_append_left M];have:=d1.2 j M;grind
   ·rw [List.getElem_append_right M];have:=b1.2 (j - bn.length) (by grind);grind
section
variable {C:cf} {T:Nat->ai} {bd:Nat->Option aU} {o:Oper} {s:aE} {res:fj}
theorem tO {a:Act} {w:World} {κ:Nat->bD} {F:Nat->Prop} (W:bl C s a w κ F) {e:ai} {av:aP} {v:Value} {bG:List e.aq} {l:List Nat} (h:(dV (.slice e) av).run s.ag=some (bG,l)) (aj:bw C.P s.ag κ F w av v) :
  ∃ q cap,v=.slice q bG.length cap/\((q=none/\bG=[]/\cap=0)\/∃ p all,q=some p/\hg C.P e F w all bG/\la w p all):=by
 have zy:∀ {xs:List e.aq},bM C.P (.slice e) F w [v] xs->∃ q cap,v=.slice q xs.length cap/\((q=none/\xs=[]/\cap=0)\/∃ p all,q=some p/\hg C.P e F w all xs/\la w p all):=by
  intro xs au;obtain ⟨q,cap,aK,eb,eN,ij,g2⟩:=au;refine ⟨q,cap,(List.cons.inj aK).1,?_⟩;cases q with
  | none=>
   simp_all
  | some p=>
   obtain ⟨all,bN,b1⟩:=Fl (P:=C.P) (F:=F) (w:=w) (xs:=xs) (p:=p) (λh=>(g2 p rfl (by omega)).2.1) (λi U=>let ⟨bn,d1,d2⟩:=(g2 p rfl (by omega)).2.2 i U;⟨bn,d1.JJ,d2⟩);grind
 cases av with
 | val cT y=>
  simp only [dV,az.bW,Option.map_eq_some_iff,Prod.mk.injEq] at h;obtain ⟨z,bm,rfl,_⟩:=h;exact zy (((fa rfl).1 (E4 bm aj)).2)
 | cr=>
  simp only [dV,k7,ai.fE,if_true,eW,az.bW,Option.some.injEq,Prod.mk.injEq] at h;obtain ⟨rfl,_⟩:=h;simp only [bw] at aj;grind
 | ad b g=>
  simp only [dV,k7,ai.fE,if_true,eW,az.gr,az.bW] at h;split at h
  ·rename_i aL;have a6:=W.bI b;unfold cO at a6;split at h
   ·rename_i a9 xs b9;simp only [Option.map_eq_some_iff,Prod.mk.injEq] at h;obtain ⟨z,bm,rfl,_⟩:=h;obtain ⟨rr,rfl⟩:=lD bm;cases rr;have tP:=aj.2 aL.symm (by rw [b9];rfl);rw [b9] at tP a6;simp only [b7.len] at tP;cases aI:(κ b).h0 with
    | true=>
     have jK:=a6.1 aI;subst jK;simp only [bD.slice,aI,if_true] at tP;grind
    | false=>
     obtain ⟨cs,fw,bH,b2,cw,gi,hG⟩:=a6.2 aI;simp only [bD.slice,aI,Bool.false_eq_true,if_false] at tP;obtain ⟨all,bN,b1⟩:=Fl (P:=C.P) (F:=F) (w:=w) (xs:=xs) (p:=⟨(κ b).ag,(κ b).off,none⟩) (λ_=>rfl) (λi U=>by
      obtain ⟨bn,d1,d2⟩:=hG i U;exact ⟨bn,⟨λ_=>rfl,λj aC=>by rw [zp bH];grind⟩,d2⟩)
     grind
   ·rename_i a9 xs b9;simp only [Option.map_eq_some_iff,Prod.mk.injEq] at h;obtain ⟨z,bm,rfl,_⟩:=h;obtain ⟨rr,rfl⟩:=lD bm;cases rr;have tP:=aj.2 aL.symm (by rw [b9];rfl);rw [b9] at tP a6;simp only [b7.len] at tP;simp only [k5] at a6;grind
   grind
  grind
 | sub b g a4 U=>
  simp only [dV,k7,ai.fE,if_true,eW,az.gr,az.bW] at h;split at h
  ·rename_i aL;have a6:=W.bI b;unfold cO at a6;split at h
   ·rename_i a9 xs b9;simp only [Option.map_eq_some_iff,Prod.mk.injEq] at h;obtain ⟨z,bm,rfl,_⟩:=h;obtain ⟨rr,rfl⟩:=lD bm;cases rr;obtain ⟨⟨aS,aY⟩,bK⟩:=aj.2 aL.symm (by rw [b9];rfl);rw [b9] at aY bK a6;simp only [b7.len,b7.gq] at aY bK;have hlen:((xs.take U).drop a4).length=U - a4:=by grind
    rcases bK with ⟨aI,tP⟩ | ⟨aI,m6,tP,hH,gM⟩
    ·have jK:=a6.1 aI;grind
    ·obtain ⟨cs,fw,bH,b2,cw,gi,hG⟩:=a6.2 aI;obtain ⟨all,bN,b1⟩:=Fl (P:=C.P) (F:=F) (w:=w) (xs:=(xs.take U).drop a4) (p:=⟨(κ b).ag,m6,none⟩) (λ_=>rfl) (λi eA=>by
      rw [hlen] at eA;obtain ⟨bn,d1,d2⟩:=hG (a4+i) (by omega);refine ⟨bn,⟨λ_=>rfl,λj aC=>?_⟩,?_⟩
      ·rw [zp bH,<-d1 j aC];grind
      grind)
     grind
   ·rename_i a9 xs b9;simp only [Option.map_eq_some_iff,Prod.mk.injEq] at h;obtain ⟨z,bm,rfl,_⟩:=h;obtain ⟨rr,rfl⟩:=lD bm;cases rr;obtain ⟨⟨aS,aY⟩,bK⟩:=aj.2 aL.symm (by rw [b9];rfl);rw [b9] at aY bK a6;exact zy (E5 a6 aS aY bK)
   grind
  grind
 | fb cT y=>simp [dV,k7,ai.fE,eW,az.none] at h
 | kj u=>simp [dV,k7,ai.fE,eW,BO] at h
 | _=>simp [dV,k7,ai.fE,eW,az.none] at h
theorem zz {P:Program} {w:World} {e:ai} {q:Option Addr} {n cap:Nat} {xs:List e.aq} {F:Nat->Prop} (aI:n=xs.length) (h:(q=none/\xs=[]/\cap=0)\/∃ p all,q=some p/\hg P e F w all xs/\la w p all) :
  ∃ all,(Builtin.firstCells e.size n (.slice q n cap)).run P w=.ok all.toArray w/\hg P e F w all xs:=by
 subst aI;rcases h with ⟨rfl,rfl,rfl⟩ | ⟨p,all,rfl,bN,b1⟩
 ·exact ⟨[],by rfl,by simp [hg]⟩
 ·refine ⟨all,?_,bN⟩;simp only [Builtin.firstCells];rw [<-bN.1];exact JK b1
theorem abg (n:Nat):∀ (k c:Nat),Builtin.growBy n k c<=max c (2*n+768):=by
 intro k;induction k with
 | zero=>intro c;simp only [Builtin.growBy];omega
 | succ k aO=>
  intro c;simp only [Builtin.growBy];grind
theorem abh {Fm cap:Nat} (h:cap<Fm):Builtin.nextslicecap Fm cap<=2*Fm+768:=by
 unfold Builtin.nextslicecap;split
 ·omega
 ·split
  ·omega
  ·have:=abg Fm 4 cap;omega
theorem abi {z:Array Value} {n k:Nat} (h:z.size=k):(Builtin.zeroCells z n).size=n*k:=by simp [Builtin.zeroCells,h]
theorem abj {P:Program} {w:World} {e:ai} {ty nB:TypeId} {F:Nat->Prop} (h:ca P (.slice e) ty) (dx:ca P (.slice e) nB\/∃ a9,ca P (.slice a9) nB) {q q':Option Addr} {cap cap':Nat} {xs bG:List e.aq}
  (au:(q=none/\xs=[]/\cap=0)\/∃ p all,q=some p/\hg P e F w all xs/\la w p all) (aJ:(q'=none/\bG=[]/\cap'=0)\/∃ p all,q'=some p/\hg P e F w all bG/\la w p all)
  (hc:cap<xs.length+bG.length) (aw:bT (xs.length+bG.length)) (rt:TypeId) :
  ∃ lM rs cs,(Builtin.append_ #[ty,nB] rt #[.slice q xs.length cap,.slice q' bG.length cap']).run P w=.ok (.slice (some ⟨w.heap.size,0,none⟩) (xs.length+bG.length) rs) (w.drew.alloc (.cells cs lM))/\
   rs<2 ^ 63/\xs.length+bG.length<=rs/\cs.size=rs*e.size/\qj P e F w cs 0 (xs++bG):=by
 obtain ⟨lM,aC,l9,pE⟩:=h.sl;obtain ⟨kO,gU⟩:∃ kO,P.underlying nB=some (.slice kO):=by
  rcases dx with dx | ⟨a9,dx⟩
  ·obtain ⟨kO,k,_⟩:=dx.sl;grind
  ·obtain ⟨kO,k,_⟩:=dx.sl;grind
 obtain ⟨i,z,i1,i2,i3,i4,i5,i6⟩:=mE l9.mD;have bm:=(JW e (P:=P) i5).2;have abk:∀ t:Nat,xs.length+bG.length<=xs.length+bG.length+t % (2 ^ 63 - (xs.length+bG.length))/\xs.length+bG.length+t % (2 ^ 63 - (xs.length+bG.length))<2 ^ 63:=by
  intro t;unfold bT at aw;have:t % (2 ^ 63 - (xs.length+bG.length))<2 ^ 63 - (xs.length+bG.length):=Nat.mod_lt _ (by omega);omega
 generalize J6:xs.length+bG.length+(w.tape w.drawn (.appendCap (xs.length+bG.length) cap lM)) % (2 ^ 63 - (xs.length+bG.length))=rs;have J7:=abk (w.tape w.drawn (.appendCap (xs.length+bG.length) cap lM));rw [J6] at J7;have Q9:∀ {p:Addr} {all:List Value},la w p all->la w.drew p all:=λh=>h;have Q_:∀ {all:List Value} {zs:List e.aq},hg P e F w all zs->hg P e F w.drew all zs:=λh=>⟨h.1,λi U=>gp e (F:=F) (F':=F) (w:=w) (w':=w.drew) (λ_ W=>W) ⟨Nat.le_refl _,λ_ _=>rfl⟩ (h.2 i U)⟩
 have oa:(q=none/\xs=[]/\cap=0)\/∃ p all,q=some p/\hg P e F w.drew all xs/\la w.drew p all:=au.imp id λ⟨p,all,a,b,c⟩=>⟨p,all,a,Q_ b,Q9 c⟩
 have Cc:(q'=none/\bG=[]/\cap'=0)\/∃ p all,q'=some p/\hg P e F w.drew all bG/\la w.drew p all:=aJ.imp id λ⟨p,all,a,b,c⟩=>⟨p,all,a,Q_ b,Q9 c⟩
 obtain ⟨vD,hH,gM⟩:=zz (P:=P) (w:=w.drew) (cap:=cap) rfl oa;obtain ⟨e7,dO,e6⟩:=zz (P:=P) (w:=w.drew) (cap:=cap') rfl Cc;refine ⟨lM,rs,vD.toArray++e7.toArray++Builtin.zeroCells z.cells (rs - (xs.length+bG.length)),?_,J7.2,J7.1,?_,?_⟩
 ·have af:=abh hc;have Fo:Builtin.nextslicecap (xs.length+bG.length) cap*i.bytes<=281474976710656:=by
   unfold bT at aw;calc Builtin.nextslicecap (xs.length+bG.length) cap*i.bytes<=(2*4294967296+768)*1024:=Nat.mul_le_mul (by omega) i3
    _<=281474976710656:=by decide
  have Q':¬((xs.length+bG.length:Nat):Int) > IntKind.i64.max:=by
   unfold bT at aw;have:IntKind.i64.max=9223372036854775807:=by decide
   omega
  have abl:¬Builtin.nextslicecap (xs.length+bG.length) cap*i.bytes > 2 ^ 48:=by
   omega
  have J8:(Question.appendCap (xs.length+bG.length) cap lM).cut (w.tape w.drawn (.appendCap (xs.length+bG.length) cap lM))=rs:=by
   rw [<-J6];rfl
  have abm:(Question.appendCap (xs.length+bG.length) cap lM).forced=false:=rfl;simp only [Builtin.append_,List.getElem?_toArray,List.getElem?_cons_zero,List.getElem?_cons_succ,Sem.run_bind,dW aC,dW gU,Result.andThen_ok,sk i1,i2,Sem.run_pure,Builtin.lenOf,Bool.false_eq_true,if_false,if_neg (show ¬xs.length+bG.length<=cap by omega),Q',false_and,Fe i1,abl,run_choose,abm,J8,run_askRoom,Bool.not_false,if_true,World.drew_eq,hH,dO,sm i1 i4];rfl
 ·have M:=gM.1;have aa:=e6.1;simp only [Array.size_append,List.size_toArray,abi bm,M,aa];rw [<-Nat.add_mul,<-Nat.add_mul];grind
 ·have ob:=gM.append e6;have abn:hg P e F w (vD++e7) (xs++bG):=⟨ob.1,λi U=>gp e (F:=F) (F':=F) (w:=w.drew) (w':=w) (λ_ W=>W) ⟨Nat.le_refl _,λ_ _=>rfl⟩ (ob.2 i U)⟩
  exact abn.Cb (pre:=[]) (post:=(Builtin.zeroCells z.cells (rs - (xs.length+bG.length))).toList) (by simp)
end
end Go.Fer
namespace Go.Fer
open Go.RowKit
section
variable {C:cf} {T:Nat->ai} {bd:Nat->Option aU} {o:Oper} {s:aE} {res:fj}
theorem bl.Cd {a:Act} {w w':World} {κ:Nat->bD} {F:Nat->Prop} (h:bl C s a w κ F) {b g:Nat} {e:ai} {zs:List e.aq} {k:bD} (aL:(s.ag b).gen<g) (lN:k.h0=true\/k.ag=w.heap.size) (cH:w.heap.size<=w'.heap.size)
  (hold:∀ r,r<w.heap.size->w'.heap[r]?=w.heap[r]?) (cq:k.h0=false->k.ag<w'.heap.size) (hc:dA w w')
  (b9:∀ H κ',k5 C.P H κ' F w' k (.bu e zs)):bl C (s.cy b ⟨g,.bu e zs⟩) a w' (λi=>if i=b then k else κ i) F:=by
 have aw:gT s.ag κ (λi=>if i=b then (⟨g,.bu e zs⟩:bS) else s.ag i) (λi=>if i=b then k else κ i):=BL aL λbg dq=>by grind
 have he:c6 F w w':=⟨cH,λr W=>hold r (h.dM r W)⟩
 refine h.move (H':=λi=>if i=b then (⟨g,.bu e zs⟩:bS) else s.ag i) aw (λ_ W=>W) (λ_ W=>.inl W) cH (λr W _=>hold r W) hc (λ_=>?_) ?_ ?_ (λr W=>Nat.lt_of_lt_of_le (h.dM r W) cH) (BN (.inr ⟨rfl,rfl⟩) λbg dq=>by grind)
 ·intro i;by_cases U:i=b
  ·subst U;simp only [cO,if_true];grind
  ·exact cO.mA (h.bI i) aw (λ_ W=>W) he (by grind) (by grind) λal=>hold _ (h.ad i al).1
 ·intro i U;by_cases gD:i=b
  ·subst gD;simp only [if_true,b7.cd,Bool.not_eq_true'] at U ⊢;have ak:=lN.resolve_left (by grind);refine ⟨cq U,λax=>?_,.inr (by omega)⟩;have:=h.dM _ ax;omega
  ·simp only [if_neg gD] at U ⊢;have:=h.ad i U;grind
 ·intro i j U aC a9;by_cases gD:i=b<;>by_cases pv:j=b
  ·omega
  ·simp only [if_pos gD,if_neg pv,b7.cd,Bool.not_eq_true'] at U aC a9;have ak:=lN.resolve_left (by grind);have:=(h.ad j aC).1;omega
  ·simp only [if_neg gD,if_pos pv,b7.cd,Bool.not_eq_true'] at U aC a9;have ak:=lN.resolve_left (by grind);have:=(h.ad i U).1;omega
  ·simp only [if_neg gD,if_neg pv] at U aC a9;exact h.inj i j U aC a9
theorem abo (s:aE) (b:Nat) (x y:bS):(s.cy b x).cy b y=s.cy b y:=by
 unfold aE.cy;grind
theorem bl.abp {a:Act} {w:World} {κ:Nat->bD} {F:Nat->Prop} (h:bl C s a w κ F) {b:Nat} {e:ai} {xs:List e.aq} (af:(s.ag b).body=.bu e xs) {a4 U:Nat} (M:a4<=U) (aa:U<=xs.length) {v:Value} (aA:E1 (κ b) e.size a4 U v) :
  ∃ κ',bl C (s.cy b ⟨(s.ag b).gen+1,.bu e ((xs.take U).drop a4)⟩) a w κ' F/\v=(κ' b).slice ((xs.take U).drop a4).length:=by
 have hlen:((xs.take U).drop a4).length=U - a4:=by grind
 have h3:∀ κ':Nat->bD,(∀ bg,bg≠b->κ' bg=κ bg)->gT s.ag κ (λi=>if i=b then (⟨(s.ag b).gen+1,.bu e ((xs.take U).drop a4)⟩:bS) else s.ag i) κ':=
  λκ' BM=>BL (Nat.lt_succ_self _) BM
 have a6:=h.bI b;unfold cO at a6;rw [af] at a6;rcases aA with ⟨aI,rfl⟩ | ⟨aI,o,rfl,hH,gM⟩
 ·have jK:=a6.1 aI;subst jK;refine ⟨κ,?_,by simp [bD.slice,aI]⟩;refine h.move (H':=λi=>if i=b then (⟨(s.ag b).gen+1,.bu e ((([]:List e.aq).take U).drop a4)⟩:bS) else s.ag i) (h3 κ λ_ _=>rfl) (λ_ W=>W) (λ_ W=>.inl W) (Nat.le_refl _) (λ_ _ _=>rfl) (dA.refl _) (λ_=>?_) ?_ ?_ h.dM (BN (.inr ⟨rfl,rfl⟩) λ_ _=>rfl)
  ·intro i;by_cases U:i=b
   ·subst U;simp only [cO,if_true];exact ⟨λ_=>by simp,λh=>by grind⟩
   ·exact cO.mA (h.bI i) (h3 κ λ_ _=>rfl) (λ_ W=>W) (c6.refl _ _) (by grind) rfl λ_=>rfl
  ·intro i U;by_cases gD:i=b
   ·subst gD;simp [b7.cd,aI] at U
   ·simp only [if_neg gD] at U;exact ⟨(h.ad i U).1,(h.ad i U).2.1,.inl ⟨i,U,rfl⟩⟩
  ·intro i j U aC a9;by_cases gD:i=b
   ·subst gD;simp [b7.cd,aI] at U
   ·by_cases pv:j=b
    ·subst pv;simp [b7.cd,aI] at aC
    ·simp only [if_neg gD,if_neg pv] at U aC;exact h.inj i j U aC a9
 ·obtain ⟨cs,fw,bH,b2,cw,gi,hG⟩:=a6.2 aI;let k':bD:=⟨(κ b).ag,o,(κ b).cap - a4,false⟩
  let κ':Nat->bD:=λi=>if i=b then k' else κ i
  have Ce:∀ bg,bg≠b->κ' bg=κ bg:=λbg h=>if_neg h;have J9:κ' b=k':=if_pos rfl;have hM:=h.ad b (by rw [af];simp [b7.cd,aI]);refine ⟨κ',?_,by rw [J9,hlen];rfl⟩;refine h.move (H':=λi=>if i=b then (⟨(s.ag b).gen+1,.bu e ((xs.take U).drop a4)⟩:bS) else s.ag i) (h3 κ' Ce) (λ_ W=>W) (λ_ W=>.inl W) (Nat.le_refl _) (λ_ _ _=>rfl) (dA.refl _) (λ_=>?_) ?_ ?_ h.dM (BN (.inr ⟨rfl,rfl⟩) Ce)
  ·intro i;by_cases eA:i=b
   ·subst eA;simp only [cO,if_true,J9];have hmul:a4*e.size<=(κ i).cap*e.size:=Nat.mul_le_mul_right _ (by omega);refine ⟨λh=>(by cases h),λ_=>⟨cs,fw,bH,?_,by grind,by grind,λj aC=>?_⟩⟩
    ·simp only [k'];rw [Nat.sub_mul];omega
    ·rw [hlen] at aC;obtain ⟨bn,d1,d2⟩:=hG (a4+j) (by omega);grind
   ·exact cO.mA (h.bI i) (h3 κ' Ce) (λ_ W=>W) (c6.refl _ _) (by grind) (Ce i eA) λ_=>rfl
  ·intro i eA;by_cases gD:i=b
   ·subst gD;rw [J9];exact ⟨hM.1,hM.2.1,.inl ⟨i,by rw [af];simp [b7.cd,aI],rfl⟩⟩
   ·simp only [if_neg gD] at eA;rw [Ce i gD] at eA ⊢;exact ⟨(h.ad i eA).1,(h.ad i eA).2.1,.inl ⟨i,eA,rfl⟩⟩
  ·intro i j eA aC a9;have Ra:∀ i,(κ' i).ag=(κ i).ag:=λi=>by
    grind
   have cD:∀ i,((if i=b then (⟨(s.ag b).gen+1,.bu e ((xs.take U).drop a4)⟩:bS) else s.ag i).body.cd (κ' i)=true)->(s.ag i).body.cd (κ i)=true:=λi U=>by
    by_cases gD:i=b
    ·subst gD;rw [af];simp [b7.cd,aI]
    grind
   rw [Ra,Ra] at a9;exact h.inj i j (cD i eA) (cD j aC) a9
theorem qj.nw {P:Program} {e:ai} {F:Nat->Prop} {w w':World} {cs:Array Value} {off:Nat} {xs:List e.aq} (h:qj P e F w cs off xs) (he:c6 F w w'):qj P e F w' cs off xs:=h.mono (λ_ W=>W) he
theorem abq (a2:eO C.P T) {args:Array Operand} {dN:Array TypeId} (bh:∀ i,o.dst=some i->i<C.nt) (al:o.op=.call { callee:=.builtin .append,args:=args,argTypes:=dN }) (h:(BU T (a_ C.aZ s.aD) o.dst args.toList dN.toList).run s.ag=some res):cK C o s res:=by
 obtain ⟨args⟩:=args;obtain ⟨dN⟩:=dN;have aN:∀ c,o.op≠.defer c:=by grind
 simp only [BU] at h;split at h
 ·rename_i x y t u;split at h
  ·rename_i e bq aR hu;have d':=a2.cb aR (by simp);have vz:=a2.cb hu (by simp);obtain ⟨lM,aC,l9,pE⟩:=d'.sl;obtain ⟨abr,gU,_⟩:=vz.sl;obtain ⟨inf,z,i1,i2,i3,i4,i5,i6⟩:=mE l9.mD;have nC:∀ (a:Act) (w w':World) v,(Builtin.append_ #[t,u] o.type #[a.eval x,a.eval y]).run C.P w=.ok v w'->(execOp a.eval o).run C.P w=.ok (.value v) w':=by
    intro a w w' v aj;refine vw al ?_;simp [builtin,aj]
   have main:∀ (s:aE) (a:Act) (w:World) (κ:Nat->bD) (F:Nat->Prop) (Q:Exit->Act->World->Prop) (b g:Nat) (xs bG:List e.aq),bl C s a w κ F->
     (∃ q cap,a.eval y=.slice q bG.length cap/\((q=none/\bG=[]/\cap=0)\/∃ p all,q=some p/\hg C.P e F w all bG/\la w p all))->
     (s.ag b).gen<g->(∃ q cap,a.eval x=.slice q xs.length cap/\((q=none/\xs=[]/\cap=0)\/∃ p all,q=some p/\hg C.P e F w all xs/\la w p all))->
     (∀ q cap,a.eval x=.slice q xs.length cap->q≠none->xs.length+bG.length<=cap->(s.ag b).body=.bu e xs/\(κ b).h0=false/\q=some ⟨(κ b).ag,(κ b).off,none⟩/\cap=(κ b).cap)->bT (xs.length+bG.length)->
     o.wpIn (eX C.r) 0 C.P a w (λa' w'=>cG C ((s.cy b ⟨g,.bu e (xs++bG)⟩).set o.dst (.ad b g)) a' w') Q:=by
    intro s a w κ F Q b g xs bG W pF J_ ss abt hlen;obtain ⟨q,cap,ss,zA⟩:=ss;obtain ⟨q',cap',tQ,pF⟩:=pF;have J':∀ (κ':Nat->bD) (v:Value) (w':World),bl C (s.cy b ⟨g,.bu e (xs++bG)⟩) a w' κ' F->v=(κ' b).slice (xs++bG).length->cG C ((s.cy b ⟨g,.bu e (xs++bG)⟩).set o.dst (.ad b g)) (a.put o.dst v) w':=by
     intro κ' v w' bc aj;refine ⟨κ',F,bl.set bc bh ⟨⟨by simp [aE.cy],?_⟩,λ_ _=>?_⟩⟩
     ·rw [aj];unfold bD.slice;split<;>rfl
     ·rw [aj];simp [aE.cy,b7.len]
    by_cases xd:xs.length+bG.length<=cap
    ·cases bt:q with
     | none=>
      subst bt;obtain ⟨abu,zb⟩:xs=[]/\cap=0:=by
       grind
      subst abu;subst zb;have Ka:bG=[]:=by grind
      subst Ka;obtain ⟨e7,dO,e6⟩:=zz (P:=C.P) (w:=w) (cap:=cap') rfl pF;have dj:(Builtin.append_ #[t,u] o.type #[a.eval x,a.eval y]).run C.P w=.ok (.slice none 0 0) w:=by
       rw [ss,tQ];simp only [List.length_nil] at dO ⊢;simp [Builtin.append_,dW aC,dW gU,sk i1,Builtin.lenOf];rw [i2,dO];simp
      refine h1 aN (nC a w w _ dj) (J' _ _ _ (W.Cd (k:=⟨0,0,0,true⟩) J_ (.inl rfl) (Nat.le_refl _) (λ_ _=>rfl) (λh=>by cases h) (dA.refl _) λH κ'=>⟨λ_=>rfl,λh=>by cases h⟩) ?_);simp [bD.slice]
     | some Fp=>
      obtain ⟨af,vC,ar,xc⟩:=abt q cap ss (by grind) xd;rw [bt] at ar;have ar:=Option.some.inj ar;subst ar;subst xc;have a6:=W.bI b;unfold cO at a6;rw [af] at a6;obtain ⟨cs,fw,bH,b2,cw,gi,hG⟩:=a6.2 vC;obtain ⟨e7,dO,e6⟩:=zz (P:=C.P) (w:=w) (cap:=cap') rfl pF;have pG:=e6.1;have oM:∀ v∈e7,v.oneCell'=true:=by
       intro v aj;obtain ⟨j,aC,rfl⟩:=List.mem_iff_getElem.1 aj;have lL:0<e.size:=Nat.pos_of_ne_zero pE;have hdiv:j / e.size<bG.length:=(Nat.div_lt_iff_lt_mul lL).2 (by omega);have oc:=e6.2 (j / e.size) hdiv;have iy:=za (P:=C.P) (H:=λ_=>⟨0,.gK⟩) (κ:=λ_=>⟨0,0,0,true⟩) e oc;have zB:=Nat.mod_lt j lL;have abv:j / e.size*e.size+j % e.size=j:=Nat.div_add_mod' j e.size;have Kb:((e7.drop (j / e.size*e.size)).take e.size).length=e.size:=jj e oc;have:=(iy.lE (j % e.size) (by rw [iy.len,Kb];omega)).2;grind
      have abw:(κ b).off+xs.length*e.size+0+e7.length<=cs.size:=by
       rw [pG];have:(xs.length+bG.length)*e.size<=(κ b).cap*e.size:=Nat.mul_le_mul_right _ xd;grind
      obtain ⟨w',ef,b4,ct,fc,iM,l7,oe⟩:=xb (P:=C.P) e7 ((κ b).off+xs.length*e.size) 0 w cs bH abw oM;have dj:(Builtin.append_ #[t,u] o.type #[a.eval x,a.eval y]).run C.P w=.ok (.slice (some ⟨(κ b).ag,(κ b).off,none⟩) (xs.length+bG.length) (κ b).cap) w':=by
       rw [ss,tQ,bt];simp only [Builtin.append_,List.getElem?_toArray,List.getElem?_cons_zero,List.getElem?_cons_succ,Sem.run_bind,dW aC,dW gU,Result.andThen_ok,sk i1,i2,Sem.run_pure,Builtin.lenOf,Bool.false_eq_true,if_false,if_pos xd,Bool.not_false,if_true,dO,vu];simp only [b4,Result.andThen_ok]
      have h3:gT s.ag κ (λi=>if i=b then (⟨g,.bu e (xs++bG)⟩:bS) else s.ag i) κ:=BL J_ λ_ _=>rfl;refine h1 aN (nC a w w' _ dj) (J' κ _ _ (W.tD (b:=b) (by rw [af];simp [b7.cd,vC]) (by simp [b7.cd,vC]) h3 (λh=>by cases h) (λh=>by cases h) iM l7 oe λH tL cq he=>?_) (by simp [bD.slice,vC]));refine ⟨λh=>(by grind),λ_=>?_⟩;have JZ:ef.size=cs.size:=by
       rw [<-Array.length_toList,fc];grind
      refine ⟨ef,fw,ct,by omega,by grind,gi,λi U=>?_⟩;simp only [Nat.add_zero] at fc;have hh:(cs.toList.take ((κ b).off+xs.length*e.size)).length=(κ b).off+xs.length*e.size:=by grind
      by_cases Rb:i<xs.length
      ·obtain ⟨bn,d1,d2⟩:=hG i Rb;have aK:(xs++bG)[i]=xs[i]:=List.getElem_append_left Rb;rw [aK];refine ⟨bn,λk ak=>?_,gp e (λ_ W=>W) he d2⟩;have Rc:=jj e d2;have hle:(i+1)*e.size<=xs.length*e.size:=Nat.mul_le_mul_right _ (by omega);rw [Nat.add_mul] at hle;rw [<-Array.getElem?_toList,fc,List.getElem?_append_left (by omega),List.getElem?_take,if_pos (by omega)];grind
      ·have eA:i - xs.length<bG.length:=by grind
       have aK:(xs++bG)[i]=bG[i - xs.length]:=List.getElem_append_right (by omega);rw [aK];have Cf:=e6.Cb (pre:=cs.toList.take ((κ b).off+xs.length*e.size)) (post:=cs.toList.drop ((κ b).off+xs.length*e.size+e7.length)) fc;obtain ⟨bn,d1,d2⟩:=Cf (i - xs.length) eA;refine ⟨bn,λk ak=>?_,gp e (λ_ W=>W) he d2⟩;have:=d1 k ak;rw [hh] at this;rw [<-this];congr 1;have:i*e.size=xs.length*e.size+(i - xs.length)*e.size:=by rw [<-Nat.add_mul];grind
       omega
    ·obtain ⟨abx,rs,cs,b4,ct,fc,iM,l7⟩:=abj (P:=C.P) (w:=w) (F:=F) (cap:=cap) (cap':=cap') d' (.inr ⟨bq,vz⟩) zA pF (by omega) hlen o.type;rw [<-ss,<-tQ] at b4;refine h1 aN (nC a w _ _ b4) (J' _ _ _ (W.Cd (k:=⟨w.heap.size,0,rs,false⟩) J_ (.inr rfl) (by simp) (λr W=>?_) (λ_=>by simp) ⟨rfl,rfl,rfl⟩ λH κ'=>⟨λh=>(by cases h),λ_=>⟨cs,abx,?_,by grind,by grind,ct,?_⟩⟩) ?_)
     ·exact qk w.drew _ W
     ·exact ri w.drew _
     ·exact l7.nw ⟨by simp,λr bc=>qk w.drew _ (W.dM r bc)⟩
     ·simp [bD.slice]
   simp only [JG] at h;split at h
   ·rename_i b g fk;simp only [az.gr] at h;split at h
    ·rename_i a9 xs b9;split at h
     ·rename_i ru;subst ru;simp only [az.fR,Option.bind_eq_some_iff,az.bW,Option.some.injEq] at h;obtain ⟨⟨bG,l⟩,mG,rfl⟩:=h;have aL:(s.ag b).gen=g/\(s.ag b).body=.bu a9 xs:=by
       grind
      intro a w κ F Q W be hc;have au:bw C.P s.ag κ F w (use (a_ C.aZ s.aD x)).2 (a.eval x):=cU W x rfl be.1;have oa:=au;rw [fk] at oa;have aj:=oa.2 aL.1.symm (by rw [aL.2];rfl);rw [aL.2] at aj;simp only [b7.len] at aj;have jK:(dV (.slice a9) (use (a_ C.aZ s.aD x)).2).run s.ag=some (xs,[b]):=by
       rw [fk];simp [dV,k7,ai.fE,eW,aL.1,aL.2,fG]
      refine main s a w κ F Q b (g+1) xs bG W (tO W mG (cU W y rfl be.2)) (by omega) (tO W jK au) (λq cap bt Cg _=>?_) hc;rw [aj] at bt;cases aI:(κ b).h0 with
      | true=>
       simp only [bD.slice,aI,if_true,Value.slice.injEq] at bt;grind
      | false=>
       simp only [bD.slice,aI,Bool.false_eq_true,if_false,Value.slice.injEq] at bt;grind
     ·cases h
    ·cases h
   ·rename_i b g a4 U fk;simp only [az.gr] at h;split at h
    ·rename_i a9 xs b9;split at h
     ·rename_i ru;subst ru;simp only [az.fR,Option.bind_eq_some_iff,az.bW,Option.some.injEq] at h;obtain ⟨⟨bG,l⟩,mG,rfl⟩:=h;have aL:(s.ag b).gen=g/\(s.ag b).body=.bu a9 xs:=by
       grind
      intro a w κ F Q W be hc;have au:bw C.P s.ag κ F w (use (a_ C.aZ s.aD x)).2 (a.eval x):=cU W x rfl be.1;rw [fk] at au;obtain ⟨⟨aS,aY⟩,bK⟩:=au.2 aL.1.symm (by rw [aL.2];rfl);rw [aL.2] at aY bK;simp only [b7.len,b7.gq] at aY bK;obtain ⟨κ',bc,aj⟩:=W.abp aL.2 aS aY bK;have pF:=tO W mG (cU W y rfl be.2);have Rd:(s.cy b ⟨(s.ag b).gen+1,.bu a9 ((xs.take U).drop a4)⟩).ag b=⟨(s.ag b).gen+1,.bu a9 ((xs.take U).drop a4)⟩:=by simp [aE.cy]
      have jK:(dV (.slice a9) (.ad b (g+1))).run (s.cy b ⟨(s.ag b).gen+1,.bu a9 ((xs.take U).drop a4)⟩).ag=some ((xs.take U).drop a4,[b]):=by
       simp [dV,k7,ai.fE,eW,aE.cy,aL.1,fG]
      have zA:bw C.P (s.cy b ⟨(s.ag b).gen+1,.bu a9 ((xs.take U).drop a4)⟩).ag κ' F w (.ad b (g+1)) (a.eval x):=by
       refine ⟨⟨by grind,au.1.2⟩,λ_ _=>?_⟩;rw [Rd];exact aj
      have:=main (s.cy b ⟨(s.ag b).gen+1,.bu a9 ((xs.take U).drop a4)⟩) a w κ' F Q b (g+2) ((xs.take U).drop a4) bG bc pF (by grind) (tO bc jK zA) (λq cap bt Cg _=>?_) hc
      ·rw [abo] at this;exact this
      ·rw [aj] at bt;cases aI:(κ' b).h0 with
       | true=>
        simp only [bD.slice,aI,if_true,Value.slice.injEq] at bt;grind
       | false=>
        simp only [bD.slice,aI,Bool.false_eq_true,if_false,Value.slice.injEq] at bt;grind
     ·cases h
    ·cases h
   ·rename_i fk;simp only [az.fR,Option.bind_eq_some_iff] at h;obtain ⟨⟨bG,l⟩,mG,h⟩:=h;obtain ⟨b,af,ak⟩:=sn h;simp only [Option.some.injEq] at ak;subst ak;intro a w κ F Q W be hc;have au:bw C.P s.ag κ F w (use (a_ C.aZ s.aD x)).2 (a.eval x):=cU W x rfl be.1;rw [fk] at au;simp only [bw] at au;have:=main s a w κ F Q b ((s.ag b).gen+1) [] bG W (tO W mG (cU W y rfl be.2)) (Nat.lt_succ_self _) ⟨none,0,au,.inl ⟨rfl,rfl,rfl⟩⟩ (λq cap bt Cg _=>by grind) (by grind);exact this
   ·rename_i a9 xs fk;split at h
    ·rename_i ru;subst ru;simp only [az.fR,Option.bind_eq_some_iff] at h;obtain ⟨⟨bG,l⟩,mG,h⟩:=h;obtain ⟨b,af,ak⟩:=sn h;simp only [Option.some.injEq] at ak;subst ak;intro a w κ F Q W be hc;have au:bw C.P s.ag κ F w (use (a_ C.aZ s.aD x)).2 (a.eval x):=cU W x rfl be.1;rw [fk] at au;obtain ⟨Kc,B5,Re⟩:=au;have jK:(dV (.slice a9) (.val (.slice a9) xs)).run s.ag=some (xs,[]):=by
      simp [dV,fG]
     exact main s a w κ F Q b ((s.ag b).gen+1) xs bG W (tO W mG (cU W y rfl be.2)) (Nat.lt_succ_self _) (tO W jK Kc) (λq cap bt Cg xd=>by
      grind) hc.2
    ·cases h
   ·cases h
  ·cases h
 ·cases h
end
end Go.Fer
namespace Go.Fer
open Go.RowKit
theorem jk.E3 {P:Program} {k:FuncId} {ts a5:ai} {sh Rf:ts.aq->A a5.aq} (h:jk P k ts a5 sh) (aA:∀ x,A.bz (sh x) (Rf x)):jk P k ts a5 Rf where
 enter:=h.enter
 mZ:=λF w args x bB bf xe=>by
  obtain ⟨M,aa⟩:=aA x xe;exact (h.mZ F w args x bB bf M).mono λe w' ⟨v,y,aK,bq,cF⟩=>⟨v,y,aK,aa y bq,cF⟩
def aU.sh (c:aU) (x:c.ts.aq):A c.a5.aq:=A.eT (c.pre x) (c.g x)
def kP (P:Program) (bd:Nat->Option aU):Prop:=∀ k c,bd k=some c->jk P k c.ts c.a5 c.sh
theorem lO {t:ai} (aR:t.hs=true) (avs:List aP):j3 t avs=(match avs with | [v]=>dV t v | _=>.none:az (Option (t.aq×List Nat))):=by
 cases t<;>first
  | (cases aR;done)
  | (rcases avs with _ | ⟨v,_ | ⟨u,aH⟩⟩<;>rfl)
theorem vF {P:Program} {H:Nat->bS} {κ:Nat->bD} {F F':Nat->Prop} {w:World} (a6:∀ b,cO P H κ F w b) (bB:∀ r,F r->F' r):∀ (t:ai) {avs:List aP} {aH:List Value} {x:t.aq} {l:List Nat},(j3 t avs).run H=some (x,l)->
  jJ H κ F' l->avs.length=aH.length->(∀ i (h:i<avs.length) (dx:i<aH.length),bw P H κ F w avs[i] aH[i])->gS P t F' w aH x:=by
 have hs:∀ (t:ai),t.hs=true->∀ {avs:List aP} {aH:List Value} {x:t.aq} {l:List Nat},(match avs with | [v]=>dV t v | _=>.none:az (Option (t.aq×List Nat))).run H=some (x,l)->
   jJ H κ F' l->avs.length=aH.length->(∀ i (h:i<avs.length) (dx:i<aH.length),bw P H κ F w avs[i] aH[i])->gS P t F' w aH x:=by
  intro t aR avs aH x l h aw hlen gv;split at h
  ·rename_i v;match aH,hlen with
   | [u],_=>
    refine (BI aR).2 ⟨u,rfl,n9 a6 bB h aw ?_⟩;exact gv 0 (by simp) (by simp)
  ·cases h
 intro t;induction t with
 | aG a b gn fh=>
  intro avs aH x l h aw hlen gv;match avs,aH,hlen with
  | [],_,_=>simp [j3,az.none] at h
  | v::avs,u::aH,hlen=>
   simp only [j3,az.fR,Option.bind_eq_some_iff,az.bW,Option.some.injEq,Prod.mk.injEq] at h;obtain ⟨⟨y,m⟩,M,⟨z,dI⟩,aa,rfl,rfl⟩:=h;refine BH.2 ⟨n9 a6 bB M aw.left (gv 0 (by simp) (by simp)),?_⟩;exact fh aa aw.right (by grind) λi U eA=>by
    have:=gv (i+1) (by grind) (by grind);grind
 | da=>
  intro avs aH x l h aw hlen gv;match avs,aH,hlen with
  | [],[],_=>exact ⟨rfl,rfl⟩
  | _::_,_,_=>simp [j3,az.none] at h
 | bool=>intro avs aH x l h;rw [lO rfl] at h;exact hs _ rfl h
 | int k=>intro avs aH x l h;rw [lO rfl] at h;exact hs (.int k) rfl h
 | str=>intro avs aH x l h;rw [lO rfl] at h;exact hs _ rfl h
 | st t _=>intro avs aH x l h;rw [lO rfl] at h;exact hs (.st t) rfl h
 | slice e _=>intro avs aH x l h;rw [lO rfl] at h;exact hs (.slice e) rfl h
 | array n e _=>intro avs aH x l h;rw [lO rfl] at h;exact hs (.array n e) rfl h
 | bQ e _=>intro avs aH x l h;rw [lO rfl] at h;exact hs (.bQ e) rfl h
 | map k v _ _=>intro avs aH x l h;rw [lO rfl] at h;exact hs (.map k v) rfl h
 | fn a b _ _=>intro avs aH x l h;rw [lO rfl] at h;exact hs (.fn a b) rfl h
 | cj a _=>intro avs aH x l h;rw [lO rfl] at h;exact hs (.cj a) rfl h
theorem qt {H:Nat->bS}:∀ (t:ai) {avs:List aP} {x:t.aq} {l:List Nat},(j3 t avs).run H=some (x,l)->hy H l:=by
 have hs:∀ (t:ai),t.hs=true->∀ {avs:List aP} {x:t.aq} {l:List Nat},(match avs with | [v]=>dV t v | _=>.none:az (Option (t.aq×List Nat))).run H=some (x,l)->hy H l:=by
  intro t _ avs x l h;split at h
  ·exact od h
  ·cases h
 intro t;induction t with
 | aG a b gn fh=>
  intro avs x l h;match avs with
  | []=>simp [j3,az.none] at h
  | v::avs=>
   simp only [j3,az.fR,Option.bind_eq_some_iff,az.bW,Option.some.injEq,Prod.mk.injEq] at h;obtain ⟨⟨y,m⟩,M,⟨z,dI⟩,aa,rfl,rfl⟩:=h;exact (od M).append (fh aa)
 | da=>
  intro avs x l h;match avs with
  | []=>
   simp only [j3,az.bW,Option.some.injEq,Prod.mk.injEq] at h;rw [<-h.2];exact .nil H
  | _::_=>simp [j3,az.none] at h
 | bool=>intro avs x l h;rw [lO rfl] at h;exact hs _ rfl h
 | int k=>intro avs x l h;rw [lO rfl] at h;exact hs (.int k) rfl h
 | str=>intro avs x l h;rw [lO rfl] at h;exact hs _ rfl h
 | st t _=>intro avs x l h;rw [lO rfl] at h;exact hs (.st t) rfl h
 | slice e _=>intro avs x l h;rw [lO rfl] at h;exact hs (.slice e) rfl h
 | array n e _=>intro avs x l h;rw [lO rfl] at h;exact hs (.array n e) rfl h
 | bQ e _=>intro avs x l h;rw [lO rfl] at h;exact hs (.bQ e) rfl h
 | map k v _ _=>intro avs x l h;rw [lO rfl] at h;exact hs (.map k v) rfl h
 | fn a b _ _=>intro avs x l h;rw [lO rfl] at h;exact hs (.fn a b) rfl h
 | cj a _=>intro avs x l h;rw [lO rfl] at h;exact hs (.cj a) rfl h
theorem aby {H:Nat->bS} {e:ai} {ps:List (Nat×aP)}:∀ (n i:Nat) {xs:List e.aq} {l:List Nat},(zf e ps i n).run H=some (xs,l)->hy H l:=by
 intro n;induction n with
 | zero=>intro i xs l h;cases h;exact .nil H
 | succ n aO=>
  intro i xs l h;simp only [zf,az.fR,Option.bind_eq_some_iff,az.bW,Option.some.injEq,Prod.mk.injEq] at h;obtain ⟨⟨x,m⟩,M,⟨bG,dI⟩,aa,rfl,rfl⟩:=h;refine hy.append ?_ (aO (i+1) aa);split at M
  ·exact od M
  ·simp only [az.bW,Option.some.injEq,Prod.mk.injEq] at M;rw [<-M.2];exact .nil H
theorem Rg {P:Program} {F F':Nat->Prop} {w w':World} {t:ai} {aH:List Value} {x:t.aq} (aR:t.pure=true) (h:gS P t F w aH x):gS P t F' w' aH x:=⟨h.1,JE t aR h.2⟩
theorem tR {P:Program} {H:Nat->bS} {κ:Nat->bD} {F:Nat->Prop} {w:World}:∀ (t:ai) {aH:List Value} {y:t.aq},gS P t F w aH y->t≠.da->aH.length=kK t/\∀ i,i<kK t->bw P H κ F w (k9 t y i) (aH.getD i Go.undef):=by
 intro t;induction t with
 | aG a b _ fh=>
  intro aH y h _;obtain ⟨v,us,rfl,M,aa⟩:=Qp h;by_cases af:b=.da
  ·subst af;have:us=[]:=aa.1;subst this;refine ⟨rfl,λi U=>?_⟩;cases i with
   | zero=>exact M
   | succ i=>simp only [kK] at U;omega
  ·obtain ⟨aS,aY⟩:=fh aa af;refine ⟨by simp [kK,aS],λi U=>?_⟩;cases i with
   | zero=>exact M
   | succ i=>
    have:=aY i (by simp only [kK] at U;omega);simpa [k9] using this
 | da=>simp
 | _=>
  intro aH y h _;obtain ⟨v,rfl,M⟩:=(BI rfl).1 h;refine ⟨rfl,λi U=>?_⟩;simp only [kK] at U;have:i=0:=by omega
  subst this;exact M
theorem Ch {P:Program} {H:Nat->bS} {κ:Nat->bD} {F:Nat->Prop} {w:World} {t:ai} {v:Value} {y:t.aq} (h:vn P t F w v y):bw P H κ F w (rk t y) v:=by
 have qi:=@tR P H κ F w;obtain ⟨aH,M,aa⟩:=h;cases t with
 | aG a b=>
  simp only [y3] at M;obtain ⟨aS,aY⟩:=qi (.aG a b) aa (by simp);exact ⟨aH,M,aS,aY⟩
 | da=>exact M.1
 | _=>
  obtain ⟨u,rfl,hu⟩:=(BI rfl).1 aa;have:v=u:=by simpa [y3,eq_comm] using M
  rw [this];exact hu
section
variable {C:cf} {T:Nat->ai} {bd:Nat->Option aU} {o:Oper} {s:aE} {res:fj}
theorem bl.Ci {a:Act} {w w':World} {κ:Nat->bD} {F:Nat->Prop} (h:bl C s a w κ F) (af:Below w.heap.size w w'):bl C s a w' κ (y4 F w w'):=by
 have he:c6 F w w':=⟨af.size,λr W=>af.block r (h.dM r W)⟩
 refine h.move (H':=s.ag) (gT.refl _ _) (λ_ W=>.inl W) (λr W=>W.imp id λW=>.inr W.1) af.size (λr W _=>af.block r W) ⟨af.os,af.tape,af.output⟩ (λ_=>?_) ?_ h.inj ?_ (λ_ _ h=>⟨rfl,h⟩)
 ·intro b;exact cO.mA (h.bI b) (gT.refl _ _) (λ_ W=>.inl W) he rfl rfl λal=>af.block _ (h.ad b al).1
 ·intro b al;have:=h.ad b al;refine ⟨Nat.lt_of_lt_of_le this.1 af.size,λax=>?_,.inl ⟨b,al,rfl⟩⟩;rcases ax with ax | ⟨ax,_⟩
  ·exact this.2.1 ax
  ·omega
 ·intro r W;rcases W with W | ⟨_,W⟩
  ·exact Nat.lt_of_lt_of_le (h.dM r W) af.size
  omega
theorem Fq {r:Option Nat} {P:Program} {o:Oper} {a:Act} {w:World} {K:Act->World->Prop} {Q:Exit->Act->World->Prop} {f:FuncId} {args:Array Value} {R:Ending->World->Prop} (aN:∀ c,o.op≠.defer c)
  (h:(execOp a.eval o).run P w=.ok (.enter f args) w) (hc:Calls P f args w R) (ak:∀ e w',R e w'->∃ v,e=.returned v/\K (a.put o.dst v) w'):o.wpIn (eX r) 0 P a w K Q:=by
 refine ⟨λ_ _=>trivial,?_⟩;rw [zm aN,h];refine ⟨λaA=>(by cases aA),?_⟩;have M:CallsIn Fence.wide 0 P f args w R:=callsIn_wide.2 hc;have aa:CallsIn (eX r) 0 P f args w R:=by
  cases r with
  | none=>exact M
  | some l=>exact CallsIn.inRound l M
 refine aa.mono λe w' he=>?_;grind
theorem Rh {a:Act} {w:World} {κ:Nat->bD} {F:Nat->Prop} {Q:Exit->Act->World->Prop} {K:Act->World->Prop} {k:FuncId} {ts a5:ai} {sh:ts.aq->A a5.aq} (W:bl C s a w κ F) (ax:jk C.P k ts a5 sh)
  (bh:∀ i,o.dst=some i->i<C.nt) {args:Array Operand} {dN:Array TypeId} (al:o.op=.call { callee:=.value (.func k),args:=args,argTypes:=dN }) (be:k_ (args.toList.map (a_ C.aZ s.aD))) {x:ts.aq} {l:List Nat}
  (au:(j3 ts ((args.toList.map (a_ C.aZ s.aD)).map λv=>(use v).2)).run s.ag=some (x,l)) (aA:(sh x).dU)
  (ak:∀ y w',(sh x).bP y->∀ v,cG C ((if a5.pure then s else s.cL l).set o.dst (rk a5 y)) (a.put o.dst v) w'->K (a.put o.dst v) w'):o.wpIn (eX C.r) 0 C.P a w K Q:=by
 have aN:∀ c,o.op≠.defer c:=by grind
 obtain ⟨args⟩:=args;have dj:(execOp a.eval o).run C.P w=.ok (.enter k (args.map a.eval).toArray) w:=by
  simp only [execOp,al,Sem.run_bind,resolve,Act.eval,Deferred.ofValue,Sem.run_pure,Result.andThen_ok,invoke];have:=ax.enter (args.map a.eval).toArray w;grind
 obtain ⟨F',f1,bc,f2⟩:=bl.mH (qt ts au) W;have ep:gS C.P ts F' w (args.map a.eval) x:=by
  refine vF W.bI f1 ts au f2 (by simp) λi U eA=>?_;simp only [List.getElem_map];have e1:i<args.length:=by grind
  have M:=sq be i (by grind);have aK:(args.map (a_ C.aZ s.aD)).getD i .undef=a_ C.aZ s.aD args[i]:=by grind
  rw [show (List.map (a_ C.aZ s.aD) (⟨args⟩:Array Operand).toList)=args.map (a_ C.aZ s.aD) from rfl,aK] at M;exact pz (kN W args[i]) M
 refine Fq aN dj (ax.mZ F' w _ x bc.dM ep aA) λe w' ⟨v,y,he,aJ,g1,af⟩=>⟨v,he,ak y w' aJ v ?_⟩
 by_cases ar:a5.pure=true
 ·rw [if_pos ar];have aL:=W.Ci af;refine ⟨κ,_,aL.set bh (Ch ?_)⟩;obtain ⟨aH,db,dR⟩:=g1;exact ⟨aH,db,Rg ar dR⟩
 ·rw [if_neg ar];have aL:=bc.Ci af;exact ⟨κ,_,aL.set bh (Ch g1)⟩
theorem abz (c0:kP C.P bd) {k:FuncId} {args:Array Operand} {dN:Array TypeId} (bh:∀ i,o.dst=some i->i<C.nt) (al:o.op=.call { callee:=.value (.func k),args:=args,argTypes:=dN }) (h:(bo C.aZ T bd (a_ C.aZ s.aD) o).run s.ag=some res):cK C o s res:=by
 simp only [bo,al,ny,Fa] at h;split at h
 ·rename_i c hc;simp only [az.fR,Option.bind_eq_some_iff,az.run_bind,az.bW,Option.some.injEq] at h;obtain ⟨⟨x,l⟩,au,rfl⟩:=h;intro a w κ F Q W be hh;refine Rh W (c0 k c hc) bh al be au hh λy w' aJ v kQ=>?_;have aJ:y=c.g x:=aJ;subst aJ;have e:∀ (r:az (List (Nat×bS))),r=(if c.a5.pure then .ret [] else kL l)->s.gV (r.run s.ag)=(if c.a5.pure then s else s.cL l):=by
   intro r W;subst W;split
   ·rfl
   ·exact vx s l
  simp only [aE.i_];grind
 ·cases h
theorem abA {P:Program} {H:Nat->bS} {κ:Nat->bD} {F F':Nat->Prop} {w:World} (a6:∀ b,cO P H κ F w b) (bB:∀ r,F r->F' r) {e:ai} {zero:List Value} (bm:bM P e F' w zero e.ee) {ps:List (Nat×aP)} {qs:List (Nat×Value)} (hlen:ps.length=qs.length)
  (gv:∀ i (h:i<ps.length) (dx:i<qs.length),ps[i].1=qs[i].1/\bw P H κ F w ps[i].2 qs[i].2):∀ (n i:Nat) {xs:List e.aq} {l:List Nat},(zf e ps i n).run H=some (xs,l)->
  jJ H κ F' l->xs.length=n/\∀ j (h:j<xs.length),∃ bn,bM P e F' w bn xs[j]/\(match qs.find? (λp=>p.1 == i+j) with | some q=>bn=q.2.cells.toList | none=>bn=zero):=by
 have find:∀ (ps:List (Nat×aP)) (qs:List (Nat×Value)),ps.length=qs.length->(∀ i (h:i<ps.length) (dx:i<qs.length),ps[i].1=qs[i].1/\bw P H κ F w ps[i].2 qs[i].2)->∀ i,(ps.find? (λp=>p.1 == i)=none/\qs.find? (λp=>p.1 == i)=none)\/∃ p q,ps.find? (λp=>p.1 == i)=some p/\qs.find? (λp=>p.1 == i)=some q/\bw P H κ F w p.2 q.2:=by
  intro ps;induction ps with
  | nil=>grind
  | cons p ps aO=>
   intro qs aw h i;cases qs with
   | nil=>grind
   | cons q qs=>
    have aW:=h 0 (by simp) (by simp);simp only [List.getElem_cons_zero] at aW;by_cases ar:p.1=i
    ·grind
    ·have bt:q.1≠i:=by omega
     have:=aO qs (by grind) (λj aC gU=>by have:=h (j+1) (by grind) (by grind);grind) i;grind
 intro n;induction n with
 | zero=>intro i xs l h _;cases h;simp
 | succ n aO=>
  intro i xs l h aw;simp only [zf,az.fR,Option.bind_eq_some_iff,az.bW,Option.some.injEq,Prod.mk.injEq] at h;obtain ⟨⟨x,m⟩,M,⟨bG,dI⟩,aa,rfl,rfl⟩:=h;obtain ⟨aS,aY⟩:=aO (i+1) aa aw.right;refine ⟨by grind,λj aC=>?_⟩;cases j with
  | zero=>
   rcases find ps qs hlen gv i with ⟨f1,f2⟩ | ⟨p,q,f1,f2,f3⟩
   ·rw [f1] at M;simp only [az.bW,Option.some.injEq,Prod.mk.injEq] at M;grind
   ·rw [f1] at M;refine ⟨q.2.cells.toList,(n9 a6 bB M aw.left f3).2,?_⟩;grind
  | succ j=>
   obtain ⟨bn,d1,d2⟩:=aY j (by grind);grind
end
end Go.Fer
namespace Go.Fer
open Go.RowKit
def su (d:Nat) (em:Bool) (xs:Array Value):List Field->Sem Unit
 | []=>pure ()
 | f::fr=>
  if f.name ≠ "_" then do
   let a <-part f.type xs f.offset
   Instr.checkKey em d f.type a
   su d em xs fr
  else su d em xs fr
theorem abB {P:Program} (w:World) (em:Bool) (d:Nat) (t:TypeId) (xs:Array Value) (aR:P.underlying t=some (.struct (P.fieldsOf t))) :
  (Instr.checkKey em (d+1) t (.agg xs)).run P w=(su d em xs (P.fieldsOf t).toList).run P w:=by
 simp only [Instr.checkKey,Sem.run_bind,dW aR,Result.andThen_ok];rw [<-Array.forIn_toList];generalize (P.fieldsOf t).toList=fr;clear aR;induction fr generalizing w with
 | nil=>rfl
 | cons f fr aO=>
  simp only [List.forIn_cons,su,Sem.run_bind,Sem.run_ite];split
  ·generalize (part f.type xs f.offset).run P w=b4;cases b4 with
   | ok a cn=>
    simp only [Result.andThen_ok];generalize (Instr.checkKey em d f.type a).run P cn=ct;cases ct with
    | ok b c8=>
     simp_all
    | halt x c8=>rfl
   | halt x cn=>rfl
  simp_all
theorem Cj {P:Program} {F:Nat->Prop} {w:World} {em:Bool}:∀ (t:ai) (d:Nat),t.lF=true->t.kM<=d->
  (∀ {id:TypeId} {v:Value} {x:t.aq},ca P t id->eU P t F w v x->(Instr.checkKey em d id v).run P w=.ok () w)/\
  (∀ {l:List Field} {off:Nat} {xs:Array Value} {p c q:List Value} {x:t.aq},cx P t (.inr (l,off))=true->xs.toList=p++(c++q)->p.length=off->bM P t F w c x->
   (su d em xs l).run P w=.ok () w):=by
 intro t;induction t with
 | bool=>
  intro d _ aN;refine ⟨λ{id v x} h M=>?_,λh=>by simp [cx] at h⟩;rw [gh.1 M];obtain ⟨d,rfl⟩:∃ e,d=e+1:=⟨d - 1,by simp only [ai.kM] at aN;omega⟩
  unfold ca at h;simp only [cx,Bool.and_eq_true] at h;obtain ⟨_,h⟩:=h;split at h
  ·rename_i hu;simp [Instr.checkKey,dW hu]
  grind
 | int k=>
  intro d _ aN;refine ⟨λ{id v x} h M=>?_,λh=>by simp [cx] at h⟩;rw [(hZ.1 M).1];obtain ⟨d,rfl⟩:∃ e,d=e+1:=⟨d - 1,by simp only [ai.kM] at aN;omega⟩
  simp [Instr.checkKey,dW (ca.int h)]
 | str=>
  intro d _ aN;refine ⟨λ{id v x} h M=>?_,λh=>by simp [cx] at h⟩;rw [(qf.1 M).1];obtain ⟨d,rfl⟩:∃ e,d=e+1:=⟨d - 1,by simp only [ai.kM] at aN;omega⟩
  simp [Instr.checkKey,dW (ca.str h)]
 | da=>intro d h;cases h
 | slice e _=>intro d h;cases h
 | array n e _=>intro d h;cases h
 | bQ e _=>intro d h;cases h
 | map k v _ _=>intro d h;cases h
 | fn a b _ _=>intro d h;cases h
 | cj a _=>intro d h;cases h
 | aG a b gn fh=>
  intro d hc aN;simp only [ai.lF,Bool.and_eq_true] at hc;simp only [ai.kM] at aN;have JP:=gn d hc.1 (by omega);have pr:=fh d hc.2 (by omega);refine ⟨λh=>by unfold ca at h;simp [cx] at h,?_⟩;intro l off xs p c q x h au ar pA;simp only [bM] at pA;obtain ⟨bH,b2,rfl,aS,aY⟩:=pA;have eS:=jj a aS;have step : ∀ (f : Field) (bZ : List Field), f.offset = off -> ca P a f.type -> f.name ≠ "_" -> (su d em xs (f :: bZ)).run P w = (su d em xs bZ).run P w := by
   intro f bZ al ax aI;obtain ⟨v,b4,ct⟩:=rp (cs:=xs) (p:=p) (c:=bH) (q:=b2++q) ax (by grind) aS;simp only [su,aI,ne_eq,not_false_eq_true,if_true,Sem.run_bind];rw [al,<-ar,b4,Result.andThen_ok,JP.1 ax ct,Result.andThen_ok]
  match l,h with
  | [],h=>rfl
  | [f],h=>simp only [cx,Bool.false_eq_true] at h
  | [f,g],h=>
   simp only [cx,Bool.and_eq_true,beq_iff_eq,bne_iff_ne,ne_eq] at h;obtain ⟨⟨⟨⟨M,aa⟩,an⟩,a8⟩,⟨⟨⟨bV,d_⟩,hL⟩,mw⟩⟩:=h;rw [step f [g] M aa a8];obtain ⟨v,b4,ct⟩:=rp (cs:=xs) (p:=p++bH) (c:=b2) (q:=q) d_ (by grind) aY;have aK:(p++bH).length=g.offset:=by grind
   rw [aK] at b4;simp only [su,mw,ne_eq,not_false_eq_true,if_true,Sem.run_bind,b4,Result.andThen_ok,pr.1 d_ ct,Sem.run_pure]
  | f::g::i::l,h=>
   simp only [cx,Bool.and_eq_true,beq_iff_eq,bne_iff_ne,ne_eq] at h;obtain ⟨⟨⟨⟨M,aa⟩,an⟩,a8⟩,bV⟩:=h;rw [step f _ M aa a8,pr.2 bV (p:=p++bH) (c:=b2) (q:=q) (by grind) (by grind) aY]
 | st t aO=>
  intro d hc aN;simp only [ai.kM] at aN;obtain ⟨d,rfl⟩:∃ e,d=e+1:=⟨d - 1,by omega⟩
  refine ⟨λ{id v x} h M=>?_,λh=>by simp [cx] at h⟩;have i:=aO d hc (by omega);obtain ⟨aK,bq,cF,hd⟩:=h.BZ;obtain ⟨⟨xs,rfl,jK⟩,pA⟩:=M;simp only [Value.cells,bM] at pA;rw [abB w em d id xs hd];rcases cF with cF | ⟨f,cF,j0,qh,JQ⟩ | ⟨rfl,cF⟩
  ·exact i.2 cF (p:=[]) (c:=xs.toList) (q:=[]) (by simp) rfl pA
  ·rw [cF];obtain ⟨v,b4,ct⟩:=rp (cs:=xs) (p:=[]) (c:=xs.toList) (q:=[]) qh (by simp) pA;simp only [List.length_nil] at b4;simp only [su,JQ,ne_eq,not_false_eq_true,if_true,Sem.run_bind,j0,b4,Result.andThen_ok,i.1 qh ct,Sem.run_pure]
  ·cases hc
theorem Kd:∀ (t:ai),t.lF=true->∀ (x y:t.aq),hv t x y=true<->x=y:=by
 intro t;induction t with
 | bool=>intro _ x y;simp [hv]
 | int k=>intro _ x y;simp [hv]
 | str=>intro _ x y;simp [hv]
 | st t aO=>intro h x y;exact aO h x y
 | aG a b gn fh=>
  intro h x y;simp only [ai.lF,Bool.and_eq_true] at h;simp only [hv,Bool.and_eq_true,gn h.1,fh h.2];grind
 | _=>intro h;cases h
def zC {k:ai} {β:Type} (x:k.aq) (es:List MapEntry) (xs:List (k.aq×β)) (i:Nat) (r:Option (Nat×Value)):Prop:=
 (r=none/\∀ p∈xs,hv k x p.1=false)\/∃ j e p,es[j]?=some e/\xs[j]?=some p/\hv k x p.1=true/\(∀ kO q,kO<j->xs[kO]?=some q->hv k x q.1=false)/\r=some (i+j,e.val)
theorem zC.next {k:ai} {β:Type} {x:k.aq} {e:MapEntry} {es:List MapEntry} {p:k.aq×β} {xs:List (k.aq×β)} {i:Nat} {r:Option (Nat×Value)} (h:zC x es xs (i+1) r) (ar:hv k x p.1=false):zC x (e::es) (p::xs) i r:=by
 rcases h with ⟨M,aa⟩ | ⟨j,a9,p',M,aa,an,a8,bV⟩
 ·exact .inl ⟨M,λq bt=>by
   grind⟩
 ·refine .inr ⟨j+1,a9,p',by grind,by grind,an,λkO q gU bt=>?_,by grind⟩;grind
theorem Ri {P:Program} {F:Nat->Prop} {w:World} {k:ai} {β:Type} (hc:k.lF=true) (aI:k.kM<=10000) {l_:TypeId} (ak:ca P k l_) {tS:Value} {x:k.aq} (au:eU P k F w tS x):∀ (es:List MapEntry) (xs:List (k.aq×β)) (i:Nat),es.length=xs.length->(∀ (j:Nat) (e:MapEntry) (p:k.aq×β),es[j]?=some e->xs[j]?=some p->eU P k F w e.key p.1)->∃ r,(Instr.findAsking l_ tS es i).run P w=.ok r w/\zC x es xs i r
 | [],[],i,_,_=>⟨none,rfl,.inl ⟨rfl,λp ar=>by cases ar⟩⟩
 | e::es,p::xs,i,aw,h=>by
  have aW:=h 0 e p rfl rfl;have he:=(JO k 10000 hc aI).1 ak au aW;obtain ⟨r,b4,ct⟩:=Ri (β:=β) hc aI ak au es xs (i+1) (by grind) λj a9 p' M aa=>h (j+1) a9 p' (by grind) (by grind);cases bt:hv k x p.1 with
  | true=>
   refine ⟨some (i,e.val),by simp [Instr.findAsking,Op.equal,Op.maxDepth,he,bt],.inr ⟨0,e,p,rfl,rfl,bt,λkO q gU=>by omega,rfl⟩⟩
  | false=>exact ⟨r,by simp [Instr.findAsking,Op.equal,Op.maxDepth,he,bt,b4],ct.next bt⟩
theorem Rj {P:Program} {F:Nat->Prop} {w:World} {k:ai} {l_:TypeId} (ak:ca P k l_) {d:TypeDesc} (aN:P.underlying l_=some d) {u v:Value} {x y:k.aq} (hu:eU P k F w u x) (aj:eU P k F w v y) {b:Bool} (h:Instr.sameNow d u v=some b):b=hv k x y:=by
 cases k with
 | bool=>
  rw [gh.1 hu,gh.1 aj] at h;cases d<;>simp only [Instr.sameNow,Option.some.injEq,reduceCtorEq] at h;rw [<-h];rfl
 | int k=>
  rw [(hZ.1 hu).1,(hZ.1 aj).1] at h;cases d<;>simp only [Instr.sameNow,if_true,Option.some.injEq,reduceCtorEq] at h;rw [<-h];rfl
 | str=>
  rw [(qf.1 hu).1,(qf.1 aj).1] at h;cases d<;>simp only [Instr.sameNow,Option.some.injEq,reduceCtorEq] at h;rw [<-h,beq_toListBytes,ByteArray.toList_eq,ByteArray.toList_eq];simp only [hv];grind
 | st t=>
  obtain ⟨⟨us,rfl,_⟩,_⟩:=hu;cases d<;>cases v<;>simp [Instr.sameNow] at h
 | array n t=>
  obtain ⟨⟨us,rfl,_⟩,_⟩:=hu;cases d<;>cases v<;>simp [Instr.sameNow] at h
 | da=>exact hu.1.elim
 | aG a b=>exact hu.1.elim
 | slice e=>
  obtain ⟨_,a,cap,aK,_⟩:=(fa rfl).1 hu;obtain rfl:=(List.cons.inj aK).1;cases d<;>simp [Instr.sameNow] at h
 | bQ e=>
  obtain ⟨_,au⟩:=(fa rfl).1 hu;rcases au with ⟨aK,_⟩ | ⟨p,y,bn,aK,_⟩<;>(obtain rfl:=(List.cons.inj aK).1;cases d<;>simp [Instr.sameNow] at h)
 | map k' iL=>
  obtain ⟨_,au⟩:=(fa rfl).1 hu;rcases au with ⟨aK,_⟩ | ⟨r,es,clk,aK,_⟩<;>(obtain rfl:=(List.cons.inj aK).1;cases d<;>simp [Instr.sameNow] at h)
 | fn a b=>
  obtain ⟨i,z,M,aa,an,a8,bV,d_⟩:=mE ak.mD;unfold ca at ak;simp only [cx,Bool.and_eq_true,aN] at ak;cases d<;>simp [Instr.sameNow] at ak h
 | cj a=>
  obtain ⟨i,z,M,aa,an,a8,bV,d_⟩:=mE ak.mD;unfold ca at ak;simp only [cx,Bool.and_eq_true,aN] at ak;cases d<;>simp [Instr.sameNow] at ak h
theorem Rk {P:Program} {F:Nat->Prop} {w:World} {k:ai} {β:Type} {l_:TypeId} (ak:ca P k l_) {d:TypeDesc} (aN:P.underlying l_=some d) {tS:Value} {x:k.aq} (au:eU P k F w tS x):∀ (es:List MapEntry) (xs:List (k.aq×β)) (i:Nat) {r:Option (Nat×Value)},es.length=xs.length->(∀ (j:Nat) (e:MapEntry) (p:k.aq×β),es[j]?=some e->xs[j]?=some p->eU P k F w e.key p.1)->Instr.findNow d tS es i=some r->zC x es xs i r
 | [],[],i,r,_,_,h=>by cases h;exact .inl ⟨rfl,λp ar=>by cases ar⟩
 | e::es,p::xs,i,r,aw,h,ax=>by
  have aW:=h 0 e p rfl rfl;simp only [Instr.findNow] at ax;split at ax
  ·rename_i aA;have:=Rj ak aN au aW aA;cases ax;exact .inr ⟨0,e,p,rfl,rfl,this.symm,λkO q gU=>by omega,rfl⟩
  ·rename_i aA;have:=Rj ak aN au aW aA;exact (Rk ak aN au es xs (i+1) (by grind) (λj a9 p' M aa=>h (j+1) a9 p' (by grind) (by grind)) ax).next this.symm
  grind
theorem ca.abC {P:Program} {t:ai} {id:TypeId} (h:ca P t id) (hc:t.lF=true):∃ d,P.underlying id=some d:=by
 cases t with
 | bool=>
  unfold ca at h;simp only [cx,Bool.and_eq_true] at h;grind
 | int k=>exact ⟨_,ca.int h⟩
 | str=>exact ⟨_,ca.str h⟩
 | st t=>exact ⟨_,h.BZ.2.2.2⟩
 | aG a b=>unfold ca at h;simp [cx] at h
 | _=>cases hc
theorem xf {P:Program} {F:Nat->Prop} {w:World} {k:ai} {β:Type} (hc:tH k=true) {l_:TypeId} (ak:ca P k l_) {tS:Value} {x:k.aq} (au:eU P k F w tS x) {es:List MapEntry} {xs:List (k.aq×β)}
  (aw:es.length=xs.length) (h:∀ (j:Nat) (e:MapEntry) (p:k.aq×β),es[j]?=some e->xs[j]?=some p->eU P k F w e.key p.1):∃ r,(Instr.findKey l_ tS es).run P w=.ok r w/\zC x es xs 0 r:=by
 simp only [tH,Bool.and_eq_true,decide_eq_true_eq] at hc;obtain ⟨d,aN⟩:=ak.abC hc.1;simp only [Instr.findKey,Sem.run_bind,dW aN,Result.andThen_ok];cases aI:Instr.findNow d tS es 0 with
 | some r=>exact ⟨r,rfl,Rk ak aN au es xs 0 aw h aI⟩
 | none=>exact Ri hc.1 (by omega) ak au es xs 0 aw h
theorem Rl {k v:ai} {es:List (k.aq×v.aq)} {x:k.aq}:∀ {j:Nat} {p:k.aq×v.aq},es[j]?=some p->hv k x p.1=true->(∀ kO q,kO<j->es[kO]?=some q->hv k x q.1=false)->zg es x=some p.2/\∀ y,m4 es x y=es.set j (p.1,y):=by
 induction es with
 | nil=>simp
 | cons q es aO=>
  intro j p M aa an;cases j with
  | zero=>
   simp at M;subst M;exact ⟨by simp [zg,aa],λy=>by simp [m4,aa]⟩
  | succ j=>
   have aW:=an 0 q (by omega) rfl;obtain ⟨aS,aY⟩:=aO (j:=j) (p:=p) (by grind) aa λkO q' gU vG=>an (kO+1) q' (by omega) (by grind);exact ⟨by simpa [zg,List.find?_cons,aW] using aS,λy=>by simp [m4,aW,aY y]⟩
theorem Rm {k v:ai} {es:List (k.aq×v.aq)} {x:k.aq} (h:∀ p∈es,hv k x p.1=false):zg es x=none/\∀ y,m4 es x y=es++[(x,y)]:=by
 induction es with
 | nil=>exact ⟨rfl,λ_=>rfl⟩
 | cons q es aO=>
  have aW:=h q (by simp);obtain ⟨aS,aY⟩:=aO λp ar=>h p (by grind);exact ⟨by simpa [zg,List.find?_cons,aW] using aS,λy=>by simp [m4,aW,aY y]⟩
section
variable {C:cf} {T:Nat->ai} {bd:Nat->Option aU} {o:Oper} {s:aE} {res:fj}
theorem abD {P:Program} {F:Nat->Prop} {w:World} {v:ai} {z:Value} (aj:v.fE=true\/v.isAgg=true) (i5:k8 v z.cells.toList=some []) (i6:(∃ cs,z=.agg cs)<->v.isAgg=true):eU P v F w z v.ee:=by
 obtain ⟨c,e,lH,jL⟩:=w8 (P:=P) (H:=λ_=>⟨0,.gK⟩) (κ:=λ_=>⟨0,0,0,true⟩) (F:=F) (w:=w) v i5;rw [List.append_nil] at e;refine ⟨?_,by grind⟩;have aw:=jj v lH;rcases aj with aj | aj
 ·obtain ⟨u,rfl,hu⟩:=EX aj lH;have ast:∀ cs,z≠.agg cs:=λcs bm=>by
   have:=i6.1 ⟨cs,bm⟩;cases v<;>simp [ai.fE,ai.isAgg] at aj this
  have bm:z.cells=#[z]:=by
   cases z<;>first | rfl | grind
  cases v<;>simp only [ai.fE,Bool.false_eq_true] at aj<;>exact bm
 ·obtain ⟨cs,rfl⟩:=i6.2 aj;have a9:cs.toList=c:=e;cases v<;>simp only [ai.isAgg,Bool.false_eq_true] at aj
  ·exact ⟨cs,rfl,by rw [<-Array.length_toList,a9,aw];rfl⟩
  ·exact ⟨cs,rfl,by rw [<-Array.length_toList,a9,aw];rfl⟩
def Ke (P:Program) (k v:ai) (F:Nat->Prop) (w:World) (ms:List MapEntry) (xs:List (k.aq×v.aq)):Prop:=
 ms.length=xs.length/\∀ (j:Nat) (e:MapEntry) (p:k.aq×v.aq),ms[j]?=some e->xs[j]?=some p->eU P k F w e.key p.1/\eU P v F w e.val p.2
theorem vo.es {P:Program} {k v:ai} {F:Nat->Prop} {w:World} {ms:Array MapEntry} {clk:Nat} {xs:List (k.aq×v.aq)} (h:vo P k v F w ms clk xs):Ke P k v F w ms.toList xs:=by
 obtain ⟨M,aa,an,a8⟩:=h;refine ⟨by omega,λj e p he ar=>?_⟩;obtain ⟨aC,rfl⟩:=List.getElem?_eq_some_iff.1 ar;obtain ⟨gU,rfl⟩:=List.getElem?_eq_some_iff.1 he;obtain ⟨a,b,c,d,_⟩:=an j aC (by omega);exact ⟨⟨a,by grind⟩,c,by grind⟩
theorem abE {a:Act} {w:World} {κ:Nat->bD} {F:Nat->Prop} (W:bl C s a w κ F) {k v:ai} {av:aP} {u:Value} {xs:List (k.aq×v.aq)} (h:(BW k v av).run s.ag=some xs) (hu:bw C.P s.ag κ F w av u) :
  (u=.map none/\xs=[])\/∃ r ms clk,u=.map (some r)/\w.heap[r]?=some (.map ms clk)/\Ke C.P k v F w ms.toList xs:=by
 have cL:∀ {xs:List (k.aq×v.aq)},bM C.P (.map k v) F w [u] xs->(u=.map none/\xs=[])\/∃ r ms clk,u=.map (some r)/\w.heap[r]?=some (.map ms clk)/\Ke C.P k v F w ms.toList xs:=by
  intro xs au;rcases au with ⟨aK,bq⟩ | ⟨r,ms,clk,aK,M,aa,an,a8,bV,d_⟩
  ·grind
  ·exact .inr ⟨r,ms,clk,(List.cons.inj aK).1,aa,vo.es ⟨an,a8,bV,d_⟩⟩
 cases av with
 | val t es=>
  simp only [BW,az.bW] at h;exact cL ((fa rfl).1 (E4 h hu)).2
 | kj x=>
  simp only [bw] at hu;subst hu;have au:u=.map none/\xs=[]:=by
   unfold BW at h;split at h
   ·grind
   ·simp_all
   ·grind
   ·cases h
  grind
 | dQ b g=>
  simp only [BW,az.gr,az.bW] at h;split at h
  ·rename_i aL;have a6:=W.bI b;unfold cO at a6;split at h
   ·rename_i k' iL es af;obtain ⟨e,rfl⟩:=lD h;cases e;rw [af] at a6;obtain ⟨ms,clk,M,aa⟩:=a6;exact .inr ⟨_,ms,clk,hu.2 aL.symm (by rw [af];rfl),M,aa.es⟩
   ·rename_i k' iL es af;obtain ⟨e,rfl⟩:=lD h;cases e;rw [af] at a6;have:=hu.2 aL.symm (by rw [af];rfl);simp only [k5] at a6;grind
   grind
  grind
 | _=>cases h
theorem abF {ty:TypeId} {r:Option Operand} (bh:∀ i,o.dst=some i->i<C.nt) (al:o.op=.makeMap ty r) (h:(bo C.aZ T bd (a_ C.aZ s.aD) o).run s.ag=some res):cK C o s res:=by
 simp only [bo,al] at h;split at h
 ·cases h
 ·rename_i Rn;have Rn:r=none:=by simp_all
  subst Rn;split at h
  ·rename_i k v aR;obtain ⟨b,aN,ak⟩:=sn h;simp only [Option.some.injEq] at ak;subst ak;intro a w κ F Q W _ _;have dj:(execOp a.eval o).run C.P w=.ok (.value (.map (some w.heap.size))) (w.alloc (.map #[] 0)):=by
    simp [execOp,al,Instr.makeMap]
   have M:=W.alloc (b:=b) (x:=⟨(s.ag b).gen+1,.mp k v []⟩) (W.mI (bh b aN)) (Nat.lt_succ_self _) (o:=.map #[] 0) (k:=⟨w.heap.size,0,0,false⟩) rfl λH κ' _ _ _=>
    ⟨#[],0,ri _ _,rfl,by simp,λi U=>by simp,λi j U=>by simp⟩
   refine h1 (by grind) dj ⟨_,F,bl.set (s:=s.cy b _) M bh ⟨⟨by simp [aE.cy],rfl⟩,λ_ _=>by simp⟩⟩
  ·cases h
theorem abG (a2:eO C.P T) {ty:TypeId} {m x:Operand} {ok:Bool} (bh:∀ i,o.dst=some i->i<C.nt) (al:o.op=.lookup ty m x ok) (h:(bo C.aZ T bd (a_ C.aZ s.aD) o).run s.ag=some res):cK C o s res:=by
 simp only [bo,al,zh] at h;split at h
 ·rename_i k v aR;split at h
  ·rename_i hc;simp only [Bool.and_eq_true,Bool.or_eq_true] at hc;obtain ⟨i,j,U,km,hP⟩:=(a2.cb aR (by simp)).mp;simp only [az.fR,Option.bind_eq_some_iff,bR,az.bW,Option.some.injEq] at h;obtain ⟨es,pB,⟨y,l⟩,aJ,rfl⟩:=h;refine cK.pure (by grind) bh λa w κ F W be _=>?_;have hm:=cU W m rfl be.1;have au:=B2 W aJ (cU W x rfl be.2);obtain ⟨inf,z,i1,i2,i3,i4,i5,i6⟩:=mE hP.mD;have hzero:eU C.P v F w z v.ee:=abD hc.2 i5 i6;have fin:∀ (u:Value) (q:Option v.aq),eU C.P v F w u (q.getD v.ee)->bw C.P s.ag κ F w (QH v q ok) (if ok=true then .tuple #[u,.bool q.isSome] else u):=by
    intro u q an;cases ok with
    | true=>
     refine ⟨[u,.bool q.isSome],rfl,rfl,λi U=>?_⟩;match i,U with
     | 0,_=>exact an
     | 1,_=>exact gh.2 rfl
    | false=>exact an
   have m0:tH k=true:=hc.1;have fW:k.lF=true/\k.kM<=100:=by simpa [tH] using m0
   rcases abE W pB hm with ⟨hu,aI⟩ | ⟨r,ms,clk,hu,hw,lP⟩
   ·subst aI;have er:=(Cj (em:=true) k 10000 fW.1 (by omega)).1 km au;obtain ⟨f,f1,f2⟩:=xf (β:=v.aq) (xs:=[]) (es:=[]) m0 km au rfl (λj e p h=>by cases h);rcases f2 with ⟨rfl,_⟩ | ⟨j,e,p,M,_⟩
    ·refine ⟨_,?_,fin z none hzero⟩;simp only [execOp,al,hu,Instr.lookup,Sem.run_bind,dW U,Result.andThen_ok,Sem.run_pure];simp only [show (#[]:Array MapEntry).isEmpty=true from rfl,er,Result.andThen_ok,f1];cases ok<;>simp [sm i1 i4]
    grind
   ·have er:=(Cj (em:=ms.isEmpty) k 10000 fW.1 (by omega)).1 km au;obtain ⟨f,f1,f2⟩:=xf (β:=v.aq) (xs:=es) (es:=ms.toList) m0 km au lP.1 (λj e p M aa=>by
     have:=(lP.2 j e p M aa).1;exact ⟨this.1,gp k (λ_ _=>trivial) (c6.refl F w) this.2⟩)
    have fU:(getObj r).run C.P w=.ok (.map ms clk) w:=by simp [getObj,Sem.run,hw]
    rcases f2 with ⟨rfl,cI⟩ | ⟨j,e,p,M,aa,an,a8,rfl⟩
    ·refine ⟨_,?_,by rw [(Rm cI).1];exact fin z none hzero⟩;simp only [execOp,al,hu,Instr.lookup,Sem.run_bind,dW U,Result.andThen_ok,Sem.run_pure,fU,er,f1,sm i1 i4];rfl
    ·refine ⟨_,?_,by rw [(Rl aa an a8).1];exact fin e.val (some p.2) (lP.2 j e p M aa).2⟩;simp only [execOp,al,hu,Instr.lookup,Sem.run_bind,dW U,Result.andThen_ok,Sem.run_pure,fU,er,f1];rfl
  ·cases h
 ·cases h
theorem Kf (P:Program) (w:World) (vD e7:Value):∃ k' w',(Instr.keyThatStays vD e7).run P w=.ok k' w'/\(k'=e7\/k'=vD)/\(w'=w\/w'=w.drew):=by
 unfold Instr.keyThatStays;split
 ·exact ⟨e7,w,rfl,.inl rfl,.inl rfl⟩
 ·have ax : (Question.extern "map.whichKeyStays" 2).forced = false := rfl;simp only [Sem.run_bind,run_choose,ax,Bool.false_eq_true,if_false,Result.andThen_ok];split
  ·exact ⟨e7,_,rfl,.inl rfl,.inr rfl⟩
  ·exact ⟨vD,_,rfl,.inr rfl,.inr rfl⟩
theorem sv {P:Program} {w:World} {r:Nat} {es:Array MapEntry} {clk:Nat} (h:w.heap[r]?=some (.map es clk)) (o:Obj):(setObj r o).run P w=.ok () { w with heap:=w.heap.setIfInBounds r o }:=by
 simp [setObj,Sem.run,h]
theorem Kg (a2:eO C.P T) {ty:TypeId} {m x y:Operand} (abH:o.dst=none) (al:o.op=.mapUpdate ty m x y\/o.op=.insert ty m x y) (h:(bo C.aZ T bd (a_ C.aZ s.aD) o).run s.ag=some res):cK C o s res:=by
 have aN:∀ c,o.op≠.defer c:=by grind
 have oO:∀ aQ,bo C.aZ T bd aQ o=rm T aQ ty m x y:=λaQ=>by rcases al with al | al<;>simp only [bo,al]
 have hex:∀ aQ w,(execOp aQ o).run C.P w=(do Instr.mapUpdate ty (aQ m) (aQ x) (aQ y);pure .skip:Sem Next).run C.P w:=λaQ w=>by rcases al with al | al<;>simp only [execOp,al]
 rw [oO] at h;simp only [rm] at h;split at h
 ·rename_i k v aR;obtain ⟨l_,zD,U,km,hP⟩:=(a2.cb aR (by simp)).mp;split at h
  ·rename_i hc;split at h
   ·rename_i b g xg;simp only [az.fR,Option.bind_eq_some_iff,az.run_bind,az.gr,az.bW] at h;obtain ⟨⟨ec,oK⟩,au,⟨fX,oL⟩,aJ,h⟩:=h;split at h
    ·rename_i aL;obtain ⟨aL,vA⟩:=aL;have vA:b ∉ oK++oL:=by
      grind
     split at h
     ·rename_i k' iL es af;simp only [Option.map_eq_some_iff] at h;obtain ⟨Ro,pB,rfl⟩:=h;obtain ⟨e,rfl⟩:=lD pB;cases e;intro a w κ F Q W be _;obtain ⟨F',f1,bc,f2⟩:=bl.mH ((od au).append (od aJ)) W;have hm:bw C.P s.ag κ F w (use (a_ C.aZ s.aD m)).2 (a.eval m):=cU W m rfl be.1;rw [xg] at hm;have i':=hm.2 aL.symm (by rw [af];rfl);have tT:=n9 W.bI f1 au f2.left (cU W x rfl be.2.1);have Fs:=n9 W.bI f1 aJ f2.right (cU W y rfl be.2.2);have pH:(s.cL (oK++oL)).ag b=s.ag b:=by simp only [aE.cL];grind
      have a6:=bc.bI b;unfold cO at a6;rw [pH,af] at a6;obtain ⟨ms,clk,hw,tU⟩:=a6;have fW:k.lF=true/\k.kM<=100:=by simpa [tH] using hc
      have er:=(Cj (em:=false) k 10000 fW.1 (by omega)).1 km tT;have lP:=tU.es;obtain ⟨f,db,dR⟩:=xf (β:=v.aq) (xs:=es) (es:=ms.toList) hc km tT lP.1 (λj e p M aa=>(lP.2 j e p M aa).1);have fU:(getObj (κ b).ag).run C.P w=.ok (.map ms clk) w:=by simp [getObj,Sem.run,hw]
      have sr:s.gV ((kL (oK++oL)).run s.ag++[(b,⟨(s.ag b).gen,.mp k v (m4 es ec fX)⟩)])=(s.cL (oK++oL)).cy b ⟨(s.ag b).gen,.mp k v (m4 es ec fX)⟩:=by
       rw [Fh,vx]
      have h3:gT (s.cL (oK++oL)).ag κ (λi=>if i=b then (⟨(s.ag b).gen,.mp k v (m4 es ec fX)⟩:bS) else (s.cL (oK++oL)).ag i) κ:=
       vp (by rw [pH]) (λh=>by cases h) (λh=>by cases h) (λ_=>by rw [pH,af];rfl) (λh=>by cases h)
      obtain ⟨jI,Kh,Ft,Rp⟩:=tU;have done:∀ (cn:World) (Fu:Array MapEntry) (Fv:Nat),(cn=w\/cn=w.drew)->
        (execOp a.eval o).run C.P w=.ok .skip { cn with heap:=cn.heap.setIfInBounds (κ b).ag (.map Fu Fv) }->
        (∀ {w'},c6 F' w w'->vo C.P k v F' w' Fu Fv (m4 es ec fX))->
        o.wpIn (eX C.r) 0 C.P a w (λa' w'=>cG C (s.i_ o.dst ⟨(use (a_ C.aZ s.aD m)).1/\(use (a_ C.aZ s.aD x)).1/\(use (a_ C.aZ s.aD y)).1,True,.undef,(kL (oK++oL)).run s.ag++[(b,⟨(s.ag b).gen,.mp k v (m4 es ec fX)⟩)]⟩) a' w') Q:=by
       intro cn Fu Fv m7 dj abI;have du:cn.heap=w.heap:=by rcases m7 with rfl | rfl<;>rfl
       have l5:dA w cn:=by rcases m7 with rfl | rfl<;>exact ⟨rfl,rfl,rfl⟩
       refine JM aN dj ⟨κ,F',?_⟩;simp only [aE.i_];rw [sr,abH];refine bc.tD (b:=b) (x:=⟨(s.ag b).gen,.mp k v (m4 es ec fX)⟩) (by rw [pH,af];rfl) rfl h3 (λh=>by cases h) (λ_=>by rw [pH,af];rfl) (λr Ki=>?_) (by grind) ⟨l5.os,l5.tape,l5.output⟩ λH _ _ he=>?_
       ·grind
       ·have cq:(κ b).ag<w.heap.size:=(Array.getElem?_eq_some_iff.1 hw).1;exact ⟨Fu,Fv,by grind,abI he⟩
      rcases dR with ⟨rfl,cI⟩ | ⟨j,e,p,M,aa,an,a8,rfl⟩
      ·refine done w (ms.push { key:=a.eval x,val:=a.eval y,born:=clk }) (clk+1) (.inl rfl) ?_ λ{w'} he=>?_
       ·rw [hex];simp only [i',Instr.mapUpdate,Sem.run_bind,dW U,Result.andThen_ok,fU,er,db,sv hw,Sem.run_pure]
       ·rw [(Rm cI).2];refine ⟨by grind,?_,λi U eA=>?_,λi j U aC e=>?_⟩
        ·rw [List.map_append,List.nodup_append];refine ⟨Kh,by simp,λq bt q' vG=>?_⟩;obtain ⟨p,ar,rfl⟩:=List.mem_map.1 bt;simp only [List.map_cons,List.map_nil,List.mem_singleton] at vG;subst vG;intro e;have:=cI p ar;rw [e,(Kd k fW.1 _ _).2 rfl] at this;grind
        ·by_cases qu:i<es.length
         ·obtain ⟨aS,aY,bK,fe,rv⟩:=Ft i qu (by omega);have aK:(es++[(ec,fX)])[i]=es[i]:=List.getElem_append_left qu;have bq:(ms.push { key:=a.eval x,val:=a.eval y,born:=clk })[i]=ms[i]'(by omega):=Array.getElem_push_lt (by omega);rw [aK,bq];exact ⟨aS,gp k (λ_ h=>h) he aY,bK,gp v (λ_ h=>h) he fe,by omega⟩
         ·have abJ:i=es.length:=by grind
          subst abJ;have aK:(es++[(ec,fX)])[es.length]=(ec,fX):=by simp
          have bq:(ms.push { key:=a.eval x,val:=a.eval y,born:=clk })[es.length]={ key:=a.eval x,val:=a.eval y,born:=clk }:=by
           grind
          rw [aK,bq];exact ⟨tT.1,gp k (λ_ h=>h) he tT.2,Fs.1,gp v (λ_ h=>h) he Fs.2,by simp⟩
        ·have born:∀ i (h:i<(ms.push { key:=a.eval x,val:=a.eval y,born:=clk }).size),(∃ dx:i<ms.size,(ms.push { key:=a.eval x,val:=a.eval y,born:=clk })[i]=ms[i])\/(i=ms.size/\((ms.push { key:=a.eval x,val:=a.eval y,born:=clk })[i]).born=clk):=by
          grind
         grind
      ·have aC:j<es.length:=(List.getElem?_eq_some_iff.1 aa).1;have ry:j<ms.size:=by omega
       have Kj:ms[j]=e:=by
        grind
       have iN:es[j]=p:=(List.getElem?_eq_some_iff.1 aa).2;have abK:ec=p.1:=(Kd k fW.1 _ _).1 an;obtain ⟨j7,cn,b4,ct,fc⟩:=Kf C.P w e.key (a.eval x);have m7:cn.heap[(κ b).ag]?=some (.map ms clk):=by rcases fc with rfl | rfl<;>exact hw
       refine done cn (ms.modify j λe=>{ e with key:=j7,val:=a.eval y }) clk fc ?_ λ{w'} he=>?_
       ·rw [hex];rw [Nat.zero_add] at db;simp only [i',Instr.mapUpdate,Sem.run_bind,dW U,Result.andThen_ok,fU,er,db];have hold:((ms[j]?).map (·.key)).getD (a.eval x)=e.key:=by
         grind
        rw [hold,b4];simp only [Result.andThen_ok,sv m7,Sem.run_pure]
       ·rw [(Rl aa an a8).2];refine ⟨by grind,?_,λi U eA=>?_,λi kO U gU a9=>?_⟩
        ·have:(es.set j (p.1,fX)).map (·.1)=es.map (·.1):=by
          apply List.ext_getElem?;grind
         grind
        ·have qu:i<es.length:=by grind
         have abL:i<ms.size:=by omega
         obtain ⟨aS,aY,bK,fe,rv⟩:=Ft i qu abL;by_cases zE:j=i
         ·subst zE;have aK:(es.set j (p.1,fX))[j]=(p.1,fX):=by simp
          have bq:(ms.modify j λe=>{ e with key:=j7,val:=a.eval y })[j]={ key:=j7,val:=a.eval y,born:=ms[j].born }:=by grind
          rw [aK,bq];have qn:eU C.P k F' w j7 p.1:=by
           rcases ct with rfl | rfl
           ·grind
           ·rw [<-Kj,<-iN];exact ⟨aS,aY⟩
          exact ⟨qn.1,gp k (λ_ h=>h) he qn.2,Fs.1,gp v (λ_ h=>h) he Fs.2,rv⟩
         ·have aK:(es.set j (p.1,fX))[i]=es[i]:=by grind
          have bq:(ms.modify j λe=>{ e with key:=j7,val:=a.eval y })[i]=ms[i]:=by grind
          rw [aK,bq];exact ⟨aS,gp k (λ_ h=>h) he aY,bK,gp v (λ_ h=>h) he fe,rv⟩
        grind
     grind
    grind
   ·cases h
  ·cases h
 ·cases h
end
end Go.Fer
namespace Go.Fer
open Go.RowKit
section
variable {C:cf} {T:Nat->ai} {bd:Nat->Option aU} {o:Oper} {s:aE} {res:fj}
theorem Rq {P:Program} {F:Nat->Prop} {w:World} {e:ai} {z:Value} (bV:k8 e z.cells.toList=some []) (n:Nat) :
  hg P e F w ((Array.range (n*e.size)).map (λi=>z.cells[i % z.cells.size]!)).toList (List.replicate n e.ee):=by
 obtain ⟨c,Ck,lH,jL⟩:=w8 (P:=P) (H:=λ_=>⟨0,.gK⟩) (κ:=λ_=>⟨0,0,0,true⟩) (F:=F) (w:=w) e bV;rw [List.append_nil] at Ck;have Cl:z.cells.size=e.size:=by rw [<-Array.length_toList,Ck];exact jj e lH
 refine ⟨by simp,λi U=>?_⟩;have eA:i<n:=by grind
 have hle:(i+1)*e.size<=n*e.size:=Nat.mul_le_mul_right _ (by omega);rw [Nat.add_mul] at hle;have:((((Array.range (n*e.size)).map (λi=>z.cells[i % z.cells.size]!)).toList.drop (i*e.size)).take e.size)=z.cells.toList:=by
  apply List.ext_getElem?;intro j;simp only [List.getElem?_take,List.getElem?_drop];split
  ·rename_i aC;have gU:j<z.cells.size:=by omega
   rw [Array.getElem?_toList,Array.getElem?_toList];have zB:(i*e.size+j) % z.cells.size=j:=by rw [Cl,Nat.add_comm,Nat.add_mul_mod_self_right,Nat.mod_eq_of_lt aC]
   grind
  grind
 grind
theorem abM {n:Int} (aW:0<=n) (M:n<=4294967296):IntKind.i64.wrap n=n:=by
 simp only [IntKind.wrap,IntKind.signed,IntKind.bits];grind
theorem abN (a2:eO C.P T) {ty:TypeId} {l c:Operand} (bh:∀ i,o.dst=some i->i<C.nt) (al:o.op=.makeSlice ty l c) (h:(bo C.aZ T bd (a_ C.aZ s.aD) o).run s.ag=some res):cK C o s res:=by
 simp only [bo,al,Fb] at h;split at h
 ·rename_i e aR;split at h
  ·rename_i n m aw hm;have d':=a2.cb aR (by simp);obtain ⟨lM,aC,l9,pE⟩:=d'.sl;obtain ⟨inf,z,i1,i2,i3,i4,i5,i6⟩:=mE l9.mD;obtain ⟨b,aN,ak⟩:=sn h;simp only [Option.some.injEq] at ak;subst ak;intro a w κ F Q W be hc;have abO:=nA (cU W l rfl be.1) aw;have l5:=nA (cU W c rfl be.2) hm;obtain ⟨asu,rfl,bH⟩:0<=n/\n=m/\bT n.toNat:=hc;unfold bT at bH;obtain ⟨k,rfl⟩:∃ k:Nat,n=k:=⟨n.toNat,by omega⟩
   simp only [Int.toNat_natCast] at bH;have hw:IntKind.i64.wrap (k:Int)=k:=abM (by omega) (by omega);let cs:Array Value:=(Array.range (k*e.size)).map (λi=>z.cells[i % z.cells.size]!);have ob:hg C.P e F w cs.toList (List.replicate k e.ee):=Rq i5 k;have asv:inf.bytes*k<=2 ^ 47:=by
    calc inf.bytes*k<=1024*4294967296:=Nat.mul_le_mul i3 (by omega)
     _<=2 ^ 47:=by decide
   have dj:(execOp a.eval o).run C.P w=.ok (.value (.slice (some ⟨w.heap.size,0,none⟩) k k)) (w.alloc (.cells cs lM)):=by
    have abP:¬((inf.bytes:Int)*(k:Int) > 2 ^ 48):=by
     omega
    have nD:¬((k:Int)<0):=by omega
    have xd:¬(k*inf.bytes > roomBytes):=by
     have:roomBytes=2 ^ 47:=rfl;grind
    have qn:¬((k:Int) > (k:Int)):=by omega
    simp only [execOp,al,Instr.makeSlice,abO.1,l5.1,Sem.run_bind,dW aC,Result.andThen_ok,asInt,asIntOf,Sem.run_pure,Fe i1,hw,abP,nD,qn,decide_false,Bool.or_false,Bool.false_or,Bool.false_eq_true,if_false,run_askRoom,Int.toNat_natCast,sk i1,i2];by_cases rz:k*e.size=0
    ·have abQ:cs=#[]:=Array.eq_empty_of_size_eq_zero (by grind);rw [abQ];have Kk:(Array.map (λ_:Nat=>(default:Value)) (Array.range 0))=#[]:=by simp
     simp [rz,newRow];rw [Kk]
    ·simp [rz,sm i1 i4,newRow,cs]
   have an:=W.Cd (b:=b) (g:=(s.ag b).gen+1) (zs:=List.replicate k e.ee) (k:=⟨w.heap.size,0,k,false⟩) (w':=w.alloc (.cells cs lM)) (Nat.lt_succ_self _) (.inr rfl) (by simp) (λr W=>qk w _ W) (λ_=>by simp) ⟨rfl,rfl,rfl⟩
    (λH κ'=>⟨λh=>(by cases h),λ_=>⟨cs,lM,ri w _,by grind,by simp,by grind,(ob.Cb (pre:=[]) (post:=[]) (by simp)).nw (c6.alloc W.dM _)⟩⟩)
   refine h1 (by grind) dj ⟨_,F,bl.set (s:=s.cy b _) an bh ⟨⟨by simp [aE.cy],rfl⟩,λ_ _=>by simp [aE.cy,bD.slice,b7.len]⟩⟩
  ·cases h
 ·cases h
theorem hg.take {P:Program} {e:ai} {F:Nat->Prop} {w:World} {all:List Value} {xs:List e.aq} (h:hg P e F w all xs) {n:Nat} (aI:n<=xs.length):hg P e F w (all.take (n*e.size)) (xs.take n):=by
 have hle:n*e.size<=xs.length*e.size:=Nat.mul_le_mul_right _ aI;refine ⟨by simp only [List.length_take,h.1];simp,λi U=>?_⟩;have eA:i<n:=by grind
 have abR:(i+1)*e.size<=n*e.size:=Nat.mul_le_mul_right _ (by omega);rw [Nat.add_mul] at abR;have:((all.take (n*e.size)).drop (i*e.size)).take e.size=(all.drop (i*e.size)).take e.size:=by
  rw [List.drop_take,List.take_take,Nat.min_eq_left (by omega)]
 rw [this];simpa using h.2 i (by omega)
theorem Rr {P:Program} {w:World} {e:ai} {q:Option Addr} {n cap:Nat} {xs:List e.aq} {F:Nat->Prop} (aI:n<=xs.length) (h:(q=none/\xs=[]/\cap=0)\/∃ p all,q=some p/\hg P e F w all xs/\la w p all) :
  ∃ all,(Builtin.firstCells e.size n (.slice q xs.length cap)).run P w=.ok all.toArray w/\hg P e F w all (xs.take n):=by
 rcases h with ⟨rfl,rfl,rfl⟩ | ⟨p,all,rfl,bN,b1⟩
 ·exact ⟨[],by rfl,by simp [hg]⟩
 ·have hle:n*e.size<=xs.length*e.size:=Nat.mul_le_mul_right _ aI;refine ⟨all.take (n*e.size),?_,bN.take aI⟩;simp only [Builtin.firstCells];have aw:(all.take (n*e.size)).length=n*e.size:=by simp only [List.length_take,bN.1];omega
  have W:la w p (all.take (n*e.size)):=⟨λaW=>b1.1 (by grind),λj aC=>by
   have gU:j<all.length:=by grind
   rw [List.getElem_take];exact b1.2 j gU⟩
  have:=JK (P:=P) W;grind
theorem qj.g0 {P:Program} {e:ai} {F:Nat->Prop} {w w':World} {cs ef:Array Value} {off a4:Nat} {xs zs:List e.aq} {e7:List Value} (h:qj P e F w cs off xs) (he:c6 F w w') (aI:hg P e F w e7 zs) (aw:a4+zs.length<=xs.length)
  (tI:off+xs.length*e.size<=cs.size) (hc:ef.toList=cs.toList.take (off+a4*e.size)++(e7++cs.toList.drop (off+a4*e.size+e7.length))):qj P e F w' ef off (Go.Fer.g0 xs a4 zs):=by
 have hlen:(Go.Fer.g0 xs a4 zs).length=xs.length:=by simp [Go.Fer.g0];omega
 have abS:(a4+zs.length)*e.size<=xs.length*e.size:=Nat.mul_le_mul_right _ aw;rw [Nat.add_mul] at abS;have pG:=aI.1;have hh:(cs.toList.take (off+a4*e.size)).length=off+a4*e.size:=by grind
 intro i U;rw [hlen] at U;have abT:i<a4\/(a4<=i/\i<a4+zs.length)\/a4+zs.length<=i:=by omega
 rcases abT with M | ⟨M,aa⟩ | M
 ·obtain ⟨bn,d1,d2⟩:=h i U;have Rc:=jj e d2;have aK:(Go.Fer.g0 xs a4 zs)[i]'(by omega)=xs[i]:=by
   simp only [Go.Fer.g0,List.append_assoc];grind
  rw [aK];refine ⟨bn,λj aC=>?_,gp e (λ_ h=>h) he d2⟩;have hle:(i+1)*e.size<=a4*e.size:=Nat.mul_le_mul_right _ (by omega);rw [Nat.add_mul] at hle;rw [<-Array.getElem?_toList,hc,List.getElem?_append_left (by omega),List.getElem?_take,if_pos (by omega),Array.getElem?_toList];grind
 ·have Cf:=aI.Cb (pre:=cs.toList.take (off+a4*e.size)) (post:=cs.toList.drop (off+a4*e.size+e7.length)) hc;obtain ⟨bn,d1,d2⟩:=Cf (i - a4) (by omega);have aK:(Go.Fer.g0 xs a4 zs)[i]'(by omega)=zs[i - a4]'(by omega):=by
   simp only [Go.Fer.g0,List.append_assoc];grind
  rw [aK];refine ⟨bn,λj aC=>?_,gp e (λ_ h=>h) he d2⟩;have:=d1 j aC;rw [hh] at this;rw [<-this];congr 1;have:i*e.size=a4*e.size+(i - a4)*e.size:=by rw [<-Nat.add_mul];grind
  omega
 ·obtain ⟨bn,d1,d2⟩:=h i U;have Rc:=jj e d2;have aK:(Go.Fer.g0 xs a4 zs)[i]'(by omega)=xs[i]:=by
   simp only [Go.Fer.g0,List.append_assoc];have h3:(xs.take a4).length=a4:=by grind
   rw [List.getElem_append_right (by omega),List.getElem_append_right (by omega)];grind
  rw [aK];refine ⟨bn,λj aC=>?_,gp e (λ_ h=>h) he d2⟩;have Cm:(a4+zs.length)*e.size<=i*e.size:=Nat.mul_le_mul_right _ M;rw [Nat.add_mul] at Cm;rw [<-Array.getElem?_toList,hc,List.getElem?_append_right (by omega),List.getElem?_append_right (by omega),List.getElem?_drop,hh];grind
theorem hg.one {P:Program} {e:ai} {F:Nat->Prop} {w:World} {e7:List Value} {bG:List e.aq} (h:hg P e F w e7 bG) (lL:0<e.size):∀ v∈e7,v.oneCell'=true:=by
 intro v aj;obtain ⟨j,aC,rfl⟩:=List.mem_iff_getElem.1 aj;have hdiv:j / e.size<bG.length:=(Nat.div_lt_iff_lt_mul lL).2 (by rw [<-h.1];exact aC);have oc:=h.2 (j / e.size) hdiv;have iy:=za (P:=P) (H:=λ_=>⟨0,.gK⟩) (κ:=λ_=>⟨0,0,0,true⟩) e oc;have zB:=Nat.mod_lt j lL;have abv:j / e.size*e.size+j % e.size=j:=Nat.div_add_mod' j e.size;have Kb:((e7.drop (j / e.size*e.size)).take e.size).length=e.size:=jj e oc;have:=(iy.lE (j % e.size) (by rw [iy.len,Kb];omega)).2;grind
theorem abU (a2:eO C.P T) {args:Array Operand} {dN:Array TypeId} (bh:∀ i,o.dst=some i->i<C.nt) (al:o.op=.call { callee:=.builtin .copy,args:=args,argTypes:=dN }) (h:(bo C.aZ T bd (a_ C.aZ s.aD) o).run s.ag=some res):cK C o s res:=by
 obtain ⟨args⟩:=args;obtain ⟨dN⟩:=dN;have aN:∀ c,o.op≠.defer c:=by grind
 simp only [bo,al,ny,Fc] at h;split at h
 ·rename_i x y t u;split at h
  ·rename_i e bq aR hu;have d':=a2.cb aR (by simp);obtain ⟨lM,aC,l9,pE⟩:=d'.sl;obtain ⟨inf,z,i1,i2,i3,i4,i5,i6⟩:=mE l9.mD;have lL:0<e.size:=Nat.pos_of_ne_zero pE;split at h
   ·rename_i b g a4 U Cn;simp only [az.fR,Option.bind_eq_some_iff,az.gr,az.bW] at h;obtain ⟨⟨bG,l⟩,mG,h⟩:=h;split at h
    ·rename_i aL;split at h
     ·rename_i a9 xs af;split at h
      ·rename_i ru;subst ru;simp only [Option.some.injEq] at h;subst h;intro a w κ F Q W be _;obtain ⟨q',cap',tQ,pF⟩:=tO W mG (cU W y rfl be.2);have au:bw C.P s.ag κ F w (use (a_ C.aZ s.aD x)).2 (a.eval x):=cU W x rfl be.1;have a6:=W.bI b;unfold cO at a6;rw [af] at a6;have qo:a4<=U.getD xs.length/\U.getD xs.length<=xs.length/\(((κ b).h0=true/\∃ cap,a.eval x=.slice none 0 cap)\/((κ b).h0=false/\∃ m6 cap,a.eval x=.slice (some ⟨(κ b).ag,m6,none⟩) (U.getD xs.length - a4) cap/\(a4<U.getD xs.length->m6=(κ b).off+a4*a9.size))):=by
        split at Cn
        ·rename_i bg g' fk;simp only [Option.some.injEq,Prod.mk.injEq] at Cn;obtain ⟨rfl,rfl,rfl,rfl⟩:=Cn;rw [fk] at au;have aj:=au.2 aL.symm (by rw [af];rfl);rw [af] at aj;simp only [b7.len] at aj;refine ⟨Nat.zero_le _,Nat.le_refl _,?_⟩;cases aI:(κ bg).h0 with
         | true=>exact .inl ⟨rfl,0,by simpa [bD.slice,aI] using aj⟩
         | false=>exact .inr ⟨rfl,(κ bg).off,(κ bg).cap,by simpa [bD.slice,aI] using aj,λ_=>by simp⟩
        ·rename_i bg g' asw eA fk;simp only [Option.some.injEq,Prod.mk.injEq] at Cn;obtain ⟨rfl,rfl,rfl,rfl⟩:=Cn;rw [fk] at au;obtain ⟨⟨aS,aY⟩,bK⟩:=au.2 aL.symm (by rw [af];rfl);rw [af] at aY bK;simp only [b7.len,b7.gq] at aY bK;refine ⟨aS,aY,?_⟩;rcases bK with ⟨aI,aj⟩ | ⟨aI,m6,aj,hH,gM⟩
         ·grind
         ·obtain ⟨cs,fw,bH,b2,cw,gi,hG⟩:=a6.2 aI;grind
        grind
       obtain ⟨h5,oN,lJ⟩:=qo;have Rs:∀ m:Nat,m<=bG.length->m<=xs.length->ji .i64 (m:Int):=by
        intro m _ hm;have:=zq W (b:=b) (by rw [af];rfl);rw [af] at this;simp only [b7.len] at this;exact B4 (by omega)
       generalize Rt:U.getD xs.length=du at *
       have Q7:Nat.min bG.length (du - a4)=min (du - a4) bG.length:=Nat.min_comm _ _;have abV:(bG.take (du - a4)).length=min (du - a4) bG.length:=by simp
       have zF:(g0 xs a4 (bG.take (du - a4))).length=xs.length:=by simp [g0];omega
       have h3:gT s.ag κ (λi=>if i=b then (⟨(s.ag b).gen,.bu a9 (g0 xs a4 (bG.take (du - a4)))⟩:bS) else s.ag i) κ:=
        vp rfl (λh=>by cases h) (λ_=>by rw [af];exact ⟨rfl,zF,rfl⟩) (λh=>by cases h) (λh=>by cases h)
       have nC:∀ (w':World) v,(Builtin.copy_ #[t,u] o.type #[a.eval x,a.eval y]).run C.P w=.ok v w'->(execOp a.eval o).run C.P w=.ok (.value v) w':=by
        intro w' v aj;refine vw al ?_;simp [builtin,aj]
       rcases lJ with ⟨aI,cap,ss⟩ | ⟨aI,m6,cap,ss,abW⟩
       ·have jK:=a6.1 aI;subst jK;have abX:du=0:=by grind
        subst abX;have Kl:a4=0:=by omega
        subst Kl;obtain ⟨e7,dO,e6⟩:=Rr (P:=C.P) (w:=w) (n:=0) (Nat.zero_le _) pF;have dj:(Builtin.copy_ #[t,u] o.type #[a.eval x,a.eval y]).run C.P w=.ok (.int .i64 ((0:Nat):Int)) w:=by
         simp only [Builtin.copy_,List.getElem?_toArray,List.getElem?_cons_zero,List.getElem?_cons_succ,Sem.run_bind,dW aC,Result.andThen_ok,ss,tQ,Builtin.lenOf,Sem.run_pure,sk i1,i2,Nat.min_zero];rw [dO];rfl
        refine h1 aN (nC w _ dj) ⟨κ,F,bl.set (s:=s.cy b _) ?_ bh (hZ.2 ⟨by simp,Rs _ (by simp) (by simp)⟩)⟩;have dC:g0 ([]:List a9.aq) 0 (bG.take (0 - 0))=[]:=by rfl
        have es:s.cy b ⟨(s.ag b).gen,.bu a9 (g0 ([]:List a9.aq) 0 (bG.take (0 - 0)))⟩=s:=by
         rw [dC];unfold aE.cy;have:(λi=>if i=b then (⟨(s.ag b).gen,.bu a9 []⟩:bS) else s.ag i)=s.ag:=by
          funext i;by_cases U:i=b
          ·subst U;simp only [if_true];rw [<-af]
          grind
         rw [this]
        grind
       ·obtain ⟨cs,fw,bH,b2,cw,gi,hG⟩:=a6.2 aI;have zu:min (du - a4) bG.length<=bG.length:=Nat.min_le_right _ _;obtain ⟨e7,dO,e6⟩:=Rr (P:=C.P) (w:=w) zu pF;have qp:bG.take (min (du - a4) bG.length)=bG.take (du - a4):=by
         simp
        rw [qp] at e6;have pG:=e6.1;rw [abV] at pG;have oM:=e6.one lL;have Ru:xs.length*a9.size<=(κ b).cap*a9.size:=Nat.mul_le_mul_right _ cw;have Co:(a4+min (du - a4) bG.length)*a9.size<=xs.length*a9.size:=Nat.mul_le_mul_right _ (by omega);rw [Nat.add_mul] at Co;obtain ⟨w',ef,b4,ct,fc,iM,l7,oe⟩:∃ w' ef,(storeCells ⟨(κ b).ag,m6,none⟩ e7).run C.P w=.ok () w'/\w'.heap[(κ b).ag]?=some (.cells ef fw (0,0))/\ef.toList=cs.toList.take ((κ b).off+a4*a9.size)++(e7++cs.toList.drop ((κ b).off+a4*a9.size+e7.length))/\
          (∀ r,r≠(κ b).ag->w'.heap[r]?=w.heap[r]?)/\w'.heap.size=w.heap.size/\dA w w':=by
         by_cases cq:a4<du
         ·rw [abW cq];obtain ⟨w',ef,b4,ct,fc,iM,l7,oe⟩:=xb (P:=C.P) e7 ((κ b).off+a4*a9.size) 0 w cs bH (by omega) oM;grind
         ·have aW:min (du - a4) bG.length=0:=by omega
          rw [aW,Nat.zero_mul] at pG;have:e7=[]:=List.eq_nil_of_length_eq_zero pG;subst this;exact ⟨w,cs,by rfl,bH,by simp,λ_ _=>rfl,rfl,dA.refl w⟩
        have dj:(Builtin.copy_ #[t,u] o.type #[a.eval x,a.eval y]).run C.P w=.ok (.int .i64 ((min (du - a4) bG.length:Nat):Int)) w':=by
         simp only [Builtin.copy_,List.getElem?_toArray,List.getElem?_cons_zero,List.getElem?_cons_succ,Sem.run_bind,dW aC,Result.andThen_ok,ss,tQ,Builtin.lenOf,Sem.run_pure,sk i1,i2];rw [Q7,dO];simp only [Result.andThen_ok,b4];rfl
        refine h1 aN (nC w' _ dj) ⟨κ,F,bl.set (s:=s.cy b _) ?_ bh (hZ.2 ⟨rfl,Rs _ (by omega) (by omega)⟩)⟩;refine W.tD (b:=b) (by rw [af];simp [b7.cd,aI]) (by simp [b7.cd,aI]) h3 (λh=>by cases h) (λh=>by cases h) iM l7 oe λH tL cq he=>?_;refine ⟨λh=>(by grind),λ_=>⟨ef,fw,ct,?_,by omega,gi,?_⟩⟩
        ·have:ef.size=cs.size:=by
          rw [<-Array.length_toList,fc];simp only [List.length_append,List.length_take,List.length_drop,Array.length_toList];omega
         omega
        ·exact hG.g0 he e6 (by omega) (by omega) fc
      grind
     grind
    grind
   ·cases h
  ·cases h
 ·cases h
theorem Rv (al:(bo C.aZ T bd (a_ C.aZ s.aD) o).run s.ag=some ⟨True,False,.undef,[]⟩) (h:(bo C.aZ T bd (a_ C.aZ s.aD) o).run s.ag=some res):cK C o s res:=by
 rw [al] at h;cases h;intro a w κ F Q _ _ hc;grind
end
end Go.Fer
namespace Go.Fer
open Go.RowKit
section
variable {C:cf} {T:Nat->ai} {bd:Nat->Option aU} {o:Oper} {s:aE} {res:fj}
theorem abY {P:Program} {w:World} {len cap:Nat} {a4:Option Value} {l:Option Int} {k k':IntKind} {h m:Int} (aw:(a4=none/\l=none)\/∃ k m,a4=some (.int k m)/\l=some m)
  (M:0<=dD l) (aa:dD l<=h) (an:h<=m) (a8:m<=(cap:Int)):(Instr.sliceBounds true len cap a4 (some (.int k h)) (some (.int k' m))).run P w=.ok ((dD l).toNat,h.toNat,m.toNat) w:=by
 rcases aw with ⟨rfl,rfl⟩ | ⟨k,n,rfl,rfl⟩<;>simp only [dD] at M aa ⊢
 ·have aK:0<=m/\m<=(cap:Int):=by omega
  have bq:0<=h/\h<=m:=by omega
  have cF:max m 0=m:=by omega
  simp [Instr.sliceBounds,Instr.sliceBound,asIntOf,aK,bq,cF]
 ·have aK:0<=m/\m<=(cap:Int):=by omega
  have bq:0<=h/\h<=m:=by omega
  have cF:max m 0=m:=by omega
  have hd:0<=n/\n<=h:=by omega
  have j0:max h 0=h:=by omega
  simp [Instr.sliceBounds,Instr.sliceBound,asIntOf,aK,bq,cF,hd,j0]
theorem abZ (a2:eO C.P T) {ty:TypeId} {x:Operand} {a4 U:Option Operand} {py:Operand} (bh:∀ i,o.dst=some i->i<C.nt) (al:o.op=.slice ty x a4 U (some py)) (h:(bo C.aZ T bd (a_ C.aZ s.aD) o).run s.ag=some res):cK C o s res:=by
 simp only [bo,al,Option.isSome_some,if_true,E'] at h;split at h
 ·rename_i ol l rl du vt m qq J4 ab0;have aN:∀ c,o.op≠.defer c:=by grind
  split at h
  ·rename_i dC aR;have d':=a2.cb aR (by simp);obtain ⟨j,aC,l9,pE⟩:=d'.sl;simp only [az.fR,Option.bind_eq_some_iff] at h;obtain ⟨⟨c,v⟩,g4,h⟩:=h;simp only [bR,az.bW,Option.some.injEq] at h;subst h;have runs:∀ (a:Act) (w:World) κ F,bl C s a w κ F->ol->rl->vt->∀ (q:Option Addr) (n cap:Nat),a.eval x=.slice q n cap->0<=dD l->dD l<=du->du<=m->m<=(cap:Int)->
     (execOp a.eval o).run C.P w=.ok (.value (.slice (if m.toNat=(dD l).toNat then q else q.map (·.add ((dD l).toNat*dC.size))) (du.toNat - (dD l).toNat) (m.toNat - (dD l).toNat))) w:=by
    intro a w κ F W B' Ca Km q n cap aj bH b2 cw gi;have e0:(a4.map a.eval=none/\l=none)\/∃ k m,a4.map a.eval=some (.int k m)/\l=some m:=by
     rcases B_ W qq B' with ⟨rfl,rfl⟩ | ⟨y,k,m,rfl,rfl,e⟩
     ·exact .inl ⟨rfl,rfl⟩
     ·exact .inr ⟨k,m,by simp [e],rfl⟩
    obtain ⟨kn,aY,eN,rfl,bq,cF⟩:∃ y k n,U=some y/\du=n/\a.eval y=.int k n:=by
     rcases B_ W J4 Ca with ⟨_,h⟩ | ⟨y,k,m,rfl,h,e⟩
     ·cases h
     ·exact ⟨y,k,m,rfl,Option.some.inj h,e⟩
    obtain ⟨bK,hd⟩:∃ k,a.eval py=.int k m:=by
     rcases B_ W ab0 Km with ⟨h,_⟩ | ⟨y,k,m,M,aa,e⟩
     ·cases h
     ·cases M;cases aa;exact ⟨k,e⟩
    subst bq;have:=abY (P:=C.P) (w:=w) (len:=n) (k:=aY) (k':=bK) e0 bH b2 cw gi;simp [execOp,al,aj,Instr.sliceAt,Instr.slice,dW aC,cF,hd,this,l9.size]
   unfold QF at g4;split at g4
   ·rename_i e xs fk;simp only [az.bW] at g4;split at g4
    ·rename_i he;subst he;simp only [Option.some.injEq,Prod.mk.injEq] at g4;obtain ⟨rfl,rfl⟩:=g4;refine cK.pure aN bh λa w κ F W be hc=>?_;have au:bw C.P s.ag κ F w (use (a_ C.aZ s.aD x)).2 (a.eval x):=cU W x rfl be.1;rw [fk] at au;obtain ⟨_,a',cap,aK,eb,eN,ij,g2⟩:=(fa rfl).1 au;have aK:=(List.cons.inj aK).1;simp only [gu] at hc;obtain ⟨bH,b2,cw,gi⟩:=hc;subst cw;have hlen:((xs.take du.toNat).drop (dD l).toNat).length=du.toNat - (dD l).toNat:=by
      grind
     have asx:(xs.length:Int)<=cap:=by omega
     refine ⟨_,runs a w κ F W be.2.1 be.2.2.1 be.2.2.2 a' xs.length cap aK bH b2 (Int.le_refl _) (by omega),(fa rfl).2 ⟨rfl,?_⟩,_,by rw [hlen]⟩;refine ⟨_,_,by rw [hlen],by omega,by omega,?_,λp ar zb=>?_⟩
     ·intro aI;split at aI
      ·omega
      ·cases a' with
       | none=>grind
       | some q=>cases aI
     ·cases a' with
      | none=>grind
      | some q=>
       obtain ⟨dO,e6,lb⟩:=g2 q rfl (by omega);have bt:p=⟨q.block,q.off+(dD l).toNat*e.size,none⟩:=by
        split at ar
        ·omega
        ·simp only [Option.map_some,Option.some.injEq] at ar;rw [B9 e6] at ar;grind
       subst bt;refine ⟨dO,rfl,λi U=>?_⟩;rw [hlen] at U;obtain ⟨bn,d1,d2⟩:=lb ((dD l).toNat+i) (by omega);grind
    grind
   ·rename_i fk;simp only [az.bW,Option.some.injEq,Prod.mk.injEq] at g4;obtain ⟨rfl,rfl⟩:=g4;refine cK.pure aN bh λa w κ F W be hc=>?_;have au:bw C.P s.ag κ F w (use (a_ C.aZ s.aD x)).2 (a.eval x):=cU W x rfl be.1;rw [fk] at au;simp only [bw] at au;simp only [gu] at hc;obtain ⟨bH,b2,cw⟩:=hc;have dj:=runs a w κ F W be.2.1 be.2.2.1 be.2.2.2 none 0 0 au (by omega) (by omega) (by omega) (by omega);have aW:du.toNat=0:=by omega
    have M:m.toNat=0:=by omega
    have aa:(dD l).toNat=0:=by omega
    rw [aW,M,aa] at dj;simp only [if_true,Nat.sub_zero] at dj;exact ⟨_,dj,(fa rfl).2 ⟨rfl,none,0,rfl,Nat.le_refl _,by decide,λ_=>rfl,λp ar=>by simp⟩,none,rfl⟩
   ·rename_i b g fk;simp only [az.gr,az.bW] at g4;split at g4
    ·rename_i bm;simp only [Bool.and_eq_true,decide_eq_true_eq] at bm;obtain ⟨aL,fI⟩:=bm;simp only [Option.some.injEq,Prod.mk.injEq] at g4;obtain ⟨rfl,rfl⟩:=g4;refine cK.pure aN bh λa w κ F W be hc=>?_;have au:bw C.P s.ag κ F w (use (a_ C.aZ s.aD x)).2 (a.eval x):=cU W x rfl be.1;rw [fk] at au;have aj:=au.2 aL.symm fI;obtain ⟨dO,e6⟩:=zq W fI;simp only [gu] at hc;obtain ⟨bH,b2,cw,gi⟩:=hc;cases aI:(κ b).h0 with
     | true=>
      have aW:=dO aI;simp only [bD.slice,aI,if_true] at aj;exact ⟨_,runs a w κ F W be.2.1 be.2.2.1 be.2.2.2 none 0 0 aj bH b2 cw (by omega),trivial⟩
     | false=>
      have xc:=JT W fI aI;simp only [bD.slice,aI,Bool.false_eq_true,if_false] at aj;exact ⟨_,runs a w κ F W be.2.1 be.2.2.1 be.2.2.2 _ _ _ aj bH b2 cw (by omega),trivial⟩
    grind
   ·cases g4
  ·cases h
 ·cases h
theorem ab1 {b:Nat} {e:ai} (af:(s.ag b).body=.bu e []):s.cy b ⟨(s.ag b).gen,.bu e []⟩=s:=by
 unfold aE.cy;have:(λi=>if i=b then (⟨(s.ag b).gen,.bu e []⟩:bS) else s.ag i)=s.ag:=by
  funext i;by_cases U:i=b
  ·subst U;simp only [if_true];rw [<-af]
  grind
 rw [this]
theorem ab2 (a2:eO C.P T) {args:Array Operand} {dN:Array TypeId} (bh:∀ i,o.dst=some i->i<C.nt) (al:o.op=.call { callee:=.builtin .append,args:=args,argTypes:=dN }) {b g a4 U:Nat} (aA:w_ (a_ C.aZ s.aD) args.toList=some (b,g,a4,U))
  (h:(BX T (a_ C.aZ s.aD) args.toList dN.toList b g a4 U).run s.ag=some res):cK C o s res:=by
 obtain ⟨args⟩:=args;obtain ⟨dN⟩:=dN;have aN:∀ c,o.op≠.defer c:=by grind
 simp only [BX] at h;split at h
 ·rename_i x y t u;have fk:(use (a_ C.aZ s.aD x)).2=.sub b g a4 U:=by
   simp only [w_] at aA;grind
  split at h
  ·rename_i e bq aR hu;have d':=a2.cb aR (by simp);have vz:=a2.cb hu (by simp);obtain ⟨lM,aC,l9,pE⟩:=d'.sl;obtain ⟨abr,gU,_⟩:=vz.sl;obtain ⟨inf,z,i1,i2,i3,i4,i5,i6⟩:=mE l9.mD;have lL:0<e.size:=Nat.pos_of_ne_zero pE;simp only [az.fR,Option.bind_eq_some_iff,az.gr,az.bW] at h;obtain ⟨⟨bG,l⟩,mG,h⟩:=h;split at h
   ·rename_i aL;split at h
    ·rename_i a9 xs af;split at h
     ·rename_i ru;subst ru;simp only [Option.some.injEq] at h;subst h;intro a w κ F Q W be hc;change U+bG.length<=xs.length at hc;obtain ⟨q',cap',tQ,pF⟩:=tO W mG (cU W y rfl be.2);have au:bw C.P s.ag κ F w (use (a_ C.aZ s.aD x)).2 (a.eval x):=cU W x rfl be.1;rw [fk] at au;have a6:=W.bI b;unfold cO at a6;rw [af] at a6;obtain ⟨⟨aS,aY⟩,bK⟩:=au.2 aL.symm (by rw [af];rfl);rw [af] at aY bK;simp only [b7.len,b7.gq] at aY bK;have nC:∀ (w':World) v,(Builtin.append_ #[t,u] o.type #[a.eval x,a.eval y]).run C.P w=.ok v w'->(execOp a.eval o).run C.P w=.ok (.value v) w':=by
       intro w' v aj;refine vw al ?_;simp [builtin,aj]
      have zF:(g0 xs U bG).length=xs.length:=by simp [g0];omega
      have h3:gT s.ag κ (λi=>if i=b then (⟨(s.ag b).gen,.bu a9 (g0 xs U bG)⟩:bS) else s.ag i) κ:=
       vp rfl (λh=>by cases h) (λ_=>by rw [af];exact ⟨rfl,zF,rfl⟩) (λh=>by cases h) (λh=>by cases h)
      rcases bK with ⟨aI,aj⟩ | ⟨aI,m6,aj,hH,gM⟩
      ·have jK:=a6.1 aI;subst jK;have vH:U=0:=by grind
       subst vH;have Kl:a4=0:=by omega
       subst Kl;have Ka:bG=[]:=by grind
       subst Ka;obtain ⟨e7,dO,e6⟩:=zz (P:=C.P) (w:=w) (cap:=cap') rfl pF;have dj:(Builtin.append_ #[t,u] o.type #[a.eval x,a.eval y]).run C.P w=.ok (.slice none 0 0) w:=by
        rw [aj,tQ];simp only [List.length_nil] at dO ⊢;simp [Builtin.append_,dW aC,dW gU,sk i1,Builtin.lenOf];simp_all
       have dC:g0 ([]:List a9.aq) 0 []=[]:=by rfl
       refine h1 aN (nC w _ dj) ⟨κ,F,bl.set (s:=s.cy b _) ?_ bh ⟨⟨by simp [aE.cy,aL],rfl⟩,λ_ _=>⟨by simp,.inl ⟨aI,rfl⟩⟩⟩⟩;rw [dC,ab1 af];exact W
      ·obtain ⟨cs,fw,bH,b2,cw,gi,hG⟩:=a6.2 aI;obtain ⟨e7,dO,e6⟩:=zz (P:=C.P) (w:=w) (cap:=cap') rfl pF;have pG:=e6.1;have oM:=e6.one lL;have Ru:xs.length*a9.size<=(κ b).cap*a9.size:=Nat.mul_le_mul_right _ cw;have Co:(U+bG.length)*a9.size<=xs.length*a9.size:=Nat.mul_le_mul_right _ hc;rw [Nat.add_mul] at Co;obtain ⟨w',ef,b4,ct,fc,iM,l7,oe⟩:∃ w' ef,(storeCells ⟨(κ b).ag,m6+(U - a4)*a9.size,none⟩ e7).run C.P w=.ok () w'/\w'.heap[(κ b).ag]?=some (.cells ef fw (0,0))/\ef.toList=cs.toList.take ((κ b).off+U*a9.size)++(e7++cs.toList.drop ((κ b).off+U*a9.size+e7.length))/\
         (∀ r,r≠(κ b).ag->w'.heap[r]?=w.heap[r]?)/\w'.heap.size=w.heap.size/\dA w w':=by
        by_cases cq:a4<(κ b).cap
        ·have tV:m6+(U - a4)*a9.size=(κ b).off+U*a9.size:=by
          rw [gM cq,Nat.add_assoc,<-Nat.add_mul];grind
         rw [tV];obtain ⟨w',ef,b4,ct,fc,iM,l7,oe⟩:=xb (P:=C.P) e7 ((κ b).off+U*a9.size) 0 w cs bH (by omega) oM;grind
        ·have aW:bG.length=0:=by omega
         rw [aW,Nat.zero_mul] at pG;have:e7=[]:=List.eq_nil_of_length_eq_zero pG;subst this;exact ⟨w,cs,by rfl,bH,by simp,λ_ _=>rfl,rfl,dA.refl w⟩
       have xd:U - a4+bG.length<=(κ b).cap - a4:=by omega
       have dj:(Builtin.append_ #[t,u] o.type #[a.eval x,a.eval y]).run C.P w=.ok (.slice (some ⟨(κ b).ag,m6,none⟩) (U - a4+bG.length) ((κ b).cap - a4)) w':=by
        rw [aj,tQ];simp only [Builtin.append_,List.getElem?_toArray,List.getElem?_cons_zero,List.getElem?_cons_succ,Sem.run_bind,dW aC,dW gU,Result.andThen_ok,sk i1,i2,Sem.run_pure,Builtin.lenOf,Bool.false_eq_true,if_false,if_pos xd,Bool.not_false,if_true,dO,vu];simp_all
       refine h1 aN (nC w' _ dj) ⟨κ,F,bl.set (s:=s.cy b _) ?_ bh ⟨⟨by simp [aE.cy,aL],rfl⟩,λ_ _=>⟨by simp only [aE.cy,if_true,b7.len,zF];omega,.inr ⟨aI,m6,?_,?_,?_⟩⟩⟩⟩
       ·refine W.tD (b:=b) (by rw [af];simp [b7.cd,aI]) (by simp [b7.cd,aI]) h3 (λh=>by cases h) (λh=>by cases h) iM l7 oe λH tL cq he=>?_;refine ⟨λh=>(by grind),λ_=>⟨ef,fw,ct,?_,by omega,gi,?_⟩⟩
        ·have:ef.size=cs.size:=by
          rw [<-Array.length_toList,fc];grind
         omega
        ·exact hG.g0 he e6 hc (by omega) fc
       ·grind
       ·simp only [aE.cy,if_true,b7.gq];exact hH
       ·simp only [aE.cy,if_true,b7.gq];exact gM
     grind
    grind
   grind
  ·cases h
 ·cases h
theorem ab3 (a2:eO C.P T) {args:Array Operand} {dN:Array TypeId} (bh:∀ i,o.dst=some i->i<C.nt) (al:o.op=.call { callee:=.builtin .clear,args:=args,argTypes:=dN })
  (h:(BY T (a_ C.aZ s.aD) args.toList dN.toList).run s.ag=some res):cK C o s res:=by
 obtain ⟨args⟩:=args;obtain ⟨dN⟩:=dN;have aN:∀ c,o.op≠.defer c:=by grind
 simp only [BY] at h;split at h
 ·rename_i x t;split at h
  ·rename_i e aR;have d':=a2.cb aR (by simp);obtain ⟨lM,aC,l9,pE⟩:=d'.sl;obtain ⟨inf,z,i1,i2,i3,i4,i5,i6⟩:=mE l9.mD;have lL:0<e.size:=Nat.pos_of_ne_zero pE;split at h
   ·rename_i b g a4 U fk;simp only [az.gr,az.bW] at h;split at h
    ·rename_i aL;split at h
     ·rename_i a9 xs af;split at h
      ·rename_i ru;subst ru;simp only [Option.some.injEq] at h;subst h;intro a w κ F Q W be _;have au:bw C.P s.ag κ F w (use (a_ C.aZ s.aD x)).2 (a.eval x):=cU W x rfl be;rw [fk] at au;have a6:=W.bI b;unfold cO at a6;rw [af] at a6;obtain ⟨⟨aS,aY⟩,bK⟩:=au.2 aL.symm (by rw [af];rfl);rw [af] at aY bK;simp only [b7.len,b7.gq] at aY bK;have nC:∀ (w':World) v,(Builtin.clear_ #[t] o.type #[a.eval x]).run C.P w=.ok v w'->(execOp a.eval o).run C.P w=.ok (.value v) w':=by
        intro w' v aj;refine vw al ?_;simp [builtin,aj]
       have nE:(List.replicate (U - a4) a9.ee).length=U - a4:=by simp
       have zF:(g0 xs a4 (List.replicate (U - a4) a9.ee)).length=xs.length:=by simp [g0];omega
       have h3:gT s.ag κ (λi=>if i=b then (⟨(s.ag b).gen,.bu a9 (g0 xs a4 (List.replicate (U - a4) a9.ee))⟩:bS) else s.ag i) κ:=
        vp rfl (λh=>by cases h) (λ_=>by rw [af];exact ⟨rfl,zF,rfl⟩) (λh=>by cases h) (λh=>by cases h)
       have nothing:U - a4=0->g0 xs a4 (List.replicate (U - a4) a9.ee)=xs:=λaW=>by rw [aW];simp [g0]
       have ik:U - a4=0->s.cy b ⟨(s.ag b).gen,.bu a9 (g0 xs a4 (List.replicate (U - a4) a9.ee))⟩=s:=λaW=>by
        rw [nothing aW];unfold aE.cy;have:(λi=>if i=b then (⟨(s.ag b).gen,.bu a9 xs⟩:bS) else s.ag i)=s.ag:=by
         funext i;by_cases U:i=b
         ·subst U;simp only [if_true];rw [<-af]
         grind
        rw [this]
       rcases bK with ⟨aI,aj⟩ | ⟨aI,m6,aj,hH,gM⟩
       ·have jK:=a6.1 aI;subst jK;have vH:U - a4=0:=by grind
        have dj:(Builtin.clear_ #[t] o.type #[a.eval x]).run C.P w=.ok (.tuple #[]) w:=by
         rw [aj];simp [Builtin.clear_,dW aC]
        refine h1 aN (nC w _ dj) ⟨κ,F,bl.set (s:=s.cy b _) ?_ bh trivial⟩;grind
       ·obtain ⟨cs,fw,bH,b2,cw,gi,hG⟩:=a6.2 aI;by_cases aW:U - a4=0
        ·have dj:(Builtin.clear_ #[t] o.type #[a.eval x]).run C.P w=.ok (.tuple #[]) w:=by
          rw [aj,aW];simp [Builtin.clear_,dW aC]
         refine h1 aN (nC w _ dj) ⟨κ,F,bl.set (s:=s.cy b _) ?_ bh trivial⟩;grind
        ·obtain ⟨n,rA⟩:∃ n,U - a4=n+1:=⟨U - a4 - 1,by omega⟩
         have ob:hg C.P a9 F w ((Array.range ((U - a4)*a9.size)).map (λi=>z.cells[i % z.cells.size]!)).toList (List.replicate (U - a4) a9.ee):=Rq i5 _;have Cl:z.cells.size=a9.size:=by
          obtain ⟨c,Ck,lH,jL⟩:=w8 (P:=C.P) (H:=λ_=>⟨0,.gK⟩) (κ:=λ_=>⟨0,0,0,true⟩) (F:=F) (w:=w) a9 i5;rw [List.append_nil] at Ck;rw [<-Array.length_toList,Ck];exact jj a9 lH
         have pG:=ob.1;rw [nE] at pG;have oM:=ob.one lL;revert ob pG oM;generalize lN:((Array.range ((U - a4)*a9.size)).map (λi=>z.cells[i % z.cells.size]!)).toList=e7;intro ob pG oM;have Ru:xs.length*a9.size<=(κ b).cap*a9.size:=Nat.mul_le_mul_right _ cw;have Co:(a4+(U - a4))*a9.size<=xs.length*a9.size:=Nat.mul_le_mul_right _ (by omega);rw [Nat.add_mul] at Co;have tV:m6=(κ b).off+a4*a9.size:=gM (by omega);obtain ⟨w',ef,b4,ct,fc,iM,l7,oe⟩:=xb (P:=C.P) e7 ((κ b).off+a4*a9.size) 0 w cs bH (by omega) oM;have dj:(Builtin.clear_ #[t] o.type #[a.eval x]).run C.P w=.ok (.tuple #[]) w':=by
          rw [aj,tV];have bm:(Builtin.zeroCells z.cells (U - a4)).toList=e7:=by rw [<-lN,<-Cl];rfl
          simp only [Builtin.clear_,List.getElem?_toArray,List.getElem?_cons_zero,Sem.run_bind,dW aC,Result.andThen_ok,sm i1 i4,rA];simp_all
         refine h1 aN (nC w' _ dj) ⟨κ,F,bl.set (s:=s.cy b _) ?_ bh trivial⟩;refine W.tD (b:=b) (by rw [af];simp [b7.cd,aI]) (by simp [b7.cd,aI]) h3 (λh=>by cases h) (λh=>by cases h) iM l7 oe λH tL cq he=>?_;refine ⟨λh=>(by grind),λ_=>⟨ef,fw,ct,?_,by omega,gi,?_⟩⟩
         ·have:ef.size=cs.size:=by
           rw [<-Array.length_toList,fc];grind
          omega
         ·exact hG.g0 he ob (by omega) (by omega) (by omega)
      grind
     grind
    grind
   ·cases h
  ·cases h
 ·cases h
end
end Go.Fer
namespace Go.Fer
open Go.RowKit
section
variable {C:cf} {T:Nat->ai} {bd:Nat->Option aU} {o:Oper} {s:aE} {res:fj}
theorem Rw {qo:Nat->Option (Nat×Nat)} {size:Nat} (ar:∀ i,qo i=some (i*size,size)):∀ (qs:List (Nat×Value)) (cs:Array Value),(∀ q∈qs,q.2.cells.size=size/\q.1*size+size<=cs.size)->(qs.map (·.1)).Nodup->
  ∃ ef,Instr.fill qo cs qs=some ef/\ef.size=cs.size/\∀ i,i*size+size<=cs.size->(ef.toList.drop (i*size)).take size=(match qs.find? (λp=>p.1 == i) with | some q=>q.2.cells.toList | none=>(cs.toList.drop (i*size)).take size)
 | [],cs,_,_=>⟨cs,rfl,rfl,λi _=>rfl⟩
 | (k,v)::qs,cs,h,aI=>by
  obtain ⟨M,aa⟩:=h (k,v) (by simp);simp only at M aa;have Fk:=Fi v.cells.toList 0 (k*size) cs (by grind);have e:(v.cells.zipIdx.foldl (λ(cs:Array Value) (p:Value×Nat)=>cs.setIfInBounds (k*size+p.2) p.1) cs)=((v.cells.toList.zipIdx 0).foldl (λ(cs:Array Value) (p:Value×Nat)=>cs.setIfInBounds (k*size+p.2) p.1) cs):=by
   rw [<-Array.foldl_toList];simp
  generalize asy:(v.cells.zipIdx.foldl (λ(cs:Array Value) (p:Value×Nat)=>cs.setIfInBounds (k*size+p.2) p.1) cs)=Fw at *
  have Kn:Fw.toList=cs.toList.take (k*size)++(v.cells.toList++cs.toList.drop (k*size+size)):=by
   grind
  have cH:Fw.size=cs.size:=by
   rw [<-Array.length_toList,Kn];grind
  have tW:(qs.map (·.1)).Nodup/\k ∉ qs.map (·.1):=by
   grind
  obtain ⟨ef,aS,aY,bK⟩:=Rw ar qs Fw (λq bt=>by grind) tW.1;refine ⟨ef,?_,by omega,λi U=>?_⟩
  ·simp only [Instr.fill,ar];grind
  ·rw [bK i (by omega)];by_cases km:k=i
   ·grind
   ·have:((k,v)::qs).find? (λp=>p.1 == i)=qs.find? (λp=>p.1 == i):=by grind
    rw [this];have ob:(Fw.toList.drop (i*size)).take size=(cs.toList.drop (i*size)).take size:=by
     apply List.ext_getElem?;intro j;simp only [List.getElem?_take,List.getElem?_drop];split
     ·rename_i aC;rw [Kn];have qp:(List.take (k*size) cs.toList).length=k*size:=by grind
      have B7:v.cells.toList.length=size:=by omega
      rcases Nat.lt_or_ge i k with an | an
      ·have:(i+1)*size<=k*size:=Nat.mul_le_mul_right _ (by omega);grind
      ·have:(k+1)*size<=i*size:=Nat.mul_le_mul_right _ (by omega);rw [Nat.add_mul] at this;rw [List.getElem?_append_right (by omega),qp,List.getElem?_append_right (by omega),List.getElem?_drop];congr 1;omega
     ·rfl
    grind
theorem ab4 (a2:eO C.P T) {ty n:Nat} {ps:Array (Nat×Operand)} (bh:∀ i,o.dst=some i->i<C.nt) (al:o.op=.buildSlice ty n ps) (h:(bo C.aZ T bd (a_ C.aZ s.aD) o).run s.ag=some res):cK C o s res:=by
 obtain ⟨ps⟩:=ps;have aN:∀ c,o.op≠.defer c:=by grind
 simp only [bo,al] at h;split at h
 ·rename_i e aR;have d':=a2.cb aR (by simp);obtain ⟨lM,aC,l9,pE⟩:=d'.sl;obtain ⟨inf,z,i1,i2,i3,i4,i5,i6⟩:=mE l9.mD;simp only [az.fR,Option.bind_eq_some_iff,az.run_bind] at h;obtain ⟨⟨xs,b8⟩,jK,h⟩:=h;obtain ⟨b,asz,ak⟩:=sn h;split at ak
  ·rename_i Cp;obtain ⟨asA,Rx⟩:=Cp;simp only [Bool.and_eq_true,Bool.not_eq_true',decide_eq_true_eq] at Rx;obtain ⟨⟨gW,Fx⟩,ab5⟩:=Rx;have vA:b ∉ b8:=by grind
   simp only [Option.some.injEq] at ak;subst ak;intro a w κ F Q W be _;obtain ⟨F',f1,bc,f2⟩:=bl.mH (aby n 0 jK) W;obtain ⟨asB,ab6,lH,jL⟩:=w8 (P:=C.P) (H:=s.ag) (κ:=κ) (F:=F') (w:=w) e i5;rw [List.append_nil] at ab6;have ab7:=Q2 W ps be;have fl:=abA W.bI f1 lH (ps:=n_ (ps.map λp=>(p.1,a_ C.aZ s.aD p.2))) (qs:=ps.map λp=>(p.1,a.eval p.2)) (by simp [n_]) ab7 n 0 jK f2;have Cl:=(JW e (P:=C.P) i5).2;have ab8:∀ p∈ps,p.1<n:=by
    intro p ar;have:=List.all_eq_true.1 ab5 (p.1,(use (a_ C.aZ s.aD p.2)).2) (by simp only [n_,List.map_map,List.mem_map];grind);grind
   have ab9:((ps.map λp=>(p.1,a.eval p.2)).map (·.1)).Nodup:=by
    have:(n_ (ps.map λp=>(p.1,a_ C.aZ s.aD p.2))).map (·.1)=(ps.map λp=>(p.1,a.eval p.2)).map (·.1):=by simp [n_]
    grind
   have asC:∀ q∈ps.map (λp=>(p.1,a.eval p.2)),q.2.cells.size=e.size/\q.1*e.size+e.size<=n*e.size:=by
    intro q bt;obtain ⟨p,ar,rfl⟩:=List.mem_map.1 bt;have cq:=ab8 p ar;refine ⟨?_,by
     have:(p.1+1)*e.size<=n*e.size:=Nat.mul_le_mul_right _ (by omega);grind⟩
    obtain ⟨bn,d1,d2⟩:=fl.2 p.1 (by omega);rw [Nat.zero_add] at d2;have zG:(ps.map λp=>(p.1,a.eval p.2)).find? (λr=>r.1 == p.1)=some (p.1,a.eval p.2):=by
     have asD:∀ (l:List (Nat×Value)),(l.map (·.1)).Nodup->∀ q∈l,l.find? (λr=>r.1 == q.1)=some q:=by
      intro l;induction l with
      | nil=>simp
      | cons c l aO=>
       grind
     grind
    rw [zG] at d2;have:=jj e d1;grind
   have Ry:z.cells.size≠0:=by omega
   let base:Array Value:=(Array.range (n*e.size)).map (λi=>z.cells[i % z.cells.size]!);have asE:base.size=n*e.size:=by grind
   obtain ⟨ef,aS,aY,bK⟩:=Rw (qo:=λi=>some (i*e.size,e.size)) (λi=>rfl) (ps.map λp=>(p.1,a.eval p.2)) base (by grind) ab9;have asF:∀ i,i<n->(base.toList.drop (i*e.size)).take e.size=z.cells.toList:=by
    intro i U;have hle:(i+1)*e.size<=n*e.size:=Nat.mul_le_mul_right _ (by omega);rw [Nat.add_mul] at hle;apply List.ext_getElem?;intro j;simp only [List.getElem?_take,List.getElem?_drop];split
    ·rename_i aC;have gU:j<z.cells.size:=by omega
     rw [Array.getElem?_toList,Array.getElem?_toList];have zB:(i*e.size+j) % z.cells.size=j:=by rw [Cl,Nat.add_comm,Nat.add_mul_mod_self_right,Nat.mod_eq_of_lt aC]
     grind
    grind
   have ab_:hg C.P e F' w ef.toList xs:=by
    refine ⟨by grind,λi U=>?_⟩;have eA:i<n:=by omega
    have hle:(i+1)*e.size<=n*e.size:=Nat.mul_le_mul_right _ (by omega);grind
   have dj:(execOp a.eval o).run C.P w=.ok (.value (.slice (some ⟨w.heap.size,0,none⟩) n n)) (w.alloc (.cells ef lM)):=by
    have ab':¬n*e.size > 2 ^ 24:=by omega
    simp only [execOp,al,Instr.buildSlice,Sem.run_bind,dW aC,Result.andThen_ok,sk i1,i2,ab',if_false];by_cases rz:n*e.size=0
    ·have tX:base=#[]:=Array.eq_empty_of_size_eq_zero (by omega);rw [tX] at aS;simp only [rz,if_true,Sem.run_bind,Sem.run_pure,Result.andThen_ok];rw [show ((Array.range 0).map (λi=>(#[]:Array Value)[i % (#[]:Array Value).size]!))=#[] from by simp];simp only [List.map_toArray] at aS ⊢;rw [show Instr.fill (λi=>some (i*e.size,e.size)) #[] (ps.map λx=>(x.1,a.eval x.2))=some ef from aS];rfl
    ·simp only [rz,if_false,Sem.run_bind,sm i1 i4,Result.andThen_ok,Sem.run_pure];simp only [List.map_toArray];rw [show Instr.fill (λi=>some (i*e.size,e.size)) ((Array.range (n*e.size)).map (λi=>z.cells[i % z.cells.size]!)) (ps.map λx=>(x.1,a.eval x.2))=some ef from aS];rfl
   have sr:s.gV ((kL b8).run s.ag++[(b,⟨(s.ag b).gen+1,.bu e xs⟩)])=(s.cL b8).cy b ⟨(s.ag b).gen+1,.bu e xs⟩:=by
    rw [Fh,vx]
   have pH:(s.cL b8).ag b=s.ag b:=by simp [aE.cL,vA]
   have an:=bc.Cd (b:=b) (g:=(s.ag b).gen+1) (zs:=xs) (k:=⟨w.heap.size,0,n,false⟩) (w':=w.alloc (.cells ef lM)) (by grind) (.inr rfl) (by simp) (λr W=>qk w _ W) (λ_=>by simp) ⟨rfl,rfl,rfl⟩
    (λH κ'=>⟨λh=>(by cases h),λ_=>⟨ef,lM,ri w _,by grind,by grind,by
     have:n<=n*e.size:=Nat.le_mul_of_pos_right _ (Nat.pos_of_ne_zero pE);grind,(ab_.Cb (pre:=[]) (post:=[]) (by simp)).nw (c6.alloc bc.dM _)⟩⟩)
   refine h1 aN dj ?_;simp only [aE.i_];rw [sr];exact ⟨_,F',bl.set an bh ⟨⟨by simp [aE.cy],rfl⟩,λ_ _=>by simp [aE.cy,bD.slice,b7.len,fl.1]⟩⟩
  grind
 ·cases h
theorem gS.mono {P:Program} {t:ai} {F F':Nat->Prop} {w w':World} {aH:List Value} {x:t.aq} (h:gS P t F w aH x) (bB:∀ r,F r->F' r) (he:c6 F w w'):gS P t F' w' aH x:=⟨h.1,gp t bB he h.2⟩
theorem aca {k:FuncId} {caps:List Operand} (bh:∀ i,o.dst=some i->i<C.nt) (al:o.op=.makeFunc (.func k) #[] ⟨caps⟩) {v:E0} (aj:C.aZ.tC k=some v)
  (h:((j3 (hb (v.cs.map .bQ)) ((caps.map (a_ C.aZ s.aD)).map λv=>(use v).2)).c7 λ(y,b8)=>(kL b8).bind λwl=>.ret (some ⟨k_ (caps.map (a_ C.aZ s.aD)),True,.val (.fn (hb v.as) v.a5) (λx=>v.sh (EZ v.as (v.cs.map .bQ) x y)),wl⟩):az (Option fj)).run s.ag=some res):cK C o s res:=by
 simp only [az.fR,Option.bind_eq_some_iff,az.run_bind,az.bW,Option.some.injEq] at h;obtain ⟨⟨y,l⟩,aJ,rfl⟩:=h;intro a w κ F Q W be _;obtain ⟨F',f1,bc,f2⟩:=bl.mH (qt _ aJ) W;have ep:gS C.P (hb (v.cs.map .bQ)) F' w (caps.map a.eval) y:=by
  refine vF W.bI f1 _ aJ f2 (by simp) λi U eA=>?_;simp only [List.getElem_map];have e1:i<caps.length:=by grind
  have M:=sq be i (by grind);have aK:(caps.map (a_ C.aZ s.aD)).getD i .undef=a_ C.aZ s.aD caps[i]:=by grind
  rw [aK] at M;exact pz (kN W caps[i]) M
 obtain ⟨aA,xh⟩:=W.l2.tC k v aj;have dj:(execOp a.eval o).run C.P w=.ok (.value (.func (.func k) #[] (caps.map a.eval).toArray)) w:=by simp [execOp,al,Instr.makeFunc]
 refine h1 (by grind) dj ⟨κ,F',?_⟩;simp only [aE.i_];rw [vx];refine bl.set bc bh ((fa rfl).2 ⟨rfl,_,rfl,⟨rfl,rfl⟩,λF2 c8 zH Ko xi args x M aa an=>⟨k,_,rfl,xh.enter,?_⟩⟩);have aC:=Qr v.as (v.cs.map .bQ) aA (P:=C.P) (F:=F2) (w:=c8) ⟨M,aa⟩ (ep.mono zH Ko);have:=xh.mZ F2 c8 _ _ xi aC an;have e:(args++caps.map a.eval).toArray=args.toArray++(caps.map a.eval).toArray:=by simp
 rw [e] at this;exact this.mono λe tA ⟨v,y,aK,bq,⟨aH,cF,hd,j0⟩,qh⟩=>⟨v,y,aH,aK,bq,cF,hd,j0,qh⟩
theorem acb {k:FuncId} {caps:List Operand} (bh:∀ i,o.dst=some i->i<C.nt) (al:o.op=.makeFunc (.func k) #[] ⟨caps⟩) {v:w3} (aj:C.aZ.w4 k=some v)
  (h:((j3 (hb (v.cs.map .bQ)) ((caps.map (a_ C.aZ s.aD)).map λv=>(use v).2)).c7 λ(y,b8)=>(kL b8).bind λwl=>.ret (some ⟨k_ (caps.map (a_ C.aZ s.aD)),True,.val (.cj v.aM) (v.S y),wl⟩):az (Option fj)).run s.ag=some res):cK C o s res:=by
 simp only [az.fR,Option.bind_eq_some_iff,az.run_bind,az.bW,Option.some.injEq] at h;obtain ⟨⟨y,l⟩,aJ,rfl⟩:=h;intro a w κ F Q W be _;obtain ⟨F',f1,bc,f2⟩:=bl.mH (qt _ aJ) W;have ep:gS C.P (hb (v.cs.map .bQ)) F' w (caps.map a.eval) y:=by
  refine vF W.bI f1 _ aJ f2 (by simp) λi U eA=>?_;simp only [List.getElem_map];have e1:i<caps.length:=by grind
  have M:=sq be i (by grind);have aK:(caps.map (a_ C.aZ s.aD)).getD i .undef=a_ C.aZ s.aD caps[i]:=by grind
  rw [aK] at M;exact pz (kN W caps[i]) M
 have xh:=W.l2.w4 k v aj;have dj:(execOp a.eval o).run C.P w=.ok (.value (.func (.func k) #[] (caps.map a.eval).toArray)) w:=by simp [execOp,al,Instr.makeFunc]
 refine h1 (by grind) dj ⟨κ,F',?_⟩;simp only [aE.i_];rw [vx];refine bl.set bc bh ((fa rfl).2 ⟨rfl,_,rfl,⟨rfl,rfl⟩,λF2 c8 zH Ko xi cI=>⟨k,_,rfl,xh.enter,λl I Y jm m8 fs=>?_⟩⟩);exact xh.mZ F2 c8 _ _ xi (ep.mono zH Ko) cI l I Y jm m8 fs
theorem acd {k:FuncId} {caps:Array Operand} (bh:∀ i,o.dst=some i->i<C.nt) (al:o.op=.makeFunc (.func k) #[] caps) (h:(bo C.aZ T bd (a_ C.aZ s.aD) o).run s.ag=some res):cK C o s res:=by
 obtain ⟨caps⟩:=caps;simp only [bo,al,Array.isEmpty_empty,if_true] at h;split at h;case h_1 v aj=>exact aca bh al aj h
 split at h;case h_1 v aj=>exact acb bh al aj h
 simp only [bR,az.bW,Option.some.injEq] at h;subst h;refine cK.pure (by grind) bh λa w κ F W be _=>?_;refine ⟨.func (.func k) #[] (caps.map a.eval).toArray,by simp [execOp,al,Instr.makeFunc],caps.map a.eval,rfl,by simp,λi U=>?_⟩;have eA:i<caps.length:=by grind
 have M:(use ((caps.map (a_ C.aZ s.aD)).getD i .undef)).1:=sq be i (by omega);have aK:(caps.map (a_ C.aZ s.aD)).getD i .undef=a_ C.aZ s.aD caps[i]:=by grind
 rw [aK] at M;have aa:=pz (kN W caps[i]) M;have bq:(caps.map a.eval).getD i Go.undef=a.eval caps[i]:=by grind
 have cF:hN ((caps.map (a_ C.aZ s.aD)).map λv=>(use v).2) i=(use (a_ C.aZ s.aD caps[i])).2:=by simp [hN,List.getD_eq_getElem?_getD,eA]
 grind
theorem ace {k:FuncId} {first caps:Array Operand} (bh:∀ i,o.dst=some i->i<C.nt) (al:o.op=.makeFunc (.func k) first caps) (ax:first.isEmpty=false) (h:(bo C.aZ T bd (a_ C.aZ s.aD) o).run s.ag=some res):cK C o s res:=by
 obtain ⟨first⟩:=first
 simp only [bo,al,ax,Bool.false_eq_true,if_false] at h;split at h
 ·rename_i hc;have hc:caps=#[]:=by grind
  subst hc;simp only [bR,az.bW,Option.some.injEq] at h;subst h;refine cK.pure (by grind) bh λa w κ F W be _=>?_;refine ⟨.func (.func k) (first.map a.eval).toArray #[],by simp [execOp,al,Instr.makeFunc],first.map a.eval,rfl,by simp,λi U=>?_⟩;have eA:i<first.length:=by omega
  have M:(use ((first.map (a_ C.aZ s.aD)).getD i .undef)).1:=sq be i (by grind);have aK:(first.map (a_ C.aZ s.aD)).getD i .undef=a_ C.aZ s.aD first[i]:=by grind
  rw [aK] at M;have aa:=pz (kN W first[i]) M;have bq:(first.map a.eval).getD i Go.undef=a.eval first[i]:=by grind
  have cF:hN ((first.map (a_ C.aZ s.aD)).map λv=>(use v).2) i=(use (a_ C.aZ s.aD first[i])).2:=by simp [hN,List.getD_eq_getElem?_getD,eA]
  grind
 ·cases h
def m9 (o:Oper) (nt:Nat):Bool:=
 (match o.dst with | some d=>decide (d<nt) | none=>true)&&(match o.op with | .store _ _ _=>o.dst.isNone | .mapUpdate _ _ _ _=>o.dst.isNone | .insert _ _ _ _=>o.dst.isNone | _=>true)
theorem xj (a2:eO C.P T) (c0:kP C.P bd) (aN:m9 o C.nt=true) (h:(bo C.aZ T bd (a_ C.aZ s.aD) o).run s.ag=some res):cK C o s res:=by
 simp only [m9,Bool.and_eq_true] at aN;have bh:∀ i,o.dst=some i->i<C.nt:=λi U=>by
  grind
 cases al:o.op with
 | move x=>exact aay bh al h
 | assign x=>exact aaz bh al h
 | pick c a b=>exact aaA bh al h
 | binOp op t x y cT=>exact aaI a2 bh al h
 | unOp op t x=>exact aaB bh al h
 | extract t i=>exact aaC bh al h
 | nilCheck x=>exact aaD bh al h
 | fieldAddr t x f=>exact aaE a2 bh al h
 | field t x f=>exact aaF a2 bh al h
 | load t x=>exact aaL a2 bh al h
 | store t x y=>
  have:=aN.2;rw [al] at this;exact aa8 a2 (by grind) al h
 | alloc t=>
  by_cases aR:T t=.da
  ·simp only [bo,al,aR] at h;obtain ⟨_,_,ak⟩:=sn h;grind
  ·exact aaY a2 bh al h aR
 | box t x=>exact aa0 bh al h
 | build t ps=>exact aa6 a2 bh al h
 | buildSlice t n ps=>exact ab4 a2 bh al h
 | indexAddr t x i=>exact abc a2 bh al h
 | index t x i=>exact aaN a2 bh al h
 | convert a b x=>exact aaP a2 bh al h
 | makeFunc fn first caps=>
  cases fn with
  | func k=>
   by_cases ax:first=#[]
   ·subst ax;exact acd bh al h
   ·exact ace bh al (by grind) h
  | _=>simp [bo,al,az.none] at h
 | makeMap t r=>exact abF bh al h
 | lookup t m x ok=>exact abG a2 bh al h
 | mapUpdate t m x y=>
  have:=aN.2;rw [al] at this;exact Kg a2 (by grind) (.inl al) h
 | insert t m x y=>
  have:=aN.2;rw [al] at this;exact Kg a2 (by grind) (.inr al) h
 | makeSlice t l c=>exact abN a2 bh al h
 | makeInterface t x=>exact Rv (by simp [bo,al,bR]) h
 | panic x=>exact Rv (by simp [bo,al,bR]) h
 | slice t x a4 U py=>
  cases py with
  | none=>exact abe a2 bh al h
  | some m=>exact abZ a2 bh al h
 | call c=>
  obtain ⟨callee,args,dN⟩:=c;cases callee with
  | value f=>
   cases f with
   | func k=>exact abz c0 bh al h
   | _=>simp [bo,al,ny,az.none] at h
  | invoke r m=>simp [bo,al,ny,az.none] at h
  | builtin b=>
   cases b with
   | len=>exact aaV a2 bh al h
   | append=>
    cases aA:w_ (a_ C.aZ s.aD) args.toList with
    | none=>exact abq a2 bh al (by simpa [bo,al,ny,aA] using h)
    | some p=>exact ab2 a2 bh al aA (by simpa [bo,al,ny,aA] using h)
   | clear=>exact ab3 a2 bh al (by simpa [bo,al,ny] using h)
   | copy=>exact abU a2 bh al h
   | min=>exact QV (.inl ⟨rfl,rfl⟩) bh al (by simpa [bo,al,ny] using h)
   | max=>exact QV (.inr ⟨rfl,rfl⟩) bh al (by simpa [bo,al,ny] using h)
   | cap=>exact aaW a2 bh al (by simpa [bo,al,ny] using h)
   | _=>simp [bo,al,ny,az.none] at h
 | _=>simp [bo,al,az.none] at h
end
end Go.Fer
namespace Go.Fer
open Go.RowKit
def az.dk {ao:Type} (p:ao->Prop):az ao->Prop
 | .ret a=>p a
 | .eV _ k=>∀ x,(k x).dk p
theorem az.dk.run {ao:Type} {p:ao->Prop} {m:az ao} (h:m.dk p) (H:Nat->bS):p (m.run H):=by
 induction m with
 | ret a=>exact h
 | eV b k aO=>exact aO _ (h _)
theorem az.dk.bind {ao β:Type} {p:β->Prop} {m:az ao} {f:ao->az β} (h:∀ a,(f a).dk p):(m.bind f).dk p:=by
 induction m with
 | ret a=>exact h a
 | eV b k aO=>exact λx=>aO x
def l' {ao:Type} (p:ao->Prop) (x:Option ao):Prop:=∀ a,x=some a->p a
theorem az.dk.c7 {ao β:Type} {p:β->Prop} {m:az (Option ao)} {f:ao->az (Option β)} (h:∀ a,(f a).dk (l' p)):(m.c7 f).dk (l' p):=by
 refine az.dk.bind λa=>?_;cases a with
 | none=>intro a h;cases h
 | some a=>grind
theorem az.dk.Rz {ao β:Type} {q:ao->Prop} {p:β->Prop} {m:az (Option ao)} {f:ao->az (Option β)} (hm:m.dk (l' q)) (h:∀ a,q a->(f a).dk (l' p)):(m.c7 f).dk (l' p):=by
 unfold az.c7;induction m with
 | ret a=>
  cases a with
  | none=>intro b af;cases af
  | some a=>exact h a (hm a rfl)
 | eV b k aO=>exact λx=>aO x (hm x)
theorem az.dk.bY {ao:Type} {p:ao->Prop}:(az.none:az (Option ao)).dk (l' p):=by intro a h;cases h
theorem az.dk.nF {ao:Type} {p:ao->Prop} {a:ao} (h:p a):(az.ret (some a)).dk (l' p):=by intro b af;grind
theorem az.dk.nil {ao:Type} {p:ao->Prop}:(az.ret (Option.none:Option ao)).dk (l' p):=by intro b af;cases af
theorem az.dk.bR {p:fj->Prop} {cD c:Prop} {v:aP} (h:p ⟨cD,c,v,[]⟩):(bR cD c v).dk (l' p):=az.dk.nF h
theorem az.dk.jl {p:fj->Prop} {d:Option Nat} {k:Nat->Nat->Option fj} (h:∀ b g,l' p (k b g)):(jl d k).dk (l' p):=by
 unfold Go.Fer.jl;split
 ·exact .bY
 ·exact λx=>h _ _
def aP.zI:aP->Bool
 | .ie _ _=>true
 | _=>false
theorem Fy {a:aP} (h:a.zI=false):(use a).1:=by
 cases a<;>first | trivial | cases h
def sw (aQ:Operand->aP) (o:Oper):Bool:=o.op.operands.toList.all λx=>!(aQ x).zI
def aP.acf:aP->Bool
 | .dQ _ _=>false
 | .val (.map _ _) _=>false
 | _=>true
def Fz (aQ:Operand->aP) (b:Builtin) (args:List Operand):Bool:=
 match b with
 | .len=>match args with
  | [x]=>(use (aQ x)).2.acf
  | _=>false
 | .min=>true
 | .max=>true
 | _=>false
def oP (aQ:Operand->aP) (o:Oper):Bool:=
 match o.op with
 | .move _ | .assign _ | .pick .. | .unOp .. | .extract .. | .fieldAddr .. | .field .. | .load .. | .store .. | .alloc .. | .box .. | .build .. | .buildSlice .. | .convert .. | .makeFunc .. | .makeMap .. | .lookup .. | .mapUpdate .. | .insert ..=>true
 | .binOp op _ x _ _=>match op with
  | .quo | .rem | .shl | .shr=>false
  | .add=>(use (aQ x)).2.l3.isSome
  | _=>true
 | .call c=>match c.callee with
  | .builtin b=>Fz aQ b c.args.toList
  | _=>false
 | _=>false
theorem acg {op:BinOp} {k:IntKind} {a b:Int} {c:Prop} {v:aP} (h:zc op k a b=some (c,v)) (M:op≠.quo) (aa:op≠.rem):c:=by
 cases op<;>simp only [zc,Option.some.injEq,Prod.mk.injEq,reduceCtorEq] at h<;>first | (obtain ⟨rfl,_⟩:=h;trivial) | contradiction
theorem ach {op:BinOp} {a b:List UInt8} {c:Prop} {v:aP} (h:BR op a b=some (c,v)) (M:op≠.add):c:=by
 cases op<;>simp only [BR,Option.some.injEq,Prod.mk.injEq,reduceCtorEq] at h<;>first | (obtain ⟨rfl,_⟩:=h;trivial) | contradiction
theorem aci {op:BinOp} {t:ai} {x y:aP}:(zd op t x y).dk (l' λr=>r.1):=by
 unfold zd;refine az.dk.c7 λe=>?_;cases op<;>first | exact .nF trivial | exact .nil
section
variable {a1:eG} {T:Nat->ai} {bd:Nat->Option aU} {aQ:Operand->aP} {o:Oper}
theorem acj {op:BinOp} {ty:TypeId} {x y:Operand} {t:TypeId} (al:o.op=.binOp op ty x y t) (hc:oP aQ o=true):(bo a1 T bd aQ o).dk (l' λr=>r.c):=by
 unfold bo;rw [al];simp only;simp only [oP,al] at hc;split
 ·rename_i k a k' b M aa;split
  ·cases hc
  ·cases hc
  ·split
   ·split
    ·rename_i c v U;refine .bR (acg U ?_ ?_)<;>(grind)
    ·exact .bY
   ·exact .bY
 ·rename_i oQ;split
  ·rename_i a b M aa;split
   ·rename_i c v U;refine .bR (ach U ?_);intro e;subst e;simp only at hc;generalize (use (aQ x)).2=z at hc M;cases z<;>try (cases M;done)
    rename_i t d;cases t<;>first | (cases M;done) | (cases hc;done)
   ·exact .bY
  ·exact az.dk.Rz aci λr W=>.bR W
theorem Kp {p:fj->Prop} {ty:TypeId} {m x y:Operand} (h:∀ wl,p ⟨(use (aQ m)).1/\(use (aQ x)).1/\(use (aQ y)).1,True,.undef,wl⟩):(rm T aQ ty m x y).dk (l' p):=by
 unfold rm;split
 ·simp only;split
  ·split
   ·refine az.dk.c7 λ_=>az.dk.c7 λ_=>az.dk.bind λ_=>λz=>?_;intro r W;split at W
    ·split at W
     ·simp only [Option.map_eq_some_iff] at W;grind
     grind
    grind
   ·exact .bY
  ·exact .bY
 ·exact .bY
theorem RA {ty:TypeId} {m x y:Operand}:(rm T aQ ty m x y).dk (l' λr=>r.c):=Kp λ_=>trivial
theorem zJ (hc:oP aQ o=true):(bo a1 T bd aQ o).dk (l' λr=>r.c):=by
 cases al:o.op with
 | binOp op ty x y t=>exact acj al hc
 | move x=>unfold bo;rw [al];exact .bR trivial
 | assign x=>
  unfold bo;rw [al];simp only;split
  ·exact .jl λb g=>λr W=>by grind
  ·exact .bR trivial
 | pick c a b=>
  unfold bo;rw [al];simp only;split
  ·split
   ·split
    ·exact .bR trivial
    ·exact .bY
   ·split
    ·exact .bR trivial
    ·exact .bY
   ·exact .bY
  ·exact .bY
 | unOp op t x=>
  unfold bo;rw [al];simp only;split
  ·exact .bR trivial
  ·exact .bR trivial
  ·exact .bY
 | extract x i=>
  unfold bo;rw [al];simp only;split
  ·split
   ·exact .bR trivial
   ·exact .bY
  ·exact .bY
 | fieldAddr ty x f=>
  unfold bo;rw [al];simp only;repeat' first | exact .bY | exact .bR trivial | split
  all_goals first
   | (intro z;intro r W;grind)
 | field ty x f=>
  unfold bo;rw [al];simp only;repeat' first | exact .bY | exact .bR trivial | split
 | load ty x=>unfold bo;rw [al];exact az.dk.c7 λ_=>.bR trivial
 | store ty x y=>unfold bo;rw [al];exact az.dk.c7 λ_=>.nF trivial
 | alloc ty=>
  unfold bo;rw [al];simp only;exact .jl λb g=>λr W=>by grind
 | box ty x=>
  unfold bo;rw [al];simp only;split
  ·exact .jl λb g=>λr W=>by grind
  ·exact .bY
 | build ty ps=>
  unfold bo;rw [al];simp only;repeat' first | exact .bY | exact .bR trivial | split
 | buildSlice ty n ps=>
  unfold bo;rw [al];simp only;split
  ·refine az.dk.c7 λ_=>az.dk.bind λ_=>.jl λb g=>λr W=>by grind
  ·exact .bY
 | convert a b x=>
  unfold bo;rw [al];simp only;repeat' first | exact .bY | exact .bR trivial | split
 | makeFunc fn first caps=>
  unfold bo;rw [al];simp only;split
  ·split
   ·split
    ·exact az.dk.c7 λ_=>az.dk.bind λ_=>.nF trivial
    ·split
     ·exact az.dk.c7 λ_=>az.dk.bind λ_=>.nF trivial
     ·exact .bR trivial
   ·split
    ·exact .bR trivial
    ·exact .bY
  ·exact .bY
 | makeMap ty r=>
  unfold bo;rw [al];simp only;split
  ·exact .bY
  ·split
   ·exact .jl λb g=>λr W=>by grind
   ·exact .bY
 | lookup ty m x ok=>
  unfold bo;rw [al];simp only;unfold zh;split
  ·simp only;split
   ·exact az.dk.c7 λ_=>az.dk.c7 λ_=>.bR trivial
   ·exact .bY
  ·exact .bY
 | mapUpdate ty m x y=>
  unfold bo;rw [al];exact RA
 | insert ty m x y=>
  unfold bo;rw [al];exact RA
 | call c=>
  obtain ⟨callee,args,dN⟩:=c;simp only [oP,al] at hc;unfold bo;rw [al];simp only;unfold ny;cases callee with
  | builtin b=>
   simp only at hc ⊢;cases b with
   | len=>
    simp only [BT];split
    ·rename_i x t aK bq;simp only [Fz,aK] at hc;generalize use (aQ x)=u at hc;obtain ⟨c4,eD⟩:=u;simp only at hc ⊢;refine az.dk.Rz (q:=λr:Prop×Int=>r.1) ?_ λr W=>.bR W;generalize T t=ty;cases ty<;>simp only [E7]<;>first | exact .bY | skip
     ·cases eD<;>first | exact .bY | skip
      ·rename_i cT d;cases cT<;>first | exact .bY | exact .nF trivial
     ·cases eD<;>first | exact .bY | exact .nF trivial | skip
      ·rename_i cT d;cases cT<;>first | exact .bY | exact .nF trivial
      ·intro z r W;grind
      ·intro z r W;grind
     ·cases eD<;>first | exact .bY | (cases hc;done) | skip
      ·rename_i cT d;cases cT<;>first | exact .bY | cases hc
    ·exact .bY
   | min=>
    simp only [sj];split
    ·split
     ·split
      ·exact .bR trivial
      ·exact .bY
     ·exact .bY
    ·split
     ·split
      ·exact .bR trivial
      ·exact .bY
     ·exact .bY
    ·exact .bY
   | max=>
    simp only [sj];split
    ·split
     ·split
      ·exact .bR trivial
      ·exact .bY
     ·exact .bY
    ·split
     ·split
      ·exact .bR trivial
      ·exact .bY
     ·exact .bY
    ·exact .bY
   | _=>simp [Fz] at hc
  | _=>cases hc
 | _=>simp [oP,al] at hc
theorem Cq:∀ {l:List aP},(∀ v∈l,(use v).1)->k_ l
 | [],_=>trivial
 | v::l,h=>by
  have M:=h v (by simp);have aa:=Cq (l:=l) λu hu=>h u (by grind);cases v<;>first | exact aa | exact ⟨M,aa⟩
theorem Kq:∀ {l:List (Nat×aP)},(∀ v∈l,(use v.2).1)->vs l
 | [],_=>trivial
 | (i,v)::l,h=>by
  have M:=h (i,v) (by simp);have aa:=Kq (l:=l) λu hu=>h u (by grind);cases v<;>first | exact aa | exact ⟨M,aa⟩
theorem Cr {x:Option Operand} {p:Prop} {n:Option Int} (h:l4 aQ x=some (p,n)) (au:∀ y,x=some y->(use (aQ y)).1):p:=by
 unfold l4 at h;grind
def rB (aQ:Operand->aP) (o:Oper):Prop:=∀ x∈o.op.operands.toList,(use (aQ x)).1
theorem Kr {aQ:Operand->aP} {o:Oper} (h:sw aQ o=true):rB aQ o:=λx au=>Fy (by simpa using List.all_eq_true.1 h x au)
theorem rB.use {aQ:Operand->aP} {o:Oper} (h:rB aQ o) {x:Operand} (au:x∈o.op.operands.toList) {cD:Prop} {v:aP} (hu:use (aQ x)=(cD,v)):cD:=by
 have:=h x au;grind
theorem RB (gj:rB aQ o):(bo a1 T bd aQ o).dk (l' λr=>r.cD):=by
 unfold rB at gj;have ax:∀ x∈o.op.operands.toList,(use (aQ x)).1:=gj;have hu:∀ x∈o.op.operands.toList,∀ {cD:Prop} {v:aP},use (aQ x)=(cD,v)->cD:=λx au cD v h=>rB.use gj au h;cases al:o.op with
 | move x=>unfold bo;rw [al];exact .bR trivial
 | assign x=>
  unfold bo;rw [al];simp only;split
  ·exact .jl λb g=>λr W=>by grind
  ·exact .bR trivial
 | pick c a b=>
  rw [al] at hu;unfold bo;rw [al];simp only;split
  ·rename_i ql nz m_;have M:=hu c (by simp [Op.operands]) m_;split
   ·split
    ·rename_i zi av bf;exact .bR ⟨M,λ_=>hu a (by simp [Op.operands]) bf⟩
    ·exact .bY
   ·split
    ·rename_i zi av bf;exact .bR ⟨M,λ_=>hu b (by simp [Op.operands]) bf⟩
    ·exact .bY
   ·exact .bY
  ·exact .bY
 | binOp op ty x y t=>
  rw [al] at gj;have h:=And.intro (gj x (by simp [Op.operands])) (gj y (by simp [Op.operands]));unfold bo;rw [al];simp only;split
  ·split
   ·split
    ·exact .bR h
    ·exact .bY
   ·split
    ·exact .bR h
    ·exact .bY
   ·split
    ·split
     ·exact .bR h
     ·exact .bY
    ·exact .bY
  ·split
   ·split
    ·exact .bR h
    ·exact .bY
   ·exact az.dk.c7 λ_=>.bR h
 | unOp op t x=>
  rw [al] at hu;unfold bo;rw [al];simp only;split
  ·rename_i au;exact .bR (hu x (by simp [Op.operands]) au)
  ·rename_i au;exact .bR (hu x (by simp [Op.operands]) au)
  ·exact .bY
 | extract x i=>
  rw [al] at hu;unfold bo;rw [al];simp only;split
  ·rename_i au;split
   ·exact .bR (hu x (by simp [Op.operands]) au)
   ·exact .bY
  ·exact .bY
 | nilCheck x=>
  rw [al] at hu;unfold bo;rw [al];simp only;split
  ·rename_i au;exact .bR (hu x (by simp [Op.operands]) au)
  ·rename_i au;exact .bR (hu x (by simp [Op.operands]) au)
  ·rename_i au;intro z r W;split at W<;>cases W;exact hu x (by simp [Op.operands]) au
  ·exact .bY
 | fieldAddr ty x f=>
  rw [al] at hu;unfold bo;rw [al];simp only;split
  ·split
   ·split
    ·rename_i au;intro z r W;split at W<;>cases W;exact hu x (by simp [Op.operands]) au
    ·rename_i au;intro z r W;split at W<;>cases W;exact hu x (by simp [Op.operands]) au
    ·rename_i au;split
     ·split
      ·exact .bR (hu x (by simp [Op.operands]) au)
      ·exact .bY
     ·exact .bY
    ·exact .bY
   ·exact .bY
  ·exact .bY
 | field ty x f=>
  rw [al] at hu;unfold bo;rw [al];simp only;split
  ·split
   ·rename_i au;split
    ·split
     ·exact .bR (hu x (by simp [Op.operands]) au)
     ·exact .bY
    ·exact .bY
   ·exact .bY
  ·exact .bY
 | load ty x=>
  rw [al] at gj;unfold bo;rw [al];exact az.dk.c7 λ_=>.bR (gj x (by simp [Op.operands]))
 | store ty x y=>
  rw [al] at gj;unfold bo;rw [al];exact az.dk.c7 λ_=>.nF ⟨gj x (by simp [Op.operands]),gj y (by simp [Op.operands])⟩
 | alloc ty=>
  unfold bo;rw [al];simp only;exact .jl λb g=>λr W=>by grind
 | box ty x=>
  rw [al] at gj;unfold bo;rw [al];simp only;split
  ·exact .jl λb g=>λr W=>by split at W<;>cases W;exact gj x (by simp [Op.operands])
  ·exact .bY
 | build ty ps=>
  rw [al] at ax;have h:vs (ps.toList.map λp=>(p.1,aQ p.2)):=Kq λv aj=>by
   simp only [List.mem_map] at aj;obtain ⟨p,ar,rfl⟩:=aj;exact ax p.2 (by simp only [Op.operands,List.mem_map];grind)
  unfold bo;rw [al];simp only;split
  ·split
   ·exact .bR h
   ·exact .bY
  ·exact .bY
 | buildSlice ty n ps=>
  rw [al] at ax;have h:vs (ps.toList.map λp=>(p.1,aQ p.2)):=Kq λv aj=>by
   simp only [List.mem_map] at aj;obtain ⟨p,ar,rfl⟩:=aj;exact ax p.2 (by simp only [Op.operands,List.mem_map];grind)
  unfold bo;rw [al];simp only;split
  ·refine az.dk.c7 λ_=>az.dk.bind λ_=>.jl λb g=>λr W=>by grind
  ·exact .bY
 | indexAddr ty x i=>
  rw [al] at gj;have h:=And.intro (gj x (by simp [Op.operands])) (gj i (by simp [Op.operands]));unfold bo;rw [al];simp only;split
  ·exact az.dk.c7 λ_=>.bR h
  ·split
   ·split
    ·exact .bR h
    ·exact .bY
   ·intro z r W;grind
   ·exact .bY
  ·exact .bY
 | index ty x i=>
  rw [al] at gj;have h:=And.intro (gj x (by simp [Op.operands])) (gj i (by simp [Op.operands]));unfold bo;rw [al];simp only;split
  ·exact .bR h
  ·split
   ·split
    ·exact .bR h
    ·exact .bY
   ·split
    ·exact .bR h
    ·exact .bY
   ·exact .bY
  ·exact .bY
 | convert a b x=>
  rw [al] at gj;unfold bo;rw [al];simp only;split
  ·exact .bR (gj x (by simp [Op.operands]))
  ·exact .bY
 | makeFunc fn first caps=>
  rw [al] at ax;have h:k_ (caps.toList.map aQ):=Cq λv aj=>by
   simp only [List.mem_map] at aj;obtain ⟨p,ar,rfl⟩:=aj;exact ax p (by simp [Op.operands];simp_all)
  have aa:k_ (first.toList.map aQ):=Cq λv aj=>by
   simp only [List.mem_map] at aj;obtain ⟨p,ar,rfl⟩:=aj;exact ax p (by simp [Op.operands];simp_all)
  unfold bo;rw [al];simp only;split
  ·split
   ·split
    ·exact az.dk.c7 λ_=>az.dk.bind λ_=>.nF h
    ·split
     ·exact az.dk.c7 λ_=>az.dk.bind λ_=>.nF h
     ·exact .bR h
   ·split
    ·exact .bR aa
    ·exact .bY
  ·exact .bY
 | slice ty x a4 U py=>
  rw [al] at ax gj;unfold bo;rw [al];simp only;split
  ·unfold E';simp only;split
   ·rename_i ol l rl h vt m aw du hm;have be:=And.intro (gj x (by simp [Op.operands])) (And.intro (Cr aw λy aJ=>ax y (by subst aJ;simp [Op.operands])) (And.intro (Cr du λy aJ=>ax y (by subst aJ;simp [Op.operands])) (Cr hm λy aJ=>ax y (by subst aJ;simp [Op.operands]))));split
    ·exact az.dk.c7 λ_=>.nF be
    ·exact .bY
   ·exact .bY
  ·unfold E_;simp only;split
   ·rename_i ol l rl h aw du;have be:=And.intro (gj x (by simp [Op.operands])) (And.intro (Cr aw λy aJ=>ax y (by subst aJ;simp [Op.operands])) (Cr du λy aJ=>ax y (by subst aJ;simp [Op.operands])));split
    ·exact az.dk.c7 λ_=>.nF be
    ·split
     ·exact .bR be
     ·exact .bY
    ·exact .bY
   ·exact .bY
 | call c=>
  rw [al] at ax gj;obtain ⟨callee,args,dN⟩:=c;have ep:∀ x∈args.toList,(use (aQ x)).1:=λx au=>ax x (by simp [Op.operands,Call.operands];simp_all);have ma:∀ x∈args.toList,(use (aQ x)).1:=ep;have gv:k_ (args.toList.map aQ):=Cq λv aj=>by
   grind
  unfold bo;rw [al];simp only;unfold ny;simp only;split
  ·split
   ·unfold BT;split
    ·rename_i x t aK bq;exact az.dk.c7 λ_=>.bR (ma x (by grind))
    ·exact .bY
   ·split
    ·unfold BX;split
     ·rename_i x y t u aK bq;have h:=And.intro (ma x (by grind)) (ma y (by grind));split
      ·simp only;refine az.dk.c7 λ_=>λz=>?_;intro r W;grind
      ·exact .bY
     ·exact .bY
    unfold BU;split
    ·rename_i x y t u aK bq;have h:=And.intro (ma x (by grind)) (ma y (by grind));split
     ·simp only;unfold JG;split
      ·intro z;dsimp only;split
       ·split
        ·exact az.dk.c7 λ_=>.nF h
        ·exact .bY
       ·exact .bY
      ·intro z;dsimp only;split
       ·split
        ·exact az.dk.c7 λ_=>.nF h
        ·exact .bY
       ·exact .bY
      ·exact az.dk.c7 λ_=>.jl λb g=>λr W=>by grind
      ·split
       ·exact az.dk.c7 λ_=>.jl λb g=>λr W=>by grind
       ·exact .bY
      ·exact .bY
     ·exact .bY
    ·exact .bY
   ·unfold BY;split
    ·rename_i x t aK bq;have h:=ma x (by grind);split
     ·simp only;split
      ·intro z;intro r W;grind
      ·exact .bY
     ·exact .bY
    ·exact .bY
   ·unfold Fc;split
    ·rename_i x y t u aK bq;have h:=And.intro (ma x (by grind)) (ma y (by grind));split
     ·simp only;split
      ·refine az.dk.c7 λ_=>λz=>?_;intro r W;grind
      ·exact .bY
     ·exact .bY
    ·exact .bY
   ·unfold sj;split
    ·rename_i x y aK;have h:=And.intro (ma x (by grind)) (ma y (by grind));simp only;split
     ·split
      ·exact .bR h
      ·exact .bY
     ·exact .bY
    ·rename_i x y z aK;have h:=And.intro (ma x (by grind)) (And.intro (ma y (by grind)) (ma z (by grind)));simp only;split
     ·split
      ·exact .bR h
      ·exact .bY
     ·exact .bY
    ·exact .bY
   ·unfold sj;split
    ·rename_i x y aK;have h:=And.intro (ma x (by grind)) (ma y (by grind));simp only;split
     ·split
      ·exact .bR h
      ·exact .bY
     ·exact .bY
    ·rename_i x y z aK;have h:=And.intro (ma x (by grind)) (And.intro (ma y (by grind)) (ma z (by grind)));simp only;split
     ·split
      ·exact .bR h
      ·exact .bY
     ·exact .bY
    ·exact .bY
   ·unfold BV;split
    ·rename_i x t aK bq;have h:=ma x (by grind);split
     ·rename_i cF;exact .bR (by grind)
     ·exact .bY
    ·exact .bY
   ·exact .bY
  ·split
   ·unfold Fa;simp only;split
    ·exact az.dk.c7 λ_=>az.dk.bind λ_=>.nF gv
    ·exact .bY
   ·exact .bY
  ·exact .bY
 | makeMap ty r=>
  unfold bo;rw [al];simp only;split
  ·exact .bY
  ·split
   ·exact .jl λb g=>λr W=>by grind
   ·exact .bY
 | lookup ty m x ok=>
  rw [al] at gj;have h:=And.intro (gj m (by simp [Op.operands])) (gj x (by simp [Op.operands]));unfold bo;rw [al];simp only;unfold zh;split
  ·simp only;split
   ·exact az.dk.c7 λ_=>az.dk.c7 λ_=>.bR h
   ·exact .bY
  ·exact .bY
 | mapUpdate ty m x y=>
  rw [al] at gj;unfold bo;rw [al];exact Kp λ_=>⟨gj m (by simp [Op.operands]),gj x (by simp [Op.operands]),gj y (by simp [Op.operands])⟩
 | insert ty m x y=>
  rw [al] at gj;unfold bo;rw [al];exact Kp λ_=>⟨gj m (by simp [Op.operands]),gj x (by simp [Op.operands]),gj y (by simp [Op.operands])⟩
 | makeSlice ty l c=>
  rw [al] at gj;have h:=And.intro (gj l (by simp [Op.operands])) (gj c (by simp [Op.operands]));unfold bo;rw [al];simp only;unfold Fb;split
  ·simp only;split
   ·exact .jl λb g=>λr W=>by grind
   ·exact .bY
  ·exact .bY
 | makeInterface t x=>unfold bo;rw [al];exact .bR trivial
 | panic x=>unfold bo;rw [al];exact .bR trivial
 | _=>unfold bo;rw [al];exact .bY
theorem RC (hc:sw aQ o=true):(bo a1 T bd aQ o).dk (l' λr=>r.cD):=RB (Kr hc)
end
end Go.Fer
namespace Go.Fer
open Go.RowKit
section
variable {a1:eG} {T:Nat->ai} {bd:Nat->Option aU} {aQ eg:Operand->aP} {o:Oper}
theorem Ks {x:Option Operand} (h:∀ y,x=some y->aQ y=eg y):l4 aQ x=l4 eg x:=by
 cases x with
 | none=>rfl
 | some y=>have:=h y rfl;unfold l4;grind
theorem ack (h:∀ x∈o.op.operands.toList,aQ x=eg x):bo a1 T bd aQ o=bo a1 T bd eg o:=by
 cases al:o.op with
 | move x=>rw [al] at h;have M:=h x (by simp [Op.operands]);unfold bo;simp_all
 | assign x=>rw [al] at h;have M:=h x (by simp [Op.operands]);unfold bo;simp_all
 | pick c a b=>
  rw [al] at h;have M:=h c (by simp [Op.operands]);have aa:=h a (by simp [Op.operands]);have an:=h b (by simp [Op.operands]);unfold bo;simp_all
 | binOp op ty x y t=>
  rw [al] at h;have M:=h x (by simp [Op.operands]);have aa:=h y (by simp [Op.operands]);unfold bo;simp_all
 | unOp op t x=>rw [al] at h;have M:=h x (by simp [Op.operands]);unfold bo;simp_all
 | extract x i=>rw [al] at h;have M:=h x (by simp [Op.operands]);unfold bo;simp_all
 | nilCheck x=>rw [al] at h;have M:=h x (by simp [Op.operands]);unfold bo;simp_all
 | fieldAddr ty x f=>rw [al] at h;have M:=h x (by simp [Op.operands]);unfold bo;simp_all
 | field ty x f=>rw [al] at h;have M:=h x (by simp [Op.operands]);unfold bo;simp_all
 | load ty x=>rw [al] at h;have M:=h x (by simp [Op.operands]);unfold bo;simp_all
 | store ty x y=>
  rw [al] at h;have M:=h x (by simp [Op.operands]);have aa:=h y (by simp [Op.operands]);unfold bo;simp_all
 | alloc ty=>unfold bo;rw [al]
 | box ty x=>rw [al] at h;have M:=h x (by simp [Op.operands]);unfold bo;simp_all
 | build ty ps=>
  rw [al] at h;have M:ps.toList.map (λp=>(p.1,aQ p.2))=ps.toList.map (λp=>(p.1,eg p.2)):=List.map_congr_left λp ar=>by rw [h p.2 (by simp only [Op.operands,List.mem_map];grind)]
  unfold bo;rw [al];grind
 | buildSlice ty n ps=>
  rw [al] at h;have M:ps.toList.map (λp=>(p.1,aQ p.2))=ps.toList.map (λp=>(p.1,eg p.2)):=List.map_congr_left λp ar=>by rw [h p.2 (by simp only [Op.operands,List.mem_map];grind)]
  unfold bo;rw [al];simp only [M]
 | indexAddr ty x i=>
  rw [al] at h;have M:=h x (by simp [Op.operands]);have aa:=h i (by simp [Op.operands]);unfold bo;simp_all
 | index ty x i=>
  rw [al] at h;have M:=h x (by simp [Op.operands]);have aa:=h i (by simp [Op.operands]);unfold bo;simp_all
 | convert a b x=>rw [al] at h;have M:=h x (by simp [Op.operands]);unfold bo;simp_all
 | makeFunc fn first caps=>
  rw [al] at h;have M:caps.toList.map aQ=caps.toList.map eg:=List.map_congr_left λp ar=>h p (by simp [Op.operands];simp_all);have aa:first.toList.map aQ=first.toList.map eg:=List.map_congr_left λp ar=>h p (by simp [Op.operands];simp_all)
  unfold bo;rw [al];simp only [M,aa]
 | lookup ty m x ok=>
  rw [al] at h;have M:=h m (by simp [Op.operands]);have aa:=h x (by simp [Op.operands]);unfold bo;rw [al];simp only [zh,M,aa]
 | mapUpdate ty m x y=>
  rw [al] at h;have M:=h m (by simp [Op.operands]);have aa:=h x (by simp [Op.operands]);have an:=h y (by simp [Op.operands]);unfold bo;rw [al];simp only [rm,M,aa,an]
 | insert ty m x y=>
  rw [al] at h;have M:=h m (by simp [Op.operands]);have aa:=h x (by simp [Op.operands]);have an:=h y (by simp [Op.operands]);unfold bo;rw [al];simp only [rm,M,aa,an]
 | makeSlice ty l c=>
  rw [al] at h;have M:=h l (by simp [Op.operands]);have aa:=h c (by simp [Op.operands]);unfold bo;rw [al];simp only [Fb,M,aa]
 | slice ty x a4 U py=>
  rw [al] at h;have M:=h x (by simp [Op.operands]);have aa:l4 aQ a4=l4 eg a4:=Ks λy aJ=>h y (by subst aJ;simp [Op.operands]);have an:l4 aQ U=l4 eg U:=Ks λy aJ=>h y (by subst aJ;simp [Op.operands]);have a8:l4 aQ py=l4 eg py:=Ks λy aJ=>h y (by subst aJ;simp [Op.operands]);unfold bo;rw [al];simp only [E_,E',M,aa,an,a8]
 | call c=>
  rw [al] at h;obtain ⟨callee,args,dN⟩:=c;have ep:∀ x∈args.toList,aQ x=eg x:=λx au=>h x (by simp [Op.operands,Call.operands];simp_all);have aw:args.toList.map aQ=args.toList.map eg:=List.map_congr_left ep;unfold bo;rw [al];simp only;unfold ny;simp only;split
  ·split
   ·unfold BT;grind
   ·have pI:w_ aQ args.toList=w_ eg args.toList:=by
     unfold w_;grind
    rw [pI];split
    ·unfold BX;split
     ·rename_i x y t u aK bq;rw [ep x (by simp [aK]),ep y (by simp [aK])]
     ·rfl
    ·unfold BU;grind
   ·unfold BY;split
    ·rename_i x t aK bq;rw [ep x (by simp [aK])]
    ·rfl
   ·unfold Fc;split
    ·rename_i x y t u aK bq;rw [ep x (by grind),ep y (by grind)]
    ·rfl
   ·unfold sj;split
    ·rename_i x y aK;rw [ep x (by simp [aK]),ep y (by simp [aK])]
    ·rename_i x y z aK;rw [ep x (by simp [aK]),ep y (by simp [aK]),ep z (by simp [aK])]
    ·rfl
   ·unfold sj;split
    ·rename_i x y aK;rw [ep x (by simp [aK]),ep y (by simp [aK])]
    ·rename_i x y z aK;rw [ep x (by simp [aK]),ep y (by simp [aK]),ep z (by simp [aK])]
    ·rfl
   ·unfold BV;grind
   ·rfl
  ·split
   ·unfold Fa;grind
   ·rfl
  ·rfl
 | _=>unfold bo;rw [al]
end
end Go.Fer
namespace Go.Fer
open Go.RowKit
def FA (want b:Bool):Bool:=match want with | true=>b | false=>!b
def ld (s:Nat->aP) (ops:Array Oper):Option (Nat×Bool)->Option (Option Bool)
 | none=>some none
 | some (j,want)=>match ops[j]? with
  | some o=>match o.dst with
   | some d=>match s d with
    | .val .bool b=>some (some (FA want b))
    | .ie g (.val .bool b)=>some (some (g&&FA want b))
    | _=>none
   | none=>none
  | none=>none
def FB (ops:Array Oper):Option (Nat×Bool)->List Nat
 | none=>[]
 | some (j,_)=>match ops[j]? with
  | some o=>o.dst.toList
  | none=>[]
def acm (l:List Operand):List Nat:=l.filterMap fun | .tmp t=>some t | _=>none
def Cs (ops:Array Oper) (o:Oper):List Nat:=FB ops o.guard++acm o.op.operands.toList
structure fm where
 cs:List Prop
 dst:Option Nat
 fH:aP
 ih:List (Nat×bS)
 lf:List Nat
 tY:List Nat
def fm.iO (r:fm) (s:aE):aE:=(s.gV r.ih).set r.dst r.fH
def fm.og (r:fm):List Nat:=r.dst.toList
def fm.nG (r:fm):List Nat:=r.ih.map (·.1)
def Ct (db dR:Bool) (cD c:Prop):List Prop:=(match db with | true=>[] | false=>[cD])++(match dR with | true=>[] | false=>[c])
def vI (a1:eG) (T:Nat->ai) (bd:Nat->Option aU) (ops:Array Oper) (s:aE) (o:Oper):Option fm:=
 match ld s.aD ops o.guard with
 | none=>none
 | some g=>match (bo a1 T bd (a_ a1 s.aD) o).run s.ag with
  | none=>none
  | some res=>match g with
   | none=>some ⟨Ct (sw (a_ a1 s.aD) o) (oP (a_ a1 s.aD) o) res.cD res.c,o.dst,res.fH,res.ih,Cs ops o,(bo a1 T bd (a_ a1 s.aD) o).se s.ag⟩
   | some b=>match res.ih with
    | []=>some ⟨Ct (sw (a_ a1 s.aD) o&&(oP (a_ a1 s.aD) o&&!res.fH.zI)) true (b=true->res.cD/\(res.c/\(use res.fH).1)) True,o.dst,.ie b (use res.fH).2,[],Cs ops o,(bo a1 T bd (a_ a1 s.aD) o).se s.ag⟩
    | _=>none
def xk (a1:eG) (T:Nat->ai) (bd:Nat->Option aU) (ops:Array Oper):List Oper->aE->Option (List fm×aE)
 | [],s=>some ([],s)
 | o::os,s=>match vI a1 T bd ops s o with
  | none=>none
  | some r=>match xk a1 T bd ops os (r.iO s) with
   | none=>none
   | some (l,s')=>some (r::l,s')
def Cu (a b:List Nat):Bool:=a.all λx=>!b.contains x
def fm.qv (a b:fm):Bool:=Cu a.og (b.lf++b.og)&&Cu a.lf b.og&&Cu a.nG (b.tY++b.nG)&&Cu a.tY b.nG
def jn (o:Oper):List Nat:=o.after.toList.filterMap λe=>if Region.binds .any e then some e.on else none
def Cv (acc:List Nat):List Nat->List Nat
 | []=>acc
 | x::l=>match acc.contains x with | true=>Cv acc l | false=>Cv (x::acc) l
theorem Kt {x:Nat}:∀ {l acc:List Nat},x∈Cv acc l->x∈acc\/x∈l
 | [],acc,h=>.inl h
 | y::l,acc,h=>by
  unfold Cv at h;split at h
  ·exact (Kt h).imp_right (List.mem_cons_of_mem _)
  ·rcases Kt h with h | h
   ·rcases List.mem_cons.1 h with h | h
    ·exact .inr (h ▸ List.mem_cons_self)
    ·exact .inl h
   ·exact .inr (List.mem_cons_of_mem _ h)
def zK (acc:List (List Nat)) (o:Oper):List (List Nat):=acc++[Cv [] ((jn o).flatMap λj=>j::acc.getD j [])]
def ja (ops:List Oper):List (List Nat):=ops.foldl zK []
def acn (cl:List (List Nat)) (l:List fm):Bool:=
 (List.range l.length).all λj=>(List.range j).all λi=>match l[i]?,l[j]? with
  | some a,some b=>(cl.getD j []).contains i||a.qv b
  | _,_=>false
def Cw (ops:List Oper):Bool:=(List.range ops.length).all λj=>match ops[j]? with
 | some o=>(jn o).all λi=>decide (i<j)
 | none=>false
def zL (ops:List Oper) (l:List fm):Bool:=Cw ops&&acn (ja ops) l
def xl (R:List Nat) (s s':aE):Prop:=∀ t∈R,s.aD t=s'.aD t
def xm (B:List Nat) (s s':aE):Prop:=∀ b∈B,s.ag b=s'.ag b
theorem FC {a b:List Nat} (h:Cu a b=true) {x:Nat} (au:x∈a):x ∉ b:=by
 have:=List.all_eq_true.1 h x au;grind
theorem zM (s:aE):∀ (l:List (Nat×bS)),(s.gV l).aD=s.aD:=by
 intro l;induction l generalizing s with
 | nil=>rfl
 | cons p l aO=>simp only [aE.gV];rw [aO];rfl
theorem Ku {b:Nat}:∀ (l:List (Nat×bS)) (s:aE),b ∉ l.map (·.1)->(s.gV l).ag b=s.ag b:=by
 intro l;induction l with
 | nil=>intro s _;rfl
 | cons p l aO=>
  intro s h;simp only [List.map_cons,List.mem_cons,not_or] at h;simp only [aE.gV];rw [aO _ h.2];simp [aE.cy,h.1]
theorem Kv {b:Nat}:∀ (l:List (Nat×bS)) (s s':aE),b∈l.map (·.1)->(s.gV l).ag b=(s'.gV l).ag b:=by
 intro l;induction l with
 | nil=>simp
 | cons p l aO=>
  intro s s' h;simp only [aE.gV];by_cases af:b∈l.map (·.1)
  ·grind
  ·rw [Ku l _ af,Ku l _ af];have:b=p.1:=by grind
   simp [aE.cy,this]
theorem aco (s:aE) (d:Option Nat) (v:aP):(s.set d v).ag=s.ag:=by cases d<;>rfl
theorem FD (r:fm) (s:aE) (t:Nat):(r.iO s).aD t=if t∈r.og then r.fH else s.aD t:=by
 unfold fm.iO fm.og;cases h:r.dst with
 | none=>simp [aE.set,zM]
 | some d=>simp [aE.set,zM,eq_comm]
theorem xn (r:fm) (s:aE) (b:Nat):(r.iO s).ag b=(s.gV r.ih).ag b:=by unfold fm.iO;rw [aco]
theorem RD {r:fm} {s:aE} {t:Nat} (h:t ∉ r.og):(r.iO s).aD t=s.aD t:=by rw [FD,if_neg h]
theorem tZ {r:fm} {s:aE} {b:Nat} (h:b ∉ r.nG):(r.iO s).ag b=s.ag b:=by rw [xn];exact Ku _ _ h
theorem aE.tx {s s':aE} (M:∀ t,s.aD t=s'.aD t) (aa:∀ b,s.ag b=s'.ag b):s=s':=by
 obtain ⟨a,b⟩:=s;obtain ⟨a',bg⟩:=s';rw [show a=a' from funext M,show b=bg from funext aa]
theorem acp {a b:fm} (M:∀ t∈a.og,t ∉ b.og) (aa:∀ x∈a.nG,x ∉ b.nG) (s:aE):a.iO (b.iO s)=b.iO (a.iO s):=by
 apply aE.tx
 ·intro t;simp only [FD];grind
 ·intro x;by_cases bf:x∈a.nG
  ·have af:=aa x bf;rw [tZ af,xn,xn];exact Kv _ _ _ bf
  ·rw [tZ bf];by_cases af:x∈b.nG
   ·rw [xn,xn];exact Kv _ _ _ af
   ·rw [tZ af,tZ af,tZ bf]
def ko (l:List fm) (s:aE):aE:=l.foldl (λs r=>r.iO s) s
theorem acq {R B:List Nat}:∀ (l:List fm) (s:aE),(∀ r∈l,(∀ t∈R,t ∉ r.og)/\∀ b∈B,b ∉ r.nG)->xl R (ko l s) s/\xm B (ko l s) s:=by
 intro l;induction l with
 | nil=>intro s _;exact ⟨λ_ _=>rfl,λ_ _=>rfl⟩
 | cons r l aO=>
  intro s h;obtain ⟨M,aa⟩:=aO (r.iO s) λpo bc=>h po (List.mem_cons_of_mem _ bc);have W:=h r (List.mem_cons_self);exact ⟨λt aR=>(M t aR).trans (RD (W.1 t aR)),λb af=>(aa b af).trans (tZ (W.2 b af))⟩
theorem acr {R B:List Nat} {r:fm} {s s':aE} (M:xl R s s') (aa:xm B s s'):xl R (r.iO s) (r.iO s')/\xm B (r.iO s) (r.iO s'):=by
 refine ⟨λt aR=>?_,λb af=>?_⟩
 ·rw [FD,FD];split
  ·rfl
  ·exact M t aR
 ·by_cases hw:b∈r.nG
  ·rw [xn,xn];exact Kv _ _ _ hw
  ·rw [tZ hw,tZ hw];exact aa b af
theorem acs {R B:List Nat} (p:Nat×fm->Bool):∀ (l:List (Nat×fm)) (s s':aE),xl R s s'->xm B s s'->(∀ r∈l,p r=false->(∀ t∈R,t ∉ r.2.og)/\∀ b∈B,b ∉ r.2.nG)->
  xl R (ko ((l.filter p).map (·.2)) s) (ko (l.map (·.2)) s')/\xm B (ko ((l.filter p).map (·.2)) s) (ko (l.map (·.2)) s'):=by
 intro l;induction l with
 | nil=>intro s s' M aa _;exact ⟨M,aa⟩
 | cons r l aO=>
  intro s s' M aa h;have aw:=λpo bc=>h po (List.mem_cons_of_mem _ bc);cases ar:p r with
  | true=>
   rw [List.filter_cons_of_pos ar];obtain ⟨aS,aY⟩:=acr (r:=r.2) M aa;exact aO _ _ aS aY aw
  | false=>
   rw [List.filter_cons_of_neg (by grind)];have W:=h r (List.mem_cons_self) ar;exact aO _ _ (λt aR=>(M t aR).trans (RD (W.1 t aR)).symm) (λb af=>(aa b af).trans (tZ (W.2 b af)).symm) aw
theorem acu {r:fm}:∀ (l:List fm) (s:aE),(∀ x∈l,(∀ t∈r.og,t ∉ x.og)/\∀ b∈r.nG,b ∉ x.nG)->ko l (r.iO s)=r.iO (ko l s):=by
 intro l;induction l with
 | nil=>intro s _;rfl
 | cons x l aO=>
  intro s h;have au:=h x (List.mem_cons_self);show ko l (x.iO (r.iO s))=r.iO (ko l (x.iO s));rw [<-acp au.1 au.2 s];grind
end Go.Fer
namespace Go.Fer
open Go.RowKit
def jo:Nat->List fm->List (Nat×fm)
 | _,[]=>[]
 | n,r::l=>(n,r)::jo (n+1) l
theorem RE:∀ (l m:List fm) (n:Nat),jo n (l++m)=jo n l++jo (n+l.length) m
 | [],m,n=>by rfl
 | r::l,m,n=>by simp only [List.cons_append,jo,RE l m (n+1),List.length_cons];grind
theorem Cx:∀ (l:List fm) (n:Nat),(jo n l).map (·.2)=l
 | [],_=>rfl
 | r::l,n=>by simp only [jo,List.map_cons,Cx l (n+1)]
theorem zN:∀ {l:List fm} {n j:Nat} {x:fm},(j,x)∈jo n l->n<=j/\l[j - n]?=some x
 | r::l,n,j,x,h=>by
  simp only [jo,List.mem_cons,Prod.mk.injEq] at h;rcases h with ⟨rfl,rfl⟩ | h
  ·simp
  ·obtain ⟨M,aa⟩:=zN h;grind
 | [],_,_,_,h=>by cases h
def j8 (l:List fm) (s:aE) (f:Nat->Bool):aE:=ko (((jo 0 l).filter λp=>f p.1).map (·.2)) s
theorem RF (l m:List fm) (s:aE):ko (l++m) s=ko m (ko l s):=by simp [ko]
theorem Kw {a b:fm} (h:a.qv b=true):(∀ t∈a.og,t ∉ b.lf/\t ∉ b.og)/\(∀ t∈a.lf,t ∉ b.og)/\(∀ x∈a.nG,x ∉ b.tY/\x ∉ b.nG)/\∀ x∈a.tY,x ∉ b.nG:=by
 simp only [fm.qv,Bool.and_eq_true] at h;obtain ⟨⟨⟨M,aa⟩,an⟩,a8⟩:=h;refine ⟨λt aR=>?_,λt aR=>FC aa aR,λx au=>?_,λx au=>FC a8 au⟩
 ·have:=FC M aR;grind
 ·have:=FC an au;grind
theorem RG {l:List fm} {s:aE} {f:Nat->Bool} {i:Nat} {r:fm} (U:l[i]?=some r) (ax:f i=false)
  (hh:∀ j x,j<i->l[j]?=some x->f j=false->x.qv r=true) (oh:∀ j x,i<j->l[j]?=some x->f j=true->r.qv x=true) :
  xl r.lf (j8 l s f) (ko (l.take i) s)/\xm r.tY (j8 l s f) (ko (l.take i) s)/\j8 l s (λj=>if j=i then true else f j)=r.iO (j8 l s f):=by
 obtain ⟨cq,fU⟩:=List.getElem?_eq_some_iff.1 U;have hlen:(l.take i).length=i:=by grind
 have RH:jo 0 l=jo 0 (l.take i)++(i,r)::jo (i+1) (l.drop (i+1)):=by
  have M:l=l.take i++r::l.drop (i+1):=by
   have:=List.take_append_drop i l;rw [List.drop_eq_getElem_cons cq,fU] at this;grind
  have aa:=RE (l.take i) (r::l.drop (i+1)) 0;rw [<-M,hlen] at aa;simpa [jo] using aa
 have acv:∀ p∈jo 0 (l.take i),p.1<i/\l[p.1]?=some p.2:=by
  rintro ⟨j,x⟩ ar;obtain ⟨_,aa⟩:=zN ar;grind
 have asG:∀ p∈jo (i+1) (l.drop (i+1)),i<p.1/\l[p.1]?=some p.2:=by
  rintro ⟨j,x⟩ ar;obtain ⟨M,aa⟩:=zN ar;grind
 have RI:∀ x∈((jo (i+1) (l.drop (i+1))).filter λp=>f p.1).map (·.2),r.qv x=true:=by
  grind
 have jq:j8 l s f=ko (((jo (i+1) (l.drop (i+1))).filter λp=>f p.1).map (·.2)) (ko (((jo 0 (l.take i)).filter λp=>f p.1).map (·.2)) s):=by
  unfold j8;rw [RH,List.filter_append,List.filter_cons_of_neg (by grind),List.map_append,RF]
 have pI:=acq (R:=r.lf) (B:=r.tY) (((jo (i+1) (l.drop (i+1))).filter λp=>f p.1).map (·.2)) (ko (((jo 0 (l.take i)).filter λp=>f p.1).map (·.2)) s)
  (λx au=>by
   have:=Kw (RI x au);grind)
 have Kx:=acs (R:=r.lf) (B:=r.tY) (λp=>f p.1) (jo 0 (l.take i)) s s (λ_ _=>rfl) (λ_ _=>rfl) (λp ar acw=>by
  obtain ⟨M,aa⟩:=acv p ar;have:=Kw (hh p.1 p.2 M aa acw);grind)
 rw [Cx] at Kx;refine ⟨λt aR=>by rw [jq];exact (pI.1 t aR).trans (Kx.1 t aR),λb af=>by rw [jq];exact (pI.2 b af).trans (Kx.2 b af),?_⟩;rw [jq];unfold j8;have aK:(jo 0 (l.take i)).filter (λp=>if p.1=i then true else f p.1)=(jo 0 (l.take i)).filter λp=>f p.1:=by
  apply List.filter_congr;grind
 have bq:(jo (i+1) (l.drop (i+1))).filter (λp=>if p.1=i then true else f p.1)=(jo (i+1) (l.drop (i+1))).filter λp=>f p.1:=by
  apply List.filter_congr;grind
 rw [RH,List.filter_append,List.filter_cons_of_pos (by simp),aK,bq,List.map_append,RF];show ko _ (r.iO _)=_;refine acu _ _ λx au=>?_;have:=Kw (RI x au);grind
theorem xo {p:Nat->Prop}:∀ (ops:List Oper) (acc:List (List Nat)),(∀ j i,i∈acc.getD j []->p j->p i)->(∀ j o,ops[j]?=some o->∀ i∈jn o,p (acc.length+j)->p i)->
  ∀ j i,i∈(ops.foldl zK acc).getD j []->p j->p i:=by
 intro ops;induction ops with
 | nil=>simp
 | cons o ops aO=>
  intro acc h aN;refine aO (zK acc o) (λj i U aC=>?_) λj iz jb i U aC=>aN (j+1) iz (by grind) i U (by
   have:(zK acc o).length=acc.length+1:=by simp [zK]
   grind)
  unfold zK at U;rw [List.getD_eq_getElem?_getD,List.getElem?_append] at U;split at U
  ·grind
  ·rename_i cq;by_cases e:j=acc.length
   ·subst e;simp only [Nat.sub_self,List.getElem?_cons_zero,Option.getD_some] at U;have U:=(Kt U).resolve_left (by simp);simp only [List.mem_flatMap,List.mem_cons] at U;obtain ⟨k,ak,U⟩:=U;have rC:=aN 0 o (by simp) k ak (by omega);grind
   grind
theorem RJ {a1:eG} {T:Nat->ai} {bd:Nat->Option aU} {ops:Array Oper}:∀ (os:List Oper) (s:aE) {l:List fm} {s':aE},xk a1 T bd ops os s=some (l,s')->
  l.length=os.length/\s'=ko l s/\∀ i o,os[i]?=some o->∃ r,l[i]?=some r/\vI a1 T bd ops (ko (l.take i) s) o=some r:=by
 intro os;induction os with
 | nil=>intro s l s' h;cases h;exact ⟨rfl,rfl,λi o h=>by cases h⟩
 | cons o os aO=>
  intro s l s' h;simp only [xk] at h;split at h
  ·cases h
  ·rename_i r W;split at h
   ·cases h
   ·rename_i cP asH aw;cases h;obtain ⟨M,aa,an⟩:=aO _ aw;refine ⟨by grind,aa,λi iz jb=>?_⟩;cases i with
    | zero=>
     simp only [List.getElem?_cons_zero,Option.some.injEq] at jb;subst jb;exact ⟨r,by simp,W⟩
    | succ i=>
     obtain ⟨po,aS,aY⟩:=an i iz (by grind);exact ⟨po,by grind,aY⟩
theorem Ky {ops:Array Oper} {f g3:Nat->aP} {g:Option (Nat×Bool)} (h:∀ t∈FB ops g,f t=g3 t):ld f ops g=ld g3 ops g:=by
 unfold ld;cases g with
 | none=>rfl
 | some p=>
  obtain ⟨j,want⟩:=p;simp only;cases aC:ops[j]? with
  | none=>rfl
  | some o=>
   simp only;cases aN:o.dst with
   | none=>rfl
   | some d=>
    simp only;rw [h d (by simp [FB,aC,aN])]
theorem RK {a1:eG} {T:Nat->ai} {bd:Nat->Option aU} {ops:Array Oper} {s s':aE} {o:Oper} {r:fm} (h:vI a1 T bd ops s o=some r) (M:xl r.lf s' s) (aa:xm r.tY s' s):vI a1 T bd ops s' o=some r:=by
 have RL:r.lf=Cs ops o/\r.tY=(bo a1 T bd (a_ a1 s.aD) o).se s.ag:=by
  unfold vI at h;grind
 rw [RL.1] at M;rw [RL.2] at aa;have oO:∀ x∈o.op.operands.toList,a_ a1 s'.aD x=a_ a1 s.aD x:=by
  intro x au;cases x with
  | tmp t=>
   refine M t ?_;simp only [Cs,List.mem_append];exact .inr (List.mem_filterMap.2 ⟨.tmp t,au,rfl⟩)
  | _=>rfl
 have aK:ld s'.aD ops o.guard=ld s.aD ops o.guard:=Ky λt aR=>M t (by simp [Cs,aR]);have bq:bo a1 T bd (a_ a1 s'.aD) o=bo a1 T bd (a_ a1 s.aD) o:=ack oO;have cF:=az.Qs (H:=s.ag) (H':=s'.ag) (bo a1 T bd (a_ a1 s.aD) o) aa;have hd:sw (a_ a1 s'.aD) o=sw (a_ a1 s.aD) o:=by
  unfold sw;grind
 have j0:oP (a_ a1 s'.aD) o=oP (a_ a1 s.aD) o:=by
  unfold oP;cases al:o.op with
  | binOp op ty x y t=>
   rw [al] at oO;simp only;rw [oO x (by simp [Op.operands])]
  | call c=>
   obtain ⟨callee,args,dN⟩:=c;rw [al] at oO;cases callee with
   | builtin b=>
    have du:∀ x∈args.toList,a_ a1 s'.aD x=a_ a1 s.aD x:=λx au=>oO x (by simp [Op.operands,Call.operands];simp_all);simp only;unfold Fz;grind
   | _=>rfl
  | _=>rfl
 unfold vI at h ⊢;simp_all
end Go.Fer
namespace Go.Fer
open Go.RowKit
universe u
def A.fail {β:Type}:A β:=⟨False,λ_=>False⟩
inductive cE where
 | undef
 | val (t:ai)
 | fb (t:ai)
 | aV (b off:Nat)
 | ad (b:Nat)
 | sub (b:Nat)
 | dQ (b:Nat)
 | kI (b:Nat)
 | cr
 | j1 (k:FuncId) (gN:List (Nat×Nat))
 | a5 (aM:ai)
 | gA
 | gX (bs:List Nat)
 deriving DecidableEq
inductive cv where
 | cells (t:ai) (l:List cE)
 | bu (e:ai)
 | ig (e:ai)
 | mp (k v:ai)
 | jH (k v:ai)
 | jM (t:ai)
 | hf (t:ai)
 | cj (k v:ai)
def cE.cons (t:cE) (R:Type):Type:=
 match t with
 | .val t=>t.aq×R
 | .fb t=>t.aq×R
 | .sub _=>(Nat×Nat)×R
 | .a5 aM=>(Nat×(List aM.aq->Prop)×List aM.aq×Bool)×R
 | .gA=>Nat×R
 | _=>R
def qw:List cE->Type->Type
 | [],R=>R
 | t::l,R=>t.cons (qw l R)
def cv.cons (t:cv) (R:Type):Type:=
 match t with
 | .cells _ l=>qw l R
 | .bu e=>List e.aq×R
 | .ig e=>List e.aq×R
 | .mp k v=>List (k.aq×v.aq)×R
 | .jH k v=>List (k.aq×v.aq)×R
 | .jM t=>t.aq×R
 | .hf t=>t.aq×R
 | .cj k v=>(Option (k.aq×v.aq)×List (k.aq×v.aq))×R
def cv.Cy:cv->Bool
 | .cells _ _ | .bu _ | .mp _ _ | .jM _ | .cj _ _=>true
 | _=>false
def cv.FE (t u:cv):Bool:=
 match t,u with
 | .cells _ _,.cells _ _ | .cells _ _,.jM _ | .jM _,.cells _ _ | .jM _,.jM _ | .hf _,.cells _ _ | .hf _,.jM _=>true
 | .mp _ _,.mp _ _ | .jH _ _,.mp _ _=>true
 | .bu e,.bu a9=>decide (e=a9)
 | .ig _,.bu _=>true
 | _,_=>false
structure dX where
 b3:List (Nat×cE)
 bI:List (Nat×cv)
def pJ:List (Nat×cv)->Type
 | []=>Unit
 | p::l=>p.2.cons (pJ l)
def oR:List (Nat×cE)->Type->Type
 | [],R=>R
 | p::l,R=>p.2.cons (oR l R)
def dX.aq (sh:dX):Type:=oR sh.b3 (pJ sh.bI)
def vJ (g:Nat->Nat×Nat) (gN:List (Nat×Nat)):Nat->aP:=hN (gN.map λp=>.aV (g p.1).1 (g p.1).2 p.2)
def vK (g:Nat->Nat×Nat) (bs:List Nat):Nat->aP:=hN (bs.map λb=>.ad (g b).1 (g b).2)
def cE.av (g:Nat->Nat×Nat) (t:cE) {R:Type} (x:t.cons R):aP×R:=
 match t,x with
 | .undef,x=>(.undef,x)
 | .val t,x=>(.val t x.1,x.2)
 | .fb t,x=>(.fb t x.1,x.2)
 | .aV b off,x=>(.aV (g b).1 (g b).2 off,x)
 | .ad b,x=>(.ad (g b).1 (g b).2,x)
 | .sub b,x=>(.sub (g b).1 (g b).2 x.1.1 x.1.2,x.2)
 | .dQ b,x=>(.dQ (g b).1 (g b).2,x)
 | .kI b,x=>(.kI (g b).1 (g b).2,x)
 | .cr,x=>(.cr,x)
 | .j1 k gN,x=>(.j1 k gN.length (vJ g gN),x)
 | .a5 aM,x=>(.a5 x.1.1 aM x.1.2.1 x.1.2.2.1 x.1.2.2.2,x.2)
 | .gA,x=>(.gA x.1,x.2)
 | .gX bs,x=>(.agg bs.length (vK g bs),x)
def pK (g:Nat->Nat×Nat):(l:List cE)->{R:Type}->qw l R->List aP×R
 | [],_,x=>([],x)
 | t::l,_,x=>let (a,y):=t.av g x;let (as,z):=pK g l y;(a::as,z)
def cv.body (g:Nat->Nat×Nat) (t:cv) {R:Type} (x:t.cons R):b7×R:=
 match t,x with
 | .cells t l,x=>let (as,y):=pK g l x;(.cells t (hN as),y)
 | .bu e,x=>(.bu e x.1,x.2)
 | .ig e,x=>(.ig e x.1,x.2)
 | .mp k v,x=>(.mp k v x.1,x.2)
 | .jH k v,x=>(.jH k v x.1,x.2)
 | .jM t,x=>(.cells t (hN (n8 t x.1)),x.2)
 | .hf t,x=>(.hf t x.1,x.2)
 | .cj k v,x=>(.cj k v x.1.1 x.1.2,x.2)
def e9 (g:Nat->Nat×Nat):(l:List (Nat×cE))->{R:Type}->oR l R->List (Nat×aP)×R
 | [],_,x=>([],x)
 | p::l,_,x=>let (a,y):=p.2.av g x;let (as,z):=e9 g l y;((p.1,a)::as,z)
def hQ (g:Nat->Nat×Nat):(l:List (Nat×cv))->pJ l->List (Nat×b7)
 | [],_=>[]
 | p::l,x=>let (a,y):=p.2.body g x;(p.1,a)::hQ g l y
def gF:List (Nat×aP)->Nat->aP
 | [],_=>.undef
 | p::l,i=>if i=p.1 then p.2 else gF l i
def fJ:List (Nat×b7)->Nat->bS
 | [],_=>⟨0,.gK⟩
 | p::l,i=>if i=p.1 then ⟨0,p.2⟩ else fJ l i
def RM (acx:List (Nat×aP)) (bs:List (Nat×b7)):aE:=⟨gF acx,fJ bs⟩
def de (b:Nat):Nat×Nat:=(b,0)
def dX.st (sh:dX) (G:sh.aq):aE:=
 RM (e9 de sh.b3 G).1 (hQ de sh.bI (e9 de sh.b3 G).2)
def xp (H:Nat->bS) (t:ai) (av:aP) {R:Type} (r:Option (R×List Nat)):Option ((t.aq×R)×List Nat):=
 match (dV t av).run H with
 | some (x,l)=>match r with
  | some (y,m)=>some ((x,y),l++m)
  | none=>none
 | none=>none
def Kz (t:ai) (av:aP) {R:Type} (r:Option (R×List Nat)):Option ((t.aq×R)×List Nat):=
 match av with
 | .fb cT x=>match r with
  | some (y,m)=>if h:cT=t then some ((h ▸ x,y),m) else none
  | none=>none
 | _=>none
def KA (H:Nat->bS) (b:Nat) (av:aP) {R:Type} (r:Option (R×List Nat)):Option (((Nat×Nat)×R)×List Nat):=
 match r with
 | some (y,m)=>match av with
  | .ad bg g=>if (bg == b&&g == (H b).gen&&(H b).body.gC)=true then some (((0,(H b).body.len),y),m) else none
  | .sub bg g a4 U=>if (bg == b&&g == (H b).gen)=true then some (((a4,U),y),m) else none
  | _=>none
 | none=>none
def KB (aM:ai) (av:aP) {R:Type} (r:Option (R×List Nat)):Option (((Nat×(List aM.aq->Prop)×List aM.aq×Bool)×R)×List Nat):=
 match av with
 | .a5 l lg L n st=>match r with
  | some (y,m)=>if h:lg=aM then some (((l,h ▸ L,h ▸ n,st),y),m) else none
  | none=>none
 | _=>none
def KC (av:aP) {R:Type} (r:Option (R×List Nat)):Option ((Nat×R)×List Nat):=
 match av with
 | .gA l=>match r with
  | some (y,m)=>some ((l,y),m)
  | none=>none
 | _=>none
def FF (H:Nat->bS) (b off:Nat) (av:aP):Bool:=
 match av with
 | .aV bg g acy=>bg == b&&acy == off&&g == (H b).gen
 | _=>false
def FG (H:Nat->bS) (b:Nat) (av:aP):Bool:=
 match av with
 | .ad bg g=>bg == b&&g == (H b).gen
 | _=>false
def KD (H:Nat->bS) (b:Nat) (av:aP):Bool:=
 match av with
 | .dQ bg g=>bg == b&&g == (H b).gen
 | _=>false
def KE (H:Nat->bS) (b:Nat) (av:aP):Bool:=
 match av with
 | .kI bg g=>bg == b&&g == (H b).gen
 | _=>false
def KF (av:aP):Bool:=
 match av with
 | .cr=>true
 | _=>false
def KG (H:Nat->bS) (f:Nat->Nat) (k:FuncId) (gN:List (Nat×Nat)) (av:aP):Bool:=
 match av with
 | .j1 k' n caps=>k' == k&&n == gN.length&&(List.range n).all λi=>match gN[i]? with
  | some p=>FF H (f p.1) p.2 (caps i)
  | none=>false
 | _=>false
def KH (H:Nat->bS) (f:Nat->Nat) (bs:List Nat) (av:aP):Bool:=
 match av with
 | .agg n h=>n == bs.length&&(List.range n).all λi=>match bs[i]? with
  | some b=>FG H (f b) (h i)
  | none=>false
 | _=>false
def vL {ao:Type} (b:Bool) (r:Option ao):Option ao:=match b with | true=>r | false=>none
def cE.kp (H:Nat->bS) (f:Nat->Nat) (t:cE) (av:aP) {R:Type} (r:Option (R×List Nat)):Option (t.cons R×List Nat):=
 match t with
 | .undef=>r
 | .val t=>xp H t av r
 | .fb t=>Kz t av r
 | .aV b off=>vL (FF H (f b) off av) r
 | .ad b=>vL (FG H (f b) av) r
 | .sub b=>KA H (f b) av r
 | .dQ b=>vL (KD H (f b) av) r
 | .kI b=>vL (KE H (f b) av) r
 | .cr=>vL (KF av) r
 | .j1 k gN=>vL (KG H f k gN av) r
 | .a5 aM=>KB aM av r
 | .gA=>KC av r
 | .gX bs=>vL (KH H f bs av) r
def zO (H:Nat->bS) (f:Nat->Nat):(l:List cE)->(Nat->aP)->Nat->{R:Type}->Option (R×List Nat)->Option (qw l R×List Nat)
 | [],_,_,_,r=>r
 | t::l,c,i,_,r=>t.kp H f (c i) (zO H f l c (i+1) r)
def KI (H:Nat->bS) (f:Nat->Nat) (t:ai) (l:List cE) (b:b7) {R:Type} (r:Option (R×List Nat)):Option (qw l R×List Nat):=
 match b with
 | .cells cT c=>if cT=t/\t.size=l.length then zO H f l c 0 r else none
 | _=>none
def KJ (e:ai) (b:b7) {R:Type} (r:Option (R×List Nat)):Option ((List e.aq×R)×List Nat):=
 match b with
 | .bu a9 xs=>match r with
  | some (y,m)=>if h:a9=e then some ((h ▸ xs,y),m) else none
  | none=>none
 | _=>none
def KK (k v:ai) (b:b7) {R:Type} (r:Option (R×List Nat)):Option ((List (k.aq×v.aq)×R)×List Nat):=
 match b with
 | .mp k' iL es=>match r with
  | some (y,m)=>if h:k'=k/\iL=v then some ((h.1 ▸ h.2 ▸ es,y),m) else none
  | none=>none
 | _=>none
def KL (k v:ai) (b:b7) {R:Type} (r:Option (R×List Nat)):Option (((Option (k.aq×v.aq)×List (k.aq×v.aq))×R)×List Nat):=
 match b with
 | .cj k' iL c es=>match r with
  | some (y,m)=>if h:k'=k/\iL=v then some (((h.1 ▸ h.2 ▸ c,h.1 ▸ h.2 ▸ es),y),m) else none
  | none=>none
 | _=>none
def KM (H:Nat->bS) (t:ai) (b:b7) {R:Type} (r:Option (R×List Nat)):Option ((t.aq×R)×List Nat):=
 match b with
 | .cells cT f=>if cT=t then xp H t (.agg t.size f) r else none
 | _=>none
def KN (H:Nat->bS) (t:ai) (b:Nat) {R:Type} (r:Option (R×List Nat)):Option ((t.aq×R)×List Nat):=
 match (dV (.bQ t) (.aV b (H b).gen 0)).run H with
 | some (some x,l)=>match r with
  | some (y,m)=>some ((x,y),l++m)
  | none=>none
 | _=>none
def cv.kp (H:Nat->bS) (f:Nat->Nat) (t:cv) (b:Nat) {R:Type} (r:Option (R×List Nat)):Option (t.cons R×List Nat):=
 match t with
 | .cells t l=>KI H f t l (H b).body r
 | .bu e=>KJ e (H b).body r
 | .ig e=>xp H (.slice e) (.ad b (H b).gen) r
 | .mp k v=>KK k v (H b).body r
 | .jH k v=>xp H (.map k v) (.dQ b (H b).gen) r
 | .jM t=>KM H t (H b).body r
 | .hf t=>KN H t b r
 | .cj k v=>KL k v (H b).body r
def xq (H:Nat->bS) (f:Nat->Nat):(l:List (Nat×cv))->Option (pJ l×List Nat)
 | []=>some ((),[])
 | p::l=>p.2.kp H f (f p.1) (xq H f l)
def xr (H:Nat->bS) (f:Nat->Nat):(l:List (Nat×cE))->(Nat->aP)->{R:Type}->Option (R×List Nat)->Option (oR l R×List Nat)
 | [],_,_,r=>r
 | p::l,c,_,r=>p.2.kp H f (c p.1) (xr H f l c r)
def dX.oS (sh:dX):List Nat:=sh.bI.filterMap λp=>if p.2.Cy then some p.1 else none
def dX.zP (sh:dX) (f:Nat->Nat) (s:aE):Option (sh.aq×List Nat):=
 match xr s.ag f sh.b3 s.aD (xq s.ag f sh.bI) with
 | some (G,b8)=>if sh.oS.all (λb=>!b8.contains (f b))=true then some (G,b8) else none
 | none=>none
def KO:List (Nat×cv)->Nat->Option cv
 | [],_=>none
 | p::l,b=>if b=p.1 then some p.2 else KO l b
def KP (s:aE) (i b bg g':Nat):aE:=
 match decide (bg≠b/\g'=(s.ag bg).gen),(s.ag bg).body with
 | true,.bu e xs=>⟨λj=>if j=i then .ad b ((s.ag b).gen+1) else s.aD j,λj=>if j=b then ⟨(s.ag b).gen+1,.bu e xs⟩ else if j=bg then ⟨(s.ag bg).gen+1,.gK⟩ else s.ag j⟩
 | _,_=>s
def KQ (bs:List (Nat×cv)) (s:aE) (i b:Nat):aE:=
 match s.aD i,KO bs b with
 | .cr,some (.bu e)=>⟨λj=>if j=i then .ad b ((s.ag b).gen+1) else s.aD j,(s.cy b ⟨(s.ag b).gen+1,.bu e []⟩).ag⟩
 | .ad bg g',some (.bu _)=>KP s i b bg g'
 | _,_=>s
def KR (bs:List (Nat×cv)) (s:aE) (c j b:Nat):aE:=
 match (s.ag c).body with
 | .cells t f=>match f j,(s.ag b).body,KO bs b with
  | .cr,.gK,some (.bu e)=>(s.cy b ⟨(s.ag b).gen+1,.bu e []⟩).cy c ⟨(s.ag c).gen,.cells t λq=>if q=j then .ad b ((s.ag b).gen+1) else f q⟩
  | _,_,_=>s
 | _=>s
def FH (bs:List (Nat×cv)):List (Nat×cE)->aE->aE
 | [],s=>s
 | p::l,s=>FH bs l (match p.2 with | .ad b=>KQ bs s p.1 b | _=>s)
def FI (bs:List (Nat×cv)) (c:Nat):List cE->Nat->aE->aE
 | [],_,s=>s
 | t::l,j,s=>FI bs c l (j+1) (match t with | .ad b=>KR bs s c j b | _=>s)
def FJ (bs:List (Nat×cv)):List (Nat×cv)->aE->aE
 | [],s=>s
 | p::l,s=>FJ bs l (match p.2 with | .cells _ ts=>FI bs p.1 ts 0 s | _=>s)
def dX.FK (sh:dX) (s:aE):aE:=FJ sh.bI sh.bI (FH sh.bI sh.b3 s)
def cv.RN:cv->Bool
 | .bu _ | .ig _=>true
 | _=>false
def dX.acz (sh:dX) (s:aE):Bool:=sh.bI.all λp=>!(decide (y8<=p.1)&&p.2.RN)||decide ((s.ag p.1).gen=0)
def dX.kp (sh:dX) (s:aE):Option (sh.aq):=
 match sh.acz (sh.FK s) with
 | true=>(sh.zP (λb=>b) (sh.FK s)).map (·.1)
 | false=>none
def dX.nH {β:Type} (sh:dX) (s:aE) (k:sh.aq->A β):A β:=
 match sh.kp s with
 | some G=>k G
 | none=>A.fail
def cE.zQ (t:cE) {R:Type} (r:R):t.cons R:=
 match t with
 | .val t=>(t.ee,r)
 | .fb t=>(t.ee,r)
 | .sub _=>((0,0),r)
 | .a5 _=>((0,λ_=>False,[],false),r)
 | .gA=>(0,r)
 | .undef | .aV _ _ | .ad _ | .dQ _ | .kI _ | .cr | .j1 _ _ | .gX _=>r
def RO:(l:List cE)->{R:Type}->R->qw l R
 | [],_,r=>r
 | t::l,_,r=>t.zQ (RO l r)
def cv.zQ (t:cv) {R:Type} (r:R):t.cons R:=
 match t with
 | .cells _ l=>RO l r
 | .bu _=>([],r)
 | .ig _=>([],r)
 | .mp _ _=>([],r)
 | .jH _ _=>([],r)
 | .jM t=>(t.ee,r)
 | .hf t=>(t.ee,r)
 | .cj _ _=>((none,[]),r)
def RP:(l:List (Nat×cv))->pJ l
 | []=>()
 | p::l=>p.2.zQ (RP l)
def RQ:(l:List (Nat×cE))->{R:Type}->R->oR l R
 | [],_,r=>r
 | p::l,_,r=>p.2.zQ (RQ l r)
def dX.zQ (sh:dX):sh.aq:=RQ sh.b3 (RP sh.bI)
structure m' where
 ts:ai
 a5:ai
 sh:ts.aq->A a5.aq
 eT:Bool
def aU.eP (c:aU):m':=⟨c.ts,c.a5,c.sh,true⟩
def A.Cz {ao:Type} (m:A ao):Prop:=∀ x y,m.bP x->m.bP y->x=y
open Classical in
def A.val {ao:Type} (m:A ao) (d:ao):ao:=if h:∃ x,m.bP x then h.choose else d
def m'.KS (c:m'):aU:=⟨c.ts,c.a5,λx=>(c.sh x).dU,λx=>(c.sh x).val c.a5.ee⟩
structure fY where
 cM:dX
 bP:dX
 lQ:List (Option Nat)
 lh:Nat
 sh:cM.aq->A bP.aq
structure xt where
 ts:ai
 aM:ai
 pre:ts.aq->Prop
 seq:ts.aq->List aM.aq
inductive iA where
 | eP (c:m')
 | jr (c:fY)
 | cj (c:xt)
 | FL (c:m')
def KT (bd:Nat->Option aU) (Ψ:Nat->Option iA) (k:Nat):Option aU:=
 match Ψ k with
 | some (.eP c)=>match c.eT with
  | true=>some c.KS
  | false=>none
 | some _=>none
 | none=>bd k
def KU (bd:Nat->Option aU) (Ψ:Nat->Option iA) (k:Nat):Option m':=
 match Ψ k with
 | some (.eP c)=>some c
 | some _=>none
 | none=>(bd k).map aU.eP
structure js where
 ao:Type
 d:ao
 cD:Prop
 m:A ao
 st:ao->aE
 CA:Option (Bool->ao->aE)
def rD (s:aE) (o:Oper) (a5:ai) (b8:List Nat) (v:aP):aE:=(if a5.pure then s else s.cL b8).set o.dst v
def CB (a1:eG) (s:aE) (o:Oper) (args:List Operand) (eP:m'):Option js:=
 match (j3 eP.ts ((args.map (a_ a1 s.aD)).map λv=>(use v).2)).run s.ag with
 | some (x,b8)=>some ⟨eP.a5.aq,eP.a5.ee,k_ (args.map (a_ a1 s.aD)),eP.sh x,λy=>rD s o eP.a5 b8 (rk eP.a5 y),some λg y=>rD s o eP.a5 b8 (.ie g (rk eP.a5 y))⟩
 | none=>none
def FM (a1:eG) (s:aE) (o:Oper) (args:List Operand) (eP:m'):Option js:=
 match (j3 eP.ts ((args.map (a_ a1 s.aD)).map λv=>(use v).2)).run s.ag with
 | some (x,_)=>some ⟨eP.a5.aq,eP.a5.ee,k_ (args.map (a_ a1 s.aD)),eP.sh x,λy=>s.set o.dst (rk eP.a5 y),none⟩
 | none=>none
def CC (a1:eG) (s:aE) (o:Oper) (t:Nat) (args:List Operand):Option js:=
 match use (s.aD t) with
 | (cD,.val (.fn a b) f)=>match (j3 a ((args.map (a_ a1 s.aD)).map λv=>(use v).2)).run s.ag with
  | some (x,b8)=>some ⟨b.aq,b.ee,cD/\k_ (args.map (a_ a1 s.aD)),f x,λy=>rD s o b b8 (rk b y),some λg y=>rD s o b b8 (.ie g (rk b y))⟩
  | none=>none
 | _=>none
def RR (t:cE) (av:aP):List (Nat×Nat):=
 match t,av with
 | .aV bg _,.aV b _ _=>[(bg,b)]
 | .ad bg,.ad b _=>[(bg,b)]
 | .sub bg,.ad b _=>[(bg,b)]
 | .sub bg,.sub b _ _ _=>[(bg,b)]
 | .dQ bg,.dQ b _=>[(bg,b)]
 | .kI bg,.kI b _=>[(bg,b)]
 | .j1 _ gN,.j1 _ _ caps=>(List.range gN.length).filterMap λi=>match gN[i]?,caps i with
  | some p,.aV b _ _=>some (p.1,b)
  | _,_=>none
 | _,_=>[]
def RS:List cE->(Nat->aP)->Nat->List (Nat×Nat)
 | [],_,_=>[]
 | t::l,c,i=>RR t (c i)++RS l c (i+1)
def KV:List (Nat×Nat)->Nat->Option Nat
 | [],_=>none
 | p::l,b=>if b=p.1 then some p.2 else KV l b
def RT (H:Nat->bS):List (Nat×cv)->List (Nat×Nat)->List (Nat×Nat)
 | [],m=>m
 | p::l,m=>RT H l (m++match p.2,KV m p.1 with
  | .cells _ ts,some b=>(match (H b).body with | .cells _ c=>RS ts c 0 | _=>[])
  | _,_=>[])
def acA (sh:dX) (s:aE):List (Nat×Nat):=RT s.ag sh.bI (sh.b3.flatMap λp=>RR p.2 (s.aD p.1))
def sx (s:aE) (avs:List aP):aE:=⟨λi=>if i=b_ then s.aD b_ else if i<avs.length then avs.getD i .undef else .undef,s.ag⟩
def nI:Nat:=99999
def sy (s:aE) (d:Nat) (f:Nat->Nat) (ins:List Nat):List (Nat×cv)->Nat->List (Nat×(Nat×Nat))
 | [],_=>[]
 | p::l,j=>(if ins.contains p.1 then (p.1,(f p.1,match p.2 with
   | .cells _ _ | .jM _ | .mp _ _ | .hf _ | .jH _ _=>(s.ag (f p.1)).gen
   | .bu _=>if y8<=p.1 then (s.ag (f p.1)).gen else (s.ag (f p.1)).gen+1
   | _=>(s.ag (f p.1)).gen+1)) else (p.1,(50000+10*d+j,(s.ag (50000+10*d+j)).gen+1)))::sy s d f ins l (j+1)
def iB:List (Nat×(Nat×Nat))->Nat->Nat×Nat
 | [],_=>(nI,0)
 | p::l,b=>if b=p.1 then p.2 else iB l b
def pL:List (Option Nat)->(Nat->aP)->Nat->List aP
 | [],_,_=>[]
 | none::l,c,i=>c i::pL l c (i+1)
 | some n::l,c,i=>.agg n (λj=>c (i+j))::pL l c (i+n)
def KW (l:List aP):aP:=
 match l with
 | [v]=>v
 | l=>.qi l.length (hN l)
def xu (s:aE) (c:fY) (f:Nat->Nat) (cz:List (Nat×(Nat×Nat))) (bA:c.bP.aq):aE:=
 ⟨λi=>if i=b_ then (if c.bP.b3.any (λp=>p.1 == b_) then gF (e9 (iB cz) c.bP.b3 bA).1 b_ else if c.cM.b3.any (λp=>p.1 == b_) then .undef else s.aD b_) else s.aD i,λb=>match cz.find? (λp=>p.2.1 == b) with
  | some p=>⟨p.2.2,(fJ (hQ (iB cz) c.bP.bI (e9 (iB cz) c.bP.b3 bA).2) p.1).body⟩
  | none=>if (c.cM.oS.map f).contains b then ⟨(s.ag b).gen+1,.gK⟩ else s.ag b⟩
def acB (s:aE) (o:Oper) (c:fY) (f:Nat->Nat) (cz:List (Nat×(Nat×Nat))) (bA:c.bP.aq):aE:=
 aE.set (xu s c f cz bA) o.dst (KW (pL c.lQ (gF (e9 (iB cz) c.bP.b3 bA).1) 0))
def FN (l:List Nat):Bool:=decide l.Nodup
def CD (c:fY) (f:Nat->Nat) (s2:aE) (cz:List (Nat×(Nat×Nat))) (d n:Nat):Bool:=
  decide (d < 4000) && decide (c.bP.bI.length <= 10) && FN (c.cM.bI.map (·.1)) && FN (c.cM.bI.map λp => f p.1) && FN (cz.map (·.1)) && FN (cz.map (·.2.1)) && (c.cM.bI.map (·.1)).all (λb => decide (fP <= b))
        &&!(cz.map (·.2.1)).contains nI&&(match (s2.ag nI).body with | .gK=>true | _=>false)&&c.bP.bI.all (λp=>c.cM.bI.all λq=>!(p.1 == q.1&&q.2.Cy)||p.2.FE q.2)&&(decide (n=c.lh)&&decide (n<=fP))
def rE (a1:eG) (s:aE) (args:List Operand):List aP:=(args.map (a_ a1 s.aD)).map λv=>(use v).2
def rF (c:fY) (s1:aE) (b:Nat):Nat:=(KV (acA c.cM s1) b).getD nI
def FO (a1:eG) (s:aE) (o:Oper) (args:List Operand) (c:fY):Option js:=
 match c.cM.zP (rF c (sx s (rE a1 s args))) (sx s (rE a1 s args)) with
 | some (G,b8)=>match CD c (rF c (sx s (rE a1 s args))) (s.cL b8) (sy (s.cL b8) (o.dst.getD 0) (rF c (sx s (rE a1 s args))) c.cM.oS c.bP.bI 0) (o.dst.getD 0) args.length with
  | true=>some ⟨c.bP.aq,c.bP.zQ,k_ (args.map (a_ a1 s.aD)),c.sh G,λbA=>acB (s.cL b8) o c (rF c (sx s (rE a1 s args))) (sy (s.cL b8) (o.dst.getD 0) (rF c (sx s (rE a1 s args))) c.cM.oS c.bP.bI 0) bA,none⟩
  | false=>none
 | none=>none
def FP (a1:eG) (s:aE) (o:Oper) (t:Nat) (args:List Operand):Option js:=
 match s.aD t,s.aD b_ with
 | .gA cP,.a5 l aM L n st=>match (j3 aM ((args.map (a_ a1 s.aD)).map λv=>(use v).2)).run s.ag with
  | some (x,b8)=>some ⟨Bool,false,k_ (args.map (a_ a1 s.aD)),A.ah (cP=l/\st=false/\∃ T,L (n++x::T)) (A.any λ_=>True),λb=>aE.set ⟨λi=>if i=b_ then .a5 l aM L (n++[x]) (!b) else s.aD i,(s.cL b8).ag⟩ o.dst (.val .bool b),none⟩
  | none=>none
 | _,_=>none
def FQ (a1:eG) (T:Nat->ai) (s:aE) (o:Oper) (ty:TypeId) (x:Operand):Option js:=
 match T ty,o.dst with
 | .map k v,some d=>match use (a_ a1 s.aD x) with
  | (cD,av)=>match (dV (.map k v) av).run s.ag with
   | some (es,b8)=>if b8.contains d then none else
    some ⟨Unit,(),cD,A.pure (),λ_=>((s.cL b8).cy d ⟨(s.ag d).gen+1,.cj k v none es⟩).set o.dst (.kI d ((s.ag d).gen+1)),none⟩
   | none=>none
 | _,_=>none
def pick {ao:Type} (l:List ao):A (Option ao):=⟨True,λx=>match x with | none=>l=[] | some a=>a∈l⟩
def FR {ao:Type} (l:List ao):A (Option Nat):=⟨True,λx=>match x with | none=>l=[] | some i=>i<l.length⟩
def RU (i:Option Nat):Nat:=match i with | none=>0 | some _=>2
def mK {ao:Type} (c:Option ao) (bZ:List ao) (i:Option Nat):Option ao:=match i with | none=>c | some i=>bZ[i]?
def CE {ao:Type} (bZ:List ao) (i:Option Nat):List ao:=match i with | none=>bZ | some i=>bZ.eraseIdx i
def FT (a1:eG) (s:aE) (o:Oper) (x:Operand) (str:Bool):Option js:=
 match str,a_ a1 s.aD x with
 | false,.kI b g=>if (s.ag b).gen=g then (match (s.ag b).body with
  | .cj k v c bZ=>some ⟨Option Nat,none,True,FR bZ,λi=>(s.cy b ⟨g,.cj k v (mK c bZ i) (CE bZ i)⟩).set o.dst (.qi (Nat.succ (RU i)) (hN [.val .bool i.isSome])),none⟩
  | _=>none) else none
 | _,_=>none
def FU (a1:eG) (s:aE) (o:Oper) (x:Operand):Option js:=
 match a_ a1 s.aD x with
 | .kI b g=>if (s.ag b).gen=g then (match (s.ag b).body with
  | .cj k v c _=>some ⟨Unit,(),True,A.ah (c.isSome=true) (A.pure ()),λ_=>s.set o.dst (.qi 2 (hN [.val k ((c.map (·.1)).getD k.ee),.val v ((c.map (·.2)).getD v.ee)])),none⟩
  | _=>none) else none
 | _=>none
def CF (a1:eG) (T:Nat->ai) (s:aE) (o:Oper) (op:BinOp) (ty:TypeId) (x y:Operand):Option js:=
 match T ty,a_ a1 s.aD y with
 | .slice e,.cr=>match (dV (.slice e) (use (a_ a1 s.aD x)).2).run s.ag with
  | some (xs,_)=>match op with
   | .eql=>some ⟨Bool,false,(use (a_ a1 s.aD x)).1,A.any λb=>b=true->xs=[],λb=>s.set o.dst (.val .bool b),none⟩
   | .neq=>some ⟨Bool,false,(use (a_ a1 s.aD x)).1,A.any λb=>b=true->xs=[],λb=>s.set o.dst (.val .bool (!b)),none⟩
   | _=>none
  | none=>none
 | _,_=>none
def rG (a1:eG) (T:Nat->ai) (bd:Nat->Option aU) (Ψ:Nat->Option iA) (s:aE) (o:Oper):Option js:=
 match o.op with
 | .call c=>match c.callee with
  | .value f=>match f with
   | .func k=>match Ψ k with
    | some (.jr c')=>FO a1 s o c.args.toList c'
    | some (.FL c')=>FM a1 s o c.args.toList c'
    | _=>match KU bd Ψ k with
     | some eP=>CB a1 s o c.args.toList eP
     | none=>none
   | .tmp t=>match CC a1 s o t c.args.toList with
    | some r=>some r
    | none=>FP a1 s o t c.args.toList
   | _=>none
  | _=>none
 | .range ty x=>FQ a1 T s o ty x
 | .next x str=>FT a1 s o x str
 | .entry x=>FU a1 s o x
 | .binOp op ty x y _=>CF a1 T s o op ty x y
 | _=>none
def cJ {ao:Type} (g:Bool) (m:A ao) (d:ao):A ao:=if g=true then m else A.pure d
def sz {β:Type} (b:Bool) (p:Prop) (m:A β):A β:=match b with | true=>m | false=>A.ah p m
def CG (o:Oper) (fH:aP) (l:List (Nat×bS)):Option (List (Nat×bS)×aP):=
 match l with
 | []=>some ([],fH)
 | p::cP=>match o.op with
  | .makeFunc ..=>some (p::cP,fH)
  | .buildSlice ..=>match cP,fH,p.2.body with
   | [],.ad bg g',.bu e xs=>if bg=p.1/\g'=p.2.gen then some ([(p.1,⟨p.2.gen,.gK⟩)],.val (.slice e) xs) else none
   | _,_,_=>none
  | _=>none
def RV (ih:List (Nat×bS)) (fH:aP):aP:=
 match fH with
 | .ad b _=>match ih.find? (λp=>p.1 == b) with
  | some (_,⟨_,.bu e xs⟩)=>.val (.slice e) xs
  | _=>fH
 | _=>fH
abbrev pM:=List (Nat×(Nat×Bool))
def sA (ops:Array Oper) (j d:Nat):Bool:=match ops[j]? with | some o=>(match o.dst with | some e=>e == d | none=>false) | none=>false
def acC (tg:pM) (t:Nat) (k:Nat×Bool):Bool:=tg.any λp=>p.1 == t&&(p.2.1 == k.1&&p.2.2 == k.2)
def xv (ops:Array Oper) (tg:pM) (o:Oper):pM:=
 match o.dst with
 | none=>tg
 | some d=>match o.guard with
  | some k=>if sA ops k.1 d=true then tg.filter λp=>p.1 != d&&!sA ops p.2.1 d else (d,k)::tg.filter λp=>p.1 != d&&!sA ops p.2.1 d
  | none=>tg.filter λp=>p.1 != d&&!sA ops p.2.1 d
def xw (aQ:Operand->aP) (tg:pM) (gk:Option (Nat×Bool)) (x:Operand):Bool:=
 !(aQ x).zI||(match x,gk with | .tmp t,some k=>acC tg t k | _,_=>false)
def FV (ops:Array Oper) (tg:pM) (c x:Operand) (want:Bool):Bool:=
 match c,x with
 | .tmp c,.tmp t=>tg.any λp=>p.1 == t&&(sA ops p.2.1 c&&p.2.2 == want)
 | _,_=>false
def KX (aQ:Operand->aP) (tg:pM) (gk:Option (Nat×Bool)) (o:Oper):Bool:=o.op.operands.toList.all (xw aQ tg gk)
def zR (aQ:Operand->aP) (ops:Array Oper) (tg:pM) (gk:Option (Nat×Bool)) (o:Oper):Bool:=
 match o.op with
 | .pick c a b=>xw aQ tg gk c&&((xw aQ tg gk a||FV ops tg c a true)&&(xw aQ tg gk b||FV ops tg c b false))
 | _=>KX aQ tg gk o
def KY (aQ:Operand->aP) (tg:pM) (gk:Option (Nat×Bool)) (o:Oper) (fH:aP):Bool:=
 !fH.zI||(match o.op with | .move x=>xw aQ tg gk x | _=>false)
def iP:Operand->Option Nat
 | .tmp t=>some t
 | _=>none
def zS (o gM j9:Oper):Option (Oper×Nat×Nat):=
 match o.op with
 | .mapEntry ty m x=>match gM.op with
  | .extract e 1=>match j9.op with
   | .entryStore nB dI a9 y=>match o.dst,gM.dst,j9.dst with
    | some d1,some d2,none=>if iP e=some d1/\iP a9=some d2/\nB=ty/\(iP dI).isSome=true/\iP dI=iP m/\(iP y).isSome=true/\iP m≠some d1/\iP m≠some d2/\iP y≠some d1/\iP y≠some d2/\o.guard.isNone=true/\gM.guard.isNone=true/\j9.guard.isNone=true
     then some ({ j9 with op:=.mapUpdate ty m x y },d1,d2) else none
    | _,_,_=>none
   | _=>none
  | _=>none
 | _=>none
def zT (o:Oper) (os:List Oper):Option (Oper×Nat×Nat):=
 match os with
 | gM::j9::_=>zS o gM j9
 | _=>none
def FW {β:Type}:Nat->Int->(Nat->A β)->A β
 | 0,_,_=>A.fail
 | 1,_,k=>k 0
 | n+2,v,k=>if v=((n+1:Nat):Int) then k (n+1) else FW (n+1) v k
theorem RW {β:Type} {O:β->Prop} {k:Nat->A β} {v:Int}:∀ {n:Nat},A.cp (FW n v k) O->0<=v->v<(n:Int)->A.cp (k v.toNat) O
 | 0,h,_,_=>h.1.elim
 | 1,h,aW,M=>by
  have:v.toNat=0:=by omega
  rw [this];exact h
 | n+2,h,aW,M=>by
  unfold FW at h;split at h
  ·grind
  ·exact RW h aW (by omega)
def na {β:Type} (a1:eG) (T:Nat->ai) (bd:Nat->Option aU) (Ψ:Nat->Option iA) (ops:Array Oper):List Oper->pM->aE->(aE->A β)->A β
 | [],_,s,k=>k s
 | o::os,tg,s,k=>
  match zT o os with
  | some (kR,d1,d2)=>match os with
   | _::_::acD=>match (bo a1 T bd (a_ a1 s.aD) kR).run s.ag with
    | some res=>A.ah res.cD (A.ah res.c (na a1 T bd Ψ ops acD [] (((s.i_ none res).set (some d1) .undef).set (some d2) .undef) k))
    | none=>A.fail
   | _=>A.fail
  | none=>
  match ld s.aD ops o.guard with
  | none=>A.fail
  | some none=>match (bo a1 T bd (a_ a1 s.aD) o).run s.ag with
   | some res=>sz (zR (a_ a1 s.aD) ops tg none o) res.cD (sz (oP (a_ a1 s.aD) o) res.c (na a1 T bd Ψ ops os (xv ops tg o) (s.i_ o.dst res) k))
   | none=>match rG a1 T bd Ψ s o with
    | some ck=>sz (sw (a_ a1 s.aD) o) ck.cD (A.bind ck.m λy=>na a1 T bd Ψ ops os [] (ck.st y) k)
    | none=>A.fail
  | some (some g)=>match (bo a1 T bd (a_ a1 s.aD) o).run s.ag with
   | some ⟨cD,c,fH,ih⟩=>match CG o fH ih with
    | some (xx,sB)=>sz (zR (a_ a1 s.aD) ops tg o.guard o&&(oP (a_ a1 s.aD) o&&KY (a_ a1 s.aD) tg o.guard o sB)) (g=true->cD/\(c/\(use sB).1)) (na a1 T bd Ψ ops os (xv ops tg o) ((s.gV xx).set o.dst (.ie g (use sB).2)) k)
    | none=>if g=true then A.ah cD (A.ah c (na a1 T bd Ψ ops os [] (s.i_ o.dst ⟨cD,c,fH,ih⟩) k)) else na a1 T bd Ψ ops os [] (s.set o.dst (.ie false (RV ih (use fH).2))) k
   | none=>match rG a1 T bd Ψ s o with
    | some ck=>match ck.CA with
     | some gs=>sz (KX (a_ a1 s.aD) tg o.guard o) (g=true->ck.cD) (A.bind (cJ g ck.m ck.d) λy=>na a1 T bd Ψ ops os (xv ops tg o) (gs g y) k)
     | none=>if g=true then A.ah ck.cD (A.bind ck.m λy=>na a1 T bd Ψ ops os [] (ck.st y) k) else na a1 T bd Ψ ops os [] (s.set o.dst (.ie false (use ((ck.st ck.d).aD (o.dst.getD 0))).2)) k
    | none=>A.fail
def CH {β:Type}:List Prop->A β->A β
 | [],m=>m
 | p::l,m=>A.ah p (CH l m)
def zU (cl:List (List Nat)):Nat->Nat
 | 0=>0
 | n+1=>if (List.range n).all (λi=>(cl.getD n []).contains i)=true then zU cl n else n+1
def KZ (hi jc il jt mL:Oper):Bool:=
 match hi.op,jc.op,il.op with
 | .lookup ty m x false,.binOp .add _ (.tmp t) (.const (.int k c)) _,.mapEntry nB dI ec=>match hi.dst,jc.dst,zS il jt mL with
  | some eQ,some gG,some (_,d1,d2)=>decide (t=eQ/\nB=ty/\ji k c/\iP dI=iP m/\iP ec=iP x/\eQ≠gG/\eQ≠d1/\eQ≠d2/\gG≠d1/\gG≠d2/\d1≠d2/\
    (iP m).isSome=true/\(iP x).isSome=true/\iP m≠some eQ/\iP m≠some gG/\iP m≠some d1/\iP m≠some d2/\iP x≠some eQ/\iP x≠some gG/\iP x≠some d1/\iP x≠some d2/\hi.guard.isNone=true/\jc.guard.isNone=true)
  | _,_,_=>false
 | _,_,_=>false
def FX (ops:List Oper):Bool:=
 match ops.drop (ops.length - 5) with
 | [hi,jc,il,jt,mL]=>KZ hi jc il jt mL&&(Cw ops&&((List.range 5).all λq=>(List.range (ops.length - 5)).all λi=>((ja ops).getD (ops.length - 5+q) []).contains i)&&
   ((ja ops).getD (ops.length - 5+1) []).contains (ops.length - 5)&&((ja ops).getD (ops.length - 5+3) []).contains (ops.length - 5+2)&&((List.range 4).all λq=>((ja ops).getD (ops.length - 5+4) []).contains (ops.length - 5+q))&&
   (jn il).all (λi=>decide (i<ops.length - 5))&&(jn jt).all (λi=>decide (i<ops.length - 5)||decide (i=ops.length - 5+2)))
 | _=>false
def mM (ops:List Oper):Nat:=if FX ops=true then ops.length - 5 else zU (ja ops) ops.length
def A.acE {ao:Type} (l:List (A ao)):A ao:=⟨∀ m∈l,m.dU,λx=>∃ m∈l,m.bP x⟩
def vM (ops:List Oper) (done:List Nat):List Nat:=(List.range ops.length).filter λi=>!done.contains i&&match ops[i]? with | some o=>(jn o).all λj=>done.contains j | none=>false
def rH (ops:List Oper):Nat->List Nat->List (List Nat)
 | 0,_=>[[]]
 | f+1,done=>match vM ops done with
  | []=>[[]]
  | l=>l.flatMap λi=>(rH ops f (i::done)).map (i::·)
def FY (ops:List Oper):Nat->List Nat->Bool
 | 0,done=>(vM ops done).isEmpty
 | f+1,done=>(vM ops done).all λi=>FY ops f (i::done)
def FZ {β:Type} (a1:eG) (T:Nat->ai) (bd:Nat->Option aU) (Ψ:Nat->Option iA) (ops:Array Oper) (o:Oper) (s:aE) (k:aE->A β):A β:=
 match o.guard with
 | some _=>A.fail
 | none=>match (bo a1 T bd (a_ a1 s.aD) o).run s.ag with
  | some res=>sz (zR (a_ a1 s.aD) ops [] none o) res.cD (sz (oP (a_ a1 s.aD) o) res.c (k (s.i_ o.dst res)))
  | none=>match rG a1 T bd Ψ s o with
   | some ck=>sz (sw (a_ a1 s.aD) o) ck.cD (A.bind ck.m λy=>k (ck.st y))
   | none=>A.fail
def zV {β:Type} (a1:eG) (T:Nat->ai) (bd:Nat->Option aU) (Ψ:Nat->Option iA) (ops:Array Oper):List Nat->aE->(aE->A β)->A β
 | [],s,k=>k s
 | i::cb,s,k=>match ops[i]? with
  | some o=>FZ a1 T bd Ψ ops o s λs'=>zV a1 T bd Ψ ops cb s' k
  | none=>A.fail
def RX {β:Type} (a1:eG) (T:Nat->ai) (bd:Nat->Option aU) (Ψ:Nat->Option iA) (ops:Array Oper) (s:aE) (k:aE->A β):A β:=
 match FY ops.toList ops.size [] with
 | true=>A.acE ((rH ops.toList ops.size []).map λl=>zV a1 T bd Ψ ops l s k)
 | false=>A.fail
def K1 {β:Type} (a1:eG) (T:Nat->ai) (bd:Nat->Option aU) (Ψ:Nat->Option iA) (ops:Array Oper) (s:aE) (k:aE->A β):A β:=
 match xk a1 T bd ops ops.toList s with
 | some (l,s')=>match zL ops.toList l with
  | true=>CH (l.flatMap fm.cs) (k s')
  | false=>A.fail
 | none=>match xk a1 T bd ops (ops.toList.take (mM ops.toList)) s with
  | some (l,s')=>match zL (ops.toList.take (mM ops.toList)) l&&Cw ops.toList with
   | true=>CH (l.flatMap fm.cs) (na a1 T bd Ψ ops (ops.toList.drop (mM ops.toList)) [] s' k)
   | false=>A.fail
  | none=>RX a1 T bd Ψ ops s k
inductive dS where
 | fS
 | seq (a b:dS)
 | xy (sh:dX) (a b:dS)
 | cond (a b:dS)
 | block (a:dS)
 | loop (sh:dX) (a:dS)
 | scope (a:dS)
 | range (sh rin rout:dX) (a b:dS)
 | oi (a b:dS)
 | split (i off n:Nat) (a:dS)
 | num (i n:Nat) (a:dS)
def dS.e8:dS->Bool
 | .fS=>true
 | .seq a b=>a.e8&&b.e8
 | .xy _ a b=>a.e8&&b.e8
 | .cond a b=>a.e8&&b.e8
 | .block a=>a.e8
 | .loop _ a=>a.e8
 | .scope a=>a.e8
 | .range ..=>false
 | .oi a b=>a.e8&&b.e8
 | .split _ _ _ a=>a.e8
 | .num _ _ a=>a.e8
def dS.rI:dS->Bool
 | .oi ..=>true
 | .fS=>true
 | _=>false
inductive dc where
 | normal
 | exit (id:Nat)
 | ret
def dc.qx:dc->Exit
 | .normal=>.normal
 | .exit id=>.exit id
 | .ret=>.ret
open A (ab)
def RY {β:Type} (k:dc->aE->A β) (f:aE->A β) (e:dc) (s:aE):A β:=
 match e with
 | .normal=>f s
 | .exit id=>k (.exit id) s
 | .ret=>k .ret s
def xz {G β:Type} (k:dc->aE->A β) (f:aE->A (ab G β)) (e:dc) (s:aE):A (ab G β):=
 match e with
 | .normal=>f s
 | .exit id=>A.bind (k (.exit id) s) λr=>A.pure (.done r)
 | .ret=>A.bind (k .ret s) λr=>A.pure (.done r)
def RZ {β:Type} (id:Nat) (k:dc->aE->A β) (e:dc) (s:aE):A β:=
 match e with
 | .normal=>k .normal s
 | .exit F3=>if F3=id then k .normal s else k (.exit F3) s
 | .ret=>k .ret s
def ab.bx {G β:Type} (f:G->A β) (st:ab G β):A β:=
 match st with
 | .next x=>f x
 | .done r=>A.pure r
def R0 {β:Type} (v:aP) (m n:A β):A β:=
 match v with
 | .val .bool t=>if t=true then m else n
 | .ie g (.val .bool t)=>A.ah (g=true) (if t=true then m else n)
 | _=>A.fail
def K2 (s:aE) (i off:Nat):Option (Int×(Nat->aE)):=
 match s.aD i with
 | .aV b _ o=>match (s.ag b).body with
  | .cells t f=>match f (o+off) with
   | .val (.int kd) x=>some (x,λj=>⟨s.aD,λbg=>if bg=b then ⟨(s.ag b).gen,.cells t λq=>if q=o+off then .val (.int kd) (j:Int) else f q⟩ else s.ag bg⟩)
   | _=>none
  | _=>none
 | _=>none
theorem acF {s:aE} {i off:Nat} {x:Int} {f:Nat->aE} (h:K2 s i off=some (x,f)) (aW:0<=x):f x.toNat=s:=by
 unfold K2 at h;split at h
 ·rename_i b g o aA;split at h
  ·rename_i t g3 af;split at h
   ·rename_i kd ec au;simp only [Option.some.injEq,Prod.mk.injEq] at h;obtain ⟨rfl,rfl⟩:=h;have dC:((ec.toNat:Nat):Int)=ec:=by omega
    have aK:(λq=>if q=o+off then aP.val (.int kd) (show (ai.int kd).aq from ((ec.toNat:Nat):Int)) else g3 q)=g3:=by
     grind
    have bq:(λbg=>if bg=b then (⟨(s.ag b).gen,.cells t g3⟩:bS) else s.ag bg)=s.ag:=by
     funext q;split
     ·rename_i e;rw [e,<-af]
     ·rfl
    simp_all
   grind
  grind
 grind
def K3 (s:aE) (i:Nat):Option (Int×(Nat->aE)):=
 match s.aD i with
 | .val (.int kd) x=>some (x,λn=>⟨λj=>if j=i then .val (.int kd) (n:Int) else s.aD j,s.ag⟩)
 | _=>none
theorem acG {s:aE} {i n:Nat} {x:Int} {f:Nat->aE} (h:K3 s i=some (x,f)) (aW:x=(n:Int)):f n=s:=by
 unfold K3 at h;split at h
 ·rename_i kd ec aA;simp only [Option.some.injEq,Prod.mk.injEq] at h;obtain ⟨rfl,rfl⟩:=h;have aK:(λj=>if j=i then aP.val (.int kd) (show (ai.int kd).aq from (n:Int)) else s.aD j)=s.aD:=by
   grind
  simp_all
 grind
def ju {G ao:Type} (body:G->ao->A (dc×G)):List ao->G->A (dc×G)
 | [],G=>A.pure (.normal,G)
 | x::xs,G=>A.bind (body G x) λp=>match p.1 with
  | .normal=>ju body xs p.2
  | .exit id=>A.pure (.exit id,p.2)
  | .ret=>A.pure (.ret,p.2)
def zW (aM:ai) (x:aM.aq):List Tmp->Nat->(Nat->aP)->Nat->aP
 | [],_,f=>f
 | p::ps,i,f=>zW aM x ps (i+1) (λj=>if j=p then k9 aM x i else f j)
def xA (s:aE) (aM:ai) (x:aM.aq) (ps:List Tmp):aE:=⟨λi=>if i=b_ then s.aD b_ else zW aM x ps 0 s.aD i,s.ag⟩
def vN (rin rout:dX):fY:=⟨rin,rout,[],0,λ_=>A.fail⟩
def t_ {bA:Type} (sh rin rout:dX) (aM:ai) (ps:List Tmp) (G:sh.aq) (x:aM.aq) (run:aE->A (bA×rout.aq)):A (bA×sh.aq):=
 match rin.zP (rF (vN rin rout) (xA (sh.st G) aM x ps)) (xA (sh.st G) aM x ps) with
 | some (aQ,b8)=>match CD (vN rin rout) (rF (vN rin rout) (xA (sh.st G) aM x ps)) ((sh.st G).cL b8) (sy ((sh.st G).cL b8) 0 (rF (vN rin rout) (xA (sh.st G) aM x ps)) rin.oS rout.bI 0) 0 0 with
  | true=>A.bind (run (rin.st aQ)) λp=>sh.nH (xu ((sh.st G).cL b8) (vN rin rout) (rF (vN rin rout) (xA (sh.st G) aM x ps)) (sy ((sh.st G).cL b8) 0 (rF (vN rin rout) (xA (sh.st G) aM x ps)) rin.oS rout.bI 0) p.2) λjv=>A.pure (p.1,jv)
  | false=>A.fail
 | none=>A.fail
def oj (sh rout:dX) (aM:ai) (ps:List Tmp) (nt:Nat):Bool:=
 rout.b3.isEmpty&&!sh.b3.any (λp=>p.1 == b_)&&decide (aM≠.da)&&decide (ps.length=kK aM)&&ps.all λp=>decide (p<nt)
def F4 {β:Type} (f:aE->A β) (e:dc) (s:aE):A β:=
 match e with
 | .normal=>f s
 | .exit _=>A.fail
 | .ret=>A.fail
def qy {β:Type} (n:A β) (x:Nat->A β) (r:A β) (e:dc):A β:=
 match e with
 | .normal=>n
 | .exit id=>x id
 | .ret=>r
def K4 {β:Type} (k:dc->aE->A β) (e:dc) (s:aE):A β:=qy (k .normal s) (λid=>k (.exit id) s) (k .ret s) e
theorem R1 {β:Type} (k:dc->aE->A β) (e:dc) (s:aE):K4 k e s=k e s:=by cases e<;>rfl
def fZ (a1:eG) (T:Nat->ai) (bd:Nat->Option aU) (Ψ:Nat->Option iA):dS->{β:Type}->Code->aE->(dc->aE->A β)->A β
 | .seq a b,_,c,s,k=>match c with
  | .seq x y=>fZ a1 T bd Ψ a x s (RY k λs'=>fZ a1 T bd Ψ b y s' k)
  | _=>A.fail
 | .xy sh a b,β,c,s,k=>match c with
  | .seq x y=>A.bind (fZ a1 T bd Ψ a (β:=ab sh.aq β) x s (xz k λs'=>sh.nH s' λG=>A.pure (.next G))) (ab.bx λG=>fZ a1 T bd Ψ b y (sh.st G) k)
  | _=>A.fail
 | .cond a b,_,c,s,k=>match c with
  | .cond c x y=>R0 (a_ a1 s.aD c) (fZ a1 T bd Ψ a x s k) (fZ a1 T bd Ψ b y s k)
  | _=>A.fail
 | .block a,_,c,s,k=>match c with
  | .block id c=>fZ a1 T bd Ψ a c s (RZ id k)
  | _=>A.fail
 | .loop sh a,β,c,s,k=>match c with
  | .loop c=>sh.nH s λG=>A.loop (λG=>fZ a1 T bd Ψ a (β:=ab sh.aq β) c (sh.st G) (xz k λs'=>sh.nH s' λjv=>A.pure (.next jv))) G
  | _=>A.fail
 | .oi a b,_,c,s,k=>match c with
  | .loop x=>match b.rI with
   | true=>fZ a1 T bd Ψ a x s (RY k λs'=>fZ a1 T bd Ψ b (.loop x) s' k)
   | false=>A.fail
  | _=>A.fail
 | .scope a,_,c,s,k=>match c with
  | .scope c=>fZ a1 T bd Ψ a c s k
  | _=>A.fail
 | .num i n a,_,c,s,k=>match K3 s i with
  | some (x,f)=>A.ah (x=(n:Int)) (fZ a1 T bd Ψ a c (f n) k)
  | none=>A.fail
 | .split i off n a,_,c,s,k=>match K2 s i off with
  | some (x,f)=>A.ah (0<=x/\x<(n:Int)) (FW n x λj=>fZ a1 T bd Ψ a c (f j) k)
  | none=>A.fail
 | .range sh rin rout a b,_,c,s,k=>match c with
  | .rangeFunc g ps assign body=>match a_ a1 s.aD g with
   | .sc rJ n fr=>match Ψ rJ with
    | some (.cj ic)=>match (j3 ic.ts ((List.range n).map fr)).run s.ag with
     | some (x,b8)=>match oj sh rout ic.aM ps.toList fP&&(a.e8&&b.e8) with
      | true=>sh.nH (s.cL b8) λG=>A.ah (ic.pre x) (A.bind (ju (λG y=>t_ sh rin rout ic.aM ps.toList G y λs1=>
       fZ a1 T bd Ψ a (β:=dc×rout.aq) assign s1 (F4 λs2=>fZ a1 T bd Ψ b body s2 λe gl=>rout.nH gl λbA=>A.pure (e,bA))) (ic.seq x) G) λp=>K4 k p.1 (sh.st p.2))
      | false=>A.fail
     | none=>A.fail
    | _=>A.fail
   | .val (.cj aM) S=>match oj sh rout aM ps.toList fP&&(a.e8&&b.e8) with
    | true=>sh.nH s λG=>A.bind (A.any S) λL=>A.bind (ju (λG y=>t_ sh rin rout aM ps.toList G y λs1=>
     fZ a1 T bd Ψ a (β:=dc×rout.aq) assign s1 (F4 λs2=>fZ a1 T bd Ψ b body s2 λe gl=>rout.nH gl λbA=>A.pure (e,bA))) L G) λp=>K4 k p.1 (sh.st p.2)
    | false=>A.fail
   | _=>A.fail
  | _=>A.fail
 | .fS,_,c,s,k=>match c with
  | .region _ ops draw=>match draw with
   | true=>K1 a1 T (KT bd Ψ) Ψ ops s (k .normal)
   | false=>na a1 T bd Ψ ops ops.toList [] s (k .normal)
  | .skip=>k .normal s
  | .label _=>k .normal s
  | .exit id=>k (.exit id) s
  | .ret=>k .ret s
  | _=>A.fail
def mN (nt:Nat):Code->Bool
 | .region _ ops _=>ops.toList.all λo=>m9 o nt
 | .seq a b=>mN nt a&&mN nt b
 | .cond _ a b=>mN nt a&&mN nt b
 | .block _ a=>mN nt a
 | .loop a=>mN nt a
 | .scope a=>mN nt a
 | .rangeFunc _ ps a b=>ps.toList.all (λp=>decide (p<nt))&&(mN nt a&&mN nt b)
 | .skip=>true
 | .label _=>true
 | .exit _=>true
 | .ret=>true
 | _=>false
end Go.Fer
namespace Go.Fer
open Go.RowKit
def oT (x y:b7):Prop:=(y.gB=true->x.gB=true)/\(y.gC=true->x.gC=true/\y.len=x.len/\y.gq=x.gq)/\(y.hE=true->x.hE=true)/\(y.my=true->x.my=true)/\∀ k,y.cd k=true->x.cd k=true
theorem oT.refl (x:b7):oT x x:=⟨id,λh=>⟨h,rfl,rfl⟩,id,id,λ_=>id⟩
theorem oT.gK (x:b7):oT x .gK:=⟨λh=>(by cases h),λh=>(by cases h),λh=>(by cases h),λh=>(by cases h),λ_ h=>(by cases h)⟩
def sC (f:Nat->Nat) (H H':Nat->bS):Prop:=∀ b,(H' b).gen=0/\oT (H (f b)).body (H' b).body
section
variable {P:Program} {H H':Nat->bS} {κ:Nat->bD} {F F':Nat->Prop} {w:World} {f:Nat->Nat}
theorem R2 (aL:sC f H H') {b off:Nat} {v:Value} (h:bw P H κ F w (.aV (f b) (H (f b)).gen off) v):bw P H' (λb=>κ (f b)) F' w (.aV b 0 off) v:=
 ⟨⟨Nat.zero_le _,h.1.2⟩,λ_ hc=>h.2 rfl ((aL b).2.1 hc)⟩
def K5 (P:Program) (H H':Nat->bS) (κ:Nat->bD) (f:Nat->Nat) (F F':Nat->Prop) (w:World) {R:Type} (r:Option (R×List Nat)) (l:List Nat) (av av':aP) (y:R):Prop:=
 ∃ m,r=some (y,m)/\(∀ b∈m,b∈l)/\(jJ H κ F' l->∀ v,bw P H κ F w av v->bw P H' (λb=>κ (f b)) F' w av' v)
theorem K5.ik {R:Type} {r:Option (R×List Nat)} {l:List Nat} {av av':aP} {y:R} (h:r=some (y,l)) (k:∀ v,bw P H κ F w av v->bw P H' (λb=>κ (f b)) F' w av' v):K5 P H H' κ f F F' w r l av av' y:=
 ⟨l,h,λ_ af=>af,λ_=>k⟩
theorem lj {ao:Type} {b:Bool} {r:Option ao} {x:ao} (h:vL b r=some x):b=true/\r=some x:=by
 cases b with
 | true=>exact ⟨rfl,h⟩
 | false=>cases h
theorem qz {t:ai} {av:aP} {R:Type} {r:Option (R×List Nat)} {z:t.aq×R} {l:List Nat} (h:xp H t av r=some (z,l)):∃ eS m,(dV t av).run H=some (z.1,eS)/\r=some (z.2,m)/\l=eS++m:=by
 unfold xp at h;grind
theorem K6 {t:ai} {av:aP} {R:Type} {r:Option (R×List Nat)} {z:t.aq×R} {l:List Nat} (h:Kz t av r=some (z,l)):av=.fb t z.1/\r=some (z.2,l):=by
 unfold Kz at h;grind
theorem K7 {b:Nat} {av:aP} {R:Type} {r:Option (R×List Nat)} {z:(Nat×Nat)×R} {l:List Nat} (h:KA H b av r=some (z,l)) :
  r=some (z.2,l)/\(av=.sub b (H b).gen z.1.1 z.1.2\/(av=.ad b (H b).gen/\(H b).body.gC=true/\z.1=(0,(H b).body.len))):=by
 unfold KA at h;grind
theorem F5 {aM:ai} {av:aP} {R:Type} {r:Option (R×List Nat)} {z:(Nat×(List aM.aq->Prop)×List aM.aq×Bool)×R} {l:List Nat} (h:KB aM av r=some (z,l)) :
  r=some (z.2,l)/\av=.a5 z.1.1 aM z.1.2.1 z.1.2.2.1 z.1.2.2.2:=by
 unfold KB at h;grind
theorem K8 {av:aP} {R:Type} {r:Option (R×List Nat)} {z:Nat×R} {l:List Nat} (h:KC av r=some (z,l)):r=some (z.2,l)/\av=.gA z.1:=by
 unfold KC at h;grind
theorem R3 {b off:Nat} {av:aP} (h:FF H b off av=true):av=.aV b (H b).gen off:=by
 unfold FF at h;grind
theorem R4 {b:Nat} {av:aP} (h:FG H b av=true):av=.ad b (H b).gen:=by
 unfold FG at h;grind
theorem acH {b:Nat} {av:aP} (h:KD H b av=true):av=.dQ b (H b).gen:=by
 unfold KD at h;grind
theorem acI {b:Nat} {av:aP} (h:KE H b av=true):av=.kI b (H b).gen:=by
 unfold KE at h;grind
theorem acJ {av:aP} (h:KF av=true):av=.cr:=by
 unfold KF at h;grind
theorem acK (aL:sC f H H') {k:FuncId} {gN:List (Nat×Nat)} {av:aP} (h:KG H f k gN av=true) {v:Value} (aj:bw P H κ F w av v):bw P H' (λb=>κ (f b)) F' w (.j1 k gN.length (vJ de gN)) v:=by
 unfold KG at h;split at h
 ·rename_i k' n caps;simp only [Bool.and_eq_true,beq_iff_eq] at h;obtain ⟨⟨rfl,rfl⟩,e⟩:=h;obtain ⟨aH,M,aa,an⟩:=aj;refine ⟨aH,M,aa,λi U=>?_⟩;have he:=List.all_eq_true.1 e i (by grind);have aj:=an i U;rw [show gN[i]?=some gN[i] by simp] at he;rw [R3 he] at aj;have:vJ de gN i=.aV gN[i].1 0 gN[i].2:=by simp [vJ,hN,List.getD_eq_getElem?_getD,U,de]
  rw [this];exact R2 aL aj
 grind
theorem acL (aL:sC f H H') {bs:List Nat} {av:aP} (h:KH H f bs av=true) {v:Value} (aj:bw P H κ F w av v):bw P H' (λb=>κ (f b)) F' w (.agg bs.length (vK de bs)) v:=by
 unfold KH at h;split at h
 ·rename_i n dx;simp only [Bool.and_eq_true,beq_iff_eq] at h;obtain ⟨rfl,e⟩:=h;obtain ⟨aH,M,aa,an⟩:=aj;refine ⟨aH,M,aa,λi U=>?_⟩;have he:=List.all_eq_true.1 e i (by grind);obtain ⟨aj,hc⟩:=an i U;refine ⟨?_,hc⟩;rw [show bs[i]?=some bs[i] by simp] at he;rw [R4 he] at aj;have:vK de bs i=.ad bs[i] 0:=by simp [vK,hN,List.getD_eq_getElem?_getD,U,de]
  rw [this];refine ⟨⟨Nat.zero_le _,aj.1.2⟩,λ_ hc=>?_⟩;obtain ⟨aS,aY,_⟩:=(aL bs[i]).2.2.1 hc;rw [aY];exact aj.2 rfl aS
 grind
theorem zX (a6:∀ b,cO P H κ F w b) (bB:∀ r,F r->F' r) (aL:sC f H H') (t:cE) {av:aP} {R:Type} {r:Option (R×List Nat)} {z:t.cons R} {l:List Nat} (h:t.kp H f av r=some (z,l)) :
  K5 P H H' κ f F F' w r l av (t.av de z).1 (t.av de z).2:=by
 cases t with
 | undef=>exact .ik h λ_ _=>by simp only [cE.av,bw]
 | val t=>
  obtain ⟨eS,m,au,rfl,rfl⟩:=qz h;exact ⟨m,rfl,λb af=>List.mem_append_right _ af,λaw v aj=>n9 a6 bB au aw.left aj⟩
 | fb t=>
  obtain ⟨rfl,rfl⟩:=K6 h;exact .ik rfl λv ⟨p,bn,M,aa,an⟩=>⟨p,bn,M,aa.mono bB (c6.refl _ _),gp _ bB (c6.refl _ _) an⟩
 | aV b off=>
  obtain ⟨M,aa⟩:=lj h;obtain rfl:=R3 M;exact .ik aa λv aj=>R2 aL aj
 | ad b=>
  obtain ⟨M,aa⟩:=lj h;obtain rfl:=R4 M;refine .ik aa λv aj=>⟨⟨Nat.zero_le _,aj.1.2⟩,λ_ hc=>?_⟩
  obtain ⟨aS,aY,_⟩:=(aL b).2.2.1 hc;simp only [de];rw [aY];exact aj.2 rfl aS
 | sub b=>
  obtain ⟨M,aa⟩:=K7 h;refine .ik M λv aj=>?_;rcases aa with rfl | ⟨rfl,fI,an⟩
  ·refine ⟨⟨Nat.zero_le _,aj.1.2⟩,λ_ hc=>?_⟩;obtain ⟨aS,aY,bK⟩:=(aL b).2.2.1 hc;simp only [de] at aY bK ⊢;rw [aY,bK];exact aj.2 rfl aS
  ·refine ⟨⟨Nat.zero_le _,aj.1.2⟩,λ_ hc=>?_⟩;obtain ⟨aS,aY,bK⟩:=(aL b).2.2.1 hc;have:=aj.2 rfl aS;simp only [de] at aY bK ⊢;rw [aY,bK,an];refine ⟨⟨Nat.zero_le _,Nat.le_refl _⟩,?_⟩;rw [this];unfold bD.slice;cases aI:(κ (f b)).h0 with
   | true=>exact .inl ⟨aI,rfl⟩
   | false=>exact .inr ⟨aI,(κ (f b)).off,by simp,by simp,λ_=>by simp⟩
 | dQ b=>
  obtain ⟨M,aa⟩:=lj h;obtain rfl:=acH M;exact .ik aa λv aj=>⟨⟨Nat.zero_le _,aj.1.2⟩,λ_ hc=>aj.2 rfl ((aL b).2.2.2.1 hc)⟩
 | kI b=>
  obtain ⟨M,aa⟩:=lj h;obtain rfl:=acI M;exact .ik aa λv aj=>⟨⟨Nat.zero_le _,aj.1.2⟩,λ_ hc=>aj.2 rfl ((aL b).2.2.2.2.1 hc)⟩
 | cr=>
  obtain ⟨M,aa⟩:=lj h;obtain rfl:=acJ M;exact .ik aa λv aj=>aj
 | j1 k gN=>
  obtain ⟨M,aa⟩:=lj h;exact .ik aa λv aj=>acK aL M aj
 | gX bs=>
  obtain ⟨M,aa⟩:=lj h;exact .ik aa λv aj=>acL aL M aj
 | a5 aM=>
  obtain ⟨M,rfl⟩:=F5 h;exact .ik M λv aj=>aj
 | gA=>
  obtain ⟨M,rfl⟩:=K8 h;exact .ik M λv aj=>aj
theorem acM (a6:∀ b,cO P H κ F w b) (bB:∀ r,F r->F' r) (aL:sC f H H'):∀ (ts:List cE) {c:Nat->aP} {i:Nat} {R:Type} {r:Option (R×List Nat)} {z:qw ts R} {l:List Nat},zO H f ts c i r=some (z,l)->
  ∃ m,r=some ((pK de ts z).2,m)/\(∀ b∈m,b∈l)/\(jJ H κ F' l->∀ j,j<ts.length->∀ v,bw P H κ F w (c (i+j)) v->bw P H' (λb=>κ (f b)) F' w ((pK de ts z).1.getD j .undef) v):=by
 intro ts;induction ts with
 | nil=>intro c i R r z l h;exact ⟨l,h,λ_ af=>af,λ_ j aC=>by cases aC⟩
 | cons t ts aO=>
  intro c i R r z l h;obtain ⟨eb,M,aa,an⟩:=zX (F':=F') (H':=H') a6 bB aL t h;obtain ⟨eN,aS,aY,fe⟩:=aO M;refine ⟨eN,aS,λb af=>aa b (aY b af),λaw j aC v aj=>?_⟩;cases j with
  | zero=>exact an aw v aj
  | succ j=>
   have:=fe (λb af=>aw b (aa b af)) j (by grind) v (by grind);simpa [pK] using this
theorem acN (a6:∀ b,cO P H κ F w b) (bB:∀ r,F r->F' r) (aL:sC f H H'):∀ (ts:List (Nat×cE)) {c:Nat->aP} {R:Type} {r:Option (R×List Nat)} {z:oR ts R} {l:List Nat},xr H f ts c r=some (z,l)->
  ∃ m,r=some ((e9 de ts z).2,m)/\(∀ b∈m,b∈l)/\(jJ H κ F' l->∀ i v,bw P H κ F w (c i) v->bw P H' (λb=>κ (f b)) F' w (gF (e9 de ts z).1 i) v):=by
 intro ts;induction ts with
 | nil=>intro c R r z l h;exact ⟨l,h,λ_ af=>af,λ_ _ _ _=>by simp only [e9,gF,bw]⟩
 | cons p ts aO=>
  intro c R r z l h;obtain ⟨eb,M,aa,an⟩:=zX (F':=F') (H':=H') a6 bB aL p.2 h;obtain ⟨eN,aS,aY,fe⟩:=aO M;refine ⟨eN,aS,λb af=>aa b (aY b af),λaw i v aj=>?_⟩;simp only [e9,gF];split
  ·grind
  ·exact fe (λb af=>aw b (aa b af)) i v aj
theorem K9 (t:cE) {av:aP} {R:Type} {r:Option (R×List Nat)} {z:t.cons R} {l:List Nat} (h:t.kp H f av r=some (z,l)):∃ m,r=some ((t.av de z).2,m)/\∀ b∈m,b∈l:=by
 cases t with
 | undef=>exact ⟨l,h,λ_ h=>h⟩
 | val t=>obtain ⟨_,m,_,aa,an⟩:=qz h;exact ⟨m,aa,λb af=>an ▸ List.mem_append_right _ af⟩
 | fb t=>exact ⟨l,(K6 h).2,λ_ h=>h⟩
 | sub b=>exact ⟨l,(K7 h).1,λ_ h=>h⟩
 | a5 aM=>exact ⟨l,(F5 h).1,λ_ h=>h⟩
 | gA=>exact ⟨l,(K8 h).1,λ_ h=>h⟩
 | aV b off=>exact ⟨l,(lj h).2,λ_ h=>h⟩
 | ad b=>exact ⟨l,(lj h).2,λ_ h=>h⟩
 | dQ b=>exact ⟨l,(lj h).2,λ_ h=>h⟩
 | kI b=>exact ⟨l,(lj h).2,λ_ h=>h⟩
 | cr=>exact ⟨l,(lj h).2,λ_ h=>h⟩
 | j1 k gN=>exact ⟨l,(lj h).2,λ_ h=>h⟩
 | gX bs=>exact ⟨l,(lj h).2,λ_ h=>h⟩
theorem acO:∀ (ts:List cE) {c:Nat->aP} {i:Nat} {R:Type} {r:Option (R×List Nat)} {z:qw ts R} {l:List Nat},zO H f ts c i r=some (z,l)->∃ m,r=some ((pK de ts z).2,m)/\∀ b∈m,b∈l:=by
 intro ts;induction ts with
 | nil=>intro c i R r z l h;exact ⟨l,h,λ_ h=>h⟩
 | cons t ts aO=>
  intro c i R r z l h;obtain ⟨m,M,aa⟩:=K9 t h;obtain ⟨dI,an,a8⟩:=aO M;exact ⟨dI,an,λb af=>aa b (a8 b af)⟩
theorem acP:∀ (ts:List (Nat×cE)) {c:Nat->aP} {R:Type} {r:Option (R×List Nat)} {z:oR ts R} {l:List Nat},xr H f ts c r=some (z,l)->∃ m,r=some ((e9 de ts z).2,m)/\∀ b∈m,b∈l:=by
 intro ts;induction ts with
 | nil=>intro c R r z l h;exact ⟨l,h,λ_ h=>h⟩
 | cons p ts aO=>
  intro c R r z l h;obtain ⟨m,M,aa⟩:=K9 p.2 h;obtain ⟨dI,an,a8⟩:=aO M;exact ⟨dI,an,λb af=>aa b (a8 b af)⟩
theorem F6 (t:cE) {av:aP} {R:Type} {r:Option (R×List Nat)} {z:t.cons R} {l:List Nat} (h:t.kp H f av r=some (z,l)) (W:∀ y m,r=some (y,m)->hy H m):hy H l:=by
 cases t with
 | undef=>exact W _ _ h
 | val t=>obtain ⟨_,m,M,aa,rfl⟩:=qz h;exact (od M).append (W _ _ aa)
 | fb t=>exact W _ _ (K6 h).2
 | sub b=>exact W _ _ (K7 h).1
 | a5 aM=>exact W _ _ (F5 h).1
 | gA=>exact W _ _ (K8 h).1
 | aV b off=>exact W _ _ (lj h).2
 | ad b=>exact W _ _ (lj h).2
 | dQ b=>exact W _ _ (lj h).2
 | kI b=>exact W _ _ (lj h).2
 | cr=>exact W _ _ (lj h).2
 | j1 k gN=>exact W _ _ (lj h).2
 | gX bs=>exact W _ _ (lj h).2
theorem acQ:∀ (ts:List cE) {c:Nat->aP} {i:Nat} {R:Type} {r:Option (R×List Nat)} {z:qw ts R} {l:List Nat},zO H f ts c i r=some (z,l)->(∀ y m,r=some (y,m)->hy H m)->hy H l:=by
 intro ts;induction ts with
 | nil=>intro c i R r z l h W;exact W _ _ h
 | cons t ts aO=>intro c i R r z l h W;exact F6 t h λy m hm=>aO hm W
theorem acR:∀ (ts:List (Nat×cE)) {c:Nat->aP} {R:Type} {r:Option (R×List Nat)} {z:oR ts R} {l:List Nat},xr H f ts c r=some (z,l)->(∀ y m,r=some (y,m)->hy H m)->hy H l:=by
 intro ts;induction ts with
 | nil=>intro c R r z l h W;exact W _ _ h
 | cons p ts aO=>intro c R r z l h W;exact F6 p.2 h λy m hm=>aO hm W
theorem K_ {t:ai} {ts:List cE} {kq:b7} {R:Type} {r:Option (R×List Nat)} {z:qw ts R} {l:List Nat} (h:KI H f t ts kq r=some (z,l)):∃ c,kq=.cells t c/\t.size=ts.length/\zO H f ts c 0 r=some (z,l):=by
 unfold KI at h;grind
theorem K' {e:ai} {kq:b7} {R:Type} {r:Option (R×List Nat)} {z:List e.aq×R} {l:List Nat} (h:KJ e kq r=some (z,l)):r=some (z.2,l)/\kq=.bu e z.1:=by
 unfold KJ at h;grind
theorem La {k v:ai} {kq:b7} {R:Type} {r:Option (R×List Nat)} {z:List (k.aq×v.aq)×R} {l:List Nat} (h:KK k v kq r=some (z,l)):r=some (z.2,l)/\kq=.mp k v z.1:=by
 unfold KK at h;grind
theorem Lb {k v:ai} {kq:b7} {R:Type} {r:Option (R×List Nat)} {z:(Option (k.aq×v.aq)×List (k.aq×v.aq))×R} {l:List Nat} (h:KL k v kq r=some (z,l)):r=some (z.2,l)/\kq=.cj k v z.1.1 z.1.2:=by
 unfold KL at h;grind
theorem Lc {t:ai} {kq:b7} {R:Type} {r:Option (R×List Nat)} {z:t.aq×R} {l:List Nat} (h:KM H t kq r=some (z,l)):∃ c,kq=.cells t c/\xp H t (.agg t.size c) r=some (z,l):=by
 unfold KM at h;grind
theorem Ld {t:ai} {b:Nat} {R:Type} {r:Option (R×List Nat)} {z:t.aq×R} {l:List Nat} (h:KN H t b r=some (z,l)):∃ eS m,(dV (.bQ t) (.aV b (H b).gen 0)).run H=some (some z.1,eS)/\r=some (z.2,m)/\l=eS++m:=by
 unfold KN at h;split at h
 ·rename_i x eS au;split at h
  ·cases h;exact ⟨eS,_,au,rfl,rfl⟩
  ·cases h
 ·cases h
theorem R5 {e:ai} {b:Nat} {xs:List e.aq} {l:List Nat} (h:(dV (.slice e) (.ad b (H b).gen)).run H=some (xs,l)):(H b).body=.bu e xs\/(H b).body=.ig e xs:=by
 simp only [dV,k7,ai.fE,if_true,eW,az.gr,az.bW] at h;split at h
 ·rename_i a9 bG af;simp only [Option.map_eq_some_iff,Prod.mk.injEq] at h;obtain ⟨z,bm,rfl,_⟩:=h;obtain ⟨rr,rfl⟩:=lD bm;grind
 ·rename_i a9 bG af;simp only [Option.map_eq_some_iff,Prod.mk.injEq] at h;obtain ⟨z,bm,rfl,_⟩:=h;obtain ⟨rr,rfl⟩:=lD bm;grind
 grind
theorem acS {k v:ai} {b:Nat} {xs:List (k.aq×v.aq)} {l:List Nat} (h:(dV (.map k v) (.dQ b (H b).gen)).run H=some (xs,l)):(H b).body=.mp k v xs\/(H b).body=.jH k v xs:=by
 simp only [dV,k7,ai.fE,if_true,eW,az.gr,az.bW] at h;split at h
 ·rename_i k' iL bG af;simp only [Option.map_eq_some_iff,Prod.mk.injEq] at h;obtain ⟨z,bm,rfl,_⟩:=h;obtain ⟨rr,rfl⟩:=lD bm;grind
 ·rename_i k' iL bG af;simp only [Option.map_eq_some_iff,Prod.mk.injEq] at h;obtain ⟨z,bm,rfl,_⟩:=h;obtain ⟨rr,rfl⟩:=lD bm;grind
 grind
theorem acT {t:ai} {b:Nat} {x:Option t.aq} {l:List Nat} (h:(dV (.bQ t) (.aV b (H b).gen 0)).run H=some (x,l)):(H b).body.gB=true:=by
 simp only [dV,k7,tE,az.gr,and_self,if_true] at h;split at h
 ·rename_i af;rw [af];rfl
 ·rename_i af;rw [af];rfl
 ·cases h
theorem cv.R6 (t:cv) {b:Nat} {R:Type} {r:Option (R×List Nat)} {z:t.cons R} {l:List Nat} (h:t.kp H f b r=some (z,l)) :
  (∃ m,r=some ((t.body de z).2,m)/\∀ c∈m,c∈l)/\oT (H b).body (t.body de z).1/\∀ k,(t.body de z).1.cd k=true->t.Cy=true:=by
 cases t with
 | cells t ts=>
  obtain ⟨c,e,aA,h⟩:=K_ h;refine ⟨acO ts h,?_,λ_ _=>rfl⟩;rw [e];exact ⟨λ_=>rfl,λh=>(by cases h),λh=>(by cases h),λh=>(by cases h),λ_ _=>rfl⟩
 | bu e=>
  obtain ⟨M,aa⟩:=K' h;refine ⟨⟨l,M,λ_ h=>h⟩,?_,λ_ _=>rfl⟩;rw [aa];exact oT.refl _
 | ig e=>
  obtain ⟨eS,m,M,aa,rfl⟩:=qz h;refine ⟨⟨m,aa,λ_ h=>List.mem_append_right _ h⟩,?_,λ_ h=>(by cases h)⟩;rcases R5 M with e | e<;>rw [e]
  ·exact ⟨λh=>(by cases h),λ_=>⟨rfl,rfl,rfl⟩,λh=>(by cases h),λh=>(by cases h),λ_ h=>(by cases h)⟩
  ·exact oT.refl _
 | mp k v=>
  obtain ⟨M,aa⟩:=La h;refine ⟨⟨l,M,λ_ h=>h⟩,?_,λ_ _=>rfl⟩;rw [aa];exact oT.refl _
 | jH k v=>
  obtain ⟨eS,m,M,aa,rfl⟩:=qz h;refine ⟨⟨m,aa,λ_ h=>List.mem_append_right _ h⟩,?_,λ_ h=>(by cases h)⟩;rcases acS M with e | e<;>rw [e]
  ·exact ⟨λh=>(by cases h),λh=>(by cases h),λ_=>rfl,λh=>(by cases h),λ_ h=>(by cases h)⟩
  ·exact oT.refl _
 | jM t=>
  obtain ⟨c,e,h⟩:=Lc h;obtain ⟨eS,m,M,aa,rfl⟩:=qz h;refine ⟨⟨m,aa,λ_ h=>List.mem_append_right _ h⟩,?_,λ_ _=>rfl⟩;rw [e];exact ⟨λ_=>rfl,λh=>(by cases h),λh=>(by cases h),λh=>(by cases h),λ_ _=>rfl⟩
 | hf t=>
  obtain ⟨eS,m,M,aa,rfl⟩:=Ld h;refine ⟨⟨m,aa,λ_ h=>List.mem_append_right _ h⟩,?_,λ_ h=>(by cases h)⟩;exact ⟨λ_=>acT M,λh=>(by cases h),λh=>(by cases h),λh=>(by cases h),λ_ h=>(by cases h)⟩
 | cj k v=>
  obtain ⟨M,aa⟩:=Lb h;refine ⟨⟨l,M,λ_ h=>h⟩,?_,λ_ _=>rfl⟩;rw [aa];exact oT.refl _
theorem cv.F6 (t:cv) {b:Nat} {R:Type} {r:Option (R×List Nat)} {z:t.cons R} {l:List Nat} (h:t.kp H f b r=some (z,l)) (W:∀ y m,r=some (y,m)->hy H m):hy H l:=by
 cases t with
 | cells t ts=>obtain ⟨c,e,aA,h⟩:=K_ h;exact acQ ts h W
 | bu e=>exact W _ _ (K' h).1
 | ig e=>obtain ⟨eS,m,M,aa,rfl⟩:=qz h;exact (od M).append (W _ _ aa)
 | mp k v=>exact W _ _ (La h).1
 | jH k v=>obtain ⟨eS,m,M,aa,rfl⟩:=qz h;exact (od M).append (W _ _ aa)
 | jM t=>obtain ⟨c,e,h⟩:=Lc h;obtain ⟨eS,m,M,aa,rfl⟩:=qz h;exact (od M).append (W _ _ aa)
 | hf t=>obtain ⟨eS,m,M,aa,rfl⟩:=Ld h;exact (od M).append (W _ _ aa)
 | cj k v=>exact W _ _ (Lb h).1
theorem cv.acU (a6:∀ b,cO P H κ F w b) (bB:∀ r,F r->F' r) (aL:sC f H H') (t:cv) {b:Nat} {R:Type} {r:Option (R×List Nat)} {z:t.cons R} {l:List Nat} (h:t.kp H f b r=some (z,l)) (aw:jJ H κ F' l) :
  k5 P H' (λb=>κ (f b)) F' w (κ b) (t.body de z).1:=by
 have af:=a6 b;unfold cO at af;cases t with
 | cells t ts=>
  obtain ⟨c,e,aA,h⟩:=K_ h;rw [e] at af;obtain ⟨cs,T,aS,aY,bK⟩:=af;obtain ⟨m,_,_,fe⟩:=acM (H':=H') a6 bB aL ts h;refine ⟨cs,T,aS,aY,λi U=>⟨?_,(bK i U).2⟩⟩;have:=fe aw i (by omega) _ (by rw [Nat.zero_add];exact (bK i U).1);exact this
 | bu e=>
  rw [(K' h).2] at af;refine ⟨af.1,λaI=>?_⟩;obtain ⟨cs,T,M,aa,an,a8,bV⟩:=af.2 aI;exact ⟨cs,T,M,aa,an,a8,bV.mono bB (c6.refl _ _)⟩
 | ig e=>
  obtain ⟨eS,m,M,aa,rfl⟩:=qz h;have zw:=R5 M;have xB:=n9 (v:=(κ b).slice (H b).body.len) a6 bB M aw.left ⟨⟨Nat.le_refl _,by unfold bD.slice;split<;>rfl⟩,λ_ _=>rfl⟩;have:=((fa rfl).1 xB).2;rcases zw with a9 | a9<;>(rw [a9] at this;exact this)
 | mp k v=>
  rw [(La h).2] at af;obtain ⟨ms,clk,M,aa⟩:=af;exact ⟨ms,clk,M,aa.mono bB (c6.refl _ _)⟩
 | jH k v=>
  obtain ⟨eS,m,M,aa,rfl⟩:=qz h;have xB:=n9 (v:=.map (some (κ b).ag)) a6 bB M aw.left ⟨⟨Nat.le_refl _,rfl⟩,λ_ _=>rfl⟩;exact ((fa rfl).1 xB).2
 | jM t=>
  obtain ⟨c,e,h⟩:=Lc h;rw [e] at af;obtain ⟨cs,T,aS,aY,bK⟩:=af;obtain ⟨eS,m,au,_,rfl⟩:=qz h;have aj:bw P H κ F w (.agg t.size c) (.agg cs):=⟨cs.toList,by simp,by omega,λj aC=>by
   simp_all⟩
  have xB:=n9 (F':=F') a6 bB au aw.left aj;have iy:=za (P:=P) (H:=H') (κ:=λb=>κ (f b)) t xB.2;refine ⟨cs,T,aS,aY,λi U=>⟨?_,(bK i U).2⟩⟩;have:=(iy.lE i (by rw [iy.len];simpa [Value.cells,aY] using U)).1;rw [List.getD_eq_getElem?_getD] at this;rw [Array.getD_eq_getD_getElem?];simpa [Value.cells] using this
 | hf t=>
  obtain ⟨eS,m,M,aa,rfl⟩:=Ld h;have xB:=n9 (v:=.pointer (some ⟨(κ b).ag,0,none⟩)) a6 bB M aw.left ⟨⟨Nat.le_refl _,rfl⟩,λ_ _=>rfl⟩;rcases ((fa rfl).1 xB).2 with ⟨_,e⟩ | ⟨p,y,bn,aK,bq,an,a8⟩
  ·cases e
  ·simp only [List.cons.injEq,Value.pointer.injEq,Option.some.injEq,and_true] at aK;subst aK;cases bq;exact ⟨bn,an,a8⟩
 | cj k v=>
  rw [(Lb h).2] at af;exact w6.mono af bB (c6.refl _ _) rfl
theorem acV:∀ (l:List (Nat×cv)) {x:pJ l} {m:List Nat},xq H f l=some (x,m)->∀ b,fJ (hQ de l x) b=⟨0,.gK⟩\/
  ∃ kq,fJ (hQ de l x) b=⟨0,kq⟩/\oT (H (f b)).body kq/\∃ t,(b,t)∈l/\∀ k,kq.cd k=true->t.Cy=true:=by
 intro l;induction l with
 | nil=>intro x m _ b;exact .inl rfl
 | cons q l aO=>
  intro x m h b;obtain ⟨db,dR⟩:=q;simp only [xq] at h;obtain ⟨⟨dI,M,aa⟩,an,a8⟩:=cv.R6 dR h;by_cases e:b=db
  ·subst e;exact .inr ⟨_,by simp only [hQ,fJ,if_true],an,dR,by simp,a8⟩
  ·rcases aO M b with k | ⟨kq,aS,aY,t,bK,fe⟩
   ·exact .inl (by simpa [hQ,fJ,e] using k)
   ·exact .inr ⟨kq,by simpa [hQ,fJ,e] using aS,aY,t,List.mem_cons_of_mem _ bK,fe⟩
theorem acW:∀ (l:List (Nat×cv)) {x:pJ l} {m:List Nat},xq H f l=some (x,m)->hy H m:=by
 intro l;induction l with
 | nil=>intro x m h;cases h;exact .nil H
 | cons q l aO=>intro x m h;exact cv.F6 q.2 h λy m hm=>aO hm
theorem acX (a6:∀ b,cO P H κ F w b) (bB:∀ r,F r->F' r) (aL:sC f H H'):∀ (l:List (Nat×cv)) {x:pJ l} {m:List Nat},xq H f l=some (x,m)->jJ H κ F' m->∀ b,k5 P H' (λb=>κ (f b)) F' w (κ (f b)) (fJ (hQ de l x) b).body:=by
 intro l;induction l with
 | nil=>intro x m _ _ b;trivial
 | cons q l aO=>
  intro x m h hm b;obtain ⟨db,dR⟩:=q;simp only [xq] at h;obtain ⟨⟨dI,M,aa⟩,_⟩:=cv.R6 dR h;by_cases e:b=db
  ·subst e;simp only [hQ,fJ,if_true];exact cv.acU a6 bB aL dR h hm
  ·have:=aO M (λc hc=>hm c (aa c hc)) b;simpa [hQ,fJ,e] using this
theorem acY:∀ (ts:List (Nat×cE)) {c:Nat->aP} {R:Type} {r:Option (R×List Nat)} {z:oR ts R} {l:List Nat},xr H f ts c r=some (z,l)->∀ {i cP aM L n st},gF (e9 de ts z).1 i=.a5 cP aM L n st->c i=.a5 cP aM L n st:=by
 intro ts;induction ts with
 | nil=>intro c R r z l _ i cP aM L n st e;cases e
 | cons p ts aO=>
  intro c R r z l h i cP aM L n st e;obtain ⟨h5,t⟩:=p;simp only [xr] at h;obtain ⟨m,M,_⟩:=K9 t h;simp only [e9,gF] at e;split at e
  ·rename_i acZ;subst acZ;cases t with
   | a5 lg=>
    obtain ⟨_,an⟩:=F5 h;rw [an];exact e
   | _=>cases e
  grind
end
structure F7 (C:cf) (s:aE) (a:Act) (w:World) (κ:Nat->bD) (f:Nat->Nat) (F':Nat->Prop) (sh:dX) (G:sh.aq) (b8:List Nat):Prop where
 b3:∀ i,bw C.P (sh.st G).ag (λb=>κ (f b)) F' w ((sh.st G).aD i) (a.tmps.getD i Go.undef)
 bI:∀ b,cO C.P (sh.st G).ag (λb=>κ (f b)) F' w b
 cd:∀ b,((sh.st G).ag b).body.cd (κ (f b))=true->f b ∉ b8/\(s.ag (f b)).body.cd (κ (f b))=true/\b∈sh.oS
 zY:sC f s.ag (sh.st G).ag
 a5:∀ l aM L n st,(sh.st G).aD b_=.a5 l aM L n st->s.aD b_=.a5 l aM L n st
theorem dX.R7 {C:cf} {sh:dX} {f:Nat->Nat} {s:aE} {a:Act} {w:World} {κ:Nat->bD} {F:Nat->Prop} {G:sh.aq} {b8:List Nat} (h:sh.zP f s=some (G,b8)) (W:bl C s a w κ F) :
  ∃ F',(∀ r,F r->F' r)/\bl C (s.cL b8) a w κ F'/\F7 C s a w κ f F' sh G b8:=by
 unfold dX.zP at h;split at h
 ·rename_i jv asI t';split at h
  ·rename_i fI;cases h;obtain ⟨m,M,hm⟩:=acP sh.b3 t';have pC:hy s.ag b8:=acR sh.b3 t' λy m hm=>acW sh.bI hm;obtain ⟨F',f1,bc,f2⟩:=bl.mH pC W;have R8:=acV sh.bI M;have ua:sC f s.ag (sh.st G).ag:=by
    intro b;show (fJ (hQ de sh.bI (e9 de sh.b3 G).2) b).gen=0/\oT (s.ag (f b)).body (fJ (hQ de sh.bI (e9 de sh.b3 G).2) b).body;rcases R8 b with e | ⟨kq,e,k,_⟩
    ·rw [e];exact ⟨rfl,oT.gK _⟩
    grind
   obtain ⟨eN,_,_,ac0⟩:=acN (F':=F') (w:=w) W.bI f1 ua sh.b3 t';refine ⟨F',f1,bc,{ b3:=λi=>ac0 f2 i _ (W.b3 i),bI:=λb=>?_,cd:=λb af=>?_,zY:=ua,a5:=λl aM L n st e=>acY sh.b3 t' e }⟩
   ·exact acX W.bI f1 ua sh.bI M (λc hc=>f2 c (hm c hc)) b
   ·have ak:=(ua b).2.2.2.2.2 _ af;rcases R8 b with e | ⟨kq,e,_,t,aR,asJ⟩
    ·have e:(sh.st G).ag b=_:=e;rw [e] at af;cases af
    ·have e:(sh.st G).ag b=_:=e;rw [e] at af;have be:b∈sh.oS:=List.mem_filterMap.2 ⟨(b,t),aR,by grind⟩;grind
  grind
 grind
theorem F7.xC {C:cf} {s:aE} {a:Act} {w:World} {κ:Nat->bD} {f:Nat->Nat} {F':Nat->Prop} {sh:dX} {G:sh.aq} {b8:List Nat} (h:F7 C s a w κ f F' sh G b8) {b:Nat} (af:((sh.st G).ag b).body.cd (κ (f b))=true) :
  ((s.cL b8).ag (f b)).body.cd (κ (f b))=true:=by
 obtain ⟨M,aa,_⟩:=h.cd b af;simp only [aE.cL,if_neg M];exact aa
theorem Le {C:cf} {s:aE} {a:Act} {w:World} {κ:Nat->bD} {F:Nat->Prop} (W:bl C s a w κ F) {b:Nat} {e:ai} :
  bl C (s.cy b ⟨(s.ag b).gen+1,.bu e []⟩) a w (λi=>if i=b then ⟨0,0,0,true⟩ else κ i) F:=
 W.Cd (k:=⟨0,0,0,true⟩) (Nat.lt_succ_self _) (.inl rfl) (Nat.le_refl _) (λ_ _=>rfl) (λh=>by cases h) (dA.refl _) λ_ _=>⟨λ_=>rfl,λh=>by cases h⟩
theorem ac1 {C:cf} {s:aE} {a:Act} {w:World} {κ:Nat->bD} {F:Nat->Prop} (W:bl C s a w κ F) {i b bg g':Nat} (aA:s.aD i=.ad bg g'):∃ κ',bl C (KP s i b bg g') a w κ' F:=by
 unfold KP;split
 ·rename_i e xs aN b9;obtain ⟨cI,rfl⟩:=of_decide_eq_true aN;generalize tL:(λj=>if j=b then (⟨(s.ag b).gen+1,.bu e xs⟩:bS) else if j=bg then ⟨(s.ag bg).gen+1,.gK⟩ else s.ag j)=H';generalize kS:(λj=>if j=b then κ bg else κ j)=κ';have M:H' b=⟨(s.ag b).gen+1,.bu e xs⟩:=by grind
  have aa:H' bg=⟨(s.ag bg).gen+1,.gK⟩:=by grind
  have an:∀ j,j≠b->j≠bg->H' j=s.ag j:=λj aS aY=>by grind
  have aS:κ' b=κ bg:=by grind
  have bK:∀ j,j≠b->κ' j=κ j:=λj k=>by grind
  have aw:gT s.ag κ H' κ':=by
   rw [BJ];intro j;by_cases aK:j=b
   ·subst aK;rw [M];exact ⟨Nat.le_succ _,λe=>absurd e (Nat.ne_of_lt (Nat.lt_succ_self _))⟩
   ·by_cases bq:j=bg
    ·subst bq;rw [aa];exact ⟨Nat.le_succ _,λe=>absurd e (Nat.ne_of_lt (Nat.lt_succ_self _))⟩
    ·rw [an j aK bq,bK j aK];exact sd.refl _ _
  have hM:∀ j,(H' j).body.cd (κ' j)=true->(j=b/\(s.ag bg).body.cd (κ bg)=true)\/(j≠b/\j≠bg/\(s.ag j).body.cd (κ j)=true):=λj aC=>by
   by_cases aK:j=b
   ·grind
   ·by_cases bq:j=bg
    ·subst bq;rw [aa] at aC;cases aC
    grind
  have h:=W.move (H':=H') (κ':=κ') (F':=F) (w':=w) aw (λ_ h=>h) (λ_ h=>.inl h) (Nat.le_refl _) (λ_ _ _=>rfl) (dA.refl w)
   (λ_ j=>by
    by_cases aK:j=b
    ·subst aK;have a6:=W.bI bg;unfold cO at a6 ⊢;rw [b9] at a6;rw [M,aS];exact a6
    ·by_cases bq:j=bg
     ·subst bq;unfold cO;rw [aa];trivial
     ·exact cO.mA (W.bI j) aw (λ_ h=>h) (c6.refl _ _) (by grind) (bK j aK) λ_=>rfl)
   (λj aC=>by
    rcases hM j aC with ⟨rfl,h⟩ | ⟨aK,_,h⟩
    ·rw [aS];have:=W.ad bg h;grind
    ·rw [bK j aK];have:=W.ad j h;grind)
   (λj kO aC gU e=>by
    rcases hM j aC with ⟨rfl,h⟩ | ⟨aK,bq,h⟩<;>rcases hM kO gU with ⟨rfl,dx⟩ | ⟨R9,ac2,dx⟩
    ·rfl
    ·rw [aS,bK kO R9] at e;exact absurd (W.inj bg kO h dx e).symm ac2
    ·rw [aS,bK j aK] at e;exact absurd (W.inj j bg h dx e) bq
    ·rw [bK j aK,bK kO R9] at e;exact W.inj j kO h dx e)
   W.dM
   (λj _ aC=>by
    by_cases aK:j=b
    ·subst aK;rw [M] at aC;rcases aC with aC | aC<;>cases aC
    ·by_cases bq:j=bg
     ·subst bq;rw [aa] at aC;rcases aC with aC | aC<;>cases aC
     grind)
  refine ⟨κ',{ h with b3:=λj=>?_,eB:=h.eB,dfr:=h.dfr,bI:=h.bI,fQ:=λl aM L n st a9=>?_ }⟩
  ·show bw C.P _ _ F w (if j=i then .ad b ((s.ag b).gen+1) else s.aD j) _;split
   ·rename_i e;subst e;have aj:=W.b3 j;rw [aA] at aj;have kJ:=aj.2 rfl (by rw [b9];rfl);rw [b9] at kJ;exact ⟨⟨by grind,aj.1.2⟩,λ_ _=>by grind⟩
   ·exact h.b3 j
  ·have a9:(if b_=i then .ad b ((s.ag b).gen+1) else s.aD b_)=.a5 l aM L n st:=a9;split at a9
   ·cases a9
   ·exact h.fQ l aM L n st a9
 grind
theorem ac3 {C:cf} {bs:List (Nat×cv)} {s:aE} {a:Act} {w:World} {κ:Nat->bD} {F:Nat->Prop} (W:bl C s a w κ F) (i b:Nat):∃ κ',bl C (KQ bs s i b) a w κ' F:=by
 unfold KQ;split
 ·rename_i e aA _;have h:=Le W (b:=b) (e:=e);refine ⟨_,{ h with b3:=λj=>?_,eB:=h.eB,dfr:=h.dfr,bI:=h.bI,fQ:=λl aM L n st a9=>?_ }⟩
  ·show bw C.P _ _ F w (if j=i then .ad b ((s.ag b).gen+1) else s.aD j) _;split
   ·rename_i e;subst e;have aj:=W.b3 j;rw [aA] at aj;have aj:a.tmps.getD j undef=.slice none 0 0:=aj;rw [aj];exact ⟨⟨by simp [aE.cy],rfl⟩,λ_ _=>by simp [bD.slice]⟩
   ·exact h.b3 j
  ·have a9:(if b_=i then .ad b ((s.ag b).gen+1) else s.aD b_)=.a5 l aM L n st:=a9;split at a9
   ·cases a9
   ·exact h.fQ l aM L n st a9
 ·rename_i aA _;exact ac1 W aA
 grind
theorem ac4 {C:cf} {bs:List (Nat×cv)} {s:aE} {a:Act} {w:World} {κ:Nat->bD} {F:Nat->Prop} (W:bl C s a w κ F) (c j b:Nat):∃ κ',bl C (KR bs s c j b) a w κ' F:=by
 unfold KR;split
 ·rename_i t f hc;split
  ·rename_i e ax aN _;have R_:c≠b:=λe=>by grind
   have h:=Le W (b:=b) (e:=e);have h2:(s.cy b ⟨(s.ag b).gen+1,.bu e []⟩).ag c=s.ag c:=by simp [aE.cy,R_]
   have a6:=h.bI c;unfold cO at a6;rw [h2,hc] at a6;obtain ⟨cs,T,M,aa,an⟩:=a6;refine ⟨_,h.tD (w':=w) (b:=c) (x:=⟨(s.ag c).gen,.cells t λq=>if q=j then .ad b ((s.ag b).gen+1) else f q⟩) (by rw [h2,hc];rfl) rfl
    (vp (by rw [h2]) (λ_=>by rw [h2,hc];rfl) (λh=>by cases h) (λh=>by cases h) (λh=>by cases h)) (λ_=>by rw [h2,hc];rfl) (λh=>by cases h) (λ_ _=>rfl) rfl (dA.refl _) λH tL aw _=>?_⟩
   refine ⟨cs,T,M,aa,λq bt=>⟨?_,(an q bt).2⟩⟩;show bw C.P H _ F w (if q=j then .ad b ((s.ag b).gen+1) else f q) _;split
   ·rename_i eq;subst eq;have aj:=(an q bt).1;rw [ax] at aj;have aj:cs.getD q undef=.slice none 0 0:=aj;rw [aj];have ac5:H b=⟨(s.ag b).gen+1,.bu e []⟩:=by rw [tL];simp [aE.cy,Ne.symm R_]
    exact ⟨⟨by grind,rfl⟩,λ_ _=>by rw [ac5];simp [bD.slice]⟩
   ·exact bw.nw aw (λ_ h=>h) (c6.refl _ _) (an q bt).1
  grind
 grind
theorem ac6 {C:cf} (sh:dX) {s:aE} {a:Act} {w:World} {κ:Nat->bD} {F:Nat->Prop} (W:bl C s a w κ F):∃ κ',bl C (sh.FK s) a w κ' F:=by
 have M:∀ (l:List (Nat×cE)) (s:aE) (κ:Nat->bD),bl C s a w κ F->∃ κ',bl C (FH sh.bI l s) a w κ' F:=by
  intro l;induction l with
  | nil=>intro s κ h;exact ⟨κ,h⟩
  | cons p l aO=>
   intro s κ h;simp only [FH];split
   ·obtain ⟨κ',dx⟩:=ac3 (bs:=sh.bI) h p.1 _;exact aO _ _ dx
   grind
 have aa:∀ (c:Nat) (l:List cE) (j:Nat) (s:aE) (κ:Nat->bD),bl C s a w κ F->∃ κ',bl C (FI sh.bI c l j s) a w κ' F:=by
  intro c l;induction l with
  | nil=>intro j s κ h;exact ⟨κ,h⟩
  | cons t l aO=>
   intro j s κ h;simp only [FI];split
   ·obtain ⟨κ',dx⟩:=ac4 (bs:=sh.bI) h c j _;exact aO _ _ _ dx
   ·exact aO _ _ _ h
 have an:∀ (l:List (Nat×cv)) (s:aE) (κ:Nat->bD),bl C s a w κ F->∃ κ',bl C (FJ sh.bI l s) a w κ' F:=by
  intro l;induction l with
  | nil=>intro s κ h;exact ⟨κ,h⟩
  | cons p l aO=>
   intro s κ h;simp only [FJ];split
   ·obtain ⟨κ',dx⟩:=aa p.1 _ 0 s κ h;exact aO _ _ dx
   grind
 obtain ⟨ac7,g5⟩:=M sh.b3 s κ W;exact an sh.bI _ _ g5
theorem R':∀ (l:List (Nat×cv)) (x:pJ l) (b:Nat),(fJ (hQ de l x) b).body.gC=true->∃ q∈l,q.1=b/\q.2.RN=true
 | [],_,_,h=>by cases h
 | p::l,x,b,h=>by
  simp only [hQ,fJ] at h;by_cases e:b=p.1
  ·rw [if_pos e] at h;refine ⟨p,by simp,e.symm,?_⟩;obtain ⟨h5,t⟩:=p;cases t<;>first | rfl | cases h
  ·rw [if_neg e] at h;obtain ⟨q,M,aa⟩:=R' l _ b h;grind
theorem dX.zZ {C:cf} {sh:dX} {s:aE} {a:Act} {w:World} {G:sh.aq} {κ:Nat->bD} {F:Nat->Prop} (h:sh.kp s=some G) (W:bl C s a w κ F):∃ κ' F',(∀ r,F r->F' r)/\bl C (sh.st G) a w κ' F':=by
  obtain ⟨κ,W⟩:=ac6 sh W;unfold dX.kp at h;generalize sh.FK s=s at h W;split at h;case h_2=>cases h
  rename_i CJ;simp only [Option.map_eq_some_iff] at h;obtain ⟨⟨jv,b8⟩,h,rfl⟩:=h;obtain ⟨F',f1,bc,aN⟩:=dX.R7 h W;have hM:=λb af=>aN.xC (b:=b) af;exact ⟨κ, F', f1, { bc with
    eB:=bc.eB,dfr:=bc.dfr,b3:=aN.b3,bI:=aN.bI,ad:=λb af=>bc.ad b (hM b af),inj:=λb bg af dq=>bc.inj b bg (hM b af) (hM bg dq)
    lC:=λb r W hc=>bc.lC b r W (hc.imp (λhc=>by
      have aW:=(aN.zY b).2.1 hc;simp only [aE.cL];split
      · rcases zr s.ag (s.ag b) with e | ⟨_,_,au,_⟩ | ⟨_,_,_,au,_⟩ | ⟨_,_,_,_,_,_,e⟩
        · grind
        · rw [au] at aW;cases aW
        · rw [au] at aW;cases aW
        · rw [e];rfl
      omega) (λhc=>by
      have aW:=(aN.zY b).2.2.2.1 hc;simp only [aE.cL];split
      · rcases zr s.ag (s.ag b) with e | ⟨_,_,au,_⟩ | ⟨_,_,_,_,e⟩ | ⟨_,_,_,_,au,_,_⟩
        · grind
        · rw [au] at aW;cases aW
        · rw [e];rfl
        · rw [au] at aW;cases aW
      omega))
    mC:=λb k ak _ bf=>by
      obtain ⟨bN,b1,_⟩:=(aN.zY b).2.2.1 bf;have aL:(s.ag b).gen=0:=by
        rcases R' sh.bI (e9 de sh.b3 jv).2 b bf with ⟨q,bt,rfl,ob⟩
        have:=List.all_eq_true.1 CJ q bt;rw [ob] at this;have Cm:=W.m2 _ k ak;grind
      obtain ⟨aS,aY⟩:=W.mC b k ak aL bN;grind
    fQ:=λl aM L n st e=>by
      obtain ⟨M,aa,Y,an,a8,bV⟩:=bc.fQ l aM L n st (aN.a5 l aM L n st e);grind }⟩
theorem dX.zX {C:cf} {sh:dX} {s:aE} {a:Act} {w:World} {G:sh.aq} (h:sh.kp s=some G) (W:cG C s a w):cG C (sh.st G) a w:=by
 obtain ⟨κ,F,W⟩:=W;obtain ⟨κ',F',_,bc⟩:=dX.zZ h W;exact ⟨κ',F',bc⟩
end Go.Fer
