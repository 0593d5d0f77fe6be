/- Part 1 of the proof of TopTrials: shallow programs of Go functions, and what they compute. No condition. -/
import Derived.Below
import Derived.OrdersIn
import Derived.RangeFuncCalls
import Derived.RangeFuncSeq
import Derived.Laws.StructEq
import Derived.Laws.Tables
import Derived.ChangeMaps3
noncomputable section
abbrev z1':=List Int
abbrev z2':=List (Int×Int×Int×Int)
abbrev z3':=List (Int×Int×Int)
abbrev z4':=List (Int×Int)
abbrev z5':=List ((Int×Int×Int)×Int)
abbrev z6':=List (Nat×(Nat×Nat))
abbrev z7':=List (Int×Int×Int×Int×Int×Int)
abbrev z8':=List (Nat×Nat)
abbrev z9':=List (Option Nat)
set_option linter.unusedVariables false
set_option linter.unusedSimpArgs false
namespace Go.Fer
@[ext] structure A (ak:Type):Type where
 ck:Prop
 bK:ak->Prop
namespace A
variable {ak β gC D aI:Type}
def pure(x:ak):A ak:=⟨True,λy=>y=x⟩
def bind(m:A ak)(f:ak->A β):A β:=⟨m.ck/\∀ x,m.bK x->(f x).ck,λy=>∃ x,m.bK x/\(f x).bK y⟩
def ab(p:Prop)(m:A ak):A ak:=⟨p/\m.ck,m.bK⟩
def dR(p:Prop)(x:ak):A ak:=⟨p,λy=>y=x⟩
def any(p:ak->Prop):A ak:=⟨∃ x,p x,p⟩
theorem ext'{m n:A ak}(E:m.ck<->n.ck)(U:∀ x,m.bK x<->n.bK x):m=n:=by
 cases m;cases n;simp only[A.mk.injEq];grind
@[simp] theorem iT (x:ak):(pure x).ck=True:=rfl
@[simp] theorem axw (x y:ak):(pure x).bK y=(y=x):=rfl
@[simp] theorem aF (x:ak) (f:ak->A β):bind (pure x) f=f x:=ext' (by simp[bind,pure]) (by simp[bind,pure])
@[simp] theorem axx (m:A ak):bind m pure=m:=ext' (by simp[bind,pure]) (by simp[bind,pure])
theorem bt{p:Prop}(h:p)(m:A ak):ab p m=m:=ext' (by simp[ab,h]) (by simp[ab])
@[simp] theorem bp (m:A ak):ab True m=m:=bt trivial m
theorem Fj(p:Prop)(m:A ak)(f:ak->A β):bind (ab p m) f=ab p (bind m f):=ext' (by simp[bind,ab,and_assoc]) (by simp[bind,ab])
@[simp] theorem nF (x:ak):dR True x=pure x:=rfl
theorem bR{p:Prop}(h:p)(x:ak):dR p x=pure x:=ext' (by simp_all) (by simp_all)
theorem du(p:Prop)(x:ak)(f:ak->A β):bind (dR p x) f=ab p (f x):=by
 apply ext'
 ·simp[bind,dR,ab]
 ·simp[bind,dR,ab]
theorem Rf{c:Prop}[Decidable c](m n:A ak)(f:ak->A β):bind (if c then m else n) f=if c then bind m f else bind n f:=by grind
def le(n m:A ak):Prop:=m.ck->n.ck/\∀ y,n.bK y->m.bK y
theorem le_refl(m:A ak):le m m:=λh=>⟨h,λ_ h=>h⟩
theorem le_trans{a b c:A ak}(h:le a b)(k:le b c):le a c:=λaD=>⟨(h (k aD).1).1,λy aQ=>(k aD).2 y ((h (k aD).1).2 y aQ)⟩
theorem le_of_eq{a b:A ak}(h:a=b):le a b:=h ▸ le_refl a
def cx(m:A ak)(p:ak->Prop):Prop:=m.ck/\∀ y,m.bK y->p y
theorem cx.mono{m:A ak}{p q:ak->Prop}(h:cx m p)(k:∀ y,p y->q y):cx m q:=⟨h.1,λy aQ=>k y (h.2 y aQ)⟩
theorem ea{x:ak}{p:ak->Prop}:cx (pure x) p<->p x:=⟨λh=>h.2 x rfl,λh=>⟨trivial,λ_ e=>e ▸ h⟩⟩
theorem gg{m:A ak}{f:ak->A β}{p:β->Prop}:cx (bind m f) p<->cx m λx=>cx (f x) p:=
 ⟨λh=>⟨h.1.1,λx ah=>⟨h.1.2 x ah,λy aQ=>h.2 y ⟨x,ah,aQ⟩⟩⟩,λh=>⟨⟨h.1,λx ah=>(h.2 x ah).1⟩,λy ⟨x,ah,aQ⟩=>(h.2 x ah).2 y aQ⟩⟩
theorem kL{q:Prop}{m:A ak}{p:ak->Prop}:cx (ab q m) p<->q/\cx m p:=by
 simp[cx,ab,and_assoc]
inductive V(D aI:Type) where
 | next (s:D)
 | done (r:aI)
inductive BN(body:D->A (V D aI)):D->Prop where
 | mk (s:D) (h:(body s).ck) (k:∀ s',(body s).bK (.next s')->BN body s'):BN body s
inductive yX(body:D->A (V D aI)):D->aI->Prop where
 | done (s:D) (r:aI) (h:(body s).bK (.done r)):yX body s r
 | next (s s':D) (r:aI) (h:(body s).bK (.next s')) (k:yX body s' r):yX body s r
def loop(body:D->A (V D aI))(s:D):A aI:=⟨BN body s,yX body s⟩
theorem BO(body:D->A (V D aI))(s:D) :
  loop body s=bind (body s) fun | .next s'=>loop body s' | .done r=>pure r:=by
 apply ext'
 ·constructor
  ·rintro⟨_,h,k⟩;refine⟨h,λx ah=>?_⟩;cases x with
   | next s'=>exact k s' ah
   | done r=>trivial
  ·rintro⟨h,k⟩;exact⟨s,h,λs' aD=>k _ aD⟩
 ·intro r;constructor
  ·rintro (⟨_,_,h⟩ | ⟨_,s',_,h,k⟩)
   ·exact⟨.done r,h,rfl⟩
   ·exact⟨.next s',h,k⟩
  ·rintro⟨x,ah,M⟩;cases x with
   | next s'=>exact .next s s' r ah M
   | done pY=>cases M;exact .done s _ ah
theorem yY{body:D->A (V D aI)}{s s':D}(h:body s=pure (.next s')):loop body s=loop body s':=by
 rw[BO,h,aF]
theorem rZ{body:D->A (V D aI)}{s:D}{r:aI}(h:body s=pure (.done r)):loop body s=pure r:=by
 rw[BO,h,aF]
theorem acL{body:D->A (V D aI)}{res:aI}(I:D->Prop)(wR:D->Nat)
  (round:∀ s,I s->(∃ s',body s=pure (.next s')/\I s'/\wR s'<wR s)\/body s=pure (.done res)) (s:D) (h:I s) :
  loop body s=pure res:=by
 have key:∀ n s,wR s=n->I s->loop body s=pure res:=by
  intro n;induction n using Nat.strongRecOn with
  | _ n aJ=>
   intro s aA aD;rcases round s aD with⟨s',e,eA,cb⟩ | e
   ·rw[yY e];grind
   ·exact rZ e
 grind
theorem BP{body:D->A (V D aI)}{p:aI->Prop}(I:D->Prop)(wR:D->Nat)
  (round:∀ s,I s->cx (body s) fun | .next s'=>I s'/\wR s'<wR s | .done r=>p r) (s:D) (h:I s):cx (loop body s) p:=by
 have key:∀ n s,wR s=n->I s->cx (loop body s) p:=by
  intro n;induction n using Nat.strongRecOn with
  | _ n aJ=>
   intro s aA aD;rw[BO,gg];refine (round s aD).mono λy aQ=>?_;cases y with
   | next s'=>grind
   | done r=>exact ea.2 aQ
 grind
end A
end Go.Fer
namespace Go.Fer
def Rg(b:Nat)(c:Nat->Option Value):Prop:=
 match b with
 | 0=>∃ m,c 0=some (.int .i64 m)
 | 1 | 2=>∃ v,c 0=some v/\(v=.nilIface\/∃ lI mc,v=.iface lI mc)
 | 5=>∀ i,c i=if i<20 then some (.int .u64 (10 ^ i)) else none
 | _=>True
end Go.Fer
namespace Go.Fer
open Go.RowKit
inductive ad where
 | bool | int (k:IntKind) | str | cT
 | st (t:ad) | ay (a b:ad)
 | slice (e:ad) | array (n:Nat) (e:ad) | bH (e:ad) | map (k v:ad) | fn (a b:ad) | cr (a:ad) | et
 deriving DecidableEq
@[reducible] def ad.ai:ad->Type
 | .bool=>Bool
 | .int _=>Int
 | .str=>List UInt8
 | .cT=>Unit
 | .st t=>t.ai
 | .ay a b=>a.ai×b.ai
 | .slice e=>List e.ai
 | .array _ e=>List e.ai
 | .bH e=>Option e.ai
 | .map k v=>List (k.ai×v.ai)
 | .fn a b=>a.ai->A b.ai
 | .cr a=>List a.ai->Prop
 | .et=>Option Nat
def ad.de:(t:ad)->t.ai
 | .bool=>false
 | .int _=>(0:Int)
 | .str=>[]
 | .cT=>()
 | .st t=>t.de
 | .ay a b=>(a.de,b.de)
 | .slice _=>[]
 | .array n e=>List.replicate n e.de
 | .bH _=>none
 | .map _ _=>[]
 | .fn _ _=>λ_=>⟨False,λ_=>False⟩
 | .cr _=>λ_=>False
 | .et=>none
def ad.size:ad->Nat
 | .cT=>0
 | .st t=>t.size
 | .ay a b=>a.size+b.size
 | .array n e=>n*e.size
 | _=>1
def ad.eE:ad->Bool
 | .cT | .st _ | .ay _ _ | .array _ _=>false
 | _=>true
def fU(k:IntKind)(n:Int):Prop:=k.min<=n/\n<=k.max
instance (k:IntKind) (n:Int):Decidable (fU k n):=inferInstanceAs (Decidable (_/\_))
def Holds(F:Nat->Prop)(w:World)(p:Addr)(cs:List Value):Prop:=
 F p.block/\p.spot=none/\∀ j (h:j<cs.length),w.cell? ⟨p.block,p.off+j,none⟩=some cs[j]
def c1(F:Nat->Prop)(w w':World):Prop:=w.heap.size<=w'.heap.size/\∀ r,F r->w'.heap[r]?=w.heap[r]?
theorem c1.refl(F:Nat->Prop)(w:World):c1 F w w:=⟨Nat.le_refl _,λ_ _=>rfl⟩
theorem c1.trans{F F':Nat->Prop}{a b c:World}(h:c1 F a b)(bo:∀ r,F r->F' r)(k:c1 F' b c):c1 F a c:=
 ⟨Nat.le_trans h.1 k.1,λr M=>(k.2 r (bo r M)).trans (h.2 r M)⟩
theorem c1.cell{F:Nat->Prop}{w w':World}(h:c1 F w w'){a:Addr}(ba:F a.block):w'.cell? a=w.cell? a:=by
 simp only[World.cell?,h.2 _ ba]
def nG(P:Program)(F:Nat->Prop)(w:World):Prop:=∀ b,b<P.globals.size->F b/\Rg b λi=>w.cell? ⟨b,i,none⟩
theorem nG.mono{P:Program}{F F':Nat->Prop}{w w':World}(h:nG P F w)(bo:∀ r,F r->F' r)(he:c1 F w w'):nG P F' w':=λb W=>by
 obtain⟨E,U⟩:=h b W;have e:(λi=>w'.cell? ⟨b,i,none⟩)=λi=>w.cell? ⟨b,i,none⟩:=funext λi=>he.cell (a:=⟨b,i,none⟩) E;exact⟨bo b E,e ▸ U⟩
theorem Holds.mono{F F':Nat->Prop}{w w':World}{p:Addr}{cs:List Value}(h:Holds F w p cs)(bo:∀ r,F r->F' r)(he:c1 F w w'):Holds F' w' p cs:=
 ⟨bo _ h.1,h.2.1,λj aE=>(he.cell (a:=⟨p.block,p.off+j,none⟩) h.1).trans (h.2.2 j aE)⟩
def kM:ad->Value->Prop
 | .st t,v=>∃ cs:Array Value,v=.agg cs/\cs.size=t.size
 | .array n e,v=>∃ cs:Array Value,v=.agg cs/\cs.size=n*e.size
 | .cT,_=>False
 | .ay _ _,_=>False
 | _,v=>v.cells=#[v]
def ej(aC:List Value):List Value:=aC.flatMap (·.cells.toList)
@[simp] theorem acM:ej []=[]:=rfl
@[simp] theorem JV (v:Value) (aC:List Value):ej (v::aC)=v.cells.toList++ej aC:=rfl
def wS:ad->List Value->Prop
 | .ay a b,v::aC=>kM a v/\wS b aC
 | .ay _ _,[]=>False
 | .cT,aC=>aC=[]
 | t,aC=>∃ v,aC=[v]/\kM t v
def yZ:ad->Value->List Value->Prop
 | .ay _ _,v,aC=>v=.tuple aC.toArray
 | .cT,v,aC=>v=.tuple #[]/\aC=[]
 | _,v,aC=>aC=[v]
def u3(F:Nat->Prop)(w w':World):Nat->Prop:=λr=>F r\/(w.heap.size<=r/\r<w'.heap.size)
structure Fk(P:Program){ak:Type}(R:(Nat->Prop)->World->List Value->ak->Prop)(l:Nat)(S:List ak->Prop)(I:List ak->Bool->(Nat->Prop)->(Nat->Prop)->World->Prop):Prop where
 BQ:∀ {pre st} {F F' Y:Nat->Prop} {w w':World},I pre st F Y w->(∀ r,F r->F' r)->(∀ r,F r\/Y r->w'.heap[r]?=w.heap[r]?)->w.heap.size<=w'.heap.size->w'.os=w.os/\w'.tape=w.tape/\w'.output=w.output->(∀ r,F' r->r<w'.heap.size)->(∀ r,F' r->¬Y r)->I pre st F' Y w'
 yield:∀ {pre} {F Y:Nat->Prop} {w:World} {args:List Value} {x:ak},I pre false F Y w->(∀ r,F r->r<w.heap.size)->(∀ r,Y r->r<w.heap.size/\¬F r)->(∃ T,S (pre++x::T))->R F w args x->
  YieldAt Fence.wide 0 P l args.toArray w λe w'=>∃ (b:Bool) (F' gD:Nat->Prop),e=.returned (.bool b)/\(∀ r,F r->F' r)/\(∀ r,F' r->F r\/Y r\/w.heap.size<=r)/\(∀ r,F' r->r<w'.heap.size)/\
   (∀ r,r<w.heap.size->¬Y r->w'.heap[r]?=w.heap[r]?)/\(∀ r,gD r->(Y r\/w.heap.size<=r)/\r<w'.heap.size/\¬F' r)/\w.heap.size<=w'.heap.size/\(w'.os=w.os/\w'.tape=w.tape/\w'.output=w.output)/\I (pre++[x]) (!b) F' gD w'
def Rh{ak:Type}(S:List ak->Prop)(I:List ak->Bool->(Nat->Prop)->(Nat->Prop)->World->Prop)(F Y:Nat->Prop)(w:World)(e:Ending)(w':World):Prop:=
 ∃ v pre st F' gD,e=.returned v/\(st=false->S pre)/\I pre st F' gD w'/\(∀ r,F r->F' r)/\(∀ r,F' r->F r\/Y r\/w.heap.size<=r)/\(∀ r,F' r->r<w'.heap.size)/\
  (∀ r,r<w.heap.size->¬Y r->w'.heap[r]?=w.heap[r]?)/\(∀ r,gD r->(Y r\/w.heap.size<=r)/\r<w'.heap.size/\¬F' r)/\w.heap.size<=w'.heap.size/\(w'.os=w.os/\w'.tape=w.tape/\w'.output=w.output)
def acN:Option Nat->Value
 | none=>.nilFunc
 | some k=>.func (.func k) #[] #[]
def bI(P:Program):(t:ad)->(Nat->Prop)->World->List Value->t.ai->Prop
 | .bool,_,_,cs,x=>cs=[.bool x]
 | .int k,_,_,cs,x=>cs=[.int k x]/\fU k x
 | .str,_,_,cs,x=>cs=[.string ⟨x.toArray⟩]/\x.length<2 ^ 63
 | .cT,_,_,cs,_=>cs=[]
 | .st t,F,w,cs,x=>bI P t F w cs x
 | .ay a b,F,w,cs,x=>∃ c d,cs=c++d/\bI P a F w c x.1/\bI P b F w d x.2
 | .slice e,F,w,cs,xs=>∃ a cap,cs=[.slice a xs.length cap]/\xs.length<=cap/\cap<2 ^ 63/\(a=none->cap=0)/\
   ∀ p,a=some p->0<cap->F p.block/\p.spot=none/\∀ i (h:i<xs.length),∃ bj,Holds F w ⟨p.block,p.off+i*e.size,none⟩ bj/\bI P e F w bj xs[i]
 | .array n e,F,w,cs,xs=>∃ fo:List (List Value),cs=fo.flatten/\fo.length=n/\xs.length=n/\∀ i (h:i<xs.length) (ds:i<fo.length),bI P e F w fo[i] xs[i]
 | .bH e,F,w,cs,x=>(cs=[.pointer none]/\x=none)\/∃ p y bj,cs=[.pointer (some p)]/\x=some y/\Holds F w p bj/\bI P e F w bj y
 | .map k v,F,w,cs,xs=>(cs=[.map none]/\xs=[])\/∃ r es clk,cs=[.map (some r)]/\F r/\w.heap[r]?=some (.map es clk)/\es.size=xs.length/\(xs.map (·.1)).Nodup/\
   (∀ i (h:i<xs.length) (ds:i<es.size),kM k es[i].key/\bI P k F w es[i].key.cells.toList xs[i].1/\kM v es[i].val/\bI P v F w es[i].val.cells.toList xs[i].2/\es[i].born<clk)/\
   (∀ i j (h:i<es.size) (ds:j<es.size),es[i].born=es[j].born->i=j)
 | .fn a b,F,w,cs,f=>∃ u,cs=[u]/\(u.cells=#[u]/\u.oneCell'=true)/\∀ (F':Nat->Prop) (w':World),(∀ r,F r->F' r)->c1 F w w'->(∀ r,F' r->r<w'.heap.size)->nG P F' w'->
   ∀ args x,wS a args->bI P a F' w' (ej args) x->(f x).ck->∃ g cZ,u=.func (.func g) #[] cZ/\(∀ as w,(callFunc g as).run P w=.ok (.enter g as) w)/\
    Calls P g (args.toArray++cZ) w' λe tq=>∃ v y aC,e=.returned v/\(f x).bK y/\yZ b v aC/\wS b aC/\bI P b (u3 F' w' tq) tq (ej aC) y/\Below w'.heap.size w' tq
 | .cr a,F,w,cs,S=>∃ u,cs=[u]/\(u.cells=#[u]/\u.oneCell'=true)/\∀ (F':Nat->Prop) (w':World),(∀ r,F r->F' r)->c1 F w w'->(∀ r,F' r->r<w'.heap.size)->nG P F' w'->
   (∃ L,S L)->∃ g cZ,u=.func (.func g) #[] cZ/\(∀ as w,(callFunc g as).run P w=.ok (.enter g as) w)/\
    ∀ (l:Nat) (I:List a.ai->Bool->(Nat->Prop)->(Nat->Prop)->World->Prop) (Y:Nat->Prop),(∀ r,Y r->r<w'.heap.size/\¬F' r)->
     Fk P (λF w args x=>wS a args/\bI P a F w (ej args) x) l S I->I [] false F' Y w'->Calls P g (#[Value.func (.yield l) #[] #[]]++cZ) w' (Rh S I F' Y w')
 | .et,_,_,cs,x=>cs=[acN x]
theorem hO{P:Program}:∀ (t:ad) {F:Nat->Prop} {w:World} {cs:List Value} {x:t.ai},bI P t F w cs x->cs.length=t.size:=by
 intro t;induction t with
 | bool=>intro F w cs x h;simp only[bI]at h;simp[h,ad.size]
 | int k=>intro F w cs x h;simp only[bI]at h;simp[h.1,ad.size]
 | str=>intro F w cs x h;simp only[bI]at h;simp[h.1,ad.size]
 | cT=>intro F w cs x h;simp only[bI]at h;simp[h,ad.size]
 | st t aJ=>intro F w cs x h;simp only[bI]at h;exact aJ h
 | ay a b fx eJ=>
  intro F w cs x h;simp only[bI]at h;obtain⟨c,d,rfl,ba,W⟩:=h;simp[ad.size,fx ba,eJ W]
 | slice e aJ=>intro F w cs x h;simp only[bI]at h;obtain⟨a,cap,rfl,_⟩:=h;rfl
 | array n e aJ=>
  intro F w cs x h;simp only[bI]at h;obtain⟨fo,rfl,E,U,ag⟩:=h;have:∀ l∈fo,l.length=e.size:=by
   intro l aj;obtain⟨i,G,rfl⟩:=List.mem_iff_getElem.1 aj;grind
  have a1:fo.map List.length=List.replicate n e.size:=by
   rw[<-E];exact List.eq_replicate_iff.2 ⟨by simp,by grind⟩
  simp[List.length_flatten,a1,ad.size]
 | bH e aJ=>intro F w cs x h;simp only[bI]at h;rcases h with⟨rfl,_⟩ | ⟨p,y,bj,rfl,_⟩<;>rfl
 | map k v wT wU=>intro F w cs x h;simp only[bI]at h;rcases h with⟨rfl,_⟩ | ⟨r,es,clk,rfl,_⟩<;>rfl
 | fn a b fx eJ=>intro F w cs x h;simp only[bI]at h;obtain⟨u,rfl,_⟩:=h;rfl
 | cr a aJ=>intro F w cs x h;simp only[bI]at h;obtain⟨u,rfl,_⟩:=h;rfl
 | et=>intro F w cs x h;simp only[bI]at h;subst h;rfl
theorem fe{P:Program}:∀ (t:ad) {F F':Nat->Prop} {w w':World} {cs:List Value} {x:t.ai},(∀ r,F r->F' r)->c1 F w w'->bI P t F w cs x->bI P t F' w' cs x:=by
 intro t;induction t with
 | bool=>intro F F' w w' cs x _ _ h;exact h
 | int k=>intro F F' w w' cs x _ _ h;exact h
 | str=>intro F F' w w' cs x _ _ h;exact h
 | cT=>intro F F' w w' cs x _ _ h;exact h
 | st t aJ=>intro F F' w w' cs x bo he h;simp only[bI]at h ⊢;grind
 | ay a b fx eJ=>
  intro F F' w w' cs x bo he h;simp only[bI]at h ⊢;grind
 | slice e aJ=>
  intro F F' w w' cs x bo he h;simp only[bI]at h ⊢;obtain⟨a,cap,rfl,E,U,ag,a1⟩:=h;refine⟨a,cap,rfl,E,U,ag,λp an hc=>?_⟩;obtain⟨aP,aR,bO⟩:=a1 p an hc;refine⟨bo _ aP,aR,λi G=>?_⟩;obtain⟨bj,m1,m2⟩:=bO i G;exact⟨bj,m1.mono bo he,aJ bo he m2⟩
 | array n e aJ=>
  intro F F' w w' cs x bo he h;simp only[bI]at h ⊢;grind
 | bH e aJ=>
  intro F F' w w' cs x bo he h;simp only[bI]at h ⊢;rcases h with h | ⟨p,y,bj,E,U,ag,a1⟩
  ·grind
  ·exact .inr ⟨p,y,bj,E,U,ag.mono bo he,aJ bo he a1⟩
 | map k v wT wU=>
  intro F F' w w' cs x bo he h;simp only[bI]at h ⊢;rcases h with h | ⟨r,es,clk,E,U,ag,a1,bL,dm,fS⟩
  ·grind
  ·refine .inr ⟨r,es,clk,E,bo _ U,(he.2 _ U).trans ag,a1,bL,λi G dK=>?_,fS⟩;grind
 | fn a b fx eJ=>
  intro F F' w w' cs x bo he h;simp only[bI]at h ⊢;obtain⟨u,rfl,hu,E⟩:=h;exact⟨u,rfl,hu,λJW tq tr BR aD=>E JW tq (λr M=>tr r (bo r M)) (he.trans bo BR) aD⟩
 | cr a aJ=>
  intro F F' w w' cs x bo he h;simp only[bI]at h ⊢;obtain⟨u,rfl,hu,E⟩:=h;exact⟨u,rfl,hu,λJW tq tr BR aD=>E JW tq (λr M=>tr r (bo r M)) (he.trans bo BR) aD⟩
 | et=>intro F F' w w' cs x _ _ h;exact h
def eu(P:Program)(t:ad)(F:Nat->Prop)(w:World)(v:Value)(x:t.ai):Prop:=kM t v/\bI P t F w v.cells.toList x
def fp(P:Program)(t:ad)(F:Nat->Prop)(w:World)(aC:List Value)(x:t.ai):Prop:=wS t aC/\bI P t F w (ej aC) x
def tt(P:Program)(t:ad)(F:Nat->Prop)(w:World)(v:Value)(x:t.ai):Prop:=∃ aC,yZ t v aC/\fp P t F w aC x
theorem eu.mono{P:Program}{t:ad}{F F':Nat->Prop}{w w':World}{v:Value}{x:t.ai}(h:eu P t F w v x)(bo:∀ r,F r->F' r)(he:c1 F w w'):eu P t F' w' v x:=
 ⟨h.1,fe t bo he h.2⟩
theorem Fl{v:Value}(h:v.oneCell'=true):v.cells=#[v]:=by
 cases v<;>first | rfl | cases h
theorem Ri{v:Value}(h:v.cells=#[v]):v.cells.toList=[v]:=by rw[h]
theorem kM.len{t:ad}{v:Value}(h:kM t v):v.cells.toList.length=t.size:=by
 cases t<;>simp only[kM]at h<;>first
  | (obtain⟨cs,rfl,h⟩:=h;simpa [Value.cells,ad.size]using h)
  | (rw[Ri h];rfl)
  | exact h.elim
theorem BS{P:Program}{a b:ad}{F:Nat->Prop}{w:World}{v:Value}{aC:List Value}{x:a.ai}{y:b.ai} :
  fp P (.ay a b) F w (v::aC) (x,y)<->eu P a F w v x/\fp P b F w aC y:=by
 constructor
 ·rintro⟨⟨E,U⟩,c,d,e,hc,au⟩;have aj:=hO a hc;have:=List.append_inj e (by rw[aj];exact E.len);rw[JV]at e;obtain⟨aw,aN⟩:=this;subst aw;subst aN;exact⟨⟨E,hc⟩,U,au⟩
 ·rintro⟨⟨E,U⟩,ag,a1⟩;exact⟨⟨E,ag⟩,_,_,rfl,U,a1⟩
theorem Fm{P:Program}{a b:ad}{F:Nat->Prop}{w:World}{aC:List Value}{x:(ad.ay a b).ai}(h:fp P (.ay a b) F w aC x) :
  ∃ v us,aC=v::us/\eu P a F w v x.1/\fp P b F w us x.2:=by
 cases aC with
 | nil=>exact h.1.elim
 | cons v us=>exact⟨v,us,rfl,BS.1 h⟩
def ad.gE:ad->Bool
 | .ay _ _ | .cT=>false
 | _=>true
theorem r0{P:Program}{t:ad}(aH:t.gE=true){F:Nat->Prop}{w:World}{aC:List Value}{x:t.ai} :
  fp P t F w aC x<->∃ v,aC=[v]/\eu P t F w v x:=by
 have key:wS t aC<->∃ v,aC=[v]/\kM t v:=by cases t<;>simp[ad.gE,wS]at aH ⊢
 unfold fp eu;rw[key];constructor
 ·rintro⟨⟨v,rfl,ae⟩,h⟩;exact⟨v,rfl,ae,by simpa using h⟩
 ·rintro⟨v,rfl,ae,h⟩;exact⟨⟨v,rfl,ae⟩,by simpa using h⟩
section
variable {P:Program} {F:Nat->Prop} {w:World} {v:Value}
@[simp] theorem ff {x:Bool}:eu P .bool F w v x<->v=.bool x:=by
 constructor
 ·rintro⟨E,U⟩;simp only[kM]at E;simp only[bI]at U;rw[Ri E]at U;simpa using U
 ·rintro rfl;exact⟨by simp[kM,Value.cells],by simp[bI,Value.cells]⟩
theorem gU{k:IntKind}{x:Int}:eu P (.int k) F w v x<->v=.int k x/\fU k x:=by
 constructor
 ·rintro⟨E,U⟩;simp only[kM]at E;simp only[bI]at U;grind
 ·rintro⟨rfl,h⟩;exact⟨by rfl,by simpa [bI,Value.cells]using h⟩
theorem me{x:List UInt8}:eu P .str F w v x<->v=.string ⟨x.toArray⟩/\x.length<2 ^ 63:=by
 constructor
 ·rintro⟨E,U⟩;simp only[kM]at E;simp only[bI]at U;grind
 ·rintro⟨rfl,h⟩;exact⟨by rfl,by simpa [bI,Value.cells]using h⟩
theorem dU{t:ad}(aH:t.eE=true){x:t.ai}:eu P t F w v x<->v.cells=#[v]/\bI P t F w [v] x:=by
 have E:kM t v<->v.cells=#[v]:=by cases t<;>simp[ad.eE,kM]at aH ⊢
 unfold eu;grind
theorem JX{t:ad}(aH:t.eE=true){F:Nat->Prop}{w:World}{u:Value}{x:t.ai}(h:bI P t F w [u] x):u.oneCell'=true:=by
 cases t<;>simp only[ad.eE,bI]at aH h<;>try contradiction
 ·obtain rfl:=(List.cons.inj h).1;rfl
 ·obtain rfl:=(List.cons.inj h.1).1;rfl
 ·obtain rfl:=(List.cons.inj h.1).1;rfl
 ·obtain⟨a,cap,h,_⟩:=h;obtain rfl:=(List.cons.inj h).1;rfl
 ·rcases h with⟨h,_⟩ | ⟨p,y,bj,h,_⟩<;>(obtain rfl:=(List.cons.inj h).1;rfl)
 ·rcases h with⟨h,_⟩ | ⟨r,es,clk,h,_⟩<;>(obtain rfl:=(List.cons.inj h).1;rfl)
 ·obtain⟨mK,h,hu,_⟩:=h;obtain rfl:=(List.cons.inj h).1;exact hu.2
 ·obtain⟨mK,h,hu,_⟩:=h;obtain rfl:=(List.cons.inj h).1;exact hu.2
 ·obtain rfl:=(List.cons.inj h).1;cases x<;>rfl
theorem BT{t:ad}(aH:t.eE=true){F:Nat->Prop}{w:World}{cs:List Value}{x:t.ai}(h:bI P t F w cs x):∃ u,cs=[u]/\u.cells=#[u]:=by
 cases t<;>simp only[ad.eE,bI]at aH h<;>try contradiction
 ·exact⟨_,h,rfl⟩
 ·exact⟨_,h.1,rfl⟩
 ·exact⟨_,h.1,rfl⟩
 ·obtain⟨a,cap,rfl,_⟩:=h;exact⟨_,rfl,rfl⟩
 ·rcases h with⟨rfl,_⟩ | ⟨p,y,bj,rfl,_⟩<;>exact⟨_,rfl,rfl⟩
 ·rcases h with⟨rfl,_⟩ | ⟨r,es,clk,rfl,_⟩<;>exact⟨_,rfl,rfl⟩
 ·obtain⟨u,rfl,hu,_⟩:=h;exact⟨u,rfl,hu.1⟩
 ·obtain⟨u,rfl,hu,_⟩:=h;exact⟨u,rfl,hu.1⟩
 ·exact⟨_,h,by cases x<;>rfl⟩
end
structure h1(P:Program)(k:FuncId)(ts aV:ad)(sh:ts.ai->A aV.ai):Prop where
 enter:∀ args w,(callFunc k args).run P w=.ok (.enter k args) w
 iU:∀ (F:Nat->Prop) (w:World) (args:List Value) (x:ts.ai),(∀ r,F r->r<w.heap.size)->nG P F w->fp P ts F w args x->(sh x).ck->
  Calls P k args.toArray w λe w'=>∃ v y,e=.returned v/\(sh x).bK y/\tt P aV (u3 F w w') w' v y/\Below w.heap.size w w'
structure Rj(P:Program)(k:FuncId)(ts aV:ad)(sh:ts.ai->A aV.ai):Prop where
 iU:∀ (F:Nat->Prop) (w:World) (args:List Value) (x:ts.ai),(∀ r,F r->r<w.heap.size)->nG P F w->fp P ts F w args x->(sh x).ck->
  Calls P k args.toArray w λe w'=>∃ v y,e=.returned v/\(sh x).bK y/\tt P aV (λr=>w.heap.size<=r/\r<w'.heap.size) w' v y/\Below w.heap.size w w'
def gm:List ad->ad
 | []=>.cT
 | [t]=>t
 | t::u::l=>.ay t (gm (u::l))
def Fo:(as bs:List ad)->(gm as).ai->(gm bs).ai->(gm (as++bs)).ai
 | [],_,_,y=>y
 | [_],[],x,_=>x
 | [_],_::_,x,y=>(x,y)
 | _::u::l,bs,x,y=>(x.1,Fo (u::l) bs x.2 y)
theorem Rk{P:Program}{F:Nat->Prop}{w:World}:∀ (as bs:List ad),as.all ad.gE=true->∀ {aC us:List Value} {x:(gm as).ai} {y:(gm bs).ai},fp P (gm as) F w aC x->fp P (gm bs) F w us y->fp P (gm (as++bs)) F w (aC++us) (Fo as bs x y)
 | [],bs,_,aC,us,x,y,E,U=>by
  obtain rfl:aC=[]:=E.1;exact U
 | [t],[],_,aC,us,x,y,E,U=>by
  obtain rfl:us=[]:=U.1;have e:aC++[]=aC:=List.append_nil aC;rw[e];exact E
 | [t],b::bs,h,aC,us,x,y,E,U=>by
  have aH:t.gE=true:=by grind
  obtain⟨v,rfl,ae⟩:=(r0 aH).1 E;exact BS.2 ⟨ae,U⟩
 | t::u::l,bs,h,aC,us,x,y,E,U=>by
  obtain⟨v,r1,rfl,ag,a1⟩:=Fm (a:=t) (b:=gm (u::l)) E;have aj:(u::l).all ad.gE=true:=by
   grind
  have:=Rk (u::l) bs aj a1 U;exact BS.2 ⟨ag,this⟩
structure acO where
 ts:ad
 aV:ad
 sh:ts.ai->A aV.ai
structure Fp where
 as:List ad
 cs:List ad
 aV:ad
 sh:(gm (as++cs.map .bH)).ai->A aV.ai
structure wV where
 cs:List ad
 aL:ad
 S:(gm (cs.map .bH)).ai->List aL.ai->Prop
structure wW(P:Program)(k:FuncId)(v:wV):Prop where
 enter:∀ args w,(callFunc k args).run P w=.ok (.enter k args) w
 iU:∀ (F:Nat->Prop) (w:World) (cZ:List Value) (x:(gm (v.cs.map .bH)).ai),(∀ r,F r->r<w.heap.size)->nG P F w->fp P (gm (v.cs.map .bH)) F w cZ x->(∃ L,v.S x L)->
  ∀ (l:Nat) (I:List v.aL.ai->Bool->(Nat->Prop)->(Nat->Prop)->World->Prop) (Y:Nat->Prop),(∀ r,Y r->r<w.heap.size/\¬F r)->
   Fk P (fp P v.aL) l (v.S x) I->I [] false F Y w->Calls P k (#[Value.func (.yield l) #[] #[]]++cZ.toArray) w (Rh (v.S x) I F Y w)
structure dF where
 tu:Nat->Option acO
 tv:Nat->Option Fp
 wX:Nat->Option wV:=λ_=>none
structure qN(P:Program)(aO:dF):Prop where
 tu:∀ k v,aO.tu k=some v->h1 P k v.ts v.aV v.sh
 tv:∀ k v,aO.tv k=some v->v.as.all ad.gE=true/\h1 P k (gm (v.as++v.cs.map .bH)) v.aV v.sh
 wX:∀ k v,aO.wX k=some v->wW P k v:=by intro k v h;cases h
theorem acP{P:Program}{k:FuncId}{ts aV:ad}{sh:ts.ai->A aV.ai}(h:h1 P k ts aV sh)(F:Nat->Prop)(w:World):bI P (.fn ts aV) F w [.func (.func k) #[] #[]] sh:=by
 refine⟨_,rfl,⟨rfl,rfl⟩,λF' w' _ _ aD aB args x E U ag=>⟨k,#[],rfl,h.enter,?_⟩⟩;have:=h.iU F' w' args x aD aB ⟨E,U⟩ ag;simp only[Array.append_empty];exact this.mono λe tq ⟨v,y,aw,aN,⟨aC,cE,ed,dY⟩,la⟩=>⟨v,y,aC,aw,aN,cE,ed,dY,la⟩
end Go.Fer
namespace Go.Fer
open Go.RowKit
inductive aG where
 | undef
 | val (t:ad) (x:t.ai)
 | hB (b:Bool) (a:aG)
 | aW (b g off:Nat)
 | own (b g:Nat)
 | oh (b g i off:Nat)
 | dV (t:ad) (x:t.ai)
 | fI (b g:Nat)
 | iy (k:FuncId) (n:Nat) (cZ:Nat->aG)
 | r2 (k:FuncId) (n:Nat) (first:Nat->aG)
 | pZ (n:Nat) (f:Nat->aG)
 | agg (n:Nat) (f:Nat->aG)
 | cu
 | jA (v:Value)
 | j2 (b g:Nat)
 | aV (l:Nat) (aL:ad) (S:List aL.ai->Prop) (pre:List aL.ai) (st:Bool)
 | hd (l:Nat)
 | sub (b g aY G:Nat)
 | wY (e:ad) (xs:List e.ai)
 | iV (b g i:Nat)
inductive bQ where
 | fy
 | cells (t:ad) (f:Nat->aG)
 | bh (e:ad) (xs:List e.ai)
 | hC (e:ad) (xs:List e.ai)
 | mp (k v:ad) (es:List (k.ai×v.ai))
 | gJ (t:ad) (x:t.ai)
 | jh (k v:ad) (es:List (k.ai×v.ai))
 | cr (k v:ad) (cur:Option (k.ai×v.ai)) (cm:List (k.ai×v.ai))
 | gn (e:ad) (xs:List e.ai) (i:Nat) (v:aG)
structure bJ where
 gen:Nat
 body:bQ
structure bC where
 aa:Nat
 off:Nat
 cap:Nat
 e8:Bool
structure az where
 ax:Nat->aG
 aa:Nat->bJ
def bQ.fJ:bQ->Bool | .cells _ _=>true | .gJ _ _=>true | _=>false
def bQ.fg:bQ->Bool | .bh _ _=>true | .hC _ _=>true | .gn _ _ _ _=>true | _=>false
def bQ.gV:bQ->Bool | .mp _ _ _=>true | .jh _ _ _=>true | _=>false
def bQ.mL:bQ->Bool | .cr _ _ _ _=>true | _=>false
def bQ.len:bQ->Nat | .bh _ xs=>xs.length | .hC _ xs=>xs.length | .gn _ xs _ _=>xs.length | _=>0
def bQ.e2:bQ->Nat | .bh e _=>e.size | .hC e _=>e.size | .gn e _ _ _=>e.size | _=>0
def bQ.bZ(k:bC):bQ->Bool | .cells _ _=>true | .bh _ _=>!k.e8 | .mp _ _ _=>true | .cr _ _ _ _=>true | .gn _ _ _ _=>!k.e8 | _=>false
def bC.slice(k:bC)(n:Nat):Value:=if k.e8 then .slice none 0 0 else .slice (some ⟨k.aa,k.off,none⟩) n k.cap
def Fq(k:bC)(e2 aY G:Nat)(v:Value):Prop:=
 (k.e8=true/\v=.slice none 0 0)\/(k.e8=false/\∃ o,v=.slice (some ⟨k.aa,o,none⟩) (G - aY) (k.cap - aY)/\o<=k.off+aY*e2/\(aY<k.cap->o=k.off+aY*e2))
def bB(P:Program)(H:Nat->bJ)(κ:Nat->bC)(F:Nat->Prop)(w:World):aG->Value->Prop
 | .undef,_=>True
 | .val t x,v=>eu P t F w v x
 | .hB b a,v=>(b=true->bB P H κ F w a v)/\(b=false->v=Go.undef)
 | .aW b g off,v=>(g<=(H b).gen/\v.oneCell'=true)/\(g=(H b).gen->(H b).body.fJ=true->v=.pointer (some ⟨(κ b).aa,off,none⟩))
 | .own b g,v=>(g<=(H b).gen/\v.oneCell'=true)/\(g=(H b).gen->(H b).body.fg=true->v=(κ b).slice (H b).body.len)
 | .oh b g i off,v=>(g<=(H b).gen/\v.oneCell'=true)/\(g=(H b).gen->(H b).body.fg=true->i<(H b).body.len/\(κ b).e8=false/\v=.pointer (some ⟨(κ b).aa,(κ b).off+i*(H b).body.e2+off,none⟩))
 | .iV b g i,v=>(g<=(H b).gen/\v.oneCell'=true)/\(g=(H b).gen->(H b).body.fg=true->i<(H b).body.len/\(κ b).e8=false/\v=.pointer (some ⟨(κ b).aa,(κ b).off+i*(H b).body.e2,none⟩))
 | .dV t x,v=>∃ p bj,v=.pointer (some p)/\Holds F w p bj/\bI P t F w bj x
 | .fI b g,v=>(g<=(H b).gen/\v.oneCell'=true)/\(g=(H b).gen->(H b).body.gV=true->v=.map (some (κ b).aa))
 | .iy k n cZ,v=>∃ aC:List Value,v=.func (.func k) #[] aC.toArray/\aC.length=n/\∀ i,i<n->bB P H κ F w (cZ i) (aC.getD i Go.undef)
 | .r2 k n f,v=>∃ aC:List Value,v=.func (.func k) aC.toArray #[]/\aC.length=n/\∀ i,i<n->bB P H κ F w (f i) (aC.getD i Go.undef)
 | .pZ n f,v=>∃ aC:List Value,v=.tuple aC.toArray/\aC.length=n/\∀ i,i<n->bB P H κ F w (f i) (aC.getD i Go.undef)
 | .agg n f,v=>∃ aC:List Value,v=.agg aC.toArray/\aC.length=n/\∀ i,i<n->bB P H κ F w (f i) (aC.getD i Go.undef)/\(aC.getD i Go.undef).oneCell'=true
 | .cu,v=>v=.slice none 0 0
 | .jA u,v=>v=u
 | .j2 b g,v=>(g<=(H b).gen/\v.oneCell'=true)/\(g=(H b).gen->(H b).body.mL=true->v=.pointer (some ⟨(κ b).aa,0,none⟩))
 | .aV _ _ _ _ _,_=>True
 | .hd l,v=>v=.func (.yield l) #[] #[]
 | .wY e xs,v=>eu P (.slice e) F w v xs/\∃ q,v=.slice q xs.length xs.length
 | .sub b g aY G,v=>(g<=(H b).gen/\v.oneCell'=true)/\(g=(H b).gen->(H b).body.fg=true->(aY<=G/\G<=(H b).body.len)/\Fq (κ b) (H b).body.e2 aY G v)
def fq(H:Nat->bJ)(κ:Nat->bC)(H':Nat->bJ)(κ':Nat->bC):Prop:=
 ∀ b,(H b).gen<=(H' b).gen/\((H b).gen=(H' b).gen->
  ((H' b).body.fJ=true->(H b).body.fJ=true/\(κ' b).aa=(κ b).aa)/\
  ((H' b).body.fg=true->(H b).body.fg=true/\κ' b=κ b/\(H' b).body.len=(H b).body.len/\(H' b).body.e2=(H b).body.e2)/\
  ((H' b).body.gV=true->(H b).body.gV=true/\(κ' b).aa=(κ b).aa)/\
  ((H' b).body.mL=true->(H b).body.mL=true/\(κ' b).aa=(κ b).aa))
theorem fq.refl(H:Nat->bJ)(κ:Nat->bC):fq H κ H κ:=λ_=>⟨Nat.le_refl _,λ_=>⟨λh=>⟨h,rfl⟩,λh=>⟨h,rfl,rfl,rfl⟩,λh=>⟨h,rfl⟩,λh=>⟨h,rfl⟩⟩⟩
def p0(x y:bJ)(k k':bC):Prop:=
 x.gen<=y.gen/\(x.gen=y.gen->
  (y.body.fJ=true->x.body.fJ=true/\k'.aa=k.aa)/\
  (y.body.fg=true->x.body.fg=true/\k'=k/\y.body.len=x.body.len/\y.body.e2=x.body.e2)/\
  (y.body.gV=true->x.body.gV=true/\k'.aa=k.aa)/\
  (y.body.mL=true->x.body.mL=true/\k'.aa=k.aa))
theorem p0.refl(x:bJ)(k:bC):p0 x x k k:=⟨Nat.le_refl _,λ_=>⟨λh=>⟨h,rfl⟩,λh=>⟨h,rfl,rfl,rfl⟩,λh=>⟨h,rfl⟩,λh=>⟨h,rfl⟩⟩⟩
theorem BU{H:Nat->bJ}{κ:Nat->bC}{H':Nat->bJ}{κ':Nat->bC}:fq H κ H' κ'<->∀ b,p0 (H b) (H' b) (κ b) (κ' b):=Iff.rfl
theorem bB.later{P:Program}{H H':Nat->bJ}{κ κ':Nat->bC}{F F':Nat->Prop}{w w':World}(aj:fq H κ H' κ')(bo:∀ r,F r->F' r)(he:c1 F w w') :
  ∀ {a:aG} {v:Value},bB P H κ F w a v->bB P H' κ' F' w' a v:=by
 intro a;induction a with
 | undef=>intro v h;trivial
 | val t x=>intro v h;exact eu.mono h bo he
 | hB b a aJ=>intro v h;exact⟨λW=>aJ (h.1 W),h.2⟩
 | aW b g off=>
  intro v h;obtain⟨E,U⟩:=h;obtain⟨aP,aR⟩:=aj b;refine⟨⟨Nat.le_trans E.1 aP,E.2⟩,λaB hc=>?_⟩;grind
 | own b g=>
  intro v h;obtain⟨E,U⟩:=h;obtain⟨aP,aR⟩:=aj b;refine⟨⟨Nat.le_trans E.1 aP,E.2⟩,λaB hc=>?_⟩;grind
 | oh b g i off=>
  intro v h;obtain⟨E,U⟩:=h;obtain⟨aP,aR⟩:=aj b;refine⟨⟨Nat.le_trans E.1 aP,E.2⟩,λaB hc=>?_⟩;grind
 | iV b g i=>
  intro v h;obtain⟨E,U⟩:=h;obtain⟨aP,aR⟩:=aj b;refine⟨⟨Nat.le_trans E.1 aP,E.2⟩,λaB hc=>?_⟩;grind
 | dV t x=>
  intro v h;obtain⟨p,bj,E,U,ag⟩:=h;exact⟨p,bj,E,U.mono bo he,fe t bo he ag⟩
 | fI b g=>
  intro v h;obtain⟨E,U⟩:=h;obtain⟨aP,aR⟩:=aj b;refine⟨⟨Nat.le_trans E.1 aP,E.2⟩,λaB hc=>?_⟩;grind
 | j2 b g=>
  intro v h;obtain⟨E,U⟩:=h;obtain⟨aP,aR⟩:=aj b;refine⟨⟨Nat.le_trans E.1 aP,E.2⟩,λaB hc=>?_⟩;grind
 | sub b g aY G=>
  intro v h;obtain⟨E,U⟩:=h;obtain⟨aP,aR⟩:=aj b;refine⟨⟨Nat.le_trans E.1 aP,E.2⟩,λaB hc=>?_⟩;grind
 | aV l aL L n st=>intro v _;trivial
 | hd l=>intro v h;exact h
 | wY e xs=>intro v h;exact⟨eu.mono h.1 bo he,h.2⟩
 | iy k n cZ aJ=>
  intro v h;obtain⟨aC,E,U,ag⟩:=h;exact⟨aC,E,U,λi G=>aJ i (ag i G)⟩
 | r2 k n f aJ=>
  intro v h;obtain⟨aC,E,U,ag⟩:=h;exact⟨aC,E,U,λi G=>aJ i (ag i G)⟩
 | pZ n f aJ=>
  intro v h;obtain⟨aC,E,U,ag⟩:=h;exact⟨aC,E,U,λi G=>aJ i (ag i G)⟩
 | agg n f aJ=>
  intro v h;obtain⟨aC,E,U,ag⟩:=h;exact⟨aC,E,U,λi G=>⟨aJ i (ag i G).1,(ag i G).2⟩⟩
 | cu=>intro v h;exact h
 | jA u=>intro v h;exact h
def u4(P:Program)(k v:ad)(F:Nat->Prop)(w:World)(es:Array MapEntry)(clk:Nat)(xs:List (k.ai×v.ai)):Prop:=
 es.size=xs.length/\(xs.map (·.1)).Nodup/\
 (∀ i (h:i<xs.length) (ds:i<es.size),kM k es[i].key/\bI P k F w es[i].key.cells.toList xs[i].1/\kM v es[i].val/\bI P v F w es[i].val.cells.toList xs[i].2/\es[i].born<clk)/\
 (∀ i j (h:i<es.size) (ds:j<es.size),es[i].born=es[j].born->i=j)
theorem u4.mono{P:Program}{k v:ad}{F F':Nat->Prop}{w w':World}{es:Array MapEntry}{clk:Nat}{xs:List (k.ai×v.ai)}(h:u4 P k v F w es clk xs)(bo:∀ r,F r->F' r)(he:c1 F w w') :
  u4 P k v F' w' es clk xs:=
 ⟨h.1,h.2.1,λi G dK=>let ⟨a,b,c,d,e⟩:=h.2.2.1 i G dK;⟨a,fe k bo he b,c,fe v bo he d,e⟩,h.2.2.2⟩
def lJ(P:Program)(e:ad)(F:Nat->Prop)(w:World)(cs:Array Value)(off:Nat)(xs:List e.ai):Prop:=
 ∀ i (h:i<xs.length),∃ bj,(∀ j (h:j<bj.length),cs[off+i*e.size+j]?=some bj[j])/\bI P e F w bj xs[i]
theorem lJ.mono{P:Program}{e:ad}{F F':Nat->Prop}{w w':World}{cs:Array Value}{off:Nat}{xs:List e.ai}(h:lJ P e F w cs off xs)(bo:∀ r,F r->F' r)(he:c1 F w w') :
  lJ P e F' w' cs off xs:=λi G=>let ⟨bj,a,b⟩:=h i G;⟨bj,a,fe e bo he b⟩
def y0(P:Program)(k v:ad)(F:Nat->Prop)(w:World)(e:MapEntry)(x:k.ai×v.ai):Prop:=
 kM k e.key/\bI P k F w e.key.cells.toList x.1/\kM v e.val/\bI P v F w e.val.cells.toList x.2
theorem y0.mono{P:Program}{k v:ad}{F F':Nat->Prop}{w w':World}{e:MapEntry}{x:k.ai×v.ai}(h:y0 P k v F w e x)(bo:∀ r,F r->F' r)(he:c1 F w w'):y0 P k v F' w' e x:=
 ⟨h.1,fe k bo he h.2.1,h.2.2.1,fe v bo he h.2.2.2⟩
def wZ(P:Program)(k v:ad)(F:Nat->Prop)(w:World)(o3:Nat)(cur:Option (k.ai×v.ai))(cm:List (k.ai×v.ai)):Prop:=
 (w.heap[o3]?=some (.mapIter none 0 #[] 0)/\cm=[]/\cur=none)\/
 ∃ lK es clk seen,F lK/\w.heap[lK]?=some (.map es clk)/\w.heap[o3]?=some (.mapIter (some lK) clk seen clk)/\
  (∀ i (h:i<es.size),es[i].born<clk)/\(∀ i j (h:i<es.size) (ds:j<es.size),es[i].born=es[j].born->i=j)/\
  (∃ ids:List Nat,ids.length=cm.length/\ids.Nodup/\(∀ i,i∈ids<->∃ h:i<es.size,seen.contains es[i].born=false)/\
   (∀ j (h:j<ids.length) (ds:j<cm.length),∃ G:ids[j]<es.size,y0 P k v F w es[ids[j]] cm[j]))/\
  (∀ c,cur=some c->∃ i,∃ h:i<es.size,seen.back?=some es[i].born/\y0 P k v F w es[i] c)
theorem wZ.mono{P:Program}{k v:ad}{F F':Nat->Prop}{w w':World}{o3:Nat}{cur:Option (k.ai×v.ai)}{cm:List (k.ai×v.ai)}(h:wZ P k v F w o3 cur cm)(bo:∀ r,F r->F' r)(he:c1 F w w')
  (G:w'.heap[o3]?=w.heap[o3]?):wZ P k v F' w' o3 cur cm:=by
 rcases h with⟨E,U⟩ | ⟨lK,es,clk,seen,E,U,ag,a1,bL,⟨ids,i1,i2,i3,i4⟩,fS⟩
 ·exact .inl ⟨G.trans E,U⟩
 ·exact .inr ⟨lK,es,clk,seen,bo _ E,(he.2 _ E).trans U,G.trans ag,a1,bL,⟨ids,i1,i2,i3,λj aE fV=>let ⟨a,b⟩:=i4 j aE fV;⟨a,b.mono bo he⟩⟩,λc hc=>let ⟨i,a,b,d⟩:=fS c hc;⟨i,a,b,d.mono bo he⟩⟩
def jB(P:Program)(H:Nat->bJ)(κ:Nat->bC)(F:Nat->Prop)(w:World)(k:bC):bQ->Prop
 | .fy=>True
 | .cells t f=>∃ cs T,w.heap[k.aa]?=some (.cells cs T (0,0))/\cs.size=t.size/\∀ i,i<t.size->bB P H κ F w (f i) (cs.getD i Go.undef)/\(cs.getD i Go.undef).oneCell'=true
 | .bh e xs=>(k.e8=true->xs=[])/\(k.e8=false->∃ cs T,w.heap[k.aa]?=some (.cells cs T (0,0))/\k.off+k.cap*e.size<=cs.size/\xs.length<=k.cap/\k.cap<2 ^ 63/\lJ P e F w cs k.off xs)
 | .hC e xs=>bI P (.slice e) F w [k.slice xs.length] xs
 | .mp mf o4 es=>∃ ms clk,w.heap[k.aa]?=some (.map ms clk)/\u4 P mf o4 F w ms clk es
 | .gJ t x=>∃ bj,Holds F w ⟨k.aa,0,none⟩ bj/\bI P t F w bj x
 | .jh mf o4 es=>bI P (.map mf o4) F w [.map (some k.aa)] es
 | .cr mf o4 cur cm=>wZ P mf o4 F w k.aa cur cm
 | .gn e xs i v=>k.e8=false/\∃ cs T,w.heap[k.aa]?=some (.cells cs T (0,0))/\k.off+k.cap*e.size<=cs.size/\xs.length<=k.cap/\k.cap<2 ^ 63/\(e.size=1/\i<xs.length)/\
   (∀ j (h:j<xs.length),j≠i->∃ bj,(∀ q (h:q<bj.length),cs[k.off+j*e.size+q]?=some bj[q])/\bI P e F w bj xs[j])/\bB P H κ F w v (cs.getD (k.off+i) Go.undef)/\(cs.getD (k.off+i) Go.undef).oneCell'=true
def cF(P:Program)(H:Nat->bJ)(κ:Nat->bC)(F:Nat->Prop)(w:World)(b:Nat):Prop:=jB P H κ F w (κ b) (H b).body
theorem cF.lb{P:Program}{H H':Nat->bJ}{κ κ':Nat->bC}{F F':Nat->Prop}{w w':World}{b:Nat}(h:cF P H κ F w b)(aj:fq H κ H' κ')(bo:∀ r,F r->F' r)(he:c1 F w w')
  (W:(H' b).body=(H b).body) (al:κ' b=κ b) (hw:(H b).body.bZ (κ b)=true->w'.heap[(κ b).aa]?=w.heap[(κ b).aa]?):cF P H' κ' F' w' b:=by
 unfold cF at *
 rw[W,al];cases bS:(H b).body with
 | fy=>trivial
 | cells n f=>
  rw[bS]at h hw;obtain⟨cs,T,E,U,ag⟩:=h;exact⟨cs,T,(hw rfl).trans E,U,λi G=>⟨bB.later aj bo he (ag i G).1,(ag i G).2⟩⟩
 | bh e xs=>
  rw[bS]at h hw;refine⟨h.1,λaA=>?_⟩;obtain⟨cs,T,E,U,ag,a1,bL⟩:=h.2 aA;exact⟨cs,T,(hw (by simp[bQ.bZ,aA])).trans E,U,ag,a1,bL.mono bo he⟩
 | hC e xs=>
  rw[bS]at h;exact fe _ bo he h
 | mp mf o4 es=>
  rw[bS]at h hw;obtain⟨ms,clk,E,U⟩:=h;exact⟨ms,clk,(hw rfl).trans E,U.mono bo he⟩
 | gJ t x=>
  rw[bS]at h;obtain⟨bj,E,U⟩:=h;exact⟨bj,E.mono bo he,fe t bo he U⟩
 | jh mf o4 es=>
  rw[bS]at h;exact fe (.map mf o4) bo he h
 | cr mf o4 cur cm=>
  rw[bS]at h hw;exact wZ.mono h bo he (hw rfl)
 | gn e xs i v=>
  rw[bS]at h hw;obtain⟨aX,cs,T,E,U,ag,a1,bL,dm,fS,jg⟩:=h;refine⟨aX,cs,T,(hw (by simp[bQ.bZ,aX])).trans E,U,ag,a1,bL,λj aE qO=>?_,bB.later aj bo he fS,jg⟩;obtain⟨bj,d1,d2⟩:=dm j aE qO;exact⟨bj,d1,fe e bo he d2⟩
structure dc(w w':World):Prop where
 os:w'.os=w.os
 tape:w'.tape=w.tape
 output:w'.output=w.output
theorem dc.refl(w:World):dc w w:=⟨rfl,rfl,rfl⟩
theorem dc.trans{a b c:World}(h:dc a b)(k:dc b c):dc a c:=⟨k.os.trans h.os,k.tape.trans h.tape,k.output.trans h.output⟩
structure lL where
 l:Nat
 aL:ad
 S:List aL.ai->Prop
 I:List aL.ai->Bool->(Nat->Prop)->(Nat->Prop)->World->Prop
structure lL.hA(P:Program)(p:lL):Prop where
 BQ:∀ {pre st} {F F' Y:Nat->Prop} {w w':World},p.I pre st F Y w->(∀ r,F r->F' r)->(∀ r,F r\/Y r->w'.heap[r]?=w.heap[r]?)->w.heap.size<=w'.heap.size->dc w w'->(∀ r,F' r->r<w'.heap.size)->(∀ r,F' r->¬Y r)->p.I pre st F' Y w'
 yield:∀ {pre} {F Y:Nat->Prop} {w:World} {args:List Value} {x:p.aL.ai},p.I pre false F Y w->(∀ r,F r->r<w.heap.size)->(∀ r,Y r->r<w.heap.size/\¬F r)->(∃ T,p.S (pre++x::T))->fp P p.aL F w args x->
  YieldAt Fence.wide 0 P p.l args.toArray w λe w'=>∃ (b:Bool) (F' gD:Nat->Prop),e=.returned (.bool b)/\(∀ r,F r->F' r)/\(∀ r,F' r->F r\/Y r\/w.heap.size<=r)/\(∀ r,F' r->r<w'.heap.size)/\
   (∀ r,r<w.heap.size->¬Y r->w'.heap[r]?=w.heap[r]?)/\(∀ r,gD r->(Y r\/w.heap.size<=r)/\r<w'.heap.size/\¬F' r)/\w.heap.size<=w'.heap.size/\dc w w'/\p.I (pre++[x]) (!b) F' gD w'
def lL.at(p:lL)(aL:ad)(pre:List aL.ai)(st:Bool)(F Y:Nat->Prop)(w:World):Prop:=∃ h:aL=p.aL,p.I (h ▸ pre) st F Y w
theorem lL.y1{l:Nat}{aL:ad}{S:List aL.ai->Prop}{I}{pre:List aL.ai}{st:Bool}{F Y:Nat->Prop}{w:World}:(lL.mk l aL S I).at aL pre st F Y w<->I pre st F Y w:=⟨λ⟨_,h⟩=>h,λh=>⟨rfl,h⟩⟩
theorem lL.hA.JY{P:Program}{p:lL}(h:p.hA P){aL:ad}{pre:List aL.ai}{st}{F F' Y:Nat->Prop}{w w':World}:p.at aL pre st F Y w->(∀ r,F r->F' r)->(∀ r,F r\/Y r->w'.heap[r]?=w.heap[r]?)->w.heap.size<=w'.heap.size->dc w w'->(∀ r,F' r->r<w'.heap.size)->(∀ r,F' r->¬Y r)->p.at aL pre st F' Y w':=
 λ⟨e,E⟩ U ag a1 bL dm fS=>⟨e,h.BQ E U ag a1 bL dm fS⟩
def b5:Nat:=1000000
def eQ:Nat:=100000
def w1:Nat:=200000
structure b_ where
 P:Program
 w0:World
 F0:Nat->Prop
 K0:Nat->Prop
 nt:Nat
 r:Option Nat
 dfr:List Deferred
 ia:Nat->Option Nat
 cc:lL
 aM:dF
 JZ:Nat->Option (bC×Nat):=λ_=>none
def acQ(C:b_)(s:az)(w:World)(κ:Nat->bC)(F:Nat->Prop):Prop:=
 ∀ l aL L n st,s.ax b5=.aV l aL L n st->(∃ I,C.cc=⟨l,aL,L,I⟩)/\C.cc.hA C.P/\
  ∃ Y:Nat->Prop,(∀ r,Y r->r<w.heap.size/\¬F r/\¬C.K0 r)/\(∀ b,(s.aa b).body.bZ (κ b)=true->¬Y (κ b).aa)/\C.cc.at aL n st F Y w
structure bl(C:b_)(s:az)(a:Act)(w:World)(κ:Nat->bC)(F:Nat->Prop):Prop where
 dG:a.tmps.size=C.nt
 dfr:a.defers=C.dfr
 bT:∀ i,bB C.P s.aa κ F w (s.ax i) (a.tmps.getD i Go.undef)
 bD:∀ b,cF C.P s.aa κ F w b
 own:∀ b,(s.aa b).body.bZ (κ b)=true->(κ b).aa<w.heap.size/\¬F (κ b).aa/\¬C.K0 (κ b).aa
 inj:∀ b be,(s.aa b).body.bZ (κ b)=true->(s.aa be).body.bZ (κ be)=true->(κ b).aa=(κ be).aa->b=be
 da:∀ r,F r->r<w.heap.size
 hf:∀ r,F r->C.F0 r\/¬C.K0 r
 hP:∀ r,C.F0 r->F r
 hs:∀ r,C.K0 r->r<C.w0.heap.size
 eF:∀ r,C.K0 r->w.heap[r]?=C.w0.heap[r]?
 size:C.w0.heap.size<=w.heap.size
 ev:dc C.w0 w
 gp:C.nt<=eQ
 ko:∀ b r,C.ia b=some r->eQ<=b
 jC:∀ b r,C.ia b=some r->(s.aa b).body.fJ=true\/(s.aa b).body.gV=true->(κ b).aa=r
 j3:∀ b k,C.JZ b=some k->w1<=b
 kp:∀ b k,C.JZ b=some k->(s.aa b).gen=0->(s.aa b).body.fg=true->κ b=k.1/\(s.aa b).body.len=k.2
 eK:acQ C s w κ F
 jD:qN C.P C.aM
 iz:nG C.P F w
def ct(C:b_)(s:az)(a:Act)(w:World):Prop:=∃ κ F,bl C s a w κ F
def az.set(s:az)(d:Option Nat)(v:aG):az:=
 match d with
 | none=>s
 | some d=>{ s with ax:=λi=>if i=d then v else s.ax i }
def az.cy(s:az)(b:Nat)(x:bJ):az:={ s with aa:=λi=>if i=b then x else s.aa i }
theorem acR{a:Act}{d:Nat}{v:Value}(au:d<a.tmps.size)(i:Nat):(a.put (some d) v).tmps.getD i Go.undef=if i=d then v else a.tmps.getD i Go.undef:=by
 simp only[Act.put,Array.getD_eq_getD_getElem?,Array.getElem?_setIfInBounds];grind
theorem bl.set{C:b_}{s:az}{a:Act}{w:World}{κ:Nat->bC}{F:Nat->Prop}(h:bl C s a w κ F){d:Option Nat}(au:∀ i,d=some i->i<C.nt){av:aG}{v:Value}
  (ae:bB C.P s.aa κ F w av v):bl C (s.set d av) (a.put d v) w κ F:=by
 cases d with
 | none=>exact h
 | some d=>
  have w2:=au d rfl;have aA:=h.gp;refine { h with dG:=by simpa [Act.put]using h.dG,dfr:=h.dfr,bT:=λi=>?_,eK:=λl aL L n st e=>?_ }
  ·rw[acR (by rw[h.dG];omega)];simp only[az.set];by_cases G:i=d
   ·grind
   ·rw[if_neg G,if_neg G];exact h.bT i
  ·simp only[az.set]at e;rw[if_neg (by unfold b5 eQ at *;omega)]at e;exact h.eK l aL L n st e
theorem bl.move{C:b_}{s:az}{a:Act}{w:World}{κ:Nat->bC}{F:Nat->Prop}(h:bl C s a w κ F){H':Nat->bJ}{κ':Nat->bC}{F':Nat->Prop}{w':World}
  (aj:fq s.aa κ H' κ') (bo:∀ r,F r->F' r) (tr:∀ r,F' r->F r\/(∃ b,(s.aa b).body.bZ (κ b)=true/\(κ b).aa=r)\/w.heap.size<=r)
  (cd:w.heap.size<=w'.heap.size) (hw:∀ r,r<w.heap.size->(∀ b,(s.aa b).body.bZ (κ b)=true->(κ b).aa≠r)->w'.heap[r]?=w.heap[r]?) (hc:dc w w')
  (W:c1 F w w'->∀ b,cF C.P H' κ' F' w' b)
  (af:∀ b,(H' b).body.bZ (κ' b)=true->(κ' b).aa<w'.heap.size/\¬F' (κ' b).aa/\((∃ b0,(s.aa b0).body.bZ (κ b0)=true/\(κ b0).aa=(κ' b).aa)\/w.heap.size<=(κ' b).aa))
  (G:∀ b be,(H' b).body.bZ (κ' b)=true->(H' be).body.bZ (κ' be)=true->(κ' b).aa=(κ' be).aa->b=be)
  (aD:∀ r,F' r->r<w'.heap.size)
  (acS:∀ b,eQ<=b->(H' b).body.fJ=true\/(H' b).body.gV=true->κ' b=κ b/\((s.aa b).body.fJ=true\/(s.aa b).body.gV=true)):bl C ⟨s.ax,H'⟩ a w' κ' F':=by
 have acT:∀ r,C.K0 r->(∀ b,(s.aa b).body.bZ (κ b)=true->(κ b).aa≠r):=λr M b W e=>(h.own b W).2.2 (e ▸ M);have al:∀ r,C.K0 r->w'.heap[r]?=w.heap[r]?:=λr M=>hw r (Nat.lt_of_lt_of_le (h.hs r M) h.size) (acT r M);have y2:∀ r,w.heap.size<=r->¬C.K0 r:=λr M al=>by have:=h.hs r al;have:=h.size;omega
 have he:c1 F w w':=⟨cd,λr M=>hw r (h.da r M) λb W e=>(h.own b W).2.1 (e ▸ M)⟩
 refine { dG:=h.dG,dfr:=h.dfr,bT:=λi=>bB.later aj bo he (h.bT i),bD:=W he,own:=λb W=>?_,inj:=G,da:=aD,hf:=λr M=>?_,hP:=λr M=>bo r (h.hP r M),hs:=h.hs,eF:=λr M=>(al r M).trans (h.eF r M),size:=Nat.le_trans h.size cd,ev:=h.ev.trans hc,gp:=h.gp,ko:=h.ko,jC:=λb r M hc=>?_,j3:=h.j3,kp:=λb k al aX ba=>?_,eK:=λl aL L n st e=>?_,jD:=h.jD,iz:=h.iz.mono bo he }
 ·grind
 ·rcases tr r M with E | ⟨b,E,rfl⟩ | E
  ·exact h.hf r E
  ·exact .inr (h.own b E).2.2
  ·exact .inr (y2 r E)
 ·obtain⟨aP,aR⟩:=acS b (h.ko b r M) hc;rw[aP];exact h.jC b r M aR
 ·obtain⟨g1,ew⟩:=aj b;have aX:(H' b).gen=0:=aX;have ba:(H' b).body.fg=true:=ba;obtain⟨b8,a2,a3,_⟩:=(ew (by omega)).2.1 ba;obtain⟨aP,aR⟩:=h.kp b k al (by omega) b8;grind
 ·obtain⟨E,U,Y,ag,a1,bL⟩:=h.eK l aL L n st e;have axy:∀ r,Y r->w'.heap[r]?=w.heap[r]?:=λr M=>hw r (ag r M).1 λb W e=>a1 b W (e ▸ M);have BV:∀ r,Y r->¬F' r:=λr M ao=>by
   grind
  refine⟨E,U,Y,λr M=>⟨Nat.lt_of_lt_of_le (ag r M).1 cd,BV r M,(ag r M).2.2⟩,λb W aQ=>?_,U.JY bL bo (λr M=>?_) cd hc aD λr ao aQ=>BV r aQ ao⟩
  ·grind
  ·rcases M with M | M
   ·exact he.2 r M
   grind
theorem o5(w:World)(o:Obj){r:Nat}(h:r<w.heap.size):(w.alloc o).heap[r]?=w.heap[r]?:=Below.heap_alloc w o r h
theorem p1(w:World)(o:Obj):(w.alloc o).heap[w.heap.size]?=some o:=by
 show (w.heap.push o)[w.heap.size]?=_;simp
theorem c1.alloc{F:Nat->Prop}{w:World}(aD:∀ r,F r->r<w.heap.size)(o:Obj):c1 F w (w.alloc o):=
 ⟨by simp,λr M=>o5 w o (aD r M)⟩
theorem y3{H:Nat->bJ}{κ κ':Nat->bC}{b:Nat}{x:bJ}(aB:(H b).gen<x.gen)(BW:∀ be,be≠b->κ' be=κ be) :
  fq H κ (λi=>if i=b then x else H i) κ':=by
 rw[BU];intro i;by_cases G:i=b
 ·subst G;simp only[if_true];exact⟨by omega,λh=>by omega⟩
 ·simp only[if_neg G];rw[BW i G];exact p0.refl _ _
theorem y4{H:Nat->bJ}{κ κ':Nat->bC}{b:Nat}{x:bJ}(W:b<eQ\/(x.body.fJ=false/\x.body.gV=false))(BW:∀ be,be≠b->κ' be=κ be) :
  ∀ i,eQ<=i->(if i=b then x else H i).body.fJ=true\/(if i=b then x else H i).body.gV=true->κ' i=κ i/\((H i).body.fJ=true\/(H i).body.gV=true):=by
 grind
theorem bl.alloc{C:b_}{s:az}{a:Act}{w:World}{κ:Nat->bC}{F:Nat->Prop}(h:bl C s a w κ F){b:Nat}{x:bJ}(BX:b<eQ)(aB:(s.aa b).gen<x.gen)
  {o:Obj} {k:bC} (al:k.aa=w.heap.size)
  (ah:∀ (H:Nat->bJ) (κ':Nat->bC),H=(λi=>if i=b then x else s.aa i)->κ'=(λi=>if i=b then k else κ i)->fq s.aa κ H κ'->jB C.P H κ' F (w.alloc o) k x.body) :
  bl C (s.cy b x) a (w.alloc o) (λi=>if i=b then k else κ i) F:=by
 have aj:fq s.aa κ (λi=>if i=b then x else s.aa i) (λi=>if i=b then k else κ i):=y3 aB λbe db=>by grind
 refine h.move (H':=λi=>if i=b then x else s.aa i) aj (λ_ M=>M) (λ_ M=>.inl M) (by simp) (λr M _=>o5 w o M) ⟨rfl,rfl,rfl⟩ (λhe=>?_) ?_ ?_ ?_ (y4 (.inl BX) λbe db=>by grind)
 ·intro i;by_cases G:i=b
  ·subst G;simp only[cF,if_true];grind
  ·refine cF.lb (h.bD i) aj (λ_ M=>M) he (by grind) (by grind) λaf=>?_;exact o5 w o (h.own i af).1
 ·intro i G;by_cases eL:i=b
  ·subst eL;simp only[if_true]at G ⊢;refine⟨by simp_all,λao=>?_,.inr (by omega)⟩;have:=h.da _ ao;omega
  ·simp only[if_neg eL]at G ⊢;have:=h.own i G;exact⟨by simp;omega,this.2.1,.inl ⟨i,G,rfl⟩⟩
 ·intro i j G aE e;by_cases eL:i=b<;>by_cases mg:j=b
  ·omega
  ·simp only[if_pos eL,if_neg mg]at G aE e;have:=(h.own j aE).1;omega
  ·simp only[if_neg eL,if_pos mg]at G aE e;have:=(h.own i G).1;omega
  ·simp only[if_neg eL,if_neg mg]at G aE e;exact h.inj i j G aE e
 ·intro r M;have:=h.da r M;simp;omega
theorem qP{H:Nat->bJ}{κ:Nat->bC}{b:Nat}{x:bJ}(aB:x.gen=(H b).gen)(E:x.body.fJ=true->(H b).body.fJ=true)
  (U:x.body.fg=true->(H b).body.fg=true/\x.body.len=(H b).body.len/\x.body.e2=(H b).body.e2) (ag:x.body.gV=true->(H b).body.gV=true)
  (a1:x.body.mL=true->(H b).body.mL=true) :
  fq H κ (λi=>if i=b then x else H i) κ:=by
 rw[BU];intro i;by_cases G:i=b
 ·subst G;simp only[if_true];exact⟨by omega,λ_=>⟨λh=>⟨E h,rfl⟩,λh=>⟨(U h).1,rfl,(U h).2⟩,λh=>⟨ag h,rfl⟩,λh=>⟨a1 h,rfl⟩⟩⟩
 ·simp only[if_neg G];exact p0.refl _ _
theorem acU{H:Nat->bJ}{κ:Nat->bC}{b:Nat}{x:bJ}(E:x.body.fJ=true->(H b).body.fJ=true)(ag:x.body.gV=true->(H b).body.gV=true) :
  ∀ i,eQ<=i->(if i=b then x else H i).body.fJ=true\/(if i=b then x else H i).body.gV=true->κ i=κ i/\((H i).body.fJ=true\/(H i).body.gV=true):=by
 grind
theorem bl.o6{C:b_}{s:az}{a:Act}{w w':World}{κ:Nat->bC}{F:Nat->Prop}(h:bl C s a w κ F){b:Nat}{x:bJ}
  (gq:(s.aa b).body.bZ (κ b)=true) (y5:x.body.bZ (κ b)=true) (aj:fq s.aa κ (λi=>if i=b then x else s.aa i) κ)
  (E:x.body.fJ=true->(s.aa b).body.fJ=true) (ag:x.body.gV=true->(s.aa b).body.gV=true)
  (hw:∀ r,r≠(κ b).aa->w'.heap[r]?=w.heap[r]?) (cd:w'.heap.size=w.heap.size) (hc:dc w w')
  (ah:∀ (H:Nat->bJ),H=(λi=>if i=b then x else s.aa i)->fq s.aa κ H κ->c1 F w w'->jB C.P H κ F w' (κ b) x.body) :
  bl C (s.cy b x) a w' κ F:=by
 have af:=h.own b gq;refine h.move (H':=λi=>if i=b then x else s.aa i) aj (λ_ M=>M) (λ_ M=>.inl M) (by omega) (λr _ M=>hw r λe=>M b gq e.symm) hc (λhe=>?_) ?_ ?_ (λr M=>by rw[cd];exact h.da r M) (acU E ag)
 ·intro i;by_cases G:i=b
  ·subst G;simp only[cF,if_true];grind
  ·refine cF.lb (h.bD i) aj (λ_ M=>M) he (by grind) rfl λacV=>hw _ λe=>G (h.inj i b acV gq e)
 ·intro i G;by_cases eL:i=b
  ·grind
  ·simp only[if_neg eL]at G;have:=h.own i G;grind
 ·intro i j G aE e;have dK:(s.aa i).body.bZ (κ i)=true:=by
   grind
  have fV:(s.aa j).body.bZ (κ j)=true:=by
   grind
  exact h.inj i j dK fV e
theorem bl.drew{C:b_}{s:az}{a:Act}{w:World}{κ:Nat->bC}{F:Nat->Prop}(h:bl C s a w κ F):bl C s a w.drew κ F:=
 h.move (H':=s.aa) (fq.refl _ _) (λ_ M=>M) (λ_ M=>.inl M) (Nat.le_refl _) (λ_ _ _=>rfl) ⟨rfl,rfl,rfl⟩
  (λ_ b=>cF.lb (h.bD b) (fq.refl _ _) (λ_ M=>M) ⟨Nat.le_refl _,λ_ _=>rfl⟩ rfl rfl λ_=>rfl) (λb W=>⟨(h.own b W).1,(h.own b W).2.1,.inl ⟨b,W,rfl⟩⟩) h.inj h.da (λ_ _ h=>⟨rfl,h⟩)
def az.le(s' s:az):Prop:=(∀ i,s'.ax i=s.ax i\/s'.ax i=.undef)/\∀ b,s'.aa b=s.aa b\/s'.aa b=⟨(s.aa b).gen,.fy⟩
theorem bl.y6{C:b_}{s s':az}{a:Act}{w:World}{κ:Nat->bC}{F:Nat->Prop}(h:bl C s a w κ F)(aD:s'.le s):bl C s' a w κ F:=by
 have gq:∀ b,(s'.aa b).body.bZ (κ b)=true->(s.aa b).body.bZ (κ b)=true:=λb W=>by
  rcases aD.2 b with e | e
  ·grind
  ·rw[e]at W;cases W
 have aj:fq s.aa κ s'.aa κ:=λb=>by
  rcases aD.2 b with e | e
  ·grind
  ·rw[e];exact⟨Nat.le_refl _,λ_=>⟨λh=>(by cases h),λh=>(by cases h),λh=>(by cases h),λh=>(by cases h)⟩⟩
 have U:=h.move aj (λ_ M=>M) (λ_ M=>.inl M) (Nat.le_refl _) (λ_ _ _=>rfl) (dc.refl _)
  (λ_ b=>by
   rcases aD.2 b with e | e
   ·exact cF.lb (h.bD b) aj (λ_ M=>M) (c1.refl _ _) (by rw[e]) rfl λ_=>rfl
   ·unfold cF;rw[e];trivial)
  (λb W=>⟨(h.own b (gq b W)).1,(h.own b (gq b W)).2.1,.inl ⟨b,gq b W,rfl⟩⟩) (λb be W db=>h.inj b be (gq b W) (gq be db)) h.da (λb _ W=>⟨rfl,by
   rcases aD.2 b with e | e
   ·grind
   ·rw[e]at W;simp[bQ.fJ,bQ.gV]at W⟩)
 refine { U with bT:=λi=>?_,dG:=U.dG,dfr:=U.dfr,eK:=λl aL L n st e=>?_ }
 ·rcases aD.1 i with e | e
  ·rw[e];exact U.bT i
  ·rw[e];trivial
 ·rcases aD.1 b5 with k | k
  ·exact U.eK l aL L n st (k ▸ e)
  grind
end Go.Fer
namespace Go.Fer
inductive aq(ak:Type) where
 | ret (a:ak)
 | eR (b:Nat) (k:bJ->aq ak)
def aq.run{ak:Type}(H:Nat->bJ):aq ak->ak
 | .ret a=>a
 | .eR b k=>(k (H b)).run H
def aq.looks{ak:Type}(H:Nat->bJ):aq ak->List Nat
 | .ret _=>[]
 | .eR b k=>b::(k (H b)).looks H
def aq.bind{ak β:Type}:aq ak->(ak->aq β)->aq β
 | .ret a,f=>f a
 | .eR b k,f=>.eR b λx=>(k x).bind f
def aq.map{ak β:Type}(f:ak->β)(m:aq ak):aq β:=m.bind λa=>.ret (f a)
def aq.none{ak:Type}:aq (Option ak):=.ret Option.none
def aq.cQ{ak β:Type}(m:aq (Option ak))(f:ak->aq (Option β)):aq (Option β):=m.bind fun | some a=>f a | Option.none=>.none
@[simp] theorem aq.bM {ak:Type} (H:Nat->bJ) (a:ak):(aq.ret a).run H=a:=rfl
@[simp] theorem aq.e3 {ak:Type} (H:Nat->bJ) (b:Nat) (k:bJ->aq ak):(aq.eR b k).run H=(k (H b)).run H:=rfl
theorem aq.run_bind{ak β:Type}(H:Nat->bJ)(m:aq ak)(f:ak->aq β):(m.bind f).run H=(f (m.run H)).run H:=by
 induction m with
 | ret a=>rfl
 | eR b k aJ=>simp[aq.bind,aJ]
theorem aq.e4{ak β:Type}(H:Nat->bJ)(m:aq (Option ak))(f:ak->aq (Option β)):(m.cQ f).run H=(m.run H).bind λa=>(f a).run H:=by
 unfold aq.cQ;rw[aq.run_bind];cases m.run H<;>rfl
theorem aq.Rl{ak:Type}{H H':Nat->bJ}:∀ (m:aq ak),(∀ b∈m.looks H,H' b=H b)->m.run H'=m.run H/\m.looks H'=m.looks H
 | .ret a,_=>⟨rfl,rfl⟩
 | .eR b k,h=>by
  have W:=h b (by simp[aq.looks]);have:=aq.Rl (k (H b)) λc hc=>h c (by simp[aq.looks,hc]);simp only[aq.run,aq.looks,W,this];simp
def eS(t cX:ad)(x:t.ai):Option cX.ai:=if h:t=cX then some (h ▸ x) else none
theorem kN{t cX:ad}{x:t.ai}{y:cX.ai}(h:eS t cX x=some y):∃ e:t=cX,y=e ▸ x:=by
 unfold eS at h;grind
def BY:(t:ad)->Value->Option t.ai
 | .bH _,.pointer Option.none=>some Option.none
 | .map _ _,.map Option.none=>some []
 | .et,.nilFunc=>some Option.none
 | _,_=>Option.none
def ad.isAgg:ad->Bool
 | .st _ | .array _ _=>true
 | _=>false
def dW(t:ad):aG->aq (Option (t.ai×List Nat))
 | .val cX x=>.ret ((eS cX t x).map (·,[]))
 | .cu=>match t with
  | .slice _=>.ret (some ([],[]))
  | _=>.none
 | .own b g=>match t with
  | .slice e=>.eR b λx=>.ret (if x.gen=g then (match x.body with
    | .bh a6 xs=>(eS (.slice a6) (.slice e) xs).map (·,[b])
    | .hC a6 xs=>(eS (.slice a6) (.slice e) xs).map (·,[])
    | _=>Option.none) else Option.none)
  | _=>.none
 | .sub b g aY G=>match t with
  | .slice e=>.eR b λx=>.ret (if x.gen=g then (match x.body with
    | .bh a6 xs=>(eS (.slice a6) (.slice e) ((xs.take G).drop aY)).map (·,[b])
    | .hC a6 xs=>(eS (.slice a6) (.slice e) ((xs.take G).drop aY)).map (·,[])
    | _=>Option.none) else Option.none)
  | _=>.none
 | .fI b g=>match t with
  | .map k v=>.eR b λx=>.ret (if x.gen=g then (match x.body with
    | .mp k' h2 es=>(eS (.map k' h2) (.map k v) es).map (·,[b])
    | .jh k' h2 es=>(eS (.map k' h2) (.map k v) es).map (·,[])
    | _=>Option.none) else Option.none)
  | _=>.none
 | .dV cX x=>match t with
  | .bH e=>.ret ((eS (.bH cX) (.bH e) (some x)).map (·,[]))
  | _=>.none
 | .jA v=>.ret ((BY t v).map (·,[]))
 | .iy k n _=>match t with
  | .et=>if n=0 then .ret (some (some k,[])) else .none
  | _=>.none
 | _=>.none
def tw(e:ad)(cg:List aG->aq (Option (e.ai×List Nat×List aG)))(av:aG):aq (Option (Option e.ai×List Nat)):=
 match av with
 | .aW b g off=>.eR b λx=>if x.gen=g/\off=0 then (match x.body with
   | .gJ cX y=>.ret ((eS cX e y).map λz=>(some z,[]))
   | .cells cX f=>if cX=e then (cg ((List.range e.size).map f)).cQ λ(y,l,r)=>.ret (if r.isEmpty then some (some y,b::l) else Option.none) else .none
   | _=>.none) else .none
 | av=>dW (.bH e) av
def ib:(t:ad)->List aG->aq (Option (t.ai×List Nat×List aG))
 | .cT,cs=>.ret (some ((),[],cs))
 | .st t,cs=>ib t cs
 | .ay a b,cs=>(ib a cs).cQ λ(x,l,r)=>(ib b r).cQ λ(y,m,q)=>.ret (some ((x,y),l++m,q))
 | .array n e,cs=>n.rec (motive:=λ_=>List aG->aq (Option (List e.ai×List Nat×List aG))) (λcs=>.ret (some ([],[],cs)))
   (λ_ aJ cs=>(ib e cs).cQ λ(x,l,r)=>(aJ r).cQ λ(xs,m,q)=>.ret (some (x::xs,l++m,q))) cs
 | .bool,cs=>match cs with | c::r=>(dW .bool c).map λo=>o.map λ(x,l)=>(x,l,r) | []=>.none
 | .int k,cs=>match cs with | c::r=>(dW (.int k) c).map λo=>o.map λ(x,l)=>(x,l,r) | []=>.none
 | .str,cs=>match cs with | c::r=>(dW .str c).map λo=>o.map λ(x,l)=>(x,l,r) | []=>.none
 | .slice e,cs=>match cs with | c::r=>(dW (.slice e) c).map λo=>o.map λ(x,l)=>(x,l,r) | []=>.none
 | .bH e,cs=>match cs with | c::r=>(tw e (ib e) c).map λo=>o.map λ(x,l)=>(x,l,r) | []=>.none
 | .map k v,cs=>match cs with | c::r=>(dW (.map k v) c).map λo=>o.map λ(x,l)=>(x,l,r) | []=>.none
 | .fn a b,cs=>match cs with | c::r=>(dW (.fn a b) c).map λo=>o.map λ(x,l)=>(x,l,r) | []=>.none
 | .cr a,cs=>match cs with | c::r=>(dW (.cr a) c).map λo=>o.map λ(x,l)=>(x,l,r) | []=>.none
 | .et,cs=>match cs with | c::r=>(dW .et c).map λo=>o.map λ(x,l)=>(x,l,r) | []=>.none
def kq(t:ad)(av:aG):aq (Option (t.ai×List Nat)):=
 match t with
 | .bH e=>tw e (ib e) av
 | t=>if t.eE then dW t av else .none
def dB(t:ad)(av:aG):aq (Option (t.ai×List Nat)):=
 match av with
 | .val cX x=>.ret ((eS cX t x).map (·,[]))
 | .agg n f=>if t.eE then .none else (ib t ((List.range n).map f)).cQ λ(x,l,r)=>.ret (if r.isEmpty&&t.isAgg then some (x,l) else Option.none)
 | _=>kq t av
def nH:(t:ad)->t.ai->List aG
 | .cT,_=>[]
 | .st t,x=>nH t x
 | .ay a b,x=>nH a x.1++nH b x.2
 | .array n e,xs=>(List.range n).flatMap λi=>nH e (List.getD xs i e.de)
 | .bool,x=>[.val .bool x]
 | .int k,x=>[.val (.int k) x]
 | .str,x=>[.val .str x]
 | .slice e,x=>[.val (.slice e) x]
 | .bH e,x=>[.val (.bH e) x]
 | .map k v,x=>[.val (.map k v) x]
 | .fn a b,x=>[.val (.fn a b) x]
 | .cr a,x=>[.val (.cr a) x]
 | .et,x=>[.val .et x]
def r3:ad->List aG
 | .cT=>[]
 | .st t=>r3 t
 | .ay a b=>r3 a++r3 b
 | .array n e=>(List.range n).flatMap λ_=>r3 e
 | .bool=>[.val .bool false]
 | .int k=>[.val (.int k) (0:Int)]
 | .str=>[.val .str []]
 | .slice _=>[.cu]
 | .bH e=>[.val (.bH e) Option.none]
 | .map k v=>[.val (.map k v) []]
 | .fn _ _=>[.jA .nilFunc]
 | .cr _=>[.jA .nilFunc]
 | .et=>[.val .et Option.none]
def hg(l:List aG)(i:Nat):aG:=l.getD i .undef
def mh:ad->Nat->Option (ad×Nat)
 | .ay a _,0=>some (a,0)
 | .ay a b,f+1=>(mh b f).map λ(t,o)=>(t,a.size+o)
 | .cT,_=>Option.none
 | t,0=>some (t,0)
 | _,_+1=>Option.none
def u5:(t:ad)->t.ai->Nat->Option ((s:ad)×s.ai)
 | .ay a _,x,0=>some ⟨a,x.1⟩
 | .ay _ b,x,f+1=>u5 b x.2 f
 | .cT,_,_=>Option.none
 | t,x,0=>some ⟨t,x⟩
 | _,_,_+1=>Option.none
def r4:(t:ad)->t.ai->Nat->(s:ad)->Option s.ai
 | .st t,x,off,s=>if off=0/\ad.st t=s then eS (.st t) s x else r4 t x off s
 | .ay a b,x,off,s=>if off<a.size then r4 a x.1 off s else r4 b x.2 (off - a.size) s
 | .cT,_,_,_=>Option.none
 | .array _ _,_,_,_=>Option.none
 | .bool,x,off,s=>if off=0 then eS .bool s x else Option.none
 | .int k,x,off,s=>if off=0 then eS (.int k) s x else Option.none
 | .str,x,off,s=>if off=0 then eS .str s x else Option.none
 | .slice e,x,off,s=>if off=0 then eS (.slice e) s x else Option.none
 | .bH e,x,off,s=>if off=0 then eS (.bH e) s x else Option.none
 | .map k v,x,off,s=>if off=0 then eS (.map k v) s x else Option.none
 | .fn a b,x,off,s=>if off=0 then eS (.fn a b) s x else Option.none
 | .cr a,x,off,s=>if off=0 then eS (.cr a) s x else Option.none
 | .et,x,off,s=>if off=0 then eS .et s x else Option.none
def w3:(t:ad)->t.ai->Nat->(s:ad)->s.ai->Option t.ai
 | .st t,x,off,s,y=>if off=0/\s=ad.st t then eS s (.st t) y else w3 t x off s y
 | .ay a b,x,off,s,y=>if off<a.size then (w3 a x.1 off s y).map (·,x.2) else (w3 b x.2 (off - a.size) s y).map (x.1,·)
 | .cT,_,_,_,_=>Option.none
 | .array _ _,_,_,_,_=>Option.none
 | .bool,_,off,s,y=>if off=0 then eS s .bool y else Option.none
 | .int k,_,off,s,y=>if off=0 then eS s (.int k) y else Option.none
 | .str,_,off,s,y=>if off=0 then eS s .str y else Option.none
 | .slice e,_,off,s,y=>if off=0 then eS s (.slice e) y else Option.none
 | .bH e,_,off,s,y=>if off=0 then eS s (.bH e) y else Option.none
 | .map k v,_,off,s,y=>if off=0 then eS s (.map k v) y else Option.none
 | .fn a b,_,off,s,y=>if off=0 then eS s (.fn a b) y else Option.none
 | .cr a,_,off,s,y=>if off=0 then eS s (.cr a) y else Option.none
 | .et,_,off,s,y=>if off=0 then eS s .et y else Option.none
def lM(k:IntKind)(a b:Int):Int:=k.wrap (BitVec.ofInt k.bits a&&& BitVec.ofInt k.bits b).toNat
def Rm(k:IntKind)(a b:Int):Int:=k.wrap (BitVec.ofInt k.bits a||| BitVec.ofInt k.bits b).toNat
def Rn(k:IntKind)(a b:Int):Int:=k.wrap (BitVec.ofInt k.bits a ^^^ BitVec.ofInt k.bits b).toNat
def Ro(k:IntKind)(a b:Int):Int:=k.wrap (BitVec.ofInt k.bits a&&& ~~~BitVec.ofInt k.bits b).toNat
def acW(k:IntKind)(a b:Int):Int:=k.wrap (a*2 ^ (min b.toNat k.bits))
def ji(k:IntKind)(a b:Int):Int:=a.fdiv (2 ^ (min b.toNat k.bits))
def kO(t:ad)(xs:List t.ai)(i:Int):t.ai:=xs.getD i.toNat t.de
def bP(n:Nat):Prop:=n<=4294967296
def gK:(t:ad)->t.ai->t.ai->Bool
 | .bool,x,y=>x == y
 | .int _,x,y=>decide ((x:Int)=y)
 | .str,x,y=>decide ((x:List UInt8)=y)
 | .st t,x,y=>gK t x y
 | .ay a b,x,y=>gK a x.1 y.1&&gK b x.2 y.2
 | _,_,_=>false
def ad.kP:ad->Bool
 | .bool | .int _ | .str=>true
 | .st t=>t.kP
 | .ay a b=>a.kP&&b.kP
 | _=>false
end Go.Fer
namespace Go.Fer
open Go.RowKit
section
variable {P:Program} {H:Nat->bJ} {κ:Nat->bC} {F F':Nat->Prop} {w:World}
def ey(P:Program)(H:Nat->bJ)(κ:Nat->bC)(F:Nat->Prop)(w:World):List aG->List Value->Prop
 | [],[]=>True
 | a::as,v::aC=>(bB P H κ F w a v/\v.oneCell'=true)/\ey P H κ F w as aC
 | _,_=>False
theorem ey.append:∀ {as bs:List aG} {us aC:List Value},ey P H κ F w as us->ey P H κ F w bs aC->ey P H κ F w (as++bs) (us++aC)
 | [],_,[],_,_,k=>k
 | _::_,_,_::_,_,h,k=>⟨h.1,ey.append h.2 k⟩
 | [],_,_::_,_,h,_=>h.elim
 | _::_,_,[],_,h,_=>h.elim
theorem ey.len:∀ {as:List aG} {us:List Value},ey P H κ F w as us->as.length=us.length
 | [],[],_=>rfl
 | _::_,_::_,h=>by simp[ey.len h.2]
 | [],_::_,h=>h.elim
 | _::_,[],h=>h.elim
theorem ey.kO:∀ {as:List aG} {us:List Value},ey P H κ F w as us->∀ i,i<as.length->bB P H κ F w (hg as i) (us.getD i Go.undef)/\(us.getD i Go.undef).oneCell'=true
 | a::as,v::aC,h,0,_=>h.1
 | a::as,v::aC,h,i+1,G=>by
  have:=ey.kO h.2 i (by grind);simpa [hg]using this
 | [],[],_,i,G=>by grind
 | [],_::_,h,_,_=>h.elim
 | _::_,[],h,_,_=>h.elim
theorem ey.Rp:∀ {as:List aG} {us:List Value},as.length=us.length->(∀ i,i<as.length->bB P H κ F w (hg as i) (us.getD i Go.undef)/\(us.getD i Go.undef).oneCell'=true)->ey P H κ F w as us
 | [],[],_,_=>trivial
 | a::as,v::aC,aj,h=>⟨h 0 (by simp),ey.Rp (by grind) λi G=>by have:=h (i+1) (by grind);simpa [hg]using this⟩
 | [],_::_,aj,_=>by grind
 | _::_,[],aj,_=>by grind
theorem y7:∀ (t:ad) {cs:List Value} {x:t.ai},bI P t F w cs x->ey P H κ F w (nH t x) cs:=by
 have eM:∀ (t:ad),t.eE=true->∀ {cs:List Value} {x:t.ai},bI P t F w cs x->ey P H κ F w [.val t x] cs:=by
  intro t aH cs x h;obtain⟨u,rfl,hu⟩:=BT aH h;exact⟨⟨(dU aH).2 ⟨hu,h⟩,JX aH h⟩,trivial⟩
 intro t;induction t with
 | bool=>intro cs x h;exact eM _ rfl h
 | int k=>intro cs x h;exact eM (.int k) rfl h
 | str=>intro cs x h;exact eM _ rfl h
 | cT=>intro cs x h;simp only[bI]at h;subst h;trivial
 | st t aJ=>intro cs x h;simp only[bI]at h;exact aJ h
 | ay a b fx eJ=>
  intro cs x h;simp only[bI]at h;obtain⟨c,d,rfl,ba,W⟩:=h;exact (fx ba).append (eJ W)
 | slice e aJ=>intro cs x h;exact eM (.slice e) rfl h
 | array n e aJ=>
  intro cs xs h;simp only[bI]at h;obtain⟨fo,rfl,E,U,ag⟩:=h;simp only[nH];have key:∀ (k:Nat) (l:List (List Value)),(∀ i (G:i<l.length),ey P H κ F w (nH e (List.getD xs (k+i) e.de)) l[i])->ey P H κ F w ((List.range' k l.length).flatMap λi=>nH e (List.getD xs i e.de)) l.flatten:=by
   intro k l;induction l generalizing k with
   | nil=>intro _;trivial
   | cons c l acX=>
    intro cV;simp only[List.length_cons,List.range'_succ,List.flatMap_cons,List.flatten_cons];refine ey.append ?_ (acX (k+1) λi G=>?_)
    ·have:=cV 0 (by simp);grind
    ·have:=cV (i+1) (by grind);grind
  rw[List.range_eq_range',<-E];grind
 | bH e aJ=>intro cs x h;exact eM (.bH e) rfl h
 | map k v wT wU=>intro cs x h;exact eM (.map k v) rfl h
 | fn a b fx eJ=>intro cs x h;exact eM (.fn a b) rfl h
 | cr a aJ=>intro cs x h;exact eM (.cr a) rfl h
 | et=>intro cs x h;exact eM .et rfl h
theorem J0{e:ad}{xs:List e.ai}{k:bC}(aS:jB P H κ F w k (.bh e xs))(bo:∀ r,F r->F' r)(al:k.e8=false->F' k.aa):bI P (.slice e) F' w [k.slice xs.length] xs:=by
 obtain⟨E,U⟩:=aS;simp only[bI,bC.slice];cases aA:k.e8 with
 | true=>rw[E aA];exact⟨none,0,rfl,Nat.le_refl _,by decide,λ_=>rfl,λp an=>by simp⟩
 | false=>
  obtain⟨cs,T,bE,c2,c3,c4,c5⟩:=U aA;refine⟨some ⟨k.aa,k.off,none⟩,k.cap,by simp,c3,c4,(by simp),λp an _=>?_⟩;cases an;refine⟨al aA,rfl,λi G=>?_⟩;obtain⟨bj,d1,d2⟩:=c5 i G;refine⟨bj,⟨al aA,rfl,λj aE=>?_⟩,fe e bo (c1.refl F w) d2⟩;simp only[World.cell?,bE];grind
theorem Fs{t cX:ad}{x:t.ai}{y:cX.ai}{v:Value}(hc:eS t cX x=some y)(h:eu P t F w v x):eu P cX F w v y:=by
 obtain⟨e,rfl⟩:=kN hc;grind
theorem tx{t cX:ad}{x:t.ai}{y:cX.ai}{cs:List Value}(hc:eS t cX x=some y)(h:bI P t F w cs x):bI P cX F w cs y:=by
 obtain⟨e,rfl⟩:=kN hc;grind
def iW(H:Nat->bJ)(κ:Nat->bC)(F':Nat->Prop)(l:List Nat):Prop:=∀ b∈l,(H b).body.bZ (κ b)=true->F' (κ b).aa
theorem iW.left{l m:List Nat}(h:iW H κ F' (l++m)):iW H κ F' l:=λb W=>h b (List.mem_append_left _ W)
theorem iW.right{l m:List Nat}(h:iW H κ F' (l++m)):iW H κ F' m:=λb W=>h b (List.mem_append_right _ W)
theorem Rq{mf o4:ad}{es:List (mf.ai×o4.ai)}{k:bC}(aS:jB P H κ F w k (.mp mf o4 es))(bo:∀ r,F r->F' r)(al:F' k.aa):bI P (.map mf o4) F' w [.map (some k.aa)] es:=by
 obtain⟨ms,clk,E,U⟩:=aS;obtain⟨U,ag,a1,bL⟩:=U.mono bo (c1.refl F w);exact .inr ⟨_,ms,clk,rfl,al,E,U,ag,a1,bL⟩
theorem Ft{e:ad}{xs:List e.ai}{k:bC}{aY G:Nat}{v:Value}(h:bI P (.slice e) F' w [k.slice xs.length] xs)(E:aY<=G)(U:G<=xs.length)(aD:Fq k e.size aY G v) :
  bI P (.slice e) F' w [v] ((xs.take G).drop aY):=by
 have hlen:((xs.take G).drop aY).length=G - aY:=by grind
 obtain⟨a,cap,aw,bE,c2,c3,c4⟩:=h;rcases aD with⟨aA,rfl⟩ | ⟨aA,o,rfl,hQ,gF⟩
 ·have:xs=[]:=by
   simp only[bC.slice,aA,if_true,List.cons.injEq,Value.slice.injEq,and_true]at aw;grind
  subst this;have bG:(([]:List e.ai).take G).drop aY=[]:=by simp
  rw[bG];exact⟨none,0,rfl,Nat.le_refl _,by decide,λ_=>rfl,λp an=>by simp⟩
 ·simp only[bC.slice,aA,Bool.false_eq_true,if_false,List.cons.injEq,Value.slice.injEq,and_true]at aw;obtain⟨rfl,_,rfl⟩:=aw;refine⟨some ⟨k.aa,o,none⟩,k.cap - aY,by grind,by omega,by omega,(by simp),λp an u6=>?_⟩;cases an;obtain⟨d1,d2,d3⟩:=c4 _ rfl (by omega);refine⟨d1,rfl,λi dK=>?_⟩;obtain⟨bj,m1,m2⟩:=d3 (aY+i) (by omega);grind
theorem J1(aS:∀ b,cF P H κ F w b)(bo:∀ r,F r->F' r){t:ad}(aH:t.eE=true){av:aG}{v:Value}{x:t.ai}{l:List Nat}(h:(dW t av).run H=some (x,l))
  (aj:iW H κ F' l) (ae:bB P H κ F w av v):eu P t F' w v x:=by
 cases av with
 | undef=>cases h
 | hB b a=>cases h
 | aW b g off=>cases h
 | oh b g i off=>cases h
 | iV b g i=>cases h
 | iy k n c=>
  cases t<;>simp only[dW,aq.none,aq.bM,reduceCtorEq]at h;split at h
  ·rename_i aA;subst aA;cases h;obtain⟨aC,rfl,aj,_⟩:=ae;obtain rfl:=List.eq_nil_of_length_eq_zero aj;exact (dU rfl).2 ⟨rfl,rfl⟩
  ·cases h
 | r2 k n c=>cases h
 | pZ n f=>cases h
 | agg n f=>cases h
 | j2 b g=>cases h
 | aV l aL L n st=>cases h
 | hd l=>cases h
 | wY e xs=>cases h
 | sub b g aY G=>
  cases t<;>simp only[dW,aq.none,aq.bM,aq.e3,reduceCtorEq]at h;rename_i e;split at h
  ·rename_i aB;obtain⟨p2,ie⟩:=ae;have jE:=aS b;unfold cF at jE;cases bS:(H b).body with
   | bh a6 xs=>
    rw[bS]at h jE ie;simp only[Option.map_eq_some_iff,Prod.mk.injEq]at h;obtain⟨z,bk,rfl,rfl⟩:=h;obtain⟨⟨aP,aR⟩,bO⟩:=ie aB.symm rfl;exact (dU rfl).2 ⟨Fl p2.2,tx bk (Ft (J0 jE bo λaA=>aj b (by simp) (by rw[bS];simp[bQ.bZ,aA])) aP aR bO)⟩
   | hC a6 xs=>
    rw[bS]at h jE ie;simp only[Option.map_eq_some_iff,Prod.mk.injEq]at h;obtain⟨z,bk,rfl,rfl⟩:=h;obtain⟨⟨aP,aR⟩,bO⟩:=ie aB.symm rfl;exact (dU rfl).2 ⟨Fl p2.2,tx bk (Ft (fe (.slice a6) bo (c1.refl F w) jE) aP aR bO)⟩
   | _=>rw[bS]at h;cases h
  grind
 | fI b g=>
  cases t<;>simp only[dW,aq.none,aq.bM,aq.e3,reduceCtorEq]at h;rename_i k e;split at h
  ·rename_i aB;obtain⟨p2,ie⟩:=ae;have jE:=aS b;unfold cF at jE;cases bS:(H b).body with
   | mp k' h2 es=>
    rw[bS]at h jE ie;simp only[Option.map_eq_some_iff,Prod.mk.injEq]at h;obtain⟨z,bk,rfl,rfl⟩:=h;have:=ie aB.symm rfl;subst this;exact (dU rfl).2 ⟨rfl,tx bk (Rq jE bo (aj b (by simp) (by rw[bS];rfl)))⟩
   | jh k' h2 es=>
    rw[bS]at h jE ie;simp only[Option.map_eq_some_iff,Prod.mk.injEq]at h;obtain⟨z,bk,rfl,rfl⟩:=h;have:=ie aB.symm rfl;subst this;exact (dU rfl).2 ⟨rfl,tx bk (fe (.map k' h2) bo (c1.refl F w) jE)⟩
   | _=>rw[bS]at h;cases h
  grind
 | val cX y=>
  simp only[dW,aq.bM,Option.map_eq_some_iff,Prod.mk.injEq]at h;obtain⟨z,bk,rfl,rfl⟩:=h;exact (Fs bk ae).mono bo (c1.refl F w)
 | cu=>
  cases t<;>simp only[dW,aq.none,aq.bM,reduceCtorEq,Option.some.injEq,Prod.mk.injEq]at h;obtain⟨rfl,rfl⟩:=h;simp only[bB]at ae;subst ae;exact (dU rfl).2 ⟨rfl,none,0,rfl,Nat.le_refl _,by decide,λ_=>rfl,λp an=>by simp⟩
 | own b g=>
  cases t<;>simp only[dW,aq.none,aq.bM,aq.e3,reduceCtorEq]at h;rename_i e;split at h
  ·rename_i aB;obtain⟨p2,ie⟩:=ae;have jE:=aS b;unfold cF at jE;cases bS:(H b).body with
   | bh a6 xs=>
    rw[bS]at h jE ie;simp only[Option.map_eq_some_iff,Prod.mk.injEq]at h;obtain⟨z,bk,rfl,rfl⟩:=h;have:=ie aB.symm rfl;simp only[bQ.len]at this;subst this;refine (dU rfl).2 ⟨by unfold bC.slice;split<;>rfl,tx bk (J0 jE bo λaA=>aj b (by simp) (by rw[bS];simp[bQ.bZ,aA]))⟩
   | hC a6 xs=>
    rw[bS]at h jE ie;simp only[Option.map_eq_some_iff,Prod.mk.injEq]at h;obtain⟨z,bk,rfl,rfl⟩:=h;have:=ie aB.symm rfl;simp only[bQ.len]at this;subst this;exact (dU rfl).2 ⟨by unfold bC.slice;split<;>rfl,tx bk (fe _ bo (c1.refl F w) jE)⟩
   | _=>rw[bS]at h;cases h
  grind
 | dV cX y=>
  cases t<;>simp only[dW,aq.none,aq.bM,reduceCtorEq,Option.map_eq_some_iff,Prod.mk.injEq]at h;rename_i e;obtain⟨z,bk,rfl,rfl⟩:=h;obtain⟨p,bj,rfl,U,ag⟩:=ae;refine (dU rfl).2 ⟨rfl,tx bk ?_⟩;exact .inr ⟨p,y,bj,rfl,rfl,U.mono bo (c1.refl F w),fe cX bo (c1.refl F w) ag⟩
 | jA u=>
  simp only[bB]at ae;subst ae;simp only[dW,aq.bM,Option.map_eq_some_iff,Prod.mk.injEq]at h;obtain⟨z,bk,rfl,rfl⟩:=h;unfold BY at bk;split at bk
  ·cases bk;exact (dU rfl).2 ⟨rfl,.inl ⟨rfl,rfl⟩⟩
  ·cases bk;exact (dU rfl).2 ⟨rfl,.inl ⟨rfl,rfl⟩⟩
  ·cases bk;exact (dU rfl).2 ⟨rfl,rfl⟩
  grind
theorem BZ{n:Nat}{f:Nat->aG}{aC:List Value}(aj:aC.length=n)(h:∀ i,i<n->bB P H κ F w (f i) (aC.getD i Go.undef)/\(aC.getD i Go.undef).oneCell'=true) :
  ey P H κ F w ((List.range n).map f) aC:=by
 refine ey.Rp (by grind) λi G=>?_;have dK:i<n:=by grind
 have:hg ((List.range n).map f) i=f i:=by simp[hg,List.getD_eq_getElem?_getD,dK]
 grind
theorem Rr(aS:∀ b,cF P H κ F w b)(bo:∀ r,F r->F' r){e:ad}{cg:List aG->aq (Option (e.ai×List Nat×List aG))}
  (gr:∀ {cs:List aG} {aC:List Value} {x:e.ai} {l:List Nat} {r:List aG},(cg cs).run H=some (x,l,r)->iW H κ F' l->ey P H κ F w cs aC->∃ c d,aC=c++d/\bI P e F' w c x/\ey P H κ F w r d)
  {av:aG} {v:Value} {x:Option e.ai} {l:List Nat} (h:(tw e cg av).run H=some (x,l)) (aj:iW H κ F' l) (ae:bB P H κ F w av v):eu P (.bH e) F' w v x:=by
 have cm:(dW (.bH e) av).run H=some (x,l)->eu P (.bH e) F' w v x:=λh=>J1 aS bo rfl h aj ae;cases av with
 | aW b g off=>
  simp only[tw,aq.e3]at h;split at h
  ·rename_i aB;obtain⟨aB,rfl⟩:=aB;obtain⟨p2,ie⟩:=ae;have jE:=aS b;unfold cF at jE;cases bS:(H b).body with
   | gJ t y=>
    rw[bS]at h jE ie;simp only[aq.bM,Option.map_eq_some_iff,Prod.mk.injEq]at h;obtain⟨z,bk,rfl,rfl⟩:=h;obtain⟨eq,rfl⟩:=kN bk;subst eq;obtain rfl:=ie aB.symm rfl;obtain⟨bj,E,U⟩:=jE;exact (dU rfl).2 ⟨rfl,.inr ⟨_,_,bj,rfl,rfl,E.mono bo (c1.refl F w),fe t bo (c1.refl F w) U⟩⟩
   | cells t f=>
    rw[bS]at h jE ie;simp only at h;split at h
    ·rename_i aH;subst aH;simp only[aq.e4,Option.bind_eq_some_iff,aq.bM]at h;obtain⟨⟨y,m,q⟩,E,U⟩:=h;split at U
     ·rename_i br;simp only[Option.some.injEq,Prod.mk.injEq]at U;obtain⟨rfl,rfl⟩:=U;obtain rfl:=ie aB.symm rfl;obtain⟨cs,T,aP,aR,bO⟩:=jE;have iA:ey P H κ F w ((List.range t.size).map f) cs.toList:=BZ (by omega) λi G=>by
       simp_all
      obtain⟨c,d,J2,bE,c2⟩:=gr E (λbe db=>aj be (List.mem_cons_of_mem _ db)) iA;have br:q=[]:=List.isEmpty_iff.1 br;subst br;cases d with
      | cons _ _=>exact c2.elim
      | nil=>
       rw[List.append_nil]at J2;refine (dU rfl).2 ⟨rfl,.inr ⟨_,y,c,rfl,rfl,⟨aj b (by simp) (by rw[bS];rfl),rfl,λj aE=>?_⟩,bE⟩⟩;have fV:j<cs.size:=by grind
       simp only[World.cell?,aP,Nat.zero_add,Option.isSome_none,Bool.false_eq_true,if_false,Array.getElem?_eq_getElem fV];grind
     grind
    ·cases h
   | _=>rw[bS]at h;cases h
  ·cases h
 | _=>exact cm h
theorem J3(aS:∀ b,cF P H κ F w b)(bo:∀ r,F r->F' r):∀ (t:ad) {cs:List aG} {aC:List Value} {x:t.ai} {l:List Nat} {r:List aG},(ib t cs).run H=some (x,l,r)->
  iW H κ F' l->ey P H κ F w cs aC->∃ c d,aC=c++d/\bI P t F' w c x/\ey P H κ F w r d:=by
 have p3:∀ (t:ad) (g:aG->aq (Option (t.ai×List Nat))),t.eE=true->(∀ {av:aG} {v:Value} {x:t.ai} {l:List Nat},(g av).run H=some (x,l)->iW H κ F' l->bB P H κ F w av v->eu P t F' w v x)->
   ∀ {cs:List aG} {aC:List Value} {x:t.ai} {l:List Nat} {r:List aG},(match cs with | c::r=>(g c).map λo=>o.map λ(x,l)=>(x,l,r) | []=>.none:aq (Option (t.ai×List Nat×List aG))).run H=some (x,l,r)->
   iW H κ F' l->ey P H κ F w cs aC->∃ c d,aC=c++d/\bI P t F' w c x/\ey P H κ F w r d:=by
  intro t g aH aB cs aC x l r h aj ba;cases cs with
  | nil=>cases h
  | cons c cs=>
   cases aC with
   | nil=>exact ba.elim
   | cons v aC=>
    simp only[aq.map,aq.run_bind,aq.bM,Option.map_eq_some_iff,Prod.mk.injEq]at h;obtain⟨⟨y,m⟩,bk,rfl,rfl,rfl⟩:=h;refine⟨[v],aC,rfl,?_,ba.2⟩;exact ((dU aH).1 (aB bk aj ba.1.1)).2
 have eM:∀ (t:ad),t.eE=true->∀ {cs:List aG} {aC:List Value} {x:t.ai} {l:List Nat} {r:List aG},(match cs with | c::r=>(dW t c).map λo=>o.map λ(x,l)=>(x,l,r) | []=>.none:aq (Option (t.ai×List Nat×List aG))).run H=some (x,l,r)->
   iW H κ F' l->ey P H κ F w cs aC->∃ c d,aC=c++d/\bI P t F' w c x/\ey P H κ F w r d:=
  λt aH=>p3 t (dW t) aH λh aj ae=>J1 aS bo aH h aj ae
 intro t;induction t with
 | bool=>intro cs aC x l r h aj ba;exact eM _ rfl h aj ba
 | int k=>intro cs aC x l r h aj ba;exact eM (.int k) rfl h aj ba
 | str=>intro cs aC x l r h aj ba;exact eM _ rfl h aj ba
 | cT=>
  intro cs aC x l r h aj ba;simp only[ib,aq.bM,Option.some.injEq,Prod.mk.injEq]at h;obtain⟨_,rfl,rfl⟩:=h;exact⟨[],aC,rfl,rfl,ba⟩
 | st t aJ=>intro cs aC x l r h aj ba;exact aJ h aj ba
 | ay a b fx eJ=>
  intro cs aC x l r h aj ba;simp only[ib,aq.e4,Option.bind_eq_some_iff,aq.bM,Option.some.injEq,Prod.mk.injEq]at h;obtain⟨⟨y,m,q⟩,E,⟨z,dx,q'⟩,U,rfl,rfl,rfl⟩:=h;obtain⟨c,d,rfl,bE,c2⟩:=fx E aj.left ba;obtain⟨c',u7,rfl,d1,d2⟩:=eJ U aj.right c2;exact⟨c++c',u7,by simp,⟨c,c',rfl,bE,d1⟩,d2⟩
 | slice e aJ=>intro cs aC x l r h aj ba;exact eM (.slice e) rfl h aj ba
 | array n e aJ=>
  intro cs aC xs l r h aj ba;simp only[ib]at h;have key:∀ (n:Nat) {cs:List aG} {aC:List Value} {xs:List e.ai} {l:List Nat} {r:List aG},(n.rec (motive:=λ_=>List aG->aq (Option (List e.ai×List Nat×List aG))) (λcs=>.ret (some ([],[],cs)))
     (λ_ aJ cs=>(ib e cs).cQ λ(x,l,r)=>(aJ r).cQ λ(xs,m,q)=>.ret (some (x::xs,l++m,q))) cs).run H=some (xs,l,r)->
    iW H κ F' l->ey P H κ F w cs aC->
    ∃ fo d,aC=List.flatten fo++d/\fo.length=n/\xs.length=n/\(∀ i (h:i<xs.length) (ds:i<fo.length),bI P e F' w fo[i] xs[i])/\ey P H κ F w r d:=by
   intro n;induction n with
   | zero=>
    intro cs aC xs l r h aj ba;cases h;exact⟨[],aC,rfl,rfl,rfl,λi G=>(by simp),ba⟩
   | succ n B0=>
    intro cs aC xs l r h aj ba;simp only[aq.e4,Option.bind_eq_some_iff,aq.bM,Option.some.injEq,Prod.mk.injEq]at h;obtain⟨⟨y,m,q⟩,E,⟨z,dx,q'⟩,U,rfl,rfl,rfl⟩:=h;obtain⟨c,d,rfl,bE,c2⟩:=aJ E aj.left ba;obtain⟨fo,u7,rfl,d1,d2,d3,d4⟩:=B0 U aj.right c2;refine⟨c::fo,u7,by simp,by grind,by grind,λi G dK=>?_,d4⟩;grind
  obtain⟨fo,d,aw,aN,cE,ed,dY⟩:=key n h aj ba;exact⟨fo.flatten,d,aw,⟨fo,rfl,aN,cE,ed⟩,dY⟩
 | bH e aJ=>intro cs aC x l r h aj ba;exact p3 (.bH e) (tw e (ib e)) rfl (λh aj ae=>Rr aS bo aJ h aj ae) h aj ba
 | map k v wT wU=>intro cs aC x l r h aj ba;exact eM (.map k v) rfl h aj ba
 | fn a b fx eJ=>intro cs aC x l r h aj ba;exact eM (.fn a b) rfl h aj ba
 | cr a aJ=>intro cs aC x l r h aj ba;exact eM (.cr a) rfl h aj ba
 | et=>intro cs aC x l r h aj ba;exact eM .et rfl h aj ba
theorem mi(aS:∀ b,cF P H κ F w b)(bo:∀ r,F r->F' r){t:ad}{av:aG}{v:Value}{x:t.ai}{l:List Nat}(h:(dB t av).run H=some (x,l))
  (aj:iW H κ F' l) (ae:bB P H κ F w av v):eu P t F' w v x:=by
 have cm:(kq t av).run H=some (x,l)->eu P t F' w v x:=by
  intro h;unfold kq at h;split at h
  ·exact Rr aS bo (λh aj ba=>J3 aS bo _ h aj ba) h aj ae
  ·split at h
   ·rename_i aH;exact J1 aS bo aH h aj ae
   ·cases h
 cases av with
 | val cX y=>
  simp only[dB,aq.bM,Option.map_eq_some_iff,Prod.mk.injEq]at h;obtain⟨z,bk,rfl,rfl⟩:=h;exact (Fs bk ae).mono bo (c1.refl F w)
 | agg n f=>
  simp only[dB]at h;split at h
  ·cases h
  ·simp only[aq.e4,Option.bind_eq_some_iff,aq.bM]at h;obtain⟨⟨y,m,q⟩,E,U⟩:=h;split at U
   ·rename_i hc;simp only[Bool.and_eq_true,List.isEmpty_iff]at hc;simp only[Option.some.injEq,Prod.mk.injEq]at U;obtain⟨rfl,rfl⟩:=U;obtain⟨aC,rfl,a1,bL⟩:=ae;obtain⟨c,d,rfl,bE,c2⟩:=J3 aS bo t E aj (BZ a1 bL);rw[hc.1]at c2;cases d with
    | cons _ _=>exact c2.elim
    | nil=>
     rw[List.append_nil]at *
     have hlen:=hO t bE;have aD:=hc.2;cases t<;>simp only[ad.isAgg,Bool.false_eq_true]at aD
     ·exact⟨⟨c.toArray,rfl,by simpa [ad.size]using hlen⟩,by simpa [Value.cells]using bE⟩
     ·exact⟨⟨c.toArray,rfl,by simpa [ad.size]using hlen⟩,by simpa [Value.cells]using bE⟩
   grind
 | undef=>exact cm h
 | hB b a=>exact cm h
 | aW b g off=>exact cm h
 | own b g=>exact cm h
 | oh b g i off=>exact cm h
 | iV b g i=>exact cm h
 | dV cX y=>exact cm h
 | fI b g=>exact cm h
 | iy k n c=>exact cm h
 | r2 k n c=>exact cm h
 | pZ n f=>exact cm h
 | cu=>exact cm h
 | jA u=>exact cm h
 | j2 b g=>exact cm h
 | aV l aL L n st=>exact cm h
 | hd l=>exact cm h
 | wY e xs=>exact cm h
 | sub b g aY G=>exact cm h
end
def ad.pure:ad->Bool
 | .bool | .int _ | .str | .cT=>true
 | .st t=>t.pure
 | .ay a b=>a.pure&&b.pure
 | .array _ e=>e.pure
 | _=>false
theorem acY{P:Program}{F F':Nat->Prop}{w w':World}:∀ (t:ad) {cs:List Value} {x:t.ai},t.pure=true->bI P t F w cs x->bI P t F' w' cs x:=by
 intro t;induction t with
 | bool=>intro cs x _ h;exact h
 | int k=>intro cs x _ h;exact h
 | str=>intro cs x _ h;exact h
 | cT=>intro cs x _ h;exact h
 | st t aJ=>intro cs x aH h;exact aJ aH h
 | ay a b fx eJ=>
  intro cs x aH h;simp only[ad.pure,Bool.and_eq_true]at aH;obtain⟨c,d,rfl,ba,W⟩:=h;exact⟨c,d,rfl,fx aH.1 ba,eJ aH.2 W⟩
 | slice e aJ=>intro cs x aH;cases aH
 | array n e aJ=>
  intro cs x aH h;obtain⟨fo,rfl,E,U,ag⟩:=h;exact⟨fo,rfl,E,U,λi G dK=>aJ aH (ag i G dK)⟩
 | bH e aJ=>intro cs x aH;cases aH
 | map k v wT wU=>intro cs x aH;cases aH
 | fn a b fx eJ=>intro cs x aH;cases aH
 | cr a aJ=>intro cs x aH;cases aH
 | et=>intro cs x aH;cases aH
end Go.Fer
namespace Go.Fer
open Go.RowKit
section
variable {P:Program} {F:Nat->Prop} {w:World}
theorem acZ{t:ad}{x y:t.ai}(h:eS t t x=some y):y=x:=by
 obtain⟨e,rfl⟩:=kN h;rfl
theorem Rs:∀ (t:ad) {f:Nat} {cs:List Value} {x:t.ai} {s:ad} {y:s.ai},bI P t F w cs x->u5 t x f=some ⟨s,y⟩->
  ∃ bE c2 c3,cs=bE++(c2++c3)/\bI P s F w c2 y/\mh t f=some (s,bE.length):=by
 have eM:∀ (t:ad),(∀ a b,t≠.ay a b)->t≠.cT->∀ {f:Nat} {cs:List Value} {x:t.ai} {s:ad} {y:s.ai},bI P t F w cs x->u5 t x f=some ⟨s,y⟩->
   ∃ bE c2 c3,cs=bE++(c2++c3)/\bI P s F w c2 y/\mh t f=some (s,bE.length):=by
  intro t E U f cs x s y h ao;cases f with
  | zero=>
   have e:u5 t x 0=some ⟨t,x⟩:=by cases t<;>first | rfl | grind | grind
   have a6:mh t 0=some (t,0):=by cases t<;>first | rfl | grind | grind
   rw[e]at ao;cases ao;exact⟨[],cs,[],by simp,h,a6⟩
  | succ f=>
   have e:u5 t x (f+1)=none:=by cases t<;>first | rfl | grind
   grind
 intro t;induction t with
 | ay a b fx eJ=>
  intro f cs x s y h ao;simp only[bI]at h;obtain⟨c,d,rfl,ba,W⟩:=h;cases f with
  | zero=>
   simp only[u5,Option.some.injEq,Sigma.mk.injEq]at ao;obtain⟨rfl,ao⟩:=ao;cases ao;exact⟨[],c,d,by simp,ba,rfl⟩
  | succ f=>
   obtain⟨bE,c2,c3,rfl,aP,aR⟩:=eJ W ao;refine⟨c++bE,c2,c3,by simp,aP,?_⟩;simp[mh,aR,hO a ba]
 | cT=>intro f cs x s y _ ao;cases f<;>cases ao
 | bool=>grind
 | int k=>grind
 | str=>grind
 | st t _=>grind
 | slice e _=>grind
 | array n e _=>grind
 | bH e _=>grind
 | map k v _ _=>grind
 | fn a b _ _=>grind
 | cr a _=>grind
 | et=>grind
theorem Rt:∀ (t:ad) {off:Nat} {cs:List Value} {x:t.ai} {s:ad} {y:s.ai},bI P t F w cs x->r4 t x off s=some y->
  ∃ bE c2 c3,cs=bE++(c2++c3)/\bE.length=off/\bI P s F w c2 y:=by
 have eM:∀ (t:ad) {off:Nat} {cs:List Value} {x:t.ai} {s:ad} {y:s.ai},bI P t F w cs x->(if off=0 then eS t s x else none)=some y->
   ∃ bE c2 c3,cs=bE++(c2++c3)/\bE.length=off/\bI P s F w c2 y:=by
  intro t off cs x s y h ao;split at ao
  ·rename_i af;exact⟨[],cs,[],by simp,af.symm,tx ao h⟩
  grind
 intro t;induction t with
 | ay a b fx eJ=>
  intro off cs x s y h ao;simp only[bI]at h;obtain⟨c,d,rfl,ba,W⟩:=h;simp only[r4]at ao;split at ao
  ·grind
  ·obtain⟨bE,c2,c3,rfl,aP,aR⟩:=eJ W ao;have:=hO a ba;grind
 | st t aJ=>
  intro off cs x s y h ao;simp only[r4]at ao;split at ao
  ·rename_i af;exact⟨[],cs,[],by simp,af.1.symm,tx ao h⟩
  ·simp only[bI]at h;grind
 | cT=>intro off cs x s y _ ao;cases ao
 | array n e _=>intro off cs x s y _ ao;cases ao
 | bool=>intro off cs x s y h ao;exact eM _ h ao
 | int k=>intro off cs x s y h ao;exact eM (.int k) h ao
 | str=>intro off cs x s y h ao;exact eM _ h ao
 | slice e _=>intro off cs x s y h ao;exact eM (.slice e) h ao
 | bH e _=>intro off cs x s y h ao;exact eM (.bH e) h ao
 | map k v _ _=>intro off cs x s y h ao;exact eM (.map k v) h ao
 | fn a b _ _=>intro off cs x s y h ao;exact eM (.fn a b) h ao
 | cr a _=>intro off cs x s y h ao;exact eM (.cr a) h ao
 | et=>intro off cs x s y h ao;exact eM .et h ao
theorem ac0:∀ (t:ad) {off:Nat} {cs bj:List Value} {x dJ:t.ai} {s:ad} {y:s.ai},bI P t F w cs x->w3 t x off s y=some dJ->bI P s F w bj y->
  ∃ bE c2 c3,cs=bE++(c2++c3)/\bE.length=off/\c2.length=s.size/\bI P t F w (bE++(bj++c3)) dJ:=by
 have eM:∀ (t:ad) {off:Nat} {cs bj:List Value} {x dJ:t.ai} {s:ad} {y:s.ai},bI P t F w cs x->(if off=0 then eS s t y else none)=some dJ->bI P s F w bj y->
   ∃ bE c2 c3,cs=bE++(c2++c3)/\bE.length=off/\c2.length=s.size/\bI P t F w (bE++(bj++c3)) dJ:=by
  intro t off cs bj x dJ s y h ao au;split at ao
  ·rename_i af;obtain⟨e,rfl⟩:=kN ao;subst e;exact⟨[],cs,[],by simp,af.symm,hO s h,by grind⟩
  grind
 intro t;induction t with
 | ay a b fx eJ=>
  intro off cs bj x dJ s y h ao au;simp only[bI]at h;obtain⟨c,d,rfl,ba,W⟩:=h;simp only[w3]at ao;split at ao
  ·simp only[Option.map_eq_some_iff]at ao;obtain⟨z,bk,rfl⟩:=ao;obtain⟨bE,c2,c3,rfl,aP,aR,bO⟩:=fx ba bk au;exact⟨bE,c2,c3++d,by simp,aP,aR,⟨_,d,by simp,bO,W⟩⟩
  ·simp only[Option.map_eq_some_iff]at ao;obtain⟨z,bk,rfl⟩:=ao;obtain⟨bE,c2,c3,rfl,aP,aR,bO⟩:=eJ W bk au;have:=hO a ba;exact⟨c++bE,c2,c3,by simp,by grind,aR,⟨c,_,by simp,ba,bO⟩⟩
 | st t aJ=>
  intro off cs bj x dJ s y h ao au;simp only[w3]at ao;split at ao
  ·rename_i af;obtain⟨af,e⟩:=af;subst e;have:=acZ ao;subst this;exact⟨[],cs,[],by simp,af.symm,hO _ h,by grind⟩
  ·simp only[bI]at h ⊢;grind
 | cT=>intro off cs bj x dJ s y _ ao;cases ao
 | array n e _=>intro off cs bj x dJ s y _ ao;cases ao
 | bool=>intro off cs bj x dJ s y h ao au;exact eM _ h ao au
 | int k=>intro off cs bj x dJ s y h ao au;exact eM (.int k) h ao au
 | str=>intro off cs bj x dJ s y h ao au;exact eM _ h ao au
 | slice e _=>intro off cs bj x dJ s y h ao au;exact eM (.slice e) h ao au
 | bH e _=>intro off cs bj x dJ s y h ao au;exact eM (.bH e) h ao au
 | map k v _ _=>intro off cs bj x dJ s y h ao au;exact eM (.map k v) h ao au
 | fn a b _ _=>intro off cs bj x dJ s y h ao au;exact eM (.fn a b) h ao au
 | cr a _=>intro off cs bj x dJ s y h ao au;exact eM (.cr a) h ao au
 | et=>intro off cs bj x dJ s y h ao au;exact eM .et h ao au
end
def j4:ad->List Value->Option (List Value)
 | .cT,cs=>some cs
 | .st t,cs=>j4 t cs
 | .ay a b,cs=>(j4 a cs).bind (j4 b)
 | .array n e,cs=>n.rec (motive:=λ_=>List Value->Option (List Value)) some (λ_ aJ cs=>(j4 e cs).bind aJ) cs
 | .bool,cs=>match cs with | .bool false::r=>some r | _=>none
 | .int k,cs=>match cs with | .int k' n::r=>if k'=k/\n=0 then some r else none | _=>none
 | .str,cs=>match cs with | .string s::r=>if s.size=0 then some r else none | _=>none
 | .slice _,cs=>match cs with | .slice none 0 0::r=>some r | _=>none
 | .bH _,cs=>match cs with | .pointer none::r=>some r | _=>none
 | .map _ _,cs=>match cs with | .map none::r=>some r | _=>none
 | .fn _ _,cs=>match cs with | .nilFunc::r=>some r | _=>none
 | .cr _,cs=>match cs with | .nilFunc::r=>some r | _=>none
 | .et,cs=>match cs with | .nilFunc::r=>some r | _=>none
theorem Ru(k:IntKind):fU k 0:=by cases k<;>decide
theorem u9{P:Program}{H:Nat->bJ}{κ:Nat->bC}{F:Nat->Prop}{w:World}:∀ (t:ad) {cs r:List Value},j4 t cs=some r->
  ∃ c,cs=c++r/\bI P t F w c t.de/\ey P H κ F w (r3 t) c:=by
 intro t;induction t with
 | cT=>intro cs r h;cases h;exact⟨[],by simp,rfl,trivial⟩
 | st t aJ=>intro cs r h;exact aJ h
 | ay a b fx eJ=>
  intro cs r h;simp only[j4,Option.bind_eq_some_iff]at h;obtain⟨q,E,U⟩:=h;obtain⟨c,rfl,bE,c2⟩:=fx E;obtain⟨d,rfl,d1,d2⟩:=eJ U;exact⟨c++d,by simp,⟨c,d,rfl,bE,d1⟩,c2.append d2⟩
 | array n e aJ=>
  intro cs r h;simp only[j4]at h;have key:∀ (n k:Nat) {cs r:List Value},n.rec (motive:=λ_=>List Value->Option (List Value)) some (λ_ aJ cs=>(j4 e cs).bind aJ) cs=some r->
    ∃ fo:List (List Value),cs=fo.flatten++r/\fo.length=n/\(∀ c∈fo,bI P e F w c e.de)/\ey P H κ F w ((List.range' k n).flatMap λ_=>r3 e) fo.flatten:=by
   intro n;induction n with
   | zero=>intro k cs r h;cases h;exact⟨[],by simp,rfl,by simp,trivial⟩
   | succ n B0=>
    intro k cs r h;simp only[Option.bind_eq_some_iff]at h;obtain⟨q,E,U⟩:=h;obtain⟨c,rfl,bE,c2⟩:=aJ E;obtain⟨fo,rfl,d1,d2,d3⟩:=B0 (k+1) U;refine⟨c::fo,by simp,by grind,?_,?_⟩
    ·grind
    ·simp only[List.range'_succ,List.flatMap_cons,List.flatten_cons];exact c2.append d3
  obtain⟨fo,rfl,E,U,ag⟩:=key n 0 h;refine⟨fo.flatten,rfl,⟨fo,rfl,E,by simp[ad.de],λi G dK=>?_⟩,?_⟩
  ·have:(ad.array n e).de[i]=e.de:=by simp[ad.de]
   grind
  ·simp only[r3,List.range_eq_range'];exact ag
 | bool=>
  intro cs r h;simp only[j4]at h;split at h
  ·cases h;exact⟨[.bool false],rfl,rfl,⟨ff.2 rfl,rfl⟩,trivial⟩
  grind
 | int k=>
  intro cs r h;simp only[j4]at h;split at h
  ·split at h
   ·rename_i al;obtain⟨rfl,rfl⟩:=al;cases h;exact⟨[.int _ 0],rfl,⟨rfl,Ru _⟩,⟨gU.2 ⟨rfl,Ru _⟩,rfl⟩,trivial⟩
   grind
  grind
 | str=>
  intro cs r h;simp only[j4]at h;split at h
  ·rename_i s pY;split at h
   ·rename_i aD;cases h;have:s=⟨([]:List UInt8).toArray⟩:=by
     cases s with | mk d=>simp only[ByteArray.size]at aD;grind
    subst this;exact⟨[.string ⟨([]:List UInt8).toArray⟩],rfl,⟨rfl,by decide⟩,⟨me.2 ⟨rfl,by decide⟩,rfl⟩,trivial⟩
   grind
  grind
 | slice e _=>
  intro cs r h;simp only[j4]at h;split at h
  ·cases h;exact⟨[.slice none 0 0],rfl,⟨none,0,rfl,Nat.le_refl _,by decide,λ_=>rfl,λp an=>by simp⟩,⟨rfl,rfl⟩,trivial⟩
  grind
 | bH e _=>
  intro cs r h;simp only[j4]at h;split at h
  ·cases h;exact⟨[.pointer none],rfl,.inl ⟨rfl,rfl⟩,⟨(dU rfl).2 ⟨rfl,.inl ⟨rfl,rfl⟩⟩,rfl⟩,trivial⟩
  grind
 | map k v _ _=>
  intro cs r h;simp only[j4]at h;split at h
  ·cases h;exact⟨[.map none],rfl,.inl ⟨rfl,rfl⟩,⟨(dU rfl).2 ⟨rfl,.inl ⟨rfl,rfl⟩⟩,rfl⟩,trivial⟩
  grind
 | fn a b _ _=>
  intro cs r h;simp only[j4]at h;split at h
  ·cases h;exact⟨[.nilFunc],rfl,⟨.nilFunc,rfl,⟨rfl,rfl⟩,λF' w' _ _ _ _ args x _ _ aD=>(show False from aD).elim⟩,⟨rfl,rfl⟩,trivial⟩
  grind
 | cr a _=>
  intro cs r h;simp only[j4]at h;split at h
  ·cases h;exact⟨[.nilFunc],rfl,⟨.nilFunc,rfl,⟨rfl,rfl⟩,λF' w' _ _ _ _ aD=>(show ∃ _,False from aD).elim λ_ h=>h.elim⟩,⟨rfl,rfl⟩,trivial⟩
  grind
 | et=>
  intro cs r h;simp only[j4]at h;split at h
  ·cases h;exact⟨[.nilFunc],rfl,rfl,⟨(dU rfl).2 ⟨rfl,rfl⟩,rfl⟩,trivial⟩
  grind
def oi(P:Program)(t:ad)(id:TypeId):Bool:=
 match P.info? id with
 | some i=>i.size == t.size&&decide (i.bytes<=1024)&&(match i.zero with
  | some z=>(match j4 t z.cells.toList with | some []=>true | _=>false)&&(match t,z with
   | .st _,.agg _=>true
   | .array _ _,.agg _=>true
   | .st _,_=>false
   | .array _ _,_=>false
   | _,.agg _=>false
   | _,_=>true)
  | none=>false)
 | none=>false
def cG(P:Program):ad->Sum TypeId (List Field×Nat)->Bool
 | .ay a b, .inr (f :: g :: [], off) => f.offset == off && cG P a (.inl f.type) && a.size != 0 && f.name != "_" && (g.offset == off + a.size && cG P b (.inl g.type) && b.size != 0 && g.name != "_")
 | .ay a b, .inr (f :: g :: h :: eT, off) => f.offset == off && cG P a (.inl f.type) && a.size != 0 && f.name != "_" && cG P b (.inr (g :: h :: eT, off + a.size))
 | .st t,.inl id=>oi P (.st t) id&&!P.stoodInHeld id&&!P.eqGuardType P.depth id&&match P.underlying id with
  | some (.struct eT)=>(match eT.toList with
   | []=>decide (t=.cT)
   | [f] => f.offset == 0 && cG P t (.inl f.type) && t.size != 0 && f.name != "_"
   | l=>cG P t (.inr (l,0)))
  | _=>false
 | .bool,.inl id=>oi P .bool id&&(match P.underlying id with | some .bool=>true | _=>false)
 | .int k,.inl id=>oi P (.int k) id&&(match P.underlying id with | some (.int k')=>decide (k'=k) | _=>false)
 | .str,.inl id=>oi P .str id&&(match P.underlying id with | some .string=>true | _=>false)
 | .slice e,.inl id=>oi P (.slice e) id&&(match P.underlying id with | some (.slice i)=>cG P e (.inl i)&&e.size != 0 | _=>false)
 | .array n e,.inl id=>oi P (.array n e) id&&(match P.underlying id with | some (.array m i)=>decide (m=n)&&cG P e (.inl i)&&e.size != 0 | _=>false)
 | .bH e,.inl id=>oi P (.bH e) id&&(match P.underlying id with | some (.pointer i)=>cG P e (.inl i)&&e.size != 0 | _=>false)
 | .map k v,.inl id=>oi P (.map k v) id&&(match P.underlying id with | some (.map i j)=>cG P k (.inl i)&&cG P v (.inl j) | _=>false)
 | .fn a b,.inl id=>oi P (.fn a b) id&&(match P.underlying id with | some (.func _ _ _)=>true | _=>false)
 | .cr a,.inl id=>oi P (.cr a) id&&(match P.underlying id with | some (.func _ _ _)=>true | _=>false)
 | .et,.inl id=>oi P .et id&&(match P.underlying id with | some (.func _ _ _)=>true | _=>false)
 | _,_=>false
def b9(P:Program)(t:ad)(id:TypeId):Prop:=cG P t (.inl id)=true
theorem b9.kr{P:Program}{t:ad}{id:TypeId}(h:b9 P t id):oi P t id=true:=by
 unfold b9 at h;cases t<;>simp only[cG,Bool.and_eq_true,Bool.false_eq_true]at h<;>first | exact h.1.1.1 | exact h.1
theorem ks{P:Program}{t:ad}{id:TypeId}(h:oi P t id=true):∃ i z,P.info? id=some i/\i.size=t.size/\i.bytes<=1024/\i.zero=some z/\
  j4 t z.cells.toList=some []/\((∃ cs,z=.agg cs)<->t.isAgg=true):=by
 unfold oi at h;split at h
 ·rename_i i G;simp only[Bool.and_eq_true,beq_iff_eq,decide_eq_true_eq]at h;obtain⟨⟨E,U⟩,ag⟩:=h;split at ag
  ·rename_i z bk;simp only[Bool.and_eq_true]at ag;obtain⟨a1,bL⟩:=ag;refine⟨i,z,G,E,U,bk,?_,?_⟩
   ·grind
   ·cases t<;>cases z<;>simp_all[ad.isAgg]
  grind
 grind
end Go.Fer
namespace Go.Fer
open Go.RowKit
structure eB where
 ca:Prop
 c:Prop
 e9:aG
 hD:List (Nat×bJ)
def use:aG->Prop×aG
 | .hB b a=>(b=true,a)
 | a=>(True,a)
def w4:Value->aG
 | .bool b=>.val .bool b
 | .int k n=>if fU k n then .val (.int k) n else .jA (.int k n)
 | .string s=>if s.size<1048576 then .val .str s.data.toList else .jA (.string s)
 | .slice none 0 0=>.cu
 | v=>.jA v
def a7(aO:dF)(s:Nat->aG):Operand->aG
 | .tmp t=>s t
 | .const v=>w4 v
 | .func f=>match aO.tu f with
  | some v=>.val (.fn v.ts v.aV) v.sh
  | none=>.iy f 0 λ_=>.undef
 | .global _=>.undef
structure aK where
 ts:ad
 aV:ad
 pre:ts.ai->Prop
 g:ts.ai->aV.ai
def kt:(t:ad)->t.ai->Nat->aG
 | .ay a _,x,0=>.val a x.1
 | .ay _ b,x,i+1=>kt b x.2 i
 | t,x,0=>.val t x
 | _,_,_+1=>.undef
def j5:ad->Nat
 | .ay _ b=>j5 b+1
 | .cT=>0
 | _=>1
def qQ(t:ad)(x:t.ai):aG:=
 match t with
 | .ay a b=>.pZ (j5 (.ay a b)) (kt (.ay a b) x)
 | .cT=>.jA (.tuple #[])
 | t=>.val t x
def iX:(t:ad)->List aG->aq (Option (t.ai×List Nat))
 | .ay a b,v::aC=>(dB a v).cQ λ(x,l)=>(iX b aC).cQ λ(y,m)=>.ret (some ((x,y),l++m))
 | .ay _ _,[]=>.none
 | .cT,[]=>.ret (some ((),[]))
 | .cT,_::_=>.none
 | t,[v]=>dB t v
 | _,_=>.none
def jF:List Nat->aq (List (Nat×bJ))
 | []=>.ret []
 | b::l=>.eR b λx=>(jF l).bind λr=>match x.body with
  | .bh e xs=>.ret ((b,⟨x.gen,.hC e xs⟩)::r)
  | .mp k v es=>.ret ((b,⟨x.gen,.jh k v es⟩)::r)
  | .cells t f=>(ib t ((List.range t.size).map f)).bind λo=>.ret (match o with
   | some (y,_,[])=>(b,⟨x.gen,.gJ t y⟩)::r
   | _=>r)
  | _=>.ret r
def cellsOf(t:ad)(av:aG):Option (List aG):=
 match t,av with
 | .st t,.val (.st cX) x=>if cX=t then some (nH cX x) else none
 | .st t,.agg n f=>if n=t.size then some ((List.range n).map f) else none
 | .array n e,.val (.array iY a6) x=>if iY=n/\a6=e then some (nH (.array iY a6) x) else none
 | .array n e,.agg m f=>if m=n*e.size then some ((List.range m).map f) else none
 | t,av=>if t.eE then (match av with
  | .val cX _=>if cX.eE then some [av] else none
  | .aW _ _ _ | .own _ _ | .oh _ _ _ _ | .dV _ _ | .fI _ _ | .iy _ _ _ | .cu | .sub _ _ _ _=>some [av]
  | .jA (.agg _) | .jA (.tuple _)=>none
  | .jA _=>some [av]
  | _=>none) else none
def aG.mj:aG->Option (IntKind×Int)
 | .val (.int k) x=>some (k,x)
 | _=>none
def aG.tz:aG->Option (List UInt8)
 | .val .str x=>some x
 | _=>none
def y8(op:BinOp)(k:IntKind)(a b:Int):Option (Prop×aG):=
 match op with
 | .add=>some (True,.val (.int k) (k.wrap (a+b)))
 | .sub=>some (True,.val (.int k) (k.wrap (a - b)))
 | .mul=>some (True,.val (.int k) (k.wrap (a*b)))
 | .quo=>some (b≠0,.val (.int k) (k.wrap (a.tdiv b)))
 | .rem=>some (b≠0,.val (.int k) (a.tmod b))
 | .and=>some (True,.val (.int k) (lM k a b))
 | .or=>some (True,.val (.int k) (Rm k a b))
 | .xor=>some (True,.val (.int k) (Rn k a b))
 | .andNot=>some (True,.val (.int k) (Ro k a b))
 | .eql=>some (True,.val .bool (decide (a=b)))
 | .neq=>some (True,.val .bool (decide (a≠b)))
 | .lss=>some (True,.val .bool (decide (a<b)))
 | .leq=>some (True,.val .bool (decide (a<=b)))
 | .gtr=>some (True,.val .bool (decide (a > b)))
 | .geq=>some (True,.val .bool (decide (a>=b)))
 | _=>none
def J4(op:BinOp)(k:IntKind)(a b:Int):Option (Prop×aG):=
 match op with
 | .shl=>some (0<=b,.val (.int k) (acW k a b))
 | .shr=>some (0<=b,.val (.int k) (ji k a b))
 | _=>none
def B1(op:BinOp)(a b:List UInt8):Option (Prop×aG):=
 match op with
 | .add=>some (bP (a.length+b.length),.val .str (a++b))
 | .eql=>some (True,.val .bool (decide (a=b)))
 | .neq=>some (True,.val .bool (decide (a≠b)))
 | .lss=>some (True,.val .bool (Op.bytesLess a b))
 | .geq=>some (True,.val .bool (!Op.bytesLess a b))
 | _=>none
def ad.j6:ad->Nat
 | .st t=>t.j6+1
 | .ay a b=>max a.j6 b.j6
 | _=>1
def y9(op:BinOp)(t:ad)(x y:aG):aq (Option (Prop×aG)):=
 (match t,x,y with
 | .bH _,.val (.bH _) p,.jA (.pointer none)=>.ret (some p.isNone)
 | .bH _,.dV _ _,.jA (.pointer none)=>.ret (some false)
 | .bH _,.aW b g _,.jA (.pointer none)=>.eR b λz=>.ret (if z.gen=g&&z.body.fJ then some false else none)
 | t,x,y=>if t.kP&&decide (t.j6<=100) then (dB t x).cQ λ(a,_)=>(dB t y).cQ λ(b,_)=>.ret (some (gK t a b)) else .none:aq (Option Bool)).cQ λe=>
 .ret (match op with
  | .eql=>some (True,.val .bool e)
  | .neq=>some (True,.val .bool (!e))
  | _=>none)
def bN(ca c:Prop)(v:aG):aq (Option eB):=.ret (some ⟨ca,c,v,[]⟩)
def Fu(t:ad)(av:aG):aq (Option (Prop×Int)):=
 match t with
 | .slice _=>match av with
  | .val (.slice _) xs=>.ret (some (True,xs.length))
  | .cu=>.ret (some (True,0))
  | .own b g=>.eR b λx=>.ret (if x.gen=g&&x.body.fg then some (True,x.body.len) else none)
  | .sub b g aY G=>.eR b λx=>.ret (if x.gen=g&&x.body.fg then some (True,((G - aY:Nat):Int)) else none)
  | _=>.none
 | .str=>match av with
  | .val .str xs=>.ret (some (True,xs.length))
  | _=>.none
 | .map _ _=>match av with
  | .val (.map _ _) xs=>.ret (some (bP xs.length,xs.length))
  | .fI b g=>.eR b λx=>.ret (if x.gen=g then (match x.body with | .mp _ _ es=>some (bP es.length,(es.length:Int)) | .jh _ _ es=>some (bP es.length,(es.length:Int)) | _=>none) else none)
  | _=>.none
 | _=>.none
def y_(t:ad):aG->aq (Option aG)
 | .dV cX x=>.ret (if cX=t/\(t.eE||t.isAgg)=true then some (.val cX x) else none)
 | .aW b g off=>.eR b λx=>.ret (if x.gen=g then (match x.body with
   | .cells t0 f=>if t.eE then (if off<t0.size then some (f off) else none) else if t.isAgg then (if off+t.size<=t0.size then some (.agg t.size λi=>f (off+i)) else none) else none
   | .gJ t0 y=>if t.eE||t.isAgg then (r4 t0 y off t).map (.val t) else none
   | _=>none) else none)
 | .oh b g i off=>.eR b λx=>.ret (if x.gen=g then (match x.body with
   | .bh e xs=>if t.eE||t.isAgg then (r4 e (xs.getD i e.de) off t).map (.val t) else none
   | .hC e xs=>if t.eE||t.isAgg then (r4 e (xs.getD i e.de) off t).map (.val t) else none
   | _=>none) else none)
 | _=>.none
def putCells(f:Nat->aG)(off:Nat)(l:List aG):Nat->aG:=λi=>if off<=i/\i<off+l.length then l.getD (i - off) .undef else f i
def Rv(t:ad)(p v:aG):aq (Option (List (Nat×bJ))):=
 match p with
 | .aW b g off=>.eR b λx=>.ret (if x.gen=g then (match x.body with
   | .cells t0 f=>(cellsOf t v).bind λl=>if off+l.length<=t0.size/\l.length=t.size then some [(b,⟨x.gen,.cells t0 (putCells f off l)⟩)] else none
   | _=>none) else none)
 | .oh b g i off=>(dB t v).cQ λ(y,l)=>(jF l).bind λwl=>.eR b λx=>.ret (if x.gen=g/\!l.contains b then (match x.body with
   | .bh e xs=>(w3 e (xs.getD i e.de) off t y).map λz=>wl++[(b,⟨x.gen,.bh e (xs.set i z)⟩)]
   | _=>none) else none)
 | _=>.none
def Rw(bG:ad)(x:aG)(i:Int):aq (Option (Prop×aG)):=
 match x with
 | .val (.slice e) xs=>.ret (if e=bG then some (0<=i/\i<(xs.length:Int),.dV e (kO e xs i)) else none)
 | .own b g=>.eR b λz=>.ret (if z.gen=g then (match z.body with
   | .bh e xs=>if e=bG then some (0<=i/\i<(xs.length:Int),.oh b g i.toNat 0) else none
   | .hC e xs=>if e=bG then some (0<=i/\i<(xs.length:Int),.dV e (kO e xs i)) else none
   | _=>none) else none)
 | .sub b g aY G=>.eR b λz=>.ret (if z.gen=g then (match z.body with
   | .bh e _=>if e=bG then some (0<=i/\i<((G - aY:Nat):Int),.oh b g (aY+i.toNat) 0) else none
   | .hC e xs=>if e=bG then some (0<=i/\i<((G - aY:Nat):Int),.dV e (kO e xs ((aY:Int)+i))) else none
   | _=>none) else none)
 | .cu=>.ret (some (False,.dV bG bG.de))
 | _=>.none
def dr:Option Int->Int | some l=>l | none=>0
def fz(n:Nat):Option Int->Int | some h=>h | none=>n
def B2(aY G:Option Int)(n m:Nat):Nat:=match aY,G with | some _,some _=>m | _,_=>n
def Rx(bG:ad)(x:aG)(aY G:Option Int):aq (Option (Prop×aG)):=
 match x with
 | .val (.slice e) xs=>.ret (if e=bG then some (0<=dr aY/\dr aY<=fz xs.length G/\fz xs.length G<=(xs.length:Int),.val (.slice e) ((xs.take (fz xs.length G).toNat).drop (dr aY).toNat)) else none)
 | .cu=>.ret (some (0<=dr aY/\dr aY<=fz 0 G/\fz 0 G<=0,.cu))
 | .own b g=>.eR b λz=>.ret (if z.gen=g&&z.body.fg&&z.body.e2 == bG.size then some (0<=dr aY/\dr aY<=fz z.body.len G/\fz z.body.len G<=(z.body.len:Int),.sub b g (dr aY).toNat (fz z.body.len G).toNat) else none)
 | .sub b g fh aX=>.eR b λz=>.ret (if z.gen=g&&z.body.fg&&z.body.e2 == bG.size then some (0<=dr aY/\dr aY<=fz (aX - fh) G/\fz (aX - fh) G<=((B2 aY G (aX - fh) (z.body.len - fh):Nat):Int),.sub b g (fh+(dr aY).toNat) (fh+(fz (aX - fh) G).toNat)) else none)
 | _=>.none
def Ry(x:aG)(aY G:Option Int):Option (Prop×aG):=
 match x with
 | .val .str xs=>some (0<=dr aY/\dr aY<=fz xs.length G/\fz xs.length G<=(xs.length:Int),.val .str ((xs.take (fz xs.length G).toNat).drop (dr aY).toNat))
 | _=>none
def h3(d:Option Nat)(k:Nat->Nat->Option eB):aq (Option eB):=
 match d with
 | none=>.none
 | some d=>.eR d λx=>.ret (k d (x.gen+1))
def J5(d:Option Nat)(e:ad)(x y:aG)(ca:Prop):aq (Option eB):=
 match x with
 | .own b g=>.eR b λz=>match (if z.gen=g then z.body else .fy) with
  | .bh a6 xs=>if h:a6=e then (dB (.slice e) y).cQ λ(ys,_)=>.ret (some ⟨ca,bP (xs.length+ys.length),.own b (g+1),[(b,⟨g+1,.bh e ((h ▸ xs)++ys)⟩)]⟩) else .none
  | _=>.none
 | .sub b g aY G=>.eR b λz=>match (if z.gen=g then z.body else .fy) with
  | .bh a6 xs=>if h:a6=e then (dB (.slice e) y).cQ λ(ys,_)=>.ret (some ⟨ca,bP (((xs.take G).drop aY).length+ys.length),.own b (g+2),[(b,⟨g+2,.bh e ((h ▸ (xs.take G).drop aY)++ys)⟩)]⟩) else .none
  | _=>.none
 | .cu=>(dB (.slice e) y).cQ λ(ys,_)=>h3 d λb g=>some ⟨ca,bP ys.length,.own b g,[(b,⟨g,.bh e ys⟩)]⟩
 | .wY a6 xs=>if h:a6=e then (dB (.slice e) y).cQ λ(ys,_)=>h3 d λb g=>some ⟨ca,0<ys.length/\bP (xs.length+ys.length),.own b g,[(b,⟨g,.bh e ((h ▸ xs)++ys)⟩)]⟩ else .none
 | _=>.none
def Fv(t:ad):List aG->List (Nat×aG)->Option (List aG)
 | cs,[]=>some cs
 | cs,(i,av)::r=>
  match mh t i with
  | none=>none
  | some (s,off)=>match cellsOf s av with
   | none=>none
   | some l=>if l.length=s.size/\off+s.size<=cs.length then Fv t (cs.take off++(l++cs.drop (off+s.size))) r else none
def tA(e:ad)(ps:List (Nat×aG)):Nat->Nat->aq (Option (List e.ai×List Nat))
 | _,0=>.ret (some ([],[]))
 | i,n+1=>(match ps.find? (λp=>p.1 == i) with
   | some p=>dB e p.2
   | none=>.ret (some (e.de,[])):aq (Option (e.ai×List Nat))).cQ λ(x,l)=>(tA e ps (i+1) n).cQ λ(xs,m)=>.ret (some (x::xs,l++m))
def r5(ps:List (Nat×aG)):Prop:=ps.foldr (λp q=>match p.2 with | .hB b _=>b=true/\q | _=>q) True
def iB(ps:List (Nat×aG)):List (Nat×aG):=ps.map λp=>(p.1,(use p.2).2)
def jG(ps:List aG):Prop:=ps.foldr (λp q=>match p with | .hB b _=>b=true/\q | _=>q) True
def ld(aI:Operand->aG):Option Operand->Option (Prop×Option Int)
 | none=>some (True,none)
 | some x=>match use (aI x) with
  | (o,.val (.int _) n)=>some (o,some n)
  | _=>none
def Fw(T:Nat->ad)(aI:Operand->aG)(ty:TypeId)(x:Operand)(aY G:Option Operand):aq (Option eB):=
 let (cD,dZ):=use (aI x)
 match ld aI aY,ld aI G with
 | some (ol,l),some (qR,h)=>match T ty with
  | .slice e=>(Rx e dZ l h).cQ λ(c,v)=>bN (cD/\(ol/\qR)) c v
  | .str=>match Ry dZ l h with
   | some (c,v)=>bN (cD/\(ol/\qR)) c v
   | none=>.none
  | _=>.none
 | _,_=>.none
def Rz(bG:ad)(x:aG)(aY G:Option Int)(m:Int):aq (Option (Prop×aG)):=
 match x with
 | .val (.slice e) xs=>.ret (if e=bG then some (0<=dr aY/\dr aY<=fz xs.length G/\fz xs.length G=m/\m<=(xs.length:Int),.wY e ((xs.take m.toNat).drop (dr aY).toNat)) else none)
 | .cu=>.ret (some (dr aY=0/\fz 0 G=0/\m=0,.wY bG []))
 | .own b g=>.eR b λz=>.ret (if z.gen=g&&z.body.fg then some (0<=dr aY/\dr aY<=fz z.body.len G/\fz z.body.len G<=m/\m<=(z.body.len:Int),.undef) else none)
 | _=>.none
def Fx(T:Nat->ad)(aI:Operand->aG)(ty:TypeId)(x:Operand)(aY G o7:Option Operand):aq (Option eB):=
 let (cD,dZ):=use (aI x)
 match ld aI aY,ld aI G,ld aI o7 with
 | some (ol,l),some (qR,some h),some (u_,some m)=>match T ty with
  | .slice e=>(Rz e dZ l (some h) m).cQ λ(c,v)=>bN (cD/\(ol/\(qR/\u_))) c v
  | _=>.none
 | _,_,_=>.none
def B3(T:Nat->ad)(aI:Operand->aG)(args:List Operand)(dn:List TypeId):aq (Option eB):=
 match args,dn with
 | [x],[t]=>let (cD,dZ):=use (aI x);(Fu (T t) dZ).cQ λ(c,n)=>bN cD c (.val (.int .i64) n)
 | _,_=>.none
def B4(T:Nat->ad)(aI:Operand->aG)(d:Option Nat)(args:List Operand)(dn:List TypeId):aq (Option eB):=
 match args,dn with
 | [x,y],[t,u]=>match T t,T u with
  | .slice e,.slice _=>let (cD,dZ):=use (aI x);let (nI,ku):=use (aI y);J5 d e dZ ku (cD/\nI)
  | _,_=>.none
 | _,_=>.none
def mM(aI:Operand->aG)(k:IntKind):List Operand->Option (Prop×z1')
 | []=>none
 | [x]=>match (use (aI x)).2.mj with
  | some (k',n)=>if k'=k then some ((use (aI x)).1,[n]) else none
  | none=>none
 | x::l=>match (use (aI x)).2.mj,mM aI k l with
  | some (k',n),some (ca,h4)=>if k'=k then some ((use (aI x)).1/\ca,n::h4) else none
  | _,_=>none
def r6(aI:Operand->aG)(f:Int->Int->Int)(args:List Operand):aq (Option eB):=
 match args with
 | x::y::l=>match (use (aI x)).2.mj with
  | some (k,a)=>match mM aI k (y::l) with
   | some (ca,h4)=>bN ((use (aI x)).1/\ca) True (.val (.int k) (h4.foldl f a))
   | none=>.none
  | none=>.none
 | _=>.none
def B5(T:Nat->ad)(aI:Operand->aG)(args:List Operand)(dn:List TypeId):aq (Option eB):=
 match args,dn with
 | [x],[t]=>match T t,use (aI x) with
  | .slice _,(cD,.cu)=>bN cD True (.val (.int .i64) 0)
  | _,_=>.none
 | _,_=>.none
def nJ(t:ad):Bool:=match t with | .ay (.slice _) .cT=>true | _=>false
def B6(t:ad)(y:t.ai):Option ((e:ad)×List e.ai):=match t,y with | .ay (.slice e) .cT,y=>some ⟨e,y.1⟩ | _,_=>none
def Fy(bf:Nat->Option aK)(aI:Operand->aG)(d:Option Nat)(k:Nat)(args:List Operand):aq (Option eB):=
 let l:=args.map aI
 match bf k with
 | some c=>(iX c.ts (l.map λv=>(use v).2)).cQ λ(x,bU)=>match B6 c.aV (c.g x) with
  | some y=>(jF bU).bind λwl=>h3 d λb g=>if bU.contains b then none else some ⟨jG l,c.pre x,.own b g,wl++[(b,⟨g,.bh y.1 y.2⟩)]⟩
  | none=>(if c.aV.pure then .ret [] else jF bU:aq (List (Nat×bJ))).bind λwl=>.ret (some ⟨jG l,c.pre x,qQ c.aV (c.g x),wl⟩)
 | none=>.none
def y'{k v:ad}(es:List (k.ai×v.ai))(x:k.ai):Option v.ai:=(es.find? λp=>gK k x p.1).map (·.2)
def lN{k v:ad}:List (k.ai×v.ai)->k.ai->v.ai->List (k.ai×v.ai)
 | [],x,y=>[(x,y)]
 | p::es,x,y=>if gK k x p.1=true then (p.1,y)::es else p::lN es x y
def tB(k:ad):Bool:=k.kP&&decide (k.j6<=100)
def B7(k v:ad)(m:aG):aq (Option (List (k.ai×v.ai))):=
 match m with
 | .val t es=>.ret (eS t (.map k v) es)
 | .jA (.map none)=>.ret (some [])
 | .fI b g=>.eR b λx=>.ret (if x.gen=g then (match x.body with
   | .mp k' h2 es=>eS (.map k' h2) (.map k v) es
   | .jh k' h2 es=>eS (.map k' h2) (.map k v) es
   | _=>none) else none)
 | _=>.none
def RA(v:ad)(r:Option v.ai)(ok:Bool):aG:=
 match ok with
 | true=>.pZ 2 (hg [.val v (r.getD v.de),.val .bool r.isSome])
 | false=>.val v (r.getD v.de)
def za(T:Nat->ad)(aI:Operand->aG)(ty:TypeId)(m x:Operand)(ok:Bool):aq (Option eB):=
 match T ty with
 | .map k v=>let (u_,J6):=use (aI m);let (cD,dZ):=use (aI x);if tB k&&(v.eE||v.isAgg) then
   (B7 k v J6).cQ λes=>(dB k dZ).cQ λ(y,_)=>
    bN (u_/\cD) True (RA v (y' es y) ok)
  else .none
 | _=>.none
def qS(T:Nat->ad)(aI:Operand->aG)(ty:TypeId)(m x y:Operand):aq (Option eB):=
 match T ty with
 | .map k v=>let (u_,J6):=use (aI m);let (cD,dZ):=use (aI x);let (nI,ku):=use (aI y);if tB k then
   match J6 with
   | .fI b g=>(dB k dZ).cQ λ(x,oj)=>(dB v ku).cQ λ(y,om)=>(jF (oj++om)).bind λwl=>.eR b λz=>.ret (if z.gen=g/\!(oj++om).contains b then (match z.body with
     | .mp k' h2 es=>(eS (.map k' h2) (.map k v) es).map λes=>⟨u_/\cD/\nI,True,.undef,wl++[(b,⟨z.gen,.mp k v (lN es x y)⟩)]⟩
     | _=>none) else none)
   | _=>.none
  else .none
 | _=>.none
def Fz(T:Nat->ad)(aI:Operand->aG)(d:Option Nat)(ty:TypeId)(l c:Operand):aq (Option eB):=
 match T ty with
 | .slice e=>let (ol,ac1):=use (aI l);let (p4,ac2):=use (aI c);match ac1.mj,ac2.mj with
  | some (.i64,n),some (.i64,m)=>h3 d λb g=>some ⟨ol/\p4,0<=n/\n=m/\bP n.toNat,.own b g,[(b,⟨g,.bh e (List.replicate n.toNat e.de)⟩)]⟩
  | _,_=>.none
 | _=>.none
def gl{ak:Type}(xs:List ak)(aY:Nat)(ys:List ak):List ak:=xs.take aY++ys++xs.drop (aY+ys.length)
def FA(T:Nat->ad)(aI:Operand->aG)(args:List Operand)(dn:List TypeId):aq (Option eB):=
 match args,dn with
 | [x,y],[t,u]=>match T t,T u with
  | .slice e,.slice _=>let (cD,dZ):=use (aI x);let (nI,ku):=use (aI y);match (match dZ with | .own b g=>some (b,g,0,none) | .sub b g aY G=>some (b,g,aY,some G) | _=>none:Option (Nat×Nat×Nat×Option Nat)) with
   | some (b,g,aY,G)=>(dB (.slice e) ku).cQ λ(ys,_)=>.eR b λz=>.ret (if z.gen=g then (match z.body with
     | .bh a6 xs=>if h:a6=e then some ⟨cD/\nI,True,.val (.int .i64) ((min (G.getD xs.length - aY) ys.length:Nat):Int),[(b,⟨z.gen,.bh e (gl (h ▸ xs) aY (ys.take (G.getD xs.length - aY)))⟩)]⟩ else none
     | _=>none) else none)
   | none=>.none
  | _,_=>.none
 | _,_=>.none
def w5(aI:Operand->aG)(args:List Operand):Option (Nat×Nat×Nat×Nat):=
 match args with
 | [x,y]=>match (use (aI x)).2,(use (aI y)).2 with
  | .sub b g aY G,.sub be g' _ _=>if be=b/\g'=g then some (b,g,aY,G) else none
  | _,_=>none
 | _=>none
def B8(T:Nat->ad)(aI:Operand->aG)(args:List Operand)(dn:List TypeId)(b g aY G:Nat):aq (Option eB):=
 match args,dn with
 | [x,y],[t,u]=>match T t,T u with
  | .slice e,.slice _=>let (cD,_):=use (aI x);let (nI,ku):=use (aI y);(dB (.slice e) ku).cQ λ(ys,_)=>.eR b λz=>.ret (if z.gen=g then (match z.body with
    | .bh a6 xs=>if h:a6=e then some ⟨cD/\nI,G+ys.length<=xs.length,.sub b g aY (G+ys.length),[(b,⟨z.gen,.bh e (gl (h ▸ xs) G ys)⟩)]⟩ else none
    | _=>none) else none)
  | _,_=>.none
 | _,_=>.none
def B9(T:Nat->ad)(aI:Operand->aG)(args:List Operand)(dn:List TypeId):aq (Option eB):=
 match args,dn with
 | [x],[t]=>match T t with
  | .slice e=>let (cD,dZ):=use (aI x);match dZ with
   | .sub b g aY G=>.eR b λz=>.ret (if z.gen=g then (match z.body with
     | .bh a6 xs=>if h:a6=e then some ⟨cD,True,.undef,[(b,⟨z.gen,.bh e (gl (h ▸ xs) aY (List.replicate (G - aY) e.de))⟩)]⟩ else none
     | _=>none) else none)
   | _=>.none
  | _=>.none
 | _,_=>.none
def mN(T:Nat->ad)(bf:Nat->Option aK)(aI:Operand->aG)(d:Option Nat)(c:Call):aq (Option eB):=
 match c.callee with
 | .builtin b=>match b with
  | .len=>B3 T aI c.args.toList c.argTypes.toList
  | .append=>match w5 aI c.args.toList with
   | some (b,g,aY,G)=>B8 T aI c.args.toList c.argTypes.toList b g aY G
   | none=>B4 T aI d c.args.toList c.argTypes.toList
  | .clear=>B9 T aI c.args.toList c.argTypes.toList
  | .copy=>FA T aI c.args.toList c.argTypes.toList
  | .min=>r6 aI (λa b=>if b<a then b else a) c.args.toList
  | .max=>r6 aI (λa b=>if b > a then b else a) c.args.toList
  | .cap=>B5 T aI c.args.toList c.argTypes.toList
  | _=>.none
 | .value f=>match f with
  | .func k=>Fy bf aI d k c.args.toList
  | _=>.none
 | _=>.none
def u'(ys:z1'):List UInt8:=ys.map λn=>UInt8.ofNat n.toNat
def RB(t:ad)(ca:Prop)(b g i:Nat):aq (Option eB):=
 .eR b λz=>.ret (match z.body with
  | .gn _ _ lf v=>if z.gen=g/\t.eE=true then some ⟨ca,i=lf,v,[]⟩ else none
  | _=>none)
def J7(t:ad)(ca:Prop)(b g i:Nat)(v:aG):aq (Option eB):=
 match v with
 | .own be g'=>.eR b λz=>.ret (match z.body with
  | .gn e xs lf _=>if z.gen=g/\t.eE=true then some ⟨ca,i=lf,.undef,[(b,⟨z.gen,.gn e xs lf (.own be g')⟩)]⟩ else none
  | _=>none)
 | _=>.none
def bw(aO:dF)(T:Nat->ad)(bf:Nat->Option aK)(aI:Operand->aG)(o:Oper):aq (Option eB):=
 match o.op with
 | .move x=>bN True True (aI x)
 | .assign x=>match aI x,T o.type with
  | .cu,.slice e=>h3 o.dst λb g=>some ⟨True,True,.own b g,[(b,⟨g,.bh e []⟩)]⟩
  | v,_=>bN True True v
 | .pick c a b=>match use (aI c) with
  | (p4,.val .bool iZ)=>match a,b with
   | _,.const (.bool false)=>match use (aI a) with
    | (zb,.val .bool av)=>bN (p4/\(iZ=true->zb)) True (.val .bool (iZ&&av))
    | _=>.none
   | .const (.bool true),_=>match use (aI b) with
    | (ca,.val .bool bv)=>bN (p4/\(iZ=false->ca)) True (.val .bool (iZ||bv))
    | _=>.none
   | _,_=>.none
  | _=>.none
 | .binOp op ty x y _=>
  let (cD,dZ):=use (aI x)
  let (nI,ku):=use (aI y)
  match dZ.mj,ku.mj with
  | some (k,a),some (k',b)=>(match op with
   | .shl | .shr=>match J4 op k a b with
    | some (c,v)=>bN (cD/\nI) c v
    | none=>.none
   | _=>if k=k' then (match y8 op k a b with
    | some (c,v)=>bN (cD/\nI) c v
    | none=>.none) else .none)
  | _,_=>match dZ.tz,ku.tz with
   | some a,some b=>match B1 op a b with
    | some (c,v)=>bN (cD/\nI) c v
    | none=>.none
   | _,_=>(y9 op (T ty) dZ ku).cQ λ(c,v)=>bN (cD/\nI) c v
 | .unOp op _ x=>match op,use (aI x) with
  | .not,(cD,.val .bool b)=>bN cD True (.val .bool (!b))
  | .neg,(cD,.val (.int k) n)=>bN cD True (.val (.int k) (k.wrap (0 - n)))
  | _,_=>.none
 | .extract x i=>match use (aI x) with
  | (cD,.pZ n f)=>if i<n then bN cD True (f i) else .none
  | _=>.none
 | .nilCheck x=>match use (aI x) with
  | (cD,.iV b g i)=>.eR b λz=>.ret (if z.gen=g&&z.body.fg then some ⟨cD,True,.iV b g i,[]⟩ else none)
  | (cD,.dV t d)=>bN cD True (.dV t d)
  | (cD,.val (.bH e) p)=>bN cD (p.isSome=true) (.dV e (p.getD e.de))
  | (cD,.aW b g off)=>.eR b λz=>.ret (if z.gen=g&&z.body.fJ then some ⟨cD,True,.aW b g off,[]⟩ else none)
  | _=>.none
 | .fieldAddr ty x f=>match T ty with
  | .st t=>match mh t f with
   | some (_,w6)=>match use (aI x) with
    | (cD,.aW b g off)=>.eR b λz=>.ret (if z.gen=g&&z.body.fJ then some ⟨cD,True,.aW b g (off+w6),[]⟩ else none)
    | (cD,.oh b g i off)=>.eR b λz=>.ret (if z.gen=g&&z.body.fg then some ⟨cD,True,.oh b g i (off+w6),[]⟩ else none)
    | (cD,.iV b g i)=>.eR b λz=>.ret (if z.gen=g&&z.body.fg&&w6 == 0 then some ⟨cD,True,.iV b g i,[]⟩ else none)
    | (cD,.dV (.st cX) d)=>if cX=t then (match u5 cX d f with
     | some ⟨s',y⟩=>bN cD True (.dV s' y)
     | none=>.none) else .none
    | _=>.none
   | none=>.none
  | _=>.none
 | .field ty x f=>match T ty with
  | .st t=>match use (aI x) with
   | (cD,.val (.st cX) d)=>if cX=t then (match u5 cX d f with
     | some ⟨s',y⟩=>bN cD True (.val s' y)
     | none=>.none) else .none
   | _=>.none
  | _=>.none
 | .load ty x=>match use (aI x) with
  | (cD,.iV b g i)=>RB (T ty) cD b g i
  | (cD,dZ)=>(y_ (T ty) dZ).cQ λv=>bN cD True v
 | .store ty x y=>let (nI,ku):=use (aI y);match use (aI x) with
  | (cD,.iV b g i)=>J7 (T ty) (cD/\nI) b g i ku
  | (cD,dZ)=>(Rv (T ty) dZ ku).cQ λwl=>.ret (some ⟨cD/\nI,True,.undef,wl⟩)
 | .alloc ty=>h3 o.dst λb g=>if T ty=.cT then none else some ⟨True,True,.aW b g 0,[(b,⟨g,.cells (T ty) (hg (r3 (T ty)))⟩)]⟩
 | .box ty x=>let (cD,dZ):=use (aI x);match cellsOf (T ty) dZ with
  | some l=>h3 o.dst λb g=>if l.length=(T ty).size then some ⟨cD,True,.aW b g 0,[(b,⟨g,.cells (T ty) (hg l)⟩)]⟩ else none
  | none=>.none
 | .build ty ps=>let l:=ps.toList.map λp=>(p.1,aI p.2);match T ty with
  | .st t=>match Fv t (r3 t) (iB l) with
   | some cs=>bN (r5 l) True (.agg cs.length (hg cs))
   | none=>.none
  | .array m e=>(tA e (iB l) 0 m).cQ λ(xs,bU)=>if (bU.isEmpty&&decide ((iB l).map (·.1)).Nodup&&(iB l).all (λp=>decide (p.1<m)))=true then bN (r5 l) True (.val (.array m e) xs) else .none
  | _=>.none
 | .buildSlice ty n ps=>let l:=ps.toList.map λp=>(p.1,aI p.2);match T ty with
  | .slice e=>(tA e (iB l) 0 n).cQ λ(xs,bU)=>(jF bU).bind λwl=>h3 o.dst λb g=>if n*e.size<=65536/\(!bU.contains b&&decide ((iB l).map (·.1)).Nodup&&(iB l).all (λp=>decide (p.1<n)))=true then some ⟨r5 l,True,.own b g,wl++[(b,⟨g,.bh e xs⟩)]⟩ else none
  | _=>.none
 | .indexAddr ty x i=>let (cD,dZ):=use (aI x);let (w7,J8):=use (aI i);match T ty,J8.mj with
  | .slice e,some (_,n)=>(Rw e dZ n).cQ λ(c,v)=>bN (cD/\w7) c v
  | .array m e,some (_,n)=>match dZ with
   | .dV (.array dx a6) xs=>if dx=m/\a6=e then bN (cD/\w7) (0<=n/\n<(m:Int)) (.dV a6 (kO a6 xs n)) else .none
   | .aW b g off=>.eR b λz=>.ret (if z.gen=g&&z.body.fJ then some ⟨cD/\w7,0<=n/\n<(m:Int),.aW b g (off+n.toNat*e.size),[]⟩ else none)
   | _=>.none
  | _,_=>.none
 | .index ty x i=>let (cD,dZ):=use (aI x);let (w7,J8):=use (aI i);match T ty,dZ.tz,J8.mj with
  | .str,some s,some (_,n)=>bN (cD/\w7) (0<=n/\n<(s.length:Int)) (.val (.int .u8) ((s.getD n.toNat 0).toNat:Int))
  | .array m e,_,some (_,n)=>match dZ with
   | .val (.array dx a6) xs=>if dx=m/\a6=e then bN (cD/\w7) (0<=n/\n<(m:Int)) (.val a6 (kO a6 xs n)) else .none
   | .agg k f=>if k=m*e.size then bN (cD/\w7) (0<=n/\n<(m:Int)) (if e.isAgg=true then .agg e.size (λq=>f (n.toNat*e.size+q)) else f (n.toNat*e.size)) else .none
   | _=>.none
  | _,_,_=>.none
 | .convert a b x=>let (cD,dZ):=use (aI x);match T a,T b,dZ.mj with
  | .int _,.int k,some (_,n)=>bN cD True (.val (.int k) (k.wrap n))
  | .slice (.int .u8),.str,_=>(dB (.slice (.int .u8)) dZ).cQ λ(ys,_)=>bN cD True (.val .str (u' ys))
  | _,_,_=>.none
 | .makeFunc fn first cZ=>match fn with
  | .func k=>let l:=cZ.toList.map aI;if first.isEmpty then (match aO.tv k with
   | some v=>(iX (gm (v.cs.map .bH)) (l.map λv=>(use v).2)).cQ λ(y,bU)=>(jF bU).bind λwl=>.ret (some ⟨jG l,True,.val (.fn (gm v.as) v.aV) (λx=>v.sh (Fo v.as (v.cs.map .bH) x y)),wl⟩)
   | none=>match aO.wX k with
    | some v=>(iX (gm (v.cs.map .bH)) (l.map λv=>(use v).2)).cQ λ(y,bU)=>(jF bU).bind λwl=>.ret (some ⟨jG l,True,.val (.cr v.aL) (v.S y),wl⟩)
    | none=>bN (jG l) True (.iy k l.length (hg (l.map λv=>(use v).2)))) else (if cZ.isEmpty then bN (jG (first.toList.map aI)) True (.r2 k first.size (hg ((first.toList.map aI).map λv=>(use v).2))) else .none)
  | _=>.none
 | .makeMap ty r=>if r.isSome then .none else match T ty with
  | .map k v=>h3 o.dst λb g=>some ⟨True,True,.fI b g,[(b,⟨g,.mp k v []⟩)]⟩
  | _=>.none
 | .lookup ty m x ok=>za T aI ty m x ok
 | .mapUpdate ty m x y=>qS T aI ty m x y
 | .insert ty m x y=>qS T aI ty m x y
 | .makeSlice ty l c=>Fz T aI o.dst ty l c
 | .makeInterface _ _=>bN True False .undef
 | .panic _=>bN True False .undef
 | .slice ty x aY G o7=>if o7.isSome then Fx T aI ty x aY G o7 else Fw T aI ty x aY G
 | .call c=>mN T bf aI o.dst c
 | _=>.none
def dS(r:Option Nat):Fence:={ Fence.wide with round:=r }
section
variable {P:Program} {w:World}
theorem dC{t:TypeId}{d:TypeDesc}(h:P.underlying t=some d):(underlying t).run P w=.ok d w:=by simp[underlying,h]
theorem FB{t:TypeId}{i:TypeInfo}(h:P.info? t=some i):(typeInfo t).run P w=.ok i w:=by simp[typeInfo,h]
theorem r7{t:TypeId}{i:TypeInfo}(h:P.info? t=some i):(sizeOf t).run P w=.ok i.size w:=by simp[sizeOf,FB h]
theorem qT{t:TypeId}{i:TypeInfo}{z:Value}(h:P.info? t=some i)(bk:i.zero=some z):(zeroValue t).run P w=.ok z w:=by simp[zeroValue,FB h,bk]
theorem b9.size{t:ad}{id:TypeId}(h:b9 P t id):(sizeOf id).run P w=.ok t.size w:=by
 obtain⟨i,z,E,U,_⟩:=ks h.kr;rw[r7 E,U]
theorem b9.st{t:ad}{id:TypeId}(h:b9 P (.st t) id):∃ eT,P.underlying id=some (.struct eT):=by
 unfold b9 at h;simp only[cG,Bool.and_eq_true]at h;grind
theorem b9.sl{e:ad}{id:TypeId}(h:b9 P (.slice e) id):∃ i,P.underlying id=some (.slice i)/\b9 P e i/\e.size≠0:=by
 unfold b9 at h;simp only[cG,Bool.and_eq_true]at h;obtain⟨_,h⟩:=h;split at h
 ·rename_i i G;simp only[Bool.and_eq_true,bne_iff_ne,ne_eq]at h;exact⟨i,G,h.1,h.2⟩
 grind
theorem ac3:∀ (t:ad) {l:List Field} {FC f off:Nat} {s:ad},cG P t (.inr (l,FC))=true->mh t f=some (s,off)->
  ∃ nK,l[f]?=some nK/\nK.offset=FC+off/\b9 P s nK.type/\s.size≠0:=by
 intro t;induction t with
 | ay a b fx eJ=>
  intro l FC f off s h ao;match l,h with
  | [],h=>simp only[cG,Bool.false_eq_true]at h
  | [x],h=>simp only[cG,Bool.false_eq_true]at h
  | [x,y],h=>
   simp only[cG,Bool.and_eq_true,beq_iff_eq,bne_iff_ne,ne_eq]at h;obtain⟨⟨⟨⟨E,U⟩,ag⟩,_⟩,⟨⟨a1,bL⟩,dm⟩,_⟩:=h;cases f with
   | zero=>simp only[mh,Option.some.injEq,Prod.mk.injEq]at ao;obtain⟨rfl,rfl⟩:=ao;exact⟨x,rfl,E,U,ag⟩
   | succ f=>
    simp only[mh,Option.map_eq_some_iff,Prod.mk.injEq]at ao;obtain⟨⟨s',hR⟩,ao,rfl,rfl⟩:=ao;have W:∃ u,mh b f=some u/\f=0/\u=(b,0):=by
     cases b<;>cases f<;>simp only[mh,reduceCtorEq]at ao<;>first
      | exact⟨_,ao,rfl,by cases ao;rfl⟩
      | (simp only[cG,Bool.false_eq_true]at bL)
    obtain⟨u,hu,rfl,rfl⟩:=W;rw[hu]at ao;cases ao;exact⟨y,rfl,by omega,bL,dm⟩
  | x::y::z::l,h=>
   simp only[cG,Bool.and_eq_true,beq_iff_eq,bne_iff_ne,ne_eq]at h;obtain⟨⟨⟨⟨E,U⟩,ag⟩,_⟩,a1⟩:=h;cases f with
   | zero=>simp only[mh,Option.some.injEq,Prod.mk.injEq]at ao;obtain⟨rfl,rfl⟩:=ao;exact⟨x,rfl,E,U,ag⟩
   | succ f=>
    simp only[mh,Option.map_eq_some_iff,Prod.mk.injEq]at ao;grind
 | _=>intro l FC f off s h _;simp only[cG,Bool.false_eq_true]at h
theorem b9.field{t s:ad}{id f off:Nat}(h:b9 P (.st t) id)(ao:mh t f=some (s,off)) :
  ∃ eT nK,P.underlying id=some (.struct eT)/\eT[f]?=some nK/\nK.offset=off/\b9 P s nK.type/\s.size≠0:=by
 unfold b9 at h;simp only[cG,Bool.and_eq_true]at h;obtain⟨_,h⟩:=h;split at h
 ·rename_i eT jj;refine⟨eT,?_⟩;have eU:∀ {nK},eT.toList[f]?=some nK->eT[f]?=some nK:=λh=>by grind
  split at h
  ·rename_i aj;rw[of_decide_eq_true h]at ao;cases f<;>cases ao
  ·rename_i x aj;simp only[Bool.and_eq_true,beq_iff_eq,bne_iff_ne,ne_eq]at h;have W:f=0/\(s,off)=(t,0):=by
    cases t<;>cases f<;>simp only[mh,reduceCtorEq]at ao<;>first
     | exact⟨rfl,by cases ao;rfl⟩
     | (have:=h.1.1.2;simp only[cG,Bool.false_eq_true]at this)
   obtain⟨rfl,W⟩:=W;cases W;exact⟨x,jj,eU (by grind),h.1.1.1,h.1.1.2,h.1.2⟩
  ·obtain⟨nK,aP,aR,bO⟩:=ac3 t h ao;grind
 grind
def kv(w:World)(p:Addr)(cs:List Value):Prop:=(0<cs.length->p.spot=none)/\∀ j (h:j<cs.length),w.cell? ⟨p.block,p.off+j,none⟩=some cs[j]
theorem Holds.J9{F:Nat->Prop}{p:Addr}{cs:List Value}(h:Holds F w p cs):kv w p cs:=⟨λ_=>h.2.1,h.2.2⟩
theorem FD{p:Addr}{cs:List Value}(h:kv w p cs):(loadCells p cs.length).run P w=.ok cs.toArray w:=by
 obtain⟨aD,hc⟩:=h;refine run_loadCells_list w p cs λj v aE=>?_;obtain⟨fV,rfl⟩:=List.getElem?_eq_some_iff.1 aE;have an:p=⟨p.block,p.off,none⟩:=by have:=aD (by omega);cases p;simp_all
 have:=hc j fV;have zc:p.add j=⟨p.block,p.off+j,none⟩:=by
  unfold Addr.add;grind
 grind
theorem zd{t:ad}{id:TypeId}(h:b9 P t id):(isAgg id).run P w=.ok t.isAgg w:=by
 unfold b9 at h;unfold isAgg;cases t<;>simp only[cG,Bool.and_eq_true,Bool.false_eq_true]at h<;>(obtain⟨_,h⟩:=h;split at h)<;>
  first
   | (rename_i hu;simp[dC hu,ad.isAgg];done)
   | (cases h;done)
   | (rename_i hu;simp[dC hu,ad.isAgg])
theorem J_{F:Nat->Prop}{p:Addr}{cs:List Value}{t:ad}{id:TypeId}{x:t.ai}(h:b9 P t id)(cV:kv w p cs)(ah:bI P t F w cs x) :
  ∃ v,(loadVar id p).run P w=.ok v w/\eu P t F w v x:=by
 have hlen:=hO t ah;by_cases ba:t.isAgg=true
 ·refine⟨.agg cs.toArray,?_,?_,by simpa [Value.cells]using ah⟩
  ·have:=FD (P:=P) cV;rw[hlen]at this;simp[loadVar,zd h,ba,h.size,this]
  ·cases t<;>simp only[ad.isAgg,Bool.false_eq_true]at ba
   ·exact⟨cs.toArray,rfl,by simpa [ad.size]using hlen⟩
   ·exact⟨cs.toArray,rfl,by simpa [ad.size]using hlen⟩
 ·have aj:t.eE=true:=by
   cases t<;>simp only[ad.isAgg,not_true]at ba<;>first | rfl | (unfold b9 at h;simp only[cG,Bool.false_eq_true]at h)
  obtain⟨u,rfl,hu⟩:=BT aj ah;refine⟨u,?_,(dU aj).2 ⟨hu,ah⟩⟩;have hc:=cV.2 0 (by simp);have an:p=⟨p.block,p.off+0,none⟩:=by have:=cV.1 (by simp);cases p;simp_all
  rw[<-an]at hc;simp[loadVar,zd h,ba,hc]
end
section
variable {r:Option Nat} {P:Program} {o:Oper} {a:Act} {w w':World} {K:Act->World->Prop} {Q:Exit->Act->World->Prop}
theorem ze(au:∀ c,o.op≠.defer c):o.semAt (dS r).round a.eval=execOp a.eval o:=Oper.semAt_eq _ _ _ au
theorem ht{v:Value}(au:∀ c,o.op≠.defer c)(h:(execOp a.eval o).run P w=.ok (.value v) w')(al:K (a.put o.dst v) w'):o.wpIn (dS r) 0 P a w K Q:=by
 refine⟨λ_ _=>trivial,?_⟩;rw[ze au,h];exact al
theorem FE(au:∀ c,o.op≠.defer c)(h:(execOp a.eval o).run P w=.ok .skip w')(al:K (a.put o.dst Go.undef) w'):o.wpIn (dS r) 0 P a w K Q:=by
 refine⟨λ_ _=>trivial,?_⟩;rw[ze au,h];exact al
end
def az.gh(s:az):List (Nat×bJ)->az
 | []=>s
 | p::l=>(s.cy p.1 p.2).gh l
def az.h5(s:az)(d:Option Nat)(res:eB):az:=(s.gh res.hD).set d res.e9
def cJ(C:b_)(o:Oper)(s:az)(res:eB):Prop:=
 ∀ a w κ F Q,bl C s a w κ F->res.ca->res.c->o.wpIn (dS C.r) 0 C.P a w (λa' w'=>ct C (s.h5 o.dst res) a' w') Q
theorem cJ.pure{C:b_}{o:Oper}{s:az}{ca c:Prop}{e9:aG}(au:∀ c,o.op≠.defer c)(bg:∀ i,o.dst=some i->i<C.nt)
  (h:∀ a w κ F,bl C s a w κ F->ca->c->∃ v,(execOp a.eval o).run C.P w=.ok (.value v) w/\bB C.P s.aa κ F w e9 v):cJ C o s ⟨ca,c,e9,[]⟩:=by
 intro a w κ F Q M bd hc;obtain⟨v,E,U⟩:=h a w κ F M bd hc;exact ht au E ⟨κ,F,M.set bg U⟩
section
variable {P:Program} {H:Nat->bJ} {κ:Nat->bC} {F:Nat->Prop} {w:World}
theorem o8{av:aG}{v:Value}(h:bB P H κ F w av v)(hu:(use av).1):bB P H κ F w (use av).2 v:=by
 cases av<;>first | exact h | exact h.1 hu
theorem ac4(v:Value):bB P H κ F w (w4 v) v:=by
 unfold w4;split
 ·exact ff.2 rfl
 ·split
  ·rename_i h;exact gU.2 ⟨rfl,h⟩
  ·rfl
 ·split
  ·rename_i s h;refine me.2 ⟨by simp,?_⟩;have:s.data.toList.length=s.size:=by rfl
   omega
  ·rfl
 ·rfl
 ·rfl
theorem j7{C:b_}{s:az}{a:Act}{w:World}{κ:Nat->bC}{F:Nat->Prop}(h:bl C s a w κ F)(x:Operand):bB C.P s.aa κ F w (a7 C.aM s.ax x) (a.eval x):=by
 cases x with
 | tmp t=>exact h.bT t
 | const v=>exact ac4 v
 | func f=>
  show bB _ _ _ _ _ (match C.aM.tu f with | some v=>.val (.fn v.ts v.aV) v.sh | none=>.iy f 0 λ_=>.undef) (.func (.func f) #[] #[]);split
  ·rename_i v ae;exact (dU rfl).2 ⟨rfl,acP (h.jD.tu f v ae) F w⟩
  ·exact⟨[],rfl,rfl,λi G=>by omega⟩
 | global g=>trivial
theorem oo{av:aG}{v:Value}{k:IntKind}{n:Int}(h:bB P H κ F w av v)(G:av.mj=some (k,n)):v=.int k n/\fU k n:=by
 unfold aG.mj at G;split at G
 ·cases G;exact gU.1 h
 grind
theorem J'{av:aG}{v:Value}{s:List UInt8}(h:bB P H κ F w av v)(G:av.tz=some s):v=.string ⟨s.toArray⟩/\s.length<2 ^ 63:=by
 unfold aG.tz at G;split at G
 ·cases G;exact me.1 h
 grind
end
theorem p5(k:IntKind)(n:Int):fU k (k.wrap n):=by
 unfold fU IntKind.wrap;have E:=Int.emod_nonneg n (b:=2 ^ k.bits) (by cases k<;>decide);have U:=Int.emod_lt_of_pos n (b:=2 ^ k.bits) (by omega);cases k<;>simp only[IntKind.min,IntKind.max,IntKind.signed,IntKind.bits,Bool.true_and,Bool.false_and,Bool.false_eq_true,if_true,if_false,Nat.reduceSub,Int.reducePow]at E U ⊢<;>first
  | (constructor<;>split<;>first | (rename_i hc;have hc:=of_decide_eq_true hc;omega) | (rename_i hc;have hc:=mt decide_eq_true hc;omega))
  | omega
theorem ac5{k:IntKind}{a b:Int}(ba:fU k a):fU k (a.tmod b):=by
 unfold fU at *
 have E:k.min<=0/\0<=k.max:=by cases k<;>decide
 have U:=Int.natAbs_tmod a b;have ag:=Nat.mod_le a.natAbs b.natAbs;rcases Int.le_total 0 a with h | h
 ·have:=Int.tmod_nonneg b h;omega
 ·have a1:(-a).tmod b=- (a.tmod b):=Int.neg_tmod a b;have:=Int.tmod_nonneg b (a:=-a) (by omega);omega
end Go.Fer
namespace Go.Fer
open Go.RowKit
theorem RC{P:Program}{w:World}{t:ad}{id:TypeId}(h:b9 P t id)(aj:t.isAgg=false){cs:Array Value}{off:Nat}{v:Value}(ae:cs[off]?=some v) :
  (part id cs off).run P w=.ok v w:=by
 simp[part,zd h,aj,ae]
theorem RD{P:Program}{w:World}{t:ad}{id:TypeId}(h:b9 P t id)(aj:t.isAgg=true){cs:Array Value}{off:Nat} :
  (part id cs off).run P w=.ok (.agg (cs.extract off (off+t.size))) w:=by
 simp[part,zd h,aj,h.size]
theorem qU{P:Program}{F:Nat->Prop}{w:World}{t:ad}{id:TypeId}(h:b9 P t id){p c q:List Value}{cs:Array Value}{x:t.ai}(o9:cs.toList=p++(c++q))(hc:bI P t F w c x) :
  ∃ v,(part id cs p.length).run P w=.ok v w/\eu P t F w v x:=by
 have hlen:=hO t hc;by_cases ba:t.isAgg=true
 ·refine⟨_,RD h ba,?_⟩;have he:(cs.extract p.length (p.length+t.size)).toList=c:=by
   simp_all
  have ae:(Value.agg (cs.extract p.length (p.length+t.size))).cells.toList=c:=he;refine⟨?_,by grind⟩;have cd:(cs.extract p.length (p.length+t.size)).size=t.size:=by grind
  cases t<;>simp only[ad.isAgg,Bool.false_eq_true]at ba
  ·exact⟨_,rfl,by simpa [ad.size]using cd⟩
  ·exact⟨_,rfl,by simpa [ad.size]using cd⟩
 ·have aj:t.eE=true:=by
   cases t<;>simp only[ad.isAgg,not_true]at ba<;>first | rfl | (unfold b9 at h;simp only[cG,Bool.false_eq_true]at h)
  obtain⟨u,rfl,hu⟩:=BT aj hc;refine⟨u,RC h (by grind) ?_,(dU aj).2 ⟨hu,hc⟩⟩;rw[<-Array.getElem?_toList,o9];simp
theorem b9.B_{P:Program}{t:ad}{id:TypeId}(h:b9 P (.st t) id):P.stoodInHeld id=false/\P.eqGuardType P.depth id=false/\
  (cG P t (.inr ((P.fieldsOf id).toList, 0)) = true \/ (∃ f, (P.fieldsOf id).toList = [f] /\ f.offset = 0 /\ b9 P t f.type /\ f.name ≠ "_") \/ (t = .cT /\ (P.fieldsOf id).toList = [])) /\ P.underlying id = some (.struct (P.fieldsOf id)) := by
 unfold b9 at h;simp only[cG,Bool.and_eq_true,Bool.not_eq_true']at h;obtain⟨⟨⟨_,E⟩,U⟩,h⟩:=h;split at h
 ·rename_i eT jj;have ao:P.fieldsOf id=eT:=by simp[Program.fieldsOf,jj]
  rw[ao];refine⟨E,U,?_,jj⟩;split at h
  ·grind
  ·rename_i x aj;simp only[Bool.and_eq_true,beq_iff_eq,bne_iff_ne,ne_eq]at h;exact .inr (.inl ⟨x,aj,h.1.1.1,h.1.1.2,h.2⟩)
  grind
 grind
theorem Ka{P:Program}{F:Nat->Prop}{w:World}:∀ (t:ad) (d:Nat),t.kP=true->t.j6<=d->
  (∀ {id:TypeId} {v u:Value} {x y:t.ai},b9 P t id->eu P t F w v x->eu P t F w u y->(Op.equalIn d id v u).run P w=.ok (gK t x y) w)/\
  (∀ {l:List Field} {off:Nat} {xs ys:Array Value} {p c q p' c' q':List Value} {x y:t.ai},cG P t (.inr (l,off))=true->xs.toList=p++(c++q)->p.length=off->bI P t F w c x->
   ys.toList=p'++(c'++q')->p'.length=off->bI P t F w c' y->(Op.eqFields d xs ys l).run P w=.ok (gK t x y) w):=by
 intro t;induction t with
 | bool=>
  intro d _ au;refine⟨λ{id v u x y} h E U=>?_,λh=>by simp[cG]at h⟩;rw[ff.1 E,ff.1 U];obtain⟨d,rfl⟩:∃ e,d=e+1:=⟨d - 1,by simp only[ad.j6]at au;omega⟩
  unfold b9 at h;simp only[cG,Bool.and_eq_true]at h;obtain⟨_,h⟩:=h;split at h
  ·rename_i hu;rw[run_equalIn_bool' w d id x y hu];rfl
  grind
 | int k=>
  intro d _ au;refine⟨λ{id v u x y} h E U=>?_,λh=>by simp[cG]at h⟩;rw[(gU.1 E).1,(gU.1 U).1];obtain⟨d,rfl⟩:∃ e,d=e+1:=⟨d - 1,by simp only[ad.j6]at au;omega⟩
  unfold b9 at h;simp only[cG,Bool.and_eq_true]at h;obtain⟨_,h⟩:=h;split at h
  ·rename_i hu;rw[run_equalIn_int w d id k _ x y hu];rfl
  grind
 | str=>
  intro d _ au;refine⟨λ{id v u x y} h E U=>?_,λh=>by simp[cG]at h⟩;rw[(me.1 E).1,(me.1 U).1];obtain⟨d,rfl⟩:∃ e,d=e+1:=⟨d - 1,by simp only[ad.j6]at au;omega⟩
  unfold b9 at h;simp only[cG,Bool.and_eq_true]at h;obtain⟨_,h⟩:=h;split at h
  ·rename_i hu;rw[run_equalIn_string w d id _ _ hu,ByteArray.toList_eq,ByteArray.toList_eq];simp only[gK];grind
  grind
 | cT=>intro d h;cases h
 | slice e _=>intro d h;cases h
 | array n e _=>intro d h;cases h
 | bH e _=>intro d h;cases h
 | map k v _ _=>intro d h;cases h
 | fn a b _ _=>intro d h;cases h
 | cr a _=>intro d h;cases h
 | et=>intro d h;cases h
 | ay a b fx eJ=>
  intro d hc au;simp only[ad.kP,Bool.and_eq_true]at hc;simp only[ad.j6]at au;have Kb:=fx d hc.1 (by omega);have o3:=eJ d hc.2 (by omega);refine⟨λh=>by unfold b9 at h;simp[cG]at h,?_⟩;intro l off xs ys p c q p' c' q' x y h ah an o_ aQ B' zf;simp only[bI]at o_ zf;obtain⟨bE,c2,rfl,aP,aR⟩:=o_;obtain⟨d1,d2,rfl,m1,m2⟩:=zf;have e1:=hO a aP;have og:=hO a m1;have step : ∀ (f : Field) (cm : List Field), f.offset = off -> b9 P a f.type -> f.name ≠ "_" ->
    (Op.eqFields d xs ys (f::cm)).run P w=if gK a x.1 y.1=true then (Op.eqFields d xs ys cm).run P w else .ok false w:=by
   intro f cm af ao aA;obtain⟨v,b4,cv⟩:=qU (cs:=xs) (p:=p) (c:=bE) (q:=c2++q) ao (by grind) aP;obtain⟨u,eG,dL⟩:=qU (cs:=ys) (p:=p') (c:=d1) (q:=d2++q') ao (by grind) m1;simp only[Op.eqFields,aA,ne_eq,not_false_eq_true,if_true,Sem.run_bind];rw[af,<-an,b4,Result.andThen_ok,an,<-B',eG,Result.andThen_ok,Kb.1 ao cv dL];cases gK a x.1 y.1<;>simp
  match l,h with
  | [],h=>simp only[cG,Bool.false_eq_true]at h
  | [f],h=>simp only[cG,Bool.false_eq_true]at h
  | [f,g],h=>
   simp only[cG,Bool.and_eq_true,beq_iff_eq,bne_iff_ne,ne_eq]at h;obtain⟨⟨⟨⟨E,U⟩,ag⟩,a1⟩,⟨⟨⟨bL,dm⟩,fS⟩,jg⟩⟩:=h;rw[step f [g] E U a1];obtain⟨v,b4,cv⟩:=qU (cs:=xs) (p:=p++bE) (c:=c2) (q:=q) dm (by grind) aR;obtain⟨u,eG,dL⟩:=qU (cs:=ys) (p:=p'++d1) (c:=d2) (q:=q') dm (by grind) m2;have aw:(p++bE).length=g.offset:=by grind
   have aN:(p'++d1).length=g.offset:=by grind
   rw[aw]at b4;rw[aN]at eG;simp only[Op.eqFields,jg,ne_eq,not_false_eq_true,if_true,Sem.run_bind,b4,eG,Result.andThen_ok,o3.1 dm cv dL,gK];cases gK a x.1 y.1<;>cases gK b x.2 y.2<;>simp
  | f::g::i::l,h=>
   simp only[cG,Bool.and_eq_true,beq_iff_eq,bne_iff_ne,ne_eq]at h;obtain⟨⟨⟨⟨E,U⟩,ag⟩,a1⟩,bL⟩:=h;rw[step f _ E U a1,o3.2 bL (p:=p++bE) (c:=c2) (q:=q) (p':=p'++d1) (c':=d2) (q':=q') (by grind) (by grind) aR (by grind) (by grind) m2];simp only[gK];cases gK a x.1 y.1<;>simp
 | st t aJ=>
  intro d hc au;simp only[ad.j6]at au;obtain⟨d,rfl⟩:∃ e,d=e+1:=⟨d - 1,by omega⟩
  refine⟨λ{id v u x y} h E U=>?_,λh=>by simp[cG]at h⟩;have i:=aJ d hc (by omega);obtain⟨aw,aN,cE,ed⟩:=h.B_;obtain⟨⟨xs,rfl,hS⟩,o_⟩:=E;obtain⟨⟨ys,rfl,j8⟩,zf⟩:=U;simp only[Value.cells,bI]at o_ zf;rw[run_equalIn_struct w d id xs ys ed aw];rcases cE with cE | ⟨f,cE,dY,la,tC⟩ | ⟨rfl,cE⟩
  ·exact i.2 cE (p:=[]) (c:=xs.toList) (q:=[]) (p':=[]) (c':=ys.toList) (q':=[]) (by simp) rfl o_ (by simp) rfl zf
  ·rw[cE];obtain⟨v,b4,cv⟩:=qU (cs:=xs) (p:=[]) (c:=xs.toList) (q:=[]) la (by simp) o_;obtain⟨u,eG,dL⟩:=qU (cs:=ys) (p:=[]) (c:=ys.toList) (q:=[]) la (by simp) zf;simp only[List.length_nil]at b4 eG;simp only[Op.eqFields,tC,ne_eq,not_false_eq_true,if_true,Sem.run_bind,dY,b4,eG,Result.andThen_ok,i.1 la cv dL,gK];cases gK t x y<;>simp
  ·cases hc
theorem ac6{k:IntKind}{a b:Int}(ba:fU k a):fU k (ji k a b):=by
 unfold fU at *
 unfold ji;have E:k.min<=0/\0<=k.max:=by cases k<;>decide
 generalize min b.toNat k.bits=n;have an:(0:Int)<2 ^ n:=Int.pow_pos (by decide);rw[Int.fdiv_eq_ediv_of_nonneg _ (Int.le_of_lt an)];rcases Int.le_total 0 a with h | h
 ·have U:=Int.ediv_nonneg h (Int.le_of_lt an);have ag:=Int.ediv_le_self (2 ^ n) h;omega
 ·have U:a / 2 ^ n<=0:=by
   have:=Int.ediv_le_ediv an h;simp_all
  have ag:a<=a / 2 ^ n:=by
   rw[Int.le_ediv_iff_mul_le an];have a1:(1:Int)<=2 ^ n:=by omega
   have:=Int.mul_le_mul_of_nonpos_left (a:=a) h a1;omega
  omega
theorem RE{P:Program}{w:World}(op:BinOp)(t:TypeId)(x y:Operand)(k k':IntKind)(a b:Int):(eqGuard op t x y (.int k a) (.int k' b)).run P w=.ok () w:=by
 cases op<;>simp[eqGuard]
theorem ac7{P:Program}{w:World}(op:BinOp)(t:TypeId)(x y:Operand)(a b:ByteArray):(eqGuard op t x y (.string a) (.string b)).run P w=.ok () w:=by
 cases op<;>simp[eqGuard]
theorem ac8{P:Program}{w:World}(op:BinOp)(t:TypeId)(x y:Operand)(a b:Bool):(eqGuard op t x y (.bool a) (.bool b)).run P w=.ok () w:=by
 cases op<;>simp[eqGuard]
theorem ac9{P:Program}{w:World}(op:BinOp)(t:TypeId)(x y:Operand)(a b:Option Addr):(eqGuard op t x y (.pointer a) (.pointer b)).run P w=.ok () w:=by
 cases op<;>simp[eqGuard]
section
variable {P:Program} {H:Nat->bJ} {κ:Nat->bC} {F:Nat->Prop} {w:World}
theorem ac_{op:BinOp}{k:IntKind}{a b:Int}{t:TypeId}{c:Prop}{v:aG}(h:y8 op k a b=some (c,v))(hc:c)(ba:fU k a) :
  ∃ u,(binOp op t (.int k a) (.int k b)).run P w=.ok u w/\bB P H κ F w v u:=by
 cases op<;>simp only[y8,Option.some.injEq,Prod.mk.injEq,reduceCtorEq]at h<;>obtain⟨rfl,rfl⟩:=h<;>simp only[bB];case add=>exact⟨_,by simp[binOp,Op.intArith],gU.2 ⟨rfl,p5 _ _⟩⟩
 case sub=>exact⟨_,by simp[binOp,Op.intArith],gU.2 ⟨rfl,p5 _ _⟩⟩
 case mul=>exact⟨_,by simp[binOp,Op.intArith],gU.2 ⟨rfl,p5 _ _⟩⟩
 case quo=>exact⟨_,by simp[binOp,Op.intDiv,hc],gU.2 ⟨rfl,p5 _ _⟩⟩
 case rem=>exact⟨_,by simp[binOp,Op.intDiv,hc],gU.2 ⟨rfl,ac5 ba⟩⟩
 case and=>exact⟨.int k (lM k a b),by simp only[binOp,ne_eq,not_true_eq_false,if_false,Op.intBits];rfl,gU.2 ⟨rfl,p5 _ _⟩⟩
 case or=>exact⟨.int k (Rm k a b),by simp only[binOp,ne_eq,not_true_eq_false,if_false,Op.intBits];rfl,gU.2 ⟨rfl,p5 _ _⟩⟩
 case xor=>exact⟨.int k (Rn k a b),by simp only[binOp,ne_eq,not_true_eq_false,if_false,Op.intBits];rfl,gU.2 ⟨rfl,p5 _ _⟩⟩
 case andNot=>exact⟨.int k (Ro k a b),by simp only[binOp,ne_eq,not_true_eq_false,if_false,Op.intBits];rfl,gU.2 ⟨rfl,p5 _ _⟩⟩
 case eql=>exact⟨.bool (a == b),by simp[binOp,Op.intCmp],ff.2 (congrArg Value.bool (by rfl))⟩
 case neq=>exact⟨.bool (a != b),by simp[binOp,Op.intCmp],ff.2 (congrArg Value.bool (by grind))⟩
 case lss=>exact⟨_,by simp[binOp,Op.intCmp],ff.2 rfl⟩
 case leq=>exact⟨_,by simp[binOp,Op.intCmp],ff.2 rfl⟩
 case gtr=>exact⟨_,by simp[binOp,Op.intCmp],ff.2 rfl⟩
 case geq=>exact⟨_,by simp[binOp,Op.intCmp],ff.2 rfl⟩
theorem RF{op:BinOp}{k k':IntKind}{a b:Int}{t:TypeId}{c:Prop}{v:aG}(h:J4 op k a b=some (c,v))(hc:c)(ba:fU k a) :
  ∃ u,(binOp op t (.int k a) (.int k' b)).run P w=.ok u w/\bB P H κ F w v u:=by
 cases op<;>simp only[J4,Option.some.injEq,Prod.mk.injEq,reduceCtorEq]at h<;>obtain⟨rfl,rfl⟩:=h<;>simp only[bB];case shl=>exact⟨_,by simp[binOp,Op.shift,show ¬b<0 by omega];rfl,gU.2 ⟨rfl,p5 _ _⟩⟩
 case shr=>exact⟨_,by simp[binOp,Op.shift,show ¬b<0 by omega];rfl,gU.2 ⟨rfl,ac6 ba⟩⟩
theorem ac'{op:BinOp}{a b:List UInt8}{t:TypeId}{c:Prop}{v:aG}(h:B1 op a b=some (c,v))(hc:c) :
  ∃ u,(binOp op t (.string ⟨a.toArray⟩) (.string ⟨b.toArray⟩)).run P w=.ok u w/\bB P H κ F w v u:=by
 have e:∀ l:List UInt8,(⟨l.toArray⟩:ByteArray).toList=l:=λl=>by simp
 cases op<;>simp only[B1,Option.some.injEq,Prod.mk.injEq,reduceCtorEq]at h<;>obtain⟨rfl,rfl⟩:=h<;>simp only[bB];case add=>
  unfold bP at hc;have aD:((ByteArray.size ⟨a.toArray⟩+ByteArray.size ⟨b.toArray⟩:Nat):Int)=(a.length+b.length:Nat):=by rfl
  refine⟨.string ⟨(a++b).toArray⟩,?_,me.2 ⟨rfl,by grind⟩⟩;simp only[binOp,Op.stringOp];rw[if_neg]
  ·rfl
  ·rw[aD];have:IntKind.i64.max=9223372036854775807:=by decide
   omega
 case eql=>exact⟨_,by rfl,ff.2 (by grind)⟩
 case neq=>exact⟨_,by rfl,ff.2 (by grind)⟩
 case lss=>exact⟨_,by simp only[binOp,Op.stringOp,e];rfl,ff.2 rfl⟩
 case geq=>exact⟨_,by simp only[binOp,Op.stringOp,e];rfl,ff.2 rfl⟩
end
end Go.Fer
namespace Go.Fer
open Go.RowKit
def dT(P:Program)(T:Nat->ad):Prop:=∀ id,T id=.cT\/b9 P (T id) id
theorem dT.b6{P:Program}{T:Nat->ad}(h:dT P T){id:Nat}{t:ad}(e:T id=t)(aH:t≠.cT):b9 P t id:=by
 rcases h id with h | h
 ·exact absurd (e ▸ h) aH
 ·exact e ▸ h
theorem qV{d:Option Nat}{k:Nat->Nat->Option eB}{H:Nat->bJ}{res:eB}(h:(h3 d k).run H=some res) :
  ∃ b,d=some b/\k b ((H b).gen+1)=some res:=by
 unfold h3 at h;cases d with
 | none=>cases h
 | some b=>
  simp_all
theorem bl.ada{C:b_}{s:az}{a:Act}{w:World}{κ:Nat->bC}{F:Nat->Prop}(h:bl C s a w κ F){b g:Nat}{e:ad}(aB:(s.aa b).gen<g) :
  bl C (s.cy b ⟨g,.bh e []⟩) a w (λi=>if i=b then ⟨0,0,0,true⟩ else κ i) F:=by
 have aj:fq s.aa κ (λi=>if i=b then ⟨g,.bh e []⟩ else s.aa i) (λi=>if i=b then ⟨0,0,0,true⟩ else κ i):=y3 aB λbe db=>by grind
 refine h.move (H':=λi=>if i=b then ⟨g,.bh e []⟩ else s.aa i) aj (λ_ M=>M) (λ_ M=>.inl M) (Nat.le_refl _) (λ_ _ _=>rfl) (dc.refl _) (λ_=>?_) ?_ ?_ h.da (y4 (.inr ⟨rfl,rfl⟩) λbe db=>by grind)
 ·intro i;by_cases G:i=b
  ·subst G;simp only[cF,if_true];exact⟨λ_=>rfl,λaA=>by cases aA⟩
  ·exact cF.lb (h.bD i) aj (λ_ M=>M) (c1.refl _ _) (by grind) (by grind) λ_=>rfl
 ·intro i G;by_cases eL:i=b
  ·subst eL;simp[bQ.bZ]at G
  ·simp only[if_neg eL]at G ⊢;exact⟨(h.own i G).1,(h.own i G).2.1,.inl ⟨i,G,rfl⟩⟩
 ·intro i j G aE a6;by_cases eL:i=b
  ·subst eL;simp[bQ.bZ]at G
  ·by_cases mg:j=b
   ·subst mg;simp[bQ.bZ]at aE
   ·simp only[if_neg eL,if_neg mg]at G aE a6;exact h.inj i j G aE a6
section
variable {C:b_} {T:Nat->ad} {bf:Nat->Option aK} {o:Oper} {s:az} {res:eB}
theorem adb{x:Operand}(bg:∀ i,o.dst=some i->i<C.nt)(af:o.op=.move x)(h:(bw C.aM T bf (a7 C.aM s.ax) o).run s.aa=some res):cJ C o s res:=by
 simp only[bw,af,bN,aq.bM,Option.some.injEq]at h;subst h;exact cJ.pure (by grind) bg λa w κ F M _ _=>⟨_,by simp[execOp,af],j7 M x⟩
theorem ade{x:Operand}(bg:∀ i,o.dst=some i->i<C.nt)(af:o.op=.assign x)(h:(bw C.aM T bf (a7 C.aM s.ax) o).run s.aa=some res):cJ C o s res:=by
 simp only[bw,af]at h;split at h
 ·rename_i e ah aH;obtain⟨b,au,al⟩:=qV h;simp only[Option.some.injEq]at al;subst al;intro a w κ F Q M _ _;refine ht (w':=w) (v:=a.eval x) (by grind) (by simp[execOp,af]) ?_;have U:=M.ada (b:=b) (e:=e) (Nat.lt_succ_self _);have ae:=j7 M x;rw[ah]at ae;simp only[bB]at ae;refine⟨_,_,bl.set U bg ⟨⟨?_,by rw[ae];rfl⟩,λ_ _=>?_⟩⟩
  ·simp[az.cy]
  ·simp[ae,bC.slice]
 ·simp only[bN,aq.bM,Option.some.injEq]at h;subst h;exact cJ.pure (by grind) bg λa w κ F M _ _=>⟨_,by simp[execOp,af],j7 M x⟩
theorem cO{a:Act}{w:World}{κ:Nat->bC}{F:Nat->Prop}(M:bl C s a w κ F)(x:Operand){p:Prop}{av:aG}(hu:use (a7 C.aM s.ax x)=(p,av))(an:p):bB C.P s.aa κ F w av (a.eval x):=by
 have:=o8 (j7 M x) (by grind);grind
theorem adf{c x y:Operand}(bg:∀ i,o.dst=some i->i<C.nt)(af:o.op=.pick c x y)(h:(bw C.aM T bf (a7 C.aM s.ax) o).run s.aa=some res):cJ C o s res:=by
 simp only[bw,af]at h;split at h
 ·rename_i p4 iZ hc;split at h
  ·split at h
   ·rename_i zb av ba;simp only[bN,aq.bM,Option.some.injEq]at h;subst h;refine cJ.pure (by grind) bg λa w κ F M bd _=>?_;have E:=ff.1 (cO M c hc bd.1);cases iZ with
    | false=>
     have bG:a.eval (.const (.bool false))=.bool false:=rfl;exact⟨.bool false,by simp[execOp,af,E,asBool,bG],ff.2 rfl⟩
    | true=>
     have U:=ff.1 (cO M x ba (bd.2 rfl));exact⟨.bool av,by simp[execOp,af,E,asBool,U],ff.2 rfl⟩
   ·cases h
  ·split at h
   ·rename_i ca bv W;simp only[bN,aq.bM,Option.some.injEq]at h;subst h;refine cJ.pure (by grind) bg λa w κ F M bd _=>?_;have E:=ff.1 (cO M c hc bd.1);cases iZ with
    | true=>
     have bG:a.eval (.const (.bool true))=.bool true:=rfl;exact⟨.bool true,by simp[execOp,af,E,asBool,bG],ff.2 rfl⟩
    | false=>
     have U:=ff.1 (cO M y W (bd.2 rfl));exact⟨.bool bv,by simp[execOp,af,E,asBool,U],ff.2 rfl⟩
   ·cases h
  ·cases h
 ·cases h
theorem adg{op:UnOp}{ty:TypeId}{x:Operand}(bg:∀ i,o.dst=some i->i<C.nt)(af:o.op=.unOp op ty x)(h:(bw C.aM T bf (a7 C.aM s.ax) o).run s.aa=some res):cJ C o s res:=by
 simp only[bw,af]at h;split at h
 ·rename_i cD b ah;simp only[bN,aq.bM,Option.some.injEq]at h;subst h;refine cJ.pure (by grind) bg λa w κ F M bd _=>?_;have E:=ff.1 (cO M x ah bd);exact⟨.bool (!b),by simp[execOp,af,E,Op.unary],ff.2 rfl⟩
 ·rename_i cD k n ah;simp only[bN,aq.bM,Option.some.injEq]at h;subst h;refine cJ.pure (by grind) bg λa w κ F M bd _=>?_;have E:=gU.1 (cO M x ah bd);exact⟨.int k (k.wrap (0 - n)),by simp[execOp,af,E.1,Op.unary,Op.intArith],gU.2 ⟨rfl,p5 _ _⟩⟩
 ·cases h
theorem adh{i:Nat}{x:Operand}(bg:∀ i,o.dst=some i->i<C.nt)(af:o.op=.extract x i)(h:(bw C.aM T bf (a7 C.aM s.ax) o).run s.aa=some res):cJ C o s res:=by
 simp only[bw,af]at h;split at h
 ·rename_i cD n f ah;split at h
  ·rename_i G;simp only[bN,aq.bM,Option.some.injEq]at h;subst h;refine cJ.pure (by grind) bg λa w κ F M bd _=>?_;obtain⟨aC,E,U,ag⟩:=cO M x ah bd;have dK:i<aC.length:=by omega
   refine⟨aC[i],by simp[execOp,af,E,Instr.extract,dK],?_⟩;grind
  ·cases h
 ·cases h
theorem adi{x:Operand}(bg:∀ i,o.dst=some i->i<C.nt)(af:o.op=.nilCheck x)(h:(bw C.aM T bf (a7 C.aM s.ax) o).run s.aa=some res):cJ C o s res:=by
 simp only[bw,af]at h;split at h
 ·rename_i cD b g i ah;simp only[aq.e3,aq.bM]at h;split at h
  ·rename_i bk;simp only[Bool.and_eq_true,decide_eq_true_eq]at bk;simp only[Option.some.injEq]at h;subst h;refine cJ.pure (by grind) bg λa w κ F M bd _=>?_;have E:=cO M x ah bd;have U:=E.2 bk.1.symm bk.2;exact⟨_,by simp[execOp,af,U.2.2],⟨E.1.1,rfl⟩,λ_ _=>⟨U.1,U.2.1,rfl⟩⟩
  grind
 ·rename_i cD t d ah;simp only[bN,aq.bM,Option.some.injEq]at h;subst h;refine cJ.pure (by grind) bg λa w κ F M bd _=>?_;obtain⟨p,bj,E,U⟩:=cO M x ah bd;exact⟨_,by simp[execOp,af,E],p,bj,rfl,U⟩
 ·rename_i cD e p ah;simp only[bN,aq.bM,Option.some.injEq]at h;subst h;refine cJ.pure (by grind) bg λa w κ F M bd hc=>?_;have E:=(dU rfl).1 (cO M x ah bd);obtain⟨_,E⟩:=E;simp only[bI]at E;rcases E with⟨_,rfl⟩ | ⟨q,y,bj,br,rfl,aP,aR⟩
  ·cases hc
  ·simp only[List.cons.injEq,and_true]at br;exact⟨_,by simp[execOp,af,br],q,bj,rfl,aP,aR⟩
 ·rename_i cD b g off ah;simp only[aq.e3,aq.bM]at h;split at h
  ·rename_i bk;simp only[Bool.and_eq_true,decide_eq_true_eq]at bk;simp only[Option.some.injEq]at h;subst h;refine cJ.pure (by grind) bg λa w κ F M bd _=>?_;have E:=cO M x ah bd;have U:=E.2 bk.1.symm bk.2;exact⟨_,by simp[execOp,af,U],⟨E.1.1,rfl⟩,λ_ _=>rfl⟩
  grind
 ·cases h
theorem va(b off n:Nat):(⟨b,off,none⟩:Addr).add n=⟨b,off+n,none⟩:=by
 unfold Addr.add;simp
theorem FF{P:Program}{w:World}{t s:ad}{id f w6 b off:Nat}(h:b9 P (.st t) id)(ao:mh t f=some (s,w6)) :
  (Instr.fieldAt id (.pointer (some ⟨b,off,none⟩)) f).run P w=.ok (.pointer (some ⟨b,off+w6,none⟩)) w:=by
 obtain⟨eT,nK,E,U,ag,a1,bL⟩:=h.field ao;simp only[Instr.fieldAt,Sem.run_bind,dC E,Result.andThen_ok,U,Instr.sureAddr,Sem.run_pure,fieldPlace,a1.size,bL,if_false,ag,va]
theorem adj(aU:dT C.P T){ty f:Nat}{x:Operand}(bg:∀ i,o.dst=some i->i<C.nt)(af:o.op=.fieldAddr ty x f)(h:(bw C.aM T bf (a7 C.aM s.ax) o).run s.aa=some res):cJ C o s res:=by
 simp only[bw,af]at h;split at h
 ·rename_i t aH;have dp:=aU.b6 aH (by simp);split at h
  ·rename_i s' w6 ao;split at h
   ·rename_i cD b g off ah;simp only[aq.e3,aq.bM]at h;split at h
    ·rename_i bk;simp only[Bool.and_eq_true,decide_eq_true_eq]at bk;simp only[Option.some.injEq]at h;subst h;refine cJ.pure (by grind) bg λa w κ F M bd _=>?_;have E:=cO M x ah bd;have U:=E.2 bk.1.symm bk.2;exact⟨_,by simp[execOp,af,U,FF dp ao],⟨E.1.1,rfl⟩,λ_ _=>rfl⟩
    grind
   ·rename_i cD b g i off ah;simp only[aq.e3,aq.bM]at h;split at h
    ·rename_i bk;simp only[Bool.and_eq_true,decide_eq_true_eq]at bk;simp only[Option.some.injEq]at h;subst h;refine cJ.pure (by grind) bg λa w κ F M bd _=>?_;have E:=cO M x ah bd;obtain⟨U,ag,a1⟩:=E.2 bk.1.symm bk.2;exact⟨_,by simp[execOp,af,a1,FF dp ao];rfl,⟨E.1.1,rfl⟩,λ_ _=>⟨U,ag,by grind⟩⟩
    grind
   ·rename_i cD b g i ah;simp only[aq.e3,aq.bM]at h;split at h
    ·rename_i bk;simp only[Bool.and_eq_true,decide_eq_true_eq,beq_iff_eq]at bk;simp only[Option.some.injEq]at h;subst h;refine cJ.pure (by grind) bg λa w κ F M bd _=>?_;have E:=cO M x ah bd;obtain⟨U,ag,a1⟩:=E.2 bk.1.1.symm bk.1.2;exact⟨_,by simp[execOp,af,a1,FF dp ao];rfl,⟨E.1.1,rfl⟩,λ_ _=>⟨U,ag,by grind⟩⟩
    grind
   ·rename_i cD cX d ah;split at h
    ·rename_i zg;subst zg;split at h
     ·rename_i dL y aQ;simp only[bN,aq.bM,Option.some.injEq]at h;subst h;refine cJ.pure (by grind) bg λa w κ F M bd _=>?_;obtain⟨p,bj,E,U,ag⟩:=cO M x ah bd;simp only[bI]at ag;obtain⟨bE,c2,c3,rfl,aP,aR⟩:=Rs cX ag aQ;rw[ao]at aR;cases aR;have an:p=⟨p.block,p.off,none⟩:=by have:=U.2.1;cases p;simp_all
      rw[an]at E;refine⟨_,by simp[execOp,af,E,FF dp ao],⟨p.block,p.off+bE.length,none⟩,c2,rfl,⟨U.1,rfl,λj aE=>?_⟩,aP⟩;have:=U.2.2 (bE.length+j) (by grind);grind
     ·cases h
    ·cases h
   ·cases h
  ·cases h
 ·cases h
theorem adk(aU:dT C.P T){ty f:Nat}{x:Operand}(bg:∀ i,o.dst=some i->i<C.nt)(af:o.op=.field ty x f)(h:(bw C.aM T bf (a7 C.aM s.ax) o).run s.aa=some res):cJ C o s res:=by
 simp only[bw,af]at h;split at h
 ·rename_i t aH;have dp:=aU.b6 aH (by simp);split at h
  ·rename_i cD cX d ah;split at h
   ·rename_i zg;subst zg;split at h
    ·rename_i dL y aQ;simp only[bN,aq.bM,Option.some.injEq]at h;subst h;refine cJ.pure (by grind) bg λa w κ F M bd _=>?_;obtain⟨⟨cs,E,U⟩,ag⟩:=cO M x ah bd;rw[E]at ag;simp only[bI,Value.cells]at ag;obtain⟨bE,c2,c3,e,aP,aR⟩:=Rs cX ag aQ;obtain⟨eT,nK,f1,f2,f3,f4,f5⟩:=dp.field aR;obtain⟨v,b4,cv⟩:=qU (w:=w) f4 e aP;refine⟨v,?_,cv⟩;simp[execOp,af,E,Instr.field,dC f1,f2,asAgg,f3,b4]
    ·cases h
   ·cases h
  ·cases h
 ·cases h
end
end Go.Fer
namespace Go.Fer
open Go.RowKit
theorem b9.bH{P:Program}{e:ad}{id:TypeId}(h:b9 P (.bH e) id):∃ i,P.underlying id=some (.pointer i)/\b9 P e i/\e.size≠0:=by
 unfold b9 at h;simp only[cG,Bool.and_eq_true]at h;obtain⟨_,h⟩:=h;split at h
 ·rename_i i G;simp only[Bool.and_eq_true,bne_iff_ne,ne_eq]at h;exact⟨i,G,h.1,h.2⟩
 grind
theorem RG{k:IntKind}{av:aG}{H:Nat->bJ}{x:Int}{l:List Nat}(h:(dB (.int k) av).run H=some (x,l)):av.mj.isSome=true:=by
 cases av with
 | val cX y=>
  simp only[dB,aq.bM,Option.map_eq_some_iff,Prod.mk.injEq]at h;obtain⟨z,bk,_⟩:=h;obtain⟨rfl,_⟩:=kN bk;rfl
 | jA v=>simp[dB,kq,ad.eE,dW,BY]at h
 | _=>simp[dB,kq,ad.eE,dW,aq.none]at h
theorem RH{av:aG}{H:Nat->bJ}{x:List UInt8}{l:List Nat}(h:(dB .str av).run H=some (x,l)):av.tz.isSome=true:=by
 cases av with
 | val cX y=>
  simp only[dB,aq.bM,Option.map_eq_some_iff,Prod.mk.injEq]at h;obtain⟨z,bk,_⟩:=h;obtain⟨rfl,_⟩:=kN bk;rfl
 | jA v=>simp[dB,kq,ad.eE,dW,BY]at h
 | _=>simp[dB,kq,ad.eE,dW,aq.none]at h
theorem FG{P:Program}{w:World}{ty i:TypeId}(G:P.underlying ty=some (.pointer i))(a:Option Addr)(d:Nat):(Op.equalIn (d+1) ty (.pointer a) (.pointer none)).run P w=.ok a.isNone w:=by
 cases a<;>simp[Op.equalIn,dC G]
inductive Ca:Value->Value->Prop where
 | bool (a b:Bool):Ca (.bool a) (.bool b)
 | agg (a b:Array Value):Ca (.agg a) (.agg b)
 | bH (a b:Option Addr):Ca (.pointer a) (.pointer b)
theorem adl{P:Program}{w:World}{ty:TypeId}{x y:Operand}{u mK:Value}{e:Bool}(an:Ca u mK)(h:(Op.equalIn 10000 ty u mK).run P w=.ok e w)
  (aB:∀ a b,u=.agg a->mK=.agg b->P.eqGuardType P.depth ty=false) :
  (do eqGuard .eql ty x y u mK;binOp .eql ty u mK:Sem Value).run P w=.ok (.bool e) w/\(do eqGuard .neq ty x y u mK;binOp .neq ty u mK:Sem Value).run P w=.ok (.bool (!e)) w:=by
 cases an with
 | bool a b=>constructor<;>simp[ac8,binOp,Op.equal,Op.maxDepth,h]
 | agg a b=>constructor<;>simp[run_eqGuard_agg _ _ _ _ _ _ _ (aB a b rfl rfl),binOp,Op.equal,Op.maxDepth,h]
 | bH a b=>constructor<;>simp[ac9,binOp,Op.equal,Op.maxDepth,h]
section
variable {C:b_} {T:Nat->ad} {bf:Nat->Option aK} {o:Oper} {s:az} {res:eB}
theorem Cb{a:Act}{w:World}{κ:Nat->bC}{F:Nat->Prop}(M:bl C s a w κ F){t:ad}{av:aG}{v:Value}{x:t.ai}{l:List Nat}(h:(dB t av).run s.aa=some (x,l))(ae:bB C.P s.aa κ F w av v) :
  eu C.P t (λ_=>True) w v x:=mi M.bD (λ_ _=>trivial) h (λ_ _ _=>trivial) ae
theorem adm{op:BinOp}{ty:TypeId}{dZ ku:aG}{x y:Operand}{c:Prop}{v:aG}{a:Act}{w:World}{κ:Nat->bC}{F:Nat->Prop}(aU:dT C.P T)(M:bl C s a w κ F)
  (h:(y9 op (T ty) dZ ku).run s.aa=some (c,v)) {u mK:Value} (ah:bB C.P s.aa κ F w dZ u) (aQ:bB C.P s.aa κ F w ku mK) (RI:¬(dZ.mj.isSome=true/\ku.mj.isSome=true)) (RJ:¬(dZ.tz.isSome=true/\ku.tz.isSome=true)) :
  ∃ r,(do eqGuard op ty x y u mK;binOp op ty u mK:Sem Value).run C.P w=.ok r w/\bB C.P s.aa κ F w v r:=by
 unfold y9 at h;rw[aq.e4]at h;simp only[Option.bind_eq_some_iff]at h;obtain⟨e,he,ae⟩:=h;simp only[aq.bM]at ae;have key:Ca u mK/\(Op.equalIn 10000 ty u mK).run C.P w=.ok e w/\(∀ a b,u=.agg a->mK=.agg b->C.P.eqGuardType C.P.depth ty=false):=by
  split at he
  ·rename_i a6 p aN aH;obtain⟨i,G,_⟩:=(aU.b6 aH (by simp)).bH;simp only[bB]at aQ;subst aQ;simp only[aq.bM,Option.some.injEq]at he;subst he;obtain⟨_,nL⟩:=(dU rfl).1 ah;rcases nL with⟨nL,rfl⟩ | ⟨q,z,bj,nL,rfl,_⟩
   ·obtain rfl:=(List.cons.inj nL).1;exact⟨.bH _ _,FG G none 9999,λ_ _ h=>by cases h⟩
   ·obtain rfl:=(List.cons.inj nL).1;exact⟨.bH _ _,FG G (some q) 9999,λ_ _ h=>by cases h⟩
  ·rename_i a6 t2 w8 aH;obtain⟨i,G,_⟩:=(aU.b6 aH (by simp)).bH;simp only[bB]at aQ;subst aQ;simp only[aq.bM,Option.some.injEq]at he;subst he;obtain⟨q,bj,rfl,_⟩:=ah;exact⟨.bH _ _,FG G (some q) 9999,λ_ _ h=>by cases h⟩
  ·rename_i a6 b g off aH;obtain⟨i,G,_⟩:=(aU.b6 aH (by simp)).bH;simp only[bB]at aQ;subst aQ;simp only[aq.e3,aq.bM]at he;split at he
   ·rename_i bk;simp only[Bool.and_eq_true,decide_eq_true_eq]at bk;simp only[Option.some.injEq]at he;subst he;have:=ah.2 bk.1.symm bk.2;subst this;exact⟨.bH _ _,FG G (some _) 9999,λ_ _ h=>by cases h⟩
   grind
  ·split at he
   ·rename_i i_;simp only[Bool.and_eq_true,decide_eq_true_eq]at i_;simp only[aq.e4,Option.bind_eq_some_iff,aq.bM,Option.some.injEq]at he;obtain⟨⟨w9,e1⟩,E,⟨Kc,og⟩,U,rfl⟩:=he;have b4:=Cb M E ah;have cv:=Cb M U aQ;generalize p6:T ty=t at *
    cases t with
    | bool=>
     have dp:=aU.b6 p6 (by simp);refine⟨?_,(Ka .bool 10000 rfl (by decide)).1 dp b4 cv,?_⟩
     ·rw[ff.1 b4,ff.1 cv];exact .bool _ _
     simp_all
    | int k=>exact (RI ⟨RG E,RG U⟩).elim
    | str=>exact (RJ ⟨RH E,RH U⟩).elim
    | st t=>
     have dp:=aU.b6 p6 (by simp);refine⟨?_,(Ka (.st t) 10000 i_.1 (by omega)).1 dp b4 cv,λ_ _ _ _=>dp.B_.2.1⟩;obtain⟨⟨_,rfl,_⟩,_⟩:=b4;obtain⟨⟨_,rfl,_⟩,_⟩:=cv;exact .agg _ _
    | ay t1 t2=>have:=aU.b6 p6 (by simp);unfold b9 at this;simp only[cG,Bool.false_eq_true]at this
    | cT=>cases i_.1
    | slice _=>cases i_.1
    | array _ _=>cases i_.1
    | bH _=>cases i_.1
    | map _ _=>cases i_.1
    | fn _ _=>cases i_.1
    | cr _=>cases i_.1
    | et=>cases i_.1
   ·cases he
 obtain⟨aP,aR,bO⟩:=key;have:=adl (x:=x) (y:=y) aP aR bO;cases op<;>simp only[reduceCtorEq,Option.some.injEq,Prod.mk.injEq]at ae;case eql=>obtain⟨rfl,rfl⟩:=ae;exact⟨_,this.1,ff.2 rfl⟩
 case neq=>obtain⟨rfl,rfl⟩:=ae;exact⟨_,this.2,ff.2 rfl⟩
theorem adn(aU:dT C.P T){op:BinOp}{ty mO:TypeId}{x y:Operand}(bg:∀ i,o.dst=some i->i<C.nt)(af:o.op=.binOp op ty x y mO)(h:(bw C.aM T bf (a7 C.aM s.ax) o).run s.aa=some res):cJ C o s res:=by
 simp only[bw,af]at h;have zh:∀ c,o.op≠.defer c:=by grind
 have mP:∀ (a:Act) (w:World) (r:Value),(do eqGuard op ty x y (a.eval x) (a.eval y);binOp op ty (a.eval x) (a.eval y):Sem Value).run C.P w=.ok r w->(execOp a.eval o).run C.P w=.ok (.value r) w:=by
  intro a w r M;simp only[execOp,af,Sem.run_bind]at M ⊢;simp_all
 split at h
 ·rename_i k m k' n ah aQ;have fin:∀ (c:Prop) (v:aG),(∀ (w:World) κ F,c->fU k m->∃ r,(binOp op ty (.int k m) (.int k' n)).run C.P w=.ok r w/\bB C.P s.aa κ F w v r)->
    res=⟨(use (a7 C.aM s.ax x)).1/\(use (a7 C.aM s.ax y)).1,c,v,[]⟩->cJ C o s res:=by
   intro c v al gu;subst gu;refine cJ.pure zh bg λa w κ F M bd hc=>?_;have E:=oo (cO M x rfl bd.1) ah;have U:=oo (cO M y rfl bd.2) aQ;obtain⟨r,b4,cv⟩:=al w κ F hc E.2;exact⟨r,mP a w r (by simp[E.1,U.1,RE,b4]),cv⟩
  split at h
  ·split at h
   ·rename_i c v aD;simp only[bN,aq.bM,Option.some.injEq]at h;exact fin c v (λw κ F hc ba=>RF aD hc ba) h.symm
   ·cases h
  ·split at h
   ·rename_i c v aD;simp only[bN,aq.bM,Option.some.injEq]at h;exact fin c v (λw κ F hc ba=>RF aD hc ba) h.symm
   ·cases h
  ·split at h
   ·rename_i vb;subst vb;split at h
    ·rename_i c v aD;simp only[bN,aq.bM,Option.some.injEq]at h;exact fin c v (λw κ F hc ba=>ac_ aD hc ba) h.symm
    ·cases h
   ·cases h
 ·rename_i RI;split at h
  ·rename_i m n ah aQ;split at h
   ·rename_i c v aD;simp only[bN,aq.bM,Option.some.injEq]at h;subst h;refine cJ.pure zh bg λa w κ F M bd hc=>?_;have E:=J' (cO M x rfl bd.1) ah;have U:=J' (cO M y rfl bd.2) aQ;obtain⟨r,b4,cv⟩:=ac' (P:=C.P) (H:=s.aa) (κ:=κ) (F:=F) (w:=w) (t:=ty) aD hc;exact⟨r,mP a w r (by simp[E.1,U.1,ac7,b4]),cv⟩
   ·cases h
  ·rename_i RJ;simp only[bN,aq.e4,Option.bind_eq_some_iff,aq.bM,Option.some.injEq]at h;obtain⟨⟨c,v⟩,aD,rfl⟩:=h;refine cJ.pure zh bg λa w κ F M bd hc=>?_;obtain⟨r,b4,cv⟩:=adm (x:=x) (y:=y) aU M aD (cO M x rfl bd.1) (cO M y rfl bd.2)
    (λ⟨aw,aN⟩=>by
     obtain⟨⟨k,m⟩,aw⟩:=Option.isSome_iff_exists.1 aw;obtain⟨⟨k',dx⟩,aN⟩:=Option.isSome_iff_exists.1 aN;grind)
    (λ⟨aw,aN⟩=>by
     obtain⟨m,aw⟩:=Option.isSome_iff_exists.1 aw;obtain⟨dx,aN⟩:=Option.isSome_iff_exists.1 aN;grind)
   grind
theorem vc{w:World}{b:Nat}{cs:Array Value}{T:TypeId}{fi:Nat×Nat}(h:w.heap[b]?=some (.cells cs T fi))(off:Nat):w.cell? ⟨b,off,none⟩=cs[off]?:=by
 simp[World.cell?,h]
theorem RL{P:Program}{w:World}{t:ad}{id:TypeId}(h:b9 P t id)(aj:t.isAgg=false){p:Addr}{v:Value}(ae:w.cell? p=some v):(loadVar id p).run P w=.ok v w:=by
 simp[loadVar,zd h,aj,ae]
theorem RM(aU:dT C.P T){ty:TypeId}{dZ v:aG}{u:Value}{a:Act}{w:World}{κ:Nat->bC}{F:Nat->Prop}(M:bl C s a w κ F)(h:(y_ (T ty) dZ).run s.aa=some v)(ah:bB C.P s.aa κ F w dZ u) :
  ∃ r,(Instr.loadAt ty u).run C.P w=.ok r w/\bB C.P s.aa κ F w v r:=by
 generalize p6:T ty=t at *
 cases dZ with
 | dV cX d=>
  simp only[y_,aq.bM]at h;split at h
  ·rename_i hc;obtain⟨rfl,hc⟩:=hc;simp only[Option.some.injEq]at h;subst h;obtain⟨p,bj,rfl,U,ag⟩:=ah;have dp:=aU.b6 p6 (by intro e;subst e;cases hc);obtain⟨r,b4,cv⟩:=J_ dp U.J9 ag;exact⟨r,by simp[Instr.loadAt,Instr.sureAddr,b4],cv⟩
  grind
 | aW b g off=>
  simp only[y_,aq.e3,aq.bM]at h;split at h
  ·rename_i aB;split at h
   ·rename_i t0 f bS;have ae:=ah.2 aB.symm (by rw[bS];rfl);subst ae;have aS:=M.bD b;unfold cF at aS;rw[bS]at aS;obtain⟨cs,hT,bE,c2,c3⟩:=aS;split at h
    ·rename_i aj;split at h
     ·rename_i FH;simp only[Option.some.injEq]at h;subst h;have dp:=aU.b6 p6 (by intro e;subst e;cases aj);have Kd:t.isAgg=false:=by cases t<;>simp_all[ad.eE,ad.isAgg]
      refine⟨cs.getD off Go.undef,?_,(c3 off FH).1⟩;simp only[Instr.loadAt,Instr.sureAddr,Sem.run_bind,Sem.run_pure,Result.andThen_ok];refine RL dp Kd ?_;rw[vc bE];simp_all
     grind
    ·split at h
     ·rename_i RN;split at h
      ·rename_i FH;simp only[Option.some.injEq]at h;subst h;have dp:=aU.b6 p6 (by intro e;subst e;cases RN);let aC:=(List.range t.size).map λj=>cs.getD (off+j) Go.undef;refine⟨.agg aC.toArray,?_,aC,rfl,by grind,λi G=>?_⟩
       ·simp only[Instr.loadAt,Instr.sureAddr,Sem.run_bind,Sem.run_pure,Result.andThen_ok,loadVar,zd dp,RN,if_true,dp.size];rw[run_loadCells w ⟨(κ b).aa,off,none⟩ t.size (λj=>cs.getD (off+j) Go.undef)]
        ·rfl
        ·intro j aE;rw[va,vc bE];simp[Array.getD_eq_getD_getElem?,c2,show off+j<t0.size by omega]
       grind
      grind
     grind
   ·rename_i t0 y bS;have ae:=ah.2 aB.symm (by rw[bS];rfl);subst ae;have aS:=M.bD b;unfold cF at aS;rw[bS]at aS;obtain⟨bj,d1,d2⟩:=aS;split at h
    ·rename_i hc;simp only[Option.map_eq_some_iff]at h;obtain⟨z,bk,rfl⟩:=h;obtain⟨bE,c2,c3,rfl,dy,dO⟩:=Rt t0 d2 bk;have dp:=aU.b6 p6 (by intro e;subst e;cases hc);have cV:kv w ⟨(κ b).aa,off,none⟩ c2:=by
      refine⟨λ_=>rfl,λj aE=>?_⟩;have:=d1.2.2 (bE.length+j) (by grind);simp_all
     obtain⟨r,b4,cv⟩:=J_ dp cV dO;exact⟨r,by simp[Instr.loadAt,Instr.sureAddr,b4],cv⟩
    grind
   grind
  grind
 | oh b g i off=>
  simp only[y_,aq.e3,aq.bM]at h;split at h
  ·rename_i aB;have fin:∀ (e:ad) (xs:List e.ai),(s.aa b).body.fg=true->(s.aa b).body.len=xs.length->(s.aa b).body.e2=e.size->
     (∀ (G:i<xs.length),(κ b).e8=false->∃ bj,kv w ⟨(κ b).aa,(κ b).off+i*e.size,none⟩ bj/\bI C.P e F w bj xs[i])->
     (if t.eE||t.isAgg then (r4 e (xs.getD i e.de) off t).map (.val t) else none)=some v->∃ r,(Instr.loadAt ty u).run C.P w=.ok r w/\bB C.P s.aa κ F w v r:=by
    intro e xs ba hlen Cc jk ae;split at ae
    ·rename_i hc;simp only[Option.map_eq_some_iff]at ae;obtain⟨z,bk,rfl⟩:=ae;obtain⟨aP,aR,bO⟩:=ah.2 aB.symm ba;subst bO;rw[hlen]at aP;obtain⟨bj,d1,d2⟩:=jk aP aR;have Ke:xs.getD i e.de=xs[i]:=by grind
     rw[Ke]at bk;obtain⟨bE,c2,c3,rfl,dy,dO⟩:=Rt e d2 bk;have dp:=aU.b6 p6 (by intro e;subst e;cases hc);have cV:kv w ⟨(κ b).aa,(κ b).off+i*(s.aa b).body.e2+off,none⟩ c2:=by
      refine⟨λ_=>rfl,λj aE=>?_⟩;have:=d1.2 (bE.length+j) (by grind);grind
     obtain⟨r,b4,cv⟩:=J_ dp cV dO;exact⟨r,by simp[Instr.loadAt,Instr.sureAddr,b4],cv⟩
    grind
   have aS:=M.bD b;unfold cF at aS;split at h
   ·rename_i e xs bS;rw[bS]at aS;refine fin e xs (by rw[bS];rfl) (by rw[bS];rfl) (by rw[bS];rfl) (λG aA=>?_) h;obtain⟨cs,hT,bE,c2,c3,c4,c5⟩:=aS.2 aA;obtain⟨bj,d1,d2⟩:=c5 i G;exact⟨bj,⟨λ_=>rfl,λj aE=>by rw[vc bE];grind⟩,d2⟩
   ·rename_i e xs bS;rw[bS]at aS;refine fin e xs (by rw[bS];rfl) (by rw[bS];rfl) (by rw[bS];rfl) (λG aA=>?_) h;simp only[jB,bI,bC.slice,aA,Bool.false_eq_true,if_false]at aS;obtain⟨a',cap,aw,m1,m2,m3,m4⟩:=aS;simp only[List.cons.injEq,Value.slice.injEq,and_true]at aw;obtain⟨rfl,_,rfl⟩:=aw;obtain⟨eb,ee,jl⟩:=m4 _ rfl (by omega);obtain⟨bj,d1,d2⟩:=jl i G;exact⟨bj,d1.J9,d2⟩
   grind
  grind
 | _=>cases h
end
end Go.Fer
namespace Go.Fer
open Go.RowKit
section
variable {C:b_} {T:Nat->ad} {bf:Nat->Option aK} {o:Oper} {s:az} {res:eB}
theorem ado(aU:dT C.P T){ty:TypeId}{x:Operand}(bg:∀ i,o.dst=some i->i<C.nt)(af:o.op=.load ty x)(h:(bw C.aM T bf (a7 C.aM s.ax) o).run s.aa=some res):cJ C o s res:=by
 simp only[bw,af]at h;split at h
 ·rename_i cD b g i ah;simp only[RB,aq.e3,aq.bM]at h;split at h
  ·rename_i e xs lf v bS;split at h
   ·rename_i hc;obtain⟨aB,aj⟩:=hc;simp only[Option.some.injEq]at h;subst h;refine cJ.pure (by grind) bg λa w κ F M bd G=>?_;have G:i=lf:=G;subst G;have E:=(cO M x ah bd).2 aB.symm (by rw[bS];rfl);have aS:=M.bD b;unfold cF at aS;rw[bS]at aS E;obtain⟨_,cs,hT,bE,c2,c3,c4,c5,lO,oq,w_⟩:=aS;have dp:=aU.b6 (t:=T ty) rfl (by intro e;rw[e]at aj;cases aj);have Kd:(T ty).isAgg=false:=by cases aH:T ty<;>simp_all[ad.eE,ad.isAgg]
    refine⟨_,?_,oq⟩;have tD:w.cell? ⟨(κ b).aa,(κ b).off+i,none⟩=some (cs.getD ((κ b).off+i) Go.undef):=by
     rw[vc bE];have:(κ b).off+i<cs.size:=by
      have:i<(κ b).cap:=by omega
      rw[c5.1]at c2;omega
     simp[this]
    have an:a.eval x=.pointer (some ⟨(κ b).aa,(κ b).off+i,none⟩):=by rw[E.2.2];simp[bQ.e2,c5.1]
    simp[execOp,af,an,Instr.loadAt,Instr.sureAddr,RL dp Kd tD]
   ·cases h
  ·cases h
 ·rename_i cD dZ _ ah;simp only[bN,aq.e4,Option.bind_eq_some_iff,aq.bM,Option.some.injEq]at h;obtain⟨v,ae,rfl⟩:=h;refine cJ.pure (by grind) bg λa w κ F M bd _=>?_;obtain⟨r,b4,cv⟩:=RM aU M ae (cO M x ah bd);exact⟨r,by simp[execOp,af,b4],cv⟩
theorem b9.str{P:Program}{id:TypeId}(h:b9 P .str id):P.underlying id=some .string:=by
 unfold b9 at h;simp only[cG,Bool.and_eq_true]at h;grind
theorem b9.int{P:Program}{k:IntKind}{id:TypeId}(h:b9 P (.int k) id):P.underlying id=some (.int k):=by
 unfold b9 at h;simp only[cG,Bool.and_eq_true]at h;grind
theorem b9.bh{P:Program}{n:Nat}{e:ad}{id:TypeId}(h:b9 P (.array n e) id):∃ i,P.underlying id=some (.array n i)/\b9 P e i/\e.size≠0:=by
 unfold b9 at h;simp only[cG,Bool.and_eq_true]at h;obtain⟨_,h⟩:=h;split at h
 ·rename_i m i hu;simp only[Bool.and_eq_true,decide_eq_true_eq,bne_iff_ne,ne_eq]at h;obtain⟨⟨rfl,U⟩,ag⟩:=h;exact⟨i,hu,U,ag⟩
 grind
theorem adp{fo:List (List Value)}{m:Nat}(h:∀ c∈fo,c.length=m){i:Nat}(G:i<fo.length):∃ p q,fo.flatten=p++(fo[i]++q)/\p.length=i*m:=by
 refine⟨(fo.take i).flatten,(fo.drop (i+1)).flatten,?_,?_⟩
 ·rw[<-List.flatten_cons,<-List.drop_eq_getElem_cons G,<-List.flatten_append,List.take_append_drop]
 ·have a1:(fo.take i).map List.length=List.replicate i m:=List.eq_replicate_iff.2 ⟨by grind,λx ah=>by
   grind⟩
  simp_all
theorem Kf{P:Program}{n:Nat}{e:ad}{F:Nat->Prop}{w:World}{cs:List Value}{xs:List e.ai}(h:bI P (.array n e) F w cs xs){i:Nat}(G:i<n):∃ p c q,cs=p++(c++q)/\p.length=i*e.size/\bI P e F w c (xs.getD i e.de):=by
 simp only[bI]at h;obtain⟨fo,rfl,E,U,ag⟩:=h;obtain⟨p,q,aP,aR⟩:=adp (m:=e.size) (λc hc=>by
  obtain⟨j,aE,rfl⟩:=List.mem_iff_getElem.1 hc;exact hO e (ag j (by omega) aE)) (show i<fo.length by omega)
 grind
theorem adq(aU:dT C.P T){ty:TypeId}{x i:Operand}(bg:∀ i,o.dst=some i->i<C.nt)(af:o.op=.index ty x i)(h:(bw C.aM T bf (a7 C.aM s.ax) o).run s.aa=some res):cJ C o s res:=by
 simp only[bw,af]at h;split at h
 ·rename_i l k n aH ah G;simp only[bN,aq.bM,Option.some.injEq]at h;subst h;refine cJ.pure (by grind) bg λa w κ F M bd hc=>?_;have E:=J' (cO M x rfl bd.1) ah;have U:=oo (cO M i rfl bd.2) G;have dp:=(aU.b6 aH (by simp)).str;have cb:n.toNat<l.length:=by omega
  refine⟨.int .u8 ((l.getD n.toNat 0).toNat:Int),?_,gU.2 ⟨rfl,?_⟩⟩
  ·have e:(⟨l.toArray⟩:ByteArray)[n.toNat]?=some (l.getD n.toNat 0):=by
    have aD:n.toNat<(⟨l.toArray⟩:ByteArray).size:=by simpa [ByteArray.size]using cb
    rw[getElem?_pos (⟨l.toArray⟩:ByteArray) n.toNat aD];simp only[Option.some.injEq];show (⟨l.toArray⟩:ByteArray).data[n.toNat]=_;grind
   simp[execOp,af,Instr.index,E.1,U.1,asIntOf,dC dp,hc.1,e]
  ·have:=(l.getD n.toNat 0).toNat_lt;constructor
   ·have:IntKind.u8.min=0:=by decide
    omega
   ·have:IntKind.u8.max=255:=by decide
    omega
 ·rename_i m e k n aH G;split at h
  ·rename_i dx a6 xs ah;split at h
   ·rename_i he;obtain⟨rfl,rfl⟩:=he;simp only[bN,aq.bM,Option.some.injEq]at h;subst h;refine cJ.pure (by grind) bg λa w κ F M bd hc=>?_;have E:bB C.P s.aa κ F w (use (a7 C.aM s.ax x)).2 (a.eval x):=cO M x rfl bd.1;rw[ah]at E;have U:=oo (cO M i rfl bd.2) G;obtain⟨j,aE,qW,_⟩:=(aU.b6 aH (by simp)).bh;obtain⟨⟨cs,ae,o9⟩,nM⟩:=E;rw[ae]at nM;obtain⟨p,c,q,aw,aN,cE⟩:=Kf nM (i:=n.toNat) (by omega);obtain⟨v,g1,ew⟩:=qU qW (cs:=cs) aw cE;refine⟨v,?_,ew⟩;rw[aN]at g1;simp[execOp,af,Instr.index,ae,U.1,asIntOf,dC aE,hc.1,hc.2,qW.size,g1]
   ·cases h
  ·rename_i k' f ah;split at h
   ·rename_i al;simp only[bN,aq.bM,Option.some.injEq]at h;subst h;refine cJ.pure (by grind) bg λa w κ F M bd hc=>?_;have E:bB C.P s.aa κ F w (use (a7 C.aM s.ax x)).2 (a.eval x):=cO M x rfl bd.1;rw[ah]at E;have U:=oo (cO M i rfl bd.2) G;obtain⟨j,aE,qW,cd⟩:=(aU.b6 aH (by simp)).bh;obtain⟨aC,ae,aj,fT⟩:=E;have cb:n.toNat*e.size+e.size<=aC.length:=by
     rw[aj,al];have:(n.toNat+1)*e.size<=m*e.size:=Nat.mul_le_mul_right _ (by omega);grind
    by_cases ba:e.isAgg=true
    ·simp only[if_pos ba];refine⟨_,by simp[execOp,af,Instr.index,ae,U.1,asIntOf,dC aE,hc.1,hc.2,qW.size,RD qW ba];rfl,(aC.toArray.extract (n.toNat*e.size) (n.toNat*e.size+e.size)).toList,by simp,?_,λq br=>?_⟩
     ·simp;omega
     ·have adr:(aC.toArray.extract (n.toNat*e.size) (n.toNat*e.size+e.size)).toList.getD q Go.undef=aC.getD (n.toNat*e.size+q) Go.undef:=by
       simp[List.getD_eq_getElem?_getD,br]
      rw[adr];exact fT _ (by omega)
    ·simp only[if_neg ba];have a1:=fT (n.toNat*e.size) (by omega);refine⟨aC.getD (n.toNat*e.size) Go.undef,?_,a1.1⟩;have aB:aC.toArray[n.toNat*e.size]?=some (aC.getD (n.toNat*e.size) Go.undef):=by
      grind
     simp[execOp,af,Instr.index,ae,U.1,asIntOf,dC aE,hc.1,hc.2,qW.size,RC qW (by grind) aB]
   ·cases h
  ·cases h
 ·cases h
theorem r8:∀ {l:List aG},jG l->∀ i,i<l.length->(use (l.getD i .undef)).1
 | [],_,i,G=>by grind
 | a::l,h,0,_=>by
  cases a<;>first | trivial | exact h.1
 | a::l,h,i+1,G=>by
  have ds:jG l:=by cases a<;>first | exact h | exact h.2
  have:=r8 ds i (by grind);grind
theorem ads{k:bC}{n:Nat}(h:k.e8=true->n=0):∃ a cap,k.slice n=.slice a n cap:=by
 unfold bC.slice;split
 ·rename_i aA;rw[h aA];exact⟨none,0,rfl⟩
 ·exact⟨_,_,rfl⟩
theorem zi{a:Act}{w:World}{κ:Nat->bC}{F:Nat->Prop}(M:bl C s a w κ F){b:Nat}(ba:(s.aa b).body.fg=true):((κ b).e8=true->(s.aa b).body.len=0)/\(s.aa b).body.len<2 ^ 63:=by
 have aS:=M.bD b;unfold cF at aS;cases bS:(s.aa b).body with
 | bh e xs=>
  rw[bS]at aS;refine⟨λaA=>by rw[aS.1 aA];rfl,?_⟩;simp only[bQ.len];cases aA:(κ b).e8 with
  | true=>rw[aS.1 aA];simp
  | false=>obtain⟨cs,hT,bE,c2,c3,c4,c5⟩:=aS.2 aA;omega
 | hC e xs=>
  rw[bS]at aS;simp only[jB,bI,bC.slice]at aS;obtain⟨a',cap,aw,m1,m2,m3,m4⟩:=aS;simp only[bQ.len];grind
 | gn e xs i v=>
  rw[bS]at aS;obtain⟨aX,cs,hT,bE,c2,c3,c4,_⟩:=aS;exact⟨λaA=>(by rw[aX]at aA;cases aA),(by simp only[bQ.len];omega)⟩
 | _=>rw[bS]at ba;cases ba
theorem Kg{a:Act}{w:World}{κ:Nat->bC}{F:Nat->Prop}(M:bl C s a w κ F){b:Nat}(ba:(s.aa b).body.fg=true)(aA:(κ b).e8=false):(s.aa b).body.len<=(κ b).cap:=by
 have aS:=M.bD b;unfold cF at aS;cases bS:(s.aa b).body with
 | bh e xs=>
  rw[bS]at aS;obtain⟨cs,hT,bE,c2,c3,c4,c5⟩:=aS.2 aA;exact c3
 | hC e xs=>
  rw[bS]at aS;simp only[jB,bI,bC.slice,aA,Bool.false_eq_true,if_false]at aS;obtain⟨a',cap,aw,m1,m2,m3,m4⟩:=aS;simp only[List.cons.injEq,Value.slice.injEq,and_true]at aw;simp only[bQ.len];omega
 | gn e xs i v=>
  rw[bS]at aS;obtain⟨aX,cs,hT,bE,c2,c3,c4,_⟩:=aS;exact c3
 | _=>rw[bS]at ba;cases ba
theorem adt{a:Act}{w:World}{κ:Nat->bC}{F:Nat->Prop}(M:bl C s a w κ F){b aY G:Nat}(ba:(s.aa b).body.fg=true){v:Value}(E:aY<=G)(U:G<=(s.aa b).body.len)(aD:Fq (κ b) (s.aa b).body.e2 aY G v) :
  ∃ a cap,v=.slice a (G - aY) cap/\G - aY<2 ^ 63:=by
 have aA:=zi M ba;rcases aD with⟨aP,rfl⟩ | ⟨aP,o,rfl,_⟩
 ·simp_all
 grind
theorem Cd{n:Nat}(h:n<2 ^ 63):fU .i64 (n:Int):=by
 unfold fU;have E:IntKind.i64.min=-9223372036854775808:=by decide
 have U:IntKind.i64.max=9223372036854775807:=by decide
 omega
theorem b9.mp{P:Program}{k v:ad}{id:TypeId}(h:b9 P (.map k v) id):∃ i j,P.underlying id=some (.map i j)/\b9 P k i/\b9 P v j:=by
 unfold b9 at h;simp only[cG,Bool.and_eq_true]at h;obtain⟨_,h⟩:=h;split at h
 ·rename_i i j G;simp only[Bool.and_eq_true]at h;exact⟨i,j,G,h.1,h.2⟩
 grind
theorem adu(aU:dT C.P T){t:TypeId}{dZ:aG}{c:Prop}{n:Int}{u:Value}{a:Act}{w:World}{κ:Nat->bC}{F:Nat->Prop}(M:bl C s a w κ F)(h:(Fu (T t) dZ).run s.aa=some (c,n))(hc:c)(ah:bB C.P s.aa κ F w dZ u)(ty:TypeId) :
  (Builtin.len_ #[t] ty #[u]).run C.P w=.ok (.int .i64 n) w/\fU .i64 n:=by
 have axz:∀ e a' m cap,T t=.slice e->u=.slice a' m cap->(m:Int)=n->m<2 ^ 63->(Builtin.len_ #[t] ty #[u]).run C.P w=.ok (.int .i64 n) w/\fU .i64 n:=by
  intro e a' m cap aH hu hm cb;obtain⟨i,G,_⟩:=(aU.b6 aH (by simp)).sl;subst hu;rw[<-hm];exact⟨by simp[Builtin.len_,dC G,goInt],Cd cb⟩
 have RO:∀ k v r es clk m,T t=.map k v->u=.map (some r)->w.heap[r]?=some (.map es clk)->es.size=m->(m:Int)=n->bP m->(Builtin.len_ #[t] ty #[u]).run C.P w=.ok (.int .i64 n) w/\fU .i64 n:=by
  intro k v r es clk m aH hu hw o' hm cb;obtain⟨i,j,G,_⟩:=(aU.b6 aH (by simp)).mp;subst hu;rw[<-hm,<-o'];unfold bP at cb;refine⟨?_,Cd (by omega)⟩;simp[Builtin.len_,dC G,goInt,getObj,Sem.run,hw]
 unfold Fu at h;split at h
 ·rename_i e aH;split at h
  ·rename_i a6 xs;simp only[aq.bM,Option.some.injEq,Prod.mk.injEq]at h;obtain⟨_,ah⟩:=(dU rfl).1 ah;obtain⟨a',cap,aw,m1,m2,m3,m4⟩:=ah;grind
  ·simp only[aq.bM,Option.some.injEq,Prod.mk.injEq]at h;simp only[bB]at ah;grind
  ·rename_i b g;simp only[aq.e3,aq.bM]at h;split at h
   ·rename_i bk;simp only[Bool.and_eq_true,decide_eq_true_eq]at bk;simp only[Option.some.injEq,Prod.mk.injEq]at h;have ae:=ah.2 bk.1.symm bk.2;have aA:=zi M bk.2;obtain⟨a',cap,he⟩:=ads (k:=κ b) aA.1;grind
   grind
  ·rename_i b g aY G;simp only[aq.e3,aq.bM]at h;split at h
   ·rename_i bk;simp only[Bool.and_eq_true,decide_eq_true_eq]at bk;simp only[Option.some.injEq,Prod.mk.injEq]at h;obtain⟨⟨aP,aR⟩,bO⟩:=ah.2 bk.1.symm bk.2;obtain⟨a',cap,he,cb⟩:=adt M bk.2 aP aR bO;grind
   grind
  ·cases h
 ·rename_i aH;split at h
  ·rename_i xs;simp only[aq.bM,Option.some.injEq,Prod.mk.injEq]at h;obtain⟨rfl,cb⟩:=me.1 ah;have dp:=(aU.b6 aH (by simp)).str;rw[<-h.2];have aD:ByteArray.size ⟨xs.toArray⟩=xs.length:=by rfl
   exact⟨by simp[Builtin.len_,dC dp,goInt,aD],Cd (by omega)⟩
  ·cases h
 ·rename_i k v aH;split at h
  ·rename_i k' h2 xs;simp only[aq.bM,Option.some.injEq,Prod.mk.injEq]at h;obtain⟨rfl,h⟩:=h;obtain⟨_,ah⟩:=(dU rfl).1 ah;rcases ah with⟨aw,rfl⟩ | ⟨r,es,clk,aw,m1,m2,m3,_⟩
   ·obtain rfl:=(List.cons.inj aw).1;obtain⟨i,j,G,_⟩:=(aU.b6 aH (by simp)).mp;rw[<-h];exact⟨by simp[Builtin.len_,dC G,goInt],Cd (by simp)⟩
   grind
  ·rename_i b g;simp only[aq.e3,aq.bM]at h;split at h
   ·rename_i aB;split at h
    ·rename_i k' h2 es bS;simp only[Option.some.injEq,Prod.mk.injEq]at h;obtain⟨rfl,h⟩:=h;have aS:=M.bD b;unfold cF at aS;rw[bS]at aS;obtain⟨ms,clk,dy,dO⟩:=aS;exact RO k v _ ms clk es.length aH (ah.2 aB.symm (by rw[bS];rfl)) dy dO.1 h hc
    ·rename_i k' h2 es bS;simp only[Option.some.injEq,Prod.mk.injEq]at h;obtain⟨rfl,h⟩:=h;have aS:=M.bD b;unfold cF at aS;rw[bS]at aS;rcases aS with⟨aw,_⟩ | ⟨r,ms,clk,aw,Ce,dy,dO,_⟩
     ·cases aw
     ·simp only[List.cons.injEq,Value.map.injEq,Option.some.injEq,and_true]at aw;subst aw;exact RO k v _ ms clk es.length aH (ah.2 aB.symm (by rw[bS];rfl)) dy dO h hc
    grind
   grind
  ·cases h
 ·cases h
theorem xa{b:Builtin}{args:Array Operand}{dn:Array TypeId}{a:Act}{w w':World}{v:Value}(af:o.op=.call { callee:=.builtin b,args:=args,argTypes:=dn })
  (h:(builtin b dn o.type (args.map fun | .const _=>true | _=>false) (args.map a.eval)).run C.P w=.ok (.value v) w'):(execOp a.eval o).run C.P w=.ok (.value v) w':=by
 simp only[execOp,af,Sem.run_bind,resolve,Sem.run_pure,Result.andThen_ok,invoke];exact h
theorem adv(aU:dT C.P T){args:Array Operand}{dn:Array TypeId}(bg:∀ i,o.dst=some i->i<C.nt)(af:o.op=.call { callee:=.builtin .len,args:=args,argTypes:=dn })(h:(bw C.aM T bf (a7 C.aM s.ax) o).run s.aa=some res):cJ C o s res:=by
 obtain⟨args⟩:=args;obtain⟨dn⟩:=dn;simp only[bw,af,mN,B3]at h;split at h
 ·rename_i x t;simp only[bN,aq.e4,Option.bind_eq_some_iff,aq.bM,Option.some.injEq]at h;obtain⟨⟨c,n⟩,aA,rfl⟩:=h;refine cJ.pure (by grind) bg λa w κ F M bd hc=>?_;obtain⟨E,U⟩:=adu aU M aA hc (cO M x rfl bd) o.type;refine⟨_,xa af ?_,gU.2 ⟨rfl,U⟩⟩;simp[builtin,E]
 ·cases h
theorem adw(aU:dT C.P T){args:Array Operand}{dn:Array TypeId}(bg:∀ i,o.dst=some i->i<C.nt)(af:o.op=.call { callee:=.builtin .cap,args:=args,argTypes:=dn })(h:(B5 T (a7 C.aM s.ax) args.toList dn.toList).run s.aa=some res):cJ C o s res:=by
 obtain⟨args⟩:=args;obtain⟨dn⟩:=dn;simp only[B5]at h;split at h
 ·rename_i x t;split at h
  ·rename_i e cD aH hu;simp only[bN,aq.bM,Option.some.injEq]at h;subst h;refine cJ.pure (by grind) bg λa w κ F M bd hc=>?_;have ae:a.eval x=.slice none 0 0:=cO M x hu bd;obtain⟨i,G,_⟩:=(aU.b6 aH (by simp)).sl;refine⟨.int .i64 0,xa af ?_,gU.2 ⟨rfl,by decide⟩⟩;simp[builtin,Builtin.cap_,ae,dC G,goInt]
  ·cases h
 ·cases h
theorem RP{a:Act}{w:World}{κ:Nat->bC}{F:Nat->Prop}(M:bl C s a w κ F){k:IntKind}:∀ (l:List Operand) {ca:Prop} {h4:z1'},mM (a7 C.aM s.ax) k l=some (ca,h4)->ca->l.map a.eval=h4.map (Value.int k)/\∀ n∈h4,fU k n
 | [],_,_,h,_=>by cases h
 | [x],ca,h4,h,bd=>by
  simp only[mM]at h;split at h
  ·rename_i k' n ah;split at h
   ·rename_i al;subst al;cases h;have E:=oo (cO M x rfl bd) ah;exact⟨by simp[E.1],by simpa using E.2⟩
   ·cases h
  ·cases h
 | x::y::l,ca,h4,h,bd=>by
  simp only[mM]at h;split at h
  ·rename_i k' n axA axB ah aj;split at h
   ·rename_i al;subst al;cases h;have E:=oo (cO M x rfl bd.1) ah;have U:=RP M (y::l) aj bd.2;exact⟨by rw[List.map_cons,U.1,E.1];rfl,λm hm=>by
     rcases List.mem_cons.1 hm with rfl | hm
     ·exact E.2
     ·exact U.2 m hm⟩
   ·cases h
  ·cases h
theorem Kh{k:IntKind}:∀ (h4:z1') (m:Int),fU k m->(∀ n∈h4,fU k n)->((h4.map (Value.int k)).foldlM Builtin.min2 (Value.int k m)=pure (Value.int k (h4.foldl (λa b=>if b<a then b else a) m))/\fU k (h4.foldl (λa b=>if b<a then b else a) m))/\
  ((h4.map (Value.int k)).foldlM Builtin.max2 (Value.int k m)=pure (Value.int k (h4.foldl (λa b=>if b > a then b else a) m))/\fU k (h4.foldl (λa b=>if b > a then b else a) m))
 | [],m,h,_=>⟨⟨rfl,h⟩,rfl,h⟩
 | n::h4,m,h,aj=>by
  have aA:=aj n (by simp);have aj:=λq br=>aj q (List.mem_cons_of_mem n br);have E:=(Kh h4 (if n<m then n else m) (by split<;>assumption) aj).1;have U:=(Kh h4 (if n > m then n else m) (by split<;>assumption) aj).2;refine⟨⟨?_,E.2⟩,?_,U.2⟩
  ·simp only[List.map_cons,List.foldlM_cons,List.foldl_cons,Builtin.min2];rw[<-E.1];simp
  ·simp only[List.map_cons,List.foldlM_cons,List.foldl_cons,Builtin.max2];rw[<-U.1];simp
theorem RQ{b:Builtin}{f:Int->Int->Int}(W:(b=.min/\f=λa b=>if b<a then b else a)\/(b=.max/\f=λa b=>if b > a then b else a)){args:Array Operand}{dn:Array TypeId}(bg:∀ i,o.dst=some i->i<C.nt)
  (af:o.op=.call { callee:=.builtin b,args:=args,argTypes:=dn }) (h:(r6 (a7 C.aM s.ax) f args.toList).run s.aa=some res):cJ C o s res:=by
 obtain⟨args⟩:=args;simp only[r6]at h;split at h
 ·rename_i x y l;split at h
  ·rename_i k m ah;split at h
   ·rename_i ca h4 aj;simp only[bN,aq.bM,Option.some.injEq]at h;subst h;refine cJ.pure (by grind) bg λa w κ F M bd hc=>?_;have E:=oo (cO M x rfl bd.1) ah;obtain⟨U,ag⟩:=RP M (y::l) aj bd.2;obtain⟨g1,ew⟩:=Kh h4 m E.2 ag;have dX:(x::y::l).map a.eval=Value.int k m::h4.map (Value.int k):=by rw[List.map_cons,U,E.1]
    refine⟨.int k (h4.foldl f m),xa af ?_,gU.2 ⟨rfl,?_⟩⟩
    ·rcases W with⟨rfl,rfl⟩ | ⟨rfl,rfl⟩
     ·simp only[builtin,Builtin.min_,List.map_toArray,dX];rw[g1.1];rfl
     ·simp only[builtin,Builtin.max_,List.map_toArray,dX];rw[ew.1];rfl
    ·rcases W with⟨rfl,rfl⟩ | ⟨rfl,rfl⟩
     ·exact g1.2
     ·exact ew.2
   ·cases h
  ·cases h
 ·cases h
end
end Go.Fer
namespace Go.Fer
open Go.RowKit
def fi(H:Nat->bJ)(x:bJ):bJ:=match x.body with
 | .bh e xs=>⟨x.gen,.hC e xs⟩
 | .mp k v es=>⟨x.gen,.jh k v es⟩
 | .cells t f=>match (ib t ((List.range t.size).map f)).run H with
  | some (y,_,[])=>⟨x.gen,.gJ t y⟩
  | _=>x
 | _=>x
def az.cA(s:az)(l:List Nat):az:=⟨s.ax,λi=>if i∈l then fi s.aa (s.aa i) else s.aa i⟩
theorem RR(H:Nat->bJ):∀ (l:List Nat) (s:az),(∀ i∈l,s.aa i=H i\/s.aa i=fi H (H i))->s.gh ((jF l).run H)=⟨s.ax,λi=>if i∈l then fi H (H i) else s.aa i⟩
 | [],s,_=>by
  rfl
 | b::l,s,h=>by
  simp only[jF,aq.e3,aq.run_bind];have key:∀ (s':az),s'.ax=s.ax->s'.aa b=fi H (H b)->(∀ i,i≠b->s'.aa i=s.aa i)->s'.gh ((jF l).run H)=⟨s.ax,λi=>if i∈b::l then fi H (H i) else s.aa i⟩:=by
   intro s' aw aN cE;rw[RR H l s']
   ·rw[aw];congr 1;funext i;by_cases G:i=b
    ·subst G;simp only[aN,List.mem_cons,true_or,if_true];split<;>rfl
    ·rw[cE i G];simp[G]
   ·intro i G;by_cases eL:i=b
    ·subst eL;exact .inr aN
    ·rw[cE i eL];exact h i (by simp[G])
  have hE:fi H (H b)=H b->s.gh ((jF l).run H)=⟨s.ax,λi=>if i∈b::l then fi H (H i) else s.aa i⟩:=λe=>
   key s rfl (by grind) λ_ _=>rfl
  have put:∀ x,fi H (H b)=x->s.gh ((b,x)::(jF l).run H)=⟨s.ax,λi=>if i∈b::l then fi H (H i) else s.aa i⟩:=λx e=>by
   simp only[az.gh];exact key _ rfl (by simp[az.cy,e]) λi G=>by simp[az.cy,G]
  cases W:(H b).body with
  | bh e xs=>exact put _ (by simp[fi,W])
  | mp k v es=>exact put _ (by simp[fi,W])
  | cells t f=>
   simp only[aq.run_bind,aq.bM];cases aB:(ib t ((List.range t.size).map f)).run H with
   | none=>exact hE (by simp[fi,W,aB])
   | some z=>
    obtain⟨y,m,r⟩:=z;cases r with
    | nil=>exact put _ (by simp[fi,W,aB])
    | cons c r=>exact hE (by simp[fi,W,aB])
  | _=>exact hE (by simp[fi,W])
theorem tE(s:az)(l:List Nat):s.gh ((jF l).run s.aa)=s.cA l:=by
 rw[RR s.aa l s λi _=>.inl rfl];rfl
theorem Cf:∀ (l:List (Nat×bJ)) (s:az) (p:Nat×bJ),s.gh (l++[p])=(s.gh l).cy p.1 p.2
 | [],_,_=>rfl
 | q::l,s,p=>by simp only[List.cons_append,az.gh];exact Cf l _ p
def bQ.RS:bQ->Bool | .cr _ _ _ _=>true | .gn _ _ _ _=>true | _=>false
def gL(H:Nat->bJ)(l:List Nat):Prop:=∀ b∈l,(H b).body.RS=false/\∀ t f,(H b).body=.cells t f->∃ y m,(ib t ((List.range t.size).map f)).run H=some (y,m,[])/\∀ c∈m,c∈l
theorem gL.nil(H:Nat->bJ):gL H []:=λb W=>by cases W
theorem gL.append{H:Nat->bJ}{l m:List Nat}(h:gL H l)(k:gL H m):gL H (l++m):=by
 intro b W;rcases List.mem_append.1 W with W | W
 ·obtain⟨E,U⟩:=h b W;grind
 ·obtain⟨E,U⟩:=k b W;grind
theorem gL.one{H:Nat->bJ}{b:Nat}(E:(H b).body.RS=false)(U:(H b).body.fJ=false):gL H [b]:=by
 intro c hc;obtain rfl:=List.mem_singleton.1 hc;exact⟨E,λt f e=>by rw[e]at U;cases U⟩
theorem r9{H:Nat->bJ}{t:ad}{av:aG}{x:t.ai}{l:List Nat}(h:(dW t av).run H=some (x,l)):gL H l:=by
 cases av with
 | val cX y=>
  simp only[dW,aq.bM,Option.map_eq_some_iff,Prod.mk.injEq]at h;obtain⟨z,bk,rfl,rfl⟩:=h;exact .nil H
 | cu=>
  cases t<;>simp only[dW,aq.none,aq.bM,reduceCtorEq,Option.some.injEq,Prod.mk.injEq]at h;obtain⟨rfl,rfl⟩:=h;exact .nil H
 | jA u=>
  simp only[dW,aq.bM,Option.map_eq_some_iff,Prod.mk.injEq]at h;obtain⟨z,bk,rfl,rfl⟩:=h;exact .nil H
 | dV cX y=>
  cases t<;>simp only[dW,aq.none,aq.bM,reduceCtorEq,Option.map_eq_some_iff,Prod.mk.injEq]at h;obtain⟨z,bk,rfl,rfl⟩:=h;exact .nil H
 | own b g=>
  cases t<;>simp only[dW,aq.none,aq.bM,aq.e3,reduceCtorEq]at h;split at h
  ·split at h
   ·rename_i W;simp only[Option.map_eq_some_iff,Prod.mk.injEq]at h;obtain⟨z,bk,rfl,rfl⟩:=h;exact .one (by rw[W];rfl) (by rw[W];rfl)
   ·simp only[Option.map_eq_some_iff,Prod.mk.injEq]at h;obtain⟨z,bk,rfl,rfl⟩:=h;exact .nil H
   grind
  grind
 | sub b g aY G=>
  cases t<;>simp only[dW,aq.none,aq.bM,aq.e3,reduceCtorEq]at h;split at h
  ·split at h
   ·rename_i W;simp only[Option.map_eq_some_iff,Prod.mk.injEq]at h;obtain⟨z,bk,rfl,rfl⟩:=h;exact .one (by rw[W];rfl) (by rw[W];rfl)
   ·simp only[Option.map_eq_some_iff,Prod.mk.injEq]at h;obtain⟨z,bk,rfl,rfl⟩:=h;exact .nil H
   grind
  grind
 | fI b g=>
  cases t<;>simp only[dW,aq.none,aq.bM,aq.e3,reduceCtorEq]at h;split at h
  ·split at h
   ·rename_i W;simp only[Option.map_eq_some_iff,Prod.mk.injEq]at h;obtain⟨z,bk,rfl,rfl⟩:=h;exact .one (by rw[W];rfl) (by rw[W];rfl)
   ·simp only[Option.map_eq_some_iff,Prod.mk.injEq]at h;obtain⟨z,bk,rfl,rfl⟩:=h;exact .nil H
   grind
  grind
 | iy k n c=>
  cases t<;>simp only[dW,aq.none,aq.bM,reduceCtorEq]at h;split at h
  ·cases h;exact .nil H
  ·cases h
 | _=>cases h
theorem RT{H:Nat->bJ}{e:ad}(gr:∀ {cs:List aG} {x:e.ai} {l:List Nat} {r:List aG},(ib e cs).run H=some (x,l,r)->gL H l){av:aG}{x:Option e.ai}{l:List Nat}
  (h:(tw e (ib e) av).run H=some (x,l)):gL H l:=by
 have cm:(dW (.bH e) av).run H=some (x,l)->gL H l:=r9 (t:=.bH e);cases av with
 | aW b g off=>
  simp only[tw,aq.e3]at h;split at h
  ·split at h
   ·simp only[aq.bM,Option.map_eq_some_iff,Prod.mk.injEq]at h;obtain⟨z,bk,rfl,rfl⟩:=h;exact .nil H
   ·rename_i t f W;split at h
    ·rename_i aH;subst aH;simp only[aq.e4,Option.bind_eq_some_iff,aq.bM]at h;obtain⟨⟨y,m,q⟩,E,U⟩:=h;split at U
     ·rename_i br;simp only[Option.some.injEq,Prod.mk.injEq]at U;obtain⟨rfl,rfl⟩:=U;have br:q=[]:=List.isEmpty_iff.1 br;subst br;intro c hc;rcases List.mem_cons.1 hc with rfl | hc
      ·refine⟨by rw[W];rfl,λcX iC e=>?_⟩;grind
      ·obtain⟨aP,aR⟩:=gr E c hc;grind
     grind
    ·cases h
   ·cases h
  ·cases h
 | _=>exact cm h
theorem RU{H:Nat->bJ}:∀ (t:ad) {cs:List aG} {x:t.ai} {l:List Nat} {r:List aG},(ib t cs).run H=some (x,l,r)->gL H l:=by
 have p3:∀ (t:ad) (g:aG->aq (Option (t.ai×List Nat))),(∀ {av:aG} {x:t.ai} {l:List Nat},(g av).run H=some (x,l)->gL H l)->
   ∀ {cs:List aG} {x:t.ai} {l:List Nat} {r:List aG},(match cs with | c::r=>(g c).map λo=>o.map λ(x,l)=>(x,l,r) | []=>.none:aq (Option (t.ai×List Nat×List aG))).run H=some (x,l,r)->gL H l:=by
  intro t g aB cs x l r h;cases cs with
  | nil=>cases h
  | cons c cs=>
   simp only[aq.map,aq.run_bind,aq.bM,Option.map_eq_some_iff,Prod.mk.injEq]at h;grind
 intro t;induction t with
 | bool=>intro cs x l r h;exact p3 .bool (dW .bool) r9 h
 | int k=>intro cs x l r h;exact p3 (.int k) (dW (.int k)) r9 h
 | str=>intro cs x l r h;exact p3 .str (dW .str) r9 h
 | cT=>
  intro cs x l r h;simp only[ib,aq.bM,Option.some.injEq,Prod.mk.injEq]at h;obtain⟨_,rfl,rfl⟩:=h;exact .nil H
 | st t aJ=>intro cs x l r h;exact aJ h
 | ay a b fx eJ=>
  intro cs x l r h;simp only[ib,aq.e4,Option.bind_eq_some_iff,aq.bM,Option.some.injEq,Prod.mk.injEq]at h;obtain⟨⟨y,m,q⟩,E,⟨z,dx,q'⟩,U,rfl,rfl,rfl⟩:=h;exact (fx E).append (eJ U)
 | slice e aJ=>intro cs x l r h;exact p3 (.slice e) (dW (.slice e)) r9 h
 | array n e aJ=>
  intro cs xs l r h;simp only[ib]at h;have key:∀ (n:Nat) {cs:List aG} {xs:List e.ai} {l:List Nat} {r:List aG},(n.rec (motive:=λ_=>List aG->aq (Option (List e.ai×List Nat×List aG))) (λcs=>.ret (some ([],[],cs)))
     (λ_ aJ cs=>(ib e cs).cQ λ(x,l,r)=>(aJ r).cQ λ(xs,m,q)=>.ret (some (x::xs,l++m,q))) cs).run H=some (xs,l,r)->gL H l:=by
   intro n;induction n with
   | zero=>intro cs xs l r h;cases h;exact .nil H
   | succ n B0=>
    intro cs xs l r h;simp only[aq.e4,Option.bind_eq_some_iff,aq.bM,Option.some.injEq,Prod.mk.injEq]at h;obtain⟨⟨y,m,q⟩,E,⟨z,dx,q'⟩,U,rfl,rfl,rfl⟩:=h;exact (aJ E).append (B0 U)
  grind
 | bH e aJ=>intro cs x l r h;exact p3 (.bH e) (tw e (ib e)) (RT aJ) h
 | map k v wT wU=>intro cs x l r h;exact p3 (.map k v) (dW (.map k v)) r9 h
 | fn a b fx eJ=>intro cs x l r h;exact p3 (.fn a b) (dW (.fn a b)) r9 h
 | cr a aJ=>intro cs x l r h;exact p3 (.cr a) (dW (.cr a)) r9 h
 | et=>intro cs x l r h;exact p3 .et (dW .et) r9 h
theorem mQ{H:Nat->bJ}{t:ad}{av:aG}{x:t.ai}{l:List Nat}(h:(dB t av).run H=some (x,l)):gL H l:=by
 have cm:(kq t av).run H=some (x,l)->gL H l:=by
  intro h;unfold kq at h;split at h
  ·exact RT (λh=>RU _ h) h
  ·split at h
   ·exact r9 h
   ·cases h
 cases av with
 | val cX y=>
  simp only[dB,aq.bM,Option.map_eq_some_iff,Prod.mk.injEq]at h;obtain⟨z,bk,rfl,rfl⟩:=h;exact .nil H
 | agg n f=>
  simp only[dB]at h;split at h
  ·cases h
  ·simp only[aq.e4,Option.bind_eq_some_iff,aq.bM]at h;obtain⟨⟨y,m,q⟩,E,U⟩:=h;split at U
   ·simp only[Option.some.injEq,Prod.mk.injEq]at U;obtain⟨rfl,rfl⟩:=U;exact RU t E
   grind
 | _=>exact cm h
theorem zj(H:Nat->bJ)(x:bJ):fi H x=x\/(∃ e xs,x.body=.bh e xs/\fi H x=⟨x.gen,.hC e xs⟩)\/(∃ k v es,x.body=.mp k v es/\fi H x=⟨x.gen,.jh k v es⟩)\/
  ∃ t f y m,x.body=.cells t f/\(ib t ((List.range t.size).map f)).run H=some (y,m,[])/\fi H x=⟨x.gen,.gJ t y⟩:=by
 cases ah:x.body with
 | bh e xs=>exact .inr (.inl ⟨e,xs,rfl,by simp[fi,ah]⟩)
 | mp k v es=>exact .inr (.inr (.inl ⟨k,v,es,rfl,by simp[fi,ah]⟩))
 | cells t f=>
  cases aB:(ib t ((List.range t.size).map f)).run H with
  | none=>exact .inl (by simp[fi,ah,aB])
  | some z=>
   obtain⟨y,m,r⟩:=z;cases r with
   | nil=>exact .inr (.inr (.inr ⟨t,f,y,m,rfl,aB,by simp[fi,ah,aB]⟩))
   | cons c r=>exact .inl (by simp[fi,ah,aB])
 | _=>exact .inl (by simp[fi,ah])
theorem adx{H:Nat->bJ}{x:bJ}{k:bC}(h:(fi H x).body.bZ k=true):(x.body.bZ k=true/\fi H x=x):=by
 rcases zj H x with e | ⟨_,_,_,e⟩ | ⟨_,_,_,_,e⟩ | ⟨_,_,_,_,_,_,e⟩
 ·grind
 all_goals rw[e]at h;cases h
theorem RV(s:az)(l:List Nat)(κ:Nat->bC):fq s.aa κ (s.cA l).aa κ:=by
 rw[BU];intro b;simp only[az.cA];split
 ·rcases zj s.aa (s.aa b) with e | ⟨_,_,ah,e⟩ | ⟨_,_,_,ah,e⟩ | ⟨_,_,_,_,ah,_,e⟩
  ·rw[e];exact p0.refl _ _
  ·rw[e];exact⟨Nat.le_refl _,λ_=>⟨λh=>(by cases h),λ_=>⟨by rw[ah];rfl,rfl,by rw[ah];rfl,by rw[ah];rfl⟩,λh=>(by cases h),λh=>(by cases h)⟩⟩
  ·rw[e];exact⟨Nat.le_refl _,λ_=>⟨λh=>(by cases h),λh=>(by cases h),λ_=>⟨by rw[ah];rfl,rfl⟩,λh=>(by cases h)⟩⟩
  ·rw[e];exact⟨Nat.le_refl _,λ_=>⟨λ_=>⟨by rw[ah];rfl,rfl⟩,λh=>(by cases h),λh=>(by cases h),λh=>(by cases h)⟩⟩
 ·exact p0.refl _ _
theorem bl.lg{C:b_}{a:Act}{w:World}{κ:Nat->bC}{l:List Nat}{s:az}{F:Nat->Prop}(lP:gL s.aa l)(h:bl C s a w κ F) :
  ∃ F',(∀ r,F r->F' r)/\bl C (s.cA l) a w κ F'/\iW s.aa κ F' l:=by
 let F':Nat->Prop:=λr=>F r\/∃ b∈l,(s.aa b).body.bZ (κ b)=true/\(κ b).aa=r;have bo:∀ r,F r->F' r:=λr M=>.inl M;have tF:iW s.aa κ F' l:=λb W af=>.inr ⟨b,W,af,rfl⟩;have Ki:∀ b,((s.cA l).aa b).body.bZ (κ b)=true->b ∉ l/\(s.aa b).body.bZ (κ b)=true:=by
  intro b W;simp only[az.cA]at W;by_cases iD:b∈l
  ·rw[if_pos iD]at W;obtain⟨aP,aR⟩:=adx W;exfalso;obtain⟨bE,c2⟩:=lP b iD;cases ah:(s.aa b).body with
   | bh e xs=>simp[fi,ah,bQ.bZ]at W
   | mp k v es=>simp[fi,ah,bQ.bZ]at W
   | cells t f=>
    obtain⟨y,m,g,_⟩:=c2 t f ah;simp[fi,ah,g,bQ.bZ]at W
   | cr k v c r=>rw[ah]at bE;cases bE
   | gn e xs i v=>rw[ah]at bE;cases bE
   | _=>rw[ah]at aP;cases aP
  grind
 have aj:=RV s l κ;refine⟨F',bo,?_,tF⟩;refine h.move aj bo (λr M=>M.imp id λ⟨b,_,E,U⟩=>.inl ⟨b,E,U⟩) (Nat.le_refl _) (λ_ _ _=>rfl) (dc.refl _) (λ_ b=>?_) (λb W=>?_) (λb be W db e=>h.inj b be (Ki b W).2 (Ki be db).2 e) (λr M=>?_) (λb _ W=>⟨rfl,?_⟩)
 ·show cF C.P (s.cA l).aa κ F' w b;by_cases iD:b∈l
  ·have aS:=h.bD b;have Kj:(s.cA l).aa b=fi s.aa (s.aa b):=by simp[az.cA,iD]
   have lb:fi s.aa (s.aa b)=s.aa b->cF C.P (s.cA l).aa κ F' w b:=λe=>cF.lb aS aj bo (c1.refl _ _) (by grind) rfl λ_=>rfl;cases ah:(s.aa b).body with
   | bh e xs=>
    unfold cF at aS ⊢;rw[ah]at aS;rw[Kj];simp only[fi,ah,jB];exact J0 aS bo λaA=>tF b iD (by rw[ah];simp[bQ.bZ,aA])
   | mp k v es=>
    unfold cF at aS ⊢;rw[ah]at aS;rw[Kj];simp only[fi,ah,jB];exact Rq aS bo (tF b iD (by rw[ah];rfl))
   | cells t f=>
    obtain⟨y,m,g,hm⟩:=(lP b iD).2 t f ah;unfold cF at aS ⊢;rw[ah]at aS;rw[Kj];simp only[fi,ah,g,jB];obtain⟨cs,T,aP,aR,bO⟩:=aS;have iA:ey C.P s.aa κ F w ((List.range t.size).map f) cs.toList:=BZ (by omega) λi G=>by
     simp_all
    obtain⟨c,d,J2,bE,c2⟩:=J3 h.bD bo t g (λc hc=>tF c (hm c hc)) iA;cases d with
    | cons _ _=>exact c2.elim
    | nil=>
     rw[List.append_nil]at J2;refine⟨c,⟨tF b iD (by rw[ah];rfl),rfl,λj aE=>?_⟩,bE⟩;have fV:j<cs.size:=by grind
     simp only[World.cell?,aP,Nat.zero_add,Option.isSome_none,Bool.false_eq_true,if_false,Array.getElem?_eq_getElem fV];grind
   | _=>exact lb (by simp[fi,ah])
  ·exact cF.lb (h.bD b) aj bo (c1.refl _ _) (by simp[az.cA,iD]) rfl λ_=>rfl
 ·obtain⟨aP,aR⟩:=Ki b W;have af:=h.own b aR;refine⟨af.1,λao=>?_,.inl ⟨b,aR,rfl⟩⟩;rcases ao with ao | ⟨b0,m1,m2,m3⟩
  ·grind
  ·exact aP (h.inj b b0 aR m2 m3.symm ▸ m1)
 ·rcases M with M | ⟨b,_,W,rfl⟩
  ·exact h.da r M
  ·exact (h.own b W).1
 ·split at W
  ·rcases zj s.aa (s.aa b) with e | ⟨_,_,ah,e⟩ | ⟨_,_,_,ah,e⟩ | ⟨_,_,_,_,ah,_,e⟩
   ·grind
   ·rw[e]at W;simp[bQ.fJ,bQ.gV]at W
   ·rw[ah];exact .inr rfl
   ·rw[ah];exact .inl rfl
  omega
section
variable {C:b_} {T:Nat->ad} {bf:Nat->Option aK} {o:Oper} {s:az} {res:eB}
theorem bl.fK{a:Act}{w:World}{κ:Nat->bC}{F:Nat->Prop}(h:bl C s a w κ F){b:Nat}(W:b<C.nt):b<eQ:=Nat.lt_of_lt_of_le W h.gp
theorem bl.newVar{a:Act}{w:World}{κ:Nat->bC}{F:Nat->Prop}(h:bl C s a w κ F){b:Nat}(BX:b<eQ){t:ad}{l:List aG}{cs:List Value}{ty:TypeId}(aj:ey C.P s.aa κ F w l cs)(aH:l.length=t.size) :
  ∃ κ',bl C (s.cy b ⟨(s.aa b).gen+1,.cells t (hg l)⟩) a (w.alloc (.cells cs.toArray ty)) κ' F/\(κ' b).aa=w.heap.size:=by
 refine⟨_,h.alloc (k:=⟨w.heap.size,0,0,false⟩) BX (Nat.lt_succ_self _) rfl λH κ' mR BW cb=>?_,by simp⟩;refine⟨cs.toArray,ty,p1 _ _,by simp[<-aj.len,aH],λi G=>?_⟩;have:=aj.kO i (by omega);have e:cs.toArray.getD i Go.undef=cs.getD i Go.undef:=by simp
 rw[e];exact⟨bB.later cb (λ_ M=>M) (c1.alloc h.da _) this.1,this.2⟩
theorem Cg(t:ad){P:Program}{z:Value}(h:j4 t z.cells.toList=some []):(r3 t).length=t.size/\z.cells.size=t.size:=by
 obtain⟨c,e,E,U⟩:=u9 (P:=P) (H:=λ_=>⟨0,.fy⟩) (κ:=λ_=>⟨0,0,0,true⟩) (F:=λ_=>True) (w:=default) t h;rw[List.append_nil]at e;have:=hO t E;have:=U.len;grind
theorem ady(aU:dT C.P T){ty:TypeId}(bg:∀ i,o.dst=some i->i<C.nt)(af:o.op=.alloc ty)(h:(bw C.aM T bf (a7 C.aM s.ax) o).run s.aa=some res)(p6:T ty≠.cT):cJ C o s res:=by
 simp only[bw,af]at h;obtain⟨b,au,al⟩:=qV h;simp only[if_neg p6,Option.some.injEq]at al;subst al;intro a w κ F Q M _ _;have dp:=aU.b6 rfl p6;obtain⟨i,z,E,U,ag,a1,bL,dm⟩:=ks dp.kr;obtain⟨c,e,ot,z2⟩:=u9 (P:=C.P) (H:=s.aa) (κ:=κ) (F:=F) (w:=w) (T ty) bL;rw[List.append_nil]at e;have bk:=Cg (T ty) (P:=C.P) bL;obtain⟨κ',b4,cv⟩:=M.newVar (b:=b) (M.fK (bg b au)) (t:=T ty) (ty:=ty) z2 bk.1;have c6:(execOp a.eval o).run C.P w=.ok (.value (.pointer (some ⟨w.heap.size,0,none⟩))) (w.alloc (.cells c.toArray ty)):=by
  have zk:z.cells=c.toArray:=by grind
  simp[execOp,af,Instr.alloc,qT E a1,newVar,newRow,zk]
 refine ht (by grind) c6 ⟨κ',F,bl.set (s:=s.cy b _) b4 bg ⟨⟨?_,rfl⟩,λ_ _=>?_⟩⟩
 ·simp[az.cy]
 grind
theorem Kk{P:Program}{H:Nat->bJ}{κ:Nat->bC}{F:Nat->Prop}{w:World}{t:ad}{av:aG}{v:Value}{l:List aG}(h:cellsOf t av=some l)(ae:bB P H κ F w av v):ey P H κ F w l v.cells.toList:=by
 unfold cellsOf at h;split at h
 ·rename_i cX x;split at h
  ·rename_i he;subst he;simp only[Option.some.injEq]at h;subst h;obtain⟨⟨cs,rfl,_⟩,hc⟩:=ae;simp only[bI]at hc;exact y7 _ hc
  grind
 ·rename_i n f;split at h
  ·simp only[Option.some.injEq]at h;subst h;obtain⟨aC,rfl,E,U⟩:=ae;exact BZ E U
  grind
 ·rename_i n e iY a6 x;split at h
  ·simp only[Option.some.injEq]at h;subst h;obtain⟨⟨cs,rfl,_⟩,hc⟩:=ae;exact y7 _ hc
  grind
 ·rename_i n e m f;split at h
  ·simp only[Option.some.injEq]at h;subst h;obtain⟨aC,rfl,E,U⟩:=ae;exact BZ E U
  grind
 ·split at h
  ·have one:v.oneCell'=true->l=[av]->ey P H κ F w l v.cells.toList:=by
    intro E U;subst U;rw[Fl E];exact⟨⟨ae,E⟩,trivial⟩
   split at h
   ·rename_i cX x;split at h
    ·rename_i zg;obtain⟨aP,aR⟩:=(dU zg).1 ae;exact one (JX zg aR) (Option.some.inj h).symm
    grind
   ·exact one ae.1.2 (Option.some.inj h).symm
   ·exact one ae.1.2 (Option.some.inj h).symm
   ·exact one ae.1.2 (Option.some.inj h).symm
   ·refine one ?_ (Option.some.inj h).symm;obtain⟨p,bj,rfl,_⟩:=ae;rfl
   ·exact one ae.1.2 (Option.some.inj h).symm
   ·refine one ?_ (Option.some.inj h).symm;obtain⟨aC,rfl,_⟩:=ae;rfl
   ·refine one ?_ (Option.some.inj h).symm;simp only[bB]at ae;subst ae;rfl
   ·exact one ae.1.2 (Option.some.inj h).symm
   ·cases h
   ·cases h
   ·refine one ?_ (Option.some.inj h).symm;simp only[bB]at ae;subst ae;cases v<;>first | rfl | grind | grind | grind | grind
   grind
  grind
end
end Go.Fer
namespace Go.Fer
open Go.RowKit
theorem FI:∀ (l:List Value) (k off:Nat) (cs:Array Value),off+k+l.length<=cs.size->
  ((l.zipIdx k).foldl (λ(cs:Array Value) (p:Value×Nat)=>cs.setIfInBounds (off+p.2) p.1) cs).toList=cs.toList.take (off+k)++(l++cs.toList.drop (off+k+l.length))
 | [],k,off,cs,h=>by simp
 | c::l,k,off,cs,h=>by
  simp only[List.zipIdx_cons,List.foldl_cons];have cd:(cs.setIfInBounds (off+k) c).size=cs.size:=by simp
  rw[FI l (k+1) off _ (by grind)];simp only[Array.toList_setIfInBounds,List.length_cons]at h ⊢;have cb:off+k<cs.toList.length:=by grind
  rw[show off+(k+1)=(off+k)+1 from by omega];rw[List.take_set,List.drop_set];rw[if_pos (by omega)];have E:(cs.toList.take (off+k+1)).set (off+k) c=cs.toList.take (off+k)++[c]:=by
   rw[List.take_succ_eq_append_getElem cb,List.set_append_right _ _ (by grind)];have Ch:min (off+k) cs.size=off+k:=Nat.min_eq_left (by omega);simp[Ch]
  grind
section
variable {P:Program} {w:World}
theorem adz(w:World)(b off:Nat)(v:Value){cs:Array Value}{T:TypeId}{fi:Nat×Nat}(h:w.heap[b]?=some (.cells cs T fi)) :
  (w.setCell ⟨b,off,none⟩ v).heap[b]?=some (.cells (cs.setIfInBounds off v) T fi):=by
 simp[World.setCell,Array.getElem?_modify,h]
theorem vd{b:Nat}{T:TypeId}:∀ (aC:List Value) (off i:Nat) (w:World) (cs:Array Value),w.heap[b]?=some (.cells cs T (0,0))->off+i+aC.length<=cs.size->(∀ v∈aC,v.oneCell'=true)->
  ∃ w' dh,(storeCells ⟨b,off,none⟩ aC i).run P w=.ok () w'/\w'.heap[b]?=some (.cells dh T (0,0))/\dh.toList=cs.toList.take (off+i)++(aC++cs.toList.drop (off+i+aC.length))/\
   (∀ r,r≠b->w'.heap[r]?=w.heap[r]?)/\w'.heap.size=w.heap.size/\dc w w'
 | [],off,i,w,cs,h,_,_=>⟨w,cs,by rfl,h,by simp,λ_ _=>rfl,rfl,dc.refl w⟩
 | v::aC,off,i,w,cs,h,aj,ae=>by
  have cb:off+i<cs.size:=by grind
  have hc:w.cell? ⟨b,off+i,none⟩=some cs[off+i]:=by rw[vc h];simp
  have ao:w.frozen? ⟨b,off+i,none⟩=false:=by simp[World.frozen?,h]
  have E:=adz w b (off+i) v h;obtain⟨w',dh,b4,cv,ef,lh,kx,ml⟩:=vd aC off (i+1) (w.setCell ⟨b,off+i,none⟩ v) _ E (by grind) (λu hu=>ae u (by grind));refine⟨w',dh,?_,cv,?_,?_,by simp_all,dc.trans (b:=w.setCell ⟨b,off+i,none⟩ v) ⟨rfl,rfl,rfl⟩ ml⟩
  ·simp only[storeCells,Sem.run_bind,va,run_store P w _ v _ (ae v (by simp)),hc,ao,Bool.false_eq_true,if_false,Result.andThen_ok];exact b4
  ·rw[ef];have:=FI [v] 0 (off+i) cs (by grind);simp only[List.zipIdx_cons,List.zipIdx_nil,List.foldl_cons,List.foldl_nil,Nat.add_zero,List.length_singleton]at this;rw[this];have aw:(cs.toList.take (off+i)).length=off+i:=by grind
   rw[List.take_append,List.drop_append,aw];simp only[show off+(i+1) - (off+i)=1 from by omega,show off+(i+1)+aC.length - (off+i)=aC.length+1 from by omega];have aN:List.take (off+(i+1)) (cs.toList.take (off+i))=cs.toList.take (off+i):=List.take_of_length_le (by omega);have cE:List.drop (off+(i+1)+aC.length) (cs.toList.take (off+i))=[]:=List.drop_of_length_le (by omega);rw[aN,cE];simp only[List.length_cons,List.nil_append,List.append_assoc,List.cons_append];simp only[List.take_succ_cons,List.take_zero,List.drop_succ_cons,List.drop_drop,List.cons_append,List.nil_append];grind
  ·intro r M;rw[lh r M];exact Below.heap_setCell _ _ _ _ (by omega)
end
section
variable {C:b_} {T:Nat->ad} {bf:Nat->Option aK} {o:Oper} {s:az} {res:eB}
theorem adA{ty:TypeId}{x:Operand}(bg:∀ i,o.dst=some i->i<C.nt)(af:o.op=.box ty x)(h:(bw C.aM T bf (a7 C.aM s.ax) o).run s.aa=some res):cJ C o s res:=by
 simp only[bw,af]at h;split at h
 ·rename_i l aj;obtain⟨b,au,al⟩:=qV h;split at al;case isFalse=>cases al
  rename_i hlen;simp only[Option.some.injEq]at al;subst al;intro a w κ F Q M bd _;have ae:=cO M x rfl bd;obtain⟨κ',b4,cv⟩:=M.newVar (b:=b) (M.fK (bg b au)) (t:=T ty) (ty:=ty) (Kk aj ae) hlen;have c6:(execOp a.eval o).run C.P w=.ok (.value (.pointer (some ⟨w.heap.size,0,none⟩))) (w.alloc (.cells (a.eval x).cells.toList.toArray ty)):=by
   simp[execOp,af,Instr.box,newVar,newRow]
  refine ht (by grind) c6 ⟨κ',F,bl.set (s:=s.cy b _) b4 bg ⟨⟨?_,rfl⟩,λ_ _=>?_⟩⟩
  ·simp[az.cy]
  grind
 ·cases h
theorem adB{P:Program}:∀ (t:ad) {l:List Field} {off:Nat},cG P t (.inr (l,off))=true->∀ f∈l,∃ s,b9 P s f.type:=by
 intro t;induction t with
 | ay a b fx eJ=>
  intro l off h;match l,h with
  | [],h=>simp
  | [x],h=>simp only[cG,Bool.false_eq_true]at h
  | [x,y],h=>
   simp only[cG,Bool.and_eq_true]at h;intro f ao;simp only[List.mem_cons,List.not_mem_nil,or_false]at ao;rcases ao with rfl | rfl
   ·exact⟨a,h.1.1.1.2⟩
   ·exact⟨b,h.2.1.1.2⟩
  | x::y::z::l,h=>
   simp only[cG,Bool.and_eq_true]at h;intro f ao;rcases List.mem_cons.1 ao with rfl | ao
   ·exact⟨a,h.1.1.1.2⟩
   grind
 | _=>intro l off h;simp only[cG,Bool.false_eq_true]at h
theorem b9.adC{P:Program}{t:ad}{id:TypeId}(h:b9 P (.st t) id){eT:Array Field}(jj:P.underlying id=some (.struct eT)):∀ f∈eT.toList,∃ s,b9 P s f.type:=by
 obtain⟨_,_,ag,a1⟩:=h.B_;rw[jj]at a1;simp only[Option.some.injEq,TypeDesc.struct.injEq]at a1;rw[<-a1]at ag;rcases ag with ag | ⟨f,e,_,ag,_⟩ | ⟨_,e⟩
 ·exact adB t ag
 ·rw[e];intro g aB;simp only[List.mem_singleton]at aB;subst aB;exact⟨t,ag⟩
 ·rw[e];intro g aB;cases aB
theorem ey.replace{P:Program}{H:Nat->bJ}{κ:Nat->bC}{F:Nat->Prop}{w:World}{as l:List aG}{us aC:List Value}(h:ey P H κ F w as us)(k:ey P H κ F w l aC)(off:Nat) :
  ey P H κ F w (as.take off++(l++as.drop (off+l.length))) (us.take off++(aC++us.drop (off+aC.length))):=by
 have Ci:∀ {as:List aG} {us:List Value} (n:Nat),ey P H κ F w as us->ey P H κ F w (as.take n) (us.take n):=by
  intro as;induction as with
  | nil=>intro us n h;cases us<;>first | exact h.elim | grind
  | cons a as aJ=>intro us n h;cases us with
   | nil=>exact h.elim
   | cons u us=>cases n with
    | zero=>trivial
    | succ n=>exact⟨h.1,aJ n h.2⟩
 have adD:∀ {as:List aG} {us:List Value} (n:Nat),ey P H κ F w as us->ey P H κ F w (as.drop n) (us.drop n):=by
  intro as;induction as with
  | nil=>intro us n h;cases us<;>first | exact h.elim | grind
  | cons a as aJ=>intro us n h;cases us with
   | nil=>exact h.elim
   | cons u us=>cases n with
    | zero=>exact h
    | succ n=>exact aJ n h.2
 rw[<-k.len];exact (Ci off h).append (k.append (adD _ h))
theorem RW{P:Program}{H:Nat->bJ}{κ:Nat->bC}{F:Nat->Prop}{w:World}{t:ad}{id:TypeId}{eT:Array Field}(dp:b9 P (.st t) id)(jj:P.underlying id=some (.struct eT)){place:Nat->Option (Nat×Nat)}
  (r_:∀ i f s,eT[i]?=some f->b9 P s f.type->place i=some (f.offset,s.size)):∀ (ps:List (Nat×aG)) (qs:List (Nat×Value)) {as FJ:List aG} {cs:Array Value},ey P H κ F w as cs.toList->Fv t as ps=some FJ->
  ps.length=qs.length->(∀ i (h:i<ps.length) (ds:i<qs.length),ps[i].1=qs[i].1/\bB P H κ F w ps[i].2 qs[i].2)->∃ dh,Instr.fill place cs qs=some dh/\ey P H κ F w FJ dh.toList
 | [],[],as,FJ,cs,ba,ao,_,_=>by cases ao;exact⟨cs,rfl,ba⟩
 | (i,av)::ps,(lf,v)::qs,as,FJ,cs,ba,ao,hlen,fT=>by
  have aX:=fT 0 (by simp) (by simp);simp only[List.getElem_cons_zero]at aX;obtain⟨rfl,ae⟩:=aX;simp only[Fv]at ao;split at ao
  ·cases ao
  ·rename_i s off tG;split at ao
   ·cases ao
   ·rename_i l aj;split at ao
    ·rename_i hc;obtain⟨axC,nK,f1,f2,f3,f4,f5⟩:=dp.field tG;rw[jj]at f1;simp only[Option.some.injEq,TypeDesc.struct.injEq]at f1;subst f1;have an:=r_ i nK s f2 f4;rw[f3]at an;have iA:=Kk aj ae;have cd:v.cells.size=s.size:=by have:=iA.len;grind
     have o9:as.length=cs.size:=by simpa using ba.len
     have FK:=FI v.cells.toList 0 off cs (by grind);have e:(v.cells.zipIdx.foldl (λ(cs:Array Value) (p:Value×Nat)=>cs.setIfInBounds (off+p.2) p.1) cs)=((v.cells.toList.zipIdx 0).foldl (λ(cs:Array Value) (p:Value×Nat)=>cs.setIfInBounds (off+p.2) p.1) cs):=by
      rw[<-Array.foldl_toList];simp
     have adE:=ba.replace iA off;rw[hc.1]at adE;obtain⟨dh,aP,aR⟩:=RW dp jj r_ ps qs (cs:=v.cells.zipIdx.foldl (λ(cs:Array Value) (p:Value×Nat)=>cs.setIfInBounds (off+p.2) p.1) cs) (by rw[e,FK];omega) ao (by grind)
      (λj h ds=>by have:=fT (j+1) (by grind) (by grind);grind)
     refine⟨dh,?_,aR⟩;simp only[Instr.fill,an];grind
    grind
 | [],_::_,_,_,_,_,_,hlen,_=>by grind
 | _::_,[],_,_,_,_,_,hlen,_=>by grind
theorem RX:∀ {l:List (Nat×aG)},r5 l->∀ i (h:i<l.length),(use l[i].2).1
 | a::l,h,0,_=>by
  obtain⟨n,a⟩:=a;cases a<;>first | trivial | exact h.1
 | a::l,h,i+1,G=>by
  have ds:r5 l:=by obtain⟨n,a⟩:=a;cases a<;>first | exact h | exact h.2
  have:=RX ds i (by grind);grind
theorem Kl{a:Act}{w:World}{κ:Nat->bC}{F:Nat->Prop}(M:bl C s a w κ F)(ps:List (Nat×Operand))(bd:r5 (ps.map λp=>(p.1,a7 C.aM s.ax p.2))) :
  ∀ i (h:i<(iB (ps.map λp=>(p.1,a7 C.aM s.ax p.2))).length) (ds:i<(ps.map λp=>(p.1,a.eval p.2)).length),(iB (ps.map λp=>(p.1,a7 C.aM s.ax p.2)))[i].1=(ps.map λp=>(p.1,a.eval p.2))[i].1/\bB C.P s.aa κ F w (iB (ps.map λp=>(p.1,a7 C.aM s.ax p.2)))[i].2 (ps.map λp=>(p.1,a.eval p.2))[i].2:=by
 intro i h ds;have G:i<ps.length:=by grind
 have E:=RX bd i (by grind);simp only[List.getElem_map]at E;refine⟨by simp[iB],?_⟩;simp only[iB,List.getElem_map];exact o8 (j7 M _) E
theorem adF(aU:dT C.P T){ty:TypeId}{ps:Array (Nat×Operand)}(bg:∀ i,o.dst=some i->i<C.nt)(af:o.op=.build ty ps)(FL:∀ m e,T ty≠.array m e)(h:(bw C.aM T bf (a7 C.aM s.ax) o).run s.aa=some res):cJ C o s res:=by
 obtain⟨ps⟩:=ps;simp only[bw,af]at h;split at h
 ·rename_i t aH;have dp:=aU.b6 aH (by simp);split at h
  ·rename_i cs o9;simp only[bN,aq.bM,Option.some.injEq]at h;subst h;refine cJ.pure (by grind) bg λa w κ F M bd _=>?_;obtain⟨eT,jj⟩:=dp.st;obtain⟨i,z,E,U,ag,a1,bL,dm⟩:=ks dp.kr;obtain⟨c,e,ot,z2⟩:=u9 (P:=C.P) (H:=s.aa) (κ:=κ) (F:=F) (w:=w) (.st t) bL;rw[List.append_nil]at e;have adG:=dp.adC jj;have hm:=ChangeMaps.mapM_total (f:=λ(f:Field)=>(C.P.info? f.type).map λi=>(f.offset,i.size)) (0,0) (l:=eT.toList) (λf ao=>by
    obtain⟨s',r'⟩:=adG f ao;obtain⟨lf,_,zl,_⟩:=ks r'.kr;simp_all)
   have r_:=run_places (P:=C.P) w eT.toList _ hm;obtain⟨dh,aP,aR⟩:=RW (w:=w) dp jj (place:=λj=>((eT.toList.map λf=>((C.P.info? f.type).map λi=>(f.offset,i.size)).getD (0,0)))[j]?)
    (λj f s' aE r'=>by
     obtain⟨lf,_,zl,xb,_⟩:=ks r'.kr;grind)
    _ _ (by rw[e];exact z2) o9 (by simp[iB]) (Kl M ps bd)
   have hlen:cs.length=dh.size:=by simpa using aR.len
   refine⟨.agg dh,?_,dh.toList,by simp,by grind,λj aE=>?_⟩
   ·have Km:(eT.mapM λf=>do pure (f.offset,<-sizeOf f.type):Sem (Array (Nat×Nat))).run C.P w=.ok (eT.toList.map λf=>((C.P.info? f.type).map λi=>(f.offset,i.size)).getD (0,0)).toArray w:=by
     rw[Array.mapM_eq_mapM_toList];simp[r_]
    simp only[execOp,af,Instr.build,Sem.run_bind,qT E a1,Result.andThen_ok,dC jj,Km];simp_all
   ·have:=aR.kO j aE;omega
  ·cases h
 ·rename_i aH;exact absurd aH (FL _ _)
 ·cases h
end
end Go.Fer
namespace Go.Fer
open Go.RowKit
section
variable {C:b_} {T:Nat->ad} {bf:Nat->Option aK} {o:Oper} {s:az} {res:eB}
theorem Kn{P:Program}{w w':World}{t:ad}{id:TypeId}(h:b9 P t id){p:Addr}{v:Value}(cd:v.cells.size=t.size)(aD:(storeCells p v.cells.toList).run P w=.ok () w'):(storeVar id p v).run P w=.ok () w':=by
 simp[storeVar,h.size,cd,aD]
theorem adH(aU:dT C.P T){ty:TypeId}{x y:Operand}(bg:o.dst=none)(af:o.op=.store ty x y)(h:(bw C.aM T bf (a7 C.aM s.ax) o).run s.aa=some res):cJ C o s res:=by
 simp only[bw,af]at h;split at h
 ·rename_i cD b g i ah;unfold J7 at h;split at h
  ·rename_i be g' aQ;simp only[aq.e3,aq.bM]at h;split at h
   ·rename_i e xs lf v bS;split at h
    ·rename_i hc;obtain⟨aB,aj⟩:=hc;simp only[Option.some.injEq]at h;subst h;intro a w κ F Q M bd G;have G:i=lf:=G;subst G;have E:=(cO M x ah bd.1).2 aB.symm (by rw[bS];rfl);have ae:=cO M y (av:=.own be g') (p:=(use (a7 C.aM s.ax y)).1) (by rw[<-aQ]) bd.2;have aS:=M.bD b;unfold cF at aS;rw[bS]at aS E;obtain⟨aX,cs,hT,bE,c2,c3,c4,c5,lO,oq,w_⟩:=aS;have dp:=aU.b6 (t:=T ty) rfl (by intro e;rw[e]at aj;cases aj);have tD:=Fl ae.1.2;have cd:(a.eval y).cells.size=(T ty).size:=by
      rw[tD];cases aH:T ty<;>simp_all[ad.eE,ad.size]
     have lj:(κ b).off+i<cs.size:=by
      have:i<(κ b).cap:=by omega
      rw[c5.1]at c2;omega
     have an:a.eval x=.pointer (some ⟨(κ b).aa,(κ b).off+i,none⟩):=by rw[E.2.2];simp[bQ.e2,c5.1]
     obtain⟨w',dh,b4,cv,ef,lh,kx,ml⟩:=vd (P:=C.P) (a.eval y).cells.toList ((κ b).off+i) 0 w cs bE (by rw[tD];simp;omega) (λu hu=>by rw[tD]at hu;simp at hu;rw[hu];exact ae.1.2);refine FE (w':=w') (by grind) (by simp[execOp,af,an,Instr.storeAt,Instr.sureAddr,Kn dp cd b4]) ?_;rw[bg];refine⟨κ,F,?_⟩;have gv:fq s.aa κ (λq=>if q=b then (⟨(s.aa b).gen,.gn e xs i (.own be g')⟩:bJ) else s.aa q) κ:=
      qP rfl (λh=>by cases h) (λ_=>by rw[bS];exact⟨rfl,rfl,rfl⟩) (λh=>by cases h) (λh=>by cases h)
     refine (M.o6 (b:=b) (x:=⟨(s.aa b).gen,.gn e xs i (.own be g')⟩) (by rw[bS];simp[bQ.bZ,aX]) (by simp[bQ.bZ,aX]) gv (λh=>by cases h) (λh=>by cases h) lh kx ml λH mR cb he=>?_);rw[tD]at ef;simp only[Nat.add_zero]at ef;have eU:∀ k,dh[k]?=if k=(κ b).off+i then some (a.eval y) else cs[k]?:=by
      intro k;rw[<-Array.getElem?_toList,ef];have kQ:(cs.toList.take ((κ b).off+i)).length=(κ b).off+i:=by rw[List.length_take,Array.length_toList];omega
      rcases Nat.lt_trichotomy k ((κ b).off+i) with al | al | al
      ·rw[if_neg (by omega),List.getElem?_append_left (by omega),List.getElem?_take_of_lt al,Array.getElem?_toList]
      ·rw[if_pos al,List.getElem?_append_right (by omega),kQ,al];simp
      ·rw[if_neg (by omega),List.getElem?_append_right (by omega),kQ,List.getElem?_append_right (by simp;omega),List.getElem?_drop];simp only[List.length_cons,List.length_nil];rw[show (κ b).off+i+(0+1)+(k - ((κ b).off+i) - (0+1))=k from by omega,Array.getElem?_toList]
     have FM:dh.size=cs.size:=by
      rw[<-Array.length_toList,ef];grind
     have zm:dh.getD ((κ b).off+i) Go.undef=a.eval y:=by
      rw[Array.getD_eq_getD_getElem?,eU];simp
     refine⟨aX,dh,hT,cv,by omega,c3,c4,c5,λj aE qO=>?_,by rw[zm];exact bB.later cb (λ_ M=>M) he ae,by rw[zm];exact ae.1.2⟩;obtain⟨bj,d1,d2⟩:=lO j aE qO;refine⟨bj,λq br=>?_,fe e (λ_ M=>M) he d2⟩;have tH:q=0:=by have:=hO e d2;omega
     subst tH;rw[eU,if_neg (by rw[c5.1];omega)];exact d1 0 br
    ·cases h
   ·cases h
  ·cases h
 rename_i cD dZ adI ah;simp only[aq.e4,Option.bind_eq_some_iff,aq.bM,Option.some.injEq]at h;obtain⟨wl,lQ,rfl⟩:=h;have Ko:cD=(use (a7 C.aM s.ax x)).1:=by rw[ah]
 have FN:dZ=(use (a7 C.aM s.ax x)).2:=by rw[ah]
 subst Ko;subst FN;clear ah adI;intro a w κ F Q M bd _;have an:bB C.P s.aa κ F w (use (a7 C.aM s.ax x)).2 (a.eval x):=cO M x rfl bd.1;have ae:bB C.P s.aa κ F w (use (a7 C.aM s.ax y)).2 (a.eval y):=cO M y rfl bd.2;generalize (use (a7 C.aM s.ax x)).2=adJ at *
 generalize (use (a7 C.aM s.ax y)).2=ku at *
 have au:∀ c,o.op≠.defer c:=by grind
 have fin:∀ w',(Instr.storeAt ty (a.eval x) (a.eval y)).run C.P w=.ok () w'->ct C (s.gh wl) a w'->o.wpIn (dS C.r) 0 C.P a w (λa' w'=>ct C (s.h5 o.dst ⟨(use (a7 C.aM s.ax x)).1/\(use (a7 C.aM s.ax y)).1,True,.undef,wl⟩) a' w') Q:=by
  intro w' E U;refine FE (w':=w') au (by simp[execOp,af,E]) ?_;rw[bg];exact U
 unfold Rv at lQ;cases adJ with
 | aW b g off=>
  simp only[aq.e3,aq.bM]at lQ;split at lQ
  ·rename_i aB;split at lQ
   ·rename_i n f bS;simp only[Option.bind_eq_some_iff]at lQ;obtain⟨l,aj,lQ⟩:=lQ;split at lQ
    ·rename_i hc;simp only[Option.some.injEq]at lQ;subst lQ;have adK:=an.2 aB.symm (by rw[bS];rfl);have iA:=Kk aj ae;have aS:=M.bD b;unfold cF at aS;rw[bS]at aS;obtain⟨cs,hT,bE,c2,c3⟩:=aS;have hlen:=iA.len;have nN:∀ u∈(a.eval y).cells.toList,u.oneCell'=true:=by
      intro u hu;obtain⟨i,G,rfl⟩:=List.mem_iff_getElem.1 hu;have:=(iA.kO i (by omega)).2;grind
     obtain⟨w',dh,b4,cv,ef,lh,kx,ml⟩:=vd (P:=C.P) (a.eval y).cells.toList off 0 w cs bE (by omega) nN;have cd:(a.eval y).cells.size=(T ty).size:=by grind
     have ve:T ty≠.cT:=by
      intro e;rw[e]at aj;cases ku<;>simp[cellsOf,ad.eE]at aj
     refine fin w' (by rw[adK];simp[Instr.storeAt,Instr.sureAddr,Kn (aU.b6 rfl ve) cd b4]) ⟨κ,F,?_⟩;have gv:fq s.aa κ (λi=>if i=b then (⟨(s.aa b).gen,.cells n (putCells f off l)⟩:bJ) else s.aa i) κ:=
      qP rfl (λ_=>by rw[bS];rfl) (λh=>by cases h) (λh=>by cases h) (λh=>by cases h)
     refine (M.o6 (b:=b) (x:=⟨(s.aa b).gen,.cells n (putCells f off l)⟩) (by rw[bS];rfl) rfl gv (λ_=>by rw[bS];rfl) (λh=>by cases h) lh kx ml λH mR cb he=>?_);have FM:dh.size=n.size:=by
      rw[<-Array.length_toList,ef];grind
     refine⟨dh,hT,cv,FM,λi G=>?_⟩;have bG:dh.getD i Go.undef=dh.toList.getD i Go.undef:=by simp
     rw[bG,ef];have kR:l.length=(a.eval y).cells.toList.length:=hlen;simp only[Nat.add_zero];have kQ:(cs.toList.take off).length=off:=by grind
     unfold putCells;by_cases ig:off<=i/\i<off+l.length
     ·rw[if_pos ig];have aw:(cs.toList.take off++((a.eval y).cells.toList++cs.toList.drop (off+(a.eval y).cells.toList.length))).getD i Go.undef=(a.eval y).cells.toList.getD (i - off) Go.undef:=by
       grind
      rw[aw];have:=iA.kO (i - off) (by omega);exact⟨bB.later cb (λ_ M=>M) he this.1,this.2⟩
     ·rw[if_neg ig];have aw:(cs.toList.take off++((a.eval y).cells.toList++cs.toList.drop (off+(a.eval y).cells.toList.length))).getD i Go.undef=cs.getD i Go.undef:=by
       rcases Nat.lt_or_ge i off with E | E
       ·rw[List.getD_eq_getElem?_getD,List.getElem?_append_left (by omega)];simp_all
       ·rw[List.getD_eq_getElem?_getD,List.getElem?_append_right (by omega),kQ,List.getElem?_append_right (by omega),List.getElem?_drop];rw[show off+(a.eval y).cells.toList.length+(i - off - (a.eval y).cells.toList.length)=i from by omega];simp
      rw[aw];exact⟨bB.later cb (λ_ M=>M) he (c3 i G).1,(c3 i G).2⟩
    grind
   grind
  grind
 | oh b g i off=>
  simp only[aq.e4,Option.bind_eq_some_iff,aq.run_bind,aq.e3,aq.bM]at lQ;obtain⟨⟨z,l⟩,bk,lQ⟩:=lQ;split at lQ
  ·rename_i aB;obtain⟨aB,p7⟩:=aB;have p7:b ∉ l:=by grind
   split at lQ
   ·rename_i e xs bS;simp only[Option.map_eq_some_iff]at lQ;obtain⟨mm,zk,rfl⟩:=lQ;obtain⟨jH,p8,mn⟩:=an.2 aB.symm (by rw[bS];rfl);rw[bS]at jH mn;simp only[bQ.len,bQ.e2]at jH mn;obtain⟨F',f1,bb,f2⟩:=bl.lg (mQ bk) M;have vf:=mi M.bD f1 bk f2 ae;have Kp:((s.cA l).aa b)=s.aa b:=by simp[az.cA,p7]
    have aS:=bb.bD b;unfold cF at aS;rw[Kp,bS]at aS;obtain⟨cs,hT,bE,c2,c3,c4,c5⟩:=aS.2 p8;obtain⟨bj,d1,d2⟩:=c5 i jH;have Ke:xs.getD i e.de=xs[i]:=by grind
    rw[Ke]at zk;have vg:=hO e d2;obtain⟨dy,dO,ou,br,axD,axE,adL⟩:=ac0 e d2 zk vf.2;have ve:T ty≠.cT:=by
     intro a6;have:=vf.1;rw[a6]at this;exact this
    have xc:(a.eval y).cells.toList.length=(T ty).size:=vf.1.len;have Cj:(i+1)*e.size<=(κ b).cap*e.size:=Nat.mul_le_mul_right _ (by omega);have hbound:off+(T ty).size<=e.size:=by
     grind
    have nN:∀ u∈(a.eval y).cells.toList,u.oneCell'=true:=by
     intro u hu;have iA:=y7 (P:=C.P) (H:=λ_=>⟨0,.fy⟩) (κ:=λ_=>⟨0,0,0,true⟩) (T ty) vf.2;obtain⟨j,aE,rfl⟩:=List.mem_iff_getElem.1 hu;have:=(iA.kO j (by rw[iA.len];exact aE)).2;grind
    have lj:(κ b).off+i*e.size+off+0+(a.eval y).cells.toList.length<=cs.size:=by
     grind
    obtain⟨w',dh,b4,cv,ef,lh,kx,ml⟩:=vd (P:=C.P) (a.eval y).cells.toList ((κ b).off+i*e.size+off) 0 w cs bE lj nN;refine fin w' (by rw[mn];simp[Instr.storeAt,Instr.sureAddr,Kn (aU.b6 rfl ve) (by omega) b4]) ⟨κ,F',?_⟩;have mS:s.gh ((jF l).run s.aa++[(b,⟨(s.aa b).gen,.bh e (xs.set i mm)⟩)])=(s.cA l).cy b ⟨(s.aa b).gen,.bh e (xs.set i mm)⟩:=by
     rw[Cf,tE]
    rw[mS];have gv:fq (s.cA l).aa κ (λlf=>if lf=b then (⟨(s.aa b).gen,.bh e (xs.set i mm)⟩:bJ) else (s.cA l).aa lf) κ:=
     qP (by grind) (λh=>by cases h) (λ_=>by rw[Kp,bS];exact⟨rfl,by simp[bQ.len],rfl⟩) (λh=>by cases h) (λh=>by cases h)
    have RY:(κ b).e8=false:=p8;refine bb.o6 (b:=b) (x:=⟨(s.aa b).gen,.bh e (xs.set i mm)⟩) (by rw[Kp,bS];simp[bQ.bZ,RY]) (by simp[bQ.bZ,RY]) gv (λh=>by cases h) (λh=>by cases h) lh kx ml λH mR cb he=>?_;refine⟨λaA=>(by grind),λ_=>?_⟩;have FM:dh.size=cs.size:=by
     rw[<-Array.length_toList,ef];grind
    refine⟨dh,hT,cv,by omega,by grind,c4,λj aE=>?_⟩;have fV:j<xs.length:=by grind
    simp only[Nat.add_zero]at ef lj;have eU:∀ k,dh[k]?=if (κ b).off+i*e.size+off<=k/\k<(κ b).off+i*e.size+off+(T ty).size then (a.eval y).cells.toList[k - ((κ b).off+i*e.size+off)]? else cs[k]?:=by
     intro k;rw[<-Array.getElem?_toList,ef];have kQ:(cs.toList.take ((κ b).off+i*e.size+off)).length=(κ b).off+i*e.size+off:=by grind
     by_cases ig:(κ b).off+i*e.size+off<=k/\k<(κ b).off+i*e.size+off+(T ty).size
     ·rw[if_pos ig,List.getElem?_append_right (by omega),kQ,List.getElem?_append_left (by omega)]
     ·rw[if_neg ig];rcases Nat.lt_or_ge k ((κ b).off+i*e.size+off) with E | E
      ·grind
      ·rw[List.getElem?_append_right (by omega),kQ,List.getElem?_append_right (by omega),List.getElem?_drop];rw[show (κ b).off+i*e.size+off+(a.eval y).cells.toList.length+(k - ((κ b).off+i*e.size+off) - (a.eval y).cells.toList.length)=k from by omega];simp
    by_cases qO:j=i
    ·subst qO;have aw:(xs.set j mm)[j]=mm:=by simp
     rw[aw];refine⟨dy++((a.eval y).cells.toList++ou),λk al=>?_,fe e (λ_ M=>M) he adL⟩;rw[eU];subst br;simp only[List.length_append]at al vg;by_cases ig:off<=k/\k<off+(T ty).size
     ·rw[if_pos (by omega)];rw[show (κ b).off+j*e.size+k - ((κ b).off+j*e.size+off)=k - dy.length from by omega];grind
     grind
    ·have aw:(xs.set i mm)[j]=xs[j]:=by grind
     rw[aw];obtain⟨RZ,adM,Kq⟩:=c5 j fV;refine⟨RZ,λk al=>?_,fe e (λ_ M=>M) he Kq⟩;rw[eU,if_neg]
     ·grind
     ·have axF:=hO e Kq;rcases Nat.lt_or_ge j i with E | E
      ·have:(j+1)*e.size<=i*e.size:=Nat.mul_le_mul_right _ (by omega);grind
      ·have:(i+1)*e.size<=j*e.size:=Nat.mul_le_mul_right _ (by omega);grind
   grind
  grind
 | _=>cases lQ
end
end Go.Fer
