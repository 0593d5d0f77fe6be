/- Part 1 of the proof of TopShop: shallow programs of Go functions, and what they compute. No condition. -/
import Derived.Below
import Derived.OrdersIn
import Derived.RangeFuncCalls
import Derived.RangeFuncSeq
import Derived.Laws.StructEq
import Derived.Laws.Tables
import Derived.ChangeMaps3
noncomputable section
abbrev z1':=List Int
abbrev z2':=List (Int×Int×Int×Int)
abbrev z3':=List (Int×Int×Int)
abbrev z4':=List (Int×Int)
abbrev z5':=List ((Int×Int×Int)×Int)
abbrev z6':=List (Nat×(Nat×Nat))
abbrev z7':=List (Int×Int×Int×Int×Int×Int)
abbrev z8':=List (Nat×Nat)
abbrev z9':=List (Option Nat)
set_option linter.unusedVariables false
set_option linter.unusedSimpArgs false
namespace Go.Fer
@[ext] structure A (ak:Type):Type where
 ck:Prop
 bL:ak->Prop
namespace A
variable {ak β gx D aI:Type}
def pure(x:ak):A ak:=⟨True,λy=>y=x⟩
def bind(m:A ak)(f:ak->A β):A β:=⟨m.ck/\∀ x,m.bL x->(f x).ck,λy=>∃ x,m.bL x/\(f x).bL y⟩
def ab(p:Prop)(m:A ak):A ak:=⟨p/\m.ck,m.bL⟩
def dR(p:Prop)(x:ak):A ak:=⟨p,λy=>y=x⟩
def any(p:ak->Prop):A ak:=⟨∃ x,p x,p⟩
theorem ext'{m n:A ak}(E:m.ck<->n.ck)(U:∀ x,m.bL x<->n.bL x):m=n:=by
 cases m;cases n;simp only[A.mk.injEq];grind
@[simp] theorem iz (x:ak):(pure x).ck=True:=rfl
@[simp] theorem axj (x y:ak):(pure x).bL y=(y=x):=rfl
@[simp] theorem aF (x:ak) (f:ak->A β):bind (pure x) f=f x:=ext' (by simp[bind,pure]) (by simp[bind,pure])
@[simp] theorem axk (m:A ak):bind m pure=m:=ext' (by simp[bind,pure]) (by simp[bind,pure])
theorem bo{p:Prop}(h:p)(m:A ak):ab p m=m:=ext' (by simp[ab,h]) (by simp[ab])
@[simp] theorem br (m:A ak):ab True m=m:=bo trivial m
theorem Fq(p:Prop)(m:A ak)(f:ak->A β):bind (ab p m) f=ab p (bind m f):=ext' (by simp[bind,ab,and_assoc]) (by simp[bind,ab])
@[simp] theorem nG (x:ak):dR True x=pure x:=rfl
theorem bR{p:Prop}(h:p)(x:ak):dR p x=pure x:=ext' (by simp_all) (by simp_all)
theorem dF(p:Prop)(x:ak)(f:ak->A β):bind (dR p x) f=ab p (f x):=by
 apply ext'
 ·simp[bind,dR,ab]
 ·simp[bind,dR,ab]
theorem Rr{c:Prop}[Decidable c](m n:A ak)(f:ak->A β):bind (if c then m else n) f=if c then bind m f else bind n f:=by grind
def le(n m:A ak):Prop:=m.ck->n.ck/\∀ y,n.bL y->m.bL y
theorem le_refl(m:A ak):le m m:=λh=>⟨h,λ_ h=>h⟩
theorem le_trans{a b c:A ak}(h:le a b)(k:le b c):le a c:=λaD=>⟨(h (k aD).1).1,λy aS=>(k aD).2 y ((h (k aD).1).2 y aS)⟩
theorem le_of_eq{a b:A ak}(h:a=b):le a b:=h ▸ le_refl a
def cw(m:A ak)(p:ak->Prop):Prop:=m.ck/\∀ y,m.bL y->p y
theorem cw.mono{m:A ak}{p q:ak->Prop}(h:cw m p)(k:∀ y,p y->q y):cw m q:=⟨h.1,λy aS=>k y (h.2 y aS)⟩
theorem ea{x:ak}{p:ak->Prop}:cw (pure x) p<->p x:=⟨λh=>h.2 x rfl,λh=>⟨trivial,λ_ e=>e ▸ h⟩⟩
theorem f'{m:A ak}{f:ak->A β}{p:β->Prop}:cw (bind m f) p<->cw m λx=>cw (f x) p:=
 ⟨λh=>⟨h.1.1,λx ag=>⟨h.1.2 x ag,λy aS=>h.2 y ⟨x,ag,aS⟩⟩⟩,λh=>⟨⟨h.1,λx ag=>(h.2 x ag).1⟩,λy ⟨x,ag,aS⟩=>(h.2 x ag).2 y aS⟩⟩
theorem kK{q:Prop}{m:A ak}{p:ak->Prop}:cw (ab q m) p<->q/\cw m p:=by
 simp[cw,ab,and_assoc]
inductive V(D aI:Type) where
 | next (s:D)
 | done (r:aI)
inductive BS(body:D->A (V D aI)):D->Prop where
 | mk (s:D) (h:(body s).ck) (k:∀ s',(body s).bL (.next s')->BS body s'):BS body s
inductive yW(body:D->A (V D aI)):D->aI->Prop where
 | done (s:D) (r:aI) (h:(body s).bL (.done r)):yW body s r
 | next (s s':D) (r:aI) (h:(body s).bL (.next s')) (k:yW body s' r):yW body s r
def loop(body:D->A (V D aI))(s:D):A aI:=⟨BS body s,yW body s⟩
theorem BT(body:D->A (V D aI))(s:D) :
  loop body s=bind (body s) fun | .next s'=>loop body s' | .done r=>pure r:=by
 apply ext'
 ·constructor
  ·rintro⟨_,h,k⟩;refine⟨h,λx ag=>?_⟩;cases x with
   | next s'=>exact k s' ag
   | done r=>trivial
  ·rintro⟨h,k⟩;exact⟨s,h,λs' aD=>k _ aD⟩
 ·intro r;constructor
  ·rintro (⟨_,_,h⟩ | ⟨_,s',_,h,k⟩)
   ·exact⟨.done r,h,rfl⟩
   ·exact⟨.next s',h,k⟩
  ·rintro⟨x,ag,M⟩;cases x with
   | next s'=>exact .next s s' r ag M
   | done pX=>cases M;exact .done s _ ag
theorem yX{body:D->A (V D aI)}{s s':D}(h:body s=pure (.next s')):loop body s=loop body s':=by
 rw[BT,h,aF]
theorem rS{body:D->A (V D aI)}{s:D}{r:aI}(h:body s=pure (.done r)):loop body s=pure r:=by
 rw[BT,h,aF]
theorem acX{body:D->A (V D aI)}{res:aI}(I:D->Prop)(wO:D->Nat)
  (round:∀ s,I s->(∃ s',body s=pure (.next s')/\I s'/\wO s'<wO s)\/body s=pure (.done res)) (s:D) (h:I s) :
  loop body s=pure res:=by
 have key:∀ n s,wO s=n->I s->loop body s=pure res:=by
  intro n;induction n using Nat.strongRecOn with
  | _ n aJ=>
   intro s aw aD;rcases round s aD with⟨s',e,eB,cc⟩ | e
   ·rw[yX e];grind
   ·exact rS e
 grind
theorem BU{body:D->A (V D aI)}{p:aI->Prop}(I:D->Prop)(wO:D->Nat)
  (round:∀ s,I s->cw (body s) fun | .next s'=>I s'/\wO s'<wO s | .done r=>p r) (s:D) (h:I s):cw (loop body s) p:=by
 have key:∀ n s,wO s=n->I s->cw (loop body s) p:=by
  intro n;induction n using Nat.strongRecOn with
  | _ n aJ=>
   intro s aw aD;rw[BT,f'];refine (round s aD).mono λy aS=>?_;cases y with
   | next s'=>grind
   | done r=>exact ea.2 aS
 grind
end A
end Go.Fer
namespace Go.Fer
def Rs(b:Nat)(c:Nat->Option Value):Prop:=
 match b with
 | 0=>∃ m,c 0=some (.int .i64 m)
 | 1 | 2=>∃ v,c 0=some v/\(v=.nilIface\/∃ lG l9,v=.iface lG l9)
 | 5=>∀ i,c i=if i<20 then some (.int .u64 (10 ^ i)) else none
 | _=>True
end Go.Fer
namespace Go.Fer
open Go.RowKit
inductive ad where
 | bool | int (k:IntKind) | str | cV
 | st (t:ad) | az (a b:ad)
 | slice (e:ad) | array (n:Nat) (e:ad) | bH (e:ad) | map (k v:ad) | fn (a b:ad) | ct (a:ad) | ep
 deriving DecidableEq
@[reducible] def ad.ai:ad->Type
 | .bool=>Bool
 | .int _=>Int
 | .str=>List UInt8
 | .cV=>Unit
 | .st t=>t.ai
 | .az a b=>a.ai×b.ai
 | .slice e=>List e.ai
 | .array _ e=>List e.ai
 | .bH e=>Option e.ai
 | .map k v=>List (k.ai×v.ai)
 | .fn a b=>a.ai->A b.ai
 | .ct a=>List a.ai->Prop
 | .ep=>Option Nat
def ad.dh:(t:ad)->t.ai
 | .bool=>false
 | .int _=>(0:Int)
 | .str=>[]
 | .cV=>()
 | .st t=>t.dh
 | .az a b=>(a.dh,b.dh)
 | .slice _=>[]
 | .array n e=>List.replicate n e.dh
 | .bH _=>none
 | .map _ _=>[]
 | .fn _ _=>λ_=>⟨False,λ_=>False⟩
 | .ct _=>λ_=>False
 | .ep=>none
def ad.size:ad->Nat
 | .cV=>0
 | .st t=>t.size
 | .az a b=>a.size+b.size
 | .array n e=>n*e.size
 | _=>1
def ad.eG:ad->Bool
 | .cV | .st _ | .az _ _ | .array _ _=>false
 | _=>true
def fS(k:IntKind)(n:Int):Prop:=k.min<=n/\n<=k.max
instance (k:IntKind) (n:Int):Decidable (fS k n):=inferInstanceAs (Decidable (_/\_))
def Holds(F:Nat->Prop)(w:World)(p:Addr)(cs:List Value):Prop:=
 F p.block/\p.spot=none/\∀ j (h:j<cs.length),w.cell? ⟨p.block,p.off+j,none⟩=some cs[j]
def c7(F:Nat->Prop)(w w':World):Prop:=w.heap.size<=w'.heap.size/\∀ r,F r->w'.heap[r]?=w.heap[r]?
theorem c7.refl(F:Nat->Prop)(w:World):c7 F w w:=⟨Nat.le_refl _,λ_ _=>rfl⟩
theorem c7.trans{F F':Nat->Prop}{a b c:World}(h:c7 F a b)(bn:∀ r,F r->F' r)(k:c7 F' b c):c7 F a c:=
 ⟨Nat.le_trans h.1 k.1,λr M=>(k.2 r (bn r M)).trans (h.2 r M)⟩
theorem c7.cell{F:Nat->Prop}{w w':World}(h:c7 F w w'){a:Addr}(a8:F a.block):w'.cell? a=w.cell? a:=by
 simp only[World.cell?,h.2 _ a8]
def nH(P:Program)(F:Nat->Prop)(w:World):Prop:=∀ b,b<P.globals.size->F b/\Rs b λi=>w.cell? ⟨b,i,none⟩
theorem nH.mono{P:Program}{F F':Nat->Prop}{w w':World}(h:nH P F w)(bn:∀ r,F r->F' r)(he:c7 F w w'):nH P F' w':=λb W=>by
 obtain⟨E,U⟩:=h b W;have e:(λi=>w'.cell? ⟨b,i,none⟩)=λi=>w.cell? ⟨b,i,none⟩:=funext λi=>he.cell (a:=⟨b,i,none⟩) E;exact⟨bn b E,e ▸ U⟩
theorem Holds.mono{F F':Nat->Prop}{w w':World}{p:Addr}{cs:List Value}(h:Holds F w p cs)(bn:∀ r,F r->F' r)(he:c7 F w w'):Holds F' w' p cs:=
 ⟨bn _ h.1,h.2.1,λj aE=>(he.cell (a:=⟨p.block,p.off+j,none⟩) h.1).trans (h.2.2 j aE)⟩
def kL:ad->Value->Prop
 | .st t,v=>∃ cs:Array Value,v=.agg cs/\cs.size=t.size
 | .array n e,v=>∃ cs:Array Value,v=.agg cs/\cs.size=n*e.size
 | .cV,_=>False
 | .az _ _,_=>False
 | _,v=>v.cells=#[v]
def ej(aC:List Value):List Value:=aC.flatMap (·.cells.toList)
@[simp] theorem acY:ej []=[]:=rfl
@[simp] theorem J' (v:Value) (aC:List Value):ej (v::aC)=v.cells.toList++ej aC:=rfl
def wP:ad->List Value->Prop
 | .az a b,v::aC=>kL a v/\wP b aC
 | .az _ _,[]=>False
 | .cV,aC=>aC=[]
 | t,aC=>∃ v,aC=[v]/\kL t v
def yY:ad->Value->List Value->Prop
 | .az _ _,v,aC=>v=.tuple aC.toArray
 | .cV,v,aC=>v=.tuple #[]/\aC=[]
 | _,v,aC=>aC=[v]
def uT(F:Nat->Prop)(w w':World):Nat->Prop:=λr=>F r\/(w.heap.size<=r/\r<w'.heap.size)
structure Fs(P:Program){ak:Type}(R:(Nat->Prop)->World->List Value->ak->Prop)(l:Nat)(S:List ak->Prop)(I:List ak->Bool->(Nat->Prop)->(Nat->Prop)->World->Prop):Prop where
 BV:∀ {pre st} {F F' Y:Nat->Prop} {w w':World},I pre st F Y w->(∀ r,F r->F' r)->(∀ r,F r\/Y r->w'.heap[r]?=w.heap[r]?)->w.heap.size<=w'.heap.size->w'.os=w.os/\w'.tape=w.tape/\w'.output=w.output->(∀ r,F' r->r<w'.heap.size)->(∀ r,F' r->¬Y r)->I pre st F' Y w'
 yield:∀ {pre} {F Y:Nat->Prop} {w:World} {args:List Value} {x:ak},I pre false F Y w->(∀ r,F r->r<w.heap.size)->(∀ r,Y r->r<w.heap.size/\¬F r)->(∃ T,S (pre++x::T))->R F w args x->
  YieldAt Fence.wide 0 P l args.toArray w λe w'=>∃ (b:Bool) (F' gy:Nat->Prop),e=.returned (.bool b)/\(∀ r,F r->F' r)/\(∀ r,F' r->F r\/Y r\/w.heap.size<=r)/\(∀ r,F' r->r<w'.heap.size)/\
   (∀ r,r<w.heap.size->¬Y r->w'.heap[r]?=w.heap[r]?)/\(∀ r,gy r->(Y r\/w.heap.size<=r)/\r<w'.heap.size/\¬F' r)/\w.heap.size<=w'.heap.size/\(w'.os=w.os/\w'.tape=w.tape/\w'.output=w.output)/\I (pre++[x]) (!b) F' gy w'
def Rt{ak:Type}(S:List ak->Prop)(I:List ak->Bool->(Nat->Prop)->(Nat->Prop)->World->Prop)(F Y:Nat->Prop)(w:World)(e:Ending)(w':World):Prop:=
 ∃ v pre st F' gy,e=.returned v/\(st=false->S pre)/\I pre st F' gy w'/\(∀ r,F r->F' r)/\(∀ r,F' r->F r\/Y r\/w.heap.size<=r)/\(∀ r,F' r->r<w'.heap.size)/\
  (∀ r,r<w.heap.size->¬Y r->w'.heap[r]?=w.heap[r]?)/\(∀ r,gy r->(Y r\/w.heap.size<=r)/\r<w'.heap.size/\¬F' r)/\w.heap.size<=w'.heap.size/\(w'.os=w.os/\w'.tape=w.tape/\w'.output=w.output)
def acZ:Option Nat->Value
 | none=>.nilFunc
 | some k=>.func (.func k) #[] #[]
def bI(P:Program):(t:ad)->(Nat->Prop)->World->List Value->t.ai->Prop
 | .bool,_,_,cs,x=>cs=[.bool x]
 | .int k,_,_,cs,x=>cs=[.int k x]/\fS k x
 | .str,_,_,cs,x=>cs=[.string ⟨x.toArray⟩]/\x.length<2 ^ 63
 | .cV,_,_,cs,_=>cs=[]
 | .st t,F,w,cs,x=>bI P t F w cs x
 | .az a b,F,w,cs,x=>∃ c d,cs=c++d/\bI P a F w c x.1/\bI P b F w d x.2
 | .slice e,F,w,cs,xs=>∃ a cap,cs=[.slice a xs.length cap]/\xs.length<=cap/\cap<2 ^ 63/\(a=none->cap=0)/\
   ∀ p,a=some p->0<cap->F p.block/\p.spot=none/\∀ i (h:i<xs.length),∃ bh,Holds F w ⟨p.block,p.off+i*e.size,none⟩ bh/\bI P e F w bh xs[i]
 | .array n e,F,w,cs,xs=>∃ fo:List (List Value),cs=fo.flatten/\fo.length=n/\xs.length=n/\∀ i (h:i<xs.length) (dw:i<fo.length),bI P e F w fo[i] xs[i]
 | .bH e,F,w,cs,x=>(cs=[.pointer none]/\x=none)\/∃ p y bh,cs=[.pointer (some p)]/\x=some y/\Holds F w p bh/\bI P e F w bh y
 | .map k v,F,w,cs,xs=>(cs=[.map none]/\xs=[])\/∃ r es clk,cs=[.map (some r)]/\F r/\w.heap[r]?=some (.map es clk)/\es.size=xs.length/\(xs.map (·.1)).Nodup/\
   (∀ i (h:i<xs.length) (dw:i<es.size),kL k es[i].key/\bI P k F w es[i].key.cells.toList xs[i].1/\kL v es[i].val/\bI P v F w es[i].val.cells.toList xs[i].2/\es[i].born<clk)/\
   (∀ i j (h:i<es.size) (dw:j<es.size),es[i].born=es[j].born->i=j)
 | .fn a b,F,w,cs,f=>∃ u,cs=[u]/\(u.cells=#[u]/\u.oneCell'=true)/\∀ (F':Nat->Prop) (w':World),(∀ r,F r->F' r)->c7 F w w'->(∀ r,F' r->r<w'.heap.size)->nH P F' w'->
   ∀ args x,wP a args->bI P a F' w' (ej args) x->(f x).ck->∃ g c6,u=.func (.func g) #[] c6/\(∀ as w,(callFunc g as).run P w=.ok (.enter g as) w)/\
    Calls P g (args.toArray++c6) w' λe th=>∃ v y aC,e=.returned v/\(f x).bL y/\yY b v aC/\wP b aC/\bI P b (uT F' w' th) th (ej aC) y/\Below w'.heap.size w' th
 | .ct a,F,w,cs,S=>∃ u,cs=[u]/\(u.cells=#[u]/\u.oneCell'=true)/\∀ (F':Nat->Prop) (w':World),(∀ r,F r->F' r)->c7 F w w'->(∀ r,F' r->r<w'.heap.size)->nH P F' w'->
   (∃ L,S L)->∃ g c6,u=.func (.func g) #[] c6/\(∀ as w,(callFunc g as).run P w=.ok (.enter g as) w)/\
    ∀ (l:Nat) (I:List a.ai->Bool->(Nat->Prop)->(Nat->Prop)->World->Prop) (Y:Nat->Prop),(∀ r,Y r->r<w'.heap.size/\¬F' r)->
     Fs P (λF w args x=>wP a args/\bI P a F w (ej args) x) l S I->I [] false F' Y w'->Calls P g (#[Value.func (.yield l) #[] #[]]++c6) w' (Rt S I F' Y w')
 | .ep,_,_,cs,x=>cs=[acZ x]
theorem hP{P:Program}:∀ (t:ad) {F:Nat->Prop} {w:World} {cs:List Value} {x:t.ai},bI P t F w cs x->cs.length=t.size:=by
 intro t;induction t with
 | bool=>intro F w cs x h;simp only[bI]at h;simp[h,ad.size]
 | int k=>intro F w cs x h;simp only[bI]at h;simp[h.1,ad.size]
 | str=>intro F w cs x h;simp only[bI]at h;simp[h.1,ad.size]
 | cV=>intro F w cs x h;simp only[bI]at h;simp[h,ad.size]
 | st t aJ=>intro F w cs x h;simp only[bI]at h;exact aJ h
 | az a b fy eL=>
  intro F w cs x h;simp only[bI]at h;obtain⟨c,d,rfl,a8,W⟩:=h;simp[ad.size,fy a8,eL W]
 | slice e aJ=>intro F w cs x h;simp only[bI]at h;obtain⟨a,cap,rfl,_⟩:=h;rfl
 | array n e aJ=>
  intro F w cs x h;simp only[bI]at h;obtain⟨fo,rfl,E,U,ah⟩:=h;have:∀ l∈fo,l.length=e.size:=by
   intro l aj;obtain⟨i,G,rfl⟩:=List.mem_iff_getElem.1 aj;grind
  have a1:fo.map List.length=List.replicate n e.size:=by
   rw[<-E];exact List.eq_replicate_iff.2 ⟨by simp,by grind⟩
  simp[List.length_flatten,a1,ad.size]
 | bH e aJ=>intro F w cs x h;simp only[bI]at h;rcases h with⟨rfl,_⟩ | ⟨p,y,bh,rfl,_⟩<;>rfl
 | map k v wQ wR=>intro F w cs x h;simp only[bI]at h;rcases h with⟨rfl,_⟩ | ⟨r,es,clk,rfl,_⟩<;>rfl
 | fn a b fy eL=>intro F w cs x h;simp only[bI]at h;obtain⟨u,rfl,_⟩:=h;rfl
 | ct a aJ=>intro F w cs x h;simp only[bI]at h;obtain⟨u,rfl,_⟩:=h;rfl
 | ep=>intro F w cs x h;simp only[bI]at h;subst h;rfl
theorem ff{P:Program}:∀ (t:ad) {F F':Nat->Prop} {w w':World} {cs:List Value} {x:t.ai},(∀ r,F r->F' r)->c7 F w w'->bI P t F w cs x->bI P t F' w' cs x:=by
 intro t;induction t with
 | bool=>intro F F' w w' cs x _ _ h;exact h
 | int k=>intro F F' w w' cs x _ _ h;exact h
 | str=>intro F F' w w' cs x _ _ h;exact h
 | cV=>intro F F' w w' cs x _ _ h;exact h
 | st t aJ=>intro F F' w w' cs x bn he h;simp only[bI]at h ⊢;grind
 | az a b fy eL=>
  intro F F' w w' cs x bn he h;simp only[bI]at h ⊢;grind
 | slice e aJ=>
  intro F F' w w' cs x bn he h;simp only[bI]at h ⊢;obtain⟨a,cap,rfl,E,U,ah,a1⟩:=h;refine⟨a,cap,rfl,E,U,ah,λp an hc=>?_⟩;obtain⟨aO,aR,bO⟩:=a1 p an hc;refine⟨bn _ aO,aR,λi G=>?_⟩;obtain⟨bh,m1,m2⟩:=bO i G;exact⟨bh,m1.mono bn he,aJ bn he m2⟩
 | array n e aJ=>
  intro F F' w w' cs x bn he h;simp only[bI]at h ⊢;grind
 | bH e aJ=>
  intro F F' w w' cs x bn he h;simp only[bI]at h ⊢;rcases h with h | ⟨p,y,bh,E,U,ah,a1⟩
  ·grind
  ·exact .inr ⟨p,y,bh,E,U,ah.mono bn he,aJ bn he a1⟩
 | map k v wQ wR=>
  intro F F' w w' cs x bn he h;simp only[bI]at h ⊢;rcases h with h | ⟨r,es,clk,E,U,ah,a1,bK,dp,fF⟩
  ·grind
  ·refine .inr ⟨r,es,clk,E,bn _ U,(he.2 _ U).trans ah,a1,bK,λi G dO=>?_,fF⟩;grind
 | fn a b fy eL=>
  intro F F' w w' cs x bn he h;simp only[bI]at h ⊢;obtain⟨u,rfl,hu,E⟩:=h;exact⟨u,rfl,hu,λKa th ti BW aD=>E Ka th (λr M=>ti r (bn r M)) (he.trans bn BW) aD⟩
 | ct a aJ=>
  intro F F' w w' cs x bn he h;simp only[bI]at h ⊢;obtain⟨u,rfl,hu,E⟩:=h;exact⟨u,rfl,hu,λKa th ti BW aD=>E Ka th (λr M=>ti r (bn r M)) (he.trans bn BW) aD⟩
 | ep=>intro F F' w w' cs x _ _ h;exact h
def er(P:Program)(t:ad)(F:Nat->Prop)(w:World)(v:Value)(x:t.ai):Prop:=kL t v/\bI P t F w v.cells.toList x
def fp(P:Program)(t:ad)(F:Nat->Prop)(w:World)(aC:List Value)(x:t.ai):Prop:=wP t aC/\bI P t F w (ej aC) x
def tj(P:Program)(t:ad)(F:Nat->Prop)(w:World)(v:Value)(x:t.ai):Prop:=∃ aC,yY t v aC/\fp P t F w aC x
theorem er.mono{P:Program}{t:ad}{F F':Nat->Prop}{w w':World}{v:Value}{x:t.ai}(h:er P t F w v x)(bn:∀ r,F r->F' r)(he:c7 F w w'):er P t F' w' v x:=
 ⟨h.1,ff t bn he h.2⟩
theorem Ft{v:Value}(h:v.oneCell'=true):v.cells=#[v]:=by
 cases v<;>first | rfl | cases h
theorem Ru{v:Value}(h:v.cells=#[v]):v.cells.toList=[v]:=by rw[h]
theorem kL.len{t:ad}{v:Value}(h:kL t v):v.cells.toList.length=t.size:=by
 cases t<;>simp only[kL]at h<;>first
  | (obtain⟨cs,rfl,h⟩:=h;simpa [Value.cells,ad.size]using h)
  | (rw[Ru h];rfl)
  | exact h.elim
theorem BX{P:Program}{a b:ad}{F:Nat->Prop}{w:World}{v:Value}{aC:List Value}{x:a.ai}{y:b.ai} :
  fp P (.az a b) F w (v::aC) (x,y)<->er P a F w v x/\fp P b F w aC y:=by
 constructor
 ·rintro⟨⟨E,U⟩,c,d,e,hc,ar⟩;have aj:=hP a hc;have:=List.append_inj e (by rw[aj];exact E.len);rw[J']at e;obtain⟨ax,aM⟩:=this;subst ax;subst aM;exact⟨⟨E,hc⟩,U,ar⟩
 ·rintro⟨⟨E,U⟩,ah,a1⟩;exact⟨⟨E,ah⟩,_,_,rfl,U,a1⟩
theorem Fu{P:Program}{a b:ad}{F:Nat->Prop}{w:World}{aC:List Value}{x:(ad.az a b).ai}(h:fp P (.az a b) F w aC x) :
  ∃ v us,aC=v::us/\er P a F w v x.1/\fp P b F w us x.2:=by
 cases aC with
 | nil=>exact h.1.elim
 | cons v us=>exact⟨v,us,rfl,BX.1 h⟩
def ad.gz:ad->Bool
 | .az _ _ | .cV=>false
 | _=>true
theorem rT{P:Program}{t:ad}(aH:t.gz=true){F:Nat->Prop}{w:World}{aC:List Value}{x:t.ai} :
  fp P t F w aC x<->∃ v,aC=[v]/\er P t F w v x:=by
 have key:wP t aC<->∃ v,aC=[v]/\kL t v:=by cases t<;>simp[ad.gz,wP]at aH ⊢
 unfold fp er;rw[key];constructor
 ·rintro⟨⟨v,rfl,ae⟩,h⟩;exact⟨v,rfl,ae,by simpa using h⟩
 ·rintro⟨v,rfl,ae,h⟩;exact⟨⟨v,rfl,ae⟩,by simpa using h⟩
section
variable {P:Program} {F:Nat->Prop} {w:World} {v:Value}
@[simp] theorem fg {x:Bool}:er P .bool F w v x<->v=.bool x:=by
 constructor
 ·rintro⟨E,U⟩;simp only[kL]at E;simp only[bI]at U;rw[Ru E]at U;simpa using U
 ·rintro rfl;exact⟨by simp[kL,Value.cells],by simp[bI,Value.cells]⟩
theorem gS{k:IntKind}{x:Int}:er P (.int k) F w v x<->v=.int k x/\fS k x:=by
 constructor
 ·rintro⟨E,U⟩;simp only[kL]at E;simp only[bI]at U;grind
 ·rintro⟨rfl,h⟩;exact⟨by rfl,by simpa [bI,Value.cells]using h⟩
theorem l_{x:List UInt8}:er P .str F w v x<->v=.string ⟨x.toArray⟩/\x.length<2 ^ 63:=by
 constructor
 ·rintro⟨E,U⟩;simp only[kL]at E;simp only[bI]at U;grind
 ·rintro⟨rfl,h⟩;exact⟨by rfl,by simpa [bI,Value.cells]using h⟩
theorem dV{t:ad}(aH:t.eG=true){x:t.ai}:er P t F w v x<->v.cells=#[v]/\bI P t F w [v] x:=by
 have E:kL t v<->v.cells=#[v]:=by cases t<;>simp[ad.eG,kL]at aH ⊢
 unfold er;grind
theorem Kb{t:ad}(aH:t.eG=true){F:Nat->Prop}{w:World}{u:Value}{x:t.ai}(h:bI P t F w [u] x):u.oneCell'=true:=by
 cases t<;>simp only[ad.eG,bI]at aH h<;>try contradiction
 ·obtain rfl:=(List.cons.inj h).1;rfl
 ·obtain rfl:=(List.cons.inj h.1).1;rfl
 ·obtain rfl:=(List.cons.inj h.1).1;rfl
 ·obtain⟨a,cap,h,_⟩:=h;obtain rfl:=(List.cons.inj h).1;rfl
 ·rcases h with⟨h,_⟩ | ⟨p,y,bh,h,_⟩<;>(obtain rfl:=(List.cons.inj h).1;rfl)
 ·rcases h with⟨h,_⟩ | ⟨r,es,clk,h,_⟩<;>(obtain rfl:=(List.cons.inj h).1;rfl)
 ·obtain⟨mH,h,hu,_⟩:=h;obtain rfl:=(List.cons.inj h).1;exact hu.2
 ·obtain⟨mH,h,hu,_⟩:=h;obtain rfl:=(List.cons.inj h).1;exact hu.2
 ·obtain rfl:=(List.cons.inj h).1;cases x<;>rfl
theorem BY{t:ad}(aH:t.eG=true){F:Nat->Prop}{w:World}{cs:List Value}{x:t.ai}(h:bI P t F w cs x):∃ u,cs=[u]/\u.cells=#[u]:=by
 cases t<;>simp only[ad.eG,bI]at aH h<;>try contradiction
 ·exact⟨_,h,rfl⟩
 ·exact⟨_,h.1,rfl⟩
 ·exact⟨_,h.1,rfl⟩
 ·obtain⟨a,cap,rfl,_⟩:=h;exact⟨_,rfl,rfl⟩
 ·rcases h with⟨rfl,_⟩ | ⟨p,y,bh,rfl,_⟩<;>exact⟨_,rfl,rfl⟩
 ·rcases h with⟨rfl,_⟩ | ⟨r,es,clk,rfl,_⟩<;>exact⟨_,rfl,rfl⟩
 ·obtain⟨u,rfl,hu,_⟩:=h;exact⟨u,rfl,hu.1⟩
 ·obtain⟨u,rfl,hu,_⟩:=h;exact⟨u,rfl,hu.1⟩
 ·exact⟨_,h,by cases x<;>rfl⟩
end
structure h3(P:Program)(k:FuncId)(ts aV:ad)(sh:ts.ai->A aV.ai):Prop where
 enter:∀ args w,(callFunc k args).run P w=.ok (.enter k args) w
 iV:∀ (F:Nat->Prop) (w:World) (args:List Value) (x:ts.ai),(∀ r,F r->r<w.heap.size)->nH P F w->fp P ts F w args x->(sh x).ck->
  Calls P k args.toArray w λe w'=>∃ v y,e=.returned v/\(sh x).bL y/\tj P aV (uT F w w') w' v y/\Below w.heap.size w w'
structure Rv(P:Program)(k:FuncId)(ts aV:ad)(sh:ts.ai->A aV.ai):Prop where
 iV:∀ (F:Nat->Prop) (w:World) (args:List Value) (x:ts.ai),(∀ r,F r->r<w.heap.size)->nH P F w->fp P ts F w args x->(sh x).ck->
  Calls P k args.toArray w λe w'=>∃ v y,e=.returned v/\(sh x).bL y/\tj P aV (λr=>w.heap.size<=r/\r<w'.heap.size) w' v y/\Below w.heap.size w w'
def gi:List ad->ad
 | []=>.cV
 | [t]=>t
 | t::u::l=>.az t (gi (u::l))
def Fv:(as bs:List ad)->(gi as).ai->(gi bs).ai->(gi (as++bs)).ai
 | [],_,_,y=>y
 | [_],[],x,_=>x
 | [_],_::_,x,y=>(x,y)
 | _::u::l,bs,x,y=>(x.1,Fv (u::l) bs x.2 y)
theorem Rw{P:Program}{F:Nat->Prop}{w:World}:∀ (as bs:List ad),as.all ad.gz=true->∀ {aC us:List Value} {x:(gi as).ai} {y:(gi bs).ai},fp P (gi as) F w aC x->fp P (gi bs) F w us y->fp P (gi (as++bs)) F w (aC++us) (Fv as bs x y)
 | [],bs,_,aC,us,x,y,E,U=>by
  obtain rfl:aC=[]:=E.1;exact U
 | [t],[],_,aC,us,x,y,E,U=>by
  obtain rfl:us=[]:=U.1;have e:aC++[]=aC:=List.append_nil aC;rw[e];exact E
 | [t],b::bs,h,aC,us,x,y,E,U=>by
  have aH:t.gz=true:=by grind
  obtain⟨v,rfl,ae⟩:=(rT aH).1 E;exact BX.2 ⟨ae,U⟩
 | t::u::l,bs,h,aC,us,x,y,E,U=>by
  obtain⟨v,rU,rfl,ah,a1⟩:=Fu (a:=t) (b:=gi (u::l)) E;have aj:(u::l).all ad.gz=true:=by
   grind
  have:=Rw (u::l) bs aj a1 U;exact BX.2 ⟨ah,this⟩
structure ac0 where
 ts:ad
 aV:ad
 sh:ts.ai->A aV.ai
structure Fw where
 as:List ad
 cs:List ad
 aV:ad
 sh:(gi (as++cs.map .bH)).ai->A aV.ai
structure wS where
 cs:List ad
 aK:ad
 S:(gi (cs.map .bH)).ai->List aK.ai->Prop
structure wT(P:Program)(k:FuncId)(v:wS):Prop where
 enter:∀ args w,(callFunc k args).run P w=.ok (.enter k args) w
 iV:∀ (F:Nat->Prop) (w:World) (c6:List Value) (x:(gi (v.cs.map .bH)).ai),(∀ r,F r->r<w.heap.size)->nH P F w->fp P (gi (v.cs.map .bH)) F w c6 x->(∃ L,v.S x L)->
  ∀ (l:Nat) (I:List v.aK.ai->Bool->(Nat->Prop)->(Nat->Prop)->World->Prop) (Y:Nat->Prop),(∀ r,Y r->r<w.heap.size/\¬F r)->
   Fs P (fp P v.aK) l (v.S x) I->I [] false F Y w->Calls P k (#[Value.func (.yield l) #[] #[]]++c6.toArray) w (Rt (v.S x) I F Y w)
structure dG where
 tk:Nat->Option ac0
 tl:Nat->Option Fw
 wU:Nat->Option wS:=λ_=>none
structure qL(P:Program)(aP:dG):Prop where
 tk:∀ k v,aP.tk k=some v->h3 P k v.ts v.aV v.sh
 tl:∀ k v,aP.tl k=some v->v.as.all ad.gz=true/\h3 P k (gi (v.as++v.cs.map .bH)) v.aV v.sh
 wU:∀ k v,aP.wU k=some v->wT P k v:=by intro k v h;cases h
theorem ac1{P:Program}{k:FuncId}{ts aV:ad}{sh:ts.ai->A aV.ai}(h:h3 P k ts aV sh)(F:Nat->Prop)(w:World):bI P (.fn ts aV) F w [.func (.func k) #[] #[]] sh:=by
 refine⟨_,rfl,⟨rfl,rfl⟩,λF' w' _ _ aD aB args x E U ah=>⟨k,#[],rfl,h.enter,?_⟩⟩;have:=h.iV F' w' args x aD aB ⟨E,U⟩ ah;simp only[Array.append_empty];exact this.mono λe th ⟨v,y,ax,aM,⟨aC,cD,et,eb⟩,k8⟩=>⟨v,y,aC,ax,aM,cD,et,eb,k8⟩
end Go.Fer
namespace Go.Fer
open Go.RowKit
inductive aG where
 | undef
 | val (t:ad) (x:t.ai)
 | hC (b:Bool) (a:aG)
 | aW (b g off:Nat)
 | own (b g:Nat)
 | oq (b g i off:Nat)
 | dW (t:ad) (x:t.ai)
 | fG (b g:Nat)
 | iA (k:FuncId) (n:Nat) (c6:Nat->aG)
 | rV (k:FuncId) (n:Nat) (first:Nat->aG)
 | pY (n:Nat) (f:Nat->aG)
 | agg (n:Nat) (f:Nat->aG)
 | cv
 | jC (v:Value)
 | j1 (b g:Nat)
 | aV (l:Nat) (aK:ad) (S:List aK.ai->Prop) (pre:List aK.ai) (st:Bool)
 | hg (l:Nat)
 | sub (b g aY G:Nat)
 | wV (e:ad) (xs:List e.ai)
 | iW (b g i:Nat)
inductive bQ where
 | fz
 | cells (t:ad) (f:Nat->aG)
 | bg (e:ad) (xs:List e.ai)
 | hD (e:ad) (xs:List e.ai)
 | mp (k v:ad) (es:List (k.ai×v.ai))
 | gG (t:ad) (x:t.ai)
 | jh (k v:ad) (es:List (k.ai×v.ai))
 | ct (k v:ad) (cur:Option (k.ai×v.ai)) (cm:List (k.ai×v.ai))
 | gj (e:ad) (xs:List e.ai) (i:Nat) (v:aG)
structure bJ where
 gen:Nat
 body:bQ
structure bD where
 aa:Nat
 off:Nat
 cap:Nat
 e9:Bool
structure aA where
 ay:Nat->aG
 aa:Nat->bJ
def bQ.fH:bQ->Bool | .cells _ _=>true | .gG _ _=>true | _=>false
def bQ.fh:bQ->Bool | .bg _ _=>true | .hD _ _=>true | .gj _ _ _ _=>true | _=>false
def bQ.gT:bQ->Bool | .mp _ _ _=>true | .jh _ _ _=>true | _=>false
def bQ.mI:bQ->Bool | .ct _ _ _ _=>true | _=>false
def bQ.len:bQ->Nat | .bg _ xs=>xs.length | .hD _ xs=>xs.length | .gj _ xs _ _=>xs.length | _=>0
def bQ.e2:bQ->Nat | .bg e _=>e.size | .hD e _=>e.size | .gj e _ _ _=>e.size | _=>0
def bQ.b1(k:bD):bQ->Bool | .cells _ _=>true | .bg _ _=>!k.e9 | .mp _ _ _=>true | .ct _ _ _ _=>true | .gj _ _ _ _=>!k.e9 | _=>false
def bD.slice(k:bD)(n:Nat):Value:=if k.e9 then .slice none 0 0 else .slice (some ⟨k.aa,k.off,none⟩) n k.cap
def Fx(k:bD)(e2 aY G:Nat)(v:Value):Prop:=
 (k.e9=true/\v=.slice none 0 0)\/(k.e9=false/\∃ o,v=.slice (some ⟨k.aa,o,none⟩) (G - aY) (k.cap - aY)/\o<=k.off+aY*e2/\(aY<k.cap->o=k.off+aY*e2))
def bB(P:Program)(H:Nat->bJ)(κ:Nat->bD)(F:Nat->Prop)(w:World):aG->Value->Prop
 | .undef,_=>True
 | .val t x,v=>er P t F w v x
 | .hC b a,v=>(b=true->bB P H κ F w a v)/\(b=false->v=Go.undef)
 | .aW b g off,v=>(g<=(H b).gen/\v.oneCell'=true)/\(g=(H b).gen->(H b).body.fH=true->v=.pointer (some ⟨(κ b).aa,off,none⟩))
 | .own b g,v=>(g<=(H b).gen/\v.oneCell'=true)/\(g=(H b).gen->(H b).body.fh=true->v=(κ b).slice (H b).body.len)
 | .oq b g i off,v=>(g<=(H b).gen/\v.oneCell'=true)/\(g=(H b).gen->(H b).body.fh=true->i<(H b).body.len/\(κ b).e9=false/\v=.pointer (some ⟨(κ b).aa,(κ b).off+i*(H b).body.e2+off,none⟩))
 | .iW b g i,v=>(g<=(H b).gen/\v.oneCell'=true)/\(g=(H b).gen->(H b).body.fh=true->i<(H b).body.len/\(κ b).e9=false/\v=.pointer (some ⟨(κ b).aa,(κ b).off+i*(H b).body.e2,none⟩))
 | .dW t x,v=>∃ p bh,v=.pointer (some p)/\Holds F w p bh/\bI P t F w bh x
 | .fG b g,v=>(g<=(H b).gen/\v.oneCell'=true)/\(g=(H b).gen->(H b).body.gT=true->v=.map (some (κ b).aa))
 | .iA k n c6,v=>∃ aC:List Value,v=.func (.func k) #[] aC.toArray/\aC.length=n/\∀ i,i<n->bB P H κ F w (c6 i) (aC.getD i Go.undef)
 | .rV k n f,v=>∃ aC:List Value,v=.func (.func k) aC.toArray #[]/\aC.length=n/\∀ i,i<n->bB P H κ F w (f i) (aC.getD i Go.undef)
 | .pY n f,v=>∃ aC:List Value,v=.tuple aC.toArray/\aC.length=n/\∀ i,i<n->bB P H κ F w (f i) (aC.getD i Go.undef)
 | .agg n f,v=>∃ aC:List Value,v=.agg aC.toArray/\aC.length=n/\∀ i,i<n->bB P H κ F w (f i) (aC.getD i Go.undef)/\(aC.getD i Go.undef).oneCell'=true
 | .cv,v=>v=.slice none 0 0
 | .jC u,v=>v=u
 | .j1 b g,v=>(g<=(H b).gen/\v.oneCell'=true)/\(g=(H b).gen->(H b).body.mI=true->v=.pointer (some ⟨(κ b).aa,0,none⟩))
 | .aV _ _ _ _ _,_=>True
 | .hg l,v=>v=.func (.yield l) #[] #[]
 | .wV e xs,v=>er P (.slice e) F w v xs/\∃ q,v=.slice q xs.length xs.length
 | .sub b g aY G,v=>(g<=(H b).gen/\v.oneCell'=true)/\(g=(H b).gen->(H b).body.fh=true->(aY<=G/\G<=(H b).body.len)/\Fx (κ b) (H b).body.e2 aY G v)
def fq(H:Nat->bJ)(κ:Nat->bD)(H':Nat->bJ)(κ':Nat->bD):Prop:=
 ∀ b,(H b).gen<=(H' b).gen/\((H b).gen=(H' b).gen->
  ((H' b).body.fH=true->(H b).body.fH=true/\(κ' b).aa=(κ b).aa)/\
  ((H' b).body.fh=true->(H b).body.fh=true/\κ' b=κ b/\(H' b).body.len=(H b).body.len/\(H' b).body.e2=(H b).body.e2)/\
  ((H' b).body.gT=true->(H b).body.gT=true/\(κ' b).aa=(κ b).aa)/\
  ((H' b).body.mI=true->(H b).body.mI=true/\(κ' b).aa=(κ b).aa))
theorem fq.refl(H:Nat->bJ)(κ:Nat->bD):fq H κ H κ:=λ_=>⟨Nat.le_refl _,λ_=>⟨λh=>⟨h,rfl⟩,λh=>⟨h,rfl,rfl,rfl⟩,λh=>⟨h,rfl⟩,λh=>⟨h,rfl⟩⟩⟩
def pZ(x y:bJ)(k k':bD):Prop:=
 x.gen<=y.gen/\(x.gen=y.gen->
  (y.body.fH=true->x.body.fH=true/\k'.aa=k.aa)/\
  (y.body.fh=true->x.body.fh=true/\k'=k/\y.body.len=x.body.len/\y.body.e2=x.body.e2)/\
  (y.body.gT=true->x.body.gT=true/\k'.aa=k.aa)/\
  (y.body.mI=true->x.body.mI=true/\k'.aa=k.aa))
theorem pZ.refl(x:bJ)(k:bD):pZ x x k k:=⟨Nat.le_refl _,λ_=>⟨λh=>⟨h,rfl⟩,λh=>⟨h,rfl,rfl,rfl⟩,λh=>⟨h,rfl⟩,λh=>⟨h,rfl⟩⟩⟩
theorem BZ{H:Nat->bJ}{κ:Nat->bD}{H':Nat->bJ}{κ':Nat->bD}:fq H κ H' κ'<->∀ b,pZ (H b) (H' b) (κ b) (κ' b):=Iff.rfl
theorem bB.later{P:Program}{H H':Nat->bJ}{κ κ':Nat->bD}{F F':Nat->Prop}{w w':World}(aj:fq H κ H' κ')(bn:∀ r,F r->F' r)(he:c7 F w w') :
  ∀ {a:aG} {v:Value},bB P H κ F w a v->bB P H' κ' F' w' a v:=by
 intro a;induction a with
 | undef=>intro v h;trivial
 | val t x=>intro v h;exact er.mono h bn he
 | hC b a aJ=>intro v h;exact⟨λW=>aJ (h.1 W),h.2⟩
 | aW b g off=>
  intro v h;obtain⟨E,U⟩:=h;obtain⟨aO,aR⟩:=aj b;refine⟨⟨Nat.le_trans E.1 aO,E.2⟩,λaB hc=>?_⟩;grind
 | own b g=>
  intro v h;obtain⟨E,U⟩:=h;obtain⟨aO,aR⟩:=aj b;refine⟨⟨Nat.le_trans E.1 aO,E.2⟩,λaB hc=>?_⟩;grind
 | oq b g i off=>
  intro v h;obtain⟨E,U⟩:=h;obtain⟨aO,aR⟩:=aj b;refine⟨⟨Nat.le_trans E.1 aO,E.2⟩,λaB hc=>?_⟩;grind
 | iW b g i=>
  intro v h;obtain⟨E,U⟩:=h;obtain⟨aO,aR⟩:=aj b;refine⟨⟨Nat.le_trans E.1 aO,E.2⟩,λaB hc=>?_⟩;grind
 | dW t x=>
  intro v h;obtain⟨p,bh,E,U,ah⟩:=h;exact⟨p,bh,E,U.mono bn he,ff t bn he ah⟩
 | fG b g=>
  intro v h;obtain⟨E,U⟩:=h;obtain⟨aO,aR⟩:=aj b;refine⟨⟨Nat.le_trans E.1 aO,E.2⟩,λaB hc=>?_⟩;grind
 | j1 b g=>
  intro v h;obtain⟨E,U⟩:=h;obtain⟨aO,aR⟩:=aj b;refine⟨⟨Nat.le_trans E.1 aO,E.2⟩,λaB hc=>?_⟩;grind
 | sub b g aY G=>
  intro v h;obtain⟨E,U⟩:=h;obtain⟨aO,aR⟩:=aj b;refine⟨⟨Nat.le_trans E.1 aO,E.2⟩,λaB hc=>?_⟩;grind
 | aV l aK L n st=>intro v _;trivial
 | hg l=>intro v h;exact h
 | wV e xs=>intro v h;exact⟨er.mono h.1 bn he,h.2⟩
 | iA k n c6 aJ=>
  intro v h;obtain⟨aC,E,U,ah⟩:=h;exact⟨aC,E,U,λi G=>aJ i (ah i G)⟩
 | rV k n f aJ=>
  intro v h;obtain⟨aC,E,U,ah⟩:=h;exact⟨aC,E,U,λi G=>aJ i (ah i G)⟩
 | pY n f aJ=>
  intro v h;obtain⟨aC,E,U,ah⟩:=h;exact⟨aC,E,U,λi G=>aJ i (ah i G)⟩
 | agg n f aJ=>
  intro v h;obtain⟨aC,E,U,ah⟩:=h;exact⟨aC,E,U,λi G=>⟨aJ i (ah i G).1,(ah i G).2⟩⟩
 | cv=>intro v h;exact h
 | jC u=>intro v h;exact h
def uU(P:Program)(k v:ad)(F:Nat->Prop)(w:World)(es:Array MapEntry)(clk:Nat)(xs:List (k.ai×v.ai)):Prop:=
 es.size=xs.length/\(xs.map (·.1)).Nodup/\
 (∀ i (h:i<xs.length) (dw:i<es.size),kL k es[i].key/\bI P k F w es[i].key.cells.toList xs[i].1/\kL v es[i].val/\bI P v F w es[i].val.cells.toList xs[i].2/\es[i].born<clk)/\
 (∀ i j (h:i<es.size) (dw:j<es.size),es[i].born=es[j].born->i=j)
theorem uU.mono{P:Program}{k v:ad}{F F':Nat->Prop}{w w':World}{es:Array MapEntry}{clk:Nat}{xs:List (k.ai×v.ai)}(h:uU P k v F w es clk xs)(bn:∀ r,F r->F' r)(he:c7 F w w') :
  uU P k v F' w' es clk xs:=
 ⟨h.1,h.2.1,λi G dO=>let ⟨a,b,c,d,e⟩:=h.2.2.1 i G dO;⟨a,ff k bn he b,c,ff v bn he d,e⟩,h.2.2.2⟩
def lH(P:Program)(e:ad)(F:Nat->Prop)(w:World)(cs:Array Value)(off:Nat)(xs:List e.ai):Prop:=
 ∀ i (h:i<xs.length),∃ bh,(∀ j (h:j<bh.length),cs[off+i*e.size+j]?=some bh[j])/\bI P e F w bh xs[i]
theorem lH.mono{P:Program}{e:ad}{F F':Nat->Prop}{w w':World}{cs:Array Value}{off:Nat}{xs:List e.ai}(h:lH P e F w cs off xs)(bn:∀ r,F r->F' r)(he:c7 F w w') :
  lH P e F' w' cs off xs:=λi G=>let ⟨bh,a,b⟩:=h i G;⟨bh,a,ff e bn he b⟩
def yZ(P:Program)(k v:ad)(F:Nat->Prop)(w:World)(e:MapEntry)(x:k.ai×v.ai):Prop:=
 kL k e.key/\bI P k F w e.key.cells.toList x.1/\kL v e.val/\bI P v F w e.val.cells.toList x.2
theorem yZ.mono{P:Program}{k v:ad}{F F':Nat->Prop}{w w':World}{e:MapEntry}{x:k.ai×v.ai}(h:yZ P k v F w e x)(bn:∀ r,F r->F' r)(he:c7 F w w'):yZ P k v F' w' e x:=
 ⟨h.1,ff k bn he h.2.1,h.2.2.1,ff v bn he h.2.2.2⟩
def wW(P:Program)(k v:ad)(F:Nat->Prop)(w:World)(o6:Nat)(cur:Option (k.ai×v.ai))(cm:List (k.ai×v.ai)):Prop:=
 (w.heap[o6]?=some (.mapIter none 0 #[] 0)/\cm=[]/\cur=none)\/
 ∃ lI es clk seen,F lI/\w.heap[lI]?=some (.map es clk)/\w.heap[o6]?=some (.mapIter (some lI) clk seen clk)/\
  (∀ i (h:i<es.size),es[i].born<clk)/\(∀ i j (h:i<es.size) (dw:j<es.size),es[i].born=es[j].born->i=j)/\
  (∃ ids:List Nat,ids.length=cm.length/\ids.Nodup/\(∀ i,i∈ids<->∃ h:i<es.size,seen.contains es[i].born=false)/\
   (∀ j (h:j<ids.length) (dw:j<cm.length),∃ G:ids[j]<es.size,yZ P k v F w es[ids[j]] cm[j]))/\
  (∀ c,cur=some c->∃ i,∃ h:i<es.size,seen.back?=some es[i].born/\yZ P k v F w es[i] c)
theorem wW.mono{P:Program}{k v:ad}{F F':Nat->Prop}{w w':World}{o6:Nat}{cur:Option (k.ai×v.ai)}{cm:List (k.ai×v.ai)}(h:wW P k v F w o6 cur cm)(bn:∀ r,F r->F' r)(he:c7 F w w')
  (G:w'.heap[o6]?=w.heap[o6]?):wW P k v F' w' o6 cur cm:=by
 rcases h with⟨E,U⟩ | ⟨lI,es,clk,seen,E,U,ah,a1,bK,⟨ids,i1,i2,i3,i4⟩,fF⟩
 ·exact .inl ⟨G.trans E,U⟩
 ·exact .inr ⟨lI,es,clk,seen,bn _ E,(he.2 _ E).trans U,G.trans ah,a1,bK,⟨ids,i1,i2,i3,λj aE fT=>let ⟨a,b⟩:=i4 j aE fT;⟨a,b.mono bn he⟩⟩,λc hc=>let ⟨i,a,b,d⟩:=fF c hc;⟨i,a,b,d.mono bn he⟩⟩
def jD(P:Program)(H:Nat->bJ)(κ:Nat->bD)(F:Nat->Prop)(w:World)(k:bD):bQ->Prop
 | .fz=>True
 | .cells t f=>∃ cs T,w.heap[k.aa]?=some (.cells cs T (0,0))/\cs.size=t.size/\∀ i,i<t.size->bB P H κ F w (f i) (cs.getD i Go.undef)/\(cs.getD i Go.undef).oneCell'=true
 | .bg e xs=>(k.e9=true->xs=[])/\(k.e9=false->∃ cs T,w.heap[k.aa]?=some (.cells cs T (0,0))/\k.off+k.cap*e.size<=cs.size/\xs.length<=k.cap/\k.cap<2 ^ 63/\lH P e F w cs k.off xs)
 | .hD e xs=>bI P (.slice e) F w [k.slice xs.length] xs
 | .mp l' o7 es=>∃ ms clk,w.heap[k.aa]?=some (.map ms clk)/\uU P l' o7 F w ms clk es
 | .gG t x=>∃ bh,Holds F w ⟨k.aa,0,none⟩ bh/\bI P t F w bh x
 | .jh l' o7 es=>bI P (.map l' o7) F w [.map (some k.aa)] es
 | .ct l' o7 cur cm=>wW P l' o7 F w k.aa cur cm
 | .gj e xs i v=>k.e9=false/\∃ cs T,w.heap[k.aa]?=some (.cells cs T (0,0))/\k.off+k.cap*e.size<=cs.size/\xs.length<=k.cap/\k.cap<2 ^ 63/\(e.size=1/\i<xs.length)/\
   (∀ j (h:j<xs.length),j≠i->∃ bh,(∀ q (h:q<bh.length),cs[k.off+j*e.size+q]?=some bh[q])/\bI P e F w bh xs[j])/\bB P H κ F w v (cs.getD (k.off+i) Go.undef)/\(cs.getD (k.off+i) Go.undef).oneCell'=true
def cE(P:Program)(H:Nat->bJ)(κ:Nat->bD)(F:Nat->Prop)(w:World)(b:Nat):Prop:=jD P H κ F w (κ b) (H b).body
theorem cE.k9{P:Program}{H H':Nat->bJ}{κ κ':Nat->bD}{F F':Nat->Prop}{w w':World}{b:Nat}(h:cE P H κ F w b)(aj:fq H κ H' κ')(bn:∀ r,F r->F' r)(he:c7 F w w')
  (W:(H' b).body=(H b).body) (al:κ' b=κ b) (hw:(H b).body.b1 (κ b)=true->w'.heap[(κ b).aa]?=w.heap[(κ b).aa]?):cE P H' κ' F' w' b:=by
 unfold cE at *
 rw[W,al];cases bS:(H b).body with
 | fz=>trivial
 | cells n f=>
  rw[bS]at h hw;obtain⟨cs,T,E,U,ah⟩:=h;exact⟨cs,T,(hw rfl).trans E,U,λi G=>⟨bB.later aj bn he (ah i G).1,(ah i G).2⟩⟩
 | bg e xs=>
  rw[bS]at h hw;refine⟨h.1,λaw=>?_⟩;obtain⟨cs,T,E,U,ah,a1,bK⟩:=h.2 aw;exact⟨cs,T,(hw (by simp[bQ.b1,aw])).trans E,U,ah,a1,bK.mono bn he⟩
 | hD e xs=>
  rw[bS]at h;exact ff _ bn he h
 | mp l' o7 es=>
  rw[bS]at h hw;obtain⟨ms,clk,E,U⟩:=h;exact⟨ms,clk,(hw rfl).trans E,U.mono bn he⟩
 | gG t x=>
  rw[bS]at h;obtain⟨bh,E,U⟩:=h;exact⟨bh,E.mono bn he,ff t bn he U⟩
 | jh l' o7 es=>
  rw[bS]at h;exact ff (.map l' o7) bn he h
 | ct l' o7 cur cm=>
  rw[bS]at h hw;exact wW.mono h bn he (hw rfl)
 | gj e xs i v=>
  rw[bS]at h hw;obtain⟨aX,cs,T,E,U,ah,a1,bK,dp,fF,ix⟩:=h;refine⟨aX,cs,T,(hw (by simp[bQ.b1,aX])).trans E,U,ah,a1,bK,λj aE qM=>?_,bB.later aj bn he fF,ix⟩;obtain⟨bh,d1,d2⟩:=dp j aE qM;exact⟨bh,d1,ff e bn he d2⟩
structure dd(w w':World):Prop where
 os:w'.os=w.os
 tape:w'.tape=w.tape
 output:w'.output=w.output
theorem dd.refl(w:World):dd w w:=⟨rfl,rfl,rfl⟩
theorem dd.trans{a b c:World}(h:dd a b)(k:dd b c):dd a c:=⟨k.os.trans h.os,k.tape.trans h.tape,k.output.trans h.output⟩
structure lJ where
 l:Nat
 aK:ad
 S:List aK.ai->Prop
 I:List aK.ai->Bool->(Nat->Prop)->(Nat->Prop)->World->Prop
structure lJ.hB(P:Program)(p:lJ):Prop where
 BV:∀ {pre st} {F F' Y:Nat->Prop} {w w':World},p.I pre st F Y w->(∀ r,F r->F' r)->(∀ r,F r\/Y r->w'.heap[r]?=w.heap[r]?)->w.heap.size<=w'.heap.size->dd w w'->(∀ r,F' r->r<w'.heap.size)->(∀ r,F' r->¬Y r)->p.I pre st F' Y w'
 yield:∀ {pre} {F Y:Nat->Prop} {w:World} {args:List Value} {x:p.aK.ai},p.I pre false F Y w->(∀ r,F r->r<w.heap.size)->(∀ r,Y r->r<w.heap.size/\¬F r)->(∃ T,p.S (pre++x::T))->fp P p.aK F w args x->
  YieldAt Fence.wide 0 P p.l args.toArray w λe w'=>∃ (b:Bool) (F' gy:Nat->Prop),e=.returned (.bool b)/\(∀ r,F r->F' r)/\(∀ r,F' r->F r\/Y r\/w.heap.size<=r)/\(∀ r,F' r->r<w'.heap.size)/\
   (∀ r,r<w.heap.size->¬Y r->w'.heap[r]?=w.heap[r]?)/\(∀ r,gy r->(Y r\/w.heap.size<=r)/\r<w'.heap.size/\¬F' r)/\w.heap.size<=w'.heap.size/\dd w w'/\p.I (pre++[x]) (!b) F' gy w'
def lJ.at(p:lJ)(aK:ad)(pre:List aK.ai)(st:Bool)(F Y:Nat->Prop)(w:World):Prop:=∃ h:aK=p.aK,p.I (h ▸ pre) st F Y w
theorem lJ.y0{l:Nat}{aK:ad}{S:List aK.ai->Prop}{I}{pre:List aK.ai}{st:Bool}{F Y:Nat->Prop}{w:World}:(lJ.mk l aK S I).at aK pre st F Y w<->I pre st F Y w:=⟨λ⟨_,h⟩=>h,λh=>⟨rfl,h⟩⟩
theorem lJ.hB.Kc{P:Program}{p:lJ}(h:p.hB P){aK:ad}{pre:List aK.ai}{st}{F F' Y:Nat->Prop}{w w':World}:p.at aK pre st F Y w->(∀ r,F r->F' r)->(∀ r,F r\/Y r->w'.heap[r]?=w.heap[r]?)->w.heap.size<=w'.heap.size->dd w w'->(∀ r,F' r->r<w'.heap.size)->(∀ r,F' r->¬Y r)->p.at aK pre st F' Y w':=
 λ⟨e,E⟩ U ah a1 bK dp fF=>⟨e,h.BV E U ah a1 bK dp fF⟩
def b4:Nat:=1000000
def eS:Nat:=100000
def wX:Nat:=200000
structure b9 where
 P:Program
 w0:World
 F0:Nat->Prop
 K0:Nat->Prop
 nt:Nat
 r:Option Nat
 dfr:List Deferred
 ie:Nat->Option Nat
 cd:lJ
 aN:dG
 Kd:Nat->Option (bD×Nat):=λ_=>none
def ac2(C:b9)(s:aA)(w:World)(κ:Nat->bD)(F:Nat->Prop):Prop:=
 ∀ l aK L n st,s.ay b4=.aV l aK L n st->(∃ I,C.cd=⟨l,aK,L,I⟩)/\C.cd.hB C.P/\
  ∃ Y:Nat->Prop,(∀ r,Y r->r<w.heap.size/\¬F r/\¬C.K0 r)/\(∀ b,(s.aa b).body.b1 (κ b)=true->¬Y (κ b).aa)/\C.cd.at aK n st F Y w
structure bl(C:b9)(s:aA)(a:Act)(w:World)(κ:Nat->bD)(F:Nat->Prop):Prop where
 dH:a.tmps.size=C.nt
 dfr:a.defers=C.dfr
 bT:∀ i,bB C.P s.aa κ F w (s.ay i) (a.tmps.getD i Go.undef)
 bF:∀ b,cE C.P s.aa κ F w b
 own:∀ b,(s.aa b).body.b1 (κ b)=true->(κ b).aa<w.heap.size/\¬F (κ b).aa/\¬C.K0 (κ b).aa
 inj:∀ b bd,(s.aa b).body.b1 (κ b)=true->(s.aa bd).body.b1 (κ bd)=true->(κ b).aa=(κ bd).aa->b=bd
 dc:∀ r,F r->r<w.heap.size
 hh:∀ r,F r->C.F0 r\/¬C.K0 r
 hQ:∀ r,C.F0 r->F r
 hs:∀ r,C.K0 r->r<C.w0.heap.size
 eH:∀ r,C.K0 r->w.heap[r]?=C.w0.heap[r]?
 size:C.w0.heap.size<=w.heap.size
 eu:dd C.w0 w
 gl:C.nt<=eS
 km:∀ b r,C.ie b=some r->eS<=b
 jE:∀ b r,C.ie b=some r->(s.aa b).body.fH=true\/(s.aa b).body.gT=true->(κ b).aa=r
 j2:∀ b k,C.Kd b=some k->wX<=b
 kn:∀ b k,C.Kd b=some k->(s.aa b).gen=0->(s.aa b).body.fh=true->κ b=k.1/\(s.aa b).body.len=k.2
 eM:ac2 C s w κ F
 jF:qL C.P C.aN
 iB:nH C.P F w
def cu(C:b9)(s:aA)(a:Act)(w:World):Prop:=∃ κ F,bl C s a w κ F
def aA.set(s:aA)(d:Option Nat)(v:aG):aA:=
 match d with
 | none=>s
 | some d=>{ s with ay:=λi=>if i=d then v else s.ay i }
def aA.cx(s:aA)(b:Nat)(x:bJ):aA:={ s with aa:=λi=>if i=b then x else s.aa i }
theorem ac3{a:Act}{d:Nat}{v:Value}(ar:d<a.tmps.size)(i:Nat):(a.put (some d) v).tmps.getD i Go.undef=if i=d then v else a.tmps.getD i Go.undef:=by
 simp only[Act.put,Array.getD_eq_getD_getElem?,Array.getElem?_setIfInBounds];grind
theorem bl.set{C:b9}{s:aA}{a:Act}{w:World}{κ:Nat->bD}{F:Nat->Prop}(h:bl C s a w κ F){d:Option Nat}(ar:∀ i,d=some i->i<C.nt){av:aG}{v:Value}
  (ae:bB C.P s.aa κ F w av v):bl C (s.set d av) (a.put d v) w κ F:=by
 cases d with
 | none=>exact h
 | some d=>
  have wY:=ar d rfl;have aw:=h.gl;refine { h with dH:=by simpa [Act.put]using h.dH,dfr:=h.dfr,bT:=λi=>?_,eM:=λl aK L n st e=>?_ }
  ·rw[ac3 (by rw[h.dH];omega)];simp only[aA.set];by_cases G:i=d
   ·grind
   ·rw[if_neg G,if_neg G];exact h.bT i
  ·simp only[aA.set]at e;rw[if_neg (by unfold b4 eS at *;omega)]at e;exact h.eM l aK L n st e
theorem bl.move{C:b9}{s:aA}{a:Act}{w:World}{κ:Nat->bD}{F:Nat->Prop}(h:bl C s a w κ F){H':Nat->bJ}{κ':Nat->bD}{F':Nat->Prop}{w':World}
  (aj:fq s.aa κ H' κ') (bn:∀ r,F r->F' r) (ti:∀ r,F' r->F r\/(∃ b,(s.aa b).body.b1 (κ b)=true/\(κ b).aa=r)\/w.heap.size<=r)
  (cf:w.heap.size<=w'.heap.size) (hw:∀ r,r<w.heap.size->(∀ b,(s.aa b).body.b1 (κ b)=true->(κ b).aa≠r)->w'.heap[r]?=w.heap[r]?) (hc:dd w w')
  (W:c7 F w w'->∀ b,cE C.P H' κ' F' w' b)
  (af:∀ b,(H' b).body.b1 (κ' b)=true->(κ' b).aa<w'.heap.size/\¬F' (κ' b).aa/\((∃ b0,(s.aa b0).body.b1 (κ b0)=true/\(κ b0).aa=(κ' b).aa)\/w.heap.size<=(κ' b).aa))
  (G:∀ b bd,(H' b).body.b1 (κ' b)=true->(H' bd).body.b1 (κ' bd)=true->(κ' b).aa=(κ' bd).aa->b=bd)
  (aD:∀ r,F' r->r<w'.heap.size)
  (ac4:∀ b,eS<=b->(H' b).body.fH=true\/(H' b).body.gT=true->κ' b=κ b/\((s.aa b).body.fH=true\/(s.aa b).body.gT=true)):bl C ⟨s.ay,H'⟩ a w' κ' F':=by
 have ac5:∀ r,C.K0 r->(∀ b,(s.aa b).body.b1 (κ b)=true->(κ b).aa≠r):=λr M b W e=>(h.own b W).2.2 (e ▸ M);have al:∀ r,C.K0 r->w'.heap[r]?=w.heap[r]?:=λr M=>hw r (Nat.lt_of_lt_of_le (h.hs r M) h.size) (ac5 r M);have y1:∀ r,w.heap.size<=r->¬C.K0 r:=λr M al=>by have:=h.hs r al;have:=h.size;omega
 have he:c7 F w w':=⟨cf,λr M=>hw r (h.dc r M) λb W e=>(h.own b W).2.1 (e ▸ M)⟩
 refine { dH:=h.dH,dfr:=h.dfr,bT:=λi=>bB.later aj bn he (h.bT i),bF:=W he,own:=λb W=>?_,inj:=G,dc:=aD,hh:=λr M=>?_,hQ:=λr M=>bn r (h.hQ r M),hs:=h.hs,eH:=λr M=>(al r M).trans (h.eH r M),size:=Nat.le_trans h.size cf,eu:=h.eu.trans hc,gl:=h.gl,km:=h.km,jE:=λb r M hc=>?_,j2:=h.j2,kn:=λb k al aX a8=>?_,eM:=λl aK L n st e=>?_,jF:=h.jF,iB:=h.iB.mono bn he }
 ·grind
 ·rcases ti r M with E | ⟨b,E,rfl⟩ | E
  ·exact h.hh r E
  ·exact .inr (h.own b E).2.2
  ·exact .inr (y1 r E)
 ·obtain⟨aO,aR⟩:=ac4 b (h.km b r M) hc;rw[aO];exact h.jE b r M aR
 ·obtain⟨g1,ee⟩:=aj b;have aX:(H' b).gen=0:=aX;have a8:(H' b).body.fh=true:=a8;obtain⟨b8,a2,a3,_⟩:=(ee (by omega)).2.1 a8;obtain⟨aO,aR⟩:=h.kn b k al (by omega) b8;grind
 ·obtain⟨E,U,Y,ah,a1,bK⟩:=h.eM l aK L n st e;have axl:∀ r,Y r->w'.heap[r]?=w.heap[r]?:=λr M=>hw r (ah r M).1 λb W e=>a1 b W (e ▸ M);have B0:∀ r,Y r->¬F' r:=λr M ao=>by
   grind
  refine⟨E,U,Y,λr M=>⟨Nat.lt_of_lt_of_le (ah r M).1 cf,B0 r M,(ah r M).2.2⟩,λb W aS=>?_,U.Kc bK bn (λr M=>?_) cf hc aD λr ao aS=>B0 r aS ao⟩
  ·grind
  ·rcases M with M | M
   ·exact he.2 r M
   grind
theorem o8(w:World)(o:Obj){r:Nat}(h:r<w.heap.size):(w.alloc o).heap[r]?=w.heap[r]?:=Below.heap_alloc w o r h
theorem p0(w:World)(o:Obj):(w.alloc o).heap[w.heap.size]?=some o:=by
 show (w.heap.push o)[w.heap.size]?=_;simp
theorem c7.alloc{F:Nat->Prop}{w:World}(aD:∀ r,F r->r<w.heap.size)(o:Obj):c7 F w (w.alloc o):=
 ⟨by simp,λr M=>o8 w o (aD r M)⟩
theorem y2{H:Nat->bJ}{κ κ':Nat->bD}{b:Nat}{x:bJ}(aB:(H b).gen<x.gen)(B1:∀ bd,bd≠b->κ' bd=κ bd) :
  fq H κ (λi=>if i=b then x else H i) κ':=by
 rw[BZ];intro i;by_cases G:i=b
 ·subst G;simp only[if_true];exact⟨by omega,λh=>by omega⟩
 ·simp only[if_neg G];rw[B1 i G];exact pZ.refl _ _
theorem y3{H:Nat->bJ}{κ κ':Nat->bD}{b:Nat}{x:bJ}(W:b<eS\/(x.body.fH=false/\x.body.gT=false))(B1:∀ bd,bd≠b->κ' bd=κ bd) :
  ∀ i,eS<=i->(if i=b then x else H i).body.fH=true\/(if i=b then x else H i).body.gT=true->κ' i=κ i/\((H i).body.fH=true\/(H i).body.gT=true):=by
 grind
theorem bl.alloc{C:b9}{s:aA}{a:Act}{w:World}{κ:Nat->bD}{F:Nat->Prop}(h:bl C s a w κ F){b:Nat}{x:bJ}(B2:b<eS)(aB:(s.aa b).gen<x.gen)
  {o:Obj} {k:bD} (al:k.aa=w.heap.size)
  (ag:∀ (H:Nat->bJ) (κ':Nat->bD),H=(λi=>if i=b then x else s.aa i)->κ'=(λi=>if i=b then k else κ i)->fq s.aa κ H κ'->jD C.P H κ' F (w.alloc o) k x.body) :
  bl C (s.cx b x) a (w.alloc o) (λi=>if i=b then k else κ i) F:=by
 have aj:fq s.aa κ (λi=>if i=b then x else s.aa i) (λi=>if i=b then k else κ i):=y2 aB λbd cR=>by grind
 refine h.move (H':=λi=>if i=b then x else s.aa i) aj (λ_ M=>M) (λ_ M=>.inl M) (by simp) (λr M _=>o8 w o M) ⟨rfl,rfl,rfl⟩ (λhe=>?_) ?_ ?_ ?_ (y3 (.inl B2) λbd cR=>by grind)
 ·intro i;by_cases G:i=b
  ·subst G;simp only[cE,if_true];grind
  ·refine cE.k9 (h.bF i) aj (λ_ M=>M) he (by grind) (by grind) λaf=>?_;exact o8 w o (h.own i af).1
 ·intro i G;by_cases eN:i=b
  ·subst eN;simp only[if_true]at G ⊢;refine⟨by simp_all,λao=>?_,.inr (by omega)⟩;have:=h.dc _ ao;omega
  ·simp only[if_neg eN]at G ⊢;have:=h.own i G;exact⟨by simp;omega,this.2.1,.inl ⟨i,G,rfl⟩⟩
 ·intro i j G aE e;by_cases eN:i=b<;>by_cases ma:j=b
  ·omega
  ·simp only[if_pos eN,if_neg ma]at G aE e;have:=(h.own j aE).1;omega
  ·simp only[if_neg eN,if_pos ma]at G aE e;have:=(h.own i G).1;omega
  ·simp only[if_neg eN,if_neg ma]at G aE e;exact h.inj i j G aE e
 ·intro r M;have:=h.dc r M;simp;omega
theorem qN{H:Nat->bJ}{κ:Nat->bD}{b:Nat}{x:bJ}(aB:x.gen=(H b).gen)(E:x.body.fH=true->(H b).body.fH=true)
  (U:x.body.fh=true->(H b).body.fh=true/\x.body.len=(H b).body.len/\x.body.e2=(H b).body.e2) (ah:x.body.gT=true->(H b).body.gT=true)
  (a1:x.body.mI=true->(H b).body.mI=true) :
  fq H κ (λi=>if i=b then x else H i) κ:=by
 rw[BZ];intro i;by_cases G:i=b
 ·subst G;simp only[if_true];exact⟨by omega,λ_=>⟨λh=>⟨E h,rfl⟩,λh=>⟨(U h).1,rfl,(U h).2⟩,λh=>⟨ah h,rfl⟩,λh=>⟨a1 h,rfl⟩⟩⟩
 ·simp only[if_neg G];exact pZ.refl _ _
theorem ac6{H:Nat->bJ}{κ:Nat->bD}{b:Nat}{x:bJ}(E:x.body.fH=true->(H b).body.fH=true)(ah:x.body.gT=true->(H b).body.gT=true) :
  ∀ i,eS<=i->(if i=b then x else H i).body.fH=true\/(if i=b then x else H i).body.gT=true->κ i=κ i/\((H i).body.fH=true\/(H i).body.gT=true):=by
 grind
theorem bl.o9{C:b9}{s:aA}{a:Act}{w w':World}{κ:Nat->bD}{F:Nat->Prop}(h:bl C s a w κ F){b:Nat}{x:bJ}
  (gm:(s.aa b).body.b1 (κ b)=true) (y4:x.body.b1 (κ b)=true) (aj:fq s.aa κ (λi=>if i=b then x else s.aa i) κ)
  (E:x.body.fH=true->(s.aa b).body.fH=true) (ah:x.body.gT=true->(s.aa b).body.gT=true)
  (hw:∀ r,r≠(κ b).aa->w'.heap[r]?=w.heap[r]?) (cf:w'.heap.size=w.heap.size) (hc:dd w w')
  (ag:∀ (H:Nat->bJ),H=(λi=>if i=b then x else s.aa i)->fq s.aa κ H κ->c7 F w w'->jD C.P H κ F w' (κ b) x.body) :
  bl C (s.cx b x) a w' κ F:=by
 have af:=h.own b gm;refine h.move (H':=λi=>if i=b then x else s.aa i) aj (λ_ M=>M) (λ_ M=>.inl M) (by omega) (λr _ M=>hw r λe=>M b gm e.symm) hc (λhe=>?_) ?_ ?_ (λr M=>by rw[cf];exact h.dc r M) (ac6 E ah)
 ·intro i;by_cases G:i=b
  ·subst G;simp only[cE,if_true];grind
  ·refine cE.k9 (h.bF i) aj (λ_ M=>M) he (by grind) rfl λac7=>hw _ λe=>G (h.inj i b ac7 gm e)
 ·intro i G;by_cases eN:i=b
  ·grind
  ·simp only[if_neg eN]at G;have:=h.own i G;grind
 ·intro i j G aE e;have dO:(s.aa i).body.b1 (κ i)=true:=by
   grind
  have fT:(s.aa j).body.b1 (κ j)=true:=by
   grind
  exact h.inj i j dO fT e
theorem bl.drew{C:b9}{s:aA}{a:Act}{w:World}{κ:Nat->bD}{F:Nat->Prop}(h:bl C s a w κ F):bl C s a w.drew κ F:=
 h.move (H':=s.aa) (fq.refl _ _) (λ_ M=>M) (λ_ M=>.inl M) (Nat.le_refl _) (λ_ _ _=>rfl) ⟨rfl,rfl,rfl⟩
  (λ_ b=>cE.k9 (h.bF b) (fq.refl _ _) (λ_ M=>M) ⟨Nat.le_refl _,λ_ _=>rfl⟩ rfl rfl λ_=>rfl) (λb W=>⟨(h.own b W).1,(h.own b W).2.1,.inl ⟨b,W,rfl⟩⟩) h.inj h.dc (λ_ _ h=>⟨rfl,h⟩)
def aA.le(s' s:aA):Prop:=(∀ i,s'.ay i=s.ay i\/s'.ay i=.undef)/\∀ b,s'.aa b=s.aa b\/s'.aa b=⟨(s.aa b).gen,.fz⟩
theorem bl.y5{C:b9}{s s':aA}{a:Act}{w:World}{κ:Nat->bD}{F:Nat->Prop}(h:bl C s a w κ F)(aD:s'.le s):bl C s' a w κ F:=by
 have gm:∀ b,(s'.aa b).body.b1 (κ b)=true->(s.aa b).body.b1 (κ b)=true:=λb W=>by
  rcases aD.2 b with e | e
  ·grind
  ·rw[e]at W;cases W
 have aj:fq s.aa κ s'.aa κ:=λb=>by
  rcases aD.2 b with e | e
  ·grind
  ·rw[e];exact⟨Nat.le_refl _,λ_=>⟨λh=>(by cases h),λh=>(by cases h),λh=>(by cases h),λh=>(by cases h)⟩⟩
 have U:=h.move aj (λ_ M=>M) (λ_ M=>.inl M) (Nat.le_refl _) (λ_ _ _=>rfl) (dd.refl _)
  (λ_ b=>by
   rcases aD.2 b with e | e
   ·exact cE.k9 (h.bF b) aj (λ_ M=>M) (c7.refl _ _) (by rw[e]) rfl λ_=>rfl
   ·unfold cE;rw[e];trivial)
  (λb W=>⟨(h.own b (gm b W)).1,(h.own b (gm b W)).2.1,.inl ⟨b,gm b W,rfl⟩⟩) (λb bd W cR=>h.inj b bd (gm b W) (gm bd cR)) h.dc (λb _ W=>⟨rfl,by
   rcases aD.2 b with e | e
   ·grind
   ·rw[e]at W;simp[bQ.fH,bQ.gT]at W⟩)
 refine { U with bT:=λi=>?_,dH:=U.dH,dfr:=U.dfr,eM:=λl aK L n st e=>?_ }
 ·rcases aD.1 i with e | e
  ·rw[e];exact U.bT i
  ·rw[e];trivial
 ·rcases aD.1 b4 with k | k
  ·exact U.eM l aK L n st (k ▸ e)
  grind
end Go.Fer
namespace Go.Fer
inductive aq(ak:Type) where
 | ret (a:ak)
 | eT (b:Nat) (k:bJ->aq ak)
def aq.run{ak:Type}(H:Nat->bJ):aq ak->ak
 | .ret a=>a
 | .eT b k=>(k (H b)).run H
def aq.looks{ak:Type}(H:Nat->bJ):aq ak->List Nat
 | .ret _=>[]
 | .eT b k=>b::(k (H b)).looks H
def aq.bind{ak β:Type}:aq ak->(ak->aq β)->aq β
 | .ret a,f=>f a
 | .eT b k,f=>.eT b λx=>(k x).bind f
def aq.map{ak β:Type}(f:ak->β)(m:aq ak):aq β:=m.bind λa=>.ret (f a)
def aq.none{ak:Type}:aq (Option ak):=.ret Option.none
def aq.cQ{ak β:Type}(m:aq (Option ak))(f:ak->aq (Option β)):aq (Option β):=m.bind fun | some a=>f a | Option.none=>.none
@[simp] theorem aq.bN {ak:Type} (H:Nat->bJ) (a:ak):(aq.ret a).run H=a:=rfl
@[simp] theorem aq.e3 {ak:Type} (H:Nat->bJ) (b:Nat) (k:bJ->aq ak):(aq.eT b k).run H=(k (H b)).run H:=rfl
theorem aq.run_bind{ak β:Type}(H:Nat->bJ)(m:aq ak)(f:ak->aq β):(m.bind f).run H=(f (m.run H)).run H:=by
 induction m with
 | ret a=>rfl
 | eT b k aJ=>simp[aq.bind,aJ]
theorem aq.e4{ak β:Type}(H:Nat->bJ)(m:aq (Option ak))(f:ak->aq (Option β)):(m.cQ f).run H=(m.run H).bind λa=>(f a).run H:=by
 unfold aq.cQ;rw[aq.run_bind];cases m.run H<;>rfl
theorem aq.Rx{ak:Type}{H H':Nat->bJ}:∀ (m:aq ak),(∀ b∈m.looks H,H' b=H b)->m.run H'=m.run H/\m.looks H'=m.looks H
 | .ret a,_=>⟨rfl,rfl⟩
 | .eT b k,h=>by
  have W:=h b (by simp[aq.looks]);have:=aq.Rx (k (H b)) λc hc=>h c (by simp[aq.looks,hc]);simp only[aq.run,aq.looks,W,this];simp
def eU(t cY:ad)(x:t.ai):Option cY.ai:=if h:t=cY then some (h ▸ x) else none
theorem kM{t cY:ad}{x:t.ai}{y:cY.ai}(h:eU t cY x=some y):∃ e:t=cY,y=e ▸ x:=by
 unfold eU at h;grind
def B3:(t:ad)->Value->Option t.ai
 | .bH _,.pointer Option.none=>some Option.none
 | .map _ _,.map Option.none=>some []
 | .ep,.nilFunc=>some Option.none
 | _,_=>Option.none
def ad.isAgg:ad->Bool
 | .st _ | .array _ _=>true
 | _=>false
def dX(t:ad):aG->aq (Option (t.ai×List Nat))
 | .val cY x=>.ret ((eU cY t x).map (·,[]))
 | .cv=>match t with
  | .slice _=>.ret (some ([],[]))
  | _=>.none
 | .own b g=>match t with
  | .slice e=>.eT b λx=>.ret (if x.gen=g then (match x.body with
    | .bg a6 xs=>(eU (.slice a6) (.slice e) xs).map (·,[b])
    | .hD a6 xs=>(eU (.slice a6) (.slice e) xs).map (·,[])
    | _=>Option.none) else Option.none)
  | _=>.none
 | .sub b g aY G=>match t with
  | .slice e=>.eT b λx=>.ret (if x.gen=g then (match x.body with
    | .bg a6 xs=>(eU (.slice a6) (.slice e) ((xs.take G).drop aY)).map (·,[b])
    | .hD a6 xs=>(eU (.slice a6) (.slice e) ((xs.take G).drop aY)).map (·,[])
    | _=>Option.none) else Option.none)
  | _=>.none
 | .fG b g=>match t with
  | .map k v=>.eT b λx=>.ret (if x.gen=g then (match x.body with
    | .mp k' h4 es=>(eU (.map k' h4) (.map k v) es).map (·,[b])
    | .jh k' h4 es=>(eU (.map k' h4) (.map k v) es).map (·,[])
    | _=>Option.none) else Option.none)
  | _=>.none
 | .dW cY x=>match t with
  | .bH e=>.ret ((eU (.bH cY) (.bH e) (some x)).map (·,[]))
  | _=>.none
 | .jC v=>.ret ((B3 t v).map (·,[]))
 | .iA k n _=>match t with
  | .ep=>if n=0 then .ret (some (some k,[])) else .none
  | _=>.none
 | _=>.none
def tm(e:ad)(cg:List aG->aq (Option (e.ai×List Nat×List aG)))(av:aG):aq (Option (Option e.ai×List Nat)):=
 match av with
 | .aW b g off=>.eT b λx=>if x.gen=g/\off=0 then (match x.body with
   | .gG cY y=>.ret ((eU cY e y).map λz=>(some z,[]))
   | .cells cY f=>if cY=e then (cg ((List.range e.size).map f)).cQ λ(y,l,r)=>.ret (if r.isEmpty then some (some y,b::l) else Option.none) else .none
   | _=>.none) else .none
 | av=>dX (.bH e) av
def ig:(t:ad)->List aG->aq (Option (t.ai×List Nat×List aG))
 | .cV,cs=>.ret (some ((),[],cs))
 | .st t,cs=>ig t cs
 | .az a b,cs=>(ig a cs).cQ λ(x,l,r)=>(ig b r).cQ λ(y,m,q)=>.ret (some ((x,y),l++m,q))
 | .array n e,cs=>n.rec (motive:=λ_=>List aG->aq (Option (List e.ai×List Nat×List aG))) (λcs=>.ret (some ([],[],cs)))
   (λ_ aJ cs=>(ig e cs).cQ λ(x,l,r)=>(aJ r).cQ λ(xs,m,q)=>.ret (some (x::xs,l++m,q))) cs
 | .bool,cs=>match cs with | c::r=>(dX .bool c).map λo=>o.map λ(x,l)=>(x,l,r) | []=>.none
 | .int k,cs=>match cs with | c::r=>(dX (.int k) c).map λo=>o.map λ(x,l)=>(x,l,r) | []=>.none
 | .str,cs=>match cs with | c::r=>(dX .str c).map λo=>o.map λ(x,l)=>(x,l,r) | []=>.none
 | .slice e,cs=>match cs with | c::r=>(dX (.slice e) c).map λo=>o.map λ(x,l)=>(x,l,r) | []=>.none
 | .bH e,cs=>match cs with | c::r=>(tm e (ig e) c).map λo=>o.map λ(x,l)=>(x,l,r) | []=>.none
 | .map k v,cs=>match cs with | c::r=>(dX (.map k v) c).map λo=>o.map λ(x,l)=>(x,l,r) | []=>.none
 | .fn a b,cs=>match cs with | c::r=>(dX (.fn a b) c).map λo=>o.map λ(x,l)=>(x,l,r) | []=>.none
 | .ct a,cs=>match cs with | c::r=>(dX (.ct a) c).map λo=>o.map λ(x,l)=>(x,l,r) | []=>.none
 | .ep,cs=>match cs with | c::r=>(dX .ep c).map λo=>o.map λ(x,l)=>(x,l,r) | []=>.none
def ko(t:ad)(av:aG):aq (Option (t.ai×List Nat)):=
 match t with
 | .bH e=>tm e (ig e) av
 | t=>if t.eG then dX t av else .none
def dA(t:ad)(av:aG):aq (Option (t.ai×List Nat)):=
 match av with
 | .val cY x=>.ret ((eU cY t x).map (·,[]))
 | .agg n f=>if t.eG then .none else (ig t ((List.range n).map f)).cQ λ(x,l,r)=>.ret (if r.isEmpty&&t.isAgg then some (x,l) else Option.none)
 | _=>ko t av
def nI:(t:ad)->t.ai->List aG
 | .cV,_=>[]
 | .st t,x=>nI t x
 | .az a b,x=>nI a x.1++nI b x.2
 | .array n e,xs=>(List.range n).flatMap λi=>nI e (List.getD xs i e.dh)
 | .bool,x=>[.val .bool x]
 | .int k,x=>[.val (.int k) x]
 | .str,x=>[.val .str x]
 | .slice e,x=>[.val (.slice e) x]
 | .bH e,x=>[.val (.bH e) x]
 | .map k v,x=>[.val (.map k v) x]
 | .fn a b,x=>[.val (.fn a b) x]
 | .ct a,x=>[.val (.ct a) x]
 | .ep,x=>[.val .ep x]
def rW:ad->List aG
 | .cV=>[]
 | .st t=>rW t
 | .az a b=>rW a++rW b
 | .array n e=>(List.range n).flatMap λ_=>rW e
 | .bool=>[.val .bool false]
 | .int k=>[.val (.int k) (0:Int)]
 | .str=>[.val .str []]
 | .slice _=>[.cv]
 | .bH e=>[.val (.bH e) Option.none]
 | .map k v=>[.val (.map k v) []]
 | .fn _ _=>[.jC .nilFunc]
 | .ct _=>[.jC .nilFunc]
 | .ep=>[.val .ep Option.none]
def hi(l:List aG)(i:Nat):aG:=l.getD i .undef
def mb:ad->Nat->Option (ad×Nat)
 | .az a _,0=>some (a,0)
 | .az a b,f+1=>(mb b f).map λ(t,o)=>(t,a.size+o)
 | .cV,_=>Option.none
 | t,0=>some (t,0)
 | _,_+1=>Option.none
def uV:(t:ad)->t.ai->Nat->Option ((s:ad)×s.ai)
 | .az a _,x,0=>some ⟨a,x.1⟩
 | .az _ b,x,f+1=>uV b x.2 f
 | .cV,_,_=>Option.none
 | t,x,0=>some ⟨t,x⟩
 | _,_,_+1=>Option.none
def rX:(t:ad)->t.ai->Nat->(s:ad)->Option s.ai
 | .st t,x,off,s=>if off=0/\ad.st t=s then eU (.st t) s x else rX t x off s
 | .az a b,x,off,s=>if off<a.size then rX a x.1 off s else rX b x.2 (off - a.size) s
 | .cV,_,_,_=>Option.none
 | .array _ _,_,_,_=>Option.none
 | .bool,x,off,s=>if off=0 then eU .bool s x else Option.none
 | .int k,x,off,s=>if off=0 then eU (.int k) s x else Option.none
 | .str,x,off,s=>if off=0 then eU .str s x else Option.none
 | .slice e,x,off,s=>if off=0 then eU (.slice e) s x else Option.none
 | .bH e,x,off,s=>if off=0 then eU (.bH e) s x else Option.none
 | .map k v,x,off,s=>if off=0 then eU (.map k v) s x else Option.none
 | .fn a b,x,off,s=>if off=0 then eU (.fn a b) s x else Option.none
 | .ct a,x,off,s=>if off=0 then eU (.ct a) s x else Option.none
 | .ep,x,off,s=>if off=0 then eU .ep s x else Option.none
def wZ:(t:ad)->t.ai->Nat->(s:ad)->s.ai->Option t.ai
 | .st t,x,off,s,y=>if off=0/\s=ad.st t then eU s (.st t) y else wZ t x off s y
 | .az a b,x,off,s,y=>if off<a.size then (wZ a x.1 off s y).map (·,x.2) else (wZ b x.2 (off - a.size) s y).map (x.1,·)
 | .cV,_,_,_,_=>Option.none
 | .array _ _,_,_,_,_=>Option.none
 | .bool,_,off,s,y=>if off=0 then eU s .bool y else Option.none
 | .int k,_,off,s,y=>if off=0 then eU s (.int k) y else Option.none
 | .str,_,off,s,y=>if off=0 then eU s .str y else Option.none
 | .slice e,_,off,s,y=>if off=0 then eU s (.slice e) y else Option.none
 | .bH e,_,off,s,y=>if off=0 then eU s (.bH e) y else Option.none
 | .map k v,_,off,s,y=>if off=0 then eU s (.map k v) y else Option.none
 | .fn a b,_,off,s,y=>if off=0 then eU s (.fn a b) y else Option.none
 | .ct a,_,off,s,y=>if off=0 then eU s (.ct a) y else Option.none
 | .ep,_,off,s,y=>if off=0 then eU s .ep y else Option.none
def lK(k:IntKind)(a b:Int):Int:=k.wrap (BitVec.ofInt k.bits a&&& BitVec.ofInt k.bits b).toNat
def Ry(k:IntKind)(a b:Int):Int:=k.wrap (BitVec.ofInt k.bits a||| BitVec.ofInt k.bits b).toNat
def Rz(k:IntKind)(a b:Int):Int:=k.wrap (BitVec.ofInt k.bits a ^^^ BitVec.ofInt k.bits b).toNat
def RA(k:IntKind)(a b:Int):Int:=k.wrap (BitVec.ofInt k.bits a&&& ~~~BitVec.ofInt k.bits b).toNat
def ac8(k:IntKind)(a b:Int):Int:=k.wrap (a*2 ^ (min b.toNat k.bits))
def ji(k:IntKind)(a b:Int):Int:=a.fdiv (2 ^ (min b.toNat k.bits))
def kN(t:ad)(xs:List t.ai)(i:Int):t.ai:=xs.getD i.toNat t.dh
def bM(n:Nat):Prop:=n<=4294967296
def gH:(t:ad)->t.ai->t.ai->Bool
 | .bool,x,y=>x == y
 | .int _,x,y=>decide ((x:Int)=y)
 | .str,x,y=>decide ((x:List UInt8)=y)
 | .st t,x,y=>gH t x y
 | .az a b,x,y=>gH a x.1 y.1&&gH b x.2 y.2
 | _,_,_=>false
def ad.kO:ad->Bool
 | .bool | .int _ | .str=>true
 | .st t=>t.kO
 | .az a b=>a.kO&&b.kO
 | _=>false
end Go.Fer
namespace Go.Fer
open Go.RowKit
section
variable {P:Program} {H:Nat->bJ} {κ:Nat->bD} {F F':Nat->Prop} {w:World}
def ew(P:Program)(H:Nat->bJ)(κ:Nat->bD)(F:Nat->Prop)(w:World):List aG->List Value->Prop
 | [],[]=>True
 | a::as,v::aC=>(bB P H κ F w a v/\v.oneCell'=true)/\ew P H κ F w as aC
 | _,_=>False
theorem ew.append:∀ {as bs:List aG} {us aC:List Value},ew P H κ F w as us->ew P H κ F w bs aC->ew P H κ F w (as++bs) (us++aC)
 | [],_,[],_,_,k=>k
 | _::_,_,_::_,_,h,k=>⟨h.1,ew.append h.2 k⟩
 | [],_,_::_,_,h,_=>h.elim
 | _::_,_,[],_,h,_=>h.elim
theorem ew.len:∀ {as:List aG} {us:List Value},ew P H κ F w as us->as.length=us.length
 | [],[],_=>rfl
 | _::_,_::_,h=>by simp[ew.len h.2]
 | [],_::_,h=>h.elim
 | _::_,[],h=>h.elim
theorem ew.kN:∀ {as:List aG} {us:List Value},ew P H κ F w as us->∀ i,i<as.length->bB P H κ F w (hi as i) (us.getD i Go.undef)/\(us.getD i Go.undef).oneCell'=true
 | a::as,v::aC,h,0,_=>h.1
 | a::as,v::aC,h,i+1,G=>by
  have:=ew.kN h.2 i (by grind);simpa [hi]using this
 | [],[],_,i,G=>by grind
 | [],_::_,h,_,_=>h.elim
 | _::_,[],h,_,_=>h.elim
theorem ew.RB:∀ {as:List aG} {us:List Value},as.length=us.length->(∀ i,i<as.length->bB P H κ F w (hi as i) (us.getD i Go.undef)/\(us.getD i Go.undef).oneCell'=true)->ew P H κ F w as us
 | [],[],_,_=>trivial
 | a::as,v::aC,aj,h=>⟨h 0 (by simp),ew.RB (by grind) λi G=>by have:=h (i+1) (by grind);simpa [hi]using this⟩
 | [],_::_,aj,_=>by grind
 | _::_,[],aj,_=>by grind
theorem y6:∀ (t:ad) {cs:List Value} {x:t.ai},bI P t F w cs x->ew P H κ F w (nI t x) cs:=by
 have eO:∀ (t:ad),t.eG=true->∀ {cs:List Value} {x:t.ai},bI P t F w cs x->ew P H κ F w [.val t x] cs:=by
  intro t aH cs x h;obtain⟨u,rfl,hu⟩:=BY aH h;exact⟨⟨(dV aH).2 ⟨hu,h⟩,Kb aH h⟩,trivial⟩
 intro t;induction t with
 | bool=>intro cs x h;exact eO _ rfl h
 | int k=>intro cs x h;exact eO (.int k) rfl h
 | str=>intro cs x h;exact eO _ rfl h
 | cV=>intro cs x h;simp only[bI]at h;subst h;trivial
 | st t aJ=>intro cs x h;simp only[bI]at h;exact aJ h
 | az a b fy eL=>
  intro cs x h;simp only[bI]at h;obtain⟨c,d,rfl,a8,W⟩:=h;exact (fy a8).append (eL W)
 | slice e aJ=>intro cs x h;exact eO (.slice e) rfl h
 | array n e aJ=>
  intro cs xs h;simp only[bI]at h;obtain⟨fo,rfl,E,U,ah⟩:=h;simp only[nI];have key:∀ (k:Nat) (l:List (List Value)),(∀ i (G:i<l.length),ew P H κ F w (nI e (List.getD xs (k+i) e.dh)) l[i])->ew P H κ F w ((List.range' k l.length).flatMap λi=>nI e (List.getD xs i e.dh)) l.flatten:=by
   intro k l;induction l generalizing k with
   | nil=>intro _;trivial
   | cons c l ac9=>
    intro cW;simp only[List.length_cons,List.range'_succ,List.flatMap_cons,List.flatten_cons];refine ew.append ?_ (ac9 (k+1) λi G=>?_)
    ·have:=cW 0 (by simp);grind
    ·have:=cW (i+1) (by grind);grind
  rw[List.range_eq_range',<-E];grind
 | bH e aJ=>intro cs x h;exact eO (.bH e) rfl h
 | map k v wQ wR=>intro cs x h;exact eO (.map k v) rfl h
 | fn a b fy eL=>intro cs x h;exact eO (.fn a b) rfl h
 | ct a aJ=>intro cs x h;exact eO (.ct a) rfl h
 | ep=>intro cs x h;exact eO .ep rfl h
theorem Ke{e:ad}{xs:List e.ai}{k:bD}(aT:jD P H κ F w k (.bg e xs))(bn:∀ r,F r->F' r)(al:k.e9=false->F' k.aa):bI P (.slice e) F' w [k.slice xs.length] xs:=by
 obtain⟨E,U⟩:=aT;simp only[bI,bD.slice];cases aw:k.e9 with
 | true=>rw[E aw];exact⟨none,0,rfl,Nat.le_refl _,by decide,λ_=>rfl,λp an=>by simp⟩
 | false=>
  obtain⟨cs,T,bE,c2,c3,c4,c5⟩:=U aw;refine⟨some ⟨k.aa,k.off,none⟩,k.cap,by simp,c3,c4,(by simp),λp an _=>?_⟩;cases an;refine⟨al aw,rfl,λi G=>?_⟩;obtain⟨bh,d1,d2⟩:=c5 i G;refine⟨bh,⟨al aw,rfl,λj aE=>?_⟩,ff e bn (c7.refl F w) d2⟩;simp only[World.cell?,bE];grind
theorem Fy{t cY:ad}{x:t.ai}{y:cY.ai}{v:Value}(hc:eU t cY x=some y)(h:er P t F w v x):er P cY F w v y:=by
 obtain⟨e,rfl⟩:=kM hc;grind
theorem tn{t cY:ad}{x:t.ai}{y:cY.ai}{cs:List Value}(hc:eU t cY x=some y)(h:bI P t F w cs x):bI P cY F w cs y:=by
 obtain⟨e,rfl⟩:=kM hc;grind
def iX(H:Nat->bJ)(κ:Nat->bD)(F':Nat->Prop)(l:List Nat):Prop:=∀ b∈l,(H b).body.b1 (κ b)=true->F' (κ b).aa
theorem iX.left{l m:List Nat}(h:iX H κ F' (l++m)):iX H κ F' l:=λb W=>h b (List.mem_append_left _ W)
theorem iX.right{l m:List Nat}(h:iX H κ F' (l++m)):iX H κ F' m:=λb W=>h b (List.mem_append_right _ W)
theorem RC{l' o7:ad}{es:List (l'.ai×o7.ai)}{k:bD}(aT:jD P H κ F w k (.mp l' o7 es))(bn:∀ r,F r->F' r)(al:F' k.aa):bI P (.map l' o7) F' w [.map (some k.aa)] es:=by
 obtain⟨ms,clk,E,U⟩:=aT;obtain⟨U,ah,a1,bK⟩:=U.mono bn (c7.refl F w);exact .inr ⟨_,ms,clk,rfl,al,E,U,ah,a1,bK⟩
theorem Fz{e:ad}{xs:List e.ai}{k:bD}{aY G:Nat}{v:Value}(h:bI P (.slice e) F' w [k.slice xs.length] xs)(E:aY<=G)(U:G<=xs.length)(aD:Fx k e.size aY G v) :
  bI P (.slice e) F' w [v] ((xs.take G).drop aY):=by
 have hlen:((xs.take G).drop aY).length=G - aY:=by grind
 obtain⟨a,cap,ax,bE,c2,c3,c4⟩:=h;rcases aD with⟨aw,rfl⟩ | ⟨aw,o,rfl,hR,gA⟩
 ·have:xs=[]:=by
   simp only[bD.slice,aw,if_true,List.cons.injEq,Value.slice.injEq,and_true]at ax;grind
  subst this;have bG:(([]:List e.ai).take G).drop aY=[]:=by simp
  rw[bG];exact⟨none,0,rfl,Nat.le_refl _,by decide,λ_=>rfl,λp an=>by simp⟩
 ·simp only[bD.slice,aw,Bool.false_eq_true,if_false,List.cons.injEq,Value.slice.injEq,and_true]at ax;obtain⟨rfl,_,rfl⟩:=ax;refine⟨some ⟨k.aa,o,none⟩,k.cap - aY,by grind,by omega,by omega,(by simp),λp an uW=>?_⟩;cases an;obtain⟨d1,d2,d3⟩:=c4 _ rfl (by omega);refine⟨d1,rfl,λi dO=>?_⟩;obtain⟨bh,m1,m2⟩:=d3 (aY+i) (by omega);grind
theorem Kf(aT:∀ b,cE P H κ F w b)(bn:∀ r,F r->F' r){t:ad}(aH:t.eG=true){av:aG}{v:Value}{x:t.ai}{l:List Nat}(h:(dX t av).run H=some (x,l))
  (aj:iX H κ F' l) (ae:bB P H κ F w av v):er P t F' w v x:=by
 cases av with
 | undef=>cases h
 | hC b a=>cases h
 | aW b g off=>cases h
 | oq b g i off=>cases h
 | iW b g i=>cases h
 | iA k n c=>
  cases t<;>simp only[dX,aq.none,aq.bN,reduceCtorEq]at h;split at h
  ·rename_i aw;subst aw;cases h;obtain⟨aC,rfl,aj,_⟩:=ae;obtain rfl:=List.eq_nil_of_length_eq_zero aj;exact (dV rfl).2 ⟨rfl,rfl⟩
  ·cases h
 | rV k n c=>cases h
 | pY n f=>cases h
 | agg n f=>cases h
 | j1 b g=>cases h
 | aV l aK L n st=>cases h
 | hg l=>cases h
 | wV e xs=>cases h
 | sub b g aY G=>
  cases t<;>simp only[dX,aq.none,aq.bN,aq.e3,reduceCtorEq]at h;rename_i e;split at h
  ·rename_i aB;obtain⟨p1,ih⟩:=ae;have jG:=aT b;unfold cE at jG;cases bS:(H b).body with
   | bg a6 xs=>
    rw[bS]at h jG ih;simp only[Option.map_eq_some_iff,Prod.mk.injEq]at h;obtain⟨z,bk,rfl,rfl⟩:=h;obtain⟨⟨aO,aR⟩,bO⟩:=ih aB.symm rfl;exact (dV rfl).2 ⟨Ft p1.2,tn bk (Fz (Ke jG bn λaw=>aj b (by simp) (by rw[bS];simp[bQ.b1,aw])) aO aR bO)⟩
   | hD a6 xs=>
    rw[bS]at h jG ih;simp only[Option.map_eq_some_iff,Prod.mk.injEq]at h;obtain⟨z,bk,rfl,rfl⟩:=h;obtain⟨⟨aO,aR⟩,bO⟩:=ih aB.symm rfl;exact (dV rfl).2 ⟨Ft p1.2,tn bk (Fz (ff (.slice a6) bn (c7.refl F w) jG) aO aR bO)⟩
   | _=>rw[bS]at h;cases h
  grind
 | fG b g=>
  cases t<;>simp only[dX,aq.none,aq.bN,aq.e3,reduceCtorEq]at h;rename_i k e;split at h
  ·rename_i aB;obtain⟨p1,ih⟩:=ae;have jG:=aT b;unfold cE at jG;cases bS:(H b).body with
   | mp k' h4 es=>
    rw[bS]at h jG ih;simp only[Option.map_eq_some_iff,Prod.mk.injEq]at h;obtain⟨z,bk,rfl,rfl⟩:=h;have:=ih aB.symm rfl;subst this;exact (dV rfl).2 ⟨rfl,tn bk (RC jG bn (aj b (by simp) (by rw[bS];rfl)))⟩
   | jh k' h4 es=>
    rw[bS]at h jG ih;simp only[Option.map_eq_some_iff,Prod.mk.injEq]at h;obtain⟨z,bk,rfl,rfl⟩:=h;have:=ih aB.symm rfl;subst this;exact (dV rfl).2 ⟨rfl,tn bk (ff (.map k' h4) bn (c7.refl F w) jG)⟩
   | _=>rw[bS]at h;cases h
  grind
 | val cY y=>
  simp only[dX,aq.bN,Option.map_eq_some_iff,Prod.mk.injEq]at h;obtain⟨z,bk,rfl,rfl⟩:=h;exact (Fy bk ae).mono bn (c7.refl F w)
 | cv=>
  cases t<;>simp only[dX,aq.none,aq.bN,reduceCtorEq,Option.some.injEq,Prod.mk.injEq]at h;obtain⟨rfl,rfl⟩:=h;simp only[bB]at ae;subst ae;exact (dV rfl).2 ⟨rfl,none,0,rfl,Nat.le_refl _,by decide,λ_=>rfl,λp an=>by simp⟩
 | own b g=>
  cases t<;>simp only[dX,aq.none,aq.bN,aq.e3,reduceCtorEq]at h;rename_i e;split at h
  ·rename_i aB;obtain⟨p1,ih⟩:=ae;have jG:=aT b;unfold cE at jG;cases bS:(H b).body with
   | bg a6 xs=>
    rw[bS]at h jG ih;simp only[Option.map_eq_some_iff,Prod.mk.injEq]at h;obtain⟨z,bk,rfl,rfl⟩:=h;have:=ih aB.symm rfl;simp only[bQ.len]at this;subst this;refine (dV rfl).2 ⟨by unfold bD.slice;split<;>rfl,tn bk (Ke jG bn λaw=>aj b (by simp) (by rw[bS];simp[bQ.b1,aw]))⟩
   | hD a6 xs=>
    rw[bS]at h jG ih;simp only[Option.map_eq_some_iff,Prod.mk.injEq]at h;obtain⟨z,bk,rfl,rfl⟩:=h;have:=ih aB.symm rfl;simp only[bQ.len]at this;subst this;exact (dV rfl).2 ⟨by unfold bD.slice;split<;>rfl,tn bk (ff _ bn (c7.refl F w) jG)⟩
   | _=>rw[bS]at h;cases h
  grind
 | dW cY y=>
  cases t<;>simp only[dX,aq.none,aq.bN,reduceCtorEq,Option.map_eq_some_iff,Prod.mk.injEq]at h;rename_i e;obtain⟨z,bk,rfl,rfl⟩:=h;obtain⟨p,bh,rfl,U,ah⟩:=ae;refine (dV rfl).2 ⟨rfl,tn bk ?_⟩;exact .inr ⟨p,y,bh,rfl,rfl,U.mono bn (c7.refl F w),ff cY bn (c7.refl F w) ah⟩
 | jC u=>
  simp only[bB]at ae;subst ae;simp only[dX,aq.bN,Option.map_eq_some_iff,Prod.mk.injEq]at h;obtain⟨z,bk,rfl,rfl⟩:=h;unfold B3 at bk;split at bk
  ·cases bk;exact (dV rfl).2 ⟨rfl,.inl ⟨rfl,rfl⟩⟩
  ·cases bk;exact (dV rfl).2 ⟨rfl,.inl ⟨rfl,rfl⟩⟩
  ·cases bk;exact (dV rfl).2 ⟨rfl,rfl⟩
  grind
theorem B4{n:Nat}{f:Nat->aG}{aC:List Value}(aj:aC.length=n)(h:∀ i,i<n->bB P H κ F w (f i) (aC.getD i Go.undef)/\(aC.getD i Go.undef).oneCell'=true) :
  ew P H κ F w ((List.range n).map f) aC:=by
 refine ew.RB (by grind) λi G=>?_;have dO:i<n:=by grind
 have:hi ((List.range n).map f) i=f i:=by simp[hi,List.getD_eq_getElem?_getD,dO]
 grind
theorem RD(aT:∀ b,cE P H κ F w b)(bn:∀ r,F r->F' r){e:ad}{cg:List aG->aq (Option (e.ai×List Nat×List aG))}
  (gn:∀ {cs:List aG} {aC:List Value} {x:e.ai} {l:List Nat} {r:List aG},(cg cs).run H=some (x,l,r)->iX H κ F' l->ew P H κ F w cs aC->∃ c d,aC=c++d/\bI P e F' w c x/\ew P H κ F w r d)
  {av:aG} {v:Value} {x:Option e.ai} {l:List Nat} (h:(tm e cg av).run H=some (x,l)) (aj:iX H κ F' l) (ae:bB P H κ F w av v):er P (.bH e) F' w v x:=by
 have cm:(dX (.bH e) av).run H=some (x,l)->er P (.bH e) F' w v x:=λh=>Kf aT bn rfl h aj ae;cases av with
 | aW b g off=>
  simp only[tm,aq.e3]at h;split at h
  ·rename_i aB;obtain⟨aB,rfl⟩:=aB;obtain⟨p1,ih⟩:=ae;have jG:=aT b;unfold cE at jG;cases bS:(H b).body with
   | gG t y=>
    rw[bS]at h jG ih;simp only[aq.bN,Option.map_eq_some_iff,Prod.mk.injEq]at h;obtain⟨z,bk,rfl,rfl⟩:=h;obtain⟨eq,rfl⟩:=kM bk;subst eq;obtain rfl:=ih aB.symm rfl;obtain⟨bh,E,U⟩:=jG;exact (dV rfl).2 ⟨rfl,.inr ⟨_,_,bh,rfl,rfl,E.mono bn (c7.refl F w),ff t bn (c7.refl F w) U⟩⟩
   | cells t f=>
    rw[bS]at h jG ih;simp only at h;split at h
    ·rename_i aH;subst aH;simp only[aq.e4,Option.bind_eq_some_iff,aq.bN]at h;obtain⟨⟨y,m,q⟩,E,U⟩:=h;split at U
     ·rename_i bt;simp only[Option.some.injEq,Prod.mk.injEq]at U;obtain⟨rfl,rfl⟩:=U;obtain rfl:=ih aB.symm rfl;obtain⟨cs,T,aO,aR,bO⟩:=jG;have iC:ew P H κ F w ((List.range t.size).map f) cs.toList:=B4 (by omega) λi G=>by
       simp_all
      obtain⟨c,d,Kg,bE,c2⟩:=gn E (λbd cR=>aj bd (List.mem_cons_of_mem _ cR)) iC;have bt:q=[]:=List.isEmpty_iff.1 bt;subst bt;cases d with
      | cons _ _=>exact c2.elim
      | nil=>
       rw[List.append_nil]at Kg;refine (dV rfl).2 ⟨rfl,.inr ⟨_,y,c,rfl,rfl,⟨aj b (by simp) (by rw[bS];rfl),rfl,λj aE=>?_⟩,bE⟩⟩;have fT:j<cs.size:=by grind
       simp only[World.cell?,aO,Nat.zero_add,Option.isSome_none,Bool.false_eq_true,if_false,Array.getElem?_eq_getElem fT];grind
     grind
    ·cases h
   | _=>rw[bS]at h;cases h
  ·cases h
 | _=>exact cm h
theorem Kh(aT:∀ b,cE P H κ F w b)(bn:∀ r,F r->F' r):∀ (t:ad) {cs:List aG} {aC:List Value} {x:t.ai} {l:List Nat} {r:List aG},(ig t cs).run H=some (x,l,r)->
  iX H κ F' l->ew P H κ F w cs aC->∃ c d,aC=c++d/\bI P t F' w c x/\ew P H κ F w r d:=by
 have p2:∀ (t:ad) (g:aG->aq (Option (t.ai×List Nat))),t.eG=true->(∀ {av:aG} {v:Value} {x:t.ai} {l:List Nat},(g av).run H=some (x,l)->iX H κ F' l->bB P H κ F w av v->er P t F' w v x)->
   ∀ {cs:List aG} {aC:List Value} {x:t.ai} {l:List Nat} {r:List aG},(match cs with | c::r=>(g c).map λo=>o.map λ(x,l)=>(x,l,r) | []=>.none:aq (Option (t.ai×List Nat×List aG))).run H=some (x,l,r)->
   iX H κ F' l->ew P H κ F w cs aC->∃ c d,aC=c++d/\bI P t F' w c x/\ew P H κ F w r d:=by
  intro t g aH aB cs aC x l r h aj a8;cases cs with
  | nil=>cases h
  | cons c cs=>
   cases aC with
   | nil=>exact a8.elim
   | cons v aC=>
    simp only[aq.map,aq.run_bind,aq.bN,Option.map_eq_some_iff,Prod.mk.injEq]at h;obtain⟨⟨y,m⟩,bk,rfl,rfl,rfl⟩:=h;refine⟨[v],aC,rfl,?_,a8.2⟩;exact ((dV aH).1 (aB bk aj a8.1.1)).2
 have eO:∀ (t:ad),t.eG=true->∀ {cs:List aG} {aC:List Value} {x:t.ai} {l:List Nat} {r:List aG},(match cs with | c::r=>(dX t c).map λo=>o.map λ(x,l)=>(x,l,r) | []=>.none:aq (Option (t.ai×List Nat×List aG))).run H=some (x,l,r)->
   iX H κ F' l->ew P H κ F w cs aC->∃ c d,aC=c++d/\bI P t F' w c x/\ew P H κ F w r d:=
  λt aH=>p2 t (dX t) aH λh aj ae=>Kf aT bn aH h aj ae
 intro t;induction t with
 | bool=>intro cs aC x l r h aj a8;exact eO _ rfl h aj a8
 | int k=>intro cs aC x l r h aj a8;exact eO (.int k) rfl h aj a8
 | str=>intro cs aC x l r h aj a8;exact eO _ rfl h aj a8
 | cV=>
  intro cs aC x l r h aj a8;simp only[ig,aq.bN,Option.some.injEq,Prod.mk.injEq]at h;obtain⟨_,rfl,rfl⟩:=h;exact⟨[],aC,rfl,rfl,a8⟩
 | st t aJ=>intro cs aC x l r h aj a8;exact aJ h aj a8
 | az a b fy eL=>
  intro cs aC x l r h aj a8;simp only[ig,aq.e4,Option.bind_eq_some_iff,aq.bN,Option.some.injEq,Prod.mk.injEq]at h;obtain⟨⟨y,m,q⟩,E,⟨z,dz,q'⟩,U,rfl,rfl,rfl⟩:=h;obtain⟨c,d,rfl,bE,c2⟩:=fy E aj.left a8;obtain⟨c',uX,rfl,d1,d2⟩:=eL U aj.right c2;exact⟨c++c',uX,by simp,⟨c,c',rfl,bE,d1⟩,d2⟩
 | slice e aJ=>intro cs aC x l r h aj a8;exact eO (.slice e) rfl h aj a8
 | array n e aJ=>
  intro cs aC xs l r h aj a8;simp only[ig]at h;have key:∀ (n:Nat) {cs:List aG} {aC:List Value} {xs:List e.ai} {l:List Nat} {r:List aG},(n.rec (motive:=λ_=>List aG->aq (Option (List e.ai×List Nat×List aG))) (λcs=>.ret (some ([],[],cs)))
     (λ_ aJ cs=>(ig e cs).cQ λ(x,l,r)=>(aJ r).cQ λ(xs,m,q)=>.ret (some (x::xs,l++m,q))) cs).run H=some (xs,l,r)->
    iX H κ F' l->ew P H κ F w cs aC->
    ∃ fo d,aC=List.flatten fo++d/\fo.length=n/\xs.length=n/\(∀ i (h:i<xs.length) (dw:i<fo.length),bI P e F' w fo[i] xs[i])/\ew P H κ F w r d:=by
   intro n;induction n with
   | zero=>
    intro cs aC xs l r h aj a8;cases h;exact⟨[],aC,rfl,rfl,rfl,λi G=>(by simp),a8⟩
   | succ n B5=>
    intro cs aC xs l r h aj a8;simp only[aq.e4,Option.bind_eq_some_iff,aq.bN,Option.some.injEq,Prod.mk.injEq]at h;obtain⟨⟨y,m,q⟩,E,⟨z,dz,q'⟩,U,rfl,rfl,rfl⟩:=h;obtain⟨c,d,rfl,bE,c2⟩:=aJ E aj.left a8;obtain⟨fo,uX,rfl,d1,d2,d3,d4⟩:=B5 U aj.right c2;refine⟨c::fo,uX,by simp,by grind,by grind,λi G dO=>?_,d4⟩;grind
  obtain⟨fo,d,ax,aM,cD,et,eb⟩:=key n h aj a8;exact⟨fo.flatten,d,ax,⟨fo,rfl,aM,cD,et⟩,eb⟩
 | bH e aJ=>intro cs aC x l r h aj a8;exact p2 (.bH e) (tm e (ig e)) rfl (λh aj ae=>RD aT bn aJ h aj ae) h aj a8
 | map k v wQ wR=>intro cs aC x l r h aj a8;exact eO (.map k v) rfl h aj a8
 | fn a b fy eL=>intro cs aC x l r h aj a8;exact eO (.fn a b) rfl h aj a8
 | ct a aJ=>intro cs aC x l r h aj a8;exact eO (.ct a) rfl h aj a8
 | ep=>intro cs aC x l r h aj a8;exact eO .ep rfl h aj a8
theorem mc(aT:∀ b,cE P H κ F w b)(bn:∀ r,F r->F' r){t:ad}{av:aG}{v:Value}{x:t.ai}{l:List Nat}(h:(dA t av).run H=some (x,l))
  (aj:iX H κ F' l) (ae:bB P H κ F w av v):er P t F' w v x:=by
 have cm:(ko t av).run H=some (x,l)->er P t F' w v x:=by
  intro h;unfold ko at h;split at h
  ·exact RD aT bn (λh aj a8=>Kh aT bn _ h aj a8) h aj ae
  ·split at h
   ·rename_i aH;exact Kf aT bn aH h aj ae
   ·cases h
 cases av with
 | val cY y=>
  simp only[dA,aq.bN,Option.map_eq_some_iff,Prod.mk.injEq]at h;obtain⟨z,bk,rfl,rfl⟩:=h;exact (Fy bk ae).mono bn (c7.refl F w)
 | agg n f=>
  simp only[dA]at h;split at h
  ·cases h
  ·simp only[aq.e4,Option.bind_eq_some_iff,aq.bN]at h;obtain⟨⟨y,m,q⟩,E,U⟩:=h;split at U
   ·rename_i hc;simp only[Bool.and_eq_true,List.isEmpty_iff]at hc;simp only[Option.some.injEq,Prod.mk.injEq]at U;obtain⟨rfl,rfl⟩:=U;obtain⟨aC,rfl,a1,bK⟩:=ae;obtain⟨c,d,rfl,bE,c2⟩:=Kh aT bn t E aj (B4 a1 bK);rw[hc.1]at c2;cases d with
    | cons _ _=>exact c2.elim
    | nil=>
     rw[List.append_nil]at *
     have hlen:=hP t bE;have aD:=hc.2;cases t<;>simp only[ad.isAgg,Bool.false_eq_true]at aD
     ·exact⟨⟨c.toArray,rfl,by simpa [ad.size]using hlen⟩,by simpa [Value.cells]using bE⟩
     ·exact⟨⟨c.toArray,rfl,by simpa [ad.size]using hlen⟩,by simpa [Value.cells]using bE⟩
   grind
 | undef=>exact cm h
 | hC b a=>exact cm h
 | aW b g off=>exact cm h
 | own b g=>exact cm h
 | oq b g i off=>exact cm h
 | iW b g i=>exact cm h
 | dW cY y=>exact cm h
 | fG b g=>exact cm h
 | iA k n c=>exact cm h
 | rV k n c=>exact cm h
 | pY n f=>exact cm h
 | cv=>exact cm h
 | jC u=>exact cm h
 | j1 b g=>exact cm h
 | aV l aK L n st=>exact cm h
 | hg l=>exact cm h
 | wV e xs=>exact cm h
 | sub b g aY G=>exact cm h
end
def ad.pure:ad->Bool
 | .bool | .int _ | .str | .cV=>true
 | .st t=>t.pure
 | .az a b=>a.pure&&b.pure
 | .array _ e=>e.pure
 | _=>false
theorem ac_{P:Program}{F F':Nat->Prop}{w w':World}:∀ (t:ad) {cs:List Value} {x:t.ai},t.pure=true->bI P t F w cs x->bI P t F' w' cs x:=by
 intro t;induction t with
 | bool=>intro cs x _ h;exact h
 | int k=>intro cs x _ h;exact h
 | str=>intro cs x _ h;exact h
 | cV=>intro cs x _ h;exact h
 | st t aJ=>intro cs x aH h;exact aJ aH h
 | az a b fy eL=>
  intro cs x aH h;simp only[ad.pure,Bool.and_eq_true]at aH;obtain⟨c,d,rfl,a8,W⟩:=h;exact⟨c,d,rfl,fy aH.1 a8,eL aH.2 W⟩
 | slice e aJ=>intro cs x aH;cases aH
 | array n e aJ=>
  intro cs x aH h;obtain⟨fo,rfl,E,U,ah⟩:=h;exact⟨fo,rfl,E,U,λi G dO=>aJ aH (ah i G dO)⟩
 | bH e aJ=>intro cs x aH;cases aH
 | map k v wQ wR=>intro cs x aH;cases aH
 | fn a b fy eL=>intro cs x aH;cases aH
 | ct a aJ=>intro cs x aH;cases aH
 | ep=>intro cs x aH;cases aH
end Go.Fer
namespace Go.Fer
open Go.RowKit
section
variable {P:Program} {F:Nat->Prop} {w:World}
theorem ac'{t:ad}{x y:t.ai}(h:eU t t x=some y):y=x:=by
 obtain⟨e,rfl⟩:=kM h;rfl
theorem RE:∀ (t:ad) {f:Nat} {cs:List Value} {x:t.ai} {s:ad} {y:s.ai},bI P t F w cs x->uV t x f=some ⟨s,y⟩->
  ∃ bE c2 c3,cs=bE++(c2++c3)/\bI P s F w c2 y/\mb t f=some (s,bE.length):=by
 have eO:∀ (t:ad),(∀ a b,t≠.az a b)->t≠.cV->∀ {f:Nat} {cs:List Value} {x:t.ai} {s:ad} {y:s.ai},bI P t F w cs x->uV t x f=some ⟨s,y⟩->
   ∃ bE c2 c3,cs=bE++(c2++c3)/\bI P s F w c2 y/\mb t f=some (s,bE.length):=by
  intro t E U f cs x s y h ao;cases f with
  | zero=>
   have e:uV t x 0=some ⟨t,x⟩:=by cases t<;>first | rfl | grind | grind
   have a6:mb t 0=some (t,0):=by cases t<;>first | rfl | grind | grind
   rw[e]at ao;cases ao;exact⟨[],cs,[],by simp,h,a6⟩
  | succ f=>
   have e:uV t x (f+1)=none:=by cases t<;>first | rfl | grind
   grind
 intro t;induction t with
 | az a b fy eL=>
  intro f cs x s y h ao;simp only[bI]at h;obtain⟨c,d,rfl,a8,W⟩:=h;cases f with
  | zero=>
   simp only[uV,Option.some.injEq,Sigma.mk.injEq]at ao;obtain⟨rfl,ao⟩:=ao;cases ao;exact⟨[],c,d,by simp,a8,rfl⟩
  | succ f=>
   obtain⟨bE,c2,c3,rfl,aO,aR⟩:=eL W ao;refine⟨c++bE,c2,c3,by simp,aO,?_⟩;simp[mb,aR,hP a a8]
 | cV=>intro f cs x s y _ ao;cases f<;>cases ao
 | bool=>grind
 | int k=>grind
 | str=>grind
 | st t _=>grind
 | slice e _=>grind
 | array n e _=>grind
 | bH e _=>grind
 | map k v _ _=>grind
 | fn a b _ _=>grind
 | ct a _=>grind
 | ep=>grind
theorem RF:∀ (t:ad) {off:Nat} {cs:List Value} {x:t.ai} {s:ad} {y:s.ai},bI P t F w cs x->rX t x off s=some y->
  ∃ bE c2 c3,cs=bE++(c2++c3)/\bE.length=off/\bI P s F w c2 y:=by
 have eO:∀ (t:ad) {off:Nat} {cs:List Value} {x:t.ai} {s:ad} {y:s.ai},bI P t F w cs x->(if off=0 then eU t s x else none)=some y->
   ∃ bE c2 c3,cs=bE++(c2++c3)/\bE.length=off/\bI P s F w c2 y:=by
  intro t off cs x s y h ao;split at ao
  ·rename_i af;exact⟨[],cs,[],by simp,af.symm,tn ao h⟩
  grind
 intro t;induction t with
 | az a b fy eL=>
  intro off cs x s y h ao;simp only[bI]at h;obtain⟨c,d,rfl,a8,W⟩:=h;simp only[rX]at ao;split at ao
  ·grind
  ·obtain⟨bE,c2,c3,rfl,aO,aR⟩:=eL W ao;have:=hP a a8;grind
 | st t aJ=>
  intro off cs x s y h ao;simp only[rX]at ao;split at ao
  ·rename_i af;exact⟨[],cs,[],by simp,af.1.symm,tn ao h⟩
  ·simp only[bI]at h;grind
 | cV=>intro off cs x s y _ ao;cases ao
 | array n e _=>intro off cs x s y _ ao;cases ao
 | bool=>intro off cs x s y h ao;exact eO _ h ao
 | int k=>intro off cs x s y h ao;exact eO (.int k) h ao
 | str=>intro off cs x s y h ao;exact eO _ h ao
 | slice e _=>intro off cs x s y h ao;exact eO (.slice e) h ao
 | bH e _=>intro off cs x s y h ao;exact eO (.bH e) h ao
 | map k v _ _=>intro off cs x s y h ao;exact eO (.map k v) h ao
 | fn a b _ _=>intro off cs x s y h ao;exact eO (.fn a b) h ao
 | ct a _=>intro off cs x s y h ao;exact eO (.ct a) h ao
 | ep=>intro off cs x s y h ao;exact eO .ep h ao
theorem ada:∀ (t:ad) {off:Nat} {cs bh:List Value} {x dM:t.ai} {s:ad} {y:s.ai},bI P t F w cs x->wZ t x off s y=some dM->bI P s F w bh y->
  ∃ bE c2 c3,cs=bE++(c2++c3)/\bE.length=off/\c2.length=s.size/\bI P t F w (bE++(bh++c3)) dM:=by
 have eO:∀ (t:ad) {off:Nat} {cs bh:List Value} {x dM:t.ai} {s:ad} {y:s.ai},bI P t F w cs x->(if off=0 then eU s t y else none)=some dM->bI P s F w bh y->
   ∃ bE c2 c3,cs=bE++(c2++c3)/\bE.length=off/\c2.length=s.size/\bI P t F w (bE++(bh++c3)) dM:=by
  intro t off cs bh x dM s y h ao ar;split at ao
  ·rename_i af;obtain⟨e,rfl⟩:=kM ao;subst e;exact⟨[],cs,[],by simp,af.symm,hP s h,by grind⟩
  grind
 intro t;induction t with
 | az a b fy eL=>
  intro off cs bh x dM s y h ao ar;simp only[bI]at h;obtain⟨c,d,rfl,a8,W⟩:=h;simp only[wZ]at ao;split at ao
  ·simp only[Option.map_eq_some_iff]at ao;obtain⟨z,bk,rfl⟩:=ao;obtain⟨bE,c2,c3,rfl,aO,aR,bO⟩:=fy a8 bk ar;exact⟨bE,c2,c3++d,by simp,aO,aR,⟨_,d,by simp,bO,W⟩⟩
  ·simp only[Option.map_eq_some_iff]at ao;obtain⟨z,bk,rfl⟩:=ao;obtain⟨bE,c2,c3,rfl,aO,aR,bO⟩:=eL W bk ar;have:=hP a a8;exact⟨c++bE,c2,c3,by simp,by grind,aR,⟨c,_,by simp,a8,bO⟩⟩
 | st t aJ=>
  intro off cs bh x dM s y h ao ar;simp only[wZ]at ao;split at ao
  ·rename_i af;obtain⟨af,e⟩:=af;subst e;have:=ac' ao;subst this;exact⟨[],cs,[],by simp,af.symm,hP _ h,by grind⟩
  ·simp only[bI]at h ⊢;grind
 | cV=>intro off cs bh x dM s y _ ao;cases ao
 | array n e _=>intro off cs bh x dM s y _ ao;cases ao
 | bool=>intro off cs bh x dM s y h ao ar;exact eO _ h ao ar
 | int k=>intro off cs bh x dM s y h ao ar;exact eO (.int k) h ao ar
 | str=>intro off cs bh x dM s y h ao ar;exact eO _ h ao ar
 | slice e _=>intro off cs bh x dM s y h ao ar;exact eO (.slice e) h ao ar
 | bH e _=>intro off cs bh x dM s y h ao ar;exact eO (.bH e) h ao ar
 | map k v _ _=>intro off cs bh x dM s y h ao ar;exact eO (.map k v) h ao ar
 | fn a b _ _=>intro off cs bh x dM s y h ao ar;exact eO (.fn a b) h ao ar
 | ct a _=>intro off cs bh x dM s y h ao ar;exact eO (.ct a) h ao ar
 | ep=>intro off cs bh x dM s y h ao ar;exact eO .ep h ao ar
end
def j3:ad->List Value->Option (List Value)
 | .cV,cs=>some cs
 | .st t,cs=>j3 t cs
 | .az a b,cs=>(j3 a cs).bind (j3 b)
 | .array n e,cs=>n.rec (motive:=λ_=>List Value->Option (List Value)) some (λ_ aJ cs=>(j3 e cs).bind aJ) cs
 | .bool,cs=>match cs with | .bool false::r=>some r | _=>none
 | .int k,cs=>match cs with | .int k' n::r=>if k'=k/\n=0 then some r else none | _=>none
 | .str,cs=>match cs with | .string s::r=>if s.size=0 then some r else none | _=>none
 | .slice _,cs=>match cs with | .slice none 0 0::r=>some r | _=>none
 | .bH _,cs=>match cs with | .pointer none::r=>some r | _=>none
 | .map _ _,cs=>match cs with | .map none::r=>some r | _=>none
 | .fn _ _,cs=>match cs with | .nilFunc::r=>some r | _=>none
 | .ct _,cs=>match cs with | .nilFunc::r=>some r | _=>none
 | .ep,cs=>match cs with | .nilFunc::r=>some r | _=>none
theorem RG(k:IntKind):fS k 0:=by cases k<;>decide
theorem uY{P:Program}{H:Nat->bJ}{κ:Nat->bD}{F:Nat->Prop}{w:World}:∀ (t:ad) {cs r:List Value},j3 t cs=some r->
  ∃ c,cs=c++r/\bI P t F w c t.dh/\ew P H κ F w (rW t) c:=by
 intro t;induction t with
 | cV=>intro cs r h;cases h;exact⟨[],by simp,rfl,trivial⟩
 | st t aJ=>intro cs r h;exact aJ h
 | az a b fy eL=>
  intro cs r h;simp only[j3,Option.bind_eq_some_iff]at h;obtain⟨q,E,U⟩:=h;obtain⟨c,rfl,bE,c2⟩:=fy E;obtain⟨d,rfl,d1,d2⟩:=eL U;exact⟨c++d,by simp,⟨c,d,rfl,bE,d1⟩,c2.append d2⟩
 | array n e aJ=>
  intro cs r h;simp only[j3]at h;have key:∀ (n k:Nat) {cs r:List Value},n.rec (motive:=λ_=>List Value->Option (List Value)) some (λ_ aJ cs=>(j3 e cs).bind aJ) cs=some r->
    ∃ fo:List (List Value),cs=fo.flatten++r/\fo.length=n/\(∀ c∈fo,bI P e F w c e.dh)/\ew P H κ F w ((List.range' k n).flatMap λ_=>rW e) fo.flatten:=by
   intro n;induction n with
   | zero=>intro k cs r h;cases h;exact⟨[],by simp,rfl,by simp,trivial⟩
   | succ n B5=>
    intro k cs r h;simp only[Option.bind_eq_some_iff]at h;obtain⟨q,E,U⟩:=h;obtain⟨c,rfl,bE,c2⟩:=aJ E;obtain⟨fo,rfl,d1,d2,d3⟩:=B5 (k+1) U;refine⟨c::fo,by simp,by grind,?_,?_⟩
    ·grind
    ·simp only[List.range'_succ,List.flatMap_cons,List.flatten_cons];exact c2.append d3
  obtain⟨fo,rfl,E,U,ah⟩:=key n 0 h;refine⟨fo.flatten,rfl,⟨fo,rfl,E,by simp[ad.dh],λi G dO=>?_⟩,?_⟩
  ·have:(ad.array n e).dh[i]=e.dh:=by simp[ad.dh]
   grind
  ·simp only[rW,List.range_eq_range'];exact ah
 | bool=>
  intro cs r h;simp only[j3]at h;split at h
  ·cases h;exact⟨[.bool false],rfl,rfl,⟨fg.2 rfl,rfl⟩,trivial⟩
  grind
 | int k=>
  intro cs r h;simp only[j3]at h;split at h
  ·split at h
   ·rename_i al;obtain⟨rfl,rfl⟩:=al;cases h;exact⟨[.int _ 0],rfl,⟨rfl,RG _⟩,⟨gS.2 ⟨rfl,RG _⟩,rfl⟩,trivial⟩
   grind
  grind
 | str=>
  intro cs r h;simp only[j3]at h;split at h
  ·rename_i s pX;split at h
   ·rename_i aD;cases h;have:s=⟨([]:List UInt8).toArray⟩:=by
     cases s with | mk d=>simp only[ByteArray.size]at aD;grind
    subst this;exact⟨[.string ⟨([]:List UInt8).toArray⟩],rfl,⟨rfl,by decide⟩,⟨l_.2 ⟨rfl,by decide⟩,rfl⟩,trivial⟩
   grind
  grind
 | slice e _=>
  intro cs r h;simp only[j3]at h;split at h
  ·cases h;exact⟨[.slice none 0 0],rfl,⟨none,0,rfl,Nat.le_refl _,by decide,λ_=>rfl,λp an=>by simp⟩,⟨rfl,rfl⟩,trivial⟩
  grind
 | bH e _=>
  intro cs r h;simp only[j3]at h;split at h
  ·cases h;exact⟨[.pointer none],rfl,.inl ⟨rfl,rfl⟩,⟨(dV rfl).2 ⟨rfl,.inl ⟨rfl,rfl⟩⟩,rfl⟩,trivial⟩
  grind
 | map k v _ _=>
  intro cs r h;simp only[j3]at h;split at h
  ·cases h;exact⟨[.map none],rfl,.inl ⟨rfl,rfl⟩,⟨(dV rfl).2 ⟨rfl,.inl ⟨rfl,rfl⟩⟩,rfl⟩,trivial⟩
  grind
 | fn a b _ _=>
  intro cs r h;simp only[j3]at h;split at h
  ·cases h;exact⟨[.nilFunc],rfl,⟨.nilFunc,rfl,⟨rfl,rfl⟩,λF' w' _ _ _ _ args x _ _ aD=>(show False from aD).elim⟩,⟨rfl,rfl⟩,trivial⟩
  grind
 | ct a _=>
  intro cs r h;simp only[j3]at h;split at h
  ·cases h;exact⟨[.nilFunc],rfl,⟨.nilFunc,rfl,⟨rfl,rfl⟩,λF' w' _ _ _ _ aD=>(show ∃ _,False from aD).elim λ_ h=>h.elim⟩,⟨rfl,rfl⟩,trivial⟩
  grind
 | ep=>
  intro cs r h;simp only[j3]at h;split at h
  ·cases h;exact⟨[.nilFunc],rfl,rfl,⟨(dV rfl).2 ⟨rfl,rfl⟩,rfl⟩,trivial⟩
  grind
def ot(P:Program)(t:ad)(id:TypeId):Bool:=
 match P.info? id with
 | some i=>i.size == t.size&&decide (i.bytes<=1024)&&(match i.zero with
  | some z=>(match j3 t z.cells.toList with | some []=>true | _=>false)&&(match t,z with
   | .st _,.agg _=>true
   | .array _ _,.agg _=>true
   | .st _,_=>false
   | .array _ _,_=>false
   | _,.agg _=>false
   | _,_=>true)
  | none=>false)
 | none=>false
def cF(P:Program):ad->Sum TypeId (List Field×Nat)->Bool
 | .az a b, .inr (f :: g :: [], off) => f.offset == off && cF P a (.inl f.type) && a.size != 0 && f.name != "_" && (g.offset == off + a.size && cF P b (.inl g.type) && b.size != 0 && g.name != "_")
 | .az a b, .inr (f :: g :: h :: eV, off) => f.offset == off && cF P a (.inl f.type) && a.size != 0 && f.name != "_" && cF P b (.inr (g :: h :: eV, off + a.size))
 | .st t,.inl id=>ot P (.st t) id&&!P.stoodInHeld id&&!P.eqGuardType P.depth id&&match P.underlying id with
  | some (.struct eV)=>(match eV.toList with
   | []=>decide (t=.cV)
   | [f] => f.offset == 0 && cF P t (.inl f.type) && t.size != 0 && f.name != "_"
   | l=>cF P t (.inr (l,0)))
  | _=>false
 | .bool,.inl id=>ot P .bool id&&(match P.underlying id with | some .bool=>true | _=>false)
 | .int k,.inl id=>ot P (.int k) id&&(match P.underlying id with | some (.int k')=>decide (k'=k) | _=>false)
 | .str,.inl id=>ot P .str id&&(match P.underlying id with | some .string=>true | _=>false)
 | .slice e,.inl id=>ot P (.slice e) id&&(match P.underlying id with | some (.slice i)=>cF P e (.inl i)&&e.size != 0 | _=>false)
 | .array n e,.inl id=>ot P (.array n e) id&&(match P.underlying id with | some (.array m i)=>decide (m=n)&&cF P e (.inl i)&&e.size != 0 | _=>false)
 | .bH e,.inl id=>ot P (.bH e) id&&(match P.underlying id with | some (.pointer i)=>cF P e (.inl i)&&e.size != 0 | _=>false)
 | .map k v,.inl id=>ot P (.map k v) id&&(match P.underlying id with | some (.map i j)=>cF P k (.inl i)&&cF P v (.inl j) | _=>false)
 | .fn a b,.inl id=>ot P (.fn a b) id&&(match P.underlying id with | some (.func _ _ _)=>true | _=>false)
 | .ct a,.inl id=>ot P (.ct a) id&&(match P.underlying id with | some (.func _ _ _)=>true | _=>false)
 | .ep,.inl id=>ot P .ep id&&(match P.underlying id with | some (.func _ _ _)=>true | _=>false)
 | _,_=>false
def b6(P:Program)(t:ad)(id:TypeId):Prop:=cF P t (.inl id)=true
theorem b6.kp{P:Program}{t:ad}{id:TypeId}(h:b6 P t id):ot P t id=true:=by
 unfold b6 at h;cases t<;>simp only[cF,Bool.and_eq_true,Bool.false_eq_true]at h<;>first | exact h.1.1.1 | exact h.1
theorem kq{P:Program}{t:ad}{id:TypeId}(h:ot P t id=true):∃ i z,P.info? id=some i/\i.size=t.size/\i.bytes<=1024/\i.zero=some z/\
  j3 t z.cells.toList=some []/\((∃ cs,z=.agg cs)<->t.isAgg=true):=by
 unfold ot at h;split at h
 ·rename_i i G;simp only[Bool.and_eq_true,beq_iff_eq,decide_eq_true_eq]at h;obtain⟨⟨E,U⟩,ah⟩:=h;split at ah
  ·rename_i z bk;simp only[Bool.and_eq_true]at ah;obtain⟨a1,bK⟩:=ah;refine⟨i,z,G,E,U,bk,?_,?_⟩
   ·grind
   ·cases t<;>cases z<;>simp_all[ad.isAgg]
  grind
 grind
end Go.Fer
namespace Go.Fer
open Go.RowKit
structure eC where
 ca:Prop
 c:Prop
 e_:aG
 hE:List (Nat×bJ)
def use:aG->Prop×aG
 | .hC b a=>(b=true,a)
 | a=>(True,a)
def w1:Value->aG
 | .bool b=>.val .bool b
 | .int k n=>if fS k n then .val (.int k) n else .jC (.int k n)
 | .string s=>if s.size<1048576 then .val .str s.data.toList else .jC (.string s)
 | .slice none 0 0=>.cv
 | v=>.jC v
def a7(aP:dG)(s:Nat->aG):Operand->aG
 | .tmp t=>s t
 | .const v=>w1 v
 | .func f=>match aP.tk f with
  | some v=>.val (.fn v.ts v.aV) v.sh
  | none=>.iA f 0 λ_=>.undef
 | .global _=>.undef
structure aL where
 ts:ad
 aV:ad
 pre:ts.ai->Prop
 g:ts.ai->aV.ai
def kr:(t:ad)->t.ai->Nat->aG
 | .az a _,x,0=>.val a x.1
 | .az _ b,x,i+1=>kr b x.2 i
 | t,x,0=>.val t x
 | _,_,_+1=>.undef
def j4:ad->Nat
 | .az _ b=>j4 b+1
 | .cV=>0
 | _=>1
def qO(t:ad)(x:t.ai):aG:=
 match t with
 | .az a b=>.pY (j4 (.az a b)) (kr (.az a b) x)
 | .cV=>.jC (.tuple #[])
 | t=>.val t x
def iY:(t:ad)->List aG->aq (Option (t.ai×List Nat))
 | .az a b,v::aC=>(dA a v).cQ λ(x,l)=>(iY b aC).cQ λ(y,m)=>.ret (some ((x,y),l++m))
 | .az _ _,[]=>.none
 | .cV,[]=>.ret (some ((),[]))
 | .cV,_::_=>.none
 | t,[v]=>dA t v
 | _,_=>.none
def jH:List Nat->aq (List (Nat×bJ))
 | []=>.ret []
 | b::l=>.eT b λx=>(jH l).bind λr=>match x.body with
  | .bg e xs=>.ret ((b,⟨x.gen,.hD e xs⟩)::r)
  | .mp k v es=>.ret ((b,⟨x.gen,.jh k v es⟩)::r)
  | .cells t f=>(ig t ((List.range t.size).map f)).bind λo=>.ret (match o with
   | some (y,_,[])=>(b,⟨x.gen,.gG t y⟩)::r
   | _=>r)
  | _=>.ret r
def cellsOf(t:ad)(av:aG):Option (List aG):=
 match t,av with
 | .st t,.val (.st cY) x=>if cY=t then some (nI cY x) else none
 | .st t,.agg n f=>if n=t.size then some ((List.range n).map f) else none
 | .array n e,.val (.array iZ a6) x=>if iZ=n/\a6=e then some (nI (.array iZ a6) x) else none
 | .array n e,.agg m f=>if m=n*e.size then some ((List.range m).map f) else none
 | t,av=>if t.eG then (match av with
  | .val cY _=>if cY.eG then some [av] else none
  | .aW _ _ _ | .own _ _ | .oq _ _ _ _ | .dW _ _ | .fG _ _ | .iA _ _ _ | .cv | .sub _ _ _ _=>some [av]
  | .jC (.agg _) | .jC (.tuple _)=>none
  | .jC _=>some [av]
  | _=>none) else none
def aG.me:aG->Option (IntKind×Int)
 | .val (.int k) x=>some (k,x)
 | _=>none
def aG.tp:aG->Option (List UInt8)
 | .val .str x=>some x
 | _=>none
def y7(op:BinOp)(k:IntKind)(a b:Int):Option (Prop×aG):=
 match op with
 | .add=>some (True,.val (.int k) (k.wrap (a+b)))
 | .sub=>some (True,.val (.int k) (k.wrap (a - b)))
 | .mul=>some (True,.val (.int k) (k.wrap (a*b)))
 | .quo=>some (b≠0,.val (.int k) (k.wrap (a.tdiv b)))
 | .rem=>some (b≠0,.val (.int k) (a.tmod b))
 | .and=>some (True,.val (.int k) (lK k a b))
 | .or=>some (True,.val (.int k) (Ry k a b))
 | .xor=>some (True,.val (.int k) (Rz k a b))
 | .andNot=>some (True,.val (.int k) (RA k a b))
 | .eql=>some (True,.val .bool (decide (a=b)))
 | .neq=>some (True,.val .bool (decide (a≠b)))
 | .lss=>some (True,.val .bool (decide (a<b)))
 | .leq=>some (True,.val .bool (decide (a<=b)))
 | .gtr=>some (True,.val .bool (decide (a > b)))
 | .geq=>some (True,.val .bool (decide (a>=b)))
 | _=>none
def Ki(op:BinOp)(k:IntKind)(a b:Int):Option (Prop×aG):=
 match op with
 | .shl=>some (0<=b,.val (.int k) (ac8 k a b))
 | .shr=>some (0<=b,.val (.int k) (ji k a b))
 | _=>none
def B6(op:BinOp)(a b:List UInt8):Option (Prop×aG):=
 match op with
 | .add=>some (bM (a.length+b.length),.val .str (a++b))
 | .eql=>some (True,.val .bool (decide (a=b)))
 | .neq=>some (True,.val .bool (decide (a≠b)))
 | .lss=>some (True,.val .bool (Op.bytesLess a b))
 | .geq=>some (True,.val .bool (!Op.bytesLess a b))
 | _=>none
def ad.j5:ad->Nat
 | .st t=>t.j5+1
 | .az a b=>max a.j5 b.j5
 | _=>1
def y8(op:BinOp)(t:ad)(x y:aG):aq (Option (Prop×aG)):=
 (match t,x,y with
 | .bH _,.val (.bH _) p,.jC (.pointer none)=>.ret (some p.isNone)
 | .bH _,.dW _ _,.jC (.pointer none)=>.ret (some false)
 | .bH _,.aW b g _,.jC (.pointer none)=>.eT b λz=>.ret (if z.gen=g&&z.body.fH then some false else none)
 | t,x,y=>if t.kO&&decide (t.j5<=100) then (dA t x).cQ λ(a,_)=>(dA t y).cQ λ(b,_)=>.ret (some (gH t a b)) else .none:aq (Option Bool)).cQ λe=>
 .ret (match op with
  | .eql=>some (True,.val .bool e)
  | .neq=>some (True,.val .bool (!e))
  | _=>none)
def bP(ca c:Prop)(v:aG):aq (Option eC):=.ret (some ⟨ca,c,v,[]⟩)
def FA(t:ad)(av:aG):aq (Option (Prop×Int)):=
 match t with
 | .slice _=>match av with
  | .val (.slice _) xs=>.ret (some (True,xs.length))
  | .cv=>.ret (some (True,0))
  | .own b g=>.eT b λx=>.ret (if x.gen=g&&x.body.fh then some (True,x.body.len) else none)
  | .sub b g aY G=>.eT b λx=>.ret (if x.gen=g&&x.body.fh then some (True,((G - aY:Nat):Int)) else none)
  | _=>.none
 | .str=>match av with
  | .val .str xs=>.ret (some (True,xs.length))
  | _=>.none
 | .map _ _=>match av with
  | .val (.map _ _) xs=>.ret (some (bM xs.length,xs.length))
  | .fG b g=>.eT b λx=>.ret (if x.gen=g then (match x.body with | .mp _ _ es=>some (bM es.length,(es.length:Int)) | .jh _ _ es=>some (bM es.length,(es.length:Int)) | _=>none) else none)
  | _=>.none
 | _=>.none
def y9(t:ad):aG->aq (Option aG)
 | .dW cY x=>.ret (if cY=t/\(t.eG||t.isAgg)=true then some (.val cY x) else none)
 | .aW b g off=>.eT b λx=>.ret (if x.gen=g then (match x.body with
   | .cells t0 f=>if t.eG then (if off<t0.size then some (f off) else none) else if t.isAgg then (if off+t.size<=t0.size then some (.agg t.size λi=>f (off+i)) else none) else none
   | .gG t0 y=>if t.eG||t.isAgg then (rX t0 y off t).map (.val t) else none
   | _=>none) else none)
 | .oq b g i off=>.eT b λx=>.ret (if x.gen=g then (match x.body with
   | .bg e xs=>if t.eG||t.isAgg then (rX e (xs.getD i e.dh) off t).map (.val t) else none
   | .hD e xs=>if t.eG||t.isAgg then (rX e (xs.getD i e.dh) off t).map (.val t) else none
   | _=>none) else none)
 | _=>.none
def putCells(f:Nat->aG)(off:Nat)(l:List aG):Nat->aG:=λi=>if off<=i/\i<off+l.length then l.getD (i - off) .undef else f i
def RH(t:ad)(p v:aG):aq (Option (List (Nat×bJ))):=
 match p with
 | .aW b g off=>.eT b λx=>.ret (if x.gen=g then (match x.body with
   | .cells t0 f=>(cellsOf t v).bind λl=>if off+l.length<=t0.size/\l.length=t.size then some [(b,⟨x.gen,.cells t0 (putCells f off l)⟩)] else none
   | _=>none) else none)
 | .oq b g i off=>(dA t v).cQ λ(y,l)=>(jH l).bind λwl=>.eT b λx=>.ret (if x.gen=g/\!l.contains b then (match x.body with
   | .bg e xs=>(wZ e (xs.getD i e.dh) off t y).map λz=>wl++[(b,⟨x.gen,.bg e (xs.set i z)⟩)]
   | _=>none) else none)
 | _=>.none
def RI(bG:ad)(x:aG)(i:Int):aq (Option (Prop×aG)):=
 match x with
 | .val (.slice e) xs=>.ret (if e=bG then some (0<=i/\i<(xs.length:Int),.dW e (kN e xs i)) else none)
 | .own b g=>.eT b λz=>.ret (if z.gen=g then (match z.body with
   | .bg e xs=>if e=bG then some (0<=i/\i<(xs.length:Int),.oq b g i.toNat 0) else none
   | .hD e xs=>if e=bG then some (0<=i/\i<(xs.length:Int),.dW e (kN e xs i)) else none
   | _=>none) else none)
 | .sub b g aY G=>.eT b λz=>.ret (if z.gen=g then (match z.body with
   | .bg e _=>if e=bG then some (0<=i/\i<((G - aY:Nat):Int),.oq b g (aY+i.toNat) 0) else none
   | .hD e xs=>if e=bG then some (0<=i/\i<((G - aY:Nat):Int),.dW e (kN e xs ((aY:Int)+i))) else none
   | _=>none) else none)
 | .cv=>.ret (some (False,.dW bG bG.dh))
 | _=>.none
def du:Option Int->Int | some l=>l | none=>0
def fA(n:Nat):Option Int->Int | some h=>h | none=>n
def B7(aY G:Option Int)(n m:Nat):Nat:=match aY,G with | some _,some _=>m | _,_=>n
def RJ(bG:ad)(x:aG)(aY G:Option Int):aq (Option (Prop×aG)):=
 match x with
 | .val (.slice e) xs=>.ret (if e=bG then some (0<=du aY/\du aY<=fA xs.length G/\fA xs.length G<=(xs.length:Int),.val (.slice e) ((xs.take (fA xs.length G).toNat).drop (du aY).toNat)) else none)
 | .cv=>.ret (some (0<=du aY/\du aY<=fA 0 G/\fA 0 G<=0,.cv))
 | .own b g=>.eT b λz=>.ret (if z.gen=g&&z.body.fh&&z.body.e2 == bG.size then some (0<=du aY/\du aY<=fA z.body.len G/\fA z.body.len G<=(z.body.len:Int),.sub b g (du aY).toNat (fA z.body.len G).toNat) else none)
 | .sub b g fi aX=>.eT b λz=>.ret (if z.gen=g&&z.body.fh&&z.body.e2 == bG.size then some (0<=du aY/\du aY<=fA (aX - fi) G/\fA (aX - fi) G<=((B7 aY G (aX - fi) (z.body.len - fi):Nat):Int),.sub b g (fi+(du aY).toNat) (fi+(fA (aX - fi) G).toNat)) else none)
 | _=>.none
def RL(x:aG)(aY G:Option Int):Option (Prop×aG):=
 match x with
 | .val .str xs=>some (0<=du aY/\du aY<=fA xs.length G/\fA xs.length G<=(xs.length:Int),.val .str ((xs.take (fA xs.length G).toNat).drop (du aY).toNat))
 | _=>none
def h5(d:Option Nat)(k:Nat->Nat->Option eC):aq (Option eC):=
 match d with
 | none=>.none
 | some d=>.eT d λx=>.ret (k d (x.gen+1))
def Kj(d:Option Nat)(e:ad)(x y:aG)(ca:Prop):aq (Option eC):=
 match x with
 | .own b g=>.eT b λz=>match (if z.gen=g then z.body else .fz) with
  | .bg a6 xs=>if h:a6=e then (dA (.slice e) y).cQ λ(ys,_)=>.ret (some ⟨ca,bM (xs.length+ys.length),.own b (g+1),[(b,⟨g+1,.bg e ((h ▸ xs)++ys)⟩)]⟩) else .none
  | _=>.none
 | .sub b g aY G=>.eT b λz=>match (if z.gen=g then z.body else .fz) with
  | .bg a6 xs=>if h:a6=e then (dA (.slice e) y).cQ λ(ys,_)=>.ret (some ⟨ca,bM (((xs.take G).drop aY).length+ys.length),.own b (g+2),[(b,⟨g+2,.bg e ((h ▸ (xs.take G).drop aY)++ys)⟩)]⟩) else .none
  | _=>.none
 | .cv=>(dA (.slice e) y).cQ λ(ys,_)=>h5 d λb g=>some ⟨ca,bM ys.length,.own b g,[(b,⟨g,.bg e ys⟩)]⟩
 | .wV a6 xs=>if h:a6=e then (dA (.slice e) y).cQ λ(ys,_)=>h5 d λb g=>some ⟨ca,0<ys.length/\bM (xs.length+ys.length),.own b g,[(b,⟨g,.bg e ((h ▸ xs)++ys)⟩)]⟩ else .none
 | _=>.none
def FB(t:ad):List aG->List (Nat×aG)->Option (List aG)
 | cs,[]=>some cs
 | cs,(i,av)::r=>
  match mb t i with
  | none=>none
  | some (s,off)=>match cellsOf s av with
   | none=>none
   | some l=>if l.length=s.size/\off+s.size<=cs.length then FB t (cs.take off++(l++cs.drop (off+s.size))) r else none
def tq(e:ad)(ps:List (Nat×aG)):Nat->Nat->aq (Option (List e.ai×List Nat))
 | _,0=>.ret (some ([],[]))
 | i,n+1=>(match ps.find? (λp=>p.1 == i) with
   | some p=>dA e p.2
   | none=>.ret (some (e.dh,[])):aq (Option (e.ai×List Nat))).cQ λ(x,l)=>(tq e ps (i+1) n).cQ λ(xs,m)=>.ret (some (x::xs,l++m))
def rY(ps:List (Nat×aG)):Prop:=ps.foldr (λp q=>match p.2 with | .hC b _=>b=true/\q | _=>q) True
def iD(ps:List (Nat×aG)):List (Nat×aG):=ps.map λp=>(p.1,(use p.2).2)
def jI(ps:List aG):Prop:=ps.foldr (λp q=>match p with | .hC b _=>b=true/\q | _=>q) True
def k_(aI:Operand->aG):Option Operand->Option (Prop×Option Int)
 | none=>some (True,none)
 | some x=>match use (aI x) with
  | (o,.val (.int _) n)=>some (o,some n)
  | _=>none
def FC(T:Nat->ad)(aI:Operand->aG)(ty:TypeId)(x:Operand)(aY G:Option Operand):aq (Option eC):=
 let (cB,dZ):=use (aI x)
 match k_ aI aY,k_ aI G with
 | some (ol,l),some (qP,h)=>match T ty with
  | .slice e=>(RJ e dZ l h).cQ λ(c,v)=>bP (cB/\(ol/\qP)) c v
  | .str=>match RL dZ l h with
   | some (c,v)=>bP (cB/\(ol/\qP)) c v
   | none=>.none
  | _=>.none
 | _,_=>.none
def RM(bG:ad)(x:aG)(aY G:Option Int)(m:Int):aq (Option (Prop×aG)):=
 match x with
 | .val (.slice e) xs=>.ret (if e=bG then some (0<=du aY/\du aY<=fA xs.length G/\fA xs.length G=m/\m<=(xs.length:Int),.wV e ((xs.take m.toNat).drop (du aY).toNat)) else none)
 | .cv=>.ret (some (du aY=0/\fA 0 G=0/\m=0,.wV bG []))
 | .own b g=>.eT b λz=>.ret (if z.gen=g&&z.body.fh then some (0<=du aY/\du aY<=fA z.body.len G/\fA z.body.len G<=m/\m<=(z.body.len:Int),.undef) else none)
 | _=>.none
def FD(T:Nat->ad)(aI:Operand->aG)(ty:TypeId)(x:Operand)(aY G o_:Option Operand):aq (Option eC):=
 let (cB,dZ):=use (aI x)
 match k_ aI aY,k_ aI G,k_ aI o_ with
 | some (ol,l),some (qP,some h),some (uZ,some m)=>match T ty with
  | .slice e=>(RM e dZ l (some h) m).cQ λ(c,v)=>bP (cB/\(ol/\(qP/\uZ))) c v
  | _=>.none
 | _,_,_=>.none
def B8(T:Nat->ad)(aI:Operand->aG)(args:List Operand)(dq:List TypeId):aq (Option eC):=
 match args,dq with
 | [x],[t]=>let (cB,dZ):=use (aI x);(FA (T t) dZ).cQ λ(c,n)=>bP cB c (.val (.int .i64) n)
 | _,_=>.none
def B9(T:Nat->ad)(aI:Operand->aG)(d:Option Nat)(args:List Operand)(dq:List TypeId):aq (Option eC):=
 match args,dq with
 | [x,y],[t,u]=>match T t,T u with
  | .slice e,.slice _=>let (cB,dZ):=use (aI x);let (nJ,ks):=use (aI y);Kj d e dZ ks (cB/\nJ)
  | _,_=>.none
 | _,_=>.none
def mJ(aI:Operand->aG)(k:IntKind):List Operand->Option (Prop×z1')
 | []=>none
 | [x]=>match (use (aI x)).2.me with
  | some (k',n)=>if k'=k then some ((use (aI x)).1,[n]) else none
  | none=>none
 | x::l=>match (use (aI x)).2.me,mJ aI k l with
  | some (k',n),some (ca,h6)=>if k'=k then some ((use (aI x)).1/\ca,n::h6) else none
  | _,_=>none
def rZ(aI:Operand->aG)(f:Int->Int->Int)(args:List Operand):aq (Option eC):=
 match args with
 | x::y::l=>match (use (aI x)).2.me with
  | some (k,a)=>match mJ aI k (y::l) with
   | some (ca,h6)=>bP ((use (aI x)).1/\ca) True (.val (.int k) (h6.foldl f a))
   | none=>.none
  | none=>.none
 | _=>.none
def B_(T:Nat->ad)(aI:Operand->aG)(args:List Operand)(dq:List TypeId):aq (Option eC):=
 match args,dq with
 | [x],[t]=>match T t,use (aI x) with
  | .slice _,(cB,.cv)=>bP cB True (.val (.int .i64) 0)
  | _,_=>.none
 | _,_=>.none
def nK(t:ad):Bool:=match t with | .az (.slice _) .cV=>true | _=>false
def B'(t:ad)(y:t.ai):Option ((e:ad)×List e.ai):=match t,y with | .az (.slice e) .cV,y=>some ⟨e,y.1⟩ | _,_=>none
def FE(be:Nat->Option aL)(aI:Operand->aG)(d:Option Nat)(k:Nat)(args:List Operand):aq (Option eC):=
 let l:=args.map aI
 match be k with
 | some c=>(iY c.ts (l.map λv=>(use v).2)).cQ λ(x,bU)=>match B' c.aV (c.g x) with
  | some y=>(jH bU).bind λwl=>h5 d λb g=>if bU.contains b then none else some ⟨jI l,c.pre x,.own b g,wl++[(b,⟨g,.bg y.1 y.2⟩)]⟩
  | none=>(if c.aV.pure then .ret [] else jH bU:aq (List (Nat×bJ))).bind λwl=>.ret (some ⟨jI l,c.pre x,qO c.aV (c.g x),wl⟩)
 | none=>.none
def y_{k v:ad}(es:List (k.ai×v.ai))(x:k.ai):Option v.ai:=(es.find? λp=>gH k x p.1).map (·.2)
def lL{k v:ad}:List (k.ai×v.ai)->k.ai->v.ai->List (k.ai×v.ai)
 | [],x,y=>[(x,y)]
 | p::es,x,y=>if gH k x p.1=true then (p.1,y)::es else p::lL es x y
def tr(k:ad):Bool:=k.kO&&decide (k.j5<=100)
def Ca(k v:ad)(m:aG):aq (Option (List (k.ai×v.ai))):=
 match m with
 | .val t es=>.ret (eU t (.map k v) es)
 | .jC (.map none)=>.ret (some [])
 | .fG b g=>.eT b λx=>.ret (if x.gen=g then (match x.body with
   | .mp k' h4 es=>eU (.map k' h4) (.map k v) es
   | .jh k' h4 es=>eU (.map k' h4) (.map k v) es
   | _=>none) else none)
 | _=>.none
def RN(v:ad)(r:Option v.ai)(ok:Bool):aG:=
 match ok with
 | true=>.pY 2 (hi [.val v (r.getD v.dh),.val .bool r.isSome])
 | false=>.val v (r.getD v.dh)
def y'(T:Nat->ad)(aI:Operand->aG)(ty:TypeId)(m x:Operand)(ok:Bool):aq (Option eC):=
 match T ty with
 | .map k v=>let (uZ,Kk):=use (aI m);let (cB,dZ):=use (aI x);if tr k&&(v.eG||v.isAgg) then
   (Ca k v Kk).cQ λes=>(dA k dZ).cQ λ(y,_)=>
    bP (uZ/\cB) True (RN v (y_ es y) ok)
  else .none
 | _=>.none
def qQ(T:Nat->ad)(aI:Operand->aG)(ty:TypeId)(m x y:Operand):aq (Option eC):=
 match T ty with
 | .map k v=>let (uZ,Kk):=use (aI m);let (cB,dZ):=use (aI x);let (nJ,ks):=use (aI y);if tr k then
   match Kk with
   | .fG b g=>(dA k dZ).cQ λ(x,ou)=>(dA v ks).cQ λ(y,ov)=>(jH (ou++ov)).bind λwl=>.eT b λz=>.ret (if z.gen=g/\!(ou++ov).contains b then (match z.body with
     | .mp k' h4 es=>(eU (.map k' h4) (.map k v) es).map λes=>⟨uZ/\cB/\nJ,True,.undef,wl++[(b,⟨z.gen,.mp k v (lL es x y)⟩)]⟩
     | _=>none) else none)
   | _=>.none
  else .none
 | _=>.none
def FF(T:Nat->ad)(aI:Operand->aG)(d:Option Nat)(ty:TypeId)(l c:Operand):aq (Option eC):=
 match T ty with
 | .slice e=>let (ol,adb):=use (aI l);let (p3,ade):=use (aI c);match adb.me,ade.me with
  | some (.i64,n),some (.i64,m)=>h5 d λb g=>some ⟨ol/\p3,0<=n/\n=m/\bM n.toNat,.own b g,[(b,⟨g,.bg e (List.replicate n.toNat e.dh)⟩)]⟩
  | _,_=>.none
 | _=>.none
def gh{ak:Type}(xs:List ak)(aY:Nat)(ys:List ak):List ak:=xs.take aY++ys++xs.drop (aY+ys.length)
def FG(T:Nat->ad)(aI:Operand->aG)(args:List Operand)(dq:List TypeId):aq (Option eC):=
 match args,dq with
 | [x,y],[t,u]=>match T t,T u with
  | .slice e,.slice _=>let (cB,dZ):=use (aI x);let (nJ,ks):=use (aI y);match (match dZ with | .own b g=>some (b,g,0,none) | .sub b g aY G=>some (b,g,aY,some G) | _=>none:Option (Nat×Nat×Nat×Option Nat)) with
   | some (b,g,aY,G)=>(dA (.slice e) ks).cQ λ(ys,_)=>.eT b λz=>.ret (if z.gen=g then (match z.body with
     | .bg a6 xs=>if h:a6=e then some ⟨cB/\nJ,True,.val (.int .i64) ((min (G.getD xs.length - aY) ys.length:Nat):Int),[(b,⟨z.gen,.bg e (gh (h ▸ xs) aY (ys.take (G.getD xs.length - aY)))⟩)]⟩ else none
     | _=>none) else none)
   | none=>.none
  | _,_=>.none
 | _,_=>.none
def w2(aI:Operand->aG)(args:List Operand):Option (Nat×Nat×Nat×Nat):=
 match args with
 | [x,y]=>match (use (aI x)).2,(use (aI y)).2 with
  | .sub b g aY G,.sub bd g' _ _=>if bd=b/\g'=g then some (b,g,aY,G) else none
  | _,_=>none
 | _=>none
def Cb(T:Nat->ad)(aI:Operand->aG)(args:List Operand)(dq:List TypeId)(b g aY G:Nat):aq (Option eC):=
 match args,dq with
 | [x,y],[t,u]=>match T t,T u with
  | .slice e,.slice _=>let (cB,_):=use (aI x);let (nJ,ks):=use (aI y);(dA (.slice e) ks).cQ λ(ys,_)=>.eT b λz=>.ret (if z.gen=g then (match z.body with
    | .bg a6 xs=>if h:a6=e then some ⟨cB/\nJ,G+ys.length<=xs.length,.sub b g aY (G+ys.length),[(b,⟨z.gen,.bg e (gh (h ▸ xs) G ys)⟩)]⟩ else none
    | _=>none) else none)
  | _,_=>.none
 | _,_=>.none
def Cc(T:Nat->ad)(aI:Operand->aG)(args:List Operand)(dq:List TypeId):aq (Option eC):=
 match args,dq with
 | [x],[t]=>match T t with
  | .slice e=>let (cB,dZ):=use (aI x);match dZ with
   | .sub b g aY G=>.eT b λz=>.ret (if z.gen=g then (match z.body with
     | .bg a6 xs=>if h:a6=e then some ⟨cB,True,.undef,[(b,⟨z.gen,.bg e (gh (h ▸ xs) aY (List.replicate (G - aY) e.dh))⟩)]⟩ else none
     | _=>none) else none)
   | _=>.none
  | _=>.none
 | _,_=>.none
def mK(T:Nat->ad)(be:Nat->Option aL)(aI:Operand->aG)(d:Option Nat)(c:Call):aq (Option eC):=
 match c.callee with
 | .builtin b=>match b with
  | .len=>B8 T aI c.args.toList c.argTypes.toList
  | .append=>match w2 aI c.args.toList with
   | some (b,g,aY,G)=>Cb T aI c.args.toList c.argTypes.toList b g aY G
   | none=>B9 T aI d c.args.toList c.argTypes.toList
  | .clear=>Cc T aI c.args.toList c.argTypes.toList
  | .copy=>FG T aI c.args.toList c.argTypes.toList
  | .min=>rZ aI (λa b=>if b<a then b else a) c.args.toList
  | .max=>rZ aI (λa b=>if b > a then b else a) c.args.toList
  | .cap=>B_ T aI c.args.toList c.argTypes.toList
  | _=>.none
 | .value f=>match f with
  | .func k=>FE be aI d k c.args.toList
  | _=>.none
 | _=>.none
def u0(ys:z1'):List UInt8:=ys.map λn=>UInt8.ofNat n.toNat
def RO(t:ad)(ca:Prop)(b g i:Nat):aq (Option eC):=
 .eT b λz=>.ret (match z.body with
  | .gj _ _ la v=>if z.gen=g/\t.eG=true then some ⟨ca,i=la,v,[]⟩ else none
  | _=>none)
def Kl(t:ad)(ca:Prop)(b g i:Nat)(v:aG):aq (Option eC):=
 match v with
 | .own bd g'=>.eT b λz=>.ret (match z.body with
  | .gj e xs la _=>if z.gen=g/\t.eG=true then some ⟨ca,i=la,.undef,[(b,⟨z.gen,.gj e xs la (.own bd g')⟩)]⟩ else none
  | _=>none)
 | _=>.none
def bw(aP:dG)(T:Nat->ad)(be:Nat->Option aL)(aI:Operand->aG)(o:Oper):aq (Option eC):=
 match o.op with
 | .move x=>bP True True (aI x)
 | .assign x=>match aI x,T o.type with
  | .cv,.slice e=>h5 o.dst λb g=>some ⟨True,True,.own b g,[(b,⟨g,.bg e []⟩)]⟩
  | v,_=>bP True True v
 | .pick c a b=>match use (aI c) with
  | (p3,.val .bool i_)=>match a,b with
   | _,.const (.bool false)=>match use (aI a) with
    | (za,.val .bool av)=>bP (p3/\(i_=true->za)) True (.val .bool (i_&&av))
    | _=>.none
   | .const (.bool true),_=>match use (aI b) with
    | (ca,.val .bool bv)=>bP (p3/\(i_=false->ca)) True (.val .bool (i_||bv))
    | _=>.none
   | _,_=>.none
  | _=>.none
 | .binOp op ty x y _=>
  let (cB,dZ):=use (aI x)
  let (nJ,ks):=use (aI y)
  match dZ.me,ks.me with
  | some (k,a),some (k',b)=>(match op with
   | .shl | .shr=>match Ki op k a b with
    | some (c,v)=>bP (cB/\nJ) c v
    | none=>.none
   | _=>if k=k' then (match y7 op k a b with
    | some (c,v)=>bP (cB/\nJ) c v
    | none=>.none) else .none)
  | _,_=>match dZ.tp,ks.tp with
   | some a,some b=>match B6 op a b with
    | some (c,v)=>bP (cB/\nJ) c v
    | none=>.none
   | _,_=>(y8 op (T ty) dZ ks).cQ λ(c,v)=>bP (cB/\nJ) c v
 | .unOp op _ x=>match op,use (aI x) with
  | .not,(cB,.val .bool b)=>bP cB True (.val .bool (!b))
  | .neg,(cB,.val (.int k) n)=>bP cB True (.val (.int k) (k.wrap (0 - n)))
  | _,_=>.none
 | .extract x i=>match use (aI x) with
  | (cB,.pY n f)=>if i<n then bP cB True (f i) else .none
  | _=>.none
 | .nilCheck x=>match use (aI x) with
  | (cB,.iW b g i)=>.eT b λz=>.ret (if z.gen=g&&z.body.fh then some ⟨cB,True,.iW b g i,[]⟩ else none)
  | (cB,.dW t d)=>bP cB True (.dW t d)
  | (cB,.val (.bH e) p)=>bP cB (p.isSome=true) (.dW e (p.getD e.dh))
  | (cB,.aW b g off)=>.eT b λz=>.ret (if z.gen=g&&z.body.fH then some ⟨cB,True,.aW b g off,[]⟩ else none)
  | _=>.none
 | .fieldAddr ty x f=>match T ty with
  | .st t=>match mb t f with
   | some (_,w3)=>match use (aI x) with
    | (cB,.aW b g off)=>.eT b λz=>.ret (if z.gen=g&&z.body.fH then some ⟨cB,True,.aW b g (off+w3),[]⟩ else none)
    | (cB,.oq b g i off)=>.eT b λz=>.ret (if z.gen=g&&z.body.fh then some ⟨cB,True,.oq b g i (off+w3),[]⟩ else none)
    | (cB,.iW b g i)=>.eT b λz=>.ret (if z.gen=g&&z.body.fh&&w3 == 0 then some ⟨cB,True,.iW b g i,[]⟩ else none)
    | (cB,.dW (.st cY) d)=>if cY=t then (match uV cY d f with
     | some ⟨s',y⟩=>bP cB True (.dW s' y)
     | none=>.none) else .none
    | _=>.none
   | none=>.none
  | _=>.none
 | .field ty x f=>match T ty with
  | .st t=>match use (aI x) with
   | (cB,.val (.st cY) d)=>if cY=t then (match uV cY d f with
     | some ⟨s',y⟩=>bP cB True (.val s' y)
     | none=>.none) else .none
   | _=>.none
  | _=>.none
 | .load ty x=>match use (aI x) with
  | (cB,.iW b g i)=>RO (T ty) cB b g i
  | (cB,dZ)=>(y9 (T ty) dZ).cQ λv=>bP cB True v
 | .store ty x y=>let (nJ,ks):=use (aI y);match use (aI x) with
  | (cB,.iW b g i)=>Kl (T ty) (cB/\nJ) b g i ks
  | (cB,dZ)=>(RH (T ty) dZ ks).cQ λwl=>.ret (some ⟨cB/\nJ,True,.undef,wl⟩)
 | .alloc ty=>h5 o.dst λb g=>if T ty=.cV then none else some ⟨True,True,.aW b g 0,[(b,⟨g,.cells (T ty) (hi (rW (T ty)))⟩)]⟩
 | .box ty x=>let (cB,dZ):=use (aI x);match cellsOf (T ty) dZ with
  | some l=>h5 o.dst λb g=>if l.length=(T ty).size then some ⟨cB,True,.aW b g 0,[(b,⟨g,.cells (T ty) (hi l)⟩)]⟩ else none
  | none=>.none
 | .build ty ps=>let l:=ps.toList.map λp=>(p.1,aI p.2);match T ty with
  | .st t=>match FB t (rW t) (iD l) with
   | some cs=>bP (rY l) True (.agg cs.length (hi cs))
   | none=>.none
  | .array m e=>(tq e (iD l) 0 m).cQ λ(xs,bU)=>if (bU.isEmpty&&decide ((iD l).map (·.1)).Nodup&&(iD l).all (λp=>decide (p.1<m)))=true then bP (rY l) True (.val (.array m e) xs) else .none
  | _=>.none
 | .buildSlice ty n ps=>let l:=ps.toList.map λp=>(p.1,aI p.2);match T ty with
  | .slice e=>(tq e (iD l) 0 n).cQ λ(xs,bU)=>(jH bU).bind λwl=>h5 o.dst λb g=>if n*e.size<=65536/\(!bU.contains b&&decide ((iD l).map (·.1)).Nodup&&(iD l).all (λp=>decide (p.1<n)))=true then some ⟨rY l,True,.own b g,wl++[(b,⟨g,.bg e xs⟩)]⟩ else none
  | _=>.none
 | .indexAddr ty x i=>let (cB,dZ):=use (aI x);let (w4,Km):=use (aI i);match T ty,Km.me with
  | .slice e,some (_,n)=>(RI e dZ n).cQ λ(c,v)=>bP (cB/\w4) c v
  | .array m e,some (_,n)=>match dZ with
   | .dW (.array dz a6) xs=>if dz=m/\a6=e then bP (cB/\w4) (0<=n/\n<(m:Int)) (.dW a6 (kN a6 xs n)) else .none
   | .aW b g off=>.eT b λz=>.ret (if z.gen=g&&z.body.fH then some ⟨cB/\w4,0<=n/\n<(m:Int),.aW b g (off+n.toNat*e.size),[]⟩ else none)
   | _=>.none
  | _,_=>.none
 | .index ty x i=>let (cB,dZ):=use (aI x);let (w4,Km):=use (aI i);match T ty,dZ.tp,Km.me with
  | .str,some s,some (_,n)=>bP (cB/\w4) (0<=n/\n<(s.length:Int)) (.val (.int .u8) ((s.getD n.toNat 0).toNat:Int))
  | .array m e,_,some (_,n)=>match dZ with
   | .val (.array dz a6) xs=>if dz=m/\a6=e then bP (cB/\w4) (0<=n/\n<(m:Int)) (.val a6 (kN a6 xs n)) else .none
   | .agg k f=>if k=m*e.size then bP (cB/\w4) (0<=n/\n<(m:Int)) (if e.isAgg=true then .agg e.size (λq=>f (n.toNat*e.size+q)) else f (n.toNat*e.size)) else .none
   | _=>.none
  | _,_,_=>.none
 | .convert a b x=>let (cB,dZ):=use (aI x);match T a,T b,dZ.me with
  | .int _,.int k,some (_,n)=>bP cB True (.val (.int k) (k.wrap n))
  | .slice (.int .u8),.str,_=>(dA (.slice (.int .u8)) dZ).cQ λ(ys,_)=>bP cB True (.val .str (u0 ys))
  | _,_,_=>.none
 | .makeFunc fn first c6=>match fn with
  | .func k=>let l:=c6.toList.map aI;if first.isEmpty then (match aP.tl k with
   | some v=>(iY (gi (v.cs.map .bH)) (l.map λv=>(use v).2)).cQ λ(y,bU)=>(jH bU).bind λwl=>.ret (some ⟨jI l,True,.val (.fn (gi v.as) v.aV) (λx=>v.sh (Fv v.as (v.cs.map .bH) x y)),wl⟩)
   | none=>match aP.wU k with
    | some v=>(iY (gi (v.cs.map .bH)) (l.map λv=>(use v).2)).cQ λ(y,bU)=>(jH bU).bind λwl=>.ret (some ⟨jI l,True,.val (.ct v.aK) (v.S y),wl⟩)
    | none=>bP (jI l) True (.iA k l.length (hi (l.map λv=>(use v).2)))) else (if c6.isEmpty then bP (jI (first.toList.map aI)) True (.rV k first.size (hi ((first.toList.map aI).map λv=>(use v).2))) else .none)
  | _=>.none
 | .makeMap ty r=>if r.isSome then .none else match T ty with
  | .map k v=>h5 o.dst λb g=>some ⟨True,True,.fG b g,[(b,⟨g,.mp k v []⟩)]⟩
  | _=>.none
 | .lookup ty m x ok=>y' T aI ty m x ok
 | .mapUpdate ty m x y=>qQ T aI ty m x y
 | .insert ty m x y=>qQ T aI ty m x y
 | .makeSlice ty l c=>FF T aI o.dst ty l c
 | .makeInterface _ _=>bP True False .undef
 | .panic _=>bP True False .undef
 | .slice ty x aY G o_=>if o_.isSome then FD T aI ty x aY G o_ else FC T aI ty x aY G
 | .call c=>mK T be aI o.dst c
 | _=>.none
def dS(r:Option Nat):Fence:={ Fence.wide with round:=r }
section
variable {P:Program} {w:World}
theorem dD{t:TypeId}{d:TypeDesc}(h:P.underlying t=some d):(underlying t).run P w=.ok d w:=by simp[underlying,h]
theorem FH{t:TypeId}{i:TypeInfo}(h:P.info? t=some i):(typeInfo t).run P w=.ok i w:=by simp[typeInfo,h]
theorem r0{t:TypeId}{i:TypeInfo}(h:P.info? t=some i):(sizeOf t).run P w=.ok i.size w:=by simp[sizeOf,FH h]
theorem qR{t:TypeId}{i:TypeInfo}{z:Value}(h:P.info? t=some i)(bk:i.zero=some z):(zeroValue t).run P w=.ok z w:=by simp[zeroValue,FH h,bk]
theorem b6.size{t:ad}{id:TypeId}(h:b6 P t id):(sizeOf id).run P w=.ok t.size w:=by
 obtain⟨i,z,E,U,_⟩:=kq h.kp;rw[r0 E,U]
theorem b6.st{t:ad}{id:TypeId}(h:b6 P (.st t) id):∃ eV,P.underlying id=some (.struct eV):=by
 unfold b6 at h;simp only[cF,Bool.and_eq_true]at h;grind
theorem b6.sl{e:ad}{id:TypeId}(h:b6 P (.slice e) id):∃ i,P.underlying id=some (.slice i)/\b6 P e i/\e.size≠0:=by
 unfold b6 at h;simp only[cF,Bool.and_eq_true]at h;obtain⟨_,h⟩:=h;split at h
 ·rename_i i G;simp only[Bool.and_eq_true,bne_iff_ne,ne_eq]at h;exact⟨i,G,h.1,h.2⟩
 grind
theorem adf:∀ (t:ad) {l:List Field} {FI f off:Nat} {s:ad},cF P t (.inr (l,FI))=true->mb t f=some (s,off)->
  ∃ nL,l[f]?=some nL/\nL.offset=FI+off/\b6 P s nL.type/\s.size≠0:=by
 intro t;induction t with
 | az a b fy eL=>
  intro l FI f off s h ao;match l,h with
  | [],h=>simp only[cF,Bool.false_eq_true]at h
  | [x],h=>simp only[cF,Bool.false_eq_true]at h
  | [x,y],h=>
   simp only[cF,Bool.and_eq_true,beq_iff_eq,bne_iff_ne,ne_eq]at h;obtain⟨⟨⟨⟨E,U⟩,ah⟩,_⟩,⟨⟨a1,bK⟩,dp⟩,_⟩:=h;cases f with
   | zero=>simp only[mb,Option.some.injEq,Prod.mk.injEq]at ao;obtain⟨rfl,rfl⟩:=ao;exact⟨x,rfl,E,U,ah⟩
   | succ f=>
    simp only[mb,Option.map_eq_some_iff,Prod.mk.injEq]at ao;obtain⟨⟨s',hS⟩,ao,rfl,rfl⟩:=ao;have W:∃ u,mb b f=some u/\f=0/\u=(b,0):=by
     cases b<;>cases f<;>simp only[mb,reduceCtorEq]at ao<;>first
      | exact⟨_,ao,rfl,by cases ao;rfl⟩
      | (simp only[cF,Bool.false_eq_true]at bK)
    obtain⟨u,hu,rfl,rfl⟩:=W;rw[hu]at ao;cases ao;exact⟨y,rfl,by omega,bK,dp⟩
  | x::y::z::l,h=>
   simp only[cF,Bool.and_eq_true,beq_iff_eq,bne_iff_ne,ne_eq]at h;obtain⟨⟨⟨⟨E,U⟩,ah⟩,_⟩,a1⟩:=h;cases f with
   | zero=>simp only[mb,Option.some.injEq,Prod.mk.injEq]at ao;obtain⟨rfl,rfl⟩:=ao;exact⟨x,rfl,E,U,ah⟩
   | succ f=>
    simp only[mb,Option.map_eq_some_iff,Prod.mk.injEq]at ao;grind
 | _=>intro l FI f off s h _;simp only[cF,Bool.false_eq_true]at h
theorem b6.field{t s:ad}{id f off:Nat}(h:b6 P (.st t) id)(ao:mb t f=some (s,off)) :
  ∃ eV nL,P.underlying id=some (.struct eV)/\eV[f]?=some nL/\nL.offset=off/\b6 P s nL.type/\s.size≠0:=by
 unfold b6 at h;simp only[cF,Bool.and_eq_true]at h;obtain⟨_,h⟩:=h;split at h
 ·rename_i eV jj;refine⟨eV,?_⟩;have eW:∀ {nL},eV.toList[f]?=some nL->eV[f]?=some nL:=λh=>by grind
  split at h
  ·rename_i aj;rw[of_decide_eq_true h]at ao;cases f<;>cases ao
  ·rename_i x aj;simp only[Bool.and_eq_true,beq_iff_eq,bne_iff_ne,ne_eq]at h;have W:f=0/\(s,off)=(t,0):=by
    cases t<;>cases f<;>simp only[mb,reduceCtorEq]at ao<;>first
     | exact⟨rfl,by cases ao;rfl⟩
     | (have:=h.1.1.2;simp only[cF,Bool.false_eq_true]at this)
   obtain⟨rfl,W⟩:=W;cases W;exact⟨x,jj,eW (by grind),h.1.1.1,h.1.1.2,h.1.2⟩
  ·obtain⟨nL,aO,aR,bO⟩:=adf t h ao;grind
 grind
def kt(w:World)(p:Addr)(cs:List Value):Prop:=(0<cs.length->p.spot=none)/\∀ j (h:j<cs.length),w.cell? ⟨p.block,p.off+j,none⟩=some cs[j]
theorem Holds.Kn{F:Nat->Prop}{p:Addr}{cs:List Value}(h:Holds F w p cs):kt w p cs:=⟨λ_=>h.2.1,h.2.2⟩
theorem FJ{p:Addr}{cs:List Value}(h:kt w p cs):(loadCells p cs.length).run P w=.ok cs.toArray w:=by
 obtain⟨aD,hc⟩:=h;refine run_loadCells_list w p cs λj v aE=>?_;obtain⟨fT,rfl⟩:=List.getElem?_eq_some_iff.1 aE;have an:p=⟨p.block,p.off,none⟩:=by have:=aD (by omega);cases p;simp_all
 have:=hc j fT;have zb:p.add j=⟨p.block,p.off+j,none⟩:=by
  unfold Addr.add;grind
 grind
theorem zc{t:ad}{id:TypeId}(h:b6 P t id):(isAgg id).run P w=.ok t.isAgg w:=by
 unfold b6 at h;unfold isAgg;cases t<;>simp only[cF,Bool.and_eq_true,Bool.false_eq_true]at h<;>(obtain⟨_,h⟩:=h;split at h)<;>
  first
   | (rename_i hu;simp[dD hu,ad.isAgg];done)
   | (cases h;done)
   | (rename_i hu;simp[dD hu,ad.isAgg])
theorem Ko{F:Nat->Prop}{p:Addr}{cs:List Value}{t:ad}{id:TypeId}{x:t.ai}(h:b6 P t id)(cW:kt w p cs)(ag:bI P t F w cs x) :
  ∃ v,(loadVar id p).run P w=.ok v w/\er P t F w v x:=by
 have hlen:=hP t ag;by_cases a8:t.isAgg=true
 ·refine⟨.agg cs.toArray,?_,?_,by simpa [Value.cells]using ag⟩
  ·have:=FJ (P:=P) cW;rw[hlen]at this;simp[loadVar,zc h,a8,h.size,this]
  ·cases t<;>simp only[ad.isAgg,Bool.false_eq_true]at a8
   ·exact⟨cs.toArray,rfl,by simpa [ad.size]using hlen⟩
   ·exact⟨cs.toArray,rfl,by simpa [ad.size]using hlen⟩
 ·have aj:t.eG=true:=by
   cases t<;>simp only[ad.isAgg,not_true]at a8<;>first | rfl | (unfold b6 at h;simp only[cF,Bool.false_eq_true]at h)
  obtain⟨u,rfl,hu⟩:=BY aj ag;refine⟨u,?_,(dV aj).2 ⟨hu,ag⟩⟩;have hc:=cW.2 0 (by simp);have an:p=⟨p.block,p.off+0,none⟩:=by have:=cW.1 (by simp);cases p;simp_all
  rw[<-an]at hc;simp[loadVar,zc h,a8,hc]
end
section
variable {r:Option Nat} {P:Program} {o:Oper} {a:Act} {w w':World} {K:Act->World->Prop} {Q:Exit->Act->World->Prop}
theorem zd(ar:∀ c,o.op≠.defer c):o.semAt (dS r).round a.eval=execOp a.eval o:=Oper.semAt_eq _ _ _ ar
theorem ht{v:Value}(ar:∀ c,o.op≠.defer c)(h:(execOp a.eval o).run P w=.ok (.value v) w')(al:K (a.put o.dst v) w'):o.wpIn (dS r) 0 P a w K Q:=by
 refine⟨λ_ _=>trivial,?_⟩;rw[zd ar,h];exact al
theorem FK(ar:∀ c,o.op≠.defer c)(h:(execOp a.eval o).run P w=.ok .skip w')(al:K (a.put o.dst Go.undef) w'):o.wpIn (dS r) 0 P a w K Q:=by
 refine⟨λ_ _=>trivial,?_⟩;rw[zd ar,h];exact al
end
def aA.ga(s:aA):List (Nat×bJ)->aA
 | []=>s
 | p::l=>(s.cx p.1 p.2).ga l
def aA.h7(s:aA)(d:Option Nat)(res:eC):aA:=(s.ga res.hE).set d res.e_
def cJ(C:b9)(o:Oper)(s:aA)(res:eC):Prop:=
 ∀ a w κ F Q,bl C s a w κ F->res.ca->res.c->o.wpIn (dS C.r) 0 C.P a w (λa' w'=>cu C (s.h7 o.dst res) a' w') Q
theorem cJ.pure{C:b9}{o:Oper}{s:aA}{ca c:Prop}{e_:aG}(ar:∀ c,o.op≠.defer c)(bf:∀ i,o.dst=some i->i<C.nt)
  (h:∀ a w κ F,bl C s a w κ F->ca->c->∃ v,(execOp a.eval o).run C.P w=.ok (.value v) w/\bB C.P s.aa κ F w e_ v):cJ C o s ⟨ca,c,e_,[]⟩:=by
 intro a w κ F Q M bc hc;obtain⟨v,E,U⟩:=h a w κ F M bc hc;exact ht ar E ⟨κ,F,M.set bf U⟩
section
variable {P:Program} {H:Nat->bJ} {κ:Nat->bD} {F:Nat->Prop} {w:World}
theorem o'{av:aG}{v:Value}(h:bB P H κ F w av v)(hu:(use av).1):bB P H κ F w (use av).2 v:=by
 cases av<;>first | exact h | exact h.1 hu
theorem adg(v:Value):bB P H κ F w (w1 v) v:=by
 unfold w1;split
 ·exact fg.2 rfl
 ·split
  ·rename_i h;exact gS.2 ⟨rfl,h⟩
  ·rfl
 ·split
  ·rename_i s h;refine l_.2 ⟨by simp,?_⟩;have:s.data.toList.length=s.size:=by rfl
   omega
  ·rfl
 ·rfl
 ·rfl
theorem j6{C:b9}{s:aA}{a:Act}{w:World}{κ:Nat->bD}{F:Nat->Prop}(h:bl C s a w κ F)(x:Operand):bB C.P s.aa κ F w (a7 C.aN s.ay x) (a.eval x):=by
 cases x with
 | tmp t=>exact h.bT t
 | const v=>exact adg v
 | func f=>
  show bB _ _ _ _ _ (match C.aN.tk f with | some v=>.val (.fn v.ts v.aV) v.sh | none=>.iA f 0 λ_=>.undef) (.func (.func f) #[] #[]);split
  ·rename_i v ae;exact (dV rfl).2 ⟨rfl,ac1 (h.jF.tk f v ae) F w⟩
  ·exact⟨[],rfl,rfl,λi G=>by omega⟩
 | global g=>trivial
theorem ow{av:aG}{v:Value}{k:IntKind}{n:Int}(h:bB P H κ F w av v)(G:av.me=some (k,n)):v=.int k n/\fS k n:=by
 unfold aG.me at G;split at G
 ·cases G;exact gS.1 h
 grind
theorem Kp{av:aG}{v:Value}{s:List UInt8}(h:bB P H κ F w av v)(G:av.tp=some s):v=.string ⟨s.toArray⟩/\s.length<2 ^ 63:=by
 unfold aG.tp at G;split at G
 ·cases G;exact l_.1 h
 grind
end
theorem p4(k:IntKind)(n:Int):fS k (k.wrap n):=by
 unfold fS IntKind.wrap;have E:=Int.emod_nonneg n (b:=2 ^ k.bits) (by cases k<;>decide);have U:=Int.emod_lt_of_pos n (b:=2 ^ k.bits) (by omega);cases k<;>simp only[IntKind.min,IntKind.max,IntKind.signed,IntKind.bits,Bool.true_and,Bool.false_and,Bool.false_eq_true,if_true,if_false,Nat.reduceSub,Int.reducePow]at E U ⊢<;>first
  | (constructor<;>split<;>first | (rename_i hc;have hc:=of_decide_eq_true hc;omega) | (rename_i hc;have hc:=mt decide_eq_true hc;omega))
  | omega
theorem adh{k:IntKind}{a b:Int}(a8:fS k a):fS k (a.tmod b):=by
 unfold fS at *
 have E:k.min<=0/\0<=k.max:=by cases k<;>decide
 have U:=Int.natAbs_tmod a b;have ah:=Nat.mod_le a.natAbs b.natAbs;rcases Int.le_total 0 a with h | h
 ·have:=Int.tmod_nonneg b h;omega
 ·have a1:(-a).tmod b=- (a.tmod b):=Int.neg_tmod a b;have:=Int.tmod_nonneg b (a:=-a) (by omega);omega
end Go.Fer
namespace Go.Fer
open Go.RowKit
theorem RP{P:Program}{w:World}{t:ad}{id:TypeId}(h:b6 P t id)(aj:t.isAgg=false){cs:Array Value}{off:Nat}{v:Value}(ae:cs[off]?=some v) :
  (part id cs off).run P w=.ok v w:=by
 simp[part,zc h,aj,ae]
theorem RQ{P:Program}{w:World}{t:ad}{id:TypeId}(h:b6 P t id)(aj:t.isAgg=true){cs:Array Value}{off:Nat} :
  (part id cs off).run P w=.ok (.agg (cs.extract off (off+t.size))) w:=by
 simp[part,zc h,aj,h.size]
theorem qS{P:Program}{F:Nat->Prop}{w:World}{t:ad}{id:TypeId}(h:b6 P t id){p c q:List Value}{cs:Array Value}{x:t.ai}(pa:cs.toList=p++(c++q))(hc:bI P t F w c x) :
  ∃ v,(part id cs p.length).run P w=.ok v w/\er P t F w v x:=by
 have hlen:=hP t hc;by_cases a8:t.isAgg=true
 ·refine⟨_,RQ h a8,?_⟩;have he:(cs.extract p.length (p.length+t.size)).toList=c:=by
   simp_all
  have ae:(Value.agg (cs.extract p.length (p.length+t.size))).cells.toList=c:=he;refine⟨?_,by grind⟩;have cf:(cs.extract p.length (p.length+t.size)).size=t.size:=by grind
  cases t<;>simp only[ad.isAgg,Bool.false_eq_true]at a8
  ·exact⟨_,rfl,by simpa [ad.size]using cf⟩
  ·exact⟨_,rfl,by simpa [ad.size]using cf⟩
 ·have aj:t.eG=true:=by
   cases t<;>simp only[ad.isAgg,not_true]at a8<;>first | rfl | (unfold b6 at h;simp only[cF,Bool.false_eq_true]at h)
  obtain⟨u,rfl,hu⟩:=BY aj hc;refine⟨u,RP h (by grind) ?_,(dV aj).2 ⟨hu,hc⟩⟩;rw[<-Array.getElem?_toList,pa];simp
theorem b6.Cd{P:Program}{t:ad}{id:TypeId}(h:b6 P (.st t) id):P.stoodInHeld id=false/\P.eqGuardType P.depth id=false/\
  (cF P t (.inr ((P.fieldsOf id).toList, 0)) = true \/ (∃ f, (P.fieldsOf id).toList = [f] /\ f.offset = 0 /\ b6 P t f.type /\ f.name ≠ "_") \/ (t = .cV /\ (P.fieldsOf id).toList = [])) /\ P.underlying id = some (.struct (P.fieldsOf id)) := by
 unfold b6 at h;simp only[cF,Bool.and_eq_true,Bool.not_eq_true']at h;obtain⟨⟨⟨_,E⟩,U⟩,h⟩:=h;split at h
 ·rename_i eV jj;have ao:P.fieldsOf id=eV:=by simp[Program.fieldsOf,jj]
  rw[ao];refine⟨E,U,?_,jj⟩;split at h
  ·grind
  ·rename_i x aj;simp only[Bool.and_eq_true,beq_iff_eq,bne_iff_ne,ne_eq]at h;exact .inr (.inl ⟨x,aj,h.1.1.1,h.1.1.2,h.2⟩)
  grind
 grind
theorem Kq{P:Program}{F:Nat->Prop}{w:World}:∀ (t:ad) (d:Nat),t.kO=true->t.j5<=d->
  (∀ {id:TypeId} {v u:Value} {x y:t.ai},b6 P t id->er P t F w v x->er P t F w u y->(Op.equalIn d id v u).run P w=.ok (gH t x y) w)/\
  (∀ {l:List Field} {off:Nat} {xs ys:Array Value} {p c q p' c' q':List Value} {x y:t.ai},cF P t (.inr (l,off))=true->xs.toList=p++(c++q)->p.length=off->bI P t F w c x->
   ys.toList=p'++(c'++q')->p'.length=off->bI P t F w c' y->(Op.eqFields d xs ys l).run P w=.ok (gH t x y) w):=by
 intro t;induction t with
 | bool=>
  intro d _ ar;refine⟨λ{id v u x y} h E U=>?_,λh=>by simp[cF]at h⟩;rw[fg.1 E,fg.1 U];obtain⟨d,rfl⟩:∃ e,d=e+1:=⟨d - 1,by simp only[ad.j5]at ar;omega⟩
  unfold b6 at h;simp only[cF,Bool.and_eq_true]at h;obtain⟨_,h⟩:=h;split at h
  ·rename_i hu;rw[run_equalIn_bool' w d id x y hu];rfl
  grind
 | int k=>
  intro d _ ar;refine⟨λ{id v u x y} h E U=>?_,λh=>by simp[cF]at h⟩;rw[(gS.1 E).1,(gS.1 U).1];obtain⟨d,rfl⟩:∃ e,d=e+1:=⟨d - 1,by simp only[ad.j5]at ar;omega⟩
  unfold b6 at h;simp only[cF,Bool.and_eq_true]at h;obtain⟨_,h⟩:=h;split at h
  ·rename_i hu;rw[run_equalIn_int w d id k _ x y hu];rfl
  grind
 | str=>
  intro d _ ar;refine⟨λ{id v u x y} h E U=>?_,λh=>by simp[cF]at h⟩;rw[(l_.1 E).1,(l_.1 U).1];obtain⟨d,rfl⟩:∃ e,d=e+1:=⟨d - 1,by simp only[ad.j5]at ar;omega⟩
  unfold b6 at h;simp only[cF,Bool.and_eq_true]at h;obtain⟨_,h⟩:=h;split at h
  ·rename_i hu;rw[run_equalIn_string w d id _ _ hu,ByteArray.toList_eq,ByteArray.toList_eq];simp only[gH];grind
  grind
 | cV=>intro d h;cases h
 | slice e _=>intro d h;cases h
 | array n e _=>intro d h;cases h
 | bH e _=>intro d h;cases h
 | map k v _ _=>intro d h;cases h
 | fn a b _ _=>intro d h;cases h
 | ct a _=>intro d h;cases h
 | ep=>intro d h;cases h
 | az a b fy eL=>
  intro d hc ar;simp only[ad.kO,Bool.and_eq_true]at hc;simp only[ad.j5]at ar;have Kr:=fy d hc.1 (by omega);have o6:=eL d hc.2 (by omega);refine⟨λh=>by unfold b6 at h;simp[cF]at h,?_⟩;intro l off xs ys p c q p' c' q' x y h ag an pb aS Ce ze;simp only[bI]at pb ze;obtain⟨bE,c2,rfl,aO,aR⟩:=pb;obtain⟨d1,d2,rfl,m1,m2⟩:=ze;have e1:=hP a aO;have oo:=hP a m1;have step : ∀ (f : Field) (cm : List Field), f.offset = off -> b6 P a f.type -> f.name ≠ "_" ->
    (Op.eqFields d xs ys (f::cm)).run P w=if gH a x.1 y.1=true then (Op.eqFields d xs ys cm).run P w else .ok false w:=by
   intro f cm af ao aw;obtain⟨v,b_,cy⟩:=qS (cs:=xs) (p:=p) (c:=bE) (q:=c2++q) ao (by grind) aO;obtain⟨u,ey,dN⟩:=qS (cs:=ys) (p:=p') (c:=d1) (q:=d2++q') ao (by grind) m1;simp only[Op.eqFields,aw,ne_eq,not_false_eq_true,if_true,Sem.run_bind];rw[af,<-an,b_,Result.andThen_ok,an,<-Ce,ey,Result.andThen_ok,Kr.1 ao cy dN];cases gH a x.1 y.1<;>simp
  match l,h with
  | [],h=>simp only[cF,Bool.false_eq_true]at h
  | [f],h=>simp only[cF,Bool.false_eq_true]at h
  | [f,g],h=>
   simp only[cF,Bool.and_eq_true,beq_iff_eq,bne_iff_ne,ne_eq]at h;obtain⟨⟨⟨⟨E,U⟩,ah⟩,a1⟩,⟨⟨⟨bK,dp⟩,fF⟩,ix⟩⟩:=h;rw[step f [g] E U a1];obtain⟨v,b_,cy⟩:=qS (cs:=xs) (p:=p++bE) (c:=c2) (q:=q) dp (by grind) aR;obtain⟨u,ey,dN⟩:=qS (cs:=ys) (p:=p'++d1) (c:=d2) (q:=q') dp (by grind) m2;have ax:(p++bE).length=g.offset:=by grind
   have aM:(p'++d1).length=g.offset:=by grind
   rw[ax]at b_;rw[aM]at ey;simp only[Op.eqFields,ix,ne_eq,not_false_eq_true,if_true,Sem.run_bind,b_,ey,Result.andThen_ok,o6.1 dp cy dN,gH];cases gH a x.1 y.1<;>cases gH b x.2 y.2<;>simp
  | f::g::i::l,h=>
   simp only[cF,Bool.and_eq_true,beq_iff_eq,bne_iff_ne,ne_eq]at h;obtain⟨⟨⟨⟨E,U⟩,ah⟩,a1⟩,bK⟩:=h;rw[step f _ E U a1,o6.2 bK (p:=p++bE) (c:=c2) (q:=q) (p':=p'++d1) (c':=d2) (q':=q') (by grind) (by grind) aR (by grind) (by grind) m2];simp only[gH];cases gH a x.1 y.1<;>simp
 | st t aJ=>
  intro d hc ar;simp only[ad.j5]at ar;obtain⟨d,rfl⟩:∃ e,d=e+1:=⟨d - 1,by omega⟩
  refine⟨λ{id v u x y} h E U=>?_,λh=>by simp[cF]at h⟩;have i:=aJ d hc (by omega);obtain⟨ax,aM,cD,et⟩:=h.Cd;obtain⟨⟨xs,rfl,hT⟩,pb⟩:=E;obtain⟨⟨ys,rfl,j7⟩,ze⟩:=U;simp only[Value.cells,bI]at pb ze;rw[run_equalIn_struct w d id xs ys et ax];rcases cD with cD | ⟨f,cD,eb,k8,tt⟩ | ⟨rfl,cD⟩
  ·exact i.2 cD (p:=[]) (c:=xs.toList) (q:=[]) (p':=[]) (c':=ys.toList) (q':=[]) (by simp) rfl pb (by simp) rfl ze
  ·rw[cD];obtain⟨v,b_,cy⟩:=qS (cs:=xs) (p:=[]) (c:=xs.toList) (q:=[]) k8 (by simp) pb;obtain⟨u,ey,dN⟩:=qS (cs:=ys) (p:=[]) (c:=ys.toList) (q:=[]) k8 (by simp) ze;simp only[List.length_nil]at b_ ey;simp only[Op.eqFields,tt,ne_eq,not_false_eq_true,if_true,Sem.run_bind,eb,b_,ey,Result.andThen_ok,i.1 k8 cy dN,gH];cases gH t x y<;>simp
  ·cases hc
theorem adi{k:IntKind}{a b:Int}(a8:fS k a):fS k (ji k a b):=by
 unfold fS at *
 unfold ji;have E:k.min<=0/\0<=k.max:=by cases k<;>decide
 generalize min b.toNat k.bits=n;have an:(0:Int)<2 ^ n:=Int.pow_pos (by decide);rw[Int.fdiv_eq_ediv_of_nonneg _ (Int.le_of_lt an)];rcases Int.le_total 0 a with h | h
 ·have U:=Int.ediv_nonneg h (Int.le_of_lt an);have ah:=Int.ediv_le_self (2 ^ n) h;omega
 ·have U:a / 2 ^ n<=0:=by
   have:=Int.ediv_le_ediv an h;simp_all
  have ah:a<=a / 2 ^ n:=by
   rw[Int.le_ediv_iff_mul_le an];have a1:(1:Int)<=2 ^ n:=by omega
   have:=Int.mul_le_mul_of_nonpos_left (a:=a) h a1;omega
  omega
theorem RR{P:Program}{w:World}(op:BinOp)(t:TypeId)(x y:Operand)(k k':IntKind)(a b:Int):(eqGuard op t x y (.int k a) (.int k' b)).run P w=.ok () w:=by
 cases op<;>simp[eqGuard]
theorem adj{P:Program}{w:World}(op:BinOp)(t:TypeId)(x y:Operand)(a b:ByteArray):(eqGuard op t x y (.string a) (.string b)).run P w=.ok () w:=by
 cases op<;>simp[eqGuard]
theorem adk{P:Program}{w:World}(op:BinOp)(t:TypeId)(x y:Operand)(a b:Bool):(eqGuard op t x y (.bool a) (.bool b)).run P w=.ok () w:=by
 cases op<;>simp[eqGuard]
theorem adl{P:Program}{w:World}(op:BinOp)(t:TypeId)(x y:Operand)(a b:Option Addr):(eqGuard op t x y (.pointer a) (.pointer b)).run P w=.ok () w:=by
 cases op<;>simp[eqGuard]
section
variable {P:Program} {H:Nat->bJ} {κ:Nat->bD} {F:Nat->Prop} {w:World}
theorem adm{op:BinOp}{k:IntKind}{a b:Int}{t:TypeId}{c:Prop}{v:aG}(h:y7 op k a b=some (c,v))(hc:c)(a8:fS k a) :
  ∃ u,(binOp op t (.int k a) (.int k b)).run P w=.ok u w/\bB P H κ F w v u:=by
 cases op<;>simp only[y7,Option.some.injEq,Prod.mk.injEq,reduceCtorEq]at h<;>obtain⟨rfl,rfl⟩:=h<;>simp only[bB];case add=>exact⟨_,by simp[binOp,Op.intArith],gS.2 ⟨rfl,p4 _ _⟩⟩
 case sub=>exact⟨_,by simp[binOp,Op.intArith],gS.2 ⟨rfl,p4 _ _⟩⟩
 case mul=>exact⟨_,by simp[binOp,Op.intArith],gS.2 ⟨rfl,p4 _ _⟩⟩
 case quo=>exact⟨_,by simp[binOp,Op.intDiv,hc],gS.2 ⟨rfl,p4 _ _⟩⟩
 case rem=>exact⟨_,by simp[binOp,Op.intDiv,hc],gS.2 ⟨rfl,adh a8⟩⟩
 case and=>exact⟨.int k (lK k a b),by simp only[binOp,ne_eq,not_true_eq_false,if_false,Op.intBits];rfl,gS.2 ⟨rfl,p4 _ _⟩⟩
 case or=>exact⟨.int k (Ry k a b),by simp only[binOp,ne_eq,not_true_eq_false,if_false,Op.intBits];rfl,gS.2 ⟨rfl,p4 _ _⟩⟩
 case xor=>exact⟨.int k (Rz k a b),by simp only[binOp,ne_eq,not_true_eq_false,if_false,Op.intBits];rfl,gS.2 ⟨rfl,p4 _ _⟩⟩
 case andNot=>exact⟨.int k (RA k a b),by simp only[binOp,ne_eq,not_true_eq_false,if_false,Op.intBits];rfl,gS.2 ⟨rfl,p4 _ _⟩⟩
 case eql=>exact⟨.bool (a == b),by simp[binOp,Op.intCmp],fg.2 (congrArg Value.bool (by rfl))⟩
 case neq=>exact⟨.bool (a != b),by simp[binOp,Op.intCmp],fg.2 (congrArg Value.bool (by grind))⟩
 case lss=>exact⟨_,by simp[binOp,Op.intCmp],fg.2 rfl⟩
 case leq=>exact⟨_,by simp[binOp,Op.intCmp],fg.2 rfl⟩
 case gtr=>exact⟨_,by simp[binOp,Op.intCmp],fg.2 rfl⟩
 case geq=>exact⟨_,by simp[binOp,Op.intCmp],fg.2 rfl⟩
theorem RS{op:BinOp}{k k':IntKind}{a b:Int}{t:TypeId}{c:Prop}{v:aG}(h:Ki op k a b=some (c,v))(hc:c)(a8:fS k a) :
  ∃ u,(binOp op t (.int k a) (.int k' b)).run P w=.ok u w/\bB P H κ F w v u:=by
 cases op<;>simp only[Ki,Option.some.injEq,Prod.mk.injEq,reduceCtorEq]at h<;>obtain⟨rfl,rfl⟩:=h<;>simp only[bB];case shl=>exact⟨_,by simp[binOp,Op.shift,show ¬b<0 by omega];rfl,gS.2 ⟨rfl,p4 _ _⟩⟩
 case shr=>exact⟨_,by simp[binOp,Op.shift,show ¬b<0 by omega];rfl,gS.2 ⟨rfl,adi a8⟩⟩
theorem adn{op:BinOp}{a b:List UInt8}{t:TypeId}{c:Prop}{v:aG}(h:B6 op a b=some (c,v))(hc:c) :
  ∃ u,(binOp op t (.string ⟨a.toArray⟩) (.string ⟨b.toArray⟩)).run P w=.ok u w/\bB P H κ F w v u:=by
 have e:∀ l:List UInt8,(⟨l.toArray⟩:ByteArray).toList=l:=λl=>by simp
 cases op<;>simp only[B6,Option.some.injEq,Prod.mk.injEq,reduceCtorEq]at h<;>obtain⟨rfl,rfl⟩:=h<;>simp only[bB];case add=>
  unfold bM at hc;have aD:((ByteArray.size ⟨a.toArray⟩+ByteArray.size ⟨b.toArray⟩:Nat):Int)=(a.length+b.length:Nat):=by rfl
  refine⟨.string ⟨(a++b).toArray⟩,?_,l_.2 ⟨rfl,by grind⟩⟩;simp only[binOp,Op.stringOp];rw[if_neg]
  ·rfl
  ·rw[aD];have:IntKind.i64.max=9223372036854775807:=by decide
   omega
 case eql=>exact⟨_,by rfl,fg.2 (by grind)⟩
 case neq=>exact⟨_,by rfl,fg.2 (by grind)⟩
 case lss=>exact⟨_,by simp only[binOp,Op.stringOp,e];rfl,fg.2 rfl⟩
 case geq=>exact⟨_,by simp only[binOp,Op.stringOp,e];rfl,fg.2 rfl⟩
end
end Go.Fer
namespace Go.Fer
open Go.RowKit
def dT(P:Program)(T:Nat->ad):Prop:=∀ id,T id=.cV\/b6 P (T id) id
theorem dT.cb{P:Program}{T:Nat->ad}(h:dT P T){id:Nat}{t:ad}(e:T id=t)(aH:t≠.cV):b6 P t id:=by
 rcases h id with h | h
 ·exact absurd (e ▸ h) aH
 ·exact e ▸ h
theorem qT{d:Option Nat}{k:Nat->Nat->Option eC}{H:Nat->bJ}{res:eC}(h:(h5 d k).run H=some res) :
  ∃ b,d=some b/\k b ((H b).gen+1)=some res:=by
 unfold h5 at h;cases d with
 | none=>cases h
 | some b=>
  simp_all
theorem bl.ado{C:b9}{s:aA}{a:Act}{w:World}{κ:Nat->bD}{F:Nat->Prop}(h:bl C s a w κ F){b g:Nat}{e:ad}(aB:(s.aa b).gen<g) :
  bl C (s.cx b ⟨g,.bg e []⟩) a w (λi=>if i=b then ⟨0,0,0,true⟩ else κ i) F:=by
 have aj:fq s.aa κ (λi=>if i=b then ⟨g,.bg e []⟩ else s.aa i) (λi=>if i=b then ⟨0,0,0,true⟩ else κ i):=y2 aB λbd cR=>by grind
 refine h.move (H':=λi=>if i=b then ⟨g,.bg e []⟩ else s.aa i) aj (λ_ M=>M) (λ_ M=>.inl M) (Nat.le_refl _) (λ_ _ _=>rfl) (dd.refl _) (λ_=>?_) ?_ ?_ h.dc (y3 (.inr ⟨rfl,rfl⟩) λbd cR=>by grind)
 ·intro i;by_cases G:i=b
  ·subst G;simp only[cE,if_true];exact⟨λ_=>rfl,λaw=>by cases aw⟩
  ·exact cE.k9 (h.bF i) aj (λ_ M=>M) (c7.refl _ _) (by grind) (by grind) λ_=>rfl
 ·intro i G;by_cases eN:i=b
  ·subst eN;simp[bQ.b1]at G
  ·simp only[if_neg eN]at G ⊢;exact⟨(h.own i G).1,(h.own i G).2.1,.inl ⟨i,G,rfl⟩⟩
 ·intro i j G aE a6;by_cases eN:i=b
  ·subst eN;simp[bQ.b1]at G
  ·by_cases ma:j=b
   ·subst ma;simp[bQ.b1]at aE
   ·simp only[if_neg eN,if_neg ma]at G aE a6;exact h.inj i j G aE a6
section
variable {C:b9} {T:Nat->ad} {be:Nat->Option aL} {o:Oper} {s:aA} {res:eC}
theorem adp{x:Operand}(bf:∀ i,o.dst=some i->i<C.nt)(af:o.op=.move x)(h:(bw C.aN T be (a7 C.aN s.ay) o).run s.aa=some res):cJ C o s res:=by
 simp only[bw,af,bP,aq.bN,Option.some.injEq]at h;subst h;exact cJ.pure (by grind) bf λa w κ F M _ _=>⟨_,by simp[execOp,af],j6 M x⟩
theorem adq{x:Operand}(bf:∀ i,o.dst=some i->i<C.nt)(af:o.op=.assign x)(h:(bw C.aN T be (a7 C.aN s.ay) o).run s.aa=some res):cJ C o s res:=by
 simp only[bw,af]at h;split at h
 ·rename_i e ag aH;obtain⟨b,ar,al⟩:=qT h;simp only[Option.some.injEq]at al;subst al;intro a w κ F Q M _ _;refine ht (w':=w) (v:=a.eval x) (by grind) (by simp[execOp,af]) ?_;have U:=M.ado (b:=b) (e:=e) (Nat.lt_succ_self _);have ae:=j6 M x;rw[ag]at ae;simp only[bB]at ae;refine⟨_,_,bl.set U bf ⟨⟨?_,by rw[ae];rfl⟩,λ_ _=>?_⟩⟩
  ·simp[aA.cx]
  ·simp[ae,bD.slice]
 ·simp only[bP,aq.bN,Option.some.injEq]at h;subst h;exact cJ.pure (by grind) bf λa w κ F M _ _=>⟨_,by simp[execOp,af],j6 M x⟩
theorem cO{a:Act}{w:World}{κ:Nat->bD}{F:Nat->Prop}(M:bl C s a w κ F)(x:Operand){p:Prop}{av:aG}(hu:use (a7 C.aN s.ay x)=(p,av))(an:p):bB C.P s.aa κ F w av (a.eval x):=by
 have:=o' (j6 M x) (by grind);grind
theorem adr{c x y:Operand}(bf:∀ i,o.dst=some i->i<C.nt)(af:o.op=.pick c x y)(h:(bw C.aN T be (a7 C.aN s.ay) o).run s.aa=some res):cJ C o s res:=by
 simp only[bw,af]at h;split at h
 ·rename_i p3 i_ hc;split at h
  ·split at h
   ·rename_i za av a8;simp only[bP,aq.bN,Option.some.injEq]at h;subst h;refine cJ.pure (by grind) bf λa w κ F M bc _=>?_;have E:=fg.1 (cO M c hc bc.1);cases i_ with
    | false=>
     have bG:a.eval (.const (.bool false))=.bool false:=rfl;exact⟨.bool false,by simp[execOp,af,E,asBool,bG],fg.2 rfl⟩
    | true=>
     have U:=fg.1 (cO M x a8 (bc.2 rfl));exact⟨.bool av,by simp[execOp,af,E,asBool,U],fg.2 rfl⟩
   ·cases h
  ·split at h
   ·rename_i ca bv W;simp only[bP,aq.bN,Option.some.injEq]at h;subst h;refine cJ.pure (by grind) bf λa w κ F M bc _=>?_;have E:=fg.1 (cO M c hc bc.1);cases i_ with
    | true=>
     have bG:a.eval (.const (.bool true))=.bool true:=rfl;exact⟨.bool true,by simp[execOp,af,E,asBool,bG],fg.2 rfl⟩
    | false=>
     have U:=fg.1 (cO M y W (bc.2 rfl));exact⟨.bool bv,by simp[execOp,af,E,asBool,U],fg.2 rfl⟩
   ·cases h
  ·cases h
 ·cases h
theorem ads{op:UnOp}{ty:TypeId}{x:Operand}(bf:∀ i,o.dst=some i->i<C.nt)(af:o.op=.unOp op ty x)(h:(bw C.aN T be (a7 C.aN s.ay) o).run s.aa=some res):cJ C o s res:=by
 simp only[bw,af]at h;split at h
 ·rename_i cB b ag;simp only[bP,aq.bN,Option.some.injEq]at h;subst h;refine cJ.pure (by grind) bf λa w κ F M bc _=>?_;have E:=fg.1 (cO M x ag bc);exact⟨.bool (!b),by simp[execOp,af,E,Op.unary],fg.2 rfl⟩
 ·rename_i cB k n ag;simp only[bP,aq.bN,Option.some.injEq]at h;subst h;refine cJ.pure (by grind) bf λa w κ F M bc _=>?_;have E:=gS.1 (cO M x ag bc);exact⟨.int k (k.wrap (0 - n)),by simp[execOp,af,E.1,Op.unary,Op.intArith],gS.2 ⟨rfl,p4 _ _⟩⟩
 ·cases h
theorem adt{i:Nat}{x:Operand}(bf:∀ i,o.dst=some i->i<C.nt)(af:o.op=.extract x i)(h:(bw C.aN T be (a7 C.aN s.ay) o).run s.aa=some res):cJ C o s res:=by
 simp only[bw,af]at h;split at h
 ·rename_i cB n f ag;split at h
  ·rename_i G;simp only[bP,aq.bN,Option.some.injEq]at h;subst h;refine cJ.pure (by grind) bf λa w κ F M bc _=>?_;obtain⟨aC,E,U,ah⟩:=cO M x ag bc;have dO:i<aC.length:=by omega
   refine⟨aC[i],by simp[execOp,af,E,Instr.extract,dO],?_⟩;grind
  ·cases h
 ·cases h
theorem adu{x:Operand}(bf:∀ i,o.dst=some i->i<C.nt)(af:o.op=.nilCheck x)(h:(bw C.aN T be (a7 C.aN s.ay) o).run s.aa=some res):cJ C o s res:=by
 simp only[bw,af]at h;split at h
 ·rename_i cB b g i ag;simp only[aq.e3,aq.bN]at h;split at h
  ·rename_i bk;simp only[Bool.and_eq_true,decide_eq_true_eq]at bk;simp only[Option.some.injEq]at h;subst h;refine cJ.pure (by grind) bf λa w κ F M bc _=>?_;have E:=cO M x ag bc;have U:=E.2 bk.1.symm bk.2;exact⟨_,by simp[execOp,af,U.2.2],⟨E.1.1,rfl⟩,λ_ _=>⟨U.1,U.2.1,rfl⟩⟩
  grind
 ·rename_i cB t d ag;simp only[bP,aq.bN,Option.some.injEq]at h;subst h;refine cJ.pure (by grind) bf λa w κ F M bc _=>?_;obtain⟨p,bh,E,U⟩:=cO M x ag bc;exact⟨_,by simp[execOp,af,E],p,bh,rfl,U⟩
 ·rename_i cB e p ag;simp only[bP,aq.bN,Option.some.injEq]at h;subst h;refine cJ.pure (by grind) bf λa w κ F M bc hc=>?_;have E:=(dV rfl).1 (cO M x ag bc);obtain⟨_,E⟩:=E;simp only[bI]at E;rcases E with⟨_,rfl⟩ | ⟨q,y,bh,bt,rfl,aO,aR⟩
  ·cases hc
  ·simp only[List.cons.injEq,and_true]at bt;exact⟨_,by simp[execOp,af,bt],q,bh,rfl,aO,aR⟩
 ·rename_i cB b g off ag;simp only[aq.e3,aq.bN]at h;split at h
  ·rename_i bk;simp only[Bool.and_eq_true,decide_eq_true_eq]at bk;simp only[Option.some.injEq]at h;subst h;refine cJ.pure (by grind) bf λa w κ F M bc _=>?_;have E:=cO M x ag bc;have U:=E.2 bk.1.symm bk.2;exact⟨_,by simp[execOp,af,U],⟨E.1.1,rfl⟩,λ_ _=>rfl⟩
  grind
 ·cases h
theorem u1(b off n:Nat):(⟨b,off,none⟩:Addr).add n=⟨b,off+n,none⟩:=by
 unfold Addr.add;simp
theorem FL{P:Program}{w:World}{t s:ad}{id f w3 b off:Nat}(h:b6 P (.st t) id)(ao:mb t f=some (s,w3)) :
  (Instr.fieldAt id (.pointer (some ⟨b,off,none⟩)) f).run P w=.ok (.pointer (some ⟨b,off+w3,none⟩)) w:=by
 obtain⟨eV,nL,E,U,ah,a1,bK⟩:=h.field ao;simp only[Instr.fieldAt,Sem.run_bind,dD E,Result.andThen_ok,U,Instr.sureAddr,Sem.run_pure,fieldPlace,a1.size,bK,if_false,ah,u1]
theorem adv(aU:dT C.P T){ty f:Nat}{x:Operand}(bf:∀ i,o.dst=some i->i<C.nt)(af:o.op=.fieldAddr ty x f)(h:(bw C.aN T be (a7 C.aN s.ay) o).run s.aa=some res):cJ C o s res:=by
 simp only[bw,af]at h;split at h
 ·rename_i t aH;have dr:=aU.cb aH (by simp);split at h
  ·rename_i s' w3 ao;split at h
   ·rename_i cB b g off ag;simp only[aq.e3,aq.bN]at h;split at h
    ·rename_i bk;simp only[Bool.and_eq_true,decide_eq_true_eq]at bk;simp only[Option.some.injEq]at h;subst h;refine cJ.pure (by grind) bf λa w κ F M bc _=>?_;have E:=cO M x ag bc;have U:=E.2 bk.1.symm bk.2;exact⟨_,by simp[execOp,af,U,FL dr ao],⟨E.1.1,rfl⟩,λ_ _=>rfl⟩
    grind
   ·rename_i cB b g i off ag;simp only[aq.e3,aq.bN]at h;split at h
    ·rename_i bk;simp only[Bool.and_eq_true,decide_eq_true_eq]at bk;simp only[Option.some.injEq]at h;subst h;refine cJ.pure (by grind) bf λa w κ F M bc _=>?_;have E:=cO M x ag bc;obtain⟨U,ah,a1⟩:=E.2 bk.1.symm bk.2;exact⟨_,by simp[execOp,af,a1,FL dr ao];rfl,⟨E.1.1,rfl⟩,λ_ _=>⟨U,ah,by grind⟩⟩
    grind
   ·rename_i cB b g i ag;simp only[aq.e3,aq.bN]at h;split at h
    ·rename_i bk;simp only[Bool.and_eq_true,decide_eq_true_eq,beq_iff_eq]at bk;simp only[Option.some.injEq]at h;subst h;refine cJ.pure (by grind) bf λa w κ F M bc _=>?_;have E:=cO M x ag bc;obtain⟨U,ah,a1⟩:=E.2 bk.1.1.symm bk.1.2;exact⟨_,by simp[execOp,af,a1,FL dr ao];rfl,⟨E.1.1,rfl⟩,λ_ _=>⟨U,ah,by grind⟩⟩
    grind
   ·rename_i cB cY d ag;split at h
    ·rename_i zf;subst zf;split at h
     ·rename_i dN y aS;simp only[bP,aq.bN,Option.some.injEq]at h;subst h;refine cJ.pure (by grind) bf λa w κ F M bc _=>?_;obtain⟨p,bh,E,U,ah⟩:=cO M x ag bc;simp only[bI]at ah;obtain⟨bE,c2,c3,rfl,aO,aR⟩:=RE cY ah aS;rw[ao]at aR;cases aR;have an:p=⟨p.block,p.off,none⟩:=by have:=U.2.1;cases p;simp_all
      rw[an]at E;refine⟨_,by simp[execOp,af,E,FL dr ao],⟨p.block,p.off+bE.length,none⟩,c2,rfl,⟨U.1,rfl,λj aE=>?_⟩,aO⟩;have:=U.2.2 (bE.length+j) (by grind);grind
     ·cases h
    ·cases h
   ·cases h
  ·cases h
 ·cases h
theorem adw(aU:dT C.P T){ty f:Nat}{x:Operand}(bf:∀ i,o.dst=some i->i<C.nt)(af:o.op=.field ty x f)(h:(bw C.aN T be (a7 C.aN s.ay) o).run s.aa=some res):cJ C o s res:=by
 simp only[bw,af]at h;split at h
 ·rename_i t aH;have dr:=aU.cb aH (by simp);split at h
  ·rename_i cB cY d ag;split at h
   ·rename_i zf;subst zf;split at h
    ·rename_i dN y aS;simp only[bP,aq.bN,Option.some.injEq]at h;subst h;refine cJ.pure (by grind) bf λa w κ F M bc _=>?_;obtain⟨⟨cs,E,U⟩,ah⟩:=cO M x ag bc;rw[E]at ah;simp only[bI,Value.cells]at ah;obtain⟨bE,c2,c3,e,aO,aR⟩:=RE cY ah aS;obtain⟨eV,nL,f1,f2,f3,f4,f5⟩:=dr.field aR;obtain⟨v,b_,cy⟩:=qS (w:=w) f4 e aO;refine⟨v,?_,cy⟩;simp[execOp,af,E,Instr.field,dD f1,f2,asAgg,f3,b_]
    ·cases h
   ·cases h
  ·cases h
 ·cases h
end
end Go.Fer
namespace Go.Fer
open Go.RowKit
theorem b6.bH{P:Program}{e:ad}{id:TypeId}(h:b6 P (.bH e) id):∃ i,P.underlying id=some (.pointer i)/\b6 P e i/\e.size≠0:=by
 unfold b6 at h;simp only[cF,Bool.and_eq_true]at h;obtain⟨_,h⟩:=h;split at h
 ·rename_i i G;simp only[Bool.and_eq_true,bne_iff_ne,ne_eq]at h;exact⟨i,G,h.1,h.2⟩
 grind
theorem RT{k:IntKind}{av:aG}{H:Nat->bJ}{x:Int}{l:List Nat}(h:(dA (.int k) av).run H=some (x,l)):av.me.isSome=true:=by
 cases av with
 | val cY y=>
  simp only[dA,aq.bN,Option.map_eq_some_iff,Prod.mk.injEq]at h;obtain⟨z,bk,_⟩:=h;obtain⟨rfl,_⟩:=kM bk;rfl
 | jC v=>simp[dA,ko,ad.eG,dX,B3]at h
 | _=>simp[dA,ko,ad.eG,dX,aq.none]at h
theorem RU{av:aG}{H:Nat->bJ}{x:List UInt8}{l:List Nat}(h:(dA .str av).run H=some (x,l)):av.tp.isSome=true:=by
 cases av with
 | val cY y=>
  simp only[dA,aq.bN,Option.map_eq_some_iff,Prod.mk.injEq]at h;obtain⟨z,bk,_⟩:=h;obtain⟨rfl,_⟩:=kM bk;rfl
 | jC v=>simp[dA,ko,ad.eG,dX,B3]at h
 | _=>simp[dA,ko,ad.eG,dX,aq.none]at h
theorem FM{P:Program}{w:World}{ty i:TypeId}(G:P.underlying ty=some (.pointer i))(a:Option Addr)(d:Nat):(Op.equalIn (d+1) ty (.pointer a) (.pointer none)).run P w=.ok a.isNone w:=by
 cases a<;>simp[Op.equalIn,dD G]
inductive Cf:Value->Value->Prop where
 | bool (a b:Bool):Cf (.bool a) (.bool b)
 | agg (a b:Array Value):Cf (.agg a) (.agg b)
 | bH (a b:Option Addr):Cf (.pointer a) (.pointer b)
theorem adx{P:Program}{w:World}{ty:TypeId}{x y:Operand}{u mH:Value}{e:Bool}(an:Cf u mH)(h:(Op.equalIn 10000 ty u mH).run P w=.ok e w)
  (aB:∀ a b,u=.agg a->mH=.agg b->P.eqGuardType P.depth ty=false) :
  (do eqGuard .eql ty x y u mH;binOp .eql ty u mH:Sem Value).run P w=.ok (.bool e) w/\(do eqGuard .neq ty x y u mH;binOp .neq ty u mH:Sem Value).run P w=.ok (.bool (!e)) w:=by
 cases an with
 | bool a b=>constructor<;>simp[adk,binOp,Op.equal,Op.maxDepth,h]
 | agg a b=>constructor<;>simp[run_eqGuard_agg _ _ _ _ _ _ _ (aB a b rfl rfl),binOp,Op.equal,Op.maxDepth,h]
 | bH a b=>constructor<;>simp[adl,binOp,Op.equal,Op.maxDepth,h]
section
variable {C:b9} {T:Nat->ad} {be:Nat->Option aL} {o:Oper} {s:aA} {res:eC}
theorem Cg{a:Act}{w:World}{κ:Nat->bD}{F:Nat->Prop}(M:bl C s a w κ F){t:ad}{av:aG}{v:Value}{x:t.ai}{l:List Nat}(h:(dA t av).run s.aa=some (x,l))(ae:bB C.P s.aa κ F w av v) :
  er C.P t (λ_=>True) w v x:=mc M.bF (λ_ _=>trivial) h (λ_ _ _=>trivial) ae
theorem ady{op:BinOp}{ty:TypeId}{dZ ks:aG}{x y:Operand}{c:Prop}{v:aG}{a:Act}{w:World}{κ:Nat->bD}{F:Nat->Prop}(aU:dT C.P T)(M:bl C s a w κ F)
  (h:(y8 op (T ty) dZ ks).run s.aa=some (c,v)) {u mH:Value} (ag:bB C.P s.aa κ F w dZ u) (aS:bB C.P s.aa κ F w ks mH) (RV:¬(dZ.me.isSome=true/\ks.me.isSome=true)) (RW:¬(dZ.tp.isSome=true/\ks.tp.isSome=true)) :
  ∃ r,(do eqGuard op ty x y u mH;binOp op ty u mH:Sem Value).run C.P w=.ok r w/\bB C.P s.aa κ F w v r:=by
 unfold y8 at h;rw[aq.e4]at h;simp only[Option.bind_eq_some_iff]at h;obtain⟨e,he,ae⟩:=h;simp only[aq.bN]at ae;have key:Cf u mH/\(Op.equalIn 10000 ty u mH).run C.P w=.ok e w/\(∀ a b,u=.agg a->mH=.agg b->C.P.eqGuardType C.P.depth ty=false):=by
  split at he
  ·rename_i a6 p aM aH;obtain⟨i,G,_⟩:=(aU.cb aH (by simp)).bH;simp only[bB]at aS;subst aS;simp only[aq.bN,Option.some.injEq]at he;subst he;obtain⟨_,nM⟩:=(dV rfl).1 ag;rcases nM with⟨nM,rfl⟩ | ⟨q,z,bh,nM,rfl,_⟩
   ·obtain rfl:=(List.cons.inj nM).1;exact⟨.bH _ _,FM G none 9999,λ_ _ h=>by cases h⟩
   ·obtain rfl:=(List.cons.inj nM).1;exact⟨.bH _ _,FM G (some q) 9999,λ_ _ h=>by cases h⟩
  ·rename_i a6 t2 w5 aH;obtain⟨i,G,_⟩:=(aU.cb aH (by simp)).bH;simp only[bB]at aS;subst aS;simp only[aq.bN,Option.some.injEq]at he;subst he;obtain⟨q,bh,rfl,_⟩:=ag;exact⟨.bH _ _,FM G (some q) 9999,λ_ _ h=>by cases h⟩
  ·rename_i a6 b g off aH;obtain⟨i,G,_⟩:=(aU.cb aH (by simp)).bH;simp only[bB]at aS;subst aS;simp only[aq.e3,aq.bN]at he;split at he
   ·rename_i bk;simp only[Bool.and_eq_true,decide_eq_true_eq]at bk;simp only[Option.some.injEq]at he;subst he;have:=ag.2 bk.1.symm bk.2;subst this;exact⟨.bH _ _,FM G (some _) 9999,λ_ _ h=>by cases h⟩
   grind
  ·split at he
   ·rename_i i';simp only[Bool.and_eq_true,decide_eq_true_eq]at i';simp only[aq.e4,Option.bind_eq_some_iff,aq.bN,Option.some.injEq]at he;obtain⟨⟨w6,e1⟩,E,⟨Ks,oo⟩,U,rfl⟩:=he;have b_:=Cg M E ag;have cy:=Cg M U aS;generalize p5:T ty=t at *
    cases t with
    | bool=>
     have dr:=aU.cb p5 (by simp);refine⟨?_,(Kq .bool 10000 rfl (by decide)).1 dr b_ cy,?_⟩
     ·rw[fg.1 b_,fg.1 cy];exact .bool _ _
     simp_all
    | int k=>exact (RV ⟨RT E,RT U⟩).elim
    | str=>exact (RW ⟨RU E,RU U⟩).elim
    | st t=>
     have dr:=aU.cb p5 (by simp);refine⟨?_,(Kq (.st t) 10000 i'.1 (by omega)).1 dr b_ cy,λ_ _ _ _=>dr.Cd.2.1⟩;obtain⟨⟨_,rfl,_⟩,_⟩:=b_;obtain⟨⟨_,rfl,_⟩,_⟩:=cy;exact .agg _ _
    | az t1 t2=>have:=aU.cb p5 (by simp);unfold b6 at this;simp only[cF,Bool.false_eq_true]at this
    | cV=>cases i'.1
    | slice _=>cases i'.1
    | array _ _=>cases i'.1
    | bH _=>cases i'.1
    | map _ _=>cases i'.1
    | fn _ _=>cases i'.1
    | ct _=>cases i'.1
    | ep=>cases i'.1
   ·cases he
 obtain⟨aO,aR,bO⟩:=key;have:=adx (x:=x) (y:=y) aO aR bO;cases op<;>simp only[reduceCtorEq,Option.some.injEq,Prod.mk.injEq]at ae;case eql=>obtain⟨rfl,rfl⟩:=ae;exact⟨_,this.1,fg.2 rfl⟩
 case neq=>obtain⟨rfl,rfl⟩:=ae;exact⟨_,this.2,fg.2 rfl⟩
theorem adz(aU:dT C.P T){op:BinOp}{ty mL:TypeId}{x y:Operand}(bf:∀ i,o.dst=some i->i<C.nt)(af:o.op=.binOp op ty x y mL)(h:(bw C.aN T be (a7 C.aN s.ay) o).run s.aa=some res):cJ C o s res:=by
 simp only[bw,af]at h;have zg:∀ c,o.op≠.defer c:=by grind
 have mM:∀ (a:Act) (w:World) (r:Value),(do eqGuard op ty x y (a.eval x) (a.eval y);binOp op ty (a.eval x) (a.eval y):Sem Value).run C.P w=.ok r w->(execOp a.eval o).run C.P w=.ok (.value r) w:=by
  intro a w r M;simp only[execOp,af,Sem.run_bind]at M ⊢;simp_all
 split at h
 ·rename_i k m k' n ag aS;have fin:∀ (c:Prop) (v:aG),(∀ (w:World) κ F,c->fS k m->∃ r,(binOp op ty (.int k m) (.int k' n)).run C.P w=.ok r w/\bB C.P s.aa κ F w v r)->
    res=⟨(use (a7 C.aN s.ay x)).1/\(use (a7 C.aN s.ay y)).1,c,v,[]⟩->cJ C o s res:=by
   intro c v al gp;subst gp;refine cJ.pure zg bf λa w κ F M bc hc=>?_;have E:=ow (cO M x rfl bc.1) ag;have U:=ow (cO M y rfl bc.2) aS;obtain⟨r,b_,cy⟩:=al w κ F hc E.2;exact⟨r,mM a w r (by simp[E.1,U.1,RR,b_]),cy⟩
  split at h
  ·split at h
   ·rename_i c v aD;simp only[bP,aq.bN,Option.some.injEq]at h;exact fin c v (λw κ F hc a8=>RS aD hc a8) h.symm
   ·cases h
  ·split at h
   ·rename_i c v aD;simp only[bP,aq.bN,Option.some.injEq]at h;exact fin c v (λw κ F hc a8=>RS aD hc a8) h.symm
   ·cases h
  ·split at h
   ·rename_i u2;subst u2;split at h
    ·rename_i c v aD;simp only[bP,aq.bN,Option.some.injEq]at h;exact fin c v (λw κ F hc a8=>adm aD hc a8) h.symm
    ·cases h
   ·cases h
 ·rename_i RV;split at h
  ·rename_i m n ag aS;split at h
   ·rename_i c v aD;simp only[bP,aq.bN,Option.some.injEq]at h;subst h;refine cJ.pure zg bf λa w κ F M bc hc=>?_;have E:=Kp (cO M x rfl bc.1) ag;have U:=Kp (cO M y rfl bc.2) aS;obtain⟨r,b_,cy⟩:=adn (P:=C.P) (H:=s.aa) (κ:=κ) (F:=F) (w:=w) (t:=ty) aD hc;exact⟨r,mM a w r (by simp[E.1,U.1,adj,b_]),cy⟩
   ·cases h
  ·rename_i RW;simp only[bP,aq.e4,Option.bind_eq_some_iff,aq.bN,Option.some.injEq]at h;obtain⟨⟨c,v⟩,aD,rfl⟩:=h;refine cJ.pure zg bf λa w κ F M bc hc=>?_;obtain⟨r,b_,cy⟩:=ady (x:=x) (y:=y) aU M aD (cO M x rfl bc.1) (cO M y rfl bc.2)
    (λ⟨ax,aM⟩=>by
     obtain⟨⟨k,m⟩,ax⟩:=Option.isSome_iff_exists.1 ax;obtain⟨⟨k',dz⟩,aM⟩:=Option.isSome_iff_exists.1 aM;grind)
    (λ⟨ax,aM⟩=>by
     obtain⟨m,ax⟩:=Option.isSome_iff_exists.1 ax;obtain⟨dz,aM⟩:=Option.isSome_iff_exists.1 aM;grind)
   grind
theorem u3{w:World}{b:Nat}{cs:Array Value}{T:TypeId}{fj:Nat×Nat}(h:w.heap[b]?=some (.cells cs T fj))(off:Nat):w.cell? ⟨b,off,none⟩=cs[off]?:=by
 simp[World.cell?,h]
theorem RX{P:Program}{w:World}{t:ad}{id:TypeId}(h:b6 P t id)(aj:t.isAgg=false){p:Addr}{v:Value}(ae:w.cell? p=some v):(loadVar id p).run P w=.ok v w:=by
 simp[loadVar,zc h,aj,ae]
theorem RY(aU:dT C.P T){ty:TypeId}{dZ v:aG}{u:Value}{a:Act}{w:World}{κ:Nat->bD}{F:Nat->Prop}(M:bl C s a w κ F)(h:(y9 (T ty) dZ).run s.aa=some v)(ag:bB C.P s.aa κ F w dZ u) :
  ∃ r,(Instr.loadAt ty u).run C.P w=.ok r w/\bB C.P s.aa κ F w v r:=by
 generalize p5:T ty=t at *
 cases dZ with
 | dW cY d=>
  simp only[y9,aq.bN]at h;split at h
  ·rename_i hc;obtain⟨rfl,hc⟩:=hc;simp only[Option.some.injEq]at h;subst h;obtain⟨p,bh,rfl,U,ah⟩:=ag;have dr:=aU.cb p5 (by intro e;subst e;cases hc);obtain⟨r,b_,cy⟩:=Ko dr U.Kn ah;exact⟨r,by simp[Instr.loadAt,Instr.sureAddr,b_],cy⟩
  grind
 | aW b g off=>
  simp only[y9,aq.e3,aq.bN]at h;split at h
  ·rename_i aB;split at h
   ·rename_i t0 f bS;have ae:=ag.2 aB.symm (by rw[bS];rfl);subst ae;have aT:=M.bF b;unfold cE at aT;rw[bS]at aT;obtain⟨cs,hU,bE,c2,c3⟩:=aT;split at h
    ·rename_i aj;split at h
     ·rename_i FN;simp only[Option.some.injEq]at h;subst h;have dr:=aU.cb p5 (by intro e;subst e;cases aj);have Kt:t.isAgg=false:=by cases t<;>simp_all[ad.eG,ad.isAgg]
      refine⟨cs.getD off Go.undef,?_,(c3 off FN).1⟩;simp only[Instr.loadAt,Instr.sureAddr,Sem.run_bind,Sem.run_pure,Result.andThen_ok];refine RX dr Kt ?_;rw[u3 bE];simp_all
     grind
    ·split at h
     ·rename_i RZ;split at h
      ·rename_i FN;simp only[Option.some.injEq]at h;subst h;have dr:=aU.cb p5 (by intro e;subst e;cases RZ);let aC:=(List.range t.size).map λj=>cs.getD (off+j) Go.undef;refine⟨.agg aC.toArray,?_,aC,rfl,by grind,λi G=>?_⟩
       ·simp only[Instr.loadAt,Instr.sureAddr,Sem.run_bind,Sem.run_pure,Result.andThen_ok,loadVar,zc dr,RZ,if_true,dr.size];rw[run_loadCells w ⟨(κ b).aa,off,none⟩ t.size (λj=>cs.getD (off+j) Go.undef)]
        ·rfl
        ·intro j aE;rw[u1,u3 bE];simp[Array.getD_eq_getD_getElem?,c2,show off+j<t0.size by omega]
       grind
      grind
     grind
   ·rename_i t0 y bS;have ae:=ag.2 aB.symm (by rw[bS];rfl);subst ae;have aT:=M.bF b;unfold cE at aT;rw[bS]at aT;obtain⟨bh,d1,d2⟩:=aT;split at h
    ·rename_i hc;simp only[Option.map_eq_some_iff]at h;obtain⟨z,bk,rfl⟩:=h;obtain⟨bE,c2,c3,rfl,ds,dI⟩:=RF t0 d2 bk;have dr:=aU.cb p5 (by intro e;subst e;cases hc);have cW:kt w ⟨(κ b).aa,off,none⟩ c2:=by
      refine⟨λ_=>rfl,λj aE=>?_⟩;have:=d1.2.2 (bE.length+j) (by grind);simp_all
     obtain⟨r,b_,cy⟩:=Ko dr cW dI;exact⟨r,by simp[Instr.loadAt,Instr.sureAddr,b_],cy⟩
    grind
   grind
  grind
 | oq b g i off=>
  simp only[y9,aq.e3,aq.bN]at h;split at h
  ·rename_i aB;have fin:∀ (e:ad) (xs:List e.ai),(s.aa b).body.fh=true->(s.aa b).body.len=xs.length->(s.aa b).body.e2=e.size->
     (∀ (G:i<xs.length),(κ b).e9=false->∃ bh,kt w ⟨(κ b).aa,(κ b).off+i*e.size,none⟩ bh/\bI C.P e F w bh xs[i])->
     (if t.eG||t.isAgg then (rX e (xs.getD i e.dh) off t).map (.val t) else none)=some v->∃ r,(Instr.loadAt ty u).run C.P w=.ok r w/\bB C.P s.aa κ F w v r:=by
    intro e xs a8 hlen Ch jk ae;split at ae
    ·rename_i hc;simp only[Option.map_eq_some_iff]at ae;obtain⟨z,bk,rfl⟩:=ae;obtain⟨aO,aR,bO⟩:=ag.2 aB.symm a8;subst bO;rw[hlen]at aO;obtain⟨bh,d1,d2⟩:=jk aO aR;have Ku:xs.getD i e.dh=xs[i]:=by grind
     rw[Ku]at bk;obtain⟨bE,c2,c3,rfl,ds,dI⟩:=RF e d2 bk;have dr:=aU.cb p5 (by intro e;subst e;cases hc);have cW:kt w ⟨(κ b).aa,(κ b).off+i*(s.aa b).body.e2+off,none⟩ c2:=by
      refine⟨λ_=>rfl,λj aE=>?_⟩;have:=d1.2 (bE.length+j) (by grind);grind
     obtain⟨r,b_,cy⟩:=Ko dr cW dI;exact⟨r,by simp[Instr.loadAt,Instr.sureAddr,b_],cy⟩
    grind
   have aT:=M.bF b;unfold cE at aT;split at h
   ·rename_i e xs bS;rw[bS]at aT;refine fin e xs (by rw[bS];rfl) (by rw[bS];rfl) (by rw[bS];rfl) (λG aw=>?_) h;obtain⟨cs,hU,bE,c2,c3,c4,c5⟩:=aT.2 aw;obtain⟨bh,d1,d2⟩:=c5 i G;exact⟨bh,⟨λ_=>rfl,λj aE=>by rw[u3 bE];grind⟩,d2⟩
   ·rename_i e xs bS;rw[bS]at aT;refine fin e xs (by rw[bS];rfl) (by rw[bS];rfl) (by rw[bS];rfl) (λG aw=>?_) h;simp only[jD,bI,bD.slice,aw,Bool.false_eq_true,if_false]at aT;obtain⟨a',cap,ax,m1,m2,m3,m4⟩:=aT;simp only[List.cons.injEq,Value.slice.injEq,and_true]at ax;obtain⟨rfl,_,rfl⟩:=ax;obtain⟨ec,ef,jl⟩:=m4 _ rfl (by omega);obtain⟨bh,d1,d2⟩:=jl i G;exact⟨bh,d1.Kn,d2⟩
   grind
  grind
 | _=>cases h
end
end Go.Fer
namespace Go.Fer
open Go.RowKit
section
variable {C:b9} {T:Nat->ad} {be:Nat->Option aL} {o:Oper} {s:aA} {res:eC}
theorem adA(aU:dT C.P T){ty:TypeId}{x:Operand}(bf:∀ i,o.dst=some i->i<C.nt)(af:o.op=.load ty x)(h:(bw C.aN T be (a7 C.aN s.ay) o).run s.aa=some res):cJ C o s res:=by
 simp only[bw,af]at h;split at h
 ·rename_i cB b g i ag;simp only[RO,aq.e3,aq.bN]at h;split at h
  ·rename_i e xs la v bS;split at h
   ·rename_i hc;obtain⟨aB,aj⟩:=hc;simp only[Option.some.injEq]at h;subst h;refine cJ.pure (by grind) bf λa w κ F M bc G=>?_;have G:i=la:=G;subst G;have E:=(cO M x ag bc).2 aB.symm (by rw[bS];rfl);have aT:=M.bF b;unfold cE at aT;rw[bS]at aT E;obtain⟨_,cs,hU,bE,c2,c3,c4,c5,lM,ox,w7⟩:=aT;have dr:=aU.cb (t:=T ty) rfl (by intro e;rw[e]at aj;cases aj);have Kt:(T ty).isAgg=false:=by cases aH:T ty<;>simp_all[ad.eG,ad.isAgg]
    refine⟨_,?_,ox⟩;have tu:w.cell? ⟨(κ b).aa,(κ b).off+i,none⟩=some (cs.getD ((κ b).off+i) Go.undef):=by
     rw[u3 bE];have:(κ b).off+i<cs.size:=by
      have:i<(κ b).cap:=by omega
      rw[c5.1]at c2;omega
     simp[this]
    have an:a.eval x=.pointer (some ⟨(κ b).aa,(κ b).off+i,none⟩):=by rw[E.2.2];simp[bQ.e2,c5.1]
    simp[execOp,af,an,Instr.loadAt,Instr.sureAddr,RX dr Kt tu]
   ·cases h
  ·cases h
 ·rename_i cB dZ _ ag;simp only[bP,aq.e4,Option.bind_eq_some_iff,aq.bN,Option.some.injEq]at h;obtain⟨v,ae,rfl⟩:=h;refine cJ.pure (by grind) bf λa w κ F M bc _=>?_;obtain⟨r,b_,cy⟩:=RY aU M ae (cO M x ag bc);exact⟨r,by simp[execOp,af,b_],cy⟩
theorem b6.str{P:Program}{id:TypeId}(h:b6 P .str id):P.underlying id=some .string:=by
 unfold b6 at h;simp only[cF,Bool.and_eq_true]at h;grind
theorem b6.int{P:Program}{k:IntKind}{id:TypeId}(h:b6 P (.int k) id):P.underlying id=some (.int k):=by
 unfold b6 at h;simp only[cF,Bool.and_eq_true]at h;grind
theorem b6.bg{P:Program}{n:Nat}{e:ad}{id:TypeId}(h:b6 P (.array n e) id):∃ i,P.underlying id=some (.array n i)/\b6 P e i/\e.size≠0:=by
 unfold b6 at h;simp only[cF,Bool.and_eq_true]at h;obtain⟨_,h⟩:=h;split at h
 ·rename_i m i hu;simp only[Bool.and_eq_true,decide_eq_true_eq,bne_iff_ne,ne_eq]at h;obtain⟨⟨rfl,U⟩,ah⟩:=h;exact⟨i,hu,U,ah⟩
 grind
theorem adB{fo:List (List Value)}{m:Nat}(h:∀ c∈fo,c.length=m){i:Nat}(G:i<fo.length):∃ p q,fo.flatten=p++(fo[i]++q)/\p.length=i*m:=by
 refine⟨(fo.take i).flatten,(fo.drop (i+1)).flatten,?_,?_⟩
 ·rw[<-List.flatten_cons,<-List.drop_eq_getElem_cons G,<-List.flatten_append,List.take_append_drop]
 ·have a1:(fo.take i).map List.length=List.replicate i m:=List.eq_replicate_iff.2 ⟨by grind,λx ag=>by
   grind⟩
  simp_all
theorem Kv{P:Program}{n:Nat}{e:ad}{F:Nat->Prop}{w:World}{cs:List Value}{xs:List e.ai}(h:bI P (.array n e) F w cs xs){i:Nat}(G:i<n):∃ p c q,cs=p++(c++q)/\p.length=i*e.size/\bI P e F w c (xs.getD i e.dh):=by
 simp only[bI]at h;obtain⟨fo,rfl,E,U,ah⟩:=h;obtain⟨p,q,aO,aR⟩:=adB (m:=e.size) (λc hc=>by
  obtain⟨j,aE,rfl⟩:=List.mem_iff_getElem.1 hc;exact hP e (ah j (by omega) aE)) (show i<fo.length by omega)
 grind
theorem adC(aU:dT C.P T){ty:TypeId}{x i:Operand}(bf:∀ i,o.dst=some i->i<C.nt)(af:o.op=.index ty x i)(h:(bw C.aN T be (a7 C.aN s.ay) o).run s.aa=some res):cJ C o s res:=by
 simp only[bw,af]at h;split at h
 ·rename_i l k n aH ag G;simp only[bP,aq.bN,Option.some.injEq]at h;subst h;refine cJ.pure (by grind) bf λa w κ F M bc hc=>?_;have E:=Kp (cO M x rfl bc.1) ag;have U:=ow (cO M i rfl bc.2) G;have dr:=(aU.cb aH (by simp)).str;have cc:n.toNat<l.length:=by omega
  refine⟨.int .u8 ((l.getD n.toNat 0).toNat:Int),?_,gS.2 ⟨rfl,?_⟩⟩
  ·have e:(⟨l.toArray⟩:ByteArray)[n.toNat]?=some (l.getD n.toNat 0):=by
    have aD:n.toNat<(⟨l.toArray⟩:ByteArray).size:=by simpa [ByteArray.size]using cc
    rw[getElem?_pos (⟨l.toArray⟩:ByteArray) n.toNat aD];simp only[Option.some.injEq];show (⟨l.toArray⟩:ByteArray).data[n.toNat]=_;grind
   simp[execOp,af,Instr.index,E.1,U.1,asIntOf,dD dr,hc.1,e]
  ·have:=(l.getD n.toNat 0).toNat_lt;constructor
   ·have:IntKind.u8.min=0:=by decide
    omega
   ·have:IntKind.u8.max=255:=by decide
    omega
 ·rename_i m e k n aH G;split at h
  ·rename_i dz a6 xs ag;split at h
   ·rename_i he;obtain⟨rfl,rfl⟩:=he;simp only[bP,aq.bN,Option.some.injEq]at h;subst h;refine cJ.pure (by grind) bf λa w κ F M bc hc=>?_;have E:bB C.P s.aa κ F w (use (a7 C.aN s.ay x)).2 (a.eval x):=cO M x rfl bc.1;rw[ag]at E;have U:=ow (cO M i rfl bc.2) G;obtain⟨j,aE,qU,_⟩:=(aU.cb aH (by simp)).bg;obtain⟨⟨cs,ae,pa⟩,nN⟩:=E;rw[ae]at nN;obtain⟨p,c,q,ax,aM,cD⟩:=Kv nN (i:=n.toNat) (by omega);obtain⟨v,g1,ee⟩:=qS qU (cs:=cs) ax cD;refine⟨v,?_,ee⟩;rw[aM]at g1;simp[execOp,af,Instr.index,ae,U.1,asIntOf,dD aE,hc.1,hc.2,qU.size,g1]
   ·cases h
  ·rename_i k' f ag;split at h
   ·rename_i al;simp only[bP,aq.bN,Option.some.injEq]at h;subst h;refine cJ.pure (by grind) bf λa w κ F M bc hc=>?_;have E:bB C.P s.aa κ F w (use (a7 C.aN s.ay x)).2 (a.eval x):=cO M x rfl bc.1;rw[ag]at E;have U:=ow (cO M i rfl bc.2) G;obtain⟨j,aE,qU,cf⟩:=(aU.cb aH (by simp)).bg;obtain⟨aC,ae,aj,fR⟩:=E;have cc:n.toNat*e.size+e.size<=aC.length:=by
     rw[aj,al];have:(n.toNat+1)*e.size<=m*e.size:=Nat.mul_le_mul_right _ (by omega);grind
    by_cases a8:e.isAgg=true
    ·simp only[if_pos a8];refine⟨_,by simp[execOp,af,Instr.index,ae,U.1,asIntOf,dD aE,hc.1,hc.2,qU.size,RQ qU a8];rfl,(aC.toArray.extract (n.toNat*e.size) (n.toNat*e.size+e.size)).toList,by simp,?_,λq bt=>?_⟩
     ·simp;omega
     ·have adD:(aC.toArray.extract (n.toNat*e.size) (n.toNat*e.size+e.size)).toList.getD q Go.undef=aC.getD (n.toNat*e.size+q) Go.undef:=by
       simp[List.getD_eq_getElem?_getD,bt]
      rw[adD];exact fR _ (by omega)
    ·simp only[if_neg a8];have a1:=fR (n.toNat*e.size) (by omega);refine⟨aC.getD (n.toNat*e.size) Go.undef,?_,a1.1⟩;have aB:aC.toArray[n.toNat*e.size]?=some (aC.getD (n.toNat*e.size) Go.undef):=by
      grind
     simp[execOp,af,Instr.index,ae,U.1,asIntOf,dD aE,hc.1,hc.2,qU.size,RP qU (by grind) aB]
   ·cases h
  ·cases h
 ·cases h
theorem r1:∀ {l:List aG},jI l->∀ i,i<l.length->(use (l.getD i .undef)).1
 | [],_,i,G=>by grind
 | a::l,h,0,_=>by
  cases a<;>first | trivial | exact h.1
 | a::l,h,i+1,G=>by
  have dw:jI l:=by cases a<;>first | exact h | exact h.2
  have:=r1 dw i (by grind);grind
theorem adE{k:bD}{n:Nat}(h:k.e9=true->n=0):∃ a cap,k.slice n=.slice a n cap:=by
 unfold bD.slice;split
 ·rename_i aw;rw[h aw];exact⟨none,0,rfl⟩
 ·exact⟨_,_,rfl⟩
theorem zh{a:Act}{w:World}{κ:Nat->bD}{F:Nat->Prop}(M:bl C s a w κ F){b:Nat}(a8:(s.aa b).body.fh=true):((κ b).e9=true->(s.aa b).body.len=0)/\(s.aa b).body.len<2 ^ 63:=by
 have aT:=M.bF b;unfold cE at aT;cases bS:(s.aa b).body with
 | bg e xs=>
  rw[bS]at aT;refine⟨λaw=>by rw[aT.1 aw];rfl,?_⟩;simp only[bQ.len];cases aw:(κ b).e9 with
  | true=>rw[aT.1 aw];simp
  | false=>obtain⟨cs,hU,bE,c2,c3,c4,c5⟩:=aT.2 aw;omega
 | hD e xs=>
  rw[bS]at aT;simp only[jD,bI,bD.slice]at aT;obtain⟨a',cap,ax,m1,m2,m3,m4⟩:=aT;simp only[bQ.len];grind
 | gj e xs i v=>
  rw[bS]at aT;obtain⟨aX,cs,hU,bE,c2,c3,c4,_⟩:=aT;exact⟨λaw=>(by rw[aX]at aw;cases aw),(by simp only[bQ.len];omega)⟩
 | _=>rw[bS]at a8;cases a8
theorem Kw{a:Act}{w:World}{κ:Nat->bD}{F:Nat->Prop}(M:bl C s a w κ F){b:Nat}(a8:(s.aa b).body.fh=true)(aw:(κ b).e9=false):(s.aa b).body.len<=(κ b).cap:=by
 have aT:=M.bF b;unfold cE at aT;cases bS:(s.aa b).body with
 | bg e xs=>
  rw[bS]at aT;obtain⟨cs,hU,bE,c2,c3,c4,c5⟩:=aT.2 aw;exact c3
 | hD e xs=>
  rw[bS]at aT;simp only[jD,bI,bD.slice,aw,Bool.false_eq_true,if_false]at aT;obtain⟨a',cap,ax,m1,m2,m3,m4⟩:=aT;simp only[List.cons.injEq,Value.slice.injEq,and_true]at ax;simp only[bQ.len];omega
 | gj e xs i v=>
  rw[bS]at aT;obtain⟨aX,cs,hU,bE,c2,c3,c4,_⟩:=aT;exact c3
 | _=>rw[bS]at a8;cases a8
theorem adF{a:Act}{w:World}{κ:Nat->bD}{F:Nat->Prop}(M:bl C s a w κ F){b aY G:Nat}(a8:(s.aa b).body.fh=true){v:Value}(E:aY<=G)(U:G<=(s.aa b).body.len)(aD:Fx (κ b) (s.aa b).body.e2 aY G v) :
  ∃ a cap,v=.slice a (G - aY) cap/\G - aY<2 ^ 63:=by
 have aw:=zh M a8;rcases aD with⟨aO,rfl⟩ | ⟨aO,o,rfl,_⟩
 ·simp_all
 grind
theorem Ci{n:Nat}(h:n<2 ^ 63):fS .i64 (n:Int):=by
 unfold fS;have E:IntKind.i64.min=-9223372036854775808:=by decide
 have U:IntKind.i64.max=9223372036854775807:=by decide
 omega
theorem b6.mp{P:Program}{k v:ad}{id:TypeId}(h:b6 P (.map k v) id):∃ i j,P.underlying id=some (.map i j)/\b6 P k i/\b6 P v j:=by
 unfold b6 at h;simp only[cF,Bool.and_eq_true]at h;obtain⟨_,h⟩:=h;split at h
 ·rename_i i j G;simp only[Bool.and_eq_true]at h;exact⟨i,j,G,h.1,h.2⟩
 grind
theorem adG(aU:dT C.P T){t:TypeId}{dZ:aG}{c:Prop}{n:Int}{u:Value}{a:Act}{w:World}{κ:Nat->bD}{F:Nat->Prop}(M:bl C s a w κ F)(h:(FA (T t) dZ).run s.aa=some (c,n))(hc:c)(ag:bB C.P s.aa κ F w dZ u)(ty:TypeId) :
  (Builtin.len_ #[t] ty #[u]).run C.P w=.ok (.int .i64 n) w/\fS .i64 n:=by
 have axm:∀ e a' m cap,T t=.slice e->u=.slice a' m cap->(m:Int)=n->m<2 ^ 63->(Builtin.len_ #[t] ty #[u]).run C.P w=.ok (.int .i64 n) w/\fS .i64 n:=by
  intro e a' m cap aH hu hm cc;obtain⟨i,G,_⟩:=(aU.cb aH (by simp)).sl;subst hu;rw[<-hm];exact⟨by simp[Builtin.len_,dD G,goInt],Ci cc⟩
 have R0:∀ k v r es clk m,T t=.map k v->u=.map (some r)->w.heap[r]?=some (.map es clk)->es.size=m->(m:Int)=n->bM m->(Builtin.len_ #[t] ty #[u]).run C.P w=.ok (.int .i64 n) w/\fS .i64 n:=by
  intro k v r es clk m aH hu hw pd hm cc;obtain⟨i,j,G,_⟩:=(aU.cb aH (by simp)).mp;subst hu;rw[<-hm,<-pd];unfold bM at cc;refine⟨?_,Ci (by omega)⟩;simp[Builtin.len_,dD G,goInt,getObj,Sem.run,hw]
 unfold FA at h;split at h
 ·rename_i e aH;split at h
  ·rename_i a6 xs;simp only[aq.bN,Option.some.injEq,Prod.mk.injEq]at h;obtain⟨_,ag⟩:=(dV rfl).1 ag;obtain⟨a',cap,ax,m1,m2,m3,m4⟩:=ag;grind
  ·simp only[aq.bN,Option.some.injEq,Prod.mk.injEq]at h;simp only[bB]at ag;grind
  ·rename_i b g;simp only[aq.e3,aq.bN]at h;split at h
   ·rename_i bk;simp only[Bool.and_eq_true,decide_eq_true_eq]at bk;simp only[Option.some.injEq,Prod.mk.injEq]at h;have ae:=ag.2 bk.1.symm bk.2;have aw:=zh M bk.2;obtain⟨a',cap,he⟩:=adE (k:=κ b) aw.1;grind
   grind
  ·rename_i b g aY G;simp only[aq.e3,aq.bN]at h;split at h
   ·rename_i bk;simp only[Bool.and_eq_true,decide_eq_true_eq]at bk;simp only[Option.some.injEq,Prod.mk.injEq]at h;obtain⟨⟨aO,aR⟩,bO⟩:=ag.2 bk.1.symm bk.2;obtain⟨a',cap,he,cc⟩:=adF M bk.2 aO aR bO;grind
   grind
  ·cases h
 ·rename_i aH;split at h
  ·rename_i xs;simp only[aq.bN,Option.some.injEq,Prod.mk.injEq]at h;obtain⟨rfl,cc⟩:=l_.1 ag;have dr:=(aU.cb aH (by simp)).str;rw[<-h.2];have aD:ByteArray.size ⟨xs.toArray⟩=xs.length:=by rfl
   exact⟨by simp[Builtin.len_,dD dr,goInt,aD],Ci (by omega)⟩
  ·cases h
 ·rename_i k v aH;split at h
  ·rename_i k' h4 xs;simp only[aq.bN,Option.some.injEq,Prod.mk.injEq]at h;obtain⟨rfl,h⟩:=h;obtain⟨_,ag⟩:=(dV rfl).1 ag;rcases ag with⟨ax,rfl⟩ | ⟨r,es,clk,ax,m1,m2,m3,_⟩
   ·obtain rfl:=(List.cons.inj ax).1;obtain⟨i,j,G,_⟩:=(aU.cb aH (by simp)).mp;rw[<-h];exact⟨by simp[Builtin.len_,dD G,goInt],Ci (by simp)⟩
   grind
  ·rename_i b g;simp only[aq.e3,aq.bN]at h;split at h
   ·rename_i aB;split at h
    ·rename_i k' h4 es bS;simp only[Option.some.injEq,Prod.mk.injEq]at h;obtain⟨rfl,h⟩:=h;have aT:=M.bF b;unfold cE at aT;rw[bS]at aT;obtain⟨ms,clk,ds,dI⟩:=aT;exact R0 k v _ ms clk es.length aH (ag.2 aB.symm (by rw[bS];rfl)) ds dI.1 h hc
    ·rename_i k' h4 es bS;simp only[Option.some.injEq,Prod.mk.injEq]at h;obtain⟨rfl,h⟩:=h;have aT:=M.bF b;unfold cE at aT;rw[bS]at aT;rcases aT with⟨ax,_⟩ | ⟨r,ms,clk,ax,Cj,ds,dI,_⟩
     ·cases ax
     ·simp only[List.cons.injEq,Value.map.injEq,Option.some.injEq,and_true]at ax;subst ax;exact R0 k v _ ms clk es.length aH (ag.2 aB.symm (by rw[bS];rfl)) ds dI h hc
    grind
   grind
  ·cases h
 ·cases h
theorem w8{b:Builtin}{args:Array Operand}{dq:Array TypeId}{a:Act}{w w':World}{v:Value}(af:o.op=.call { callee:=.builtin b,args:=args,argTypes:=dq })
  (h:(builtin b dq o.type (args.map fun | .const _=>true | _=>false) (args.map a.eval)).run C.P w=.ok (.value v) w'):(execOp a.eval o).run C.P w=.ok (.value v) w':=by
 simp only[execOp,af,Sem.run_bind,resolve,Sem.run_pure,Result.andThen_ok,invoke];exact h
theorem adH(aU:dT C.P T){args:Array Operand}{dq:Array TypeId}(bf:∀ i,o.dst=some i->i<C.nt)(af:o.op=.call { callee:=.builtin .len,args:=args,argTypes:=dq })(h:(bw C.aN T be (a7 C.aN s.ay) o).run s.aa=some res):cJ C o s res:=by
 obtain⟨args⟩:=args;obtain⟨dq⟩:=dq;simp only[bw,af,mK,B8]at h;split at h
 ·rename_i x t;simp only[bP,aq.e4,Option.bind_eq_some_iff,aq.bN,Option.some.injEq]at h;obtain⟨⟨c,n⟩,aw,rfl⟩:=h;refine cJ.pure (by grind) bf λa w κ F M bc hc=>?_;obtain⟨E,U⟩:=adG aU M aw hc (cO M x rfl bc) o.type;refine⟨_,w8 af ?_,gS.2 ⟨rfl,U⟩⟩;simp[builtin,E]
 ·cases h
theorem adI(aU:dT C.P T){args:Array Operand}{dq:Array TypeId}(bf:∀ i,o.dst=some i->i<C.nt)(af:o.op=.call { callee:=.builtin .cap,args:=args,argTypes:=dq })(h:(B_ T (a7 C.aN s.ay) args.toList dq.toList).run s.aa=some res):cJ C o s res:=by
 obtain⟨args⟩:=args;obtain⟨dq⟩:=dq;simp only[B_]at h;split at h
 ·rename_i x t;split at h
  ·rename_i e cB aH hu;simp only[bP,aq.bN,Option.some.injEq]at h;subst h;refine cJ.pure (by grind) bf λa w κ F M bc hc=>?_;have ae:a.eval x=.slice none 0 0:=cO M x hu bc;obtain⟨i,G,_⟩:=(aU.cb aH (by simp)).sl;refine⟨.int .i64 0,w8 af ?_,gS.2 ⟨rfl,by decide⟩⟩;simp[builtin,Builtin.cap_,ae,dD G,goInt]
  ·cases h
 ·cases h
theorem R1{a:Act}{w:World}{κ:Nat->bD}{F:Nat->Prop}(M:bl C s a w κ F){k:IntKind}:∀ (l:List Operand) {ca:Prop} {h6:z1'},mJ (a7 C.aN s.ay) k l=some (ca,h6)->ca->l.map a.eval=h6.map (Value.int k)/\∀ n∈h6,fS k n
 | [],_,_,h,_=>by cases h
 | [x],ca,h6,h,bc=>by
  simp only[mJ]at h;split at h
  ·rename_i k' n ag;split at h
   ·rename_i al;subst al;cases h;have E:=ow (cO M x rfl bc) ag;exact⟨by simp[E.1],by simpa using E.2⟩
   ·cases h
  ·cases h
 | x::y::l,ca,h6,h,bc=>by
  simp only[mJ]at h;split at h
  ·rename_i k' n axn axo ag aj;split at h
   ·rename_i al;subst al;cases h;have E:=ow (cO M x rfl bc.1) ag;have U:=R1 M (y::l) aj bc.2;exact⟨by rw[List.map_cons,U.1,E.1];rfl,λm hm=>by
     rcases List.mem_cons.1 hm with rfl | hm
     ·exact E.2
     ·exact U.2 m hm⟩
   ·cases h
  ·cases h
theorem Kx{k:IntKind}:∀ (h6:z1') (m:Int),fS k m->(∀ n∈h6,fS k n)->((h6.map (Value.int k)).foldlM Builtin.min2 (Value.int k m)=pure (Value.int k (h6.foldl (λa b=>if b<a then b else a) m))/\fS k (h6.foldl (λa b=>if b<a then b else a) m))/\
  ((h6.map (Value.int k)).foldlM Builtin.max2 (Value.int k m)=pure (Value.int k (h6.foldl (λa b=>if b > a then b else a) m))/\fS k (h6.foldl (λa b=>if b > a then b else a) m))
 | [],m,h,_=>⟨⟨rfl,h⟩,rfl,h⟩
 | n::h6,m,h,aj=>by
  have aw:=aj n (by simp);have aj:=λq bt=>aj q (List.mem_cons_of_mem n bt);have E:=(Kx h6 (if n<m then n else m) (by split<;>assumption) aj).1;have U:=(Kx h6 (if n > m then n else m) (by split<;>assumption) aj).2;refine⟨⟨?_,E.2⟩,?_,U.2⟩
  ·simp only[List.map_cons,List.foldlM_cons,List.foldl_cons,Builtin.min2];rw[<-E.1];simp
  ·simp only[List.map_cons,List.foldlM_cons,List.foldl_cons,Builtin.max2];rw[<-U.1];simp
theorem R2{b:Builtin}{f:Int->Int->Int}(W:(b=.min/\f=λa b=>if b<a then b else a)\/(b=.max/\f=λa b=>if b > a then b else a)){args:Array Operand}{dq:Array TypeId}(bf:∀ i,o.dst=some i->i<C.nt)
  (af:o.op=.call { callee:=.builtin b,args:=args,argTypes:=dq }) (h:(rZ (a7 C.aN s.ay) f args.toList).run s.aa=some res):cJ C o s res:=by
 obtain⟨args⟩:=args;simp only[rZ]at h;split at h
 ·rename_i x y l;split at h
  ·rename_i k m ag;split at h
   ·rename_i ca h6 aj;simp only[bP,aq.bN,Option.some.injEq]at h;subst h;refine cJ.pure (by grind) bf λa w κ F M bc hc=>?_;have E:=ow (cO M x rfl bc.1) ag;obtain⟨U,ah⟩:=R1 M (y::l) aj bc.2;obtain⟨g1,ee⟩:=Kx h6 m E.2 ah;have dY:(x::y::l).map a.eval=Value.int k m::h6.map (Value.int k):=by rw[List.map_cons,U,E.1]
    refine⟨.int k (h6.foldl f m),w8 af ?_,gS.2 ⟨rfl,?_⟩⟩
    ·rcases W with⟨rfl,rfl⟩ | ⟨rfl,rfl⟩
     ·simp only[builtin,Builtin.min_,List.map_toArray,dY];rw[g1.1];rfl
     ·simp only[builtin,Builtin.max_,List.map_toArray,dY];rw[ee.1];rfl
    ·rcases W with⟨rfl,rfl⟩ | ⟨rfl,rfl⟩
     ·exact g1.2
     ·exact ee.2
   ·cases h
  ·cases h
 ·cases h
end
end Go.Fer
namespace Go.Fer
open Go.RowKit
def fj(H:Nat->bJ)(x:bJ):bJ:=match x.body with
 | .bg e xs=>⟨x.gen,.hD e xs⟩
 | .mp k v es=>⟨x.gen,.jh k v es⟩
 | .cells t f=>match (ig t ((List.range t.size).map f)).run H with
  | some (y,_,[])=>⟨x.gen,.gG t y⟩
  | _=>x
 | _=>x
def aA.cz(s:aA)(l:List Nat):aA:=⟨s.ay,λi=>if i∈l then fj s.aa (s.aa i) else s.aa i⟩
theorem R3(H:Nat->bJ):∀ (l:List Nat) (s:aA),(∀ i∈l,s.aa i=H i\/s.aa i=fj H (H i))->s.ga ((jH l).run H)=⟨s.ay,λi=>if i∈l then fj H (H i) else s.aa i⟩
 | [],s,_=>by
  rfl
 | b::l,s,h=>by
  simp only[jH,aq.e3,aq.run_bind];have key:∀ (s':aA),s'.ay=s.ay->s'.aa b=fj H (H b)->(∀ i,i≠b->s'.aa i=s.aa i)->s'.ga ((jH l).run H)=⟨s.ay,λi=>if i∈b::l then fj H (H i) else s.aa i⟩:=by
   intro s' ax aM cD;rw[R3 H l s']
   ·rw[ax];congr 1;funext i;by_cases G:i=b
    ·subst G;simp only[aM,List.mem_cons,true_or,if_true];split<;>rfl
    ·rw[cD i G];simp[G]
   ·intro i G;by_cases eN:i=b
    ·subst eN;exact .inr aM
    ·rw[cD i eN];exact h i (by simp[G])
  have hF:fj H (H b)=H b->s.ga ((jH l).run H)=⟨s.ay,λi=>if i∈b::l then fj H (H i) else s.aa i⟩:=λe=>
   key s rfl (by grind) λ_ _=>rfl
  have put:∀ x,fj H (H b)=x->s.ga ((b,x)::(jH l).run H)=⟨s.ay,λi=>if i∈b::l then fj H (H i) else s.aa i⟩:=λx e=>by
   simp only[aA.ga];exact key _ rfl (by simp[aA.cx,e]) λi G=>by simp[aA.cx,G]
  cases W:(H b).body with
  | bg e xs=>exact put _ (by simp[fj,W])
  | mp k v es=>exact put _ (by simp[fj,W])
  | cells t f=>
   simp only[aq.run_bind,aq.bN];cases aB:(ig t ((List.range t.size).map f)).run H with
   | none=>exact hF (by simp[fj,W,aB])
   | some z=>
    obtain⟨y,m,r⟩:=z;cases r with
    | nil=>exact put _ (by simp[fj,W,aB])
    | cons c r=>exact hF (by simp[fj,W,aB])
  | _=>exact hF (by simp[fj,W])
theorem tv(s:aA)(l:List Nat):s.ga ((jH l).run s.aa)=s.cz l:=by
 rw[R3 s.aa l s λi _=>.inl rfl];rfl
theorem Ck:∀ (l:List (Nat×bJ)) (s:aA) (p:Nat×bJ),s.ga (l++[p])=(s.ga l).cx p.1 p.2
 | [],_,_=>rfl
 | q::l,s,p=>by simp only[List.cons_append,aA.ga];exact Ck l _ p
def bQ.R4:bQ->Bool | .ct _ _ _ _=>true | .gj _ _ _ _=>true | _=>false
def gI(H:Nat->bJ)(l:List Nat):Prop:=∀ b∈l,(H b).body.R4=false/\∀ t f,(H b).body=.cells t f->∃ y m,(ig t ((List.range t.size).map f)).run H=some (y,m,[])/\∀ c∈m,c∈l
theorem gI.nil(H:Nat->bJ):gI H []:=λb W=>by cases W
theorem gI.append{H:Nat->bJ}{l m:List Nat}(h:gI H l)(k:gI H m):gI H (l++m):=by
 intro b W;rcases List.mem_append.1 W with W | W
 ·obtain⟨E,U⟩:=h b W;grind
 ·obtain⟨E,U⟩:=k b W;grind
theorem gI.one{H:Nat->bJ}{b:Nat}(E:(H b).body.R4=false)(U:(H b).body.fH=false):gI H [b]:=by
 intro c hc;obtain rfl:=List.mem_singleton.1 hc;exact⟨E,λt f e=>by rw[e]at U;cases U⟩
theorem r2{H:Nat->bJ}{t:ad}{av:aG}{x:t.ai}{l:List Nat}(h:(dX t av).run H=some (x,l)):gI H l:=by
 cases av with
 | val cY y=>
  simp only[dX,aq.bN,Option.map_eq_some_iff,Prod.mk.injEq]at h;obtain⟨z,bk,rfl,rfl⟩:=h;exact .nil H
 | cv=>
  cases t<;>simp only[dX,aq.none,aq.bN,reduceCtorEq,Option.some.injEq,Prod.mk.injEq]at h;obtain⟨rfl,rfl⟩:=h;exact .nil H
 | jC u=>
  simp only[dX,aq.bN,Option.map_eq_some_iff,Prod.mk.injEq]at h;obtain⟨z,bk,rfl,rfl⟩:=h;exact .nil H
 | dW cY y=>
  cases t<;>simp only[dX,aq.none,aq.bN,reduceCtorEq,Option.map_eq_some_iff,Prod.mk.injEq]at h;obtain⟨z,bk,rfl,rfl⟩:=h;exact .nil H
 | own b g=>
  cases t<;>simp only[dX,aq.none,aq.bN,aq.e3,reduceCtorEq]at h;split at h
  ·split at h
   ·rename_i W;simp only[Option.map_eq_some_iff,Prod.mk.injEq]at h;obtain⟨z,bk,rfl,rfl⟩:=h;exact .one (by rw[W];rfl) (by rw[W];rfl)
   ·simp only[Option.map_eq_some_iff,Prod.mk.injEq]at h;obtain⟨z,bk,rfl,rfl⟩:=h;exact .nil H
   grind
  grind
 | sub b g aY G=>
  cases t<;>simp only[dX,aq.none,aq.bN,aq.e3,reduceCtorEq]at h;split at h
  ·split at h
   ·rename_i W;simp only[Option.map_eq_some_iff,Prod.mk.injEq]at h;obtain⟨z,bk,rfl,rfl⟩:=h;exact .one (by rw[W];rfl) (by rw[W];rfl)
   ·simp only[Option.map_eq_some_iff,Prod.mk.injEq]at h;obtain⟨z,bk,rfl,rfl⟩:=h;exact .nil H
   grind
  grind
 | fG b g=>
  cases t<;>simp only[dX,aq.none,aq.bN,aq.e3,reduceCtorEq]at h;split at h
  ·split at h
   ·rename_i W;simp only[Option.map_eq_some_iff,Prod.mk.injEq]at h;obtain⟨z,bk,rfl,rfl⟩:=h;exact .one (by rw[W];rfl) (by rw[W];rfl)
   ·simp only[Option.map_eq_some_iff,Prod.mk.injEq]at h;obtain⟨z,bk,rfl,rfl⟩:=h;exact .nil H
   grind
  grind
 | iA k n c=>
  cases t<;>simp only[dX,aq.none,aq.bN,reduceCtorEq]at h;split at h
  ·cases h;exact .nil H
  ·cases h
 | _=>cases h
theorem R5{H:Nat->bJ}{e:ad}(gn:∀ {cs:List aG} {x:e.ai} {l:List Nat} {r:List aG},(ig e cs).run H=some (x,l,r)->gI H l){av:aG}{x:Option e.ai}{l:List Nat}
  (h:(tm e (ig e) av).run H=some (x,l)):gI H l:=by
 have cm:(dX (.bH e) av).run H=some (x,l)->gI H l:=r2 (t:=.bH e);cases av with
 | aW b g off=>
  simp only[tm,aq.e3]at h;split at h
  ·split at h
   ·simp only[aq.bN,Option.map_eq_some_iff,Prod.mk.injEq]at h;obtain⟨z,bk,rfl,rfl⟩:=h;exact .nil H
   ·rename_i t f W;split at h
    ·rename_i aH;subst aH;simp only[aq.e4,Option.bind_eq_some_iff,aq.bN]at h;obtain⟨⟨y,m,q⟩,E,U⟩:=h;split at U
     ·rename_i bt;simp only[Option.some.injEq,Prod.mk.injEq]at U;obtain⟨rfl,rfl⟩:=U;have bt:q=[]:=List.isEmpty_iff.1 bt;subst bt;intro c hc;rcases List.mem_cons.1 hc with rfl | hc
      ·refine⟨by rw[W];rfl,λcY iE e=>?_⟩;grind
      ·obtain⟨aO,aR⟩:=gn E c hc;grind
     grind
    ·cases h
   ·cases h
  ·cases h
 | _=>exact cm h
theorem R6{H:Nat->bJ}:∀ (t:ad) {cs:List aG} {x:t.ai} {l:List Nat} {r:List aG},(ig t cs).run H=some (x,l,r)->gI H l:=by
 have p2:∀ (t:ad) (g:aG->aq (Option (t.ai×List Nat))),(∀ {av:aG} {x:t.ai} {l:List Nat},(g av).run H=some (x,l)->gI H l)->
   ∀ {cs:List aG} {x:t.ai} {l:List Nat} {r:List aG},(match cs with | c::r=>(g c).map λo=>o.map λ(x,l)=>(x,l,r) | []=>.none:aq (Option (t.ai×List Nat×List aG))).run H=some (x,l,r)->gI H l:=by
  intro t g aB cs x l r h;cases cs with
  | nil=>cases h
  | cons c cs=>
   simp only[aq.map,aq.run_bind,aq.bN,Option.map_eq_some_iff,Prod.mk.injEq]at h;grind
 intro t;induction t with
 | bool=>intro cs x l r h;exact p2 .bool (dX .bool) r2 h
 | int k=>intro cs x l r h;exact p2 (.int k) (dX (.int k)) r2 h
 | str=>intro cs x l r h;exact p2 .str (dX .str) r2 h
 | cV=>
  intro cs x l r h;simp only[ig,aq.bN,Option.some.injEq,Prod.mk.injEq]at h;obtain⟨_,rfl,rfl⟩:=h;exact .nil H
 | st t aJ=>intro cs x l r h;exact aJ h
 | az a b fy eL=>
  intro cs x l r h;simp only[ig,aq.e4,Option.bind_eq_some_iff,aq.bN,Option.some.injEq,Prod.mk.injEq]at h;obtain⟨⟨y,m,q⟩,E,⟨z,dz,q'⟩,U,rfl,rfl,rfl⟩:=h;exact (fy E).append (eL U)
 | slice e aJ=>intro cs x l r h;exact p2 (.slice e) (dX (.slice e)) r2 h
 | array n e aJ=>
  intro cs xs l r h;simp only[ig]at h;have key:∀ (n:Nat) {cs:List aG} {xs:List e.ai} {l:List Nat} {r:List aG},(n.rec (motive:=λ_=>List aG->aq (Option (List e.ai×List Nat×List aG))) (λcs=>.ret (some ([],[],cs)))
     (λ_ aJ cs=>(ig e cs).cQ λ(x,l,r)=>(aJ r).cQ λ(xs,m,q)=>.ret (some (x::xs,l++m,q))) cs).run H=some (xs,l,r)->gI H l:=by
   intro n;induction n with
   | zero=>intro cs xs l r h;cases h;exact .nil H
   | succ n B5=>
    intro cs xs l r h;simp only[aq.e4,Option.bind_eq_some_iff,aq.bN,Option.some.injEq,Prod.mk.injEq]at h;obtain⟨⟨y,m,q⟩,E,⟨z,dz,q'⟩,U,rfl,rfl,rfl⟩:=h;exact (aJ E).append (B5 U)
  grind
 | bH e aJ=>intro cs x l r h;exact p2 (.bH e) (tm e (ig e)) (R5 aJ) h
 | map k v wQ wR=>intro cs x l r h;exact p2 (.map k v) (dX (.map k v)) r2 h
 | fn a b fy eL=>intro cs x l r h;exact p2 (.fn a b) (dX (.fn a b)) r2 h
 | ct a aJ=>intro cs x l r h;exact p2 (.ct a) (dX (.ct a)) r2 h
 | ep=>intro cs x l r h;exact p2 .ep (dX .ep) r2 h
theorem mN{H:Nat->bJ}{t:ad}{av:aG}{x:t.ai}{l:List Nat}(h:(dA t av).run H=some (x,l)):gI H l:=by
 have cm:(ko t av).run H=some (x,l)->gI H l:=by
  intro h;unfold ko at h;split at h
  ·exact R5 (λh=>R6 _ h) h
  ·split at h
   ·exact r2 h
   ·cases h
 cases av with
 | val cY y=>
  simp only[dA,aq.bN,Option.map_eq_some_iff,Prod.mk.injEq]at h;obtain⟨z,bk,rfl,rfl⟩:=h;exact .nil H
 | agg n f=>
  simp only[dA]at h;split at h
  ·cases h
  ·simp only[aq.e4,Option.bind_eq_some_iff,aq.bN]at h;obtain⟨⟨y,m,q⟩,E,U⟩:=h;split at U
   ·simp only[Option.some.injEq,Prod.mk.injEq]at U;obtain⟨rfl,rfl⟩:=U;exact R6 t E
   grind
 | _=>exact cm h
theorem zi(H:Nat->bJ)(x:bJ):fj H x=x\/(∃ e xs,x.body=.bg e xs/\fj H x=⟨x.gen,.hD e xs⟩)\/(∃ k v es,x.body=.mp k v es/\fj H x=⟨x.gen,.jh k v es⟩)\/
  ∃ t f y m,x.body=.cells t f/\(ig t ((List.range t.size).map f)).run H=some (y,m,[])/\fj H x=⟨x.gen,.gG t y⟩:=by
 cases ag:x.body with
 | bg e xs=>exact .inr (.inl ⟨e,xs,rfl,by simp[fj,ag]⟩)
 | mp k v es=>exact .inr (.inr (.inl ⟨k,v,es,rfl,by simp[fj,ag]⟩))
 | cells t f=>
  cases aB:(ig t ((List.range t.size).map f)).run H with
  | none=>exact .inl (by simp[fj,ag,aB])
  | some z=>
   obtain⟨y,m,r⟩:=z;cases r with
   | nil=>exact .inr (.inr (.inr ⟨t,f,y,m,rfl,aB,by simp[fj,ag,aB]⟩))
   | cons c r=>exact .inl (by simp[fj,ag,aB])
 | _=>exact .inl (by simp[fj,ag])
theorem adJ{H:Nat->bJ}{x:bJ}{k:bD}(h:(fj H x).body.b1 k=true):(x.body.b1 k=true/\fj H x=x):=by
 rcases zi H x with e | ⟨_,_,_,e⟩ | ⟨_,_,_,_,e⟩ | ⟨_,_,_,_,_,_,e⟩
 ·grind
 all_goals rw[e]at h;cases h
theorem R7(s:aA)(l:List Nat)(κ:Nat->bD):fq s.aa κ (s.cz l).aa κ:=by
 rw[BZ];intro b;simp only[aA.cz];split
 ·rcases zi s.aa (s.aa b) with e | ⟨_,_,ag,e⟩ | ⟨_,_,_,ag,e⟩ | ⟨_,_,_,_,ag,_,e⟩
  ·rw[e];exact pZ.refl _ _
  ·rw[e];exact⟨Nat.le_refl _,λ_=>⟨λh=>(by cases h),λ_=>⟨by rw[ag];rfl,rfl,by rw[ag];rfl,by rw[ag];rfl⟩,λh=>(by cases h),λh=>(by cases h)⟩⟩
  ·rw[e];exact⟨Nat.le_refl _,λ_=>⟨λh=>(by cases h),λh=>(by cases h),λ_=>⟨by rw[ag];rfl,rfl⟩,λh=>(by cases h)⟩⟩
  ·rw[e];exact⟨Nat.le_refl _,λ_=>⟨λ_=>⟨by rw[ag];rfl,rfl⟩,λh=>(by cases h),λh=>(by cases h),λh=>(by cases h)⟩⟩
 ·exact pZ.refl _ _
theorem bl.lb{C:b9}{a:Act}{w:World}{κ:Nat->bD}{l:List Nat}{s:aA}{F:Nat->Prop}(lN:gI s.aa l)(h:bl C s a w κ F) :
  ∃ F',(∀ r,F r->F' r)/\bl C (s.cz l) a w κ F'/\iX s.aa κ F' l:=by
 let F':Nat->Prop:=λr=>F r\/∃ b∈l,(s.aa b).body.b1 (κ b)=true/\(κ b).aa=r;have bn:∀ r,F r->F' r:=λr M=>.inl M;have tw:iX s.aa κ F' l:=λb W af=>.inr ⟨b,W,af,rfl⟩;have Ky:∀ b,((s.cz l).aa b).body.b1 (κ b)=true->b ∉ l/\(s.aa b).body.b1 (κ b)=true:=by
  intro b W;simp only[aA.cz]at W;by_cases iF:b∈l
  ·rw[if_pos iF]at W;obtain⟨aO,aR⟩:=adJ W;exfalso;obtain⟨bE,c2⟩:=lN b iF;cases ag:(s.aa b).body with
   | bg e xs=>simp[fj,ag,bQ.b1]at W
   | mp k v es=>simp[fj,ag,bQ.b1]at W
   | cells t f=>
    obtain⟨y,m,g,_⟩:=c2 t f ag;simp[fj,ag,g,bQ.b1]at W
   | ct k v c r=>rw[ag]at bE;cases bE
   | gj e xs i v=>rw[ag]at bE;cases bE
   | _=>rw[ag]at aO;cases aO
  grind
 have aj:=R7 s l κ;refine⟨F',bn,?_,tw⟩;refine h.move aj bn (λr M=>M.imp id λ⟨b,_,E,U⟩=>.inl ⟨b,E,U⟩) (Nat.le_refl _) (λ_ _ _=>rfl) (dd.refl _) (λ_ b=>?_) (λb W=>?_) (λb bd W cR e=>h.inj b bd (Ky b W).2 (Ky bd cR).2 e) (λr M=>?_) (λb _ W=>⟨rfl,?_⟩)
 ·show cE C.P (s.cz l).aa κ F' w b;by_cases iF:b∈l
  ·have aT:=h.bF b;have Kz:(s.cz l).aa b=fj s.aa (s.aa b):=by simp[aA.cz,iF]
   have k9:fj s.aa (s.aa b)=s.aa b->cE C.P (s.cz l).aa κ F' w b:=λe=>cE.k9 aT aj bn (c7.refl _ _) (by grind) rfl λ_=>rfl;cases ag:(s.aa b).body with
   | bg e xs=>
    unfold cE at aT ⊢;rw[ag]at aT;rw[Kz];simp only[fj,ag,jD];exact Ke aT bn λaw=>tw b iF (by rw[ag];simp[bQ.b1,aw])
   | mp k v es=>
    unfold cE at aT ⊢;rw[ag]at aT;rw[Kz];simp only[fj,ag,jD];exact RC aT bn (tw b iF (by rw[ag];rfl))
   | cells t f=>
    obtain⟨y,m,g,hm⟩:=(lN b iF).2 t f ag;unfold cE at aT ⊢;rw[ag]at aT;rw[Kz];simp only[fj,ag,g,jD];obtain⟨cs,T,aO,aR,bO⟩:=aT;have iC:ew C.P s.aa κ F w ((List.range t.size).map f) cs.toList:=B4 (by omega) λi G=>by
     simp_all
    obtain⟨c,d,Kg,bE,c2⟩:=Kh h.bF bn t g (λc hc=>tw c (hm c hc)) iC;cases d with
    | cons _ _=>exact c2.elim
    | nil=>
     rw[List.append_nil]at Kg;refine⟨c,⟨tw b iF (by rw[ag];rfl),rfl,λj aE=>?_⟩,bE⟩;have fT:j<cs.size:=by grind
     simp only[World.cell?,aO,Nat.zero_add,Option.isSome_none,Bool.false_eq_true,if_false,Array.getElem?_eq_getElem fT];grind
   | _=>exact k9 (by simp[fj,ag])
  ·exact cE.k9 (h.bF b) aj bn (c7.refl _ _) (by simp[aA.cz,iF]) rfl λ_=>rfl
 ·obtain⟨aO,aR⟩:=Ky b W;have af:=h.own b aR;refine⟨af.1,λao=>?_,.inl ⟨b,aR,rfl⟩⟩;rcases ao with ao | ⟨b0,m1,m2,m3⟩
  ·grind
  ·exact aO (h.inj b b0 aR m2 m3.symm ▸ m1)
 ·rcases M with M | ⟨b,_,W,rfl⟩
  ·exact h.dc r M
  ·exact (h.own b W).1
 ·split at W
  ·rcases zi s.aa (s.aa b) with e | ⟨_,_,ag,e⟩ | ⟨_,_,_,ag,e⟩ | ⟨_,_,_,_,ag,_,e⟩
   ·grind
   ·rw[e]at W;simp[bQ.fH,bQ.gT]at W
   ·rw[ag];exact .inr rfl
   ·rw[ag];exact .inl rfl
  omega
section
variable {C:b9} {T:Nat->ad} {be:Nat->Option aL} {o:Oper} {s:aA} {res:eC}
theorem bl.fU{a:Act}{w:World}{κ:Nat->bD}{F:Nat->Prop}(h:bl C s a w κ F){b:Nat}(W:b<C.nt):b<eS:=Nat.lt_of_lt_of_le W h.gl
theorem bl.newVar{a:Act}{w:World}{κ:Nat->bD}{F:Nat->Prop}(h:bl C s a w κ F){b:Nat}(B2:b<eS){t:ad}{l:List aG}{cs:List Value}{ty:TypeId}(aj:ew C.P s.aa κ F w l cs)(aH:l.length=t.size) :
  ∃ κ',bl C (s.cx b ⟨(s.aa b).gen+1,.cells t (hi l)⟩) a (w.alloc (.cells cs.toArray ty)) κ' F/\(κ' b).aa=w.heap.size:=by
 refine⟨_,h.alloc (k:=⟨w.heap.size,0,0,false⟩) B2 (Nat.lt_succ_self _) rfl λH κ' mO B1 cc=>?_,by simp⟩;refine⟨cs.toArray,ty,p0 _ _,by simp[<-aj.len,aH],λi G=>?_⟩;have:=aj.kN i (by omega);have e:cs.toArray.getD i Go.undef=cs.getD i Go.undef:=by simp
 rw[e];exact⟨bB.later cc (λ_ M=>M) (c7.alloc h.dc _) this.1,this.2⟩
theorem Cl(t:ad){P:Program}{z:Value}(h:j3 t z.cells.toList=some []):(rW t).length=t.size/\z.cells.size=t.size:=by
 obtain⟨c,e,E,U⟩:=uY (P:=P) (H:=λ_=>⟨0,.fz⟩) (κ:=λ_=>⟨0,0,0,true⟩) (F:=λ_=>True) (w:=default) t h;rw[List.append_nil]at e;have:=hP t E;have:=U.len;grind
theorem adK(aU:dT C.P T){ty:TypeId}(bf:∀ i,o.dst=some i->i<C.nt)(af:o.op=.alloc ty)(h:(bw C.aN T be (a7 C.aN s.ay) o).run s.aa=some res)(p5:T ty≠.cV):cJ C o s res:=by
 simp only[bw,af]at h;obtain⟨b,ar,al⟩:=qT h;simp only[if_neg p5,Option.some.injEq]at al;subst al;intro a w κ F Q M _ _;have dr:=aU.cb rfl p5;obtain⟨i,z,E,U,ah,a1,bK,dp⟩:=kq dr.kp;obtain⟨c,e,mP,z2⟩:=uY (P:=C.P) (H:=s.aa) (κ:=κ) (F:=F) (w:=w) (T ty) bK;rw[List.append_nil]at e;have bk:=Cl (T ty) (P:=C.P) bK;obtain⟨κ',b_,cy⟩:=M.newVar (b:=b) (M.fU (bf b ar)) (t:=T ty) (ty:=ty) z2 bk.1;have c8:(execOp a.eval o).run C.P w=.ok (.value (.pointer (some ⟨w.heap.size,0,none⟩))) (w.alloc (.cells c.toArray ty)):=by
  have zj:z.cells=c.toArray:=by grind
  simp[execOp,af,Instr.alloc,qR E a1,newVar,newRow,zj]
 refine ht (by grind) c8 ⟨κ',F,bl.set (s:=s.cx b _) b_ bf ⟨⟨?_,rfl⟩,λ_ _=>?_⟩⟩
 ·simp[aA.cx]
 grind
theorem KA{P:Program}{H:Nat->bJ}{κ:Nat->bD}{F:Nat->Prop}{w:World}{t:ad}{av:aG}{v:Value}{l:List aG}(h:cellsOf t av=some l)(ae:bB P H κ F w av v):ew P H κ F w l v.cells.toList:=by
 unfold cellsOf at h;split at h
 ·rename_i cY x;split at h
  ·rename_i he;subst he;simp only[Option.some.injEq]at h;subst h;obtain⟨⟨cs,rfl,_⟩,hc⟩:=ae;simp only[bI]at hc;exact y6 _ hc
  grind
 ·rename_i n f;split at h
  ·simp only[Option.some.injEq]at h;subst h;obtain⟨aC,rfl,E,U⟩:=ae;exact B4 E U
  grind
 ·rename_i n e iZ a6 x;split at h
  ·simp only[Option.some.injEq]at h;subst h;obtain⟨⟨cs,rfl,_⟩,hc⟩:=ae;exact y6 _ hc
  grind
 ·rename_i n e m f;split at h
  ·simp only[Option.some.injEq]at h;subst h;obtain⟨aC,rfl,E,U⟩:=ae;exact B4 E U
  grind
 ·split at h
  ·have one:v.oneCell'=true->l=[av]->ew P H κ F w l v.cells.toList:=by
    intro E U;subst U;rw[Ft E];exact⟨⟨ae,E⟩,trivial⟩
   split at h
   ·rename_i cY x;split at h
    ·rename_i zf;obtain⟨aO,aR⟩:=(dV zf).1 ae;exact one (Kb zf aR) (Option.some.inj h).symm
    grind
   ·exact one ae.1.2 (Option.some.inj h).symm
   ·exact one ae.1.2 (Option.some.inj h).symm
   ·exact one ae.1.2 (Option.some.inj h).symm
   ·refine one ?_ (Option.some.inj h).symm;obtain⟨p,bh,rfl,_⟩:=ae;rfl
   ·exact one ae.1.2 (Option.some.inj h).symm
   ·refine one ?_ (Option.some.inj h).symm;obtain⟨aC,rfl,_⟩:=ae;rfl
   ·refine one ?_ (Option.some.inj h).symm;simp only[bB]at ae;subst ae;rfl
   ·exact one ae.1.2 (Option.some.inj h).symm
   ·cases h
   ·cases h
   ·refine one ?_ (Option.some.inj h).symm;simp only[bB]at ae;subst ae;cases v<;>first | rfl | grind | grind | grind | grind
   grind
  grind
end
end Go.Fer
namespace Go.Fer
open Go.RowKit
theorem FO:∀ (l:List Value) (k off:Nat) (cs:Array Value),off+k+l.length<=cs.size->
  ((l.zipIdx k).foldl (λ(cs:Array Value) (p:Value×Nat)=>cs.setIfInBounds (off+p.2) p.1) cs).toList=cs.toList.take (off+k)++(l++cs.toList.drop (off+k+l.length))
 | [],k,off,cs,h=>by simp
 | c::l,k,off,cs,h=>by
  simp only[List.zipIdx_cons,List.foldl_cons];have cf:(cs.setIfInBounds (off+k) c).size=cs.size:=by simp
  rw[FO l (k+1) off _ (by grind)];simp only[Array.toList_setIfInBounds,List.length_cons]at h ⊢;have cc:off+k<cs.toList.length:=by grind
  rw[show off+(k+1)=(off+k)+1 from by omega];rw[List.take_set,List.drop_set];rw[if_pos (by omega)];have E:(cs.toList.take (off+k+1)).set (off+k) c=cs.toList.take (off+k)++[c]:=by
   rw[List.take_succ_eq_append_getElem cc,List.set_append_right _ _ (by grind)];have Cm:min (off+k) cs.size=off+k:=Nat.min_eq_left (by omega);simp[Cm]
  grind
section
variable {P:Program} {w:World}
theorem adL(w:World)(b off:Nat)(v:Value){cs:Array Value}{T:TypeId}{fj:Nat×Nat}(h:w.heap[b]?=some (.cells cs T fj)) :
  (w.setCell ⟨b,off,none⟩ v).heap[b]?=some (.cells (cs.setIfInBounds off v) T fj):=by
 simp[World.setCell,Array.getElem?_modify,h]
theorem u4{b:Nat}{T:TypeId}:∀ (aC:List Value) (off i:Nat) (w:World) (cs:Array Value),w.heap[b]?=some (.cells cs T (0,0))->off+i+aC.length<=cs.size->(∀ v∈aC,v.oneCell'=true)->
  ∃ w' di,(storeCells ⟨b,off,none⟩ aC i).run P w=.ok () w'/\w'.heap[b]?=some (.cells di T (0,0))/\di.toList=cs.toList.take (off+i)++(aC++cs.toList.drop (off+i+aC.length))/\
   (∀ r,r≠b->w'.heap[r]?=w.heap[r]?)/\w'.heap.size=w.heap.size/\dd w w'
 | [],off,i,w,cs,h,_,_=>⟨w,cs,by rfl,h,by simp,λ_ _=>rfl,rfl,dd.refl w⟩
 | v::aC,off,i,w,cs,h,aj,ae=>by
  have cc:off+i<cs.size:=by grind
  have hc:w.cell? ⟨b,off+i,none⟩=some cs[off+i]:=by rw[u3 h];simp
  have ao:w.frozen? ⟨b,off+i,none⟩=false:=by simp[World.frozen?,h]
  have E:=adL w b (off+i) v h;obtain⟨w',di,b_,cy,eg,ld,ku,mf⟩:=u4 aC off (i+1) (w.setCell ⟨b,off+i,none⟩ v) _ E (by grind) (λu hu=>ae u (by grind));refine⟨w',di,?_,cy,?_,?_,by simp_all,dd.trans (b:=w.setCell ⟨b,off+i,none⟩ v) ⟨rfl,rfl,rfl⟩ mf⟩
  ·simp only[storeCells,Sem.run_bind,u1,run_store P w _ v _ (ae v (by simp)),hc,ao,Bool.false_eq_true,if_false,Result.andThen_ok];exact b_
  ·rw[eg];have:=FO [v] 0 (off+i) cs (by grind);simp only[List.zipIdx_cons,List.zipIdx_nil,List.foldl_cons,List.foldl_nil,Nat.add_zero,List.length_singleton]at this;rw[this];have ax:(cs.toList.take (off+i)).length=off+i:=by grind
   rw[List.take_append,List.drop_append,ax];simp only[show off+(i+1) - (off+i)=1 from by omega,show off+(i+1)+aC.length - (off+i)=aC.length+1 from by omega];have aM:List.take (off+(i+1)) (cs.toList.take (off+i))=cs.toList.take (off+i):=List.take_of_length_le (by omega);have cD:List.drop (off+(i+1)+aC.length) (cs.toList.take (off+i))=[]:=List.drop_of_length_le (by omega);rw[aM,cD];simp only[List.length_cons,List.nil_append,List.append_assoc,List.cons_append];simp only[List.take_succ_cons,List.take_zero,List.drop_succ_cons,List.drop_drop,List.cons_append,List.nil_append];grind
  ·intro r M;rw[ld r M];exact Below.heap_setCell _ _ _ _ (by omega)
end
section
variable {C:b9} {T:Nat->ad} {be:Nat->Option aL} {o:Oper} {s:aA} {res:eC}
theorem adM{ty:TypeId}{x:Operand}(bf:∀ i,o.dst=some i->i<C.nt)(af:o.op=.box ty x)(h:(bw C.aN T be (a7 C.aN s.ay) o).run s.aa=some res):cJ C o s res:=by
 simp only[bw,af]at h;split at h
 ·rename_i l aj;obtain⟨b,ar,al⟩:=qT h;split at al;case isFalse=>cases al
  rename_i hlen;simp only[Option.some.injEq]at al;subst al;intro a w κ F Q M bc _;have ae:=cO M x rfl bc;obtain⟨κ',b_,cy⟩:=M.newVar (b:=b) (M.fU (bf b ar)) (t:=T ty) (ty:=ty) (KA aj ae) hlen;have c8:(execOp a.eval o).run C.P w=.ok (.value (.pointer (some ⟨w.heap.size,0,none⟩))) (w.alloc (.cells (a.eval x).cells.toList.toArray ty)):=by
   simp[execOp,af,Instr.box,newVar,newRow]
  refine ht (by grind) c8 ⟨κ',F,bl.set (s:=s.cx b _) b_ bf ⟨⟨?_,rfl⟩,λ_ _=>?_⟩⟩
  ·simp[aA.cx]
  grind
 ·cases h
theorem adN{P:Program}:∀ (t:ad) {l:List Field} {off:Nat},cF P t (.inr (l,off))=true->∀ f∈l,∃ s,b6 P s f.type:=by
 intro t;induction t with
 | az a b fy eL=>
  intro l off h;match l,h with
  | [],h=>simp
  | [x],h=>simp only[cF,Bool.false_eq_true]at h
  | [x,y],h=>
   simp only[cF,Bool.and_eq_true]at h;intro f ao;simp only[List.mem_cons,List.not_mem_nil,or_false]at ao;rcases ao with rfl | rfl
   ·exact⟨a,h.1.1.1.2⟩
   ·exact⟨b,h.2.1.1.2⟩
  | x::y::z::l,h=>
   simp only[cF,Bool.and_eq_true]at h;intro f ao;rcases List.mem_cons.1 ao with rfl | ao
   ·exact⟨a,h.1.1.1.2⟩
   grind
 | _=>intro l off h;simp only[cF,Bool.false_eq_true]at h
theorem b6.adO{P:Program}{t:ad}{id:TypeId}(h:b6 P (.st t) id){eV:Array Field}(jj:P.underlying id=some (.struct eV)):∀ f∈eV.toList,∃ s,b6 P s f.type:=by
 obtain⟨_,_,ah,a1⟩:=h.Cd;rw[jj]at a1;simp only[Option.some.injEq,TypeDesc.struct.injEq]at a1;rw[<-a1]at ah;rcases ah with ah | ⟨f,e,_,ah,_⟩ | ⟨_,e⟩
 ·exact adN t ah
 ·rw[e];intro g aB;simp only[List.mem_singleton]at aB;subst aB;exact⟨t,ah⟩
 ·rw[e];intro g aB;cases aB
theorem ew.replace{P:Program}{H:Nat->bJ}{κ:Nat->bD}{F:Nat->Prop}{w:World}{as l:List aG}{us aC:List Value}(h:ew P H κ F w as us)(k:ew P H κ F w l aC)(off:Nat) :
  ew P H κ F w (as.take off++(l++as.drop (off+l.length))) (us.take off++(aC++us.drop (off+aC.length))):=by
 have Cn:∀ {as:List aG} {us:List Value} (n:Nat),ew P H κ F w as us->ew P H κ F w (as.take n) (us.take n):=by
  intro as;induction as with
  | nil=>intro us n h;cases us<;>first | exact h.elim | grind
  | cons a as aJ=>intro us n h;cases us with
   | nil=>exact h.elim
   | cons u us=>cases n with
    | zero=>trivial
    | succ n=>exact⟨h.1,aJ n h.2⟩
 have adP:∀ {as:List aG} {us:List Value} (n:Nat),ew P H κ F w as us->ew P H κ F w (as.drop n) (us.drop n):=by
  intro as;induction as with
  | nil=>intro us n h;cases us<;>first | exact h.elim | grind
  | cons a as aJ=>intro us n h;cases us with
   | nil=>exact h.elim
   | cons u us=>cases n with
    | zero=>exact h
    | succ n=>exact aJ n h.2
 rw[<-k.len];exact (Cn off h).append (k.append (adP _ h))
theorem R8{P:Program}{H:Nat->bJ}{κ:Nat->bD}{F:Nat->Prop}{w:World}{t:ad}{id:TypeId}{eV:Array Field}(dr:b6 P (.st t) id)(jj:P.underlying id=some (.struct eV)){place:Nat->Option (Nat×Nat)}
  (r3:∀ i f s,eV[i]?=some f->b6 P s f.type->place i=some (f.offset,s.size)):∀ (ps:List (Nat×aG)) (qs:List (Nat×Value)) {as FP:List aG} {cs:Array Value},ew P H κ F w as cs.toList->FB t as ps=some FP->
  ps.length=qs.length->(∀ i (h:i<ps.length) (dw:i<qs.length),ps[i].1=qs[i].1/\bB P H κ F w ps[i].2 qs[i].2)->∃ di,Instr.fill place cs qs=some di/\ew P H κ F w FP di.toList
 | [],[],as,FP,cs,a8,ao,_,_=>by cases ao;exact⟨cs,rfl,a8⟩
 | (i,av)::ps,(la,v)::qs,as,FP,cs,a8,ao,hlen,fR=>by
  have aX:=fR 0 (by simp) (by simp);simp only[List.getElem_cons_zero]at aX;obtain⟨rfl,ae⟩:=aX;simp only[FB]at ao;split at ao
  ·cases ao
  ·rename_i s off tx;split at ao
   ·cases ao
   ·rename_i l aj;split at ao
    ·rename_i hc;obtain⟨axp,nL,f1,f2,f3,f4,f5⟩:=dr.field tx;rw[jj]at f1;simp only[Option.some.injEq,TypeDesc.struct.injEq]at f1;subst f1;have an:=r3 i nL s f2 f4;rw[f3]at an;have iC:=KA aj ae;have cf:v.cells.size=s.size:=by have:=iC.len;grind
     have pa:as.length=cs.size:=by simpa using a8.len
     have FQ:=FO v.cells.toList 0 off cs (by grind);have e:(v.cells.zipIdx.foldl (λ(cs:Array Value) (p:Value×Nat)=>cs.setIfInBounds (off+p.2) p.1) cs)=((v.cells.toList.zipIdx 0).foldl (λ(cs:Array Value) (p:Value×Nat)=>cs.setIfInBounds (off+p.2) p.1) cs):=by
      rw[<-Array.foldl_toList];simp
     have adQ:=a8.replace iC off;rw[hc.1]at adQ;obtain⟨di,aO,aR⟩:=R8 dr jj r3 ps qs (cs:=v.cells.zipIdx.foldl (λ(cs:Array Value) (p:Value×Nat)=>cs.setIfInBounds (off+p.2) p.1) cs) (by rw[e,FQ];omega) ao (by grind)
      (λj h dw=>by have:=fR (j+1) (by grind) (by grind);grind)
     refine⟨di,?_,aR⟩;simp only[Instr.fill,an];grind
    grind
 | [],_::_,_,_,_,_,_,hlen,_=>by grind
 | _::_,[],_,_,_,_,_,hlen,_=>by grind
theorem R9:∀ {l:List (Nat×aG)},rY l->∀ i (h:i<l.length),(use l[i].2).1
 | a::l,h,0,_=>by
  obtain⟨n,a⟩:=a;cases a<;>first | trivial | exact h.1
 | a::l,h,i+1,G=>by
  have dw:rY l:=by obtain⟨n,a⟩:=a;cases a<;>first | exact h | exact h.2
  have:=R9 dw i (by grind);grind
theorem KB{a:Act}{w:World}{κ:Nat->bD}{F:Nat->Prop}(M:bl C s a w κ F)(ps:List (Nat×Operand))(bc:rY (ps.map λp=>(p.1,a7 C.aN s.ay p.2))) :
  ∀ i (h:i<(iD (ps.map λp=>(p.1,a7 C.aN s.ay p.2))).length) (dw:i<(ps.map λp=>(p.1,a.eval p.2)).length),(iD (ps.map λp=>(p.1,a7 C.aN s.ay p.2)))[i].1=(ps.map λp=>(p.1,a.eval p.2))[i].1/\bB C.P s.aa κ F w (iD (ps.map λp=>(p.1,a7 C.aN s.ay p.2)))[i].2 (ps.map λp=>(p.1,a.eval p.2))[i].2:=by
 intro i h dw;have G:i<ps.length:=by grind
 have E:=R9 bc i (by grind);simp only[List.getElem_map]at E;refine⟨by simp[iD],?_⟩;simp only[iD,List.getElem_map];exact o' (j6 M _) E
theorem adR(aU:dT C.P T){ty:TypeId}{ps:Array (Nat×Operand)}(bf:∀ i,o.dst=some i->i<C.nt)(af:o.op=.build ty ps)(FR:∀ m e,T ty≠.array m e)(h:(bw C.aN T be (a7 C.aN s.ay) o).run s.aa=some res):cJ C o s res:=by
 obtain⟨ps⟩:=ps;simp only[bw,af]at h;split at h
 ·rename_i t aH;have dr:=aU.cb aH (by simp);split at h
  ·rename_i cs pa;simp only[bP,aq.bN,Option.some.injEq]at h;subst h;refine cJ.pure (by grind) bf λa w κ F M bc _=>?_;obtain⟨eV,jj⟩:=dr.st;obtain⟨i,z,E,U,ah,a1,bK,dp⟩:=kq dr.kp;obtain⟨c,e,mP,z2⟩:=uY (P:=C.P) (H:=s.aa) (κ:=κ) (F:=F) (w:=w) (.st t) bK;rw[List.append_nil]at e;have adS:=dr.adO jj;have hm:=ChangeMaps.mapM_total (f:=λ(f:Field)=>(C.P.info? f.type).map λi=>(f.offset,i.size)) (0,0) (l:=eV.toList) (λf ao=>by
    obtain⟨s',r4⟩:=adS f ao;obtain⟨la,_,zk,_⟩:=kq r4.kp;simp_all)
   have r3:=run_places (P:=C.P) w eV.toList _ hm;obtain⟨di,aO,aR⟩:=R8 (w:=w) dr jj (place:=λj=>((eV.toList.map λf=>((C.P.info? f.type).map λi=>(f.offset,i.size)).getD (0,0)))[j]?)
    (λj f s' aE r4=>by
     obtain⟨la,_,zk,w9,_⟩:=kq r4.kp;grind)
    _ _ (by rw[e];exact z2) pa (by simp[iD]) (KB M ps bc)
   have hlen:cs.length=di.size:=by simpa using aR.len
   refine⟨.agg di,?_,di.toList,by simp,by grind,λj aE=>?_⟩
   ·have KC:(eV.mapM λf=>do pure (f.offset,<-sizeOf f.type):Sem (Array (Nat×Nat))).run C.P w=.ok (eV.toList.map λf=>((C.P.info? f.type).map λi=>(f.offset,i.size)).getD (0,0)).toArray w:=by
     rw[Array.mapM_eq_mapM_toList];simp[r3]
    simp only[execOp,af,Instr.build,Sem.run_bind,qR E a1,Result.andThen_ok,dD jj,KC];simp_all
   ·have:=aR.kN j aE;omega
  ·cases h
 ·rename_i aH;exact absurd aH (FR _ _)
 ·cases h
end
end Go.Fer
namespace Go.Fer
open Go.RowKit
section
variable {C:b9} {T:Nat->ad} {be:Nat->Option aL} {o:Oper} {s:aA} {res:eC}
theorem KD{P:Program}{w w':World}{t:ad}{id:TypeId}(h:b6 P t id){p:Addr}{v:Value}(cf:v.cells.size=t.size)(aD:(storeCells p v.cells.toList).run P w=.ok () w'):(storeVar id p v).run P w=.ok () w':=by
 simp[storeVar,h.size,cf,aD]
theorem adT(aU:dT C.P T){ty:TypeId}{x y:Operand}(bf:o.dst=none)(af:o.op=.store ty x y)(h:(bw C.aN T be (a7 C.aN s.ay) o).run s.aa=some res):cJ C o s res:=by
 simp only[bw,af]at h;split at h
 ·rename_i cB b g i ag;unfold Kl at h;split at h
  ·rename_i bd g' aS;simp only[aq.e3,aq.bN]at h;split at h
   ·rename_i e xs la v bS;split at h
    ·rename_i hc;obtain⟨aB,aj⟩:=hc;simp only[Option.some.injEq]at h;subst h;intro a w κ F Q M bc G;have G:i=la:=G;subst G;have E:=(cO M x ag bc.1).2 aB.symm (by rw[bS];rfl);have ae:=cO M y (av:=.own bd g') (p:=(use (a7 C.aN s.ay y)).1) (by rw[<-aS]) bc.2;have aT:=M.bF b;unfold cE at aT;rw[bS]at aT E;obtain⟨aX,cs,hU,bE,c2,c3,c4,c5,lM,ox,w7⟩:=aT;have dr:=aU.cb (t:=T ty) rfl (by intro e;rw[e]at aj;cases aj);have tu:=Ft ae.1.2;have cf:(a.eval y).cells.size=(T ty).size:=by
      rw[tu];cases aH:T ty<;>simp_all[ad.eG,ad.size]
     have lf:(κ b).off+i<cs.size:=by
      have:i<(κ b).cap:=by omega
      rw[c5.1]at c2;omega
     have an:a.eval x=.pointer (some ⟨(κ b).aa,(κ b).off+i,none⟩):=by rw[E.2.2];simp[bQ.e2,c5.1]
     obtain⟨w',di,b_,cy,eg,ld,ku,mf⟩:=u4 (P:=C.P) (a.eval y).cells.toList ((κ b).off+i) 0 w cs bE (by rw[tu];simp;omega) (λu hu=>by rw[tu]at hu;simp at hu;rw[hu];exact ae.1.2);refine FK (w':=w') (by grind) (by simp[execOp,af,an,Instr.storeAt,Instr.sureAddr,KD dr cf b_]) ?_;rw[bf];refine⟨κ,F,?_⟩;have gq:fq s.aa κ (λq=>if q=b then (⟨(s.aa b).gen,.gj e xs i (.own bd g')⟩:bJ) else s.aa q) κ:=
      qN rfl (λh=>by cases h) (λ_=>by rw[bS];exact⟨rfl,rfl,rfl⟩) (λh=>by cases h) (λh=>by cases h)
     refine (M.o9 (b:=b) (x:=⟨(s.aa b).gen,.gj e xs i (.own bd g')⟩) (by rw[bS];simp[bQ.b1,aX]) (by simp[bQ.b1,aX]) gq (λh=>by cases h) (λh=>by cases h) ld ku mf λH mO cc he=>?_);rw[tu]at eg;simp only[Nat.add_zero]at eg;have eW:∀ k,di[k]?=if k=(κ b).off+i then some (a.eval y) else cs[k]?:=by
      intro k;rw[<-Array.getElem?_toList,eg];have kP:(cs.toList.take ((κ b).off+i)).length=(κ b).off+i:=by rw[List.length_take,Array.length_toList];omega
      rcases Nat.lt_trichotomy k ((κ b).off+i) with al | al | al
      ·rw[if_neg (by omega),List.getElem?_append_left (by omega),List.getElem?_take_of_lt al,Array.getElem?_toList]
      ·rw[if_pos al,List.getElem?_append_right (by omega),kP,al];simp
      ·rw[if_neg (by omega),List.getElem?_append_right (by omega),kP,List.getElem?_append_right (by simp;omega),List.getElem?_drop];simp only[List.length_cons,List.length_nil];rw[show (κ b).off+i+(0+1)+(k - ((κ b).off+i) - (0+1))=k from by omega,Array.getElem?_toList]
     have FT:di.size=cs.size:=by
      rw[<-Array.length_toList,eg];grind
     have zl:di.getD ((κ b).off+i) Go.undef=a.eval y:=by
      rw[Array.getD_eq_getD_getElem?,eW];simp
     refine⟨aX,di,hU,cy,by omega,c3,c4,c5,λj aE qM=>?_,by rw[zl];exact bB.later cc (λ_ M=>M) he ae,by rw[zl];exact ae.1.2⟩;obtain⟨bh,d1,d2⟩:=lM j aE qM;refine⟨bh,λq bt=>?_,ff e (λ_ M=>M) he d2⟩;have tz:q=0:=by have:=hP e d2;omega
     subst tz;rw[eW,if_neg (by rw[c5.1];omega)];exact d1 0 bt
    ·cases h
   ·cases h
  ·cases h
 rename_i cB dZ adU ag;simp only[aq.e4,Option.bind_eq_some_iff,aq.bN,Option.some.injEq]at h;obtain⟨wl,lO,rfl⟩:=h;have KE:cB=(use (a7 C.aN s.ay x)).1:=by rw[ag]
 have FU:dZ=(use (a7 C.aN s.ay x)).2:=by rw[ag]
 subst KE;subst FU;clear ag adU;intro a w κ F Q M bc _;have an:bB C.P s.aa κ F w (use (a7 C.aN s.ay x)).2 (a.eval x):=cO M x rfl bc.1;have ae:bB C.P s.aa κ F w (use (a7 C.aN s.ay y)).2 (a.eval y):=cO M y rfl bc.2;generalize (use (a7 C.aN s.ay x)).2=adV at *
 generalize (use (a7 C.aN s.ay y)).2=ks at *
 have ar:∀ c,o.op≠.defer c:=by grind
 have fin:∀ w',(Instr.storeAt ty (a.eval x) (a.eval y)).run C.P w=.ok () w'->cu C (s.ga wl) a w'->o.wpIn (dS C.r) 0 C.P a w (λa' w'=>cu C (s.h7 o.dst ⟨(use (a7 C.aN s.ay x)).1/\(use (a7 C.aN s.ay y)).1,True,.undef,wl⟩) a' w') Q:=by
  intro w' E U;refine FK (w':=w') ar (by simp[execOp,af,E]) ?_;rw[bf];exact U
 unfold RH at lO;cases adV with
 | aW b g off=>
  simp only[aq.e3,aq.bN]at lO;split at lO
  ·rename_i aB;split at lO
   ·rename_i n f bS;simp only[Option.bind_eq_some_iff]at lO;obtain⟨l,aj,lO⟩:=lO;split at lO
    ·rename_i hc;simp only[Option.some.injEq]at lO;subst lO;have adW:=an.2 aB.symm (by rw[bS];rfl);have iC:=KA aj ae;have aT:=M.bF b;unfold cE at aT;rw[bS]at aT;obtain⟨cs,hU,bE,c2,c3⟩:=aT;have hlen:=iC.len;have nO:∀ u∈(a.eval y).cells.toList,u.oneCell'=true:=by
      intro u hu;obtain⟨i,G,rfl⟩:=List.mem_iff_getElem.1 hu;have:=(iC.kN i (by omega)).2;grind
     obtain⟨w',di,b_,cy,eg,ld,ku,mf⟩:=u4 (P:=C.P) (a.eval y).cells.toList off 0 w cs bE (by omega) nO;have cf:(a.eval y).cells.size=(T ty).size:=by grind
     have u5:T ty≠.cV:=by
      intro e;rw[e]at aj;cases ks<;>simp[cellsOf,ad.eG]at aj
     refine fin w' (by rw[adW];simp[Instr.storeAt,Instr.sureAddr,KD (aU.cb rfl u5) cf b_]) ⟨κ,F,?_⟩;have gq:fq s.aa κ (λi=>if i=b then (⟨(s.aa b).gen,.cells n (putCells f off l)⟩:bJ) else s.aa i) κ:=
      qN rfl (λ_=>by rw[bS];rfl) (λh=>by cases h) (λh=>by cases h) (λh=>by cases h)
     refine (M.o9 (b:=b) (x:=⟨(s.aa b).gen,.cells n (putCells f off l)⟩) (by rw[bS];rfl) rfl gq (λ_=>by rw[bS];rfl) (λh=>by cases h) ld ku mf λH mO cc he=>?_);have FT:di.size=n.size:=by
      rw[<-Array.length_toList,eg];grind
     refine⟨di,hU,cy,FT,λi G=>?_⟩;have bG:di.getD i Go.undef=di.toList.getD i Go.undef:=by simp
     rw[bG,eg];have lP:l.length=(a.eval y).cells.toList.length:=hlen;simp only[Nat.add_zero];have kP:(cs.toList.take off).length=off:=by grind
     unfold putCells;by_cases jm:off<=i/\i<off+l.length
     ·rw[if_pos jm];have ax:(cs.toList.take off++((a.eval y).cells.toList++cs.toList.drop (off+(a.eval y).cells.toList.length))).getD i Go.undef=(a.eval y).cells.toList.getD (i - off) Go.undef:=by
       grind
      rw[ax];have:=iC.kN (i - off) (by omega);exact⟨bB.later cc (λ_ M=>M) he this.1,this.2⟩
     ·rw[if_neg jm];have ax:(cs.toList.take off++((a.eval y).cells.toList++cs.toList.drop (off+(a.eval y).cells.toList.length))).getD i Go.undef=cs.getD i Go.undef:=by
       rcases Nat.lt_or_ge i off with E | E
       ·rw[List.getD_eq_getElem?_getD,List.getElem?_append_left (by omega)];simp_all
       ·rw[List.getD_eq_getElem?_getD,List.getElem?_append_right (by omega),kP,List.getElem?_append_right (by omega),List.getElem?_drop];rw[show off+(a.eval y).cells.toList.length+(i - off - (a.eval y).cells.toList.length)=i from by omega];simp
      rw[ax];exact⟨bB.later cc (λ_ M=>M) he (c3 i G).1,(c3 i G).2⟩
    grind
   grind
  grind
 | oq b g i off=>
  simp only[aq.e4,Option.bind_eq_some_iff,aq.run_bind,aq.e3,aq.bN]at lO;obtain⟨⟨z,l⟩,bk,lO⟩:=lO;split at lO
  ·rename_i aB;obtain⟨aB,p6⟩:=aB;have p6:b ∉ l:=by grind
   split at lO
   ·rename_i e xs bS;simp only[Option.map_eq_some_iff]at lO;obtain⟨mg,zj,rfl⟩:=lO;obtain⟨jJ,p7,mh⟩:=an.2 aB.symm (by rw[bS];rfl);rw[bS]at jJ mh;simp only[bQ.len,bQ.e2]at jJ mh;obtain⟨F',f1,bb,f2⟩:=bl.lb (mN bk) M;have u6:=mc M.bF f1 bk f2 ae;have KF:((s.cz l).aa b)=s.aa b:=by simp[aA.cz,p6]
    have aT:=bb.bF b;unfold cE at aT;rw[KF,bS]at aT;obtain⟨cs,hU,bE,c2,c3,c4,c5⟩:=aT.2 p7;obtain⟨bh,d1,d2⟩:=c5 i jJ;have Ku:xs.getD i e.dh=xs[i]:=by grind
    rw[Ku]at zj;have u7:=hP e d2;obtain⟨ds,dI,nP,bt,axq,axr,adX⟩:=ada e d2 zj u6.2;have u5:T ty≠.cV:=by
     intro a6;have:=u6.1;rw[a6]at this;exact this
    have w_:(a.eval y).cells.toList.length=(T ty).size:=u6.1.len;have Co:(i+1)*e.size<=(κ b).cap*e.size:=Nat.mul_le_mul_right _ (by omega);have hbound:off+(T ty).size<=e.size:=by
     grind
    have nO:∀ u∈(a.eval y).cells.toList,u.oneCell'=true:=by
     intro u hu;have iC:=y6 (P:=C.P) (H:=λ_=>⟨0,.fz⟩) (κ:=λ_=>⟨0,0,0,true⟩) (T ty) u6.2;obtain⟨j,aE,rfl⟩:=List.mem_iff_getElem.1 hu;have:=(iC.kN j (by rw[iC.len];exact aE)).2;grind
    have lf:(κ b).off+i*e.size+off+0+(a.eval y).cells.toList.length<=cs.size:=by
     grind
    obtain⟨w',di,b_,cy,eg,ld,ku,mf⟩:=u4 (P:=C.P) (a.eval y).cells.toList ((κ b).off+i*e.size+off) 0 w cs bE lf nO;refine fin w' (by rw[mh];simp[Instr.storeAt,Instr.sureAddr,KD (aU.cb rfl u5) (by omega) b_]) ⟨κ,F',?_⟩;have mQ:s.ga ((jH l).run s.aa++[(b,⟨(s.aa b).gen,.bg e (xs.set i mg)⟩)])=(s.cz l).cx b ⟨(s.aa b).gen,.bg e (xs.set i mg)⟩:=by
     rw[Ck,tv]
    rw[mQ];have gq:fq (s.cz l).aa κ (λla=>if la=b then (⟨(s.aa b).gen,.bg e (xs.set i mg)⟩:bJ) else (s.cz l).aa la) κ:=
     qN (by grind) (λh=>by cases h) (λ_=>by rw[KF,bS];exact⟨rfl,by simp[bQ.len],rfl⟩) (λh=>by cases h) (λh=>by cases h)
    have R_:(κ b).e9=false:=p7;refine bb.o9 (b:=b) (x:=⟨(s.aa b).gen,.bg e (xs.set i mg)⟩) (by rw[KF,bS];simp[bQ.b1,R_]) (by simp[bQ.b1,R_]) gq (λh=>by cases h) (λh=>by cases h) ld ku mf λH mO cc he=>?_;refine⟨λaw=>(by grind),λ_=>?_⟩;have FT:di.size=cs.size:=by
     rw[<-Array.length_toList,eg];grind
    refine⟨di,hU,cy,by omega,by grind,c4,λj aE=>?_⟩;have fT:j<xs.length:=by grind
    simp only[Nat.add_zero]at eg lf;have eW:∀ k,di[k]?=if (κ b).off+i*e.size+off<=k/\k<(κ b).off+i*e.size+off+(T ty).size then (a.eval y).cells.toList[k - ((κ b).off+i*e.size+off)]? else cs[k]?:=by
     intro k;rw[<-Array.getElem?_toList,eg];have kP:(cs.toList.take ((κ b).off+i*e.size+off)).length=(κ b).off+i*e.size+off:=by grind
     by_cases jm:(κ b).off+i*e.size+off<=k/\k<(κ b).off+i*e.size+off+(T ty).size
     ·rw[if_pos jm,List.getElem?_append_right (by omega),kP,List.getElem?_append_left (by omega)]
     ·rw[if_neg jm];rcases Nat.lt_or_ge k ((κ b).off+i*e.size+off) with E | E
      ·grind
      ·rw[List.getElem?_append_right (by omega),kP,List.getElem?_append_right (by omega),List.getElem?_drop];rw[show (κ b).off+i*e.size+off+(a.eval y).cells.toList.length+(k - ((κ b).off+i*e.size+off) - (a.eval y).cells.toList.length)=k from by omega];simp
    by_cases qM:j=i
    ·subst qM;have ax:(xs.set j mg)[j]=mg:=by simp
     rw[ax];refine⟨ds++((a.eval y).cells.toList++nP),λk al=>?_,ff e (λ_ M=>M) he adX⟩;rw[eW];subst bt;simp only[List.length_append]at al u7;by_cases jm:off<=k/\k<off+(T ty).size
     ·rw[if_pos (by omega)];rw[show (κ b).off+j*e.size+k - ((κ b).off+j*e.size+off)=k - ds.length from by omega];grind
     grind
    ·have ax:(xs.set i mg)[j]=xs[j]:=by grind
     rw[ax];obtain⟨R',adY,KG⟩:=c5 j fT;refine⟨R',λk al=>?_,ff e (λ_ M=>M) he KG⟩;rw[eW,if_neg]
     ·grind
     ·have axs:=hP e KG;rcases Nat.lt_or_ge j i with E | E
      ·have:(j+1)*e.size<=i*e.size:=Nat.mul_le_mul_right _ (by omega);grind
      ·have:(i+1)*e.size<=j*e.size:=Nat.mul_le_mul_right _ (by omega);grind
   grind
  grind
 | _=>cases lO
end
end Go.Fer
