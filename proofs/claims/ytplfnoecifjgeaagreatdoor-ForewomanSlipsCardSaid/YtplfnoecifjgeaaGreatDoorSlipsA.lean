/- Part 1 of the proof of Slips: shallow programs of Go functions, and what they compute. No condition. -/
import Derived.Below
import Derived.OrdersIn
import Derived.RangeFuncCalls
import Derived.RangeFuncSeq
import Derived.Laws.StructEq
import Derived.Laws.Tables
import Derived.ChangeMaps3
noncomputable section
abbrev z1':=List Int
abbrev z2':=List (Int×Int×Int×Int)
abbrev z3':=List (Int×Int×Int)
abbrev z4':=List (Int×Int)
abbrev z5':=List ((Int×Int×Int)×Int)
abbrev z6':=List (Nat×(Nat×Nat))
abbrev z7':=List (Int×Int×Int×Int×Int×Int)
abbrev z8':=List (Nat×Nat)
abbrev z9':=List (Option Nat)
set_option linter.unusedVariables false
set_option linter.unusedSimpArgs false
namespace Go.Fer
@[ext] structure M (aq:Type):Type where
 b1:Prop
 bD:aq->Prop
namespace M
variable {aq β f_ A aG:Type}
def pure(x:aq):M aq:=⟨True,λy=>y=x⟩
def bind(m:M aq)(f:aq->M β):M β:=⟨m.b1/\∀ x,m.bD x->(f x).b1,λy=>∃ x,m.bD x/\(f x).bD y⟩
def ag(p:Prop)(m:M aq):M aq:=⟨p/\m.b1,m.bD⟩
def dx(p:Prop)(x:aq):M aq:=⟨p,λy=>y=x⟩
def any(p:aq->Prop):M aq:=⟨∃ x,p x,p⟩
theorem ext'{m n:M aq}(h1:m.b1<->n.b1)(h2:∀ x,m.bD x<->n.bD x):m=n:=by
 cases m;cases n;simp only[M.mk.injEq];grind
@[simp] theorem ik (x:aq):(pure x).b1=True:=rfl
@[simp] theorem awO (x y:aq):(pure x).bD y=(y=x):=rfl
@[simp] theorem aE (x:aq) (f:aq->M β):bind (pure x) f=f x:=ext' (by simp[bind,pure]) (by simp[bind,pure])
@[simp] theorem awP (m:M aq):bind m pure=m:=ext' (by simp[bind,pure]) (by simp[bind,pure])
theorem bp{p:Prop}(h:p)(m:M aq):ag p m=m:=ext' (by simp[ag,h]) (by simp[ag])
@[simp] theorem bg (m:M aq):ag True m=m:=bp trivial m
theorem EZ(p:Prop)(m:M aq)(f:aq->M β):bind (ag p m) f=ag p (bind m f):=ext' (by simp[bind,ag,and_assoc]) (by simp[bind,ag])
@[simp] theorem nu (x:aq):dx True x=pure x:=rfl
theorem bF{p:Prop}(h:p)(x:aq):dx p x=pure x:=ext' (by simp_all) (by simp_all)
theorem dq(p:Prop)(x:aq)(f:aq->M β):bind (dx p x) f=ag p (f x):=by
 apply ext'
 ·simp[bind,dx,ag]
 ·simp[bind,dx,ag]
theorem QZ{c:Prop}[Decidable c](m n:M aq)(f:aq->M β):bind (if c then m else n) f=if c then bind m f else bind n f:=by grind
def le(n m:M aq):Prop:=m.b1->n.b1/\∀ y,n.bD y->m.bD y
theorem le_refl(m:M aq):le m m:=λh=>⟨h,λ_ h=>h⟩
theorem le_trans{a b c:M aq}(h:le a b)(k:le b c):le a c:=λhs=>⟨(h (k hs).1).1,λy aO=>(k hs).2 y ((h (k hs).1).2 y aO)⟩
theorem le_of_eq{a b:M aq}(h:a=b):le a b:=h ▸ le_refl a
def ca(m:M aq)(p:aq->Prop):Prop:=m.b1/\∀ y,m.bD y->p y
theorem ca.mono{m:M aq}{p q:aq->Prop}(h:ca m p)(k:∀ y,p y->q y):ca m q:=⟨h.1,λy aO=>k y (h.2 y aO)⟩
theorem dI{x:aq}{p:aq->Prop}:ca (pure x) p<->p x:=⟨λh=>h.2 x rfl,λh=>⟨trivial,λ_ e=>e ▸ h⟩⟩
theorem fJ{m:M aq}{f:aq->M β}{p:β->Prop}:ca (bind m f) p<->ca m λx=>ca (f x) p:=
 ⟨λh=>⟨h.1.1,λx hx=>⟨h.1.2 x hx,λy aO=>h.2 y ⟨x,hx,aO⟩⟩⟩,λh=>⟨⟨h.1,λx hx=>(h.2 x hx).1⟩,λy ⟨x,hx,aO⟩=>(h.2 x hx).2 y aO⟩⟩
theorem kD{q:Prop}{m:M aq}{p:aq->Prop}:ca (ag q m) p<->q/\ca m p:=by
 simp[ca,ag,and_assoc]
inductive ab(A aG:Type) where
 | next (s:A)
 | done (r:aG)
inductive Bz(body:A->M (ab A aG)):A->Prop where
 | mk (s:A) (h:(body s).b1) (k:∀ s',(body s).bD (.next s')->Bz body s'):Bz body s
inductive yQ(body:A->M (ab A aG)):A->aG->Prop where
 | done (s:A) (r:aG) (h:(body s).bD (.done r)):yQ body s r
 | next (s s':A) (r:aG) (h:(body s).bD (.next s')) (k:yQ body s' r):yQ body s r
def loop(body:A->M (ab A aG))(s:A):M aG:=⟨Bz body s,yQ body s⟩
theorem BA(body:A->M (ab A aG))(s:A) :
  loop body s=bind (body s) fun | .next s'=>loop body s' | .done r=>pure r:=by
 apply ext'
 ·constructor
  ·rintro⟨_,h,k⟩;refine⟨h,λx hx=>?_⟩;cases x with
   | next s'=>exact k s' hx
   | done r=>trivial
  ·rintro⟨h,k⟩;exact⟨s,h,λs' hs=>k _ hs⟩
 ·intro r;constructor
  ·rintro (⟨_,_,h⟩ | ⟨_,s',_,h,k⟩)
   ·exact⟨.done r,h,rfl⟩
   ·exact⟨.next s',h,k⟩
  ·rintro⟨x,hx,aa⟩;cases x with
   | next s'=>exact .next s s' r hx aa
   | done pS=>cases aa;exact .done s _ hx
theorem BB{body:A->M (ab A aG)}{s s':A}(h:body s=pure (.next s')):loop body s=loop body s':=by
 rw[BA,h,aE]
theorem s4{body:A->M (ab A aG)}{s:A}{r:aG}(h:body s=pure (.done r)):loop body s=pure r:=by
 rw[BA,h,aE]
theorem BC{body:A->M (ab A aG)}{p:aG->Prop}(I:A->Prop)(JI:A->Nat)
  (round:∀ s,I s->ca (body s) fun | .next s'=>I s'/\JI s'<JI s | .done r=>p r) (s:A) (h:I s):ca (loop body s) p:=by
 have key:∀ n s,JI s=n->I s->ca (loop body s) p:=by
  intro n;induction n using Nat.strongRecOn with
  | _ n aJ=>
   intro s aB hs;rw[BA,fJ];refine (round s hs).mono λy aO=>?_;cases y with
   | next s'=>grind
   | done r=>exact dI.2 aO
 grind
end M
end Go.Fer
namespace Go.Fer
def Q0(b:Nat)(c:Nat->Option Value):Prop:=
 match b with
 | 0=>∃ m,c 0=some (.int .i64 m)
 | 1 | 2=>∃ v,c 0=some v/\(v=.nilIface\/∃ te pe,v=.iface te pe)
 | 5=>∀ i,c i=if i<20 then some (.int .u64 (10 ^ i)) else none
 | _=>True
end Go.Fer
namespace Go.Fer
open Go.RowKit
inductive af where
 | bool | int (k:IntKind) | str | cA
 | st (t:af) | ay (a b:af)
 | slice (e:af) | array (n:Nat) (e:af) | br (e:af) | map (k v:af) | fn (a b:af) | b9 (a:af) | dT
 deriving DecidableEq
@[reducible] def af.ai:af->Type
 | .bool=>Bool
 | .int _=>Int
 | .str=>List UInt8
 | .cA=>Unit
 | .st t=>t.ai
 | .ay a b=>a.ai×b.ai
 | .slice e=>List e.ai
 | .array _ e=>List e.ai
 | .br e=>Option e.ai
 | .map k v=>List (k.ai×v.ai)
 | .fn a b=>a.ai->M b.ai
 | .b9 a=>List a.ai->Prop
 | .dT=>Option Nat
def af.cP:(t:af)->t.ai
 | .bool=>false
 | .int _=>(0:Int)
 | .str=>[]
 | .cA=>()
 | .st t=>t.cP
 | .ay a b=>(a.cP,b.cP)
 | .slice _=>[]
 | .array n e=>List.replicate n e.cP
 | .br _=>none
 | .map _ _=>[]
 | .fn _ _=>λ_=>⟨False,λ_=>False⟩
 | .b9 _=>λ_=>False
 | .dT=>none
def af.size:af->Nat
 | .cA=>0
 | .st t=>t.size
 | .ay a b=>a.size+b.size
 | .array n e=>n*e.size
 | _=>1
def af.ef:af->Bool
 | .cA | .st _ | .ay _ _ | .array _ _=>false
 | _=>true
def fA(k:IntKind)(n:Int):Prop:=k.min<=n/\n<=k.max
instance (k:IntKind) (n:Int):Decidable (fA k n):=inferInstanceAs (Decidable (_/\_))
def Holds(F:Nat->Prop)(w:World)(p:Addr)(cs:List Value):Prop:=
 F p.block/\p.spot=none/\∀ j (h:j<cs.length),w.cell? ⟨p.block,p.off+j,none⟩=some cs[j]
def cJ(F:Nat->Prop)(w w':World):Prop:=w.heap.size<=w'.heap.size/\∀ r,F r->w'.heap[r]?=w.heap[r]?
theorem cJ.refl(F:Nat->Prop)(w:World):cJ F w w:=⟨Nat.le_refl _,λ_ _=>rfl⟩
theorem cJ.trans{F F':Nat->Prop}{a b c:World}(h:cJ F a b)(bd:∀ r,F r->F' r)(k:cJ F' b c):cJ F a c:=
 ⟨Nat.le_trans h.1 k.1,λr aa=>(k.2 r (bd r aa)).trans (h.2 r aa)⟩
theorem cJ.cell{F:Nat->Prop}{w w':World}(h:cJ F w w'){a:Addr}(aU:F a.block):w'.cell? a=w.cell? a:=by
 simp only[World.cell?,h.2 _ aU]
def nv(P:Program)(F:Nat->Prop)(w:World):Prop:=∀ b,b<P.globals.size->F b/\Q0 b λi=>w.cell? ⟨b,i,none⟩
theorem nv.mono{P:Program}{F F':Nat->Prop}{w w':World}(h:nv P F w)(bd:∀ r,F r->F' r)(he:cJ F w w'):nv P F' w':=λb ad=>by
 obtain⟨h1,h2⟩:=h b ad;have e:(λi=>w'.cell? ⟨b,i,none⟩)=λi=>w.cell? ⟨b,i,none⟩:=funext λi=>he.cell (a:=⟨b,i,none⟩) h1;exact⟨bd b h1,e ▸ h2⟩
theorem Holds.mono{F F':Nat->Prop}{w w':World}{p:Addr}{cs:List Value}(h:Holds F w p cs)(bd:∀ r,F r->F' r)(he:cJ F w w'):Holds F' w' p cs:=
 ⟨bd _ h.1,h.2.1,λj aD=>(he.cell (a:=⟨p.block,p.off+j,none⟩) h.1).trans (h.2.2 j aD)⟩
def kE:af->Value->Prop
 | .st t,v=>∃ cs:Array Value,v=.agg cs/\cs.size=t.size
 | .array n e,v=>∃ cs:Array Value,v=.agg cs/\cs.size=n*e.size
 | .cA,_=>False
 | .ay _ _,_=>False
 | _,v=>v.cells=#[v]
def dO(aC:List Value):List Value:=aC.flatMap (·.cells.toList)
@[simp] theorem ack:dO []=[]:=rfl
@[simp] theorem JJ (v:Value) (aC:List Value):dO (v::aC)=v.cells.toList++dO aC:=rfl
def wC:af->List Value->Prop
 | .ay a b,v::aC=>kE a v/\wC b aC
 | .ay _ _,[]=>False
 | .cA,aC=>aC=[]
 | t,aC=>∃ v,aC=[v]/\kE t v
def yR:af->Value->List Value->Prop
 | .ay _ _,v,aC=>v=.tuple aC.toArray
 | .cA,v,aC=>v=.tuple #[]/\aC=[]
 | _,v,aC=>aC=[v]
def uK(F:Nat->Prop)(w w':World):Nat->Prop:=λr=>F r\/(w.heap.size<=r/\r<w'.heap.size)
structure E0(P:Program){aq:Type}(R:(Nat->Prop)->World->List Value->aq->Prop)(l:Nat)(S:List aq->Prop)(I:List aq->Bool->(Nat->Prop)->(Nat->Prop)->World->Prop):Prop where
 BD:∀ {pre st} {F F' Y:Nat->Prop} {w w':World},I pre st F Y w->(∀ r,F r->F' r)->(∀ r,F r\/Y r->w'.heap[r]?=w.heap[r]?)->w.heap.size<=w'.heap.size->w'.os=w.os/\w'.tape=w.tape/\w'.output=w.output->(∀ r,F' r->r<w'.heap.size)->(∀ r,F' r->¬Y r)->I pre st F' Y w'
 yield:∀ {pre} {F Y:Nat->Prop} {w:World} {args:List Value} {x:aq},I pre false F Y w->(∀ r,F r->r<w.heap.size)->(∀ r,Y r->r<w.heap.size/\¬F r)->(∃ T,S (pre++x::T))->R F w args x->
  YieldAt Fence.wide 0 P l args.toArray w λe w'=>∃ (b:Bool) (F' f':Nat->Prop),e=.returned (.bool b)/\(∀ r,F r->F' r)/\(∀ r,F' r->F r\/Y r\/w.heap.size<=r)/\(∀ r,F' r->r<w'.heap.size)/\
   (∀ r,r<w.heap.size->¬Y r->w'.heap[r]?=w.heap[r]?)/\(∀ r,f' r->(Y r\/w.heap.size<=r)/\r<w'.heap.size/\¬F' r)/\w.heap.size<=w'.heap.size/\(w'.os=w.os/\w'.tape=w.tape/\w'.output=w.output)/\I (pre++[x]) (!b) F' f' w'
def Q1{aq:Type}(S:List aq->Prop)(I:List aq->Bool->(Nat->Prop)->(Nat->Prop)->World->Prop)(F Y:Nat->Prop)(w:World)(e:Ending)(w':World):Prop:=
 ∃ v pre st F' f',e=.returned v/\(st=false->S pre)/\I pre st F' f' w'/\(∀ r,F r->F' r)/\(∀ r,F' r->F r\/Y r\/w.heap.size<=r)/\(∀ r,F' r->r<w'.heap.size)/\
  (∀ r,r<w.heap.size->¬Y r->w'.heap[r]?=w.heap[r]?)/\(∀ r,f' r->(Y r\/w.heap.size<=r)/\r<w'.heap.size/\¬F' r)/\w.heap.size<=w'.heap.size/\(w'.os=w.os/\w'.tape=w.tape/\w'.output=w.output)
def acm:Option Nat->Value
 | none=>.nilFunc
 | some k=>.func (.func k) #[] #[]
def bu(P:Program):(t:af)->(Nat->Prop)->World->List Value->t.ai->Prop
 | .bool,_,_,cs,x=>cs=[.bool x]
 | .int k,_,_,cs,x=>cs=[.int k x]/\fA k x
 | .str,_,_,cs,x=>cs=[.string ⟨x.toArray⟩]/\x.length<2 ^ 63
 | .cA,_,_,cs,_=>cs=[]
 | .st t,F,w,cs,x=>bu P t F w cs x
 | .ay a b,F,w,cs,x=>∃ c d,cs=c++d/\bu P a F w c x.1/\bu P b F w d x.2
 | .slice e,F,w,cs,xs=>∃ a cap,cs=[.slice a xs.length cap]/\xs.length<=cap/\cap<2 ^ 63/\(a=none->cap=0)/\
   ∀ p,a=some p->0<cap->F p.block/\p.spot=none/\∀ i (h:i<xs.length),∃ a_,Holds F w ⟨p.block,p.off+i*e.size,none⟩ a_/\bu P e F w a_ xs[i]
 | .array n e,F,w,cs,xs=>∃ fa:List (List Value),cs=fa.flatten/\fa.length=n/\xs.length=n/\∀ i (h:i<xs.length) (da:i<fa.length),bu P e F w fa[i] xs[i]
 | .br e,F,w,cs,x=>(cs=[.pointer none]/\x=none)\/∃ p y a_,cs=[.pointer (some p)]/\x=some y/\Holds F w p a_/\bu P e F w a_ y
 | .map k v,F,w,cs,xs=>(cs=[.map none]/\xs=[])\/∃ r es clk,cs=[.map (some r)]/\F r/\w.heap[r]?=some (.map es clk)/\es.size=xs.length/\(xs.map (·.1)).Nodup/\
   (∀ i (h:i<xs.length) (da:i<es.size),kE k es[i].key/\bu P k F w es[i].key.cells.toList xs[i].1/\kE v es[i].val/\bu P v F w es[i].val.cells.toList xs[i].2/\es[i].born<clk)/\
   (∀ i j (h:i<es.size) (da:j<es.size),es[i].born=es[j].born->i=j)
 | .fn a b,F,w,cs,f=>∃ u,cs=[u]/\(u.cells=#[u]/\u.oneCell'=true)/\∀ (F':Nat->Prop) (w':World),(∀ r,F r->F' r)->cJ F w w'->(∀ r,F' r->r<w'.heap.size)->nv P F' w'->
   ∀ args x,wC a args->bu P a F' w' (dO args) x->(f x).b1->∃ g cH,u=.func (.func g) #[] cH/\(∀ as w,(callFunc g as).run P w=.ok (.enter g as) w)/\
    Calls P g (args.toArray++cH) w' λe s5=>∃ v y aC,e=.returned v/\(f x).bD y/\yR b v aC/\wC b aC/\bu P b (uK F' w' s5) s5 (dO aC) y/\Below w'.heap.size w' s5
 | .b9 a,F,w,cs,S=>∃ u,cs=[u]/\(u.cells=#[u]/\u.oneCell'=true)/\∀ (F':Nat->Prop) (w':World),(∀ r,F r->F' r)->cJ F w w'->(∀ r,F' r->r<w'.heap.size)->nv P F' w'->
   (∃ L,S L)->∃ g cH,u=.func (.func g) #[] cH/\(∀ as w,(callFunc g as).run P w=.ok (.enter g as) w)/\
    ∀ (l:Nat) (I:List a.ai->Bool->(Nat->Prop)->(Nat->Prop)->World->Prop) (Y:Nat->Prop),(∀ r,Y r->r<w'.heap.size/\¬F' r)->
     E0 P (λF w args x=>wC a args/\bu P a F w (dO args) x) l S I->I [] false F' Y w'->Calls P g (#[Value.func (.yield l) #[] #[]]++cH) w' (Q1 S I F' Y w')
 | .dT,_,_,cs,x=>cs=[acm x]
theorem hC{P:Program}:∀ (t:af) {F:Nat->Prop} {w:World} {cs:List Value} {x:t.ai},bu P t F w cs x->cs.length=t.size:=by
 intro t;induction t with
 | bool=>intro F w cs x h;simp only[bu]at h;simp[h,af.size]
 | int k=>intro F w cs x h;simp only[bu]at h;simp[h.1,af.size]
 | str=>intro F w cs x h;simp only[bu]at h;simp[h.1,af.size]
 | cA=>intro F w cs x h;simp only[bu]at h;simp[h,af.size]
 | st t aJ=>intro F w cs x h;simp only[bu]at h;exact aJ h
 | ay a b fk eu=>
  intro F w cs x h;simp only[bu]at h;obtain⟨c,d,rfl,aU,ad⟩:=h;simp[af.size,fk aU,eu ad]
 | slice e aJ=>intro F w cs x h;simp only[bu]at h;obtain⟨a,cap,rfl,_⟩:=h;rfl
 | array n e aJ=>
  intro F w cs x h;simp only[bu]at h;obtain⟨fa,rfl,h1,h2,h3⟩:=h;have:∀ l∈fa,l.length=e.size:=by
   intro l an;obtain⟨i,G,rfl⟩:=List.mem_iff_getElem.1 an;grind
  have aT:fa.map List.length=List.replicate n e.size:=by
   rw[<-h1];exact List.eq_replicate_iff.2 ⟨by simp,by grind⟩
  simp[List.length_flatten,aT,af.size]
 | br e aJ=>intro F w cs x h;simp only[bu]at h;rcases h with⟨rfl,_⟩ | ⟨p,y,a_,rfl,_⟩<;>rfl
 | map k v wD wF=>intro F w cs x h;simp only[bu]at h;rcases h with⟨rfl,_⟩ | ⟨r,es,clk,rfl,_⟩<;>rfl
 | fn a b fk eu=>intro F w cs x h;simp only[bu]at h;obtain⟨u,rfl,_⟩:=h;rfl
 | b9 a aJ=>intro F w cs x h;simp only[bu]at h;obtain⟨u,rfl,_⟩:=h;rfl
 | dT=>intro F w cs x h;simp only[bu]at h;subst h;rfl
theorem eX{P:Program}:∀ (t:af) {F F':Nat->Prop} {w w':World} {cs:List Value} {x:t.ai},(∀ r,F r->F' r)->cJ F w w'->bu P t F w cs x->bu P t F' w' cs x:=by
 intro t;induction t with
 | bool=>intro F F' w w' cs x _ _ h;exact h
 | int k=>intro F F' w w' cs x _ _ h;exact h
 | str=>intro F F' w w' cs x _ _ h;exact h
 | cA=>intro F F' w w' cs x _ _ h;exact h
 | st t aJ=>intro F F' w w' cs x bd he h;simp only[bu]at h ⊢;grind
 | ay a b fk eu=>
  intro F F' w w' cs x bd he h;simp only[bu]at h ⊢;grind
 | slice e aJ=>
  intro F F' w w' cs x bd he h;simp only[bu]at h ⊢;obtain⟨a,cap,rfl,h1,h2,h3,aT⟩:=h;refine⟨a,cap,rfl,h1,h2,h3,λp hp hc=>?_⟩;obtain⟨aP,aQ,bB⟩:=aT p hp hc;refine⟨bd _ aP,aQ,λi G=>?_⟩;obtain⟨a_,m1,m2⟩:=bB i G;exact⟨a_,m1.mono bd he,aJ bd he m2⟩
 | array n e aJ=>
  intro F F' w w' cs x bd he h;simp only[bu]at h ⊢;grind
 | br e aJ=>
  intro F F' w w' cs x bd he h;simp only[bu]at h ⊢;rcases h with h | ⟨p,y,a_,h1,h2,h3,aT⟩
  ·grind
  ·exact .inr ⟨p,y,a_,h1,h2,h3.mono bd he,aJ bd he aT⟩
 | map k v wD wF=>
  intro F F' w w' cs x bd he h;simp only[bu]at h ⊢;rcases h with h | ⟨r,es,clk,h1,h2,h3,aT,bx,c_,fN⟩
  ·grind
  ·refine .inr ⟨r,es,clk,h1,bd _ h2,(he.2 _ h2).trans h3,aT,bx,λi G ds=>?_,fN⟩;grind
 | fn a b fk eu=>
  intro F F' w w' cs x bd he h;simp only[bu]at h ⊢;obtain⟨u,rfl,hu,h1⟩:=h;exact⟨u,rfl,hu,λJK s5 s6 BE hs=>h1 JK s5 (λr aa=>s6 r (bd r aa)) (he.trans bd BE) hs⟩
 | b9 a aJ=>
  intro F F' w w' cs x bd he h;simp only[bu]at h ⊢;obtain⟨u,rfl,hu,h1⟩:=h;exact⟨u,rfl,hu,λJK s5 s6 BE hs=>h1 JK s5 (λr aa=>s6 r (bd r aa)) (he.trans bd BE) hs⟩
 | dT=>intro F F' w w' cs x _ _ h;exact h
def dU(P:Program)(t:af)(F:Nat->Prop)(w:World)(v:Value)(x:t.ai):Prop:=kE t v/\bu P t F w v.cells.toList x
def fb(P:Program)(t:af)(F:Nat->Prop)(w:World)(aC:List Value)(x:t.ai):Prop:=wC t aC/\bu P t F w (dO aC) x
def s7(P:Program)(t:af)(F:Nat->Prop)(w:World)(v:Value)(x:t.ai):Prop:=∃ aC,yR t v aC/\fb P t F w aC x
theorem dU.mono{P:Program}{t:af}{F F':Nat->Prop}{w w':World}{v:Value}{x:t.ai}(h:dU P t F w v x)(bd:∀ r,F r->F' r)(he:cJ F w w'):dU P t F' w' v x:=
 ⟨h.1,eX t bd he h.2⟩
theorem E1{v:Value}(h:v.oneCell'=true):v.cells=#[v]:=by
 cases v<;>first | rfl | cases h
theorem Q2{v:Value}(h:v.cells=#[v]):v.cells.toList=[v]:=by rw[h]
theorem kE.len{t:af}{v:Value}(h:kE t v):v.cells.toList.length=t.size:=by
 cases t<;>simp only[kE]at h<;>first
  | (obtain⟨cs,rfl,h⟩:=h;simpa [Value.cells,af.size]using h)
  | (rw[Q2 h];rfl)
  | exact h.elim
theorem BF{P:Program}{a b:af}{F:Nat->Prop}{w:World}{v:Value}{aC:List Value}{x:a.ai}{y:b.ai} :
  fb P (.ay a b) F w (v::aC) (x,y)<->dU P a F w v x/\fb P b F w aC y:=by
 constructor
 ·rintro⟨⟨h1,h2⟩,c,d,e,hc,aw⟩;have an:=hC a hc;have:=List.append_inj e (by rw[an];exact h1.len);rw[JJ]at e;obtain⟨e1,e2⟩:=this;subst e1;subst e2;exact⟨⟨h1,hc⟩,h2,aw⟩
 ·rintro⟨⟨h1,h2⟩,h3,aT⟩;exact⟨⟨h1,h3⟩,_,_,rfl,h2,aT⟩
theorem E2{P:Program}{a b:af}{F:Nat->Prop}{w:World}{aC:List Value}{x:(af.ay a b).ai}(h:fb P (.ay a b) F w aC x) :
  ∃ v us,aC=v::us/\dU P a F w v x.1/\fb P b F w us x.2:=by
 cases aC with
 | nil=>exact h.1.elim
 | cons v us=>exact⟨v,us,rfl,BF.1 h⟩
def af.ga:af->Bool
 | .ay _ _ | .cA=>false
 | _=>true
theorem rG{P:Program}{t:af}(aI:t.ga=true){F:Nat->Prop}{w:World}{aC:List Value}{x:t.ai} :
  fb P t F w aC x<->∃ v,aC=[v]/\dU P t F w v x:=by
 have key:wC t aC<->∃ v,aC=[v]/\kE t v:=by cases t<;>simp[af.ga,wC]at aI ⊢
 unfold fb dU;rw[key];constructor
 ·rintro⟨⟨v,rfl,hv⟩,h⟩;exact⟨v,rfl,hv,by simpa using h⟩
 ·rintro⟨v,rfl,hv,h⟩;exact⟨⟨v,rfl,hv⟩,by simpa using h⟩
section
variable {P:Program} {F:Nat->Prop} {w:World} {v:Value}
@[simp] theorem eY {x:Bool}:dU P .bool F w v x<->v=.bool x:=by
 constructor
 ·rintro⟨h1,h2⟩;simp only[kE]at h1;simp only[bu]at h2;rw[Q2 h1]at h2;simpa using h2
 ·rintro rfl;exact⟨by simp[kE,Value.cells],by simp[bu,Value.cells]⟩
theorem gB{k:IntKind}{x:Int}:dU P (.int k) F w v x<->v=.int k x/\fA k x:=by
 constructor
 ·rintro⟨h1,h2⟩;simp only[kE]at h1;simp only[bu]at h2;grind
 ·rintro⟨rfl,h⟩;exact⟨by rfl,by simpa [bu,Value.cells]using h⟩
theorem l1{x:List UInt8}:dU P .str F w v x<->v=.string ⟨x.toArray⟩/\x.length<2 ^ 63:=by
 constructor
 ·rintro⟨h1,h2⟩;simp only[kE]at h1;simp only[bu]at h2;grind
 ·rintro⟨rfl,h⟩;exact⟨by rfl,by simpa [bu,Value.cells]using h⟩
theorem dC{t:af}(aI:t.ef=true){x:t.ai}:dU P t F w v x<->v.cells=#[v]/\bu P t F w [v] x:=by
 have h1:kE t v<->v.cells=#[v]:=by cases t<;>simp[af.ef,kE]at aI ⊢
 unfold dU;grind
theorem JL{t:af}(aI:t.ef=true){F:Nat->Prop}{w:World}{u:Value}{x:t.ai}(h:bu P t F w [u] x):u.oneCell'=true:=by
 cases t<;>simp only[af.ef,bu]at aI h<;>try contradiction
 ·obtain rfl:=(List.cons.inj h).1;rfl
 ·obtain rfl:=(List.cons.inj h.1).1;rfl
 ·obtain rfl:=(List.cons.inj h.1).1;rfl
 ·obtain⟨a,cap,h,_⟩:=h;obtain rfl:=(List.cons.inj h).1;rfl
 ·rcases h with⟨h,_⟩ | ⟨p,y,a_,h,_⟩<;>(obtain rfl:=(List.cons.inj h).1;rfl)
 ·rcases h with⟨h,_⟩ | ⟨r,es,clk,h,_⟩<;>(obtain rfl:=(List.cons.inj h).1;rfl)
 ·obtain⟨mx,h,hu,_⟩:=h;obtain rfl:=(List.cons.inj h).1;exact hu.2
 ·obtain⟨mx,h,hu,_⟩:=h;obtain rfl:=(List.cons.inj h).1;exact hu.2
 ·obtain rfl:=(List.cons.inj h).1;cases x<;>rfl
theorem BG{t:af}(aI:t.ef=true){F:Nat->Prop}{w:World}{cs:List Value}{x:t.ai}(h:bu P t F w cs x):∃ u,cs=[u]/\u.cells=#[u]:=by
 cases t<;>simp only[af.ef,bu]at aI h<;>try contradiction
 ·exact⟨_,h,rfl⟩
 ·exact⟨_,h.1,rfl⟩
 ·exact⟨_,h.1,rfl⟩
 ·obtain⟨a,cap,rfl,_⟩:=h;exact⟨_,rfl,rfl⟩
 ·rcases h with⟨rfl,_⟩ | ⟨p,y,a_,rfl,_⟩<;>exact⟨_,rfl,rfl⟩
 ·rcases h with⟨rfl,_⟩ | ⟨r,es,clk,rfl,_⟩<;>exact⟨_,rfl,rfl⟩
 ·obtain⟨u,rfl,hu,_⟩:=h;exact⟨u,rfl,hu.1⟩
 ·obtain⟨u,rfl,hu,_⟩:=h;exact⟨u,rfl,hu.1⟩
 ·exact⟨_,h,by cases x<;>rfl⟩
end
structure hR(P:Program)(k:FuncId)(ts tr:af)(sh:ts.ai->M tr.ai):Prop where
 enter:∀ args w,(callFunc k args).run P w=.ok (.enter k args) w
 iK:∀ (F:Nat->Prop) (w:World) (args:List Value) (x:ts.ai),(∀ r,F r->r<w.heap.size)->nv P F w->fb P ts F w args x->(sh x).b1->
  Calls P k args.toArray w λe w'=>∃ v y,e=.returned v/\(sh x).bD y/\s7 P tr (uK F w w') w' v y/\Below w.heap.size w w'
structure Q3(P:Program)(k:FuncId)(ts tr:af)(sh:ts.ai->M tr.ai):Prop where
 iK:∀ (F:Nat->Prop) (w:World) (args:List Value) (x:ts.ai),(∀ r,F r->r<w.heap.size)->nv P F w->fb P ts F w args x->(sh x).b1->
  Calls P k args.toArray w λe w'=>∃ v y,e=.returned v/\(sh x).bD y/\s7 P tr (λr=>w.heap.size<=r/\r<w'.heap.size) w' v y/\Below w.heap.size w w'
def fP:List af->af
 | []=>.cA
 | [t]=>t
 | t::u::l=>.ay t (fP (u::l))
def E3:(as bs:List af)->(fP as).ai->(fP bs).ai->(fP (as++bs)).ai
 | [],_,_,y=>y
 | [_],[],x,_=>x
 | [_],_::_,x,y=>(x,y)
 | _::u::l,bs,x,y=>(x.1,E3 (u::l) bs x.2 y)
theorem Q4{P:Program}{F:Nat->Prop}{w:World}:∀ (as bs:List af),as.all af.ga=true->∀ {aC us:List Value} {x:(fP as).ai} {y:(fP bs).ai},fb P (fP as) F w aC x->fb P (fP bs) F w us y->fb P (fP (as++bs)) F w (aC++us) (E3 as bs x y)
 | [],bs,_,aC,us,x,y,h1,h2=>by
  obtain rfl:aC=[]:=h1.1;exact h2
 | [t],[],_,aC,us,x,y,h1,h2=>by
  obtain rfl:us=[]:=h2.1;have e:aC++[]=aC:=List.append_nil aC;rw[e];exact h1
 | [t],b::bs,h,aC,us,x,y,h1,h2=>by
  have aI:t.ga=true:=by grind
  obtain⟨v,rfl,hv⟩:=(rG aI).1 h1;exact BF.2 ⟨hv,h2⟩
 | t::u::l,bs,h,aC,us,x,y,h1,h2=>by
  obtain⟨v,rH,rfl,h3,aT⟩:=E2 (a:=t) (b:=fP (u::l)) h1;have an:(u::l).all af.ga=true:=by
   grind
  have:=Q4 (u::l) bs an aT h2;exact BF.2 ⟨h3,this⟩
structure acn where
 ts:af
 tr:af
 sh:ts.ai->M tr.ai
structure E4 where
 as:List af
 cs:List af
 tr:af
 sh:(fP (as++cs.map .br)).ai->M tr.ai
structure wG where
 cs:List af
 aK:af
 S:(fP (cs.map .br)).ai->List aK.ai->Prop
structure wH(P:Program)(k:FuncId)(v:wG):Prop where
 enter:∀ args w,(callFunc k args).run P w=.ok (.enter k args) w
 iK:∀ (F:Nat->Prop) (w:World) (cH:List Value) (x:(fP (v.cs.map .br)).ai),(∀ r,F r->r<w.heap.size)->nv P F w->fb P (fP (v.cs.map .br)) F w cH x->(∃ L,v.S x L)->
  ∀ (l:Nat) (I:List v.aK.ai->Bool->(Nat->Prop)->(Nat->Prop)->World->Prop) (Y:Nat->Prop),(∀ r,Y r->r<w.heap.size/\¬F r)->
   E0 P (fb P v.aK) l (v.S x) I->I [] false F Y w->Calls P k (#[Value.func (.yield l) #[] #[]]++cH.toArray) w (Q1 (v.S x) I F Y w)
structure dm where
 s8:Nat->Option acn
 s9:Nat->Option E4
 wI:Nat->Option wG:=λ_=>none
structure qE(P:Program)(U:dm):Prop where
 s8:∀ k v,U.s8 k=some v->hR P k v.ts v.tr v.sh
 s9:∀ k v,U.s9 k=some v->v.as.all af.ga=true/\hR P k (fP (v.as++v.cs.map .br)) v.tr v.sh
 wI:∀ k v,U.wI k=some v->wH P k v:=by intro k v h;cases h
theorem aco{P:Program}{k:FuncId}{ts tr:af}{sh:ts.ai->M tr.ai}(h:hR P k ts tr sh)(F:Nat->Prop)(w:World):bu P (.fn ts tr) F w [.func (.func k) #[] #[]] sh:=by
 refine⟨_,rfl,⟨rfl,rfl⟩,λF' w' _ _ hs aA args x h1 h2 h3=>⟨k,#[],rfl,h.enter,?_⟩⟩;have:=h.iK F' w' args x hs aA ⟨h1,h2⟩ h3;simp only[Array.append_empty];exact this.mono λe s5 ⟨v,y,e1,e2,⟨aC,e3,e4,eP⟩,jV⟩=>⟨v,y,aC,e1,e2,e3,e4,eP,jV⟩
end Go.Fer
namespace Go.Fer
open Go.RowKit
inductive aF where
 | undef
 | val (t:af) (x:t.ai)
 | hi (b:Bool) (a:aF)
 | loc (b g off:Nat)
 | own (b g:Nat)
 | n5 (b g i off:Nat)
 | dD (t:af) (x:t.ai)
 | fs (b g:Nat)
 | il (k:FuncId) (n:Nat) (cH:Nat->aF)
 | rI (k:FuncId) (n:Nat) (first:Nat->aF)
 | pT (n:Nat) (f:Nat->aF)
 | agg (n:Nat) (f:Nat->aF)
 | cV
 | jt (v:Value)
 | jW (b g:Nat)
 | tr (l:Nat) (aK:af) (S:List aK.ai->Prop) (pre:List aK.ai) (st:Bool)
 | gN (l:Nat)
 | sub (b g lo G:Nat)
 | wJ (e:af) (xs:List e.ai)
 | iL (b g i:Nat)
inductive bC where
 | fm
 | cells (t:af) (f:Nat->aF)
 | a8 (e:af) (xs:List e.ai)
 | hj (e:af) (xs:List e.ai)
 | mp (k v:af) (es:List (k.ai×v.ai))
 | gm (t:af) (x:t.ai)
 | i_ (k v:af) (es:List (k.ai×v.ai))
 | b9 (k v:af) (cur:Option (k.ai×v.ai)) (b5:List (k.ai×v.ai))
 | fQ (e:af) (xs:List e.ai) (i:Nat) (v:aF)
structure bw where
 gen:Nat
 body:bC
structure bo where
 ae:Nat
 off:Nat
 cap:Nat
 eQ:Bool
structure az where
 ax:Nat->aF
 ae:Nat->bw
def bC.ft:bC->Bool | .cells _ _=>true | .gm _ _=>true | _=>false
def bC.eZ:bC->Bool | .a8 _ _=>true | .hj _ _=>true | .fQ _ _ _ _=>true | _=>false
def bC.gC:bC->Bool | .mp _ _ _=>true | .i_ _ _ _=>true | _=>false
def bC.my:bC->Bool | .b9 _ _ _ _=>true | _=>false
def bC.len:bC->Nat | .a8 _ xs=>xs.length | .hj _ xs=>xs.length | .fQ _ xs _ _=>xs.length | _=>0
def bC.eK:bC->Nat | .a8 e _=>e.size | .hj e _=>e.size | .fQ e _ _ _=>e.size | _=>0
def bC.bN(k:bo):bC->Bool | .cells _ _=>true | .a8 _ _=>!k.eQ | .mp _ _ _=>true | .b9 _ _ _ _=>true | .fQ _ _ _ _=>!k.eQ | _=>false
def bo.slice(k:bo)(n:Nat):Value:=if k.eQ then .slice none 0 0 else .slice (some ⟨k.ae,k.off,none⟩) n k.cap
def E5(k:bo)(eK lo G:Nat)(v:Value):Prop:=
 (k.eQ=true/\v=.slice none 0 0)\/(k.eQ=false/\∃ o,v=.slice (some ⟨k.ae,o,none⟩) (G - lo) (k.cap - lo)/\o<=k.off+lo*eK/\(lo<k.cap->o=k.off+lo*eK))
def bl(P:Program)(H:Nat->bw)(κ:Nat->bo)(F:Nat->Prop)(w:World):aF->Value->Prop
 | .undef,_=>True
 | .val t x,v=>dU P t F w v x
 | .hi b a,v=>(b=true->bl P H κ F w a v)/\(b=false->v=Go.undef)
 | .loc b g off,v=>(g<=(H b).gen/\v.oneCell'=true)/\(g=(H b).gen->(H b).body.ft=true->v=.pointer (some ⟨(κ b).ae,off,none⟩))
 | .own b g,v=>(g<=(H b).gen/\v.oneCell'=true)/\(g=(H b).gen->(H b).body.eZ=true->v=(κ b).slice (H b).body.len)
 | .n5 b g i off,v=>(g<=(H b).gen/\v.oneCell'=true)/\(g=(H b).gen->(H b).body.eZ=true->i<(H b).body.len/\(κ b).eQ=false/\v=.pointer (some ⟨(κ b).ae,(κ b).off+i*(H b).body.eK+off,none⟩))
 | .iL b g i,v=>(g<=(H b).gen/\v.oneCell'=true)/\(g=(H b).gen->(H b).body.eZ=true->i<(H b).body.len/\(κ b).eQ=false/\v=.pointer (some ⟨(κ b).ae,(κ b).off+i*(H b).body.eK,none⟩))
 | .dD t x,v=>∃ p a_,v=.pointer (some p)/\Holds F w p a_/\bu P t F w a_ x
 | .fs b g,v=>(g<=(H b).gen/\v.oneCell'=true)/\(g=(H b).gen->(H b).body.gC=true->v=.map (some (κ b).ae))
 | .il k n cH,v=>∃ aC:List Value,v=.func (.func k) #[] aC.toArray/\aC.length=n/\∀ i,i<n->bl P H κ F w (cH i) (aC.getD i Go.undef)
 | .rI k n f,v=>∃ aC:List Value,v=.func (.func k) aC.toArray #[]/\aC.length=n/\∀ i,i<n->bl P H κ F w (f i) (aC.getD i Go.undef)
 | .pT n f,v=>∃ aC:List Value,v=.tuple aC.toArray/\aC.length=n/\∀ i,i<n->bl P H κ F w (f i) (aC.getD i Go.undef)
 | .agg n f,v=>∃ aC:List Value,v=.agg aC.toArray/\aC.length=n/\∀ i,i<n->bl P H κ F w (f i) (aC.getD i Go.undef)/\(aC.getD i Go.undef).oneCell'=true
 | .cV,v=>v=.slice none 0 0
 | .jt u,v=>v=u
 | .jW b g,v=>(g<=(H b).gen/\v.oneCell'=true)/\(g=(H b).gen->(H b).body.my=true->v=.pointer (some ⟨(κ b).ae,0,none⟩))
 | .tr _ _ _ _ _,_=>True
 | .gN l,v=>v=.func (.yield l) #[] #[]
 | .wJ e xs,v=>dU P (.slice e) F w v xs/\∃ q,v=.slice q xs.length xs.length
 | .sub b g lo G,v=>(g<=(H b).gen/\v.oneCell'=true)/\(g=(H b).gen->(H b).body.eZ=true->(lo<=G/\G<=(H b).body.len)/\E5 (κ b) (H b).body.eK lo G v)
def fe(H:Nat->bw)(κ:Nat->bo)(H':Nat->bw)(κ':Nat->bo):Prop:=
 ∀ b,(H b).gen<=(H' b).gen/\((H b).gen=(H' b).gen->
  ((H' b).body.ft=true->(H b).body.ft=true/\(κ' b).ae=(κ b).ae)/\
  ((H' b).body.eZ=true->(H b).body.eZ=true/\κ' b=κ b/\(H' b).body.len=(H b).body.len/\(H' b).body.eK=(H b).body.eK)/\
  ((H' b).body.gC=true->(H b).body.gC=true/\(κ' b).ae=(κ b).ae)/\
  ((H' b).body.my=true->(H b).body.my=true/\(κ' b).ae=(κ b).ae))
theorem fe.refl(H:Nat->bw)(κ:Nat->bo):fe H κ H κ:=λ_=>⟨Nat.le_refl _,λ_=>⟨λh=>⟨h,rfl⟩,λh=>⟨h,rfl,rfl,rfl⟩,λh=>⟨h,rfl⟩,λh=>⟨h,rfl⟩⟩⟩
def pU(x y:bw)(k k':bo):Prop:=
 x.gen<=y.gen/\(x.gen=y.gen->
  (y.body.ft=true->x.body.ft=true/\k'.ae=k.ae)/\
  (y.body.eZ=true->x.body.eZ=true/\k'=k/\y.body.len=x.body.len/\y.body.eK=x.body.eK)/\
  (y.body.gC=true->x.body.gC=true/\k'.ae=k.ae)/\
  (y.body.my=true->x.body.my=true/\k'.ae=k.ae))
theorem pU.refl(x:bw)(k:bo):pU x x k k:=⟨Nat.le_refl _,λ_=>⟨λh=>⟨h,rfl⟩,λh=>⟨h,rfl,rfl,rfl⟩,λh=>⟨h,rfl⟩,λh=>⟨h,rfl⟩⟩⟩
theorem BH{H:Nat->bw}{κ:Nat->bo}{H':Nat->bw}{κ':Nat->bo}:fe H κ H' κ'<->∀ b,pU (H b) (H' b) (κ b) (κ' b):=Iff.rfl
theorem bl.later{P:Program}{H H':Nat->bw}{κ κ':Nat->bo}{F F':Nat->Prop}{w w':World}(an:fe H κ H' κ')(bd:∀ r,F r->F' r)(he:cJ F w w') :
  ∀ {a:aF} {v:Value},bl P H κ F w a v->bl P H' κ' F' w' a v:=by
 intro a;induction a with
 | undef=>intro v h;trivial
 | val t x=>intro v h;exact dU.mono h bd he
 | hi b a aJ=>intro v h;exact⟨λad=>aJ (h.1 ad),h.2⟩
 | loc b g off=>
  intro v h;obtain⟨h1,h2⟩:=h;obtain⟨aP,aQ⟩:=an b;refine⟨⟨Nat.le_trans h1.1 aP,h1.2⟩,λaA hc=>?_⟩;grind
 | own b g=>
  intro v h;obtain⟨h1,h2⟩:=h;obtain⟨aP,aQ⟩:=an b;refine⟨⟨Nat.le_trans h1.1 aP,h1.2⟩,λaA hc=>?_⟩;grind
 | n5 b g i off=>
  intro v h;obtain⟨h1,h2⟩:=h;obtain⟨aP,aQ⟩:=an b;refine⟨⟨Nat.le_trans h1.1 aP,h1.2⟩,λaA hc=>?_⟩;grind
 | iL b g i=>
  intro v h;obtain⟨h1,h2⟩:=h;obtain⟨aP,aQ⟩:=an b;refine⟨⟨Nat.le_trans h1.1 aP,h1.2⟩,λaA hc=>?_⟩;grind
 | dD t x=>
  intro v h;obtain⟨p,a_,h1,h2,h3⟩:=h;exact⟨p,a_,h1,h2.mono bd he,eX t bd he h3⟩
 | fs b g=>
  intro v h;obtain⟨h1,h2⟩:=h;obtain⟨aP,aQ⟩:=an b;refine⟨⟨Nat.le_trans h1.1 aP,h1.2⟩,λaA hc=>?_⟩;grind
 | jW b g=>
  intro v h;obtain⟨h1,h2⟩:=h;obtain⟨aP,aQ⟩:=an b;refine⟨⟨Nat.le_trans h1.1 aP,h1.2⟩,λaA hc=>?_⟩;grind
 | sub b g lo G=>
  intro v h;obtain⟨h1,h2⟩:=h;obtain⟨aP,aQ⟩:=an b;refine⟨⟨Nat.le_trans h1.1 aP,h1.2⟩,λaA hc=>?_⟩;grind
 | tr l aK L n st=>intro v _;trivial
 | gN l=>intro v h;exact h
 | wJ e xs=>intro v h;exact⟨dU.mono h.1 bd he,h.2⟩
 | il k n cH aJ=>
  intro v h;obtain⟨aC,h1,h2,h3⟩:=h;exact⟨aC,h1,h2,λi G=>aJ i (h3 i G)⟩
 | rI k n f aJ=>
  intro v h;obtain⟨aC,h1,h2,h3⟩:=h;exact⟨aC,h1,h2,λi G=>aJ i (h3 i G)⟩
 | pT n f aJ=>
  intro v h;obtain⟨aC,h1,h2,h3⟩:=h;exact⟨aC,h1,h2,λi G=>aJ i (h3 i G)⟩
 | agg n f aJ=>
  intro v h;obtain⟨aC,h1,h2,h3⟩:=h;exact⟨aC,h1,h2,λi G=>⟨aJ i (h3 i G).1,(h3 i G).2⟩⟩
 | cV=>intro v h;exact h
 | jt u=>intro v h;exact h
def uL(P:Program)(k v:af)(F:Nat->Prop)(w:World)(es:Array MapEntry)(clk:Nat)(xs:List (k.ai×v.ai)):Prop:=
 es.size=xs.length/\(xs.map (·.1)).Nodup/\
 (∀ i (h:i<xs.length) (da:i<es.size),kE k es[i].key/\bu P k F w es[i].key.cells.toList xs[i].1/\kE v es[i].val/\bu P v F w es[i].val.cells.toList xs[i].2/\es[i].born<clk)/\
 (∀ i j (h:i<es.size) (da:j<es.size),es[i].born=es[j].born->i=j)
theorem uL.mono{P:Program}{k v:af}{F F':Nat->Prop}{w w':World}{es:Array MapEntry}{clk:Nat}{xs:List (k.ai×v.ai)}(h:uL P k v F w es clk xs)(bd:∀ r,F r->F' r)(he:cJ F w w') :
  uL P k v F' w' es clk xs:=
 ⟨h.1,h.2.1,λi G ds=>let ⟨a,b,c,d,e⟩:=h.2.2.1 i G ds;⟨a,eX k bd he b,c,eX v bd he d,e⟩,h.2.2.2⟩
def lu(P:Program)(e:af)(F:Nat->Prop)(w:World)(cs:Array Value)(off:Nat)(xs:List e.ai):Prop:=
 ∀ i (h:i<xs.length),∃ a_,(∀ j (h:j<a_.length),cs[off+i*e.size+j]?=some a_[j])/\bu P e F w a_ xs[i]
theorem lu.mono{P:Program}{e:af}{F F':Nat->Prop}{w w':World}{cs:Array Value}{off:Nat}{xs:List e.ai}(h:lu P e F w cs off xs)(bd:∀ r,F r->F' r)(he:cJ F w w') :
  lu P e F' w' cs off xs:=λi G=>let ⟨a_,a,b⟩:=h i G;⟨a_,a,eX e bd he b⟩
def yS(P:Program)(k v:af)(F:Nat->Prop)(w:World)(e:MapEntry)(x:k.ai×v.ai):Prop:=
 kE k e.key/\bu P k F w e.key.cells.toList x.1/\kE v e.val/\bu P v F w e.val.cells.toList x.2
theorem yS.mono{P:Program}{k v:af}{F F':Nat->Prop}{w w':World}{e:MapEntry}{x:k.ai×v.ai}(h:yS P k v F w e x)(bd:∀ r,F r->F' r)(he:cJ F w w'):yS P k v F' w' e x:=
 ⟨h.1,eX k bd he h.2.1,h.2.2.1,eX v bd he h.2.2.2⟩
def wK(P:Program)(k v:af)(F:Nat->Prop)(w:World)(oR:Nat)(cur:Option (k.ai×v.ai))(b5:List (k.ai×v.ai)):Prop:=
 (w.heap[oR]?=some (.mapIter none 0 #[] 0)/\b5=[]/\cur=none)\/
 ∃ lv es clk seen,F lv/\w.heap[lv]?=some (.map es clk)/\w.heap[oR]?=some (.mapIter (some lv) clk seen clk)/\
  (∀ i (h:i<es.size),es[i].born<clk)/\(∀ i j (h:i<es.size) (da:j<es.size),es[i].born=es[j].born->i=j)/\
  (∃ ids:List Nat,ids.length=b5.length/\ids.Nodup/\(∀ i,i∈ids<->∃ h:i<es.size,seen.contains es[i].born=false)/\
   (∀ j (h:j<ids.length) (da:j<b5.length),∃ G:ids[j]<es.size,yS P k v F w es[ids[j]] b5[j]))/\
  (∀ c,cur=some c->∃ i,∃ h:i<es.size,seen.back?=some es[i].born/\yS P k v F w es[i] c)
theorem wK.mono{P:Program}{k v:af}{F F':Nat->Prop}{w w':World}{oR:Nat}{cur:Option (k.ai×v.ai)}{b5:List (k.ai×v.ai)}(h:wK P k v F w oR cur b5)(bd:∀ r,F r->F' r)(he:cJ F w w')
  (G:w'.heap[oR]?=w.heap[oR]?):wK P k v F' w' oR cur b5:=by
 rcases h with⟨h1,h2⟩ | ⟨lv,es,clk,seen,h1,h2,h3,aT,bx,⟨ids,i1,i2,i3,i4⟩,fN⟩
 ·exact .inl ⟨G.trans h1,h2⟩
 ·exact .inr ⟨lv,es,clk,seen,bd _ h1,(he.2 _ h1).trans h2,G.trans h3,aT,bx,⟨ids,i1,i2,i3,λj aD fB=>let ⟨a,b⟩:=i4 j aD fB;⟨a,b.mono bd he⟩⟩,λc hc=>let ⟨i,a,b,d⟩:=fN c hc;⟨i,a,b,d.mono bd he⟩⟩
def ju(P:Program)(H:Nat->bw)(κ:Nat->bo)(F:Nat->Prop)(w:World)(k:bo):bC->Prop
 | .fm=>True
 | .cells t f=>∃ cs T,w.heap[k.ae]?=some (.cells cs T (0,0))/\cs.size=t.size/\∀ i,i<t.size->bl P H κ F w (f i) (cs.getD i Go.undef)/\(cs.getD i Go.undef).oneCell'=true
 | .a8 e xs=>(k.eQ=true->xs=[])/\(k.eQ=false->∃ cs T,w.heap[k.ae]?=some (.cells cs T (0,0))/\k.off+k.cap*e.size<=cs.size/\xs.length<=k.cap/\k.cap<2 ^ 63/\lu P e F w cs k.off xs)
 | .hj e xs=>bu P (.slice e) F w [k.slice xs.length] xs
 | .mp l2 oS es=>∃ ms clk,w.heap[k.ae]?=some (.map ms clk)/\uL P l2 oS F w ms clk es
 | .gm t x=>∃ a_,Holds F w ⟨k.ae,0,none⟩ a_/\bu P t F w a_ x
 | .i_ l2 oS es=>bu P (.map l2 oS) F w [.map (some k.ae)] es
 | .b9 l2 oS cur b5=>wK P l2 oS F w k.ae cur b5
 | .fQ e xs i v=>k.eQ=false/\∃ cs T,w.heap[k.ae]?=some (.cells cs T (0,0))/\k.off+k.cap*e.size<=cs.size/\xs.length<=k.cap/\k.cap<2 ^ 63/\(e.size=1/\i<xs.length)/\
   (∀ j (h:j<xs.length),j≠i->∃ a_,(∀ q (h:q<a_.length),cs[k.off+j*e.size+q]?=some a_[q])/\bu P e F w a_ xs[j])/\bl P H κ F w v (cs.getD (k.off+i) Go.undef)/\(cs.getD (k.off+i) Go.undef).oneCell'=true
def cj(P:Program)(H:Nat->bw)(κ:Nat->bo)(F:Nat->Prop)(w:World)(b:Nat):Prop:=ju P H κ F w (κ b) (H b).body
theorem cj.kX{P:Program}{H H':Nat->bw}{κ κ':Nat->bo}{F F':Nat->Prop}{w w':World}{b:Nat}(h:cj P H κ F w b)(an:fe H κ H' κ')(bd:∀ r,F r->F' r)(he:cJ F w w')
  (ad:(H' b).body=(H b).body) (aj:κ' b=κ b) (hw:(H b).body.bN (κ b)=true->w'.heap[(κ b).ae]?=w.heap[(κ b).ae]?):cj P H' κ' F' w' b:=by
 unfold cj at *
 rw[ad,aj];cases bE:(H b).body with
 | fm=>trivial
 | cells n f=>
  rw[bE]at h hw;obtain⟨cs,T,h1,h2,h3⟩:=h;exact⟨cs,T,(hw rfl).trans h1,h2,λi G=>⟨bl.later an bd he (h3 i G).1,(h3 i G).2⟩⟩
 | a8 e xs=>
  rw[bE]at h hw;refine⟨h.1,λaB=>?_⟩;obtain⟨cs,T,h1,h2,h3,aT,bx⟩:=h.2 aB;exact⟨cs,T,(hw (by simp[bC.bN,aB])).trans h1,h2,h3,aT,bx.mono bd he⟩
 | hj e xs=>
  rw[bE]at h;exact eX _ bd he h
 | mp l2 oS es=>
  rw[bE]at h hw;obtain⟨ms,clk,h1,h2⟩:=h;exact⟨ms,clk,(hw rfl).trans h1,h2.mono bd he⟩
 | gm t x=>
  rw[bE]at h;obtain⟨a_,h1,h2⟩:=h;exact⟨a_,h1.mono bd he,eX t bd he h2⟩
 | i_ l2 oS es=>
  rw[bE]at h;exact eX (.map l2 oS) bd he h
 | b9 l2 oS cur b5=>
  rw[bE]at h hw;exact wK.mono h bd he (hw rfl)
 | fQ e xs i v=>
  rw[bE]at h hw;obtain⟨h0,cs,T,h1,h2,h3,aT,bx,c_,fN,iZ⟩:=h;refine⟨h0,cs,T,(hw (by simp[bC.bN,h0])).trans h1,h2,h3,aT,bx,λj aD qF=>?_,bl.later an bd he fN,iZ⟩;obtain⟨a_,d1,d2⟩:=c_ j aD qF;exact⟨a_,d1,eX e bd he d2⟩
structure cN(w w':World):Prop where
 os:w'.os=w.os
 tape:w'.tape=w.tape
 output:w'.output=w.output
theorem cN.refl(w:World):cN w w:=⟨rfl,rfl,rfl⟩
theorem cN.trans{a b c:World}(h:cN a b)(k:cN b c):cN a c:=⟨k.os.trans h.os,k.tape.trans h.tape,k.output.trans h.output⟩
structure lx where
 l:Nat
 aK:af
 S:List aK.ai->Prop
 I:List aK.ai->Bool->(Nat->Prop)->(Nat->Prop)->World->Prop
structure lx.Ok(P:Program)(p:lx):Prop where
 BD:∀ {pre st} {F F' Y:Nat->Prop} {w w':World},p.I pre st F Y w->(∀ r,F r->F' r)->(∀ r,F r\/Y r->w'.heap[r]?=w.heap[r]?)->w.heap.size<=w'.heap.size->cN w w'->(∀ r,F' r->r<w'.heap.size)->(∀ r,F' r->¬Y r)->p.I pre st F' Y w'
 yield:∀ {pre} {F Y:Nat->Prop} {w:World} {args:List Value} {x:p.aK.ai},p.I pre false F Y w->(∀ r,F r->r<w.heap.size)->(∀ r,Y r->r<w.heap.size/\¬F r)->(∃ T,p.S (pre++x::T))->fb P p.aK F w args x->
  YieldAt Fence.wide 0 P p.l args.toArray w λe w'=>∃ (b:Bool) (F' f':Nat->Prop),e=.returned (.bool b)/\(∀ r,F r->F' r)/\(∀ r,F' r->F r\/Y r\/w.heap.size<=r)/\(∀ r,F' r->r<w'.heap.size)/\
   (∀ r,r<w.heap.size->¬Y r->w'.heap[r]?=w.heap[r]?)/\(∀ r,f' r->(Y r\/w.heap.size<=r)/\r<w'.heap.size/\¬F' r)/\w.heap.size<=w'.heap.size/\cN w w'/\p.I (pre++[x]) (!b) F' f' w'
def lx.at(p:lx)(aK:af)(pre:List aK.ai)(st:Bool)(F Y:Nat->Prop)(w:World):Prop:=∃ h:aK=p.aK,p.I (h ▸ pre) st F Y w
theorem lx.yT{l:Nat}{aK:af}{S:List aK.ai->Prop}{I}{pre:List aK.ai}{st:Bool}{F Y:Nat->Prop}{w:World}:(lx.mk l aK S I).at aK pre st F Y w<->I pre st F Y w:=⟨λ⟨_,h⟩=>h,λh=>⟨rfl,h⟩⟩
theorem lx.Ok.JM{P:Program}{p:lx}(h:p.Ok P){aK:af}{pre:List aK.ai}{st}{F F' Y:Nat->Prop}{w w':World}:p.at aK pre st F Y w->(∀ r,F r->F' r)->(∀ r,F r\/Y r->w'.heap[r]?=w.heap[r]?)->w.heap.size<=w'.heap.size->cN w w'->(∀ r,F' r->r<w'.heap.size)->(∀ r,F' r->¬Y r)->p.at aK pre st F' Y w':=
 λ⟨e,h1⟩ h2 h3 aT bx c_ fN=>⟨e,h.BD h1 h2 h3 aT bx c_ fN⟩
def TRS:Nat:=1000000
def eC:Nat:=100000
def wL:Nat:=200000
structure bS where
 P:Program
 w0:World
 F0:Nat->Prop
 K0:Nat->Prop
 nt:Nat
 r:Option Nat
 dfr:List Deferred
 h6:Nat->Option Nat
 pr:lx
 aM:dm
 JN:Nat->Option (bo×Nat):=λ_=>none
def acp(C:bS)(s:az)(w:World)(κ:Nat->bo)(F:Nat->Prop):Prop:=
 ∀ l aK L n st,s.ax TRS=.tr l aK L n st->(∃ I,C.pr=⟨l,aK,L,I⟩)/\C.pr.Ok C.P/\
  ∃ Y:Nat->Prop,(∀ r,Y r->r<w.heap.size/\¬F r/\¬C.K0 r)/\(∀ b,(s.ae b).body.bN (κ b)=true->¬Y (κ b).ae)/\C.pr.at aK n st F Y w
structure bc(C:bS)(s:az)(a:Act)(w:World)(κ:Nat->bo)(F:Nat->Prop):Prop where
 dn:a.tmps.size=C.nt
 dfr:a.defers=C.dfr
 bG:∀ i,bl C.P s.ae κ F w (s.ax i) (a.tmps.getD i Go.undef)
 bq:∀ b,cj C.P s.ae κ F w b
 own:∀ b,(s.ae b).body.bN (κ b)=true->(κ b).ae<w.heap.size/\¬F (κ b).ae/\¬C.K0 (κ b).ae
 inj:∀ b a1,(s.ae b).body.bN (κ b)=true->(s.ae a1).body.bN (κ a1)=true->(κ b).ae=(κ a1).ae->b=a1
 cM:∀ r,F r->r<w.heap.size
 gO:∀ r,F r->C.F0 r\/¬C.K0 r
 hE:∀ r,C.F0 r->F r
 g_:∀ r,C.K0 r->r<C.w0.heap.size
 eg:∀ r,C.K0 r->w.heap[r]?=C.w0.heap[r]?
 size:C.w0.heap.size<=w.heap.size
 dV:cN C.w0 w
 fR:C.nt<=eC
 kg:∀ b r,C.h6 b=some r->eC<=b
 jv:∀ b r,C.h6 b=some r->(s.ae b).body.ft=true\/(s.ae b).body.gC=true->(κ b).ae=r
 jX:∀ b k,C.JN b=some k->wL<=b
 kh:∀ b k,C.JN b=some k->(s.ae b).gen=0->(s.ae b).body.eZ=true->κ b=k.1/\(s.ae b).body.len=k.2
 pro:acp C s w κ F
 jw:qE C.P C.aM
 im:nv C.P F w
def b'(C:bS)(s:az)(a:Act)(w:World):Prop:=∃ κ F,bc C s a w κ F
def az.set(s:az)(d:Option Nat)(v:aF):az:=
 match d with
 | none=>s
 | some d=>{ s with ax:=λi=>if i=d then v else s.ax i }
def az.cb(s:az)(b:Nat)(x:bw):az:={ s with ae:=λi=>if i=b then x else s.ae i }
theorem acq{a:Act}{d:Nat}{v:Value}(aw:d<a.tmps.size)(i:Nat):(a.put (some d) v).tmps.getD i Go.undef=if i=d then v else a.tmps.getD i Go.undef:=by
 simp only[Act.put,Array.getD_eq_getD_getElem?,Array.getElem?_setIfInBounds];grind
theorem bc.set{C:bS}{s:az}{a:Act}{w:World}{κ:Nat->bo}{F:Nat->Prop}(h:bc C s a w κ F){d:Option Nat}(aw:∀ i,d=some i->i<C.nt){av:aF}{v:Value}
  (hv:bl C.P s.ae κ F w av v):bc C (s.set d av) (a.put d v) w κ F:=by
 cases d with
 | none=>exact h
 | some d=>
  have wM:=aw d rfl;have aB:=h.fR;refine { h with dn:=by simpa [Act.put]using h.dn,dfr:=h.dfr,bG:=λi=>?_,pro:=λl aK L n st e=>?_ }
  ·rw[acq (by rw[h.dn];omega)];simp only[az.set];by_cases G:i=d
   ·grind
   ·rw[if_neg G,if_neg G];exact h.bG i
  ·simp only[az.set]at e;rw[if_neg (by unfold TRS eC at *;omega)]at e;exact h.pro l aK L n st e
theorem bc.move{C:bS}{s:az}{a:Act}{w:World}{κ:Nat->bo}{F:Nat->Prop}(h:bc C s a w κ F){H':Nat->bw}{κ':Nat->bo}{F':Nat->Prop}{w':World}
  (an:fe s.ae κ H' κ') (bd:∀ r,F r->F' r) (s6:∀ r,F' r->F r\/(∃ b,(s.ae b).body.bN (κ b)=true/\(κ b).ae=r)\/w.heap.size<=r)
  (bV:w.heap.size<=w'.heap.size) (hw:∀ r,r<w.heap.size->(∀ b,(s.ae b).body.bN (κ b)=true->(κ b).ae≠r)->w'.heap[r]?=w.heap[r]?) (hc:cN w w')
  (ad:cJ F w w'->∀ b,cj C.P H' κ' F' w' b)
  (ah:∀ b,(H' b).body.bN (κ' b)=true->(κ' b).ae<w'.heap.size/\¬F' (κ' b).ae/\((∃ b0,(s.ae b0).body.bN (κ b0)=true/\(κ b0).ae=(κ' b).ae)\/w.heap.size<=(κ' b).ae))
  (G:∀ b a1,(H' b).body.bN (κ' b)=true->(H' a1).body.bN (κ' a1)=true->(κ' b).ae=(κ' a1).ae->b=a1)
  (hs:∀ r,F' r->r<w'.heap.size)
  (acr:∀ b,eC<=b->(H' b).body.ft=true\/(H' b).body.gC=true->κ' b=κ b/\((s.ae b).body.ft=true\/(s.ae b).body.gC=true)):bc C ⟨s.ax,H'⟩ a w' κ' F':=by
 have acs:∀ r,C.K0 r->(∀ b,(s.ae b).body.bN (κ b)=true->(κ b).ae≠r):=λr aa b ad e=>(h.own b ad).2.2 (e ▸ aa);have aj:∀ r,C.K0 r->w'.heap[r]?=w.heap[r]?:=λr aa=>hw r (Nat.lt_of_lt_of_le (h.g_ r aa) h.size) (acs r aa);have yU:∀ r,w.heap.size<=r->¬C.K0 r:=λr aa aj=>by have:=h.g_ r aj;have:=h.size;omega
 have he:cJ F w w':=⟨bV,λr aa=>hw r (h.cM r aa) λb ad e=>(h.own b ad).2.1 (e ▸ aa)⟩
 refine { dn:=h.dn,dfr:=h.dfr,bG:=λi=>bl.later an bd he (h.bG i),bq:=ad he,own:=λb ad=>?_,inj:=G,cM:=hs,gO:=λr aa=>?_,hE:=λr aa=>bd r (h.hE r aa),g_:=h.g_,eg:=λr aa=>(aj r aa).trans (h.eg r aa),size:=Nat.le_trans h.size bV,dV:=h.dV.trans hc,fR:=h.fR,kg:=h.kg,jv:=λb r aa hc=>?_,jX:=h.jX,kh:=λb k aj h0 aU=>?_,pro:=λl aK L n st e=>?_,jw:=h.jw,im:=h.im.mono bd he }
 ·grind
 ·rcases s6 r aa with h1 | ⟨b,h1,rfl⟩ | h1
  ·exact h.gO r h1
  ·exact .inr (h.own b h1).2.2
  ·exact .inr (yU r h1)
 ·obtain⟨aP,aQ⟩:=acr b (h.kg b r aa) hc;rw[aP];exact h.jv b r aa aQ
 ·obtain⟨g1,dW⟩:=an b;have h0:(H' b).gen=0:=h0;have aU:(H' b).body.eZ=true:=aU;obtain⟨bR,a2,a3,_⟩:=(dW (by omega)).2.1 aU;obtain⟨aP,aQ⟩:=h.kh b k aj (by omega) bR;grind
 ·obtain⟨h1,h2,Y,h3,aT,bx⟩:=h.pro l aK L n st e;have awQ:∀ r,Y r->w'.heap[r]?=w.heap[r]?:=λr aa=>hw r (h3 r aa).1 λb ad e=>aT b ad (e ▸ aa);have BI:∀ r,Y r->¬F' r:=λr aa au=>by
   grind
  refine⟨h1,h2,Y,λr aa=>⟨Nat.lt_of_lt_of_le (h3 r aa).1 bV,BI r aa,(h3 r aa).2.2⟩,λb ad aO=>?_,h2.JM bx bd (λr aa=>?_) bV hc hs λr au aO=>BI r aO au⟩
  ·grind
  ·rcases aa with aa | aa
   ·exact he.2 r aa
   grind
theorem oT(w:World)(o:Obj){r:Nat}(h:r<w.heap.size):(w.alloc o).heap[r]?=w.heap[r]?:=Below.heap_alloc w o r h
theorem pV(w:World)(o:Obj):(w.alloc o).heap[w.heap.size]?=some o:=by
 show (w.heap.push o)[w.heap.size]?=_;simp
theorem cJ.alloc{F:Nat->Prop}{w:World}(hs:∀ r,F r->r<w.heap.size)(o:Obj):cJ F w (w.alloc o):=
 ⟨by simp,λr aa=>oT w o (hs r aa)⟩
theorem yV{H:Nat->bw}{κ κ':Nat->bo}{b:Nat}{x:bw}(aA:(H b).gen<x.gen)(BJ:∀ a1,a1≠b->κ' a1=κ a1) :
  fe H κ (λi=>if i=b then x else H i) κ':=by
 rw[BH];intro i;by_cases G:i=b
 ·subst G;simp only[if_true];exact⟨by omega,λh=>by omega⟩
 ·simp only[if_neg G];rw[BJ i G];exact pU.refl _ _
theorem yW{H:Nat->bw}{κ κ':Nat->bo}{b:Nat}{x:bw}(ad:b<eC\/(x.body.ft=false/\x.body.gC=false))(BJ:∀ a1,a1≠b->κ' a1=κ a1) :
  ∀ i,eC<=i->(if i=b then x else H i).body.ft=true\/(if i=b then x else H i).body.gC=true->κ' i=κ i/\((H i).body.ft=true\/(H i).body.gC=true):=by
 grind
theorem bc.alloc{C:bS}{s:az}{a:Act}{w:World}{κ:Nat->bo}{F:Nat->Prop}(h:bc C s a w κ F){b:Nat}{x:bw}(BK:b<eC)(aA:(s.ae b).gen<x.gen)
  {o:Obj} {k:bo} (aj:k.ae=w.heap.size)
  (hx:∀ (H:Nat->bw) (κ':Nat->bo),H=(λi=>if i=b then x else s.ae i)->κ'=(λi=>if i=b then k else κ i)->fe s.ae κ H κ'->ju C.P H κ' F (w.alloc o) k x.body) :
  bc C (s.cb b x) a (w.alloc o) (λi=>if i=b then k else κ i) F:=by
 have an:fe s.ae κ (λi=>if i=b then x else s.ae i) (λi=>if i=b then k else κ i):=yV aA λa1 cQ=>by grind
 refine h.move (H':=λi=>if i=b then x else s.ae i) an (λ_ aa=>aa) (λ_ aa=>.inl aa) (by simp) (λr aa _=>oT w o aa) ⟨rfl,rfl,rfl⟩ (λhe=>?_) ?_ ?_ ?_ (yW (.inl BK) λa1 cQ=>by grind)
 ·intro i;by_cases G:i=b
  ·subst G;simp only[cj,if_true];grind
  ·refine cj.kX (h.bq i) an (λ_ aa=>aa) he (by grind) (by grind) λah=>?_;exact oT w o (h.own i ah).1
 ·intro i G;by_cases ev:i=b
  ·subst ev;simp only[if_true]at G ⊢;refine⟨by simp_all,λau=>?_,.inr (by omega)⟩;have:=h.cM _ au;omega
  ·simp only[if_neg ev]at G ⊢;have:=h.own i G;exact⟨by simp;omega,this.2.1,.inl ⟨i,G,rfl⟩⟩
 ·intro i j G aD e;by_cases ev:i=b<;>by_cases l3:j=b
  ·omega
  ·simp only[if_pos ev,if_neg l3]at G aD e;have:=(h.own j aD).1;omega
  ·simp only[if_neg ev,if_pos l3]at G aD e;have:=(h.own i G).1;omega
  ·simp only[if_neg ev,if_neg l3]at G aD e;exact h.inj i j G aD e
 ·intro r aa;have:=h.cM r aa;simp;omega
theorem qG{H:Nat->bw}{κ:Nat->bo}{b:Nat}{x:bw}(aA:x.gen=(H b).gen)(h1:x.body.ft=true->(H b).body.ft=true)
  (h2:x.body.eZ=true->(H b).body.eZ=true/\x.body.len=(H b).body.len/\x.body.eK=(H b).body.eK) (h3:x.body.gC=true->(H b).body.gC=true)
  (aT:x.body.my=true->(H b).body.my=true) :
  fe H κ (λi=>if i=b then x else H i) κ:=by
 rw[BH];intro i;by_cases G:i=b
 ·subst G;simp only[if_true];exact⟨by omega,λ_=>⟨λh=>⟨h1 h,rfl⟩,λh=>⟨(h2 h).1,rfl,(h2 h).2⟩,λh=>⟨h3 h,rfl⟩,λh=>⟨aT h,rfl⟩⟩⟩
 ·simp only[if_neg G];exact pU.refl _ _
theorem acu{H:Nat->bw}{κ:Nat->bo}{b:Nat}{x:bw}(h1:x.body.ft=true->(H b).body.ft=true)(h3:x.body.gC=true->(H b).body.gC=true) :
  ∀ i,eC<=i->(if i=b then x else H i).body.ft=true\/(if i=b then x else H i).body.gC=true->κ i=κ i/\((H i).body.ft=true\/(H i).body.gC=true):=by
 grind
theorem bc.oV{C:bS}{s:az}{a:Act}{w w':World}{κ:Nat->bo}{F:Nat->Prop}(h:bc C s a w κ F){b:Nat}{x:bw}
  (fS:(s.ae b).body.bN (κ b)=true) (yX:x.body.bN (κ b)=true) (an:fe s.ae κ (λi=>if i=b then x else s.ae i) κ)
  (h1:x.body.ft=true->(s.ae b).body.ft=true) (h3:x.body.gC=true->(s.ae b).body.gC=true)
  (hw:∀ r,r≠(κ b).ae->w'.heap[r]?=w.heap[r]?) (bV:w'.heap.size=w.heap.size) (hc:cN w w')
  (hx:∀ (H:Nat->bw),H=(λi=>if i=b then x else s.ae i)->fe s.ae κ H κ->cJ F w w'->ju C.P H κ F w' (κ b) x.body) :
  bc C (s.cb b x) a w' κ F:=by
 have ah:=h.own b fS;refine h.move (H':=λi=>if i=b then x else s.ae i) an (λ_ aa=>aa) (λ_ aa=>.inl aa) (by omega) (λr _ aa=>hw r λe=>aa b fS e.symm) hc (λhe=>?_) ?_ ?_ (λr aa=>by rw[bV];exact h.cM r aa) (acu h1 h3)
 ·intro i;by_cases G:i=b
  ·subst G;simp only[cj,if_true];grind
  ·refine cj.kX (h.bq i) an (λ_ aa=>aa) he (by grind) rfl λacv=>hw _ λe=>G (h.inj i b acv fS e)
 ·intro i G;by_cases ev:i=b
  ·grind
  ·simp only[if_neg ev]at G;have:=h.own i G;grind
 ·intro i j G aD e;have ds:(s.ae i).body.bN (κ i)=true:=by
   grind
  have fB:(s.ae j).body.bN (κ j)=true:=by
   grind
  exact h.inj i j ds fB e
theorem bc.drew{C:bS}{s:az}{a:Act}{w:World}{κ:Nat->bo}{F:Nat->Prop}(h:bc C s a w κ F):bc C s a w.drew κ F:=
 h.move (H':=s.ae) (fe.refl _ _) (λ_ aa=>aa) (λ_ aa=>.inl aa) (Nat.le_refl _) (λ_ _ _=>rfl) ⟨rfl,rfl,rfl⟩
  (λ_ b=>cj.kX (h.bq b) (fe.refl _ _) (λ_ aa=>aa) ⟨Nat.le_refl _,λ_ _=>rfl⟩ rfl rfl λ_=>rfl) (λb ad=>⟨(h.own b ad).1,(h.own b ad).2.1,.inl ⟨b,ad,rfl⟩⟩) h.inj h.cM (λ_ _ h=>⟨rfl,h⟩)
def az.le(s' s:az):Prop:=(∀ i,s'.ax i=s.ax i\/s'.ax i=.undef)/\∀ b,s'.ae b=s.ae b\/s'.ae b=⟨(s.ae b).gen,.fm⟩
theorem bc.yY{C:bS}{s s':az}{a:Act}{w:World}{κ:Nat->bo}{F:Nat->Prop}(h:bc C s a w κ F)(hs:s'.le s):bc C s' a w κ F:=by
 have fS:∀ b,(s'.ae b).body.bN (κ b)=true->(s.ae b).body.bN (κ b)=true:=λb ad=>by
  rcases hs.2 b with e | e
  ·grind
  ·rw[e]at ad;cases ad
 have an:fe s.ae κ s'.ae κ:=λb=>by
  rcases hs.2 b with e | e
  ·grind
  ·rw[e];exact⟨Nat.le_refl _,λ_=>⟨λh=>(by cases h),λh=>(by cases h),λh=>(by cases h),λh=>(by cases h)⟩⟩
 have h2:=h.move an (λ_ aa=>aa) (λ_ aa=>.inl aa) (Nat.le_refl _) (λ_ _ _=>rfl) (cN.refl _)
  (λ_ b=>by
   rcases hs.2 b with e | e
   ·exact cj.kX (h.bq b) an (λ_ aa=>aa) (cJ.refl _ _) (by rw[e]) rfl λ_=>rfl
   ·unfold cj;rw[e];trivial)
  (λb ad=>⟨(h.own b (fS b ad)).1,(h.own b (fS b ad)).2.1,.inl ⟨b,fS b ad,rfl⟩⟩) (λb a1 ad cQ=>h.inj b a1 (fS b ad) (fS a1 cQ)) h.cM (λb _ ad=>⟨rfl,by
   rcases hs.2 b with e | e
   ·grind
   ·rw[e]at ad;simp[bC.ft,bC.gC]at ad⟩)
 refine { h2 with bG:=λi=>?_,dn:=h2.dn,dfr:=h2.dfr,pro:=λl aK L n st e=>?_ }
 ·rcases hs.1 i with e | e
  ·rw[e];exact h2.bG i
  ·rw[e];trivial
 ·rcases hs.1 TRS with k | k
  ·exact h2.pro l aK L n st (k ▸ e)
  grind
end Go.Fer
namespace Go.Fer
inductive ar(aq:Type) where
 | ret (a:aq)
 | eD (b:Nat) (k:bw->ar aq)
def ar.run{aq:Type}(H:Nat->bw):ar aq->aq
 | .ret a=>a
 | .eD b k=>(k (H b)).run H
def ar.looks{aq:Type}(H:Nat->bw):ar aq->List Nat
 | .ret _=>[]
 | .eD b k=>b::(k (H b)).looks H
def ar.bind{aq β:Type}:ar aq->(aq->ar β)->ar β
 | .ret a,f=>f a
 | .eD b k,f=>.eD b λx=>(k x).bind f
def ar.map{aq β:Type}(f:aq->β)(m:ar aq):ar β:=m.bind λa=>.ret (f a)
def ar.none{aq:Type}:ar (Option aq):=.ret Option.none
def ar.cx{aq β:Type}(m:ar (Option aq))(f:aq->ar (Option β)):ar (Option β):=m.bind fun | some a=>f a | Option.none=>.none
@[simp] theorem ar.bz {aq:Type} (H:Nat->bw) (a:aq):(ar.ret a).run H=a:=rfl
@[simp] theorem ar.eL {aq:Type} (H:Nat->bw) (b:Nat) (k:bw->ar aq):(ar.eD b k).run H=(k (H b)).run H:=rfl
theorem ar.run_bind{aq β:Type}(H:Nat->bw)(m:ar aq)(f:aq->ar β):(m.bind f).run H=(f (m.run H)).run H:=by
 induction m with
 | ret a=>rfl
 | eD b k aJ=>simp[ar.bind,aJ]
theorem ar.eM{aq β:Type}(H:Nat->bw)(m:ar (Option aq))(f:aq->ar (Option β)):(m.cx f).run H=(m.run H).bind λa=>(f a).run H:=by
 unfold ar.cx;rw[ar.run_bind];cases m.run H<;>rfl
theorem ar.Q5{aq:Type}{H H':Nat->bw}:∀ (m:ar aq),(∀ b∈m.looks H,H' b=H b)->m.run H'=m.run H/\m.looks H'=m.looks H
 | .ret a,_=>⟨rfl,rfl⟩
 | .eD b k,h=>by
  have ad:=h b (by simp[ar.looks]);have:=ar.Q5 (k (H b)) λc hc=>h c (by simp[ar.looks,hc]);simp only[ar.run,ar.looks,ad,this];simp
def eE(t cE:af)(x:t.ai):Option cE.ai:=if h:t=cE then some (h ▸ x) else none
theorem kF{t cE:af}{x:t.ai}{y:cE.ai}(h:eE t cE x=some y):∃ e:t=cE,y=e ▸ x:=by
 unfold eE at h;grind
def BL:(t:af)->Value->Option t.ai
 | .br _,.pointer Option.none=>some Option.none
 | .map _ _,.map Option.none=>some []
 | .dT,.nilFunc=>some Option.none
 | _,_=>Option.none
def af.isAgg:af->Bool
 | .st _ | .array _ _=>true
 | _=>false
def dE(t:af):aF->ar (Option (t.ai×List Nat))
 | .val cE x=>.ret ((eE cE t x).map (·,[]))
 | .cV=>match t with
  | .slice _=>.ret (some ([],[]))
  | _=>.none
 | .own b g=>match t with
  | .slice e=>.eD b λx=>.ret (if x.gen=g then (match x.body with
    | .a8 aV xs=>(eE (.slice aV) (.slice e) xs).map (·,[b])
    | .hj aV xs=>(eE (.slice aV) (.slice e) xs).map (·,[])
    | _=>Option.none) else Option.none)
  | _=>.none
 | .sub b g lo G=>match t with
  | .slice e=>.eD b λx=>.ret (if x.gen=g then (match x.body with
    | .a8 aV xs=>(eE (.slice aV) (.slice e) ((xs.take G).drop lo)).map (·,[b])
    | .hj aV xs=>(eE (.slice aV) (.slice e) ((xs.take G).drop lo)).map (·,[])
    | _=>Option.none) else Option.none)
  | _=>.none
 | .fs b g=>match t with
  | .map k v=>.eD b λx=>.ret (if x.gen=g then (match x.body with
    | .mp k' hS es=>(eE (.map k' hS) (.map k v) es).map (·,[b])
    | .i_ k' hS es=>(eE (.map k' hS) (.map k v) es).map (·,[])
    | _=>Option.none) else Option.none)
  | _=>.none
 | .dD cE x=>match t with
  | .br e=>.ret ((eE (.br cE) (.br e) (some x)).map (·,[]))
  | _=>.none
 | .jt v=>.ret ((BL t v).map (·,[]))
 | .il k n _=>match t with
  | .dT=>if n=0 then .ret (some (some k,[])) else .none
  | _=>.none
 | _=>.none
def s_(e:af)(bW:List aF->ar (Option (e.ai×List Nat×List aF)))(av:aF):ar (Option (Option e.ai×List Nat)):=
 match av with
 | .loc b g off=>.eD b λx=>if x.gen=g/\off=0 then (match x.body with
   | .gm cE y=>.ret ((eE cE e y).map λz=>(some z,[]))
   | .cells cE f=>if cE=e then (bW ((List.range e.size).map f)).cx λ(y,l,r)=>.ret (if r.isEmpty then some (some y,b::l) else Option.none) else .none
   | _=>.none) else .none
 | av=>dE (.br e) av
def h7:(t:af)->List aF->ar (Option (t.ai×List Nat×List aF))
 | .cA,cs=>.ret (some ((),[],cs))
 | .st t,cs=>h7 t cs
 | .ay a b,cs=>(h7 a cs).cx λ(x,l,r)=>(h7 b r).cx λ(y,m,q)=>.ret (some ((x,y),l++m,q))
 | .array n e,cs=>n.rec (motive:=λ_=>List aF->ar (Option (List e.ai×List Nat×List aF))) (λcs=>.ret (some ([],[],cs)))
   (λ_ aJ cs=>(h7 e cs).cx λ(x,l,r)=>(aJ r).cx λ(xs,m,q)=>.ret (some (x::xs,l++m,q))) cs
 | .bool,cs=>match cs with | c::r=>(dE .bool c).map λo=>o.map λ(x,l)=>(x,l,r) | []=>.none
 | .int k,cs=>match cs with | c::r=>(dE (.int k) c).map λo=>o.map λ(x,l)=>(x,l,r) | []=>.none
 | .str,cs=>match cs with | c::r=>(dE .str c).map λo=>o.map λ(x,l)=>(x,l,r) | []=>.none
 | .slice e,cs=>match cs with | c::r=>(dE (.slice e) c).map λo=>o.map λ(x,l)=>(x,l,r) | []=>.none
 | .br e,cs=>match cs with | c::r=>(s_ e (h7 e) c).map λo=>o.map λ(x,l)=>(x,l,r) | []=>.none
 | .map k v,cs=>match cs with | c::r=>(dE (.map k v) c).map λo=>o.map λ(x,l)=>(x,l,r) | []=>.none
 | .fn a b,cs=>match cs with | c::r=>(dE (.fn a b) c).map λo=>o.map λ(x,l)=>(x,l,r) | []=>.none
 | .b9 a,cs=>match cs with | c::r=>(dE (.b9 a) c).map λo=>o.map λ(x,l)=>(x,l,r) | []=>.none
 | .dT,cs=>match cs with | c::r=>(dE .dT c).map λo=>o.map λ(x,l)=>(x,l,r) | []=>.none
def ki(t:af)(av:aF):ar (Option (t.ai×List Nat)):=
 match t with
 | .br e=>s_ e (h7 e) av
 | t=>if t.ef then dE t av else .none
def di(t:af)(av:aF):ar (Option (t.ai×List Nat)):=
 match av with
 | .val cE x=>.ret ((eE cE t x).map (·,[]))
 | .agg n f=>if t.ef then .none else (h7 t ((List.range n).map f)).cx λ(x,l,r)=>.ret (if r.isEmpty&&t.isAgg then some (x,l) else Option.none)
 | _=>ki t av
def nw:(t:af)->t.ai->List aF
 | .cA,_=>[]
 | .st t,x=>nw t x
 | .ay a b,x=>nw a x.1++nw b x.2
 | .array n e,xs=>(List.range n).flatMap λi=>nw e (List.getD xs i e.cP)
 | .bool,x=>[.val .bool x]
 | .int k,x=>[.val (.int k) x]
 | .str,x=>[.val .str x]
 | .slice e,x=>[.val (.slice e) x]
 | .br e,x=>[.val (.br e) x]
 | .map k v,x=>[.val (.map k v) x]
 | .fn a b,x=>[.val (.fn a b) x]
 | .b9 a,x=>[.val (.b9 a) x]
 | .dT,x=>[.val .dT x]
def rJ:af->List aF
 | .cA=>[]
 | .st t=>rJ t
 | .ay a b=>rJ a++rJ b
 | .array n e=>(List.range n).flatMap λ_=>rJ e
 | .bool=>[.val .bool false]
 | .int k=>[.val (.int k) (0:Int)]
 | .str=>[.val .str []]
 | .slice _=>[.cV]
 | .br e=>[.val (.br e) Option.none]
 | .map k v=>[.val (.map k v) []]
 | .fn _ _=>[.jt .nilFunc]
 | .b9 _=>[.jt .nilFunc]
 | .dT=>[.val .dT Option.none]
def gP(l:List aF)(i:Nat):aF:=l.getD i .undef
def l4:af->Nat->Option (af×Nat)
 | .ay a _,0=>some (a,0)
 | .ay a b,f+1=>(l4 b f).map λ(t,o)=>(t,a.size+o)
 | .cA,_=>Option.none
 | t,0=>some (t,0)
 | _,_+1=>Option.none
def uM:(t:af)->t.ai->Nat->Option ((s:af)×s.ai)
 | .ay a _,x,0=>some ⟨a,x.1⟩
 | .ay _ b,x,f+1=>uM b x.2 f
 | .cA,_,_=>Option.none
 | t,x,0=>some ⟨t,x⟩
 | _,_,_+1=>Option.none
def rK:(t:af)->t.ai->Nat->(s:af)->Option s.ai
 | .st t,x,off,s=>if off=0/\af.st t=s then eE (.st t) s x else rK t x off s
 | .ay a b,x,off,s=>if off<a.size then rK a x.1 off s else rK b x.2 (off - a.size) s
 | .cA,_,_,_=>Option.none
 | .array _ _,_,_,_=>Option.none
 | .bool,x,off,s=>if off=0 then eE .bool s x else Option.none
 | .int k,x,off,s=>if off=0 then eE (.int k) s x else Option.none
 | .str,x,off,s=>if off=0 then eE .str s x else Option.none
 | .slice e,x,off,s=>if off=0 then eE (.slice e) s x else Option.none
 | .br e,x,off,s=>if off=0 then eE (.br e) s x else Option.none
 | .map k v,x,off,s=>if off=0 then eE (.map k v) s x else Option.none
 | .fn a b,x,off,s=>if off=0 then eE (.fn a b) s x else Option.none
 | .b9 a,x,off,s=>if off=0 then eE (.b9 a) s x else Option.none
 | .dT,x,off,s=>if off=0 then eE .dT s x else Option.none
def wN:(t:af)->t.ai->Nat->(s:af)->s.ai->Option t.ai
 | .st t,x,off,s,y=>if off=0/\s=af.st t then eE s (.st t) y else wN t x off s y
 | .ay a b,x,off,s,y=>if off<a.size then (wN a x.1 off s y).map (·,x.2) else (wN b x.2 (off - a.size) s y).map (x.1,·)
 | .cA,_,_,_,_=>Option.none
 | .array _ _,_,_,_,_=>Option.none
 | .bool,_,off,s,y=>if off=0 then eE s .bool y else Option.none
 | .int k,_,off,s,y=>if off=0 then eE s (.int k) y else Option.none
 | .str,_,off,s,y=>if off=0 then eE s .str y else Option.none
 | .slice e,_,off,s,y=>if off=0 then eE s (.slice e) y else Option.none
 | .br e,_,off,s,y=>if off=0 then eE s (.br e) y else Option.none
 | .map k v,_,off,s,y=>if off=0 then eE s (.map k v) y else Option.none
 | .fn a b,_,off,s,y=>if off=0 then eE s (.fn a b) y else Option.none
 | .b9 a,_,off,s,y=>if off=0 then eE s (.b9 a) y else Option.none
 | .dT,_,off,s,y=>if off=0 then eE s .dT y else Option.none
def ly(k:IntKind)(a b:Int):Int:=k.wrap (BitVec.ofInt k.bits a&&& BitVec.ofInt k.bits b).toNat
def Q6(k:IntKind)(a b:Int):Int:=k.wrap (BitVec.ofInt k.bits a||| BitVec.ofInt k.bits b).toNat
def Q7(k:IntKind)(a b:Int):Int:=k.wrap (BitVec.ofInt k.bits a ^^^ BitVec.ofInt k.bits b).toNat
def Q8(k:IntKind)(a b:Int):Int:=k.wrap (BitVec.ofInt k.bits a&&& ~~~BitVec.ofInt k.bits b).toNat
def acw(k:IntKind)(a b:Int):Int:=k.wrap (a*2 ^ (min b.toNat k.bits))
def i'(k:IntKind)(a b:Int):Int:=a.fdiv (2 ^ (min b.toNat k.bits))
def kG(t:af)(xs:List t.ai)(i:Int):t.ai:=xs.getD i.toNat t.cP
def b2(n:Nat):Prop:=n<=4294967296
def gn:(t:af)->t.ai->t.ai->Bool
 | .bool,x,y=>x == y
 | .int _,x,y=>decide ((x:Int)=y)
 | .str,x,y=>decide ((x:List UInt8)=y)
 | .st t,x,y=>gn t x y
 | .ay a b,x,y=>gn a x.1 y.1&&gn b x.2 y.2
 | _,_,_=>false
def af.kH:af->Bool
 | .bool | .int _ | .str=>true
 | .st t=>t.kH
 | .ay a b=>a.kH&&b.kH
 | _=>false
end Go.Fer
namespace Go.Fer
open Go.RowKit
section
variable {P:Program} {H:Nat->bw} {κ:Nat->bo} {F F':Nat->Prop} {w:World}
def d'(P:Program)(H:Nat->bw)(κ:Nat->bo)(F:Nat->Prop)(w:World):List aF->List Value->Prop
 | [],[]=>True
 | a::as,v::aC=>(bl P H κ F w a v/\v.oneCell'=true)/\d' P H κ F w as aC
 | _,_=>False
theorem d'.append:∀ {as bs:List aF} {us aC:List Value},d' P H κ F w as us->d' P H κ F w bs aC->d' P H κ F w (as++bs) (us++aC)
 | [],_,[],_,_,k=>k
 | _::_,_,_::_,_,h,k=>⟨h.1,d'.append h.2 k⟩
 | [],_,_::_,_,h,_=>h.elim
 | _::_,_,[],_,h,_=>h.elim
theorem d'.len:∀ {as:List aF} {us:List Value},d' P H κ F w as us->as.length=us.length
 | [],[],_=>rfl
 | _::_,_::_,h=>by simp[d'.len h.2]
 | [],_::_,h=>h.elim
 | _::_,[],h=>h.elim
theorem d'.kG:∀ {as:List aF} {us:List Value},d' P H κ F w as us->∀ i,i<as.length->bl P H κ F w (gP as i) (us.getD i Go.undef)/\(us.getD i Go.undef).oneCell'=true
 | a::as,v::aC,h,0,_=>h.1
 | a::as,v::aC,h,i+1,G=>by
  have:=d'.kG h.2 i (by grind);simpa [gP]using this
 | [],[],_,i,G=>by grind
 | [],_::_,h,_,_=>h.elim
 | _::_,[],h,_,_=>h.elim
theorem d'.Q9:∀ {as:List aF} {us:List Value},as.length=us.length->(∀ i,i<as.length->bl P H κ F w (gP as i) (us.getD i Go.undef)/\(us.getD i Go.undef).oneCell'=true)->d' P H κ F w as us
 | [],[],_,_=>trivial
 | a::as,v::aC,an,h=>⟨h 0 (by simp),d'.Q9 (by grind) λi G=>by have:=h (i+1) (by grind);simpa [gP]using this⟩
 | [],_::_,an,_=>by grind
 | _::_,[],an,_=>by grind
theorem yZ:∀ (t:af) {cs:List Value} {x:t.ai},bu P t F w cs x->d' P H κ F w (nw t x) cs:=by
 have ew:∀ (t:af),t.ef=true->∀ {cs:List Value} {x:t.ai},bu P t F w cs x->d' P H κ F w [.val t x] cs:=by
  intro t aI cs x h;obtain⟨u,rfl,hu⟩:=BG aI h;exact⟨⟨(dC aI).2 ⟨hu,h⟩,JL aI h⟩,trivial⟩
 intro t;induction t with
 | bool=>intro cs x h;exact ew _ rfl h
 | int k=>intro cs x h;exact ew (.int k) rfl h
 | str=>intro cs x h;exact ew _ rfl h
 | cA=>intro cs x h;simp only[bu]at h;subst h;trivial
 | st t aJ=>intro cs x h;simp only[bu]at h;exact aJ h
 | ay a b fk eu=>
  intro cs x h;simp only[bu]at h;obtain⟨c,d,rfl,aU,ad⟩:=h;exact (fk aU).append (eu ad)
 | slice e aJ=>intro cs x h;exact ew (.slice e) rfl h
 | array n e aJ=>
  intro cs xs h;simp only[bu]at h;obtain⟨fa,rfl,h1,h2,h3⟩:=h;simp only[nw];have key:∀ (k:Nat) (l:List (List Value)),(∀ i (G:i<l.length),d' P H κ F w (nw e (List.getD xs (k+i) e.cP)) l[i])->d' P H κ F w ((List.range' k l.length).flatMap λi=>nw e (List.getD xs i e.cP)) l.flatten:=by
   intro k l;induction l generalizing k with
   | nil=>intro _;trivial
   | cons c l acx=>
    intro cB;simp only[List.length_cons,List.range'_succ,List.flatMap_cons,List.flatten_cons];refine d'.append ?_ (acx (k+1) λi G=>?_)
    ·have:=cB 0 (by simp);grind
    ·have:=cB (i+1) (by grind);grind
  rw[List.range_eq_range',<-h1];grind
 | br e aJ=>intro cs x h;exact ew (.br e) rfl h
 | map k v wD wF=>intro cs x h;exact ew (.map k v) rfl h
 | fn a b fk eu=>intro cs x h;exact ew (.fn a b) rfl h
 | b9 a aJ=>intro cs x h;exact ew (.b9 a) rfl h
 | dT=>intro cs x h;exact ew .dT rfl h
theorem JO{e:af}{xs:List e.ai}{k:bo}(aN:ju P H κ F w k (.a8 e xs))(bd:∀ r,F r->F' r)(aj:k.eQ=false->F' k.ae):bu P (.slice e) F' w [k.slice xs.length] xs:=by
 obtain⟨h1,h2⟩:=aN;simp only[bu,bo.slice];cases aB:k.eQ with
 | true=>rw[h1 aB];exact⟨none,0,rfl,Nat.le_refl _,by decide,λ_=>rfl,λp hp=>by simp⟩
 | false=>
  obtain⟨cs,T,c1,c2,c3,c4,c5⟩:=h2 aB;refine⟨some ⟨k.ae,k.off,none⟩,k.cap,by simp,c3,c4,(by simp),λp hp _=>?_⟩;cases hp;refine⟨aj aB,rfl,λi G=>?_⟩;obtain⟨a_,d1,d2⟩:=c5 i G;refine⟨a_,⟨aj aB,rfl,λj aD=>?_⟩,eX e bd (cJ.refl F w) d2⟩;simp only[World.cell?,c1];grind
theorem E6{t cE:af}{x:t.ai}{y:cE.ai}{v:Value}(hc:eE t cE x=some y)(h:dU P t F w v x):dU P cE F w v y:=by
 obtain⟨e,rfl⟩:=kF hc;grind
theorem ta{t cE:af}{x:t.ai}{y:cE.ai}{cs:List Value}(hc:eE t cE x=some y)(h:bu P t F w cs x):bu P cE F w cs y:=by
 obtain⟨e,rfl⟩:=kF hc;grind
def iM(H:Nat->bw)(κ:Nat->bo)(F':Nat->Prop)(l:List Nat):Prop:=∀ b∈l,(H b).body.bN (κ b)=true->F' (κ b).ae
theorem iM.left{l m:List Nat}(h:iM H κ F' (l++m)):iM H κ F' l:=λb ad=>h b (List.mem_append_left _ ad)
theorem iM.right{l m:List Nat}(h:iM H κ F' (l++m)):iM H κ F' m:=λb ad=>h b (List.mem_append_right _ ad)
theorem Q_{l2 oS:af}{es:List (l2.ai×oS.ai)}{k:bo}(aN:ju P H κ F w k (.mp l2 oS es))(bd:∀ r,F r->F' r)(aj:F' k.ae):bu P (.map l2 oS) F' w [.map (some k.ae)] es:=by
 obtain⟨ms,clk,h1,h2⟩:=aN;obtain⟨h2,h3,aT,bx⟩:=h2.mono bd (cJ.refl F w);exact .inr ⟨_,ms,clk,rfl,aj,h1,h2,h3,aT,bx⟩
theorem E7{e:af}{xs:List e.ai}{k:bo}{lo G:Nat}{v:Value}(h:bu P (.slice e) F' w [k.slice xs.length] xs)(h1:lo<=G)(h2:G<=xs.length)(hs:E5 k e.size lo G v) :
  bu P (.slice e) F' w [v] ((xs.take G).drop lo):=by
 have hlen:((xs.take G).drop lo).length=G - lo:=by grind
 obtain⟨a,cap,e1,c1,c2,c3,c4⟩:=h;rcases hs with⟨aB,rfl⟩ | ⟨aB,o,rfl,o1,gb⟩
 ·have:xs=[]:=by
   simp only[bo.slice,aB,if_true,List.cons.injEq,Value.slice.injEq,and_true]at e1;grind
  subst this;have e0:(([]:List e.ai).take G).drop lo=[]:=by simp
  rw[e0];exact⟨none,0,rfl,Nat.le_refl _,by decide,λ_=>rfl,λp hp=>by simp⟩
 ·simp only[bo.slice,aB,Bool.false_eq_true,if_false,List.cons.injEq,Value.slice.injEq,and_true]at e1;obtain⟨rfl,_,rfl⟩:=e1;refine⟨some ⟨k.ae,o,none⟩,k.cap - lo,by grind,by omega,by omega,(by simp),λp hp uN=>?_⟩;cases hp;obtain⟨d1,d2,d3⟩:=c4 _ rfl (by omega);refine⟨d1,rfl,λi ds=>?_⟩;obtain⟨a_,m1,m2⟩:=d3 (lo+i) (by omega);grind
theorem JP(aN:∀ b,cj P H κ F w b)(bd:∀ r,F r->F' r){t:af}(aI:t.ef=true){av:aF}{v:Value}{x:t.ai}{l:List Nat}(h:(dE t av).run H=some (x,l))
  (an:iM H κ F' l) (hv:bl P H κ F w av v):dU P t F' w v x:=by
 cases av with
 | undef=>cases h
 | hi b a=>cases h
 | loc b g off=>cases h
 | n5 b g i off=>cases h
 | iL b g i=>cases h
 | il k n c=>
  cases t<;>simp only[dE,ar.none,ar.bz,reduceCtorEq]at h;split at h
  ·rename_i aB;subst aB;cases h;obtain⟨aC,rfl,an,_⟩:=hv;obtain rfl:=List.eq_nil_of_length_eq_zero an;exact (dC rfl).2 ⟨rfl,rfl⟩
  ·cases h
 | rI k n c=>cases h
 | pT n f=>cases h
 | agg n f=>cases h
 | jW b g=>cases h
 | tr l aK L n st=>cases h
 | gN l=>cases h
 | wJ e xs=>cases h
 | sub b g lo G=>
  cases t<;>simp only[dE,ar.none,ar.bz,ar.eL,reduceCtorEq]at h;rename_i e;split at h
  ·rename_i aA;obtain⟨pW,h8⟩:=hv;have jx:=aN b;unfold cj at jx;cases bE:(H b).body with
   | a8 aV xs=>
    rw[bE]at h jx h8;simp only[Option.map_eq_some_iff,Prod.mk.injEq]at h;obtain⟨z,ba,rfl,rfl⟩:=h;obtain⟨⟨aP,aQ⟩,bB⟩:=h8 aA.symm rfl;exact (dC rfl).2 ⟨E1 pW.2,ta ba (E7 (JO jx bd λaB=>an b (by simp) (by rw[bE];simp[bC.bN,aB])) aP aQ bB)⟩
   | hj aV xs=>
    rw[bE]at h jx h8;simp only[Option.map_eq_some_iff,Prod.mk.injEq]at h;obtain⟨z,ba,rfl,rfl⟩:=h;obtain⟨⟨aP,aQ⟩,bB⟩:=h8 aA.symm rfl;exact (dC rfl).2 ⟨E1 pW.2,ta ba (E7 (eX (.slice aV) bd (cJ.refl F w) jx) aP aQ bB)⟩
   | _=>rw[bE]at h;cases h
  grind
 | fs b g=>
  cases t<;>simp only[dE,ar.none,ar.bz,ar.eL,reduceCtorEq]at h;rename_i k e;split at h
  ·rename_i aA;obtain⟨pW,h8⟩:=hv;have jx:=aN b;unfold cj at jx;cases bE:(H b).body with
   | mp k' hS es=>
    rw[bE]at h jx h8;simp only[Option.map_eq_some_iff,Prod.mk.injEq]at h;obtain⟨z,ba,rfl,rfl⟩:=h;have:=h8 aA.symm rfl;subst this;exact (dC rfl).2 ⟨rfl,ta ba (Q_ jx bd (an b (by simp) (by rw[bE];rfl)))⟩
   | i_ k' hS es=>
    rw[bE]at h jx h8;simp only[Option.map_eq_some_iff,Prod.mk.injEq]at h;obtain⟨z,ba,rfl,rfl⟩:=h;have:=h8 aA.symm rfl;subst this;exact (dC rfl).2 ⟨rfl,ta ba (eX (.map k' hS) bd (cJ.refl F w) jx)⟩
   | _=>rw[bE]at h;cases h
  grind
 | val cE y=>
  simp only[dE,ar.bz,Option.map_eq_some_iff,Prod.mk.injEq]at h;obtain⟨z,ba,rfl,rfl⟩:=h;exact (E6 ba hv).mono bd (cJ.refl F w)
 | cV=>
  cases t<;>simp only[dE,ar.none,ar.bz,reduceCtorEq,Option.some.injEq,Prod.mk.injEq]at h;obtain⟨rfl,rfl⟩:=h;simp only[bl]at hv;subst hv;exact (dC rfl).2 ⟨rfl,none,0,rfl,Nat.le_refl _,by decide,λ_=>rfl,λp hp=>by simp⟩
 | own b g=>
  cases t<;>simp only[dE,ar.none,ar.bz,ar.eL,reduceCtorEq]at h;rename_i e;split at h
  ·rename_i aA;obtain⟨pW,h8⟩:=hv;have jx:=aN b;unfold cj at jx;cases bE:(H b).body with
   | a8 aV xs=>
    rw[bE]at h jx h8;simp only[Option.map_eq_some_iff,Prod.mk.injEq]at h;obtain⟨z,ba,rfl,rfl⟩:=h;have:=h8 aA.symm rfl;simp only[bC.len]at this;subst this;refine (dC rfl).2 ⟨by unfold bo.slice;split<;>rfl,ta ba (JO jx bd λaB=>an b (by simp) (by rw[bE];simp[bC.bN,aB]))⟩
   | hj aV xs=>
    rw[bE]at h jx h8;simp only[Option.map_eq_some_iff,Prod.mk.injEq]at h;obtain⟨z,ba,rfl,rfl⟩:=h;have:=h8 aA.symm rfl;simp only[bC.len]at this;subst this;exact (dC rfl).2 ⟨by unfold bo.slice;split<;>rfl,ta ba (eX _ bd (cJ.refl F w) jx)⟩
   | _=>rw[bE]at h;cases h
  grind
 | dD cE y=>
  cases t<;>simp only[dE,ar.none,ar.bz,reduceCtorEq,Option.map_eq_some_iff,Prod.mk.injEq]at h;rename_i e;obtain⟨z,ba,rfl,rfl⟩:=h;obtain⟨p,a_,rfl,h2,h3⟩:=hv;refine (dC rfl).2 ⟨rfl,ta ba ?_⟩;exact .inr ⟨p,y,a_,rfl,rfl,h2.mono bd (cJ.refl F w),eX cE bd (cJ.refl F w) h3⟩
 | jt u=>
  simp only[bl]at hv;subst hv;simp only[dE,ar.bz,Option.map_eq_some_iff,Prod.mk.injEq]at h;obtain⟨z,ba,rfl,rfl⟩:=h;unfold BL at ba;split at ba
  ·cases ba;exact (dC rfl).2 ⟨rfl,.inl ⟨rfl,rfl⟩⟩
  ·cases ba;exact (dC rfl).2 ⟨rfl,.inl ⟨rfl,rfl⟩⟩
  ·cases ba;exact (dC rfl).2 ⟨rfl,rfl⟩
  grind
theorem BM{n:Nat}{f:Nat->aF}{aC:List Value}(an:aC.length=n)(h:∀ i,i<n->bl P H κ F w (f i) (aC.getD i Go.undef)/\(aC.getD i Go.undef).oneCell'=true) :
  d' P H κ F w ((List.range n).map f) aC:=by
 refine d'.Q9 (by grind) λi G=>?_;have ds:i<n:=by grind
 have:gP ((List.range n).map f) i=f i:=by simp[gP,List.getD_eq_getElem?_getD,ds]
 grind
theorem Q'(aN:∀ b,cj P H κ F w b)(bd:∀ r,F r->F' r){e:af}{bW:List aF->ar (Option (e.ai×List Nat×List aF))}
  (fT:∀ {cs:List aF} {aC:List Value} {x:e.ai} {l:List Nat} {r:List aF},(bW cs).run H=some (x,l,r)->iM H κ F' l->d' P H κ F w cs aC->∃ c d,aC=c++d/\bu P e F' w c x/\d' P H κ F w r d)
  {av:aF} {v:Value} {x:Option e.ai} {l:List Nat} (h:(s_ e bW av).run H=some (x,l)) (an:iM H κ F' l) (hv:bl P H κ F w av v):dU P (.br e) F' w v x:=by
 have b5:(dE (.br e) av).run H=some (x,l)->dU P (.br e) F' w v x:=λh=>JP aN bd rfl h an hv;cases av with
 | loc b g off=>
  simp only[s_,ar.eL]at h;split at h
  ·rename_i aA;obtain⟨aA,rfl⟩:=aA;obtain⟨pW,h8⟩:=hv;have jx:=aN b;unfold cj at jx;cases bE:(H b).body with
   | gm t y=>
    rw[bE]at h jx h8;simp only[ar.bz,Option.map_eq_some_iff,Prod.mk.injEq]at h;obtain⟨z,ba,rfl,rfl⟩:=h;obtain⟨eq,rfl⟩:=kF ba;subst eq;obtain rfl:=h8 aA.symm rfl;obtain⟨a_,h1,h2⟩:=jx;exact (dC rfl).2 ⟨rfl,.inr ⟨_,_,a_,rfl,rfl,h1.mono bd (cJ.refl F w),eX t bd (cJ.refl F w) h2⟩⟩
   | cells t f=>
    rw[bE]at h jx h8;simp only at h;split at h
    ·rename_i aI;subst aI;simp only[ar.eM,Option.bind_eq_some_iff,ar.bz]at h;obtain⟨⟨y,m,q⟩,h1,h2⟩:=h;split at h2
     ·rename_i bf;simp only[Option.some.injEq,Prod.mk.injEq]at h2;obtain⟨rfl,rfl⟩:=h2;obtain rfl:=h8 aA.symm rfl;obtain⟨cs,T,aP,aQ,bB⟩:=jx;have iq:d' P H κ F w ((List.range t.size).map f) cs.toList:=BM (by omega) λi G=>by
       simp_all
      obtain⟨c,d,JQ,c1,c2⟩:=fT h1 (λa1 cQ=>an a1 (List.mem_cons_of_mem _ cQ)) iq;have bf:q=[]:=List.isEmpty_iff.1 bf;subst bf;cases d with
      | cons _ _=>exact c2.elim
      | nil=>
       rw[List.append_nil]at JQ;refine (dC rfl).2 ⟨rfl,.inr ⟨_,y,c,rfl,rfl,⟨an b (by simp) (by rw[bE];rfl),rfl,λj aD=>?_⟩,c1⟩⟩;have fB:j<cs.size:=by grind
       simp only[World.cell?,aP,Nat.zero_add,Option.isSome_none,Bool.false_eq_true,if_false,Array.getElem?_eq_getElem fB];grind
     grind
    ·cases h
   | _=>rw[bE]at h;cases h
  ·cases h
 | _=>exact b5 h
theorem JR(aN:∀ b,cj P H κ F w b)(bd:∀ r,F r->F' r):∀ (t:af) {cs:List aF} {aC:List Value} {x:t.ai} {l:List Nat} {r:List aF},(h7 t cs).run H=some (x,l,r)->
  iM H κ F' l->d' P H κ F w cs aC->∃ c d,aC=c++d/\bu P t F' w c x/\d' P H κ F w r d:=by
 have pX:∀ (t:af) (g:aF->ar (Option (t.ai×List Nat))),t.ef=true->(∀ {av:aF} {v:Value} {x:t.ai} {l:List Nat},(g av).run H=some (x,l)->iM H κ F' l->bl P H κ F w av v->dU P t F' w v x)->
   ∀ {cs:List aF} {aC:List Value} {x:t.ai} {l:List Nat} {r:List aF},(match cs with | c::r=>(g c).map λo=>o.map λ(x,l)=>(x,l,r) | []=>.none:ar (Option (t.ai×List Nat×List aF))).run H=some (x,l,r)->
   iM H κ F' l->d' P H κ F w cs aC->∃ c d,aC=c++d/\bu P t F' w c x/\d' P H κ F w r d:=by
  intro t g aI aA cs aC x l r h an aU;cases cs with
  | nil=>cases h
  | cons c cs=>
   cases aC with
   | nil=>exact aU.elim
   | cons v aC=>
    simp only[ar.map,ar.run_bind,ar.bz,Option.map_eq_some_iff,Prod.mk.injEq]at h;obtain⟨⟨y,m⟩,ba,rfl,rfl,rfl⟩:=h;refine⟨[v],aC,rfl,?_,aU.2⟩;exact ((dC aI).1 (aA ba an aU.1.1)).2
 have ew:∀ (t:af),t.ef=true->∀ {cs:List aF} {aC:List Value} {x:t.ai} {l:List Nat} {r:List aF},(match cs with | c::r=>(dE t c).map λo=>o.map λ(x,l)=>(x,l,r) | []=>.none:ar (Option (t.ai×List Nat×List aF))).run H=some (x,l,r)->
   iM H κ F' l->d' P H κ F w cs aC->∃ c d,aC=c++d/\bu P t F' w c x/\d' P H κ F w r d:=
  λt aI=>pX t (dE t) aI λh an hv=>JP aN bd aI h an hv
 intro t;induction t with
 | bool=>intro cs aC x l r h an aU;exact ew _ rfl h an aU
 | int k=>intro cs aC x l r h an aU;exact ew (.int k) rfl h an aU
 | str=>intro cs aC x l r h an aU;exact ew _ rfl h an aU
 | cA=>
  intro cs aC x l r h an aU;simp only[h7,ar.bz,Option.some.injEq,Prod.mk.injEq]at h;obtain⟨_,rfl,rfl⟩:=h;exact⟨[],aC,rfl,rfl,aU⟩
 | st t aJ=>intro cs aC x l r h an aU;exact aJ h an aU
 | ay a b fk eu=>
  intro cs aC x l r h an aU;simp only[h7,ar.eM,Option.bind_eq_some_iff,ar.bz,Option.some.injEq,Prod.mk.injEq]at h;obtain⟨⟨y,m,q⟩,h1,⟨z,df,q'⟩,h2,rfl,rfl,rfl⟩:=h;obtain⟨c,d,rfl,c1,c2⟩:=fk h1 an.left aU;obtain⟨c',uO,rfl,d1,d2⟩:=eu h2 an.right c2;exact⟨c++c',uO,by simp,⟨c,c',rfl,c1,d1⟩,d2⟩
 | slice e aJ=>intro cs aC x l r h an aU;exact ew (.slice e) rfl h an aU
 | array n e aJ=>
  intro cs aC xs l r h an aU;simp only[h7]at h;have key:∀ (n:Nat) {cs:List aF} {aC:List Value} {xs:List e.ai} {l:List Nat} {r:List aF},(n.rec (motive:=λ_=>List aF->ar (Option (List e.ai×List Nat×List aF))) (λcs=>.ret (some ([],[],cs)))
     (λ_ aJ cs=>(h7 e cs).cx λ(x,l,r)=>(aJ r).cx λ(xs,m,q)=>.ret (some (x::xs,l++m,q))) cs).run H=some (xs,l,r)->
    iM H κ F' l->d' P H κ F w cs aC->
    ∃ fa d,aC=List.flatten fa++d/\fa.length=n/\xs.length=n/\(∀ i (h:i<xs.length) (da:i<fa.length),bu P e F' w fa[i] xs[i])/\d' P H κ F w r d:=by
   intro n;induction n with
   | zero=>
    intro cs aC xs l r h an aU;cases h;exact⟨[],aC,rfl,rfl,rfl,λi G=>(by simp),aU⟩
   | succ n BN=>
    intro cs aC xs l r h an aU;simp only[ar.eM,Option.bind_eq_some_iff,ar.bz,Option.some.injEq,Prod.mk.injEq]at h;obtain⟨⟨y,m,q⟩,h1,⟨z,df,q'⟩,h2,rfl,rfl,rfl⟩:=h;obtain⟨c,d,rfl,c1,c2⟩:=aJ h1 an.left aU;obtain⟨fa,uO,rfl,d1,d2,d3,d4⟩:=BN h2 an.right c2;refine⟨c::fa,uO,by simp,by grind,by grind,λi G ds=>?_,d4⟩;grind
  obtain⟨fa,d,e1,e2,e3,e4,eP⟩:=key n h an aU;exact⟨fa.flatten,d,e1,⟨fa,rfl,e2,e3,e4⟩,eP⟩
 | br e aJ=>intro cs aC x l r h an aU;exact pX (.br e) (s_ e (h7 e)) rfl (λh an hv=>Q' aN bd aJ h an hv) h an aU
 | map k v wD wF=>intro cs aC x l r h an aU;exact ew (.map k v) rfl h an aU
 | fn a b fk eu=>intro cs aC x l r h an aU;exact ew (.fn a b) rfl h an aU
 | b9 a aJ=>intro cs aC x l r h an aU;exact ew (.b9 a) rfl h an aU
 | dT=>intro cs aC x l r h an aU;exact ew .dT rfl h an aU
theorem l5(aN:∀ b,cj P H κ F w b)(bd:∀ r,F r->F' r){t:af}{av:aF}{v:Value}{x:t.ai}{l:List Nat}(h:(di t av).run H=some (x,l))
  (an:iM H κ F' l) (hv:bl P H κ F w av v):dU P t F' w v x:=by
 have b5:(ki t av).run H=some (x,l)->dU P t F' w v x:=by
  intro h;unfold ki at h;split at h
  ·exact Q' aN bd (λh an aU=>JR aN bd _ h an aU) h an hv
  ·split at h
   ·rename_i aI;exact JP aN bd aI h an hv
   ·cases h
 cases av with
 | val cE y=>
  simp only[di,ar.bz,Option.map_eq_some_iff,Prod.mk.injEq]at h;obtain⟨z,ba,rfl,rfl⟩:=h;exact (E6 ba hv).mono bd (cJ.refl F w)
 | agg n f=>
  simp only[di]at h;split at h
  ·cases h
  ·simp only[ar.eM,Option.bind_eq_some_iff,ar.bz]at h;obtain⟨⟨y,m,q⟩,h1,h2⟩:=h;split at h2
   ·rename_i hc;simp only[Bool.and_eq_true,List.isEmpty_iff]at hc;simp only[Option.some.injEq,Prod.mk.injEq]at h2;obtain⟨rfl,rfl⟩:=h2;obtain⟨aC,rfl,aT,bx⟩:=hv;obtain⟨c,d,rfl,c1,c2⟩:=JR aN bd t h1 an (BM aT bx);rw[hc.1]at c2;cases d with
    | cons _ _=>exact c2.elim
    | nil=>
     rw[List.append_nil]at *
     have hlen:=hC t c1;have hs:=hc.2;cases t<;>simp only[af.isAgg,Bool.false_eq_true]at hs
     ·exact⟨⟨c.toArray,rfl,by simpa [af.size]using hlen⟩,by simpa [Value.cells]using c1⟩
     ·exact⟨⟨c.toArray,rfl,by simpa [af.size]using hlen⟩,by simpa [Value.cells]using c1⟩
   grind
 | undef=>exact b5 h
 | hi b a=>exact b5 h
 | loc b g off=>exact b5 h
 | own b g=>exact b5 h
 | n5 b g i off=>exact b5 h
 | iL b g i=>exact b5 h
 | dD cE y=>exact b5 h
 | fs b g=>exact b5 h
 | il k n c=>exact b5 h
 | rI k n c=>exact b5 h
 | pT n f=>exact b5 h
 | cV=>exact b5 h
 | jt u=>exact b5 h
 | jW b g=>exact b5 h
 | tr l aK L n st=>exact b5 h
 | gN l=>exact b5 h
 | wJ e xs=>exact b5 h
 | sub b g lo G=>exact b5 h
end
def af.pure:af->Bool
 | .bool | .int _ | .str | .cA=>true
 | .st t=>t.pure
 | .ay a b=>a.pure&&b.pure
 | .array _ e=>e.pure
 | _=>false
theorem acy{P:Program}{F F':Nat->Prop}{w w':World}:∀ (t:af) {cs:List Value} {x:t.ai},t.pure=true->bu P t F w cs x->bu P t F' w' cs x:=by
 intro t;induction t with
 | bool=>intro cs x _ h;exact h
 | int k=>intro cs x _ h;exact h
 | str=>intro cs x _ h;exact h
 | cA=>intro cs x _ h;exact h
 | st t aJ=>intro cs x aI h;exact aJ aI h
 | ay a b fk eu=>
  intro cs x aI h;simp only[af.pure,Bool.and_eq_true]at aI;obtain⟨c,d,rfl,aU,ad⟩:=h;exact⟨c,d,rfl,fk aI.1 aU,eu aI.2 ad⟩
 | slice e aJ=>intro cs x aI;cases aI
 | array n e aJ=>
  intro cs x aI h;obtain⟨fa,rfl,h1,h2,h3⟩:=h;exact⟨fa,rfl,h1,h2,λi G ds=>aJ aI (h3 i G ds)⟩
 | br e aJ=>intro cs x aI;cases aI
 | map k v wD wF=>intro cs x aI;cases aI
 | fn a b fk eu=>intro cs x aI;cases aI
 | b9 a aJ=>intro cs x aI;cases aI
 | dT=>intro cs x aI;cases aI
end Go.Fer
namespace Go.Fer
open Go.RowKit
section
variable {P:Program} {F:Nat->Prop} {w:World}
theorem acz{t:af}{x y:t.ai}(h:eE t t x=some y):y=x:=by
 obtain⟨e,rfl⟩:=kF h;rfl
theorem Ra:∀ (t:af) {f:Nat} {cs:List Value} {x:t.ai} {s:af} {y:s.ai},bu P t F w cs x->uM t x f=some ⟨s,y⟩->
  ∃ c1 c2 c3,cs=c1++(c2++c3)/\bu P s F w c2 y/\l4 t f=some (s,c1.length):=by
 have ew:∀ (t:af),(∀ a b,t≠.ay a b)->t≠.cA->∀ {f:Nat} {cs:List Value} {x:t.ai} {s:af} {y:s.ai},bu P t F w cs x->uM t x f=some ⟨s,y⟩->
   ∃ c1 c2 c3,cs=c1++(c2++c3)/\bu P s F w c2 y/\l4 t f=some (s,c1.length):=by
  intro t h1 h2 f cs x s y h au;cases f with
  | zero=>
   have e:uM t x 0=some ⟨t,x⟩:=by cases t<;>first | rfl | grind | grind
   have aV:l4 t 0=some (t,0):=by cases t<;>first | rfl | grind | grind
   rw[e]at au;cases au;exact⟨[],cs,[],by simp,h,aV⟩
  | succ f=>
   have e:uM t x (f+1)=none:=by cases t<;>first | rfl | grind
   grind
 intro t;induction t with
 | ay a b fk eu=>
  intro f cs x s y h au;simp only[bu]at h;obtain⟨c,d,rfl,aU,ad⟩:=h;cases f with
  | zero=>
   simp only[uM,Option.some.injEq,Sigma.mk.injEq]at au;obtain⟨rfl,au⟩:=au;cases au;exact⟨[],c,d,by simp,aU,rfl⟩
  | succ f=>
   obtain⟨c1,c2,c3,rfl,aP,aQ⟩:=eu ad au;refine⟨c++c1,c2,c3,by simp,aP,?_⟩;simp[l4,aQ,hC a aU]
 | cA=>intro f cs x s y _ au;cases f<;>cases au
 | bool=>grind
 | int k=>grind
 | str=>grind
 | st t _=>grind
 | slice e _=>grind
 | array n e _=>grind
 | br e _=>grind
 | map k v _ _=>grind
 | fn a b _ _=>grind
 | b9 a _=>grind
 | dT=>grind
theorem Rb:∀ (t:af) {off:Nat} {cs:List Value} {x:t.ai} {s:af} {y:s.ai},bu P t F w cs x->rK t x off s=some y->
  ∃ c1 c2 c3,cs=c1++(c2++c3)/\c1.length=off/\bu P s F w c2 y:=by
 have ew:∀ (t:af) {off:Nat} {cs:List Value} {x:t.ai} {s:af} {y:s.ai},bu P t F w cs x->(if off=0 then eE t s x else none)=some y->
   ∃ c1 c2 c3,cs=c1++(c2++c3)/\c1.length=off/\bu P s F w c2 y:=by
  intro t off cs x s y h au;split at au
  ·rename_i ah;exact⟨[],cs,[],by simp,ah.symm,ta au h⟩
  grind
 intro t;induction t with
 | ay a b fk eu=>
  intro off cs x s y h au;simp only[bu]at h;obtain⟨c,d,rfl,aU,ad⟩:=h;simp only[rK]at au;split at au
  ·grind
  ·obtain⟨c1,c2,c3,rfl,aP,aQ⟩:=eu ad au;have:=hC a aU;grind
 | st t aJ=>
  intro off cs x s y h au;simp only[rK]at au;split at au
  ·rename_i ah;exact⟨[],cs,[],by simp,ah.1.symm,ta au h⟩
  ·simp only[bu]at h;grind
 | cA=>intro off cs x s y _ au;cases au
 | array n e _=>intro off cs x s y _ au;cases au
 | bool=>intro off cs x s y h au;exact ew _ h au
 | int k=>intro off cs x s y h au;exact ew (.int k) h au
 | str=>intro off cs x s y h au;exact ew _ h au
 | slice e _=>intro off cs x s y h au;exact ew (.slice e) h au
 | br e _=>intro off cs x s y h au;exact ew (.br e) h au
 | map k v _ _=>intro off cs x s y h au;exact ew (.map k v) h au
 | fn a b _ _=>intro off cs x s y h au;exact ew (.fn a b) h au
 | b9 a _=>intro off cs x s y h au;exact ew (.b9 a) h au
 | dT=>intro off cs x s y h au;exact ew .dT h au
theorem acA:∀ (t:af) {off:Nat} {cs a_:List Value} {x dr:t.ai} {s:af} {y:s.ai},bu P t F w cs x->wN t x off s y=some dr->bu P s F w a_ y->
  ∃ c1 c2 c3,cs=c1++(c2++c3)/\c1.length=off/\c2.length=s.size/\bu P t F w (c1++(a_++c3)) dr:=by
 have ew:∀ (t:af) {off:Nat} {cs a_:List Value} {x dr:t.ai} {s:af} {y:s.ai},bu P t F w cs x->(if off=0 then eE s t y else none)=some dr->bu P s F w a_ y->
   ∃ c1 c2 c3,cs=c1++(c2++c3)/\c1.length=off/\c2.length=s.size/\bu P t F w (c1++(a_++c3)) dr:=by
  intro t off cs a_ x dr s y h au aw;split at au
  ·rename_i ah;obtain⟨e,rfl⟩:=kF au;subst e;exact⟨[],cs,[],by simp,ah.symm,hC s h,by grind⟩
  grind
 intro t;induction t with
 | ay a b fk eu=>
  intro off cs a_ x dr s y h au aw;simp only[bu]at h;obtain⟨c,d,rfl,aU,ad⟩:=h;simp only[wN]at au;split at au
  ·simp only[Option.map_eq_some_iff]at au;obtain⟨z,ba,rfl⟩:=au;obtain⟨c1,c2,c3,rfl,aP,aQ,bB⟩:=fk aU ba aw;exact⟨c1,c2,c3++d,by simp,aP,aQ,⟨_,d,by simp,bB,ad⟩⟩
  ·simp only[Option.map_eq_some_iff]at au;obtain⟨z,ba,rfl⟩:=au;obtain⟨c1,c2,c3,rfl,aP,aQ,bB⟩:=eu ad ba aw;have:=hC a aU;exact⟨c++c1,c2,c3,by simp,by grind,aQ,⟨c,_,by simp,aU,bB⟩⟩
 | st t aJ=>
  intro off cs a_ x dr s y h au aw;simp only[wN]at au;split at au
  ·rename_i ah;obtain⟨ah,e⟩:=ah;subst e;have:=acz au;subst this;exact⟨[],cs,[],by simp,ah.symm,hC _ h,by grind⟩
  ·simp only[bu]at h ⊢;grind
 | cA=>intro off cs a_ x dr s y _ au;cases au
 | array n e _=>intro off cs a_ x dr s y _ au;cases au
 | bool=>intro off cs a_ x dr s y h au aw;exact ew _ h au aw
 | int k=>intro off cs a_ x dr s y h au aw;exact ew (.int k) h au aw
 | str=>intro off cs a_ x dr s y h au aw;exact ew _ h au aw
 | slice e _=>intro off cs a_ x dr s y h au aw;exact ew (.slice e) h au aw
 | br e _=>intro off cs a_ x dr s y h au aw;exact ew (.br e) h au aw
 | map k v _ _=>intro off cs a_ x dr s y h au aw;exact ew (.map k v) h au aw
 | fn a b _ _=>intro off cs a_ x dr s y h au aw;exact ew (.fn a b) h au aw
 | b9 a _=>intro off cs a_ x dr s y h au aw;exact ew (.b9 a) h au aw
 | dT=>intro off cs a_ x dr s y h au aw;exact ew .dT h au aw
end
def jY:af->List Value->Option (List Value)
 | .cA,cs=>some cs
 | .st t,cs=>jY t cs
 | .ay a b,cs=>(jY a cs).bind (jY b)
 | .array n e,cs=>n.rec (motive:=λ_=>List Value->Option (List Value)) some (λ_ aJ cs=>(jY e cs).bind aJ) cs
 | .bool,cs=>match cs with | .bool false::r=>some r | _=>none
 | .int k,cs=>match cs with | .int k' n::r=>if k'=k/\n=0 then some r else none | _=>none
 | .str,cs=>match cs with | .string s::r=>if s.size=0 then some r else none | _=>none
 | .slice _,cs=>match cs with | .slice none 0 0::r=>some r | _=>none
 | .br _,cs=>match cs with | .pointer none::r=>some r | _=>none
 | .map _ _,cs=>match cs with | .map none::r=>some r | _=>none
 | .fn _ _,cs=>match cs with | .nilFunc::r=>some r | _=>none
 | .b9 _,cs=>match cs with | .nilFunc::r=>some r | _=>none
 | .dT,cs=>match cs with | .nilFunc::r=>some r | _=>none
theorem Rc(k:IntKind):fA k 0:=by cases k<;>decide
theorem uP{P:Program}{H:Nat->bw}{κ:Nat->bo}{F:Nat->Prop}{w:World}:∀ (t:af) {cs r:List Value},jY t cs=some r->
  ∃ c,cs=c++r/\bu P t F w c t.cP/\d' P H κ F w (rJ t) c:=by
 intro t;induction t with
 | cA=>intro cs r h;cases h;exact⟨[],by simp,rfl,trivial⟩
 | st t aJ=>intro cs r h;exact aJ h
 | ay a b fk eu=>
  intro cs r h;simp only[jY,Option.bind_eq_some_iff]at h;obtain⟨q,h1,h2⟩:=h;obtain⟨c,rfl,c1,c2⟩:=fk h1;obtain⟨d,rfl,d1,d2⟩:=eu h2;exact⟨c++d,by simp,⟨c,d,rfl,c1,d1⟩,c2.append d2⟩
 | array n e aJ=>
  intro cs r h;simp only[jY]at h;have key:∀ (n k:Nat) {cs r:List Value},n.rec (motive:=λ_=>List Value->Option (List Value)) some (λ_ aJ cs=>(jY e cs).bind aJ) cs=some r->
    ∃ fa:List (List Value),cs=fa.flatten++r/\fa.length=n/\(∀ c∈fa,bu P e F w c e.cP)/\d' P H κ F w ((List.range' k n).flatMap λ_=>rJ e) fa.flatten:=by
   intro n;induction n with
   | zero=>intro k cs r h;cases h;exact⟨[],by simp,rfl,by simp,trivial⟩
   | succ n BN=>
    intro k cs r h;simp only[Option.bind_eq_some_iff]at h;obtain⟨q,h1,h2⟩:=h;obtain⟨c,rfl,c1,c2⟩:=aJ h1;obtain⟨fa,rfl,d1,d2,d3⟩:=BN (k+1) h2;refine⟨c::fa,by simp,by grind,?_,?_⟩
    ·grind
    ·simp only[List.range'_succ,List.flatMap_cons,List.flatten_cons];exact c2.append d3
  obtain⟨fa,rfl,h1,h2,h3⟩:=key n 0 h;refine⟨fa.flatten,rfl,⟨fa,rfl,h1,by simp[af.cP],λi G ds=>?_⟩,?_⟩
  ·have:(af.array n e).cP[i]=e.cP:=by simp[af.cP]
   grind
  ·simp only[rJ,List.range_eq_range'];exact h3
 | bool=>
  intro cs r h;simp only[jY]at h;split at h
  ·cases h;exact⟨[.bool false],rfl,rfl,⟨eY.2 rfl,rfl⟩,trivial⟩
  grind
 | int k=>
  intro cs r h;simp only[jY]at h;split at h
  ·split at h
   ·rename_i aj;obtain⟨rfl,rfl⟩:=aj;cases h;exact⟨[.int _ 0],rfl,⟨rfl,Rc _⟩,⟨gB.2 ⟨rfl,Rc _⟩,rfl⟩,trivial⟩
   grind
  grind
 | str=>
  intro cs r h;simp only[jY]at h;split at h
  ·rename_i s pS;split at h
   ·rename_i hs;cases h;have:s=⟨([]:List UInt8).toArray⟩:=by
     cases s with | mk d=>simp only[ByteArray.size]at hs;grind
    subst this;exact⟨[.string ⟨([]:List UInt8).toArray⟩],rfl,⟨rfl,by decide⟩,⟨l1.2 ⟨rfl,by decide⟩,rfl⟩,trivial⟩
   grind
  grind
 | slice e _=>
  intro cs r h;simp only[jY]at h;split at h
  ·cases h;exact⟨[.slice none 0 0],rfl,⟨none,0,rfl,Nat.le_refl _,by decide,λ_=>rfl,λp hp=>by simp⟩,⟨rfl,rfl⟩,trivial⟩
  grind
 | br e _=>
  intro cs r h;simp only[jY]at h;split at h
  ·cases h;exact⟨[.pointer none],rfl,.inl ⟨rfl,rfl⟩,⟨(dC rfl).2 ⟨rfl,.inl ⟨rfl,rfl⟩⟩,rfl⟩,trivial⟩
  grind
 | map k v _ _=>
  intro cs r h;simp only[jY]at h;split at h
  ·cases h;exact⟨[.map none],rfl,.inl ⟨rfl,rfl⟩,⟨(dC rfl).2 ⟨rfl,.inl ⟨rfl,rfl⟩⟩,rfl⟩,trivial⟩
  grind
 | fn a b _ _=>
  intro cs r h;simp only[jY]at h;split at h
  ·cases h;exact⟨[.nilFunc],rfl,⟨.nilFunc,rfl,⟨rfl,rfl⟩,λF' w' _ _ _ _ args x _ _ hs=>(show False from hs).elim⟩,⟨rfl,rfl⟩,trivial⟩
  grind
 | b9 a _=>
  intro cs r h;simp only[jY]at h;split at h
  ·cases h;exact⟨[.nilFunc],rfl,⟨.nilFunc,rfl,⟨rfl,rfl⟩,λF' w' _ _ _ _ hs=>(show ∃ _,False from hs).elim λ_ h=>h.elim⟩,⟨rfl,rfl⟩,trivial⟩
  grind
 | dT=>
  intro cs r h;simp only[jY]at h;split at h
  ·cases h;exact⟨[.nilFunc],rfl,rfl,⟨(dC rfl).2 ⟨rfl,rfl⟩,rfl⟩,trivial⟩
  grind
def n6(P:Program)(t:af)(id:TypeId):Bool:=
 match P.info? id with
 | some i=>i.size == t.size&&decide (i.bytes<=1024)&&(match i.zero with
  | some z=>(match jY t z.cells.toList with | some []=>true | _=>false)&&(match t,z with
   | .st _,.agg _=>true
   | .array _ _,.agg _=>true
   | .st _,_=>false
   | .array _ _,_=>false
   | _,.agg _=>false
   | _,_=>true)
  | none=>false)
 | none=>false
def cm(P:Program):af->Sum TypeId (List Field×Nat)->Bool
 | .ay a b, .inr (f :: g :: [], off) => f.offset == off && cm P a (.inl f.type) && a.size != 0 && f.name != "_" && (g.offset == off + a.size && cm P b (.inl g.type) && b.size != 0 && g.name != "_")
 | .ay a b, .inr (f :: g :: h :: eF, off) => f.offset == off && cm P a (.inl f.type) && a.size != 0 && f.name != "_" && cm P b (.inr (g :: h :: eF, off + a.size))
 | .st t,.inl id=>n6 P (.st t) id&&!P.stoodInHeld id&&!P.eqGuardType P.depth id&&match P.underlying id with
  | some (.struct eF)=>(match eF.toList with
   | []=>decide (t=.cA)
   | [f] => f.offset == 0 && cm P t (.inl f.type) && t.size != 0 && f.name != "_"
   | l=>cm P t (.inr (l,0)))
  | _=>false
 | .bool,.inl id=>n6 P .bool id&&(match P.underlying id with | some .bool=>true | _=>false)
 | .int k,.inl id=>n6 P (.int k) id&&(match P.underlying id with | some (.int k')=>decide (k'=k) | _=>false)
 | .str,.inl id=>n6 P .str id&&(match P.underlying id with | some .string=>true | _=>false)
 | .slice e,.inl id=>n6 P (.slice e) id&&(match P.underlying id with | some (.slice i)=>cm P e (.inl i)&&e.size != 0 | _=>false)
 | .array n e,.inl id=>n6 P (.array n e) id&&(match P.underlying id with | some (.array m i)=>decide (m=n)&&cm P e (.inl i)&&e.size != 0 | _=>false)
 | .br e,.inl id=>n6 P (.br e) id&&(match P.underlying id with | some (.pointer i)=>cm P e (.inl i)&&e.size != 0 | _=>false)
 | .map k v,.inl id=>n6 P (.map k v) id&&(match P.underlying id with | some (.map i j)=>cm P k (.inl i)&&cm P v (.inl j) | _=>false)
 | .fn a b,.inl id=>n6 P (.fn a b) id&&(match P.underlying id with | some (.func _ _ _)=>true | _=>false)
 | .b9 a,.inl id=>n6 P (.b9 a) id&&(match P.underlying id with | some (.func _ _ _)=>true | _=>false)
 | .dT,.inl id=>n6 P .dT id&&(match P.underlying id with | some (.func _ _ _)=>true | _=>false)
 | _,_=>false
def bQ(P:Program)(t:af)(id:TypeId):Prop:=cm P t (.inl id)=true
theorem bQ.kj{P:Program}{t:af}{id:TypeId}(h:bQ P t id):n6 P t id=true:=by
 unfold bQ at h;cases t<;>simp only[cm,Bool.and_eq_true,Bool.false_eq_true]at h<;>first | exact h.1.1.1 | exact h.1
theorem kk{P:Program}{t:af}{id:TypeId}(h:n6 P t id=true):∃ i z,P.info? id=some i/\i.size=t.size/\i.bytes<=1024/\i.zero=some z/\
  jY t z.cells.toList=some []/\((∃ cs,z=.agg cs)<->t.isAgg=true):=by
 unfold n6 at h;split at h
 ·rename_i i G;simp only[Bool.and_eq_true,beq_iff_eq,decide_eq_true_eq]at h;obtain⟨⟨h1,h2⟩,h3⟩:=h;split at h3
  ·rename_i z ba;simp only[Bool.and_eq_true]at h3;obtain⟨aT,bx⟩:=h3;refine⟨i,z,G,h1,h2,ba,?_,?_⟩
   ·grind
   ·cases t<;>cases z<;>simp_all[af.isAgg]
  grind
 grind
end Go.Fer
namespace Go.Fer
open Go.RowKit
structure eb where
 bT:Prop
 c:Prop
 eR:aF
 hk:List (Nat×bw)
def use:aF->Prop×aF
 | .hi b a=>(b=true,a)
 | a=>(True,a)
def wO:Value->aF
 | .bool b=>.val .bool b
 | .int k n=>if fA k n then .val (.int k) n else .jt (.int k n)
 | .string s=>if s.size<1048576 then .val .str s.data.toList else .jt (.string s)
 | .slice none 0 0=>.cV
 | v=>.jt v
def aW(U:dm)(s:Nat->aF):Operand->aF
 | .tmp t=>s t
 | .const v=>wO v
 | .func f=>match U.s8 f with
  | some v=>.val (.fn v.ts v.tr) v.sh
  | none=>.il f 0 λ_=>.undef
 | .global _=>.undef
structure aL where
 ts:af
 tr:af
 pre:ts.ai->Prop
 g:ts.ai->tr.ai
def kl:(t:af)->t.ai->Nat->aF
 | .ay a _,x,0=>.val a x.1
 | .ay _ b,x,i+1=>kl b x.2 i
 | t,x,0=>.val t x
 | _,_,_+1=>.undef
def jZ:af->Nat
 | .ay _ b=>jZ b+1
 | .cA=>0
 | _=>1
def qH(t:af)(x:t.ai):aF:=
 match t with
 | .ay a b=>.pT (jZ (.ay a b)) (kl (.ay a b) x)
 | .cA=>.jt (.tuple #[])
 | t=>.val t x
def iN:(t:af)->List aF->ar (Option (t.ai×List Nat))
 | .ay a b,v::aC=>(di a v).cx λ(x,l)=>(iN b aC).cx λ(y,m)=>.ret (some ((x,y),l++m))
 | .ay _ _,[]=>.none
 | .cA,[]=>.ret (some ((),[]))
 | .cA,_::_=>.none
 | t,[v]=>di t v
 | _,_=>.none
def jy:List Nat->ar (List (Nat×bw))
 | []=>.ret []
 | b::l=>.eD b λx=>(jy l).bind λr=>match x.body with
  | .a8 e xs=>.ret ((b,⟨x.gen,.hj e xs⟩)::r)
  | .mp k v es=>.ret ((b,⟨x.gen,.i_ k v es⟩)::r)
  | .cells t f=>(h7 t ((List.range t.size).map f)).bind λo=>.ret (match o with
   | some (y,_,[])=>(b,⟨x.gen,.gm t y⟩)::r
   | _=>r)
  | _=>.ret r
def cellsOf(t:af)(av:aF):Option (List aF):=
 match t,av with
 | .st t,.val (.st cE) x=>if cE=t then some (nw cE x) else none
 | .st t,.agg n f=>if n=t.size then some ((List.range n).map f) else none
 | .array n e,.val (.array iO aV) x=>if iO=n/\aV=e then some (nw (.array iO aV) x) else none
 | .array n e,.agg m f=>if m=n*e.size then some ((List.range m).map f) else none
 | t,av=>if t.ef then (match av with
  | .val cE _=>if cE.ef then some [av] else none
  | .loc _ _ _ | .own _ _ | .n5 _ _ _ _ | .dD _ _ | .fs _ _ | .il _ _ _ | .cV | .sub _ _ _ _=>some [av]
  | .jt (.agg _) | .jt (.tuple _)=>none
  | .jt _=>some [av]
  | _=>none) else none
def aF.l6:aF->Option (IntKind×Int)
 | .val (.int k) x=>some (k,x)
 | _=>none
def aF.tb:aF->Option (List UInt8)
 | .val .str x=>some x
 | _=>none
def y0(op:BinOp)(k:IntKind)(a b:Int):Option (Prop×aF):=
 match op with
 | .add=>some (True,.val (.int k) (k.wrap (a+b)))
 | .sub=>some (True,.val (.int k) (k.wrap (a - b)))
 | .mul=>some (True,.val (.int k) (k.wrap (a*b)))
 | .quo=>some (b≠0,.val (.int k) (k.wrap (a.tdiv b)))
 | .rem=>some (b≠0,.val (.int k) (a.tmod b))
 | .and=>some (True,.val (.int k) (ly k a b))
 | .or=>some (True,.val (.int k) (Q6 k a b))
 | .xor=>some (True,.val (.int k) (Q7 k a b))
 | .andNot=>some (True,.val (.int k) (Q8 k a b))
 | .eql=>some (True,.val .bool (decide (a=b)))
 | .neq=>some (True,.val .bool (decide (a≠b)))
 | .lss=>some (True,.val .bool (decide (a<b)))
 | .leq=>some (True,.val .bool (decide (a<=b)))
 | .gtr=>some (True,.val .bool (decide (a > b)))
 | .geq=>some (True,.val .bool (decide (a>=b)))
 | _=>none
def JS(op:BinOp)(k:IntKind)(a b:Int):Option (Prop×aF):=
 match op with
 | .shl=>some (0<=b,.val (.int k) (acw k a b))
 | .shr=>some (0<=b,.val (.int k) (i' k a b))
 | _=>none
def BO(op:BinOp)(a b:List UInt8):Option (Prop×aF):=
 match op with
 | .add=>some (b2 (a.length+b.length),.val .str (a++b))
 | .eql=>some (True,.val .bool (decide (a=b)))
 | .neq=>some (True,.val .bool (decide (a≠b)))
 | .lss=>some (True,.val .bool (Op.bytesLess a b))
 | .geq=>some (True,.val .bool (!Op.bytesLess a b))
 | _=>none
def af.j0:af->Nat
 | .st t=>t.j0+1
 | .ay a b=>max a.j0 b.j0
 | _=>1
def y1(op:BinOp)(t:af)(x y:aF):ar (Option (Prop×aF)):=
 (match t,x,y with
 | .br _,.val (.br _) p,.jt (.pointer none)=>.ret (some p.isNone)
 | .br _,.dD _ _,.jt (.pointer none)=>.ret (some false)
 | .br _,.loc b g _,.jt (.pointer none)=>.eD b λz=>.ret (if z.gen=g&&z.body.ft then some false else none)
 | t,x,y=>if t.kH&&decide (t.j0<=100) then (di t x).cx λ(a,_)=>(di t y).cx λ(b,_)=>.ret (some (gn t a b)) else .none:ar (Option Bool)).cx λe=>
 .ret (match op with
  | .eql=>some (True,.val .bool e)
  | .neq=>some (True,.val .bool (!e))
  | _=>none)
def bA(bT c:Prop)(v:aF):ar (Option eb):=.ret (some ⟨bT,c,v,[]⟩)
def E8(t:af)(av:aF):ar (Option (Prop×Int)):=
 match t with
 | .slice _=>match av with
  | .val (.slice _) xs=>.ret (some (True,xs.length))
  | .cV=>.ret (some (True,0))
  | .own b g=>.eD b λx=>.ret (if x.gen=g&&x.body.eZ then some (True,x.body.len) else none)
  | .sub b g lo G=>.eD b λx=>.ret (if x.gen=g&&x.body.eZ then some (True,((G - lo:Nat):Int)) else none)
  | _=>.none
 | .str=>match av with
  | .val .str xs=>.ret (some (True,xs.length))
  | _=>.none
 | .map _ _=>match av with
  | .val (.map _ _) xs=>.ret (some (b2 xs.length,xs.length))
  | .fs b g=>.eD b λx=>.ret (if x.gen=g then (match x.body with | .mp _ _ es=>some (b2 es.length,(es.length:Int)) | .i_ _ _ es=>some (b2 es.length,(es.length:Int)) | _=>none) else none)
  | _=>.none
 | _=>.none
def y2(t:af):aF->ar (Option aF)
 | .dD cE x=>.ret (if cE=t/\(t.ef||t.isAgg)=true then some (.val cE x) else none)
 | .loc b g off=>.eD b λx=>.ret (if x.gen=g then (match x.body with
   | .cells t0 f=>if t.ef then (if off<t0.size then some (f off) else none) else if t.isAgg then (if off+t.size<=t0.size then some (.agg t.size λi=>f (off+i)) else none) else none
   | .gm t0 y=>if t.ef||t.isAgg then (rK t0 y off t).map (.val t) else none
   | _=>none) else none)
 | .n5 b g i off=>.eD b λx=>.ret (if x.gen=g then (match x.body with
   | .a8 e xs=>if t.ef||t.isAgg then (rK e (xs.getD i e.cP) off t).map (.val t) else none
   | .hj e xs=>if t.ef||t.isAgg then (rK e (xs.getD i e.cP) off t).map (.val t) else none
   | _=>none) else none)
 | _=>.none
def putCells(f:Nat->aF)(off:Nat)(l:List aF):Nat->aF:=λi=>if off<=i/\i<off+l.length then l.getD (i - off) .undef else f i
def Re(t:af)(p v:aF):ar (Option (List (Nat×bw))):=
 match p with
 | .loc b g off=>.eD b λx=>.ret (if x.gen=g then (match x.body with
   | .cells t0 f=>(cellsOf t v).bind λl=>if off+l.length<=t0.size/\l.length=t.size then some [(b,⟨x.gen,.cells t0 (putCells f off l)⟩)] else none
   | _=>none) else none)
 | .n5 b g i off=>(di t v).cx λ(y,l)=>(jy l).bind λwl=>.eD b λx=>.ret (if x.gen=g/\!l.contains b then (match x.body with
   | .a8 e xs=>(wN e (xs.getD i e.cP) off t y).map λz=>wl++[(b,⟨x.gen,.a8 e (xs.set i z)⟩)]
   | _=>none) else none)
 | _=>.none
def Rf(e0:af)(x:aF)(i:Int):ar (Option (Prop×aF)):=
 match x with
 | .val (.slice e) xs=>.ret (if e=e0 then some (0<=i/\i<(xs.length:Int),.dD e (kG e xs i)) else none)
 | .own b g=>.eD b λz=>.ret (if z.gen=g then (match z.body with
   | .a8 e xs=>if e=e0 then some (0<=i/\i<(xs.length:Int),.n5 b g i.toNat 0) else none
   | .hj e xs=>if e=e0 then some (0<=i/\i<(xs.length:Int),.dD e (kG e xs i)) else none
   | _=>none) else none)
 | .sub b g lo G=>.eD b λz=>.ret (if z.gen=g then (match z.body with
   | .a8 e _=>if e=e0 then some (0<=i/\i<((G - lo:Nat):Int),.n5 b g (lo+i.toNat) 0) else none
   | .hj e xs=>if e=e0 then some (0<=i/\i<((G - lo:Nat):Int),.dD e (kG e xs ((lo:Int)+i))) else none
   | _=>none) else none)
 | .cV=>.ret (some (False,.dD e0 e0.cP))
 | _=>.none
def c8:Option Int->Int | some l=>l | none=>0
def fo(n:Nat):Option Int->Int | some h=>h | none=>n
def BP(lo G:Option Int)(n m:Nat):Nat:=match lo,G with | some _,some _=>m | _,_=>n
def Rg(e0:af)(x:aF)(lo G:Option Int):ar (Option (Prop×aF)):=
 match x with
 | .val (.slice e) xs=>.ret (if e=e0 then some (0<=c8 lo/\c8 lo<=fo xs.length G/\fo xs.length G<=(xs.length:Int),.val (.slice e) ((xs.take (fo xs.length G).toNat).drop (c8 lo).toNat)) else none)
 | .cV=>.ret (some (0<=c8 lo/\c8 lo<=fo 0 G/\fo 0 G<=0,.cV))
 | .own b g=>.eD b λz=>.ret (if z.gen=g&&z.body.eZ&&z.body.eK == e0.size then some (0<=c8 lo/\c8 lo<=fo z.body.len G/\fo z.body.len G<=(z.body.len:Int),.sub b g (c8 lo).toNat (fo z.body.len G).toNat) else none)
 | .sub b g e5 h0=>.eD b λz=>.ret (if z.gen=g&&z.body.eZ&&z.body.eK == e0.size then some (0<=c8 lo/\c8 lo<=fo (h0 - e5) G/\fo (h0 - e5) G<=((BP lo G (h0 - e5) (z.body.len - e5):Nat):Int),.sub b g (e5+(c8 lo).toNat) (e5+(fo (h0 - e5) G).toNat)) else none)
 | _=>.none
def Rh(x:aF)(lo G:Option Int):Option (Prop×aF):=
 match x with
 | .val .str xs=>some (0<=c8 lo/\c8 lo<=fo xs.length G/\fo xs.length G<=(xs.length:Int),.val .str ((xs.take (fo xs.length G).toNat).drop (c8 lo).toNat))
 | _=>none
def hU(d:Option Nat)(k:Nat->Nat->Option eb):ar (Option eb):=
 match d with
 | none=>.none
 | some d=>.eD d λx=>.ret (k d (x.gen+1))
def JT(d:Option Nat)(e:af)(x y:aF)(bT:Prop):ar (Option eb):=
 match x with
 | .own b g=>.eD b λz=>match (if z.gen=g then z.body else .fm) with
  | .a8 aV xs=>if h:aV=e then (di (.slice e) y).cx λ(ys,_)=>.ret (some ⟨bT,b2 (xs.length+ys.length),.own b (g+1),[(b,⟨g+1,.a8 e ((h ▸ xs)++ys)⟩)]⟩) else .none
  | _=>.none
 | .sub b g lo G=>.eD b λz=>match (if z.gen=g then z.body else .fm) with
  | .a8 aV xs=>if h:aV=e then (di (.slice e) y).cx λ(ys,_)=>.ret (some ⟨bT,b2 (((xs.take G).drop lo).length+ys.length),.own b (g+2),[(b,⟨g+2,.a8 e ((h ▸ (xs.take G).drop lo)++ys)⟩)]⟩) else .none
  | _=>.none
 | .cV=>(di (.slice e) y).cx λ(ys,_)=>hU d λb g=>some ⟨bT,b2 ys.length,.own b g,[(b,⟨g,.a8 e ys⟩)]⟩
 | .wJ aV xs=>if h:aV=e then (di (.slice e) y).cx λ(ys,_)=>hU d λb g=>some ⟨bT,0<ys.length/\b2 (xs.length+ys.length),.own b g,[(b,⟨g,.a8 e ((h ▸ xs)++ys)⟩)]⟩ else .none
 | _=>.none
def E9(t:af):List aF->List (Nat×aF)->Option (List aF)
 | cs,[]=>some cs
 | cs,(i,av)::r=>
  match l4 t i with
  | none=>none
  | some (s,off)=>match cellsOf s av with
   | none=>none
   | some l=>if l.length=s.size/\off+s.size<=cs.length then E9 t (cs.take off++(l++cs.drop (off+s.size))) r else none
def tc(e:af)(ps:List (Nat×aF)):Nat->Nat->ar (Option (List e.ai×List Nat))
 | _,0=>.ret (some ([],[]))
 | i,n+1=>(match ps.find? (λp=>p.1 == i) with
   | some p=>di e p.2
   | none=>.ret (some (e.cP,[])):ar (Option (e.ai×List Nat))).cx λ(x,l)=>(tc e ps (i+1) n).cx λ(xs,m)=>.ret (some (x::xs,l++m))
def rL(ps:List (Nat×aF)):Prop:=ps.foldr (λp q=>match p.2 with | .hi b _=>b=true/\q | _=>q) True
def ir(ps:List (Nat×aF)):List (Nat×aF):=ps.map λp=>(p.1,(use p.2).2)
def jz(ps:List aF):Prop:=ps.foldr (λp q=>match p with | .hi b _=>b=true/\q | _=>q) True
def kY(aG:Operand->aF):Option Operand->Option (Prop×Option Int)
 | none=>some (True,none)
 | some x=>match use (aG x) with
  | (o,.val (.int _) n)=>some (o,some n)
  | _=>none
def E_(T:Nat->af)(aG:Operand->aF)(ty:TypeId)(x:Operand)(lo G:Option Operand):ar (Option eb):=
 let (cg,dG):=use (aG x)
 match kY aG lo,kY aG G with
 | some (ol,l),some (qI,h)=>match T ty with
  | .slice e=>(Rg e dG l h).cx λ(c,v)=>bA (cg/\(ol/\qI)) c v
  | .str=>match Rh dG l h with
   | some (c,v)=>bA (cg/\(ol/\qI)) c v
   | none=>.none
  | _=>.none
 | _,_=>.none
def Ri(e0:af)(x:aF)(lo G:Option Int)(m:Int):ar (Option (Prop×aF)):=
 match x with
 | .val (.slice e) xs=>.ret (if e=e0 then some (0<=c8 lo/\c8 lo<=fo xs.length G/\fo xs.length G=m/\m<=(xs.length:Int),.wJ e ((xs.take m.toNat).drop (c8 lo).toNat)) else none)
 | .cV=>.ret (some (c8 lo=0/\fo 0 G=0/\m=0,.wJ e0 []))
 | .own b g=>.eD b λz=>.ret (if z.gen=g&&z.body.eZ then some (0<=c8 lo/\c8 lo<=fo z.body.len G/\fo z.body.len G<=m/\m<=(z.body.len:Int),.undef) else none)
 | _=>.none
def E'(T:Nat->af)(aG:Operand->aF)(ty:TypeId)(x:Operand)(lo G oW:Option Operand):ar (Option eb):=
 let (cg,dG):=use (aG x)
 match kY aG lo,kY aG G,kY aG oW with
 | some (ol,l),some (qI,some h),some (uQ,some m)=>match T ty with
  | .slice e=>(Ri e dG l (some h) m).cx λ(c,v)=>bA (cg/\(ol/\(qI/\uQ))) c v
  | _=>.none
 | _,_,_=>.none
def BQ(T:Nat->af)(aG:Operand->aF)(args:List Operand)(cX:List TypeId):ar (Option eb):=
 match args,cX with
 | [x],[t]=>let (cg,dG):=use (aG x);(E8 (T t) dG).cx λ(c,n)=>bA cg c (.val (.int .i64) n)
 | _,_=>.none
def BR(T:Nat->af)(aG:Operand->aF)(d:Option Nat)(args:List Operand)(cX:List TypeId):ar (Option eb):=
 match args,cX with
 | [x,y],[t,u]=>match T t,T u with
  | .slice e,.slice _=>let (cg,dG):=use (aG x);let (nx,km):=use (aG y);JT d e dG km (cg/\nx)
  | _,_=>.none
 | _,_=>.none
def mz(aG:Operand->aF)(k:IntKind):List Operand->Option (Prop×z1')
 | []=>none
 | [x]=>match (use (aG x)).2.l6 with
  | some (k',n)=>if k'=k then some ((use (aG x)).1,[n]) else none
  | none=>none
 | x::l=>match (use (aG x)).2.l6,mz aG k l with
  | some (k',n),some (bT,hV)=>if k'=k then some ((use (aG x)).1/\bT,n::hV) else none
  | _,_=>none
def rM(aG:Operand->aF)(f:Int->Int->Int)(args:List Operand):ar (Option eb):=
 match args with
 | x::y::l=>match (use (aG x)).2.l6 with
  | some (k,a)=>match mz aG k (y::l) with
   | some (bT,hV)=>bA ((use (aG x)).1/\bT) True (.val (.int k) (hV.foldl f a))
   | none=>.none
  | none=>.none
 | _=>.none
def BS(T:Nat->af)(aG:Operand->aF)(args:List Operand)(cX:List TypeId):ar (Option eb):=
 match args,cX with
 | [x],[t]=>match T t,use (aG x) with
  | .slice _,(cg,.cV)=>bA cg True (.val (.int .i64) 0)
  | _,_=>.none
 | _,_=>.none
def ny(t:af):Bool:=match t with | .ay (.slice _) .cA=>true | _=>false
def BT(t:af)(y:t.ai):Option ((e:af)×List e.ai):=match t,y with | .ay (.slice e) .cA,y=>some ⟨e,y.1⟩ | _,_=>none
def Fa(a6:Nat->Option aL)(aG:Operand->aF)(d:Option Nat)(k:Nat)(args:List Operand):ar (Option eb):=
 let l:=args.map aG
 match a6 k with
 | some c=>(iN c.ts (l.map λv=>(use v).2)).cx λ(x,fl)=>match BT c.tr (c.g x) with
  | some y=>(jy fl).bind λwl=>hU d λb g=>if fl.contains b then none else some ⟨jz l,c.pre x,.own b g,wl++[(b,⟨g,.a8 y.1 y.2⟩)]⟩
  | none=>(if c.tr.pure then .ret [] else jy fl:ar (List (Nat×bw))).bind λwl=>.ret (some ⟨jz l,c.pre x,qH c.tr (c.g x),wl⟩)
 | none=>.none
def y3{k v:af}(es:List (k.ai×v.ai))(x:k.ai):Option v.ai:=(es.find? λp=>gn k x p.1).map (·.2)
def lz{k v:af}:List (k.ai×v.ai)->k.ai->v.ai->List (k.ai×v.ai)
 | [],x,y=>[(x,y)]
 | p::es,x,y=>if gn k x p.1=true then (p.1,y)::es else p::lz es x y
def td(k:af):Bool:=k.kH&&decide (k.j0<=100)
def BU(k v:af)(m:aF):ar (Option (List (k.ai×v.ai))):=
 match m with
 | .val t es=>.ret (eE t (.map k v) es)
 | .jt (.map none)=>.ret (some [])
 | .fs b g=>.eD b λx=>.ret (if x.gen=g then (match x.body with
   | .mp k' hS es=>eE (.map k' hS) (.map k v) es
   | .i_ k' hS es=>eE (.map k' hS) (.map k v) es
   | _=>none) else none)
 | _=>.none
def Rj(v:af)(r:Option v.ai)(ok:Bool):aF:=
 match ok with
 | true=>.pT 2 (gP [.val v (r.getD v.cP),.val .bool r.isSome])
 | false=>.val v (r.getD v.cP)
def y4(T:Nat->af)(aG:Operand->aF)(ty:TypeId)(m x:Operand)(ok:Bool):ar (Option eb):=
 match T ty with
 | .map k v=>let (uQ,JU):=use (aG m);let (cg,dG):=use (aG x);if td k&&(v.ef||v.isAgg) then
   (BU k v JU).cx λes=>(di k dG).cx λ(y,_)=>
    bA (uQ/\cg) True (Rj v (y3 es y) ok)
  else .none
 | _=>.none
def qJ(T:Nat->af)(aG:Operand->aF)(ty:TypeId)(m x y:Operand):ar (Option eb):=
 match T ty with
 | .map k v=>let (uQ,JU):=use (aG m);let (cg,dG):=use (aG x);let (nx,km):=use (aG y);if td k then
   match JU with
   | .fs b g=>(di k dG).cx λ(x,n7)=>(di v km).cx λ(y,n8)=>(jy (n7++n8)).bind λwl=>.eD b λz=>.ret (if z.gen=g/\!(n7++n8).contains b then (match z.body with
     | .mp k' hS es=>(eE (.map k' hS) (.map k v) es).map λes=>⟨uQ/\cg/\nx,True,.undef,wl++[(b,⟨z.gen,.mp k v (lz es x y)⟩)]⟩
     | _=>none) else none)
   | _=>.none
  else .none
 | _=>.none
def Fb(T:Nat->af)(aG:Operand->aF)(d:Option Nat)(ty:TypeId)(l c:Operand):ar (Option eb):=
 match T ty with
 | .slice e=>let (ol,acB):=use (aG l);let (oc,acC):=use (aG c);match acB.l6,acC.l6 with
  | some (.i64,n),some (.i64,m)=>hU d λb g=>some ⟨ol/\oc,0<=n/\n=m/\b2 n.toNat,.own b g,[(b,⟨g,.a8 e (List.replicate n.toNat e.cP)⟩)]⟩
  | _,_=>.none
 | _=>.none
def fO{aq:Type}(xs:List aq)(lo:Nat)(ys:List aq):List aq:=xs.take lo++ys++xs.drop (lo+ys.length)
def Fc(T:Nat->af)(aG:Operand->aF)(args:List Operand)(cX:List TypeId):ar (Option eb):=
 match args,cX with
 | [x,y],[t,u]=>match T t,T u with
  | .slice e,.slice _=>let (cg,dG):=use (aG x);let (nx,km):=use (aG y);match (match dG with | .own b g=>some (b,g,0,none) | .sub b g lo G=>some (b,g,lo,some G) | _=>none:Option (Nat×Nat×Nat×Option Nat)) with
   | some (b,g,lo,G)=>(di (.slice e) km).cx λ(ys,_)=>.eD b λz=>.ret (if z.gen=g then (match z.body with
     | .a8 aV xs=>if h:aV=e then some ⟨cg/\nx,True,.val (.int .i64) ((min (G.getD xs.length - lo) ys.length:Nat):Int),[(b,⟨z.gen,.a8 e (fO (h ▸ xs) lo (ys.take (G.getD xs.length - lo)))⟩)]⟩ else none
     | _=>none) else none)
   | none=>.none
  | _,_=>.none
 | _,_=>.none
def wP(aG:Operand->aF)(args:List Operand):Option (Nat×Nat×Nat×Nat):=
 match args with
 | [x,y]=>match (use (aG x)).2,(use (aG y)).2 with
  | .sub b g lo G,.sub a1 g' _ _=>if a1=b/\g'=g then some (b,g,lo,G) else none
  | _,_=>none
 | _=>none
def BV(T:Nat->af)(aG:Operand->aF)(args:List Operand)(cX:List TypeId)(b g lo G:Nat):ar (Option eb):=
 match args,cX with
 | [x,y],[t,u]=>match T t,T u with
  | .slice e,.slice _=>let (cg,_):=use (aG x);let (nx,km):=use (aG y);(di (.slice e) km).cx λ(ys,_)=>.eD b λz=>.ret (if z.gen=g then (match z.body with
    | .a8 aV xs=>if h:aV=e then some ⟨cg/\nx,G+ys.length<=xs.length,.sub b g lo (G+ys.length),[(b,⟨z.gen,.a8 e (fO (h ▸ xs) G ys)⟩)]⟩ else none
    | _=>none) else none)
  | _,_=>.none
 | _,_=>.none
def BW(T:Nat->af)(aG:Operand->aF)(args:List Operand)(cX:List TypeId):ar (Option eb):=
 match args,cX with
 | [x],[t]=>match T t with
  | .slice e=>let (cg,dG):=use (aG x);match dG with
   | .sub b g lo G=>.eD b λz=>.ret (if z.gen=g then (match z.body with
     | .a8 aV xs=>if h:aV=e then some ⟨cg,True,.undef,[(b,⟨z.gen,.a8 e (fO (h ▸ xs) lo (List.replicate (G - lo) e.cP))⟩)]⟩ else none
     | _=>none) else none)
   | _=>.none
  | _=>.none
 | _,_=>.none
def mA(T:Nat->af)(a6:Nat->Option aL)(aG:Operand->aF)(d:Option Nat)(c:Call):ar (Option eb):=
 match c.callee with
 | .builtin b=>match b with
  | .len=>BQ T aG c.args.toList c.argTypes.toList
  | .append=>match wP aG c.args.toList with
   | some (b,g,lo,G)=>BV T aG c.args.toList c.argTypes.toList b g lo G
   | none=>BR T aG d c.args.toList c.argTypes.toList
  | .clear=>BW T aG c.args.toList c.argTypes.toList
  | .copy=>Fc T aG c.args.toList c.argTypes.toList
  | .min=>rM aG (λa b=>if b<a then b else a) c.args.toList
  | .max=>rM aG (λa b=>if b > a then b else a) c.args.toList
  | .cap=>BS T aG c.args.toList c.argTypes.toList
  | _=>.none
 | .value f=>match f with
  | .func k=>Fa a6 aG d k c.args.toList
  | _=>.none
 | _=>.none
def uR(ys:z1'):List UInt8:=ys.map λn=>UInt8.ofNat n.toNat
def Rk(t:af)(bT:Prop)(b g i:Nat):ar (Option eb):=
 .eD b λz=>.ret (match z.body with
  | .fQ _ _ kZ v=>if z.gen=g/\t.ef=true then some ⟨bT,i=kZ,v,[]⟩ else none
  | _=>none)
def JV(t:af)(bT:Prop)(b g i:Nat)(v:aF):ar (Option eb):=
 match v with
 | .own a1 g'=>.eD b λz=>.ret (match z.body with
  | .fQ e xs kZ _=>if z.gen=g/\t.ef=true then some ⟨bT,i=kZ,.undef,[(b,⟨z.gen,.fQ e xs kZ (.own a1 g')⟩)]⟩ else none
  | _=>none)
 | _=>.none
def bh(U:dm)(T:Nat->af)(a6:Nat->Option aL)(aG:Operand->aF)(o:Oper):ar (Option eb):=
 match o.op with
 | .move x=>bA True True (aG x)
 | .assign x=>match aG x,T o.type with
  | .cV,.slice e=>hU o.dst λb g=>some ⟨True,True,.own b g,[(b,⟨g,.a8 e []⟩)]⟩
  | v,_=>bA True True v
 | .pick c a b=>match use (aG c) with
  | (oc,.val .bool iP)=>match a,b with
   | _,.const (.bool false)=>match use (aG a) with
    | (y5,.val .bool av)=>bA (oc/\(iP=true->y5)) True (.val .bool (iP&&av))
    | _=>.none
   | .const (.bool true),_=>match use (aG b) with
    | (bT,.val .bool bv)=>bA (oc/\(iP=false->bT)) True (.val .bool (iP||bv))
    | _=>.none
   | _,_=>.none
  | _=>.none
 | .binOp op ty x y _=>
  let (cg,dG):=use (aG x)
  let (nx,km):=use (aG y)
  match dG.l6,km.l6 with
  | some (k,a),some (k',b)=>(match op with
   | .shl | .shr=>match JS op k a b with
    | some (c,v)=>bA (cg/\nx) c v
    | none=>.none
   | _=>if k=k' then (match y0 op k a b with
    | some (c,v)=>bA (cg/\nx) c v
    | none=>.none) else .none)
  | _,_=>match dG.tb,km.tb with
   | some a,some b=>match BO op a b with
    | some (c,v)=>bA (cg/\nx) c v
    | none=>.none
   | _,_=>(y1 op (T ty) dG km).cx λ(c,v)=>bA (cg/\nx) c v
 | .unOp op _ x=>match op,use (aG x) with
  | .not,(cg,.val .bool b)=>bA cg True (.val .bool (!b))
  | .neg,(cg,.val (.int k) n)=>bA cg True (.val (.int k) (k.wrap (0 - n)))
  | _,_=>.none
 | .extract x i=>match use (aG x) with
  | (cg,.pT n f)=>if i<n then bA cg True (f i) else .none
  | _=>.none
 | .nilCheck x=>match use (aG x) with
  | (cg,.iL b g i)=>.eD b λz=>.ret (if z.gen=g&&z.body.eZ then some ⟨cg,True,.iL b g i,[]⟩ else none)
  | (cg,.dD t d)=>bA cg True (.dD t d)
  | (cg,.val (.br e) p)=>bA cg (p.isSome=true) (.dD e (p.getD e.cP))
  | (cg,.loc b g off)=>.eD b λz=>.ret (if z.gen=g&&z.body.ft then some ⟨cg,True,.loc b g off,[]⟩ else none)
  | _=>.none
 | .fieldAddr ty x f=>match T ty with
  | .st t=>match l4 t f with
   | some (_,wQ)=>match use (aG x) with
    | (cg,.loc b g off)=>.eD b λz=>.ret (if z.gen=g&&z.body.ft then some ⟨cg,True,.loc b g (off+wQ),[]⟩ else none)
    | (cg,.n5 b g i off)=>.eD b λz=>.ret (if z.gen=g&&z.body.eZ then some ⟨cg,True,.n5 b g i (off+wQ),[]⟩ else none)
    | (cg,.iL b g i)=>.eD b λz=>.ret (if z.gen=g&&z.body.eZ&&wQ == 0 then some ⟨cg,True,.iL b g i,[]⟩ else none)
    | (cg,.dD (.st cE) d)=>if cE=t then (match uM cE d f with
     | some ⟨s',y⟩=>bA cg True (.dD s' y)
     | none=>.none) else .none
    | _=>.none
   | none=>.none
  | _=>.none
 | .field ty x f=>match T ty with
  | .st t=>match use (aG x) with
   | (cg,.val (.st cE) d)=>if cE=t then (match uM cE d f with
     | some ⟨s',y⟩=>bA cg True (.val s' y)
     | none=>.none) else .none
   | _=>.none
  | _=>.none
 | .load ty x=>match use (aG x) with
  | (cg,.iL b g i)=>Rk (T ty) cg b g i
  | (cg,dG)=>(y2 (T ty) dG).cx λv=>bA cg True v
 | .store ty x y=>let (nx,km):=use (aG y);match use (aG x) with
  | (cg,.iL b g i)=>JV (T ty) (cg/\nx) b g i km
  | (cg,dG)=>(Re (T ty) dG km).cx λwl=>.ret (some ⟨cg/\nx,True,.undef,wl⟩)
 | .alloc ty=>hU o.dst λb g=>if T ty=.cA then none else some ⟨True,True,.loc b g 0,[(b,⟨g,.cells (T ty) (gP (rJ (T ty)))⟩)]⟩
 | .box ty x=>let (cg,dG):=use (aG x);match cellsOf (T ty) dG with
  | some l=>hU o.dst λb g=>if l.length=(T ty).size then some ⟨cg,True,.loc b g 0,[(b,⟨g,.cells (T ty) (gP l)⟩)]⟩ else none
  | none=>.none
 | .build ty ps=>let l:=ps.toList.map λp=>(p.1,aG p.2);match T ty with
  | .st t=>match E9 t (rJ t) (ir l) with
   | some cs=>bA (rL l) True (.agg cs.length (gP cs))
   | none=>.none
  | .array m e=>(tc e (ir l) 0 m).cx λ(xs,fl)=>if (fl.isEmpty&&decide ((ir l).map (·.1)).Nodup&&(ir l).all (λp=>decide (p.1<m)))=true then bA (rL l) True (.val (.array m e) xs) else .none
  | _=>.none
 | .buildSlice ty n ps=>let l:=ps.toList.map λp=>(p.1,aG p.2);match T ty with
  | .slice e=>(tc e (ir l) 0 n).cx λ(xs,fl)=>(jy fl).bind λwl=>hU o.dst λb g=>if n*e.size<=65536/\(!fl.contains b&&decide ((ir l).map (·.1)).Nodup&&(ir l).all (λp=>decide (p.1<n)))=true then some ⟨rL l,True,.own b g,wl++[(b,⟨g,.a8 e xs⟩)]⟩ else none
  | _=>.none
 | .indexAddr ty x i=>let (cg,dG):=use (aG x);let (wR,vi):=use (aG i);match T ty,vi.l6 with
  | .slice e,some (_,n)=>(Rf e dG n).cx λ(c,v)=>bA (cg/\wR) c v
  | .array m e,some (_,n)=>match dG with
   | .dD (.array df aV) xs=>if df=m/\aV=e then bA (cg/\wR) (0<=n/\n<(m:Int)) (.dD aV (kG aV xs n)) else .none
   | .loc b g off=>.eD b λz=>.ret (if z.gen=g&&z.body.ft then some ⟨cg/\wR,0<=n/\n<(m:Int),.loc b g (off+n.toNat*e.size),[]⟩ else none)
   | _=>.none
  | _,_=>.none
 | .index ty x i=>let (cg,dG):=use (aG x);let (wR,vi):=use (aG i);match T ty,dG.tb,vi.l6 with
  | .str,some s,some (_,n)=>bA (cg/\wR) (0<=n/\n<(s.length:Int)) (.val (.int .u8) ((s.getD n.toNat 0).toNat:Int))
  | .array m e,_,some (_,n)=>match dG with
   | .val (.array df aV) xs=>if df=m/\aV=e then bA (cg/\wR) (0<=n/\n<(m:Int)) (.val aV (kG aV xs n)) else .none
   | .agg k f=>if k=m*e.size then bA (cg/\wR) (0<=n/\n<(m:Int)) (if e.isAgg=true then .agg e.size (λq=>f (n.toNat*e.size+q)) else f (n.toNat*e.size)) else .none
   | _=>.none
  | _,_,_=>.none
 | .convert a b x=>let (cg,dG):=use (aG x);match T a,T b,dG.l6 with
  | .int _,.int k,some (_,n)=>bA cg True (.val (.int k) (k.wrap n))
  | .slice (.int .u8),.str,_=>(di (.slice (.int .u8)) dG).cx λ(ys,_)=>bA cg True (.val .str (uR ys))
  | _,_,_=>.none
 | .makeFunc fn first cH=>match fn with
  | .func k=>let l:=cH.toList.map aG;if first.isEmpty then (match U.s9 k with
   | some v=>(iN (fP (v.cs.map .br)) (l.map λv=>(use v).2)).cx λ(y,fl)=>(jy fl).bind λwl=>.ret (some ⟨jz l,True,.val (.fn (fP v.as) v.tr) (λx=>v.sh (E3 v.as (v.cs.map .br) x y)),wl⟩)
   | none=>match U.wI k with
    | some v=>(iN (fP (v.cs.map .br)) (l.map λv=>(use v).2)).cx λ(y,fl)=>(jy fl).bind λwl=>.ret (some ⟨jz l,True,.val (.b9 v.aK) (v.S y),wl⟩)
    | none=>bA (jz l) True (.il k l.length (gP (l.map λv=>(use v).2)))) else (if cH.isEmpty then bA (jz (first.toList.map aG)) True (.rI k first.size (gP ((first.toList.map aG).map λv=>(use v).2))) else .none)
  | _=>.none
 | .makeMap ty r=>if r.isSome then .none else match T ty with
  | .map k v=>hU o.dst λb g=>some ⟨True,True,.fs b g,[(b,⟨g,.mp k v []⟩)]⟩
  | _=>.none
 | .lookup ty m x ok=>y4 T aG ty m x ok
 | .mapUpdate ty m x y=>qJ T aG ty m x y
 | .insert ty m x y=>qJ T aG ty m x y
 | .makeSlice ty l c=>Fb T aG o.dst ty l c
 | .makeInterface _ _=>bA True False .undef
 | .panic _=>bA True False .undef
 | .slice ty x lo G oW=>if oW.isSome then E' T aG ty x lo G oW else E_ T aG ty x lo G
 | .call c=>mA T a6 aG o.dst c
 | _=>.none
def dy(r:Option Nat):Fence:={ Fence.wide with round:=r }
section
variable {P:Program} {w:World}
theorem dk{t:TypeId}{d:TypeDesc}(h:P.underlying t=some d):(underlying t).run P w=.ok d w:=by simp[underlying,h]
theorem Fe{t:TypeId}{i:TypeInfo}(h:P.info? t=some i):(typeInfo t).run P w=.ok i w:=by simp[typeInfo,h]
theorem rN{t:TypeId}{i:TypeInfo}(h:P.info? t=some i):(sizeOf t).run P w=.ok i.size w:=by simp[sizeOf,Fe h]
theorem qK{t:TypeId}{i:TypeInfo}{z:Value}(h:P.info? t=some i)(ba:i.zero=some z):(zeroValue t).run P w=.ok z w:=by simp[zeroValue,Fe h,ba]
theorem bQ.size{t:af}{id:TypeId}(h:bQ P t id):(sizeOf id).run P w=.ok t.size w:=by
 obtain⟨i,z,h1,h2,_⟩:=kk h.kj;rw[rN h1,h2]
theorem bQ.st{t:af}{id:TypeId}(h:bQ P (.st t) id):∃ eF,P.underlying id=some (.struct eF):=by
 unfold bQ at h;simp only[cm,Bool.and_eq_true]at h;grind
theorem bQ.sl{e:af}{id:TypeId}(h:bQ P (.slice e) id):∃ i,P.underlying id=some (.slice i)/\bQ P e i/\e.size≠0:=by
 unfold bQ at h;simp only[cm,Bool.and_eq_true]at h;obtain⟨_,h⟩:=h;split at h
 ·rename_i i G;simp only[Bool.and_eq_true,bne_iff_ne,ne_eq]at h;exact⟨i,G,h.1,h.2⟩
 grind
theorem acD:∀ (t:af) {l:List Field} {Ff f off:Nat} {s:af},cm P t (.inr (l,Ff))=true->l4 t f=some (s,off)->
  ∃ nz,l[f]?=some nz/\nz.offset=Ff+off/\bQ P s nz.type/\s.size≠0:=by
 intro t;induction t with
 | ay a b fk eu=>
  intro l Ff f off s h au;match l,h with
  | [],h=>simp only[cm,Bool.false_eq_true]at h
  | [x],h=>simp only[cm,Bool.false_eq_true]at h
  | [x,y],h=>
   simp only[cm,Bool.and_eq_true,beq_iff_eq,bne_iff_ne,ne_eq]at h;obtain⟨⟨⟨⟨h1,h2⟩,h3⟩,_⟩,⟨⟨aT,bx⟩,c_⟩,_⟩:=h;cases f with
   | zero=>simp only[l4,Option.some.injEq,Prod.mk.injEq]at au;obtain⟨rfl,rfl⟩:=au;exact⟨x,rfl,h1,h2,h3⟩
   | succ f=>
    simp only[l4,Option.map_eq_some_iff,Prod.mk.injEq]at au;obtain⟨⟨s',hF⟩,au,rfl,rfl⟩:=au;have ad:∃ u,l4 b f=some u/\f=0/\u=(b,0):=by
     cases b<;>cases f<;>simp only[l4,reduceCtorEq]at au<;>first
      | exact⟨_,au,rfl,by cases au;rfl⟩
      | (simp only[cm,Bool.false_eq_true]at bx)
    obtain⟨u,hu,rfl,rfl⟩:=ad;rw[hu]at au;cases au;exact⟨y,rfl,by omega,bx,c_⟩
  | x::y::z::l,h=>
   simp only[cm,Bool.and_eq_true,beq_iff_eq,bne_iff_ne,ne_eq]at h;obtain⟨⟨⟨⟨h1,h2⟩,h3⟩,_⟩,aT⟩:=h;cases f with
   | zero=>simp only[l4,Option.some.injEq,Prod.mk.injEq]at au;obtain⟨rfl,rfl⟩:=au;exact⟨x,rfl,h1,h2,h3⟩
   | succ f=>
    simp only[l4,Option.map_eq_some_iff,Prod.mk.injEq]at au;grind
 | _=>intro l Ff f off s h _;simp only[cm,Bool.false_eq_true]at h
theorem bQ.field{t s:af}{id f off:Nat}(h:bQ P (.st t) id)(au:l4 t f=some (s,off)) :
  ∃ eF nz,P.underlying id=some (.struct eF)/\eF[f]?=some nz/\nz.offset=off/\bQ P s nz.type/\s.size≠0:=by
 unfold bQ at h;simp only[cm,Bool.and_eq_true]at h;obtain⟨_,h⟩:=h;split at h
 ·rename_i eF ja;refine⟨eF,?_⟩;have eG:∀ {nz},eF.toList[f]?=some nz->eF[f]?=some nz:=λh=>by grind
  split at h
  ·rename_i an;rw[of_decide_eq_true h]at au;cases f<;>cases au
  ·rename_i x an;simp only[Bool.and_eq_true,beq_iff_eq,bne_iff_ne,ne_eq]at h;have ad:f=0/\(s,off)=(t,0):=by
    cases t<;>cases f<;>simp only[l4,reduceCtorEq]at au<;>first
     | exact⟨rfl,by cases au;rfl⟩
     | (have:=h.1.1.2;simp only[cm,Bool.false_eq_true]at this)
   obtain⟨rfl,ad⟩:=ad;cases ad;exact⟨x,ja,eG (by grind),h.1.1.1,h.1.1.2,h.1.2⟩
  ·obtain⟨nz,aP,aQ,bB⟩:=acD t h au;grind
 grind
def kn(w:World)(p:Addr)(cs:List Value):Prop:=(0<cs.length->p.spot=none)/\∀ j (h:j<cs.length),w.cell? ⟨p.block,p.off+j,none⟩=some cs[j]
theorem Holds.JW{F:Nat->Prop}{p:Addr}{cs:List Value}(h:Holds F w p cs):kn w p cs:=⟨λ_=>h.2.1,h.2.2⟩
theorem Fg{p:Addr}{cs:List Value}(h:kn w p cs):(loadCells p cs.length).run P w=.ok cs.toArray w:=by
 obtain⟨hs,hc⟩:=h;refine run_loadCells_list w p cs λj v aD=>?_;obtain⟨fB,rfl⟩:=List.getElem?_eq_some_iff.1 aD;have hp:p=⟨p.block,p.off,none⟩:=by have:=hs (by omega);cases p;simp_all
 have:=hc j fB;have y6:p.add j=⟨p.block,p.off+j,none⟩:=by
  unfold Addr.add;grind
 grind
theorem y7{t:af}{id:TypeId}(h:bQ P t id):(isAgg id).run P w=.ok t.isAgg w:=by
 unfold bQ at h;unfold isAgg;cases t<;>simp only[cm,Bool.and_eq_true,Bool.false_eq_true]at h<;>(obtain⟨_,h⟩:=h;split at h)<;>
  first
   | (rename_i hu;simp[dk hu,af.isAgg];done)
   | (cases h;done)
   | (rename_i hu;simp[dk hu,af.isAgg])
theorem JX{F:Nat->Prop}{p:Addr}{cs:List Value}{t:af}{id:TypeId}{x:t.ai}(h:bQ P t id)(cB:kn w p cs)(hx:bu P t F w cs x) :
  ∃ v,(loadVar id p).run P w=.ok v w/\dU P t F w v x:=by
 have hlen:=hC t hx;by_cases aU:t.isAgg=true
 ·refine⟨.agg cs.toArray,?_,?_,by simpa [Value.cells]using hx⟩
  ·have:=Fg (P:=P) cB;rw[hlen]at this;simp[loadVar,y7 h,aU,h.size,this]
  ·cases t<;>simp only[af.isAgg,Bool.false_eq_true]at aU
   ·exact⟨cs.toArray,rfl,by simpa [af.size]using hlen⟩
   ·exact⟨cs.toArray,rfl,by simpa [af.size]using hlen⟩
 ·have an:t.ef=true:=by
   cases t<;>simp only[af.isAgg,not_true]at aU<;>first | rfl | (unfold bQ at h;simp only[cm,Bool.false_eq_true]at h)
  obtain⟨u,rfl,hu⟩:=BG an hx;refine⟨u,?_,(dC an).2 ⟨hu,hx⟩⟩;have hc:=cB.2 0 (by simp);have hp:p=⟨p.block,p.off+0,none⟩:=by have:=cB.1 (by simp);cases p;simp_all
  rw[<-hp]at hc;simp[loadVar,y7 h,aU,hc]
end
section
variable {r:Option Nat} {P:Program} {o:Oper} {a:Act} {w w':World} {K:Act->World->Prop} {Q:Exit->Act->World->Prop}
theorem y8(aw:∀ c,o.op≠.defer c):o.semAt (dy r).round a.eval=execOp a.eval o:=Oper.semAt_eq _ _ _ aw
theorem ha{v:Value}(aw:∀ c,o.op≠.defer c)(h:(execOp a.eval o).run P w=.ok (.value v) w')(aj:K (a.put o.dst v) w'):o.wpIn (dy r) 0 P a w K Q:=by
 refine⟨λ_ _=>trivial,?_⟩;rw[y8 aw,h];exact aj
theorem Fh(aw:∀ c,o.op≠.defer c)(h:(execOp a.eval o).run P w=.ok .skip w')(aj:K (a.put o.dst Go.undef) w'):o.wpIn (dy r) 0 P a w K Q:=by
 refine⟨λ_ _=>trivial,?_⟩;rw[y8 aw,h];exact aj
end
def az.fK(s:az):List (Nat×bw)->az
 | []=>s
 | p::l=>(s.cb p.1 p.2).fK l
def az.hW(s:az)(d:Option Nat)(res:eb):az:=(s.fK res.hk).set d res.eR
def cp(C:bS)(o:Oper)(s:az)(res:eb):Prop:=
 ∀ a w κ F Q,bc C s a w κ F->res.bT->res.c->o.wpIn (dy C.r) 0 C.P a w (λa' w'=>b' C (s.hW o.dst res) a' w') Q
theorem cp.pure{C:bS}{o:Oper}{s:az}{bT c:Prop}{eR:aF}(aw:∀ c,o.op≠.defer c)(a7:∀ i,o.dst=some i->i<C.nt)
  (h:∀ a w κ F,bc C s a w κ F->bT->c->∃ v,(execOp a.eval o).run C.P w=.ok (.value v) w/\bl C.P s.ae κ F w eR v):cp C o s ⟨bT,c,eR,[]⟩:=by
 intro a w κ F Q aa aZ hc;obtain⟨v,h1,h2⟩:=h a w κ F aa aZ hc;exact ha aw h1 ⟨κ,F,aa.set a7 h2⟩
section
variable {P:Program} {H:Nat->bw} {κ:Nat->bo} {F:Nat->Prop} {w:World}
theorem oX{av:aF}{v:Value}(h:bl P H κ F w av v)(hu:(use av).1):bl P H κ F w (use av).2 v:=by
 cases av<;>first | exact h | exact h.1 hu
theorem acE(v:Value):bl P H κ F w (wO v) v:=by
 unfold wO;split
 ·exact eY.2 rfl
 ·split
  ·rename_i h;exact gB.2 ⟨rfl,h⟩
  ·rfl
 ·split
  ·rename_i s h;refine l1.2 ⟨by simp,?_⟩;have:s.data.toList.length=s.size:=by rfl
   omega
  ·rfl
 ·rfl
 ·rfl
theorem j1{C:bS}{s:az}{a:Act}{w:World}{κ:Nat->bo}{F:Nat->Prop}(h:bc C s a w κ F)(x:Operand):bl C.P s.ae κ F w (aW C.aM s.ax x) (a.eval x):=by
 cases x with
 | tmp t=>exact h.bG t
 | const v=>exact acE v
 | func f=>
  show bl _ _ _ _ _ (match C.aM.s8 f with | some v=>.val (.fn v.ts v.tr) v.sh | none=>.il f 0 λ_=>.undef) (.func (.func f) #[] #[]);split
  ·rename_i v hv;exact (dC rfl).2 ⟨rfl,aco (h.jw.s8 f v hv) F w⟩
  ·exact⟨[],rfl,rfl,λi G=>by omega⟩
 | global g=>trivial
theorem n9{av:aF}{v:Value}{k:IntKind}{n:Int}(h:bl P H κ F w av v)(G:av.l6=some (k,n)):v=.int k n/\fA k n:=by
 unfold aF.l6 at G;split at G
 ·cases G;exact gB.1 h
 grind
theorem JY{av:aF}{v:Value}{s:List UInt8}(h:bl P H κ F w av v)(G:av.tb=some s):v=.string ⟨s.toArray⟩/\s.length<2 ^ 63:=by
 unfold aF.tb at G;split at G
 ·cases G;exact l1.1 h
 grind
end
theorem pY(k:IntKind)(n:Int):fA k (k.wrap n):=by
 unfold fA IntKind.wrap;have h1:=Int.emod_nonneg n (b:=2 ^ k.bits) (by cases k<;>decide);have h2:=Int.emod_lt_of_pos n (b:=2 ^ k.bits) (by omega);cases k<;>simp only[IntKind.min,IntKind.max,IntKind.signed,IntKind.bits,Bool.true_and,Bool.false_and,Bool.false_eq_true,if_true,if_false,Nat.reduceSub,Int.reducePow]at h1 h2 ⊢<;>first
  | (constructor<;>split<;>first | (rename_i hc;have hc:=of_decide_eq_true hc;omega) | (rename_i hc;have hc:=mt decide_eq_true hc;omega))
  | omega
theorem acF{k:IntKind}{a b:Int}(aU:fA k a):fA k (a.tmod b):=by
 unfold fA at *
 have h1:k.min<=0/\0<=k.max:=by cases k<;>decide
 have h2:=Int.natAbs_tmod a b;have h3:=Nat.mod_le a.natAbs b.natAbs;rcases Int.le_total 0 a with h | h
 ·have:=Int.tmod_nonneg b h;omega
 ·have aT:(-a).tmod b=- (a.tmod b):=Int.neg_tmod a b;have:=Int.tmod_nonneg b (a:=-a) (by omega);omega
end Go.Fer
namespace Go.Fer
open Go.RowKit
theorem Rl{P:Program}{w:World}{t:af}{id:TypeId}(h:bQ P t id)(an:t.isAgg=false){cs:Array Value}{off:Nat}{v:Value}(hv:cs[off]?=some v) :
  (part id cs off).run P w=.ok v w:=by
 simp[part,y7 h,an,hv]
theorem Rm{P:Program}{w:World}{t:af}{id:TypeId}(h:bQ P t id)(an:t.isAgg=true){cs:Array Value}{off:Nat} :
  (part id cs off).run P w=.ok (.agg (cs.extract off (off+t.size))) w:=by
 simp[part,y7 h,an,h.size]
theorem qL{P:Program}{F:Nat->Prop}{w:World}{t:af}{id:TypeId}(h:bQ P t id){p c q:List Value}{cs:Array Value}{x:t.ai}(oY:cs.toList=p++(c++q))(hc:bu P t F w c x) :
  ∃ v,(part id cs p.length).run P w=.ok v w/\dU P t F w v x:=by
 have hlen:=hC t hc;by_cases aU:t.isAgg=true
 ·refine⟨_,Rm h aU,?_⟩;have he:(cs.extract p.length (p.length+t.size)).toList=c:=by
   simp_all
  have hv:(Value.agg (cs.extract p.length (p.length+t.size))).cells.toList=c:=he;refine⟨?_,by grind⟩;have bV:(cs.extract p.length (p.length+t.size)).size=t.size:=by grind
  cases t<;>simp only[af.isAgg,Bool.false_eq_true]at aU
  ·exact⟨_,rfl,by simpa [af.size]using bV⟩
  ·exact⟨_,rfl,by simpa [af.size]using bV⟩
 ·have an:t.ef=true:=by
   cases t<;>simp only[af.isAgg,not_true]at aU<;>first | rfl | (unfold bQ at h;simp only[cm,Bool.false_eq_true]at h)
  obtain⟨u,rfl,hu⟩:=BG an hc;refine⟨u,Rl h (by grind) ?_,(dC an).2 ⟨hu,hc⟩⟩;rw[<-Array.getElem?_toList,oY];simp
theorem bQ.BX{P:Program}{t:af}{id:TypeId}(h:bQ P (.st t) id):P.stoodInHeld id=false/\P.eqGuardType P.depth id=false/\
  (cm P t (.inr ((P.fieldsOf id).toList, 0)) = true \/ (∃ f, (P.fieldsOf id).toList = [f] /\ f.offset = 0 /\ bQ P t f.type /\ f.name ≠ "_") \/ (t = .cA /\ (P.fieldsOf id).toList = [])) /\ P.underlying id = some (.struct (P.fieldsOf id)) := by
 unfold bQ at h;simp only[cm,Bool.and_eq_true,Bool.not_eq_true']at h;obtain⟨⟨⟨_,h1⟩,h2⟩,h⟩:=h;split at h
 ·rename_i eF ja;have au:P.fieldsOf id=eF:=by simp[Program.fieldsOf,ja]
  rw[au];refine⟨h1,h2,?_,ja⟩;split at h
  ·grind
  ·rename_i x an;simp only[Bool.and_eq_true,beq_iff_eq,bne_iff_ne,ne_eq]at h;exact .inr (.inl ⟨x,an,h.1.1.1,h.1.1.2,h.2⟩)
  grind
 grind
theorem JZ{P:Program}{F:Nat->Prop}{w:World}:∀ (t:af) (d:Nat),t.kH=true->t.j0<=d->
  (∀ {id:TypeId} {v u:Value} {x y:t.ai},bQ P t id->dU P t F w v x->dU P t F w u y->(Op.equalIn d id v u).run P w=.ok (gn t x y) w)/\
  (∀ {l:List Field} {off:Nat} {xs ys:Array Value} {p c q p' c' q':List Value} {x y:t.ai},cm P t (.inr (l,off))=true->xs.toList=p++(c++q)->p.length=off->bu P t F w c x->
   ys.toList=p'++(c'++q')->p'.length=off->bu P t F w c' y->(Op.eqFields d xs ys l).run P w=.ok (gn t x y) w):=by
 intro t;induction t with
 | bool=>
  intro d _ aw;refine⟨λ{id v u x y} h h1 h2=>?_,λh=>by simp[cm]at h⟩;rw[eY.1 h1,eY.1 h2];obtain⟨d,rfl⟩:∃ e,d=e+1:=⟨d - 1,by simp only[af.j0]at aw;omega⟩
  unfold bQ at h;simp only[cm,Bool.and_eq_true]at h;obtain⟨_,h⟩:=h;split at h
  ·rename_i hu;rw[run_equalIn_bool' w d id x y hu];rfl
  grind
 | int k=>
  intro d _ aw;refine⟨λ{id v u x y} h h1 h2=>?_,λh=>by simp[cm]at h⟩;rw[(gB.1 h1).1,(gB.1 h2).1];obtain⟨d,rfl⟩:∃ e,d=e+1:=⟨d - 1,by simp only[af.j0]at aw;omega⟩
  unfold bQ at h;simp only[cm,Bool.and_eq_true]at h;obtain⟨_,h⟩:=h;split at h
  ·rename_i hu;rw[run_equalIn_int w d id k _ x y hu];rfl
  grind
 | str=>
  intro d _ aw;refine⟨λ{id v u x y} h h1 h2=>?_,λh=>by simp[cm]at h⟩;rw[(l1.1 h1).1,(l1.1 h2).1];obtain⟨d,rfl⟩:∃ e,d=e+1:=⟨d - 1,by simp only[af.j0]at aw;omega⟩
  unfold bQ at h;simp only[cm,Bool.and_eq_true]at h;obtain⟨_,h⟩:=h;split at h
  ·rename_i hu;rw[run_equalIn_string w d id _ _ hu,ByteArray.toList_eq,ByteArray.toList_eq];simp only[gn];grind
  grind
 | cA=>intro d h;cases h
 | slice e _=>intro d h;cases h
 | array n e _=>intro d h;cases h
 | br e _=>intro d h;cases h
 | map k v _ _=>intro d h;cases h
 | fn a b _ _=>intro d h;cases h
 | b9 a _=>intro d h;cases h
 | dT=>intro d h;cases h
 | ay a b fk eu=>
  intro d hc aw;simp only[af.kH,Bool.and_eq_true]at hc;simp only[af.j0]at aw;have ia:=fk d hc.1 (by omega);have oR:=eu d hc.2 (by omega);refine⟨λh=>by unfold bQ at h;simp[cm]at h,?_⟩;intro l off xs ys p c q p' c' q' x y h hx hp oZ aO BY y9;simp only[bu]at oZ y9;obtain⟨c1,c2,rfl,aP,aQ⟩:=oZ;obtain⟨d1,d2,rfl,m1,m2⟩:=y9;have eB:=hC a aP;have ns:=hC a m1;have step : ∀ (f : Field) (b5 : List Field), f.offset = off -> bQ P a f.type -> f.name ≠ "_" ->
    (Op.eqFields d xs ys (f::b5)).run P w=if gn a x.1 y.1=true then (Op.eqFields d xs ys b5).run P w else .ok false w:=by
   intro f b5 ah au aB;obtain⟨v,b3,cr⟩:=qL (cs:=xs) (p:=p) (c:=c1) (q:=c2++q) au (by grind) aP;obtain⟨u,eh,du⟩:=qL (cs:=ys) (p:=p') (c:=d1) (q:=d2++q') au (by grind) m1;simp only[Op.eqFields,aB,ne_eq,not_false_eq_true,if_true,Sem.run_bind];rw[ah,<-hp,b3,Result.andThen_ok,hp,<-BY,eh,Result.andThen_ok,ia.1 au cr du];cases gn a x.1 y.1<;>simp
  match l,h with
  | [],h=>simp only[cm,Bool.false_eq_true]at h
  | [f],h=>simp only[cm,Bool.false_eq_true]at h
  | [f,g],h=>
   simp only[cm,Bool.and_eq_true,beq_iff_eq,bne_iff_ne,ne_eq]at h;obtain⟨⟨⟨⟨h1,h2⟩,h3⟩,aT⟩,⟨⟨⟨bx,c_⟩,fN⟩,iZ⟩⟩:=h;rw[step f [g] h1 h2 aT];obtain⟨v,b3,cr⟩:=qL (cs:=xs) (p:=p++c1) (c:=c2) (q:=q) c_ (by grind) aQ;obtain⟨u,eh,du⟩:=qL (cs:=ys) (p:=p'++d1) (c:=d2) (q:=q') c_ (by grind) m2;have e1:(p++c1).length=g.offset:=by grind
   have e2:(p'++d1).length=g.offset:=by grind
   rw[e1]at b3;rw[e2]at eh;simp only[Op.eqFields,iZ,ne_eq,not_false_eq_true,if_true,Sem.run_bind,b3,eh,Result.andThen_ok,oR.1 c_ cr du,gn];cases gn a x.1 y.1<;>cases gn b x.2 y.2<;>simp
  | f::g::i::l,h=>
   simp only[cm,Bool.and_eq_true,beq_iff_eq,bne_iff_ne,ne_eq]at h;obtain⟨⟨⟨⟨h1,h2⟩,h3⟩,aT⟩,bx⟩:=h;rw[step f _ h1 h2 aT,oR.2 bx (p:=p++c1) (c:=c2) (q:=q) (p':=p'++d1) (c':=d2) (q':=q') (by grind) (by grind) aQ (by grind) (by grind) m2];simp only[gn];cases gn a x.1 y.1<;>simp
 | st t aJ=>
  intro d hc aw;simp only[af.j0]at aw;obtain⟨d,rfl⟩:∃ e,d=e+1:=⟨d - 1,by omega⟩
  refine⟨λ{id v u x y} h h1 h2=>?_,λh=>by simp[cm]at h⟩;have i:=aJ d hc (by omega);obtain⟨e1,e2,e3,e4⟩:=h.BX;obtain⟨⟨xs,rfl,hG⟩,oZ⟩:=h1;obtain⟨⟨ys,rfl,j2⟩,y9⟩:=h2;simp only[Value.cells,bu]at oZ y9;rw[run_equalIn_struct w d id xs ys e4 e1];rcases e3 with e3 | ⟨f,e3,eP,jV,ko⟩ | ⟨rfl,e3⟩
  ·exact i.2 e3 (p:=[]) (c:=xs.toList) (q:=[]) (p':=[]) (c':=ys.toList) (q':=[]) (by simp) rfl oZ (by simp) rfl y9
  ·rw[e3];obtain⟨v,b3,cr⟩:=qL (cs:=xs) (p:=[]) (c:=xs.toList) (q:=[]) jV (by simp) oZ;obtain⟨u,eh,du⟩:=qL (cs:=ys) (p:=[]) (c:=ys.toList) (q:=[]) jV (by simp) y9;simp only[List.length_nil]at b3 eh;simp only[Op.eqFields,ko,ne_eq,not_false_eq_true,if_true,Sem.run_bind,eP,b3,eh,Result.andThen_ok,i.1 jV cr du,gn];cases gn t x y<;>simp
  ·cases hc
theorem acG{k:IntKind}{a b:Int}(aU:fA k a):fA k (i' k a b):=by
 unfold fA at *
 unfold i';have h1:k.min<=0/\0<=k.max:=by cases k<;>decide
 generalize min b.toNat k.bits=n;have hp:(0:Int)<2 ^ n:=Int.pow_pos (by decide);rw[Int.fdiv_eq_ediv_of_nonneg _ (Int.le_of_lt hp)];rcases Int.le_total 0 a with h | h
 ·have h2:=Int.ediv_nonneg h (Int.le_of_lt hp);have h3:=Int.ediv_le_self (2 ^ n) h;omega
 ·have h2:a / 2 ^ n<=0:=by
   have:=Int.ediv_le_ediv hp h;simp_all
  have h3:a<=a / 2 ^ n:=by
   rw[Int.le_ediv_iff_mul_le hp];have aT:(1:Int)<=2 ^ n:=by omega
   have:=Int.mul_le_mul_of_nonpos_left (a:=a) h aT;omega
  omega
theorem Rn{P:Program}{w:World}(op:BinOp)(t:TypeId)(x y:Operand)(k k':IntKind)(a b:Int):(eqGuard op t x y (.int k a) (.int k' b)).run P w=.ok () w:=by
 cases op<;>simp[eqGuard]
theorem acH{P:Program}{w:World}(op:BinOp)(t:TypeId)(x y:Operand)(a b:ByteArray):(eqGuard op t x y (.string a) (.string b)).run P w=.ok () w:=by
 cases op<;>simp[eqGuard]
theorem acI{P:Program}{w:World}(op:BinOp)(t:TypeId)(x y:Operand)(a b:Bool):(eqGuard op t x y (.bool a) (.bool b)).run P w=.ok () w:=by
 cases op<;>simp[eqGuard]
theorem acJ{P:Program}{w:World}(op:BinOp)(t:TypeId)(x y:Operand)(a b:Option Addr):(eqGuard op t x y (.pointer a) (.pointer b)).run P w=.ok () w:=by
 cases op<;>simp[eqGuard]
section
variable {P:Program} {H:Nat->bw} {κ:Nat->bo} {F:Nat->Prop} {w:World}
theorem acK{op:BinOp}{k:IntKind}{a b:Int}{t:TypeId}{c:Prop}{v:aF}(h:y0 op k a b=some (c,v))(hc:c)(aU:fA k a) :
  ∃ u,(binOp op t (.int k a) (.int k b)).run P w=.ok u w/\bl P H κ F w v u:=by
 cases op<;>simp only[y0,Option.some.injEq,Prod.mk.injEq,reduceCtorEq]at h<;>obtain⟨rfl,rfl⟩:=h<;>simp only[bl];case add=>exact⟨_,by simp[binOp,Op.intArith],gB.2 ⟨rfl,pY _ _⟩⟩
 case sub=>exact⟨_,by simp[binOp,Op.intArith],gB.2 ⟨rfl,pY _ _⟩⟩
 case mul=>exact⟨_,by simp[binOp,Op.intArith],gB.2 ⟨rfl,pY _ _⟩⟩
 case quo=>exact⟨_,by simp[binOp,Op.intDiv,hc],gB.2 ⟨rfl,pY _ _⟩⟩
 case rem=>exact⟨_,by simp[binOp,Op.intDiv,hc],gB.2 ⟨rfl,acF aU⟩⟩
 case and=>exact⟨.int k (ly k a b),by simp only[binOp,ne_eq,not_true_eq_false,if_false,Op.intBits];rfl,gB.2 ⟨rfl,pY _ _⟩⟩
 case or=>exact⟨.int k (Q6 k a b),by simp only[binOp,ne_eq,not_true_eq_false,if_false,Op.intBits];rfl,gB.2 ⟨rfl,pY _ _⟩⟩
 case xor=>exact⟨.int k (Q7 k a b),by simp only[binOp,ne_eq,not_true_eq_false,if_false,Op.intBits];rfl,gB.2 ⟨rfl,pY _ _⟩⟩
 case andNot=>exact⟨.int k (Q8 k a b),by simp only[binOp,ne_eq,not_true_eq_false,if_false,Op.intBits];rfl,gB.2 ⟨rfl,pY _ _⟩⟩
 case eql=>exact⟨.bool (a == b),by simp[binOp,Op.intCmp],eY.2 (congrArg Value.bool (by rfl))⟩
 case neq=>exact⟨.bool (a != b),by simp[binOp,Op.intCmp],eY.2 (congrArg Value.bool (by grind))⟩
 case lss=>exact⟨_,by simp[binOp,Op.intCmp],eY.2 rfl⟩
 case leq=>exact⟨_,by simp[binOp,Op.intCmp],eY.2 rfl⟩
 case gtr=>exact⟨_,by simp[binOp,Op.intCmp],eY.2 rfl⟩
 case geq=>exact⟨_,by simp[binOp,Op.intCmp],eY.2 rfl⟩
theorem Ro{op:BinOp}{k k':IntKind}{a b:Int}{t:TypeId}{c:Prop}{v:aF}(h:JS op k a b=some (c,v))(hc:c)(aU:fA k a) :
  ∃ u,(binOp op t (.int k a) (.int k' b)).run P w=.ok u w/\bl P H κ F w v u:=by
 cases op<;>simp only[JS,Option.some.injEq,Prod.mk.injEq,reduceCtorEq]at h<;>obtain⟨rfl,rfl⟩:=h<;>simp only[bl];case shl=>exact⟨_,by simp[binOp,Op.shift,show ¬b<0 by omega];rfl,gB.2 ⟨rfl,pY _ _⟩⟩
 case shr=>exact⟨_,by simp[binOp,Op.shift,show ¬b<0 by omega];rfl,gB.2 ⟨rfl,acG aU⟩⟩
theorem acL{op:BinOp}{a b:List UInt8}{t:TypeId}{c:Prop}{v:aF}(h:BO op a b=some (c,v))(hc:c) :
  ∃ u,(binOp op t (.string ⟨a.toArray⟩) (.string ⟨b.toArray⟩)).run P w=.ok u w/\bl P H κ F w v u:=by
 have e:∀ l:List UInt8,(⟨l.toArray⟩:ByteArray).toList=l:=λl=>by simp
 cases op<;>simp only[BO,Option.some.injEq,Prod.mk.injEq,reduceCtorEq]at h<;>obtain⟨rfl,rfl⟩:=h<;>simp only[bl];case add=>
  unfold b2 at hc;have hs:((ByteArray.size ⟨a.toArray⟩+ByteArray.size ⟨b.toArray⟩:Nat):Int)=(a.length+b.length:Nat):=by rfl
  refine⟨.string ⟨(a++b).toArray⟩,?_,l1.2 ⟨rfl,by grind⟩⟩;simp only[binOp,Op.stringOp];rw[if_neg]
  ·rfl
  ·rw[hs];have:IntKind.i64.max=9223372036854775807:=by decide
   omega
 case eql=>exact⟨_,by rfl,eY.2 (by grind)⟩
 case neq=>exact⟨_,by rfl,eY.2 (by grind)⟩
 case lss=>exact⟨_,by simp only[binOp,Op.stringOp,e];rfl,eY.2 rfl⟩
 case geq=>exact⟨_,by simp only[binOp,Op.stringOp,e];rfl,eY.2 rfl⟩
end
end Go.Fer
namespace Go.Fer
open Go.RowKit
def dz(P:Program)(T:Nat->af):Prop:=∀ id,T id=.cA\/bQ P (T id) id
theorem dz.bU{P:Program}{T:Nat->af}(h:dz P T){id:Nat}{t:af}(e:T id=t)(aI:t≠.cA):bQ P t id:=by
 rcases h id with h | h
 ·exact absurd (e ▸ h) aI
 ·exact e ▸ h
theorem qM{d:Option Nat}{k:Nat->Nat->Option eb}{H:Nat->bw}{res:eb}(h:(hU d k).run H=some res) :
  ∃ b,d=some b/\k b ((H b).gen+1)=some res:=by
 unfold hU at h;cases d with
 | none=>cases h
 | some b=>
  simp_all
theorem bc.acM{C:bS}{s:az}{a:Act}{w:World}{κ:Nat->bo}{F:Nat->Prop}(h:bc C s a w κ F){b g:Nat}{e:af}(aA:(s.ae b).gen<g) :
  bc C (s.cb b ⟨g,.a8 e []⟩) a w (λi=>if i=b then ⟨0,0,0,true⟩ else κ i) F:=by
 have an:fe s.ae κ (λi=>if i=b then ⟨g,.a8 e []⟩ else s.ae i) (λi=>if i=b then ⟨0,0,0,true⟩ else κ i):=yV aA λa1 cQ=>by grind
 refine h.move (H':=λi=>if i=b then ⟨g,.a8 e []⟩ else s.ae i) an (λ_ aa=>aa) (λ_ aa=>.inl aa) (Nat.le_refl _) (λ_ _ _=>rfl) (cN.refl _) (λ_=>?_) ?_ ?_ h.cM (yW (.inr ⟨rfl,rfl⟩) λa1 cQ=>by grind)
 ·intro i;by_cases G:i=b
  ·subst G;simp only[cj,if_true];exact⟨λ_=>rfl,λaB=>by cases aB⟩
  ·exact cj.kX (h.bq i) an (λ_ aa=>aa) (cJ.refl _ _) (by grind) (by grind) λ_=>rfl
 ·intro i G;by_cases ev:i=b
  ·subst ev;simp[bC.bN]at G
  ·simp only[if_neg ev]at G ⊢;exact⟨(h.own i G).1,(h.own i G).2.1,.inl ⟨i,G,rfl⟩⟩
 ·intro i j G aD aV;by_cases ev:i=b
  ·subst ev;simp[bC.bN]at G
  ·by_cases l3:j=b
   ·subst l3;simp[bC.bN]at aD
   ·simp only[if_neg ev,if_neg l3]at G aD aV;exact h.inj i j G aD aV
section
variable {C:bS} {T:Nat->af} {a6:Nat->Option aL} {o:Oper} {s:az} {res:eb}
theorem acN{x:Operand}(a7:∀ i,o.dst=some i->i<C.nt)(ah:o.op=.move x)(h:(bh C.aM T a6 (aW C.aM s.ax) o).run s.ae=some res):cp C o s res:=by
 simp only[bh,ah,bA,ar.bz,Option.some.injEq]at h;subst h;exact cp.pure (by grind) a7 λa w κ F aa _ _=>⟨_,by simp[execOp,ah],j1 aa x⟩
theorem acO{x:Operand}(a7:∀ i,o.dst=some i->i<C.nt)(ah:o.op=.assign x)(h:(bh C.aM T a6 (aW C.aM s.ax) o).run s.ae=some res):cp C o s res:=by
 simp only[bh,ah]at h;split at h
 ·rename_i e hx aI;obtain⟨b,aw,aj⟩:=qM h;simp only[Option.some.injEq]at aj;subst aj;intro a w κ F Q aa _ _;refine ha (w':=w) (v:=a.eval x) (by grind) (by simp[execOp,ah]) ?_;have h2:=aa.acM (b:=b) (e:=e) (Nat.lt_succ_self _);have hv:=j1 aa x;rw[hx]at hv;simp only[bl]at hv;refine⟨_,_,bc.set h2 a7 ⟨⟨?_,by rw[hv];rfl⟩,λ_ _=>?_⟩⟩
  ·simp[az.cb]
  ·simp[hv,bo.slice]
 ·simp only[bA,ar.bz,Option.some.injEq]at h;subst h;exact cp.pure (by grind) a7 λa w κ F aa _ _=>⟨_,by simp[execOp,ah],j1 aa x⟩
theorem cv{a:Act}{w:World}{κ:Nat->bo}{F:Nat->Prop}(aa:bc C s a w κ F)(x:Operand){p:Prop}{av:aF}(hu:use (aW C.aM s.ax x)=(p,av))(hp:p):bl C.P s.ae κ F w av (a.eval x):=by
 have:=oX (j1 aa x) (by grind);grind
theorem acP{c x y:Operand}(a7:∀ i,o.dst=some i->i<C.nt)(ah:o.op=.pick c x y)(h:(bh C.aM T a6 (aW C.aM s.ax) o).run s.ae=some res):cp C o s res:=by
 simp only[bh,ah]at h;split at h
 ·rename_i oc iP hc;split at h
  ·split at h
   ·rename_i y5 av aU;simp only[bA,ar.bz,Option.some.injEq]at h;subst h;refine cp.pure (by grind) a7 λa w κ F aa aZ _=>?_;have h1:=eY.1 (cv aa c hc aZ.1);cases iP with
    | false=>
     have e0:a.eval (.const (.bool false))=.bool false:=rfl;exact⟨.bool false,by simp[execOp,ah,h1,asBool,e0],eY.2 rfl⟩
    | true=>
     have h2:=eY.1 (cv aa x aU (aZ.2 rfl));exact⟨.bool av,by simp[execOp,ah,h1,asBool,h2],eY.2 rfl⟩
   ·cases h
  ·split at h
   ·rename_i bT bv ad;simp only[bA,ar.bz,Option.some.injEq]at h;subst h;refine cp.pure (by grind) a7 λa w κ F aa aZ _=>?_;have h1:=eY.1 (cv aa c hc aZ.1);cases iP with
    | true=>
     have e0:a.eval (.const (.bool true))=.bool true:=rfl;exact⟨.bool true,by simp[execOp,ah,h1,asBool,e0],eY.2 rfl⟩
    | false=>
     have h2:=eY.1 (cv aa y ad (aZ.2 rfl));exact⟨.bool bv,by simp[execOp,ah,h1,asBool,h2],eY.2 rfl⟩
   ·cases h
  ·cases h
 ·cases h
theorem acQ{op:UnOp}{ty:TypeId}{x:Operand}(a7:∀ i,o.dst=some i->i<C.nt)(ah:o.op=.unOp op ty x)(h:(bh C.aM T a6 (aW C.aM s.ax) o).run s.ae=some res):cp C o s res:=by
 simp only[bh,ah]at h;split at h
 ·rename_i cg b hx;simp only[bA,ar.bz,Option.some.injEq]at h;subst h;refine cp.pure (by grind) a7 λa w κ F aa aZ _=>?_;have h1:=eY.1 (cv aa x hx aZ);exact⟨.bool (!b),by simp[execOp,ah,h1,Op.unary],eY.2 rfl⟩
 ·rename_i cg k n hx;simp only[bA,ar.bz,Option.some.injEq]at h;subst h;refine cp.pure (by grind) a7 λa w κ F aa aZ _=>?_;have h1:=gB.1 (cv aa x hx aZ);exact⟨.int k (k.wrap (0 - n)),by simp[execOp,ah,h1.1,Op.unary,Op.intArith],gB.2 ⟨rfl,pY _ _⟩⟩
 ·cases h
theorem acR{i:Nat}{x:Operand}(a7:∀ i,o.dst=some i->i<C.nt)(ah:o.op=.extract x i)(h:(bh C.aM T a6 (aW C.aM s.ax) o).run s.ae=some res):cp C o s res:=by
 simp only[bh,ah]at h;split at h
 ·rename_i cg n f hx;split at h
  ·rename_i G;simp only[bA,ar.bz,Option.some.injEq]at h;subst h;refine cp.pure (by grind) a7 λa w κ F aa aZ _=>?_;obtain⟨aC,h1,h2,h3⟩:=cv aa x hx aZ;have ds:i<aC.length:=by omega
   refine⟨aC[i],by simp[execOp,ah,h1,Instr.extract,ds],?_⟩;grind
  ·cases h
 ·cases h
theorem acS{x:Operand}(a7:∀ i,o.dst=some i->i<C.nt)(ah:o.op=.nilCheck x)(h:(bh C.aM T a6 (aW C.aM s.ax) o).run s.ae=some res):cp C o s res:=by
 simp only[bh,ah]at h;split at h
 ·rename_i cg b g i hx;simp only[ar.eL,ar.bz]at h;split at h
  ·rename_i ba;simp only[Bool.and_eq_true,decide_eq_true_eq]at ba;simp only[Option.some.injEq]at h;subst h;refine cp.pure (by grind) a7 λa w κ F aa aZ _=>?_;have h1:=cv aa x hx aZ;have h2:=h1.2 ba.1.symm ba.2;exact⟨_,by simp[execOp,ah,h2.2.2],⟨h1.1.1,rfl⟩,λ_ _=>⟨h2.1,h2.2.1,rfl⟩⟩
  grind
 ·rename_i cg t d hx;simp only[bA,ar.bz,Option.some.injEq]at h;subst h;refine cp.pure (by grind) a7 λa w κ F aa aZ _=>?_;obtain⟨p,a_,h1,h2⟩:=cv aa x hx aZ;exact⟨_,by simp[execOp,ah,h1],p,a_,rfl,h2⟩
 ·rename_i cg e p hx;simp only[bA,ar.bz,Option.some.injEq]at h;subst h;refine cp.pure (by grind) a7 λa w κ F aa aZ hc=>?_;have h1:=(dC rfl).1 (cv aa x hx aZ);obtain⟨_,h1⟩:=h1;simp only[bu]at h1;rcases h1 with⟨_,rfl⟩ | ⟨q,y,a_,bf,rfl,aP,aQ⟩
  ·cases hc
  ·simp only[List.cons.injEq,and_true]at bf;exact⟨_,by simp[execOp,ah,bf],q,a_,rfl,aP,aQ⟩
 ·rename_i cg b g off hx;simp only[ar.eL,ar.bz]at h;split at h
  ·rename_i ba;simp only[Bool.and_eq_true,decide_eq_true_eq]at ba;simp only[Option.some.injEq]at h;subst h;refine cp.pure (by grind) a7 λa w κ F aa aZ _=>?_;have h1:=cv aa x hx aZ;have h2:=h1.2 ba.1.symm ba.2;exact⟨_,by simp[execOp,ah,h2],⟨h1.1.1,rfl⟩,λ_ _=>rfl⟩
  grind
 ·cases h
theorem uS(b off n:Nat):(⟨b,off,none⟩:Addr).add n=⟨b,off+n,none⟩:=by
 unfold Addr.add;simp
theorem Fi{P:Program}{w:World}{t s:af}{id f wQ b off:Nat}(h:bQ P (.st t) id)(au:l4 t f=some (s,wQ)) :
  (Instr.fieldAt id (.pointer (some ⟨b,off,none⟩)) f).run P w=.ok (.pointer (some ⟨b,off+wQ,none⟩)) w:=by
 obtain⟨eF,nz,h1,h2,h3,aT,bx⟩:=h.field au;simp only[Instr.fieldAt,Sem.run_bind,dk h1,Result.andThen_ok,h2,Instr.sureAddr,Sem.run_pure,fieldPlace,aT.size,bx,if_false,h3,uS]
theorem acT(hT:dz C.P T){ty f:Nat}{x:Operand}(a7:∀ i,o.dst=some i->i<C.nt)(ah:o.op=.fieldAddr ty x f)(h:(bh C.aM T a6 (aW C.aM s.ax) o).run s.ae=some res):cp C o s res:=by
 simp only[bh,ah]at h;split at h
 ·rename_i t aI;have cY:=hT.bU aI (by simp);split at h
  ·rename_i s' wQ au;split at h
   ·rename_i cg b g off hx;simp only[ar.eL,ar.bz]at h;split at h
    ·rename_i ba;simp only[Bool.and_eq_true,decide_eq_true_eq]at ba;simp only[Option.some.injEq]at h;subst h;refine cp.pure (by grind) a7 λa w κ F aa aZ _=>?_;have h1:=cv aa x hx aZ;have h2:=h1.2 ba.1.symm ba.2;exact⟨_,by simp[execOp,ah,h2,Fi cY au],⟨h1.1.1,rfl⟩,λ_ _=>rfl⟩
    grind
   ·rename_i cg b g i off hx;simp only[ar.eL,ar.bz]at h;split at h
    ·rename_i ba;simp only[Bool.and_eq_true,decide_eq_true_eq]at ba;simp only[Option.some.injEq]at h;subst h;refine cp.pure (by grind) a7 λa w κ F aa aZ _=>?_;have h1:=cv aa x hx aZ;obtain⟨h2,h3,aT⟩:=h1.2 ba.1.symm ba.2;exact⟨_,by simp[execOp,ah,aT,Fi cY au];rfl,⟨h1.1.1,rfl⟩,λ_ _=>⟨h2,h3,by grind⟩⟩
    grind
   ·rename_i cg b g i hx;simp only[ar.eL,ar.bz]at h;split at h
    ·rename_i ba;simp only[Bool.and_eq_true,decide_eq_true_eq,beq_iff_eq]at ba;simp only[Option.some.injEq]at h;subst h;refine cp.pure (by grind) a7 λa w κ F aa aZ _=>?_;have h1:=cv aa x hx aZ;obtain⟨h2,h3,aT⟩:=h1.2 ba.1.1.symm ba.1.2;exact⟨_,by simp[execOp,ah,aT,Fi cY au];rfl,⟨h1.1.1,rfl⟩,λ_ _=>⟨h2,h3,by grind⟩⟩
    grind
   ·rename_i cg cE d hx;split at h
    ·rename_i y_;subst y_;split at h
     ·rename_i du y aO;simp only[bA,ar.bz,Option.some.injEq]at h;subst h;refine cp.pure (by grind) a7 λa w κ F aa aZ _=>?_;obtain⟨p,a_,h1,h2,h3⟩:=cv aa x hx aZ;simp only[bu]at h3;obtain⟨c1,c2,c3,rfl,aP,aQ⟩:=Ra cE h3 aO;rw[au]at aQ;cases aQ;have hp:p=⟨p.block,p.off,none⟩:=by have:=h2.2.1;cases p;simp_all
      rw[hp]at h1;refine⟨_,by simp[execOp,ah,h1,Fi cY au],⟨p.block,p.off+c1.length,none⟩,c2,rfl,⟨h2.1,rfl,λj aD=>?_⟩,aP⟩;have:=h2.2.2 (c1.length+j) (by grind);grind
     ·cases h
    ·cases h
   ·cases h
  ·cases h
 ·cases h
theorem acU(hT:dz C.P T){ty f:Nat}{x:Operand}(a7:∀ i,o.dst=some i->i<C.nt)(ah:o.op=.field ty x f)(h:(bh C.aM T a6 (aW C.aM s.ax) o).run s.ae=some res):cp C o s res:=by
 simp only[bh,ah]at h;split at h
 ·rename_i t aI;have cY:=hT.bU aI (by simp);split at h
  ·rename_i cg cE d hx;split at h
   ·rename_i y_;subst y_;split at h
    ·rename_i du y aO;simp only[bA,ar.bz,Option.some.injEq]at h;subst h;refine cp.pure (by grind) a7 λa w κ F aa aZ _=>?_;obtain⟨⟨cs,h1,h2⟩,h3⟩:=cv aa x hx aZ;rw[h1]at h3;simp only[bu,Value.cells]at h3;obtain⟨c1,c2,c3,e,aP,aQ⟩:=Ra cE h3 aO;obtain⟨eF,nz,f1,f2,f3,f4,f5⟩:=cY.field aQ;obtain⟨v,b3,cr⟩:=qL (w:=w) f4 e aP;refine⟨v,?_,cr⟩;simp[execOp,ah,h1,Instr.field,dk f1,f2,asAgg,f3,b3]
    ·cases h
   ·cases h
  ·cases h
 ·cases h
end
end Go.Fer
namespace Go.Fer
open Go.RowKit
theorem bQ.br{P:Program}{e:af}{id:TypeId}(h:bQ P (.br e) id):∃ i,P.underlying id=some (.pointer i)/\bQ P e i/\e.size≠0:=by
 unfold bQ at h;simp only[cm,Bool.and_eq_true]at h;obtain⟨_,h⟩:=h;split at h
 ·rename_i i G;simp only[Bool.and_eq_true,bne_iff_ne,ne_eq]at h;exact⟨i,G,h.1,h.2⟩
 grind
theorem Rp{k:IntKind}{av:aF}{H:Nat->bw}{x:Int}{l:List Nat}(h:(di (.int k) av).run H=some (x,l)):av.l6.isSome=true:=by
 cases av with
 | val cE y=>
  simp only[di,ar.bz,Option.map_eq_some_iff,Prod.mk.injEq]at h;obtain⟨z,ba,_⟩:=h;obtain⟨rfl,_⟩:=kF ba;rfl
 | jt v=>simp[di,ki,af.ef,dE,BL]at h
 | _=>simp[di,ki,af.ef,dE,ar.none]at h
theorem Rq{av:aF}{H:Nat->bw}{x:List UInt8}{l:List Nat}(h:(di .str av).run H=some (x,l)):av.tb.isSome=true:=by
 cases av with
 | val cE y=>
  simp only[di,ar.bz,Option.map_eq_some_iff,Prod.mk.injEq]at h;obtain⟨z,ba,_⟩:=h;obtain⟨rfl,_⟩:=kF ba;rfl
 | jt v=>simp[di,ki,af.ef,dE,BL]at h
 | _=>simp[di,ki,af.ef,dE,ar.none]at h
theorem Fj{P:Program}{w:World}{ty i:TypeId}(G:P.underlying ty=some (.pointer i))(a:Option Addr)(d:Nat):(Op.equalIn (d+1) ty (.pointer a) (.pointer none)).run P w=.ok a.isNone w:=by
 cases a<;>simp[Op.equalIn,dk G]
inductive BZ:Value->Value->Prop where
 | bool (a b:Bool):BZ (.bool a) (.bool b)
 | agg (a b:Array Value):BZ (.agg a) (.agg b)
 | br (a b:Option Addr):BZ (.pointer a) (.pointer b)
theorem acV{P:Program}{w:World}{ty:TypeId}{x y:Operand}{u mx:Value}{e:Bool}(hp:BZ u mx)(h:(Op.equalIn 10000 ty u mx).run P w=.ok e w)
  (aA:∀ a b,u=.agg a->mx=.agg b->P.eqGuardType P.depth ty=false) :
  (do eqGuard .eql ty x y u mx;binOp .eql ty u mx:Sem Value).run P w=.ok (.bool e) w/\(do eqGuard .neq ty x y u mx;binOp .neq ty u mx:Sem Value).run P w=.ok (.bool (!e)) w:=by
 cases hp with
 | bool a b=>constructor<;>simp[acI,binOp,Op.equal,Op.maxDepth,h]
 | agg a b=>constructor<;>simp[run_eqGuard_agg _ _ _ _ _ _ _ (aA a b rfl rfl),binOp,Op.equal,Op.maxDepth,h]
 | br a b=>constructor<;>simp[acJ,binOp,Op.equal,Op.maxDepth,h]
section
variable {C:bS} {T:Nat->af} {a6:Nat->Option aL} {o:Oper} {s:az} {res:eb}
theorem B0{a:Act}{w:World}{κ:Nat->bo}{F:Nat->Prop}(aa:bc C s a w κ F){t:af}{av:aF}{v:Value}{x:t.ai}{l:List Nat}(h:(di t av).run s.ae=some (x,l))(hv:bl C.P s.ae κ F w av v) :
  dU C.P t (λ_=>True) w v x:=l5 aa.bq (λ_ _=>trivial) h (λ_ _ _=>trivial) hv
theorem acW{op:BinOp}{ty:TypeId}{dG km:aF}{x y:Operand}{c:Prop}{v:aF}{a:Act}{w:World}{κ:Nat->bo}{F:Nat->Prop}(hT:dz C.P T)(aa:bc C s a w κ F)
  (h:(y1 op (T ty) dG km).run s.ae=some (c,v)) {u mx:Value} (hx:bl C.P s.ae κ F w dG u) (aO:bl C.P s.ae κ F w km mx) (Rr:¬(dG.l6.isSome=true/\km.l6.isSome=true)) (Rs:¬(dG.tb.isSome=true/\km.tb.isSome=true)) :
  ∃ r,(do eqGuard op ty x y u mx;binOp op ty u mx:Sem Value).run C.P w=.ok r w/\bl C.P s.ae κ F w v r:=by
 unfold y1 at h;rw[ar.eM]at h;simp only[Option.bind_eq_some_iff]at h;obtain⟨e,he,hv⟩:=h;simp only[ar.bz]at hv;have key:BZ u mx/\(Op.equalIn 10000 ty u mx).run C.P w=.ok e w/\(∀ a b,u=.agg a->mx=.agg b->C.P.eqGuardType C.P.depth ty=false):=by
  split at he
  ·rename_i aV p e2 aI;obtain⟨i,G,_⟩:=(hT.bU aI (by simp)).br;simp only[bl]at aO;subst aO;simp only[ar.bz,Option.some.injEq]at he;subst he;obtain⟨_,nA⟩:=(dC rfl).1 hx;rcases nA with⟨nA,rfl⟩ | ⟨q,z,a_,nA,rfl,_⟩
   ·obtain rfl:=(List.cons.inj nA).1;exact⟨.br _ _,Fj G none 9999,λ_ _ h=>by cases h⟩
   ·obtain rfl:=(List.cons.inj nA).1;exact⟨.br _ _,Fj G (some q) 9999,λ_ _ h=>by cases h⟩
  ·rename_i aV t2 wS aI;obtain⟨i,G,_⟩:=(hT.bU aI (by simp)).br;simp only[bl]at aO;subst aO;simp only[ar.bz,Option.some.injEq]at he;subst he;obtain⟨q,a_,rfl,_⟩:=hx;exact⟨.br _ _,Fj G (some q) 9999,λ_ _ h=>by cases h⟩
  ·rename_i aV b g off aI;obtain⟨i,G,_⟩:=(hT.bU aI (by simp)).br;simp only[bl]at aO;subst aO;simp only[ar.eL,ar.bz]at he;split at he
   ·rename_i ba;simp only[Bool.and_eq_true,decide_eq_true_eq]at ba;simp only[Option.some.injEq]at he;subst he;have:=hx.2 ba.1.symm ba.2;subst this;exact⟨.br _ _,Fj G (some _) 9999,λ_ _ h=>by cases h⟩
   grind
  ·split at he
   ·rename_i iQ;simp only[Bool.and_eq_true,decide_eq_true_eq]at iQ;simp only[ar.eM,Option.bind_eq_some_iff,ar.bz,Option.some.injEq]at he;obtain⟨⟨wT,eB⟩,h1,⟨J0,ns⟩,h2,rfl⟩:=he;have b3:=B0 aa h1 hx;have cr:=B0 aa h2 aO;generalize pZ:T ty=t at *
    cases t with
    | bool=>
     have cY:=hT.bU pZ (by simp);refine⟨?_,(JZ .bool 10000 rfl (by decide)).1 cY b3 cr,?_⟩
     ·rw[eY.1 b3,eY.1 cr];exact .bool _ _
     simp_all
    | int k=>exact (Rr ⟨Rp h1,Rp h2⟩).elim
    | str=>exact (Rs ⟨Rq h1,Rq h2⟩).elim
    | st t=>
     have cY:=hT.bU pZ (by simp);refine⟨?_,(JZ (.st t) 10000 iQ.1 (by omega)).1 cY b3 cr,λ_ _ _ _=>cY.BX.2.1⟩;obtain⟨⟨_,rfl,_⟩,_⟩:=b3;obtain⟨⟨_,rfl,_⟩,_⟩:=cr;exact .agg _ _
    | ay t1 t2=>have:=hT.bU pZ (by simp);unfold bQ at this;simp only[cm,Bool.false_eq_true]at this
    | cA=>cases iQ.1
    | slice _=>cases iQ.1
    | array _ _=>cases iQ.1
    | br _=>cases iQ.1
    | map _ _=>cases iQ.1
    | fn _ _=>cases iQ.1
    | b9 _=>cases iQ.1
    | dT=>cases iQ.1
   ·cases he
 obtain⟨aP,aQ,bB⟩:=key;have:=acV (x:=x) (y:=y) aP aQ bB;cases op<;>simp only[reduceCtorEq,Option.some.injEq,Prod.mk.injEq]at hv;case eql=>obtain⟨rfl,rfl⟩:=hv;exact⟨_,this.1,eY.2 rfl⟩
 case neq=>obtain⟨rfl,rfl⟩:=hv;exact⟨_,this.2,eY.2 rfl⟩
theorem acX(hT:dz C.P T){op:BinOp}{ty mB:TypeId}{x y:Operand}(a7:∀ i,o.dst=some i->i<C.nt)(ah:o.op=.binOp op ty x y mB)(h:(bh C.aM T a6 (aW C.aM s.ax) o).run s.ae=some res):cp C o s res:=by
 simp only[bh,ah]at h;have y':∀ c,o.op≠.defer c:=by grind
 have mC:∀ (a:Act) (w:World) (r:Value),(do eqGuard op ty x y (a.eval x) (a.eval y);binOp op ty (a.eval x) (a.eval y):Sem Value).run C.P w=.ok r w->(execOp a.eval o).run C.P w=.ok (.value r) w:=by
  intro a w r aa;simp only[execOp,ah,Sem.run_bind]at aa ⊢;simp_all
 split at h
 ·rename_i k m k' n hx aO;have fin:∀ (c:Prop) (v:aF),(∀ (w:World) κ F,c->fA k m->∃ r,(binOp op ty (.int k m) (.int k' n)).run C.P w=.ok r w/\bl C.P s.ae κ F w v r)->
    res=⟨(use (aW C.aM s.ax x)).1/\(use (aW C.aM s.ax y)).1,c,v,[]⟩->cp C o s res:=by
   intro c v aj fU;subst fU;refine cp.pure y' a7 λa w κ F aa aZ hc=>?_;have h1:=n9 (cv aa x rfl aZ.1) hx;have h2:=n9 (cv aa y rfl aZ.2) aO;obtain⟨r,b3,cr⟩:=aj w κ F hc h1.2;exact⟨r,mC a w r (by simp[h1.1,h2.1,Rn,b3]),cr⟩
  split at h
  ·split at h
   ·rename_i c v hs;simp only[bA,ar.bz,Option.some.injEq]at h;exact fin c v (λw κ F hc aU=>Ro hs hc aU) h.symm
   ·cases h
  ·split at h
   ·rename_i c v hs;simp only[bA,ar.bz,Option.some.injEq]at h;exact fin c v (λw κ F hc aU=>Ro hs hc aU) h.symm
   ·cases h
  ·split at h
   ·rename_i uT;subst uT;split at h
    ·rename_i c v hs;simp only[bA,ar.bz,Option.some.injEq]at h;exact fin c v (λw κ F hc aU=>acK hs hc aU) h.symm
    ·cases h
   ·cases h
 ·rename_i Rr;split at h
  ·rename_i m n hx aO;split at h
   ·rename_i c v hs;simp only[bA,ar.bz,Option.some.injEq]at h;subst h;refine cp.pure y' a7 λa w κ F aa aZ hc=>?_;have h1:=JY (cv aa x rfl aZ.1) hx;have h2:=JY (cv aa y rfl aZ.2) aO;obtain⟨r,b3,cr⟩:=acL (P:=C.P) (H:=s.ae) (κ:=κ) (F:=F) (w:=w) (t:=ty) hs hc;exact⟨r,mC a w r (by simp[h1.1,h2.1,acH,b3]),cr⟩
   ·cases h
  ·rename_i Rs;simp only[bA,ar.eM,Option.bind_eq_some_iff,ar.bz,Option.some.injEq]at h;obtain⟨⟨c,v⟩,hs,rfl⟩:=h;refine cp.pure y' a7 λa w κ F aa aZ hc=>?_;obtain⟨r,b3,cr⟩:=acW (x:=x) (y:=y) hT aa hs (cv aa x rfl aZ.1) (cv aa y rfl aZ.2)
    (λ⟨e1,e2⟩=>by
     obtain⟨⟨k,m⟩,e1⟩:=Option.isSome_iff_exists.1 e1;obtain⟨⟨k',df⟩,e2⟩:=Option.isSome_iff_exists.1 e2;grind)
    (λ⟨e1,e2⟩=>by
     obtain⟨m,e1⟩:=Option.isSome_iff_exists.1 e1;obtain⟨df,e2⟩:=Option.isSome_iff_exists.1 e2;grind)
   grind
theorem uU{w:World}{b:Nat}{cs:Array Value}{T:TypeId}{e6:Nat×Nat}(h:w.heap[b]?=some (.cells cs T e6))(off:Nat):w.cell? ⟨b,off,none⟩=cs[off]?:=by
 simp[World.cell?,h]
theorem Rt{P:Program}{w:World}{t:af}{id:TypeId}(h:bQ P t id)(an:t.isAgg=false){p:Addr}{v:Value}(hv:w.cell? p=some v):(loadVar id p).run P w=.ok v w:=by
 simp[loadVar,y7 h,an,hv]
theorem Ru(hT:dz C.P T){ty:TypeId}{dG v:aF}{u:Value}{a:Act}{w:World}{κ:Nat->bo}{F:Nat->Prop}(aa:bc C s a w κ F)(h:(y2 (T ty) dG).run s.ae=some v)(hx:bl C.P s.ae κ F w dG u) :
  ∃ r,(Instr.loadAt ty u).run C.P w=.ok r w/\bl C.P s.ae κ F w v r:=by
 generalize pZ:T ty=t at *
 cases dG with
 | dD cE d=>
  simp only[y2,ar.bz]at h;split at h
  ·rename_i hc;obtain⟨rfl,hc⟩:=hc;simp only[Option.some.injEq]at h;subst h;obtain⟨p,a_,rfl,h2,h3⟩:=hx;have cY:=hT.bU pZ (by intro e;subst e;cases hc);obtain⟨r,b3,cr⟩:=JX cY h2.JW h3;exact⟨r,by simp[Instr.loadAt,Instr.sureAddr,b3],cr⟩
  grind
 | loc b g off=>
  simp only[y2,ar.eL,ar.bz]at h;split at h
  ·rename_i aA;split at h
   ·rename_i t0 f bE;have hv:=hx.2 aA.symm (by rw[bE];rfl);subst hv;have aN:=aa.bq b;unfold cj at aN;rw[bE]at aN;obtain⟨cs,hH,c1,c2,c3⟩:=aN;split at h
    ·rename_i an;split at h
     ·rename_i Fk;simp only[Option.some.injEq]at h;subst h;have cY:=hT.bU pZ (by intro e;subst e;cases an);have J1:t.isAgg=false:=by cases t<;>simp_all[af.ef,af.isAgg]
      refine⟨cs.getD off Go.undef,?_,(c3 off Fk).1⟩;simp only[Instr.loadAt,Instr.sureAddr,Sem.run_bind,Sem.run_pure,Result.andThen_ok];refine Rt cY J1 ?_;rw[uU c1];simp_all
     grind
    ·split at h
     ·rename_i Rv;split at h
      ·rename_i Fk;simp only[Option.some.injEq]at h;subst h;have cY:=hT.bU pZ (by intro e;subst e;cases Rv);let aC:=(List.range t.size).map λj=>cs.getD (off+j) Go.undef;refine⟨.agg aC.toArray,?_,aC,rfl,by grind,λi G=>?_⟩
       ·simp only[Instr.loadAt,Instr.sureAddr,Sem.run_bind,Sem.run_pure,Result.andThen_ok,loadVar,y7 cY,Rv,if_true,cY.size];rw[run_loadCells w ⟨(κ b).ae,off,none⟩ t.size (λj=>cs.getD (off+j) Go.undef)]
        ·rfl
        ·intro j aD;rw[uS,uU c1];simp[Array.getD_eq_getD_getElem?,c2,show off+j<t0.size by omega]
       grind
      grind
     grind
   ·rename_i t0 y bE;have hv:=hx.2 aA.symm (by rw[bE];rfl);subst hv;have aN:=aa.bq b;unfold cj at aN;rw[bE]at aN;obtain⟨a_,d1,d2⟩:=aN;split at h
    ·rename_i hc;simp only[Option.map_eq_some_iff]at h;obtain⟨z,ba,rfl⟩:=h;obtain⟨c1,c2,c3,rfl,cR,q2⟩:=Rb t0 d2 ba;have cY:=hT.bU pZ (by intro e;subst e;cases hc);have cB:kn w ⟨(κ b).ae,off,none⟩ c2:=by
      refine⟨λ_=>rfl,λj aD=>?_⟩;have:=d1.2.2 (c1.length+j) (by grind);simp_all
     obtain⟨r,b3,cr⟩:=JX cY cB q2;exact⟨r,by simp[Instr.loadAt,Instr.sureAddr,b3],cr⟩
    grind
   grind
  grind
 | n5 b g i off=>
  simp only[y2,ar.eL,ar.bz]at h;split at h
  ·rename_i aA;have fin:∀ (e:af) (xs:List e.ai),(s.ae b).body.eZ=true->(s.ae b).body.len=xs.length->(s.ae b).body.eK=e.size->
     (∀ (G:i<xs.length),(κ b).eQ=false->∃ a_,kn w ⟨(κ b).ae,(κ b).off+i*e.size,none⟩ a_/\bu C.P e F w a_ xs[i])->
     (if t.ef||t.isAgg then (rK e (xs.getD i e.cP) off t).map (.val t) else none)=some v->∃ r,(Instr.loadAt ty u).run C.P w=.ok r w/\bl C.P s.ae κ F w v r:=by
    intro e xs aU hlen B1 jb hv;split at hv
    ·rename_i hc;simp only[Option.map_eq_some_iff]at hv;obtain⟨z,ba,rfl⟩:=hv;obtain⟨aP,aQ,bB⟩:=hx.2 aA.symm aU;subst bB;rw[hlen]at aP;obtain⟨a_,d1,d2⟩:=jb aP aQ;have J2:xs.getD i e.cP=xs[i]:=by grind
     rw[J2]at ba;obtain⟨c1,c2,c3,rfl,cR,q2⟩:=Rb e d2 ba;have cY:=hT.bU pZ (by intro e;subst e;cases hc);have cB:kn w ⟨(κ b).ae,(κ b).off+i*(s.ae b).body.eK+off,none⟩ c2:=by
      refine⟨λ_=>rfl,λj aD=>?_⟩;have:=d1.2 (c1.length+j) (by grind);grind
     obtain⟨r,b3,cr⟩:=JX cY cB q2;exact⟨r,by simp[Instr.loadAt,Instr.sureAddr,b3],cr⟩
    grind
   have aN:=aa.bq b;unfold cj at aN;split at h
   ·rename_i e xs bE;rw[bE]at aN;refine fin e xs (by rw[bE];rfl) (by rw[bE];rfl) (by rw[bE];rfl) (λG aB=>?_) h;obtain⟨cs,hH,c1,c2,c3,c4,c5⟩:=aN.2 aB;obtain⟨a_,d1,d2⟩:=c5 i G;exact⟨a_,⟨λ_=>rfl,λj aD=>by rw[uU c1];grind⟩,d2⟩
   ·rename_i e xs bE;rw[bE]at aN;refine fin e xs (by rw[bE];rfl) (by rw[bE];rfl) (by rw[bE];rfl) (λG aB=>?_) h;simp only[ju,bu,bo.slice,aB,Bool.false_eq_true,if_false]at aN;obtain⟨a',cap,e1,m1,m2,m3,m4⟩:=aN;simp only[List.cons.injEq,Value.slice.injEq,and_true]at e1;obtain⟨rfl,_,rfl⟩:=e1;obtain⟨dA,dB,iu⟩:=m4 _ rfl (by omega);obtain⟨a_,d1,d2⟩:=iu i G;exact⟨a_,d1.JW,d2⟩
   grind
  grind
 | _=>cases h
end
end Go.Fer
namespace Go.Fer
open Go.RowKit
section
variable {C:bS} {T:Nat->af} {a6:Nat->Option aL} {o:Oper} {s:az} {res:eb}
theorem acY(hT:dz C.P T){ty:TypeId}{x:Operand}(a7:∀ i,o.dst=some i->i<C.nt)(ah:o.op=.load ty x)(h:(bh C.aM T a6 (aW C.aM s.ax) o).run s.ae=some res):cp C o s res:=by
 simp only[bh,ah]at h;split at h
 ·rename_i cg b g i hx;simp only[Rk,ar.eL,ar.bz]at h;split at h
  ·rename_i e xs kZ v bE;split at h
   ·rename_i hc;obtain⟨aA,an⟩:=hc;simp only[Option.some.injEq]at h;subst h;refine cp.pure (by grind) a7 λa w κ F aa aZ G=>?_;have G:i=kZ:=G;subst G;have h1:=(cv aa x hx aZ).2 aA.symm (by rw[bE];rfl);have aN:=aa.bq b;unfold cj at aN;rw[bE]at aN h1;obtain⟨_,cs,hH,c1,c2,c3,c4,c5,lA,n_,wU⟩:=aN;have cY:=hT.bU (t:=T ty) rfl (by intro e;rw[e]at an;cases an);have J1:(T ty).isAgg=false:=by cases aI:T ty<;>simp_all[af.ef,af.isAgg]
    refine⟨_,?_,n_⟩;have tf:w.cell? ⟨(κ b).ae,(κ b).off+i,none⟩=some (cs.getD ((κ b).off+i) Go.undef):=by
     rw[uU c1];have:(κ b).off+i<cs.size:=by
      have:i<(κ b).cap:=by omega
      rw[c5.1]at c2;omega
     simp[this]
    have hp:a.eval x=.pointer (some ⟨(κ b).ae,(κ b).off+i,none⟩):=by rw[h1.2.2];simp[bC.eK,c5.1]
    simp[execOp,ah,hp,Instr.loadAt,Instr.sureAddr,Rt cY J1 tf]
   ·cases h
  ·cases h
 ·rename_i cg dG _ hx;simp only[bA,ar.eM,Option.bind_eq_some_iff,ar.bz,Option.some.injEq]at h;obtain⟨v,hv,rfl⟩:=h;refine cp.pure (by grind) a7 λa w κ F aa aZ _=>?_;obtain⟨r,b3,cr⟩:=Ru hT aa hv (cv aa x hx aZ);exact⟨r,by simp[execOp,ah,b3],cr⟩
theorem bQ.str{P:Program}{id:TypeId}(h:bQ P .str id):P.underlying id=some .string:=by
 unfold bQ at h;simp only[cm,Bool.and_eq_true]at h;grind
theorem bQ.int{P:Program}{k:IntKind}{id:TypeId}(h:bQ P (.int k) id):P.underlying id=some (.int k):=by
 unfold bQ at h;simp only[cm,Bool.and_eq_true]at h;grind
theorem bQ.a8{P:Program}{n:Nat}{e:af}{id:TypeId}(h:bQ P (.array n e) id):∃ i,P.underlying id=some (.array n i)/\bQ P e i/\e.size≠0:=by
 unfold bQ at h;simp only[cm,Bool.and_eq_true]at h;obtain⟨_,h⟩:=h;split at h
 ·rename_i m i hu;simp only[Bool.and_eq_true,decide_eq_true_eq,bne_iff_ne,ne_eq]at h;obtain⟨⟨rfl,h2⟩,h3⟩:=h;exact⟨i,hu,h2,h3⟩
 grind
theorem acZ{fa:List (List Value)}{m:Nat}(h:∀ c∈fa,c.length=m){i:Nat}(G:i<fa.length):∃ p q,fa.flatten=p++(fa[i]++q)/\p.length=i*m:=by
 refine⟨(fa.take i).flatten,(fa.drop (i+1)).flatten,?_,?_⟩
 ·rw[<-List.flatten_cons,<-List.drop_eq_getElem_cons G,<-List.flatten_append,List.take_append_drop]
 ·have aT:(fa.take i).map List.length=List.replicate i m:=List.eq_replicate_iff.2 ⟨by grind,λx hx=>by
   grind⟩
  simp_all
theorem J3{P:Program}{n:Nat}{e:af}{F:Nat->Prop}{w:World}{cs:List Value}{xs:List e.ai}(h:bu P (.array n e) F w cs xs){i:Nat}(G:i<n):∃ p c q,cs=p++(c++q)/\p.length=i*e.size/\bu P e F w c (xs.getD i e.cP):=by
 simp only[bu]at h;obtain⟨fa,rfl,h1,h2,h3⟩:=h;obtain⟨p,q,aP,aQ⟩:=acZ (m:=e.size) (λc hc=>by
  obtain⟨j,aD,rfl⟩:=List.mem_iff_getElem.1 hc;exact hC e (h3 j (by omega) aD)) (show i<fa.length by omega)
 grind
theorem ac0(hT:dz C.P T){ty:TypeId}{x i:Operand}(a7:∀ i,o.dst=some i->i<C.nt)(ah:o.op=.index ty x i)(h:(bh C.aM T a6 (aW C.aM s.ax) o).run s.ae=some res):cp C o s res:=by
 simp only[bh,ah]at h;split at h
 ·rename_i l k n aI hx G;simp only[bA,ar.bz,Option.some.injEq]at h;subst h;refine cp.pure (by grind) a7 λa w κ F aa aZ hc=>?_;have h1:=JY (cv aa x rfl aZ.1) hx;have h2:=n9 (cv aa i rfl aZ.2) G;have cY:=(hT.bU aI (by simp)).str;have bX:n.toNat<l.length:=by omega
  refine⟨.int .u8 ((l.getD n.toNat 0).toNat:Int),?_,gB.2 ⟨rfl,?_⟩⟩
  ·have e:(⟨l.toArray⟩:ByteArray)[n.toNat]?=some (l.getD n.toNat 0):=by
    have hs:n.toNat<(⟨l.toArray⟩:ByteArray).size:=by simpa [ByteArray.size]using bX
    rw[getElem?_pos (⟨l.toArray⟩:ByteArray) n.toNat hs];simp only[Option.some.injEq];show (⟨l.toArray⟩:ByteArray).data[n.toNat]=_;grind
   simp[execOp,ah,Instr.index,h1.1,h2.1,asIntOf,dk cY,hc.1,e]
  ·have:=(l.getD n.toNat 0).toNat_lt;constructor
   ·have:IntKind.u8.min=0:=by decide
    omega
   ·have:IntKind.u8.max=255:=by decide
    omega
 ·rename_i m e k n aI G;split at h
  ·rename_i df aV xs hx;split at h
   ·rename_i he;obtain⟨rfl,rfl⟩:=he;simp only[bA,ar.bz,Option.some.injEq]at h;subst h;refine cp.pure (by grind) a7 λa w κ F aa aZ hc=>?_;have h1:bl C.P s.ae κ F w (use (aW C.aM s.ax x)).2 (a.eval x):=cv aa x rfl aZ.1;rw[hx]at h1;have h2:=n9 (cv aa i rfl aZ.2) G;obtain⟨j,aD,qN,_⟩:=(hT.bU aI (by simp)).a8;obtain⟨⟨cs,hv,oY⟩,nB⟩:=h1;rw[hv]at nB;obtain⟨p,c,q,e1,e2,e3⟩:=J3 nB (i:=n.toNat) (by omega);obtain⟨v,g1,dW⟩:=qL qN (cs:=cs) e1 e3;refine⟨v,?_,dW⟩;rw[e2]at g1;simp[execOp,ah,Instr.index,hv,h2.1,asIntOf,dk aD,hc.1,hc.2,qN.size,g1]
   ·cases h
  ·rename_i k' f hx;split at h
   ·rename_i aj;simp only[bA,ar.bz,Option.some.injEq]at h;subst h;refine cp.pure (by grind) a7 λa w κ F aa aZ hc=>?_;have h1:bl C.P s.ae κ F w (use (aW C.aM s.ax x)).2 (a.eval x):=cv aa x rfl aZ.1;rw[hx]at h1;have h2:=n9 (cv aa i rfl aZ.2) G;obtain⟨j,aD,qN,bV⟩:=(hT.bU aI (by simp)).a8;obtain⟨aC,hv,an,eJ⟩:=h1;have bX:n.toNat*e.size+e.size<=aC.length:=by
     rw[an,aj];have:(n.toNat+1)*e.size<=m*e.size:=Nat.mul_le_mul_right _ (by omega);grind
    by_cases aU:e.isAgg=true
    ·simp only[if_pos aU];refine⟨_,by simp[execOp,ah,Instr.index,hv,h2.1,asIntOf,dk aD,hc.1,hc.2,qN.size,Rm qN aU];rfl,(aC.toArray.extract (n.toNat*e.size) (n.toNat*e.size+e.size)).toList,by simp,?_,λq bf=>?_⟩
     ·simp;omega
     ·have ac1:(aC.toArray.extract (n.toNat*e.size) (n.toNat*e.size+e.size)).toList.getD q Go.undef=aC.getD (n.toNat*e.size+q) Go.undef:=by
       simp[List.getD_eq_getElem?_getD,bf]
      rw[ac1];exact eJ _ (by omega)
    ·simp only[if_neg aU];have aT:=eJ (n.toNat*e.size) (by omega);refine⟨aC.getD (n.toNat*e.size) Go.undef,?_,aT.1⟩;have aA:aC.toArray[n.toNat*e.size]?=some (aC.getD (n.toNat*e.size) Go.undef):=by
      grind
     simp[execOp,ah,Instr.index,hv,h2.1,asIntOf,dk aD,hc.1,hc.2,qN.size,Rl qN (by grind) aA]
   ·cases h
  ·cases h
 ·cases h
theorem rO:∀ {l:List aF},jz l->∀ i,i<l.length->(use (l.getD i .undef)).1
 | [],_,i,G=>by grind
 | a::l,h,0,_=>by
  cases a<;>first | trivial | exact h.1
 | a::l,h,i+1,G=>by
  have da:jz l:=by cases a<;>first | exact h | exact h.2
  have:=rO da i (by grind);grind
theorem ac2{k:bo}{n:Nat}(h:k.eQ=true->n=0):∃ a cap,k.slice n=.slice a n cap:=by
 unfold bo.slice;split
 ·rename_i aB;rw[h aB];exact⟨none,0,rfl⟩
 ·exact⟨_,_,rfl⟩
theorem za{a:Act}{w:World}{κ:Nat->bo}{F:Nat->Prop}(aa:bc C s a w κ F){b:Nat}(aU:(s.ae b).body.eZ=true):((κ b).eQ=true->(s.ae b).body.len=0)/\(s.ae b).body.len<2 ^ 63:=by
 have aN:=aa.bq b;unfold cj at aN;cases bE:(s.ae b).body with
 | a8 e xs=>
  rw[bE]at aN;refine⟨λaB=>by rw[aN.1 aB];rfl,?_⟩;simp only[bC.len];cases aB:(κ b).eQ with
  | true=>rw[aN.1 aB];simp
  | false=>obtain⟨cs,hH,c1,c2,c3,c4,c5⟩:=aN.2 aB;omega
 | hj e xs=>
  rw[bE]at aN;simp only[ju,bu,bo.slice]at aN;obtain⟨a',cap,e1,m1,m2,m3,m4⟩:=aN;simp only[bC.len];grind
 | fQ e xs i v=>
  rw[bE]at aN;obtain⟨h0,cs,hH,c1,c2,c3,c4,_⟩:=aN;exact⟨λaB=>(by rw[h0]at aB;cases aB),(by simp only[bC.len];omega)⟩
 | _=>rw[bE]at aU;cases aU
theorem J4{a:Act}{w:World}{κ:Nat->bo}{F:Nat->Prop}(aa:bc C s a w κ F){b:Nat}(aU:(s.ae b).body.eZ=true)(aB:(κ b).eQ=false):(s.ae b).body.len<=(κ b).cap:=by
 have aN:=aa.bq b;unfold cj at aN;cases bE:(s.ae b).body with
 | a8 e xs=>
  rw[bE]at aN;obtain⟨cs,hH,c1,c2,c3,c4,c5⟩:=aN.2 aB;exact c3
 | hj e xs=>
  rw[bE]at aN;simp only[ju,bu,bo.slice,aB,Bool.false_eq_true,if_false]at aN;obtain⟨a',cap,e1,m1,m2,m3,m4⟩:=aN;simp only[List.cons.injEq,Value.slice.injEq,and_true]at e1;simp only[bC.len];omega
 | fQ e xs i v=>
  rw[bE]at aN;obtain⟨h0,cs,hH,c1,c2,c3,c4,_⟩:=aN;exact c3
 | _=>rw[bE]at aU;cases aU
theorem ac3{a:Act}{w:World}{κ:Nat->bo}{F:Nat->Prop}(aa:bc C s a w κ F){b lo G:Nat}(aU:(s.ae b).body.eZ=true){v:Value}(h1:lo<=G)(h2:G<=(s.ae b).body.len)(hs:E5 (κ b) (s.ae b).body.eK lo G v) :
  ∃ a cap,v=.slice a (G - lo) cap/\G - lo<2 ^ 63:=by
 have aB:=za aa aU;rcases hs with⟨aP,rfl⟩ | ⟨aP,o,rfl,_⟩
 ·simp_all
 grind
theorem B2{n:Nat}(h:n<2 ^ 63):fA .i64 (n:Int):=by
 unfold fA;have h1:IntKind.i64.min=-9223372036854775808:=by decide
 have h2:IntKind.i64.max=9223372036854775807:=by decide
 omega
theorem bQ.mp{P:Program}{k v:af}{id:TypeId}(h:bQ P (.map k v) id):∃ i j,P.underlying id=some (.map i j)/\bQ P k i/\bQ P v j:=by
 unfold bQ at h;simp only[cm,Bool.and_eq_true]at h;obtain⟨_,h⟩:=h;split at h
 ·rename_i i j G;simp only[Bool.and_eq_true]at h;exact⟨i,j,G,h.1,h.2⟩
 grind
theorem ac4(hT:dz C.P T){t:TypeId}{dG:aF}{c:Prop}{n:Int}{u:Value}{a:Act}{w:World}{κ:Nat->bo}{F:Nat->Prop}(aa:bc C s a w κ F)(h:(E8 (T t) dG).run s.ae=some (c,n))(hc:c)(hx:bl C.P s.ae κ F w dG u)(ty:TypeId) :
  (Builtin.len_ #[t] ty #[u]).run C.P w=.ok (.int .i64 n) w/\fA .i64 n:=by
 have awR:∀ e a' m cap,T t=.slice e->u=.slice a' m cap->(m:Int)=n->m<2 ^ 63->(Builtin.len_ #[t] ty #[u]).run C.P w=.ok (.int .i64 n) w/\fA .i64 n:=by
  intro e a' m cap aI hu ao bX;obtain⟨i,G,_⟩:=(hT.bU aI (by simp)).sl;subst hu;rw[<-ao];exact⟨by simp[Builtin.len_,dk G,goInt],B2 bX⟩
 have Rw:∀ k v r es clk m,T t=.map k v->u=.map (some r)->w.heap[r]?=some (.map es clk)->es.size=m->(m:Int)=n->b2 m->(Builtin.len_ #[t] ty #[u]).run C.P w=.ok (.int .i64 n) w/\fA .i64 n:=by
  intro k v r es clk m aI hu hw o0 ao bX;obtain⟨i,j,G,_⟩:=(hT.bU aI (by simp)).mp;subst hu;rw[<-ao,<-o0];unfold b2 at bX;refine⟨?_,B2 (by omega)⟩;simp[Builtin.len_,dk G,goInt,getObj,Sem.run,hw]
 unfold E8 at h;split at h
 ·rename_i e aI;split at h
  ·rename_i aV xs;simp only[ar.bz,Option.some.injEq,Prod.mk.injEq]at h;obtain⟨_,hx⟩:=(dC rfl).1 hx;obtain⟨a',cap,e1,m1,m2,m3,m4⟩:=hx;grind
  ·simp only[ar.bz,Option.some.injEq,Prod.mk.injEq]at h;simp only[bl]at hx;grind
  ·rename_i b g;simp only[ar.eL,ar.bz]at h;split at h
   ·rename_i ba;simp only[Bool.and_eq_true,decide_eq_true_eq]at ba;simp only[Option.some.injEq,Prod.mk.injEq]at h;have hv:=hx.2 ba.1.symm ba.2;have aB:=za aa ba.2;obtain⟨a',cap,he⟩:=ac2 (k:=κ b) aB.1;grind
   grind
  ·rename_i b g lo G;simp only[ar.eL,ar.bz]at h;split at h
   ·rename_i ba;simp only[Bool.and_eq_true,decide_eq_true_eq]at ba;simp only[Option.some.injEq,Prod.mk.injEq]at h;obtain⟨⟨aP,aQ⟩,bB⟩:=hx.2 ba.1.symm ba.2;obtain⟨a',cap,he,bX⟩:=ac3 aa ba.2 aP aQ bB;grind
   grind
  ·cases h
 ·rename_i aI;split at h
  ·rename_i xs;simp only[ar.bz,Option.some.injEq,Prod.mk.injEq]at h;obtain⟨rfl,bX⟩:=l1.1 hx;have cY:=(hT.bU aI (by simp)).str;rw[<-h.2];have hs:ByteArray.size ⟨xs.toArray⟩=xs.length:=by rfl
   exact⟨by simp[Builtin.len_,dk cY,goInt,hs],B2 (by omega)⟩
  ·cases h
 ·rename_i k v aI;split at h
  ·rename_i k' hS xs;simp only[ar.bz,Option.some.injEq,Prod.mk.injEq]at h;obtain⟨rfl,h⟩:=h;obtain⟨_,hx⟩:=(dC rfl).1 hx;rcases hx with⟨e1,rfl⟩ | ⟨r,es,clk,e1,m1,m2,m3,_⟩
   ·obtain rfl:=(List.cons.inj e1).1;obtain⟨i,j,G,_⟩:=(hT.bU aI (by simp)).mp;rw[<-h];exact⟨by simp[Builtin.len_,dk G,goInt],B2 (by simp)⟩
   grind
  ·rename_i b g;simp only[ar.eL,ar.bz]at h;split at h
   ·rename_i aA;split at h
    ·rename_i k' hS es bE;simp only[Option.some.injEq,Prod.mk.injEq]at h;obtain⟨rfl,h⟩:=h;have aN:=aa.bq b;unfold cj at aN;rw[bE]at aN;obtain⟨ms,clk,cR,q2⟩:=aN;exact Rw k v _ ms clk es.length aI (hx.2 aA.symm (by rw[bE];rfl)) cR q2.1 h hc
    ·rename_i k' hS es bE;simp only[Option.some.injEq,Prod.mk.injEq]at h;obtain⟨rfl,h⟩:=h;have aN:=aa.bq b;unfold cj at aN;rw[bE]at aN;rcases aN with⟨e1,_⟩ | ⟨r,ms,clk,e1,B3,cR,q2,_⟩
     ·cases e1
     ·simp only[List.cons.injEq,Value.map.injEq,Option.some.injEq,and_true]at e1;subst e1;exact Rw k v _ ms clk es.length aI (hx.2 aA.symm (by rw[bE];rfl)) cR q2 h hc
    grind
   grind
  ·cases h
 ·cases h
theorem wV{b:Builtin}{args:Array Operand}{cX:Array TypeId}{a:Act}{w w':World}{v:Value}(ah:o.op=.call { callee:=.builtin b,args:=args,argTypes:=cX })
  (h:(builtin b cX o.type (args.map fun | .const _=>true | _=>false) (args.map a.eval)).run C.P w=.ok (.value v) w'):(execOp a.eval o).run C.P w=.ok (.value v) w':=by
 simp only[execOp,ah,Sem.run_bind,resolve,Sem.run_pure,Result.andThen_ok,invoke];exact h
theorem ac5(hT:dz C.P T){args:Array Operand}{cX:Array TypeId}(a7:∀ i,o.dst=some i->i<C.nt)(ah:o.op=.call { callee:=.builtin .len,args:=args,argTypes:=cX })(h:(bh C.aM T a6 (aW C.aM s.ax) o).run s.ae=some res):cp C o s res:=by
 obtain⟨args⟩:=args;obtain⟨cX⟩:=cX;simp only[bh,ah,mA,BQ]at h;split at h
 ·rename_i x t;simp only[bA,ar.eM,Option.bind_eq_some_iff,ar.bz,Option.some.injEq]at h;obtain⟨⟨c,n⟩,aB,rfl⟩:=h;refine cp.pure (by grind) a7 λa w κ F aa aZ hc=>?_;obtain⟨h1,h2⟩:=ac4 hT aa aB hc (cv aa x rfl aZ) o.type;refine⟨_,wV ah ?_,gB.2 ⟨rfl,h2⟩⟩;simp[builtin,h1]
 ·cases h
theorem ac6(hT:dz C.P T){args:Array Operand}{cX:Array TypeId}(a7:∀ i,o.dst=some i->i<C.nt)(ah:o.op=.call { callee:=.builtin .cap,args:=args,argTypes:=cX })(h:(BS T (aW C.aM s.ax) args.toList cX.toList).run s.ae=some res):cp C o s res:=by
 obtain⟨args⟩:=args;obtain⟨cX⟩:=cX;simp only[BS]at h;split at h
 ·rename_i x t;split at h
  ·rename_i e cg aI hu;simp only[bA,ar.bz,Option.some.injEq]at h;subst h;refine cp.pure (by grind) a7 λa w κ F aa aZ hc=>?_;have hv:a.eval x=.slice none 0 0:=cv aa x hu aZ;obtain⟨i,G,_⟩:=(hT.bU aI (by simp)).sl;refine⟨.int .i64 0,wV ah ?_,gB.2 ⟨rfl,by decide⟩⟩;simp[builtin,Builtin.cap_,hv,dk G,goInt]
  ·cases h
 ·cases h
theorem Rx{a:Act}{w:World}{κ:Nat->bo}{F:Nat->Prop}(aa:bc C s a w κ F){k:IntKind}:∀ (l:List Operand) {bT:Prop} {hV:z1'},mz (aW C.aM s.ax) k l=some (bT,hV)->bT->l.map a.eval=hV.map (Value.int k)/\∀ n∈hV,fA k n
 | [],_,_,h,_=>by cases h
 | [x],bT,hV,h,aZ=>by
  simp only[mz]at h;split at h
  ·rename_i k' n hx;split at h
   ·rename_i aj;subst aj;cases h;have h1:=n9 (cv aa x rfl aZ) hx;exact⟨by simp[h1.1],by simpa using h1.2⟩
   ·cases h
  ·cases h
 | x::y::l,bT,hV,h,aZ=>by
  simp only[mz]at h;split at h
  ·rename_i k' n awS awT hx an;split at h
   ·rename_i aj;subst aj;cases h;have h1:=n9 (cv aa x rfl aZ.1) hx;have h2:=Rx aa (y::l) an aZ.2;exact⟨by rw[List.map_cons,h2.1,h1.1];rfl,λm ao=>by
     rcases List.mem_cons.1 ao with rfl | ao
     ·exact h1.2
     ·exact h2.2 m ao⟩
   ·cases h
  ·cases h
theorem J5{k:IntKind}:∀ (hV:z1') (m:Int),fA k m->(∀ n∈hV,fA k n)->((hV.map (Value.int k)).foldlM Builtin.min2 (Value.int k m)=pure (Value.int k (hV.foldl (λa b=>if b<a then b else a) m))/\fA k (hV.foldl (λa b=>if b<a then b else a) m))/\
  ((hV.map (Value.int k)).foldlM Builtin.max2 (Value.int k m)=pure (Value.int k (hV.foldl (λa b=>if b > a then b else a) m))/\fA k (hV.foldl (λa b=>if b > a then b else a) m))
 | [],m,h,_=>⟨⟨rfl,h⟩,rfl,h⟩
 | n::hV,m,h,an=>by
  have aB:=an n (by simp);have an:=λq bf=>an q (List.mem_cons_of_mem n bf);have h1:=(J5 hV (if n<m then n else m) (by split<;>assumption) an).1;have h2:=(J5 hV (if n > m then n else m) (by split<;>assumption) an).2;refine⟨⟨?_,h1.2⟩,?_,h2.2⟩
  ·simp only[List.map_cons,List.foldlM_cons,List.foldl_cons,Builtin.min2];rw[<-h1.1];simp
  ·simp only[List.map_cons,List.foldlM_cons,List.foldl_cons,Builtin.max2];rw[<-h2.1];simp
theorem Ry{b:Builtin}{f:Int->Int->Int}(ad:(b=.min/\f=λa b=>if b<a then b else a)\/(b=.max/\f=λa b=>if b > a then b else a)){args:Array Operand}{cX:Array TypeId}(a7:∀ i,o.dst=some i->i<C.nt)
  (ah:o.op=.call { callee:=.builtin b,args:=args,argTypes:=cX }) (h:(rM (aW C.aM s.ax) f args.toList).run s.ae=some res):cp C o s res:=by
 obtain⟨args⟩:=args;simp only[rM]at h;split at h
 ·rename_i x y l;split at h
  ·rename_i k m hx;split at h
   ·rename_i bT hV an;simp only[bA,ar.bz,Option.some.injEq]at h;subst h;refine cp.pure (by grind) a7 λa w κ F aa aZ hc=>?_;have h1:=n9 (cv aa x rfl aZ.1) hx;obtain⟨h2,h3⟩:=Rx aa (y::l) an aZ.2;obtain⟨g1,dW⟩:=J5 hV m h1.2 h3;have dF:(x::y::l).map a.eval=Value.int k m::hV.map (Value.int k):=by rw[List.map_cons,h2,h1.1]
    refine⟨.int k (hV.foldl f m),wV ah ?_,gB.2 ⟨rfl,?_⟩⟩
    ·rcases ad with⟨rfl,rfl⟩ | ⟨rfl,rfl⟩
     ·simp only[builtin,Builtin.min_,List.map_toArray,dF];rw[g1.1];rfl
     ·simp only[builtin,Builtin.max_,List.map_toArray,dF];rw[dW.1];rfl
    ·rcases ad with⟨rfl,rfl⟩ | ⟨rfl,rfl⟩
     ·exact g1.2
     ·exact dW.2
   ·cases h
  ·cases h
 ·cases h
end
end Go.Fer
namespace Go.Fer
open Go.RowKit
def e6(H:Nat->bw)(x:bw):bw:=match x.body with
 | .a8 e xs=>⟨x.gen,.hj e xs⟩
 | .mp k v es=>⟨x.gen,.i_ k v es⟩
 | .cells t f=>match (h7 t ((List.range t.size).map f)).run H with
  | some (y,_,[])=>⟨x.gen,.gm t y⟩
  | _=>x
 | _=>x
def az.cd(s:az)(l:List Nat):az:=⟨s.ax,λi=>if i∈l then e6 s.ae (s.ae i) else s.ae i⟩
theorem Rz(H:Nat->bw):∀ (l:List Nat) (s:az),(∀ i∈l,s.ae i=H i\/s.ae i=e6 H (H i))->s.fK ((jy l).run H)=⟨s.ax,λi=>if i∈l then e6 H (H i) else s.ae i⟩
 | [],s,_=>by
  rfl
 | b::l,s,h=>by
  simp only[jy,ar.eL,ar.run_bind];have key:∀ (s':az),s'.ax=s.ax->s'.ae b=e6 H (H b)->(∀ i,i≠b->s'.ae i=s.ae i)->s'.fK ((jy l).run H)=⟨s.ax,λi=>if i∈b::l then e6 H (H i) else s.ae i⟩:=by
   intro s' e1 e2 e3;rw[Rz H l s']
   ·rw[e1];congr 1;funext i;by_cases G:i=b
    ·subst G;simp only[e2,List.mem_cons,true_or,if_true];split<;>rfl
    ·rw[e3 i G];simp[G]
   ·intro i G;by_cases ev:i=b
    ·subst ev;exact .inr e2
    ·rw[e3 i ev];exact h i (by simp[G])
  have hl:e6 H (H b)=H b->s.fK ((jy l).run H)=⟨s.ax,λi=>if i∈b::l then e6 H (H i) else s.ae i⟩:=λe=>
   key s rfl (by grind) λ_ _=>rfl
  have put:∀ x,e6 H (H b)=x->s.fK ((b,x)::(jy l).run H)=⟨s.ax,λi=>if i∈b::l then e6 H (H i) else s.ae i⟩:=λx e=>by
   simp only[az.fK];exact key _ rfl (by simp[az.cb,e]) λi G=>by simp[az.cb,G]
  cases ad:(H b).body with
  | a8 e xs=>exact put _ (by simp[e6,ad])
  | mp k v es=>exact put _ (by simp[e6,ad])
  | cells t f=>
   simp only[ar.run_bind,ar.bz];cases aA:(h7 t ((List.range t.size).map f)).run H with
   | none=>exact hl (by simp[e6,ad,aA])
   | some z=>
    obtain⟨y,m,r⟩:=z;cases r with
    | nil=>exact put _ (by simp[e6,ad,aA])
    | cons c r=>exact hl (by simp[e6,ad,aA])
  | _=>exact hl (by simp[e6,ad])
theorem ti(s:az)(l:List Nat):s.fK ((jy l).run s.ae)=s.cd l:=by
 rw[Rz s.ae l s λi _=>.inl rfl];rfl
theorem B4:∀ (l:List (Nat×bw)) (s:az) (p:Nat×bw),s.fK (l++[p])=(s.fK l).cb p.1 p.2
 | [],_,_=>rfl
 | q::l,s,p=>by simp only[List.cons_append,az.fK];exact B4 l _ p
def bC.RA:bC->Bool | .b9 _ _ _ _=>true | .fQ _ _ _ _=>true | _=>false
def gp(H:Nat->bw)(l:List Nat):Prop:=∀ b∈l,(H b).body.RA=false/\∀ t f,(H b).body=.cells t f->∃ y m,(h7 t ((List.range t.size).map f)).run H=some (y,m,[])/\∀ c∈m,c∈l
theorem gp.nil(H:Nat->bw):gp H []:=λb ad=>by cases ad
theorem gp.append{H:Nat->bw}{l m:List Nat}(h:gp H l)(k:gp H m):gp H (l++m):=by
 intro b ad;rcases List.mem_append.1 ad with ad | ad
 ·obtain⟨h1,h2⟩:=h b ad;grind
 ·obtain⟨h1,h2⟩:=k b ad;grind
theorem gp.one{H:Nat->bw}{b:Nat}(h1:(H b).body.RA=false)(h2:(H b).body.ft=false):gp H [b]:=by
 intro c hc;obtain rfl:=List.mem_singleton.1 hc;exact⟨h1,λt f e=>by rw[e]at h2;cases h2⟩
theorem rP{H:Nat->bw}{t:af}{av:aF}{x:t.ai}{l:List Nat}(h:(dE t av).run H=some (x,l)):gp H l:=by
 cases av with
 | val cE y=>
  simp only[dE,ar.bz,Option.map_eq_some_iff,Prod.mk.injEq]at h;obtain⟨z,ba,rfl,rfl⟩:=h;exact .nil H
 | cV=>
  cases t<;>simp only[dE,ar.none,ar.bz,reduceCtorEq,Option.some.injEq,Prod.mk.injEq]at h;obtain⟨rfl,rfl⟩:=h;exact .nil H
 | jt u=>
  simp only[dE,ar.bz,Option.map_eq_some_iff,Prod.mk.injEq]at h;obtain⟨z,ba,rfl,rfl⟩:=h;exact .nil H
 | dD cE y=>
  cases t<;>simp only[dE,ar.none,ar.bz,reduceCtorEq,Option.map_eq_some_iff,Prod.mk.injEq]at h;obtain⟨z,ba,rfl,rfl⟩:=h;exact .nil H
 | own b g=>
  cases t<;>simp only[dE,ar.none,ar.bz,ar.eL,reduceCtorEq]at h;split at h
  ·split at h
   ·rename_i ad;simp only[Option.map_eq_some_iff,Prod.mk.injEq]at h;obtain⟨z,ba,rfl,rfl⟩:=h;exact .one (by rw[ad];rfl) (by rw[ad];rfl)
   ·simp only[Option.map_eq_some_iff,Prod.mk.injEq]at h;obtain⟨z,ba,rfl,rfl⟩:=h;exact .nil H
   grind
  grind
 | sub b g lo G=>
  cases t<;>simp only[dE,ar.none,ar.bz,ar.eL,reduceCtorEq]at h;split at h
  ·split at h
   ·rename_i ad;simp only[Option.map_eq_some_iff,Prod.mk.injEq]at h;obtain⟨z,ba,rfl,rfl⟩:=h;exact .one (by rw[ad];rfl) (by rw[ad];rfl)
   ·simp only[Option.map_eq_some_iff,Prod.mk.injEq]at h;obtain⟨z,ba,rfl,rfl⟩:=h;exact .nil H
   grind
  grind
 | fs b g=>
  cases t<;>simp only[dE,ar.none,ar.bz,ar.eL,reduceCtorEq]at h;split at h
  ·split at h
   ·rename_i ad;simp only[Option.map_eq_some_iff,Prod.mk.injEq]at h;obtain⟨z,ba,rfl,rfl⟩:=h;exact .one (by rw[ad];rfl) (by rw[ad];rfl)
   ·simp only[Option.map_eq_some_iff,Prod.mk.injEq]at h;obtain⟨z,ba,rfl,rfl⟩:=h;exact .nil H
   grind
  grind
 | il k n c=>
  cases t<;>simp only[dE,ar.none,ar.bz,reduceCtorEq]at h;split at h
  ·cases h;exact .nil H
  ·cases h
 | _=>cases h
theorem RB{H:Nat->bw}{e:af}(fT:∀ {cs:List aF} {x:e.ai} {l:List Nat} {r:List aF},(h7 e cs).run H=some (x,l,r)->gp H l){av:aF}{x:Option e.ai}{l:List Nat}
  (h:(s_ e (h7 e) av).run H=some (x,l)):gp H l:=by
 have b5:(dE (.br e) av).run H=some (x,l)->gp H l:=rP (t:=.br e);cases av with
 | loc b g off=>
  simp only[s_,ar.eL]at h;split at h
  ·split at h
   ·simp only[ar.bz,Option.map_eq_some_iff,Prod.mk.injEq]at h;obtain⟨z,ba,rfl,rfl⟩:=h;exact .nil H
   ·rename_i t f ad;split at h
    ·rename_i aI;subst aI;simp only[ar.eM,Option.bind_eq_some_iff,ar.bz]at h;obtain⟨⟨y,m,q⟩,h1,h2⟩:=h;split at h2
     ·rename_i bf;simp only[Option.some.injEq,Prod.mk.injEq]at h2;obtain⟨rfl,rfl⟩:=h2;have bf:q=[]:=List.isEmpty_iff.1 bf;subst bf;intro c hc;rcases List.mem_cons.1 hc with rfl | hc
      ·refine⟨by rw[ad];rfl,λcE iv e=>?_⟩;grind
      ·obtain⟨aP,aQ⟩:=fT h1 c hc;grind
     grind
    ·cases h
   ·cases h
  ·cases h
 | _=>exact b5 h
theorem RC{H:Nat->bw}:∀ (t:af) {cs:List aF} {x:t.ai} {l:List Nat} {r:List aF},(h7 t cs).run H=some (x,l,r)->gp H l:=by
 have pX:∀ (t:af) (g:aF->ar (Option (t.ai×List Nat))),(∀ {av:aF} {x:t.ai} {l:List Nat},(g av).run H=some (x,l)->gp H l)->
   ∀ {cs:List aF} {x:t.ai} {l:List Nat} {r:List aF},(match cs with | c::r=>(g c).map λo=>o.map λ(x,l)=>(x,l,r) | []=>.none:ar (Option (t.ai×List Nat×List aF))).run H=some (x,l,r)->gp H l:=by
  intro t g aA cs x l r h;cases cs with
  | nil=>cases h
  | cons c cs=>
   simp only[ar.map,ar.run_bind,ar.bz,Option.map_eq_some_iff,Prod.mk.injEq]at h;grind
 intro t;induction t with
 | bool=>intro cs x l r h;exact pX .bool (dE .bool) rP h
 | int k=>intro cs x l r h;exact pX (.int k) (dE (.int k)) rP h
 | str=>intro cs x l r h;exact pX .str (dE .str) rP h
 | cA=>
  intro cs x l r h;simp only[h7,ar.bz,Option.some.injEq,Prod.mk.injEq]at h;obtain⟨_,rfl,rfl⟩:=h;exact .nil H
 | st t aJ=>intro cs x l r h;exact aJ h
 | ay a b fk eu=>
  intro cs x l r h;simp only[h7,ar.eM,Option.bind_eq_some_iff,ar.bz,Option.some.injEq,Prod.mk.injEq]at h;obtain⟨⟨y,m,q⟩,h1,⟨z,df,q'⟩,h2,rfl,rfl,rfl⟩:=h;exact (fk h1).append (eu h2)
 | slice e aJ=>intro cs x l r h;exact pX (.slice e) (dE (.slice e)) rP h
 | array n e aJ=>
  intro cs xs l r h;simp only[h7]at h;have key:∀ (n:Nat) {cs:List aF} {xs:List e.ai} {l:List Nat} {r:List aF},(n.rec (motive:=λ_=>List aF->ar (Option (List e.ai×List Nat×List aF))) (λcs=>.ret (some ([],[],cs)))
     (λ_ aJ cs=>(h7 e cs).cx λ(x,l,r)=>(aJ r).cx λ(xs,m,q)=>.ret (some (x::xs,l++m,q))) cs).run H=some (xs,l,r)->gp H l:=by
   intro n;induction n with
   | zero=>intro cs xs l r h;cases h;exact .nil H
   | succ n BN=>
    intro cs xs l r h;simp only[ar.eM,Option.bind_eq_some_iff,ar.bz,Option.some.injEq,Prod.mk.injEq]at h;obtain⟨⟨y,m,q⟩,h1,⟨z,df,q'⟩,h2,rfl,rfl,rfl⟩:=h;exact (aJ h1).append (BN h2)
  grind
 | br e aJ=>intro cs x l r h;exact pX (.br e) (s_ e (h7 e)) (RB aJ) h
 | map k v wD wF=>intro cs x l r h;exact pX (.map k v) (dE (.map k v)) rP h
 | fn a b fk eu=>intro cs x l r h;exact pX (.fn a b) (dE (.fn a b)) rP h
 | b9 a aJ=>intro cs x l r h;exact pX (.b9 a) (dE (.b9 a)) rP h
 | dT=>intro cs x l r h;exact pX .dT (dE .dT) rP h
theorem mD{H:Nat->bw}{t:af}{av:aF}{x:t.ai}{l:List Nat}(h:(di t av).run H=some (x,l)):gp H l:=by
 have b5:(ki t av).run H=some (x,l)->gp H l:=by
  intro h;unfold ki at h;split at h
  ·exact RB (λh=>RC _ h) h
  ·split at h
   ·exact rP h
   ·cases h
 cases av with
 | val cE y=>
  simp only[di,ar.bz,Option.map_eq_some_iff,Prod.mk.injEq]at h;obtain⟨z,ba,rfl,rfl⟩:=h;exact .nil H
 | agg n f=>
  simp only[di]at h;split at h
  ·cases h
  ·simp only[ar.eM,Option.bind_eq_some_iff,ar.bz]at h;obtain⟨⟨y,m,q⟩,h1,h2⟩:=h;split at h2
   ·simp only[Option.some.injEq,Prod.mk.injEq]at h2;obtain⟨rfl,rfl⟩:=h2;exact RC t h1
   grind
 | _=>exact b5 h
theorem zb(H:Nat->bw)(x:bw):e6 H x=x\/(∃ e xs,x.body=.a8 e xs/\e6 H x=⟨x.gen,.hj e xs⟩)\/(∃ k v es,x.body=.mp k v es/\e6 H x=⟨x.gen,.i_ k v es⟩)\/
  ∃ t f y m,x.body=.cells t f/\(h7 t ((List.range t.size).map f)).run H=some (y,m,[])/\e6 H x=⟨x.gen,.gm t y⟩:=by
 cases hx:x.body with
 | a8 e xs=>exact .inr (.inl ⟨e,xs,rfl,by simp[e6,hx]⟩)
 | mp k v es=>exact .inr (.inr (.inl ⟨k,v,es,rfl,by simp[e6,hx]⟩))
 | cells t f=>
  cases aA:(h7 t ((List.range t.size).map f)).run H with
  | none=>exact .inl (by simp[e6,hx,aA])
  | some z=>
   obtain⟨y,m,r⟩:=z;cases r with
   | nil=>exact .inr (.inr (.inr ⟨t,f,y,m,rfl,aA,by simp[e6,hx,aA]⟩))
   | cons c r=>exact .inl (by simp[e6,hx,aA])
 | _=>exact .inl (by simp[e6,hx])
theorem ac7{H:Nat->bw}{x:bw}{k:bo}(h:(e6 H x).body.bN k=true):(x.body.bN k=true/\e6 H x=x):=by
 rcases zb H x with e | ⟨_,_,_,e⟩ | ⟨_,_,_,_,e⟩ | ⟨_,_,_,_,_,_,e⟩
 ·grind
 all_goals rw[e]at h;cases h
theorem RD(s:az)(l:List Nat)(κ:Nat->bo):fe s.ae κ (s.cd l).ae κ:=by
 rw[BH];intro b;simp only[az.cd];split
 ·rcases zb s.ae (s.ae b) with e | ⟨_,_,hx,e⟩ | ⟨_,_,_,hx,e⟩ | ⟨_,_,_,_,hx,_,e⟩
  ·rw[e];exact pU.refl _ _
  ·rw[e];exact⟨Nat.le_refl _,λ_=>⟨λh=>(by cases h),λ_=>⟨by rw[hx];rfl,rfl,by rw[hx];rfl,by rw[hx];rfl⟩,λh=>(by cases h),λh=>(by cases h)⟩⟩
  ·rw[e];exact⟨Nat.le_refl _,λ_=>⟨λh=>(by cases h),λh=>(by cases h),λ_=>⟨by rw[hx];rfl,rfl⟩,λh=>(by cases h)⟩⟩
  ·rw[e];exact⟨Nat.le_refl _,λ_=>⟨λ_=>⟨by rw[hx];rfl,rfl⟩,λh=>(by cases h),λh=>(by cases h),λh=>(by cases h)⟩⟩
 ·exact pU.refl _ _
theorem bc.k0{C:bS}{a:Act}{w:World}{κ:Nat->bo}{l:List Nat}{s:az}{F:Nat->Prop}(lB:gp s.ae l)(h:bc C s a w κ F) :
  ∃ F',(∀ r,F r->F' r)/\bc C (s.cd l) a w κ F'/\iM s.ae κ F' l:=by
 let F':Nat->Prop:=λr=>F r\/∃ b∈l,(s.ae b).body.bN (κ b)=true/\(κ b).ae=r;have bd:∀ r,F r->F' r:=λr aa=>.inl aa;have tj:iM s.ae κ F' l:=λb ad ah=>.inr ⟨b,ad,ah,rfl⟩;have J6:∀ b,((s.cd l).ae b).body.bN (κ b)=true->b ∉ l/\(s.ae b).body.bN (κ b)=true:=by
  intro b ad;simp only[az.cd]at ad;by_cases iw:b∈l
  ·rw[if_pos iw]at ad;obtain⟨aP,aQ⟩:=ac7 ad;exfalso;obtain⟨c1,c2⟩:=lB b iw;cases hx:(s.ae b).body with
   | a8 e xs=>simp[e6,hx,bC.bN]at ad
   | mp k v es=>simp[e6,hx,bC.bN]at ad
   | cells t f=>
    obtain⟨y,m,g,_⟩:=c2 t f hx;simp[e6,hx,g,bC.bN]at ad
   | b9 k v c r=>rw[hx]at c1;cases c1
   | fQ e xs i v=>rw[hx]at c1;cases c1
   | _=>rw[hx]at aP;cases aP
  grind
 have an:=RD s l κ;refine⟨F',bd,?_,tj⟩;refine h.move an bd (λr aa=>aa.imp id λ⟨b,_,h1,h2⟩=>.inl ⟨b,h1,h2⟩) (Nat.le_refl _) (λ_ _ _=>rfl) (cN.refl _) (λ_ b=>?_) (λb ad=>?_) (λb a1 ad cQ e=>h.inj b a1 (J6 b ad).2 (J6 a1 cQ).2 e) (λr aa=>?_) (λb _ ad=>⟨rfl,?_⟩)
 ·show cj C.P (s.cd l).ae κ F' w b;by_cases iw:b∈l
  ·have aN:=h.bq b;have J7:(s.cd l).ae b=e6 s.ae (s.ae b):=by simp[az.cd,iw]
   have kX:e6 s.ae (s.ae b)=s.ae b->cj C.P (s.cd l).ae κ F' w b:=λe=>cj.kX aN an bd (cJ.refl _ _) (by grind) rfl λ_=>rfl;cases hx:(s.ae b).body with
   | a8 e xs=>
    unfold cj at aN ⊢;rw[hx]at aN;rw[J7];simp only[e6,hx,ju];exact JO aN bd λaB=>tj b iw (by rw[hx];simp[bC.bN,aB])
   | mp k v es=>
    unfold cj at aN ⊢;rw[hx]at aN;rw[J7];simp only[e6,hx,ju];exact Q_ aN bd (tj b iw (by rw[hx];rfl))
   | cells t f=>
    obtain⟨y,m,g,ao⟩:=(lB b iw).2 t f hx;unfold cj at aN ⊢;rw[hx]at aN;rw[J7];simp only[e6,hx,g,ju];obtain⟨cs,T,aP,aQ,bB⟩:=aN;have iq:d' C.P s.ae κ F w ((List.range t.size).map f) cs.toList:=BM (by omega) λi G=>by
     simp_all
    obtain⟨c,d,JQ,c1,c2⟩:=JR h.bq bd t g (λc hc=>tj c (ao c hc)) iq;cases d with
    | cons _ _=>exact c2.elim
    | nil=>
     rw[List.append_nil]at JQ;refine⟨c,⟨tj b iw (by rw[hx];rfl),rfl,λj aD=>?_⟩,c1⟩;have fB:j<cs.size:=by grind
     simp only[World.cell?,aP,Nat.zero_add,Option.isSome_none,Bool.false_eq_true,if_false,Array.getElem?_eq_getElem fB];grind
   | _=>exact kX (by simp[e6,hx])
  ·exact cj.kX (h.bq b) an bd (cJ.refl _ _) (by simp[az.cd,iw]) rfl λ_=>rfl
 ·obtain⟨aP,aQ⟩:=J6 b ad;have ah:=h.own b aQ;refine⟨ah.1,λau=>?_,.inl ⟨b,aQ,rfl⟩⟩;rcases au with au | ⟨b0,m1,m2,m3⟩
  ·grind
  ·exact aP (h.inj b b0 aQ m2 m3.symm ▸ m1)
 ·rcases aa with aa | ⟨b,_,ad,rfl⟩
  ·exact h.cM r aa
  ·exact (h.own b ad).1
 ·split at ad
  ·rcases zb s.ae (s.ae b) with e | ⟨_,_,hx,e⟩ | ⟨_,_,_,hx,e⟩ | ⟨_,_,_,_,hx,_,e⟩
   ·grind
   ·rw[e]at ad;simp[bC.ft,bC.gC]at ad
   ·rw[hx];exact .inr rfl
   ·rw[hx];exact .inl rfl
  omega
section
variable {C:bS} {T:Nat->af} {a6:Nat->Option aL} {o:Oper} {s:az} {res:eb}
theorem bc.gQ{a:Act}{w:World}{κ:Nat->bo}{F:Nat->Prop}(h:bc C s a w κ F){b:Nat}(ad:b<C.nt):b<eC:=Nat.lt_of_lt_of_le ad h.fR
theorem bc.newVar{a:Act}{w:World}{κ:Nat->bo}{F:Nat->Prop}(h:bc C s a w κ F){b:Nat}(BK:b<eC){t:af}{l:List aF}{cs:List Value}{ty:TypeId}(an:d' C.P s.ae κ F w l cs)(aI:l.length=t.size) :
  ∃ κ',bc C (s.cb b ⟨(s.ae b).gen+1,.cells t (gP l)⟩) a (w.alloc (.cells cs.toArray ty)) κ' F/\(κ' b).ae=w.heap.size:=by
 refine⟨_,h.alloc (k:=⟨w.heap.size,0,0,false⟩) BK (Nat.lt_succ_self _) rfl λH κ' mE BJ bX=>?_,by simp⟩;refine⟨cs.toArray,ty,pV _ _,by simp[<-an.len,aI],λi G=>?_⟩;have:=an.kG i (by omega);have e:cs.toArray.getD i Go.undef=cs.getD i Go.undef:=by simp
 rw[e];exact⟨bl.later bX (λ_ aa=>aa) (cJ.alloc h.cM _) this.1,this.2⟩
theorem B5(t:af){P:Program}{z:Value}(h:jY t z.cells.toList=some []):(rJ t).length=t.size/\z.cells.size=t.size:=by
 obtain⟨c,e,h1,h2⟩:=uP (P:=P) (H:=λ_=>⟨0,.fm⟩) (κ:=λ_=>⟨0,0,0,true⟩) (F:=λ_=>True) (w:=default) t h;rw[List.append_nil]at e;have:=hC t h1;have:=h2.len;grind
theorem ac8(hT:dz C.P T){ty:TypeId}(a7:∀ i,o.dst=some i->i<C.nt)(ah:o.op=.alloc ty)(h:(bh C.aM T a6 (aW C.aM s.ax) o).run s.ae=some res)(pZ:T ty≠.cA):cp C o s res:=by
 simp only[bh,ah]at h;obtain⟨b,aw,aj⟩:=qM h;simp only[if_neg pZ,Option.some.injEq]at aj;subst aj;intro a w κ F Q aa _ _;have cY:=hT.bU rfl pZ;obtain⟨i,z,h1,h2,h3,aT,bx,c_⟩:=kk cY.kj;obtain⟨c,e,n',z2⟩:=uP (P:=C.P) (H:=s.ae) (κ:=κ) (F:=F) (w:=w) (T ty) bx;rw[List.append_nil]at e;have ba:=B5 (T ty) (P:=C.P) bx;obtain⟨κ',b3,cr⟩:=aa.newVar (b:=b) (aa.gQ (a7 b aw)) (t:=T ty) (ty:=ty) z2 ba.1;have cK:(execOp a.eval o).run C.P w=.ok (.value (.pointer (some ⟨w.heap.size,0,none⟩))) (w.alloc (.cells c.toArray ty)):=by
  have zc:z.cells=c.toArray:=by grind
  simp[execOp,ah,Instr.alloc,qK h1 aT,newVar,newRow,zc]
 refine ha (by grind) cK ⟨κ',F,bc.set (s:=s.cb b _) b3 a7 ⟨⟨?_,rfl⟩,λ_ _=>?_⟩⟩
 ·simp[az.cb]
 grind
theorem J8{P:Program}{H:Nat->bw}{κ:Nat->bo}{F:Nat->Prop}{w:World}{t:af}{av:aF}{v:Value}{l:List aF}(h:cellsOf t av=some l)(hv:bl P H κ F w av v):d' P H κ F w l v.cells.toList:=by
 unfold cellsOf at h;split at h
 ·rename_i cE x;split at h
  ·rename_i he;subst he;simp only[Option.some.injEq]at h;subst h;obtain⟨⟨cs,rfl,_⟩,hc⟩:=hv;simp only[bu]at hc;exact yZ _ hc
  grind
 ·rename_i n f;split at h
  ·simp only[Option.some.injEq]at h;subst h;obtain⟨aC,rfl,h1,h2⟩:=hv;exact BM h1 h2
  grind
 ·rename_i n e iO aV x;split at h
  ·simp only[Option.some.injEq]at h;subst h;obtain⟨⟨cs,rfl,_⟩,hc⟩:=hv;exact yZ _ hc
  grind
 ·rename_i n e m f;split at h
  ·simp only[Option.some.injEq]at h;subst h;obtain⟨aC,rfl,h1,h2⟩:=hv;exact BM h1 h2
  grind
 ·split at h
  ·have one:v.oneCell'=true->l=[av]->d' P H κ F w l v.cells.toList:=by
    intro h1 h2;subst h2;rw[E1 h1];exact⟨⟨hv,h1⟩,trivial⟩
   split at h
   ·rename_i cE x;split at h
    ·rename_i y_;obtain⟨aP,aQ⟩:=(dC y_).1 hv;exact one (JL y_ aQ) (Option.some.inj h).symm
    grind
   ·exact one hv.1.2 (Option.some.inj h).symm
   ·exact one hv.1.2 (Option.some.inj h).symm
   ·exact one hv.1.2 (Option.some.inj h).symm
   ·refine one ?_ (Option.some.inj h).symm;obtain⟨p,a_,rfl,_⟩:=hv;rfl
   ·exact one hv.1.2 (Option.some.inj h).symm
   ·refine one ?_ (Option.some.inj h).symm;obtain⟨aC,rfl,_⟩:=hv;rfl
   ·refine one ?_ (Option.some.inj h).symm;simp only[bl]at hv;subst hv;rfl
   ·exact one hv.1.2 (Option.some.inj h).symm
   ·cases h
   ·cases h
   ·refine one ?_ (Option.some.inj h).symm;simp only[bl]at hv;subst hv;cases v<;>first | rfl | grind | grind | grind | grind
   grind
  grind
end
end Go.Fer
namespace Go.Fer
open Go.RowKit
theorem Fl:∀ (l:List Value) (k off:Nat) (cs:Array Value),off+k+l.length<=cs.size->
  ((l.zipIdx k).foldl (λ(cs:Array Value) (p:Value×Nat)=>cs.setIfInBounds (off+p.2) p.1) cs).toList=cs.toList.take (off+k)++(l++cs.toList.drop (off+k+l.length))
 | [],k,off,cs,h=>by simp
 | c::l,k,off,cs,h=>by
  simp only[List.zipIdx_cons,List.foldl_cons];have bV:(cs.setIfInBounds (off+k) c).size=cs.size:=by simp
  rw[Fl l (k+1) off _ (by grind)];simp only[Array.toList_setIfInBounds,List.length_cons]at h ⊢;have bX:off+k<cs.toList.length:=by grind
  rw[show off+(k+1)=(off+k)+1 from by omega];rw[List.take_set,List.drop_set];rw[if_pos (by omega)];have h1:(cs.toList.take (off+k+1)).set (off+k) c=cs.toList.take (off+k)++[c]:=by
   rw[List.take_succ_eq_append_getElem bX,List.set_append_right _ _ (by grind)];have B6:min (off+k) cs.size=off+k:=Nat.min_eq_left (by omega);simp[B6]
  grind
section
variable {P:Program} {w:World}
theorem ac9(w:World)(b off:Nat)(v:Value){cs:Array Value}{T:TypeId}{e6:Nat×Nat}(h:w.heap[b]?=some (.cells cs T e6)) :
  (w.setCell ⟨b,off,none⟩ v).heap[b]?=some (.cells (cs.setIfInBounds off v) T e6):=by
 simp[World.setCell,Array.getElem?_modify,h]
theorem uV{b:Nat}{T:TypeId}:∀ (aC:List Value) (off i:Nat) (w:World) (cs:Array Value),w.heap[b]?=some (.cells cs T (0,0))->off+i+aC.length<=cs.size->(∀ v∈aC,v.oneCell'=true)->
  ∃ w' cS,(storeCells ⟨b,off,none⟩ aC i).run P w=.ok () w'/\w'.heap[b]?=some (.cells cS T (0,0))/\cS.toList=cs.toList.take (off+i)++(aC++cs.toList.drop (off+i+aC.length))/\
   (∀ r,r≠b->w'.heap[r]?=w.heap[r]?)/\w'.heap.size=w.heap.size/\cN w w'
 | [],off,i,w,cs,h,_,_=>⟨w,cs,by rfl,h,by simp,λ_ _=>rfl,rfl,cN.refl w⟩
 | v::aC,off,i,w,cs,h,an,hv=>by
  have bX:off+i<cs.size:=by grind
  have hc:w.cell? ⟨b,off+i,none⟩=some cs[off+i]:=by rw[uU h];simp
  have au:w.frozen? ⟨b,off+i,none⟩=false:=by simp[World.frozen?,h]
  have h1:=ac9 w b (off+i) v h;obtain⟨w',cS,b3,cr,dX,lC,lD,l7⟩:=uV aC off (i+1) (w.setCell ⟨b,off+i,none⟩ v) _ h1 (by grind) (λu hu=>hv u (by grind));refine⟨w',cS,?_,cr,?_,?_,by simp_all,cN.trans (b:=w.setCell ⟨b,off+i,none⟩ v) ⟨rfl,rfl,rfl⟩ l7⟩
  ·simp only[storeCells,Sem.run_bind,uS,run_store P w _ v _ (hv v (by simp)),hc,au,Bool.false_eq_true,if_false,Result.andThen_ok];exact b3
  ·rw[dX];have:=Fl [v] 0 (off+i) cs (by grind);simp only[List.zipIdx_cons,List.zipIdx_nil,List.foldl_cons,List.foldl_nil,Nat.add_zero,List.length_singleton]at this;rw[this];have e1:(cs.toList.take (off+i)).length=off+i:=by grind
   rw[List.take_append,List.drop_append,e1];simp only[show off+(i+1) - (off+i)=1 from by omega,show off+(i+1)+aC.length - (off+i)=aC.length+1 from by omega];have e2:List.take (off+(i+1)) (cs.toList.take (off+i))=cs.toList.take (off+i):=List.take_of_length_le (by omega);have e3:List.drop (off+(i+1)+aC.length) (cs.toList.take (off+i))=[]:=List.drop_of_length_le (by omega);rw[e2,e3];simp only[List.length_cons,List.nil_append,List.append_assoc,List.cons_append];simp only[List.take_succ_cons,List.take_zero,List.drop_succ_cons,List.drop_drop,List.cons_append,List.nil_append];grind
  ·intro r aa;rw[lC r aa];exact Below.heap_setCell _ _ _ _ (by omega)
end
section
variable {C:bS} {T:Nat->af} {a6:Nat->Option aL} {o:Oper} {s:az} {res:eb}
theorem ac_{ty:TypeId}{x:Operand}(a7:∀ i,o.dst=some i->i<C.nt)(ah:o.op=.box ty x)(h:(bh C.aM T a6 (aW C.aM s.ax) o).run s.ae=some res):cp C o s res:=by
 simp only[bh,ah]at h;split at h
 ·rename_i l an;obtain⟨b,aw,aj⟩:=qM h;split at aj;case isFalse=>cases aj
  rename_i hlen;simp only[Option.some.injEq]at aj;subst aj;intro a w κ F Q aa aZ _;have hv:=cv aa x rfl aZ;obtain⟨κ',b3,cr⟩:=aa.newVar (b:=b) (aa.gQ (a7 b aw)) (t:=T ty) (ty:=ty) (J8 an hv) hlen;have cK:(execOp a.eval o).run C.P w=.ok (.value (.pointer (some ⟨w.heap.size,0,none⟩))) (w.alloc (.cells (a.eval x).cells.toList.toArray ty)):=by
   simp[execOp,ah,Instr.box,newVar,newRow]
  refine ha (by grind) cK ⟨κ',F,bc.set (s:=s.cb b _) b3 a7 ⟨⟨?_,rfl⟩,λ_ _=>?_⟩⟩
  ·simp[az.cb]
  grind
 ·cases h
theorem ac'{P:Program}:∀ (t:af) {l:List Field} {off:Nat},cm P t (.inr (l,off))=true->∀ f∈l,∃ s,bQ P s f.type:=by
 intro t;induction t with
 | ay a b fk eu=>
  intro l off h;match l,h with
  | [],h=>simp
  | [x],h=>simp only[cm,Bool.false_eq_true]at h
  | [x,y],h=>
   simp only[cm,Bool.and_eq_true]at h;intro f au;simp only[List.mem_cons,List.not_mem_nil,or_false]at au;rcases au with rfl | rfl
   ·exact⟨a,h.1.1.1.2⟩
   ·exact⟨b,h.2.1.1.2⟩
  | x::y::z::l,h=>
   simp only[cm,Bool.and_eq_true]at h;intro f au;rcases List.mem_cons.1 au with rfl | au
   ·exact⟨a,h.1.1.1.2⟩
   grind
 | _=>intro l off h;simp only[cm,Bool.false_eq_true]at h
theorem bQ.ada{P:Program}{t:af}{id:TypeId}(h:bQ P (.st t) id){eF:Array Field}(ja:P.underlying id=some (.struct eF)):∀ f∈eF.toList,∃ s,bQ P s f.type:=by
 obtain⟨_,_,h3,aT⟩:=h.BX;rw[ja]at aT;simp only[Option.some.injEq,TypeDesc.struct.injEq]at aT;rw[<-aT]at h3;rcases h3 with h3 | ⟨f,e,_,h3,_⟩ | ⟨_,e⟩
 ·exact ac' t h3
 ·rw[e];intro g aA;simp only[List.mem_singleton]at aA;subst aA;exact⟨t,h3⟩
 ·rw[e];intro g aA;cases aA
theorem d'.replace{P:Program}{H:Nat->bw}{κ:Nat->bo}{F:Nat->Prop}{w:World}{as l:List aF}{us aC:List Value}(h:d' P H κ F w as us)(k:d' P H κ F w l aC)(off:Nat) :
  d' P H κ F w (as.take off++(l++as.drop (off+l.length))) (us.take off++(aC++us.drop (off+aC.length))):=by
 have B7:∀ {as:List aF} {us:List Value} (n:Nat),d' P H κ F w as us->d' P H κ F w (as.take n) (us.take n):=by
  intro as;induction as with
  | nil=>intro us n h;cases us<;>first | exact h.elim | grind
  | cons a as aJ=>intro us n h;cases us with
   | nil=>exact h.elim
   | cons u us=>cases n with
    | zero=>trivial
    | succ n=>exact⟨h.1,aJ n h.2⟩
 have adb:∀ {as:List aF} {us:List Value} (n:Nat),d' P H κ F w as us->d' P H κ F w (as.drop n) (us.drop n):=by
  intro as;induction as with
  | nil=>intro us n h;cases us<;>first | exact h.elim | grind
  | cons a as aJ=>intro us n h;cases us with
   | nil=>exact h.elim
   | cons u us=>cases n with
    | zero=>exact h
    | succ n=>exact aJ n h.2
 rw[<-k.len];exact (B7 off h).append (k.append (adb _ h))
theorem RE{P:Program}{H:Nat->bw}{κ:Nat->bo}{F:Nat->Prop}{w:World}{t:af}{id:TypeId}{eF:Array Field}(cY:bQ P (.st t) id)(ja:P.underlying id=some (.struct eF)){place:Nat->Option (Nat×Nat)}
  (rQ:∀ i f s,eF[i]?=some f->bQ P s f.type->place i=some (f.offset,s.size)):∀ (ps:List (Nat×aF)) (qs:List (Nat×Value)) {as Fm:List aF} {cs:Array Value},d' P H κ F w as cs.toList->E9 t as ps=some Fm->
  ps.length=qs.length->(∀ i (h:i<ps.length) (da:i<qs.length),ps[i].1=qs[i].1/\bl P H κ F w ps[i].2 qs[i].2)->∃ cS,Instr.fill place cs qs=some cS/\d' P H κ F w Fm cS.toList
 | [],[],as,Fm,cs,aU,au,_,_=>by cases au;exact⟨cs,rfl,aU⟩
 | (i,av)::ps,(kZ,v)::qs,as,Fm,cs,aU,au,hlen,eJ=>by
  have h0:=eJ 0 (by simp) (by simp);simp only[List.getElem_cons_zero]at h0;obtain⟨rfl,hv⟩:=h0;simp only[E9]at au;split at au
  ·cases au
  ·rename_i s off tk;split at au
   ·cases au
   ·rename_i l an;split at au
    ·rename_i hc;obtain⟨awU,nz,f1,f2,f3,f4,f5⟩:=cY.field tk;rw[ja]at f1;simp only[Option.some.injEq,TypeDesc.struct.injEq]at f1;subst f1;have hp:=rQ i nz s f2 f4;rw[f3]at hp;have iq:=J8 an hv;have bV:v.cells.size=s.size:=by have:=iq.len;grind
     have oY:as.length=cs.size:=by simpa using aU.len
     have Fo:=Fl v.cells.toList 0 off cs (by grind);have e:(v.cells.zipIdx.foldl (λ(cs:Array Value) (p:Value×Nat)=>cs.setIfInBounds (off+p.2) p.1) cs)=((v.cells.toList.zipIdx 0).foldl (λ(cs:Array Value) (p:Value×Nat)=>cs.setIfInBounds (off+p.2) p.1) cs):=by
      rw[<-Array.foldl_toList];simp
     have ade:=aU.replace iq off;rw[hc.1]at ade;obtain⟨cS,aP,aQ⟩:=RE cY ja rQ ps qs (cs:=v.cells.zipIdx.foldl (λ(cs:Array Value) (p:Value×Nat)=>cs.setIfInBounds (off+p.2) p.1) cs) (by rw[e,Fo];omega) au (by grind)
      (λj h da=>by have:=eJ (j+1) (by grind) (by grind);grind)
     refine⟨cS,?_,aQ⟩;simp only[Instr.fill,hp];grind
    grind
 | [],_::_,_,_,_,_,_,hlen,_=>by grind
 | _::_,[],_,_,_,_,_,hlen,_=>by grind
theorem RF:∀ {l:List (Nat×aF)},rL l->∀ i (h:i<l.length),(use l[i].2).1
 | a::l,h,0,_=>by
  obtain⟨n,a⟩:=a;cases a<;>first | trivial | exact h.1
 | a::l,h,i+1,G=>by
  have da:rL l:=by obtain⟨n,a⟩:=a;cases a<;>first | exact h | exact h.2
  have:=RF da i (by grind);grind
theorem J9{a:Act}{w:World}{κ:Nat->bo}{F:Nat->Prop}(aa:bc C s a w κ F)(ps:List (Nat×Operand))(aZ:rL (ps.map λp=>(p.1,aW C.aM s.ax p.2))) :
  ∀ i (h:i<(ir (ps.map λp=>(p.1,aW C.aM s.ax p.2))).length) (da:i<(ps.map λp=>(p.1,a.eval p.2)).length),(ir (ps.map λp=>(p.1,aW C.aM s.ax p.2)))[i].1=(ps.map λp=>(p.1,a.eval p.2))[i].1/\bl C.P s.ae κ F w (ir (ps.map λp=>(p.1,aW C.aM s.ax p.2)))[i].2 (ps.map λp=>(p.1,a.eval p.2))[i].2:=by
 intro i h da;have G:i<ps.length:=by grind
 have h1:=RF aZ i (by grind);simp only[List.getElem_map]at h1;refine⟨by simp[ir],?_⟩;simp only[ir,List.getElem_map];exact oX (j1 aa _) h1
theorem adf(hT:dz C.P T){ty:TypeId}{ps:Array (Nat×Operand)}(a7:∀ i,o.dst=some i->i<C.nt)(ah:o.op=.build ty ps)(Fp:∀ m e,T ty≠.array m e)(h:(bh C.aM T a6 (aW C.aM s.ax) o).run s.ae=some res):cp C o s res:=by
 obtain⟨ps⟩:=ps;simp only[bh,ah]at h;split at h
 ·rename_i t aI;have cY:=hT.bU aI (by simp);split at h
  ·rename_i cs oY;simp only[bA,ar.bz,Option.some.injEq]at h;subst h;refine cp.pure (by grind) a7 λa w κ F aa aZ _=>?_;obtain⟨eF,ja⟩:=cY.st;obtain⟨i,z,h1,h2,h3,aT,bx,c_⟩:=kk cY.kj;obtain⟨c,e,n',z2⟩:=uP (P:=C.P) (H:=s.ae) (κ:=κ) (F:=F) (w:=w) (.st t) bx;rw[List.append_nil]at e;have adg:=cY.ada ja;have ao:=ChangeMaps.mapM_total (f:=λ(f:Field)=>(C.P.info? f.type).map λi=>(f.offset,i.size)) (0,0) (l:=eF.toList) (λf au=>by
    obtain⟨s',rR⟩:=adg f au;obtain⟨kZ,_,zd,_⟩:=kk rR.kj;simp_all)
   have rQ:=run_places (P:=C.P) w eF.toList _ ao;obtain⟨cS,aP,aQ⟩:=RE (w:=w) cY ja (place:=λj=>((eF.toList.map λf=>((C.P.info? f.type).map λi=>(f.offset,i.size)).getD (0,0)))[j]?)
    (λj f s' aD rR=>by
     obtain⟨kZ,_,zd,wW,_⟩:=kk rR.kj;grind)
    _ _ (by rw[e];exact z2) oY (by simp[ir]) (J9 aa ps aZ)
   have hlen:cs.length=cS.size:=by simpa using aQ.len
   refine⟨.agg cS,?_,cS.toList,by simp,by grind,λj aD=>?_⟩
   ·have J_:(eF.mapM λf=>do pure (f.offset,<-sizeOf f.type):Sem (Array (Nat×Nat))).run C.P w=.ok (eF.toList.map λf=>((C.P.info? f.type).map λi=>(f.offset,i.size)).getD (0,0)).toArray w:=by
     rw[Array.mapM_eq_mapM_toList];simp[rQ]
    simp only[execOp,ah,Instr.build,Sem.run_bind,qK h1 aT,Result.andThen_ok,dk ja,J_];simp_all
   ·have:=aQ.kG j aD;omega
  ·cases h
 ·rename_i aI;exact absurd aI (Fp _ _)
 ·cases h
end
end Go.Fer
namespace Go.Fer
open Go.RowKit
section
variable {C:bS} {T:Nat->af} {a6:Nat->Option aL} {o:Oper} {s:az} {res:eb}
theorem J'{P:Program}{w w':World}{t:af}{id:TypeId}(h:bQ P t id){p:Addr}{v:Value}(bV:v.cells.size=t.size)(hs:(storeCells p v.cells.toList).run P w=.ok () w'):(storeVar id p v).run P w=.ok () w':=by
 simp[storeVar,h.size,bV,hs]
theorem adh(hT:dz C.P T){ty:TypeId}{x y:Operand}(a7:o.dst=none)(ah:o.op=.store ty x y)(h:(bh C.aM T a6 (aW C.aM s.ax) o).run s.ae=some res):cp C o s res:=by
 simp only[bh,ah]at h;split at h
 ·rename_i cg b g i hx;unfold JV at h;split at h
  ·rename_i a1 g' aO;simp only[ar.eL,ar.bz]at h;split at h
   ·rename_i e xs kZ v bE;split at h
    ·rename_i hc;obtain⟨aA,an⟩:=hc;simp only[Option.some.injEq]at h;subst h;intro a w κ F Q aa aZ G;have G:i=kZ:=G;subst G;have h1:=(cv aa x hx aZ.1).2 aA.symm (by rw[bE];rfl);have hv:=cv aa y (av:=.own a1 g') (p:=(use (aW C.aM s.ax y)).1) (by rw[<-aO]) aZ.2;have aN:=aa.bq b;unfold cj at aN;rw[bE]at aN h1;obtain⟨h0,cs,hH,c1,c2,c3,c4,c5,lA,n_,wU⟩:=aN;have cY:=hT.bU (t:=T ty) rfl (by intro e;rw[e]at an;cases an);have tf:=E1 hv.1.2;have bV:(a.eval y).cells.size=(T ty).size:=by
      rw[tf];cases aI:T ty<;>simp_all[af.ef,af.size]
     have k1:(κ b).off+i<cs.size:=by
      have:i<(κ b).cap:=by omega
      rw[c5.1]at c2;omega
     have hp:a.eval x=.pointer (some ⟨(κ b).ae,(κ b).off+i,none⟩):=by rw[h1.2.2];simp[bC.eK,c5.1]
     obtain⟨w',cS,b3,cr,dX,lC,lD,l7⟩:=uV (P:=C.P) (a.eval y).cells.toList ((κ b).off+i) 0 w cs c1 (by rw[tf];simp;omega) (λu hu=>by rw[tf]at hu;simp at hu;rw[hu];exact hv.1.2);refine Fh (w':=w') (by grind) (by simp[execOp,ah,hp,Instr.storeAt,Instr.sureAddr,J' cY bV b3]) ?_;rw[a7];refine⟨κ,F,?_⟩;have fV:fe s.ae κ (λq=>if q=b then (⟨(s.ae b).gen,.fQ e xs i (.own a1 g')⟩:bw) else s.ae q) κ:=
      qG rfl (λh=>by cases h) (λ_=>by rw[bE];exact⟨rfl,rfl,rfl⟩) (λh=>by cases h) (λh=>by cases h)
     refine (aa.oV (b:=b) (x:=⟨(s.ae b).gen,.fQ e xs i (.own a1 g')⟩) (by rw[bE];simp[bC.bN,h0]) (by simp[bC.bN,h0]) fV (λh=>by cases h) (λh=>by cases h) lC lD l7 λH mE bX he=>?_);rw[tf]at dX;simp only[Nat.add_zero]at dX;have eG:∀ k,cS[k]?=if k=(κ b).off+i then some (a.eval y) else cs[k]?:=by
      intro k;rw[<-Array.getElem?_toList,dX];have kI:(cs.toList.take ((κ b).off+i)).length=(κ b).off+i:=by rw[List.length_take,Array.length_toList];omega
      rcases Nat.lt_trichotomy k ((κ b).off+i) with aj | aj | aj
      ·rw[if_neg (by omega),List.getElem?_append_left (by omega),List.getElem?_take_of_lt aj,Array.getElem?_toList]
      ·rw[if_pos aj,List.getElem?_append_right (by omega),kI,aj];simp
      ·rw[if_neg (by omega),List.getElem?_append_right (by omega),kI,List.getElem?_append_right (by simp;omega),List.getElem?_drop];simp only[List.length_cons,List.length_nil];rw[show (κ b).off+i+(0+1)+(k - ((κ b).off+i) - (0+1))=k from by omega,Array.getElem?_toList]
     have Fq:cS.size=cs.size:=by
      rw[<-Array.length_toList,dX];grind
     have ze:cS.getD ((κ b).off+i) Go.undef=a.eval y:=by
      rw[Array.getD_eq_getD_getElem?,eG];simp
     refine⟨h0,cS,hH,cr,by omega,c3,c4,c5,λj aD qF=>?_,by rw[ze];exact bl.later bX (λ_ aa=>aa) he hv,by rw[ze];exact hv.1.2⟩;obtain⟨a_,d1,d2⟩:=lA j aD qF;refine⟨a_,λq bf=>?_,eX e (λ_ aa=>aa) he d2⟩;have tl:q=0:=by have:=hC e d2;omega
     subst tl;rw[eG,if_neg (by rw[c5.1];omega)];exact d1 0 bf
    ·cases h
   ·cases h
  ·cases h
 rename_i cg dG adi hx;simp only[ar.eM,Option.bind_eq_some_iff,ar.bz,Option.some.injEq]at h;obtain⟨wl,lE,rfl⟩:=h;have Ka:cg=(use (aW C.aM s.ax x)).1:=by rw[hx]
 have Fs:dG=(use (aW C.aM s.ax x)).2:=by rw[hx]
 subst Ka;subst Fs;clear hx adi;intro a w κ F Q aa aZ _;have hp:bl C.P s.ae κ F w (use (aW C.aM s.ax x)).2 (a.eval x):=cv aa x rfl aZ.1;have hv:bl C.P s.ae κ F w (use (aW C.aM s.ax y)).2 (a.eval y):=cv aa y rfl aZ.2;generalize (use (aW C.aM s.ax x)).2=adj at *
 generalize (use (aW C.aM s.ax y)).2=km at *
 have aw:∀ c,o.op≠.defer c:=by grind
 have fin:∀ w',(Instr.storeAt ty (a.eval x) (a.eval y)).run C.P w=.ok () w'->b' C (s.fK wl) a w'->o.wpIn (dy C.r) 0 C.P a w (λa' w'=>b' C (s.hW o.dst ⟨(use (aW C.aM s.ax x)).1/\(use (aW C.aM s.ax y)).1,True,.undef,wl⟩) a' w') Q:=by
  intro w' h1 h2;refine Fh (w':=w') aw (by simp[execOp,ah,h1]) ?_;rw[a7];exact h2
 unfold Re at lE;cases adj with
 | loc b g off=>
  simp only[ar.eL,ar.bz]at lE;split at lE
  ·rename_i aA;split at lE
   ·rename_i n f bE;simp only[Option.bind_eq_some_iff]at lE;obtain⟨l,an,lE⟩:=lE;split at lE
    ·rename_i hc;simp only[Option.some.injEq]at lE;subst lE;have adk:=hp.2 aA.symm (by rw[bE];rfl);have iq:=J8 an hv;have aN:=aa.bq b;unfold cj at aN;rw[bE]at aN;obtain⟨cs,hH,c1,c2,c3⟩:=aN;have hlen:=iq.len;have nC:∀ u∈(a.eval y).cells.toList,u.oneCell'=true:=by
      intro u hu;obtain⟨i,G,rfl⟩:=List.mem_iff_getElem.1 hu;have:=(iq.kG i (by omega)).2;grind
     obtain⟨w',cS,b3,cr,dX,lC,lD,l7⟩:=uV (P:=C.P) (a.eval y).cells.toList off 0 w cs c1 (by omega) nC;have bV:(a.eval y).cells.size=(T ty).size:=by grind
     have uW:T ty≠.cA:=by
      intro e;rw[e]at an;cases km<;>simp[cellsOf,af.ef]at an
     refine fin w' (by rw[adk];simp[Instr.storeAt,Instr.sureAddr,J' (hT.bU rfl uW) bV b3]) ⟨κ,F,?_⟩;have fV:fe s.ae κ (λi=>if i=b then (⟨(s.ae b).gen,.cells n (putCells f off l)⟩:bw) else s.ae i) κ:=
      qG rfl (λ_=>by rw[bE];rfl) (λh=>by cases h) (λh=>by cases h) (λh=>by cases h)
     refine (aa.oV (b:=b) (x:=⟨(s.ae b).gen,.cells n (putCells f off l)⟩) (by rw[bE];rfl) rfl fV (λ_=>by rw[bE];rfl) (λh=>by cases h) lC lD l7 λH mE bX he=>?_);have Fq:cS.size=n.size:=by
      rw[<-Array.length_toList,dX];grind
     refine⟨cS,hH,cr,Fq,λi G=>?_⟩;have e0:cS.getD i Go.undef=cS.toList.getD i Go.undef:=by simp
     rw[e0,dX];have lF:l.length=(a.eval y).cells.toList.length:=hlen;simp only[Nat.add_zero];have kI:(cs.toList.take off).length=off:=by grind
     unfold putCells;by_cases hin:off<=i/\i<off+l.length
     ·rw[if_pos hin];have e1:(cs.toList.take off++((a.eval y).cells.toList++cs.toList.drop (off+(a.eval y).cells.toList.length))).getD i Go.undef=(a.eval y).cells.toList.getD (i - off) Go.undef:=by
       grind
      rw[e1];have:=iq.kG (i - off) (by omega);exact⟨bl.later bX (λ_ aa=>aa) he this.1,this.2⟩
     ·rw[if_neg hin];have e1:(cs.toList.take off++((a.eval y).cells.toList++cs.toList.drop (off+(a.eval y).cells.toList.length))).getD i Go.undef=cs.getD i Go.undef:=by
       rcases Nat.lt_or_ge i off with h1 | h1
       ·rw[List.getD_eq_getElem?_getD,List.getElem?_append_left (by omega)];simp_all
       ·rw[List.getD_eq_getElem?_getD,List.getElem?_append_right (by omega),kI,List.getElem?_append_right (by omega),List.getElem?_drop];rw[show off+(a.eval y).cells.toList.length+(i - off - (a.eval y).cells.toList.length)=i from by omega];simp
      rw[e1];exact⟨bl.later bX (λ_ aa=>aa) he (c3 i G).1,(c3 i G).2⟩
    grind
   grind
  grind
 | n5 b g i off=>
  simp only[ar.eM,Option.bind_eq_some_iff,ar.run_bind,ar.eL,ar.bz]at lE;obtain⟨⟨z,l⟩,ba,lE⟩:=lE;split at lE
  ·rename_i aA;obtain⟨aA,p0⟩:=aA;have p0:b ∉ l:=by grind
   split at lE
   ·rename_i e xs bE;simp only[Option.map_eq_some_iff]at lE;obtain⟨l8,zc,rfl⟩:=lE;obtain⟨jA,p1,l9⟩:=hp.2 aA.symm (by rw[bE];rfl);rw[bE]at jA l9;simp only[bC.len,bC.eK]at jA l9;obtain⟨F',f1,aY,f2⟩:=bc.k0 (mD ba) aa;have uX:=l5 aa.bq f1 ba f2 hv;have Kb:((s.cd l).ae b)=s.ae b:=by simp[az.cd,p0]
    have aN:=aY.bq b;unfold cj at aN;rw[Kb,bE]at aN;obtain⟨cs,hH,c1,c2,c3,c4,c5⟩:=aN.2 p1;obtain⟨a_,d1,d2⟩:=c5 i jA;have J2:xs.getD i e.cP=xs[i]:=by grind
    rw[J2]at zc;have uY:=hC e d2;obtain⟨cR,q2,q3,bf,awV,awW,adl⟩:=acA e d2 zc uX.2;have uW:T ty≠.cA:=by
     intro aV;have:=uX.1;rw[aV]at this;exact this
    have wX:(a.eval y).cells.toList.length=(T ty).size:=uX.1.len;have B8:(i+1)*e.size<=(κ b).cap*e.size:=Nat.mul_le_mul_right _ (by omega);have hbound:off+(T ty).size<=e.size:=by
     grind
    have nC:∀ u∈(a.eval y).cells.toList,u.oneCell'=true:=by
     intro u hu;have iq:=yZ (P:=C.P) (H:=λ_=>⟨0,.fm⟩) (κ:=λ_=>⟨0,0,0,true⟩) (T ty) uX.2;obtain⟨j,aD,rfl⟩:=List.mem_iff_getElem.1 hu;have:=(iq.kG j (by rw[iq.len];exact aD)).2;grind
    have k1:(κ b).off+i*e.size+off+0+(a.eval y).cells.toList.length<=cs.size:=by
     grind
    obtain⟨w',cS,b3,cr,dX,lC,lD,l7⟩:=uV (P:=C.P) (a.eval y).cells.toList ((κ b).off+i*e.size+off) 0 w cs c1 k1 nC;refine fin w' (by rw[l9];simp[Instr.storeAt,Instr.sureAddr,J' (hT.bU rfl uW) (by omega) b3]) ⟨κ,F',?_⟩;have o2:s.fK ((jy l).run s.ae++[(b,⟨(s.ae b).gen,.a8 e (xs.set i l8)⟩)])=(s.cd l).cb b ⟨(s.ae b).gen,.a8 e (xs.set i l8)⟩:=by
     rw[B4,ti]
    rw[o2];have fV:fe (s.cd l).ae κ (λkZ=>if kZ=b then (⟨(s.ae b).gen,.a8 e (xs.set i l8)⟩:bw) else (s.cd l).ae kZ) κ:=
     qG (by grind) (λh=>by cases h) (λ_=>by rw[Kb,bE];exact⟨rfl,by simp[bC.len],rfl⟩) (λh=>by cases h) (λh=>by cases h)
    have RG:(κ b).eQ=false:=p1;refine aY.oV (b:=b) (x:=⟨(s.ae b).gen,.a8 e (xs.set i l8)⟩) (by rw[Kb,bE];simp[bC.bN,RG]) (by simp[bC.bN,RG]) fV (λh=>by cases h) (λh=>by cases h) lC lD l7 λH mE bX he=>?_;refine⟨λaB=>(by grind),λ_=>?_⟩;have Fq:cS.size=cs.size:=by
     rw[<-Array.length_toList,dX];grind
    refine⟨cS,hH,cr,by omega,by grind,c4,λj aD=>?_⟩;have fB:j<xs.length:=by grind
    simp only[Nat.add_zero]at dX k1;have eG:∀ k,cS[k]?=if (κ b).off+i*e.size+off<=k/\k<(κ b).off+i*e.size+off+(T ty).size then (a.eval y).cells.toList[k - ((κ b).off+i*e.size+off)]? else cs[k]?:=by
     intro k;rw[<-Array.getElem?_toList,dX];have kI:(cs.toList.take ((κ b).off+i*e.size+off)).length=(κ b).off+i*e.size+off:=by grind
     by_cases hin:(κ b).off+i*e.size+off<=k/\k<(κ b).off+i*e.size+off+(T ty).size
     ·rw[if_pos hin,List.getElem?_append_right (by omega),kI,List.getElem?_append_left (by omega)]
     ·rw[if_neg hin];rcases Nat.lt_or_ge k ((κ b).off+i*e.size+off) with h1 | h1
      ·grind
      ·rw[List.getElem?_append_right (by omega),kI,List.getElem?_append_right (by omega),List.getElem?_drop];rw[show (κ b).off+i*e.size+off+(a.eval y).cells.toList.length+(k - ((κ b).off+i*e.size+off) - (a.eval y).cells.toList.length)=k from by omega];simp
    by_cases qF:j=i
    ·subst qF;have e1:(xs.set j l8)[j]=l8:=by simp
     rw[e1];refine⟨cR++((a.eval y).cells.toList++q3),λk aj=>?_,eX e (λ_ aa=>aa) he adl⟩;rw[eG];subst bf;simp only[List.length_append]at aj uY;by_cases hin:off<=k/\k<off+(T ty).size
     ·rw[if_pos (by omega)];rw[show (κ b).off+j*e.size+k - ((κ b).off+j*e.size+off)=k - cR.length from by omega];grind
     grind
    ·have e1:(xs.set i l8)[j]=xs[j]:=by grind
     rw[e1];obtain⟨RH,adm,Kc⟩:=c5 j fB;refine⟨RH,λk aj=>?_,eX e (λ_ aa=>aa) he Kc⟩;rw[eG,if_neg]
     ·grind
     ·have awX:=hC e Kc;rcases Nat.lt_or_ge j i with h1 | h1
      ·have:(j+1)*e.size<=i*e.size:=Nat.mul_le_mul_right _ (by omega);grind
      ·have:(i+1)*e.size<=j*e.size:=Nat.mul_le_mul_right _ (by omega);grind
   grind
  grind
 | _=>cases lE
end
end Go.Fer
