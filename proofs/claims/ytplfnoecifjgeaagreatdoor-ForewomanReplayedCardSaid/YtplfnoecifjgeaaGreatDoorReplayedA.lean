/- Part 1 of the proof of Replayed: shallow programs of Go functions, and what they compute. No condition. -/
import Derived.Below
import Derived.OrdersIn
import Derived.RangeFuncCalls
import Derived.RangeFuncSeq
import Derived.Laws.StructEq
import Derived.Laws.Tables
import Derived.ChangeMaps3
noncomputable section
abbrev z1':=List Int
abbrev z2':=List (Int×Int×Int×Int)
abbrev z3':=List (Int×Int×Int)
abbrev z4':=List (Int×Int)
abbrev z5':=List ((Int×Int×Int)×Int)
abbrev z6':=List (Nat×(Nat×Nat))
abbrev z7':=List (Int×Int×Int×Int×Int×Int)
abbrev z8':=List (Nat×Nat)
abbrev z9':=List (Option Nat)
set_option linter.unusedVariables false
set_option linter.unusedSimpArgs false
namespace Go.Fer
@[ext] structure M (aj:Type):Type where
 b8:Prop
 bC:aj->Prop
namespace M
variable {aj β fY A aF:Type}
def pure(x:aj):M aj:=⟨True,λy=>y=x⟩
def bind(m:M aj)(f:aj->M β):M β:=⟨m.b8/\∀ x,m.bC x->(f x).b8,λy=>∃ x,m.bC x/\(f x).bC y⟩
def af(p:Prop)(m:M aj):M aj:=⟨p/\m.b8,m.bC⟩
def du(p:Prop)(x:aj):M aj:=⟨p,λy=>y=x⟩
def any(p:aj->Prop):M aj:=⟨∃ x,p x,p⟩
theorem ext'{m n:M aj}(h1:m.b8<->n.b8)(h2:∀ x,m.bC x<->n.bC x):m=n:=by
 cases m;cases n;simp only[M.mk.injEq];grind
@[simp] theorem iT (x:aj):(pure x).b8=True:=rfl
@[simp] theorem awr (x y:aj):(pure x).bC y=(y=x):=rfl
@[simp] theorem aE (x:aj) (f:aj->M β):bind (pure x) f=f x:=ext' (by simp[bind,pure]) (by simp[bind,pure])
@[simp] theorem aws (m:M aj):bind m pure=m:=ext' (by simp[bind,pure]) (by simp[bind,pure])
theorem bp{p:Prop}(h:p)(m:M aj):af p m=m:=ext' (by simp[af,h]) (by simp[af])
@[simp] theorem bg (m:M aj):af True m=m:=bp trivial m
theorem EJ(p:Prop)(m:M aj)(f:aj->M β):bind (af p m) f=af p (bind m f):=ext' (by simp[bind,af,and_assoc]) (by simp[bind,af])
@[simp] theorem nj (x:aj):du True x=pure x:=rfl
theorem bF{p:Prop}(h:p)(x:aj):du p x=pure x:=ext' (by simp_all) (by simp_all)
theorem dm(p:Prop)(x:aj)(f:aj->M β):bind (du p x) f=af p (f x):=by
 apply ext'
 ·simp[bind,du,af]
 ·simp[bind,du,af]
theorem QB{c:Prop}[Decidable c](m n:M aj)(f:aj->M β):bind (if c then m else n) f=if c then bind m f else bind n f:=by grind
def le(n m:M aj):Prop:=m.b8->n.b8/\∀ y,n.bC y->m.bC y
theorem le_refl(m:M aj):le m m:=λh=>⟨h,λ_ h=>h⟩
theorem le_trans{a b c:M aj}(h:le a b)(k:le b c):le a c:=λhs=>⟨(h (k hs).1).1,λy aM=>(k hs).2 y ((h (k hs).1).2 y aM)⟩
theorem le_of_eq{a b:M aj}(h:a=b):le a b:=h ▸ le_refl a
def b_(m:M aj)(p:aj->Prop):Prop:=m.b8/\∀ y,m.bC y->p y
theorem b_.mono{m:M aj}{p q:aj->Prop}(h:b_ m p)(k:∀ y,p y->q y):b_ m q:=⟨h.1,λy aM=>k y (h.2 y aM)⟩
theorem dE{x:aj}{p:aj->Prop}:b_ (pure x) p<->p x:=⟨λh=>h.2 x rfl,λh=>⟨trivial,λ_ e=>e ▸ h⟩⟩
theorem fG{m:M aj}{f:aj->M β}{p:β->Prop}:b_ (bind m f) p<->b_ m λx=>b_ (f x) p:=
 ⟨λh=>⟨h.1.1,λx hx=>⟨h.1.2 x hx,λy aM=>h.2 y ⟨x,hx,aM⟩⟩⟩,λh=>⟨⟨h.1,λx hx=>(h.2 x hx).1⟩,λy ⟨x,hx,aM⟩=>(h.2 x hx).2 y aM⟩⟩
theorem kr{q:Prop}{m:M aj}{p:aj->Prop}:b_ (af q m) p<->q/\b_ m p:=by
 simp[b_,af,and_assoc]
inductive aa(A aF:Type) where
 | next (s:A)
 | done (r:aF)
inductive Bi(body:A->M (aa A aF)):A->Prop where
 | mk (s:A) (h:(body s).b8) (k:∀ s',(body s).bC (.next s')->Bi body s'):Bi body s
inductive yy(body:A->M (aa A aF)):A->aF->Prop where
 | done (s:A) (r:aF) (h:(body s).bC (.done r)):yy body s r
 | next (s s':A) (r:aF) (h:(body s).bC (.next s')) (k:yy body s' r):yy body s r
def loop(body:A->M (aa A aF))(s:A):M aF:=⟨Bi body s,yy body s⟩
theorem Bj(body:A->M (aa A aF))(s:A) :
  loop body s=bind (body s) fun | .next s'=>loop body s' | .done r=>pure r:=by
 apply ext'
 ·constructor
  ·rintro⟨_,h,k⟩;refine⟨h,λx hx=>?_⟩;cases x with
   | next s'=>exact k s' hx
   | done r=>trivial
  ·rintro⟨h,k⟩;exact⟨s,h,λs' hs=>k _ hs⟩
 ·intro r;constructor
  ·rintro (⟨_,_,h⟩ | ⟨_,s',_,h,k⟩)
   ·exact⟨.done r,h,rfl⟩
   ·exact⟨.next s',h,k⟩
  ·rintro⟨x,hx,V⟩;cases x with
   | next s'=>exact .next s s' r hx V
   | done pM=>cases V;exact .done s _ hx
theorem Bk{body:A->M (aa A aF)}{s s':A}(h:body s=pure (.next s')):loop body s=loop body s':=by
 rw[Bj,h,aE]
theorem sT{body:A->M (aa A aF)}{s:A}{r:aF}(h:body s=pure (.done r)):loop body s=pure r:=by
 rw[Bj,h,aE]
theorem Bl{body:A->M (aa A aF)}{p:aF->Prop}(I:A->Prop)(Jr:A->Nat)
  (round:∀ s,I s->b_ (body s) fun | .next s'=>I s'/\Jr s'<Jr s | .done r=>p r) (s:A) (h:I s):b_ (loop body s) p:=by
 have key:∀ n s,Jr s=n->I s->b_ (loop body s) p:=by
  intro n;induction n using Nat.strongRecOn with
  | _ n aG=>
   intro s aA hs;rw[Bj,fG];refine (round s hs).mono λy aM=>?_;cases y with
   | next s'=>grind
   | done r=>exact dE.2 aM
 grind
end M
end Go.Fer
namespace Go.Fer
def QC(b:Nat)(c:Nat->Option Value):Prop:=
 match b with
 | 0=>∃ m,c 0=some (.int .i64 m)
 | 1 | 2=>∃ v,c 0=some v/\(v=.nilIface\/∃ te pe,v=.iface te pe)
 | 5=>∀ i,c i=if i<20 then some (.int .u64 (10 ^ i)) else none
 | _=>True
end Go.Fer
namespace Go.Fer
open Go.RowKit
inductive ae where
 | bool | int (k:IntKind) | str | cy
 | st (t:ae) | ax (a b:ae)
 | slice (e:ae) | array (n:Nat) (e:ae) | bq (e:ae) | map (k v:ae) | fn (a b:ae) | b5 (a:ae) | dO
 deriving DecidableEq
@[reducible] def ae.ah:ae->Type
 | .bool=>Bool
 | .int _=>Int
 | .str=>List UInt8
 | .cy=>Unit
 | .st t=>t.ah
 | .ax a b=>a.ah×b.ah
 | .slice e=>List e.ah
 | .array _ e=>List e.ah
 | .bq e=>Option e.ah
 | .map k v=>List (k.ah×v.ah)
 | .fn a b=>a.ah->M b.ah
 | .b5 a=>List a.ah->Prop
 | .dO=>Option Nat
def ae.cN:(t:ae)->t.ah
 | .bool=>false
 | .int _=>(0:Int)
 | .str=>[]
 | .cy=>()
 | .st t=>t.cN
 | .ax a b=>(a.cN,b.cN)
 | .slice _=>[]
 | .array n e=>List.replicate n e.cN
 | .bq _=>none
 | .map _ _=>[]
 | .fn _ _=>λ_=>⟨False,λ_=>False⟩
 | .b5 _=>λ_=>False
 | .dO=>none
def ae.size:ae->Nat
 | .cy=>0
 | .st t=>t.size
 | .ax a b=>a.size+b.size
 | .array n e=>n*e.size
 | _=>1
def ae.ea:ae->Bool
 | .cy | .st _ | .ax _ _ | .array _ _=>false
 | _=>true
def fy(k:IntKind)(n:Int):Prop:=k.min<=n/\n<=k.max
instance (k:IntKind) (n:Int):Decidable (fy k n):=inferInstanceAs (Decidable (_/\_))
def Holds(F:Nat->Prop)(w:World)(p:Addr)(cs:List Value):Prop:=
 F p.block/\p.spot=none/\∀ j (h:j<cs.length),w.cell? ⟨p.block,p.off+j,none⟩=some cs[j]
def cG(F:Nat->Prop)(w w':World):Prop:=w.heap.size<=w'.heap.size/\∀ r,F r->w'.heap[r]?=w.heap[r]?
theorem cG.refl(F:Nat->Prop)(w:World):cG F w w:=⟨Nat.le_refl _,λ_ _=>rfl⟩
theorem cG.trans{F F':Nat->Prop}{a b c:World}(h:cG F a b)(bb:∀ r,F r->F' r)(k:cG F' b c):cG F a c:=
 ⟨Nat.le_trans h.1 k.1,λr V=>(k.2 r (bb r V)).trans (h.2 r V)⟩
theorem cG.cell{F:Nat->Prop}{w w':World}(h:cG F w w'){a:Addr}(aU:F a.block):w'.cell? a=w.cell? a:=by
 simp only[World.cell?,h.2 _ aU]
def nk(P:Program)(F:Nat->Prop)(w:World):Prop:=∀ b,b<P.globals.size->F b/\QC b λi=>w.cell? ⟨b,i,none⟩
theorem nk.mono{P:Program}{F F':Nat->Prop}{w w':World}(h:nk P F w)(bb:∀ r,F r->F' r)(he:cG F w w'):nk P F' w':=λb ab=>by
 obtain⟨h1,h2⟩:=h b ab;have e:(λi=>w'.cell? ⟨b,i,none⟩)=λi=>w.cell? ⟨b,i,none⟩:=funext λi=>he.cell (a:=⟨b,i,none⟩) h1;exact⟨bb b h1,e ▸ h2⟩
theorem Holds.mono{F F':Nat->Prop}{w w':World}{p:Addr}{cs:List Value}(h:Holds F w p cs)(bb:∀ r,F r->F' r)(he:cG F w w'):Holds F' w' p cs:=
 ⟨bb _ h.1,h.2.1,λj aC=>(he.cell (a:=⟨p.block,p.off+j,none⟩) h.1).trans (h.2.2 j aC)⟩
def ks:ae->Value->Prop
 | .st t,v=>∃ cs:Array Value,v=.agg cs/\cs.size=t.size
 | .array n e,v=>∃ cs:Array Value,v=.agg cs/\cs.size=n*e.size
 | .cy,_=>False
 | .ax _ _,_=>False
 | _,v=>v.cells=#[v]
def dI(aB:List Value):List Value:=aB.flatMap (·.cells.toList)
@[simp] theorem abT:dI []=[]:=rfl
@[simp] theorem Js (v:Value) (aB:List Value):dI (v::aB)=v.cells.toList++dI aB:=rfl
def wk:ae->List Value->Prop
 | .ax a b,v::aB=>ks a v/\wk b aB
 | .ax _ _,[]=>False
 | .cy,aB=>aB=[]
 | t,aB=>∃ v,aB=[v]/\ks t v
def yA:ae->Value->List Value->Prop
 | .ax _ _,v,aB=>v=.tuple aB.toArray
 | .cy,v,aB=>v=.tuple #[]/\aB=[]
 | _,v,aB=>aB=[v]
def uB(F:Nat->Prop)(w w':World):Nat->Prop:=λr=>F r\/(w.heap.size<=r/\r<w'.heap.size)
structure EK(P:Program){aj:Type}(R:(Nat->Prop)->World->List Value->aj->Prop)(l:Nat)(S:List aj->Prop)(I:List aj->Bool->(Nat->Prop)->(Nat->Prop)->World->Prop):Prop where
 Bm:∀ {pre st} {F F' Y:Nat->Prop} {w w':World},I pre st F Y w->(∀ r,F r->F' r)->(∀ r,F r\/Y r->w'.heap[r]?=w.heap[r]?)->w.heap.size<=w'.heap.size->w'.os=w.os/\w'.tape=w.tape/\w'.output=w.output->(∀ r,F' r->r<w'.heap.size)->(∀ r,F' r->¬Y r)->I pre st F' Y w'
 yield:∀ {pre} {F Y:Nat->Prop} {w:World} {args:List Value} {x:aj},I pre false F Y w->(∀ r,F r->r<w.heap.size)->(∀ r,Y r->r<w.heap.size/\¬F r)->(∃ T,S (pre++x::T))->R F w args x->
  YieldAt Fence.wide 0 P l args.toArray w λe w'=>∃ (b:Bool) (F' fZ:Nat->Prop),e=.returned (.bool b)/\(∀ r,F r->F' r)/\(∀ r,F' r->F r\/Y r\/w.heap.size<=r)/\(∀ r,F' r->r<w'.heap.size)/\
   (∀ r,r<w.heap.size->¬Y r->w'.heap[r]?=w.heap[r]?)/\(∀ r,fZ r->(Y r\/w.heap.size<=r)/\r<w'.heap.size/\¬F' r)/\w.heap.size<=w'.heap.size/\(w'.os=w.os/\w'.tape=w.tape/\w'.output=w.output)/\I (pre++[x]) (!b) F' fZ w'
def QD{aj:Type}(S:List aj->Prop)(I:List aj->Bool->(Nat->Prop)->(Nat->Prop)->World->Prop)(F Y:Nat->Prop)(w:World)(e:Ending)(w':World):Prop:=
 ∃ v pre st F' fZ,e=.returned v/\(st=false->S pre)/\I pre st F' fZ w'/\(∀ r,F r->F' r)/\(∀ r,F' r->F r\/Y r\/w.heap.size<=r)/\(∀ r,F' r->r<w'.heap.size)/\
  (∀ r,r<w.heap.size->¬Y r->w'.heap[r]?=w.heap[r]?)/\(∀ r,fZ r->(Y r\/w.heap.size<=r)/\r<w'.heap.size/\¬F' r)/\w.heap.size<=w'.heap.size/\(w'.os=w.os/\w'.tape=w.tape/\w'.output=w.output)
def abU:Option Nat->Value
 | none=>.nilFunc
 | some k=>.func (.func k) #[] #[]
def bt(P:Program):(t:ae)->(Nat->Prop)->World->List Value->t.ah->Prop
 | .bool,_,_,cs,x=>cs=[.bool x]
 | .int k,_,_,cs,x=>cs=[.int k x]/\fy k x
 | .str,_,_,cs,x=>cs=[.string ⟨x.toArray⟩]/\x.length<2 ^ 63
 | .cy,_,_,cs,_=>cs=[]
 | .st t,F,w,cs,x=>bt P t F w cs x
 | .ax a b,F,w,cs,x=>∃ c d,cs=c++d/\bt P a F w c x.1/\bt P b F w d x.2
 | .slice e,F,w,cs,xs=>∃ a cap,cs=[.slice a xs.length cap]/\xs.length<=cap/\cap<2 ^ 63/\(a=none->cap=0)/\
   ∀ p,a=some p->0<cap->F p.block/\p.spot=none/\∀ i (h:i<xs.length),∃ a8,Holds F w ⟨p.block,p.off+i*e.size,none⟩ a8/\bt P e F w a8 xs[i]
 | .array n e,F,w,cs,xs=>∃ eX:List (List Value),cs=eX.flatten/\eX.length=n/\xs.length=n/\∀ i (h:i<xs.length) (cZ:i<eX.length),bt P e F w eX[i] xs[i]
 | .bq e,F,w,cs,x=>(cs=[.pointer none]/\x=none)\/∃ p y a8,cs=[.pointer (some p)]/\x=some y/\Holds F w p a8/\bt P e F w a8 y
 | .map k v,F,w,cs,xs=>(cs=[.map none]/\xs=[])\/∃ r es clk,cs=[.map (some r)]/\F r/\w.heap[r]?=some (.map es clk)/\es.size=xs.length/\(xs.map (·.1)).Nodup/\
   (∀ i (h:i<xs.length) (cZ:i<es.size),ks k es[i].key/\bt P k F w es[i].key.cells.toList xs[i].1/\ks v es[i].val/\bt P v F w es[i].val.cells.toList xs[i].2/\es[i].born<clk)/\
   (∀ i j (h:i<es.size) (cZ:j<es.size),es[i].born=es[j].born->i=j)
 | .fn a b,F,w,cs,f=>∃ u,cs=[u]/\(u.cells=#[u]/\u.oneCell'=true)/\∀ (F':Nat->Prop) (w':World),(∀ r,F r->F' r)->cG F w w'->(∀ r,F' r->r<w'.heap.size)->nk P F' w'->
   ∀ args x,wk a args->bt P a F' w' (dI args) x->(f x).b8->∃ g cF,u=.func (.func g) #[] cF/\(∀ as w,(callFunc g as).run P w=.ok (.enter g as) w)/\
    Calls P g (args.toArray++cF) w' λe sU=>∃ v y aB,e=.returned v/\(f x).bC y/\yA b v aB/\wk b aB/\bt P b (uB F' w' sU) sU (dI aB) y/\Below w'.heap.size w' sU
 | .b5 a,F,w,cs,S=>∃ u,cs=[u]/\(u.cells=#[u]/\u.oneCell'=true)/\∀ (F':Nat->Prop) (w':World),(∀ r,F r->F' r)->cG F w w'->(∀ r,F' r->r<w'.heap.size)->nk P F' w'->
   (∃ L,S L)->∃ g cF,u=.func (.func g) #[] cF/\(∀ as w,(callFunc g as).run P w=.ok (.enter g as) w)/\
    ∀ (l:Nat) (I:List a.ah->Bool->(Nat->Prop)->(Nat->Prop)->World->Prop) (Y:Nat->Prop),(∀ r,Y r->r<w'.heap.size/\¬F' r)->
     EK P (λF w args x=>wk a args/\bt P a F w (dI args) x) l S I->I [] false F' Y w'->Calls P g (#[Value.func (.yield l) #[] #[]]++cF) w' (QD S I F' Y w')
 | .dO,_,_,cs,x=>cs=[abU x]
theorem ht{P:Program}:∀ (t:ae) {F:Nat->Prop} {w:World} {cs:List Value} {x:t.ah},bt P t F w cs x->cs.length=t.size:=by
 intro t;induction t with
 | bool=>intro F w cs x h;simp only[bt]at h;simp[h,ae.size]
 | int k=>intro F w cs x h;simp only[bt]at h;simp[h.1,ae.size]
 | str=>intro F w cs x h;simp only[bt]at h;simp[h.1,ae.size]
 | cy=>intro F w cs x h;simp only[bt]at h;simp[h,ae.size]
 | st t aG=>intro F w cs x h;simp only[bt]at h;exact aG h
 | ax a b fa ei=>
  intro F w cs x h;simp only[bt]at h;obtain⟨c,d,rfl,aU,ab⟩:=h;simp[ae.size,fa aU,ei ab]
 | slice e aG=>intro F w cs x h;simp only[bt]at h;obtain⟨a,cap,rfl,_⟩:=h;rfl
 | array n e aG=>
  intro F w cs x h;simp only[bt]at h;obtain⟨eX,rfl,h1,h2,h3⟩:=h;have:∀ l∈eX,l.length=e.size:=by
   intro l ai;obtain⟨i,G,rfl⟩:=List.mem_iff_getElem.1 ai;grind
  have aR:eX.map List.length=List.replicate n e.size:=by
   rw[<-h1];exact List.eq_replicate_iff.2 ⟨by simp,by grind⟩
  simp[List.length_flatten,aR,ae.size]
 | bq e aG=>intro F w cs x h;simp only[bt]at h;rcases h with⟨rfl,_⟩ | ⟨p,y,a8,rfl,_⟩<;>rfl
 | map k v wm wo=>intro F w cs x h;simp only[bt]at h;rcases h with⟨rfl,_⟩ | ⟨r,es,clk,rfl,_⟩<;>rfl
 | fn a b fa ei=>intro F w cs x h;simp only[bt]at h;obtain⟨u,rfl,_⟩:=h;rfl
 | b5 a aG=>intro F w cs x h;simp only[bt]at h;obtain⟨u,rfl,_⟩:=h;rfl
 | dO=>intro F w cs x h;simp only[bt]at h;subst h;rfl
theorem eP{P:Program}:∀ (t:ae) {F F':Nat->Prop} {w w':World} {cs:List Value} {x:t.ah},(∀ r,F r->F' r)->cG F w w'->bt P t F w cs x->bt P t F' w' cs x:=by
 intro t;induction t with
 | bool=>intro F F' w w' cs x _ _ h;exact h
 | int k=>intro F F' w w' cs x _ _ h;exact h
 | str=>intro F F' w w' cs x _ _ h;exact h
 | cy=>intro F F' w w' cs x _ _ h;exact h
 | st t aG=>intro F F' w w' cs x bb he h;simp only[bt]at h ⊢;grind
 | ax a b fa ei=>
  intro F F' w w' cs x bb he h;simp only[bt]at h ⊢;grind
 | slice e aG=>
  intro F F' w w' cs x bb he h;simp only[bt]at h ⊢;obtain⟨a,cap,rfl,h1,h2,h3,aR⟩:=h;refine⟨a,cap,rfl,h1,h2,h3,λp hp hc=>?_⟩;obtain⟨aO,aP,bA⟩:=aR p hp hc;refine⟨bb _ aO,aP,λi G=>?_⟩;obtain⟨a8,m1,m2⟩:=bA i G;exact⟨a8,m1.mono bb he,aG bb he m2⟩
 | array n e aG=>
  intro F F' w w' cs x bb he h;simp only[bt]at h ⊢;grind
 | bq e aG=>
  intro F F' w w' cs x bb he h;simp only[bt]at h ⊢;rcases h with h | ⟨p,y,a8,h1,h2,h3,aR⟩
  ·grind
  ·exact .inr ⟨p,y,a8,h1,h2,h3.mono bb he,aG bb he aR⟩
 | map k v wm wo=>
  intro F F' w w' cs x bb he h;simp only[bt]at h ⊢;rcases h with h | ⟨r,es,clk,h1,h2,h3,aR,bw,cY,fK⟩
  ·grind
  ·refine .inr ⟨r,es,clk,h1,bb _ h2,(he.2 _ h2).trans h3,aR,bw,λi G dp=>?_,fK⟩;grind
 | fn a b fa ei=>
  intro F F' w w' cs x bb he h;simp only[bt]at h ⊢;obtain⟨u,rfl,hu,h1⟩:=h;exact⟨u,rfl,hu,λJt sU sV Bn hs=>h1 Jt sU (λr V=>sV r (bb r V)) (he.trans bb Bn) hs⟩
 | b5 a aG=>
  intro F F' w w' cs x bb he h;simp only[bt]at h ⊢;obtain⟨u,rfl,hu,h1⟩:=h;exact⟨u,rfl,hu,λJt sU sV Bn hs=>h1 Jt sU (λr V=>sV r (bb r V)) (he.trans bb Bn) hs⟩
 | dO=>intro F F' w w' cs x _ _ h;exact h
def dP(P:Program)(t:ae)(F:Nat->Prop)(w:World)(v:Value)(x:t.ah):Prop:=ks t v/\bt P t F w v.cells.toList x
def eY(P:Program)(t:ae)(F:Nat->Prop)(w:World)(aB:List Value)(x:t.ah):Prop:=wk t aB/\bt P t F w (dI aB) x
def sW(P:Program)(t:ae)(F:Nat->Prop)(w:World)(v:Value)(x:t.ah):Prop:=∃ aB,yA t v aB/\eY P t F w aB x
theorem dP.mono{P:Program}{t:ae}{F F':Nat->Prop}{w w':World}{v:Value}{x:t.ah}(h:dP P t F w v x)(bb:∀ r,F r->F' r)(he:cG F w w'):dP P t F' w' v x:=
 ⟨h.1,eP t bb he h.2⟩
theorem EL{v:Value}(h:v.oneCell'=true):v.cells=#[v]:=by
 cases v<;>first | rfl | cases h
theorem QE{v:Value}(h:v.cells=#[v]):v.cells.toList=[v]:=by rw[h]
theorem ks.len{t:ae}{v:Value}(h:ks t v):v.cells.toList.length=t.size:=by
 cases t<;>simp only[ks]at h<;>first
  | (obtain⟨cs,rfl,h⟩:=h;simpa [Value.cells,ae.size]using h)
  | (rw[QE h];rfl)
  | exact h.elim
theorem Bo{P:Program}{a b:ae}{F:Nat->Prop}{w:World}{v:Value}{aB:List Value}{x:a.ah}{y:b.ah} :
  eY P (.ax a b) F w (v::aB) (x,y)<->dP P a F w v x/\eY P b F w aB y:=by
 constructor
 ·rintro⟨⟨h1,h2⟩,c,d,e,hc,au⟩;have ai:=ht a hc;have:=List.append_inj e (by rw[ai];exact h1.len);rw[Js]at e;obtain⟨e1,e2⟩:=this;subst e1;subst e2;exact⟨⟨h1,hc⟩,h2,au⟩
 ·rintro⟨⟨h1,h2⟩,h3,aR⟩;exact⟨⟨h1,h3⟩,_,_,rfl,h2,aR⟩
theorem EM{P:Program}{a b:ae}{F:Nat->Prop}{w:World}{aB:List Value}{x:(ae.ax a b).ah}(h:eY P (.ax a b) F w aB x) :
  ∃ v us,aB=v::us/\dP P a F w v x.1/\eY P b F w us x.2:=by
 cases aB with
 | nil=>exact h.1.elim
 | cons v us=>exact⟨v,us,rfl,Bo.1 h⟩
def ae.f_:ae->Bool
 | .ax _ _ | .cy=>false
 | _=>true
theorem rz{P:Program}{t:ae}(aH:t.f_=true){F:Nat->Prop}{w:World}{aB:List Value}{x:t.ah} :
  eY P t F w aB x<->∃ v,aB=[v]/\dP P t F w v x:=by
 have key:wk t aB<->∃ v,aB=[v]/\ks t v:=by cases t<;>simp[ae.f_,wk]at aH ⊢
 unfold eY dP;rw[key];constructor
 ·rintro⟨⟨v,rfl,hv⟩,h⟩;exact⟨v,rfl,hv,by simpa using h⟩
 ·rintro⟨v,rfl,hv,h⟩;exact⟨⟨v,rfl,hv⟩,by simpa using h⟩
section
variable {P:Program} {F:Nat->Prop} {w:World} {v:Value}
@[simp] theorem eQ {x:Bool}:dP P .bool F w v x<->v=.bool x:=by
 constructor
 ·rintro⟨h1,h2⟩;simp only[ks]at h1;simp only[bt]at h2;rw[QE h1]at h2;simpa using h2
 ·rintro rfl;exact⟨by simp[ks,Value.cells],by simp[bt,Value.cells]⟩
theorem gy{k:IntKind}{x:Int}:dP P (.int k) F w v x<->v=.int k x/\fy k x:=by
 constructor
 ·rintro⟨h1,h2⟩;simp only[ks]at h1;simp only[bt]at h2;grind
 ·rintro⟨rfl,h⟩;exact⟨by rfl,by simpa [bt,Value.cells]using h⟩
theorem lS{x:List UInt8}:dP P .str F w v x<->v=.string ⟨x.toArray⟩/\x.length<2 ^ 63:=by
 constructor
 ·rintro⟨h1,h2⟩;simp only[ks]at h1;simp only[bt]at h2;grind
 ·rintro⟨rfl,h⟩;exact⟨by rfl,by simpa [bt,Value.cells]using h⟩
theorem dx{t:ae}(aH:t.ea=true){x:t.ah}:dP P t F w v x<->v.cells=#[v]/\bt P t F w [v] x:=by
 have h1:ks t v<->v.cells=#[v]:=by cases t<;>simp[ae.ea,ks]at aH ⊢
 unfold dP;grind
theorem Ju{t:ae}(aH:t.ea=true){F:Nat->Prop}{w:World}{u:Value}{x:t.ah}(h:bt P t F w [u] x):u.oneCell'=true:=by
 cases t<;>simp only[ae.ea,bt]at aH h<;>try contradiction
 ·obtain rfl:=(List.cons.inj h).1;rfl
 ·obtain rfl:=(List.cons.inj h.1).1;rfl
 ·obtain rfl:=(List.cons.inj h.1).1;rfl
 ·obtain⟨a,cap,h,_⟩:=h;obtain rfl:=(List.cons.inj h).1;rfl
 ·rcases h with⟨h,_⟩ | ⟨p,y,a8,h,_⟩<;>(obtain rfl:=(List.cons.inj h).1;rfl)
 ·rcases h with⟨h,_⟩ | ⟨r,es,clk,h,_⟩<;>(obtain rfl:=(List.cons.inj h).1;rfl)
 ·obtain⟨mm,h,hu,_⟩:=h;obtain rfl:=(List.cons.inj h).1;exact hu.2
 ·obtain⟨mm,h,hu,_⟩:=h;obtain rfl:=(List.cons.inj h).1;exact hu.2
 ·obtain rfl:=(List.cons.inj h).1;cases x<;>rfl
theorem Bp{t:ae}(aH:t.ea=true){F:Nat->Prop}{w:World}{cs:List Value}{x:t.ah}(h:bt P t F w cs x):∃ u,cs=[u]/\u.cells=#[u]:=by
 cases t<;>simp only[ae.ea,bt]at aH h<;>try contradiction
 ·exact⟨_,h,rfl⟩
 ·exact⟨_,h.1,rfl⟩
 ·exact⟨_,h.1,rfl⟩
 ·obtain⟨a,cap,rfl,_⟩:=h;exact⟨_,rfl,rfl⟩
 ·rcases h with⟨rfl,_⟩ | ⟨p,y,a8,rfl,_⟩<;>exact⟨_,rfl,rfl⟩
 ·rcases h with⟨rfl,_⟩ | ⟨r,es,clk,rfl,_⟩<;>exact⟨_,rfl,rfl⟩
 ·obtain⟨u,rfl,hu,_⟩:=h;exact⟨u,rfl,hu.1⟩
 ·obtain⟨u,rfl,hu,_⟩:=h;exact⟨u,rfl,hu.1⟩
 ·exact⟨_,h,by cases x<;>rfl⟩
end
structure hL(P:Program)(k:FuncId)(ts tr:ae)(sh:ts.ah->M tr.ah):Prop where
 enter:∀ args w,(callFunc k args).run P w=.ok (.enter k args) w
 iD:∀ (F:Nat->Prop) (w:World) (args:List Value) (x:ts.ah),(∀ r,F r->r<w.heap.size)->nk P F w->eY P ts F w args x->(sh x).b8->
  Calls P k args.toArray w λe w'=>∃ v y,e=.returned v/\(sh x).bC y/\sW P tr (uB F w w') w' v y/\Below w.heap.size w w'
structure QF(P:Program)(k:FuncId)(ts tr:ae)(sh:ts.ah->M tr.ah):Prop where
 iD:∀ (F:Nat->Prop) (w:World) (args:List Value) (x:ts.ah),(∀ r,F r->r<w.heap.size)->nk P F w->eY P ts F w args x->(sh x).b8->
  Calls P k args.toArray w λe w'=>∃ v y,e=.returned v/\(sh x).bC y/\sW P tr (λr=>w.heap.size<=r/\r<w'.heap.size) w' v y/\Below w.heap.size w w'
def fM:List ae->ae
 | []=>.cy
 | [t]=>t
 | t::u::l=>.ax t (fM (u::l))
def EN:(as bs:List ae)->(fM as).ah->(fM bs).ah->(fM (as++bs)).ah
 | [],_,_,y=>y
 | [_],[],x,_=>x
 | [_],_::_,x,y=>(x,y)
 | _::u::l,bs,x,y=>(x.1,EN (u::l) bs x.2 y)
theorem QG{P:Program}{F:Nat->Prop}{w:World}:∀ (as bs:List ae),as.all ae.f_=true->∀ {aB us:List Value} {x:(fM as).ah} {y:(fM bs).ah},eY P (fM as) F w aB x->eY P (fM bs) F w us y->eY P (fM (as++bs)) F w (aB++us) (EN as bs x y)
 | [],bs,_,aB,us,x,y,h1,h2=>by
  obtain rfl:aB=[]:=h1.1;exact h2
 | [t],[],_,aB,us,x,y,h1,h2=>by
  obtain rfl:us=[]:=h2.1;have e:aB++[]=aB:=List.append_nil aB;rw[e];exact h1
 | [t],b::bs,h,aB,us,x,y,h1,h2=>by
  have aH:t.f_=true:=by grind
  obtain⟨v,rfl,hv⟩:=(rz aH).1 h1;exact Bo.2 ⟨hv,h2⟩
 | t::u::l,bs,h,aB,us,x,y,h1,h2=>by
  obtain⟨v,rA,rfl,h3,aR⟩:=EM (a:=t) (b:=fM (u::l)) h1;have ai:(u::l).all ae.f_=true:=by
   grind
  have:=QG (u::l) bs ai aR h2;exact Bo.2 ⟨h3,this⟩
structure abV where
 ts:ae
 tr:ae
 sh:ts.ah->M tr.ah
structure EO where
 as:List ae
 cs:List ae
 tr:ae
 sh:(fM (as++cs.map .bq)).ah->M tr.ah
structure wq where
 cs:List ae
 aI:ae
 S:(fM (cs.map .bq)).ah->List aI.ah->Prop
structure wu(P:Program)(k:FuncId)(v:wq):Prop where
 enter:∀ args w,(callFunc k args).run P w=.ok (.enter k args) w
 iD:∀ (F:Nat->Prop) (w:World) (cF:List Value) (x:(fM (v.cs.map .bq)).ah),(∀ r,F r->r<w.heap.size)->nk P F w->eY P (fM (v.cs.map .bq)) F w cF x->(∃ L,v.S x L)->
  ∀ (l:Nat) (I:List v.aI.ah->Bool->(Nat->Prop)->(Nat->Prop)->World->Prop) (Y:Nat->Prop),(∀ r,Y r->r<w.heap.size/\¬F r)->
   EK P (eY P v.aI) l (v.S x) I->I [] false F Y w->Calls P k (#[Value.func (.yield l) #[] #[]]++cF.toArray) w (QD (v.S x) I F Y w)
structure dh where
 sX:Nat->Option abV
 sY:Nat->Option EO
 wv:Nat->Option wq:=λ_=>none
structure qv(P:Program)(U:dh):Prop where
 sX:∀ k v,U.sX k=some v->hL P k v.ts v.tr v.sh
 sY:∀ k v,U.sY k=some v->v.as.all ae.f_=true/\hL P k (fM (v.as++v.cs.map .bq)) v.tr v.sh
 wv:∀ k v,U.wv k=some v->wu P k v:=by intro k v h;cases h
theorem abW{P:Program}{k:FuncId}{ts tr:ae}{sh:ts.ah->M tr.ah}(h:hL P k ts tr sh)(F:Nat->Prop)(w:World):bt P (.fn ts tr) F w [.func (.func k) #[] #[]] sh:=by
 refine⟨_,rfl,⟨rfl,rfl⟩,λF' w' _ _ hs az args x h1 h2 h3=>⟨k,#[],rfl,h.enter,?_⟩⟩;have:=h.iD F' w' args x hs az ⟨h1,h2⟩ h3;simp only[Array.append_empty];exact this.mono λe sU ⟨v,y,e1,e2,⟨aB,e3,e4,dB⟩,kO⟩=>⟨v,y,aB,e1,e2,e3,e4,dB,kO⟩
end Go.Fer
namespace Go.Fer
open Go.RowKit
inductive aD where
 | undef
 | val (t:ae) (x:t.ah)
 | hd (b:Bool) (a:aD)
 | loc (b g off:Nat)
 | own (b g:Nat)
 | nW (b g i off:Nat)
 | dy (t:ae) (x:t.ah)
 | fk (b g:Nat)
 | h' (k:FuncId) (n:Nat) (cF:Nat->aD)
 | rB (k:FuncId) (n:Nat) (first:Nat->aD)
 | pN (n:Nat) (f:Nat->aD)
 | agg (n:Nat) (f:Nat->aD)
 | cR
 | jl (v:Value)
 | jP (b g:Nat)
 | tr (l:Nat) (aI:ae) (S:List aI.ah->Prop) (pre:List aI.ah) (st:Bool)
 | gK (l:Nat)
 | sub (b g lo G:Nat)
 | wx (e:ae) (xs:List e.ah)
 | iE (b g i:Nat)
inductive bB where
 | fb
 | cells (t:ae) (f:Nat->aD)
 | a7 (e:ae) (xs:List e.ah)
 | hf (e:ae) (xs:List e.ah)
 | mp (k v:ae) (es:List (k.ah×v.ah))
 | gi (t:ae) (x:t.ah)
 | iU (k v:ae) (es:List (k.ah×v.ah))
 | b5 (k v:ae) (cur:Option (k.ah×v.ah)) (bY:List (k.ah×v.ah))
 | fN (e:ae) (xs:List e.ah) (i:Nat) (v:aD)
structure bu where
 gen:Nat
 body:bB
structure bm where
 ad:Nat
 off:Nat
 cap:Nat
 eI:Bool
structure ay where
 aw:Nat->aD
 ad:Nat->bu
def bB.fm:bB->Bool | .cells _ _=>true | .gi _ _=>true | _=>false
def bB.eR:bB->Bool | .a7 _ _=>true | .hf _ _=>true | .fN _ _ _ _=>true | _=>false
def bB.gz:bB->Bool | .mp _ _ _=>true | .iU _ _ _=>true | _=>false
def bB.mn:bB->Bool | .b5 _ _ _ _=>true | _=>false
def bB.len:bB->Nat | .a7 _ xs=>xs.length | .hf _ xs=>xs.length | .fN _ xs _ _=>xs.length | _=>0
def bB.eE:bB->Nat | .a7 e _=>e.size | .hf e _=>e.size | .fN e _ _ _=>e.size | _=>0
def bB.bL(k:bm):bB->Bool | .cells _ _=>true | .a7 _ _=>!k.eI | .mp _ _ _=>true | .b5 _ _ _ _=>true | .fN _ _ _ _=>!k.eI | _=>false
def bm.slice(k:bm)(n:Nat):Value:=if k.eI then .slice none 0 0 else .slice (some ⟨k.ad,k.off,none⟩) n k.cap
def EP(k:bm)(eE lo G:Nat)(v:Value):Prop:=
 (k.eI=true/\v=.slice none 0 0)\/(k.eI=false/\∃ o,v=.slice (some ⟨k.ad,o,none⟩) (G - lo) (k.cap - lo)/\o<=k.off+lo*eE/\(lo<k.cap->o=k.off+lo*eE))
def bk(P:Program)(H:Nat->bu)(κ:Nat->bm)(F:Nat->Prop)(w:World):aD->Value->Prop
 | .undef,_=>True
 | .val t x,v=>dP P t F w v x
 | .hd b a,v=>(b=true->bk P H κ F w a v)/\(b=false->v=Go.undef)
 | .loc b g off,v=>(g<=(H b).gen/\v.oneCell'=true)/\(g=(H b).gen->(H b).body.fm=true->v=.pointer (some ⟨(κ b).ad,off,none⟩))
 | .own b g,v=>(g<=(H b).gen/\v.oneCell'=true)/\(g=(H b).gen->(H b).body.eR=true->v=(κ b).slice (H b).body.len)
 | .nW b g i off,v=>(g<=(H b).gen/\v.oneCell'=true)/\(g=(H b).gen->(H b).body.eR=true->i<(H b).body.len/\(κ b).eI=false/\v=.pointer (some ⟨(κ b).ad,(κ b).off+i*(H b).body.eE+off,none⟩))
 | .iE b g i,v=>(g<=(H b).gen/\v.oneCell'=true)/\(g=(H b).gen->(H b).body.eR=true->i<(H b).body.len/\(κ b).eI=false/\v=.pointer (some ⟨(κ b).ad,(κ b).off+i*(H b).body.eE,none⟩))
 | .dy t x,v=>∃ p a8,v=.pointer (some p)/\Holds F w p a8/\bt P t F w a8 x
 | .fk b g,v=>(g<=(H b).gen/\v.oneCell'=true)/\(g=(H b).gen->(H b).body.gz=true->v=.map (some (κ b).ad))
 | .h' k n cF,v=>∃ aB:List Value,v=.func (.func k) #[] aB.toArray/\aB.length=n/\∀ i,i<n->bk P H κ F w (cF i) (aB.getD i Go.undef)
 | .rB k n f,v=>∃ aB:List Value,v=.func (.func k) aB.toArray #[]/\aB.length=n/\∀ i,i<n->bk P H κ F w (f i) (aB.getD i Go.undef)
 | .pN n f,v=>∃ aB:List Value,v=.tuple aB.toArray/\aB.length=n/\∀ i,i<n->bk P H κ F w (f i) (aB.getD i Go.undef)
 | .agg n f,v=>∃ aB:List Value,v=.agg aB.toArray/\aB.length=n/\∀ i,i<n->bk P H κ F w (f i) (aB.getD i Go.undef)/\(aB.getD i Go.undef).oneCell'=true
 | .cR,v=>v=.slice none 0 0
 | .jl u,v=>v=u
 | .jP b g,v=>(g<=(H b).gen/\v.oneCell'=true)/\(g=(H b).gen->(H b).body.mn=true->v=.pointer (some ⟨(κ b).ad,0,none⟩))
 | .tr _ _ _ _ _,_=>True
 | .gK l,v=>v=.func (.yield l) #[] #[]
 | .wx e xs,v=>dP P (.slice e) F w v xs/\∃ q,v=.slice q xs.length xs.length
 | .sub b g lo G,v=>(g<=(H b).gen/\v.oneCell'=true)/\(g=(H b).gen->(H b).body.eR=true->(lo<=G/\G<=(H b).body.len)/\EP (κ b) (H b).body.eE lo G v)
def eZ(H:Nat->bu)(κ:Nat->bm)(H':Nat->bu)(κ':Nat->bm):Prop:=
 ∀ b,(H b).gen<=(H' b).gen/\((H b).gen=(H' b).gen->
  ((H' b).body.fm=true->(H b).body.fm=true/\(κ' b).ad=(κ b).ad)/\
  ((H' b).body.eR=true->(H b).body.eR=true/\κ' b=κ b/\(H' b).body.len=(H b).body.len/\(H' b).body.eE=(H b).body.eE)/\
  ((H' b).body.gz=true->(H b).body.gz=true/\(κ' b).ad=(κ b).ad)/\
  ((H' b).body.mn=true->(H b).body.mn=true/\(κ' b).ad=(κ b).ad))
theorem eZ.refl(H:Nat->bu)(κ:Nat->bm):eZ H κ H κ:=λ_=>⟨Nat.le_refl _,λ_=>⟨λh=>⟨h,rfl⟩,λh=>⟨h,rfl,rfl,rfl⟩,λh=>⟨h,rfl⟩,λh=>⟨h,rfl⟩⟩⟩
def pO(x y:bu)(k k':bm):Prop:=
 x.gen<=y.gen/\(x.gen=y.gen->
  (y.body.fm=true->x.body.fm=true/\k'.ad=k.ad)/\
  (y.body.eR=true->x.body.eR=true/\k'=k/\y.body.len=x.body.len/\y.body.eE=x.body.eE)/\
  (y.body.gz=true->x.body.gz=true/\k'.ad=k.ad)/\
  (y.body.mn=true->x.body.mn=true/\k'.ad=k.ad))
theorem pO.refl(x:bu)(k:bm):pO x x k k:=⟨Nat.le_refl _,λ_=>⟨λh=>⟨h,rfl⟩,λh=>⟨h,rfl,rfl,rfl⟩,λh=>⟨h,rfl⟩,λh=>⟨h,rfl⟩⟩⟩
theorem Bq{H:Nat->bu}{κ:Nat->bm}{H':Nat->bu}{κ':Nat->bm}:eZ H κ H' κ'<->∀ b,pO (H b) (H' b) (κ b) (κ' b):=Iff.rfl
theorem bk.later{P:Program}{H H':Nat->bu}{κ κ':Nat->bm}{F F':Nat->Prop}{w w':World}(ai:eZ H κ H' κ')(bb:∀ r,F r->F' r)(he:cG F w w') :
  ∀ {a:aD} {v:Value},bk P H κ F w a v->bk P H' κ' F' w' a v:=by
 intro a;induction a with
 | undef=>intro v h;trivial
 | val t x=>intro v h;exact dP.mono h bb he
 | hd b a aG=>intro v h;exact⟨λab=>aG (h.1 ab),h.2⟩
 | loc b g off=>
  intro v h;obtain⟨h1,h2⟩:=h;obtain⟨aO,aP⟩:=ai b;refine⟨⟨Nat.le_trans h1.1 aO,h1.2⟩,λaz hc=>?_⟩;grind
 | own b g=>
  intro v h;obtain⟨h1,h2⟩:=h;obtain⟨aO,aP⟩:=ai b;refine⟨⟨Nat.le_trans h1.1 aO,h1.2⟩,λaz hc=>?_⟩;grind
 | nW b g i off=>
  intro v h;obtain⟨h1,h2⟩:=h;obtain⟨aO,aP⟩:=ai b;refine⟨⟨Nat.le_trans h1.1 aO,h1.2⟩,λaz hc=>?_⟩;grind
 | iE b g i=>
  intro v h;obtain⟨h1,h2⟩:=h;obtain⟨aO,aP⟩:=ai b;refine⟨⟨Nat.le_trans h1.1 aO,h1.2⟩,λaz hc=>?_⟩;grind
 | dy t x=>
  intro v h;obtain⟨p,a8,h1,h2,h3⟩:=h;exact⟨p,a8,h1,h2.mono bb he,eP t bb he h3⟩
 | fk b g=>
  intro v h;obtain⟨h1,h2⟩:=h;obtain⟨aO,aP⟩:=ai b;refine⟨⟨Nat.le_trans h1.1 aO,h1.2⟩,λaz hc=>?_⟩;grind
 | jP b g=>
  intro v h;obtain⟨h1,h2⟩:=h;obtain⟨aO,aP⟩:=ai b;refine⟨⟨Nat.le_trans h1.1 aO,h1.2⟩,λaz hc=>?_⟩;grind
 | sub b g lo G=>
  intro v h;obtain⟨h1,h2⟩:=h;obtain⟨aO,aP⟩:=ai b;refine⟨⟨Nat.le_trans h1.1 aO,h1.2⟩,λaz hc=>?_⟩;grind
 | tr l aI L n st=>intro v _;trivial
 | gK l=>intro v h;exact h
 | wx e xs=>intro v h;exact⟨dP.mono h.1 bb he,h.2⟩
 | h' k n cF aG=>
  intro v h;obtain⟨aB,h1,h2,h3⟩:=h;exact⟨aB,h1,h2,λi G=>aG i (h3 i G)⟩
 | rB k n f aG=>
  intro v h;obtain⟨aB,h1,h2,h3⟩:=h;exact⟨aB,h1,h2,λi G=>aG i (h3 i G)⟩
 | pN n f aG=>
  intro v h;obtain⟨aB,h1,h2,h3⟩:=h;exact⟨aB,h1,h2,λi G=>aG i (h3 i G)⟩
 | agg n f aG=>
  intro v h;obtain⟨aB,h1,h2,h3⟩:=h;exact⟨aB,h1,h2,λi G=>⟨aG i (h3 i G).1,(h3 i G).2⟩⟩
 | cR=>intro v h;exact h
 | jl u=>intro v h;exact h
def uC(P:Program)(k v:ae)(F:Nat->Prop)(w:World)(es:Array MapEntry)(clk:Nat)(xs:List (k.ah×v.ah)):Prop:=
 es.size=xs.length/\(xs.map (·.1)).Nodup/\
 (∀ i (h:i<xs.length) (cZ:i<es.size),ks k es[i].key/\bt P k F w es[i].key.cells.toList xs[i].1/\ks v es[i].val/\bt P v F w es[i].val.cells.toList xs[i].2/\es[i].born<clk)/\
 (∀ i j (h:i<es.size) (cZ:j<es.size),es[i].born=es[j].born->i=j)
theorem uC.mono{P:Program}{k v:ae}{F F':Nat->Prop}{w w':World}{es:Array MapEntry}{clk:Nat}{xs:List (k.ah×v.ah)}(h:uC P k v F w es clk xs)(bb:∀ r,F r->F' r)(he:cG F w w') :
  uC P k v F' w' es clk xs:=
 ⟨h.1,h.2.1,λi G dp=>let ⟨a,b,c,d,e⟩:=h.2.2.1 i G dp;⟨a,eP k bb he b,c,eP v bb he d,e⟩,h.2.2.2⟩
def lg(P:Program)(e:ae)(F:Nat->Prop)(w:World)(cs:Array Value)(off:Nat)(xs:List e.ah):Prop:=
 ∀ i (h:i<xs.length),∃ a8,(∀ j (h:j<a8.length),cs[off+i*e.size+j]?=some a8[j])/\bt P e F w a8 xs[i]
theorem lg.mono{P:Program}{e:ae}{F F':Nat->Prop}{w w':World}{cs:Array Value}{off:Nat}{xs:List e.ah}(h:lg P e F w cs off xs)(bb:∀ r,F r->F' r)(he:cG F w w') :
  lg P e F' w' cs off xs:=λi G=>let ⟨a8,a,b⟩:=h i G;⟨a8,a,eP e bb he b⟩
def yB(P:Program)(k v:ae)(F:Nat->Prop)(w:World)(e:MapEntry)(x:k.ah×v.ah):Prop:=
 ks k e.key/\bt P k F w e.key.cells.toList x.1/\ks v e.val/\bt P v F w e.val.cells.toList x.2
theorem yB.mono{P:Program}{k v:ae}{F F':Nat->Prop}{w w':World}{e:MapEntry}{x:k.ah×v.ah}(h:yB P k v F w e x)(bb:∀ r,F r->F' r)(he:cG F w w'):yB P k v F' w' e x:=
 ⟨h.1,eP k bb he h.2.1,h.2.2.1,eP v bb he h.2.2.2⟩
def wy(P:Program)(k v:ae)(F:Nat->Prop)(w:World)(oL:Nat)(cur:Option (k.ah×v.ah))(bY:List (k.ah×v.ah)):Prop:=
 (w.heap[oL]?=some (.mapIter none 0 #[] 0)/\bY=[]/\cur=none)\/
 ∃ lh es clk seen,F lh/\w.heap[lh]?=some (.map es clk)/\w.heap[oL]?=some (.mapIter (some lh) clk seen clk)/\
  (∀ i (h:i<es.size),es[i].born<clk)/\(∀ i j (h:i<es.size) (cZ:j<es.size),es[i].born=es[j].born->i=j)/\
  (∃ ids:List Nat,ids.length=bY.length/\ids.Nodup/\(∀ i,i∈ids<->∃ h:i<es.size,seen.contains es[i].born=false)/\
   (∀ j (h:j<ids.length) (cZ:j<bY.length),∃ G:ids[j]<es.size,yB P k v F w es[ids[j]] bY[j]))/\
  (∀ c,cur=some c->∃ i,∃ h:i<es.size,seen.back?=some es[i].born/\yB P k v F w es[i] c)
theorem wy.mono{P:Program}{k v:ae}{F F':Nat->Prop}{w w':World}{oL:Nat}{cur:Option (k.ah×v.ah)}{bY:List (k.ah×v.ah)}(h:wy P k v F w oL cur bY)(bb:∀ r,F r->F' r)(he:cG F w w')
  (G:w'.heap[oL]?=w.heap[oL]?):wy P k v F' w' oL cur bY:=by
 rcases h with⟨h1,h2⟩ | ⟨lh,es,clk,seen,h1,h2,h3,aR,bw,⟨ids,i1,i2,i3,i4⟩,fK⟩
 ·exact .inl ⟨G.trans h1,h2⟩
 ·exact .inr ⟨lh,es,clk,seen,bb _ h1,(he.2 _ h1).trans h2,G.trans h3,aR,bw,⟨ids,i1,i2,i3,λj aC fz=>let ⟨a,b⟩:=i4 j aC fz;⟨a,b.mono bb he⟩⟩,λc hc=>let ⟨i,a,b,d⟩:=fK c hc;⟨i,a,b,d.mono bb he⟩⟩
def jm(P:Program)(H:Nat->bu)(κ:Nat->bm)(F:Nat->Prop)(w:World)(k:bm):bB->Prop
 | .fb=>True
 | .cells t f=>∃ cs T,w.heap[k.ad]?=some (.cells cs T (0,0))/\cs.size=t.size/\∀ i,i<t.size->bk P H κ F w (f i) (cs.getD i Go.undef)/\(cs.getD i Go.undef).oneCell'=true
 | .a7 e xs=>(k.eI=true->xs=[])/\(k.eI=false->∃ cs T,w.heap[k.ad]?=some (.cells cs T (0,0))/\k.off+k.cap*e.size<=cs.size/\xs.length<=k.cap/\k.cap<2 ^ 63/\lg P e F w cs k.off xs)
 | .hf e xs=>bt P (.slice e) F w [k.slice xs.length] xs
 | .mp lT oM es=>∃ ms clk,w.heap[k.ad]?=some (.map ms clk)/\uC P lT oM F w ms clk es
 | .gi t x=>∃ a8,Holds F w ⟨k.ad,0,none⟩ a8/\bt P t F w a8 x
 | .iU lT oM es=>bt P (.map lT oM) F w [.map (some k.ad)] es
 | .b5 lT oM cur bY=>wy P lT oM F w k.ad cur bY
 | .fN e xs i v=>k.eI=false/\∃ cs T,w.heap[k.ad]?=some (.cells cs T (0,0))/\k.off+k.cap*e.size<=cs.size/\xs.length<=k.cap/\k.cap<2 ^ 63/\(e.size=1/\i<xs.length)/\
   (∀ j (h:j<xs.length),j≠i->∃ a8,(∀ q (h:q<a8.length),cs[k.off+j*e.size+q]?=some a8[q])/\bt P e F w a8 xs[j])/\bk P H κ F w v (cs.getD (k.off+i) Go.undef)/\(cs.getD (k.off+i) Go.undef).oneCell'=true
def cg(P:Program)(H:Nat->bu)(κ:Nat->bm)(F:Nat->Prop)(w:World)(b:Nat):Prop:=jm P H κ F w (κ b) (H b).body
theorem cg.kP{P:Program}{H H':Nat->bu}{κ κ':Nat->bm}{F F':Nat->Prop}{w w':World}{b:Nat}(h:cg P H κ F w b)(ai:eZ H κ H' κ')(bb:∀ r,F r->F' r)(he:cG F w w')
  (ab:(H' b).body=(H b).body) (ao:κ' b=κ b) (hw:(H b).body.bL (κ b)=true->w'.heap[(κ b).ad]?=w.heap[(κ b).ad]?):cg P H' κ' F' w' b:=by
 unfold cg at *
 rw[ab,ao];cases bD:(H b).body with
 | fb=>trivial
 | cells n f=>
  rw[bD]at h hw;obtain⟨cs,T,h1,h2,h3⟩:=h;exact⟨cs,T,(hw rfl).trans h1,h2,λi G=>⟨bk.later ai bb he (h3 i G).1,(h3 i G).2⟩⟩
 | a7 e xs=>
  rw[bD]at h hw;refine⟨h.1,λaA=>?_⟩;obtain⟨cs,T,h1,h2,h3,aR,bw⟩:=h.2 aA;exact⟨cs,T,(hw (by simp[bB.bL,aA])).trans h1,h2,h3,aR,bw.mono bb he⟩
 | hf e xs=>
  rw[bD]at h;exact eP _ bb he h
 | mp lT oM es=>
  rw[bD]at h hw;obtain⟨ms,clk,h1,h2⟩:=h;exact⟨ms,clk,(hw rfl).trans h1,h2.mono bb he⟩
 | gi t x=>
  rw[bD]at h;obtain⟨a8,h1,h2⟩:=h;exact⟨a8,h1.mono bb he,eP t bb he h2⟩
 | iU lT oM es=>
  rw[bD]at h;exact eP (.map lT oM) bb he h
 | b5 lT oM cur bY=>
  rw[bD]at h hw;exact wy.mono h bb he (hw rfl)
 | fN e xs i v=>
  rw[bD]at h hw;obtain⟨h0,cs,T,h1,h2,h3,aR,bw,cY,fK,iS⟩:=h;refine⟨h0,cs,T,(hw (by simp[bB.bL,h0])).trans h1,h2,h3,aR,bw,λj aC qw=>?_,bk.later ai bb he fK,iS⟩;obtain⟨a8,d1,d2⟩:=cY j aC qw;exact⟨a8,d1,eP e bb he d2⟩
structure cM(w w':World):Prop where
 os:w'.os=w.os
 tape:w'.tape=w.tape
 output:w'.output=w.output
theorem cM.refl(w:World):cM w w:=⟨rfl,rfl,rfl⟩
theorem cM.trans{a b c:World}(h:cM a b)(k:cM b c):cM a c:=⟨k.os.trans h.os,k.tape.trans h.tape,k.output.trans h.output⟩
structure lj where
 l:Nat
 aI:ae
 S:List aI.ah->Prop
 I:List aI.ah->Bool->(Nat->Prop)->(Nat->Prop)->World->Prop
structure lj.Ok(P:Program)(p:lj):Prop where
 Bm:∀ {pre st} {F F' Y:Nat->Prop} {w w':World},p.I pre st F Y w->(∀ r,F r->F' r)->(∀ r,F r\/Y r->w'.heap[r]?=w.heap[r]?)->w.heap.size<=w'.heap.size->cM w w'->(∀ r,F' r->r<w'.heap.size)->(∀ r,F' r->¬Y r)->p.I pre st F' Y w'
 yield:∀ {pre} {F Y:Nat->Prop} {w:World} {args:List Value} {x:p.aI.ah},p.I pre false F Y w->(∀ r,F r->r<w.heap.size)->(∀ r,Y r->r<w.heap.size/\¬F r)->(∃ T,p.S (pre++x::T))->eY P p.aI F w args x->
  YieldAt Fence.wide 0 P p.l args.toArray w λe w'=>∃ (b:Bool) (F' fZ:Nat->Prop),e=.returned (.bool b)/\(∀ r,F r->F' r)/\(∀ r,F' r->F r\/Y r\/w.heap.size<=r)/\(∀ r,F' r->r<w'.heap.size)/\
   (∀ r,r<w.heap.size->¬Y r->w'.heap[r]?=w.heap[r]?)/\(∀ r,fZ r->(Y r\/w.heap.size<=r)/\r<w'.heap.size/\¬F' r)/\w.heap.size<=w'.heap.size/\cM w w'/\p.I (pre++[x]) (!b) F' fZ w'
def lj.at(p:lj)(aI:ae)(pre:List aI.ah)(st:Bool)(F Y:Nat->Prop)(w:World):Prop:=∃ h:aI=p.aI,p.I (h ▸ pre) st F Y w
theorem lj.yC{l:Nat}{aI:ae}{S:List aI.ah->Prop}{I}{pre:List aI.ah}{st:Bool}{F Y:Nat->Prop}{w:World}:(lj.mk l aI S I).at aI pre st F Y w<->I pre st F Y w:=⟨λ⟨_,h⟩=>h,λh=>⟨rfl,h⟩⟩
theorem lj.Ok.Jv{P:Program}{p:lj}(h:p.Ok P){aI:ae}{pre:List aI.ah}{st}{F F' Y:Nat->Prop}{w w':World}:p.at aI pre st F Y w->(∀ r,F r->F' r)->(∀ r,F r\/Y r->w'.heap[r]?=w.heap[r]?)->w.heap.size<=w'.heap.size->cM w w'->(∀ r,F' r->r<w'.heap.size)->(∀ r,F' r->¬Y r)->p.at aI pre st F' Y w':=
 λ⟨e,h1⟩ h2 h3 aR bw cY fK=>⟨e,h.Bm h1 h2 h3 aR bw cY fK⟩
def TRS:Nat:=1000000
def eu:Nat:=100000
def wz:Nat:=200000
structure bQ where
 P:Program
 w0:World
 F0:Nat->Prop
 K0:Nat->Prop
 nt:Nat
 r:Option Nat
 dfr:List Deferred
 hX:Nat->Option Nat
 pr:lj
 aL:dh
 Jw:Nat->Option (bm×Nat):=λ_=>none
def abX(C:bQ)(s:ay)(w:World)(κ:Nat->bm)(F:Nat->Prop):Prop:=
 ∀ l aI L n st,s.aw TRS=.tr l aI L n st->(∃ I,C.pr=⟨l,aI,L,I⟩)/\C.pr.Ok C.P/\
  ∃ Y:Nat->Prop,(∀ r,Y r->r<w.heap.size/\¬F r/\¬C.K0 r)/\(∀ b,(s.ad b).body.bL (κ b)=true->¬Y (κ b).ad)/\C.pr.at aI n st F Y w
structure ba(C:bQ)(s:ay)(a:Act)(w:World)(κ:Nat->bm)(F:Nat->Prop):Prop where
 di:a.tmps.size=C.nt
 dfr:a.defers=C.dfr
 bE:∀ i,bk C.P s.ad κ F w (s.aw i) (a.tmps.getD i Go.undef)
 bn:∀ b,cg C.P s.ad κ F w b
 own:∀ b,(s.ad b).body.bL (κ b)=true->(κ b).ad<w.heap.size/\¬F (κ b).ad/\¬C.K0 (κ b).ad
 inj:∀ b aZ,(s.ad b).body.bL (κ b)=true->(s.ad aZ).body.bL (κ aZ)=true->(κ b).ad=(κ aZ).ad->b=aZ
 cL:∀ r,F r->r<w.heap.size
 gL:∀ r,F r->C.F0 r\/¬C.K0 r
 hy:∀ r,C.F0 r->F r
 gX:∀ r,C.K0 r->r<C.w0.heap.size
 eb:∀ r,C.K0 r->w.heap[r]?=C.w0.heap[r]?
 size:C.w0.heap.size<=w.heap.size
 dQ:cM C.w0 w
 fO:C.nt<=eu
 j9:∀ b r,C.hX b=some r->eu<=b
 jn:∀ b r,C.hX b=some r->(s.ad b).body.fm=true\/(s.ad b).body.gz=true->(κ b).ad=r
 jQ:∀ b k,C.Jw b=some k->wz<=b
 j_:∀ b k,C.Jw b=some k->(s.ad b).gen=0->(s.ad b).body.eR=true->κ b=k.1/\(s.ad b).body.len=k.2
 pro:abX C s w κ F
 jo:qv C.P C.aL
 ib:nk C.P F w
def b9(C:bQ)(s:ay)(a:Act)(w:World):Prop:=∃ κ F,ba C s a w κ F
def ay.set(s:ay)(d:Option Nat)(v:aD):ay:=
 match d with
 | none=>s
 | some d=>{ s with aw:=λi=>if i=d then v else s.aw i }
def ay.b'(s:ay)(b:Nat)(x:bu):ay:={ s with ad:=λi=>if i=b then x else s.ad i }
theorem abY{a:Act}{d:Nat}{v:Value}(au:d<a.tmps.size)(i:Nat):(a.put (some d) v).tmps.getD i Go.undef=if i=d then v else a.tmps.getD i Go.undef:=by
 simp only[Act.put,Array.getD_eq_getD_getElem?,Array.getElem?_setIfInBounds];grind
theorem ba.set{C:bQ}{s:ay}{a:Act}{w:World}{κ:Nat->bm}{F:Nat->Prop}(h:ba C s a w κ F){d:Option Nat}(au:∀ i,d=some i->i<C.nt){av:aD}{v:Value}
  (hv:bk C.P s.ad κ F w av v):ba C (s.set d av) (a.put d v) w κ F:=by
 cases d with
 | none=>exact h
 | some d=>
  have wA:=au d rfl;have aA:=h.fO;refine { h with di:=by simpa [Act.put]using h.di,dfr:=h.dfr,bE:=λi=>?_,pro:=λl aI L n st e=>?_ }
  ·rw[abY (by rw[h.di];omega)];simp only[ay.set];by_cases G:i=d
   ·grind
   ·rw[if_neg G,if_neg G];exact h.bE i
  ·simp only[ay.set]at e;rw[if_neg (by unfold TRS eu at *;omega)]at e;exact h.pro l aI L n st e
theorem ba.move{C:bQ}{s:ay}{a:Act}{w:World}{κ:Nat->bm}{F:Nat->Prop}(h:ba C s a w κ F){H':Nat->bu}{κ':Nat->bm}{F':Nat->Prop}{w':World}
  (ai:eZ s.ad κ H' κ') (bb:∀ r,F r->F' r) (sV:∀ r,F' r->F r\/(∃ b,(s.ad b).body.bL (κ b)=true/\(κ b).ad=r)\/w.heap.size<=r)
  (bU:w.heap.size<=w'.heap.size) (hw:∀ r,r<w.heap.size->(∀ b,(s.ad b).body.bL (κ b)=true->(κ b).ad≠r)->w'.heap[r]?=w.heap[r]?) (hc:cM w w')
  (ab:cG F w w'->∀ b,cg C.P H' κ' F' w' b)
  (ag:∀ b,(H' b).body.bL (κ' b)=true->(κ' b).ad<w'.heap.size/\¬F' (κ' b).ad/\((∃ b0,(s.ad b0).body.bL (κ b0)=true/\(κ b0).ad=(κ' b).ad)\/w.heap.size<=(κ' b).ad))
  (G:∀ b aZ,(H' b).body.bL (κ' b)=true->(H' aZ).body.bL (κ' aZ)=true->(κ' b).ad=(κ' aZ).ad->b=aZ)
  (hs:∀ r,F' r->r<w'.heap.size)
  (abZ:∀ b,eu<=b->(H' b).body.fm=true\/(H' b).body.gz=true->κ' b=κ b/\((s.ad b).body.fm=true\/(s.ad b).body.gz=true)):ba C ⟨s.aw,H'⟩ a w' κ' F':=by
 have ab0:∀ r,C.K0 r->(∀ b,(s.ad b).body.bL (κ b)=true->(κ b).ad≠r):=λr V b ab e=>(h.own b ab).2.2 (e ▸ V);have ao:∀ r,C.K0 r->w'.heap[r]?=w.heap[r]?:=λr V=>hw r (Nat.lt_of_lt_of_le (h.gX r V) h.size) (ab0 r V);have yD:∀ r,w.heap.size<=r->¬C.K0 r:=λr V ao=>by have:=h.gX r ao;have:=h.size;omega
 have he:cG F w w':=⟨bU,λr V=>hw r (h.cL r V) λb ab e=>(h.own b ab).2.1 (e ▸ V)⟩
 refine { di:=h.di,dfr:=h.dfr,bE:=λi=>bk.later ai bb he (h.bE i),bn:=ab he,own:=λb ab=>?_,inj:=G,cL:=hs,gL:=λr V=>?_,hy:=λr V=>bb r (h.hy r V),gX:=h.gX,eb:=λr V=>(ao r V).trans (h.eb r V),size:=Nat.le_trans h.size bU,dQ:=h.dQ.trans hc,fO:=h.fO,j9:=h.j9,jn:=λb r V hc=>?_,jQ:=h.jQ,j_:=λb k ao h0 aU=>?_,pro:=λl aI L n st e=>?_,jo:=h.jo,ib:=h.ib.mono bb he }
 ·grind
 ·rcases sV r V with h1 | ⟨b,h1,rfl⟩ | h1
  ·exact h.gL r h1
  ·exact .inr (h.own b h1).2.2
  ·exact .inr (yD r h1)
 ·obtain⟨aO,aP⟩:=abZ b (h.j9 b r V) hc;rw[aO];exact h.jn b r V aP
 ·obtain⟨g1,dR⟩:=ai b;have h0:(H' b).gen=0:=h0;have aU:(H' b).body.eR=true:=aU;obtain⟨bT,a2,a3,_⟩:=(dR (by omega)).2.1 aU;obtain⟨aO,aP⟩:=h.j_ b k ao (by omega) bT;grind
 ·obtain⟨h1,h2,Y,h3,aR,bw⟩:=h.pro l aI L n st e;have awt:∀ r,Y r->w'.heap[r]?=w.heap[r]?:=λr V=>hw r (h3 r V).1 λb ab e=>aR b ab (e ▸ V);have Br:∀ r,Y r->¬F' r:=λr V ar=>by
   grind
  refine⟨h1,h2,Y,λr V=>⟨Nat.lt_of_lt_of_le (h3 r V).1 bU,Br r V,(h3 r V).2.2⟩,λb ab aM=>?_,h2.Jv bw bb (λr V=>?_) bU hc hs λr ar aM=>Br r aM ar⟩
  ·grind
  ·rcases V with V | V
   ·exact he.2 r V
   grind
theorem oN(w:World)(o:Obj){r:Nat}(h:r<w.heap.size):(w.alloc o).heap[r]?=w.heap[r]?:=Below.heap_alloc w o r h
theorem pP(w:World)(o:Obj):(w.alloc o).heap[w.heap.size]?=some o:=by
 show (w.heap.push o)[w.heap.size]?=_;simp
theorem cG.alloc{F:Nat->Prop}{w:World}(hs:∀ r,F r->r<w.heap.size)(o:Obj):cG F w (w.alloc o):=
 ⟨by simp,λr V=>oN w o (hs r V)⟩
theorem yE{H:Nat->bu}{κ κ':Nat->bm}{b:Nat}{x:bu}(az:(H b).gen<x.gen)(Bs:∀ aZ,aZ≠b->κ' aZ=κ aZ) :
  eZ H κ (λi=>if i=b then x else H i) κ':=by
 rw[Bq];intro i;by_cases G:i=b
 ·subst G;simp only[if_true];exact⟨by omega,λh=>by omega⟩
 ·simp only[if_neg G];rw[Bs i G];exact pO.refl _ _
theorem yF{H:Nat->bu}{κ κ':Nat->bm}{b:Nat}{x:bu}(ab:b<eu\/(x.body.fm=false/\x.body.gz=false))(Bs:∀ aZ,aZ≠b->κ' aZ=κ aZ) :
  ∀ i,eu<=i->(if i=b then x else H i).body.fm=true\/(if i=b then x else H i).body.gz=true->κ' i=κ i/\((H i).body.fm=true\/(H i).body.gz=true):=by
 grind
theorem ba.alloc{C:bQ}{s:ay}{a:Act}{w:World}{κ:Nat->bm}{F:Nat->Prop}(h:ba C s a w κ F){b:Nat}{x:bu}(Bt:b<eu)(az:(s.ad b).gen<x.gen)
  {o:Obj} {k:bm} (ao:k.ad=w.heap.size)
  (hx:∀ (H:Nat->bu) (κ':Nat->bm),H=(λi=>if i=b then x else s.ad i)->κ'=(λi=>if i=b then k else κ i)->eZ s.ad κ H κ'->jm C.P H κ' F (w.alloc o) k x.body) :
  ba C (s.b' b x) a (w.alloc o) (λi=>if i=b then k else κ i) F:=by
 have ai:eZ s.ad κ (λi=>if i=b then x else s.ad i) (λi=>if i=b then k else κ i):=yE az λaZ cS=>by grind
 refine h.move (H':=λi=>if i=b then x else s.ad i) ai (λ_ V=>V) (λ_ V=>.inl V) (by simp) (λr V _=>oN w o V) ⟨rfl,rfl,rfl⟩ (λhe=>?_) ?_ ?_ ?_ (yF (.inl Bt) λaZ cS=>by grind)
 ·intro i;by_cases G:i=b
  ·subst G;simp only[cg,if_true];grind
  ·refine cg.kP (h.bn i) ai (λ_ V=>V) he (by grind) (by grind) λag=>?_;exact oN w o (h.own i ag).1
 ·intro i G;by_cases ej:i=b
  ·subst ej;simp only[if_true]at G ⊢;refine⟨by simp_all,λar=>?_,.inr (by omega)⟩;have:=h.cL _ ar;omega
  ·simp only[if_neg ej]at G ⊢;have:=h.own i G;exact⟨by simp;omega,this.2.1,.inl ⟨i,G,rfl⟩⟩
 ·intro i j G aC e;by_cases ej:i=b<;>by_cases lU:j=b
  ·omega
  ·simp only[if_pos ej,if_neg lU]at G aC e;have:=(h.own j aC).1;omega
  ·simp only[if_neg ej,if_pos lU]at G aC e;have:=(h.own i G).1;omega
  ·simp only[if_neg ej,if_neg lU]at G aC e;exact h.inj i j G aC e
 ·intro r V;have:=h.cL r V;simp;omega
theorem qx{H:Nat->bu}{κ:Nat->bm}{b:Nat}{x:bu}(az:x.gen=(H b).gen)(h1:x.body.fm=true->(H b).body.fm=true)
  (h2:x.body.eR=true->(H b).body.eR=true/\x.body.len=(H b).body.len/\x.body.eE=(H b).body.eE) (h3:x.body.gz=true->(H b).body.gz=true)
  (aR:x.body.mn=true->(H b).body.mn=true) :
  eZ H κ (λi=>if i=b then x else H i) κ:=by
 rw[Bq];intro i;by_cases G:i=b
 ·subst G;simp only[if_true];exact⟨by omega,λ_=>⟨λh=>⟨h1 h,rfl⟩,λh=>⟨(h2 h).1,rfl,(h2 h).2⟩,λh=>⟨h3 h,rfl⟩,λh=>⟨aR h,rfl⟩⟩⟩
 ·simp only[if_neg G];exact pO.refl _ _
theorem ab1{H:Nat->bu}{κ:Nat->bm}{b:Nat}{x:bu}(h1:x.body.fm=true->(H b).body.fm=true)(h3:x.body.gz=true->(H b).body.gz=true) :
  ∀ i,eu<=i->(if i=b then x else H i).body.fm=true\/(if i=b then x else H i).body.gz=true->κ i=κ i/\((H i).body.fm=true\/(H i).body.gz=true):=by
 grind
theorem ba.oO{C:bQ}{s:ay}{a:Act}{w w':World}{κ:Nat->bm}{F:Nat->Prop}(h:ba C s a w κ F){b:Nat}{x:bu}
  (fP:(s.ad b).body.bL (κ b)=true) (yG:x.body.bL (κ b)=true) (ai:eZ s.ad κ (λi=>if i=b then x else s.ad i) κ)
  (h1:x.body.fm=true->(s.ad b).body.fm=true) (h3:x.body.gz=true->(s.ad b).body.gz=true)
  (hw:∀ r,r≠(κ b).ad->w'.heap[r]?=w.heap[r]?) (bU:w'.heap.size=w.heap.size) (hc:cM w w')
  (hx:∀ (H:Nat->bu),H=(λi=>if i=b then x else s.ad i)->eZ s.ad κ H κ->cG F w w'->jm C.P H κ F w' (κ b) x.body) :
  ba C (s.b' b x) a w' κ F:=by
 have ag:=h.own b fP;refine h.move (H':=λi=>if i=b then x else s.ad i) ai (λ_ V=>V) (λ_ V=>.inl V) (by omega) (λr _ V=>hw r λe=>V b fP e.symm) hc (λhe=>?_) ?_ ?_ (λr V=>by rw[bU];exact h.cL r V) (ab1 h1 h3)
 ·intro i;by_cases G:i=b
  ·subst G;simp only[cg,if_true];grind
  ·refine cg.kP (h.bn i) ai (λ_ V=>V) he (by grind) rfl λab2=>hw _ λe=>G (h.inj i b ab2 fP e)
 ·intro i G;by_cases ej:i=b
  ·grind
  ·simp only[if_neg ej]at G;have:=h.own i G;grind
 ·intro i j G aC e;have dp:(s.ad i).body.bL (κ i)=true:=by
   grind
  have fz:(s.ad j).body.bL (κ j)=true:=by
   grind
  exact h.inj i j dp fz e
theorem ba.drew{C:bQ}{s:ay}{a:Act}{w:World}{κ:Nat->bm}{F:Nat->Prop}(h:ba C s a w κ F):ba C s a w.drew κ F:=
 h.move (H':=s.ad) (eZ.refl _ _) (λ_ V=>V) (λ_ V=>.inl V) (Nat.le_refl _) (λ_ _ _=>rfl) ⟨rfl,rfl,rfl⟩
  (λ_ b=>cg.kP (h.bn b) (eZ.refl _ _) (λ_ V=>V) ⟨Nat.le_refl _,λ_ _=>rfl⟩ rfl rfl λ_=>rfl) (λb ab=>⟨(h.own b ab).1,(h.own b ab).2.1,.inl ⟨b,ab,rfl⟩⟩) h.inj h.cL (λ_ _ h=>⟨rfl,h⟩)
def ay.le(s' s:ay):Prop:=(∀ i,s'.aw i=s.aw i\/s'.aw i=.undef)/\∀ b,s'.ad b=s.ad b\/s'.ad b=⟨(s.ad b).gen,.fb⟩
theorem ba.yH{C:bQ}{s s':ay}{a:Act}{w:World}{κ:Nat->bm}{F:Nat->Prop}(h:ba C s a w κ F)(hs:s'.le s):ba C s' a w κ F:=by
 have fP:∀ b,(s'.ad b).body.bL (κ b)=true->(s.ad b).body.bL (κ b)=true:=λb ab=>by
  rcases hs.2 b with e | e
  ·grind
  ·rw[e]at ab;cases ab
 have ai:eZ s.ad κ s'.ad κ:=λb=>by
  rcases hs.2 b with e | e
  ·grind
  ·rw[e];exact⟨Nat.le_refl _,λ_=>⟨λh=>(by cases h),λh=>(by cases h),λh=>(by cases h),λh=>(by cases h)⟩⟩
 have h2:=h.move ai (λ_ V=>V) (λ_ V=>.inl V) (Nat.le_refl _) (λ_ _ _=>rfl) (cM.refl _)
  (λ_ b=>by
   rcases hs.2 b with e | e
   ·exact cg.kP (h.bn b) ai (λ_ V=>V) (cG.refl _ _) (by rw[e]) rfl λ_=>rfl
   ·unfold cg;rw[e];trivial)
  (λb ab=>⟨(h.own b (fP b ab)).1,(h.own b (fP b ab)).2.1,.inl ⟨b,fP b ab,rfl⟩⟩) (λb aZ ab cS=>h.inj b aZ (fP b ab) (fP aZ cS)) h.cL (λb _ ab=>⟨rfl,by
   rcases hs.2 b with e | e
   ·grind
   ·rw[e]at ab;simp[bB.fm,bB.gz]at ab⟩)
 refine { h2 with bE:=λi=>?_,di:=h2.di,dfr:=h2.dfr,pro:=λl aI L n st e=>?_ }
 ·rcases hs.1 i with e | e
  ·rw[e];exact h2.bE i
  ·rw[e];trivial
 ·rcases hs.1 TRS with k | k
  ·exact h2.pro l aI L n st (k ▸ e)
  grind
end Go.Fer
namespace Go.Fer
inductive aq(aj:Type) where
 | ret (a:aj)
 | ev (b:Nat) (k:bu->aq aj)
def aq.run{aj:Type}(H:Nat->bu):aq aj->aj
 | .ret a=>a
 | .ev b k=>(k (H b)).run H
def aq.looks{aj:Type}(H:Nat->bu):aq aj->List Nat
 | .ret _=>[]
 | .ev b k=>b::(k (H b)).looks H
def aq.bind{aj β:Type}:aq aj->(aj->aq β)->aq β
 | .ret a,f=>f a
 | .ev b k,f=>.ev b λx=>(k x).bind f
def aq.map{aj β:Type}(f:aj->β)(m:aq aj):aq β:=m.bind λa=>.ret (f a)
def aq.none{aj:Type}:aq (Option aj):=.ret Option.none
def aq.cw{aj β:Type}(m:aq (Option aj))(f:aj->aq (Option β)):aq (Option β):=m.bind fun | some a=>f a | Option.none=>.none
@[simp] theorem aq.bx {aj:Type} (H:Nat->bu) (a:aj):(aq.ret a).run H=a:=rfl
@[simp] theorem aq.eF {aj:Type} (H:Nat->bu) (b:Nat) (k:bu->aq aj):(aq.ev b k).run H=(k (H b)).run H:=rfl
theorem aq.run_bind{aj β:Type}(H:Nat->bu)(m:aq aj)(f:aj->aq β):(m.bind f).run H=(f (m.run H)).run H:=by
 induction m with
 | ret a=>rfl
 | ev b k aG=>simp[aq.bind,aG]
theorem aq.eG{aj β:Type}(H:Nat->bu)(m:aq (Option aj))(f:aj->aq (Option β)):(m.cw f).run H=(m.run H).bind λa=>(f a).run H:=by
 unfold aq.cw;rw[aq.run_bind];cases m.run H<;>rfl
theorem aq.QH{aj:Type}{H H':Nat->bu}:∀ (m:aq aj),(∀ b∈m.looks H,H' b=H b)->m.run H'=m.run H/\m.looks H'=m.looks H
 | .ret a,_=>⟨rfl,rfl⟩
 | .ev b k,h=>by
  have ab:=h b (by simp[aq.looks]);have:=aq.QH (k (H b)) λc hc=>h c (by simp[aq.looks,hc]);simp only[aq.run,aq.looks,ab,this];simp
def ew(t cC:ae)(x:t.ah):Option cC.ah:=if h:t=cC then some (h ▸ x) else none
theorem kt{t cC:ae}{x:t.ah}{y:cC.ah}(h:ew t cC x=some y):∃ e:t=cC,y=e ▸ x:=by
 unfold ew at h;grind
def Bu:(t:ae)->Value->Option t.ah
 | .bq _,.pointer Option.none=>some Option.none
 | .map _ _,.map Option.none=>some []
 | .dO,.nilFunc=>some Option.none
 | _,_=>Option.none
def ae.isAgg:ae->Bool
 | .st _ | .array _ _=>true
 | _=>false
def dz(t:ae):aD->aq (Option (t.ah×List Nat))
 | .val cC x=>.ret ((ew cC t x).map (·,[]))
 | .cR=>match t with
  | .slice _=>.ret (some ([],[]))
  | _=>.none
 | .own b g=>match t with
  | .slice e=>.ev b λx=>.ret (if x.gen=g then (match x.body with
    | .a7 aS xs=>(ew (.slice aS) (.slice e) xs).map (·,[b])
    | .hf aS xs=>(ew (.slice aS) (.slice e) xs).map (·,[])
    | _=>Option.none) else Option.none)
  | _=>.none
 | .sub b g lo G=>match t with
  | .slice e=>.ev b λx=>.ret (if x.gen=g then (match x.body with
    | .a7 aS xs=>(ew (.slice aS) (.slice e) ((xs.take G).drop lo)).map (·,[b])
    | .hf aS xs=>(ew (.slice aS) (.slice e) ((xs.take G).drop lo)).map (·,[])
    | _=>Option.none) else Option.none)
  | _=>.none
 | .fk b g=>match t with
  | .map k v=>.ev b λx=>.ret (if x.gen=g then (match x.body with
    | .mp k' hM es=>(ew (.map k' hM) (.map k v) es).map (·,[b])
    | .iU k' hM es=>(ew (.map k' hM) (.map k v) es).map (·,[])
    | _=>Option.none) else Option.none)
  | _=>.none
 | .dy cC x=>match t with
  | .bq e=>.ret ((ew (.bq cC) (.bq e) (some x)).map (·,[]))
  | _=>.none
 | .jl v=>.ret ((Bu t v).map (·,[]))
 | .h' k n _=>match t with
  | .dO=>if n=0 then .ret (some (some k,[])) else .none
  | _=>.none
 | _=>.none
def sZ(e:ae)(bV:List aD->aq (Option (e.ah×List Nat×List aD)))(av:aD):aq (Option (Option e.ah×List Nat)):=
 match av with
 | .loc b g off=>.ev b λx=>if x.gen=g/\off=0 then (match x.body with
   | .gi cC y=>.ret ((ew cC e y).map λz=>(some z,[]))
   | .cells cC f=>if cC=e then (bV ((List.range e.size).map f)).cw λ(y,l,r)=>.ret (if r.isEmpty then some (some y,b::l) else Option.none) else .none
   | _=>.none) else .none
 | av=>dz (.bq e) av
def hY:(t:ae)->List aD->aq (Option (t.ah×List Nat×List aD))
 | .cy,cs=>.ret (some ((),[],cs))
 | .st t,cs=>hY t cs
 | .ax a b,cs=>(hY a cs).cw λ(x,l,r)=>(hY b r).cw λ(y,m,q)=>.ret (some ((x,y),l++m,q))
 | .array n e,cs=>n.rec (motive:=λ_=>List aD->aq (Option (List e.ah×List Nat×List aD))) (λcs=>.ret (some ([],[],cs)))
   (λ_ aG cs=>(hY e cs).cw λ(x,l,r)=>(aG r).cw λ(xs,m,q)=>.ret (some (x::xs,l++m,q))) cs
 | .bool,cs=>match cs with | c::r=>(dz .bool c).map λo=>o.map λ(x,l)=>(x,l,r) | []=>.none
 | .int k,cs=>match cs with | c::r=>(dz (.int k) c).map λo=>o.map λ(x,l)=>(x,l,r) | []=>.none
 | .str,cs=>match cs with | c::r=>(dz .str c).map λo=>o.map λ(x,l)=>(x,l,r) | []=>.none
 | .slice e,cs=>match cs with | c::r=>(dz (.slice e) c).map λo=>o.map λ(x,l)=>(x,l,r) | []=>.none
 | .bq e,cs=>match cs with | c::r=>(sZ e (hY e) c).map λo=>o.map λ(x,l)=>(x,l,r) | []=>.none
 | .map k v,cs=>match cs with | c::r=>(dz (.map k v) c).map λo=>o.map λ(x,l)=>(x,l,r) | []=>.none
 | .fn a b,cs=>match cs with | c::r=>(dz (.fn a b) c).map λo=>o.map λ(x,l)=>(x,l,r) | []=>.none
 | .b5 a,cs=>match cs with | c::r=>(dz (.b5 a) c).map λo=>o.map λ(x,l)=>(x,l,r) | []=>.none
 | .dO,cs=>match cs with | c::r=>(dz .dO c).map λo=>o.map λ(x,l)=>(x,l,r) | []=>.none
def j'(t:ae)(av:aD):aq (Option (t.ah×List Nat)):=
 match t with
 | .bq e=>sZ e (hY e) av
 | t=>if t.ea then dz t av else .none
def dc(t:ae)(av:aD):aq (Option (t.ah×List Nat)):=
 match av with
 | .val cC x=>.ret ((ew cC t x).map (·,[]))
 | .agg n f=>if t.ea then .none else (hY t ((List.range n).map f)).cw λ(x,l,r)=>.ret (if r.isEmpty&&t.isAgg then some (x,l) else Option.none)
 | _=>j' t av
def nl:(t:ae)->t.ah->List aD
 | .cy,_=>[]
 | .st t,x=>nl t x
 | .ax a b,x=>nl a x.1++nl b x.2
 | .array n e,xs=>(List.range n).flatMap λi=>nl e (List.getD xs i e.cN)
 | .bool,x=>[.val .bool x]
 | .int k,x=>[.val (.int k) x]
 | .str,x=>[.val .str x]
 | .slice e,x=>[.val (.slice e) x]
 | .bq e,x=>[.val (.bq e) x]
 | .map k v,x=>[.val (.map k v) x]
 | .fn a b,x=>[.val (.fn a b) x]
 | .b5 a,x=>[.val (.b5 a) x]
 | .dO,x=>[.val .dO x]
def rC:ae->List aD
 | .cy=>[]
 | .st t=>rC t
 | .ax a b=>rC a++rC b
 | .array n e=>(List.range n).flatMap λ_=>rC e
 | .bool=>[.val .bool false]
 | .int k=>[.val (.int k) (0:Int)]
 | .str=>[.val .str []]
 | .slice _=>[.cR]
 | .bq e=>[.val (.bq e) Option.none]
 | .map k v=>[.val (.map k v) []]
 | .fn _ _=>[.jl .nilFunc]
 | .b5 _=>[.jl .nilFunc]
 | .dO=>[.val .dO Option.none]
def gM(l:List aD)(i:Nat):aD:=l.getD i .undef
def lV:ae->Nat->Option (ae×Nat)
 | .ax a _,0=>some (a,0)
 | .ax a b,f+1=>(lV b f).map λ(t,o)=>(t,a.size+o)
 | .cy,_=>Option.none
 | t,0=>some (t,0)
 | _,_+1=>Option.none
def uD:(t:ae)->t.ah->Nat->Option ((s:ae)×s.ah)
 | .ax a _,x,0=>some ⟨a,x.1⟩
 | .ax _ b,x,f+1=>uD b x.2 f
 | .cy,_,_=>Option.none
 | t,x,0=>some ⟨t,x⟩
 | _,_,_+1=>Option.none
def rD:(t:ae)->t.ah->Nat->(s:ae)->Option s.ah
 | .st t,x,off,s=>if off=0/\ae.st t=s then ew (.st t) s x else rD t x off s
 | .ax a b,x,off,s=>if off<a.size then rD a x.1 off s else rD b x.2 (off - a.size) s
 | .cy,_,_,_=>Option.none
 | .array _ _,_,_,_=>Option.none
 | .bool,x,off,s=>if off=0 then ew .bool s x else Option.none
 | .int k,x,off,s=>if off=0 then ew (.int k) s x else Option.none
 | .str,x,off,s=>if off=0 then ew .str s x else Option.none
 | .slice e,x,off,s=>if off=0 then ew (.slice e) s x else Option.none
 | .bq e,x,off,s=>if off=0 then ew (.bq e) s x else Option.none
 | .map k v,x,off,s=>if off=0 then ew (.map k v) s x else Option.none
 | .fn a b,x,off,s=>if off=0 then ew (.fn a b) s x else Option.none
 | .b5 a,x,off,s=>if off=0 then ew (.b5 a) s x else Option.none
 | .dO,x,off,s=>if off=0 then ew .dO s x else Option.none
def wB:(t:ae)->t.ah->Nat->(s:ae)->s.ah->Option t.ah
 | .st t,x,off,s,y=>if off=0/\s=ae.st t then ew s (.st t) y else wB t x off s y
 | .ax a b,x,off,s,y=>if off<a.size then (wB a x.1 off s y).map (·,x.2) else (wB b x.2 (off - a.size) s y).map (x.1,·)
 | .cy,_,_,_,_=>Option.none
 | .array _ _,_,_,_,_=>Option.none
 | .bool,_,off,s,y=>if off=0 then ew s .bool y else Option.none
 | .int k,_,off,s,y=>if off=0 then ew s (.int k) y else Option.none
 | .str,_,off,s,y=>if off=0 then ew s .str y else Option.none
 | .slice e,_,off,s,y=>if off=0 then ew s (.slice e) y else Option.none
 | .bq e,_,off,s,y=>if off=0 then ew s (.bq e) y else Option.none
 | .map k v,_,off,s,y=>if off=0 then ew s (.map k v) y else Option.none
 | .fn a b,_,off,s,y=>if off=0 then ew s (.fn a b) y else Option.none
 | .b5 a,_,off,s,y=>if off=0 then ew s (.b5 a) y else Option.none
 | .dO,_,off,s,y=>if off=0 then ew s .dO y else Option.none
def lk(k:IntKind)(a b:Int):Int:=k.wrap (BitVec.ofInt k.bits a&&& BitVec.ofInt k.bits b).toNat
def QI(k:IntKind)(a b:Int):Int:=k.wrap (BitVec.ofInt k.bits a||| BitVec.ofInt k.bits b).toNat
def QJ(k:IntKind)(a b:Int):Int:=k.wrap (BitVec.ofInt k.bits a ^^^ BitVec.ofInt k.bits b).toNat
def QK(k:IntKind)(a b:Int):Int:=k.wrap (BitVec.ofInt k.bits a&&& ~~~BitVec.ofInt k.bits b).toNat
def ab3(k:IntKind)(a b:Int):Int:=k.wrap (a*2 ^ (min b.toNat k.bits))
def iV(k:IntKind)(a b:Int):Int:=a.fdiv (2 ^ (min b.toNat k.bits))
def ku(t:ae)(xs:List t.ah)(i:Int):t.ah:=xs.getD i.toNat t.cN
def b6(n:Nat):Prop:=n<=4294967296
def gj:(t:ae)->t.ah->t.ah->Bool
 | .bool,x,y=>x == y
 | .int _,x,y=>decide ((x:Int)=y)
 | .str,x,y=>decide ((x:List UInt8)=y)
 | .st t,x,y=>gj t x y
 | .ax a b,x,y=>gj a x.1 y.1&&gj b x.2 y.2
 | _,_,_=>false
def ae.kv:ae->Bool
 | .bool | .int _ | .str=>true
 | .st t=>t.kv
 | .ax a b=>a.kv&&b.kv
 | _=>false
end Go.Fer
namespace Go.Fer
open Go.RowKit
section
variable {P:Program} {H:Nat->bu} {κ:Nat->bm} {F F':Nat->Prop} {w:World}
def dW(P:Program)(H:Nat->bu)(κ:Nat->bm)(F:Nat->Prop)(w:World):List aD->List Value->Prop
 | [],[]=>True
 | a::as,v::aB=>(bk P H κ F w a v/\v.oneCell'=true)/\dW P H κ F w as aB
 | _,_=>False
theorem dW.append:∀ {as bs:List aD} {us aB:List Value},dW P H κ F w as us->dW P H κ F w bs aB->dW P H κ F w (as++bs) (us++aB)
 | [],_,[],_,_,k=>k
 | _::_,_,_::_,_,h,k=>⟨h.1,dW.append h.2 k⟩
 | [],_,_::_,_,h,_=>h.elim
 | _::_,_,[],_,h,_=>h.elim
theorem dW.len:∀ {as:List aD} {us:List Value},dW P H κ F w as us->as.length=us.length
 | [],[],_=>rfl
 | _::_,_::_,h=>by simp[dW.len h.2]
 | [],_::_,h=>h.elim
 | _::_,[],h=>h.elim
theorem dW.ku:∀ {as:List aD} {us:List Value},dW P H κ F w as us->∀ i,i<as.length->bk P H κ F w (gM as i) (us.getD i Go.undef)/\(us.getD i Go.undef).oneCell'=true
 | a::as,v::aB,h,0,_=>h.1
 | a::as,v::aB,h,i+1,G=>by
  have:=dW.ku h.2 i (by grind);simpa [gM]using this
 | [],[],_,i,G=>by grind
 | [],_::_,h,_,_=>h.elim
 | _::_,[],h,_,_=>h.elim
theorem dW.QL:∀ {as:List aD} {us:List Value},as.length=us.length->(∀ i,i<as.length->bk P H κ F w (gM as i) (us.getD i Go.undef)/\(us.getD i Go.undef).oneCell'=true)->dW P H κ F w as us
 | [],[],_,_=>trivial
 | a::as,v::aB,ai,h=>⟨h 0 (by simp),dW.QL (by grind) λi G=>by have:=h (i+1) (by grind);simpa [gM]using this⟩
 | [],_::_,ai,_=>by grind
 | _::_,[],ai,_=>by grind
theorem yI:∀ (t:ae) {cs:List Value} {x:t.ah},bt P t F w cs x->dW P H κ F w (nl t x) cs:=by
 have ek:∀ (t:ae),t.ea=true->∀ {cs:List Value} {x:t.ah},bt P t F w cs x->dW P H κ F w [.val t x] cs:=by
  intro t aH cs x h;obtain⟨u,rfl,hu⟩:=Bp aH h;exact⟨⟨(dx aH).2 ⟨hu,h⟩,Ju aH h⟩,trivial⟩
 intro t;induction t with
 | bool=>intro cs x h;exact ek _ rfl h
 | int k=>intro cs x h;exact ek (.int k) rfl h
 | str=>intro cs x h;exact ek _ rfl h
 | cy=>intro cs x h;simp only[bt]at h;subst h;trivial
 | st t aG=>intro cs x h;simp only[bt]at h;exact aG h
 | ax a b fa ei=>
  intro cs x h;simp only[bt]at h;obtain⟨c,d,rfl,aU,ab⟩:=h;exact (fa aU).append (ei ab)
 | slice e aG=>intro cs x h;exact ek (.slice e) rfl h
 | array n e aG=>
  intro cs xs h;simp only[bt]at h;obtain⟨eX,rfl,h1,h2,h3⟩:=h;simp only[nl];have key:∀ (k:Nat) (l:List (List Value)),(∀ i (G:i<l.length),dW P H κ F w (nl e (List.getD xs (k+i) e.cN)) l[i])->dW P H κ F w ((List.range' k l.length).flatMap λi=>nl e (List.getD xs i e.cN)) l.flatten:=by
   intro k l;induction l generalizing k with
   | nil=>intro _;trivial
   | cons c l ab4=>
    intro cz;simp only[List.length_cons,List.range'_succ,List.flatMap_cons,List.flatten_cons];refine dW.append ?_ (ab4 (k+1) λi G=>?_)
    ·have:=cz 0 (by simp);grind
    ·have:=cz (i+1) (by grind);grind
  rw[List.range_eq_range',<-h1];grind
 | bq e aG=>intro cs x h;exact ek (.bq e) rfl h
 | map k v wm wo=>intro cs x h;exact ek (.map k v) rfl h
 | fn a b fa ei=>intro cs x h;exact ek (.fn a b) rfl h
 | b5 a aG=>intro cs x h;exact ek (.b5 a) rfl h
 | dO=>intro cs x h;exact ek .dO rfl h
theorem Jx{e:ae}{xs:List e.ah}{k:bm}(aN:jm P H κ F w k (.a7 e xs))(bb:∀ r,F r->F' r)(ao:k.eI=false->F' k.ad):bt P (.slice e) F' w [k.slice xs.length] xs:=by
 obtain⟨h1,h2⟩:=aN;simp only[bt,bm.slice];cases aA:k.eI with
 | true=>rw[h1 aA];exact⟨none,0,rfl,Nat.le_refl _,by decide,λ_=>rfl,λp hp=>by simp⟩
 | false=>
  obtain⟨cs,T,c1,c2,c3,c4,c5⟩:=h2 aA;refine⟨some ⟨k.ad,k.off,none⟩,k.cap,by simp,c3,c4,(by simp),λp hp _=>?_⟩;cases hp;refine⟨ao aA,rfl,λi G=>?_⟩;obtain⟨a8,d1,d2⟩:=c5 i G;refine⟨a8,⟨ao aA,rfl,λj aC=>?_⟩,eP e bb (cG.refl F w) d2⟩;simp only[World.cell?,c1];grind
theorem ER{t cC:ae}{x:t.ah}{y:cC.ah}{v:Value}(hc:ew t cC x=some y)(h:dP P t F w v x):dP P cC F w v y:=by
 obtain⟨e,rfl⟩:=kt hc;grind
theorem s3{t cC:ae}{x:t.ah}{y:cC.ah}{cs:List Value}(hc:ew t cC x=some y)(h:bt P t F w cs x):bt P cC F w cs y:=by
 obtain⟨e,rfl⟩:=kt hc;grind
def iF(H:Nat->bu)(κ:Nat->bm)(F':Nat->Prop)(l:List Nat):Prop:=∀ b∈l,(H b).body.bL (κ b)=true->F' (κ b).ad
theorem iF.left{l m:List Nat}(h:iF H κ F' (l++m)):iF H κ F' l:=λb ab=>h b (List.mem_append_left _ ab)
theorem iF.right{l m:List Nat}(h:iF H κ F' (l++m)):iF H κ F' m:=λb ab=>h b (List.mem_append_right _ ab)
theorem QM{lT oM:ae}{es:List (lT.ah×oM.ah)}{k:bm}(aN:jm P H κ F w k (.mp lT oM es))(bb:∀ r,F r->F' r)(ao:F' k.ad):bt P (.map lT oM) F' w [.map (some k.ad)] es:=by
 obtain⟨ms,clk,h1,h2⟩:=aN;obtain⟨h2,h3,aR,bw⟩:=h2.mono bb (cG.refl F w);exact .inr ⟨_,ms,clk,rfl,ao,h1,h2,h3,aR,bw⟩
theorem ES{e:ae}{xs:List e.ah}{k:bm}{lo G:Nat}{v:Value}(h:bt P (.slice e) F' w [k.slice xs.length] xs)(h1:lo<=G)(h2:G<=xs.length)(hs:EP k e.size lo G v) :
  bt P (.slice e) F' w [v] ((xs.take G).drop lo):=by
 have hlen:((xs.take G).drop lo).length=G - lo:=by grind
 obtain⟨a,cap,e1,c1,c2,c3,c4⟩:=h;rcases hs with⟨aA,rfl⟩ | ⟨aA,o,rfl,o1,f'⟩
 ·have:xs=[]:=by
   simp only[bm.slice,aA,if_true,List.cons.injEq,Value.slice.injEq,and_true]at e1;grind
  subst this;have e0:(([]:List e.ah).take G).drop lo=[]:=by simp
  rw[e0];exact⟨none,0,rfl,Nat.le_refl _,by decide,λ_=>rfl,λp hp=>by simp⟩
 ·simp only[bm.slice,aA,Bool.false_eq_true,if_false,List.cons.injEq,Value.slice.injEq,and_true]at e1;obtain⟨rfl,_,rfl⟩:=e1;refine⟨some ⟨k.ad,o,none⟩,k.cap - lo,by grind,by omega,by omega,(by simp),λp hp uE=>?_⟩;cases hp;obtain⟨d1,d2,d3⟩:=c4 _ rfl (by omega);refine⟨d1,rfl,λi dp=>?_⟩;obtain⟨a8,m1,m2⟩:=d3 (lo+i) (by omega);grind
theorem Jy(aN:∀ b,cg P H κ F w b)(bb:∀ r,F r->F' r){t:ae}(aH:t.ea=true){av:aD}{v:Value}{x:t.ah}{l:List Nat}(h:(dz t av).run H=some (x,l))
  (ai:iF H κ F' l) (hv:bk P H κ F w av v):dP P t F' w v x:=by
 cases av with
 | undef=>cases h
 | hd b a=>cases h
 | loc b g off=>cases h
 | nW b g i off=>cases h
 | iE b g i=>cases h
 | h' k n c=>
  cases t<;>simp only[dz,aq.none,aq.bx,reduceCtorEq]at h;split at h
  ·rename_i aA;subst aA;cases h;obtain⟨aB,rfl,ai,_⟩:=hv;obtain rfl:=List.eq_nil_of_length_eq_zero ai;exact (dx rfl).2 ⟨rfl,rfl⟩
  ·cases h
 | rB k n c=>cases h
 | pN n f=>cases h
 | agg n f=>cases h
 | jP b g=>cases h
 | tr l aI L n st=>cases h
 | gK l=>cases h
 | wx e xs=>cases h
 | sub b g lo G=>
  cases t<;>simp only[dz,aq.none,aq.bx,aq.eF,reduceCtorEq]at h;rename_i e;split at h
  ·rename_i az;obtain⟨pQ,hZ⟩:=hv;have jq:=aN b;unfold cg at jq;cases bD:(H b).body with
   | a7 aS xs=>
    rw[bD]at h jq hZ;simp only[Option.map_eq_some_iff,Prod.mk.injEq]at h;obtain⟨z,a_,rfl,rfl⟩:=h;obtain⟨⟨aO,aP⟩,bA⟩:=hZ az.symm rfl;exact (dx rfl).2 ⟨EL pQ.2,s3 a_ (ES (Jx jq bb λaA=>ai b (by simp) (by rw[bD];simp[bB.bL,aA])) aO aP bA)⟩
   | hf aS xs=>
    rw[bD]at h jq hZ;simp only[Option.map_eq_some_iff,Prod.mk.injEq]at h;obtain⟨z,a_,rfl,rfl⟩:=h;obtain⟨⟨aO,aP⟩,bA⟩:=hZ az.symm rfl;exact (dx rfl).2 ⟨EL pQ.2,s3 a_ (ES (eP (.slice aS) bb (cG.refl F w) jq) aO aP bA)⟩
   | _=>rw[bD]at h;cases h
  grind
 | fk b g=>
  cases t<;>simp only[dz,aq.none,aq.bx,aq.eF,reduceCtorEq]at h;rename_i k e;split at h
  ·rename_i az;obtain⟨pQ,hZ⟩:=hv;have jq:=aN b;unfold cg at jq;cases bD:(H b).body with
   | mp k' hM es=>
    rw[bD]at h jq hZ;simp only[Option.map_eq_some_iff,Prod.mk.injEq]at h;obtain⟨z,a_,rfl,rfl⟩:=h;have:=hZ az.symm rfl;subst this;exact (dx rfl).2 ⟨rfl,s3 a_ (QM jq bb (ai b (by simp) (by rw[bD];rfl)))⟩
   | iU k' hM es=>
    rw[bD]at h jq hZ;simp only[Option.map_eq_some_iff,Prod.mk.injEq]at h;obtain⟨z,a_,rfl,rfl⟩:=h;have:=hZ az.symm rfl;subst this;exact (dx rfl).2 ⟨rfl,s3 a_ (eP (.map k' hM) bb (cG.refl F w) jq)⟩
   | _=>rw[bD]at h;cases h
  grind
 | val cC y=>
  simp only[dz,aq.bx,Option.map_eq_some_iff,Prod.mk.injEq]at h;obtain⟨z,a_,rfl,rfl⟩:=h;exact (ER a_ hv).mono bb (cG.refl F w)
 | cR=>
  cases t<;>simp only[dz,aq.none,aq.bx,reduceCtorEq,Option.some.injEq,Prod.mk.injEq]at h;obtain⟨rfl,rfl⟩:=h;simp only[bk]at hv;subst hv;exact (dx rfl).2 ⟨rfl,none,0,rfl,Nat.le_refl _,by decide,λ_=>rfl,λp hp=>by simp⟩
 | own b g=>
  cases t<;>simp only[dz,aq.none,aq.bx,aq.eF,reduceCtorEq]at h;rename_i e;split at h
  ·rename_i az;obtain⟨pQ,hZ⟩:=hv;have jq:=aN b;unfold cg at jq;cases bD:(H b).body with
   | a7 aS xs=>
    rw[bD]at h jq hZ;simp only[Option.map_eq_some_iff,Prod.mk.injEq]at h;obtain⟨z,a_,rfl,rfl⟩:=h;have:=hZ az.symm rfl;simp only[bB.len]at this;subst this;refine (dx rfl).2 ⟨by unfold bm.slice;split<;>rfl,s3 a_ (Jx jq bb λaA=>ai b (by simp) (by rw[bD];simp[bB.bL,aA]))⟩
   | hf aS xs=>
    rw[bD]at h jq hZ;simp only[Option.map_eq_some_iff,Prod.mk.injEq]at h;obtain⟨z,a_,rfl,rfl⟩:=h;have:=hZ az.symm rfl;simp only[bB.len]at this;subst this;exact (dx rfl).2 ⟨by unfold bm.slice;split<;>rfl,s3 a_ (eP _ bb (cG.refl F w) jq)⟩
   | _=>rw[bD]at h;cases h
  grind
 | dy cC y=>
  cases t<;>simp only[dz,aq.none,aq.bx,reduceCtorEq,Option.map_eq_some_iff,Prod.mk.injEq]at h;rename_i e;obtain⟨z,a_,rfl,rfl⟩:=h;obtain⟨p,a8,rfl,h2,h3⟩:=hv;refine (dx rfl).2 ⟨rfl,s3 a_ ?_⟩;exact .inr ⟨p,y,a8,rfl,rfl,h2.mono bb (cG.refl F w),eP cC bb (cG.refl F w) h3⟩
 | jl u=>
  simp only[bk]at hv;subst hv;simp only[dz,aq.bx,Option.map_eq_some_iff,Prod.mk.injEq]at h;obtain⟨z,a_,rfl,rfl⟩:=h;unfold Bu at a_;split at a_
  ·cases a_;exact (dx rfl).2 ⟨rfl,.inl ⟨rfl,rfl⟩⟩
  ·cases a_;exact (dx rfl).2 ⟨rfl,.inl ⟨rfl,rfl⟩⟩
  ·cases a_;exact (dx rfl).2 ⟨rfl,rfl⟩
  grind
theorem Bv{n:Nat}{f:Nat->aD}{aB:List Value}(ai:aB.length=n)(h:∀ i,i<n->bk P H κ F w (f i) (aB.getD i Go.undef)/\(aB.getD i Go.undef).oneCell'=true) :
  dW P H κ F w ((List.range n).map f) aB:=by
 refine dW.QL (by grind) λi G=>?_;have dp:i<n:=by grind
 have:gM ((List.range n).map f) i=f i:=by simp[gM,List.getD_eq_getElem?_getD,dp]
 grind
theorem QN(aN:∀ b,cg P H κ F w b)(bb:∀ r,F r->F' r){e:ae}{bV:List aD->aq (Option (e.ah×List Nat×List aD))}
  (fQ:∀ {cs:List aD} {aB:List Value} {x:e.ah} {l:List Nat} {r:List aD},(bV cs).run H=some (x,l,r)->iF H κ F' l->dW P H κ F w cs aB->∃ c d,aB=c++d/\bt P e F' w c x/\dW P H κ F w r d)
  {av:aD} {v:Value} {x:Option e.ah} {l:List Nat} (h:(sZ e bV av).run H=some (x,l)) (ai:iF H κ F' l) (hv:bk P H κ F w av v):dP P (.bq e) F' w v x:=by
 have bY:(dz (.bq e) av).run H=some (x,l)->dP P (.bq e) F' w v x:=λh=>Jy aN bb rfl h ai hv;cases av with
 | loc b g off=>
  simp only[sZ,aq.eF]at h;split at h
  ·rename_i az;obtain⟨az,rfl⟩:=az;obtain⟨pQ,hZ⟩:=hv;have jq:=aN b;unfold cg at jq;cases bD:(H b).body with
   | gi t y=>
    rw[bD]at h jq hZ;simp only[aq.bx,Option.map_eq_some_iff,Prod.mk.injEq]at h;obtain⟨z,a_,rfl,rfl⟩:=h;obtain⟨eq,rfl⟩:=kt a_;subst eq;obtain rfl:=hZ az.symm rfl;obtain⟨a8,h1,h2⟩:=jq;exact (dx rfl).2 ⟨rfl,.inr ⟨_,_,a8,rfl,rfl,h1.mono bb (cG.refl F w),eP t bb (cG.refl F w) h2⟩⟩
   | cells t f=>
    rw[bD]at h jq hZ;simp only at h;split at h
    ·rename_i aH;subst aH;simp only[aq.eG,Option.bind_eq_some_iff,aq.bx]at h;obtain⟨⟨y,m,q⟩,h1,h2⟩:=h;split at h2
     ·rename_i be;simp only[Option.some.injEq,Prod.mk.injEq]at h2;obtain⟨rfl,rfl⟩:=h2;obtain rfl:=hZ az.symm rfl;obtain⟨cs,T,aO,aP,bA⟩:=jq;have ie:dW P H κ F w ((List.range t.size).map f) cs.toList:=Bv (by omega) λi G=>by
       simp_all
      obtain⟨c,d,Jz,c1,c2⟩:=fQ h1 (λaZ cS=>ai aZ (List.mem_cons_of_mem _ cS)) ie;have be:q=[]:=List.isEmpty_iff.1 be;subst be;cases d with
      | cons _ _=>exact c2.elim
      | nil=>
       rw[List.append_nil]at Jz;refine (dx rfl).2 ⟨rfl,.inr ⟨_,y,c,rfl,rfl,⟨ai b (by simp) (by rw[bD];rfl),rfl,λj aC=>?_⟩,c1⟩⟩;have fz:j<cs.size:=by grind
       simp only[World.cell?,aO,Nat.zero_add,Option.isSome_none,Bool.false_eq_true,if_false,Array.getElem?_eq_getElem fz];grind
     grind
    ·cases h
   | _=>rw[bD]at h;cases h
  ·cases h
 | _=>exact bY h
theorem JA(aN:∀ b,cg P H κ F w b)(bb:∀ r,F r->F' r):∀ (t:ae) {cs:List aD} {aB:List Value} {x:t.ah} {l:List Nat} {r:List aD},(hY t cs).run H=some (x,l,r)->
  iF H κ F' l->dW P H κ F w cs aB->∃ c d,aB=c++d/\bt P t F' w c x/\dW P H κ F w r d:=by
 have pR:∀ (t:ae) (g:aD->aq (Option (t.ah×List Nat))),t.ea=true->(∀ {av:aD} {v:Value} {x:t.ah} {l:List Nat},(g av).run H=some (x,l)->iF H κ F' l->bk P H κ F w av v->dP P t F' w v x)->
   ∀ {cs:List aD} {aB:List Value} {x:t.ah} {l:List Nat} {r:List aD},(match cs with | c::r=>(g c).map λo=>o.map λ(x,l)=>(x,l,r) | []=>.none:aq (Option (t.ah×List Nat×List aD))).run H=some (x,l,r)->
   iF H κ F' l->dW P H κ F w cs aB->∃ c d,aB=c++d/\bt P t F' w c x/\dW P H κ F w r d:=by
  intro t g aH az cs aB x l r h ai aU;cases cs with
  | nil=>cases h
  | cons c cs=>
   cases aB with
   | nil=>exact aU.elim
   | cons v aB=>
    simp only[aq.map,aq.run_bind,aq.bx,Option.map_eq_some_iff,Prod.mk.injEq]at h;obtain⟨⟨y,m⟩,a_,rfl,rfl,rfl⟩:=h;refine⟨[v],aB,rfl,?_,aU.2⟩;exact ((dx aH).1 (az a_ ai aU.1.1)).2
 have ek:∀ (t:ae),t.ea=true->∀ {cs:List aD} {aB:List Value} {x:t.ah} {l:List Nat} {r:List aD},(match cs with | c::r=>(dz t c).map λo=>o.map λ(x,l)=>(x,l,r) | []=>.none:aq (Option (t.ah×List Nat×List aD))).run H=some (x,l,r)->
   iF H κ F' l->dW P H κ F w cs aB->∃ c d,aB=c++d/\bt P t F' w c x/\dW P H κ F w r d:=
  λt aH=>pR t (dz t) aH λh ai hv=>Jy aN bb aH h ai hv
 intro t;induction t with
 | bool=>intro cs aB x l r h ai aU;exact ek _ rfl h ai aU
 | int k=>intro cs aB x l r h ai aU;exact ek (.int k) rfl h ai aU
 | str=>intro cs aB x l r h ai aU;exact ek _ rfl h ai aU
 | cy=>
  intro cs aB x l r h ai aU;simp only[hY,aq.bx,Option.some.injEq,Prod.mk.injEq]at h;obtain⟨_,rfl,rfl⟩:=h;exact⟨[],aB,rfl,rfl,aU⟩
 | st t aG=>intro cs aB x l r h ai aU;exact aG h ai aU
 | ax a b fa ei=>
  intro cs aB x l r h ai aU;simp only[hY,aq.eG,Option.bind_eq_some_iff,aq.bx,Option.some.injEq,Prod.mk.injEq]at h;obtain⟨⟨y,m,q⟩,h1,⟨z,c8,q'⟩,h2,rfl,rfl,rfl⟩:=h;obtain⟨c,d,rfl,c1,c2⟩:=fa h1 ai.left aU;obtain⟨c',uF,rfl,d1,d2⟩:=ei h2 ai.right c2;exact⟨c++c',uF,by simp,⟨c,c',rfl,c1,d1⟩,d2⟩
 | slice e aG=>intro cs aB x l r h ai aU;exact ek (.slice e) rfl h ai aU
 | array n e aG=>
  intro cs aB xs l r h ai aU;simp only[hY]at h;have key:∀ (n:Nat) {cs:List aD} {aB:List Value} {xs:List e.ah} {l:List Nat} {r:List aD},(n.rec (motive:=λ_=>List aD->aq (Option (List e.ah×List Nat×List aD))) (λcs=>.ret (some ([],[],cs)))
     (λ_ aG cs=>(hY e cs).cw λ(x,l,r)=>(aG r).cw λ(xs,m,q)=>.ret (some (x::xs,l++m,q))) cs).run H=some (xs,l,r)->
    iF H κ F' l->dW P H κ F w cs aB->
    ∃ eX d,aB=List.flatten eX++d/\eX.length=n/\xs.length=n/\(∀ i (h:i<xs.length) (cZ:i<eX.length),bt P e F' w eX[i] xs[i])/\dW P H κ F w r d:=by
   intro n;induction n with
   | zero=>
    intro cs aB xs l r h ai aU;cases h;exact⟨[],aB,rfl,rfl,rfl,λi G=>(by simp),aU⟩
   | succ n Bw=>
    intro cs aB xs l r h ai aU;simp only[aq.eG,Option.bind_eq_some_iff,aq.bx,Option.some.injEq,Prod.mk.injEq]at h;obtain⟨⟨y,m,q⟩,h1,⟨z,c8,q'⟩,h2,rfl,rfl,rfl⟩:=h;obtain⟨c,d,rfl,c1,c2⟩:=aG h1 ai.left aU;obtain⟨eX,uF,rfl,d1,d2,d3,d4⟩:=Bw h2 ai.right c2;refine⟨c::eX,uF,by simp,by grind,by grind,λi G dp=>?_,d4⟩;grind
  obtain⟨eX,d,e1,e2,e3,e4,dB⟩:=key n h ai aU;exact⟨eX.flatten,d,e1,⟨eX,rfl,e2,e3,e4⟩,dB⟩
 | bq e aG=>intro cs aB x l r h ai aU;exact pR (.bq e) (sZ e (hY e)) rfl (λh ai hv=>QN aN bb aG h ai hv) h ai aU
 | map k v wm wo=>intro cs aB x l r h ai aU;exact ek (.map k v) rfl h ai aU
 | fn a b fa ei=>intro cs aB x l r h ai aU;exact ek (.fn a b) rfl h ai aU
 | b5 a aG=>intro cs aB x l r h ai aU;exact ek (.b5 a) rfl h ai aU
 | dO=>intro cs aB x l r h ai aU;exact ek .dO rfl h ai aU
theorem lW(aN:∀ b,cg P H κ F w b)(bb:∀ r,F r->F' r){t:ae}{av:aD}{v:Value}{x:t.ah}{l:List Nat}(h:(dc t av).run H=some (x,l))
  (ai:iF H κ F' l) (hv:bk P H κ F w av v):dP P t F' w v x:=by
 have bY:(j' t av).run H=some (x,l)->dP P t F' w v x:=by
  intro h;unfold j' at h;split at h
  ·exact QN aN bb (λh ai aU=>JA aN bb _ h ai aU) h ai hv
  ·split at h
   ·rename_i aH;exact Jy aN bb aH h ai hv
   ·cases h
 cases av with
 | val cC y=>
  simp only[dc,aq.bx,Option.map_eq_some_iff,Prod.mk.injEq]at h;obtain⟨z,a_,rfl,rfl⟩:=h;exact (ER a_ hv).mono bb (cG.refl F w)
 | agg n f=>
  simp only[dc]at h;split at h
  ·cases h
  ·simp only[aq.eG,Option.bind_eq_some_iff,aq.bx]at h;obtain⟨⟨y,m,q⟩,h1,h2⟩:=h;split at h2
   ·rename_i hc;simp only[Bool.and_eq_true,List.isEmpty_iff]at hc;simp only[Option.some.injEq,Prod.mk.injEq]at h2;obtain⟨rfl,rfl⟩:=h2;obtain⟨aB,rfl,aR,bw⟩:=hv;obtain⟨c,d,rfl,c1,c2⟩:=JA aN bb t h1 ai (Bv aR bw);rw[hc.1]at c2;cases d with
    | cons _ _=>exact c2.elim
    | nil=>
     rw[List.append_nil]at *
     have hlen:=ht t c1;have hs:=hc.2;cases t<;>simp only[ae.isAgg,Bool.false_eq_true]at hs
     ·exact⟨⟨c.toArray,rfl,by simpa [ae.size]using hlen⟩,by simpa [Value.cells]using c1⟩
     ·exact⟨⟨c.toArray,rfl,by simpa [ae.size]using hlen⟩,by simpa [Value.cells]using c1⟩
   grind
 | undef=>exact bY h
 | hd b a=>exact bY h
 | loc b g off=>exact bY h
 | own b g=>exact bY h
 | nW b g i off=>exact bY h
 | iE b g i=>exact bY h
 | dy cC y=>exact bY h
 | fk b g=>exact bY h
 | h' k n c=>exact bY h
 | rB k n c=>exact bY h
 | pN n f=>exact bY h
 | cR=>exact bY h
 | jl u=>exact bY h
 | jP b g=>exact bY h
 | tr l aI L n st=>exact bY h
 | gK l=>exact bY h
 | wx e xs=>exact bY h
 | sub b g lo G=>exact bY h
end
def ae.pure:ae->Bool
 | .bool | .int _ | .str | .cy=>true
 | .st t=>t.pure
 | .ax a b=>a.pure&&b.pure
 | .array _ e=>e.pure
 | _=>false
theorem ab5{P:Program}{F F':Nat->Prop}{w w':World}:∀ (t:ae) {cs:List Value} {x:t.ah},t.pure=true->bt P t F w cs x->bt P t F' w' cs x:=by
 intro t;induction t with
 | bool=>intro cs x _ h;exact h
 | int k=>intro cs x _ h;exact h
 | str=>intro cs x _ h;exact h
 | cy=>intro cs x _ h;exact h
 | st t aG=>intro cs x aH h;exact aG aH h
 | ax a b fa ei=>
  intro cs x aH h;simp only[ae.pure,Bool.and_eq_true]at aH;obtain⟨c,d,rfl,aU,ab⟩:=h;exact⟨c,d,rfl,fa aH.1 aU,ei aH.2 ab⟩
 | slice e aG=>intro cs x aH;cases aH
 | array n e aG=>
  intro cs x aH h;obtain⟨eX,rfl,h1,h2,h3⟩:=h;exact⟨eX,rfl,h1,h2,λi G dp=>aG aH (h3 i G dp)⟩
 | bq e aG=>intro cs x aH;cases aH
 | map k v wm wo=>intro cs x aH;cases aH
 | fn a b fa ei=>intro cs x aH;cases aH
 | b5 a aG=>intro cs x aH;cases aH
 | dO=>intro cs x aH;cases aH
end Go.Fer
namespace Go.Fer
open Go.RowKit
section
variable {P:Program} {F:Nat->Prop} {w:World}
theorem ab6{t:ae}{x y:t.ah}(h:ew t t x=some y):y=x:=by
 obtain⟨e,rfl⟩:=kt h;rfl
theorem QO:∀ (t:ae) {f:Nat} {cs:List Value} {x:t.ah} {s:ae} {y:s.ah},bt P t F w cs x->uD t x f=some ⟨s,y⟩->
  ∃ c1 c2 c3,cs=c1++(c2++c3)/\bt P s F w c2 y/\lV t f=some (s,c1.length):=by
 have ek:∀ (t:ae),(∀ a b,t≠.ax a b)->t≠.cy->∀ {f:Nat} {cs:List Value} {x:t.ah} {s:ae} {y:s.ah},bt P t F w cs x->uD t x f=some ⟨s,y⟩->
   ∃ c1 c2 c3,cs=c1++(c2++c3)/\bt P s F w c2 y/\lV t f=some (s,c1.length):=by
  intro t h1 h2 f cs x s y h ar;cases f with
  | zero=>
   have e:uD t x 0=some ⟨t,x⟩:=by cases t<;>first | rfl | grind | grind
   have aS:lV t 0=some (t,0):=by cases t<;>first | rfl | grind | grind
   rw[e]at ar;cases ar;exact⟨[],cs,[],by simp,h,aS⟩
  | succ f=>
   have e:uD t x (f+1)=none:=by cases t<;>first | rfl | grind
   grind
 intro t;induction t with
 | ax a b fa ei=>
  intro f cs x s y h ar;simp only[bt]at h;obtain⟨c,d,rfl,aU,ab⟩:=h;cases f with
  | zero=>
   simp only[uD,Option.some.injEq,Sigma.mk.injEq]at ar;obtain⟨rfl,ar⟩:=ar;cases ar;exact⟨[],c,d,by simp,aU,rfl⟩
  | succ f=>
   obtain⟨c1,c2,c3,rfl,aO,aP⟩:=ei ab ar;refine⟨c++c1,c2,c3,by simp,aO,?_⟩;simp[lV,aP,ht a aU]
 | cy=>intro f cs x s y _ ar;cases f<;>cases ar
 | bool=>grind
 | int k=>grind
 | str=>grind
 | st t _=>grind
 | slice e _=>grind
 | array n e _=>grind
 | bq e _=>grind
 | map k v _ _=>grind
 | fn a b _ _=>grind
 | b5 a _=>grind
 | dO=>grind
theorem QP:∀ (t:ae) {off:Nat} {cs:List Value} {x:t.ah} {s:ae} {y:s.ah},bt P t F w cs x->rD t x off s=some y->
  ∃ c1 c2 c3,cs=c1++(c2++c3)/\c1.length=off/\bt P s F w c2 y:=by
 have ek:∀ (t:ae) {off:Nat} {cs:List Value} {x:t.ah} {s:ae} {y:s.ah},bt P t F w cs x->(if off=0 then ew t s x else none)=some y->
   ∃ c1 c2 c3,cs=c1++(c2++c3)/\c1.length=off/\bt P s F w c2 y:=by
  intro t off cs x s y h ar;split at ar
  ·rename_i ag;exact⟨[],cs,[],by simp,ag.symm,s3 ar h⟩
  grind
 intro t;induction t with
 | ax a b fa ei=>
  intro off cs x s y h ar;simp only[bt]at h;obtain⟨c,d,rfl,aU,ab⟩:=h;simp only[rD]at ar;split at ar
  ·grind
  ·obtain⟨c1,c2,c3,rfl,aO,aP⟩:=ei ab ar;have:=ht a aU;grind
 | st t aG=>
  intro off cs x s y h ar;simp only[rD]at ar;split at ar
  ·rename_i ag;exact⟨[],cs,[],by simp,ag.1.symm,s3 ar h⟩
  ·simp only[bt]at h;grind
 | cy=>intro off cs x s y _ ar;cases ar
 | array n e _=>intro off cs x s y _ ar;cases ar
 | bool=>intro off cs x s y h ar;exact ek _ h ar
 | int k=>intro off cs x s y h ar;exact ek (.int k) h ar
 | str=>intro off cs x s y h ar;exact ek _ h ar
 | slice e _=>intro off cs x s y h ar;exact ek (.slice e) h ar
 | bq e _=>intro off cs x s y h ar;exact ek (.bq e) h ar
 | map k v _ _=>intro off cs x s y h ar;exact ek (.map k v) h ar
 | fn a b _ _=>intro off cs x s y h ar;exact ek (.fn a b) h ar
 | b5 a _=>intro off cs x s y h ar;exact ek (.b5 a) h ar
 | dO=>intro off cs x s y h ar;exact ek .dO h ar
theorem ab7:∀ (t:ae) {off:Nat} {cs a8:List Value} {x dn:t.ah} {s:ae} {y:s.ah},bt P t F w cs x->wB t x off s y=some dn->bt P s F w a8 y->
  ∃ c1 c2 c3,cs=c1++(c2++c3)/\c1.length=off/\c2.length=s.size/\bt P t F w (c1++(a8++c3)) dn:=by
 have ek:∀ (t:ae) {off:Nat} {cs a8:List Value} {x dn:t.ah} {s:ae} {y:s.ah},bt P t F w cs x->(if off=0 then ew s t y else none)=some dn->bt P s F w a8 y->
   ∃ c1 c2 c3,cs=c1++(c2++c3)/\c1.length=off/\c2.length=s.size/\bt P t F w (c1++(a8++c3)) dn:=by
  intro t off cs a8 x dn s y h ar au;split at ar
  ·rename_i ag;obtain⟨e,rfl⟩:=kt ar;subst e;exact⟨[],cs,[],by simp,ag.symm,ht s h,by grind⟩
  grind
 intro t;induction t with
 | ax a b fa ei=>
  intro off cs a8 x dn s y h ar au;simp only[bt]at h;obtain⟨c,d,rfl,aU,ab⟩:=h;simp only[wB]at ar;split at ar
  ·simp only[Option.map_eq_some_iff]at ar;obtain⟨z,a_,rfl⟩:=ar;obtain⟨c1,c2,c3,rfl,aO,aP,bA⟩:=fa aU a_ au;exact⟨c1,c2,c3++d,by simp,aO,aP,⟨_,d,by simp,bA,ab⟩⟩
  ·simp only[Option.map_eq_some_iff]at ar;obtain⟨z,a_,rfl⟩:=ar;obtain⟨c1,c2,c3,rfl,aO,aP,bA⟩:=ei ab a_ au;have:=ht a aU;exact⟨c++c1,c2,c3,by simp,by grind,aP,⟨c,_,by simp,aU,bA⟩⟩
 | st t aG=>
  intro off cs a8 x dn s y h ar au;simp only[wB]at ar;split at ar
  ·rename_i ag;obtain⟨ag,e⟩:=ag;subst e;have:=ab6 ar;subst this;exact⟨[],cs,[],by simp,ag.symm,ht _ h,by grind⟩
  ·simp only[bt]at h ⊢;grind
 | cy=>intro off cs a8 x dn s y _ ar;cases ar
 | array n e _=>intro off cs a8 x dn s y _ ar;cases ar
 | bool=>intro off cs a8 x dn s y h ar au;exact ek _ h ar au
 | int k=>intro off cs a8 x dn s y h ar au;exact ek (.int k) h ar au
 | str=>intro off cs a8 x dn s y h ar au;exact ek _ h ar au
 | slice e _=>intro off cs a8 x dn s y h ar au;exact ek (.slice e) h ar au
 | bq e _=>intro off cs a8 x dn s y h ar au;exact ek (.bq e) h ar au
 | map k v _ _=>intro off cs a8 x dn s y h ar au;exact ek (.map k v) h ar au
 | fn a b _ _=>intro off cs a8 x dn s y h ar au;exact ek (.fn a b) h ar au
 | b5 a _=>intro off cs a8 x dn s y h ar au;exact ek (.b5 a) h ar au
 | dO=>intro off cs a8 x dn s y h ar au;exact ek .dO h ar au
end
def jR:ae->List Value->Option (List Value)
 | .cy,cs=>some cs
 | .st t,cs=>jR t cs
 | .ax a b,cs=>(jR a cs).bind (jR b)
 | .array n e,cs=>n.rec (motive:=λ_=>List Value->Option (List Value)) some (λ_ aG cs=>(jR e cs).bind aG) cs
 | .bool,cs=>match cs with | .bool false::r=>some r | _=>none
 | .int k,cs=>match cs with | .int k' n::r=>if k'=k/\n=0 then some r else none | _=>none
 | .str,cs=>match cs with | .string s::r=>if s.size=0 then some r else none | _=>none
 | .slice _,cs=>match cs with | .slice none 0 0::r=>some r | _=>none
 | .bq _,cs=>match cs with | .pointer none::r=>some r | _=>none
 | .map _ _,cs=>match cs with | .map none::r=>some r | _=>none
 | .fn _ _,cs=>match cs with | .nilFunc::r=>some r | _=>none
 | .b5 _,cs=>match cs with | .nilFunc::r=>some r | _=>none
 | .dO,cs=>match cs with | .nilFunc::r=>some r | _=>none
theorem QQ(k:IntKind):fy k 0:=by cases k<;>decide
theorem uG{P:Program}{H:Nat->bu}{κ:Nat->bm}{F:Nat->Prop}{w:World}:∀ (t:ae) {cs r:List Value},jR t cs=some r->
  ∃ c,cs=c++r/\bt P t F w c t.cN/\dW P H κ F w (rC t) c:=by
 intro t;induction t with
 | cy=>intro cs r h;cases h;exact⟨[],by simp,rfl,trivial⟩
 | st t aG=>intro cs r h;exact aG h
 | ax a b fa ei=>
  intro cs r h;simp only[jR,Option.bind_eq_some_iff]at h;obtain⟨q,h1,h2⟩:=h;obtain⟨c,rfl,c1,c2⟩:=fa h1;obtain⟨d,rfl,d1,d2⟩:=ei h2;exact⟨c++d,by simp,⟨c,d,rfl,c1,d1⟩,c2.append d2⟩
 | array n e aG=>
  intro cs r h;simp only[jR]at h;have key:∀ (n k:Nat) {cs r:List Value},n.rec (motive:=λ_=>List Value->Option (List Value)) some (λ_ aG cs=>(jR e cs).bind aG) cs=some r->
    ∃ eX:List (List Value),cs=eX.flatten++r/\eX.length=n/\(∀ c∈eX,bt P e F w c e.cN)/\dW P H κ F w ((List.range' k n).flatMap λ_=>rC e) eX.flatten:=by
   intro n;induction n with
   | zero=>intro k cs r h;cases h;exact⟨[],by simp,rfl,by simp,trivial⟩
   | succ n Bw=>
    intro k cs r h;simp only[Option.bind_eq_some_iff]at h;obtain⟨q,h1,h2⟩:=h;obtain⟨c,rfl,c1,c2⟩:=aG h1;obtain⟨eX,rfl,d1,d2,d3⟩:=Bw (k+1) h2;refine⟨c::eX,by simp,by grind,?_,?_⟩
    ·grind
    ·simp only[List.range'_succ,List.flatMap_cons,List.flatten_cons];exact c2.append d3
  obtain⟨eX,rfl,h1,h2,h3⟩:=key n 0 h;refine⟨eX.flatten,rfl,⟨eX,rfl,h1,by simp[ae.cN],λi G dp=>?_⟩,?_⟩
  ·have:(ae.array n e).cN[i]=e.cN:=by simp[ae.cN]
   grind
  ·simp only[rC,List.range_eq_range'];exact h3
 | bool=>
  intro cs r h;simp only[jR]at h;split at h
  ·cases h;exact⟨[.bool false],rfl,rfl,⟨eQ.2 rfl,rfl⟩,trivial⟩
  grind
 | int k=>
  intro cs r h;simp only[jR]at h;split at h
  ·split at h
   ·rename_i ao;obtain⟨rfl,rfl⟩:=ao;cases h;exact⟨[.int _ 0],rfl,⟨rfl,QQ _⟩,⟨gy.2 ⟨rfl,QQ _⟩,rfl⟩,trivial⟩
   grind
  grind
 | str=>
  intro cs r h;simp only[jR]at h;split at h
  ·rename_i s pM;split at h
   ·rename_i hs;cases h;have:s=⟨([]:List UInt8).toArray⟩:=by
     cases s with | mk d=>simp only[ByteArray.size]at hs;grind
    subst this;exact⟨[.string ⟨([]:List UInt8).toArray⟩],rfl,⟨rfl,by decide⟩,⟨lS.2 ⟨rfl,by decide⟩,rfl⟩,trivial⟩
   grind
  grind
 | slice e _=>
  intro cs r h;simp only[jR]at h;split at h
  ·cases h;exact⟨[.slice none 0 0],rfl,⟨none,0,rfl,Nat.le_refl _,by decide,λ_=>rfl,λp hp=>by simp⟩,⟨rfl,rfl⟩,trivial⟩
  grind
 | bq e _=>
  intro cs r h;simp only[jR]at h;split at h
  ·cases h;exact⟨[.pointer none],rfl,.inl ⟨rfl,rfl⟩,⟨(dx rfl).2 ⟨rfl,.inl ⟨rfl,rfl⟩⟩,rfl⟩,trivial⟩
  grind
 | map k v _ _=>
  intro cs r h;simp only[jR]at h;split at h
  ·cases h;exact⟨[.map none],rfl,.inl ⟨rfl,rfl⟩,⟨(dx rfl).2 ⟨rfl,.inl ⟨rfl,rfl⟩⟩,rfl⟩,trivial⟩
  grind
 | fn a b _ _=>
  intro cs r h;simp only[jR]at h;split at h
  ·cases h;exact⟨[.nilFunc],rfl,⟨.nilFunc,rfl,⟨rfl,rfl⟩,λF' w' _ _ _ _ args x _ _ hs=>(show False from hs).elim⟩,⟨rfl,rfl⟩,trivial⟩
  grind
 | b5 a _=>
  intro cs r h;simp only[jR]at h;split at h
  ·cases h;exact⟨[.nilFunc],rfl,⟨.nilFunc,rfl,⟨rfl,rfl⟩,λF' w' _ _ _ _ hs=>(show ∃ _,False from hs).elim λ_ h=>h.elim⟩,⟨rfl,rfl⟩,trivial⟩
  grind
 | dO=>
  intro cs r h;simp only[jR]at h;split at h
  ·cases h;exact⟨[.nilFunc],rfl,rfl,⟨(dx rfl).2 ⟨rfl,rfl⟩,rfl⟩,trivial⟩
  grind
def nX(P:Program)(t:ae)(id:TypeId):Bool:=
 match P.info? id with
 | some i=>i.size == t.size&&decide (i.bytes<=1024)&&(match i.zero with
  | some z=>(match jR t z.cells.toList with | some []=>true | _=>false)&&(match t,z with
   | .st _,.agg _=>true
   | .array _ _,.agg _=>true
   | .st _,_=>false
   | .array _ _,_=>false
   | _,.agg _=>false
   | _,_=>true)
  | none=>false)
 | none=>false
def ch(P:Program):ae->Sum TypeId (List Field×Nat)->Bool
 | .ax a b, .inr (f :: g :: [], off) => f.offset == off && ch P a (.inl f.type) && a.size != 0 && f.name != "_" && (g.offset == off + a.size && ch P b (.inl g.type) && b.size != 0 && g.name != "_")
 | .ax a b, .inr (f :: g :: h :: ez, off) => f.offset == off && ch P a (.inl f.type) && a.size != 0 && f.name != "_" && ch P b (.inr (g :: h :: ez, off + a.size))
 | .st t,.inl id=>nX P (.st t) id&&!P.stoodInHeld id&&!P.eqGuardType P.depth id&&match P.underlying id with
  | some (.struct ez)=>(match ez.toList with
   | []=>decide (t=.cy)
   | [f] => f.offset == 0 && ch P t (.inl f.type) && t.size != 0 && f.name != "_"
   | l=>ch P t (.inr (l,0)))
  | _=>false
 | .bool,.inl id=>nX P .bool id&&(match P.underlying id with | some .bool=>true | _=>false)
 | .int k,.inl id=>nX P (.int k) id&&(match P.underlying id with | some (.int k')=>decide (k'=k) | _=>false)
 | .str,.inl id=>nX P .str id&&(match P.underlying id with | some .string=>true | _=>false)
 | .slice e,.inl id=>nX P (.slice e) id&&(match P.underlying id with | some (.slice i)=>ch P e (.inl i)&&e.size != 0 | _=>false)
 | .array n e,.inl id=>nX P (.array n e) id&&(match P.underlying id with | some (.array m i)=>decide (m=n)&&ch P e (.inl i)&&e.size != 0 | _=>false)
 | .bq e,.inl id=>nX P (.bq e) id&&(match P.underlying id with | some (.pointer i)=>ch P e (.inl i)&&e.size != 0 | _=>false)
 | .map k v,.inl id=>nX P (.map k v) id&&(match P.underlying id with | some (.map i j)=>ch P k (.inl i)&&ch P v (.inl j) | _=>false)
 | .fn a b,.inl id=>nX P (.fn a b) id&&(match P.underlying id with | some (.func _ _ _)=>true | _=>false)
 | .b5 a,.inl id=>nX P (.b5 a) id&&(match P.underlying id with | some (.func _ _ _)=>true | _=>false)
 | .dO,.inl id=>nX P .dO id&&(match P.underlying id with | some (.func _ _ _)=>true | _=>false)
 | _,_=>false
def bP(P:Program)(t:ae)(id:TypeId):Prop:=ch P t (.inl id)=true
theorem bP.ka{P:Program}{t:ae}{id:TypeId}(h:bP P t id):nX P t id=true:=by
 unfold bP at h;cases t<;>simp only[ch,Bool.and_eq_true,Bool.false_eq_true]at h<;>first | exact h.1.1.1 | exact h.1
theorem kc{P:Program}{t:ae}{id:TypeId}(h:nX P t id=true):∃ i z,P.info? id=some i/\i.size=t.size/\i.bytes<=1024/\i.zero=some z/\
  jR t z.cells.toList=some []/\((∃ cs,z=.agg cs)<->t.isAgg=true):=by
 unfold nX at h;split at h
 ·rename_i i G;simp only[Bool.and_eq_true,beq_iff_eq,decide_eq_true_eq]at h;obtain⟨⟨h1,h2⟩,h3⟩:=h;split at h3
  ·rename_i z a_;simp only[Bool.and_eq_true]at h3;obtain⟨aR,bw⟩:=h3;refine⟨i,z,G,h1,h2,a_,?_,?_⟩
   ·grind
   ·cases t<;>cases z<;>simp_all[ae.isAgg]
  grind
 grind
end Go.Fer
namespace Go.Fer
open Go.RowKit
structure dY where
 bR:Prop
 c:Prop
 eJ:aD
 hg:List (Nat×bu)
def use:aD->Prop×aD
 | .hd b a=>(b=true,a)
 | a=>(True,a)
def wC:Value->aD
 | .bool b=>.val .bool b
 | .int k n=>if fy k n then .val (.int k) n else .jl (.int k n)
 | .string s=>if s.size<1048576 then .val .str s.data.toList else .jl (.string s)
 | .slice none 0 0=>.cR
 | v=>.jl v
def aT(U:dh)(s:Nat->aD):Operand->aD
 | .tmp t=>s t
 | .const v=>wC v
 | .func f=>match U.sX f with
  | some v=>.val (.fn v.ts v.tr) v.sh
  | none=>.h' f 0 λ_=>.undef
 | .global _=>.undef
structure aJ where
 ts:ae
 tr:ae
 pre:ts.ah->Prop
 g:ts.ah->tr.ah
def kd:(t:ae)->t.ah->Nat->aD
 | .ax a _,x,0=>.val a x.1
 | .ax _ b,x,i+1=>kd b x.2 i
 | t,x,0=>.val t x
 | _,_,_+1=>.undef
def jS:ae->Nat
 | .ax _ b=>jS b+1
 | .cy=>0
 | _=>1
def qy(t:ae)(x:t.ah):aD:=
 match t with
 | .ax a b=>.pN (jS (.ax a b)) (kd (.ax a b) x)
 | .cy=>.jl (.tuple #[])
 | t=>.val t x
def iG:(t:ae)->List aD->aq (Option (t.ah×List Nat))
 | .ax a b,v::aB=>(dc a v).cw λ(x,l)=>(iG b aB).cw λ(y,m)=>.ret (some ((x,y),l++m))
 | .ax _ _,[]=>.none
 | .cy,[]=>.ret (some ((),[]))
 | .cy,_::_=>.none
 | t,[v]=>dc t v
 | _,_=>.none
def jr:List Nat->aq (List (Nat×bu))
 | []=>.ret []
 | b::l=>.ev b λx=>(jr l).bind λr=>match x.body with
  | .a7 e xs=>.ret ((b,⟨x.gen,.hf e xs⟩)::r)
  | .mp k v es=>.ret ((b,⟨x.gen,.iU k v es⟩)::r)
  | .cells t f=>(hY t ((List.range t.size).map f)).bind λo=>.ret (match o with
   | some (y,_,[])=>(b,⟨x.gen,.gi t y⟩)::r
   | _=>r)
  | _=>.ret r
def cellsOf(t:ae)(av:aD):Option (List aD):=
 match t,av with
 | .st t,.val (.st cC) x=>if cC=t then some (nl cC x) else none
 | .st t,.agg n f=>if n=t.size then some ((List.range n).map f) else none
 | .array n e,.val (.array iH aS) x=>if iH=n/\aS=e then some (nl (.array iH aS) x) else none
 | .array n e,.agg m f=>if m=n*e.size then some ((List.range m).map f) else none
 | t,av=>if t.ea then (match av with
  | .val cC _=>if cC.ea then some [av] else none
  | .loc _ _ _ | .own _ _ | .nW _ _ _ _ | .dy _ _ | .fk _ _ | .h' _ _ _ | .cR | .sub _ _ _ _=>some [av]
  | .jl (.agg _) | .jl (.tuple _)=>none
  | .jl _=>some [av]
  | _=>none) else none
def aD.lX:aD->Option (IntKind×Int)
 | .val (.int k) x=>some (k,x)
 | _=>none
def aD.s4:aD->Option (List UInt8)
 | .val .str x=>some x
 | _=>none
def yJ(op:BinOp)(k:IntKind)(a b:Int):Option (Prop×aD):=
 match op with
 | .add=>some (True,.val (.int k) (k.wrap (a+b)))
 | .sub=>some (True,.val (.int k) (k.wrap (a - b)))
 | .mul=>some (True,.val (.int k) (k.wrap (a*b)))
 | .quo=>some (b≠0,.val (.int k) (k.wrap (a.tdiv b)))
 | .rem=>some (b≠0,.val (.int k) (a.tmod b))
 | .and=>some (True,.val (.int k) (lk k a b))
 | .or=>some (True,.val (.int k) (QI k a b))
 | .xor=>some (True,.val (.int k) (QJ k a b))
 | .andNot=>some (True,.val (.int k) (QK k a b))
 | .eql=>some (True,.val .bool (decide (a=b)))
 | .neq=>some (True,.val .bool (decide (a≠b)))
 | .lss=>some (True,.val .bool (decide (a<b)))
 | .leq=>some (True,.val .bool (decide (a<=b)))
 | .gtr=>some (True,.val .bool (decide (a > b)))
 | .geq=>some (True,.val .bool (decide (a>=b)))
 | _=>none
def JB(op:BinOp)(k:IntKind)(a b:Int):Option (Prop×aD):=
 match op with
 | .shl=>some (0<=b,.val (.int k) (ab3 k a b))
 | .shr=>some (0<=b,.val (.int k) (iV k a b))
 | _=>none
def Bx(op:BinOp)(a b:List UInt8):Option (Prop×aD):=
 match op with
 | .add=>some (b6 (a.length+b.length),.val .str (a++b))
 | .eql=>some (True,.val .bool (decide (a=b)))
 | .neq=>some (True,.val .bool (decide (a≠b)))
 | .lss=>some (True,.val .bool (Op.bytesLess a b))
 | .geq=>some (True,.val .bool (!Op.bytesLess a b))
 | _=>none
def ae.jT:ae->Nat
 | .st t=>t.jT+1
 | .ax a b=>max a.jT b.jT
 | _=>1
def yK(op:BinOp)(t:ae)(x y:aD):aq (Option (Prop×aD)):=
 (match t,x,y with
 | .bq _,.val (.bq _) p,.jl (.pointer none)=>.ret (some p.isNone)
 | .bq _,.dy _ _,.jl (.pointer none)=>.ret (some false)
 | .bq _,.loc b g _,.jl (.pointer none)=>.ev b λz=>.ret (if z.gen=g&&z.body.fm then some false else none)
 | t,x,y=>if t.kv&&decide (t.jT<=100) then (dc t x).cw λ(a,_)=>(dc t y).cw λ(b,_)=>.ret (some (gj t a b)) else .none:aq (Option Bool)).cw λe=>
 .ret (match op with
  | .eql=>some (True,.val .bool e)
  | .neq=>some (True,.val .bool (!e))
  | _=>none)
def bz(bR c:Prop)(v:aD):aq (Option dY):=.ret (some ⟨bR,c,v,[]⟩)
def ET(t:ae)(av:aD):aq (Option (Prop×Int)):=
 match t with
 | .slice _=>match av with
  | .val (.slice _) xs=>.ret (some (True,xs.length))
  | .cR=>.ret (some (True,0))
  | .own b g=>.ev b λx=>.ret (if x.gen=g&&x.body.eR then some (True,x.body.len) else none)
  | .sub b g lo G=>.ev b λx=>.ret (if x.gen=g&&x.body.eR then some (True,((G - lo:Nat):Int)) else none)
  | _=>.none
 | .str=>match av with
  | .val .str xs=>.ret (some (True,xs.length))
  | _=>.none
 | .map _ _=>match av with
  | .val (.map _ _) xs=>.ret (some (b6 xs.length,xs.length))
  | .fk b g=>.ev b λx=>.ret (if x.gen=g then (match x.body with | .mp _ _ es=>some (b6 es.length,(es.length:Int)) | .iU _ _ es=>some (b6 es.length,(es.length:Int)) | _=>none) else none)
  | _=>.none
 | _=>.none
def yL(t:ae):aD->aq (Option aD)
 | .dy cC x=>.ret (if cC=t/\(t.ea||t.isAgg)=true then some (.val cC x) else none)
 | .loc b g off=>.ev b λx=>.ret (if x.gen=g then (match x.body with
   | .cells t0 f=>if t.ea then (if off<t0.size then some (f off) else none) else if t.isAgg then (if off+t.size<=t0.size then some (.agg t.size λi=>f (off+i)) else none) else none
   | .gi t0 y=>if t.ea||t.isAgg then (rD t0 y off t).map (.val t) else none
   | _=>none) else none)
 | .nW b g i off=>.ev b λx=>.ret (if x.gen=g then (match x.body with
   | .a7 e xs=>if t.ea||t.isAgg then (rD e (xs.getD i e.cN) off t).map (.val t) else none
   | .hf e xs=>if t.ea||t.isAgg then (rD e (xs.getD i e.cN) off t).map (.val t) else none
   | _=>none) else none)
 | _=>.none
def putCells(f:Nat->aD)(off:Nat)(l:List aD):Nat->aD:=λi=>if off<=i/\i<off+l.length then l.getD (i - off) .undef else f i
def QR(t:ae)(p v:aD):aq (Option (List (Nat×bu))):=
 match p with
 | .loc b g off=>.ev b λx=>.ret (if x.gen=g then (match x.body with
   | .cells t0 f=>(cellsOf t v).bind λl=>if off+l.length<=t0.size/\l.length=t.size then some [(b,⟨x.gen,.cells t0 (putCells f off l)⟩)] else none
   | _=>none) else none)
 | .nW b g i off=>(dc t v).cw λ(y,l)=>(jr l).bind λwl=>.ev b λx=>.ret (if x.gen=g/\!l.contains b then (match x.body with
   | .a7 e xs=>(wB e (xs.getD i e.cN) off t y).map λz=>wl++[(b,⟨x.gen,.a7 e (xs.set i z)⟩)]
   | _=>none) else none)
 | _=>.none
def QS(e0:ae)(x:aD)(i:Int):aq (Option (Prop×aD)):=
 match x with
 | .val (.slice e) xs=>.ret (if e=e0 then some (0<=i/\i<(xs.length:Int),.dy e (ku e xs i)) else none)
 | .own b g=>.ev b λz=>.ret (if z.gen=g then (match z.body with
   | .a7 e xs=>if e=e0 then some (0<=i/\i<(xs.length:Int),.nW b g i.toNat 0) else none
   | .hf e xs=>if e=e0 then some (0<=i/\i<(xs.length:Int),.dy e (ku e xs i)) else none
   | _=>none) else none)
 | .sub b g lo G=>.ev b λz=>.ret (if z.gen=g then (match z.body with
   | .a7 e _=>if e=e0 then some (0<=i/\i<((G - lo:Nat):Int),.nW b g (lo+i.toNat) 0) else none
   | .hf e xs=>if e=e0 then some (0<=i/\i<((G - lo:Nat):Int),.dy e (ku e xs ((lo:Int)+i))) else none
   | _=>none) else none)
 | .cR=>.ret (some (False,.dy e0 e0.cN))
 | _=>.none
def cX:Option Int->Int | some l=>l | none=>0
def fe(n:Nat):Option Int->Int | some h=>h | none=>n
def By(lo G:Option Int)(n m:Nat):Nat:=match lo,G with | some _,some _=>m | _,_=>n
def QT(e0:ae)(x:aD)(lo G:Option Int):aq (Option (Prop×aD)):=
 match x with
 | .val (.slice e) xs=>.ret (if e=e0 then some (0<=cX lo/\cX lo<=fe xs.length G/\fe xs.length G<=(xs.length:Int),.val (.slice e) ((xs.take (fe xs.length G).toNat).drop (cX lo).toNat)) else none)
 | .cR=>.ret (some (0<=cX lo/\cX lo<=fe 0 G/\fe 0 G<=0,.cR))
 | .own b g=>.ev b λz=>.ret (if z.gen=g&&z.body.eR&&z.body.eE == e0.size then some (0<=cX lo/\cX lo<=fe z.body.len G/\fe z.body.len G<=(z.body.len:Int),.sub b g (cX lo).toNat (fe z.body.len G).toNat) else none)
 | .sub b g eS h0=>.ev b λz=>.ret (if z.gen=g&&z.body.eR&&z.body.eE == e0.size then some (0<=cX lo/\cX lo<=fe (h0 - eS) G/\fe (h0 - eS) G<=((By lo G (h0 - eS) (z.body.len - eS):Nat):Int),.sub b g (eS+(cX lo).toNat) (eS+(fe (h0 - eS) G).toNat)) else none)
 | _=>.none
def QU(x:aD)(lo G:Option Int):Option (Prop×aD):=
 match x with
 | .val .str xs=>some (0<=cX lo/\cX lo<=fe xs.length G/\fe xs.length G<=(xs.length:Int),.val .str ((xs.take (fe xs.length G).toNat).drop (cX lo).toNat))
 | _=>none
def hN(d:Option Nat)(k:Nat->Nat->Option dY):aq (Option dY):=
 match d with
 | none=>.none
 | some d=>.ev d λx=>.ret (k d (x.gen+1))
def JC(d:Option Nat)(e:ae)(x y:aD)(bR:Prop):aq (Option dY):=
 match x with
 | .own b g=>.ev b λz=>match (if z.gen=g then z.body else .fb) with
  | .a7 aS xs=>if h:aS=e then (dc (.slice e) y).cw λ(ys,_)=>.ret (some ⟨bR,b6 (xs.length+ys.length),.own b (g+1),[(b,⟨g+1,.a7 e ((h ▸ xs)++ys)⟩)]⟩) else .none
  | _=>.none
 | .sub b g lo G=>.ev b λz=>match (if z.gen=g then z.body else .fb) with
  | .a7 aS xs=>if h:aS=e then (dc (.slice e) y).cw λ(ys,_)=>.ret (some ⟨bR,b6 (((xs.take G).drop lo).length+ys.length),.own b (g+2),[(b,⟨g+2,.a7 e ((h ▸ (xs.take G).drop lo)++ys)⟩)]⟩) else .none
  | _=>.none
 | .cR=>(dc (.slice e) y).cw λ(ys,_)=>hN d λb g=>some ⟨bR,b6 ys.length,.own b g,[(b,⟨g,.a7 e ys⟩)]⟩
 | .wx aS xs=>if h:aS=e then (dc (.slice e) y).cw λ(ys,_)=>hN d λb g=>some ⟨bR,0<ys.length/\b6 (xs.length+ys.length),.own b g,[(b,⟨g,.a7 e ((h ▸ xs)++ys)⟩)]⟩ else .none
 | _=>.none
def EU(t:ae):List aD->List (Nat×aD)->Option (List aD)
 | cs,[]=>some cs
 | cs,(i,av)::r=>
  match lV t i with
  | none=>none
  | some (s,off)=>match cellsOf s av with
   | none=>none
   | some l=>if l.length=s.size/\off+s.size<=cs.length then EU t (cs.take off++(l++cs.drop (off+s.size))) r else none
def s5(e:ae)(ps:List (Nat×aD)):Nat->Nat->aq (Option (List e.ah×List Nat))
 | _,0=>.ret (some ([],[]))
 | i,n+1=>(match ps.find? (λp=>p.1 == i) with
   | some p=>dc e p.2
   | none=>.ret (some (e.cN,[])):aq (Option (e.ah×List Nat))).cw λ(x,l)=>(s5 e ps (i+1) n).cw λ(xs,m)=>.ret (some (x::xs,l++m))
def rE(ps:List (Nat×aD)):Prop:=ps.foldr (λp q=>match p.2 with | .hd b _=>b=true/\q | _=>q) True
def ig(ps:List (Nat×aD)):List (Nat×aD):=ps.map λp=>(p.1,(use p.2).2)
def js(ps:List aD):Prop:=ps.foldr (λp q=>match p with | .hd b _=>b=true/\q | _=>q) True
def kQ(aF:Operand->aD):Option Operand->Option (Prop×Option Int)
 | none=>some (True,none)
 | some x=>match use (aF x) with
  | (o,.val (.int _) n)=>some (o,some n)
  | _=>none
def EV(T:Nat->ae)(aF:Operand->aD)(ty:TypeId)(x:Operand)(lo G:Option Operand):aq (Option dY):=
 let (cd,dC):=use (aF x)
 match kQ aF lo,kQ aF G with
 | some (ol,l),some (qz,h)=>match T ty with
  | .slice e=>(QT e dC l h).cw λ(c,v)=>bz (cd/\(ol/\qz)) c v
  | .str=>match QU dC l h with
   | some (c,v)=>bz (cd/\(ol/\qz)) c v
   | none=>.none
  | _=>.none
 | _,_=>.none
def QV(e0:ae)(x:aD)(lo G:Option Int)(m:Int):aq (Option (Prop×aD)):=
 match x with
 | .val (.slice e) xs=>.ret (if e=e0 then some (0<=cX lo/\cX lo<=fe xs.length G/\fe xs.length G=m/\m<=(xs.length:Int),.wx e ((xs.take m.toNat).drop (cX lo).toNat)) else none)
 | .cR=>.ret (some (cX lo=0/\fe 0 G=0/\m=0,.wx e0 []))
 | .own b g=>.ev b λz=>.ret (if z.gen=g&&z.body.eR then some (0<=cX lo/\cX lo<=fe z.body.len G/\fe z.body.len G<=m/\m<=(z.body.len:Int),.undef) else none)
 | _=>.none
def EW(T:Nat->ae)(aF:Operand->aD)(ty:TypeId)(x:Operand)(lo G oP:Option Operand):aq (Option dY):=
 let (cd,dC):=use (aF x)
 match kQ aF lo,kQ aF G,kQ aF oP with
 | some (ol,l),some (qz,some h),some (uH,some m)=>match T ty with
  | .slice e=>(QV e dC l (some h) m).cw λ(c,v)=>bz (cd/\(ol/\(qz/\uH))) c v
  | _=>.none
 | _,_,_=>.none
def Bz(T:Nat->ae)(aF:Operand->aD)(args:List Operand)(cU:List TypeId):aq (Option dY):=
 match args,cU with
 | [x],[t]=>let (cd,dC):=use (aF x);(ET (T t) dC).cw λ(c,n)=>bz cd c (.val (.int .i64) n)
 | _,_=>.none
def BA(T:Nat->ae)(aF:Operand->aD)(d:Option Nat)(args:List Operand)(cU:List TypeId):aq (Option dY):=
 match args,cU with
 | [x,y],[t,u]=>match T t,T u with
  | .slice e,.slice _=>let (cd,dC):=use (aF x);let (nm,ke):=use (aF y);JC d e dC ke (cd/\nm)
  | _,_=>.none
 | _,_=>.none
def mo(aF:Operand->aD)(k:IntKind):List Operand->Option (Prop×z1')
 | []=>none
 | [x]=>match (use (aF x)).2.lX with
  | some (k',n)=>if k'=k then some ((use (aF x)).1,[n]) else none
  | none=>none
 | x::l=>match (use (aF x)).2.lX,mo aF k l with
  | some (k',n),some (bR,hO)=>if k'=k then some ((use (aF x)).1/\bR,n::hO) else none
  | _,_=>none
def rF(aF:Operand->aD)(f:Int->Int->Int)(args:List Operand):aq (Option dY):=
 match args with
 | x::y::l=>match (use (aF x)).2.lX with
  | some (k,a)=>match mo aF k (y::l) with
   | some (bR,hO)=>bz ((use (aF x)).1/\bR) True (.val (.int k) (hO.foldl f a))
   | none=>.none
  | none=>.none
 | _=>.none
def BB(T:Nat->ae)(aF:Operand->aD)(args:List Operand)(cU:List TypeId):aq (Option dY):=
 match args,cU with
 | [x],[t]=>match T t,use (aF x) with
  | .slice _,(cd,.cR)=>bz cd True (.val (.int .i64) 0)
  | _,_=>.none
 | _,_=>.none
def nn(t:ae):Bool:=match t with | .ax (.slice _) .cy=>true | _=>false
def BC(t:ae)(y:t.ah):Option ((e:ae)×List e.ah):=match t,y with | .ax (.slice e) .cy,y=>some ⟨e,y.1⟩ | _,_=>none
def EX(a1:Nat->Option aJ)(aF:Operand->aD)(d:Option Nat)(k:Nat)(args:List Operand):aq (Option dY):=
 let l:=args.map aF
 match a1 k with
 | some c=>(iG c.ts (l.map λv=>(use v).2)).cw λ(x,fl)=>match BC c.tr (c.g x) with
  | some y=>(jr fl).bind λwl=>hN d λb g=>if fl.contains b then none else some ⟨js l,c.pre x,.own b g,wl++[(b,⟨g,.a7 y.1 y.2⟩)]⟩
  | none=>(if c.tr.pure then .ret [] else jr fl:aq (List (Nat×bu))).bind λwl=>.ret (some ⟨js l,c.pre x,qy c.tr (c.g x),wl⟩)
 | none=>.none
def yM{k v:ae}(es:List (k.ah×v.ah))(x:k.ah):Option v.ah:=(es.find? λp=>gj k x p.1).map (·.2)
def ln{k v:ae}:List (k.ah×v.ah)->k.ah->v.ah->List (k.ah×v.ah)
 | [],x,y=>[(x,y)]
 | p::es,x,y=>if gj k x p.1=true then (p.1,y)::es else p::ln es x y
def s6(k:ae):Bool:=k.kv&&decide (k.jT<=100)
def BD(k v:ae)(m:aD):aq (Option (List (k.ah×v.ah))):=
 match m with
 | .val t es=>.ret (ew t (.map k v) es)
 | .jl (.map none)=>.ret (some [])
 | .fk b g=>.ev b λx=>.ret (if x.gen=g then (match x.body with
   | .mp k' hM es=>ew (.map k' hM) (.map k v) es
   | .iU k' hM es=>ew (.map k' hM) (.map k v) es
   | _=>none) else none)
 | _=>.none
def QW(v:ae)(r:Option v.ah)(ok:Bool):aD:=
 match ok with
 | true=>.pN 2 (gM [.val v (r.getD v.cN),.val .bool r.isSome])
 | false=>.val v (r.getD v.cN)
def yN(T:Nat->ae)(aF:Operand->aD)(ty:TypeId)(m x:Operand)(ok:Bool):aq (Option dY):=
 match T ty with
 | .map k v=>let (uH,JD):=use (aF m);let (cd,dC):=use (aF x);if s6 k&&(v.ea||v.isAgg) then
   (BD k v JD).cw λes=>(dc k dC).cw λ(y,_)=>
    bz (uH/\cd) True (QW v (yM es y) ok)
  else .none
 | _=>.none
def qA(T:Nat->ae)(aF:Operand->aD)(ty:TypeId)(m x y:Operand):aq (Option dY):=
 match T ty with
 | .map k v=>let (uH,JD):=use (aF m);let (cd,dC):=use (aF x);let (nm,ke):=use (aF y);if s6 k then
   match JD with
   | .fk b g=>(dc k dC).cw λ(x,nY)=>(dc v ke).cw λ(y,nZ)=>(jr (nY++nZ)).bind λwl=>.ev b λz=>.ret (if z.gen=g/\!(nY++nZ).contains b then (match z.body with
     | .mp k' hM es=>(ew (.map k' hM) (.map k v) es).map λes=>⟨uH/\cd/\nm,True,.undef,wl++[(b,⟨z.gen,.mp k v (ln es x y)⟩)]⟩
     | _=>none) else none)
   | _=>.none
  else .none
 | _=>.none
def EY(T:Nat->ae)(aF:Operand->aD)(d:Option Nat)(ty:TypeId)(l c:Operand):aq (Option dY):=
 match T ty with
 | .slice e=>let (ol,ab8):=use (aF l);let (oc,ab9):=use (aF c);match ab8.lX,ab9.lX with
  | some (.i64,n),some (.i64,m)=>hN d λb g=>some ⟨ol/\oc,0<=n/\n=m/\b6 n.toNat,.own b g,[(b,⟨g,.a7 e (List.replicate n.toNat e.cN)⟩)]⟩
  | _,_=>.none
 | _=>.none
def fL{aj:Type}(xs:List aj)(lo:Nat)(ys:List aj):List aj:=xs.take lo++ys++xs.drop (lo+ys.length)
def EZ(T:Nat->ae)(aF:Operand->aD)(args:List Operand)(cU:List TypeId):aq (Option dY):=
 match args,cU with
 | [x,y],[t,u]=>match T t,T u with
  | .slice e,.slice _=>let (cd,dC):=use (aF x);let (nm,ke):=use (aF y);match (match dC with | .own b g=>some (b,g,0,none) | .sub b g lo G=>some (b,g,lo,some G) | _=>none:Option (Nat×Nat×Nat×Option Nat)) with
   | some (b,g,lo,G)=>(dc (.slice e) ke).cw λ(ys,_)=>.ev b λz=>.ret (if z.gen=g then (match z.body with
     | .a7 aS xs=>if h:aS=e then some ⟨cd/\nm,True,.val (.int .i64) ((min (G.getD xs.length - lo) ys.length:Nat):Int),[(b,⟨z.gen,.a7 e (fL (h ▸ xs) lo (ys.take (G.getD xs.length - lo)))⟩)]⟩ else none
     | _=>none) else none)
   | none=>.none
  | _,_=>.none
 | _,_=>.none
def wD(aF:Operand->aD)(args:List Operand):Option (Nat×Nat×Nat×Nat):=
 match args with
 | [x,y]=>match (use (aF x)).2,(use (aF y)).2 with
  | .sub b g lo G,.sub aZ g' _ _=>if aZ=b/\g'=g then some (b,g,lo,G) else none
  | _,_=>none
 | _=>none
def BE(T:Nat->ae)(aF:Operand->aD)(args:List Operand)(cU:List TypeId)(b g lo G:Nat):aq (Option dY):=
 match args,cU with
 | [x,y],[t,u]=>match T t,T u with
  | .slice e,.slice _=>let (cd,_):=use (aF x);let (nm,ke):=use (aF y);(dc (.slice e) ke).cw λ(ys,_)=>.ev b λz=>.ret (if z.gen=g then (match z.body with
    | .a7 aS xs=>if h:aS=e then some ⟨cd/\nm,G+ys.length<=xs.length,.sub b g lo (G+ys.length),[(b,⟨z.gen,.a7 e (fL (h ▸ xs) G ys)⟩)]⟩ else none
    | _=>none) else none)
  | _,_=>.none
 | _,_=>.none
def BF(T:Nat->ae)(aF:Operand->aD)(args:List Operand)(cU:List TypeId):aq (Option dY):=
 match args,cU with
 | [x],[t]=>match T t with
  | .slice e=>let (cd,dC):=use (aF x);match dC with
   | .sub b g lo G=>.ev b λz=>.ret (if z.gen=g then (match z.body with
     | .a7 aS xs=>if h:aS=e then some ⟨cd,True,.undef,[(b,⟨z.gen,.a7 e (fL (h ▸ xs) lo (List.replicate (G - lo) e.cN))⟩)]⟩ else none
     | _=>none) else none)
   | _=>.none
  | _=>.none
 | _,_=>.none
def mq(T:Nat->ae)(a1:Nat->Option aJ)(aF:Operand->aD)(d:Option Nat)(c:Call):aq (Option dY):=
 match c.callee with
 | .builtin b=>match b with
  | .len=>Bz T aF c.args.toList c.argTypes.toList
  | .append=>match wD aF c.args.toList with
   | some (b,g,lo,G)=>BE T aF c.args.toList c.argTypes.toList b g lo G
   | none=>BA T aF d c.args.toList c.argTypes.toList
  | .clear=>BF T aF c.args.toList c.argTypes.toList
  | .copy=>EZ T aF c.args.toList c.argTypes.toList
  | .min=>rF aF (λa b=>if b<a then b else a) c.args.toList
  | .max=>rF aF (λa b=>if b > a then b else a) c.args.toList
  | .cap=>BB T aF c.args.toList c.argTypes.toList
  | _=>.none
 | .value f=>match f with
  | .func k=>EX a1 aF d k c.args.toList
  | _=>.none
 | _=>.none
def uI(ys:z1'):List UInt8:=ys.map λn=>UInt8.ofNat n.toNat
def QX(t:ae)(bR:Prop)(b g i:Nat):aq (Option dY):=
 .ev b λz=>.ret (match z.body with
  | .fN _ _ kR v=>if z.gen=g/\t.ea=true then some ⟨bR,i=kR,v,[]⟩ else none
  | _=>none)
def JE(t:ae)(bR:Prop)(b g i:Nat)(v:aD):aq (Option dY):=
 match v with
 | .own aZ g'=>.ev b λz=>.ret (match z.body with
  | .fN e xs kR _=>if z.gen=g/\t.ea=true then some ⟨bR,i=kR,.undef,[(b,⟨z.gen,.fN e xs kR (.own aZ g')⟩)]⟩ else none
  | _=>none)
 | _=>.none
def bf(U:dh)(T:Nat->ae)(a1:Nat->Option aJ)(aF:Operand->aD)(o:Oper):aq (Option dY):=
 match o.op with
 | .move x=>bz True True (aF x)
 | .assign x=>match aF x,T o.type with
  | .cR,.slice e=>hN o.dst λb g=>some ⟨True,True,.own b g,[(b,⟨g,.a7 e []⟩)]⟩
  | v,_=>bz True True v
 | .pick c a b=>match use (aF c) with
  | (oc,.val .bool iI)=>match a,b with
   | _,.const (.bool false)=>match use (aF a) with
    | (yO,.val .bool av)=>bz (oc/\(iI=true->yO)) True (.val .bool (iI&&av))
    | _=>.none
   | .const (.bool true),_=>match use (aF b) with
    | (bR,.val .bool bv)=>bz (oc/\(iI=false->bR)) True (.val .bool (iI||bv))
    | _=>.none
   | _,_=>.none
  | _=>.none
 | .binOp op ty x y _=>
  let (cd,dC):=use (aF x)
  let (nm,ke):=use (aF y)
  match dC.lX,ke.lX with
  | some (k,a),some (k',b)=>(match op with
   | .shl | .shr=>match JB op k a b with
    | some (c,v)=>bz (cd/\nm) c v
    | none=>.none
   | _=>if k=k' then (match yJ op k a b with
    | some (c,v)=>bz (cd/\nm) c v
    | none=>.none) else .none)
  | _,_=>match dC.s4,ke.s4 with
   | some a,some b=>match Bx op a b with
    | some (c,v)=>bz (cd/\nm) c v
    | none=>.none
   | _,_=>(yK op (T ty) dC ke).cw λ(c,v)=>bz (cd/\nm) c v
 | .unOp op _ x=>match op,use (aF x) with
  | .not,(cd,.val .bool b)=>bz cd True (.val .bool (!b))
  | .neg,(cd,.val (.int k) n)=>bz cd True (.val (.int k) (k.wrap (0 - n)))
  | _,_=>.none
 | .extract x i=>match use (aF x) with
  | (cd,.pN n f)=>if i<n then bz cd True (f i) else .none
  | _=>.none
 | .nilCheck x=>match use (aF x) with
  | (cd,.iE b g i)=>.ev b λz=>.ret (if z.gen=g&&z.body.eR then some ⟨cd,True,.iE b g i,[]⟩ else none)
  | (cd,.dy t d)=>bz cd True (.dy t d)
  | (cd,.val (.bq e) p)=>bz cd (p.isSome=true) (.dy e (p.getD e.cN))
  | (cd,.loc b g off)=>.ev b λz=>.ret (if z.gen=g&&z.body.fm then some ⟨cd,True,.loc b g off,[]⟩ else none)
  | _=>.none
 | .fieldAddr ty x f=>match T ty with
  | .st t=>match lV t f with
   | some (_,wF)=>match use (aF x) with
    | (cd,.loc b g off)=>.ev b λz=>.ret (if z.gen=g&&z.body.fm then some ⟨cd,True,.loc b g (off+wF),[]⟩ else none)
    | (cd,.nW b g i off)=>.ev b λz=>.ret (if z.gen=g&&z.body.eR then some ⟨cd,True,.nW b g i (off+wF),[]⟩ else none)
    | (cd,.iE b g i)=>.ev b λz=>.ret (if z.gen=g&&z.body.eR&&wF == 0 then some ⟨cd,True,.iE b g i,[]⟩ else none)
    | (cd,.dy (.st cC) d)=>if cC=t then (match uD cC d f with
     | some ⟨s',y⟩=>bz cd True (.dy s' y)
     | none=>.none) else .none
    | _=>.none
   | none=>.none
  | _=>.none
 | .field ty x f=>match T ty with
  | .st t=>match use (aF x) with
   | (cd,.val (.st cC) d)=>if cC=t then (match uD cC d f with
     | some ⟨s',y⟩=>bz cd True (.val s' y)
     | none=>.none) else .none
   | _=>.none
  | _=>.none
 | .load ty x=>match use (aF x) with
  | (cd,.iE b g i)=>QX (T ty) cd b g i
  | (cd,dC)=>(yL (T ty) dC).cw λv=>bz cd True v
 | .store ty x y=>let (nm,ke):=use (aF y);match use (aF x) with
  | (cd,.iE b g i)=>JE (T ty) (cd/\nm) b g i ke
  | (cd,dC)=>(QR (T ty) dC ke).cw λwl=>.ret (some ⟨cd/\nm,True,.undef,wl⟩)
 | .alloc ty=>hN o.dst λb g=>if T ty=.cy then none else some ⟨True,True,.loc b g 0,[(b,⟨g,.cells (T ty) (gM (rC (T ty)))⟩)]⟩
 | .box ty x=>let (cd,dC):=use (aF x);match cellsOf (T ty) dC with
  | some l=>hN o.dst λb g=>if l.length=(T ty).size then some ⟨cd,True,.loc b g 0,[(b,⟨g,.cells (T ty) (gM l)⟩)]⟩ else none
  | none=>.none
 | .build ty ps=>let l:=ps.toList.map λp=>(p.1,aF p.2);match T ty with
  | .st t=>match EU t (rC t) (ig l) with
   | some cs=>bz (rE l) True (.agg cs.length (gM cs))
   | none=>.none
  | .array m e=>(s5 e (ig l) 0 m).cw λ(xs,fl)=>if (fl.isEmpty&&decide ((ig l).map (·.1)).Nodup&&(ig l).all (λp=>decide (p.1<m)))=true then bz (rE l) True (.val (.array m e) xs) else .none
  | _=>.none
 | .buildSlice ty n ps=>let l:=ps.toList.map λp=>(p.1,aF p.2);match T ty with
  | .slice e=>(s5 e (ig l) 0 n).cw λ(xs,fl)=>(jr fl).bind λwl=>hN o.dst λb g=>if n*e.size<=65536/\(!fl.contains b&&decide ((ig l).map (·.1)).Nodup&&(ig l).all (λp=>decide (p.1<n)))=true then some ⟨rE l,True,.own b g,wl++[(b,⟨g,.a7 e xs⟩)]⟩ else none
  | _=>.none
 | .indexAddr ty x i=>let (cd,dC):=use (aF x);let (wG,vi):=use (aF i);match T ty,vi.lX with
  | .slice e,some (_,n)=>(QS e dC n).cw λ(c,v)=>bz (cd/\wG) c v
  | .array m e,some (_,n)=>match dC with
   | .dy (.array c8 aS) xs=>if c8=m/\aS=e then bz (cd/\wG) (0<=n/\n<(m:Int)) (.dy aS (ku aS xs n)) else .none
   | .loc b g off=>.ev b λz=>.ret (if z.gen=g&&z.body.fm then some ⟨cd/\wG,0<=n/\n<(m:Int),.loc b g (off+n.toNat*e.size),[]⟩ else none)
   | _=>.none
  | _,_=>.none
 | .index ty x i=>let (cd,dC):=use (aF x);let (wG,vi):=use (aF i);match T ty,dC.s4,vi.lX with
  | .str,some s,some (_,n)=>bz (cd/\wG) (0<=n/\n<(s.length:Int)) (.val (.int .u8) ((s.getD n.toNat 0).toNat:Int))
  | .array m e,_,some (_,n)=>match dC with
   | .val (.array c8 aS) xs=>if c8=m/\aS=e then bz (cd/\wG) (0<=n/\n<(m:Int)) (.val aS (ku aS xs n)) else .none
   | .agg k f=>if k=m*e.size then bz (cd/\wG) (0<=n/\n<(m:Int)) (if e.isAgg=true then .agg e.size (λq=>f (n.toNat*e.size+q)) else f (n.toNat*e.size)) else .none
   | _=>.none
  | _,_,_=>.none
 | .convert a b x=>let (cd,dC):=use (aF x);match T a,T b,dC.lX with
  | .int _,.int k,some (_,n)=>bz cd True (.val (.int k) (k.wrap n))
  | .slice (.int .u8),.str,_=>(dc (.slice (.int .u8)) dC).cw λ(ys,_)=>bz cd True (.val .str (uI ys))
  | _,_,_=>.none
 | .makeFunc fn first cF=>match fn with
  | .func k=>let l:=cF.toList.map aF;if first.isEmpty then (match U.sY k with
   | some v=>(iG (fM (v.cs.map .bq)) (l.map λv=>(use v).2)).cw λ(y,fl)=>(jr fl).bind λwl=>.ret (some ⟨js l,True,.val (.fn (fM v.as) v.tr) (λx=>v.sh (EN v.as (v.cs.map .bq) x y)),wl⟩)
   | none=>match U.wv k with
    | some v=>(iG (fM (v.cs.map .bq)) (l.map λv=>(use v).2)).cw λ(y,fl)=>(jr fl).bind λwl=>.ret (some ⟨js l,True,.val (.b5 v.aI) (v.S y),wl⟩)
    | none=>bz (js l) True (.h' k l.length (gM (l.map λv=>(use v).2)))) else (if cF.isEmpty then bz (js (first.toList.map aF)) True (.rB k first.size (gM ((first.toList.map aF).map λv=>(use v).2))) else .none)
  | _=>.none
 | .makeMap ty r=>if r.isSome then .none else match T ty with
  | .map k v=>hN o.dst λb g=>some ⟨True,True,.fk b g,[(b,⟨g,.mp k v []⟩)]⟩
  | _=>.none
 | .lookup ty m x ok=>yN T aF ty m x ok
 | .mapUpdate ty m x y=>qA T aF ty m x y
 | .insert ty m x y=>qA T aF ty m x y
 | .makeSlice ty l c=>EY T aF o.dst ty l c
 | .makeInterface _ _=>bz True False .undef
 | .panic _=>bz True False .undef
 | .slice ty x lo G oP=>if oP.isSome then EW T aF ty x lo G oP else EV T aF ty x lo G
 | .call c=>mq T a1 aF o.dst c
 | _=>.none
def dv(r:Option Nat):Fence:={ Fence.wide with round:=r }
section
variable {P:Program} {w:World}
theorem df{t:TypeId}{d:TypeDesc}(h:P.underlying t=some d):(underlying t).run P w=.ok d w:=by simp[underlying,h]
theorem E0{t:TypeId}{i:TypeInfo}(h:P.info? t=some i):(typeInfo t).run P w=.ok i w:=by simp[typeInfo,h]
theorem rG{t:TypeId}{i:TypeInfo}(h:P.info? t=some i):(sizeOf t).run P w=.ok i.size w:=by simp[sizeOf,E0 h]
theorem qB{t:TypeId}{i:TypeInfo}{z:Value}(h:P.info? t=some i)(a_:i.zero=some z):(zeroValue t).run P w=.ok z w:=by simp[zeroValue,E0 h,a_]
theorem bP.size{t:ae}{id:TypeId}(h:bP P t id):(sizeOf id).run P w=.ok t.size w:=by
 obtain⟨i,z,h1,h2,_⟩:=kc h.ka;rw[rG h1,h2]
theorem bP.st{t:ae}{id:TypeId}(h:bP P (.st t) id):∃ ez,P.underlying id=some (.struct ez):=by
 unfold bP at h;simp only[ch,Bool.and_eq_true]at h;grind
theorem bP.sl{e:ae}{id:TypeId}(h:bP P (.slice e) id):∃ i,P.underlying id=some (.slice i)/\bP P e i/\e.size≠0:=by
 unfold bP at h;simp only[ch,Bool.and_eq_true]at h;obtain⟨_,h⟩:=h;split at h
 ·rename_i i G;simp only[Bool.and_eq_true,bne_iff_ne,ne_eq]at h;exact⟨i,G,h.1,h.2⟩
 grind
theorem ab_:∀ (t:ae) {l:List Field} {E1 f off:Nat} {s:ae},ch P t (.inr (l,E1))=true->lV t f=some (s,off)->
  ∃ np,l[f]?=some np/\np.offset=E1+off/\bP P s np.type/\s.size≠0:=by
 intro t;induction t with
 | ax a b fa ei=>
  intro l E1 f off s h ar;match l,h with
  | [],h=>simp only[ch,Bool.false_eq_true]at h
  | [x],h=>simp only[ch,Bool.false_eq_true]at h
  | [x,y],h=>
   simp only[ch,Bool.and_eq_true,beq_iff_eq,bne_iff_ne,ne_eq]at h;obtain⟨⟨⟨⟨h1,h2⟩,h3⟩,_⟩,⟨⟨aR,bw⟩,cY⟩,_⟩:=h;cases f with
   | zero=>simp only[lV,Option.some.injEq,Prod.mk.injEq]at ar;obtain⟨rfl,rfl⟩:=ar;exact⟨x,rfl,h1,h2,h3⟩
   | succ f=>
    simp only[lV,Option.map_eq_some_iff,Prod.mk.injEq]at ar;obtain⟨⟨s',hz⟩,ar,rfl,rfl⟩:=ar;have ab:∃ u,lV b f=some u/\f=0/\u=(b,0):=by
     cases b<;>cases f<;>simp only[lV,reduceCtorEq]at ar<;>first
      | exact⟨_,ar,rfl,by cases ar;rfl⟩
      | (simp only[ch,Bool.false_eq_true]at bw)
    obtain⟨u,hu,rfl,rfl⟩:=ab;rw[hu]at ar;cases ar;exact⟨y,rfl,by omega,bw,cY⟩
  | x::y::z::l,h=>
   simp only[ch,Bool.and_eq_true,beq_iff_eq,bne_iff_ne,ne_eq]at h;obtain⟨⟨⟨⟨h1,h2⟩,h3⟩,_⟩,aR⟩:=h;cases f with
   | zero=>simp only[lV,Option.some.injEq,Prod.mk.injEq]at ar;obtain⟨rfl,rfl⟩:=ar;exact⟨x,rfl,h1,h2,h3⟩
   | succ f=>
    simp only[lV,Option.map_eq_some_iff,Prod.mk.injEq]at ar;grind
 | _=>intro l E1 f off s h _;simp only[ch,Bool.false_eq_true]at h
theorem bP.field{t s:ae}{id f off:Nat}(h:bP P (.st t) id)(ar:lV t f=some (s,off)) :
  ∃ ez np,P.underlying id=some (.struct ez)/\ez[f]?=some np/\np.offset=off/\bP P s np.type/\s.size≠0:=by
 unfold bP at h;simp only[ch,Bool.and_eq_true]at h;obtain⟨_,h⟩:=h;split at h
 ·rename_i ez iW;refine⟨ez,?_⟩;have eA:∀ {np},ez.toList[f]?=some np->ez[f]?=some np:=λh=>by grind
  split at h
  ·rename_i ai;rw[of_decide_eq_true h]at ar;cases f<;>cases ar
  ·rename_i x ai;simp only[Bool.and_eq_true,beq_iff_eq,bne_iff_ne,ne_eq]at h;have ab:f=0/\(s,off)=(t,0):=by
    cases t<;>cases f<;>simp only[lV,reduceCtorEq]at ar<;>first
     | exact⟨rfl,by cases ar;rfl⟩
     | (have:=h.1.1.2;simp only[ch,Bool.false_eq_true]at this)
   obtain⟨rfl,ab⟩:=ab;cases ab;exact⟨x,iW,eA (by grind),h.1.1.1,h.1.1.2,h.1.2⟩
  ·obtain⟨np,aO,aP,bA⟩:=ab_ t h ar;grind
 grind
def kf(w:World)(p:Addr)(cs:List Value):Prop:=(0<cs.length->p.spot=none)/\∀ j (h:j<cs.length),w.cell? ⟨p.block,p.off+j,none⟩=some cs[j]
theorem Holds.JF{F:Nat->Prop}{p:Addr}{cs:List Value}(h:Holds F w p cs):kf w p cs:=⟨λ_=>h.2.1,h.2.2⟩
theorem E2{p:Addr}{cs:List Value}(h:kf w p cs):(loadCells p cs.length).run P w=.ok cs.toArray w:=by
 obtain⟨hs,hc⟩:=h;refine run_loadCells_list w p cs λj v aC=>?_;obtain⟨fz,rfl⟩:=List.getElem?_eq_some_iff.1 aC;have hp:p=⟨p.block,p.off,none⟩:=by have:=hs (by omega);cases p;simp_all
 have:=hc j fz;have yP:p.add j=⟨p.block,p.off+j,none⟩:=by
  unfold Addr.add;grind
 grind
theorem yQ{t:ae}{id:TypeId}(h:bP P t id):(isAgg id).run P w=.ok t.isAgg w:=by
 unfold bP at h;unfold isAgg;cases t<;>simp only[ch,Bool.and_eq_true,Bool.false_eq_true]at h<;>(obtain⟨_,h⟩:=h;split at h)<;>
  first
   | (rename_i hu;simp[df hu,ae.isAgg];done)
   | (cases h;done)
   | (rename_i hu;simp[df hu,ae.isAgg])
theorem JG{F:Nat->Prop}{p:Addr}{cs:List Value}{t:ae}{id:TypeId}{x:t.ah}(h:bP P t id)(cz:kf w p cs)(hx:bt P t F w cs x) :
  ∃ v,(loadVar id p).run P w=.ok v w/\dP P t F w v x:=by
 have hlen:=ht t hx;by_cases aU:t.isAgg=true
 ·refine⟨.agg cs.toArray,?_,?_,by simpa [Value.cells]using hx⟩
  ·have:=E2 (P:=P) cz;rw[hlen]at this;simp[loadVar,yQ h,aU,h.size,this]
  ·cases t<;>simp only[ae.isAgg,Bool.false_eq_true]at aU
   ·exact⟨cs.toArray,rfl,by simpa [ae.size]using hlen⟩
   ·exact⟨cs.toArray,rfl,by simpa [ae.size]using hlen⟩
 ·have ai:t.ea=true:=by
   cases t<;>simp only[ae.isAgg,not_true]at aU<;>first | rfl | (unfold bP at h;simp only[ch,Bool.false_eq_true]at h)
  obtain⟨u,rfl,hu⟩:=Bp ai hx;refine⟨u,?_,(dx ai).2 ⟨hu,hx⟩⟩;have hc:=cz.2 0 (by simp);have hp:p=⟨p.block,p.off+0,none⟩:=by have:=cz.1 (by simp);cases p;simp_all
  rw[<-hp]at hc;simp[loadVar,yQ h,aU,hc]
end
section
variable {r:Option Nat} {P:Program} {o:Oper} {a:Act} {w w':World} {K:Act->World->Prop} {Q:Exit->Act->World->Prop}
theorem yR(au:∀ c,o.op≠.defer c):o.semAt (dv r).round a.eval=execOp a.eval o:=Oper.semAt_eq _ _ _ au
theorem gY{v:Value}(au:∀ c,o.op≠.defer c)(h:(execOp a.eval o).run P w=.ok (.value v) w')(ao:K (a.put o.dst v) w'):o.wpIn (dv r) 0 P a w K Q:=by
 refine⟨λ_ _=>trivial,?_⟩;rw[yR au,h];exact ao
theorem E3(au:∀ c,o.op≠.defer c)(h:(execOp a.eval o).run P w=.ok .skip w')(ao:K (a.put o.dst Go.undef) w'):o.wpIn (dv r) 0 P a w K Q:=by
 refine⟨λ_ _=>trivial,?_⟩;rw[yR au,h];exact ao
end
def ay.fH(s:ay):List (Nat×bu)->ay
 | []=>s
 | p::l=>(s.b' p.1 p.2).fH l
def ay.hP(s:ay)(d:Option Nat)(res:dY):ay:=(s.fH res.hg).set d res.eJ
def cm(C:bQ)(o:Oper)(s:ay)(res:dY):Prop:=
 ∀ a w κ F Q,ba C s a w κ F->res.bR->res.c->o.wpIn (dv C.r) 0 C.P a w (λa' w'=>b9 C (s.hP o.dst res) a' w') Q
theorem cm.pure{C:bQ}{o:Oper}{s:ay}{bR c:Prop}{eJ:aD}(au:∀ c,o.op≠.defer c)(a6:∀ i,o.dst=some i->i<C.nt)
  (h:∀ a w κ F,ba C s a w κ F->bR->c->∃ v,(execOp a.eval o).run C.P w=.ok (.value v) w/\bk C.P s.ad κ F w eJ v):cm C o s ⟨bR,c,eJ,[]⟩:=by
 intro a w κ F Q V aY hc;obtain⟨v,h1,h2⟩:=h a w κ F V aY hc;exact gY au h1 ⟨κ,F,V.set a6 h2⟩
section
variable {P:Program} {H:Nat->bu} {κ:Nat->bm} {F:Nat->Prop} {w:World}
theorem oQ{av:aD}{v:Value}(h:bk P H κ F w av v)(hu:(use av).1):bk P H κ F w (use av).2 v:=by
 cases av<;>first | exact h | exact h.1 hu
theorem ab'(v:Value):bk P H κ F w (wC v) v:=by
 unfold wC;split
 ·exact eQ.2 rfl
 ·split
  ·rename_i h;exact gy.2 ⟨rfl,h⟩
  ·rfl
 ·split
  ·rename_i s h;refine lS.2 ⟨by simp,?_⟩;have:s.data.toList.length=s.size:=by rfl
   omega
  ·rfl
 ·rfl
 ·rfl
theorem jU{C:bQ}{s:ay}{a:Act}{w:World}{κ:Nat->bm}{F:Nat->Prop}(h:ba C s a w κ F)(x:Operand):bk C.P s.ad κ F w (aT C.aL s.aw x) (a.eval x):=by
 cases x with
 | tmp t=>exact h.bE t
 | const v=>exact ab' v
 | func f=>
  show bk _ _ _ _ _ (match C.aL.sX f with | some v=>.val (.fn v.ts v.tr) v.sh | none=>.h' f 0 λ_=>.undef) (.func (.func f) #[] #[]);split
  ·rename_i v hv;exact (dx rfl).2 ⟨rfl,abW (h.jo.sX f v hv) F w⟩
  ·exact⟨[],rfl,rfl,λi G=>by omega⟩
 | global g=>trivial
theorem n0{av:aD}{v:Value}{k:IntKind}{n:Int}(h:bk P H κ F w av v)(G:av.lX=some (k,n)):v=.int k n/\fy k n:=by
 unfold aD.lX at G;split at G
 ·cases G;exact gy.1 h
 grind
theorem JH{av:aD}{v:Value}{s:List UInt8}(h:bk P H κ F w av v)(G:av.s4=some s):v=.string ⟨s.toArray⟩/\s.length<2 ^ 63:=by
 unfold aD.s4 at G;split at G
 ·cases G;exact lS.1 h
 grind
end
theorem pS(k:IntKind)(n:Int):fy k (k.wrap n):=by
 unfold fy IntKind.wrap;have h1:=Int.emod_nonneg n (b:=2 ^ k.bits) (by cases k<;>decide);have h2:=Int.emod_lt_of_pos n (b:=2 ^ k.bits) (by omega);cases k<;>simp only[IntKind.min,IntKind.max,IntKind.signed,IntKind.bits,Bool.true_and,Bool.false_and,Bool.false_eq_true,if_true,if_false,Nat.reduceSub,Int.reducePow]at h1 h2 ⊢<;>first
  | (constructor<;>split<;>first | (rename_i hc;have hc:=of_decide_eq_true hc;omega) | (rename_i hc;have hc:=mt decide_eq_true hc;omega))
  | omega
theorem aca{k:IntKind}{a b:Int}(aU:fy k a):fy k (a.tmod b):=by
 unfold fy at *
 have h1:k.min<=0/\0<=k.max:=by cases k<;>decide
 have h2:=Int.natAbs_tmod a b;have h3:=Nat.mod_le a.natAbs b.natAbs;rcases Int.le_total 0 a with h | h
 ·have:=Int.tmod_nonneg b h;omega
 ·have aR:(-a).tmod b=- (a.tmod b):=Int.neg_tmod a b;have:=Int.tmod_nonneg b (a:=-a) (by omega);omega
end Go.Fer
namespace Go.Fer
open Go.RowKit
theorem QY{P:Program}{w:World}{t:ae}{id:TypeId}(h:bP P t id)(ai:t.isAgg=false){cs:Array Value}{off:Nat}{v:Value}(hv:cs[off]?=some v) :
  (part id cs off).run P w=.ok v w:=by
 simp[part,yQ h,ai,hv]
theorem QZ{P:Program}{w:World}{t:ae}{id:TypeId}(h:bP P t id)(ai:t.isAgg=true){cs:Array Value}{off:Nat} :
  (part id cs off).run P w=.ok (.agg (cs.extract off (off+t.size))) w:=by
 simp[part,yQ h,ai,h.size]
theorem qC{P:Program}{F:Nat->Prop}{w:World}{t:ae}{id:TypeId}(h:bP P t id){p c q:List Value}{cs:Array Value}{x:t.ah}(oR:cs.toList=p++(c++q))(hc:bt P t F w c x) :
  ∃ v,(part id cs p.length).run P w=.ok v w/\dP P t F w v x:=by
 have hlen:=ht t hc;by_cases aU:t.isAgg=true
 ·refine⟨_,QZ h aU,?_⟩;have he:(cs.extract p.length (p.length+t.size)).toList=c:=by
   simp_all
  have hv:(Value.agg (cs.extract p.length (p.length+t.size))).cells.toList=c:=he;refine⟨?_,by grind⟩;have bU:(cs.extract p.length (p.length+t.size)).size=t.size:=by grind
  cases t<;>simp only[ae.isAgg,Bool.false_eq_true]at aU
  ·exact⟨_,rfl,by simpa [ae.size]using bU⟩
  ·exact⟨_,rfl,by simpa [ae.size]using bU⟩
 ·have ai:t.ea=true:=by
   cases t<;>simp only[ae.isAgg,not_true]at aU<;>first | rfl | (unfold bP at h;simp only[ch,Bool.false_eq_true]at h)
  obtain⟨u,rfl,hu⟩:=Bp ai hc;refine⟨u,QY h (by grind) ?_,(dx ai).2 ⟨hu,hc⟩⟩;rw[<-Array.getElem?_toList,oR];simp
theorem bP.BG{P:Program}{t:ae}{id:TypeId}(h:bP P (.st t) id):P.stoodInHeld id=false/\P.eqGuardType P.depth id=false/\
  (ch P t (.inr ((P.fieldsOf id).toList, 0)) = true \/ (∃ f, (P.fieldsOf id).toList = [f] /\ f.offset = 0 /\ bP P t f.type /\ f.name ≠ "_") \/ (t = .cy /\ (P.fieldsOf id).toList = [])) /\ P.underlying id = some (.struct (P.fieldsOf id)) := by
 unfold bP at h;simp only[ch,Bool.and_eq_true,Bool.not_eq_true']at h;obtain⟨⟨⟨_,h1⟩,h2⟩,h⟩:=h;split at h
 ·rename_i ez iW;have ar:P.fieldsOf id=ez:=by simp[Program.fieldsOf,iW]
  rw[ar];refine⟨h1,h2,?_,iW⟩;split at h
  ·grind
  ·rename_i x ai;simp only[Bool.and_eq_true,beq_iff_eq,bne_iff_ne,ne_eq]at h;exact .inr (.inl ⟨x,ai,h.1.1.1,h.1.1.2,h.2⟩)
  grind
 grind
theorem JI{P:Program}{F:Nat->Prop}{w:World}:∀ (t:ae) (d:Nat),t.kv=true->t.jT<=d->
  (∀ {id:TypeId} {v u:Value} {x y:t.ah},bP P t id->dP P t F w v x->dP P t F w u y->(Op.equalIn d id v u).run P w=.ok (gj t x y) w)/\
  (∀ {l:List Field} {off:Nat} {xs ys:Array Value} {p c q p' c' q':List Value} {x y:t.ah},ch P t (.inr (l,off))=true->xs.toList=p++(c++q)->p.length=off->bt P t F w c x->
   ys.toList=p'++(c'++q')->p'.length=off->bt P t F w c' y->(Op.eqFields d xs ys l).run P w=.ok (gj t x y) w):=by
 intro t;induction t with
 | bool=>
  intro d _ au;refine⟨λ{id v u x y} h h1 h2=>?_,λh=>by simp[ch]at h⟩;rw[eQ.1 h1,eQ.1 h2];obtain⟨d,rfl⟩:∃ e,d=e+1:=⟨d - 1,by simp only[ae.jT]at au;omega⟩
  unfold bP at h;simp only[ch,Bool.and_eq_true]at h;obtain⟨_,h⟩:=h;split at h
  ·rename_i hu;rw[run_equalIn_bool' w d id x y hu];rfl
  grind
 | int k=>
  intro d _ au;refine⟨λ{id v u x y} h h1 h2=>?_,λh=>by simp[ch]at h⟩;rw[(gy.1 h1).1,(gy.1 h2).1];obtain⟨d,rfl⟩:∃ e,d=e+1:=⟨d - 1,by simp only[ae.jT]at au;omega⟩
  unfold bP at h;simp only[ch,Bool.and_eq_true]at h;obtain⟨_,h⟩:=h;split at h
  ·rename_i hu;rw[run_equalIn_int w d id k _ x y hu];rfl
  grind
 | str=>
  intro d _ au;refine⟨λ{id v u x y} h h1 h2=>?_,λh=>by simp[ch]at h⟩;rw[(lS.1 h1).1,(lS.1 h2).1];obtain⟨d,rfl⟩:∃ e,d=e+1:=⟨d - 1,by simp only[ae.jT]at au;omega⟩
  unfold bP at h;simp only[ch,Bool.and_eq_true]at h;obtain⟨_,h⟩:=h;split at h
  ·rename_i hu;rw[run_equalIn_string w d id _ _ hu,ByteArray.toList_eq,ByteArray.toList_eq];simp only[gj];grind
  grind
 | cy=>intro d h;cases h
 | slice e _=>intro d h;cases h
 | array n e _=>intro d h;cases h
 | bq e _=>intro d h;cases h
 | map k v _ _=>intro d h;cases h
 | fn a b _ _=>intro d h;cases h
 | b5 a _=>intro d h;cases h
 | dO=>intro d h;cases h
 | ax a b fa ei=>
  intro d hc au;simp only[ae.kv,Bool.and_eq_true]at hc;simp only[ae.jT]at au;have ia:=fa d hc.1 (by omega);have oL:=ei d hc.2 (by omega);refine⟨λh=>by unfold bP at h;simp[ch]at h,?_⟩;intro l off xs ys p c q p' c' q' x y h hx hp oS aM BH yS;simp only[bt]at oS yS;obtain⟨c1,c2,rfl,aO,aP⟩:=oS;obtain⟨d1,d2,rfl,m1,m2⟩:=yS;have eO:=ht a aO;have pL:=ht a m1;have step : ∀ (f : Field) (bY : List Field), f.offset = off -> bP P a f.type -> f.name ≠ "_" ->
    (Op.eqFields d xs ys (f::bY)).run P w=if gj a x.1 y.1=true then (Op.eqFields d xs ys bY).run P w else .ok false w:=by
   intro f bY ag ar aA;obtain⟨v,bX,cn⟩:=qC (cs:=xs) (p:=p) (c:=c1) (q:=c2++q) ar (by grind) aO;obtain⟨u,ed,dr⟩:=qC (cs:=ys) (p:=p') (c:=d1) (q:=d2++q') ar (by grind) m1;simp only[Op.eqFields,aA,ne_eq,not_false_eq_true,if_true,Sem.run_bind];rw[ag,<-hp,bX,Result.andThen_ok,hp,<-BH,ed,Result.andThen_ok,ia.1 ar cn dr];cases gj a x.1 y.1<;>simp
  match l,h with
  | [],h=>simp only[ch,Bool.false_eq_true]at h
  | [f],h=>simp only[ch,Bool.false_eq_true]at h
  | [f,g],h=>
   simp only[ch,Bool.and_eq_true,beq_iff_eq,bne_iff_ne,ne_eq]at h;obtain⟨⟨⟨⟨h1,h2⟩,h3⟩,aR⟩,⟨⟨⟨bw,cY⟩,fK⟩,iS⟩⟩:=h;rw[step f [g] h1 h2 aR];obtain⟨v,bX,cn⟩:=qC (cs:=xs) (p:=p++c1) (c:=c2) (q:=q) cY (by grind) aP;obtain⟨u,ed,dr⟩:=qC (cs:=ys) (p:=p'++d1) (c:=d2) (q:=q') cY (by grind) m2;have e1:(p++c1).length=g.offset:=by grind
   have e2:(p'++d1).length=g.offset:=by grind
   rw[e1]at bX;rw[e2]at ed;simp only[Op.eqFields,iS,ne_eq,not_false_eq_true,if_true,Sem.run_bind,bX,ed,Result.andThen_ok,oL.1 cY cn dr,gj];cases gj a x.1 y.1<;>cases gj b x.2 y.2<;>simp
  | f::g::i::l,h=>
   simp only[ch,Bool.and_eq_true,beq_iff_eq,bne_iff_ne,ne_eq]at h;obtain⟨⟨⟨⟨h1,h2⟩,h3⟩,aR⟩,bw⟩:=h;rw[step f _ h1 h2 aR,oL.2 bw (p:=p++c1) (c:=c2) (q:=q) (p':=p'++d1) (c':=d2) (q':=q') (by grind) (by grind) aP (by grind) (by grind) m2];simp only[gj];cases gj a x.1 y.1<;>simp
 | st t aG=>
  intro d hc au;simp only[ae.jT]at au;obtain⟨d,rfl⟩:∃ e,d=e+1:=⟨d - 1,by omega⟩
  refine⟨λ{id v u x y} h h1 h2=>?_,λh=>by simp[ch]at h⟩;have i:=aG d hc (by omega);obtain⟨e1,e2,e3,e4⟩:=h.BG;obtain⟨⟨xs,rfl,hA⟩,oS⟩:=h1;obtain⟨⟨ys,rfl,jV⟩,yS⟩:=h2;simp only[Value.cells,bt]at oS yS;rw[run_equalIn_struct w d id xs ys e4 e1];rcases e3 with e3 | ⟨f,e3,dB,kO,s7⟩ | ⟨rfl,e3⟩
  ·exact i.2 e3 (p:=[]) (c:=xs.toList) (q:=[]) (p':=[]) (c':=ys.toList) (q':=[]) (by simp) rfl oS (by simp) rfl yS
  ·rw[e3];obtain⟨v,bX,cn⟩:=qC (cs:=xs) (p:=[]) (c:=xs.toList) (q:=[]) kO (by simp) oS;obtain⟨u,ed,dr⟩:=qC (cs:=ys) (p:=[]) (c:=ys.toList) (q:=[]) kO (by simp) yS;simp only[List.length_nil]at bX ed;simp only[Op.eqFields,s7,ne_eq,not_false_eq_true,if_true,Sem.run_bind,dB,bX,ed,Result.andThen_ok,i.1 kO cn dr,gj];cases gj t x y<;>simp
  ·cases hc
theorem acb{k:IntKind}{a b:Int}(aU:fy k a):fy k (iV k a b):=by
 unfold fy at *
 unfold iV;have h1:k.min<=0/\0<=k.max:=by cases k<;>decide
 generalize min b.toNat k.bits=n;have hp:(0:Int)<2 ^ n:=Int.pow_pos (by decide);rw[Int.fdiv_eq_ediv_of_nonneg _ (Int.le_of_lt hp)];rcases Int.le_total 0 a with h | h
 ·have h2:=Int.ediv_nonneg h (Int.le_of_lt hp);have h3:=Int.ediv_le_self (2 ^ n) h;omega
 ·have h2:a / 2 ^ n<=0:=by
   have:=Int.ediv_le_ediv hp h;simp_all
  have h3:a<=a / 2 ^ n:=by
   rw[Int.le_ediv_iff_mul_le hp];have aR:(1:Int)<=2 ^ n:=by omega
   have:=Int.mul_le_mul_of_nonpos_left (a:=a) h aR;omega
  omega
theorem Q0{P:Program}{w:World}(op:BinOp)(t:TypeId)(x y:Operand)(k k':IntKind)(a b:Int):(eqGuard op t x y (.int k a) (.int k' b)).run P w=.ok () w:=by
 cases op<;>simp[eqGuard]
theorem acd{P:Program}{w:World}(op:BinOp)(t:TypeId)(x y:Operand)(a b:ByteArray):(eqGuard op t x y (.string a) (.string b)).run P w=.ok () w:=by
 cases op<;>simp[eqGuard]
theorem ace{P:Program}{w:World}(op:BinOp)(t:TypeId)(x y:Operand)(a b:Bool):(eqGuard op t x y (.bool a) (.bool b)).run P w=.ok () w:=by
 cases op<;>simp[eqGuard]
theorem acf{P:Program}{w:World}(op:BinOp)(t:TypeId)(x y:Operand)(a b:Option Addr):(eqGuard op t x y (.pointer a) (.pointer b)).run P w=.ok () w:=by
 cases op<;>simp[eqGuard]
section
variable {P:Program} {H:Nat->bu} {κ:Nat->bm} {F:Nat->Prop} {w:World}
theorem acg{op:BinOp}{k:IntKind}{a b:Int}{t:TypeId}{c:Prop}{v:aD}(h:yJ op k a b=some (c,v))(hc:c)(aU:fy k a) :
  ∃ u,(binOp op t (.int k a) (.int k b)).run P w=.ok u w/\bk P H κ F w v u:=by
 cases op<;>simp only[yJ,Option.some.injEq,Prod.mk.injEq,reduceCtorEq]at h<;>obtain⟨rfl,rfl⟩:=h<;>simp only[bk];case add=>exact⟨_,by simp[binOp,Op.intArith],gy.2 ⟨rfl,pS _ _⟩⟩
 case sub=>exact⟨_,by simp[binOp,Op.intArith],gy.2 ⟨rfl,pS _ _⟩⟩
 case mul=>exact⟨_,by simp[binOp,Op.intArith],gy.2 ⟨rfl,pS _ _⟩⟩
 case quo=>exact⟨_,by simp[binOp,Op.intDiv,hc],gy.2 ⟨rfl,pS _ _⟩⟩
 case rem=>exact⟨_,by simp[binOp,Op.intDiv,hc],gy.2 ⟨rfl,aca aU⟩⟩
 case and=>exact⟨.int k (lk k a b),by simp only[binOp,ne_eq,not_true_eq_false,if_false,Op.intBits];rfl,gy.2 ⟨rfl,pS _ _⟩⟩
 case or=>exact⟨.int k (QI k a b),by simp only[binOp,ne_eq,not_true_eq_false,if_false,Op.intBits];rfl,gy.2 ⟨rfl,pS _ _⟩⟩
 case xor=>exact⟨.int k (QJ k a b),by simp only[binOp,ne_eq,not_true_eq_false,if_false,Op.intBits];rfl,gy.2 ⟨rfl,pS _ _⟩⟩
 case andNot=>exact⟨.int k (QK k a b),by simp only[binOp,ne_eq,not_true_eq_false,if_false,Op.intBits];rfl,gy.2 ⟨rfl,pS _ _⟩⟩
 case eql=>exact⟨.bool (a == b),by simp[binOp,Op.intCmp],eQ.2 (congrArg Value.bool (by rfl))⟩
 case neq=>exact⟨.bool (a != b),by simp[binOp,Op.intCmp],eQ.2 (congrArg Value.bool (by grind))⟩
 case lss=>exact⟨_,by simp[binOp,Op.intCmp],eQ.2 rfl⟩
 case leq=>exact⟨_,by simp[binOp,Op.intCmp],eQ.2 rfl⟩
 case gtr=>exact⟨_,by simp[binOp,Op.intCmp],eQ.2 rfl⟩
 case geq=>exact⟨_,by simp[binOp,Op.intCmp],eQ.2 rfl⟩
theorem Q1{op:BinOp}{k k':IntKind}{a b:Int}{t:TypeId}{c:Prop}{v:aD}(h:JB op k a b=some (c,v))(hc:c)(aU:fy k a) :
  ∃ u,(binOp op t (.int k a) (.int k' b)).run P w=.ok u w/\bk P H κ F w v u:=by
 cases op<;>simp only[JB,Option.some.injEq,Prod.mk.injEq,reduceCtorEq]at h<;>obtain⟨rfl,rfl⟩:=h<;>simp only[bk];case shl=>exact⟨_,by simp[binOp,Op.shift,show ¬b<0 by omega];rfl,gy.2 ⟨rfl,pS _ _⟩⟩
 case shr=>exact⟨_,by simp[binOp,Op.shift,show ¬b<0 by omega];rfl,gy.2 ⟨rfl,acb aU⟩⟩
theorem ach{op:BinOp}{a b:List UInt8}{t:TypeId}{c:Prop}{v:aD}(h:Bx op a b=some (c,v))(hc:c) :
  ∃ u,(binOp op t (.string ⟨a.toArray⟩) (.string ⟨b.toArray⟩)).run P w=.ok u w/\bk P H κ F w v u:=by
 have e:∀ l:List UInt8,(⟨l.toArray⟩:ByteArray).toList=l:=λl=>by simp
 cases op<;>simp only[Bx,Option.some.injEq,Prod.mk.injEq,reduceCtorEq]at h<;>obtain⟨rfl,rfl⟩:=h<;>simp only[bk];case add=>
  unfold b6 at hc;have hs:((ByteArray.size ⟨a.toArray⟩+ByteArray.size ⟨b.toArray⟩:Nat):Int)=(a.length+b.length:Nat):=by rfl
  refine⟨.string ⟨(a++b).toArray⟩,?_,lS.2 ⟨rfl,by grind⟩⟩;simp only[binOp,Op.stringOp];rw[if_neg]
  ·rfl
  ·rw[hs];have:IntKind.i64.max=9223372036854775807:=by decide
   omega
 case eql=>exact⟨_,by rfl,eQ.2 (by grind)⟩
 case neq=>exact⟨_,by rfl,eQ.2 (by grind)⟩
 case lss=>exact⟨_,by simp only[binOp,Op.stringOp,e];rfl,eQ.2 rfl⟩
 case geq=>exact⟨_,by simp only[binOp,Op.stringOp,e];rfl,eQ.2 rfl⟩
end
end Go.Fer
namespace Go.Fer
open Go.RowKit
def dw(P:Program)(T:Nat->ae):Prop:=∀ id,T id=.cy\/bP P (T id) id
theorem dw.bS{P:Program}{T:Nat->ae}(h:dw P T){id:Nat}{t:ae}(e:T id=t)(aH:t≠.cy):bP P t id:=by
 rcases h id with h | h
 ·exact absurd (e ▸ h) aH
 ·exact e ▸ h
theorem qD{d:Option Nat}{k:Nat->Nat->Option dY}{H:Nat->bu}{res:dY}(h:(hN d k).run H=some res) :
  ∃ b,d=some b/\k b ((H b).gen+1)=some res:=by
 unfold hN at h;cases d with
 | none=>cases h
 | some b=>
  simp_all
theorem ba.aci{C:bQ}{s:ay}{a:Act}{w:World}{κ:Nat->bm}{F:Nat->Prop}(h:ba C s a w κ F){b g:Nat}{e:ae}(az:(s.ad b).gen<g) :
  ba C (s.b' b ⟨g,.a7 e []⟩) a w (λi=>if i=b then ⟨0,0,0,true⟩ else κ i) F:=by
 have ai:eZ s.ad κ (λi=>if i=b then ⟨g,.a7 e []⟩ else s.ad i) (λi=>if i=b then ⟨0,0,0,true⟩ else κ i):=yE az λaZ cS=>by grind
 refine h.move (H':=λi=>if i=b then ⟨g,.a7 e []⟩ else s.ad i) ai (λ_ V=>V) (λ_ V=>.inl V) (Nat.le_refl _) (λ_ _ _=>rfl) (cM.refl _) (λ_=>?_) ?_ ?_ h.cL (yF (.inr ⟨rfl,rfl⟩) λaZ cS=>by grind)
 ·intro i;by_cases G:i=b
  ·subst G;simp only[cg,if_true];exact⟨λ_=>rfl,λaA=>by cases aA⟩
  ·exact cg.kP (h.bn i) ai (λ_ V=>V) (cG.refl _ _) (by grind) (by grind) λ_=>rfl
 ·intro i G;by_cases ej:i=b
  ·subst ej;simp[bB.bL]at G
  ·simp only[if_neg ej]at G ⊢;exact⟨(h.own i G).1,(h.own i G).2.1,.inl ⟨i,G,rfl⟩⟩
 ·intro i j G aC aS;by_cases ej:i=b
  ·subst ej;simp[bB.bL]at G
  ·by_cases lU:j=b
   ·subst lU;simp[bB.bL]at aC
   ·simp only[if_neg ej,if_neg lU]at G aC aS;exact h.inj i j G aC aS
section
variable {C:bQ} {T:Nat->ae} {a1:Nat->Option aJ} {o:Oper} {s:ay} {res:dY}
theorem acj{x:Operand}(a6:∀ i,o.dst=some i->i<C.nt)(ag:o.op=.move x)(h:(bf C.aL T a1 (aT C.aL s.aw) o).run s.ad=some res):cm C o s res:=by
 simp only[bf,ag,bz,aq.bx,Option.some.injEq]at h;subst h;exact cm.pure (by grind) a6 λa w κ F V _ _=>⟨_,by simp[execOp,ag],jU V x⟩
theorem ack{x:Operand}(a6:∀ i,o.dst=some i->i<C.nt)(ag:o.op=.assign x)(h:(bf C.aL T a1 (aT C.aL s.aw) o).run s.ad=some res):cm C o s res:=by
 simp only[bf,ag]at h;split at h
 ·rename_i e hx aH;obtain⟨b,au,ao⟩:=qD h;simp only[Option.some.injEq]at ao;subst ao;intro a w κ F Q V _ _;refine gY (w':=w) (v:=a.eval x) (by grind) (by simp[execOp,ag]) ?_;have h2:=V.aci (b:=b) (e:=e) (Nat.lt_succ_self _);have hv:=jU V x;rw[hx]at hv;simp only[bk]at hv;refine⟨_,_,ba.set h2 a6 ⟨⟨?_,by rw[hv];rfl⟩,λ_ _=>?_⟩⟩
  ·simp[ay.b']
  ·simp[hv,bm.slice]
 ·simp only[bz,aq.bx,Option.some.injEq]at h;subst h;exact cm.pure (by grind) a6 λa w κ F V _ _=>⟨_,by simp[execOp,ag],jU V x⟩
theorem ct{a:Act}{w:World}{κ:Nat->bm}{F:Nat->Prop}(V:ba C s a w κ F)(x:Operand){p:Prop}{av:aD}(hu:use (aT C.aL s.aw x)=(p,av))(hp:p):bk C.P s.ad κ F w av (a.eval x):=by
 have:=oQ (jU V x) (by grind);grind
theorem acm{c x y:Operand}(a6:∀ i,o.dst=some i->i<C.nt)(ag:o.op=.pick c x y)(h:(bf C.aL T a1 (aT C.aL s.aw) o).run s.ad=some res):cm C o s res:=by
 simp only[bf,ag]at h;split at h
 ·rename_i oc iI hc;split at h
  ·split at h
   ·rename_i yO av aU;simp only[bz,aq.bx,Option.some.injEq]at h;subst h;refine cm.pure (by grind) a6 λa w κ F V aY _=>?_;have h1:=eQ.1 (ct V c hc aY.1);cases iI with
    | false=>
     have e0:a.eval (.const (.bool false))=.bool false:=rfl;exact⟨.bool false,by simp[execOp,ag,h1,asBool,e0],eQ.2 rfl⟩
    | true=>
     have h2:=eQ.1 (ct V x aU (aY.2 rfl));exact⟨.bool av,by simp[execOp,ag,h1,asBool,h2],eQ.2 rfl⟩
   ·cases h
  ·split at h
   ·rename_i bR bv ab;simp only[bz,aq.bx,Option.some.injEq]at h;subst h;refine cm.pure (by grind) a6 λa w κ F V aY _=>?_;have h1:=eQ.1 (ct V c hc aY.1);cases iI with
    | true=>
     have e0:a.eval (.const (.bool true))=.bool true:=rfl;exact⟨.bool true,by simp[execOp,ag,h1,asBool,e0],eQ.2 rfl⟩
    | false=>
     have h2:=eQ.1 (ct V y ab (aY.2 rfl));exact⟨.bool bv,by simp[execOp,ag,h1,asBool,h2],eQ.2 rfl⟩
   ·cases h
  ·cases h
 ·cases h
theorem acn{op:UnOp}{ty:TypeId}{x:Operand}(a6:∀ i,o.dst=some i->i<C.nt)(ag:o.op=.unOp op ty x)(h:(bf C.aL T a1 (aT C.aL s.aw) o).run s.ad=some res):cm C o s res:=by
 simp only[bf,ag]at h;split at h
 ·rename_i cd b hx;simp only[bz,aq.bx,Option.some.injEq]at h;subst h;refine cm.pure (by grind) a6 λa w κ F V aY _=>?_;have h1:=eQ.1 (ct V x hx aY);exact⟨.bool (!b),by simp[execOp,ag,h1,Op.unary],eQ.2 rfl⟩
 ·rename_i cd k n hx;simp only[bz,aq.bx,Option.some.injEq]at h;subst h;refine cm.pure (by grind) a6 λa w κ F V aY _=>?_;have h1:=gy.1 (ct V x hx aY);exact⟨.int k (k.wrap (0 - n)),by simp[execOp,ag,h1.1,Op.unary,Op.intArith],gy.2 ⟨rfl,pS _ _⟩⟩
 ·cases h
theorem aco{i:Nat}{x:Operand}(a6:∀ i,o.dst=some i->i<C.nt)(ag:o.op=.extract x i)(h:(bf C.aL T a1 (aT C.aL s.aw) o).run s.ad=some res):cm C o s res:=by
 simp only[bf,ag]at h;split at h
 ·rename_i cd n f hx;split at h
  ·rename_i G;simp only[bz,aq.bx,Option.some.injEq]at h;subst h;refine cm.pure (by grind) a6 λa w κ F V aY _=>?_;obtain⟨aB,h1,h2,h3⟩:=ct V x hx aY;have dp:i<aB.length:=by omega
   refine⟨aB[i],by simp[execOp,ag,h1,Instr.extract,dp],?_⟩;grind
  ·cases h
 ·cases h
theorem acp{x:Operand}(a6:∀ i,o.dst=some i->i<C.nt)(ag:o.op=.nilCheck x)(h:(bf C.aL T a1 (aT C.aL s.aw) o).run s.ad=some res):cm C o s res:=by
 simp only[bf,ag]at h;split at h
 ·rename_i cd b g i hx;simp only[aq.eF,aq.bx]at h;split at h
  ·rename_i a_;simp only[Bool.and_eq_true,decide_eq_true_eq]at a_;simp only[Option.some.injEq]at h;subst h;refine cm.pure (by grind) a6 λa w κ F V aY _=>?_;have h1:=ct V x hx aY;have h2:=h1.2 a_.1.symm a_.2;exact⟨_,by simp[execOp,ag,h2.2.2],⟨h1.1.1,rfl⟩,λ_ _=>⟨h2.1,h2.2.1,rfl⟩⟩
  grind
 ·rename_i cd t d hx;simp only[bz,aq.bx,Option.some.injEq]at h;subst h;refine cm.pure (by grind) a6 λa w κ F V aY _=>?_;obtain⟨p,a8,h1,h2⟩:=ct V x hx aY;exact⟨_,by simp[execOp,ag,h1],p,a8,rfl,h2⟩
 ·rename_i cd e p hx;simp only[bz,aq.bx,Option.some.injEq]at h;subst h;refine cm.pure (by grind) a6 λa w κ F V aY hc=>?_;have h1:=(dx rfl).1 (ct V x hx aY);obtain⟨_,h1⟩:=h1;simp only[bt]at h1;rcases h1 with⟨_,rfl⟩ | ⟨q,y,a8,be,rfl,aO,aP⟩
  ·cases hc
  ·simp only[List.cons.injEq,and_true]at be;exact⟨_,by simp[execOp,ag,be],q,a8,rfl,aO,aP⟩
 ·rename_i cd b g off hx;simp only[aq.eF,aq.bx]at h;split at h
  ·rename_i a_;simp only[Bool.and_eq_true,decide_eq_true_eq]at a_;simp only[Option.some.injEq]at h;subst h;refine cm.pure (by grind) a6 λa w κ F V aY _=>?_;have h1:=ct V x hx aY;have h2:=h1.2 a_.1.symm a_.2;exact⟨_,by simp[execOp,ag,h2],⟨h1.1.1,rfl⟩,λ_ _=>rfl⟩
  grind
 ·cases h
theorem uJ(b off n:Nat):(⟨b,off,none⟩:Addr).add n=⟨b,off+n,none⟩:=by
 unfold Addr.add;simp
theorem E4{P:Program}{w:World}{t s:ae}{id f wF b off:Nat}(h:bP P (.st t) id)(ar:lV t f=some (s,wF)) :
  (Instr.fieldAt id (.pointer (some ⟨b,off,none⟩)) f).run P w=.ok (.pointer (some ⟨b,off+wF,none⟩)) w:=by
 obtain⟨ez,np,h1,h2,h3,aR,bw⟩:=h.field ar;simp only[Instr.fieldAt,Sem.run_bind,df h1,Result.andThen_ok,h2,Instr.sureAddr,Sem.run_pure,fieldPlace,aR.size,bw,if_false,h3,uJ]
theorem acq(hT:dw C.P T){ty f:Nat}{x:Operand}(a6:∀ i,o.dst=some i->i<C.nt)(ag:o.op=.fieldAddr ty x f)(h:(bf C.aL T a1 (aT C.aL s.aw) o).run s.ad=some res):cm C o s res:=by
 simp only[bf,ag]at h;split at h
 ·rename_i t aH;have cV:=hT.bS aH (by simp);split at h
  ·rename_i s' wF ar;split at h
   ·rename_i cd b g off hx;simp only[aq.eF,aq.bx]at h;split at h
    ·rename_i a_;simp only[Bool.and_eq_true,decide_eq_true_eq]at a_;simp only[Option.some.injEq]at h;subst h;refine cm.pure (by grind) a6 λa w κ F V aY _=>?_;have h1:=ct V x hx aY;have h2:=h1.2 a_.1.symm a_.2;exact⟨_,by simp[execOp,ag,h2,E4 cV ar],⟨h1.1.1,rfl⟩,λ_ _=>rfl⟩
    grind
   ·rename_i cd b g i off hx;simp only[aq.eF,aq.bx]at h;split at h
    ·rename_i a_;simp only[Bool.and_eq_true,decide_eq_true_eq]at a_;simp only[Option.some.injEq]at h;subst h;refine cm.pure (by grind) a6 λa w κ F V aY _=>?_;have h1:=ct V x hx aY;obtain⟨h2,h3,aR⟩:=h1.2 a_.1.symm a_.2;exact⟨_,by simp[execOp,ag,aR,E4 cV ar];rfl,⟨h1.1.1,rfl⟩,λ_ _=>⟨h2,h3,by grind⟩⟩
    grind
   ·rename_i cd b g i hx;simp only[aq.eF,aq.bx]at h;split at h
    ·rename_i a_;simp only[Bool.and_eq_true,decide_eq_true_eq,beq_iff_eq]at a_;simp only[Option.some.injEq]at h;subst h;refine cm.pure (by grind) a6 λa w κ F V aY _=>?_;have h1:=ct V x hx aY;obtain⟨h2,h3,aR⟩:=h1.2 a_.1.1.symm a_.1.2;exact⟨_,by simp[execOp,ag,aR,E4 cV ar];rfl,⟨h1.1.1,rfl⟩,λ_ _=>⟨h2,h3,by grind⟩⟩
    grind
   ·rename_i cd cC d hx;split at h
    ·rename_i yT;subst yT;split at h
     ·rename_i dr y aM;simp only[bz,aq.bx,Option.some.injEq]at h;subst h;refine cm.pure (by grind) a6 λa w κ F V aY _=>?_;obtain⟨p,a8,h1,h2,h3⟩:=ct V x hx aY;simp only[bt]at h3;obtain⟨c1,c2,c3,rfl,aO,aP⟩:=QO cC h3 aM;rw[ar]at aP;cases aP;have hp:p=⟨p.block,p.off,none⟩:=by have:=h2.2.1;cases p;simp_all
      rw[hp]at h1;refine⟨_,by simp[execOp,ag,h1,E4 cV ar],⟨p.block,p.off+c1.length,none⟩,c2,rfl,⟨h2.1,rfl,λj aC=>?_⟩,aO⟩;have:=h2.2.2 (c1.length+j) (by grind);grind
     ·cases h
    ·cases h
   ·cases h
  ·cases h
 ·cases h
theorem acr(hT:dw C.P T){ty f:Nat}{x:Operand}(a6:∀ i,o.dst=some i->i<C.nt)(ag:o.op=.field ty x f)(h:(bf C.aL T a1 (aT C.aL s.aw) o).run s.ad=some res):cm C o s res:=by
 simp only[bf,ag]at h;split at h
 ·rename_i t aH;have cV:=hT.bS aH (by simp);split at h
  ·rename_i cd cC d hx;split at h
   ·rename_i yT;subst yT;split at h
    ·rename_i dr y aM;simp only[bz,aq.bx,Option.some.injEq]at h;subst h;refine cm.pure (by grind) a6 λa w κ F V aY _=>?_;obtain⟨⟨cs,h1,h2⟩,h3⟩:=ct V x hx aY;rw[h1]at h3;simp only[bt,Value.cells]at h3;obtain⟨c1,c2,c3,e,aO,aP⟩:=QO cC h3 aM;obtain⟨ez,np,f1,f2,f3,f4,f5⟩:=cV.field aP;obtain⟨v,bX,cn⟩:=qC (w:=w) f4 e aO;refine⟨v,?_,cn⟩;simp[execOp,ag,h1,Instr.field,df f1,f2,asAgg,f3,bX]
    ·cases h
   ·cases h
  ·cases h
 ·cases h
end
end Go.Fer
namespace Go.Fer
open Go.RowKit
theorem bP.bq{P:Program}{e:ae}{id:TypeId}(h:bP P (.bq e) id):∃ i,P.underlying id=some (.pointer i)/\bP P e i/\e.size≠0:=by
 unfold bP at h;simp only[ch,Bool.and_eq_true]at h;obtain⟨_,h⟩:=h;split at h
 ·rename_i i G;simp only[Bool.and_eq_true,bne_iff_ne,ne_eq]at h;exact⟨i,G,h.1,h.2⟩
 grind
theorem Q2{k:IntKind}{av:aD}{H:Nat->bu}{x:Int}{l:List Nat}(h:(dc (.int k) av).run H=some (x,l)):av.lX.isSome=true:=by
 cases av with
 | val cC y=>
  simp only[dc,aq.bx,Option.map_eq_some_iff,Prod.mk.injEq]at h;obtain⟨z,a_,_⟩:=h;obtain⟨rfl,_⟩:=kt a_;rfl
 | jl v=>simp[dc,j',ae.ea,dz,Bu]at h
 | _=>simp[dc,j',ae.ea,dz,aq.none]at h
theorem Q3{av:aD}{H:Nat->bu}{x:List UInt8}{l:List Nat}(h:(dc .str av).run H=some (x,l)):av.s4.isSome=true:=by
 cases av with
 | val cC y=>
  simp only[dc,aq.bx,Option.map_eq_some_iff,Prod.mk.injEq]at h;obtain⟨z,a_,_⟩:=h;obtain⟨rfl,_⟩:=kt a_;rfl
 | jl v=>simp[dc,j',ae.ea,dz,Bu]at h
 | _=>simp[dc,j',ae.ea,dz,aq.none]at h
theorem E5{P:Program}{w:World}{ty i:TypeId}(G:P.underlying ty=some (.pointer i))(a:Option Addr)(d:Nat):(Op.equalIn (d+1) ty (.pointer a) (.pointer none)).run P w=.ok a.isNone w:=by
 cases a<;>simp[Op.equalIn,df G]
inductive BI:Value->Value->Prop where
 | bool (a b:Bool):BI (.bool a) (.bool b)
 | agg (a b:Array Value):BI (.agg a) (.agg b)
 | bq (a b:Option Addr):BI (.pointer a) (.pointer b)
theorem acs{P:Program}{w:World}{ty:TypeId}{x y:Operand}{u mm:Value}{e:Bool}(hp:BI u mm)(h:(Op.equalIn 10000 ty u mm).run P w=.ok e w)
  (az:∀ a b,u=.agg a->mm=.agg b->P.eqGuardType P.depth ty=false) :
  (do eqGuard .eql ty x y u mm;binOp .eql ty u mm:Sem Value).run P w=.ok (.bool e) w/\(do eqGuard .neq ty x y u mm;binOp .neq ty u mm:Sem Value).run P w=.ok (.bool (!e)) w:=by
 cases hp with
 | bool a b=>constructor<;>simp[ace,binOp,Op.equal,Op.maxDepth,h]
 | agg a b=>constructor<;>simp[run_eqGuard_agg _ _ _ _ _ _ _ (az a b rfl rfl),binOp,Op.equal,Op.maxDepth,h]
 | bq a b=>constructor<;>simp[acf,binOp,Op.equal,Op.maxDepth,h]
section
variable {C:bQ} {T:Nat->ae} {a1:Nat->Option aJ} {o:Oper} {s:ay} {res:dY}
theorem BJ{a:Act}{w:World}{κ:Nat->bm}{F:Nat->Prop}(V:ba C s a w κ F){t:ae}{av:aD}{v:Value}{x:t.ah}{l:List Nat}(h:(dc t av).run s.ad=some (x,l))(hv:bk C.P s.ad κ F w av v) :
  dP C.P t (λ_=>True) w v x:=lW V.bn (λ_ _=>trivial) h (λ_ _ _=>trivial) hv
theorem acu{op:BinOp}{ty:TypeId}{dC ke:aD}{x y:Operand}{c:Prop}{v:aD}{a:Act}{w:World}{κ:Nat->bm}{F:Nat->Prop}(hT:dw C.P T)(V:ba C s a w κ F)
  (h:(yK op (T ty) dC ke).run s.ad=some (c,v)) {u mm:Value} (hx:bk C.P s.ad κ F w dC u) (aM:bk C.P s.ad κ F w ke mm) (Q4:¬(dC.lX.isSome=true/\ke.lX.isSome=true)) (Q5:¬(dC.s4.isSome=true/\ke.s4.isSome=true)) :
  ∃ r,(do eqGuard op ty x y u mm;binOp op ty u mm:Sem Value).run C.P w=.ok r w/\bk C.P s.ad κ F w v r:=by
 unfold yK at h;rw[aq.eG]at h;simp only[Option.bind_eq_some_iff]at h;obtain⟨e,he,hv⟩:=h;simp only[aq.bx]at hv;have key:BI u mm/\(Op.equalIn 10000 ty u mm).run C.P w=.ok e w/\(∀ a b,u=.agg a->mm=.agg b->C.P.eqGuardType C.P.depth ty=false):=by
  split at he
  ·rename_i aS p e2 aH;obtain⟨i,G,_⟩:=(hT.bS aH (by simp)).bq;simp only[bk]at aM;subst aM;simp only[aq.bx,Option.some.injEq]at he;subst he;obtain⟨_,nq⟩:=(dx rfl).1 hx;rcases nq with⟨nq,rfl⟩ | ⟨q,z,a8,nq,rfl,_⟩
   ·obtain rfl:=(List.cons.inj nq).1;exact⟨.bq _ _,E5 G none 9999,λ_ _ h=>by cases h⟩
   ·obtain rfl:=(List.cons.inj nq).1;exact⟨.bq _ _,E5 G (some q) 9999,λ_ _ h=>by cases h⟩
  ·rename_i aS t2 wH aH;obtain⟨i,G,_⟩:=(hT.bS aH (by simp)).bq;simp only[bk]at aM;subst aM;simp only[aq.bx,Option.some.injEq]at he;subst he;obtain⟨q,a8,rfl,_⟩:=hx;exact⟨.bq _ _,E5 G (some q) 9999,λ_ _ h=>by cases h⟩
  ·rename_i aS b g off aH;obtain⟨i,G,_⟩:=(hT.bS aH (by simp)).bq;simp only[bk]at aM;subst aM;simp only[aq.eF,aq.bx]at he;split at he
   ·rename_i a_;simp only[Bool.and_eq_true,decide_eq_true_eq]at a_;simp only[Option.some.injEq]at he;subst he;have:=hx.2 a_.1.symm a_.2;subst this;exact⟨.bq _ _,E5 G (some _) 9999,λ_ _ h=>by cases h⟩
   grind
  ·split at he
   ·rename_i iJ;simp only[Bool.and_eq_true,decide_eq_true_eq]at iJ;simp only[aq.eG,Option.bind_eq_some_iff,aq.bx,Option.some.injEq]at he;obtain⟨⟨wI,eO⟩,h1,⟨JJ,pL⟩,h2,rfl⟩:=he;have bX:=BJ V h1 hx;have cn:=BJ V h2 aM;generalize pT:T ty=t at *
    cases t with
    | bool=>
     have cV:=hT.bS pT (by simp);refine⟨?_,(JI .bool 10000 rfl (by decide)).1 cV bX cn,?_⟩
     ·rw[eQ.1 bX,eQ.1 cn];exact .bool _ _
     simp_all
    | int k=>exact (Q4 ⟨Q2 h1,Q2 h2⟩).elim
    | str=>exact (Q5 ⟨Q3 h1,Q3 h2⟩).elim
    | st t=>
     have cV:=hT.bS pT (by simp);refine⟨?_,(JI (.st t) 10000 iJ.1 (by omega)).1 cV bX cn,λ_ _ _ _=>cV.BG.2.1⟩;obtain⟨⟨_,rfl,_⟩,_⟩:=bX;obtain⟨⟨_,rfl,_⟩,_⟩:=cn;exact .agg _ _
    | ax t1 t2=>have:=hT.bS pT (by simp);unfold bP at this;simp only[ch,Bool.false_eq_true]at this
    | cy=>cases iJ.1
    | slice _=>cases iJ.1
    | array _ _=>cases iJ.1
    | bq _=>cases iJ.1
    | map _ _=>cases iJ.1
    | fn _ _=>cases iJ.1
    | b5 _=>cases iJ.1
    | dO=>cases iJ.1
   ·cases he
 obtain⟨aO,aP,bA⟩:=key;have:=acs (x:=x) (y:=y) aO aP bA;cases op<;>simp only[reduceCtorEq,Option.some.injEq,Prod.mk.injEq]at hv;case eql=>obtain⟨rfl,rfl⟩:=hv;exact⟨_,this.1,eQ.2 rfl⟩
 case neq=>obtain⟨rfl,rfl⟩:=hv;exact⟨_,this.2,eQ.2 rfl⟩
theorem acv(hT:dw C.P T){op:BinOp}{ty mr:TypeId}{x y:Operand}(a6:∀ i,o.dst=some i->i<C.nt)(ag:o.op=.binOp op ty x y mr)(h:(bf C.aL T a1 (aT C.aL s.aw) o).run s.ad=some res):cm C o s res:=by
 simp only[bf,ag]at h;have yU:∀ c,o.op≠.defer c:=by grind
 have mu:∀ (a:Act) (w:World) (r:Value),(do eqGuard op ty x y (a.eval x) (a.eval y);binOp op ty (a.eval x) (a.eval y):Sem Value).run C.P w=.ok r w->(execOp a.eval o).run C.P w=.ok (.value r) w:=by
  intro a w r V;simp only[execOp,ag,Sem.run_bind]at V ⊢;simp_all
 split at h
 ·rename_i k m k' n hx aM;have fin:∀ (c:Prop) (v:aD),(∀ (w:World) κ F,c->fy k m->∃ r,(binOp op ty (.int k m) (.int k' n)).run C.P w=.ok r w/\bk C.P s.ad κ F w v r)->
    res=⟨(use (aT C.aL s.aw x)).1/\(use (aT C.aL s.aw y)).1,c,v,[]⟩->cm C o s res:=by
   intro c v ao fR;subst fR;refine cm.pure yU a6 λa w κ F V aY hc=>?_;have h1:=n0 (ct V x rfl aY.1) hx;have h2:=n0 (ct V y rfl aY.2) aM;obtain⟨r,bX,cn⟩:=ao w κ F hc h1.2;exact⟨r,mu a w r (by simp[h1.1,h2.1,Q0,bX]),cn⟩
  split at h
  ·split at h
   ·rename_i c v hs;simp only[bz,aq.bx,Option.some.injEq]at h;exact fin c v (λw κ F hc aU=>Q1 hs hc aU) h.symm
   ·cases h
  ·split at h
   ·rename_i c v hs;simp only[bz,aq.bx,Option.some.injEq]at h;exact fin c v (λw κ F hc aU=>Q1 hs hc aU) h.symm
   ·cases h
  ·split at h
   ·rename_i uK;subst uK;split at h
    ·rename_i c v hs;simp only[bz,aq.bx,Option.some.injEq]at h;exact fin c v (λw κ F hc aU=>acg hs hc aU) h.symm
    ·cases h
   ·cases h
 ·rename_i Q4;split at h
  ·rename_i m n hx aM;split at h
   ·rename_i c v hs;simp only[bz,aq.bx,Option.some.injEq]at h;subst h;refine cm.pure yU a6 λa w κ F V aY hc=>?_;have h1:=JH (ct V x rfl aY.1) hx;have h2:=JH (ct V y rfl aY.2) aM;obtain⟨r,bX,cn⟩:=ach (P:=C.P) (H:=s.ad) (κ:=κ) (F:=F) (w:=w) (t:=ty) hs hc;exact⟨r,mu a w r (by simp[h1.1,h2.1,acd,bX]),cn⟩
   ·cases h
  ·rename_i Q5;simp only[bz,aq.eG,Option.bind_eq_some_iff,aq.bx,Option.some.injEq]at h;obtain⟨⟨c,v⟩,hs,rfl⟩:=h;refine cm.pure yU a6 λa w κ F V aY hc=>?_;obtain⟨r,bX,cn⟩:=acu (x:=x) (y:=y) hT V hs (ct V x rfl aY.1) (ct V y rfl aY.2)
    (λ⟨e1,e2⟩=>by
     obtain⟨⟨k,m⟩,e1⟩:=Option.isSome_iff_exists.1 e1;obtain⟨⟨k',c8⟩,e2⟩:=Option.isSome_iff_exists.1 e2;grind)
    (λ⟨e1,e2⟩=>by
     obtain⟨m,e1⟩:=Option.isSome_iff_exists.1 e1;obtain⟨c8,e2⟩:=Option.isSome_iff_exists.1 e2;grind)
   grind
theorem uL{w:World}{b:Nat}{cs:Array Value}{T:TypeId}{eT:Nat×Nat}(h:w.heap[b]?=some (.cells cs T eT))(off:Nat):w.cell? ⟨b,off,none⟩=cs[off]?:=by
 simp[World.cell?,h]
theorem Q6{P:Program}{w:World}{t:ae}{id:TypeId}(h:bP P t id)(ai:t.isAgg=false){p:Addr}{v:Value}(hv:w.cell? p=some v):(loadVar id p).run P w=.ok v w:=by
 simp[loadVar,yQ h,ai,hv]
theorem Q7(hT:dw C.P T){ty:TypeId}{dC v:aD}{u:Value}{a:Act}{w:World}{κ:Nat->bm}{F:Nat->Prop}(V:ba C s a w κ F)(h:(yL (T ty) dC).run s.ad=some v)(hx:bk C.P s.ad κ F w dC u) :
  ∃ r,(Instr.loadAt ty u).run C.P w=.ok r w/\bk C.P s.ad κ F w v r:=by
 generalize pT:T ty=t at *
 cases dC with
 | dy cC d=>
  simp only[yL,aq.bx]at h;split at h
  ·rename_i hc;obtain⟨rfl,hc⟩:=hc;simp only[Option.some.injEq]at h;subst h;obtain⟨p,a8,rfl,h2,h3⟩:=hx;have cV:=hT.bS pT (by intro e;subst e;cases hc);obtain⟨r,bX,cn⟩:=JG cV h2.JF h3;exact⟨r,by simp[Instr.loadAt,Instr.sureAddr,bX],cn⟩
  grind
 | loc b g off=>
  simp only[yL,aq.eF,aq.bx]at h;split at h
  ·rename_i az;split at h
   ·rename_i t0 f bD;have hv:=hx.2 az.symm (by rw[bD];rfl);subst hv;have aN:=V.bn b;unfold cg at aN;rw[bD]at aN;obtain⟨cs,hB,c1,c2,c3⟩:=aN;split at h
    ·rename_i ai;split at h
     ·rename_i E6;simp only[Option.some.injEq]at h;subst h;have cV:=hT.bS pT (by intro e;subst e;cases ai);have JK:t.isAgg=false:=by cases t<;>simp_all[ae.ea,ae.isAgg]
      refine⟨cs.getD off Go.undef,?_,(c3 off E6).1⟩;simp only[Instr.loadAt,Instr.sureAddr,Sem.run_bind,Sem.run_pure,Result.andThen_ok];refine Q6 cV JK ?_;rw[uL c1];simp_all
     grind
    ·split at h
     ·rename_i Q8;split at h
      ·rename_i E6;simp only[Option.some.injEq]at h;subst h;have cV:=hT.bS pT (by intro e;subst e;cases Q8);let aB:=(List.range t.size).map λj=>cs.getD (off+j) Go.undef;refine⟨.agg aB.toArray,?_,aB,rfl,by grind,λi G=>?_⟩
       ·simp only[Instr.loadAt,Instr.sureAddr,Sem.run_bind,Sem.run_pure,Result.andThen_ok,loadVar,yQ cV,Q8,if_true,cV.size];rw[run_loadCells w ⟨(κ b).ad,off,none⟩ t.size (λj=>cs.getD (off+j) Go.undef)]
        ·rfl
        ·intro j aC;rw[uJ,uL c1];simp[Array.getD_eq_getD_getElem?,c2,show off+j<t0.size by omega]
       grind
      grind
     grind
   ·rename_i t0 y bD;have hv:=hx.2 az.symm (by rw[bD];rfl);subst hv;have aN:=V.bn b;unfold cg at aN;rw[bD]at aN;obtain⟨a8,d1,d2⟩:=aN;split at h
    ·rename_i hc;simp only[Option.map_eq_some_iff]at h;obtain⟨z,a_,rfl⟩:=h;obtain⟨c1,c2,c3,rfl,c_,q2⟩:=QP t0 d2 a_;have cV:=hT.bS pT (by intro e;subst e;cases hc);have cz:kf w ⟨(κ b).ad,off,none⟩ c2:=by
      refine⟨λ_=>rfl,λj aC=>?_⟩;have:=d1.2.2 (c1.length+j) (by grind);simp_all
     obtain⟨r,bX,cn⟩:=JG cV cz q2;exact⟨r,by simp[Instr.loadAt,Instr.sureAddr,bX],cn⟩
    grind
   grind
  grind
 | nW b g i off=>
  simp only[yL,aq.eF,aq.bx]at h;split at h
  ·rename_i az;have fin:∀ (e:ae) (xs:List e.ah),(s.ad b).body.eR=true->(s.ad b).body.len=xs.length->(s.ad b).body.eE=e.size->
     (∀ (G:i<xs.length),(κ b).eI=false->∃ a8,kf w ⟨(κ b).ad,(κ b).off+i*e.size,none⟩ a8/\bt C.P e F w a8 xs[i])->
     (if t.ea||t.isAgg then (rD e (xs.getD i e.cN) off t).map (.val t) else none)=some v->∃ r,(Instr.loadAt ty u).run C.P w=.ok r w/\bk C.P s.ad κ F w v r:=by
    intro e xs aU hlen BK iX hv;split at hv
    ·rename_i hc;simp only[Option.map_eq_some_iff]at hv;obtain⟨z,a_,rfl⟩:=hv;obtain⟨aO,aP,bA⟩:=hx.2 az.symm aU;subst bA;rw[hlen]at aO;obtain⟨a8,d1,d2⟩:=iX aO aP;have JL:xs.getD i e.cN=xs[i]:=by grind
     rw[JL]at a_;obtain⟨c1,c2,c3,rfl,c_,q2⟩:=QP e d2 a_;have cV:=hT.bS pT (by intro e;subst e;cases hc);have cz:kf w ⟨(κ b).ad,(κ b).off+i*(s.ad b).body.eE+off,none⟩ c2:=by
      refine⟨λ_=>rfl,λj aC=>?_⟩;have:=d1.2 (c1.length+j) (by grind);grind
     obtain⟨r,bX,cn⟩:=JG cV cz q2;exact⟨r,by simp[Instr.loadAt,Instr.sureAddr,bX],cn⟩
    grind
   have aN:=V.bn b;unfold cg at aN;split at h
   ·rename_i e xs bD;rw[bD]at aN;refine fin e xs (by rw[bD];rfl) (by rw[bD];rfl) (by rw[bD];rfl) (λG aA=>?_) h;obtain⟨cs,hB,c1,c2,c3,c4,c5⟩:=aN.2 aA;obtain⟨a8,d1,d2⟩:=c5 i G;exact⟨a8,⟨λ_=>rfl,λj aC=>by rw[uL c1];grind⟩,d2⟩
   ·rename_i e xs bD;rw[bD]at aN;refine fin e xs (by rw[bD];rfl) (by rw[bD];rfl) (by rw[bD];rfl) (λG aA=>?_) h;simp only[jm,bt,bm.slice,aA,Bool.false_eq_true,if_false]at aN;obtain⟨a',cap,e1,m1,m2,m3,m4⟩:=aN;simp only[List.cons.injEq,Value.slice.injEq,and_true]at e1;obtain⟨rfl,_,rfl⟩:=e1;obtain⟨dG,dJ,jt⟩:=m4 _ rfl (by omega);obtain⟨a8,d1,d2⟩:=jt i G;exact⟨a8,d1.JF,d2⟩
   grind
  grind
 | _=>cases h
end
end Go.Fer
namespace Go.Fer
open Go.RowKit
section
variable {C:bQ} {T:Nat->ae} {a1:Nat->Option aJ} {o:Oper} {s:ay} {res:dY}
theorem acw(hT:dw C.P T){ty:TypeId}{x:Operand}(a6:∀ i,o.dst=some i->i<C.nt)(ag:o.op=.load ty x)(h:(bf C.aL T a1 (aT C.aL s.aw) o).run s.ad=some res):cm C o s res:=by
 simp only[bf,ag]at h;split at h
 ·rename_i cd b g i hx;simp only[QX,aq.eF,aq.bx]at h;split at h
  ·rename_i e xs kR v bD;split at h
   ·rename_i hc;obtain⟨az,ai⟩:=hc;simp only[Option.some.injEq]at h;subst h;refine cm.pure (by grind) a6 λa w κ F V aY G=>?_;have G:i=kR:=G;subst G;have h1:=(ct V x hx aY).2 az.symm (by rw[bD];rfl);have aN:=V.bn b;unfold cg at aN;rw[bD]at aN h1;obtain⟨_,cs,hB,c1,c2,c3,c4,c5,lp,n1,wJ⟩:=aN;have cV:=hT.bS (t:=T ty) rfl (by intro e;rw[e]at ai;cases ai);have JK:(T ty).isAgg=false:=by cases aH:T ty<;>simp_all[ae.ea,ae.isAgg]
    refine⟨_,?_,n1⟩;have s8:w.cell? ⟨(κ b).ad,(κ b).off+i,none⟩=some (cs.getD ((κ b).off+i) Go.undef):=by
     rw[uL c1];have:(κ b).off+i<cs.size:=by
      have:i<(κ b).cap:=by omega
      rw[c5.1]at c2;omega
     simp[this]
    have hp:a.eval x=.pointer (some ⟨(κ b).ad,(κ b).off+i,none⟩):=by rw[h1.2.2];simp[bB.eE,c5.1]
    simp[execOp,ag,hp,Instr.loadAt,Instr.sureAddr,Q6 cV JK s8]
   ·cases h
  ·cases h
 ·rename_i cd dC _ hx;simp only[bz,aq.eG,Option.bind_eq_some_iff,aq.bx,Option.some.injEq]at h;obtain⟨v,hv,rfl⟩:=h;refine cm.pure (by grind) a6 λa w κ F V aY _=>?_;obtain⟨r,bX,cn⟩:=Q7 hT V hv (ct V x hx aY);exact⟨r,by simp[execOp,ag,bX],cn⟩
theorem bP.str{P:Program}{id:TypeId}(h:bP P .str id):P.underlying id=some .string:=by
 unfold bP at h;simp only[ch,Bool.and_eq_true]at h;grind
theorem bP.int{P:Program}{k:IntKind}{id:TypeId}(h:bP P (.int k) id):P.underlying id=some (.int k):=by
 unfold bP at h;simp only[ch,Bool.and_eq_true]at h;grind
theorem bP.a7{P:Program}{n:Nat}{e:ae}{id:TypeId}(h:bP P (.array n e) id):∃ i,P.underlying id=some (.array n i)/\bP P e i/\e.size≠0:=by
 unfold bP at h;simp only[ch,Bool.and_eq_true]at h;obtain⟨_,h⟩:=h;split at h
 ·rename_i m i hu;simp only[Bool.and_eq_true,decide_eq_true_eq,bne_iff_ne,ne_eq]at h;obtain⟨⟨rfl,h2⟩,h3⟩:=h;exact⟨i,hu,h2,h3⟩
 grind
theorem acx{eX:List (List Value)}{m:Nat}(h:∀ c∈eX,c.length=m){i:Nat}(G:i<eX.length):∃ p q,eX.flatten=p++(eX[i]++q)/\p.length=i*m:=by
 refine⟨(eX.take i).flatten,(eX.drop (i+1)).flatten,?_,?_⟩
 ·rw[<-List.flatten_cons,<-List.drop_eq_getElem_cons G,<-List.flatten_append,List.take_append_drop]
 ·have aR:(eX.take i).map List.length=List.replicate i m:=List.eq_replicate_iff.2 ⟨by grind,λx hx=>by
   grind⟩
  simp_all
theorem JM{P:Program}{n:Nat}{e:ae}{F:Nat->Prop}{w:World}{cs:List Value}{xs:List e.ah}(h:bt P (.array n e) F w cs xs){i:Nat}(G:i<n):∃ p c q,cs=p++(c++q)/\p.length=i*e.size/\bt P e F w c (xs.getD i e.cN):=by
 simp only[bt]at h;obtain⟨eX,rfl,h1,h2,h3⟩:=h;obtain⟨p,q,aO,aP⟩:=acx (m:=e.size) (λc hc=>by
  obtain⟨j,aC,rfl⟩:=List.mem_iff_getElem.1 hc;exact ht e (h3 j (by omega) aC)) (show i<eX.length by omega)
 grind
theorem acy(hT:dw C.P T){ty:TypeId}{x i:Operand}(a6:∀ i,o.dst=some i->i<C.nt)(ag:o.op=.index ty x i)(h:(bf C.aL T a1 (aT C.aL s.aw) o).run s.ad=some res):cm C o s res:=by
 simp only[bf,ag]at h;split at h
 ·rename_i l k n aH hx G;simp only[bz,aq.bx,Option.some.injEq]at h;subst h;refine cm.pure (by grind) a6 λa w κ F V aY hc=>?_;have h1:=JH (ct V x rfl aY.1) hx;have h2:=n0 (ct V i rfl aY.2) G;have cV:=(hT.bS aH (by simp)).str;have bZ:n.toNat<l.length:=by omega
  refine⟨.int .u8 ((l.getD n.toNat 0).toNat:Int),?_,gy.2 ⟨rfl,?_⟩⟩
  ·have e:(⟨l.toArray⟩:ByteArray)[n.toNat]?=some (l.getD n.toNat 0):=by
    have hs:n.toNat<(⟨l.toArray⟩:ByteArray).size:=by simpa [ByteArray.size]using bZ
    rw[getElem?_pos (⟨l.toArray⟩:ByteArray) n.toNat hs];simp only[Option.some.injEq];show (⟨l.toArray⟩:ByteArray).data[n.toNat]=_;grind
   simp[execOp,ag,Instr.index,h1.1,h2.1,asIntOf,df cV,hc.1,e]
  ·have:=(l.getD n.toNat 0).toNat_lt;constructor
   ·have:IntKind.u8.min=0:=by decide
    omega
   ·have:IntKind.u8.max=255:=by decide
    omega
 ·rename_i m e k n aH G;split at h
  ·rename_i c8 aS xs hx;split at h
   ·rename_i he;obtain⟨rfl,rfl⟩:=he;simp only[bz,aq.bx,Option.some.injEq]at h;subst h;refine cm.pure (by grind) a6 λa w κ F V aY hc=>?_;have h1:bk C.P s.ad κ F w (use (aT C.aL s.aw x)).2 (a.eval x):=ct V x rfl aY.1;rw[hx]at h1;have h2:=n0 (ct V i rfl aY.2) G;obtain⟨j,aC,qE,_⟩:=(hT.bS aH (by simp)).a7;obtain⟨⟨cs,hv,oR⟩,ns⟩:=h1;rw[hv]at ns;obtain⟨p,c,q,e1,e2,e3⟩:=JM ns (i:=n.toNat) (by omega);obtain⟨v,g1,dR⟩:=qC qE (cs:=cs) e1 e3;refine⟨v,?_,dR⟩;rw[e2]at g1;simp[execOp,ag,Instr.index,hv,h2.1,asIntOf,df aC,hc.1,hc.2,qE.size,g1]
   ·cases h
  ·rename_i k' f hx;split at h
   ·rename_i ao;simp only[bz,aq.bx,Option.some.injEq]at h;subst h;refine cm.pure (by grind) a6 λa w κ F V aY hc=>?_;have h1:bk C.P s.ad κ F w (use (aT C.aL s.aw x)).2 (a.eval x):=ct V x rfl aY.1;rw[hx]at h1;have h2:=n0 (ct V i rfl aY.2) G;obtain⟨j,aC,qE,bU⟩:=(hT.bS aH (by simp)).a7;obtain⟨aB,hv,ai,fj⟩:=h1;have bZ:n.toNat*e.size+e.size<=aB.length:=by
     rw[ai,ao];have:(n.toNat+1)*e.size<=m*e.size:=Nat.mul_le_mul_right _ (by omega);grind
    by_cases aU:e.isAgg=true
    ·simp only[if_pos aU];refine⟨_,by simp[execOp,ag,Instr.index,hv,h2.1,asIntOf,df aC,hc.1,hc.2,qE.size,QZ qE aU];rfl,(aB.toArray.extract (n.toNat*e.size) (n.toNat*e.size+e.size)).toList,by simp,?_,λq be=>?_⟩
     ·simp;omega
     ·have acz:(aB.toArray.extract (n.toNat*e.size) (n.toNat*e.size+e.size)).toList.getD q Go.undef=aB.getD (n.toNat*e.size+q) Go.undef:=by
       simp[List.getD_eq_getElem?_getD,be]
      rw[acz];exact fj _ (by omega)
    ·simp only[if_neg aU];have aR:=fj (n.toNat*e.size) (by omega);refine⟨aB.getD (n.toNat*e.size) Go.undef,?_,aR.1⟩;have az:aB.toArray[n.toNat*e.size]?=some (aB.getD (n.toNat*e.size) Go.undef):=by
      grind
     simp[execOp,ag,Instr.index,hv,h2.1,asIntOf,df aC,hc.1,hc.2,qE.size,QY qE (by grind) az]
   ·cases h
  ·cases h
 ·cases h
theorem rH:∀ {l:List aD},js l->∀ i,i<l.length->(use (l.getD i .undef)).1
 | [],_,i,G=>by grind
 | a::l,h,0,_=>by
  cases a<;>first | trivial | exact h.1
 | a::l,h,i+1,G=>by
  have cZ:js l:=by cases a<;>first | exact h | exact h.2
  have:=rH cZ i (by grind);grind
theorem acA{k:bm}{n:Nat}(h:k.eI=true->n=0):∃ a cap,k.slice n=.slice a n cap:=by
 unfold bm.slice;split
 ·rename_i aA;rw[h aA];exact⟨none,0,rfl⟩
 ·exact⟨_,_,rfl⟩
theorem yV{a:Act}{w:World}{κ:Nat->bm}{F:Nat->Prop}(V:ba C s a w κ F){b:Nat}(aU:(s.ad b).body.eR=true):((κ b).eI=true->(s.ad b).body.len=0)/\(s.ad b).body.len<2 ^ 63:=by
 have aN:=V.bn b;unfold cg at aN;cases bD:(s.ad b).body with
 | a7 e xs=>
  rw[bD]at aN;refine⟨λaA=>by rw[aN.1 aA];rfl,?_⟩;simp only[bB.len];cases aA:(κ b).eI with
  | true=>rw[aN.1 aA];simp
  | false=>obtain⟨cs,hB,c1,c2,c3,c4,c5⟩:=aN.2 aA;omega
 | hf e xs=>
  rw[bD]at aN;simp only[jm,bt,bm.slice]at aN;obtain⟨a',cap,e1,m1,m2,m3,m4⟩:=aN;simp only[bB.len];grind
 | fN e xs i v=>
  rw[bD]at aN;obtain⟨h0,cs,hB,c1,c2,c3,c4,_⟩:=aN;exact⟨λaA=>(by rw[h0]at aA;cases aA),(by simp only[bB.len];omega)⟩
 | _=>rw[bD]at aU;cases aU
theorem JN{a:Act}{w:World}{κ:Nat->bm}{F:Nat->Prop}(V:ba C s a w κ F){b:Nat}(aU:(s.ad b).body.eR=true)(aA:(κ b).eI=false):(s.ad b).body.len<=(κ b).cap:=by
 have aN:=V.bn b;unfold cg at aN;cases bD:(s.ad b).body with
 | a7 e xs=>
  rw[bD]at aN;obtain⟨cs,hB,c1,c2,c3,c4,c5⟩:=aN.2 aA;exact c3
 | hf e xs=>
  rw[bD]at aN;simp only[jm,bt,bm.slice,aA,Bool.false_eq_true,if_false]at aN;obtain⟨a',cap,e1,m1,m2,m3,m4⟩:=aN;simp only[List.cons.injEq,Value.slice.injEq,and_true]at e1;simp only[bB.len];omega
 | fN e xs i v=>
  rw[bD]at aN;obtain⟨h0,cs,hB,c1,c2,c3,c4,_⟩:=aN;exact c3
 | _=>rw[bD]at aU;cases aU
theorem acB{a:Act}{w:World}{κ:Nat->bm}{F:Nat->Prop}(V:ba C s a w κ F){b lo G:Nat}(aU:(s.ad b).body.eR=true){v:Value}(h1:lo<=G)(h2:G<=(s.ad b).body.len)(hs:EP (κ b) (s.ad b).body.eE lo G v) :
  ∃ a cap,v=.slice a (G - lo) cap/\G - lo<2 ^ 63:=by
 have aA:=yV V aU;rcases hs with⟨aO,rfl⟩ | ⟨aO,o,rfl,_⟩
 ·simp_all
 grind
theorem BL{n:Nat}(h:n<2 ^ 63):fy .i64 (n:Int):=by
 unfold fy;have h1:IntKind.i64.min=-9223372036854775808:=by decide
 have h2:IntKind.i64.max=9223372036854775807:=by decide
 omega
theorem bP.mp{P:Program}{k v:ae}{id:TypeId}(h:bP P (.map k v) id):∃ i j,P.underlying id=some (.map i j)/\bP P k i/\bP P v j:=by
 unfold bP at h;simp only[ch,Bool.and_eq_true]at h;obtain⟨_,h⟩:=h;split at h
 ·rename_i i j G;simp only[Bool.and_eq_true]at h;exact⟨i,j,G,h.1,h.2⟩
 grind
theorem acC(hT:dw C.P T){t:TypeId}{dC:aD}{c:Prop}{n:Int}{u:Value}{a:Act}{w:World}{κ:Nat->bm}{F:Nat->Prop}(V:ba C s a w κ F)(h:(ET (T t) dC).run s.ad=some (c,n))(hc:c)(hx:bk C.P s.ad κ F w dC u)(ty:TypeId) :
  (Builtin.len_ #[t] ty #[u]).run C.P w=.ok (.int .i64 n) w/\fy .i64 n:=by
 have awu:∀ e a' m cap,T t=.slice e->u=.slice a' m cap->(m:Int)=n->m<2 ^ 63->(Builtin.len_ #[t] ty #[u]).run C.P w=.ok (.int .i64 n) w/\fy .i64 n:=by
  intro e a' m cap aH hu an bZ;obtain⟨i,G,_⟩:=(hT.bS aH (by simp)).sl;subst hu;rw[<-an];exact⟨by simp[Builtin.len_,df G,goInt],BL bZ⟩
 have Q9:∀ k v r es clk m,T t=.map k v->u=.map (some r)->w.heap[r]?=some (.map es clk)->es.size=m->(m:Int)=n->b6 m->(Builtin.len_ #[t] ty #[u]).run C.P w=.ok (.int .i64 n) w/\fy .i64 n:=by
  intro k v r es clk m aH hu hw oT an bZ;obtain⟨i,j,G,_⟩:=(hT.bS aH (by simp)).mp;subst hu;rw[<-an,<-oT];unfold b6 at bZ;refine⟨?_,BL (by omega)⟩;simp[Builtin.len_,df G,goInt,getObj,Sem.run,hw]
 unfold ET at h;split at h
 ·rename_i e aH;split at h
  ·rename_i aS xs;simp only[aq.bx,Option.some.injEq,Prod.mk.injEq]at h;obtain⟨_,hx⟩:=(dx rfl).1 hx;obtain⟨a',cap,e1,m1,m2,m3,m4⟩:=hx;grind
  ·simp only[aq.bx,Option.some.injEq,Prod.mk.injEq]at h;simp only[bk]at hx;grind
  ·rename_i b g;simp only[aq.eF,aq.bx]at h;split at h
   ·rename_i a_;simp only[Bool.and_eq_true,decide_eq_true_eq]at a_;simp only[Option.some.injEq,Prod.mk.injEq]at h;have hv:=hx.2 a_.1.symm a_.2;have aA:=yV V a_.2;obtain⟨a',cap,he⟩:=acA (k:=κ b) aA.1;grind
   grind
  ·rename_i b g lo G;simp only[aq.eF,aq.bx]at h;split at h
   ·rename_i a_;simp only[Bool.and_eq_true,decide_eq_true_eq]at a_;simp only[Option.some.injEq,Prod.mk.injEq]at h;obtain⟨⟨aO,aP⟩,bA⟩:=hx.2 a_.1.symm a_.2;obtain⟨a',cap,he,bZ⟩:=acB V a_.2 aO aP bA;grind
   grind
  ·cases h
 ·rename_i aH;split at h
  ·rename_i xs;simp only[aq.bx,Option.some.injEq,Prod.mk.injEq]at h;obtain⟨rfl,bZ⟩:=lS.1 hx;have cV:=(hT.bS aH (by simp)).str;rw[<-h.2];have hs:ByteArray.size ⟨xs.toArray⟩=xs.length:=by rfl
   exact⟨by simp[Builtin.len_,df cV,goInt,hs],BL (by omega)⟩
  ·cases h
 ·rename_i k v aH;split at h
  ·rename_i k' hM xs;simp only[aq.bx,Option.some.injEq,Prod.mk.injEq]at h;obtain⟨rfl,h⟩:=h;obtain⟨_,hx⟩:=(dx rfl).1 hx;rcases hx with⟨e1,rfl⟩ | ⟨r,es,clk,e1,m1,m2,m3,_⟩
   ·obtain rfl:=(List.cons.inj e1).1;obtain⟨i,j,G,_⟩:=(hT.bS aH (by simp)).mp;rw[<-h];exact⟨by simp[Builtin.len_,df G,goInt],BL (by simp)⟩
   grind
  ·rename_i b g;simp only[aq.eF,aq.bx]at h;split at h
   ·rename_i az;split at h
    ·rename_i k' hM es bD;simp only[Option.some.injEq,Prod.mk.injEq]at h;obtain⟨rfl,h⟩:=h;have aN:=V.bn b;unfold cg at aN;rw[bD]at aN;obtain⟨ms,clk,c_,q2⟩:=aN;exact Q9 k v _ ms clk es.length aH (hx.2 az.symm (by rw[bD];rfl)) c_ q2.1 h hc
    ·rename_i k' hM es bD;simp only[Option.some.injEq,Prod.mk.injEq]at h;obtain⟨rfl,h⟩:=h;have aN:=V.bn b;unfold cg at aN;rw[bD]at aN;rcases aN with⟨e1,_⟩ | ⟨r,ms,clk,e1,BM,c_,q2,_⟩
     ·cases e1
     ·simp only[List.cons.injEq,Value.map.injEq,Option.some.injEq,and_true]at e1;subst e1;exact Q9 k v _ ms clk es.length aH (hx.2 az.symm (by rw[bD];rfl)) c_ q2 h hc
    grind
   grind
  ·cases h
 ·cases h
theorem wK{b:Builtin}{args:Array Operand}{cU:Array TypeId}{a:Act}{w w':World}{v:Value}(ag:o.op=.call { callee:=.builtin b,args:=args,argTypes:=cU })
  (h:(builtin b cU o.type (args.map fun | .const _=>true | _=>false) (args.map a.eval)).run C.P w=.ok (.value v) w'):(execOp a.eval o).run C.P w=.ok (.value v) w':=by
 simp only[execOp,ag,Sem.run_bind,resolve,Sem.run_pure,Result.andThen_ok,invoke];exact h
theorem acD(hT:dw C.P T){args:Array Operand}{cU:Array TypeId}(a6:∀ i,o.dst=some i->i<C.nt)(ag:o.op=.call { callee:=.builtin .len,args:=args,argTypes:=cU })(h:(bf C.aL T a1 (aT C.aL s.aw) o).run s.ad=some res):cm C o s res:=by
 obtain⟨args⟩:=args;obtain⟨cU⟩:=cU;simp only[bf,ag,mq,Bz]at h;split at h
 ·rename_i x t;simp only[bz,aq.eG,Option.bind_eq_some_iff,aq.bx,Option.some.injEq]at h;obtain⟨⟨c,n⟩,aA,rfl⟩:=h;refine cm.pure (by grind) a6 λa w κ F V aY hc=>?_;obtain⟨h1,h2⟩:=acC hT V aA hc (ct V x rfl aY) o.type;refine⟨_,wK ag ?_,gy.2 ⟨rfl,h2⟩⟩;simp[builtin,h1]
 ·cases h
theorem acE(hT:dw C.P T){args:Array Operand}{cU:Array TypeId}(a6:∀ i,o.dst=some i->i<C.nt)(ag:o.op=.call { callee:=.builtin .cap,args:=args,argTypes:=cU })(h:(BB T (aT C.aL s.aw) args.toList cU.toList).run s.ad=some res):cm C o s res:=by
 obtain⟨args⟩:=args;obtain⟨cU⟩:=cU;simp only[BB]at h;split at h
 ·rename_i x t;split at h
  ·rename_i e cd aH hu;simp only[bz,aq.bx,Option.some.injEq]at h;subst h;refine cm.pure (by grind) a6 λa w κ F V aY hc=>?_;have hv:a.eval x=.slice none 0 0:=ct V x hu aY;obtain⟨i,G,_⟩:=(hT.bS aH (by simp)).sl;refine⟨.int .i64 0,wK ag ?_,gy.2 ⟨rfl,by decide⟩⟩;simp[builtin,Builtin.cap_,hv,df G,goInt]
  ·cases h
 ·cases h
theorem Q_{a:Act}{w:World}{κ:Nat->bm}{F:Nat->Prop}(V:ba C s a w κ F){k:IntKind}:∀ (l:List Operand) {bR:Prop} {hO:z1'},mo (aT C.aL s.aw) k l=some (bR,hO)->bR->l.map a.eval=hO.map (Value.int k)/\∀ n∈hO,fy k n
 | [],_,_,h,_=>by cases h
 | [x],bR,hO,h,aY=>by
  simp only[mo]at h;split at h
  ·rename_i k' n hx;split at h
   ·rename_i ao;subst ao;cases h;have h1:=n0 (ct V x rfl aY) hx;exact⟨by simp[h1.1],by simpa using h1.2⟩
   ·cases h
  ·cases h
 | x::y::l,bR,hO,h,aY=>by
  simp only[mo]at h;split at h
  ·rename_i k' n awv aww hx ai;split at h
   ·rename_i ao;subst ao;cases h;have h1:=n0 (ct V x rfl aY.1) hx;have h2:=Q_ V (y::l) ai aY.2;exact⟨by rw[List.map_cons,h2.1,h1.1];rfl,λm an=>by
     rcases List.mem_cons.1 an with rfl | an
     ·exact h1.2
     ·exact h2.2 m an⟩
   ·cases h
  ·cases h
theorem JO{k:IntKind}:∀ (hO:z1') (m:Int),fy k m->(∀ n∈hO,fy k n)->((hO.map (Value.int k)).foldlM Builtin.min2 (Value.int k m)=pure (Value.int k (hO.foldl (λa b=>if b<a then b else a) m))/\fy k (hO.foldl (λa b=>if b<a then b else a) m))/\
  ((hO.map (Value.int k)).foldlM Builtin.max2 (Value.int k m)=pure (Value.int k (hO.foldl (λa b=>if b > a then b else a) m))/\fy k (hO.foldl (λa b=>if b > a then b else a) m))
 | [],m,h,_=>⟨⟨rfl,h⟩,rfl,h⟩
 | n::hO,m,h,ai=>by
  have aA:=ai n (by simp);have ai:=λq be=>ai q (List.mem_cons_of_mem n be);have h1:=(JO hO (if n<m then n else m) (by split<;>assumption) ai).1;have h2:=(JO hO (if n > m then n else m) (by split<;>assumption) ai).2;refine⟨⟨?_,h1.2⟩,?_,h2.2⟩
  ·simp only[List.map_cons,List.foldlM_cons,List.foldl_cons,Builtin.min2];rw[<-h1.1];simp
  ·simp only[List.map_cons,List.foldlM_cons,List.foldl_cons,Builtin.max2];rw[<-h2.1];simp
theorem Q'{b:Builtin}{f:Int->Int->Int}(ab:(b=.min/\f=λa b=>if b<a then b else a)\/(b=.max/\f=λa b=>if b > a then b else a)){args:Array Operand}{cU:Array TypeId}(a6:∀ i,o.dst=some i->i<C.nt)
  (ag:o.op=.call { callee:=.builtin b,args:=args,argTypes:=cU }) (h:(rF (aT C.aL s.aw) f args.toList).run s.ad=some res):cm C o s res:=by
 obtain⟨args⟩:=args;simp only[rF]at h;split at h
 ·rename_i x y l;split at h
  ·rename_i k m hx;split at h
   ·rename_i bR hO ai;simp only[bz,aq.bx,Option.some.injEq]at h;subst h;refine cm.pure (by grind) a6 λa w κ F V aY hc=>?_;have h1:=n0 (ct V x rfl aY.1) hx;obtain⟨h2,h3⟩:=Q_ V (y::l) ai aY.2;obtain⟨g1,dR⟩:=JO hO m h1.2 h3;have dA:(x::y::l).map a.eval=Value.int k m::hO.map (Value.int k):=by rw[List.map_cons,h2,h1.1]
    refine⟨.int k (hO.foldl f m),wK ag ?_,gy.2 ⟨rfl,?_⟩⟩
    ·rcases ab with⟨rfl,rfl⟩ | ⟨rfl,rfl⟩
     ·simp only[builtin,Builtin.min_,List.map_toArray,dA];rw[g1.1];rfl
     ·simp only[builtin,Builtin.max_,List.map_toArray,dA];rw[dR.1];rfl
    ·rcases ab with⟨rfl,rfl⟩ | ⟨rfl,rfl⟩
     ·exact g1.2
     ·exact dR.2
   ·cases h
  ·cases h
 ·cases h
end
end Go.Fer
namespace Go.Fer
open Go.RowKit
def eT(H:Nat->bu)(x:bu):bu:=match x.body with
 | .a7 e xs=>⟨x.gen,.hf e xs⟩
 | .mp k v es=>⟨x.gen,.iU k v es⟩
 | .cells t f=>match (hY t ((List.range t.size).map f)).run H with
  | some (y,_,[])=>⟨x.gen,.gi t y⟩
  | _=>x
 | _=>x
def ay.cb(s:ay)(l:List Nat):ay:=⟨s.aw,λi=>if i∈l then eT s.ad (s.ad i) else s.ad i⟩
theorem Ra(H:Nat->bu):∀ (l:List Nat) (s:ay),(∀ i∈l,s.ad i=H i\/s.ad i=eT H (H i))->s.fH ((jr l).run H)=⟨s.aw,λi=>if i∈l then eT H (H i) else s.ad i⟩
 | [],s,_=>by
  rfl
 | b::l,s,h=>by
  simp only[jr,aq.eF,aq.run_bind];have key:∀ (s':ay),s'.aw=s.aw->s'.ad b=eT H (H b)->(∀ i,i≠b->s'.ad i=s.ad i)->s'.fH ((jr l).run H)=⟨s.aw,λi=>if i∈b::l then eT H (H i) else s.ad i⟩:=by
   intro s' e1 e2 e3;rw[Ra H l s']
   ·rw[e1];congr 1;funext i;by_cases G:i=b
    ·subst G;simp only[e2,List.mem_cons,true_or,if_true];split<;>rfl
    ·rw[e3 i G];simp[G]
   ·intro i G;by_cases ej:i=b
    ·subst ej;exact .inr e2
    ·rw[e3 i ej];exact h i (by simp[G])
  have hh:eT H (H b)=H b->s.fH ((jr l).run H)=⟨s.aw,λi=>if i∈b::l then eT H (H i) else s.ad i⟩:=λe=>
   key s rfl (by grind) λ_ _=>rfl
  have put:∀ x,eT H (H b)=x->s.fH ((b,x)::(jr l).run H)=⟨s.aw,λi=>if i∈b::l then eT H (H i) else s.ad i⟩:=λx e=>by
   simp only[ay.fH];exact key _ rfl (by simp[ay.b',e]) λi G=>by simp[ay.b',G]
  cases ab:(H b).body with
  | a7 e xs=>exact put _ (by simp[eT,ab])
  | mp k v es=>exact put _ (by simp[eT,ab])
  | cells t f=>
   simp only[aq.run_bind,aq.bx];cases az:(hY t ((List.range t.size).map f)).run H with
   | none=>exact hh (by simp[eT,ab,az])
   | some z=>
    obtain⟨y,m,r⟩:=z;cases r with
    | nil=>exact put _ (by simp[eT,ab,az])
    | cons c r=>exact hh (by simp[eT,ab,az])
  | _=>exact hh (by simp[eT,ab])
theorem s9(s:ay)(l:List Nat):s.fH ((jr l).run s.ad)=s.cb l:=by
 rw[Ra s.ad l s λi _=>.inl rfl];rfl
theorem BN:∀ (l:List (Nat×bu)) (s:ay) (p:Nat×bu),s.fH (l++[p])=(s.fH l).b' p.1 p.2
 | [],_,_=>rfl
 | q::l,s,p=>by simp only[List.cons_append,ay.fH];exact BN l _ p
def bB.Rb:bB->Bool | .b5 _ _ _ _=>true | .fN _ _ _ _=>true | _=>false
def gl(H:Nat->bu)(l:List Nat):Prop:=∀ b∈l,(H b).body.Rb=false/\∀ t f,(H b).body=.cells t f->∃ y m,(hY t ((List.range t.size).map f)).run H=some (y,m,[])/\∀ c∈m,c∈l
theorem gl.nil(H:Nat->bu):gl H []:=λb ab=>by cases ab
theorem gl.append{H:Nat->bu}{l m:List Nat}(h:gl H l)(k:gl H m):gl H (l++m):=by
 intro b ab;rcases List.mem_append.1 ab with ab | ab
 ·obtain⟨h1,h2⟩:=h b ab;grind
 ·obtain⟨h1,h2⟩:=k b ab;grind
theorem gl.one{H:Nat->bu}{b:Nat}(h1:(H b).body.Rb=false)(h2:(H b).body.fm=false):gl H [b]:=by
 intro c hc;obtain rfl:=List.mem_singleton.1 hc;exact⟨h1,λt f e=>by rw[e]at h2;cases h2⟩
theorem rI{H:Nat->bu}{t:ae}{av:aD}{x:t.ah}{l:List Nat}(h:(dz t av).run H=some (x,l)):gl H l:=by
 cases av with
 | val cC y=>
  simp only[dz,aq.bx,Option.map_eq_some_iff,Prod.mk.injEq]at h;obtain⟨z,a_,rfl,rfl⟩:=h;exact .nil H
 | cR=>
  cases t<;>simp only[dz,aq.none,aq.bx,reduceCtorEq,Option.some.injEq,Prod.mk.injEq]at h;obtain⟨rfl,rfl⟩:=h;exact .nil H
 | jl u=>
  simp only[dz,aq.bx,Option.map_eq_some_iff,Prod.mk.injEq]at h;obtain⟨z,a_,rfl,rfl⟩:=h;exact .nil H
 | dy cC y=>
  cases t<;>simp only[dz,aq.none,aq.bx,reduceCtorEq,Option.map_eq_some_iff,Prod.mk.injEq]at h;obtain⟨z,a_,rfl,rfl⟩:=h;exact .nil H
 | own b g=>
  cases t<;>simp only[dz,aq.none,aq.bx,aq.eF,reduceCtorEq]at h;split at h
  ·split at h
   ·rename_i ab;simp only[Option.map_eq_some_iff,Prod.mk.injEq]at h;obtain⟨z,a_,rfl,rfl⟩:=h;exact .one (by rw[ab];rfl) (by rw[ab];rfl)
   ·simp only[Option.map_eq_some_iff,Prod.mk.injEq]at h;obtain⟨z,a_,rfl,rfl⟩:=h;exact .nil H
   grind
  grind
 | sub b g lo G=>
  cases t<;>simp only[dz,aq.none,aq.bx,aq.eF,reduceCtorEq]at h;split at h
  ·split at h
   ·rename_i ab;simp only[Option.map_eq_some_iff,Prod.mk.injEq]at h;obtain⟨z,a_,rfl,rfl⟩:=h;exact .one (by rw[ab];rfl) (by rw[ab];rfl)
   ·simp only[Option.map_eq_some_iff,Prod.mk.injEq]at h;obtain⟨z,a_,rfl,rfl⟩:=h;exact .nil H
   grind
  grind
 | fk b g=>
  cases t<;>simp only[dz,aq.none,aq.bx,aq.eF,reduceCtorEq]at h;split at h
  ·split at h
   ·rename_i ab;simp only[Option.map_eq_some_iff,Prod.mk.injEq]at h;obtain⟨z,a_,rfl,rfl⟩:=h;exact .one (by rw[ab];rfl) (by rw[ab];rfl)
   ·simp only[Option.map_eq_some_iff,Prod.mk.injEq]at h;obtain⟨z,a_,rfl,rfl⟩:=h;exact .nil H
   grind
  grind
 | h' k n c=>
  cases t<;>simp only[dz,aq.none,aq.bx,reduceCtorEq]at h;split at h
  ·cases h;exact .nil H
  ·cases h
 | _=>cases h
theorem Rc{H:Nat->bu}{e:ae}(fQ:∀ {cs:List aD} {x:e.ah} {l:List Nat} {r:List aD},(hY e cs).run H=some (x,l,r)->gl H l){av:aD}{x:Option e.ah}{l:List Nat}
  (h:(sZ e (hY e) av).run H=some (x,l)):gl H l:=by
 have bY:(dz (.bq e) av).run H=some (x,l)->gl H l:=rI (t:=.bq e);cases av with
 | loc b g off=>
  simp only[sZ,aq.eF]at h;split at h
  ·split at h
   ·simp only[aq.bx,Option.map_eq_some_iff,Prod.mk.injEq]at h;obtain⟨z,a_,rfl,rfl⟩:=h;exact .nil H
   ·rename_i t f ab;split at h
    ·rename_i aH;subst aH;simp only[aq.eG,Option.bind_eq_some_iff,aq.bx]at h;obtain⟨⟨y,m,q⟩,h1,h2⟩:=h;split at h2
     ·rename_i be;simp only[Option.some.injEq,Prod.mk.injEq]at h2;obtain⟨rfl,rfl⟩:=h2;have be:q=[]:=List.isEmpty_iff.1 be;subst be;intro c hc;rcases List.mem_cons.1 hc with rfl | hc
      ·refine⟨by rw[ab];rfl,λcC ih e=>?_⟩;grind
      ·obtain⟨aO,aP⟩:=fQ h1 c hc;grind
     grind
    ·cases h
   ·cases h
  ·cases h
 | _=>exact bY h
theorem Re{H:Nat->bu}:∀ (t:ae) {cs:List aD} {x:t.ah} {l:List Nat} {r:List aD},(hY t cs).run H=some (x,l,r)->gl H l:=by
 have pR:∀ (t:ae) (g:aD->aq (Option (t.ah×List Nat))),(∀ {av:aD} {x:t.ah} {l:List Nat},(g av).run H=some (x,l)->gl H l)->
   ∀ {cs:List aD} {x:t.ah} {l:List Nat} {r:List aD},(match cs with | c::r=>(g c).map λo=>o.map λ(x,l)=>(x,l,r) | []=>.none:aq (Option (t.ah×List Nat×List aD))).run H=some (x,l,r)->gl H l:=by
  intro t g az cs x l r h;cases cs with
  | nil=>cases h
  | cons c cs=>
   simp only[aq.map,aq.run_bind,aq.bx,Option.map_eq_some_iff,Prod.mk.injEq]at h;grind
 intro t;induction t with
 | bool=>intro cs x l r h;exact pR .bool (dz .bool) rI h
 | int k=>intro cs x l r h;exact pR (.int k) (dz (.int k)) rI h
 | str=>intro cs x l r h;exact pR .str (dz .str) rI h
 | cy=>
  intro cs x l r h;simp only[hY,aq.bx,Option.some.injEq,Prod.mk.injEq]at h;obtain⟨_,rfl,rfl⟩:=h;exact .nil H
 | st t aG=>intro cs x l r h;exact aG h
 | ax a b fa ei=>
  intro cs x l r h;simp only[hY,aq.eG,Option.bind_eq_some_iff,aq.bx,Option.some.injEq,Prod.mk.injEq]at h;obtain⟨⟨y,m,q⟩,h1,⟨z,c8,q'⟩,h2,rfl,rfl,rfl⟩:=h;exact (fa h1).append (ei h2)
 | slice e aG=>intro cs x l r h;exact pR (.slice e) (dz (.slice e)) rI h
 | array n e aG=>
  intro cs xs l r h;simp only[hY]at h;have key:∀ (n:Nat) {cs:List aD} {xs:List e.ah} {l:List Nat} {r:List aD},(n.rec (motive:=λ_=>List aD->aq (Option (List e.ah×List Nat×List aD))) (λcs=>.ret (some ([],[],cs)))
     (λ_ aG cs=>(hY e cs).cw λ(x,l,r)=>(aG r).cw λ(xs,m,q)=>.ret (some (x::xs,l++m,q))) cs).run H=some (xs,l,r)->gl H l:=by
   intro n;induction n with
   | zero=>intro cs xs l r h;cases h;exact .nil H
   | succ n Bw=>
    intro cs xs l r h;simp only[aq.eG,Option.bind_eq_some_iff,aq.bx,Option.some.injEq,Prod.mk.injEq]at h;obtain⟨⟨y,m,q⟩,h1,⟨z,c8,q'⟩,h2,rfl,rfl,rfl⟩:=h;exact (aG h1).append (Bw h2)
  grind
 | bq e aG=>intro cs x l r h;exact pR (.bq e) (sZ e (hY e)) (Rc aG) h
 | map k v wm wo=>intro cs x l r h;exact pR (.map k v) (dz (.map k v)) rI h
 | fn a b fa ei=>intro cs x l r h;exact pR (.fn a b) (dz (.fn a b)) rI h
 | b5 a aG=>intro cs x l r h;exact pR (.b5 a) (dz (.b5 a)) rI h
 | dO=>intro cs x l r h;exact pR .dO (dz .dO) rI h
theorem mv{H:Nat->bu}{t:ae}{av:aD}{x:t.ah}{l:List Nat}(h:(dc t av).run H=some (x,l)):gl H l:=by
 have bY:(j' t av).run H=some (x,l)->gl H l:=by
  intro h;unfold j' at h;split at h
  ·exact Rc (λh=>Re _ h) h
  ·split at h
   ·exact rI h
   ·cases h
 cases av with
 | val cC y=>
  simp only[dc,aq.bx,Option.map_eq_some_iff,Prod.mk.injEq]at h;obtain⟨z,a_,rfl,rfl⟩:=h;exact .nil H
 | agg n f=>
  simp only[dc]at h;split at h
  ·cases h
  ·simp only[aq.eG,Option.bind_eq_some_iff,aq.bx]at h;obtain⟨⟨y,m,q⟩,h1,h2⟩:=h;split at h2
   ·simp only[Option.some.injEq,Prod.mk.injEq]at h2;obtain⟨rfl,rfl⟩:=h2;exact Re t h1
   grind
 | _=>exact bY h
theorem yW(H:Nat->bu)(x:bu):eT H x=x\/(∃ e xs,x.body=.a7 e xs/\eT H x=⟨x.gen,.hf e xs⟩)\/(∃ k v es,x.body=.mp k v es/\eT H x=⟨x.gen,.iU k v es⟩)\/
  ∃ t f y m,x.body=.cells t f/\(hY t ((List.range t.size).map f)).run H=some (y,m,[])/\eT H x=⟨x.gen,.gi t y⟩:=by
 cases hx:x.body with
 | a7 e xs=>exact .inr (.inl ⟨e,xs,rfl,by simp[eT,hx]⟩)
 | mp k v es=>exact .inr (.inr (.inl ⟨k,v,es,rfl,by simp[eT,hx]⟩))
 | cells t f=>
  cases az:(hY t ((List.range t.size).map f)).run H with
  | none=>exact .inl (by simp[eT,hx,az])
  | some z=>
   obtain⟨y,m,r⟩:=z;cases r with
   | nil=>exact .inr (.inr (.inr ⟨t,f,y,m,rfl,az,by simp[eT,hx,az]⟩))
   | cons c r=>exact .inl (by simp[eT,hx,az])
 | _=>exact .inl (by simp[eT,hx])
theorem acF{H:Nat->bu}{x:bu}{k:bm}(h:(eT H x).body.bL k=true):(x.body.bL k=true/\eT H x=x):=by
 rcases yW H x with e | ⟨_,_,_,e⟩ | ⟨_,_,_,_,e⟩ | ⟨_,_,_,_,_,_,e⟩
 ·grind
 all_goals rw[e]at h;cases h
theorem Rf(s:ay)(l:List Nat)(κ:Nat->bm):eZ s.ad κ (s.cb l).ad κ:=by
 rw[Bq];intro b;simp only[ay.cb];split
 ·rcases yW s.ad (s.ad b) with e | ⟨_,_,hx,e⟩ | ⟨_,_,_,hx,e⟩ | ⟨_,_,_,_,hx,_,e⟩
  ·rw[e];exact pO.refl _ _
  ·rw[e];exact⟨Nat.le_refl _,λ_=>⟨λh=>(by cases h),λ_=>⟨by rw[hx];rfl,rfl,by rw[hx];rfl,by rw[hx];rfl⟩,λh=>(by cases h),λh=>(by cases h)⟩⟩
  ·rw[e];exact⟨Nat.le_refl _,λ_=>⟨λh=>(by cases h),λh=>(by cases h),λ_=>⟨by rw[hx];rfl,rfl⟩,λh=>(by cases h)⟩⟩
  ·rw[e];exact⟨Nat.le_refl _,λ_=>⟨λ_=>⟨by rw[hx];rfl,rfl⟩,λh=>(by cases h),λh=>(by cases h),λh=>(by cases h)⟩⟩
 ·exact pO.refl _ _
theorem ba.kS{C:bQ}{a:Act}{w:World}{κ:Nat->bm}{l:List Nat}{s:ay}{F:Nat->Prop}(lq:gl s.ad l)(h:ba C s a w κ F) :
  ∃ F',(∀ r,F r->F' r)/\ba C (s.cb l) a w κ F'/\iF s.ad κ F' l:=by
 let F':Nat->Prop:=λr=>F r\/∃ b∈l,(s.ad b).body.bL (κ b)=true/\(κ b).ad=r;have bb:∀ r,F r->F' r:=λr V=>.inl V;have s_:iF s.ad κ F' l:=λb ab ag=>.inr ⟨b,ab,ag,rfl⟩;have JP:∀ b,((s.cb l).ad b).body.bL (κ b)=true->b ∉ l/\(s.ad b).body.bL (κ b)=true:=by
  intro b ab;simp only[ay.cb]at ab;by_cases ij:b∈l
  ·rw[if_pos ij]at ab;obtain⟨aO,aP⟩:=acF ab;exfalso;obtain⟨c1,c2⟩:=lq b ij;cases hx:(s.ad b).body with
   | a7 e xs=>simp[eT,hx,bB.bL]at ab
   | mp k v es=>simp[eT,hx,bB.bL]at ab
   | cells t f=>
    obtain⟨y,m,g,_⟩:=c2 t f hx;simp[eT,hx,g,bB.bL]at ab
   | b5 k v c r=>rw[hx]at c1;cases c1
   | fN e xs i v=>rw[hx]at c1;cases c1
   | _=>rw[hx]at aO;cases aO
  grind
 have ai:=Rf s l κ;refine⟨F',bb,?_,s_⟩;refine h.move ai bb (λr V=>V.imp id λ⟨b,_,h1,h2⟩=>.inl ⟨b,h1,h2⟩) (Nat.le_refl _) (λ_ _ _=>rfl) (cM.refl _) (λ_ b=>?_) (λb ab=>?_) (λb aZ ab cS e=>h.inj b aZ (JP b ab).2 (JP aZ cS).2 e) (λr V=>?_) (λb _ ab=>⟨rfl,?_⟩)
 ·show cg C.P (s.cb l).ad κ F' w b;by_cases ij:b∈l
  ·have aN:=h.bn b;have JQ:(s.cb l).ad b=eT s.ad (s.ad b):=by simp[ay.cb,ij]
   have kP:eT s.ad (s.ad b)=s.ad b->cg C.P (s.cb l).ad κ F' w b:=λe=>cg.kP aN ai bb (cG.refl _ _) (by grind) rfl λ_=>rfl;cases hx:(s.ad b).body with
   | a7 e xs=>
    unfold cg at aN ⊢;rw[hx]at aN;rw[JQ];simp only[eT,hx,jm];exact Jx aN bb λaA=>s_ b ij (by rw[hx];simp[bB.bL,aA])
   | mp k v es=>
    unfold cg at aN ⊢;rw[hx]at aN;rw[JQ];simp only[eT,hx,jm];exact QM aN bb (s_ b ij (by rw[hx];rfl))
   | cells t f=>
    obtain⟨y,m,g,an⟩:=(lq b ij).2 t f hx;unfold cg at aN ⊢;rw[hx]at aN;rw[JQ];simp only[eT,hx,g,jm];obtain⟨cs,T,aO,aP,bA⟩:=aN;have ie:dW C.P s.ad κ F w ((List.range t.size).map f) cs.toList:=Bv (by omega) λi G=>by
     simp_all
    obtain⟨c,d,Jz,c1,c2⟩:=JA h.bn bb t g (λc hc=>s_ c (an c hc)) ie;cases d with
    | cons _ _=>exact c2.elim
    | nil=>
     rw[List.append_nil]at Jz;refine⟨c,⟨s_ b ij (by rw[hx];rfl),rfl,λj aC=>?_⟩,c1⟩;have fz:j<cs.size:=by grind
     simp only[World.cell?,aO,Nat.zero_add,Option.isSome_none,Bool.false_eq_true,if_false,Array.getElem?_eq_getElem fz];grind
   | _=>exact kP (by simp[eT,hx])
  ·exact cg.kP (h.bn b) ai bb (cG.refl _ _) (by simp[ay.cb,ij]) rfl λ_=>rfl
 ·obtain⟨aO,aP⟩:=JP b ab;have ag:=h.own b aP;refine⟨ag.1,λar=>?_,.inl ⟨b,aP,rfl⟩⟩;rcases ar with ar | ⟨b0,m1,m2,m3⟩
  ·grind
  ·exact aO (h.inj b b0 aP m2 m3.symm ▸ m1)
 ·rcases V with V | ⟨b,_,ab,rfl⟩
  ·exact h.cL r V
  ·exact (h.own b ab).1
 ·split at ab
  ·rcases yW s.ad (s.ad b) with e | ⟨_,_,hx,e⟩ | ⟨_,_,_,hx,e⟩ | ⟨_,_,_,_,hx,_,e⟩
   ·grind
   ·rw[e]at ab;simp[bB.fm,bB.gz]at ab
   ·rw[hx];exact .inr rfl
   ·rw[hx];exact .inl rfl
  omega
section
variable {C:bQ} {T:Nat->ae} {a1:Nat->Option aJ} {o:Oper} {s:ay} {res:dY}
theorem ba.gN{a:Act}{w:World}{κ:Nat->bm}{F:Nat->Prop}(h:ba C s a w κ F){b:Nat}(ab:b<C.nt):b<eu:=Nat.lt_of_lt_of_le ab h.fO
theorem ba.newVar{a:Act}{w:World}{κ:Nat->bm}{F:Nat->Prop}(h:ba C s a w κ F){b:Nat}(Bt:b<eu){t:ae}{l:List aD}{cs:List Value}{ty:TypeId}(ai:dW C.P s.ad κ F w l cs)(aH:l.length=t.size) :
  ∃ κ',ba C (s.b' b ⟨(s.ad b).gen+1,.cells t (gM l)⟩) a (w.alloc (.cells cs.toArray ty)) κ' F/\(κ' b).ad=w.heap.size:=by
 refine⟨_,h.alloc (k:=⟨w.heap.size,0,0,false⟩) Bt (Nat.lt_succ_self _) rfl λH κ' mw Bs bZ=>?_,by simp⟩;refine⟨cs.toArray,ty,pP _ _,by simp[<-ai.len,aH],λi G=>?_⟩;have:=ai.ku i (by omega);have e:cs.toArray.getD i Go.undef=cs.getD i Go.undef:=by simp
 rw[e];exact⟨bk.later bZ (λ_ V=>V) (cG.alloc h.cL _) this.1,this.2⟩
theorem BO(t:ae){P:Program}{z:Value}(h:jR t z.cells.toList=some []):(rC t).length=t.size/\z.cells.size=t.size:=by
 obtain⟨c,e,h1,h2⟩:=uG (P:=P) (H:=λ_=>⟨0,.fb⟩) (κ:=λ_=>⟨0,0,0,true⟩) (F:=λ_=>True) (w:=default) t h;rw[List.append_nil]at e;have:=ht t h1;have:=h2.len;grind
theorem acG(hT:dw C.P T){ty:TypeId}(a6:∀ i,o.dst=some i->i<C.nt)(ag:o.op=.alloc ty)(h:(bf C.aL T a1 (aT C.aL s.aw) o).run s.ad=some res)(pT:T ty≠.cy):cm C o s res:=by
 simp only[bf,ag]at h;obtain⟨b,au,ao⟩:=qD h;simp only[if_neg pT,Option.some.injEq]at ao;subst ao;intro a w κ F Q V _ _;have cV:=hT.bS rfl pT;obtain⟨i,z,h1,h2,h3,aR,bw,cY⟩:=kc cV.ka;obtain⟨c,e,n2,z2⟩:=uG (P:=C.P) (H:=s.ad) (κ:=κ) (F:=F) (w:=w) (T ty) bw;rw[List.append_nil]at e;have a_:=BO (T ty) (P:=C.P) bw;obtain⟨κ',bX,cn⟩:=V.newVar (b:=b) (V.gN (a6 b au)) (t:=T ty) (ty:=ty) z2 a_.1;have cH:(execOp a.eval o).run C.P w=.ok (.value (.pointer (some ⟨w.heap.size,0,none⟩))) (w.alloc (.cells c.toArray ty)):=by
  have yX:z.cells=c.toArray:=by grind
  simp[execOp,ag,Instr.alloc,qB h1 aR,newVar,newRow,yX]
 refine gY (by grind) cH ⟨κ',F,ba.set (s:=s.b' b _) bX a6 ⟨⟨?_,rfl⟩,λ_ _=>?_⟩⟩
 ·simp[ay.b']
 grind
theorem JR{P:Program}{H:Nat->bu}{κ:Nat->bm}{F:Nat->Prop}{w:World}{t:ae}{av:aD}{v:Value}{l:List aD}(h:cellsOf t av=some l)(hv:bk P H κ F w av v):dW P H κ F w l v.cells.toList:=by
 unfold cellsOf at h;split at h
 ·rename_i cC x;split at h
  ·rename_i he;subst he;simp only[Option.some.injEq]at h;subst h;obtain⟨⟨cs,rfl,_⟩,hc⟩:=hv;simp only[bt]at hc;exact yI _ hc
  grind
 ·rename_i n f;split at h
  ·simp only[Option.some.injEq]at h;subst h;obtain⟨aB,rfl,h1,h2⟩:=hv;exact Bv h1 h2
  grind
 ·rename_i n e iH aS x;split at h
  ·simp only[Option.some.injEq]at h;subst h;obtain⟨⟨cs,rfl,_⟩,hc⟩:=hv;exact yI _ hc
  grind
 ·rename_i n e m f;split at h
  ·simp only[Option.some.injEq]at h;subst h;obtain⟨aB,rfl,h1,h2⟩:=hv;exact Bv h1 h2
  grind
 ·split at h
  ·have one:v.oneCell'=true->l=[av]->dW P H κ F w l v.cells.toList:=by
    intro h1 h2;subst h2;rw[EL h1];exact⟨⟨hv,h1⟩,trivial⟩
   split at h
   ·rename_i cC x;split at h
    ·rename_i yT;obtain⟨aO,aP⟩:=(dx yT).1 hv;exact one (Ju yT aP) (Option.some.inj h).symm
    grind
   ·exact one hv.1.2 (Option.some.inj h).symm
   ·exact one hv.1.2 (Option.some.inj h).symm
   ·exact one hv.1.2 (Option.some.inj h).symm
   ·refine one ?_ (Option.some.inj h).symm;obtain⟨p,a8,rfl,_⟩:=hv;rfl
   ·exact one hv.1.2 (Option.some.inj h).symm
   ·refine one ?_ (Option.some.inj h).symm;obtain⟨aB,rfl,_⟩:=hv;rfl
   ·refine one ?_ (Option.some.inj h).symm;simp only[bk]at hv;subst hv;rfl
   ·exact one hv.1.2 (Option.some.inj h).symm
   ·cases h
   ·cases h
   ·refine one ?_ (Option.some.inj h).symm;simp only[bk]at hv;subst hv;cases v<;>first | rfl | grind | grind | grind | grind
   grind
  grind
end
end Go.Fer
namespace Go.Fer
open Go.RowKit
theorem E7:∀ (l:List Value) (k off:Nat) (cs:Array Value),off+k+l.length<=cs.size->
  ((l.zipIdx k).foldl (λ(cs:Array Value) (p:Value×Nat)=>cs.setIfInBounds (off+p.2) p.1) cs).toList=cs.toList.take (off+k)++(l++cs.toList.drop (off+k+l.length))
 | [],k,off,cs,h=>by simp
 | c::l,k,off,cs,h=>by
  simp only[List.zipIdx_cons,List.foldl_cons];have bU:(cs.setIfInBounds (off+k) c).size=cs.size:=by simp
  rw[E7 l (k+1) off _ (by grind)];simp only[Array.toList_setIfInBounds,List.length_cons]at h ⊢;have bZ:off+k<cs.toList.length:=by grind
  rw[show off+(k+1)=(off+k)+1 from by omega];rw[List.take_set,List.drop_set];rw[if_pos (by omega)];have h1:(cs.toList.take (off+k+1)).set (off+k) c=cs.toList.take (off+k)++[c]:=by
   rw[List.take_succ_eq_append_getElem bZ,List.set_append_right _ _ (by grind)];have BP:min (off+k) cs.size=off+k:=Nat.min_eq_left (by omega);simp[BP]
  grind
section
variable {P:Program} {w:World}
theorem acH(w:World)(b off:Nat)(v:Value){cs:Array Value}{T:TypeId}{eT:Nat×Nat}(h:w.heap[b]?=some (.cells cs T eT)) :
  (w.setCell ⟨b,off,none⟩ v).heap[b]?=some (.cells (cs.setIfInBounds off v) T eT):=by
 simp[World.setCell,Array.getElem?_modify,h]
theorem uM{b:Nat}{T:TypeId}:∀ (aB:List Value) (off i:Nat) (w:World) (cs:Array Value),w.heap[b]?=some (.cells cs T (0,0))->off+i+aB.length<=cs.size->(∀ v∈aB,v.oneCell'=true)->
  ∃ w' cO,(storeCells ⟨b,off,none⟩ aB i).run P w=.ok () w'/\w'.heap[b]?=some (.cells cO T (0,0))/\cO.toList=cs.toList.take (off+i)++(aB++cs.toList.drop (off+i+aB.length))/\
   (∀ r,r≠b->w'.heap[r]?=w.heap[r]?)/\w'.heap.size=w.heap.size/\cM w w'
 | [],off,i,w,cs,h,_,_=>⟨w,cs,by rfl,h,by simp,λ_ _=>rfl,rfl,cM.refl w⟩
 | v::aB,off,i,w,cs,h,ai,hv=>by
  have bZ:off+i<cs.size:=by grind
  have hc:w.cell? ⟨b,off+i,none⟩=some cs[off+i]:=by rw[uL h];simp
  have ar:w.frozen? ⟨b,off+i,none⟩=false:=by simp[World.frozen?,h]
  have h1:=acH w b (off+i) v h;obtain⟨w',cO,bX,cn,dS,lr,ls,lY⟩:=uM aB off (i+1) (w.setCell ⟨b,off+i,none⟩ v) _ h1 (by grind) (λu hu=>hv u (by grind));refine⟨w',cO,?_,cn,?_,?_,by simp_all,cM.trans (b:=w.setCell ⟨b,off+i,none⟩ v) ⟨rfl,rfl,rfl⟩ lY⟩
  ·simp only[storeCells,Sem.run_bind,uJ,run_store P w _ v _ (hv v (by simp)),hc,ar,Bool.false_eq_true,if_false,Result.andThen_ok];exact bX
  ·rw[dS];have:=E7 [v] 0 (off+i) cs (by grind);simp only[List.zipIdx_cons,List.zipIdx_nil,List.foldl_cons,List.foldl_nil,Nat.add_zero,List.length_singleton]at this;rw[this];have e1:(cs.toList.take (off+i)).length=off+i:=by grind
   rw[List.take_append,List.drop_append,e1];simp only[show off+(i+1) - (off+i)=1 from by omega,show off+(i+1)+aB.length - (off+i)=aB.length+1 from by omega];have e2:List.take (off+(i+1)) (cs.toList.take (off+i))=cs.toList.take (off+i):=List.take_of_length_le (by omega);have e3:List.drop (off+(i+1)+aB.length) (cs.toList.take (off+i))=[]:=List.drop_of_length_le (by omega);rw[e2,e3];simp only[List.length_cons,List.nil_append,List.append_assoc,List.cons_append];simp only[List.take_succ_cons,List.take_zero,List.drop_succ_cons,List.drop_drop,List.cons_append,List.nil_append];grind
  ·intro r V;rw[lr r V];exact Below.heap_setCell _ _ _ _ (by omega)
end
section
variable {C:bQ} {T:Nat->ae} {a1:Nat->Option aJ} {o:Oper} {s:ay} {res:dY}
theorem acI{ty:TypeId}{x:Operand}(a6:∀ i,o.dst=some i->i<C.nt)(ag:o.op=.box ty x)(h:(bf C.aL T a1 (aT C.aL s.aw) o).run s.ad=some res):cm C o s res:=by
 simp only[bf,ag]at h;split at h
 ·rename_i l ai;obtain⟨b,au,ao⟩:=qD h;split at ao;case isFalse=>cases ao
  rename_i hlen;simp only[Option.some.injEq]at ao;subst ao;intro a w κ F Q V aY _;have hv:=ct V x rfl aY;obtain⟨κ',bX,cn⟩:=V.newVar (b:=b) (V.gN (a6 b au)) (t:=T ty) (ty:=ty) (JR ai hv) hlen;have cH:(execOp a.eval o).run C.P w=.ok (.value (.pointer (some ⟨w.heap.size,0,none⟩))) (w.alloc (.cells (a.eval x).cells.toList.toArray ty)):=by
   simp[execOp,ag,Instr.box,newVar,newRow]
  refine gY (by grind) cH ⟨κ',F,ba.set (s:=s.b' b _) bX a6 ⟨⟨?_,rfl⟩,λ_ _=>?_⟩⟩
  ·simp[ay.b']
  grind
 ·cases h
theorem acJ{P:Program}:∀ (t:ae) {l:List Field} {off:Nat},ch P t (.inr (l,off))=true->∀ f∈l,∃ s,bP P s f.type:=by
 intro t;induction t with
 | ax a b fa ei=>
  intro l off h;match l,h with
  | [],h=>simp
  | [x],h=>simp only[ch,Bool.false_eq_true]at h
  | [x,y],h=>
   simp only[ch,Bool.and_eq_true]at h;intro f ar;simp only[List.mem_cons,List.not_mem_nil,or_false]at ar;rcases ar with rfl | rfl
   ·exact⟨a,h.1.1.1.2⟩
   ·exact⟨b,h.2.1.1.2⟩
  | x::y::z::l,h=>
   simp only[ch,Bool.and_eq_true]at h;intro f ar;rcases List.mem_cons.1 ar with rfl | ar
   ·exact⟨a,h.1.1.1.2⟩
   grind
 | _=>intro l off h;simp only[ch,Bool.false_eq_true]at h
theorem bP.acK{P:Program}{t:ae}{id:TypeId}(h:bP P (.st t) id){ez:Array Field}(iW:P.underlying id=some (.struct ez)):∀ f∈ez.toList,∃ s,bP P s f.type:=by
 obtain⟨_,_,h3,aR⟩:=h.BG;rw[iW]at aR;simp only[Option.some.injEq,TypeDesc.struct.injEq]at aR;rw[<-aR]at h3;rcases h3 with h3 | ⟨f,e,_,h3,_⟩ | ⟨_,e⟩
 ·exact acJ t h3
 ·rw[e];intro g az;simp only[List.mem_singleton]at az;subst az;exact⟨t,h3⟩
 ·rw[e];intro g az;cases az
theorem dW.replace{P:Program}{H:Nat->bu}{κ:Nat->bm}{F:Nat->Prop}{w:World}{as l:List aD}{us aB:List Value}(h:dW P H κ F w as us)(k:dW P H κ F w l aB)(off:Nat) :
  dW P H κ F w (as.take off++(l++as.drop (off+l.length))) (us.take off++(aB++us.drop (off+aB.length))):=by
 have BQ:∀ {as:List aD} {us:List Value} (n:Nat),dW P H κ F w as us->dW P H κ F w (as.take n) (us.take n):=by
  intro as;induction as with
  | nil=>intro us n h;cases us<;>first | exact h.elim | grind
  | cons a as aG=>intro us n h;cases us with
   | nil=>exact h.elim
   | cons u us=>cases n with
    | zero=>trivial
    | succ n=>exact⟨h.1,aG n h.2⟩
 have acL:∀ {as:List aD} {us:List Value} (n:Nat),dW P H κ F w as us->dW P H κ F w (as.drop n) (us.drop n):=by
  intro as;induction as with
  | nil=>intro us n h;cases us<;>first | exact h.elim | grind
  | cons a as aG=>intro us n h;cases us with
   | nil=>exact h.elim
   | cons u us=>cases n with
    | zero=>exact h
    | succ n=>exact aG n h.2
 rw[<-k.len];exact (BQ off h).append (k.append (acL _ h))
theorem Rg{P:Program}{H:Nat->bu}{κ:Nat->bm}{F:Nat->Prop}{w:World}{t:ae}{id:TypeId}{ez:Array Field}(cV:bP P (.st t) id)(iW:P.underlying id=some (.struct ez)){place:Nat->Option (Nat×Nat)}
  (rJ:∀ i f s,ez[i]?=some f->bP P s f.type->place i=some (f.offset,s.size)):∀ (ps:List (Nat×aD)) (qs:List (Nat×Value)) {as E8:List aD} {cs:Array Value},dW P H κ F w as cs.toList->EU t as ps=some E8->
  ps.length=qs.length->(∀ i (h:i<ps.length) (cZ:i<qs.length),ps[i].1=qs[i].1/\bk P H κ F w ps[i].2 qs[i].2)->∃ cO,Instr.fill place cs qs=some cO/\dW P H κ F w E8 cO.toList
 | [],[],as,E8,cs,aU,ar,_,_=>by cases ar;exact⟨cs,rfl,aU⟩
 | (i,av)::ps,(kR,v)::qs,as,E8,cs,aU,ar,hlen,fj=>by
  have h0:=fj 0 (by simp) (by simp);simp only[List.getElem_cons_zero]at h0;obtain⟨rfl,hv⟩:=h0;simp only[EU]at ar;split at ar
  ·cases ar
  ·rename_i s off ta;split at ar
   ·cases ar
   ·rename_i l ai;split at ar
    ·rename_i hc;obtain⟨awx,np,f1,f2,f3,f4,f5⟩:=cV.field ta;rw[iW]at f1;simp only[Option.some.injEq,TypeDesc.struct.injEq]at f1;subst f1;have hp:=rJ i np s f2 f4;rw[f3]at hp;have ie:=JR ai hv;have bU:v.cells.size=s.size:=by have:=ie.len;grind
     have oR:as.length=cs.size:=by simpa using aU.len
     have E9:=E7 v.cells.toList 0 off cs (by grind);have e:(v.cells.zipIdx.foldl (λ(cs:Array Value) (p:Value×Nat)=>cs.setIfInBounds (off+p.2) p.1) cs)=((v.cells.toList.zipIdx 0).foldl (λ(cs:Array Value) (p:Value×Nat)=>cs.setIfInBounds (off+p.2) p.1) cs):=by
      rw[<-Array.foldl_toList];simp
     have acM:=aU.replace ie off;rw[hc.1]at acM;obtain⟨cO,aO,aP⟩:=Rg cV iW rJ ps qs (cs:=v.cells.zipIdx.foldl (λ(cs:Array Value) (p:Value×Nat)=>cs.setIfInBounds (off+p.2) p.1) cs) (by rw[e,E9];omega) ar (by grind)
      (λj h cZ=>by have:=fj (j+1) (by grind) (by grind);grind)
     refine⟨cO,?_,aP⟩;simp only[Instr.fill,hp];grind
    grind
 | [],_::_,_,_,_,_,_,hlen,_=>by grind
 | _::_,[],_,_,_,_,_,hlen,_=>by grind
theorem Rh:∀ {l:List (Nat×aD)},rE l->∀ i (h:i<l.length),(use l[i].2).1
 | a::l,h,0,_=>by
  obtain⟨n,a⟩:=a;cases a<;>first | trivial | exact h.1
 | a::l,h,i+1,G=>by
  have cZ:rE l:=by obtain⟨n,a⟩:=a;cases a<;>first | exact h | exact h.2
  have:=Rh cZ i (by grind);grind
theorem JS{a:Act}{w:World}{κ:Nat->bm}{F:Nat->Prop}(V:ba C s a w κ F)(ps:List (Nat×Operand))(aY:rE (ps.map λp=>(p.1,aT C.aL s.aw p.2))) :
  ∀ i (h:i<(ig (ps.map λp=>(p.1,aT C.aL s.aw p.2))).length) (cZ:i<(ps.map λp=>(p.1,a.eval p.2)).length),(ig (ps.map λp=>(p.1,aT C.aL s.aw p.2)))[i].1=(ps.map λp=>(p.1,a.eval p.2))[i].1/\bk C.P s.ad κ F w (ig (ps.map λp=>(p.1,aT C.aL s.aw p.2)))[i].2 (ps.map λp=>(p.1,a.eval p.2))[i].2:=by
 intro i h cZ;have G:i<ps.length:=by grind
 have h1:=Rh aY i (by grind);simp only[List.getElem_map]at h1;refine⟨by simp[ig],?_⟩;simp only[ig,List.getElem_map];exact oQ (jU V _) h1
theorem acN(hT:dw C.P T){ty:TypeId}{ps:Array (Nat×Operand)}(a6:∀ i,o.dst=some i->i<C.nt)(ag:o.op=.build ty ps)(E_:∀ m e,T ty≠.array m e)(h:(bf C.aL T a1 (aT C.aL s.aw) o).run s.ad=some res):cm C o s res:=by
 obtain⟨ps⟩:=ps;simp only[bf,ag]at h;split at h
 ·rename_i t aH;have cV:=hT.bS aH (by simp);split at h
  ·rename_i cs oR;simp only[bz,aq.bx,Option.some.injEq]at h;subst h;refine cm.pure (by grind) a6 λa w κ F V aY _=>?_;obtain⟨ez,iW⟩:=cV.st;obtain⟨i,z,h1,h2,h3,aR,bw,cY⟩:=kc cV.ka;obtain⟨c,e,n2,z2⟩:=uG (P:=C.P) (H:=s.ad) (κ:=κ) (F:=F) (w:=w) (.st t) bw;rw[List.append_nil]at e;have acO:=cV.acK iW;have an:=ChangeMaps.mapM_total (f:=λ(f:Field)=>(C.P.info? f.type).map λi=>(f.offset,i.size)) (0,0) (l:=ez.toList) (λf ar=>by
    obtain⟨s',rK⟩:=acO f ar;obtain⟨kR,_,yY,_⟩:=kc rK.ka;simp_all)
   have rJ:=run_places (P:=C.P) w ez.toList _ an;obtain⟨cO,aO,aP⟩:=Rg (w:=w) cV iW (place:=λj=>((ez.toList.map λf=>((C.P.info? f.type).map λi=>(f.offset,i.size)).getD (0,0)))[j]?)
    (λj f s' aC rK=>by
     obtain⟨kR,_,yY,wL,_⟩:=kc rK.ka;grind)
    _ _ (by rw[e];exact z2) oR (by simp[ig]) (JS V ps aY)
   have hlen:cs.length=cO.size:=by simpa using aP.len
   refine⟨.agg cO,?_,cO.toList,by simp,by grind,λj aC=>?_⟩
   ·have JT:(ez.mapM λf=>do pure (f.offset,<-sizeOf f.type):Sem (Array (Nat×Nat))).run C.P w=.ok (ez.toList.map λf=>((C.P.info? f.type).map λi=>(f.offset,i.size)).getD (0,0)).toArray w:=by
     rw[Array.mapM_eq_mapM_toList];simp[rJ]
    simp only[execOp,ag,Instr.build,Sem.run_bind,qB h1 aR,Result.andThen_ok,df iW,JT];simp_all
   ·have:=aP.ku j aC;omega
  ·cases h
 ·rename_i aH;exact absurd aH (E_ _ _)
 ·cases h
end
end Go.Fer
namespace Go.Fer
open Go.RowKit
section
variable {C:bQ} {T:Nat->ae} {a1:Nat->Option aJ} {o:Oper} {s:ay} {res:dY}
theorem JU{P:Program}{w w':World}{t:ae}{id:TypeId}(h:bP P t id){p:Addr}{v:Value}(bU:v.cells.size=t.size)(hs:(storeCells p v.cells.toList).run P w=.ok () w'):(storeVar id p v).run P w=.ok () w':=by
 simp[storeVar,h.size,bU,hs]
theorem acP(hT:dw C.P T){ty:TypeId}{x y:Operand}(a6:o.dst=none)(ag:o.op=.store ty x y)(h:(bf C.aL T a1 (aT C.aL s.aw) o).run s.ad=some res):cm C o s res:=by
 simp only[bf,ag]at h;split at h
 ·rename_i cd b g i hx;unfold JE at h;split at h
  ·rename_i aZ g' aM;simp only[aq.eF,aq.bx]at h;split at h
   ·rename_i e xs kR v bD;split at h
    ·rename_i hc;obtain⟨az,ai⟩:=hc;simp only[Option.some.injEq]at h;subst h;intro a w κ F Q V aY G;have G:i=kR:=G;subst G;have h1:=(ct V x hx aY.1).2 az.symm (by rw[bD];rfl);have hv:=ct V y (av:=.own aZ g') (p:=(use (aT C.aL s.aw y)).1) (by rw[<-aM]) aY.2;have aN:=V.bn b;unfold cg at aN;rw[bD]at aN h1;obtain⟨h0,cs,hB,c1,c2,c3,c4,c5,lp,n1,wJ⟩:=aN;have cV:=hT.bS (t:=T ty) rfl (by intro e;rw[e]at ai;cases ai);have s8:=EL hv.1.2;have bU:(a.eval y).cells.size=(T ty).size:=by
      rw[s8];cases aH:T ty<;>simp_all[ae.ea,ae.size]
     have kT:(κ b).off+i<cs.size:=by
      have:i<(κ b).cap:=by omega
      rw[c5.1]at c2;omega
     have hp:a.eval x=.pointer (some ⟨(κ b).ad,(κ b).off+i,none⟩):=by rw[h1.2.2];simp[bB.eE,c5.1]
     obtain⟨w',cO,bX,cn,dS,lr,ls,lY⟩:=uM (P:=C.P) (a.eval y).cells.toList ((κ b).off+i) 0 w cs c1 (by rw[s8];simp;omega) (λu hu=>by rw[s8]at hu;simp at hu;rw[hu];exact hv.1.2);refine E3 (w':=w') (by grind) (by simp[execOp,ag,hp,Instr.storeAt,Instr.sureAddr,JU cV bU bX]) ?_;rw[a6];refine⟨κ,F,?_⟩;have fS:eZ s.ad κ (λq=>if q=b then (⟨(s.ad b).gen,.fN e xs i (.own aZ g')⟩:bu) else s.ad q) κ:=
      qx rfl (λh=>by cases h) (λ_=>by rw[bD];exact⟨rfl,rfl,rfl⟩) (λh=>by cases h) (λh=>by cases h)
     refine (V.oO (b:=b) (x:=⟨(s.ad b).gen,.fN e xs i (.own aZ g')⟩) (by rw[bD];simp[bB.bL,h0]) (by simp[bB.bL,h0]) fS (λh=>by cases h) (λh=>by cases h) lr ls lY λH mw bZ he=>?_);rw[s8]at dS;simp only[Nat.add_zero]at dS;have eA:∀ k,cO[k]?=if k=(κ b).off+i then some (a.eval y) else cs[k]?:=by
      intro k;rw[<-Array.getElem?_toList,dS];have kx:(cs.toList.take ((κ b).off+i)).length=(κ b).off+i:=by rw[List.length_take,Array.length_toList];omega
      rcases Nat.lt_trichotomy k ((κ b).off+i) with ao | ao | ao
      ·rw[if_neg (by omega),List.getElem?_append_left (by omega),List.getElem?_take_of_lt ao,Array.getElem?_toList]
      ·rw[if_pos ao,List.getElem?_append_right (by omega),kx,ao];simp
      ·rw[if_neg (by omega),List.getElem?_append_right (by omega),kx,List.getElem?_append_right (by simp;omega),List.getElem?_drop];simp only[List.length_cons,List.length_nil];rw[show (κ b).off+i+(0+1)+(k - ((κ b).off+i) - (0+1))=k from by omega,Array.getElem?_toList]
     have E':cO.size=cs.size:=by
      rw[<-Array.length_toList,dS];grind
     have yZ:cO.getD ((κ b).off+i) Go.undef=a.eval y:=by
      rw[Array.getD_eq_getD_getElem?,eA];simp
     refine⟨h0,cO,hB,cn,by omega,c3,c4,c5,λj aC qw=>?_,by rw[yZ];exact bk.later bZ (λ_ V=>V) he hv,by rw[yZ];exact hv.1.2⟩;obtain⟨a8,d1,d2⟩:=lp j aC qw;refine⟨a8,λq be=>?_,eP e (λ_ V=>V) he d2⟩;have tb:q=0:=by have:=ht e d2;omega
     subst tb;rw[eA,if_neg (by rw[c5.1];omega)];exact d1 0 be
    ·cases h
   ·cases h
  ·cases h
 rename_i cd dC acQ hx;simp only[aq.eG,Option.bind_eq_some_iff,aq.bx,Option.some.injEq]at h;obtain⟨wl,lu,rfl⟩:=h;have JV:cd=(use (aT C.aL s.aw x)).1:=by rw[hx]
 have Fa:dC=(use (aT C.aL s.aw x)).2:=by rw[hx]
 subst JV;subst Fa;clear hx acQ;intro a w κ F Q V aY _;have hp:bk C.P s.ad κ F w (use (aT C.aL s.aw x)).2 (a.eval x):=ct V x rfl aY.1;have hv:bk C.P s.ad κ F w (use (aT C.aL s.aw y)).2 (a.eval y):=ct V y rfl aY.2;generalize (use (aT C.aL s.aw x)).2=acR at *
 generalize (use (aT C.aL s.aw y)).2=ke at *
 have au:∀ c,o.op≠.defer c:=by grind
 have fin:∀ w',(Instr.storeAt ty (a.eval x) (a.eval y)).run C.P w=.ok () w'->b9 C (s.fH wl) a w'->o.wpIn (dv C.r) 0 C.P a w (λa' w'=>b9 C (s.hP o.dst ⟨(use (aT C.aL s.aw x)).1/\(use (aT C.aL s.aw y)).1,True,.undef,wl⟩) a' w') Q:=by
  intro w' h1 h2;refine E3 (w':=w') au (by simp[execOp,ag,h1]) ?_;rw[a6];exact h2
 unfold QR at lu;cases acR with
 | loc b g off=>
  simp only[aq.eF,aq.bx]at lu;split at lu
  ·rename_i az;split at lu
   ·rename_i n f bD;simp only[Option.bind_eq_some_iff]at lu;obtain⟨l,ai,lu⟩:=lu;split at lu
    ·rename_i hc;simp only[Option.some.injEq]at lu;subst lu;have acS:=hp.2 az.symm (by rw[bD];rfl);have ie:=JR ai hv;have aN:=V.bn b;unfold cg at aN;rw[bD]at aN;obtain⟨cs,hB,c1,c2,c3⟩:=aN;have hlen:=ie.len;have nu:∀ u∈(a.eval y).cells.toList,u.oneCell'=true:=by
      intro u hu;obtain⟨i,G,rfl⟩:=List.mem_iff_getElem.1 hu;have:=(ie.ku i (by omega)).2;grind
     obtain⟨w',cO,bX,cn,dS,lr,ls,lY⟩:=uM (P:=C.P) (a.eval y).cells.toList off 0 w cs c1 (by omega) nu;have bU:(a.eval y).cells.size=(T ty).size:=by grind
     have uN:T ty≠.cy:=by
      intro e;rw[e]at ai;cases ke<;>simp[cellsOf,ae.ea]at ai
     refine fin w' (by rw[acS];simp[Instr.storeAt,Instr.sureAddr,JU (hT.bS rfl uN) bU bX]) ⟨κ,F,?_⟩;have fS:eZ s.ad κ (λi=>if i=b then (⟨(s.ad b).gen,.cells n (putCells f off l)⟩:bu) else s.ad i) κ:=
      qx rfl (λ_=>by rw[bD];rfl) (λh=>by cases h) (λh=>by cases h) (λh=>by cases h)
     refine (V.oO (b:=b) (x:=⟨(s.ad b).gen,.cells n (putCells f off l)⟩) (by rw[bD];rfl) rfl fS (λ_=>by rw[bD];rfl) (λh=>by cases h) lr ls lY λH mw bZ he=>?_);have E':cO.size=n.size:=by
      rw[<-Array.length_toList,dS];grind
     refine⟨cO,hB,cn,E',λi G=>?_⟩;have e0:cO.getD i Go.undef=cO.toList.getD i Go.undef:=by simp
     rw[e0,dS];have lv:l.length=(a.eval y).cells.toList.length:=hlen;simp only[Nat.add_zero];have kx:(cs.toList.take off).length=off:=by grind
     unfold putCells;by_cases hin:off<=i/\i<off+l.length
     ·rw[if_pos hin];have e1:(cs.toList.take off++((a.eval y).cells.toList++cs.toList.drop (off+(a.eval y).cells.toList.length))).getD i Go.undef=(a.eval y).cells.toList.getD (i - off) Go.undef:=by
       grind
      rw[e1];have:=ie.ku (i - off) (by omega);exact⟨bk.later bZ (λ_ V=>V) he this.1,this.2⟩
     ·rw[if_neg hin];have e1:(cs.toList.take off++((a.eval y).cells.toList++cs.toList.drop (off+(a.eval y).cells.toList.length))).getD i Go.undef=cs.getD i Go.undef:=by
       rcases Nat.lt_or_ge i off with h1 | h1
       ·rw[List.getD_eq_getElem?_getD,List.getElem?_append_left (by omega)];simp_all
       ·rw[List.getD_eq_getElem?_getD,List.getElem?_append_right (by omega),kx,List.getElem?_append_right (by omega),List.getElem?_drop];rw[show off+(a.eval y).cells.toList.length+(i - off - (a.eval y).cells.toList.length)=i from by omega];simp
      rw[e1];exact⟨bk.later bZ (λ_ V=>V) he (c3 i G).1,(c3 i G).2⟩
    grind
   grind
  grind
 | nW b g i off=>
  simp only[aq.eG,Option.bind_eq_some_iff,aq.run_bind,aq.eF,aq.bx]at lu;obtain⟨⟨z,l⟩,a_,lu⟩:=lu;split at lu
  ·rename_i az;obtain⟨az,pU⟩:=az;have pU:b ∉ l:=by grind
   split at lu
   ·rename_i e xs bD;simp only[Option.map_eq_some_iff]at lu;obtain⟨lZ,yX,rfl⟩:=lu;obtain⟨ju,pV,l0⟩:=hp.2 az.symm (by rw[bD];rfl);rw[bD]at ju l0;simp only[bB.len,bB.eE]at ju l0;obtain⟨F',f1,aX,f2⟩:=ba.kS (mv a_) V;have uO:=lW V.bn f1 a_ f2 hv;have JW:((s.cb l).ad b)=s.ad b:=by simp[ay.cb,pU]
    have aN:=aX.bn b;unfold cg at aN;rw[JW,bD]at aN;obtain⟨cs,hB,c1,c2,c3,c4,c5⟩:=aN.2 pV;obtain⟨a8,d1,d2⟩:=c5 i ju;have JL:xs.getD i e.cN=xs[i]:=by grind
    rw[JL]at yX;have uP:=ht e d2;obtain⟨c_,q2,q3,be,awy,awz,acT⟩:=ab7 e d2 yX uO.2;have uN:T ty≠.cy:=by
     intro aS;have:=uO.1;rw[aS]at this;exact this
    have wM:(a.eval y).cells.toList.length=(T ty).size:=uO.1.len;have BR:(i+1)*e.size<=(κ b).cap*e.size:=Nat.mul_le_mul_right _ (by omega);have hbound:off+(T ty).size<=e.size:=by
     grind
    have nu:∀ u∈(a.eval y).cells.toList,u.oneCell'=true:=by
     intro u hu;have ie:=yI (P:=C.P) (H:=λ_=>⟨0,.fb⟩) (κ:=λ_=>⟨0,0,0,true⟩) (T ty) uO.2;obtain⟨j,aC,rfl⟩:=List.mem_iff_getElem.1 hu;have:=(ie.ku j (by rw[ie.len];exact aC)).2;grind
    have kT:(κ b).off+i*e.size+off+0+(a.eval y).cells.toList.length<=cs.size:=by
     grind
    obtain⟨w',cO,bX,cn,dS,lr,ls,lY⟩:=uM (P:=C.P) (a.eval y).cells.toList ((κ b).off+i*e.size+off) 0 w cs c1 kT nu;refine fin w' (by rw[l0];simp[Instr.storeAt,Instr.sureAddr,JU (hT.bS rfl uN) (by omega) bX]) ⟨κ,F',?_⟩;have oV:s.fH ((jr l).run s.ad++[(b,⟨(s.ad b).gen,.a7 e (xs.set i lZ)⟩)])=(s.cb l).b' b ⟨(s.ad b).gen,.a7 e (xs.set i lZ)⟩:=by
     rw[BN,s9]
    rw[oV];have fS:eZ (s.cb l).ad κ (λkR=>if kR=b then (⟨(s.ad b).gen,.a7 e (xs.set i lZ)⟩:bu) else (s.cb l).ad kR) κ:=
     qx (by grind) (λh=>by cases h) (λ_=>by rw[JW,bD];exact⟨rfl,by simp[bB.len],rfl⟩) (λh=>by cases h) (λh=>by cases h)
    have Ri:(κ b).eI=false:=pV;refine aX.oO (b:=b) (x:=⟨(s.ad b).gen,.a7 e (xs.set i lZ)⟩) (by rw[JW,bD];simp[bB.bL,Ri]) (by simp[bB.bL,Ri]) fS (λh=>by cases h) (λh=>by cases h) lr ls lY λH mw bZ he=>?_;refine⟨λaA=>(by grind),λ_=>?_⟩;have E':cO.size=cs.size:=by
     rw[<-Array.length_toList,dS];grind
    refine⟨cO,hB,cn,by omega,by grind,c4,λj aC=>?_⟩;have fz:j<xs.length:=by grind
    simp only[Nat.add_zero]at dS kT;have eA:∀ k,cO[k]?=if (κ b).off+i*e.size+off<=k/\k<(κ b).off+i*e.size+off+(T ty).size then (a.eval y).cells.toList[k - ((κ b).off+i*e.size+off)]? else cs[k]?:=by
     intro k;rw[<-Array.getElem?_toList,dS];have kx:(cs.toList.take ((κ b).off+i*e.size+off)).length=(κ b).off+i*e.size+off:=by grind
     by_cases hin:(κ b).off+i*e.size+off<=k/\k<(κ b).off+i*e.size+off+(T ty).size
     ·rw[if_pos hin,List.getElem?_append_right (by omega),kx,List.getElem?_append_left (by omega)]
     ·rw[if_neg hin];rcases Nat.lt_or_ge k ((κ b).off+i*e.size+off) with h1 | h1
      ·grind
      ·rw[List.getElem?_append_right (by omega),kx,List.getElem?_append_right (by omega),List.getElem?_drop];rw[show (κ b).off+i*e.size+off+(a.eval y).cells.toList.length+(k - ((κ b).off+i*e.size+off) - (a.eval y).cells.toList.length)=k from by omega];simp
    by_cases qw:j=i
    ·subst qw;have e1:(xs.set j lZ)[j]=lZ:=by simp
     rw[e1];refine⟨c_++((a.eval y).cells.toList++q3),λk ao=>?_,eP e (λ_ V=>V) he acT⟩;rw[eA];subst be;simp only[List.length_append]at ao uP;by_cases hin:off<=k/\k<off+(T ty).size
     ·rw[if_pos (by omega)];rw[show (κ b).off+j*e.size+k - ((κ b).off+j*e.size+off)=k - c_.length from by omega];grind
     grind
    ·have e1:(xs.set i lZ)[j]=xs[j]:=by grind
     rw[e1];obtain⟨Rj,acU,JX⟩:=c5 j fz;refine⟨Rj,λk ao=>?_,eP e (λ_ V=>V) he JX⟩;rw[eA,if_neg]
     ·grind
     ·have awA:=ht e JX;rcases Nat.lt_or_ge j i with h1 | h1
      ·have:(j+1)*e.size<=i*e.size:=Nat.mul_le_mul_right _ (by omega);grind
      ·have:(i+1)*e.size<=j*e.size:=Nat.mul_le_mul_right _ (by omega);grind
   grind
  grind
 | _=>cases lu
end
end Go.Fer
