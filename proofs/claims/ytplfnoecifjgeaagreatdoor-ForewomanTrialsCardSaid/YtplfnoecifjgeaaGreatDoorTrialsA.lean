/- Part 1 of the proof of Trials: shallow programs of Go functions, and what they compute. No condition. -/
import Derived.Below
import Derived.OrdersIn
import Derived.RangeFuncCalls
import Derived.RangeFuncSeq
import Derived.Laws.StructEq
import Derived.Laws.Tables
import Derived.ChangeMaps3
noncomputable section
abbrev z1':=List Int
abbrev z2':=List (Int×Int×Int×Int)
abbrev z3':=List (Int×Int×Int)
abbrev z4':=List (Int×Int)
abbrev z5':=List ((Int×Int×Int)×Int)
abbrev z6':=List (Nat×(Nat×Nat))
abbrev z7':=List (Int×Int×Int×Int×Int×Int)
abbrev z8':=List (Nat×Nat)
abbrev z9':=List (Option Nat)
set_option linter.unusedVariables false
set_option linter.unusedSimpArgs false
namespace Go.Fer
@[ext] structure M (aj:Type):Type where
 bY:Prop
 bC:aj->Prop
namespace M
variable {aj β gb A aF:Type}
def pure(x:aj):M aj:=⟨True,λy=>y=x⟩
def bind(m:M aj)(f:aj->M β):M β:=⟨m.bY/\∀ x,m.bC x->(f x).bY,λy=>∃ x,m.bC x/\(f x).bC y⟩
def ae(p:Prop)(m:M aj):M aj:=⟨p/\m.bY,m.bC⟩
def dv(p:Prop)(x:aj):M aj:=⟨p,λy=>y=x⟩
def any(p:aj->Prop):M aj:=⟨∃ x,p x,p⟩
theorem ext'{m n:M aj}(h1:m.bY<->n.bY)(h2:∀ x,m.bC x<->n.bC x):m=n:=by
 cases m;cases n;simp only[M.mk.injEq];grind
@[simp] theorem iG (x:aj):(pure x).bY=True:=rfl
@[simp] theorem aw2 (x y:aj):(pure x).bC y=(y=x):=rfl
@[simp] theorem aE (x:aj) (f:aj->M β):bind (pure x) f=f x:=ext' (by simp[bind,pure]) (by simp[bind,pure])
@[simp] theorem aw3 (m:M aj):bind m pure=m:=ext' (by simp[bind,pure]) (by simp[bind,pure])
theorem bk{p:Prop}(h:p)(m:M aj):ae p m=m:=ext' (by simp[ae,h]) (by simp[ae])
@[simp] theorem be (m:M aj):ae True m=m:=bk trivial m
theorem ES(p:Prop)(m:M aj)(f:aj->M β):bind (ae p m) f=ae p (bind m f):=ext' (by simp[bind,ae,and_assoc]) (by simp[bind,ae])
@[simp] theorem nn (x:aj):dv True x=pure x:=rfl
theorem bE{p:Prop}(h:p)(x:aj):dv p x=pure x:=ext' (by simp_all) (by simp_all)
theorem c_(p:Prop)(x:aj)(f:aj->M β):bind (dv p x) f=ae p (f x):=by
 apply ext'
 ·simp[bind,dv,ae]
 ·simp[bind,dv,ae]
theorem QO{c:Prop}[Decidable c](m n:M aj)(f:aj->M β):bind (if c then m else n) f=if c then bind m f else bind n f:=by grind
def le(n m:M aj):Prop:=m.bY->n.bY/\∀ y,n.bC y->m.bC y
theorem le_refl(m:M aj):le m m:=λh=>⟨h,λ_ h=>h⟩
theorem le_trans{a b c:M aj}(h:le a b)(k:le b c):le a c:=λhs=>⟨(h (k hs).1).1,λy aM=>(k hs).2 y ((h (k hs).1).2 y aM)⟩
theorem le_of_eq{a b:M aj}(h:a=b):le a b:=h ▸ le_refl a
def b_(m:M aj)(p:aj->Prop):Prop:=m.bY/\∀ y,m.bC y->p y
theorem b_.mono{m:M aj}{p q:aj->Prop}(h:b_ m p)(k:∀ y,p y->q y):b_ m q:=⟨h.1,λy aM=>k y (h.2 y aM)⟩
theorem dF{x:aj}{p:aj->Prop}:b_ (pure x) p<->p x:=⟨λh=>h.2 x rfl,λh=>⟨trivial,λ_ e=>e ▸ h⟩⟩
theorem fJ{m:M aj}{f:aj->M β}{p:β->Prop}:b_ (bind m f) p<->b_ m λx=>b_ (f x) p:=
 ⟨λh=>⟨h.1.1,λx hx=>⟨h.1.2 x hx,λy aM=>h.2 y ⟨x,hx,aM⟩⟩⟩,λh=>⟨⟨h.1,λx hx=>(h.2 x hx).1⟩,λy ⟨x,hx,aM⟩=>(h.2 x hx).2 y aM⟩⟩
theorem kv{q:Prop}{m:M aj}{p:aj->Prop}:b_ (ae q m) p<->q/\b_ m p:=by
 simp[b_,ae,and_assoc]
inductive aa(A aF:Type) where
 | next (s:A)
 | done (r:aF)
inductive Bq(body:A->M (aa A aF)):A->Prop where
 | mk (s:A) (h:(body s).bY) (k:∀ s',(body s).bC (.next s')->Bq body s'):Bq body s
inductive yI(body:A->M (aa A aF)):A->aF->Prop where
 | done (s:A) (r:aF) (h:(body s).bC (.done r)):yI body s r
 | next (s s':A) (r:aF) (h:(body s).bC (.next s')) (k:yI body s' r):yI body s r
def loop(body:A->M (aa A aF))(s:A):M aF:=⟨Bq body s,yI body s⟩
theorem Br(body:A->M (aa A aF))(s:A) :
  loop body s=bind (body s) fun | .next s'=>loop body s' | .done r=>pure r:=by
 apply ext'
 ·constructor
  ·rintro⟨_,h,k⟩;refine⟨h,λx hx=>?_⟩;cases x with
   | next s'=>exact k s' hx
   | done r=>trivial
  ·rintro⟨h,k⟩;exact⟨s,h,λs' hs=>k _ hs⟩
 ·intro r;constructor
  ·rintro (⟨_,_,h⟩ | ⟨_,s',_,h,k⟩)
   ·exact⟨.done r,h,rfl⟩
   ·exact⟨.next s',h,k⟩
  ·rintro⟨x,hx,G⟩;cases x with
   | next s'=>exact .next s s' r hx G
   | done pJ=>cases G;exact .done s _ hx
theorem yJ{body:A->M (aa A aF)}{s s':A}(h:body s=pure (.next s')):loop body s=loop body s':=by
 rw[Br,h,aE]
theorem rF{body:A->M (aa A aF)}{s:A}{r:aF}(h:body s=pure (.done r)):loop body s=pure r:=by
 rw[Br,h,aE]
theorem acg{body:A->M (aa A aF)}{res:aF}(I:A->Prop)(wx:A->Nat)
  (round:∀ s,I s->(∃ s',body s=pure (.next s')/\I s'/\wx s'<wx s)\/body s=pure (.done res)) (s:A) (h:I s) :
  loop body s=pure res:=by
 have key:∀ n s,wx s=n->I s->loop body s=pure res:=by
  intro n;induction n using Nat.strongRecOn with
  | _ n aH=>
   intro s az hs;rcases round s hs with⟨s',e,d_,b4⟩ | e
   ·rw[yJ e];grind
   ·exact rF e
 grind
theorem Bs{body:A->M (aa A aF)}{p:aF->Prop}(I:A->Prop)(wx:A->Nat)
  (round:∀ s,I s->b_ (body s) fun | .next s'=>I s'/\wx s'<wx s | .done r=>p r) (s:A) (h:I s):b_ (loop body s) p:=by
 have key:∀ n s,wx s=n->I s->b_ (loop body s) p:=by
  intro n;induction n using Nat.strongRecOn with
  | _ n aH=>
   intro s az hs;rw[Br,fJ];refine (round s hs).mono λy aM=>?_;cases y with
   | next s'=>grind
   | done r=>exact dF.2 aM
 grind
end M
end Go.Fer
namespace Go.Fer
def QP(b:Nat)(c:Nat->Option Value):Prop:=
 match b with
 | 0=>∃ m,c 0=some (.int .i64 m)
 | 1 | 2=>∃ v,c 0=some v/\(v=.nilIface\/∃ te pe,v=.iface te pe)
 | 5=>∀ i,c i=if i<20 then some (.int .u64 (10 ^ i)) else none
 | _=>True
end Go.Fer
namespace Go.Fer
open Go.RowKit
inductive af where
 | bool | int (k:IntKind) | str | cz
 | st (t:af) | aw (a b:af)
 | slice (e:af) | array (n:Nat) (e:af) | bq (e:af) | map (k v:af) | fn (a b:af) | b8 (a:af) | dT
 deriving DecidableEq
@[reducible] def af.ah:af->Type
 | .bool=>Bool
 | .int _=>Int
 | .str=>List UInt8
 | .cz=>Unit
 | .st t=>t.ah
 | .aw a b=>a.ah×b.ah
 | .slice e=>List e.ah
 | .array _ e=>List e.ah
 | .bq e=>Option e.ah
 | .map k v=>List (k.ah×v.ah)
 | .fn a b=>a.ah->M b.ah
 | .b8 a=>List a.ah->Prop
 | .dT=>Option Nat
def af.cO:(t:af)->t.ah
 | .bool=>false
 | .int _=>(0:Int)
 | .str=>[]
 | .cz=>()
 | .st t=>t.cO
 | .aw a b=>(a.cO,b.cO)
 | .slice _=>[]
 | .array n e=>List.replicate n e.cO
 | .bq _=>none
 | .map _ _=>[]
 | .fn _ _=>λ_=>⟨False,λ_=>False⟩
 | .b8 _=>λ_=>False
 | .dT=>none
def af.size:af->Nat
 | .cz=>0
 | .st t=>t.size
 | .aw a b=>a.size+b.size
 | .array n e=>n*e.size
 | _=>1
def af.ee:af->Bool
 | .cz | .st _ | .aw _ _ | .array _ _=>false
 | _=>true
def fz(k:IntKind)(n:Int):Prop:=k.min<=n/\n<=k.max
instance (k:IntKind) (n:Int):Decidable (fz k n):=inferInstanceAs (Decidable (_/\_))
def Holds(F:Nat->Prop)(w:World)(p:Addr)(cs:List Value):Prop:=
 F p.block/\p.spot=none/\∀ j (h:j<cs.length),w.cell? ⟨p.block,p.off+j,none⟩=some cs[j]
def cG(F:Nat->Prop)(w w':World):Prop:=w.heap.size<=w'.heap.size/\∀ r,F r->w'.heap[r]?=w.heap[r]?
theorem cG.refl(F:Nat->Prop)(w:World):cG F w w:=⟨Nat.le_refl _,λ_ _=>rfl⟩
theorem cG.trans{F F':Nat->Prop}{a b c:World}(h:cG F a b)(bd:∀ r,F r->F' r)(k:cG F' b c):cG F a c:=
 ⟨Nat.le_trans h.1 k.1,λr G=>(k.2 r (bd r G)).trans (h.2 r G)⟩
theorem cG.cell{F:Nat->Prop}{w w':World}(h:cG F w w'){a:Addr}(aV:F a.block):w'.cell? a=w.cell? a:=by
 simp only[World.cell?,h.2 _ aV]
def np(P:Program)(F:Nat->Prop)(w:World):Prop:=∀ b,b<P.globals.size->F b/\QP b λi=>w.cell? ⟨b,i,none⟩
theorem np.mono{P:Program}{F F':Nat->Prop}{w w':World}(h:np P F w)(bd:∀ r,F r->F' r)(he:cG F w w'):np P F' w':=λb ab=>by
 obtain⟨h1,h2⟩:=h b ab;have e:(λi=>w'.cell? ⟨b,i,none⟩)=λi=>w.cell? ⟨b,i,none⟩:=funext λi=>he.cell (a:=⟨b,i,none⟩) h1;exact⟨bd b h1,e ▸ h2⟩
theorem Holds.mono{F F':Nat->Prop}{w w':World}{p:Addr}{cs:List Value}(h:Holds F w p cs)(bd:∀ r,F r->F' r)(he:cG F w w'):Holds F' w' p cs:=
 ⟨bd _ h.1,h.2.1,λj aC=>(he.cell (a:=⟨p.block,p.off+j,none⟩) h.1).trans (h.2.2 j aC)⟩
def kx:af->Value->Prop
 | .st t,v=>∃ cs:Array Value,v=.agg cs/\cs.size=t.size
 | .array n e,v=>∃ cs:Array Value,v=.agg cs/\cs.size=n*e.size
 | .cz,_=>False
 | .aw _ _,_=>False
 | _,v=>v.cells=#[v]
def dL(aB:List Value):List Value:=aB.flatMap (·.cells.toList)
@[simp] theorem ach:dL []=[]:=rfl
@[simp] theorem Jy (v:Value) (aB:List Value):dL (v::aB)=v.cells.toList++dL aB:=rfl
def wy:af->List Value->Prop
 | .aw a b,v::aB=>kx a v/\wy b aB
 | .aw _ _,[]=>False
 | .cz,aB=>aB=[]
 | t,aB=>∃ v,aB=[v]/\kx t v
def yK:af->Value->List Value->Prop
 | .aw _ _,v,aB=>v=.tuple aB.toArray
 | .cz,v,aB=>v=.tuple #[]/\aB=[]
 | _,v,aB=>aB=[v]
def uN(F:Nat->Prop)(w w':World):Nat->Prop:=λr=>F r\/(w.heap.size<=r/\r<w'.heap.size)
structure ET(P:Program){aj:Type}(R:(Nat->Prop)->World->List Value->aj->Prop)(l:Nat)(S:List aj->Prop)(I:List aj->Bool->(Nat->Prop)->(Nat->Prop)->World->Prop):Prop where
 Bt:∀ {pre st} {F F' Y:Nat->Prop} {w w':World},I pre st F Y w->(∀ r,F r->F' r)->(∀ r,F r\/Y r->w'.heap[r]?=w.heap[r]?)->w.heap.size<=w'.heap.size->w'.os=w.os/\w'.tape=w.tape/\w'.output=w.output->(∀ r,F' r->r<w'.heap.size)->(∀ r,F' r->¬Y r)->I pre st F' Y w'
 yield:∀ {pre} {F Y:Nat->Prop} {w:World} {args:List Value} {x:aj},I pre false F Y w->(∀ r,F r->r<w.heap.size)->(∀ r,Y r->r<w.heap.size/\¬F r)->(∃ T,S (pre++x::T))->R F w args x->
  YieldAt Fence.wide 0 P l args.toArray w λe w'=>∃ (b:Bool) (F' gf:Nat->Prop),e=.returned (.bool b)/\(∀ r,F r->F' r)/\(∀ r,F' r->F r\/Y r\/w.heap.size<=r)/\(∀ r,F' r->r<w'.heap.size)/\
   (∀ r,r<w.heap.size->¬Y r->w'.heap[r]?=w.heap[r]?)/\(∀ r,gf r->(Y r\/w.heap.size<=r)/\r<w'.heap.size/\¬F' r)/\w.heap.size<=w'.heap.size/\(w'.os=w.os/\w'.tape=w.tape/\w'.output=w.output)/\I (pre++[x]) (!b) F' gf w'
def QQ{aj:Type}(S:List aj->Prop)(I:List aj->Bool->(Nat->Prop)->(Nat->Prop)->World->Prop)(F Y:Nat->Prop)(w:World)(e:Ending)(w':World):Prop:=
 ∃ v pre st F' gf,e=.returned v/\(st=false->S pre)/\I pre st F' gf w'/\(∀ r,F r->F' r)/\(∀ r,F' r->F r\/Y r\/w.heap.size<=r)/\(∀ r,F' r->r<w'.heap.size)/\
  (∀ r,r<w.heap.size->¬Y r->w'.heap[r]?=w.heap[r]?)/\(∀ r,gf r->(Y r\/w.heap.size<=r)/\r<w'.heap.size/\¬F' r)/\w.heap.size<=w'.heap.size/\(w'.os=w.os/\w'.tape=w.tape/\w'.output=w.output)
def aci:Option Nat->Value
 | none=>.nilFunc
 | some k=>.func (.func k) #[] #[]
def bt(P:Program):(t:af)->(Nat->Prop)->World->List Value->t.ah->Prop
 | .bool,_,_,cs,x=>cs=[.bool x]
 | .int k,_,_,cs,x=>cs=[.int k x]/\fz k x
 | .str,_,_,cs,x=>cs=[.string ⟨x.toArray⟩]/\x.length<2 ^ 63
 | .cz,_,_,cs,_=>cs=[]
 | .st t,F,w,cs,x=>bt P t F w cs x
 | .aw a b,F,w,cs,x=>∃ c d,cs=c++d/\bt P a F w c x.1/\bt P b F w d x.2
 | .slice e,F,w,cs,xs=>∃ a cap,cs=[.slice a xs.length cap]/\xs.length<=cap/\cap<2 ^ 63/\(a=none->cap=0)/\
   ∀ p,a=some p->0<cap->F p.block/\p.spot=none/\∀ i (h:i<xs.length),∃ a_,Holds F w ⟨p.block,p.off+i*e.size,none⟩ a_/\bt P e F w a_ xs[i]
 | .array n e,F,w,cs,xs=>∃ eZ:List (List Value),cs=eZ.flatten/\eZ.length=n/\xs.length=n/\∀ i (h:i<xs.length) (c6:i<eZ.length),bt P e F w eZ[i] xs[i]
 | .bq e,F,w,cs,x=>(cs=[.pointer none]/\x=none)\/∃ p y a_,cs=[.pointer (some p)]/\x=some y/\Holds F w p a_/\bt P e F w a_ y
 | .map k v,F,w,cs,xs=>(cs=[.map none]/\xs=[])\/∃ r es clk,cs=[.map (some r)]/\F r/\w.heap[r]?=some (.map es clk)/\es.size=xs.length/\(xs.map (·.1)).Nodup/\
   (∀ i (h:i<xs.length) (c6:i<es.size),kx k es[i].key/\bt P k F w es[i].key.cells.toList xs[i].1/\kx v es[i].val/\bt P v F w es[i].val.cells.toList xs[i].2/\es[i].born<clk)/\
   (∀ i j (h:i<es.size) (c6:j<es.size),es[i].born=es[j].born->i=j)
 | .fn a b,F,w,cs,f=>∃ u,cs=[u]/\(u.cells=#[u]/\u.oneCell'=true)/\∀ (F':Nat->Prop) (w':World),(∀ r,F r->F' r)->cG F w w'->(∀ r,F' r->r<w'.heap.size)->np P F' w'->
   ∀ args x,wy a args->bt P a F' w' (dL args) x->(f x).bY->∃ g cF,u=.func (.func g) #[] cF/\(∀ as w,(callFunc g as).run P w=.ok (.enter g as) w)/\
    Calls P g (args.toArray++cF) w' λe s6=>∃ v y aB,e=.returned v/\(f x).bC y/\yK b v aB/\wy b aB/\bt P b (uN F' w' s6) s6 (dL aB) y/\Below w'.heap.size w' s6
 | .b8 a,F,w,cs,S=>∃ u,cs=[u]/\(u.cells=#[u]/\u.oneCell'=true)/\∀ (F':Nat->Prop) (w':World),(∀ r,F r->F' r)->cG F w w'->(∀ r,F' r->r<w'.heap.size)->np P F' w'->
   (∃ L,S L)->∃ g cF,u=.func (.func g) #[] cF/\(∀ as w,(callFunc g as).run P w=.ok (.enter g as) w)/\
    ∀ (l:Nat) (I:List a.ah->Bool->(Nat->Prop)->(Nat->Prop)->World->Prop) (Y:Nat->Prop),(∀ r,Y r->r<w'.heap.size/\¬F' r)->
     ET P (λF w args x=>wy a args/\bt P a F w (dL args) x) l S I->I [] false F' Y w'->Calls P g (#[Value.func (.yield l) #[] #[]]++cF) w' (QQ S I F' Y w')
 | .dT,_,_,cs,x=>cs=[aci x]
theorem hC{P:Program}:∀ (t:af) {F:Nat->Prop} {w:World} {cs:List Value} {x:t.ah},bt P t F w cs x->cs.length=t.size:=by
 intro t;induction t with
 | bool=>intro F w cs x h;simp only[bt]at h;simp[h,af.size]
 | int k=>intro F w cs x h;simp only[bt]at h;simp[h.1,af.size]
 | str=>intro F w cs x h;simp only[bt]at h;simp[h.1,af.size]
 | cz=>intro F w cs x h;simp only[bt]at h;simp[h,af.size]
 | st t aH=>intro F w cs x h;simp only[bt]at h;exact aH h
 | aw a b fe ej=>
  intro F w cs x h;simp only[bt]at h;obtain⟨c,d,rfl,aV,ab⟩:=h;simp[af.size,fe aV,ej ab]
 | slice e aH=>intro F w cs x h;simp only[bt]at h;obtain⟨a,cap,rfl,_⟩:=h;rfl
 | array n e aH=>
  intro F w cs x h;simp only[bt]at h;obtain⟨eZ,rfl,h1,h2,h3⟩:=h;have:∀ l∈eZ,l.length=e.size:=by
   intro l ai;obtain⟨i,E,rfl⟩:=List.mem_iff_getElem.1 ai;grind
  have aR:eZ.map List.length=List.replicate n e.size:=by
   rw[<-h1];exact List.eq_replicate_iff.2 ⟨by simp,by grind⟩
  simp[List.length_flatten,aR,af.size]
 | bq e aH=>intro F w cs x h;simp only[bt]at h;rcases h with⟨rfl,_⟩ | ⟨p,y,a_,rfl,_⟩<;>rfl
 | map k v wz wA=>intro F w cs x h;simp only[bt]at h;rcases h with⟨rfl,_⟩ | ⟨r,es,clk,rfl,_⟩<;>rfl
 | fn a b fe ej=>intro F w cs x h;simp only[bt]at h;obtain⟨u,rfl,_⟩:=h;rfl
 | b8 a aH=>intro F w cs x h;simp only[bt]at h;obtain⟨u,rfl,_⟩:=h;rfl
 | dT=>intro F w cs x h;simp only[bt]at h;subst h;rfl
theorem eS{P:Program}:∀ (t:af) {F F':Nat->Prop} {w w':World} {cs:List Value} {x:t.ah},(∀ r,F r->F' r)->cG F w w'->bt P t F w cs x->bt P t F' w' cs x:=by
 intro t;induction t with
 | bool=>intro F F' w w' cs x _ _ h;exact h
 | int k=>intro F F' w w' cs x _ _ h;exact h
 | str=>intro F F' w w' cs x _ _ h;exact h
 | cz=>intro F F' w w' cs x _ _ h;exact h
 | st t aH=>intro F F' w w' cs x bd he h;simp only[bt]at h ⊢;grind
 | aw a b fe ej=>
  intro F F' w w' cs x bd he h;simp only[bt]at h ⊢;grind
 | slice e aH=>
  intro F F' w w' cs x bd he h;simp only[bt]at h ⊢;obtain⟨a,cap,rfl,h1,h2,h3,aR⟩:=h;refine⟨a,cap,rfl,h1,h2,h3,λp hp hc=>?_⟩;obtain⟨aO,aP,bA⟩:=aR p hp hc;refine⟨bd _ aO,aP,λi E=>?_⟩;obtain⟨a_,m1,m2⟩:=bA i E;exact⟨a_,m1.mono bd he,aH bd he m2⟩
 | array n e aH=>
  intro F F' w w' cs x bd he h;simp only[bt]at h ⊢;grind
 | bq e aH=>
  intro F F' w w' cs x bd he h;simp only[bt]at h ⊢;rcases h with h | ⟨p,y,a_,h1,h2,h3,aR⟩
  ·grind
  ·exact .inr ⟨p,y,a_,h1,h2,h3.mono bd he,aH bd he aR⟩
 | map k v wz wA=>
  intro F F' w w' cs x bd he h;simp only[bt]at h ⊢;rcases h with h | ⟨r,es,clk,h1,h2,h3,aR,bw,cZ,fN⟩
  ·grind
  ·refine .inr ⟨r,es,clk,h1,bd _ h2,(he.2 _ h2).trans h3,aR,bw,λi E dp=>?_,fN⟩;grind
 | fn a b fe ej=>
  intro F F' w w' cs x bd he h;simp only[bt]at h ⊢;obtain⟨u,rfl,hu,h1⟩:=h;exact⟨u,rfl,hu,λJz s6 s7 Bu hs=>h1 Jz s6 (λr G=>s7 r (bd r G)) (he.trans bd Bu) hs⟩
 | b8 a aH=>
  intro F F' w w' cs x bd he h;simp only[bt]at h ⊢;obtain⟨u,rfl,hu,h1⟩:=h;exact⟨u,rfl,hu,λJz s6 s7 Bu hs=>h1 Jz s6 (λr G=>s7 r (bd r G)) (he.trans bd Bu) hs⟩
 | dT=>intro F F' w w' cs x _ _ h;exact h
def dU(P:Program)(t:af)(F:Nat->Prop)(w:World)(v:Value)(x:t.ah):Prop:=kx t v/\bt P t F w v.cells.toList x
def e5(P:Program)(t:af)(F:Nat->Prop)(w:World)(aB:List Value)(x:t.ah):Prop:=wy t aB/\bt P t F w (dL aB) x
def s8(P:Program)(t:af)(F:Nat->Prop)(w:World)(v:Value)(x:t.ah):Prop:=∃ aB,yK t v aB/\e5 P t F w aB x
theorem dU.mono{P:Program}{t:af}{F F':Nat->Prop}{w w':World}{v:Value}{x:t.ah}(h:dU P t F w v x)(bd:∀ r,F r->F' r)(he:cG F w w'):dU P t F' w' v x:=
 ⟨h.1,eS t bd he h.2⟩
theorem EU{v:Value}(h:v.oneCell'=true):v.cells=#[v]:=by
 cases v<;>first | rfl | cases h
theorem QR{v:Value}(h:v.cells=#[v]):v.cells.toList=[v]:=by rw[h]
theorem kx.len{t:af}{v:Value}(h:kx t v):v.cells.toList.length=t.size:=by
 cases t<;>simp only[kx]at h<;>first
  | (obtain⟨cs,rfl,h⟩:=h;simpa [Value.cells,af.size]using h)
  | (rw[QR h];rfl)
  | exact h.elim
theorem Bv{P:Program}{a b:af}{F:Nat->Prop}{w:World}{v:Value}{aB:List Value}{x:a.ah}{y:b.ah} :
  e5 P (.aw a b) F w (v::aB) (x,y)<->dU P a F w v x/\e5 P b F w aB y:=by
 constructor
 ·rintro⟨⟨h1,h2⟩,c,d,e,hc,au⟩;have ai:=hC a hc;have:=List.append_inj e (by rw[ai];exact h1.len);rw[Jy]at e;obtain⟨e1,e2⟩:=this;subst e1;subst e2;exact⟨⟨h1,hc⟩,h2,au⟩
 ·rintro⟨⟨h1,h2⟩,h3,aR⟩;exact⟨⟨h1,h3⟩,_,_,rfl,h2,aR⟩
theorem EV{P:Program}{a b:af}{F:Nat->Prop}{w:World}{aB:List Value}{x:(af.aw a b).ah}(h:e5 P (.aw a b) F w aB x) :
  ∃ v us,aB=v::us/\dU P a F w v x.1/\e5 P b F w us x.2:=by
 cases aB with
 | nil=>exact h.1.elim
 | cons v us=>exact⟨v,us,rfl,Bv.1 h⟩
def af.gg:af->Bool
 | .aw _ _ | .cz=>false
 | _=>true
theorem rG{P:Program}{t:af}(aG:t.gg=true){F:Nat->Prop}{w:World}{aB:List Value}{x:t.ah} :
  e5 P t F w aB x<->∃ v,aB=[v]/\dU P t F w v x:=by
 have key:wy t aB<->∃ v,aB=[v]/\kx t v:=by cases t<;>simp[af.gg,wy]at aG ⊢
 unfold e5 dU;rw[key];constructor
 ·rintro⟨⟨v,rfl,hv⟩,h⟩;exact⟨v,rfl,hv,by simpa using h⟩
 ·rintro⟨v,rfl,hv,h⟩;exact⟨⟨v,rfl,hv⟩,by simpa using h⟩
section
variable {P:Program} {F:Nat->Prop} {w:World} {v:Value}
@[simp] theorem eT {x:Bool}:dU P .bool F w v x<->v=.bool x:=by
 constructor
 ·rintro⟨h1,h2⟩;simp only[kx]at h1;simp only[bt]at h2;rw[QR h1]at h2;simpa using h2
 ·rintro rfl;exact⟨by simp[kx,Value.cells],by simp[bt,Value.cells]⟩
theorem gE{k:IntKind}{x:Int}:dU P (.int k) F w v x<->v=.int k x/\fz k x:=by
 constructor
 ·rintro⟨h1,h2⟩;simp only[kx]at h1;simp only[bt]at h2;grind
 ·rintro⟨rfl,h⟩;exact⟨by rfl,by simpa [bt,Value.cells]using h⟩
theorem lX{x:List UInt8}:dU P .str F w v x<->v=.string ⟨x.toArray⟩/\x.length<2 ^ 63:=by
 constructor
 ·rintro⟨h1,h2⟩;simp only[kx]at h1;simp only[bt]at h2;grind
 ·rintro⟨rfl,h⟩;exact⟨by rfl,by simpa [bt,Value.cells]using h⟩
theorem dy{t:af}(aG:t.ee=true){x:t.ah}:dU P t F w v x<->v.cells=#[v]/\bt P t F w [v] x:=by
 have h1:kx t v<->v.cells=#[v]:=by cases t<;>simp[af.ee,kx]at aG ⊢
 unfold dU;grind
theorem JA{t:af}(aG:t.ee=true){F:Nat->Prop}{w:World}{u:Value}{x:t.ah}(h:bt P t F w [u] x):u.oneCell'=true:=by
 cases t<;>simp only[af.ee,bt]at aG h<;>try contradiction
 ·obtain rfl:=(List.cons.inj h).1;rfl
 ·obtain rfl:=(List.cons.inj h.1).1;rfl
 ·obtain rfl:=(List.cons.inj h.1).1;rfl
 ·obtain⟨a,cap,h,_⟩:=h;obtain rfl:=(List.cons.inj h).1;rfl
 ·rcases h with⟨h,_⟩ | ⟨p,y,a_,h,_⟩<;>(obtain rfl:=(List.cons.inj h).1;rfl)
 ·rcases h with⟨h,_⟩ | ⟨r,es,clk,h,_⟩<;>(obtain rfl:=(List.cons.inj h).1;rfl)
 ·obtain⟨mu,h,hu,_⟩:=h;obtain rfl:=(List.cons.inj h).1;exact hu.2
 ·obtain⟨mu,h,hu,_⟩:=h;obtain rfl:=(List.cons.inj h).1;exact hu.2
 ·obtain rfl:=(List.cons.inj h).1;cases x<;>rfl
theorem Bw{t:af}(aG:t.ee=true){F:Nat->Prop}{w:World}{cs:List Value}{x:t.ah}(h:bt P t F w cs x):∃ u,cs=[u]/\u.cells=#[u]:=by
 cases t<;>simp only[af.ee,bt]at aG h<;>try contradiction
 ·exact⟨_,h,rfl⟩
 ·exact⟨_,h.1,rfl⟩
 ·exact⟨_,h.1,rfl⟩
 ·obtain⟨a,cap,rfl,_⟩:=h;exact⟨_,rfl,rfl⟩
 ·rcases h with⟨rfl,_⟩ | ⟨p,y,a_,rfl,_⟩<;>exact⟨_,rfl,rfl⟩
 ·rcases h with⟨rfl,_⟩ | ⟨r,es,clk,rfl,_⟩<;>exact⟨_,rfl,rfl⟩
 ·obtain⟨u,rfl,hu,_⟩:=h;exact⟨u,rfl,hu.1⟩
 ·obtain⟨u,rfl,hu,_⟩:=h;exact⟨u,rfl,hu.1⟩
 ·exact⟨_,h,by cases x<;>rfl⟩
end
structure hN(P:Program)(k:FuncId)(ts tr:af)(sh:ts.ah->M tr.ah):Prop where
 enter:∀ args w,(callFunc k args).run P w=.ok (.enter k args) w
 iH:∀ (F:Nat->Prop) (w:World) (args:List Value) (x:ts.ah),(∀ r,F r->r<w.heap.size)->np P F w->e5 P ts F w args x->(sh x).bY->
  Calls P k args.toArray w λe w'=>∃ v y,e=.returned v/\(sh x).bC y/\s8 P tr (uN F w w') w' v y/\Below w.heap.size w w'
structure QS(P:Program)(k:FuncId)(ts tr:af)(sh:ts.ah->M tr.ah):Prop where
 iH:∀ (F:Nat->Prop) (w:World) (args:List Value) (x:ts.ah),(∀ r,F r->r<w.heap.size)->np P F w->e5 P ts F w args x->(sh x).bY->
  Calls P k args.toArray w λe w'=>∃ v y,e=.returned v/\(sh x).bC y/\s8 P tr (λr=>w.heap.size<=r/\r<w'.heap.size) w' v y/\Below w.heap.size w w'
def fP:List af->af
 | []=>.cz
 | [t]=>t
 | t::u::l=>.aw t (fP (u::l))
def EW:(as bs:List af)->(fP as).ah->(fP bs).ah->(fP (as++bs)).ah
 | [],_,_,y=>y
 | [_],[],x,_=>x
 | [_],_::_,x,y=>(x,y)
 | _::u::l,bs,x,y=>(x.1,EW (u::l) bs x.2 y)
theorem QT{P:Program}{F:Nat->Prop}{w:World}:∀ (as bs:List af),as.all af.gg=true->∀ {aB us:List Value} {x:(fP as).ah} {y:(fP bs).ah},e5 P (fP as) F w aB x->e5 P (fP bs) F w us y->e5 P (fP (as++bs)) F w (aB++us) (EW as bs x y)
 | [],bs,_,aB,us,x,y,h1,h2=>by
  obtain rfl:aB=[]:=h1.1;exact h2
 | [t],[],_,aB,us,x,y,h1,h2=>by
  obtain rfl:us=[]:=h2.1;have e:aB++[]=aB:=List.append_nil aB;rw[e];exact h1
 | [t],b::bs,h,aB,us,x,y,h1,h2=>by
  have aG:t.gg=true:=by grind
  obtain⟨v,rfl,hv⟩:=(rG aG).1 h1;exact Bv.2 ⟨hv,h2⟩
 | t::u::l,bs,h,aB,us,x,y,h1,h2=>by
  obtain⟨v,rH,rfl,h3,aR⟩:=EV (a:=t) (b:=fP (u::l)) h1;have ai:(u::l).all af.gg=true:=by
   grind
  have:=QT (u::l) bs ai aR h2;exact Bv.2 ⟨h3,this⟩
structure acj where
 ts:af
 tr:af
 sh:ts.ah->M tr.ah
structure EX where
 as:List af
 cs:List af
 tr:af
 sh:(fP (as++cs.map .bq)).ah->M tr.ah
structure wB where
 cs:List af
 aI:af
 S:(fP (cs.map .bq)).ah->List aI.ah->Prop
structure wC(P:Program)(k:FuncId)(v:wB):Prop where
 enter:∀ args w,(callFunc k args).run P w=.ok (.enter k args) w
 iH:∀ (F:Nat->Prop) (w:World) (cF:List Value) (x:(fP (v.cs.map .bq)).ah),(∀ r,F r->r<w.heap.size)->np P F w->e5 P (fP (v.cs.map .bq)) F w cF x->(∃ L,v.S x L)->
  ∀ (l:Nat) (I:List v.aI.ah->Bool->(Nat->Prop)->(Nat->Prop)->World->Prop) (Y:Nat->Prop),(∀ r,Y r->r<w.heap.size/\¬F r)->
   ET P (e5 P v.aI) l (v.S x) I->I [] false F Y w->Calls P k (#[Value.func (.yield l) #[] #[]]++cF.toArray) w (QQ (v.S x) I F Y w)
structure dj where
 s9:Nat->Option acj
 s_:Nat->Option EX
 wD:Nat->Option wB:=λ_=>none
structure qy(P:Program)(U:dj):Prop where
 s9:∀ k v,U.s9 k=some v->hN P k v.ts v.tr v.sh
 s_:∀ k v,U.s_ k=some v->v.as.all af.gg=true/\hN P k (fP (v.as++v.cs.map .bq)) v.tr v.sh
 wD:∀ k v,U.wD k=some v->wC P k v:=by intro k v h;cases h
theorem ack{P:Program}{k:FuncId}{ts tr:af}{sh:ts.ah->M tr.ah}(h:hN P k ts tr sh)(F:Nat->Prop)(w:World):bt P (.fn ts tr) F w [.func (.func k) #[] #[]] sh:=by
 refine⟨_,rfl,⟨rfl,rfl⟩,λF' w' _ _ hs aA args x h1 h2 h3=>⟨k,#[],rfl,h.enter,?_⟩⟩;have:=h.iH F' w' args x hs aA ⟨h1,h2⟩ h3;simp only[Array.append_empty];exact this.mono λe s6 ⟨v,y,e1,e2,⟨aB,e3,e4,dC⟩,kS⟩=>⟨v,y,aB,e1,e2,e3,e4,dC,kS⟩
end Go.Fer
namespace Go.Fer
open Go.RowKit
inductive aD where
 | undef
 | val (t:af) (x:t.ah)
 | hi (b:Bool) (a:aD)
 | loc (b g off:Nat)
 | own (b g:Nat)
 | n0 (b g i off:Nat)
 | dz (t:af) (x:t.ah)
 | fp (b g:Nat)
 | ih (k:FuncId) (n:Nat) (cF:Nat->aD)
 | rI (k:FuncId) (n:Nat) (first:Nat->aD)
 | pK (n:Nat) (f:Nat->aD)
 | agg (n:Nat) (f:Nat->aD)
 | cR
 | jn (v:Value)
 | jR (b g:Nat)
 | tr (l:Nat) (aI:af) (S:List aI.ah->Prop) (pre:List aI.ah) (st:Bool)
 | gM (l:Nat)
 | sub (b g lo E:Nat)
 | wF (e:af) (xs:List e.ah)
 | iI (b g i:Nat)
inductive bB where
 | ff
 | cells (t:af) (f:Nat->aD)
 | a8 (e:af) (xs:List e.ah)
 | hj (e:af) (xs:List e.ah)
 | mp (k v:af) (es:List (k.ah×v.ah))
 | gq (t:af) (x:t.ah)
 | iY (k v:af) (es:List (k.ah×v.ah))
 | b8 (k v:af) (cur:Option (k.ah×v.ah)) (b5:List (k.ah×v.ah))
 | fQ (e:af) (xs:List e.ah) (i:Nat) (v:aD)
structure bu where
 gen:Nat
 body:bB
structure bo where
 ad:Nat
 off:Nat
 cap:Nat
 eL:Bool
structure ay where
 ax:Nat->aD
 ad:Nat->bu
def bB.fq:bB->Bool | .cells _ _=>true | .gq _ _=>true | _=>false
def bB.eU:bB->Bool | .a8 _ _=>true | .hj _ _=>true | .fQ _ _ _ _=>true | _=>false
def bB.gF:bB->Bool | .mp _ _ _=>true | .iY _ _ _=>true | _=>false
def bB.mv:bB->Bool | .b8 _ _ _ _=>true | _=>false
def bB.len:bB->Nat | .a8 _ xs=>xs.length | .hj _ xs=>xs.length | .fQ _ xs _ _=>xs.length | _=>0
def bB.eH:bB->Nat | .a8 e _=>e.size | .hj e _=>e.size | .fQ e _ _ _=>e.size | _=>0
def bB.bJ(k:bo):bB->Bool | .cells _ _=>true | .a8 _ _=>!k.eL | .mp _ _ _=>true | .b8 _ _ _ _=>true | .fQ _ _ _ _=>!k.eL | _=>false
def bo.slice(k:bo)(n:Nat):Value:=if k.eL then .slice none 0 0 else .slice (some ⟨k.ad,k.off,none⟩) n k.cap
def EY(k:bo)(eH lo E:Nat)(v:Value):Prop:=
 (k.eL=true/\v=.slice none 0 0)\/(k.eL=false/\∃ o,v=.slice (some ⟨k.ad,o,none⟩) (E - lo) (k.cap - lo)/\o<=k.off+lo*eH/\(lo<k.cap->o=k.off+lo*eH))
def bl(P:Program)(H:Nat->bu)(κ:Nat->bo)(F:Nat->Prop)(w:World):aD->Value->Prop
 | .undef,_=>True
 | .val t x,v=>dU P t F w v x
 | .hi b a,v=>(b=true->bl P H κ F w a v)/\(b=false->v=Go.undef)
 | .loc b g off,v=>(g<=(H b).gen/\v.oneCell'=true)/\(g=(H b).gen->(H b).body.fq=true->v=.pointer (some ⟨(κ b).ad,off,none⟩))
 | .own b g,v=>(g<=(H b).gen/\v.oneCell'=true)/\(g=(H b).gen->(H b).body.eU=true->v=(κ b).slice (H b).body.len)
 | .n0 b g i off,v=>(g<=(H b).gen/\v.oneCell'=true)/\(g=(H b).gen->(H b).body.eU=true->i<(H b).body.len/\(κ b).eL=false/\v=.pointer (some ⟨(κ b).ad,(κ b).off+i*(H b).body.eH+off,none⟩))
 | .iI b g i,v=>(g<=(H b).gen/\v.oneCell'=true)/\(g=(H b).gen->(H b).body.eU=true->i<(H b).body.len/\(κ b).eL=false/\v=.pointer (some ⟨(κ b).ad,(κ b).off+i*(H b).body.eH,none⟩))
 | .dz t x,v=>∃ p a_,v=.pointer (some p)/\Holds F w p a_/\bt P t F w a_ x
 | .fp b g,v=>(g<=(H b).gen/\v.oneCell'=true)/\(g=(H b).gen->(H b).body.gF=true->v=.map (some (κ b).ad))
 | .ih k n cF,v=>∃ aB:List Value,v=.func (.func k) #[] aB.toArray/\aB.length=n/\∀ i,i<n->bl P H κ F w (cF i) (aB.getD i Go.undef)
 | .rI k n f,v=>∃ aB:List Value,v=.func (.func k) aB.toArray #[]/\aB.length=n/\∀ i,i<n->bl P H κ F w (f i) (aB.getD i Go.undef)
 | .pK n f,v=>∃ aB:List Value,v=.tuple aB.toArray/\aB.length=n/\∀ i,i<n->bl P H κ F w (f i) (aB.getD i Go.undef)
 | .agg n f,v=>∃ aB:List Value,v=.agg aB.toArray/\aB.length=n/\∀ i,i<n->bl P H κ F w (f i) (aB.getD i Go.undef)/\(aB.getD i Go.undef).oneCell'=true
 | .cR,v=>v=.slice none 0 0
 | .jn u,v=>v=u
 | .jR b g,v=>(g<=(H b).gen/\v.oneCell'=true)/\(g=(H b).gen->(H b).body.mv=true->v=.pointer (some ⟨(κ b).ad,0,none⟩))
 | .tr _ _ _ _ _,_=>True
 | .gM l,v=>v=.func (.yield l) #[] #[]
 | .wF e xs,v=>dU P (.slice e) F w v xs/\∃ q,v=.slice q xs.length xs.length
 | .sub b g lo E,v=>(g<=(H b).gen/\v.oneCell'=true)/\(g=(H b).gen->(H b).body.eU=true->(lo<=E/\E<=(H b).body.len)/\EY (κ b) (H b).body.eH lo E v)
def e6(H:Nat->bu)(κ:Nat->bo)(H':Nat->bu)(κ':Nat->bo):Prop:=
 ∀ b,(H b).gen<=(H' b).gen/\((H b).gen=(H' b).gen->
  ((H' b).body.fq=true->(H b).body.fq=true/\(κ' b).ad=(κ b).ad)/\
  ((H' b).body.eU=true->(H b).body.eU=true/\κ' b=κ b/\(H' b).body.len=(H b).body.len/\(H' b).body.eH=(H b).body.eH)/\
  ((H' b).body.gF=true->(H b).body.gF=true/\(κ' b).ad=(κ b).ad)/\
  ((H' b).body.mv=true->(H b).body.mv=true/\(κ' b).ad=(κ b).ad))
theorem e6.refl(H:Nat->bu)(κ:Nat->bo):e6 H κ H κ:=λ_=>⟨Nat.le_refl _,λ_=>⟨λh=>⟨h,rfl⟩,λh=>⟨h,rfl,rfl,rfl⟩,λh=>⟨h,rfl⟩,λh=>⟨h,rfl⟩⟩⟩
def pL(x y:bu)(k k':bo):Prop:=
 x.gen<=y.gen/\(x.gen=y.gen->
  (y.body.fq=true->x.body.fq=true/\k'.ad=k.ad)/\
  (y.body.eU=true->x.body.eU=true/\k'=k/\y.body.len=x.body.len/\y.body.eH=x.body.eH)/\
  (y.body.gF=true->x.body.gF=true/\k'.ad=k.ad)/\
  (y.body.mv=true->x.body.mv=true/\k'.ad=k.ad))
theorem pL.refl(x:bu)(k:bo):pL x x k k:=⟨Nat.le_refl _,λ_=>⟨λh=>⟨h,rfl⟩,λh=>⟨h,rfl,rfl,rfl⟩,λh=>⟨h,rfl⟩,λh=>⟨h,rfl⟩⟩⟩
theorem Bx{H:Nat->bu}{κ:Nat->bo}{H':Nat->bu}{κ':Nat->bo}:e6 H κ H' κ'<->∀ b,pL (H b) (H' b) (κ b) (κ' b):=Iff.rfl
theorem bl.later{P:Program}{H H':Nat->bu}{κ κ':Nat->bo}{F F':Nat->Prop}{w w':World}(ai:e6 H κ H' κ')(bd:∀ r,F r->F' r)(he:cG F w w') :
  ∀ {a:aD} {v:Value},bl P H κ F w a v->bl P H' κ' F' w' a v:=by
 intro a;induction a with
 | undef=>intro v h;trivial
 | val t x=>intro v h;exact dU.mono h bd he
 | hi b a aH=>intro v h;exact⟨λab=>aH (h.1 ab),h.2⟩
 | loc b g off=>
  intro v h;obtain⟨h1,h2⟩:=h;obtain⟨aO,aP⟩:=ai b;refine⟨⟨Nat.le_trans h1.1 aO,h1.2⟩,λaA hc=>?_⟩;grind
 | own b g=>
  intro v h;obtain⟨h1,h2⟩:=h;obtain⟨aO,aP⟩:=ai b;refine⟨⟨Nat.le_trans h1.1 aO,h1.2⟩,λaA hc=>?_⟩;grind
 | n0 b g i off=>
  intro v h;obtain⟨h1,h2⟩:=h;obtain⟨aO,aP⟩:=ai b;refine⟨⟨Nat.le_trans h1.1 aO,h1.2⟩,λaA hc=>?_⟩;grind
 | iI b g i=>
  intro v h;obtain⟨h1,h2⟩:=h;obtain⟨aO,aP⟩:=ai b;refine⟨⟨Nat.le_trans h1.1 aO,h1.2⟩,λaA hc=>?_⟩;grind
 | dz t x=>
  intro v h;obtain⟨p,a_,h1,h2,h3⟩:=h;exact⟨p,a_,h1,h2.mono bd he,eS t bd he h3⟩
 | fp b g=>
  intro v h;obtain⟨h1,h2⟩:=h;obtain⟨aO,aP⟩:=ai b;refine⟨⟨Nat.le_trans h1.1 aO,h1.2⟩,λaA hc=>?_⟩;grind
 | jR b g=>
  intro v h;obtain⟨h1,h2⟩:=h;obtain⟨aO,aP⟩:=ai b;refine⟨⟨Nat.le_trans h1.1 aO,h1.2⟩,λaA hc=>?_⟩;grind
 | sub b g lo E=>
  intro v h;obtain⟨h1,h2⟩:=h;obtain⟨aO,aP⟩:=ai b;refine⟨⟨Nat.le_trans h1.1 aO,h1.2⟩,λaA hc=>?_⟩;grind
 | tr l aI L n st=>intro v _;trivial
 | gM l=>intro v h;exact h
 | wF e xs=>intro v h;exact⟨dU.mono h.1 bd he,h.2⟩
 | ih k n cF aH=>
  intro v h;obtain⟨aB,h1,h2,h3⟩:=h;exact⟨aB,h1,h2,λi E=>aH i (h3 i E)⟩
 | rI k n f aH=>
  intro v h;obtain⟨aB,h1,h2,h3⟩:=h;exact⟨aB,h1,h2,λi E=>aH i (h3 i E)⟩
 | pK n f aH=>
  intro v h;obtain⟨aB,h1,h2,h3⟩:=h;exact⟨aB,h1,h2,λi E=>aH i (h3 i E)⟩
 | agg n f aH=>
  intro v h;obtain⟨aB,h1,h2,h3⟩:=h;exact⟨aB,h1,h2,λi E=>⟨aH i (h3 i E).1,(h3 i E).2⟩⟩
 | cR=>intro v h;exact h
 | jn u=>intro v h;exact h
def uO(P:Program)(k v:af)(F:Nat->Prop)(w:World)(es:Array MapEntry)(clk:Nat)(xs:List (k.ah×v.ah)):Prop:=
 es.size=xs.length/\(xs.map (·.1)).Nodup/\
 (∀ i (h:i<xs.length) (c6:i<es.size),kx k es[i].key/\bt P k F w es[i].key.cells.toList xs[i].1/\kx v es[i].val/\bt P v F w es[i].val.cells.toList xs[i].2/\es[i].born<clk)/\
 (∀ i j (h:i<es.size) (c6:j<es.size),es[i].born=es[j].born->i=j)
theorem uO.mono{P:Program}{k v:af}{F F':Nat->Prop}{w w':World}{es:Array MapEntry}{clk:Nat}{xs:List (k.ah×v.ah)}(h:uO P k v F w es clk xs)(bd:∀ r,F r->F' r)(he:cG F w w') :
  uO P k v F' w' es clk xs:=
 ⟨h.1,h.2.1,λi E dp=>let ⟨a,b,c,d,e⟩:=h.2.2.1 i E dp;⟨a,eS k bd he b,c,eS v bd he d,e⟩,h.2.2.2⟩
def ln(P:Program)(e:af)(F:Nat->Prop)(w:World)(cs:Array Value)(off:Nat)(xs:List e.ah):Prop:=
 ∀ i (h:i<xs.length),∃ a_,(∀ j (h:j<a_.length),cs[off+i*e.size+j]?=some a_[j])/\bt P e F w a_ xs[i]
theorem ln.mono{P:Program}{e:af}{F F':Nat->Prop}{w w':World}{cs:Array Value}{off:Nat}{xs:List e.ah}(h:ln P e F w cs off xs)(bd:∀ r,F r->F' r)(he:cG F w w') :
  ln P e F' w' cs off xs:=λi E=>let ⟨a_,a,b⟩:=h i E;⟨a_,a,eS e bd he b⟩
def yL(P:Program)(k v:af)(F:Nat->Prop)(w:World)(e:MapEntry)(x:k.ah×v.ah):Prop:=
 kx k e.key/\bt P k F w e.key.cells.toList x.1/\kx v e.val/\bt P v F w e.val.cells.toList x.2
theorem yL.mono{P:Program}{k v:af}{F F':Nat->Prop}{w w':World}{e:MapEntry}{x:k.ah×v.ah}(h:yL P k v F w e x)(bd:∀ r,F r->F' r)(he:cG F w w'):yL P k v F' w' e x:=
 ⟨h.1,eS k bd he h.2.1,h.2.2.1,eS v bd he h.2.2.2⟩
def wG(P:Program)(k v:af)(F:Nat->Prop)(w:World)(oL:Nat)(cur:Option (k.ah×v.ah))(b5:List (k.ah×v.ah)):Prop:=
 (w.heap[oL]?=some (.mapIter none 0 #[] 0)/\b5=[]/\cur=none)\/
 ∃ lp es clk seen,F lp/\w.heap[lp]?=some (.map es clk)/\w.heap[oL]?=some (.mapIter (some lp) clk seen clk)/\
  (∀ i (h:i<es.size),es[i].born<clk)/\(∀ i j (h:i<es.size) (c6:j<es.size),es[i].born=es[j].born->i=j)/\
  (∃ ids:List Nat,ids.length=b5.length/\ids.Nodup/\(∀ i,i∈ids<->∃ h:i<es.size,seen.contains es[i].born=false)/\
   (∀ j (h:j<ids.length) (c6:j<b5.length),∃ E:ids[j]<es.size,yL P k v F w es[ids[j]] b5[j]))/\
  (∀ c,cur=some c->∃ i,∃ h:i<es.size,seen.back?=some es[i].born/\yL P k v F w es[i] c)
theorem wG.mono{P:Program}{k v:af}{F F':Nat->Prop}{w w':World}{oL:Nat}{cur:Option (k.ah×v.ah)}{b5:List (k.ah×v.ah)}(h:wG P k v F w oL cur b5)(bd:∀ r,F r->F' r)(he:cG F w w')
  (E:w'.heap[oL]?=w.heap[oL]?):wG P k v F' w' oL cur b5:=by
 rcases h with⟨h1,h2⟩ | ⟨lp,es,clk,seen,h1,h2,h3,aR,bw,⟨ids,i1,i2,i3,i4⟩,fN⟩
 ·exact .inl ⟨E.trans h1,h2⟩
 ·exact .inr ⟨lp,es,clk,seen,bd _ h1,(he.2 _ h1).trans h2,E.trans h3,aR,bw,⟨ids,i1,i2,i3,λj aC fA=>let ⟨a,b⟩:=i4 j aC fA;⟨a,b.mono bd he⟩⟩,λc hc=>let ⟨i,a,b,d⟩:=fN c hc;⟨i,a,b,d.mono bd he⟩⟩
def jo(P:Program)(H:Nat->bu)(κ:Nat->bo)(F:Nat->Prop)(w:World)(k:bo):bB->Prop
 | .ff=>True
 | .cells t f=>∃ cs T,w.heap[k.ad]?=some (.cells cs T (0,0))/\cs.size=t.size/\∀ i,i<t.size->bl P H κ F w (f i) (cs.getD i Go.undef)/\(cs.getD i Go.undef).oneCell'=true
 | .a8 e xs=>(k.eL=true->xs=[])/\(k.eL=false->∃ cs T,w.heap[k.ad]?=some (.cells cs T (0,0))/\k.off+k.cap*e.size<=cs.size/\xs.length<=k.cap/\k.cap<2 ^ 63/\ln P e F w cs k.off xs)
 | .hj e xs=>bt P (.slice e) F w [k.slice xs.length] xs
 | .mp lY oM es=>∃ ms clk,w.heap[k.ad]?=some (.map ms clk)/\uO P lY oM F w ms clk es
 | .gq t x=>∃ a_,Holds F w ⟨k.ad,0,none⟩ a_/\bt P t F w a_ x
 | .iY lY oM es=>bt P (.map lY oM) F w [.map (some k.ad)] es
 | .b8 lY oM cur b5=>wG P lY oM F w k.ad cur b5
 | .fQ e xs i v=>k.eL=false/\∃ cs T,w.heap[k.ad]?=some (.cells cs T (0,0))/\k.off+k.cap*e.size<=cs.size/\xs.length<=k.cap/\k.cap<2 ^ 63/\(e.size=1/\i<xs.length)/\
   (∀ j (h:j<xs.length),j≠i->∃ a_,(∀ q (h:q<a_.length),cs[k.off+j*e.size+q]?=some a_[q])/\bt P e F w a_ xs[j])/\bl P H κ F w v (cs.getD (k.off+i) Go.undef)/\(cs.getD (k.off+i) Go.undef).oneCell'=true
def cg(P:Program)(H:Nat->bu)(κ:Nat->bo)(F:Nat->Prop)(w:World)(b:Nat):Prop:=jo P H κ F w (κ b) (H b).body
theorem cg.kT{P:Program}{H H':Nat->bu}{κ κ':Nat->bo}{F F':Nat->Prop}{w w':World}{b:Nat}(h:cg P H κ F w b)(ai:e6 H κ H' κ')(bd:∀ r,F r->F' r)(he:cG F w w')
  (ab:(H' b).body=(H b).body) (ao:κ' b=κ b) (hw:(H b).body.bJ (κ b)=true->w'.heap[(κ b).ad]?=w.heap[(κ b).ad]?):cg P H' κ' F' w' b:=by
 unfold cg at *
 rw[ab,ao];cases bD:(H b).body with
 | ff=>trivial
 | cells n f=>
  rw[bD]at h hw;obtain⟨cs,T,h1,h2,h3⟩:=h;exact⟨cs,T,(hw rfl).trans h1,h2,λi E=>⟨bl.later ai bd he (h3 i E).1,(h3 i E).2⟩⟩
 | a8 e xs=>
  rw[bD]at h hw;refine⟨h.1,λaz=>?_⟩;obtain⟨cs,T,h1,h2,h3,aR,bw⟩:=h.2 az;exact⟨cs,T,(hw (by simp[bB.bJ,az])).trans h1,h2,h3,aR,bw.mono bd he⟩
 | hj e xs=>
  rw[bD]at h;exact eS _ bd he h
 | mp lY oM es=>
  rw[bD]at h hw;obtain⟨ms,clk,h1,h2⟩:=h;exact⟨ms,clk,(hw rfl).trans h1,h2.mono bd he⟩
 | gq t x=>
  rw[bD]at h;obtain⟨a_,h1,h2⟩:=h;exact⟨a_,h1.mono bd he,eS t bd he h2⟩
 | iY lY oM es=>
  rw[bD]at h;exact eS (.map lY oM) bd he h
 | b8 lY oM cur b5=>
  rw[bD]at h hw;exact wG.mono h bd he (hw rfl)
 | fQ e xs i v=>
  rw[bD]at h hw;obtain⟨h0,cs,T,h1,h2,h3,aR,bw,cZ,fN,iX⟩:=h;refine⟨h0,cs,T,(hw (by simp[bB.bJ,h0])).trans h1,h2,h3,aR,bw,λj aC qz=>?_,bl.later ai bd he fN,iX⟩;obtain⟨a_,d1,d2⟩:=cZ j aC qz;exact⟨a_,d1,eS e bd he d2⟩
structure cM(w w':World):Prop where
 os:w'.os=w.os
 tape:w'.tape=w.tape
 output:w'.output=w.output
theorem cM.refl(w:World):cM w w:=⟨rfl,rfl,rfl⟩
theorem cM.trans{a b c:World}(h:cM a b)(k:cM b c):cM a c:=⟨k.os.trans h.os,k.tape.trans h.tape,k.output.trans h.output⟩
structure lq where
 l:Nat
 aI:af
 S:List aI.ah->Prop
 I:List aI.ah->Bool->(Nat->Prop)->(Nat->Prop)->World->Prop
structure lq.Ok(P:Program)(p:lq):Prop where
 Bt:∀ {pre st} {F F' Y:Nat->Prop} {w w':World},p.I pre st F Y w->(∀ r,F r->F' r)->(∀ r,F r\/Y r->w'.heap[r]?=w.heap[r]?)->w.heap.size<=w'.heap.size->cM w w'->(∀ r,F' r->r<w'.heap.size)->(∀ r,F' r->¬Y r)->p.I pre st F' Y w'
 yield:∀ {pre} {F Y:Nat->Prop} {w:World} {args:List Value} {x:p.aI.ah},p.I pre false F Y w->(∀ r,F r->r<w.heap.size)->(∀ r,Y r->r<w.heap.size/\¬F r)->(∃ T,p.S (pre++x::T))->e5 P p.aI F w args x->
  YieldAt Fence.wide 0 P p.l args.toArray w λe w'=>∃ (b:Bool) (F' gf:Nat->Prop),e=.returned (.bool b)/\(∀ r,F r->F' r)/\(∀ r,F' r->F r\/Y r\/w.heap.size<=r)/\(∀ r,F' r->r<w'.heap.size)/\
   (∀ r,r<w.heap.size->¬Y r->w'.heap[r]?=w.heap[r]?)/\(∀ r,gf r->(Y r\/w.heap.size<=r)/\r<w'.heap.size/\¬F' r)/\w.heap.size<=w'.heap.size/\cM w w'/\p.I (pre++[x]) (!b) F' gf w'
def lq.at(p:lq)(aI:af)(pre:List aI.ah)(st:Bool)(F Y:Nat->Prop)(w:World):Prop:=∃ h:aI=p.aI,p.I (h ▸ pre) st F Y w
theorem lq.yM{l:Nat}{aI:af}{S:List aI.ah->Prop}{I}{pre:List aI.ah}{st:Bool}{F Y:Nat->Prop}{w:World}:(lq.mk l aI S I).at aI pre st F Y w<->I pre st F Y w:=⟨λ⟨_,h⟩=>h,λh=>⟨rfl,h⟩⟩
theorem lq.Ok.JB{P:Program}{p:lq}(h:p.Ok P){aI:af}{pre:List aI.ah}{st}{F F' Y:Nat->Prop}{w w':World}:p.at aI pre st F Y w->(∀ r,F r->F' r)->(∀ r,F r\/Y r->w'.heap[r]?=w.heap[r]?)->w.heap.size<=w'.heap.size->cM w w'->(∀ r,F' r->r<w'.heap.size)->(∀ r,F' r->¬Y r)->p.at aI pre st F' Y w':=
 λ⟨e,h1⟩ h2 h3 aR bw cZ fN=>⟨e,h.Bt h1 h2 h3 aR bw cZ fN⟩
def TRS:Nat:=1000000
def ev:Nat:=100000
def wH:Nat:=200000
structure bS where
 P:Program
 w0:World
 F0:Nat->Prop
 K0:Nat->Prop
 nt:Nat
 r:Option Nat
 dfr:List Deferred
 h4:Nat->Option Nat
 pr:lq
 aK:dj
 JC:Nat->Option (bo×Nat):=λ_=>none
def acm(C:bS)(s:ay)(w:World)(κ:Nat->bo)(F:Nat->Prop):Prop:=
 ∀ l aI L n st,s.ax TRS=.tr l aI L n st->(∃ I,C.pr=⟨l,aI,L,I⟩)/\C.pr.Ok C.P/\
  ∃ Y:Nat->Prop,(∀ r,Y r->r<w.heap.size/\¬F r/\¬C.K0 r)/\(∀ b,(s.ad b).body.bJ (κ b)=true->¬Y (κ b).ad)/\C.pr.at aI n st F Y w
structure bc(C:bS)(s:ay)(a:Act)(w:World)(κ:Nat->bo)(F:Nat->Prop):Prop where
 dk:a.tmps.size=C.nt
 dfr:a.defers=C.dfr
 bF:∀ i,bl C.P s.ad κ F w (s.ax i) (a.tmps.getD i Go.undef)
 bp:∀ b,cg C.P s.ad κ F w b
 own:∀ b,(s.ad b).body.bJ (κ b)=true->(κ b).ad<w.heap.size/\¬F (κ b).ad/\¬C.K0 (κ b).ad
 inj:∀ b aZ,(s.ad b).body.bJ (κ b)=true->(s.ad aZ).body.bJ (κ aZ)=true->(κ b).ad=(κ aZ).ad->b=aZ
 cL:∀ r,F r->r<w.heap.size
 gN:∀ r,F r->C.F0 r\/¬C.K0 r
 hE:∀ r,C.F0 r->F r
 g_:∀ r,C.K0 r->r<C.w0.heap.size
 ef:∀ r,C.K0 r->w.heap[r]?=C.w0.heap[r]?
 size:C.w0.heap.size<=w.heap.size
 dV:cM C.w0 w
 fR:C.nt<=ev
 kd:∀ b r,C.h4 b=some r->ev<=b
 jq:∀ b r,C.h4 b=some r->(s.ad b).body.fq=true\/(s.ad b).body.gF=true->(κ b).ad=r
 jS:∀ b k,C.JC b=some k->wH<=b
 ke:∀ b k,C.JC b=some k->(s.ad b).gen=0->(s.ad b).body.eU=true->κ b=k.1/\(s.ad b).body.len=k.2
 pro:acm C s w κ F
 jr:qy C.P C.aK
 ij:np C.P F w
def b9(C:bS)(s:ay)(a:Act)(w:World):Prop:=∃ κ F,bc C s a w κ F
def ay.set(s:ay)(d:Option Nat)(v:aD):ay:=
 match d with
 | none=>s
 | some d=>{ s with ax:=λi=>if i=d then v else s.ax i }
def ay.b'(s:ay)(b:Nat)(x:bu):ay:={ s with ad:=λi=>if i=b then x else s.ad i }
theorem acn{a:Act}{d:Nat}{v:Value}(au:d<a.tmps.size)(i:Nat):(a.put (some d) v).tmps.getD i Go.undef=if i=d then v else a.tmps.getD i Go.undef:=by
 simp only[Act.put,Array.getD_eq_getD_getElem?,Array.getElem?_setIfInBounds];grind
theorem bc.set{C:bS}{s:ay}{a:Act}{w:World}{κ:Nat->bo}{F:Nat->Prop}(h:bc C s a w κ F){d:Option Nat}(au:∀ i,d=some i->i<C.nt){av:aD}{v:Value}
  (hv:bl C.P s.ad κ F w av v):bc C (s.set d av) (a.put d v) w κ F:=by
 cases d with
 | none=>exact h
 | some d=>
  have wI:=au d rfl;have az:=h.fR;refine { h with dk:=by simpa [Act.put]using h.dk,dfr:=h.dfr,bF:=λi=>?_,pro:=λl aI L n st e=>?_ }
  ·rw[acn (by rw[h.dk];omega)];simp only[ay.set];by_cases E:i=d
   ·grind
   ·rw[if_neg E,if_neg E];exact h.bF i
  ·simp only[ay.set]at e;rw[if_neg (by unfold TRS ev at *;omega)]at e;exact h.pro l aI L n st e
theorem bc.move{C:bS}{s:ay}{a:Act}{w:World}{κ:Nat->bo}{F:Nat->Prop}(h:bc C s a w κ F){H':Nat->bu}{κ':Nat->bo}{F':Nat->Prop}{w':World}
  (ai:e6 s.ad κ H' κ') (bd:∀ r,F r->F' r) (s7:∀ r,F' r->F r\/(∃ b,(s.ad b).body.bJ (κ b)=true/\(κ b).ad=r)\/w.heap.size<=r)
  (bW:w.heap.size<=w'.heap.size) (hw:∀ r,r<w.heap.size->(∀ b,(s.ad b).body.bJ (κ b)=true->(κ b).ad≠r)->w'.heap[r]?=w.heap[r]?) (hc:cM w w')
  (ab:cG F w w'->∀ b,cg C.P H' κ' F' w' b)
  (ag:∀ b,(H' b).body.bJ (κ' b)=true->(κ' b).ad<w'.heap.size/\¬F' (κ' b).ad/\((∃ b0,(s.ad b0).body.bJ (κ b0)=true/\(κ b0).ad=(κ' b).ad)\/w.heap.size<=(κ' b).ad))
  (E:∀ b aZ,(H' b).body.bJ (κ' b)=true->(H' aZ).body.bJ (κ' aZ)=true->(κ' b).ad=(κ' aZ).ad->b=aZ)
  (hs:∀ r,F' r->r<w'.heap.size)
  (aco:∀ b,ev<=b->(H' b).body.fq=true\/(H' b).body.gF=true->κ' b=κ b/\((s.ad b).body.fq=true\/(s.ad b).body.gF=true)):bc C ⟨s.ax,H'⟩ a w' κ' F':=by
 have acp:∀ r,C.K0 r->(∀ b,(s.ad b).body.bJ (κ b)=true->(κ b).ad≠r):=λr G b ab e=>(h.own b ab).2.2 (e ▸ G);have ao:∀ r,C.K0 r->w'.heap[r]?=w.heap[r]?:=λr G=>hw r (Nat.lt_of_lt_of_le (h.g_ r G) h.size) (acp r G);have yN:∀ r,w.heap.size<=r->¬C.K0 r:=λr G ao=>by have:=h.g_ r ao;have:=h.size;omega
 have he:cG F w w':=⟨bW,λr G=>hw r (h.cL r G) λb ab e=>(h.own b ab).2.1 (e ▸ G)⟩
 refine { dk:=h.dk,dfr:=h.dfr,bF:=λi=>bl.later ai bd he (h.bF i),bp:=ab he,own:=λb ab=>?_,inj:=E,cL:=hs,gN:=λr G=>?_,hE:=λr G=>bd r (h.hE r G),g_:=h.g_,ef:=λr G=>(ao r G).trans (h.ef r G),size:=Nat.le_trans h.size bW,dV:=h.dV.trans hc,fR:=h.fR,kd:=h.kd,jq:=λb r G hc=>?_,jS:=h.jS,ke:=λb k ao h0 aV=>?_,pro:=λl aI L n st e=>?_,jr:=h.jr,ij:=h.ij.mono bd he }
 ·grind
 ·rcases s7 r G with h1 | ⟨b,h1,rfl⟩ | h1
  ·exact h.gN r h1
  ·exact .inr (h.own b h1).2.2
  ·exact .inr (yN r h1)
 ·obtain⟨aO,aP⟩:=aco b (h.kd b r G) hc;rw[aO];exact h.jq b r G aP
 ·obtain⟨g1,dW⟩:=ai b;have h0:(H' b).gen=0:=h0;have aV:(H' b).body.eU=true:=aV;obtain⟨bV,a2,a3,_⟩:=(dW (by omega)).2.1 aV;obtain⟨aO,aP⟩:=h.ke b k ao (by omega) bV;grind
 ·obtain⟨h1,h2,Y,h3,aR,bw⟩:=h.pro l aI L n st e;have aw4:∀ r,Y r->w'.heap[r]?=w.heap[r]?:=λr G=>hw r (h3 r G).1 λb ab e=>aR b ab (e ▸ G);have By:∀ r,Y r->¬F' r:=λr G ar=>by
   grind
  refine⟨h1,h2,Y,λr G=>⟨Nat.lt_of_lt_of_le (h3 r G).1 bW,By r G,(h3 r G).2.2⟩,λb ab aM=>?_,h2.JB bw bd (λr G=>?_) bW hc hs λr ar aM=>By r aM ar⟩
  ·grind
  ·rcases G with G | G
   ·exact he.2 r G
   grind
theorem oN(w:World)(o:Obj){r:Nat}(h:r<w.heap.size):(w.alloc o).heap[r]?=w.heap[r]?:=Below.heap_alloc w o r h
theorem pM(w:World)(o:Obj):(w.alloc o).heap[w.heap.size]?=some o:=by
 show (w.heap.push o)[w.heap.size]?=_;simp
theorem cG.alloc{F:Nat->Prop}{w:World}(hs:∀ r,F r->r<w.heap.size)(o:Obj):cG F w (w.alloc o):=
 ⟨by simp,λr G=>oN w o (hs r G)⟩
theorem yO{H:Nat->bu}{κ κ':Nat->bo}{b:Nat}{x:bu}(aA:(H b).gen<x.gen)(Bz:∀ aZ,aZ≠b->κ' aZ=κ aZ) :
  e6 H κ (λi=>if i=b then x else H i) κ':=by
 rw[Bx];intro i;by_cases E:i=b
 ·subst E;simp only[if_true];exact⟨by omega,λh=>by omega⟩
 ·simp only[if_neg E];rw[Bz i E];exact pL.refl _ _
theorem yP{H:Nat->bu}{κ κ':Nat->bo}{b:Nat}{x:bu}(ab:b<ev\/(x.body.fq=false/\x.body.gF=false))(Bz:∀ aZ,aZ≠b->κ' aZ=κ aZ) :
  ∀ i,ev<=i->(if i=b then x else H i).body.fq=true\/(if i=b then x else H i).body.gF=true->κ' i=κ i/\((H i).body.fq=true\/(H i).body.gF=true):=by
 grind
theorem bc.alloc{C:bS}{s:ay}{a:Act}{w:World}{κ:Nat->bo}{F:Nat->Prop}(h:bc C s a w κ F){b:Nat}{x:bu}(BA:b<ev)(aA:(s.ad b).gen<x.gen)
  {o:Obj} {k:bo} (ao:k.ad=w.heap.size)
  (hx:∀ (H:Nat->bu) (κ':Nat->bo),H=(λi=>if i=b then x else s.ad i)->κ'=(λi=>if i=b then k else κ i)->e6 s.ad κ H κ'->jo C.P H κ' F (w.alloc o) k x.body) :
  bc C (s.b' b x) a (w.alloc o) (λi=>if i=b then k else κ i) F:=by
 have ai:e6 s.ad κ (λi=>if i=b then x else s.ad i) (λi=>if i=b then k else κ i):=yO aA λaZ cS=>by grind
 refine h.move (H':=λi=>if i=b then x else s.ad i) ai (λ_ G=>G) (λ_ G=>.inl G) (by simp) (λr G _=>oN w o G) ⟨rfl,rfl,rfl⟩ (λhe=>?_) ?_ ?_ ?_ (yP (.inl BA) λaZ cS=>by grind)
 ·intro i;by_cases E:i=b
  ·subst E;simp only[cg,if_true];grind
  ·refine cg.kT (h.bp i) ai (λ_ G=>G) he (by grind) (by grind) λag=>?_;exact oN w o (h.own i ag).1
 ·intro i E;by_cases ek:i=b
  ·subst ek;simp only[if_true]at E ⊢;refine⟨by simp_all,λar=>?_,.inr (by omega)⟩;have:=h.cL _ ar;omega
  ·simp only[if_neg ek]at E ⊢;have:=h.own i E;exact⟨by simp;omega,this.2.1,.inl ⟨i,E,rfl⟩⟩
 ·intro i j E aC e;by_cases ek:i=b<;>by_cases lZ:j=b
  ·omega
  ·simp only[if_pos ek,if_neg lZ]at E aC e;have:=(h.own j aC).1;omega
  ·simp only[if_neg ek,if_pos lZ]at E aC e;have:=(h.own i E).1;omega
  ·simp only[if_neg ek,if_neg lZ]at E aC e;exact h.inj i j E aC e
 ·intro r G;have:=h.cL r G;simp;omega
theorem qA{H:Nat->bu}{κ:Nat->bo}{b:Nat}{x:bu}(aA:x.gen=(H b).gen)(h1:x.body.fq=true->(H b).body.fq=true)
  (h2:x.body.eU=true->(H b).body.eU=true/\x.body.len=(H b).body.len/\x.body.eH=(H b).body.eH) (h3:x.body.gF=true->(H b).body.gF=true)
  (aR:x.body.mv=true->(H b).body.mv=true) :
  e6 H κ (λi=>if i=b then x else H i) κ:=by
 rw[Bx];intro i;by_cases E:i=b
 ·subst E;simp only[if_true];exact⟨by omega,λ_=>⟨λh=>⟨h1 h,rfl⟩,λh=>⟨(h2 h).1,rfl,(h2 h).2⟩,λh=>⟨h3 h,rfl⟩,λh=>⟨aR h,rfl⟩⟩⟩
 ·simp only[if_neg E];exact pL.refl _ _
theorem acq{H:Nat->bu}{κ:Nat->bo}{b:Nat}{x:bu}(h1:x.body.fq=true->(H b).body.fq=true)(h3:x.body.gF=true->(H b).body.gF=true) :
  ∀ i,ev<=i->(if i=b then x else H i).body.fq=true\/(if i=b then x else H i).body.gF=true->κ i=κ i/\((H i).body.fq=true\/(H i).body.gF=true):=by
 grind
theorem bc.oO{C:bS}{s:ay}{a:Act}{w w':World}{κ:Nat->bo}{F:Nat->Prop}(h:bc C s a w κ F){b:Nat}{x:bu}
  (fS:(s.ad b).body.bJ (κ b)=true) (yQ:x.body.bJ (κ b)=true) (ai:e6 s.ad κ (λi=>if i=b then x else s.ad i) κ)
  (h1:x.body.fq=true->(s.ad b).body.fq=true) (h3:x.body.gF=true->(s.ad b).body.gF=true)
  (hw:∀ r,r≠(κ b).ad->w'.heap[r]?=w.heap[r]?) (bW:w'.heap.size=w.heap.size) (hc:cM w w')
  (hx:∀ (H:Nat->bu),H=(λi=>if i=b then x else s.ad i)->e6 s.ad κ H κ->cG F w w'->jo C.P H κ F w' (κ b) x.body) :
  bc C (s.b' b x) a w' κ F:=by
 have ag:=h.own b fS;refine h.move (H':=λi=>if i=b then x else s.ad i) ai (λ_ G=>G) (λ_ G=>.inl G) (by omega) (λr _ G=>hw r λe=>G b fS e.symm) hc (λhe=>?_) ?_ ?_ (λr G=>by rw[bW];exact h.cL r G) (acq h1 h3)
 ·intro i;by_cases E:i=b
  ·subst E;simp only[cg,if_true];grind
  ·refine cg.kT (h.bp i) ai (λ_ G=>G) he (by grind) rfl λacr=>hw _ λe=>E (h.inj i b acr fS e)
 ·intro i E;by_cases ek:i=b
  ·grind
  ·simp only[if_neg ek]at E;have:=h.own i E;grind
 ·intro i j E aC e;have dp:(s.ad i).body.bJ (κ i)=true:=by
   grind
  have fA:(s.ad j).body.bJ (κ j)=true:=by
   grind
  exact h.inj i j dp fA e
theorem bc.drew{C:bS}{s:ay}{a:Act}{w:World}{κ:Nat->bo}{F:Nat->Prop}(h:bc C s a w κ F):bc C s a w.drew κ F:=
 h.move (H':=s.ad) (e6.refl _ _) (λ_ G=>G) (λ_ G=>.inl G) (Nat.le_refl _) (λ_ _ _=>rfl) ⟨rfl,rfl,rfl⟩
  (λ_ b=>cg.kT (h.bp b) (e6.refl _ _) (λ_ G=>G) ⟨Nat.le_refl _,λ_ _=>rfl⟩ rfl rfl λ_=>rfl) (λb ab=>⟨(h.own b ab).1,(h.own b ab).2.1,.inl ⟨b,ab,rfl⟩⟩) h.inj h.cL (λ_ _ h=>⟨rfl,h⟩)
def ay.le(s' s:ay):Prop:=(∀ i,s'.ax i=s.ax i\/s'.ax i=.undef)/\∀ b,s'.ad b=s.ad b\/s'.ad b=⟨(s.ad b).gen,.ff⟩
theorem bc.yR{C:bS}{s s':ay}{a:Act}{w:World}{κ:Nat->bo}{F:Nat->Prop}(h:bc C s a w κ F)(hs:s'.le s):bc C s' a w κ F:=by
 have fS:∀ b,(s'.ad b).body.bJ (κ b)=true->(s.ad b).body.bJ (κ b)=true:=λb ab=>by
  rcases hs.2 b with e | e
  ·grind
  ·rw[e]at ab;cases ab
 have ai:e6 s.ad κ s'.ad κ:=λb=>by
  rcases hs.2 b with e | e
  ·grind
  ·rw[e];exact⟨Nat.le_refl _,λ_=>⟨λh=>(by cases h),λh=>(by cases h),λh=>(by cases h),λh=>(by cases h)⟩⟩
 have h2:=h.move ai (λ_ G=>G) (λ_ G=>.inl G) (Nat.le_refl _) (λ_ _ _=>rfl) (cM.refl _)
  (λ_ b=>by
   rcases hs.2 b with e | e
   ·exact cg.kT (h.bp b) ai (λ_ G=>G) (cG.refl _ _) (by rw[e]) rfl λ_=>rfl
   ·unfold cg;rw[e];trivial)
  (λb ab=>⟨(h.own b (fS b ab)).1,(h.own b (fS b ab)).2.1,.inl ⟨b,fS b ab,rfl⟩⟩) (λb aZ ab cS=>h.inj b aZ (fS b ab) (fS aZ cS)) h.cL (λb _ ab=>⟨rfl,by
   rcases hs.2 b with e | e
   ·grind
   ·rw[e]at ab;simp[bB.fq,bB.gF]at ab⟩)
 refine { h2 with bF:=λi=>?_,dk:=h2.dk,dfr:=h2.dfr,pro:=λl aI L n st e=>?_ }
 ·rcases hs.1 i with e | e
  ·rw[e];exact h2.bF i
  ·rw[e];trivial
 ·rcases hs.1 TRS with k | k
  ·exact h2.pro l aI L n st (k ▸ e)
  grind
end Go.Fer
namespace Go.Fer
inductive aq(aj:Type) where
 | ret (a:aj)
 | ew (b:Nat) (k:bu->aq aj)
def aq.run{aj:Type}(H:Nat->bu):aq aj->aj
 | .ret a=>a
 | .ew b k=>(k (H b)).run H
def aq.looks{aj:Type}(H:Nat->bu):aq aj->List Nat
 | .ret _=>[]
 | .ew b k=>b::(k (H b)).looks H
def aq.bind{aj β:Type}:aq aj->(aj->aq β)->aq β
 | .ret a,f=>f a
 | .ew b k,f=>.ew b λx=>(k x).bind f
def aq.map{aj β:Type}(f:aj->β)(m:aq aj):aq β:=m.bind λa=>.ret (f a)
def aq.none{aj:Type}:aq (Option aj):=.ret Option.none
def aq.cx{aj β:Type}(m:aq (Option aj))(f:aj->aq (Option β)):aq (Option β):=m.bind fun | some a=>f a | Option.none=>.none
@[simp] theorem aq.bx {aj:Type} (H:Nat->bu) (a:aj):(aq.ret a).run H=a:=rfl
@[simp] theorem aq.eI {aj:Type} (H:Nat->bu) (b:Nat) (k:bu->aq aj):(aq.ew b k).run H=(k (H b)).run H:=rfl
theorem aq.run_bind{aj β:Type}(H:Nat->bu)(m:aq aj)(f:aj->aq β):(m.bind f).run H=(f (m.run H)).run H:=by
 induction m with
 | ret a=>rfl
 | ew b k aH=>simp[aq.bind,aH]
theorem aq.eJ{aj β:Type}(H:Nat->bu)(m:aq (Option aj))(f:aj->aq (Option β)):(m.cx f).run H=(m.run H).bind λa=>(f a).run H:=by
 unfold aq.cx;rw[aq.run_bind];cases m.run H<;>rfl
theorem aq.QU{aj:Type}{H H':Nat->bu}:∀ (m:aq aj),(∀ b∈m.looks H,H' b=H b)->m.run H'=m.run H/\m.looks H'=m.looks H
 | .ret a,_=>⟨rfl,rfl⟩
 | .ew b k,h=>by
  have ab:=h b (by simp[aq.looks]);have:=aq.QU (k (H b)) λc hc=>h c (by simp[aq.looks,hc]);simp only[aq.run,aq.looks,ab,this];simp
def ez(t cD:af)(x:t.ah):Option cD.ah:=if h:t=cD then some (h ▸ x) else none
theorem ky{t cD:af}{x:t.ah}{y:cD.ah}(h:ez t cD x=some y):∃ e:t=cD,y=e ▸ x:=by
 unfold ez at h;grind
def BB:(t:af)->Value->Option t.ah
 | .bq _,.pointer Option.none=>some Option.none
 | .map _ _,.map Option.none=>some []
 | .dT,.nilFunc=>some Option.none
 | _,_=>Option.none
def af.isAgg:af->Bool
 | .st _ | .array _ _=>true
 | _=>false
def dA(t:af):aD->aq (Option (t.ah×List Nat))
 | .val cD x=>.ret ((ez cD t x).map (·,[]))
 | .cR=>match t with
  | .slice _=>.ret (some ([],[]))
  | _=>.none
 | .own b g=>match t with
  | .slice e=>.ew b λx=>.ret (if x.gen=g then (match x.body with
    | .a8 aS xs=>(ez (.slice aS) (.slice e) xs).map (·,[b])
    | .hj aS xs=>(ez (.slice aS) (.slice e) xs).map (·,[])
    | _=>Option.none) else Option.none)
  | _=>.none
 | .sub b g lo E=>match t with
  | .slice e=>.ew b λx=>.ret (if x.gen=g then (match x.body with
    | .a8 aS xs=>(ez (.slice aS) (.slice e) ((xs.take E).drop lo)).map (·,[b])
    | .hj aS xs=>(ez (.slice aS) (.slice e) ((xs.take E).drop lo)).map (·,[])
    | _=>Option.none) else Option.none)
  | _=>.none
 | .fp b g=>match t with
  | .map k v=>.ew b λx=>.ret (if x.gen=g then (match x.body with
    | .mp k' hO es=>(ez (.map k' hO) (.map k v) es).map (·,[b])
    | .iY k' hO es=>(ez (.map k' hO) (.map k v) es).map (·,[])
    | _=>Option.none) else Option.none)
  | _=>.none
 | .dz cD x=>match t with
  | .bq e=>.ret ((ez (.bq cD) (.bq e) (some x)).map (·,[]))
  | _=>.none
 | .jn v=>.ret ((BB t v).map (·,[]))
 | .ih k n _=>match t with
  | .dT=>if n=0 then .ret (some (some k,[])) else .none
  | _=>.none
 | _=>.none
def ta(e:af)(bZ:List aD->aq (Option (e.ah×List Nat×List aD)))(av:aD):aq (Option (Option e.ah×List Nat)):=
 match av with
 | .loc b g off=>.ew b λx=>if x.gen=g/\off=0 then (match x.body with
   | .gq cD y=>.ret ((ez cD e y).map λz=>(some z,[]))
   | .cells cD f=>if cD=e then (bZ ((List.range e.size).map f)).cx λ(y,l,r)=>.ret (if r.isEmpty then some (some y,b::l) else Option.none) else .none
   | _=>.none) else .none
 | av=>dA (.bq e) av
def h5:(t:af)->List aD->aq (Option (t.ah×List Nat×List aD))
 | .cz,cs=>.ret (some ((),[],cs))
 | .st t,cs=>h5 t cs
 | .aw a b,cs=>(h5 a cs).cx λ(x,l,r)=>(h5 b r).cx λ(y,m,q)=>.ret (some ((x,y),l++m,q))
 | .array n e,cs=>n.rec (motive:=λ_=>List aD->aq (Option (List e.ah×List Nat×List aD))) (λcs=>.ret (some ([],[],cs)))
   (λ_ aH cs=>(h5 e cs).cx λ(x,l,r)=>(aH r).cx λ(xs,m,q)=>.ret (some (x::xs,l++m,q))) cs
 | .bool,cs=>match cs with | c::r=>(dA .bool c).map λo=>o.map λ(x,l)=>(x,l,r) | []=>.none
 | .int k,cs=>match cs with | c::r=>(dA (.int k) c).map λo=>o.map λ(x,l)=>(x,l,r) | []=>.none
 | .str,cs=>match cs with | c::r=>(dA .str c).map λo=>o.map λ(x,l)=>(x,l,r) | []=>.none
 | .slice e,cs=>match cs with | c::r=>(dA (.slice e) c).map λo=>o.map λ(x,l)=>(x,l,r) | []=>.none
 | .bq e,cs=>match cs with | c::r=>(ta e (h5 e) c).map λo=>o.map λ(x,l)=>(x,l,r) | []=>.none
 | .map k v,cs=>match cs with | c::r=>(dA (.map k v) c).map λo=>o.map λ(x,l)=>(x,l,r) | []=>.none
 | .fn a b,cs=>match cs with | c::r=>(dA (.fn a b) c).map λo=>o.map λ(x,l)=>(x,l,r) | []=>.none
 | .b8 a,cs=>match cs with | c::r=>(dA (.b8 a) c).map λo=>o.map λ(x,l)=>(x,l,r) | []=>.none
 | .dT,cs=>match cs with | c::r=>(dA .dT c).map λo=>o.map λ(x,l)=>(x,l,r) | []=>.none
def kf(t:af)(av:aD):aq (Option (t.ah×List Nat)):=
 match t with
 | .bq e=>ta e (h5 e) av
 | t=>if t.ee then dA t av else .none
def dd(t:af)(av:aD):aq (Option (t.ah×List Nat)):=
 match av with
 | .val cD x=>.ret ((ez cD t x).map (·,[]))
 | .agg n f=>if t.ee then .none else (h5 t ((List.range n).map f)).cx λ(x,l,r)=>.ret (if r.isEmpty&&t.isAgg then some (x,l) else Option.none)
 | _=>kf t av
def nq:(t:af)->t.ah->List aD
 | .cz,_=>[]
 | .st t,x=>nq t x
 | .aw a b,x=>nq a x.1++nq b x.2
 | .array n e,xs=>(List.range n).flatMap λi=>nq e (List.getD xs i e.cO)
 | .bool,x=>[.val .bool x]
 | .int k,x=>[.val (.int k) x]
 | .str,x=>[.val .str x]
 | .slice e,x=>[.val (.slice e) x]
 | .bq e,x=>[.val (.bq e) x]
 | .map k v,x=>[.val (.map k v) x]
 | .fn a b,x=>[.val (.fn a b) x]
 | .b8 a,x=>[.val (.b8 a) x]
 | .dT,x=>[.val .dT x]
def rJ:af->List aD
 | .cz=>[]
 | .st t=>rJ t
 | .aw a b=>rJ a++rJ b
 | .array n e=>(List.range n).flatMap λ_=>rJ e
 | .bool=>[.val .bool false]
 | .int k=>[.val (.int k) (0:Int)]
 | .str=>[.val .str []]
 | .slice _=>[.cR]
 | .bq e=>[.val (.bq e) Option.none]
 | .map k v=>[.val (.map k v) []]
 | .fn _ _=>[.jn .nilFunc]
 | .b8 _=>[.jn .nilFunc]
 | .dT=>[.val .dT Option.none]
def gO(l:List aD)(i:Nat):aD:=l.getD i .undef
def l0:af->Nat->Option (af×Nat)
 | .aw a _,0=>some (a,0)
 | .aw a b,f+1=>(l0 b f).map λ(t,o)=>(t,a.size+o)
 | .cz,_=>Option.none
 | t,0=>some (t,0)
 | _,_+1=>Option.none
def uP:(t:af)->t.ah->Nat->Option ((s:af)×s.ah)
 | .aw a _,x,0=>some ⟨a,x.1⟩
 | .aw _ b,x,f+1=>uP b x.2 f
 | .cz,_,_=>Option.none
 | t,x,0=>some ⟨t,x⟩
 | _,_,_+1=>Option.none
def rK:(t:af)->t.ah->Nat->(s:af)->Option s.ah
 | .st t,x,off,s=>if off=0/\af.st t=s then ez (.st t) s x else rK t x off s
 | .aw a b,x,off,s=>if off<a.size then rK a x.1 off s else rK b x.2 (off - a.size) s
 | .cz,_,_,_=>Option.none
 | .array _ _,_,_,_=>Option.none
 | .bool,x,off,s=>if off=0 then ez .bool s x else Option.none
 | .int k,x,off,s=>if off=0 then ez (.int k) s x else Option.none
 | .str,x,off,s=>if off=0 then ez .str s x else Option.none
 | .slice e,x,off,s=>if off=0 then ez (.slice e) s x else Option.none
 | .bq e,x,off,s=>if off=0 then ez (.bq e) s x else Option.none
 | .map k v,x,off,s=>if off=0 then ez (.map k v) s x else Option.none
 | .fn a b,x,off,s=>if off=0 then ez (.fn a b) s x else Option.none
 | .b8 a,x,off,s=>if off=0 then ez (.b8 a) s x else Option.none
 | .dT,x,off,s=>if off=0 then ez .dT s x else Option.none
def wJ:(t:af)->t.ah->Nat->(s:af)->s.ah->Option t.ah
 | .st t,x,off,s,y=>if off=0/\s=af.st t then ez s (.st t) y else wJ t x off s y
 | .aw a b,x,off,s,y=>if off<a.size then (wJ a x.1 off s y).map (·,x.2) else (wJ b x.2 (off - a.size) s y).map (x.1,·)
 | .cz,_,_,_,_=>Option.none
 | .array _ _,_,_,_,_=>Option.none
 | .bool,_,off,s,y=>if off=0 then ez s .bool y else Option.none
 | .int k,_,off,s,y=>if off=0 then ez s (.int k) y else Option.none
 | .str,_,off,s,y=>if off=0 then ez s .str y else Option.none
 | .slice e,_,off,s,y=>if off=0 then ez s (.slice e) y else Option.none
 | .bq e,_,off,s,y=>if off=0 then ez s (.bq e) y else Option.none
 | .map k v,_,off,s,y=>if off=0 then ez s (.map k v) y else Option.none
 | .fn a b,_,off,s,y=>if off=0 then ez s (.fn a b) y else Option.none
 | .b8 a,_,off,s,y=>if off=0 then ez s (.b8 a) y else Option.none
 | .dT,_,off,s,y=>if off=0 then ez s .dT y else Option.none
def lr(k:IntKind)(a b:Int):Int:=k.wrap (BitVec.ofInt k.bits a&&& BitVec.ofInt k.bits b).toNat
def QV(k:IntKind)(a b:Int):Int:=k.wrap (BitVec.ofInt k.bits a||| BitVec.ofInt k.bits b).toNat
def QW(k:IntKind)(a b:Int):Int:=k.wrap (BitVec.ofInt k.bits a ^^^ BitVec.ofInt k.bits b).toNat
def QX(k:IntKind)(a b:Int):Int:=k.wrap (BitVec.ofInt k.bits a&&& ~~~BitVec.ofInt k.bits b).toNat
def acs(k:IntKind)(a b:Int):Int:=k.wrap (a*2 ^ (min b.toNat k.bits))
def iZ(k:IntKind)(a b:Int):Int:=a.fdiv (2 ^ (min b.toNat k.bits))
def kz(t:af)(xs:List t.ah)(i:Int):t.ah:=xs.getD i.toNat t.cO
def bT(n:Nat):Prop:=n<=4294967296
def gr:(t:af)->t.ah->t.ah->Bool
 | .bool,x,y=>x == y
 | .int _,x,y=>decide ((x:Int)=y)
 | .str,x,y=>decide ((x:List UInt8)=y)
 | .st t,x,y=>gr t x y
 | .aw a b,x,y=>gr a x.1 y.1&&gr b x.2 y.2
 | _,_,_=>false
def af.kA:af->Bool
 | .bool | .int _ | .str=>true
 | .st t=>t.kA
 | .aw a b=>a.kA&&b.kA
 | _=>false
end Go.Fer
namespace Go.Fer
open Go.RowKit
section
variable {P:Program} {H:Nat->bu} {κ:Nat->bo} {F F':Nat->Prop} {w:World}
def dY(P:Program)(H:Nat->bu)(κ:Nat->bo)(F:Nat->Prop)(w:World):List aD->List Value->Prop
 | [],[]=>True
 | a::as,v::aB=>(bl P H κ F w a v/\v.oneCell'=true)/\dY P H κ F w as aB
 | _,_=>False
theorem dY.append:∀ {as bs:List aD} {us aB:List Value},dY P H κ F w as us->dY P H κ F w bs aB->dY P H κ F w (as++bs) (us++aB)
 | [],_,[],_,_,k=>k
 | _::_,_,_::_,_,h,k=>⟨h.1,dY.append h.2 k⟩
 | [],_,_::_,_,h,_=>h.elim
 | _::_,_,[],_,h,_=>h.elim
theorem dY.len:∀ {as:List aD} {us:List Value},dY P H κ F w as us->as.length=us.length
 | [],[],_=>rfl
 | _::_,_::_,h=>by simp[dY.len h.2]
 | [],_::_,h=>h.elim
 | _::_,[],h=>h.elim
theorem dY.kz:∀ {as:List aD} {us:List Value},dY P H κ F w as us->∀ i,i<as.length->bl P H κ F w (gO as i) (us.getD i Go.undef)/\(us.getD i Go.undef).oneCell'=true
 | a::as,v::aB,h,0,_=>h.1
 | a::as,v::aB,h,i+1,E=>by
  have:=dY.kz h.2 i (by grind);simpa [gO]using this
 | [],[],_,i,E=>by grind
 | [],_::_,h,_,_=>h.elim
 | _::_,[],h,_,_=>h.elim
theorem dY.QY:∀ {as:List aD} {us:List Value},as.length=us.length->(∀ i,i<as.length->bl P H κ F w (gO as i) (us.getD i Go.undef)/\(us.getD i Go.undef).oneCell'=true)->dY P H κ F w as us
 | [],[],_,_=>trivial
 | a::as,v::aB,ai,h=>⟨h 0 (by simp),dY.QY (by grind) λi E=>by have:=h (i+1) (by grind);simpa [gO]using this⟩
 | [],_::_,ai,_=>by grind
 | _::_,[],ai,_=>by grind
theorem yS:∀ (t:af) {cs:List Value} {x:t.ah},bt P t F w cs x->dY P H κ F w (nq t x) cs:=by
 have eo:∀ (t:af),t.ee=true->∀ {cs:List Value} {x:t.ah},bt P t F w cs x->dY P H κ F w [.val t x] cs:=by
  intro t aG cs x h;obtain⟨u,rfl,hu⟩:=Bw aG h;exact⟨⟨(dy aG).2 ⟨hu,h⟩,JA aG h⟩,trivial⟩
 intro t;induction t with
 | bool=>intro cs x h;exact eo _ rfl h
 | int k=>intro cs x h;exact eo (.int k) rfl h
 | str=>intro cs x h;exact eo _ rfl h
 | cz=>intro cs x h;simp only[bt]at h;subst h;trivial
 | st t aH=>intro cs x h;simp only[bt]at h;exact aH h
 | aw a b fe ej=>
  intro cs x h;simp only[bt]at h;obtain⟨c,d,rfl,aV,ab⟩:=h;exact (fe aV).append (ej ab)
 | slice e aH=>intro cs x h;exact eo (.slice e) rfl h
 | array n e aH=>
  intro cs xs h;simp only[bt]at h;obtain⟨eZ,rfl,h1,h2,h3⟩:=h;simp only[nq];have key:∀ (k:Nat) (l:List (List Value)),(∀ i (E:i<l.length),dY P H κ F w (nq e (List.getD xs (k+i) e.cO)) l[i])->dY P H κ F w ((List.range' k l.length).flatMap λi=>nq e (List.getD xs i e.cO)) l.flatten:=by
   intro k l;induction l generalizing k with
   | nil=>intro _;trivial
   | cons c l acu=>
    intro cA;simp only[List.length_cons,List.range'_succ,List.flatMap_cons,List.flatten_cons];refine dY.append ?_ (acu (k+1) λi E=>?_)
    ·have:=cA 0 (by simp);grind
    ·have:=cA (i+1) (by grind);grind
  rw[List.range_eq_range',<-h1];grind
 | bq e aH=>intro cs x h;exact eo (.bq e) rfl h
 | map k v wz wA=>intro cs x h;exact eo (.map k v) rfl h
 | fn a b fe ej=>intro cs x h;exact eo (.fn a b) rfl h
 | b8 a aH=>intro cs x h;exact eo (.b8 a) rfl h
 | dT=>intro cs x h;exact eo .dT rfl h
theorem JD{e:af}{xs:List e.ah}{k:bo}(aN:jo P H κ F w k (.a8 e xs))(bd:∀ r,F r->F' r)(ao:k.eL=false->F' k.ad):bt P (.slice e) F' w [k.slice xs.length] xs:=by
 obtain⟨h1,h2⟩:=aN;simp only[bt,bo.slice];cases az:k.eL with
 | true=>rw[h1 az];exact⟨none,0,rfl,Nat.le_refl _,by decide,λ_=>rfl,λp hp=>by simp⟩
 | false=>
  obtain⟨cs,T,c1,c2,c3,c4,c5⟩:=h2 az;refine⟨some ⟨k.ad,k.off,none⟩,k.cap,by simp,c3,c4,(by simp),λp hp _=>?_⟩;cases hp;refine⟨ao az,rfl,λi E=>?_⟩;obtain⟨a_,d1,d2⟩:=c5 i E;refine⟨a_,⟨ao az,rfl,λj aC=>?_⟩,eS e bd (cG.refl F w) d2⟩;simp only[World.cell?,c1];grind
theorem EZ{t cD:af}{x:t.ah}{y:cD.ah}{v:Value}(hc:ez t cD x=some y)(h:dU P t F w v x):dU P cD F w v y:=by
 obtain⟨e,rfl⟩:=ky hc;grind
theorem tb{t cD:af}{x:t.ah}{y:cD.ah}{cs:List Value}(hc:ez t cD x=some y)(h:bt P t F w cs x):bt P cD F w cs y:=by
 obtain⟨e,rfl⟩:=ky hc;grind
def iJ(H:Nat->bu)(κ:Nat->bo)(F':Nat->Prop)(l:List Nat):Prop:=∀ b∈l,(H b).body.bJ (κ b)=true->F' (κ b).ad
theorem iJ.left{l m:List Nat}(h:iJ H κ F' (l++m)):iJ H κ F' l:=λb ab=>h b (List.mem_append_left _ ab)
theorem iJ.right{l m:List Nat}(h:iJ H κ F' (l++m)):iJ H κ F' m:=λb ab=>h b (List.mem_append_right _ ab)
theorem QZ{lY oM:af}{es:List (lY.ah×oM.ah)}{k:bo}(aN:jo P H κ F w k (.mp lY oM es))(bd:∀ r,F r->F' r)(ao:F' k.ad):bt P (.map lY oM) F' w [.map (some k.ad)] es:=by
 obtain⟨ms,clk,h1,h2⟩:=aN;obtain⟨h2,h3,aR,bw⟩:=h2.mono bd (cG.refl F w);exact .inr ⟨_,ms,clk,rfl,ao,h1,h2,h3,aR,bw⟩
theorem E0{e:af}{xs:List e.ah}{k:bo}{lo E:Nat}{v:Value}(h:bt P (.slice e) F' w [k.slice xs.length] xs)(h1:lo<=E)(h2:E<=xs.length)(hs:EY k e.size lo E v) :
  bt P (.slice e) F' w [v] ((xs.take E).drop lo):=by
 have hlen:((xs.take E).drop lo).length=E - lo:=by grind
 obtain⟨a,cap,e1,c1,c2,c3,c4⟩:=h;rcases hs with⟨az,rfl⟩ | ⟨az,o,rfl,o1,gh⟩
 ·have:xs=[]:=by
   simp only[bo.slice,az,if_true,List.cons.injEq,Value.slice.injEq,and_true]at e1;grind
  subst this;have e0:(([]:List e.ah).take E).drop lo=[]:=by simp
  rw[e0];exact⟨none,0,rfl,Nat.le_refl _,by decide,λ_=>rfl,λp hp=>by simp⟩
 ·simp only[bo.slice,az,Bool.false_eq_true,if_false,List.cons.injEq,Value.slice.injEq,and_true]at e1;obtain⟨rfl,_,rfl⟩:=e1;refine⟨some ⟨k.ad,o,none⟩,k.cap - lo,by grind,by omega,by omega,(by simp),λp hp uQ=>?_⟩;cases hp;obtain⟨d1,d2,d3⟩:=c4 _ rfl (by omega);refine⟨d1,rfl,λi dp=>?_⟩;obtain⟨a_,m1,m2⟩:=d3 (lo+i) (by omega);grind
theorem JE(aN:∀ b,cg P H κ F w b)(bd:∀ r,F r->F' r){t:af}(aG:t.ee=true){av:aD}{v:Value}{x:t.ah}{l:List Nat}(h:(dA t av).run H=some (x,l))
  (ai:iJ H κ F' l) (hv:bl P H κ F w av v):dU P t F' w v x:=by
 cases av with
 | undef=>cases h
 | hi b a=>cases h
 | loc b g off=>cases h
 | n0 b g i off=>cases h
 | iI b g i=>cases h
 | ih k n c=>
  cases t<;>simp only[dA,aq.none,aq.bx,reduceCtorEq]at h;split at h
  ·rename_i az;subst az;cases h;obtain⟨aB,rfl,ai,_⟩:=hv;obtain rfl:=List.eq_nil_of_length_eq_zero ai;exact (dy rfl).2 ⟨rfl,rfl⟩
  ·cases h
 | rI k n c=>cases h
 | pK n f=>cases h
 | agg n f=>cases h
 | jR b g=>cases h
 | tr l aI L n st=>cases h
 | gM l=>cases h
 | wF e xs=>cases h
 | sub b g lo E=>
  cases t<;>simp only[dA,aq.none,aq.bx,aq.eI,reduceCtorEq]at h;rename_i e;split at h
  ·rename_i aA;obtain⟨pN,h6⟩:=hv;have js:=aN b;unfold cg at js;cases bD:(H b).body with
   | a8 aS xs=>
    rw[bD]at h js h6;simp only[Option.map_eq_some_iff,Prod.mk.injEq]at h;obtain⟨z,bb,rfl,rfl⟩:=h;obtain⟨⟨aO,aP⟩,bA⟩:=h6 aA.symm rfl;exact (dy rfl).2 ⟨EU pN.2,tb bb (E0 (JD js bd λaz=>ai b (by simp) (by rw[bD];simp[bB.bJ,az])) aO aP bA)⟩
   | hj aS xs=>
    rw[bD]at h js h6;simp only[Option.map_eq_some_iff,Prod.mk.injEq]at h;obtain⟨z,bb,rfl,rfl⟩:=h;obtain⟨⟨aO,aP⟩,bA⟩:=h6 aA.symm rfl;exact (dy rfl).2 ⟨EU pN.2,tb bb (E0 (eS (.slice aS) bd (cG.refl F w) js) aO aP bA)⟩
   | _=>rw[bD]at h;cases h
  grind
 | fp b g=>
  cases t<;>simp only[dA,aq.none,aq.bx,aq.eI,reduceCtorEq]at h;rename_i k e;split at h
  ·rename_i aA;obtain⟨pN,h6⟩:=hv;have js:=aN b;unfold cg at js;cases bD:(H b).body with
   | mp k' hO es=>
    rw[bD]at h js h6;simp only[Option.map_eq_some_iff,Prod.mk.injEq]at h;obtain⟨z,bb,rfl,rfl⟩:=h;have:=h6 aA.symm rfl;subst this;exact (dy rfl).2 ⟨rfl,tb bb (QZ js bd (ai b (by simp) (by rw[bD];rfl)))⟩
   | iY k' hO es=>
    rw[bD]at h js h6;simp only[Option.map_eq_some_iff,Prod.mk.injEq]at h;obtain⟨z,bb,rfl,rfl⟩:=h;have:=h6 aA.symm rfl;subst this;exact (dy rfl).2 ⟨rfl,tb bb (eS (.map k' hO) bd (cG.refl F w) js)⟩
   | _=>rw[bD]at h;cases h
  grind
 | val cD y=>
  simp only[dA,aq.bx,Option.map_eq_some_iff,Prod.mk.injEq]at h;obtain⟨z,bb,rfl,rfl⟩:=h;exact (EZ bb hv).mono bd (cG.refl F w)
 | cR=>
  cases t<;>simp only[dA,aq.none,aq.bx,reduceCtorEq,Option.some.injEq,Prod.mk.injEq]at h;obtain⟨rfl,rfl⟩:=h;simp only[bl]at hv;subst hv;exact (dy rfl).2 ⟨rfl,none,0,rfl,Nat.le_refl _,by decide,λ_=>rfl,λp hp=>by simp⟩
 | own b g=>
  cases t<;>simp only[dA,aq.none,aq.bx,aq.eI,reduceCtorEq]at h;rename_i e;split at h
  ·rename_i aA;obtain⟨pN,h6⟩:=hv;have js:=aN b;unfold cg at js;cases bD:(H b).body with
   | a8 aS xs=>
    rw[bD]at h js h6;simp only[Option.map_eq_some_iff,Prod.mk.injEq]at h;obtain⟨z,bb,rfl,rfl⟩:=h;have:=h6 aA.symm rfl;simp only[bB.len]at this;subst this;refine (dy rfl).2 ⟨by unfold bo.slice;split<;>rfl,tb bb (JD js bd λaz=>ai b (by simp) (by rw[bD];simp[bB.bJ,az]))⟩
   | hj aS xs=>
    rw[bD]at h js h6;simp only[Option.map_eq_some_iff,Prod.mk.injEq]at h;obtain⟨z,bb,rfl,rfl⟩:=h;have:=h6 aA.symm rfl;simp only[bB.len]at this;subst this;exact (dy rfl).2 ⟨by unfold bo.slice;split<;>rfl,tb bb (eS _ bd (cG.refl F w) js)⟩
   | _=>rw[bD]at h;cases h
  grind
 | dz cD y=>
  cases t<;>simp only[dA,aq.none,aq.bx,reduceCtorEq,Option.map_eq_some_iff,Prod.mk.injEq]at h;rename_i e;obtain⟨z,bb,rfl,rfl⟩:=h;obtain⟨p,a_,rfl,h2,h3⟩:=hv;refine (dy rfl).2 ⟨rfl,tb bb ?_⟩;exact .inr ⟨p,y,a_,rfl,rfl,h2.mono bd (cG.refl F w),eS cD bd (cG.refl F w) h3⟩
 | jn u=>
  simp only[bl]at hv;subst hv;simp only[dA,aq.bx,Option.map_eq_some_iff,Prod.mk.injEq]at h;obtain⟨z,bb,rfl,rfl⟩:=h;unfold BB at bb;split at bb
  ·cases bb;exact (dy rfl).2 ⟨rfl,.inl ⟨rfl,rfl⟩⟩
  ·cases bb;exact (dy rfl).2 ⟨rfl,.inl ⟨rfl,rfl⟩⟩
  ·cases bb;exact (dy rfl).2 ⟨rfl,rfl⟩
  grind
theorem BC{n:Nat}{f:Nat->aD}{aB:List Value}(ai:aB.length=n)(h:∀ i,i<n->bl P H κ F w (f i) (aB.getD i Go.undef)/\(aB.getD i Go.undef).oneCell'=true) :
  dY P H κ F w ((List.range n).map f) aB:=by
 refine dY.QY (by grind) λi E=>?_;have dp:i<n:=by grind
 have:gO ((List.range n).map f) i=f i:=by simp[gO,List.getD_eq_getElem?_getD,dp]
 grind
theorem Q0(aN:∀ b,cg P H κ F w b)(bd:∀ r,F r->F' r){e:af}{bZ:List aD->aq (Option (e.ah×List Nat×List aD))}
  (fT:∀ {cs:List aD} {aB:List Value} {x:e.ah} {l:List Nat} {r:List aD},(bZ cs).run H=some (x,l,r)->iJ H κ F' l->dY P H κ F w cs aB->∃ c d,aB=c++d/\bt P e F' w c x/\dY P H κ F w r d)
  {av:aD} {v:Value} {x:Option e.ah} {l:List Nat} (h:(ta e bZ av).run H=some (x,l)) (ai:iJ H κ F' l) (hv:bl P H κ F w av v):dU P (.bq e) F' w v x:=by
 have b5:(dA (.bq e) av).run H=some (x,l)->dU P (.bq e) F' w v x:=λh=>JE aN bd rfl h ai hv;cases av with
 | loc b g off=>
  simp only[ta,aq.eI]at h;split at h
  ·rename_i aA;obtain⟨aA,rfl⟩:=aA;obtain⟨pN,h6⟩:=hv;have js:=aN b;unfold cg at js;cases bD:(H b).body with
   | gq t y=>
    rw[bD]at h js h6;simp only[aq.bx,Option.map_eq_some_iff,Prod.mk.injEq]at h;obtain⟨z,bb,rfl,rfl⟩:=h;obtain⟨eq,rfl⟩:=ky bb;subst eq;obtain rfl:=h6 aA.symm rfl;obtain⟨a_,h1,h2⟩:=js;exact (dy rfl).2 ⟨rfl,.inr ⟨_,_,a_,rfl,rfl,h1.mono bd (cG.refl F w),eS t bd (cG.refl F w) h2⟩⟩
   | cells t f=>
    rw[bD]at h js h6;simp only at h;split at h
    ·rename_i aG;subst aG;simp only[aq.eJ,Option.bind_eq_some_iff,aq.bx]at h;obtain⟨⟨y,m,q⟩,h1,h2⟩:=h;split at h2
     ·rename_i bf;simp only[Option.some.injEq,Prod.mk.injEq]at h2;obtain⟨rfl,rfl⟩:=h2;obtain rfl:=h6 aA.symm rfl;obtain⟨cs,T,aO,aP,bA⟩:=js;have ik:dY P H κ F w ((List.range t.size).map f) cs.toList:=BC (by omega) λi E=>by
       simp_all
      obtain⟨c,d,JF,c1,c2⟩:=fT h1 (λaZ cS=>ai aZ (List.mem_cons_of_mem _ cS)) ik;have bf:q=[]:=List.isEmpty_iff.1 bf;subst bf;cases d with
      | cons _ _=>exact c2.elim
      | nil=>
       rw[List.append_nil]at JF;refine (dy rfl).2 ⟨rfl,.inr ⟨_,y,c,rfl,rfl,⟨ai b (by simp) (by rw[bD];rfl),rfl,λj aC=>?_⟩,c1⟩⟩;have fA:j<cs.size:=by grind
       simp only[World.cell?,aO,Nat.zero_add,Option.isSome_none,Bool.false_eq_true,if_false,Array.getElem?_eq_getElem fA];grind
     grind
    ·cases h
   | _=>rw[bD]at h;cases h
  ·cases h
 | _=>exact b5 h
theorem JG(aN:∀ b,cg P H κ F w b)(bd:∀ r,F r->F' r):∀ (t:af) {cs:List aD} {aB:List Value} {x:t.ah} {l:List Nat} {r:List aD},(h5 t cs).run H=some (x,l,r)->
  iJ H κ F' l->dY P H κ F w cs aB->∃ c d,aB=c++d/\bt P t F' w c x/\dY P H κ F w r d:=by
 have pO:∀ (t:af) (g:aD->aq (Option (t.ah×List Nat))),t.ee=true->(∀ {av:aD} {v:Value} {x:t.ah} {l:List Nat},(g av).run H=some (x,l)->iJ H κ F' l->bl P H κ F w av v->dU P t F' w v x)->
   ∀ {cs:List aD} {aB:List Value} {x:t.ah} {l:List Nat} {r:List aD},(match cs with | c::r=>(g c).map λo=>o.map λ(x,l)=>(x,l,r) | []=>.none:aq (Option (t.ah×List Nat×List aD))).run H=some (x,l,r)->
   iJ H κ F' l->dY P H κ F w cs aB->∃ c d,aB=c++d/\bt P t F' w c x/\dY P H κ F w r d:=by
  intro t g aG aA cs aB x l r h ai aV;cases cs with
  | nil=>cases h
  | cons c cs=>
   cases aB with
   | nil=>exact aV.elim
   | cons v aB=>
    simp only[aq.map,aq.run_bind,aq.bx,Option.map_eq_some_iff,Prod.mk.injEq]at h;obtain⟨⟨y,m⟩,bb,rfl,rfl,rfl⟩:=h;refine⟨[v],aB,rfl,?_,aV.2⟩;exact ((dy aG).1 (aA bb ai aV.1.1)).2
 have eo:∀ (t:af),t.ee=true->∀ {cs:List aD} {aB:List Value} {x:t.ah} {l:List Nat} {r:List aD},(match cs with | c::r=>(dA t c).map λo=>o.map λ(x,l)=>(x,l,r) | []=>.none:aq (Option (t.ah×List Nat×List aD))).run H=some (x,l,r)->
   iJ H κ F' l->dY P H κ F w cs aB->∃ c d,aB=c++d/\bt P t F' w c x/\dY P H κ F w r d:=
  λt aG=>pO t (dA t) aG λh ai hv=>JE aN bd aG h ai hv
 intro t;induction t with
 | bool=>intro cs aB x l r h ai aV;exact eo _ rfl h ai aV
 | int k=>intro cs aB x l r h ai aV;exact eo (.int k) rfl h ai aV
 | str=>intro cs aB x l r h ai aV;exact eo _ rfl h ai aV
 | cz=>
  intro cs aB x l r h ai aV;simp only[h5,aq.bx,Option.some.injEq,Prod.mk.injEq]at h;obtain⟨_,rfl,rfl⟩:=h;exact⟨[],aB,rfl,rfl,aV⟩
 | st t aH=>intro cs aB x l r h ai aV;exact aH h ai aV
 | aw a b fe ej=>
  intro cs aB x l r h ai aV;simp only[h5,aq.eJ,Option.bind_eq_some_iff,aq.bx,Option.some.injEq,Prod.mk.injEq]at h;obtain⟨⟨y,m,q⟩,h1,⟨z,da,q'⟩,h2,rfl,rfl,rfl⟩:=h;obtain⟨c,d,rfl,c1,c2⟩:=fe h1 ai.left aV;obtain⟨c',uR,rfl,d1,d2⟩:=ej h2 ai.right c2;exact⟨c++c',uR,by simp,⟨c,c',rfl,c1,d1⟩,d2⟩
 | slice e aH=>intro cs aB x l r h ai aV;exact eo (.slice e) rfl h ai aV
 | array n e aH=>
  intro cs aB xs l r h ai aV;simp only[h5]at h;have key:∀ (n:Nat) {cs:List aD} {aB:List Value} {xs:List e.ah} {l:List Nat} {r:List aD},(n.rec (motive:=λ_=>List aD->aq (Option (List e.ah×List Nat×List aD))) (λcs=>.ret (some ([],[],cs)))
     (λ_ aH cs=>(h5 e cs).cx λ(x,l,r)=>(aH r).cx λ(xs,m,q)=>.ret (some (x::xs,l++m,q))) cs).run H=some (xs,l,r)->
    iJ H κ F' l->dY P H κ F w cs aB->
    ∃ eZ d,aB=List.flatten eZ++d/\eZ.length=n/\xs.length=n/\(∀ i (h:i<xs.length) (c6:i<eZ.length),bt P e F' w eZ[i] xs[i])/\dY P H κ F w r d:=by
   intro n;induction n with
   | zero=>
    intro cs aB xs l r h ai aV;cases h;exact⟨[],aB,rfl,rfl,rfl,λi E=>(by simp),aV⟩
   | succ n BD=>
    intro cs aB xs l r h ai aV;simp only[aq.eJ,Option.bind_eq_some_iff,aq.bx,Option.some.injEq,Prod.mk.injEq]at h;obtain⟨⟨y,m,q⟩,h1,⟨z,da,q'⟩,h2,rfl,rfl,rfl⟩:=h;obtain⟨c,d,rfl,c1,c2⟩:=aH h1 ai.left aV;obtain⟨eZ,uR,rfl,d1,d2,d3,d4⟩:=BD h2 ai.right c2;refine⟨c::eZ,uR,by simp,by grind,by grind,λi E dp=>?_,d4⟩;grind
  obtain⟨eZ,d,e1,e2,e3,e4,dC⟩:=key n h ai aV;exact⟨eZ.flatten,d,e1,⟨eZ,rfl,e2,e3,e4⟩,dC⟩
 | bq e aH=>intro cs aB x l r h ai aV;exact pO (.bq e) (ta e (h5 e)) rfl (λh ai hv=>Q0 aN bd aH h ai hv) h ai aV
 | map k v wz wA=>intro cs aB x l r h ai aV;exact eo (.map k v) rfl h ai aV
 | fn a b fe ej=>intro cs aB x l r h ai aV;exact eo (.fn a b) rfl h ai aV
 | b8 a aH=>intro cs aB x l r h ai aV;exact eo (.b8 a) rfl h ai aV
 | dT=>intro cs aB x l r h ai aV;exact eo .dT rfl h ai aV
theorem l1(aN:∀ b,cg P H κ F w b)(bd:∀ r,F r->F' r){t:af}{av:aD}{v:Value}{x:t.ah}{l:List Nat}(h:(dd t av).run H=some (x,l))
  (ai:iJ H κ F' l) (hv:bl P H κ F w av v):dU P t F' w v x:=by
 have b5:(kf t av).run H=some (x,l)->dU P t F' w v x:=by
  intro h;unfold kf at h;split at h
  ·exact Q0 aN bd (λh ai aV=>JG aN bd _ h ai aV) h ai hv
  ·split at h
   ·rename_i aG;exact JE aN bd aG h ai hv
   ·cases h
 cases av with
 | val cD y=>
  simp only[dd,aq.bx,Option.map_eq_some_iff,Prod.mk.injEq]at h;obtain⟨z,bb,rfl,rfl⟩:=h;exact (EZ bb hv).mono bd (cG.refl F w)
 | agg n f=>
  simp only[dd]at h;split at h
  ·cases h
  ·simp only[aq.eJ,Option.bind_eq_some_iff,aq.bx]at h;obtain⟨⟨y,m,q⟩,h1,h2⟩:=h;split at h2
   ·rename_i hc;simp only[Bool.and_eq_true,List.isEmpty_iff]at hc;simp only[Option.some.injEq,Prod.mk.injEq]at h2;obtain⟨rfl,rfl⟩:=h2;obtain⟨aB,rfl,aR,bw⟩:=hv;obtain⟨c,d,rfl,c1,c2⟩:=JG aN bd t h1 ai (BC aR bw);rw[hc.1]at c2;cases d with
    | cons _ _=>exact c2.elim
    | nil=>
     rw[List.append_nil]at *
     have hlen:=hC t c1;have hs:=hc.2;cases t<;>simp only[af.isAgg,Bool.false_eq_true]at hs
     ·exact⟨⟨c.toArray,rfl,by simpa [af.size]using hlen⟩,by simpa [Value.cells]using c1⟩
     ·exact⟨⟨c.toArray,rfl,by simpa [af.size]using hlen⟩,by simpa [Value.cells]using c1⟩
   grind
 | undef=>exact b5 h
 | hi b a=>exact b5 h
 | loc b g off=>exact b5 h
 | own b g=>exact b5 h
 | n0 b g i off=>exact b5 h
 | iI b g i=>exact b5 h
 | dz cD y=>exact b5 h
 | fp b g=>exact b5 h
 | ih k n c=>exact b5 h
 | rI k n c=>exact b5 h
 | pK n f=>exact b5 h
 | cR=>exact b5 h
 | jn u=>exact b5 h
 | jR b g=>exact b5 h
 | tr l aI L n st=>exact b5 h
 | gM l=>exact b5 h
 | wF e xs=>exact b5 h
 | sub b g lo E=>exact b5 h
end
def af.pure:af->Bool
 | .bool | .int _ | .str | .cz=>true
 | .st t=>t.pure
 | .aw a b=>a.pure&&b.pure
 | .array _ e=>e.pure
 | _=>false
theorem acv{P:Program}{F F':Nat->Prop}{w w':World}:∀ (t:af) {cs:List Value} {x:t.ah},t.pure=true->bt P t F w cs x->bt P t F' w' cs x:=by
 intro t;induction t with
 | bool=>intro cs x _ h;exact h
 | int k=>intro cs x _ h;exact h
 | str=>intro cs x _ h;exact h
 | cz=>intro cs x _ h;exact h
 | st t aH=>intro cs x aG h;exact aH aG h
 | aw a b fe ej=>
  intro cs x aG h;simp only[af.pure,Bool.and_eq_true]at aG;obtain⟨c,d,rfl,aV,ab⟩:=h;exact⟨c,d,rfl,fe aG.1 aV,ej aG.2 ab⟩
 | slice e aH=>intro cs x aG;cases aG
 | array n e aH=>
  intro cs x aG h;obtain⟨eZ,rfl,h1,h2,h3⟩:=h;exact⟨eZ,rfl,h1,h2,λi E dp=>aH aG (h3 i E dp)⟩
 | bq e aH=>intro cs x aG;cases aG
 | map k v wz wA=>intro cs x aG;cases aG
 | fn a b fe ej=>intro cs x aG;cases aG
 | b8 a aH=>intro cs x aG;cases aG
 | dT=>intro cs x aG;cases aG
end Go.Fer
namespace Go.Fer
open Go.RowKit
section
variable {P:Program} {F:Nat->Prop} {w:World}
theorem acw{t:af}{x y:t.ah}(h:ez t t x=some y):y=x:=by
 obtain⟨e,rfl⟩:=ky h;rfl
theorem Q1:∀ (t:af) {f:Nat} {cs:List Value} {x:t.ah} {s:af} {y:s.ah},bt P t F w cs x->uP t x f=some ⟨s,y⟩->
  ∃ c1 c2 c3,cs=c1++(c2++c3)/\bt P s F w c2 y/\l0 t f=some (s,c1.length):=by
 have eo:∀ (t:af),(∀ a b,t≠.aw a b)->t≠.cz->∀ {f:Nat} {cs:List Value} {x:t.ah} {s:af} {y:s.ah},bt P t F w cs x->uP t x f=some ⟨s,y⟩->
   ∃ c1 c2 c3,cs=c1++(c2++c3)/\bt P s F w c2 y/\l0 t f=some (s,c1.length):=by
  intro t h1 h2 f cs x s y h ar;cases f with
  | zero=>
   have e:uP t x 0=some ⟨t,x⟩:=by cases t<;>first | rfl | grind | grind
   have aS:l0 t 0=some (t,0):=by cases t<;>first | rfl | grind | grind
   rw[e]at ar;cases ar;exact⟨[],cs,[],by simp,h,aS⟩
  | succ f=>
   have e:uP t x (f+1)=none:=by cases t<;>first | rfl | grind
   grind
 intro t;induction t with
 | aw a b fe ej=>
  intro f cs x s y h ar;simp only[bt]at h;obtain⟨c,d,rfl,aV,ab⟩:=h;cases f with
  | zero=>
   simp only[uP,Option.some.injEq,Sigma.mk.injEq]at ar;obtain⟨rfl,ar⟩:=ar;cases ar;exact⟨[],c,d,by simp,aV,rfl⟩
  | succ f=>
   obtain⟨c1,c2,c3,rfl,aO,aP⟩:=ej ab ar;refine⟨c++c1,c2,c3,by simp,aO,?_⟩;simp[l0,aP,hC a aV]
 | cz=>intro f cs x s y _ ar;cases f<;>cases ar
 | bool=>grind
 | int k=>grind
 | str=>grind
 | st t _=>grind
 | slice e _=>grind
 | array n e _=>grind
 | bq e _=>grind
 | map k v _ _=>grind
 | fn a b _ _=>grind
 | b8 a _=>grind
 | dT=>grind
theorem Q2:∀ (t:af) {off:Nat} {cs:List Value} {x:t.ah} {s:af} {y:s.ah},bt P t F w cs x->rK t x off s=some y->
  ∃ c1 c2 c3,cs=c1++(c2++c3)/\c1.length=off/\bt P s F w c2 y:=by
 have eo:∀ (t:af) {off:Nat} {cs:List Value} {x:t.ah} {s:af} {y:s.ah},bt P t F w cs x->(if off=0 then ez t s x else none)=some y->
   ∃ c1 c2 c3,cs=c1++(c2++c3)/\c1.length=off/\bt P s F w c2 y:=by
  intro t off cs x s y h ar;split at ar
  ·rename_i ag;exact⟨[],cs,[],by simp,ag.symm,tb ar h⟩
  grind
 intro t;induction t with
 | aw a b fe ej=>
  intro off cs x s y h ar;simp only[bt]at h;obtain⟨c,d,rfl,aV,ab⟩:=h;simp only[rK]at ar;split at ar
  ·grind
  ·obtain⟨c1,c2,c3,rfl,aO,aP⟩:=ej ab ar;have:=hC a aV;grind
 | st t aH=>
  intro off cs x s y h ar;simp only[rK]at ar;split at ar
  ·rename_i ag;exact⟨[],cs,[],by simp,ag.1.symm,tb ar h⟩
  ·simp only[bt]at h;grind
 | cz=>intro off cs x s y _ ar;cases ar
 | array n e _=>intro off cs x s y _ ar;cases ar
 | bool=>intro off cs x s y h ar;exact eo _ h ar
 | int k=>intro off cs x s y h ar;exact eo (.int k) h ar
 | str=>intro off cs x s y h ar;exact eo _ h ar
 | slice e _=>intro off cs x s y h ar;exact eo (.slice e) h ar
 | bq e _=>intro off cs x s y h ar;exact eo (.bq e) h ar
 | map k v _ _=>intro off cs x s y h ar;exact eo (.map k v) h ar
 | fn a b _ _=>intro off cs x s y h ar;exact eo (.fn a b) h ar
 | b8 a _=>intro off cs x s y h ar;exact eo (.b8 a) h ar
 | dT=>intro off cs x s y h ar;exact eo .dT h ar
theorem acx:∀ (t:af) {off:Nat} {cs a_:List Value} {x dn:t.ah} {s:af} {y:s.ah},bt P t F w cs x->wJ t x off s y=some dn->bt P s F w a_ y->
  ∃ c1 c2 c3,cs=c1++(c2++c3)/\c1.length=off/\c2.length=s.size/\bt P t F w (c1++(a_++c3)) dn:=by
 have eo:∀ (t:af) {off:Nat} {cs a_:List Value} {x dn:t.ah} {s:af} {y:s.ah},bt P t F w cs x->(if off=0 then ez s t y else none)=some dn->bt P s F w a_ y->
   ∃ c1 c2 c3,cs=c1++(c2++c3)/\c1.length=off/\c2.length=s.size/\bt P t F w (c1++(a_++c3)) dn:=by
  intro t off cs a_ x dn s y h ar au;split at ar
  ·rename_i ag;obtain⟨e,rfl⟩:=ky ar;subst e;exact⟨[],cs,[],by simp,ag.symm,hC s h,by grind⟩
  grind
 intro t;induction t with
 | aw a b fe ej=>
  intro off cs a_ x dn s y h ar au;simp only[bt]at h;obtain⟨c,d,rfl,aV,ab⟩:=h;simp only[wJ]at ar;split at ar
  ·simp only[Option.map_eq_some_iff]at ar;obtain⟨z,bb,rfl⟩:=ar;obtain⟨c1,c2,c3,rfl,aO,aP,bA⟩:=fe aV bb au;exact⟨c1,c2,c3++d,by simp,aO,aP,⟨_,d,by simp,bA,ab⟩⟩
  ·simp only[Option.map_eq_some_iff]at ar;obtain⟨z,bb,rfl⟩:=ar;obtain⟨c1,c2,c3,rfl,aO,aP,bA⟩:=ej ab bb au;have:=hC a aV;exact⟨c++c1,c2,c3,by simp,by grind,aP,⟨c,_,by simp,aV,bA⟩⟩
 | st t aH=>
  intro off cs a_ x dn s y h ar au;simp only[wJ]at ar;split at ar
  ·rename_i ag;obtain⟨ag,e⟩:=ag;subst e;have:=acw ar;subst this;exact⟨[],cs,[],by simp,ag.symm,hC _ h,by grind⟩
  ·simp only[bt]at h ⊢;grind
 | cz=>intro off cs a_ x dn s y _ ar;cases ar
 | array n e _=>intro off cs a_ x dn s y _ ar;cases ar
 | bool=>intro off cs a_ x dn s y h ar au;exact eo _ h ar au
 | int k=>intro off cs a_ x dn s y h ar au;exact eo (.int k) h ar au
 | str=>intro off cs a_ x dn s y h ar au;exact eo _ h ar au
 | slice e _=>intro off cs a_ x dn s y h ar au;exact eo (.slice e) h ar au
 | bq e _=>intro off cs a_ x dn s y h ar au;exact eo (.bq e) h ar au
 | map k v _ _=>intro off cs a_ x dn s y h ar au;exact eo (.map k v) h ar au
 | fn a b _ _=>intro off cs a_ x dn s y h ar au;exact eo (.fn a b) h ar au
 | b8 a _=>intro off cs a_ x dn s y h ar au;exact eo (.b8 a) h ar au
 | dT=>intro off cs a_ x dn s y h ar au;exact eo .dT h ar au
end
def jT:af->List Value->Option (List Value)
 | .cz,cs=>some cs
 | .st t,cs=>jT t cs
 | .aw a b,cs=>(jT a cs).bind (jT b)
 | .array n e,cs=>n.rec (motive:=λ_=>List Value->Option (List Value)) some (λ_ aH cs=>(jT e cs).bind aH) cs
 | .bool,cs=>match cs with | .bool false::r=>some r | _=>none
 | .int k,cs=>match cs with | .int k' n::r=>if k'=k/\n=0 then some r else none | _=>none
 | .str,cs=>match cs with | .string s::r=>if s.size=0 then some r else none | _=>none
 | .slice _,cs=>match cs with | .slice none 0 0::r=>some r | _=>none
 | .bq _,cs=>match cs with | .pointer none::r=>some r | _=>none
 | .map _ _,cs=>match cs with | .map none::r=>some r | _=>none
 | .fn _ _,cs=>match cs with | .nilFunc::r=>some r | _=>none
 | .b8 _,cs=>match cs with | .nilFunc::r=>some r | _=>none
 | .dT,cs=>match cs with | .nilFunc::r=>some r | _=>none
theorem Q3(k:IntKind):fz k 0:=by cases k<;>decide
theorem uS{P:Program}{H:Nat->bu}{κ:Nat->bo}{F:Nat->Prop}{w:World}:∀ (t:af) {cs r:List Value},jT t cs=some r->
  ∃ c,cs=c++r/\bt P t F w c t.cO/\dY P H κ F w (rJ t) c:=by
 intro t;induction t with
 | cz=>intro cs r h;cases h;exact⟨[],by simp,rfl,trivial⟩
 | st t aH=>intro cs r h;exact aH h
 | aw a b fe ej=>
  intro cs r h;simp only[jT,Option.bind_eq_some_iff]at h;obtain⟨q,h1,h2⟩:=h;obtain⟨c,rfl,c1,c2⟩:=fe h1;obtain⟨d,rfl,d1,d2⟩:=ej h2;exact⟨c++d,by simp,⟨c,d,rfl,c1,d1⟩,c2.append d2⟩
 | array n e aH=>
  intro cs r h;simp only[jT]at h;have key:∀ (n k:Nat) {cs r:List Value},n.rec (motive:=λ_=>List Value->Option (List Value)) some (λ_ aH cs=>(jT e cs).bind aH) cs=some r->
    ∃ eZ:List (List Value),cs=eZ.flatten++r/\eZ.length=n/\(∀ c∈eZ,bt P e F w c e.cO)/\dY P H κ F w ((List.range' k n).flatMap λ_=>rJ e) eZ.flatten:=by
   intro n;induction n with
   | zero=>intro k cs r h;cases h;exact⟨[],by simp,rfl,by simp,trivial⟩
   | succ n BD=>
    intro k cs r h;simp only[Option.bind_eq_some_iff]at h;obtain⟨q,h1,h2⟩:=h;obtain⟨c,rfl,c1,c2⟩:=aH h1;obtain⟨eZ,rfl,d1,d2,d3⟩:=BD (k+1) h2;refine⟨c::eZ,by simp,by grind,?_,?_⟩
    ·grind
    ·simp only[List.range'_succ,List.flatMap_cons,List.flatten_cons];exact c2.append d3
  obtain⟨eZ,rfl,h1,h2,h3⟩:=key n 0 h;refine⟨eZ.flatten,rfl,⟨eZ,rfl,h1,by simp[af.cO],λi E dp=>?_⟩,?_⟩
  ·have:(af.array n e).cO[i]=e.cO:=by simp[af.cO]
   grind
  ·simp only[rJ,List.range_eq_range'];exact h3
 | bool=>
  intro cs r h;simp only[jT]at h;split at h
  ·cases h;exact⟨[.bool false],rfl,rfl,⟨eT.2 rfl,rfl⟩,trivial⟩
  grind
 | int k=>
  intro cs r h;simp only[jT]at h;split at h
  ·split at h
   ·rename_i ao;obtain⟨rfl,rfl⟩:=ao;cases h;exact⟨[.int _ 0],rfl,⟨rfl,Q3 _⟩,⟨gE.2 ⟨rfl,Q3 _⟩,rfl⟩,trivial⟩
   grind
  grind
 | str=>
  intro cs r h;simp only[jT]at h;split at h
  ·rename_i s pJ;split at h
   ·rename_i hs;cases h;have:s=⟨([]:List UInt8).toArray⟩:=by
     cases s with | mk d=>simp only[ByteArray.size]at hs;grind
    subst this;exact⟨[.string ⟨([]:List UInt8).toArray⟩],rfl,⟨rfl,by decide⟩,⟨lX.2 ⟨rfl,by decide⟩,rfl⟩,trivial⟩
   grind
  grind
 | slice e _=>
  intro cs r h;simp only[jT]at h;split at h
  ·cases h;exact⟨[.slice none 0 0],rfl,⟨none,0,rfl,Nat.le_refl _,by decide,λ_=>rfl,λp hp=>by simp⟩,⟨rfl,rfl⟩,trivial⟩
  grind
 | bq e _=>
  intro cs r h;simp only[jT]at h;split at h
  ·cases h;exact⟨[.pointer none],rfl,.inl ⟨rfl,rfl⟩,⟨(dy rfl).2 ⟨rfl,.inl ⟨rfl,rfl⟩⟩,rfl⟩,trivial⟩
  grind
 | map k v _ _=>
  intro cs r h;simp only[jT]at h;split at h
  ·cases h;exact⟨[.map none],rfl,.inl ⟨rfl,rfl⟩,⟨(dy rfl).2 ⟨rfl,.inl ⟨rfl,rfl⟩⟩,rfl⟩,trivial⟩
  grind
 | fn a b _ _=>
  intro cs r h;simp only[jT]at h;split at h
  ·cases h;exact⟨[.nilFunc],rfl,⟨.nilFunc,rfl,⟨rfl,rfl⟩,λF' w' _ _ _ _ args x _ _ hs=>(show False from hs).elim⟩,⟨rfl,rfl⟩,trivial⟩
  grind
 | b8 a _=>
  intro cs r h;simp only[jT]at h;split at h
  ·cases h;exact⟨[.nilFunc],rfl,⟨.nilFunc,rfl,⟨rfl,rfl⟩,λF' w' _ _ _ _ hs=>(show ∃ _,False from hs).elim λ_ h=>h.elim⟩,⟨rfl,rfl⟩,trivial⟩
  grind
 | dT=>
  intro cs r h;simp only[jT]at h;split at h
  ·cases h;exact⟨[.nilFunc],rfl,rfl,⟨(dy rfl).2 ⟨rfl,rfl⟩,rfl⟩,trivial⟩
  grind
def n1(P:Program)(t:af)(id:TypeId):Bool:=
 match P.info? id with
 | some i=>i.size == t.size&&decide (i.bytes<=1024)&&(match i.zero with
  | some z=>(match jT t z.cells.toList with | some []=>true | _=>false)&&(match t,z with
   | .st _,.agg _=>true
   | .array _ _,.agg _=>true
   | .st _,_=>false
   | .array _ _,_=>false
   | _,.agg _=>false
   | _,_=>true)
  | none=>false)
 | none=>false
def ch(P:Program):af->Sum TypeId (List Field×Nat)->Bool
 | .aw a b, .inr (f :: g :: [], off) => f.offset == off && ch P a (.inl f.type) && a.size != 0 && f.name != "_" && (g.offset == off + a.size && ch P b (.inl g.type) && b.size != 0 && g.name != "_")
 | .aw a b, .inr (f :: g :: h :: eA, off) => f.offset == off && ch P a (.inl f.type) && a.size != 0 && f.name != "_" && ch P b (.inr (g :: h :: eA, off + a.size))
 | .st t,.inl id=>n1 P (.st t) id&&!P.stoodInHeld id&&!P.eqGuardType P.depth id&&match P.underlying id with
  | some (.struct eA)=>(match eA.toList with
   | []=>decide (t=.cz)
   | [f] => f.offset == 0 && ch P t (.inl f.type) && t.size != 0 && f.name != "_"
   | l=>ch P t (.inr (l,0)))
  | _=>false
 | .bool,.inl id=>n1 P .bool id&&(match P.underlying id with | some .bool=>true | _=>false)
 | .int k,.inl id=>n1 P (.int k) id&&(match P.underlying id with | some (.int k')=>decide (k'=k) | _=>false)
 | .str,.inl id=>n1 P .str id&&(match P.underlying id with | some .string=>true | _=>false)
 | .slice e,.inl id=>n1 P (.slice e) id&&(match P.underlying id with | some (.slice i)=>ch P e (.inl i)&&e.size != 0 | _=>false)
 | .array n e,.inl id=>n1 P (.array n e) id&&(match P.underlying id with | some (.array m i)=>decide (m=n)&&ch P e (.inl i)&&e.size != 0 | _=>false)
 | .bq e,.inl id=>n1 P (.bq e) id&&(match P.underlying id with | some (.pointer i)=>ch P e (.inl i)&&e.size != 0 | _=>false)
 | .map k v,.inl id=>n1 P (.map k v) id&&(match P.underlying id with | some (.map i j)=>ch P k (.inl i)&&ch P v (.inl j) | _=>false)
 | .fn a b,.inl id=>n1 P (.fn a b) id&&(match P.underlying id with | some (.func _ _ _)=>true | _=>false)
 | .b8 a,.inl id=>n1 P (.b8 a) id&&(match P.underlying id with | some (.func _ _ _)=>true | _=>false)
 | .dT,.inl id=>n1 P .dT id&&(match P.underlying id with | some (.func _ _ _)=>true | _=>false)
 | _,_=>false
def bQ(P:Program)(t:af)(id:TypeId):Prop:=ch P t (.inl id)=true
theorem bQ.kg{P:Program}{t:af}{id:TypeId}(h:bQ P t id):n1 P t id=true:=by
 unfold bQ at h;cases t<;>simp only[ch,Bool.and_eq_true,Bool.false_eq_true]at h<;>first | exact h.1.1.1 | exact h.1
theorem kh{P:Program}{t:af}{id:TypeId}(h:n1 P t id=true):∃ i z,P.info? id=some i/\i.size=t.size/\i.bytes<=1024/\i.zero=some z/\
  jT t z.cells.toList=some []/\((∃ cs,z=.agg cs)<->t.isAgg=true):=by
 unfold n1 at h;split at h
 ·rename_i i E;simp only[Bool.and_eq_true,beq_iff_eq,decide_eq_true_eq]at h;obtain⟨⟨h1,h2⟩,h3⟩:=h;split at h3
  ·rename_i z bb;simp only[Bool.and_eq_true]at h3;obtain⟨aR,bw⟩:=h3;refine⟨i,z,E,h1,h2,bb,?_,?_⟩
   ·grind
   ·cases t<;>cases z<;>simp_all[af.isAgg]
  grind
 grind
end Go.Fer
namespace Go.Fer
open Go.RowKit
structure d' where
 bU:Prop
 c:Prop
 eM:aD
 hk:List (Nat×bu)
def use:aD->Prop×aD
 | .hi b a=>(b=true,a)
 | a=>(True,a)
def wK:Value->aD
 | .bool b=>.val .bool b
 | .int k n=>if fz k n then .val (.int k) n else .jn (.int k n)
 | .string s=>if s.size<1048576 then .val .str s.data.toList else .jn (.string s)
 | .slice none 0 0=>.cR
 | v=>.jn v
def aT(U:dj)(s:Nat->aD):Operand->aD
 | .tmp t=>s t
 | .const v=>wK v
 | .func f=>match U.s9 f with
  | some v=>.val (.fn v.ts v.tr) v.sh
  | none=>.ih f 0 λ_=>.undef
 | .global _=>.undef
structure aJ where
 ts:af
 tr:af
 pre:ts.ah->Prop
 g:ts.ah->tr.ah
def ki:(t:af)->t.ah->Nat->aD
 | .aw a _,x,0=>.val a x.1
 | .aw _ b,x,i+1=>ki b x.2 i
 | t,x,0=>.val t x
 | _,_,_+1=>.undef
def jU:af->Nat
 | .aw _ b=>jU b+1
 | .cz=>0
 | _=>1
def qB(t:af)(x:t.ah):aD:=
 match t with
 | .aw a b=>.pK (jU (.aw a b)) (ki (.aw a b) x)
 | .cz=>.jn (.tuple #[])
 | t=>.val t x
def iK:(t:af)->List aD->aq (Option (t.ah×List Nat))
 | .aw a b,v::aB=>(dd a v).cx λ(x,l)=>(iK b aB).cx λ(y,m)=>.ret (some ((x,y),l++m))
 | .aw _ _,[]=>.none
 | .cz,[]=>.ret (some ((),[]))
 | .cz,_::_=>.none
 | t,[v]=>dd t v
 | _,_=>.none
def jt:List Nat->aq (List (Nat×bu))
 | []=>.ret []
 | b::l=>.ew b λx=>(jt l).bind λr=>match x.body with
  | .a8 e xs=>.ret ((b,⟨x.gen,.hj e xs⟩)::r)
  | .mp k v es=>.ret ((b,⟨x.gen,.iY k v es⟩)::r)
  | .cells t f=>(h5 t ((List.range t.size).map f)).bind λo=>.ret (match o with
   | some (y,_,[])=>(b,⟨x.gen,.gq t y⟩)::r
   | _=>r)
  | _=>.ret r
def cellsOf(t:af)(av:aD):Option (List aD):=
 match t,av with
 | .st t,.val (.st cD) x=>if cD=t then some (nq cD x) else none
 | .st t,.agg n f=>if n=t.size then some ((List.range n).map f) else none
 | .array n e,.val (.array iL aS) x=>if iL=n/\aS=e then some (nq (.array iL aS) x) else none
 | .array n e,.agg m f=>if m=n*e.size then some ((List.range m).map f) else none
 | t,av=>if t.ee then (match av with
  | .val cD _=>if cD.ee then some [av] else none
  | .loc _ _ _ | .own _ _ | .n0 _ _ _ _ | .dz _ _ | .fp _ _ | .ih _ _ _ | .cR | .sub _ _ _ _=>some [av]
  | .jn (.agg _) | .jn (.tuple _)=>none
  | .jn _=>some [av]
  | _=>none) else none
def aD.l2:aD->Option (IntKind×Int)
 | .val (.int k) x=>some (k,x)
 | _=>none
def aD.tc:aD->Option (List UInt8)
 | .val .str x=>some x
 | _=>none
def yT(op:BinOp)(k:IntKind)(a b:Int):Option (Prop×aD):=
 match op with
 | .add=>some (True,.val (.int k) (k.wrap (a+b)))
 | .sub=>some (True,.val (.int k) (k.wrap (a - b)))
 | .mul=>some (True,.val (.int k) (k.wrap (a*b)))
 | .quo=>some (b≠0,.val (.int k) (k.wrap (a.tdiv b)))
 | .rem=>some (b≠0,.val (.int k) (a.tmod b))
 | .and=>some (True,.val (.int k) (lr k a b))
 | .or=>some (True,.val (.int k) (QV k a b))
 | .xor=>some (True,.val (.int k) (QW k a b))
 | .andNot=>some (True,.val (.int k) (QX k a b))
 | .eql=>some (True,.val .bool (decide (a=b)))
 | .neq=>some (True,.val .bool (decide (a≠b)))
 | .lss=>some (True,.val .bool (decide (a<b)))
 | .leq=>some (True,.val .bool (decide (a<=b)))
 | .gtr=>some (True,.val .bool (decide (a > b)))
 | .geq=>some (True,.val .bool (decide (a>=b)))
 | _=>none
def JH(op:BinOp)(k:IntKind)(a b:Int):Option (Prop×aD):=
 match op with
 | .shl=>some (0<=b,.val (.int k) (acs k a b))
 | .shr=>some (0<=b,.val (.int k) (iZ k a b))
 | _=>none
def BE(op:BinOp)(a b:List UInt8):Option (Prop×aD):=
 match op with
 | .add=>some (bT (a.length+b.length),.val .str (a++b))
 | .eql=>some (True,.val .bool (decide (a=b)))
 | .neq=>some (True,.val .bool (decide (a≠b)))
 | .lss=>some (True,.val .bool (Op.bytesLess a b))
 | .geq=>some (True,.val .bool (!Op.bytesLess a b))
 | _=>none
def af.jV:af->Nat
 | .st t=>t.jV+1
 | .aw a b=>max a.jV b.jV
 | _=>1
def yU(op:BinOp)(t:af)(x y:aD):aq (Option (Prop×aD)):=
 (match t,x,y with
 | .bq _,.val (.bq _) p,.jn (.pointer none)=>.ret (some p.isNone)
 | .bq _,.dz _ _,.jn (.pointer none)=>.ret (some false)
 | .bq _,.loc b g _,.jn (.pointer none)=>.ew b λz=>.ret (if z.gen=g&&z.body.fq then some false else none)
 | t,x,y=>if t.kA&&decide (t.jV<=100) then (dd t x).cx λ(a,_)=>(dd t y).cx λ(b,_)=>.ret (some (gr t a b)) else .none:aq (Option Bool)).cx λe=>
 .ret (match op with
  | .eql=>some (True,.val .bool e)
  | .neq=>some (True,.val .bool (!e))
  | _=>none)
def bz(bU c:Prop)(v:aD):aq (Option d'):=.ret (some ⟨bU,c,v,[]⟩)
def E1(t:af)(av:aD):aq (Option (Prop×Int)):=
 match t with
 | .slice _=>match av with
  | .val (.slice _) xs=>.ret (some (True,xs.length))
  | .cR=>.ret (some (True,0))
  | .own b g=>.ew b λx=>.ret (if x.gen=g&&x.body.eU then some (True,x.body.len) else none)
  | .sub b g lo E=>.ew b λx=>.ret (if x.gen=g&&x.body.eU then some (True,((E - lo:Nat):Int)) else none)
  | _=>.none
 | .str=>match av with
  | .val .str xs=>.ret (some (True,xs.length))
  | _=>.none
 | .map _ _=>match av with
  | .val (.map _ _) xs=>.ret (some (bT xs.length,xs.length))
  | .fp b g=>.ew b λx=>.ret (if x.gen=g then (match x.body with | .mp _ _ es=>some (bT es.length,(es.length:Int)) | .iY _ _ es=>some (bT es.length,(es.length:Int)) | _=>none) else none)
  | _=>.none
 | _=>.none
def yV(t:af):aD->aq (Option aD)
 | .dz cD x=>.ret (if cD=t/\(t.ee||t.isAgg)=true then some (.val cD x) else none)
 | .loc b g off=>.ew b λx=>.ret (if x.gen=g then (match x.body with
   | .cells t0 f=>if t.ee then (if off<t0.size then some (f off) else none) else if t.isAgg then (if off+t.size<=t0.size then some (.agg t.size λi=>f (off+i)) else none) else none
   | .gq t0 y=>if t.ee||t.isAgg then (rK t0 y off t).map (.val t) else none
   | _=>none) else none)
 | .n0 b g i off=>.ew b λx=>.ret (if x.gen=g then (match x.body with
   | .a8 e xs=>if t.ee||t.isAgg then (rK e (xs.getD i e.cO) off t).map (.val t) else none
   | .hj e xs=>if t.ee||t.isAgg then (rK e (xs.getD i e.cO) off t).map (.val t) else none
   | _=>none) else none)
 | _=>.none
def putCells(f:Nat->aD)(off:Nat)(l:List aD):Nat->aD:=λi=>if off<=i/\i<off+l.length then l.getD (i - off) .undef else f i
def Q4(t:af)(p v:aD):aq (Option (List (Nat×bu))):=
 match p with
 | .loc b g off=>.ew b λx=>.ret (if x.gen=g then (match x.body with
   | .cells t0 f=>(cellsOf t v).bind λl=>if off+l.length<=t0.size/\l.length=t.size then some [(b,⟨x.gen,.cells t0 (putCells f off l)⟩)] else none
   | _=>none) else none)
 | .n0 b g i off=>(dd t v).cx λ(y,l)=>(jt l).bind λwl=>.ew b λx=>.ret (if x.gen=g/\!l.contains b then (match x.body with
   | .a8 e xs=>(wJ e (xs.getD i e.cO) off t y).map λz=>wl++[(b,⟨x.gen,.a8 e (xs.set i z)⟩)]
   | _=>none) else none)
 | _=>.none
def Q5(e0:af)(x:aD)(i:Int):aq (Option (Prop×aD)):=
 match x with
 | .val (.slice e) xs=>.ret (if e=e0 then some (0<=i/\i<(xs.length:Int),.dz e (kz e xs i)) else none)
 | .own b g=>.ew b λz=>.ret (if z.gen=g then (match z.body with
   | .a8 e xs=>if e=e0 then some (0<=i/\i<(xs.length:Int),.n0 b g i.toNat 0) else none
   | .hj e xs=>if e=e0 then some (0<=i/\i<(xs.length:Int),.dz e (kz e xs i)) else none
   | _=>none) else none)
 | .sub b g lo E=>.ew b λz=>.ret (if z.gen=g then (match z.body with
   | .a8 e _=>if e=e0 then some (0<=i/\i<((E - lo:Nat):Int),.n0 b g (lo+i.toNat) 0) else none
   | .hj e xs=>if e=e0 then some (0<=i/\i<((E - lo:Nat):Int),.dz e (kz e xs ((lo:Int)+i))) else none
   | _=>none) else none)
 | .cR=>.ret (some (False,.dz e0 e0.cO))
 | _=>.none
def cY:Option Int->Int | some l=>l | none=>0
def fg(n:Nat):Option Int->Int | some h=>h | none=>n
def BF(lo E:Option Int)(n m:Nat):Nat:=match lo,E with | some _,some _=>m | _,_=>n
def Q6(e0:af)(x:aD)(lo E:Option Int):aq (Option (Prop×aD)):=
 match x with
 | .val (.slice e) xs=>.ret (if e=e0 then some (0<=cY lo/\cY lo<=fg xs.length E/\fg xs.length E<=(xs.length:Int),.val (.slice e) ((xs.take (fg xs.length E).toNat).drop (cY lo).toNat)) else none)
 | .cR=>.ret (some (0<=cY lo/\cY lo<=fg 0 E/\fg 0 E<=0,.cR))
 | .own b g=>.ew b λz=>.ret (if z.gen=g&&z.body.eU&&z.body.eH == e0.size then some (0<=cY lo/\cY lo<=fg z.body.len E/\fg z.body.len E<=(z.body.len:Int),.sub b g (cY lo).toNat (fg z.body.len E).toNat) else none)
 | .sub b g eV h0=>.ew b λz=>.ret (if z.gen=g&&z.body.eU&&z.body.eH == e0.size then some (0<=cY lo/\cY lo<=fg (h0 - eV) E/\fg (h0 - eV) E<=((BF lo E (h0 - eV) (z.body.len - eV):Nat):Int),.sub b g (eV+(cY lo).toNat) (eV+(fg (h0 - eV) E).toNat)) else none)
 | _=>.none
def Q7(x:aD)(lo E:Option Int):Option (Prop×aD):=
 match x with
 | .val .str xs=>some (0<=cY lo/\cY lo<=fg xs.length E/\fg xs.length E<=(xs.length:Int),.val .str ((xs.take (fg xs.length E).toNat).drop (cY lo).toNat))
 | _=>none
def hP(d:Option Nat)(k:Nat->Nat->Option d'):aq (Option d'):=
 match d with
 | none=>.none
 | some d=>.ew d λx=>.ret (k d (x.gen+1))
def JI(d:Option Nat)(e:af)(x y:aD)(bU:Prop):aq (Option d'):=
 match x with
 | .own b g=>.ew b λz=>match (if z.gen=g then z.body else .ff) with
  | .a8 aS xs=>if h:aS=e then (dd (.slice e) y).cx λ(ys,_)=>.ret (some ⟨bU,bT (xs.length+ys.length),.own b (g+1),[(b,⟨g+1,.a8 e ((h ▸ xs)++ys)⟩)]⟩) else .none
  | _=>.none
 | .sub b g lo E=>.ew b λz=>match (if z.gen=g then z.body else .ff) with
  | .a8 aS xs=>if h:aS=e then (dd (.slice e) y).cx λ(ys,_)=>.ret (some ⟨bU,bT (((xs.take E).drop lo).length+ys.length),.own b (g+2),[(b,⟨g+2,.a8 e ((h ▸ (xs.take E).drop lo)++ys)⟩)]⟩) else .none
  | _=>.none
 | .cR=>(dd (.slice e) y).cx λ(ys,_)=>hP d λb g=>some ⟨bU,bT ys.length,.own b g,[(b,⟨g,.a8 e ys⟩)]⟩
 | .wF aS xs=>if h:aS=e then (dd (.slice e) y).cx λ(ys,_)=>hP d λb g=>some ⟨bU,0<ys.length/\bT (xs.length+ys.length),.own b g,[(b,⟨g,.a8 e ((h ▸ xs)++ys)⟩)]⟩ else .none
 | _=>.none
def E2(t:af):List aD->List (Nat×aD)->Option (List aD)
 | cs,[]=>some cs
 | cs,(i,av)::r=>
  match l0 t i with
  | none=>none
  | some (s,off)=>match cellsOf s av with
   | none=>none
   | some l=>if l.length=s.size/\off+s.size<=cs.length then E2 t (cs.take off++(l++cs.drop (off+s.size))) r else none
def td(e:af)(ps:List (Nat×aD)):Nat->Nat->aq (Option (List e.ah×List Nat))
 | _,0=>.ret (some ([],[]))
 | i,n+1=>(match ps.find? (λp=>p.1 == i) with
   | some p=>dd e p.2
   | none=>.ret (some (e.cO,[])):aq (Option (e.ah×List Nat))).cx λ(x,l)=>(td e ps (i+1) n).cx λ(xs,m)=>.ret (some (x::xs,l++m))
def rL(ps:List (Nat×aD)):Prop:=ps.foldr (λp q=>match p.2 with | .hi b _=>b=true/\q | _=>q) True
def il(ps:List (Nat×aD)):List (Nat×aD):=ps.map λp=>(p.1,(use p.2).2)
def ju(ps:List aD):Prop:=ps.foldr (λp q=>match p with | .hi b _=>b=true/\q | _=>q) True
def kU(aF:Operand->aD):Option Operand->Option (Prop×Option Int)
 | none=>some (True,none)
 | some x=>match use (aF x) with
  | (o,.val (.int _) n)=>some (o,some n)
  | _=>none
def E3(T:Nat->af)(aF:Operand->aD)(ty:TypeId)(x:Operand)(lo E:Option Operand):aq (Option d'):=
 let (cf,dD):=use (aF x)
 match kU aF lo,kU aF E with
 | some (ol,l),some (qC,h)=>match T ty with
  | .slice e=>(Q6 e dD l h).cx λ(c,v)=>bz (cf/\(ol/\qC)) c v
  | .str=>match Q7 dD l h with
   | some (c,v)=>bz (cf/\(ol/\qC)) c v
   | none=>.none
  | _=>.none
 | _,_=>.none
def Q8(e0:af)(x:aD)(lo E:Option Int)(m:Int):aq (Option (Prop×aD)):=
 match x with
 | .val (.slice e) xs=>.ret (if e=e0 then some (0<=cY lo/\cY lo<=fg xs.length E/\fg xs.length E=m/\m<=(xs.length:Int),.wF e ((xs.take m.toNat).drop (cY lo).toNat)) else none)
 | .cR=>.ret (some (cY lo=0/\fg 0 E=0/\m=0,.wF e0 []))
 | .own b g=>.ew b λz=>.ret (if z.gen=g&&z.body.eU then some (0<=cY lo/\cY lo<=fg z.body.len E/\fg z.body.len E<=m/\m<=(z.body.len:Int),.undef) else none)
 | _=>.none
def E4(T:Nat->af)(aF:Operand->aD)(ty:TypeId)(x:Operand)(lo E oP:Option Operand):aq (Option d'):=
 let (cf,dD):=use (aF x)
 match kU aF lo,kU aF E,kU aF oP with
 | some (ol,l),some (qC,some h),some (uT,some m)=>match T ty with
  | .slice e=>(Q8 e dD l (some h) m).cx λ(c,v)=>bz (cf/\(ol/\(qC/\uT))) c v
  | _=>.none
 | _,_,_=>.none
def BG(T:Nat->af)(aF:Operand->aD)(args:List Operand)(cT:List TypeId):aq (Option d'):=
 match args,cT with
 | [x],[t]=>let (cf,dD):=use (aF x);(E1 (T t) dD).cx λ(c,n)=>bz cf c (.val (.int .i64) n)
 | _,_=>.none
def BH(T:Nat->af)(aF:Operand->aD)(d:Option Nat)(args:List Operand)(cT:List TypeId):aq (Option d'):=
 match args,cT with
 | [x,y],[t,u]=>match T t,T u with
  | .slice e,.slice _=>let (cf,dD):=use (aF x);let (ns,kj):=use (aF y);JI d e dD kj (cf/\ns)
  | _,_=>.none
 | _,_=>.none
def mw(aF:Operand->aD)(k:IntKind):List Operand->Option (Prop×z1')
 | []=>none
 | [x]=>match (use (aF x)).2.l2 with
  | some (k',n)=>if k'=k then some ((use (aF x)).1,[n]) else none
  | none=>none
 | x::l=>match (use (aF x)).2.l2,mw aF k l with
  | some (k',n),some (bU,hQ)=>if k'=k then some ((use (aF x)).1/\bU,n::hQ) else none
  | _,_=>none
def rM(aF:Operand->aD)(f:Int->Int->Int)(args:List Operand):aq (Option d'):=
 match args with
 | x::y::l=>match (use (aF x)).2.l2 with
  | some (k,a)=>match mw aF k (y::l) with
   | some (bU,hQ)=>bz ((use (aF x)).1/\bU) True (.val (.int k) (hQ.foldl f a))
   | none=>.none
  | none=>.none
 | _=>.none
def BI(T:Nat->af)(aF:Operand->aD)(args:List Operand)(cT:List TypeId):aq (Option d'):=
 match args,cT with
 | [x],[t]=>match T t,use (aF x) with
  | .slice _,(cf,.cR)=>bz cf True (.val (.int .i64) 0)
  | _,_=>.none
 | _,_=>.none
def nu(t:af):Bool:=match t with | .aw (.slice _) .cz=>true | _=>false
def BJ(t:af)(y:t.ah):Option ((e:af)×List e.ah):=match t,y with | .aw (.slice e) .cz,y=>some ⟨e,y.1⟩ | _,_=>none
def E5(a1:Nat->Option aJ)(aF:Operand->aD)(d:Option Nat)(k:Nat)(args:List Operand):aq (Option d'):=
 let l:=args.map aF
 match a1 k with
 | some c=>(iK c.ts (l.map λv=>(use v).2)).cx λ(x,fl)=>match BJ c.tr (c.g x) with
  | some y=>(jt fl).bind λwl=>hP d λb g=>if fl.contains b then none else some ⟨ju l,c.pre x,.own b g,wl++[(b,⟨g,.a8 y.1 y.2⟩)]⟩
  | none=>(if c.tr.pure then .ret [] else jt fl:aq (List (Nat×bu))).bind λwl=>.ret (some ⟨ju l,c.pre x,qB c.tr (c.g x),wl⟩)
 | none=>.none
def yW{k v:af}(es:List (k.ah×v.ah))(x:k.ah):Option v.ah:=(es.find? λp=>gr k x p.1).map (·.2)
def ls{k v:af}:List (k.ah×v.ah)->k.ah->v.ah->List (k.ah×v.ah)
 | [],x,y=>[(x,y)]
 | p::es,x,y=>if gr k x p.1=true then (p.1,y)::es else p::ls es x y
def tf(k:af):Bool:=k.kA&&decide (k.jV<=100)
def BK(k v:af)(m:aD):aq (Option (List (k.ah×v.ah))):=
 match m with
 | .val t es=>.ret (ez t (.map k v) es)
 | .jn (.map none)=>.ret (some [])
 | .fp b g=>.ew b λx=>.ret (if x.gen=g then (match x.body with
   | .mp k' hO es=>ez (.map k' hO) (.map k v) es
   | .iY k' hO es=>ez (.map k' hO) (.map k v) es
   | _=>none) else none)
 | _=>.none
def Q9(v:af)(r:Option v.ah)(ok:Bool):aD:=
 match ok with
 | true=>.pK 2 (gO [.val v (r.getD v.cO),.val .bool r.isSome])
 | false=>.val v (r.getD v.cO)
def yX(T:Nat->af)(aF:Operand->aD)(ty:TypeId)(m x:Operand)(ok:Bool):aq (Option d'):=
 match T ty with
 | .map k v=>let (uT,JJ):=use (aF m);let (cf,dD):=use (aF x);if tf k&&(v.ee||v.isAgg) then
   (BK k v JJ).cx λes=>(dd k dD).cx λ(y,_)=>
    bz (uT/\cf) True (Q9 v (yW es y) ok)
  else .none
 | _=>.none
def qD(T:Nat->af)(aF:Operand->aD)(ty:TypeId)(m x y:Operand):aq (Option d'):=
 match T ty with
 | .map k v=>let (uT,JJ):=use (aF m);let (cf,dD):=use (aF x);let (ns,kj):=use (aF y);if tf k then
   match JJ with
   | .fp b g=>(dd k dD).cx λ(x,n2)=>(dd v kj).cx λ(y,n3)=>(jt (n2++n3)).bind λwl=>.ew b λz=>.ret (if z.gen=g/\!(n2++n3).contains b then (match z.body with
     | .mp k' hO es=>(ez (.map k' hO) (.map k v) es).map λes=>⟨uT/\cf/\ns,True,.undef,wl++[(b,⟨z.gen,.mp k v (ls es x y)⟩)]⟩
     | _=>none) else none)
   | _=>.none
  else .none
 | _=>.none
def E6(T:Nat->af)(aF:Operand->aD)(d:Option Nat)(ty:TypeId)(l c:Operand):aq (Option d'):=
 match T ty with
 | .slice e=>let (ol,acy):=use (aF l);let (oc,acz):=use (aF c);match acy.l2,acz.l2 with
  | some (.i64,n),some (.i64,m)=>hP d λb g=>some ⟨ol/\oc,0<=n/\n=m/\bT n.toNat,.own b g,[(b,⟨g,.a8 e (List.replicate n.toNat e.cO)⟩)]⟩
  | _,_=>.none
 | _=>.none
def fO{aj:Type}(xs:List aj)(lo:Nat)(ys:List aj):List aj:=xs.take lo++ys++xs.drop (lo+ys.length)
def E7(T:Nat->af)(aF:Operand->aD)(args:List Operand)(cT:List TypeId):aq (Option d'):=
 match args,cT with
 | [x,y],[t,u]=>match T t,T u with
  | .slice e,.slice _=>let (cf,dD):=use (aF x);let (ns,kj):=use (aF y);match (match dD with | .own b g=>some (b,g,0,none) | .sub b g lo E=>some (b,g,lo,some E) | _=>none:Option (Nat×Nat×Nat×Option Nat)) with
   | some (b,g,lo,E)=>(dd (.slice e) kj).cx λ(ys,_)=>.ew b λz=>.ret (if z.gen=g then (match z.body with
     | .a8 aS xs=>if h:aS=e then some ⟨cf/\ns,True,.val (.int .i64) ((min (E.getD xs.length - lo) ys.length:Nat):Int),[(b,⟨z.gen,.a8 e (fO (h ▸ xs) lo (ys.take (E.getD xs.length - lo)))⟩)]⟩ else none
     | _=>none) else none)
   | none=>.none
  | _,_=>.none
 | _,_=>.none
def wL(aF:Operand->aD)(args:List Operand):Option (Nat×Nat×Nat×Nat):=
 match args with
 | [x,y]=>match (use (aF x)).2,(use (aF y)).2 with
  | .sub b g lo E,.sub aZ g' _ _=>if aZ=b/\g'=g then some (b,g,lo,E) else none
  | _,_=>none
 | _=>none
def BL(T:Nat->af)(aF:Operand->aD)(args:List Operand)(cT:List TypeId)(b g lo E:Nat):aq (Option d'):=
 match args,cT with
 | [x,y],[t,u]=>match T t,T u with
  | .slice e,.slice _=>let (cf,_):=use (aF x);let (ns,kj):=use (aF y);(dd (.slice e) kj).cx λ(ys,_)=>.ew b λz=>.ret (if z.gen=g then (match z.body with
    | .a8 aS xs=>if h:aS=e then some ⟨cf/\ns,E+ys.length<=xs.length,.sub b g lo (E+ys.length),[(b,⟨z.gen,.a8 e (fO (h ▸ xs) E ys)⟩)]⟩ else none
    | _=>none) else none)
  | _,_=>.none
 | _,_=>.none
def BM(T:Nat->af)(aF:Operand->aD)(args:List Operand)(cT:List TypeId):aq (Option d'):=
 match args,cT with
 | [x],[t]=>match T t with
  | .slice e=>let (cf,dD):=use (aF x);match dD with
   | .sub b g lo E=>.ew b λz=>.ret (if z.gen=g then (match z.body with
     | .a8 aS xs=>if h:aS=e then some ⟨cf,True,.undef,[(b,⟨z.gen,.a8 e (fO (h ▸ xs) lo (List.replicate (E - lo) e.cO))⟩)]⟩ else none
     | _=>none) else none)
   | _=>.none
  | _=>.none
 | _,_=>.none
def mx(T:Nat->af)(a1:Nat->Option aJ)(aF:Operand->aD)(d:Option Nat)(c:Call):aq (Option d'):=
 match c.callee with
 | .builtin b=>match b with
  | .len=>BG T aF c.args.toList c.argTypes.toList
  | .append=>match wL aF c.args.toList with
   | some (b,g,lo,E)=>BL T aF c.args.toList c.argTypes.toList b g lo E
   | none=>BH T aF d c.args.toList c.argTypes.toList
  | .clear=>BM T aF c.args.toList c.argTypes.toList
  | .copy=>E7 T aF c.args.toList c.argTypes.toList
  | .min=>rM aF (λa b=>if b<a then b else a) c.args.toList
  | .max=>rM aF (λa b=>if b > a then b else a) c.args.toList
  | .cap=>BI T aF c.args.toList c.argTypes.toList
  | _=>.none
 | .value f=>match f with
  | .func k=>E5 a1 aF d k c.args.toList
  | _=>.none
 | _=>.none
def uU(ys:z1'):List UInt8:=ys.map λn=>UInt8.ofNat n.toNat
def Q_(t:af)(bU:Prop)(b g i:Nat):aq (Option d'):=
 .ew b λz=>.ret (match z.body with
  | .fQ _ _ kV v=>if z.gen=g/\t.ee=true then some ⟨bU,i=kV,v,[]⟩ else none
  | _=>none)
def JK(t:af)(bU:Prop)(b g i:Nat)(v:aD):aq (Option d'):=
 match v with
 | .own aZ g'=>.ew b λz=>.ret (match z.body with
  | .fQ e xs kV _=>if z.gen=g/\t.ee=true then some ⟨bU,i=kV,.undef,[(b,⟨z.gen,.fQ e xs kV (.own aZ g')⟩)]⟩ else none
  | _=>none)
 | _=>.none
def bh(U:dj)(T:Nat->af)(a1:Nat->Option aJ)(aF:Operand->aD)(o:Oper):aq (Option d'):=
 match o.op with
 | .move x=>bz True True (aF x)
 | .assign x=>match aF x,T o.type with
  | .cR,.slice e=>hP o.dst λb g=>some ⟨True,True,.own b g,[(b,⟨g,.a8 e []⟩)]⟩
  | v,_=>bz True True v
 | .pick c a b=>match use (aF c) with
  | (oc,.val .bool iM)=>match a,b with
   | _,.const (.bool false)=>match use (aF a) with
    | (yY,.val .bool av)=>bz (oc/\(iM=true->yY)) True (.val .bool (iM&&av))
    | _=>.none
   | .const (.bool true),_=>match use (aF b) with
    | (bU,.val .bool bv)=>bz (oc/\(iM=false->bU)) True (.val .bool (iM||bv))
    | _=>.none
   | _,_=>.none
  | _=>.none
 | .binOp op ty x y _=>
  let (cf,dD):=use (aF x)
  let (ns,kj):=use (aF y)
  match dD.l2,kj.l2 with
  | some (k,a),some (k',b)=>(match op with
   | .shl | .shr=>match JH op k a b with
    | some (c,v)=>bz (cf/\ns) c v
    | none=>.none
   | _=>if k=k' then (match yT op k a b with
    | some (c,v)=>bz (cf/\ns) c v
    | none=>.none) else .none)
  | _,_=>match dD.tc,kj.tc with
   | some a,some b=>match BE op a b with
    | some (c,v)=>bz (cf/\ns) c v
    | none=>.none
   | _,_=>(yU op (T ty) dD kj).cx λ(c,v)=>bz (cf/\ns) c v
 | .unOp op _ x=>match op,use (aF x) with
  | .not,(cf,.val .bool b)=>bz cf True (.val .bool (!b))
  | .neg,(cf,.val (.int k) n)=>bz cf True (.val (.int k) (k.wrap (0 - n)))
  | _,_=>.none
 | .extract x i=>match use (aF x) with
  | (cf,.pK n f)=>if i<n then bz cf True (f i) else .none
  | _=>.none
 | .nilCheck x=>match use (aF x) with
  | (cf,.iI b g i)=>.ew b λz=>.ret (if z.gen=g&&z.body.eU then some ⟨cf,True,.iI b g i,[]⟩ else none)
  | (cf,.dz t d)=>bz cf True (.dz t d)
  | (cf,.val (.bq e) p)=>bz cf (p.isSome=true) (.dz e (p.getD e.cO))
  | (cf,.loc b g off)=>.ew b λz=>.ret (if z.gen=g&&z.body.fq then some ⟨cf,True,.loc b g off,[]⟩ else none)
  | _=>.none
 | .fieldAddr ty x f=>match T ty with
  | .st t=>match l0 t f with
   | some (_,wM)=>match use (aF x) with
    | (cf,.loc b g off)=>.ew b λz=>.ret (if z.gen=g&&z.body.fq then some ⟨cf,True,.loc b g (off+wM),[]⟩ else none)
    | (cf,.n0 b g i off)=>.ew b λz=>.ret (if z.gen=g&&z.body.eU then some ⟨cf,True,.n0 b g i (off+wM),[]⟩ else none)
    | (cf,.iI b g i)=>.ew b λz=>.ret (if z.gen=g&&z.body.eU&&wM == 0 then some ⟨cf,True,.iI b g i,[]⟩ else none)
    | (cf,.dz (.st cD) d)=>if cD=t then (match uP cD d f with
     | some ⟨s',y⟩=>bz cf True (.dz s' y)
     | none=>.none) else .none
    | _=>.none
   | none=>.none
  | _=>.none
 | .field ty x f=>match T ty with
  | .st t=>match use (aF x) with
   | (cf,.val (.st cD) d)=>if cD=t then (match uP cD d f with
     | some ⟨s',y⟩=>bz cf True (.val s' y)
     | none=>.none) else .none
   | _=>.none
  | _=>.none
 | .load ty x=>match use (aF x) with
  | (cf,.iI b g i)=>Q_ (T ty) cf b g i
  | (cf,dD)=>(yV (T ty) dD).cx λv=>bz cf True v
 | .store ty x y=>let (ns,kj):=use (aF y);match use (aF x) with
  | (cf,.iI b g i)=>JK (T ty) (cf/\ns) b g i kj
  | (cf,dD)=>(Q4 (T ty) dD kj).cx λwl=>.ret (some ⟨cf/\ns,True,.undef,wl⟩)
 | .alloc ty=>hP o.dst λb g=>if T ty=.cz then none else some ⟨True,True,.loc b g 0,[(b,⟨g,.cells (T ty) (gO (rJ (T ty)))⟩)]⟩
 | .box ty x=>let (cf,dD):=use (aF x);match cellsOf (T ty) dD with
  | some l=>hP o.dst λb g=>if l.length=(T ty).size then some ⟨cf,True,.loc b g 0,[(b,⟨g,.cells (T ty) (gO l)⟩)]⟩ else none
  | none=>.none
 | .build ty ps=>let l:=ps.toList.map λp=>(p.1,aF p.2);match T ty with
  | .st t=>match E2 t (rJ t) (il l) with
   | some cs=>bz (rL l) True (.agg cs.length (gO cs))
   | none=>.none
  | .array m e=>(td e (il l) 0 m).cx λ(xs,fl)=>if (fl.isEmpty&&decide ((il l).map (·.1)).Nodup&&(il l).all (λp=>decide (p.1<m)))=true then bz (rL l) True (.val (.array m e) xs) else .none
  | _=>.none
 | .buildSlice ty n ps=>let l:=ps.toList.map λp=>(p.1,aF p.2);match T ty with
  | .slice e=>(td e (il l) 0 n).cx λ(xs,fl)=>(jt fl).bind λwl=>hP o.dst λb g=>if n*e.size<=65536/\(!fl.contains b&&decide ((il l).map (·.1)).Nodup&&(il l).all (λp=>decide (p.1<n)))=true then some ⟨rL l,True,.own b g,wl++[(b,⟨g,.a8 e xs⟩)]⟩ else none
  | _=>.none
 | .indexAddr ty x i=>let (cf,dD):=use (aF x);let (wN,vi):=use (aF i);match T ty,vi.l2 with
  | .slice e,some (_,n)=>(Q5 e dD n).cx λ(c,v)=>bz (cf/\wN) c v
  | .array m e,some (_,n)=>match dD with
   | .dz (.array da aS) xs=>if da=m/\aS=e then bz (cf/\wN) (0<=n/\n<(m:Int)) (.dz aS (kz aS xs n)) else .none
   | .loc b g off=>.ew b λz=>.ret (if z.gen=g&&z.body.fq then some ⟨cf/\wN,0<=n/\n<(m:Int),.loc b g (off+n.toNat*e.size),[]⟩ else none)
   | _=>.none
  | _,_=>.none
 | .index ty x i=>let (cf,dD):=use (aF x);let (wN,vi):=use (aF i);match T ty,dD.tc,vi.l2 with
  | .str,some s,some (_,n)=>bz (cf/\wN) (0<=n/\n<(s.length:Int)) (.val (.int .u8) ((s.getD n.toNat 0).toNat:Int))
  | .array m e,_,some (_,n)=>match dD with
   | .val (.array da aS) xs=>if da=m/\aS=e then bz (cf/\wN) (0<=n/\n<(m:Int)) (.val aS (kz aS xs n)) else .none
   | .agg k f=>if k=m*e.size then bz (cf/\wN) (0<=n/\n<(m:Int)) (if e.isAgg=true then .agg e.size (λq=>f (n.toNat*e.size+q)) else f (n.toNat*e.size)) else .none
   | _=>.none
  | _,_,_=>.none
 | .convert a b x=>let (cf,dD):=use (aF x);match T a,T b,dD.l2 with
  | .int _,.int k,some (_,n)=>bz cf True (.val (.int k) (k.wrap n))
  | .slice (.int .u8),.str,_=>(dd (.slice (.int .u8)) dD).cx λ(ys,_)=>bz cf True (.val .str (uU ys))
  | _,_,_=>.none
 | .makeFunc fn first cF=>match fn with
  | .func k=>let l:=cF.toList.map aF;if first.isEmpty then (match U.s_ k with
   | some v=>(iK (fP (v.cs.map .bq)) (l.map λv=>(use v).2)).cx λ(y,fl)=>(jt fl).bind λwl=>.ret (some ⟨ju l,True,.val (.fn (fP v.as) v.tr) (λx=>v.sh (EW v.as (v.cs.map .bq) x y)),wl⟩)
   | none=>match U.wD k with
    | some v=>(iK (fP (v.cs.map .bq)) (l.map λv=>(use v).2)).cx λ(y,fl)=>(jt fl).bind λwl=>.ret (some ⟨ju l,True,.val (.b8 v.aI) (v.S y),wl⟩)
    | none=>bz (ju l) True (.ih k l.length (gO (l.map λv=>(use v).2)))) else (if cF.isEmpty then bz (ju (first.toList.map aF)) True (.rI k first.size (gO ((first.toList.map aF).map λv=>(use v).2))) else .none)
  | _=>.none
 | .makeMap ty r=>if r.isSome then .none else match T ty with
  | .map k v=>hP o.dst λb g=>some ⟨True,True,.fp b g,[(b,⟨g,.mp k v []⟩)]⟩
  | _=>.none
 | .lookup ty m x ok=>yX T aF ty m x ok
 | .mapUpdate ty m x y=>qD T aF ty m x y
 | .insert ty m x y=>qD T aF ty m x y
 | .makeSlice ty l c=>E6 T aF o.dst ty l c
 | .makeInterface _ _=>bz True False .undef
 | .panic _=>bz True False .undef
 | .slice ty x lo E oP=>if oP.isSome then E4 T aF ty x lo E oP else E3 T aF ty x lo E
 | .call c=>mx T a1 aF o.dst c
 | _=>.none
def dw(r:Option Nat):Fence:={ Fence.wide with round:=r }
section
variable {P:Program} {w:World}
theorem di{t:TypeId}{d:TypeDesc}(h:P.underlying t=some d):(underlying t).run P w=.ok d w:=by simp[underlying,h]
theorem E8{t:TypeId}{i:TypeInfo}(h:P.info? t=some i):(typeInfo t).run P w=.ok i w:=by simp[typeInfo,h]
theorem rN{t:TypeId}{i:TypeInfo}(h:P.info? t=some i):(sizeOf t).run P w=.ok i.size w:=by simp[sizeOf,E8 h]
theorem qE{t:TypeId}{i:TypeInfo}{z:Value}(h:P.info? t=some i)(bb:i.zero=some z):(zeroValue t).run P w=.ok z w:=by simp[zeroValue,E8 h,bb]
theorem bQ.size{t:af}{id:TypeId}(h:bQ P t id):(sizeOf id).run P w=.ok t.size w:=by
 obtain⟨i,z,h1,h2,_⟩:=kh h.kg;rw[rN h1,h2]
theorem bQ.st{t:af}{id:TypeId}(h:bQ P (.st t) id):∃ eA,P.underlying id=some (.struct eA):=by
 unfold bQ at h;simp only[ch,Bool.and_eq_true]at h;grind
theorem bQ.sl{e:af}{id:TypeId}(h:bQ P (.slice e) id):∃ i,P.underlying id=some (.slice i)/\bQ P e i/\e.size≠0:=by
 unfold bQ at h;simp only[ch,Bool.and_eq_true]at h;obtain⟨_,h⟩:=h;split at h
 ·rename_i i E;simp only[Bool.and_eq_true,bne_iff_ne,ne_eq]at h;exact⟨i,E,h.1,h.2⟩
 grind
theorem acA:∀ (t:af) {l:List Field} {E9 f off:Nat} {s:af},ch P t (.inr (l,E9))=true->l0 t f=some (s,off)->
  ∃ nv,l[f]?=some nv/\nv.offset=E9+off/\bQ P s nv.type/\s.size≠0:=by
 intro t;induction t with
 | aw a b fe ej=>
  intro l E9 f off s h ar;match l,h with
  | [],h=>simp only[ch,Bool.false_eq_true]at h
  | [x],h=>simp only[ch,Bool.false_eq_true]at h
  | [x,y],h=>
   simp only[ch,Bool.and_eq_true,beq_iff_eq,bne_iff_ne,ne_eq]at h;obtain⟨⟨⟨⟨h1,h2⟩,h3⟩,_⟩,⟨⟨aR,bw⟩,cZ⟩,_⟩:=h;cases f with
   | zero=>simp only[l0,Option.some.injEq,Prod.mk.injEq]at ar;obtain⟨rfl,rfl⟩:=ar;exact⟨x,rfl,h1,h2,h3⟩
   | succ f=>
    simp only[l0,Option.map_eq_some_iff,Prod.mk.injEq]at ar;obtain⟨⟨s',hF⟩,ar,rfl,rfl⟩:=ar;have ab:∃ u,l0 b f=some u/\f=0/\u=(b,0):=by
     cases b<;>cases f<;>simp only[l0,reduceCtorEq]at ar<;>first
      | exact⟨_,ar,rfl,by cases ar;rfl⟩
      | (simp only[ch,Bool.false_eq_true]at bw)
    obtain⟨u,hu,rfl,rfl⟩:=ab;rw[hu]at ar;cases ar;exact⟨y,rfl,by omega,bw,cZ⟩
  | x::y::z::l,h=>
   simp only[ch,Bool.and_eq_true,beq_iff_eq,bne_iff_ne,ne_eq]at h;obtain⟨⟨⟨⟨h1,h2⟩,h3⟩,_⟩,aR⟩:=h;cases f with
   | zero=>simp only[l0,Option.some.injEq,Prod.mk.injEq]at ar;obtain⟨rfl,rfl⟩:=ar;exact⟨x,rfl,h1,h2,h3⟩
   | succ f=>
    simp only[l0,Option.map_eq_some_iff,Prod.mk.injEq]at ar;grind
 | _=>intro l E9 f off s h _;simp only[ch,Bool.false_eq_true]at h
theorem bQ.field{t s:af}{id f off:Nat}(h:bQ P (.st t) id)(ar:l0 t f=some (s,off)) :
  ∃ eA nv,P.underlying id=some (.struct eA)/\eA[f]?=some nv/\nv.offset=off/\bQ P s nv.type/\s.size≠0:=by
 unfold bQ at h;simp only[ch,Bool.and_eq_true]at h;obtain⟨_,h⟩:=h;split at h
 ·rename_i eA i_;refine⟨eA,?_⟩;have eB:∀ {nv},eA.toList[f]?=some nv->eA[f]?=some nv:=λh=>by grind
  split at h
  ·rename_i ai;rw[of_decide_eq_true h]at ar;cases f<;>cases ar
  ·rename_i x ai;simp only[Bool.and_eq_true,beq_iff_eq,bne_iff_ne,ne_eq]at h;have ab:f=0/\(s,off)=(t,0):=by
    cases t<;>cases f<;>simp only[l0,reduceCtorEq]at ar<;>first
     | exact⟨rfl,by cases ar;rfl⟩
     | (have:=h.1.1.2;simp only[ch,Bool.false_eq_true]at this)
   obtain⟨rfl,ab⟩:=ab;cases ab;exact⟨x,i_,eB (by grind),h.1.1.1,h.1.1.2,h.1.2⟩
  ·obtain⟨nv,aO,aP,bA⟩:=acA t h ar;grind
 grind
def kk(w:World)(p:Addr)(cs:List Value):Prop:=(0<cs.length->p.spot=none)/\∀ j (h:j<cs.length),w.cell? ⟨p.block,p.off+j,none⟩=some cs[j]
theorem Holds.JL{F:Nat->Prop}{p:Addr}{cs:List Value}(h:Holds F w p cs):kk w p cs:=⟨λ_=>h.2.1,h.2.2⟩
theorem E_{p:Addr}{cs:List Value}(h:kk w p cs):(loadCells p cs.length).run P w=.ok cs.toArray w:=by
 obtain⟨hs,hc⟩:=h;refine run_loadCells_list w p cs λj v aC=>?_;obtain⟨fA,rfl⟩:=List.getElem?_eq_some_iff.1 aC;have hp:p=⟨p.block,p.off,none⟩:=by have:=hs (by omega);cases p;simp_all
 have:=hc j fA;have yZ:p.add j=⟨p.block,p.off+j,none⟩:=by
  unfold Addr.add;grind
 grind
theorem y0{t:af}{id:TypeId}(h:bQ P t id):(isAgg id).run P w=.ok t.isAgg w:=by
 unfold bQ at h;unfold isAgg;cases t<;>simp only[ch,Bool.and_eq_true,Bool.false_eq_true]at h<;>(obtain⟨_,h⟩:=h;split at h)<;>
  first
   | (rename_i hu;simp[di hu,af.isAgg];done)
   | (cases h;done)
   | (rename_i hu;simp[di hu,af.isAgg])
theorem JM{F:Nat->Prop}{p:Addr}{cs:List Value}{t:af}{id:TypeId}{x:t.ah}(h:bQ P t id)(cA:kk w p cs)(hx:bt P t F w cs x) :
  ∃ v,(loadVar id p).run P w=.ok v w/\dU P t F w v x:=by
 have hlen:=hC t hx;by_cases aV:t.isAgg=true
 ·refine⟨.agg cs.toArray,?_,?_,by simpa [Value.cells]using hx⟩
  ·have:=E_ (P:=P) cA;rw[hlen]at this;simp[loadVar,y0 h,aV,h.size,this]
  ·cases t<;>simp only[af.isAgg,Bool.false_eq_true]at aV
   ·exact⟨cs.toArray,rfl,by simpa [af.size]using hlen⟩
   ·exact⟨cs.toArray,rfl,by simpa [af.size]using hlen⟩
 ·have ai:t.ee=true:=by
   cases t<;>simp only[af.isAgg,not_true]at aV<;>first | rfl | (unfold bQ at h;simp only[ch,Bool.false_eq_true]at h)
  obtain⟨u,rfl,hu⟩:=Bw ai hx;refine⟨u,?_,(dy ai).2 ⟨hu,hx⟩⟩;have hc:=cA.2 0 (by simp);have hp:p=⟨p.block,p.off+0,none⟩:=by have:=cA.1 (by simp);cases p;simp_all
  rw[<-hp]at hc;simp[loadVar,y0 h,aV,hc]
end
section
variable {r:Option Nat} {P:Program} {o:Oper} {a:Act} {w w':World} {K:Act->World->Prop} {Q:Exit->Act->World->Prop}
theorem y1(au:∀ c,o.op≠.defer c):o.semAt (dw r).round a.eval=execOp a.eval o:=Oper.semAt_eq _ _ _ au
theorem ha{v:Value}(au:∀ c,o.op≠.defer c)(h:(execOp a.eval o).run P w=.ok (.value v) w')(ao:K (a.put o.dst v) w'):o.wpIn (dw r) 0 P a w K Q:=by
 refine⟨λ_ _=>trivial,?_⟩;rw[y1 au,h];exact ao
theorem E'(au:∀ c,o.op≠.defer c)(h:(execOp a.eval o).run P w=.ok .skip w')(ao:K (a.put o.dst Go.undef) w'):o.wpIn (dw r) 0 P a w K Q:=by
 refine⟨λ_ _=>trivial,?_⟩;rw[y1 au,h];exact ao
end
def ay.fK(s:ay):List (Nat×bu)->ay
 | []=>s
 | p::l=>(s.b' p.1 p.2).fK l
def ay.hR(s:ay)(d:Option Nat)(res:d'):ay:=(s.fK res.hk).set d res.eM
def cn(C:bS)(o:Oper)(s:ay)(res:d'):Prop:=
 ∀ a w κ F Q,bc C s a w κ F->res.bU->res.c->o.wpIn (dw C.r) 0 C.P a w (λa' w'=>b9 C (s.hR o.dst res) a' w') Q
theorem cn.pure{C:bS}{o:Oper}{s:ay}{bU c:Prop}{eM:aD}(au:∀ c,o.op≠.defer c)(a6:∀ i,o.dst=some i->i<C.nt)
  (h:∀ a w κ F,bc C s a w κ F->bU->c->∃ v,(execOp a.eval o).run C.P w=.ok (.value v) w/\bl C.P s.ad κ F w eM v):cn C o s ⟨bU,c,eM,[]⟩:=by
 intro a w κ F Q G aY hc;obtain⟨v,h1,h2⟩:=h a w κ F G aY hc;exact ha au h1 ⟨κ,F,G.set a6 h2⟩
section
variable {P:Program} {H:Nat->bu} {κ:Nat->bo} {F:Nat->Prop} {w:World}
theorem oQ{av:aD}{v:Value}(h:bl P H κ F w av v)(hu:(use av).1):bl P H κ F w (use av).2 v:=by
 cases av<;>first | exact h | exact h.1 hu
theorem acB(v:Value):bl P H κ F w (wK v) v:=by
 unfold wK;split
 ·exact eT.2 rfl
 ·split
  ·rename_i h;exact gE.2 ⟨rfl,h⟩
  ·rfl
 ·split
  ·rename_i s h;refine lX.2 ⟨by simp,?_⟩;have:s.data.toList.length=s.size:=by rfl
   omega
  ·rfl
 ·rfl
 ·rfl
theorem jW{C:bS}{s:ay}{a:Act}{w:World}{κ:Nat->bo}{F:Nat->Prop}(h:bc C s a w κ F)(x:Operand):bl C.P s.ad κ F w (aT C.aK s.ax x) (a.eval x):=by
 cases x with
 | tmp t=>exact h.bF t
 | const v=>exact acB v
 | func f=>
  show bl _ _ _ _ _ (match C.aK.s9 f with | some v=>.val (.fn v.ts v.tr) v.sh | none=>.ih f 0 λ_=>.undef) (.func (.func f) #[] #[]);split
  ·rename_i v hv;exact (dy rfl).2 ⟨rfl,ack (h.jr.s9 f v hv) F w⟩
  ·exact⟨[],rfl,rfl,λi E=>by omega⟩
 | global g=>trivial
theorem n5{av:aD}{v:Value}{k:IntKind}{n:Int}(h:bl P H κ F w av v)(E:av.l2=some (k,n)):v=.int k n/\fz k n:=by
 unfold aD.l2 at E;split at E
 ·cases E;exact gE.1 h
 grind
theorem JN{av:aD}{v:Value}{s:List UInt8}(h:bl P H κ F w av v)(E:av.tc=some s):v=.string ⟨s.toArray⟩/\s.length<2 ^ 63:=by
 unfold aD.tc at E;split at E
 ·cases E;exact lX.1 h
 grind
end
theorem pP(k:IntKind)(n:Int):fz k (k.wrap n):=by
 unfold fz IntKind.wrap;have h1:=Int.emod_nonneg n (b:=2 ^ k.bits) (by cases k<;>decide);have h2:=Int.emod_lt_of_pos n (b:=2 ^ k.bits) (by omega);cases k<;>simp only[IntKind.min,IntKind.max,IntKind.signed,IntKind.bits,Bool.true_and,Bool.false_and,Bool.false_eq_true,if_true,if_false,Nat.reduceSub,Int.reducePow]at h1 h2 ⊢<;>first
  | (constructor<;>split<;>first | (rename_i hc;have hc:=of_decide_eq_true hc;omega) | (rename_i hc;have hc:=mt decide_eq_true hc;omega))
  | omega
theorem acC{k:IntKind}{a b:Int}(aV:fz k a):fz k (a.tmod b):=by
 unfold fz at *
 have h1:k.min<=0/\0<=k.max:=by cases k<;>decide
 have h2:=Int.natAbs_tmod a b;have h3:=Nat.mod_le a.natAbs b.natAbs;rcases Int.le_total 0 a with h | h
 ·have:=Int.tmod_nonneg b h;omega
 ·have aR:(-a).tmod b=- (a.tmod b):=Int.neg_tmod a b;have:=Int.tmod_nonneg b (a:=-a) (by omega);omega
end Go.Fer
namespace Go.Fer
open Go.RowKit
theorem Q'{P:Program}{w:World}{t:af}{id:TypeId}(h:bQ P t id)(ai:t.isAgg=false){cs:Array Value}{off:Nat}{v:Value}(hv:cs[off]?=some v) :
  (part id cs off).run P w=.ok v w:=by
 simp[part,y0 h,ai,hv]
theorem Ra{P:Program}{w:World}{t:af}{id:TypeId}(h:bQ P t id)(ai:t.isAgg=true){cs:Array Value}{off:Nat} :
  (part id cs off).run P w=.ok (.agg (cs.extract off (off+t.size))) w:=by
 simp[part,y0 h,ai,h.size]
theorem qF{P:Program}{F:Nat->Prop}{w:World}{t:af}{id:TypeId}(h:bQ P t id){p c q:List Value}{cs:Array Value}{x:t.ah}(oR:cs.toList=p++(c++q))(hc:bt P t F w c x) :
  ∃ v,(part id cs p.length).run P w=.ok v w/\dU P t F w v x:=by
 have hlen:=hC t hc;by_cases aV:t.isAgg=true
 ·refine⟨_,Ra h aV,?_⟩;have he:(cs.extract p.length (p.length+t.size)).toList=c:=by
   simp_all
  have hv:(Value.agg (cs.extract p.length (p.length+t.size))).cells.toList=c:=he;refine⟨?_,by grind⟩;have bW:(cs.extract p.length (p.length+t.size)).size=t.size:=by grind
  cases t<;>simp only[af.isAgg,Bool.false_eq_true]at aV
  ·exact⟨_,rfl,by simpa [af.size]using bW⟩
  ·exact⟨_,rfl,by simpa [af.size]using bW⟩
 ·have ai:t.ee=true:=by
   cases t<;>simp only[af.isAgg,not_true]at aV<;>first | rfl | (unfold bQ at h;simp only[ch,Bool.false_eq_true]at h)
  obtain⟨u,rfl,hu⟩:=Bw ai hc;refine⟨u,Q' h (by grind) ?_,(dy ai).2 ⟨hu,hc⟩⟩;rw[<-Array.getElem?_toList,oR];simp
theorem bQ.BN{P:Program}{t:af}{id:TypeId}(h:bQ P (.st t) id):P.stoodInHeld id=false/\P.eqGuardType P.depth id=false/\
  (ch P t (.inr ((P.fieldsOf id).toList, 0)) = true \/ (∃ f, (P.fieldsOf id).toList = [f] /\ f.offset = 0 /\ bQ P t f.type /\ f.name ≠ "_") \/ (t = .cz /\ (P.fieldsOf id).toList = [])) /\ P.underlying id = some (.struct (P.fieldsOf id)) := by
 unfold bQ at h;simp only[ch,Bool.and_eq_true,Bool.not_eq_true']at h;obtain⟨⟨⟨_,h1⟩,h2⟩,h⟩:=h;split at h
 ·rename_i eA i_;have ar:P.fieldsOf id=eA:=by simp[Program.fieldsOf,i_]
  rw[ar];refine⟨h1,h2,?_,i_⟩;split at h
  ·grind
  ·rename_i x ai;simp only[Bool.and_eq_true,beq_iff_eq,bne_iff_ne,ne_eq]at h;exact .inr (.inl ⟨x,ai,h.1.1.1,h.1.1.2,h.2⟩)
  grind
 grind
theorem JO{P:Program}{F:Nat->Prop}{w:World}:∀ (t:af) (d:Nat),t.kA=true->t.jV<=d->
  (∀ {id:TypeId} {v u:Value} {x y:t.ah},bQ P t id->dU P t F w v x->dU P t F w u y->(Op.equalIn d id v u).run P w=.ok (gr t x y) w)/\
  (∀ {l:List Field} {off:Nat} {xs ys:Array Value} {p c q p' c' q':List Value} {x y:t.ah},ch P t (.inr (l,off))=true->xs.toList=p++(c++q)->p.length=off->bt P t F w c x->
   ys.toList=p'++(c'++q')->p'.length=off->bt P t F w c' y->(Op.eqFields d xs ys l).run P w=.ok (gr t x y) w):=by
 intro t;induction t with
 | bool=>
  intro d _ au;refine⟨λ{id v u x y} h h1 h2=>?_,λh=>by simp[ch]at h⟩;rw[eT.1 h1,eT.1 h2];obtain⟨d,rfl⟩:∃ e,d=e+1:=⟨d - 1,by simp only[af.jV]at au;omega⟩
  unfold bQ at h;simp only[ch,Bool.and_eq_true]at h;obtain⟨_,h⟩:=h;split at h
  ·rename_i hu;rw[run_equalIn_bool' w d id x y hu];rfl
  grind
 | int k=>
  intro d _ au;refine⟨λ{id v u x y} h h1 h2=>?_,λh=>by simp[ch]at h⟩;rw[(gE.1 h1).1,(gE.1 h2).1];obtain⟨d,rfl⟩:∃ e,d=e+1:=⟨d - 1,by simp only[af.jV]at au;omega⟩
  unfold bQ at h;simp only[ch,Bool.and_eq_true]at h;obtain⟨_,h⟩:=h;split at h
  ·rename_i hu;rw[run_equalIn_int w d id k _ x y hu];rfl
  grind
 | str=>
  intro d _ au;refine⟨λ{id v u x y} h h1 h2=>?_,λh=>by simp[ch]at h⟩;rw[(lX.1 h1).1,(lX.1 h2).1];obtain⟨d,rfl⟩:∃ e,d=e+1:=⟨d - 1,by simp only[af.jV]at au;omega⟩
  unfold bQ at h;simp only[ch,Bool.and_eq_true]at h;obtain⟨_,h⟩:=h;split at h
  ·rename_i hu;rw[run_equalIn_string w d id _ _ hu,ByteArray.toList_eq,ByteArray.toList_eq];simp only[gr];grind
  grind
 | cz=>intro d h;cases h
 | slice e _=>intro d h;cases h
 | array n e _=>intro d h;cases h
 | bq e _=>intro d h;cases h
 | map k v _ _=>intro d h;cases h
 | fn a b _ _=>intro d h;cases h
 | b8 a _=>intro d h;cases h
 | dT=>intro d h;cases h
 | aw a b fe ej=>
  intro d hc au;simp only[af.kA,Bool.and_eq_true]at hc;simp only[af.jV]at au;have ia:=fe d hc.1 (by omega);have oL:=ej d hc.2 (by omega);refine⟨λh=>by unfold bQ at h;simp[ch]at h,?_⟩;intro l off xs ys p c q p' c' q' x y h hx hp oS aM BO y2;simp only[bt]at oS y2;obtain⟨c1,c2,rfl,aO,aP⟩:=oS;obtain⟨d1,d2,rfl,m1,m2⟩:=y2;have eR:=hC a aO;have pI:=hC a m1;have step : ∀ (f : Field) (b5 : List Field), f.offset = off -> bQ P a f.type -> f.name ≠ "_" ->
    (Op.eqFields d xs ys (f::b5)).run P w=if gr a x.1 y.1=true then (Op.eqFields d xs ys b5).run P w else .ok false w:=by
   intro f b5 ag ar az;obtain⟨v,bR,cp⟩:=qF (cs:=xs) (p:=p) (c:=c1) (q:=c2++q) ar (by grind) aO;obtain⟨u,eg,ds⟩:=qF (cs:=ys) (p:=p') (c:=d1) (q:=d2++q') ar (by grind) m1;simp only[Op.eqFields,az,ne_eq,not_false_eq_true,if_true,Sem.run_bind];rw[ag,<-hp,bR,Result.andThen_ok,hp,<-BO,eg,Result.andThen_ok,ia.1 ar cp ds];cases gr a x.1 y.1<;>simp
  match l,h with
  | [],h=>simp only[ch,Bool.false_eq_true]at h
  | [f],h=>simp only[ch,Bool.false_eq_true]at h
  | [f,g],h=>
   simp only[ch,Bool.and_eq_true,beq_iff_eq,bne_iff_ne,ne_eq]at h;obtain⟨⟨⟨⟨h1,h2⟩,h3⟩,aR⟩,⟨⟨⟨bw,cZ⟩,fN⟩,iX⟩⟩:=h;rw[step f [g] h1 h2 aR];obtain⟨v,bR,cp⟩:=qF (cs:=xs) (p:=p++c1) (c:=c2) (q:=q) cZ (by grind) aP;obtain⟨u,eg,ds⟩:=qF (cs:=ys) (p:=p'++d1) (c:=d2) (q:=q') cZ (by grind) m2;have e1:(p++c1).length=g.offset:=by grind
   have e2:(p'++d1).length=g.offset:=by grind
   rw[e1]at bR;rw[e2]at eg;simp only[Op.eqFields,iX,ne_eq,not_false_eq_true,if_true,Sem.run_bind,bR,eg,Result.andThen_ok,oL.1 cZ cp ds,gr];cases gr a x.1 y.1<;>cases gr b x.2 y.2<;>simp
  | f::g::i::l,h=>
   simp only[ch,Bool.and_eq_true,beq_iff_eq,bne_iff_ne,ne_eq]at h;obtain⟨⟨⟨⟨h1,h2⟩,h3⟩,aR⟩,bw⟩:=h;rw[step f _ h1 h2 aR,oL.2 bw (p:=p++c1) (c:=c2) (q:=q) (p':=p'++d1) (c':=d2) (q':=q') (by grind) (by grind) aP (by grind) (by grind) m2];simp only[gr];cases gr a x.1 y.1<;>simp
 | st t aH=>
  intro d hc au;simp only[af.jV]at au;obtain⟨d,rfl⟩:∃ e,d=e+1:=⟨d - 1,by omega⟩
  refine⟨λ{id v u x y} h h1 h2=>?_,λh=>by simp[ch]at h⟩;have i:=aH d hc (by omega);obtain⟨e1,e2,e3,e4⟩:=h.BN;obtain⟨⟨xs,rfl,hG⟩,oS⟩:=h1;obtain⟨⟨ys,rfl,jX⟩,y2⟩:=h2;simp only[Value.cells,bt]at oS y2;rw[run_equalIn_struct w d id xs ys e4 e1];rcases e3 with e3 | ⟨f,e3,dC,kS,ti⟩ | ⟨rfl,e3⟩
  ·exact i.2 e3 (p:=[]) (c:=xs.toList) (q:=[]) (p':=[]) (c':=ys.toList) (q':=[]) (by simp) rfl oS (by simp) rfl y2
  ·rw[e3];obtain⟨v,bR,cp⟩:=qF (cs:=xs) (p:=[]) (c:=xs.toList) (q:=[]) kS (by simp) oS;obtain⟨u,eg,ds⟩:=qF (cs:=ys) (p:=[]) (c:=ys.toList) (q:=[]) kS (by simp) y2;simp only[List.length_nil]at bR eg;simp only[Op.eqFields,ti,ne_eq,not_false_eq_true,if_true,Sem.run_bind,dC,bR,eg,Result.andThen_ok,i.1 kS cp ds,gr];cases gr t x y<;>simp
  ·cases hc
theorem acD{k:IntKind}{a b:Int}(aV:fz k a):fz k (iZ k a b):=by
 unfold fz at *
 unfold iZ;have h1:k.min<=0/\0<=k.max:=by cases k<;>decide
 generalize min b.toNat k.bits=n;have hp:(0:Int)<2 ^ n:=Int.pow_pos (by decide);rw[Int.fdiv_eq_ediv_of_nonneg _ (Int.le_of_lt hp)];rcases Int.le_total 0 a with h | h
 ·have h2:=Int.ediv_nonneg h (Int.le_of_lt hp);have h3:=Int.ediv_le_self (2 ^ n) h;omega
 ·have h2:a / 2 ^ n<=0:=by
   have:=Int.ediv_le_ediv hp h;simp_all
  have h3:a<=a / 2 ^ n:=by
   rw[Int.le_ediv_iff_mul_le hp];have aR:(1:Int)<=2 ^ n:=by omega
   have:=Int.mul_le_mul_of_nonpos_left (a:=a) h aR;omega
  omega
theorem Rb{P:Program}{w:World}(op:BinOp)(t:TypeId)(x y:Operand)(k k':IntKind)(a b:Int):(eqGuard op t x y (.int k a) (.int k' b)).run P w=.ok () w:=by
 cases op<;>simp[eqGuard]
theorem acE{P:Program}{w:World}(op:BinOp)(t:TypeId)(x y:Operand)(a b:ByteArray):(eqGuard op t x y (.string a) (.string b)).run P w=.ok () w:=by
 cases op<;>simp[eqGuard]
theorem acF{P:Program}{w:World}(op:BinOp)(t:TypeId)(x y:Operand)(a b:Bool):(eqGuard op t x y (.bool a) (.bool b)).run P w=.ok () w:=by
 cases op<;>simp[eqGuard]
theorem acG{P:Program}{w:World}(op:BinOp)(t:TypeId)(x y:Operand)(a b:Option Addr):(eqGuard op t x y (.pointer a) (.pointer b)).run P w=.ok () w:=by
 cases op<;>simp[eqGuard]
section
variable {P:Program} {H:Nat->bu} {κ:Nat->bo} {F:Nat->Prop} {w:World}
theorem acH{op:BinOp}{k:IntKind}{a b:Int}{t:TypeId}{c:Prop}{v:aD}(h:yT op k a b=some (c,v))(hc:c)(aV:fz k a) :
  ∃ u,(binOp op t (.int k a) (.int k b)).run P w=.ok u w/\bl P H κ F w v u:=by
 cases op<;>simp only[yT,Option.some.injEq,Prod.mk.injEq,reduceCtorEq]at h<;>obtain⟨rfl,rfl⟩:=h<;>simp only[bl];case add=>exact⟨_,by simp[binOp,Op.intArith],gE.2 ⟨rfl,pP _ _⟩⟩
 case sub=>exact⟨_,by simp[binOp,Op.intArith],gE.2 ⟨rfl,pP _ _⟩⟩
 case mul=>exact⟨_,by simp[binOp,Op.intArith],gE.2 ⟨rfl,pP _ _⟩⟩
 case quo=>exact⟨_,by simp[binOp,Op.intDiv,hc],gE.2 ⟨rfl,pP _ _⟩⟩
 case rem=>exact⟨_,by simp[binOp,Op.intDiv,hc],gE.2 ⟨rfl,acC aV⟩⟩
 case and=>exact⟨.int k (lr k a b),by simp only[binOp,ne_eq,not_true_eq_false,if_false,Op.intBits];rfl,gE.2 ⟨rfl,pP _ _⟩⟩
 case or=>exact⟨.int k (QV k a b),by simp only[binOp,ne_eq,not_true_eq_false,if_false,Op.intBits];rfl,gE.2 ⟨rfl,pP _ _⟩⟩
 case xor=>exact⟨.int k (QW k a b),by simp only[binOp,ne_eq,not_true_eq_false,if_false,Op.intBits];rfl,gE.2 ⟨rfl,pP _ _⟩⟩
 case andNot=>exact⟨.int k (QX k a b),by simp only[binOp,ne_eq,not_true_eq_false,if_false,Op.intBits];rfl,gE.2 ⟨rfl,pP _ _⟩⟩
 case eql=>exact⟨.bool (a == b),by simp[binOp,Op.intCmp],eT.2 (congrArg Value.bool (by rfl))⟩
 case neq=>exact⟨.bool (a != b),by simp[binOp,Op.intCmp],eT.2 (congrArg Value.bool (by grind))⟩
 case lss=>exact⟨_,by simp[binOp,Op.intCmp],eT.2 rfl⟩
 case leq=>exact⟨_,by simp[binOp,Op.intCmp],eT.2 rfl⟩
 case gtr=>exact⟨_,by simp[binOp,Op.intCmp],eT.2 rfl⟩
 case geq=>exact⟨_,by simp[binOp,Op.intCmp],eT.2 rfl⟩
theorem Rc{op:BinOp}{k k':IntKind}{a b:Int}{t:TypeId}{c:Prop}{v:aD}(h:JH op k a b=some (c,v))(hc:c)(aV:fz k a) :
  ∃ u,(binOp op t (.int k a) (.int k' b)).run P w=.ok u w/\bl P H κ F w v u:=by
 cases op<;>simp only[JH,Option.some.injEq,Prod.mk.injEq,reduceCtorEq]at h<;>obtain⟨rfl,rfl⟩:=h<;>simp only[bl];case shl=>exact⟨_,by simp[binOp,Op.shift,show ¬b<0 by omega];rfl,gE.2 ⟨rfl,pP _ _⟩⟩
 case shr=>exact⟨_,by simp[binOp,Op.shift,show ¬b<0 by omega];rfl,gE.2 ⟨rfl,acD aV⟩⟩
theorem acI{op:BinOp}{a b:List UInt8}{t:TypeId}{c:Prop}{v:aD}(h:BE op a b=some (c,v))(hc:c) :
  ∃ u,(binOp op t (.string ⟨a.toArray⟩) (.string ⟨b.toArray⟩)).run P w=.ok u w/\bl P H κ F w v u:=by
 have e:∀ l:List UInt8,(⟨l.toArray⟩:ByteArray).toList=l:=λl=>by simp
 cases op<;>simp only[BE,Option.some.injEq,Prod.mk.injEq,reduceCtorEq]at h<;>obtain⟨rfl,rfl⟩:=h<;>simp only[bl];case add=>
  unfold bT at hc;have hs:((ByteArray.size ⟨a.toArray⟩+ByteArray.size ⟨b.toArray⟩:Nat):Int)=(a.length+b.length:Nat):=by rfl
  refine⟨.string ⟨(a++b).toArray⟩,?_,lX.2 ⟨rfl,by grind⟩⟩;simp only[binOp,Op.stringOp];rw[if_neg]
  ·rfl
  ·rw[hs];have:IntKind.i64.max=9223372036854775807:=by decide
   omega
 case eql=>exact⟨_,by rfl,eT.2 (by grind)⟩
 case neq=>exact⟨_,by rfl,eT.2 (by grind)⟩
 case lss=>exact⟨_,by simp only[binOp,Op.stringOp,e];rfl,eT.2 rfl⟩
 case geq=>exact⟨_,by simp only[binOp,Op.stringOp,e];rfl,eT.2 rfl⟩
end
end Go.Fer
namespace Go.Fer
open Go.RowKit
def dx(P:Program)(T:Nat->af):Prop:=∀ id,T id=.cz\/bQ P (T id) id
theorem dx.bO{P:Program}{T:Nat->af}(h:dx P T){id:Nat}{t:af}(e:T id=t)(aG:t≠.cz):bQ P t id:=by
 rcases h id with h | h
 ·exact absurd (e ▸ h) aG
 ·exact e ▸ h
theorem qG{d:Option Nat}{k:Nat->Nat->Option d'}{H:Nat->bu}{res:d'}(h:(hP d k).run H=some res) :
  ∃ b,d=some b/\k b ((H b).gen+1)=some res:=by
 unfold hP at h;cases d with
 | none=>cases h
 | some b=>
  simp_all
theorem bc.acJ{C:bS}{s:ay}{a:Act}{w:World}{κ:Nat->bo}{F:Nat->Prop}(h:bc C s a w κ F){b g:Nat}{e:af}(aA:(s.ad b).gen<g) :
  bc C (s.b' b ⟨g,.a8 e []⟩) a w (λi=>if i=b then ⟨0,0,0,true⟩ else κ i) F:=by
 have ai:e6 s.ad κ (λi=>if i=b then ⟨g,.a8 e []⟩ else s.ad i) (λi=>if i=b then ⟨0,0,0,true⟩ else κ i):=yO aA λaZ cS=>by grind
 refine h.move (H':=λi=>if i=b then ⟨g,.a8 e []⟩ else s.ad i) ai (λ_ G=>G) (λ_ G=>.inl G) (Nat.le_refl _) (λ_ _ _=>rfl) (cM.refl _) (λ_=>?_) ?_ ?_ h.cL (yP (.inr ⟨rfl,rfl⟩) λaZ cS=>by grind)
 ·intro i;by_cases E:i=b
  ·subst E;simp only[cg,if_true];exact⟨λ_=>rfl,λaz=>by cases az⟩
  ·exact cg.kT (h.bp i) ai (λ_ G=>G) (cG.refl _ _) (by grind) (by grind) λ_=>rfl
 ·intro i E;by_cases ek:i=b
  ·subst ek;simp[bB.bJ]at E
  ·simp only[if_neg ek]at E ⊢;exact⟨(h.own i E).1,(h.own i E).2.1,.inl ⟨i,E,rfl⟩⟩
 ·intro i j E aC aS;by_cases ek:i=b
  ·subst ek;simp[bB.bJ]at E
  ·by_cases lZ:j=b
   ·subst lZ;simp[bB.bJ]at aC
   ·simp only[if_neg ek,if_neg lZ]at E aC aS;exact h.inj i j E aC aS
section
variable {C:bS} {T:Nat->af} {a1:Nat->Option aJ} {o:Oper} {s:ay} {res:d'}
theorem acK{x:Operand}(a6:∀ i,o.dst=some i->i<C.nt)(ag:o.op=.move x)(h:(bh C.aK T a1 (aT C.aK s.ax) o).run s.ad=some res):cn C o s res:=by
 simp only[bh,ag,bz,aq.bx,Option.some.injEq]at h;subst h;exact cn.pure (by grind) a6 λa w κ F G _ _=>⟨_,by simp[execOp,ag],jW G x⟩
theorem acL{x:Operand}(a6:∀ i,o.dst=some i->i<C.nt)(ag:o.op=.assign x)(h:(bh C.aK T a1 (aT C.aK s.ax) o).run s.ad=some res):cn C o s res:=by
 simp only[bh,ag]at h;split at h
 ·rename_i e hx aG;obtain⟨b,au,ao⟩:=qG h;simp only[Option.some.injEq]at ao;subst ao;intro a w κ F Q G _ _;refine ha (w':=w) (v:=a.eval x) (by grind) (by simp[execOp,ag]) ?_;have h2:=G.acJ (b:=b) (e:=e) (Nat.lt_succ_self _);have hv:=jW G x;rw[hx]at hv;simp only[bl]at hv;refine⟨_,_,bc.set h2 a6 ⟨⟨?_,by rw[hv];rfl⟩,λ_ _=>?_⟩⟩
  ·simp[ay.b']
  ·simp[hv,bo.slice]
 ·simp only[bz,aq.bx,Option.some.injEq]at h;subst h;exact cn.pure (by grind) a6 λa w κ F G _ _=>⟨_,by simp[execOp,ag],jW G x⟩
theorem cv{a:Act}{w:World}{κ:Nat->bo}{F:Nat->Prop}(G:bc C s a w κ F)(x:Operand){p:Prop}{av:aD}(hu:use (aT C.aK s.ax x)=(p,av))(hp:p):bl C.P s.ad κ F w av (a.eval x):=by
 have:=oQ (jW G x) (by grind);grind
theorem acM{c x y:Operand}(a6:∀ i,o.dst=some i->i<C.nt)(ag:o.op=.pick c x y)(h:(bh C.aK T a1 (aT C.aK s.ax) o).run s.ad=some res):cn C o s res:=by
 simp only[bh,ag]at h;split at h
 ·rename_i oc iM hc;split at h
  ·split at h
   ·rename_i yY av aV;simp only[bz,aq.bx,Option.some.injEq]at h;subst h;refine cn.pure (by grind) a6 λa w κ F G aY _=>?_;have h1:=eT.1 (cv G c hc aY.1);cases iM with
    | false=>
     have e0:a.eval (.const (.bool false))=.bool false:=rfl;exact⟨.bool false,by simp[execOp,ag,h1,asBool,e0],eT.2 rfl⟩
    | true=>
     have h2:=eT.1 (cv G x aV (aY.2 rfl));exact⟨.bool av,by simp[execOp,ag,h1,asBool,h2],eT.2 rfl⟩
   ·cases h
  ·split at h
   ·rename_i bU bv ab;simp only[bz,aq.bx,Option.some.injEq]at h;subst h;refine cn.pure (by grind) a6 λa w κ F G aY _=>?_;have h1:=eT.1 (cv G c hc aY.1);cases iM with
    | true=>
     have e0:a.eval (.const (.bool true))=.bool true:=rfl;exact⟨.bool true,by simp[execOp,ag,h1,asBool,e0],eT.2 rfl⟩
    | false=>
     have h2:=eT.1 (cv G y ab (aY.2 rfl));exact⟨.bool bv,by simp[execOp,ag,h1,asBool,h2],eT.2 rfl⟩
   ·cases h
  ·cases h
 ·cases h
theorem acN{op:UnOp}{ty:TypeId}{x:Operand}(a6:∀ i,o.dst=some i->i<C.nt)(ag:o.op=.unOp op ty x)(h:(bh C.aK T a1 (aT C.aK s.ax) o).run s.ad=some res):cn C o s res:=by
 simp only[bh,ag]at h;split at h
 ·rename_i cf b hx;simp only[bz,aq.bx,Option.some.injEq]at h;subst h;refine cn.pure (by grind) a6 λa w κ F G aY _=>?_;have h1:=eT.1 (cv G x hx aY);exact⟨.bool (!b),by simp[execOp,ag,h1,Op.unary],eT.2 rfl⟩
 ·rename_i cf k n hx;simp only[bz,aq.bx,Option.some.injEq]at h;subst h;refine cn.pure (by grind) a6 λa w κ F G aY _=>?_;have h1:=gE.1 (cv G x hx aY);exact⟨.int k (k.wrap (0 - n)),by simp[execOp,ag,h1.1,Op.unary,Op.intArith],gE.2 ⟨rfl,pP _ _⟩⟩
 ·cases h
theorem acO{i:Nat}{x:Operand}(a6:∀ i,o.dst=some i->i<C.nt)(ag:o.op=.extract x i)(h:(bh C.aK T a1 (aT C.aK s.ax) o).run s.ad=some res):cn C o s res:=by
 simp only[bh,ag]at h;split at h
 ·rename_i cf n f hx;split at h
  ·rename_i E;simp only[bz,aq.bx,Option.some.injEq]at h;subst h;refine cn.pure (by grind) a6 λa w κ F G aY _=>?_;obtain⟨aB,h1,h2,h3⟩:=cv G x hx aY;have dp:i<aB.length:=by omega
   refine⟨aB[i],by simp[execOp,ag,h1,Instr.extract,dp],?_⟩;grind
  ·cases h
 ·cases h
theorem acP{x:Operand}(a6:∀ i,o.dst=some i->i<C.nt)(ag:o.op=.nilCheck x)(h:(bh C.aK T a1 (aT C.aK s.ax) o).run s.ad=some res):cn C o s res:=by
 simp only[bh,ag]at h;split at h
 ·rename_i cf b g i hx;simp only[aq.eI,aq.bx]at h;split at h
  ·rename_i bb;simp only[Bool.and_eq_true,decide_eq_true_eq]at bb;simp only[Option.some.injEq]at h;subst h;refine cn.pure (by grind) a6 λa w κ F G aY _=>?_;have h1:=cv G x hx aY;have h2:=h1.2 bb.1.symm bb.2;exact⟨_,by simp[execOp,ag,h2.2.2],⟨h1.1.1,rfl⟩,λ_ _=>⟨h2.1,h2.2.1,rfl⟩⟩
  grind
 ·rename_i cf t d hx;simp only[bz,aq.bx,Option.some.injEq]at h;subst h;refine cn.pure (by grind) a6 λa w κ F G aY _=>?_;obtain⟨p,a_,h1,h2⟩:=cv G x hx aY;exact⟨_,by simp[execOp,ag,h1],p,a_,rfl,h2⟩
 ·rename_i cf e p hx;simp only[bz,aq.bx,Option.some.injEq]at h;subst h;refine cn.pure (by grind) a6 λa w κ F G aY hc=>?_;have h1:=(dy rfl).1 (cv G x hx aY);obtain⟨_,h1⟩:=h1;simp only[bt]at h1;rcases h1 with⟨_,rfl⟩ | ⟨q,y,a_,bf,rfl,aO,aP⟩
  ·cases hc
  ·simp only[List.cons.injEq,and_true]at bf;exact⟨_,by simp[execOp,ag,bf],q,a_,rfl,aO,aP⟩
 ·rename_i cf b g off hx;simp only[aq.eI,aq.bx]at h;split at h
  ·rename_i bb;simp only[Bool.and_eq_true,decide_eq_true_eq]at bb;simp only[Option.some.injEq]at h;subst h;refine cn.pure (by grind) a6 λa w κ F G aY _=>?_;have h1:=cv G x hx aY;have h2:=h1.2 bb.1.symm bb.2;exact⟨_,by simp[execOp,ag,h2],⟨h1.1.1,rfl⟩,λ_ _=>rfl⟩
  grind
 ·cases h
theorem uV(b off n:Nat):(⟨b,off,none⟩:Addr).add n=⟨b,off+n,none⟩:=by
 unfold Addr.add;simp
theorem Fa{P:Program}{w:World}{t s:af}{id f wM b off:Nat}(h:bQ P (.st t) id)(ar:l0 t f=some (s,wM)) :
  (Instr.fieldAt id (.pointer (some ⟨b,off,none⟩)) f).run P w=.ok (.pointer (some ⟨b,off+wM,none⟩)) w:=by
 obtain⟨eA,nv,h1,h2,h3,aR,bw⟩:=h.field ar;simp only[Instr.fieldAt,Sem.run_bind,di h1,Result.andThen_ok,h2,Instr.sureAddr,Sem.run_pure,fieldPlace,aR.size,bw,if_false,h3,uV]
theorem acQ(hT:dx C.P T){ty f:Nat}{x:Operand}(a6:∀ i,o.dst=some i->i<C.nt)(ag:o.op=.fieldAddr ty x f)(h:(bh C.aK T a1 (aT C.aK s.ax) o).run s.ad=some res):cn C o s res:=by
 simp only[bh,ag]at h;split at h
 ·rename_i t aG;have cU:=hT.bO aG (by simp);split at h
  ·rename_i s' wM ar;split at h
   ·rename_i cf b g off hx;simp only[aq.eI,aq.bx]at h;split at h
    ·rename_i bb;simp only[Bool.and_eq_true,decide_eq_true_eq]at bb;simp only[Option.some.injEq]at h;subst h;refine cn.pure (by grind) a6 λa w κ F G aY _=>?_;have h1:=cv G x hx aY;have h2:=h1.2 bb.1.symm bb.2;exact⟨_,by simp[execOp,ag,h2,Fa cU ar],⟨h1.1.1,rfl⟩,λ_ _=>rfl⟩
    grind
   ·rename_i cf b g i off hx;simp only[aq.eI,aq.bx]at h;split at h
    ·rename_i bb;simp only[Bool.and_eq_true,decide_eq_true_eq]at bb;simp only[Option.some.injEq]at h;subst h;refine cn.pure (by grind) a6 λa w κ F G aY _=>?_;have h1:=cv G x hx aY;obtain⟨h2,h3,aR⟩:=h1.2 bb.1.symm bb.2;exact⟨_,by simp[execOp,ag,aR,Fa cU ar];rfl,⟨h1.1.1,rfl⟩,λ_ _=>⟨h2,h3,by grind⟩⟩
    grind
   ·rename_i cf b g i hx;simp only[aq.eI,aq.bx]at h;split at h
    ·rename_i bb;simp only[Bool.and_eq_true,decide_eq_true_eq,beq_iff_eq]at bb;simp only[Option.some.injEq]at h;subst h;refine cn.pure (by grind) a6 λa w κ F G aY _=>?_;have h1:=cv G x hx aY;obtain⟨h2,h3,aR⟩:=h1.2 bb.1.1.symm bb.1.2;exact⟨_,by simp[execOp,ag,aR,Fa cU ar];rfl,⟨h1.1.1,rfl⟩,λ_ _=>⟨h2,h3,by grind⟩⟩
    grind
   ·rename_i cf cD d hx;split at h
    ·rename_i y3;subst y3;split at h
     ·rename_i ds y aM;simp only[bz,aq.bx,Option.some.injEq]at h;subst h;refine cn.pure (by grind) a6 λa w κ F G aY _=>?_;obtain⟨p,a_,h1,h2,h3⟩:=cv G x hx aY;simp only[bt]at h3;obtain⟨c1,c2,c3,rfl,aO,aP⟩:=Q1 cD h3 aM;rw[ar]at aP;cases aP;have hp:p=⟨p.block,p.off,none⟩:=by have:=h2.2.1;cases p;simp_all
      rw[hp]at h1;refine⟨_,by simp[execOp,ag,h1,Fa cU ar],⟨p.block,p.off+c1.length,none⟩,c2,rfl,⟨h2.1,rfl,λj aC=>?_⟩,aO⟩;have:=h2.2.2 (c1.length+j) (by grind);grind
     ·cases h
    ·cases h
   ·cases h
  ·cases h
 ·cases h
theorem acR(hT:dx C.P T){ty f:Nat}{x:Operand}(a6:∀ i,o.dst=some i->i<C.nt)(ag:o.op=.field ty x f)(h:(bh C.aK T a1 (aT C.aK s.ax) o).run s.ad=some res):cn C o s res:=by
 simp only[bh,ag]at h;split at h
 ·rename_i t aG;have cU:=hT.bO aG (by simp);split at h
  ·rename_i cf cD d hx;split at h
   ·rename_i y3;subst y3;split at h
    ·rename_i ds y aM;simp only[bz,aq.bx,Option.some.injEq]at h;subst h;refine cn.pure (by grind) a6 λa w κ F G aY _=>?_;obtain⟨⟨cs,h1,h2⟩,h3⟩:=cv G x hx aY;rw[h1]at h3;simp only[bt,Value.cells]at h3;obtain⟨c1,c2,c3,e,aO,aP⟩:=Q1 cD h3 aM;obtain⟨eA,nv,f1,f2,f3,f4,f5⟩:=cU.field aP;obtain⟨v,bR,cp⟩:=qF (w:=w) f4 e aO;refine⟨v,?_,cp⟩;simp[execOp,ag,h1,Instr.field,di f1,f2,asAgg,f3,bR]
    ·cases h
   ·cases h
  ·cases h
 ·cases h
end
end Go.Fer
namespace Go.Fer
open Go.RowKit
theorem bQ.bq{P:Program}{e:af}{id:TypeId}(h:bQ P (.bq e) id):∃ i,P.underlying id=some (.pointer i)/\bQ P e i/\e.size≠0:=by
 unfold bQ at h;simp only[ch,Bool.and_eq_true]at h;obtain⟨_,h⟩:=h;split at h
 ·rename_i i E;simp only[Bool.and_eq_true,bne_iff_ne,ne_eq]at h;exact⟨i,E,h.1,h.2⟩
 grind
theorem Re{k:IntKind}{av:aD}{H:Nat->bu}{x:Int}{l:List Nat}(h:(dd (.int k) av).run H=some (x,l)):av.l2.isSome=true:=by
 cases av with
 | val cD y=>
  simp only[dd,aq.bx,Option.map_eq_some_iff,Prod.mk.injEq]at h;obtain⟨z,bb,_⟩:=h;obtain⟨rfl,_⟩:=ky bb;rfl
 | jn v=>simp[dd,kf,af.ee,dA,BB]at h
 | _=>simp[dd,kf,af.ee,dA,aq.none]at h
theorem Rf{av:aD}{H:Nat->bu}{x:List UInt8}{l:List Nat}(h:(dd .str av).run H=some (x,l)):av.tc.isSome=true:=by
 cases av with
 | val cD y=>
  simp only[dd,aq.bx,Option.map_eq_some_iff,Prod.mk.injEq]at h;obtain⟨z,bb,_⟩:=h;obtain⟨rfl,_⟩:=ky bb;rfl
 | jn v=>simp[dd,kf,af.ee,dA,BB]at h
 | _=>simp[dd,kf,af.ee,dA,aq.none]at h
theorem Fb{P:Program}{w:World}{ty i:TypeId}(E:P.underlying ty=some (.pointer i))(a:Option Addr)(d:Nat):(Op.equalIn (d+1) ty (.pointer a) (.pointer none)).run P w=.ok a.isNone w:=by
 cases a<;>simp[Op.equalIn,di E]
inductive BP:Value->Value->Prop where
 | bool (a b:Bool):BP (.bool a) (.bool b)
 | agg (a b:Array Value):BP (.agg a) (.agg b)
 | bq (a b:Option Addr):BP (.pointer a) (.pointer b)
theorem acS{P:Program}{w:World}{ty:TypeId}{x y:Operand}{u mu:Value}{e:Bool}(hp:BP u mu)(h:(Op.equalIn 10000 ty u mu).run P w=.ok e w)
  (aA:∀ a b,u=.agg a->mu=.agg b->P.eqGuardType P.depth ty=false) :
  (do eqGuard .eql ty x y u mu;binOp .eql ty u mu:Sem Value).run P w=.ok (.bool e) w/\(do eqGuard .neq ty x y u mu;binOp .neq ty u mu:Sem Value).run P w=.ok (.bool (!e)) w:=by
 cases hp with
 | bool a b=>constructor<;>simp[acF,binOp,Op.equal,Op.maxDepth,h]
 | agg a b=>constructor<;>simp[run_eqGuard_agg _ _ _ _ _ _ _ (aA a b rfl rfl),binOp,Op.equal,Op.maxDepth,h]
 | bq a b=>constructor<;>simp[acG,binOp,Op.equal,Op.maxDepth,h]
section
variable {C:bS} {T:Nat->af} {a1:Nat->Option aJ} {o:Oper} {s:ay} {res:d'}
theorem BQ{a:Act}{w:World}{κ:Nat->bo}{F:Nat->Prop}(G:bc C s a w κ F){t:af}{av:aD}{v:Value}{x:t.ah}{l:List Nat}(h:(dd t av).run s.ad=some (x,l))(hv:bl C.P s.ad κ F w av v) :
  dU C.P t (λ_=>True) w v x:=l1 G.bp (λ_ _=>trivial) h (λ_ _ _=>trivial) hv
theorem acT{op:BinOp}{ty:TypeId}{dD kj:aD}{x y:Operand}{c:Prop}{v:aD}{a:Act}{w:World}{κ:Nat->bo}{F:Nat->Prop}(hT:dx C.P T)(G:bc C s a w κ F)
  (h:(yU op (T ty) dD kj).run s.ad=some (c,v)) {u mu:Value} (hx:bl C.P s.ad κ F w dD u) (aM:bl C.P s.ad κ F w kj mu) (Rg:¬(dD.l2.isSome=true/\kj.l2.isSome=true)) (Rh:¬(dD.tc.isSome=true/\kj.tc.isSome=true)) :
  ∃ r,(do eqGuard op ty x y u mu;binOp op ty u mu:Sem Value).run C.P w=.ok r w/\bl C.P s.ad κ F w v r:=by
 unfold yU at h;rw[aq.eJ]at h;simp only[Option.bind_eq_some_iff]at h;obtain⟨e,he,hv⟩:=h;simp only[aq.bx]at hv;have key:BP u mu/\(Op.equalIn 10000 ty u mu).run C.P w=.ok e w/\(∀ a b,u=.agg a->mu=.agg b->C.P.eqGuardType C.P.depth ty=false):=by
  split at he
  ·rename_i aS p e2 aG;obtain⟨i,E,_⟩:=(hT.bO aG (by simp)).bq;simp only[bl]at aM;subst aM;simp only[aq.bx,Option.some.injEq]at he;subst he;obtain⟨_,nw⟩:=(dy rfl).1 hx;rcases nw with⟨nw,rfl⟩ | ⟨q,z,a_,nw,rfl,_⟩
   ·obtain rfl:=(List.cons.inj nw).1;exact⟨.bq _ _,Fb E none 9999,λ_ _ h=>by cases h⟩
   ·obtain rfl:=(List.cons.inj nw).1;exact⟨.bq _ _,Fb E (some q) 9999,λ_ _ h=>by cases h⟩
  ·rename_i aS t2 wO aG;obtain⟨i,E,_⟩:=(hT.bO aG (by simp)).bq;simp only[bl]at aM;subst aM;simp only[aq.bx,Option.some.injEq]at he;subst he;obtain⟨q,a_,rfl,_⟩:=hx;exact⟨.bq _ _,Fb E (some q) 9999,λ_ _ h=>by cases h⟩
  ·rename_i aS b g off aG;obtain⟨i,E,_⟩:=(hT.bO aG (by simp)).bq;simp only[bl]at aM;subst aM;simp only[aq.eI,aq.bx]at he;split at he
   ·rename_i bb;simp only[Bool.and_eq_true,decide_eq_true_eq]at bb;simp only[Option.some.injEq]at he;subst he;have:=hx.2 bb.1.symm bb.2;subst this;exact⟨.bq _ _,Fb E (some _) 9999,λ_ _ h=>by cases h⟩
   grind
  ·split at he
   ·rename_i iN;simp only[Bool.and_eq_true,decide_eq_true_eq]at iN;simp only[aq.eJ,Option.bind_eq_some_iff,aq.bx,Option.some.injEq]at he;obtain⟨⟨wP,eR⟩,h1,⟨JP,pI⟩,h2,rfl⟩:=he;have bR:=BQ G h1 hx;have cp:=BQ G h2 aM;generalize pQ:T ty=t at *
    cases t with
    | bool=>
     have cU:=hT.bO pQ (by simp);refine⟨?_,(JO .bool 10000 rfl (by decide)).1 cU bR cp,?_⟩
     ·rw[eT.1 bR,eT.1 cp];exact .bool _ _
     simp_all
    | int k=>exact (Rg ⟨Re h1,Re h2⟩).elim
    | str=>exact (Rh ⟨Rf h1,Rf h2⟩).elim
    | st t=>
     have cU:=hT.bO pQ (by simp);refine⟨?_,(JO (.st t) 10000 iN.1 (by omega)).1 cU bR cp,λ_ _ _ _=>cU.BN.2.1⟩;obtain⟨⟨_,rfl,_⟩,_⟩:=bR;obtain⟨⟨_,rfl,_⟩,_⟩:=cp;exact .agg _ _
    | aw t1 t2=>have:=hT.bO pQ (by simp);unfold bQ at this;simp only[ch,Bool.false_eq_true]at this
    | cz=>cases iN.1
    | slice _=>cases iN.1
    | array _ _=>cases iN.1
    | bq _=>cases iN.1
    | map _ _=>cases iN.1
    | fn _ _=>cases iN.1
    | b8 _=>cases iN.1
    | dT=>cases iN.1
   ·cases he
 obtain⟨aO,aP,bA⟩:=key;have:=acS (x:=x) (y:=y) aO aP bA;cases op<;>simp only[reduceCtorEq,Option.some.injEq,Prod.mk.injEq]at hv;case eql=>obtain⟨rfl,rfl⟩:=hv;exact⟨_,this.1,eT.2 rfl⟩
 case neq=>obtain⟨rfl,rfl⟩:=hv;exact⟨_,this.2,eT.2 rfl⟩
theorem acU(hT:dx C.P T){op:BinOp}{ty my:TypeId}{x y:Operand}(a6:∀ i,o.dst=some i->i<C.nt)(ag:o.op=.binOp op ty x y my)(h:(bh C.aK T a1 (aT C.aK s.ax) o).run s.ad=some res):cn C o s res:=by
 simp only[bh,ag]at h;have y4:∀ c,o.op≠.defer c:=by grind
 have mz:∀ (a:Act) (w:World) (r:Value),(do eqGuard op ty x y (a.eval x) (a.eval y);binOp op ty (a.eval x) (a.eval y):Sem Value).run C.P w=.ok r w->(execOp a.eval o).run C.P w=.ok (.value r) w:=by
  intro a w r G;simp only[execOp,ag,Sem.run_bind]at G ⊢;simp_all
 split at h
 ·rename_i k m k' n hx aM;have fin:∀ (c:Prop) (v:aD),(∀ (w:World) κ F,c->fz k m->∃ r,(binOp op ty (.int k m) (.int k' n)).run C.P w=.ok r w/\bl C.P s.ad κ F w v r)->
    res=⟨(use (aT C.aK s.ax x)).1/\(use (aT C.aK s.ax y)).1,c,v,[]⟩->cn C o s res:=by
   intro c v ao fU;subst fU;refine cn.pure y4 a6 λa w κ F G aY hc=>?_;have h1:=n5 (cv G x rfl aY.1) hx;have h2:=n5 (cv G y rfl aY.2) aM;obtain⟨r,bR,cp⟩:=ao w κ F hc h1.2;exact⟨r,mz a w r (by simp[h1.1,h2.1,Rb,bR]),cp⟩
  split at h
  ·split at h
   ·rename_i c v hs;simp only[bz,aq.bx,Option.some.injEq]at h;exact fin c v (λw κ F hc aV=>Rc hs hc aV) h.symm
   ·cases h
  ·split at h
   ·rename_i c v hs;simp only[bz,aq.bx,Option.some.injEq]at h;exact fin c v (λw κ F hc aV=>Rc hs hc aV) h.symm
   ·cases h
  ·split at h
   ·rename_i uW;subst uW;split at h
    ·rename_i c v hs;simp only[bz,aq.bx,Option.some.injEq]at h;exact fin c v (λw κ F hc aV=>acH hs hc aV) h.symm
    ·cases h
   ·cases h
 ·rename_i Rg;split at h
  ·rename_i m n hx aM;split at h
   ·rename_i c v hs;simp only[bz,aq.bx,Option.some.injEq]at h;subst h;refine cn.pure y4 a6 λa w κ F G aY hc=>?_;have h1:=JN (cv G x rfl aY.1) hx;have h2:=JN (cv G y rfl aY.2) aM;obtain⟨r,bR,cp⟩:=acI (P:=C.P) (H:=s.ad) (κ:=κ) (F:=F) (w:=w) (t:=ty) hs hc;exact⟨r,mz a w r (by simp[h1.1,h2.1,acE,bR]),cp⟩
   ·cases h
  ·rename_i Rh;simp only[bz,aq.eJ,Option.bind_eq_some_iff,aq.bx,Option.some.injEq]at h;obtain⟨⟨c,v⟩,hs,rfl⟩:=h;refine cn.pure y4 a6 λa w κ F G aY hc=>?_;obtain⟨r,bR,cp⟩:=acT (x:=x) (y:=y) hT G hs (cv G x rfl aY.1) (cv G y rfl aY.2)
    (λ⟨e1,e2⟩=>by
     obtain⟨⟨k,m⟩,e1⟩:=Option.isSome_iff_exists.1 e1;obtain⟨⟨k',da⟩,e2⟩:=Option.isSome_iff_exists.1 e2;grind)
    (λ⟨e1,e2⟩=>by
     obtain⟨m,e1⟩:=Option.isSome_iff_exists.1 e1;obtain⟨da,e2⟩:=Option.isSome_iff_exists.1 e2;grind)
   grind
theorem uX{w:World}{b:Nat}{cs:Array Value}{T:TypeId}{eW:Nat×Nat}(h:w.heap[b]?=some (.cells cs T eW))(off:Nat):w.cell? ⟨b,off,none⟩=cs[off]?:=by
 simp[World.cell?,h]
theorem Ri{P:Program}{w:World}{t:af}{id:TypeId}(h:bQ P t id)(ai:t.isAgg=false){p:Addr}{v:Value}(hv:w.cell? p=some v):(loadVar id p).run P w=.ok v w:=by
 simp[loadVar,y0 h,ai,hv]
theorem Rj(hT:dx C.P T){ty:TypeId}{dD v:aD}{u:Value}{a:Act}{w:World}{κ:Nat->bo}{F:Nat->Prop}(G:bc C s a w κ F)(h:(yV (T ty) dD).run s.ad=some v)(hx:bl C.P s.ad κ F w dD u) :
  ∃ r,(Instr.loadAt ty u).run C.P w=.ok r w/\bl C.P s.ad κ F w v r:=by
 generalize pQ:T ty=t at *
 cases dD with
 | dz cD d=>
  simp only[yV,aq.bx]at h;split at h
  ·rename_i hc;obtain⟨rfl,hc⟩:=hc;simp only[Option.some.injEq]at h;subst h;obtain⟨p,a_,rfl,h2,h3⟩:=hx;have cU:=hT.bO pQ (by intro e;subst e;cases hc);obtain⟨r,bR,cp⟩:=JM cU h2.JL h3;exact⟨r,by simp[Instr.loadAt,Instr.sureAddr,bR],cp⟩
  grind
 | loc b g off=>
  simp only[yV,aq.eI,aq.bx]at h;split at h
  ·rename_i aA;split at h
   ·rename_i t0 f bD;have hv:=hx.2 aA.symm (by rw[bD];rfl);subst hv;have aN:=G.bp b;unfold cg at aN;rw[bD]at aN;obtain⟨cs,hH,c1,c2,c3⟩:=aN;split at h
    ·rename_i ai;split at h
     ·rename_i Fc;simp only[Option.some.injEq]at h;subst h;have cU:=hT.bO pQ (by intro e;subst e;cases ai);have JQ:t.isAgg=false:=by cases t<;>simp_all[af.ee,af.isAgg]
      refine⟨cs.getD off Go.undef,?_,(c3 off Fc).1⟩;simp only[Instr.loadAt,Instr.sureAddr,Sem.run_bind,Sem.run_pure,Result.andThen_ok];refine Ri cU JQ ?_;rw[uX c1];simp_all
     grind
    ·split at h
     ·rename_i Rk;split at h
      ·rename_i Fc;simp only[Option.some.injEq]at h;subst h;have cU:=hT.bO pQ (by intro e;subst e;cases Rk);let aB:=(List.range t.size).map λj=>cs.getD (off+j) Go.undef;refine⟨.agg aB.toArray,?_,aB,rfl,by grind,λi E=>?_⟩
       ·simp only[Instr.loadAt,Instr.sureAddr,Sem.run_bind,Sem.run_pure,Result.andThen_ok,loadVar,y0 cU,Rk,if_true,cU.size];rw[run_loadCells w ⟨(κ b).ad,off,none⟩ t.size (λj=>cs.getD (off+j) Go.undef)]
        ·rfl
        ·intro j aC;rw[uV,uX c1];simp[Array.getD_eq_getD_getElem?,c2,show off+j<t0.size by omega]
       grind
      grind
     grind
   ·rename_i t0 y bD;have hv:=hx.2 aA.symm (by rw[bD];rfl);subst hv;have aN:=G.bp b;unfold cg at aN;rw[bD]at aN;obtain⟨a_,d1,d2⟩:=aN;split at h
    ·rename_i hc;simp only[Option.map_eq_some_iff]at h;obtain⟨z,bb,rfl⟩:=h;obtain⟨c1,c2,c3,rfl,c7,q2⟩:=Q2 t0 d2 bb;have cU:=hT.bO pQ (by intro e;subst e;cases hc);have cA:kk w ⟨(κ b).ad,off,none⟩ c2:=by
      refine⟨λ_=>rfl,λj aC=>?_⟩;have:=d1.2.2 (c1.length+j) (by grind);simp_all
     obtain⟨r,bR,cp⟩:=JM cU cA q2;exact⟨r,by simp[Instr.loadAt,Instr.sureAddr,bR],cp⟩
    grind
   grind
  grind
 | n0 b g i off=>
  simp only[yV,aq.eI,aq.bx]at h;split at h
  ·rename_i aA;have fin:∀ (e:af) (xs:List e.ah),(s.ad b).body.eU=true->(s.ad b).body.len=xs.length->(s.ad b).body.eH=e.size->
     (∀ (E:i<xs.length),(κ b).eL=false->∃ a_,kk w ⟨(κ b).ad,(κ b).off+i*e.size,none⟩ a_/\bt C.P e F w a_ xs[i])->
     (if t.ee||t.isAgg then (rK e (xs.getD i e.cO) off t).map (.val t) else none)=some v->∃ r,(Instr.loadAt ty u).run C.P w=.ok r w/\bl C.P s.ad κ F w v r:=by
    intro e xs aV hlen BR i' hv;split at hv
    ·rename_i hc;simp only[Option.map_eq_some_iff]at hv;obtain⟨z,bb,rfl⟩:=hv;obtain⟨aO,aP,bA⟩:=hx.2 aA.symm aV;subst bA;rw[hlen]at aO;obtain⟨a_,d1,d2⟩:=i' aO aP;have JR:xs.getD i e.cO=xs[i]:=by grind
     rw[JR]at bb;obtain⟨c1,c2,c3,rfl,c7,q2⟩:=Q2 e d2 bb;have cU:=hT.bO pQ (by intro e;subst e;cases hc);have cA:kk w ⟨(κ b).ad,(κ b).off+i*(s.ad b).body.eH+off,none⟩ c2:=by
      refine⟨λ_=>rfl,λj aC=>?_⟩;have:=d1.2 (c1.length+j) (by grind);grind
     obtain⟨r,bR,cp⟩:=JM cU cA q2;exact⟨r,by simp[Instr.loadAt,Instr.sureAddr,bR],cp⟩
    grind
   have aN:=G.bp b;unfold cg at aN;split at h
   ·rename_i e xs bD;rw[bD]at aN;refine fin e xs (by rw[bD];rfl) (by rw[bD];rfl) (by rw[bD];rfl) (λE az=>?_) h;obtain⟨cs,hH,c1,c2,c3,c4,c5⟩:=aN.2 az;obtain⟨a_,d1,d2⟩:=c5 i E;exact⟨a_,⟨λ_=>rfl,λj aC=>by rw[uX c1];grind⟩,d2⟩
   ·rename_i e xs bD;rw[bD]at aN;refine fin e xs (by rw[bD];rfl) (by rw[bD];rfl) (by rw[bD];rfl) (λE az=>?_) h;simp only[jo,bt,bo.slice,az,Bool.false_eq_true,if_false]at aN;obtain⟨a',cap,e1,m1,m2,m3,m4⟩:=aN;simp only[List.cons.injEq,Value.slice.injEq,and_true]at e1;obtain⟨rfl,_,rfl⟩:=e1;obtain⟨dH,dM,jv⟩:=m4 _ rfl (by omega);obtain⟨a_,d1,d2⟩:=jv i E;exact⟨a_,d1.JL,d2⟩
   grind
  grind
 | _=>cases h
end
end Go.Fer
namespace Go.Fer
open Go.RowKit
section
variable {C:bS} {T:Nat->af} {a1:Nat->Option aJ} {o:Oper} {s:ay} {res:d'}
theorem acV(hT:dx C.P T){ty:TypeId}{x:Operand}(a6:∀ i,o.dst=some i->i<C.nt)(ag:o.op=.load ty x)(h:(bh C.aK T a1 (aT C.aK s.ax) o).run s.ad=some res):cn C o s res:=by
 simp only[bh,ag]at h;split at h
 ·rename_i cf b g i hx;simp only[Q_,aq.eI,aq.bx]at h;split at h
  ·rename_i e xs kV v bD;split at h
   ·rename_i hc;obtain⟨aA,ai⟩:=hc;simp only[Option.some.injEq]at h;subst h;refine cn.pure (by grind) a6 λa w κ F G aY E=>?_;have E:i=kV:=E;subst E;have h1:=(cv G x hx aY).2 aA.symm (by rw[bD];rfl);have aN:=G.bp b;unfold cg at aN;rw[bD]at aN h1;obtain⟨_,cs,hH,c1,c2,c3,c4,c5,lu,n6,wQ⟩:=aN;have cU:=hT.bO (t:=T ty) rfl (by intro e;rw[e]at ai;cases ai);have JQ:(T ty).isAgg=false:=by cases aG:T ty<;>simp_all[af.ee,af.isAgg]
    refine⟨_,?_,n6⟩;have tj:w.cell? ⟨(κ b).ad,(κ b).off+i,none⟩=some (cs.getD ((κ b).off+i) Go.undef):=by
     rw[uX c1];have:(κ b).off+i<cs.size:=by
      have:i<(κ b).cap:=by omega
      rw[c5.1]at c2;omega
     simp[this]
    have hp:a.eval x=.pointer (some ⟨(κ b).ad,(κ b).off+i,none⟩):=by rw[h1.2.2];simp[bB.eH,c5.1]
    simp[execOp,ag,hp,Instr.loadAt,Instr.sureAddr,Ri cU JQ tj]
   ·cases h
  ·cases h
 ·rename_i cf dD _ hx;simp only[bz,aq.eJ,Option.bind_eq_some_iff,aq.bx,Option.some.injEq]at h;obtain⟨v,hv,rfl⟩:=h;refine cn.pure (by grind) a6 λa w κ F G aY _=>?_;obtain⟨r,bR,cp⟩:=Rj hT G hv (cv G x hx aY);exact⟨r,by simp[execOp,ag,bR],cp⟩
theorem bQ.str{P:Program}{id:TypeId}(h:bQ P .str id):P.underlying id=some .string:=by
 unfold bQ at h;simp only[ch,Bool.and_eq_true]at h;grind
theorem bQ.int{P:Program}{k:IntKind}{id:TypeId}(h:bQ P (.int k) id):P.underlying id=some (.int k):=by
 unfold bQ at h;simp only[ch,Bool.and_eq_true]at h;grind
theorem bQ.a8{P:Program}{n:Nat}{e:af}{id:TypeId}(h:bQ P (.array n e) id):∃ i,P.underlying id=some (.array n i)/\bQ P e i/\e.size≠0:=by
 unfold bQ at h;simp only[ch,Bool.and_eq_true]at h;obtain⟨_,h⟩:=h;split at h
 ·rename_i m i hu;simp only[Bool.and_eq_true,decide_eq_true_eq,bne_iff_ne,ne_eq]at h;obtain⟨⟨rfl,h2⟩,h3⟩:=h;exact⟨i,hu,h2,h3⟩
 grind
theorem acW{eZ:List (List Value)}{m:Nat}(h:∀ c∈eZ,c.length=m){i:Nat}(E:i<eZ.length):∃ p q,eZ.flatten=p++(eZ[i]++q)/\p.length=i*m:=by
 refine⟨(eZ.take i).flatten,(eZ.drop (i+1)).flatten,?_,?_⟩
 ·rw[<-List.flatten_cons,<-List.drop_eq_getElem_cons E,<-List.flatten_append,List.take_append_drop]
 ·have aR:(eZ.take i).map List.length=List.replicate i m:=List.eq_replicate_iff.2 ⟨by grind,λx hx=>by
   grind⟩
  simp_all
theorem JS{P:Program}{n:Nat}{e:af}{F:Nat->Prop}{w:World}{cs:List Value}{xs:List e.ah}(h:bt P (.array n e) F w cs xs){i:Nat}(E:i<n):∃ p c q,cs=p++(c++q)/\p.length=i*e.size/\bt P e F w c (xs.getD i e.cO):=by
 simp only[bt]at h;obtain⟨eZ,rfl,h1,h2,h3⟩:=h;obtain⟨p,q,aO,aP⟩:=acW (m:=e.size) (λc hc=>by
  obtain⟨j,aC,rfl⟩:=List.mem_iff_getElem.1 hc;exact hC e (h3 j (by omega) aC)) (show i<eZ.length by omega)
 grind
theorem acX(hT:dx C.P T){ty:TypeId}{x i:Operand}(a6:∀ i,o.dst=some i->i<C.nt)(ag:o.op=.index ty x i)(h:(bh C.aK T a1 (aT C.aK s.ax) o).run s.ad=some res):cn C o s res:=by
 simp only[bh,ag]at h;split at h
 ·rename_i l k n aG hx E;simp only[bz,aq.bx,Option.some.injEq]at h;subst h;refine cn.pure (by grind) a6 λa w κ F G aY hc=>?_;have h1:=JN (cv G x rfl aY.1) hx;have h2:=n5 (cv G i rfl aY.2) E;have cU:=(hT.bO aG (by simp)).str;have b4:n.toNat<l.length:=by omega
  refine⟨.int .u8 ((l.getD n.toNat 0).toNat:Int),?_,gE.2 ⟨rfl,?_⟩⟩
  ·have e:(⟨l.toArray⟩:ByteArray)[n.toNat]?=some (l.getD n.toNat 0):=by
    have hs:n.toNat<(⟨l.toArray⟩:ByteArray).size:=by simpa [ByteArray.size]using b4
    rw[getElem?_pos (⟨l.toArray⟩:ByteArray) n.toNat hs];simp only[Option.some.injEq];show (⟨l.toArray⟩:ByteArray).data[n.toNat]=_;grind
   simp[execOp,ag,Instr.index,h1.1,h2.1,asIntOf,di cU,hc.1,e]
  ·have:=(l.getD n.toNat 0).toNat_lt;constructor
   ·have:IntKind.u8.min=0:=by decide
    omega
   ·have:IntKind.u8.max=255:=by decide
    omega
 ·rename_i m e k n aG E;split at h
  ·rename_i da aS xs hx;split at h
   ·rename_i he;obtain⟨rfl,rfl⟩:=he;simp only[bz,aq.bx,Option.some.injEq]at h;subst h;refine cn.pure (by grind) a6 λa w κ F G aY hc=>?_;have h1:bl C.P s.ad κ F w (use (aT C.aK s.ax x)).2 (a.eval x):=cv G x rfl aY.1;rw[hx]at h1;have h2:=n5 (cv G i rfl aY.2) E;obtain⟨j,aC,qH,_⟩:=(hT.bO aG (by simp)).a8;obtain⟨⟨cs,hv,oR⟩,nx⟩:=h1;rw[hv]at nx;obtain⟨p,c,q,e1,e2,e3⟩:=JS nx (i:=n.toNat) (by omega);obtain⟨v,g1,dW⟩:=qF qH (cs:=cs) e1 e3;refine⟨v,?_,dW⟩;rw[e2]at g1;simp[execOp,ag,Instr.index,hv,h2.1,asIntOf,di aC,hc.1,hc.2,qH.size,g1]
   ·cases h
  ·rename_i k' f hx;split at h
   ·rename_i ao;simp only[bz,aq.bx,Option.some.injEq]at h;subst h;refine cn.pure (by grind) a6 λa w κ F G aY hc=>?_;have h1:bl C.P s.ad κ F w (use (aT C.aK s.ax x)).2 (a.eval x):=cv G x rfl aY.1;rw[hx]at h1;have h2:=n5 (cv G i rfl aY.2) E;obtain⟨j,aC,qH,bW⟩:=(hT.bO aG (by simp)).a8;obtain⟨aB,hv,ai,fo⟩:=h1;have b4:n.toNat*e.size+e.size<=aB.length:=by
     rw[ai,ao];have:(n.toNat+1)*e.size<=m*e.size:=Nat.mul_le_mul_right _ (by omega);grind
    by_cases aV:e.isAgg=true
    ·simp only[if_pos aV];refine⟨_,by simp[execOp,ag,Instr.index,hv,h2.1,asIntOf,di aC,hc.1,hc.2,qH.size,Ra qH aV];rfl,(aB.toArray.extract (n.toNat*e.size) (n.toNat*e.size+e.size)).toList,by simp,?_,λq bf=>?_⟩
     ·simp;omega
     ·have acY:(aB.toArray.extract (n.toNat*e.size) (n.toNat*e.size+e.size)).toList.getD q Go.undef=aB.getD (n.toNat*e.size+q) Go.undef:=by
       simp[List.getD_eq_getElem?_getD,bf]
      rw[acY];exact fo _ (by omega)
    ·simp only[if_neg aV];have aR:=fo (n.toNat*e.size) (by omega);refine⟨aB.getD (n.toNat*e.size) Go.undef,?_,aR.1⟩;have aA:aB.toArray[n.toNat*e.size]?=some (aB.getD (n.toNat*e.size) Go.undef):=by
      grind
     simp[execOp,ag,Instr.index,hv,h2.1,asIntOf,di aC,hc.1,hc.2,qH.size,Q' qH (by grind) aA]
   ·cases h
  ·cases h
 ·cases h
theorem rO:∀ {l:List aD},ju l->∀ i,i<l.length->(use (l.getD i .undef)).1
 | [],_,i,E=>by grind
 | a::l,h,0,_=>by
  cases a<;>first | trivial | exact h.1
 | a::l,h,i+1,E=>by
  have c6:ju l:=by cases a<;>first | exact h | exact h.2
  have:=rO c6 i (by grind);grind
theorem acZ{k:bo}{n:Nat}(h:k.eL=true->n=0):∃ a cap,k.slice n=.slice a n cap:=by
 unfold bo.slice;split
 ·rename_i az;rw[h az];exact⟨none,0,rfl⟩
 ·exact⟨_,_,rfl⟩
theorem y5{a:Act}{w:World}{κ:Nat->bo}{F:Nat->Prop}(G:bc C s a w κ F){b:Nat}(aV:(s.ad b).body.eU=true):((κ b).eL=true->(s.ad b).body.len=0)/\(s.ad b).body.len<2 ^ 63:=by
 have aN:=G.bp b;unfold cg at aN;cases bD:(s.ad b).body with
 | a8 e xs=>
  rw[bD]at aN;refine⟨λaz=>by rw[aN.1 az];rfl,?_⟩;simp only[bB.len];cases az:(κ b).eL with
  | true=>rw[aN.1 az];simp
  | false=>obtain⟨cs,hH,c1,c2,c3,c4,c5⟩:=aN.2 az;omega
 | hj e xs=>
  rw[bD]at aN;simp only[jo,bt,bo.slice]at aN;obtain⟨a',cap,e1,m1,m2,m3,m4⟩:=aN;simp only[bB.len];grind
 | fQ e xs i v=>
  rw[bD]at aN;obtain⟨h0,cs,hH,c1,c2,c3,c4,_⟩:=aN;exact⟨λaz=>(by rw[h0]at az;cases az),(by simp only[bB.len];omega)⟩
 | _=>rw[bD]at aV;cases aV
theorem JT{a:Act}{w:World}{κ:Nat->bo}{F:Nat->Prop}(G:bc C s a w κ F){b:Nat}(aV:(s.ad b).body.eU=true)(az:(κ b).eL=false):(s.ad b).body.len<=(κ b).cap:=by
 have aN:=G.bp b;unfold cg at aN;cases bD:(s.ad b).body with
 | a8 e xs=>
  rw[bD]at aN;obtain⟨cs,hH,c1,c2,c3,c4,c5⟩:=aN.2 az;exact c3
 | hj e xs=>
  rw[bD]at aN;simp only[jo,bt,bo.slice,az,Bool.false_eq_true,if_false]at aN;obtain⟨a',cap,e1,m1,m2,m3,m4⟩:=aN;simp only[List.cons.injEq,Value.slice.injEq,and_true]at e1;simp only[bB.len];omega
 | fQ e xs i v=>
  rw[bD]at aN;obtain⟨h0,cs,hH,c1,c2,c3,c4,_⟩:=aN;exact c3
 | _=>rw[bD]at aV;cases aV
theorem ac0{a:Act}{w:World}{κ:Nat->bo}{F:Nat->Prop}(G:bc C s a w κ F){b lo E:Nat}(aV:(s.ad b).body.eU=true){v:Value}(h1:lo<=E)(h2:E<=(s.ad b).body.len)(hs:EY (κ b) (s.ad b).body.eH lo E v) :
  ∃ a cap,v=.slice a (E - lo) cap/\E - lo<2 ^ 63:=by
 have az:=y5 G aV;rcases hs with⟨aO,rfl⟩ | ⟨aO,o,rfl,_⟩
 ·simp_all
 grind
theorem BS{n:Nat}(h:n<2 ^ 63):fz .i64 (n:Int):=by
 unfold fz;have h1:IntKind.i64.min=-9223372036854775808:=by decide
 have h2:IntKind.i64.max=9223372036854775807:=by decide
 omega
theorem bQ.mp{P:Program}{k v:af}{id:TypeId}(h:bQ P (.map k v) id):∃ i j,P.underlying id=some (.map i j)/\bQ P k i/\bQ P v j:=by
 unfold bQ at h;simp only[ch,Bool.and_eq_true]at h;obtain⟨_,h⟩:=h;split at h
 ·rename_i i j E;simp only[Bool.and_eq_true]at h;exact⟨i,j,E,h.1,h.2⟩
 grind
theorem ac1(hT:dx C.P T){t:TypeId}{dD:aD}{c:Prop}{n:Int}{u:Value}{a:Act}{w:World}{κ:Nat->bo}{F:Nat->Prop}(G:bc C s a w κ F)(h:(E1 (T t) dD).run s.ad=some (c,n))(hc:c)(hx:bl C.P s.ad κ F w dD u)(ty:TypeId) :
  (Builtin.len_ #[t] ty #[u]).run C.P w=.ok (.int .i64 n) w/\fz .i64 n:=by
 have aw5:∀ e a' m cap,T t=.slice e->u=.slice a' m cap->(m:Int)=n->m<2 ^ 63->(Builtin.len_ #[t] ty #[u]).run C.P w=.ok (.int .i64 n) w/\fz .i64 n:=by
  intro e a' m cap aG hu an b4;obtain⟨i,E,_⟩:=(hT.bO aG (by simp)).sl;subst hu;rw[<-an];exact⟨by simp[Builtin.len_,di E,goInt],BS b4⟩
 have Rl:∀ k v r es clk m,T t=.map k v->u=.map (some r)->w.heap[r]?=some (.map es clk)->es.size=m->(m:Int)=n->bT m->(Builtin.len_ #[t] ty #[u]).run C.P w=.ok (.int .i64 n) w/\fz .i64 n:=by
  intro k v r es clk m aG hu hw oT an b4;obtain⟨i,j,E,_⟩:=(hT.bO aG (by simp)).mp;subst hu;rw[<-an,<-oT];unfold bT at b4;refine⟨?_,BS (by omega)⟩;simp[Builtin.len_,di E,goInt,getObj,Sem.run,hw]
 unfold E1 at h;split at h
 ·rename_i e aG;split at h
  ·rename_i aS xs;simp only[aq.bx,Option.some.injEq,Prod.mk.injEq]at h;obtain⟨_,hx⟩:=(dy rfl).1 hx;obtain⟨a',cap,e1,m1,m2,m3,m4⟩:=hx;grind
  ·simp only[aq.bx,Option.some.injEq,Prod.mk.injEq]at h;simp only[bl]at hx;grind
  ·rename_i b g;simp only[aq.eI,aq.bx]at h;split at h
   ·rename_i bb;simp only[Bool.and_eq_true,decide_eq_true_eq]at bb;simp only[Option.some.injEq,Prod.mk.injEq]at h;have hv:=hx.2 bb.1.symm bb.2;have az:=y5 G bb.2;obtain⟨a',cap,he⟩:=acZ (k:=κ b) az.1;grind
   grind
  ·rename_i b g lo E;simp only[aq.eI,aq.bx]at h;split at h
   ·rename_i bb;simp only[Bool.and_eq_true,decide_eq_true_eq]at bb;simp only[Option.some.injEq,Prod.mk.injEq]at h;obtain⟨⟨aO,aP⟩,bA⟩:=hx.2 bb.1.symm bb.2;obtain⟨a',cap,he,b4⟩:=ac0 G bb.2 aO aP bA;grind
   grind
  ·cases h
 ·rename_i aG;split at h
  ·rename_i xs;simp only[aq.bx,Option.some.injEq,Prod.mk.injEq]at h;obtain⟨rfl,b4⟩:=lX.1 hx;have cU:=(hT.bO aG (by simp)).str;rw[<-h.2];have hs:ByteArray.size ⟨xs.toArray⟩=xs.length:=by rfl
   exact⟨by simp[Builtin.len_,di cU,goInt,hs],BS (by omega)⟩
  ·cases h
 ·rename_i k v aG;split at h
  ·rename_i k' hO xs;simp only[aq.bx,Option.some.injEq,Prod.mk.injEq]at h;obtain⟨rfl,h⟩:=h;obtain⟨_,hx⟩:=(dy rfl).1 hx;rcases hx with⟨e1,rfl⟩ | ⟨r,es,clk,e1,m1,m2,m3,_⟩
   ·obtain rfl:=(List.cons.inj e1).1;obtain⟨i,j,E,_⟩:=(hT.bO aG (by simp)).mp;rw[<-h];exact⟨by simp[Builtin.len_,di E,goInt],BS (by simp)⟩
   grind
  ·rename_i b g;simp only[aq.eI,aq.bx]at h;split at h
   ·rename_i aA;split at h
    ·rename_i k' hO es bD;simp only[Option.some.injEq,Prod.mk.injEq]at h;obtain⟨rfl,h⟩:=h;have aN:=G.bp b;unfold cg at aN;rw[bD]at aN;obtain⟨ms,clk,c7,q2⟩:=aN;exact Rl k v _ ms clk es.length aG (hx.2 aA.symm (by rw[bD];rfl)) c7 q2.1 h hc
    ·rename_i k' hO es bD;simp only[Option.some.injEq,Prod.mk.injEq]at h;obtain⟨rfl,h⟩:=h;have aN:=G.bp b;unfold cg at aN;rw[bD]at aN;rcases aN with⟨e1,_⟩ | ⟨r,ms,clk,e1,BT,c7,q2,_⟩
     ·cases e1
     ·simp only[List.cons.injEq,Value.map.injEq,Option.some.injEq,and_true]at e1;subst e1;exact Rl k v _ ms clk es.length aG (hx.2 aA.symm (by rw[bD];rfl)) c7 q2 h hc
    grind
   grind
  ·cases h
 ·cases h
theorem wR{b:Builtin}{args:Array Operand}{cT:Array TypeId}{a:Act}{w w':World}{v:Value}(ag:o.op=.call { callee:=.builtin b,args:=args,argTypes:=cT })
  (h:(builtin b cT o.type (args.map fun | .const _=>true | _=>false) (args.map a.eval)).run C.P w=.ok (.value v) w'):(execOp a.eval o).run C.P w=.ok (.value v) w':=by
 simp only[execOp,ag,Sem.run_bind,resolve,Sem.run_pure,Result.andThen_ok,invoke];exact h
theorem ac2(hT:dx C.P T){args:Array Operand}{cT:Array TypeId}(a6:∀ i,o.dst=some i->i<C.nt)(ag:o.op=.call { callee:=.builtin .len,args:=args,argTypes:=cT })(h:(bh C.aK T a1 (aT C.aK s.ax) o).run s.ad=some res):cn C o s res:=by
 obtain⟨args⟩:=args;obtain⟨cT⟩:=cT;simp only[bh,ag,mx,BG]at h;split at h
 ·rename_i x t;simp only[bz,aq.eJ,Option.bind_eq_some_iff,aq.bx,Option.some.injEq]at h;obtain⟨⟨c,n⟩,az,rfl⟩:=h;refine cn.pure (by grind) a6 λa w κ F G aY hc=>?_;obtain⟨h1,h2⟩:=ac1 hT G az hc (cv G x rfl aY) o.type;refine⟨_,wR ag ?_,gE.2 ⟨rfl,h2⟩⟩;simp[builtin,h1]
 ·cases h
theorem ac3(hT:dx C.P T){args:Array Operand}{cT:Array TypeId}(a6:∀ i,o.dst=some i->i<C.nt)(ag:o.op=.call { callee:=.builtin .cap,args:=args,argTypes:=cT })(h:(BI T (aT C.aK s.ax) args.toList cT.toList).run s.ad=some res):cn C o s res:=by
 obtain⟨args⟩:=args;obtain⟨cT⟩:=cT;simp only[BI]at h;split at h
 ·rename_i x t;split at h
  ·rename_i e cf aG hu;simp only[bz,aq.bx,Option.some.injEq]at h;subst h;refine cn.pure (by grind) a6 λa w κ F G aY hc=>?_;have hv:a.eval x=.slice none 0 0:=cv G x hu aY;obtain⟨i,E,_⟩:=(hT.bO aG (by simp)).sl;refine⟨.int .i64 0,wR ag ?_,gE.2 ⟨rfl,by decide⟩⟩;simp[builtin,Builtin.cap_,hv,di E,goInt]
  ·cases h
 ·cases h
theorem Rm{a:Act}{w:World}{κ:Nat->bo}{F:Nat->Prop}(G:bc C s a w κ F){k:IntKind}:∀ (l:List Operand) {bU:Prop} {hQ:z1'},mw (aT C.aK s.ax) k l=some (bU,hQ)->bU->l.map a.eval=hQ.map (Value.int k)/\∀ n∈hQ,fz k n
 | [],_,_,h,_=>by cases h
 | [x],bU,hQ,h,aY=>by
  simp only[mw]at h;split at h
  ·rename_i k' n hx;split at h
   ·rename_i ao;subst ao;cases h;have h1:=n5 (cv G x rfl aY) hx;exact⟨by simp[h1.1],by simpa using h1.2⟩
   ·cases h
  ·cases h
 | x::y::l,bU,hQ,h,aY=>by
  simp only[mw]at h;split at h
  ·rename_i k' n aw6 aw7 hx ai;split at h
   ·rename_i ao;subst ao;cases h;have h1:=n5 (cv G x rfl aY.1) hx;have h2:=Rm G (y::l) ai aY.2;exact⟨by rw[List.map_cons,h2.1,h1.1];rfl,λm an=>by
     rcases List.mem_cons.1 an with rfl | an
     ·exact h1.2
     ·exact h2.2 m an⟩
   ·cases h
  ·cases h
theorem JU{k:IntKind}:∀ (hQ:z1') (m:Int),fz k m->(∀ n∈hQ,fz k n)->((hQ.map (Value.int k)).foldlM Builtin.min2 (Value.int k m)=pure (Value.int k (hQ.foldl (λa b=>if b<a then b else a) m))/\fz k (hQ.foldl (λa b=>if b<a then b else a) m))/\
  ((hQ.map (Value.int k)).foldlM Builtin.max2 (Value.int k m)=pure (Value.int k (hQ.foldl (λa b=>if b > a then b else a) m))/\fz k (hQ.foldl (λa b=>if b > a then b else a) m))
 | [],m,h,_=>⟨⟨rfl,h⟩,rfl,h⟩
 | n::hQ,m,h,ai=>by
  have az:=ai n (by simp);have ai:=λq bf=>ai q (List.mem_cons_of_mem n bf);have h1:=(JU hQ (if n<m then n else m) (by split<;>assumption) ai).1;have h2:=(JU hQ (if n > m then n else m) (by split<;>assumption) ai).2;refine⟨⟨?_,h1.2⟩,?_,h2.2⟩
  ·simp only[List.map_cons,List.foldlM_cons,List.foldl_cons,Builtin.min2];rw[<-h1.1];simp
  ·simp only[List.map_cons,List.foldlM_cons,List.foldl_cons,Builtin.max2];rw[<-h2.1];simp
theorem Rn{b:Builtin}{f:Int->Int->Int}(ab:(b=.min/\f=λa b=>if b<a then b else a)\/(b=.max/\f=λa b=>if b > a then b else a)){args:Array Operand}{cT:Array TypeId}(a6:∀ i,o.dst=some i->i<C.nt)
  (ag:o.op=.call { callee:=.builtin b,args:=args,argTypes:=cT }) (h:(rM (aT C.aK s.ax) f args.toList).run s.ad=some res):cn C o s res:=by
 obtain⟨args⟩:=args;simp only[rM]at h;split at h
 ·rename_i x y l;split at h
  ·rename_i k m hx;split at h
   ·rename_i bU hQ ai;simp only[bz,aq.bx,Option.some.injEq]at h;subst h;refine cn.pure (by grind) a6 λa w κ F G aY hc=>?_;have h1:=n5 (cv G x rfl aY.1) hx;obtain⟨h2,h3⟩:=Rm G (y::l) ai aY.2;obtain⟨g1,dW⟩:=JU hQ m h1.2 h3;have dB:(x::y::l).map a.eval=Value.int k m::hQ.map (Value.int k):=by rw[List.map_cons,h2,h1.1]
    refine⟨.int k (hQ.foldl f m),wR ag ?_,gE.2 ⟨rfl,?_⟩⟩
    ·rcases ab with⟨rfl,rfl⟩ | ⟨rfl,rfl⟩
     ·simp only[builtin,Builtin.min_,List.map_toArray,dB];rw[g1.1];rfl
     ·simp only[builtin,Builtin.max_,List.map_toArray,dB];rw[dW.1];rfl
    ·rcases ab with⟨rfl,rfl⟩ | ⟨rfl,rfl⟩
     ·exact g1.2
     ·exact dW.2
   ·cases h
  ·cases h
 ·cases h
end
end Go.Fer
namespace Go.Fer
open Go.RowKit
def eW(H:Nat->bu)(x:bu):bu:=match x.body with
 | .a8 e xs=>⟨x.gen,.hj e xs⟩
 | .mp k v es=>⟨x.gen,.iY k v es⟩
 | .cells t f=>match (h5 t ((List.range t.size).map f)).run H with
  | some (y,_,[])=>⟨x.gen,.gq t y⟩
  | _=>x
 | _=>x
def ay.cc(s:ay)(l:List Nat):ay:=⟨s.ax,λi=>if i∈l then eW s.ad (s.ad i) else s.ad i⟩
theorem Ro(H:Nat->bu):∀ (l:List Nat) (s:ay),(∀ i∈l,s.ad i=H i\/s.ad i=eW H (H i))->s.fK ((jt l).run H)=⟨s.ax,λi=>if i∈l then eW H (H i) else s.ad i⟩
 | [],s,_=>by
  rfl
 | b::l,s,h=>by
  simp only[jt,aq.eI,aq.run_bind];have key:∀ (s':ay),s'.ax=s.ax->s'.ad b=eW H (H b)->(∀ i,i≠b->s'.ad i=s.ad i)->s'.fK ((jt l).run H)=⟨s.ax,λi=>if i∈b::l then eW H (H i) else s.ad i⟩:=by
   intro s' e1 e2 e3;rw[Ro H l s']
   ·rw[e1];congr 1;funext i;by_cases E:i=b
    ·subst E;simp only[e2,List.mem_cons,true_or,if_true];split<;>rfl
    ·rw[e3 i E];simp[E]
   ·intro i E;by_cases ek:i=b
    ·subst ek;exact .inr e2
    ·rw[e3 i ek];exact h i (by simp[E])
  have hl:eW H (H b)=H b->s.fK ((jt l).run H)=⟨s.ax,λi=>if i∈b::l then eW H (H i) else s.ad i⟩:=λe=>
   key s rfl (by grind) λ_ _=>rfl
  have put:∀ x,eW H (H b)=x->s.fK ((b,x)::(jt l).run H)=⟨s.ax,λi=>if i∈b::l then eW H (H i) else s.ad i⟩:=λx e=>by
   simp only[ay.fK];exact key _ rfl (by simp[ay.b',e]) λi E=>by simp[ay.b',E]
  cases ab:(H b).body with
  | a8 e xs=>exact put _ (by simp[eW,ab])
  | mp k v es=>exact put _ (by simp[eW,ab])
  | cells t f=>
   simp only[aq.run_bind,aq.bx];cases aA:(h5 t ((List.range t.size).map f)).run H with
   | none=>exact hl (by simp[eW,ab,aA])
   | some z=>
    obtain⟨y,m,r⟩:=z;cases r with
    | nil=>exact put _ (by simp[eW,ab,aA])
    | cons c r=>exact hl (by simp[eW,ab,aA])
  | _=>exact hl (by simp[eW,ab])
theorem tk(s:ay)(l:List Nat):s.fK ((jt l).run s.ad)=s.cc l:=by
 rw[Ro s.ad l s λi _=>.inl rfl];rfl
theorem BU:∀ (l:List (Nat×bu)) (s:ay) (p:Nat×bu),s.fK (l++[p])=(s.fK l).b' p.1 p.2
 | [],_,_=>rfl
 | q::l,s,p=>by simp only[List.cons_append,ay.fK];exact BU l _ p
def bB.Rp:bB->Bool | .b8 _ _ _ _=>true | .fQ _ _ _ _=>true | _=>false
def gu(H:Nat->bu)(l:List Nat):Prop:=∀ b∈l,(H b).body.Rp=false/\∀ t f,(H b).body=.cells t f->∃ y m,(h5 t ((List.range t.size).map f)).run H=some (y,m,[])/\∀ c∈m,c∈l
theorem gu.nil(H:Nat->bu):gu H []:=λb ab=>by cases ab
theorem gu.append{H:Nat->bu}{l m:List Nat}(h:gu H l)(k:gu H m):gu H (l++m):=by
 intro b ab;rcases List.mem_append.1 ab with ab | ab
 ·obtain⟨h1,h2⟩:=h b ab;grind
 ·obtain⟨h1,h2⟩:=k b ab;grind
theorem gu.one{H:Nat->bu}{b:Nat}(h1:(H b).body.Rp=false)(h2:(H b).body.fq=false):gu H [b]:=by
 intro c hc;obtain rfl:=List.mem_singleton.1 hc;exact⟨h1,λt f e=>by rw[e]at h2;cases h2⟩
theorem rP{H:Nat->bu}{t:af}{av:aD}{x:t.ah}{l:List Nat}(h:(dA t av).run H=some (x,l)):gu H l:=by
 cases av with
 | val cD y=>
  simp only[dA,aq.bx,Option.map_eq_some_iff,Prod.mk.injEq]at h;obtain⟨z,bb,rfl,rfl⟩:=h;exact .nil H
 | cR=>
  cases t<;>simp only[dA,aq.none,aq.bx,reduceCtorEq,Option.some.injEq,Prod.mk.injEq]at h;obtain⟨rfl,rfl⟩:=h;exact .nil H
 | jn u=>
  simp only[dA,aq.bx,Option.map_eq_some_iff,Prod.mk.injEq]at h;obtain⟨z,bb,rfl,rfl⟩:=h;exact .nil H
 | dz cD y=>
  cases t<;>simp only[dA,aq.none,aq.bx,reduceCtorEq,Option.map_eq_some_iff,Prod.mk.injEq]at h;obtain⟨z,bb,rfl,rfl⟩:=h;exact .nil H
 | own b g=>
  cases t<;>simp only[dA,aq.none,aq.bx,aq.eI,reduceCtorEq]at h;split at h
  ·split at h
   ·rename_i ab;simp only[Option.map_eq_some_iff,Prod.mk.injEq]at h;obtain⟨z,bb,rfl,rfl⟩:=h;exact .one (by rw[ab];rfl) (by rw[ab];rfl)
   ·simp only[Option.map_eq_some_iff,Prod.mk.injEq]at h;obtain⟨z,bb,rfl,rfl⟩:=h;exact .nil H
   grind
  grind
 | sub b g lo E=>
  cases t<;>simp only[dA,aq.none,aq.bx,aq.eI,reduceCtorEq]at h;split at h
  ·split at h
   ·rename_i ab;simp only[Option.map_eq_some_iff,Prod.mk.injEq]at h;obtain⟨z,bb,rfl,rfl⟩:=h;exact .one (by rw[ab];rfl) (by rw[ab];rfl)
   ·simp only[Option.map_eq_some_iff,Prod.mk.injEq]at h;obtain⟨z,bb,rfl,rfl⟩:=h;exact .nil H
   grind
  grind
 | fp b g=>
  cases t<;>simp only[dA,aq.none,aq.bx,aq.eI,reduceCtorEq]at h;split at h
  ·split at h
   ·rename_i ab;simp only[Option.map_eq_some_iff,Prod.mk.injEq]at h;obtain⟨z,bb,rfl,rfl⟩:=h;exact .one (by rw[ab];rfl) (by rw[ab];rfl)
   ·simp only[Option.map_eq_some_iff,Prod.mk.injEq]at h;obtain⟨z,bb,rfl,rfl⟩:=h;exact .nil H
   grind
  grind
 | ih k n c=>
  cases t<;>simp only[dA,aq.none,aq.bx,reduceCtorEq]at h;split at h
  ·cases h;exact .nil H
  ·cases h
 | _=>cases h
theorem Rq{H:Nat->bu}{e:af}(fT:∀ {cs:List aD} {x:e.ah} {l:List Nat} {r:List aD},(h5 e cs).run H=some (x,l,r)->gu H l){av:aD}{x:Option e.ah}{l:List Nat}
  (h:(ta e (h5 e) av).run H=some (x,l)):gu H l:=by
 have b5:(dA (.bq e) av).run H=some (x,l)->gu H l:=rP (t:=.bq e);cases av with
 | loc b g off=>
  simp only[ta,aq.eI]at h;split at h
  ·split at h
   ·simp only[aq.bx,Option.map_eq_some_iff,Prod.mk.injEq]at h;obtain⟨z,bb,rfl,rfl⟩:=h;exact .nil H
   ·rename_i t f ab;split at h
    ·rename_i aG;subst aG;simp only[aq.eJ,Option.bind_eq_some_iff,aq.bx]at h;obtain⟨⟨y,m,q⟩,h1,h2⟩:=h;split at h2
     ·rename_i bf;simp only[Option.some.injEq,Prod.mk.injEq]at h2;obtain⟨rfl,rfl⟩:=h2;have bf:q=[]:=List.isEmpty_iff.1 bf;subst bf;intro c hc;rcases List.mem_cons.1 hc with rfl | hc
      ·refine⟨by rw[ab];rfl,λcD im e=>?_⟩;grind
      ·obtain⟨aO,aP⟩:=fT h1 c hc;grind
     grind
    ·cases h
   ·cases h
  ·cases h
 | _=>exact b5 h
theorem Rr{H:Nat->bu}:∀ (t:af) {cs:List aD} {x:t.ah} {l:List Nat} {r:List aD},(h5 t cs).run H=some (x,l,r)->gu H l:=by
 have pO:∀ (t:af) (g:aD->aq (Option (t.ah×List Nat))),(∀ {av:aD} {x:t.ah} {l:List Nat},(g av).run H=some (x,l)->gu H l)->
   ∀ {cs:List aD} {x:t.ah} {l:List Nat} {r:List aD},(match cs with | c::r=>(g c).map λo=>o.map λ(x,l)=>(x,l,r) | []=>.none:aq (Option (t.ah×List Nat×List aD))).run H=some (x,l,r)->gu H l:=by
  intro t g aA cs x l r h;cases cs with
  | nil=>cases h
  | cons c cs=>
   simp only[aq.map,aq.run_bind,aq.bx,Option.map_eq_some_iff,Prod.mk.injEq]at h;grind
 intro t;induction t with
 | bool=>intro cs x l r h;exact pO .bool (dA .bool) rP h
 | int k=>intro cs x l r h;exact pO (.int k) (dA (.int k)) rP h
 | str=>intro cs x l r h;exact pO .str (dA .str) rP h
 | cz=>
  intro cs x l r h;simp only[h5,aq.bx,Option.some.injEq,Prod.mk.injEq]at h;obtain⟨_,rfl,rfl⟩:=h;exact .nil H
 | st t aH=>intro cs x l r h;exact aH h
 | aw a b fe ej=>
  intro cs x l r h;simp only[h5,aq.eJ,Option.bind_eq_some_iff,aq.bx,Option.some.injEq,Prod.mk.injEq]at h;obtain⟨⟨y,m,q⟩,h1,⟨z,da,q'⟩,h2,rfl,rfl,rfl⟩:=h;exact (fe h1).append (ej h2)
 | slice e aH=>intro cs x l r h;exact pO (.slice e) (dA (.slice e)) rP h
 | array n e aH=>
  intro cs xs l r h;simp only[h5]at h;have key:∀ (n:Nat) {cs:List aD} {xs:List e.ah} {l:List Nat} {r:List aD},(n.rec (motive:=λ_=>List aD->aq (Option (List e.ah×List Nat×List aD))) (λcs=>.ret (some ([],[],cs)))
     (λ_ aH cs=>(h5 e cs).cx λ(x,l,r)=>(aH r).cx λ(xs,m,q)=>.ret (some (x::xs,l++m,q))) cs).run H=some (xs,l,r)->gu H l:=by
   intro n;induction n with
   | zero=>intro cs xs l r h;cases h;exact .nil H
   | succ n BD=>
    intro cs xs l r h;simp only[aq.eJ,Option.bind_eq_some_iff,aq.bx,Option.some.injEq,Prod.mk.injEq]at h;obtain⟨⟨y,m,q⟩,h1,⟨z,da,q'⟩,h2,rfl,rfl,rfl⟩:=h;exact (aH h1).append (BD h2)
  grind
 | bq e aH=>intro cs x l r h;exact pO (.bq e) (ta e (h5 e)) (Rq aH) h
 | map k v wz wA=>intro cs x l r h;exact pO (.map k v) (dA (.map k v)) rP h
 | fn a b fe ej=>intro cs x l r h;exact pO (.fn a b) (dA (.fn a b)) rP h
 | b8 a aH=>intro cs x l r h;exact pO (.b8 a) (dA (.b8 a)) rP h
 | dT=>intro cs x l r h;exact pO .dT (dA .dT) rP h
theorem mA{H:Nat->bu}{t:af}{av:aD}{x:t.ah}{l:List Nat}(h:(dd t av).run H=some (x,l)):gu H l:=by
 have b5:(kf t av).run H=some (x,l)->gu H l:=by
  intro h;unfold kf at h;split at h
  ·exact Rq (λh=>Rr _ h) h
  ·split at h
   ·exact rP h
   ·cases h
 cases av with
 | val cD y=>
  simp only[dd,aq.bx,Option.map_eq_some_iff,Prod.mk.injEq]at h;obtain⟨z,bb,rfl,rfl⟩:=h;exact .nil H
 | agg n f=>
  simp only[dd]at h;split at h
  ·cases h
  ·simp only[aq.eJ,Option.bind_eq_some_iff,aq.bx]at h;obtain⟨⟨y,m,q⟩,h1,h2⟩:=h;split at h2
   ·simp only[Option.some.injEq,Prod.mk.injEq]at h2;obtain⟨rfl,rfl⟩:=h2;exact Rr t h1
   grind
 | _=>exact b5 h
theorem y6(H:Nat->bu)(x:bu):eW H x=x\/(∃ e xs,x.body=.a8 e xs/\eW H x=⟨x.gen,.hj e xs⟩)\/(∃ k v es,x.body=.mp k v es/\eW H x=⟨x.gen,.iY k v es⟩)\/
  ∃ t f y m,x.body=.cells t f/\(h5 t ((List.range t.size).map f)).run H=some (y,m,[])/\eW H x=⟨x.gen,.gq t y⟩:=by
 cases hx:x.body with
 | a8 e xs=>exact .inr (.inl ⟨e,xs,rfl,by simp[eW,hx]⟩)
 | mp k v es=>exact .inr (.inr (.inl ⟨k,v,es,rfl,by simp[eW,hx]⟩))
 | cells t f=>
  cases aA:(h5 t ((List.range t.size).map f)).run H with
  | none=>exact .inl (by simp[eW,hx,aA])
  | some z=>
   obtain⟨y,m,r⟩:=z;cases r with
   | nil=>exact .inr (.inr (.inr ⟨t,f,y,m,rfl,aA,by simp[eW,hx,aA]⟩))
   | cons c r=>exact .inl (by simp[eW,hx,aA])
 | _=>exact .inl (by simp[eW,hx])
theorem ac4{H:Nat->bu}{x:bu}{k:bo}(h:(eW H x).body.bJ k=true):(x.body.bJ k=true/\eW H x=x):=by
 rcases y6 H x with e | ⟨_,_,_,e⟩ | ⟨_,_,_,_,e⟩ | ⟨_,_,_,_,_,_,e⟩
 ·grind
 all_goals rw[e]at h;cases h
theorem Rs(s:ay)(l:List Nat)(κ:Nat->bo):e6 s.ad κ (s.cc l).ad κ:=by
 rw[Bx];intro b;simp only[ay.cc];split
 ·rcases y6 s.ad (s.ad b) with e | ⟨_,_,hx,e⟩ | ⟨_,_,_,hx,e⟩ | ⟨_,_,_,_,hx,_,e⟩
  ·rw[e];exact pL.refl _ _
  ·rw[e];exact⟨Nat.le_refl _,λ_=>⟨λh=>(by cases h),λ_=>⟨by rw[hx];rfl,rfl,by rw[hx];rfl,by rw[hx];rfl⟩,λh=>(by cases h),λh=>(by cases h)⟩⟩
  ·rw[e];exact⟨Nat.le_refl _,λ_=>⟨λh=>(by cases h),λh=>(by cases h),λ_=>⟨by rw[hx];rfl,rfl⟩,λh=>(by cases h)⟩⟩
  ·rw[e];exact⟨Nat.le_refl _,λ_=>⟨λ_=>⟨by rw[hx];rfl,rfl⟩,λh=>(by cases h),λh=>(by cases h),λh=>(by cases h)⟩⟩
 ·exact pL.refl _ _
theorem bc.kW{C:bS}{a:Act}{w:World}{κ:Nat->bo}{l:List Nat}{s:ay}{F:Nat->Prop}(lv:gu s.ad l)(h:bc C s a w κ F) :
  ∃ F',(∀ r,F r->F' r)/\bc C (s.cc l) a w κ F'/\iJ s.ad κ F' l:=by
 let F':Nat->Prop:=λr=>F r\/∃ b∈l,(s.ad b).body.bJ (κ b)=true/\(κ b).ad=r;have bd:∀ r,F r->F' r:=λr G=>.inl G;have tl:iJ s.ad κ F' l:=λb ab ag=>.inr ⟨b,ab,ag,rfl⟩;have JV:∀ b,((s.cc l).ad b).body.bJ (κ b)=true->b ∉ l/\(s.ad b).body.bJ (κ b)=true:=by
  intro b ab;simp only[ay.cc]at ab;by_cases iq:b∈l
  ·rw[if_pos iq]at ab;obtain⟨aO,aP⟩:=ac4 ab;exfalso;obtain⟨c1,c2⟩:=lv b iq;cases hx:(s.ad b).body with
   | a8 e xs=>simp[eW,hx,bB.bJ]at ab
   | mp k v es=>simp[eW,hx,bB.bJ]at ab
   | cells t f=>
    obtain⟨y,m,g,_⟩:=c2 t f hx;simp[eW,hx,g,bB.bJ]at ab
   | b8 k v c r=>rw[hx]at c1;cases c1
   | fQ e xs i v=>rw[hx]at c1;cases c1
   | _=>rw[hx]at aO;cases aO
  grind
 have ai:=Rs s l κ;refine⟨F',bd,?_,tl⟩;refine h.move ai bd (λr G=>G.imp id λ⟨b,_,h1,h2⟩=>.inl ⟨b,h1,h2⟩) (Nat.le_refl _) (λ_ _ _=>rfl) (cM.refl _) (λ_ b=>?_) (λb ab=>?_) (λb aZ ab cS e=>h.inj b aZ (JV b ab).2 (JV aZ cS).2 e) (λr G=>?_) (λb _ ab=>⟨rfl,?_⟩)
 ·show cg C.P (s.cc l).ad κ F' w b;by_cases iq:b∈l
  ·have aN:=h.bp b;have JW:(s.cc l).ad b=eW s.ad (s.ad b):=by simp[ay.cc,iq]
   have kT:eW s.ad (s.ad b)=s.ad b->cg C.P (s.cc l).ad κ F' w b:=λe=>cg.kT aN ai bd (cG.refl _ _) (by grind) rfl λ_=>rfl;cases hx:(s.ad b).body with
   | a8 e xs=>
    unfold cg at aN ⊢;rw[hx]at aN;rw[JW];simp only[eW,hx,jo];exact JD aN bd λaz=>tl b iq (by rw[hx];simp[bB.bJ,az])
   | mp k v es=>
    unfold cg at aN ⊢;rw[hx]at aN;rw[JW];simp only[eW,hx,jo];exact QZ aN bd (tl b iq (by rw[hx];rfl))
   | cells t f=>
    obtain⟨y,m,g,an⟩:=(lv b iq).2 t f hx;unfold cg at aN ⊢;rw[hx]at aN;rw[JW];simp only[eW,hx,g,jo];obtain⟨cs,T,aO,aP,bA⟩:=aN;have ik:dY C.P s.ad κ F w ((List.range t.size).map f) cs.toList:=BC (by omega) λi E=>by
     simp_all
    obtain⟨c,d,JF,c1,c2⟩:=JG h.bp bd t g (λc hc=>tl c (an c hc)) ik;cases d with
    | cons _ _=>exact c2.elim
    | nil=>
     rw[List.append_nil]at JF;refine⟨c,⟨tl b iq (by rw[hx];rfl),rfl,λj aC=>?_⟩,c1⟩;have fA:j<cs.size:=by grind
     simp only[World.cell?,aO,Nat.zero_add,Option.isSome_none,Bool.false_eq_true,if_false,Array.getElem?_eq_getElem fA];grind
   | _=>exact kT (by simp[eW,hx])
  ·exact cg.kT (h.bp b) ai bd (cG.refl _ _) (by simp[ay.cc,iq]) rfl λ_=>rfl
 ·obtain⟨aO,aP⟩:=JV b ab;have ag:=h.own b aP;refine⟨ag.1,λar=>?_,.inl ⟨b,aP,rfl⟩⟩;rcases ar with ar | ⟨b0,m1,m2,m3⟩
  ·grind
  ·exact aO (h.inj b b0 aP m2 m3.symm ▸ m1)
 ·rcases G with G | ⟨b,_,ab,rfl⟩
  ·exact h.cL r G
  ·exact (h.own b ab).1
 ·split at ab
  ·rcases y6 s.ad (s.ad b) with e | ⟨_,_,hx,e⟩ | ⟨_,_,_,hx,e⟩ | ⟨_,_,_,_,hx,_,e⟩
   ·grind
   ·rw[e]at ab;simp[bB.fq,bB.gF]at ab
   ·rw[hx];exact .inr rfl
   ·rw[hx];exact .inl rfl
  omega
section
variable {C:bS} {T:Nat->af} {a1:Nat->Option aJ} {o:Oper} {s:ay} {res:d'}
theorem bc.gv{a:Act}{w:World}{κ:Nat->bo}{F:Nat->Prop}(h:bc C s a w κ F){b:Nat}(ab:b<C.nt):b<ev:=Nat.lt_of_lt_of_le ab h.fR
theorem bc.newVar{a:Act}{w:World}{κ:Nat->bo}{F:Nat->Prop}(h:bc C s a w κ F){b:Nat}(BA:b<ev){t:af}{l:List aD}{cs:List Value}{ty:TypeId}(ai:dY C.P s.ad κ F w l cs)(aG:l.length=t.size) :
  ∃ κ',bc C (s.b' b ⟨(s.ad b).gen+1,.cells t (gO l)⟩) a (w.alloc (.cells cs.toArray ty)) κ' F/\(κ' b).ad=w.heap.size:=by
 refine⟨_,h.alloc (k:=⟨w.heap.size,0,0,false⟩) BA (Nat.lt_succ_self _) rfl λH κ' mB Bz b4=>?_,by simp⟩;refine⟨cs.toArray,ty,pM _ _,by simp[<-ai.len,aG],λi E=>?_⟩;have:=ai.kz i (by omega);have e:cs.toArray.getD i Go.undef=cs.getD i Go.undef:=by simp
 rw[e];exact⟨bl.later b4 (λ_ G=>G) (cG.alloc h.cL _) this.1,this.2⟩
theorem BV(t:af){P:Program}{z:Value}(h:jT t z.cells.toList=some []):(rJ t).length=t.size/\z.cells.size=t.size:=by
 obtain⟨c,e,h1,h2⟩:=uS (P:=P) (H:=λ_=>⟨0,.ff⟩) (κ:=λ_=>⟨0,0,0,true⟩) (F:=λ_=>True) (w:=default) t h;rw[List.append_nil]at e;have:=hC t h1;have:=h2.len;grind
theorem ac5(hT:dx C.P T){ty:TypeId}(a6:∀ i,o.dst=some i->i<C.nt)(ag:o.op=.alloc ty)(h:(bh C.aK T a1 (aT C.aK s.ax) o).run s.ad=some res)(pQ:T ty≠.cz):cn C o s res:=by
 simp only[bh,ag]at h;obtain⟨b,au,ao⟩:=qG h;simp only[if_neg pQ,Option.some.injEq]at ao;subst ao;intro a w κ F Q G _ _;have cU:=hT.bO rfl pQ;obtain⟨i,z,h1,h2,h3,aR,bw,cZ⟩:=kh cU.kg;obtain⟨c,e,n7,z2⟩:=uS (P:=C.P) (H:=s.ad) (κ:=κ) (F:=F) (w:=w) (T ty) bw;rw[List.append_nil]at e;have bb:=BV (T ty) (P:=C.P) bw;obtain⟨κ',bR,cp⟩:=G.newVar (b:=b) (G.gv (a6 b au)) (t:=T ty) (ty:=ty) z2 bb.1;have cH:(execOp a.eval o).run C.P w=.ok (.value (.pointer (some ⟨w.heap.size,0,none⟩))) (w.alloc (.cells c.toArray ty)):=by
  have y7:z.cells=c.toArray:=by grind
  simp[execOp,ag,Instr.alloc,qE h1 aR,newVar,newRow,y7]
 refine ha (by grind) cH ⟨κ',F,bc.set (s:=s.b' b _) bR a6 ⟨⟨?_,rfl⟩,λ_ _=>?_⟩⟩
 ·simp[ay.b']
 grind
theorem JX{P:Program}{H:Nat->bu}{κ:Nat->bo}{F:Nat->Prop}{w:World}{t:af}{av:aD}{v:Value}{l:List aD}(h:cellsOf t av=some l)(hv:bl P H κ F w av v):dY P H κ F w l v.cells.toList:=by
 unfold cellsOf at h;split at h
 ·rename_i cD x;split at h
  ·rename_i he;subst he;simp only[Option.some.injEq]at h;subst h;obtain⟨⟨cs,rfl,_⟩,hc⟩:=hv;simp only[bt]at hc;exact yS _ hc
  grind
 ·rename_i n f;split at h
  ·simp only[Option.some.injEq]at h;subst h;obtain⟨aB,rfl,h1,h2⟩:=hv;exact BC h1 h2
  grind
 ·rename_i n e iL aS x;split at h
  ·simp only[Option.some.injEq]at h;subst h;obtain⟨⟨cs,rfl,_⟩,hc⟩:=hv;exact yS _ hc
  grind
 ·rename_i n e m f;split at h
  ·simp only[Option.some.injEq]at h;subst h;obtain⟨aB,rfl,h1,h2⟩:=hv;exact BC h1 h2
  grind
 ·split at h
  ·have one:v.oneCell'=true->l=[av]->dY P H κ F w l v.cells.toList:=by
    intro h1 h2;subst h2;rw[EU h1];exact⟨⟨hv,h1⟩,trivial⟩
   split at h
   ·rename_i cD x;split at h
    ·rename_i y3;obtain⟨aO,aP⟩:=(dy y3).1 hv;exact one (JA y3 aP) (Option.some.inj h).symm
    grind
   ·exact one hv.1.2 (Option.some.inj h).symm
   ·exact one hv.1.2 (Option.some.inj h).symm
   ·exact one hv.1.2 (Option.some.inj h).symm
   ·refine one ?_ (Option.some.inj h).symm;obtain⟨p,a_,rfl,_⟩:=hv;rfl
   ·exact one hv.1.2 (Option.some.inj h).symm
   ·refine one ?_ (Option.some.inj h).symm;obtain⟨aB,rfl,_⟩:=hv;rfl
   ·refine one ?_ (Option.some.inj h).symm;simp only[bl]at hv;subst hv;rfl
   ·exact one hv.1.2 (Option.some.inj h).symm
   ·cases h
   ·cases h
   ·refine one ?_ (Option.some.inj h).symm;simp only[bl]at hv;subst hv;cases v<;>first | rfl | grind | grind | grind | grind
   grind
  grind
end
end Go.Fer
namespace Go.Fer
open Go.RowKit
theorem Fe:∀ (l:List Value) (k off:Nat) (cs:Array Value),off+k+l.length<=cs.size->
  ((l.zipIdx k).foldl (λ(cs:Array Value) (p:Value×Nat)=>cs.setIfInBounds (off+p.2) p.1) cs).toList=cs.toList.take (off+k)++(l++cs.toList.drop (off+k+l.length))
 | [],k,off,cs,h=>by simp
 | c::l,k,off,cs,h=>by
  simp only[List.zipIdx_cons,List.foldl_cons];have bW:(cs.setIfInBounds (off+k) c).size=cs.size:=by simp
  rw[Fe l (k+1) off _ (by grind)];simp only[Array.toList_setIfInBounds,List.length_cons]at h ⊢;have b4:off+k<cs.toList.length:=by grind
  rw[show off+(k+1)=(off+k)+1 from by omega];rw[List.take_set,List.drop_set];rw[if_pos (by omega)];have h1:(cs.toList.take (off+k+1)).set (off+k) c=cs.toList.take (off+k)++[c]:=by
   rw[List.take_succ_eq_append_getElem b4,List.set_append_right _ _ (by grind)];have BW:min (off+k) cs.size=off+k:=Nat.min_eq_left (by omega);simp[BW]
  grind
section
variable {P:Program} {w:World}
theorem ac6(w:World)(b off:Nat)(v:Value){cs:Array Value}{T:TypeId}{eW:Nat×Nat}(h:w.heap[b]?=some (.cells cs T eW)) :
  (w.setCell ⟨b,off,none⟩ v).heap[b]?=some (.cells (cs.setIfInBounds off v) T eW):=by
 simp[World.setCell,Array.getElem?_modify,h]
theorem uY{b:Nat}{T:TypeId}:∀ (aB:List Value) (off i:Nat) (w:World) (cs:Array Value),w.heap[b]?=some (.cells cs T (0,0))->off+i+aB.length<=cs.size->(∀ v∈aB,v.oneCell'=true)->
  ∃ w' cP,(storeCells ⟨b,off,none⟩ aB i).run P w=.ok () w'/\w'.heap[b]?=some (.cells cP T (0,0))/\cP.toList=cs.toList.take (off+i)++(aB++cs.toList.drop (off+i+aB.length))/\
   (∀ r,r≠b->w'.heap[r]?=w.heap[r]?)/\w'.heap.size=w.heap.size/\cM w w'
 | [],off,i,w,cs,h,_,_=>⟨w,cs,by rfl,h,by simp,λ_ _=>rfl,rfl,cM.refl w⟩
 | v::aB,off,i,w,cs,h,ai,hv=>by
  have b4:off+i<cs.size:=by grind
  have hc:w.cell? ⟨b,off+i,none⟩=some cs[off+i]:=by rw[uX h];simp
  have ar:w.frozen? ⟨b,off+i,none⟩=false:=by simp[World.frozen?,h]
  have h1:=ac6 w b (off+i) v h;obtain⟨w',cP,bR,cp,dX,lx,ly,l3⟩:=uY aB off (i+1) (w.setCell ⟨b,off+i,none⟩ v) _ h1 (by grind) (λu hu=>hv u (by grind));refine⟨w',cP,?_,cp,?_,?_,by simp_all,cM.trans (b:=w.setCell ⟨b,off+i,none⟩ v) ⟨rfl,rfl,rfl⟩ l3⟩
  ·simp only[storeCells,Sem.run_bind,uV,run_store P w _ v _ (hv v (by simp)),hc,ar,Bool.false_eq_true,if_false,Result.andThen_ok];exact bR
  ·rw[dX];have:=Fe [v] 0 (off+i) cs (by grind);simp only[List.zipIdx_cons,List.zipIdx_nil,List.foldl_cons,List.foldl_nil,Nat.add_zero,List.length_singleton]at this;rw[this];have e1:(cs.toList.take (off+i)).length=off+i:=by grind
   rw[List.take_append,List.drop_append,e1];simp only[show off+(i+1) - (off+i)=1 from by omega,show off+(i+1)+aB.length - (off+i)=aB.length+1 from by omega];have e2:List.take (off+(i+1)) (cs.toList.take (off+i))=cs.toList.take (off+i):=List.take_of_length_le (by omega);have e3:List.drop (off+(i+1)+aB.length) (cs.toList.take (off+i))=[]:=List.drop_of_length_le (by omega);rw[e2,e3];simp only[List.length_cons,List.nil_append,List.append_assoc,List.cons_append];simp only[List.take_succ_cons,List.take_zero,List.drop_succ_cons,List.drop_drop,List.cons_append,List.nil_append];grind
  ·intro r G;rw[lx r G];exact Below.heap_setCell _ _ _ _ (by omega)
end
section
variable {C:bS} {T:Nat->af} {a1:Nat->Option aJ} {o:Oper} {s:ay} {res:d'}
theorem ac7{ty:TypeId}{x:Operand}(a6:∀ i,o.dst=some i->i<C.nt)(ag:o.op=.box ty x)(h:(bh C.aK T a1 (aT C.aK s.ax) o).run s.ad=some res):cn C o s res:=by
 simp only[bh,ag]at h;split at h
 ·rename_i l ai;obtain⟨b,au,ao⟩:=qG h;split at ao;case isFalse=>cases ao
  rename_i hlen;simp only[Option.some.injEq]at ao;subst ao;intro a w κ F Q G aY _;have hv:=cv G x rfl aY;obtain⟨κ',bR,cp⟩:=G.newVar (b:=b) (G.gv (a6 b au)) (t:=T ty) (ty:=ty) (JX ai hv) hlen;have cH:(execOp a.eval o).run C.P w=.ok (.value (.pointer (some ⟨w.heap.size,0,none⟩))) (w.alloc (.cells (a.eval x).cells.toList.toArray ty)):=by
   simp[execOp,ag,Instr.box,newVar,newRow]
  refine ha (by grind) cH ⟨κ',F,bc.set (s:=s.b' b _) bR a6 ⟨⟨?_,rfl⟩,λ_ _=>?_⟩⟩
  ·simp[ay.b']
  grind
 ·cases h
theorem ac8{P:Program}:∀ (t:af) {l:List Field} {off:Nat},ch P t (.inr (l,off))=true->∀ f∈l,∃ s,bQ P s f.type:=by
 intro t;induction t with
 | aw a b fe ej=>
  intro l off h;match l,h with
  | [],h=>simp
  | [x],h=>simp only[ch,Bool.false_eq_true]at h
  | [x,y],h=>
   simp only[ch,Bool.and_eq_true]at h;intro f ar;simp only[List.mem_cons,List.not_mem_nil,or_false]at ar;rcases ar with rfl | rfl
   ·exact⟨a,h.1.1.1.2⟩
   ·exact⟨b,h.2.1.1.2⟩
  | x::y::z::l,h=>
   simp only[ch,Bool.and_eq_true]at h;intro f ar;rcases List.mem_cons.1 ar with rfl | ar
   ·exact⟨a,h.1.1.1.2⟩
   grind
 | _=>intro l off h;simp only[ch,Bool.false_eq_true]at h
theorem bQ.ac9{P:Program}{t:af}{id:TypeId}(h:bQ P (.st t) id){eA:Array Field}(i_:P.underlying id=some (.struct eA)):∀ f∈eA.toList,∃ s,bQ P s f.type:=by
 obtain⟨_,_,h3,aR⟩:=h.BN;rw[i_]at aR;simp only[Option.some.injEq,TypeDesc.struct.injEq]at aR;rw[<-aR]at h3;rcases h3 with h3 | ⟨f,e,_,h3,_⟩ | ⟨_,e⟩
 ·exact ac8 t h3
 ·rw[e];intro g aA;simp only[List.mem_singleton]at aA;subst aA;exact⟨t,h3⟩
 ·rw[e];intro g aA;cases aA
theorem dY.replace{P:Program}{H:Nat->bu}{κ:Nat->bo}{F:Nat->Prop}{w:World}{as l:List aD}{us aB:List Value}(h:dY P H κ F w as us)(k:dY P H κ F w l aB)(off:Nat) :
  dY P H κ F w (as.take off++(l++as.drop (off+l.length))) (us.take off++(aB++us.drop (off+aB.length))):=by
 have BX:∀ {as:List aD} {us:List Value} (n:Nat),dY P H κ F w as us->dY P H κ F w (as.take n) (us.take n):=by
  intro as;induction as with
  | nil=>intro us n h;cases us<;>first | exact h.elim | grind
  | cons a as aH=>intro us n h;cases us with
   | nil=>exact h.elim
   | cons u us=>cases n with
    | zero=>trivial
    | succ n=>exact⟨h.1,aH n h.2⟩
 have ac_:∀ {as:List aD} {us:List Value} (n:Nat),dY P H κ F w as us->dY P H κ F w (as.drop n) (us.drop n):=by
  intro as;induction as with
  | nil=>intro us n h;cases us<;>first | exact h.elim | grind
  | cons a as aH=>intro us n h;cases us with
   | nil=>exact h.elim
   | cons u us=>cases n with
    | zero=>exact h
    | succ n=>exact aH n h.2
 rw[<-k.len];exact (BX off h).append (k.append (ac_ _ h))
theorem Rt{P:Program}{H:Nat->bu}{κ:Nat->bo}{F:Nat->Prop}{w:World}{t:af}{id:TypeId}{eA:Array Field}(cU:bQ P (.st t) id)(i_:P.underlying id=some (.struct eA)){place:Nat->Option (Nat×Nat)}
  (rQ:∀ i f s,eA[i]?=some f->bQ P s f.type->place i=some (f.offset,s.size)):∀ (ps:List (Nat×aD)) (qs:List (Nat×Value)) {as Ff:List aD} {cs:Array Value},dY P H κ F w as cs.toList->E2 t as ps=some Ff->
  ps.length=qs.length->(∀ i (h:i<ps.length) (c6:i<qs.length),ps[i].1=qs[i].1/\bl P H κ F w ps[i].2 qs[i].2)->∃ cP,Instr.fill place cs qs=some cP/\dY P H κ F w Ff cP.toList
 | [],[],as,Ff,cs,aV,ar,_,_=>by cases ar;exact⟨cs,rfl,aV⟩
 | (i,av)::ps,(kV,v)::qs,as,Ff,cs,aV,ar,hlen,fo=>by
  have h0:=fo 0 (by simp) (by simp);simp only[List.getElem_cons_zero]at h0;obtain⟨rfl,hv⟩:=h0;simp only[E2]at ar;split at ar
  ·cases ar
  ·rename_i s off tm;split at ar
   ·cases ar
   ·rename_i l ai;split at ar
    ·rename_i hc;obtain⟨aw8,nv,f1,f2,f3,f4,f5⟩:=cU.field tm;rw[i_]at f1;simp only[Option.some.injEq,TypeDesc.struct.injEq]at f1;subst f1;have hp:=rQ i nv s f2 f4;rw[f3]at hp;have ik:=JX ai hv;have bW:v.cells.size=s.size:=by have:=ik.len;grind
     have oR:as.length=cs.size:=by simpa using aV.len
     have Fg:=Fe v.cells.toList 0 off cs (by grind);have e:(v.cells.zipIdx.foldl (λ(cs:Array Value) (p:Value×Nat)=>cs.setIfInBounds (off+p.2) p.1) cs)=((v.cells.toList.zipIdx 0).foldl (λ(cs:Array Value) (p:Value×Nat)=>cs.setIfInBounds (off+p.2) p.1) cs):=by
      rw[<-Array.foldl_toList];simp
     have ac':=aV.replace ik off;rw[hc.1]at ac';obtain⟨cP,aO,aP⟩:=Rt cU i_ rQ ps qs (cs:=v.cells.zipIdx.foldl (λ(cs:Array Value) (p:Value×Nat)=>cs.setIfInBounds (off+p.2) p.1) cs) (by rw[e,Fg];omega) ar (by grind)
      (λj h c6=>by have:=fo (j+1) (by grind) (by grind);grind)
     refine⟨cP,?_,aP⟩;simp only[Instr.fill,hp];grind
    grind
 | [],_::_,_,_,_,_,_,hlen,_=>by grind
 | _::_,[],_,_,_,_,_,hlen,_=>by grind
theorem Ru:∀ {l:List (Nat×aD)},rL l->∀ i (h:i<l.length),(use l[i].2).1
 | a::l,h,0,_=>by
  obtain⟨n,a⟩:=a;cases a<;>first | trivial | exact h.1
 | a::l,h,i+1,E=>by
  have c6:rL l:=by obtain⟨n,a⟩:=a;cases a<;>first | exact h | exact h.2
  have:=Ru c6 i (by grind);grind
theorem JY{a:Act}{w:World}{κ:Nat->bo}{F:Nat->Prop}(G:bc C s a w κ F)(ps:List (Nat×Operand))(aY:rL (ps.map λp=>(p.1,aT C.aK s.ax p.2))) :
  ∀ i (h:i<(il (ps.map λp=>(p.1,aT C.aK s.ax p.2))).length) (c6:i<(ps.map λp=>(p.1,a.eval p.2)).length),(il (ps.map λp=>(p.1,aT C.aK s.ax p.2)))[i].1=(ps.map λp=>(p.1,a.eval p.2))[i].1/\bl C.P s.ad κ F w (il (ps.map λp=>(p.1,aT C.aK s.ax p.2)))[i].2 (ps.map λp=>(p.1,a.eval p.2))[i].2:=by
 intro i h c6;have E:i<ps.length:=by grind
 have h1:=Ru aY i (by grind);simp only[List.getElem_map]at h1;refine⟨by simp[il],?_⟩;simp only[il,List.getElem_map];exact oQ (jW G _) h1
theorem ada(hT:dx C.P T){ty:TypeId}{ps:Array (Nat×Operand)}(a6:∀ i,o.dst=some i->i<C.nt)(ag:o.op=.build ty ps)(Fh:∀ m e,T ty≠.array m e)(h:(bh C.aK T a1 (aT C.aK s.ax) o).run s.ad=some res):cn C o s res:=by
 obtain⟨ps⟩:=ps;simp only[bh,ag]at h;split at h
 ·rename_i t aG;have cU:=hT.bO aG (by simp);split at h
  ·rename_i cs oR;simp only[bz,aq.bx,Option.some.injEq]at h;subst h;refine cn.pure (by grind) a6 λa w κ F G aY _=>?_;obtain⟨eA,i_⟩:=cU.st;obtain⟨i,z,h1,h2,h3,aR,bw,cZ⟩:=kh cU.kg;obtain⟨c,e,n7,z2⟩:=uS (P:=C.P) (H:=s.ad) (κ:=κ) (F:=F) (w:=w) (.st t) bw;rw[List.append_nil]at e;have adb:=cU.ac9 i_;have an:=ChangeMaps.mapM_total (f:=λ(f:Field)=>(C.P.info? f.type).map λi=>(f.offset,i.size)) (0,0) (l:=eA.toList) (λf ar=>by
    obtain⟨s',rR⟩:=adb f ar;obtain⟨kV,_,y8,_⟩:=kh rR.kg;simp_all)
   have rQ:=run_places (P:=C.P) w eA.toList _ an;obtain⟨cP,aO,aP⟩:=Rt (w:=w) cU i_ (place:=λj=>((eA.toList.map λf=>((C.P.info? f.type).map λi=>(f.offset,i.size)).getD (0,0)))[j]?)
    (λj f s' aC rR=>by
     obtain⟨kV,_,y8,wS,_⟩:=kh rR.kg;grind)
    _ _ (by rw[e];exact z2) oR (by simp[il]) (JY G ps aY)
   have hlen:cs.length=cP.size:=by simpa using aP.len
   refine⟨.agg cP,?_,cP.toList,by simp,by grind,λj aC=>?_⟩
   ·have JZ:(eA.mapM λf=>do pure (f.offset,<-sizeOf f.type):Sem (Array (Nat×Nat))).run C.P w=.ok (eA.toList.map λf=>((C.P.info? f.type).map λi=>(f.offset,i.size)).getD (0,0)).toArray w:=by
     rw[Array.mapM_eq_mapM_toList];simp[rQ]
    simp only[execOp,ag,Instr.build,Sem.run_bind,qE h1 aR,Result.andThen_ok,di i_,JZ];simp_all
   ·have:=aP.kz j aC;omega
  ·cases h
 ·rename_i aG;exact absurd aG (Fh _ _)
 ·cases h
end
end Go.Fer
namespace Go.Fer
open Go.RowKit
section
variable {C:bS} {T:Nat->af} {a1:Nat->Option aJ} {o:Oper} {s:ay} {res:d'}
theorem J0{P:Program}{w w':World}{t:af}{id:TypeId}(h:bQ P t id){p:Addr}{v:Value}(bW:v.cells.size=t.size)(hs:(storeCells p v.cells.toList).run P w=.ok () w'):(storeVar id p v).run P w=.ok () w':=by
 simp[storeVar,h.size,bW,hs]
theorem ade(hT:dx C.P T){ty:TypeId}{x y:Operand}(a6:o.dst=none)(ag:o.op=.store ty x y)(h:(bh C.aK T a1 (aT C.aK s.ax) o).run s.ad=some res):cn C o s res:=by
 simp only[bh,ag]at h;split at h
 ·rename_i cf b g i hx;unfold JK at h;split at h
  ·rename_i aZ g' aM;simp only[aq.eI,aq.bx]at h;split at h
   ·rename_i e xs kV v bD;split at h
    ·rename_i hc;obtain⟨aA,ai⟩:=hc;simp only[Option.some.injEq]at h;subst h;intro a w κ F Q G aY E;have E:i=kV:=E;subst E;have h1:=(cv G x hx aY.1).2 aA.symm (by rw[bD];rfl);have hv:=cv G y (av:=.own aZ g') (p:=(use (aT C.aK s.ax y)).1) (by rw[<-aM]) aY.2;have aN:=G.bp b;unfold cg at aN;rw[bD]at aN h1;obtain⟨h0,cs,hH,c1,c2,c3,c4,c5,lu,n6,wQ⟩:=aN;have cU:=hT.bO (t:=T ty) rfl (by intro e;rw[e]at ai;cases ai);have tj:=EU hv.1.2;have bW:(a.eval y).cells.size=(T ty).size:=by
      rw[tj];cases aG:T ty<;>simp_all[af.ee,af.size]
     have kX:(κ b).off+i<cs.size:=by
      have:i<(κ b).cap:=by omega
      rw[c5.1]at c2;omega
     have hp:a.eval x=.pointer (some ⟨(κ b).ad,(κ b).off+i,none⟩):=by rw[h1.2.2];simp[bB.eH,c5.1]
     obtain⟨w',cP,bR,cp,dX,lx,ly,l3⟩:=uY (P:=C.P) (a.eval y).cells.toList ((κ b).off+i) 0 w cs c1 (by rw[tj];simp;omega) (λu hu=>by rw[tj]at hu;simp at hu;rw[hu];exact hv.1.2);refine E' (w':=w') (by grind) (by simp[execOp,ag,hp,Instr.storeAt,Instr.sureAddr,J0 cU bW bR]) ?_;rw[a6];refine⟨κ,F,?_⟩;have fV:e6 s.ad κ (λq=>if q=b then (⟨(s.ad b).gen,.fQ e xs i (.own aZ g')⟩:bu) else s.ad q) κ:=
      qA rfl (λh=>by cases h) (λ_=>by rw[bD];exact⟨rfl,rfl,rfl⟩) (λh=>by cases h) (λh=>by cases h)
     refine (G.oO (b:=b) (x:=⟨(s.ad b).gen,.fQ e xs i (.own aZ g')⟩) (by rw[bD];simp[bB.bJ,h0]) (by simp[bB.bJ,h0]) fV (λh=>by cases h) (λh=>by cases h) lx ly l3 λH mB b4 he=>?_);rw[tj]at dX;simp only[Nat.add_zero]at dX;have eB:∀ k,cP[k]?=if k=(κ b).off+i then some (a.eval y) else cs[k]?:=by
      intro k;rw[<-Array.getElem?_toList,dX];have kB:(cs.toList.take ((κ b).off+i)).length=(κ b).off+i:=by rw[List.length_take,Array.length_toList];omega
      rcases Nat.lt_trichotomy k ((κ b).off+i) with ao | ao | ao
      ·rw[if_neg (by omega),List.getElem?_append_left (by omega),List.getElem?_take_of_lt ao,Array.getElem?_toList]
      ·rw[if_pos ao,List.getElem?_append_right (by omega),kB,ao];simp
      ·rw[if_neg (by omega),List.getElem?_append_right (by omega),kB,List.getElem?_append_right (by simp;omega),List.getElem?_drop];simp only[List.length_cons,List.length_nil];rw[show (κ b).off+i+(0+1)+(k - ((κ b).off+i) - (0+1))=k from by omega,Array.getElem?_toList]
     have Fi:cP.size=cs.size:=by
      rw[<-Array.length_toList,dX];grind
     have y9:cP.getD ((κ b).off+i) Go.undef=a.eval y:=by
      rw[Array.getD_eq_getD_getElem?,eB];simp
     refine⟨h0,cP,hH,cp,by omega,c3,c4,c5,λj aC qz=>?_,by rw[y9];exact bl.later b4 (λ_ G=>G) he hv,by rw[y9];exact hv.1.2⟩;obtain⟨a_,d1,d2⟩:=lu j aC qz;refine⟨a_,λq bf=>?_,eS e (λ_ G=>G) he d2⟩;have tn:q=0:=by have:=hC e d2;omega
     subst tn;rw[eB,if_neg (by rw[c5.1];omega)];exact d1 0 bf
    ·cases h
   ·cases h
  ·cases h
 rename_i cf dD adf hx;simp only[aq.eJ,Option.bind_eq_some_iff,aq.bx,Option.some.injEq]at h;obtain⟨wl,lz,rfl⟩:=h;have J1:cf=(use (aT C.aK s.ax x)).1:=by rw[hx]
 have Fj:dD=(use (aT C.aK s.ax x)).2:=by rw[hx]
 subst J1;subst Fj;clear hx adf;intro a w κ F Q G aY _;have hp:bl C.P s.ad κ F w (use (aT C.aK s.ax x)).2 (a.eval x):=cv G x rfl aY.1;have hv:bl C.P s.ad κ F w (use (aT C.aK s.ax y)).2 (a.eval y):=cv G y rfl aY.2;generalize (use (aT C.aK s.ax x)).2=adg at *
 generalize (use (aT C.aK s.ax y)).2=kj at *
 have au:∀ c,o.op≠.defer c:=by grind
 have fin:∀ w',(Instr.storeAt ty (a.eval x) (a.eval y)).run C.P w=.ok () w'->b9 C (s.fK wl) a w'->o.wpIn (dw C.r) 0 C.P a w (λa' w'=>b9 C (s.hR o.dst ⟨(use (aT C.aK s.ax x)).1/\(use (aT C.aK s.ax y)).1,True,.undef,wl⟩) a' w') Q:=by
  intro w' h1 h2;refine E' (w':=w') au (by simp[execOp,ag,h1]) ?_;rw[a6];exact h2
 unfold Q4 at lz;cases adg with
 | loc b g off=>
  simp only[aq.eI,aq.bx]at lz;split at lz
  ·rename_i aA;split at lz
   ·rename_i n f bD;simp only[Option.bind_eq_some_iff]at lz;obtain⟨l,ai,lz⟩:=lz;split at lz
    ·rename_i hc;simp only[Option.some.injEq]at lz;subst lz;have adh:=hp.2 aA.symm (by rw[bD];rfl);have ik:=JX ai hv;have aN:=G.bp b;unfold cg at aN;rw[bD]at aN;obtain⟨cs,hH,c1,c2,c3⟩:=aN;have hlen:=ik.len;have ny:∀ u∈(a.eval y).cells.toList,u.oneCell'=true:=by
      intro u hu;obtain⟨i,E,rfl⟩:=List.mem_iff_getElem.1 hu;have:=(ik.kz i (by omega)).2;grind
     obtain⟨w',cP,bR,cp,dX,lx,ly,l3⟩:=uY (P:=C.P) (a.eval y).cells.toList off 0 w cs c1 (by omega) ny;have bW:(a.eval y).cells.size=(T ty).size:=by grind
     have uZ:T ty≠.cz:=by
      intro e;rw[e]at ai;cases kj<;>simp[cellsOf,af.ee]at ai
     refine fin w' (by rw[adh];simp[Instr.storeAt,Instr.sureAddr,J0 (hT.bO rfl uZ) bW bR]) ⟨κ,F,?_⟩;have fV:e6 s.ad κ (λi=>if i=b then (⟨(s.ad b).gen,.cells n (putCells f off l)⟩:bu) else s.ad i) κ:=
      qA rfl (λ_=>by rw[bD];rfl) (λh=>by cases h) (λh=>by cases h) (λh=>by cases h)
     refine (G.oO (b:=b) (x:=⟨(s.ad b).gen,.cells n (putCells f off l)⟩) (by rw[bD];rfl) rfl fV (λ_=>by rw[bD];rfl) (λh=>by cases h) lx ly l3 λH mB b4 he=>?_);have Fi:cP.size=n.size:=by
      rw[<-Array.length_toList,dX];grind
     refine⟨cP,hH,cp,Fi,λi E=>?_⟩;have e0:cP.getD i Go.undef=cP.toList.getD i Go.undef:=by simp
     rw[e0,dX];have kC:l.length=(a.eval y).cells.toList.length:=hlen;simp only[Nat.add_zero];have kB:(cs.toList.take off).length=off:=by grind
     unfold putCells;by_cases hin:off<=i/\i<off+l.length
     ·rw[if_pos hin];have e1:(cs.toList.take off++((a.eval y).cells.toList++cs.toList.drop (off+(a.eval y).cells.toList.length))).getD i Go.undef=(a.eval y).cells.toList.getD (i - off) Go.undef:=by
       grind
      rw[e1];have:=ik.kz (i - off) (by omega);exact⟨bl.later b4 (λ_ G=>G) he this.1,this.2⟩
     ·rw[if_neg hin];have e1:(cs.toList.take off++((a.eval y).cells.toList++cs.toList.drop (off+(a.eval y).cells.toList.length))).getD i Go.undef=cs.getD i Go.undef:=by
       rcases Nat.lt_or_ge i off with h1 | h1
       ·rw[List.getD_eq_getElem?_getD,List.getElem?_append_left (by omega)];simp_all
       ·rw[List.getD_eq_getElem?_getD,List.getElem?_append_right (by omega),kB,List.getElem?_append_right (by omega),List.getElem?_drop];rw[show off+(a.eval y).cells.toList.length+(i - off - (a.eval y).cells.toList.length)=i from by omega];simp
      rw[e1];exact⟨bl.later b4 (λ_ G=>G) he (c3 i E).1,(c3 i E).2⟩
    grind
   grind
  grind
 | n0 b g i off=>
  simp only[aq.eJ,Option.bind_eq_some_iff,aq.run_bind,aq.eI,aq.bx]at lz;obtain⟨⟨z,l⟩,bb,lz⟩:=lz;split at lz
  ·rename_i aA;obtain⟨aA,pR⟩:=aA;have pR:b ∉ l:=by grind
   split at lz
   ·rename_i e xs bD;simp only[Option.map_eq_some_iff]at lz;obtain⟨l4,y7,rfl⟩:=lz;obtain⟨jw,pS,l5⟩:=hp.2 aA.symm (by rw[bD];rfl);rw[bD]at jw l5;simp only[bB.len,bB.eH]at jw l5;obtain⟨F',f1,aW,f2⟩:=bc.kW (mA bb) G;have u0:=l1 G.bp f1 bb f2 hv;have J2:((s.cc l).ad b)=s.ad b:=by simp[ay.cc,pR]
    have aN:=aW.bp b;unfold cg at aN;rw[J2,bD]at aN;obtain⟨cs,hH,c1,c2,c3,c4,c5⟩:=aN.2 pS;obtain⟨a_,d1,d2⟩:=c5 i jw;have JR:xs.getD i e.cO=xs[i]:=by grind
    rw[JR]at y7;have u1:=hC e d2;obtain⟨c7,q2,q3,bf,aw9,aw_,adi⟩:=acx e d2 y7 u0.2;have uZ:T ty≠.cz:=by
     intro aS;have:=u0.1;rw[aS]at this;exact this
    have wT:(a.eval y).cells.toList.length=(T ty).size:=u0.1.len;have BY:(i+1)*e.size<=(κ b).cap*e.size:=Nat.mul_le_mul_right _ (by omega);have hbound:off+(T ty).size<=e.size:=by
     grind
    have ny:∀ u∈(a.eval y).cells.toList,u.oneCell'=true:=by
     intro u hu;have ik:=yS (P:=C.P) (H:=λ_=>⟨0,.ff⟩) (κ:=λ_=>⟨0,0,0,true⟩) (T ty) u0.2;obtain⟨j,aC,rfl⟩:=List.mem_iff_getElem.1 hu;have:=(ik.kz j (by rw[ik.len];exact aC)).2;grind
    have kX:(κ b).off+i*e.size+off+0+(a.eval y).cells.toList.length<=cs.size:=by
     grind
    obtain⟨w',cP,bR,cp,dX,lx,ly,l3⟩:=uY (P:=C.P) (a.eval y).cells.toList ((κ b).off+i*e.size+off) 0 w cs c1 kX ny;refine fin w' (by rw[l5];simp[Instr.storeAt,Instr.sureAddr,J0 (hT.bO rfl uZ) (by omega) bR]) ⟨κ,F',?_⟩;have oV:s.fK ((jt l).run s.ad++[(b,⟨(s.ad b).gen,.a8 e (xs.set i l4)⟩)])=(s.cc l).b' b ⟨(s.ad b).gen,.a8 e (xs.set i l4)⟩:=by
     rw[BU,tk]
    rw[oV];have fV:e6 (s.cc l).ad κ (λkV=>if kV=b then (⟨(s.ad b).gen,.a8 e (xs.set i l4)⟩:bu) else (s.cc l).ad kV) κ:=
     qA (by grind) (λh=>by cases h) (λ_=>by rw[J2,bD];exact⟨rfl,by simp[bB.len],rfl⟩) (λh=>by cases h) (λh=>by cases h)
    have Rv:(κ b).eL=false:=pS;refine aW.oO (b:=b) (x:=⟨(s.ad b).gen,.a8 e (xs.set i l4)⟩) (by rw[J2,bD];simp[bB.bJ,Rv]) (by simp[bB.bJ,Rv]) fV (λh=>by cases h) (λh=>by cases h) lx ly l3 λH mB b4 he=>?_;refine⟨λaz=>(by grind),λ_=>?_⟩;have Fi:cP.size=cs.size:=by
     rw[<-Array.length_toList,dX];grind
    refine⟨cP,hH,cp,by omega,by grind,c4,λj aC=>?_⟩;have fA:j<xs.length:=by grind
    simp only[Nat.add_zero]at dX kX;have eB:∀ k,cP[k]?=if (κ b).off+i*e.size+off<=k/\k<(κ b).off+i*e.size+off+(T ty).size then (a.eval y).cells.toList[k - ((κ b).off+i*e.size+off)]? else cs[k]?:=by
     intro k;rw[<-Array.getElem?_toList,dX];have kB:(cs.toList.take ((κ b).off+i*e.size+off)).length=(κ b).off+i*e.size+off:=by grind
     by_cases hin:(κ b).off+i*e.size+off<=k/\k<(κ b).off+i*e.size+off+(T ty).size
     ·rw[if_pos hin,List.getElem?_append_right (by omega),kB,List.getElem?_append_left (by omega)]
     ·rw[if_neg hin];rcases Nat.lt_or_ge k ((κ b).off+i*e.size+off) with h1 | h1
      ·grind
      ·rw[List.getElem?_append_right (by omega),kB,List.getElem?_append_right (by omega),List.getElem?_drop];rw[show (κ b).off+i*e.size+off+(a.eval y).cells.toList.length+(k - ((κ b).off+i*e.size+off) - (a.eval y).cells.toList.length)=k from by omega];simp
    by_cases qz:j=i
    ·subst qz;have e1:(xs.set j l4)[j]=l4:=by simp
     rw[e1];refine⟨c7++((a.eval y).cells.toList++q3),λk ao=>?_,eS e (λ_ G=>G) he adi⟩;rw[eB];subst bf;simp only[List.length_append]at ao u1;by_cases hin:off<=k/\k<off+(T ty).size
     ·rw[if_pos (by omega)];rw[show (κ b).off+j*e.size+k - ((κ b).off+j*e.size+off)=k - c7.length from by omega];grind
     grind
    ·have e1:(xs.set i l4)[j]=xs[j]:=by grind
     rw[e1];obtain⟨Rw,adj,J3⟩:=c5 j fA;refine⟨Rw,λk ao=>?_,eS e (λ_ G=>G) he J3⟩;rw[eB,if_neg]
     ·grind
     ·have aw':=hC e J3;rcases Nat.lt_or_ge j i with h1 | h1
      ·have:(j+1)*e.size<=i*e.size:=Nat.mul_le_mul_right _ (by omega);grind
      ·have:(i+1)*e.size<=j*e.size:=Nat.mul_le_mul_right _ (by omega);grind
   grind
  grind
 | _=>cases lz
end
end Go.Fer
