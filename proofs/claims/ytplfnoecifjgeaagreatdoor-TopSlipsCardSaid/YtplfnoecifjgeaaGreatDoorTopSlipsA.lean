/- Part 1 of the proof of TopSlips: shallow programs of Go functions, and what they compute. No condition. -/
import Derived.Below
import Derived.OrdersIn
import Derived.RangeFuncCalls
import Derived.RangeFuncSeq
import Derived.Laws.StructEq
import Derived.Laws.Tables
import Derived.ChangeMaps3
noncomputable section
abbrev z1':=List Int
abbrev z2':=List (Int×Int×Int×Int)
abbrev z3':=List (Int×Int×Int)
abbrev z4':=List (Int×Int)
abbrev z5':=List ((Int×Int×Int)×Int)
abbrev z6':=List (Nat×(Nat×Nat))
abbrev z7':=List (Int×Int×Int×Int×Int×Int)
abbrev z8':=List (Nat×Nat)
abbrev z9':=List (Option Nat)
set_option linter.unusedVariables false
set_option linter.unusedSimpArgs false
namespace Go.Fer
@[ext] structure A (an:Type):Type where
 cr:Prop
 bM:an->Prop
namespace A
variable {an β gC D aJ:Type}
def pure(x:an):A an:=⟨True,λy=>y=x⟩
def bind(m:A an)(f:an->A β):A β:=⟨m.cr/\∀ x,m.bM x->(f x).cr,λy=>∃ x,m.bM x/\(f x).bM y⟩
def ae(p:Prop)(m:A an):A an:=⟨p/\m.cr,m.bM⟩
def dR(p:Prop)(x:an):A an:=⟨p,λy=>y=x⟩
def any(p:an->Prop):A an:=⟨∃ x,p x,p⟩
theorem ext'{m n:A an}(E:m.cr<->n.cr)(U:∀ x,m.bM x<->n.bM x):m=n:=by
 cases m;cases n;simp only[A.mk.injEq];grind
@[simp] theorem iX (x:an):(pure x).cr=True:=rfl
@[simp] theorem axv (x y:an):(pure x).bM y=(y=x):=rfl
@[simp] theorem aK (x:an) (f:an->A β):bind (pure x) f=f x:=ext' (by simp[bind,pure]) (by simp[bind,pure])
@[simp] theorem axw (m:A an):bind m pure=m:=ext' (by simp[bind,pure]) (by simp[bind,pure])
theorem bq{p:Prop}(h:p)(m:A an):ae p m=m:=ext' (by simp[ae,h]) (by simp[ae])
@[simp] theorem br (m:A an):ae True m=m:=bq trivial m
theorem Fv(p:Prop)(m:A an)(f:an->A β):bind (ae p m) f=ae p (bind m f):=ext' (by simp[bind,ae,and_assoc]) (by simp[bind,ae])
@[simp] theorem nP (x:an):dR True x=pure x:=rfl
theorem bR{p:Prop}(h:p)(x:an):dR p x=pure x:=ext' (by simp_all) (by simp_all)
theorem dF(p:Prop)(x:an)(f:an->A β):bind (dR p x) f=ae p (f x):=by
 apply ext'
 ·simp[bind,dR,ae]
 ·simp[bind,dR,ae]
theorem Rp{c:Prop}[Decidable c](m n:A an)(f:an->A β):bind (if c then m else n) f=if c then bind m f else bind n f:=by grind
def le(n m:A an):Prop:=m.cr->n.cr/\∀ y,n.bM y->m.bM y
theorem le_refl(m:A an):le m m:=λh=>⟨h,λ_ h=>h⟩
theorem le_trans{a b c:A an}(h:le a b)(k:le b c):le a c:=λaD=>⟨(h (k aD).1).1,λy aT=>(k aD).2 y ((h (k aD).1).2 y aT)⟩
theorem le_of_eq{a b:A an}(h:a=b):le a b:=h ▸ le_refl a
def cy(m:A an)(p:an->Prop):Prop:=m.cr/\∀ y,m.bM y->p y
theorem cy.mono{m:A an}{p q:an->Prop}(h:cy m p)(k:∀ y,p y->q y):cy m q:=⟨h.1,λy aT=>k y (h.2 y aT)⟩
theorem eb{x:an}{p:an->Prop}:cy (pure x) p<->p x:=⟨λh=>h.2 x rfl,λh=>⟨trivial,λ_ e=>e ▸ h⟩⟩
theorem gb{m:A an}{f:an->A β}{p:β->Prop}:cy (bind m f) p<->cy m λx=>cy (f x) p:=
 ⟨λh=>⟨h.1.1,λx ai=>⟨h.1.2 x ai,λy aT=>h.2 y ⟨x,ai,aT⟩⟩⟩,λh=>⟨⟨h.1,λx ai=>(h.2 x ai).1⟩,λy ⟨x,ai,aT⟩=>(h.2 x ai).2 y aT⟩⟩
theorem kP{q:Prop}{m:A an}{p:an->Prop}:cy (ae q m) p<->q/\cy m p:=by
 simp[cy,ae,and_assoc]
inductive W(D aJ:Type) where
 | next (s:D)
 | done (r:aJ)
inductive BT(body:D->A (W D aJ)):D->Prop where
 | mk (s:D) (h:(body s).cr) (k:∀ s',(body s).bM (.next s')->BT body s'):BT body s
inductive y9(body:D->A (W D aJ)):D->aJ->Prop where
 | done (s:D) (r:aJ) (h:(body s).bM (.done r)):y9 body s r
 | next (s s':D) (r:aJ) (h:(body s).bM (.next s')) (k:y9 body s' r):y9 body s r
def loop(body:D->A (W D aJ))(s:D):A aJ:=⟨BT body s,y9 body s⟩
theorem BU(body:D->A (W D aJ))(s:D) :
  loop body s=bind (body s) fun | .next s'=>loop body s' | .done r=>pure r:=by
 apply ext'
 ·constructor
  ·rintro⟨_,h,k⟩;refine⟨h,λx ai=>?_⟩;cases x with
   | next s'=>exact k s' ai
   | done r=>trivial
  ·rintro⟨h,k⟩;exact⟨s,h,λs' aD=>k _ aD⟩
 ·intro r;constructor
  ·rintro (⟨_,_,h⟩ | ⟨_,s',_,h,k⟩)
   ·exact⟨.done r,h,rfl⟩
   ·exact⟨.next s',h,k⟩
  ·rintro⟨x,ai,M⟩;cases x with
   | next s'=>exact .next s s' r ai M
   | done p8=>cases M;exact .done s _ ai
theorem y_{body:D->A (W D aJ)}{s s':D}(h:body s=pure (.next s')):loop body s=loop body s':=by
 rw[BU,h,aK]
theorem r6{body:D->A (W D aJ)}{s:D}{r:aJ}(h:body s=pure (.done r)):loop body s=pure r:=by
 rw[BU,h,aK]
theorem acX{body:D->A (W D aJ)}{res:aJ}(I:D->Prop)(wZ:D->Nat)
  (round:∀ s,I s->(∃ s',body s=pure (.next s')/\I s'/\wZ s'<wZ s)\/body s=pure (.done res)) (s:D) (h:I s) :
  loop body s=pure res:=by
 have key:∀ n s,wZ s=n->I s->loop body s=pure res:=by
  intro n;induction n using Nat.strongRecOn with
  | _ n aL=>
   intro s ax aD;rcases round s aD with⟨s',e,eB,ch⟩ | e
   ·rw[y_ e];grind
   ·exact r6 e
 grind
theorem BV{body:D->A (W D aJ)}{p:aJ->Prop}(I:D->Prop)(wZ:D->Nat)
  (round:∀ s,I s->cy (body s) fun | .next s'=>I s'/\wZ s'<wZ s | .done r=>p r) (s:D) (h:I s):cy (loop body s) p:=by
 have key:∀ n s,wZ s=n->I s->cy (loop body s) p:=by
  intro n;induction n using Nat.strongRecOn with
  | _ n aL=>
   intro s ax aD;rw[BU,gb];refine (round s aD).mono λy aT=>?_;cases y with
   | next s'=>grind
   | done r=>exact eb.2 aT
 grind
end A
end Go.Fer
namespace Go.Fer
def Rq(b:Nat)(c:Nat->Option Value):Prop:=
 match b with
 | 0=>∃ m,c 0=some (.int .i64 m)
 | 1 | 2=>∃ v,c 0=some v/\(v=.nilIface\/∃ lQ mi,v=.iface lQ mi)
 | 5=>∀ i,c i=if i<20 then some (.int .u64 (10 ^ i)) else none
 | _=>True
end Go.Fer
namespace Go.Fer
open Go.RowKit
inductive ad where
 | bool | int (k:IntKind) | str | cU
 | st (t:ad) | aB (a b:ad)
 | slice (e:ad) | array (n:Nat) (e:ad) | bG (e:ad) | map (k v:ad) | fn (a b:ad) | ct (a:ad) | et
 deriving DecidableEq
@[reducible] def ad.aj:ad->Type
 | .bool=>Bool
 | .int _=>Int
 | .str=>List UInt8
 | .cU=>Unit
 | .st t=>t.aj
 | .aB a b=>a.aj×b.aj
 | .slice e=>List e.aj
 | .array _ e=>List e.aj
 | .bG e=>Option e.aj
 | .map k v=>List (k.aj×v.aj)
 | .fn a b=>a.aj->A b.aj
 | .ct a=>List a.aj->Prop
 | .et=>Option Nat
def ad.df:(t:ad)->t.aj
 | .bool=>false
 | .int _=>(0:Int)
 | .str=>[]
 | .cU=>()
 | .st t=>t.df
 | .aB a b=>(a.df,b.df)
 | .slice _=>[]
 | .array n e=>List.replicate n e.df
 | .bG _=>none
 | .map _ _=>[]
 | .fn _ _=>λ_=>⟨False,λ_=>False⟩
 | .ct _=>λ_=>False
 | .et=>none
def ad.size:ad->Nat
 | .cU=>0
 | .st t=>t.size
 | .aB a b=>a.size+b.size
 | .array n e=>n*e.size
 | _=>1
def ad.eG:ad->Bool
 | .cU | .st _ | .aB _ _ | .array _ _=>false
 | _=>true
def fU(k:IntKind)(n:Int):Prop:=k.min<=n/\n<=k.max
instance (k:IntKind) (n:Int):Decidable (fU k n):=inferInstanceAs (Decidable (_/\_))
def Holds(F:Nat->Prop)(w:World)(p:Addr)(cs:List Value):Prop:=
 F p.block/\p.spot=none/\∀ j (h:j<cs.length),w.cell? ⟨p.block,p.off+j,none⟩=some cs[j]
def c8(F:Nat->Prop)(w w':World):Prop:=w.heap.size<=w'.heap.size/\∀ r,F r->w'.heap[r]?=w.heap[r]?
theorem c8.refl(F:Nat->Prop)(w:World):c8 F w w:=⟨Nat.le_refl _,λ_ _=>rfl⟩
theorem c8.trans{F F':Nat->Prop}{a b c:World}(h:c8 F a b)(bo:∀ r,F r->F' r)(k:c8 F' b c):c8 F a c:=
 ⟨Nat.le_trans h.1 k.1,λr M=>(k.2 r (bo r M)).trans (h.2 r M)⟩
theorem c8.cell{F:Nat->Prop}{w w':World}(h:c8 F w w'){a:Addr}(a_:F a.block):w'.cell? a=w.cell? a:=by
 simp only[World.cell?,h.2 _ a_]
def nQ(P:Program)(F:Nat->Prop)(w:World):Prop:=∀ b,b<P.globals.size->F b/\Rq b λi=>w.cell? ⟨b,i,none⟩
theorem nQ.mono{P:Program}{F F':Nat->Prop}{w w':World}(h:nQ P F w)(bo:∀ r,F r->F' r)(he:c8 F w w'):nQ P F' w':=λb aa=>by
 obtain⟨E,U⟩:=h b aa;have e:(λi=>w'.cell? ⟨b,i,none⟩)=λi=>w.cell? ⟨b,i,none⟩:=funext λi=>he.cell (a:=⟨b,i,none⟩) E;exact⟨bo b E,e ▸ U⟩
theorem Holds.mono{F F':Nat->Prop}{w w':World}{p:Addr}{cs:List Value}(h:Holds F w p cs)(bo:∀ r,F r->F' r)(he:c8 F w w'):Holds F' w' p cs:=
 ⟨bo _ h.1,h.2.1,λj aG=>(he.cell (a:=⟨p.block,p.off+j,none⟩) h.1).trans (h.2.2 j aG)⟩
def kQ:ad->Value->Prop
 | .st t,v=>∃ cs:Array Value,v=.agg cs/\cs.size=t.size
 | .array n e,v=>∃ cs:Array Value,v=.agg cs/\cs.size=n*e.size
 | .cU,_=>False
 | .aB _ _,_=>False
 | _,v=>v.cells=#[v]
def ei(aE:List Value):List Value:=aE.flatMap (·.cells.toList)
@[simp] theorem BW:ei []=[]:=rfl
@[simp] theorem J1 (v:Value) (aE:List Value):ei (v::aE)=v.cells.toList++ei aE:=rfl
def w1:ad->List Value->Prop
 | .aB a b,v::aE=>kQ a v/\w1 b aE
 | .aB _ _,[]=>False
 | .cU,aE=>aE=[]
 | t,aE=>∃ v,aE=[v]/\kQ t v
def y':ad->Value->List Value->Prop
 | .aB _ _,v,aE=>v=.tuple aE.toArray
 | .cU,v,aE=>v=.tuple #[]/\aE=[]
 | _,v,aE=>aE=[v]
def u9(F:Nat->Prop)(w w':World):Nat->Prop:=λr=>F r\/(w.heap.size<=r/\r<w'.heap.size)
structure Fw(P:Program){an:Type}(R:(Nat->Prop)->World->List Value->an->Prop)(l:Nat)(S:List an->Prop)(I:List an->Bool->(Nat->Prop)->(Nat->Prop)->World->Prop):Prop where
 BX:∀ {pre st} {F F' Y:Nat->Prop} {w w':World},I pre st F Y w->(∀ r,F r->F' r)->(∀ r,F r\/Y r->w'.heap[r]?=w.heap[r]?)->w.heap.size<=w'.heap.size->w'.os=w.os/\w'.tape=w.tape/\w'.output=w.output->(∀ r,F' r->r<w'.heap.size)->(∀ r,F' r->¬Y r)->I pre st F' Y w'
 yield:∀ {pre} {F Y:Nat->Prop} {w:World} {args:List Value} {x:an},I pre false F Y w->(∀ r,F r->r<w.heap.size)->(∀ r,Y r->r<w.heap.size/\¬F r)->(∃ T,S (pre++x::T))->R F w args x->
  YieldAt Fence.wide 0 P l args.toArray w λe w'=>∃ (b:Bool) (F' gD:Nat->Prop),e=.returned (.bool b)/\(∀ r,F r->F' r)/\(∀ r,F' r->F r\/Y r\/w.heap.size<=r)/\(∀ r,F' r->r<w'.heap.size)/\
   (∀ r,r<w.heap.size->¬Y r->w'.heap[r]?=w.heap[r]?)/\(∀ r,gD r->(Y r\/w.heap.size<=r)/\r<w'.heap.size/\¬F' r)/\w.heap.size<=w'.heap.size/\(w'.os=w.os/\w'.tape=w.tape/\w'.output=w.output)/\I (pre++[x]) (!b) F' gD w'
def Rr{an:Type}(S:List an->Prop)(I:List an->Bool->(Nat->Prop)->(Nat->Prop)->World->Prop)(F Y:Nat->Prop)(w:World)(e:Ending)(w':World):Prop:=
 ∃ v pre st F' gD,e=.returned v/\(st=false->S pre)/\I pre st F' gD w'/\(∀ r,F r->F' r)/\(∀ r,F' r->F r\/Y r\/w.heap.size<=r)/\(∀ r,F' r->r<w'.heap.size)/\
  (∀ r,r<w.heap.size->¬Y r->w'.heap[r]?=w.heap[r]?)/\(∀ r,gD r->(Y r\/w.heap.size<=r)/\r<w'.heap.size/\¬F' r)/\w.heap.size<=w'.heap.size/\(w'.os=w.os/\w'.tape=w.tape/\w'.output=w.output)
def acY:Option Nat->Value
 | none=>.nilFunc
 | some k=>.func (.func k) #[] #[]
def bI(P:Program):(t:ad)->(Nat->Prop)->World->List Value->t.aj->Prop
 | .bool,_,_,cs,x=>cs=[.bool x]
 | .int k,_,_,cs,x=>cs=[.int k x]/\fU k x
 | .str,_,_,cs,x=>cs=[.string ⟨x.toArray⟩]/\x.length<2 ^ 63
 | .cU,_,_,cs,_=>cs=[]
 | .st t,F,w,cs,x=>bI P t F w cs x
 | .aB a b,F,w,cs,x=>∃ c d,cs=c++d/\bI P a F w c x.1/\bI P b F w d x.2
 | .slice e,F,w,cs,xs=>∃ a cap,cs=[.slice a xs.length cap]/\xs.length<=cap/\cap<2 ^ 63/\(a=none->cap=0)/\
   ∀ p,a=some p->0<cap->F p.block/\p.spot=none/\∀ i (h:i<xs.length),∃ bk,Holds F w ⟨p.block,p.off+i*e.size,none⟩ bk/\bI P e F w bk xs[i]
 | .array n e,F,w,cs,xs=>∃ fq:List (List Value),cs=fq.flatten/\fq.length=n/\xs.length=n/\∀ i (h:i<xs.length) (dw:i<fq.length),bI P e F w fq[i] xs[i]
 | .bG e,F,w,cs,x=>(cs=[.pointer none]/\x=none)\/∃ p y bk,cs=[.pointer (some p)]/\x=some y/\Holds F w p bk/\bI P e F w bk y
 | .map k v,F,w,cs,xs=>(cs=[.map none]/\xs=[])\/∃ r es clk,cs=[.map (some r)]/\F r/\w.heap[r]?=some (.map es clk)/\es.size=xs.length/\(xs.map (·.1)).Nodup/\
   (∀ i (h:i<xs.length) (dw:i<es.size),kQ k es[i].key/\bI P k F w es[i].key.cells.toList xs[i].1/\kQ v es[i].val/\bI P v F w es[i].val.cells.toList xs[i].2/\es[i].born<clk)/\
   (∀ i j (h:i<es.size) (dw:j<es.size),es[i].born=es[j].born->i=j)
 | .fn a b,F,w,cs,f=>∃ u,cs=[u]/\(u.cells=#[u]/\u.oneCell'=true)/\∀ (F':Nat->Prop) (w':World),(∀ r,F r->F' r)->c8 F w w'->(∀ r,F' r->r<w'.heap.size)->nQ P F' w'->
   ∀ args x,w1 a args->bI P a F' w' (ei args) x->(f x).cr->∃ g c6,u=.func (.func g) #[] c6/\(∀ as w,(callFunc g as).run P w=.ok (.enter g as) w)/\
    Calls P g (args.toArray++c6) w' λe tw=>∃ v y aE,e=.returned v/\(f x).bM y/\y' b v aE/\w1 b aE/\bI P b (u9 F' w' tw) tw (ei aE) y/\Below w'.heap.size w' tw
 | .ct a,F,w,cs,S=>∃ u,cs=[u]/\(u.cells=#[u]/\u.oneCell'=true)/\∀ (F':Nat->Prop) (w':World),(∀ r,F r->F' r)->c8 F w w'->(∀ r,F' r->r<w'.heap.size)->nQ P F' w'->
   (∃ L,S L)->∃ g c6,u=.func (.func g) #[] c6/\(∀ as w,(callFunc g as).run P w=.ok (.enter g as) w)/\
    ∀ (l:Nat) (I:List a.aj->Bool->(Nat->Prop)->(Nat->Prop)->World->Prop) (Y:Nat->Prop),(∀ r,Y r->r<w'.heap.size/\¬F' r)->
     Fw P (λF w args x=>w1 a args/\bI P a F w (ei args) x) l S I->I [] false F' Y w'->Calls P g (#[Value.func (.yield l) #[] #[]]++c6) w' (Rr S I F' Y w')
 | .et,_,_,cs,x=>cs=[acY x]
theorem hT{P:Program}:∀ (t:ad) {F:Nat->Prop} {w:World} {cs:List Value} {x:t.aj},bI P t F w cs x->cs.length=t.size:=by
 intro t;induction t with
 | bool=>intro F w cs x h;simp only[bI]at h;simp[h,ad.size]
 | int k=>intro F w cs x h;simp only[bI]at h;simp[h.1,ad.size]
 | str=>intro F w cs x h;simp only[bI]at h;simp[h.1,ad.size]
 | cU=>intro F w cs x h;simp only[bI]at h;simp[h,ad.size]
 | st t aL=>intro F w cs x h;simp only[bI]at h;exact aL h
 | aB a b fC eM=>
  intro F w cs x h;simp only[bI]at h;obtain⟨c,d,rfl,a_,aa⟩:=h;simp[ad.size,fC a_,eM aa]
 | slice e aL=>intro F w cs x h;simp only[bI]at h;obtain⟨a,cap,rfl,_⟩:=h;rfl
 | array n e aL=>
  intro F w cs x h;simp only[bI]at h;obtain⟨fq,rfl,E,U,ah⟩:=h;have:∀ l∈fq,l.length=e.size:=by
   intro l al;obtain⟨i,G,rfl⟩:=List.mem_iff_getElem.1 al;grind
  have a6:fq.map List.length=List.replicate n e.size:=by
   rw[<-E];exact List.eq_replicate_iff.2 ⟨by simp,by grind⟩
  simp[List.length_flatten,a6,ad.size]
 | bG e aL=>intro F w cs x h;simp only[bI]at h;rcases h with⟨rfl,_⟩ | ⟨p,y,bk,rfl,_⟩<;>rfl
 | map k v w2 w3=>intro F w cs x h;simp only[bI]at h;rcases h with⟨rfl,_⟩ | ⟨r,es,clk,rfl,_⟩<;>rfl
 | fn a b fC eM=>intro F w cs x h;simp only[bI]at h;obtain⟨u,rfl,_⟩:=h;rfl
 | ct a aL=>intro F w cs x h;simp only[bI]at h;obtain⟨u,rfl,_⟩:=h;rfl
 | et=>intro F w cs x h;simp only[bI]at h;subst h;rfl
theorem fg{P:Program}:∀ (t:ad) {F F':Nat->Prop} {w w':World} {cs:List Value} {x:t.aj},(∀ r,F r->F' r)->c8 F w w'->bI P t F w cs x->bI P t F' w' cs x:=by
 intro t;induction t with
 | bool=>intro F F' w w' cs x _ _ h;exact h
 | int k=>intro F F' w w' cs x _ _ h;exact h
 | str=>intro F F' w w' cs x _ _ h;exact h
 | cU=>intro F F' w w' cs x _ _ h;exact h
 | st t aL=>intro F F' w w' cs x bo he h;simp only[bI]at h ⊢;grind
 | aB a b fC eM=>
  intro F F' w w' cs x bo he h;simp only[bI]at h ⊢;grind
 | slice e aL=>
  intro F F' w w' cs x bo he h;simp only[bI]at h ⊢;obtain⟨a,cap,rfl,E,U,ah,a6⟩:=h;refine⟨a,cap,rfl,E,U,ah,λp aq hc=>?_⟩;obtain⟨aQ,aS,bN⟩:=a6 p aq hc;refine⟨bo _ aQ,aS,λi G=>?_⟩;obtain⟨bk,m1,m2⟩:=bN i G;exact⟨bk,m1.mono bo he,aL bo he m2⟩
 | array n e aL=>
  intro F F' w w' cs x bo he h;simp only[bI]at h ⊢;grind
 | bG e aL=>
  intro F F' w w' cs x bo he h;simp only[bI]at h ⊢;rcases h with h | ⟨p,y,bk,E,U,ah,a6⟩
  ·grind
  ·exact .inr ⟨p,y,bk,E,U,ah.mono bo he,aL bo he a6⟩
 | map k v w2 w3=>
  intro F F' w w' cs x bo he h;simp only[bI]at h ⊢;rcases h with h | ⟨r,es,clk,E,U,ah,a6,bL,dv,gl⟩
  ·grind
  ·refine .inr ⟨r,es,clk,E,bo _ U,(he.2 _ U).trans ah,a6,bL,λi G dM=>?_,gl⟩;grind
 | fn a b fC eM=>
  intro F F' w w' cs x bo he h;simp only[bI]at h ⊢;obtain⟨u,rfl,hu,E⟩:=h;exact⟨u,rfl,hu,λJ2 tw tx BY aD=>E J2 tw (λr M=>tx r (bo r M)) (he.trans bo BY) aD⟩
 | ct a aL=>
  intro F F' w w' cs x bo he h;simp only[bI]at h ⊢;obtain⟨u,rfl,hu,E⟩:=h;exact⟨u,rfl,hu,λJ2 tw tx BY aD=>E J2 tw (λr M=>tx r (bo r M)) (he.trans bo BY) aD⟩
 | et=>intro F F' w w' cs x _ _ h;exact h
def eu(P:Program)(t:ad)(F:Nat->Prop)(w:World)(v:Value)(x:t.aj):Prop:=kQ t v/\bI P t F w v.cells.toList x
def fr(P:Program)(t:ad)(F:Nat->Prop)(w:World)(aE:List Value)(x:t.aj):Prop:=w1 t aE/\bI P t F w (ei aE) x
def tz(P:Program)(t:ad)(F:Nat->Prop)(w:World)(v:Value)(x:t.aj):Prop:=∃ aE,y' t v aE/\fr P t F w aE x
theorem eu.mono{P:Program}{t:ad}{F F':Nat->Prop}{w w':World}{v:Value}{x:t.aj}(h:eu P t F w v x)(bo:∀ r,F r->F' r)(he:c8 F w w'):eu P t F' w' v x:=
 ⟨h.1,fg t bo he h.2⟩
theorem Fx{v:Value}(h:v.oneCell'=true):v.cells=#[v]:=by
 cases v<;>first | rfl | cases h
theorem Rs{v:Value}(h:v.cells=#[v]):v.cells.toList=[v]:=by rw[h]
theorem kQ.len{t:ad}{v:Value}(h:kQ t v):v.cells.toList.length=t.size:=by
 cases t<;>simp only[kQ]at h<;>first
  | (obtain⟨cs,rfl,h⟩:=h;simpa [Value.cells,ad.size]using h)
  | (rw[Rs h];rfl)
  | exact h.elim
theorem BZ{P:Program}{a b:ad}{F:Nat->Prop}{w:World}{v:Value}{aE:List Value}{x:a.aj}{y:b.aj} :
  fr P (.aB a b) F w (v::aE) (x,y)<->eu P a F w v x/\fr P b F w aE y:=by
 constructor
 ·rintro⟨⟨E,U⟩,c,d,e,hc,au⟩;have al:=hT a hc;have:=List.append_inj e (by rw[al];exact E.len);rw[J1]at e;obtain⟨az,aN⟩:=this;subst az;subst aN;exact⟨⟨E,hc⟩,U,au⟩
 ·rintro⟨⟨E,U⟩,ah,a6⟩;exact⟨⟨E,ah⟩,_,_,rfl,U,a6⟩
theorem Fy{P:Program}{a b:ad}{F:Nat->Prop}{w:World}{aE:List Value}{x:(ad.aB a b).aj}(h:fr P (.aB a b) F w aE x) :
  ∃ v us,aE=v::us/\eu P a F w v x.1/\fr P b F w us x.2:=by
 cases aE with
 | nil=>exact h.1.elim
 | cons v us=>exact⟨v,us,rfl,BZ.1 h⟩
def ad.gE:ad->Bool
 | .aB _ _ | .cU=>false
 | _=>true
theorem r7{P:Program}{t:ad}(aF:t.gE=true){F:Nat->Prop}{w:World}{aE:List Value}{x:t.aj} :
  fr P t F w aE x<->∃ v,aE=[v]/\eu P t F w v x:=by
 have key:w1 t aE<->∃ v,aE=[v]/\kQ t v:=by cases t<;>simp[ad.gE,w1]at aF ⊢
 unfold fr eu;rw[key];constructor
 ·rintro⟨⟨v,rfl,af⟩,h⟩;exact⟨v,rfl,af,by simpa using h⟩
 ·rintro⟨v,rfl,af,h⟩;exact⟨⟨v,rfl,af⟩,by simpa using h⟩
section
variable {P:Program} {F:Nat->Prop} {w:World} {v:Value}
@[simp] theorem fh {x:Bool}:eu P .bool F w v x<->v=.bool x:=by
 constructor
 ·rintro⟨E,U⟩;simp only[kQ]at E;simp only[bI]at U;rw[Rs E]at U;simpa using U
 ·rintro rfl;exact⟨by simp[kQ,Value.cells],by simp[bI,Value.cells]⟩
theorem gW{k:IntKind}{x:Int}:eu P (.int k) F w v x<->v=.int k x/\fU k x:=by
 constructor
 ·rintro⟨E,U⟩;simp only[kQ]at E;simp only[bI]at U;grind
 ·rintro⟨rfl,h⟩;exact⟨by rfl,by simpa [bI,Value.cells]using h⟩
theorem ml{x:List UInt8}:eu P .str F w v x<->v=.string ⟨x.toArray⟩/\x.length<2 ^ 63:=by
 constructor
 ·rintro⟨E,U⟩;simp only[kQ]at E;simp only[bI]at U;grind
 ·rintro⟨rfl,h⟩;exact⟨by rfl,by simpa [bI,Value.cells]using h⟩
theorem dU{t:ad}(aF:t.eG=true){x:t.aj}:eu P t F w v x<->v.cells=#[v]/\bI P t F w [v] x:=by
 have E:kQ t v<->v.cells=#[v]:=by cases t<;>simp[ad.eG,kQ]at aF ⊢
 unfold eu;grind
theorem J3{t:ad}(aF:t.eG=true){F:Nat->Prop}{w:World}{u:Value}{x:t.aj}(h:bI P t F w [u] x):u.oneCell'=true:=by
 cases t<;>simp only[ad.eG,bI]at aF h<;>try contradiction
 ·obtain rfl:=(List.cons.inj h).1;rfl
 ·obtain rfl:=(List.cons.inj h.1).1;rfl
 ·obtain rfl:=(List.cons.inj h.1).1;rfl
 ·obtain⟨a,cap,h,_⟩:=h;obtain rfl:=(List.cons.inj h).1;rfl
 ·rcases h with⟨h,_⟩ | ⟨p,y,bk,h,_⟩<;>(obtain rfl:=(List.cons.inj h).1;rfl)
 ·rcases h with⟨h,_⟩ | ⟨r,es,clk,h,_⟩<;>(obtain rfl:=(List.cons.inj h).1;rfl)
 ·obtain⟨mT,h,hu,_⟩:=h;obtain rfl:=(List.cons.inj h).1;exact hu.2
 ·obtain⟨mT,h,hu,_⟩:=h;obtain rfl:=(List.cons.inj h).1;exact hu.2
 ·obtain rfl:=(List.cons.inj h).1;cases x<;>rfl
theorem B0{t:ad}(aF:t.eG=true){F:Nat->Prop}{w:World}{cs:List Value}{x:t.aj}(h:bI P t F w cs x):∃ u,cs=[u]/\u.cells=#[u]:=by
 cases t<;>simp only[ad.eG,bI]at aF h<;>try contradiction
 ·exact⟨_,h,rfl⟩
 ·exact⟨_,h.1,rfl⟩
 ·exact⟨_,h.1,rfl⟩
 ·obtain⟨a,cap,rfl,_⟩:=h;exact⟨_,rfl,rfl⟩
 ·rcases h with⟨rfl,_⟩ | ⟨p,y,bk,rfl,_⟩<;>exact⟨_,rfl,rfl⟩
 ·rcases h with⟨rfl,_⟩ | ⟨r,es,clk,rfl,_⟩<;>exact⟨_,rfl,rfl⟩
 ·obtain⟨u,rfl,hu,_⟩:=h;exact⟨u,rfl,hu.1⟩
 ·obtain⟨u,rfl,hu,_⟩:=h;exact⟨u,rfl,hu.1⟩
 ·exact⟨_,h,by cases x<;>rfl⟩
end
structure h8(P:Program)(k:FuncId)(ts aW:ad)(sh:ts.aj->A aW.aj):Prop where
 enter:∀ args w,(callFunc k args).run P w=.ok (.enter k args) w
 iY:∀ (F:Nat->Prop) (w:World) (args:List Value) (x:ts.aj),(∀ r,F r->r<w.heap.size)->nQ P F w->fr P ts F w args x->(sh x).cr->
  Calls P k args.toArray w λe w'=>∃ v y,e=.returned v/\(sh x).bM y/\tz P aW (u9 F w w') w' v y/\Below w.heap.size w w'
structure Rt(P:Program)(k:FuncId)(ts aW:ad)(sh:ts.aj->A aW.aj):Prop where
 iY:∀ (F:Nat->Prop) (w:World) (args:List Value) (x:ts.aj),(∀ r,F r->r<w.heap.size)->nQ P F w->fr P ts F w args x->(sh x).cr->
  Calls P k args.toArray w λe w'=>∃ v y,e=.returned v/\(sh x).bM y/\tz P aW (λr=>w.heap.size<=r/\r<w'.heap.size) w' v y/\Below w.heap.size w w'
def gn:List ad->ad
 | []=>.cU
 | [t]=>t
 | t::u::l=>.aB t (gn (u::l))
def Fz:(as bs:List ad)->(gn as).aj->(gn bs).aj->(gn (as++bs)).aj
 | [],_,_,y=>y
 | [_],[],x,_=>x
 | [_],_::_,x,y=>(x,y)
 | _::u::l,bs,x,y=>(x.1,Fz (u::l) bs x.2 y)
theorem Ru{P:Program}{F:Nat->Prop}{w:World}:∀ (as bs:List ad),as.all ad.gE=true->∀ {aE us:List Value} {x:(gn as).aj} {y:(gn bs).aj},fr P (gn as) F w aE x->fr P (gn bs) F w us y->fr P (gn (as++bs)) F w (aE++us) (Fz as bs x y)
 | [],bs,_,aE,us,x,y,E,U=>by
  obtain rfl:aE=[]:=E.1;exact U
 | [t],[],_,aE,us,x,y,E,U=>by
  obtain rfl:us=[]:=U.1;have e:aE++[]=aE:=List.append_nil aE;rw[e];exact E
 | [t],b::bs,h,aE,us,x,y,E,U=>by
  have aF:t.gE=true:=by grind
  obtain⟨v,rfl,af⟩:=(r7 aF).1 E;exact BZ.2 ⟨af,U⟩
 | t::u::l,bs,h,aE,us,x,y,E,U=>by
  obtain⟨v,r8,rfl,ah,a6⟩:=Fy (a:=t) (b:=gn (u::l)) E;have al:(u::l).all ad.gE=true:=by
   grind
  have:=Ru (u::l) bs al a6 U;exact BZ.2 ⟨ah,this⟩
structure acZ where
 ts:ad
 aW:ad
 sh:ts.aj->A aW.aj
structure FA where
 as:List ad
 cs:List ad
 aW:ad
 sh:(gn (as++cs.map .bG)).aj->A aW.aj
structure w4 where
 cs:List ad
 aM:ad
 S:(gn (cs.map .bG)).aj->List aM.aj->Prop
structure w5(P:Program)(k:FuncId)(v:w4):Prop where
 enter:∀ args w,(callFunc k args).run P w=.ok (.enter k args) w
 iY:∀ (F:Nat->Prop) (w:World) (c6:List Value) (x:(gn (v.cs.map .bG)).aj),(∀ r,F r->r<w.heap.size)->nQ P F w->fr P (gn (v.cs.map .bG)) F w c6 x->(∃ L,v.S x L)->
  ∀ (l:Nat) (I:List v.aM.aj->Bool->(Nat->Prop)->(Nat->Prop)->World->Prop) (Y:Nat->Prop),(∀ r,Y r->r<w.heap.size/\¬F r)->
   Fw P (fr P v.aM) l (v.S x) I->I [] false F Y w->Calls P k (#[Value.func (.yield l) #[] #[]]++c6.toArray) w (Rr (v.S x) I F Y w)
structure dG where
 tA:Nat->Option acZ
 tB:Nat->Option FA
 w6:Nat->Option w4:=λ_=>none
structure qX(P:Program)(aH:dG):Prop where
 tA:∀ k v,aH.tA k=some v->h8 P k v.ts v.aW v.sh
 tB:∀ k v,aH.tB k=some v->v.as.all ad.gE=true/\h8 P k (gn (v.as++v.cs.map .bG)) v.aW v.sh
 w6:∀ k v,aH.w6 k=some v->w5 P k v:=by intro k v h;cases h
theorem ac0{P:Program}{k:FuncId}{ts aW:ad}{sh:ts.aj->A aW.aj}(h:h8 P k ts aW sh)(F:Nat->Prop)(w:World):bI P (.fn ts aW) F w [.func (.func k) #[] #[]] sh:=by
 refine⟨_,rfl,⟨rfl,rfl⟩,λF' w' _ _ aD ay args x E U ah=>⟨k,#[],rfl,h.enter,?_⟩⟩;have:=h.iY F' w' args x aD ay ⟨E,U⟩ ah;simp only[Array.append_empty];exact this.mono λe tw ⟨v,y,az,aN,⟨aE,cL,ee,hv⟩,jF⟩=>⟨v,y,aE,az,aN,cL,ee,hv,jF⟩
end Go.Fer
namespace Go.Fer
open Go.RowKit
inductive aI where
 | undef
 | val (t:ad) (x:t.aj)
 | hF (b:Bool) (a:aI)
 | ba (b g off:Nat)
 | own (b g:Nat)
 | oy (b g i off:Nat)
 | dV (t:ad) (x:t.aj)
 | fJ (b g:Nat)
 | iC (k:FuncId) (n:Nat) (c6:Nat->aI)
 | r9 (k:FuncId) (n:Nat) (first:Nat->aI)
 | p9 (n:Nat) (f:Nat->aI)
 | agg (n:Nat) (f:Nat->aI)
 | cx
 | jG (v:Value)
 | j6 (b g:Nat)
 | aW (l:Nat) (aM:ad) (S:List aM.aj->Prop) (pre:List aM.aj) (st:Bool)
 | hg (l:Nat)
 | sub (b g a1 G:Nat)
 | w7 (e:ad) (xs:List e.aj)
 | ik (b g i:Nat)
inductive bS where
 | fD
 | cells (t:ad) (f:Nat->aI)
 | bh (e:ad) (xs:List e.aj)
 | hG (e:ad) (xs:List e.aj)
 | mp (k v:ad) (es:List (k.aj×v.aj))
 | gL (t:ad) (x:t.aj)
 | jk (k v:ad) (es:List (k.aj×v.aj))
 | ct (k v:ad) (cur:Option (k.aj×v.aj)) (cj:List (k.aj×v.aj))
 | gp (e:ad) (xs:List e.aj) (i:Nat) (v:aI)
structure bK where
 gen:Nat
 body:bS
structure bB where
 ab:Nat
 off:Nat
 cap:Nat
 e_:Bool
structure aC where
 aA:Nat->aI
 ab:Nat->bK
def bS.fK:bS->Bool | .cells _ _=>true | .gL _ _=>true | _=>false
def bS.fi:bS->Bool | .bh _ _=>true | .hG _ _=>true | .gp _ _ _ _=>true | _=>false
def bS.gX:bS->Bool | .mp _ _ _=>true | .jk _ _ _=>true | _=>false
def bS.mU:bS->Bool | .ct _ _ _ _=>true | _=>false
def bS.len:bS->Nat | .bh _ xs=>xs.length | .hG _ xs=>xs.length | .gp _ xs _ _=>xs.length | _=>0
def bS.e4:bS->Nat | .bh e _=>e.size | .hG e _=>e.size | .gp e _ _ _=>e.size | _=>0
def bS.b1(k:bB):bS->Bool | .cells _ _=>true | .bh _ _=>!k.e_ | .mp _ _ _=>true | .ct _ _ _ _=>true | .gp _ _ _ _=>!k.e_ | _=>false
def bB.slice(k:bB)(n:Nat):Value:=if k.e_ then .slice none 0 0 else .slice (some ⟨k.ab,k.off,none⟩) n k.cap
def FB(k:bB)(e4 a1 G:Nat)(v:Value):Prop:=
 (k.e_=true/\v=.slice none 0 0)\/(k.e_=false/\∃ o,v=.slice (some ⟨k.ab,o,none⟩) (G - a1) (k.cap - a1)/\o<=k.off+a1*e4/\(a1<k.cap->o=k.off+a1*e4))
def bA(P:Program)(H:Nat->bK)(κ:Nat->bB)(F:Nat->Prop)(w:World):aI->Value->Prop
 | .undef,_=>True
 | .val t x,v=>eu P t F w v x
 | .hF b a,v=>(b=true->bA P H κ F w a v)/\(b=false->v=Go.undef)
 | .ba b g off,v=>(g<=(H b).gen/\v.oneCell'=true)/\(g=(H b).gen->(H b).body.fK=true->v=.pointer (some ⟨(κ b).ab,off,none⟩))
 | .own b g,v=>(g<=(H b).gen/\v.oneCell'=true)/\(g=(H b).gen->(H b).body.fi=true->v=(κ b).slice (H b).body.len)
 | .oy b g i off,v=>(g<=(H b).gen/\v.oneCell'=true)/\(g=(H b).gen->(H b).body.fi=true->i<(H b).body.len/\(κ b).e_=false/\v=.pointer (some ⟨(κ b).ab,(κ b).off+i*(H b).body.e4+off,none⟩))
 | .ik b g i,v=>(g<=(H b).gen/\v.oneCell'=true)/\(g=(H b).gen->(H b).body.fi=true->i<(H b).body.len/\(κ b).e_=false/\v=.pointer (some ⟨(κ b).ab,(κ b).off+i*(H b).body.e4,none⟩))
 | .dV t x,v=>∃ p bk,v=.pointer (some p)/\Holds F w p bk/\bI P t F w bk x
 | .fJ b g,v=>(g<=(H b).gen/\v.oneCell'=true)/\(g=(H b).gen->(H b).body.gX=true->v=.map (some (κ b).ab))
 | .iC k n c6,v=>∃ aE:List Value,v=.func (.func k) #[] aE.toArray/\aE.length=n/\∀ i,i<n->bA P H κ F w (c6 i) (aE.getD i Go.undef)
 | .r9 k n f,v=>∃ aE:List Value,v=.func (.func k) aE.toArray #[]/\aE.length=n/\∀ i,i<n->bA P H κ F w (f i) (aE.getD i Go.undef)
 | .p9 n f,v=>∃ aE:List Value,v=.tuple aE.toArray/\aE.length=n/\∀ i,i<n->bA P H κ F w (f i) (aE.getD i Go.undef)
 | .agg n f,v=>∃ aE:List Value,v=.agg aE.toArray/\aE.length=n/\∀ i,i<n->bA P H κ F w (f i) (aE.getD i Go.undef)/\(aE.getD i Go.undef).oneCell'=true
 | .cx,v=>v=.slice none 0 0
 | .jG u,v=>v=u
 | .j6 b g,v=>(g<=(H b).gen/\v.oneCell'=true)/\(g=(H b).gen->(H b).body.mU=true->v=.pointer (some ⟨(κ b).ab,0,none⟩))
 | .aW _ _ _ _ _,_=>True
 | .hg l,v=>v=.func (.yield l) #[] #[]
 | .w7 e xs,v=>eu P (.slice e) F w v xs/\∃ q,v=.slice q xs.length xs.length
 | .sub b g a1 G,v=>(g<=(H b).gen/\v.oneCell'=true)/\(g=(H b).gen->(H b).body.fi=true->(a1<=G/\G<=(H b).body.len)/\FB (κ b) (H b).body.e4 a1 G v)
def fs(H:Nat->bK)(κ:Nat->bB)(H':Nat->bK)(κ':Nat->bB):Prop:=
 ∀ b,(H b).gen<=(H' b).gen/\((H b).gen=(H' b).gen->
  ((H' b).body.fK=true->(H b).body.fK=true/\(κ' b).ab=(κ b).ab)/\
  ((H' b).body.fi=true->(H b).body.fi=true/\κ' b=κ b/\(H' b).body.len=(H b).body.len/\(H' b).body.e4=(H b).body.e4)/\
  ((H' b).body.gX=true->(H b).body.gX=true/\(κ' b).ab=(κ b).ab)/\
  ((H' b).body.mU=true->(H b).body.mU=true/\(κ' b).ab=(κ b).ab))
theorem fs.refl(H:Nat->bK)(κ:Nat->bB):fs H κ H κ:=λ_=>⟨Nat.le_refl _,λ_=>⟨λh=>⟨h,rfl⟩,λh=>⟨h,rfl,rfl,rfl⟩,λh=>⟨h,rfl⟩,λh=>⟨h,rfl⟩⟩⟩
def p_(x y:bK)(k k':bB):Prop:=
 x.gen<=y.gen/\(x.gen=y.gen->
  (y.body.fK=true->x.body.fK=true/\k'.ab=k.ab)/\
  (y.body.fi=true->x.body.fi=true/\k'=k/\y.body.len=x.body.len/\y.body.e4=x.body.e4)/\
  (y.body.gX=true->x.body.gX=true/\k'.ab=k.ab)/\
  (y.body.mU=true->x.body.mU=true/\k'.ab=k.ab))
theorem p_.refl(x:bK)(k:bB):p_ x x k k:=⟨Nat.le_refl _,λ_=>⟨λh=>⟨h,rfl⟩,λh=>⟨h,rfl,rfl,rfl⟩,λh=>⟨h,rfl⟩,λh=>⟨h,rfl⟩⟩⟩
theorem B1{H:Nat->bK}{κ:Nat->bB}{H':Nat->bK}{κ':Nat->bB}:fs H κ H' κ'<->∀ b,p_ (H b) (H' b) (κ b) (κ' b):=Iff.rfl
theorem bA.later{P:Program}{H H':Nat->bK}{κ κ':Nat->bB}{F F':Nat->Prop}{w w':World}(al:fs H κ H' κ')(bo:∀ r,F r->F' r)(he:c8 F w w') :
  ∀ {a:aI} {v:Value},bA P H κ F w a v->bA P H' κ' F' w' a v:=by
 intro a;induction a with
 | undef=>intro v h;trivial
 | val t x=>intro v h;exact eu.mono h bo he
 | hF b a aL=>intro v h;exact⟨λaa=>aL (h.1 aa),h.2⟩
 | ba b g off=>
  intro v h;obtain⟨E,U⟩:=h;obtain⟨aQ,aS⟩:=al b;refine⟨⟨Nat.le_trans E.1 aQ,E.2⟩,λay hc=>?_⟩;grind
 | own b g=>
  intro v h;obtain⟨E,U⟩:=h;obtain⟨aQ,aS⟩:=al b;refine⟨⟨Nat.le_trans E.1 aQ,E.2⟩,λay hc=>?_⟩;grind
 | oy b g i off=>
  intro v h;obtain⟨E,U⟩:=h;obtain⟨aQ,aS⟩:=al b;refine⟨⟨Nat.le_trans E.1 aQ,E.2⟩,λay hc=>?_⟩;grind
 | ik b g i=>
  intro v h;obtain⟨E,U⟩:=h;obtain⟨aQ,aS⟩:=al b;refine⟨⟨Nat.le_trans E.1 aQ,E.2⟩,λay hc=>?_⟩;grind
 | dV t x=>
  intro v h;obtain⟨p,bk,E,U,ah⟩:=h;exact⟨p,bk,E,U.mono bo he,fg t bo he ah⟩
 | fJ b g=>
  intro v h;obtain⟨E,U⟩:=h;obtain⟨aQ,aS⟩:=al b;refine⟨⟨Nat.le_trans E.1 aQ,E.2⟩,λay hc=>?_⟩;grind
 | j6 b g=>
  intro v h;obtain⟨E,U⟩:=h;obtain⟨aQ,aS⟩:=al b;refine⟨⟨Nat.le_trans E.1 aQ,E.2⟩,λay hc=>?_⟩;grind
 | sub b g a1 G=>
  intro v h;obtain⟨E,U⟩:=h;obtain⟨aQ,aS⟩:=al b;refine⟨⟨Nat.le_trans E.1 aQ,E.2⟩,λay hc=>?_⟩;grind
 | aW l aM L n st=>intro v _;trivial
 | hg l=>intro v h;exact h
 | w7 e xs=>intro v h;exact⟨eu.mono h.1 bo he,h.2⟩
 | iC k n c6 aL=>
  intro v h;obtain⟨aE,E,U,ah⟩:=h;exact⟨aE,E,U,λi G=>aL i (ah i G)⟩
 | r9 k n f aL=>
  intro v h;obtain⟨aE,E,U,ah⟩:=h;exact⟨aE,E,U,λi G=>aL i (ah i G)⟩
 | p9 n f aL=>
  intro v h;obtain⟨aE,E,U,ah⟩:=h;exact⟨aE,E,U,λi G=>aL i (ah i G)⟩
 | agg n f aL=>
  intro v h;obtain⟨aE,E,U,ah⟩:=h;exact⟨aE,E,U,λi G=>⟨aL i (ah i G).1,(ah i G).2⟩⟩
 | cx=>intro v h;exact h
 | jG u=>intro v h;exact h
def u_(P:Program)(k v:ad)(F:Nat->Prop)(w:World)(es:Array MapEntry)(clk:Nat)(xs:List (k.aj×v.aj)):Prop:=
 es.size=xs.length/\(xs.map (·.1)).Nodup/\
 (∀ i (h:i<xs.length) (dw:i<es.size),kQ k es[i].key/\bI P k F w es[i].key.cells.toList xs[i].1/\kQ v es[i].val/\bI P v F w es[i].val.cells.toList xs[i].2/\es[i].born<clk)/\
 (∀ i j (h:i<es.size) (dw:j<es.size),es[i].born=es[j].born->i=j)
theorem u_.mono{P:Program}{k v:ad}{F F':Nat->Prop}{w w':World}{es:Array MapEntry}{clk:Nat}{xs:List (k.aj×v.aj)}(h:u_ P k v F w es clk xs)(bo:∀ r,F r->F' r)(he:c8 F w w') :
  u_ P k v F' w' es clk xs:=
 ⟨h.1,h.2.1,λi G dM=>let ⟨a,b,c,d,e⟩:=h.2.2.1 i G dM;⟨a,fg k bo he b,c,fg v bo he d,e⟩,h.2.2.2⟩
def lR(P:Program)(e:ad)(F:Nat->Prop)(w:World)(cs:Array Value)(off:Nat)(xs:List e.aj):Prop:=
 ∀ i (h:i<xs.length),∃ bk,(∀ j (h:j<bk.length),cs[off+i*e.size+j]?=some bk[j])/\bI P e F w bk xs[i]
theorem lR.mono{P:Program}{e:ad}{F F':Nat->Prop}{w w':World}{cs:Array Value}{off:Nat}{xs:List e.aj}(h:lR P e F w cs off xs)(bo:∀ r,F r->F' r)(he:c8 F w w') :
  lR P e F' w' cs off xs:=λi G=>let ⟨bk,a,b⟩:=h i G;⟨bk,a,fg e bo he b⟩
def za(P:Program)(k v:ad)(F:Nat->Prop)(w:World)(e:MapEntry)(x:k.aj×v.aj):Prop:=
 kQ k e.key/\bI P k F w e.key.cells.toList x.1/\kQ v e.val/\bI P v F w e.val.cells.toList x.2
theorem za.mono{P:Program}{k v:ad}{F F':Nat->Prop}{w w':World}{e:MapEntry}{x:k.aj×v.aj}(h:za P k v F w e x)(bo:∀ r,F r->F' r)(he:c8 F w w'):za P k v F' w' e x:=
 ⟨h.1,fg k bo he h.2.1,h.2.2.1,fg v bo he h.2.2.2⟩
def w8(P:Program)(k v:ad)(F:Nat->Prop)(w:World)(pb:Nat)(cur:Option (k.aj×v.aj))(cj:List (k.aj×v.aj)):Prop:=
 (w.heap[pb]?=some (.mapIter none 0 #[] 0)/\cj=[]/\cur=none)\/
 ∃ lS es clk seen,F lS/\w.heap[lS]?=some (.map es clk)/\w.heap[pb]?=some (.mapIter (some lS) clk seen clk)/\
  (∀ i (h:i<es.size),es[i].born<clk)/\(∀ i j (h:i<es.size) (dw:j<es.size),es[i].born=es[j].born->i=j)/\
  (∃ ids:List Nat,ids.length=cj.length/\ids.Nodup/\(∀ i,i∈ids<->∃ h:i<es.size,seen.contains es[i].born=false)/\
   (∀ j (h:j<ids.length) (dw:j<cj.length),∃ G:ids[j]<es.size,za P k v F w es[ids[j]] cj[j]))/\
  (∀ c,cur=some c->∃ i,∃ h:i<es.size,seen.back?=some es[i].born/\za P k v F w es[i] c)
theorem w8.mono{P:Program}{k v:ad}{F F':Nat->Prop}{w w':World}{pb:Nat}{cur:Option (k.aj×v.aj)}{cj:List (k.aj×v.aj)}(h:w8 P k v F w pb cur cj)(bo:∀ r,F r->F' r)(he:c8 F w w')
  (G:w'.heap[pb]?=w.heap[pb]?):w8 P k v F' w' pb cur cj:=by
 rcases h with⟨E,U⟩ | ⟨lS,es,clk,seen,E,U,ah,a6,bL,⟨ids,i1,i2,i3,i4⟩,gl⟩
 ·exact .inl ⟨G.trans E,U⟩
 ·exact .inr ⟨lS,es,clk,seen,bo _ E,(he.2 _ E).trans U,G.trans ah,a6,bL,⟨ids,i1,i2,i3,λj aG fV=>let ⟨a,b⟩:=i4 j aG fV;⟨a,b.mono bo he⟩⟩,λc hc=>let ⟨i,a,b,d⟩:=gl c hc;⟨i,a,b,d.mono bo he⟩⟩
def jH(P:Program)(H:Nat->bK)(κ:Nat->bB)(F:Nat->Prop)(w:World)(k:bB):bS->Prop
 | .fD=>True
 | .cells t f=>∃ cs T,w.heap[k.ab]?=some (.cells cs T (0,0))/\cs.size=t.size/\∀ i,i<t.size->bA P H κ F w (f i) (cs.getD i Go.undef)/\(cs.getD i Go.undef).oneCell'=true
 | .bh e xs=>(k.e_=true->xs=[])/\(k.e_=false->∃ cs T,w.heap[k.ab]?=some (.cells cs T (0,0))/\k.off+k.cap*e.size<=cs.size/\xs.length<=k.cap/\k.cap<2 ^ 63/\lR P e F w cs k.off xs)
 | .hG e xs=>bI P (.slice e) F w [k.slice xs.length] xs
 | .mp mm pc es=>∃ ms clk,w.heap[k.ab]?=some (.map ms clk)/\u_ P mm pc F w ms clk es
 | .gL t x=>∃ bk,Holds F w ⟨k.ab,0,none⟩ bk/\bI P t F w bk x
 | .jk mm pc es=>bI P (.map mm pc) F w [.map (some k.ab)] es
 | .ct mm pc cur cj=>w8 P mm pc F w k.ab cur cj
 | .gp e xs i v=>k.e_=false/\∃ cs T,w.heap[k.ab]?=some (.cells cs T (0,0))/\k.off+k.cap*e.size<=cs.size/\xs.length<=k.cap/\k.cap<2 ^ 63/\(e.size=1/\i<xs.length)/\
   (∀ j (h:j<xs.length),j≠i->∃ bk,(∀ q (h:q<bk.length),cs[k.off+j*e.size+q]?=some bk[q])/\bI P e F w bk xs[j])/\bA P H κ F w v (cs.getD (k.off+i) Go.undef)/\(cs.getD (k.off+i) Go.undef).oneCell'=true
def cG(P:Program)(H:Nat->bK)(κ:Nat->bB)(F:Nat->Prop)(w:World)(b:Nat):Prop:=jH P H κ F w (κ b) (H b).body
theorem cG.ll{P:Program}{H H':Nat->bK}{κ κ':Nat->bB}{F F':Nat->Prop}{w w':World}{b:Nat}(h:cG P H κ F w b)(al:fs H κ H' κ')(bo:∀ r,F r->F' r)(he:c8 F w w')
  (aa:(H' b).body=(H b).body) (ak:κ' b=κ b) (hw:(H b).body.b1 (κ b)=true->w'.heap[(κ b).ab]?=w.heap[(κ b).ab]?):cG P H' κ' F' w' b:=by
 unfold cG at *
 rw[aa,ak];cases bT:(H b).body with
 | fD=>trivial
 | cells n f=>
  rw[bT]at h hw;obtain⟨cs,T,E,U,ah⟩:=h;exact⟨cs,T,(hw rfl).trans E,U,λi G=>⟨bA.later al bo he (ah i G).1,(ah i G).2⟩⟩
 | bh e xs=>
  rw[bT]at h hw;refine⟨h.1,λax=>?_⟩;obtain⟨cs,T,E,U,ah,a6,bL⟩:=h.2 ax;exact⟨cs,T,(hw (by simp[bS.b1,ax])).trans E,U,ah,a6,bL.mono bo he⟩
 | hG e xs=>
  rw[bT]at h;exact fg _ bo he h
 | mp mm pc es=>
  rw[bT]at h hw;obtain⟨ms,clk,E,U⟩:=h;exact⟨ms,clk,(hw rfl).trans E,U.mono bo he⟩
 | gL t x=>
  rw[bT]at h;obtain⟨bk,E,U⟩:=h;exact⟨bk,E.mono bo he,fg t bo he U⟩
 | jk mm pc es=>
  rw[bT]at h;exact fg (.map mm pc) bo he h
 | ct mm pc cur cj=>
  rw[bT]at h hw;exact w8.mono h bo he (hw rfl)
 | gp e xs i v=>
  rw[bT]at h hw;obtain⟨aY,cs,T,E,U,ah,a6,bL,dv,gl,jj⟩:=h;refine⟨aY,cs,T,(hw (by simp[bS.b1,aY])).trans E,U,ah,a6,bL,λj aG qY=>?_,bA.later al bo he gl,jj⟩;obtain⟨bk,d1,d2⟩:=dv j aG qY;exact⟨bk,d1,fg e bo he d2⟩
structure de(w w':World):Prop where
 os:w'.os=w.os
 tape:w'.tape=w.tape
 output:w'.output=w.output
theorem de.refl(w:World):de w w:=⟨rfl,rfl,rfl⟩
theorem de.trans{a b c:World}(h:de a b)(k:de b c):de a c:=⟨k.os.trans h.os,k.tape.trans h.tape,k.output.trans h.output⟩
structure lT where
 l:Nat
 aM:ad
 S:List aM.aj->Prop
 I:List aM.aj->Bool->(Nat->Prop)->(Nat->Prop)->World->Prop
structure lT.hE(P:Program)(p:lT):Prop where
 BX:∀ {pre st} {F F' Y:Nat->Prop} {w w':World},p.I pre st F Y w->(∀ r,F r->F' r)->(∀ r,F r\/Y r->w'.heap[r]?=w.heap[r]?)->w.heap.size<=w'.heap.size->de w w'->(∀ r,F' r->r<w'.heap.size)->(∀ r,F' r->¬Y r)->p.I pre st F' Y w'
 yield:∀ {pre} {F Y:Nat->Prop} {w:World} {args:List Value} {x:p.aM.aj},p.I pre false F Y w->(∀ r,F r->r<w.heap.size)->(∀ r,Y r->r<w.heap.size/\¬F r)->(∃ T,p.S (pre++x::T))->fr P p.aM F w args x->
  YieldAt Fence.wide 0 P p.l args.toArray w λe w'=>∃ (b:Bool) (F' gD:Nat->Prop),e=.returned (.bool b)/\(∀ r,F r->F' r)/\(∀ r,F' r->F r\/Y r\/w.heap.size<=r)/\(∀ r,F' r->r<w'.heap.size)/\
   (∀ r,r<w.heap.size->¬Y r->w'.heap[r]?=w.heap[r]?)/\(∀ r,gD r->(Y r\/w.heap.size<=r)/\r<w'.heap.size/\¬F' r)/\w.heap.size<=w'.heap.size/\de w w'/\p.I (pre++[x]) (!b) F' gD w'
def lT.at(p:lT)(aM:ad)(pre:List aM.aj)(st:Bool)(F Y:Nat->Prop)(w:World):Prop:=∃ h:aM=p.aM,p.I (h ▸ pre) st F Y w
theorem lT.zb{l:Nat}{aM:ad}{S:List aM.aj->Prop}{I}{pre:List aM.aj}{st:Bool}{F Y:Nat->Prop}{w:World}:(lT.mk l aM S I).at aM pre st F Y w<->I pre st F Y w:=⟨λ⟨_,h⟩=>h,λh=>⟨rfl,h⟩⟩
theorem lT.hE.J4{P:Program}{p:lT}(h:p.hE P){aM:ad}{pre:List aM.aj}{st}{F F' Y:Nat->Prop}{w w':World}:p.at aM pre st F Y w->(∀ r,F r->F' r)->(∀ r,F r\/Y r->w'.heap[r]?=w.heap[r]?)->w.heap.size<=w'.heap.size->de w w'->(∀ r,F' r->r<w'.heap.size)->(∀ r,F' r->¬Y r)->p.at aM pre st F' Y w':=
 λ⟨e,E⟩ U ah a6 bL dv gl=>⟨e,h.BX E U ah a6 bL dv gl⟩
def b5:Nat:=1000000
def eT:Nat:=100000
def w9:Nat:=200000
structure b_ where
 P:Program
 w0:World
 F0:Nat->Prop
 K0:Nat->Prop
 nt:Nat
 r:Option Nat
 dfr:List Deferred
 il:Nat->Option Nat
 cc:lT
 aP:dG
 J5:Nat->Option (bB×Nat):=λ_=>none
def ac1(C:b_)(s:aC)(w:World)(κ:Nat->bB)(F:Nat->Prop):Prop:=
 ∀ l aM L n st,s.aA b5=.aW l aM L n st->(∃ I,C.cc=⟨l,aM,L,I⟩)/\C.cc.hE C.P/\
  ∃ Y:Nat->Prop,(∀ r,Y r->r<w.heap.size/\¬F r/\¬C.K0 r)/\(∀ b,(s.ab b).body.b1 (κ b)=true->¬Y (κ b).ab)/\C.cc.at aM n st F Y w
structure bm(C:b_)(s:aC)(a:Act)(w:World)(κ:Nat->bB)(F:Nat->Prop):Prop where
 dH:a.tmps.size=C.nt
 dfr:a.defers=C.dfr
 bU:∀ i,bA C.P s.ab κ F w (s.aA i) (a.tmps.getD i Go.undef)
 bD:∀ b,cG C.P s.ab κ F w b
 own:∀ b,(s.ab b).body.b1 (κ b)=true->(κ b).ab<w.heap.size/\¬F (κ b).ab/\¬C.K0 (κ b).ab
 inj:∀ b be,(s.ab b).body.b1 (κ b)=true->(s.ab be).body.b1 (κ be)=true->(κ b).ab=(κ be).ab->b=be
 dd:∀ r,F r->r<w.heap.size
 hh:∀ r,F r->C.F0 r\/¬C.K0 r
 hU:∀ r,C.F0 r->F r
 hx:∀ r,C.K0 r->r<C.w0.heap.size
 eH:∀ r,C.K0 r->w.heap[r]?=C.w0.heap[r]?
 size:C.w0.heap.size<=w.heap.size
 ev:de C.w0 w
 gq:C.nt<=eT
 ks:∀ b r,C.il b=some r->eT<=b
 jI:∀ b r,C.il b=some r->(s.ab b).body.fK=true\/(s.ab b).body.gX=true->(κ b).ab=r
 j7:∀ b k,C.J5 b=some k->w9<=b
 kt:∀ b k,C.J5 b=some k->(s.ab b).gen=0->(s.ab b).body.fi=true->κ b=k.1/\(s.ab b).body.len=k.2
 eN:ac1 C s w κ F
 jJ:qX C.P C.aP
 iD:nQ C.P F w
def cv(C:b_)(s:aC)(a:Act)(w:World):Prop:=∃ κ F,bm C s a w κ F
def aC.set(s:aC)(d:Option Nat)(v:aI):aC:=
 match d with
 | none=>s
 | some d=>{ s with aA:=λi=>if i=d then v else s.aA i }
def aC.cz(s:aC)(b:Nat)(x:bK):aC:={ s with ab:=λi=>if i=b then x else s.ab i }
theorem ac2{a:Act}{d:Nat}{v:Value}(au:d<a.tmps.size)(i:Nat):(a.put (some d) v).tmps.getD i Go.undef=if i=d then v else a.tmps.getD i Go.undef:=by
 simp only[Act.put,Array.getD_eq_getD_getElem?,Array.getElem?_setIfInBounds];grind
theorem bm.set{C:b_}{s:aC}{a:Act}{w:World}{κ:Nat->bB}{F:Nat->Prop}(h:bm C s a w κ F){d:Option Nat}(au:∀ i,d=some i->i<C.nt){av:aI}{v:Value}
  (af:bA C.P s.ab κ F w av v):bm C (s.set d av) (a.put d v) w κ F:=by
 cases d with
 | none=>exact h
 | some d=>
  have w_:=au d rfl;have ax:=h.gq;refine { h with dH:=by simpa [Act.put]using h.dH,dfr:=h.dfr,bU:=λi=>?_,eN:=λl aM L n st e=>?_ }
  ·rw[ac2 (by rw[h.dH];omega)];simp only[aC.set];by_cases G:i=d
   ·grind
   ·rw[if_neg G,if_neg G];exact h.bU i
  ·simp only[aC.set]at e;rw[if_neg (by unfold b5 eT at *;omega)]at e;exact h.eN l aM L n st e
theorem bm.move{C:b_}{s:aC}{a:Act}{w:World}{κ:Nat->bB}{F:Nat->Prop}(h:bm C s a w κ F){H':Nat->bK}{κ':Nat->bB}{F':Nat->Prop}{w':World}
  (al:fs s.ab κ H' κ') (bo:∀ r,F r->F' r) (tx:∀ r,F' r->F r\/(∃ b,(s.ab b).body.b1 (κ b)=true/\(κ b).ab=r)\/w.heap.size<=r)
  (cd:w.heap.size<=w'.heap.size) (hw:∀ r,r<w.heap.size->(∀ b,(s.ab b).body.b1 (κ b)=true->(κ b).ab≠r)->w'.heap[r]?=w.heap[r]?) (hc:de w w')
  (aa:c8 F w w'->∀ b,cG C.P H' κ' F' w' b)
  (ag:∀ b,(H' b).body.b1 (κ' b)=true->(κ' b).ab<w'.heap.size/\¬F' (κ' b).ab/\((∃ b0,(s.ab b0).body.b1 (κ b0)=true/\(κ b0).ab=(κ' b).ab)\/w.heap.size<=(κ' b).ab))
  (G:∀ b be,(H' b).body.b1 (κ' b)=true->(H' be).body.b1 (κ' be)=true->(κ' b).ab=(κ' be).ab->b=be)
  (aD:∀ r,F' r->r<w'.heap.size)
  (ac3:∀ b,eT<=b->(H' b).body.fK=true\/(H' b).body.gX=true->κ' b=κ b/\((s.ab b).body.fK=true\/(s.ab b).body.gX=true)):bm C ⟨s.aA,H'⟩ a w' κ' F':=by
 have ac4:∀ r,C.K0 r->(∀ b,(s.ab b).body.b1 (κ b)=true->(κ b).ab≠r):=λr M b aa e=>(h.own b aa).2.2 (e ▸ M);have ak:∀ r,C.K0 r->w'.heap[r]?=w.heap[r]?:=λr M=>hw r (Nat.lt_of_lt_of_le (h.hx r M) h.size) (ac4 r M);have zc:∀ r,w.heap.size<=r->¬C.K0 r:=λr M ak=>by have:=h.hx r ak;have:=h.size;omega
 have he:c8 F w w':=⟨cd,λr M=>hw r (h.dd r M) λb aa e=>(h.own b aa).2.1 (e ▸ M)⟩
 refine { dH:=h.dH,dfr:=h.dfr,bU:=λi=>bA.later al bo he (h.bU i),bD:=aa he,own:=λb aa=>?_,inj:=G,dd:=aD,hh:=λr M=>?_,hU:=λr M=>bo r (h.hU r M),hx:=h.hx,eH:=λr M=>(ak r M).trans (h.eH r M),size:=Nat.le_trans h.size cd,ev:=h.ev.trans hc,gq:=h.gq,ks:=h.ks,jI:=λb r M hc=>?_,j7:=h.j7,kt:=λb k ak aY a_=>?_,eN:=λl aM L n st e=>?_,jJ:=h.jJ,iD:=h.iD.mono bo he }
 ·grind
 ·rcases tx r M with E | ⟨b,E,rfl⟩ | E
  ·exact h.hh r E
  ·exact .inr (h.own b E).2.2
  ·exact .inr (zc r E)
 ·obtain⟨aQ,aS⟩:=ac3 b (h.ks b r M) hc;rw[aQ];exact h.jI b r M aS
 ·obtain⟨g1,ew⟩:=al b;have aY:(H' b).gen=0:=aY;have a_:(H' b).body.fi=true:=a_;obtain⟨b6,a2,a3,_⟩:=(ew (by omega)).2.1 a_;obtain⟨aQ,aS⟩:=h.kt b k ak (by omega) b6;grind
 ·obtain⟨E,U,Y,ah,a6,bL⟩:=h.eN l aM L n st e;have axx:∀ r,Y r->w'.heap[r]?=w.heap[r]?:=λr M=>hw r (ah r M).1 λb aa e=>a6 b aa (e ▸ M);have B2:∀ r,Y r->¬F' r:=λr M ao=>by
   grind
  refine⟨E,U,Y,λr M=>⟨Nat.lt_of_lt_of_le (ah r M).1 cd,B2 r M,(ah r M).2.2⟩,λb aa aT=>?_,U.J4 bL bo (λr M=>?_) cd hc aD λr ao aT=>B2 r aT ao⟩
  ·grind
  ·rcases M with M | M
   ·exact he.2 r M
   grind
theorem pd(w:World)(o:Obj){r:Nat}(h:r<w.heap.size):(w.alloc o).heap[r]?=w.heap[r]?:=Below.heap_alloc w o r h
theorem qa(w:World)(o:Obj):(w.alloc o).heap[w.heap.size]?=some o:=by
 show (w.heap.push o)[w.heap.size]?=_;simp
theorem c8.alloc{F:Nat->Prop}{w:World}(aD:∀ r,F r->r<w.heap.size)(o:Obj):c8 F w (w.alloc o):=
 ⟨by simp,λr M=>pd w o (aD r M)⟩
theorem zd{H:Nat->bK}{κ κ':Nat->bB}{b:Nat}{x:bK}(ay:(H b).gen<x.gen)(B3:∀ be,be≠b->κ' be=κ be) :
  fs H κ (λi=>if i=b then x else H i) κ':=by
 rw[B1];intro i;by_cases G:i=b
 ·subst G;simp only[if_true];exact⟨by omega,λh=>by omega⟩
 ·simp only[if_neg G];rw[B3 i G];exact p_.refl _ _
theorem ze{H:Nat->bK}{κ κ':Nat->bB}{b:Nat}{x:bK}(aa:b<eT\/(x.body.fK=false/\x.body.gX=false))(B3:∀ be,be≠b->κ' be=κ be) :
  ∀ i,eT<=i->(if i=b then x else H i).body.fK=true\/(if i=b then x else H i).body.gX=true->κ' i=κ i/\((H i).body.fK=true\/(H i).body.gX=true):=by
 grind
theorem bm.alloc{C:b_}{s:aC}{a:Act}{w:World}{κ:Nat->bB}{F:Nat->Prop}(h:bm C s a w κ F){b:Nat}{x:bK}(B4:b<eT)(ay:(s.ab b).gen<x.gen)
  {o:Obj} {k:bB} (ak:k.ab=w.heap.size)
  (ai:∀ (H:Nat->bK) (κ':Nat->bB),H=(λi=>if i=b then x else s.ab i)->κ'=(λi=>if i=b then k else κ i)->fs s.ab κ H κ'->jH C.P H κ' F (w.alloc o) k x.body) :
  bm C (s.cz b x) a (w.alloc o) (λi=>if i=b then k else κ i) F:=by
 have al:fs s.ab κ (λi=>if i=b then x else s.ab i) (λi=>if i=b then k else κ i):=zd ay λbe cY=>by grind
 refine h.move (H':=λi=>if i=b then x else s.ab i) al (λ_ M=>M) (λ_ M=>.inl M) (by simp) (λr M _=>pd w o M) ⟨rfl,rfl,rfl⟩ (λhe=>?_) ?_ ?_ ?_ (ze (.inl B4) λbe cY=>by grind)
 ·intro i;by_cases G:i=b
  ·subst G;simp only[cG,if_true];grind
  ·refine cG.ll (h.bD i) al (λ_ M=>M) he (by grind) (by grind) λag=>?_;exact pd w o (h.own i ag).1
 ·intro i G;by_cases eO:i=b
  ·subst eO;simp only[if_true]at G ⊢;refine⟨by simp_all,λao=>?_,.inr (by omega)⟩;have:=h.dd _ ao;omega
  ·simp only[if_neg eO]at G ⊢;have:=h.own i G;exact⟨by simp;omega,this.2.1,.inl ⟨i,G,rfl⟩⟩
 ·intro i j G aG e;by_cases eO:i=b<;>by_cases mn:j=b
  ·omega
  ·simp only[if_pos eO,if_neg mn]at G aG e;have:=(h.own j aG).1;omega
  ·simp only[if_neg eO,if_pos mn]at G aG e;have:=(h.own i G).1;omega
  ·simp only[if_neg eO,if_neg mn]at G aG e;exact h.inj i j G aG e
 ·intro r M;have:=h.dd r M;simp;omega
theorem qZ{H:Nat->bK}{κ:Nat->bB}{b:Nat}{x:bK}(ay:x.gen=(H b).gen)(E:x.body.fK=true->(H b).body.fK=true)
  (U:x.body.fi=true->(H b).body.fi=true/\x.body.len=(H b).body.len/\x.body.e4=(H b).body.e4) (ah:x.body.gX=true->(H b).body.gX=true)
  (a6:x.body.mU=true->(H b).body.mU=true) :
  fs H κ (λi=>if i=b then x else H i) κ:=by
 rw[B1];intro i;by_cases G:i=b
 ·subst G;simp only[if_true];exact⟨by omega,λ_=>⟨λh=>⟨E h,rfl⟩,λh=>⟨(U h).1,rfl,(U h).2⟩,λh=>⟨ah h,rfl⟩,λh=>⟨a6 h,rfl⟩⟩⟩
 ·simp only[if_neg G];exact p_.refl _ _
theorem ac5{H:Nat->bK}{κ:Nat->bB}{b:Nat}{x:bK}(E:x.body.fK=true->(H b).body.fK=true)(ah:x.body.gX=true->(H b).body.gX=true) :
  ∀ i,eT<=i->(if i=b then x else H i).body.fK=true\/(if i=b then x else H i).body.gX=true->κ i=κ i/\((H i).body.fK=true\/(H i).body.gX=true):=by
 grind
theorem bm.pe{C:b_}{s:aC}{a:Act}{w w':World}{κ:Nat->bB}{F:Nat->Prop}(h:bm C s a w κ F){b:Nat}{x:bK}
  (gr:(s.ab b).body.b1 (κ b)=true) (zf:x.body.b1 (κ b)=true) (al:fs s.ab κ (λi=>if i=b then x else s.ab i) κ)
  (E:x.body.fK=true->(s.ab b).body.fK=true) (ah:x.body.gX=true->(s.ab b).body.gX=true)
  (hw:∀ r,r≠(κ b).ab->w'.heap[r]?=w.heap[r]?) (cd:w'.heap.size=w.heap.size) (hc:de w w')
  (ai:∀ (H:Nat->bK),H=(λi=>if i=b then x else s.ab i)->fs s.ab κ H κ->c8 F w w'->jH C.P H κ F w' (κ b) x.body) :
  bm C (s.cz b x) a w' κ F:=by
 have ag:=h.own b gr;refine h.move (H':=λi=>if i=b then x else s.ab i) al (λ_ M=>M) (λ_ M=>.inl M) (by omega) (λr _ M=>hw r λe=>M b gr e.symm) hc (λhe=>?_) ?_ ?_ (λr M=>by rw[cd];exact h.dd r M) (ac5 E ah)
 ·intro i;by_cases G:i=b
  ·subst G;simp only[cG,if_true];grind
  ·refine cG.ll (h.bD i) al (λ_ M=>M) he (by grind) rfl λac6=>hw _ λe=>G (h.inj i b ac6 gr e)
 ·intro i G;by_cases eO:i=b
  ·grind
  ·simp only[if_neg eO]at G;have:=h.own i G;grind
 ·intro i j G aG e;have dM:(s.ab i).body.b1 (κ i)=true:=by
   grind
  have fV:(s.ab j).body.b1 (κ j)=true:=by
   grind
  exact h.inj i j dM fV e
theorem bm.drew{C:b_}{s:aC}{a:Act}{w:World}{κ:Nat->bB}{F:Nat->Prop}(h:bm C s a w κ F):bm C s a w.drew κ F:=
 h.move (H':=s.ab) (fs.refl _ _) (λ_ M=>M) (λ_ M=>.inl M) (Nat.le_refl _) (λ_ _ _=>rfl) ⟨rfl,rfl,rfl⟩
  (λ_ b=>cG.ll (h.bD b) (fs.refl _ _) (λ_ M=>M) ⟨Nat.le_refl _,λ_ _=>rfl⟩ rfl rfl λ_=>rfl) (λb aa=>⟨(h.own b aa).1,(h.own b aa).2.1,.inl ⟨b,aa,rfl⟩⟩) h.inj h.dd (λ_ _ h=>⟨rfl,h⟩)
def aC.le(s' s:aC):Prop:=(∀ i,s'.aA i=s.aA i\/s'.aA i=.undef)/\∀ b,s'.ab b=s.ab b\/s'.ab b=⟨(s.ab b).gen,.fD⟩
theorem bm.zg{C:b_}{s s':aC}{a:Act}{w:World}{κ:Nat->bB}{F:Nat->Prop}(h:bm C s a w κ F)(aD:s'.le s):bm C s' a w κ F:=by
 have gr:∀ b,(s'.ab b).body.b1 (κ b)=true->(s.ab b).body.b1 (κ b)=true:=λb aa=>by
  rcases aD.2 b with e | e
  ·grind
  ·rw[e]at aa;cases aa
 have al:fs s.ab κ s'.ab κ:=λb=>by
  rcases aD.2 b with e | e
  ·grind
  ·rw[e];exact⟨Nat.le_refl _,λ_=>⟨λh=>(by cases h),λh=>(by cases h),λh=>(by cases h),λh=>(by cases h)⟩⟩
 have U:=h.move al (λ_ M=>M) (λ_ M=>.inl M) (Nat.le_refl _) (λ_ _ _=>rfl) (de.refl _)
  (λ_ b=>by
   rcases aD.2 b with e | e
   ·exact cG.ll (h.bD b) al (λ_ M=>M) (c8.refl _ _) (by rw[e]) rfl λ_=>rfl
   ·unfold cG;rw[e];trivial)
  (λb aa=>⟨(h.own b (gr b aa)).1,(h.own b (gr b aa)).2.1,.inl ⟨b,gr b aa,rfl⟩⟩) (λb be aa cY=>h.inj b be (gr b aa) (gr be cY)) h.dd (λb _ aa=>⟨rfl,by
   rcases aD.2 b with e | e
   ·grind
   ·rw[e]at aa;simp[bS.fK,bS.gX]at aa⟩)
 refine { U with bU:=λi=>?_,dH:=U.dH,dfr:=U.dfr,eN:=λl aM L n st e=>?_ }
 ·rcases aD.1 i with e | e
  ·rw[e];exact U.bU i
  ·rw[e];trivial
 ·rcases aD.1 b5 with k | k
  ·exact U.eN l aM L n st (k ▸ e)
  grind
end Go.Fer
namespace Go.Fer
inductive ar(an:Type) where
 | ret (a:an)
 | eU (b:Nat) (k:bK->ar an)
def ar.run{an:Type}(H:Nat->bK):ar an->an
 | .ret a=>a
 | .eU b k=>(k (H b)).run H
def ar.looks{an:Type}(H:Nat->bK):ar an->List Nat
 | .ret _=>[]
 | .eU b k=>b::(k (H b)).looks H
def ar.bind{an β:Type}:ar an->(an->ar β)->ar β
 | .ret a,f=>f a
 | .eU b k,f=>.eU b λx=>(k x).bind f
def ar.map{an β:Type}(f:an->β)(m:ar an):ar β:=m.bind λa=>.ret (f a)
def ar.none{an:Type}:ar (Option an):=.ret Option.none
def ar.cR{an β:Type}(m:ar (Option an))(f:an->ar (Option β)):ar (Option β):=m.bind fun | some a=>f a | Option.none=>.none
@[simp] theorem ar.bO {an:Type} (H:Nat->bK) (a:an):(ar.ret a).run H=a:=rfl
@[simp] theorem ar.e5 {an:Type} (H:Nat->bK) (b:Nat) (k:bK->ar an):(ar.eU b k).run H=(k (H b)).run H:=rfl
theorem ar.run_bind{an β:Type}(H:Nat->bK)(m:ar an)(f:an->ar β):(m.bind f).run H=(f (m.run H)).run H:=by
 induction m with
 | ret a=>rfl
 | eU b k aL=>simp[ar.bind,aL]
theorem ar.e6{an β:Type}(H:Nat->bK)(m:ar (Option an))(f:an->ar (Option β)):(m.cR f).run H=(m.run H).bind λa=>(f a).run H:=by
 unfold ar.cR;rw[ar.run_bind];cases m.run H<;>rfl
theorem ar.Rv{an:Type}{H H':Nat->bK}:∀ (m:ar an),(∀ b∈m.looks H,H' b=H b)->m.run H'=m.run H/\m.looks H'=m.looks H
 | .ret a,_=>⟨rfl,rfl⟩
 | .eU b k,h=>by
  have aa:=h b (by simp[ar.looks]);have:=ar.Rv (k (H b)) λc hc=>h c (by simp[ar.looks,hc]);simp only[ar.run,ar.looks,aa,this];simp
def eV(t cZ:ad)(x:t.aj):Option cZ.aj:=if h:t=cZ then some (h ▸ x) else none
theorem kR{t cZ:ad}{x:t.aj}{y:cZ.aj}(h:eV t cZ x=some y):∃ e:t=cZ,y=e ▸ x:=by
 unfold eV at h;grind
def B5:(t:ad)->Value->Option t.aj
 | .bG _,.pointer Option.none=>some Option.none
 | .map _ _,.map Option.none=>some []
 | .et,.nilFunc=>some Option.none
 | _,_=>Option.none
def ad.isAgg:ad->Bool
 | .st _ | .array _ _=>true
 | _=>false
def dW(t:ad):aI->ar (Option (t.aj×List Nat))
 | .val cZ x=>.ret ((eV cZ t x).map (·,[]))
 | .cx=>match t with
  | .slice _=>.ret (some ([],[]))
  | _=>.none
 | .own b g=>match t with
  | .slice e=>.eU b λx=>.ret (if x.gen=g then (match x.body with
    | .bh a7 xs=>(eV (.slice a7) (.slice e) xs).map (·,[b])
    | .hG a7 xs=>(eV (.slice a7) (.slice e) xs).map (·,[])
    | _=>Option.none) else Option.none)
  | _=>.none
 | .sub b g a1 G=>match t with
  | .slice e=>.eU b λx=>.ret (if x.gen=g then (match x.body with
    | .bh a7 xs=>(eV (.slice a7) (.slice e) ((xs.take G).drop a1)).map (·,[b])
    | .hG a7 xs=>(eV (.slice a7) (.slice e) ((xs.take G).drop a1)).map (·,[])
    | _=>Option.none) else Option.none)
  | _=>.none
 | .fJ b g=>match t with
  | .map k v=>.eU b λx=>.ret (if x.gen=g then (match x.body with
    | .mp k' h9 es=>(eV (.map k' h9) (.map k v) es).map (·,[b])
    | .jk k' h9 es=>(eV (.map k' h9) (.map k v) es).map (·,[])
    | _=>Option.none) else Option.none)
  | _=>.none
 | .dV cZ x=>match t with
  | .bG e=>.ret ((eV (.bG cZ) (.bG e) (some x)).map (·,[]))
  | _=>.none
 | .jG v=>.ret ((B5 t v).map (·,[]))
 | .iC k n _=>match t with
  | .et=>if n=0 then .ret (some (some k,[])) else .none
  | _=>.none
 | _=>.none
def tC(e:ad)(cf:List aI->ar (Option (e.aj×List Nat×List aI)))(av:aI):ar (Option (Option e.aj×List Nat)):=
 match av with
 | .ba b g off=>.eU b λx=>if x.gen=g/\off=0 then (match x.body with
   | .gL cZ y=>.ret ((eV cZ e y).map λz=>(some z,[]))
   | .cells cZ f=>if cZ=e then (cf ((List.range e.size).map f)).cR λ(y,l,r)=>.ret (if r.isEmpty then some (some y,b::l) else Option.none) else .none
   | _=>.none) else .none
 | av=>dW (.bG e) av
def im:(t:ad)->List aI->ar (Option (t.aj×List Nat×List aI))
 | .cU,cs=>.ret (some ((),[],cs))
 | .st t,cs=>im t cs
 | .aB a b,cs=>(im a cs).cR λ(x,l,r)=>(im b r).cR λ(y,m,q)=>.ret (some ((x,y),l++m,q))
 | .array n e,cs=>n.rec (motive:=λ_=>List aI->ar (Option (List e.aj×List Nat×List aI))) (λcs=>.ret (some ([],[],cs)))
   (λ_ aL cs=>(im e cs).cR λ(x,l,r)=>(aL r).cR λ(xs,m,q)=>.ret (some (x::xs,l++m,q))) cs
 | .bool,cs=>match cs with | c::r=>(dW .bool c).map λo=>o.map λ(x,l)=>(x,l,r) | []=>.none
 | .int k,cs=>match cs with | c::r=>(dW (.int k) c).map λo=>o.map λ(x,l)=>(x,l,r) | []=>.none
 | .str,cs=>match cs with | c::r=>(dW .str c).map λo=>o.map λ(x,l)=>(x,l,r) | []=>.none
 | .slice e,cs=>match cs with | c::r=>(dW (.slice e) c).map λo=>o.map λ(x,l)=>(x,l,r) | []=>.none
 | .bG e,cs=>match cs with | c::r=>(tC e (im e) c).map λo=>o.map λ(x,l)=>(x,l,r) | []=>.none
 | .map k v,cs=>match cs with | c::r=>(dW (.map k v) c).map λo=>o.map λ(x,l)=>(x,l,r) | []=>.none
 | .fn a b,cs=>match cs with | c::r=>(dW (.fn a b) c).map λo=>o.map λ(x,l)=>(x,l,r) | []=>.none
 | .ct a,cs=>match cs with | c::r=>(dW (.ct a) c).map λo=>o.map λ(x,l)=>(x,l,r) | []=>.none
 | .et,cs=>match cs with | c::r=>(dW .et c).map λo=>o.map λ(x,l)=>(x,l,r) | []=>.none
def ku(t:ad)(av:aI):ar (Option (t.aj×List Nat)):=
 match t with
 | .bG e=>tC e (im e) av
 | t=>if t.eG then dW t av else .none
def dC(t:ad)(av:aI):ar (Option (t.aj×List Nat)):=
 match av with
 | .val cZ x=>.ret ((eV cZ t x).map (·,[]))
 | .agg n f=>if t.eG then .none else (im t ((List.range n).map f)).cR λ(x,l,r)=>.ret (if r.isEmpty&&t.isAgg then some (x,l) else Option.none)
 | _=>ku t av
def nR:(t:ad)->t.aj->List aI
 | .cU,_=>[]
 | .st t,x=>nR t x
 | .aB a b,x=>nR a x.1++nR b x.2
 | .array n e,xs=>(List.range n).flatMap λi=>nR e (List.getD xs i e.df)
 | .bool,x=>[.val .bool x]
 | .int k,x=>[.val (.int k) x]
 | .str,x=>[.val .str x]
 | .slice e,x=>[.val (.slice e) x]
 | .bG e,x=>[.val (.bG e) x]
 | .map k v,x=>[.val (.map k v) x]
 | .fn a b,x=>[.val (.fn a b) x]
 | .ct a,x=>[.val (.ct a) x]
 | .et,x=>[.val .et x]
def r_:ad->List aI
 | .cU=>[]
 | .st t=>r_ t
 | .aB a b=>r_ a++r_ b
 | .array n e=>(List.range n).flatMap λ_=>r_ e
 | .bool=>[.val .bool false]
 | .int k=>[.val (.int k) (0:Int)]
 | .str=>[.val .str []]
 | .slice _=>[.cx]
 | .bG e=>[.val (.bG e) Option.none]
 | .map k v=>[.val (.map k v) []]
 | .fn _ _=>[.jG .nilFunc]
 | .ct _=>[.jG .nilFunc]
 | .et=>[.val .et Option.none]
def hi(l:List aI)(i:Nat):aI:=l.getD i .undef
def mo:ad->Nat->Option (ad×Nat)
 | .aB a _,0=>some (a,0)
 | .aB a b,f+1=>(mo b f).map λ(t,o)=>(t,a.size+o)
 | .cU,_=>Option.none
 | t,0=>some (t,0)
 | _,_+1=>Option.none
def u':(t:ad)->t.aj->Nat->Option ((s:ad)×s.aj)
 | .aB a _,x,0=>some ⟨a,x.1⟩
 | .aB _ b,x,f+1=>u' b x.2 f
 | .cU,_,_=>Option.none
 | t,x,0=>some ⟨t,x⟩
 | _,_,_+1=>Option.none
def r':(t:ad)->t.aj->Nat->(s:ad)->Option s.aj
 | .st t,x,off,s=>if off=0/\ad.st t=s then eV (.st t) s x else r' t x off s
 | .aB a b,x,off,s=>if off<a.size then r' a x.1 off s else r' b x.2 (off - a.size) s
 | .cU,_,_,_=>Option.none
 | .array _ _,_,_,_=>Option.none
 | .bool,x,off,s=>if off=0 then eV .bool s x else Option.none
 | .int k,x,off,s=>if off=0 then eV (.int k) s x else Option.none
 | .str,x,off,s=>if off=0 then eV .str s x else Option.none
 | .slice e,x,off,s=>if off=0 then eV (.slice e) s x else Option.none
 | .bG e,x,off,s=>if off=0 then eV (.bG e) s x else Option.none
 | .map k v,x,off,s=>if off=0 then eV (.map k v) s x else Option.none
 | .fn a b,x,off,s=>if off=0 then eV (.fn a b) s x else Option.none
 | .ct a,x,off,s=>if off=0 then eV (.ct a) s x else Option.none
 | .et,x,off,s=>if off=0 then eV .et s x else Option.none
def xa:(t:ad)->t.aj->Nat->(s:ad)->s.aj->Option t.aj
 | .st t,x,off,s,y=>if off=0/\s=ad.st t then eV s (.st t) y else xa t x off s y
 | .aB a b,x,off,s,y=>if off<a.size then (xa a x.1 off s y).map (·,x.2) else (xa b x.2 (off - a.size) s y).map (x.1,·)
 | .cU,_,_,_,_=>Option.none
 | .array _ _,_,_,_,_=>Option.none
 | .bool,_,off,s,y=>if off=0 then eV s .bool y else Option.none
 | .int k,_,off,s,y=>if off=0 then eV s (.int k) y else Option.none
 | .str,_,off,s,y=>if off=0 then eV s .str y else Option.none
 | .slice e,_,off,s,y=>if off=0 then eV s (.slice e) y else Option.none
 | .bG e,_,off,s,y=>if off=0 then eV s (.bG e) y else Option.none
 | .map k v,_,off,s,y=>if off=0 then eV s (.map k v) y else Option.none
 | .fn a b,_,off,s,y=>if off=0 then eV s (.fn a b) y else Option.none
 | .ct a,_,off,s,y=>if off=0 then eV s (.ct a) y else Option.none
 | .et,_,off,s,y=>if off=0 then eV s .et y else Option.none
def lU(k:IntKind)(a b:Int):Int:=k.wrap (BitVec.ofInt k.bits a&&& BitVec.ofInt k.bits b).toNat
def Rw(k:IntKind)(a b:Int):Int:=k.wrap (BitVec.ofInt k.bits a||| BitVec.ofInt k.bits b).toNat
def Rx(k:IntKind)(a b:Int):Int:=k.wrap (BitVec.ofInt k.bits a ^^^ BitVec.ofInt k.bits b).toNat
def Ry(k:IntKind)(a b:Int):Int:=k.wrap (BitVec.ofInt k.bits a&&& ~~~BitVec.ofInt k.bits b).toNat
def ac7(k:IntKind)(a b:Int):Int:=k.wrap (a*2 ^ (min b.toNat k.bits))
def jl(k:IntKind)(a b:Int):Int:=a.fdiv (2 ^ (min b.toNat k.bits))
def kS(t:ad)(xs:List t.aj)(i:Int):t.aj:=xs.getD i.toNat t.df
def bQ(n:Nat):Prop:=n<=4294967296
def gM:(t:ad)->t.aj->t.aj->Bool
 | .bool,x,y=>x == y
 | .int _,x,y=>decide ((x:Int)=y)
 | .str,x,y=>decide ((x:List UInt8)=y)
 | .st t,x,y=>gM t x y
 | .aB a b,x,y=>gM a x.1 y.1&&gM b x.2 y.2
 | _,_,_=>false
def ad.kT:ad->Bool
 | .bool | .int _ | .str=>true
 | .st t=>t.kT
 | .aB a b=>a.kT&&b.kT
 | _=>false
end Go.Fer
namespace Go.Fer
open Go.RowKit
section
variable {P:Program} {H:Nat->bK} {κ:Nat->bB} {F F':Nat->Prop} {w:World}
def ez(P:Program)(H:Nat->bK)(κ:Nat->bB)(F:Nat->Prop)(w:World):List aI->List Value->Prop
 | [],[]=>True
 | a::as,v::aE=>(bA P H κ F w a v/\v.oneCell'=true)/\ez P H κ F w as aE
 | _,_=>False
theorem ez.append:∀ {as bs:List aI} {us aE:List Value},ez P H κ F w as us->ez P H κ F w bs aE->ez P H κ F w (as++bs) (us++aE)
 | [],_,[],_,_,k=>k
 | _::_,_,_::_,_,h,k=>⟨h.1,ez.append h.2 k⟩
 | [],_,_::_,_,h,_=>h.elim
 | _::_,_,[],_,h,_=>h.elim
theorem ez.len:∀ {as:List aI} {us:List Value},ez P H κ F w as us->as.length=us.length
 | [],[],_=>rfl
 | _::_,_::_,h=>by simp[ez.len h.2]
 | [],_::_,h=>h.elim
 | _::_,[],h=>h.elim
theorem ez.kS:∀ {as:List aI} {us:List Value},ez P H κ F w as us->∀ i,i<as.length->bA P H κ F w (hi as i) (us.getD i Go.undef)/\(us.getD i Go.undef).oneCell'=true
 | a::as,v::aE,h,0,_=>h.1
 | a::as,v::aE,h,i+1,G=>by
  have:=ez.kS h.2 i (by grind);simpa [hi]using this
 | [],[],_,i,G=>by grind
 | [],_::_,h,_,_=>h.elim
 | _::_,[],h,_,_=>h.elim
theorem ez.Rz:∀ {as:List aI} {us:List Value},as.length=us.length->(∀ i,i<as.length->bA P H κ F w (hi as i) (us.getD i Go.undef)/\(us.getD i Go.undef).oneCell'=true)->ez P H κ F w as us
 | [],[],_,_=>trivial
 | a::as,v::aE,al,h=>⟨h 0 (by simp),ez.Rz (by grind) λi G=>by have:=h (i+1) (by grind);simpa [hi]using this⟩
 | [],_::_,al,_=>by grind
 | _::_,[],al,_=>by grind
theorem zh:∀ (t:ad) {cs:List Value} {x:t.aj},bI P t F w cs x->ez P H κ F w (nR t x) cs:=by
 have eP:∀ (t:ad),t.eG=true->∀ {cs:List Value} {x:t.aj},bI P t F w cs x->ez P H κ F w [.val t x] cs:=by
  intro t aF cs x h;obtain⟨u,rfl,hu⟩:=B0 aF h;exact⟨⟨(dU aF).2 ⟨hu,h⟩,J3 aF h⟩,trivial⟩
 intro t;induction t with
 | bool=>intro cs x h;exact eP _ rfl h
 | int k=>intro cs x h;exact eP (.int k) rfl h
 | str=>intro cs x h;exact eP _ rfl h
 | cU=>intro cs x h;simp only[bI]at h;subst h;trivial
 | st t aL=>intro cs x h;simp only[bI]at h;exact aL h
 | aB a b fC eM=>
  intro cs x h;simp only[bI]at h;obtain⟨c,d,rfl,a_,aa⟩:=h;exact (fC a_).append (eM aa)
 | slice e aL=>intro cs x h;exact eP (.slice e) rfl h
 | array n e aL=>
  intro cs xs h;simp only[bI]at h;obtain⟨fq,rfl,E,U,ah⟩:=h;simp only[nR];have key:∀ (k:Nat) (l:List (List Value)),(∀ i (G:i<l.length),ez P H κ F w (nR e (List.getD xs (k+i) e.df)) l[i])->ez P H κ F w ((List.range' k l.length).flatMap λi=>nR e (List.getD xs i e.df)) l.flatten:=by
   intro k l;induction l generalizing k with
   | nil=>intro _;trivial
   | cons c l ac8=>
    intro cV;simp only[List.length_cons,List.range'_succ,List.flatMap_cons,List.flatten_cons];refine ez.append ?_ (ac8 (k+1) λi G=>?_)
    ·have:=cV 0 (by simp);grind
    ·have:=cV (i+1) (by grind);grind
  rw[List.range_eq_range',<-E];grind
 | bG e aL=>intro cs x h;exact eP (.bG e) rfl h
 | map k v w2 w3=>intro cs x h;exact eP (.map k v) rfl h
 | fn a b fC eM=>intro cs x h;exact eP (.fn a b) rfl h
 | ct a aL=>intro cs x h;exact eP (.ct a) rfl h
 | et=>intro cs x h;exact eP .et rfl h
theorem J6{e:ad}{xs:List e.aj}{k:bB}(aU:jH P H κ F w k (.bh e xs))(bo:∀ r,F r->F' r)(ak:k.e_=false->F' k.ab):bI P (.slice e) F' w [k.slice xs.length] xs:=by
 obtain⟨E,U⟩:=aU;simp only[bI,bB.slice];cases ax:k.e_ with
 | true=>rw[E ax];exact⟨none,0,rfl,Nat.le_refl _,by decide,λ_=>rfl,λp aq=>by simp⟩
 | false=>
  obtain⟨cs,T,bE,c2,c3,c4,c5⟩:=U ax;refine⟨some ⟨k.ab,k.off,none⟩,k.cap,by simp,c3,c4,(by simp),λp aq _=>?_⟩;cases aq;refine⟨ak ax,rfl,λi G=>?_⟩;obtain⟨bk,d1,d2⟩:=c5 i G;refine⟨bk,⟨ak ax,rfl,λj aG=>?_⟩,fg e bo (c8.refl F w) d2⟩;simp only[World.cell?,bE];grind
theorem FC{t cZ:ad}{x:t.aj}{y:cZ.aj}{v:Value}(hc:eV t cZ x=some y)(h:eu P t F w v x):eu P cZ F w v y:=by
 obtain⟨e,rfl⟩:=kR hc;grind
theorem tD{t cZ:ad}{x:t.aj}{y:cZ.aj}{cs:List Value}(hc:eV t cZ x=some y)(h:bI P t F w cs x):bI P cZ F w cs y:=by
 obtain⟨e,rfl⟩:=kR hc;grind
def iZ(H:Nat->bK)(κ:Nat->bB)(F':Nat->Prop)(l:List Nat):Prop:=∀ b∈l,(H b).body.b1 (κ b)=true->F' (κ b).ab
theorem iZ.left{l m:List Nat}(h:iZ H κ F' (l++m)):iZ H κ F' l:=λb aa=>h b (List.mem_append_left _ aa)
theorem iZ.right{l m:List Nat}(h:iZ H κ F' (l++m)):iZ H κ F' m:=λb aa=>h b (List.mem_append_right _ aa)
theorem RA{mm pc:ad}{es:List (mm.aj×pc.aj)}{k:bB}(aU:jH P H κ F w k (.mp mm pc es))(bo:∀ r,F r->F' r)(ak:F' k.ab):bI P (.map mm pc) F' w [.map (some k.ab)] es:=by
 obtain⟨ms,clk,E,U⟩:=aU;obtain⟨U,ah,a6,bL⟩:=U.mono bo (c8.refl F w);exact .inr ⟨_,ms,clk,rfl,ak,E,U,ah,a6,bL⟩
theorem FD{e:ad}{xs:List e.aj}{k:bB}{a1 G:Nat}{v:Value}(h:bI P (.slice e) F' w [k.slice xs.length] xs)(E:a1<=G)(U:G<=xs.length)(aD:FB k e.size a1 G v) :
  bI P (.slice e) F' w [v] ((xs.take G).drop a1):=by
 have hlen:((xs.take G).drop a1).length=G - a1:=by grind
 obtain⟨a,cap,az,bE,c2,c3,c4⟩:=h;rcases aD with⟨ax,rfl⟩ | ⟨ax,o,rfl,hV,gF⟩
 ·have:xs=[]:=by
   simp only[bB.slice,ax,if_true,List.cons.injEq,Value.slice.injEq,and_true]at az;grind
  subst this;have bH:(([]:List e.aj).take G).drop a1=[]:=by simp
  rw[bH];exact⟨none,0,rfl,Nat.le_refl _,by decide,λ_=>rfl,λp aq=>by simp⟩
 ·simp only[bB.slice,ax,Bool.false_eq_true,if_false,List.cons.injEq,Value.slice.injEq,and_true]at az;obtain⟨rfl,_,rfl⟩:=az;refine⟨some ⟨k.ab,o,none⟩,k.cap - a1,by grind,by omega,by omega,(by simp),λp aq va=>?_⟩;cases aq;obtain⟨d1,d2,d3⟩:=c4 _ rfl (by omega);refine⟨d1,rfl,λi dM=>?_⟩;obtain⟨bk,m1,m2⟩:=d3 (a1+i) (by omega);grind
theorem J7(aU:∀ b,cG P H κ F w b)(bo:∀ r,F r->F' r){t:ad}(aF:t.eG=true){av:aI}{v:Value}{x:t.aj}{l:List Nat}(h:(dW t av).run H=some (x,l))
  (al:iZ H κ F' l) (af:bA P H κ F w av v):eu P t F' w v x:=by
 cases av with
 | undef=>cases h
 | hF b a=>cases h
 | ba b g off=>cases h
 | oy b g i off=>cases h
 | ik b g i=>cases h
 | iC k n c=>
  cases t<;>simp only[dW,ar.none,ar.bO,reduceCtorEq]at h;split at h
  ·rename_i ax;subst ax;cases h;obtain⟨aE,rfl,al,_⟩:=af;obtain rfl:=List.eq_nil_of_length_eq_zero al;exact (dU rfl).2 ⟨rfl,rfl⟩
  ·cases h
 | r9 k n c=>cases h
 | p9 n f=>cases h
 | agg n f=>cases h
 | j6 b g=>cases h
 | aW l aM L n st=>cases h
 | hg l=>cases h
 | w7 e xs=>cases h
 | sub b g a1 G=>
  cases t<;>simp only[dW,ar.none,ar.bO,ar.e5,reduceCtorEq]at h;rename_i e;split at h
  ·rename_i ay;obtain⟨qb,iq⟩:=af;have jK:=aU b;unfold cG at jK;cases bT:(H b).body with
   | bh a7 xs=>
    rw[bT]at h jK iq;simp only[Option.map_eq_some_iff,Prod.mk.injEq]at h;obtain⟨z,bj,rfl,rfl⟩:=h;obtain⟨⟨aQ,aS⟩,bN⟩:=iq ay.symm rfl;exact (dU rfl).2 ⟨Fx qb.2,tD bj (FD (J6 jK bo λax=>al b (by simp) (by rw[bT];simp[bS.b1,ax])) aQ aS bN)⟩
   | hG a7 xs=>
    rw[bT]at h jK iq;simp only[Option.map_eq_some_iff,Prod.mk.injEq]at h;obtain⟨z,bj,rfl,rfl⟩:=h;obtain⟨⟨aQ,aS⟩,bN⟩:=iq ay.symm rfl;exact (dU rfl).2 ⟨Fx qb.2,tD bj (FD (fg (.slice a7) bo (c8.refl F w) jK) aQ aS bN)⟩
   | _=>rw[bT]at h;cases h
  grind
 | fJ b g=>
  cases t<;>simp only[dW,ar.none,ar.bO,ar.e5,reduceCtorEq]at h;rename_i k e;split at h
  ·rename_i ay;obtain⟨qb,iq⟩:=af;have jK:=aU b;unfold cG at jK;cases bT:(H b).body with
   | mp k' h9 es=>
    rw[bT]at h jK iq;simp only[Option.map_eq_some_iff,Prod.mk.injEq]at h;obtain⟨z,bj,rfl,rfl⟩:=h;have:=iq ay.symm rfl;subst this;exact (dU rfl).2 ⟨rfl,tD bj (RA jK bo (al b (by simp) (by rw[bT];rfl)))⟩
   | jk k' h9 es=>
    rw[bT]at h jK iq;simp only[Option.map_eq_some_iff,Prod.mk.injEq]at h;obtain⟨z,bj,rfl,rfl⟩:=h;have:=iq ay.symm rfl;subst this;exact (dU rfl).2 ⟨rfl,tD bj (fg (.map k' h9) bo (c8.refl F w) jK)⟩
   | _=>rw[bT]at h;cases h
  grind
 | val cZ y=>
  simp only[dW,ar.bO,Option.map_eq_some_iff,Prod.mk.injEq]at h;obtain⟨z,bj,rfl,rfl⟩:=h;exact (FC bj af).mono bo (c8.refl F w)
 | cx=>
  cases t<;>simp only[dW,ar.none,ar.bO,reduceCtorEq,Option.some.injEq,Prod.mk.injEq]at h;obtain⟨rfl,rfl⟩:=h;simp only[bA]at af;subst af;exact (dU rfl).2 ⟨rfl,none,0,rfl,Nat.le_refl _,by decide,λ_=>rfl,λp aq=>by simp⟩
 | own b g=>
  cases t<;>simp only[dW,ar.none,ar.bO,ar.e5,reduceCtorEq]at h;rename_i e;split at h
  ·rename_i ay;obtain⟨qb,iq⟩:=af;have jK:=aU b;unfold cG at jK;cases bT:(H b).body with
   | bh a7 xs=>
    rw[bT]at h jK iq;simp only[Option.map_eq_some_iff,Prod.mk.injEq]at h;obtain⟨z,bj,rfl,rfl⟩:=h;have:=iq ay.symm rfl;simp only[bS.len]at this;subst this;refine (dU rfl).2 ⟨by unfold bB.slice;split<;>rfl,tD bj (J6 jK bo λax=>al b (by simp) (by rw[bT];simp[bS.b1,ax]))⟩
   | hG a7 xs=>
    rw[bT]at h jK iq;simp only[Option.map_eq_some_iff,Prod.mk.injEq]at h;obtain⟨z,bj,rfl,rfl⟩:=h;have:=iq ay.symm rfl;simp only[bS.len]at this;subst this;exact (dU rfl).2 ⟨by unfold bB.slice;split<;>rfl,tD bj (fg _ bo (c8.refl F w) jK)⟩
   | _=>rw[bT]at h;cases h
  grind
 | dV cZ y=>
  cases t<;>simp only[dW,ar.none,ar.bO,reduceCtorEq,Option.map_eq_some_iff,Prod.mk.injEq]at h;rename_i e;obtain⟨z,bj,rfl,rfl⟩:=h;obtain⟨p,bk,rfl,U,ah⟩:=af;refine (dU rfl).2 ⟨rfl,tD bj ?_⟩;exact .inr ⟨p,y,bk,rfl,rfl,U.mono bo (c8.refl F w),fg cZ bo (c8.refl F w) ah⟩
 | jG u=>
  simp only[bA]at af;subst af;simp only[dW,ar.bO,Option.map_eq_some_iff,Prod.mk.injEq]at h;obtain⟨z,bj,rfl,rfl⟩:=h;unfold B5 at bj;split at bj
  ·cases bj;exact (dU rfl).2 ⟨rfl,.inl ⟨rfl,rfl⟩⟩
  ·cases bj;exact (dU rfl).2 ⟨rfl,.inl ⟨rfl,rfl⟩⟩
  ·cases bj;exact (dU rfl).2 ⟨rfl,rfl⟩
  grind
theorem B6{n:Nat}{f:Nat->aI}{aE:List Value}(al:aE.length=n)(h:∀ i,i<n->bA P H κ F w (f i) (aE.getD i Go.undef)/\(aE.getD i Go.undef).oneCell'=true) :
  ez P H κ F w ((List.range n).map f) aE:=by
 refine ez.Rz (by grind) λi G=>?_;have dM:i<n:=by grind
 have:hi ((List.range n).map f) i=f i:=by simp[hi,List.getD_eq_getElem?_getD,dM]
 grind
theorem RB(aU:∀ b,cG P H κ F w b)(bo:∀ r,F r->F' r){e:ad}{cf:List aI->ar (Option (e.aj×List Nat×List aI))}
  (gu:∀ {cs:List aI} {aE:List Value} {x:e.aj} {l:List Nat} {r:List aI},(cf cs).run H=some (x,l,r)->iZ H κ F' l->ez P H κ F w cs aE->∃ c d,aE=c++d/\bI P e F' w c x/\ez P H κ F w r d)
  {av:aI} {v:Value} {x:Option e.aj} {l:List Nat} (h:(tC e cf av).run H=some (x,l)) (al:iZ H κ F' l) (af:bA P H κ F w av v):eu P (.bG e) F' w v x:=by
 have cj:(dW (.bG e) av).run H=some (x,l)->eu P (.bG e) F' w v x:=λh=>J7 aU bo rfl h al af;cases av with
 | ba b g off=>
  simp only[tC,ar.e5]at h;split at h
  ·rename_i ay;obtain⟨ay,rfl⟩:=ay;obtain⟨qb,iq⟩:=af;have jK:=aU b;unfold cG at jK;cases bT:(H b).body with
   | gL t y=>
    rw[bT]at h jK iq;simp only[ar.bO,Option.map_eq_some_iff,Prod.mk.injEq]at h;obtain⟨z,bj,rfl,rfl⟩:=h;obtain⟨eq,rfl⟩:=kR bj;subst eq;obtain rfl:=iq ay.symm rfl;obtain⟨bk,E,U⟩:=jK;exact (dU rfl).2 ⟨rfl,.inr ⟨_,_,bk,rfl,rfl,E.mono bo (c8.refl F w),fg t bo (c8.refl F w) U⟩⟩
   | cells t f=>
    rw[bT]at h jK iq;simp only at h;split at h
    ·rename_i aF;subst aF;simp only[ar.e6,Option.bind_eq_some_iff,ar.bO]at h;obtain⟨⟨y,m,q⟩,E,U⟩:=h;split at U
     ·rename_i bt;simp only[Option.some.injEq,Prod.mk.injEq]at U;obtain⟨rfl,rfl⟩:=U;obtain rfl:=iq ay.symm rfl;obtain⟨cs,T,aQ,aS,bN⟩:=jK;have iE:ez P H κ F w ((List.range t.size).map f) cs.toList:=B6 (by omega) λi G=>by
       simp_all
      obtain⟨c,d,J8,bE,c2⟩:=gu E (λbe cY=>al be (List.mem_cons_of_mem _ cY)) iE;have bt:q=[]:=List.isEmpty_iff.1 bt;subst bt;cases d with
      | cons _ _=>exact c2.elim
      | nil=>
       rw[List.append_nil]at J8;refine (dU rfl).2 ⟨rfl,.inr ⟨_,y,c,rfl,rfl,⟨al b (by simp) (by rw[bT];rfl),rfl,λj aG=>?_⟩,bE⟩⟩;have fV:j<cs.size:=by grind
       simp only[World.cell?,aQ,Nat.zero_add,Option.isSome_none,Bool.false_eq_true,if_false,Array.getElem?_eq_getElem fV];grind
     grind
    ·cases h
   | _=>rw[bT]at h;cases h
  ·cases h
 | _=>exact cj h
theorem J9(aU:∀ b,cG P H κ F w b)(bo:∀ r,F r->F' r):∀ (t:ad) {cs:List aI} {aE:List Value} {x:t.aj} {l:List Nat} {r:List aI},(im t cs).run H=some (x,l,r)->
  iZ H κ F' l->ez P H κ F w cs aE->∃ c d,aE=c++d/\bI P t F' w c x/\ez P H κ F w r d:=by
 have qc:∀ (t:ad) (g:aI->ar (Option (t.aj×List Nat))),t.eG=true->(∀ {av:aI} {v:Value} {x:t.aj} {l:List Nat},(g av).run H=some (x,l)->iZ H κ F' l->bA P H κ F w av v->eu P t F' w v x)->
   ∀ {cs:List aI} {aE:List Value} {x:t.aj} {l:List Nat} {r:List aI},(match cs with | c::r=>(g c).map λo=>o.map λ(x,l)=>(x,l,r) | []=>.none:ar (Option (t.aj×List Nat×List aI))).run H=some (x,l,r)->
   iZ H κ F' l->ez P H κ F w cs aE->∃ c d,aE=c++d/\bI P t F' w c x/\ez P H κ F w r d:=by
  intro t g aF ay cs aE x l r h al a_;cases cs with
  | nil=>cases h
  | cons c cs=>
   cases aE with
   | nil=>exact a_.elim
   | cons v aE=>
    simp only[ar.map,ar.run_bind,ar.bO,Option.map_eq_some_iff,Prod.mk.injEq]at h;obtain⟨⟨y,m⟩,bj,rfl,rfl,rfl⟩:=h;refine⟨[v],aE,rfl,?_,a_.2⟩;exact ((dU aF).1 (ay bj al a_.1.1)).2
 have eP:∀ (t:ad),t.eG=true->∀ {cs:List aI} {aE:List Value} {x:t.aj} {l:List Nat} {r:List aI},(match cs with | c::r=>(dW t c).map λo=>o.map λ(x,l)=>(x,l,r) | []=>.none:ar (Option (t.aj×List Nat×List aI))).run H=some (x,l,r)->
   iZ H κ F' l->ez P H κ F w cs aE->∃ c d,aE=c++d/\bI P t F' w c x/\ez P H κ F w r d:=
  λt aF=>qc t (dW t) aF λh al af=>J7 aU bo aF h al af
 intro t;induction t with
 | bool=>intro cs aE x l r h al a_;exact eP _ rfl h al a_
 | int k=>intro cs aE x l r h al a_;exact eP (.int k) rfl h al a_
 | str=>intro cs aE x l r h al a_;exact eP _ rfl h al a_
 | cU=>
  intro cs aE x l r h al a_;simp only[im,ar.bO,Option.some.injEq,Prod.mk.injEq]at h;obtain⟨_,rfl,rfl⟩:=h;exact⟨[],aE,rfl,rfl,a_⟩
 | st t aL=>intro cs aE x l r h al a_;exact aL h al a_
 | aB a b fC eM=>
  intro cs aE x l r h al a_;simp only[im,ar.e6,Option.bind_eq_some_iff,ar.bO,Option.some.injEq,Prod.mk.injEq]at h;obtain⟨⟨y,m,q⟩,E,⟨z,dA,q'⟩,U,rfl,rfl,rfl⟩:=h;obtain⟨c,d,rfl,bE,c2⟩:=fC E al.left a_;obtain⟨c',vb,rfl,d1,d2⟩:=eM U al.right c2;exact⟨c++c',vb,by simp,⟨c,c',rfl,bE,d1⟩,d2⟩
 | slice e aL=>intro cs aE x l r h al a_;exact eP (.slice e) rfl h al a_
 | array n e aL=>
  intro cs aE xs l r h al a_;simp only[im]at h;have key:∀ (n:Nat) {cs:List aI} {aE:List Value} {xs:List e.aj} {l:List Nat} {r:List aI},(n.rec (motive:=λ_=>List aI->ar (Option (List e.aj×List Nat×List aI))) (λcs=>.ret (some ([],[],cs)))
     (λ_ aL cs=>(im e cs).cR λ(x,l,r)=>(aL r).cR λ(xs,m,q)=>.ret (some (x::xs,l++m,q))) cs).run H=some (xs,l,r)->
    iZ H κ F' l->ez P H κ F w cs aE->
    ∃ fq d,aE=List.flatten fq++d/\fq.length=n/\xs.length=n/\(∀ i (h:i<xs.length) (dw:i<fq.length),bI P e F' w fq[i] xs[i])/\ez P H κ F w r d:=by
   intro n;induction n with
   | zero=>
    intro cs aE xs l r h al a_;cases h;exact⟨[],aE,rfl,rfl,rfl,λi G=>(by simp),a_⟩
   | succ n B7=>
    intro cs aE xs l r h al a_;simp only[ar.e6,Option.bind_eq_some_iff,ar.bO,Option.some.injEq,Prod.mk.injEq]at h;obtain⟨⟨y,m,q⟩,E,⟨z,dA,q'⟩,U,rfl,rfl,rfl⟩:=h;obtain⟨c,d,rfl,bE,c2⟩:=aL E al.left a_;obtain⟨fq,vb,rfl,d1,d2,d3,d4⟩:=B7 U al.right c2;refine⟨c::fq,vb,by simp,by grind,by grind,λi G dM=>?_,d4⟩;grind
  obtain⟨fq,d,az,aN,cL,ee,hv⟩:=key n h al a_;exact⟨fq.flatten,d,az,⟨fq,rfl,aN,cL,ee⟩,hv⟩
 | bG e aL=>intro cs aE x l r h al a_;exact qc (.bG e) (tC e (im e)) rfl (λh al af=>RB aU bo aL h al af) h al a_
 | map k v w2 w3=>intro cs aE x l r h al a_;exact eP (.map k v) rfl h al a_
 | fn a b fC eM=>intro cs aE x l r h al a_;exact eP (.fn a b) rfl h al a_
 | ct a aL=>intro cs aE x l r h al a_;exact eP (.ct a) rfl h al a_
 | et=>intro cs aE x l r h al a_;exact eP .et rfl h al a_
theorem mq(aU:∀ b,cG P H κ F w b)(bo:∀ r,F r->F' r){t:ad}{av:aI}{v:Value}{x:t.aj}{l:List Nat}(h:(dC t av).run H=some (x,l))
  (al:iZ H κ F' l) (af:bA P H κ F w av v):eu P t F' w v x:=by
 have cj:(ku t av).run H=some (x,l)->eu P t F' w v x:=by
  intro h;unfold ku at h;split at h
  ·exact RB aU bo (λh al a_=>J9 aU bo _ h al a_) h al af
  ·split at h
   ·rename_i aF;exact J7 aU bo aF h al af
   ·cases h
 cases av with
 | val cZ y=>
  simp only[dC,ar.bO,Option.map_eq_some_iff,Prod.mk.injEq]at h;obtain⟨z,bj,rfl,rfl⟩:=h;exact (FC bj af).mono bo (c8.refl F w)
 | agg n f=>
  simp only[dC]at h;split at h
  ·cases h
  ·simp only[ar.e6,Option.bind_eq_some_iff,ar.bO]at h;obtain⟨⟨y,m,q⟩,E,U⟩:=h;split at U
   ·rename_i hc;simp only[Bool.and_eq_true,List.isEmpty_iff]at hc;simp only[Option.some.injEq,Prod.mk.injEq]at U;obtain⟨rfl,rfl⟩:=U;obtain⟨aE,rfl,a6,bL⟩:=af;obtain⟨c,d,rfl,bE,c2⟩:=J9 aU bo t E al (B6 a6 bL);rw[hc.1]at c2;cases d with
    | cons _ _=>exact c2.elim
    | nil=>
     rw[List.append_nil]at *
     have hlen:=hT t bE;have aD:=hc.2;cases t<;>simp only[ad.isAgg,Bool.false_eq_true]at aD
     ·exact⟨⟨c.toArray,rfl,by simpa [ad.size]using hlen⟩,by simpa [Value.cells]using bE⟩
     ·exact⟨⟨c.toArray,rfl,by simpa [ad.size]using hlen⟩,by simpa [Value.cells]using bE⟩
   grind
 | undef=>exact cj h
 | hF b a=>exact cj h
 | ba b g off=>exact cj h
 | own b g=>exact cj h
 | oy b g i off=>exact cj h
 | ik b g i=>exact cj h
 | dV cZ y=>exact cj h
 | fJ b g=>exact cj h
 | iC k n c=>exact cj h
 | r9 k n c=>exact cj h
 | p9 n f=>exact cj h
 | cx=>exact cj h
 | jG u=>exact cj h
 | j6 b g=>exact cj h
 | aW l aM L n st=>exact cj h
 | hg l=>exact cj h
 | w7 e xs=>exact cj h
 | sub b g a1 G=>exact cj h
end
def ad.pure:ad->Bool
 | .bool | .int _ | .str | .cU=>true
 | .st t=>t.pure
 | .aB a b=>a.pure&&b.pure
 | .array _ e=>e.pure
 | _=>false
theorem ac9{P:Program}{F F':Nat->Prop}{w w':World}:∀ (t:ad) {cs:List Value} {x:t.aj},t.pure=true->bI P t F w cs x->bI P t F' w' cs x:=by
 intro t;induction t with
 | bool=>intro cs x _ h;exact h
 | int k=>intro cs x _ h;exact h
 | str=>intro cs x _ h;exact h
 | cU=>intro cs x _ h;exact h
 | st t aL=>intro cs x aF h;exact aL aF h
 | aB a b fC eM=>
  intro cs x aF h;simp only[ad.pure,Bool.and_eq_true]at aF;obtain⟨c,d,rfl,a_,aa⟩:=h;exact⟨c,d,rfl,fC aF.1 a_,eM aF.2 aa⟩
 | slice e aL=>intro cs x aF;cases aF
 | array n e aL=>
  intro cs x aF h;obtain⟨fq,rfl,E,U,ah⟩:=h;exact⟨fq,rfl,E,U,λi G dM=>aL aF (ah i G dM)⟩
 | bG e aL=>intro cs x aF;cases aF
 | map k v w2 w3=>intro cs x aF;cases aF
 | fn a b fC eM=>intro cs x aF;cases aF
 | ct a aL=>intro cs x aF;cases aF
 | et=>intro cs x aF;cases aF
end Go.Fer
namespace Go.Fer
open Go.RowKit
section
variable {P:Program} {F:Nat->Prop} {w:World}
theorem ac_{t:ad}{x y:t.aj}(h:eV t t x=some y):y=x:=by
 obtain⟨e,rfl⟩:=kR h;rfl
theorem RC:∀ (t:ad) {f:Nat} {cs:List Value} {x:t.aj} {s:ad} {y:s.aj},bI P t F w cs x->u' t x f=some ⟨s,y⟩->
  ∃ bE c2 c3,cs=bE++(c2++c3)/\bI P s F w c2 y/\mo t f=some (s,bE.length):=by
 have eP:∀ (t:ad),(∀ a b,t≠.aB a b)->t≠.cU->∀ {f:Nat} {cs:List Value} {x:t.aj} {s:ad} {y:s.aj},bI P t F w cs x->u' t x f=some ⟨s,y⟩->
   ∃ bE c2 c3,cs=bE++(c2++c3)/\bI P s F w c2 y/\mo t f=some (s,bE.length):=by
  intro t E U f cs x s y h ao;cases f with
  | zero=>
   have e:u' t x 0=some ⟨t,x⟩:=by cases t<;>first | rfl | grind | grind
   have a7:mo t 0=some (t,0):=by cases t<;>first | rfl | grind | grind
   rw[e]at ao;cases ao;exact⟨[],cs,[],by simp,h,a7⟩
  | succ f=>
   have e:u' t x (f+1)=none:=by cases t<;>first | rfl | grind
   grind
 intro t;induction t with
 | aB a b fC eM=>
  intro f cs x s y h ao;simp only[bI]at h;obtain⟨c,d,rfl,a_,aa⟩:=h;cases f with
  | zero=>
   simp only[u',Option.some.injEq,Sigma.mk.injEq]at ao;obtain⟨rfl,ao⟩:=ao;cases ao;exact⟨[],c,d,by simp,a_,rfl⟩
  | succ f=>
   obtain⟨bE,c2,c3,rfl,aQ,aS⟩:=eM aa ao;refine⟨c++bE,c2,c3,by simp,aQ,?_⟩;simp[mo,aS,hT a a_]
 | cU=>intro f cs x s y _ ao;cases f<;>cases ao
 | bool=>grind
 | int k=>grind
 | str=>grind
 | st t _=>grind
 | slice e _=>grind
 | array n e _=>grind
 | bG e _=>grind
 | map k v _ _=>grind
 | fn a b _ _=>grind
 | ct a _=>grind
 | et=>grind
theorem RD:∀ (t:ad) {off:Nat} {cs:List Value} {x:t.aj} {s:ad} {y:s.aj},bI P t F w cs x->r' t x off s=some y->
  ∃ bE c2 c3,cs=bE++(c2++c3)/\bE.length=off/\bI P s F w c2 y:=by
 have eP:∀ (t:ad) {off:Nat} {cs:List Value} {x:t.aj} {s:ad} {y:s.aj},bI P t F w cs x->(if off=0 then eV t s x else none)=some y->
   ∃ bE c2 c3,cs=bE++(c2++c3)/\bE.length=off/\bI P s F w c2 y:=by
  intro t off cs x s y h ao;split at ao
  ·rename_i ag;exact⟨[],cs,[],by simp,ag.symm,tD ao h⟩
  grind
 intro t;induction t with
 | aB a b fC eM=>
  intro off cs x s y h ao;simp only[bI]at h;obtain⟨c,d,rfl,a_,aa⟩:=h;simp only[r']at ao;split at ao
  ·grind
  ·obtain⟨bE,c2,c3,rfl,aQ,aS⟩:=eM aa ao;have:=hT a a_;grind
 | st t aL=>
  intro off cs x s y h ao;simp only[r']at ao;split at ao
  ·rename_i ag;exact⟨[],cs,[],by simp,ag.1.symm,tD ao h⟩
  ·simp only[bI]at h;grind
 | cU=>intro off cs x s y _ ao;cases ao
 | array n e _=>intro off cs x s y _ ao;cases ao
 | bool=>intro off cs x s y h ao;exact eP _ h ao
 | int k=>intro off cs x s y h ao;exact eP (.int k) h ao
 | str=>intro off cs x s y h ao;exact eP _ h ao
 | slice e _=>intro off cs x s y h ao;exact eP (.slice e) h ao
 | bG e _=>intro off cs x s y h ao;exact eP (.bG e) h ao
 | map k v _ _=>intro off cs x s y h ao;exact eP (.map k v) h ao
 | fn a b _ _=>intro off cs x s y h ao;exact eP (.fn a b) h ao
 | ct a _=>intro off cs x s y h ao;exact eP (.ct a) h ao
 | et=>intro off cs x s y h ao;exact eP .et h ao
theorem ac':∀ (t:ad) {off:Nat} {cs bk:List Value} {x dL:t.aj} {s:ad} {y:s.aj},bI P t F w cs x->xa t x off s y=some dL->bI P s F w bk y->
  ∃ bE c2 c3,cs=bE++(c2++c3)/\bE.length=off/\c2.length=s.size/\bI P t F w (bE++(bk++c3)) dL:=by
 have eP:∀ (t:ad) {off:Nat} {cs bk:List Value} {x dL:t.aj} {s:ad} {y:s.aj},bI P t F w cs x->(if off=0 then eV s t y else none)=some dL->bI P s F w bk y->
   ∃ bE c2 c3,cs=bE++(c2++c3)/\bE.length=off/\c2.length=s.size/\bI P t F w (bE++(bk++c3)) dL:=by
  intro t off cs bk x dL s y h ao au;split at ao
  ·rename_i ag;obtain⟨e,rfl⟩:=kR ao;subst e;exact⟨[],cs,[],by simp,ag.symm,hT s h,by grind⟩
  grind
 intro t;induction t with
 | aB a b fC eM=>
  intro off cs bk x dL s y h ao au;simp only[bI]at h;obtain⟨c,d,rfl,a_,aa⟩:=h;simp only[xa]at ao;split at ao
  ·simp only[Option.map_eq_some_iff]at ao;obtain⟨z,bj,rfl⟩:=ao;obtain⟨bE,c2,c3,rfl,aQ,aS,bN⟩:=fC a_ bj au;exact⟨bE,c2,c3++d,by simp,aQ,aS,⟨_,d,by simp,bN,aa⟩⟩
  ·simp only[Option.map_eq_some_iff]at ao;obtain⟨z,bj,rfl⟩:=ao;obtain⟨bE,c2,c3,rfl,aQ,aS,bN⟩:=eM aa bj au;have:=hT a a_;exact⟨c++bE,c2,c3,by simp,by grind,aS,⟨c,_,by simp,a_,bN⟩⟩
 | st t aL=>
  intro off cs bk x dL s y h ao au;simp only[xa]at ao;split at ao
  ·rename_i ag;obtain⟨ag,e⟩:=ag;subst e;have:=ac_ ao;subst this;exact⟨[],cs,[],by simp,ag.symm,hT _ h,by grind⟩
  ·simp only[bI]at h ⊢;grind
 | cU=>intro off cs bk x dL s y _ ao;cases ao
 | array n e _=>intro off cs bk x dL s y _ ao;cases ao
 | bool=>intro off cs bk x dL s y h ao au;exact eP _ h ao au
 | int k=>intro off cs bk x dL s y h ao au;exact eP (.int k) h ao au
 | str=>intro off cs bk x dL s y h ao au;exact eP _ h ao au
 | slice e _=>intro off cs bk x dL s y h ao au;exact eP (.slice e) h ao au
 | bG e _=>intro off cs bk x dL s y h ao au;exact eP (.bG e) h ao au
 | map k v _ _=>intro off cs bk x dL s y h ao au;exact eP (.map k v) h ao au
 | fn a b _ _=>intro off cs bk x dL s y h ao au;exact eP (.fn a b) h ao au
 | ct a _=>intro off cs bk x dL s y h ao au;exact eP (.ct a) h ao au
 | et=>intro off cs bk x dL s y h ao au;exact eP .et h ao au
end
def j8:ad->List Value->Option (List Value)
 | .cU,cs=>some cs
 | .st t,cs=>j8 t cs
 | .aB a b,cs=>(j8 a cs).bind (j8 b)
 | .array n e,cs=>n.rec (motive:=λ_=>List Value->Option (List Value)) some (λ_ aL cs=>(j8 e cs).bind aL) cs
 | .bool,cs=>match cs with | .bool false::r=>some r | _=>none
 | .int k,cs=>match cs with | .int k' n::r=>if k'=k/\n=0 then some r else none | _=>none
 | .str,cs=>match cs with | .string s::r=>if s.size=0 then some r else none | _=>none
 | .slice _,cs=>match cs with | .slice none 0 0::r=>some r | _=>none
 | .bG _,cs=>match cs with | .pointer none::r=>some r | _=>none
 | .map _ _,cs=>match cs with | .map none::r=>some r | _=>none
 | .fn _ _,cs=>match cs with | .nilFunc::r=>some r | _=>none
 | .ct _,cs=>match cs with | .nilFunc::r=>some r | _=>none
 | .et,cs=>match cs with | .nilFunc::r=>some r | _=>none
theorem RE(k:IntKind):fU k 0:=by cases k<;>decide
theorem vc{P:Program}{H:Nat->bK}{κ:Nat->bB}{F:Nat->Prop}{w:World}:∀ (t:ad) {cs r:List Value},j8 t cs=some r->
  ∃ c,cs=c++r/\bI P t F w c t.df/\ez P H κ F w (r_ t) c:=by
 intro t;induction t with
 | cU=>intro cs r h;cases h;exact⟨[],by simp,rfl,trivial⟩
 | st t aL=>intro cs r h;exact aL h
 | aB a b fC eM=>
  intro cs r h;simp only[j8,Option.bind_eq_some_iff]at h;obtain⟨q,E,U⟩:=h;obtain⟨c,rfl,bE,c2⟩:=fC E;obtain⟨d,rfl,d1,d2⟩:=eM U;exact⟨c++d,by simp,⟨c,d,rfl,bE,d1⟩,c2.append d2⟩
 | array n e aL=>
  intro cs r h;simp only[j8]at h;have key:∀ (n k:Nat) {cs r:List Value},n.rec (motive:=λ_=>List Value->Option (List Value)) some (λ_ aL cs=>(j8 e cs).bind aL) cs=some r->
    ∃ fq:List (List Value),cs=fq.flatten++r/\fq.length=n/\(∀ c∈fq,bI P e F w c e.df)/\ez P H κ F w ((List.range' k n).flatMap λ_=>r_ e) fq.flatten:=by
   intro n;induction n with
   | zero=>intro k cs r h;cases h;exact⟨[],by simp,rfl,by simp,trivial⟩
   | succ n B7=>
    intro k cs r h;simp only[Option.bind_eq_some_iff]at h;obtain⟨q,E,U⟩:=h;obtain⟨c,rfl,bE,c2⟩:=aL E;obtain⟨fq,rfl,d1,d2,d3⟩:=B7 (k+1) U;refine⟨c::fq,by simp,by grind,?_,?_⟩
    ·grind
    ·simp only[List.range'_succ,List.flatMap_cons,List.flatten_cons];exact c2.append d3
  obtain⟨fq,rfl,E,U,ah⟩:=key n 0 h;refine⟨fq.flatten,rfl,⟨fq,rfl,E,by simp[ad.df],λi G dM=>?_⟩,?_⟩
  ·have:(ad.array n e).df[i]=e.df:=by simp[ad.df]
   grind
  ·simp only[r_,List.range_eq_range'];exact ah
 | bool=>
  intro cs r h;simp only[j8]at h;split at h
  ·cases h;exact⟨[.bool false],rfl,rfl,⟨fh.2 rfl,rfl⟩,trivial⟩
  grind
 | int k=>
  intro cs r h;simp only[j8]at h;split at h
  ·split at h
   ·rename_i ak;obtain⟨rfl,rfl⟩:=ak;cases h;exact⟨[.int _ 0],rfl,⟨rfl,RE _⟩,⟨gW.2 ⟨rfl,RE _⟩,rfl⟩,trivial⟩
   grind
  grind
 | str=>
  intro cs r h;simp only[j8]at h;split at h
  ·rename_i s p8;split at h
   ·rename_i aD;cases h;have:s=⟨([]:List UInt8).toArray⟩:=by
     cases s with | mk d=>simp only[ByteArray.size]at aD;grind
    subst this;exact⟨[.string ⟨([]:List UInt8).toArray⟩],rfl,⟨rfl,by decide⟩,⟨ml.2 ⟨rfl,by decide⟩,rfl⟩,trivial⟩
   grind
  grind
 | slice e _=>
  intro cs r h;simp only[j8]at h;split at h
  ·cases h;exact⟨[.slice none 0 0],rfl,⟨none,0,rfl,Nat.le_refl _,by decide,λ_=>rfl,λp aq=>by simp⟩,⟨rfl,rfl⟩,trivial⟩
  grind
 | bG e _=>
  intro cs r h;simp only[j8]at h;split at h
  ·cases h;exact⟨[.pointer none],rfl,.inl ⟨rfl,rfl⟩,⟨(dU rfl).2 ⟨rfl,.inl ⟨rfl,rfl⟩⟩,rfl⟩,trivial⟩
  grind
 | map k v _ _=>
  intro cs r h;simp only[j8]at h;split at h
  ·cases h;exact⟨[.map none],rfl,.inl ⟨rfl,rfl⟩,⟨(dU rfl).2 ⟨rfl,.inl ⟨rfl,rfl⟩⟩,rfl⟩,trivial⟩
  grind
 | fn a b _ _=>
  intro cs r h;simp only[j8]at h;split at h
  ·cases h;exact⟨[.nilFunc],rfl,⟨.nilFunc,rfl,⟨rfl,rfl⟩,λF' w' _ _ _ _ args x _ _ aD=>(show False from aD).elim⟩,⟨rfl,rfl⟩,trivial⟩
  grind
 | ct a _=>
  intro cs r h;simp only[j8]at h;split at h
  ·cases h;exact⟨[.nilFunc],rfl,⟨.nilFunc,rfl,⟨rfl,rfl⟩,λF' w' _ _ _ _ aD=>(show ∃ _,False from aD).elim λ_ h=>h.elim⟩,⟨rfl,rfl⟩,trivial⟩
  grind
 | et=>
  intro cs r h;simp only[j8]at h;split at h
  ·cases h;exact⟨[.nilFunc],rfl,rfl,⟨(dU rfl).2 ⟨rfl,rfl⟩,rfl⟩,trivial⟩
  grind
def oz(P:Program)(t:ad)(id:TypeId):Bool:=
 match P.info? id with
 | some i=>i.size == t.size&&decide (i.bytes<=1024)&&(match i.zero with
  | some z=>(match j8 t z.cells.toList with | some []=>true | _=>false)&&(match t,z with
   | .st _,.agg _=>true
   | .array _ _,.agg _=>true
   | .st _,_=>false
   | .array _ _,_=>false
   | _,.agg _=>false
   | _,_=>true)
  | none=>false)
 | none=>false
def cH(P:Program):ad->Sum TypeId (List Field×Nat)->Bool
 | .aB a b, .inr (f :: g :: [], off) => f.offset == off && cH P a (.inl f.type) && a.size != 0 && f.name != "_" && (g.offset == off + a.size && cH P b (.inl g.type) && b.size != 0 && g.name != "_")
 | .aB a b, .inr (f :: g :: h :: eW, off) => f.offset == off && cH P a (.inl f.type) && a.size != 0 && f.name != "_" && cH P b (.inr (g :: h :: eW, off + a.size))
 | .st t,.inl id=>oz P (.st t) id&&!P.stoodInHeld id&&!P.eqGuardType P.depth id&&match P.underlying id with
  | some (.struct eW)=>(match eW.toList with
   | []=>decide (t=.cU)
   | [f] => f.offset == 0 && cH P t (.inl f.type) && t.size != 0 && f.name != "_"
   | l=>cH P t (.inr (l,0)))
  | _=>false
 | .bool,.inl id=>oz P .bool id&&(match P.underlying id with | some .bool=>true | _=>false)
 | .int k,.inl id=>oz P (.int k) id&&(match P.underlying id with | some (.int k')=>decide (k'=k) | _=>false)
 | .str,.inl id=>oz P .str id&&(match P.underlying id with | some .string=>true | _=>false)
 | .slice e,.inl id=>oz P (.slice e) id&&(match P.underlying id with | some (.slice i)=>cH P e (.inl i)&&e.size != 0 | _=>false)
 | .array n e,.inl id=>oz P (.array n e) id&&(match P.underlying id with | some (.array m i)=>decide (m=n)&&cH P e (.inl i)&&e.size != 0 | _=>false)
 | .bG e,.inl id=>oz P (.bG e) id&&(match P.underlying id with | some (.pointer i)=>cH P e (.inl i)&&e.size != 0 | _=>false)
 | .map k v,.inl id=>oz P (.map k v) id&&(match P.underlying id with | some (.map i j)=>cH P k (.inl i)&&cH P v (.inl j) | _=>false)
 | .fn a b,.inl id=>oz P (.fn a b) id&&(match P.underlying id with | some (.func _ _ _)=>true | _=>false)
 | .ct a,.inl id=>oz P (.ct a) id&&(match P.underlying id with | some (.func _ _ _)=>true | _=>false)
 | .et,.inl id=>oz P .et id&&(match P.underlying id with | some (.func _ _ _)=>true | _=>false)
 | _,_=>false
def b9(P:Program)(t:ad)(id:TypeId):Prop:=cH P t (.inl id)=true
theorem b9.kv{P:Program}{t:ad}{id:TypeId}(h:b9 P t id):oz P t id=true:=by
 unfold b9 at h;cases t<;>simp only[cH,Bool.and_eq_true,Bool.false_eq_true]at h<;>first | exact h.1.1.1 | exact h.1
theorem kx{P:Program}{t:ad}{id:TypeId}(h:oz P t id=true):∃ i z,P.info? id=some i/\i.size=t.size/\i.bytes<=1024/\i.zero=some z/\
  j8 t z.cells.toList=some []/\((∃ cs,z=.agg cs)<->t.isAgg=true):=by
 unfold oz at h;split at h
 ·rename_i i G;simp only[Bool.and_eq_true,beq_iff_eq,decide_eq_true_eq]at h;obtain⟨⟨E,U⟩,ah⟩:=h;split at ah
  ·rename_i z bj;simp only[Bool.and_eq_true]at ah;obtain⟨a6,bL⟩:=ah;refine⟨i,z,G,E,U,bj,?_,?_⟩
   ·grind
   ·cases t<;>cases z<;>simp_all[ad.isAgg]
  grind
 grind
end Go.Fer
namespace Go.Fer
open Go.RowKit
structure eC where
 ca:Prop
 c:Prop
 e':aI
 hH:List (Nat×bK)
def use:aI->Prop×aI
 | .hF b a=>(b=true,a)
 | a=>(True,a)
def xb:Value->aI
 | .bool b=>.val .bool b
 | .int k n=>if fU k n then .val (.int k) n else .jG (.int k n)
 | .string s=>if s.size<1048576 then .val .str s.data.toList else .jG (.string s)
 | .slice none 0 0=>.cx
 | v=>.jG v
def a8(aH:dG)(s:Nat->aI):Operand->aI
 | .tmp t=>s t
 | .const v=>xb v
 | .func f=>match aH.tA f with
  | some v=>.val (.fn v.ts v.aW) v.sh
  | none=>.iC f 0 λ_=>.undef
 | .global _=>.undef
structure aO where
 ts:ad
 aW:ad
 pre:ts.aj->Prop
 g:ts.aj->aW.aj
def ky:(t:ad)->t.aj->Nat->aI
 | .aB a _,x,0=>.val a x.1
 | .aB _ b,x,i+1=>ky b x.2 i
 | t,x,0=>.val t x
 | _,_,_+1=>.undef
def j9:ad->Nat
 | .aB _ b=>j9 b+1
 | .cU=>0
 | _=>1
def q0(t:ad)(x:t.aj):aI:=
 match t with
 | .aB a b=>.p9 (j9 (.aB a b)) (ky (.aB a b) x)
 | .cU=>.jG (.tuple #[])
 | t=>.val t x
def i_:(t:ad)->List aI->ar (Option (t.aj×List Nat))
 | .aB a b,v::aE=>(dC a v).cR λ(x,l)=>(i_ b aE).cR λ(y,m)=>.ret (some ((x,y),l++m))
 | .aB _ _,[]=>.none
 | .cU,[]=>.ret (some ((),[]))
 | .cU,_::_=>.none
 | t,[v]=>dC t v
 | _,_=>.none
def jL:List Nat->ar (List (Nat×bK))
 | []=>.ret []
 | b::l=>.eU b λx=>(jL l).bind λr=>match x.body with
  | .bh e xs=>.ret ((b,⟨x.gen,.hG e xs⟩)::r)
  | .mp k v es=>.ret ((b,⟨x.gen,.jk k v es⟩)::r)
  | .cells t f=>(im t ((List.range t.size).map f)).bind λo=>.ret (match o with
   | some (y,_,[])=>(b,⟨x.gen,.gL t y⟩)::r
   | _=>r)
  | _=>.ret r
def cellsOf(t:ad)(av:aI):Option (List aI):=
 match t,av with
 | .st t,.val (.st cZ) x=>if cZ=t then some (nR cZ x) else none
 | .st t,.agg n f=>if n=t.size then some ((List.range n).map f) else none
 | .array n e,.val (.array i' a7) x=>if i'=n/\a7=e then some (nR (.array i' a7) x) else none
 | .array n e,.agg m f=>if m=n*e.size then some ((List.range m).map f) else none
 | t,av=>if t.eG then (match av with
  | .val cZ _=>if cZ.eG then some [av] else none
  | .ba _ _ _ | .own _ _ | .oy _ _ _ _ | .dV _ _ | .fJ _ _ | .iC _ _ _ | .cx | .sub _ _ _ _=>some [av]
  | .jG (.agg _) | .jG (.tuple _)=>none
  | .jG _=>some [av]
  | _=>none) else none
def aI.mr:aI->Option (IntKind×Int)
 | .val (.int k) x=>some (k,x)
 | _=>none
def aI.tE:aI->Option (List UInt8)
 | .val .str x=>some x
 | _=>none
def zi(op:BinOp)(k:IntKind)(a b:Int):Option (Prop×aI):=
 match op with
 | .add=>some (True,.val (.int k) (k.wrap (a+b)))
 | .sub=>some (True,.val (.int k) (k.wrap (a - b)))
 | .mul=>some (True,.val (.int k) (k.wrap (a*b)))
 | .quo=>some (b≠0,.val (.int k) (k.wrap (a.tdiv b)))
 | .rem=>some (b≠0,.val (.int k) (a.tmod b))
 | .and=>some (True,.val (.int k) (lU k a b))
 | .or=>some (True,.val (.int k) (Rw k a b))
 | .xor=>some (True,.val (.int k) (Rx k a b))
 | .andNot=>some (True,.val (.int k) (Ry k a b))
 | .eql=>some (True,.val .bool (decide (a=b)))
 | .neq=>some (True,.val .bool (decide (a≠b)))
 | .lss=>some (True,.val .bool (decide (a<b)))
 | .leq=>some (True,.val .bool (decide (a<=b)))
 | .gtr=>some (True,.val .bool (decide (a > b)))
 | .geq=>some (True,.val .bool (decide (a>=b)))
 | _=>none
def J_(op:BinOp)(k:IntKind)(a b:Int):Option (Prop×aI):=
 match op with
 | .shl=>some (0<=b,.val (.int k) (ac7 k a b))
 | .shr=>some (0<=b,.val (.int k) (jl k a b))
 | _=>none
def B8(op:BinOp)(a b:List UInt8):Option (Prop×aI):=
 match op with
 | .add=>some (bQ (a.length+b.length),.val .str (a++b))
 | .eql=>some (True,.val .bool (decide (a=b)))
 | .neq=>some (True,.val .bool (decide (a≠b)))
 | .lss=>some (True,.val .bool (Op.bytesLess a b))
 | .geq=>some (True,.val .bool (!Op.bytesLess a b))
 | _=>none
def ad.j_:ad->Nat
 | .st t=>t.j_+1
 | .aB a b=>max a.j_ b.j_
 | _=>1
def zj(op:BinOp)(t:ad)(x y:aI):ar (Option (Prop×aI)):=
 (match t,x,y with
 | .bG _,.val (.bG _) p,.jG (.pointer none)=>.ret (some p.isNone)
 | .bG _,.dV _ _,.jG (.pointer none)=>.ret (some false)
 | .bG _,.ba b g _,.jG (.pointer none)=>.eU b λz=>.ret (if z.gen=g&&z.body.fK then some false else none)
 | t,x,y=>if t.kT&&decide (t.j_<=100) then (dC t x).cR λ(a,_)=>(dC t y).cR λ(b,_)=>.ret (some (gM t a b)) else .none:ar (Option Bool)).cR λe=>
 .ret (match op with
  | .eql=>some (True,.val .bool e)
  | .neq=>some (True,.val .bool (!e))
  | _=>none)
def bP(ca c:Prop)(v:aI):ar (Option eC):=.ret (some ⟨ca,c,v,[]⟩)
def FE(t:ad)(av:aI):ar (Option (Prop×Int)):=
 match t with
 | .slice _=>match av with
  | .val (.slice _) xs=>.ret (some (True,xs.length))
  | .cx=>.ret (some (True,0))
  | .own b g=>.eU b λx=>.ret (if x.gen=g&&x.body.fi then some (True,x.body.len) else none)
  | .sub b g a1 G=>.eU b λx=>.ret (if x.gen=g&&x.body.fi then some (True,((G - a1:Nat):Int)) else none)
  | _=>.none
 | .str=>match av with
  | .val .str xs=>.ret (some (True,xs.length))
  | _=>.none
 | .map _ _=>match av with
  | .val (.map _ _) xs=>.ret (some (bQ xs.length,xs.length))
  | .fJ b g=>.eU b λx=>.ret (if x.gen=g then (match x.body with | .mp _ _ es=>some (bQ es.length,(es.length:Int)) | .jk _ _ es=>some (bQ es.length,(es.length:Int)) | _=>none) else none)
  | _=>.none
 | _=>.none
def zk(t:ad):aI->ar (Option aI)
 | .dV cZ x=>.ret (if cZ=t/\(t.eG||t.isAgg)=true then some (.val cZ x) else none)
 | .ba b g off=>.eU b λx=>.ret (if x.gen=g then (match x.body with
   | .cells t0 f=>if t.eG then (if off<t0.size then some (f off) else none) else if t.isAgg then (if off+t.size<=t0.size then some (.agg t.size λi=>f (off+i)) else none) else none
   | .gL t0 y=>if t.eG||t.isAgg then (r' t0 y off t).map (.val t) else none
   | _=>none) else none)
 | .oy b g i off=>.eU b λx=>.ret (if x.gen=g then (match x.body with
   | .bh e xs=>if t.eG||t.isAgg then (r' e (xs.getD i e.df) off t).map (.val t) else none
   | .hG e xs=>if t.eG||t.isAgg then (r' e (xs.getD i e.df) off t).map (.val t) else none
   | _=>none) else none)
 | _=>.none
def putCells(f:Nat->aI)(off:Nat)(l:List aI):Nat->aI:=λi=>if off<=i/\i<off+l.length then l.getD (i - off) .undef else f i
def RF(t:ad)(p v:aI):ar (Option (List (Nat×bK))):=
 match p with
 | .ba b g off=>.eU b λx=>.ret (if x.gen=g then (match x.body with
   | .cells t0 f=>(cellsOf t v).bind λl=>if off+l.length<=t0.size/\l.length=t.size then some [(b,⟨x.gen,.cells t0 (putCells f off l)⟩)] else none
   | _=>none) else none)
 | .oy b g i off=>(dC t v).cR λ(y,l)=>(jL l).bind λwl=>.eU b λx=>.ret (if x.gen=g/\!l.contains b then (match x.body with
   | .bh e xs=>(xa e (xs.getD i e.df) off t y).map λz=>wl++[(b,⟨x.gen,.bh e (xs.set i z)⟩)]
   | _=>none) else none)
 | _=>.none
def RG(bH:ad)(x:aI)(i:Int):ar (Option (Prop×aI)):=
 match x with
 | .val (.slice e) xs=>.ret (if e=bH then some (0<=i/\i<(xs.length:Int),.dV e (kS e xs i)) else none)
 | .own b g=>.eU b λz=>.ret (if z.gen=g then (match z.body with
   | .bh e xs=>if e=bH then some (0<=i/\i<(xs.length:Int),.oy b g i.toNat 0) else none
   | .hG e xs=>if e=bH then some (0<=i/\i<(xs.length:Int),.dV e (kS e xs i)) else none
   | _=>none) else none)
 | .sub b g a1 G=>.eU b λz=>.ret (if z.gen=g then (match z.body with
   | .bh e _=>if e=bH then some (0<=i/\i<((G - a1:Nat):Int),.oy b g (a1+i.toNat) 0) else none
   | .hG e xs=>if e=bH then some (0<=i/\i<((G - a1:Nat):Int),.dV e (kS e xs ((a1:Int)+i))) else none
   | _=>none) else none)
 | .cx=>.ret (some (False,.dV bH bH.df))
 | _=>.none
def du:Option Int->Int | some l=>l | none=>0
def fE(n:Nat):Option Int->Int | some h=>h | none=>n
def B9(a1 G:Option Int)(n m:Nat):Nat:=match a1,G with | some _,some _=>m | _,_=>n
def RH(bH:ad)(x:aI)(a1 G:Option Int):ar (Option (Prop×aI)):=
 match x with
 | .val (.slice e) xs=>.ret (if e=bH then some (0<=du a1/\du a1<=fE xs.length G/\fE xs.length G<=(xs.length:Int),.val (.slice e) ((xs.take (fE xs.length G).toNat).drop (du a1).toNat)) else none)
 | .cx=>.ret (some (0<=du a1/\du a1<=fE 0 G/\fE 0 G<=0,.cx))
 | .own b g=>.eU b λz=>.ret (if z.gen=g&&z.body.fi&&z.body.e4 == bH.size then some (0<=du a1/\du a1<=fE z.body.len G/\fE z.body.len G<=(z.body.len:Int),.sub b g (du a1).toNat (fE z.body.len G).toNat) else none)
 | .sub b g fj aY=>.eU b λz=>.ret (if z.gen=g&&z.body.fi&&z.body.e4 == bH.size then some (0<=du a1/\du a1<=fE (aY - fj) G/\fE (aY - fj) G<=((B9 a1 G (aY - fj) (z.body.len - fj):Nat):Int),.sub b g (fj+(du a1).toNat) (fj+(fE (aY - fj) G).toNat)) else none)
 | _=>.none
def RI(x:aI)(a1 G:Option Int):Option (Prop×aI):=
 match x with
 | .val .str xs=>some (0<=du a1/\du a1<=fE xs.length G/\fE xs.length G<=(xs.length:Int),.val .str ((xs.take (fE xs.length G).toNat).drop (du a1).toNat))
 | _=>none
def h_(d:Option Nat)(k:Nat->Nat->Option eC):ar (Option eC):=
 match d with
 | none=>.none
 | some d=>.eU d λx=>.ret (k d (x.gen+1))
def J'(d:Option Nat)(e:ad)(x y:aI)(ca:Prop):ar (Option eC):=
 match x with
 | .own b g=>.eU b λz=>match (if z.gen=g then z.body else .fD) with
  | .bh a7 xs=>if h:a7=e then (dC (.slice e) y).cR λ(ys,_)=>.ret (some ⟨ca,bQ (xs.length+ys.length),.own b (g+1),[(b,⟨g+1,.bh e ((h ▸ xs)++ys)⟩)]⟩) else .none
  | _=>.none
 | .sub b g a1 G=>.eU b λz=>match (if z.gen=g then z.body else .fD) with
  | .bh a7 xs=>if h:a7=e then (dC (.slice e) y).cR λ(ys,_)=>.ret (some ⟨ca,bQ (((xs.take G).drop a1).length+ys.length),.own b (g+2),[(b,⟨g+2,.bh e ((h ▸ (xs.take G).drop a1)++ys)⟩)]⟩) else .none
  | _=>.none
 | .cx=>(dC (.slice e) y).cR λ(ys,_)=>h_ d λb g=>some ⟨ca,bQ ys.length,.own b g,[(b,⟨g,.bh e ys⟩)]⟩
 | .w7 a7 xs=>if h:a7=e then (dC (.slice e) y).cR λ(ys,_)=>h_ d λb g=>some ⟨ca,0<ys.length/\bQ (xs.length+ys.length),.own b g,[(b,⟨g,.bh e ((h ▸ xs)++ys)⟩)]⟩ else .none
 | _=>.none
def FF(t:ad):List aI->List (Nat×aI)->Option (List aI)
 | cs,[]=>some cs
 | cs,(i,av)::r=>
  match mo t i with
  | none=>none
  | some (s,off)=>match cellsOf s av with
   | none=>none
   | some l=>if l.length=s.size/\off+s.size<=cs.length then FF t (cs.take off++(l++cs.drop (off+s.size))) r else none
def tF(e:ad)(ps:List (Nat×aI)):Nat->Nat->ar (Option (List e.aj×List Nat))
 | _,0=>.ret (some ([],[]))
 | i,n+1=>(match ps.find? (λp=>p.1 == i) with
   | some p=>dC e p.2
   | none=>.ret (some (e.df,[])):ar (Option (e.aj×List Nat))).cR λ(x,l)=>(tF e ps (i+1) n).cR λ(xs,m)=>.ret (some (x::xs,l++m))
def sa(ps:List (Nat×aI)):Prop:=ps.foldr (λp q=>match p.2 with | .hF b _=>b=true/\q | _=>q) True
def iF(ps:List (Nat×aI)):List (Nat×aI):=ps.map λp=>(p.1,(use p.2).2)
def jM(ps:List aI):Prop:=ps.foldr (λp q=>match p with | .hF b _=>b=true/\q | _=>q) True
def ln(aJ:Operand->aI):Option Operand->Option (Prop×Option Int)
 | none=>some (True,none)
 | some x=>match use (aJ x) with
  | (o,.val (.int _) n)=>some (o,some n)
  | _=>none
def FG(T:Nat->ad)(aJ:Operand->aI)(ty:TypeId)(x:Operand)(a1 G:Option Operand):ar (Option eC):=
 let (cD,dY):=use (aJ x)
 match ln aJ a1,ln aJ G with
 | some (ol,l),some (q1,h)=>match T ty with
  | .slice e=>(RH e dY l h).cR λ(c,v)=>bP (cD/\(ol/\q1)) c v
  | .str=>match RI dY l h with
   | some (c,v)=>bP (cD/\(ol/\q1)) c v
   | none=>.none
  | _=>.none
 | _,_=>.none
def RJ(bH:ad)(x:aI)(a1 G:Option Int)(m:Int):ar (Option (Prop×aI)):=
 match x with
 | .val (.slice e) xs=>.ret (if e=bH then some (0<=du a1/\du a1<=fE xs.length G/\fE xs.length G=m/\m<=(xs.length:Int),.w7 e ((xs.take m.toNat).drop (du a1).toNat)) else none)
 | .cx=>.ret (some (du a1=0/\fE 0 G=0/\m=0,.w7 bH []))
 | .own b g=>.eU b λz=>.ret (if z.gen=g&&z.body.fi then some (0<=du a1/\du a1<=fE z.body.len G/\fE z.body.len G<=m/\m<=(z.body.len:Int),.undef) else none)
 | _=>.none
def FH(T:Nat->ad)(aJ:Operand->aI)(ty:TypeId)(x:Operand)(a1 G pf:Option Operand):ar (Option eC):=
 let (cD,dY):=use (aJ x)
 match ln aJ a1,ln aJ G,ln aJ pf with
 | some (ol,l),some (q1,some h),some (vd,some m)=>match T ty with
  | .slice e=>(RJ e dY l (some h) m).cR λ(c,v)=>bP (cD/\(ol/\(q1/\vd))) c v
  | _=>.none
 | _,_,_=>.none
def B_(T:Nat->ad)(aJ:Operand->aI)(args:List Operand)(dp:List TypeId):ar (Option eC):=
 match args,dp with
 | [x],[t]=>let (cD,dY):=use (aJ x);(FE (T t) dY).cR λ(c,n)=>bP cD c (.val (.int .i64) n)
 | _,_=>.none
def B'(T:Nat->ad)(aJ:Operand->aI)(d:Option Nat)(args:List Operand)(dp:List TypeId):ar (Option eC):=
 match args,dp with
 | [x,y],[t,u]=>match T t,T u with
  | .slice e,.slice _=>let (cD,dY):=use (aJ x);let (nS,kz):=use (aJ y);J' d e dY kz (cD/\nS)
  | _,_=>.none
 | _,_=>.none
def mV(aJ:Operand->aI)(k:IntKind):List Operand->Option (Prop×z1')
 | []=>none
 | [x]=>match (use (aJ x)).2.mr with
  | some (k',n)=>if k'=k then some ((use (aJ x)).1,[n]) else none
  | none=>none
 | x::l=>match (use (aJ x)).2.mr,mV aJ k l with
  | some (k',n),some (ca,h')=>if k'=k then some ((use (aJ x)).1/\ca,n::h') else none
  | _,_=>none
def sb(aJ:Operand->aI)(f:Int->Int->Int)(args:List Operand):ar (Option eC):=
 match args with
 | x::y::l=>match (use (aJ x)).2.mr with
  | some (k,a)=>match mV aJ k (y::l) with
   | some (ca,h')=>bP ((use (aJ x)).1/\ca) True (.val (.int k) (h'.foldl f a))
   | none=>.none
  | none=>.none
 | _=>.none
def Ca(T:Nat->ad)(aJ:Operand->aI)(args:List Operand)(dp:List TypeId):ar (Option eC):=
 match args,dp with
 | [x],[t]=>match T t,use (aJ x) with
  | .slice _,(cD,.cx)=>bP cD True (.val (.int .i64) 0)
  | _,_=>.none
 | _,_=>.none
def nT(t:ad):Bool:=match t with | .aB (.slice _) .cU=>true | _=>false
def Cb(t:ad)(y:t.aj):Option ((e:ad)×List e.aj):=match t,y with | .aB (.slice e) .cU,y=>some ⟨e,y.1⟩ | _,_=>none
def FI(bf:Nat->Option aO)(aJ:Operand->aI)(d:Option Nat)(k:Nat)(args:List Operand):ar (Option eC):=
 let l:=args.map aJ
 match bf k with
 | some c=>(i_ c.ts (l.map λv=>(use v).2)).cR λ(x,bV)=>match Cb c.aW (c.g x) with
  | some y=>(jL bV).bind λwl=>h_ d λb g=>if bV.contains b then none else some ⟨jM l,c.pre x,.own b g,wl++[(b,⟨g,.bh y.1 y.2⟩)]⟩
  | none=>(if c.aW.pure then .ret [] else jL bV:ar (List (Nat×bK))).bind λwl=>.ret (some ⟨jM l,c.pre x,q0 c.aW (c.g x),wl⟩)
 | none=>.none
def zl{k v:ad}(es:List (k.aj×v.aj))(x:k.aj):Option v.aj:=(es.find? λp=>gM k x p.1).map (·.2)
def lV{k v:ad}:List (k.aj×v.aj)->k.aj->v.aj->List (k.aj×v.aj)
 | [],x,y=>[(x,y)]
 | p::es,x,y=>if gM k x p.1=true then (p.1,y)::es else p::lV es x y
def tG(k:ad):Bool:=k.kT&&decide (k.j_<=100)
def Cc(k v:ad)(m:aI):ar (Option (List (k.aj×v.aj))):=
 match m with
 | .val t es=>.ret (eV t (.map k v) es)
 | .jG (.map none)=>.ret (some [])
 | .fJ b g=>.eU b λx=>.ret (if x.gen=g then (match x.body with
   | .mp k' h9 es=>eV (.map k' h9) (.map k v) es
   | .jk k' h9 es=>eV (.map k' h9) (.map k v) es
   | _=>none) else none)
 | _=>.none
def RL(v:ad)(r:Option v.aj)(ok:Bool):aI:=
 match ok with
 | true=>.p9 2 (hi [.val v (r.getD v.df),.val .bool r.isSome])
 | false=>.val v (r.getD v.df)
def zm(T:Nat->ad)(aJ:Operand->aI)(ty:TypeId)(m x:Operand)(ok:Bool):ar (Option eC):=
 match T ty with
 | .map k v=>let (vd,Ka):=use (aJ m);let (cD,dY):=use (aJ x);if tG k&&(v.eG||v.isAgg) then
   (Cc k v Ka).cR λes=>(dC k dY).cR λ(y,_)=>
    bP (vd/\cD) True (RL v (zl es y) ok)
  else .none
 | _=>.none
def q2(T:Nat->ad)(aJ:Operand->aI)(ty:TypeId)(m x y:Operand):ar (Option eC):=
 match T ty with
 | .map k v=>let (vd,Ka):=use (aJ m);let (cD,dY):=use (aJ x);let (nS,kz):=use (aJ y);if tG k then
   match Ka with
   | .fJ b g=>(dC k dY).cR λ(x,oA)=>(dC v kz).cR λ(y,oB)=>(jL (oA++oB)).bind λwl=>.eU b λz=>.ret (if z.gen=g/\!(oA++oB).contains b then (match z.body with
     | .mp k' h9 es=>(eV (.map k' h9) (.map k v) es).map λes=>⟨vd/\cD/\nS,True,.undef,wl++[(b,⟨z.gen,.mp k v (lV es x y)⟩)]⟩
     | _=>none) else none)
   | _=>.none
  else .none
 | _=>.none
def FJ(T:Nat->ad)(aJ:Operand->aI)(d:Option Nat)(ty:TypeId)(l c:Operand):ar (Option eC):=
 match T ty with
 | .slice e=>let (ol,ada):=use (aJ l);let (qd,adb):=use (aJ c);match ada.mr,adb.mr with
  | some (.i64,n),some (.i64,m)=>h_ d λb g=>some ⟨ol/\qd,0<=n/\n=m/\bQ n.toNat,.own b g,[(b,⟨g,.bh e (List.replicate n.toNat e.df)⟩)]⟩
  | _,_=>.none
 | _=>.none
def gm{an:Type}(xs:List an)(a1:Nat)(ys:List an):List an:=xs.take a1++ys++xs.drop (a1+ys.length)
def FK(T:Nat->ad)(aJ:Operand->aI)(args:List Operand)(dp:List TypeId):ar (Option eC):=
 match args,dp with
 | [x,y],[t,u]=>match T t,T u with
  | .slice e,.slice _=>let (cD,dY):=use (aJ x);let (nS,kz):=use (aJ y);match (match dY with | .own b g=>some (b,g,0,none) | .sub b g a1 G=>some (b,g,a1,some G) | _=>none:Option (Nat×Nat×Nat×Option Nat)) with
   | some (b,g,a1,G)=>(dC (.slice e) kz).cR λ(ys,_)=>.eU b λz=>.ret (if z.gen=g then (match z.body with
     | .bh a7 xs=>if h:a7=e then some ⟨cD/\nS,True,.val (.int .i64) ((min (G.getD xs.length - a1) ys.length:Nat):Int),[(b,⟨z.gen,.bh e (gm (h ▸ xs) a1 (ys.take (G.getD xs.length - a1)))⟩)]⟩ else none
     | _=>none) else none)
   | none=>.none
  | _,_=>.none
 | _,_=>.none
def xc(aJ:Operand->aI)(args:List Operand):Option (Nat×Nat×Nat×Nat):=
 match args with
 | [x,y]=>match (use (aJ x)).2,(use (aJ y)).2 with
  | .sub b g a1 G,.sub be g' _ _=>if be=b/\g'=g then some (b,g,a1,G) else none
  | _,_=>none
 | _=>none
def Cd(T:Nat->ad)(aJ:Operand->aI)(args:List Operand)(dp:List TypeId)(b g a1 G:Nat):ar (Option eC):=
 match args,dp with
 | [x,y],[t,u]=>match T t,T u with
  | .slice e,.slice _=>let (cD,_):=use (aJ x);let (nS,kz):=use (aJ y);(dC (.slice e) kz).cR λ(ys,_)=>.eU b λz=>.ret (if z.gen=g then (match z.body with
    | .bh a7 xs=>if h:a7=e then some ⟨cD/\nS,G+ys.length<=xs.length,.sub b g a1 (G+ys.length),[(b,⟨z.gen,.bh e (gm (h ▸ xs) G ys)⟩)]⟩ else none
    | _=>none) else none)
  | _,_=>.none
 | _,_=>.none
def Ce(T:Nat->ad)(aJ:Operand->aI)(args:List Operand)(dp:List TypeId):ar (Option eC):=
 match args,dp with
 | [x],[t]=>match T t with
  | .slice e=>let (cD,dY):=use (aJ x);match dY with
   | .sub b g a1 G=>.eU b λz=>.ret (if z.gen=g then (match z.body with
     | .bh a7 xs=>if h:a7=e then some ⟨cD,True,.undef,[(b,⟨z.gen,.bh e (gm (h ▸ xs) a1 (List.replicate (G - a1) e.df))⟩)]⟩ else none
     | _=>none) else none)
   | _=>.none
  | _=>.none
 | _,_=>.none
def mW(T:Nat->ad)(bf:Nat->Option aO)(aJ:Operand->aI)(d:Option Nat)(c:Call):ar (Option eC):=
 match c.callee with
 | .builtin b=>match b with
  | .len=>B_ T aJ c.args.toList c.argTypes.toList
  | .append=>match xc aJ c.args.toList with
   | some (b,g,a1,G)=>Cd T aJ c.args.toList c.argTypes.toList b g a1 G
   | none=>B' T aJ d c.args.toList c.argTypes.toList
  | .clear=>Ce T aJ c.args.toList c.argTypes.toList
  | .copy=>FK T aJ c.args.toList c.argTypes.toList
  | .min=>sb aJ (λa b=>if b<a then b else a) c.args.toList
  | .max=>sb aJ (λa b=>if b > a then b else a) c.args.toList
  | .cap=>Ca T aJ c.args.toList c.argTypes.toList
  | _=>.none
 | .value f=>match f with
  | .func k=>FI bf aJ d k c.args.toList
  | _=>.none
 | _=>.none
def ve(ys:z1'):List UInt8:=ys.map λn=>UInt8.ofNat n.toNat
def RM(t:ad)(ca:Prop)(b g i:Nat):ar (Option eC):=
 .eU b λz=>.ret (match z.body with
  | .gp _ _ lo v=>if z.gen=g/\t.eG=true then some ⟨ca,i=lo,v,[]⟩ else none
  | _=>none)
def Kb(t:ad)(ca:Prop)(b g i:Nat)(v:aI):ar (Option eC):=
 match v with
 | .own be g'=>.eU b λz=>.ret (match z.body with
  | .gp e xs lo _=>if z.gen=g/\t.eG=true then some ⟨ca,i=lo,.undef,[(b,⟨z.gen,.gp e xs lo (.own be g')⟩)]⟩ else none
  | _=>none)
 | _=>.none
def bu(aH:dG)(T:Nat->ad)(bf:Nat->Option aO)(aJ:Operand->aI)(o:Oper):ar (Option eC):=
 match o.op with
 | .move x=>bP True True (aJ x)
 | .assign x=>match aJ x,T o.type with
  | .cx,.slice e=>h_ o.dst λb g=>some ⟨True,True,.own b g,[(b,⟨g,.bh e []⟩)]⟩
  | v,_=>bP True True v
 | .pick c a b=>match use (aJ c) with
  | (qd,.val .bool ir)=>match a,b with
   | _,.const (.bool false)=>match use (aJ a) with
    | (zn,.val .bool av)=>bP (qd/\(ir=true->zn)) True (.val .bool (ir&&av))
    | _=>.none
   | .const (.bool true),_=>match use (aJ b) with
    | (ca,.val .bool bv)=>bP (qd/\(ir=false->ca)) True (.val .bool (ir||bv))
    | _=>.none
   | _,_=>.none
  | _=>.none
 | .binOp op ty x y _=>
  let (cD,dY):=use (aJ x)
  let (nS,kz):=use (aJ y)
  match dY.mr,kz.mr with
  | some (k,a),some (k',b)=>(match op with
   | .shl | .shr=>match J_ op k a b with
    | some (c,v)=>bP (cD/\nS) c v
    | none=>.none
   | _=>if k=k' then (match zi op k a b with
    | some (c,v)=>bP (cD/\nS) c v
    | none=>.none) else .none)
  | _,_=>match dY.tE,kz.tE with
   | some a,some b=>match B8 op a b with
    | some (c,v)=>bP (cD/\nS) c v
    | none=>.none
   | _,_=>(zj op (T ty) dY kz).cR λ(c,v)=>bP (cD/\nS) c v
 | .unOp op _ x=>match op,use (aJ x) with
  | .not,(cD,.val .bool b)=>bP cD True (.val .bool (!b))
  | .neg,(cD,.val (.int k) n)=>bP cD True (.val (.int k) (k.wrap (0 - n)))
  | _,_=>.none
 | .extract x i=>match use (aJ x) with
  | (cD,.p9 n f)=>if i<n then bP cD True (f i) else .none
  | _=>.none
 | .nilCheck x=>match use (aJ x) with
  | (cD,.ik b g i)=>.eU b λz=>.ret (if z.gen=g&&z.body.fi then some ⟨cD,True,.ik b g i,[]⟩ else none)
  | (cD,.dV t d)=>bP cD True (.dV t d)
  | (cD,.val (.bG e) p)=>bP cD (p.isSome=true) (.dV e (p.getD e.df))
  | (cD,.ba b g off)=>.eU b λz=>.ret (if z.gen=g&&z.body.fK then some ⟨cD,True,.ba b g off,[]⟩ else none)
  | _=>.none
 | .fieldAddr ty x f=>match T ty with
  | .st t=>match mo t f with
   | some (_,xd)=>match use (aJ x) with
    | (cD,.ba b g off)=>.eU b λz=>.ret (if z.gen=g&&z.body.fK then some ⟨cD,True,.ba b g (off+xd),[]⟩ else none)
    | (cD,.oy b g i off)=>.eU b λz=>.ret (if z.gen=g&&z.body.fi then some ⟨cD,True,.oy b g i (off+xd),[]⟩ else none)
    | (cD,.ik b g i)=>.eU b λz=>.ret (if z.gen=g&&z.body.fi&&xd == 0 then some ⟨cD,True,.ik b g i,[]⟩ else none)
    | (cD,.dV (.st cZ) d)=>if cZ=t then (match u' cZ d f with
     | some ⟨s',y⟩=>bP cD True (.dV s' y)
     | none=>.none) else .none
    | _=>.none
   | none=>.none
  | _=>.none
 | .field ty x f=>match T ty with
  | .st t=>match use (aJ x) with
   | (cD,.val (.st cZ) d)=>if cZ=t then (match u' cZ d f with
     | some ⟨s',y⟩=>bP cD True (.val s' y)
     | none=>.none) else .none
   | _=>.none
  | _=>.none
 | .load ty x=>match use (aJ x) with
  | (cD,.ik b g i)=>RM (T ty) cD b g i
  | (cD,dY)=>(zk (T ty) dY).cR λv=>bP cD True v
 | .store ty x y=>let (nS,kz):=use (aJ y);match use (aJ x) with
  | (cD,.ik b g i)=>Kb (T ty) (cD/\nS) b g i kz
  | (cD,dY)=>(RF (T ty) dY kz).cR λwl=>.ret (some ⟨cD/\nS,True,.undef,wl⟩)
 | .alloc ty=>h_ o.dst λb g=>if T ty=.cU then none else some ⟨True,True,.ba b g 0,[(b,⟨g,.cells (T ty) (hi (r_ (T ty)))⟩)]⟩
 | .box ty x=>let (cD,dY):=use (aJ x);match cellsOf (T ty) dY with
  | some l=>h_ o.dst λb g=>if l.length=(T ty).size then some ⟨cD,True,.ba b g 0,[(b,⟨g,.cells (T ty) (hi l)⟩)]⟩ else none
  | none=>.none
 | .build ty ps=>let l:=ps.toList.map λp=>(p.1,aJ p.2);match T ty with
  | .st t=>match FF t (r_ t) (iF l) with
   | some cs=>bP (sa l) True (.agg cs.length (hi cs))
   | none=>.none
  | .array m e=>(tF e (iF l) 0 m).cR λ(xs,bV)=>if (bV.isEmpty&&decide ((iF l).map (·.1)).Nodup&&(iF l).all (λp=>decide (p.1<m)))=true then bP (sa l) True (.val (.array m e) xs) else .none
  | _=>.none
 | .buildSlice ty n ps=>let l:=ps.toList.map λp=>(p.1,aJ p.2);match T ty with
  | .slice e=>(tF e (iF l) 0 n).cR λ(xs,bV)=>(jL bV).bind λwl=>h_ o.dst λb g=>if n*e.size<=65536/\(!bV.contains b&&decide ((iF l).map (·.1)).Nodup&&(iF l).all (λp=>decide (p.1<n)))=true then some ⟨sa l,True,.own b g,wl++[(b,⟨g,.bh e xs⟩)]⟩ else none
  | _=>.none
 | .indexAddr ty x i=>let (cD,dY):=use (aJ x);let (xe,Kc):=use (aJ i);match T ty,Kc.mr with
  | .slice e,some (_,n)=>(RG e dY n).cR λ(c,v)=>bP (cD/\xe) c v
  | .array m e,some (_,n)=>match dY with
   | .dV (.array dA a7) xs=>if dA=m/\a7=e then bP (cD/\xe) (0<=n/\n<(m:Int)) (.dV a7 (kS a7 xs n)) else .none
   | .ba b g off=>.eU b λz=>.ret (if z.gen=g&&z.body.fK then some ⟨cD/\xe,0<=n/\n<(m:Int),.ba b g (off+n.toNat*e.size),[]⟩ else none)
   | _=>.none
  | _,_=>.none
 | .index ty x i=>let (cD,dY):=use (aJ x);let (xe,Kc):=use (aJ i);match T ty,dY.tE,Kc.mr with
  | .str,some s,some (_,n)=>bP (cD/\xe) (0<=n/\n<(s.length:Int)) (.val (.int .u8) ((s.getD n.toNat 0).toNat:Int))
  | .array m e,_,some (_,n)=>match dY with
   | .val (.array dA a7) xs=>if dA=m/\a7=e then bP (cD/\xe) (0<=n/\n<(m:Int)) (.val a7 (kS a7 xs n)) else .none
   | .agg k f=>if k=m*e.size then bP (cD/\xe) (0<=n/\n<(m:Int)) (if e.isAgg=true then .agg e.size (λq=>f (n.toNat*e.size+q)) else f (n.toNat*e.size)) else .none
   | _=>.none
  | _,_,_=>.none
 | .convert a b x=>let (cD,dY):=use (aJ x);match T a,T b,dY.mr with
  | .int _,.int k,some (_,n)=>bP cD True (.val (.int k) (k.wrap n))
  | .slice (.int .u8),.str,_=>(dC (.slice (.int .u8)) dY).cR λ(ys,_)=>bP cD True (.val .str (ve ys))
  | _,_,_=>.none
 | .makeFunc fn first c6=>match fn with
  | .func k=>let l:=c6.toList.map aJ;if first.isEmpty then (match aH.tB k with
   | some v=>(i_ (gn (v.cs.map .bG)) (l.map λv=>(use v).2)).cR λ(y,bV)=>(jL bV).bind λwl=>.ret (some ⟨jM l,True,.val (.fn (gn v.as) v.aW) (λx=>v.sh (Fz v.as (v.cs.map .bG) x y)),wl⟩)
   | none=>match aH.w6 k with
    | some v=>(i_ (gn (v.cs.map .bG)) (l.map λv=>(use v).2)).cR λ(y,bV)=>(jL bV).bind λwl=>.ret (some ⟨jM l,True,.val (.ct v.aM) (v.S y),wl⟩)
    | none=>bP (jM l) True (.iC k l.length (hi (l.map λv=>(use v).2)))) else (if c6.isEmpty then bP (jM (first.toList.map aJ)) True (.r9 k first.size (hi ((first.toList.map aJ).map λv=>(use v).2))) else .none)
  | _=>.none
 | .makeMap ty r=>if r.isSome then .none else match T ty with
  | .map k v=>h_ o.dst λb g=>some ⟨True,True,.fJ b g,[(b,⟨g,.mp k v []⟩)]⟩
  | _=>.none
 | .lookup ty m x ok=>zm T aJ ty m x ok
 | .mapUpdate ty m x y=>q2 T aJ ty m x y
 | .insert ty m x y=>q2 T aJ ty m x y
 | .makeSlice ty l c=>FJ T aJ o.dst ty l c
 | .makeInterface _ _=>bP True False .undef
 | .panic _=>bP True False .undef
 | .slice ty x a1 G pf=>if pf.isSome then FH T aJ ty x a1 G pf else FG T aJ ty x a1 G
 | .call c=>mW T bf aJ o.dst c
 | _=>.none
def dS(r:Option Nat):Fence:={ Fence.wide with round:=r }
section
variable {P:Program} {w:World}
theorem dD{t:TypeId}{d:TypeDesc}(h:P.underlying t=some d):(underlying t).run P w=.ok d w:=by simp[underlying,h]
theorem FL{t:TypeId}{i:TypeInfo}(h:P.info? t=some i):(typeInfo t).run P w=.ok i w:=by simp[typeInfo,h]
theorem sc{t:TypeId}{i:TypeInfo}(h:P.info? t=some i):(sizeOf t).run P w=.ok i.size w:=by simp[sizeOf,FL h]
theorem q3{t:TypeId}{i:TypeInfo}{z:Value}(h:P.info? t=some i)(bj:i.zero=some z):(zeroValue t).run P w=.ok z w:=by simp[zeroValue,FL h,bj]
theorem b9.size{t:ad}{id:TypeId}(h:b9 P t id):(sizeOf id).run P w=.ok t.size w:=by
 obtain⟨i,z,E,U,_⟩:=kx h.kv;rw[sc E,U]
theorem b9.st{t:ad}{id:TypeId}(h:b9 P (.st t) id):∃ eW,P.underlying id=some (.struct eW):=by
 unfold b9 at h;simp only[cH,Bool.and_eq_true]at h;grind
theorem b9.sl{e:ad}{id:TypeId}(h:b9 P (.slice e) id):∃ i,P.underlying id=some (.slice i)/\b9 P e i/\e.size≠0:=by
 unfold b9 at h;simp only[cH,Bool.and_eq_true]at h;obtain⟨_,h⟩:=h;split at h
 ·rename_i i G;simp only[Bool.and_eq_true,bne_iff_ne,ne_eq]at h;exact⟨i,G,h.1,h.2⟩
 grind
theorem ade:∀ (t:ad) {l:List Field} {FM f off:Nat} {s:ad},cH P t (.inr (l,FM))=true->mo t f=some (s,off)->
  ∃ nU,l[f]?=some nU/\nU.offset=FM+off/\b9 P s nU.type/\s.size≠0:=by
 intro t;induction t with
 | aB a b fC eM=>
  intro l FM f off s h ao;match l,h with
  | [],h=>simp only[cH,Bool.false_eq_true]at h
  | [x],h=>simp only[cH,Bool.false_eq_true]at h
  | [x,y],h=>
   simp only[cH,Bool.and_eq_true,beq_iff_eq,bne_iff_ne,ne_eq]at h;obtain⟨⟨⟨⟨E,U⟩,ah⟩,_⟩,⟨⟨a6,bL⟩,dv⟩,_⟩:=h;cases f with
   | zero=>simp only[mo,Option.some.injEq,Prod.mk.injEq]at ao;obtain⟨rfl,rfl⟩:=ao;exact⟨x,rfl,E,U,ah⟩
   | succ f=>
    simp only[mo,Option.map_eq_some_iff,Prod.mk.injEq]at ao;obtain⟨⟨s',hW⟩,ao,rfl,rfl⟩:=ao;have aa:∃ u,mo b f=some u/\f=0/\u=(b,0):=by
     cases b<;>cases f<;>simp only[mo,reduceCtorEq]at ao<;>first
      | exact⟨_,ao,rfl,by cases ao;rfl⟩
      | (simp only[cH,Bool.false_eq_true]at bL)
    obtain⟨u,hu,rfl,rfl⟩:=aa;rw[hu]at ao;cases ao;exact⟨y,rfl,by omega,bL,dv⟩
  | x::y::z::l,h=>
   simp only[cH,Bool.and_eq_true,beq_iff_eq,bne_iff_ne,ne_eq]at h;obtain⟨⟨⟨⟨E,U⟩,ah⟩,_⟩,a6⟩:=h;cases f with
   | zero=>simp only[mo,Option.some.injEq,Prod.mk.injEq]at ao;obtain⟨rfl,rfl⟩:=ao;exact⟨x,rfl,E,U,ah⟩
   | succ f=>
    simp only[mo,Option.map_eq_some_iff,Prod.mk.injEq]at ao;grind
 | _=>intro l FM f off s h _;simp only[cH,Bool.false_eq_true]at h
theorem b9.field{t s:ad}{id f off:Nat}(h:b9 P (.st t) id)(ao:mo t f=some (s,off)) :
  ∃ eW nU,P.underlying id=some (.struct eW)/\eW[f]?=some nU/\nU.offset=off/\b9 P s nU.type/\s.size≠0:=by
 unfold b9 at h;simp only[cH,Bool.and_eq_true]at h;obtain⟨_,h⟩:=h;split at h
 ·rename_i eW jm;refine⟨eW,?_⟩;have eX:∀ {nU},eW.toList[f]?=some nU->eW[f]?=some nU:=λh=>by grind
  split at h
  ·rename_i al;rw[of_decide_eq_true h]at ao;cases f<;>cases ao
  ·rename_i x al;simp only[Bool.and_eq_true,beq_iff_eq,bne_iff_ne,ne_eq]at h;have aa:f=0/\(s,off)=(t,0):=by
    cases t<;>cases f<;>simp only[mo,reduceCtorEq]at ao<;>first
     | exact⟨rfl,by cases ao;rfl⟩
     | (have:=h.1.1.2;simp only[cH,Bool.false_eq_true]at this)
   obtain⟨rfl,aa⟩:=aa;cases aa;exact⟨x,jm,eX (by grind),h.1.1.1,h.1.1.2,h.1.2⟩
  ·obtain⟨nU,aQ,aS,bN⟩:=ade t h ao;grind
 grind
def kA(w:World)(p:Addr)(cs:List Value):Prop:=(0<cs.length->p.spot=none)/\∀ j (h:j<cs.length),w.cell? ⟨p.block,p.off+j,none⟩=some cs[j]
theorem Holds.Kd{F:Nat->Prop}{p:Addr}{cs:List Value}(h:Holds F w p cs):kA w p cs:=⟨λ_=>h.2.1,h.2.2⟩
theorem FN{p:Addr}{cs:List Value}(h:kA w p cs):(loadCells p cs.length).run P w=.ok cs.toArray w:=by
 obtain⟨aD,hc⟩:=h;refine run_loadCells_list w p cs λj v aG=>?_;obtain⟨fV,rfl⟩:=List.getElem?_eq_some_iff.1 aG;have aq:p=⟨p.block,p.off,none⟩:=by have:=aD (by omega);cases p;simp_all
 have:=hc j fV;have zo:p.add j=⟨p.block,p.off+j,none⟩:=by
  unfold Addr.add;grind
 grind
theorem zp{t:ad}{id:TypeId}(h:b9 P t id):(isAgg id).run P w=.ok t.isAgg w:=by
 unfold b9 at h;unfold isAgg;cases t<;>simp only[cH,Bool.and_eq_true,Bool.false_eq_true]at h<;>(obtain⟨_,h⟩:=h;split at h)<;>
  first
   | (rename_i hu;simp[dD hu,ad.isAgg];done)
   | (cases h;done)
   | (rename_i hu;simp[dD hu,ad.isAgg])
theorem Ke{F:Nat->Prop}{p:Addr}{cs:List Value}{t:ad}{id:TypeId}{x:t.aj}(h:b9 P t id)(cV:kA w p cs)(ai:bI P t F w cs x) :
  ∃ v,(loadVar id p).run P w=.ok v w/\eu P t F w v x:=by
 have hlen:=hT t ai;by_cases a_:t.isAgg=true
 ·refine⟨.agg cs.toArray,?_,?_,by simpa [Value.cells]using ai⟩
  ·have:=FN (P:=P) cV;rw[hlen]at this;simp[loadVar,zp h,a_,h.size,this]
  ·cases t<;>simp only[ad.isAgg,Bool.false_eq_true]at a_
   ·exact⟨cs.toArray,rfl,by simpa [ad.size]using hlen⟩
   ·exact⟨cs.toArray,rfl,by simpa [ad.size]using hlen⟩
 ·have al:t.eG=true:=by
   cases t<;>simp only[ad.isAgg,not_true]at a_<;>first | rfl | (unfold b9 at h;simp only[cH,Bool.false_eq_true]at h)
  obtain⟨u,rfl,hu⟩:=B0 al ai;refine⟨u,?_,(dU al).2 ⟨hu,ai⟩⟩;have hc:=cV.2 0 (by simp);have aq:p=⟨p.block,p.off+0,none⟩:=by have:=cV.1 (by simp);cases p;simp_all
  rw[<-aq]at hc;simp[loadVar,zp h,a_,hc]
end
section
variable {r:Option Nat} {P:Program} {o:Oper} {a:Act} {w w':World} {K:Act->World->Prop} {Q:Exit->Act->World->Prop}
theorem zq(au:∀ c,o.op≠.defer c):o.semAt (dS r).round a.eval=execOp a.eval o:=Oper.semAt_eq _ _ _ au
theorem hy{v:Value}(au:∀ c,o.op≠.defer c)(h:(execOp a.eval o).run P w=.ok (.value v) w')(ak:K (a.put o.dst v) w'):o.wpIn (dS r) 0 P a w K Q:=by
 refine⟨λ_ _=>trivial,?_⟩;rw[zq au,h];exact ak
theorem FO(au:∀ c,o.op≠.defer c)(h:(execOp a.eval o).run P w=.ok .skip w')(ak:K (a.put o.dst Go.undef) w'):o.wpIn (dS r) 0 P a w K Q:=by
 refine⟨λ_ _=>trivial,?_⟩;rw[zq au,h];exact ak
end
def aC.gf(s:aC):List (Nat×bK)->aC
 | []=>s
 | p::l=>(s.cz p.1 p.2).gf l
def aC.ia(s:aC)(d:Option Nat)(res:eC):aC:=(s.gf res.hH).set d res.e'
def cJ(C:b_)(o:Oper)(s:aC)(res:eC):Prop:=
 ∀ a w κ F Q,bm C s a w κ F->res.ca->res.c->o.wpIn (dS C.r) 0 C.P a w (λa' w'=>cv C (s.ia o.dst res) a' w') Q
theorem cJ.pure{C:b_}{o:Oper}{s:aC}{ca c:Prop}{e':aI}(au:∀ c,o.op≠.defer c)(bg:∀ i,o.dst=some i->i<C.nt)
  (h:∀ a w κ F,bm C s a w κ F->ca->c->∃ v,(execOp a.eval o).run C.P w=.ok (.value v) w/\bA C.P s.ab κ F w e' v):cJ C o s ⟨ca,c,e',[]⟩:=by
 intro a w κ F Q M bc hc;obtain⟨v,E,U⟩:=h a w κ F M bc hc;exact hy au E ⟨κ,F,M.set bg U⟩
section
variable {P:Program} {H:Nat->bK} {κ:Nat->bB} {F:Nat->Prop} {w:World}
theorem pg{av:aI}{v:Value}(h:bA P H κ F w av v)(hu:(use av).1):bA P H κ F w (use av).2 v:=by
 cases av<;>first | exact h | exact h.1 hu
theorem adf(v:Value):bA P H κ F w (xb v) v:=by
 unfold xb;split
 ·exact fh.2 rfl
 ·split
  ·rename_i h;exact gW.2 ⟨rfl,h⟩
  ·rfl
 ·split
  ·rename_i s h;refine ml.2 ⟨by simp,?_⟩;have:s.data.toList.length=s.size:=by rfl
   omega
  ·rfl
 ·rfl
 ·rfl
theorem j'{C:b_}{s:aC}{a:Act}{w:World}{κ:Nat->bB}{F:Nat->Prop}(h:bm C s a w κ F)(x:Operand):bA C.P s.ab κ F w (a8 C.aP s.aA x) (a.eval x):=by
 cases x with
 | tmp t=>exact h.bU t
 | const v=>exact adf v
 | func f=>
  show bA _ _ _ _ _ (match C.aP.tA f with | some v=>.val (.fn v.ts v.aW) v.sh | none=>.iC f 0 λ_=>.undef) (.func (.func f) #[] #[]);split
  ·rename_i v af;exact (dU rfl).2 ⟨rfl,ac0 (h.jJ.tA f v af) F w⟩
  ·exact⟨[],rfl,rfl,λi G=>by omega⟩
 | global g=>trivial
theorem oC{av:aI}{v:Value}{k:IntKind}{n:Int}(h:bA P H κ F w av v)(G:av.mr=some (k,n)):v=.int k n/\fU k n:=by
 unfold aI.mr at G;split at G
 ·cases G;exact gW.1 h
 grind
theorem Kf{av:aI}{v:Value}{s:List UInt8}(h:bA P H κ F w av v)(G:av.tE=some s):v=.string ⟨s.toArray⟩/\s.length<2 ^ 63:=by
 unfold aI.tE at G;split at G
 ·cases G;exact ml.1 h
 grind
end
theorem qe(k:IntKind)(n:Int):fU k (k.wrap n):=by
 unfold fU IntKind.wrap;have E:=Int.emod_nonneg n (b:=2 ^ k.bits) (by cases k<;>decide);have U:=Int.emod_lt_of_pos n (b:=2 ^ k.bits) (by omega);cases k<;>simp only[IntKind.min,IntKind.max,IntKind.signed,IntKind.bits,Bool.true_and,Bool.false_and,Bool.false_eq_true,if_true,if_false,Nat.reduceSub,Int.reducePow]at E U ⊢<;>first
  | (constructor<;>split<;>first | (rename_i hc;have hc:=of_decide_eq_true hc;omega) | (rename_i hc;have hc:=mt decide_eq_true hc;omega))
  | omega
theorem adg{k:IntKind}{a b:Int}(a_:fU k a):fU k (a.tmod b):=by
 unfold fU at *
 have E:k.min<=0/\0<=k.max:=by cases k<;>decide
 have U:=Int.natAbs_tmod a b;have ah:=Nat.mod_le a.natAbs b.natAbs;rcases Int.le_total 0 a with h | h
 ·have:=Int.tmod_nonneg b h;omega
 ·have a6:(-a).tmod b=- (a.tmod b):=Int.neg_tmod a b;have:=Int.tmod_nonneg b (a:=-a) (by omega);omega
end Go.Fer
namespace Go.Fer
open Go.RowKit
theorem RN{P:Program}{w:World}{t:ad}{id:TypeId}(h:b9 P t id)(al:t.isAgg=false){cs:Array Value}{off:Nat}{v:Value}(af:cs[off]?=some v) :
  (part id cs off).run P w=.ok v w:=by
 simp[part,zp h,al,af]
theorem RO{P:Program}{w:World}{t:ad}{id:TypeId}(h:b9 P t id)(al:t.isAgg=true){cs:Array Value}{off:Nat} :
  (part id cs off).run P w=.ok (.agg (cs.extract off (off+t.size))) w:=by
 simp[part,zp h,al,h.size]
theorem q4{P:Program}{F:Nat->Prop}{w:World}{t:ad}{id:TypeId}(h:b9 P t id){p c q:List Value}{cs:Array Value}{x:t.aj}(ph:cs.toList=p++(c++q))(hc:bI P t F w c x) :
  ∃ v,(part id cs p.length).run P w=.ok v w/\eu P t F w v x:=by
 have hlen:=hT t hc;by_cases a_:t.isAgg=true
 ·refine⟨_,RO h a_,?_⟩;have he:(cs.extract p.length (p.length+t.size)).toList=c:=by
   simp_all
  have af:(Value.agg (cs.extract p.length (p.length+t.size))).cells.toList=c:=he;refine⟨?_,by grind⟩;have cd:(cs.extract p.length (p.length+t.size)).size=t.size:=by grind
  cases t<;>simp only[ad.isAgg,Bool.false_eq_true]at a_
  ·exact⟨_,rfl,by simpa [ad.size]using cd⟩
  ·exact⟨_,rfl,by simpa [ad.size]using cd⟩
 ·have al:t.eG=true:=by
   cases t<;>simp only[ad.isAgg,not_true]at a_<;>first | rfl | (unfold b9 at h;simp only[cH,Bool.false_eq_true]at h)
  obtain⟨u,rfl,hu⟩:=B0 al hc;refine⟨u,RN h (by grind) ?_,(dU al).2 ⟨hu,hc⟩⟩;rw[<-Array.getElem?_toList,ph];simp
theorem b9.Cf{P:Program}{t:ad}{id:TypeId}(h:b9 P (.st t) id):P.stoodInHeld id=false/\P.eqGuardType P.depth id=false/\
  (cH P t (.inr ((P.fieldsOf id).toList, 0)) = true \/ (∃ f, (P.fieldsOf id).toList = [f] /\ f.offset = 0 /\ b9 P t f.type /\ f.name ≠ "_") \/ (t = .cU /\ (P.fieldsOf id).toList = [])) /\ P.underlying id = some (.struct (P.fieldsOf id)) := by
 unfold b9 at h;simp only[cH,Bool.and_eq_true,Bool.not_eq_true']at h;obtain⟨⟨⟨_,E⟩,U⟩,h⟩:=h;split at h
 ·rename_i eW jm;have ao:P.fieldsOf id=eW:=by simp[Program.fieldsOf,jm]
  rw[ao];refine⟨E,U,?_,jm⟩;split at h
  ·grind
  ·rename_i x al;simp only[Bool.and_eq_true,beq_iff_eq,bne_iff_ne,ne_eq]at h;exact .inr (.inl ⟨x,al,h.1.1.1,h.1.1.2,h.2⟩)
  grind
 grind
theorem Kg{P:Program}{F:Nat->Prop}{w:World}:∀ (t:ad) (d:Nat),t.kT=true->t.j_<=d->
  (∀ {id:TypeId} {v u:Value} {x y:t.aj},b9 P t id->eu P t F w v x->eu P t F w u y->(Op.equalIn d id v u).run P w=.ok (gM t x y) w)/\
  (∀ {l:List Field} {off:Nat} {xs ys:Array Value} {p c q p' c' q':List Value} {x y:t.aj},cH P t (.inr (l,off))=true->xs.toList=p++(c++q)->p.length=off->bI P t F w c x->
   ys.toList=p'++(c'++q')->p'.length=off->bI P t F w c' y->(Op.eqFields d xs ys l).run P w=.ok (gM t x y) w):=by
 intro t;induction t with
 | bool=>
  intro d _ au;refine⟨λ{id v u x y} h E U=>?_,λh=>by simp[cH]at h⟩;rw[fh.1 E,fh.1 U];obtain⟨d,rfl⟩:∃ e,d=e+1:=⟨d - 1,by simp only[ad.j_]at au;omega⟩
  unfold b9 at h;simp only[cH,Bool.and_eq_true]at h;obtain⟨_,h⟩:=h;split at h
  ·rename_i hu;rw[run_equalIn_bool' w d id x y hu];rfl
  grind
 | int k=>
  intro d _ au;refine⟨λ{id v u x y} h E U=>?_,λh=>by simp[cH]at h⟩;rw[(gW.1 E).1,(gW.1 U).1];obtain⟨d,rfl⟩:∃ e,d=e+1:=⟨d - 1,by simp only[ad.j_]at au;omega⟩
  unfold b9 at h;simp only[cH,Bool.and_eq_true]at h;obtain⟨_,h⟩:=h;split at h
  ·rename_i hu;rw[run_equalIn_int w d id k _ x y hu];rfl
  grind
 | str=>
  intro d _ au;refine⟨λ{id v u x y} h E U=>?_,λh=>by simp[cH]at h⟩;rw[(ml.1 E).1,(ml.1 U).1];obtain⟨d,rfl⟩:∃ e,d=e+1:=⟨d - 1,by simp only[ad.j_]at au;omega⟩
  unfold b9 at h;simp only[cH,Bool.and_eq_true]at h;obtain⟨_,h⟩:=h;split at h
  ·rename_i hu;rw[run_equalIn_string w d id _ _ hu,ByteArray.toList_eq,ByteArray.toList_eq];simp only[gM];grind
  grind
 | cU=>intro d h;cases h
 | slice e _=>intro d h;cases h
 | array n e _=>intro d h;cases h
 | bG e _=>intro d h;cases h
 | map k v _ _=>intro d h;cases h
 | fn a b _ _=>intro d h;cases h
 | ct a _=>intro d h;cases h
 | et=>intro d h;cases h
 | aB a b fC eM=>
  intro d hc au;simp only[ad.kT,Bool.and_eq_true]at hc;simp only[ad.j_]at au;have Kh:=fC d hc.1 (by omega);have pb:=eM d hc.2 (by omega);refine⟨λh=>by unfold b9 at h;simp[cH]at h,?_⟩;intro l off xs ys p c q p' c' q' x y h ai aq pj aT Cg zr;simp only[bI]at pj zr;obtain⟨bE,c2,rfl,aQ,aS⟩:=pj;obtain⟨d1,d2,rfl,m1,m2⟩:=zr;have eF:=hT a aQ;have mj:=hT a m1;have step : ∀ (f : Field) (cj : List Field), f.offset = off -> b9 P a f.type -> f.name ≠ "_" ->
    (Op.eqFields d xs ys (f::cj)).run P w=if gM a x.1 y.1=true then (Op.eqFields d xs ys cj).run P w else .ok false w:=by
   intro f cj ag ao ax;obtain⟨v,b8,cw⟩:=q4 (cs:=xs) (p:=p) (c:=bE) (q:=c2++q) ao (by grind) aQ;obtain⟨u,eI,dN⟩:=q4 (cs:=ys) (p:=p') (c:=d1) (q:=d2++q') ao (by grind) m1;simp only[Op.eqFields,ax,ne_eq,not_false_eq_true,if_true,Sem.run_bind];rw[ag,<-aq,b8,Result.andThen_ok,aq,<-Cg,eI,Result.andThen_ok,Kh.1 ao cw dN];cases gM a x.1 y.1<;>simp
  match l,h with
  | [],h=>simp only[cH,Bool.false_eq_true]at h
  | [f],h=>simp only[cH,Bool.false_eq_true]at h
  | [f,g],h=>
   simp only[cH,Bool.and_eq_true,beq_iff_eq,bne_iff_ne,ne_eq]at h;obtain⟨⟨⟨⟨E,U⟩,ah⟩,a6⟩,⟨⟨⟨bL,dv⟩,gl⟩,jj⟩⟩:=h;rw[step f [g] E U a6];obtain⟨v,b8,cw⟩:=q4 (cs:=xs) (p:=p++bE) (c:=c2) (q:=q) dv (by grind) aS;obtain⟨u,eI,dN⟩:=q4 (cs:=ys) (p:=p'++d1) (c:=d2) (q:=q') dv (by grind) m2;have az:(p++bE).length=g.offset:=by grind
   have aN:(p'++d1).length=g.offset:=by grind
   rw[az]at b8;rw[aN]at eI;simp only[Op.eqFields,jj,ne_eq,not_false_eq_true,if_true,Sem.run_bind,b8,eI,Result.andThen_ok,pb.1 dv cw dN,gM];cases gM a x.1 y.1<;>cases gM b x.2 y.2<;>simp
  | f::g::i::l,h=>
   simp only[cH,Bool.and_eq_true,beq_iff_eq,bne_iff_ne,ne_eq]at h;obtain⟨⟨⟨⟨E,U⟩,ah⟩,a6⟩,bL⟩:=h;rw[step f _ E U a6,pb.2 bL (p:=p++bE) (c:=c2) (q:=q) (p':=p'++d1) (c':=d2) (q':=q') (by grind) (by grind) aS (by grind) (by grind) m2];simp only[gM];cases gM a x.1 y.1<;>simp
 | st t aL=>
  intro d hc au;simp only[ad.j_]at au;obtain⟨d,rfl⟩:∃ e,d=e+1:=⟨d - 1,by omega⟩
  refine⟨λ{id v u x y} h E U=>?_,λh=>by simp[cH]at h⟩;have i:=aL d hc (by omega);obtain⟨az,aN,cL,ee⟩:=h.Cf;obtain⟨⟨xs,rfl,hX⟩,pj⟩:=E;obtain⟨⟨ys,rfl,ka⟩,zr⟩:=U;simp only[Value.cells,bI]at pj zr;rw[run_equalIn_struct w d id xs ys ee az];rcases cL with cL | ⟨f,cL,hv,jF,kU⟩ | ⟨rfl,cL⟩
  ·exact i.2 cL (p:=[]) (c:=xs.toList) (q:=[]) (p':=[]) (c':=ys.toList) (q':=[]) (by simp) rfl pj (by simp) rfl zr
  ·rw[cL];obtain⟨v,b8,cw⟩:=q4 (cs:=xs) (p:=[]) (c:=xs.toList) (q:=[]) jF (by simp) pj;obtain⟨u,eI,dN⟩:=q4 (cs:=ys) (p:=[]) (c:=ys.toList) (q:=[]) jF (by simp) zr;simp only[List.length_nil]at b8 eI;simp only[Op.eqFields,kU,ne_eq,not_false_eq_true,if_true,Sem.run_bind,hv,b8,eI,Result.andThen_ok,i.1 jF cw dN,gM];cases gM t x y<;>simp
  ·cases hc
theorem adh{k:IntKind}{a b:Int}(a_:fU k a):fU k (jl k a b):=by
 unfold fU at *
 unfold jl;have E:k.min<=0/\0<=k.max:=by cases k<;>decide
 generalize min b.toNat k.bits=n;have aq:(0:Int)<2 ^ n:=Int.pow_pos (by decide);rw[Int.fdiv_eq_ediv_of_nonneg _ (Int.le_of_lt aq)];rcases Int.le_total 0 a with h | h
 ·have U:=Int.ediv_nonneg h (Int.le_of_lt aq);have ah:=Int.ediv_le_self (2 ^ n) h;omega
 ·have U:a / 2 ^ n<=0:=by
   have:=Int.ediv_le_ediv aq h;simp_all
  have ah:a<=a / 2 ^ n:=by
   rw[Int.le_ediv_iff_mul_le aq];have a6:(1:Int)<=2 ^ n:=by omega
   have:=Int.mul_le_mul_of_nonpos_left (a:=a) h a6;omega
  omega
theorem RP{P:Program}{w:World}(op:BinOp)(t:TypeId)(x y:Operand)(k k':IntKind)(a b:Int):(eqGuard op t x y (.int k a) (.int k' b)).run P w=.ok () w:=by
 cases op<;>simp[eqGuard]
theorem adi{P:Program}{w:World}(op:BinOp)(t:TypeId)(x y:Operand)(a b:ByteArray):(eqGuard op t x y (.string a) (.string b)).run P w=.ok () w:=by
 cases op<;>simp[eqGuard]
theorem adj{P:Program}{w:World}(op:BinOp)(t:TypeId)(x y:Operand)(a b:Bool):(eqGuard op t x y (.bool a) (.bool b)).run P w=.ok () w:=by
 cases op<;>simp[eqGuard]
theorem adk{P:Program}{w:World}(op:BinOp)(t:TypeId)(x y:Operand)(a b:Option Addr):(eqGuard op t x y (.pointer a) (.pointer b)).run P w=.ok () w:=by
 cases op<;>simp[eqGuard]
section
variable {P:Program} {H:Nat->bK} {κ:Nat->bB} {F:Nat->Prop} {w:World}
theorem adl{op:BinOp}{k:IntKind}{a b:Int}{t:TypeId}{c:Prop}{v:aI}(h:zi op k a b=some (c,v))(hc:c)(a_:fU k a) :
  ∃ u,(binOp op t (.int k a) (.int k b)).run P w=.ok u w/\bA P H κ F w v u:=by
 cases op<;>simp only[zi,Option.some.injEq,Prod.mk.injEq,reduceCtorEq]at h<;>obtain⟨rfl,rfl⟩:=h<;>simp only[bA];case add=>exact⟨_,by simp[binOp,Op.intArith],gW.2 ⟨rfl,qe _ _⟩⟩
 case sub=>exact⟨_,by simp[binOp,Op.intArith],gW.2 ⟨rfl,qe _ _⟩⟩
 case mul=>exact⟨_,by simp[binOp,Op.intArith],gW.2 ⟨rfl,qe _ _⟩⟩
 case quo=>exact⟨_,by simp[binOp,Op.intDiv,hc],gW.2 ⟨rfl,qe _ _⟩⟩
 case rem=>exact⟨_,by simp[binOp,Op.intDiv,hc],gW.2 ⟨rfl,adg a_⟩⟩
 case and=>exact⟨.int k (lU k a b),by simp only[binOp,ne_eq,not_true_eq_false,if_false,Op.intBits];rfl,gW.2 ⟨rfl,qe _ _⟩⟩
 case or=>exact⟨.int k (Rw k a b),by simp only[binOp,ne_eq,not_true_eq_false,if_false,Op.intBits];rfl,gW.2 ⟨rfl,qe _ _⟩⟩
 case xor=>exact⟨.int k (Rx k a b),by simp only[binOp,ne_eq,not_true_eq_false,if_false,Op.intBits];rfl,gW.2 ⟨rfl,qe _ _⟩⟩
 case andNot=>exact⟨.int k (Ry k a b),by simp only[binOp,ne_eq,not_true_eq_false,if_false,Op.intBits];rfl,gW.2 ⟨rfl,qe _ _⟩⟩
 case eql=>exact⟨.bool (a == b),by simp[binOp,Op.intCmp],fh.2 (congrArg Value.bool (by rfl))⟩
 case neq=>exact⟨.bool (a != b),by simp[binOp,Op.intCmp],fh.2 (congrArg Value.bool (by grind))⟩
 case lss=>exact⟨_,by simp[binOp,Op.intCmp],fh.2 rfl⟩
 case leq=>exact⟨_,by simp[binOp,Op.intCmp],fh.2 rfl⟩
 case gtr=>exact⟨_,by simp[binOp,Op.intCmp],fh.2 rfl⟩
 case geq=>exact⟨_,by simp[binOp,Op.intCmp],fh.2 rfl⟩
theorem RQ{op:BinOp}{k k':IntKind}{a b:Int}{t:TypeId}{c:Prop}{v:aI}(h:J_ op k a b=some (c,v))(hc:c)(a_:fU k a) :
  ∃ u,(binOp op t (.int k a) (.int k' b)).run P w=.ok u w/\bA P H κ F w v u:=by
 cases op<;>simp only[J_,Option.some.injEq,Prod.mk.injEq,reduceCtorEq]at h<;>obtain⟨rfl,rfl⟩:=h<;>simp only[bA];case shl=>exact⟨_,by simp[binOp,Op.shift,show ¬b<0 by omega];rfl,gW.2 ⟨rfl,qe _ _⟩⟩
 case shr=>exact⟨_,by simp[binOp,Op.shift,show ¬b<0 by omega];rfl,gW.2 ⟨rfl,adh a_⟩⟩
theorem adm{op:BinOp}{a b:List UInt8}{t:TypeId}{c:Prop}{v:aI}(h:B8 op a b=some (c,v))(hc:c) :
  ∃ u,(binOp op t (.string ⟨a.toArray⟩) (.string ⟨b.toArray⟩)).run P w=.ok u w/\bA P H κ F w v u:=by
 have e:∀ l:List UInt8,(⟨l.toArray⟩:ByteArray).toList=l:=λl=>by simp
 cases op<;>simp only[B8,Option.some.injEq,Prod.mk.injEq,reduceCtorEq]at h<;>obtain⟨rfl,rfl⟩:=h<;>simp only[bA];case add=>
  unfold bQ at hc;have aD:((ByteArray.size ⟨a.toArray⟩+ByteArray.size ⟨b.toArray⟩:Nat):Int)=(a.length+b.length:Nat):=by rfl
  refine⟨.string ⟨(a++b).toArray⟩,?_,ml.2 ⟨rfl,by grind⟩⟩;simp only[binOp,Op.stringOp];rw[if_neg]
  ·rfl
  ·rw[aD];have:IntKind.i64.max=9223372036854775807:=by decide
   omega
 case eql=>exact⟨_,by rfl,fh.2 (by grind)⟩
 case neq=>exact⟨_,by rfl,fh.2 (by grind)⟩
 case lss=>exact⟨_,by simp only[binOp,Op.stringOp,e];rfl,fh.2 rfl⟩
 case geq=>exact⟨_,by simp only[binOp,Op.stringOp,e];rfl,fh.2 rfl⟩
end
end Go.Fer
namespace Go.Fer
open Go.RowKit
def dT(P:Program)(T:Nat->ad):Prop:=∀ id,T id=.cU\/b9 P (T id) id
theorem dT.cb{P:Program}{T:Nat->ad}(h:dT P T){id:Nat}{t:ad}(e:T id=t)(aF:t≠.cU):b9 P t id:=by
 rcases h id with h | h
 ·exact absurd (e ▸ h) aF
 ·exact e ▸ h
theorem q5{d:Option Nat}{k:Nat->Nat->Option eC}{H:Nat->bK}{res:eC}(h:(h_ d k).run H=some res) :
  ∃ b,d=some b/\k b ((H b).gen+1)=some res:=by
 unfold h_ at h;cases d with
 | none=>cases h
 | some b=>
  simp_all
theorem bm.adn{C:b_}{s:aC}{a:Act}{w:World}{κ:Nat->bB}{F:Nat->Prop}(h:bm C s a w κ F){b g:Nat}{e:ad}(ay:(s.ab b).gen<g) :
  bm C (s.cz b ⟨g,.bh e []⟩) a w (λi=>if i=b then ⟨0,0,0,true⟩ else κ i) F:=by
 have al:fs s.ab κ (λi=>if i=b then ⟨g,.bh e []⟩ else s.ab i) (λi=>if i=b then ⟨0,0,0,true⟩ else κ i):=zd ay λbe cY=>by grind
 refine h.move (H':=λi=>if i=b then ⟨g,.bh e []⟩ else s.ab i) al (λ_ M=>M) (λ_ M=>.inl M) (Nat.le_refl _) (λ_ _ _=>rfl) (de.refl _) (λ_=>?_) ?_ ?_ h.dd (ze (.inr ⟨rfl,rfl⟩) λbe cY=>by grind)
 ·intro i;by_cases G:i=b
  ·subst G;simp only[cG,if_true];exact⟨λ_=>rfl,λax=>by cases ax⟩
  ·exact cG.ll (h.bD i) al (λ_ M=>M) (c8.refl _ _) (by grind) (by grind) λ_=>rfl
 ·intro i G;by_cases eO:i=b
  ·subst eO;simp[bS.b1]at G
  ·simp only[if_neg eO]at G ⊢;exact⟨(h.own i G).1,(h.own i G).2.1,.inl ⟨i,G,rfl⟩⟩
 ·intro i j G aG a7;by_cases eO:i=b
  ·subst eO;simp[bS.b1]at G
  ·by_cases mn:j=b
   ·subst mn;simp[bS.b1]at aG
   ·simp only[if_neg eO,if_neg mn]at G aG a7;exact h.inj i j G aG a7
section
variable {C:b_} {T:Nat->ad} {bf:Nat->Option aO} {o:Oper} {s:aC} {res:eC}
theorem ado{x:Operand}(bg:∀ i,o.dst=some i->i<C.nt)(ag:o.op=.move x)(h:(bu C.aP T bf (a8 C.aP s.aA) o).run s.ab=some res):cJ C o s res:=by
 simp only[bu,ag,bP,ar.bO,Option.some.injEq]at h;subst h;exact cJ.pure (by grind) bg λa w κ F M _ _=>⟨_,by simp[execOp,ag],j' M x⟩
theorem adp{x:Operand}(bg:∀ i,o.dst=some i->i<C.nt)(ag:o.op=.assign x)(h:(bu C.aP T bf (a8 C.aP s.aA) o).run s.ab=some res):cJ C o s res:=by
 simp only[bu,ag]at h;split at h
 ·rename_i e ai aF;obtain⟨b,au,ak⟩:=q5 h;simp only[Option.some.injEq]at ak;subst ak;intro a w κ F Q M _ _;refine hy (w':=w) (v:=a.eval x) (by grind) (by simp[execOp,ag]) ?_;have U:=M.adn (b:=b) (e:=e) (Nat.lt_succ_self _);have af:=j' M x;rw[ai]at af;simp only[bA]at af;refine⟨_,_,bm.set U bg ⟨⟨?_,by rw[af];rfl⟩,λ_ _=>?_⟩⟩
  ·simp[aC.cz]
  ·simp[af,bB.slice]
 ·simp only[bP,ar.bO,Option.some.injEq]at h;subst h;exact cJ.pure (by grind) bg λa w κ F M _ _=>⟨_,by simp[execOp,ag],j' M x⟩
theorem cQ{a:Act}{w:World}{κ:Nat->bB}{F:Nat->Prop}(M:bm C s a w κ F)(x:Operand){p:Prop}{av:aI}(hu:use (a8 C.aP s.aA x)=(p,av))(aq:p):bA C.P s.ab κ F w av (a.eval x):=by
 have:=pg (j' M x) (by grind);grind
theorem adq{c x y:Operand}(bg:∀ i,o.dst=some i->i<C.nt)(ag:o.op=.pick c x y)(h:(bu C.aP T bf (a8 C.aP s.aA) o).run s.ab=some res):cJ C o s res:=by
 simp only[bu,ag]at h;split at h
 ·rename_i qd ir hc;split at h
  ·split at h
   ·rename_i zn av a_;simp only[bP,ar.bO,Option.some.injEq]at h;subst h;refine cJ.pure (by grind) bg λa w κ F M bc _=>?_;have E:=fh.1 (cQ M c hc bc.1);cases ir with
    | false=>
     have bH:a.eval (.const (.bool false))=.bool false:=rfl;exact⟨.bool false,by simp[execOp,ag,E,asBool,bH],fh.2 rfl⟩
    | true=>
     have U:=fh.1 (cQ M x a_ (bc.2 rfl));exact⟨.bool av,by simp[execOp,ag,E,asBool,U],fh.2 rfl⟩
   ·cases h
  ·split at h
   ·rename_i ca bv aa;simp only[bP,ar.bO,Option.some.injEq]at h;subst h;refine cJ.pure (by grind) bg λa w κ F M bc _=>?_;have E:=fh.1 (cQ M c hc bc.1);cases ir with
    | true=>
     have bH:a.eval (.const (.bool true))=.bool true:=rfl;exact⟨.bool true,by simp[execOp,ag,E,asBool,bH],fh.2 rfl⟩
    | false=>
     have U:=fh.1 (cQ M y aa (bc.2 rfl));exact⟨.bool bv,by simp[execOp,ag,E,asBool,U],fh.2 rfl⟩
   ·cases h
  ·cases h
 ·cases h
theorem adr{op:UnOp}{ty:TypeId}{x:Operand}(bg:∀ i,o.dst=some i->i<C.nt)(ag:o.op=.unOp op ty x)(h:(bu C.aP T bf (a8 C.aP s.aA) o).run s.ab=some res):cJ C o s res:=by
 simp only[bu,ag]at h;split at h
 ·rename_i cD b ai;simp only[bP,ar.bO,Option.some.injEq]at h;subst h;refine cJ.pure (by grind) bg λa w κ F M bc _=>?_;have E:=fh.1 (cQ M x ai bc);exact⟨.bool (!b),by simp[execOp,ag,E,Op.unary],fh.2 rfl⟩
 ·rename_i cD k n ai;simp only[bP,ar.bO,Option.some.injEq]at h;subst h;refine cJ.pure (by grind) bg λa w κ F M bc _=>?_;have E:=gW.1 (cQ M x ai bc);exact⟨.int k (k.wrap (0 - n)),by simp[execOp,ag,E.1,Op.unary,Op.intArith],gW.2 ⟨rfl,qe _ _⟩⟩
 ·cases h
theorem ads{i:Nat}{x:Operand}(bg:∀ i,o.dst=some i->i<C.nt)(ag:o.op=.extract x i)(h:(bu C.aP T bf (a8 C.aP s.aA) o).run s.ab=some res):cJ C o s res:=by
 simp only[bu,ag]at h;split at h
 ·rename_i cD n f ai;split at h
  ·rename_i G;simp only[bP,ar.bO,Option.some.injEq]at h;subst h;refine cJ.pure (by grind) bg λa w κ F M bc _=>?_;obtain⟨aE,E,U,ah⟩:=cQ M x ai bc;have dM:i<aE.length:=by omega
   refine⟨aE[i],by simp[execOp,ag,E,Instr.extract,dM],?_⟩;grind
  ·cases h
 ·cases h
theorem adt{x:Operand}(bg:∀ i,o.dst=some i->i<C.nt)(ag:o.op=.nilCheck x)(h:(bu C.aP T bf (a8 C.aP s.aA) o).run s.ab=some res):cJ C o s res:=by
 simp only[bu,ag]at h;split at h
 ·rename_i cD b g i ai;simp only[ar.e5,ar.bO]at h;split at h
  ·rename_i bj;simp only[Bool.and_eq_true,decide_eq_true_eq]at bj;simp only[Option.some.injEq]at h;subst h;refine cJ.pure (by grind) bg λa w κ F M bc _=>?_;have E:=cQ M x ai bc;have U:=E.2 bj.1.symm bj.2;exact⟨_,by simp[execOp,ag,U.2.2],⟨E.1.1,rfl⟩,λ_ _=>⟨U.1,U.2.1,rfl⟩⟩
  grind
 ·rename_i cD t d ai;simp only[bP,ar.bO,Option.some.injEq]at h;subst h;refine cJ.pure (by grind) bg λa w κ F M bc _=>?_;obtain⟨p,bk,E,U⟩:=cQ M x ai bc;exact⟨_,by simp[execOp,ag,E],p,bk,rfl,U⟩
 ·rename_i cD e p ai;simp only[bP,ar.bO,Option.some.injEq]at h;subst h;refine cJ.pure (by grind) bg λa w κ F M bc hc=>?_;have E:=(dU rfl).1 (cQ M x ai bc);obtain⟨_,E⟩:=E;simp only[bI]at E;rcases E with⟨_,rfl⟩ | ⟨q,y,bk,bt,rfl,aQ,aS⟩
  ·cases hc
  ·simp only[List.cons.injEq,and_true]at bt;exact⟨_,by simp[execOp,ag,bt],q,bk,rfl,aQ,aS⟩
 ·rename_i cD b g off ai;simp only[ar.e5,ar.bO]at h;split at h
  ·rename_i bj;simp only[Bool.and_eq_true,decide_eq_true_eq]at bj;simp only[Option.some.injEq]at h;subst h;refine cJ.pure (by grind) bg λa w κ F M bc _=>?_;have E:=cQ M x ai bc;have U:=E.2 bj.1.symm bj.2;exact⟨_,by simp[execOp,ag,U],⟨E.1.1,rfl⟩,λ_ _=>rfl⟩
  grind
 ·cases h
theorem vf(b off n:Nat):(⟨b,off,none⟩:Addr).add n=⟨b,off+n,none⟩:=by
 unfold Addr.add;simp
theorem FP{P:Program}{w:World}{t s:ad}{id f xd b off:Nat}(h:b9 P (.st t) id)(ao:mo t f=some (s,xd)) :
  (Instr.fieldAt id (.pointer (some ⟨b,off,none⟩)) f).run P w=.ok (.pointer (some ⟨b,off+xd,none⟩)) w:=by
 obtain⟨eW,nU,E,U,ah,a6,bL⟩:=h.field ao;simp only[Instr.fieldAt,Sem.run_bind,dD E,Result.andThen_ok,U,Instr.sureAddr,Sem.run_pure,fieldPlace,a6.size,bL,if_false,ah,vf]
theorem adu(aV:dT C.P T){ty f:Nat}{x:Operand}(bg:∀ i,o.dst=some i->i<C.nt)(ag:o.op=.fieldAddr ty x f)(h:(bu C.aP T bf (a8 C.aP s.aA) o).run s.ab=some res):cJ C o s res:=by
 simp only[bu,ag]at h;split at h
 ·rename_i t aF;have dq:=aV.cb aF (by simp);split at h
  ·rename_i s' xd ao;split at h
   ·rename_i cD b g off ai;simp only[ar.e5,ar.bO]at h;split at h
    ·rename_i bj;simp only[Bool.and_eq_true,decide_eq_true_eq]at bj;simp only[Option.some.injEq]at h;subst h;refine cJ.pure (by grind) bg λa w κ F M bc _=>?_;have E:=cQ M x ai bc;have U:=E.2 bj.1.symm bj.2;exact⟨_,by simp[execOp,ag,U,FP dq ao],⟨E.1.1,rfl⟩,λ_ _=>rfl⟩
    grind
   ·rename_i cD b g i off ai;simp only[ar.e5,ar.bO]at h;split at h
    ·rename_i bj;simp only[Bool.and_eq_true,decide_eq_true_eq]at bj;simp only[Option.some.injEq]at h;subst h;refine cJ.pure (by grind) bg λa w κ F M bc _=>?_;have E:=cQ M x ai bc;obtain⟨U,ah,a6⟩:=E.2 bj.1.symm bj.2;exact⟨_,by simp[execOp,ag,a6,FP dq ao];rfl,⟨E.1.1,rfl⟩,λ_ _=>⟨U,ah,by grind⟩⟩
    grind
   ·rename_i cD b g i ai;simp only[ar.e5,ar.bO]at h;split at h
    ·rename_i bj;simp only[Bool.and_eq_true,decide_eq_true_eq,beq_iff_eq]at bj;simp only[Option.some.injEq]at h;subst h;refine cJ.pure (by grind) bg λa w κ F M bc _=>?_;have E:=cQ M x ai bc;obtain⟨U,ah,a6⟩:=E.2 bj.1.1.symm bj.1.2;exact⟨_,by simp[execOp,ag,a6,FP dq ao];rfl,⟨E.1.1,rfl⟩,λ_ _=>⟨U,ah,by grind⟩⟩
    grind
   ·rename_i cD cZ d ai;split at h
    ·rename_i zt;subst zt;split at h
     ·rename_i dN y aT;simp only[bP,ar.bO,Option.some.injEq]at h;subst h;refine cJ.pure (by grind) bg λa w κ F M bc _=>?_;obtain⟨p,bk,E,U,ah⟩:=cQ M x ai bc;simp only[bI]at ah;obtain⟨bE,c2,c3,rfl,aQ,aS⟩:=RC cZ ah aT;rw[ao]at aS;cases aS;have aq:p=⟨p.block,p.off,none⟩:=by have:=U.2.1;cases p;simp_all
      rw[aq]at E;refine⟨_,by simp[execOp,ag,E,FP dq ao],⟨p.block,p.off+bE.length,none⟩,c2,rfl,⟨U.1,rfl,λj aG=>?_⟩,aQ⟩;have:=U.2.2 (bE.length+j) (by grind);grind
     ·cases h
    ·cases h
   ·cases h
  ·cases h
 ·cases h
theorem adv(aV:dT C.P T){ty f:Nat}{x:Operand}(bg:∀ i,o.dst=some i->i<C.nt)(ag:o.op=.field ty x f)(h:(bu C.aP T bf (a8 C.aP s.aA) o).run s.ab=some res):cJ C o s res:=by
 simp only[bu,ag]at h;split at h
 ·rename_i t aF;have dq:=aV.cb aF (by simp);split at h
  ·rename_i cD cZ d ai;split at h
   ·rename_i zt;subst zt;split at h
    ·rename_i dN y aT;simp only[bP,ar.bO,Option.some.injEq]at h;subst h;refine cJ.pure (by grind) bg λa w κ F M bc _=>?_;obtain⟨⟨cs,E,U⟩,ah⟩:=cQ M x ai bc;rw[E]at ah;simp only[bI,Value.cells]at ah;obtain⟨bE,c2,c3,e,aQ,aS⟩:=RC cZ ah aT;obtain⟨eW,nU,f1,f2,f3,f4,f5⟩:=dq.field aS;obtain⟨v,b8,cw⟩:=q4 (w:=w) f4 e aQ;refine⟨v,?_,cw⟩;simp[execOp,ag,E,Instr.field,dD f1,f2,asAgg,f3,b8]
    ·cases h
   ·cases h
  ·cases h
 ·cases h
end
end Go.Fer
namespace Go.Fer
open Go.RowKit
theorem b9.bG{P:Program}{e:ad}{id:TypeId}(h:b9 P (.bG e) id):∃ i,P.underlying id=some (.pointer i)/\b9 P e i/\e.size≠0:=by
 unfold b9 at h;simp only[cH,Bool.and_eq_true]at h;obtain⟨_,h⟩:=h;split at h
 ·rename_i i G;simp only[Bool.and_eq_true,bne_iff_ne,ne_eq]at h;exact⟨i,G,h.1,h.2⟩
 grind
theorem RR{k:IntKind}{av:aI}{H:Nat->bK}{x:Int}{l:List Nat}(h:(dC (.int k) av).run H=some (x,l)):av.mr.isSome=true:=by
 cases av with
 | val cZ y=>
  simp only[dC,ar.bO,Option.map_eq_some_iff,Prod.mk.injEq]at h;obtain⟨z,bj,_⟩:=h;obtain⟨rfl,_⟩:=kR bj;rfl
 | jG v=>simp[dC,ku,ad.eG,dW,B5]at h
 | _=>simp[dC,ku,ad.eG,dW,ar.none]at h
theorem RS{av:aI}{H:Nat->bK}{x:List UInt8}{l:List Nat}(h:(dC .str av).run H=some (x,l)):av.tE.isSome=true:=by
 cases av with
 | val cZ y=>
  simp only[dC,ar.bO,Option.map_eq_some_iff,Prod.mk.injEq]at h;obtain⟨z,bj,_⟩:=h;obtain⟨rfl,_⟩:=kR bj;rfl
 | jG v=>simp[dC,ku,ad.eG,dW,B5]at h
 | _=>simp[dC,ku,ad.eG,dW,ar.none]at h
theorem FQ{P:Program}{w:World}{ty i:TypeId}(G:P.underlying ty=some (.pointer i))(a:Option Addr)(d:Nat):(Op.equalIn (d+1) ty (.pointer a) (.pointer none)).run P w=.ok a.isNone w:=by
 cases a<;>simp[Op.equalIn,dD G]
inductive Ch:Value->Value->Prop where
 | bool (a b:Bool):Ch (.bool a) (.bool b)
 | agg (a b:Array Value):Ch (.agg a) (.agg b)
 | bG (a b:Option Addr):Ch (.pointer a) (.pointer b)
theorem adw{P:Program}{w:World}{ty:TypeId}{x y:Operand}{u mT:Value}{e:Bool}(aq:Ch u mT)(h:(Op.equalIn 10000 ty u mT).run P w=.ok e w)
  (ay:∀ a b,u=.agg a->mT=.agg b->P.eqGuardType P.depth ty=false) :
  (do eqGuard .eql ty x y u mT;binOp .eql ty u mT:Sem Value).run P w=.ok (.bool e) w/\(do eqGuard .neq ty x y u mT;binOp .neq ty u mT:Sem Value).run P w=.ok (.bool (!e)) w:=by
 cases aq with
 | bool a b=>constructor<;>simp[adj,binOp,Op.equal,Op.maxDepth,h]
 | agg a b=>constructor<;>simp[run_eqGuard_agg _ _ _ _ _ _ _ (ay a b rfl rfl),binOp,Op.equal,Op.maxDepth,h]
 | bG a b=>constructor<;>simp[adk,binOp,Op.equal,Op.maxDepth,h]
section
variable {C:b_} {T:Nat->ad} {bf:Nat->Option aO} {o:Oper} {s:aC} {res:eC}
theorem Ci{a:Act}{w:World}{κ:Nat->bB}{F:Nat->Prop}(M:bm C s a w κ F){t:ad}{av:aI}{v:Value}{x:t.aj}{l:List Nat}(h:(dC t av).run s.ab=some (x,l))(af:bA C.P s.ab κ F w av v) :
  eu C.P t (λ_=>True) w v x:=mq M.bD (λ_ _=>trivial) h (λ_ _ _=>trivial) af
theorem adx{op:BinOp}{ty:TypeId}{dY kz:aI}{x y:Operand}{c:Prop}{v:aI}{a:Act}{w:World}{κ:Nat->bB}{F:Nat->Prop}(aV:dT C.P T)(M:bm C s a w κ F)
  (h:(zj op (T ty) dY kz).run s.ab=some (c,v)) {u mT:Value} (ai:bA C.P s.ab κ F w dY u) (aT:bA C.P s.ab κ F w kz mT) (RT:¬(dY.mr.isSome=true/\kz.mr.isSome=true)) (RU:¬(dY.tE.isSome=true/\kz.tE.isSome=true)) :
  ∃ r,(do eqGuard op ty x y u mT;binOp op ty u mT:Sem Value).run C.P w=.ok r w/\bA C.P s.ab κ F w v r:=by
 unfold zj at h;rw[ar.e6]at h;simp only[Option.bind_eq_some_iff]at h;obtain⟨e,he,af⟩:=h;simp only[ar.bO]at af;have key:Ch u mT/\(Op.equalIn 10000 ty u mT).run C.P w=.ok e w/\(∀ a b,u=.agg a->mT=.agg b->C.P.eqGuardType C.P.depth ty=false):=by
  split at he
  ·rename_i a7 p aN aF;obtain⟨i,G,_⟩:=(aV.cb aF (by simp)).bG;simp only[bA]at aT;subst aT;simp only[ar.bO,Option.some.injEq]at he;subst he;obtain⟨_,nV⟩:=(dU rfl).1 ai;rcases nV with⟨nV,rfl⟩ | ⟨q,z,bk,nV,rfl,_⟩
   ·obtain rfl:=(List.cons.inj nV).1;exact⟨.bG _ _,FQ G none 9999,λ_ _ h=>by cases h⟩
   ·obtain rfl:=(List.cons.inj nV).1;exact⟨.bG _ _,FQ G (some q) 9999,λ_ _ h=>by cases h⟩
  ·rename_i a7 t2 xf aF;obtain⟨i,G,_⟩:=(aV.cb aF (by simp)).bG;simp only[bA]at aT;subst aT;simp only[ar.bO,Option.some.injEq]at he;subst he;obtain⟨q,bk,rfl,_⟩:=ai;exact⟨.bG _ _,FQ G (some q) 9999,λ_ _ h=>by cases h⟩
  ·rename_i a7 b g off aF;obtain⟨i,G,_⟩:=(aV.cb aF (by simp)).bG;simp only[bA]at aT;subst aT;simp only[ar.e5,ar.bO]at he;split at he
   ·rename_i bj;simp only[Bool.and_eq_true,decide_eq_true_eq]at bj;simp only[Option.some.injEq]at he;subst he;have:=ai.2 bj.1.symm bj.2;subst this;exact⟨.bG _ _,FQ G (some _) 9999,λ_ _ h=>by cases h⟩
   grind
  ·split at he
   ·rename_i ja;simp only[Bool.and_eq_true,decide_eq_true_eq]at ja;simp only[ar.e6,Option.bind_eq_some_iff,ar.bO,Option.some.injEq]at he;obtain⟨⟨xg,eF⟩,E,⟨Ki,mj⟩,U,rfl⟩:=he;have b8:=Ci M E ai;have cw:=Ci M U aT;generalize qf:T ty=t at *
    cases t with
    | bool=>
     have dq:=aV.cb qf (by simp);refine⟨?_,(Kg .bool 10000 rfl (by decide)).1 dq b8 cw,?_⟩
     ·rw[fh.1 b8,fh.1 cw];exact .bool _ _
     simp_all
    | int k=>exact (RT ⟨RR E,RR U⟩).elim
    | str=>exact (RU ⟨RS E,RS U⟩).elim
    | st t=>
     have dq:=aV.cb qf (by simp);refine⟨?_,(Kg (.st t) 10000 ja.1 (by omega)).1 dq b8 cw,λ_ _ _ _=>dq.Cf.2.1⟩;obtain⟨⟨_,rfl,_⟩,_⟩:=b8;obtain⟨⟨_,rfl,_⟩,_⟩:=cw;exact .agg _ _
    | aB t1 t2=>have:=aV.cb qf (by simp);unfold b9 at this;simp only[cH,Bool.false_eq_true]at this
    | cU=>cases ja.1
    | slice _=>cases ja.1
    | array _ _=>cases ja.1
    | bG _=>cases ja.1
    | map _ _=>cases ja.1
    | fn _ _=>cases ja.1
    | ct _=>cases ja.1
    | et=>cases ja.1
   ·cases he
 obtain⟨aQ,aS,bN⟩:=key;have:=adw (x:=x) (y:=y) aQ aS bN;cases op<;>simp only[reduceCtorEq,Option.some.injEq,Prod.mk.injEq]at af;case eql=>obtain⟨rfl,rfl⟩:=af;exact⟨_,this.1,fh.2 rfl⟩
 case neq=>obtain⟨rfl,rfl⟩:=af;exact⟨_,this.2,fh.2 rfl⟩
theorem ady(aV:dT C.P T){op:BinOp}{ty mX:TypeId}{x y:Operand}(bg:∀ i,o.dst=some i->i<C.nt)(ag:o.op=.binOp op ty x y mX)(h:(bu C.aP T bf (a8 C.aP s.aA) o).run s.ab=some res):cJ C o s res:=by
 simp only[bu,ag]at h;have zu:∀ c,o.op≠.defer c:=by grind
 have mY:∀ (a:Act) (w:World) (r:Value),(do eqGuard op ty x y (a.eval x) (a.eval y);binOp op ty (a.eval x) (a.eval y):Sem Value).run C.P w=.ok r w->(execOp a.eval o).run C.P w=.ok (.value r) w:=by
  intro a w r M;simp only[execOp,ag,Sem.run_bind]at M ⊢;simp_all
 split at h
 ·rename_i k m k' n ai aT;have fin:∀ (c:Prop) (v:aI),(∀ (w:World) κ F,c->fU k m->∃ r,(binOp op ty (.int k m) (.int k' n)).run C.P w=.ok r w/\bA C.P s.ab κ F w v r)->
    res=⟨(use (a8 C.aP s.aA x)).1/\(use (a8 C.aP s.aA y)).1,c,v,[]⟩->cJ C o s res:=by
   intro c v ak gv;subst gv;refine cJ.pure zu bg λa w κ F M bc hc=>?_;have E:=oC (cQ M x rfl bc.1) ai;have U:=oC (cQ M y rfl bc.2) aT;obtain⟨r,b8,cw⟩:=ak w κ F hc E.2;exact⟨r,mY a w r (by simp[E.1,U.1,RP,b8]),cw⟩
  split at h
  ·split at h
   ·rename_i c v aD;simp only[bP,ar.bO,Option.some.injEq]at h;exact fin c v (λw κ F hc a_=>RQ aD hc a_) h.symm
   ·cases h
  ·split at h
   ·rename_i c v aD;simp only[bP,ar.bO,Option.some.injEq]at h;exact fin c v (λw κ F hc a_=>RQ aD hc a_) h.symm
   ·cases h
  ·split at h
   ·rename_i vg;subst vg;split at h
    ·rename_i c v aD;simp only[bP,ar.bO,Option.some.injEq]at h;exact fin c v (λw κ F hc a_=>adl aD hc a_) h.symm
    ·cases h
   ·cases h
 ·rename_i RT;split at h
  ·rename_i m n ai aT;split at h
   ·rename_i c v aD;simp only[bP,ar.bO,Option.some.injEq]at h;subst h;refine cJ.pure zu bg λa w κ F M bc hc=>?_;have E:=Kf (cQ M x rfl bc.1) ai;have U:=Kf (cQ M y rfl bc.2) aT;obtain⟨r,b8,cw⟩:=adm (P:=C.P) (H:=s.ab) (κ:=κ) (F:=F) (w:=w) (t:=ty) aD hc;exact⟨r,mY a w r (by simp[E.1,U.1,adi,b8]),cw⟩
   ·cases h
  ·rename_i RU;simp only[bP,ar.e6,Option.bind_eq_some_iff,ar.bO,Option.some.injEq]at h;obtain⟨⟨c,v⟩,aD,rfl⟩:=h;refine cJ.pure zu bg λa w κ F M bc hc=>?_;obtain⟨r,b8,cw⟩:=adx (x:=x) (y:=y) aV M aD (cQ M x rfl bc.1) (cQ M y rfl bc.2)
    (λ⟨az,aN⟩=>by
     obtain⟨⟨k,m⟩,az⟩:=Option.isSome_iff_exists.1 az;obtain⟨⟨k',dA⟩,aN⟩:=Option.isSome_iff_exists.1 aN;grind)
    (λ⟨az,aN⟩=>by
     obtain⟨m,az⟩:=Option.isSome_iff_exists.1 az;obtain⟨dA,aN⟩:=Option.isSome_iff_exists.1 aN;grind)
   grind
theorem vh{w:World}{b:Nat}{cs:Array Value}{T:TypeId}{fk:Nat×Nat}(h:w.heap[b]?=some (.cells cs T fk))(off:Nat):w.cell? ⟨b,off,none⟩=cs[off]?:=by
 simp[World.cell?,h]
theorem RV{P:Program}{w:World}{t:ad}{id:TypeId}(h:b9 P t id)(al:t.isAgg=false){p:Addr}{v:Value}(af:w.cell? p=some v):(loadVar id p).run P w=.ok v w:=by
 simp[loadVar,zp h,al,af]
theorem RW(aV:dT C.P T){ty:TypeId}{dY v:aI}{u:Value}{a:Act}{w:World}{κ:Nat->bB}{F:Nat->Prop}(M:bm C s a w κ F)(h:(zk (T ty) dY).run s.ab=some v)(ai:bA C.P s.ab κ F w dY u) :
  ∃ r,(Instr.loadAt ty u).run C.P w=.ok r w/\bA C.P s.ab κ F w v r:=by
 generalize qf:T ty=t at *
 cases dY with
 | dV cZ d=>
  simp only[zk,ar.bO]at h;split at h
  ·rename_i hc;obtain⟨rfl,hc⟩:=hc;simp only[Option.some.injEq]at h;subst h;obtain⟨p,bk,rfl,U,ah⟩:=ai;have dq:=aV.cb qf (by intro e;subst e;cases hc);obtain⟨r,b8,cw⟩:=Ke dq U.Kd ah;exact⟨r,by simp[Instr.loadAt,Instr.sureAddr,b8],cw⟩
  grind
 | ba b g off=>
  simp only[zk,ar.e5,ar.bO]at h;split at h
  ·rename_i ay;split at h
   ·rename_i t0 f bT;have af:=ai.2 ay.symm (by rw[bT];rfl);subst af;have aU:=M.bD b;unfold cG at aU;rw[bT]at aU;obtain⟨cs,hY,bE,c2,c3⟩:=aU;split at h
    ·rename_i al;split at h
     ·rename_i FR;simp only[Option.some.injEq]at h;subst h;have dq:=aV.cb qf (by intro e;subst e;cases al);have Kj:t.isAgg=false:=by cases t<;>simp_all[ad.eG,ad.isAgg]
      refine⟨cs.getD off Go.undef,?_,(c3 off FR).1⟩;simp only[Instr.loadAt,Instr.sureAddr,Sem.run_bind,Sem.run_pure,Result.andThen_ok];refine RV dq Kj ?_;rw[vh bE];simp_all
     grind
    ·split at h
     ·rename_i RX;split at h
      ·rename_i FR;simp only[Option.some.injEq]at h;subst h;have dq:=aV.cb qf (by intro e;subst e;cases RX);let aE:=(List.range t.size).map λj=>cs.getD (off+j) Go.undef;refine⟨.agg aE.toArray,?_,aE,rfl,by grind,λi G=>?_⟩
       ·simp only[Instr.loadAt,Instr.sureAddr,Sem.run_bind,Sem.run_pure,Result.andThen_ok,loadVar,zp dq,RX,if_true,dq.size];rw[run_loadCells w ⟨(κ b).ab,off,none⟩ t.size (λj=>cs.getD (off+j) Go.undef)]
        ·rfl
        ·intro j aG;rw[vf,vh bE];simp[Array.getD_eq_getD_getElem?,c2,show off+j<t0.size by omega]
       grind
      grind
     grind
   ·rename_i t0 y bT;have af:=ai.2 ay.symm (by rw[bT];rfl);subst af;have aU:=M.bD b;unfold cG at aU;rw[bT]at aU;obtain⟨bk,d1,d2⟩:=aU;split at h
    ·rename_i hc;simp only[Option.map_eq_some_iff]at h;obtain⟨z,bj,rfl⟩:=h;obtain⟨bE,c2,c3,rfl,dr,dI⟩:=RD t0 d2 bj;have dq:=aV.cb qf (by intro e;subst e;cases hc);have cV:kA w ⟨(κ b).ab,off,none⟩ c2:=by
      refine⟨λ_=>rfl,λj aG=>?_⟩;have:=d1.2.2 (bE.length+j) (by grind);simp_all
     obtain⟨r,b8,cw⟩:=Ke dq cV dI;exact⟨r,by simp[Instr.loadAt,Instr.sureAddr,b8],cw⟩
    grind
   grind
  grind
 | oy b g i off=>
  simp only[zk,ar.e5,ar.bO]at h;split at h
  ·rename_i ay;have fin:∀ (e:ad) (xs:List e.aj),(s.ab b).body.fi=true->(s.ab b).body.len=xs.length->(s.ab b).body.e4=e.size->
     (∀ (G:i<xs.length),(κ b).e_=false->∃ bk,kA w ⟨(κ b).ab,(κ b).off+i*e.size,none⟩ bk/\bI C.P e F w bk xs[i])->
     (if t.eG||t.isAgg then (r' e (xs.getD i e.df) off t).map (.val t) else none)=some v->∃ r,(Instr.loadAt ty u).run C.P w=.ok r w/\bA C.P s.ab κ F w v r:=by
    intro e xs a_ hlen Cj jn af;split at af
    ·rename_i hc;simp only[Option.map_eq_some_iff]at af;obtain⟨z,bj,rfl⟩:=af;obtain⟨aQ,aS,bN⟩:=ai.2 ay.symm a_;subst bN;rw[hlen]at aQ;obtain⟨bk,d1,d2⟩:=jn aQ aS;have Kk:xs.getD i e.df=xs[i]:=by grind
     rw[Kk]at bj;obtain⟨bE,c2,c3,rfl,dr,dI⟩:=RD e d2 bj;have dq:=aV.cb qf (by intro e;subst e;cases hc);have cV:kA w ⟨(κ b).ab,(κ b).off+i*(s.ab b).body.e4+off,none⟩ c2:=by
      refine⟨λ_=>rfl,λj aG=>?_⟩;have:=d1.2 (bE.length+j) (by grind);grind
     obtain⟨r,b8,cw⟩:=Ke dq cV dI;exact⟨r,by simp[Instr.loadAt,Instr.sureAddr,b8],cw⟩
    grind
   have aU:=M.bD b;unfold cG at aU;split at h
   ·rename_i e xs bT;rw[bT]at aU;refine fin e xs (by rw[bT];rfl) (by rw[bT];rfl) (by rw[bT];rfl) (λG ax=>?_) h;obtain⟨cs,hY,bE,c2,c3,c4,c5⟩:=aU.2 ax;obtain⟨bk,d1,d2⟩:=c5 i G;exact⟨bk,⟨λ_=>rfl,λj aG=>by rw[vh bE];grind⟩,d2⟩
   ·rename_i e xs bT;rw[bT]at aU;refine fin e xs (by rw[bT];rfl) (by rw[bT];rfl) (by rw[bT];rfl) (λG ax=>?_) h;simp only[jH,bI,bB.slice,ax,Bool.false_eq_true,if_false]at aU;obtain⟨a',cap,az,m1,m2,m3,m4⟩:=aU;simp only[List.cons.injEq,Value.slice.injEq,and_true]at az;obtain⟨rfl,_,rfl⟩:=az;obtain⟨dZ,dP,hZ⟩:=m4 _ rfl (by omega);obtain⟨bk,d1,d2⟩:=hZ i G;exact⟨bk,d1.Kd,d2⟩
   grind
  grind
 | _=>cases h
end
end Go.Fer
namespace Go.Fer
open Go.RowKit
section
variable {C:b_} {T:Nat->ad} {bf:Nat->Option aO} {o:Oper} {s:aC} {res:eC}
theorem adz(aV:dT C.P T){ty:TypeId}{x:Operand}(bg:∀ i,o.dst=some i->i<C.nt)(ag:o.op=.load ty x)(h:(bu C.aP T bf (a8 C.aP s.aA) o).run s.ab=some res):cJ C o s res:=by
 simp only[bu,ag]at h;split at h
 ·rename_i cD b g i ai;simp only[RM,ar.e5,ar.bO]at h;split at h
  ·rename_i e xs lo v bT;split at h
   ·rename_i hc;obtain⟨ay,al⟩:=hc;simp only[Option.some.injEq]at h;subst h;refine cJ.pure (by grind) bg λa w κ F M bc G=>?_;have G:i=lo:=G;subst G;have E:=(cQ M x ai bc).2 ay.symm (by rw[bT];rfl);have aU:=M.bD b;unfold cG at aU;rw[bT]at aU E;obtain⟨_,cs,hY,bE,c2,c3,c4,c5,lW,oD,xh⟩:=aU;have dq:=aV.cb (t:=T ty) rfl (by intro e;rw[e]at al;cases al);have Kj:(T ty).isAgg=false:=by cases aF:T ty<;>simp_all[ad.eG,ad.isAgg]
    refine⟨_,?_,oD⟩;have tH:w.cell? ⟨(κ b).ab,(κ b).off+i,none⟩=some (cs.getD ((κ b).off+i) Go.undef):=by
     rw[vh bE];have:(κ b).off+i<cs.size:=by
      have:i<(κ b).cap:=by omega
      rw[c5.1]at c2;omega
     simp[this]
    have aq:a.eval x=.pointer (some ⟨(κ b).ab,(κ b).off+i,none⟩):=by rw[E.2.2];simp[bS.e4,c5.1]
    simp[execOp,ag,aq,Instr.loadAt,Instr.sureAddr,RV dq Kj tH]
   ·cases h
  ·cases h
 ·rename_i cD dY _ ai;simp only[bP,ar.e6,Option.bind_eq_some_iff,ar.bO,Option.some.injEq]at h;obtain⟨v,af,rfl⟩:=h;refine cJ.pure (by grind) bg λa w κ F M bc _=>?_;obtain⟨r,b8,cw⟩:=RW aV M af (cQ M x ai bc);exact⟨r,by simp[execOp,ag,b8],cw⟩
theorem b9.str{P:Program}{id:TypeId}(h:b9 P .str id):P.underlying id=some .string:=by
 unfold b9 at h;simp only[cH,Bool.and_eq_true]at h;grind
theorem b9.int{P:Program}{k:IntKind}{id:TypeId}(h:b9 P (.int k) id):P.underlying id=some (.int k):=by
 unfold b9 at h;simp only[cH,Bool.and_eq_true]at h;grind
theorem b9.bh{P:Program}{n:Nat}{e:ad}{id:TypeId}(h:b9 P (.array n e) id):∃ i,P.underlying id=some (.array n i)/\b9 P e i/\e.size≠0:=by
 unfold b9 at h;simp only[cH,Bool.and_eq_true]at h;obtain⟨_,h⟩:=h;split at h
 ·rename_i m i hu;simp only[Bool.and_eq_true,decide_eq_true_eq,bne_iff_ne,ne_eq]at h;obtain⟨⟨rfl,U⟩,ah⟩:=h;exact⟨i,hu,U,ah⟩
 grind
theorem adA{fq:List (List Value)}{m:Nat}(h:∀ c∈fq,c.length=m){i:Nat}(G:i<fq.length):∃ p q,fq.flatten=p++(fq[i]++q)/\p.length=i*m:=by
 refine⟨(fq.take i).flatten,(fq.drop (i+1)).flatten,?_,?_⟩
 ·rw[<-List.flatten_cons,<-List.drop_eq_getElem_cons G,<-List.flatten_append,List.take_append_drop]
 ·have a6:(fq.take i).map List.length=List.replicate i m:=List.eq_replicate_iff.2 ⟨by grind,λx ai=>by
   grind⟩
  simp_all
theorem Kl{P:Program}{n:Nat}{e:ad}{F:Nat->Prop}{w:World}{cs:List Value}{xs:List e.aj}(h:bI P (.array n e) F w cs xs){i:Nat}(G:i<n):∃ p c q,cs=p++(c++q)/\p.length=i*e.size/\bI P e F w c (xs.getD i e.df):=by
 simp only[bI]at h;obtain⟨fq,rfl,E,U,ah⟩:=h;obtain⟨p,q,aQ,aS⟩:=adA (m:=e.size) (λc hc=>by
  obtain⟨j,aG,rfl⟩:=List.mem_iff_getElem.1 hc;exact hT e (ah j (by omega) aG)) (show i<fq.length by omega)
 grind
theorem adB(aV:dT C.P T){ty:TypeId}{x i:Operand}(bg:∀ i,o.dst=some i->i<C.nt)(ag:o.op=.index ty x i)(h:(bu C.aP T bf (a8 C.aP s.aA) o).run s.ab=some res):cJ C o s res:=by
 simp only[bu,ag]at h;split at h
 ·rename_i l k n aF ai G;simp only[bP,ar.bO,Option.some.injEq]at h;subst h;refine cJ.pure (by grind) bg λa w κ F M bc hc=>?_;have E:=Kf (cQ M x rfl bc.1) ai;have U:=oC (cQ M i rfl bc.2) G;have dq:=(aV.cb aF (by simp)).str;have ch:n.toNat<l.length:=by omega
  refine⟨.int .u8 ((l.getD n.toNat 0).toNat:Int),?_,gW.2 ⟨rfl,?_⟩⟩
  ·have e:(⟨l.toArray⟩:ByteArray)[n.toNat]?=some (l.getD n.toNat 0):=by
    have aD:n.toNat<(⟨l.toArray⟩:ByteArray).size:=by simpa [ByteArray.size]using ch
    rw[getElem?_pos (⟨l.toArray⟩:ByteArray) n.toNat aD];simp only[Option.some.injEq];show (⟨l.toArray⟩:ByteArray).data[n.toNat]=_;grind
   simp[execOp,ag,Instr.index,E.1,U.1,asIntOf,dD dq,hc.1,e]
  ·have:=(l.getD n.toNat 0).toNat_lt;constructor
   ·have:IntKind.u8.min=0:=by decide
    omega
   ·have:IntKind.u8.max=255:=by decide
    omega
 ·rename_i m e k n aF G;split at h
  ·rename_i dA a7 xs ai;split at h
   ·rename_i he;obtain⟨rfl,rfl⟩:=he;simp only[bP,ar.bO,Option.some.injEq]at h;subst h;refine cJ.pure (by grind) bg λa w κ F M bc hc=>?_;have E:bA C.P s.ab κ F w (use (a8 C.aP s.aA x)).2 (a.eval x):=cQ M x rfl bc.1;rw[ai]at E;have U:=oC (cQ M i rfl bc.2) G;obtain⟨j,aG,q6,_⟩:=(aV.cb aF (by simp)).bh;obtain⟨⟨cs,af,ph⟩,nW⟩:=E;rw[af]at nW;obtain⟨p,c,q,az,aN,cL⟩:=Kl nW (i:=n.toNat) (by omega);obtain⟨v,g1,ew⟩:=q4 q6 (cs:=cs) az cL;refine⟨v,?_,ew⟩;rw[aN]at g1;simp[execOp,ag,Instr.index,af,U.1,asIntOf,dD aG,hc.1,hc.2,q6.size,g1]
   ·cases h
  ·rename_i k' f ai;split at h
   ·rename_i ak;simp only[bP,ar.bO,Option.some.injEq]at h;subst h;refine cJ.pure (by grind) bg λa w κ F M bc hc=>?_;have E:bA C.P s.ab κ F w (use (a8 C.aP s.aA x)).2 (a.eval x):=cQ M x rfl bc.1;rw[ai]at E;have U:=oC (cQ M i rfl bc.2) G;obtain⟨j,aG,q6,cd⟩:=(aV.cb aF (by simp)).bh;obtain⟨aE,af,al,fT⟩:=E;have ch:n.toNat*e.size+e.size<=aE.length:=by
     rw[al,ak];have:(n.toNat+1)*e.size<=m*e.size:=Nat.mul_le_mul_right _ (by omega);grind
    by_cases a_:e.isAgg=true
    ·simp only[if_pos a_];refine⟨_,by simp[execOp,ag,Instr.index,af,U.1,asIntOf,dD aG,hc.1,hc.2,q6.size,RO q6 a_];rfl,(aE.toArray.extract (n.toNat*e.size) (n.toNat*e.size+e.size)).toList,by simp,?_,λq bt=>?_⟩
     ·simp;omega
     ·have adC:(aE.toArray.extract (n.toNat*e.size) (n.toNat*e.size+e.size)).toList.getD q Go.undef=aE.getD (n.toNat*e.size+q) Go.undef:=by
       simp[List.getD_eq_getElem?_getD,bt]
      rw[adC];exact fT _ (by omega)
    ·simp only[if_neg a_];have a6:=fT (n.toNat*e.size) (by omega);refine⟨aE.getD (n.toNat*e.size) Go.undef,?_,a6.1⟩;have ay:aE.toArray[n.toNat*e.size]?=some (aE.getD (n.toNat*e.size) Go.undef):=by
      grind
     simp[execOp,ag,Instr.index,af,U.1,asIntOf,dD aG,hc.1,hc.2,q6.size,RN q6 (by grind) ay]
   ·cases h
  ·cases h
 ·cases h
theorem sd:∀ {l:List aI},jM l->∀ i,i<l.length->(use (l.getD i .undef)).1
 | [],_,i,G=>by grind
 | a::l,h,0,_=>by
  cases a<;>first | trivial | exact h.1
 | a::l,h,i+1,G=>by
  have dw:jM l:=by cases a<;>first | exact h | exact h.2
  have:=sd dw i (by grind);grind
theorem adD{k:bB}{n:Nat}(h:k.e_=true->n=0):∃ a cap,k.slice n=.slice a n cap:=by
 unfold bB.slice;split
 ·rename_i ax;rw[h ax];exact⟨none,0,rfl⟩
 ·exact⟨_,_,rfl⟩
theorem zv{a:Act}{w:World}{κ:Nat->bB}{F:Nat->Prop}(M:bm C s a w κ F){b:Nat}(a_:(s.ab b).body.fi=true):((κ b).e_=true->(s.ab b).body.len=0)/\(s.ab b).body.len<2 ^ 63:=by
 have aU:=M.bD b;unfold cG at aU;cases bT:(s.ab b).body with
 | bh e xs=>
  rw[bT]at aU;refine⟨λax=>by rw[aU.1 ax];rfl,?_⟩;simp only[bS.len];cases ax:(κ b).e_ with
  | true=>rw[aU.1 ax];simp
  | false=>obtain⟨cs,hY,bE,c2,c3,c4,c5⟩:=aU.2 ax;omega
 | hG e xs=>
  rw[bT]at aU;simp only[jH,bI,bB.slice]at aU;obtain⟨a',cap,az,m1,m2,m3,m4⟩:=aU;simp only[bS.len];grind
 | gp e xs i v=>
  rw[bT]at aU;obtain⟨aY,cs,hY,bE,c2,c3,c4,_⟩:=aU;exact⟨λax=>(by rw[aY]at ax;cases ax),(by simp only[bS.len];omega)⟩
 | _=>rw[bT]at a_;cases a_
theorem Km{a:Act}{w:World}{κ:Nat->bB}{F:Nat->Prop}(M:bm C s a w κ F){b:Nat}(a_:(s.ab b).body.fi=true)(ax:(κ b).e_=false):(s.ab b).body.len<=(κ b).cap:=by
 have aU:=M.bD b;unfold cG at aU;cases bT:(s.ab b).body with
 | bh e xs=>
  rw[bT]at aU;obtain⟨cs,hY,bE,c2,c3,c4,c5⟩:=aU.2 ax;exact c3
 | hG e xs=>
  rw[bT]at aU;simp only[jH,bI,bB.slice,ax,Bool.false_eq_true,if_false]at aU;obtain⟨a',cap,az,m1,m2,m3,m4⟩:=aU;simp only[List.cons.injEq,Value.slice.injEq,and_true]at az;simp only[bS.len];omega
 | gp e xs i v=>
  rw[bT]at aU;obtain⟨aY,cs,hY,bE,c2,c3,c4,_⟩:=aU;exact c3
 | _=>rw[bT]at a_;cases a_
theorem adE{a:Act}{w:World}{κ:Nat->bB}{F:Nat->Prop}(M:bm C s a w κ F){b a1 G:Nat}(a_:(s.ab b).body.fi=true){v:Value}(E:a1<=G)(U:G<=(s.ab b).body.len)(aD:FB (κ b) (s.ab b).body.e4 a1 G v) :
  ∃ a cap,v=.slice a (G - a1) cap/\G - a1<2 ^ 63:=by
 have ax:=zv M a_;rcases aD with⟨aQ,rfl⟩ | ⟨aQ,o,rfl,_⟩
 ·simp_all
 grind
theorem Ck{n:Nat}(h:n<2 ^ 63):fU .i64 (n:Int):=by
 unfold fU;have E:IntKind.i64.min=-9223372036854775808:=by decide
 have U:IntKind.i64.max=9223372036854775807:=by decide
 omega
theorem b9.mp{P:Program}{k v:ad}{id:TypeId}(h:b9 P (.map k v) id):∃ i j,P.underlying id=some (.map i j)/\b9 P k i/\b9 P v j:=by
 unfold b9 at h;simp only[cH,Bool.and_eq_true]at h;obtain⟨_,h⟩:=h;split at h
 ·rename_i i j G;simp only[Bool.and_eq_true]at h;exact⟨i,j,G,h.1,h.2⟩
 grind
theorem adF(aV:dT C.P T){t:TypeId}{dY:aI}{c:Prop}{n:Int}{u:Value}{a:Act}{w:World}{κ:Nat->bB}{F:Nat->Prop}(M:bm C s a w κ F)(h:(FE (T t) dY).run s.ab=some (c,n))(hc:c)(ai:bA C.P s.ab κ F w dY u)(ty:TypeId) :
  (Builtin.len_ #[t] ty #[u]).run C.P w=.ok (.int .i64 n) w/\fU .i64 n:=by
 have axy:∀ e a' m cap,T t=.slice e->u=.slice a' m cap->(m:Int)=n->m<2 ^ 63->(Builtin.len_ #[t] ty #[u]).run C.P w=.ok (.int .i64 n) w/\fU .i64 n:=by
  intro e a' m cap aF hu hm ch;obtain⟨i,G,_⟩:=(aV.cb aF (by simp)).sl;subst hu;rw[<-hm];exact⟨by simp[Builtin.len_,dD G,goInt],Ck ch⟩
 have RY:∀ k v r es clk m,T t=.map k v->u=.map (some r)->w.heap[r]?=some (.map es clk)->es.size=m->(m:Int)=n->bQ m->(Builtin.len_ #[t] ty #[u]).run C.P w=.ok (.int .i64 n) w/\fU .i64 n:=by
  intro k v r es clk m aF hu hw pk hm ch;obtain⟨i,j,G,_⟩:=(aV.cb aF (by simp)).mp;subst hu;rw[<-hm,<-pk];unfold bQ at ch;refine⟨?_,Ck (by omega)⟩;simp[Builtin.len_,dD G,goInt,getObj,Sem.run,hw]
 unfold FE at h;split at h
 ·rename_i e aF;split at h
  ·rename_i a7 xs;simp only[ar.bO,Option.some.injEq,Prod.mk.injEq]at h;obtain⟨_,ai⟩:=(dU rfl).1 ai;obtain⟨a',cap,az,m1,m2,m3,m4⟩:=ai;grind
  ·simp only[ar.bO,Option.some.injEq,Prod.mk.injEq]at h;simp only[bA]at ai;grind
  ·rename_i b g;simp only[ar.e5,ar.bO]at h;split at h
   ·rename_i bj;simp only[Bool.and_eq_true,decide_eq_true_eq]at bj;simp only[Option.some.injEq,Prod.mk.injEq]at h;have af:=ai.2 bj.1.symm bj.2;have ax:=zv M bj.2;obtain⟨a',cap,he⟩:=adD (k:=κ b) ax.1;grind
   grind
  ·rename_i b g a1 G;simp only[ar.e5,ar.bO]at h;split at h
   ·rename_i bj;simp only[Bool.and_eq_true,decide_eq_true_eq]at bj;simp only[Option.some.injEq,Prod.mk.injEq]at h;obtain⟨⟨aQ,aS⟩,bN⟩:=ai.2 bj.1.symm bj.2;obtain⟨a',cap,he,ch⟩:=adE M bj.2 aQ aS bN;grind
   grind
  ·cases h
 ·rename_i aF;split at h
  ·rename_i xs;simp only[ar.bO,Option.some.injEq,Prod.mk.injEq]at h;obtain⟨rfl,ch⟩:=ml.1 ai;have dq:=(aV.cb aF (by simp)).str;rw[<-h.2];have aD:ByteArray.size ⟨xs.toArray⟩=xs.length:=by rfl
   exact⟨by simp[Builtin.len_,dD dq,goInt,aD],Ck (by omega)⟩
  ·cases h
 ·rename_i k v aF;split at h
  ·rename_i k' h9 xs;simp only[ar.bO,Option.some.injEq,Prod.mk.injEq]at h;obtain⟨rfl,h⟩:=h;obtain⟨_,ai⟩:=(dU rfl).1 ai;rcases ai with⟨az,rfl⟩ | ⟨r,es,clk,az,m1,m2,m3,_⟩
   ·obtain rfl:=(List.cons.inj az).1;obtain⟨i,j,G,_⟩:=(aV.cb aF (by simp)).mp;rw[<-h];exact⟨by simp[Builtin.len_,dD G,goInt],Ck (by simp)⟩
   grind
  ·rename_i b g;simp only[ar.e5,ar.bO]at h;split at h
   ·rename_i ay;split at h
    ·rename_i k' h9 es bT;simp only[Option.some.injEq,Prod.mk.injEq]at h;obtain⟨rfl,h⟩:=h;have aU:=M.bD b;unfold cG at aU;rw[bT]at aU;obtain⟨ms,clk,dr,dI⟩:=aU;exact RY k v _ ms clk es.length aF (ai.2 ay.symm (by rw[bT];rfl)) dr dI.1 h hc
    ·rename_i k' h9 es bT;simp only[Option.some.injEq,Prod.mk.injEq]at h;obtain⟨rfl,h⟩:=h;have aU:=M.bD b;unfold cG at aU;rw[bT]at aU;rcases aU with⟨az,_⟩ | ⟨r,ms,clk,az,Cl,dr,dI,_⟩
     ·cases az
     ·simp only[List.cons.injEq,Value.map.injEq,Option.some.injEq,and_true]at az;subst az;exact RY k v _ ms clk es.length aF (ai.2 ay.symm (by rw[bT];rfl)) dr dI h hc
    grind
   grind
  ·cases h
 ·cases h
theorem xi{b:Builtin}{args:Array Operand}{dp:Array TypeId}{a:Act}{w w':World}{v:Value}(ag:o.op=.call { callee:=.builtin b,args:=args,argTypes:=dp })
  (h:(builtin b dp o.type (args.map fun | .const _=>true | _=>false) (args.map a.eval)).run C.P w=.ok (.value v) w'):(execOp a.eval o).run C.P w=.ok (.value v) w':=by
 simp only[execOp,ag,Sem.run_bind,resolve,Sem.run_pure,Result.andThen_ok,invoke];exact h
theorem adG(aV:dT C.P T){args:Array Operand}{dp:Array TypeId}(bg:∀ i,o.dst=some i->i<C.nt)(ag:o.op=.call { callee:=.builtin .len,args:=args,argTypes:=dp })(h:(bu C.aP T bf (a8 C.aP s.aA) o).run s.ab=some res):cJ C o s res:=by
 obtain⟨args⟩:=args;obtain⟨dp⟩:=dp;simp only[bu,ag,mW,B_]at h;split at h
 ·rename_i x t;simp only[bP,ar.e6,Option.bind_eq_some_iff,ar.bO,Option.some.injEq]at h;obtain⟨⟨c,n⟩,ax,rfl⟩:=h;refine cJ.pure (by grind) bg λa w κ F M bc hc=>?_;obtain⟨E,U⟩:=adF aV M ax hc (cQ M x rfl bc) o.type;refine⟨_,xi ag ?_,gW.2 ⟨rfl,U⟩⟩;simp[builtin,E]
 ·cases h
theorem adH(aV:dT C.P T){args:Array Operand}{dp:Array TypeId}(bg:∀ i,o.dst=some i->i<C.nt)(ag:o.op=.call { callee:=.builtin .cap,args:=args,argTypes:=dp })(h:(Ca T (a8 C.aP s.aA) args.toList dp.toList).run s.ab=some res):cJ C o s res:=by
 obtain⟨args⟩:=args;obtain⟨dp⟩:=dp;simp only[Ca]at h;split at h
 ·rename_i x t;split at h
  ·rename_i e cD aF hu;simp only[bP,ar.bO,Option.some.injEq]at h;subst h;refine cJ.pure (by grind) bg λa w κ F M bc hc=>?_;have af:a.eval x=.slice none 0 0:=cQ M x hu bc;obtain⟨i,G,_⟩:=(aV.cb aF (by simp)).sl;refine⟨.int .i64 0,xi ag ?_,gW.2 ⟨rfl,by decide⟩⟩;simp[builtin,Builtin.cap_,af,dD G,goInt]
  ·cases h
 ·cases h
theorem RZ{a:Act}{w:World}{κ:Nat->bB}{F:Nat->Prop}(M:bm C s a w κ F){k:IntKind}:∀ (l:List Operand) {ca:Prop} {h':z1'},mV (a8 C.aP s.aA) k l=some (ca,h')->ca->l.map a.eval=h'.map (Value.int k)/\∀ n∈h',fU k n
 | [],_,_,h,_=>by cases h
 | [x],ca,h',h,bc=>by
  simp only[mV]at h;split at h
  ·rename_i k' n ai;split at h
   ·rename_i ak;subst ak;cases h;have E:=oC (cQ M x rfl bc) ai;exact⟨by simp[E.1],by simpa using E.2⟩
   ·cases h
  ·cases h
 | x::y::l,ca,h',h,bc=>by
  simp only[mV]at h;split at h
  ·rename_i k' n axz axA ai al;split at h
   ·rename_i ak;subst ak;cases h;have E:=oC (cQ M x rfl bc.1) ai;have U:=RZ M (y::l) al bc.2;exact⟨by rw[List.map_cons,U.1,E.1];rfl,λm hm=>by
     rcases List.mem_cons.1 hm with rfl | hm
     ·exact E.2
     ·exact U.2 m hm⟩
   ·cases h
  ·cases h
theorem Kn{k:IntKind}:∀ (h':z1') (m:Int),fU k m->(∀ n∈h',fU k n)->((h'.map (Value.int k)).foldlM Builtin.min2 (Value.int k m)=pure (Value.int k (h'.foldl (λa b=>if b<a then b else a) m))/\fU k (h'.foldl (λa b=>if b<a then b else a) m))/\
  ((h'.map (Value.int k)).foldlM Builtin.max2 (Value.int k m)=pure (Value.int k (h'.foldl (λa b=>if b > a then b else a) m))/\fU k (h'.foldl (λa b=>if b > a then b else a) m))
 | [],m,h,_=>⟨⟨rfl,h⟩,rfl,h⟩
 | n::h',m,h,al=>by
  have ax:=al n (by simp);have al:=λq bt=>al q (List.mem_cons_of_mem n bt);have E:=(Kn h' (if n<m then n else m) (by split<;>assumption) al).1;have U:=(Kn h' (if n > m then n else m) (by split<;>assumption) al).2;refine⟨⟨?_,E.2⟩,?_,U.2⟩
  ·simp only[List.map_cons,List.foldlM_cons,List.foldl_cons,Builtin.min2];rw[<-E.1];simp
  ·simp only[List.map_cons,List.foldlM_cons,List.foldl_cons,Builtin.max2];rw[<-U.1];simp
theorem R0{b:Builtin}{f:Int->Int->Int}(aa:(b=.min/\f=λa b=>if b<a then b else a)\/(b=.max/\f=λa b=>if b > a then b else a)){args:Array Operand}{dp:Array TypeId}(bg:∀ i,o.dst=some i->i<C.nt)
  (ag:o.op=.call { callee:=.builtin b,args:=args,argTypes:=dp }) (h:(sb (a8 C.aP s.aA) f args.toList).run s.ab=some res):cJ C o s res:=by
 obtain⟨args⟩:=args;simp only[sb]at h;split at h
 ·rename_i x y l;split at h
  ·rename_i k m ai;split at h
   ·rename_i ca h' al;simp only[bP,ar.bO,Option.some.injEq]at h;subst h;refine cJ.pure (by grind) bg λa w κ F M bc hc=>?_;have E:=oC (cQ M x rfl bc.1) ai;obtain⟨U,ah⟩:=RZ M (y::l) al bc.2;obtain⟨g1,ew⟩:=Kn h' m E.2 ah;have dX:(x::y::l).map a.eval=Value.int k m::h'.map (Value.int k):=by rw[List.map_cons,U,E.1]
    refine⟨.int k (h'.foldl f m),xi ag ?_,gW.2 ⟨rfl,?_⟩⟩
    ·rcases aa with⟨rfl,rfl⟩ | ⟨rfl,rfl⟩
     ·simp only[builtin,Builtin.min_,List.map_toArray,dX];rw[g1.1];rfl
     ·simp only[builtin,Builtin.max_,List.map_toArray,dX];rw[ew.1];rfl
    ·rcases aa with⟨rfl,rfl⟩ | ⟨rfl,rfl⟩
     ·exact g1.2
     ·exact ew.2
   ·cases h
  ·cases h
 ·cases h
end
end Go.Fer
namespace Go.Fer
open Go.RowKit
def fk(H:Nat->bK)(x:bK):bK:=match x.body with
 | .bh e xs=>⟨x.gen,.hG e xs⟩
 | .mp k v es=>⟨x.gen,.jk k v es⟩
 | .cells t f=>match (im t ((List.range t.size).map f)).run H with
  | some (y,_,[])=>⟨x.gen,.gL t y⟩
  | _=>x
 | _=>x
def aC.cB(s:aC)(l:List Nat):aC:=⟨s.aA,λi=>if i∈l then fk s.ab (s.ab i) else s.ab i⟩
theorem R1(H:Nat->bK):∀ (l:List Nat) (s:aC),(∀ i∈l,s.ab i=H i\/s.ab i=fk H (H i))->s.gf ((jL l).run H)=⟨s.aA,λi=>if i∈l then fk H (H i) else s.ab i⟩
 | [],s,_=>by
  rfl
 | b::l,s,h=>by
  simp only[jL,ar.e5,ar.run_bind];have key:∀ (s':aC),s'.aA=s.aA->s'.ab b=fk H (H b)->(∀ i,i≠b->s'.ab i=s.ab i)->s'.gf ((jL l).run H)=⟨s.aA,λi=>if i∈b::l then fk H (H i) else s.ab i⟩:=by
   intro s' az aN cL;rw[R1 H l s']
   ·rw[az];congr 1;funext i;by_cases G:i=b
    ·subst G;simp only[aN,List.mem_cons,true_or,if_true];split<;>rfl
    ·rw[cL i G];simp[G]
   ·intro i G;by_cases eO:i=b
    ·subst eO;exact .inr aN
    ·rw[cL i eO];exact h i (by simp[G])
  have hI:fk H (H b)=H b->s.gf ((jL l).run H)=⟨s.aA,λi=>if i∈b::l then fk H (H i) else s.ab i⟩:=λe=>
   key s rfl (by grind) λ_ _=>rfl
  have put:∀ x,fk H (H b)=x->s.gf ((b,x)::(jL l).run H)=⟨s.aA,λi=>if i∈b::l then fk H (H i) else s.ab i⟩:=λx e=>by
   simp only[aC.gf];exact key _ rfl (by simp[aC.cz,e]) λi G=>by simp[aC.cz,G]
  cases aa:(H b).body with
  | bh e xs=>exact put _ (by simp[fk,aa])
  | mp k v es=>exact put _ (by simp[fk,aa])
  | cells t f=>
   simp only[ar.run_bind,ar.bO];cases ay:(im t ((List.range t.size).map f)).run H with
   | none=>exact hI (by simp[fk,aa,ay])
   | some z=>
    obtain⟨y,m,r⟩:=z;cases r with
    | nil=>exact put _ (by simp[fk,aa,ay])
    | cons c r=>exact hI (by simp[fk,aa,ay])
  | _=>exact hI (by simp[fk,aa])
theorem tI(s:aC)(l:List Nat):s.gf ((jL l).run s.ab)=s.cB l:=by
 rw[R1 s.ab l s λi _=>.inl rfl];rfl
theorem Cm:∀ (l:List (Nat×bK)) (s:aC) (p:Nat×bK),s.gf (l++[p])=(s.gf l).cz p.1 p.2
 | [],_,_=>rfl
 | q::l,s,p=>by simp only[List.cons_append,aC.gf];exact Cm l _ p
def bS.R2:bS->Bool | .ct _ _ _ _=>true | .gp _ _ _ _=>true | _=>false
def gN(H:Nat->bK)(l:List Nat):Prop:=∀ b∈l,(H b).body.R2=false/\∀ t f,(H b).body=.cells t f->∃ y m,(im t ((List.range t.size).map f)).run H=some (y,m,[])/\∀ c∈m,c∈l
theorem gN.nil(H:Nat->bK):gN H []:=λb aa=>by cases aa
theorem gN.append{H:Nat->bK}{l m:List Nat}(h:gN H l)(k:gN H m):gN H (l++m):=by
 intro b aa;rcases List.mem_append.1 aa with aa | aa
 ·obtain⟨E,U⟩:=h b aa;grind
 ·obtain⟨E,U⟩:=k b aa;grind
theorem gN.one{H:Nat->bK}{b:Nat}(E:(H b).body.R2=false)(U:(H b).body.fK=false):gN H [b]:=by
 intro c hc;obtain rfl:=List.mem_singleton.1 hc;exact⟨E,λt f e=>by rw[e]at U;cases U⟩
theorem se{H:Nat->bK}{t:ad}{av:aI}{x:t.aj}{l:List Nat}(h:(dW t av).run H=some (x,l)):gN H l:=by
 cases av with
 | val cZ y=>
  simp only[dW,ar.bO,Option.map_eq_some_iff,Prod.mk.injEq]at h;obtain⟨z,bj,rfl,rfl⟩:=h;exact .nil H
 | cx=>
  cases t<;>simp only[dW,ar.none,ar.bO,reduceCtorEq,Option.some.injEq,Prod.mk.injEq]at h;obtain⟨rfl,rfl⟩:=h;exact .nil H
 | jG u=>
  simp only[dW,ar.bO,Option.map_eq_some_iff,Prod.mk.injEq]at h;obtain⟨z,bj,rfl,rfl⟩:=h;exact .nil H
 | dV cZ y=>
  cases t<;>simp only[dW,ar.none,ar.bO,reduceCtorEq,Option.map_eq_some_iff,Prod.mk.injEq]at h;obtain⟨z,bj,rfl,rfl⟩:=h;exact .nil H
 | own b g=>
  cases t<;>simp only[dW,ar.none,ar.bO,ar.e5,reduceCtorEq]at h;split at h
  ·split at h
   ·rename_i aa;simp only[Option.map_eq_some_iff,Prod.mk.injEq]at h;obtain⟨z,bj,rfl,rfl⟩:=h;exact .one (by rw[aa];rfl) (by rw[aa];rfl)
   ·simp only[Option.map_eq_some_iff,Prod.mk.injEq]at h;obtain⟨z,bj,rfl,rfl⟩:=h;exact .nil H
   grind
  grind
 | sub b g a1 G=>
  cases t<;>simp only[dW,ar.none,ar.bO,ar.e5,reduceCtorEq]at h;split at h
  ·split at h
   ·rename_i aa;simp only[Option.map_eq_some_iff,Prod.mk.injEq]at h;obtain⟨z,bj,rfl,rfl⟩:=h;exact .one (by rw[aa];rfl) (by rw[aa];rfl)
   ·simp only[Option.map_eq_some_iff,Prod.mk.injEq]at h;obtain⟨z,bj,rfl,rfl⟩:=h;exact .nil H
   grind
  grind
 | fJ b g=>
  cases t<;>simp only[dW,ar.none,ar.bO,ar.e5,reduceCtorEq]at h;split at h
  ·split at h
   ·rename_i aa;simp only[Option.map_eq_some_iff,Prod.mk.injEq]at h;obtain⟨z,bj,rfl,rfl⟩:=h;exact .one (by rw[aa];rfl) (by rw[aa];rfl)
   ·simp only[Option.map_eq_some_iff,Prod.mk.injEq]at h;obtain⟨z,bj,rfl,rfl⟩:=h;exact .nil H
   grind
  grind
 | iC k n c=>
  cases t<;>simp only[dW,ar.none,ar.bO,reduceCtorEq]at h;split at h
  ·cases h;exact .nil H
  ·cases h
 | _=>cases h
theorem R3{H:Nat->bK}{e:ad}(gu:∀ {cs:List aI} {x:e.aj} {l:List Nat} {r:List aI},(im e cs).run H=some (x,l,r)->gN H l){av:aI}{x:Option e.aj}{l:List Nat}
  (h:(tC e (im e) av).run H=some (x,l)):gN H l:=by
 have cj:(dW (.bG e) av).run H=some (x,l)->gN H l:=se (t:=.bG e);cases av with
 | ba b g off=>
  simp only[tC,ar.e5]at h;split at h
  ·split at h
   ·simp only[ar.bO,Option.map_eq_some_iff,Prod.mk.injEq]at h;obtain⟨z,bj,rfl,rfl⟩:=h;exact .nil H
   ·rename_i t f aa;split at h
    ·rename_i aF;subst aF;simp only[ar.e6,Option.bind_eq_some_iff,ar.bO]at h;obtain⟨⟨y,m,q⟩,E,U⟩:=h;split at U
     ·rename_i bt;simp only[Option.some.injEq,Prod.mk.injEq]at U;obtain⟨rfl,rfl⟩:=U;have bt:q=[]:=List.isEmpty_iff.1 bt;subst bt;intro c hc;rcases List.mem_cons.1 hc with rfl | hc
      ·refine⟨by rw[aa];rfl,λcZ iG e=>?_⟩;grind
      ·obtain⟨aQ,aS⟩:=gu E c hc;grind
     grind
    ·cases h
   ·cases h
  ·cases h
 | _=>exact cj h
theorem R4{H:Nat->bK}:∀ (t:ad) {cs:List aI} {x:t.aj} {l:List Nat} {r:List aI},(im t cs).run H=some (x,l,r)->gN H l:=by
 have qc:∀ (t:ad) (g:aI->ar (Option (t.aj×List Nat))),(∀ {av:aI} {x:t.aj} {l:List Nat},(g av).run H=some (x,l)->gN H l)->
   ∀ {cs:List aI} {x:t.aj} {l:List Nat} {r:List aI},(match cs with | c::r=>(g c).map λo=>o.map λ(x,l)=>(x,l,r) | []=>.none:ar (Option (t.aj×List Nat×List aI))).run H=some (x,l,r)->gN H l:=by
  intro t g ay cs x l r h;cases cs with
  | nil=>cases h
  | cons c cs=>
   simp only[ar.map,ar.run_bind,ar.bO,Option.map_eq_some_iff,Prod.mk.injEq]at h;grind
 intro t;induction t with
 | bool=>intro cs x l r h;exact qc .bool (dW .bool) se h
 | int k=>intro cs x l r h;exact qc (.int k) (dW (.int k)) se h
 | str=>intro cs x l r h;exact qc .str (dW .str) se h
 | cU=>
  intro cs x l r h;simp only[im,ar.bO,Option.some.injEq,Prod.mk.injEq]at h;obtain⟨_,rfl,rfl⟩:=h;exact .nil H
 | st t aL=>intro cs x l r h;exact aL h
 | aB a b fC eM=>
  intro cs x l r h;simp only[im,ar.e6,Option.bind_eq_some_iff,ar.bO,Option.some.injEq,Prod.mk.injEq]at h;obtain⟨⟨y,m,q⟩,E,⟨z,dA,q'⟩,U,rfl,rfl,rfl⟩:=h;exact (fC E).append (eM U)
 | slice e aL=>intro cs x l r h;exact qc (.slice e) (dW (.slice e)) se h
 | array n e aL=>
  intro cs xs l r h;simp only[im]at h;have key:∀ (n:Nat) {cs:List aI} {xs:List e.aj} {l:List Nat} {r:List aI},(n.rec (motive:=λ_=>List aI->ar (Option (List e.aj×List Nat×List aI))) (λcs=>.ret (some ([],[],cs)))
     (λ_ aL cs=>(im e cs).cR λ(x,l,r)=>(aL r).cR λ(xs,m,q)=>.ret (some (x::xs,l++m,q))) cs).run H=some (xs,l,r)->gN H l:=by
   intro n;induction n with
   | zero=>intro cs xs l r h;cases h;exact .nil H
   | succ n B7=>
    intro cs xs l r h;simp only[ar.e6,Option.bind_eq_some_iff,ar.bO,Option.some.injEq,Prod.mk.injEq]at h;obtain⟨⟨y,m,q⟩,E,⟨z,dA,q'⟩,U,rfl,rfl,rfl⟩:=h;exact (aL E).append (B7 U)
  grind
 | bG e aL=>intro cs x l r h;exact qc (.bG e) (tC e (im e)) (R3 aL) h
 | map k v w2 w3=>intro cs x l r h;exact qc (.map k v) (dW (.map k v)) se h
 | fn a b fC eM=>intro cs x l r h;exact qc (.fn a b) (dW (.fn a b)) se h
 | ct a aL=>intro cs x l r h;exact qc (.ct a) (dW (.ct a)) se h
 | et=>intro cs x l r h;exact qc .et (dW .et) se h
theorem mZ{H:Nat->bK}{t:ad}{av:aI}{x:t.aj}{l:List Nat}(h:(dC t av).run H=some (x,l)):gN H l:=by
 have cj:(ku t av).run H=some (x,l)->gN H l:=by
  intro h;unfold ku at h;split at h
  ·exact R3 (λh=>R4 _ h) h
  ·split at h
   ·exact se h
   ·cases h
 cases av with
 | val cZ y=>
  simp only[dC,ar.bO,Option.map_eq_some_iff,Prod.mk.injEq]at h;obtain⟨z,bj,rfl,rfl⟩:=h;exact .nil H
 | agg n f=>
  simp only[dC]at h;split at h
  ·cases h
  ·simp only[ar.e6,Option.bind_eq_some_iff,ar.bO]at h;obtain⟨⟨y,m,q⟩,E,U⟩:=h;split at U
   ·simp only[Option.some.injEq,Prod.mk.injEq]at U;obtain⟨rfl,rfl⟩:=U;exact R4 t E
   grind
 | _=>exact cj h
theorem zw(H:Nat->bK)(x:bK):fk H x=x\/(∃ e xs,x.body=.bh e xs/\fk H x=⟨x.gen,.hG e xs⟩)\/(∃ k v es,x.body=.mp k v es/\fk H x=⟨x.gen,.jk k v es⟩)\/
  ∃ t f y m,x.body=.cells t f/\(im t ((List.range t.size).map f)).run H=some (y,m,[])/\fk H x=⟨x.gen,.gL t y⟩:=by
 cases ai:x.body with
 | bh e xs=>exact .inr (.inl ⟨e,xs,rfl,by simp[fk,ai]⟩)
 | mp k v es=>exact .inr (.inr (.inl ⟨k,v,es,rfl,by simp[fk,ai]⟩))
 | cells t f=>
  cases ay:(im t ((List.range t.size).map f)).run H with
  | none=>exact .inl (by simp[fk,ai,ay])
  | some z=>
   obtain⟨y,m,r⟩:=z;cases r with
   | nil=>exact .inr (.inr (.inr ⟨t,f,y,m,rfl,ay,by simp[fk,ai,ay]⟩))
   | cons c r=>exact .inl (by simp[fk,ai,ay])
 | _=>exact .inl (by simp[fk,ai])
theorem adI{H:Nat->bK}{x:bK}{k:bB}(h:(fk H x).body.b1 k=true):(x.body.b1 k=true/\fk H x=x):=by
 rcases zw H x with e | ⟨_,_,_,e⟩ | ⟨_,_,_,_,e⟩ | ⟨_,_,_,_,_,_,e⟩
 ·grind
 all_goals rw[e]at h;cases h
theorem R5(s:aC)(l:List Nat)(κ:Nat->bB):fs s.ab κ (s.cB l).ab κ:=by
 rw[B1];intro b;simp only[aC.cB];split
 ·rcases zw s.ab (s.ab b) with e | ⟨_,_,ai,e⟩ | ⟨_,_,_,ai,e⟩ | ⟨_,_,_,_,ai,_,e⟩
  ·rw[e];exact p_.refl _ _
  ·rw[e];exact⟨Nat.le_refl _,λ_=>⟨λh=>(by cases h),λ_=>⟨by rw[ai];rfl,rfl,by rw[ai];rfl,by rw[ai];rfl⟩,λh=>(by cases h),λh=>(by cases h)⟩⟩
  ·rw[e];exact⟨Nat.le_refl _,λ_=>⟨λh=>(by cases h),λh=>(by cases h),λ_=>⟨by rw[ai];rfl,rfl⟩,λh=>(by cases h)⟩⟩
  ·rw[e];exact⟨Nat.le_refl _,λ_=>⟨λ_=>⟨by rw[ai];rfl,rfl⟩,λh=>(by cases h),λh=>(by cases h),λh=>(by cases h)⟩⟩
 ·exact p_.refl _ _
theorem bm.lp{C:b_}{a:Act}{w:World}{κ:Nat->bB}{l:List Nat}{s:aC}{F:Nat->Prop}(lX:gN s.ab l)(h:bm C s a w κ F) :
  ∃ F',(∀ r,F r->F' r)/\bm C (s.cB l) a w κ F'/\iZ s.ab κ F' l:=by
 let F':Nat->Prop:=λr=>F r\/∃ b∈l,(s.ab b).body.b1 (κ b)=true/\(κ b).ab=r;have bo:∀ r,F r->F' r:=λr M=>.inl M;have tJ:iZ s.ab κ F' l:=λb aa ag=>.inr ⟨b,aa,ag,rfl⟩;have Ko:∀ b,((s.cB l).ab b).body.b1 (κ b)=true->b ∉ l/\(s.ab b).body.b1 (κ b)=true:=by
  intro b aa;simp only[aC.cB]at aa;by_cases iH:b∈l
  ·rw[if_pos iH]at aa;obtain⟨aQ,aS⟩:=adI aa;exfalso;obtain⟨bE,c2⟩:=lX b iH;cases ai:(s.ab b).body with
   | bh e xs=>simp[fk,ai,bS.b1]at aa
   | mp k v es=>simp[fk,ai,bS.b1]at aa
   | cells t f=>
    obtain⟨y,m,g,_⟩:=c2 t f ai;simp[fk,ai,g,bS.b1]at aa
   | ct k v c r=>rw[ai]at bE;cases bE
   | gp e xs i v=>rw[ai]at bE;cases bE
   | _=>rw[ai]at aQ;cases aQ
  grind
 have al:=R5 s l κ;refine⟨F',bo,?_,tJ⟩;refine h.move al bo (λr M=>M.imp id λ⟨b,_,E,U⟩=>.inl ⟨b,E,U⟩) (Nat.le_refl _) (λ_ _ _=>rfl) (de.refl _) (λ_ b=>?_) (λb aa=>?_) (λb be aa cY e=>h.inj b be (Ko b aa).2 (Ko be cY).2 e) (λr M=>?_) (λb _ aa=>⟨rfl,?_⟩)
 ·show cG C.P (s.cB l).ab κ F' w b;by_cases iH:b∈l
  ·have aU:=h.bD b;have Kp:(s.cB l).ab b=fk s.ab (s.ab b):=by simp[aC.cB,iH]
   have ll:fk s.ab (s.ab b)=s.ab b->cG C.P (s.cB l).ab κ F' w b:=λe=>cG.ll aU al bo (c8.refl _ _) (by grind) rfl λ_=>rfl;cases ai:(s.ab b).body with
   | bh e xs=>
    unfold cG at aU ⊢;rw[ai]at aU;rw[Kp];simp only[fk,ai,jH];exact J6 aU bo λax=>tJ b iH (by rw[ai];simp[bS.b1,ax])
   | mp k v es=>
    unfold cG at aU ⊢;rw[ai]at aU;rw[Kp];simp only[fk,ai,jH];exact RA aU bo (tJ b iH (by rw[ai];rfl))
   | cells t f=>
    obtain⟨y,m,g,hm⟩:=(lX b iH).2 t f ai;unfold cG at aU ⊢;rw[ai]at aU;rw[Kp];simp only[fk,ai,g,jH];obtain⟨cs,T,aQ,aS,bN⟩:=aU;have iE:ez C.P s.ab κ F w ((List.range t.size).map f) cs.toList:=B6 (by omega) λi G=>by
     simp_all
    obtain⟨c,d,J8,bE,c2⟩:=J9 h.bD bo t g (λc hc=>tJ c (hm c hc)) iE;cases d with
    | cons _ _=>exact c2.elim
    | nil=>
     rw[List.append_nil]at J8;refine⟨c,⟨tJ b iH (by rw[ai];rfl),rfl,λj aG=>?_⟩,bE⟩;have fV:j<cs.size:=by grind
     simp only[World.cell?,aQ,Nat.zero_add,Option.isSome_none,Bool.false_eq_true,if_false,Array.getElem?_eq_getElem fV];grind
   | _=>exact ll (by simp[fk,ai])
  ·exact cG.ll (h.bD b) al bo (c8.refl _ _) (by simp[aC.cB,iH]) rfl λ_=>rfl
 ·obtain⟨aQ,aS⟩:=Ko b aa;have ag:=h.own b aS;refine⟨ag.1,λao=>?_,.inl ⟨b,aS,rfl⟩⟩;rcases ao with ao | ⟨b0,m1,m2,m3⟩
  ·grind
  ·exact aQ (h.inj b b0 aS m2 m3.symm ▸ m1)
 ·rcases M with M | ⟨b,_,aa,rfl⟩
  ·exact h.dd r M
  ·exact (h.own b aa).1
 ·split at aa
  ·rcases zw s.ab (s.ab b) with e | ⟨_,_,ai,e⟩ | ⟨_,_,_,ai,e⟩ | ⟨_,_,_,_,ai,_,e⟩
   ·grind
   ·rw[e]at aa;simp[bS.fK,bS.gX]at aa
   ·rw[ai];exact .inr rfl
   ·rw[ai];exact .inl rfl
  omega
section
variable {C:b_} {T:Nat->ad} {bf:Nat->Option aO} {o:Oper} {s:aC} {res:eC}
theorem bm.gY{a:Act}{w:World}{κ:Nat->bB}{F:Nat->Prop}(h:bm C s a w κ F){b:Nat}(aa:b<C.nt):b<eT:=Nat.lt_of_lt_of_le aa h.gq
theorem bm.newVar{a:Act}{w:World}{κ:Nat->bB}{F:Nat->Prop}(h:bm C s a w κ F){b:Nat}(B4:b<eT){t:ad}{l:List aI}{cs:List Value}{ty:TypeId}(al:ez C.P s.ab κ F w l cs)(aF:l.length=t.size) :
  ∃ κ',bm C (s.cz b ⟨(s.ab b).gen+1,.cells t (hi l)⟩) a (w.alloc (.cells cs.toArray ty)) κ' F/\(κ' b).ab=w.heap.size:=by
 refine⟨_,h.alloc (k:=⟨w.heap.size,0,0,false⟩) B4 (Nat.lt_succ_self _) rfl λH κ' m_ B3 ch=>?_,by simp⟩;refine⟨cs.toArray,ty,qa _ _,by simp[<-al.len,aF],λi G=>?_⟩;have:=al.kS i (by omega);have e:cs.toArray.getD i Go.undef=cs.getD i Go.undef:=by simp
 rw[e];exact⟨bA.later ch (λ_ M=>M) (c8.alloc h.dd _) this.1,this.2⟩
theorem Cn(t:ad){P:Program}{z:Value}(h:j8 t z.cells.toList=some []):(r_ t).length=t.size/\z.cells.size=t.size:=by
 obtain⟨c,e,E,U⟩:=vc (P:=P) (H:=λ_=>⟨0,.fD⟩) (κ:=λ_=>⟨0,0,0,true⟩) (F:=λ_=>True) (w:=default) t h;rw[List.append_nil]at e;have:=hT t E;have:=U.len;grind
theorem adJ(aV:dT C.P T){ty:TypeId}(bg:∀ i,o.dst=some i->i<C.nt)(ag:o.op=.alloc ty)(h:(bu C.aP T bf (a8 C.aP s.aA) o).run s.ab=some res)(qf:T ty≠.cU):cJ C o s res:=by
 simp only[bu,ag]at h;obtain⟨b,au,ak⟩:=q5 h;simp only[if_neg qf,Option.some.injEq]at ak;subst ak;intro a w κ F Q M _ _;have dq:=aV.cb rfl qf;obtain⟨i,z,E,U,ah,a6,bL,dv⟩:=kx dq.kv;obtain⟨c,e,oE,z2⟩:=vc (P:=C.P) (H:=s.ab) (κ:=κ) (F:=F) (w:=w) (T ty) bL;rw[List.append_nil]at e;have bj:=Cn (T ty) (P:=C.P) bL;obtain⟨κ',b8,cw⟩:=M.newVar (b:=b) (M.gY (bg b au)) (t:=T ty) (ty:=ty) z2 bj.1;have c_:(execOp a.eval o).run C.P w=.ok (.value (.pointer (some ⟨w.heap.size,0,none⟩))) (w.alloc (.cells c.toArray ty)):=by
  have zx:z.cells=c.toArray:=by grind
  simp[execOp,ag,Instr.alloc,q3 E a6,newVar,newRow,zx]
 refine hy (by grind) c_ ⟨κ',F,bm.set (s:=s.cz b _) b8 bg ⟨⟨?_,rfl⟩,λ_ _=>?_⟩⟩
 ·simp[aC.cz]
 grind
theorem Kq{P:Program}{H:Nat->bK}{κ:Nat->bB}{F:Nat->Prop}{w:World}{t:ad}{av:aI}{v:Value}{l:List aI}(h:cellsOf t av=some l)(af:bA P H κ F w av v):ez P H κ F w l v.cells.toList:=by
 unfold cellsOf at h;split at h
 ·rename_i cZ x;split at h
  ·rename_i he;subst he;simp only[Option.some.injEq]at h;subst h;obtain⟨⟨cs,rfl,_⟩,hc⟩:=af;simp only[bI]at hc;exact zh _ hc
  grind
 ·rename_i n f;split at h
  ·simp only[Option.some.injEq]at h;subst h;obtain⟨aE,rfl,E,U⟩:=af;exact B6 E U
  grind
 ·rename_i n e i' a7 x;split at h
  ·simp only[Option.some.injEq]at h;subst h;obtain⟨⟨cs,rfl,_⟩,hc⟩:=af;exact zh _ hc
  grind
 ·rename_i n e m f;split at h
  ·simp only[Option.some.injEq]at h;subst h;obtain⟨aE,rfl,E,U⟩:=af;exact B6 E U
  grind
 ·split at h
  ·have one:v.oneCell'=true->l=[av]->ez P H κ F w l v.cells.toList:=by
    intro E U;subst U;rw[Fx E];exact⟨⟨af,E⟩,trivial⟩
   split at h
   ·rename_i cZ x;split at h
    ·rename_i zt;obtain⟨aQ,aS⟩:=(dU zt).1 af;exact one (J3 zt aS) (Option.some.inj h).symm
    grind
   ·exact one af.1.2 (Option.some.inj h).symm
   ·exact one af.1.2 (Option.some.inj h).symm
   ·exact one af.1.2 (Option.some.inj h).symm
   ·refine one ?_ (Option.some.inj h).symm;obtain⟨p,bk,rfl,_⟩:=af;rfl
   ·exact one af.1.2 (Option.some.inj h).symm
   ·refine one ?_ (Option.some.inj h).symm;obtain⟨aE,rfl,_⟩:=af;rfl
   ·refine one ?_ (Option.some.inj h).symm;simp only[bA]at af;subst af;rfl
   ·exact one af.1.2 (Option.some.inj h).symm
   ·cases h
   ·cases h
   ·refine one ?_ (Option.some.inj h).symm;simp only[bA]at af;subst af;cases v<;>first | rfl | grind | grind | grind | grind
   grind
  grind
end
end Go.Fer
namespace Go.Fer
open Go.RowKit
theorem FT:∀ (l:List Value) (k off:Nat) (cs:Array Value),off+k+l.length<=cs.size->
  ((l.zipIdx k).foldl (λ(cs:Array Value) (p:Value×Nat)=>cs.setIfInBounds (off+p.2) p.1) cs).toList=cs.toList.take (off+k)++(l++cs.toList.drop (off+k+l.length))
 | [],k,off,cs,h=>by simp
 | c::l,k,off,cs,h=>by
  simp only[List.zipIdx_cons,List.foldl_cons];have cd:(cs.setIfInBounds (off+k) c).size=cs.size:=by simp
  rw[FT l (k+1) off _ (by grind)];simp only[Array.toList_setIfInBounds,List.length_cons]at h ⊢;have ch:off+k<cs.toList.length:=by grind
  rw[show off+(k+1)=(off+k)+1 from by omega];rw[List.take_set,List.drop_set];rw[if_pos (by omega)];have E:(cs.toList.take (off+k+1)).set (off+k) c=cs.toList.take (off+k)++[c]:=by
   rw[List.take_succ_eq_append_getElem ch,List.set_append_right _ _ (by grind)];have Co:min (off+k) cs.size=off+k:=Nat.min_eq_left (by omega);simp[Co]
  grind
section
variable {P:Program} {w:World}
theorem adK(w:World)(b off:Nat)(v:Value){cs:Array Value}{T:TypeId}{fk:Nat×Nat}(h:w.heap[b]?=some (.cells cs T fk)) :
  (w.setCell ⟨b,off,none⟩ v).heap[b]?=some (.cells (cs.setIfInBounds off v) T fk):=by
 simp[World.setCell,Array.getElem?_modify,h]
theorem vi{b:Nat}{T:TypeId}:∀ (aE:List Value) (off i:Nat) (w:World) (cs:Array Value),w.heap[b]?=some (.cells cs T (0,0))->off+i+aE.length<=cs.size->(∀ v∈aE,v.oneCell'=true)->
  ∃ w' dh,(storeCells ⟨b,off,none⟩ aE i).run P w=.ok () w'/\w'.heap[b]?=some (.cells dh T (0,0))/\dh.toList=cs.toList.take (off+i)++(aE++cs.toList.drop (off+i+aE.length))/\
   (∀ r,r≠b->w'.heap[r]?=w.heap[r]?)/\w'.heap.size=w.heap.size/\de w w'
 | [],off,i,w,cs,h,_,_=>⟨w,cs,by rfl,h,by simp,λ_ _=>rfl,rfl,de.refl w⟩
 | v::aE,off,i,w,cs,h,al,af=>by
  have ch:off+i<cs.size:=by grind
  have hc:w.cell? ⟨b,off+i,none⟩=some cs[off+i]:=by rw[vh h];simp
  have ao:w.frozen? ⟨b,off+i,none⟩=false:=by simp[World.frozen?,h]
  have E:=adK w b (off+i) v h;obtain⟨w',dh,b8,cw,ef,lq,kB,mu⟩:=vi aE off (i+1) (w.setCell ⟨b,off+i,none⟩ v) _ E (by grind) (λu hu=>af u (by grind));refine⟨w',dh,?_,cw,?_,?_,by simp_all,de.trans (b:=w.setCell ⟨b,off+i,none⟩ v) ⟨rfl,rfl,rfl⟩ mu⟩
  ·simp only[storeCells,Sem.run_bind,vf,run_store P w _ v _ (af v (by simp)),hc,ao,Bool.false_eq_true,if_false,Result.andThen_ok];exact b8
  ·rw[ef];have:=FT [v] 0 (off+i) cs (by grind);simp only[List.zipIdx_cons,List.zipIdx_nil,List.foldl_cons,List.foldl_nil,Nat.add_zero,List.length_singleton]at this;rw[this];have az:(cs.toList.take (off+i)).length=off+i:=by grind
   rw[List.take_append,List.drop_append,az];simp only[show off+(i+1) - (off+i)=1 from by omega,show off+(i+1)+aE.length - (off+i)=aE.length+1 from by omega];have aN:List.take (off+(i+1)) (cs.toList.take (off+i))=cs.toList.take (off+i):=List.take_of_length_le (by omega);have cL:List.drop (off+(i+1)+aE.length) (cs.toList.take (off+i))=[]:=List.drop_of_length_le (by omega);rw[aN,cL];simp only[List.length_cons,List.nil_append,List.append_assoc,List.cons_append];simp only[List.take_succ_cons,List.take_zero,List.drop_succ_cons,List.drop_drop,List.cons_append,List.nil_append];grind
  ·intro r M;rw[lq r M];exact Below.heap_setCell _ _ _ _ (by omega)
end
section
variable {C:b_} {T:Nat->ad} {bf:Nat->Option aO} {o:Oper} {s:aC} {res:eC}
theorem adL{ty:TypeId}{x:Operand}(bg:∀ i,o.dst=some i->i<C.nt)(ag:o.op=.box ty x)(h:(bu C.aP T bf (a8 C.aP s.aA) o).run s.ab=some res):cJ C o s res:=by
 simp only[bu,ag]at h;split at h
 ·rename_i l al;obtain⟨b,au,ak⟩:=q5 h;split at ak;case isFalse=>cases ak
  rename_i hlen;simp only[Option.some.injEq]at ak;subst ak;intro a w κ F Q M bc _;have af:=cQ M x rfl bc;obtain⟨κ',b8,cw⟩:=M.newVar (b:=b) (M.gY (bg b au)) (t:=T ty) (ty:=ty) (Kq al af) hlen;have c_:(execOp a.eval o).run C.P w=.ok (.value (.pointer (some ⟨w.heap.size,0,none⟩))) (w.alloc (.cells (a.eval x).cells.toList.toArray ty)):=by
   simp[execOp,ag,Instr.box,newVar,newRow]
  refine hy (by grind) c_ ⟨κ',F,bm.set (s:=s.cz b _) b8 bg ⟨⟨?_,rfl⟩,λ_ _=>?_⟩⟩
  ·simp[aC.cz]
  grind
 ·cases h
theorem adM{P:Program}:∀ (t:ad) {l:List Field} {off:Nat},cH P t (.inr (l,off))=true->∀ f∈l,∃ s,b9 P s f.type:=by
 intro t;induction t with
 | aB a b fC eM=>
  intro l off h;match l,h with
  | [],h=>simp
  | [x],h=>simp only[cH,Bool.false_eq_true]at h
  | [x,y],h=>
   simp only[cH,Bool.and_eq_true]at h;intro f ao;simp only[List.mem_cons,List.not_mem_nil,or_false]at ao;rcases ao with rfl | rfl
   ·exact⟨a,h.1.1.1.2⟩
   ·exact⟨b,h.2.1.1.2⟩
  | x::y::z::l,h=>
   simp only[cH,Bool.and_eq_true]at h;intro f ao;rcases List.mem_cons.1 ao with rfl | ao
   ·exact⟨a,h.1.1.1.2⟩
   grind
 | _=>intro l off h;simp only[cH,Bool.false_eq_true]at h
theorem b9.adN{P:Program}{t:ad}{id:TypeId}(h:b9 P (.st t) id){eW:Array Field}(jm:P.underlying id=some (.struct eW)):∀ f∈eW.toList,∃ s,b9 P s f.type:=by
 obtain⟨_,_,ah,a6⟩:=h.Cf;rw[jm]at a6;simp only[Option.some.injEq,TypeDesc.struct.injEq]at a6;rw[<-a6]at ah;rcases ah with ah | ⟨f,e,_,ah,_⟩ | ⟨_,e⟩
 ·exact adM t ah
 ·rw[e];intro g ay;simp only[List.mem_singleton]at ay;subst ay;exact⟨t,ah⟩
 ·rw[e];intro g ay;cases ay
theorem ez.replace{P:Program}{H:Nat->bK}{κ:Nat->bB}{F:Nat->Prop}{w:World}{as l:List aI}{us aE:List Value}(h:ez P H κ F w as us)(k:ez P H κ F w l aE)(off:Nat) :
  ez P H κ F w (as.take off++(l++as.drop (off+l.length))) (us.take off++(aE++us.drop (off+aE.length))):=by
 have Cp:∀ {as:List aI} {us:List Value} (n:Nat),ez P H κ F w as us->ez P H κ F w (as.take n) (us.take n):=by
  intro as;induction as with
  | nil=>intro us n h;cases us<;>first | exact h.elim | grind
  | cons a as aL=>intro us n h;cases us with
   | nil=>exact h.elim
   | cons u us=>cases n with
    | zero=>trivial
    | succ n=>exact⟨h.1,aL n h.2⟩
 have adO:∀ {as:List aI} {us:List Value} (n:Nat),ez P H κ F w as us->ez P H κ F w (as.drop n) (us.drop n):=by
  intro as;induction as with
  | nil=>intro us n h;cases us<;>first | exact h.elim | grind
  | cons a as aL=>intro us n h;cases us with
   | nil=>exact h.elim
   | cons u us=>cases n with
    | zero=>exact h
    | succ n=>exact aL n h.2
 rw[<-k.len];exact (Cp off h).append (k.append (adO _ h))
theorem R6{P:Program}{H:Nat->bK}{κ:Nat->bB}{F:Nat->Prop}{w:World}{t:ad}{id:TypeId}{eW:Array Field}(dq:b9 P (.st t) id)(jm:P.underlying id=some (.struct eW)){place:Nat->Option (Nat×Nat)}
  (sf:∀ i f s,eW[i]?=some f->b9 P s f.type->place i=some (f.offset,s.size)):∀ (ps:List (Nat×aI)) (qs:List (Nat×Value)) {as FU:List aI} {cs:Array Value},ez P H κ F w as cs.toList->FF t as ps=some FU->
  ps.length=qs.length->(∀ i (h:i<ps.length) (dw:i<qs.length),ps[i].1=qs[i].1/\bA P H κ F w ps[i].2 qs[i].2)->∃ dh,Instr.fill place cs qs=some dh/\ez P H κ F w FU dh.toList
 | [],[],as,FU,cs,a_,ao,_,_=>by cases ao;exact⟨cs,rfl,a_⟩
 | (i,av)::ps,(lo,v)::qs,as,FU,cs,a_,ao,hlen,fT=>by
  have aY:=fT 0 (by simp) (by simp);simp only[List.getElem_cons_zero]at aY;obtain⟨rfl,af⟩:=aY;simp only[FF]at ao;split at ao
  ·cases ao
  ·rename_i s off tK;split at ao
   ·cases ao
   ·rename_i l al;split at ao
    ·rename_i hc;obtain⟨axB,nU,f1,f2,f3,f4,f5⟩:=dq.field tK;rw[jm]at f1;simp only[Option.some.injEq,TypeDesc.struct.injEq]at f1;subst f1;have aq:=sf i nU s f2 f4;rw[f3]at aq;have iE:=Kq al af;have cd:v.cells.size=s.size:=by have:=iE.len;grind
     have ph:as.length=cs.size:=by simpa using a_.len
     have FV:=FT v.cells.toList 0 off cs (by grind);have e:(v.cells.zipIdx.foldl (λ(cs:Array Value) (p:Value×Nat)=>cs.setIfInBounds (off+p.2) p.1) cs)=((v.cells.toList.zipIdx 0).foldl (λ(cs:Array Value) (p:Value×Nat)=>cs.setIfInBounds (off+p.2) p.1) cs):=by
      rw[<-Array.foldl_toList];simp
     have adP:=a_.replace iE off;rw[hc.1]at adP;obtain⟨dh,aQ,aS⟩:=R6 dq jm sf ps qs (cs:=v.cells.zipIdx.foldl (λ(cs:Array Value) (p:Value×Nat)=>cs.setIfInBounds (off+p.2) p.1) cs) (by rw[e,FV];omega) ao (by grind)
      (λj h dw=>by have:=fT (j+1) (by grind) (by grind);grind)
     refine⟨dh,?_,aS⟩;simp only[Instr.fill,aq];grind
    grind
 | [],_::_,_,_,_,_,_,hlen,_=>by grind
 | _::_,[],_,_,_,_,_,hlen,_=>by grind
theorem R7:∀ {l:List (Nat×aI)},sa l->∀ i (h:i<l.length),(use l[i].2).1
 | a::l,h,0,_=>by
  obtain⟨n,a⟩:=a;cases a<;>first | trivial | exact h.1
 | a::l,h,i+1,G=>by
  have dw:sa l:=by obtain⟨n,a⟩:=a;cases a<;>first | exact h | exact h.2
  have:=R7 dw i (by grind);grind
theorem Kr{a:Act}{w:World}{κ:Nat->bB}{F:Nat->Prop}(M:bm C s a w κ F)(ps:List (Nat×Operand))(bc:sa (ps.map λp=>(p.1,a8 C.aP s.aA p.2))) :
  ∀ i (h:i<(iF (ps.map λp=>(p.1,a8 C.aP s.aA p.2))).length) (dw:i<(ps.map λp=>(p.1,a.eval p.2)).length),(iF (ps.map λp=>(p.1,a8 C.aP s.aA p.2)))[i].1=(ps.map λp=>(p.1,a.eval p.2))[i].1/\bA C.P s.ab κ F w (iF (ps.map λp=>(p.1,a8 C.aP s.aA p.2)))[i].2 (ps.map λp=>(p.1,a.eval p.2))[i].2:=by
 intro i h dw;have G:i<ps.length:=by grind
 have E:=R7 bc i (by grind);simp only[List.getElem_map]at E;refine⟨by simp[iF],?_⟩;simp only[iF,List.getElem_map];exact pg (j' M _) E
theorem adQ(aV:dT C.P T){ty:TypeId}{ps:Array (Nat×Operand)}(bg:∀ i,o.dst=some i->i<C.nt)(ag:o.op=.build ty ps)(FW:∀ m e,T ty≠.array m e)(h:(bu C.aP T bf (a8 C.aP s.aA) o).run s.ab=some res):cJ C o s res:=by
 obtain⟨ps⟩:=ps;simp only[bu,ag]at h;split at h
 ·rename_i t aF;have dq:=aV.cb aF (by simp);split at h
  ·rename_i cs ph;simp only[bP,ar.bO,Option.some.injEq]at h;subst h;refine cJ.pure (by grind) bg λa w κ F M bc _=>?_;obtain⟨eW,jm⟩:=dq.st;obtain⟨i,z,E,U,ah,a6,bL,dv⟩:=kx dq.kv;obtain⟨c,e,oE,z2⟩:=vc (P:=C.P) (H:=s.ab) (κ:=κ) (F:=F) (w:=w) (.st t) bL;rw[List.append_nil]at e;have adR:=dq.adN jm;have hm:=ChangeMaps.mapM_total (f:=λ(f:Field)=>(C.P.info? f.type).map λi=>(f.offset,i.size)) (0,0) (l:=eW.toList) (λf ao=>by
    obtain⟨s',sg⟩:=adR f ao;obtain⟨lo,_,zy,_⟩:=kx sg.kv;simp_all)
   have sf:=run_places (P:=C.P) w eW.toList _ hm;obtain⟨dh,aQ,aS⟩:=R6 (w:=w) dq jm (place:=λj=>((eW.toList.map λf=>((C.P.info? f.type).map λi=>(f.offset,i.size)).getD (0,0)))[j]?)
    (λj f s' aG sg=>by
     obtain⟨lo,_,zy,xj,_⟩:=kx sg.kv;grind)
    _ _ (by rw[e];exact z2) ph (by simp[iF]) (Kr M ps bc)
   have hlen:cs.length=dh.size:=by simpa using aS.len
   refine⟨.agg dh,?_,dh.toList,by simp,by grind,λj aG=>?_⟩
   ·have Ks:(eW.mapM λf=>do pure (f.offset,<-sizeOf f.type):Sem (Array (Nat×Nat))).run C.P w=.ok (eW.toList.map λf=>((C.P.info? f.type).map λi=>(f.offset,i.size)).getD (0,0)).toArray w:=by
     rw[Array.mapM_eq_mapM_toList];simp[sf]
    simp only[execOp,ag,Instr.build,Sem.run_bind,q3 E a6,Result.andThen_ok,dD jm,Ks];simp_all
   ·have:=aS.kS j aG;omega
  ·cases h
 ·rename_i aF;exact absurd aF (FW _ _)
 ·cases h
end
end Go.Fer
namespace Go.Fer
open Go.RowKit
section
variable {C:b_} {T:Nat->ad} {bf:Nat->Option aO} {o:Oper} {s:aC} {res:eC}
theorem Kt{P:Program}{w w':World}{t:ad}{id:TypeId}(h:b9 P t id){p:Addr}{v:Value}(cd:v.cells.size=t.size)(aD:(storeCells p v.cells.toList).run P w=.ok () w'):(storeVar id p v).run P w=.ok () w':=by
 simp[storeVar,h.size,cd,aD]
theorem adS(aV:dT C.P T){ty:TypeId}{x y:Operand}(bg:o.dst=none)(ag:o.op=.store ty x y)(h:(bu C.aP T bf (a8 C.aP s.aA) o).run s.ab=some res):cJ C o s res:=by
 simp only[bu,ag]at h;split at h
 ·rename_i cD b g i ai;unfold Kb at h;split at h
  ·rename_i be g' aT;simp only[ar.e5,ar.bO]at h;split at h
   ·rename_i e xs lo v bT;split at h
    ·rename_i hc;obtain⟨ay,al⟩:=hc;simp only[Option.some.injEq]at h;subst h;intro a w κ F Q M bc G;have G:i=lo:=G;subst G;have E:=(cQ M x ai bc.1).2 ay.symm (by rw[bT];rfl);have af:=cQ M y (av:=.own be g') (p:=(use (a8 C.aP s.aA y)).1) (by rw[<-aT]) bc.2;have aU:=M.bD b;unfold cG at aU;rw[bT]at aU E;obtain⟨aY,cs,hY,bE,c2,c3,c4,c5,lW,oD,xh⟩:=aU;have dq:=aV.cb (t:=T ty) rfl (by intro e;rw[e]at al;cases al);have tH:=Fx af.1.2;have cd:(a.eval y).cells.size=(T ty).size:=by
      rw[tH];cases aF:T ty<;>simp_all[ad.eG,ad.size]
     have lr:(κ b).off+i<cs.size:=by
      have:i<(κ b).cap:=by omega
      rw[c5.1]at c2;omega
     have aq:a.eval x=.pointer (some ⟨(κ b).ab,(κ b).off+i,none⟩):=by rw[E.2.2];simp[bS.e4,c5.1]
     obtain⟨w',dh,b8,cw,ef,lq,kB,mu⟩:=vi (P:=C.P) (a.eval y).cells.toList ((κ b).off+i) 0 w cs bE (by rw[tH];simp;omega) (λu hu=>by rw[tH]at hu;simp at hu;rw[hu];exact af.1.2);refine FO (w':=w') (by grind) (by simp[execOp,ag,aq,Instr.storeAt,Instr.sureAddr,Kt dq cd b8]) ?_;rw[bg];refine⟨κ,F,?_⟩;have gw:fs s.ab κ (λq=>if q=b then (⟨(s.ab b).gen,.gp e xs i (.own be g')⟩:bK) else s.ab q) κ:=
      qZ rfl (λh=>by cases h) (λ_=>by rw[bT];exact⟨rfl,rfl,rfl⟩) (λh=>by cases h) (λh=>by cases h)
     refine (M.pe (b:=b) (x:=⟨(s.ab b).gen,.gp e xs i (.own be g')⟩) (by rw[bT];simp[bS.b1,aY]) (by simp[bS.b1,aY]) gw (λh=>by cases h) (λh=>by cases h) lq kB mu λH m_ ch he=>?_);rw[tH]at ef;simp only[Nat.add_zero]at ef;have eX:∀ k,dh[k]?=if k=(κ b).off+i then some (a.eval y) else cs[k]?:=by
      intro k;rw[<-Array.getElem?_toList,ef];have kV:(cs.toList.take ((κ b).off+i)).length=(κ b).off+i:=by rw[List.length_take,Array.length_toList];omega
      rcases Nat.lt_trichotomy k ((κ b).off+i) with ak | ak | ak
      ·rw[if_neg (by omega),List.getElem?_append_left (by omega),List.getElem?_take_of_lt ak,Array.getElem?_toList]
      ·rw[if_pos ak,List.getElem?_append_right (by omega),kV,ak];simp
      ·rw[if_neg (by omega),List.getElem?_append_right (by omega),kV,List.getElem?_append_right (by simp;omega),List.getElem?_drop];simp only[List.length_cons,List.length_nil];rw[show (κ b).off+i+(0+1)+(k - ((κ b).off+i) - (0+1))=k from by omega,Array.getElem?_toList]
     have FX:dh.size=cs.size:=by
      rw[<-Array.length_toList,ef];grind
     have zz:dh.getD ((κ b).off+i) Go.undef=a.eval y:=by
      rw[Array.getD_eq_getD_getElem?,eX];simp
     refine⟨aY,dh,hY,cw,by omega,c3,c4,c5,λj aG qY=>?_,by rw[zz];exact bA.later ch (λ_ M=>M) he af,by rw[zz];exact af.1.2⟩;obtain⟨bk,d1,d2⟩:=lW j aG qY;refine⟨bk,λq bt=>?_,fg e (λ_ M=>M) he d2⟩;have tL:q=0:=by have:=hT e d2;omega
     subst tL;rw[eX,if_neg (by rw[c5.1];omega)];exact d1 0 bt
    ·cases h
   ·cases h
  ·cases h
 rename_i cD dY adT ai;simp only[ar.e6,Option.bind_eq_some_iff,ar.bO,Option.some.injEq]at h;obtain⟨wl,lY,rfl⟩:=h;have Ku:cD=(use (a8 C.aP s.aA x)).1:=by rw[ai]
 have FY:dY=(use (a8 C.aP s.aA x)).2:=by rw[ai]
 subst Ku;subst FY;clear ai adT;intro a w κ F Q M bc _;have aq:bA C.P s.ab κ F w (use (a8 C.aP s.aA x)).2 (a.eval x):=cQ M x rfl bc.1;have af:bA C.P s.ab κ F w (use (a8 C.aP s.aA y)).2 (a.eval y):=cQ M y rfl bc.2;generalize (use (a8 C.aP s.aA x)).2=adU at *
 generalize (use (a8 C.aP s.aA y)).2=kz at *
 have au:∀ c,o.op≠.defer c:=by grind
 have fin:∀ w',(Instr.storeAt ty (a.eval x) (a.eval y)).run C.P w=.ok () w'->cv C (s.gf wl) a w'->o.wpIn (dS C.r) 0 C.P a w (λa' w'=>cv C (s.ia o.dst ⟨(use (a8 C.aP s.aA x)).1/\(use (a8 C.aP s.aA y)).1,True,.undef,wl⟩) a' w') Q:=by
  intro w' E U;refine FO (w':=w') au (by simp[execOp,ag,E]) ?_;rw[bg];exact U
 unfold RF at lY;cases adU with
 | ba b g off=>
  simp only[ar.e5,ar.bO]at lY;split at lY
  ·rename_i ay;split at lY
   ·rename_i n f bT;simp only[Option.bind_eq_some_iff]at lY;obtain⟨l,al,lY⟩:=lY;split at lY
    ·rename_i hc;simp only[Option.some.injEq]at lY;subst lY;have adV:=aq.2 ay.symm (by rw[bT];rfl);have iE:=Kq al af;have aU:=M.bD b;unfold cG at aU;rw[bT]at aU;obtain⟨cs,hY,bE,c2,c3⟩:=aU;have hlen:=iE.len;have nX:∀ u∈(a.eval y).cells.toList,u.oneCell'=true:=by
      intro u hu;obtain⟨i,G,rfl⟩:=List.mem_iff_getElem.1 hu;have:=(iE.kS i (by omega)).2;grind
     obtain⟨w',dh,b8,cw,ef,lq,kB,mu⟩:=vi (P:=C.P) (a.eval y).cells.toList off 0 w cs bE (by omega) nX;have cd:(a.eval y).cells.size=(T ty).size:=by grind
     have vj:T ty≠.cU:=by
      intro e;rw[e]at al;cases kz<;>simp[cellsOf,ad.eG]at al
     refine fin w' (by rw[adV];simp[Instr.storeAt,Instr.sureAddr,Kt (aV.cb rfl vj) cd b8]) ⟨κ,F,?_⟩;have gw:fs s.ab κ (λi=>if i=b then (⟨(s.ab b).gen,.cells n (putCells f off l)⟩:bK) else s.ab i) κ:=
      qZ rfl (λ_=>by rw[bT];rfl) (λh=>by cases h) (λh=>by cases h) (λh=>by cases h)
     refine (M.pe (b:=b) (x:=⟨(s.ab b).gen,.cells n (putCells f off l)⟩) (by rw[bT];rfl) rfl gw (λ_=>by rw[bT];rfl) (λh=>by cases h) lq kB mu λH m_ ch he=>?_);have FX:dh.size=n.size:=by
      rw[<-Array.length_toList,ef];grind
     refine⟨dh,hY,cw,FX,λi G=>?_⟩;have bH:dh.getD i Go.undef=dh.toList.getD i Go.undef:=by simp
     rw[bH,ef];have lZ:l.length=(a.eval y).cells.toList.length:=hlen;simp only[Nat.add_zero];have kV:(cs.toList.take off).length=off:=by grind
     unfold putCells;by_cases jo:off<=i/\i<off+l.length
     ·rw[if_pos jo];have az:(cs.toList.take off++((a.eval y).cells.toList++cs.toList.drop (off+(a.eval y).cells.toList.length))).getD i Go.undef=(a.eval y).cells.toList.getD (i - off) Go.undef:=by
       grind
      rw[az];have:=iE.kS (i - off) (by omega);exact⟨bA.later ch (λ_ M=>M) he this.1,this.2⟩
     ·rw[if_neg jo];have az:(cs.toList.take off++((a.eval y).cells.toList++cs.toList.drop (off+(a.eval y).cells.toList.length))).getD i Go.undef=cs.getD i Go.undef:=by
       rcases Nat.lt_or_ge i off with E | E
       ·rw[List.getD_eq_getElem?_getD,List.getElem?_append_left (by omega)];simp_all
       ·rw[List.getD_eq_getElem?_getD,List.getElem?_append_right (by omega),kV,List.getElem?_append_right (by omega),List.getElem?_drop];rw[show off+(a.eval y).cells.toList.length+(i - off - (a.eval y).cells.toList.length)=i from by omega];simp
      rw[az];exact⟨bA.later ch (λ_ M=>M) he (c3 i G).1,(c3 i G).2⟩
    grind
   grind
  grind
 | oy b g i off=>
  simp only[ar.e6,Option.bind_eq_some_iff,ar.run_bind,ar.e5,ar.bO]at lY;obtain⟨⟨z,l⟩,bj,lY⟩:=lY;split at lY
  ·rename_i ay;obtain⟨ay,qg⟩:=ay;have qg:b ∉ l:=by grind
   split at lY
   ·rename_i e xs bT;simp only[Option.map_eq_some_iff]at lY;obtain⟨mv,zx,rfl⟩:=lY;obtain⟨jN,qh,mw⟩:=aq.2 ay.symm (by rw[bT];rfl);rw[bT]at jN mw;simp only[bS.len,bS.e4]at jN mw;obtain⟨F',f1,bb,f2⟩:=bm.lp (mZ bj) M;have vk:=mq M.bD f1 bj f2 af;have Kv:((s.cB l).ab b)=s.ab b:=by simp[aC.cB,qg]
    have aU:=bb.bD b;unfold cG at aU;rw[Kv,bT]at aU;obtain⟨cs,hY,bE,c2,c3,c4,c5⟩:=aU.2 qh;obtain⟨bk,d1,d2⟩:=c5 i jN;have Kk:xs.getD i e.df=xs[i]:=by grind
    rw[Kk]at zx;have vl:=hT e d2;obtain⟨dr,dI,oF,bt,axC,axD,adW⟩:=ac' e d2 zx vk.2;have vj:T ty≠.cU:=by
     intro a7;have:=vk.1;rw[a7]at this;exact this
    have xk:(a.eval y).cells.toList.length=(T ty).size:=vk.1.len;have Cq:(i+1)*e.size<=(κ b).cap*e.size:=Nat.mul_le_mul_right _ (by omega);have hbound:off+(T ty).size<=e.size:=by
     grind
    have nX:∀ u∈(a.eval y).cells.toList,u.oneCell'=true:=by
     intro u hu;have iE:=zh (P:=C.P) (H:=λ_=>⟨0,.fD⟩) (κ:=λ_=>⟨0,0,0,true⟩) (T ty) vk.2;obtain⟨j,aG,rfl⟩:=List.mem_iff_getElem.1 hu;have:=(iE.kS j (by rw[iE.len];exact aG)).2;grind
    have lr:(κ b).off+i*e.size+off+0+(a.eval y).cells.toList.length<=cs.size:=by
     grind
    obtain⟨w',dh,b8,cw,ef,lq,kB,mu⟩:=vi (P:=C.P) (a.eval y).cells.toList ((κ b).off+i*e.size+off) 0 w cs bE lr nX;refine fin w' (by rw[mw];simp[Instr.storeAt,Instr.sureAddr,Kt (aV.cb rfl vj) (by omega) b8]) ⟨κ,F',?_⟩;have m':s.gf ((jL l).run s.ab++[(b,⟨(s.ab b).gen,.bh e (xs.set i mv)⟩)])=(s.cB l).cz b ⟨(s.ab b).gen,.bh e (xs.set i mv)⟩:=by
     rw[Cm,tI]
    rw[m'];have gw:fs (s.cB l).ab κ (λlo=>if lo=b then (⟨(s.ab b).gen,.bh e (xs.set i mv)⟩:bK) else (s.cB l).ab lo) κ:=
     qZ (by grind) (λh=>by cases h) (λ_=>by rw[Kv,bT];exact⟨rfl,by simp[bS.len],rfl⟩) (λh=>by cases h) (λh=>by cases h)
    have R8:(κ b).e_=false:=qh;refine bb.pe (b:=b) (x:=⟨(s.ab b).gen,.bh e (xs.set i mv)⟩) (by rw[Kv,bT];simp[bS.b1,R8]) (by simp[bS.b1,R8]) gw (λh=>by cases h) (λh=>by cases h) lq kB mu λH m_ ch he=>?_;refine⟨λax=>(by grind),λ_=>?_⟩;have FX:dh.size=cs.size:=by
     rw[<-Array.length_toList,ef];grind
    refine⟨dh,hY,cw,by omega,by grind,c4,λj aG=>?_⟩;have fV:j<xs.length:=by grind
    simp only[Nat.add_zero]at ef lr;have eX:∀ k,dh[k]?=if (κ b).off+i*e.size+off<=k/\k<(κ b).off+i*e.size+off+(T ty).size then (a.eval y).cells.toList[k - ((κ b).off+i*e.size+off)]? else cs[k]?:=by
     intro k;rw[<-Array.getElem?_toList,ef];have kV:(cs.toList.take ((κ b).off+i*e.size+off)).length=(κ b).off+i*e.size+off:=by grind
     by_cases jo:(κ b).off+i*e.size+off<=k/\k<(κ b).off+i*e.size+off+(T ty).size
     ·rw[if_pos jo,List.getElem?_append_right (by omega),kV,List.getElem?_append_left (by omega)]
     ·rw[if_neg jo];rcases Nat.lt_or_ge k ((κ b).off+i*e.size+off) with E | E
      ·grind
      ·rw[List.getElem?_append_right (by omega),kV,List.getElem?_append_right (by omega),List.getElem?_drop];rw[show (κ b).off+i*e.size+off+(a.eval y).cells.toList.length+(k - ((κ b).off+i*e.size+off) - (a.eval y).cells.toList.length)=k from by omega];simp
    by_cases qY:j=i
    ·subst qY;have az:(xs.set j mv)[j]=mv:=by simp
     rw[az];refine⟨dr++((a.eval y).cells.toList++oF),λk ak=>?_,fg e (λ_ M=>M) he adW⟩;rw[eX];subst bt;simp only[List.length_append]at ak vl;by_cases jo:off<=k/\k<off+(T ty).size
     ·rw[if_pos (by omega)];rw[show (κ b).off+j*e.size+k - ((κ b).off+j*e.size+off)=k - dr.length from by omega];grind
     grind
    ·have az:(xs.set i mv)[j]=xs[j]:=by grind
     rw[az];obtain⟨R9,adX,Kw⟩:=c5 j fV;refine⟨R9,λk ak=>?_,fg e (λ_ M=>M) he Kw⟩;rw[eX,if_neg]
     ·grind
     ·have axE:=hT e Kw;rcases Nat.lt_or_ge j i with E | E
      ·have:(j+1)*e.size<=i*e.size:=Nat.mul_le_mul_right _ (by omega);grind
      ·have:(i+1)*e.size<=j*e.size:=Nat.mul_le_mul_right _ (by omega);grind
   grind
  grind
 | _=>cases lY
end
end Go.Fer
