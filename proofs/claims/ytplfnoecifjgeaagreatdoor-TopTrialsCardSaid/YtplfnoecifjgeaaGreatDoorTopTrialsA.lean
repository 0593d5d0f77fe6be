/- Part 1 of the proof of TopTrials: shallow programs of Go functions, and what they compute. No condition. -/
import Derived.Below
import Derived.OrdersIn
import Derived.RangeFuncCalls
import Derived.RangeFuncSeq
import Derived.Laws.StructEq
import Derived.Laws.Tables
import Derived.ChangeMaps3
noncomputable section
abbrev z1':=List Int
abbrev z2':=List (Int×Int×Int×Int)
abbrev z3':=List (Int×Int×Int)
abbrev z4':=List (Int×Int)
abbrev z5':=List ((Int×Int×Int)×Int)
abbrev z6':=List (Nat×(Nat×Nat))
abbrev z7':=List (Int×Int×Int×Int×Int×Int)
abbrev z8':=List (Nat×Nat)
abbrev z9':=List (Option Nat)
set_option linter.unusedVariables false
set_option linter.unusedSimpArgs false
namespace Go.Fer
@[ext] structure A (ak:Type):Type where
 cm:Prop
 bL:ak->Prop
namespace A
variable {ak β gD D aJ:Type}
def pure(x:ak):A ak:=⟨True,λy=>y=x⟩
def bind(m:A ak)(f:ak->A β):A β:=⟨m.cm/\∀ x,m.bL x->(f x).cm,λy=>∃ x,m.bL x/\(f x).bL y⟩
def ab(p:Prop)(m:A ak):A ak:=⟨p/\m.cm,m.bL⟩
def dS(p:Prop)(x:ak):A ak:=⟨p,λy=>y=x⟩
def any(p:ak->Prop):A ak:=⟨∃ x,p x,p⟩
theorem ext'{m n:A ak}(E:m.cm<->n.cm)(U:∀ x,m.bL x<->n.bL x):m=n:=by
 cases m;cases n;simp only[A.mk.injEq];grind
@[simp] theorem iU (x:ak):(pure x).cm=True:=rfl
@[simp] theorem axA (x y:ak):(pure x).bL y=(y=x):=rfl
@[simp] theorem aG (x:ak) (f:ak->A β):bind (pure x) f=f x:=ext' (by simp[bind,pure]) (by simp[bind,pure])
@[simp] theorem axB (m:A ak):bind m pure=m:=ext' (by simp[bind,pure]) (by simp[bind,pure])
theorem bu{p:Prop}(h:p)(m:A ak):ab p m=m:=ext' (by simp[ab,h]) (by simp[ab])
@[simp] theorem bq (m:A ak):ab True m=m:=bu trivial m
theorem Fo(p:Prop)(m:A ak)(f:ak->A β):bind (ab p m) f=ab p (bind m f):=ext' (by simp[bind,ab,and_assoc]) (by simp[bind,ab])
@[simp] theorem nI (x:ak):dS True x=pure x:=rfl
theorem bS{p:Prop}(h:p)(x:ak):dS p x=pure x:=ext' (by simp_all) (by simp_all)
theorem dv(p:Prop)(x:ak)(f:ak->A β):bind (dS p x) f=ab p (f x):=by
 apply ext'
 ·simp[bind,dS,ab]
 ·simp[bind,dS,ab]
theorem Rj{c:Prop}[Decidable c](m n:A ak)(f:ak->A β):bind (if c then m else n) f=if c then bind m f else bind n f:=by grind
def le(n m:A ak):Prop:=m.cm->n.cm/\∀ y,n.bL y->m.bL y
theorem le_refl(m:A ak):le m m:=λh=>⟨h,λ_ h=>h⟩
theorem le_trans{a b c:A ak}(h:le a b)(k:le b c):le a c:=λaE=>⟨(h (k aE).1).1,λy aR=>(k aE).2 y ((h (k aE).1).2 y aR)⟩
theorem le_of_eq{a b:A ak}(h:a=b):le a b:=h ▸ le_refl a
def cy(m:A ak)(p:ak->Prop):Prop:=m.cm/\∀ y,m.bL y->p y
theorem cy.mono{m:A ak}{p q:ak->Prop}(h:cy m p)(k:∀ y,p y->q y):cy m q:=⟨h.1,λy aR=>k y (h.2 y aR)⟩
theorem eb{x:ak}{p:ak->Prop}:cy (pure x) p<->p x:=⟨λh=>h.2 x rfl,λh=>⟨trivial,λ_ e=>e ▸ h⟩⟩
theorem gh{m:A ak}{f:ak->A β}{p:β->Prop}:cy (bind m f) p<->cy m λx=>cy (f x) p:=
 ⟨λh=>⟨h.1.1,λx ah=>⟨h.1.2 x ah,λy aR=>h.2 y ⟨x,ah,aR⟩⟩⟩,λh=>⟨⟨h.1,λx ah=>(h.2 x ah).1⟩,λy ⟨x,ah,aR⟩=>(h.2 x ah).2 y aR⟩⟩
theorem kM{q:Prop}{m:A ak}{p:ak->Prop}:cy (ab q m) p<->q/\cy m p:=by
 simp[cy,ab,and_assoc]
inductive V(D aJ:Type) where
 | next (s:D)
 | done (r:aJ)
inductive BR(body:D->A (V D aJ)):D->Prop where
 | mk (s:D) (h:(body s).cm) (k:∀ s',(body s).bL (.next s')->BR body s'):BR body s
inductive y1(body:D->A (V D aJ)):D->aJ->Prop where
 | done (s:D) (r:aJ) (h:(body s).bL (.done r)):y1 body s r
 | next (s s':D) (r:aJ) (h:(body s).bL (.next s')) (k:y1 body s' r):y1 body s r
def loop(body:D->A (V D aJ))(s:D):A aJ:=⟨BR body s,y1 body s⟩
theorem BS(body:D->A (V D aJ))(s:D) :
  loop body s=bind (body s) fun | .next s'=>loop body s' | .done r=>pure r:=by
 apply ext'
 ·constructor
  ·rintro⟨_,h,k⟩;refine⟨h,λx ah=>?_⟩;cases x with
   | next s'=>exact k s' ah
   | done r=>trivial
  ·rintro⟨h,k⟩;exact⟨s,h,λs' aE=>k _ aE⟩
 ·intro r;constructor
  ·rintro (⟨_,_,h⟩ | ⟨_,s',_,h,k⟩)
   ·exact⟨.done r,h,rfl⟩
   ·exact⟨.next s',h,k⟩
  ·rintro⟨x,ah,M⟩;cases x with
   | next s'=>exact .next s s' r ah M
   | done p1=>cases M;exact .done s _ ah
theorem y2{body:D->A (V D aJ)}{s s':D}(h:body s=pure (.next s')):loop body s=loop body s':=by
 rw[BS,h,aG]
theorem r3{body:D->A (V D aJ)}{s:D}{r:aJ}(h:body s=pure (.done r)):loop body s=pure r:=by
 rw[BS,h,aG]
theorem acP{body:D->A (V D aJ)}{res:aJ}(I:D->Prop)(wV:D->Nat)
  (round:∀ s,I s->(∃ s',body s=pure (.next s')/\I s'/\wV s'<wV s)\/body s=pure (.done res)) (s:D) (h:I s) :
  loop body s=pure res:=by
 have key:∀ n s,wV s=n->I s->loop body s=pure res:=by
  intro n;induction n using Nat.strongRecOn with
  | _ n aK=>
   intro s aB aE;rcases round s aE with⟨s',e,eB,cc⟩ | e
   ·rw[y2 e];grind
   ·exact r3 e
 grind
theorem BT{body:D->A (V D aJ)}{p:aJ->Prop}(I:D->Prop)(wV:D->Nat)
  (round:∀ s,I s->cy (body s) fun | .next s'=>I s'/\wV s'<wV s | .done r=>p r) (s:D) (h:I s):cy (loop body s) p:=by
 have key:∀ n s,wV s=n->I s->cy (loop body s) p:=by
  intro n;induction n using Nat.strongRecOn with
  | _ n aK=>
   intro s aB aE;rw[BS,gh];refine (round s aE).mono λy aR=>?_;cases y with
   | next s'=>grind
   | done r=>exact eb.2 aR
 grind
end A
end Go.Fer
namespace Go.Fer
def Rk(b:Nat)(c:Nat->Option Value):Prop:=
 match b with
 | 0=>∃ m,c 0=some (.int .i64 m)
 | 1 | 2=>∃ v,c 0=some v/\(v=.nilIface\/∃ lK mg,v=.iface lK mg)
 | 5=>∀ i,c i=if i<20 then some (.int .u64 (10 ^ i)) else none
 | _=>True
end Go.Fer
namespace Go.Fer
open Go.RowKit
inductive ad where
 | bool | int (k:IntKind) | str | cU
 | st (t:ad) | az (a b:ad)
 | slice (e:ad) | array (n:Nat) (e:ad) | bI (e:ad) | map (k v:ad) | fn (a b:ad) | ct (a:ad) | eu
 deriving DecidableEq
@[reducible] def ad.ai:ad->Type
 | .bool=>Bool
 | .int _=>Int
 | .str=>List UInt8
 | .cU=>Unit
 | .st t=>t.ai
 | .az a b=>a.ai×b.ai
 | .slice e=>List e.ai
 | .array _ e=>List e.ai
 | .bI e=>Option e.ai
 | .map k v=>List (k.ai×v.ai)
 | .fn a b=>a.ai->A b.ai
 | .ct a=>List a.ai->Prop
 | .eu=>Option Nat
def ad.df:(t:ad)->t.ai
 | .bool=>false
 | .int _=>(0:Int)
 | .str=>[]
 | .cU=>()
 | .st t=>t.df
 | .az a b=>(a.df,b.df)
 | .slice _=>[]
 | .array n e=>List.replicate n e.df
 | .bI _=>none
 | .map _ _=>[]
 | .fn _ _=>λ_=>⟨False,λ_=>False⟩
 | .ct _=>λ_=>False
 | .eu=>none
def ad.size:ad->Nat
 | .cU=>0
 | .st t=>t.size
 | .az a b=>a.size+b.size
 | .array n e=>n*e.size
 | _=>1
def ad.eF:ad->Bool
 | .cU | .st _ | .az _ _ | .array _ _=>false
 | _=>true
def fV(k:IntKind)(n:Int):Prop:=k.min<=n/\n<=k.max
instance (k:IntKind) (n:Int):Decidable (fV k n):=inferInstanceAs (Decidable (_/\_))
def Holds(F:Nat->Prop)(w:World)(p:Addr)(cs:List Value):Prop:=
 F p.block/\p.spot=none/\∀ j (h:j<cs.length),w.cell? ⟨p.block,p.off+j,none⟩=some cs[j]
def c6(F:Nat->Prop)(w w':World):Prop:=w.heap.size<=w'.heap.size/\∀ r,F r->w'.heap[r]?=w.heap[r]?
theorem c6.refl(F:Nat->Prop)(w:World):c6 F w w:=⟨Nat.le_refl _,λ_ _=>rfl⟩
theorem c6.trans{F F':Nat->Prop}{a b c:World}(h:c6 F a b)(bp:∀ r,F r->F' r)(k:c6 F' b c):c6 F a c:=
 ⟨Nat.le_trans h.1 k.1,λr M=>(k.2 r (bp r M)).trans (h.2 r M)⟩
theorem c6.cell{F:Nat->Prop}{w w':World}(h:c6 F w w'){a:Addr}(bb:F a.block):w'.cell? a=w.cell? a:=by
 simp only[World.cell?,h.2 _ bb]
def nJ(P:Program)(F:Nat->Prop)(w:World):Prop:=∀ b,b<P.globals.size->F b/\Rk b λi=>w.cell? ⟨b,i,none⟩
theorem nJ.mono{P:Program}{F F':Nat->Prop}{w w':World}(h:nJ P F w)(bp:∀ r,F r->F' r)(he:c6 F w w'):nJ P F' w':=λb W=>by
 obtain⟨E,U⟩:=h b W;have e:(λi=>w'.cell? ⟨b,i,none⟩)=λi=>w.cell? ⟨b,i,none⟩:=funext λi=>he.cell (a:=⟨b,i,none⟩) E;exact⟨bp b E,e ▸ U⟩
theorem Holds.mono{F F':Nat->Prop}{w w':World}{p:Addr}{cs:List Value}(h:Holds F w p cs)(bp:∀ r,F r->F' r)(he:c6 F w w'):Holds F' w' p cs:=
 ⟨bp _ h.1,h.2.1,λj aF=>(he.cell (a:=⟨p.block,p.off+j,none⟩) h.1).trans (h.2.2 j aF)⟩
def kN:ad->Value->Prop
 | .st t,v=>∃ cs:Array Value,v=.agg cs/\cs.size=t.size
 | .array n e,v=>∃ cs:Array Value,v=.agg cs/\cs.size=n*e.size
 | .cU,_=>False
 | .az _ _,_=>False
 | _,v=>v.cells=#[v]
def ek(aD:List Value):List Value:=aD.flatMap (·.cells.toList)
@[simp] theorem acQ:ek []=[]:=rfl
@[simp] theorem JZ (v:Value) (aD:List Value):ek (v::aD)=v.cells.toList++ek aD:=rfl
def wW:ad->List Value->Prop
 | .az a b,v::aD=>kN a v/\wW b aD
 | .az _ _,[]=>False
 | .cU,aD=>aD=[]
 | t,aD=>∃ v,aD=[v]/\kN t v
def y3:ad->Value->List Value->Prop
 | .az _ _,v,aD=>v=.tuple aD.toArray
 | .cU,v,aD=>v=.tuple #[]/\aD=[]
 | _,v,aD=>aD=[v]
def u7(F:Nat->Prop)(w w':World):Nat->Prop:=λr=>F r\/(w.heap.size<=r/\r<w'.heap.size)
structure Fp(P:Program){ak:Type}(R:(Nat->Prop)->World->List Value->ak->Prop)(l:Nat)(S:List ak->Prop)(I:List ak->Bool->(Nat->Prop)->(Nat->Prop)->World->Prop):Prop where
 BU:∀ {pre st} {F F' Y:Nat->Prop} {w w':World},I pre st F Y w->(∀ r,F r->F' r)->(∀ r,F r\/Y r->w'.heap[r]?=w.heap[r]?)->w.heap.size<=w'.heap.size->w'.os=w.os/\w'.tape=w.tape/\w'.output=w.output->(∀ r,F' r->r<w'.heap.size)->(∀ r,F' r->¬Y r)->I pre st F' Y w'
 yield:∀ {pre} {F Y:Nat->Prop} {w:World} {args:List Value} {x:ak},I pre false F Y w->(∀ r,F r->r<w.heap.size)->(∀ r,Y r->r<w.heap.size/\¬F r)->(∃ T,S (pre++x::T))->R F w args x->
  YieldAt Fence.wide 0 P l args.toArray w λe w'=>∃ (b:Bool) (F' gE:Nat->Prop),e=.returned (.bool b)/\(∀ r,F r->F' r)/\(∀ r,F' r->F r\/Y r\/w.heap.size<=r)/\(∀ r,F' r->r<w'.heap.size)/\
   (∀ r,r<w.heap.size->¬Y r->w'.heap[r]?=w.heap[r]?)/\(∀ r,gE r->(Y r\/w.heap.size<=r)/\r<w'.heap.size/\¬F' r)/\w.heap.size<=w'.heap.size/\(w'.os=w.os/\w'.tape=w.tape/\w'.output=w.output)/\I (pre++[x]) (!b) F' gE w'
def Rl{ak:Type}(S:List ak->Prop)(I:List ak->Bool->(Nat->Prop)->(Nat->Prop)->World->Prop)(F Y:Nat->Prop)(w:World)(e:Ending)(w':World):Prop:=
 ∃ v pre st F' gE,e=.returned v/\(st=false->S pre)/\I pre st F' gE w'/\(∀ r,F r->F' r)/\(∀ r,F' r->F r\/Y r\/w.heap.size<=r)/\(∀ r,F' r->r<w'.heap.size)/\
  (∀ r,r<w.heap.size->¬Y r->w'.heap[r]?=w.heap[r]?)/\(∀ r,gE r->(Y r\/w.heap.size<=r)/\r<w'.heap.size/\¬F' r)/\w.heap.size<=w'.heap.size/\(w'.os=w.os/\w'.tape=w.tape/\w'.output=w.output)
def acR:Option Nat->Value
 | none=>.nilFunc
 | some k=>.func (.func k) #[] #[]
def bJ(P:Program):(t:ad)->(Nat->Prop)->World->List Value->t.ai->Prop
 | .bool,_,_,cs,x=>cs=[.bool x]
 | .int k,_,_,cs,x=>cs=[.int k x]/\fV k x
 | .str,_,_,cs,x=>cs=[.string ⟨x.toArray⟩]/\x.length<2 ^ 63
 | .cU,_,_,cs,_=>cs=[]
 | .st t,F,w,cs,x=>bJ P t F w cs x
 | .az a b,F,w,cs,x=>∃ c d,cs=c++d/\bJ P a F w c x.1/\bJ P b F w d x.2
 | .slice e,F,w,cs,xs=>∃ a cap,cs=[.slice a xs.length cap]/\xs.length<=cap/\cap<2 ^ 63/\(a=none->cap=0)/\
   ∀ p,a=some p->0<cap->F p.block/\p.spot=none/\∀ i (h:i<xs.length),∃ bk,Holds F w ⟨p.block,p.off+i*e.size,none⟩ bk/\bJ P e F w bk xs[i]
 | .array n e,F,w,cs,xs=>∃ fp:List (List Value),cs=fp.flatten/\fp.length=n/\xs.length=n/\∀ i (h:i<xs.length) (dt:i<fp.length),bJ P e F w fp[i] xs[i]
 | .bI e,F,w,cs,x=>(cs=[.pointer none]/\x=none)\/∃ p y bk,cs=[.pointer (some p)]/\x=some y/\Holds F w p bk/\bJ P e F w bk y
 | .map k v,F,w,cs,xs=>(cs=[.map none]/\xs=[])\/∃ r es clk,cs=[.map (some r)]/\F r/\w.heap[r]?=some (.map es clk)/\es.size=xs.length/\(xs.map (·.1)).Nodup/\
   (∀ i (h:i<xs.length) (dt:i<es.size),kN k es[i].key/\bJ P k F w es[i].key.cells.toList xs[i].1/\kN v es[i].val/\bJ P v F w es[i].val.cells.toList xs[i].2/\es[i].born<clk)/\
   (∀ i j (h:i<es.size) (dt:j<es.size),es[i].born=es[j].born->i=j)
 | .fn a b,F,w,cs,f=>∃ u,cs=[u]/\(u.cells=#[u]/\u.oneCell'=true)/\∀ (F':Nat->Prop) (w':World),(∀ r,F r->F' r)->c6 F w w'->(∀ r,F' r->r<w'.heap.size)->nJ P F' w'->
   ∀ args x,wW a args->bJ P a F' w' (ek args) x->(f x).cm->∃ g c1,u=.func (.func g) #[] c1/\(∀ as w,(callFunc g as).run P w=.ok (.enter g as) w)/\
    Calls P g (args.toArray++c1) w' λe tv=>∃ v y aD,e=.returned v/\(f x).bL y/\y3 b v aD/\wW b aD/\bJ P b (u7 F' w' tv) tv (ek aD) y/\Below w'.heap.size w' tv
 | .ct a,F,w,cs,S=>∃ u,cs=[u]/\(u.cells=#[u]/\u.oneCell'=true)/\∀ (F':Nat->Prop) (w':World),(∀ r,F r->F' r)->c6 F w w'->(∀ r,F' r->r<w'.heap.size)->nJ P F' w'->
   (∃ L,S L)->∃ g c1,u=.func (.func g) #[] c1/\(∀ as w,(callFunc g as).run P w=.ok (.enter g as) w)/\
    ∀ (l:Nat) (I:List a.ai->Bool->(Nat->Prop)->(Nat->Prop)->World->Prop) (Y:Nat->Prop),(∀ r,Y r->r<w'.heap.size/\¬F' r)->
     Fp P (λF w args x=>wW a args/\bJ P a F w (ek args) x) l S I->I [] false F' Y w'->Calls P g (#[Value.func (.yield l) #[] #[]]++c1) w' (Rl S I F' Y w')
 | .eu,_,_,cs,x=>cs=[acR x]
theorem hP{P:Program}:∀ (t:ad) {F:Nat->Prop} {w:World} {cs:List Value} {x:t.ai},bJ P t F w cs x->cs.length=t.size:=by
 intro t;induction t with
 | bool=>intro F w cs x h;simp only[bJ]at h;simp[h,ad.size]
 | int k=>intro F w cs x h;simp only[bJ]at h;simp[h.1,ad.size]
 | str=>intro F w cs x h;simp only[bJ]at h;simp[h.1,ad.size]
 | cU=>intro F w cs x h;simp only[bJ]at h;simp[h,ad.size]
 | st t aK=>intro F w cs x h;simp only[bJ]at h;exact aK h
 | az a b fy eK=>
  intro F w cs x h;simp only[bJ]at h;obtain⟨c,d,rfl,bb,W⟩:=h;simp[ad.size,fy bb,eK W]
 | slice e aK=>intro F w cs x h;simp only[bJ]at h;obtain⟨a,cap,rfl,_⟩:=h;rfl
 | array n e aK=>
  intro F w cs x h;simp only[bJ]at h;obtain⟨fp,rfl,E,U,ag⟩:=h;have:∀ l∈fp,l.length=e.size:=by
   intro l aj;obtain⟨i,G,rfl⟩:=List.mem_iff_getElem.1 aj;grind
  have a6:fp.map List.length=List.replicate n e.size:=by
   rw[<-E];exact List.eq_replicate_iff.2 ⟨by simp,by grind⟩
  simp[List.length_flatten,a6,ad.size]
 | bI e aK=>intro F w cs x h;simp only[bJ]at h;rcases h with⟨rfl,_⟩ | ⟨p,y,bk,rfl,_⟩<;>rfl
 | map k v wX wY=>intro F w cs x h;simp only[bJ]at h;rcases h with⟨rfl,_⟩ | ⟨r,es,clk,rfl,_⟩<;>rfl
 | fn a b fy eK=>intro F w cs x h;simp only[bJ]at h;obtain⟨u,rfl,_⟩:=h;rfl
 | ct a aK=>intro F w cs x h;simp only[bJ]at h;obtain⟨u,rfl,_⟩:=h;rfl
 | eu=>intro F w cs x h;simp only[bJ]at h;subst h;rfl
theorem ff{P:Program}:∀ (t:ad) {F F':Nat->Prop} {w w':World} {cs:List Value} {x:t.ai},(∀ r,F r->F' r)->c6 F w w'->bJ P t F w cs x->bJ P t F' w' cs x:=by
 intro t;induction t with
 | bool=>intro F F' w w' cs x _ _ h;exact h
 | int k=>intro F F' w w' cs x _ _ h;exact h
 | str=>intro F F' w w' cs x _ _ h;exact h
 | cU=>intro F F' w w' cs x _ _ h;exact h
 | st t aK=>intro F F' w w' cs x bp he h;simp only[bJ]at h ⊢;grind
 | az a b fy eK=>
  intro F F' w w' cs x bp he h;simp only[bJ]at h ⊢;grind
 | slice e aK=>
  intro F F' w w' cs x bp he h;simp only[bJ]at h ⊢;obtain⟨a,cap,rfl,E,U,ag,a6⟩:=h;refine⟨a,cap,rfl,E,U,ag,λp ao hc=>?_⟩;obtain⟨aQ,aS,bP⟩:=a6 p ao hc;refine⟨bp _ aQ,aS,λi G=>?_⟩;obtain⟨bk,m1,m2⟩:=bP i G;exact⟨bk,m1.mono bp he,aK bp he m2⟩
 | array n e aK=>
  intro F F' w w' cs x bp he h;simp only[bJ]at h ⊢;grind
 | bI e aK=>
  intro F F' w w' cs x bp he h;simp only[bJ]at h ⊢;rcases h with h | ⟨p,y,bk,E,U,ag,a6⟩
  ·grind
  ·exact .inr ⟨p,y,bk,E,U,ag.mono bp he,aK bp he a6⟩
 | map k v wX wY=>
  intro F F' w w' cs x bp he h;simp only[bJ]at h ⊢;rcases h with h | ⟨r,es,clk,E,U,ag,a6,bM,dn,fT⟩
  ·grind
  ·refine .inr ⟨r,es,clk,E,bp _ U,(he.2 _ U).trans ag,a6,bM,λi G dL=>?_,fT⟩;grind
 | fn a b fy eK=>
  intro F F' w w' cs x bp he h;simp only[bJ]at h ⊢;obtain⟨u,rfl,hu,E⟩:=h;exact⟨u,rfl,hu,λJ0 tv tw BV aE=>E J0 tv (λr M=>tw r (bp r M)) (he.trans bp BV) aE⟩
 | ct a aK=>
  intro F F' w w' cs x bp he h;simp only[bJ]at h ⊢;obtain⟨u,rfl,hu,E⟩:=h;exact⟨u,rfl,hu,λJ0 tv tw BV aE=>E J0 tv (λr M=>tw r (bp r M)) (he.trans bp BV) aE⟩
 | eu=>intro F F' w w' cs x _ _ h;exact h
def ev(P:Program)(t:ad)(F:Nat->Prop)(w:World)(v:Value)(x:t.ai):Prop:=kN t v/\bJ P t F w v.cells.toList x
def fq(P:Program)(t:ad)(F:Nat->Prop)(w:World)(aD:List Value)(x:t.ai):Prop:=wW t aD/\bJ P t F w (ek aD) x
def tx(P:Program)(t:ad)(F:Nat->Prop)(w:World)(v:Value)(x:t.ai):Prop:=∃ aD,y3 t v aD/\fq P t F w aD x
theorem ev.mono{P:Program}{t:ad}{F F':Nat->Prop}{w w':World}{v:Value}{x:t.ai}(h:ev P t F w v x)(bp:∀ r,F r->F' r)(he:c6 F w w'):ev P t F' w' v x:=
 ⟨h.1,ff t bp he h.2⟩
theorem Fq{v:Value}(h:v.oneCell'=true):v.cells=#[v]:=by
 cases v<;>first | rfl | cases h
theorem Rm{v:Value}(h:v.cells=#[v]):v.cells.toList=[v]:=by rw[h]
theorem kN.len{t:ad}{v:Value}(h:kN t v):v.cells.toList.length=t.size:=by
 cases t<;>simp only[kN]at h<;>first
  | (obtain⟨cs,rfl,h⟩:=h;simpa [Value.cells,ad.size]using h)
  | (rw[Rm h];rfl)
  | exact h.elim
theorem BW{P:Program}{a b:ad}{F:Nat->Prop}{w:World}{v:Value}{aD:List Value}{x:a.ai}{y:b.ai} :
  fq P (.az a b) F w (v::aD) (x,y)<->ev P a F w v x/\fq P b F w aD y:=by
 constructor
 ·rintro⟨⟨E,U⟩,c,d,e,hc,aw⟩;have aj:=hP a hc;have:=List.append_inj e (by rw[aj];exact E.len);rw[JZ]at e;obtain⟨ax,aO⟩:=this;subst ax;subst aO;exact⟨⟨E,hc⟩,U,aw⟩
 ·rintro⟨⟨E,U⟩,ag,a6⟩;exact⟨⟨E,ag⟩,_,_,rfl,U,a6⟩
theorem Fs{P:Program}{a b:ad}{F:Nat->Prop}{w:World}{aD:List Value}{x:(ad.az a b).ai}(h:fq P (.az a b) F w aD x) :
  ∃ v us,aD=v::us/\ev P a F w v x.1/\fq P b F w us x.2:=by
 cases aD with
 | nil=>exact h.1.elim
 | cons v us=>exact⟨v,us,rfl,BW.1 h⟩
def ad.gF:ad->Bool
 | .az _ _ | .cU=>false
 | _=>true
theorem r4{P:Program}{t:ad}(aI:t.gF=true){F:Nat->Prop}{w:World}{aD:List Value}{x:t.ai} :
  fq P t F w aD x<->∃ v,aD=[v]/\ev P t F w v x:=by
 have key:wW t aD<->∃ v,aD=[v]/\kN t v:=by cases t<;>simp[ad.gF,wW]at aI ⊢
 unfold fq ev;rw[key];constructor
 ·rintro⟨⟨v,rfl,ae⟩,h⟩;exact⟨v,rfl,ae,by simpa using h⟩
 ·rintro⟨v,rfl,ae,h⟩;exact⟨⟨v,rfl,ae⟩,by simpa using h⟩
section
variable {P:Program} {F:Nat->Prop} {w:World} {v:Value}
@[simp] theorem fg {x:Bool}:ev P .bool F w v x<->v=.bool x:=by
 constructor
 ·rintro⟨E,U⟩;simp only[kN]at E;simp only[bJ]at U;rw[Rm E]at U;simpa using U
 ·rintro rfl;exact⟨by simp[kN,Value.cells],by simp[bJ,Value.cells]⟩
theorem gV{k:IntKind}{x:Int}:ev P (.int k) F w v x<->v=.int k x/\fV k x:=by
 constructor
 ·rintro⟨E,U⟩;simp only[kN]at E;simp only[bJ]at U;grind
 ·rintro⟨rfl,h⟩;exact⟨by rfl,by simpa [bJ,Value.cells]using h⟩
theorem mh{x:List UInt8}:ev P .str F w v x<->v=.string ⟨x.toArray⟩/\x.length<2 ^ 63:=by
 constructor
 ·rintro⟨E,U⟩;simp only[kN]at E;simp only[bJ]at U;grind
 ·rintro⟨rfl,h⟩;exact⟨by rfl,by simpa [bJ,Value.cells]using h⟩
theorem dV{t:ad}(aI:t.eF=true){x:t.ai}:ev P t F w v x<->v.cells=#[v]/\bJ P t F w [v] x:=by
 have E:kN t v<->v.cells=#[v]:=by cases t<;>simp[ad.eF,kN]at aI ⊢
 unfold ev;grind
theorem J1{t:ad}(aI:t.eF=true){F:Nat->Prop}{w:World}{u:Value}{x:t.ai}(h:bJ P t F w [u] x):u.oneCell'=true:=by
 cases t<;>simp only[ad.eF,bJ]at aI h<;>try contradiction
 ·obtain rfl:=(List.cons.inj h).1;rfl
 ·obtain rfl:=(List.cons.inj h.1).1;rfl
 ·obtain rfl:=(List.cons.inj h.1).1;rfl
 ·obtain⟨a,cap,h,_⟩:=h;obtain rfl:=(List.cons.inj h).1;rfl
 ·rcases h with⟨h,_⟩ | ⟨p,y,bk,h,_⟩<;>(obtain rfl:=(List.cons.inj h).1;rfl)
 ·rcases h with⟨h,_⟩ | ⟨r,es,clk,h,_⟩<;>(obtain rfl:=(List.cons.inj h).1;rfl)
 ·obtain⟨mN,h,hu,_⟩:=h;obtain rfl:=(List.cons.inj h).1;exact hu.2
 ·obtain⟨mN,h,hu,_⟩:=h;obtain rfl:=(List.cons.inj h).1;exact hu.2
 ·obtain rfl:=(List.cons.inj h).1;cases x<;>rfl
theorem BX{t:ad}(aI:t.eF=true){F:Nat->Prop}{w:World}{cs:List Value}{x:t.ai}(h:bJ P t F w cs x):∃ u,cs=[u]/\u.cells=#[u]:=by
 cases t<;>simp only[ad.eF,bJ]at aI h<;>try contradiction
 ·exact⟨_,h,rfl⟩
 ·exact⟨_,h.1,rfl⟩
 ·exact⟨_,h.1,rfl⟩
 ·obtain⟨a,cap,rfl,_⟩:=h;exact⟨_,rfl,rfl⟩
 ·rcases h with⟨rfl,_⟩ | ⟨p,y,bk,rfl,_⟩<;>exact⟨_,rfl,rfl⟩
 ·rcases h with⟨rfl,_⟩ | ⟨r,es,clk,rfl,_⟩<;>exact⟨_,rfl,rfl⟩
 ·obtain⟨u,rfl,hu,_⟩:=h;exact⟨u,rfl,hu.1⟩
 ·obtain⟨u,rfl,hu,_⟩:=h;exact⟨u,rfl,hu.1⟩
 ·exact⟨_,h,by cases x<;>rfl⟩
end
structure h2(P:Program)(k:FuncId)(ts aW:ad)(sh:ts.ai->A aW.ai):Prop where
 enter:∀ args w,(callFunc k args).run P w=.ok (.enter k args) w
 iV:∀ (F:Nat->Prop) (w:World) (args:List Value) (x:ts.ai),(∀ r,F r->r<w.heap.size)->nJ P F w->fq P ts F w args x->(sh x).cm->
  Calls P k args.toArray w λe w'=>∃ v y,e=.returned v/\(sh x).bL y/\tx P aW (u7 F w w') w' v y/\Below w.heap.size w w'
structure Rn(P:Program)(k:FuncId)(ts aW:ad)(sh:ts.ai->A aW.ai):Prop where
 iV:∀ (F:Nat->Prop) (w:World) (args:List Value) (x:ts.ai),(∀ r,F r->r<w.heap.size)->nJ P F w->fq P ts F w args x->(sh x).cm->
  Calls P k args.toArray w λe w'=>∃ v y,e=.returned v/\(sh x).bL y/\tx P aW (λr=>w.heap.size<=r/\r<w'.heap.size) w' v y/\Below w.heap.size w w'
def gn:List ad->ad
 | []=>.cU
 | [t]=>t
 | t::u::l=>.az t (gn (u::l))
def Ft:(as bs:List ad)->(gn as).ai->(gn bs).ai->(gn (as++bs)).ai
 | [],_,_,y=>y
 | [_],[],x,_=>x
 | [_],_::_,x,y=>(x,y)
 | _::u::l,bs,x,y=>(x.1,Ft (u::l) bs x.2 y)
theorem Ro{P:Program}{F:Nat->Prop}{w:World}:∀ (as bs:List ad),as.all ad.gF=true->∀ {aD us:List Value} {x:(gn as).ai} {y:(gn bs).ai},fq P (gn as) F w aD x->fq P (gn bs) F w us y->fq P (gn (as++bs)) F w (aD++us) (Ft as bs x y)
 | [],bs,_,aD,us,x,y,E,U=>by
  obtain rfl:aD=[]:=E.1;exact U
 | [t],[],_,aD,us,x,y,E,U=>by
  obtain rfl:us=[]:=U.1;have e:aD++[]=aD:=List.append_nil aD;rw[e];exact E
 | [t],b::bs,h,aD,us,x,y,E,U=>by
  have aI:t.gF=true:=by grind
  obtain⟨v,rfl,ae⟩:=(r4 aI).1 E;exact BW.2 ⟨ae,U⟩
 | t::u::l,bs,h,aD,us,x,y,E,U=>by
  obtain⟨v,r5,rfl,ag,a6⟩:=Fs (a:=t) (b:=gn (u::l)) E;have aj:(u::l).all ad.gF=true:=by
   grind
  have:=Ro (u::l) bs aj a6 U;exact BW.2 ⟨ag,this⟩
structure acS where
 ts:ad
 aW:ad
 sh:ts.ai->A aW.ai
structure Fu where
 as:List ad
 cs:List ad
 aW:ad
 sh:(gn (as++cs.map .bI)).ai->A aW.ai
structure wZ where
 cs:List ad
 aM:ad
 S:(gn (cs.map .bI)).ai->List aM.ai->Prop
structure w1(P:Program)(k:FuncId)(v:wZ):Prop where
 enter:∀ args w,(callFunc k args).run P w=.ok (.enter k args) w
 iV:∀ (F:Nat->Prop) (w:World) (c1:List Value) (x:(gn (v.cs.map .bI)).ai),(∀ r,F r->r<w.heap.size)->nJ P F w->fq P (gn (v.cs.map .bI)) F w c1 x->(∃ L,v.S x L)->
  ∀ (l:Nat) (I:List v.aM.ai->Bool->(Nat->Prop)->(Nat->Prop)->World->Prop) (Y:Nat->Prop),(∀ r,Y r->r<w.heap.size/\¬F r)->
   Fp P (fq P v.aM) l (v.S x) I->I [] false F Y w->Calls P k (#[Value.func (.yield l) #[] #[]]++c1.toArray) w (Rl (v.S x) I F Y w)
structure dG where
 tz:Nat->Option acS
 tA:Nat->Option Fu
 w2:Nat->Option wZ:=λ_=>none
structure qR(P:Program)(aP:dG):Prop where
 tz:∀ k v,aP.tz k=some v->h2 P k v.ts v.aW v.sh
 tA:∀ k v,aP.tA k=some v->v.as.all ad.gF=true/\h2 P k (gn (v.as++v.cs.map .bI)) v.aW v.sh
 w2:∀ k v,aP.w2 k=some v->w1 P k v:=by intro k v h;cases h
theorem acT{P:Program}{k:FuncId}{ts aW:ad}{sh:ts.ai->A aW.ai}(h:h2 P k ts aW sh)(F:Nat->Prop)(w:World):bJ P (.fn ts aW) F w [.func (.func k) #[] #[]] sh:=by
 refine⟨_,rfl,⟨rfl,rfl⟩,λF' w' _ _ aE aC args x E U ag=>⟨k,#[],rfl,h.enter,?_⟩⟩;have:=h.iV F' w' args x aE aC ⟨E,U⟩ ag;simp only[Array.append_empty];exact this.mono λe tv ⟨v,y,ax,aO,⟨aD,cF,ee,dZ⟩,ld⟩=>⟨v,y,aD,ax,aO,cF,ee,dZ,ld⟩
end Go.Fer
namespace Go.Fer
open Go.RowKit
inductive aH where
 | undef
 | val (t:ad) (x:t.ai)
 | hC (b:Bool) (a:aH)
 | aX (b g off:Nat)
 | al (b g:Nat)
 | om (b g i off:Nat)
 | dW (t:ad) (x:t.ai)
 | fJ (b g:Nat)
 | iz (k:FuncId) (n:Nat) (c1:Nat->aH)
 | r6 (k:FuncId) (n:Nat) (first:Nat->aH)
 | p2 (n:Nat) (f:Nat->aH)
 | agg (n:Nat) (f:Nat->aH)
 | cv
 | jB (v:Value)
 | j3 (b g:Nat)
 | aW (l:Nat) (aM:ad) (S:List aM.ai->Prop) (pre:List aM.ai) (st:Bool)
 | hf (l:Nat)
 | sub (b g aZ G:Nat)
 | w3 (e:ad) (xs:List e.ai)
 | iW (b g i:Nat)
inductive bR where
 | fz
 | cells (t:ad) (f:Nat->aH)
 | bj (e:ad) (xs:List e.ai)
 | hD (e:ad) (xs:List e.ai)
 | mp (k v:ad) (es:List (k.ai×v.ai))
 | gK (t:ad) (x:t.ai)
 | ji (k v:ad) (es:List (k.ai×v.ai))
 | ct (k v:ad) (cur:Option (k.ai×v.ai)) (cn:List (k.ai×v.ai))
 | gp (e:ad) (xs:List e.ai) (i:Nat) (v:aH)
structure bK where
 gen:Nat
 body:bR
structure bD where
 aa:Nat
 off:Nat
 cap:Nat
 e9:Bool
structure aA where
 ay:Nat->aH
 aa:Nat->bK
def bR.fK:bR->Bool | .cells _ _=>true | .gK _ _=>true | _=>false
def bR.fh:bR->Bool | .bj _ _=>true | .hD _ _=>true | .gp _ _ _ _=>true | _=>false
def bR.gW:bR->Bool | .mp _ _ _=>true | .ji _ _ _=>true | _=>false
def bR.mO:bR->Bool | .ct _ _ _ _=>true | _=>false
def bR.len:bR->Nat | .bj _ xs=>xs.length | .hD _ xs=>xs.length | .gp _ xs _ _=>xs.length | _=>0
def bR.e3:bR->Nat | .bj e _=>e.size | .hD e _=>e.size | .gp e _ _ _=>e.size | _=>0
def bR.b1(k:bD):bR->Bool | .cells _ _=>true | .bj _ _=>!k.e9 | .mp _ _ _=>true | .ct _ _ _ _=>true | .gp _ _ _ _=>!k.e9 | _=>false
def bD.slice(k:bD)(n:Nat):Value:=if k.e9 then .slice none 0 0 else .slice (some ⟨k.aa,k.off,none⟩) n k.cap
def Fv(k:bD)(e3 aZ G:Nat)(v:Value):Prop:=
 (k.e9=true/\v=.slice none 0 0)\/(k.e9=false/\∃ o,v=.slice (some ⟨k.aa,o,none⟩) (G - aZ) (k.cap - aZ)/\o<=k.off+aZ*e3/\(aZ<k.cap->o=k.off+aZ*e3))
def bC(P:Program)(H:Nat->bK)(κ:Nat->bD)(F:Nat->Prop)(w:World):aH->Value->Prop
 | .undef,_=>True
 | .val t x,v=>ev P t F w v x
 | .hC b a,v=>(b=true->bC P H κ F w a v)/\(b=false->v=Go.undef)
 | .aX b g off,v=>(g<=(H b).gen/\v.oneCell'=true)/\(g=(H b).gen->(H b).body.fK=true->v=.pointer (some ⟨(κ b).aa,off,none⟩))
 | .al b g,v=>(g<=(H b).gen/\v.oneCell'=true)/\(g=(H b).gen->(H b).body.fh=true->v=(κ b).slice (H b).body.len)
 | .om b g i off,v=>(g<=(H b).gen/\v.oneCell'=true)/\(g=(H b).gen->(H b).body.fh=true->i<(H b).body.len/\(κ b).e9=false/\v=.pointer (some ⟨(κ b).aa,(κ b).off+i*(H b).body.e3+off,none⟩))
 | .iW b g i,v=>(g<=(H b).gen/\v.oneCell'=true)/\(g=(H b).gen->(H b).body.fh=true->i<(H b).body.len/\(κ b).e9=false/\v=.pointer (some ⟨(κ b).aa,(κ b).off+i*(H b).body.e3,none⟩))
 | .dW t x,v=>∃ p bk,v=.pointer (some p)/\Holds F w p bk/\bJ P t F w bk x
 | .fJ b g,v=>(g<=(H b).gen/\v.oneCell'=true)/\(g=(H b).gen->(H b).body.gW=true->v=.map (some (κ b).aa))
 | .iz k n c1,v=>∃ aD:List Value,v=.func (.func k) #[] aD.toArray/\aD.length=n/\∀ i,i<n->bC P H κ F w (c1 i) (aD.getD i Go.undef)
 | .r6 k n f,v=>∃ aD:List Value,v=.func (.func k) aD.toArray #[]/\aD.length=n/\∀ i,i<n->bC P H κ F w (f i) (aD.getD i Go.undef)
 | .p2 n f,v=>∃ aD:List Value,v=.tuple aD.toArray/\aD.length=n/\∀ i,i<n->bC P H κ F w (f i) (aD.getD i Go.undef)
 | .agg n f,v=>∃ aD:List Value,v=.agg aD.toArray/\aD.length=n/\∀ i,i<n->bC P H κ F w (f i) (aD.getD i Go.undef)/\(aD.getD i Go.undef).oneCell'=true
 | .cv,v=>v=.slice none 0 0
 | .jB u,v=>v=u
 | .j3 b g,v=>(g<=(H b).gen/\v.oneCell'=true)/\(g=(H b).gen->(H b).body.mO=true->v=.pointer (some ⟨(κ b).aa,0,none⟩))
 | .aW _ _ _ _ _,_=>True
 | .hf l,v=>v=.func (.yield l) #[] #[]
 | .w3 e xs,v=>ev P (.slice e) F w v xs/\∃ q,v=.slice q xs.length xs.length
 | .sub b g aZ G,v=>(g<=(H b).gen/\v.oneCell'=true)/\(g=(H b).gen->(H b).body.fh=true->(aZ<=G/\G<=(H b).body.len)/\Fv (κ b) (H b).body.e3 aZ G v)
def fr(H:Nat->bK)(κ:Nat->bD)(H':Nat->bK)(κ':Nat->bD):Prop:=
 ∀ b,(H b).gen<=(H' b).gen/\((H b).gen=(H' b).gen->
  ((H' b).body.fK=true->(H b).body.fK=true/\(κ' b).aa=(κ b).aa)/\
  ((H' b).body.fh=true->(H b).body.fh=true/\κ' b=κ b/\(H' b).body.len=(H b).body.len/\(H' b).body.e3=(H b).body.e3)/\
  ((H' b).body.gW=true->(H b).body.gW=true/\(κ' b).aa=(κ b).aa)/\
  ((H' b).body.mO=true->(H b).body.mO=true/\(κ' b).aa=(κ b).aa))
theorem fr.refl(H:Nat->bK)(κ:Nat->bD):fr H κ H κ:=λ_=>⟨Nat.le_refl _,λ_=>⟨λh=>⟨h,rfl⟩,λh=>⟨h,rfl,rfl,rfl⟩,λh=>⟨h,rfl⟩,λh=>⟨h,rfl⟩⟩⟩
def p3(x y:bK)(k k':bD):Prop:=
 x.gen<=y.gen/\(x.gen=y.gen->
  (y.body.fK=true->x.body.fK=true/\k'.aa=k.aa)/\
  (y.body.fh=true->x.body.fh=true/\k'=k/\y.body.len=x.body.len/\y.body.e3=x.body.e3)/\
  (y.body.gW=true->x.body.gW=true/\k'.aa=k.aa)/\
  (y.body.mO=true->x.body.mO=true/\k'.aa=k.aa))
theorem p3.refl(x:bK)(k:bD):p3 x x k k:=⟨Nat.le_refl _,λ_=>⟨λh=>⟨h,rfl⟩,λh=>⟨h,rfl,rfl,rfl⟩,λh=>⟨h,rfl⟩,λh=>⟨h,rfl⟩⟩⟩
theorem BY{H:Nat->bK}{κ:Nat->bD}{H':Nat->bK}{κ':Nat->bD}:fr H κ H' κ'<->∀ b,p3 (H b) (H' b) (κ b) (κ' b):=Iff.rfl
theorem bC.lb{P:Program}{H H':Nat->bK}{κ κ':Nat->bD}{F F':Nat->Prop}{w w':World}(aj:fr H κ H' κ')(bp:∀ r,F r->F' r)(he:c6 F w w') :
  ∀ {a:aH} {v:Value},bC P H κ F w a v->bC P H' κ' F' w' a v:=by
 intro a;induction a with
 | undef=>intro v h;trivial
 | val t x=>intro v h;exact ev.mono h bp he
 | hC b a aK=>intro v h;exact⟨λW=>aK (h.1 W),h.2⟩
 | aX b g off=>
  intro v h;obtain⟨E,U⟩:=h;obtain⟨aQ,aS⟩:=aj b;refine⟨⟨Nat.le_trans E.1 aQ,E.2⟩,λaC hc=>?_⟩;grind
 | al b g=>
  intro v h;obtain⟨E,U⟩:=h;obtain⟨aQ,aS⟩:=aj b;refine⟨⟨Nat.le_trans E.1 aQ,E.2⟩,λaC hc=>?_⟩;grind
 | om b g i off=>
  intro v h;obtain⟨E,U⟩:=h;obtain⟨aQ,aS⟩:=aj b;refine⟨⟨Nat.le_trans E.1 aQ,E.2⟩,λaC hc=>?_⟩;grind
 | iW b g i=>
  intro v h;obtain⟨E,U⟩:=h;obtain⟨aQ,aS⟩:=aj b;refine⟨⟨Nat.le_trans E.1 aQ,E.2⟩,λaC hc=>?_⟩;grind
 | dW t x=>
  intro v h;obtain⟨p,bk,E,U,ag⟩:=h;exact⟨p,bk,E,U.mono bp he,ff t bp he ag⟩
 | fJ b g=>
  intro v h;obtain⟨E,U⟩:=h;obtain⟨aQ,aS⟩:=aj b;refine⟨⟨Nat.le_trans E.1 aQ,E.2⟩,λaC hc=>?_⟩;grind
 | j3 b g=>
  intro v h;obtain⟨E,U⟩:=h;obtain⟨aQ,aS⟩:=aj b;refine⟨⟨Nat.le_trans E.1 aQ,E.2⟩,λaC hc=>?_⟩;grind
 | sub b g aZ G=>
  intro v h;obtain⟨E,U⟩:=h;obtain⟨aQ,aS⟩:=aj b;refine⟨⟨Nat.le_trans E.1 aQ,E.2⟩,λaC hc=>?_⟩;grind
 | aW l aM L n st=>intro v _;trivial
 | hf l=>intro v h;exact h
 | w3 e xs=>intro v h;exact⟨ev.mono h.1 bp he,h.2⟩
 | iz k n c1 aK=>
  intro v h;obtain⟨aD,E,U,ag⟩:=h;exact⟨aD,E,U,λi G=>aK i (ag i G)⟩
 | r6 k n f aK=>
  intro v h;obtain⟨aD,E,U,ag⟩:=h;exact⟨aD,E,U,λi G=>aK i (ag i G)⟩
 | p2 n f aK=>
  intro v h;obtain⟨aD,E,U,ag⟩:=h;exact⟨aD,E,U,λi G=>aK i (ag i G)⟩
 | agg n f aK=>
  intro v h;obtain⟨aD,E,U,ag⟩:=h;exact⟨aD,E,U,λi G=>⟨aK i (ag i G).1,(ag i G).2⟩⟩
 | cv=>intro v h;exact h
 | jB u=>intro v h;exact h
def u9(P:Program)(k v:ad)(F:Nat->Prop)(w:World)(es:Array MapEntry)(clk:Nat)(xs:List (k.ai×v.ai)):Prop:=
 es.size=xs.length/\(xs.map (·.1)).Nodup/\
 (∀ i (h:i<xs.length) (dt:i<es.size),kN k es[i].key/\bJ P k F w es[i].key.cells.toList xs[i].1/\kN v es[i].val/\bJ P v F w es[i].val.cells.toList xs[i].2/\es[i].born<clk)/\
 (∀ i j (h:i<es.size) (dt:j<es.size),es[i].born=es[j].born->i=j)
theorem u9.mono{P:Program}{k v:ad}{F F':Nat->Prop}{w w':World}{es:Array MapEntry}{clk:Nat}{xs:List (k.ai×v.ai)}(h:u9 P k v F w es clk xs)(bp:∀ r,F r->F' r)(he:c6 F w w') :
  u9 P k v F' w' es clk xs:=
 ⟨h.1,h.2.1,λi G dL=>let ⟨a,b,c,d,e⟩:=h.2.2.1 i G dL;⟨a,ff k bp he b,c,ff v bp he d,e⟩,h.2.2.2⟩
def lL(P:Program)(e:ad)(F:Nat->Prop)(w:World)(cs:Array Value)(off:Nat)(xs:List e.ai):Prop:=
 ∀ i (h:i<xs.length),∃ bk,(∀ j (h:j<bk.length),cs[off+i*e.size+j]?=some bk[j])/\bJ P e F w bk xs[i]
theorem lL.mono{P:Program}{e:ad}{F F':Nat->Prop}{w w':World}{cs:Array Value}{off:Nat}{xs:List e.ai}(h:lL P e F w cs off xs)(bp:∀ r,F r->F' r)(he:c6 F w w') :
  lL P e F' w' cs off xs:=λi G=>let ⟨bk,a,b⟩:=h i G;⟨bk,a,ff e bp he b⟩
def y4(P:Program)(k v:ad)(F:Nat->Prop)(w:World)(e:MapEntry)(x:k.ai×v.ai):Prop:=
 kN k e.key/\bJ P k F w e.key.cells.toList x.1/\kN v e.val/\bJ P v F w e.val.cells.toList x.2
theorem y4.mono{P:Program}{k v:ad}{F F':Nat->Prop}{w w':World}{e:MapEntry}{x:k.ai×v.ai}(h:y4 P k v F w e x)(bp:∀ r,F r->F' r)(he:c6 F w w'):y4 P k v F' w' e x:=
 ⟨h.1,ff k bp he h.2.1,h.2.2.1,ff v bp he h.2.2.2⟩
def w4(P:Program)(k v:ad)(F:Nat->Prop)(w:World)(o6:Nat)(cur:Option (k.ai×v.ai))(cn:List (k.ai×v.ai)):Prop:=
 (w.heap[o6]?=some (.mapIter none 0 #[] 0)/\cn=[]/\cur=none)\/
 ∃ lM es clk seen,F lM/\w.heap[lM]?=some (.map es clk)/\w.heap[o6]?=some (.mapIter (some lM) clk seen clk)/\
  (∀ i (h:i<es.size),es[i].born<clk)/\(∀ i j (h:i<es.size) (dt:j<es.size),es[i].born=es[j].born->i=j)/\
  (∃ ids:List Nat,ids.length=cn.length/\ids.Nodup/\(∀ i,i∈ids<->∃ h:i<es.size,seen.contains es[i].born=false)/\
   (∀ j (h:j<ids.length) (dt:j<cn.length),∃ G:ids[j]<es.size,y4 P k v F w es[ids[j]] cn[j]))/\
  (∀ c,cur=some c->∃ i,∃ h:i<es.size,seen.back?=some es[i].born/\y4 P k v F w es[i] c)
theorem w4.mono{P:Program}{k v:ad}{F F':Nat->Prop}{w w':World}{o6:Nat}{cur:Option (k.ai×v.ai)}{cn:List (k.ai×v.ai)}(h:w4 P k v F w o6 cur cn)(bp:∀ r,F r->F' r)(he:c6 F w w')
  (G:w'.heap[o6]?=w.heap[o6]?):w4 P k v F' w' o6 cur cn:=by
 rcases h with⟨E,U⟩ | ⟨lM,es,clk,seen,E,U,ag,a6,bM,⟨ids,i1,i2,i3,i4⟩,fT⟩
 ·exact .inl ⟨G.trans E,U⟩
 ·exact .inr ⟨lM,es,clk,seen,bp _ E,(he.2 _ E).trans U,G.trans ag,a6,bM,⟨ids,i1,i2,i3,λj aF fW=>let ⟨a,b⟩:=i4 j aF fW;⟨a,b.mono bp he⟩⟩,λc hc=>let ⟨i,a,b,d⟩:=fT c hc;⟨i,a,b,d.mono bp he⟩⟩
def jC(P:Program)(H:Nat->bK)(κ:Nat->bD)(F:Nat->Prop)(w:World)(k:bD):bR->Prop
 | .fz=>True
 | .cells t f=>∃ cs T,w.heap[k.aa]?=some (.cells cs T (0,0))/\cs.size=t.size/\∀ i,i<t.size->bC P H κ F w (f i) (cs.getD i Go.undef)/\(cs.getD i Go.undef).oneCell'=true
 | .bj e xs=>(k.e9=true->xs=[])/\(k.e9=false->∃ cs T,w.heap[k.aa]?=some (.cells cs T (0,0))/\k.off+k.cap*e.size<=cs.size/\xs.length<=k.cap/\k.cap<2 ^ 63/\lL P e F w cs k.off xs)
 | .hD e xs=>bJ P (.slice e) F w [k.slice xs.length] xs
 | .mp mi o7 es=>∃ ms clk,w.heap[k.aa]?=some (.map ms clk)/\u9 P mi o7 F w ms clk es
 | .gK t x=>∃ bk,Holds F w ⟨k.aa,0,none⟩ bk/\bJ P t F w bk x
 | .ji mi o7 es=>bJ P (.map mi o7) F w [.map (some k.aa)] es
 | .ct mi o7 cur cn=>w4 P mi o7 F w k.aa cur cn
 | .gp e xs i v=>k.e9=false/\∃ cs T,w.heap[k.aa]?=some (.cells cs T (0,0))/\k.off+k.cap*e.size<=cs.size/\xs.length<=k.cap/\k.cap<2 ^ 63/\(e.size=1/\i<xs.length)/\
   (∀ j (h:j<xs.length),j≠i->∃ bk,(∀ q (h:q<bk.length),cs[k.off+j*e.size+q]?=some bk[q])/\bJ P e F w bk xs[j])/\bC P H κ F w v (cs.getD (k.off+i) Go.undef)/\(cs.getD (k.off+i) Go.undef).oneCell'=true
def cG(P:Program)(H:Nat->bK)(κ:Nat->bD)(F:Nat->Prop)(w:World)(b:Nat):Prop:=jC P H κ F w (κ b) (H b).body
theorem cG.lf{P:Program}{H H':Nat->bK}{κ κ':Nat->bD}{F F':Nat->Prop}{w w':World}{b:Nat}(h:cG P H κ F w b)(aj:fr H κ H' κ')(bp:∀ r,F r->F' r)(he:c6 F w w')
  (W:(H' b).body=(H b).body) (an:κ' b=κ b) (hw:(H b).body.b1 (κ b)=true->w'.heap[(κ b).aa]?=w.heap[(κ b).aa]?):cG P H' κ' F' w' b:=by
 unfold cG at *
 rw[W,an];cases bT:(H b).body with
 | fz=>trivial
 | cells n f=>
  rw[bT]at h hw;obtain⟨cs,T,E,U,ag⟩:=h;exact⟨cs,T,(hw rfl).trans E,U,λi G=>⟨bC.lb aj bp he (ag i G).1,(ag i G).2⟩⟩
 | bj e xs=>
  rw[bT]at h hw;refine⟨h.1,λaB=>?_⟩;obtain⟨cs,T,E,U,ag,a6,bM⟩:=h.2 aB;exact⟨cs,T,(hw (by simp[bR.b1,aB])).trans E,U,ag,a6,bM.mono bp he⟩
 | hD e xs=>
  rw[bT]at h;exact ff _ bp he h
 | mp mi o7 es=>
  rw[bT]at h hw;obtain⟨ms,clk,E,U⟩:=h;exact⟨ms,clk,(hw rfl).trans E,U.mono bp he⟩
 | gK t x=>
  rw[bT]at h;obtain⟨bk,E,U⟩:=h;exact⟨bk,E.mono bp he,ff t bp he U⟩
 | ji mi o7 es=>
  rw[bT]at h;exact ff (.map mi o7) bp he h
 | ct mi o7 cur cn=>
  rw[bT]at h hw;exact w4.mono h bp he (hw rfl)
 | gp e xs i v=>
  rw[bT]at h hw;obtain⟨aY,cs,T,E,U,ag,a6,bM,dn,fT,jh⟩:=h;refine⟨aY,cs,T,(hw (by simp[bR.b1,aY])).trans E,U,ag,a6,bM,λj aF qS=>?_,bC.lb aj bp he fT,jh⟩;obtain⟨bk,d1,d2⟩:=dn j aF qS;exact⟨bk,d1,ff e bp he d2⟩
structure dd(w w':World):Prop where
 os:w'.os=w.os
 tape:w'.tape=w.tape
 output:w'.output=w.output
theorem dd.refl(w:World):dd w w:=⟨rfl,rfl,rfl⟩
theorem dd.trans{a b c:World}(h:dd a b)(k:dd b c):dd a c:=⟨k.os.trans h.os,k.tape.trans h.tape,k.output.trans h.output⟩
structure lN where
 l:Nat
 aM:ad
 S:List aM.ai->Prop
 I:List aM.ai->Bool->(Nat->Prop)->(Nat->Prop)->World->Prop
structure lN.hB(P:Program)(p:lN):Prop where
 BU:∀ {pre st} {F F' Y:Nat->Prop} {w w':World},p.I pre st F Y w->(∀ r,F r->F' r)->(∀ r,F r\/Y r->w'.heap[r]?=w.heap[r]?)->w.heap.size<=w'.heap.size->dd w w'->(∀ r,F' r->r<w'.heap.size)->(∀ r,F' r->¬Y r)->p.I pre st F' Y w'
 yield:∀ {pre} {F Y:Nat->Prop} {w:World} {args:List Value} {x:p.aM.ai},p.I pre false F Y w->(∀ r,F r->r<w.heap.size)->(∀ r,Y r->r<w.heap.size/\¬F r)->(∃ T,p.S (pre++x::T))->fq P p.aM F w args x->
  YieldAt Fence.wide 0 P p.l args.toArray w λe w'=>∃ (b:Bool) (F' gE:Nat->Prop),e=.returned (.bool b)/\(∀ r,F r->F' r)/\(∀ r,F' r->F r\/Y r\/w.heap.size<=r)/\(∀ r,F' r->r<w'.heap.size)/\
   (∀ r,r<w.heap.size->¬Y r->w'.heap[r]?=w.heap[r]?)/\(∀ r,gE r->(Y r\/w.heap.size<=r)/\r<w'.heap.size/\¬F' r)/\w.heap.size<=w'.heap.size/\dd w w'/\p.I (pre++[x]) (!b) F' gE w'
def lN.at(p:lN)(aM:ad)(pre:List aM.ai)(st:Bool)(F Y:Nat->Prop)(w:World):Prop:=∃ h:aM=p.aM,p.I (h ▸ pre) st F Y w
theorem lN.y5{l:Nat}{aM:ad}{S:List aM.ai->Prop}{I}{pre:List aM.ai}{st:Bool}{F Y:Nat->Prop}{w:World}:(lN.mk l aM S I).at aM pre st F Y w<->I pre st F Y w:=⟨λ⟨_,h⟩=>h,λh=>⟨rfl,h⟩⟩
theorem lN.hB.J2{P:Program}{p:lN}(h:p.hB P){aM:ad}{pre:List aM.ai}{st}{F F' Y:Nat->Prop}{w w':World}:p.at aM pre st F Y w->(∀ r,F r->F' r)->(∀ r,F r\/Y r->w'.heap[r]?=w.heap[r]?)->w.heap.size<=w'.heap.size->dd w w'->(∀ r,F' r->r<w'.heap.size)->(∀ r,F' r->¬Y r)->p.at aM pre st F' Y w':=
 λ⟨e,E⟩ U ag a6 bM dn fT=>⟨e,h.BU E U ag a6 bM dn fT⟩
def b6:Nat:=1000000
def eR:Nat:=100000
def w5:Nat:=200000
structure b' where
 P:Program
 w0:World
 F0:Nat->Prop
 K0:Nat->Prop
 nt:Nat
 r:Option Nat
 dfr:List Deferred
 ib:Nat->Option Nat
 cd:lN
 aN:dG
 J3:Nat->Option (bD×Nat):=λ_=>none
def acU(C:b')(s:aA)(w:World)(κ:Nat->bD)(F:Nat->Prop):Prop:=
 ∀ l aM L n st,s.ay b6=.aW l aM L n st->(∃ I,C.cd=⟨l,aM,L,I⟩)/\C.cd.hB C.P/\
  ∃ Y:Nat->Prop,(∀ r,Y r->r<w.heap.size/\¬F r/\¬C.K0 r)/\(∀ b,(s.aa b).body.b1 (κ b)=true->¬Y (κ b).aa)/\C.cd.at aM n st F Y w
structure bm(C:b')(s:aA)(a:Act)(w:World)(κ:Nat->bD)(F:Nat->Prop):Prop where
 dH:a.tmps.size=C.nt
 dfr:a.defers=C.dfr
 bU:∀ i,bC C.P s.aa κ F w (s.ay i) (a.tmps.getD i Go.undef)
 bE:∀ b,cG C.P s.aa κ F w b
 al:∀ b,(s.aa b).body.b1 (κ b)=true->(κ b).aa<w.heap.size/\¬F (κ b).aa/\¬C.K0 (κ b).aa
 inj:∀ b bf,(s.aa b).body.b1 (κ b)=true->(s.aa bf).body.b1 (κ bf)=true->(κ b).aa=(κ bf).aa->b=bf
 db:∀ r,F r->r<w.heap.size
 hg:∀ r,F r->C.F0 r\/¬C.K0 r
 hQ:∀ r,C.F0 r->F r
 ht:∀ r,C.K0 r->r<C.w0.heap.size
 eG:∀ r,C.K0 r->w.heap[r]?=C.w0.heap[r]?
 size:C.w0.heap.size<=w.heap.size
 ew:dd C.w0 w
 gq:C.nt<=eR
 kp:∀ b r,C.ib b=some r->eR<=b
 jD:∀ b r,C.ib b=some r->(s.aa b).body.fK=true\/(s.aa b).body.gW=true->(κ b).aa=r
 j4:∀ b k,C.J3 b=some k->w5<=b
 kq:∀ b k,C.J3 b=some k->(s.aa b).gen=0->(s.aa b).body.fh=true->κ b=k.1/\(s.aa b).body.len=k.2
 eL:acU C s w κ F
 jE:qR C.P C.aN
 iA:nJ C.P F w
def cu(C:b')(s:aA)(a:Act)(w:World):Prop:=∃ κ F,bm C s a w κ F
def aA.set(s:aA)(d:Option Nat)(v:aH):aA:=
 match d with
 | none=>s
 | some d=>{ s with ay:=λi=>if i=d then v else s.ay i }
def aA.cz(s:aA)(b:Nat)(x:bK):aA:={ s with aa:=λi=>if i=b then x else s.aa i }
theorem acV{a:Act}{d:Nat}{v:Value}(aw:d<a.tmps.size)(i:Nat):(a.put (some d) v).tmps.getD i Go.undef=if i=d then v else a.tmps.getD i Go.undef:=by
 simp only[Act.put,Array.getD_eq_getD_getElem?,Array.getElem?_setIfInBounds];grind
theorem bm.set{C:b'}{s:aA}{a:Act}{w:World}{κ:Nat->bD}{F:Nat->Prop}(h:bm C s a w κ F){d:Option Nat}(aw:∀ i,d=some i->i<C.nt){av:aH}{v:Value}
  (ae:bC C.P s.aa κ F w av v):bm C (s.set d av) (a.put d v) w κ F:=by
 cases d with
 | none=>exact h
 | some d=>
  have w6:=aw d rfl;have aB:=h.gq;refine { h with dH:=by simpa [Act.put]using h.dH,dfr:=h.dfr,bU:=λi=>?_,eL:=λl aM L n st e=>?_ }
  ·rw[acV (by rw[h.dH];omega)];simp only[aA.set];by_cases G:i=d
   ·grind
   ·rw[if_neg G,if_neg G];exact h.bU i
  ·simp only[aA.set]at e;rw[if_neg (by unfold b6 eR at *;omega)]at e;exact h.eL l aM L n st e
theorem bm.move{C:b'}{s:aA}{a:Act}{w:World}{κ:Nat->bD}{F:Nat->Prop}(h:bm C s a w κ F){H':Nat->bK}{κ':Nat->bD}{F':Nat->Prop}{w':World}
  (aj:fr s.aa κ H' κ') (bp:∀ r,F r->F' r) (tw:∀ r,F' r->F r\/(∃ b,(s.aa b).body.b1 (κ b)=true/\(κ b).aa=r)\/w.heap.size<=r)
  (cf:w.heap.size<=w'.heap.size) (hw:∀ r,r<w.heap.size->(∀ b,(s.aa b).body.b1 (κ b)=true->(κ b).aa≠r)->w'.heap[r]?=w.heap[r]?) (hc:dd w w')
  (W:c6 F w w'->∀ b,cG C.P H' κ' F' w' b)
  (af:∀ b,(H' b).body.b1 (κ' b)=true->(κ' b).aa<w'.heap.size/\¬F' (κ' b).aa/\((∃ b0,(s.aa b0).body.b1 (κ b0)=true/\(κ b0).aa=(κ' b).aa)\/w.heap.size<=(κ' b).aa))
  (G:∀ b bf,(H' b).body.b1 (κ' b)=true->(H' bf).body.b1 (κ' bf)=true->(κ' b).aa=(κ' bf).aa->b=bf)
  (aE:∀ r,F' r->r<w'.heap.size)
  (acW:∀ b,eR<=b->(H' b).body.fK=true\/(H' b).body.gW=true->κ' b=κ b/\((s.aa b).body.fK=true\/(s.aa b).body.gW=true)):bm C ⟨s.ay,H'⟩ a w' κ' F':=by
 have acX:∀ r,C.K0 r->(∀ b,(s.aa b).body.b1 (κ b)=true->(κ b).aa≠r):=λr M b W e=>(h.al b W).2.2 (e ▸ M);have an:∀ r,C.K0 r->w'.heap[r]?=w.heap[r]?:=λr M=>hw r (Nat.lt_of_lt_of_le (h.ht r M) h.size) (acX r M);have y6:∀ r,w.heap.size<=r->¬C.K0 r:=λr M an=>by have:=h.ht r an;have:=h.size;omega
 have he:c6 F w w':=⟨cf,λr M=>hw r (h.db r M) λb W e=>(h.al b W).2.1 (e ▸ M)⟩
 refine { dH:=h.dH,dfr:=h.dfr,bU:=λi=>bC.lb aj bp he (h.bU i),bE:=W he,al:=λb W=>?_,inj:=G,db:=aE,hg:=λr M=>?_,hQ:=λr M=>bp r (h.hQ r M),ht:=h.ht,eG:=λr M=>(an r M).trans (h.eG r M),size:=Nat.le_trans h.size cf,ew:=h.ew.trans hc,gq:=h.gq,kp:=h.kp,jD:=λb r M hc=>?_,j4:=h.j4,kq:=λb k an aY bb=>?_,eL:=λl aM L n st e=>?_,jE:=h.jE,iA:=h.iA.mono bp he }
 ·grind
 ·rcases tw r M with E | ⟨b,E,rfl⟩ | E
  ·exact h.hg r E
  ·exact .inr (h.al b E).2.2
  ·exact .inr (y6 r E)
 ·obtain⟨aQ,aS⟩:=acW b (h.kp b r M) hc;rw[aQ];exact h.jD b r M aS
 ·obtain⟨g1,ey⟩:=aj b;have aY:(H' b).gen=0:=aY;have bb:(H' b).body.fh=true:=bb;obtain⟨b9,a2,a3,_⟩:=(ey (by omega)).2.1 bb;obtain⟨aQ,aS⟩:=h.kq b k an (by omega) b9;grind
 ·obtain⟨E,U,Y,ag,a6,bM⟩:=h.eL l aM L n st e;have axC:∀ r,Y r->w'.heap[r]?=w.heap[r]?:=λr M=>hw r (ag r M).1 λb W e=>a6 b W (e ▸ M);have BZ:∀ r,Y r->¬F' r:=λr M aq=>by
   grind
  refine⟨E,U,Y,λr M=>⟨Nat.lt_of_lt_of_le (ag r M).1 cf,BZ r M,(ag r M).2.2⟩,λb W aR=>?_,U.J2 bM bp (λr M=>?_) cf hc aE λr aq aR=>BZ r aR aq⟩
  ·grind
  ·rcases M with M | M
   ·exact he.2 r M
   grind
theorem o8(w:World)(o:Obj){r:Nat}(h:r<w.heap.size):(w.alloc o).heap[r]?=w.heap[r]?:=Below.heap_alloc w o r h
theorem p4(w:World)(o:Obj):(w.alloc o).heap[w.heap.size]?=some o:=by
 show (w.heap.push o)[w.heap.size]?=_;simp
theorem c6.alloc{F:Nat->Prop}{w:World}(aE:∀ r,F r->r<w.heap.size)(o:Obj):c6 F w (w.alloc o):=
 ⟨by simp,λr M=>o8 w o (aE r M)⟩
theorem y7{H:Nat->bK}{κ κ':Nat->bD}{b:Nat}{x:bK}(aC:(H b).gen<x.gen)(B0:∀ bf,bf≠b->κ' bf=κ bf) :
  fr H κ (λi=>if i=b then x else H i) κ':=by
 rw[BY];intro i;by_cases G:i=b
 ·subst G;simp only[if_true];exact⟨by omega,λh=>by omega⟩
 ·simp only[if_neg G];rw[B0 i G];exact p3.refl _ _
theorem y8{H:Nat->bK}{κ κ':Nat->bD}{b:Nat}{x:bK}(W:b<eR\/(x.body.fK=false/\x.body.gW=false))(B0:∀ bf,bf≠b->κ' bf=κ bf) :
  ∀ i,eR<=i->(if i=b then x else H i).body.fK=true\/(if i=b then x else H i).body.gW=true->κ' i=κ i/\((H i).body.fK=true\/(H i).body.gW=true):=by
 grind
theorem bm.alloc{C:b'}{s:aA}{a:Act}{w:World}{κ:Nat->bD}{F:Nat->Prop}(h:bm C s a w κ F){b:Nat}{x:bK}(B1:b<eR)(aC:(s.aa b).gen<x.gen)
  {o:Obj} {k:bD} (an:k.aa=w.heap.size)
  (ah:∀ (H:Nat->bK) (κ':Nat->bD),H=(λi=>if i=b then x else s.aa i)->κ'=(λi=>if i=b then k else κ i)->fr s.aa κ H κ'->jC C.P H κ' F (w.alloc o) k x.body) :
  bm C (s.cz b x) a (w.alloc o) (λi=>if i=b then k else κ i) F:=by
 have aj:fr s.aa κ (λi=>if i=b then x else s.aa i) (λi=>if i=b then k else κ i):=y7 aC λbf dc=>by grind
 refine h.move (H':=λi=>if i=b then x else s.aa i) aj (λ_ M=>M) (λ_ M=>.inl M) (by simp) (λr M _=>o8 w o M) ⟨rfl,rfl,rfl⟩ (λhe=>?_) ?_ ?_ ?_ (y8 (.inl B1) λbf dc=>by grind)
 ·intro i;by_cases G:i=b
  ·subst G;simp only[cG,if_true];grind
  ·refine cG.lf (h.bE i) aj (λ_ M=>M) he (by grind) (by grind) λaf=>?_;exact o8 w o (h.al i af).1
 ·intro i G;by_cases eM:i=b
  ·subst eM;simp only[if_true]at G ⊢;refine⟨by simp_all,λaq=>?_,.inr (by omega)⟩;have:=h.db _ aq;omega
  ·simp only[if_neg eM]at G ⊢;have:=h.al i G;exact⟨by simp;omega,this.2.1,.inl ⟨i,G,rfl⟩⟩
 ·intro i j G aF e;by_cases eM:i=b<;>by_cases mj:j=b
  ·omega
  ·simp only[if_pos eM,if_neg mj]at G aF e;have:=(h.al j aF).1;omega
  ·simp only[if_neg eM,if_pos mj]at G aF e;have:=(h.al i G).1;omega
  ·simp only[if_neg eM,if_neg mj]at G aF e;exact h.inj i j G aF e
 ·intro r M;have:=h.db r M;simp;omega
theorem qT{H:Nat->bK}{κ:Nat->bD}{b:Nat}{x:bK}(aC:x.gen=(H b).gen)(E:x.body.fK=true->(H b).body.fK=true)
  (U:x.body.fh=true->(H b).body.fh=true/\x.body.len=(H b).body.len/\x.body.e3=(H b).body.e3) (ag:x.body.gW=true->(H b).body.gW=true)
  (a6:x.body.mO=true->(H b).body.mO=true) :
  fr H κ (λi=>if i=b then x else H i) κ:=by
 rw[BY];intro i;by_cases G:i=b
 ·subst G;simp only[if_true];exact⟨by omega,λ_=>⟨λh=>⟨E h,rfl⟩,λh=>⟨(U h).1,rfl,(U h).2⟩,λh=>⟨ag h,rfl⟩,λh=>⟨a6 h,rfl⟩⟩⟩
 ·simp only[if_neg G];exact p3.refl _ _
theorem acY{H:Nat->bK}{κ:Nat->bD}{b:Nat}{x:bK}(E:x.body.fK=true->(H b).body.fK=true)(ag:x.body.gW=true->(H b).body.gW=true) :
  ∀ i,eR<=i->(if i=b then x else H i).body.fK=true\/(if i=b then x else H i).body.gW=true->κ i=κ i/\((H i).body.fK=true\/(H i).body.gW=true):=by
 grind
theorem bm.o9{C:b'}{s:aA}{a:Act}{w w':World}{κ:Nat->bD}{F:Nat->Prop}(h:bm C s a w κ F){b:Nat}{x:bK}
  (gr:(s.aa b).body.b1 (κ b)=true) (y9:x.body.b1 (κ b)=true) (aj:fr s.aa κ (λi=>if i=b then x else s.aa i) κ)
  (E:x.body.fK=true->(s.aa b).body.fK=true) (ag:x.body.gW=true->(s.aa b).body.gW=true)
  (hw:∀ r,r≠(κ b).aa->w'.heap[r]?=w.heap[r]?) (cf:w'.heap.size=w.heap.size) (hc:dd w w')
  (ah:∀ (H:Nat->bK),H=(λi=>if i=b then x else s.aa i)->fr s.aa κ H κ->c6 F w w'->jC C.P H κ F w' (κ b) x.body) :
  bm C (s.cz b x) a w' κ F:=by
 have af:=h.al b gr;refine h.move (H':=λi=>if i=b then x else s.aa i) aj (λ_ M=>M) (λ_ M=>.inl M) (by omega) (λr _ M=>hw r λe=>M b gr e.symm) hc (λhe=>?_) ?_ ?_ (λr M=>by rw[cf];exact h.db r M) (acY E ag)
 ·intro i;by_cases G:i=b
  ·subst G;simp only[cG,if_true];grind
  ·refine cG.lf (h.bE i) aj (λ_ M=>M) he (by grind) rfl λacZ=>hw _ λe=>G (h.inj i b acZ gr e)
 ·intro i G;by_cases eM:i=b
  ·grind
  ·simp only[if_neg eM]at G;have:=h.al i G;grind
 ·intro i j G aF e;have dL:(s.aa i).body.b1 (κ i)=true:=by
   grind
  have fW:(s.aa j).body.b1 (κ j)=true:=by
   grind
  exact h.inj i j dL fW e
theorem bm.drew{C:b'}{s:aA}{a:Act}{w:World}{κ:Nat->bD}{F:Nat->Prop}(h:bm C s a w κ F):bm C s a w.drew κ F:=
 h.move (H':=s.aa) (fr.refl _ _) (λ_ M=>M) (λ_ M=>.inl M) (Nat.le_refl _) (λ_ _ _=>rfl) ⟨rfl,rfl,rfl⟩
  (λ_ b=>cG.lf (h.bE b) (fr.refl _ _) (λ_ M=>M) ⟨Nat.le_refl _,λ_ _=>rfl⟩ rfl rfl λ_=>rfl) (λb W=>⟨(h.al b W).1,(h.al b W).2.1,.inl ⟨b,W,rfl⟩⟩) h.inj h.db (λ_ _ h=>⟨rfl,h⟩)
def aA.le(s' s:aA):Prop:=(∀ i,s'.ay i=s.ay i\/s'.ay i=.undef)/\∀ b,s'.aa b=s.aa b\/s'.aa b=⟨(s.aa b).gen,.fz⟩
theorem bm.y_{C:b'}{s s':aA}{a:Act}{w:World}{κ:Nat->bD}{F:Nat->Prop}(h:bm C s a w κ F)(aE:s'.le s):bm C s' a w κ F:=by
 have gr:∀ b,(s'.aa b).body.b1 (κ b)=true->(s.aa b).body.b1 (κ b)=true:=λb W=>by
  rcases aE.2 b with e | e
  ·grind
  ·rw[e]at W;cases W
 have aj:fr s.aa κ s'.aa κ:=λb=>by
  rcases aE.2 b with e | e
  ·grind
  ·rw[e];exact⟨Nat.le_refl _,λ_=>⟨λh=>(by cases h),λh=>(by cases h),λh=>(by cases h),λh=>(by cases h)⟩⟩
 have U:=h.move aj (λ_ M=>M) (λ_ M=>.inl M) (Nat.le_refl _) (λ_ _ _=>rfl) (dd.refl _)
  (λ_ b=>by
   rcases aE.2 b with e | e
   ·exact cG.lf (h.bE b) aj (λ_ M=>M) (c6.refl _ _) (by rw[e]) rfl λ_=>rfl
   ·unfold cG;rw[e];trivial)
  (λb W=>⟨(h.al b (gr b W)).1,(h.al b (gr b W)).2.1,.inl ⟨b,gr b W,rfl⟩⟩) (λb bf W dc=>h.inj b bf (gr b W) (gr bf dc)) h.db (λb _ W=>⟨rfl,by
   rcases aE.2 b with e | e
   ·grind
   ·rw[e]at W;simp[bR.fK,bR.gW]at W⟩)
 refine { U with bU:=λi=>?_,dH:=U.dH,dfr:=U.dfr,eL:=λl aM L n st e=>?_ }
 ·rcases aE.1 i with e | e
  ·rw[e];exact U.bU i
  ·rw[e];trivial
 ·rcases aE.1 b6 with k | k
  ·exact U.eL l aM L n st (k ▸ e)
  grind
end Go.Fer
namespace Go.Fer
inductive ar(ak:Type) where
 | ret (a:ak)
 | eS (b:Nat) (k:bK->ar ak)
def ar.run{ak:Type}(H:Nat->bK):ar ak->ak
 | .ret a=>a
 | .eS b k=>(k (H b)).run H
def ar.qQ{ak:Type}(H:Nat->bK):ar ak->List Nat
 | .ret _=>[]
 | .eS b k=>b::(k (H b)).qQ H
def ar.bind{ak β:Type}:ar ak->(ak->ar β)->ar β
 | .ret a,f=>f a
 | .eS b k,f=>.eS b λx=>(k x).bind f
def ar.map{ak β:Type}(f:ak->β)(m:ar ak):ar β:=m.bind λa=>.ret (f a)
def ar.none{ak:Type}:ar (Option ak):=.ret Option.none
def ar.cR{ak β:Type}(m:ar (Option ak))(f:ak->ar (Option β)):ar (Option β):=m.bind fun | some a=>f a | Option.none=>.none
@[simp] theorem ar.bN {ak:Type} (H:Nat->bK) (a:ak):(ar.ret a).run H=a:=rfl
@[simp] theorem ar.e4 {ak:Type} (H:Nat->bK) (b:Nat) (k:bK->ar ak):(ar.eS b k).run H=(k (H b)).run H:=rfl
theorem ar.run_bind{ak β:Type}(H:Nat->bK)(m:ar ak)(f:ak->ar β):(m.bind f).run H=(f (m.run H)).run H:=by
 induction m with
 | ret a=>rfl
 | eS b k aK=>simp[ar.bind,aK]
theorem ar.e5{ak β:Type}(H:Nat->bK)(m:ar (Option ak))(f:ak->ar (Option β)):(m.cR f).run H=(m.run H).bind λa=>(f a).run H:=by
 unfold ar.cR;rw[ar.run_bind];cases m.run H<;>rfl
theorem ar.Rp{ak:Type}{H H':Nat->bK}:∀ (m:ar ak),(∀ b∈m.qQ H,H' b=H b)->m.run H'=m.run H/\m.qQ H'=m.qQ H
 | .ret a,_=>⟨rfl,rfl⟩
 | .eS b k,h=>by
  have W:=h b (by simp[ar.qQ]);have:=ar.Rp (k (H b)) λc hc=>h c (by simp[ar.qQ,hc]);simp only[ar.run,ar.qQ,W,this];simp
def eT(t cY:ad)(x:t.ai):Option cY.ai:=if h:t=cY then some (h ▸ x) else none
theorem kO{t cY:ad}{x:t.ai}{y:cY.ai}(h:eT t cY x=some y):∃ e:t=cY,y=e ▸ x:=by
 unfold eT at h;grind
def B2:(t:ad)->Value->Option t.ai
 | .bI _,.pointer Option.none=>some Option.none
 | .map _ _,.map Option.none=>some []
 | .eu,.nilFunc=>some Option.none
 | _,_=>Option.none
def ad.isAgg:ad->Bool
 | .st _ | .array _ _=>true
 | _=>false
def dX(t:ad):aH->ar (Option (t.ai×List Nat))
 | .val cY x=>.ret ((eT cY t x).map (·,[]))
 | .cv=>match t with
  | .slice _=>.ret (some ([],[]))
  | _=>.none
 | .al b g=>match t with
  | .slice e=>.eS b λx=>.ret (if x.gen=g then (match x.body with
    | .bj a7 xs=>(eT (.slice a7) (.slice e) xs).map (·,[b])
    | .hD a7 xs=>(eT (.slice a7) (.slice e) xs).map (·,[])
    | _=>Option.none) else Option.none)
  | _=>.none
 | .sub b g aZ G=>match t with
  | .slice e=>.eS b λx=>.ret (if x.gen=g then (match x.body with
    | .bj a7 xs=>(eT (.slice a7) (.slice e) ((xs.take G).drop aZ)).map (·,[b])
    | .hD a7 xs=>(eT (.slice a7) (.slice e) ((xs.take G).drop aZ)).map (·,[])
    | _=>Option.none) else Option.none)
  | _=>.none
 | .fJ b g=>match t with
  | .map k v=>.eS b λx=>.ret (if x.gen=g then (match x.body with
    | .mp k' h3 es=>(eT (.map k' h3) (.map k v) es).map (·,[b])
    | .ji k' h3 es=>(eT (.map k' h3) (.map k v) es).map (·,[])
    | _=>Option.none) else Option.none)
  | _=>.none
 | .dW cY x=>match t with
  | .bI e=>.ret ((eT (.bI cY) (.bI e) (some x)).map (·,[]))
  | _=>.none
 | .jB v=>.ret ((B2 t v).map (·,[]))
 | .iz k n _=>match t with
  | .eu=>if n=0 then .ret (some (some k,[])) else .none
  | _=>.none
 | _=>.none
def tB(e:ad)(ch:List aH->ar (Option (e.ai×List Nat×List aH)))(av:aH):ar (Option (Option e.ai×List Nat)):=
 match av with
 | .aX b g off=>.eS b λx=>if x.gen=g/\off=0 then (match x.body with
   | .gK cY y=>.ret ((eT cY e y).map λz=>(some z,[]))
   | .cells cY f=>if cY=e then (ch ((List.range e.size).map f)).cR λ(y,l,r)=>.ret (if r.isEmpty then some (some y,b::l) else Option.none) else .none
   | _=>.none) else .none
 | av=>dX (.bI e) av
def ie:(t:ad)->List aH->ar (Option (t.ai×List Nat×List aH))
 | .cU,cs=>.ret (some ((),[],cs))
 | .st t,cs=>ie t cs
 | .az a b,cs=>(ie a cs).cR λ(x,l,r)=>(ie b r).cR λ(y,m,q)=>.ret (some ((x,y),l++m,q))
 | .array n e,cs=>n.rec (motive:=λ_=>List aH->ar (Option (List e.ai×List Nat×List aH))) (λcs=>.ret (some ([],[],cs)))
   (λ_ aK cs=>(ie e cs).cR λ(x,l,r)=>(aK r).cR λ(xs,m,q)=>.ret (some (x::xs,l++m,q))) cs
 | .bool,cs=>match cs with | c::r=>(dX .bool c).map λo=>o.map λ(x,l)=>(x,l,r) | []=>.none
 | .int k,cs=>match cs with | c::r=>(dX (.int k) c).map λo=>o.map λ(x,l)=>(x,l,r) | []=>.none
 | .str,cs=>match cs with | c::r=>(dX .str c).map λo=>o.map λ(x,l)=>(x,l,r) | []=>.none
 | .slice e,cs=>match cs with | c::r=>(dX (.slice e) c).map λo=>o.map λ(x,l)=>(x,l,r) | []=>.none
 | .bI e,cs=>match cs with | c::r=>(tB e (ie e) c).map λo=>o.map λ(x,l)=>(x,l,r) | []=>.none
 | .map k v,cs=>match cs with | c::r=>(dX (.map k v) c).map λo=>o.map λ(x,l)=>(x,l,r) | []=>.none
 | .fn a b,cs=>match cs with | c::r=>(dX (.fn a b) c).map λo=>o.map λ(x,l)=>(x,l,r) | []=>.none
 | .ct a,cs=>match cs with | c::r=>(dX (.ct a) c).map λo=>o.map λ(x,l)=>(x,l,r) | []=>.none
 | .eu,cs=>match cs with | c::r=>(dX .eu c).map λo=>o.map λ(x,l)=>(x,l,r) | []=>.none
def kr(t:ad)(av:aH):ar (Option (t.ai×List Nat)):=
 match t with
 | .bI e=>tB e (ie e) av
 | t=>if t.eF then dX t av else .none
def dC(t:ad)(av:aH):ar (Option (t.ai×List Nat)):=
 match av with
 | .val cY x=>.ret ((eT cY t x).map (·,[]))
 | .agg n f=>if t.eF then .none else (ie t ((List.range n).map f)).cR λ(x,l,r)=>.ret (if r.isEmpty&&t.isAgg then some (x,l) else Option.none)
 | _=>kr t av
def nK:(t:ad)->t.ai->List aH
 | .cU,_=>[]
 | .st t,x=>nK t x
 | .az a b,x=>nK a x.1++nK b x.2
 | .array n e,xs=>(List.range n).flatMap λi=>nK e (List.getD xs i e.df)
 | .bool,x=>[.val .bool x]
 | .int k,x=>[.val (.int k) x]
 | .str,x=>[.val .str x]
 | .slice e,x=>[.val (.slice e) x]
 | .bI e,x=>[.val (.bI e) x]
 | .map k v,x=>[.val (.map k v) x]
 | .fn a b,x=>[.val (.fn a b) x]
 | .ct a,x=>[.val (.ct a) x]
 | .eu,x=>[.val .eu x]
def r7:ad->List aH
 | .cU=>[]
 | .st t=>r7 t
 | .az a b=>r7 a++r7 b
 | .array n e=>(List.range n).flatMap λ_=>r7 e
 | .bool=>[.val .bool false]
 | .int k=>[.val (.int k) (0:Int)]
 | .str=>[.val .str []]
 | .slice _=>[.cv]
 | .bI e=>[.val (.bI e) Option.none]
 | .map k v=>[.val (.map k v) []]
 | .fn _ _=>[.jB .nilFunc]
 | .ct _=>[.jB .nilFunc]
 | .eu=>[.val .eu Option.none]
def hh(l:List aH)(i:Nat):aH:=l.getD i .undef
def ml:ad->Nat->Option (ad×Nat)
 | .az a _,0=>some (a,0)
 | .az a b,f+1=>(ml b f).map λ(t,o)=>(t,a.size+o)
 | .cU,_=>Option.none
 | t,0=>some (t,0)
 | _,_+1=>Option.none
def u_:(t:ad)->t.ai->Nat->Option ((s:ad)×s.ai)
 | .az a _,x,0=>some ⟨a,x.1⟩
 | .az _ b,x,f+1=>u_ b x.2 f
 | .cU,_,_=>Option.none
 | t,x,0=>some ⟨t,x⟩
 | _,_,_+1=>Option.none
def r8:(t:ad)->t.ai->Nat->(s:ad)->Option s.ai
 | .st t,x,off,s=>if off=0/\ad.st t=s then eT (.st t) s x else r8 t x off s
 | .az a b,x,off,s=>if off<a.size then r8 a x.1 off s else r8 b x.2 (off - a.size) s
 | .cU,_,_,_=>Option.none
 | .array _ _,_,_,_=>Option.none
 | .bool,x,off,s=>if off=0 then eT .bool s x else Option.none
 | .int k,x,off,s=>if off=0 then eT (.int k) s x else Option.none
 | .str,x,off,s=>if off=0 then eT .str s x else Option.none
 | .slice e,x,off,s=>if off=0 then eT (.slice e) s x else Option.none
 | .bI e,x,off,s=>if off=0 then eT (.bI e) s x else Option.none
 | .map k v,x,off,s=>if off=0 then eT (.map k v) s x else Option.none
 | .fn a b,x,off,s=>if off=0 then eT (.fn a b) s x else Option.none
 | .ct a,x,off,s=>if off=0 then eT (.ct a) s x else Option.none
 | .eu,x,off,s=>if off=0 then eT .eu s x else Option.none
def w7:(t:ad)->t.ai->Nat->(s:ad)->s.ai->Option t.ai
 | .st t,x,off,s,y=>if off=0/\s=ad.st t then eT s (.st t) y else w7 t x off s y
 | .az a b,x,off,s,y=>if off<a.size then (w7 a x.1 off s y).map (·,x.2) else (w7 b x.2 (off - a.size) s y).map (x.1,·)
 | .cU,_,_,_,_=>Option.none
 | .array _ _,_,_,_,_=>Option.none
 | .bool,_,off,s,y=>if off=0 then eT s .bool y else Option.none
 | .int k,_,off,s,y=>if off=0 then eT s (.int k) y else Option.none
 | .str,_,off,s,y=>if off=0 then eT s .str y else Option.none
 | .slice e,_,off,s,y=>if off=0 then eT s (.slice e) y else Option.none
 | .bI e,_,off,s,y=>if off=0 then eT s (.bI e) y else Option.none
 | .map k v,_,off,s,y=>if off=0 then eT s (.map k v) y else Option.none
 | .fn a b,_,off,s,y=>if off=0 then eT s (.fn a b) y else Option.none
 | .ct a,_,off,s,y=>if off=0 then eT s (.ct a) y else Option.none
 | .eu,_,off,s,y=>if off=0 then eT s .eu y else Option.none
def lO(k:IntKind)(a b:Int):Int:=k.wrap (BitVec.ofInt k.bits a&&& BitVec.ofInt k.bits b).toNat
def Rq(k:IntKind)(a b:Int):Int:=k.wrap (BitVec.ofInt k.bits a||| BitVec.ofInt k.bits b).toNat
def Rr(k:IntKind)(a b:Int):Int:=k.wrap (BitVec.ofInt k.bits a ^^^ BitVec.ofInt k.bits b).toNat
def Rs(k:IntKind)(a b:Int):Int:=k.wrap (BitVec.ofInt k.bits a&&& ~~~BitVec.ofInt k.bits b).toNat
def ac0(k:IntKind)(a b:Int):Int:=k.wrap (a*2 ^ (min b.toNat k.bits))
def jj(k:IntKind)(a b:Int):Int:=a.fdiv (2 ^ (min b.toNat k.bits))
def kP(t:ad)(xs:List t.ai)(i:Int):t.ai:=xs.getD i.toNat t.df
def bQ(n:Nat):Prop:=n<=4294967296
def gL:(t:ad)->t.ai->t.ai->Bool
 | .bool,x,y=>x == y
 | .int _,x,y=>decide ((x:Int)=y)
 | .str,x,y=>decide ((x:List UInt8)=y)
 | .st t,x,y=>gL t x y
 | .az a b,x,y=>gL a x.1 y.1&&gL b x.2 y.2
 | _,_,_=>false
def ad.kQ:ad->Bool
 | .bool | .int _ | .str=>true
 | .st t=>t.kQ
 | .az a b=>a.kQ&&b.kQ
 | _=>false
end Go.Fer
namespace Go.Fer
open Go.RowKit
section
variable {P:Program} {H:Nat->bK} {κ:Nat->bD} {F F':Nat->Prop} {w:World}
def ez(P:Program)(H:Nat->bK)(κ:Nat->bD)(F:Nat->Prop)(w:World):List aH->List Value->Prop
 | [],[]=>True
 | a::as,v::aD=>(bC P H κ F w a v/\v.oneCell'=true)/\ez P H κ F w as aD
 | _,_=>False
theorem ez.append:∀ {as bs:List aH} {us aD:List Value},ez P H κ F w as us->ez P H κ F w bs aD->ez P H κ F w (as++bs) (us++aD)
 | [],_,[],_,_,k=>k
 | _::_,_,_::_,_,h,k=>⟨h.1,ez.append h.2 k⟩
 | [],_,_::_,_,h,_=>h.elim
 | _::_,_,[],_,h,_=>h.elim
theorem ez.len:∀ {as:List aH} {us:List Value},ez P H κ F w as us->as.length=us.length
 | [],[],_=>rfl
 | _::_,_::_,h=>by simp[ez.len h.2]
 | [],_::_,h=>h.elim
 | _::_,[],h=>h.elim
theorem ez.kP:∀ {as:List aH} {us:List Value},ez P H κ F w as us->∀ i,i<as.length->bC P H κ F w (hh as i) (us.getD i Go.undef)/\(us.getD i Go.undef).oneCell'=true
 | a::as,v::aD,h,0,_=>h.1
 | a::as,v::aD,h,i+1,G=>by
  have:=ez.kP h.2 i (by grind);simpa [hh]using this
 | [],[],_,i,G=>by grind
 | [],_::_,h,_,_=>h.elim
 | _::_,[],h,_,_=>h.elim
theorem ez.Rt:∀ {as:List aH} {us:List Value},as.length=us.length->(∀ i,i<as.length->bC P H κ F w (hh as i) (us.getD i Go.undef)/\(us.getD i Go.undef).oneCell'=true)->ez P H κ F w as us
 | [],[],_,_=>trivial
 | a::as,v::aD,aj,h=>⟨h 0 (by simp),ez.Rt (by grind) λi G=>by have:=h (i+1) (by grind);simpa [hh]using this⟩
 | [],_::_,aj,_=>by grind
 | _::_,[],aj,_=>by grind
theorem y':∀ (t:ad) {cs:List Value} {x:t.ai},bJ P t F w cs x->ez P H κ F w (nK t x) cs:=by
 have eN:∀ (t:ad),t.eF=true->∀ {cs:List Value} {x:t.ai},bJ P t F w cs x->ez P H κ F w [.val t x] cs:=by
  intro t aI cs x h;obtain⟨u,rfl,hu⟩:=BX aI h;exact⟨⟨(dV aI).2 ⟨hu,h⟩,J1 aI h⟩,trivial⟩
 intro t;induction t with
 | bool=>intro cs x h;exact eN _ rfl h
 | int k=>intro cs x h;exact eN (.int k) rfl h
 | str=>intro cs x h;exact eN _ rfl h
 | cU=>intro cs x h;simp only[bJ]at h;subst h;trivial
 | st t aK=>intro cs x h;simp only[bJ]at h;exact aK h
 | az a b fy eK=>
  intro cs x h;simp only[bJ]at h;obtain⟨c,d,rfl,bb,W⟩:=h;exact (fy bb).append (eK W)
 | slice e aK=>intro cs x h;exact eN (.slice e) rfl h
 | array n e aK=>
  intro cs xs h;simp only[bJ]at h;obtain⟨fp,rfl,E,U,ag⟩:=h;simp only[nK];have key:∀ (k:Nat) (l:List (List Value)),(∀ i (G:i<l.length),ez P H κ F w (nK e (List.getD xs (k+i) e.df)) l[i])->ez P H κ F w ((List.range' k l.length).flatMap λi=>nK e (List.getD xs i e.df)) l.flatten:=by
   intro k l;induction l generalizing k with
   | nil=>intro _;trivial
   | cons c l ac1=>
    intro cW;simp only[List.length_cons,List.range'_succ,List.flatMap_cons,List.flatten_cons];refine ez.append ?_ (ac1 (k+1) λi G=>?_)
    ·have:=cW 0 (by simp);grind
    ·have:=cW (i+1) (by grind);grind
  rw[List.range_eq_range',<-E];grind
 | bI e aK=>intro cs x h;exact eN (.bI e) rfl h
 | map k v wX wY=>intro cs x h;exact eN (.map k v) rfl h
 | fn a b fy eK=>intro cs x h;exact eN (.fn a b) rfl h
 | ct a aK=>intro cs x h;exact eN (.ct a) rfl h
 | eu=>intro cs x h;exact eN .eu rfl h
theorem J4{e:ad}{xs:List e.ai}{k:bD}(aT:jC P H κ F w k (.bj e xs))(bp:∀ r,F r->F' r)(an:k.e9=false->F' k.aa):bJ P (.slice e) F' w [k.slice xs.length] xs:=by
 obtain⟨E,U⟩:=aT;simp only[bJ,bD.slice];cases aB:k.e9 with
 | true=>rw[E aB];exact⟨none,0,rfl,Nat.le_refl _,by decide,λ_=>rfl,λp ao=>by simp⟩
 | false=>
  obtain⟨cs,T,bF,c2,c3,c4,c5⟩:=U aB;refine⟨some ⟨k.aa,k.off,none⟩,k.cap,by simp,c3,c4,(by simp),λp ao _=>?_⟩;cases ao;refine⟨an aB,rfl,λi G=>?_⟩;obtain⟨bk,d1,d2⟩:=c5 i G;refine⟨bk,⟨an aB,rfl,λj aF=>?_⟩,ff e bp (c6.refl F w) d2⟩;simp only[World.cell?,bF];grind
theorem Fw{t cY:ad}{x:t.ai}{y:cY.ai}{v:Value}(hc:eT t cY x=some y)(h:ev P t F w v x):ev P cY F w v y:=by
 obtain⟨e,rfl⟩:=kO hc;grind
theorem tC{t cY:ad}{x:t.ai}{y:cY.ai}{cs:List Value}(hc:eT t cY x=some y)(h:bJ P t F w cs x):bJ P cY F w cs y:=by
 obtain⟨e,rfl⟩:=kO hc;grind
def iX(H:Nat->bK)(κ:Nat->bD)(F':Nat->Prop)(l:List Nat):Prop:=∀ b∈l,(H b).body.b1 (κ b)=true->F' (κ b).aa
theorem iX.left{l m:List Nat}(h:iX H κ F' (l++m)):iX H κ F' l:=λb W=>h b (List.mem_append_left _ W)
theorem iX.right{l m:List Nat}(h:iX H κ F' (l++m)):iX H κ F' m:=λb W=>h b (List.mem_append_right _ W)
theorem Ru{mi o7:ad}{es:List (mi.ai×o7.ai)}{k:bD}(aT:jC P H κ F w k (.mp mi o7 es))(bp:∀ r,F r->F' r)(an:F' k.aa):bJ P (.map mi o7) F' w [.map (some k.aa)] es:=by
 obtain⟨ms,clk,E,U⟩:=aT;obtain⟨U,ag,a6,bM⟩:=U.mono bp (c6.refl F w);exact .inr ⟨_,ms,clk,rfl,an,E,U,ag,a6,bM⟩
theorem Fx{e:ad}{xs:List e.ai}{k:bD}{aZ G:Nat}{v:Value}(h:bJ P (.slice e) F' w [k.slice xs.length] xs)(E:aZ<=G)(U:G<=xs.length)(aE:Fv k e.size aZ G v) :
  bJ P (.slice e) F' w [v] ((xs.take G).drop aZ):=by
 have hlen:((xs.take G).drop aZ).length=G - aZ:=by grind
 obtain⟨a,cap,ax,bF,c2,c3,c4⟩:=h;rcases aE with⟨aB,rfl⟩ | ⟨aB,o,rfl,hR,gG⟩
 ·have:xs=[]:=by
   simp only[bD.slice,aB,if_true,List.cons.injEq,Value.slice.injEq,and_true]at ax;grind
  subst this;have bH:(([]:List e.ai).take G).drop aZ=[]:=by simp
  rw[bH];exact⟨none,0,rfl,Nat.le_refl _,by decide,λ_=>rfl,λp ao=>by simp⟩
 ·simp only[bD.slice,aB,Bool.false_eq_true,if_false,List.cons.injEq,Value.slice.injEq,and_true]at ax;obtain⟨rfl,_,rfl⟩:=ax;refine⟨some ⟨k.aa,o,none⟩,k.cap - aZ,by grind,by omega,by omega,(by simp),λp ao u'=>?_⟩;cases ao;obtain⟨d1,d2,d3⟩:=c4 _ rfl (by omega);refine⟨d1,rfl,λi dL=>?_⟩;obtain⟨bk,m1,m2⟩:=d3 (aZ+i) (by omega);grind
theorem J5(aT:∀ b,cG P H κ F w b)(bp:∀ r,F r->F' r){t:ad}(aI:t.eF=true){av:aH}{v:Value}{x:t.ai}{l:List Nat}(h:(dX t av).run H=some (x,l))
  (aj:iX H κ F' l) (ae:bC P H κ F w av v):ev P t F' w v x:=by
 cases av with
 | undef=>cases h
 | hC b a=>cases h
 | aX b g off=>cases h
 | om b g i off=>cases h
 | iW b g i=>cases h
 | iz k n c=>
  cases t<;>simp only[dX,ar.none,ar.bN,reduceCtorEq]at h;split at h
  ·rename_i aB;subst aB;cases h;obtain⟨aD,rfl,aj,_⟩:=ae;obtain rfl:=List.eq_nil_of_length_eq_zero aj;exact (dV rfl).2 ⟨rfl,rfl⟩
  ·cases h
 | r6 k n c=>cases h
 | p2 n f=>cases h
 | agg n f=>cases h
 | j3 b g=>cases h
 | aW l aM L n st=>cases h
 | hf l=>cases h
 | w3 e xs=>cases h
 | sub b g aZ G=>
  cases t<;>simp only[dX,ar.none,ar.bN,ar.e4,reduceCtorEq]at h;rename_i e;split at h
  ·rename_i aC;obtain⟨p5,ig⟩:=ae;have jF:=aT b;unfold cG at jF;cases bT:(H b).body with
   | bj a7 xs=>
    rw[bT]at h jF ig;simp only[Option.map_eq_some_iff,Prod.mk.injEq]at h;obtain⟨z,bl,rfl,rfl⟩:=h;obtain⟨⟨aQ,aS⟩,bP⟩:=ig aC.symm rfl;exact (dV rfl).2 ⟨Fq p5.2,tC bl (Fx (J4 jF bp λaB=>aj b (by simp) (by rw[bT];simp[bR.b1,aB])) aQ aS bP)⟩
   | hD a7 xs=>
    rw[bT]at h jF ig;simp only[Option.map_eq_some_iff,Prod.mk.injEq]at h;obtain⟨z,bl,rfl,rfl⟩:=h;obtain⟨⟨aQ,aS⟩,bP⟩:=ig aC.symm rfl;exact (dV rfl).2 ⟨Fq p5.2,tC bl (Fx (ff (.slice a7) bp (c6.refl F w) jF) aQ aS bP)⟩
   | _=>rw[bT]at h;cases h
  grind
 | fJ b g=>
  cases t<;>simp only[dX,ar.none,ar.bN,ar.e4,reduceCtorEq]at h;rename_i k e;split at h
  ·rename_i aC;obtain⟨p5,ig⟩:=ae;have jF:=aT b;unfold cG at jF;cases bT:(H b).body with
   | mp k' h3 es=>
    rw[bT]at h jF ig;simp only[Option.map_eq_some_iff,Prod.mk.injEq]at h;obtain⟨z,bl,rfl,rfl⟩:=h;have:=ig aC.symm rfl;subst this;exact (dV rfl).2 ⟨rfl,tC bl (Ru jF bp (aj b (by simp) (by rw[bT];rfl)))⟩
   | ji k' h3 es=>
    rw[bT]at h jF ig;simp only[Option.map_eq_some_iff,Prod.mk.injEq]at h;obtain⟨z,bl,rfl,rfl⟩:=h;have:=ig aC.symm rfl;subst this;exact (dV rfl).2 ⟨rfl,tC bl (ff (.map k' h3) bp (c6.refl F w) jF)⟩
   | _=>rw[bT]at h;cases h
  grind
 | val cY y=>
  simp only[dX,ar.bN,Option.map_eq_some_iff,Prod.mk.injEq]at h;obtain⟨z,bl,rfl,rfl⟩:=h;exact (Fw bl ae).mono bp (c6.refl F w)
 | cv=>
  cases t<;>simp only[dX,ar.none,ar.bN,reduceCtorEq,Option.some.injEq,Prod.mk.injEq]at h;obtain⟨rfl,rfl⟩:=h;simp only[bC]at ae;subst ae;exact (dV rfl).2 ⟨rfl,none,0,rfl,Nat.le_refl _,by decide,λ_=>rfl,λp ao=>by simp⟩
 | al b g=>
  cases t<;>simp only[dX,ar.none,ar.bN,ar.e4,reduceCtorEq]at h;rename_i e;split at h
  ·rename_i aC;obtain⟨p5,ig⟩:=ae;have jF:=aT b;unfold cG at jF;cases bT:(H b).body with
   | bj a7 xs=>
    rw[bT]at h jF ig;simp only[Option.map_eq_some_iff,Prod.mk.injEq]at h;obtain⟨z,bl,rfl,rfl⟩:=h;have:=ig aC.symm rfl;simp only[bR.len]at this;subst this;refine (dV rfl).2 ⟨by unfold bD.slice;split<;>rfl,tC bl (J4 jF bp λaB=>aj b (by simp) (by rw[bT];simp[bR.b1,aB]))⟩
   | hD a7 xs=>
    rw[bT]at h jF ig;simp only[Option.map_eq_some_iff,Prod.mk.injEq]at h;obtain⟨z,bl,rfl,rfl⟩:=h;have:=ig aC.symm rfl;simp only[bR.len]at this;subst this;exact (dV rfl).2 ⟨by unfold bD.slice;split<;>rfl,tC bl (ff _ bp (c6.refl F w) jF)⟩
   | _=>rw[bT]at h;cases h
  grind
 | dW cY y=>
  cases t<;>simp only[dX,ar.none,ar.bN,reduceCtorEq,Option.map_eq_some_iff,Prod.mk.injEq]at h;rename_i e;obtain⟨z,bl,rfl,rfl⟩:=h;obtain⟨p,bk,rfl,U,ag⟩:=ae;refine (dV rfl).2 ⟨rfl,tC bl ?_⟩;exact .inr ⟨p,y,bk,rfl,rfl,U.mono bp (c6.refl F w),ff cY bp (c6.refl F w) ag⟩
 | jB u=>
  simp only[bC]at ae;subst ae;simp only[dX,ar.bN,Option.map_eq_some_iff,Prod.mk.injEq]at h;obtain⟨z,bl,rfl,rfl⟩:=h;unfold B2 at bl;split at bl
  ·cases bl;exact (dV rfl).2 ⟨rfl,.inl ⟨rfl,rfl⟩⟩
  ·cases bl;exact (dV rfl).2 ⟨rfl,.inl ⟨rfl,rfl⟩⟩
  ·cases bl;exact (dV rfl).2 ⟨rfl,rfl⟩
  grind
theorem B3{n:Nat}{f:Nat->aH}{aD:List Value}(aj:aD.length=n)(h:∀ i,i<n->bC P H κ F w (f i) (aD.getD i Go.undef)/\(aD.getD i Go.undef).oneCell'=true) :
  ez P H κ F w ((List.range n).map f) aD:=by
 refine ez.Rt (by grind) λi G=>?_;have dL:i<n:=by grind
 have:hh ((List.range n).map f) i=f i:=by simp[hh,List.getD_eq_getElem?_getD,dL]
 grind
theorem Rv(aT:∀ b,cG P H κ F w b)(bp:∀ r,F r->F' r){e:ad}{ch:List aH->ar (Option (e.ai×List Nat×List aH))}
  (gu:∀ {cs:List aH} {aD:List Value} {x:e.ai} {l:List Nat} {r:List aH},(ch cs).run H=some (x,l,r)->iX H κ F' l->ez P H κ F w cs aD->∃ c d,aD=c++d/\bJ P e F' w c x/\ez P H κ F w r d)
  {av:aH} {v:Value} {x:Option e.ai} {l:List Nat} (h:(tB e ch av).run H=some (x,l)) (aj:iX H κ F' l) (ae:bC P H κ F w av v):ev P (.bI e) F' w v x:=by
 have cn:(dX (.bI e) av).run H=some (x,l)->ev P (.bI e) F' w v x:=λh=>J5 aT bp rfl h aj ae;cases av with
 | aX b g off=>
  simp only[tB,ar.e4]at h;split at h
  ·rename_i aC;obtain⟨aC,rfl⟩:=aC;obtain⟨p5,ig⟩:=ae;have jF:=aT b;unfold cG at jF;cases bT:(H b).body with
   | gK t y=>
    rw[bT]at h jF ig;simp only[ar.bN,Option.map_eq_some_iff,Prod.mk.injEq]at h;obtain⟨z,bl,rfl,rfl⟩:=h;obtain⟨eq,rfl⟩:=kO bl;subst eq;obtain rfl:=ig aC.symm rfl;obtain⟨bk,E,U⟩:=jF;exact (dV rfl).2 ⟨rfl,.inr ⟨_,_,bk,rfl,rfl,E.mono bp (c6.refl F w),ff t bp (c6.refl F w) U⟩⟩
   | cells t f=>
    rw[bT]at h jF ig;simp only at h;split at h
    ·rename_i aI;subst aI;simp only[ar.e5,Option.bind_eq_some_iff,ar.bN]at h;obtain⟨⟨y,m,q⟩,E,U⟩:=h;split at U
     ·rename_i bt;simp only[Option.some.injEq,Prod.mk.injEq]at U;obtain⟨rfl,rfl⟩:=U;obtain rfl:=ig aC.symm rfl;obtain⟨cs,T,aQ,aS,bP⟩:=jF;have iB:ez P H κ F w ((List.range t.size).map f) cs.toList:=B3 (by omega) λi G=>by
       simp_all
      obtain⟨c,d,J6,bF,c2⟩:=gu E (λbf dc=>aj bf (List.mem_cons_of_mem _ dc)) iB;have bt:q=[]:=List.isEmpty_iff.1 bt;subst bt;cases d with
      | cons _ _=>exact c2.elim
      | nil=>
       rw[List.append_nil]at J6;refine (dV rfl).2 ⟨rfl,.inr ⟨_,y,c,rfl,rfl,⟨aj b (by simp) (by rw[bT];rfl),rfl,λj aF=>?_⟩,bF⟩⟩;have fW:j<cs.size:=by grind
       simp only[World.cell?,aQ,Nat.zero_add,Option.isSome_none,Bool.false_eq_true,if_false,Array.getElem?_eq_getElem fW];grind
     grind
    ·cases h
   | _=>rw[bT]at h;cases h
  ·cases h
 | _=>exact cn h
theorem J7(aT:∀ b,cG P H κ F w b)(bp:∀ r,F r->F' r):∀ (t:ad) {cs:List aH} {aD:List Value} {x:t.ai} {l:List Nat} {r:List aH},(ie t cs).run H=some (x,l,r)->
  iX H κ F' l->ez P H κ F w cs aD->∃ c d,aD=c++d/\bJ P t F' w c x/\ez P H κ F w r d:=by
 have p6:∀ (t:ad) (g:aH->ar (Option (t.ai×List Nat))),t.eF=true->(∀ {av:aH} {v:Value} {x:t.ai} {l:List Nat},(g av).run H=some (x,l)->iX H κ F' l->bC P H κ F w av v->ev P t F' w v x)->
   ∀ {cs:List aH} {aD:List Value} {x:t.ai} {l:List Nat} {r:List aH},(match cs with | c::r=>(g c).map λo=>o.map λ(x,l)=>(x,l,r) | []=>.none:ar (Option (t.ai×List Nat×List aH))).run H=some (x,l,r)->
   iX H κ F' l->ez P H κ F w cs aD->∃ c d,aD=c++d/\bJ P t F' w c x/\ez P H κ F w r d:=by
  intro t g aI aC cs aD x l r h aj bb;cases cs with
  | nil=>cases h
  | cons c cs=>
   cases aD with
   | nil=>exact bb.elim
   | cons v aD=>
    simp only[ar.map,ar.run_bind,ar.bN,Option.map_eq_some_iff,Prod.mk.injEq]at h;obtain⟨⟨y,m⟩,bl,rfl,rfl,rfl⟩:=h;refine⟨[v],aD,rfl,?_,bb.2⟩;exact ((dV aI).1 (aC bl aj bb.1.1)).2
 have eN:∀ (t:ad),t.eF=true->∀ {cs:List aH} {aD:List Value} {x:t.ai} {l:List Nat} {r:List aH},(match cs with | c::r=>(dX t c).map λo=>o.map λ(x,l)=>(x,l,r) | []=>.none:ar (Option (t.ai×List Nat×List aH))).run H=some (x,l,r)->
   iX H κ F' l->ez P H κ F w cs aD->∃ c d,aD=c++d/\bJ P t F' w c x/\ez P H κ F w r d:=
  λt aI=>p6 t (dX t) aI λh aj ae=>J5 aT bp aI h aj ae
 intro t;induction t with
 | bool=>intro cs aD x l r h aj bb;exact eN _ rfl h aj bb
 | int k=>intro cs aD x l r h aj bb;exact eN (.int k) rfl h aj bb
 | str=>intro cs aD x l r h aj bb;exact eN _ rfl h aj bb
 | cU=>
  intro cs aD x l r h aj bb;simp only[ie,ar.bN,Option.some.injEq,Prod.mk.injEq]at h;obtain⟨_,rfl,rfl⟩:=h;exact⟨[],aD,rfl,rfl,bb⟩
 | st t aK=>intro cs aD x l r h aj bb;exact aK h aj bb
 | az a b fy eK=>
  intro cs aD x l r h aj bb;simp only[ie,ar.e5,Option.bind_eq_some_iff,ar.bN,Option.some.injEq,Prod.mk.injEq]at h;obtain⟨⟨y,m,q⟩,E,⟨z,dy,q'⟩,U,rfl,rfl,rfl⟩:=h;obtain⟨c,d,rfl,bF,c2⟩:=fy E aj.left bb;obtain⟨c',va,rfl,d1,d2⟩:=eK U aj.right c2;exact⟨c++c',va,by simp,⟨c,c',rfl,bF,d1⟩,d2⟩
 | slice e aK=>intro cs aD x l r h aj bb;exact eN (.slice e) rfl h aj bb
 | array n e aK=>
  intro cs aD xs l r h aj bb;simp only[ie]at h;have key:∀ (n:Nat) {cs:List aH} {aD:List Value} {xs:List e.ai} {l:List Nat} {r:List aH},(n.rec (motive:=λ_=>List aH->ar (Option (List e.ai×List Nat×List aH))) (λcs=>.ret (some ([],[],cs)))
     (λ_ aK cs=>(ie e cs).cR λ(x,l,r)=>(aK r).cR λ(xs,m,q)=>.ret (some (x::xs,l++m,q))) cs).run H=some (xs,l,r)->
    iX H κ F' l->ez P H κ F w cs aD->
    ∃ fp d,aD=List.flatten fp++d/\fp.length=n/\xs.length=n/\(∀ i (h:i<xs.length) (dt:i<fp.length),bJ P e F' w fp[i] xs[i])/\ez P H κ F w r d:=by
   intro n;induction n with
   | zero=>
    intro cs aD xs l r h aj bb;cases h;exact⟨[],aD,rfl,rfl,rfl,λi G=>(by simp),bb⟩
   | succ n B4=>
    intro cs aD xs l r h aj bb;simp only[ar.e5,Option.bind_eq_some_iff,ar.bN,Option.some.injEq,Prod.mk.injEq]at h;obtain⟨⟨y,m,q⟩,E,⟨z,dy,q'⟩,U,rfl,rfl,rfl⟩:=h;obtain⟨c,d,rfl,bF,c2⟩:=aK E aj.left bb;obtain⟨fp,va,rfl,d1,d2,d3,d4⟩:=B4 U aj.right c2;refine⟨c::fp,va,by simp,by grind,by grind,λi G dL=>?_,d4⟩;grind
  obtain⟨fp,d,ax,aO,cF,ee,dZ⟩:=key n h aj bb;exact⟨fp.flatten,d,ax,⟨fp,rfl,aO,cF,ee⟩,dZ⟩
 | bI e aK=>intro cs aD x l r h aj bb;exact p6 (.bI e) (tB e (ie e)) rfl (λh aj ae=>Rv aT bp aK h aj ae) h aj bb
 | map k v wX wY=>intro cs aD x l r h aj bb;exact eN (.map k v) rfl h aj bb
 | fn a b fy eK=>intro cs aD x l r h aj bb;exact eN (.fn a b) rfl h aj bb
 | ct a aK=>intro cs aD x l r h aj bb;exact eN (.ct a) rfl h aj bb
 | eu=>intro cs aD x l r h aj bb;exact eN .eu rfl h aj bb
theorem mm(aT:∀ b,cG P H κ F w b)(bp:∀ r,F r->F' r){t:ad}{av:aH}{v:Value}{x:t.ai}{l:List Nat}(h:(dC t av).run H=some (x,l))
  (aj:iX H κ F' l) (ae:bC P H κ F w av v):ev P t F' w v x:=by
 have cn:(kr t av).run H=some (x,l)->ev P t F' w v x:=by
  intro h;unfold kr at h;split at h
  ·exact Rv aT bp (λh aj bb=>J7 aT bp _ h aj bb) h aj ae
  ·split at h
   ·rename_i aI;exact J5 aT bp aI h aj ae
   ·cases h
 cases av with
 | val cY y=>
  simp only[dC,ar.bN,Option.map_eq_some_iff,Prod.mk.injEq]at h;obtain⟨z,bl,rfl,rfl⟩:=h;exact (Fw bl ae).mono bp (c6.refl F w)
 | agg n f=>
  simp only[dC]at h;split at h
  ·cases h
  ·simp only[ar.e5,Option.bind_eq_some_iff,ar.bN]at h;obtain⟨⟨y,m,q⟩,E,U⟩:=h;split at U
   ·rename_i hc;simp only[Bool.and_eq_true,List.isEmpty_iff]at hc;simp only[Option.some.injEq,Prod.mk.injEq]at U;obtain⟨rfl,rfl⟩:=U;obtain⟨aD,rfl,a6,bM⟩:=ae;obtain⟨c,d,rfl,bF,c2⟩:=J7 aT bp t E aj (B3 a6 bM);rw[hc.1]at c2;cases d with
    | cons _ _=>exact c2.elim
    | nil=>
     rw[List.append_nil]at *
     have hlen:=hP t bF;have aE:=hc.2;cases t<;>simp only[ad.isAgg,Bool.false_eq_true]at aE
     ·exact⟨⟨c.toArray,rfl,by simpa [ad.size]using hlen⟩,by simpa [Value.cells]using bF⟩
     ·exact⟨⟨c.toArray,rfl,by simpa [ad.size]using hlen⟩,by simpa [Value.cells]using bF⟩
   grind
 | undef=>exact cn h
 | hC b a=>exact cn h
 | aX b g off=>exact cn h
 | al b g=>exact cn h
 | om b g i off=>exact cn h
 | iW b g i=>exact cn h
 | dW cY y=>exact cn h
 | fJ b g=>exact cn h
 | iz k n c=>exact cn h
 | r6 k n c=>exact cn h
 | p2 n f=>exact cn h
 | cv=>exact cn h
 | jB u=>exact cn h
 | j3 b g=>exact cn h
 | aW l aM L n st=>exact cn h
 | hf l=>exact cn h
 | w3 e xs=>exact cn h
 | sub b g aZ G=>exact cn h
end
def ad.pure:ad->Bool
 | .bool | .int _ | .str | .cU=>true
 | .st t=>t.pure
 | .az a b=>a.pure&&b.pure
 | .array _ e=>e.pure
 | _=>false
theorem ac2{P:Program}{F F':Nat->Prop}{w w':World}:∀ (t:ad) {cs:List Value} {x:t.ai},t.pure=true->bJ P t F w cs x->bJ P t F' w' cs x:=by
 intro t;induction t with
 | bool=>intro cs x _ h;exact h
 | int k=>intro cs x _ h;exact h
 | str=>intro cs x _ h;exact h
 | cU=>intro cs x _ h;exact h
 | st t aK=>intro cs x aI h;exact aK aI h
 | az a b fy eK=>
  intro cs x aI h;simp only[ad.pure,Bool.and_eq_true]at aI;obtain⟨c,d,rfl,bb,W⟩:=h;exact⟨c,d,rfl,fy aI.1 bb,eK aI.2 W⟩
 | slice e aK=>intro cs x aI;cases aI
 | array n e aK=>
  intro cs x aI h;obtain⟨fp,rfl,E,U,ag⟩:=h;exact⟨fp,rfl,E,U,λi G dL=>aK aI (ag i G dL)⟩
 | bI e aK=>intro cs x aI;cases aI
 | map k v wX wY=>intro cs x aI;cases aI
 | fn a b fy eK=>intro cs x aI;cases aI
 | ct a aK=>intro cs x aI;cases aI
 | eu=>intro cs x aI;cases aI
end Go.Fer
namespace Go.Fer
open Go.RowKit
section
variable {P:Program} {F:Nat->Prop} {w:World}
theorem ac3{t:ad}{x y:t.ai}(h:eT t t x=some y):y=x:=by
 obtain⟨e,rfl⟩:=kO h;rfl
theorem Rw:∀ (t:ad) {f:Nat} {cs:List Value} {x:t.ai} {s:ad} {y:s.ai},bJ P t F w cs x->u_ t x f=some ⟨s,y⟩->
  ∃ bF c2 c3,cs=bF++(c2++c3)/\bJ P s F w c2 y/\ml t f=some (s,bF.length):=by
 have eN:∀ (t:ad),(∀ a b,t≠.az a b)->t≠.cU->∀ {f:Nat} {cs:List Value} {x:t.ai} {s:ad} {y:s.ai},bJ P t F w cs x->u_ t x f=some ⟨s,y⟩->
   ∃ bF c2 c3,cs=bF++(c2++c3)/\bJ P s F w c2 y/\ml t f=some (s,bF.length):=by
  intro t E U f cs x s y h aq;cases f with
  | zero=>
   have e:u_ t x 0=some ⟨t,x⟩:=by cases t<;>first | rfl | grind | grind
   have a7:ml t 0=some (t,0):=by cases t<;>first | rfl | grind | grind
   rw[e]at aq;cases aq;exact⟨[],cs,[],by simp,h,a7⟩
  | succ f=>
   have e:u_ t x (f+1)=none:=by cases t<;>first | rfl | grind
   grind
 intro t;induction t with
 | az a b fy eK=>
  intro f cs x s y h aq;simp only[bJ]at h;obtain⟨c,d,rfl,bb,W⟩:=h;cases f with
  | zero=>
   simp only[u_,Option.some.injEq,Sigma.mk.injEq]at aq;obtain⟨rfl,aq⟩:=aq;cases aq;exact⟨[],c,d,by simp,bb,rfl⟩
  | succ f=>
   obtain⟨bF,c2,c3,rfl,aQ,aS⟩:=eK W aq;refine⟨c++bF,c2,c3,by simp,aQ,?_⟩;simp[ml,aS,hP a bb]
 | cU=>intro f cs x s y _ aq;cases f<;>cases aq
 | bool=>grind
 | int k=>grind
 | str=>grind
 | st t _=>grind
 | slice e _=>grind
 | array n e _=>grind
 | bI e _=>grind
 | map k v _ _=>grind
 | fn a b _ _=>grind
 | ct a _=>grind
 | eu=>grind
theorem Rx:∀ (t:ad) {off:Nat} {cs:List Value} {x:t.ai} {s:ad} {y:s.ai},bJ P t F w cs x->r8 t x off s=some y->
  ∃ bF c2 c3,cs=bF++(c2++c3)/\bF.length=off/\bJ P s F w c2 y:=by
 have eN:∀ (t:ad) {off:Nat} {cs:List Value} {x:t.ai} {s:ad} {y:s.ai},bJ P t F w cs x->(if off=0 then eT t s x else none)=some y->
   ∃ bF c2 c3,cs=bF++(c2++c3)/\bF.length=off/\bJ P s F w c2 y:=by
  intro t off cs x s y h aq;split at aq
  ·rename_i af;exact⟨[],cs,[],by simp,af.symm,tC aq h⟩
  grind
 intro t;induction t with
 | az a b fy eK=>
  intro off cs x s y h aq;simp only[bJ]at h;obtain⟨c,d,rfl,bb,W⟩:=h;simp only[r8]at aq;split at aq
  ·grind
  ·obtain⟨bF,c2,c3,rfl,aQ,aS⟩:=eK W aq;have:=hP a bb;grind
 | st t aK=>
  intro off cs x s y h aq;simp only[r8]at aq;split at aq
  ·rename_i af;exact⟨[],cs,[],by simp,af.1.symm,tC aq h⟩
  ·simp only[bJ]at h;grind
 | cU=>intro off cs x s y _ aq;cases aq
 | array n e _=>intro off cs x s y _ aq;cases aq
 | bool=>intro off cs x s y h aq;exact eN _ h aq
 | int k=>intro off cs x s y h aq;exact eN (.int k) h aq
 | str=>intro off cs x s y h aq;exact eN _ h aq
 | slice e _=>intro off cs x s y h aq;exact eN (.slice e) h aq
 | bI e _=>intro off cs x s y h aq;exact eN (.bI e) h aq
 | map k v _ _=>intro off cs x s y h aq;exact eN (.map k v) h aq
 | fn a b _ _=>intro off cs x s y h aq;exact eN (.fn a b) h aq
 | ct a _=>intro off cs x s y h aq;exact eN (.ct a) h aq
 | eu=>intro off cs x s y h aq;exact eN .eu h aq
theorem ac4:∀ (t:ad) {off:Nat} {cs bk:List Value} {x dK:t.ai} {s:ad} {y:s.ai},bJ P t F w cs x->w7 t x off s y=some dK->bJ P s F w bk y->
  ∃ bF c2 c3,cs=bF++(c2++c3)/\bF.length=off/\c2.length=s.size/\bJ P t F w (bF++(bk++c3)) dK:=by
 have eN:∀ (t:ad) {off:Nat} {cs bk:List Value} {x dK:t.ai} {s:ad} {y:s.ai},bJ P t F w cs x->(if off=0 then eT s t y else none)=some dK->bJ P s F w bk y->
   ∃ bF c2 c3,cs=bF++(c2++c3)/\bF.length=off/\c2.length=s.size/\bJ P t F w (bF++(bk++c3)) dK:=by
  intro t off cs bk x dK s y h aq aw;split at aq
  ·rename_i af;obtain⟨e,rfl⟩:=kO aq;subst e;exact⟨[],cs,[],by simp,af.symm,hP s h,by grind⟩
  grind
 intro t;induction t with
 | az a b fy eK=>
  intro off cs bk x dK s y h aq aw;simp only[bJ]at h;obtain⟨c,d,rfl,bb,W⟩:=h;simp only[w7]at aq;split at aq
  ·simp only[Option.map_eq_some_iff]at aq;obtain⟨z,bl,rfl⟩:=aq;obtain⟨bF,c2,c3,rfl,aQ,aS,bP⟩:=fy bb bl aw;exact⟨bF,c2,c3++d,by simp,aQ,aS,⟨_,d,by simp,bP,W⟩⟩
  ·simp only[Option.map_eq_some_iff]at aq;obtain⟨z,bl,rfl⟩:=aq;obtain⟨bF,c2,c3,rfl,aQ,aS,bP⟩:=eK W bl aw;have:=hP a bb;exact⟨c++bF,c2,c3,by simp,by grind,aS,⟨c,_,by simp,bb,bP⟩⟩
 | st t aK=>
  intro off cs bk x dK s y h aq aw;simp only[w7]at aq;split at aq
  ·rename_i af;obtain⟨af,e⟩:=af;subst e;have:=ac3 aq;subst this;exact⟨[],cs,[],by simp,af.symm,hP _ h,by grind⟩
  ·simp only[bJ]at h ⊢;grind
 | cU=>intro off cs bk x dK s y _ aq;cases aq
 | array n e _=>intro off cs bk x dK s y _ aq;cases aq
 | bool=>intro off cs bk x dK s y h aq aw;exact eN _ h aq aw
 | int k=>intro off cs bk x dK s y h aq aw;exact eN (.int k) h aq aw
 | str=>intro off cs bk x dK s y h aq aw;exact eN _ h aq aw
 | slice e _=>intro off cs bk x dK s y h aq aw;exact eN (.slice e) h aq aw
 | bI e _=>intro off cs bk x dK s y h aq aw;exact eN (.bI e) h aq aw
 | map k v _ _=>intro off cs bk x dK s y h aq aw;exact eN (.map k v) h aq aw
 | fn a b _ _=>intro off cs bk x dK s y h aq aw;exact eN (.fn a b) h aq aw
 | ct a _=>intro off cs bk x dK s y h aq aw;exact eN (.ct a) h aq aw
 | eu=>intro off cs bk x dK s y h aq aw;exact eN .eu h aq aw
end
def j5:ad->List Value->Option (List Value)
 | .cU,cs=>some cs
 | .st t,cs=>j5 t cs
 | .az a b,cs=>(j5 a cs).bind (j5 b)
 | .array n e,cs=>n.rec (motive:=λ_=>List Value->Option (List Value)) some (λ_ aK cs=>(j5 e cs).bind aK) cs
 | .bool,cs=>match cs with | .bool false::r=>some r | _=>none
 | .int k,cs=>match cs with | .int k' n::r=>if k'=k/\n=0 then some r else none | _=>none
 | .str,cs=>match cs with | .string s::r=>if s.size=0 then some r else none | _=>none
 | .slice _,cs=>match cs with | .slice none 0 0::r=>some r | _=>none
 | .bI _,cs=>match cs with | .pointer none::r=>some r | _=>none
 | .map _ _,cs=>match cs with | .map none::r=>some r | _=>none
 | .fn _ _,cs=>match cs with | .nilFunc::r=>some r | _=>none
 | .ct _,cs=>match cs with | .nilFunc::r=>some r | _=>none
 | .eu,cs=>match cs with | .nilFunc::r=>some r | _=>none
theorem Ry(k:IntKind):fV k 0:=by cases k<;>decide
theorem vb{P:Program}{H:Nat->bK}{κ:Nat->bD}{F:Nat->Prop}{w:World}:∀ (t:ad) {cs r:List Value},j5 t cs=some r->
  ∃ c,cs=c++r/\bJ P t F w c t.df/\ez P H κ F w (r7 t) c:=by
 intro t;induction t with
 | cU=>intro cs r h;cases h;exact⟨[],by simp,rfl,trivial⟩
 | st t aK=>intro cs r h;exact aK h
 | az a b fy eK=>
  intro cs r h;simp only[j5,Option.bind_eq_some_iff]at h;obtain⟨q,E,U⟩:=h;obtain⟨c,rfl,bF,c2⟩:=fy E;obtain⟨d,rfl,d1,d2⟩:=eK U;exact⟨c++d,by simp,⟨c,d,rfl,bF,d1⟩,c2.append d2⟩
 | array n e aK=>
  intro cs r h;simp only[j5]at h;have key:∀ (n k:Nat) {cs r:List Value},n.rec (motive:=λ_=>List Value->Option (List Value)) some (λ_ aK cs=>(j5 e cs).bind aK) cs=some r->
    ∃ fp:List (List Value),cs=fp.flatten++r/\fp.length=n/\(∀ c∈fp,bJ P e F w c e.df)/\ez P H κ F w ((List.range' k n).flatMap λ_=>r7 e) fp.flatten:=by
   intro n;induction n with
   | zero=>intro k cs r h;cases h;exact⟨[],by simp,rfl,by simp,trivial⟩
   | succ n B4=>
    intro k cs r h;simp only[Option.bind_eq_some_iff]at h;obtain⟨q,E,U⟩:=h;obtain⟨c,rfl,bF,c2⟩:=aK E;obtain⟨fp,rfl,d1,d2,d3⟩:=B4 (k+1) U;refine⟨c::fp,by simp,by grind,?_,?_⟩
    ·grind
    ·simp only[List.range'_succ,List.flatMap_cons,List.flatten_cons];exact c2.append d3
  obtain⟨fp,rfl,E,U,ag⟩:=key n 0 h;refine⟨fp.flatten,rfl,⟨fp,rfl,E,by simp[ad.df],λi G dL=>?_⟩,?_⟩
  ·have:(ad.array n e).df[i]=e.df:=by simp[ad.df]
   grind
  ·simp only[r7,List.range_eq_range'];exact ag
 | bool=>
  intro cs r h;simp only[j5]at h;split at h
  ·cases h;exact⟨[.bool false],rfl,rfl,⟨fg.2 rfl,rfl⟩,trivial⟩
  grind
 | int k=>
  intro cs r h;simp only[j5]at h;split at h
  ·split at h
   ·rename_i an;obtain⟨rfl,rfl⟩:=an;cases h;exact⟨[.int _ 0],rfl,⟨rfl,Ry _⟩,⟨gV.2 ⟨rfl,Ry _⟩,rfl⟩,trivial⟩
   grind
  grind
 | str=>
  intro cs r h;simp only[j5]at h;split at h
  ·rename_i s p1;split at h
   ·rename_i aE;cases h;have:s=⟨([]:List UInt8).toArray⟩:=by
     cases s with | mk d=>simp only[ByteArray.size]at aE;grind
    subst this;exact⟨[.string ⟨([]:List UInt8).toArray⟩],rfl,⟨rfl,by decide⟩,⟨mh.2 ⟨rfl,by decide⟩,rfl⟩,trivial⟩
   grind
  grind
 | slice e _=>
  intro cs r h;simp only[j5]at h;split at h
  ·cases h;exact⟨[.slice none 0 0],rfl,⟨none,0,rfl,Nat.le_refl _,by decide,λ_=>rfl,λp ao=>by simp⟩,⟨rfl,rfl⟩,trivial⟩
  grind
 | bI e _=>
  intro cs r h;simp only[j5]at h;split at h
  ·cases h;exact⟨[.pointer none],rfl,.inl ⟨rfl,rfl⟩,⟨(dV rfl).2 ⟨rfl,.inl ⟨rfl,rfl⟩⟩,rfl⟩,trivial⟩
  grind
 | map k v _ _=>
  intro cs r h;simp only[j5]at h;split at h
  ·cases h;exact⟨[.map none],rfl,.inl ⟨rfl,rfl⟩,⟨(dV rfl).2 ⟨rfl,.inl ⟨rfl,rfl⟩⟩,rfl⟩,trivial⟩
  grind
 | fn a b _ _=>
  intro cs r h;simp only[j5]at h;split at h
  ·cases h;exact⟨[.nilFunc],rfl,⟨.nilFunc,rfl,⟨rfl,rfl⟩,λF' w' _ _ _ _ args x _ _ aE=>(show False from aE).elim⟩,⟨rfl,rfl⟩,trivial⟩
  grind
 | ct a _=>
  intro cs r h;simp only[j5]at h;split at h
  ·cases h;exact⟨[.nilFunc],rfl,⟨.nilFunc,rfl,⟨rfl,rfl⟩,λF' w' _ _ _ _ aE=>(show ∃ _,False from aE).elim λ_ h=>h.elim⟩,⟨rfl,rfl⟩,trivial⟩
  grind
 | eu=>
  intro cs r h;simp only[j5]at h;split at h
  ·cases h;exact⟨[.nilFunc],rfl,rfl,⟨(dV rfl).2 ⟨rfl,rfl⟩,rfl⟩,trivial⟩
  grind
def oo(P:Program)(t:ad)(id:TypeId):Bool:=
 match P.info? id with
 | some i=>i.size == t.size&&decide (i.bytes<=1024)&&(match i.zero with
  | some z=>(match j5 t z.cells.toList with | some []=>true | _=>false)&&(match t,z with
   | .st _,.agg _=>true
   | .array _ _,.agg _=>true
   | .st _,_=>false
   | .array _ _,_=>false
   | _,.agg _=>false
   | _,_=>true)
  | none=>false)
 | none=>false
def cH(P:Program):ad->Sum TypeId (List Field×Nat)->Bool
 | .az a b, .inr (f :: g :: [], off) => f.offset == off && cH P a (.inl f.type) && a.size != 0 && f.name != "_" && (g.offset == off + a.size && cH P b (.inl g.type) && b.size != 0 && g.name != "_")
 | .az a b, .inr (f :: g :: h :: eU, off) => f.offset == off && cH P a (.inl f.type) && a.size != 0 && f.name != "_" && cH P b (.inr (g :: h :: eU, off + a.size))
 | .st t,.inl id=>oo P (.st t) id&&!P.stoodInHeld id&&!P.eqGuardType P.depth id&&match P.underlying id with
  | some (.struct eU)=>(match eU.toList with
   | []=>decide (t=.cU)
   | [f] => f.offset == 0 && cH P t (.inl f.type) && t.size != 0 && f.name != "_"
   | l=>cH P t (.inr (l,0)))
  | _=>false
 | .bool,.inl id=>oo P .bool id&&(match P.underlying id with | some .bool=>true | _=>false)
 | .int k,.inl id=>oo P (.int k) id&&(match P.underlying id with | some (.int k')=>decide (k'=k) | _=>false)
 | .str,.inl id=>oo P .str id&&(match P.underlying id with | some .string=>true | _=>false)
 | .slice e,.inl id=>oo P (.slice e) id&&(match P.underlying id with | some (.slice i)=>cH P e (.inl i)&&e.size != 0 | _=>false)
 | .array n e,.inl id=>oo P (.array n e) id&&(match P.underlying id with | some (.array m i)=>decide (m=n)&&cH P e (.inl i)&&e.size != 0 | _=>false)
 | .bI e,.inl id=>oo P (.bI e) id&&(match P.underlying id with | some (.pointer i)=>cH P e (.inl i)&&e.size != 0 | _=>false)
 | .map k v,.inl id=>oo P (.map k v) id&&(match P.underlying id with | some (.map i j)=>cH P k (.inl i)&&cH P v (.inl j) | _=>false)
 | .fn a b,.inl id=>oo P (.fn a b) id&&(match P.underlying id with | some (.func _ _ _)=>true | _=>false)
 | .ct a,.inl id=>oo P (.ct a) id&&(match P.underlying id with | some (.func _ _ _)=>true | _=>false)
 | .eu,.inl id=>oo P .eu id&&(match P.underlying id with | some (.func _ _ _)=>true | _=>false)
 | _,_=>false
def b_(P:Program)(t:ad)(id:TypeId):Prop:=cH P t (.inl id)=true
theorem b_.ks{P:Program}{t:ad}{id:TypeId}(h:b_ P t id):oo P t id=true:=by
 unfold b_ at h;cases t<;>simp only[cH,Bool.and_eq_true,Bool.false_eq_true]at h<;>first | exact h.1.1.1 | exact h.1
theorem kt{P:Program}{t:ad}{id:TypeId}(h:oo P t id=true):∃ i z,P.info? id=some i/\i.size=t.size/\i.bytes<=1024/\i.zero=some z/\
  j5 t z.cells.toList=some []/\((∃ cs,z=.agg cs)<->t.isAgg=true):=by
 unfold oo at h;split at h
 ·rename_i i G;simp only[Bool.and_eq_true,beq_iff_eq,decide_eq_true_eq]at h;obtain⟨⟨E,U⟩,ag⟩:=h;split at ag
  ·rename_i z bl;simp only[Bool.and_eq_true]at ag;obtain⟨a6,bM⟩:=ag;refine⟨i,z,G,E,U,bl,?_,?_⟩
   ·grind
   ·cases t<;>cases z<;>simp_all[ad.isAgg]
  grind
 grind
end Go.Fer
namespace Go.Fer
open Go.RowKit
structure eC where
 cb:Prop
 c:Prop
 e_:aH
 hE:List (Nat×bK)
def use:aH->Prop×aH
 | .hC b a=>(b=true,a)
 | a=>(True,a)
def w8:Value->aH
 | .bool b=>.val .bool b
 | .int k n=>if fV k n then .val (.int k) n else .jB (.int k n)
 | .string s=>if s.size<1048576 then .val .str s.data.toList else .jB (.string s)
 | .slice none 0 0=>.cv
 | v=>.jB v
def a8(aP:dG)(s:Nat->aH):Operand->aH
 | .tmp t=>s t
 | .const v=>w8 v
 | .func f=>match aP.tz f with
  | some v=>.val (.fn v.ts v.aW) v.sh
  | none=>.iz f 0 λ_=>.undef
 | .global _=>.undef
structure aL where
 ts:ad
 aW:ad
 pre:ts.ai->Prop
 g:ts.ai->aW.ai
def ku:(t:ad)->t.ai->Nat->aH
 | .az a _,x,0=>.val a x.1
 | .az _ b,x,i+1=>ku b x.2 i
 | t,x,0=>.val t x
 | _,_,_+1=>.undef
def j6:ad->Nat
 | .az _ b=>j6 b+1
 | .cU=>0
 | _=>1
def qU(t:ad)(x:t.ai):aH:=
 match t with
 | .az a b=>.p2 (j6 (.az a b)) (ku (.az a b) x)
 | .cU=>.jB (.tuple #[])
 | t=>.val t x
def iY:(t:ad)->List aH->ar (Option (t.ai×List Nat))
 | .az a b,v::aD=>(dC a v).cR λ(x,l)=>(iY b aD).cR λ(y,m)=>.ret (some ((x,y),l++m))
 | .az _ _,[]=>.none
 | .cU,[]=>.ret (some ((),[]))
 | .cU,_::_=>.none
 | t,[v]=>dC t v
 | _,_=>.none
def jG:List Nat->ar (List (Nat×bK))
 | []=>.ret []
 | b::l=>.eS b λx=>(jG l).bind λr=>match x.body with
  | .bj e xs=>.ret ((b,⟨x.gen,.hD e xs⟩)::r)
  | .mp k v es=>.ret ((b,⟨x.gen,.ji k v es⟩)::r)
  | .cells t f=>(ie t ((List.range t.size).map f)).bind λo=>.ret (match o with
   | some (y,_,[])=>(b,⟨x.gen,.gK t y⟩)::r
   | _=>r)
  | _=>.ret r
def cellsOf(t:ad)(av:aH):Option (List aH):=
 match t,av with
 | .st t,.val (.st cY) x=>if cY=t then some (nK cY x) else none
 | .st t,.agg n f=>if n=t.size then some ((List.range n).map f) else none
 | .array n e,.val (.array iZ a7) x=>if iZ=n/\a7=e then some (nK (.array iZ a7) x) else none
 | .array n e,.agg m f=>if m=n*e.size then some ((List.range m).map f) else none
 | t,av=>if t.eF then (match av with
  | .val cY _=>if cY.eF then some [av] else none
  | .aX _ _ _ | .al _ _ | .om _ _ _ _ | .dW _ _ | .fJ _ _ | .iz _ _ _ | .cv | .sub _ _ _ _=>some [av]
  | .jB (.agg _) | .jB (.tuple _)=>none
  | .jB _=>some [av]
  | _=>none) else none
def aH.mn:aH->Option (IntKind×Int)
 | .val (.int k) x=>some (k,x)
 | _=>none
def aH.tD:aH->Option (List UInt8)
 | .val .str x=>some x
 | _=>none
def za(op:BinOp)(k:IntKind)(a b:Int):Option (Prop×aH):=
 match op with
 | .add=>some (True,.val (.int k) (k.wrap (a+b)))
 | .sub=>some (True,.val (.int k) (k.wrap (a - b)))
 | .mul=>some (True,.val (.int k) (k.wrap (a*b)))
 | .quo=>some (b≠0,.val (.int k) (k.wrap (a.tdiv b)))
 | .rem=>some (b≠0,.val (.int k) (a.tmod b))
 | .and=>some (True,.val (.int k) (lO k a b))
 | .or=>some (True,.val (.int k) (Rq k a b))
 | .xor=>some (True,.val (.int k) (Rr k a b))
 | .andNot=>some (True,.val (.int k) (Rs k a b))
 | .eql=>some (True,.val .bool (decide (a=b)))
 | .neq=>some (True,.val .bool (decide (a≠b)))
 | .lss=>some (True,.val .bool (decide (a<b)))
 | .leq=>some (True,.val .bool (decide (a<=b)))
 | .gtr=>some (True,.val .bool (decide (a > b)))
 | .geq=>some (True,.val .bool (decide (a>=b)))
 | _=>none
def J8(op:BinOp)(k:IntKind)(a b:Int):Option (Prop×aH):=
 match op with
 | .shl=>some (0<=b,.val (.int k) (ac0 k a b))
 | .shr=>some (0<=b,.val (.int k) (jj k a b))
 | _=>none
def B5(op:BinOp)(a b:List UInt8):Option (Prop×aH):=
 match op with
 | .add=>some (bQ (a.length+b.length),.val .str (a++b))
 | .eql=>some (True,.val .bool (decide (a=b)))
 | .neq=>some (True,.val .bool (decide (a≠b)))
 | .lss=>some (True,.val .bool (Op.bytesLess a b))
 | .geq=>some (True,.val .bool (!Op.bytesLess a b))
 | _=>none
def ad.j7:ad->Nat
 | .st t=>t.j7+1
 | .az a b=>max a.j7 b.j7
 | _=>1
def zb(op:BinOp)(t:ad)(x y:aH):ar (Option (Prop×aH)):=
 (match t,x,y with
 | .bI _,.val (.bI _) p,.jB (.pointer none)=>.ret (some p.isNone)
 | .bI _,.dW _ _,.jB (.pointer none)=>.ret (some false)
 | .bI _,.aX b g _,.jB (.pointer none)=>.eS b λz=>.ret (if z.gen=g&&z.body.fK then some false else none)
 | t,x,y=>if t.kQ&&decide (t.j7<=100) then (dC t x).cR λ(a,_)=>(dC t y).cR λ(b,_)=>.ret (some (gL t a b)) else .none:ar (Option Bool)).cR λe=>
 .ret (match op with
  | .eql=>some (True,.val .bool e)
  | .neq=>some (True,.val .bool (!e))
  | _=>none)
def bO(cb c:Prop)(v:aH):ar (Option eC):=.ret (some ⟨cb,c,v,[]⟩)
def Fy(t:ad)(av:aH):ar (Option (Prop×Int)):=
 match t with
 | .slice _=>match av with
  | .val (.slice _) xs=>.ret (some (True,xs.length))
  | .cv=>.ret (some (True,0))
  | .al b g=>.eS b λx=>.ret (if x.gen=g&&x.body.fh then some (True,x.body.len) else none)
  | .sub b g aZ G=>.eS b λx=>.ret (if x.gen=g&&x.body.fh then some (True,((G - aZ:Nat):Int)) else none)
  | _=>.none
 | .str=>match av with
  | .val .str xs=>.ret (some (True,xs.length))
  | _=>.none
 | .map _ _=>match av with
  | .val (.map _ _) xs=>.ret (some (bQ xs.length,xs.length))
  | .fJ b g=>.eS b λx=>.ret (if x.gen=g then (match x.body with | .mp _ _ es=>some (bQ es.length,(es.length:Int)) | .ji _ _ es=>some (bQ es.length,(es.length:Int)) | _=>none) else none)
  | _=>.none
 | _=>.none
def zc(t:ad):aH->ar (Option aH)
 | .dW cY x=>.ret (if cY=t/\(t.eF||t.isAgg)=true then some (.val cY x) else none)
 | .aX b g off=>.eS b λx=>.ret (if x.gen=g then (match x.body with
   | .cells t0 f=>if t.eF then (if off<t0.size then some (f off) else none) else if t.isAgg then (if off+t.size<=t0.size then some (.agg t.size λi=>f (off+i)) else none) else none
   | .gK t0 y=>if t.eF||t.isAgg then (r8 t0 y off t).map (.val t) else none
   | _=>none) else none)
 | .om b g i off=>.eS b λx=>.ret (if x.gen=g then (match x.body with
   | .bj e xs=>if t.eF||t.isAgg then (r8 e (xs.getD i e.df) off t).map (.val t) else none
   | .hD e xs=>if t.eF||t.isAgg then (r8 e (xs.getD i e.df) off t).map (.val t) else none
   | _=>none) else none)
 | _=>.none
def putCells(f:Nat->aH)(off:Nat)(l:List aH):Nat->aH:=λi=>if off<=i/\i<off+l.length then l.getD (i - off) .undef else f i
def Rz(t:ad)(p v:aH):ar (Option (List (Nat×bK))):=
 match p with
 | .aX b g off=>.eS b λx=>.ret (if x.gen=g then (match x.body with
   | .cells t0 f=>(cellsOf t v).bind λl=>if off+l.length<=t0.size/\l.length=t.size then some [(b,⟨x.gen,.cells t0 (putCells f off l)⟩)] else none
   | _=>none) else none)
 | .om b g i off=>(dC t v).cR λ(y,l)=>(jG l).bind λwl=>.eS b λx=>.ret (if x.gen=g/\!l.contains b then (match x.body with
   | .bj e xs=>(w7 e (xs.getD i e.df) off t y).map λz=>wl++[(b,⟨x.gen,.bj e (xs.set i z)⟩)]
   | _=>none) else none)
 | _=>.none
def RA(bH:ad)(x:aH)(i:Int):ar (Option (Prop×aH)):=
 match x with
 | .val (.slice e) xs=>.ret (if e=bH then some (0<=i/\i<(xs.length:Int),.dW e (kP e xs i)) else none)
 | .al b g=>.eS b λz=>.ret (if z.gen=g then (match z.body with
   | .bj e xs=>if e=bH then some (0<=i/\i<(xs.length:Int),.om b g i.toNat 0) else none
   | .hD e xs=>if e=bH then some (0<=i/\i<(xs.length:Int),.dW e (kP e xs i)) else none
   | _=>none) else none)
 | .sub b g aZ G=>.eS b λz=>.ret (if z.gen=g then (match z.body with
   | .bj e _=>if e=bH then some (0<=i/\i<((G - aZ:Nat):Int),.om b g (aZ+i.toNat) 0) else none
   | .hD e xs=>if e=bH then some (0<=i/\i<((G - aZ:Nat):Int),.dW e (kP e xs ((aZ:Int)+i))) else none
   | _=>none) else none)
 | .cv=>.ret (some (False,.dW bH bH.df))
 | _=>.none
def ds:Option Int->Int | some l=>l | none=>0
def fA(n:Nat):Option Int->Int | some h=>h | none=>n
def B6(aZ G:Option Int)(n m:Nat):Nat:=match aZ,G with | some _,some _=>m | _,_=>n
def RB(bH:ad)(x:aH)(aZ G:Option Int):ar (Option (Prop×aH)):=
 match x with
 | .val (.slice e) xs=>.ret (if e=bH then some (0<=ds aZ/\ds aZ<=fA xs.length G/\fA xs.length G<=(xs.length:Int),.val (.slice e) ((xs.take (fA xs.length G).toNat).drop (ds aZ).toNat)) else none)
 | .cv=>.ret (some (0<=ds aZ/\ds aZ<=fA 0 G/\fA 0 G<=0,.cv))
 | .al b g=>.eS b λz=>.ret (if z.gen=g&&z.body.fh&&z.body.e3 == bH.size then some (0<=ds aZ/\ds aZ<=fA z.body.len G/\fA z.body.len G<=(z.body.len:Int),.sub b g (ds aZ).toNat (fA z.body.len G).toNat) else none)
 | .sub b g fi aY=>.eS b λz=>.ret (if z.gen=g&&z.body.fh&&z.body.e3 == bH.size then some (0<=ds aZ/\ds aZ<=fA (aY - fi) G/\fA (aY - fi) G<=((B6 aZ G (aY - fi) (z.body.len - fi):Nat):Int),.sub b g (fi+(ds aZ).toNat) (fi+(fA (aY - fi) G).toNat)) else none)
 | _=>.none
def RC(x:aH)(aZ G:Option Int):Option (Prop×aH):=
 match x with
 | .val .str xs=>some (0<=ds aZ/\ds aZ<=fA xs.length G/\fA xs.length G<=(xs.length:Int),.val .str ((xs.take (fA xs.length G).toNat).drop (ds aZ).toNat))
 | _=>none
def h4(d:Option Nat)(k:Nat->Nat->Option eC):ar (Option eC):=
 match d with
 | none=>.none
 | some d=>.eS d λx=>.ret (k d (x.gen+1))
def J9(d:Option Nat)(e:ad)(x y:aH)(cb:Prop):ar (Option eC):=
 match x with
 | .al b g=>.eS b λz=>match (if z.gen=g then z.body else .fz) with
  | .bj a7 xs=>if h:a7=e then (dC (.slice e) y).cR λ(ys,_)=>.ret (some ⟨cb,bQ (xs.length+ys.length),.al b (g+1),[(b,⟨g+1,.bj e ((h ▸ xs)++ys)⟩)]⟩) else .none
  | _=>.none
 | .sub b g aZ G=>.eS b λz=>match (if z.gen=g then z.body else .fz) with
  | .bj a7 xs=>if h:a7=e then (dC (.slice e) y).cR λ(ys,_)=>.ret (some ⟨cb,bQ (((xs.take G).drop aZ).length+ys.length),.al b (g+2),[(b,⟨g+2,.bj e ((h ▸ (xs.take G).drop aZ)++ys)⟩)]⟩) else .none
  | _=>.none
 | .cv=>(dC (.slice e) y).cR λ(ys,_)=>h4 d λb g=>some ⟨cb,bQ ys.length,.al b g,[(b,⟨g,.bj e ys⟩)]⟩
 | .w3 a7 xs=>if h:a7=e then (dC (.slice e) y).cR λ(ys,_)=>h4 d λb g=>some ⟨cb,0<ys.length/\bQ (xs.length+ys.length),.al b g,[(b,⟨g,.bj e ((h ▸ xs)++ys)⟩)]⟩ else .none
 | _=>.none
def Fz(t:ad):List aH->List (Nat×aH)->Option (List aH)
 | cs,[]=>some cs
 | cs,(i,av)::r=>
  match ml t i with
  | none=>none
  | some (s,off)=>match cellsOf s av with
   | none=>none
   | some l=>if l.length=s.size/\off+s.size<=cs.length then Fz t (cs.take off++(l++cs.drop (off+s.size))) r else none
def tE(e:ad)(ps:List (Nat×aH)):Nat->Nat->ar (Option (List e.ai×List Nat))
 | _,0=>.ret (some ([],[]))
 | i,n+1=>(match ps.find? (λp=>p.1 == i) with
   | some p=>dC e p.2
   | none=>.ret (some (e.df,[])):ar (Option (e.ai×List Nat))).cR λ(x,l)=>(tE e ps (i+1) n).cR λ(xs,m)=>.ret (some (x::xs,l++m))
def r9(ps:List (Nat×aH)):Prop:=ps.foldr (λp q=>match p.2 with | .hC b _=>b=true/\q | _=>q) True
def iC(ps:List (Nat×aH)):List (Nat×aH):=ps.map λp=>(p.1,(use p.2).2)
def jH(ps:List aH):Prop:=ps.foldr (λp q=>match p with | .hC b _=>b=true/\q | _=>q) True
def lg(aJ:Operand->aH):Option Operand->Option (Prop×Option Int)
 | none=>some (True,none)
 | some x=>match use (aJ x) with
  | (o,.val (.int _) n)=>some (o,some n)
  | _=>none
def FA(T:Nat->ad)(aJ:Operand->aH)(ty:TypeId)(x:Operand)(aZ G:Option Operand):ar (Option eC):=
 let (cE,d_):=use (aJ x)
 match lg aJ aZ,lg aJ G with
 | some (ol,l),some (qV,h)=>match T ty with
  | .slice e=>(RB e d_ l h).cR λ(c,v)=>bO (cE/\(ol/\qV)) c v
  | .str=>match RC d_ l h with
   | some (c,v)=>bO (cE/\(ol/\qV)) c v
   | none=>.none
  | _=>.none
 | _,_=>.none
def RD(bH:ad)(x:aH)(aZ G:Option Int)(m:Int):ar (Option (Prop×aH)):=
 match x with
 | .val (.slice e) xs=>.ret (if e=bH then some (0<=ds aZ/\ds aZ<=fA xs.length G/\fA xs.length G=m/\m<=(xs.length:Int),.w3 e ((xs.take m.toNat).drop (ds aZ).toNat)) else none)
 | .cv=>.ret (some (ds aZ=0/\fA 0 G=0/\m=0,.w3 bH []))
 | .al b g=>.eS b λz=>.ret (if z.gen=g&&z.body.fh then some (0<=ds aZ/\ds aZ<=fA z.body.len G/\fA z.body.len G<=m/\m<=(z.body.len:Int),.undef) else none)
 | _=>.none
def FB(T:Nat->ad)(aJ:Operand->aH)(ty:TypeId)(x:Operand)(aZ G o_:Option Operand):ar (Option eC):=
 let (cE,d_):=use (aJ x)
 match lg aJ aZ,lg aJ G,lg aJ o_ with
 | some (ol,l),some (qV,some h),some (vc,some m)=>match T ty with
  | .slice e=>(RD e d_ l (some h) m).cR λ(c,v)=>bO (cE/\(ol/\(qV/\vc))) c v
  | _=>.none
 | _,_,_=>.none
def B7(T:Nat->ad)(aJ:Operand->aH)(args:List Operand)(dp:List TypeId):ar (Option eC):=
 match args,dp with
 | [x],[t]=>let (cE,d_):=use (aJ x);(Fy (T t) d_).cR λ(c,n)=>bO cE c (.val (.int .i64) n)
 | _,_=>.none
def B8(T:Nat->ad)(aJ:Operand->aH)(d:Option Nat)(args:List Operand)(dp:List TypeId):ar (Option eC):=
 match args,dp with
 | [x,y],[t,u]=>match T t,T u with
  | .slice e,.slice _=>let (cE,d_):=use (aJ x);let (nL,kv):=use (aJ y);J9 d e d_ kv (cE/\nL)
  | _,_=>.none
 | _,_=>.none
def mP(aJ:Operand->aH)(k:IntKind):List Operand->Option (Prop×z1')
 | []=>none
 | [x]=>match (use (aJ x)).2.mn with
  | some (k',n)=>if k'=k then some ((use (aJ x)).1,[n]) else none
  | none=>none
 | x::l=>match (use (aJ x)).2.mn,mP aJ k l with
  | some (k',n),some (cb,h5)=>if k'=k then some ((use (aJ x)).1/\cb,n::h5) else none
  | _,_=>none
def r_(aJ:Operand->aH)(f:Int->Int->Int)(args:List Operand):ar (Option eC):=
 match args with
 | x::y::l=>match (use (aJ x)).2.mn with
  | some (k,a)=>match mP aJ k (y::l) with
   | some (cb,h5)=>bO ((use (aJ x)).1/\cb) True (.val (.int k) (h5.foldl f a))
   | none=>.none
  | none=>.none
 | _=>.none
def B9(T:Nat->ad)(aJ:Operand->aH)(args:List Operand)(dp:List TypeId):ar (Option eC):=
 match args,dp with
 | [x],[t]=>match T t,use (aJ x) with
  | .slice _,(cE,.cv)=>bO cE True (.val (.int .i64) 0)
  | _,_=>.none
 | _,_=>.none
def nM(t:ad):Bool:=match t with | .az (.slice _) .cU=>true | _=>false
def B_(t:ad)(y:t.ai):Option ((e:ad)×List e.ai):=match t,y with | .az (.slice e) .cU,y=>some ⟨e,y.1⟩ | _,_=>none
def FC(bg:Nat->Option aL)(aJ:Operand->aH)(d:Option Nat)(k:Nat)(args:List Operand):ar (Option eC):=
 let l:=args.map aJ
 match bg k with
 | some c=>(iY c.ts (l.map λv=>(use v).2)).cR λ(x,bV)=>match B_ c.aW (c.g x) with
  | some y=>(jG bV).bind λwl=>h4 d λb g=>if bV.contains b then none else some ⟨jH l,c.pre x,.al b g,wl++[(b,⟨g,.bj y.1 y.2⟩)]⟩
  | none=>(if c.aW.pure then .ret [] else jG bV:ar (List (Nat×bK))).bind λwl=>.ret (some ⟨jH l,c.pre x,qU c.aW (c.g x),wl⟩)
 | none=>.none
def zd{k v:ad}(es:List (k.ai×v.ai))(x:k.ai):Option v.ai:=(es.find? λp=>gL k x p.1).map (·.2)
def lP{k v:ad}:List (k.ai×v.ai)->k.ai->v.ai->List (k.ai×v.ai)
 | [],x,y=>[(x,y)]
 | p::es,x,y=>if gL k x p.1=true then (p.1,y)::es else p::lP es x y
def tF(k:ad):Bool:=k.kQ&&decide (k.j7<=100)
def B'(k v:ad)(m:aH):ar (Option (List (k.ai×v.ai))):=
 match m with
 | .val t es=>.ret (eT t (.map k v) es)
 | .jB (.map none)=>.ret (some [])
 | .fJ b g=>.eS b λx=>.ret (if x.gen=g then (match x.body with
   | .mp k' h3 es=>eT (.map k' h3) (.map k v) es
   | .ji k' h3 es=>eT (.map k' h3) (.map k v) es
   | _=>none) else none)
 | _=>.none
def RE(v:ad)(r:Option v.ai)(ok:Bool):aH:=
 match ok with
 | true=>.p2 2 (hh [.val v (r.getD v.df),.val .bool r.isSome])
 | false=>.val v (r.getD v.df)
def ze(T:Nat->ad)(aJ:Operand->aH)(ty:TypeId)(m x:Operand)(ok:Bool):ar (Option eC):=
 match T ty with
 | .map k v=>let (vc,J_):=use (aJ m);let (cE,d_):=use (aJ x);if tF k&&(v.eF||v.isAgg) then
   (B' k v J_).cR λes=>(dC k d_).cR λ(y,_)=>
    bO (vc/\cE) True (RE v (zd es y) ok)
  else .none
 | _=>.none
def qW(T:Nat->ad)(aJ:Operand->aH)(ty:TypeId)(m x y:Operand):ar (Option eC):=
 match T ty with
 | .map k v=>let (vc,J_):=use (aJ m);let (cE,d_):=use (aJ x);let (nL,kv):=use (aJ y);if tF k then
   match J_ with
   | .fJ b g=>(dC k d_).cR λ(x,oq)=>(dC v kv).cR λ(y,ot)=>(jG (oq++ot)).bind λwl=>.eS b λz=>.ret (if z.gen=g/\!(oq++ot).contains b then (match z.body with
     | .mp k' h3 es=>(eT (.map k' h3) (.map k v) es).map λes=>⟨vc/\cE/\nL,True,.undef,wl++[(b,⟨z.gen,.mp k v (lP es x y)⟩)]⟩
     | _=>none) else none)
   | _=>.none
  else .none
 | _=>.none
def FD(T:Nat->ad)(aJ:Operand->aH)(d:Option Nat)(ty:TypeId)(l c:Operand):ar (Option eC):=
 match T ty with
 | .slice e=>let (ol,ac5):=use (aJ l);let (p7,ac6):=use (aJ c);match ac5.mn,ac6.mn with
  | some (.i64,n),some (.i64,m)=>h4 d λb g=>some ⟨ol/\p7,0<=n/\n=m/\bQ n.toNat,.al b g,[(b,⟨g,.bj e (List.replicate n.toNat e.df)⟩)]⟩
  | _,_=>.none
 | _=>.none
def gm{ak:Type}(xs:List ak)(aZ:Nat)(ys:List ak):List ak:=xs.take aZ++ys++xs.drop (aZ+ys.length)
def FE(T:Nat->ad)(aJ:Operand->aH)(args:List Operand)(dp:List TypeId):ar (Option eC):=
 match args,dp with
 | [x,y],[t,u]=>match T t,T u with
  | .slice e,.slice _=>let (cE,d_):=use (aJ x);let (nL,kv):=use (aJ y);match (match d_ with | .al b g=>some (b,g,0,none) | .sub b g aZ G=>some (b,g,aZ,some G) | _=>none:Option (Nat×Nat×Nat×Option Nat)) with
   | some (b,g,aZ,G)=>(dC (.slice e) kv).cR λ(ys,_)=>.eS b λz=>.ret (if z.gen=g then (match z.body with
     | .bj a7 xs=>if h:a7=e then some ⟨cE/\nL,True,.val (.int .i64) ((min (G.getD xs.length - aZ) ys.length:Nat):Int),[(b,⟨z.gen,.bj e (gm (h ▸ xs) aZ (ys.take (G.getD xs.length - aZ)))⟩)]⟩ else none
     | _=>none) else none)
   | none=>.none
  | _,_=>.none
 | _,_=>.none
def w9(aJ:Operand->aH)(args:List Operand):Option (Nat×Nat×Nat×Nat):=
 match args with
 | [x,y]=>match (use (aJ x)).2,(use (aJ y)).2 with
  | .sub b g aZ G,.sub bf g' _ _=>if bf=b/\g'=g then some (b,g,aZ,G) else none
  | _,_=>none
 | _=>none
def Ca(T:Nat->ad)(aJ:Operand->aH)(args:List Operand)(dp:List TypeId)(b g aZ G:Nat):ar (Option eC):=
 match args,dp with
 | [x,y],[t,u]=>match T t,T u with
  | .slice e,.slice _=>let (cE,_):=use (aJ x);let (nL,kv):=use (aJ y);(dC (.slice e) kv).cR λ(ys,_)=>.eS b λz=>.ret (if z.gen=g then (match z.body with
    | .bj a7 xs=>if h:a7=e then some ⟨cE/\nL,G+ys.length<=xs.length,.sub b g aZ (G+ys.length),[(b,⟨z.gen,.bj e (gm (h ▸ xs) G ys)⟩)]⟩ else none
    | _=>none) else none)
  | _,_=>.none
 | _,_=>.none
def Cb(T:Nat->ad)(aJ:Operand->aH)(args:List Operand)(dp:List TypeId):ar (Option eC):=
 match args,dp with
 | [x],[t]=>match T t with
  | .slice e=>let (cE,d_):=use (aJ x);match d_ with
   | .sub b g aZ G=>.eS b λz=>.ret (if z.gen=g then (match z.body with
     | .bj a7 xs=>if h:a7=e then some ⟨cE,True,.undef,[(b,⟨z.gen,.bj e (gm (h ▸ xs) aZ (List.replicate (G - aZ) e.df))⟩)]⟩ else none
     | _=>none) else none)
   | _=>.none
  | _=>.none
 | _,_=>.none
def mQ(T:Nat->ad)(bg:Nat->Option aL)(aJ:Operand->aH)(d:Option Nat)(c:Call):ar (Option eC):=
 match c.callee with
 | .builtin b=>match b with
  | .len=>B7 T aJ c.args.toList c.argTypes.toList
  | .append=>match w9 aJ c.args.toList with
   | some (b,g,aZ,G)=>Ca T aJ c.args.toList c.argTypes.toList b g aZ G
   | none=>B8 T aJ d c.args.toList c.argTypes.toList
  | .clear=>Cb T aJ c.args.toList c.argTypes.toList
  | .copy=>FE T aJ c.args.toList c.argTypes.toList
  | .min=>r_ aJ (λa b=>if b<a then b else a) c.args.toList
  | .max=>r_ aJ (λa b=>if b > a then b else a) c.args.toList
  | .cap=>B9 T aJ c.args.toList c.argTypes.toList
  | _=>.none
 | .value f=>match f with
  | .func k=>FC bg aJ d k c.args.toList
  | _=>.none
 | _=>.none
def vd(ys:z1'):List UInt8:=ys.map λn=>UInt8.ofNat n.toNat
def RF(t:ad)(cb:Prop)(b g i:Nat):ar (Option eC):=
 .eS b λz=>.ret (match z.body with
  | .gp _ _ lh v=>if z.gen=g/\t.eF=true then some ⟨cb,i=lh,v,[]⟩ else none
  | _=>none)
def J'(t:ad)(cb:Prop)(b g i:Nat)(v:aH):ar (Option eC):=
 match v with
 | .al bf g'=>.eS b λz=>.ret (match z.body with
  | .gp e xs lh _=>if z.gen=g/\t.eF=true then some ⟨cb,i=lh,.undef,[(b,⟨z.gen,.gp e xs lh (.al bf g')⟩)]⟩ else none
  | _=>none)
 | _=>.none
def bx(aP:dG)(T:Nat->ad)(bg:Nat->Option aL)(aJ:Operand->aH)(o:Oper):ar (Option eC):=
 match o.op with
 | .move x=>bO True True (aJ x)
 | .assign x=>match aJ x,T o.type with
  | .cv,.slice e=>h4 o.dst λb g=>some ⟨True,True,.al b g,[(b,⟨g,.bj e []⟩)]⟩
  | v,_=>bO True True v
 | .pick c a b=>match use (aJ c) with
  | (p7,.val .bool i_)=>match a,b with
   | _,.const (.bool false)=>match use (aJ a) with
    | (zf,.val .bool av)=>bO (p7/\(i_=true->zf)) True (.val .bool (i_&&av))
    | _=>.none
   | .const (.bool true),_=>match use (aJ b) with
    | (cb,.val .bool bv)=>bO (p7/\(i_=false->cb)) True (.val .bool (i_||bv))
    | _=>.none
   | _,_=>.none
  | _=>.none
 | .binOp op ty x y _=>
  let (cE,d_):=use (aJ x)
  let (nL,kv):=use (aJ y)
  match d_.mn,kv.mn with
  | some (k,a),some (k',b)=>(match op with
   | .shl | .shr=>match J8 op k a b with
    | some (c,v)=>bO (cE/\nL) c v
    | none=>.none
   | _=>if k=k' then (match za op k a b with
    | some (c,v)=>bO (cE/\nL) c v
    | none=>.none) else .none)
  | _,_=>match d_.tD,kv.tD with
   | some a,some b=>match B5 op a b with
    | some (c,v)=>bO (cE/\nL) c v
    | none=>.none
   | _,_=>(zb op (T ty) d_ kv).cR λ(c,v)=>bO (cE/\nL) c v
 | .unOp op _ x=>match op,use (aJ x) with
  | .not,(cE,.val .bool b)=>bO cE True (.val .bool (!b))
  | .neg,(cE,.val (.int k) n)=>bO cE True (.val (.int k) (k.wrap (0 - n)))
  | _,_=>.none
 | .extract x i=>match use (aJ x) with
  | (cE,.p2 n f)=>if i<n then bO cE True (f i) else .none
  | _=>.none
 | .nilCheck x=>match use (aJ x) with
  | (cE,.iW b g i)=>.eS b λz=>.ret (if z.gen=g&&z.body.fh then some ⟨cE,True,.iW b g i,[]⟩ else none)
  | (cE,.dW t d)=>bO cE True (.dW t d)
  | (cE,.val (.bI e) p)=>bO cE (p.isSome=true) (.dW e (p.getD e.df))
  | (cE,.aX b g off)=>.eS b λz=>.ret (if z.gen=g&&z.body.fK then some ⟨cE,True,.aX b g off,[]⟩ else none)
  | _=>.none
 | .fieldAddr ty x f=>match T ty with
  | .st t=>match ml t f with
   | some (_,w_)=>match use (aJ x) with
    | (cE,.aX b g off)=>.eS b λz=>.ret (if z.gen=g&&z.body.fK then some ⟨cE,True,.aX b g (off+w_),[]⟩ else none)
    | (cE,.om b g i off)=>.eS b λz=>.ret (if z.gen=g&&z.body.fh then some ⟨cE,True,.om b g i (off+w_),[]⟩ else none)
    | (cE,.iW b g i)=>.eS b λz=>.ret (if z.gen=g&&z.body.fh&&w_ == 0 then some ⟨cE,True,.iW b g i,[]⟩ else none)
    | (cE,.dW (.st cY) d)=>if cY=t then (match u_ cY d f with
     | some ⟨s',y⟩=>bO cE True (.dW s' y)
     | none=>.none) else .none
    | _=>.none
   | none=>.none
  | _=>.none
 | .field ty x f=>match T ty with
  | .st t=>match use (aJ x) with
   | (cE,.val (.st cY) d)=>if cY=t then (match u_ cY d f with
     | some ⟨s',y⟩=>bO cE True (.val s' y)
     | none=>.none) else .none
   | _=>.none
  | _=>.none
 | .load ty x=>match use (aJ x) with
  | (cE,.iW b g i)=>RF (T ty) cE b g i
  | (cE,d_)=>(zc (T ty) d_).cR λv=>bO cE True v
 | .store ty x y=>let (nL,kv):=use (aJ y);match use (aJ x) with
  | (cE,.iW b g i)=>J' (T ty) (cE/\nL) b g i kv
  | (cE,d_)=>(Rz (T ty) d_ kv).cR λwl=>.ret (some ⟨cE/\nL,True,.undef,wl⟩)
 | .alloc ty=>h4 o.dst λb g=>if T ty=.cU then none else some ⟨True,True,.aX b g 0,[(b,⟨g,.cells (T ty) (hh (r7 (T ty)))⟩)]⟩
 | .box ty x=>let (cE,d_):=use (aJ x);match cellsOf (T ty) d_ with
  | some l=>h4 o.dst λb g=>if l.length=(T ty).size then some ⟨cE,True,.aX b g 0,[(b,⟨g,.cells (T ty) (hh l)⟩)]⟩ else none
  | none=>.none
 | .build ty ps=>let l:=ps.toList.map λp=>(p.1,aJ p.2);match T ty with
  | .st t=>match Fz t (r7 t) (iC l) with
   | some cs=>bO (r9 l) True (.agg cs.length (hh cs))
   | none=>.none
  | .array m e=>(tE e (iC l) 0 m).cR λ(xs,bV)=>if (bV.isEmpty&&decide ((iC l).map (·.1)).Nodup&&(iC l).all (λp=>decide (p.1<m)))=true then bO (r9 l) True (.val (.array m e) xs) else .none
  | _=>.none
 | .buildSlice ty n ps=>let l:=ps.toList.map λp=>(p.1,aJ p.2);match T ty with
  | .slice e=>(tE e (iC l) 0 n).cR λ(xs,bV)=>(jG bV).bind λwl=>h4 o.dst λb g=>if n*e.size<=65536/\(!bV.contains b&&decide ((iC l).map (·.1)).Nodup&&(iC l).all (λp=>decide (p.1<n)))=true then some ⟨r9 l,True,.al b g,wl++[(b,⟨g,.bj e xs⟩)]⟩ else none
  | _=>.none
 | .indexAddr ty x i=>let (cE,d_):=use (aJ x);let (xa,Ka):=use (aJ i);match T ty,Ka.mn with
  | .slice e,some (_,n)=>(RA e d_ n).cR λ(c,v)=>bO (cE/\xa) c v
  | .array m e,some (_,n)=>match d_ with
   | .dW (.array dy a7) xs=>if dy=m/\a7=e then bO (cE/\xa) (0<=n/\n<(m:Int)) (.dW a7 (kP a7 xs n)) else .none
   | .aX b g off=>.eS b λz=>.ret (if z.gen=g&&z.body.fK then some ⟨cE/\xa,0<=n/\n<(m:Int),.aX b g (off+n.toNat*e.size),[]⟩ else none)
   | _=>.none
  | _,_=>.none
 | .index ty x i=>let (cE,d_):=use (aJ x);let (xa,Ka):=use (aJ i);match T ty,d_.tD,Ka.mn with
  | .str,some s,some (_,n)=>bO (cE/\xa) (0<=n/\n<(s.length:Int)) (.val (.int .u8) ((s.getD n.toNat 0).toNat:Int))
  | .array m e,_,some (_,n)=>match d_ with
   | .val (.array dy a7) xs=>if dy=m/\a7=e then bO (cE/\xa) (0<=n/\n<(m:Int)) (.val a7 (kP a7 xs n)) else .none
   | .agg k f=>if k=m*e.size then bO (cE/\xa) (0<=n/\n<(m:Int)) (if e.isAgg=true then .agg e.size (λq=>f (n.toNat*e.size+q)) else f (n.toNat*e.size)) else .none
   | _=>.none
  | _,_,_=>.none
 | .convert a b x=>let (cE,d_):=use (aJ x);match T a,T b,d_.mn with
  | .int _,.int k,some (_,n)=>bO cE True (.val (.int k) (k.wrap n))
  | .slice (.int .u8),.str,_=>(dC (.slice (.int .u8)) d_).cR λ(ys,_)=>bO cE True (.val .str (vd ys))
  | _,_,_=>.none
 | .makeFunc fn first c1=>match fn with
  | .func k=>let l:=c1.toList.map aJ;if first.isEmpty then (match aP.tA k with
   | some v=>(iY (gn (v.cs.map .bI)) (l.map λv=>(use v).2)).cR λ(y,bV)=>(jG bV).bind λwl=>.ret (some ⟨jH l,True,.val (.fn (gn v.as) v.aW) (λx=>v.sh (Ft v.as (v.cs.map .bI) x y)),wl⟩)
   | none=>match aP.w2 k with
    | some v=>(iY (gn (v.cs.map .bI)) (l.map λv=>(use v).2)).cR λ(y,bV)=>(jG bV).bind λwl=>.ret (some ⟨jH l,True,.val (.ct v.aM) (v.S y),wl⟩)
    | none=>bO (jH l) True (.iz k l.length (hh (l.map λv=>(use v).2)))) else (if c1.isEmpty then bO (jH (first.toList.map aJ)) True (.r6 k first.size (hh ((first.toList.map aJ).map λv=>(use v).2))) else .none)
  | _=>.none
 | .makeMap ty r=>if r.isSome then .none else match T ty with
  | .map k v=>h4 o.dst λb g=>some ⟨True,True,.fJ b g,[(b,⟨g,.mp k v []⟩)]⟩
  | _=>.none
 | .lookup ty m x ok=>ze T aJ ty m x ok
 | .mapUpdate ty m x y=>qW T aJ ty m x y
 | .insert ty m x y=>qW T aJ ty m x y
 | .makeSlice ty l c=>FD T aJ o.dst ty l c
 | .makeInterface _ _=>bO True False .undef
 | .panic _=>bO True False .undef
 | .slice ty x aZ G o_=>if o_.isSome then FB T aJ ty x aZ G o_ else FA T aJ ty x aZ G
 | .call c=>mQ T bg aJ o.dst c
 | _=>.none
def dT(r:Option Nat):Fence:={ Fence.wide with round:=r }
section
variable {P:Program} {w:World}
theorem dD{t:TypeId}{d:TypeDesc}(h:P.underlying t=some d):(underlying t).run P w=.ok d w:=by simp[underlying,h]
theorem FF{t:TypeId}{i:TypeInfo}(h:P.info? t=some i):(typeInfo t).run P w=.ok i w:=by simp[typeInfo,h]
theorem r'{t:TypeId}{i:TypeInfo}(h:P.info? t=some i):(sizeOf t).run P w=.ok i.size w:=by simp[sizeOf,FF h]
theorem qX{t:TypeId}{i:TypeInfo}{z:Value}(h:P.info? t=some i)(bl:i.zero=some z):(zeroValue t).run P w=.ok z w:=by simp[zeroValue,FF h,bl]
theorem b_.size{t:ad}{id:TypeId}(h:b_ P t id):(sizeOf id).run P w=.ok t.size w:=by
 obtain⟨i,z,E,U,_⟩:=kt h.ks;rw[r' E,U]
theorem b_.st{t:ad}{id:TypeId}(h:b_ P (.st t) id):∃ eU,P.underlying id=some (.struct eU):=by
 unfold b_ at h;simp only[cH,Bool.and_eq_true]at h;grind
theorem b_.sl{e:ad}{id:TypeId}(h:b_ P (.slice e) id):∃ i,P.underlying id=some (.slice i)/\b_ P e i/\e.size≠0:=by
 unfold b_ at h;simp only[cH,Bool.and_eq_true]at h;obtain⟨_,h⟩:=h;split at h
 ·rename_i i G;simp only[Bool.and_eq_true,bne_iff_ne,ne_eq]at h;exact⟨i,G,h.1,h.2⟩
 grind
theorem ac7:∀ (t:ad) {l:List Field} {FG f off:Nat} {s:ad},cH P t (.inr (l,FG))=true->ml t f=some (s,off)->
  ∃ nN,l[f]?=some nN/\nN.offset=FG+off/\b_ P s nN.type/\s.size≠0:=by
 intro t;induction t with
 | az a b fy eK=>
  intro l FG f off s h aq;match l,h with
  | [],h=>simp only[cH,Bool.false_eq_true]at h
  | [x],h=>simp only[cH,Bool.false_eq_true]at h
  | [x,y],h=>
   simp only[cH,Bool.and_eq_true,beq_iff_eq,bne_iff_ne,ne_eq]at h;obtain⟨⟨⟨⟨E,U⟩,ag⟩,_⟩,⟨⟨a6,bM⟩,dn⟩,_⟩:=h;cases f with
   | zero=>simp only[ml,Option.some.injEq,Prod.mk.injEq]at aq;obtain⟨rfl,rfl⟩:=aq;exact⟨x,rfl,E,U,ag⟩
   | succ f=>
    simp only[ml,Option.map_eq_some_iff,Prod.mk.injEq]at aq;obtain⟨⟨s',hS⟩,aq,rfl,rfl⟩:=aq;have W:∃ u,ml b f=some u/\f=0/\u=(b,0):=by
     cases b<;>cases f<;>simp only[ml,reduceCtorEq]at aq<;>first
      | exact⟨_,aq,rfl,by cases aq;rfl⟩
      | (simp only[cH,Bool.false_eq_true]at bM)
    obtain⟨u,hu,rfl,rfl⟩:=W;rw[hu]at aq;cases aq;exact⟨y,rfl,by omega,bM,dn⟩
  | x::y::z::l,h=>
   simp only[cH,Bool.and_eq_true,beq_iff_eq,bne_iff_ne,ne_eq]at h;obtain⟨⟨⟨⟨E,U⟩,ag⟩,_⟩,a6⟩:=h;cases f with
   | zero=>simp only[ml,Option.some.injEq,Prod.mk.injEq]at aq;obtain⟨rfl,rfl⟩:=aq;exact⟨x,rfl,E,U,ag⟩
   | succ f=>
    simp only[ml,Option.map_eq_some_iff,Prod.mk.injEq]at aq;grind
 | _=>intro l FG f off s h _;simp only[cH,Bool.false_eq_true]at h
theorem b_.field{t s:ad}{id f off:Nat}(h:b_ P (.st t) id)(aq:ml t f=some (s,off)) :
  ∃ eU nN,P.underlying id=some (.struct eU)/\eU[f]?=some nN/\nN.offset=off/\b_ P s nN.type/\s.size≠0:=by
 unfold b_ at h;simp only[cH,Bool.and_eq_true]at h;obtain⟨_,h⟩:=h;split at h
 ·rename_i eU jk;refine⟨eU,?_⟩;have eV:∀ {nN},eU.toList[f]?=some nN->eU[f]?=some nN:=λh=>by grind
  split at h
  ·rename_i aj;rw[of_decide_eq_true h]at aq;cases f<;>cases aq
  ·rename_i x aj;simp only[Bool.and_eq_true,beq_iff_eq,bne_iff_ne,ne_eq]at h;have W:f=0/\(s,off)=(t,0):=by
    cases t<;>cases f<;>simp only[ml,reduceCtorEq]at aq<;>first
     | exact⟨rfl,by cases aq;rfl⟩
     | (have:=h.1.1.2;simp only[cH,Bool.false_eq_true]at this)
   obtain⟨rfl,W⟩:=W;cases W;exact⟨x,jk,eV (by grind),h.1.1.1,h.1.1.2,h.1.2⟩
  ·obtain⟨nN,aQ,aS,bP⟩:=ac7 t h aq;grind
 grind
def kx(w:World)(p:Addr)(cs:List Value):Prop:=(0<cs.length->p.spot=none)/\∀ j (h:j<cs.length),w.cell? ⟨p.block,p.off+j,none⟩=some cs[j]
theorem Holds.Kb{F:Nat->Prop}{p:Addr}{cs:List Value}(h:Holds F w p cs):kx w p cs:=⟨λ_=>h.2.1,h.2.2⟩
theorem FH{p:Addr}{cs:List Value}(h:kx w p cs):(loadCells p cs.length).run P w=.ok cs.toArray w:=by
 obtain⟨aE,hc⟩:=h;refine run_loadCells_list w p cs λj v aF=>?_;obtain⟨fW,rfl⟩:=List.getElem?_eq_some_iff.1 aF;have ao:p=⟨p.block,p.off,none⟩:=by have:=aE (by omega);cases p;simp_all
 have:=hc j fW;have zg:p.add j=⟨p.block,p.off+j,none⟩:=by
  unfold Addr.add;grind
 grind
theorem zh{t:ad}{id:TypeId}(h:b_ P t id):(isAgg id).run P w=.ok t.isAgg w:=by
 unfold b_ at h;unfold isAgg;cases t<;>simp only[cH,Bool.and_eq_true,Bool.false_eq_true]at h<;>(obtain⟨_,h⟩:=h;split at h)<;>
  first
   | (rename_i hu;simp[dD hu,ad.isAgg];done)
   | (cases h;done)
   | (rename_i hu;simp[dD hu,ad.isAgg])
theorem Kc{F:Nat->Prop}{p:Addr}{cs:List Value}{t:ad}{id:TypeId}{x:t.ai}(h:b_ P t id)(cW:kx w p cs)(ah:bJ P t F w cs x) :
  ∃ v,(loadVar id p).run P w=.ok v w/\ev P t F w v x:=by
 have hlen:=hP t ah;by_cases bb:t.isAgg=true
 ·refine⟨.agg cs.toArray,?_,?_,by simpa [Value.cells]using ah⟩
  ·have:=FH (P:=P) cW;rw[hlen]at this;simp[loadVar,zh h,bb,h.size,this]
  ·cases t<;>simp only[ad.isAgg,Bool.false_eq_true]at bb
   ·exact⟨cs.toArray,rfl,by simpa [ad.size]using hlen⟩
   ·exact⟨cs.toArray,rfl,by simpa [ad.size]using hlen⟩
 ·have aj:t.eF=true:=by
   cases t<;>simp only[ad.isAgg,not_true]at bb<;>first | rfl | (unfold b_ at h;simp only[cH,Bool.false_eq_true]at h)
  obtain⟨u,rfl,hu⟩:=BX aj ah;refine⟨u,?_,(dV aj).2 ⟨hu,ah⟩⟩;have hc:=cW.2 0 (by simp);have ao:p=⟨p.block,p.off+0,none⟩:=by have:=cW.1 (by simp);cases p;simp_all
  rw[<-ao]at hc;simp[loadVar,zh h,bb,hc]
end
section
variable {r:Option Nat} {P:Program} {o:Oper} {a:Act} {w w':World} {K:Act->World->Prop} {Q:Exit->Act->World->Prop}
theorem zi(aw:∀ c,o.op≠.defer c):o.semAt (dT r).round a.eval=execOp a.eval o:=Oper.semAt_eq _ _ _ aw
theorem hv{v:Value}(aw:∀ c,o.op≠.defer c)(h:(execOp a.eval o).run P w=.ok (.value v) w')(an:K (a.put o.dst v) w'):o.wpIn (dT r) 0 P a w K Q:=by
 refine⟨λ_ _=>trivial,?_⟩;rw[zi aw,h];exact an
theorem FI(aw:∀ c,o.op≠.defer c)(h:(execOp a.eval o).run P w=.ok .skip w')(an:K (a.put o.dst Go.undef) w'):o.wpIn (dT r) 0 P a w K Q:=by
 refine⟨λ_ _=>trivial,?_⟩;rw[zi aw,h];exact an
end
def aA.gi(s:aA):List (Nat×bK)->aA
 | []=>s
 | p::l=>(s.cz p.1 p.2).gi l
def aA.h6(s:aA)(d:Option Nat)(res:eC):aA:=(s.gi res.hE).set d res.e_
def cK(C:b')(o:Oper)(s:aA)(res:eC):Prop:=
 ∀ a w κ F Q,bm C s a w κ F->res.cb->res.c->o.wpIn (dT C.r) 0 C.P a w (λa' w'=>cu C (s.h6 o.dst res) a' w') Q
theorem cK.pure{C:b'}{o:Oper}{s:aA}{cb c:Prop}{e_:aH}(aw:∀ c,o.op≠.defer c)(bh:∀ i,o.dst=some i->i<C.nt)
  (h:∀ a w κ F,bm C s a w κ F->cb->c->∃ v,(execOp a.eval o).run C.P w=.ok (.value v) w/\bC C.P s.aa κ F w e_ v):cK C o s ⟨cb,c,e_,[]⟩:=by
 intro a w κ F Q M be hc;obtain⟨v,E,U⟩:=h a w κ F M be hc;exact hv aw E ⟨κ,F,M.set bh U⟩
section
variable {P:Program} {H:Nat->bK} {κ:Nat->bD} {F:Nat->Prop} {w:World}
theorem o'{av:aH}{v:Value}(h:bC P H κ F w av v)(hu:(use av).1):bC P H κ F w (use av).2 v:=by
 cases av<;>first | exact h | exact h.1 hu
theorem ac8(v:Value):bC P H κ F w (w8 v) v:=by
 unfold w8;split
 ·exact fg.2 rfl
 ·split
  ·rename_i h;exact gV.2 ⟨rfl,h⟩
  ·rfl
 ·split
  ·rename_i s h;refine mh.2 ⟨by simp,?_⟩;have:s.data.toList.length=s.size:=by rfl
   omega
  ·rfl
 ·rfl
 ·rfl
theorem j8{C:b'}{s:aA}{a:Act}{w:World}{κ:Nat->bD}{F:Nat->Prop}(h:bm C s a w κ F)(x:Operand):bC C.P s.aa κ F w (a8 C.aN s.ay x) (a.eval x):=by
 cases x with
 | tmp t=>exact h.bU t
 | const v=>exact ac8 v
 | func f=>
  show bC _ _ _ _ _ (match C.aN.tz f with | some v=>.val (.fn v.ts v.aW) v.sh | none=>.iz f 0 λ_=>.undef) (.func (.func f) #[] #[]);split
  ·rename_i v ae;exact (dV rfl).2 ⟨rfl,acT (h.jE.tz f v ae) F w⟩
  ·exact⟨[],rfl,rfl,λi G=>by omega⟩
 | global g=>trivial
theorem ou{av:aH}{v:Value}{k:IntKind}{n:Int}(h:bC P H κ F w av v)(G:av.mn=some (k,n)):v=.int k n/\fV k n:=by
 unfold aH.mn at G;split at G
 ·cases G;exact gV.1 h
 grind
theorem Kd{av:aH}{v:Value}{s:List UInt8}(h:bC P H κ F w av v)(G:av.tD=some s):v=.string ⟨s.toArray⟩/\s.length<2 ^ 63:=by
 unfold aH.tD at G;split at G
 ·cases G;exact mh.1 h
 grind
end
theorem p8(k:IntKind)(n:Int):fV k (k.wrap n):=by
 unfold fV IntKind.wrap;have E:=Int.emod_nonneg n (b:=2 ^ k.bits) (by cases k<;>decide);have U:=Int.emod_lt_of_pos n (b:=2 ^ k.bits) (by omega);cases k<;>simp only[IntKind.min,IntKind.max,IntKind.signed,IntKind.bits,Bool.true_and,Bool.false_and,Bool.false_eq_true,if_true,if_false,Nat.reduceSub,Int.reducePow]at E U ⊢<;>first
  | (constructor<;>split<;>first | (rename_i hc;have hc:=of_decide_eq_true hc;omega) | (rename_i hc;have hc:=mt decide_eq_true hc;omega))
  | omega
theorem ac9{k:IntKind}{a b:Int}(bb:fV k a):fV k (a.tmod b):=by
 unfold fV at *
 have E:k.min<=0/\0<=k.max:=by cases k<;>decide
 have U:=Int.natAbs_tmod a b;have ag:=Nat.mod_le a.natAbs b.natAbs;rcases Int.le_total 0 a with h | h
 ·have:=Int.tmod_nonneg b h;omega
 ·have a6:(-a).tmod b=- (a.tmod b):=Int.neg_tmod a b;have:=Int.tmod_nonneg b (a:=-a) (by omega);omega
end Go.Fer
namespace Go.Fer
open Go.RowKit
theorem RG{P:Program}{w:World}{t:ad}{id:TypeId}(h:b_ P t id)(aj:t.isAgg=false){cs:Array Value}{off:Nat}{v:Value}(ae:cs[off]?=some v) :
  (part id cs off).run P w=.ok v w:=by
 simp[part,zh h,aj,ae]
theorem RH{P:Program}{w:World}{t:ad}{id:TypeId}(h:b_ P t id)(aj:t.isAgg=true){cs:Array Value}{off:Nat} :
  (part id cs off).run P w=.ok (.agg (cs.extract off (off+t.size))) w:=by
 simp[part,zh h,aj,h.size]
theorem qY{P:Program}{F:Nat->Prop}{w:World}{t:ad}{id:TypeId}(h:b_ P t id){p c q:List Value}{cs:Array Value}{x:t.ai}(pa:cs.toList=p++(c++q))(hc:bJ P t F w c x) :
  ∃ v,(part id cs p.length).run P w=.ok v w/\ev P t F w v x:=by
 have hlen:=hP t hc;by_cases bb:t.isAgg=true
 ·refine⟨_,RH h bb,?_⟩;have he:(cs.extract p.length (p.length+t.size)).toList=c:=by
   simp_all
  have ae:(Value.agg (cs.extract p.length (p.length+t.size))).cells.toList=c:=he;refine⟨?_,by grind⟩;have cf:(cs.extract p.length (p.length+t.size)).size=t.size:=by grind
  cases t<;>simp only[ad.isAgg,Bool.false_eq_true]at bb
  ·exact⟨_,rfl,by simpa [ad.size]using cf⟩
  ·exact⟨_,rfl,by simpa [ad.size]using cf⟩
 ·have aj:t.eF=true:=by
   cases t<;>simp only[ad.isAgg,not_true]at bb<;>first | rfl | (unfold b_ at h;simp only[cH,Bool.false_eq_true]at h)
  obtain⟨u,rfl,hu⟩:=BX aj hc;refine⟨u,RG h (by grind) ?_,(dV aj).2 ⟨hu,hc⟩⟩;rw[<-Array.getElem?_toList,pa];simp
theorem b_.Cc{P:Program}{t:ad}{id:TypeId}(h:b_ P (.st t) id):P.stoodInHeld id=false/\P.eqGuardType P.depth id=false/\
  (cH P t (.inr ((P.fieldsOf id).toList, 0)) = true \/ (∃ f, (P.fieldsOf id).toList = [f] /\ f.offset = 0 /\ b_ P t f.type /\ f.name ≠ "_") \/ (t = .cU /\ (P.fieldsOf id).toList = [])) /\ P.underlying id = some (.struct (P.fieldsOf id)) := by
 unfold b_ at h;simp only[cH,Bool.and_eq_true,Bool.not_eq_true']at h;obtain⟨⟨⟨_,E⟩,U⟩,h⟩:=h;split at h
 ·rename_i eU jk;have aq:P.fieldsOf id=eU:=by simp[Program.fieldsOf,jk]
  rw[aq];refine⟨E,U,?_,jk⟩;split at h
  ·grind
  ·rename_i x aj;simp only[Bool.and_eq_true,beq_iff_eq,bne_iff_ne,ne_eq]at h;exact .inr (.inl ⟨x,aj,h.1.1.1,h.1.1.2,h.2⟩)
  grind
 grind
theorem Ke{P:Program}{F:Nat->Prop}{w:World}:∀ (t:ad) (d:Nat),t.kQ=true->t.j7<=d->
  (∀ {id:TypeId} {v u:Value} {x y:t.ai},b_ P t id->ev P t F w v x->ev P t F w u y->(Op.equalIn d id v u).run P w=.ok (gL t x y) w)/\
  (∀ {l:List Field} {off:Nat} {xs ys:Array Value} {p c q p' c' q':List Value} {x y:t.ai},cH P t (.inr (l,off))=true->xs.toList=p++(c++q)->p.length=off->bJ P t F w c x->
   ys.toList=p'++(c'++q')->p'.length=off->bJ P t F w c' y->(Op.eqFields d xs ys l).run P w=.ok (gL t x y) w):=by
 intro t;induction t with
 | bool=>
  intro d _ aw;refine⟨λ{id v u x y} h E U=>?_,λh=>by simp[cH]at h⟩;rw[fg.1 E,fg.1 U];obtain⟨d,rfl⟩:∃ e,d=e+1:=⟨d - 1,by simp only[ad.j7]at aw;omega⟩
  unfold b_ at h;simp only[cH,Bool.and_eq_true]at h;obtain⟨_,h⟩:=h;split at h
  ·rename_i hu;rw[run_equalIn_bool' w d id x y hu];rfl
  grind
 | int k=>
  intro d _ aw;refine⟨λ{id v u x y} h E U=>?_,λh=>by simp[cH]at h⟩;rw[(gV.1 E).1,(gV.1 U).1];obtain⟨d,rfl⟩:∃ e,d=e+1:=⟨d - 1,by simp only[ad.j7]at aw;omega⟩
  unfold b_ at h;simp only[cH,Bool.and_eq_true]at h;obtain⟨_,h⟩:=h;split at h
  ·rename_i hu;rw[run_equalIn_int w d id k _ x y hu];rfl
  grind
 | str=>
  intro d _ aw;refine⟨λ{id v u x y} h E U=>?_,λh=>by simp[cH]at h⟩;rw[(mh.1 E).1,(mh.1 U).1];obtain⟨d,rfl⟩:∃ e,d=e+1:=⟨d - 1,by simp only[ad.j7]at aw;omega⟩
  unfold b_ at h;simp only[cH,Bool.and_eq_true]at h;obtain⟨_,h⟩:=h;split at h
  ·rename_i hu;rw[run_equalIn_string w d id _ _ hu,ByteArray.toList_eq,ByteArray.toList_eq];simp only[gL];grind
  grind
 | cU=>intro d h;cases h
 | slice e _=>intro d h;cases h
 | array n e _=>intro d h;cases h
 | bI e _=>intro d h;cases h
 | map k v _ _=>intro d h;cases h
 | fn a b _ _=>intro d h;cases h
 | ct a _=>intro d h;cases h
 | eu=>intro d h;cases h
 | az a b fy eK=>
  intro d hc aw;simp only[ad.kQ,Bool.and_eq_true]at hc;simp only[ad.j7]at aw;have Kf:=fy d hc.1 (by omega);have o6:=eK d hc.2 (by omega);refine⟨λh=>by unfold b_ at h;simp[cH]at h,?_⟩;intro l off xs ys p c q p' c' q' x y h ah ao pb aR Cd zj;simp only[bJ]at pb zj;obtain⟨bF,c2,rfl,aQ,aS⟩:=pb;obtain⟨d1,d2,rfl,m1,m2⟩:=zj;have e2:=hP a aQ;have oj:=hP a m1;have step : ∀ (f : Field) (cn : List Field), f.offset = off -> b_ P a f.type -> f.name ≠ "_" ->
    (Op.eqFields d xs ys (f::cn)).run P w=if gL a x.1 y.1=true then (Op.eqFields d xs ys cn).run P w else .ok false w:=by
   intro f cn af aq aB;obtain⟨v,b5,cw⟩:=qY (cs:=xs) (p:=p) (c:=bF) (q:=c2++q) aq (by grind) aQ;obtain⟨u,eH,dM⟩:=qY (cs:=ys) (p:=p') (c:=d1) (q:=d2++q') aq (by grind) m1;simp only[Op.eqFields,aB,ne_eq,not_false_eq_true,if_true,Sem.run_bind];rw[af,<-ao,b5,Result.andThen_ok,ao,<-Cd,eH,Result.andThen_ok,Kf.1 aq cw dM];cases gL a x.1 y.1<;>simp
  match l,h with
  | [],h=>simp only[cH,Bool.false_eq_true]at h
  | [f],h=>simp only[cH,Bool.false_eq_true]at h
  | [f,g],h=>
   simp only[cH,Bool.and_eq_true,beq_iff_eq,bne_iff_ne,ne_eq]at h;obtain⟨⟨⟨⟨E,U⟩,ag⟩,a6⟩,⟨⟨⟨bM,dn⟩,fT⟩,jh⟩⟩:=h;rw[step f [g] E U a6];obtain⟨v,b5,cw⟩:=qY (cs:=xs) (p:=p++bF) (c:=c2) (q:=q) dn (by grind) aS;obtain⟨u,eH,dM⟩:=qY (cs:=ys) (p:=p'++d1) (c:=d2) (q:=q') dn (by grind) m2;have ax:(p++bF).length=g.offset:=by grind
   have aO:(p'++d1).length=g.offset:=by grind
   rw[ax]at b5;rw[aO]at eH;simp only[Op.eqFields,jh,ne_eq,not_false_eq_true,if_true,Sem.run_bind,b5,eH,Result.andThen_ok,o6.1 dn cw dM,gL];cases gL a x.1 y.1<;>cases gL b x.2 y.2<;>simp
  | f::g::i::l,h=>
   simp only[cH,Bool.and_eq_true,beq_iff_eq,bne_iff_ne,ne_eq]at h;obtain⟨⟨⟨⟨E,U⟩,ag⟩,a6⟩,bM⟩:=h;rw[step f _ E U a6,o6.2 bM (p:=p++bF) (c:=c2) (q:=q) (p':=p'++d1) (c':=d2) (q':=q') (by grind) (by grind) aS (by grind) (by grind) m2];simp only[gL];cases gL a x.1 y.1<;>simp
 | st t aK=>
  intro d hc aw;simp only[ad.j7]at aw;obtain⟨d,rfl⟩:∃ e,d=e+1:=⟨d - 1,by omega⟩
  refine⟨λ{id v u x y} h E U=>?_,λh=>by simp[cH]at h⟩;have i:=aK d hc (by omega);obtain⟨ax,aO,cF,ee⟩:=h.Cc;obtain⟨⟨xs,rfl,hT⟩,pb⟩:=E;obtain⟨⟨ys,rfl,j9⟩,zj⟩:=U;simp only[Value.cells,bJ]at pb zj;rw[run_equalIn_struct w d id xs ys ee ax];rcases cF with cF | ⟨f,cF,dZ,ld,tG⟩ | ⟨rfl,cF⟩
  ·exact i.2 cF (p:=[]) (c:=xs.toList) (q:=[]) (p':=[]) (c':=ys.toList) (q':=[]) (by simp) rfl pb (by simp) rfl zj
  ·rw[cF];obtain⟨v,b5,cw⟩:=qY (cs:=xs) (p:=[]) (c:=xs.toList) (q:=[]) ld (by simp) pb;obtain⟨u,eH,dM⟩:=qY (cs:=ys) (p:=[]) (c:=ys.toList) (q:=[]) ld (by simp) zj;simp only[List.length_nil]at b5 eH;simp only[Op.eqFields,tG,ne_eq,not_false_eq_true,if_true,Sem.run_bind,dZ,b5,eH,Result.andThen_ok,i.1 ld cw dM,gL];cases gL t x y<;>simp
  ·cases hc
theorem ac_{k:IntKind}{a b:Int}(bb:fV k a):fV k (jj k a b):=by
 unfold fV at *
 unfold jj;have E:k.min<=0/\0<=k.max:=by cases k<;>decide
 generalize min b.toNat k.bits=n;have ao:(0:Int)<2 ^ n:=Int.pow_pos (by decide);rw[Int.fdiv_eq_ediv_of_nonneg _ (Int.le_of_lt ao)];rcases Int.le_total 0 a with h | h
 ·have U:=Int.ediv_nonneg h (Int.le_of_lt ao);have ag:=Int.ediv_le_self (2 ^ n) h;omega
 ·have U:a / 2 ^ n<=0:=by
   have:=Int.ediv_le_ediv ao h;simp_all
  have ag:a<=a / 2 ^ n:=by
   rw[Int.le_ediv_iff_mul_le ao];have a6:(1:Int)<=2 ^ n:=by omega
   have:=Int.mul_le_mul_of_nonpos_left (a:=a) h a6;omega
  omega
theorem RI{P:Program}{w:World}(op:BinOp)(t:TypeId)(x y:Operand)(k k':IntKind)(a b:Int):(eqGuard op t x y (.int k a) (.int k' b)).run P w=.ok () w:=by
 cases op<;>simp[eqGuard]
theorem ac'{P:Program}{w:World}(op:BinOp)(t:TypeId)(x y:Operand)(a b:ByteArray):(eqGuard op t x y (.string a) (.string b)).run P w=.ok () w:=by
 cases op<;>simp[eqGuard]
theorem ada{P:Program}{w:World}(op:BinOp)(t:TypeId)(x y:Operand)(a b:Bool):(eqGuard op t x y (.bool a) (.bool b)).run P w=.ok () w:=by
 cases op<;>simp[eqGuard]
theorem adb{P:Program}{w:World}(op:BinOp)(t:TypeId)(x y:Operand)(a b:Option Addr):(eqGuard op t x y (.pointer a) (.pointer b)).run P w=.ok () w:=by
 cases op<;>simp[eqGuard]
section
variable {P:Program} {H:Nat->bK} {κ:Nat->bD} {F:Nat->Prop} {w:World}
theorem ade{op:BinOp}{k:IntKind}{a b:Int}{t:TypeId}{c:Prop}{v:aH}(h:za op k a b=some (c,v))(hc:c)(bb:fV k a) :
  ∃ u,(binOp op t (.int k a) (.int k b)).run P w=.ok u w/\bC P H κ F w v u:=by
 cases op<;>simp only[za,Option.some.injEq,Prod.mk.injEq,reduceCtorEq]at h<;>obtain⟨rfl,rfl⟩:=h<;>simp only[bC];case add=>exact⟨_,by simp[binOp,Op.intArith],gV.2 ⟨rfl,p8 _ _⟩⟩
 case sub=>exact⟨_,by simp[binOp,Op.intArith],gV.2 ⟨rfl,p8 _ _⟩⟩
 case mul=>exact⟨_,by simp[binOp,Op.intArith],gV.2 ⟨rfl,p8 _ _⟩⟩
 case quo=>exact⟨_,by simp[binOp,Op.intDiv,hc],gV.2 ⟨rfl,p8 _ _⟩⟩
 case rem=>exact⟨_,by simp[binOp,Op.intDiv,hc],gV.2 ⟨rfl,ac9 bb⟩⟩
 case and=>exact⟨.int k (lO k a b),by simp only[binOp,ne_eq,not_true_eq_false,if_false,Op.intBits];rfl,gV.2 ⟨rfl,p8 _ _⟩⟩
 case or=>exact⟨.int k (Rq k a b),by simp only[binOp,ne_eq,not_true_eq_false,if_false,Op.intBits];rfl,gV.2 ⟨rfl,p8 _ _⟩⟩
 case xor=>exact⟨.int k (Rr k a b),by simp only[binOp,ne_eq,not_true_eq_false,if_false,Op.intBits];rfl,gV.2 ⟨rfl,p8 _ _⟩⟩
 case andNot=>exact⟨.int k (Rs k a b),by simp only[binOp,ne_eq,not_true_eq_false,if_false,Op.intBits];rfl,gV.2 ⟨rfl,p8 _ _⟩⟩
 case eql=>exact⟨.bool (a == b),by simp[binOp,Op.intCmp],fg.2 (congrArg Value.bool (by rfl))⟩
 case neq=>exact⟨.bool (a != b),by simp[binOp,Op.intCmp],fg.2 (congrArg Value.bool (by grind))⟩
 case lss=>exact⟨_,by simp[binOp,Op.intCmp],fg.2 rfl⟩
 case leq=>exact⟨_,by simp[binOp,Op.intCmp],fg.2 rfl⟩
 case gtr=>exact⟨_,by simp[binOp,Op.intCmp],fg.2 rfl⟩
 case geq=>exact⟨_,by simp[binOp,Op.intCmp],fg.2 rfl⟩
theorem RJ{op:BinOp}{k k':IntKind}{a b:Int}{t:TypeId}{c:Prop}{v:aH}(h:J8 op k a b=some (c,v))(hc:c)(bb:fV k a) :
  ∃ u,(binOp op t (.int k a) (.int k' b)).run P w=.ok u w/\bC P H κ F w v u:=by
 cases op<;>simp only[J8,Option.some.injEq,Prod.mk.injEq,reduceCtorEq]at h<;>obtain⟨rfl,rfl⟩:=h<;>simp only[bC];case shl=>exact⟨_,by simp[binOp,Op.shift,show ¬b<0 by omega];rfl,gV.2 ⟨rfl,p8 _ _⟩⟩
 case shr=>exact⟨_,by simp[binOp,Op.shift,show ¬b<0 by omega];rfl,gV.2 ⟨rfl,ac_ bb⟩⟩
theorem adf{op:BinOp}{a b:List UInt8}{t:TypeId}{c:Prop}{v:aH}(h:B5 op a b=some (c,v))(hc:c) :
  ∃ u,(binOp op t (.string ⟨a.toArray⟩) (.string ⟨b.toArray⟩)).run P w=.ok u w/\bC P H κ F w v u:=by
 have e:∀ l:List UInt8,(⟨l.toArray⟩:ByteArray).toList=l:=λl=>by simp
 cases op<;>simp only[B5,Option.some.injEq,Prod.mk.injEq,reduceCtorEq]at h<;>obtain⟨rfl,rfl⟩:=h<;>simp only[bC];case add=>
  unfold bQ at hc;have aE:((ByteArray.size ⟨a.toArray⟩+ByteArray.size ⟨b.toArray⟩:Nat):Int)=(a.length+b.length:Nat):=by rfl
  refine⟨.string ⟨(a++b).toArray⟩,?_,mh.2 ⟨rfl,by grind⟩⟩;simp only[binOp,Op.stringOp];rw[if_neg]
  ·rfl
  ·rw[aE];have:IntKind.i64.max=9223372036854775807:=by decide
   omega
 case eql=>exact⟨_,by rfl,fg.2 (by grind)⟩
 case neq=>exact⟨_,by rfl,fg.2 (by grind)⟩
 case lss=>exact⟨_,by simp only[binOp,Op.stringOp,e];rfl,fg.2 rfl⟩
 case geq=>exact⟨_,by simp only[binOp,Op.stringOp,e];rfl,fg.2 rfl⟩
end
end Go.Fer
namespace Go.Fer
open Go.RowKit
def dU(P:Program)(T:Nat->ad):Prop:=∀ id,T id=.cU\/b_ P (T id) id
theorem dU.b7{P:Program}{T:Nat->ad}(h:dU P T){id:Nat}{t:ad}(e:T id=t)(aI:t≠.cU):b_ P t id:=by
 rcases h id with h | h
 ·exact absurd (e ▸ h) aI
 ·exact e ▸ h
theorem qZ{d:Option Nat}{k:Nat->Nat->Option eC}{H:Nat->bK}{res:eC}(h:(h4 d k).run H=some res) :
  ∃ b,d=some b/\k b ((H b).gen+1)=some res:=by
 unfold h4 at h;cases d with
 | none=>cases h
 | some b=>
  simp_all
theorem bm.adg{C:b'}{s:aA}{a:Act}{w:World}{κ:Nat->bD}{F:Nat->Prop}(h:bm C s a w κ F){b g:Nat}{e:ad}(aC:(s.aa b).gen<g) :
  bm C (s.cz b ⟨g,.bj e []⟩) a w (λi=>if i=b then ⟨0,0,0,true⟩ else κ i) F:=by
 have aj:fr s.aa κ (λi=>if i=b then ⟨g,.bj e []⟩ else s.aa i) (λi=>if i=b then ⟨0,0,0,true⟩ else κ i):=y7 aC λbf dc=>by grind
 refine h.move (H':=λi=>if i=b then ⟨g,.bj e []⟩ else s.aa i) aj (λ_ M=>M) (λ_ M=>.inl M) (Nat.le_refl _) (λ_ _ _=>rfl) (dd.refl _) (λ_=>?_) ?_ ?_ h.db (y8 (.inr ⟨rfl,rfl⟩) λbf dc=>by grind)
 ·intro i;by_cases G:i=b
  ·subst G;simp only[cG,if_true];exact⟨λ_=>rfl,λaB=>by cases aB⟩
  ·exact cG.lf (h.bE i) aj (λ_ M=>M) (c6.refl _ _) (by grind) (by grind) λ_=>rfl
 ·intro i G;by_cases eM:i=b
  ·subst eM;simp[bR.b1]at G
  ·simp only[if_neg eM]at G ⊢;exact⟨(h.al i G).1,(h.al i G).2.1,.inl ⟨i,G,rfl⟩⟩
 ·intro i j G aF a7;by_cases eM:i=b
  ·subst eM;simp[bR.b1]at G
  ·by_cases mj:j=b
   ·subst mj;simp[bR.b1]at aF
   ·simp only[if_neg eM,if_neg mj]at G aF a7;exact h.inj i j G aF a7
section
variable {C:b'} {T:Nat->ad} {bg:Nat->Option aL} {o:Oper} {s:aA} {res:eC}
theorem adh{x:Operand}(bh:∀ i,o.dst=some i->i<C.nt)(af:o.op=.move x)(h:(bx C.aN T bg (a8 C.aN s.ay) o).run s.aa=some res):cK C o s res:=by
 simp only[bx,af,bO,ar.bN,Option.some.injEq]at h;subst h;exact cK.pure (by grind) bh λa w κ F M _ _=>⟨_,by simp[execOp,af],j8 M x⟩
theorem adi{x:Operand}(bh:∀ i,o.dst=some i->i<C.nt)(af:o.op=.assign x)(h:(bx C.aN T bg (a8 C.aN s.ay) o).run s.aa=some res):cK C o s res:=by
 simp only[bx,af]at h;split at h
 ·rename_i e ah aI;obtain⟨b,aw,an⟩:=qZ h;simp only[Option.some.injEq]at an;subst an;intro a w κ F Q M _ _;refine hv (w':=w) (v:=a.eval x) (by grind) (by simp[execOp,af]) ?_;have U:=M.adg (b:=b) (e:=e) (Nat.lt_succ_self _);have ae:=j8 M x;rw[ah]at ae;simp only[bC]at ae;refine⟨_,_,bm.set U bh ⟨⟨?_,by rw[ae];rfl⟩,λ_ _=>?_⟩⟩
  ·simp[aA.cz]
  ·simp[ae,bD.slice]
 ·simp only[bO,ar.bN,Option.some.injEq]at h;subst h;exact cK.pure (by grind) bh λa w κ F M _ _=>⟨_,by simp[execOp,af],j8 M x⟩
theorem cP{a:Act}{w:World}{κ:Nat->bD}{F:Nat->Prop}(M:bm C s a w κ F)(x:Operand){p:Prop}{av:aH}(hu:use (a8 C.aN s.ay x)=(p,av))(ao:p):bC C.P s.aa κ F w av (a.eval x):=by
 have:=o' (j8 M x) (by grind);grind
theorem adj{c x y:Operand}(bh:∀ i,o.dst=some i->i<C.nt)(af:o.op=.pick c x y)(h:(bx C.aN T bg (a8 C.aN s.ay) o).run s.aa=some res):cK C o s res:=by
 simp only[bx,af]at h;split at h
 ·rename_i p7 i_ hc;split at h
  ·split at h
   ·rename_i zf av bb;simp only[bO,ar.bN,Option.some.injEq]at h;subst h;refine cK.pure (by grind) bh λa w κ F M be _=>?_;have E:=fg.1 (cP M c hc be.1);cases i_ with
    | false=>
     have bH:a.eval (.const (.bool false))=.bool false:=rfl;exact⟨.bool false,by simp[execOp,af,E,asBool,bH],fg.2 rfl⟩
    | true=>
     have U:=fg.1 (cP M x bb (be.2 rfl));exact⟨.bool av,by simp[execOp,af,E,asBool,U],fg.2 rfl⟩
   ·cases h
  ·split at h
   ·rename_i cb bv W;simp only[bO,ar.bN,Option.some.injEq]at h;subst h;refine cK.pure (by grind) bh λa w κ F M be _=>?_;have E:=fg.1 (cP M c hc be.1);cases i_ with
    | true=>
     have bH:a.eval (.const (.bool true))=.bool true:=rfl;exact⟨.bool true,by simp[execOp,af,E,asBool,bH],fg.2 rfl⟩
    | false=>
     have U:=fg.1 (cP M y W (be.2 rfl));exact⟨.bool bv,by simp[execOp,af,E,asBool,U],fg.2 rfl⟩
   ·cases h
  ·cases h
 ·cases h
theorem adk{op:UnOp}{ty:TypeId}{x:Operand}(bh:∀ i,o.dst=some i->i<C.nt)(af:o.op=.unOp op ty x)(h:(bx C.aN T bg (a8 C.aN s.ay) o).run s.aa=some res):cK C o s res:=by
 simp only[bx,af]at h;split at h
 ·rename_i cE b ah;simp only[bO,ar.bN,Option.some.injEq]at h;subst h;refine cK.pure (by grind) bh λa w κ F M be _=>?_;have E:=fg.1 (cP M x ah be);exact⟨.bool (!b),by simp[execOp,af,E,Op.unary],fg.2 rfl⟩
 ·rename_i cE k n ah;simp only[bO,ar.bN,Option.some.injEq]at h;subst h;refine cK.pure (by grind) bh λa w κ F M be _=>?_;have E:=gV.1 (cP M x ah be);exact⟨.int k (k.wrap (0 - n)),by simp[execOp,af,E.1,Op.unary,Op.intArith],gV.2 ⟨rfl,p8 _ _⟩⟩
 ·cases h
theorem adl{i:Nat}{x:Operand}(bh:∀ i,o.dst=some i->i<C.nt)(af:o.op=.extract x i)(h:(bx C.aN T bg (a8 C.aN s.ay) o).run s.aa=some res):cK C o s res:=by
 simp only[bx,af]at h;split at h
 ·rename_i cE n f ah;split at h
  ·rename_i G;simp only[bO,ar.bN,Option.some.injEq]at h;subst h;refine cK.pure (by grind) bh λa w κ F M be _=>?_;obtain⟨aD,E,U,ag⟩:=cP M x ah be;have dL:i<aD.length:=by omega
   refine⟨aD[i],by simp[execOp,af,E,Instr.extract,dL],?_⟩;grind
  ·cases h
 ·cases h
theorem adm{x:Operand}(bh:∀ i,o.dst=some i->i<C.nt)(af:o.op=.nilCheck x)(h:(bx C.aN T bg (a8 C.aN s.ay) o).run s.aa=some res):cK C o s res:=by
 simp only[bx,af]at h;split at h
 ·rename_i cE b g i ah;simp only[ar.e4,ar.bN]at h;split at h
  ·rename_i bl;simp only[Bool.and_eq_true,decide_eq_true_eq]at bl;simp only[Option.some.injEq]at h;subst h;refine cK.pure (by grind) bh λa w κ F M be _=>?_;have E:=cP M x ah be;have U:=E.2 bl.1.symm bl.2;exact⟨_,by simp[execOp,af,U.2.2],⟨E.1.1,rfl⟩,λ_ _=>⟨U.1,U.2.1,rfl⟩⟩
  grind
 ·rename_i cE t d ah;simp only[bO,ar.bN,Option.some.injEq]at h;subst h;refine cK.pure (by grind) bh λa w κ F M be _=>?_;obtain⟨p,bk,E,U⟩:=cP M x ah be;exact⟨_,by simp[execOp,af,E],p,bk,rfl,U⟩
 ·rename_i cE e p ah;simp only[bO,ar.bN,Option.some.injEq]at h;subst h;refine cK.pure (by grind) bh λa w κ F M be hc=>?_;have E:=(dV rfl).1 (cP M x ah be);obtain⟨_,E⟩:=E;simp only[bJ]at E;rcases E with⟨_,rfl⟩ | ⟨q,y,bk,bt,rfl,aQ,aS⟩
  ·cases hc
  ·simp only[List.cons.injEq,and_true]at bt;exact⟨_,by simp[execOp,af,bt],q,bk,rfl,aQ,aS⟩
 ·rename_i cE b g off ah;simp only[ar.e4,ar.bN]at h;split at h
  ·rename_i bl;simp only[Bool.and_eq_true,decide_eq_true_eq]at bl;simp only[Option.some.injEq]at h;subst h;refine cK.pure (by grind) bh λa w κ F M be _=>?_;have E:=cP M x ah be;have U:=E.2 bl.1.symm bl.2;exact⟨_,by simp[execOp,af,U],⟨E.1.1,rfl⟩,λ_ _=>rfl⟩
  grind
 ·cases h
theorem ve(b off n:Nat):(⟨b,off,none⟩:Addr).add n=⟨b,off+n,none⟩:=by
 unfold Addr.add;simp
theorem FJ{P:Program}{w:World}{t s:ad}{id f w_ b off:Nat}(h:b_ P (.st t) id)(aq:ml t f=some (s,w_)) :
  (Instr.fieldAt id (.pointer (some ⟨b,off,none⟩)) f).run P w=.ok (.pointer (some ⟨b,off+w_,none⟩)) w:=by
 obtain⟨eU,nN,E,U,ag,a6,bM⟩:=h.field aq;simp only[Instr.fieldAt,Sem.run_bind,dD E,Result.andThen_ok,U,Instr.sureAddr,Sem.run_pure,fieldPlace,a6.size,bM,if_false,ag,ve]
theorem adn(aV:dU C.P T){ty f:Nat}{x:Operand}(bh:∀ i,o.dst=some i->i<C.nt)(af:o.op=.fieldAddr ty x f)(h:(bx C.aN T bg (a8 C.aN s.ay) o).run s.aa=some res):cK C o s res:=by
 simp only[bx,af]at h;split at h
 ·rename_i t aI;have dq:=aV.b7 aI (by simp);split at h
  ·rename_i s' w_ aq;split at h
   ·rename_i cE b g off ah;simp only[ar.e4,ar.bN]at h;split at h
    ·rename_i bl;simp only[Bool.and_eq_true,decide_eq_true_eq]at bl;simp only[Option.some.injEq]at h;subst h;refine cK.pure (by grind) bh λa w κ F M be _=>?_;have E:=cP M x ah be;have U:=E.2 bl.1.symm bl.2;exact⟨_,by simp[execOp,af,U,FJ dq aq],⟨E.1.1,rfl⟩,λ_ _=>rfl⟩
    grind
   ·rename_i cE b g i off ah;simp only[ar.e4,ar.bN]at h;split at h
    ·rename_i bl;simp only[Bool.and_eq_true,decide_eq_true_eq]at bl;simp only[Option.some.injEq]at h;subst h;refine cK.pure (by grind) bh λa w κ F M be _=>?_;have E:=cP M x ah be;obtain⟨U,ag,a6⟩:=E.2 bl.1.symm bl.2;exact⟨_,by simp[execOp,af,a6,FJ dq aq];rfl,⟨E.1.1,rfl⟩,λ_ _=>⟨U,ag,by grind⟩⟩
    grind
   ·rename_i cE b g i ah;simp only[ar.e4,ar.bN]at h;split at h
    ·rename_i bl;simp only[Bool.and_eq_true,decide_eq_true_eq,beq_iff_eq]at bl;simp only[Option.some.injEq]at h;subst h;refine cK.pure (by grind) bh λa w κ F M be _=>?_;have E:=cP M x ah be;obtain⟨U,ag,a6⟩:=E.2 bl.1.1.symm bl.1.2;exact⟨_,by simp[execOp,af,a6,FJ dq aq];rfl,⟨E.1.1,rfl⟩,λ_ _=>⟨U,ag,by grind⟩⟩
    grind
   ·rename_i cE cY d ah;split at h
    ·rename_i zk;subst zk;split at h
     ·rename_i dM y aR;simp only[bO,ar.bN,Option.some.injEq]at h;subst h;refine cK.pure (by grind) bh λa w κ F M be _=>?_;obtain⟨p,bk,E,U,ag⟩:=cP M x ah be;simp only[bJ]at ag;obtain⟨bF,c2,c3,rfl,aQ,aS⟩:=Rw cY ag aR;rw[aq]at aS;cases aS;have ao:p=⟨p.block,p.off,none⟩:=by have:=U.2.1;cases p;simp_all
      rw[ao]at E;refine⟨_,by simp[execOp,af,E,FJ dq aq],⟨p.block,p.off+bF.length,none⟩,c2,rfl,⟨U.1,rfl,λj aF=>?_⟩,aQ⟩;have:=U.2.2 (bF.length+j) (by grind);grind
     ·cases h
    ·cases h
   ·cases h
  ·cases h
 ·cases h
theorem ado(aV:dU C.P T){ty f:Nat}{x:Operand}(bh:∀ i,o.dst=some i->i<C.nt)(af:o.op=.field ty x f)(h:(bx C.aN T bg (a8 C.aN s.ay) o).run s.aa=some res):cK C o s res:=by
 simp only[bx,af]at h;split at h
 ·rename_i t aI;have dq:=aV.b7 aI (by simp);split at h
  ·rename_i cE cY d ah;split at h
   ·rename_i zk;subst zk;split at h
    ·rename_i dM y aR;simp only[bO,ar.bN,Option.some.injEq]at h;subst h;refine cK.pure (by grind) bh λa w κ F M be _=>?_;obtain⟨⟨cs,E,U⟩,ag⟩:=cP M x ah be;rw[E]at ag;simp only[bJ,Value.cells]at ag;obtain⟨bF,c2,c3,e,aQ,aS⟩:=Rw cY ag aR;obtain⟨eU,nN,f1,f2,f3,f4,f5⟩:=dq.field aS;obtain⟨v,b5,cw⟩:=qY (w:=w) f4 e aQ;refine⟨v,?_,cw⟩;simp[execOp,af,E,Instr.field,dD f1,f2,asAgg,f3,b5]
    ·cases h
   ·cases h
  ·cases h
 ·cases h
end
end Go.Fer
namespace Go.Fer
open Go.RowKit
theorem b_.bI{P:Program}{e:ad}{id:TypeId}(h:b_ P (.bI e) id):∃ i,P.underlying id=some (.pointer i)/\b_ P e i/\e.size≠0:=by
 unfold b_ at h;simp only[cH,Bool.and_eq_true]at h;obtain⟨_,h⟩:=h;split at h
 ·rename_i i G;simp only[Bool.and_eq_true,bne_iff_ne,ne_eq]at h;exact⟨i,G,h.1,h.2⟩
 grind
theorem RL{k:IntKind}{av:aH}{H:Nat->bK}{x:Int}{l:List Nat}(h:(dC (.int k) av).run H=some (x,l)):av.mn.isSome=true:=by
 cases av with
 | val cY y=>
  simp only[dC,ar.bN,Option.map_eq_some_iff,Prod.mk.injEq]at h;obtain⟨z,bl,_⟩:=h;obtain⟨rfl,_⟩:=kO bl;rfl
 | jB v=>simp[dC,kr,ad.eF,dX,B2]at h
 | _=>simp[dC,kr,ad.eF,dX,ar.none]at h
theorem RM{av:aH}{H:Nat->bK}{x:List UInt8}{l:List Nat}(h:(dC .str av).run H=some (x,l)):av.tD.isSome=true:=by
 cases av with
 | val cY y=>
  simp only[dC,ar.bN,Option.map_eq_some_iff,Prod.mk.injEq]at h;obtain⟨z,bl,_⟩:=h;obtain⟨rfl,_⟩:=kO bl;rfl
 | jB v=>simp[dC,kr,ad.eF,dX,B2]at h
 | _=>simp[dC,kr,ad.eF,dX,ar.none]at h
theorem FK{P:Program}{w:World}{ty i:TypeId}(G:P.underlying ty=some (.pointer i))(a:Option Addr)(d:Nat):(Op.equalIn (d+1) ty (.pointer a) (.pointer none)).run P w=.ok a.isNone w:=by
 cases a<;>simp[Op.equalIn,dD G]
inductive Ce:Value->Value->Prop where
 | bool (a b:Bool):Ce (.bool a) (.bool b)
 | agg (a b:Array Value):Ce (.agg a) (.agg b)
 | bI (a b:Option Addr):Ce (.pointer a) (.pointer b)
theorem adp{P:Program}{w:World}{ty:TypeId}{x y:Operand}{u mN:Value}{e:Bool}(ao:Ce u mN)(h:(Op.equalIn 10000 ty u mN).run P w=.ok e w)
  (aC:∀ a b,u=.agg a->mN=.agg b->P.eqGuardType P.depth ty=false) :
  (do eqGuard .eql ty x y u mN;binOp .eql ty u mN:Sem Value).run P w=.ok (.bool e) w/\(do eqGuard .neq ty x y u mN;binOp .neq ty u mN:Sem Value).run P w=.ok (.bool (!e)) w:=by
 cases ao with
 | bool a b=>constructor<;>simp[ada,binOp,Op.equal,Op.maxDepth,h]
 | agg a b=>constructor<;>simp[run_eqGuard_agg _ _ _ _ _ _ _ (aC a b rfl rfl),binOp,Op.equal,Op.maxDepth,h]
 | bI a b=>constructor<;>simp[adb,binOp,Op.equal,Op.maxDepth,h]
section
variable {C:b'} {T:Nat->ad} {bg:Nat->Option aL} {o:Oper} {s:aA} {res:eC}
theorem Cf{a:Act}{w:World}{κ:Nat->bD}{F:Nat->Prop}(M:bm C s a w κ F){t:ad}{av:aH}{v:Value}{x:t.ai}{l:List Nat}(h:(dC t av).run s.aa=some (x,l))(ae:bC C.P s.aa κ F w av v) :
  ev C.P t (λ_=>True) w v x:=mm M.bE (λ_ _=>trivial) h (λ_ _ _=>trivial) ae
theorem adq{op:BinOp}{ty:TypeId}{d_ kv:aH}{x y:Operand}{c:Prop}{v:aH}{a:Act}{w:World}{κ:Nat->bD}{F:Nat->Prop}(aV:dU C.P T)(M:bm C s a w κ F)
  (h:(zb op (T ty) d_ kv).run s.aa=some (c,v)) {u mN:Value} (ah:bC C.P s.aa κ F w d_ u) (aR:bC C.P s.aa κ F w kv mN) (RN:¬(d_.mn.isSome=true/\kv.mn.isSome=true)) (RO:¬(d_.tD.isSome=true/\kv.tD.isSome=true)) :
  ∃ r,(do eqGuard op ty x y u mN;binOp op ty u mN:Sem Value).run C.P w=.ok r w/\bC C.P s.aa κ F w v r:=by
 unfold zb at h;rw[ar.e5]at h;simp only[Option.bind_eq_some_iff]at h;obtain⟨e,he,ae⟩:=h;simp only[ar.bN]at ae;have key:Ce u mN/\(Op.equalIn 10000 ty u mN).run C.P w=.ok e w/\(∀ a b,u=.agg a->mN=.agg b->C.P.eqGuardType C.P.depth ty=false):=by
  split at he
  ·rename_i a7 p aO aI;obtain⟨i,G,_⟩:=(aV.b7 aI (by simp)).bI;simp only[bC]at aR;subst aR;simp only[ar.bN,Option.some.injEq]at he;subst he;obtain⟨_,nO⟩:=(dV rfl).1 ah;rcases nO with⟨nO,rfl⟩ | ⟨q,z,bk,nO,rfl,_⟩
   ·obtain rfl:=(List.cons.inj nO).1;exact⟨.bI _ _,FK G none 9999,λ_ _ h=>by cases h⟩
   ·obtain rfl:=(List.cons.inj nO).1;exact⟨.bI _ _,FK G (some q) 9999,λ_ _ h=>by cases h⟩
  ·rename_i a7 t2 xb aI;obtain⟨i,G,_⟩:=(aV.b7 aI (by simp)).bI;simp only[bC]at aR;subst aR;simp only[ar.bN,Option.some.injEq]at he;subst he;obtain⟨q,bk,rfl,_⟩:=ah;exact⟨.bI _ _,FK G (some q) 9999,λ_ _ h=>by cases h⟩
  ·rename_i a7 b g off aI;obtain⟨i,G,_⟩:=(aV.b7 aI (by simp)).bI;simp only[bC]at aR;subst aR;simp only[ar.e4,ar.bN]at he;split at he
   ·rename_i bl;simp only[Bool.and_eq_true,decide_eq_true_eq]at bl;simp only[Option.some.injEq]at he;subst he;have:=ah.2 bl.1.symm bl.2;subst this;exact⟨.bI _ _,FK G (some _) 9999,λ_ _ h=>by cases h⟩
   grind
  ·split at he
   ·rename_i i';simp only[Bool.and_eq_true,decide_eq_true_eq]at i';simp only[ar.e5,Option.bind_eq_some_iff,ar.bN,Option.some.injEq]at he;obtain⟨⟨xc,e2⟩,E,⟨Kg,oj⟩,U,rfl⟩:=he;have b5:=Cf M E ah;have cw:=Cf M U aR;generalize p9:T ty=t at *
    cases t with
    | bool=>
     have dq:=aV.b7 p9 (by simp);refine⟨?_,(Ke .bool 10000 rfl (by decide)).1 dq b5 cw,?_⟩
     ·rw[fg.1 b5,fg.1 cw];exact .bool _ _
     simp_all
    | int k=>exact (RN ⟨RL E,RL U⟩).elim
    | str=>exact (RO ⟨RM E,RM U⟩).elim
    | st t=>
     have dq:=aV.b7 p9 (by simp);refine⟨?_,(Ke (.st t) 10000 i'.1 (by omega)).1 dq b5 cw,λ_ _ _ _=>dq.Cc.2.1⟩;obtain⟨⟨_,rfl,_⟩,_⟩:=b5;obtain⟨⟨_,rfl,_⟩,_⟩:=cw;exact .agg _ _
    | az t1 t2=>have:=aV.b7 p9 (by simp);unfold b_ at this;simp only[cH,Bool.false_eq_true]at this
    | cU=>cases i'.1
    | slice _=>cases i'.1
    | array _ _=>cases i'.1
    | bI _=>cases i'.1
    | map _ _=>cases i'.1
    | fn _ _=>cases i'.1
    | ct _=>cases i'.1
    | eu=>cases i'.1
   ·cases he
 obtain⟨aQ,aS,bP⟩:=key;have:=adp (x:=x) (y:=y) aQ aS bP;cases op<;>simp only[reduceCtorEq,Option.some.injEq,Prod.mk.injEq]at ae;case eql=>obtain⟨rfl,rfl⟩:=ae;exact⟨_,this.1,fg.2 rfl⟩
 case neq=>obtain⟨rfl,rfl⟩:=ae;exact⟨_,this.2,fg.2 rfl⟩
theorem adr(aV:dU C.P T){op:BinOp}{ty mR:TypeId}{x y:Operand}(bh:∀ i,o.dst=some i->i<C.nt)(af:o.op=.binOp op ty x y mR)(h:(bx C.aN T bg (a8 C.aN s.ay) o).run s.aa=some res):cK C o s res:=by
 simp only[bx,af]at h;have zl:∀ c,o.op≠.defer c:=by grind
 have mS:∀ (a:Act) (w:World) (r:Value),(do eqGuard op ty x y (a.eval x) (a.eval y);binOp op ty (a.eval x) (a.eval y):Sem Value).run C.P w=.ok r w->(execOp a.eval o).run C.P w=.ok (.value r) w:=by
  intro a w r M;simp only[execOp,af,Sem.run_bind]at M ⊢;simp_all
 split at h
 ·rename_i k m k' n ah aR;have fin:∀ (c:Prop) (v:aH),(∀ (w:World) κ F,c->fV k m->∃ r,(binOp op ty (.int k m) (.int k' n)).run C.P w=.ok r w/\bC C.P s.aa κ F w v r)->
    res=⟨(use (a8 C.aN s.ay x)).1/\(use (a8 C.aN s.ay y)).1,c,v,[]⟩->cK C o s res:=by
   intro c v an gv;subst gv;refine cK.pure zl bh λa w κ F M be hc=>?_;have E:=ou (cP M x rfl be.1) ah;have U:=ou (cP M y rfl be.2) aR;obtain⟨r,b5,cw⟩:=an w κ F hc E.2;exact⟨r,mS a w r (by simp[E.1,U.1,RI,b5]),cw⟩
  split at h
  ·split at h
   ·rename_i c v aE;simp only[bO,ar.bN,Option.some.injEq]at h;exact fin c v (λw κ F hc bb=>RJ aE hc bb) h.symm
   ·cases h
  ·split at h
   ·rename_i c v aE;simp only[bO,ar.bN,Option.some.injEq]at h;exact fin c v (λw κ F hc bb=>RJ aE hc bb) h.symm
   ·cases h
  ·split at h
   ·rename_i vf;subst vf;split at h
    ·rename_i c v aE;simp only[bO,ar.bN,Option.some.injEq]at h;exact fin c v (λw κ F hc bb=>ade aE hc bb) h.symm
    ·cases h
   ·cases h
 ·rename_i RN;split at h
  ·rename_i m n ah aR;split at h
   ·rename_i c v aE;simp only[bO,ar.bN,Option.some.injEq]at h;subst h;refine cK.pure zl bh λa w κ F M be hc=>?_;have E:=Kd (cP M x rfl be.1) ah;have U:=Kd (cP M y rfl be.2) aR;obtain⟨r,b5,cw⟩:=adf (P:=C.P) (H:=s.aa) (κ:=κ) (F:=F) (w:=w) (t:=ty) aE hc;exact⟨r,mS a w r (by simp[E.1,U.1,ac',b5]),cw⟩
   ·cases h
  ·rename_i RO;simp only[bO,ar.e5,Option.bind_eq_some_iff,ar.bN,Option.some.injEq]at h;obtain⟨⟨c,v⟩,aE,rfl⟩:=h;refine cK.pure zl bh λa w κ F M be hc=>?_;obtain⟨r,b5,cw⟩:=adq (x:=x) (y:=y) aV M aE (cP M x rfl be.1) (cP M y rfl be.2)
    (λ⟨ax,aO⟩=>by
     obtain⟨⟨k,m⟩,ax⟩:=Option.isSome_iff_exists.1 ax;obtain⟨⟨k',dy⟩,aO⟩:=Option.isSome_iff_exists.1 aO;grind)
    (λ⟨ax,aO⟩=>by
     obtain⟨m,ax⟩:=Option.isSome_iff_exists.1 ax;obtain⟨dy,aO⟩:=Option.isSome_iff_exists.1 aO;grind)
   grind
theorem vg{w:World}{b:Nat}{cs:Array Value}{T:TypeId}{fj:Nat×Nat}(h:w.heap[b]?=some (.cells cs T fj))(off:Nat):w.cell? ⟨b,off,none⟩=cs[off]?:=by
 simp[World.cell?,h]
theorem RP{P:Program}{w:World}{t:ad}{id:TypeId}(h:b_ P t id)(aj:t.isAgg=false){p:Addr}{v:Value}(ae:w.cell? p=some v):(loadVar id p).run P w=.ok v w:=by
 simp[loadVar,zh h,aj,ae]
theorem RQ(aV:dU C.P T){ty:TypeId}{d_ v:aH}{u:Value}{a:Act}{w:World}{κ:Nat->bD}{F:Nat->Prop}(M:bm C s a w κ F)(h:(zc (T ty) d_).run s.aa=some v)(ah:bC C.P s.aa κ F w d_ u) :
  ∃ r,(Instr.loadAt ty u).run C.P w=.ok r w/\bC C.P s.aa κ F w v r:=by
 generalize p9:T ty=t at *
 cases d_ with
 | dW cY d=>
  simp only[zc,ar.bN]at h;split at h
  ·rename_i hc;obtain⟨rfl,hc⟩:=hc;simp only[Option.some.injEq]at h;subst h;obtain⟨p,bk,rfl,U,ag⟩:=ah;have dq:=aV.b7 p9 (by intro e;subst e;cases hc);obtain⟨r,b5,cw⟩:=Kc dq U.Kb ag;exact⟨r,by simp[Instr.loadAt,Instr.sureAddr,b5],cw⟩
  grind
 | aX b g off=>
  simp only[zc,ar.e4,ar.bN]at h;split at h
  ·rename_i aC;split at h
   ·rename_i t0 f bT;have ae:=ah.2 aC.symm (by rw[bT];rfl);subst ae;have aT:=M.bE b;unfold cG at aT;rw[bT]at aT;obtain⟨cs,hU,bF,c2,c3⟩:=aT;split at h
    ·rename_i aj;split at h
     ·rename_i FL;simp only[Option.some.injEq]at h;subst h;have dq:=aV.b7 p9 (by intro e;subst e;cases aj);have Kh:t.isAgg=false:=by cases t<;>simp_all[ad.eF,ad.isAgg]
      refine⟨cs.getD off Go.undef,?_,(c3 off FL).1⟩;simp only[Instr.loadAt,Instr.sureAddr,Sem.run_bind,Sem.run_pure,Result.andThen_ok];refine RP dq Kh ?_;rw[vg bF];simp_all
     grind
    ·split at h
     ·rename_i RR;split at h
      ·rename_i FL;simp only[Option.some.injEq]at h;subst h;have dq:=aV.b7 p9 (by intro e;subst e;cases RR);let aD:=(List.range t.size).map λj=>cs.getD (off+j) Go.undef;refine⟨.agg aD.toArray,?_,aD,rfl,by grind,λi G=>?_⟩
       ·simp only[Instr.loadAt,Instr.sureAddr,Sem.run_bind,Sem.run_pure,Result.andThen_ok,loadVar,zh dq,RR,if_true,dq.size];rw[run_loadCells w ⟨(κ b).aa,off,none⟩ t.size (λj=>cs.getD (off+j) Go.undef)]
        ·rfl
        ·intro j aF;rw[ve,vg bF];simp[Array.getD_eq_getD_getElem?,c2,show off+j<t0.size by omega]
       grind
      grind
     grind
   ·rename_i t0 y bT;have ae:=ah.2 aC.symm (by rw[bT];rfl);subst ae;have aT:=M.bE b;unfold cG at aT;rw[bT]at aT;obtain⟨bk,d1,d2⟩:=aT;split at h
    ·rename_i hc;simp only[Option.map_eq_some_iff]at h;obtain⟨z,bl,rfl⟩:=h;obtain⟨bF,c2,c3,rfl,dz,dP⟩:=Rx t0 d2 bl;have dq:=aV.b7 p9 (by intro e;subst e;cases hc);have cW:kx w ⟨(κ b).aa,off,none⟩ c2:=by
      refine⟨λ_=>rfl,λj aF=>?_⟩;have:=d1.2.2 (bF.length+j) (by grind);simp_all
     obtain⟨r,b5,cw⟩:=Kc dq cW dP;exact⟨r,by simp[Instr.loadAt,Instr.sureAddr,b5],cw⟩
    grind
   grind
  grind
 | om b g i off=>
  simp only[zc,ar.e4,ar.bN]at h;split at h
  ·rename_i aC;have fin:∀ (e:ad) (xs:List e.ai),(s.aa b).body.fh=true->(s.aa b).body.len=xs.length->(s.aa b).body.e3=e.size->
     (∀ (G:i<xs.length),(κ b).e9=false->∃ bk,kx w ⟨(κ b).aa,(κ b).off+i*e.size,none⟩ bk/\bJ C.P e F w bk xs[i])->
     (if t.eF||t.isAgg then (r8 e (xs.getD i e.df) off t).map (.val t) else none)=some v->∃ r,(Instr.loadAt ty u).run C.P w=.ok r w/\bC C.P s.aa κ F w v r:=by
    intro e xs bb hlen Cg jl ae;split at ae
    ·rename_i hc;simp only[Option.map_eq_some_iff]at ae;obtain⟨z,bl,rfl⟩:=ae;obtain⟨aQ,aS,bP⟩:=ah.2 aC.symm bb;subst bP;rw[hlen]at aQ;obtain⟨bk,d1,d2⟩:=jl aQ aS;have Ki:xs.getD i e.df=xs[i]:=by grind
     rw[Ki]at bl;obtain⟨bF,c2,c3,rfl,dz,dP⟩:=Rx e d2 bl;have dq:=aV.b7 p9 (by intro e;subst e;cases hc);have cW:kx w ⟨(κ b).aa,(κ b).off+i*(s.aa b).body.e3+off,none⟩ c2:=by
      refine⟨λ_=>rfl,λj aF=>?_⟩;have:=d1.2 (bF.length+j) (by grind);grind
     obtain⟨r,b5,cw⟩:=Kc dq cW dP;exact⟨r,by simp[Instr.loadAt,Instr.sureAddr,b5],cw⟩
    grind
   have aT:=M.bE b;unfold cG at aT;split at h
   ·rename_i e xs bT;rw[bT]at aT;refine fin e xs (by rw[bT];rfl) (by rw[bT];rfl) (by rw[bT];rfl) (λG aB=>?_) h;obtain⟨cs,hU,bF,c2,c3,c4,c5⟩:=aT.2 aB;obtain⟨bk,d1,d2⟩:=c5 i G;exact⟨bk,⟨λ_=>rfl,λj aF=>by rw[vg bF];grind⟩,d2⟩
   ·rename_i e xs bT;rw[bT]at aT;refine fin e xs (by rw[bT];rfl) (by rw[bT];rfl) (by rw[bT];rfl) (λG aB=>?_) h;simp only[jC,bJ,bD.slice,aB,Bool.false_eq_true,if_false]at aT;obtain⟨a',cap,ax,m1,m2,m3,m4⟩:=aT;simp only[List.cons.injEq,Value.slice.injEq,and_true]at ax;obtain⟨rfl,_,rfl⟩:=ax;obtain⟨ec,ef,jm⟩:=m4 _ rfl (by omega);obtain⟨bk,d1,d2⟩:=jm i G;exact⟨bk,d1.Kb,d2⟩
   grind
  grind
 | _=>cases h
end
end Go.Fer
namespace Go.Fer
open Go.RowKit
section
variable {C:b'} {T:Nat->ad} {bg:Nat->Option aL} {o:Oper} {s:aA} {res:eC}
theorem ads(aV:dU C.P T){ty:TypeId}{x:Operand}(bh:∀ i,o.dst=some i->i<C.nt)(af:o.op=.load ty x)(h:(bx C.aN T bg (a8 C.aN s.ay) o).run s.aa=some res):cK C o s res:=by
 simp only[bx,af]at h;split at h
 ·rename_i cE b g i ah;simp only[RF,ar.e4,ar.bN]at h;split at h
  ·rename_i e xs lh v bT;split at h
   ·rename_i hc;obtain⟨aC,aj⟩:=hc;simp only[Option.some.injEq]at h;subst h;refine cK.pure (by grind) bh λa w κ F M be G=>?_;have G:i=lh:=G;subst G;have E:=(cP M x ah be).2 aC.symm (by rw[bT];rfl);have aT:=M.bE b;unfold cG at aT;rw[bT]at aT E;obtain⟨_,cs,hU,bF,c2,c3,c4,c5,lQ,ov,xd⟩:=aT;have dq:=aV.b7 (t:=T ty) rfl (by intro e;rw[e]at aj;cases aj);have Kh:(T ty).isAgg=false:=by cases aI:T ty<;>simp_all[ad.eF,ad.isAgg]
    refine⟨_,?_,ov⟩;have tH:w.cell? ⟨(κ b).aa,(κ b).off+i,none⟩=some (cs.getD ((κ b).off+i) Go.undef):=by
     rw[vg bF];have:(κ b).off+i<cs.size:=by
      have:i<(κ b).cap:=by omega
      rw[c5.1]at c2;omega
     simp[this]
    have ao:a.eval x=.pointer (some ⟨(κ b).aa,(κ b).off+i,none⟩):=by rw[E.2.2];simp[bR.e3,c5.1]
    simp[execOp,af,ao,Instr.loadAt,Instr.sureAddr,RP dq Kh tH]
   ·cases h
  ·cases h
 ·rename_i cE d_ _ ah;simp only[bO,ar.e5,Option.bind_eq_some_iff,ar.bN,Option.some.injEq]at h;obtain⟨v,ae,rfl⟩:=h;refine cK.pure (by grind) bh λa w κ F M be _=>?_;obtain⟨r,b5,cw⟩:=RQ aV M ae (cP M x ah be);exact⟨r,by simp[execOp,af,b5],cw⟩
theorem b_.str{P:Program}{id:TypeId}(h:b_ P .str id):P.underlying id=some .string:=by
 unfold b_ at h;simp only[cH,Bool.and_eq_true]at h;grind
theorem b_.int{P:Program}{k:IntKind}{id:TypeId}(h:b_ P (.int k) id):P.underlying id=some (.int k):=by
 unfold b_ at h;simp only[cH,Bool.and_eq_true]at h;grind
theorem b_.bj{P:Program}{n:Nat}{e:ad}{id:TypeId}(h:b_ P (.array n e) id):∃ i,P.underlying id=some (.array n i)/\b_ P e i/\e.size≠0:=by
 unfold b_ at h;simp only[cH,Bool.and_eq_true]at h;obtain⟨_,h⟩:=h;split at h
 ·rename_i m i hu;simp only[Bool.and_eq_true,decide_eq_true_eq,bne_iff_ne,ne_eq]at h;obtain⟨⟨rfl,U⟩,ag⟩:=h;exact⟨i,hu,U,ag⟩
 grind
theorem adt{fp:List (List Value)}{m:Nat}(h:∀ c∈fp,c.length=m){i:Nat}(G:i<fp.length):∃ p q,fp.flatten=p++(fp[i]++q)/\p.length=i*m:=by
 refine⟨(fp.take i).flatten,(fp.drop (i+1)).flatten,?_,?_⟩
 ·rw[<-List.flatten_cons,<-List.drop_eq_getElem_cons G,<-List.flatten_append,List.take_append_drop]
 ·have a6:(fp.take i).map List.length=List.replicate i m:=List.eq_replicate_iff.2 ⟨by grind,λx ah=>by
   grind⟩
  simp_all
theorem Kj{P:Program}{n:Nat}{e:ad}{F:Nat->Prop}{w:World}{cs:List Value}{xs:List e.ai}(h:bJ P (.array n e) F w cs xs){i:Nat}(G:i<n):∃ p c q,cs=p++(c++q)/\p.length=i*e.size/\bJ P e F w c (xs.getD i e.df):=by
 simp only[bJ]at h;obtain⟨fp,rfl,E,U,ag⟩:=h;obtain⟨p,q,aQ,aS⟩:=adt (m:=e.size) (λc hc=>by
  obtain⟨j,aF,rfl⟩:=List.mem_iff_getElem.1 hc;exact hP e (ag j (by omega) aF)) (show i<fp.length by omega)
 grind
theorem adu(aV:dU C.P T){ty:TypeId}{x i:Operand}(bh:∀ i,o.dst=some i->i<C.nt)(af:o.op=.index ty x i)(h:(bx C.aN T bg (a8 C.aN s.ay) o).run s.aa=some res):cK C o s res:=by
 simp only[bx,af]at h;split at h
 ·rename_i l k n aI ah G;simp only[bO,ar.bN,Option.some.injEq]at h;subst h;refine cK.pure (by grind) bh λa w κ F M be hc=>?_;have E:=Kd (cP M x rfl be.1) ah;have U:=ou (cP M i rfl be.2) G;have dq:=(aV.b7 aI (by simp)).str;have cc:n.toNat<l.length:=by omega
  refine⟨.int .u8 ((l.getD n.toNat 0).toNat:Int),?_,gV.2 ⟨rfl,?_⟩⟩
  ·have e:(⟨l.toArray⟩:ByteArray)[n.toNat]?=some (l.getD n.toNat 0):=by
    have aE:n.toNat<(⟨l.toArray⟩:ByteArray).size:=by simpa [ByteArray.size]using cc
    rw[getElem?_pos (⟨l.toArray⟩:ByteArray) n.toNat aE];simp only[Option.some.injEq];show (⟨l.toArray⟩:ByteArray).data[n.toNat]=_;grind
   simp[execOp,af,Instr.index,E.1,U.1,asIntOf,dD dq,hc.1,e]
  ·have:=(l.getD n.toNat 0).toNat_lt;constructor
   ·have:IntKind.u8.min=0:=by decide
    omega
   ·have:IntKind.u8.max=255:=by decide
    omega
 ·rename_i m e k n aI G;split at h
  ·rename_i dy a7 xs ah;split at h
   ·rename_i he;obtain⟨rfl,rfl⟩:=he;simp only[bO,ar.bN,Option.some.injEq]at h;subst h;refine cK.pure (by grind) bh λa w κ F M be hc=>?_;have E:bC C.P s.aa κ F w (use (a8 C.aN s.ay x)).2 (a.eval x):=cP M x rfl be.1;rw[ah]at E;have U:=ou (cP M i rfl be.2) G;obtain⟨j,aF,q0,_⟩:=(aV.b7 aI (by simp)).bj;obtain⟨⟨cs,ae,pa⟩,nP⟩:=E;rw[ae]at nP;obtain⟨p,c,q,ax,aO,cF⟩:=Kj nP (i:=n.toNat) (by omega);obtain⟨v,g1,ey⟩:=qY q0 (cs:=cs) ax cF;refine⟨v,?_,ey⟩;rw[aO]at g1;simp[execOp,af,Instr.index,ae,U.1,asIntOf,dD aF,hc.1,hc.2,q0.size,g1]
   ·cases h
  ·rename_i k' f ah;split at h
   ·rename_i an;simp only[bO,ar.bN,Option.some.injEq]at h;subst h;refine cK.pure (by grind) bh λa w κ F M be hc=>?_;have E:bC C.P s.aa κ F w (use (a8 C.aN s.ay x)).2 (a.eval x):=cP M x rfl be.1;rw[ah]at E;have U:=ou (cP M i rfl be.2) G;obtain⟨j,aF,q0,cf⟩:=(aV.b7 aI (by simp)).bj;obtain⟨aD,ae,aj,fU⟩:=E;have cc:n.toNat*e.size+e.size<=aD.length:=by
     rw[aj,an];have:(n.toNat+1)*e.size<=m*e.size:=Nat.mul_le_mul_right _ (by omega);grind
    by_cases bb:e.isAgg=true
    ·simp only[if_pos bb];refine⟨_,by simp[execOp,af,Instr.index,ae,U.1,asIntOf,dD aF,hc.1,hc.2,q0.size,RH q0 bb];rfl,(aD.toArray.extract (n.toNat*e.size) (n.toNat*e.size+e.size)).toList,by simp,?_,λq bt=>?_⟩
     ·simp;omega
     ·have adv:(aD.toArray.extract (n.toNat*e.size) (n.toNat*e.size+e.size)).toList.getD q Go.undef=aD.getD (n.toNat*e.size+q) Go.undef:=by
       simp[List.getD_eq_getElem?_getD,bt]
      rw[adv];exact fU _ (by omega)
    ·simp only[if_neg bb];have a6:=fU (n.toNat*e.size) (by omega);refine⟨aD.getD (n.toNat*e.size) Go.undef,?_,a6.1⟩;have aC:aD.toArray[n.toNat*e.size]?=some (aD.getD (n.toNat*e.size) Go.undef):=by
      grind
     simp[execOp,af,Instr.index,ae,U.1,asIntOf,dD aF,hc.1,hc.2,q0.size,RG q0 (by grind) aC]
   ·cases h
  ·cases h
 ·cases h
theorem sa:∀ {l:List aH},jH l->∀ i,i<l.length->(use (l.getD i .undef)).1
 | [],_,i,G=>by grind
 | a::l,h,0,_=>by
  cases a<;>first | trivial | exact h.1
 | a::l,h,i+1,G=>by
  have dt:jH l:=by cases a<;>first | exact h | exact h.2
  have:=sa dt i (by grind);grind
theorem adw{k:bD}{n:Nat}(h:k.e9=true->n=0):∃ a cap,k.slice n=.slice a n cap:=by
 unfold bD.slice;split
 ·rename_i aB;rw[h aB];exact⟨none,0,rfl⟩
 ·exact⟨_,_,rfl⟩
theorem zm{a:Act}{w:World}{κ:Nat->bD}{F:Nat->Prop}(M:bm C s a w κ F){b:Nat}(bb:(s.aa b).body.fh=true):((κ b).e9=true->(s.aa b).body.len=0)/\(s.aa b).body.len<2 ^ 63:=by
 have aT:=M.bE b;unfold cG at aT;cases bT:(s.aa b).body with
 | bj e xs=>
  rw[bT]at aT;refine⟨λaB=>by rw[aT.1 aB];rfl,?_⟩;simp only[bR.len];cases aB:(κ b).e9 with
  | true=>rw[aT.1 aB];simp
  | false=>obtain⟨cs,hU,bF,c2,c3,c4,c5⟩:=aT.2 aB;omega
 | hD e xs=>
  rw[bT]at aT;simp only[jC,bJ,bD.slice]at aT;obtain⟨a',cap,ax,m1,m2,m3,m4⟩:=aT;simp only[bR.len];grind
 | gp e xs i v=>
  rw[bT]at aT;obtain⟨aY,cs,hU,bF,c2,c3,c4,_⟩:=aT;exact⟨λaB=>(by rw[aY]at aB;cases aB),(by simp only[bR.len];omega)⟩
 | _=>rw[bT]at bb;cases bb
theorem Kk{a:Act}{w:World}{κ:Nat->bD}{F:Nat->Prop}(M:bm C s a w κ F){b:Nat}(bb:(s.aa b).body.fh=true)(aB:(κ b).e9=false):(s.aa b).body.len<=(κ b).cap:=by
 have aT:=M.bE b;unfold cG at aT;cases bT:(s.aa b).body with
 | bj e xs=>
  rw[bT]at aT;obtain⟨cs,hU,bF,c2,c3,c4,c5⟩:=aT.2 aB;exact c3
 | hD e xs=>
  rw[bT]at aT;simp only[jC,bJ,bD.slice,aB,Bool.false_eq_true,if_false]at aT;obtain⟨a',cap,ax,m1,m2,m3,m4⟩:=aT;simp only[List.cons.injEq,Value.slice.injEq,and_true]at ax;simp only[bR.len];omega
 | gp e xs i v=>
  rw[bT]at aT;obtain⟨aY,cs,hU,bF,c2,c3,c4,_⟩:=aT;exact c3
 | _=>rw[bT]at bb;cases bb
theorem adx{a:Act}{w:World}{κ:Nat->bD}{F:Nat->Prop}(M:bm C s a w κ F){b aZ G:Nat}(bb:(s.aa b).body.fh=true){v:Value}(E:aZ<=G)(U:G<=(s.aa b).body.len)(aE:Fv (κ b) (s.aa b).body.e3 aZ G v) :
  ∃ a cap,v=.slice a (G - aZ) cap/\G - aZ<2 ^ 63:=by
 have aB:=zm M bb;rcases aE with⟨aQ,rfl⟩ | ⟨aQ,o,rfl,_⟩
 ·simp_all
 grind
theorem Ch{n:Nat}(h:n<2 ^ 63):fV .i64 (n:Int):=by
 unfold fV;have E:IntKind.i64.min=-9223372036854775808:=by decide
 have U:IntKind.i64.max=9223372036854775807:=by decide
 omega
theorem b_.mp{P:Program}{k v:ad}{id:TypeId}(h:b_ P (.map k v) id):∃ i j,P.underlying id=some (.map i j)/\b_ P k i/\b_ P v j:=by
 unfold b_ at h;simp only[cH,Bool.and_eq_true]at h;obtain⟨_,h⟩:=h;split at h
 ·rename_i i j G;simp only[Bool.and_eq_true]at h;exact⟨i,j,G,h.1,h.2⟩
 grind
theorem ady(aV:dU C.P T){t:TypeId}{d_:aH}{c:Prop}{n:Int}{u:Value}{a:Act}{w:World}{κ:Nat->bD}{F:Nat->Prop}(M:bm C s a w κ F)(h:(Fy (T t) d_).run s.aa=some (c,n))(hc:c)(ah:bC C.P s.aa κ F w d_ u)(ty:TypeId) :
  (Builtin.len_ #[t] ty #[u]).run C.P w=.ok (.int .i64 n) w/\fV .i64 n:=by
 have axD:∀ e a' m cap,T t=.slice e->u=.slice a' m cap->(m:Int)=n->m<2 ^ 63->(Builtin.len_ #[t] ty #[u]).run C.P w=.ok (.int .i64 n) w/\fV .i64 n:=by
  intro e a' m cap aI hu hm cc;obtain⟨i,G,_⟩:=(aV.b7 aI (by simp)).sl;subst hu;rw[<-hm];exact⟨by simp[Builtin.len_,dD G,goInt],Ch cc⟩
 have RS:∀ k v r es clk m,T t=.map k v->u=.map (some r)->w.heap[r]?=some (.map es clk)->es.size=m->(m:Int)=n->bQ m->(Builtin.len_ #[t] ty #[u]).run C.P w=.ok (.int .i64 n) w/\fV .i64 n:=by
  intro k v r es clk m aI hu hw pc hm cc;obtain⟨i,j,G,_⟩:=(aV.b7 aI (by simp)).mp;subst hu;rw[<-hm,<-pc];unfold bQ at cc;refine⟨?_,Ch (by omega)⟩;simp[Builtin.len_,dD G,goInt,getObj,Sem.run,hw]
 unfold Fy at h;split at h
 ·rename_i e aI;split at h
  ·rename_i a7 xs;simp only[ar.bN,Option.some.injEq,Prod.mk.injEq]at h;obtain⟨_,ah⟩:=(dV rfl).1 ah;obtain⟨a',cap,ax,m1,m2,m3,m4⟩:=ah;grind
  ·simp only[ar.bN,Option.some.injEq,Prod.mk.injEq]at h;simp only[bC]at ah;grind
  ·rename_i b g;simp only[ar.e4,ar.bN]at h;split at h
   ·rename_i bl;simp only[Bool.and_eq_true,decide_eq_true_eq]at bl;simp only[Option.some.injEq,Prod.mk.injEq]at h;have ae:=ah.2 bl.1.symm bl.2;have aB:=zm M bl.2;obtain⟨a',cap,he⟩:=adw (k:=κ b) aB.1;grind
   grind
  ·rename_i b g aZ G;simp only[ar.e4,ar.bN]at h;split at h
   ·rename_i bl;simp only[Bool.and_eq_true,decide_eq_true_eq]at bl;simp only[Option.some.injEq,Prod.mk.injEq]at h;obtain⟨⟨aQ,aS⟩,bP⟩:=ah.2 bl.1.symm bl.2;obtain⟨a',cap,he,cc⟩:=adx M bl.2 aQ aS bP;grind
   grind
  ·cases h
 ·rename_i aI;split at h
  ·rename_i xs;simp only[ar.bN,Option.some.injEq,Prod.mk.injEq]at h;obtain⟨rfl,cc⟩:=mh.1 ah;have dq:=(aV.b7 aI (by simp)).str;rw[<-h.2];have aE:ByteArray.size ⟨xs.toArray⟩=xs.length:=by rfl
   exact⟨by simp[Builtin.len_,dD dq,goInt,aE],Ch (by omega)⟩
  ·cases h
 ·rename_i k v aI;split at h
  ·rename_i k' h3 xs;simp only[ar.bN,Option.some.injEq,Prod.mk.injEq]at h;obtain⟨rfl,h⟩:=h;obtain⟨_,ah⟩:=(dV rfl).1 ah;rcases ah with⟨ax,rfl⟩ | ⟨r,es,clk,ax,m1,m2,m3,_⟩
   ·obtain rfl:=(List.cons.inj ax).1;obtain⟨i,j,G,_⟩:=(aV.b7 aI (by simp)).mp;rw[<-h];exact⟨by simp[Builtin.len_,dD G,goInt],Ch (by simp)⟩
   grind
  ·rename_i b g;simp only[ar.e4,ar.bN]at h;split at h
   ·rename_i aC;split at h
    ·rename_i k' h3 es bT;simp only[Option.some.injEq,Prod.mk.injEq]at h;obtain⟨rfl,h⟩:=h;have aT:=M.bE b;unfold cG at aT;rw[bT]at aT;obtain⟨ms,clk,dz,dP⟩:=aT;exact RS k v _ ms clk es.length aI (ah.2 aC.symm (by rw[bT];rfl)) dz dP.1 h hc
    ·rename_i k' h3 es bT;simp only[Option.some.injEq,Prod.mk.injEq]at h;obtain⟨rfl,h⟩:=h;have aT:=M.bE b;unfold cG at aT;rw[bT]at aT;rcases aT with⟨ax,_⟩ | ⟨r,ms,clk,ax,Ci,dz,dP,_⟩
     ·cases ax
     ·simp only[List.cons.injEq,Value.map.injEq,Option.some.injEq,and_true]at ax;subst ax;exact RS k v _ ms clk es.length aI (ah.2 aC.symm (by rw[bT];rfl)) dz dP h hc
    grind
   grind
  ·cases h
 ·cases h
theorem xe{b:Builtin}{args:Array Operand}{dp:Array TypeId}{a:Act}{w w':World}{v:Value}(af:o.op=.call { callee:=.builtin b,args:=args,argTypes:=dp })
  (h:(builtin b dp o.type (args.map fun | .const _=>true | _=>false) (args.map a.eval)).run C.P w=.ok (.value v) w'):(execOp a.eval o).run C.P w=.ok (.value v) w':=by
 simp only[execOp,af,Sem.run_bind,resolve,Sem.run_pure,Result.andThen_ok,invoke];exact h
theorem adz(aV:dU C.P T){args:Array Operand}{dp:Array TypeId}(bh:∀ i,o.dst=some i->i<C.nt)(af:o.op=.call { callee:=.builtin .len,args:=args,argTypes:=dp })(h:(bx C.aN T bg (a8 C.aN s.ay) o).run s.aa=some res):cK C o s res:=by
 obtain⟨args⟩:=args;obtain⟨dp⟩:=dp;simp only[bx,af,mQ,B7]at h;split at h
 ·rename_i x t;simp only[bO,ar.e5,Option.bind_eq_some_iff,ar.bN,Option.some.injEq]at h;obtain⟨⟨c,n⟩,aB,rfl⟩:=h;refine cK.pure (by grind) bh λa w κ F M be hc=>?_;obtain⟨E,U⟩:=ady aV M aB hc (cP M x rfl be) o.type;refine⟨_,xe af ?_,gV.2 ⟨rfl,U⟩⟩;simp[builtin,E]
 ·cases h
theorem adA(aV:dU C.P T){args:Array Operand}{dp:Array TypeId}(bh:∀ i,o.dst=some i->i<C.nt)(af:o.op=.call { callee:=.builtin .cap,args:=args,argTypes:=dp })(h:(B9 T (a8 C.aN s.ay) args.toList dp.toList).run s.aa=some res):cK C o s res:=by
 obtain⟨args⟩:=args;obtain⟨dp⟩:=dp;simp only[B9]at h;split at h
 ·rename_i x t;split at h
  ·rename_i e cE aI hu;simp only[bO,ar.bN,Option.some.injEq]at h;subst h;refine cK.pure (by grind) bh λa w κ F M be hc=>?_;have ae:a.eval x=.slice none 0 0:=cP M x hu be;obtain⟨i,G,_⟩:=(aV.b7 aI (by simp)).sl;refine⟨.int .i64 0,xe af ?_,gV.2 ⟨rfl,by decide⟩⟩;simp[builtin,Builtin.cap_,ae,dD G,goInt]
  ·cases h
 ·cases h
theorem RT{a:Act}{w:World}{κ:Nat->bD}{F:Nat->Prop}(M:bm C s a w κ F){k:IntKind}:∀ (l:List Operand) {cb:Prop} {h5:z1'},mP (a8 C.aN s.ay) k l=some (cb,h5)->cb->l.map a.eval=h5.map (Value.int k)/\∀ n∈h5,fV k n
 | [],_,_,h,_=>by cases h
 | [x],cb,h5,h,be=>by
  simp only[mP]at h;split at h
  ·rename_i k' n ah;split at h
   ·rename_i an;subst an;cases h;have E:=ou (cP M x rfl be) ah;exact⟨by simp[E.1],by simpa using E.2⟩
   ·cases h
  ·cases h
 | x::y::l,cb,h5,h,be=>by
  simp only[mP]at h;split at h
  ·rename_i k' n axE axF ah aj;split at h
   ·rename_i an;subst an;cases h;have E:=ou (cP M x rfl be.1) ah;have U:=RT M (y::l) aj be.2;exact⟨by rw[List.map_cons,U.1,E.1];rfl,λm hm=>by
     rcases List.mem_cons.1 hm with rfl | hm
     ·exact E.2
     ·exact U.2 m hm⟩
   ·cases h
  ·cases h
theorem Kl{k:IntKind}:∀ (h5:z1') (m:Int),fV k m->(∀ n∈h5,fV k n)->((h5.map (Value.int k)).foldlM Builtin.min2 (Value.int k m)=pure (Value.int k (h5.foldl (λa b=>if b<a then b else a) m))/\fV k (h5.foldl (λa b=>if b<a then b else a) m))/\
  ((h5.map (Value.int k)).foldlM Builtin.max2 (Value.int k m)=pure (Value.int k (h5.foldl (λa b=>if b > a then b else a) m))/\fV k (h5.foldl (λa b=>if b > a then b else a) m))
 | [],m,h,_=>⟨⟨rfl,h⟩,rfl,h⟩
 | n::h5,m,h,aj=>by
  have aB:=aj n (by simp);have aj:=λq bt=>aj q (List.mem_cons_of_mem n bt);have E:=(Kl h5 (if n<m then n else m) (by split<;>assumption) aj).1;have U:=(Kl h5 (if n > m then n else m) (by split<;>assumption) aj).2;refine⟨⟨?_,E.2⟩,?_,U.2⟩
  ·simp only[List.map_cons,List.foldlM_cons,List.foldl_cons,Builtin.min2];rw[<-E.1];simp
  ·simp only[List.map_cons,List.foldlM_cons,List.foldl_cons,Builtin.max2];rw[<-U.1];simp
theorem RU{b:Builtin}{f:Int->Int->Int}(W:(b=.min/\f=λa b=>if b<a then b else a)\/(b=.max/\f=λa b=>if b > a then b else a)){args:Array Operand}{dp:Array TypeId}(bh:∀ i,o.dst=some i->i<C.nt)
  (af:o.op=.call { callee:=.builtin b,args:=args,argTypes:=dp }) (h:(r_ (a8 C.aN s.ay) f args.toList).run s.aa=some res):cK C o s res:=by
 obtain⟨args⟩:=args;simp only[r_]at h;split at h
 ·rename_i x y l;split at h
  ·rename_i k m ah;split at h
   ·rename_i cb h5 aj;simp only[bO,ar.bN,Option.some.injEq]at h;subst h;refine cK.pure (by grind) bh λa w κ F M be hc=>?_;have E:=ou (cP M x rfl be.1) ah;obtain⟨U,ag⟩:=RT M (y::l) aj be.2;obtain⟨g1,ey⟩:=Kl h5 m E.2 ag;have dY:(x::y::l).map a.eval=Value.int k m::h5.map (Value.int k):=by rw[List.map_cons,U,E.1]
    refine⟨.int k (h5.foldl f m),xe af ?_,gV.2 ⟨rfl,?_⟩⟩
    ·rcases W with⟨rfl,rfl⟩ | ⟨rfl,rfl⟩
     ·simp only[builtin,Builtin.min_,List.map_toArray,dY];rw[g1.1];rfl
     ·simp only[builtin,Builtin.max_,List.map_toArray,dY];rw[ey.1];rfl
    ·rcases W with⟨rfl,rfl⟩ | ⟨rfl,rfl⟩
     ·exact g1.2
     ·exact ey.2
   ·cases h
  ·cases h
 ·cases h
end
end Go.Fer
namespace Go.Fer
open Go.RowKit
def fj(H:Nat->bK)(x:bK):bK:=match x.body with
 | .bj e xs=>⟨x.gen,.hD e xs⟩
 | .mp k v es=>⟨x.gen,.ji k v es⟩
 | .cells t f=>match (ie t ((List.range t.size).map f)).run H with
  | some (y,_,[])=>⟨x.gen,.gK t y⟩
  | _=>x
 | _=>x
def aA.cB(s:aA)(l:List Nat):aA:=⟨s.ay,λi=>if i∈l then fj s.aa (s.aa i) else s.aa i⟩
theorem RV(H:Nat->bK):∀ (l:List Nat) (s:aA),(∀ i∈l,s.aa i=H i\/s.aa i=fj H (H i))->s.gi ((jG l).run H)=⟨s.ay,λi=>if i∈l then fj H (H i) else s.aa i⟩
 | [],s,_=>by
  rfl
 | b::l,s,h=>by
  simp only[jG,ar.e4,ar.run_bind];have key:∀ (s':aA),s'.ay=s.ay->s'.aa b=fj H (H b)->(∀ i,i≠b->s'.aa i=s.aa i)->s'.gi ((jG l).run H)=⟨s.ay,λi=>if i∈b::l then fj H (H i) else s.aa i⟩:=by
   intro s' ax aO cF;rw[RV H l s']
   ·rw[ax];congr 1;funext i;by_cases G:i=b
    ·subst G;simp only[aO,List.mem_cons,true_or,if_true];split<;>rfl
    ·rw[cF i G];simp[G]
   ·intro i G;by_cases eM:i=b
    ·subst eM;exact .inr aO
    ·rw[cF i eM];exact h i (by simp[G])
  have hF:fj H (H b)=H b->s.gi ((jG l).run H)=⟨s.ay,λi=>if i∈b::l then fj H (H i) else s.aa i⟩:=λe=>
   key s rfl (by grind) λ_ _=>rfl
  have put:∀ x,fj H (H b)=x->s.gi ((b,x)::(jG l).run H)=⟨s.ay,λi=>if i∈b::l then fj H (H i) else s.aa i⟩:=λx e=>by
   simp only[aA.gi];exact key _ rfl (by simp[aA.cz,e]) λi G=>by simp[aA.cz,G]
  cases W:(H b).body with
  | bj e xs=>exact put _ (by simp[fj,W])
  | mp k v es=>exact put _ (by simp[fj,W])
  | cells t f=>
   simp only[ar.run_bind,ar.bN];cases aC:(ie t ((List.range t.size).map f)).run H with
   | none=>exact hF (by simp[fj,W,aC])
   | some z=>
    obtain⟨y,m,r⟩:=z;cases r with
    | nil=>exact put _ (by simp[fj,W,aC])
    | cons c r=>exact hF (by simp[fj,W,aC])
  | _=>exact hF (by simp[fj,W])
theorem tI(s:aA)(l:List Nat):s.gi ((jG l).run s.aa)=s.cB l:=by
 rw[RV s.aa l s λi _=>.inl rfl];rfl
theorem Cj:∀ (l:List (Nat×bK)) (s:aA) (p:Nat×bK),s.gi (l++[p])=(s.gi l).cz p.1 p.2
 | [],_,_=>rfl
 | q::l,s,p=>by simp only[List.cons_append,aA.gi];exact Cj l _ p
def bR.RW:bR->Bool | .ct _ _ _ _=>true | .gp _ _ _ _=>true | _=>false
def gM(H:Nat->bK)(l:List Nat):Prop:=∀ b∈l,(H b).body.RW=false/\∀ t f,(H b).body=.cells t f->∃ y m,(ie t ((List.range t.size).map f)).run H=some (y,m,[])/\∀ c∈m,c∈l
theorem gM.nil(H:Nat->bK):gM H []:=λb W=>by cases W
theorem gM.append{H:Nat->bK}{l m:List Nat}(h:gM H l)(k:gM H m):gM H (l++m):=by
 intro b W;rcases List.mem_append.1 W with W | W
 ·obtain⟨E,U⟩:=h b W;grind
 ·obtain⟨E,U⟩:=k b W;grind
theorem gM.one{H:Nat->bK}{b:Nat}(E:(H b).body.RW=false)(U:(H b).body.fK=false):gM H [b]:=by
 intro c hc;obtain rfl:=List.mem_singleton.1 hc;exact⟨E,λt f e=>by rw[e]at U;cases U⟩
theorem sb{H:Nat->bK}{t:ad}{av:aH}{x:t.ai}{l:List Nat}(h:(dX t av).run H=some (x,l)):gM H l:=by
 cases av with
 | val cY y=>
  simp only[dX,ar.bN,Option.map_eq_some_iff,Prod.mk.injEq]at h;obtain⟨z,bl,rfl,rfl⟩:=h;exact .nil H
 | cv=>
  cases t<;>simp only[dX,ar.none,ar.bN,reduceCtorEq,Option.some.injEq,Prod.mk.injEq]at h;obtain⟨rfl,rfl⟩:=h;exact .nil H
 | jB u=>
  simp only[dX,ar.bN,Option.map_eq_some_iff,Prod.mk.injEq]at h;obtain⟨z,bl,rfl,rfl⟩:=h;exact .nil H
 | dW cY y=>
  cases t<;>simp only[dX,ar.none,ar.bN,reduceCtorEq,Option.map_eq_some_iff,Prod.mk.injEq]at h;obtain⟨z,bl,rfl,rfl⟩:=h;exact .nil H
 | al b g=>
  cases t<;>simp only[dX,ar.none,ar.bN,ar.e4,reduceCtorEq]at h;split at h
  ·split at h
   ·rename_i W;simp only[Option.map_eq_some_iff,Prod.mk.injEq]at h;obtain⟨z,bl,rfl,rfl⟩:=h;exact .one (by rw[W];rfl) (by rw[W];rfl)
   ·simp only[Option.map_eq_some_iff,Prod.mk.injEq]at h;obtain⟨z,bl,rfl,rfl⟩:=h;exact .nil H
   grind
  grind
 | sub b g aZ G=>
  cases t<;>simp only[dX,ar.none,ar.bN,ar.e4,reduceCtorEq]at h;split at h
  ·split at h
   ·rename_i W;simp only[Option.map_eq_some_iff,Prod.mk.injEq]at h;obtain⟨z,bl,rfl,rfl⟩:=h;exact .one (by rw[W];rfl) (by rw[W];rfl)
   ·simp only[Option.map_eq_some_iff,Prod.mk.injEq]at h;obtain⟨z,bl,rfl,rfl⟩:=h;exact .nil H
   grind
  grind
 | fJ b g=>
  cases t<;>simp only[dX,ar.none,ar.bN,ar.e4,reduceCtorEq]at h;split at h
  ·split at h
   ·rename_i W;simp only[Option.map_eq_some_iff,Prod.mk.injEq]at h;obtain⟨z,bl,rfl,rfl⟩:=h;exact .one (by rw[W];rfl) (by rw[W];rfl)
   ·simp only[Option.map_eq_some_iff,Prod.mk.injEq]at h;obtain⟨z,bl,rfl,rfl⟩:=h;exact .nil H
   grind
  grind
 | iz k n c=>
  cases t<;>simp only[dX,ar.none,ar.bN,reduceCtorEq]at h;split at h
  ·cases h;exact .nil H
  ·cases h
 | _=>cases h
theorem RX{H:Nat->bK}{e:ad}(gu:∀ {cs:List aH} {x:e.ai} {l:List Nat} {r:List aH},(ie e cs).run H=some (x,l,r)->gM H l){av:aH}{x:Option e.ai}{l:List Nat}
  (h:(tB e (ie e) av).run H=some (x,l)):gM H l:=by
 have cn:(dX (.bI e) av).run H=some (x,l)->gM H l:=sb (t:=.bI e);cases av with
 | aX b g off=>
  simp only[tB,ar.e4]at h;split at h
  ·split at h
   ·simp only[ar.bN,Option.map_eq_some_iff,Prod.mk.injEq]at h;obtain⟨z,bl,rfl,rfl⟩:=h;exact .nil H
   ·rename_i t f W;split at h
    ·rename_i aI;subst aI;simp only[ar.e5,Option.bind_eq_some_iff,ar.bN]at h;obtain⟨⟨y,m,q⟩,E,U⟩:=h;split at U
     ·rename_i bt;simp only[Option.some.injEq,Prod.mk.injEq]at U;obtain⟨rfl,rfl⟩:=U;have bt:q=[]:=List.isEmpty_iff.1 bt;subst bt;intro c hc;rcases List.mem_cons.1 hc with rfl | hc
      ·refine⟨by rw[W];rfl,λcY iD e=>?_⟩;grind
      ·obtain⟨aQ,aS⟩:=gu E c hc;grind
     grind
    ·cases h
   ·cases h
  ·cases h
 | _=>exact cn h
theorem RY{H:Nat->bK}:∀ (t:ad) {cs:List aH} {x:t.ai} {l:List Nat} {r:List aH},(ie t cs).run H=some (x,l,r)->gM H l:=by
 have p6:∀ (t:ad) (g:aH->ar (Option (t.ai×List Nat))),(∀ {av:aH} {x:t.ai} {l:List Nat},(g av).run H=some (x,l)->gM H l)->
   ∀ {cs:List aH} {x:t.ai} {l:List Nat} {r:List aH},(match cs with | c::r=>(g c).map λo=>o.map λ(x,l)=>(x,l,r) | []=>.none:ar (Option (t.ai×List Nat×List aH))).run H=some (x,l,r)->gM H l:=by
  intro t g aC cs x l r h;cases cs with
  | nil=>cases h
  | cons c cs=>
   simp only[ar.map,ar.run_bind,ar.bN,Option.map_eq_some_iff,Prod.mk.injEq]at h;grind
 intro t;induction t with
 | bool=>intro cs x l r h;exact p6 .bool (dX .bool) sb h
 | int k=>intro cs x l r h;exact p6 (.int k) (dX (.int k)) sb h
 | str=>intro cs x l r h;exact p6 .str (dX .str) sb h
 | cU=>
  intro cs x l r h;simp only[ie,ar.bN,Option.some.injEq,Prod.mk.injEq]at h;obtain⟨_,rfl,rfl⟩:=h;exact .nil H
 | st t aK=>intro cs x l r h;exact aK h
 | az a b fy eK=>
  intro cs x l r h;simp only[ie,ar.e5,Option.bind_eq_some_iff,ar.bN,Option.some.injEq,Prod.mk.injEq]at h;obtain⟨⟨y,m,q⟩,E,⟨z,dy,q'⟩,U,rfl,rfl,rfl⟩:=h;exact (fy E).append (eK U)
 | slice e aK=>intro cs x l r h;exact p6 (.slice e) (dX (.slice e)) sb h
 | array n e aK=>
  intro cs xs l r h;simp only[ie]at h;have key:∀ (n:Nat) {cs:List aH} {xs:List e.ai} {l:List Nat} {r:List aH},(n.rec (motive:=λ_=>List aH->ar (Option (List e.ai×List Nat×List aH))) (λcs=>.ret (some ([],[],cs)))
     (λ_ aK cs=>(ie e cs).cR λ(x,l,r)=>(aK r).cR λ(xs,m,q)=>.ret (some (x::xs,l++m,q))) cs).run H=some (xs,l,r)->gM H l:=by
   intro n;induction n with
   | zero=>intro cs xs l r h;cases h;exact .nil H
   | succ n B4=>
    intro cs xs l r h;simp only[ar.e5,Option.bind_eq_some_iff,ar.bN,Option.some.injEq,Prod.mk.injEq]at h;obtain⟨⟨y,m,q⟩,E,⟨z,dy,q'⟩,U,rfl,rfl,rfl⟩:=h;exact (aK E).append (B4 U)
  grind
 | bI e aK=>intro cs x l r h;exact p6 (.bI e) (tB e (ie e)) (RX aK) h
 | map k v wX wY=>intro cs x l r h;exact p6 (.map k v) (dX (.map k v)) sb h
 | fn a b fy eK=>intro cs x l r h;exact p6 (.fn a b) (dX (.fn a b)) sb h
 | ct a aK=>intro cs x l r h;exact p6 (.ct a) (dX (.ct a)) sb h
 | eu=>intro cs x l r h;exact p6 .eu (dX .eu) sb h
theorem mT{H:Nat->bK}{t:ad}{av:aH}{x:t.ai}{l:List Nat}(h:(dC t av).run H=some (x,l)):gM H l:=by
 have cn:(kr t av).run H=some (x,l)->gM H l:=by
  intro h;unfold kr at h;split at h
  ·exact RX (λh=>RY _ h) h
  ·split at h
   ·exact sb h
   ·cases h
 cases av with
 | val cY y=>
  simp only[dC,ar.bN,Option.map_eq_some_iff,Prod.mk.injEq]at h;obtain⟨z,bl,rfl,rfl⟩:=h;exact .nil H
 | agg n f=>
  simp only[dC]at h;split at h
  ·cases h
  ·simp only[ar.e5,Option.bind_eq_some_iff,ar.bN]at h;obtain⟨⟨y,m,q⟩,E,U⟩:=h;split at U
   ·simp only[Option.some.injEq,Prod.mk.injEq]at U;obtain⟨rfl,rfl⟩:=U;exact RY t E
   grind
 | _=>exact cn h
theorem zn(H:Nat->bK)(x:bK):fj H x=x\/(∃ e xs,x.body=.bj e xs/\fj H x=⟨x.gen,.hD e xs⟩)\/(∃ k v es,x.body=.mp k v es/\fj H x=⟨x.gen,.ji k v es⟩)\/
  ∃ t f y m,x.body=.cells t f/\(ie t ((List.range t.size).map f)).run H=some (y,m,[])/\fj H x=⟨x.gen,.gK t y⟩:=by
 cases ah:x.body with
 | bj e xs=>exact .inr (.inl ⟨e,xs,rfl,by simp[fj,ah]⟩)
 | mp k v es=>exact .inr (.inr (.inl ⟨k,v,es,rfl,by simp[fj,ah]⟩))
 | cells t f=>
  cases aC:(ie t ((List.range t.size).map f)).run H with
  | none=>exact .inl (by simp[fj,ah,aC])
  | some z=>
   obtain⟨y,m,r⟩:=z;cases r with
   | nil=>exact .inr (.inr (.inr ⟨t,f,y,m,rfl,aC,by simp[fj,ah,aC]⟩))
   | cons c r=>exact .inl (by simp[fj,ah,aC])
 | _=>exact .inl (by simp[fj,ah])
theorem adB{H:Nat->bK}{x:bK}{k:bD}(h:(fj H x).body.b1 k=true):(x.body.b1 k=true/\fj H x=x):=by
 rcases zn H x with e | ⟨_,_,_,e⟩ | ⟨_,_,_,_,e⟩ | ⟨_,_,_,_,_,_,e⟩
 ·grind
 all_goals rw[e]at h;cases h
theorem RZ(s:aA)(l:List Nat)(κ:Nat->bD):fr s.aa κ (s.cB l).aa κ:=by
 rw[BY];intro b;simp only[aA.cB];split
 ·rcases zn s.aa (s.aa b) with e | ⟨_,_,ah,e⟩ | ⟨_,_,_,ah,e⟩ | ⟨_,_,_,_,ah,_,e⟩
  ·rw[e];exact p3.refl _ _
  ·rw[e];exact⟨Nat.le_refl _,λ_=>⟨λh=>(by cases h),λ_=>⟨by rw[ah];rfl,rfl,by rw[ah];rfl,by rw[ah];rfl⟩,λh=>(by cases h),λh=>(by cases h)⟩⟩
  ·rw[e];exact⟨Nat.le_refl _,λ_=>⟨λh=>(by cases h),λh=>(by cases h),λ_=>⟨by rw[ah];rfl,rfl⟩,λh=>(by cases h)⟩⟩
  ·rw[e];exact⟨Nat.le_refl _,λ_=>⟨λ_=>⟨by rw[ah];rfl,rfl⟩,λh=>(by cases h),λh=>(by cases h),λh=>(by cases h)⟩⟩
 ·exact p3.refl _ _
theorem bm.lj{C:b'}{a:Act}{w:World}{κ:Nat->bD}{l:List Nat}{s:aA}{F:Nat->Prop}(lR:gM s.aa l)(h:bm C s a w κ F) :
  ∃ F',(∀ r,F r->F' r)/\bm C (s.cB l) a w κ F'/\iX s.aa κ F' l:=by
 let F':Nat->Prop:=λr=>F r\/∃ b∈l,(s.aa b).body.b1 (κ b)=true/\(κ b).aa=r;have bp:∀ r,F r->F' r:=λr M=>.inl M;have tJ:iX s.aa κ F' l:=λb W af=>.inr ⟨b,W,af,rfl⟩;have Km:∀ b,((s.cB l).aa b).body.b1 (κ b)=true->b ∉ l/\(s.aa b).body.b1 (κ b)=true:=by
  intro b W;simp only[aA.cB]at W;by_cases iE:b∈l
  ·rw[if_pos iE]at W;obtain⟨aQ,aS⟩:=adB W;exfalso;obtain⟨bF,c2⟩:=lR b iE;cases ah:(s.aa b).body with
   | bj e xs=>simp[fj,ah,bR.b1]at W
   | mp k v es=>simp[fj,ah,bR.b1]at W
   | cells t f=>
    obtain⟨y,m,g,_⟩:=c2 t f ah;simp[fj,ah,g,bR.b1]at W
   | ct k v c r=>rw[ah]at bF;cases bF
   | gp e xs i v=>rw[ah]at bF;cases bF
   | _=>rw[ah]at aQ;cases aQ
  grind
 have aj:=RZ s l κ;refine⟨F',bp,?_,tJ⟩;refine h.move aj bp (λr M=>M.imp id λ⟨b,_,E,U⟩=>.inl ⟨b,E,U⟩) (Nat.le_refl _) (λ_ _ _=>rfl) (dd.refl _) (λ_ b=>?_) (λb W=>?_) (λb bf W dc e=>h.inj b bf (Km b W).2 (Km bf dc).2 e) (λr M=>?_) (λb _ W=>⟨rfl,?_⟩)
 ·show cG C.P (s.cB l).aa κ F' w b;by_cases iE:b∈l
  ·have aT:=h.bE b;have Kn:(s.cB l).aa b=fj s.aa (s.aa b):=by simp[aA.cB,iE]
   have lf:fj s.aa (s.aa b)=s.aa b->cG C.P (s.cB l).aa κ F' w b:=λe=>cG.lf aT aj bp (c6.refl _ _) (by grind) rfl λ_=>rfl;cases ah:(s.aa b).body with
   | bj e xs=>
    unfold cG at aT ⊢;rw[ah]at aT;rw[Kn];simp only[fj,ah,jC];exact J4 aT bp λaB=>tJ b iE (by rw[ah];simp[bR.b1,aB])
   | mp k v es=>
    unfold cG at aT ⊢;rw[ah]at aT;rw[Kn];simp only[fj,ah,jC];exact Ru aT bp (tJ b iE (by rw[ah];rfl))
   | cells t f=>
    obtain⟨y,m,g,hm⟩:=(lR b iE).2 t f ah;unfold cG at aT ⊢;rw[ah]at aT;rw[Kn];simp only[fj,ah,g,jC];obtain⟨cs,T,aQ,aS,bP⟩:=aT;have iB:ez C.P s.aa κ F w ((List.range t.size).map f) cs.toList:=B3 (by omega) λi G=>by
     simp_all
    obtain⟨c,d,J6,bF,c2⟩:=J7 h.bE bp t g (λc hc=>tJ c (hm c hc)) iB;cases d with
    | cons _ _=>exact c2.elim
    | nil=>
     rw[List.append_nil]at J6;refine⟨c,⟨tJ b iE (by rw[ah];rfl),rfl,λj aF=>?_⟩,bF⟩;have fW:j<cs.size:=by grind
     simp only[World.cell?,aQ,Nat.zero_add,Option.isSome_none,Bool.false_eq_true,if_false,Array.getElem?_eq_getElem fW];grind
   | _=>exact lf (by simp[fj,ah])
  ·exact cG.lf (h.bE b) aj bp (c6.refl _ _) (by simp[aA.cB,iE]) rfl λ_=>rfl
 ·obtain⟨aQ,aS⟩:=Km b W;have af:=h.al b aS;refine⟨af.1,λaq=>?_,.inl ⟨b,aS,rfl⟩⟩;rcases aq with aq | ⟨b0,m1,m2,m3⟩
  ·grind
  ·exact aQ (h.inj b b0 aS m2 m3.symm ▸ m1)
 ·rcases M with M | ⟨b,_,W,rfl⟩
  ·exact h.db r M
  ·exact (h.al b W).1
 ·split at W
  ·rcases zn s.aa (s.aa b) with e | ⟨_,_,ah,e⟩ | ⟨_,_,_,ah,e⟩ | ⟨_,_,_,_,ah,_,e⟩
   ·grind
   ·rw[e]at W;simp[bR.fK,bR.gW]at W
   ·rw[ah];exact .inr rfl
   ·rw[ah];exact .inl rfl
  omega
section
variable {C:b'} {T:Nat->ad} {bg:Nat->Option aL} {o:Oper} {s:aA} {res:eC}
theorem bm.fL{a:Act}{w:World}{κ:Nat->bD}{F:Nat->Prop}(h:bm C s a w κ F){b:Nat}(W:b<C.nt):b<eR:=Nat.lt_of_lt_of_le W h.gq
theorem bm.newVar{a:Act}{w:World}{κ:Nat->bD}{F:Nat->Prop}(h:bm C s a w κ F){b:Nat}(B1:b<eR){t:ad}{l:List aH}{cs:List Value}{ty:TypeId}(aj:ez C.P s.aa κ F w l cs)(aI:l.length=t.size) :
  ∃ κ',bm C (s.cz b ⟨(s.aa b).gen+1,.cells t (hh l)⟩) a (w.alloc (.cells cs.toArray ty)) κ' F/\(κ' b).aa=w.heap.size:=by
 refine⟨_,h.alloc (k:=⟨w.heap.size,0,0,false⟩) B1 (Nat.lt_succ_self _) rfl λH κ' mU B0 cc=>?_,by simp⟩;refine⟨cs.toArray,ty,p4 _ _,by simp[<-aj.len,aI],λi G=>?_⟩;have:=aj.kP i (by omega);have e:cs.toArray.getD i Go.undef=cs.getD i Go.undef:=by simp
 rw[e];exact⟨bC.lb cc (λ_ M=>M) (c6.alloc h.db _) this.1,this.2⟩
theorem Ck(t:ad){P:Program}{z:Value}(h:j5 t z.cells.toList=some []):(r7 t).length=t.size/\z.cells.size=t.size:=by
 obtain⟨c,e,E,U⟩:=vb (P:=P) (H:=λ_=>⟨0,.fz⟩) (κ:=λ_=>⟨0,0,0,true⟩) (F:=λ_=>True) (w:=default) t h;rw[List.append_nil]at e;have:=hP t E;have:=U.len;grind
theorem adC(aV:dU C.P T){ty:TypeId}(bh:∀ i,o.dst=some i->i<C.nt)(af:o.op=.alloc ty)(h:(bx C.aN T bg (a8 C.aN s.ay) o).run s.aa=some res)(p9:T ty≠.cU):cK C o s res:=by
 simp only[bx,af]at h;obtain⟨b,aw,an⟩:=qZ h;simp only[if_neg p9,Option.some.injEq]at an;subst an;intro a w κ F Q M _ _;have dq:=aV.b7 rfl p9;obtain⟨i,z,E,U,ag,a6,bM,dn⟩:=kt dq.ks;obtain⟨c,e,ow,z2⟩:=vb (P:=C.P) (H:=s.aa) (κ:=κ) (F:=F) (w:=w) (T ty) bM;rw[List.append_nil]at e;have bl:=Ck (T ty) (P:=C.P) bM;obtain⟨κ',b5,cw⟩:=M.newVar (b:=b) (M.fL (bh b aw)) (t:=T ty) (ty:=ty) z2 bl.1;have c7:(execOp a.eval o).run C.P w=.ok (.value (.pointer (some ⟨w.heap.size,0,none⟩))) (w.alloc (.cells c.toArray ty)):=by
  have zo:z.cells=c.toArray:=by grind
  simp[execOp,af,Instr.alloc,qX E a6,newVar,newRow,zo]
 refine hv (by grind) c7 ⟨κ',F,bm.set (s:=s.cz b _) b5 bh ⟨⟨?_,rfl⟩,λ_ _=>?_⟩⟩
 ·simp[aA.cz]
 grind
theorem Ko{P:Program}{H:Nat->bK}{κ:Nat->bD}{F:Nat->Prop}{w:World}{t:ad}{av:aH}{v:Value}{l:List aH}(h:cellsOf t av=some l)(ae:bC P H κ F w av v):ez P H κ F w l v.cells.toList:=by
 unfold cellsOf at h;split at h
 ·rename_i cY x;split at h
  ·rename_i he;subst he;simp only[Option.some.injEq]at h;subst h;obtain⟨⟨cs,rfl,_⟩,hc⟩:=ae;simp only[bJ]at hc;exact y' _ hc
  grind
 ·rename_i n f;split at h
  ·simp only[Option.some.injEq]at h;subst h;obtain⟨aD,rfl,E,U⟩:=ae;exact B3 E U
  grind
 ·rename_i n e iZ a7 x;split at h
  ·simp only[Option.some.injEq]at h;subst h;obtain⟨⟨cs,rfl,_⟩,hc⟩:=ae;exact y' _ hc
  grind
 ·rename_i n e m f;split at h
  ·simp only[Option.some.injEq]at h;subst h;obtain⟨aD,rfl,E,U⟩:=ae;exact B3 E U
  grind
 ·split at h
  ·have one:v.oneCell'=true->l=[av]->ez P H κ F w l v.cells.toList:=by
    intro E U;subst U;rw[Fq E];exact⟨⟨ae,E⟩,trivial⟩
   split at h
   ·rename_i cY x;split at h
    ·rename_i zk;obtain⟨aQ,aS⟩:=(dV zk).1 ae;exact one (J1 zk aS) (Option.some.inj h).symm
    grind
   ·exact one ae.1.2 (Option.some.inj h).symm
   ·exact one ae.1.2 (Option.some.inj h).symm
   ·exact one ae.1.2 (Option.some.inj h).symm
   ·refine one ?_ (Option.some.inj h).symm;obtain⟨p,bk,rfl,_⟩:=ae;rfl
   ·exact one ae.1.2 (Option.some.inj h).symm
   ·refine one ?_ (Option.some.inj h).symm;obtain⟨aD,rfl,_⟩:=ae;rfl
   ·refine one ?_ (Option.some.inj h).symm;simp only[bC]at ae;subst ae;rfl
   ·exact one ae.1.2 (Option.some.inj h).symm
   ·cases h
   ·cases h
   ·refine one ?_ (Option.some.inj h).symm;simp only[bC]at ae;subst ae;cases v<;>first | rfl | grind | grind | grind | grind
   grind
  grind
end
end Go.Fer
namespace Go.Fer
open Go.RowKit
theorem FM:∀ (l:List Value) (k off:Nat) (cs:Array Value),off+k+l.length<=cs.size->
  ((l.zipIdx k).foldl (λ(cs:Array Value) (p:Value×Nat)=>cs.setIfInBounds (off+p.2) p.1) cs).toList=cs.toList.take (off+k)++(l++cs.toList.drop (off+k+l.length))
 | [],k,off,cs,h=>by simp
 | c::l,k,off,cs,h=>by
  simp only[List.zipIdx_cons,List.foldl_cons];have cf:(cs.setIfInBounds (off+k) c).size=cs.size:=by simp
  rw[FM l (k+1) off _ (by grind)];simp only[Array.toList_setIfInBounds,List.length_cons]at h ⊢;have cc:off+k<cs.toList.length:=by grind
  rw[show off+(k+1)=(off+k)+1 from by omega];rw[List.take_set,List.drop_set];rw[if_pos (by omega)];have E:(cs.toList.take (off+k+1)).set (off+k) c=cs.toList.take (off+k)++[c]:=by
   rw[List.take_succ_eq_append_getElem cc,List.set_append_right _ _ (by grind)];have Cl:min (off+k) cs.size=off+k:=Nat.min_eq_left (by omega);simp[Cl]
  grind
section
variable {P:Program} {w:World}
theorem adD(w:World)(b off:Nat)(v:Value){cs:Array Value}{T:TypeId}{fj:Nat×Nat}(h:w.heap[b]?=some (.cells cs T fj)) :
  (w.setCell ⟨b,off,none⟩ v).heap[b]?=some (.cells (cs.setIfInBounds off v) T fj):=by
 simp[World.setCell,Array.getElem?_modify,h]
theorem vh{b:Nat}{T:TypeId}:∀ (aD:List Value) (off i:Nat) (w:World) (cs:Array Value),w.heap[b]?=some (.cells cs T (0,0))->off+i+aD.length<=cs.size->(∀ v∈aD,v.oneCell'=true)->
  ∃ w' di,(storeCells ⟨b,off,none⟩ aD i).run P w=.ok () w'/\w'.heap[b]?=some (.cells di T (0,0))/\di.toList=cs.toList.take (off+i)++(aD++cs.toList.drop (off+i+aD.length))/\
   (∀ r,r≠b->w'.heap[r]?=w.heap[r]?)/\w'.heap.size=w.heap.size/\dd w w'
 | [],off,i,w,cs,h,_,_=>⟨w,cs,by rfl,h,by simp,λ_ _=>rfl,rfl,dd.refl w⟩
 | v::aD,off,i,w,cs,h,aj,ae=>by
  have cc:off+i<cs.size:=by grind
  have hc:w.cell? ⟨b,off+i,none⟩=some cs[off+i]:=by rw[vg h];simp
  have aq:w.frozen? ⟨b,off+i,none⟩=false:=by simp[World.frozen?,h]
  have E:=adD w b (off+i) v h;obtain⟨w',di,b5,cw,eg,lk,ky,mo⟩:=vh aD off (i+1) (w.setCell ⟨b,off+i,none⟩ v) _ E (by grind) (λu hu=>ae u (by grind));refine⟨w',di,?_,cw,?_,?_,by simp_all,dd.trans (b:=w.setCell ⟨b,off+i,none⟩ v) ⟨rfl,rfl,rfl⟩ mo⟩
  ·simp only[storeCells,Sem.run_bind,ve,run_store P w _ v _ (ae v (by simp)),hc,aq,Bool.false_eq_true,if_false,Result.andThen_ok];exact b5
  ·rw[eg];have:=FM [v] 0 (off+i) cs (by grind);simp only[List.zipIdx_cons,List.zipIdx_nil,List.foldl_cons,List.foldl_nil,Nat.add_zero,List.length_singleton]at this;rw[this];have ax:(cs.toList.take (off+i)).length=off+i:=by grind
   rw[List.take_append,List.drop_append,ax];simp only[show off+(i+1) - (off+i)=1 from by omega,show off+(i+1)+aD.length - (off+i)=aD.length+1 from by omega];have aO:List.take (off+(i+1)) (cs.toList.take (off+i))=cs.toList.take (off+i):=List.take_of_length_le (by omega);have cF:List.drop (off+(i+1)+aD.length) (cs.toList.take (off+i))=[]:=List.drop_of_length_le (by omega);rw[aO,cF];simp only[List.length_cons,List.nil_append,List.append_assoc,List.cons_append];simp only[List.take_succ_cons,List.take_zero,List.drop_succ_cons,List.drop_drop,List.cons_append,List.nil_append];grind
  ·intro r M;rw[lk r M];exact Below.heap_setCell _ _ _ _ (by omega)
end
section
variable {C:b'} {T:Nat->ad} {bg:Nat->Option aL} {o:Oper} {s:aA} {res:eC}
theorem adE{ty:TypeId}{x:Operand}(bh:∀ i,o.dst=some i->i<C.nt)(af:o.op=.box ty x)(h:(bx C.aN T bg (a8 C.aN s.ay) o).run s.aa=some res):cK C o s res:=by
 simp only[bx,af]at h;split at h
 ·rename_i l aj;obtain⟨b,aw,an⟩:=qZ h;split at an;case isFalse=>cases an
  rename_i hlen;simp only[Option.some.injEq]at an;subst an;intro a w κ F Q M be _;have ae:=cP M x rfl be;obtain⟨κ',b5,cw⟩:=M.newVar (b:=b) (M.fL (bh b aw)) (t:=T ty) (ty:=ty) (Ko aj ae) hlen;have c7:(execOp a.eval o).run C.P w=.ok (.value (.pointer (some ⟨w.heap.size,0,none⟩))) (w.alloc (.cells (a.eval x).cells.toList.toArray ty)):=by
   simp[execOp,af,Instr.box,newVar,newRow]
  refine hv (by grind) c7 ⟨κ',F,bm.set (s:=s.cz b _) b5 bh ⟨⟨?_,rfl⟩,λ_ _=>?_⟩⟩
  ·simp[aA.cz]
  grind
 ·cases h
theorem adF{P:Program}:∀ (t:ad) {l:List Field} {off:Nat},cH P t (.inr (l,off))=true->∀ f∈l,∃ s,b_ P s f.type:=by
 intro t;induction t with
 | az a b fy eK=>
  intro l off h;match l,h with
  | [],h=>simp
  | [x],h=>simp only[cH,Bool.false_eq_true]at h
  | [x,y],h=>
   simp only[cH,Bool.and_eq_true]at h;intro f aq;simp only[List.mem_cons,List.not_mem_nil,or_false]at aq;rcases aq with rfl | rfl
   ·exact⟨a,h.1.1.1.2⟩
   ·exact⟨b,h.2.1.1.2⟩
  | x::y::z::l,h=>
   simp only[cH,Bool.and_eq_true]at h;intro f aq;rcases List.mem_cons.1 aq with rfl | aq
   ·exact⟨a,h.1.1.1.2⟩
   grind
 | _=>intro l off h;simp only[cH,Bool.false_eq_true]at h
theorem b_.adG{P:Program}{t:ad}{id:TypeId}(h:b_ P (.st t) id){eU:Array Field}(jk:P.underlying id=some (.struct eU)):∀ f∈eU.toList,∃ s,b_ P s f.type:=by
 obtain⟨_,_,ag,a6⟩:=h.Cc;rw[jk]at a6;simp only[Option.some.injEq,TypeDesc.struct.injEq]at a6;rw[<-a6]at ag;rcases ag with ag | ⟨f,e,_,ag,_⟩ | ⟨_,e⟩
 ·exact adF t ag
 ·rw[e];intro g aC;simp only[List.mem_singleton]at aC;subst aC;exact⟨t,ag⟩
 ·rw[e];intro g aC;cases aC
theorem ez.replace{P:Program}{H:Nat->bK}{κ:Nat->bD}{F:Nat->Prop}{w:World}{as l:List aH}{us aD:List Value}(h:ez P H κ F w as us)(k:ez P H κ F w l aD)(off:Nat) :
  ez P H κ F w (as.take off++(l++as.drop (off+l.length))) (us.take off++(aD++us.drop (off+aD.length))):=by
 have Cm:∀ {as:List aH} {us:List Value} (n:Nat),ez P H κ F w as us->ez P H κ F w (as.take n) (us.take n):=by
  intro as;induction as with
  | nil=>intro us n h;cases us<;>first | exact h.elim | grind
  | cons a as aK=>intro us n h;cases us with
   | nil=>exact h.elim
   | cons u us=>cases n with
    | zero=>trivial
    | succ n=>exact⟨h.1,aK n h.2⟩
 have adH:∀ {as:List aH} {us:List Value} (n:Nat),ez P H κ F w as us->ez P H κ F w (as.drop n) (us.drop n):=by
  intro as;induction as with
  | nil=>intro us n h;cases us<;>first | exact h.elim | grind
  | cons a as aK=>intro us n h;cases us with
   | nil=>exact h.elim
   | cons u us=>cases n with
    | zero=>exact h
    | succ n=>exact aK n h.2
 rw[<-k.len];exact (Cm off h).append (k.append (adH _ h))
theorem R0{P:Program}{H:Nat->bK}{κ:Nat->bD}{F:Nat->Prop}{w:World}{t:ad}{id:TypeId}{eU:Array Field}(dq:b_ P (.st t) id)(jk:P.underlying id=some (.struct eU)){place:Nat->Option (Nat×Nat)}
  (sc:∀ i f s,eU[i]?=some f->b_ P s f.type->place i=some (f.offset,s.size)):∀ (ps:List (Nat×aH)) (qs:List (Nat×Value)) {as FN:List aH} {cs:Array Value},ez P H κ F w as cs.toList->Fz t as ps=some FN->
  ps.length=qs.length->(∀ i (h:i<ps.length) (dt:i<qs.length),ps[i].1=qs[i].1/\bC P H κ F w ps[i].2 qs[i].2)->∃ di,Instr.fill place cs qs=some di/\ez P H κ F w FN di.toList
 | [],[],as,FN,cs,bb,aq,_,_=>by cases aq;exact⟨cs,rfl,bb⟩
 | (i,av)::ps,(lh,v)::qs,as,FN,cs,bb,aq,hlen,fU=>by
  have aY:=fU 0 (by simp) (by simp);simp only[List.getElem_cons_zero]at aY;obtain⟨rfl,ae⟩:=aY;simp only[Fz]at aq;split at aq
  ·cases aq
  ·rename_i s off tK;split at aq
   ·cases aq
   ·rename_i l aj;split at aq
    ·rename_i hc;obtain⟨axG,nN,f1,f2,f3,f4,f5⟩:=dq.field tK;rw[jk]at f1;simp only[Option.some.injEq,TypeDesc.struct.injEq]at f1;subst f1;have ao:=sc i nN s f2 f4;rw[f3]at ao;have iB:=Ko aj ae;have cf:v.cells.size=s.size:=by have:=iB.len;grind
     have pa:as.length=cs.size:=by simpa using bb.len
     have FO:=FM v.cells.toList 0 off cs (by grind);have e:(v.cells.zipIdx.foldl (λ(cs:Array Value) (p:Value×Nat)=>cs.setIfInBounds (off+p.2) p.1) cs)=((v.cells.toList.zipIdx 0).foldl (λ(cs:Array Value) (p:Value×Nat)=>cs.setIfInBounds (off+p.2) p.1) cs):=by
      rw[<-Array.foldl_toList];simp
     have adI:=bb.replace iB off;rw[hc.1]at adI;obtain⟨di,aQ,aS⟩:=R0 dq jk sc ps qs (cs:=v.cells.zipIdx.foldl (λ(cs:Array Value) (p:Value×Nat)=>cs.setIfInBounds (off+p.2) p.1) cs) (by rw[e,FO];omega) aq (by grind)
      (λj h dt=>by have:=fU (j+1) (by grind) (by grind);grind)
     refine⟨di,?_,aS⟩;simp only[Instr.fill,ao];grind
    grind
 | [],_::_,_,_,_,_,_,hlen,_=>by grind
 | _::_,[],_,_,_,_,_,hlen,_=>by grind
theorem R1:∀ {l:List (Nat×aH)},r9 l->∀ i (h:i<l.length),(use l[i].2).1
 | a::l,h,0,_=>by
  obtain⟨n,a⟩:=a;cases a<;>first | trivial | exact h.1
 | a::l,h,i+1,G=>by
  have dt:r9 l:=by obtain⟨n,a⟩:=a;cases a<;>first | exact h | exact h.2
  have:=R1 dt i (by grind);grind
theorem Kp{a:Act}{w:World}{κ:Nat->bD}{F:Nat->Prop}(M:bm C s a w κ F)(ps:List (Nat×Operand))(be:r9 (ps.map λp=>(p.1,a8 C.aN s.ay p.2))) :
  ∀ i (h:i<(iC (ps.map λp=>(p.1,a8 C.aN s.ay p.2))).length) (dt:i<(ps.map λp=>(p.1,a.eval p.2)).length),(iC (ps.map λp=>(p.1,a8 C.aN s.ay p.2)))[i].1=(ps.map λp=>(p.1,a.eval p.2))[i].1/\bC C.P s.aa κ F w (iC (ps.map λp=>(p.1,a8 C.aN s.ay p.2)))[i].2 (ps.map λp=>(p.1,a.eval p.2))[i].2:=by
 intro i h dt;have G:i<ps.length:=by grind
 have E:=R1 be i (by grind);simp only[List.getElem_map]at E;refine⟨by simp[iC],?_⟩;simp only[iC,List.getElem_map];exact o' (j8 M _) E
theorem adJ(aV:dU C.P T){ty:TypeId}{ps:Array (Nat×Operand)}(bh:∀ i,o.dst=some i->i<C.nt)(af:o.op=.build ty ps)(FP:∀ m e,T ty≠.array m e)(h:(bx C.aN T bg (a8 C.aN s.ay) o).run s.aa=some res):cK C o s res:=by
 obtain⟨ps⟩:=ps;simp only[bx,af]at h;split at h
 ·rename_i t aI;have dq:=aV.b7 aI (by simp);split at h
  ·rename_i cs pa;simp only[bO,ar.bN,Option.some.injEq]at h;subst h;refine cK.pure (by grind) bh λa w κ F M be _=>?_;obtain⟨eU,jk⟩:=dq.st;obtain⟨i,z,E,U,ag,a6,bM,dn⟩:=kt dq.ks;obtain⟨c,e,ow,z2⟩:=vb (P:=C.P) (H:=s.aa) (κ:=κ) (F:=F) (w:=w) (.st t) bM;rw[List.append_nil]at e;have adK:=dq.adG jk;have hm:=ChangeMaps.mapM_total (f:=λ(f:Field)=>(C.P.info? f.type).map λi=>(f.offset,i.size)) (0,0) (l:=eU.toList) (λf aq=>by
    obtain⟨s',sd⟩:=adK f aq;obtain⟨lh,_,zp,_⟩:=kt sd.ks;simp_all)
   have sc:=run_places (P:=C.P) w eU.toList _ hm;obtain⟨di,aQ,aS⟩:=R0 (w:=w) dq jk (place:=λj=>((eU.toList.map λf=>((C.P.info? f.type).map λi=>(f.offset,i.size)).getD (0,0)))[j]?)
    (λj f s' aF sd=>by
     obtain⟨lh,_,zp,xf,_⟩:=kt sd.ks;grind)
    _ _ (by rw[e];exact z2) pa (by simp[iC]) (Kp M ps be)
   have hlen:cs.length=di.size:=by simpa using aS.len
   refine⟨.agg di,?_,di.toList,by simp,by grind,λj aF=>?_⟩
   ·have Kq:(eU.mapM λf=>do pure (f.offset,<-sizeOf f.type):Sem (Array (Nat×Nat))).run C.P w=.ok (eU.toList.map λf=>((C.P.info? f.type).map λi=>(f.offset,i.size)).getD (0,0)).toArray w:=by
     rw[Array.mapM_eq_mapM_toList];simp[sc]
    simp only[execOp,af,Instr.build,Sem.run_bind,qX E a6,Result.andThen_ok,dD jk,Kq];simp_all
   ·have:=aS.kP j aF;omega
  ·cases h
 ·rename_i aI;exact absurd aI (FP _ _)
 ·cases h
end
end Go.Fer
namespace Go.Fer
open Go.RowKit
section
variable {C:b'} {T:Nat->ad} {bg:Nat->Option aL} {o:Oper} {s:aA} {res:eC}
theorem Kr{P:Program}{w w':World}{t:ad}{id:TypeId}(h:b_ P t id){p:Addr}{v:Value}(cf:v.cells.size=t.size)(aE:(storeCells p v.cells.toList).run P w=.ok () w'):(storeVar id p v).run P w=.ok () w':=by
 simp[storeVar,h.size,cf,aE]
theorem adL(aV:dU C.P T){ty:TypeId}{x y:Operand}(bh:o.dst=none)(af:o.op=.store ty x y)(h:(bx C.aN T bg (a8 C.aN s.ay) o).run s.aa=some res):cK C o s res:=by
 simp only[bx,af]at h;split at h
 ·rename_i cE b g i ah;unfold J' at h;split at h
  ·rename_i bf g' aR;simp only[ar.e4,ar.bN]at h;split at h
   ·rename_i e xs lh v bT;split at h
    ·rename_i hc;obtain⟨aC,aj⟩:=hc;simp only[Option.some.injEq]at h;subst h;intro a w κ F Q M be G;have G:i=lh:=G;subst G;have E:=(cP M x ah be.1).2 aC.symm (by rw[bT];rfl);have ae:=cP M y (av:=.al bf g') (p:=(use (a8 C.aN s.ay y)).1) (by rw[<-aR]) be.2;have aT:=M.bE b;unfold cG at aT;rw[bT]at aT E;obtain⟨aY,cs,hU,bF,c2,c3,c4,c5,lQ,ov,xd⟩:=aT;have dq:=aV.b7 (t:=T ty) rfl (by intro e;rw[e]at aj;cases aj);have tH:=Fq ae.1.2;have cf:(a.eval y).cells.size=(T ty).size:=by
      rw[tH];cases aI:T ty<;>simp_all[ad.eF,ad.size]
     have ll:(κ b).off+i<cs.size:=by
      have:i<(κ b).cap:=by omega
      rw[c5.1]at c2;omega
     have ao:a.eval x=.pointer (some ⟨(κ b).aa,(κ b).off+i,none⟩):=by rw[E.2.2];simp[bR.e3,c5.1]
     obtain⟨w',di,b5,cw,eg,lk,ky,mo⟩:=vh (P:=C.P) (a.eval y).cells.toList ((κ b).off+i) 0 w cs bF (by rw[tH];simp;omega) (λu hu=>by rw[tH]at hu;simp at hu;rw[hu];exact ae.1.2);refine FI (w':=w') (by grind) (by simp[execOp,af,ao,Instr.storeAt,Instr.sureAddr,Kr dq cf b5]) ?_;rw[bh];refine⟨κ,F,?_⟩;have gw:fr s.aa κ (λq=>if q=b then (⟨(s.aa b).gen,.gp e xs i (.al bf g')⟩:bK) else s.aa q) κ:=
      qT rfl (λh=>by cases h) (λ_=>by rw[bT];exact⟨rfl,rfl,rfl⟩) (λh=>by cases h) (λh=>by cases h)
     refine (M.o9 (b:=b) (x:=⟨(s.aa b).gen,.gp e xs i (.al bf g')⟩) (by rw[bT];simp[bR.b1,aY]) (by simp[bR.b1,aY]) gw (λh=>by cases h) (λh=>by cases h) lk ky mo λH mU cc he=>?_);rw[tH]at eg;simp only[Nat.add_zero]at eg;have eV:∀ k,di[k]?=if k=(κ b).off+i then some (a.eval y) else cs[k]?:=by
      intro k;rw[<-Array.getElem?_toList,eg];have kR:(cs.toList.take ((κ b).off+i)).length=(κ b).off+i:=by rw[List.length_take,Array.length_toList];omega
      rcases Nat.lt_trichotomy k ((κ b).off+i) with an | an | an
      ·rw[if_neg (by omega),List.getElem?_append_left (by omega),List.getElem?_take_of_lt an,Array.getElem?_toList]
      ·rw[if_pos an,List.getElem?_append_right (by omega),kR,an];simp
      ·rw[if_neg (by omega),List.getElem?_append_right (by omega),kR,List.getElem?_append_right (by simp;omega),List.getElem?_drop];simp only[List.length_cons,List.length_nil];rw[show (κ b).off+i+(0+1)+(k - ((κ b).off+i) - (0+1))=k from by omega,Array.getElem?_toList]
     have FQ:di.size=cs.size:=by
      rw[<-Array.length_toList,eg];grind
     have zq:di.getD ((κ b).off+i) Go.undef=a.eval y:=by
      rw[Array.getD_eq_getD_getElem?,eV];simp
     refine⟨aY,di,hU,cw,by omega,c3,c4,c5,λj aF qS=>?_,by rw[zq];exact bC.lb cc (λ_ M=>M) he ae,by rw[zq];exact ae.1.2⟩;obtain⟨bk,d1,d2⟩:=lQ j aF qS;refine⟨bk,λq bt=>?_,ff e (λ_ M=>M) he d2⟩;have tL:q=0:=by have:=hP e d2;omega
     subst tL;rw[eV,if_neg (by rw[c5.1];omega)];exact d1 0 bt
    ·cases h
   ·cases h
  ·cases h
 rename_i cE d_ adM ah;simp only[ar.e5,Option.bind_eq_some_iff,ar.bN,Option.some.injEq]at h;obtain⟨wl,lS,rfl⟩:=h;have Ks:cE=(use (a8 C.aN s.ay x)).1:=by rw[ah]
 have FR:d_=(use (a8 C.aN s.ay x)).2:=by rw[ah]
 subst Ks;subst FR;clear ah adM;intro a w κ F Q M be _;have ao:bC C.P s.aa κ F w (use (a8 C.aN s.ay x)).2 (a.eval x):=cP M x rfl be.1;have ae:bC C.P s.aa κ F w (use (a8 C.aN s.ay y)).2 (a.eval y):=cP M y rfl be.2;generalize (use (a8 C.aN s.ay x)).2=adN at *
 generalize (use (a8 C.aN s.ay y)).2=kv at *
 have aw:∀ c,o.op≠.defer c:=by grind
 have fin:∀ w',(Instr.storeAt ty (a.eval x) (a.eval y)).run C.P w=.ok () w'->cu C (s.gi wl) a w'->o.wpIn (dT C.r) 0 C.P a w (λa' w'=>cu C (s.h6 o.dst ⟨(use (a8 C.aN s.ay x)).1/\(use (a8 C.aN s.ay y)).1,True,.undef,wl⟩) a' w') Q:=by
  intro w' E U;refine FI (w':=w') aw (by simp[execOp,af,E]) ?_;rw[bh];exact U
 unfold Rz at lS;cases adN with
 | aX b g off=>
  simp only[ar.e4,ar.bN]at lS;split at lS
  ·rename_i aC;split at lS
   ·rename_i n f bT;simp only[Option.bind_eq_some_iff]at lS;obtain⟨l,aj,lS⟩:=lS;split at lS
    ·rename_i hc;simp only[Option.some.injEq]at lS;subst lS;have adO:=ao.2 aC.symm (by rw[bT];rfl);have iB:=Ko aj ae;have aT:=M.bE b;unfold cG at aT;rw[bT]at aT;obtain⟨cs,hU,bF,c2,c3⟩:=aT;have hlen:=iB.len;have nQ:∀ u∈(a.eval y).cells.toList,u.oneCell'=true:=by
      intro u hu;obtain⟨i,G,rfl⟩:=List.mem_iff_getElem.1 hu;have:=(iB.kP i (by omega)).2;grind
     obtain⟨w',di,b5,cw,eg,lk,ky,mo⟩:=vh (P:=C.P) (a.eval y).cells.toList off 0 w cs bF (by omega) nQ;have cf:(a.eval y).cells.size=(T ty).size:=by grind
     have vi:T ty≠.cU:=by
      intro e;rw[e]at aj;cases kv<;>simp[cellsOf,ad.eF]at aj
     refine fin w' (by rw[adO];simp[Instr.storeAt,Instr.sureAddr,Kr (aV.b7 rfl vi) cf b5]) ⟨κ,F,?_⟩;have gw:fr s.aa κ (λi=>if i=b then (⟨(s.aa b).gen,.cells n (putCells f off l)⟩:bK) else s.aa i) κ:=
      qT rfl (λ_=>by rw[bT];rfl) (λh=>by cases h) (λh=>by cases h) (λh=>by cases h)
     refine (M.o9 (b:=b) (x:=⟨(s.aa b).gen,.cells n (putCells f off l)⟩) (by rw[bT];rfl) rfl gw (λ_=>by rw[bT];rfl) (λh=>by cases h) lk ky mo λH mU cc he=>?_);have FQ:di.size=n.size:=by
      rw[<-Array.length_toList,eg];grind
     refine⟨di,hU,cw,FQ,λi G=>?_⟩;have bH:di.getD i Go.undef=di.toList.getD i Go.undef:=by simp
     rw[bH,eg];have kS:l.length=(a.eval y).cells.toList.length:=hlen;simp only[Nat.add_zero];have kR:(cs.toList.take off).length=off:=by grind
     unfold putCells;by_cases ih:off<=i/\i<off+l.length
     ·rw[if_pos ih];have ax:(cs.toList.take off++((a.eval y).cells.toList++cs.toList.drop (off+(a.eval y).cells.toList.length))).getD i Go.undef=(a.eval y).cells.toList.getD (i - off) Go.undef:=by
       grind
      rw[ax];have:=iB.kP (i - off) (by omega);exact⟨bC.lb cc (λ_ M=>M) he this.1,this.2⟩
     ·rw[if_neg ih];have ax:(cs.toList.take off++((a.eval y).cells.toList++cs.toList.drop (off+(a.eval y).cells.toList.length))).getD i Go.undef=cs.getD i Go.undef:=by
       rcases Nat.lt_or_ge i off with E | E
       ·rw[List.getD_eq_getElem?_getD,List.getElem?_append_left (by omega)];simp_all
       ·rw[List.getD_eq_getElem?_getD,List.getElem?_append_right (by omega),kR,List.getElem?_append_right (by omega),List.getElem?_drop];rw[show off+(a.eval y).cells.toList.length+(i - off - (a.eval y).cells.toList.length)=i from by omega];simp
      rw[ax];exact⟨bC.lb cc (λ_ M=>M) he (c3 i G).1,(c3 i G).2⟩
    grind
   grind
  grind
 | om b g i off=>
  simp only[ar.e5,Option.bind_eq_some_iff,ar.run_bind,ar.e4,ar.bN]at lS;obtain⟨⟨z,l⟩,bl,lS⟩:=lS;split at lS
  ·rename_i aC;obtain⟨aC,p_⟩:=aC;have p_:b ∉ l:=by grind
   split at lS
   ·rename_i e xs bT;simp only[Option.map_eq_some_iff]at lS;obtain⟨mq,zo,rfl⟩:=lS;obtain⟨jI,qa,mr⟩:=ao.2 aC.symm (by rw[bT];rfl);rw[bT]at jI mr;simp only[bR.len,bR.e3]at jI mr;obtain⟨F',f1,bc,f2⟩:=bm.lj (mT bl) M;have vj:=mm M.bE f1 bl f2 ae;have Kt:((s.cB l).aa b)=s.aa b:=by simp[aA.cB,p_]
    have aT:=bc.bE b;unfold cG at aT;rw[Kt,bT]at aT;obtain⟨cs,hU,bF,c2,c3,c4,c5⟩:=aT.2 qa;obtain⟨bk,d1,d2⟩:=c5 i jI;have Ki:xs.getD i e.df=xs[i]:=by grind
    rw[Ki]at zo;have vk:=hP e d2;obtain⟨dz,dP,ox,bt,axH,axI,adP⟩:=ac4 e d2 zo vj.2;have vi:T ty≠.cU:=by
     intro a7;have:=vj.1;rw[a7]at this;exact this
    have xg:(a.eval y).cells.toList.length=(T ty).size:=vj.1.len;have Cn:(i+1)*e.size<=(κ b).cap*e.size:=Nat.mul_le_mul_right _ (by omega);have hbound:off+(T ty).size<=e.size:=by
     grind
    have nQ:∀ u∈(a.eval y).cells.toList,u.oneCell'=true:=by
     intro u hu;have iB:=y' (P:=C.P) (H:=λ_=>⟨0,.fz⟩) (κ:=λ_=>⟨0,0,0,true⟩) (T ty) vj.2;obtain⟨j,aF,rfl⟩:=List.mem_iff_getElem.1 hu;have:=(iB.kP j (by rw[iB.len];exact aF)).2;grind
    have ll:(κ b).off+i*e.size+off+0+(a.eval y).cells.toList.length<=cs.size:=by
     grind
    obtain⟨w',di,b5,cw,eg,lk,ky,mo⟩:=vh (P:=C.P) (a.eval y).cells.toList ((κ b).off+i*e.size+off) 0 w cs bF ll nQ;refine fin w' (by rw[mr];simp[Instr.storeAt,Instr.sureAddr,Kr (aV.b7 rfl vi) (by omega) b5]) ⟨κ,F',?_⟩;have mV:s.gi ((jG l).run s.aa++[(b,⟨(s.aa b).gen,.bj e (xs.set i mq)⟩)])=(s.cB l).cz b ⟨(s.aa b).gen,.bj e (xs.set i mq)⟩:=by
     rw[Cj,tI]
    rw[mV];have gw:fr (s.cB l).aa κ (λlh=>if lh=b then (⟨(s.aa b).gen,.bj e (xs.set i mq)⟩:bK) else (s.cB l).aa lh) κ:=
     qT (by grind) (λh=>by cases h) (λ_=>by rw[Kt,bT];exact⟨rfl,by simp[bR.len],rfl⟩) (λh=>by cases h) (λh=>by cases h)
    have R2:(κ b).e9=false:=qa;refine bc.o9 (b:=b) (x:=⟨(s.aa b).gen,.bj e (xs.set i mq)⟩) (by rw[Kt,bT];simp[bR.b1,R2]) (by simp[bR.b1,R2]) gw (λh=>by cases h) (λh=>by cases h) lk ky mo λH mU cc he=>?_;refine⟨λaB=>(by grind),λ_=>?_⟩;have FQ:di.size=cs.size:=by
     rw[<-Array.length_toList,eg];grind
    refine⟨di,hU,cw,by omega,by grind,c4,λj aF=>?_⟩;have fW:j<xs.length:=by grind
    simp only[Nat.add_zero]at eg ll;have eV:∀ k,di[k]?=if (κ b).off+i*e.size+off<=k/\k<(κ b).off+i*e.size+off+(T ty).size then (a.eval y).cells.toList[k - ((κ b).off+i*e.size+off)]? else cs[k]?:=by
     intro k;rw[<-Array.getElem?_toList,eg];have kR:(cs.toList.take ((κ b).off+i*e.size+off)).length=(κ b).off+i*e.size+off:=by grind
     by_cases ih:(κ b).off+i*e.size+off<=k/\k<(κ b).off+i*e.size+off+(T ty).size
     ·rw[if_pos ih,List.getElem?_append_right (by omega),kR,List.getElem?_append_left (by omega)]
     ·rw[if_neg ih];rcases Nat.lt_or_ge k ((κ b).off+i*e.size+off) with E | E
      ·grind
      ·rw[List.getElem?_append_right (by omega),kR,List.getElem?_append_right (by omega),List.getElem?_drop];rw[show (κ b).off+i*e.size+off+(a.eval y).cells.toList.length+(k - ((κ b).off+i*e.size+off) - (a.eval y).cells.toList.length)=k from by omega];simp
    by_cases qS:j=i
    ·subst qS;have ax:(xs.set j mq)[j]=mq:=by simp
     rw[ax];refine⟨dz++((a.eval y).cells.toList++ox),λk an=>?_,ff e (λ_ M=>M) he adP⟩;rw[eV];subst bt;simp only[List.length_append]at an vk;by_cases ih:off<=k/\k<off+(T ty).size
     ·rw[if_pos (by omega)];rw[show (κ b).off+j*e.size+k - ((κ b).off+j*e.size+off)=k - dz.length from by omega];grind
     grind
    ·have ax:(xs.set i mq)[j]=xs[j]:=by grind
     rw[ax];obtain⟨R3,adQ,Ku⟩:=c5 j fW;refine⟨R3,λk an=>?_,ff e (λ_ M=>M) he Ku⟩;rw[eV,if_neg]
     ·grind
     ·have axJ:=hP e Ku;rcases Nat.lt_or_ge j i with E | E
      ·have:(j+1)*e.size<=i*e.size:=Nat.mul_le_mul_right _ (by omega);grind
      ·have:(i+1)*e.size<=j*e.size:=Nat.mul_le_mul_right _ (by omega);grind
   grind
  grind
 | _=>cases lS
end
end Go.Fer
