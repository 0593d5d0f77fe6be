/- Part 1 of the proof of Dropped: shallow programs of Go functions, and what they compute. No condition. -/
import Derived.Below
import Derived.OrdersIn
import Derived.RangeFuncCalls
import Derived.RangeFuncSeq
import Derived.Laws.StructEq
import Derived.Laws.Tables
import Derived.ChangeMaps3
noncomputable section
abbrev z1':=List Int
abbrev z2':=List (Int×Int×Int×Int)
abbrev z3':=List (Int×Int×Int)
abbrev z4':=List (Int×Int)
abbrev z5':=List ((Int×Int×Int)×Int)
abbrev z6':=List (Nat×(Nat×Nat))
abbrev z7':=List (Int×Int×Int×Int×Int×Int)
abbrev z8':=List (Nat×Nat)
abbrev z9':=List (Option Nat)
set_option linter.unusedVariables false
set_option linter.unusedSimpArgs false
namespace Go.Fer
@[ext] structure A (al:Type):Type where
 cq:Prop
 bQ:al->Prop
namespace A
variable {al β gy D aI:Type}
def pure(x:al):A al:=⟨True,λy=>y=x⟩
def bind(m:A al)(f:al->A β):A β:=⟨m.cq/\∀ x,m.bQ x->(f x).cq,λy=>∃ x,m.bQ x/\(f x).bQ y⟩
def ae(p:Prop)(m:A al):A al:=⟨p/\m.cq,m.bQ⟩
def dI(p:Prop)(x:al):A al:=⟨p,λy=>y=x⟩
def any(p:al->Prop):A al:=⟨∃ x,p x,p⟩
theorem ext'{m n:A al}(E:m.cq<->n.cq)(U:∀ x,m.bQ x<->n.bQ x):m=n:=by
 cases m;cases n;simp only[A.mk.injEq];grind
@[simp] theorem iS (x:al):(pure x).cq=True:=rfl
@[simp] theorem aw8 (x y:al):(pure x).bQ y=(y=x):=rfl
@[simp] theorem aH (x:al) (f:al->A β):bind (pure x) f=f x:=ext' (by simp[bind,pure]) (by simp[bind,pure])
@[simp] theorem aw9 (m:A al):bind m pure=m:=ext' (by simp[bind,pure]) (by simp[bind,pure])
theorem bz{p:Prop}(h:p)(m:A al):ae p m=m:=ext' (by simp[ae,h]) (by simp[ae])
@[simp] theorem br (m:A al):ae True m=m:=bz trivial m
theorem Fc(p:Prop)(m:A al)(f:al->A β):bind (ae p m) f=ae p (bind m f):=ext' (by simp[bind,ae,and_assoc]) (by simp[bind,ae])
@[simp] theorem nE (x:al):dI True x=pure x:=rfl
theorem bR{p:Prop}(h:p)(x:al):dI p x=pure x:=ext' (by simp_all) (by simp_all)
theorem dJ(p:Prop)(x:al)(f:al->A β):bind (dI p x) f=ae p (f x):=by
 apply ext'
 ·simp[bind,dI,ae]
 ·simp[bind,dI,ae]
theorem Rh{c:Prop}[Decidable c](m n:A al)(f:al->A β):bind (if c then m else n) f=if c then bind m f else bind n f:=by grind
def le(n m:A al):Prop:=m.cq->n.cq/\∀ y,n.bQ y->m.bQ y
theorem le_refl(m:A al):le m m:=λh=>⟨h,λ_ h=>h⟩
theorem le_trans{a b c:A al}(h:le a b)(k:le b c):le a c:=λaD=>⟨(h (k aD).1).1,λy aS=>(k aD).2 y ((h (k aD).1).2 y aS)⟩
theorem le_of_eq{a b:A al}(h:a=b):le a b:=h ▸ le_refl a
def cw(m:A al)(p:al->Prop):Prop:=m.cq/\∀ y,m.bQ y->p y
theorem cw.mono{m:A al}{p q:al->Prop}(h:cw m p)(k:∀ y,p y->q y):cw m q:=⟨h.1,λy aS=>k y (h.2 y aS)⟩
theorem d'{x:al}{p:al->Prop}:cw (pure x) p<->p x:=⟨λh=>h.2 x rfl,λh=>⟨trivial,λ_ e=>e ▸ h⟩⟩
theorem fX{m:A al}{f:al->A β}{p:β->Prop}:cw (bind m f) p<->cw m λx=>cw (f x) p:=
 ⟨λh=>⟨h.1.1,λx ai=>⟨h.1.2 x ai,λy aS=>h.2 y ⟨x,ai,aS⟩⟩⟩,λh=>⟨⟨h.1,λx ai=>(h.2 x ai).1⟩,λy ⟨x,ai,aS⟩=>(h.2 x ai).2 y aS⟩⟩
theorem kI{q:Prop}{m:A al}{p:al->Prop}:cw (ae q m) p<->q/\cw m p:=by
 simp[cw,ae,and_assoc]
inductive W(D aI:Type) where
 | next (s:D)
 | done (r:aI)
inductive BM(body:D->A (W D aI)):D->Prop where
 | mk (s:D) (h:(body s).cq) (k:∀ s',(body s).bQ (.next s')->BM body s'):BM body s
inductive yV(body:D->A (W D aI)):D->aI->Prop where
 | done (s:D) (r:aI) (h:(body s).bQ (.done r)):yV body s r
 | next (s s':D) (r:aI) (h:(body s).bQ (.next s')) (k:yV body s' r):yV body s r
def loop(body:D->A (W D aI))(s:D):A aI:=⟨BM body s,yV body s⟩
theorem BN(body:D->A (W D aI))(s:D) :
  loop body s=bind (body s) fun | .next s'=>loop body s' | .done r=>pure r:=by
 apply ext'
 ·constructor
  ·rintro⟨_,h,k⟩;refine⟨h,λx ai=>?_⟩;cases x with
   | next s'=>exact k s' ai
   | done r=>trivial
  ·rintro⟨h,k⟩;exact⟨s,h,λs' aD=>k _ aD⟩
 ·intro r;constructor
  ·rintro (⟨_,_,h⟩ | ⟨_,s',_,h,k⟩)
   ·exact⟨.done r,h,rfl⟩
   ·exact⟨.next s',h,k⟩
  ·rintro⟨x,ai,M⟩;cases x with
   | next s'=>exact .next s s' r ai M
   | done pZ=>cases M;exact .done s _ ai
theorem yW{body:D->A (W D aI)}{s s':D}(h:body s=pure (.next s')):loop body s=loop body s':=by
 rw[BN,h,aH]
theorem rX{body:D->A (W D aI)}{s:D}{r:aI}(h:body s=pure (.done r)):loop body s=pure r:=by
 rw[BN,h,aH]
theorem acL{body:D->A (W D aI)}{res:aI}(I:D->Prop)(wJ:D->Nat)
  (round:∀ s,I s->(∃ s',body s=pure (.next s')/\I s'/\wJ s'<wJ s)\/body s=pure (.done res)) (s:D) (h:I s) :
  loop body s=pure res:=by
 have key:∀ n s,wJ s=n->I s->loop body s=pure res:=by
  intro n;induction n using Nat.strongRecOn with
  | _ n aJ=>
   intro s aA aD;rcases round s aD with⟨s',e,eA,cc⟩ | e
   ·rw[yW e];grind
   ·exact rX e
 grind
theorem BO{body:D->A (W D aI)}{p:aI->Prop}(I:D->Prop)(wJ:D->Nat)
  (round:∀ s,I s->cw (body s) fun | .next s'=>I s'/\wJ s'<wJ s | .done r=>p r) (s:D) (h:I s):cw (loop body s) p:=by
 have key:∀ n s,wJ s=n->I s->cw (loop body s) p:=by
  intro n;induction n using Nat.strongRecOn with
  | _ n aJ=>
   intro s aA aD;rw[BN,fX];refine (round s aD).mono λy aS=>?_;cases y with
   | next s'=>grind
   | done r=>exact d'.2 aS
 grind
end A
end Go.Fer
namespace Go.Fer
def Ri(b:Nat)(c:Nat->Option Value):Prop:=
 match b with
 | 0=>∃ m,c 0=some (.int .i64 m)
 | 1 | 2=>∃ v,c 0=some v/\(v=.nilIface\/∃ lE l',v=.iface lE l')
 | 5=>∀ i,c i=if i<20 then some (.int .u64 (10 ^ i)) else none
 | _=>True
end Go.Fer
namespace Go.Fer
open Go.RowKit
inductive ad where
 | bool | int (k:IntKind) | str | cV
 | st (t:ad) | az (a b:ad)
 | slice (e:ad) | array (n:Nat) (e:ad) | bH (e:ad) | map (k v:ad) | fn (a b:ad) | cu (a:ad) | eo
 deriving DecidableEq
@[reducible] def ad.aj:ad->Type
 | .bool=>Bool
 | .int _=>Int
 | .str=>List UInt8
 | .cV=>Unit
 | .st t=>t.aj
 | .az a b=>a.aj×b.aj
 | .slice e=>List e.aj
 | .array _ e=>List e.aj
 | .bH e=>Option e.aj
 | .map k v=>List (k.aj×v.aj)
 | .fn a b=>a.aj->A b.aj
 | .cu a=>List a.aj->Prop
 | .eo=>Option Nat
def ad.dh:(t:ad)->t.aj
 | .bool=>false
 | .int _=>(0:Int)
 | .str=>[]
 | .cV=>()
 | .st t=>t.dh
 | .az a b=>(a.dh,b.dh)
 | .slice _=>[]
 | .array n e=>List.replicate n e.dh
 | .bH _=>none
 | .map _ _=>[]
 | .fn _ _=>λ_=>⟨False,λ_=>False⟩
 | .cu _=>λ_=>False
 | .eo=>none
def ad.size:ad->Nat
 | .cV=>0
 | .st t=>t.size
 | .az a b=>a.size+b.size
 | .array n e=>n*e.size
 | _=>1
def ad.eG:ad->Bool
 | .cV | .st _ | .az _ _ | .array _ _=>false
 | _=>true
def fR(k:IntKind)(n:Int):Prop:=k.min<=n/\n<=k.max
instance (k:IntKind) (n:Int):Decidable (fR k n):=inferInstanceAs (Decidable (_/\_))
def Holds(F:Nat->Prop)(w:World)(p:Addr)(cs:List Value):Prop:=
 F p.block/\p.spot=none/\∀ j (h:j<cs.length),w.cell? ⟨p.block,p.off+j,none⟩=some cs[j]
def c8(F:Nat->Prop)(w w':World):Prop:=w.heap.size<=w'.heap.size/\∀ r,F r->w'.heap[r]?=w.heap[r]?
theorem c8.refl(F:Nat->Prop)(w:World):c8 F w w:=⟨Nat.le_refl _,λ_ _=>rfl⟩
theorem c8.trans{F F':Nat->Prop}{a b c:World}(h:c8 F a b)(bn:∀ r,F r->F' r)(k:c8 F' b c):c8 F a c:=
 ⟨Nat.le_trans h.1 k.1,λr M=>(k.2 r (bn r M)).trans (h.2 r M)⟩
theorem c8.cell{F:Nat->Prop}{w w':World}(h:c8 F w w'){a:Addr}(bb:F a.block):w'.cell? a=w.cell? a:=by
 simp only[World.cell?,h.2 _ bb]
def nF(P:Program)(F:Nat->Prop)(w:World):Prop:=∀ b,b<P.globals.size->F b/\Ri b λi=>w.cell? ⟨b,i,none⟩
theorem nF.mono{P:Program}{F F':Nat->Prop}{w w':World}(h:nF P F w)(bn:∀ r,F r->F' r)(he:c8 F w w'):nF P F' w':=λb aa=>by
 obtain⟨E,U⟩:=h b aa;have e:(λi=>w'.cell? ⟨b,i,none⟩)=λi=>w.cell? ⟨b,i,none⟩:=funext λi=>he.cell (a:=⟨b,i,none⟩) E;exact⟨bn b E,e ▸ U⟩
theorem Holds.mono{F F':Nat->Prop}{w w':World}{p:Addr}{cs:List Value}(h:Holds F w p cs)(bn:∀ r,F r->F' r)(he:c8 F w w'):Holds F' w' p cs:=
 ⟨bn _ h.1,h.2.1,λj aG=>(he.cell (a:=⟨p.block,p.off+j,none⟩) h.1).trans (h.2.2 j aG)⟩
def kJ:ad->Value->Prop
 | .st t,v=>∃ cs:Array Value,v=.agg cs/\cs.size=t.size
 | .array n e,v=>∃ cs:Array Value,v=.agg cs/\cs.size=n*e.size
 | .cV,_=>False
 | .az _ _,_=>False
 | _,v=>v.cells=#[v]
def ed(aE:List Value):List Value:=aE.flatMap (·.cells.toList)
@[simp] theorem acM:ed []=[]:=rfl
@[simp] theorem JV (v:Value) (aE:List Value):ed (v::aE)=v.cells.toList++ed aE:=rfl
def wK:ad->List Value->Prop
 | .az a b,v::aE=>kJ a v/\wK b aE
 | .az _ _,[]=>False
 | .cV,aE=>aE=[]
 | t,aE=>∃ v,aE=[v]/\kJ t v
def yX:ad->Value->List Value->Prop
 | .az _ _,v,aE=>v=.tuple aE.toArray
 | .cV,v,aE=>v=.tuple #[]/\aE=[]
 | _,v,aE=>aE=[v]
def u0(F:Nat->Prop)(w w':World):Nat->Prop:=λr=>F r\/(w.heap.size<=r/\r<w'.heap.size)
structure Fe(P:Program){al:Type}(R:(Nat->Prop)->World->List Value->al->Prop)(l:Nat)(S:List al->Prop)(I:List al->Bool->(Nat->Prop)->(Nat->Prop)->World->Prop):Prop where
 BP:∀ {pre st} {F F' Y:Nat->Prop} {w w':World},I pre st F Y w->(∀ r,F r->F' r)->(∀ r,F r\/Y r->w'.heap[r]?=w.heap[r]?)->w.heap.size<=w'.heap.size->w'.os=w.os/\w'.tape=w.tape/\w'.output=w.output->(∀ r,F' r->r<w'.heap.size)->(∀ r,F' r->¬Y r)->I pre st F' Y w'
 yield:∀ {pre} {F Y:Nat->Prop} {w:World} {args:List Value} {x:al},I pre false F Y w->(∀ r,F r->r<w.heap.size)->(∀ r,Y r->r<w.heap.size/\¬F r)->(∃ T,S (pre++x::T))->R F w args x->
  YieldAt Fence.wide 0 P l args.toArray w λe w'=>∃ (b:Bool) (F' gz:Nat->Prop),e=.returned (.bool b)/\(∀ r,F r->F' r)/\(∀ r,F' r->F r\/Y r\/w.heap.size<=r)/\(∀ r,F' r->r<w'.heap.size)/\
   (∀ r,r<w.heap.size->¬Y r->w'.heap[r]?=w.heap[r]?)/\(∀ r,gz r->(Y r\/w.heap.size<=r)/\r<w'.heap.size/\¬F' r)/\w.heap.size<=w'.heap.size/\(w'.os=w.os/\w'.tape=w.tape/\w'.output=w.output)/\I (pre++[x]) (!b) F' gz w'
def Rj{al:Type}(S:List al->Prop)(I:List al->Bool->(Nat->Prop)->(Nat->Prop)->World->Prop)(F Y:Nat->Prop)(w:World)(e:Ending)(w':World):Prop:=
 ∃ v pre st F' gz,e=.returned v/\(st=false->S pre)/\I pre st F' gz w'/\(∀ r,F r->F' r)/\(∀ r,F' r->F r\/Y r\/w.heap.size<=r)/\(∀ r,F' r->r<w'.heap.size)/\
  (∀ r,r<w.heap.size->¬Y r->w'.heap[r]?=w.heap[r]?)/\(∀ r,gz r->(Y r\/w.heap.size<=r)/\r<w'.heap.size/\¬F' r)/\w.heap.size<=w'.heap.size/\(w'.os=w.os/\w'.tape=w.tape/\w'.output=w.output)
def acN:Option Nat->Value
 | none=>.nilFunc
 | some k=>.func (.func k) #[] #[]
def bJ(P:Program):(t:ad)->(Nat->Prop)->World->List Value->t.aj->Prop
 | .bool,_,_,cs,x=>cs=[.bool x]
 | .int k,_,_,cs,x=>cs=[.int k x]/\fR k x
 | .str,_,_,cs,x=>cs=[.string ⟨x.toArray⟩]/\x.length<2 ^ 63
 | .cV,_,_,cs,_=>cs=[]
 | .st t,F,w,cs,x=>bJ P t F w cs x
 | .az a b,F,w,cs,x=>∃ c d,cs=c++d/\bJ P a F w c x.1/\bJ P b F w d x.2
 | .slice e,F,w,cs,xs=>∃ a cap,cs=[.slice a xs.length cap]/\xs.length<=cap/\cap<2 ^ 63/\(a=none->cap=0)/\
   ∀ p,a=some p->0<cap->F p.block/\p.spot=none/\∀ i (h:i<xs.length),∃ bj,Holds F w ⟨p.block,p.off+i*e.size,none⟩ bj/\bJ P e F w bj xs[i]
 | .array n e,F,w,cs,xs=>∃ fl:List (List Value),cs=fl.flatten/\fl.length=n/\xs.length=n/\∀ i (h:i<xs.length) (de:i<fl.length),bJ P e F w fl[i] xs[i]
 | .bH e,F,w,cs,x=>(cs=[.pointer none]/\x=none)\/∃ p y bj,cs=[.pointer (some p)]/\x=some y/\Holds F w p bj/\bJ P e F w bj y
 | .map k v,F,w,cs,xs=>(cs=[.map none]/\xs=[])\/∃ r es clk,cs=[.map (some r)]/\F r/\w.heap[r]?=some (.map es clk)/\es.size=xs.length/\(xs.map (·.1)).Nodup/\
   (∀ i (h:i<xs.length) (de:i<es.size),kJ k es[i].key/\bJ P k F w es[i].key.cells.toList xs[i].1/\kJ v es[i].val/\bJ P v F w es[i].val.cells.toList xs[i].2/\es[i].born<clk)/\
   (∀ i j (h:i<es.size) (de:j<es.size),es[i].born=es[j].born->i=j)
 | .fn a b,F,w,cs,f=>∃ u,cs=[u]/\(u.cells=#[u]/\u.oneCell'=true)/\∀ (F':Nat->Prop) (w':World),(∀ r,F r->F' r)->c8 F w w'->(∀ r,F' r->r<w'.heap.size)->nF P F' w'->
   ∀ args x,wK a args->bJ P a F' w' (ed args) x->(f x).cq->∃ g c6,u=.func (.func g) #[] c6/\(∀ as w,(callFunc g as).run P w=.ok (.enter g as) w)/\
    Calls P g (args.toArray++c6) w' λe tp=>∃ v y aE,e=.returned v/\(f x).bQ y/\yX b v aE/\wK b aE/\bJ P b (u0 F' w' tp) tp (ed aE) y/\Below w'.heap.size w' tp
 | .cu a,F,w,cs,S=>∃ u,cs=[u]/\(u.cells=#[u]/\u.oneCell'=true)/\∀ (F':Nat->Prop) (w':World),(∀ r,F r->F' r)->c8 F w w'->(∀ r,F' r->r<w'.heap.size)->nF P F' w'->
   (∃ L,S L)->∃ g c6,u=.func (.func g) #[] c6/\(∀ as w,(callFunc g as).run P w=.ok (.enter g as) w)/\
    ∀ (l:Nat) (I:List a.aj->Bool->(Nat->Prop)->(Nat->Prop)->World->Prop) (Y:Nat->Prop),(∀ r,Y r->r<w'.heap.size/\¬F' r)->
     Fe P (λF w args x=>wK a args/\bJ P a F w (ed args) x) l S I->I [] false F' Y w'->Calls P g (#[Value.func (.yield l) #[] #[]]++c6) w' (Rj S I F' Y w')
 | .eo,_,_,cs,x=>cs=[acN x]
theorem hR{P:Program}:∀ (t:ad) {F:Nat->Prop} {w:World} {cs:List Value} {x:t.aj},bJ P t F w cs x->cs.length=t.size:=by
 intro t;induction t with
 | bool=>intro F w cs x h;simp only[bJ]at h;simp[h,ad.size]
 | int k=>intro F w cs x h;simp only[bJ]at h;simp[h.1,ad.size]
 | str=>intro F w cs x h;simp only[bJ]at h;simp[h.1,ad.size]
 | cV=>intro F w cs x h;simp only[bJ]at h;simp[h,ad.size]
 | st t aJ=>intro F w cs x h;simp only[bJ]at h;exact aJ h
 | az a b fy eL=>
  intro F w cs x h;simp only[bJ]at h;obtain⟨c,d,rfl,bb,aa⟩:=h;simp[ad.size,fy bb,eL aa]
 | slice e aJ=>intro F w cs x h;simp only[bJ]at h;obtain⟨a,cap,rfl,_⟩:=h;rfl
 | array n e aJ=>
  intro F w cs x h;simp only[bJ]at h;obtain⟨fl,rfl,E,U,ah⟩:=h;have:∀ l∈fl,l.length=e.size:=by
   intro l ak;obtain⟨i,G,rfl⟩:=List.mem_iff_getElem.1 ak;grind
  have aZ:fl.map List.length=List.replicate n e.size:=by
   rw[<-E];exact List.eq_replicate_iff.2 ⟨by simp,by grind⟩
  simp[List.length_flatten,aZ,ad.size]
 | bH e aJ=>intro F w cs x h;simp only[bJ]at h;rcases h with⟨rfl,_⟩ | ⟨p,y,bj,rfl,_⟩<;>rfl
 | map k v wL wM=>intro F w cs x h;simp only[bJ]at h;rcases h with⟨rfl,_⟩ | ⟨r,es,clk,rfl,_⟩<;>rfl
 | fn a b fy eL=>intro F w cs x h;simp only[bJ]at h;obtain⟨u,rfl,_⟩:=h;rfl
 | cu a aJ=>intro F w cs x h;simp only[bJ]at h;obtain⟨u,rfl,_⟩:=h;rfl
 | eo=>intro F w cs x h;simp only[bJ]at h;subst h;rfl
theorem fe{P:Program}:∀ (t:ad) {F F':Nat->Prop} {w w':World} {cs:List Value} {x:t.aj},(∀ r,F r->F' r)->c8 F w w'->bJ P t F w cs x->bJ P t F' w' cs x:=by
 intro t;induction t with
 | bool=>intro F F' w w' cs x _ _ h;exact h
 | int k=>intro F F' w w' cs x _ _ h;exact h
 | str=>intro F F' w w' cs x _ _ h;exact h
 | cV=>intro F F' w w' cs x _ _ h;exact h
 | st t aJ=>intro F F' w w' cs x bn he h;simp only[bJ]at h ⊢;grind
 | az a b fy eL=>
  intro F F' w w' cs x bn he h;simp only[bJ]at h ⊢;grind
 | slice e aJ=>
  intro F F' w w' cs x bn he h;simp only[bJ]at h ⊢;obtain⟨a,cap,rfl,E,U,ah,aZ⟩:=h;refine⟨a,cap,rfl,E,U,ah,λp ao hc=>?_⟩;obtain⟨aW,aY,bO⟩:=aZ p ao hc;refine⟨bn _ aW,aY,λi G=>?_⟩;obtain⟨bj,m1,m2⟩:=bO i G;exact⟨bj,m1.mono bn he,aJ bn he m2⟩
 | array n e aJ=>
  intro F F' w w' cs x bn he h;simp only[bJ]at h ⊢;grind
 | bH e aJ=>
  intro F F' w w' cs x bn he h;simp only[bJ]at h ⊢;rcases h with h | ⟨p,y,bj,E,U,ah,aZ⟩
  ·grind
  ·exact .inr ⟨p,y,bj,E,U,ah.mono bn he,aJ bn he aZ⟩
 | map k v wL wM=>
  intro F F' w w' cs x bn he h;simp only[bJ]at h ⊢;rcases h with h | ⟨r,es,clk,E,U,ah,aZ,bM,dt,gb⟩
  ·grind
  ·refine .inr ⟨r,es,clk,E,bn _ U,(he.2 _ U).trans ah,aZ,bM,λi G dM=>?_,gb⟩;grind
 | fn a b fy eL=>
  intro F F' w w' cs x bn he h;simp only[bJ]at h ⊢;obtain⟨u,rfl,hu,E⟩:=h;exact⟨u,rfl,hu,λJW tp tq BQ aD=>E JW tp (λr M=>tq r (bn r M)) (he.trans bn BQ) aD⟩
 | cu a aJ=>
  intro F F' w w' cs x bn he h;simp only[bJ]at h ⊢;obtain⟨u,rfl,hu,E⟩:=h;exact⟨u,rfl,hu,λJW tp tq BQ aD=>E JW tp (λr M=>tq r (bn r M)) (he.trans bn BQ) aD⟩
 | eo=>intro F F' w w' cs x _ _ h;exact h
def ep(P:Program)(t:ad)(F:Nat->Prop)(w:World)(v:Value)(x:t.aj):Prop:=kJ t v/\bJ P t F w v.cells.toList x
def fm(P:Program)(t:ad)(F:Nat->Prop)(w:World)(aE:List Value)(x:t.aj):Prop:=wK t aE/\bJ P t F w (ed aE) x
def tr(P:Program)(t:ad)(F:Nat->Prop)(w:World)(v:Value)(x:t.aj):Prop:=∃ aE,yX t v aE/\fm P t F w aE x
theorem ep.mono{P:Program}{t:ad}{F F':Nat->Prop}{w w':World}{v:Value}{x:t.aj}(h:ep P t F w v x)(bn:∀ r,F r->F' r)(he:c8 F w w'):ep P t F' w' v x:=
 ⟨h.1,fe t bn he h.2⟩
theorem Ff{v:Value}(h:v.oneCell'=true):v.cells=#[v]:=by
 cases v<;>first | rfl | cases h
theorem Rk{v:Value}(h:v.cells=#[v]):v.cells.toList=[v]:=by rw[h]
theorem kJ.len{t:ad}{v:Value}(h:kJ t v):v.cells.toList.length=t.size:=by
 cases t<;>simp only[kJ]at h<;>first
  | (obtain⟨cs,rfl,h⟩:=h;simpa [Value.cells,ad.size]using h)
  | (rw[Rk h];rfl)
  | exact h.elim
theorem BR{P:Program}{a b:ad}{F:Nat->Prop}{w:World}{v:Value}{aE:List Value}{x:a.aj}{y:b.aj} :
  fm P (.az a b) F w (v::aE) (x,y)<->ep P a F w v x/\fm P b F w aE y:=by
 constructor
 ·rintro⟨⟨E,U⟩,c,d,e,hc,aw⟩;have ak:=hR a hc;have:=List.append_inj e (by rw[ak];exact E.len);rw[JV]at e;obtain⟨ay,aN⟩:=this;subst ay;subst aN;exact⟨⟨E,hc⟩,U,aw⟩
 ·rintro⟨⟨E,U⟩,ah,aZ⟩;exact⟨⟨E,ah⟩,_,_,rfl,U,aZ⟩
theorem Fg{P:Program}{a b:ad}{F:Nat->Prop}{w:World}{aE:List Value}{x:(ad.az a b).aj}(h:fm P (.az a b) F w aE x) :
  ∃ v us,aE=v::us/\ep P a F w v x.1/\fm P b F w us x.2:=by
 cases aE with
 | nil=>exact h.1.elim
 | cons v us=>exact⟨v,us,rfl,BR.1 h⟩
def ad.gA:ad->Bool
 | .az _ _ | .cV=>false
 | _=>true
theorem rY{P:Program}{t:ad}(aK:t.gA=true){F:Nat->Prop}{w:World}{aE:List Value}{x:t.aj} :
  fm P t F w aE x<->∃ v,aE=[v]/\ep P t F w v x:=by
 have key:wK t aE<->∃ v,aE=[v]/\kJ t v:=by cases t<;>simp[ad.gA,wK]at aK ⊢
 unfold fm ep;rw[key];constructor
 ·rintro⟨⟨v,rfl,af⟩,h⟩;exact⟨v,rfl,af,by simpa using h⟩
 ·rintro⟨v,rfl,af,h⟩;exact⟨⟨v,rfl,af⟩,by simpa using h⟩
section
variable {P:Program} {F:Nat->Prop} {w:World} {v:Value}
@[simp] theorem ff {x:Bool}:ep P .bool F w v x<->v=.bool x:=by
 constructor
 ·rintro⟨E,U⟩;simp only[kJ]at E;simp only[bJ]at U;rw[Rk E]at U;simpa using U
 ·rintro rfl;exact⟨by simp[kJ,Value.cells],by simp[bJ,Value.cells]⟩
theorem gT{k:IntKind}{x:Int}:ep P (.int k) F w v x<->v=.int k x/\fR k x:=by
 constructor
 ·rintro⟨E,U⟩;simp only[kJ]at E;simp only[bJ]at U;grind
 ·rintro⟨rfl,h⟩;exact⟨by rfl,by simpa [bJ,Value.cells]using h⟩
theorem ma{x:List UInt8}:ep P .str F w v x<->v=.string ⟨x.toArray⟩/\x.length<2 ^ 63:=by
 constructor
 ·rintro⟨E,U⟩;simp only[kJ]at E;simp only[bJ]at U;grind
 ·rintro⟨rfl,h⟩;exact⟨by rfl,by simpa [bJ,Value.cells]using h⟩
theorem dT{t:ad}(aK:t.eG=true){x:t.aj}:ep P t F w v x<->v.cells=#[v]/\bJ P t F w [v] x:=by
 have E:kJ t v<->v.cells=#[v]:=by cases t<;>simp[ad.eG,kJ]at aK ⊢
 unfold ep;grind
theorem JX{t:ad}(aK:t.eG=true){F:Nat->Prop}{w:World}{u:Value}{x:t.aj}(h:bJ P t F w [u] x):u.oneCell'=true:=by
 cases t<;>simp only[ad.eG,bJ]at aK h<;>try contradiction
 ·obtain rfl:=(List.cons.inj h).1;rfl
 ·obtain rfl:=(List.cons.inj h.1).1;rfl
 ·obtain rfl:=(List.cons.inj h.1).1;rfl
 ·obtain⟨a,cap,h,_⟩:=h;obtain rfl:=(List.cons.inj h).1;rfl
 ·rcases h with⟨h,_⟩ | ⟨p,y,bj,h,_⟩<;>(obtain rfl:=(List.cons.inj h).1;rfl)
 ·rcases h with⟨h,_⟩ | ⟨r,es,clk,h,_⟩<;>(obtain rfl:=(List.cons.inj h).1;rfl)
 ·obtain⟨mI,h,hu,_⟩:=h;obtain rfl:=(List.cons.inj h).1;exact hu.2
 ·obtain⟨mI,h,hu,_⟩:=h;obtain rfl:=(List.cons.inj h).1;exact hu.2
 ·obtain rfl:=(List.cons.inj h).1;cases x<;>rfl
theorem BS{t:ad}(aK:t.eG=true){F:Nat->Prop}{w:World}{cs:List Value}{x:t.aj}(h:bJ P t F w cs x):∃ u,cs=[u]/\u.cells=#[u]:=by
 cases t<;>simp only[ad.eG,bJ]at aK h<;>try contradiction
 ·exact⟨_,h,rfl⟩
 ·exact⟨_,h.1,rfl⟩
 ·exact⟨_,h.1,rfl⟩
 ·obtain⟨a,cap,rfl,_⟩:=h;exact⟨_,rfl,rfl⟩
 ·rcases h with⟨rfl,_⟩ | ⟨p,y,bj,rfl,_⟩<;>exact⟨_,rfl,rfl⟩
 ·rcases h with⟨rfl,_⟩ | ⟨r,es,clk,rfl,_⟩<;>exact⟨_,rfl,rfl⟩
 ·obtain⟨u,rfl,hu,_⟩:=h;exact⟨u,rfl,hu.1⟩
 ·obtain⟨u,rfl,hu,_⟩:=h;exact⟨u,rfl,hu.1⟩
 ·exact⟨_,h,by cases x<;>rfl⟩
end
structure gU(P:Program)(k:FuncId)(ts aR:ad)(sh:ts.aj->A aR.aj):Prop where
 enter:∀ args w,(callFunc k args).run P w=.ok (.enter k args) w
 iw:∀ (F:Nat->Prop) (w:World) (args:List Value) (x:ts.aj),(∀ r,F r->r<w.heap.size)->nF P F w->fm P ts F w args x->(sh x).cq->
  Calls P k args.toArray w λe w'=>∃ v y,e=.returned v/\(sh x).bQ y/\tr P aR (u0 F w w') w' v y/\Below w.heap.size w w'
structure Fh(P:Program)(k:FuncId)(ts aR:ad)(sh:ts.aj->A aR.aj):Prop where
 iw:∀ (F:Nat->Prop) (w:World) (args:List Value) (x:ts.aj),(∀ r,F r->r<w.heap.size)->nF P F w->fm P ts F w args x->(sh x).cq->
  Calls P k args.toArray w λe w'=>∃ v y,e=.returned v/\(sh x).bQ y/\tr P aR (λr=>w.heap.size<=r/\r<w'.heap.size) w' v y/\Below w.heap.size w w'
def gg:List ad->ad
 | []=>.cV
 | [t]=>t
 | t::u::l=>.az t (gg (u::l))
def Fi:(as bs:List ad)->(gg as).aj->(gg bs).aj->(gg (as++bs)).aj
 | [],_,_,y=>y
 | [_],[],x,_=>x
 | [_],_::_,x,y=>(x,y)
 | _::u::l,bs,x,y=>(x.1,Fi (u::l) bs x.2 y)
theorem Rl{P:Program}{F:Nat->Prop}{w:World}:∀ (as bs:List ad),as.all ad.gA=true->∀ {aE us:List Value} {x:(gg as).aj} {y:(gg bs).aj},fm P (gg as) F w aE x->fm P (gg bs) F w us y->fm P (gg (as++bs)) F w (aE++us) (Fi as bs x y)
 | [],bs,_,aE,us,x,y,E,U=>by
  obtain rfl:aE=[]:=E.1;exact U
 | [t],[],_,aE,us,x,y,E,U=>by
  obtain rfl:us=[]:=U.1;have e:aE++[]=aE:=List.append_nil aE;rw[e];exact E
 | [t],b::bs,h,aE,us,x,y,E,U=>by
  have aK:t.gA=true:=by grind
  obtain⟨v,rfl,af⟩:=(rY aK).1 E;exact BR.2 ⟨af,U⟩
 | t::u::l,bs,h,aE,us,x,y,E,U=>by
  obtain⟨v,rZ,rfl,ah,aZ⟩:=Fg (a:=t) (b:=gg (u::l)) E;have ak:(u::l).all ad.gA=true:=by
   grind
  have:=Rl (u::l) bs ak aZ U;exact BR.2 ⟨ah,this⟩
structure acO where
 ts:ad
 aR:ad
 sh:ts.aj->A aR.aj
structure Fj where
 as:List ad
 cs:List ad
 aR:ad
 sh:(gg (as++cs.map .bH)).aj->A aR.aj
structure wN where
 cs:List ad
 aL:ad
 S:(gg (cs.map .bH)).aj->List aL.aj->Prop
structure wO(P:Program)(k:FuncId)(v:wN):Prop where
 enter:∀ args w,(callFunc k args).run P w=.ok (.enter k args) w
 iw:∀ (F:Nat->Prop) (w:World) (c6:List Value) (x:(gg (v.cs.map .bH)).aj),(∀ r,F r->r<w.heap.size)->nF P F w->fm P (gg (v.cs.map .bH)) F w c6 x->(∃ L,v.S x L)->
  ∀ (l:Nat) (I:List v.aL.aj->Bool->(Nat->Prop)->(Nat->Prop)->World->Prop) (Y:Nat->Prop),(∀ r,Y r->r<w.heap.size/\¬F r)->
   Fe P (fm P v.aL) l (v.S x) I->I [] false F Y w->Calls P k (#[Value.func (.yield l) #[] #[]]++c6.toArray) w (Rj (v.S x) I F Y w)
structure dD where
 tt:Nat->Option acO
 tu:Nat->Option Fj
 wP:Nat->Option wN:=λ_=>none
structure qM(P:Program)(aQ:dD):Prop where
 tt:∀ k v,aQ.tt k=some v->gU P k v.ts v.aR v.sh
 tu:∀ k v,aQ.tu k=some v->v.as.all ad.gA=true/\gU P k (gg (v.as++v.cs.map .bH)) v.aR v.sh
 wP:∀ k v,aQ.wP k=some v->wO P k v:=by intro k v h;cases h
theorem acP{P:Program}{k:FuncId}{ts aR:ad}{sh:ts.aj->A aR.aj}(h:gU P k ts aR sh)(F:Nat->Prop)(w:World):bJ P (.fn ts aR) F w [.func (.func k) #[] #[]] sh:=by
 refine⟨_,rfl,⟨rfl,rfl⟩,λF' w' _ _ aD aC args x E U ah=>⟨k,#[],rfl,h.enter,?_⟩⟩;have:=h.iw F' w' args x aD aC ⟨E,U⟩ ah;simp only[Array.append_empty];exact this.mono λe tp ⟨v,y,ay,aN,⟨aE,cA,ea,dU⟩,k5⟩=>⟨v,y,aE,ay,aN,cA,ea,dU,k5⟩
end Go.Fer
namespace Go.Fer
open Go.RowKit
inductive aF where
 | undef
 | val (t:ad) (x:t.aj)
 | hC (b:Bool) (a:aF)
 | a7 (b g off:Nat)
 | own (b g:Nat)
 | oh (b g i off:Nat)
 | dV (t:ad) (x:t.aj)
 | fH (b g:Nat)
 | ix (k:FuncId) (n:Nat) (c6:Nat->aF)
 | r0 (k:FuncId) (n:Nat) (first:Nat->aF)
 | p0 (n:Nat) (f:Nat->aF)
 | agg (n:Nat) (f:Nat->aF)
 | cS
 | jB (v:Value)
 | j2 (b g:Nat)
 | aR (l:Nat) (aL:ad) (S:List aL.aj->Prop) (pre:List aL.aj) (st:Bool)
 | hf (l:Nat)
 | sub (b g aT G:Nat)
 | wQ (e:ad) (xs:List e.aj)
 | iT (b g i:Nat)
 | tv (b g n:Nat)
 | wR (n:Nat)
inductive bP where
 | fz
 | cells (t:ad) (f:Nat->aF)
 | bf (e:ad) (xs:List e.aj)
 | hD (e:ad) (xs:List e.aj)
 | mp (k v:ad) (es:List (k.aj×v.aj))
 | gI (t:ad) (x:t.aj)
 | jh (k v:ad) (es:List (k.aj×v.aj))
 | cu (k v:ad) (cur:Option (k.aj×v.aj)) (ch:List (k.aj×v.aj))
 | gh (e:ad) (xs:List e.aj) (i:Nat) (v:aF)
structure bK where
 gen:Nat
 body:bP
structure bD where
 ab:Nat
 off:Nat
 cap:Nat
 e8:Bool
structure aB where
 ax:Nat->aF
 ab:Nat->bK
def bP.fI:bP->Bool | .cells _ _=>true | .gI _ _=>true | _=>false
def bP.e3:bP->Bool | .bf _ _=>true | .hD _ _=>true | .gh _ _ _ _=>true | _=>false
def bP.gV:bP->Bool | .mp _ _ _=>true | .jh _ _ _=>true | _=>false
def bP.mJ:bP->Bool | .cu _ _ _ _=>true | _=>false
def bP.len:bP->Nat | .bf _ xs=>xs.length | .hD _ xs=>xs.length | .gh _ xs _ _=>xs.length | _=>0
def bP.e4:bP->Nat | .bf e _=>e.size | .hD e _=>e.size | .gh e _ _ _=>e.size | _=>0
def bP.b1(k:bD):bP->Bool | .cells _ _=>true | .bf _ _=>!k.e8 | .mp _ _ _=>true | .cu _ _ _ _=>true | .gh _ _ _ _=>!k.e8 | _=>false
def bD.slice(k:bD)(n:Nat):Value:=if k.e8 then .slice none 0 0 else .slice (some ⟨k.ab,k.off,none⟩) n k.cap
def Fk(k:bD)(e4 aT G:Nat)(v:Value):Prop:=
 (k.e8=true/\v=.slice none 0 0)\/(k.e8=false/\∃ o,v=.slice (some ⟨k.ab,o,none⟩) (G - aT) (k.cap - aT)/\o<=k.off+aT*e4/\(aT<k.cap->o=k.off+aT*e4))
def bu(P:Program)(H:Nat->bK)(κ:Nat->bD)(F:Nat->Prop)(w:World):aF->Value->Prop
 | .undef,_=>True
 | .val t x,v=>ep P t F w v x
 | .hC b a,v=>(b=true->bu P H κ F w a v)/\(b=false->v=Go.undef)
 | .a7 b g off,v=>(g<=(H b).gen/\v.oneCell'=true)/\(g=(H b).gen->(H b).body.fI=true->v=.pointer (some ⟨(κ b).ab,off,none⟩))
 | .own b g,v=>(g<=(H b).gen/\v.oneCell'=true)/\(g=(H b).gen->(H b).body.e3=true->v=(κ b).slice (H b).body.len)
 | .oh b g i off,v=>(g<=(H b).gen/\v.oneCell'=true)/\(g=(H b).gen->(H b).body.e3=true->i<(H b).body.len/\(κ b).e8=false/\v=.pointer (some ⟨(κ b).ab,(κ b).off+i*(H b).body.e4+off,none⟩))
 | .tv b g n,v=>((g<=(H b).gen/\v.oneCell'=true)/\(g=(H b).gen->(H b).body.e3=true->v=(κ b).slice (H b).body.len))/\(∃ p c,v=.slice p n c)/\n<2 ^ 63
 | .wR n,v=>(∃ p c,v=.slice p n c)/\n<2 ^ 63
 | .iT b g i,v=>(g<=(H b).gen/\v.oneCell'=true)/\(g=(H b).gen->(H b).body.e3=true->i<(H b).body.len/\(κ b).e8=false/\v=.pointer (some ⟨(κ b).ab,(κ b).off+i*(H b).body.e4,none⟩))
 | .dV t x,v=>∃ p bj,v=.pointer (some p)/\Holds F w p bj/\bJ P t F w bj x
 | .fH b g,v=>(g<=(H b).gen/\v.oneCell'=true)/\(g=(H b).gen->(H b).body.gV=true->v=.map (some (κ b).ab))
 | .ix k n c6,v=>∃ aE:List Value,v=.func (.func k) #[] aE.toArray/\aE.length=n/\∀ i,i<n->bu P H κ F w (c6 i) (aE.getD i Go.undef)
 | .r0 k n f,v=>∃ aE:List Value,v=.func (.func k) aE.toArray #[]/\aE.length=n/\∀ i,i<n->bu P H κ F w (f i) (aE.getD i Go.undef)
 | .p0 n f,v=>∃ aE:List Value,v=.tuple aE.toArray/\aE.length=n/\∀ i,i<n->bu P H κ F w (f i) (aE.getD i Go.undef)
 | .agg n f,v=>∃ aE:List Value,v=.agg aE.toArray/\aE.length=n/\∀ i,i<n->bu P H κ F w (f i) (aE.getD i Go.undef)/\(aE.getD i Go.undef).oneCell'=true
 | .cS,v=>v=.slice none 0 0
 | .jB u,v=>v=u
 | .j2 b g,v=>(g<=(H b).gen/\v.oneCell'=true)/\(g=(H b).gen->(H b).body.mJ=true->v=.pointer (some ⟨(κ b).ab,0,none⟩))
 | .aR _ _ _ _ _,_=>True
 | .hf l,v=>v=.func (.yield l) #[] #[]
 | .wQ e xs,v=>ep P (.slice e) F w v xs/\∃ q,v=.slice q xs.length xs.length
 | .sub b g aT G,v=>(g<=(H b).gen/\v.oneCell'=true)/\(g=(H b).gen->(H b).body.e3=true->(aT<=G/\G<=(H b).body.len)/\Fk (κ b) (H b).body.e4 aT G v)
def fo(H:Nat->bK)(κ:Nat->bD)(H':Nat->bK)(κ':Nat->bD):Prop:=
 ∀ b,(H b).gen<=(H' b).gen/\((H b).gen=(H' b).gen->
  ((H' b).body.fI=true->(H b).body.fI=true/\(κ' b).ab=(κ b).ab)/\
  ((H' b).body.e3=true->(H b).body.e3=true/\κ' b=κ b/\(H' b).body.len=(H b).body.len/\(H' b).body.e4=(H b).body.e4)/\
  ((H' b).body.gV=true->(H b).body.gV=true/\(κ' b).ab=(κ b).ab)/\
  ((H' b).body.mJ=true->(H b).body.mJ=true/\(κ' b).ab=(κ b).ab))
theorem fo.refl(H:Nat->bK)(κ:Nat->bD):fo H κ H κ:=λ_=>⟨Nat.le_refl _,λ_=>⟨λh=>⟨h,rfl⟩,λh=>⟨h,rfl,rfl,rfl⟩,λh=>⟨h,rfl⟩,λh=>⟨h,rfl⟩⟩⟩
def p1(x y:bK)(k k':bD):Prop:=
 x.gen<=y.gen/\(x.gen=y.gen->
  (y.body.fI=true->x.body.fI=true/\k'.ab=k.ab)/\
  (y.body.e3=true->x.body.e3=true/\k'=k/\y.body.len=x.body.len/\y.body.e4=x.body.e4)/\
  (y.body.gV=true->x.body.gV=true/\k'.ab=k.ab)/\
  (y.body.mJ=true->x.body.mJ=true/\k'.ab=k.ab))
theorem p1.refl(x:bK)(k:bD):p1 x x k k:=⟨Nat.le_refl _,λ_=>⟨λh=>⟨h,rfl⟩,λh=>⟨h,rfl,rfl,rfl⟩,λh=>⟨h,rfl⟩,λh=>⟨h,rfl⟩⟩⟩
theorem BT{H:Nat->bK}{κ:Nat->bD}{H':Nat->bK}{κ':Nat->bD}:fo H κ H' κ'<->∀ b,p1 (H b) (H' b) (κ b) (κ' b):=Iff.rfl
theorem bu.later{P:Program}{H H':Nat->bK}{κ κ':Nat->bD}{F F':Nat->Prop}{w w':World}(ak:fo H κ H' κ')(bn:∀ r,F r->F' r)(he:c8 F w w') :
  ∀ {a:aF} {v:Value},bu P H κ F w a v->bu P H' κ' F' w' a v:=by
 intro a;induction a with
 | undef=>intro v h;trivial
 | val t x=>intro v h;exact ep.mono h bn he
 | hC b a aJ=>intro v h;exact⟨λaa=>aJ (h.1 aa),h.2⟩
 | a7 b g off=>
  intro v h;obtain⟨E,U⟩:=h;obtain⟨aW,aY⟩:=ak b;refine⟨⟨Nat.le_trans E.1 aW,E.2⟩,λaC hc=>?_⟩;grind
 | own b g=>
  intro v h;obtain⟨E,U⟩:=h;obtain⟨aW,aY⟩:=ak b;refine⟨⟨Nat.le_trans E.1 aW,E.2⟩,λaC hc=>?_⟩;grind
 | oh b g i off=>
  intro v h;obtain⟨E,U⟩:=h;obtain⟨aW,aY⟩:=ak b;refine⟨⟨Nat.le_trans E.1 aW,E.2⟩,λaC hc=>?_⟩;grind
 | tv b g n=>
  intro v h;obtain⟨⟨E,U⟩,ah⟩:=h;obtain⟨aW,aY⟩:=ak b;refine⟨⟨⟨Nat.le_trans E.1 aW,E.2⟩,λaC hc=>?_⟩,ah⟩;grind
 | wR n=>intro v h;exact h
 | iT b g i=>
  intro v h;obtain⟨E,U⟩:=h;obtain⟨aW,aY⟩:=ak b;refine⟨⟨Nat.le_trans E.1 aW,E.2⟩,λaC hc=>?_⟩;grind
 | dV t x=>
  intro v h;obtain⟨p,bj,E,U,ah⟩:=h;exact⟨p,bj,E,U.mono bn he,fe t bn he ah⟩
 | fH b g=>
  intro v h;obtain⟨E,U⟩:=h;obtain⟨aW,aY⟩:=ak b;refine⟨⟨Nat.le_trans E.1 aW,E.2⟩,λaC hc=>?_⟩;grind
 | j2 b g=>
  intro v h;obtain⟨E,U⟩:=h;obtain⟨aW,aY⟩:=ak b;refine⟨⟨Nat.le_trans E.1 aW,E.2⟩,λaC hc=>?_⟩;grind
 | sub b g aT G=>
  intro v h;obtain⟨E,U⟩:=h;obtain⟨aW,aY⟩:=ak b;refine⟨⟨Nat.le_trans E.1 aW,E.2⟩,λaC hc=>?_⟩;grind
 | aR l aL L n st=>intro v _;trivial
 | hf l=>intro v h;exact h
 | wQ e xs=>intro v h;exact⟨ep.mono h.1 bn he,h.2⟩
 | ix k n c6 aJ=>
  intro v h;obtain⟨aE,E,U,ah⟩:=h;exact⟨aE,E,U,λi G=>aJ i (ah i G)⟩
 | r0 k n f aJ=>
  intro v h;obtain⟨aE,E,U,ah⟩:=h;exact⟨aE,E,U,λi G=>aJ i (ah i G)⟩
 | p0 n f aJ=>
  intro v h;obtain⟨aE,E,U,ah⟩:=h;exact⟨aE,E,U,λi G=>aJ i (ah i G)⟩
 | agg n f aJ=>
  intro v h;obtain⟨aE,E,U,ah⟩:=h;exact⟨aE,E,U,λi G=>⟨aJ i (ah i G).1,(ah i G).2⟩⟩
 | cS=>intro v h;exact h
 | jB u=>intro v h;exact h
def u1(P:Program)(k v:ad)(F:Nat->Prop)(w:World)(es:Array MapEntry)(clk:Nat)(xs:List (k.aj×v.aj)):Prop:=
 es.size=xs.length/\(xs.map (·.1)).Nodup/\
 (∀ i (h:i<xs.length) (de:i<es.size),kJ k es[i].key/\bJ P k F w es[i].key.cells.toList xs[i].1/\kJ v es[i].val/\bJ P v F w es[i].val.cells.toList xs[i].2/\es[i].born<clk)/\
 (∀ i j (h:i<es.size) (de:j<es.size),es[i].born=es[j].born->i=j)
theorem u1.mono{P:Program}{k v:ad}{F F':Nat->Prop}{w w':World}{es:Array MapEntry}{clk:Nat}{xs:List (k.aj×v.aj)}(h:u1 P k v F w es clk xs)(bn:∀ r,F r->F' r)(he:c8 F w w') :
  u1 P k v F' w' es clk xs:=
 ⟨h.1,h.2.1,λi G dM=>let ⟨a,b,c,d,e⟩:=h.2.2.1 i G dM;⟨a,fe k bn he b,c,fe v bn he d,e⟩,h.2.2.2⟩
def lF(P:Program)(e:ad)(F:Nat->Prop)(w:World)(cs:Array Value)(off:Nat)(xs:List e.aj):Prop:=
 ∀ i (h:i<xs.length),∃ bj,(∀ j (h:j<bj.length),cs[off+i*e.size+j]?=some bj[j])/\bJ P e F w bj xs[i]
theorem lF.mono{P:Program}{e:ad}{F F':Nat->Prop}{w w':World}{cs:Array Value}{off:Nat}{xs:List e.aj}(h:lF P e F w cs off xs)(bn:∀ r,F r->F' r)(he:c8 F w w') :
  lF P e F' w' cs off xs:=λi G=>let ⟨bj,a,b⟩:=h i G;⟨bj,a,fe e bn he b⟩
def yY(P:Program)(k v:ad)(F:Nat->Prop)(w:World)(e:MapEntry)(x:k.aj×v.aj):Prop:=
 kJ k e.key/\bJ P k F w e.key.cells.toList x.1/\kJ v e.val/\bJ P v F w e.val.cells.toList x.2
theorem yY.mono{P:Program}{k v:ad}{F F':Nat->Prop}{w w':World}{e:MapEntry}{x:k.aj×v.aj}(h:yY P k v F w e x)(bn:∀ r,F r->F' r)(he:c8 F w w'):yY P k v F' w' e x:=
 ⟨h.1,fe k bn he h.2.1,h.2.2.1,fe v bn he h.2.2.2⟩
def wS(P:Program)(k v:ad)(F:Nat->Prop)(w:World)(o3:Nat)(cur:Option (k.aj×v.aj))(ch:List (k.aj×v.aj)):Prop:=
 (w.heap[o3]?=some (.mapIter none 0 #[] 0)/\ch=[]/\cur=none)\/
 ∃ lG es clk seen,F lG/\w.heap[lG]?=some (.map es clk)/\w.heap[o3]?=some (.mapIter (some lG) clk seen clk)/\
  (∀ i (h:i<es.size),es[i].born<clk)/\(∀ i j (h:i<es.size) (de:j<es.size),es[i].born=es[j].born->i=j)/\
  (∃ ids:List Nat,ids.length=ch.length/\ids.Nodup/\(∀ i,i∈ids<->∃ h:i<es.size,seen.contains es[i].born=false)/\
   (∀ j (h:j<ids.length) (de:j<ch.length),∃ G:ids[j]<es.size,yY P k v F w es[ids[j]] ch[j]))/\
  (∀ c,cur=some c->∃ i,∃ h:i<es.size,seen.back?=some es[i].born/\yY P k v F w es[i] c)
theorem wS.mono{P:Program}{k v:ad}{F F':Nat->Prop}{w w':World}{o3:Nat}{cur:Option (k.aj×v.aj)}{ch:List (k.aj×v.aj)}(h:wS P k v F w o3 cur ch)(bn:∀ r,F r->F' r)(he:c8 F w w')
  (G:w'.heap[o3]?=w.heap[o3]?):wS P k v F' w' o3 cur ch:=by
 rcases h with⟨E,U⟩ | ⟨lG,es,clk,seen,E,U,ah,aZ,bM,⟨ids,i1,i2,i3,i4⟩,gb⟩
 ·exact .inl ⟨G.trans E,U⟩
 ·exact .inr ⟨lG,es,clk,seen,bn _ E,(he.2 _ E).trans U,G.trans ah,aZ,bM,⟨ids,i1,i2,i3,λj aG fS=>let ⟨a,b⟩:=i4 j aG fS;⟨a,b.mono bn he⟩⟩,λc hc=>let ⟨i,a,b,d⟩:=gb c hc;⟨i,a,b,d.mono bn he⟩⟩
def jC(P:Program)(H:Nat->bK)(κ:Nat->bD)(F:Nat->Prop)(w:World)(k:bD):bP->Prop
 | .fz=>True
 | .cells t f=>∃ cs T,w.heap[k.ab]?=some (.cells cs T (0,0))/\cs.size=t.size/\∀ i,i<t.size->bu P H κ F w (f i) (cs.getD i Go.undef)/\(cs.getD i Go.undef).oneCell'=true
 | .bf e xs=>(k.e8=true->xs=[])/\(k.e8=false->∃ cs T,w.heap[k.ab]?=some (.cells cs T (0,0))/\k.off+k.cap*e.size<=cs.size/\xs.length<=k.cap/\k.cap<2 ^ 63/\lF P e F w cs k.off xs)
 | .hD e xs=>bJ P (.slice e) F w [k.slice xs.length] xs
 | .mp mb o4 es=>∃ ms clk,w.heap[k.ab]?=some (.map ms clk)/\u1 P mb o4 F w ms clk es
 | .gI t x=>∃ bj,Holds F w ⟨k.ab,0,none⟩ bj/\bJ P t F w bj x
 | .jh mb o4 es=>bJ P (.map mb o4) F w [.map (some k.ab)] es
 | .cu mb o4 cur ch=>wS P mb o4 F w k.ab cur ch
 | .gh e xs i v=>k.e8=false/\∃ cs T,w.heap[k.ab]?=some (.cells cs T (0,0))/\k.off+k.cap*e.size<=cs.size/\xs.length<=k.cap/\k.cap<2 ^ 63/\(e.size=1/\i<xs.length)/\
   (∀ j (h:j<xs.length),j≠i->∃ bj,(∀ q (h:q<bj.length),cs[k.off+j*e.size+q]?=some bj[q])/\bJ P e F w bj xs[j])/\bu P H κ F w v (cs.getD (k.off+i) Go.undef)/\(cs.getD (k.off+i) Go.undef).oneCell'=true
def cE(P:Program)(H:Nat->bK)(κ:Nat->bD)(F:Nat->Prop)(w:World)(b:Nat):Prop:=jC P H κ F w (κ b) (H b).body
theorem cE.k6{P:Program}{H H':Nat->bK}{κ κ':Nat->bD}{F F':Nat->Prop}{w w':World}{b:Nat}(h:cE P H κ F w b)(ak:fo H κ H' κ')(bn:∀ r,F r->F' r)(he:c8 F w w')
  (aa:(H' b).body=(H b).body) (an:κ' b=κ b) (hw:(H b).body.b1 (κ b)=true->w'.heap[(κ b).ab]?=w.heap[(κ b).ab]?):cE P H' κ' F' w' b:=by
 unfold cE at *
 rw[aa,an];cases bS:(H b).body with
 | fz=>trivial
 | cells n f=>
  rw[bS]at h hw;obtain⟨cs,T,E,U,ah⟩:=h;exact⟨cs,T,(hw rfl).trans E,U,λi G=>⟨bu.later ak bn he (ah i G).1,(ah i G).2⟩⟩
 | bf e xs=>
  rw[bS]at h hw;refine⟨h.1,λaA=>?_⟩;obtain⟨cs,T,E,U,ah,aZ,bM⟩:=h.2 aA;exact⟨cs,T,(hw (by simp[bP.b1,aA])).trans E,U,ah,aZ,bM.mono bn he⟩
 | hD e xs=>
  rw[bS]at h;exact fe _ bn he h
 | mp mb o4 es=>
  rw[bS]at h hw;obtain⟨ms,clk,E,U⟩:=h;exact⟨ms,clk,(hw rfl).trans E,U.mono bn he⟩
 | gI t x=>
  rw[bS]at h;obtain⟨bj,E,U⟩:=h;exact⟨bj,E.mono bn he,fe t bn he U⟩
 | jh mb o4 es=>
  rw[bS]at h;exact fe (.map mb o4) bn he h
 | cu mb o4 cur ch=>
  rw[bS]at h hw;exact wS.mono h bn he (hw rfl)
 | gh e xs i v=>
  rw[bS]at h hw;obtain⟨aX,cs,T,E,U,ah,aZ,bM,dt,gb,iQ⟩:=h;refine⟨aX,cs,T,(hw (by simp[bP.b1,aX])).trans E,U,ah,aZ,bM,λj aG qN=>?_,bu.later ak bn he gb,iQ⟩;obtain⟨bj,d1,d2⟩:=dt j aG qN;exact⟨bj,d1,fe e bn he d2⟩
structure df(w w':World):Prop where
 os:w'.os=w.os
 tape:w'.tape=w.tape
 output:w'.output=w.output
theorem df.refl(w:World):df w w:=⟨rfl,rfl,rfl⟩
theorem df.trans{a b c:World}(h:df a b)(k:df b c):df a c:=⟨k.os.trans h.os,k.tape.trans h.tape,k.output.trans h.output⟩
structure lH where
 l:Nat
 aL:ad
 S:List aL.aj->Prop
 I:List aL.aj->Bool->(Nat->Prop)->(Nat->Prop)->World->Prop
structure lH.ht(P:Program)(p:lH):Prop where
 BP:∀ {pre st} {F F' Y:Nat->Prop} {w w':World},p.I pre st F Y w->(∀ r,F r->F' r)->(∀ r,F r\/Y r->w'.heap[r]?=w.heap[r]?)->w.heap.size<=w'.heap.size->df w w'->(∀ r,F' r->r<w'.heap.size)->(∀ r,F' r->¬Y r)->p.I pre st F' Y w'
 yield:∀ {pre} {F Y:Nat->Prop} {w:World} {args:List Value} {x:p.aL.aj},p.I pre false F Y w->(∀ r,F r->r<w.heap.size)->(∀ r,Y r->r<w.heap.size/\¬F r)->(∃ T,p.S (pre++x::T))->fm P p.aL F w args x->
  YieldAt Fence.wide 0 P p.l args.toArray w λe w'=>∃ (b:Bool) (F' gz:Nat->Prop),e=.returned (.bool b)/\(∀ r,F r->F' r)/\(∀ r,F' r->F r\/Y r\/w.heap.size<=r)/\(∀ r,F' r->r<w'.heap.size)/\
   (∀ r,r<w.heap.size->¬Y r->w'.heap[r]?=w.heap[r]?)/\(∀ r,gz r->(Y r\/w.heap.size<=r)/\r<w'.heap.size/\¬F' r)/\w.heap.size<=w'.heap.size/\df w w'/\p.I (pre++[x]) (!b) F' gz w'
def lH.at(p:lH)(aL:ad)(pre:List aL.aj)(st:Bool)(F Y:Nat->Prop)(w:World):Prop:=∃ h:aL=p.aL,p.I (h ▸ pre) st F Y w
theorem lH.yZ{l:Nat}{aL:ad}{S:List aL.aj->Prop}{I}{pre:List aL.aj}{st:Bool}{F Y:Nat->Prop}{w:World}:(lH.mk l aL S I).at aL pre st F Y w<->I pre st F Y w:=⟨λ⟨_,h⟩=>h,λh=>⟨rfl,h⟩⟩
theorem lH.ht.JY{P:Program}{p:lH}(h:p.ht P){aL:ad}{pre:List aL.aj}{st}{F F' Y:Nat->Prop}{w w':World}:p.at aL pre st F Y w->(∀ r,F r->F' r)->(∀ r,F r\/Y r->w'.heap[r]?=w.heap[r]?)->w.heap.size<=w'.heap.size->df w w'->(∀ r,F' r->r<w'.heap.size)->(∀ r,F' r->¬Y r)->p.at aL pre st F' Y w':=
 λ⟨e,E⟩ U ah aZ bM dt gb=>⟨e,h.BP E U ah aZ bM dt gb⟩
def b5:Nat:=1000000
def eQ:Nat:=100000
def wT:Nat:=200000
structure b_ where
 P:Program
 w0:World
 F0:Nat->Prop
 K0:Nat->Prop
 nt:Nat
 r:Option Nat
 dfr:List Deferred
 ig:Nat->Option Nat
 bU:lH
 aO:dD
 JZ:Nat->Option (bD×Nat):=λ_=>none
def acQ(C:b_)(s:aB)(w:World)(κ:Nat->bD)(F:Nat->Prop):Prop:=
 ∀ l aL L n st,s.ax b5=.aR l aL L n st->(∃ I,C.bU=⟨l,aL,L,I⟩)/\C.bU.ht C.P/\
  ∃ Y:Nat->Prop,(∀ r,Y r->r<w.heap.size/\¬F r/\¬C.K0 r)/\(∀ b,(s.ab b).body.b1 (κ b)=true->¬Y (κ b).ab)/\C.bU.at aL n st F Y w
structure bl(C:b_)(s:aB)(a:Act)(w:World)(κ:Nat->bD)(F:Nat->Prop):Prop where
 dE:a.tmps.size=C.nt
 dfr:a.defers=C.dfr
 bT:∀ i,bu C.P s.ab κ F w (s.ax i) (a.tmps.getD i Go.undef)
 bE:∀ b,cE C.P s.ab κ F w b
 own:∀ b,(s.ab b).body.b1 (κ b)=true->(κ b).ab<w.heap.size/\¬F (κ b).ab/\¬C.K0 (κ b).ab
 inj:∀ b be,(s.ab b).body.b1 (κ b)=true->(s.ab be).body.b1 (κ be)=true->(κ b).ab=(κ be).ab->b=be
 dd:∀ r,F r->r<w.heap.size
 hg:∀ r,F r->C.F0 r\/¬C.K0 r
 hS:∀ r,C.F0 r->F r
 hv:∀ r,C.K0 r->r<C.w0.heap.size
 eH:∀ r,C.K0 r->w.heap[r]?=C.w0.heap[r]?
 size:C.w0.heap.size<=w.heap.size
 er:df C.w0 w
 gi:C.nt<=eQ
 kl:∀ b r,C.ig b=some r->eQ<=b
 jD:∀ b r,C.ig b=some r->(s.ab b).body.fI=true\/(s.ab b).body.gV=true->(κ b).ab=r
 j3:∀ b k,C.JZ b=some k->wT<=b
 km:∀ b k,C.JZ b=some k->(s.ab b).gen=0->(s.ab b).body.e3=true->κ b=k.1/\(s.ab b).body.len=k.2
 eB:acQ C s w κ F
 jE:qM C.P C.aO
 iy:nF C.P F w
def cr(C:b_)(s:aB)(a:Act)(w:World):Prop:=∃ κ F,bl C s a w κ F
def aB.set(s:aB)(d:Option Nat)(v:aF):aB:=
 match d with
 | none=>s
 | some d=>{ s with ax:=λi=>if i=d then v else s.ax i }
def aB.cx(s:aB)(b:Nat)(x:bK):aB:={ s with ab:=λi=>if i=b then x else s.ab i }
theorem acR{a:Act}{d:Nat}{v:Value}(aw:d<a.tmps.size)(i:Nat):(a.put (some d) v).tmps.getD i Go.undef=if i=d then v else a.tmps.getD i Go.undef:=by
 simp only[Act.put,Array.getD_eq_getD_getElem?,Array.getElem?_setIfInBounds];grind
theorem bl.set{C:b_}{s:aB}{a:Act}{w:World}{κ:Nat->bD}{F:Nat->Prop}(h:bl C s a w κ F){d:Option Nat}(aw:∀ i,d=some i->i<C.nt){av:aF}{v:Value}
  (af:bu C.P s.ab κ F w av v):bl C (s.set d av) (a.put d v) w κ F:=by
 cases d with
 | none=>exact h
 | some d=>
  have qO:=aw d rfl;have aA:=h.gi;refine { h with dE:=by simpa [Act.put]using h.dE,dfr:=h.dfr,bT:=λi=>?_,eB:=λl aL L n st e=>?_ }
  ·rw[acR (by rw[h.dE];omega)];simp only[aB.set];by_cases G:i=d
   ·grind
   ·rw[if_neg G,if_neg G];exact h.bT i
  ·simp only[aB.set]at e;rw[if_neg (by unfold b5 eQ at *;omega)]at e;exact h.eB l aL L n st e
theorem bl.move{C:b_}{s:aB}{a:Act}{w:World}{κ:Nat->bD}{F:Nat->Prop}(h:bl C s a w κ F){H':Nat->bK}{κ':Nat->bD}{F':Nat->Prop}{w':World}
  (ak:fo s.ab κ H' κ') (bn:∀ r,F r->F' r) (tq:∀ r,F' r->F r\/(∃ b,(s.ab b).body.b1 (κ b)=true/\(κ b).ab=r)\/w.heap.size<=r)
  (cd:w.heap.size<=w'.heap.size) (hw:∀ r,r<w.heap.size->(∀ b,(s.ab b).body.b1 (κ b)=true->(κ b).ab≠r)->w'.heap[r]?=w.heap[r]?) (hc:df w w')
  (aa:c8 F w w'->∀ b,cE C.P H' κ' F' w' b)
  (ag:∀ b,(H' b).body.b1 (κ' b)=true->(κ' b).ab<w'.heap.size/\¬F' (κ' b).ab/\((∃ b0,(s.ab b0).body.b1 (κ b0)=true/\(κ b0).ab=(κ' b).ab)\/w.heap.size<=(κ' b).ab))
  (G:∀ b be,(H' b).body.b1 (κ' b)=true->(H' be).body.b1 (κ' be)=true->(κ' b).ab=(κ' be).ab->b=be)
  (aD:∀ r,F' r->r<w'.heap.size)
  (acS:∀ b,eQ<=b->(H' b).body.fI=true\/(H' b).body.gV=true->κ' b=κ b/\((s.ab b).body.fI=true\/(s.ab b).body.gV=true)):bl C ⟨s.ax,H'⟩ a w' κ' F':=by
 have acT:∀ r,C.K0 r->(∀ b,(s.ab b).body.b1 (κ b)=true->(κ b).ab≠r):=λr M b aa e=>(h.own b aa).2.2 (e ▸ M);have an:∀ r,C.K0 r->w'.heap[r]?=w.heap[r]?:=λr M=>hw r (Nat.lt_of_lt_of_le (h.hv r M) h.size) (acT r M);have y0:∀ r,w.heap.size<=r->¬C.K0 r:=λr M an=>by have:=h.hv r an;have:=h.size;omega
 have he:c8 F w w':=⟨cd,λr M=>hw r (h.dd r M) λb aa e=>(h.own b aa).2.1 (e ▸ M)⟩
 refine { dE:=h.dE,dfr:=h.dfr,bT:=λi=>bu.later ak bn he (h.bT i),bE:=aa he,own:=λb aa=>?_,inj:=G,dd:=aD,hg:=λr M=>?_,hS:=λr M=>bn r (h.hS r M),hv:=h.hv,eH:=λr M=>(an r M).trans (h.eH r M),size:=Nat.le_trans h.size cd,er:=h.er.trans hc,gi:=h.gi,kl:=h.kl,jD:=λb r M hc=>?_,j3:=h.j3,km:=λb k an aX bb=>?_,eB:=λl aL L n st e=>?_,jE:=h.jE,iy:=h.iy.mono bn he }
 ·grind
 ·rcases tq r M with E | ⟨b,E,rfl⟩ | E
  ·exact h.hg r E
  ·exact .inr (h.own b E).2.2
  ·exact .inr (y0 r E)
 ·obtain⟨aW,aY⟩:=acS b (h.kl b r M) hc;rw[aW];exact h.jD b r M aY
 ·obtain⟨g1,et⟩:=ak b;have aX:(H' b).gen=0:=aX;have bb:(H' b).body.e3=true:=bb;obtain⟨b9,a2,a3,_⟩:=(et (by omega)).2.1 bb;obtain⟨aW,aY⟩:=h.km b k an (by omega) b9;grind
 ·obtain⟨E,U,Y,ah,aZ,bM⟩:=h.eB l aL L n st e;have aw_:∀ r,Y r->w'.heap[r]?=w.heap[r]?:=λr M=>hw r (ah r M).1 λb aa e=>aZ b aa (e ▸ M);have BU:∀ r,Y r->¬F' r:=λr M ar=>by
   grind
  refine⟨E,U,Y,λr M=>⟨Nat.lt_of_lt_of_le (ah r M).1 cd,BU r M,(ah r M).2.2⟩,λb aa aS=>?_,U.JY bM bn (λr M=>?_) cd hc aD λr ar aS=>BU r aS ar⟩
  ·grind
  ·rcases M with M | M
   ·exact he.2 r M
   grind
theorem o5(w:World)(o:Obj){r:Nat}(h:r<w.heap.size):(w.alloc o).heap[r]?=w.heap[r]?:=Below.heap_alloc w o r h
theorem p2(w:World)(o:Obj):(w.alloc o).heap[w.heap.size]?=some o:=by
 show (w.heap.push o)[w.heap.size]?=_;simp
theorem c8.alloc{F:Nat->Prop}{w:World}(aD:∀ r,F r->r<w.heap.size)(o:Obj):c8 F w (w.alloc o):=
 ⟨by simp,λr M=>o5 w o (aD r M)⟩
theorem y1{H:Nat->bK}{κ κ':Nat->bD}{b:Nat}{x:bK}(aC:(H b).gen<x.gen)(BV:∀ be,be≠b->κ' be=κ be) :
  fo H κ (λi=>if i=b then x else H i) κ':=by
 rw[BT];intro i;by_cases G:i=b
 ·subst G;simp only[if_true];exact⟨by omega,λh=>by omega⟩
 ·simp only[if_neg G];rw[BV i G];exact p1.refl _ _
theorem y2{H:Nat->bK}{κ κ':Nat->bD}{b:Nat}{x:bK}(aa:b<eQ\/(x.body.fI=false/\x.body.gV=false))(BV:∀ be,be≠b->κ' be=κ be) :
  ∀ i,eQ<=i->(if i=b then x else H i).body.fI=true\/(if i=b then x else H i).body.gV=true->κ' i=κ i/\((H i).body.fI=true\/(H i).body.gV=true):=by
 grind
theorem bl.alloc{C:b_}{s:aB}{a:Act}{w:World}{κ:Nat->bD}{F:Nat->Prop}(h:bl C s a w κ F){b:Nat}{x:bK}(BW:b<eQ)(aC:(s.ab b).gen<x.gen)
  {o:Obj} {k:bD} (an:k.ab=w.heap.size)
  (ai:∀ (H:Nat->bK) (κ':Nat->bD),H=(λi=>if i=b then x else s.ab i)->κ'=(λi=>if i=b then k else κ i)->fo s.ab κ H κ'->jC C.P H κ' F (w.alloc o) k x.body) :
  bl C (s.cx b x) a (w.alloc o) (λi=>if i=b then k else κ i) F:=by
 have ak:fo s.ab κ (λi=>if i=b then x else s.ab i) (λi=>if i=b then k else κ i):=y1 aC λbe cW=>by grind
 refine h.move (H':=λi=>if i=b then x else s.ab i) ak (λ_ M=>M) (λ_ M=>.inl M) (by simp) (λr M _=>o5 w o M) ⟨rfl,rfl,rfl⟩ (λhe=>?_) ?_ ?_ ?_ (y2 (.inl BW) λbe cW=>by grind)
 ·intro i;by_cases G:i=b
  ·subst G;simp only[cE,if_true];grind
  ·refine cE.k6 (h.bE i) ak (λ_ M=>M) he (by grind) (by grind) λag=>?_;exact o5 w o (h.own i ag).1
 ·intro i G;by_cases eM:i=b
  ·subst eM;simp only[if_true]at G ⊢;refine⟨by simp_all,λar=>?_,.inr (by omega)⟩;have:=h.dd _ ar;omega
  ·simp only[if_neg eM]at G ⊢;have:=h.own i G;exact⟨by simp;omega,this.2.1,.inl ⟨i,G,rfl⟩⟩
 ·intro i j G aG e;by_cases eM:i=b<;>by_cases mc:j=b
  ·omega
  ·simp only[if_pos eM,if_neg mc]at G aG e;have:=(h.own j aG).1;omega
  ·simp only[if_neg eM,if_pos mc]at G aG e;have:=(h.own i G).1;omega
  ·simp only[if_neg eM,if_neg mc]at G aG e;exact h.inj i j G aG e
 ·intro r M;have:=h.dd r M;simp;omega
theorem qP{H:Nat->bK}{κ:Nat->bD}{b:Nat}{x:bK}(aC:x.gen=(H b).gen)(E:x.body.fI=true->(H b).body.fI=true)
  (U:x.body.e3=true->(H b).body.e3=true/\x.body.len=(H b).body.len/\x.body.e4=(H b).body.e4) (ah:x.body.gV=true->(H b).body.gV=true)
  (aZ:x.body.mJ=true->(H b).body.mJ=true) :
  fo H κ (λi=>if i=b then x else H i) κ:=by
 rw[BT];intro i;by_cases G:i=b
 ·subst G;simp only[if_true];exact⟨by omega,λ_=>⟨λh=>⟨E h,rfl⟩,λh=>⟨(U h).1,rfl,(U h).2⟩,λh=>⟨ah h,rfl⟩,λh=>⟨aZ h,rfl⟩⟩⟩
 ·simp only[if_neg G];exact p1.refl _ _
theorem acU{H:Nat->bK}{κ:Nat->bD}{b:Nat}{x:bK}(E:x.body.fI=true->(H b).body.fI=true)(ah:x.body.gV=true->(H b).body.gV=true) :
  ∀ i,eQ<=i->(if i=b then x else H i).body.fI=true\/(if i=b then x else H i).body.gV=true->κ i=κ i/\((H i).body.fI=true\/(H i).body.gV=true):=by
 grind
theorem bl.o6{C:b_}{s:aB}{a:Act}{w w':World}{κ:Nat->bD}{F:Nat->Prop}(h:bl C s a w κ F){b:Nat}{x:bK}
  (gj:(s.ab b).body.b1 (κ b)=true) (y3:x.body.b1 (κ b)=true) (ak:fo s.ab κ (λi=>if i=b then x else s.ab i) κ)
  (E:x.body.fI=true->(s.ab b).body.fI=true) (ah:x.body.gV=true->(s.ab b).body.gV=true)
  (hw:∀ r,r≠(κ b).ab->w'.heap[r]?=w.heap[r]?) (cd:w'.heap.size=w.heap.size) (hc:df w w')
  (ai:∀ (H:Nat->bK),H=(λi=>if i=b then x else s.ab i)->fo s.ab κ H κ->c8 F w w'->jC C.P H κ F w' (κ b) x.body) :
  bl C (s.cx b x) a w' κ F:=by
 have ag:=h.own b gj;refine h.move (H':=λi=>if i=b then x else s.ab i) ak (λ_ M=>M) (λ_ M=>.inl M) (by omega) (λr _ M=>hw r λe=>M b gj e.symm) hc (λhe=>?_) ?_ ?_ (λr M=>by rw[cd];exact h.dd r M) (acU E ah)
 ·intro i;by_cases G:i=b
  ·subst G;simp only[cE,if_true];grind
  ·refine cE.k6 (h.bE i) ak (λ_ M=>M) he (by grind) rfl λacV=>hw _ λe=>G (h.inj i b acV gj e)
 ·intro i G;by_cases eM:i=b
  ·grind
  ·simp only[if_neg eM]at G;have:=h.own i G;grind
 ·intro i j G aG e;have dM:(s.ab i).body.b1 (κ i)=true:=by
   grind
  have fS:(s.ab j).body.b1 (κ j)=true:=by
   grind
  exact h.inj i j dM fS e
theorem bl.drew{C:b_}{s:aB}{a:Act}{w:World}{κ:Nat->bD}{F:Nat->Prop}(h:bl C s a w κ F):bl C s a w.drew κ F:=
 h.move (H':=s.ab) (fo.refl _ _) (λ_ M=>M) (λ_ M=>.inl M) (Nat.le_refl _) (λ_ _ _=>rfl) ⟨rfl,rfl,rfl⟩
  (λ_ b=>cE.k6 (h.bE b) (fo.refl _ _) (λ_ M=>M) ⟨Nat.le_refl _,λ_ _=>rfl⟩ rfl rfl λ_=>rfl) (λb aa=>⟨(h.own b aa).1,(h.own b aa).2.1,.inl ⟨b,aa,rfl⟩⟩) h.inj h.dd (λ_ _ h=>⟨rfl,h⟩)
def aB.le(s' s:aB):Prop:=(∀ i,s'.ax i=s.ax i\/s'.ax i=.undef)/\∀ b,s'.ab b=s.ab b\/s'.ab b=⟨(s.ab b).gen,.fz⟩
theorem bl.y4{C:b_}{s s':aB}{a:Act}{w:World}{κ:Nat->bD}{F:Nat->Prop}(h:bl C s a w κ F)(aD:s'.le s):bl C s' a w κ F:=by
 have gj:∀ b,(s'.ab b).body.b1 (κ b)=true->(s.ab b).body.b1 (κ b)=true:=λb aa=>by
  rcases aD.2 b with e | e
  ·grind
  ·rw[e]at aa;cases aa
 have ak:fo s.ab κ s'.ab κ:=λb=>by
  rcases aD.2 b with e | e
  ·grind
  ·rw[e];exact⟨Nat.le_refl _,λ_=>⟨λh=>(by cases h),λh=>(by cases h),λh=>(by cases h),λh=>(by cases h)⟩⟩
 have U:=h.move ak (λ_ M=>M) (λ_ M=>.inl M) (Nat.le_refl _) (λ_ _ _=>rfl) (df.refl _)
  (λ_ b=>by
   rcases aD.2 b with e | e
   ·exact cE.k6 (h.bE b) ak (λ_ M=>M) (c8.refl _ _) (by rw[e]) rfl λ_=>rfl
   ·unfold cE;rw[e];trivial)
  (λb aa=>⟨(h.own b (gj b aa)).1,(h.own b (gj b aa)).2.1,.inl ⟨b,gj b aa,rfl⟩⟩) (λb be aa cW=>h.inj b be (gj b aa) (gj be cW)) h.dd (λb _ aa=>⟨rfl,by
   rcases aD.2 b with e | e
   ·grind
   ·rw[e]at aa;simp[bP.fI,bP.gV]at aa⟩)
 refine { U with bT:=λi=>?_,dE:=U.dE,dfr:=U.dfr,eB:=λl aL L n st e=>?_ }
 ·rcases aD.1 i with e | e
  ·rw[e];exact U.bT i
  ·rw[e];trivial
 ·rcases aD.1 b5 with k | k
  ·exact U.eB l aL L n st (k ▸ e)
  grind
end Go.Fer
namespace Go.Fer
inductive aq(al:Type) where
 | ret (a:al)
 | eR (b:Nat) (k:bK->aq al)
def aq.run{al:Type}(H:Nat->bK):aq al->al
 | .ret a=>a
 | .eR b k=>(k (H b)).run H
def aq.looks{al:Type}(H:Nat->bK):aq al->List Nat
 | .ret _=>[]
 | .eR b k=>b::(k (H b)).looks H
def aq.bind{al β:Type}:aq al->(al->aq β)->aq β
 | .ret a,f=>f a
 | .eR b k,f=>.eR b λx=>(k x).bind f
def aq.map{al β:Type}(f:al->β)(m:aq al):aq β:=m.bind λa=>.ret (f a)
def aq.none{al:Type}:aq (Option al):=.ret Option.none
def aq.cR{al β:Type}(m:aq (Option al))(f:al->aq (Option β)):aq (Option β):=m.bind fun | some a=>f a | Option.none=>.none
@[simp] theorem aq.bL {al:Type} (H:Nat->bK) (a:al):(aq.ret a).run H=a:=rfl
@[simp] theorem aq.e5 {al:Type} (H:Nat->bK) (b:Nat) (k:bK->aq al):(aq.eR b k).run H=(k (H b)).run H:=rfl
theorem aq.run_bind{al β:Type}(H:Nat->bK)(m:aq al)(f:al->aq β):(m.bind f).run H=(f (m.run H)).run H:=by
 induction m with
 | ret a=>rfl
 | eR b k aJ=>simp[aq.bind,aJ]
theorem aq.e6{al β:Type}(H:Nat->bK)(m:aq (Option al))(f:al->aq (Option β)):(m.cR f).run H=(m.run H).bind λa=>(f a).run H:=by
 unfold aq.cR;rw[aq.run_bind];cases m.run H<;>rfl
theorem aq.Rm{al:Type}{H H':Nat->bK}:∀ (m:aq al),(∀ b∈m.looks H,H' b=H b)->m.run H'=m.run H/\m.looks H'=m.looks H
 | .ret a,_=>⟨rfl,rfl⟩
 | .eR b k,h=>by
  have aa:=h b (by simp[aq.looks]);have:=aq.Rm (k (H b)) λc hc=>h c (by simp[aq.looks,hc]);simp only[aq.run,aq.looks,aa,this];simp
def eS(t c1:ad)(x:t.aj):Option c1.aj:=if h:t=c1 then some (h ▸ x) else none
theorem kK{t c1:ad}{x:t.aj}{y:c1.aj}(h:eS t c1 x=some y):∃ e:t=c1,y=e ▸ x:=by
 unfold eS at h;grind
def BX:(t:ad)->Value->Option t.aj
 | .bH _,.pointer Option.none=>some Option.none
 | .map _ _,.map Option.none=>some []
 | .eo,.nilFunc=>some Option.none
 | _,_=>Option.none
def ad.isAgg:ad->Bool
 | .st _ | .array _ _=>true
 | _=>false
def dW(t:ad):aF->aq (Option (t.aj×List Nat))
 | .val c1 x=>.ret ((eS c1 t x).map (·,[]))
 | .cS=>match t with
  | .slice _=>.ret (some ([],[]))
  | _=>.none
 | .own b g=>match t with
  | .slice e=>.eR b λx=>.ret (if x.gen=g then (match x.body with
    | .bf a1 xs=>(eS (.slice a1) (.slice e) xs).map (·,[b])
    | .hD a1 xs=>(eS (.slice a1) (.slice e) xs).map (·,[])
    | _=>Option.none) else Option.none)
  | _=>.none
 | .sub b g aT G=>match t with
  | .slice e=>.eR b λx=>.ret (if x.gen=g then (match x.body with
    | .bf a1 xs=>(eS (.slice a1) (.slice e) ((xs.take G).drop aT)).map (·,[b])
    | .hD a1 xs=>(eS (.slice a1) (.slice e) ((xs.take G).drop aT)).map (·,[])
    | _=>Option.none) else Option.none)
  | _=>.none
 | .fH b g=>match t with
  | .map k v=>.eR b λx=>.ret (if x.gen=g then (match x.body with
    | .mp k' h5 es=>(eS (.map k' h5) (.map k v) es).map (·,[b])
    | .jh k' h5 es=>(eS (.map k' h5) (.map k v) es).map (·,[])
    | _=>Option.none) else Option.none)
  | _=>.none
 | .dV c1 x=>match t with
  | .bH e=>.ret ((eS (.bH c1) (.bH e) (some x)).map (·,[]))
  | _=>.none
 | .jB v=>.ret ((BX t v).map (·,[]))
 | .ix k n _=>match t with
  | .eo=>if n=0 then .ret (some (some k,[])) else .none
  | _=>.none
 | _=>.none
def tw(e:ad)(cf:List aF->aq (Option (e.aj×List Nat×List aF)))(av:aF):aq (Option (Option e.aj×List Nat)):=
 match av with
 | .a7 b g off=>.eR b λx=>if x.gen=g/\off=0 then (match x.body with
   | .gI c1 y=>.ret ((eS c1 e y).map λz=>(some z,[]))
   | .cells c1 f=>if c1=e then (cf ((List.range e.size).map f)).cR λ(y,l,r)=>.ret (if r.isEmpty then some (some y,b::l) else Option.none) else .none
   | _=>.none) else .none
 | av=>dW (.bH e) av
def ih:(t:ad)->List aF->aq (Option (t.aj×List Nat×List aF))
 | .cV,cs=>.ret (some ((),[],cs))
 | .st t,cs=>ih t cs
 | .az a b,cs=>(ih a cs).cR λ(x,l,r)=>(ih b r).cR λ(y,m,q)=>.ret (some ((x,y),l++m,q))
 | .array n e,cs=>n.rec (motive:=λ_=>List aF->aq (Option (List e.aj×List Nat×List aF))) (λcs=>.ret (some ([],[],cs)))
   (λ_ aJ cs=>(ih e cs).cR λ(x,l,r)=>(aJ r).cR λ(xs,m,q)=>.ret (some (x::xs,l++m,q))) cs
 | .bool,cs=>match cs with | c::r=>(dW .bool c).map λo=>o.map λ(x,l)=>(x,l,r) | []=>.none
 | .int k,cs=>match cs with | c::r=>(dW (.int k) c).map λo=>o.map λ(x,l)=>(x,l,r) | []=>.none
 | .str,cs=>match cs with | c::r=>(dW .str c).map λo=>o.map λ(x,l)=>(x,l,r) | []=>.none
 | .slice e,cs=>match cs with | c::r=>(dW (.slice e) c).map λo=>o.map λ(x,l)=>(x,l,r) | []=>.none
 | .bH e,cs=>match cs with | c::r=>(tw e (ih e) c).map λo=>o.map λ(x,l)=>(x,l,r) | []=>.none
 | .map k v,cs=>match cs with | c::r=>(dW (.map k v) c).map λo=>o.map λ(x,l)=>(x,l,r) | []=>.none
 | .fn a b,cs=>match cs with | c::r=>(dW (.fn a b) c).map λo=>o.map λ(x,l)=>(x,l,r) | []=>.none
 | .cu a,cs=>match cs with | c::r=>(dW (.cu a) c).map λo=>o.map λ(x,l)=>(x,l,r) | []=>.none
 | .eo,cs=>match cs with | c::r=>(dW .eo c).map λo=>o.map λ(x,l)=>(x,l,r) | []=>.none
def kn(t:ad)(av:aF):aq (Option (t.aj×List Nat)):=
 match t with
 | .bH e=>tw e (ih e) av
 | t=>if t.eG then dW t av else .none
def dz(t:ad)(av:aF):aq (Option (t.aj×List Nat)):=
 match av with
 | .val c1 x=>.ret ((eS c1 t x).map (·,[]))
 | .agg n f=>if t.eG then .none else (ih t ((List.range n).map f)).cR λ(x,l,r)=>.ret (if r.isEmpty&&t.isAgg then some (x,l) else Option.none)
 | _=>kn t av
def nG:(t:ad)->t.aj->List aF
 | .cV,_=>[]
 | .st t,x=>nG t x
 | .az a b,x=>nG a x.1++nG b x.2
 | .array n e,xs=>(List.range n).flatMap λi=>nG e (List.getD xs i e.dh)
 | .bool,x=>[.val .bool x]
 | .int k,x=>[.val (.int k) x]
 | .str,x=>[.val .str x]
 | .slice e,x=>[.val (.slice e) x]
 | .bH e,x=>[.val (.bH e) x]
 | .map k v,x=>[.val (.map k v) x]
 | .fn a b,x=>[.val (.fn a b) x]
 | .cu a,x=>[.val (.cu a) x]
 | .eo,x=>[.val .eo x]
def r1:ad->List aF
 | .cV=>[]
 | .st t=>r1 t
 | .az a b=>r1 a++r1 b
 | .array n e=>(List.range n).flatMap λ_=>r1 e
 | .bool=>[.val .bool false]
 | .int k=>[.val (.int k) (0:Int)]
 | .str=>[.val .str []]
 | .slice _=>[.cS]
 | .bH e=>[.val (.bH e) Option.none]
 | .map k v=>[.val (.map k v) []]
 | .fn _ _=>[.jB .nilFunc]
 | .cu _=>[.jB .nilFunc]
 | .eo=>[.val .eo Option.none]
def hh(l:List aF)(i:Nat):aF:=l.getD i .undef
def me:ad->Nat->Option (ad×Nat)
 | .az a _,0=>some (a,0)
 | .az a b,f+1=>(me b f).map λ(t,o)=>(t,a.size+o)
 | .cV,_=>Option.none
 | t,0=>some (t,0)
 | _,_+1=>Option.none
def u2:(t:ad)->t.aj->Nat->Option ((s:ad)×s.aj)
 | .az a _,x,0=>some ⟨a,x.1⟩
 | .az _ b,x,f+1=>u2 b x.2 f
 | .cV,_,_=>Option.none
 | t,x,0=>some ⟨t,x⟩
 | _,_,_+1=>Option.none
def r2:(t:ad)->t.aj->Nat->(s:ad)->Option s.aj
 | .st t,x,off,s=>if off=0/\ad.st t=s then eS (.st t) s x else r2 t x off s
 | .az a b,x,off,s=>if off<a.size then r2 a x.1 off s else r2 b x.2 (off - a.size) s
 | .cV,_,_,_=>Option.none
 | .array _ _,_,_,_=>Option.none
 | .bool,x,off,s=>if off=0 then eS .bool s x else Option.none
 | .int k,x,off,s=>if off=0 then eS (.int k) s x else Option.none
 | .str,x,off,s=>if off=0 then eS .str s x else Option.none
 | .slice e,x,off,s=>if off=0 then eS (.slice e) s x else Option.none
 | .bH e,x,off,s=>if off=0 then eS (.bH e) s x else Option.none
 | .map k v,x,off,s=>if off=0 then eS (.map k v) s x else Option.none
 | .fn a b,x,off,s=>if off=0 then eS (.fn a b) s x else Option.none
 | .cu a,x,off,s=>if off=0 then eS (.cu a) s x else Option.none
 | .eo,x,off,s=>if off=0 then eS .eo s x else Option.none
def wU:(t:ad)->t.aj->Nat->(s:ad)->s.aj->Option t.aj
 | .st t,x,off,s,y=>if off=0/\s=ad.st t then eS s (.st t) y else wU t x off s y
 | .az a b,x,off,s,y=>if off<a.size then (wU a x.1 off s y).map (·,x.2) else (wU b x.2 (off - a.size) s y).map (x.1,·)
 | .cV,_,_,_,_=>Option.none
 | .array _ _,_,_,_,_=>Option.none
 | .bool,_,off,s,y=>if off=0 then eS s .bool y else Option.none
 | .int k,_,off,s,y=>if off=0 then eS s (.int k) y else Option.none
 | .str,_,off,s,y=>if off=0 then eS s .str y else Option.none
 | .slice e,_,off,s,y=>if off=0 then eS s (.slice e) y else Option.none
 | .bH e,_,off,s,y=>if off=0 then eS s (.bH e) y else Option.none
 | .map k v,_,off,s,y=>if off=0 then eS s (.map k v) y else Option.none
 | .fn a b,_,off,s,y=>if off=0 then eS s (.fn a b) y else Option.none
 | .cu a,_,off,s,y=>if off=0 then eS s (.cu a) y else Option.none
 | .eo,_,off,s,y=>if off=0 then eS s .eo y else Option.none
def lI(k:IntKind)(a b:Int):Int:=k.wrap (BitVec.ofInt k.bits a&&& BitVec.ofInt k.bits b).toNat
def Rn(k:IntKind)(a b:Int):Int:=k.wrap (BitVec.ofInt k.bits a||| BitVec.ofInt k.bits b).toNat
def Ro(k:IntKind)(a b:Int):Int:=k.wrap (BitVec.ofInt k.bits a ^^^ BitVec.ofInt k.bits b).toNat
def Rp(k:IntKind)(a b:Int):Int:=k.wrap (BitVec.ofInt k.bits a&&& ~~~BitVec.ofInt k.bits b).toNat
def acW(k:IntKind)(a b:Int):Int:=k.wrap (a*2 ^ (min b.toNat k.bits))
def ji(k:IntKind)(a b:Int):Int:=a.fdiv (2 ^ (min b.toNat k.bits))
def kL(t:ad)(xs:List t.aj)(i:Int):t.aj:=xs.getD i.toNat t.dh
def b6(n:Nat):Prop:=n<=4294967296
def gJ:(t:ad)->t.aj->t.aj->Bool
 | .bool,x,y=>x == y
 | .int _,x,y=>decide ((x:Int)=y)
 | .str,x,y=>decide ((x:List UInt8)=y)
 | .st t,x,y=>gJ t x y
 | .az a b,x,y=>gJ a x.1 y.1&&gJ b x.2 y.2
 | _,_,_=>false
def ad.kM:ad->Bool
 | .bool | .int _ | .str=>true
 | .st t=>t.kM
 | .az a b=>a.kM&&b.kM
 | _=>false
end Go.Fer
namespace Go.Fer
open Go.RowKit
section
variable {P:Program} {H:Nat->bK} {κ:Nat->bD} {F F':Nat->Prop} {w:World}
def ew(P:Program)(H:Nat->bK)(κ:Nat->bD)(F:Nat->Prop)(w:World):List aF->List Value->Prop
 | [],[]=>True
 | a::as,v::aE=>(bu P H κ F w a v/\v.oneCell'=true)/\ew P H κ F w as aE
 | _,_=>False
theorem ew.append:∀ {as bs:List aF} {us aE:List Value},ew P H κ F w as us->ew P H κ F w bs aE->ew P H κ F w (as++bs) (us++aE)
 | [],_,[],_,_,k=>k
 | _::_,_,_::_,_,h,k=>⟨h.1,ew.append h.2 k⟩
 | [],_,_::_,_,h,_=>h.elim
 | _::_,_,[],_,h,_=>h.elim
theorem ew.len:∀ {as:List aF} {us:List Value},ew P H κ F w as us->as.length=us.length
 | [],[],_=>rfl
 | _::_,_::_,h=>by simp[ew.len h.2]
 | [],_::_,h=>h.elim
 | _::_,[],h=>h.elim
theorem ew.kL:∀ {as:List aF} {us:List Value},ew P H κ F w as us->∀ i,i<as.length->bu P H κ F w (hh as i) (us.getD i Go.undef)/\(us.getD i Go.undef).oneCell'=true
 | a::as,v::aE,h,0,_=>h.1
 | a::as,v::aE,h,i+1,G=>by
  have:=ew.kL h.2 i (by grind);simpa [hh]using this
 | [],[],_,i,G=>by grind
 | [],_::_,h,_,_=>h.elim
 | _::_,[],h,_,_=>h.elim
theorem ew.Rq:∀ {as:List aF} {us:List Value},as.length=us.length->(∀ i,i<as.length->bu P H κ F w (hh as i) (us.getD i Go.undef)/\(us.getD i Go.undef).oneCell'=true)->ew P H κ F w as us
 | [],[],_,_=>trivial
 | a::as,v::aE,ak,h=>⟨h 0 (by simp),ew.Rq (by grind) λi G=>by have:=h (i+1) (by grind);simpa [hh]using this⟩
 | [],_::_,ak,_=>by grind
 | _::_,[],ak,_=>by grind
theorem y5:∀ (t:ad) {cs:List Value} {x:t.aj},bJ P t F w cs x->ew P H κ F w (nG t x) cs:=by
 have eN:∀ (t:ad),t.eG=true->∀ {cs:List Value} {x:t.aj},bJ P t F w cs x->ew P H κ F w [.val t x] cs:=by
  intro t aK cs x h;obtain⟨u,rfl,hu⟩:=BS aK h;exact⟨⟨(dT aK).2 ⟨hu,h⟩,JX aK h⟩,trivial⟩
 intro t;induction t with
 | bool=>intro cs x h;exact eN _ rfl h
 | int k=>intro cs x h;exact eN (.int k) rfl h
 | str=>intro cs x h;exact eN _ rfl h
 | cV=>intro cs x h;simp only[bJ]at h;subst h;trivial
 | st t aJ=>intro cs x h;simp only[bJ]at h;exact aJ h
 | az a b fy eL=>
  intro cs x h;simp only[bJ]at h;obtain⟨c,d,rfl,bb,aa⟩:=h;exact (fy bb).append (eL aa)
 | slice e aJ=>intro cs x h;exact eN (.slice e) rfl h
 | array n e aJ=>
  intro cs xs h;simp only[bJ]at h;obtain⟨fl,rfl,E,U,ah⟩:=h;simp only[nG];have key:∀ (k:Nat) (l:List (List Value)),(∀ i (G:i<l.length),ew P H κ F w (nG e (List.getD xs (k+i) e.dh)) l[i])->ew P H κ F w ((List.range' k l.length).flatMap λi=>nG e (List.getD xs i e.dh)) l.flatten:=by
   intro k l;induction l generalizing k with
   | nil=>intro _;trivial
   | cons c l acX=>
    intro c7;simp only[List.length_cons,List.range'_succ,List.flatMap_cons,List.flatten_cons];refine ew.append ?_ (acX (k+1) λi G=>?_)
    ·have:=c7 0 (by simp);grind
    ·have:=c7 (i+1) (by grind);grind
  rw[List.range_eq_range',<-E];grind
 | bH e aJ=>intro cs x h;exact eN (.bH e) rfl h
 | map k v wL wM=>intro cs x h;exact eN (.map k v) rfl h
 | fn a b fy eL=>intro cs x h;exact eN (.fn a b) rfl h
 | cu a aJ=>intro cs x h;exact eN (.cu a) rfl h
 | eo=>intro cs x h;exact eN .eo rfl h
theorem J0{e:ad}{xs:List e.aj}{k:bD}(aU:jC P H κ F w k (.bf e xs))(bn:∀ r,F r->F' r)(an:k.e8=false->F' k.ab):bJ P (.slice e) F' w [k.slice xs.length] xs:=by
 obtain⟨E,U⟩:=aU;simp only[bJ,bD.slice];cases aA:k.e8 with
 | true=>rw[E aA];exact⟨none,0,rfl,Nat.le_refl _,by decide,λ_=>rfl,λp ao=>by simp⟩
 | false=>
  obtain⟨cs,T,bF,c2,c3,c4,c5⟩:=U aA;refine⟨some ⟨k.ab,k.off,none⟩,k.cap,by simp,c3,c4,(by simp),λp ao _=>?_⟩;cases ao;refine⟨an aA,rfl,λi G=>?_⟩;obtain⟨bj,d1,d2⟩:=c5 i G;refine⟨bj,⟨an aA,rfl,λj aG=>?_⟩,fe e bn (c8.refl F w) d2⟩;simp only[World.cell?,bF];grind
theorem Fl{t c1:ad}{x:t.aj}{y:c1.aj}{v:Value}(hc:eS t c1 x=some y)(h:ep P t F w v x):ep P c1 F w v y:=by
 obtain⟨e,rfl⟩:=kK hc;grind
theorem tx{t c1:ad}{x:t.aj}{y:c1.aj}{cs:List Value}(hc:eS t c1 x=some y)(h:bJ P t F w cs x):bJ P c1 F w cs y:=by
 obtain⟨e,rfl⟩:=kK hc;grind
def iU(H:Nat->bK)(κ:Nat->bD)(F':Nat->Prop)(l:List Nat):Prop:=∀ b∈l,(H b).body.b1 (κ b)=true->F' (κ b).ab
theorem iU.left{l m:List Nat}(h:iU H κ F' (l++m)):iU H κ F' l:=λb aa=>h b (List.mem_append_left _ aa)
theorem iU.right{l m:List Nat}(h:iU H κ F' (l++m)):iU H κ F' m:=λb aa=>h b (List.mem_append_right _ aa)
theorem Rr{mb o4:ad}{es:List (mb.aj×o4.aj)}{k:bD}(aU:jC P H κ F w k (.mp mb o4 es))(bn:∀ r,F r->F' r)(an:F' k.ab):bJ P (.map mb o4) F' w [.map (some k.ab)] es:=by
 obtain⟨ms,clk,E,U⟩:=aU;obtain⟨U,ah,aZ,bM⟩:=U.mono bn (c8.refl F w);exact .inr ⟨_,ms,clk,rfl,an,E,U,ah,aZ,bM⟩
theorem Fm{e:ad}{xs:List e.aj}{k:bD}{aT G:Nat}{v:Value}(h:bJ P (.slice e) F' w [k.slice xs.length] xs)(E:aT<=G)(U:G<=xs.length)(aD:Fk k e.size aT G v) :
  bJ P (.slice e) F' w [v] ((xs.take G).drop aT):=by
 have hlen:((xs.take G).drop aT).length=G - aT:=by grind
 obtain⟨a,cap,ay,bF,c2,c3,c4⟩:=h;rcases aD with⟨aA,rfl⟩ | ⟨aA,o,rfl,hT,gB⟩
 ·have:xs=[]:=by
   simp only[bD.slice,aA,if_true,List.cons.injEq,Value.slice.injEq,and_true]at ay;grind
  subst this;have bG:(([]:List e.aj).take G).drop aT=[]:=by simp
  rw[bG];exact⟨none,0,rfl,Nat.le_refl _,by decide,λ_=>rfl,λp ao=>by simp⟩
 ·simp only[bD.slice,aA,Bool.false_eq_true,if_false,List.cons.injEq,Value.slice.injEq,and_true]at ay;obtain⟨rfl,_,rfl⟩:=ay;refine⟨some ⟨k.ab,o,none⟩,k.cap - aT,by grind,by omega,by omega,(by simp),λp ao u3=>?_⟩;cases ao;obtain⟨d1,d2,d3⟩:=c4 _ rfl (by omega);refine⟨d1,rfl,λi dM=>?_⟩;obtain⟨bj,m1,m2⟩:=d3 (aT+i) (by omega);grind
theorem J1(aU:∀ b,cE P H κ F w b)(bn:∀ r,F r->F' r){t:ad}(aK:t.eG=true){av:aF}{v:Value}{x:t.aj}{l:List Nat}(h:(dW t av).run H=some (x,l))
  (ak:iU H κ F' l) (af:bu P H κ F w av v):ep P t F' w v x:=by
 cases av with
 | undef=>cases h
 | hC b a=>cases h
 | a7 b g off=>cases h
 | oh b g i off=>cases h
 | iT b g i=>cases h
 | tv b g n=>cases h
 | wR n=>cases h
 | ix k n c=>
  cases t<;>simp only[dW,aq.none,aq.bL,reduceCtorEq]at h;split at h
  ·rename_i aA;subst aA;cases h;obtain⟨aE,rfl,ak,_⟩:=af;obtain rfl:=List.eq_nil_of_length_eq_zero ak;exact (dT rfl).2 ⟨rfl,rfl⟩
  ·cases h
 | r0 k n c=>cases h
 | p0 n f=>cases h
 | agg n f=>cases h
 | j2 b g=>cases h
 | aR l aL L n st=>cases h
 | hf l=>cases h
 | wQ e xs=>cases h
 | sub b g aT G=>
  cases t<;>simp only[dW,aq.none,aq.bL,aq.e5,reduceCtorEq]at h;rename_i e;split at h
  ·rename_i aC;obtain⟨p3,ij⟩:=af;have jF:=aU b;unfold cE at jF;cases bS:(H b).body with
   | bf a1 xs=>
    rw[bS]at h jF ij;simp only[Option.map_eq_some_iff,Prod.mk.injEq]at h;obtain⟨z,bk,rfl,rfl⟩:=h;obtain⟨⟨aW,aY⟩,bO⟩:=ij aC.symm rfl;exact (dT rfl).2 ⟨Ff p3.2,tx bk (Fm (J0 jF bn λaA=>ak b (by simp) (by rw[bS];simp[bP.b1,aA])) aW aY bO)⟩
   | hD a1 xs=>
    rw[bS]at h jF ij;simp only[Option.map_eq_some_iff,Prod.mk.injEq]at h;obtain⟨z,bk,rfl,rfl⟩:=h;obtain⟨⟨aW,aY⟩,bO⟩:=ij aC.symm rfl;exact (dT rfl).2 ⟨Ff p3.2,tx bk (Fm (fe (.slice a1) bn (c8.refl F w) jF) aW aY bO)⟩
   | _=>rw[bS]at h;cases h
  grind
 | fH b g=>
  cases t<;>simp only[dW,aq.none,aq.bL,aq.e5,reduceCtorEq]at h;rename_i k e;split at h
  ·rename_i aC;obtain⟨p3,ij⟩:=af;have jF:=aU b;unfold cE at jF;cases bS:(H b).body with
   | mp k' h5 es=>
    rw[bS]at h jF ij;simp only[Option.map_eq_some_iff,Prod.mk.injEq]at h;obtain⟨z,bk,rfl,rfl⟩:=h;have:=ij aC.symm rfl;subst this;exact (dT rfl).2 ⟨rfl,tx bk (Rr jF bn (ak b (by simp) (by rw[bS];rfl)))⟩
   | jh k' h5 es=>
    rw[bS]at h jF ij;simp only[Option.map_eq_some_iff,Prod.mk.injEq]at h;obtain⟨z,bk,rfl,rfl⟩:=h;have:=ij aC.symm rfl;subst this;exact (dT rfl).2 ⟨rfl,tx bk (fe (.map k' h5) bn (c8.refl F w) jF)⟩
   | _=>rw[bS]at h;cases h
  grind
 | val c1 y=>
  simp only[dW,aq.bL,Option.map_eq_some_iff,Prod.mk.injEq]at h;obtain⟨z,bk,rfl,rfl⟩:=h;exact (Fl bk af).mono bn (c8.refl F w)
 | cS=>
  cases t<;>simp only[dW,aq.none,aq.bL,reduceCtorEq,Option.some.injEq,Prod.mk.injEq]at h;obtain⟨rfl,rfl⟩:=h;simp only[bu]at af;subst af;exact (dT rfl).2 ⟨rfl,none,0,rfl,Nat.le_refl _,by decide,λ_=>rfl,λp ao=>by simp⟩
 | own b g=>
  cases t<;>simp only[dW,aq.none,aq.bL,aq.e5,reduceCtorEq]at h;rename_i e;split at h
  ·rename_i aC;obtain⟨p3,ij⟩:=af;have jF:=aU b;unfold cE at jF;cases bS:(H b).body with
   | bf a1 xs=>
    rw[bS]at h jF ij;simp only[Option.map_eq_some_iff,Prod.mk.injEq]at h;obtain⟨z,bk,rfl,rfl⟩:=h;have:=ij aC.symm rfl;simp only[bP.len]at this;subst this;refine (dT rfl).2 ⟨by unfold bD.slice;split<;>rfl,tx bk (J0 jF bn λaA=>ak b (by simp) (by rw[bS];simp[bP.b1,aA]))⟩
   | hD a1 xs=>
    rw[bS]at h jF ij;simp only[Option.map_eq_some_iff,Prod.mk.injEq]at h;obtain⟨z,bk,rfl,rfl⟩:=h;have:=ij aC.symm rfl;simp only[bP.len]at this;subst this;exact (dT rfl).2 ⟨by unfold bD.slice;split<;>rfl,tx bk (fe _ bn (c8.refl F w) jF)⟩
   | _=>rw[bS]at h;cases h
  grind
 | dV c1 y=>
  cases t<;>simp only[dW,aq.none,aq.bL,reduceCtorEq,Option.map_eq_some_iff,Prod.mk.injEq]at h;rename_i e;obtain⟨z,bk,rfl,rfl⟩:=h;obtain⟨p,bj,rfl,U,ah⟩:=af;refine (dT rfl).2 ⟨rfl,tx bk ?_⟩;exact .inr ⟨p,y,bj,rfl,rfl,U.mono bn (c8.refl F w),fe c1 bn (c8.refl F w) ah⟩
 | jB u=>
  simp only[bu]at af;subst af;simp only[dW,aq.bL,Option.map_eq_some_iff,Prod.mk.injEq]at h;obtain⟨z,bk,rfl,rfl⟩:=h;unfold BX at bk;split at bk
  ·cases bk;exact (dT rfl).2 ⟨rfl,.inl ⟨rfl,rfl⟩⟩
  ·cases bk;exact (dT rfl).2 ⟨rfl,.inl ⟨rfl,rfl⟩⟩
  ·cases bk;exact (dT rfl).2 ⟨rfl,rfl⟩
  grind
theorem BY{n:Nat}{f:Nat->aF}{aE:List Value}(ak:aE.length=n)(h:∀ i,i<n->bu P H κ F w (f i) (aE.getD i Go.undef)/\(aE.getD i Go.undef).oneCell'=true) :
  ew P H κ F w ((List.range n).map f) aE:=by
 refine ew.Rq (by grind) λi G=>?_;have dM:i<n:=by grind
 have:hh ((List.range n).map f) i=f i:=by simp[hh,List.getD_eq_getElem?_getD,dM]
 grind
theorem Rs(aU:∀ b,cE P H κ F w b)(bn:∀ r,F r->F' r){e:ad}{cf:List aF->aq (Option (e.aj×List Nat×List aF))}
  (gl:∀ {cs:List aF} {aE:List Value} {x:e.aj} {l:List Nat} {r:List aF},(cf cs).run H=some (x,l,r)->iU H κ F' l->ew P H κ F w cs aE->∃ c d,aE=c++d/\bJ P e F' w c x/\ew P H κ F w r d)
  {av:aF} {v:Value} {x:Option e.aj} {l:List Nat} (h:(tw e cf av).run H=some (x,l)) (ak:iU H κ F' l) (af:bu P H κ F w av v):ep P (.bH e) F' w v x:=by
 have ch:(dW (.bH e) av).run H=some (x,l)->ep P (.bH e) F' w v x:=λh=>J1 aU bn rfl h ak af;cases av with
 | a7 b g off=>
  simp only[tw,aq.e5]at h;split at h
  ·rename_i aC;obtain⟨aC,rfl⟩:=aC;obtain⟨p3,ij⟩:=af;have jF:=aU b;unfold cE at jF;cases bS:(H b).body with
   | gI t y=>
    rw[bS]at h jF ij;simp only[aq.bL,Option.map_eq_some_iff,Prod.mk.injEq]at h;obtain⟨z,bk,rfl,rfl⟩:=h;obtain⟨eq,rfl⟩:=kK bk;subst eq;obtain rfl:=ij aC.symm rfl;obtain⟨bj,E,U⟩:=jF;exact (dT rfl).2 ⟨rfl,.inr ⟨_,_,bj,rfl,rfl,E.mono bn (c8.refl F w),fe t bn (c8.refl F w) U⟩⟩
   | cells t f=>
    rw[bS]at h jF ij;simp only at h;split at h
    ·rename_i aK;subst aK;simp only[aq.e6,Option.bind_eq_some_iff,aq.bL]at h;obtain⟨⟨y,m,q⟩,E,U⟩:=h;split at U
     ·rename_i bq;simp only[Option.some.injEq,Prod.mk.injEq]at U;obtain⟨rfl,rfl⟩:=U;obtain rfl:=ij aC.symm rfl;obtain⟨cs,T,aW,aY,bO⟩:=jF;have iz:ew P H κ F w ((List.range t.size).map f) cs.toList:=BY (by omega) λi G=>by
       simp_all
      obtain⟨c,d,J2,bF,c2⟩:=gl E (λbe cW=>ak be (List.mem_cons_of_mem _ cW)) iz;have bq:q=[]:=List.isEmpty_iff.1 bq;subst bq;cases d with
      | cons _ _=>exact c2.elim
      | nil=>
       rw[List.append_nil]at J2;refine (dT rfl).2 ⟨rfl,.inr ⟨_,y,c,rfl,rfl,⟨ak b (by simp) (by rw[bS];rfl),rfl,λj aG=>?_⟩,bF⟩⟩;have fS:j<cs.size:=by grind
       simp only[World.cell?,aW,Nat.zero_add,Option.isSome_none,Bool.false_eq_true,if_false,Array.getElem?_eq_getElem fS];grind
     grind
    ·cases h
   | _=>rw[bS]at h;cases h
  ·cases h
 | _=>exact ch h
theorem J3(aU:∀ b,cE P H κ F w b)(bn:∀ r,F r->F' r):∀ (t:ad) {cs:List aF} {aE:List Value} {x:t.aj} {l:List Nat} {r:List aF},(ih t cs).run H=some (x,l,r)->
  iU H κ F' l->ew P H κ F w cs aE->∃ c d,aE=c++d/\bJ P t F' w c x/\ew P H κ F w r d:=by
 have p4:∀ (t:ad) (g:aF->aq (Option (t.aj×List Nat))),t.eG=true->(∀ {av:aF} {v:Value} {x:t.aj} {l:List Nat},(g av).run H=some (x,l)->iU H κ F' l->bu P H κ F w av v->ep P t F' w v x)->
   ∀ {cs:List aF} {aE:List Value} {x:t.aj} {l:List Nat} {r:List aF},(match cs with | c::r=>(g c).map λo=>o.map λ(x,l)=>(x,l,r) | []=>.none:aq (Option (t.aj×List Nat×List aF))).run H=some (x,l,r)->
   iU H κ F' l->ew P H κ F w cs aE->∃ c d,aE=c++d/\bJ P t F' w c x/\ew P H κ F w r d:=by
  intro t g aK aC cs aE x l r h ak bb;cases cs with
  | nil=>cases h
  | cons c cs=>
   cases aE with
   | nil=>exact bb.elim
   | cons v aE=>
    simp only[aq.map,aq.run_bind,aq.bL,Option.map_eq_some_iff,Prod.mk.injEq]at h;obtain⟨⟨y,m⟩,bk,rfl,rfl,rfl⟩:=h;refine⟨[v],aE,rfl,?_,bb.2⟩;exact ((dT aK).1 (aC bk ak bb.1.1)).2
 have eN:∀ (t:ad),t.eG=true->∀ {cs:List aF} {aE:List Value} {x:t.aj} {l:List Nat} {r:List aF},(match cs with | c::r=>(dW t c).map λo=>o.map λ(x,l)=>(x,l,r) | []=>.none:aq (Option (t.aj×List Nat×List aF))).run H=some (x,l,r)->
   iU H κ F' l->ew P H κ F w cs aE->∃ c d,aE=c++d/\bJ P t F' w c x/\ew P H κ F w r d:=
  λt aK=>p4 t (dW t) aK λh ak af=>J1 aU bn aK h ak af
 intro t;induction t with
 | bool=>intro cs aE x l r h ak bb;exact eN _ rfl h ak bb
 | int k=>intro cs aE x l r h ak bb;exact eN (.int k) rfl h ak bb
 | str=>intro cs aE x l r h ak bb;exact eN _ rfl h ak bb
 | cV=>
  intro cs aE x l r h ak bb;simp only[ih,aq.bL,Option.some.injEq,Prod.mk.injEq]at h;obtain⟨_,rfl,rfl⟩:=h;exact⟨[],aE,rfl,rfl,bb⟩
 | st t aJ=>intro cs aE x l r h ak bb;exact aJ h ak bb
 | az a b fy eL=>
  intro cs aE x l r h ak bb;simp only[ih,aq.e6,Option.bind_eq_some_iff,aq.bL,Option.some.injEq,Prod.mk.injEq]at h;obtain⟨⟨y,m,q⟩,E,⟨z,dx,q'⟩,U,rfl,rfl,rfl⟩:=h;obtain⟨c,d,rfl,bF,c2⟩:=fy E ak.left bb;obtain⟨c',qQ,rfl,d1,d2⟩:=eL U ak.right c2;exact⟨c++c',qQ,by simp,⟨c,c',rfl,bF,d1⟩,d2⟩
 | slice e aJ=>intro cs aE x l r h ak bb;exact eN (.slice e) rfl h ak bb
 | array n e aJ=>
  intro cs aE xs l r h ak bb;simp only[ih]at h;have key:∀ (n:Nat) {cs:List aF} {aE:List Value} {xs:List e.aj} {l:List Nat} {r:List aF},(n.rec (motive:=λ_=>List aF->aq (Option (List e.aj×List Nat×List aF))) (λcs=>.ret (some ([],[],cs)))
     (λ_ aJ cs=>(ih e cs).cR λ(x,l,r)=>(aJ r).cR λ(xs,m,q)=>.ret (some (x::xs,l++m,q))) cs).run H=some (xs,l,r)->
    iU H κ F' l->ew P H κ F w cs aE->
    ∃ fl d,aE=List.flatten fl++d/\fl.length=n/\xs.length=n/\(∀ i (h:i<xs.length) (de:i<fl.length),bJ P e F' w fl[i] xs[i])/\ew P H κ F w r d:=by
   intro n;induction n with
   | zero=>
    intro cs aE xs l r h ak bb;cases h;exact⟨[],aE,rfl,rfl,rfl,λi G=>(by simp),bb⟩
   | succ n BZ=>
    intro cs aE xs l r h ak bb;simp only[aq.e6,Option.bind_eq_some_iff,aq.bL,Option.some.injEq,Prod.mk.injEq]at h;obtain⟨⟨y,m,q⟩,E,⟨z,dx,q'⟩,U,rfl,rfl,rfl⟩:=h;obtain⟨c,d,rfl,bF,c2⟩:=aJ E ak.left bb;obtain⟨fl,qQ,rfl,d1,d2,d3,d4⟩:=BZ U ak.right c2;refine⟨c::fl,qQ,by simp,by grind,by grind,λi G dM=>?_,d4⟩;grind
  obtain⟨fl,d,ay,aN,cA,ea,dU⟩:=key n h ak bb;exact⟨fl.flatten,d,ay,⟨fl,rfl,aN,cA,ea⟩,dU⟩
 | bH e aJ=>intro cs aE x l r h ak bb;exact p4 (.bH e) (tw e (ih e)) rfl (λh ak af=>Rs aU bn aJ h ak af) h ak bb
 | map k v wL wM=>intro cs aE x l r h ak bb;exact eN (.map k v) rfl h ak bb
 | fn a b fy eL=>intro cs aE x l r h ak bb;exact eN (.fn a b) rfl h ak bb
 | cu a aJ=>intro cs aE x l r h ak bb;exact eN (.cu a) rfl h ak bb
 | eo=>intro cs aE x l r h ak bb;exact eN .eo rfl h ak bb
theorem mf(aU:∀ b,cE P H κ F w b)(bn:∀ r,F r->F' r){t:ad}{av:aF}{v:Value}{x:t.aj}{l:List Nat}(h:(dz t av).run H=some (x,l))
  (ak:iU H κ F' l) (af:bu P H κ F w av v):ep P t F' w v x:=by
 have ch:(kn t av).run H=some (x,l)->ep P t F' w v x:=by
  intro h;unfold kn at h;split at h
  ·exact Rs aU bn (λh ak bb=>J3 aU bn _ h ak bb) h ak af
  ·split at h
   ·rename_i aK;exact J1 aU bn aK h ak af
   ·cases h
 cases av with
 | val c1 y=>
  simp only[dz,aq.bL,Option.map_eq_some_iff,Prod.mk.injEq]at h;obtain⟨z,bk,rfl,rfl⟩:=h;exact (Fl bk af).mono bn (c8.refl F w)
 | agg n f=>
  simp only[dz]at h;split at h
  ·cases h
  ·simp only[aq.e6,Option.bind_eq_some_iff,aq.bL]at h;obtain⟨⟨y,m,q⟩,E,U⟩:=h;split at U
   ·rename_i hc;simp only[Bool.and_eq_true,List.isEmpty_iff]at hc;simp only[Option.some.injEq,Prod.mk.injEq]at U;obtain⟨rfl,rfl⟩:=U;obtain⟨aE,rfl,aZ,bM⟩:=af;obtain⟨c,d,rfl,bF,c2⟩:=J3 aU bn t E ak (BY aZ bM);rw[hc.1]at c2;cases d with
    | cons _ _=>exact c2.elim
    | nil=>
     rw[List.append_nil]at *
     have hlen:=hR t bF;have aD:=hc.2;cases t<;>simp only[ad.isAgg,Bool.false_eq_true]at aD
     ·exact⟨⟨c.toArray,rfl,by simpa [ad.size]using hlen⟩,by simpa [Value.cells]using bF⟩
     ·exact⟨⟨c.toArray,rfl,by simpa [ad.size]using hlen⟩,by simpa [Value.cells]using bF⟩
   grind
 | undef=>exact ch h
 | hC b a=>exact ch h
 | a7 b g off=>exact ch h
 | own b g=>exact ch h
 | oh b g i off=>exact ch h
 | iT b g i=>exact ch h
 | tv b g n=>exact ch h
 | wR n=>exact ch h
 | dV c1 y=>exact ch h
 | fH b g=>exact ch h
 | ix k n c=>exact ch h
 | r0 k n c=>exact ch h
 | p0 n f=>exact ch h
 | cS=>exact ch h
 | jB u=>exact ch h
 | j2 b g=>exact ch h
 | aR l aL L n st=>exact ch h
 | hf l=>exact ch h
 | wQ e xs=>exact ch h
 | sub b g aT G=>exact ch h
end
def ad.pure:ad->Bool
 | .bool | .int _ | .str | .cV=>true
 | .st t=>t.pure
 | .az a b=>a.pure&&b.pure
 | .array _ e=>e.pure
 | _=>false
theorem acY{P:Program}{F F':Nat->Prop}{w w':World}:∀ (t:ad) {cs:List Value} {x:t.aj},t.pure=true->bJ P t F w cs x->bJ P t F' w' cs x:=by
 intro t;induction t with
 | bool=>intro cs x _ h;exact h
 | int k=>intro cs x _ h;exact h
 | str=>intro cs x _ h;exact h
 | cV=>intro cs x _ h;exact h
 | st t aJ=>intro cs x aK h;exact aJ aK h
 | az a b fy eL=>
  intro cs x aK h;simp only[ad.pure,Bool.and_eq_true]at aK;obtain⟨c,d,rfl,bb,aa⟩:=h;exact⟨c,d,rfl,fy aK.1 bb,eL aK.2 aa⟩
 | slice e aJ=>intro cs x aK;cases aK
 | array n e aJ=>
  intro cs x aK h;obtain⟨fl,rfl,E,U,ah⟩:=h;exact⟨fl,rfl,E,U,λi G dM=>aJ aK (ah i G dM)⟩
 | bH e aJ=>intro cs x aK;cases aK
 | map k v wL wM=>intro cs x aK;cases aK
 | fn a b fy eL=>intro cs x aK;cases aK
 | cu a aJ=>intro cs x aK;cases aK
 | eo=>intro cs x aK;cases aK
end Go.Fer
namespace Go.Fer
open Go.RowKit
section
variable {P:Program} {F:Nat->Prop} {w:World}
theorem acZ{t:ad}{x y:t.aj}(h:eS t t x=some y):y=x:=by
 obtain⟨e,rfl⟩:=kK h;rfl
theorem Rt:∀ (t:ad) {f:Nat} {cs:List Value} {x:t.aj} {s:ad} {y:s.aj},bJ P t F w cs x->u2 t x f=some ⟨s,y⟩->
  ∃ bF c2 c3,cs=bF++(c2++c3)/\bJ P s F w c2 y/\me t f=some (s,bF.length):=by
 have eN:∀ (t:ad),(∀ a b,t≠.az a b)->t≠.cV->∀ {f:Nat} {cs:List Value} {x:t.aj} {s:ad} {y:s.aj},bJ P t F w cs x->u2 t x f=some ⟨s,y⟩->
   ∃ bF c2 c3,cs=bF++(c2++c3)/\bJ P s F w c2 y/\me t f=some (s,bF.length):=by
  intro t E U f cs x s y h ar;cases f with
  | zero=>
   have e:u2 t x 0=some ⟨t,x⟩:=by cases t<;>first | rfl | grind | grind
   have a1:me t 0=some (t,0):=by cases t<;>first | rfl | grind | grind
   rw[e]at ar;cases ar;exact⟨[],cs,[],by simp,h,a1⟩
  | succ f=>
   have e:u2 t x (f+1)=none:=by cases t<;>first | rfl | grind
   grind
 intro t;induction t with
 | az a b fy eL=>
  intro f cs x s y h ar;simp only[bJ]at h;obtain⟨c,d,rfl,bb,aa⟩:=h;cases f with
  | zero=>
   simp only[u2,Option.some.injEq,Sigma.mk.injEq]at ar;obtain⟨rfl,ar⟩:=ar;cases ar;exact⟨[],c,d,by simp,bb,rfl⟩
  | succ f=>
   obtain⟨bF,c2,c3,rfl,aW,aY⟩:=eL aa ar;refine⟨c++bF,c2,c3,by simp,aW,?_⟩;simp[me,aY,hR a bb]
 | cV=>intro f cs x s y _ ar;cases f<;>cases ar
 | bool=>grind
 | int k=>grind
 | str=>grind
 | st t _=>grind
 | slice e _=>grind
 | array n e _=>grind
 | bH e _=>grind
 | map k v _ _=>grind
 | fn a b _ _=>grind
 | cu a _=>grind
 | eo=>grind
theorem Ru:∀ (t:ad) {off:Nat} {cs:List Value} {x:t.aj} {s:ad} {y:s.aj},bJ P t F w cs x->r2 t x off s=some y->
  ∃ bF c2 c3,cs=bF++(c2++c3)/\bF.length=off/\bJ P s F w c2 y:=by
 have eN:∀ (t:ad) {off:Nat} {cs:List Value} {x:t.aj} {s:ad} {y:s.aj},bJ P t F w cs x->(if off=0 then eS t s x else none)=some y->
   ∃ bF c2 c3,cs=bF++(c2++c3)/\bF.length=off/\bJ P s F w c2 y:=by
  intro t off cs x s y h ar;split at ar
  ·rename_i ag;exact⟨[],cs,[],by simp,ag.symm,tx ar h⟩
  grind
 intro t;induction t with
 | az a b fy eL=>
  intro off cs x s y h ar;simp only[bJ]at h;obtain⟨c,d,rfl,bb,aa⟩:=h;simp only[r2]at ar;split at ar
  ·grind
  ·obtain⟨bF,c2,c3,rfl,aW,aY⟩:=eL aa ar;have:=hR a bb;grind
 | st t aJ=>
  intro off cs x s y h ar;simp only[r2]at ar;split at ar
  ·rename_i ag;exact⟨[],cs,[],by simp,ag.1.symm,tx ar h⟩
  ·simp only[bJ]at h;grind
 | cV=>intro off cs x s y _ ar;cases ar
 | array n e _=>intro off cs x s y _ ar;cases ar
 | bool=>intro off cs x s y h ar;exact eN _ h ar
 | int k=>intro off cs x s y h ar;exact eN (.int k) h ar
 | str=>intro off cs x s y h ar;exact eN _ h ar
 | slice e _=>intro off cs x s y h ar;exact eN (.slice e) h ar
 | bH e _=>intro off cs x s y h ar;exact eN (.bH e) h ar
 | map k v _ _=>intro off cs x s y h ar;exact eN (.map k v) h ar
 | fn a b _ _=>intro off cs x s y h ar;exact eN (.fn a b) h ar
 | cu a _=>intro off cs x s y h ar;exact eN (.cu a) h ar
 | eo=>intro off cs x s y h ar;exact eN .eo h ar
theorem ac0:∀ (t:ad) {off:Nat} {cs bj:List Value} {x dK:t.aj} {s:ad} {y:s.aj},bJ P t F w cs x->wU t x off s y=some dK->bJ P s F w bj y->
  ∃ bF c2 c3,cs=bF++(c2++c3)/\bF.length=off/\c2.length=s.size/\bJ P t F w (bF++(bj++c3)) dK:=by
 have eN:∀ (t:ad) {off:Nat} {cs bj:List Value} {x dK:t.aj} {s:ad} {y:s.aj},bJ P t F w cs x->(if off=0 then eS s t y else none)=some dK->bJ P s F w bj y->
   ∃ bF c2 c3,cs=bF++(c2++c3)/\bF.length=off/\c2.length=s.size/\bJ P t F w (bF++(bj++c3)) dK:=by
  intro t off cs bj x dK s y h ar aw;split at ar
  ·rename_i ag;obtain⟨e,rfl⟩:=kK ar;subst e;exact⟨[],cs,[],by simp,ag.symm,hR s h,by grind⟩
  grind
 intro t;induction t with
 | az a b fy eL=>
  intro off cs bj x dK s y h ar aw;simp only[bJ]at h;obtain⟨c,d,rfl,bb,aa⟩:=h;simp only[wU]at ar;split at ar
  ·simp only[Option.map_eq_some_iff]at ar;obtain⟨z,bk,rfl⟩:=ar;obtain⟨bF,c2,c3,rfl,aW,aY,bO⟩:=fy bb bk aw;exact⟨bF,c2,c3++d,by simp,aW,aY,⟨_,d,by simp,bO,aa⟩⟩
  ·simp only[Option.map_eq_some_iff]at ar;obtain⟨z,bk,rfl⟩:=ar;obtain⟨bF,c2,c3,rfl,aW,aY,bO⟩:=eL aa bk aw;have:=hR a bb;exact⟨c++bF,c2,c3,by simp,by grind,aY,⟨c,_,by simp,bb,bO⟩⟩
 | st t aJ=>
  intro off cs bj x dK s y h ar aw;simp only[wU]at ar;split at ar
  ·rename_i ag;obtain⟨ag,e⟩:=ag;subst e;have:=acZ ar;subst this;exact⟨[],cs,[],by simp,ag.symm,hR _ h,by grind⟩
  ·simp only[bJ]at h ⊢;grind
 | cV=>intro off cs bj x dK s y _ ar;cases ar
 | array n e _=>intro off cs bj x dK s y _ ar;cases ar
 | bool=>intro off cs bj x dK s y h ar aw;exact eN _ h ar aw
 | int k=>intro off cs bj x dK s y h ar aw;exact eN (.int k) h ar aw
 | str=>intro off cs bj x dK s y h ar aw;exact eN _ h ar aw
 | slice e _=>intro off cs bj x dK s y h ar aw;exact eN (.slice e) h ar aw
 | bH e _=>intro off cs bj x dK s y h ar aw;exact eN (.bH e) h ar aw
 | map k v _ _=>intro off cs bj x dK s y h ar aw;exact eN (.map k v) h ar aw
 | fn a b _ _=>intro off cs bj x dK s y h ar aw;exact eN (.fn a b) h ar aw
 | cu a _=>intro off cs bj x dK s y h ar aw;exact eN (.cu a) h ar aw
 | eo=>intro off cs bj x dK s y h ar aw;exact eN .eo h ar aw
end
def j4:ad->List Value->Option (List Value)
 | .cV,cs=>some cs
 | .st t,cs=>j4 t cs
 | .az a b,cs=>(j4 a cs).bind (j4 b)
 | .array n e,cs=>n.rec (motive:=λ_=>List Value->Option (List Value)) some (λ_ aJ cs=>(j4 e cs).bind aJ) cs
 | .bool,cs=>match cs with | .bool false::r=>some r | _=>none
 | .int k,cs=>match cs with | .int k' n::r=>if k'=k/\n=0 then some r else none | _=>none
 | .str,cs=>match cs with | .string s::r=>if s.size=0 then some r else none | _=>none
 | .slice _,cs=>match cs with | .slice none 0 0::r=>some r | _=>none
 | .bH _,cs=>match cs with | .pointer none::r=>some r | _=>none
 | .map _ _,cs=>match cs with | .map none::r=>some r | _=>none
 | .fn _ _,cs=>match cs with | .nilFunc::r=>some r | _=>none
 | .cu _,cs=>match cs with | .nilFunc::r=>some r | _=>none
 | .eo,cs=>match cs with | .nilFunc::r=>some r | _=>none
theorem Rv(k:IntKind):fR k 0:=by cases k<;>decide
theorem u4{P:Program}{H:Nat->bK}{κ:Nat->bD}{F:Nat->Prop}{w:World}:∀ (t:ad) {cs r:List Value},j4 t cs=some r->
  ∃ c,cs=c++r/\bJ P t F w c t.dh/\ew P H κ F w (r1 t) c:=by
 intro t;induction t with
 | cV=>intro cs r h;cases h;exact⟨[],by simp,rfl,trivial⟩
 | st t aJ=>intro cs r h;exact aJ h
 | az a b fy eL=>
  intro cs r h;simp only[j4,Option.bind_eq_some_iff]at h;obtain⟨q,E,U⟩:=h;obtain⟨c,rfl,bF,c2⟩:=fy E;obtain⟨d,rfl,d1,d2⟩:=eL U;exact⟨c++d,by simp,⟨c,d,rfl,bF,d1⟩,c2.append d2⟩
 | array n e aJ=>
  intro cs r h;simp only[j4]at h;have key:∀ (n k:Nat) {cs r:List Value},n.rec (motive:=λ_=>List Value->Option (List Value)) some (λ_ aJ cs=>(j4 e cs).bind aJ) cs=some r->
    ∃ fl:List (List Value),cs=fl.flatten++r/\fl.length=n/\(∀ c∈fl,bJ P e F w c e.dh)/\ew P H κ F w ((List.range' k n).flatMap λ_=>r1 e) fl.flatten:=by
   intro n;induction n with
   | zero=>intro k cs r h;cases h;exact⟨[],by simp,rfl,by simp,trivial⟩
   | succ n BZ=>
    intro k cs r h;simp only[Option.bind_eq_some_iff]at h;obtain⟨q,E,U⟩:=h;obtain⟨c,rfl,bF,c2⟩:=aJ E;obtain⟨fl,rfl,d1,d2,d3⟩:=BZ (k+1) U;refine⟨c::fl,by simp,by grind,?_,?_⟩
    ·grind
    ·simp only[List.range'_succ,List.flatMap_cons,List.flatten_cons];exact c2.append d3
  obtain⟨fl,rfl,E,U,ah⟩:=key n 0 h;refine⟨fl.flatten,rfl,⟨fl,rfl,E,by simp[ad.dh],λi G dM=>?_⟩,?_⟩
  ·have:(ad.array n e).dh[i]=e.dh:=by simp[ad.dh]
   grind
  ·simp only[r1,List.range_eq_range'];exact ah
 | bool=>
  intro cs r h;simp only[j4]at h;split at h
  ·cases h;exact⟨[.bool false],rfl,rfl,⟨ff.2 rfl,rfl⟩,trivial⟩
  grind
 | int k=>
  intro cs r h;simp only[j4]at h;split at h
  ·split at h
   ·rename_i an;obtain⟨rfl,rfl⟩:=an;cases h;exact⟨[.int _ 0],rfl,⟨rfl,Rv _⟩,⟨gT.2 ⟨rfl,Rv _⟩,rfl⟩,trivial⟩
   grind
  grind
 | str=>
  intro cs r h;simp only[j4]at h;split at h
  ·rename_i s pZ;split at h
   ·rename_i aD;cases h;have:s=⟨([]:List UInt8).toArray⟩:=by
     cases s with | mk d=>simp only[ByteArray.size]at aD;grind
    subst this;exact⟨[.string ⟨([]:List UInt8).toArray⟩],rfl,⟨rfl,by decide⟩,⟨ma.2 ⟨rfl,by decide⟩,rfl⟩,trivial⟩
   grind
  grind
 | slice e _=>
  intro cs r h;simp only[j4]at h;split at h
  ·cases h;exact⟨[.slice none 0 0],rfl,⟨none,0,rfl,Nat.le_refl _,by decide,λ_=>rfl,λp ao=>by simp⟩,⟨rfl,rfl⟩,trivial⟩
  grind
 | bH e _=>
  intro cs r h;simp only[j4]at h;split at h
  ·cases h;exact⟨[.pointer none],rfl,.inl ⟨rfl,rfl⟩,⟨(dT rfl).2 ⟨rfl,.inl ⟨rfl,rfl⟩⟩,rfl⟩,trivial⟩
  grind
 | map k v _ _=>
  intro cs r h;simp only[j4]at h;split at h
  ·cases h;exact⟨[.map none],rfl,.inl ⟨rfl,rfl⟩,⟨(dT rfl).2 ⟨rfl,.inl ⟨rfl,rfl⟩⟩,rfl⟩,trivial⟩
  grind
 | fn a b _ _=>
  intro cs r h;simp only[j4]at h;split at h
  ·cases h;exact⟨[.nilFunc],rfl,⟨.nilFunc,rfl,⟨rfl,rfl⟩,λF' w' _ _ _ _ args x _ _ aD=>(show False from aD).elim⟩,⟨rfl,rfl⟩,trivial⟩
  grind
 | cu a _=>
  intro cs r h;simp only[j4]at h;split at h
  ·cases h;exact⟨[.nilFunc],rfl,⟨.nilFunc,rfl,⟨rfl,rfl⟩,λF' w' _ _ _ _ aD=>(show ∃ _,False from aD).elim λ_ h=>h.elim⟩,⟨rfl,rfl⟩,trivial⟩
  grind
 | eo=>
  intro cs r h;simp only[j4]at h;split at h
  ·cases h;exact⟨[.nilFunc],rfl,rfl,⟨(dT rfl).2 ⟨rfl,rfl⟩,rfl⟩,trivial⟩
  grind
def oi(P:Program)(t:ad)(id:TypeId):Bool:=
 match P.info? id with
 | some i=>i.size == t.size&&decide (i.bytes<=1024)&&(match i.zero with
  | some z=>(match j4 t z.cells.toList with | some []=>true | _=>false)&&(match t,z with
   | .st _,.agg _=>true
   | .array _ _,.agg _=>true
   | .st _,_=>false
   | .array _ _,_=>false
   | _,.agg _=>false
   | _,_=>true)
  | none=>false)
 | none=>false
def cF(P:Program):ad->Sum TypeId (List Field×Nat)->Bool
 | .az a b, .inr (f :: g :: [], off) => f.offset == off && cF P a (.inl f.type) && a.size != 0 && f.name != "_" && (g.offset == off + a.size && cF P b (.inl g.type) && b.size != 0 && g.name != "_")
 | .az a b, .inr (f :: g :: h :: eT, off) => f.offset == off && cF P a (.inl f.type) && a.size != 0 && f.name != "_" && cF P b (.inr (g :: h :: eT, off + a.size))
 | .st t,.inl id=>oi P (.st t) id&&!P.stoodInHeld id&&!P.eqGuardType P.depth id&&match P.underlying id with
  | some (.struct eT)=>(match eT.toList with
   | []=>decide (t=.cV)
   | [f] => f.offset == 0 && cF P t (.inl f.type) && t.size != 0 && f.name != "_"
   | l=>cF P t (.inr (l,0)))
  | _=>false
 | .bool,.inl id=>oi P .bool id&&(match P.underlying id with | some .bool=>true | _=>false)
 | .int k,.inl id=>oi P (.int k) id&&(match P.underlying id with | some (.int k')=>decide (k'=k) | _=>false)
 | .str,.inl id=>oi P .str id&&(match P.underlying id with | some .string=>true | _=>false)
 | .slice e,.inl id=>oi P (.slice e) id&&(match P.underlying id with | some (.slice i)=>cF P e (.inl i)&&e.size != 0 | _=>false)
 | .array n e,.inl id=>oi P (.array n e) id&&(match P.underlying id with | some (.array m i)=>decide (m=n)&&cF P e (.inl i)&&e.size != 0 | _=>false)
 | .bH e,.inl id=>oi P (.bH e) id&&(match P.underlying id with | some (.pointer i)=>cF P e (.inl i)&&e.size != 0 | _=>false)
 | .map k v,.inl id=>oi P (.map k v) id&&(match P.underlying id with | some (.map i j)=>cF P k (.inl i)&&cF P v (.inl j) | _=>false)
 | .fn a b,.inl id=>oi P (.fn a b) id&&(match P.underlying id with | some (.func _ _ _)=>true | _=>false)
 | .cu a,.inl id=>oi P (.cu a) id&&(match P.underlying id with | some (.func _ _ _)=>true | _=>false)
 | .eo,.inl id=>oi P .eo id&&(match P.underlying id with | some (.func _ _ _)=>true | _=>false)
 | _,_=>false
def b'(P:Program)(t:ad)(id:TypeId):Prop:=cF P t (.inl id)=true
theorem b'.ko{P:Program}{t:ad}{id:TypeId}(h:b' P t id):oi P t id=true:=by
 unfold b' at h;cases t<;>simp only[cF,Bool.and_eq_true,Bool.false_eq_true]at h<;>first | exact h.1.1.1 | exact h.1
theorem kp{P:Program}{t:ad}{id:TypeId}(h:oi P t id=true):∃ i z,P.info? id=some i/\i.size=t.size/\i.bytes<=1024/\i.zero=some z/\
  j4 t z.cells.toList=some []/\((∃ cs,z=.agg cs)<->t.isAgg=true):=by
 unfold oi at h;split at h
 ·rename_i i G;simp only[Bool.and_eq_true,beq_iff_eq,decide_eq_true_eq]at h;obtain⟨⟨E,U⟩,ah⟩:=h;split at ah
  ·rename_i z bk;simp only[Bool.and_eq_true]at ah;obtain⟨aZ,bM⟩:=ah;refine⟨i,z,G,E,U,bk,?_,?_⟩
   ·grind
   ·cases t<;>cases z<;>simp_all[ad.isAgg]
  grind
 grind
end Go.Fer
namespace Go.Fer
open Go.RowKit
structure eC where
 b7:Prop
 c:Prop
 e9:aF
 hE:List (Nat×bK)
def use:aF->Prop×aF
 | .hC b a=>(b=true,a)
 | a=>(True,a)
def wV:Value->aF
 | .bool b=>.val .bool b
 | .int k n=>if fR k n then .val (.int k) n else .jB (.int k n)
 | .string s=>if s.size<1048576 then .val .str s.data.toList else .jB (.string s)
 | .slice none 0 0=>.cS
 | v=>.jB v
def aF.qR:aF->aF
 | .tv b g _=>.own b g
 | v=>v
def a8(aQ:dD)(s:Nat->aF):Operand->aF
 | .tmp t=>(s t).qR
 | .const v=>wV v
 | .func f=>match aQ.tt f with
  | some v=>.val (.fn v.ts v.aR) v.sh
  | none=>.ix f 0 λ_=>.undef
 | .global _=>.undef
structure aP where
 ts:ad
 aR:ad
 pre:ts.aj->Prop
 g:ts.aj->aR.aj
def kq:(t:ad)->t.aj->Nat->aF
 | .az a _,x,0=>.val a x.1
 | .az _ b,x,i+1=>kq b x.2 i
 | t,x,0=>.val t x
 | _,_,_+1=>.undef
def j5:ad->Nat
 | .az _ b=>j5 b+1
 | .cV=>0
 | _=>1
def qS(t:ad)(x:t.aj):aF:=
 match t with
 | .az a b=>.p0 (j5 (.az a b)) (kq (.az a b) x)
 | .cV=>.jB (.tuple #[])
 | t=>.val t x
def iV:(t:ad)->List aF->aq (Option (t.aj×List Nat))
 | .az a b,v::aE=>(dz a v).cR λ(x,l)=>(iV b aE).cR λ(y,m)=>.ret (some ((x,y),l++m))
 | .az _ _,[]=>.none
 | .cV,[]=>.ret (some ((),[]))
 | .cV,_::_=>.none
 | t,[v]=>dz t v
 | _,_=>.none
def jG:List Nat->aq (List (Nat×bK))
 | []=>.ret []
 | b::l=>.eR b λx=>(jG l).bind λr=>match x.body with
  | .bf e xs=>.ret ((b,⟨x.gen,.hD e xs⟩)::r)
  | .mp k v es=>.ret ((b,⟨x.gen,.jh k v es⟩)::r)
  | .cells t f=>(ih t ((List.range t.size).map f)).bind λo=>.ret (match o with
   | some (y,_,[])=>(b,⟨x.gen,.gI t y⟩)::r
   | _=>r)
  | _=>.ret r
def cellsOf(t:ad)(av:aF):Option (List aF):=
 match t,av with
 | .st t,.val (.st c1) x=>if c1=t then some (nG c1 x) else none
 | .st t,.agg n f=>if n=t.size then some ((List.range n).map f) else none
 | .array n e,.val (.array iW a1) x=>if iW=n/\a1=e then some (nG (.array iW a1) x) else none
 | .array n e,.agg m f=>if m=n*e.size then some ((List.range m).map f) else none
 | t,av=>if t.eG then (match av with
  | .val c1 _=>if c1.eG then some [av] else none
  | .a7 _ _ _ | .own _ _ | .oh _ _ _ _ | .dV _ _ | .fH _ _ | .ix _ _ _ | .cS | .sub _ _ _ _=>some [av]
  | .jB (.agg _) | .jB (.tuple _)=>none
  | .jB _=>some [av]
  | _=>none) else none
def aF.mg:aF->Option (IntKind×Int)
 | .val (.int k) x=>some (k,x)
 | _=>none
def aF.tz:aF->Option (List UInt8)
 | .val .str x=>some x
 | _=>none
def y6(op:BinOp)(k:IntKind)(a b:Int):Option (Prop×aF):=
 match op with
 | .add=>some (True,.val (.int k) (k.wrap (a+b)))
 | .sub=>some (True,.val (.int k) (k.wrap (a - b)))
 | .mul=>some (True,.val (.int k) (k.wrap (a*b)))
 | .quo=>some (b≠0,.val (.int k) (k.wrap (a.tdiv b)))
 | .rem=>some (b≠0,.val (.int k) (a.tmod b))
 | .and=>some (True,.val (.int k) (lI k a b))
 | .or=>some (True,.val (.int k) (Rn k a b))
 | .xor=>some (True,.val (.int k) (Ro k a b))
 | .andNot=>some (True,.val (.int k) (Rp k a b))
 | .eql=>some (True,.val .bool (decide (a=b)))
 | .neq=>some (True,.val .bool (decide (a≠b)))
 | .lss=>some (True,.val .bool (decide (a<b)))
 | .leq=>some (True,.val .bool (decide (a<=b)))
 | .gtr=>some (True,.val .bool (decide (a > b)))
 | .geq=>some (True,.val .bool (decide (a>=b)))
 | _=>none
def J4(op:BinOp)(k:IntKind)(a b:Int):Option (Prop×aF):=
 match op with
 | .shl=>some (0<=b,.val (.int k) (acW k a b))
 | .shr=>some (0<=b,.val (.int k) (ji k a b))
 | _=>none
def B0(op:BinOp)(a b:List UInt8):Option (Prop×aF):=
 match op with
 | .add=>some (b6 (a.length+b.length),.val .str (a++b))
 | .eql=>some (True,.val .bool (decide (a=b)))
 | .neq=>some (True,.val .bool (decide (a≠b)))
 | .lss=>some (True,.val .bool (Op.bytesLess a b))
 | .geq=>some (True,.val .bool (!Op.bytesLess a b))
 | _=>none
def ad.j6:ad->Nat
 | .st t=>t.j6+1
 | .az a b=>max a.j6 b.j6
 | _=>1
def y7(op:BinOp)(t:ad)(x y:aF):aq (Option (Prop×aF)):=
 (match t,x,y with
 | .bH _,.val (.bH _) p,.jB (.pointer none)=>.ret (some p.isNone)
 | .bH _,.dV _ _,.jB (.pointer none)=>.ret (some false)
 | .bH _,.a7 b g _,.jB (.pointer none)=>.eR b λz=>.ret (if z.gen=g&&z.body.fI then some false else none)
 | t,x,y=>if t.kM&&decide (t.j6<=100) then (dz t x).cR λ(a,_)=>(dz t y).cR λ(b,_)=>.ret (some (gJ t a b)) else .none:aq (Option Bool)).cR λe=>
 .ret (match op with
  | .eql=>some (True,.val .bool e)
  | .neq=>some (True,.val .bool (!e))
  | _=>none)
def bN(b7 c:Prop)(v:aF):aq (Option eC):=.ret (some ⟨b7,c,v,[]⟩)
def Fo(t:ad)(av:aF):aq (Option (Prop×Int)):=
 match t with
 | .slice _=>match av with
  | .val (.slice _) xs=>.ret (some (True,xs.length))
  | .cS=>.ret (some (True,0))
  | .wR n=>.ret (some (True,n))
  | .own b g=>.eR b λx=>.ret (if x.gen=g&&x.body.e3 then some (True,x.body.len) else none)
  | .sub b g aT G=>.eR b λx=>.ret (if x.gen=g&&x.body.e3 then some (True,((G - aT:Nat):Int)) else none)
  | _=>.none
 | .str=>match av with
  | .val .str xs=>.ret (some (True,xs.length))
  | _=>.none
 | .map _ _=>match av with
  | .val (.map _ _) xs=>.ret (some (b6 xs.length,xs.length))
  | .fH b g=>.eR b λx=>.ret (if x.gen=g then (match x.body with | .mp _ _ es=>some (b6 es.length,(es.length:Int)) | .jh _ _ es=>some (b6 es.length,(es.length:Int)) | _=>none) else none)
  | _=>.none
 | _=>.none
def y8(t:ad):aF->aq (Option aF)
 | .dV c1 x=>.ret (if c1=t/\(t.eG||t.isAgg)=true then some (.val c1 x) else none)
 | .a7 b g off=>.eR b λx=>.ret (if x.gen=g then (match x.body with
   | .cells t0 f=>if t.eG then (if off<t0.size then some (f off) else none) else if t.isAgg then (if off+t.size<=t0.size then some (.agg t.size λi=>f (off+i)) else none) else none
   | .gI t0 y=>if t.eG||t.isAgg then (r2 t0 y off t).map (.val t) else none
   | _=>none) else none)
 | .oh b g i off=>.eR b λx=>.ret (if x.gen=g then (match x.body with
   | .bf e xs=>if t.eG||t.isAgg then (r2 e (xs.getD i e.dh) off t).map (.val t) else none
   | .hD e xs=>if t.eG||t.isAgg then (r2 e (xs.getD i e.dh) off t).map (.val t) else none
   | _=>none) else none)
 | _=>.none
def putCells(f:Nat->aF)(off:Nat)(l:List aF):Nat->aF:=λi=>if off<=i/\i<off+l.length then l.getD (i - off) .undef else f i
def Rw(t:ad)(p v:aF):aq (Option (List (Nat×bK))):=
 match p with
 | .a7 b g off=>.eR b λx=>.ret (if x.gen=g then (match x.body with
   | .cells t0 f=>(cellsOf t v).bind λl=>if off+l.length<=t0.size/\l.length=t.size then some [(b,⟨x.gen,.cells t0 (putCells f off l)⟩)] else none
   | _=>none) else none)
 | .oh b g i off=>(dz t v).cR λ(y,l)=>(jG l).bind λwl=>.eR b λx=>.ret (if x.gen=g/\!l.contains b then (match x.body with
   | .bf e xs=>(wU e (xs.getD i e.dh) off t y).map λz=>wl++[(b,⟨x.gen,.bf e (xs.set i z)⟩)]
   | _=>none) else none)
 | _=>.none
def Rx(bG:ad)(x:aF)(i:Int):aq (Option (Prop×aF)):=
 match x with
 | .val (.slice e) xs=>.ret (if e=bG then some (0<=i/\i<(xs.length:Int),.dV e (kL e xs i)) else none)
 | .own b g=>.eR b λz=>.ret (if z.gen=g then (match z.body with
   | .bf e xs=>if e=bG then some (0<=i/\i<(xs.length:Int),.oh b g i.toNat 0) else none
   | .hD e xs=>if e=bG then some (0<=i/\i<(xs.length:Int),.dV e (kL e xs i)) else none
   | _=>none) else none)
 | .sub b g aT G=>.eR b λz=>.ret (if z.gen=g then (match z.body with
   | .bf e _=>if e=bG then some (0<=i/\i<((G - aT:Nat):Int),.oh b g (aT+i.toNat) 0) else none
   | .hD e xs=>if e=bG then some (0<=i/\i<((G - aT:Nat):Int),.dV e (kL e xs ((aT:Int)+i))) else none
   | _=>none) else none)
 | .cS=>.ret (some (False,.dV bG bG.dh))
 | _=>.none
def dr:Option Int->Int | some l=>l | none=>0
def fA(n:Nat):Option Int->Int | some h=>h | none=>n
def B1(aT G:Option Int)(n m:Nat):Nat:=match aT,G with | some _,some _=>m | _,_=>n
def Ry(bG:ad)(x:aF)(aT G:Option Int):aq (Option (Prop×aF)):=
 match x with
 | .val (.slice e) xs=>.ret (if e=bG then some (0<=dr aT/\dr aT<=fA xs.length G/\fA xs.length G<=(xs.length:Int),.val (.slice e) ((xs.take (fA xs.length G).toNat).drop (dr aT).toNat)) else none)
 | .cS=>.ret (some (0<=dr aT/\dr aT<=fA 0 G/\fA 0 G<=0,.cS))
 | .own b g=>.eR b λz=>.ret (if z.gen=g&&z.body.e3&&z.body.e4 == bG.size then some (0<=dr aT/\dr aT<=fA z.body.len G/\fA z.body.len G<=(z.body.len:Int),.sub b g (dr aT).toNat (fA z.body.len G).toNat) else none)
 | .sub b g fg aX=>.eR b λz=>.ret (if z.gen=g&&z.body.e3&&z.body.e4 == bG.size then some (0<=dr aT/\dr aT<=fA (aX - fg) G/\fA (aX - fg) G<=((B1 aT G (aX - fg) (z.body.len - fg):Nat):Int),.sub b g (fg+(dr aT).toNat) (fg+(fA (aX - fg) G).toNat)) else none)
 | _=>.none
def Rz(x:aF)(aT G:Option Int):Option (Prop×aF):=
 match x with
 | .val .str xs=>some (0<=dr aT/\dr aT<=fA xs.length G/\fA xs.length G<=(xs.length:Int),.val .str ((xs.take (fA xs.length G).toNat).drop (dr aT).toNat))
 | _=>none
def h6(d:Option Nat)(k:Nat->Nat->Option eC):aq (Option eC):=
 match d with
 | none=>.none
 | some d=>.eR d λx=>.ret (k d (x.gen+1))
def J5(d:Option Nat)(e:ad)(x y:aF)(b7:Prop):aq (Option eC):=
 match x with
 | .own b g=>.eR b λz=>match (if z.gen=g then z.body else .fz) with
  | .bf a1 xs=>if h:a1=e then (dz (.slice e) y).cR λ(ys,_)=>.ret (some ⟨b7,b6 (xs.length+ys.length),.own b (g+1),[(b,⟨g+1,.bf e ((h ▸ xs)++ys)⟩)]⟩) else .none
  | _=>.none
 | .sub b g aT G=>.eR b λz=>match (if z.gen=g then z.body else .fz) with
  | .bf a1 xs=>if h:a1=e then (dz (.slice e) y).cR λ(ys,_)=>.ret (some ⟨b7,b6 (((xs.take G).drop aT).length+ys.length),.own b (g+2),[(b,⟨g+2,.bf e ((h ▸ (xs.take G).drop aT)++ys)⟩)]⟩) else .none
  | _=>.none
 | .cS=>(dz (.slice e) y).cR λ(ys,_)=>h6 d λb g=>some ⟨b7,b6 ys.length,.own b g,[(b,⟨g,.bf e ys⟩)]⟩
 | .wQ a1 xs=>if h:a1=e then (dz (.slice e) y).cR λ(ys,_)=>h6 d λb g=>some ⟨b7,0<ys.length/\b6 (xs.length+ys.length),.own b g,[(b,⟨g,.bf e ((h ▸ xs)++ys)⟩)]⟩ else .none
 | _=>.none
def Fp(t:ad):List aF->List (Nat×aF)->Option (List aF)
 | cs,[]=>some cs
 | cs,(i,av)::r=>
  match me t i with
  | none=>none
  | some (s,off)=>match cellsOf s av with
   | none=>none
   | some l=>if l.length=s.size/\off+s.size<=cs.length then Fp t (cs.take off++(l++cs.drop (off+s.size))) r else none
def tA(e:ad)(ps:List (Nat×aF)):Nat->Nat->aq (Option (List e.aj×List Nat))
 | _,0=>.ret (some ([],[]))
 | i,n+1=>(match ps.find? (λp=>p.1 == i) with
   | some p=>dz e p.2
   | none=>.ret (some (e.dh,[])):aq (Option (e.aj×List Nat))).cR λ(x,l)=>(tA e ps (i+1) n).cR λ(xs,m)=>.ret (some (x::xs,l++m))
def r3(ps:List (Nat×aF)):Prop:=ps.foldr (λp q=>match p.2 with | .hC b _=>b=true/\q | _=>q) True
def iA(ps:List (Nat×aF)):List (Nat×aF):=ps.map λp=>(p.1,(use p.2).2)
def jH(ps:List aF):Prop:=ps.foldr (λp q=>match p with | .hC b _=>b=true/\q | _=>q) True
def k7(aI:Operand->aF):Option Operand->Option (Prop×Option Int)
 | none=>some (True,none)
 | some x=>match use (aI x) with
  | (o,.val (.int _) n)=>some (o,some n)
  | _=>none
def Fq(T:Nat->ad)(aI:Operand->aF)(ty:TypeId)(x:Operand)(aT G:Option Operand):aq (Option eC):=
 let (cD,dZ):=use (aI x)
 match k7 aI aT,k7 aI G with
 | some (ol,l),some (qT,h)=>match T ty with
  | .slice e=>(Ry e dZ l h).cR λ(c,v)=>bN (cD/\(ol/\qT)) c v
  | .str=>match Rz dZ l h with
   | some (c,v)=>bN (cD/\(ol/\qT)) c v
   | none=>.none
  | _=>.none
 | _,_=>.none
def RA(bG:ad)(x:aF)(aT G:Option Int)(m:Int):aq (Option (Prop×aF)):=
 match x with
 | .val (.slice e) xs=>.ret (if e=bG then some (0<=dr aT/\dr aT<=fA xs.length G/\fA xs.length G=m/\m<=(xs.length:Int),.wQ e ((xs.take m.toNat).drop (dr aT).toNat)) else none)
 | .cS=>.ret (some (dr aT=0/\fA 0 G=0/\m=0,.wQ bG []))
 | .own b g=>.eR b λz=>.ret (if z.gen=g&&z.body.e3 then some (0<=dr aT/\dr aT<=fA z.body.len G/\fA z.body.len G<=m/\m<=(z.body.len:Int),.undef) else none)
 | _=>.none
def Fs(T:Nat->ad)(aI:Operand->aF)(ty:TypeId)(x:Operand)(aT G o7:Option Operand):aq (Option eC):=
 let (cD,dZ):=use (aI x)
 match k7 aI aT,k7 aI G,k7 aI o7 with
 | some (ol,l),some (qT,some h),some (u5,some m)=>match T ty with
  | .slice e=>(RA e dZ l (some h) m).cR λ(c,v)=>bN (cD/\(ol/\(qT/\u5))) c v
  | _=>.none
 | _,_,_=>.none
def B2(T:Nat->ad)(aI:Operand->aF)(args:List Operand)(dn:List TypeId):aq (Option eC):=
 match args,dn with
 | [x],[t]=>let (cD,dZ):=use (aI x);(Fo (T t) dZ).cR λ(c,n)=>bN cD c (.val (.int .i64) n)
 | _,_=>.none
def B3(T:Nat->ad)(aI:Operand->aF)(d:Option Nat)(args:List Operand)(dn:List TypeId):aq (Option eC):=
 match args,dn with
 | [x,y],[t,u]=>match T t,T u with
  | .slice e,.slice _=>let (cD,dZ):=use (aI x);let (nH,kr):=use (aI y);J5 d e dZ kr (cD/\nH)
  | _,_=>.none
 | _,_=>.none
def mK(aI:Operand->aF)(k:IntKind):List Operand->Option (Prop×z1')
 | []=>none
 | [x]=>match (use (aI x)).2.mg with
  | some (k',n)=>if k'=k then some ((use (aI x)).1,[n]) else none
  | none=>none
 | x::l=>match (use (aI x)).2.mg,mK aI k l with
  | some (k',n),some (b7,h7)=>if k'=k then some ((use (aI x)).1/\b7,n::h7) else none
  | _,_=>none
def r4(aI:Operand->aF)(f:Int->Int->Int)(args:List Operand):aq (Option eC):=
 match args with
 | x::y::l=>match (use (aI x)).2.mg with
  | some (k,a)=>match mK aI k (y::l) with
   | some (b7,h7)=>bN ((use (aI x)).1/\b7) True (.val (.int k) (h7.foldl f a))
   | none=>.none
  | none=>.none
 | _=>.none
def B4(T:Nat->ad)(aI:Operand->aF)(args:List Operand)(dn:List TypeId):aq (Option eC):=
 match args,dn with
 | [x],[t]=>match T t,use (aI x) with
  | .slice _,(cD,.cS)=>bN cD True (.val (.int .i64) 0)
  | _,_=>.none
 | _,_=>.none
def k8(t:ad):Bool:=match t with | .az (.slice _) .cV=>true | _=>false
def B5(t:ad)(y:t.aj):Option ((e:ad)×List e.aj):=match t,y with | .az (.slice e) .cV,y=>some ⟨e,y.1⟩ | _,_=>none
def Ft(bg:Nat->Option aP)(aI:Operand->aF)(d:Option Nat)(k:Nat)(args:List Operand):aq (Option eC):=
 let l:=args.map aI
 match bg k with
 | some c=>(iV c.ts (l.map λv=>(use v).2)).cR λ(x,bV)=>match B5 c.aR (c.g x) with
  | some y=>(jG bV).bind λwl=>h6 d λb g=>if bV.contains b then none else some ⟨jH l,c.pre x,.own b g,wl++[(b,⟨g,.bf y.1 y.2⟩)]⟩
  | none=>(if c.aR.pure then .ret [] else jG bV:aq (List (Nat×bK))).bind λwl=>.ret (some ⟨jH l,c.pre x,qS c.aR (c.g x),wl⟩)
 | none=>.none
def y9{k v:ad}(es:List (k.aj×v.aj))(x:k.aj):Option v.aj:=(es.find? λp=>gJ k x p.1).map (·.2)
def lJ{k v:ad}:List (k.aj×v.aj)->k.aj->v.aj->List (k.aj×v.aj)
 | [],x,y=>[(x,y)]
 | p::es,x,y=>if gJ k x p.1=true then (p.1,y)::es else p::lJ es x y
def tB(k:ad):Bool:=k.kM&&decide (k.j6<=100)
def B6(k v:ad)(m:aF):aq (Option (List (k.aj×v.aj))):=
 match m with
 | .val t es=>.ret (eS t (.map k v) es)
 | .jB (.map none)=>.ret (some [])
 | .fH b g=>.eR b λx=>.ret (if x.gen=g then (match x.body with
   | .mp k' h5 es=>eS (.map k' h5) (.map k v) es
   | .jh k' h5 es=>eS (.map k' h5) (.map k v) es
   | _=>none) else none)
 | _=>.none
def RB(v:ad)(r:Option v.aj)(ok:Bool):aF:=
 match ok with
 | true=>.p0 2 (hh [.val v (r.getD v.dh),.val .bool r.isSome])
 | false=>.val v (r.getD v.dh)
def y_(T:Nat->ad)(aI:Operand->aF)(ty:TypeId)(m x:Operand)(ok:Bool):aq (Option eC):=
 match T ty with
 | .map k v=>let (u5,J6):=use (aI m);let (cD,dZ):=use (aI x);if tB k&&(v.eG||v.isAgg) then
   (B6 k v J6).cR λes=>(dz k dZ).cR λ(y,_)=>
    bN (u5/\cD) True (RB v (y9 es y) ok)
  else .none
 | _=>.none
def qU(T:Nat->ad)(aI:Operand->aF)(ty:TypeId)(m x y:Operand):aq (Option eC):=
 match T ty with
 | .map k v=>let (u5,J6):=use (aI m);let (cD,dZ):=use (aI x);let (nH,kr):=use (aI y);if tB k then
   match J6 with
   | .fH b g=>(dz k dZ).cR λ(x,oj)=>(dz v kr).cR λ(y,om)=>(jG (oj++om)).bind λwl=>.eR b λz=>.ret (if z.gen=g/\!(oj++om).contains b then (match z.body with
     | .mp k' h5 es=>(eS (.map k' h5) (.map k v) es).map λes=>⟨u5/\cD/\nH,True,.undef,wl++[(b,⟨z.gen,.mp k v (lJ es x y)⟩)]⟩
     | _=>none) else none)
   | _=>.none
  else .none
 | _=>.none
def Fu(T:Nat->ad)(aI:Operand->aF)(d:Option Nat)(ty:TypeId)(l c:Operand):aq (Option eC):=
 match T ty with
 | .slice e=>let (ol,ac1):=use (aI l);let (p5,ac2):=use (aI c);match ac1.mg,ac2.mg with
  | some (.i64,n),some (.i64,m)=>h6 d λb g=>some ⟨ol/\p5,0<=n/\n=m/\b6 n.toNat,.own b g,[(b,⟨g,.bf e (List.replicate n.toNat e.dh)⟩)]⟩
  | _,_=>.none
 | _=>.none
def gf{al:Type}(xs:List al)(aT:Nat)(ys:List al):List al:=xs.take aT++ys++xs.drop (aT+ys.length)
def Fv(T:Nat->ad)(aI:Operand->aF)(args:List Operand)(dn:List TypeId):aq (Option eC):=
 match args,dn with
 | [x,y],[t,u]=>match T t,T u with
  | .slice e,.slice _=>let (cD,dZ):=use (aI x);let (nH,kr):=use (aI y);match (match dZ with | .own b g=>some (b,g,0,none) | .sub b g aT G=>some (b,g,aT,some G) | _=>none:Option (Nat×Nat×Nat×Option Nat)) with
   | some (b,g,aT,G)=>(dz (.slice e) kr).cR λ(ys,_)=>.eR b λz=>.ret (if z.gen=g then (match z.body with
     | .bf a1 xs=>if h:a1=e then some ⟨cD/\nH,True,.val (.int .i64) ((min (G.getD xs.length - aT) ys.length:Nat):Int),[(b,⟨z.gen,.bf e (gf (h ▸ xs) aT (ys.take (G.getD xs.length - aT)))⟩)]⟩ else none
     | _=>none) else none)
   | none=>.none
  | _,_=>.none
 | _,_=>.none
def wW(aI:Operand->aF)(args:List Operand):Option (Nat×Nat×Nat×Nat):=
 match args with
 | [x,y]=>match (use (aI x)).2,(use (aI y)).2 with
  | .sub b g aT G,.sub be g' _ _=>if be=b/\g'=g then some (b,g,aT,G) else none
  | _,_=>none
 | _=>none
def B7(T:Nat->ad)(aI:Operand->aF)(args:List Operand)(dn:List TypeId)(b g aT G:Nat):aq (Option eC):=
 match args,dn with
 | [x,y],[t,u]=>match T t,T u with
  | .slice e,.slice _=>let (cD,_):=use (aI x);let (nH,kr):=use (aI y);(dz (.slice e) kr).cR λ(ys,_)=>.eR b λz=>.ret (if z.gen=g then (match z.body with
    | .bf a1 xs=>if h:a1=e then some ⟨cD/\nH,G+ys.length<=xs.length,.sub b g aT (G+ys.length),[(b,⟨z.gen,.bf e (gf (h ▸ xs) G ys)⟩)]⟩ else none
    | _=>none) else none)
  | _,_=>.none
 | _,_=>.none
def B8(T:Nat->ad)(aI:Operand->aF)(args:List Operand)(dn:List TypeId):aq (Option eC):=
 match args,dn with
 | [x],[t]=>match T t with
  | .slice e=>let (cD,dZ):=use (aI x);match dZ with
   | .sub b g aT G=>.eR b λz=>.ret (if z.gen=g then (match z.body with
     | .bf a1 xs=>if h:a1=e then some ⟨cD,True,.undef,[(b,⟨z.gen,.bf e (gf (h ▸ xs) aT (List.replicate (G - aT) e.dh))⟩)]⟩ else none
     | _=>none) else none)
   | _=>.none
  | _=>.none
 | _,_=>.none
def mL(T:Nat->ad)(bg:Nat->Option aP)(aI:Operand->aF)(d:Option Nat)(c:Call):aq (Option eC):=
 match c.callee with
 | .builtin b=>match b with
  | .len=>B2 T aI c.args.toList c.argTypes.toList
  | .append=>match wW aI c.args.toList with
   | some (b,g,aT,G)=>B7 T aI c.args.toList c.argTypes.toList b g aT G
   | none=>B3 T aI d c.args.toList c.argTypes.toList
  | .clear=>B8 T aI c.args.toList c.argTypes.toList
  | .copy=>Fv T aI c.args.toList c.argTypes.toList
  | .min=>r4 aI (λa b=>if b<a then b else a) c.args.toList
  | .max=>r4 aI (λa b=>if b > a then b else a) c.args.toList
  | .cap=>B4 T aI c.args.toList c.argTypes.toList
  | _=>.none
 | .value f=>match f with
  | .func k=>Ft bg aI d k c.args.toList
  | _=>.none
 | _=>.none
def u6(ys:z1'):List UInt8:=ys.map λn=>UInt8.ofNat n.toNat
def RC(t:ad)(b7:Prop)(b g i:Nat):aq (Option eC):=
 .eR b λz=>.ret (match z.body with
  | .gh _ _ k9 v=>if z.gen=g/\t.eG=true then some ⟨b7,i=k9,v,[]⟩ else none
  | _=>none)
def J7(t:ad)(b7:Prop)(b g i:Nat)(v:aF):aq (Option eC):=
 match v with
 | .own be g'=>.eR b λz=>.ret (match z.body with
  | .gh e xs k9 _=>if z.gen=g/\t.eG=true then some ⟨b7,i=k9,.undef,[(b,⟨z.gen,.gh e xs k9 (.own be g')⟩)]⟩ else none
  | _=>none)
 | _=>.none
def bt(aQ:dD)(T:Nat->ad)(bg:Nat->Option aP)(aI:Operand->aF)(o:Oper):aq (Option eC):=
 match o.op with
 | .move x=>bN True True (aI x)
 | .assign x=>match aI x,T o.type with
  | .cS,.slice e=>h6 o.dst λb g=>some ⟨True,True,.own b g,[(b,⟨g,.bf e []⟩)]⟩
  | v,_=>bN True True v
 | .pick c a b=>match use (aI c) with
  | (p5,.val .bool iX)=>match a,b with
   | _,.const (.bool false)=>match use (aI a) with
    | (y',.val .bool av)=>bN (p5/\(iX=true->y')) True (.val .bool (iX&&av))
    | _=>.none
   | .const (.bool true),_=>match use (aI b) with
    | (b7,.val .bool bv)=>bN (p5/\(iX=false->b7)) True (.val .bool (iX||bv))
    | _=>.none
   | _,_=>.none
  | _=>.none
 | .binOp op ty x y _=>
  let (cD,dZ):=use (aI x)
  let (nH,kr):=use (aI y)
  match dZ.mg,kr.mg with
  | some (k,a),some (k',b)=>(match op with
   | .shl | .shr=>match J4 op k a b with
    | some (c,v)=>bN (cD/\nH) c v
    | none=>.none
   | _=>if k=k' then (match y6 op k a b with
    | some (c,v)=>bN (cD/\nH) c v
    | none=>.none) else .none)
  | _,_=>match dZ.tz,kr.tz with
   | some a,some b=>match B0 op a b with
    | some (c,v)=>bN (cD/\nH) c v
    | none=>.none
   | _,_=>(y7 op (T ty) dZ kr).cR λ(c,v)=>bN (cD/\nH) c v
 | .unOp op _ x=>match op,use (aI x) with
  | .not,(cD,.val .bool b)=>bN cD True (.val .bool (!b))
  | .neg,(cD,.val (.int k) n)=>bN cD True (.val (.int k) (k.wrap (0 - n)))
  | _,_=>.none
 | .extract x i=>match use (aI x) with
  | (cD,.p0 n f)=>if i<n then bN cD True (f i) else .none
  | _=>.none
 | .nilCheck x=>match use (aI x) with
  | (cD,.iT b g i)=>.eR b λz=>.ret (if z.gen=g&&z.body.e3 then some ⟨cD,True,.iT b g i,[]⟩ else none)
  | (cD,.dV t d)=>bN cD True (.dV t d)
  | (cD,.val (.bH e) p)=>bN cD (p.isSome=true) (.dV e (p.getD e.dh))
  | (cD,.a7 b g off)=>.eR b λz=>.ret (if z.gen=g&&z.body.fI then some ⟨cD,True,.a7 b g off,[]⟩ else none)
  | _=>.none
 | .fieldAddr ty x f=>match T ty with
  | .st t=>match me t f with
   | some (_,wX)=>match use (aI x) with
    | (cD,.a7 b g off)=>.eR b λz=>.ret (if z.gen=g&&z.body.fI then some ⟨cD,True,.a7 b g (off+wX),[]⟩ else none)
    | (cD,.oh b g i off)=>.eR b λz=>.ret (if z.gen=g&&z.body.e3 then some ⟨cD,True,.oh b g i (off+wX),[]⟩ else none)
    | (cD,.iT b g i)=>.eR b λz=>.ret (if z.gen=g&&z.body.e3&&wX == 0 then some ⟨cD,True,.iT b g i,[]⟩ else none)
    | (cD,.dV (.st c1) d)=>if c1=t then (match u2 c1 d f with
     | some ⟨s',y⟩=>bN cD True (.dV s' y)
     | none=>.none) else .none
    | _=>.none
   | none=>.none
  | _=>.none
 | .field ty x f=>match T ty with
  | .st t=>match use (aI x) with
   | (cD,.val (.st c1) d)=>if c1=t then (match u2 c1 d f with
     | some ⟨s',y⟩=>bN cD True (.val s' y)
     | none=>.none) else .none
   | _=>.none
  | _=>.none
 | .load ty x=>match use (aI x) with
  | (cD,.iT b g i)=>RC (T ty) cD b g i
  | (cD,dZ)=>(y8 (T ty) dZ).cR λv=>bN cD True v
 | .store ty x y=>let (nH,kr):=use (aI y);match use (aI x) with
  | (cD,.iT b g i)=>J7 (T ty) (cD/\nH) b g i kr
  | (cD,dZ)=>(Rw (T ty) dZ kr).cR λwl=>.ret (some ⟨cD/\nH,True,.undef,wl⟩)
 | .alloc ty=>h6 o.dst λb g=>if T ty=.cV then none else some ⟨True,True,.a7 b g 0,[(b,⟨g,.cells (T ty) (hh (r1 (T ty)))⟩)]⟩
 | .box ty x=>let (cD,dZ):=use (aI x);match cellsOf (T ty) dZ with
  | some l=>h6 o.dst λb g=>if l.length=(T ty).size then some ⟨cD,True,.a7 b g 0,[(b,⟨g,.cells (T ty) (hh l)⟩)]⟩ else none
  | none=>.none
 | .build ty ps=>let l:=ps.toList.map λp=>(p.1,aI p.2);match T ty with
  | .st t=>match Fp t (r1 t) (iA l) with
   | some cs=>bN (r3 l) True (.agg cs.length (hh cs))
   | none=>.none
  | .array m e=>(tA e (iA l) 0 m).cR λ(xs,bV)=>if (bV.isEmpty&&decide ((iA l).map (·.1)).Nodup&&(iA l).all (λp=>decide (p.1<m)))=true then bN (r3 l) True (.val (.array m e) xs) else .none
  | _=>.none
 | .buildSlice ty n ps=>let l:=ps.toList.map λp=>(p.1,aI p.2);match T ty with
  | .slice e=>(tA e (iA l) 0 n).cR λ(xs,bV)=>(jG bV).bind λwl=>h6 o.dst λb g=>if n*e.size<=65536/\(!bV.contains b&&decide ((iA l).map (·.1)).Nodup&&(iA l).all (λp=>decide (p.1<n)))=true then some ⟨r3 l,True,.own b g,wl++[(b,⟨g,.bf e xs⟩)]⟩ else none
  | _=>.none
 | .indexAddr ty x i=>let (cD,dZ):=use (aI x);let (wY,J8):=use (aI i);match T ty,J8.mg with
  | .slice e,some (_,n)=>(Rx e dZ n).cR λ(c,v)=>bN (cD/\wY) c v
  | .array m e,some (_,n)=>match dZ with
   | .dV (.array dx a1) xs=>if dx=m/\a1=e then bN (cD/\wY) (0<=n/\n<(m:Int)) (.dV a1 (kL a1 xs n)) else .none
   | .a7 b g off=>.eR b λz=>.ret (if z.gen=g&&z.body.fI then some ⟨cD/\wY,0<=n/\n<(m:Int),.a7 b g (off+n.toNat*e.size),[]⟩ else none)
   | _=>.none
  | _,_=>.none
 | .index ty x i=>let (cD,dZ):=use (aI x);let (wY,J8):=use (aI i);match T ty,dZ.tz,J8.mg with
  | .str,some s,some (_,n)=>bN (cD/\wY) (0<=n/\n<(s.length:Int)) (.val (.int .u8) ((s.getD n.toNat 0).toNat:Int))
  | .array m e,_,some (_,n)=>match dZ with
   | .val (.array dx a1) xs=>if dx=m/\a1=e then bN (cD/\wY) (0<=n/\n<(m:Int)) (.val a1 (kL a1 xs n)) else .none
   | .agg k f=>if k=m*e.size then bN (cD/\wY) (0<=n/\n<(m:Int)) (if e.isAgg=true then .agg e.size (λq=>f (n.toNat*e.size+q)) else f (n.toNat*e.size)) else .none
   | _=>.none
  | _,_,_=>.none
 | .convert a b x=>let (cD,dZ):=use (aI x);match T a,T b,dZ.mg with
  | .int _,.int k,some (_,n)=>bN cD True (.val (.int k) (k.wrap n))
  | .slice (.int .u8),.str,_=>(dz (.slice (.int .u8)) dZ).cR λ(ys,_)=>bN cD True (.val .str (u6 ys))
  | _,_,_=>.none
 | .makeFunc fn first c6=>match fn with
  | .func k=>let l:=c6.toList.map aI;if first.isEmpty then (match aQ.tu k with
   | some v=>(iV (gg (v.cs.map .bH)) (l.map λv=>(use v).2)).cR λ(y,bV)=>(jG bV).bind λwl=>.ret (some ⟨jH l,True,.val (.fn (gg v.as) v.aR) (λx=>v.sh (Fi v.as (v.cs.map .bH) x y)),wl⟩)
   | none=>match aQ.wP k with
    | some v=>(iV (gg (v.cs.map .bH)) (l.map λv=>(use v).2)).cR λ(y,bV)=>(jG bV).bind λwl=>.ret (some ⟨jH l,True,.val (.cu v.aL) (v.S y),wl⟩)
    | none=>bN (jH l) True (.ix k l.length (hh (l.map λv=>(use v).2)))) else (if c6.isEmpty then bN (jH (first.toList.map aI)) True (.r0 k first.size (hh ((first.toList.map aI).map λv=>(use v).2))) else .none)
  | _=>.none
 | .makeMap ty r=>if r.isSome then .none else match T ty with
  | .map k v=>h6 o.dst λb g=>some ⟨True,True,.fH b g,[(b,⟨g,.mp k v []⟩)]⟩
  | _=>.none
 | .lookup ty m x ok=>y_ T aI ty m x ok
 | .mapUpdate ty m x y=>qU T aI ty m x y
 | .insert ty m x y=>qU T aI ty m x y
 | .makeSlice ty l c=>Fu T aI o.dst ty l c
 | .makeInterface _ _=>bN True False .undef
 | .panic _=>bN True False .undef
 | .slice ty x aT G o7=>if o7.isSome then Fs T aI ty x aT G o7 else Fq T aI ty x aT G
 | .call c=>mL T bg aI o.dst c
 | _=>.none
def dR(r:Option Nat):Fence:={ Fence.wide with round:=r }
section
variable {P:Program} {w:World}
theorem dC{t:TypeId}{d:TypeDesc}(h:P.underlying t=some d):(underlying t).run P w=.ok d w:=by simp[underlying,h]
theorem Fw{t:TypeId}{i:TypeInfo}(h:P.info? t=some i):(typeInfo t).run P w=.ok i w:=by simp[typeInfo,h]
theorem r5{t:TypeId}{i:TypeInfo}(h:P.info? t=some i):(sizeOf t).run P w=.ok i.size w:=by simp[sizeOf,Fw h]
theorem qV{t:TypeId}{i:TypeInfo}{z:Value}(h:P.info? t=some i)(bk:i.zero=some z):(zeroValue t).run P w=.ok z w:=by simp[zeroValue,Fw h,bk]
theorem b'.size{t:ad}{id:TypeId}(h:b' P t id):(sizeOf id).run P w=.ok t.size w:=by
 obtain⟨i,z,E,U,_⟩:=kp h.ko;rw[r5 E,U]
theorem b'.st{t:ad}{id:TypeId}(h:b' P (.st t) id):∃ eT,P.underlying id=some (.struct eT):=by
 unfold b' at h;simp only[cF,Bool.and_eq_true]at h;grind
theorem b'.sl{e:ad}{id:TypeId}(h:b' P (.slice e) id):∃ i,P.underlying id=some (.slice i)/\b' P e i/\e.size≠0:=by
 unfold b' at h;simp only[cF,Bool.and_eq_true]at h;obtain⟨_,h⟩:=h;split at h
 ·rename_i i G;simp only[Bool.and_eq_true,bne_iff_ne,ne_eq]at h;exact⟨i,G,h.1,h.2⟩
 grind
theorem ac3:∀ (t:ad) {l:List Field} {Fx f off:Nat} {s:ad},cF P t (.inr (l,Fx))=true->me t f=some (s,off)->
  ∃ nI,l[f]?=some nI/\nI.offset=Fx+off/\b' P s nI.type/\s.size≠0:=by
 intro t;induction t with
 | az a b fy eL=>
  intro l Fx f off s h ar;match l,h with
  | [],h=>simp only[cF,Bool.false_eq_true]at h
  | [x],h=>simp only[cF,Bool.false_eq_true]at h
  | [x,y],h=>
   simp only[cF,Bool.and_eq_true,beq_iff_eq,bne_iff_ne,ne_eq]at h;obtain⟨⟨⟨⟨E,U⟩,ah⟩,_⟩,⟨⟨aZ,bM⟩,dt⟩,_⟩:=h;cases f with
   | zero=>simp only[me,Option.some.injEq,Prod.mk.injEq]at ar;obtain⟨rfl,rfl⟩:=ar;exact⟨x,rfl,E,U,ah⟩
   | succ f=>
    simp only[me,Option.map_eq_some_iff,Prod.mk.injEq]at ar;obtain⟨⟨s',hU⟩,ar,rfl,rfl⟩:=ar;have aa:∃ u,me b f=some u/\f=0/\u=(b,0):=by
     cases b<;>cases f<;>simp only[me,reduceCtorEq]at ar<;>first
      | exact⟨_,ar,rfl,by cases ar;rfl⟩
      | (simp only[cF,Bool.false_eq_true]at bM)
    obtain⟨u,hu,rfl,rfl⟩:=aa;rw[hu]at ar;cases ar;exact⟨y,rfl,by omega,bM,dt⟩
  | x::y::z::l,h=>
   simp only[cF,Bool.and_eq_true,beq_iff_eq,bne_iff_ne,ne_eq]at h;obtain⟨⟨⟨⟨E,U⟩,ah⟩,_⟩,aZ⟩:=h;cases f with
   | zero=>simp only[me,Option.some.injEq,Prod.mk.injEq]at ar;obtain⟨rfl,rfl⟩:=ar;exact⟨x,rfl,E,U,ah⟩
   | succ f=>
    simp only[me,Option.map_eq_some_iff,Prod.mk.injEq]at ar;grind
 | _=>intro l Fx f off s h _;simp only[cF,Bool.false_eq_true]at h
theorem b'.field{t s:ad}{id f off:Nat}(h:b' P (.st t) id)(ar:me t f=some (s,off)) :
  ∃ eT nI,P.underlying id=some (.struct eT)/\eT[f]?=some nI/\nI.offset=off/\b' P s nI.type/\s.size≠0:=by
 unfold b' at h;simp only[cF,Bool.and_eq_true]at h;obtain⟨_,h⟩:=h;split at h
 ·rename_i eT jj;refine⟨eT,?_⟩;have eU:∀ {nI},eT.toList[f]?=some nI->eT[f]?=some nI:=λh=>by grind
  split at h
  ·rename_i ak;rw[of_decide_eq_true h]at ar;cases f<;>cases ar
  ·rename_i x ak;simp only[Bool.and_eq_true,beq_iff_eq,bne_iff_ne,ne_eq]at h;have aa:f=0/\(s,off)=(t,0):=by
    cases t<;>cases f<;>simp only[me,reduceCtorEq]at ar<;>first
     | exact⟨rfl,by cases ar;rfl⟩
     | (have:=h.1.1.2;simp only[cF,Bool.false_eq_true]at this)
   obtain⟨rfl,aa⟩:=aa;cases aa;exact⟨x,jj,eU (by grind),h.1.1.1,h.1.1.2,h.1.2⟩
  ·obtain⟨nI,aW,aY,bO⟩:=ac3 t h ar;grind
 grind
def ks(w:World)(p:Addr)(cs:List Value):Prop:=(0<cs.length->p.spot=none)/\∀ j (h:j<cs.length),w.cell? ⟨p.block,p.off+j,none⟩=some cs[j]
theorem Holds.J9{F:Nat->Prop}{p:Addr}{cs:List Value}(h:Holds F w p cs):ks w p cs:=⟨λ_=>h.2.1,h.2.2⟩
theorem Fy{p:Addr}{cs:List Value}(h:ks w p cs):(loadCells p cs.length).run P w=.ok cs.toArray w:=by
 obtain⟨aD,hc⟩:=h;refine run_loadCells_list w p cs λj v aG=>?_;obtain⟨fS,rfl⟩:=List.getElem?_eq_some_iff.1 aG;have ao:p=⟨p.block,p.off,none⟩:=by have:=aD (by omega);cases p;simp_all
 have:=hc j fS;have za:p.add j=⟨p.block,p.off+j,none⟩:=by
  unfold Addr.add;grind
 grind
theorem zb{t:ad}{id:TypeId}(h:b' P t id):(isAgg id).run P w=.ok t.isAgg w:=by
 unfold b' at h;unfold isAgg;cases t<;>simp only[cF,Bool.and_eq_true,Bool.false_eq_true]at h<;>(obtain⟨_,h⟩:=h;split at h)<;>
  first
   | (rename_i hu;simp[dC hu,ad.isAgg];done)
   | (cases h;done)
   | (rename_i hu;simp[dC hu,ad.isAgg])
theorem J_{F:Nat->Prop}{p:Addr}{cs:List Value}{t:ad}{id:TypeId}{x:t.aj}(h:b' P t id)(c7:ks w p cs)(ai:bJ P t F w cs x) :
  ∃ v,(loadVar id p).run P w=.ok v w/\ep P t F w v x:=by
 have hlen:=hR t ai;by_cases bb:t.isAgg=true
 ·refine⟨.agg cs.toArray,?_,?_,by simpa [Value.cells]using ai⟩
  ·have:=Fy (P:=P) c7;rw[hlen]at this;simp[loadVar,zb h,bb,h.size,this]
  ·cases t<;>simp only[ad.isAgg,Bool.false_eq_true]at bb
   ·exact⟨cs.toArray,rfl,by simpa [ad.size]using hlen⟩
   ·exact⟨cs.toArray,rfl,by simpa [ad.size]using hlen⟩
 ·have ak:t.eG=true:=by
   cases t<;>simp only[ad.isAgg,not_true]at bb<;>first | rfl | (unfold b' at h;simp only[cF,Bool.false_eq_true]at h)
  obtain⟨u,rfl,hu⟩:=BS ak ai;refine⟨u,?_,(dT ak).2 ⟨hu,ai⟩⟩;have hc:=c7.2 0 (by simp);have ao:p=⟨p.block,p.off+0,none⟩:=by have:=c7.1 (by simp);cases p;simp_all
  rw[<-ao]at hc;simp[loadVar,zb h,bb,hc]
end
section
variable {r:Option Nat} {P:Program} {o:Oper} {a:Act} {w w':World} {K:Act->World->Prop} {Q:Exit->Act->World->Prop}
theorem zc(aw:∀ c,o.op≠.defer c):o.semAt (dR r).round a.eval=execOp a.eval o:=Oper.semAt_eq _ _ _ aw
theorem hx{v:Value}(aw:∀ c,o.op≠.defer c)(h:(execOp a.eval o).run P w=.ok (.value v) w')(an:K (a.put o.dst v) w'):o.wpIn (dR r) 0 P a w K Q:=by
 refine⟨λ_ _=>trivial,?_⟩;rw[zc aw,h];exact an
theorem Fz(aw:∀ c,o.op≠.defer c)(h:(execOp a.eval o).run P w=.ok .skip w')(an:K (a.put o.dst Go.undef) w'):o.wpIn (dR r) 0 P a w K Q:=by
 refine⟨λ_ _=>trivial,?_⟩;rw[zc aw,h];exact an
end
def aB.fY(s:aB):List (Nat×bK)->aB
 | []=>s
 | p::l=>(s.cx p.1 p.2).fY l
def aB.h8(s:aB)(d:Option Nat)(res:eC):aB:=(s.fY res.hE).set d res.e9
def cJ(C:b_)(o:Oper)(s:aB)(res:eC):Prop:=
 ∀ a w κ F Q,bl C s a w κ F->res.b7->res.c->o.wpIn (dR C.r) 0 C.P a w (λa' w'=>cr C (s.h8 o.dst res) a' w') Q
theorem cJ.pure{C:b_}{o:Oper}{s:aB}{b7 c:Prop}{e9:aF}(aw:∀ c,o.op≠.defer c)(bh:∀ i,o.dst=some i->i<C.nt)
  (h:∀ a w κ F,bl C s a w κ F->b7->c->∃ v,(execOp a.eval o).run C.P w=.ok (.value v) w/\bu C.P s.ab κ F w e9 v):cJ C o s ⟨b7,c,e9,[]⟩:=by
 intro a w κ F Q M bd hc;obtain⟨v,E,U⟩:=h a w κ F M bd hc;exact hx aw E ⟨κ,F,M.set bh U⟩
section
variable {P:Program} {H:Nat->bK} {κ:Nat->bD} {F:Nat->Prop} {w:World}
theorem o8{av:aF}{v:Value}(h:bu P H κ F w av v)(hu:(use av).1):bu P H κ F w (use av).2 v:=by
 cases av<;>first | exact h | exact h.1 hu
theorem ac4(v:Value):bu P H κ F w (wV v) v:=by
 unfold wV;split
 ·exact ff.2 rfl
 ·split
  ·rename_i h;exact gT.2 ⟨rfl,h⟩
  ·rfl
 ·split
  ·rename_i s h;refine ma.2 ⟨by simp,?_⟩;have:s.data.toList.length=s.size:=by rfl
   omega
  ·rfl
 ·rfl
 ·rfl
theorem RD{v:aF}{b7:Prop}{t:ad}{x:t.aj}(h:use v=(b7,.val t x)):use v.qR=(b7,.val t x):=by
 cases v<;>first | exact h | (cases h)
theorem ac5{v:aF}{b7:Prop}{t:ad}{x:t.aj}(h:use v.qR=(b7,.val t x)):use v=(b7,.val t x):=by
 cases v<;>first | exact h | (cases h)
theorem j7{C:b_}{s:aB}{a:Act}{w:World}{κ:Nat->bD}{F:Nat->Prop}(h:bl C s a w κ F)(x:Operand):bu C.P s.ab κ F w (a8 C.aO s.ax x) (a.eval x):=by
 cases x with
 | tmp t=>
  have:=h.bT t;show bu _ _ _ _ _ (s.ax t).qR _;cases aD:s.ax t with
  | tv b g n=>rw[aD]at this;exact this.1
  | _=>rw[aD]at this;exact this
 | const v=>exact ac4 v
 | func f=>
  show bu _ _ _ _ _ (match C.aO.tt f with | some v=>.val (.fn v.ts v.aR) v.sh | none=>.ix f 0 λ_=>.undef) (.func (.func f) #[] #[]);split
  ·rename_i v af;exact (dT rfl).2 ⟨rfl,acP (h.jE.tt f v af) F w⟩
  ·exact⟨[],rfl,rfl,λi G=>by omega⟩
 | global g=>trivial
theorem oo{av:aF}{v:Value}{k:IntKind}{n:Int}(h:bu P H κ F w av v)(G:av.mg=some (k,n)):v=.int k n/\fR k n:=by
 unfold aF.mg at G;split at G
 ·cases G;exact gT.1 h
 grind
theorem J'{av:aF}{v:Value}{s:List UInt8}(h:bu P H κ F w av v)(G:av.tz=some s):v=.string ⟨s.toArray⟩/\s.length<2 ^ 63:=by
 unfold aF.tz at G;split at G
 ·cases G;exact ma.1 h
 grind
end
theorem p6(k:IntKind)(n:Int):fR k (k.wrap n):=by
 unfold fR IntKind.wrap;have E:=Int.emod_nonneg n (b:=2 ^ k.bits) (by cases k<;>decide);have U:=Int.emod_lt_of_pos n (b:=2 ^ k.bits) (by omega);cases k<;>simp only[IntKind.min,IntKind.max,IntKind.signed,IntKind.bits,Bool.true_and,Bool.false_and,Bool.false_eq_true,if_true,if_false,Nat.reduceSub,Int.reducePow]at E U ⊢<;>first
  | (constructor<;>split<;>first | (rename_i hc;have hc:=of_decide_eq_true hc;omega) | (rename_i hc;have hc:=mt decide_eq_true hc;omega))
  | omega
theorem ac6{k:IntKind}{a b:Int}(bb:fR k a):fR k (a.tmod b):=by
 unfold fR at *
 have E:k.min<=0/\0<=k.max:=by cases k<;>decide
 have U:=Int.natAbs_tmod a b;have ah:=Nat.mod_le a.natAbs b.natAbs;rcases Int.le_total 0 a with h | h
 ·have:=Int.tmod_nonneg b h;omega
 ·have aZ:(-a).tmod b=- (a.tmod b):=Int.neg_tmod a b;have:=Int.tmod_nonneg b (a:=-a) (by omega);omega
end Go.Fer
namespace Go.Fer
open Go.RowKit
theorem RE{P:Program}{w:World}{t:ad}{id:TypeId}(h:b' P t id)(ak:t.isAgg=false){cs:Array Value}{off:Nat}{v:Value}(af:cs[off]?=some v) :
  (part id cs off).run P w=.ok v w:=by
 simp[part,zb h,ak,af]
theorem RF{P:Program}{w:World}{t:ad}{id:TypeId}(h:b' P t id)(ak:t.isAgg=true){cs:Array Value}{off:Nat} :
  (part id cs off).run P w=.ok (.agg (cs.extract off (off+t.size))) w:=by
 simp[part,zb h,ak,h.size]
theorem qW{P:Program}{F:Nat->Prop}{w:World}{t:ad}{id:TypeId}(h:b' P t id){p c q:List Value}{cs:Array Value}{x:t.aj}(nJ:cs.toList=p++(c++q))(hc:bJ P t F w c x) :
  ∃ v,(part id cs p.length).run P w=.ok v w/\ep P t F w v x:=by
 have hlen:=hR t hc;by_cases bb:t.isAgg=true
 ·refine⟨_,RF h bb,?_⟩;have he:(cs.extract p.length (p.length+t.size)).toList=c:=by
   simp_all
  have af:(Value.agg (cs.extract p.length (p.length+t.size))).cells.toList=c:=he;refine⟨?_,by grind⟩;have cd:(cs.extract p.length (p.length+t.size)).size=t.size:=by grind
  cases t<;>simp only[ad.isAgg,Bool.false_eq_true]at bb
  ·exact⟨_,rfl,by simpa [ad.size]using cd⟩
  ·exact⟨_,rfl,by simpa [ad.size]using cd⟩
 ·have ak:t.eG=true:=by
   cases t<;>simp only[ad.isAgg,not_true]at bb<;>first | rfl | (unfold b' at h;simp only[cF,Bool.false_eq_true]at h)
  obtain⟨u,rfl,hu⟩:=BS ak hc;refine⟨u,RE h (by grind) ?_,(dT ak).2 ⟨hu,hc⟩⟩;rw[<-Array.getElem?_toList,nJ];simp
theorem b'.B9{P:Program}{t:ad}{id:TypeId}(h:b' P (.st t) id):P.stoodInHeld id=false/\P.eqGuardType P.depth id=false/\
  (cF P t (.inr ((P.fieldsOf id).toList, 0)) = true \/ (∃ f, (P.fieldsOf id).toList = [f] /\ f.offset = 0 /\ b' P t f.type /\ f.name ≠ "_") \/ (t = .cV /\ (P.fieldsOf id).toList = [])) /\ P.underlying id = some (.struct (P.fieldsOf id)) := by
 unfold b' at h;simp only[cF,Bool.and_eq_true,Bool.not_eq_true']at h;obtain⟨⟨⟨_,E⟩,U⟩,h⟩:=h;split at h
 ·rename_i eT jj;have ar:P.fieldsOf id=eT:=by simp[Program.fieldsOf,jj]
  rw[ar];refine⟨E,U,?_,jj⟩;split at h
  ·grind
  ·rename_i x ak;simp only[Bool.and_eq_true,beq_iff_eq,bne_iff_ne,ne_eq]at h;exact .inr (.inl ⟨x,ak,h.1.1.1,h.1.1.2,h.2⟩)
  grind
 grind
theorem Ka{P:Program}{F:Nat->Prop}{w:World}:∀ (t:ad) (d:Nat),t.kM=true->t.j6<=d->
  (∀ {id:TypeId} {v u:Value} {x y:t.aj},b' P t id->ep P t F w v x->ep P t F w u y->(Op.equalIn d id v u).run P w=.ok (gJ t x y) w)/\
  (∀ {l:List Field} {off:Nat} {xs ys:Array Value} {p c q p' c' q':List Value} {x y:t.aj},cF P t (.inr (l,off))=true->xs.toList=p++(c++q)->p.length=off->bJ P t F w c x->
   ys.toList=p'++(c'++q')->p'.length=off->bJ P t F w c' y->(Op.eqFields d xs ys l).run P w=.ok (gJ t x y) w):=by
 intro t;induction t with
 | bool=>
  intro d _ aw;refine⟨λ{id v u x y} h E U=>?_,λh=>by simp[cF]at h⟩;rw[ff.1 E,ff.1 U];obtain⟨d,rfl⟩:∃ e,d=e+1:=⟨d - 1,by simp only[ad.j6]at aw;omega⟩
  unfold b' at h;simp only[cF,Bool.and_eq_true]at h;obtain⟨_,h⟩:=h;split at h
  ·rename_i hu;rw[run_equalIn_bool' w d id x y hu];rfl
  grind
 | int k=>
  intro d _ aw;refine⟨λ{id v u x y} h E U=>?_,λh=>by simp[cF]at h⟩;rw[(gT.1 E).1,(gT.1 U).1];obtain⟨d,rfl⟩:∃ e,d=e+1:=⟨d - 1,by simp only[ad.j6]at aw;omega⟩
  unfold b' at h;simp only[cF,Bool.and_eq_true]at h;obtain⟨_,h⟩:=h;split at h
  ·rename_i hu;rw[run_equalIn_int w d id k _ x y hu];rfl
  grind
 | str=>
  intro d _ aw;refine⟨λ{id v u x y} h E U=>?_,λh=>by simp[cF]at h⟩;rw[(ma.1 E).1,(ma.1 U).1];obtain⟨d,rfl⟩:∃ e,d=e+1:=⟨d - 1,by simp only[ad.j6]at aw;omega⟩
  unfold b' at h;simp only[cF,Bool.and_eq_true]at h;obtain⟨_,h⟩:=h;split at h
  ·rename_i hu;rw[run_equalIn_string w d id _ _ hu,ByteArray.toList_eq,ByteArray.toList_eq];simp only[gJ];grind
  grind
 | cV=>intro d h;cases h
 | slice e _=>intro d h;cases h
 | array n e _=>intro d h;cases h
 | bH e _=>intro d h;cases h
 | map k v _ _=>intro d h;cases h
 | fn a b _ _=>intro d h;cases h
 | cu a _=>intro d h;cases h
 | eo=>intro d h;cases h
 | az a b fy eL=>
  intro d hc aw;simp only[ad.kM,Bool.and_eq_true]at hc;simp only[ad.j6]at aw;have Kb:=fy d hc.1 (by omega);have o3:=eL d hc.2 (by omega);refine⟨λh=>by unfold b' at h;simp[cF]at h,?_⟩;intro l off xs ys p c q p' c' q' x y h ai ao o9 aS B_ zd;simp only[bJ]at o9 zd;obtain⟨bF,c2,rfl,aW,aY⟩:=o9;obtain⟨d1,d2,rfl,m1,m2⟩:=zd;have fc:=hR a aW;have pY:=hR a m1;have step : ∀ (f : Field) (ch : List Field), f.offset = off -> b' P a f.type -> f.name ≠ "_" ->
    (Op.eqFields d xs ys (f::ch)).run P w=if gJ a x.1 y.1=true then (Op.eqFields d xs ys ch).run P w else .ok false w:=by
   intro f ch ag ar aA;obtain⟨v,cj,cK⟩:=qW (cs:=xs) (p:=p) (c:=bF) (q:=c2++q) ar (by grind) aW;obtain⟨u,eI,dO⟩:=qW (cs:=ys) (p:=p') (c:=d1) (q:=d2++q') ar (by grind) m1;simp only[Op.eqFields,aA,ne_eq,not_false_eq_true,if_true,Sem.run_bind];rw[ag,<-ao,cj,Result.andThen_ok,ao,<-B_,eI,Result.andThen_ok,Kb.1 ar cK dO];cases gJ a x.1 y.1<;>simp
  match l,h with
  | [],h=>simp only[cF,Bool.false_eq_true]at h
  | [f],h=>simp only[cF,Bool.false_eq_true]at h
  | [f,g],h=>
   simp only[cF,Bool.and_eq_true,beq_iff_eq,bne_iff_ne,ne_eq]at h;obtain⟨⟨⟨⟨E,U⟩,ah⟩,aZ⟩,⟨⟨⟨bM,dt⟩,gb⟩,iQ⟩⟩:=h;rw[step f [g] E U aZ];obtain⟨v,cj,cK⟩:=qW (cs:=xs) (p:=p++bF) (c:=c2) (q:=q) dt (by grind) aY;obtain⟨u,eI,dO⟩:=qW (cs:=ys) (p:=p'++d1) (c:=d2) (q:=q') dt (by grind) m2;have ay:(p++bF).length=g.offset:=by grind
   have aN:(p'++d1).length=g.offset:=by grind
   rw[ay]at cj;rw[aN]at eI;simp only[Op.eqFields,iQ,ne_eq,not_false_eq_true,if_true,Sem.run_bind,cj,eI,Result.andThen_ok,o3.1 dt cK dO,gJ];cases gJ a x.1 y.1<;>cases gJ b x.2 y.2<;>simp
  | f::g::i::l,h=>
   simp only[cF,Bool.and_eq_true,beq_iff_eq,bne_iff_ne,ne_eq]at h;obtain⟨⟨⟨⟨E,U⟩,ah⟩,aZ⟩,bM⟩:=h;rw[step f _ E U aZ,o3.2 bM (p:=p++bF) (c:=c2) (q:=q) (p':=p'++d1) (c':=d2) (q':=q') (by grind) (by grind) aY (by grind) (by grind) m2];simp only[gJ];cases gJ a x.1 y.1<;>simp
 | st t aJ=>
  intro d hc aw;simp only[ad.j6]at aw;obtain⟨d,rfl⟩:∃ e,d=e+1:=⟨d - 1,by omega⟩
  refine⟨λ{id v u x y} h E U=>?_,λh=>by simp[cF]at h⟩;have i:=aJ d hc (by omega);obtain⟨ay,aN,cA,ea⟩:=h.B9;obtain⟨⟨xs,rfl,hV⟩,o9⟩:=E;obtain⟨⟨ys,rfl,j8⟩,zd⟩:=U;simp only[Value.cells,bJ]at o9 zd;rw[run_equalIn_struct w d id xs ys ea ay];rcases cA with cA | ⟨f,cA,dU,k5,tC⟩ | ⟨rfl,cA⟩
  ·exact i.2 cA (p:=[]) (c:=xs.toList) (q:=[]) (p':=[]) (c':=ys.toList) (q':=[]) (by simp) rfl o9 (by simp) rfl zd
  ·rw[cA];obtain⟨v,cj,cK⟩:=qW (cs:=xs) (p:=[]) (c:=xs.toList) (q:=[]) k5 (by simp) o9;obtain⟨u,eI,dO⟩:=qW (cs:=ys) (p:=[]) (c:=ys.toList) (q:=[]) k5 (by simp) zd;simp only[List.length_nil]at cj eI;simp only[Op.eqFields,tC,ne_eq,not_false_eq_true,if_true,Sem.run_bind,dU,cj,eI,Result.andThen_ok,i.1 k5 cK dO,gJ];cases gJ t x y<;>simp
  ·cases hc
theorem ac7{k:IntKind}{a b:Int}(bb:fR k a):fR k (ji k a b):=by
 unfold fR at *
 unfold ji;have E:k.min<=0/\0<=k.max:=by cases k<;>decide
 generalize min b.toNat k.bits=n;have ao:(0:Int)<2 ^ n:=Int.pow_pos (by decide);rw[Int.fdiv_eq_ediv_of_nonneg _ (Int.le_of_lt ao)];rcases Int.le_total 0 a with h | h
 ·have U:=Int.ediv_nonneg h (Int.le_of_lt ao);have ah:=Int.ediv_le_self (2 ^ n) h;omega
 ·have U:a / 2 ^ n<=0:=by
   have:=Int.ediv_le_ediv ao h;simp_all
  have ah:a<=a / 2 ^ n:=by
   rw[Int.le_ediv_iff_mul_le ao];have aZ:(1:Int)<=2 ^ n:=by omega
   have:=Int.mul_le_mul_of_nonpos_left (a:=a) h aZ;omega
  omega
theorem RG{P:Program}{w:World}(op:BinOp)(t:TypeId)(x y:Operand)(k k':IntKind)(a b:Int):(eqGuard op t x y (.int k a) (.int k' b)).run P w=.ok () w:=by
 cases op<;>simp[eqGuard]
theorem ac8{P:Program}{w:World}(op:BinOp)(t:TypeId)(x y:Operand)(a b:ByteArray):(eqGuard op t x y (.string a) (.string b)).run P w=.ok () w:=by
 cases op<;>simp[eqGuard]
theorem ac9{P:Program}{w:World}(op:BinOp)(t:TypeId)(x y:Operand)(a b:Bool):(eqGuard op t x y (.bool a) (.bool b)).run P w=.ok () w:=by
 cases op<;>simp[eqGuard]
theorem ac_{P:Program}{w:World}(op:BinOp)(t:TypeId)(x y:Operand)(a b:Option Addr):(eqGuard op t x y (.pointer a) (.pointer b)).run P w=.ok () w:=by
 cases op<;>simp[eqGuard]
section
variable {P:Program} {H:Nat->bK} {κ:Nat->bD} {F:Nat->Prop} {w:World}
theorem ac'{op:BinOp}{k:IntKind}{a b:Int}{t:TypeId}{c:Prop}{v:aF}(h:y6 op k a b=some (c,v))(hc:c)(bb:fR k a) :
  ∃ u,(binOp op t (.int k a) (.int k b)).run P w=.ok u w/\bu P H κ F w v u:=by
 cases op<;>simp only[y6,Option.some.injEq,Prod.mk.injEq,reduceCtorEq]at h<;>obtain⟨rfl,rfl⟩:=h<;>simp only[bu];case add=>exact⟨_,by simp[binOp,Op.intArith],gT.2 ⟨rfl,p6 _ _⟩⟩
 case sub=>exact⟨_,by simp[binOp,Op.intArith],gT.2 ⟨rfl,p6 _ _⟩⟩
 case mul=>exact⟨_,by simp[binOp,Op.intArith],gT.2 ⟨rfl,p6 _ _⟩⟩
 case quo=>exact⟨_,by simp[binOp,Op.intDiv,hc],gT.2 ⟨rfl,p6 _ _⟩⟩
 case rem=>exact⟨_,by simp[binOp,Op.intDiv,hc],gT.2 ⟨rfl,ac6 bb⟩⟩
 case and=>exact⟨.int k (lI k a b),by simp only[binOp,ne_eq,not_true_eq_false,if_false,Op.intBits];rfl,gT.2 ⟨rfl,p6 _ _⟩⟩
 case or=>exact⟨.int k (Rn k a b),by simp only[binOp,ne_eq,not_true_eq_false,if_false,Op.intBits];rfl,gT.2 ⟨rfl,p6 _ _⟩⟩
 case xor=>exact⟨.int k (Ro k a b),by simp only[binOp,ne_eq,not_true_eq_false,if_false,Op.intBits];rfl,gT.2 ⟨rfl,p6 _ _⟩⟩
 case andNot=>exact⟨.int k (Rp k a b),by simp only[binOp,ne_eq,not_true_eq_false,if_false,Op.intBits];rfl,gT.2 ⟨rfl,p6 _ _⟩⟩
 case eql=>exact⟨.bool (a == b),by simp[binOp,Op.intCmp],ff.2 (congrArg Value.bool (by rfl))⟩
 case neq=>exact⟨.bool (a != b),by simp[binOp,Op.intCmp],ff.2 (congrArg Value.bool (by grind))⟩
 case lss=>exact⟨_,by simp[binOp,Op.intCmp],ff.2 rfl⟩
 case leq=>exact⟨_,by simp[binOp,Op.intCmp],ff.2 rfl⟩
 case gtr=>exact⟨_,by simp[binOp,Op.intCmp],ff.2 rfl⟩
 case geq=>exact⟨_,by simp[binOp,Op.intCmp],ff.2 rfl⟩
theorem RH{op:BinOp}{k k':IntKind}{a b:Int}{t:TypeId}{c:Prop}{v:aF}(h:J4 op k a b=some (c,v))(hc:c)(bb:fR k a) :
  ∃ u,(binOp op t (.int k a) (.int k' b)).run P w=.ok u w/\bu P H κ F w v u:=by
 cases op<;>simp only[J4,Option.some.injEq,Prod.mk.injEq,reduceCtorEq]at h<;>obtain⟨rfl,rfl⟩:=h<;>simp only[bu];case shl=>exact⟨_,by simp[binOp,Op.shift,show ¬b<0 by omega];rfl,gT.2 ⟨rfl,p6 _ _⟩⟩
 case shr=>exact⟨_,by simp[binOp,Op.shift,show ¬b<0 by omega];rfl,gT.2 ⟨rfl,ac7 bb⟩⟩
theorem ada{op:BinOp}{a b:List UInt8}{t:TypeId}{c:Prop}{v:aF}(h:B0 op a b=some (c,v))(hc:c) :
  ∃ u,(binOp op t (.string ⟨a.toArray⟩) (.string ⟨b.toArray⟩)).run P w=.ok u w/\bu P H κ F w v u:=by
 have e:∀ l:List UInt8,(⟨l.toArray⟩:ByteArray).toList=l:=λl=>by simp
 cases op<;>simp only[B0,Option.some.injEq,Prod.mk.injEq,reduceCtorEq]at h<;>obtain⟨rfl,rfl⟩:=h<;>simp only[bu];case add=>
  unfold b6 at hc;have aD:((ByteArray.size ⟨a.toArray⟩+ByteArray.size ⟨b.toArray⟩:Nat):Int)=(a.length+b.length:Nat):=by rfl
  refine⟨.string ⟨(a++b).toArray⟩,?_,ma.2 ⟨rfl,by grind⟩⟩;simp only[binOp,Op.stringOp];rw[if_neg]
  ·rfl
  ·rw[aD];have:IntKind.i64.max=9223372036854775807:=by decide
   omega
 case eql=>exact⟨_,by rfl,ff.2 (by grind)⟩
 case neq=>exact⟨_,by rfl,ff.2 (by grind)⟩
 case lss=>exact⟨_,by simp only[binOp,Op.stringOp,e];rfl,ff.2 rfl⟩
 case geq=>exact⟨_,by simp only[binOp,Op.stringOp,e];rfl,ff.2 rfl⟩
end
end Go.Fer
namespace Go.Fer
open Go.RowKit
def dS(P:Program)(T:Nat->ad):Prop:=∀ id,T id=.cV\/b' P (T id) id
theorem dS.cb{P:Program}{T:Nat->ad}(h:dS P T){id:Nat}{t:ad}(e:T id=t)(aK:t≠.cV):b' P t id:=by
 rcases h id with h | h
 ·exact absurd (e ▸ h) aK
 ·exact e ▸ h
theorem qX{d:Option Nat}{k:Nat->Nat->Option eC}{H:Nat->bK}{res:eC}(h:(h6 d k).run H=some res) :
  ∃ b,d=some b/\k b ((H b).gen+1)=some res:=by
 unfold h6 at h;cases d with
 | none=>cases h
 | some b=>
  simp_all
theorem bl.adb{C:b_}{s:aB}{a:Act}{w:World}{κ:Nat->bD}{F:Nat->Prop}(h:bl C s a w κ F){b g:Nat}{e:ad}(aC:(s.ab b).gen<g) :
  bl C (s.cx b ⟨g,.bf e []⟩) a w (λi=>if i=b then ⟨0,0,0,true⟩ else κ i) F:=by
 have ak:fo s.ab κ (λi=>if i=b then ⟨g,.bf e []⟩ else s.ab i) (λi=>if i=b then ⟨0,0,0,true⟩ else κ i):=y1 aC λbe cW=>by grind
 refine h.move (H':=λi=>if i=b then ⟨g,.bf e []⟩ else s.ab i) ak (λ_ M=>M) (λ_ M=>.inl M) (Nat.le_refl _) (λ_ _ _=>rfl) (df.refl _) (λ_=>?_) ?_ ?_ h.dd (y2 (.inr ⟨rfl,rfl⟩) λbe cW=>by grind)
 ·intro i;by_cases G:i=b
  ·subst G;simp only[cE,if_true];exact⟨λ_=>rfl,λaA=>by cases aA⟩
  ·exact cE.k6 (h.bE i) ak (λ_ M=>M) (c8.refl _ _) (by grind) (by grind) λ_=>rfl
 ·intro i G;by_cases eM:i=b
  ·subst eM;simp[bP.b1]at G
  ·simp only[if_neg eM]at G ⊢;exact⟨(h.own i G).1,(h.own i G).2.1,.inl ⟨i,G,rfl⟩⟩
 ·intro i j G aG a1;by_cases eM:i=b
  ·subst eM;simp[bP.b1]at G
  ·by_cases mc:j=b
   ·subst mc;simp[bP.b1]at aG
   ·simp only[if_neg eM,if_neg mc]at G aG a1;exact h.inj i j G aG a1
section
variable {C:b_} {T:Nat->ad} {bg:Nat->Option aP} {o:Oper} {s:aB} {res:eC}
theorem ade{x:Operand}(bh:∀ i,o.dst=some i->i<C.nt)(ag:o.op=.move x)(h:(bt C.aO T bg (a8 C.aO s.ax) o).run s.ab=some res):cJ C o s res:=by
 simp only[bt,ag,bN,aq.bL,Option.some.injEq]at h;subst h;exact cJ.pure (by grind) bh λa w κ F M _ _=>⟨_,by simp[execOp,ag],j7 M x⟩
theorem adf{x:Operand}(bh:∀ i,o.dst=some i->i<C.nt)(ag:o.op=.assign x)(h:(bt C.aO T bg (a8 C.aO s.ax) o).run s.ab=some res):cJ C o s res:=by
 simp only[bt,ag]at h;split at h
 ·rename_i e ai aK;obtain⟨b,aw,an⟩:=qX h;simp only[Option.some.injEq]at an;subst an;intro a w κ F Q M _ _;refine hx (w':=w) (v:=a.eval x) (by grind) (by simp[execOp,ag]) ?_;have U:=M.adb (b:=b) (e:=e) (Nat.lt_succ_self _);have af:=j7 M x;rw[ai]at af;simp only[bu]at af;refine⟨_,_,bl.set U bh ⟨⟨?_,by rw[af];rfl⟩,λ_ _=>?_⟩⟩
  ·simp[aB.cx]
  ·simp[af,bD.slice]
 ·simp only[bN,aq.bL,Option.some.injEq]at h;subst h;exact cJ.pure (by grind) bh λa w κ F M _ _=>⟨_,by simp[execOp,ag],j7 M x⟩
theorem cN{a:Act}{w:World}{κ:Nat->bD}{F:Nat->Prop}(M:bl C s a w κ F)(x:Operand){p:Prop}{av:aF}(hu:use (a8 C.aO s.ax x)=(p,av))(ao:p):bu C.P s.ab κ F w av (a.eval x):=by
 have:=o8 (j7 M x) (by grind);grind
theorem adg{c x y:Operand}(bh:∀ i,o.dst=some i->i<C.nt)(ag:o.op=.pick c x y)(h:(bt C.aO T bg (a8 C.aO s.ax) o).run s.ab=some res):cJ C o s res:=by
 simp only[bt,ag]at h;split at h
 ·rename_i p5 iX hc;split at h
  ·split at h
   ·rename_i y' av bb;simp only[bN,aq.bL,Option.some.injEq]at h;subst h;refine cJ.pure (by grind) bh λa w κ F M bd _=>?_;have E:=ff.1 (cN M c hc bd.1);cases iX with
    | false=>
     have bG:a.eval (.const (.bool false))=.bool false:=rfl;exact⟨.bool false,by simp[execOp,ag,E,asBool,bG],ff.2 rfl⟩
    | true=>
     have U:=ff.1 (cN M x bb (bd.2 rfl));exact⟨.bool av,by simp[execOp,ag,E,asBool,U],ff.2 rfl⟩
   ·cases h
  ·split at h
   ·rename_i b7 bv aa;simp only[bN,aq.bL,Option.some.injEq]at h;subst h;refine cJ.pure (by grind) bh λa w κ F M bd _=>?_;have E:=ff.1 (cN M c hc bd.1);cases iX with
    | true=>
     have bG:a.eval (.const (.bool true))=.bool true:=rfl;exact⟨.bool true,by simp[execOp,ag,E,asBool,bG],ff.2 rfl⟩
    | false=>
     have U:=ff.1 (cN M y aa (bd.2 rfl));exact⟨.bool bv,by simp[execOp,ag,E,asBool,U],ff.2 rfl⟩
   ·cases h
  ·cases h
 ·cases h
theorem adh{op:UnOp}{ty:TypeId}{x:Operand}(bh:∀ i,o.dst=some i->i<C.nt)(ag:o.op=.unOp op ty x)(h:(bt C.aO T bg (a8 C.aO s.ax) o).run s.ab=some res):cJ C o s res:=by
 simp only[bt,ag]at h;split at h
 ·rename_i cD b ai;simp only[bN,aq.bL,Option.some.injEq]at h;subst h;refine cJ.pure (by grind) bh λa w κ F M bd _=>?_;have E:=ff.1 (cN M x ai bd);exact⟨.bool (!b),by simp[execOp,ag,E,Op.unary],ff.2 rfl⟩
 ·rename_i cD k n ai;simp only[bN,aq.bL,Option.some.injEq]at h;subst h;refine cJ.pure (by grind) bh λa w κ F M bd _=>?_;have E:=gT.1 (cN M x ai bd);exact⟨.int k (k.wrap (0 - n)),by simp[execOp,ag,E.1,Op.unary,Op.intArith],gT.2 ⟨rfl,p6 _ _⟩⟩
 ·cases h
theorem adi{i:Nat}{x:Operand}(bh:∀ i,o.dst=some i->i<C.nt)(ag:o.op=.extract x i)(h:(bt C.aO T bg (a8 C.aO s.ax) o).run s.ab=some res):cJ C o s res:=by
 simp only[bt,ag]at h;split at h
 ·rename_i cD n f ai;split at h
  ·rename_i G;simp only[bN,aq.bL,Option.some.injEq]at h;subst h;refine cJ.pure (by grind) bh λa w κ F M bd _=>?_;obtain⟨aE,E,U,ah⟩:=cN M x ai bd;have dM:i<aE.length:=by omega
   refine⟨aE[i],by simp[execOp,ag,E,Instr.extract,dM],?_⟩;grind
  ·cases h
 ·cases h
theorem adj{x:Operand}(bh:∀ i,o.dst=some i->i<C.nt)(ag:o.op=.nilCheck x)(h:(bt C.aO T bg (a8 C.aO s.ax) o).run s.ab=some res):cJ C o s res:=by
 simp only[bt,ag]at h;split at h
 ·rename_i cD b g i ai;simp only[aq.e5,aq.bL]at h;split at h
  ·rename_i bk;simp only[Bool.and_eq_true,decide_eq_true_eq]at bk;simp only[Option.some.injEq]at h;subst h;refine cJ.pure (by grind) bh λa w κ F M bd _=>?_;have E:=cN M x ai bd;have U:=E.2 bk.1.symm bk.2;exact⟨_,by simp[execOp,ag,U.2.2],⟨E.1.1,rfl⟩,λ_ _=>⟨U.1,U.2.1,rfl⟩⟩
  grind
 ·rename_i cD t d ai;simp only[bN,aq.bL,Option.some.injEq]at h;subst h;refine cJ.pure (by grind) bh λa w κ F M bd _=>?_;obtain⟨p,bj,E,U⟩:=cN M x ai bd;exact⟨_,by simp[execOp,ag,E],p,bj,rfl,U⟩
 ·rename_i cD e p ai;simp only[bN,aq.bL,Option.some.injEq]at h;subst h;refine cJ.pure (by grind) bh λa w κ F M bd hc=>?_;have E:=(dT rfl).1 (cN M x ai bd);obtain⟨_,E⟩:=E;simp only[bJ]at E;rcases E with⟨_,rfl⟩ | ⟨q,y,bj,bq,rfl,aW,aY⟩
  ·cases hc
  ·simp only[List.cons.injEq,and_true]at bq;exact⟨_,by simp[execOp,ag,bq],q,bj,rfl,aW,aY⟩
 ·rename_i cD b g off ai;simp only[aq.e5,aq.bL]at h;split at h
  ·rename_i bk;simp only[Bool.and_eq_true,decide_eq_true_eq]at bk;simp only[Option.some.injEq]at h;subst h;refine cJ.pure (by grind) bh λa w κ F M bd _=>?_;have E:=cN M x ai bd;have U:=E.2 bk.1.symm bk.2;exact⟨_,by simp[execOp,ag,U],⟨E.1.1,rfl⟩,λ_ _=>rfl⟩
  grind
 ·cases h
theorem u7(b off n:Nat):(⟨b,off,none⟩:Addr).add n=⟨b,off+n,none⟩:=by
 unfold Addr.add;simp
theorem FA{P:Program}{w:World}{t s:ad}{id f wX b off:Nat}(h:b' P (.st t) id)(ar:me t f=some (s,wX)) :
  (Instr.fieldAt id (.pointer (some ⟨b,off,none⟩)) f).run P w=.ok (.pointer (some ⟨b,off+wX,none⟩)) w:=by
 obtain⟨eT,nI,E,U,ah,aZ,bM⟩:=h.field ar;simp only[Instr.fieldAt,Sem.run_bind,dC E,Result.andThen_ok,U,Instr.sureAddr,Sem.run_pure,fieldPlace,aZ.size,bM,if_false,ah,u7]
theorem adk(aV:dS C.P T){ty f:Nat}{x:Operand}(bh:∀ i,o.dst=some i->i<C.nt)(ag:o.op=.fieldAddr ty x f)(h:(bt C.aO T bg (a8 C.aO s.ax) o).run s.ab=some res):cJ C o s res:=by
 simp only[bt,ag]at h;split at h
 ·rename_i t aK;have dp:=aV.cb aK (by simp);split at h
  ·rename_i s' wX ar;split at h
   ·rename_i cD b g off ai;simp only[aq.e5,aq.bL]at h;split at h
    ·rename_i bk;simp only[Bool.and_eq_true,decide_eq_true_eq]at bk;simp only[Option.some.injEq]at h;subst h;refine cJ.pure (by grind) bh λa w κ F M bd _=>?_;have E:=cN M x ai bd;have U:=E.2 bk.1.symm bk.2;exact⟨_,by simp[execOp,ag,U,FA dp ar],⟨E.1.1,rfl⟩,λ_ _=>rfl⟩
    grind
   ·rename_i cD b g i off ai;simp only[aq.e5,aq.bL]at h;split at h
    ·rename_i bk;simp only[Bool.and_eq_true,decide_eq_true_eq]at bk;simp only[Option.some.injEq]at h;subst h;refine cJ.pure (by grind) bh λa w κ F M bd _=>?_;have E:=cN M x ai bd;obtain⟨U,ah,aZ⟩:=E.2 bk.1.symm bk.2;exact⟨_,by simp[execOp,ag,aZ,FA dp ar];rfl,⟨E.1.1,rfl⟩,λ_ _=>⟨U,ah,by grind⟩⟩
    grind
   ·rename_i cD b g i ai;simp only[aq.e5,aq.bL]at h;split at h
    ·rename_i bk;simp only[Bool.and_eq_true,decide_eq_true_eq,beq_iff_eq]at bk;simp only[Option.some.injEq]at h;subst h;refine cJ.pure (by grind) bh λa w κ F M bd _=>?_;have E:=cN M x ai bd;obtain⟨U,ah,aZ⟩:=E.2 bk.1.1.symm bk.1.2;exact⟨_,by simp[execOp,ag,aZ,FA dp ar];rfl,⟨E.1.1,rfl⟩,λ_ _=>⟨U,ah,by grind⟩⟩
    grind
   ·rename_i cD c1 d ai;split at h
    ·rename_i ze;subst ze;split at h
     ·rename_i dO y aS;simp only[bN,aq.bL,Option.some.injEq]at h;subst h;refine cJ.pure (by grind) bh λa w κ F M bd _=>?_;obtain⟨p,bj,E,U,ah⟩:=cN M x ai bd;simp only[bJ]at ah;obtain⟨bF,c2,c3,rfl,aW,aY⟩:=Rt c1 ah aS;rw[ar]at aY;cases aY;have ao:p=⟨p.block,p.off,none⟩:=by have:=U.2.1;cases p;simp_all
      rw[ao]at E;refine⟨_,by simp[execOp,ag,E,FA dp ar],⟨p.block,p.off+bF.length,none⟩,c2,rfl,⟨U.1,rfl,λj aG=>?_⟩,aW⟩;have:=U.2.2 (bF.length+j) (by grind);grind
     ·cases h
    ·cases h
   ·cases h
  ·cases h
 ·cases h
theorem adl(aV:dS C.P T){ty f:Nat}{x:Operand}(bh:∀ i,o.dst=some i->i<C.nt)(ag:o.op=.field ty x f)(h:(bt C.aO T bg (a8 C.aO s.ax) o).run s.ab=some res):cJ C o s res:=by
 simp only[bt,ag]at h;split at h
 ·rename_i t aK;have dp:=aV.cb aK (by simp);split at h
  ·rename_i cD c1 d ai;split at h
   ·rename_i ze;subst ze;split at h
    ·rename_i dO y aS;simp only[bN,aq.bL,Option.some.injEq]at h;subst h;refine cJ.pure (by grind) bh λa w κ F M bd _=>?_;obtain⟨⟨cs,E,U⟩,ah⟩:=cN M x ai bd;rw[E]at ah;simp only[bJ,Value.cells]at ah;obtain⟨bF,c2,c3,e,aW,aY⟩:=Rt c1 ah aS;obtain⟨eT,nI,f1,f2,f3,f4,f5⟩:=dp.field aY;obtain⟨v,cj,cK⟩:=qW (w:=w) f4 e aW;refine⟨v,?_,cK⟩;simp[execOp,ag,E,Instr.field,dC f1,f2,asAgg,f3,cj]
    ·cases h
   ·cases h
  ·cases h
 ·cases h
end
end Go.Fer
namespace Go.Fer
open Go.RowKit
theorem b'.bH{P:Program}{e:ad}{id:TypeId}(h:b' P (.bH e) id):∃ i,P.underlying id=some (.pointer i)/\b' P e i/\e.size≠0:=by
 unfold b' at h;simp only[cF,Bool.and_eq_true]at h;obtain⟨_,h⟩:=h;split at h
 ·rename_i i G;simp only[Bool.and_eq_true,bne_iff_ne,ne_eq]at h;exact⟨i,G,h.1,h.2⟩
 grind
theorem RI{k:IntKind}{av:aF}{H:Nat->bK}{x:Int}{l:List Nat}(h:(dz (.int k) av).run H=some (x,l)):av.mg.isSome=true:=by
 cases av with
 | val c1 y=>
  simp only[dz,aq.bL,Option.map_eq_some_iff,Prod.mk.injEq]at h;obtain⟨z,bk,_⟩:=h;obtain⟨rfl,_⟩:=kK bk;rfl
 | jB v=>simp[dz,kn,ad.eG,dW,BX]at h
 | _=>simp[dz,kn,ad.eG,dW,aq.none]at h
theorem RJ{av:aF}{H:Nat->bK}{x:List UInt8}{l:List Nat}(h:(dz .str av).run H=some (x,l)):av.tz.isSome=true:=by
 cases av with
 | val c1 y=>
  simp only[dz,aq.bL,Option.map_eq_some_iff,Prod.mk.injEq]at h;obtain⟨z,bk,_⟩:=h;obtain⟨rfl,_⟩:=kK bk;rfl
 | jB v=>simp[dz,kn,ad.eG,dW,BX]at h
 | _=>simp[dz,kn,ad.eG,dW,aq.none]at h
theorem FB{P:Program}{w:World}{ty i:TypeId}(G:P.underlying ty=some (.pointer i))(a:Option Addr)(d:Nat):(Op.equalIn (d+1) ty (.pointer a) (.pointer none)).run P w=.ok a.isNone w:=by
 cases a<;>simp[Op.equalIn,dC G]
inductive B':Value->Value->Prop where
 | bool (a b:Bool):B' (.bool a) (.bool b)
 | agg (a b:Array Value):B' (.agg a) (.agg b)
 | bH (a b:Option Addr):B' (.pointer a) (.pointer b)
theorem adm{P:Program}{w:World}{ty:TypeId}{x y:Operand}{u mI:Value}{e:Bool}(ao:B' u mI)(h:(Op.equalIn 10000 ty u mI).run P w=.ok e w)
  (aC:∀ a b,u=.agg a->mI=.agg b->P.eqGuardType P.depth ty=false) :
  (do eqGuard .eql ty x y u mI;binOp .eql ty u mI:Sem Value).run P w=.ok (.bool e) w/\(do eqGuard .neq ty x y u mI;binOp .neq ty u mI:Sem Value).run P w=.ok (.bool (!e)) w:=by
 cases ao with
 | bool a b=>constructor<;>simp[ac9,binOp,Op.equal,Op.maxDepth,h]
 | agg a b=>constructor<;>simp[run_eqGuard_agg _ _ _ _ _ _ _ (aC a b rfl rfl),binOp,Op.equal,Op.maxDepth,h]
 | bH a b=>constructor<;>simp[ac_,binOp,Op.equal,Op.maxDepth,h]
section
variable {C:b_} {T:Nat->ad} {bg:Nat->Option aP} {o:Oper} {s:aB} {res:eC}
theorem Ca{a:Act}{w:World}{κ:Nat->bD}{F:Nat->Prop}(M:bl C s a w κ F){t:ad}{av:aF}{v:Value}{x:t.aj}{l:List Nat}(h:(dz t av).run s.ab=some (x,l))(af:bu C.P s.ab κ F w av v) :
  ep C.P t (λ_=>True) w v x:=mf M.bE (λ_ _=>trivial) h (λ_ _ _=>trivial) af
theorem adn{op:BinOp}{ty:TypeId}{dZ kr:aF}{x y:Operand}{c:Prop}{v:aF}{a:Act}{w:World}{κ:Nat->bD}{F:Nat->Prop}(aV:dS C.P T)(M:bl C s a w κ F)
  (h:(y7 op (T ty) dZ kr).run s.ab=some (c,v)) {u mI:Value} (ai:bu C.P s.ab κ F w dZ u) (aS:bu C.P s.ab κ F w kr mI) (RL:¬(dZ.mg.isSome=true/\kr.mg.isSome=true)) (RM:¬(dZ.tz.isSome=true/\kr.tz.isSome=true)) :
  ∃ r,(do eqGuard op ty x y u mI;binOp op ty u mI:Sem Value).run C.P w=.ok r w/\bu C.P s.ab κ F w v r:=by
 unfold y7 at h;rw[aq.e6]at h;simp only[Option.bind_eq_some_iff]at h;obtain⟨e,he,af⟩:=h;simp only[aq.bL]at af;have key:B' u mI/\(Op.equalIn 10000 ty u mI).run C.P w=.ok e w/\(∀ a b,u=.agg a->mI=.agg b->C.P.eqGuardType C.P.depth ty=false):=by
  split at he
  ·rename_i a1 p aN aK;obtain⟨i,G,_⟩:=(aV.cb aK (by simp)).bH;simp only[bu]at aS;subst aS;simp only[aq.bL,Option.some.injEq]at he;subst he;obtain⟨_,nK⟩:=(dT rfl).1 ai;rcases nK with⟨nK,rfl⟩ | ⟨q,z,bj,nK,rfl,_⟩
   ·obtain rfl:=(List.cons.inj nK).1;exact⟨.bH _ _,FB G none 9999,λ_ _ h=>by cases h⟩
   ·obtain rfl:=(List.cons.inj nK).1;exact⟨.bH _ _,FB G (some q) 9999,λ_ _ h=>by cases h⟩
  ·rename_i a1 t2 wZ aK;obtain⟨i,G,_⟩:=(aV.cb aK (by simp)).bH;simp only[bu]at aS;subst aS;simp only[aq.bL,Option.some.injEq]at he;subst he;obtain⟨q,bj,rfl,_⟩:=ai;exact⟨.bH _ _,FB G (some q) 9999,λ_ _ h=>by cases h⟩
  ·rename_i a1 b g off aK;obtain⟨i,G,_⟩:=(aV.cb aK (by simp)).bH;simp only[bu]at aS;subst aS;simp only[aq.e5,aq.bL]at he;split at he
   ·rename_i bk;simp only[Bool.and_eq_true,decide_eq_true_eq]at bk;simp only[Option.some.injEq]at he;subst he;have:=ai.2 bk.1.symm bk.2;subst this;exact⟨.bH _ _,FB G (some _) 9999,λ_ _ h=>by cases h⟩
   grind
  ·split at he
   ·rename_i iY;simp only[Bool.and_eq_true,decide_eq_true_eq]at iY;simp only[aq.e6,Option.bind_eq_some_iff,aq.bL,Option.some.injEq]at he;obtain⟨⟨w1,fc⟩,E,⟨Kc,pY⟩,U,rfl⟩:=he;have cj:=Ca M E ai;have cK:=Ca M U aS;generalize p7:T ty=t at *
    cases t with
    | bool=>
     have dp:=aV.cb p7 (by simp);refine⟨?_,(Ka .bool 10000 rfl (by decide)).1 dp cj cK,?_⟩
     ·rw[ff.1 cj,ff.1 cK];exact .bool _ _
     simp_all
    | int k=>exact (RL ⟨RI E,RI U⟩).elim
    | str=>exact (RM ⟨RJ E,RJ U⟩).elim
    | st t=>
     have dp:=aV.cb p7 (by simp);refine⟨?_,(Ka (.st t) 10000 iY.1 (by omega)).1 dp cj cK,λ_ _ _ _=>dp.B9.2.1⟩;obtain⟨⟨_,rfl,_⟩,_⟩:=cj;obtain⟨⟨_,rfl,_⟩,_⟩:=cK;exact .agg _ _
    | az t1 t2=>have:=aV.cb p7 (by simp);unfold b' at this;simp only[cF,Bool.false_eq_true]at this
    | cV=>cases iY.1
    | slice _=>cases iY.1
    | array _ _=>cases iY.1
    | bH _=>cases iY.1
    | map _ _=>cases iY.1
    | fn _ _=>cases iY.1
    | cu _=>cases iY.1
    | eo=>cases iY.1
   ·cases he
 obtain⟨aW,aY,bO⟩:=key;have:=adm (x:=x) (y:=y) aW aY bO;cases op<;>simp only[reduceCtorEq,Option.some.injEq,Prod.mk.injEq]at af;case eql=>obtain⟨rfl,rfl⟩:=af;exact⟨_,this.1,ff.2 rfl⟩
 case neq=>obtain⟨rfl,rfl⟩:=af;exact⟨_,this.2,ff.2 rfl⟩
theorem ado(aV:dS C.P T){op:BinOp}{ty mM:TypeId}{x y:Operand}(bh:∀ i,o.dst=some i->i<C.nt)(ag:o.op=.binOp op ty x y mM)(h:(bt C.aO T bg (a8 C.aO s.ax) o).run s.ab=some res):cJ C o s res:=by
 simp only[bt,ag]at h;have zf:∀ c,o.op≠.defer c:=by grind
 have mN:∀ (a:Act) (w:World) (r:Value),(do eqGuard op ty x y (a.eval x) (a.eval y);binOp op ty (a.eval x) (a.eval y):Sem Value).run C.P w=.ok r w->(execOp a.eval o).run C.P w=.ok (.value r) w:=by
  intro a w r M;simp only[execOp,ag,Sem.run_bind]at M ⊢;simp_all
 split at h
 ·rename_i k m k' n ai aS;have fin:∀ (c:Prop) (v:aF),(∀ (w:World) κ F,c->fR k m->∃ r,(binOp op ty (.int k m) (.int k' n)).run C.P w=.ok r w/\bu C.P s.ab κ F w v r)->
    res=⟨(use (a8 C.aO s.ax x)).1/\(use (a8 C.aO s.ax y)).1,c,v,[]⟩->cJ C o s res:=by
   intro c v an gm;subst gm;refine cJ.pure zf bh λa w κ F M bd hc=>?_;have E:=oo (cN M x rfl bd.1) ai;have U:=oo (cN M y rfl bd.2) aS;obtain⟨r,cj,cK⟩:=an w κ F hc E.2;exact⟨r,mN a w r (by simp[E.1,U.1,RG,cj]),cK⟩
  split at h
  ·split at h
   ·rename_i c v aD;simp only[bN,aq.bL,Option.some.injEq]at h;exact fin c v (λw κ F hc bb=>RH aD hc bb) h.symm
   ·cases h
  ·split at h
   ·rename_i c v aD;simp only[bN,aq.bL,Option.some.injEq]at h;exact fin c v (λw κ F hc bb=>RH aD hc bb) h.symm
   ·cases h
  ·split at h
   ·rename_i u9;subst u9;split at h
    ·rename_i c v aD;simp only[bN,aq.bL,Option.some.injEq]at h;exact fin c v (λw κ F hc bb=>ac' aD hc bb) h.symm
    ·cases h
   ·cases h
 ·rename_i RL;split at h
  ·rename_i m n ai aS;split at h
   ·rename_i c v aD;simp only[bN,aq.bL,Option.some.injEq]at h;subst h;refine cJ.pure zf bh λa w κ F M bd hc=>?_;have E:=J' (cN M x rfl bd.1) ai;have U:=J' (cN M y rfl bd.2) aS;obtain⟨r,cj,cK⟩:=ada (P:=C.P) (H:=s.ab) (κ:=κ) (F:=F) (w:=w) (t:=ty) aD hc;exact⟨r,mN a w r (by simp[E.1,U.1,ac8,cj]),cK⟩
   ·cases h
  ·rename_i RM;simp only[bN,aq.e6,Option.bind_eq_some_iff,aq.bL,Option.some.injEq]at h;obtain⟨⟨c,v⟩,aD,rfl⟩:=h;refine cJ.pure zf bh λa w κ F M bd hc=>?_;obtain⟨r,cj,cK⟩:=adn (x:=x) (y:=y) aV M aD (cN M x rfl bd.1) (cN M y rfl bd.2)
    (λ⟨ay,aN⟩=>by
     obtain⟨⟨k,m⟩,ay⟩:=Option.isSome_iff_exists.1 ay;obtain⟨⟨k',dx⟩,aN⟩:=Option.isSome_iff_exists.1 aN;grind)
    (λ⟨ay,aN⟩=>by
     obtain⟨m,ay⟩:=Option.isSome_iff_exists.1 ay;obtain⟨dx,aN⟩:=Option.isSome_iff_exists.1 aN;grind)
   grind
theorem u_{w:World}{b:Nat}{cs:Array Value}{T:TypeId}{fh:Nat×Nat}(h:w.heap[b]?=some (.cells cs T fh))(off:Nat):w.cell? ⟨b,off,none⟩=cs[off]?:=by
 simp[World.cell?,h]
theorem RN{P:Program}{w:World}{t:ad}{id:TypeId}(h:b' P t id)(ak:t.isAgg=false){p:Addr}{v:Value}(af:w.cell? p=some v):(loadVar id p).run P w=.ok v w:=by
 simp[loadVar,zb h,ak,af]
theorem RO(aV:dS C.P T){ty:TypeId}{dZ v:aF}{u:Value}{a:Act}{w:World}{κ:Nat->bD}{F:Nat->Prop}(M:bl C s a w κ F)(h:(y8 (T ty) dZ).run s.ab=some v)(ai:bu C.P s.ab κ F w dZ u) :
  ∃ r,(Instr.loadAt ty u).run C.P w=.ok r w/\bu C.P s.ab κ F w v r:=by
 generalize p7:T ty=t at *
 cases dZ with
 | dV c1 d=>
  simp only[y8,aq.bL]at h;split at h
  ·rename_i hc;obtain⟨rfl,hc⟩:=hc;simp only[Option.some.injEq]at h;subst h;obtain⟨p,bj,rfl,U,ah⟩:=ai;have dp:=aV.cb p7 (by intro e;subst e;cases hc);obtain⟨r,cj,cK⟩:=J_ dp U.J9 ah;exact⟨r,by simp[Instr.loadAt,Instr.sureAddr,cj],cK⟩
  grind
 | a7 b g off=>
  simp only[y8,aq.e5,aq.bL]at h;split at h
  ·rename_i aC;split at h
   ·rename_i t0 f bS;have af:=ai.2 aC.symm (by rw[bS];rfl);subst af;have aU:=M.bE b;unfold cE at aU;rw[bS]at aU;obtain⟨cs,hW,bF,c2,c3⟩:=aU;split at h
    ·rename_i ak;split at h
     ·rename_i FC;simp only[Option.some.injEq]at h;subst h;have dp:=aV.cb p7 (by intro e;subst e;cases ak);have Kd:t.isAgg=false:=by cases t<;>simp_all[ad.eG,ad.isAgg]
      refine⟨cs.getD off Go.undef,?_,(c3 off FC).1⟩;simp only[Instr.loadAt,Instr.sureAddr,Sem.run_bind,Sem.run_pure,Result.andThen_ok];refine RN dp Kd ?_;rw[u_ bF];simp_all
     grind
    ·split at h
     ·rename_i RP;split at h
      ·rename_i FC;simp only[Option.some.injEq]at h;subst h;have dp:=aV.cb p7 (by intro e;subst e;cases RP);let aE:=(List.range t.size).map λj=>cs.getD (off+j) Go.undef;refine⟨.agg aE.toArray,?_,aE,rfl,by grind,λi G=>?_⟩
       ·simp only[Instr.loadAt,Instr.sureAddr,Sem.run_bind,Sem.run_pure,Result.andThen_ok,loadVar,zb dp,RP,if_true,dp.size];rw[run_loadCells w ⟨(κ b).ab,off,none⟩ t.size (λj=>cs.getD (off+j) Go.undef)]
        ·rfl
        ·intro j aG;rw[u7,u_ bF];simp[Array.getD_eq_getD_getElem?,c2,show off+j<t0.size by omega]
       grind
      grind
     grind
   ·rename_i t0 y bS;have af:=ai.2 aC.symm (by rw[bS];rfl);subst af;have aU:=M.bE b;unfold cE at aU;rw[bS]at aU;obtain⟨bj,d1,d2⟩:=aU;split at h
    ·rename_i hc;simp only[Option.map_eq_some_iff]at h;obtain⟨z,bk,rfl⟩:=h;obtain⟨bF,c2,c3,rfl,du,dF⟩:=Ru t0 d2 bk;have dp:=aV.cb p7 (by intro e;subst e;cases hc);have c7:ks w ⟨(κ b).ab,off,none⟩ c2:=by
      refine⟨λ_=>rfl,λj aG=>?_⟩;have:=d1.2.2 (bF.length+j) (by grind);simp_all
     obtain⟨r,cj,cK⟩:=J_ dp c7 dF;exact⟨r,by simp[Instr.loadAt,Instr.sureAddr,cj],cK⟩
    grind
   grind
  grind
 | oh b g i off=>
  simp only[y8,aq.e5,aq.bL]at h;split at h
  ·rename_i aC;have fin:∀ (e:ad) (xs:List e.aj),(s.ab b).body.e3=true->(s.ab b).body.len=xs.length->(s.ab b).body.e4=e.size->
     (∀ (G:i<xs.length),(κ b).e8=false->∃ bj,ks w ⟨(κ b).ab,(κ b).off+i*e.size,none⟩ bj/\bJ C.P e F w bj xs[i])->
     (if t.eG||t.isAgg then (r2 e (xs.getD i e.dh) off t).map (.val t) else none)=some v->∃ r,(Instr.loadAt ty u).run C.P w=.ok r w/\bu C.P s.ab κ F w v r:=by
    intro e xs bb hlen Cb jk af;split at af
    ·rename_i hc;simp only[Option.map_eq_some_iff]at af;obtain⟨z,bk,rfl⟩:=af;obtain⟨aW,aY,bO⟩:=ai.2 aC.symm bb;subst bO;rw[hlen]at aW;obtain⟨bj,d1,d2⟩:=jk aW aY;have Ke:xs.getD i e.dh=xs[i]:=by grind
     rw[Ke]at bk;obtain⟨bF,c2,c3,rfl,du,dF⟩:=Ru e d2 bk;have dp:=aV.cb p7 (by intro e;subst e;cases hc);have c7:ks w ⟨(κ b).ab,(κ b).off+i*(s.ab b).body.e4+off,none⟩ c2:=by
      refine⟨λ_=>rfl,λj aG=>?_⟩;have:=d1.2 (bF.length+j) (by grind);grind
     obtain⟨r,cj,cK⟩:=J_ dp c7 dF;exact⟨r,by simp[Instr.loadAt,Instr.sureAddr,cj],cK⟩
    grind
   have aU:=M.bE b;unfold cE at aU;split at h
   ·rename_i e xs bS;rw[bS]at aU;refine fin e xs (by rw[bS];rfl) (by rw[bS];rfl) (by rw[bS];rfl) (λG aA=>?_) h;obtain⟨cs,hW,bF,c2,c3,c4,c5⟩:=aU.2 aA;obtain⟨bj,d1,d2⟩:=c5 i G;exact⟨bj,⟨λ_=>rfl,λj aG=>by rw[u_ bF];grind⟩,d2⟩
   ·rename_i e xs bS;rw[bS]at aU;refine fin e xs (by rw[bS];rfl) (by rw[bS];rfl) (by rw[bS];rfl) (λG aA=>?_) h;simp only[jC,bJ,bD.slice,aA,Bool.false_eq_true,if_false]at aU;obtain⟨a',cap,ay,m1,m2,m3,m4⟩:=aU;simp only[List.cons.injEq,Value.slice.injEq,and_true]at ay;obtain⟨rfl,_,rfl⟩:=ay;obtain⟨ee,eh,jI⟩:=m4 _ rfl (by omega);obtain⟨bj,d1,d2⟩:=jI i G;exact⟨bj,d1.J9,d2⟩
   grind
  grind
 | _=>cases h
end
end Go.Fer
namespace Go.Fer
open Go.RowKit
section
variable {C:b_} {T:Nat->ad} {bg:Nat->Option aP} {o:Oper} {s:aB} {res:eC}
theorem adp(aV:dS C.P T){ty:TypeId}{x:Operand}(bh:∀ i,o.dst=some i->i<C.nt)(ag:o.op=.load ty x)(h:(bt C.aO T bg (a8 C.aO s.ax) o).run s.ab=some res):cJ C o s res:=by
 simp only[bt,ag]at h;split at h
 ·rename_i cD b g i ai;simp only[RC,aq.e5,aq.bL]at h;split at h
  ·rename_i e xs k9 v bS;split at h
   ·rename_i hc;obtain⟨aC,ak⟩:=hc;simp only[Option.some.injEq]at h;subst h;refine cJ.pure (by grind) bh λa w κ F M bd G=>?_;have G:i=k9:=G;subst G;have E:=(cN M x ai bd).2 aC.symm (by rw[bS];rfl);have aU:=M.bE b;unfold cE at aU;rw[bS]at aU E;obtain⟨_,cs,hW,bF,c2,c3,c4,c5,lK,oq,w2⟩:=aU;have dp:=aV.cb (t:=T ty) rfl (by intro e;rw[e]at ak;cases ak);have Kd:(T ty).isAgg=false:=by cases aK:T ty<;>simp_all[ad.eG,ad.isAgg]
    refine⟨_,?_,oq⟩;have tD:w.cell? ⟨(κ b).ab,(κ b).off+i,none⟩=some (cs.getD ((κ b).off+i) Go.undef):=by
     rw[u_ bF];have:(κ b).off+i<cs.size:=by
      have:i<(κ b).cap:=by omega
      rw[c5.1]at c2;omega
     simp[this]
    have ao:a.eval x=.pointer (some ⟨(κ b).ab,(κ b).off+i,none⟩):=by rw[E.2.2];simp[bP.e4,c5.1]
    simp[execOp,ag,ao,Instr.loadAt,Instr.sureAddr,RN dp Kd tD]
   ·cases h
  ·cases h
 ·rename_i cD dZ _ ai;simp only[bN,aq.e6,Option.bind_eq_some_iff,aq.bL,Option.some.injEq]at h;obtain⟨v,af,rfl⟩:=h;refine cJ.pure (by grind) bh λa w κ F M bd _=>?_;obtain⟨r,cj,cK⟩:=RO aV M af (cN M x ai bd);exact⟨r,by simp[execOp,ag,cj],cK⟩
theorem b'.str{P:Program}{id:TypeId}(h:b' P .str id):P.underlying id=some .string:=by
 unfold b' at h;simp only[cF,Bool.and_eq_true]at h;grind
theorem b'.int{P:Program}{k:IntKind}{id:TypeId}(h:b' P (.int k) id):P.underlying id=some (.int k):=by
 unfold b' at h;simp only[cF,Bool.and_eq_true]at h;grind
theorem b'.bf{P:Program}{n:Nat}{e:ad}{id:TypeId}(h:b' P (.array n e) id):∃ i,P.underlying id=some (.array n i)/\b' P e i/\e.size≠0:=by
 unfold b' at h;simp only[cF,Bool.and_eq_true]at h;obtain⟨_,h⟩:=h;split at h
 ·rename_i m i hu;simp only[Bool.and_eq_true,decide_eq_true_eq,bne_iff_ne,ne_eq]at h;obtain⟨⟨rfl,U⟩,ah⟩:=h;exact⟨i,hu,U,ah⟩
 grind
theorem adq{fl:List (List Value)}{m:Nat}(h:∀ c∈fl,c.length=m){i:Nat}(G:i<fl.length):∃ p q,fl.flatten=p++(fl[i]++q)/\p.length=i*m:=by
 refine⟨(fl.take i).flatten,(fl.drop (i+1)).flatten,?_,?_⟩
 ·rw[<-List.flatten_cons,<-List.drop_eq_getElem_cons G,<-List.flatten_append,List.take_append_drop]
 ·have aZ:(fl.take i).map List.length=List.replicate i m:=List.eq_replicate_iff.2 ⟨by grind,λx ai=>by
   grind⟩
  simp_all
theorem Kf{P:Program}{n:Nat}{e:ad}{F:Nat->Prop}{w:World}{cs:List Value}{xs:List e.aj}(h:bJ P (.array n e) F w cs xs){i:Nat}(G:i<n):∃ p c q,cs=p++(c++q)/\p.length=i*e.size/\bJ P e F w c (xs.getD i e.dh):=by
 simp only[bJ]at h;obtain⟨fl,rfl,E,U,ah⟩:=h;obtain⟨p,q,aW,aY⟩:=adq (m:=e.size) (λc hc=>by
  obtain⟨j,aG,rfl⟩:=List.mem_iff_getElem.1 hc;exact hR e (ah j (by omega) aG)) (show i<fl.length by omega)
 grind
theorem adr(aV:dS C.P T){ty:TypeId}{x i:Operand}(bh:∀ i,o.dst=some i->i<C.nt)(ag:o.op=.index ty x i)(h:(bt C.aO T bg (a8 C.aO s.ax) o).run s.ab=some res):cJ C o s res:=by
 simp only[bt,ag]at h;split at h
 ·rename_i l k n aK ai G;simp only[bN,aq.bL,Option.some.injEq]at h;subst h;refine cJ.pure (by grind) bh λa w κ F M bd hc=>?_;have E:=J' (cN M x rfl bd.1) ai;have U:=oo (cN M i rfl bd.2) G;have dp:=(aV.cb aK (by simp)).str;have cc:n.toNat<l.length:=by omega
  refine⟨.int .u8 ((l.getD n.toNat 0).toNat:Int),?_,gT.2 ⟨rfl,?_⟩⟩
  ·have e:(⟨l.toArray⟩:ByteArray)[n.toNat]?=some (l.getD n.toNat 0):=by
    have aD:n.toNat<(⟨l.toArray⟩:ByteArray).size:=by simpa [ByteArray.size]using cc
    rw[getElem?_pos (⟨l.toArray⟩:ByteArray) n.toNat aD];simp only[Option.some.injEq];show (⟨l.toArray⟩:ByteArray).data[n.toNat]=_;grind
   simp[execOp,ag,Instr.index,E.1,U.1,asIntOf,dC dp,hc.1,e]
  ·have:=(l.getD n.toNat 0).toNat_lt;constructor
   ·have:IntKind.u8.min=0:=by decide
    omega
   ·have:IntKind.u8.max=255:=by decide
    omega
 ·rename_i m e k n aK G;split at h
  ·rename_i dx a1 xs ai;split at h
   ·rename_i he;obtain⟨rfl,rfl⟩:=he;simp only[bN,aq.bL,Option.some.injEq]at h;subst h;refine cJ.pure (by grind) bh λa w κ F M bd hc=>?_;have E:bu C.P s.ab κ F w (use (a8 C.aO s.ax x)).2 (a.eval x):=cN M x rfl bd.1;rw[ai]at E;have U:=oo (cN M i rfl bd.2) G;obtain⟨j,aG,qY,_⟩:=(aV.cb aK (by simp)).bf;obtain⟨⟨cs,af,nJ⟩,nL⟩:=E;rw[af]at nL;obtain⟨p,c,q,ay,aN,cA⟩:=Kf nL (i:=n.toNat) (by omega);obtain⟨v,g1,et⟩:=qW qY (cs:=cs) ay cA;refine⟨v,?_,et⟩;rw[aN]at g1;simp[execOp,ag,Instr.index,af,U.1,asIntOf,dC aG,hc.1,hc.2,qY.size,g1]
   ·cases h
  ·rename_i k' f ai;split at h
   ·rename_i an;simp only[bN,aq.bL,Option.some.injEq]at h;subst h;refine cJ.pure (by grind) bh λa w κ F M bd hc=>?_;have E:bu C.P s.ab κ F w (use (a8 C.aO s.ax x)).2 (a.eval x):=cN M x rfl bd.1;rw[ai]at E;have U:=oo (cN M i rfl bd.2) G;obtain⟨j,aG,qY,cd⟩:=(aV.cb aK (by simp)).bf;obtain⟨aE,af,ak,fG⟩:=E;have cc:n.toNat*e.size+e.size<=aE.length:=by
     rw[ak,an];have:(n.toNat+1)*e.size<=m*e.size:=Nat.mul_le_mul_right _ (by omega);grind
    by_cases bb:e.isAgg=true
    ·simp only[if_pos bb];refine⟨_,by simp[execOp,ag,Instr.index,af,U.1,asIntOf,dC aG,hc.1,hc.2,qY.size,RF qY bb];rfl,(aE.toArray.extract (n.toNat*e.size) (n.toNat*e.size+e.size)).toList,by simp,?_,λq bq=>?_⟩
     ·simp;omega
     ·have ads:(aE.toArray.extract (n.toNat*e.size) (n.toNat*e.size+e.size)).toList.getD q Go.undef=aE.getD (n.toNat*e.size+q) Go.undef:=by
       simp[List.getD_eq_getElem?_getD,bq]
      rw[ads];exact fG _ (by omega)
    ·simp only[if_neg bb];have aZ:=fG (n.toNat*e.size) (by omega);refine⟨aE.getD (n.toNat*e.size) Go.undef,?_,aZ.1⟩;have aC:aE.toArray[n.toNat*e.size]?=some (aE.getD (n.toNat*e.size) Go.undef):=by
      grind
     simp[execOp,ag,Instr.index,af,U.1,asIntOf,dC aG,hc.1,hc.2,qY.size,RE qY (by grind) aC]
   ·cases h
  ·cases h
 ·cases h
theorem r6:∀ {l:List aF},jH l->∀ i,i<l.length->(use (l.getD i .undef)).1
 | [],_,i,G=>by grind
 | a::l,h,0,_=>by
  cases a<;>first | trivial | exact h.1
 | a::l,h,i+1,G=>by
  have de:jH l:=by cases a<;>first | exact h | exact h.2
  have:=r6 de i (by grind);grind
theorem RQ{k:bD}{n:Nat}(h:k.e8=true->n=0):∃ a cap,k.slice n=.slice a n cap:=by
 unfold bD.slice;split
 ·rename_i aA;rw[h aA];exact⟨none,0,rfl⟩
 ·exact⟨_,_,rfl⟩
theorem w3{a:Act}{w:World}{κ:Nat->bD}{F:Nat->Prop}(M:bl C s a w κ F){b:Nat}(bb:(s.ab b).body.e3=true):((κ b).e8=true->(s.ab b).body.len=0)/\(s.ab b).body.len<2 ^ 63:=by
 have aU:=M.bE b;unfold cE at aU;cases bS:(s.ab b).body with
 | bf e xs=>
  rw[bS]at aU;refine⟨λaA=>by rw[aU.1 aA];rfl,?_⟩;simp only[bP.len];cases aA:(κ b).e8 with
  | true=>rw[aU.1 aA];simp
  | false=>obtain⟨cs,hW,bF,c2,c3,c4,c5⟩:=aU.2 aA;omega
 | hD e xs=>
  rw[bS]at aU;simp only[jC,bJ,bD.slice]at aU;obtain⟨a',cap,ay,m1,m2,m3,m4⟩:=aU;simp only[bP.len];grind
 | gh e xs i v=>
  rw[bS]at aU;obtain⟨aX,cs,hW,bF,c2,c3,c4,_⟩:=aU;exact⟨λaA=>(by rw[aX]at aA;cases aA),(by simp only[bP.len];omega)⟩
 | _=>rw[bS]at bb;cases bb
theorem Kg{a:Act}{w:World}{κ:Nat->bD}{F:Nat->Prop}(M:bl C s a w κ F){b:Nat}(bb:(s.ab b).body.e3=true)(aA:(κ b).e8=false):(s.ab b).body.len<=(κ b).cap:=by
 have aU:=M.bE b;unfold cE at aU;cases bS:(s.ab b).body with
 | bf e xs=>
  rw[bS]at aU;obtain⟨cs,hW,bF,c2,c3,c4,c5⟩:=aU.2 aA;exact c3
 | hD e xs=>
  rw[bS]at aU;simp only[jC,bJ,bD.slice,aA,Bool.false_eq_true,if_false]at aU;obtain⟨a',cap,ay,m1,m2,m3,m4⟩:=aU;simp only[List.cons.injEq,Value.slice.injEq,and_true]at ay;simp only[bP.len];omega
 | gh e xs i v=>
  rw[bS]at aU;obtain⟨aX,cs,hW,bF,c2,c3,c4,_⟩:=aU;exact c3
 | _=>rw[bS]at bb;cases bb
theorem adt{a:Act}{w:World}{κ:Nat->bD}{F:Nat->Prop}(M:bl C s a w κ F){b aT G:Nat}(bb:(s.ab b).body.e3=true){v:Value}(E:aT<=G)(U:G<=(s.ab b).body.len)(aD:Fk (κ b) (s.ab b).body.e4 aT G v) :
  ∃ a cap,v=.slice a (G - aT) cap/\G - aT<2 ^ 63:=by
 have aA:=w3 M bb;rcases aD with⟨aW,rfl⟩ | ⟨aW,o,rfl,_⟩
 ·simp_all
 grind
theorem Cc{n:Nat}(h:n<2 ^ 63):fR .i64 (n:Int):=by
 unfold fR;have E:IntKind.i64.min=-9223372036854775808:=by decide
 have U:IntKind.i64.max=9223372036854775807:=by decide
 omega
theorem b'.mp{P:Program}{k v:ad}{id:TypeId}(h:b' P (.map k v) id):∃ i j,P.underlying id=some (.map i j)/\b' P k i/\b' P v j:=by
 unfold b' at h;simp only[cF,Bool.and_eq_true]at h;obtain⟨_,h⟩:=h;split at h
 ·rename_i i j G;simp only[Bool.and_eq_true]at h;exact⟨i,j,G,h.1,h.2⟩
 grind
theorem adu(aV:dS C.P T){t:TypeId}{dZ:aF}{c:Prop}{n:Int}{u:Value}{a:Act}{w:World}{κ:Nat->bD}{F:Nat->Prop}(M:bl C s a w κ F)(h:(Fo (T t) dZ).run s.ab=some (c,n))(hc:c)(ai:bu C.P s.ab κ F w dZ u)(ty:TypeId) :
  (Builtin.len_ #[t] ty #[u]).run C.P w=.ok (.int .i64 n) w/\fR .i64 n:=by
 have adv:∀ e a' m cap,T t=.slice e->u=.slice a' m cap->(m:Int)=n->m<2 ^ 63->(Builtin.len_ #[t] ty #[u]).run C.P w=.ok (.int .i64 n) w/\fR .i64 n:=by
  intro e a' m cap aK hu hm cc;obtain⟨i,G,_⟩:=(aV.cb aK (by simp)).sl;subst hu;rw[<-hm];exact⟨by simp[Builtin.len_,dC G,goInt],Cc cc⟩
 have RR:∀ k v r es clk m,T t=.map k v->u=.map (some r)->w.heap[r]?=some (.map es clk)->es.size=m->(m:Int)=n->b6 m->(Builtin.len_ #[t] ty #[u]).run C.P w=.ok (.int .i64 n) w/\fR .i64 n:=by
  intro k v r es clk m aK hu hw o_ hm cc;obtain⟨i,j,G,_⟩:=(aV.cb aK (by simp)).mp;subst hu;rw[<-hm,<-o_];unfold b6 at cc;refine⟨?_,Cc (by omega)⟩;simp[Builtin.len_,dC G,goInt,getObj,Sem.run,hw]
 unfold Fo at h;split at h
 ·rename_i e aK;split at h
  ·rename_i a1 xs;simp only[aq.bL,Option.some.injEq,Prod.mk.injEq]at h;obtain⟨_,ai⟩:=(dT rfl).1 ai;obtain⟨a',cap,ay,m1,m2,m3,m4⟩:=ai;grind
  ·simp only[aq.bL,Option.some.injEq,Prod.mk.injEq]at h;simp only[bu]at ai;grind
  ·rename_i m;simp only[aq.bL,Option.some.injEq,Prod.mk.injEq]at h;obtain⟨⟨p,q,af⟩,cc⟩:=ai;exact adv e p m q aK af h.2 cc
  ·rename_i b g;simp only[aq.e5,aq.bL]at h;split at h
   ·rename_i bk;simp only[Bool.and_eq_true,decide_eq_true_eq]at bk;simp only[Option.some.injEq,Prod.mk.injEq]at h;have af:=ai.2 bk.1.symm bk.2;have aA:=w3 M bk.2;obtain⟨a',cap,he⟩:=RQ (k:=κ b) aA.1;grind
   grind
  ·rename_i b g aT G;simp only[aq.e5,aq.bL]at h;split at h
   ·rename_i bk;simp only[Bool.and_eq_true,decide_eq_true_eq]at bk;simp only[Option.some.injEq,Prod.mk.injEq]at h;obtain⟨⟨aW,aY⟩,bO⟩:=ai.2 bk.1.symm bk.2;obtain⟨a',cap,he,cc⟩:=adt M bk.2 aW aY bO;grind
   grind
  ·cases h
 ·rename_i aK;split at h
  ·rename_i xs;simp only[aq.bL,Option.some.injEq,Prod.mk.injEq]at h;obtain⟨rfl,cc⟩:=ma.1 ai;have dp:=(aV.cb aK (by simp)).str;rw[<-h.2];have aD:ByteArray.size ⟨xs.toArray⟩=xs.length:=by rfl
   exact⟨by simp[Builtin.len_,dC dp,goInt,aD],Cc (by omega)⟩
  ·cases h
 ·rename_i k v aK;split at h
  ·rename_i k' h5 xs;simp only[aq.bL,Option.some.injEq,Prod.mk.injEq]at h;obtain⟨rfl,h⟩:=h;obtain⟨_,ai⟩:=(dT rfl).1 ai;rcases ai with⟨ay,rfl⟩ | ⟨r,es,clk,ay,m1,m2,m3,_⟩
   ·obtain rfl:=(List.cons.inj ay).1;obtain⟨i,j,G,_⟩:=(aV.cb aK (by simp)).mp;rw[<-h];exact⟨by simp[Builtin.len_,dC G,goInt],Cc (by simp)⟩
   grind
  ·rename_i b g;simp only[aq.e5,aq.bL]at h;split at h
   ·rename_i aC;split at h
    ·rename_i k' h5 es bS;simp only[Option.some.injEq,Prod.mk.injEq]at h;obtain⟨rfl,h⟩:=h;have aU:=M.bE b;unfold cE at aU;rw[bS]at aU;obtain⟨ms,clk,du,dF⟩:=aU;exact RR k v _ ms clk es.length aK (ai.2 aC.symm (by rw[bS];rfl)) du dF.1 h hc
    ·rename_i k' h5 es bS;simp only[Option.some.injEq,Prod.mk.injEq]at h;obtain⟨rfl,h⟩:=h;have aU:=M.bE b;unfold cE at aU;rw[bS]at aU;rcases aU with⟨ay,_⟩ | ⟨r,ms,clk,ay,w4,du,dF,_⟩
     ·cases ay
     ·simp only[List.cons.injEq,Value.map.injEq,Option.some.injEq,and_true]at ay;subst ay;exact RR k v _ ms clk es.length aK (ai.2 aC.symm (by rw[bS];rfl)) du dF h hc
    grind
   grind
  ·cases h
 ·cases h
theorem w5{b:Builtin}{args:Array Operand}{dn:Array TypeId}{a:Act}{w w':World}{v:Value}(ag:o.op=.call { callee:=.builtin b,args:=args,argTypes:=dn })
  (h:(builtin b dn o.type (args.map fun | .const _=>true | _=>false) (args.map a.eval)).run C.P w=.ok (.value v) w'):(execOp a.eval o).run C.P w=.ok (.value v) w':=by
 simp only[execOp,ag,Sem.run_bind,resolve,Sem.run_pure,Result.andThen_ok,invoke];exact h
theorem adw(aV:dS C.P T){args:Array Operand}{dn:Array TypeId}(bh:∀ i,o.dst=some i->i<C.nt)(ag:o.op=.call { callee:=.builtin .len,args:=args,argTypes:=dn })(h:(bt C.aO T bg (a8 C.aO s.ax) o).run s.ab=some res):cJ C o s res:=by
 obtain⟨args⟩:=args;obtain⟨dn⟩:=dn;simp only[bt,ag,mL,B2]at h;split at h
 ·rename_i x t;simp only[bN,aq.e6,Option.bind_eq_some_iff,aq.bL,Option.some.injEq]at h;obtain⟨⟨c,n⟩,aA,rfl⟩:=h;refine cJ.pure (by grind) bh λa w κ F M bd hc=>?_;obtain⟨E,U⟩:=adu aV M aA hc (cN M x rfl bd) o.type;refine⟨_,w5 ag ?_,gT.2 ⟨rfl,U⟩⟩;simp[builtin,E]
 ·cases h
theorem adx(aV:dS C.P T){args:Array Operand}{dn:Array TypeId}(bh:∀ i,o.dst=some i->i<C.nt)(ag:o.op=.call { callee:=.builtin .cap,args:=args,argTypes:=dn })(h:(B4 T (a8 C.aO s.ax) args.toList dn.toList).run s.ab=some res):cJ C o s res:=by
 obtain⟨args⟩:=args;obtain⟨dn⟩:=dn;simp only[B4]at h;split at h
 ·rename_i x t;split at h
  ·rename_i e cD aK hu;simp only[bN,aq.bL,Option.some.injEq]at h;subst h;refine cJ.pure (by grind) bh λa w κ F M bd hc=>?_;have af:a.eval x=.slice none 0 0:=cN M x hu bd;obtain⟨i,G,_⟩:=(aV.cb aK (by simp)).sl;refine⟨.int .i64 0,w5 ag ?_,gT.2 ⟨rfl,by decide⟩⟩;simp[builtin,Builtin.cap_,af,dC G,goInt]
  ·cases h
 ·cases h
theorem RS{a:Act}{w:World}{κ:Nat->bD}{F:Nat->Prop}(M:bl C s a w κ F){k:IntKind}:∀ (l:List Operand) {b7:Prop} {h7:z1'},mK (a8 C.aO s.ax) k l=some (b7,h7)->b7->l.map a.eval=h7.map (Value.int k)/\∀ n∈h7,fR k n
 | [],_,_,h,_=>by cases h
 | [x],b7,h7,h,bd=>by
  simp only[mK]at h;split at h
  ·rename_i k' n ai;split at h
   ·rename_i an;subst an;cases h;have E:=oo (cN M x rfl bd) ai;exact⟨by simp[E.1],by simpa using E.2⟩
   ·cases h
  ·cases h
 | x::y::l,b7,h7,h,bd=>by
  simp only[mK]at h;split at h
  ·rename_i k' n aw' axa ai ak;split at h
   ·rename_i an;subst an;cases h;have E:=oo (cN M x rfl bd.1) ai;have U:=RS M (y::l) ak bd.2;exact⟨by rw[List.map_cons,U.1,E.1];rfl,λm hm=>by
     rcases List.mem_cons.1 hm with rfl | hm
     ·exact E.2
     ·exact U.2 m hm⟩
   ·cases h
  ·cases h
theorem Kh{k:IntKind}:∀ (h7:z1') (m:Int),fR k m->(∀ n∈h7,fR k n)->((h7.map (Value.int k)).foldlM Builtin.min2 (Value.int k m)=pure (Value.int k (h7.foldl (λa b=>if b<a then b else a) m))/\fR k (h7.foldl (λa b=>if b<a then b else a) m))/\
  ((h7.map (Value.int k)).foldlM Builtin.max2 (Value.int k m)=pure (Value.int k (h7.foldl (λa b=>if b > a then b else a) m))/\fR k (h7.foldl (λa b=>if b > a then b else a) m))
 | [],m,h,_=>⟨⟨rfl,h⟩,rfl,h⟩
 | n::h7,m,h,ak=>by
  have aA:=ak n (by simp);have ak:=λq bq=>ak q (List.mem_cons_of_mem n bq);have E:=(Kh h7 (if n<m then n else m) (by split<;>assumption) ak).1;have U:=(Kh h7 (if n > m then n else m) (by split<;>assumption) ak).2;refine⟨⟨?_,E.2⟩,?_,U.2⟩
  ·simp only[List.map_cons,List.foldlM_cons,List.foldl_cons,Builtin.min2];rw[<-E.1];simp
  ·simp only[List.map_cons,List.foldlM_cons,List.foldl_cons,Builtin.max2];rw[<-U.1];simp
theorem RT{b:Builtin}{f:Int->Int->Int}(aa:(b=.min/\f=λa b=>if b<a then b else a)\/(b=.max/\f=λa b=>if b > a then b else a)){args:Array Operand}{dn:Array TypeId}(bh:∀ i,o.dst=some i->i<C.nt)
  (ag:o.op=.call { callee:=.builtin b,args:=args,argTypes:=dn }) (h:(r4 (a8 C.aO s.ax) f args.toList).run s.ab=some res):cJ C o s res:=by
 obtain⟨args⟩:=args;simp only[r4]at h;split at h
 ·rename_i x y l;split at h
  ·rename_i k m ai;split at h
   ·rename_i b7 h7 ak;simp only[bN,aq.bL,Option.some.injEq]at h;subst h;refine cJ.pure (by grind) bh λa w κ F M bd hc=>?_;have E:=oo (cN M x rfl bd.1) ai;obtain⟨U,ah⟩:=RS M (y::l) ak bd.2;obtain⟨g1,et⟩:=Kh h7 m E.2 ah;have dX:(x::y::l).map a.eval=Value.int k m::h7.map (Value.int k):=by rw[List.map_cons,U,E.1]
    refine⟨.int k (h7.foldl f m),w5 ag ?_,gT.2 ⟨rfl,?_⟩⟩
    ·rcases aa with⟨rfl,rfl⟩ | ⟨rfl,rfl⟩
     ·simp only[builtin,Builtin.min_,List.map_toArray,dX];rw[g1.1];rfl
     ·simp only[builtin,Builtin.max_,List.map_toArray,dX];rw[et.1];rfl
    ·rcases aa with⟨rfl,rfl⟩ | ⟨rfl,rfl⟩
     ·exact g1.2
     ·exact et.2
   ·cases h
  ·cases h
 ·cases h
end
end Go.Fer
namespace Go.Fer
open Go.RowKit
def fh(H:Nat->bK)(x:bK):bK:=match x.body with
 | .bf e xs=>⟨x.gen,.hD e xs⟩
 | .mp k v es=>⟨x.gen,.jh k v es⟩
 | .cells t f=>match (ih t ((List.range t.size).map f)).run H with
  | some (y,_,[])=>⟨x.gen,.gI t y⟩
  | _=>x
 | _=>x
def aB.cB(s:aB)(l:List Nat):aB:=⟨s.ax,λi=>if i∈l then fh s.ab (s.ab i) else s.ab i⟩
theorem RU(H:Nat->bK):∀ (l:List Nat) (s:aB),(∀ i∈l,s.ab i=H i\/s.ab i=fh H (H i))->s.fY ((jG l).run H)=⟨s.ax,λi=>if i∈l then fh H (H i) else s.ab i⟩
 | [],s,_=>by
  rfl
 | b::l,s,h=>by
  simp only[jG,aq.e5,aq.run_bind];have key:∀ (s':aB),s'.ax=s.ax->s'.ab b=fh H (H b)->(∀ i,i≠b->s'.ab i=s.ab i)->s'.fY ((jG l).run H)=⟨s.ax,λi=>if i∈b::l then fh H (H i) else s.ab i⟩:=by
   intro s' ay aN cA;rw[RU H l s']
   ·rw[ay];congr 1;funext i;by_cases G:i=b
    ·subst G;simp only[aN,List.mem_cons,true_or,if_true];split<;>rfl
    ·rw[cA i G];simp[G]
   ·intro i G;by_cases eM:i=b
    ·subst eM;exact .inr aN
    ·rw[cA i eM];exact h i (by simp[G])
  have hF:fh H (H b)=H b->s.fY ((jG l).run H)=⟨s.ax,λi=>if i∈b::l then fh H (H i) else s.ab i⟩:=λe=>
   key s rfl (by grind) λ_ _=>rfl
  have put:∀ x,fh H (H b)=x->s.fY ((b,x)::(jG l).run H)=⟨s.ax,λi=>if i∈b::l then fh H (H i) else s.ab i⟩:=λx e=>by
   simp only[aB.fY];exact key _ rfl (by simp[aB.cx,e]) λi G=>by simp[aB.cx,G]
  cases aa:(H b).body with
  | bf e xs=>exact put _ (by simp[fh,aa])
  | mp k v es=>exact put _ (by simp[fh,aa])
  | cells t f=>
   simp only[aq.run_bind,aq.bL];cases aC:(ih t ((List.range t.size).map f)).run H with
   | none=>exact hF (by simp[fh,aa,aC])
   | some z=>
    obtain⟨y,m,r⟩:=z;cases r with
    | nil=>exact put _ (by simp[fh,aa,aC])
    | cons c r=>exact hF (by simp[fh,aa,aC])
  | _=>exact hF (by simp[fh,aa])
theorem tE(s:aB)(l:List Nat):s.fY ((jG l).run s.ab)=s.cB l:=by
 rw[RU s.ab l s λi _=>.inl rfl];rfl
theorem Cd:∀ (l:List (Nat×bK)) (s:aB) (p:Nat×bK),s.fY (l++[p])=(s.fY l).cx p.1 p.2
 | [],_,_=>rfl
 | q::l,s,p=>by simp only[List.cons_append,aB.fY];exact Cd l _ p
def bP.RV:bP->Bool | .cu _ _ _ _=>true | .gh _ _ _ _=>true | _=>false
def gK(H:Nat->bK)(l:List Nat):Prop:=∀ b∈l,(H b).body.RV=false/\∀ t f,(H b).body=.cells t f->∃ y m,(ih t ((List.range t.size).map f)).run H=some (y,m,[])/\∀ c∈m,c∈l
theorem gK.nil(H:Nat->bK):gK H []:=λb aa=>by cases aa
theorem gK.append{H:Nat->bK}{l m:List Nat}(h:gK H l)(k:gK H m):gK H (l++m):=by
 intro b aa;rcases List.mem_append.1 aa with aa | aa
 ·obtain⟨E,U⟩:=h b aa;grind
 ·obtain⟨E,U⟩:=k b aa;grind
theorem gK.one{H:Nat->bK}{b:Nat}(E:(H b).body.RV=false)(U:(H b).body.fI=false):gK H [b]:=by
 intro c hc;obtain rfl:=List.mem_singleton.1 hc;exact⟨E,λt f e=>by rw[e]at U;cases U⟩
theorem r7{H:Nat->bK}{t:ad}{av:aF}{x:t.aj}{l:List Nat}(h:(dW t av).run H=some (x,l)):gK H l:=by
 cases av with
 | val c1 y=>
  simp only[dW,aq.bL,Option.map_eq_some_iff,Prod.mk.injEq]at h;obtain⟨z,bk,rfl,rfl⟩:=h;exact .nil H
 | cS=>
  cases t<;>simp only[dW,aq.none,aq.bL,reduceCtorEq,Option.some.injEq,Prod.mk.injEq]at h;obtain⟨rfl,rfl⟩:=h;exact .nil H
 | jB u=>
  simp only[dW,aq.bL,Option.map_eq_some_iff,Prod.mk.injEq]at h;obtain⟨z,bk,rfl,rfl⟩:=h;exact .nil H
 | dV c1 y=>
  cases t<;>simp only[dW,aq.none,aq.bL,reduceCtorEq,Option.map_eq_some_iff,Prod.mk.injEq]at h;obtain⟨z,bk,rfl,rfl⟩:=h;exact .nil H
 | own b g=>
  cases t<;>simp only[dW,aq.none,aq.bL,aq.e5,reduceCtorEq]at h;split at h
  ·split at h
   ·rename_i aa;simp only[Option.map_eq_some_iff,Prod.mk.injEq]at h;obtain⟨z,bk,rfl,rfl⟩:=h;exact .one (by rw[aa];rfl) (by rw[aa];rfl)
   ·simp only[Option.map_eq_some_iff,Prod.mk.injEq]at h;obtain⟨z,bk,rfl,rfl⟩:=h;exact .nil H
   grind
  grind
 | sub b g aT G=>
  cases t<;>simp only[dW,aq.none,aq.bL,aq.e5,reduceCtorEq]at h;split at h
  ·split at h
   ·rename_i aa;simp only[Option.map_eq_some_iff,Prod.mk.injEq]at h;obtain⟨z,bk,rfl,rfl⟩:=h;exact .one (by rw[aa];rfl) (by rw[aa];rfl)
   ·simp only[Option.map_eq_some_iff,Prod.mk.injEq]at h;obtain⟨z,bk,rfl,rfl⟩:=h;exact .nil H
   grind
  grind
 | fH b g=>
  cases t<;>simp only[dW,aq.none,aq.bL,aq.e5,reduceCtorEq]at h;split at h
  ·split at h
   ·rename_i aa;simp only[Option.map_eq_some_iff,Prod.mk.injEq]at h;obtain⟨z,bk,rfl,rfl⟩:=h;exact .one (by rw[aa];rfl) (by rw[aa];rfl)
   ·simp only[Option.map_eq_some_iff,Prod.mk.injEq]at h;obtain⟨z,bk,rfl,rfl⟩:=h;exact .nil H
   grind
  grind
 | ix k n c=>
  cases t<;>simp only[dW,aq.none,aq.bL,reduceCtorEq]at h;split at h
  ·cases h;exact .nil H
  ·cases h
 | _=>cases h
theorem RW{H:Nat->bK}{e:ad}(gl:∀ {cs:List aF} {x:e.aj} {l:List Nat} {r:List aF},(ih e cs).run H=some (x,l,r)->gK H l){av:aF}{x:Option e.aj}{l:List Nat}
  (h:(tw e (ih e) av).run H=some (x,l)):gK H l:=by
 have ch:(dW (.bH e) av).run H=some (x,l)->gK H l:=r7 (t:=.bH e);cases av with
 | a7 b g off=>
  simp only[tw,aq.e5]at h;split at h
  ·split at h
   ·simp only[aq.bL,Option.map_eq_some_iff,Prod.mk.injEq]at h;obtain⟨z,bk,rfl,rfl⟩:=h;exact .nil H
   ·rename_i t f aa;split at h
    ·rename_i aK;subst aK;simp only[aq.e6,Option.bind_eq_some_iff,aq.bL]at h;obtain⟨⟨y,m,q⟩,E,U⟩:=h;split at U
     ·rename_i bq;simp only[Option.some.injEq,Prod.mk.injEq]at U;obtain⟨rfl,rfl⟩:=U;have bq:q=[]:=List.isEmpty_iff.1 bq;subst bq;intro c hc;rcases List.mem_cons.1 hc with rfl | hc
      ·refine⟨by rw[aa];rfl,λc1 iB e=>?_⟩;grind
      ·obtain⟨aW,aY⟩:=gl E c hc;grind
     grind
    ·cases h
   ·cases h
  ·cases h
 | _=>exact ch h
theorem RX{H:Nat->bK}:∀ (t:ad) {cs:List aF} {x:t.aj} {l:List Nat} {r:List aF},(ih t cs).run H=some (x,l,r)->gK H l:=by
 have p4:∀ (t:ad) (g:aF->aq (Option (t.aj×List Nat))),(∀ {av:aF} {x:t.aj} {l:List Nat},(g av).run H=some (x,l)->gK H l)->
   ∀ {cs:List aF} {x:t.aj} {l:List Nat} {r:List aF},(match cs with | c::r=>(g c).map λo=>o.map λ(x,l)=>(x,l,r) | []=>.none:aq (Option (t.aj×List Nat×List aF))).run H=some (x,l,r)->gK H l:=by
  intro t g aC cs x l r h;cases cs with
  | nil=>cases h
  | cons c cs=>
   simp only[aq.map,aq.run_bind,aq.bL,Option.map_eq_some_iff,Prod.mk.injEq]at h;grind
 intro t;induction t with
 | bool=>intro cs x l r h;exact p4 .bool (dW .bool) r7 h
 | int k=>intro cs x l r h;exact p4 (.int k) (dW (.int k)) r7 h
 | str=>intro cs x l r h;exact p4 .str (dW .str) r7 h
 | cV=>
  intro cs x l r h;simp only[ih,aq.bL,Option.some.injEq,Prod.mk.injEq]at h;obtain⟨_,rfl,rfl⟩:=h;exact .nil H
 | st t aJ=>intro cs x l r h;exact aJ h
 | az a b fy eL=>
  intro cs x l r h;simp only[ih,aq.e6,Option.bind_eq_some_iff,aq.bL,Option.some.injEq,Prod.mk.injEq]at h;obtain⟨⟨y,m,q⟩,E,⟨z,dx,q'⟩,U,rfl,rfl,rfl⟩:=h;exact (fy E).append (eL U)
 | slice e aJ=>intro cs x l r h;exact p4 (.slice e) (dW (.slice e)) r7 h
 | array n e aJ=>
  intro cs xs l r h;simp only[ih]at h;have key:∀ (n:Nat) {cs:List aF} {xs:List e.aj} {l:List Nat} {r:List aF},(n.rec (motive:=λ_=>List aF->aq (Option (List e.aj×List Nat×List aF))) (λcs=>.ret (some ([],[],cs)))
     (λ_ aJ cs=>(ih e cs).cR λ(x,l,r)=>(aJ r).cR λ(xs,m,q)=>.ret (some (x::xs,l++m,q))) cs).run H=some (xs,l,r)->gK H l:=by
   intro n;induction n with
   | zero=>intro cs xs l r h;cases h;exact .nil H
   | succ n BZ=>
    intro cs xs l r h;simp only[aq.e6,Option.bind_eq_some_iff,aq.bL,Option.some.injEq,Prod.mk.injEq]at h;obtain⟨⟨y,m,q⟩,E,⟨z,dx,q'⟩,U,rfl,rfl,rfl⟩:=h;exact (aJ E).append (BZ U)
  grind
 | bH e aJ=>intro cs x l r h;exact p4 (.bH e) (tw e (ih e)) (RW aJ) h
 | map k v wL wM=>intro cs x l r h;exact p4 (.map k v) (dW (.map k v)) r7 h
 | fn a b fy eL=>intro cs x l r h;exact p4 (.fn a b) (dW (.fn a b)) r7 h
 | cu a aJ=>intro cs x l r h;exact p4 (.cu a) (dW (.cu a)) r7 h
 | eo=>intro cs x l r h;exact p4 .eo (dW .eo) r7 h
theorem mO{H:Nat->bK}{t:ad}{av:aF}{x:t.aj}{l:List Nat}(h:(dz t av).run H=some (x,l)):gK H l:=by
 have ch:(kn t av).run H=some (x,l)->gK H l:=by
  intro h;unfold kn at h;split at h
  ·exact RW (λh=>RX _ h) h
  ·split at h
   ·exact r7 h
   ·cases h
 cases av with
 | val c1 y=>
  simp only[dz,aq.bL,Option.map_eq_some_iff,Prod.mk.injEq]at h;obtain⟨z,bk,rfl,rfl⟩:=h;exact .nil H
 | agg n f=>
  simp only[dz]at h;split at h
  ·cases h
  ·simp only[aq.e6,Option.bind_eq_some_iff,aq.bL]at h;obtain⟨⟨y,m,q⟩,E,U⟩:=h;split at U
   ·simp only[Option.some.injEq,Prod.mk.injEq]at U;obtain⟨rfl,rfl⟩:=U;exact RX t E
   grind
 | _=>exact ch h
theorem zg(H:Nat->bK)(x:bK):fh H x=x\/(∃ e xs,x.body=.bf e xs/\fh H x=⟨x.gen,.hD e xs⟩)\/(∃ k v es,x.body=.mp k v es/\fh H x=⟨x.gen,.jh k v es⟩)\/
  ∃ t f y m,x.body=.cells t f/\(ih t ((List.range t.size).map f)).run H=some (y,m,[])/\fh H x=⟨x.gen,.gI t y⟩:=by
 cases ai:x.body with
 | bf e xs=>exact .inr (.inl ⟨e,xs,rfl,by simp[fh,ai]⟩)
 | mp k v es=>exact .inr (.inr (.inl ⟨k,v,es,rfl,by simp[fh,ai]⟩))
 | cells t f=>
  cases aC:(ih t ((List.range t.size).map f)).run H with
  | none=>exact .inl (by simp[fh,ai,aC])
  | some z=>
   obtain⟨y,m,r⟩:=z;cases r with
   | nil=>exact .inr (.inr (.inr ⟨t,f,y,m,rfl,aC,by simp[fh,ai,aC]⟩))
   | cons c r=>exact .inl (by simp[fh,ai,aC])
 | _=>exact .inl (by simp[fh,ai])
theorem ady{H:Nat->bK}{x:bK}{k:bD}(h:(fh H x).body.b1 k=true):(x.body.b1 k=true/\fh H x=x):=by
 rcases zg H x with e | ⟨_,_,_,e⟩ | ⟨_,_,_,_,e⟩ | ⟨_,_,_,_,_,_,e⟩
 ·grind
 all_goals rw[e]at h;cases h
theorem RY(s:aB)(l:List Nat)(κ:Nat->bD):fo s.ab κ (s.cB l).ab κ:=by
 rw[BT];intro b;simp only[aB.cB];split
 ·rcases zg s.ab (s.ab b) with e | ⟨_,_,ai,e⟩ | ⟨_,_,_,ai,e⟩ | ⟨_,_,_,_,ai,_,e⟩
  ·rw[e];exact p1.refl _ _
  ·rw[e];exact⟨Nat.le_refl _,λ_=>⟨λh=>(by cases h),λ_=>⟨by rw[ai];rfl,rfl,by rw[ai];rfl,by rw[ai];rfl⟩,λh=>(by cases h),λh=>(by cases h)⟩⟩
  ·rw[e];exact⟨Nat.le_refl _,λ_=>⟨λh=>(by cases h),λh=>(by cases h),λ_=>⟨by rw[ai];rfl,rfl⟩,λh=>(by cases h)⟩⟩
  ·rw[e];exact⟨Nat.le_refl _,λ_=>⟨λ_=>⟨by rw[ai];rfl,rfl⟩,λh=>(by cases h),λh=>(by cases h),λh=>(by cases h)⟩⟩
 ·exact p1.refl _ _
theorem bl.k_{C:b_}{a:Act}{w:World}{κ:Nat->bD}{l:List Nat}{s:aB}{F:Nat->Prop}(lL:gK s.ab l)(h:bl C s a w κ F) :
  ∃ F',(∀ r,F r->F' r)/\bl C (s.cB l) a w κ F'/\iU s.ab κ F' l:=by
 let F':Nat->Prop:=λr=>F r\/∃ b∈l,(s.ab b).body.b1 (κ b)=true/\(κ b).ab=r;have bn:∀ r,F r->F' r:=λr M=>.inl M;have tF:iU s.ab κ F' l:=λb aa ag=>.inr ⟨b,aa,ag,rfl⟩;have Ki:∀ b,((s.cB l).ab b).body.b1 (κ b)=true->b ∉ l/\(s.ab b).body.b1 (κ b)=true:=by
  intro b aa;simp only[aB.cB]at aa;by_cases iC:b∈l
  ·rw[if_pos iC]at aa;obtain⟨aW,aY⟩:=ady aa;exfalso;obtain⟨bF,c2⟩:=lL b iC;cases ai:(s.ab b).body with
   | bf e xs=>simp[fh,ai,bP.b1]at aa
   | mp k v es=>simp[fh,ai,bP.b1]at aa
   | cells t f=>
    obtain⟨y,m,g,_⟩:=c2 t f ai;simp[fh,ai,g,bP.b1]at aa
   | cu k v c r=>rw[ai]at bF;cases bF
   | gh e xs i v=>rw[ai]at bF;cases bF
   | _=>rw[ai]at aW;cases aW
  grind
 have ak:=RY s l κ;refine⟨F',bn,?_,tF⟩;refine h.move ak bn (λr M=>M.imp id λ⟨b,_,E,U⟩=>.inl ⟨b,E,U⟩) (Nat.le_refl _) (λ_ _ _=>rfl) (df.refl _) (λ_ b=>?_) (λb aa=>?_) (λb be aa cW e=>h.inj b be (Ki b aa).2 (Ki be cW).2 e) (λr M=>?_) (λb _ aa=>⟨rfl,?_⟩)
 ·show cE C.P (s.cB l).ab κ F' w b;by_cases iC:b∈l
  ·have aU:=h.bE b;have Kj:(s.cB l).ab b=fh s.ab (s.ab b):=by simp[aB.cB,iC]
   have k6:fh s.ab (s.ab b)=s.ab b->cE C.P (s.cB l).ab κ F' w b:=λe=>cE.k6 aU ak bn (c8.refl _ _) (by grind) rfl λ_=>rfl;cases ai:(s.ab b).body with
   | bf e xs=>
    unfold cE at aU ⊢;rw[ai]at aU;rw[Kj];simp only[fh,ai,jC];exact J0 aU bn λaA=>tF b iC (by rw[ai];simp[bP.b1,aA])
   | mp k v es=>
    unfold cE at aU ⊢;rw[ai]at aU;rw[Kj];simp only[fh,ai,jC];exact Rr aU bn (tF b iC (by rw[ai];rfl))
   | cells t f=>
    obtain⟨y,m,g,hm⟩:=(lL b iC).2 t f ai;unfold cE at aU ⊢;rw[ai]at aU;rw[Kj];simp only[fh,ai,g,jC];obtain⟨cs,T,aW,aY,bO⟩:=aU;have iz:ew C.P s.ab κ F w ((List.range t.size).map f) cs.toList:=BY (by omega) λi G=>by
     simp_all
    obtain⟨c,d,J2,bF,c2⟩:=J3 h.bE bn t g (λc hc=>tF c (hm c hc)) iz;cases d with
    | cons _ _=>exact c2.elim
    | nil=>
     rw[List.append_nil]at J2;refine⟨c,⟨tF b iC (by rw[ai];rfl),rfl,λj aG=>?_⟩,bF⟩;have fS:j<cs.size:=by grind
     simp only[World.cell?,aW,Nat.zero_add,Option.isSome_none,Bool.false_eq_true,if_false,Array.getElem?_eq_getElem fS];grind
   | _=>exact k6 (by simp[fh,ai])
  ·exact cE.k6 (h.bE b) ak bn (c8.refl _ _) (by simp[aB.cB,iC]) rfl λ_=>rfl
 ·obtain⟨aW,aY⟩:=Ki b aa;have ag:=h.own b aY;refine⟨ag.1,λar=>?_,.inl ⟨b,aY,rfl⟩⟩;rcases ar with ar | ⟨b0,m1,m2,m3⟩
  ·grind
  ·exact aW (h.inj b b0 aY m2 m3.symm ▸ m1)
 ·rcases M with M | ⟨b,_,aa,rfl⟩
  ·exact h.dd r M
  ·exact (h.own b aa).1
 ·split at aa
  ·rcases zg s.ab (s.ab b) with e | ⟨_,_,ai,e⟩ | ⟨_,_,_,ai,e⟩ | ⟨_,_,_,_,ai,_,e⟩
   ·grind
   ·rw[e]at aa;simp[bP.fI,bP.gV]at aa
   ·rw[ai];exact .inr rfl
   ·rw[ai];exact .inl rfl
  omega
section
variable {C:b_} {T:Nat->ad} {bg:Nat->Option aP} {o:Oper} {s:aB} {res:eC}
theorem bl.gL{a:Act}{w:World}{κ:Nat->bD}{F:Nat->Prop}(h:bl C s a w κ F){b:Nat}(aa:b<C.nt):b<eQ:=Nat.lt_of_lt_of_le aa h.gi
theorem bl.newVar{a:Act}{w:World}{κ:Nat->bD}{F:Nat->Prop}(h:bl C s a w κ F){b:Nat}(BW:b<eQ){t:ad}{l:List aF}{cs:List Value}{ty:TypeId}(ak:ew C.P s.ab κ F w l cs)(aK:l.length=t.size) :
  ∃ κ',bl C (s.cx b ⟨(s.ab b).gen+1,.cells t (hh l)⟩) a (w.alloc (.cells cs.toArray ty)) κ' F/\(κ' b).ab=w.heap.size:=by
 refine⟨_,h.alloc (k:=⟨w.heap.size,0,0,false⟩) BW (Nat.lt_succ_self _) rfl λH κ' mP BV cc=>?_,by simp⟩;refine⟨cs.toArray,ty,p2 _ _,by simp[<-ak.len,aK],λi G=>?_⟩;have:=ak.kL i (by omega);have e:cs.toArray.getD i Go.undef=cs.getD i Go.undef:=by simp
 rw[e];exact⟨bu.later cc (λ_ M=>M) (c8.alloc h.dd _) this.1,this.2⟩
theorem Ce(t:ad){P:Program}{z:Value}(h:j4 t z.cells.toList=some []):(r1 t).length=t.size/\z.cells.size=t.size:=by
 obtain⟨c,e,E,U⟩:=u4 (P:=P) (H:=λ_=>⟨0,.fz⟩) (κ:=λ_=>⟨0,0,0,true⟩) (F:=λ_=>True) (w:=default) t h;rw[List.append_nil]at e;have:=hR t E;have:=U.len;grind
theorem adz(aV:dS C.P T){ty:TypeId}(bh:∀ i,o.dst=some i->i<C.nt)(ag:o.op=.alloc ty)(h:(bt C.aO T bg (a8 C.aO s.ax) o).run s.ab=some res)(p7:T ty≠.cV):cJ C o s res:=by
 simp only[bt,ag]at h;obtain⟨b,aw,an⟩:=qX h;simp only[if_neg p7,Option.some.injEq]at an;subst an;intro a w κ F Q M _ _;have dp:=aV.cb rfl p7;obtain⟨i,z,E,U,ah,aZ,bM,dt⟩:=kp dp.ko;obtain⟨c,e,ot,z2⟩:=u4 (P:=C.P) (H:=s.ab) (κ:=κ) (F:=F) (w:=w) (T ty) bM;rw[List.append_nil]at e;have bk:=Ce (T ty) (P:=C.P) bM;obtain⟨κ',cj,cK⟩:=M.newVar (b:=b) (M.gL (bh b aw)) (t:=T ty) (ty:=ty) z2 bk.1;have c_:(execOp a.eval o).run C.P w=.ok (.value (.pointer (some ⟨w.heap.size,0,none⟩))) (w.alloc (.cells c.toArray ty)):=by
  have zh:z.cells=c.toArray:=by grind
  simp[execOp,ag,Instr.alloc,qV E aZ,newVar,newRow,zh]
 refine hx (by grind) c_ ⟨κ',F,bl.set (s:=s.cx b _) cj bh ⟨⟨?_,rfl⟩,λ_ _=>?_⟩⟩
 ·simp[aB.cx]
 grind
theorem Kk{P:Program}{H:Nat->bK}{κ:Nat->bD}{F:Nat->Prop}{w:World}{t:ad}{av:aF}{v:Value}{l:List aF}(h:cellsOf t av=some l)(af:bu P H κ F w av v):ew P H κ F w l v.cells.toList:=by
 unfold cellsOf at h;split at h
 ·rename_i c1 x;split at h
  ·rename_i he;subst he;simp only[Option.some.injEq]at h;subst h;obtain⟨⟨cs,rfl,_⟩,hc⟩:=af;simp only[bJ]at hc;exact y5 _ hc
  grind
 ·rename_i n f;split at h
  ·simp only[Option.some.injEq]at h;subst h;obtain⟨aE,rfl,E,U⟩:=af;exact BY E U
  grind
 ·rename_i n e iW a1 x;split at h
  ·simp only[Option.some.injEq]at h;subst h;obtain⟨⟨cs,rfl,_⟩,hc⟩:=af;exact y5 _ hc
  grind
 ·rename_i n e m f;split at h
  ·simp only[Option.some.injEq]at h;subst h;obtain⟨aE,rfl,E,U⟩:=af;exact BY E U
  grind
 ·split at h
  ·have one:v.oneCell'=true->l=[av]->ew P H κ F w l v.cells.toList:=by
    intro E U;subst U;rw[Ff E];exact⟨⟨af,E⟩,trivial⟩
   split at h
   ·rename_i c1 x;split at h
    ·rename_i ze;obtain⟨aW,aY⟩:=(dT ze).1 af;exact one (JX ze aY) (Option.some.inj h).symm
    grind
   ·exact one af.1.2 (Option.some.inj h).symm
   ·exact one af.1.2 (Option.some.inj h).symm
   ·exact one af.1.2 (Option.some.inj h).symm
   ·refine one ?_ (Option.some.inj h).symm;obtain⟨p,bj,rfl,_⟩:=af;rfl
   ·exact one af.1.2 (Option.some.inj h).symm
   ·refine one ?_ (Option.some.inj h).symm;obtain⟨aE,rfl,_⟩:=af;rfl
   ·refine one ?_ (Option.some.inj h).symm;simp only[bu]at af;subst af;rfl
   ·exact one af.1.2 (Option.some.inj h).symm
   ·cases h
   ·cases h
   ·refine one ?_ (Option.some.inj h).symm;simp only[bu]at af;subst af;cases v<;>first | rfl | grind | grind | grind | grind
   grind
  grind
end
end Go.Fer
namespace Go.Fer
open Go.RowKit
theorem FD:∀ (l:List Value) (k off:Nat) (cs:Array Value),off+k+l.length<=cs.size->
  ((l.zipIdx k).foldl (λ(cs:Array Value) (p:Value×Nat)=>cs.setIfInBounds (off+p.2) p.1) cs).toList=cs.toList.take (off+k)++(l++cs.toList.drop (off+k+l.length))
 | [],k,off,cs,h=>by simp
 | c::l,k,off,cs,h=>by
  simp only[List.zipIdx_cons,List.foldl_cons];have cd:(cs.setIfInBounds (off+k) c).size=cs.size:=by simp
  rw[FD l (k+1) off _ (by grind)];simp only[Array.toList_setIfInBounds,List.length_cons]at h ⊢;have cc:off+k<cs.toList.length:=by grind
  rw[show off+(k+1)=(off+k)+1 from by omega];rw[List.take_set,List.drop_set];rw[if_pos (by omega)];have E:(cs.toList.take (off+k+1)).set (off+k) c=cs.toList.take (off+k)++[c]:=by
   rw[List.take_succ_eq_append_getElem cc,List.set_append_right _ _ (by grind)];have Cf:min (off+k) cs.size=off+k:=Nat.min_eq_left (by omega);simp[Cf]
  grind
section
variable {P:Program} {w:World}
theorem adA(w:World)(b off:Nat)(v:Value){cs:Array Value}{T:TypeId}{fh:Nat×Nat}(h:w.heap[b]?=some (.cells cs T fh)) :
  (w.setCell ⟨b,off,none⟩ v).heap[b]?=some (.cells (cs.setIfInBounds off v) T fh):=by
 simp[World.setCell,Array.getElem?_modify,h]
theorem u'{b:Nat}{T:TypeId}:∀ (aE:List Value) (off i:Nat) (w:World) (cs:Array Value),w.heap[b]?=some (.cells cs T (0,0))->off+i+aE.length<=cs.size->(∀ v∈aE,v.oneCell'=true)->
  ∃ w' di,(storeCells ⟨b,off,none⟩ aE i).run P w=.ok () w'/\w'.heap[b]?=some (.cells di T (0,0))/\di.toList=cs.toList.take (off+i)++(aE++cs.toList.drop (off+i+aE.length))/\
   (∀ r,r≠b->w'.heap[r]?=w.heap[r]?)/\w'.heap.size=w.heap.size/\df w w'
 | [],off,i,w,cs,h,_,_=>⟨w,cs,by rfl,h,by simp,λ_ _=>rfl,rfl,df.refl w⟩
 | v::aE,off,i,w,cs,h,ak,af=>by
  have cc:off+i<cs.size:=by grind
  have hc:w.cell? ⟨b,off+i,none⟩=some cs[off+i]:=by rw[u_ h];simp
  have ar:w.frozen? ⟨b,off+i,none⟩=false:=by simp[World.frozen?,h]
  have E:=adA w b (off+i) v h;obtain⟨w',di,cj,cK,eu,lM,lN,mh⟩:=u' aE off (i+1) (w.setCell ⟨b,off+i,none⟩ v) _ E (by grind) (λu hu=>af u (by grind));refine⟨w',di,?_,cK,?_,?_,by simp_all,df.trans (b:=w.setCell ⟨b,off+i,none⟩ v) ⟨rfl,rfl,rfl⟩ mh⟩
  ·simp only[storeCells,Sem.run_bind,u7,run_store P w _ v _ (af v (by simp)),hc,ar,Bool.false_eq_true,if_false,Result.andThen_ok];exact cj
  ·rw[eu];have:=FD [v] 0 (off+i) cs (by grind);simp only[List.zipIdx_cons,List.zipIdx_nil,List.foldl_cons,List.foldl_nil,Nat.add_zero,List.length_singleton]at this;rw[this];have ay:(cs.toList.take (off+i)).length=off+i:=by grind
   rw[List.take_append,List.drop_append,ay];simp only[show off+(i+1) - (off+i)=1 from by omega,show off+(i+1)+aE.length - (off+i)=aE.length+1 from by omega];have aN:List.take (off+(i+1)) (cs.toList.take (off+i))=cs.toList.take (off+i):=List.take_of_length_le (by omega);have cA:List.drop (off+(i+1)+aE.length) (cs.toList.take (off+i))=[]:=List.drop_of_length_le (by omega);rw[aN,cA];simp only[List.length_cons,List.nil_append,List.append_assoc,List.cons_append];simp only[List.take_succ_cons,List.take_zero,List.drop_succ_cons,List.drop_drop,List.cons_append,List.nil_append];grind
  ·intro r M;rw[lM r M];exact Below.heap_setCell _ _ _ _ (by omega)
end
section
variable {C:b_} {T:Nat->ad} {bg:Nat->Option aP} {o:Oper} {s:aB} {res:eC}
theorem adB{ty:TypeId}{x:Operand}(bh:∀ i,o.dst=some i->i<C.nt)(ag:o.op=.box ty x)(h:(bt C.aO T bg (a8 C.aO s.ax) o).run s.ab=some res):cJ C o s res:=by
 simp only[bt,ag]at h;split at h
 ·rename_i l ak;obtain⟨b,aw,an⟩:=qX h;split at an;case isFalse=>cases an
  rename_i hlen;simp only[Option.some.injEq]at an;subst an;intro a w κ F Q M bd _;have af:=cN M x rfl bd;obtain⟨κ',cj,cK⟩:=M.newVar (b:=b) (M.gL (bh b aw)) (t:=T ty) (ty:=ty) (Kk ak af) hlen;have c_:(execOp a.eval o).run C.P w=.ok (.value (.pointer (some ⟨w.heap.size,0,none⟩))) (w.alloc (.cells (a.eval x).cells.toList.toArray ty)):=by
   simp[execOp,ag,Instr.box,newVar,newRow]
  refine hx (by grind) c_ ⟨κ',F,bl.set (s:=s.cx b _) cj bh ⟨⟨?_,rfl⟩,λ_ _=>?_⟩⟩
  ·simp[aB.cx]
  grind
 ·cases h
theorem adC{P:Program}:∀ (t:ad) {l:List Field} {off:Nat},cF P t (.inr (l,off))=true->∀ f∈l,∃ s,b' P s f.type:=by
 intro t;induction t with
 | az a b fy eL=>
  intro l off h;match l,h with
  | [],h=>simp
  | [x],h=>simp only[cF,Bool.false_eq_true]at h
  | [x,y],h=>
   simp only[cF,Bool.and_eq_true]at h;intro f ar;simp only[List.mem_cons,List.not_mem_nil,or_false]at ar;rcases ar with rfl | rfl
   ·exact⟨a,h.1.1.1.2⟩
   ·exact⟨b,h.2.1.1.2⟩
  | x::y::z::l,h=>
   simp only[cF,Bool.and_eq_true]at h;intro f ar;rcases List.mem_cons.1 ar with rfl | ar
   ·exact⟨a,h.1.1.1.2⟩
   grind
 | _=>intro l off h;simp only[cF,Bool.false_eq_true]at h
theorem b'.adD{P:Program}{t:ad}{id:TypeId}(h:b' P (.st t) id){eT:Array Field}(jj:P.underlying id=some (.struct eT)):∀ f∈eT.toList,∃ s,b' P s f.type:=by
 obtain⟨_,_,ah,aZ⟩:=h.B9;rw[jj]at aZ;simp only[Option.some.injEq,TypeDesc.struct.injEq]at aZ;rw[<-aZ]at ah;rcases ah with ah | ⟨f,e,_,ah,_⟩ | ⟨_,e⟩
 ·exact adC t ah
 ·rw[e];intro g aC;simp only[List.mem_singleton]at aC;subst aC;exact⟨t,ah⟩
 ·rw[e];intro g aC;cases aC
theorem ew.replace{P:Program}{H:Nat->bK}{κ:Nat->bD}{F:Nat->Prop}{w:World}{as l:List aF}{us aE:List Value}(h:ew P H κ F w as us)(k:ew P H κ F w l aE)(off:Nat) :
  ew P H κ F w (as.take off++(l++as.drop (off+l.length))) (us.take off++(aE++us.drop (off+aE.length))):=by
 have Cg:∀ {as:List aF} {us:List Value} (n:Nat),ew P H κ F w as us->ew P H κ F w (as.take n) (us.take n):=by
  intro as;induction as with
  | nil=>intro us n h;cases us<;>first | exact h.elim | grind
  | cons a as aJ=>intro us n h;cases us with
   | nil=>exact h.elim
   | cons u us=>cases n with
    | zero=>trivial
    | succ n=>exact⟨h.1,aJ n h.2⟩
 have adE:∀ {as:List aF} {us:List Value} (n:Nat),ew P H κ F w as us->ew P H κ F w (as.drop n) (us.drop n):=by
  intro as;induction as with
  | nil=>intro us n h;cases us<;>first | exact h.elim | grind
  | cons a as aJ=>intro us n h;cases us with
   | nil=>exact h.elim
   | cons u us=>cases n with
    | zero=>exact h
    | succ n=>exact aJ n h.2
 rw[<-k.len];exact (Cg off h).append (k.append (adE _ h))
theorem RZ{P:Program}{H:Nat->bK}{κ:Nat->bD}{F:Nat->Prop}{w:World}{t:ad}{id:TypeId}{eT:Array Field}(dp:b' P (.st t) id)(jj:P.underlying id=some (.struct eT)){place:Nat->Option (Nat×Nat)}
  (r8:∀ i f s,eT[i]?=some f->b' P s f.type->place i=some (f.offset,s.size)):∀ (ps:List (Nat×aF)) (qs:List (Nat×Value)) {as FE:List aF} {cs:Array Value},ew P H κ F w as cs.toList->Fp t as ps=some FE->
  ps.length=qs.length->(∀ i (h:i<ps.length) (de:i<qs.length),ps[i].1=qs[i].1/\bu P H κ F w ps[i].2 qs[i].2)->∃ di,Instr.fill place cs qs=some di/\ew P H κ F w FE di.toList
 | [],[],as,FE,cs,bb,ar,_,_=>by cases ar;exact⟨cs,rfl,bb⟩
 | (i,av)::ps,(k9,v)::qs,as,FE,cs,bb,ar,hlen,fG=>by
  have aX:=fG 0 (by simp) (by simp);simp only[List.getElem_cons_zero]at aX;obtain⟨rfl,af⟩:=aX;simp only[Fp]at ar;split at ar
  ·cases ar
  ·rename_i s off tG;split at ar
   ·cases ar
   ·rename_i l ak;split at ar
    ·rename_i hc;obtain⟨axb,nI,f1,f2,f3,f4,f5⟩:=dp.field tG;rw[jj]at f1;simp only[Option.some.injEq,TypeDesc.struct.injEq]at f1;subst f1;have ao:=r8 i nI s f2 f4;rw[f3]at ao;have iz:=Kk ak af;have cd:v.cells.size=s.size:=by have:=iz.len;grind
     have nJ:as.length=cs.size:=by simpa using bb.len
     have FF:=FD v.cells.toList 0 off cs (by grind);have e:(v.cells.zipIdx.foldl (λ(cs:Array Value) (p:Value×Nat)=>cs.setIfInBounds (off+p.2) p.1) cs)=((v.cells.toList.zipIdx 0).foldl (λ(cs:Array Value) (p:Value×Nat)=>cs.setIfInBounds (off+p.2) p.1) cs):=by
      rw[<-Array.foldl_toList];simp
     have adF:=bb.replace iz off;rw[hc.1]at adF;obtain⟨di,aW,aY⟩:=RZ dp jj r8 ps qs (cs:=v.cells.zipIdx.foldl (λ(cs:Array Value) (p:Value×Nat)=>cs.setIfInBounds (off+p.2) p.1) cs) (by rw[e,FF];omega) ar (by grind)
      (λj h de=>by have:=fG (j+1) (by grind) (by grind);grind)
     refine⟨di,?_,aY⟩;simp only[Instr.fill,ao];grind
    grind
 | [],_::_,_,_,_,_,_,hlen,_=>by grind
 | _::_,[],_,_,_,_,_,hlen,_=>by grind
theorem R0:∀ {l:List (Nat×aF)},r3 l->∀ i (h:i<l.length),(use l[i].2).1
 | a::l,h,0,_=>by
  obtain⟨n,a⟩:=a;cases a<;>first | trivial | exact h.1
 | a::l,h,i+1,G=>by
  have de:r3 l:=by obtain⟨n,a⟩:=a;cases a<;>first | exact h | exact h.2
  have:=R0 de i (by grind);grind
theorem Kl{a:Act}{w:World}{κ:Nat->bD}{F:Nat->Prop}(M:bl C s a w κ F)(ps:List (Nat×Operand))(bd:r3 (ps.map λp=>(p.1,a8 C.aO s.ax p.2))) :
  ∀ i (h:i<(iA (ps.map λp=>(p.1,a8 C.aO s.ax p.2))).length) (de:i<(ps.map λp=>(p.1,a.eval p.2)).length),(iA (ps.map λp=>(p.1,a8 C.aO s.ax p.2)))[i].1=(ps.map λp=>(p.1,a.eval p.2))[i].1/\bu C.P s.ab κ F w (iA (ps.map λp=>(p.1,a8 C.aO s.ax p.2)))[i].2 (ps.map λp=>(p.1,a.eval p.2))[i].2:=by
 intro i h de;have G:i<ps.length:=by grind
 have E:=R0 bd i (by grind);simp only[List.getElem_map]at E;refine⟨by simp[iA],?_⟩;simp only[iA,List.getElem_map];exact o8 (j7 M _) E
theorem adG(aV:dS C.P T){ty:TypeId}{ps:Array (Nat×Operand)}(bh:∀ i,o.dst=some i->i<C.nt)(ag:o.op=.build ty ps)(FG:∀ m e,T ty≠.array m e)(h:(bt C.aO T bg (a8 C.aO s.ax) o).run s.ab=some res):cJ C o s res:=by
 obtain⟨ps⟩:=ps;simp only[bt,ag]at h;split at h
 ·rename_i t aK;have dp:=aV.cb aK (by simp);split at h
  ·rename_i cs nJ;simp only[bN,aq.bL,Option.some.injEq]at h;subst h;refine cJ.pure (by grind) bh λa w κ F M bd _=>?_;obtain⟨eT,jj⟩:=dp.st;obtain⟨i,z,E,U,ah,aZ,bM,dt⟩:=kp dp.ko;obtain⟨c,e,ot,z2⟩:=u4 (P:=C.P) (H:=s.ab) (κ:=κ) (F:=F) (w:=w) (.st t) bM;rw[List.append_nil]at e;have adH:=dp.adD jj;have hm:=ChangeMaps.mapM_total (f:=λ(f:Field)=>(C.P.info? f.type).map λi=>(f.offset,i.size)) (0,0) (l:=eT.toList) (λf ar=>by
    obtain⟨s',r9⟩:=adH f ar;obtain⟨k9,_,zi,_⟩:=kp r9.ko;simp_all)
   have r8:=run_places (P:=C.P) w eT.toList _ hm;obtain⟨di,aW,aY⟩:=RZ (w:=w) dp jj (place:=λj=>((eT.toList.map λf=>((C.P.info? f.type).map λi=>(f.offset,i.size)).getD (0,0)))[j]?)
    (λj f s' aG r9=>by
     obtain⟨k9,_,zi,w6,_⟩:=kp r9.ko;grind)
    _ _ (by rw[e];exact z2) nJ (by simp[iA]) (Kl M ps bd)
   have hlen:cs.length=di.size:=by simpa using aY.len
   refine⟨.agg di,?_,di.toList,by simp,by grind,λj aG=>?_⟩
   ·have Km:(eT.mapM λf=>do pure (f.offset,<-sizeOf f.type):Sem (Array (Nat×Nat))).run C.P w=.ok (eT.toList.map λf=>((C.P.info? f.type).map λi=>(f.offset,i.size)).getD (0,0)).toArray w:=by
     rw[Array.mapM_eq_mapM_toList];simp[r8]
    simp only[execOp,ag,Instr.build,Sem.run_bind,qV E aZ,Result.andThen_ok,dC jj,Km];simp_all
   ·have:=aY.kL j aG;omega
  ·cases h
 ·rename_i aK;exact absurd aK (FG _ _)
 ·cases h
end
end Go.Fer
namespace Go.Fer
open Go.RowKit
section
variable {C:b_} {T:Nat->ad} {bg:Nat->Option aP} {o:Oper} {s:aB} {res:eC}
theorem Kn{P:Program}{w w':World}{t:ad}{id:TypeId}(h:b' P t id){p:Addr}{v:Value}(cd:v.cells.size=t.size)(aD:(storeCells p v.cells.toList).run P w=.ok () w'):(storeVar id p v).run P w=.ok () w':=by
 simp[storeVar,h.size,cd,aD]
theorem adI(aV:dS C.P T){ty:TypeId}{x y:Operand}(bh:o.dst=none)(ag:o.op=.store ty x y)(h:(bt C.aO T bg (a8 C.aO s.ax) o).run s.ab=some res):cJ C o s res:=by
 simp only[bt,ag]at h;split at h
 ·rename_i cD b g i ai;unfold J7 at h;split at h
  ·rename_i be g' aS;simp only[aq.e5,aq.bL]at h;split at h
   ·rename_i e xs k9 v bS;split at h
    ·rename_i hc;obtain⟨aC,ak⟩:=hc;simp only[Option.some.injEq]at h;subst h;intro a w κ F Q M bd G;have G:i=k9:=G;subst G;have E:=(cN M x ai bd.1).2 aC.symm (by rw[bS];rfl);have af:=cN M y (av:=.own be g') (p:=(use (a8 C.aO s.ax y)).1) (by rw[<-aS]) bd.2;have aU:=M.bE b;unfold cE at aU;rw[bS]at aU E;obtain⟨aX,cs,hW,bF,c2,c3,c4,c5,lK,oq,w2⟩:=aU;have dp:=aV.cb (t:=T ty) rfl (by intro e;rw[e]at ak;cases ak);have tD:=Ff af.1.2;have cd:(a.eval y).cells.size=(T ty).size:=by
      rw[tD];cases aK:T ty<;>simp_all[ad.eG,ad.size]
     have la:(κ b).off+i<cs.size:=by
      have:i<(κ b).cap:=by omega
      rw[c5.1]at c2;omega
     have ao:a.eval x=.pointer (some ⟨(κ b).ab,(κ b).off+i,none⟩):=by rw[E.2.2];simp[bP.e4,c5.1]
     obtain⟨w',di,cj,cK,eu,lM,lN,mh⟩:=u' (P:=C.P) (a.eval y).cells.toList ((κ b).off+i) 0 w cs bF (by rw[tD];simp;omega) (λu hu=>by rw[tD]at hu;simp at hu;rw[hu];exact af.1.2);refine Fz (w':=w') (by grind) (by simp[execOp,ag,ao,Instr.storeAt,Instr.sureAddr,Kn dp cd cj]) ?_;rw[bh];refine⟨κ,F,?_⟩;have gn:fo s.ab κ (λq=>if q=b then (⟨(s.ab b).gen,.gh e xs i (.own be g')⟩:bK) else s.ab q) κ:=
      qP rfl (λh=>by cases h) (λ_=>by rw[bS];exact⟨rfl,rfl,rfl⟩) (λh=>by cases h) (λh=>by cases h)
     refine (M.o6 (b:=b) (x:=⟨(s.ab b).gen,.gh e xs i (.own be g')⟩) (by rw[bS];simp[bP.b1,aX]) (by simp[bP.b1,aX]) gn (λh=>by cases h) (λh=>by cases h) lM lN mh λH mP cc he=>?_);rw[tD]at eu;simp only[Nat.add_zero]at eu;have eU:∀ k,di[k]?=if k=(κ b).off+i then some (a.eval y) else cs[k]?:=by
      intro k;rw[<-Array.getElem?_toList,eu];have kN:(cs.toList.take ((κ b).off+i)).length=(κ b).off+i:=by rw[List.length_take,Array.length_toList];omega
      rcases Nat.lt_trichotomy k ((κ b).off+i) with an | an | an
      ·rw[if_neg (by omega),List.getElem?_append_left (by omega),List.getElem?_take_of_lt an,Array.getElem?_toList]
      ·rw[if_pos an,List.getElem?_append_right (by omega),kN,an];simp
      ·rw[if_neg (by omega),List.getElem?_append_right (by omega),kN,List.getElem?_append_right (by simp;omega),List.getElem?_drop];simp only[List.length_cons,List.length_nil];rw[show (κ b).off+i+(0+1)+(k - ((κ b).off+i) - (0+1))=k from by omega,Array.getElem?_toList]
     have FH:di.size=cs.size:=by
      rw[<-Array.length_toList,eu];grind
     have zj:di.getD ((κ b).off+i) Go.undef=a.eval y:=by
      rw[Array.getD_eq_getD_getElem?,eU];simp
     refine⟨aX,di,hW,cK,by omega,c3,c4,c5,λj aG qN=>?_,by rw[zj];exact bu.later cc (λ_ M=>M) he af,by rw[zj];exact af.1.2⟩;obtain⟨bj,d1,d2⟩:=lK j aG qN;refine⟨bj,λq bq=>?_,fe e (λ_ M=>M) he d2⟩;have tH:q=0:=by have:=hR e d2;omega
     subst tH;rw[eU,if_neg (by rw[c5.1];omega)];exact d1 0 bq
    ·cases h
   ·cases h
  ·cases h
 rename_i cD dZ adJ ai;simp only[aq.e6,Option.bind_eq_some_iff,aq.bL,Option.some.injEq]at h;obtain⟨wl,lO,rfl⟩:=h;have Ko:cD=(use (a8 C.aO s.ax x)).1:=by rw[ai]
 have FI:dZ=(use (a8 C.aO s.ax x)).2:=by rw[ai]
 subst Ko;subst FI;clear ai adJ;intro a w κ F Q M bd _;have ao:bu C.P s.ab κ F w (use (a8 C.aO s.ax x)).2 (a.eval x):=cN M x rfl bd.1;have af:bu C.P s.ab κ F w (use (a8 C.aO s.ax y)).2 (a.eval y):=cN M y rfl bd.2;generalize (use (a8 C.aO s.ax x)).2=adK at *
 generalize (use (a8 C.aO s.ax y)).2=kr at *
 have aw:∀ c,o.op≠.defer c:=by grind
 have fin:∀ w',(Instr.storeAt ty (a.eval x) (a.eval y)).run C.P w=.ok () w'->cr C (s.fY wl) a w'->o.wpIn (dR C.r) 0 C.P a w (λa' w'=>cr C (s.h8 o.dst ⟨(use (a8 C.aO s.ax x)).1/\(use (a8 C.aO s.ax y)).1,True,.undef,wl⟩) a' w') Q:=by
  intro w' E U;refine Fz (w':=w') aw (by simp[execOp,ag,E]) ?_;rw[bh];exact U
 unfold Rw at lO;cases adK with
 | a7 b g off=>
  simp only[aq.e5,aq.bL]at lO;split at lO
  ·rename_i aC;split at lO
   ·rename_i n f bS;simp only[Option.bind_eq_some_iff]at lO;obtain⟨l,ak,lO⟩:=lO;split at lO
    ·rename_i hc;simp only[Option.some.injEq]at lO;subst lO;have adL:=ao.2 aC.symm (by rw[bS];rfl);have iz:=Kk ak af;have aU:=M.bE b;unfold cE at aU;rw[bS]at aU;obtain⟨cs,hW,bF,c2,c3⟩:=aU;have hlen:=iz.len;have nM:∀ u∈(a.eval y).cells.toList,u.oneCell'=true:=by
      intro u hu;obtain⟨i,G,rfl⟩:=List.mem_iff_getElem.1 hu;have:=(iz.kL i (by omega)).2;grind
     obtain⟨w',di,cj,cK,eu,lM,lN,mh⟩:=u' (P:=C.P) (a.eval y).cells.toList off 0 w cs bF (by omega) nM;have cd:(a.eval y).cells.size=(T ty).size:=by grind
     have va:T ty≠.cV:=by
      intro e;rw[e]at ak;cases kr<;>simp[cellsOf,ad.eG]at ak
     refine fin w' (by rw[adL];simp[Instr.storeAt,Instr.sureAddr,Kn (aV.cb rfl va) cd cj]) ⟨κ,F,?_⟩;have gn:fo s.ab κ (λi=>if i=b then (⟨(s.ab b).gen,.cells n (putCells f off l)⟩:bK) else s.ab i) κ:=
      qP rfl (λ_=>by rw[bS];rfl) (λh=>by cases h) (λh=>by cases h) (λh=>by cases h)
     refine (M.o6 (b:=b) (x:=⟨(s.ab b).gen,.cells n (putCells f off l)⟩) (by rw[bS];rfl) rfl gn (λ_=>by rw[bS];rfl) (λh=>by cases h) lM lN mh λH mP cc he=>?_);have FH:di.size=n.size:=by
      rw[<-Array.length_toList,eu];grind
     refine⟨di,hW,cK,FH,λi G=>?_⟩;have bG:di.getD i Go.undef=di.toList.getD i Go.undef:=by simp
     rw[bG,eu];have lP:l.length=(a.eval y).cells.toList.length:=hlen;simp only[Nat.add_zero];have kN:(cs.toList.take off).length=off:=by grind
     unfold putCells;by_cases jl:off<=i/\i<off+l.length
     ·rw[if_pos jl];have ay:(cs.toList.take off++((a.eval y).cells.toList++cs.toList.drop (off+(a.eval y).cells.toList.length))).getD i Go.undef=(a.eval y).cells.toList.getD (i - off) Go.undef:=by
       grind
      rw[ay];have:=iz.kL (i - off) (by omega);exact⟨bu.later cc (λ_ M=>M) he this.1,this.2⟩
     ·rw[if_neg jl];have ay:(cs.toList.take off++((a.eval y).cells.toList++cs.toList.drop (off+(a.eval y).cells.toList.length))).getD i Go.undef=cs.getD i Go.undef:=by
       rcases Nat.lt_or_ge i off with E | E
       ·rw[List.getD_eq_getElem?_getD,List.getElem?_append_left (by omega)];simp_all
       ·rw[List.getD_eq_getElem?_getD,List.getElem?_append_right (by omega),kN,List.getElem?_append_right (by omega),List.getElem?_drop];rw[show off+(a.eval y).cells.toList.length+(i - off - (a.eval y).cells.toList.length)=i from by omega];simp
      rw[ay];exact⟨bu.later cc (λ_ M=>M) he (c3 i G).1,(c3 i G).2⟩
    grind
   grind
  grind
 | oh b g i off=>
  simp only[aq.e6,Option.bind_eq_some_iff,aq.run_bind,aq.e5,aq.bL]at lO;obtain⟨⟨z,l⟩,bk,lO⟩:=lO;split at lO
  ·rename_i aC;obtain⟨aC,p8⟩:=aC;have p8:b ∉ l:=by grind
   split at lO
   ·rename_i e xs bS;simp only[Option.map_eq_some_iff]at lO;obtain⟨mi,zh,rfl⟩:=lO;obtain⟨jJ,p9,mj⟩:=ao.2 aC.symm (by rw[bS];rfl);rw[bS]at jJ mj;simp only[bP.len,bP.e4]at jJ mj;obtain⟨F',f1,bc,f2⟩:=bl.k_ (mO bk) M;have vb:=mf M.bE f1 bk f2 af;have Kp:((s.cB l).ab b)=s.ab b:=by simp[aB.cB,p8]
    have aU:=bc.bE b;unfold cE at aU;rw[Kp,bS]at aU;obtain⟨cs,hW,bF,c2,c3,c4,c5⟩:=aU.2 p9;obtain⟨bj,d1,d2⟩:=c5 i jJ;have Ke:xs.getD i e.dh=xs[i]:=by grind
    rw[Ke]at zh;have vc:=hR e d2;obtain⟨du,dF,ou,bq,axc,axd,adM⟩:=ac0 e d2 zh vb.2;have va:T ty≠.cV:=by
     intro a1;have:=vb.1;rw[a1]at this;exact this
    have w7:(a.eval y).cells.toList.length=(T ty).size:=vb.1.len;have Ch:(i+1)*e.size<=(κ b).cap*e.size:=Nat.mul_le_mul_right _ (by omega);have hbound:off+(T ty).size<=e.size:=by
     grind
    have nM:∀ u∈(a.eval y).cells.toList,u.oneCell'=true:=by
     intro u hu;have iz:=y5 (P:=C.P) (H:=λ_=>⟨0,.fz⟩) (κ:=λ_=>⟨0,0,0,true⟩) (T ty) vb.2;obtain⟨j,aG,rfl⟩:=List.mem_iff_getElem.1 hu;have:=(iz.kL j (by rw[iz.len];exact aG)).2;grind
    have la:(κ b).off+i*e.size+off+0+(a.eval y).cells.toList.length<=cs.size:=by
     grind
    obtain⟨w',di,cj,cK,eu,lM,lN,mh⟩:=u' (P:=C.P) (a.eval y).cells.toList ((κ b).off+i*e.size+off) 0 w cs bF la nM;refine fin w' (by rw[mj];simp[Instr.storeAt,Instr.sureAddr,Kn (aV.cb rfl va) (by omega) cj]) ⟨κ,F',?_⟩;have o':s.fY ((jG l).run s.ab++[(b,⟨(s.ab b).gen,.bf e (xs.set i mi)⟩)])=(s.cB l).cx b ⟨(s.ab b).gen,.bf e (xs.set i mi)⟩:=by
     rw[Cd,tE]
    rw[o'];have gn:fo (s.cB l).ab κ (λk9=>if k9=b then (⟨(s.ab b).gen,.bf e (xs.set i mi)⟩:bK) else (s.cB l).ab k9) κ:=
     qP (by grind) (λh=>by cases h) (λ_=>by rw[Kp,bS];exact⟨rfl,by simp[bP.len],rfl⟩) (λh=>by cases h) (λh=>by cases h)
    have R1:(κ b).e8=false:=p9;refine bc.o6 (b:=b) (x:=⟨(s.ab b).gen,.bf e (xs.set i mi)⟩) (by rw[Kp,bS];simp[bP.b1,R1]) (by simp[bP.b1,R1]) gn (λh=>by cases h) (λh=>by cases h) lM lN mh λH mP cc he=>?_;refine⟨λaA=>(by grind),λ_=>?_⟩;have FH:di.size=cs.size:=by
     rw[<-Array.length_toList,eu];grind
    refine⟨di,hW,cK,by omega,by grind,c4,λj aG=>?_⟩;have fS:j<xs.length:=by grind
    simp only[Nat.add_zero]at eu la;have eU:∀ k,di[k]?=if (κ b).off+i*e.size+off<=k/\k<(κ b).off+i*e.size+off+(T ty).size then (a.eval y).cells.toList[k - ((κ b).off+i*e.size+off)]? else cs[k]?:=by
     intro k;rw[<-Array.getElem?_toList,eu];have kN:(cs.toList.take ((κ b).off+i*e.size+off)).length=(κ b).off+i*e.size+off:=by grind
     by_cases jl:(κ b).off+i*e.size+off<=k/\k<(κ b).off+i*e.size+off+(T ty).size
     ·rw[if_pos jl,List.getElem?_append_right (by omega),kN,List.getElem?_append_left (by omega)]
     ·rw[if_neg jl];rcases Nat.lt_or_ge k ((κ b).off+i*e.size+off) with E | E
      ·grind
      ·rw[List.getElem?_append_right (by omega),kN,List.getElem?_append_right (by omega),List.getElem?_drop];rw[show (κ b).off+i*e.size+off+(a.eval y).cells.toList.length+(k - ((κ b).off+i*e.size+off) - (a.eval y).cells.toList.length)=k from by omega];simp
    by_cases qN:j=i
    ·subst qN;have ay:(xs.set j mi)[j]=mi:=by simp
     rw[ay];refine⟨du++((a.eval y).cells.toList++ou),λk an=>?_,fe e (λ_ M=>M) he adM⟩;rw[eU];subst bq;simp only[List.length_append]at an vc;by_cases jl:off<=k/\k<off+(T ty).size
     ·rw[if_pos (by omega)];rw[show (κ b).off+j*e.size+k - ((κ b).off+j*e.size+off)=k - du.length from by omega];grind
     grind
    ·have ay:(xs.set i mi)[j]=xs[j]:=by grind
     rw[ay];obtain⟨R2,adN,Kq⟩:=c5 j fS;refine⟨R2,λk an=>?_,fe e (λ_ M=>M) he Kq⟩;rw[eU,if_neg]
     ·grind
     ·have axe:=hR e Kq;rcases Nat.lt_or_ge j i with E | E
      ·have:(j+1)*e.size<=i*e.size:=Nat.mul_le_mul_right _ (by omega);grind
      ·have:(i+1)*e.size<=j*e.size:=Nat.mul_le_mul_right _ (by omega);grind
   grind
  grind
 | _=>cases lO
end
end Go.Fer
