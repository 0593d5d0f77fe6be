/- Part 1 of the proof of Answers: shallow programs of Go functions, and what they compute. No condition. -/
import Derived.Below
import Derived.OrdersIn
import Derived.RangeFuncCalls
import Derived.RangeFuncSeq
import Derived.Laws.StructEq
import Derived.Laws.Tables
import Derived.ChangeMaps3
noncomputable section
abbrev z1':=List Int
abbrev z2':=List (Int×Int×Int×Int)
abbrev z3':=List (Int×Int×Int)
abbrev z4':=List (Int×Int)
abbrev z5':=List ((Int×Int×Int)×Int)
abbrev z6':=List (Nat×(Nat×Nat))
abbrev z7':=List (Int×Int×Int×Int×Int×Int)
abbrev z8':=List (Nat×Nat)
abbrev z9':=List (Option Nat)
set_option linter.unusedVariables false
set_option linter.unusedSimpArgs false
namespace Go.Fer
@[ext] structure A (ak:Type):Type where
 b1:Prop
 bQ:ak->Prop
namespace A
variable {ak β gA D aI:Type}
def pure(x:ak):A ak:=⟨True,λy=>y=x⟩
def bind(m:A ak)(f:ak->A β):A β:=⟨m.b1/\∀ x,m.bQ x->(f x).b1,λy=>∃ x,m.bQ x/\(f x).bQ y⟩
def ad(p:Prop)(m:A ak):A ak:=⟨p/\m.b1,m.bQ⟩
def dP(p:Prop)(x:ak):A ak:=⟨p,λy=>y=x⟩
def any(p:ak->Prop):A ak:=⟨∃ x,p x,p⟩
theorem ext'{m n:A ak}(E:m.b1<->n.b1)(U:∀ x,m.bQ x<->n.bQ x):m=n:=by
 cases m;cases n;simp only[A.mk.injEq];grind
@[simp] theorem hQ (x:ak):(pure x).b1=True:=rfl
@[simp] theorem axR (x y:ak):(pure x).bQ y=(y=x):=rfl
@[simp] theorem aF (x:ak) (f:ak->A β):bind (pure x) f=f x:=ext' (by simp[bind,pure]) (by simp[bind,pure])
@[simp] theorem axS (m:A ak):bind m pure=m:=ext' (by simp[bind,pure]) (by simp[bind,pure])
theorem bt{p:Prop}(h:p)(m:A ak):ad p m=m:=ext' (by simp[ad,h]) (by simp[ad])
@[simp] theorem bn (m:A ak):ad True m=m:=bt trivial m
theorem FN(p:Prop)(m:A ak)(f:ak->A β):bind (ad p m) f=ad p (bind m f):=ext' (by simp[bind,ad,and_assoc]) (by simp[bind,ad])
@[simp] theorem nQ (x:ak):dP True x=pure x:=rfl
theorem bO{p:Prop}(h:p)(x:ak):dP p x=pure x:=ext' (by simp_all) (by simp_all)
theorem dG(p:Prop)(x:ak)(f:ak->A β):bind (dP p x) f=ad p (f x):=by
 apply ext'
 ·simp[bind,dP,ad]
 ·simp[bind,dP,ad]
theorem Rr{c:Prop}[Decidable c](m n:A ak)(f:ak->A β):bind (if c then m else n) f=if c then bind m f else bind n f:=by grind
def le(n m:A ak):Prop:=m.b1->n.b1/\∀ y,n.bQ y->m.bQ y
theorem le_refl(m:A ak):le m m:=λh=>⟨h,λ_ h=>h⟩
theorem le_trans{a b c:A ak}(h:le a b)(k:le b c):le a c:=λaD=>⟨(h (k aD).1).1,λy aR=>(k aD).2 y ((h (k aD).1).2 y aR)⟩
theorem le_of_eq{a b:A ak}(h:a=b):le a b:=h ▸ le_refl a
def cu(m:A ak)(p:ak->Prop):Prop:=m.b1/\∀ y,m.bQ y->p y
theorem cu.mono{m:A ak}{p q:ak->Prop}(h:cu m p)(k:∀ y,p y->q y):cu m q:=⟨h.1,λy aR=>k y (h.2 y aR)⟩
theorem d_{x:ak}{p:ak->Prop}:cu (pure x) p<->p x:=⟨λh=>h.2 x rfl,λh=>⟨trivial,λ_ e=>e ▸ h⟩⟩
theorem fY{m:A ak}{f:ak->A β}{p:β->Prop}:cu (bind m f) p<->cu m λx=>cu (f x) p:=
 ⟨λh=>⟨h.1.1,λx ah=>⟨h.1.2 x ah,λy aR=>h.2 y ⟨x,ah,aR⟩⟩⟩,λh=>⟨⟨h.1,λx ah=>(h.2 x ah).1⟩,λy ⟨x,ah,aR⟩=>(h.2 x ah).2 y aR⟩⟩
theorem kR{q:Prop}{m:A ak}{p:ak->Prop}:cu (ad q m) p<->q/\cu m p:=by
 simp[cu,ad,and_assoc]
inductive V(D aI:Type) where
 | next (s:D)
 | done (r:aI)
inductive Cb(body:D->A (V D aI)):D->Prop where
 | mk (s:D) (h:(body s).b1) (k:∀ s',(body s).bQ (.next s')->Cb body s'):Cb body s
inductive zn(body:D->A (V D aI)):D->aI->Prop where
 | done (s:D) (r:aI) (h:(body s).bQ (.done r)):zn body s r
 | next (s s':D) (r:aI) (h:(body s).bQ (.next s')) (k:zn body s' r):zn body s r
def loop(body:D->A (V D aI))(s:D):A aI:=⟨Cb body s,zn body s⟩
theorem Cc(body:D->A (V D aI))(s:D) :
  loop body s=bind (body s) fun | .next s'=>loop body s' | .done r=>pure r:=by
 apply ext'
 ·constructor
  ·rintro⟨_,h,k⟩;refine⟨h,λx ah=>?_⟩;cases x with
   | next s'=>exact k s' ah
   | done r=>trivial
  ·rintro⟨h,k⟩;exact⟨s,h,λs' aD=>k _ aD⟩
 ·intro r;constructor
  ·rintro (⟨_,_,h⟩ | ⟨_,s',_,h,k⟩)
   ·exact⟨.done r,h,rfl⟩
   ·exact⟨.next s',h,k⟩
  ·rintro⟨x,ah,M⟩;cases x with
   | next s'=>exact .next s s' r ah M
   | done ql=>cases M;exact .done s _ ah
theorem zo{body:D->A (V D aI)}{s s':D}(h:body s=pure (.next s')):loop body s=loop body s':=by
 rw[Cc,h,aF]
theorem sc{body:D->A (V D aI)}{s:D}{r:aI}(h:body s=pure (.done r)):loop body s=pure r:=by
 rw[Cc,h,aF]
theorem ac6{body:D->A (V D aI)}{res:aI}(I:D->Prop)(w6:D->Nat)
  (round:∀ s,I s->(∃ s',body s=pure (.next s')/\I s'/\w6 s'<w6 s)\/body s=pure (.done res)) (s:D) (h:I s) :
  loop body s=pure res:=by
 have key:∀ n s,w6 s=n->I s->loop body s=pure res:=by
  intro n;induction n using Nat.strongRecOn with
  | _ n aH=>
   intro s au aD;rcases round s aD with⟨s',e,ez,cj⟩ | e
   ·rw[zo e];grind
   ·exact sc e
 grind
theorem Cd{body:D->A (V D aI)}{p:aI->Prop}(I:D->Prop)(w6:D->Nat)
  (round:∀ s,I s->cu (body s) fun | .next s'=>I s'/\w6 s'<w6 s | .done r=>p r) (s:D) (h:I s):cu (loop body s) p:=by
 have key:∀ n s,w6 s=n->I s->cu (loop body s) p:=by
  intro n;induction n using Nat.strongRecOn with
  | _ n aH=>
   intro s au aD;rw[Cc,fY];refine (round s aD).mono λy aR=>?_;cases y with
   | next s'=>grind
   | done r=>exact d_.2 aR
 grind
end A
end Go.Fer
namespace Go.Fer
def Rs(b:Nat)(c:Nat->Option Value):Prop:=
 match b with
 | 0=>∃ m,c 0=some (.int .i64 m)
 | 1 | 2=>∃ v,c 0=some v/\(v=.nilIface\/∃ lI ml,v=.iface lI ml)
 | 5=>∀ i,c i=if i<20 then some (.int .u64 (10 ^ i)) else none
 | _=>True
end Go.Fer
namespace Go.Fer
open Go.RowKit
inductive ab where
 | bool | int (k:IntKind) | str | cS
 | st (t:ab) | az (a b:ab)
 | slice (e:ab) | array (n:Nat) (e:ab) | bG (e:ab) | map (k v:ab) | fn (a b:ab) | cq (a:ab) | en
 deriving DecidableEq
@[reducible] def ab.aj:ab->Type
 | .bool=>Bool
 | .int _=>Int
 | .str=>List UInt8
 | .cS=>Unit
 | .st t=>t.aj
 | .az a b=>a.aj×b.aj
 | .slice e=>List e.aj
 | .array _ e=>List e.aj
 | .bG e=>Option e.aj
 | .map k v=>List (k.aj×v.aj)
 | .fn a b=>a.aj->A b.aj
 | .cq a=>List a.aj->Prop
 | .en=>Option Nat
def ab.de:(t:ab)->t.aj
 | .bool=>false
 | .int _=>(0:Int)
 | .str=>[]
 | .cS=>()
 | .st t=>t.de
 | .az a b=>(a.de,b.de)
 | .slice _=>[]
 | .array n e=>List.replicate n e.de
 | .bG _=>none
 | .map _ _=>[]
 | .fn _ _=>λ_=>⟨False,λ_=>False⟩
 | .cq _=>λ_=>False
 | .en=>none
def ab.size:ab->Nat
 | .cS=>0
 | .st t=>t.size
 | .az a b=>a.size+b.size
 | .array n e=>n*e.size
 | _=>1
def ab.eF:ab->Bool
 | .cS | .st _ | .az _ _ | .array _ _=>false
 | _=>true
def fQ(k:IntKind)(n:Int):Prop:=k.min<=n/\n<=k.max
instance (k:IntKind) (n:Int):Decidable (fQ k n):=inferInstanceAs (Decidable (_/\_))
def Holds(F:Nat->Prop)(w:World)(p:Addr)(cs:List Value):Prop:=
 F p.block/\p.spot=none/\∀ j (h:j<cs.length),w.cell? ⟨p.block,p.off+j,none⟩=some cs[j]
def c1(F:Nat->Prop)(w w':World):Prop:=w.heap.size<=w'.heap.size/\∀ r,F r->w'.heap[r]?=w.heap[r]?
theorem c1.refl(F:Nat->Prop)(w:World):c1 F w w:=⟨Nat.le_refl _,λ_ _=>rfl⟩
theorem c1.trans{F F':Nat->Prop}{a b c:World}(h:c1 F a b)(bm:∀ r,F r->F' r)(k:c1 F' b c):c1 F a c:=
 ⟨Nat.le_trans h.1 k.1,λr M=>(k.2 r (bm r M)).trans (h.2 r M)⟩
theorem c1.cell{F:Nat->Prop}{w w':World}(h:c1 F w w'){a:Addr}(a8:F a.block):w'.cell? a=w.cell? a:=by
 simp only[World.cell?,h.2 _ a8]
def nR(P:Program)(F:Nat->Prop)(w:World):Prop:=∀ b,b<P.globals.size->F b/\Rs b λi=>w.cell? ⟨b,i,none⟩
theorem nR.mono{P:Program}{F F':Nat->Prop}{w w':World}(h:nR P F w)(bm:∀ r,F r->F' r)(he:c1 F w w'):nR P F' w':=λb W=>by
 obtain⟨E,U⟩:=h b W;have e:(λi=>w'.cell? ⟨b,i,none⟩)=λi=>w.cell? ⟨b,i,none⟩:=funext λi=>he.cell (a:=⟨b,i,none⟩) E;exact⟨bm b E,e ▸ U⟩
theorem Holds.mono{F F':Nat->Prop}{w w':World}{p:Addr}{cs:List Value}(h:Holds F w p cs)(bm:∀ r,F r->F' r)(he:c1 F w w'):Holds F' w' p cs:=
 ⟨bm _ h.1,h.2.1,λj aE=>(he.cell (a:=⟨p.block,p.off+j,none⟩) h.1).trans (h.2.2 j aE)⟩
def kS:ab->Value->Prop
 | .st t,v=>∃ cs:Array Value,v=.agg cs/\cs.size=t.size
 | .array n e,v=>∃ cs:Array Value,v=.agg cs/\cs.size=n*e.size
 | .cS,_=>False
 | .az _ _,_=>False
 | _,v=>v.cells=#[v]
def eg(aC:List Value):List Value:=aC.flatMap (·.cells.toList)
@[simp] theorem ac7:eg []=[]:=rfl
@[simp] theorem Kw (v:Value) (aC:List Value):eg (v::aC)=v.cells.toList++eg aC:=rfl
def w7:ab->List Value->Prop
 | .az a b,v::aC=>kS a v/\w7 b aC
 | .az _ _,[]=>False
 | .cS,aC=>aC=[]
 | t,aC=>∃ v,aC=[v]/\kS t v
def zp:ab->Value->List Value->Prop
 | .az _ _,v,aC=>v=.tuple aC.toArray
 | .cS,v,aC=>v=.tuple #[]/\aC=[]
 | _,v,aC=>aC=[v]
def vg(F:Nat->Prop)(w w':World):Nat->Prop:=λr=>F r\/(w.heap.size<=r/\r<w'.heap.size)
structure FO(P:Program){ak:Type}(R:(Nat->Prop)->World->List Value->ak->Prop)(l:Nat)(S:List ak->Prop)(I:List ak->Bool->(Nat->Prop)->(Nat->Prop)->World->Prop):Prop where
 Ce:∀ {pre st} {F F' Y:Nat->Prop} {w w':World},I pre st F Y w->(∀ r,F r->F' r)->(∀ r,F r\/Y r->w'.heap[r]?=w.heap[r]?)->w.heap.size<=w'.heap.size->w'.os=w.os/\w'.tape=w.tape/\w'.output=w.output->(∀ r,F' r->r<w'.heap.size)->(∀ r,F' r->¬Y r)->I pre st F' Y w'
 yield:∀ {pre} {F Y:Nat->Prop} {w:World} {args:List Value} {x:ak},I pre false F Y w->(∀ r,F r->r<w.heap.size)->(∀ r,Y r->r<w.heap.size/\¬F r)->(∃ T,S (pre++x::T))->R F w args x->
  YieldAt Fence.wide 0 P l args.toArray w λe w'=>∃ (b:Bool) (F' gB:Nat->Prop),e=.returned (.bool b)/\(∀ r,F r->F' r)/\(∀ r,F' r->F r\/Y r\/w.heap.size<=r)/\(∀ r,F' r->r<w'.heap.size)/\
   (∀ r,r<w.heap.size->¬Y r->w'.heap[r]?=w.heap[r]?)/\(∀ r,gB r->(Y r\/w.heap.size<=r)/\r<w'.heap.size/\¬F' r)/\w.heap.size<=w'.heap.size/\(w'.os=w.os/\w'.tape=w.tape/\w'.output=w.output)/\I (pre++[x]) (!b) F' gB w'
def Rt{ak:Type}(S:List ak->Prop)(I:List ak->Bool->(Nat->Prop)->(Nat->Prop)->World->Prop)(F Y:Nat->Prop)(w:World)(e:Ending)(w':World):Prop:=
 ∃ v pre st F' gB,e=.returned v/\(st=false->S pre)/\I pre st F' gB w'/\(∀ r,F r->F' r)/\(∀ r,F' r->F r\/Y r\/w.heap.size<=r)/\(∀ r,F' r->r<w'.heap.size)/\
  (∀ r,r<w.heap.size->¬Y r->w'.heap[r]?=w.heap[r]?)/\(∀ r,gB r->(Y r\/w.heap.size<=r)/\r<w'.heap.size/\¬F' r)/\w.heap.size<=w'.heap.size/\(w'.os=w.os/\w'.tape=w.tape/\w'.output=w.output)
def ac8:Option Nat->Value
 | none=>.nilFunc
 | some k=>.func (.func k) #[] #[]
def bH(P:Program):(t:ab)->(Nat->Prop)->World->List Value->t.aj->Prop
 | .bool,_,_,cs,x=>cs=[.bool x]
 | .int k,_,_,cs,x=>cs=[.int k x]/\fQ k x
 | .str,_,_,cs,x=>cs=[.string ⟨x.toArray⟩]/\x.length<2 ^ 63
 | .cS,_,_,cs,_=>cs=[]
 | .st t,F,w,cs,x=>bH P t F w cs x
 | .az a b,F,w,cs,x=>∃ c d,cs=c++d/\bH P a F w c x.1/\bH P b F w d x.2
 | .slice e,F,w,cs,xs=>∃ a cap,cs=[.slice a xs.length cap]/\xs.length<=cap/\cap<2 ^ 63/\(a=none->cap=0)/\
   ∀ p,a=some p->0<cap->F p.block/\p.spot=none/\∀ i (h:i<xs.length),∃ bh,Holds F w ⟨p.block,p.off+i*e.size,none⟩ bh/\bH P e F w bh xs[i]
 | .array n e,F,w,cs,xs=>∃ fm:List (List Value),cs=fm.flatten/\fm.length=n/\xs.length=n/\∀ i (h:i<xs.length) (ds:i<fm.length),bH P e F w fm[i] xs[i]
 | .bG e,F,w,cs,x=>(cs=[.pointer none]/\x=none)\/∃ p y bh,cs=[.pointer (some p)]/\x=some y/\Holds F w p bh/\bH P e F w bh y
 | .map k v,F,w,cs,xs=>(cs=[.map none]/\xs=[])\/∃ r es clk,cs=[.map (some r)]/\F r/\w.heap[r]?=some (.map es clk)/\es.size=xs.length/\(xs.map (·.1)).Nodup/\
   (∀ i (h:i<xs.length) (ds:i<es.size),kS k es[i].key/\bH P k F w es[i].key.cells.toList xs[i].1/\kS v es[i].val/\bH P v F w es[i].val.cells.toList xs[i].2/\es[i].born<clk)/\
   (∀ i j (h:i<es.size) (ds:j<es.size),es[i].born=es[j].born->i=j)
 | .fn a b,F,w,cs,f=>∃ u,cs=[u]/\(u.cells=#[u]/\u.oneCell'=true)/\∀ (F':Nat->Prop) (w':World),(∀ r,F r->F' r)->c1 F w w'->(∀ r,F' r->r<w'.heap.size)->nR P F' w'->
   ∀ args x,w7 a args->bH P a F' w' (eg args) x->(f x).b1->∃ g cZ,u=.func (.func g) #[] cZ/\(∀ as w,(callFunc g as).run P w=.ok (.enter g as) w)/\
    Calls P g (args.toArray++cZ) w' λe tL=>∃ v y aC,e=.returned v/\(f x).bQ y/\zp b v aC/\w7 b aC/\bH P b (vg F' w' tL) tL (eg aC) y/\Below w'.heap.size w' tL
 | .cq a,F,w,cs,S=>∃ u,cs=[u]/\(u.cells=#[u]/\u.oneCell'=true)/\∀ (F':Nat->Prop) (w':World),(∀ r,F r->F' r)->c1 F w w'->(∀ r,F' r->r<w'.heap.size)->nR P F' w'->
   (∃ L,S L)->∃ g cZ,u=.func (.func g) #[] cZ/\(∀ as w,(callFunc g as).run P w=.ok (.enter g as) w)/\
    ∀ (l:Nat) (I:List a.aj->Bool->(Nat->Prop)->(Nat->Prop)->World->Prop) (Y:Nat->Prop),(∀ r,Y r->r<w'.heap.size/\¬F' r)->
     FO P (λF w args x=>w7 a args/\bH P a F w (eg args) x) l S I->I [] false F' Y w'->Calls P g (#[Value.func (.yield l) #[] #[]]++cZ) w' (Rt S I F' Y w')
 | .en,_,_,cs,x=>cs=[ac8 x]
theorem hR{P:Program}:∀ (t:ab) {F:Nat->Prop} {w:World} {cs:List Value} {x:t.aj},bH P t F w cs x->cs.length=t.size:=by
 intro t;induction t with
 | bool=>intro F w cs x h;simp only[bH]at h;simp[h,ab.size]
 | int k=>intro F w cs x h;simp only[bH]at h;simp[h.1,ab.size]
 | str=>intro F w cs x h;simp only[bH]at h;simp[h.1,ab.size]
 | cS=>intro F w cs x h;simp only[bH]at h;simp[h,ab.size]
 | st t aH=>intro F w cs x h;simp only[bH]at h;exact aH h
 | az a b fw eJ=>
  intro F w cs x h;simp only[bH]at h;obtain⟨c,d,rfl,a8,W⟩:=h;simp[ab.size,fw a8,eJ W]
 | slice e aH=>intro F w cs x h;simp only[bH]at h;obtain⟨a,cap,rfl,_⟩:=h;rfl
 | array n e aH=>
  intro F w cs x h;simp only[bH]at h;obtain⟨fm,rfl,E,U,ag⟩:=h;have:∀ l∈fm,l.length=e.size:=by
   intro l ai;obtain⟨i,G,rfl⟩:=List.mem_iff_getElem.1 ai;grind
  have a6:fm.map List.length=List.replicate n e.size:=by
   rw[<-E];exact List.eq_replicate_iff.2 ⟨by simp,by grind⟩
  simp[List.length_flatten,a6,ab.size]
 | bG e aH=>intro F w cs x h;simp only[bH]at h;rcases h with⟨rfl,_⟩ | ⟨p,y,bh,rfl,_⟩<;>rfl
 | map k v w8 w9=>intro F w cs x h;simp only[bH]at h;rcases h with⟨rfl,_⟩ | ⟨r,es,clk,rfl,_⟩<;>rfl
 | fn a b fw eJ=>intro F w cs x h;simp only[bH]at h;obtain⟨u,rfl,_⟩:=h;rfl
 | cq a aH=>intro F w cs x h;simp only[bH]at h;obtain⟨u,rfl,_⟩:=h;rfl
 | en=>intro F w cs x h;simp only[bH]at h;subst h;rfl
theorem fb{P:Program}:∀ (t:ab) {F F':Nat->Prop} {w w':World} {cs:List Value} {x:t.aj},(∀ r,F r->F' r)->c1 F w w'->bH P t F w cs x->bH P t F' w' cs x:=by
 intro t;induction t with
 | bool=>intro F F' w w' cs x _ _ h;exact h
 | int k=>intro F F' w w' cs x _ _ h;exact h
 | str=>intro F F' w w' cs x _ _ h;exact h
 | cS=>intro F F' w w' cs x _ _ h;exact h
 | st t aH=>intro F F' w w' cs x bm he h;simp only[bH]at h ⊢;grind
 | az a b fw eJ=>
  intro F F' w w' cs x bm he h;simp only[bH]at h ⊢;grind
 | slice e aH=>
  intro F F' w w' cs x bm he h;simp only[bH]at h ⊢;obtain⟨a,cap,rfl,E,U,ag,a6⟩:=h;refine⟨a,cap,rfl,E,U,ag,λp an hc=>?_⟩;obtain⟨aQ,aV,bK⟩:=a6 p an hc;refine⟨bm _ aQ,aV,λi G=>?_⟩;obtain⟨bh,m1,m2⟩:=bK i G;exact⟨bh,m1.mono bm he,aH bm he m2⟩
 | array n e aH=>
  intro F F' w w' cs x bm he h;simp only[bH]at h ⊢;grind
 | bG e aH=>
  intro F F' w w' cs x bm he h;simp only[bH]at h ⊢;rcases h with h | ⟨p,y,bh,E,U,ag,a6⟩
  ·grind
  ·exact .inr ⟨p,y,bh,E,U,ag.mono bm he,aH bm he a6⟩
 | map k v w8 w9=>
  intro F F' w w' cs x bm he h;simp only[bH]at h ⊢;rcases h with h | ⟨r,es,clk,E,U,ag,a6,bM,dt,gK⟩
  ·grind
  ·refine .inr ⟨r,es,clk,E,bm _ U,(he.2 _ U).trans ag,a6,bM,λi G dI=>?_,gK⟩;grind
 | fn a b fw eJ=>
  intro F F' w w' cs x bm he h;simp only[bH]at h ⊢;obtain⟨u,rfl,hu,E⟩:=h;exact⟨u,rfl,hu,λKx tL tM Cf aD=>E Kx tL (λr M=>tM r (bm r M)) (he.trans bm Cf) aD⟩
 | cq a aH=>
  intro F F' w w' cs x bm he h;simp only[bH]at h ⊢;obtain⟨u,rfl,hu,E⟩:=h;exact⟨u,rfl,hu,λKx tL tM Cf aD=>E Kx tL (λr M=>tM r (bm r M)) (he.trans bm Cf) aD⟩
 | en=>intro F F' w w' cs x _ _ h;exact h
def eo(P:Program)(t:ab)(F:Nat->Prop)(w:World)(v:Value)(x:t.aj):Prop:=kS t v/\bH P t F w v.cells.toList x
def fo(P:Program)(t:ab)(F:Nat->Prop)(w:World)(aC:List Value)(x:t.aj):Prop:=w7 t aC/\bH P t F w (eg aC) x
def tN(P:Program)(t:ab)(F:Nat->Prop)(w:World)(v:Value)(x:t.aj):Prop:=∃ aC,zp t v aC/\fo P t F w aC x
theorem eo.mono{P:Program}{t:ab}{F F':Nat->Prop}{w w':World}{v:Value}{x:t.aj}(h:eo P t F w v x)(bm:∀ r,F r->F' r)(he:c1 F w w'):eo P t F' w' v x:=
 ⟨h.1,fb t bm he h.2⟩
theorem FP{v:Value}(h:v.oneCell'=true):v.cells=#[v]:=by
 cases v<;>first | rfl | cases h
theorem Ru{v:Value}(h:v.cells=#[v]):v.cells.toList=[v]:=by rw[h]
theorem kS.len{t:ab}{v:Value}(h:kS t v):v.cells.toList.length=t.size:=by
 cases t<;>simp only[kS]at h<;>first
  | (obtain⟨cs,rfl,h⟩:=h;simpa [Value.cells,ab.size]using h)
  | (rw[Ru h];rfl)
  | exact h.elim
theorem Cg{P:Program}{a b:ab}{F:Nat->Prop}{w:World}{v:Value}{aC:List Value}{x:a.aj}{y:b.aj} :
  fo P (.az a b) F w (v::aC) (x,y)<->eo P a F w v x/\fo P b F w aC y:=by
 constructor
 ·rintro⟨⟨E,U⟩,c,d,e,hc,aq⟩;have ai:=hR a hc;have:=List.append_inj e (by rw[ai];exact E.len);rw[Kw]at e;obtain⟨ax,aO⟩:=this;subst ax;subst aO;exact⟨⟨E,hc⟩,U,aq⟩
 ·rintro⟨⟨E,U⟩,ag,a6⟩;exact⟨⟨E,ag⟩,_,_,rfl,U,a6⟩
theorem FQ{P:Program}{a b:ab}{F:Nat->Prop}{w:World}{aC:List Value}{x:(ab.az a b).aj}(h:fo P (.az a b) F w aC x) :
  ∃ v us,aC=v::us/\eo P a F w v x.1/\fo P b F w us x.2:=by
 cases aC with
 | nil=>exact h.1.elim
 | cons v us=>exact⟨v,us,rfl,Cg.1 h⟩
def ab.gC:ab->Bool
 | .az _ _ | .cS=>false
 | _=>true
theorem sd{P:Program}{t:ab}(aL:t.gC=true){F:Nat->Prop}{w:World}{aC:List Value}{x:t.aj} :
  fo P t F w aC x<->∃ v,aC=[v]/\eo P t F w v x:=by
 have key:w7 t aC<->∃ v,aC=[v]/\kS t v:=by cases t<;>simp[ab.gC,w7]at aL ⊢
 unfold fo eo;rw[key];constructor
 ·rintro⟨⟨v,rfl,ae⟩,h⟩;exact⟨v,rfl,ae,by simpa using h⟩
 ·rintro⟨v,rfl,ae,h⟩;exact⟨⟨v,rfl,ae⟩,by simpa using h⟩
section
variable {P:Program} {F:Nat->Prop} {w:World} {v:Value}
@[simp] theorem fc {x:Bool}:eo P .bool F w v x<->v=.bool x:=by
 constructor
 ·rintro⟨E,U⟩;simp only[kS]at E;simp only[bH]at U;rw[Ru E]at U;simpa using U
 ·rintro rfl;exact⟨by simp[kS,Value.cells],by simp[bH,Value.cells]⟩
theorem gU{k:IntKind}{x:Int}:eo P (.int k) F w v x<->v=.int k x/\fQ k x:=by
 constructor
 ·rintro⟨E,U⟩;simp only[kS]at E;simp only[bH]at U;grind
 ·rintro⟨rfl,h⟩;exact⟨by rfl,by simpa [bH,Value.cells]using h⟩
theorem mm{x:List UInt8}:eo P .str F w v x<->v=.string ⟨x.toArray⟩/\x.length<2 ^ 63:=by
 constructor
 ·rintro⟨E,U⟩;simp only[kS]at E;simp only[bH]at U;grind
 ·rintro⟨rfl,h⟩;exact⟨by rfl,by simpa [bH,Value.cells]using h⟩
theorem dT{t:ab}(aL:t.eF=true){x:t.aj}:eo P t F w v x<->v.cells=#[v]/\bH P t F w [v] x:=by
 have E:kS t v<->v.cells=#[v]:=by cases t<;>simp[ab.eF,kS]at aL ⊢
 unfold eo;grind
theorem Ky{t:ab}(aL:t.eF=true){F:Nat->Prop}{w:World}{u:Value}{x:t.aj}(h:bH P t F w [u] x):u.oneCell'=true:=by
 cases t<;>simp only[ab.eF,bH]at aL h<;>try contradiction
 ·obtain rfl:=(List.cons.inj h).1;rfl
 ·obtain rfl:=(List.cons.inj h.1).1;rfl
 ·obtain rfl:=(List.cons.inj h.1).1;rfl
 ·obtain⟨a,cap,h,_⟩:=h;obtain rfl:=(List.cons.inj h).1;rfl
 ·rcases h with⟨h,_⟩ | ⟨p,y,bh,h,_⟩<;>(obtain rfl:=(List.cons.inj h).1;rfl)
 ·rcases h with⟨h,_⟩ | ⟨r,es,clk,h,_⟩<;>(obtain rfl:=(List.cons.inj h).1;rfl)
 ·obtain⟨mP,h,hu,_⟩:=h;obtain rfl:=(List.cons.inj h).1;exact hu.2
 ·obtain⟨mP,h,hu,_⟩:=h;obtain rfl:=(List.cons.inj h).1;exact hu.2
 ·obtain rfl:=(List.cons.inj h).1;cases x<;>rfl
theorem Ch{t:ab}(aL:t.eF=true){F:Nat->Prop}{w:World}{cs:List Value}{x:t.aj}(h:bH P t F w cs x):∃ u,cs=[u]/\u.cells=#[u]:=by
 cases t<;>simp only[ab.eF,bH]at aL h<;>try contradiction
 ·exact⟨_,h,rfl⟩
 ·exact⟨_,h.1,rfl⟩
 ·exact⟨_,h.1,rfl⟩
 ·obtain⟨a,cap,rfl,_⟩:=h;exact⟨_,rfl,rfl⟩
 ·rcases h with⟨rfl,_⟩ | ⟨p,y,bh,rfl,_⟩<;>exact⟨_,rfl,rfl⟩
 ·rcases h with⟨rfl,_⟩ | ⟨r,es,clk,rfl,_⟩<;>exact⟨_,rfl,rfl⟩
 ·obtain⟨u,rfl,hu,_⟩:=h;exact⟨u,rfl,hu.1⟩
 ·obtain⟨u,rfl,hu,_⟩:=h;exact⟨u,rfl,hu.1⟩
 ·exact⟨_,h,by cases x<;>rfl⟩
end
structure h6(P:Program)(k:FuncId)(ts aW:ab)(sh:ts.aj->A aW.aj):Prop where
 enter:∀ args w,(callFunc k args).run P w=.ok (.enter k args) w
 iV:∀ (F:Nat->Prop) (w:World) (args:List Value) (x:ts.aj),(∀ r,F r->r<w.heap.size)->nR P F w->fo P ts F w args x->(sh x).b1->
  Calls P k args.toArray w λe w'=>∃ v y,e=.returned v/\(sh x).bQ y/\tN P aW (vg F w w') w' v y/\Below w.heap.size w w'
structure Rv(P:Program)(k:FuncId)(ts aW:ab)(sh:ts.aj->A aW.aj):Prop where
 iV:∀ (F:Nat->Prop) (w:World) (args:List Value) (x:ts.aj),(∀ r,F r->r<w.heap.size)->nR P F w->fo P ts F w args x->(sh x).b1->
  Calls P k args.toArray w λe w'=>∃ v y,e=.returned v/\(sh x).bQ y/\tN P aW (λr=>w.heap.size<=r/\r<w'.heap.size) w' v y/\Below w.heap.size w w'
def gh:List ab->ab
 | []=>.cS
 | [t]=>t
 | t::u::l=>.az t (gh (u::l))
def FR:(as bs:List ab)->(gh as).aj->(gh bs).aj->(gh (as++bs)).aj
 | [],_,_,y=>y
 | [_],[],x,_=>x
 | [_],_::_,x,y=>(x,y)
 | _::u::l,bs,x,y=>(x.1,FR (u::l) bs x.2 y)
theorem Rw{P:Program}{F:Nat->Prop}{w:World}:∀ (as bs:List ab),as.all ab.gC=true->∀ {aC us:List Value} {x:(gh as).aj} {y:(gh bs).aj},fo P (gh as) F w aC x->fo P (gh bs) F w us y->fo P (gh (as++bs)) F w (aC++us) (FR as bs x y)
 | [],bs,_,aC,us,x,y,E,U=>by
  obtain rfl:aC=[]:=E.1;exact U
 | [t],[],_,aC,us,x,y,E,U=>by
  obtain rfl:us=[]:=U.1;have e:aC++[]=aC:=List.append_nil aC;rw[e];exact E
 | [t],b::bs,h,aC,us,x,y,E,U=>by
  have aL:t.gC=true:=by grind
  obtain⟨v,rfl,ae⟩:=(sd aL).1 E;exact Cg.2 ⟨ae,U⟩
 | t::u::l,bs,h,aC,us,x,y,E,U=>by
  obtain⟨v,se,rfl,ag,a6⟩:=FQ (a:=t) (b:=gh (u::l)) E;have ai:(u::l).all ab.gC=true:=by
   grind
  have:=Rw (u::l) bs ai a6 U;exact Cg.2 ⟨ag,this⟩
structure ac9 where
 ts:ab
 aW:ab
 sh:ts.aj->A aW.aj
structure FT where
 as:List ab
 cs:List ab
 aW:ab
 sh:(gh (as++cs.map .bG)).aj->A aW.aj
structure w_ where
 cs:List ab
 aJ:ab
 S:(gh (cs.map .bG)).aj->List aJ.aj->Prop
structure xa(P:Program)(k:FuncId)(v:w_):Prop where
 enter:∀ args w,(callFunc k args).run P w=.ok (.enter k args) w
 iV:∀ (F:Nat->Prop) (w:World) (cZ:List Value) (x:(gh (v.cs.map .bG)).aj),(∀ r,F r->r<w.heap.size)->nR P F w->fo P (gh (v.cs.map .bG)) F w cZ x->(∃ L,v.S x L)->
  ∀ (l:Nat) (I:List v.aJ.aj->Bool->(Nat->Prop)->(Nat->Prop)->World->Prop) (Y:Nat->Prop),(∀ r,Y r->r<w.heap.size/\¬F r)->
   FO P (fo P v.aJ) l (v.S x) I->I [] false F Y w->Calls P k (#[Value.func (.yield l) #[] #[]]++cZ.toArray) w (Rt (v.S x) I F Y w)
structure dC where
 tO:Nat->Option ac9
 tP:Nat->Option FT
 xb:Nat->Option w_:=λ_=>none
structure rb(P:Program)(aP:dC):Prop where
 tO:∀ k v,aP.tO k=some v->h6 P k v.ts v.aW v.sh
 tP:∀ k v,aP.tP k=some v->v.as.all ab.gC=true/\h6 P k (gh (v.as++v.cs.map .bG)) v.aW v.sh
 xb:∀ k v,aP.xb k=some v->xa P k v:=by intro k v h;cases h
theorem ac_{P:Program}{k:FuncId}{ts aW:ab}{sh:ts.aj->A aW.aj}(h:h6 P k ts aW sh)(F:Nat->Prop)(w:World):bH P (.fn ts aW) F w [.func (.func k) #[] #[]] sh:=by
 refine⟨_,rfl,⟨rfl,rfl⟩,λF' w' _ _ aD aB args x E U ag=>⟨k,#[],rfl,h.enter,?_⟩⟩;have:=h.iV F' w' args x aD aB ⟨E,U⟩ ag;simp only[Array.append_empty];exact this.mono λe tL ⟨v,y,ax,aO,⟨aC,cv,ec,gV⟩,j7⟩=>⟨v,y,aC,ax,aO,cv,ec,gV,j7⟩
end Go.Fer
namespace Go.Fer
open Go.RowKit
inductive aG where
 | undef
 | val (t:ab) (x:t.aj)
 | hD (b:Bool) (a:aG)
 | bc (b g off:Nat)
 | own (b g:Nat)
 | oF (b g i off:Nat)
 | dU (t:ab) (x:t.aj)
 | fG (b g:Nat)
 | iB (k:FuncId) (n:Nat) (cZ:Nat->aG)
 | sf (k:FuncId) (n:Nat) (first:Nat->aG)
 | qm (n:Nat) (f:Nat->aG)
 | agg (n:Nat) (f:Nat->aG)
 | dm
 | jE (v:Value)
 | j8 (b g:Nat)
 | aW (l:Nat) (aJ:ab) (S:List aJ.aj->Prop) (pre:List aJ.aj) (st:Bool)
 | hg (l:Nat)
 | sub (b g aX G:Nat)
 | xc (e:ab) (xs:List e.aj)
 | iW (b g i:Nat)
inductive bP where
 | fx
 | cells (t:ab) (f:Nat->aG)
 | bg (e:ab) (xs:List e.aj)
 | hE (e:ab) (xs:List e.aj)
 | mp (k v:ab) (es:List (k.aj×v.aj))
 | gL (t:ab) (x:t.aj)
 | jk (k v:ab) (es:List (k.aj×v.aj))
 | cq (k v:ab) (cur:Option (k.aj×v.aj)) (ck:List (k.aj×v.aj))
 | gi (e:ab) (xs:List e.aj) (i:Nat) (v:aG)
structure bJ where
 gen:Nat
 body:bP
structure bA where
 aa:Nat
 off:Nat
 cap:Nat
 e5:Bool
structure aA where
 ay:Nat->aG
 aa:Nat->bJ
def bP.fH:bP->Bool | .cells _ _=>true | .gL _ _=>true | _=>false
def bP.fe:bP->Bool | .bg _ _=>true | .hE _ _=>true | .gi _ _ _ _=>true | _=>false
def bP.gW:bP->Bool | .mp _ _ _=>true | .jk _ _ _=>true | _=>false
def bP.mQ:bP->Bool | .cq _ _ _ _=>true | _=>false
def bP.len:bP->Nat | .bg _ xs=>xs.length | .hE _ xs=>xs.length | .gi _ xs _ _=>xs.length | _=>0
def bP.eZ:bP->Nat | .bg e _=>e.size | .hE e _=>e.size | .gi e _ _ _=>e.size | _=>0
def bP.bY(k:bA):bP->Bool | .cells _ _=>true | .bg _ _=>!k.e5 | .mp _ _ _=>true | .cq _ _ _ _=>true | .gi _ _ _ _=>!k.e5 | _=>false
def bA.slice(k:bA)(n:Nat):Value:=if k.e5 then .slice none 0 0 else .slice (some ⟨k.aa,k.off,none⟩) n k.cap
def FU(k:bA)(eZ aX G:Nat)(v:Value):Prop:=
 (k.e5=true/\v=.slice none 0 0)\/(k.e5=false/\∃ o,v=.slice (some ⟨k.aa,o,none⟩) (G - aX) (k.cap - aX)/\o<=k.off+aX*eZ/\(aX<k.cap->o=k.off+aX*eZ))
def bx(P:Program)(H:Nat->bJ)(κ:Nat->bA)(F:Nat->Prop)(w:World):aG->Value->Prop
 | .undef,_=>True
 | .val t x,v=>eo P t F w v x
 | .hD b a,v=>(b=true->bx P H κ F w a v)/\(b=false->v=Go.undef)
 | .bc b g off,v=>(g<=(H b).gen/\v.oneCell'=true)/\(g=(H b).gen->(H b).body.fH=true->v=.pointer (some ⟨(κ b).aa,off,none⟩))
 | .own b g,v=>(g<=(H b).gen/\v.oneCell'=true)/\(g=(H b).gen->(H b).body.fe=true->v=(κ b).slice (H b).body.len)
 | .oF b g i off,v=>(g<=(H b).gen/\v.oneCell'=true)/\(g=(H b).gen->(H b).body.fe=true->i<(H b).body.len/\(κ b).e5=false/\v=.pointer (some ⟨(κ b).aa,(κ b).off+i*(H b).body.eZ+off,none⟩))
 | .iW b g i,v=>(g<=(H b).gen/\v.oneCell'=true)/\(g=(H b).gen->(H b).body.fe=true->i<(H b).body.len/\(κ b).e5=false/\v=.pointer (some ⟨(κ b).aa,(κ b).off+i*(H b).body.eZ,none⟩))
 | .dU t x,v=>∃ p bh,v=.pointer (some p)/\Holds F w p bh/\bH P t F w bh x
 | .fG b g,v=>(g<=(H b).gen/\v.oneCell'=true)/\(g=(H b).gen->(H b).body.gW=true->v=.map (some (κ b).aa))
 | .iB k n cZ,v=>∃ aC:List Value,v=.func (.func k) #[] aC.toArray/\aC.length=n/\∀ i,i<n->bx P H κ F w (cZ i) (aC.getD i Go.undef)
 | .sf k n f,v=>∃ aC:List Value,v=.func (.func k) aC.toArray #[]/\aC.length=n/\∀ i,i<n->bx P H κ F w (f i) (aC.getD i Go.undef)
 | .qm n f,v=>∃ aC:List Value,v=.tuple aC.toArray/\aC.length=n/\∀ i,i<n->bx P H κ F w (f i) (aC.getD i Go.undef)
 | .agg n f,v=>∃ aC:List Value,v=.agg aC.toArray/\aC.length=n/\∀ i,i<n->bx P H κ F w (f i) (aC.getD i Go.undef)/\(aC.getD i Go.undef).oneCell'=true
 | .dm,v=>v=.slice none 0 0
 | .jE u,v=>v=u
 | .j8 b g,v=>(g<=(H b).gen/\v.oneCell'=true)/\(g=(H b).gen->(H b).body.mQ=true->v=.pointer (some ⟨(κ b).aa,0,none⟩))
 | .aW _ _ _ _ _,_=>True
 | .hg l,v=>v=.func (.yield l) #[] #[]
 | .xc e xs,v=>eo P (.slice e) F w v xs/\∃ q,v=.slice q xs.length xs.length
 | .sub b g aX G,v=>(g<=(H b).gen/\v.oneCell'=true)/\(g=(H b).gen->(H b).body.fe=true->(aX<=G/\G<=(H b).body.len)/\FU (κ b) (H b).body.eZ aX G v)
def fp(H:Nat->bJ)(κ:Nat->bA)(H':Nat->bJ)(κ':Nat->bA):Prop:=
 ∀ b,(H b).gen<=(H' b).gen/\((H b).gen=(H' b).gen->
  ((H' b).body.fH=true->(H b).body.fH=true/\(κ' b).aa=(κ b).aa)/\
  ((H' b).body.fe=true->(H b).body.fe=true/\κ' b=κ b/\(H' b).body.len=(H b).body.len/\(H' b).body.eZ=(H b).body.eZ)/\
  ((H' b).body.gW=true->(H b).body.gW=true/\(κ' b).aa=(κ b).aa)/\
  ((H' b).body.mQ=true->(H b).body.mQ=true/\(κ' b).aa=(κ b).aa))
theorem fp.refl(H:Nat->bJ)(κ:Nat->bA):fp H κ H κ:=λ_=>⟨Nat.le_refl _,λ_=>⟨λh=>⟨h,rfl⟩,λh=>⟨h,rfl,rfl,rfl⟩,λh=>⟨h,rfl⟩,λh=>⟨h,rfl⟩⟩⟩
def qn(x y:bJ)(k k':bA):Prop:=
 x.gen<=y.gen/\(x.gen=y.gen->
  (y.body.fH=true->x.body.fH=true/\k'.aa=k.aa)/\
  (y.body.fe=true->x.body.fe=true/\k'=k/\y.body.len=x.body.len/\y.body.eZ=x.body.eZ)/\
  (y.body.gW=true->x.body.gW=true/\k'.aa=k.aa)/\
  (y.body.mQ=true->x.body.mQ=true/\k'.aa=k.aa))
theorem qn.refl(x:bJ)(k:bA):qn x x k k:=⟨Nat.le_refl _,λ_=>⟨λh=>⟨h,rfl⟩,λh=>⟨h,rfl,rfl,rfl⟩,λh=>⟨h,rfl⟩,λh=>⟨h,rfl⟩⟩⟩
theorem Ci{H:Nat->bJ}{κ:Nat->bA}{H':Nat->bJ}{κ':Nat->bA}:fp H κ H' κ'<->∀ b,qn (H b) (H' b) (κ b) (κ' b):=Iff.rfl
theorem bx.later{P:Program}{H H':Nat->bJ}{κ κ':Nat->bA}{F F':Nat->Prop}{w w':World}(ai:fp H κ H' κ')(bm:∀ r,F r->F' r)(he:c1 F w w') :
  ∀ {a:aG} {v:Value},bx P H κ F w a v->bx P H' κ' F' w' a v:=by
 intro a;induction a with
 | undef=>intro v h;trivial
 | val t x=>intro v h;exact eo.mono h bm he
 | hD b a aH=>intro v h;exact⟨λW=>aH (h.1 W),h.2⟩
 | bc b g off=>
  intro v h;obtain⟨E,U⟩:=h;obtain⟨aQ,aV⟩:=ai b;refine⟨⟨Nat.le_trans E.1 aQ,E.2⟩,λaB hc=>?_⟩;grind
 | own b g=>
  intro v h;obtain⟨E,U⟩:=h;obtain⟨aQ,aV⟩:=ai b;refine⟨⟨Nat.le_trans E.1 aQ,E.2⟩,λaB hc=>?_⟩;grind
 | oF b g i off=>
  intro v h;obtain⟨E,U⟩:=h;obtain⟨aQ,aV⟩:=ai b;refine⟨⟨Nat.le_trans E.1 aQ,E.2⟩,λaB hc=>?_⟩;grind
 | iW b g i=>
  intro v h;obtain⟨E,U⟩:=h;obtain⟨aQ,aV⟩:=ai b;refine⟨⟨Nat.le_trans E.1 aQ,E.2⟩,λaB hc=>?_⟩;grind
 | dU t x=>
  intro v h;obtain⟨p,bh,E,U,ag⟩:=h;exact⟨p,bh,E,U.mono bm he,fb t bm he ag⟩
 | fG b g=>
  intro v h;obtain⟨E,U⟩:=h;obtain⟨aQ,aV⟩:=ai b;refine⟨⟨Nat.le_trans E.1 aQ,E.2⟩,λaB hc=>?_⟩;grind
 | j8 b g=>
  intro v h;obtain⟨E,U⟩:=h;obtain⟨aQ,aV⟩:=ai b;refine⟨⟨Nat.le_trans E.1 aQ,E.2⟩,λaB hc=>?_⟩;grind
 | sub b g aX G=>
  intro v h;obtain⟨E,U⟩:=h;obtain⟨aQ,aV⟩:=ai b;refine⟨⟨Nat.le_trans E.1 aQ,E.2⟩,λaB hc=>?_⟩;grind
 | aW l aJ L n st=>intro v _;trivial
 | hg l=>intro v h;exact h
 | xc e xs=>intro v h;exact⟨eo.mono h.1 bm he,h.2⟩
 | iB k n cZ aH=>
  intro v h;obtain⟨aC,E,U,ag⟩:=h;exact⟨aC,E,U,λi G=>aH i (ag i G)⟩
 | sf k n f aH=>
  intro v h;obtain⟨aC,E,U,ag⟩:=h;exact⟨aC,E,U,λi G=>aH i (ag i G)⟩
 | qm n f aH=>
  intro v h;obtain⟨aC,E,U,ag⟩:=h;exact⟨aC,E,U,λi G=>aH i (ag i G)⟩
 | agg n f aH=>
  intro v h;obtain⟨aC,E,U,ag⟩:=h;exact⟨aC,E,U,λi G=>⟨aH i (ag i G).1,(ag i G).2⟩⟩
 | dm=>intro v h;exact h
 | jE u=>intro v h;exact h
def vh(P:Program)(k v:ab)(F:Nat->Prop)(w:World)(es:Array MapEntry)(clk:Nat)(xs:List (k.aj×v.aj)):Prop:=
 es.size=xs.length/\(xs.map (·.1)).Nodup/\
 (∀ i (h:i<xs.length) (ds:i<es.size),kS k es[i].key/\bH P k F w es[i].key.cells.toList xs[i].1/\kS v es[i].val/\bH P v F w es[i].val.cells.toList xs[i].2/\es[i].born<clk)/\
 (∀ i j (h:i<es.size) (ds:j<es.size),es[i].born=es[j].born->i=j)
theorem vh.mono{P:Program}{k v:ab}{F F':Nat->Prop}{w w':World}{es:Array MapEntry}{clk:Nat}{xs:List (k.aj×v.aj)}(h:vh P k v F w es clk xs)(bm:∀ r,F r->F' r)(he:c1 F w w') :
  vh P k v F' w' es clk xs:=
 ⟨h.1,h.2.1,λi G dI=>let ⟨a,b,c,d,e⟩:=h.2.2.1 i G dI;⟨a,fb k bm he b,c,fb v bm he d,e⟩,h.2.2.2⟩
def lJ(P:Program)(e:ab)(F:Nat->Prop)(w:World)(cs:Array Value)(off:Nat)(xs:List e.aj):Prop:=
 ∀ i (h:i<xs.length),∃ bh,(∀ j (h:j<bh.length),cs[off+i*e.size+j]?=some bh[j])/\bH P e F w bh xs[i]
theorem lJ.mono{P:Program}{e:ab}{F F':Nat->Prop}{w w':World}{cs:Array Value}{off:Nat}{xs:List e.aj}(h:lJ P e F w cs off xs)(bm:∀ r,F r->F' r)(he:c1 F w w') :
  lJ P e F' w' cs off xs:=λi G=>let ⟨bh,a,b⟩:=h i G;⟨bh,a,fb e bm he b⟩
def zq(P:Program)(k v:ab)(F:Nat->Prop)(w:World)(e:MapEntry)(x:k.aj×v.aj):Prop:=
 kS k e.key/\bH P k F w e.key.cells.toList x.1/\kS v e.val/\bH P v F w e.val.cells.toList x.2
theorem zq.mono{P:Program}{k v:ab}{F F':Nat->Prop}{w w':World}{e:MapEntry}{x:k.aj×v.aj}(h:zq P k v F w e x)(bm:∀ r,F r->F' r)(he:c1 F w w'):zq P k v F' w' e x:=
 ⟨h.1,fb k bm he h.2.1,h.2.2.1,fb v bm he h.2.2.2⟩
def xd(P:Program)(k v:ab)(F:Nat->Prop)(w:World)(po:Nat)(cur:Option (k.aj×v.aj))(ck:List (k.aj×v.aj)):Prop:=
 (w.heap[po]?=some (.mapIter none 0 #[] 0)/\ck=[]/\cur=none)\/
 ∃ lK es clk seen,F lK/\w.heap[lK]?=some (.map es clk)/\w.heap[po]?=some (.mapIter (some lK) clk seen clk)/\
  (∀ i (h:i<es.size),es[i].born<clk)/\(∀ i j (h:i<es.size) (ds:j<es.size),es[i].born=es[j].born->i=j)/\
  (∃ ids:List Nat,ids.length=ck.length/\ids.Nodup/\(∀ i,i∈ids<->∃ h:i<es.size,seen.contains es[i].born=false)/\
   (∀ j (h:j<ids.length) (ds:j<ck.length),∃ G:ids[j]<es.size,zq P k v F w es[ids[j]] ck[j]))/\
  (∀ c,cur=some c->∃ i,∃ h:i<es.size,seen.back?=some es[i].born/\zq P k v F w es[i] c)
theorem xd.mono{P:Program}{k v:ab}{F F':Nat->Prop}{w w':World}{po:Nat}{cur:Option (k.aj×v.aj)}{ck:List (k.aj×v.aj)}(h:xd P k v F w po cur ck)(bm:∀ r,F r->F' r)(he:c1 F w w')
  (G:w'.heap[po]?=w.heap[po]?):xd P k v F' w' po cur ck:=by
 rcases h with⟨E,U⟩ | ⟨lK,es,clk,seen,E,U,ag,a6,bM,⟨ids,i1,i2,i3,i4⟩,gK⟩
 ·exact .inl ⟨G.trans E,U⟩
 ·exact .inr ⟨lK,es,clk,seen,bm _ E,(he.2 _ E).trans U,G.trans ag,a6,bM,⟨ids,i1,i2,i3,λj aE fR=>let ⟨a,b⟩:=i4 j aE fR;⟨a,b.mono bm he⟩⟩,λc hc=>let ⟨i,a,b,d⟩:=gK c hc;⟨i,a,b,d.mono bm he⟩⟩
def jF(P:Program)(H:Nat->bJ)(κ:Nat->bA)(F:Nat->Prop)(w:World)(k:bA):bP->Prop
 | .fx=>True
 | .cells t f=>∃ cs T,w.heap[k.aa]?=some (.cells cs T (0,0))/\cs.size=t.size/\∀ i,i<t.size->bx P H κ F w (f i) (cs.getD i Go.undef)/\(cs.getD i Go.undef).oneCell'=true
 | .bg e xs=>(k.e5=true->xs=[])/\(k.e5=false->∃ cs T,w.heap[k.aa]?=some (.cells cs T (0,0))/\k.off+k.cap*e.size<=cs.size/\xs.length<=k.cap/\k.cap<2 ^ 63/\lJ P e F w cs k.off xs)
 | .hE e xs=>bH P (.slice e) F w [k.slice xs.length] xs
 | .mp mn pq es=>∃ ms clk,w.heap[k.aa]?=some (.map ms clk)/\vh P mn pq F w ms clk es
 | .gL t x=>∃ bh,Holds F w ⟨k.aa,0,none⟩ bh/\bH P t F w bh x
 | .jk mn pq es=>bH P (.map mn pq) F w [.map (some k.aa)] es
 | .cq mn pq cur ck=>xd P mn pq F w k.aa cur ck
 | .gi e xs i v=>k.e5=false/\∃ cs T,w.heap[k.aa]?=some (.cells cs T (0,0))/\k.off+k.cap*e.size<=cs.size/\xs.length<=k.cap/\k.cap<2 ^ 63/\(e.size=1/\i<xs.length)/\
   (∀ j (h:j<xs.length),j≠i->∃ bh,(∀ q (h:q<bh.length),cs[k.off+j*e.size+q]?=some bh[q])/\bH P e F w bh xs[j])/\bx P H κ F w v (cs.getD (k.off+i) Go.undef)/\(cs.getD (k.off+i) Go.undef).oneCell'=true
def cC(P:Program)(H:Nat->bJ)(κ:Nat->bA)(F:Nat->Prop)(w:World)(b:Nat):Prop:=jF P H κ F w (κ b) (H b).body
theorem cC.lg{P:Program}{H H':Nat->bJ}{κ κ':Nat->bA}{F F':Nat->Prop}{w w':World}{b:Nat}(h:cC P H κ F w b)(ai:fp H κ H' κ')(bm:∀ r,F r->F' r)(he:c1 F w w')
  (W:(H' b).body=(H b).body) (al:κ' b=κ b) (hw:(H b).body.bY (κ b)=true->w'.heap[(κ b).aa]?=w.heap[(κ b).aa]?):cC P H' κ' F' w' b:=by
 unfold cC at *
 rw[W,al];cases bR:(H b).body with
 | fx=>trivial
 | cells n f=>
  rw[bR]at h hw;obtain⟨cs,T,E,U,ag⟩:=h;exact⟨cs,T,(hw rfl).trans E,U,λi G=>⟨bx.later ai bm he (ag i G).1,(ag i G).2⟩⟩
 | bg e xs=>
  rw[bR]at h hw;refine⟨h.1,λau=>?_⟩;obtain⟨cs,T,E,U,ag,a6,bM⟩:=h.2 au;exact⟨cs,T,(hw (by simp[bP.bY,au])).trans E,U,ag,a6,bM.mono bm he⟩
 | hE e xs=>
  rw[bR]at h;exact fb _ bm he h
 | mp mn pq es=>
  rw[bR]at h hw;obtain⟨ms,clk,E,U⟩:=h;exact⟨ms,clk,(hw rfl).trans E,U.mono bm he⟩
 | gL t x=>
  rw[bR]at h;obtain⟨bh,E,U⟩:=h;exact⟨bh,E.mono bm he,fb t bm he U⟩
 | jk mn pq es=>
  rw[bR]at h;exact fb (.map mn pq) bm he h
 | cq mn pq cur ck=>
  rw[bR]at h hw;exact xd.mono h bm he (hw rfl)
 | gi e xs i v=>
  rw[bR]at h hw;obtain⟨aT,cs,T,E,U,ag,a6,bM,dt,gK,iU⟩:=h;refine⟨aT,cs,T,(hw (by simp[bP.bY,aT])).trans E,U,ag,a6,bM,λj aE re=>?_,bx.later ai bm he gK,iU⟩;obtain⟨bh,d1,d2⟩:=dt j aE re;exact⟨bh,d1,fb e bm he d2⟩
structure dc(w w':World):Prop where
 os:w'.os=w.os
 tape:w'.tape=w.tape
 output:w'.output=w.output
theorem dc.refl(w:World):dc w w:=⟨rfl,rfl,rfl⟩
theorem dc.trans{a b c:World}(h:dc a b)(k:dc b c):dc a c:=⟨k.os.trans h.os,k.tape.trans h.tape,k.output.trans h.output⟩
structure lL where
 l:Nat
 aJ:ab
 S:List aJ.aj->Prop
 I:List aJ.aj->Bool->(Nat->Prop)->(Nat->Prop)->World->Prop
structure lL.hC(P:Program)(p:lL):Prop where
 Ce:∀ {pre st} {F F' Y:Nat->Prop} {w w':World},p.I pre st F Y w->(∀ r,F r->F' r)->(∀ r,F r\/Y r->w'.heap[r]?=w.heap[r]?)->w.heap.size<=w'.heap.size->dc w w'->(∀ r,F' r->r<w'.heap.size)->(∀ r,F' r->¬Y r)->p.I pre st F' Y w'
 yield:∀ {pre} {F Y:Nat->Prop} {w:World} {args:List Value} {x:p.aJ.aj},p.I pre false F Y w->(∀ r,F r->r<w.heap.size)->(∀ r,Y r->r<w.heap.size/\¬F r)->(∃ T,p.S (pre++x::T))->fo P p.aJ F w args x->
  YieldAt Fence.wide 0 P p.l args.toArray w λe w'=>∃ (b:Bool) (F' gB:Nat->Prop),e=.returned (.bool b)/\(∀ r,F r->F' r)/\(∀ r,F' r->F r\/Y r\/w.heap.size<=r)/\(∀ r,F' r->r<w'.heap.size)/\
   (∀ r,r<w.heap.size->¬Y r->w'.heap[r]?=w.heap[r]?)/\(∀ r,gB r->(Y r\/w.heap.size<=r)/\r<w'.heap.size/\¬F' r)/\w.heap.size<=w'.heap.size/\dc w w'/\p.I (pre++[x]) (!b) F' gB w'
def lL.at(p:lL)(aJ:ab)(pre:List aJ.aj)(st:Bool)(F Y:Nat->Prop)(w:World):Prop:=∃ h:aJ=p.aJ,p.I (h ▸ pre) st F Y w
theorem lL.zr{l:Nat}{aJ:ab}{S:List aJ.aj->Prop}{I}{pre:List aJ.aj}{st:Bool}{F Y:Nat->Prop}{w:World}:(lL.mk l aJ S I).at aJ pre st F Y w<->I pre st F Y w:=⟨λ⟨_,h⟩=>h,λh=>⟨rfl,h⟩⟩
theorem lL.hC.Kz{P:Program}{p:lL}(h:p.hC P){aJ:ab}{pre:List aJ.aj}{st}{F F' Y:Nat->Prop}{w w':World}:p.at aJ pre st F Y w->(∀ r,F r->F' r)->(∀ r,F r\/Y r->w'.heap[r]?=w.heap[r]?)->w.heap.size<=w'.heap.size->dc w w'->(∀ r,F' r->r<w'.heap.size)->(∀ r,F' r->¬Y r)->p.at aJ pre st F' Y w':=
 λ⟨e,E⟩ U ag a6 bM dt gK=>⟨e,h.Ce E U ag a6 bM dt gK⟩
def b4:Nat:=1000000
def eP:Nat:=100000
def xe:Nat:=200000
structure b8 where
 P:Program
 w0:World
 F0:Nat->Prop
 K0:Nat->Prop
 nt:Nat
 r:Option Nat
 dfr:List Deferred
 ik:Nat->Option Nat
 cc:lL
 aN:dC
 KA:Nat->Option (bA×Nat):=λ_=>none
def ac'(C:b8)(s:aA)(w:World)(κ:Nat->bA)(F:Nat->Prop):Prop:=
 ∀ l aJ L n st,s.ay b4=.aW l aJ L n st->(∃ I,C.cc=⟨l,aJ,L,I⟩)/\C.cc.hC C.P/\
  ∃ Y:Nat->Prop,(∀ r,Y r->r<w.heap.size/\¬F r/\¬C.K0 r)/\(∀ b,(s.aa b).body.bY (κ b)=true->¬Y (κ b).aa)/\C.cc.at aJ n st F Y w
structure bk(C:b8)(s:aA)(a:Act)(w:World)(κ:Nat->bA)(F:Nat->Prop):Prop where
 dD:a.tmps.size=C.nt
 dfr:a.defers=C.dfr
 bS:∀ i,bx C.P s.aa κ F w (s.ay i) (a.tmps.getD i Go.undef)
 bB:∀ b,cC C.P s.aa κ F w b
 own:∀ b,(s.aa b).body.bY (κ b)=true->(κ b).aa<w.heap.size/\¬F (κ b).aa/\¬C.K0 (κ b).aa
 inj:∀ b bd,(s.aa b).body.bY (κ b)=true->(s.aa bd).body.bY (κ bd)=true->(κ b).aa=(κ bd).aa->b=bd
 da:∀ r,F r->r<w.heap.size
 hh:∀ r,F r->C.F0 r\/¬C.K0 r
 hS:∀ r,C.F0 r->F r
 hv:∀ r,C.K0 r->r<C.w0.heap.size
 eG:∀ r,C.K0 r->w.heap[r]?=C.w0.heap[r]?
 size:C.w0.heap.size<=w.heap.size
 ep:dc C.w0 w
 gj:C.nt<=eP
 ku:∀ b r,C.ik b=some r->eP<=b
 jG:∀ b r,C.ik b=some r->(s.aa b).body.fH=true\/(s.aa b).body.gW=true->(κ b).aa=r
 j9:∀ b k,C.KA b=some k->xe<=b
 kv:∀ b k,C.KA b=some k->(s.aa b).gen=0->(s.aa b).body.fe=true->κ b=k.1/\(s.aa b).body.len=k.2
 eK:ac' C s w κ F
 jH:rb C.P C.aN
 iC:nR C.P F w
def cr(C:b8)(s:aA)(a:Act)(w:World):Prop:=∃ κ F,bk C s a w κ F
def aA.set(s:aA)(d:Option Nat)(v:aG):aA:=
 match d with
 | none=>s
 | some d=>{ s with ay:=λi=>if i=d then v else s.ay i }
def aA.cw(s:aA)(b:Nat)(x:bJ):aA:={ s with aa:=λi=>if i=b then x else s.aa i }
theorem ada{a:Act}{d:Nat}{v:Value}(aq:d<a.tmps.size)(i:Nat):(a.put (some d) v).tmps.getD i Go.undef=if i=d then v else a.tmps.getD i Go.undef:=by
 simp only[Act.put,Array.getD_eq_getD_getElem?,Array.getElem?_setIfInBounds];grind
theorem bk.set{C:b8}{s:aA}{a:Act}{w:World}{κ:Nat->bA}{F:Nat->Prop}(h:bk C s a w κ F){d:Option Nat}(aq:∀ i,d=some i->i<C.nt){av:aG}{v:Value}
  (ae:bx C.P s.aa κ F w av v):bk C (s.set d av) (a.put d v) w κ F:=by
 cases d with
 | none=>exact h
 | some d=>
  have xf:=aq d rfl;have au:=h.gj;refine { h with dD:=by simpa [Act.put]using h.dD,dfr:=h.dfr,bS:=λi=>?_,eK:=λl aJ L n st e=>?_ }
  ·rw[ada (by rw[h.dD];omega)];simp only[aA.set];by_cases G:i=d
   ·grind
   ·rw[if_neg G,if_neg G];exact h.bS i
  ·simp only[aA.set]at e;rw[if_neg (by unfold b4 eP at *;omega)]at e;exact h.eK l aJ L n st e
theorem bk.move{C:b8}{s:aA}{a:Act}{w:World}{κ:Nat->bA}{F:Nat->Prop}(h:bk C s a w κ F){H':Nat->bJ}{κ':Nat->bA}{F':Nat->Prop}{w':World}
  (ai:fp s.aa κ H' κ') (bm:∀ r,F r->F' r) (tM:∀ r,F' r->F r\/(∃ b,(s.aa b).body.bY (κ b)=true/\(κ b).aa=r)\/w.heap.size<=r)
  (cd:w.heap.size<=w'.heap.size) (hw:∀ r,r<w.heap.size->(∀ b,(s.aa b).body.bY (κ b)=true->(κ b).aa≠r)->w'.heap[r]?=w.heap[r]?) (hc:dc w w')
  (W:c1 F w w'->∀ b,cC C.P H' κ' F' w' b)
  (af:∀ b,(H' b).body.bY (κ' b)=true->(κ' b).aa<w'.heap.size/\¬F' (κ' b).aa/\((∃ b0,(s.aa b0).body.bY (κ b0)=true/\(κ b0).aa=(κ' b).aa)\/w.heap.size<=(κ' b).aa))
  (G:∀ b bd,(H' b).body.bY (κ' b)=true->(H' bd).body.bY (κ' bd)=true->(κ' b).aa=(κ' bd).aa->b=bd)
  (aD:∀ r,F' r->r<w'.heap.size)
  (adb:∀ b,eP<=b->(H' b).body.fH=true\/(H' b).body.gW=true->κ' b=κ b/\((s.aa b).body.fH=true\/(s.aa b).body.gW=true)):bk C ⟨s.ay,H'⟩ a w' κ' F':=by
 have ade:∀ r,C.K0 r->(∀ b,(s.aa b).body.bY (κ b)=true->(κ b).aa≠r):=λr M b W e=>(h.own b W).2.2 (e ▸ M);have al:∀ r,C.K0 r->w'.heap[r]?=w.heap[r]?:=λr M=>hw r (Nat.lt_of_lt_of_le (h.hv r M) h.size) (ade r M);have zt:∀ r,w.heap.size<=r->¬C.K0 r:=λr M al=>by have:=h.hv r al;have:=h.size;omega
 have he:c1 F w w':=⟨cd,λr M=>hw r (h.da r M) λb W e=>(h.own b W).2.1 (e ▸ M)⟩
 refine { dD:=h.dD,dfr:=h.dfr,bS:=λi=>bx.later ai bm he (h.bS i),bB:=W he,own:=λb W=>?_,inj:=G,da:=aD,hh:=λr M=>?_,hS:=λr M=>bm r (h.hS r M),hv:=h.hv,eG:=λr M=>(al r M).trans (h.eG r M),size:=Nat.le_trans h.size cd,ep:=h.ep.trans hc,gj:=h.gj,ku:=h.ku,jG:=λb r M hc=>?_,j9:=h.j9,kv:=λb k al aT a8=>?_,eK:=λl aJ L n st e=>?_,jH:=h.jH,iC:=h.iC.mono bm he }
 ·grind
 ·rcases tM r M with E | ⟨b,E,rfl⟩ | E
  ·exact h.hh r E
  ·exact .inr (h.own b E).2.2
  ·exact .inr (zt r E)
 ·obtain⟨aQ,aV⟩:=adb b (h.ku b r M) hc;rw[aQ];exact h.jG b r M aV
 ·obtain⟨g1,eh⟩:=ai b;have aT:(H' b).gen=0:=aT;have a8:(H' b).body.fe=true:=a8;obtain⟨b',a2,a3,_⟩:=(eh (by omega)).2.1 a8;obtain⟨aQ,aV⟩:=h.kv b k al (by omega) b';grind
 ·obtain⟨E,U,Y,ag,a6,bM⟩:=h.eK l aJ L n st e;have axT:∀ r,Y r->w'.heap[r]?=w.heap[r]?:=λr M=>hw r (ag r M).1 λb W e=>a6 b W (e ▸ M);have Cj:∀ r,Y r->¬F' r:=λr M ar=>by
   grind
  refine⟨E,U,Y,λr M=>⟨Nat.lt_of_lt_of_le (ag r M).1 cd,Cj r M,(ag r M).2.2⟩,λb W aR=>?_,U.Kz bM bm (λr M=>?_) cd hc aD λr ar aR=>Cj r aR ar⟩
  ·grind
  ·rcases M with M | M
   ·exact he.2 r M
   grind
theorem pr(w:World)(o:Obj){r:Nat}(h:r<w.heap.size):(w.alloc o).heap[r]?=w.heap[r]?:=Below.heap_alloc w o r h
theorem qo(w:World)(o:Obj):(w.alloc o).heap[w.heap.size]?=some o:=by
 show (w.heap.push o)[w.heap.size]?=_;simp
theorem c1.alloc{F:Nat->Prop}{w:World}(aD:∀ r,F r->r<w.heap.size)(o:Obj):c1 F w (w.alloc o):=
 ⟨by simp,λr M=>pr w o (aD r M)⟩
theorem zu{H:Nat->bJ}{κ κ':Nat->bA}{b:Nat}{x:bJ}(aB:(H b).gen<x.gen)(Ck:∀ bd,bd≠b->κ' bd=κ bd) :
  fp H κ (λi=>if i=b then x else H i) κ':=by
 rw[Ci];intro i;by_cases G:i=b
 ·subst G;simp only[if_true];exact⟨by omega,λh=>by omega⟩
 ·simp only[if_neg G];rw[Ck i G];exact qn.refl _ _
theorem zv{H:Nat->bJ}{κ κ':Nat->bA}{b:Nat}{x:bJ}(W:b<eP\/(x.body.fH=false/\x.body.gW=false))(Ck:∀ bd,bd≠b->κ' bd=κ bd) :
  ∀ i,eP<=i->(if i=b then x else H i).body.fH=true\/(if i=b then x else H i).body.gW=true->κ' i=κ i/\((H i).body.fH=true\/(H i).body.gW=true):=by
 grind
theorem bk.alloc{C:b8}{s:aA}{a:Act}{w:World}{κ:Nat->bA}{F:Nat->Prop}(h:bk C s a w κ F){b:Nat}{x:bJ}(Cl:b<eP)(aB:(s.aa b).gen<x.gen)
  {o:Obj} {k:bA} (al:k.aa=w.heap.size)
  (ah:∀ (H:Nat->bJ) (κ':Nat->bA),H=(λi=>if i=b then x else s.aa i)->κ'=(λi=>if i=b then k else κ i)->fp s.aa κ H κ'->jF C.P H κ' F (w.alloc o) k x.body) :
  bk C (s.cw b x) a (w.alloc o) (λi=>if i=b then k else κ i) F:=by
 have ai:fp s.aa κ (λi=>if i=b then x else s.aa i) (λi=>if i=b then k else κ i):=zu aB λbd dd=>by grind
 refine h.move (H':=λi=>if i=b then x else s.aa i) ai (λ_ M=>M) (λ_ M=>.inl M) (by simp) (λr M _=>pr w o M) ⟨rfl,rfl,rfl⟩ (λhe=>?_) ?_ ?_ ?_ (zv (.inl Cl) λbd dd=>by grind)
 ·intro i;by_cases G:i=b
  ·subst G;simp only[cC,if_true];grind
  ·refine cC.lg (h.bB i) ai (λ_ M=>M) he (by grind) (by grind) λaf=>?_;exact pr w o (h.own i af).1
 ·intro i G;by_cases eL:i=b
  ·subst eL;simp only[if_true]at G ⊢;refine⟨by simp_all,λar=>?_,.inr (by omega)⟩;have:=h.da _ ar;omega
  ·simp only[if_neg eL]at G ⊢;have:=h.own i G;exact⟨by simp;omega,this.2.1,.inl ⟨i,G,rfl⟩⟩
 ·intro i j G aE e;by_cases eL:i=b<;>by_cases mo:j=b
  ·omega
  ·simp only[if_pos eL,if_neg mo]at G aE e;have:=(h.own j aE).1;omega
  ·simp only[if_neg eL,if_pos mo]at G aE e;have:=(h.own i G).1;omega
  ·simp only[if_neg eL,if_neg mo]at G aE e;exact h.inj i j G aE e
 ·intro r M;have:=h.da r M;simp;omega
theorem rf{H:Nat->bJ}{κ:Nat->bA}{b:Nat}{x:bJ}(aB:x.gen=(H b).gen)(E:x.body.fH=true->(H b).body.fH=true)
  (U:x.body.fe=true->(H b).body.fe=true/\x.body.len=(H b).body.len/\x.body.eZ=(H b).body.eZ) (ag:x.body.gW=true->(H b).body.gW=true)
  (a6:x.body.mQ=true->(H b).body.mQ=true) :
  fp H κ (λi=>if i=b then x else H i) κ:=by
 rw[Ci];intro i;by_cases G:i=b
 ·subst G;simp only[if_true];exact⟨by omega,λ_=>⟨λh=>⟨E h,rfl⟩,λh=>⟨(U h).1,rfl,(U h).2⟩,λh=>⟨ag h,rfl⟩,λh=>⟨a6 h,rfl⟩⟩⟩
 ·simp only[if_neg G];exact qn.refl _ _
theorem adf{H:Nat->bJ}{κ:Nat->bA}{b:Nat}{x:bJ}(E:x.body.fH=true->(H b).body.fH=true)(ag:x.body.gW=true->(H b).body.gW=true) :
  ∀ i,eP<=i->(if i=b then x else H i).body.fH=true\/(if i=b then x else H i).body.gW=true->κ i=κ i/\((H i).body.fH=true\/(H i).body.gW=true):=by
 grind
theorem bk.pt{C:b8}{s:aA}{a:Act}{w w':World}{κ:Nat->bA}{F:Nat->Prop}(h:bk C s a w κ F){b:Nat}{x:bJ}
  (gl:(s.aa b).body.bY (κ b)=true) (zw:x.body.bY (κ b)=true) (ai:fp s.aa κ (λi=>if i=b then x else s.aa i) κ)
  (E:x.body.fH=true->(s.aa b).body.fH=true) (ag:x.body.gW=true->(s.aa b).body.gW=true)
  (hw:∀ r,r≠(κ b).aa->w'.heap[r]?=w.heap[r]?) (cd:w'.heap.size=w.heap.size) (hc:dc w w')
  (ah:∀ (H:Nat->bJ),H=(λi=>if i=b then x else s.aa i)->fp s.aa κ H κ->c1 F w w'->jF C.P H κ F w' (κ b) x.body) :
  bk C (s.cw b x) a w' κ F:=by
 have af:=h.own b gl;refine h.move (H':=λi=>if i=b then x else s.aa i) ai (λ_ M=>M) (λ_ M=>.inl M) (by omega) (λr _ M=>hw r λe=>M b gl e.symm) hc (λhe=>?_) ?_ ?_ (λr M=>by rw[cd];exact h.da r M) (adf E ag)
 ·intro i;by_cases G:i=b
  ·subst G;simp only[cC,if_true];grind
  ·refine cC.lg (h.bB i) ai (λ_ M=>M) he (by grind) rfl λadg=>hw _ λe=>G (h.inj i b adg gl e)
 ·intro i G;by_cases eL:i=b
  ·grind
  ·simp only[if_neg eL]at G;have:=h.own i G;grind
 ·intro i j G aE e;have dI:(s.aa i).body.bY (κ i)=true:=by
   grind
  have fR:(s.aa j).body.bY (κ j)=true:=by
   grind
  exact h.inj i j dI fR e
theorem bk.drew{C:b8}{s:aA}{a:Act}{w:World}{κ:Nat->bA}{F:Nat->Prop}(h:bk C s a w κ F):bk C s a w.drew κ F:=
 h.move (H':=s.aa) (fp.refl _ _) (λ_ M=>M) (λ_ M=>.inl M) (Nat.le_refl _) (λ_ _ _=>rfl) ⟨rfl,rfl,rfl⟩
  (λ_ b=>cC.lg (h.bB b) (fp.refl _ _) (λ_ M=>M) ⟨Nat.le_refl _,λ_ _=>rfl⟩ rfl rfl λ_=>rfl) (λb W=>⟨(h.own b W).1,(h.own b W).2.1,.inl ⟨b,W,rfl⟩⟩) h.inj h.da (λ_ _ h=>⟨rfl,h⟩)
def aA.le(s' s:aA):Prop:=(∀ i,s'.ay i=s.ay i\/s'.ay i=.undef)/\∀ b,s'.aa b=s.aa b\/s'.aa b=⟨(s.aa b).gen,.fx⟩
theorem bk.zx{C:b8}{s s':aA}{a:Act}{w:World}{κ:Nat->bA}{F:Nat->Prop}(h:bk C s a w κ F)(aD:s'.le s):bk C s' a w κ F:=by
 have gl:∀ b,(s'.aa b).body.bY (κ b)=true->(s.aa b).body.bY (κ b)=true:=λb W=>by
  rcases aD.2 b with e | e
  ·grind
  ·rw[e]at W;cases W
 have ai:fp s.aa κ s'.aa κ:=λb=>by
  rcases aD.2 b with e | e
  ·grind
  ·rw[e];exact⟨Nat.le_refl _,λ_=>⟨λh=>(by cases h),λh=>(by cases h),λh=>(by cases h),λh=>(by cases h)⟩⟩
 have U:=h.move ai (λ_ M=>M) (λ_ M=>.inl M) (Nat.le_refl _) (λ_ _ _=>rfl) (dc.refl _)
  (λ_ b=>by
   rcases aD.2 b with e | e
   ·exact cC.lg (h.bB b) ai (λ_ M=>M) (c1.refl _ _) (by rw[e]) rfl λ_=>rfl
   ·unfold cC;rw[e];trivial)
  (λb W=>⟨(h.own b (gl b W)).1,(h.own b (gl b W)).2.1,.inl ⟨b,gl b W,rfl⟩⟩) (λb bd W dd=>h.inj b bd (gl b W) (gl bd dd)) h.da (λb _ W=>⟨rfl,by
   rcases aD.2 b with e | e
   ·grind
   ·rw[e]at W;simp[bP.fH,bP.gW]at W⟩)
 refine { U with bS:=λi=>?_,dD:=U.dD,dfr:=U.dfr,eK:=λl aJ L n st e=>?_ }
 ·rcases aD.1 i with e | e
  ·rw[e];exact U.bS i
  ·rw[e];trivial
 ·rcases aD.1 b4 with k | k
  ·exact U.eK l aJ L n st (k ▸ e)
  grind
end Go.Fer
namespace Go.Fer
inductive ao(ak:Type) where
 | ret (a:ak)
 | eQ (b:Nat) (k:bJ->ao ak)
def ao.run{ak:Type}(H:Nat->bJ):ao ak->ak
 | .ret a=>a
 | .eQ b k=>(k (H b)).run H
def ao.looks{ak:Type}(H:Nat->bJ):ao ak->List Nat
 | .ret _=>[]
 | .eQ b k=>b::(k (H b)).looks H
def ao.bind{ak β:Type}:ao ak->(ak->ao β)->ao β
 | .ret a,f=>f a
 | .eQ b k,f=>.eQ b λx=>(k x).bind f
def ao.map{ak β:Type}(f:ak->β)(m:ao ak):ao β:=m.bind λa=>.ret (f a)
def ao.none{ak:Type}:ao (Option ak):=.ret Option.none
def ao.cP{ak β:Type}(m:ao (Option ak))(f:ak->ao (Option β)):ao (Option β):=m.bind fun | some a=>f a | Option.none=>.none
@[simp] theorem ao.bL {ak:Type} (H:Nat->bJ) (a:ak):(ao.ret a).run H=a:=rfl
@[simp] theorem ao.e0 {ak:Type} (H:Nat->bJ) (b:Nat) (k:bJ->ao ak):(ao.eQ b k).run H=(k (H b)).run H:=rfl
theorem ao.run_bind{ak β:Type}(H:Nat->bJ)(m:ao ak)(f:ak->ao β):(m.bind f).run H=(f (m.run H)).run H:=by
 induction m with
 | ret a=>rfl
 | eQ b k aH=>simp[ao.bind,aH]
theorem ao.e1{ak β:Type}(H:Nat->bJ)(m:ao (Option ak))(f:ak->ao (Option β)):(m.cP f).run H=(m.run H).bind λa=>(f a).run H:=by
 unfold ao.cP;rw[ao.run_bind];cases m.run H<;>rfl
theorem ao.Rx{ak:Type}{H H':Nat->bJ}:∀ (m:ao ak),(∀ b∈m.looks H,H' b=H b)->m.run H'=m.run H/\m.looks H'=m.looks H
 | .ret a,_=>⟨rfl,rfl⟩
 | .eQ b k,h=>by
  have W:=h b (by simp[ao.looks]);have:=ao.Rx (k (H b)) λc hc=>h c (by simp[ao.looks,hc]);simp only[ao.run,ao.looks,W,this];simp
def eR(t cV:ab)(x:t.aj):Option cV.aj:=if h:t=cV then some (h ▸ x) else none
theorem kT{t cV:ab}{x:t.aj}{y:cV.aj}(h:eR t cV x=some y):∃ e:t=cV,y=e ▸ x:=by
 unfold eR at h;grind
def Cm:(t:ab)->Value->Option t.aj
 | .bG _,.pointer Option.none=>some Option.none
 | .map _ _,.map Option.none=>some []
 | .en,.nilFunc=>some Option.none
 | _,_=>Option.none
def ab.isAgg:ab->Bool
 | .st _ | .array _ _=>true
 | _=>false
def dV(t:ab):aG->ao (Option (t.aj×List Nat))
 | .val cV x=>.ret ((eR cV t x).map (·,[]))
 | .dm=>match t with
  | .slice _=>.ret (some ([],[]))
  | _=>.none
 | .own b g=>match t with
  | .slice e=>.eQ b λx=>.ret (if x.gen=g then (match x.body with
    | .bg aY xs=>(eR (.slice aY) (.slice e) xs).map (·,[b])
    | .hE aY xs=>(eR (.slice aY) (.slice e) xs).map (·,[])
    | _=>Option.none) else Option.none)
  | _=>.none
 | .sub b g aX G=>match t with
  | .slice e=>.eQ b λx=>.ret (if x.gen=g then (match x.body with
    | .bg aY xs=>(eR (.slice aY) (.slice e) ((xs.take G).drop aX)).map (·,[b])
    | .hE aY xs=>(eR (.slice aY) (.slice e) ((xs.take G).drop aX)).map (·,[])
    | _=>Option.none) else Option.none)
  | _=>.none
 | .fG b g=>match t with
  | .map k v=>.eQ b λx=>.ret (if x.gen=g then (match x.body with
    | .mp k' h7 es=>(eR (.map k' h7) (.map k v) es).map (·,[b])
    | .jk k' h7 es=>(eR (.map k' h7) (.map k v) es).map (·,[])
    | _=>Option.none) else Option.none)
  | _=>.none
 | .dU cV x=>match t with
  | .bG e=>.ret ((eR (.bG cV) (.bG e) (some x)).map (·,[]))
  | _=>.none
 | .jE v=>.ret ((Cm t v).map (·,[]))
 | .iB k n _=>match t with
  | .en=>if n=0 then .ret (some (some k,[])) else .none
  | _=>.none
 | _=>.none
def tQ(e:ab)(cg:List aG->ao (Option (e.aj×List Nat×List aG)))(av:aG):ao (Option (Option e.aj×List Nat)):=
 match av with
 | .bc b g off=>.eQ b λx=>if x.gen=g/\off=0 then (match x.body with
   | .gL cV y=>.ret ((eR cV e y).map λz=>(some z,[]))
   | .cells cV f=>if cV=e then (cg ((List.range e.size).map f)).cP λ(y,l,r)=>.ret (if r.isEmpty then some (some y,b::l) else Option.none) else .none
   | _=>.none) else .none
 | av=>dV (.bG e) av
def il:(t:ab)->List aG->ao (Option (t.aj×List Nat×List aG))
 | .cS,cs=>.ret (some ((),[],cs))
 | .st t,cs=>il t cs
 | .az a b,cs=>(il a cs).cP λ(x,l,r)=>(il b r).cP λ(y,m,q)=>.ret (some ((x,y),l++m,q))
 | .array n e,cs=>n.rec (motive:=λ_=>List aG->ao (Option (List e.aj×List Nat×List aG))) (λcs=>.ret (some ([],[],cs)))
   (λ_ aH cs=>(il e cs).cP λ(x,l,r)=>(aH r).cP λ(xs,m,q)=>.ret (some (x::xs,l++m,q))) cs
 | .bool,cs=>match cs with | c::r=>(dV .bool c).map λo=>o.map λ(x,l)=>(x,l,r) | []=>.none
 | .int k,cs=>match cs with | c::r=>(dV (.int k) c).map λo=>o.map λ(x,l)=>(x,l,r) | []=>.none
 | .str,cs=>match cs with | c::r=>(dV .str c).map λo=>o.map λ(x,l)=>(x,l,r) | []=>.none
 | .slice e,cs=>match cs with | c::r=>(dV (.slice e) c).map λo=>o.map λ(x,l)=>(x,l,r) | []=>.none
 | .bG e,cs=>match cs with | c::r=>(tQ e (il e) c).map λo=>o.map λ(x,l)=>(x,l,r) | []=>.none
 | .map k v,cs=>match cs with | c::r=>(dV (.map k v) c).map λo=>o.map λ(x,l)=>(x,l,r) | []=>.none
 | .fn a b,cs=>match cs with | c::r=>(dV (.fn a b) c).map λo=>o.map λ(x,l)=>(x,l,r) | []=>.none
 | .cq a,cs=>match cs with | c::r=>(dV (.cq a) c).map λo=>o.map λ(x,l)=>(x,l,r) | []=>.none
 | .en,cs=>match cs with | c::r=>(dV .en c).map λo=>o.map λ(x,l)=>(x,l,r) | []=>.none
def kx(t:ab)(av:aG):ao (Option (t.aj×List Nat)):=
 match t with
 | .bG e=>tQ e (il e) av
 | t=>if t.eF then dV t av else .none
def dy(t:ab)(av:aG):ao (Option (t.aj×List Nat)):=
 match av with
 | .val cV x=>.ret ((eR cV t x).map (·,[]))
 | .agg n f=>if t.eF then .none else (il t ((List.range n).map f)).cP λ(x,l,r)=>.ret (if r.isEmpty&&t.isAgg then some (x,l) else Option.none)
 | _=>kx t av
def nS:(t:ab)->t.aj->List aG
 | .cS,_=>[]
 | .st t,x=>nS t x
 | .az a b,x=>nS a x.1++nS b x.2
 | .array n e,xs=>(List.range n).flatMap λi=>nS e (List.getD xs i e.de)
 | .bool,x=>[.val .bool x]
 | .int k,x=>[.val (.int k) x]
 | .str,x=>[.val .str x]
 | .slice e,x=>[.val (.slice e) x]
 | .bG e,x=>[.val (.bG e) x]
 | .map k v,x=>[.val (.map k v) x]
 | .fn a b,x=>[.val (.fn a b) x]
 | .cq a,x=>[.val (.cq a) x]
 | .en,x=>[.val .en x]
def sg:ab->List aG
 | .cS=>[]
 | .st t=>sg t
 | .az a b=>sg a++sg b
 | .array n e=>(List.range n).flatMap λ_=>sg e
 | .bool=>[.val .bool false]
 | .int k=>[.val (.int k) (0:Int)]
 | .str=>[.val .str []]
 | .slice _=>[.dm]
 | .bG e=>[.val (.bG e) Option.none]
 | .map k v=>[.val (.map k v) []]
 | .fn _ _=>[.jE .nilFunc]
 | .cq _=>[.jE .nilFunc]
 | .en=>[.val .en Option.none]
def hi(l:List aG)(i:Nat):aG:=l.getD i .undef
def mq:ab->Nat->Option (ab×Nat)
 | .az a _,0=>some (a,0)
 | .az a b,f+1=>(mq b f).map λ(t,o)=>(t,a.size+o)
 | .cS,_=>Option.none
 | t,0=>some (t,0)
 | _,_+1=>Option.none
def vi:(t:ab)->t.aj->Nat->Option ((s:ab)×s.aj)
 | .az a _,x,0=>some ⟨a,x.1⟩
 | .az _ b,x,f+1=>vi b x.2 f
 | .cS,_,_=>Option.none
 | t,x,0=>some ⟨t,x⟩
 | _,_,_+1=>Option.none
def si:(t:ab)->t.aj->Nat->(s:ab)->Option s.aj
 | .st t,x,off,s=>if off=0/\ab.st t=s then eR (.st t) s x else si t x off s
 | .az a b,x,off,s=>if off<a.size then si a x.1 off s else si b x.2 (off - a.size) s
 | .cS,_,_,_=>Option.none
 | .array _ _,_,_,_=>Option.none
 | .bool,x,off,s=>if off=0 then eR .bool s x else Option.none
 | .int k,x,off,s=>if off=0 then eR (.int k) s x else Option.none
 | .str,x,off,s=>if off=0 then eR .str s x else Option.none
 | .slice e,x,off,s=>if off=0 then eR (.slice e) s x else Option.none
 | .bG e,x,off,s=>if off=0 then eR (.bG e) s x else Option.none
 | .map k v,x,off,s=>if off=0 then eR (.map k v) s x else Option.none
 | .fn a b,x,off,s=>if off=0 then eR (.fn a b) s x else Option.none
 | .cq a,x,off,s=>if off=0 then eR (.cq a) s x else Option.none
 | .en,x,off,s=>if off=0 then eR .en s x else Option.none
def xg:(t:ab)->t.aj->Nat->(s:ab)->s.aj->Option t.aj
 | .st t,x,off,s,y=>if off=0/\s=ab.st t then eR s (.st t) y else xg t x off s y
 | .az a b,x,off,s,y=>if off<a.size then (xg a x.1 off s y).map (·,x.2) else (xg b x.2 (off - a.size) s y).map (x.1,·)
 | .cS,_,_,_,_=>Option.none
 | .array _ _,_,_,_,_=>Option.none
 | .bool,_,off,s,y=>if off=0 then eR s .bool y else Option.none
 | .int k,_,off,s,y=>if off=0 then eR s (.int k) y else Option.none
 | .str,_,off,s,y=>if off=0 then eR s .str y else Option.none
 | .slice e,_,off,s,y=>if off=0 then eR s (.slice e) y else Option.none
 | .bG e,_,off,s,y=>if off=0 then eR s (.bG e) y else Option.none
 | .map k v,_,off,s,y=>if off=0 then eR s (.map k v) y else Option.none
 | .fn a b,_,off,s,y=>if off=0 then eR s (.fn a b) y else Option.none
 | .cq a,_,off,s,y=>if off=0 then eR s (.cq a) y else Option.none
 | .en,_,off,s,y=>if off=0 then eR s .en y else Option.none
def lM(k:IntKind)(a b:Int):Int:=k.wrap (BitVec.ofInt k.bits a&&& BitVec.ofInt k.bits b).toNat
def Ry(k:IntKind)(a b:Int):Int:=k.wrap (BitVec.ofInt k.bits a||| BitVec.ofInt k.bits b).toNat
def Rz(k:IntKind)(a b:Int):Int:=k.wrap (BitVec.ofInt k.bits a ^^^ BitVec.ofInt k.bits b).toNat
def RA(k:IntKind)(a b:Int):Int:=k.wrap (BitVec.ofInt k.bits a&&& ~~~BitVec.ofInt k.bits b).toNat
def adh(k:IntKind)(a b:Int):Int:=k.wrap (a*2 ^ (min b.toNat k.bits))
def jl(k:IntKind)(a b:Int):Int:=a.fdiv (2 ^ (min b.toNat k.bits))
def kU(t:ab)(xs:List t.aj)(i:Int):t.aj:=xs.getD i.toNat t.de
def b9(n:Nat):Prop:=n<=4294967296
def gM:(t:ab)->t.aj->t.aj->Bool
 | .bool,x,y=>x == y
 | .int _,x,y=>decide ((x:Int)=y)
 | .str,x,y=>decide ((x:List UInt8)=y)
 | .st t,x,y=>gM t x y
 | .az a b,x,y=>gM a x.1 y.1&&gM b x.2 y.2
 | _,_,_=>false
def ab.kV:ab->Bool
 | .bool | .int _ | .str=>true
 | .st t=>t.kV
 | .az a b=>a.kV&&b.kV
 | _=>false
end Go.Fer
namespace Go.Fer
open Go.RowKit
section
variable {P:Program} {H:Nat->bJ} {κ:Nat->bA} {F F':Nat->Prop} {w:World}
def eu(P:Program)(H:Nat->bJ)(κ:Nat->bA)(F:Nat->Prop)(w:World):List aG->List Value->Prop
 | [],[]=>True
 | a::as,v::aC=>(bx P H κ F w a v/\v.oneCell'=true)/\eu P H κ F w as aC
 | _,_=>False
theorem eu.append:∀ {as bs:List aG} {us aC:List Value},eu P H κ F w as us->eu P H κ F w bs aC->eu P H κ F w (as++bs) (us++aC)
 | [],_,[],_,_,k=>k
 | _::_,_,_::_,_,h,k=>⟨h.1,eu.append h.2 k⟩
 | [],_,_::_,_,h,_=>h.elim
 | _::_,_,[],_,h,_=>h.elim
theorem eu.len:∀ {as:List aG} {us:List Value},eu P H κ F w as us->as.length=us.length
 | [],[],_=>rfl
 | _::_,_::_,h=>by simp[eu.len h.2]
 | [],_::_,h=>h.elim
 | _::_,[],h=>h.elim
theorem eu.kU:∀ {as:List aG} {us:List Value},eu P H κ F w as us->∀ i,i<as.length->bx P H κ F w (hi as i) (us.getD i Go.undef)/\(us.getD i Go.undef).oneCell'=true
 | a::as,v::aC,h,0,_=>h.1
 | a::as,v::aC,h,i+1,G=>by
  have:=eu.kU h.2 i (by grind);simpa [hi]using this
 | [],[],_,i,G=>by grind
 | [],_::_,h,_,_=>h.elim
 | _::_,[],h,_,_=>h.elim
theorem eu.RB:∀ {as:List aG} {us:List Value},as.length=us.length->(∀ i,i<as.length->bx P H κ F w (hi as i) (us.getD i Go.undef)/\(us.getD i Go.undef).oneCell'=true)->eu P H κ F w as us
 | [],[],_,_=>trivial
 | a::as,v::aC,ai,h=>⟨h 0 (by simp),eu.RB (by grind) λi G=>by have:=h (i+1) (by grind);simpa [hi]using this⟩
 | [],_::_,ai,_=>by grind
 | _::_,[],ai,_=>by grind
theorem zy:∀ (t:ab) {cs:List Value} {x:t.aj},bH P t F w cs x->eu P H κ F w (nS t x) cs:=by
 have eM:∀ (t:ab),t.eF=true->∀ {cs:List Value} {x:t.aj},bH P t F w cs x->eu P H κ F w [.val t x] cs:=by
  intro t aL cs x h;obtain⟨u,rfl,hu⟩:=Ch aL h;exact⟨⟨(dT aL).2 ⟨hu,h⟩,Ky aL h⟩,trivial⟩
 intro t;induction t with
 | bool=>intro cs x h;exact eM _ rfl h
 | int k=>intro cs x h;exact eM (.int k) rfl h
 | str=>intro cs x h;exact eM _ rfl h
 | cS=>intro cs x h;simp only[bH]at h;subst h;trivial
 | st t aH=>intro cs x h;simp only[bH]at h;exact aH h
 | az a b fw eJ=>
  intro cs x h;simp only[bH]at h;obtain⟨c,d,rfl,a8,W⟩:=h;exact (fw a8).append (eJ W)
 | slice e aH=>intro cs x h;exact eM (.slice e) rfl h
 | array n e aH=>
  intro cs xs h;simp only[bH]at h;obtain⟨fm,rfl,E,U,ag⟩:=h;simp only[nS];have key:∀ (k:Nat) (l:List (List Value)),(∀ i (G:i<l.length),eu P H κ F w (nS e (List.getD xs (k+i) e.de)) l[i])->eu P H κ F w ((List.range' k l.length).flatMap λi=>nS e (List.getD xs i e.de)) l.flatten:=by
   intro k l;induction l generalizing k with
   | nil=>intro _;trivial
   | cons c l adi=>
    intro cT;simp only[List.length_cons,List.range'_succ,List.flatMap_cons,List.flatten_cons];refine eu.append ?_ (adi (k+1) λi G=>?_)
    ·have:=cT 0 (by simp);grind
    ·have:=cT (i+1) (by grind);grind
  rw[List.range_eq_range',<-E];grind
 | bG e aH=>intro cs x h;exact eM (.bG e) rfl h
 | map k v w8 w9=>intro cs x h;exact eM (.map k v) rfl h
 | fn a b fw eJ=>intro cs x h;exact eM (.fn a b) rfl h
 | cq a aH=>intro cs x h;exact eM (.cq a) rfl h
 | en=>intro cs x h;exact eM .en rfl h
theorem KB{e:ab}{xs:List e.aj}{k:bA}(aS:jF P H κ F w k (.bg e xs))(bm:∀ r,F r->F' r)(al:k.e5=false->F' k.aa):bH P (.slice e) F' w [k.slice xs.length] xs:=by
 obtain⟨E,U⟩:=aS;simp only[bH,bA.slice];cases au:k.e5 with
 | true=>rw[E au];exact⟨none,0,rfl,Nat.le_refl _,by decide,λ_=>rfl,λp an=>by simp⟩
 | false=>
  obtain⟨cs,T,bC,c2,c3,c4,c5⟩:=U au;refine⟨some ⟨k.aa,k.off,none⟩,k.cap,by simp,c3,c4,(by simp),λp an _=>?_⟩;cases an;refine⟨al au,rfl,λi G=>?_⟩;obtain⟨bh,d1,d2⟩:=c5 i G;refine⟨bh,⟨al au,rfl,λj aE=>?_⟩,fb e bm (c1.refl F w) d2⟩;simp only[World.cell?,bC];grind
theorem FV{t cV:ab}{x:t.aj}{y:cV.aj}{v:Value}(hc:eR t cV x=some y)(h:eo P t F w v x):eo P cV F w v y:=by
 obtain⟨e,rfl⟩:=kT hc;grind
theorem tR{t cV:ab}{x:t.aj}{y:cV.aj}{cs:List Value}(hc:eR t cV x=some y)(h:bH P t F w cs x):bH P cV F w cs y:=by
 obtain⟨e,rfl⟩:=kT hc;grind
def iX(H:Nat->bJ)(κ:Nat->bA)(F':Nat->Prop)(l:List Nat):Prop:=∀ b∈l,(H b).body.bY (κ b)=true->F' (κ b).aa
theorem iX.left{l m:List Nat}(h:iX H κ F' (l++m)):iX H κ F' l:=λb W=>h b (List.mem_append_left _ W)
theorem iX.right{l m:List Nat}(h:iX H κ F' (l++m)):iX H κ F' m:=λb W=>h b (List.mem_append_right _ W)
theorem RC{mn pq:ab}{es:List (mn.aj×pq.aj)}{k:bA}(aS:jF P H κ F w k (.mp mn pq es))(bm:∀ r,F r->F' r)(al:F' k.aa):bH P (.map mn pq) F' w [.map (some k.aa)] es:=by
 obtain⟨ms,clk,E,U⟩:=aS;obtain⟨U,ag,a6,bM⟩:=U.mono bm (c1.refl F w);exact .inr ⟨_,ms,clk,rfl,al,E,U,ag,a6,bM⟩
theorem FW{e:ab}{xs:List e.aj}{k:bA}{aX G:Nat}{v:Value}(h:bH P (.slice e) F' w [k.slice xs.length] xs)(E:aX<=G)(U:G<=xs.length)(aD:FU k e.size aX G v) :
  bH P (.slice e) F' w [v] ((xs.take G).drop aX):=by
 have hlen:((xs.take G).drop aX).length=G - aX:=by grind
 obtain⟨a,cap,ax,bC,c2,c3,c4⟩:=h;rcases aD with⟨au,rfl⟩ | ⟨au,o,rfl,gD,gE⟩
 ·have:xs=[]:=by
   simp only[bA.slice,au,if_true,List.cons.injEq,Value.slice.injEq,and_true]at ax;grind
  subst this;have bE:(([]:List e.aj).take G).drop aX=[]:=by simp
  rw[bE];exact⟨none,0,rfl,Nat.le_refl _,by decide,λ_=>rfl,λp an=>by simp⟩
 ·simp only[bA.slice,au,Bool.false_eq_true,if_false,List.cons.injEq,Value.slice.injEq,and_true]at ax;obtain⟨rfl,_,rfl⟩:=ax;refine⟨some ⟨k.aa,o,none⟩,k.cap - aX,by grind,by omega,by omega,(by simp),λp an vj=>?_⟩;cases an;obtain⟨d1,d2,d3⟩:=c4 _ rfl (by omega);refine⟨d1,rfl,λi dI=>?_⟩;obtain⟨bh,m1,m2⟩:=d3 (aX+i) (by omega);grind
theorem KC(aS:∀ b,cC P H κ F w b)(bm:∀ r,F r->F' r){t:ab}(aL:t.eF=true){av:aG}{v:Value}{x:t.aj}{l:List Nat}(h:(dV t av).run H=some (x,l))
  (ai:iX H κ F' l) (ae:bx P H κ F w av v):eo P t F' w v x:=by
 cases av with
 | undef=>cases h
 | hD b a=>cases h
 | bc b g off=>cases h
 | oF b g i off=>cases h
 | iW b g i=>cases h
 | iB k n c=>
  cases t<;>simp only[dV,ao.none,ao.bL,reduceCtorEq]at h;split at h
  ·rename_i au;subst au;cases h;obtain⟨aC,rfl,ai,_⟩:=ae;obtain rfl:=List.eq_nil_of_length_eq_zero ai;exact (dT rfl).2 ⟨rfl,rfl⟩
  ·cases h
 | sf k n c=>cases h
 | qm n f=>cases h
 | agg n f=>cases h
 | j8 b g=>cases h
 | aW l aJ L n st=>cases h
 | hg l=>cases h
 | xc e xs=>cases h
 | sub b g aX G=>
  cases t<;>simp only[dV,ao.none,ao.bL,ao.e0,reduceCtorEq]at h;rename_i e;split at h
  ·rename_i aB;obtain⟨qp,im⟩:=ae;have jI:=aS b;unfold cC at jI;cases bR:(H b).body with
   | bg aY xs=>
    rw[bR]at h jI im;simp only[Option.map_eq_some_iff,Prod.mk.injEq]at h;obtain⟨z,bj,rfl,rfl⟩:=h;obtain⟨⟨aQ,aV⟩,bK⟩:=im aB.symm rfl;exact (dT rfl).2 ⟨FP qp.2,tR bj (FW (KB jI bm λau=>ai b (by simp) (by rw[bR];simp[bP.bY,au])) aQ aV bK)⟩
   | hE aY xs=>
    rw[bR]at h jI im;simp only[Option.map_eq_some_iff,Prod.mk.injEq]at h;obtain⟨z,bj,rfl,rfl⟩:=h;obtain⟨⟨aQ,aV⟩,bK⟩:=im aB.symm rfl;exact (dT rfl).2 ⟨FP qp.2,tR bj (FW (fb (.slice aY) bm (c1.refl F w) jI) aQ aV bK)⟩
   | _=>rw[bR]at h;cases h
  grind
 | fG b g=>
  cases t<;>simp only[dV,ao.none,ao.bL,ao.e0,reduceCtorEq]at h;rename_i k e;split at h
  ·rename_i aB;obtain⟨qp,im⟩:=ae;have jI:=aS b;unfold cC at jI;cases bR:(H b).body with
   | mp k' h7 es=>
    rw[bR]at h jI im;simp only[Option.map_eq_some_iff,Prod.mk.injEq]at h;obtain⟨z,bj,rfl,rfl⟩:=h;have:=im aB.symm rfl;subst this;exact (dT rfl).2 ⟨rfl,tR bj (RC jI bm (ai b (by simp) (by rw[bR];rfl)))⟩
   | jk k' h7 es=>
    rw[bR]at h jI im;simp only[Option.map_eq_some_iff,Prod.mk.injEq]at h;obtain⟨z,bj,rfl,rfl⟩:=h;have:=im aB.symm rfl;subst this;exact (dT rfl).2 ⟨rfl,tR bj (fb (.map k' h7) bm (c1.refl F w) jI)⟩
   | _=>rw[bR]at h;cases h
  grind
 | val cV y=>
  simp only[dV,ao.bL,Option.map_eq_some_iff,Prod.mk.injEq]at h;obtain⟨z,bj,rfl,rfl⟩:=h;exact (FV bj ae).mono bm (c1.refl F w)
 | dm=>
  cases t<;>simp only[dV,ao.none,ao.bL,reduceCtorEq,Option.some.injEq,Prod.mk.injEq]at h;obtain⟨rfl,rfl⟩:=h;simp only[bx]at ae;subst ae;exact (dT rfl).2 ⟨rfl,none,0,rfl,Nat.le_refl _,by decide,λ_=>rfl,λp an=>by simp⟩
 | own b g=>
  cases t<;>simp only[dV,ao.none,ao.bL,ao.e0,reduceCtorEq]at h;rename_i e;split at h
  ·rename_i aB;obtain⟨qp,im⟩:=ae;have jI:=aS b;unfold cC at jI;cases bR:(H b).body with
   | bg aY xs=>
    rw[bR]at h jI im;simp only[Option.map_eq_some_iff,Prod.mk.injEq]at h;obtain⟨z,bj,rfl,rfl⟩:=h;have:=im aB.symm rfl;simp only[bP.len]at this;subst this;refine (dT rfl).2 ⟨by unfold bA.slice;split<;>rfl,tR bj (KB jI bm λau=>ai b (by simp) (by rw[bR];simp[bP.bY,au]))⟩
   | hE aY xs=>
    rw[bR]at h jI im;simp only[Option.map_eq_some_iff,Prod.mk.injEq]at h;obtain⟨z,bj,rfl,rfl⟩:=h;have:=im aB.symm rfl;simp only[bP.len]at this;subst this;exact (dT rfl).2 ⟨by unfold bA.slice;split<;>rfl,tR bj (fb _ bm (c1.refl F w) jI)⟩
   | _=>rw[bR]at h;cases h
  grind
 | dU cV y=>
  cases t<;>simp only[dV,ao.none,ao.bL,reduceCtorEq,Option.map_eq_some_iff,Prod.mk.injEq]at h;rename_i e;obtain⟨z,bj,rfl,rfl⟩:=h;obtain⟨p,bh,rfl,U,ag⟩:=ae;refine (dT rfl).2 ⟨rfl,tR bj ?_⟩;exact .inr ⟨p,y,bh,rfl,rfl,U.mono bm (c1.refl F w),fb cV bm (c1.refl F w) ag⟩
 | jE u=>
  simp only[bx]at ae;subst ae;simp only[dV,ao.bL,Option.map_eq_some_iff,Prod.mk.injEq]at h;obtain⟨z,bj,rfl,rfl⟩:=h;unfold Cm at bj;split at bj
  ·cases bj;exact (dT rfl).2 ⟨rfl,.inl ⟨rfl,rfl⟩⟩
  ·cases bj;exact (dT rfl).2 ⟨rfl,.inl ⟨rfl,rfl⟩⟩
  ·cases bj;exact (dT rfl).2 ⟨rfl,rfl⟩
  grind
theorem Cn{n:Nat}{f:Nat->aG}{aC:List Value}(ai:aC.length=n)(h:∀ i,i<n->bx P H κ F w (f i) (aC.getD i Go.undef)/\(aC.getD i Go.undef).oneCell'=true) :
  eu P H κ F w ((List.range n).map f) aC:=by
 refine eu.RB (by grind) λi G=>?_;have dI:i<n:=by grind
 have:hi ((List.range n).map f) i=f i:=by simp[hi,List.getD_eq_getElem?_getD,dI]
 grind
theorem RD(aS:∀ b,cC P H κ F w b)(bm:∀ r,F r->F' r){e:ab}{cg:List aG->ao (Option (e.aj×List Nat×List aG))}
  (gm:∀ {cs:List aG} {aC:List Value} {x:e.aj} {l:List Nat} {r:List aG},(cg cs).run H=some (x,l,r)->iX H κ F' l->eu P H κ F w cs aC->∃ c d,aC=c++d/\bH P e F' w c x/\eu P H κ F w r d)
  {av:aG} {v:Value} {x:Option e.aj} {l:List Nat} (h:(tQ e cg av).run H=some (x,l)) (ai:iX H κ F' l) (ae:bx P H κ F w av v):eo P (.bG e) F' w v x:=by
 have ck:(dV (.bG e) av).run H=some (x,l)->eo P (.bG e) F' w v x:=λh=>KC aS bm rfl h ai ae;cases av with
 | bc b g off=>
  simp only[tQ,ao.e0]at h;split at h
  ·rename_i aB;obtain⟨aB,rfl⟩:=aB;obtain⟨qp,im⟩:=ae;have jI:=aS b;unfold cC at jI;cases bR:(H b).body with
   | gL t y=>
    rw[bR]at h jI im;simp only[ao.bL,Option.map_eq_some_iff,Prod.mk.injEq]at h;obtain⟨z,bj,rfl,rfl⟩:=h;obtain⟨eq,rfl⟩:=kT bj;subst eq;obtain rfl:=im aB.symm rfl;obtain⟨bh,E,U⟩:=jI;exact (dT rfl).2 ⟨rfl,.inr ⟨_,_,bh,rfl,rfl,E.mono bm (c1.refl F w),fb t bm (c1.refl F w) U⟩⟩
   | cells t f=>
    rw[bR]at h jI im;simp only at h;split at h
    ·rename_i aL;subst aL;simp only[ao.e1,Option.bind_eq_some_iff,ao.bL]at h;obtain⟨⟨y,m,q⟩,E,U⟩:=h;split at U
     ·rename_i bp;simp only[Option.some.injEq,Prod.mk.injEq]at U;obtain⟨rfl,rfl⟩:=U;obtain rfl:=im aB.symm rfl;obtain⟨cs,T,aQ,aV,bK⟩:=jI;have iD:eu P H κ F w ((List.range t.size).map f) cs.toList:=Cn (by omega) λi G=>by
       simp_all
      obtain⟨c,d,KD,bC,c2⟩:=gm E (λbd dd=>ai bd (List.mem_cons_of_mem _ dd)) iD;have bp:q=[]:=List.isEmpty_iff.1 bp;subst bp;cases d with
      | cons _ _=>exact c2.elim
      | nil=>
       rw[List.append_nil]at KD;refine (dT rfl).2 ⟨rfl,.inr ⟨_,y,c,rfl,rfl,⟨ai b (by simp) (by rw[bR];rfl),rfl,λj aE=>?_⟩,bC⟩⟩;have fR:j<cs.size:=by grind
       simp only[World.cell?,aQ,Nat.zero_add,Option.isSome_none,Bool.false_eq_true,if_false,Array.getElem?_eq_getElem fR];grind
     grind
    ·cases h
   | _=>rw[bR]at h;cases h
  ·cases h
 | _=>exact ck h
theorem KE(aS:∀ b,cC P H κ F w b)(bm:∀ r,F r->F' r):∀ (t:ab) {cs:List aG} {aC:List Value} {x:t.aj} {l:List Nat} {r:List aG},(il t cs).run H=some (x,l,r)->
  iX H κ F' l->eu P H κ F w cs aC->∃ c d,aC=c++d/\bH P t F' w c x/\eu P H κ F w r d:=by
 have qq:∀ (t:ab) (g:aG->ao (Option (t.aj×List Nat))),t.eF=true->(∀ {av:aG} {v:Value} {x:t.aj} {l:List Nat},(g av).run H=some (x,l)->iX H κ F' l->bx P H κ F w av v->eo P t F' w v x)->
   ∀ {cs:List aG} {aC:List Value} {x:t.aj} {l:List Nat} {r:List aG},(match cs with | c::r=>(g c).map λo=>o.map λ(x,l)=>(x,l,r) | []=>.none:ao (Option (t.aj×List Nat×List aG))).run H=some (x,l,r)->
   iX H κ F' l->eu P H κ F w cs aC->∃ c d,aC=c++d/\bH P t F' w c x/\eu P H κ F w r d:=by
  intro t g aL aB cs aC x l r h ai a8;cases cs with
  | nil=>cases h
  | cons c cs=>
   cases aC with
   | nil=>exact a8.elim
   | cons v aC=>
    simp only[ao.map,ao.run_bind,ao.bL,Option.map_eq_some_iff,Prod.mk.injEq]at h;obtain⟨⟨y,m⟩,bj,rfl,rfl,rfl⟩:=h;refine⟨[v],aC,rfl,?_,a8.2⟩;exact ((dT aL).1 (aB bj ai a8.1.1)).2
 have eM:∀ (t:ab),t.eF=true->∀ {cs:List aG} {aC:List Value} {x:t.aj} {l:List Nat} {r:List aG},(match cs with | c::r=>(dV t c).map λo=>o.map λ(x,l)=>(x,l,r) | []=>.none:ao (Option (t.aj×List Nat×List aG))).run H=some (x,l,r)->
   iX H κ F' l->eu P H κ F w cs aC->∃ c d,aC=c++d/\bH P t F' w c x/\eu P H κ F w r d:=
  λt aL=>qq t (dV t) aL λh ai ae=>KC aS bm aL h ai ae
 intro t;induction t with
 | bool=>intro cs aC x l r h ai a8;exact eM _ rfl h ai a8
 | int k=>intro cs aC x l r h ai a8;exact eM (.int k) rfl h ai a8
 | str=>intro cs aC x l r h ai a8;exact eM _ rfl h ai a8
 | cS=>
  intro cs aC x l r h ai a8;simp only[il,ao.bL,Option.some.injEq,Prod.mk.injEq]at h;obtain⟨_,rfl,rfl⟩:=h;exact⟨[],aC,rfl,rfl,a8⟩
 | st t aH=>intro cs aC x l r h ai a8;exact aH h ai a8
 | az a b fw eJ=>
  intro cs aC x l r h ai a8;simp only[il,ao.e1,Option.bind_eq_some_iff,ao.bL,Option.some.injEq,Prod.mk.injEq]at h;obtain⟨⟨y,m,q⟩,E,⟨z,dw,q'⟩,U,rfl,rfl,rfl⟩:=h;obtain⟨c,d,rfl,bC,c2⟩:=fw E ai.left a8;obtain⟨c',vk,rfl,d1,d2⟩:=eJ U ai.right c2;exact⟨c++c',vk,by simp,⟨c,c',rfl,bC,d1⟩,d2⟩
 | slice e aH=>intro cs aC x l r h ai a8;exact eM (.slice e) rfl h ai a8
 | array n e aH=>
  intro cs aC xs l r h ai a8;simp only[il]at h;have key:∀ (n:Nat) {cs:List aG} {aC:List Value} {xs:List e.aj} {l:List Nat} {r:List aG},(n.rec (motive:=λ_=>List aG->ao (Option (List e.aj×List Nat×List aG))) (λcs=>.ret (some ([],[],cs)))
     (λ_ aH cs=>(il e cs).cP λ(x,l,r)=>(aH r).cP λ(xs,m,q)=>.ret (some (x::xs,l++m,q))) cs).run H=some (xs,l,r)->
    iX H κ F' l->eu P H κ F w cs aC->
    ∃ fm d,aC=List.flatten fm++d/\fm.length=n/\xs.length=n/\(∀ i (h:i<xs.length) (ds:i<fm.length),bH P e F' w fm[i] xs[i])/\eu P H κ F w r d:=by
   intro n;induction n with
   | zero=>
    intro cs aC xs l r h ai a8;cases h;exact⟨[],aC,rfl,rfl,rfl,λi G=>(by simp),a8⟩
   | succ n Co=>
    intro cs aC xs l r h ai a8;simp only[ao.e1,Option.bind_eq_some_iff,ao.bL,Option.some.injEq,Prod.mk.injEq]at h;obtain⟨⟨y,m,q⟩,E,⟨z,dw,q'⟩,U,rfl,rfl,rfl⟩:=h;obtain⟨c,d,rfl,bC,c2⟩:=aH E ai.left a8;obtain⟨fm,vk,rfl,d1,d2,d3,d4⟩:=Co U ai.right c2;refine⟨c::fm,vk,by simp,by grind,by grind,λi G dI=>?_,d4⟩;grind
  obtain⟨fm,d,ax,aO,cv,ec,gV⟩:=key n h ai a8;exact⟨fm.flatten,d,ax,⟨fm,rfl,aO,cv,ec⟩,gV⟩
 | bG e aH=>intro cs aC x l r h ai a8;exact qq (.bG e) (tQ e (il e)) rfl (λh ai ae=>RD aS bm aH h ai ae) h ai a8
 | map k v w8 w9=>intro cs aC x l r h ai a8;exact eM (.map k v) rfl h ai a8
 | fn a b fw eJ=>intro cs aC x l r h ai a8;exact eM (.fn a b) rfl h ai a8
 | cq a aH=>intro cs aC x l r h ai a8;exact eM (.cq a) rfl h ai a8
 | en=>intro cs aC x l r h ai a8;exact eM .en rfl h ai a8
theorem mr(aS:∀ b,cC P H κ F w b)(bm:∀ r,F r->F' r){t:ab}{av:aG}{v:Value}{x:t.aj}{l:List Nat}(h:(dy t av).run H=some (x,l))
  (ai:iX H κ F' l) (ae:bx P H κ F w av v):eo P t F' w v x:=by
 have ck:(kx t av).run H=some (x,l)->eo P t F' w v x:=by
  intro h;unfold kx at h;split at h
  ·exact RD aS bm (λh ai a8=>KE aS bm _ h ai a8) h ai ae
  ·split at h
   ·rename_i aL;exact KC aS bm aL h ai ae
   ·cases h
 cases av with
 | val cV y=>
  simp only[dy,ao.bL,Option.map_eq_some_iff,Prod.mk.injEq]at h;obtain⟨z,bj,rfl,rfl⟩:=h;exact (FV bj ae).mono bm (c1.refl F w)
 | agg n f=>
  simp only[dy]at h;split at h
  ·cases h
  ·simp only[ao.e1,Option.bind_eq_some_iff,ao.bL]at h;obtain⟨⟨y,m,q⟩,E,U⟩:=h;split at U
   ·rename_i hc;simp only[Bool.and_eq_true,List.isEmpty_iff]at hc;simp only[Option.some.injEq,Prod.mk.injEq]at U;obtain⟨rfl,rfl⟩:=U;obtain⟨aC,rfl,a6,bM⟩:=ae;obtain⟨c,d,rfl,bC,c2⟩:=KE aS bm t E ai (Cn a6 bM);rw[hc.1]at c2;cases d with
    | cons _ _=>exact c2.elim
    | nil=>
     rw[List.append_nil]at *
     have hlen:=hR t bC;have aD:=hc.2;cases t<;>simp only[ab.isAgg,Bool.false_eq_true]at aD
     ·exact⟨⟨c.toArray,rfl,by simpa [ab.size]using hlen⟩,by simpa [Value.cells]using bC⟩
     ·exact⟨⟨c.toArray,rfl,by simpa [ab.size]using hlen⟩,by simpa [Value.cells]using bC⟩
   grind
 | undef=>exact ck h
 | hD b a=>exact ck h
 | bc b g off=>exact ck h
 | own b g=>exact ck h
 | oF b g i off=>exact ck h
 | iW b g i=>exact ck h
 | dU cV y=>exact ck h
 | fG b g=>exact ck h
 | iB k n c=>exact ck h
 | sf k n c=>exact ck h
 | qm n f=>exact ck h
 | dm=>exact ck h
 | jE u=>exact ck h
 | j8 b g=>exact ck h
 | aW l aJ L n st=>exact ck h
 | hg l=>exact ck h
 | xc e xs=>exact ck h
 | sub b g aX G=>exact ck h
end
def ab.pure:ab->Bool
 | .bool | .int _ | .str | .cS=>true
 | .st t=>t.pure
 | .az a b=>a.pure&&b.pure
 | .array _ e=>e.pure
 | _=>false
theorem adj{P:Program}{F F':Nat->Prop}{w w':World}:∀ (t:ab) {cs:List Value} {x:t.aj},t.pure=true->bH P t F w cs x->bH P t F' w' cs x:=by
 intro t;induction t with
 | bool=>intro cs x _ h;exact h
 | int k=>intro cs x _ h;exact h
 | str=>intro cs x _ h;exact h
 | cS=>intro cs x _ h;exact h
 | st t aH=>intro cs x aL h;exact aH aL h
 | az a b fw eJ=>
  intro cs x aL h;simp only[ab.pure,Bool.and_eq_true]at aL;obtain⟨c,d,rfl,a8,W⟩:=h;exact⟨c,d,rfl,fw aL.1 a8,eJ aL.2 W⟩
 | slice e aH=>intro cs x aL;cases aL
 | array n e aH=>
  intro cs x aL h;obtain⟨fm,rfl,E,U,ag⟩:=h;exact⟨fm,rfl,E,U,λi G dI=>aH aL (ag i G dI)⟩
 | bG e aH=>intro cs x aL;cases aL
 | map k v w8 w9=>intro cs x aL;cases aL
 | fn a b fw eJ=>intro cs x aL;cases aL
 | cq a aH=>intro cs x aL;cases aL
 | en=>intro cs x aL;cases aL
end Go.Fer
namespace Go.Fer
open Go.RowKit
section
variable {P:Program} {F:Nat->Prop} {w:World}
theorem adk{t:ab}{x y:t.aj}(h:eR t t x=some y):y=x:=by
 obtain⟨e,rfl⟩:=kT h;rfl
theorem RE:∀ (t:ab) {f:Nat} {cs:List Value} {x:t.aj} {s:ab} {y:s.aj},bH P t F w cs x->vi t x f=some ⟨s,y⟩->
  ∃ bC c2 c3,cs=bC++(c2++c3)/\bH P s F w c2 y/\mq t f=some (s,bC.length):=by
 have eM:∀ (t:ab),(∀ a b,t≠.az a b)->t≠.cS->∀ {f:Nat} {cs:List Value} {x:t.aj} {s:ab} {y:s.aj},bH P t F w cs x->vi t x f=some ⟨s,y⟩->
   ∃ bC c2 c3,cs=bC++(c2++c3)/\bH P s F w c2 y/\mq t f=some (s,bC.length):=by
  intro t E U f cs x s y h ar;cases f with
  | zero=>
   have e:vi t x 0=some ⟨t,x⟩:=by cases t<;>first | rfl | grind | grind
   have aY:mq t 0=some (t,0):=by cases t<;>first | rfl | grind | grind
   rw[e]at ar;cases ar;exact⟨[],cs,[],by simp,h,aY⟩
  | succ f=>
   have e:vi t x (f+1)=none:=by cases t<;>first | rfl | grind
   grind
 intro t;induction t with
 | az a b fw eJ=>
  intro f cs x s y h ar;simp only[bH]at h;obtain⟨c,d,rfl,a8,W⟩:=h;cases f with
  | zero=>
   simp only[vi,Option.some.injEq,Sigma.mk.injEq]at ar;obtain⟨rfl,ar⟩:=ar;cases ar;exact⟨[],c,d,by simp,a8,rfl⟩
  | succ f=>
   obtain⟨bC,c2,c3,rfl,aQ,aV⟩:=eJ W ar;refine⟨c++bC,c2,c3,by simp,aQ,?_⟩;simp[mq,aV,hR a a8]
 | cS=>intro f cs x s y _ ar;cases f<;>cases ar
 | bool=>grind
 | int k=>grind
 | str=>grind
 | st t _=>grind
 | slice e _=>grind
 | array n e _=>grind
 | bG e _=>grind
 | map k v _ _=>grind
 | fn a b _ _=>grind
 | cq a _=>grind
 | en=>grind
theorem RF:∀ (t:ab) {off:Nat} {cs:List Value} {x:t.aj} {s:ab} {y:s.aj},bH P t F w cs x->si t x off s=some y->
  ∃ bC c2 c3,cs=bC++(c2++c3)/\bC.length=off/\bH P s F w c2 y:=by
 have eM:∀ (t:ab) {off:Nat} {cs:List Value} {x:t.aj} {s:ab} {y:s.aj},bH P t F w cs x->(if off=0 then eR t s x else none)=some y->
   ∃ bC c2 c3,cs=bC++(c2++c3)/\bC.length=off/\bH P s F w c2 y:=by
  intro t off cs x s y h ar;split at ar
  ·rename_i af;exact⟨[],cs,[],by simp,af.symm,tR ar h⟩
  grind
 intro t;induction t with
 | az a b fw eJ=>
  intro off cs x s y h ar;simp only[bH]at h;obtain⟨c,d,rfl,a8,W⟩:=h;simp only[si]at ar;split at ar
  ·grind
  ·obtain⟨bC,c2,c3,rfl,aQ,aV⟩:=eJ W ar;have:=hR a a8;grind
 | st t aH=>
  intro off cs x s y h ar;simp only[si]at ar;split at ar
  ·rename_i af;exact⟨[],cs,[],by simp,af.1.symm,tR ar h⟩
  ·simp only[bH]at h;grind
 | cS=>intro off cs x s y _ ar;cases ar
 | array n e _=>intro off cs x s y _ ar;cases ar
 | bool=>intro off cs x s y h ar;exact eM _ h ar
 | int k=>intro off cs x s y h ar;exact eM (.int k) h ar
 | str=>intro off cs x s y h ar;exact eM _ h ar
 | slice e _=>intro off cs x s y h ar;exact eM (.slice e) h ar
 | bG e _=>intro off cs x s y h ar;exact eM (.bG e) h ar
 | map k v _ _=>intro off cs x s y h ar;exact eM (.map k v) h ar
 | fn a b _ _=>intro off cs x s y h ar;exact eM (.fn a b) h ar
 | cq a _=>intro off cs x s y h ar;exact eM (.cq a) h ar
 | en=>intro off cs x s y h ar;exact eM .en h ar
theorem adl:∀ (t:ab) {off:Nat} {cs bh:List Value} {x dH:t.aj} {s:ab} {y:s.aj},bH P t F w cs x->xg t x off s y=some dH->bH P s F w bh y->
  ∃ bC c2 c3,cs=bC++(c2++c3)/\bC.length=off/\c2.length=s.size/\bH P t F w (bC++(bh++c3)) dH:=by
 have eM:∀ (t:ab) {off:Nat} {cs bh:List Value} {x dH:t.aj} {s:ab} {y:s.aj},bH P t F w cs x->(if off=0 then eR s t y else none)=some dH->bH P s F w bh y->
   ∃ bC c2 c3,cs=bC++(c2++c3)/\bC.length=off/\c2.length=s.size/\bH P t F w (bC++(bh++c3)) dH:=by
  intro t off cs bh x dH s y h ar aq;split at ar
  ·rename_i af;obtain⟨e,rfl⟩:=kT ar;subst e;exact⟨[],cs,[],by simp,af.symm,hR s h,by grind⟩
  grind
 intro t;induction t with
 | az a b fw eJ=>
  intro off cs bh x dH s y h ar aq;simp only[bH]at h;obtain⟨c,d,rfl,a8,W⟩:=h;simp only[xg]at ar;split at ar
  ·simp only[Option.map_eq_some_iff]at ar;obtain⟨z,bj,rfl⟩:=ar;obtain⟨bC,c2,c3,rfl,aQ,aV,bK⟩:=fw a8 bj aq;exact⟨bC,c2,c3++d,by simp,aQ,aV,⟨_,d,by simp,bK,W⟩⟩
  ·simp only[Option.map_eq_some_iff]at ar;obtain⟨z,bj,rfl⟩:=ar;obtain⟨bC,c2,c3,rfl,aQ,aV,bK⟩:=eJ W bj aq;have:=hR a a8;exact⟨c++bC,c2,c3,by simp,by grind,aV,⟨c,_,by simp,a8,bK⟩⟩
 | st t aH=>
  intro off cs bh x dH s y h ar aq;simp only[xg]at ar;split at ar
  ·rename_i af;obtain⟨af,e⟩:=af;subst e;have:=adk ar;subst this;exact⟨[],cs,[],by simp,af.symm,hR _ h,by grind⟩
  ·simp only[bH]at h ⊢;grind
 | cS=>intro off cs bh x dH s y _ ar;cases ar
 | array n e _=>intro off cs bh x dH s y _ ar;cases ar
 | bool=>intro off cs bh x dH s y h ar aq;exact eM _ h ar aq
 | int k=>intro off cs bh x dH s y h ar aq;exact eM (.int k) h ar aq
 | str=>intro off cs bh x dH s y h ar aq;exact eM _ h ar aq
 | slice e _=>intro off cs bh x dH s y h ar aq;exact eM (.slice e) h ar aq
 | bG e _=>intro off cs bh x dH s y h ar aq;exact eM (.bG e) h ar aq
 | map k v _ _=>intro off cs bh x dH s y h ar aq;exact eM (.map k v) h ar aq
 | fn a b _ _=>intro off cs bh x dH s y h ar aq;exact eM (.fn a b) h ar aq
 | cq a _=>intro off cs bh x dH s y h ar aq;exact eM (.cq a) h ar aq
 | en=>intro off cs bh x dH s y h ar aq;exact eM .en h ar aq
end
def j_:ab->List Value->Option (List Value)
 | .cS,cs=>some cs
 | .st t,cs=>j_ t cs
 | .az a b,cs=>(j_ a cs).bind (j_ b)
 | .array n e,cs=>n.rec (motive:=λ_=>List Value->Option (List Value)) some (λ_ aH cs=>(j_ e cs).bind aH) cs
 | .bool,cs=>match cs with | .bool false::r=>some r | _=>none
 | .int k,cs=>match cs with | .int k' n::r=>if k'=k/\n=0 then some r else none | _=>none
 | .str,cs=>match cs with | .string s::r=>if s.size=0 then some r else none | _=>none
 | .slice _,cs=>match cs with | .slice none 0 0::r=>some r | _=>none
 | .bG _,cs=>match cs with | .pointer none::r=>some r | _=>none
 | .map _ _,cs=>match cs with | .map none::r=>some r | _=>none
 | .fn _ _,cs=>match cs with | .nilFunc::r=>some r | _=>none
 | .cq _,cs=>match cs with | .nilFunc::r=>some r | _=>none
 | .en,cs=>match cs with | .nilFunc::r=>some r | _=>none
theorem RG(k:IntKind):fQ k 0:=by cases k<;>decide
theorem vl{P:Program}{H:Nat->bJ}{κ:Nat->bA}{F:Nat->Prop}{w:World}:∀ (t:ab) {cs r:List Value},j_ t cs=some r->
  ∃ c,cs=c++r/\bH P t F w c t.de/\eu P H κ F w (sg t) c:=by
 intro t;induction t with
 | cS=>intro cs r h;cases h;exact⟨[],by simp,rfl,trivial⟩
 | st t aH=>intro cs r h;exact aH h
 | az a b fw eJ=>
  intro cs r h;simp only[j_,Option.bind_eq_some_iff]at h;obtain⟨q,E,U⟩:=h;obtain⟨c,rfl,bC,c2⟩:=fw E;obtain⟨d,rfl,d1,d2⟩:=eJ U;exact⟨c++d,by simp,⟨c,d,rfl,bC,d1⟩,c2.append d2⟩
 | array n e aH=>
  intro cs r h;simp only[j_]at h;have key:∀ (n k:Nat) {cs r:List Value},n.rec (motive:=λ_=>List Value->Option (List Value)) some (λ_ aH cs=>(j_ e cs).bind aH) cs=some r->
    ∃ fm:List (List Value),cs=fm.flatten++r/\fm.length=n/\(∀ c∈fm,bH P e F w c e.de)/\eu P H κ F w ((List.range' k n).flatMap λ_=>sg e) fm.flatten:=by
   intro n;induction n with
   | zero=>intro k cs r h;cases h;exact⟨[],by simp,rfl,by simp,trivial⟩
   | succ n Co=>
    intro k cs r h;simp only[Option.bind_eq_some_iff]at h;obtain⟨q,E,U⟩:=h;obtain⟨c,rfl,bC,c2⟩:=aH E;obtain⟨fm,rfl,d1,d2,d3⟩:=Co (k+1) U;refine⟨c::fm,by simp,by grind,?_,?_⟩
    ·grind
    ·simp only[List.range'_succ,List.flatMap_cons,List.flatten_cons];exact c2.append d3
  obtain⟨fm,rfl,E,U,ag⟩:=key n 0 h;refine⟨fm.flatten,rfl,⟨fm,rfl,E,by simp[ab.de],λi G dI=>?_⟩,?_⟩
  ·have:(ab.array n e).de[i]=e.de:=by simp[ab.de]
   grind
  ·simp only[sg,List.range_eq_range'];exact ag
 | bool=>
  intro cs r h;simp only[j_]at h;split at h
  ·cases h;exact⟨[.bool false],rfl,rfl,⟨fc.2 rfl,rfl⟩,trivial⟩
  grind
 | int k=>
  intro cs r h;simp only[j_]at h;split at h
  ·split at h
   ·rename_i al;obtain⟨rfl,rfl⟩:=al;cases h;exact⟨[.int _ 0],rfl,⟨rfl,RG _⟩,⟨gU.2 ⟨rfl,RG _⟩,rfl⟩,trivial⟩
   grind
  grind
 | str=>
  intro cs r h;simp only[j_]at h;split at h
  ·rename_i s ql;split at h
   ·rename_i aD;cases h;have:s=⟨([]:List UInt8).toArray⟩:=by
     cases s with | mk d=>simp only[ByteArray.size]at aD;grind
    subst this;exact⟨[.string ⟨([]:List UInt8).toArray⟩],rfl,⟨rfl,by decide⟩,⟨mm.2 ⟨rfl,by decide⟩,rfl⟩,trivial⟩
   grind
  grind
 | slice e _=>
  intro cs r h;simp only[j_]at h;split at h
  ·cases h;exact⟨[.slice none 0 0],rfl,⟨none,0,rfl,Nat.le_refl _,by decide,λ_=>rfl,λp an=>by simp⟩,⟨rfl,rfl⟩,trivial⟩
  grind
 | bG e _=>
  intro cs r h;simp only[j_]at h;split at h
  ·cases h;exact⟨[.pointer none],rfl,.inl ⟨rfl,rfl⟩,⟨(dT rfl).2 ⟨rfl,.inl ⟨rfl,rfl⟩⟩,rfl⟩,trivial⟩
  grind
 | map k v _ _=>
  intro cs r h;simp only[j_]at h;split at h
  ·cases h;exact⟨[.map none],rfl,.inl ⟨rfl,rfl⟩,⟨(dT rfl).2 ⟨rfl,.inl ⟨rfl,rfl⟩⟩,rfl⟩,trivial⟩
  grind
 | fn a b _ _=>
  intro cs r h;simp only[j_]at h;split at h
  ·cases h;exact⟨[.nilFunc],rfl,⟨.nilFunc,rfl,⟨rfl,rfl⟩,λF' w' _ _ _ _ args x _ _ aD=>(show False from aD).elim⟩,⟨rfl,rfl⟩,trivial⟩
  grind
 | cq a _=>
  intro cs r h;simp only[j_]at h;split at h
  ·cases h;exact⟨[.nilFunc],rfl,⟨.nilFunc,rfl,⟨rfl,rfl⟩,λF' w' _ _ _ _ aD=>(show ∃ _,False from aD).elim λ_ h=>h.elim⟩,⟨rfl,rfl⟩,trivial⟩
  grind
 | en=>
  intro cs r h;simp only[j_]at h;split at h
  ·cases h;exact⟨[.nilFunc],rfl,rfl,⟨(dT rfl).2 ⟨rfl,rfl⟩,rfl⟩,trivial⟩
  grind
def oG(P:Program)(t:ab)(id:TypeId):Bool:=
 match P.info? id with
 | some i=>i.size == t.size&&decide (i.bytes<=1024)&&(match i.zero with
  | some z=>(match j_ t z.cells.toList with | some []=>true | _=>false)&&(match t,z with
   | .st _,.agg _=>true
   | .array _ _,.agg _=>true
   | .st _,_=>false
   | .array _ _,_=>false
   | _,.agg _=>false
   | _,_=>true)
  | none=>false)
 | none=>false
def cD(P:Program):ab->Sum TypeId (List Field×Nat)->Bool
 | .az a b, .inr (f :: g :: [], off) => f.offset == off && cD P a (.inl f.type) && a.size != 0 && f.name != "_" && (g.offset == off + a.size && cD P b (.inl g.type) && b.size != 0 && g.name != "_")
 | .az a b, .inr (f :: g :: h :: eS, off) => f.offset == off && cD P a (.inl f.type) && a.size != 0 && f.name != "_" && cD P b (.inr (g :: h :: eS, off + a.size))
 | .st t,.inl id=>oG P (.st t) id&&!P.stoodInHeld id&&!P.eqGuardType P.depth id&&match P.underlying id with
  | some (.struct eS)=>(match eS.toList with
   | []=>decide (t=.cS)
   | [f] => f.offset == 0 && cD P t (.inl f.type) && t.size != 0 && f.name != "_"
   | l=>cD P t (.inr (l,0)))
  | _=>false
 | .bool,.inl id=>oG P .bool id&&(match P.underlying id with | some .bool=>true | _=>false)
 | .int k,.inl id=>oG P (.int k) id&&(match P.underlying id with | some (.int k')=>decide (k'=k) | _=>false)
 | .str,.inl id=>oG P .str id&&(match P.underlying id with | some .string=>true | _=>false)
 | .slice e,.inl id=>oG P (.slice e) id&&(match P.underlying id with | some (.slice i)=>cD P e (.inl i)&&e.size != 0 | _=>false)
 | .array n e,.inl id=>oG P (.array n e) id&&(match P.underlying id with | some (.array m i)=>decide (m=n)&&cD P e (.inl i)&&e.size != 0 | _=>false)
 | .bG e,.inl id=>oG P (.bG e) id&&(match P.underlying id with | some (.pointer i)=>cD P e (.inl i)&&e.size != 0 | _=>false)
 | .map k v,.inl id=>oG P (.map k v) id&&(match P.underlying id with | some (.map i j)=>cD P k (.inl i)&&cD P v (.inl j) | _=>false)
 | .fn a b,.inl id=>oG P (.fn a b) id&&(match P.underlying id with | some (.func _ _ _)=>true | _=>false)
 | .cq a,.inl id=>oG P (.cq a) id&&(match P.underlying id with | some (.func _ _ _)=>true | _=>false)
 | .en,.inl id=>oG P .en id&&(match P.underlying id with | some (.func _ _ _)=>true | _=>false)
 | _,_=>false
def b7(P:Program)(t:ab)(id:TypeId):Prop:=cD P t (.inl id)=true
theorem b7.ky{P:Program}{t:ab}{id:TypeId}(h:b7 P t id):oG P t id=true:=by
 unfold b7 at h;cases t<;>simp only[cD,Bool.and_eq_true,Bool.false_eq_true]at h<;>first | exact h.1.1.1 | exact h.1
theorem kz{P:Program}{t:ab}{id:TypeId}(h:oG P t id=true):∃ i z,P.info? id=some i/\i.size=t.size/\i.bytes<=1024/\i.zero=some z/\
  j_ t z.cells.toList=some []/\((∃ cs,z=.agg cs)<->t.isAgg=true):=by
 unfold oG at h;split at h
 ·rename_i i G;simp only[Bool.and_eq_true,beq_iff_eq,decide_eq_true_eq]at h;obtain⟨⟨E,U⟩,ag⟩:=h;split at ag
  ·rename_i z bj;simp only[Bool.and_eq_true]at ag;obtain⟨a6,bM⟩:=ag;refine⟨i,z,G,E,U,bj,?_,?_⟩
   ·grind
   ·cases t<;>cases z<;>simp_all[ab.isAgg]
  grind
 grind
end Go.Fer
namespace Go.Fer
open Go.RowKit
structure eA where
 ca:Prop
 c:Prop
 e6:aG
 hF:List (Nat×bJ)
def use:aG->Prop×aG
 | .hD b a=>(b=true,a)
 | a=>(True,a)
def xh:Value->aG
 | .bool b=>.val .bool b
 | .int k n=>if fQ k n then .val (.int k) n else .jE (.int k n)
 | .string s=>if s.size<1048576 then .val .str s.data.toList else .jE (.string s)
 | .slice none 0 0=>.dm
 | v=>.jE v
def aZ(aP:dC)(s:Nat->aG):Operand->aG
 | .tmp t=>s t
 | .const v=>xh v
 | .func f=>match aP.tO f with
  | some v=>.val (.fn v.ts v.aW) v.sh
  | none=>.iB f 0 λ_=>.undef
 | .global _=>.undef
structure aM where
 ts:ab
 aW:ab
 pre:ts.aj->Prop
 g:ts.aj->aW.aj
def kA:(t:ab)->t.aj->Nat->aG
 | .az a _,x,0=>.val a x.1
 | .az _ b,x,i+1=>kA b x.2 i
 | t,x,0=>.val t x
 | _,_,_+1=>.undef
def j':ab->Nat
 | .az _ b=>j' b+1
 | .cS=>0
 | _=>1
def rh(t:ab)(x:t.aj):aG:=
 match t with
 | .az a b=>.qm (j' (.az a b)) (kA (.az a b) x)
 | .cS=>.jE (.tuple #[])
 | t=>.val t x
def iY:(t:ab)->List aG->ao (Option (t.aj×List Nat))
 | .az a b,v::aC=>(dy a v).cP λ(x,l)=>(iY b aC).cP λ(y,m)=>.ret (some ((x,y),l++m))
 | .az _ _,[]=>.none
 | .cS,[]=>.ret (some ((),[]))
 | .cS,_::_=>.none
 | t,[v]=>dy t v
 | _,_=>.none
def jJ:List Nat->ao (List (Nat×bJ))
 | []=>.ret []
 | b::l=>.eQ b λx=>(jJ l).bind λr=>match x.body with
  | .bg e xs=>.ret ((b,⟨x.gen,.hE e xs⟩)::r)
  | .mp k v es=>.ret ((b,⟨x.gen,.jk k v es⟩)::r)
  | .cells t f=>(il t ((List.range t.size).map f)).bind λo=>.ret (match o with
   | some (y,_,[])=>(b,⟨x.gen,.gL t y⟩)::r
   | _=>r)
  | _=>.ret r
def cellsOf(t:ab)(av:aG):Option (List aG):=
 match t,av with
 | .st t,.val (.st cV) x=>if cV=t then some (nS cV x) else none
 | .st t,.agg n f=>if n=t.size then some ((List.range n).map f) else none
 | .array n e,.val (.array iZ aY) x=>if iZ=n/\aY=e then some (nS (.array iZ aY) x) else none
 | .array n e,.agg m f=>if m=n*e.size then some ((List.range m).map f) else none
 | t,av=>if t.eF then (match av with
  | .val cV _=>if cV.eF then some [av] else none
  | .bc _ _ _ | .own _ _ | .oF _ _ _ _ | .dU _ _ | .fG _ _ | .iB _ _ _ | .dm | .sub _ _ _ _=>some [av]
  | .jE (.agg _) | .jE (.tuple _)=>none
  | .jE _=>some [av]
  | _=>none) else none
def aG.mu:aG->Option (IntKind×Int)
 | .val (.int k) x=>some (k,x)
 | _=>none
def aG.tS:aG->Option (List UInt8)
 | .val .str x=>some x
 | _=>none
def zz(op:BinOp)(k:IntKind)(a b:Int):Option (Prop×aG):=
 match op with
 | .add=>some (True,.val (.int k) (k.wrap (a+b)))
 | .sub=>some (True,.val (.int k) (k.wrap (a - b)))
 | .mul=>some (True,.val (.int k) (k.wrap (a*b)))
 | .quo=>some (b≠0,.val (.int k) (k.wrap (a.tdiv b)))
 | .rem=>some (b≠0,.val (.int k) (a.tmod b))
 | .and=>some (True,.val (.int k) (lM k a b))
 | .or=>some (True,.val (.int k) (Ry k a b))
 | .xor=>some (True,.val (.int k) (Rz k a b))
 | .andNot=>some (True,.val (.int k) (RA k a b))
 | .eql=>some (True,.val .bool (decide (a=b)))
 | .neq=>some (True,.val .bool (decide (a≠b)))
 | .lss=>some (True,.val .bool (decide (a<b)))
 | .leq=>some (True,.val .bool (decide (a<=b)))
 | .gtr=>some (True,.val .bool (decide (a > b)))
 | .geq=>some (True,.val .bool (decide (a>=b)))
 | _=>none
def KF(op:BinOp)(k:IntKind)(a b:Int):Option (Prop×aG):=
 match op with
 | .shl=>some (0<=b,.val (.int k) (adh k a b))
 | .shr=>some (0<=b,.val (.int k) (jl k a b))
 | _=>none
def Cp(op:BinOp)(a b:List UInt8):Option (Prop×aG):=
 match op with
 | .add=>some (b9 (a.length+b.length),.val .str (a++b))
 | .eql=>some (True,.val .bool (decide (a=b)))
 | .neq=>some (True,.val .bool (decide (a≠b)))
 | .lss=>some (True,.val .bool (Op.bytesLess a b))
 | .geq=>some (True,.val .bool (!Op.bytesLess a b))
 | _=>none
def ab.ka:ab->Nat
 | .st t=>t.ka+1
 | .az a b=>max a.ka b.ka
 | _=>1
def zA(op:BinOp)(t:ab)(x y:aG):ao (Option (Prop×aG)):=
 (match t,x,y with
 | .bG _,.val (.bG _) p,.jE (.pointer none)=>.ret (some p.isNone)
 | .bG _,.dU _ _,.jE (.pointer none)=>.ret (some false)
 | .bG _,.bc b g _,.jE (.pointer none)=>.eQ b λz=>.ret (if z.gen=g&&z.body.fH then some false else none)
 | t,x,y=>if t.kV&&decide (t.ka<=100) then (dy t x).cP λ(a,_)=>(dy t y).cP λ(b,_)=>.ret (some (gM t a b)) else .none:ao (Option Bool)).cP λe=>
 .ret (match op with
  | .eql=>some (True,.val .bool e)
  | .neq=>some (True,.val .bool (!e))
  | _=>none)
def bN(ca c:Prop)(v:aG):ao (Option eA):=.ret (some ⟨ca,c,v,[]⟩)
def FX(t:ab)(av:aG):ao (Option (Prop×Int)):=
 match t with
 | .slice _=>match av with
  | .val (.slice _) xs=>.ret (some (True,xs.length))
  | .dm=>.ret (some (True,0))
  | .own b g=>.eQ b λx=>.ret (if x.gen=g&&x.body.fe then some (True,x.body.len) else none)
  | .sub b g aX G=>.eQ b λx=>.ret (if x.gen=g&&x.body.fe then some (True,((G - aX:Nat):Int)) else none)
  | _=>.none
 | .str=>match av with
  | .val .str xs=>.ret (some (True,xs.length))
  | _=>.none
 | .map _ _=>match av with
  | .val (.map _ _) xs=>.ret (some (b9 xs.length,xs.length))
  | .fG b g=>.eQ b λx=>.ret (if x.gen=g then (match x.body with | .mp _ _ es=>some (b9 es.length,(es.length:Int)) | .jk _ _ es=>some (b9 es.length,(es.length:Int)) | _=>none) else none)
  | _=>.none
 | _=>.none
def zB(t:ab):aG->ao (Option aG)
 | .dU cV x=>.ret (if cV=t/\(t.eF||t.isAgg)=true then some (.val cV x) else none)
 | .bc b g off=>.eQ b λx=>.ret (if x.gen=g then (match x.body with
   | .cells t0 f=>if t.eF then (if off<t0.size then some (f off) else none) else if t.isAgg then (if off+t.size<=t0.size then some (.agg t.size λi=>f (off+i)) else none) else none
   | .gL t0 y=>if t.eF||t.isAgg then (si t0 y off t).map (.val t) else none
   | _=>none) else none)
 | .oF b g i off=>.eQ b λx=>.ret (if x.gen=g then (match x.body with
   | .bg e xs=>if t.eF||t.isAgg then (si e (xs.getD i e.de) off t).map (.val t) else none
   | .hE e xs=>if t.eF||t.isAgg then (si e (xs.getD i e.de) off t).map (.val t) else none
   | _=>none) else none)
 | _=>.none
def putCells(f:Nat->aG)(off:Nat)(l:List aG):Nat->aG:=λi=>if off<=i/\i<off+l.length then l.getD (i - off) .undef else f i
def RH(t:ab)(p v:aG):ao (Option (List (Nat×bJ))):=
 match p with
 | .bc b g off=>.eQ b λx=>.ret (if x.gen=g then (match x.body with
   | .cells t0 f=>(cellsOf t v).bind λl=>if off+l.length<=t0.size/\l.length=t.size then some [(b,⟨x.gen,.cells t0 (putCells f off l)⟩)] else none
   | _=>none) else none)
 | .oF b g i off=>(dy t v).cP λ(y,l)=>(jJ l).bind λwl=>.eQ b λx=>.ret (if x.gen=g/\!l.contains b then (match x.body with
   | .bg e xs=>(xg e (xs.getD i e.de) off t y).map λz=>wl++[(b,⟨x.gen,.bg e (xs.set i z)⟩)]
   | _=>none) else none)
 | _=>.none
def RI(bE:ab)(x:aG)(i:Int):ao (Option (Prop×aG)):=
 match x with
 | .val (.slice e) xs=>.ret (if e=bE then some (0<=i/\i<(xs.length:Int),.dU e (kU e xs i)) else none)
 | .own b g=>.eQ b λz=>.ret (if z.gen=g then (match z.body with
   | .bg e xs=>if e=bE then some (0<=i/\i<(xs.length:Int),.oF b g i.toNat 0) else none
   | .hE e xs=>if e=bE then some (0<=i/\i<(xs.length:Int),.dU e (kU e xs i)) else none
   | _=>none) else none)
 | .sub b g aX G=>.eQ b λz=>.ret (if z.gen=g then (match z.body with
   | .bg e _=>if e=bE then some (0<=i/\i<((G - aX:Nat):Int),.oF b g (aX+i.toNat) 0) else none
   | .hE e xs=>if e=bE then some (0<=i/\i<((G - aX:Nat):Int),.dU e (kU e xs ((aX:Int)+i))) else none
   | _=>none) else none)
 | .dm=>.ret (some (False,.dU bE bE.de))
 | _=>.none
def dq:Option Int->Int | some l=>l | none=>0
def fy(n:Nat):Option Int->Int | some h=>h | none=>n
def Cq(aX G:Option Int)(n m:Nat):Nat:=match aX,G with | some _,some _=>m | _,_=>n
def RJ(bE:ab)(x:aG)(aX G:Option Int):ao (Option (Prop×aG)):=
 match x with
 | .val (.slice e) xs=>.ret (if e=bE then some (0<=dq aX/\dq aX<=fy xs.length G/\fy xs.length G<=(xs.length:Int),.val (.slice e) ((xs.take (fy xs.length G).toNat).drop (dq aX).toNat)) else none)
 | .dm=>.ret (some (0<=dq aX/\dq aX<=fy 0 G/\fy 0 G<=0,.dm))
 | .own b g=>.eQ b λz=>.ret (if z.gen=g&&z.body.fe&&z.body.eZ == bE.size then some (0<=dq aX/\dq aX<=fy z.body.len G/\fy z.body.len G<=(z.body.len:Int),.sub b g (dq aX).toNat (fy z.body.len G).toNat) else none)
 | .sub b g ff aT=>.eQ b λz=>.ret (if z.gen=g&&z.body.fe&&z.body.eZ == bE.size then some (0<=dq aX/\dq aX<=fy (aT - ff) G/\fy (aT - ff) G<=((Cq aX G (aT - ff) (z.body.len - ff):Nat):Int),.sub b g (ff+(dq aX).toNat) (ff+(fy (aT - ff) G).toNat)) else none)
 | _=>.none
def RL(x:aG)(aX G:Option Int):Option (Prop×aG):=
 match x with
 | .val .str xs=>some (0<=dq aX/\dq aX<=fy xs.length G/\fy xs.length G<=(xs.length:Int),.val .str ((xs.take (fy xs.length G).toNat).drop (dq aX).toNat))
 | _=>none
def h8(d:Option Nat)(k:Nat->Nat->Option eA):ao (Option eA):=
 match d with
 | none=>.none
 | some d=>.eQ d λx=>.ret (k d (x.gen+1))
def KG(d:Option Nat)(e:ab)(x y:aG)(ca:Prop):ao (Option eA):=
 match x with
 | .own b g=>.eQ b λz=>match (if z.gen=g then z.body else .fx) with
  | .bg aY xs=>if h:aY=e then (dy (.slice e) y).cP λ(ys,_)=>.ret (some ⟨ca,b9 (xs.length+ys.length),.own b (g+1),[(b,⟨g+1,.bg e ((h ▸ xs)++ys)⟩)]⟩) else .none
  | _=>.none
 | .sub b g aX G=>.eQ b λz=>match (if z.gen=g then z.body else .fx) with
  | .bg aY xs=>if h:aY=e then (dy (.slice e) y).cP λ(ys,_)=>.ret (some ⟨ca,b9 (((xs.take G).drop aX).length+ys.length),.own b (g+2),[(b,⟨g+2,.bg e ((h ▸ (xs.take G).drop aX)++ys)⟩)]⟩) else .none
  | _=>.none
 | .dm=>(dy (.slice e) y).cP λ(ys,_)=>h8 d λb g=>some ⟨ca,b9 ys.length,.own b g,[(b,⟨g,.bg e ys⟩)]⟩
 | .xc aY xs=>if h:aY=e then (dy (.slice e) y).cP λ(ys,_)=>h8 d λb g=>some ⟨ca,0<ys.length/\b9 (xs.length+ys.length),.own b g,[(b,⟨g,.bg e ((h ▸ xs)++ys)⟩)]⟩ else .none
 | _=>.none
def FY(t:ab):List aG->List (Nat×aG)->Option (List aG)
 | cs,[]=>some cs
 | cs,(i,av)::r=>
  match mq t i with
  | none=>none
  | some (s,off)=>match cellsOf s av with
   | none=>none
   | some l=>if l.length=s.size/\off+s.size<=cs.length then FY t (cs.take off++(l++cs.drop (off+s.size))) r else none
def tT(e:ab)(ps:List (Nat×aG)):Nat->Nat->ao (Option (List e.aj×List Nat))
 | _,0=>.ret (some ([],[]))
 | i,n+1=>(match ps.find? (λp=>p.1 == i) with
   | some p=>dy e p.2
   | none=>.ret (some (e.de,[])):ao (Option (e.aj×List Nat))).cP λ(x,l)=>(tT e ps (i+1) n).cP λ(xs,m)=>.ret (some (x::xs,l++m))
def sj(ps:List (Nat×aG)):Prop:=ps.foldr (λp q=>match p.2 with | .hD b _=>b=true/\q | _=>q) True
def iE(ps:List (Nat×aG)):List (Nat×aG):=ps.map λp=>(p.1,(use p.2).2)
def jK(ps:List aG):Prop:=ps.foldr (λp q=>match p with | .hD b _=>b=true/\q | _=>q) True
def lh(aI:Operand->aG):Option Operand->Option (Prop×Option Int)
 | none=>some (True,none)
 | some x=>match use (aI x) with
  | (o,.val (.int _) n)=>some (o,some n)
  | _=>none
def FZ(T:Nat->ab)(aI:Operand->aG)(ty:TypeId)(x:Operand)(aX G:Option Operand):ao (Option eA):=
 let (cB,dX):=use (aI x)
 match lh aI aX,lh aI G with
 | some (ol,l),some (ri,h)=>match T ty with
  | .slice e=>(RJ e dX l h).cP λ(c,v)=>bN (cB/\(ol/\ri)) c v
  | .str=>match RL dX l h with
   | some (c,v)=>bN (cB/\(ol/\ri)) c v
   | none=>.none
  | _=>.none
 | _,_=>.none
def RM(bE:ab)(x:aG)(aX G:Option Int)(m:Int):ao (Option (Prop×aG)):=
 match x with
 | .val (.slice e) xs=>.ret (if e=bE then some (0<=dq aX/\dq aX<=fy xs.length G/\fy xs.length G=m/\m<=(xs.length:Int),.xc e ((xs.take m.toNat).drop (dq aX).toNat)) else none)
 | .dm=>.ret (some (dq aX=0/\fy 0 G=0/\m=0,.xc bE []))
 | .own b g=>.eQ b λz=>.ret (if z.gen=g&&z.body.fe then some (0<=dq aX/\dq aX<=fy z.body.len G/\fy z.body.len G<=m/\m<=(z.body.len:Int),.undef) else none)
 | _=>.none
def F1(T:Nat->ab)(aI:Operand->aG)(ty:TypeId)(x:Operand)(aX G pv:Option Operand):ao (Option eA):=
 let (cB,dX):=use (aI x)
 match lh aI aX,lh aI G,lh aI pv with
 | some (ol,l),some (ri,some h),some (vm,some m)=>match T ty with
  | .slice e=>(RM e dX l (some h) m).cP λ(c,v)=>bN (cB/\(ol/\(ri/\vm))) c v
  | _=>.none
 | _,_,_=>.none
def Cr(T:Nat->ab)(aI:Operand->aG)(args:List Operand)(dn:List TypeId):ao (Option eA):=
 match args,dn with
 | [x],[t]=>let (cB,dX):=use (aI x);(FX (T t) dX).cP λ(c,n)=>bN cB c (.val (.int .i64) n)
 | _,_=>.none
def Cs(T:Nat->ab)(aI:Operand->aG)(d:Option Nat)(args:List Operand)(dn:List TypeId):ao (Option eA):=
 match args,dn with
 | [x,y],[t,u]=>match T t,T u with
  | .slice e,.slice _=>let (cB,dX):=use (aI x);let (nT,kB):=use (aI y);KG d e dX kB (cB/\nT)
  | _,_=>.none
 | _,_=>.none
def mR(aI:Operand->aG)(k:IntKind):List Operand->Option (Prop×z1')
 | []=>none
 | [x]=>match (use (aI x)).2.mu with
  | some (k',n)=>if k'=k then some ((use (aI x)).1,[n]) else none
  | none=>none
 | x::l=>match (use (aI x)).2.mu,mR aI k l with
  | some (k',n),some (ca,h9)=>if k'=k then some ((use (aI x)).1/\ca,n::h9) else none
  | _,_=>none
def sk(aI:Operand->aG)(f:Int->Int->Int)(args:List Operand):ao (Option eA):=
 match args with
 | x::y::l=>match (use (aI x)).2.mu with
  | some (k,a)=>match mR aI k (y::l) with
   | some (ca,h9)=>bN ((use (aI x)).1/\ca) True (.val (.int k) (h9.foldl f a))
   | none=>.none
  | none=>.none
 | _=>.none
def Ct(T:Nat->ab)(aI:Operand->aG)(args:List Operand)(dn:List TypeId):ao (Option eA):=
 match args,dn with
 | [x],[t]=>match T t,use (aI x) with
  | .slice _,(cB,.dm)=>bN cB True (.val (.int .i64) 0)
  | _,_=>.none
 | _,_=>.none
def nU(t:ab):Bool:=match t with | .az (.slice _) .cS=>true | _=>false
def Cu(t:ab)(y:t.aj):Option ((e:ab)×List e.aj):=match t,y with | .az (.slice e) .cS,y=>some ⟨e,y.1⟩ | _,_=>none
def F2(be:Nat->Option aM)(aI:Operand->aG)(d:Option Nat)(k:Nat)(args:List Operand):ao (Option eA):=
 let l:=args.map aI
 match be k with
 | some c=>(iY c.ts (l.map λv=>(use v).2)).cP λ(x,bU)=>match Cu c.aW (c.g x) with
  | some y=>(jJ bU).bind λwl=>h8 d λb g=>if bU.contains b then none else some ⟨jK l,c.pre x,.own b g,wl++[(b,⟨g,.bg y.1 y.2⟩)]⟩
  | none=>(if c.aW.pure then .ret [] else jJ bU:ao (List (Nat×bJ))).bind λwl=>.ret (some ⟨jK l,c.pre x,rh c.aW (c.g x),wl⟩)
 | none=>.none
def zC{k v:ab}(es:List (k.aj×v.aj))(x:k.aj):Option v.aj:=(es.find? λp=>gM k x p.1).map (·.2)
def lN{k v:ab}:List (k.aj×v.aj)->k.aj->v.aj->List (k.aj×v.aj)
 | [],x,y=>[(x,y)]
 | p::es,x,y=>if gM k x p.1=true then (p.1,y)::es else p::lN es x y
def tU(k:ab):Bool:=k.kV&&decide (k.ka<=100)
def Cv(k v:ab)(m:aG):ao (Option (List (k.aj×v.aj))):=
 match m with
 | .val t es=>.ret (eR t (.map k v) es)
 | .jE (.map none)=>.ret (some [])
 | .fG b g=>.eQ b λx=>.ret (if x.gen=g then (match x.body with
   | .mp k' h7 es=>eR (.map k' h7) (.map k v) es
   | .jk k' h7 es=>eR (.map k' h7) (.map k v) es
   | _=>none) else none)
 | _=>.none
def RN(v:ab)(r:Option v.aj)(ok:Bool):aG:=
 match ok with
 | true=>.qm 2 (hi [.val v (r.getD v.de),.val .bool r.isSome])
 | false=>.val v (r.getD v.de)
def zD(T:Nat->ab)(aI:Operand->aG)(ty:TypeId)(m x:Operand)(ok:Bool):ao (Option eA):=
 match T ty with
 | .map k v=>let (vm,KH):=use (aI m);let (cB,dX):=use (aI x);if tU k&&(v.eF||v.isAgg) then
   (Cv k v KH).cP λes=>(dy k dX).cP λ(y,_)=>
    bN (vm/\cB) True (RN v (zC es y) ok)
  else .none
 | _=>.none
def rj(T:Nat->ab)(aI:Operand->aG)(ty:TypeId)(m x y:Operand):ao (Option eA):=
 match T ty with
 | .map k v=>let (vm,KH):=use (aI m);let (cB,dX):=use (aI x);let (nT,kB):=use (aI y);if tU k then
   match KH with
   | .fG b g=>(dy k dX).cP λ(x,oH)=>(dy v kB).cP λ(y,oI)=>(jJ (oH++oI)).bind λwl=>.eQ b λz=>.ret (if z.gen=g/\!(oH++oI).contains b then (match z.body with
     | .mp k' h7 es=>(eR (.map k' h7) (.map k v) es).map λes=>⟨vm/\cB/\nT,True,.undef,wl++[(b,⟨z.gen,.mp k v (lN es x y)⟩)]⟩
     | _=>none) else none)
   | _=>.none
  else .none
 | _=>.none
def F3(T:Nat->ab)(aI:Operand->aG)(d:Option Nat)(ty:TypeId)(l c:Operand):ao (Option eA):=
 match T ty with
 | .slice e=>let (ol,adm):=use (aI l);let (qt,adn):=use (aI c);match adm.mu,adn.mu with
  | some (.i64,n),some (.i64,m)=>h8 d λb g=>some ⟨ol/\qt,0<=n/\n=m/\b9 n.toNat,.own b g,[(b,⟨g,.bg e (List.replicate n.toNat e.de)⟩)]⟩
  | _,_=>.none
 | _=>.none
def gg{ak:Type}(xs:List ak)(aX:Nat)(ys:List ak):List ak:=xs.take aX++ys++xs.drop (aX+ys.length)
def F4(T:Nat->ab)(aI:Operand->aG)(args:List Operand)(dn:List TypeId):ao (Option eA):=
 match args,dn with
 | [x,y],[t,u]=>match T t,T u with
  | .slice e,.slice _=>let (cB,dX):=use (aI x);let (nT,kB):=use (aI y);match (match dX with | .own b g=>some (b,g,0,none) | .sub b g aX G=>some (b,g,aX,some G) | _=>none:Option (Nat×Nat×Nat×Option Nat)) with
   | some (b,g,aX,G)=>(dy (.slice e) kB).cP λ(ys,_)=>.eQ b λz=>.ret (if z.gen=g then (match z.body with
     | .bg aY xs=>if h:aY=e then some ⟨cB/\nT,True,.val (.int .i64) ((min (G.getD xs.length - aX) ys.length:Nat):Int),[(b,⟨z.gen,.bg e (gg (h ▸ xs) aX (ys.take (G.getD xs.length - aX)))⟩)]⟩ else none
     | _=>none) else none)
   | none=>.none
  | _,_=>.none
 | _,_=>.none
def xi(aI:Operand->aG)(args:List Operand):Option (Nat×Nat×Nat×Nat):=
 match args with
 | [x,y]=>match (use (aI x)).2,(use (aI y)).2 with
  | .sub b g aX G,.sub bd g' _ _=>if bd=b/\g'=g then some (b,g,aX,G) else none
  | _,_=>none
 | _=>none
def Cw(T:Nat->ab)(aI:Operand->aG)(args:List Operand)(dn:List TypeId)(b g aX G:Nat):ao (Option eA):=
 match args,dn with
 | [x,y],[t,u]=>match T t,T u with
  | .slice e,.slice _=>let (cB,_):=use (aI x);let (nT,kB):=use (aI y);(dy (.slice e) kB).cP λ(ys,_)=>.eQ b λz=>.ret (if z.gen=g then (match z.body with
    | .bg aY xs=>if h:aY=e then some ⟨cB/\nT,G+ys.length<=xs.length,.sub b g aX (G+ys.length),[(b,⟨z.gen,.bg e (gg (h ▸ xs) G ys)⟩)]⟩ else none
    | _=>none) else none)
  | _,_=>.none
 | _,_=>.none
def Cx(T:Nat->ab)(aI:Operand->aG)(args:List Operand)(dn:List TypeId):ao (Option eA):=
 match args,dn with
 | [x],[t]=>match T t with
  | .slice e=>let (cB,dX):=use (aI x);match dX with
   | .sub b g aX G=>.eQ b λz=>.ret (if z.gen=g then (match z.body with
     | .bg aY xs=>if h:aY=e then some ⟨cB,True,.undef,[(b,⟨z.gen,.bg e (gg (h ▸ xs) aX (List.replicate (G - aX) e.de))⟩)]⟩ else none
     | _=>none) else none)
   | _=>.none
  | _=>.none
 | _,_=>.none
def mS(T:Nat->ab)(be:Nat->Option aM)(aI:Operand->aG)(d:Option Nat)(c:Call):ao (Option eA):=
 match c.callee with
 | .builtin b=>match b with
  | .len=>Cr T aI c.args.toList c.argTypes.toList
  | .append=>match xi aI c.args.toList with
   | some (b,g,aX,G)=>Cw T aI c.args.toList c.argTypes.toList b g aX G
   | none=>Cs T aI d c.args.toList c.argTypes.toList
  | .clear=>Cx T aI c.args.toList c.argTypes.toList
  | .copy=>F4 T aI c.args.toList c.argTypes.toList
  | .min=>sk aI (λa b=>if b<a then b else a) c.args.toList
  | .max=>sk aI (λa b=>if b > a then b else a) c.args.toList
  | .cap=>Ct T aI c.args.toList c.argTypes.toList
  | _=>.none
 | .value f=>match f with
  | .func k=>F2 be aI d k c.args.toList
  | _=>.none
 | _=>.none
def vn(ys:z1'):List UInt8:=ys.map λn=>UInt8.ofNat n.toNat
def RO(t:ab)(ca:Prop)(b g i:Nat):ao (Option eA):=
 .eQ b λz=>.ret (match z.body with
  | .gi _ _ lj v=>if z.gen=g/\t.eF=true then some ⟨ca,i=lj,v,[]⟩ else none
  | _=>none)
def KI(t:ab)(ca:Prop)(b g i:Nat)(v:aG):ao (Option eA):=
 match v with
 | .own bd g'=>.eQ b λz=>.ret (match z.body with
  | .gi e xs lj _=>if z.gen=g/\t.eF=true then some ⟨ca,i=lj,.undef,[(b,⟨z.gen,.gi e xs lj (.own bd g')⟩)]⟩ else none
  | _=>none)
 | _=>.none
def br(aP:dC)(T:Nat->ab)(be:Nat->Option aM)(aI:Operand->aG)(o:Oper):ao (Option eA):=
 match o.op with
 | .move x=>bN True True (aI x)
 | .assign x=>match aI x,T o.type with
  | .dm,.slice e=>h8 o.dst λb g=>some ⟨True,True,.own b g,[(b,⟨g,.bg e []⟩)]⟩
  | v,_=>bN True True v
 | .pick c a b=>match use (aI c) with
  | (qt,.val .bool i_)=>match a,b with
   | _,.const (.bool false)=>match use (aI a) with
    | (zE,.val .bool av)=>bN (qt/\(i_=true->zE)) True (.val .bool (i_&&av))
    | _=>.none
   | .const (.bool true),_=>match use (aI b) with
    | (ca,.val .bool bv)=>bN (qt/\(i_=false->ca)) True (.val .bool (i_||bv))
    | _=>.none
   | _,_=>.none
  | _=>.none
 | .binOp op ty x y _=>
  let (cB,dX):=use (aI x)
  let (nT,kB):=use (aI y)
  match dX.mu,kB.mu with
  | some (k,a),some (k',b)=>(match op with
   | .shl | .shr=>match KF op k a b with
    | some (c,v)=>bN (cB/\nT) c v
    | none=>.none
   | _=>if k=k' then (match zz op k a b with
    | some (c,v)=>bN (cB/\nT) c v
    | none=>.none) else .none)
  | _,_=>match dX.tS,kB.tS with
   | some a,some b=>match Cp op a b with
    | some (c,v)=>bN (cB/\nT) c v
    | none=>.none
   | _,_=>(zA op (T ty) dX kB).cP λ(c,v)=>bN (cB/\nT) c v
 | .unOp op _ x=>match op,use (aI x) with
  | .not,(cB,.val .bool b)=>bN cB True (.val .bool (!b))
  | .neg,(cB,.val (.int k) n)=>bN cB True (.val (.int k) (k.wrap (0 - n)))
  | _,_=>.none
 | .extract x i=>match use (aI x) with
  | (cB,.qm n f)=>if i<n then bN cB True (f i) else .none
  | _=>.none
 | .nilCheck x=>match use (aI x) with
  | (cB,.iW b g i)=>.eQ b λz=>.ret (if z.gen=g&&z.body.fe then some ⟨cB,True,.iW b g i,[]⟩ else none)
  | (cB,.dU t d)=>bN cB True (.dU t d)
  | (cB,.val (.bG e) p)=>bN cB (p.isSome=true) (.dU e (p.getD e.de))
  | (cB,.bc b g off)=>.eQ b λz=>.ret (if z.gen=g&&z.body.fH then some ⟨cB,True,.bc b g off,[]⟩ else none)
  | _=>.none
 | .fieldAddr ty x f=>match T ty with
  | .st t=>match mq t f with
   | some (_,xj)=>match use (aI x) with
    | (cB,.bc b g off)=>.eQ b λz=>.ret (if z.gen=g&&z.body.fH then some ⟨cB,True,.bc b g (off+xj),[]⟩ else none)
    | (cB,.oF b g i off)=>.eQ b λz=>.ret (if z.gen=g&&z.body.fe then some ⟨cB,True,.oF b g i (off+xj),[]⟩ else none)
    | (cB,.iW b g i)=>.eQ b λz=>.ret (if z.gen=g&&z.body.fe&&xj == 0 then some ⟨cB,True,.iW b g i,[]⟩ else none)
    | (cB,.dU (.st cV) d)=>if cV=t then (match vi cV d f with
     | some ⟨s',y⟩=>bN cB True (.dU s' y)
     | none=>.none) else .none
    | _=>.none
   | none=>.none
  | _=>.none
 | .field ty x f=>match T ty with
  | .st t=>match use (aI x) with
   | (cB,.val (.st cV) d)=>if cV=t then (match vi cV d f with
     | some ⟨s',y⟩=>bN cB True (.val s' y)
     | none=>.none) else .none
   | _=>.none
  | _=>.none
 | .load ty x=>match use (aI x) with
  | (cB,.iW b g i)=>RO (T ty) cB b g i
  | (cB,dX)=>(zB (T ty) dX).cP λv=>bN cB True v
 | .store ty x y=>let (nT,kB):=use (aI y);match use (aI x) with
  | (cB,.iW b g i)=>KI (T ty) (cB/\nT) b g i kB
  | (cB,dX)=>(RH (T ty) dX kB).cP λwl=>.ret (some ⟨cB/\nT,True,.undef,wl⟩)
 | .alloc ty=>h8 o.dst λb g=>if T ty=.cS then none else some ⟨True,True,.bc b g 0,[(b,⟨g,.cells (T ty) (hi (sg (T ty)))⟩)]⟩
 | .box ty x=>let (cB,dX):=use (aI x);match cellsOf (T ty) dX with
  | some l=>h8 o.dst λb g=>if l.length=(T ty).size then some ⟨cB,True,.bc b g 0,[(b,⟨g,.cells (T ty) (hi l)⟩)]⟩ else none
  | none=>.none
 | .build ty ps=>let l:=ps.toList.map λp=>(p.1,aI p.2);match T ty with
  | .st t=>match FY t (sg t) (iE l) with
   | some cs=>bN (sj l) True (.agg cs.length (hi cs))
   | none=>.none
  | .array m e=>(tT e (iE l) 0 m).cP λ(xs,bU)=>if (bU.isEmpty&&decide ((iE l).map (·.1)).Nodup&&(iE l).all (λp=>decide (p.1<m)))=true then bN (sj l) True (.val (.array m e) xs) else .none
  | _=>.none
 | .buildSlice ty n ps=>let l:=ps.toList.map λp=>(p.1,aI p.2);match T ty with
  | .slice e=>(tT e (iE l) 0 n).cP λ(xs,bU)=>(jJ bU).bind λwl=>h8 o.dst λb g=>if n*e.size<=65536/\(!bU.contains b&&decide ((iE l).map (·.1)).Nodup&&(iE l).all (λp=>decide (p.1<n)))=true then some ⟨sj l,True,.own b g,wl++[(b,⟨g,.bg e xs⟩)]⟩ else none
  | _=>.none
 | .indexAddr ty x i=>let (cB,dX):=use (aI x);let (xk,KJ):=use (aI i);match T ty,KJ.mu with
  | .slice e,some (_,n)=>(RI e dX n).cP λ(c,v)=>bN (cB/\xk) c v
  | .array m e,some (_,n)=>match dX with
   | .dU (.array dw aY) xs=>if dw=m/\aY=e then bN (cB/\xk) (0<=n/\n<(m:Int)) (.dU aY (kU aY xs n)) else .none
   | .bc b g off=>.eQ b λz=>.ret (if z.gen=g&&z.body.fH then some ⟨cB/\xk,0<=n/\n<(m:Int),.bc b g (off+n.toNat*e.size),[]⟩ else none)
   | _=>.none
  | _,_=>.none
 | .index ty x i=>let (cB,dX):=use (aI x);let (xk,KJ):=use (aI i);match T ty,dX.tS,KJ.mu with
  | .str,some s,some (_,n)=>bN (cB/\xk) (0<=n/\n<(s.length:Int)) (.val (.int .u8) ((s.getD n.toNat 0).toNat:Int))
  | .array m e,_,some (_,n)=>match dX with
   | .val (.array dw aY) xs=>if dw=m/\aY=e then bN (cB/\xk) (0<=n/\n<(m:Int)) (.val aY (kU aY xs n)) else .none
   | .agg k f=>if k=m*e.size then bN (cB/\xk) (0<=n/\n<(m:Int)) (if e.isAgg=true then .agg e.size (λq=>f (n.toNat*e.size+q)) else f (n.toNat*e.size)) else .none
   | _=>.none
  | _,_,_=>.none
 | .convert a b x=>let (cB,dX):=use (aI x);match T a,T b,dX.mu with
  | .int _,.int k,some (_,n)=>bN cB True (.val (.int k) (k.wrap n))
  | .slice (.int .u8),.str,_=>(dy (.slice (.int .u8)) dX).cP λ(ys,_)=>bN cB True (.val .str (vn ys))
  | _,_,_=>.none
 | .makeFunc fn first cZ=>match fn with
  | .func k=>let l:=cZ.toList.map aI;if first.isEmpty then (match aP.tP k with
   | some v=>(iY (gh (v.cs.map .bG)) (l.map λv=>(use v).2)).cP λ(y,bU)=>(jJ bU).bind λwl=>.ret (some ⟨jK l,True,.val (.fn (gh v.as) v.aW) (λx=>v.sh (FR v.as (v.cs.map .bG) x y)),wl⟩)
   | none=>match aP.xb k with
    | some v=>(iY (gh (v.cs.map .bG)) (l.map λv=>(use v).2)).cP λ(y,bU)=>(jJ bU).bind λwl=>.ret (some ⟨jK l,True,.val (.cq v.aJ) (v.S y),wl⟩)
    | none=>bN (jK l) True (.iB k l.length (hi (l.map λv=>(use v).2)))) else (if cZ.isEmpty then bN (jK (first.toList.map aI)) True (.sf k first.size (hi ((first.toList.map aI).map λv=>(use v).2))) else .none)
  | _=>.none
 | .makeMap ty r=>if r.isSome then .none else match T ty with
  | .map k v=>h8 o.dst λb g=>some ⟨True,True,.fG b g,[(b,⟨g,.mp k v []⟩)]⟩
  | _=>.none
 | .lookup ty m x ok=>zD T aI ty m x ok
 | .mapUpdate ty m x y=>rj T aI ty m x y
 | .insert ty m x y=>rj T aI ty m x y
 | .makeSlice ty l c=>F3 T aI o.dst ty l c
 | .makeInterface _ _=>bN True False .undef
 | .panic _=>bN True False .undef
 | .slice ty x aX G pv=>if pv.isSome then F1 T aI ty x aX G pv else FZ T aI ty x aX G
 | .call c=>mS T be aI o.dst c
 | _=>.none
def dQ(r:Option Nat):Fence:={ Fence.wide with round:=r }
section
variable {P:Program} {w:World}
theorem dA{t:TypeId}{d:TypeDesc}(h:P.underlying t=some d):(underlying t).run P w=.ok d w:=by simp[underlying,h]
theorem F5{t:TypeId}{i:TypeInfo}(h:P.info? t=some i):(typeInfo t).run P w=.ok i w:=by simp[typeInfo,h]
theorem sn{t:TypeId}{i:TypeInfo}(h:P.info? t=some i):(sizeOf t).run P w=.ok i.size w:=by simp[sizeOf,F5 h]
theorem rk{t:TypeId}{i:TypeInfo}{z:Value}(h:P.info? t=some i)(bj:i.zero=some z):(zeroValue t).run P w=.ok z w:=by simp[zeroValue,F5 h,bj]
theorem b7.size{t:ab}{id:TypeId}(h:b7 P t id):(sizeOf id).run P w=.ok t.size w:=by
 obtain⟨i,z,E,U,_⟩:=kz h.ky;rw[sn E,U]
theorem b7.st{t:ab}{id:TypeId}(h:b7 P (.st t) id):∃ eS,P.underlying id=some (.struct eS):=by
 unfold b7 at h;simp only[cD,Bool.and_eq_true]at h;grind
theorem b7.sl{e:ab}{id:TypeId}(h:b7 P (.slice e) id):∃ i,P.underlying id=some (.slice i)/\b7 P e i/\e.size≠0:=by
 unfold b7 at h;simp only[cD,Bool.and_eq_true]at h;obtain⟨_,h⟩:=h;split at h
 ·rename_i i G;simp only[Bool.and_eq_true,bne_iff_ne,ne_eq]at h;exact⟨i,G,h.1,h.2⟩
 grind
theorem ado:∀ (t:ab) {l:List Field} {F6 f off:Nat} {s:ab},cD P t (.inr (l,F6))=true->mq t f=some (s,off)->
  ∃ nV,l[f]?=some nV/\nV.offset=F6+off/\b7 P s nV.type/\s.size≠0:=by
 intro t;induction t with
 | az a b fw eJ=>
  intro l F6 f off s h ar;match l,h with
  | [],h=>simp only[cD,Bool.false_eq_true]at h
  | [x],h=>simp only[cD,Bool.false_eq_true]at h
  | [x,y],h=>
   simp only[cD,Bool.and_eq_true,beq_iff_eq,bne_iff_ne,ne_eq]at h;obtain⟨⟨⟨⟨E,U⟩,ag⟩,_⟩,⟨⟨a6,bM⟩,dt⟩,_⟩:=h;cases f with
   | zero=>simp only[mq,Option.some.injEq,Prod.mk.injEq]at ar;obtain⟨rfl,rfl⟩:=ar;exact⟨x,rfl,E,U,ag⟩
   | succ f=>
    simp only[mq,Option.map_eq_some_iff,Prod.mk.injEq]at ar;obtain⟨⟨s',hT⟩,ar,rfl,rfl⟩:=ar;have W:∃ u,mq b f=some u/\f=0/\u=(b,0):=by
     cases b<;>cases f<;>simp only[mq,reduceCtorEq]at ar<;>first
      | exact⟨_,ar,rfl,by cases ar;rfl⟩
      | (simp only[cD,Bool.false_eq_true]at bM)
    obtain⟨u,hu,rfl,rfl⟩:=W;rw[hu]at ar;cases ar;exact⟨y,rfl,by omega,bM,dt⟩
  | x::y::z::l,h=>
   simp only[cD,Bool.and_eq_true,beq_iff_eq,bne_iff_ne,ne_eq]at h;obtain⟨⟨⟨⟨E,U⟩,ag⟩,_⟩,a6⟩:=h;cases f with
   | zero=>simp only[mq,Option.some.injEq,Prod.mk.injEq]at ar;obtain⟨rfl,rfl⟩:=ar;exact⟨x,rfl,E,U,ag⟩
   | succ f=>
    simp only[mq,Option.map_eq_some_iff,Prod.mk.injEq]at ar;grind
 | _=>intro l F6 f off s h _;simp only[cD,Bool.false_eq_true]at h
theorem b7.field{t s:ab}{id f off:Nat}(h:b7 P (.st t) id)(ar:mq t f=some (s,off)) :
  ∃ eS nV,P.underlying id=some (.struct eS)/\eS[f]?=some nV/\nV.offset=off/\b7 P s nV.type/\s.size≠0:=by
 unfold b7 at h;simp only[cD,Bool.and_eq_true]at h;obtain⟨_,h⟩:=h;split at h
 ·rename_i eS jm;refine⟨eS,?_⟩;have eT:∀ {nV},eS.toList[f]?=some nV->eS[f]?=some nV:=λh=>by grind
  split at h
  ·rename_i ai;rw[of_decide_eq_true h]at ar;cases f<;>cases ar
  ·rename_i x ai;simp only[Bool.and_eq_true,beq_iff_eq,bne_iff_ne,ne_eq]at h;have W:f=0/\(s,off)=(t,0):=by
    cases t<;>cases f<;>simp only[mq,reduceCtorEq]at ar<;>first
     | exact⟨rfl,by cases ar;rfl⟩
     | (have:=h.1.1.2;simp only[cD,Bool.false_eq_true]at this)
   obtain⟨rfl,W⟩:=W;cases W;exact⟨x,jm,eT (by grind),h.1.1.1,h.1.1.2,h.1.2⟩
  ·obtain⟨nV,aQ,aV,bK⟩:=ado t h ar;grind
 grind
def kC(w:World)(p:Addr)(cs:List Value):Prop:=(0<cs.length->p.spot=none)/\∀ j (h:j<cs.length),w.cell? ⟨p.block,p.off+j,none⟩=some cs[j]
theorem Holds.KK{F:Nat->Prop}{p:Addr}{cs:List Value}(h:Holds F w p cs):kC w p cs:=⟨λ_=>h.2.1,h.2.2⟩
theorem F7{p:Addr}{cs:List Value}(h:kC w p cs):(loadCells p cs.length).run P w=.ok cs.toArray w:=by
 obtain⟨aD,hc⟩:=h;refine run_loadCells_list w p cs λj v aE=>?_;obtain⟨fR,rfl⟩:=List.getElem?_eq_some_iff.1 aE;have an:p=⟨p.block,p.off,none⟩:=by have:=aD (by omega);cases p;simp_all
 have:=hc j fR;have zF:p.add j=⟨p.block,p.off+j,none⟩:=by
  unfold Addr.add;grind
 grind
theorem zG{t:ab}{id:TypeId}(h:b7 P t id):(isAgg id).run P w=.ok t.isAgg w:=by
 unfold b7 at h;unfold isAgg;cases t<;>simp only[cD,Bool.and_eq_true,Bool.false_eq_true]at h<;>(obtain⟨_,h⟩:=h;split at h)<;>
  first
   | (rename_i hu;simp[dA hu,ab.isAgg];done)
   | (cases h;done)
   | (rename_i hu;simp[dA hu,ab.isAgg])
theorem KL{F:Nat->Prop}{p:Addr}{cs:List Value}{t:ab}{id:TypeId}{x:t.aj}(h:b7 P t id)(cT:kC w p cs)(ah:bH P t F w cs x) :
  ∃ v,(loadVar id p).run P w=.ok v w/\eo P t F w v x:=by
 have hlen:=hR t ah;by_cases a8:t.isAgg=true
 ·refine⟨.agg cs.toArray,?_,?_,by simpa [Value.cells]using ah⟩
  ·have:=F7 (P:=P) cT;rw[hlen]at this;simp[loadVar,zG h,a8,h.size,this]
  ·cases t<;>simp only[ab.isAgg,Bool.false_eq_true]at a8
   ·exact⟨cs.toArray,rfl,by simpa [ab.size]using hlen⟩
   ·exact⟨cs.toArray,rfl,by simpa [ab.size]using hlen⟩
 ·have ai:t.eF=true:=by
   cases t<;>simp only[ab.isAgg,not_true]at a8<;>first | rfl | (unfold b7 at h;simp only[cD,Bool.false_eq_true]at h)
  obtain⟨u,rfl,hu⟩:=Ch ai ah;refine⟨u,?_,(dT ai).2 ⟨hu,ah⟩⟩;have hc:=cT.2 0 (by simp);have an:p=⟨p.block,p.off+0,none⟩:=by have:=cT.1 (by simp);cases p;simp_all
  rw[<-an]at hc;simp[loadVar,zG h,a8,hc]
end
section
variable {r:Option Nat} {P:Program} {o:Oper} {a:Act} {w w':World} {K:Act->World->Prop} {Q:Exit->Act->World->Prop}
theorem zH(aq:∀ c,o.op≠.defer c):o.semAt (dQ r).round a.eval=execOp a.eval o:=Oper.semAt_eq _ _ _ aq
theorem hx{v:Value}(aq:∀ c,o.op≠.defer c)(h:(execOp a.eval o).run P w=.ok (.value v) w')(al:K (a.put o.dst v) w'):o.wpIn (dQ r) 0 P a w K Q:=by
 refine⟨λ_ _=>trivial,?_⟩;rw[zH aq,h];exact al
theorem F8(aq:∀ c,o.op≠.defer c)(h:(execOp a.eval o).run P w=.ok .skip w')(al:K (a.put o.dst Go.undef) w'):o.wpIn (dQ r) 0 P a w K Q:=by
 refine⟨λ_ _=>trivial,?_⟩;rw[zH aq,h];exact al
end
def aA.fZ(s:aA):List (Nat×bJ)->aA
 | []=>s
 | p::l=>(s.cw p.1 p.2).fZ l
def aA.h_(s:aA)(d:Option Nat)(res:eA):aA:=(s.fZ res.hF).set d res.e6
def cG(C:b8)(o:Oper)(s:aA)(res:eA):Prop:=
 ∀ a w κ F Q,bk C s a w κ F->res.ca->res.c->o.wpIn (dQ C.r) 0 C.P a w (λa' w'=>cr C (s.h_ o.dst res) a' w') Q
theorem cG.pure{C:b8}{o:Oper}{s:aA}{ca c:Prop}{e6:aG}(aq:∀ c,o.op≠.defer c)(bf:∀ i,o.dst=some i->i<C.nt)
  (h:∀ a w κ F,bk C s a w κ F->ca->c->∃ v,(execOp a.eval o).run C.P w=.ok (.value v) w/\bx C.P s.aa κ F w e6 v):cG C o s ⟨ca,c,e6,[]⟩:=by
 intro a w κ F Q M bb hc;obtain⟨v,E,U⟩:=h a w κ F M bb hc;exact hx aq E ⟨κ,F,M.set bf U⟩
section
variable {P:Program} {H:Nat->bJ} {κ:Nat->bA} {F:Nat->Prop} {w:World}
theorem pw{av:aG}{v:Value}(h:bx P H κ F w av v)(hu:(use av).1):bx P H κ F w (use av).2 v:=by
 cases av<;>first | exact h | exact h.1 hu
theorem adp(v:Value):bx P H κ F w (xh v) v:=by
 unfold xh;split
 ·exact fc.2 rfl
 ·split
  ·rename_i h;exact gU.2 ⟨rfl,h⟩
  ·rfl
 ·split
  ·rename_i s h;refine mm.2 ⟨by simp,?_⟩;have:s.data.toList.length=s.size:=by rfl
   omega
  ·rfl
 ·rfl
 ·rfl
theorem kc{C:b8}{s:aA}{a:Act}{w:World}{κ:Nat->bA}{F:Nat->Prop}(h:bk C s a w κ F)(x:Operand):bx C.P s.aa κ F w (aZ C.aN s.ay x) (a.eval x):=by
 cases x with
 | tmp t=>exact h.bS t
 | const v=>exact adp v
 | func f=>
  show bx _ _ _ _ _ (match C.aN.tO f with | some v=>.val (.fn v.ts v.aW) v.sh | none=>.iB f 0 λ_=>.undef) (.func (.func f) #[] #[]);split
  ·rename_i v ae;exact (dT rfl).2 ⟨rfl,ac_ (h.jH.tO f v ae) F w⟩
  ·exact⟨[],rfl,rfl,λi G=>by omega⟩
 | global g=>trivial
theorem oJ{av:aG}{v:Value}{k:IntKind}{n:Int}(h:bx P H κ F w av v)(G:av.mu=some (k,n)):v=.int k n/\fQ k n:=by
 unfold aG.mu at G;split at G
 ·cases G;exact gU.1 h
 grind
theorem KM{av:aG}{v:Value}{s:List UInt8}(h:bx P H κ F w av v)(G:av.tS=some s):v=.string ⟨s.toArray⟩/\s.length<2 ^ 63:=by
 unfold aG.tS at G;split at G
 ·cases G;exact mm.1 h
 grind
end
theorem qu(k:IntKind)(n:Int):fQ k (k.wrap n):=by
 unfold fQ IntKind.wrap;have E:=Int.emod_nonneg n (b:=2 ^ k.bits) (by cases k<;>decide);have U:=Int.emod_lt_of_pos n (b:=2 ^ k.bits) (by omega);cases k<;>simp only[IntKind.min,IntKind.max,IntKind.signed,IntKind.bits,Bool.true_and,Bool.false_and,Bool.false_eq_true,if_true,if_false,Nat.reduceSub,Int.reducePow]at E U ⊢<;>first
  | (constructor<;>split<;>first | (rename_i hc;have hc:=of_decide_eq_true hc;omega) | (rename_i hc;have hc:=mt decide_eq_true hc;omega))
  | omega
theorem adq{k:IntKind}{a b:Int}(a8:fQ k a):fQ k (a.tmod b):=by
 unfold fQ at *
 have E:k.min<=0/\0<=k.max:=by cases k<;>decide
 have U:=Int.natAbs_tmod a b;have ag:=Nat.mod_le a.natAbs b.natAbs;rcases Int.le_total 0 a with h | h
 ·have:=Int.tmod_nonneg b h;omega
 ·have a6:(-a).tmod b=- (a.tmod b):=Int.neg_tmod a b;have:=Int.tmod_nonneg b (a:=-a) (by omega);omega
end Go.Fer
namespace Go.Fer
open Go.RowKit
theorem RP{P:Program}{w:World}{t:ab}{id:TypeId}(h:b7 P t id)(ai:t.isAgg=false){cs:Array Value}{off:Nat}{v:Value}(ae:cs[off]?=some v) :
  (part id cs off).run P w=.ok v w:=by
 simp[part,zG h,ai,ae]
theorem RQ{P:Program}{w:World}{t:ab}{id:TypeId}(h:b7 P t id)(ai:t.isAgg=true){cs:Array Value}{off:Nat} :
  (part id cs off).run P w=.ok (.agg (cs.extract off (off+t.size))) w:=by
 simp[part,zG h,ai,h.size]
theorem rl{P:Program}{F:Nat->Prop}{w:World}{t:ab}{id:TypeId}(h:b7 P t id){p c q:List Value}{cs:Array Value}{x:t.aj}(px:cs.toList=p++(c++q))(hc:bH P t F w c x) :
  ∃ v,(part id cs p.length).run P w=.ok v w/\eo P t F w v x:=by
 have hlen:=hR t hc;by_cases a8:t.isAgg=true
 ·refine⟨_,RQ h a8,?_⟩;have he:(cs.extract p.length (p.length+t.size)).toList=c:=by
   simp_all
  have ae:(Value.agg (cs.extract p.length (p.length+t.size))).cells.toList=c:=he;refine⟨?_,by grind⟩;have cd:(cs.extract p.length (p.length+t.size)).size=t.size:=by grind
  cases t<;>simp only[ab.isAgg,Bool.false_eq_true]at a8
  ·exact⟨_,rfl,by simpa [ab.size]using cd⟩
  ·exact⟨_,rfl,by simpa [ab.size]using cd⟩
 ·have ai:t.eF=true:=by
   cases t<;>simp only[ab.isAgg,not_true]at a8<;>first | rfl | (unfold b7 at h;simp only[cD,Bool.false_eq_true]at h)
  obtain⟨u,rfl,hu⟩:=Ch ai hc;refine⟨u,RP h (by grind) ?_,(dT ai).2 ⟨hu,hc⟩⟩;rw[<-Array.getElem?_toList,px];simp
theorem b7.Cy{P:Program}{t:ab}{id:TypeId}(h:b7 P (.st t) id):P.stoodInHeld id=false/\P.eqGuardType P.depth id=false/\
  (cD P t (.inr ((P.fieldsOf id).toList, 0)) = true \/ (∃ f, (P.fieldsOf id).toList = [f] /\ f.offset = 0 /\ b7 P t f.type /\ f.name ≠ "_") \/ (t = .cS /\ (P.fieldsOf id).toList = [])) /\ P.underlying id = some (.struct (P.fieldsOf id)) := by
 unfold b7 at h;simp only[cD,Bool.and_eq_true,Bool.not_eq_true']at h;obtain⟨⟨⟨_,E⟩,U⟩,h⟩:=h;split at h
 ·rename_i eS jm;have ar:P.fieldsOf id=eS:=by simp[Program.fieldsOf,jm]
  rw[ar];refine⟨E,U,?_,jm⟩;split at h
  ·grind
  ·rename_i x ai;simp only[Bool.and_eq_true,beq_iff_eq,bne_iff_ne,ne_eq]at h;exact .inr (.inl ⟨x,ai,h.1.1.1,h.1.1.2,h.2⟩)
  grind
 grind
theorem KN{P:Program}{F:Nat->Prop}{w:World}:∀ (t:ab) (d:Nat),t.kV=true->t.ka<=d->
  (∀ {id:TypeId} {v u:Value} {x y:t.aj},b7 P t id->eo P t F w v x->eo P t F w u y->(Op.equalIn d id v u).run P w=.ok (gM t x y) w)/\
  (∀ {l:List Field} {off:Nat} {xs ys:Array Value} {p c q p' c' q':List Value} {x y:t.aj},cD P t (.inr (l,off))=true->xs.toList=p++(c++q)->p.length=off->bH P t F w c x->
   ys.toList=p'++(c'++q')->p'.length=off->bH P t F w c' y->(Op.eqFields d xs ys l).run P w=.ok (gM t x y) w):=by
 intro t;induction t with
 | bool=>
  intro d _ aq;refine⟨λ{id v u x y} h E U=>?_,λh=>by simp[cD]at h⟩;rw[fc.1 E,fc.1 U];obtain⟨d,rfl⟩:∃ e,d=e+1:=⟨d - 1,by simp only[ab.ka]at aq;omega⟩
  unfold b7 at h;simp only[cD,Bool.and_eq_true]at h;obtain⟨_,h⟩:=h;split at h
  ·rename_i hu;rw[run_equalIn_bool' w d id x y hu];rfl
  grind
 | int k=>
  intro d _ aq;refine⟨λ{id v u x y} h E U=>?_,λh=>by simp[cD]at h⟩;rw[(gU.1 E).1,(gU.1 U).1];obtain⟨d,rfl⟩:∃ e,d=e+1:=⟨d - 1,by simp only[ab.ka]at aq;omega⟩
  unfold b7 at h;simp only[cD,Bool.and_eq_true]at h;obtain⟨_,h⟩:=h;split at h
  ·rename_i hu;rw[run_equalIn_int w d id k _ x y hu];rfl
  grind
 | str=>
  intro d _ aq;refine⟨λ{id v u x y} h E U=>?_,λh=>by simp[cD]at h⟩;rw[(mm.1 E).1,(mm.1 U).1];obtain⟨d,rfl⟩:∃ e,d=e+1:=⟨d - 1,by simp only[ab.ka]at aq;omega⟩
  unfold b7 at h;simp only[cD,Bool.and_eq_true]at h;obtain⟨_,h⟩:=h;split at h
  ·rename_i hu;rw[run_equalIn_string w d id _ _ hu,ByteArray.toList_eq,ByteArray.toList_eq];simp only[gM];grind
  grind
 | cS=>intro d h;cases h
 | slice e _=>intro d h;cases h
 | array n e _=>intro d h;cases h
 | bG e _=>intro d h;cases h
 | map k v _ _=>intro d h;cases h
 | fn a b _ _=>intro d h;cases h
 | cq a _=>intro d h;cases h
 | en=>intro d h;cases h
 | az a b fw eJ=>
  intro d hc aq;simp only[ab.kV,Bool.and_eq_true]at hc;simp only[ab.ka]at aq;have KO:=fw d hc.1 (by omega);have po:=eJ d hc.2 (by omega);refine⟨λh=>by unfold b7 at h;simp[cD]at h,?_⟩;intro l off xs ys p c q p' c' q' x y h ah an py aR Cz zI;simp only[bH]at py zI;obtain⟨bC,c2,rfl,aQ,aV⟩:=py;obtain⟨d1,d2,rfl,m1,m2⟩:=zI;have ey:=hR a aQ;have pn:=hR a m1;have step : ∀ (f : Field) (ck : List Field), f.offset = off -> b7 P a f.type -> f.name ≠ "_" ->
    (Op.eqFields d xs ys (f::ck)).run P w=if gM a x.1 y.1=true then (Op.eqFields d xs ys ck).run P w else .ok false w:=by
   intro f ck af ar au;obtain⟨v,cf,cI⟩:=rl (cs:=xs) (p:=p) (c:=bC) (q:=c2++q) ar (by grind) aQ;obtain⟨u,ev,dM⟩:=rl (cs:=ys) (p:=p') (c:=d1) (q:=d2++q') ar (by grind) m1;simp only[Op.eqFields,au,ne_eq,not_false_eq_true,if_true,Sem.run_bind];rw[af,<-an,cf,Result.andThen_ok,an,<-Cz,ev,Result.andThen_ok,KO.1 ar cI dM];cases gM a x.1 y.1<;>simp
  match l,h with
  | [],h=>simp only[cD,Bool.false_eq_true]at h
  | [f],h=>simp only[cD,Bool.false_eq_true]at h
  | [f,g],h=>
   simp only[cD,Bool.and_eq_true,beq_iff_eq,bne_iff_ne,ne_eq]at h;obtain⟨⟨⟨⟨E,U⟩,ag⟩,a6⟩,⟨⟨⟨bM,dt⟩,gK⟩,iU⟩⟩:=h;rw[step f [g] E U a6];obtain⟨v,cf,cI⟩:=rl (cs:=xs) (p:=p++bC) (c:=c2) (q:=q) dt (by grind) aV;obtain⟨u,ev,dM⟩:=rl (cs:=ys) (p:=p'++d1) (c:=d2) (q:=q') dt (by grind) m2;have ax:(p++bC).length=g.offset:=by grind
   have aO:(p'++d1).length=g.offset:=by grind
   rw[ax]at cf;rw[aO]at ev;simp only[Op.eqFields,iU,ne_eq,not_false_eq_true,if_true,Sem.run_bind,cf,ev,Result.andThen_ok,po.1 dt cI dM,gM];cases gM a x.1 y.1<;>cases gM b x.2 y.2<;>simp
  | f::g::i::l,h=>
   simp only[cD,Bool.and_eq_true,beq_iff_eq,bne_iff_ne,ne_eq]at h;obtain⟨⟨⟨⟨E,U⟩,ag⟩,a6⟩,bM⟩:=h;rw[step f _ E U a6,po.2 bM (p:=p++bC) (c:=c2) (q:=q) (p':=p'++d1) (c':=d2) (q':=q') (by grind) (by grind) aV (by grind) (by grind) m2];simp only[gM];cases gM a x.1 y.1<;>simp
 | st t aH=>
  intro d hc aq;simp only[ab.ka]at aq;obtain⟨d,rfl⟩:∃ e,d=e+1:=⟨d - 1,by omega⟩
  refine⟨λ{id v u x y} h E U=>?_,λh=>by simp[cD]at h⟩;have i:=aH d hc (by omega);obtain⟨ax,aO,cv,ec⟩:=h.Cy;obtain⟨⟨xs,rfl,hU⟩,py⟩:=E;obtain⟨⟨ys,rfl,kd⟩,zI⟩:=U;simp only[Value.cells,bH]at py zI;rw[run_equalIn_struct w d id xs ys ec ax];rcases cv with cv | ⟨f,cv,gV,j7,so⟩ | ⟨rfl,cv⟩
  ·exact i.2 cv (p:=[]) (c:=xs.toList) (q:=[]) (p':=[]) (c':=ys.toList) (q':=[]) (by simp) rfl py (by simp) rfl zI
  ·rw[cv];obtain⟨v,cf,cI⟩:=rl (cs:=xs) (p:=[]) (c:=xs.toList) (q:=[]) j7 (by simp) py;obtain⟨u,ev,dM⟩:=rl (cs:=ys) (p:=[]) (c:=ys.toList) (q:=[]) j7 (by simp) zI;simp only[List.length_nil]at cf ev;simp only[Op.eqFields,so,ne_eq,not_false_eq_true,if_true,Sem.run_bind,gV,cf,ev,Result.andThen_ok,i.1 j7 cI dM,gM];cases gM t x y<;>simp
  ·cases hc
theorem adr{k:IntKind}{a b:Int}(a8:fQ k a):fQ k (jl k a b):=by
 unfold fQ at *
 unfold jl;have E:k.min<=0/\0<=k.max:=by cases k<;>decide
 generalize min b.toNat k.bits=n;have an:(0:Int)<2 ^ n:=Int.pow_pos (by decide);rw[Int.fdiv_eq_ediv_of_nonneg _ (Int.le_of_lt an)];rcases Int.le_total 0 a with h | h
 ·have U:=Int.ediv_nonneg h (Int.le_of_lt an);have ag:=Int.ediv_le_self (2 ^ n) h;omega
 ·have U:a / 2 ^ n<=0:=by
   have:=Int.ediv_le_ediv an h;simp_all
  have ag:a<=a / 2 ^ n:=by
   rw[Int.le_ediv_iff_mul_le an];have a6:(1:Int)<=2 ^ n:=by omega
   have:=Int.mul_le_mul_of_nonpos_left (a:=a) h a6;omega
  omega
theorem RR{P:Program}{w:World}(op:BinOp)(t:TypeId)(x y:Operand)(k k':IntKind)(a b:Int):(eqGuard op t x y (.int k a) (.int k' b)).run P w=.ok () w:=by
 cases op<;>simp[eqGuard]
theorem ads{P:Program}{w:World}(op:BinOp)(t:TypeId)(x y:Operand)(a b:ByteArray):(eqGuard op t x y (.string a) (.string b)).run P w=.ok () w:=by
 cases op<;>simp[eqGuard]
theorem adt{P:Program}{w:World}(op:BinOp)(t:TypeId)(x y:Operand)(a b:Bool):(eqGuard op t x y (.bool a) (.bool b)).run P w=.ok () w:=by
 cases op<;>simp[eqGuard]
theorem adu{P:Program}{w:World}(op:BinOp)(t:TypeId)(x y:Operand)(a b:Option Addr):(eqGuard op t x y (.pointer a) (.pointer b)).run P w=.ok () w:=by
 cases op<;>simp[eqGuard]
section
variable {P:Program} {H:Nat->bJ} {κ:Nat->bA} {F:Nat->Prop} {w:World}
theorem adv{op:BinOp}{k:IntKind}{a b:Int}{t:TypeId}{c:Prop}{v:aG}(h:zz op k a b=some (c,v))(hc:c)(a8:fQ k a) :
  ∃ u,(binOp op t (.int k a) (.int k b)).run P w=.ok u w/\bx P H κ F w v u:=by
 cases op<;>simp only[zz,Option.some.injEq,Prod.mk.injEq,reduceCtorEq]at h<;>obtain⟨rfl,rfl⟩:=h<;>simp only[bx];case add=>exact⟨_,by simp[binOp,Op.intArith],gU.2 ⟨rfl,qu _ _⟩⟩
 case sub=>exact⟨_,by simp[binOp,Op.intArith],gU.2 ⟨rfl,qu _ _⟩⟩
 case mul=>exact⟨_,by simp[binOp,Op.intArith],gU.2 ⟨rfl,qu _ _⟩⟩
 case quo=>exact⟨_,by simp[binOp,Op.intDiv,hc],gU.2 ⟨rfl,qu _ _⟩⟩
 case rem=>exact⟨_,by simp[binOp,Op.intDiv,hc],gU.2 ⟨rfl,adq a8⟩⟩
 case and=>exact⟨.int k (lM k a b),by simp only[binOp,ne_eq,not_true_eq_false,if_false,Op.intBits];rfl,gU.2 ⟨rfl,qu _ _⟩⟩
 case or=>exact⟨.int k (Ry k a b),by simp only[binOp,ne_eq,not_true_eq_false,if_false,Op.intBits];rfl,gU.2 ⟨rfl,qu _ _⟩⟩
 case xor=>exact⟨.int k (Rz k a b),by simp only[binOp,ne_eq,not_true_eq_false,if_false,Op.intBits];rfl,gU.2 ⟨rfl,qu _ _⟩⟩
 case andNot=>exact⟨.int k (RA k a b),by simp only[binOp,ne_eq,not_true_eq_false,if_false,Op.intBits];rfl,gU.2 ⟨rfl,qu _ _⟩⟩
 case eql=>exact⟨.bool (a == b),by simp[binOp,Op.intCmp],fc.2 (congrArg Value.bool (by rfl))⟩
 case neq=>exact⟨.bool (a != b),by simp[binOp,Op.intCmp],fc.2 (congrArg Value.bool (by grind))⟩
 case lss=>exact⟨_,by simp[binOp,Op.intCmp],fc.2 rfl⟩
 case leq=>exact⟨_,by simp[binOp,Op.intCmp],fc.2 rfl⟩
 case gtr=>exact⟨_,by simp[binOp,Op.intCmp],fc.2 rfl⟩
 case geq=>exact⟨_,by simp[binOp,Op.intCmp],fc.2 rfl⟩
theorem RS{op:BinOp}{k k':IntKind}{a b:Int}{t:TypeId}{c:Prop}{v:aG}(h:KF op k a b=some (c,v))(hc:c)(a8:fQ k a) :
  ∃ u,(binOp op t (.int k a) (.int k' b)).run P w=.ok u w/\bx P H κ F w v u:=by
 cases op<;>simp only[KF,Option.some.injEq,Prod.mk.injEq,reduceCtorEq]at h<;>obtain⟨rfl,rfl⟩:=h<;>simp only[bx];case shl=>exact⟨_,by simp[binOp,Op.shift,show ¬b<0 by omega];rfl,gU.2 ⟨rfl,qu _ _⟩⟩
 case shr=>exact⟨_,by simp[binOp,Op.shift,show ¬b<0 by omega];rfl,gU.2 ⟨rfl,adr a8⟩⟩
theorem adw{op:BinOp}{a b:List UInt8}{t:TypeId}{c:Prop}{v:aG}(h:Cp op a b=some (c,v))(hc:c) :
  ∃ u,(binOp op t (.string ⟨a.toArray⟩) (.string ⟨b.toArray⟩)).run P w=.ok u w/\bx P H κ F w v u:=by
 have e:∀ l:List UInt8,(⟨l.toArray⟩:ByteArray).toList=l:=λl=>by simp
 cases op<;>simp only[Cp,Option.some.injEq,Prod.mk.injEq,reduceCtorEq]at h<;>obtain⟨rfl,rfl⟩:=h<;>simp only[bx];case add=>
  unfold b9 at hc;have aD:((ByteArray.size ⟨a.toArray⟩+ByteArray.size ⟨b.toArray⟩:Nat):Int)=(a.length+b.length:Nat):=by rfl
  refine⟨.string ⟨(a++b).toArray⟩,?_,mm.2 ⟨rfl,by grind⟩⟩;simp only[binOp,Op.stringOp];rw[if_neg]
  ·rfl
  ·rw[aD];have:IntKind.i64.max=9223372036854775807:=by decide
   omega
 case eql=>exact⟨_,by rfl,fc.2 (by grind)⟩
 case neq=>exact⟨_,by rfl,fc.2 (by grind)⟩
 case lss=>exact⟨_,by simp only[binOp,Op.stringOp,e];rfl,fc.2 rfl⟩
 case geq=>exact⟨_,by simp only[binOp,Op.stringOp,e];rfl,fc.2 rfl⟩
end
end Go.Fer
namespace Go.Fer
open Go.RowKit
def dR(P:Program)(T:Nat->ab):Prop:=∀ id,T id=.cS\/b7 P (T id) id
theorem dR.cb{P:Program}{T:Nat->ab}(h:dR P T){id:Nat}{t:ab}(e:T id=t)(aL:t≠.cS):b7 P t id:=by
 rcases h id with h | h
 ·exact absurd (e ▸ h) aL
 ·exact e ▸ h
theorem rm{d:Option Nat}{k:Nat->Nat->Option eA}{H:Nat->bJ}{res:eA}(h:(h8 d k).run H=some res) :
  ∃ b,d=some b/\k b ((H b).gen+1)=some res:=by
 unfold h8 at h;cases d with
 | none=>cases h
 | some b=>
  simp_all
theorem bk.adx{C:b8}{s:aA}{a:Act}{w:World}{κ:Nat->bA}{F:Nat->Prop}(h:bk C s a w κ F){b g:Nat}{e:ab}(aB:(s.aa b).gen<g) :
  bk C (s.cw b ⟨g,.bg e []⟩) a w (λi=>if i=b then ⟨0,0,0,true⟩ else κ i) F:=by
 have ai:fp s.aa κ (λi=>if i=b then ⟨g,.bg e []⟩ else s.aa i) (λi=>if i=b then ⟨0,0,0,true⟩ else κ i):=zu aB λbd dd=>by grind
 refine h.move (H':=λi=>if i=b then ⟨g,.bg e []⟩ else s.aa i) ai (λ_ M=>M) (λ_ M=>.inl M) (Nat.le_refl _) (λ_ _ _=>rfl) (dc.refl _) (λ_=>?_) ?_ ?_ h.da (zv (.inr ⟨rfl,rfl⟩) λbd dd=>by grind)
 ·intro i;by_cases G:i=b
  ·subst G;simp only[cC,if_true];exact⟨λ_=>rfl,λau=>by cases au⟩
  ·exact cC.lg (h.bB i) ai (λ_ M=>M) (c1.refl _ _) (by grind) (by grind) λ_=>rfl
 ·intro i G;by_cases eL:i=b
  ·subst eL;simp[bP.bY]at G
  ·simp only[if_neg eL]at G ⊢;exact⟨(h.own i G).1,(h.own i G).2.1,.inl ⟨i,G,rfl⟩⟩
 ·intro i j G aE aY;by_cases eL:i=b
  ·subst eL;simp[bP.bY]at G
  ·by_cases mo:j=b
   ·subst mo;simp[bP.bY]at aE
   ·simp only[if_neg eL,if_neg mo]at G aE aY;exact h.inj i j G aE aY
section
variable {C:b8} {T:Nat->ab} {be:Nat->Option aM} {o:Oper} {s:aA} {res:eA}
theorem ady{x:Operand}(bf:∀ i,o.dst=some i->i<C.nt)(af:o.op=.move x)(h:(br C.aN T be (aZ C.aN s.ay) o).run s.aa=some res):cG C o s res:=by
 simp only[br,af,bN,ao.bL,Option.some.injEq]at h;subst h;exact cG.pure (by grind) bf λa w κ F M _ _=>⟨_,by simp[execOp,af],kc M x⟩
theorem adz{x:Operand}(bf:∀ i,o.dst=some i->i<C.nt)(af:o.op=.assign x)(h:(br C.aN T be (aZ C.aN s.ay) o).run s.aa=some res):cG C o s res:=by
 simp only[br,af]at h;split at h
 ·rename_i e ah aL;obtain⟨b,aq,al⟩:=rm h;simp only[Option.some.injEq]at al;subst al;intro a w κ F Q M _ _;refine hx (w':=w) (v:=a.eval x) (by grind) (by simp[execOp,af]) ?_;have U:=M.adx (b:=b) (e:=e) (Nat.lt_succ_self _);have ae:=kc M x;rw[ah]at ae;simp only[bx]at ae;refine⟨_,_,bk.set U bf ⟨⟨?_,by rw[ae];rfl⟩,λ_ _=>?_⟩⟩
  ·simp[aA.cw]
  ·simp[ae,bA.slice]
 ·simp only[bN,ao.bL,Option.some.injEq]at h;subst h;exact cG.pure (by grind) bf λa w κ F M _ _=>⟨_,by simp[execOp,af],kc M x⟩
theorem cM{a:Act}{w:World}{κ:Nat->bA}{F:Nat->Prop}(M:bk C s a w κ F)(x:Operand){p:Prop}{av:aG}(hu:use (aZ C.aN s.ay x)=(p,av))(an:p):bx C.P s.aa κ F w av (a.eval x):=by
 have:=pw (kc M x) (by grind);grind
theorem adA{c x y:Operand}(bf:∀ i,o.dst=some i->i<C.nt)(af:o.op=.pick c x y)(h:(br C.aN T be (aZ C.aN s.ay) o).run s.aa=some res):cG C o s res:=by
 simp only[br,af]at h;split at h
 ·rename_i qt i_ hc;split at h
  ·split at h
   ·rename_i zE av a8;simp only[bN,ao.bL,Option.some.injEq]at h;subst h;refine cG.pure (by grind) bf λa w κ F M bb _=>?_;have E:=fc.1 (cM M c hc bb.1);cases i_ with
    | false=>
     have bE:a.eval (.const (.bool false))=.bool false:=rfl;exact⟨.bool false,by simp[execOp,af,E,asBool,bE],fc.2 rfl⟩
    | true=>
     have U:=fc.1 (cM M x a8 (bb.2 rfl));exact⟨.bool av,by simp[execOp,af,E,asBool,U],fc.2 rfl⟩
   ·cases h
  ·split at h
   ·rename_i ca bv W;simp only[bN,ao.bL,Option.some.injEq]at h;subst h;refine cG.pure (by grind) bf λa w κ F M bb _=>?_;have E:=fc.1 (cM M c hc bb.1);cases i_ with
    | true=>
     have bE:a.eval (.const (.bool true))=.bool true:=rfl;exact⟨.bool true,by simp[execOp,af,E,asBool,bE],fc.2 rfl⟩
    | false=>
     have U:=fc.1 (cM M y W (bb.2 rfl));exact⟨.bool bv,by simp[execOp,af,E,asBool,U],fc.2 rfl⟩
   ·cases h
  ·cases h
 ·cases h
theorem adB{op:UnOp}{ty:TypeId}{x:Operand}(bf:∀ i,o.dst=some i->i<C.nt)(af:o.op=.unOp op ty x)(h:(br C.aN T be (aZ C.aN s.ay) o).run s.aa=some res):cG C o s res:=by
 simp only[br,af]at h;split at h
 ·rename_i cB b ah;simp only[bN,ao.bL,Option.some.injEq]at h;subst h;refine cG.pure (by grind) bf λa w κ F M bb _=>?_;have E:=fc.1 (cM M x ah bb);exact⟨.bool (!b),by simp[execOp,af,E,Op.unary],fc.2 rfl⟩
 ·rename_i cB k n ah;simp only[bN,ao.bL,Option.some.injEq]at h;subst h;refine cG.pure (by grind) bf λa w κ F M bb _=>?_;have E:=gU.1 (cM M x ah bb);exact⟨.int k (k.wrap (0 - n)),by simp[execOp,af,E.1,Op.unary,Op.intArith],gU.2 ⟨rfl,qu _ _⟩⟩
 ·cases h
theorem adC{i:Nat}{x:Operand}(bf:∀ i,o.dst=some i->i<C.nt)(af:o.op=.extract x i)(h:(br C.aN T be (aZ C.aN s.ay) o).run s.aa=some res):cG C o s res:=by
 simp only[br,af]at h;split at h
 ·rename_i cB n f ah;split at h
  ·rename_i G;simp only[bN,ao.bL,Option.some.injEq]at h;subst h;refine cG.pure (by grind) bf λa w κ F M bb _=>?_;obtain⟨aC,E,U,ag⟩:=cM M x ah bb;have dI:i<aC.length:=by omega
   refine⟨aC[i],by simp[execOp,af,E,Instr.extract,dI],?_⟩;grind
  ·cases h
 ·cases h
theorem adD{x:Operand}(bf:∀ i,o.dst=some i->i<C.nt)(af:o.op=.nilCheck x)(h:(br C.aN T be (aZ C.aN s.ay) o).run s.aa=some res):cG C o s res:=by
 simp only[br,af]at h;split at h
 ·rename_i cB b g i ah;simp only[ao.e0,ao.bL]at h;split at h
  ·rename_i bj;simp only[Bool.and_eq_true,decide_eq_true_eq]at bj;simp only[Option.some.injEq]at h;subst h;refine cG.pure (by grind) bf λa w κ F M bb _=>?_;have E:=cM M x ah bb;have U:=E.2 bj.1.symm bj.2;exact⟨_,by simp[execOp,af,U.2.2],⟨E.1.1,rfl⟩,λ_ _=>⟨U.1,U.2.1,rfl⟩⟩
  grind
 ·rename_i cB t d ah;simp only[bN,ao.bL,Option.some.injEq]at h;subst h;refine cG.pure (by grind) bf λa w κ F M bb _=>?_;obtain⟨p,bh,E,U⟩:=cM M x ah bb;exact⟨_,by simp[execOp,af,E],p,bh,rfl,U⟩
 ·rename_i cB e p ah;simp only[bN,ao.bL,Option.some.injEq]at h;subst h;refine cG.pure (by grind) bf λa w κ F M bb hc=>?_;have E:=(dT rfl).1 (cM M x ah bb);obtain⟨_,E⟩:=E;simp only[bH]at E;rcases E with⟨_,rfl⟩ | ⟨q,y,bh,bp,rfl,aQ,aV⟩
  ·cases hc
  ·simp only[List.cons.injEq,and_true]at bp;exact⟨_,by simp[execOp,af,bp],q,bh,rfl,aQ,aV⟩
 ·rename_i cB b g off ah;simp only[ao.e0,ao.bL]at h;split at h
  ·rename_i bj;simp only[Bool.and_eq_true,decide_eq_true_eq]at bj;simp only[Option.some.injEq]at h;subst h;refine cG.pure (by grind) bf λa w κ F M bb _=>?_;have E:=cM M x ah bb;have U:=E.2 bj.1.symm bj.2;exact⟨_,by simp[execOp,af,U],⟨E.1.1,rfl⟩,λ_ _=>rfl⟩
  grind
 ·cases h
theorem vo(b off n:Nat):(⟨b,off,none⟩:Addr).add n=⟨b,off+n,none⟩:=by
 unfold Addr.add;simp
theorem F9{P:Program}{w:World}{t s:ab}{id f xj b off:Nat}(h:b7 P (.st t) id)(ar:mq t f=some (s,xj)) :
  (Instr.fieldAt id (.pointer (some ⟨b,off,none⟩)) f).run P w=.ok (.pointer (some ⟨b,off+xj,none⟩)) w:=by
 obtain⟨eS,nV,E,U,ag,a6,bM⟩:=h.field ar;simp only[Instr.fieldAt,Sem.run_bind,dA E,Result.andThen_ok,U,Instr.sureAddr,Sem.run_pure,fieldPlace,a6.size,bM,if_false,ag,vo]
theorem adE(aU:dR C.P T){ty f:Nat}{x:Operand}(bf:∀ i,o.dst=some i->i<C.nt)(af:o.op=.fieldAddr ty x f)(h:(br C.aN T be (aZ C.aN s.ay) o).run s.aa=some res):cG C o s res:=by
 simp only[br,af]at h;split at h
 ·rename_i t aL;have dp:=aU.cb aL (by simp);split at h
  ·rename_i s' xj ar;split at h
   ·rename_i cB b g off ah;simp only[ao.e0,ao.bL]at h;split at h
    ·rename_i bj;simp only[Bool.and_eq_true,decide_eq_true_eq]at bj;simp only[Option.some.injEq]at h;subst h;refine cG.pure (by grind) bf λa w κ F M bb _=>?_;have E:=cM M x ah bb;have U:=E.2 bj.1.symm bj.2;exact⟨_,by simp[execOp,af,U,F9 dp ar],⟨E.1.1,rfl⟩,λ_ _=>rfl⟩
    grind
   ·rename_i cB b g i off ah;simp only[ao.e0,ao.bL]at h;split at h
    ·rename_i bj;simp only[Bool.and_eq_true,decide_eq_true_eq]at bj;simp only[Option.some.injEq]at h;subst h;refine cG.pure (by grind) bf λa w κ F M bb _=>?_;have E:=cM M x ah bb;obtain⟨U,ag,a6⟩:=E.2 bj.1.symm bj.2;exact⟨_,by simp[execOp,af,a6,F9 dp ar];rfl,⟨E.1.1,rfl⟩,λ_ _=>⟨U,ag,by grind⟩⟩
    grind
   ·rename_i cB b g i ah;simp only[ao.e0,ao.bL]at h;split at h
    ·rename_i bj;simp only[Bool.and_eq_true,decide_eq_true_eq,beq_iff_eq]at bj;simp only[Option.some.injEq]at h;subst h;refine cG.pure (by grind) bf λa w κ F M bb _=>?_;have E:=cM M x ah bb;obtain⟨U,ag,a6⟩:=E.2 bj.1.1.symm bj.1.2;exact⟨_,by simp[execOp,af,a6,F9 dp ar];rfl,⟨E.1.1,rfl⟩,λ_ _=>⟨U,ag,by grind⟩⟩
    grind
   ·rename_i cB cV d ah;split at h
    ·rename_i zJ;subst zJ;split at h
     ·rename_i dM y aR;simp only[bN,ao.bL,Option.some.injEq]at h;subst h;refine cG.pure (by grind) bf λa w κ F M bb _=>?_;obtain⟨p,bh,E,U,ag⟩:=cM M x ah bb;simp only[bH]at ag;obtain⟨bC,c2,c3,rfl,aQ,aV⟩:=RE cV ag aR;rw[ar]at aV;cases aV;have an:p=⟨p.block,p.off,none⟩:=by have:=U.2.1;cases p;simp_all
      rw[an]at E;refine⟨_,by simp[execOp,af,E,F9 dp ar],⟨p.block,p.off+bC.length,none⟩,c2,rfl,⟨U.1,rfl,λj aE=>?_⟩,aQ⟩;have:=U.2.2 (bC.length+j) (by grind);grind
     ·cases h
    ·cases h
   ·cases h
  ·cases h
 ·cases h
theorem adF(aU:dR C.P T){ty f:Nat}{x:Operand}(bf:∀ i,o.dst=some i->i<C.nt)(af:o.op=.field ty x f)(h:(br C.aN T be (aZ C.aN s.ay) o).run s.aa=some res):cG C o s res:=by
 simp only[br,af]at h;split at h
 ·rename_i t aL;have dp:=aU.cb aL (by simp);split at h
  ·rename_i cB cV d ah;split at h
   ·rename_i zJ;subst zJ;split at h
    ·rename_i dM y aR;simp only[bN,ao.bL,Option.some.injEq]at h;subst h;refine cG.pure (by grind) bf λa w κ F M bb _=>?_;obtain⟨⟨cs,E,U⟩,ag⟩:=cM M x ah bb;rw[E]at ag;simp only[bH,Value.cells]at ag;obtain⟨bC,c2,c3,e,aQ,aV⟩:=RE cV ag aR;obtain⟨eS,nV,f1,f2,f3,f4,f5⟩:=dp.field aV;obtain⟨v,cf,cI⟩:=rl (w:=w) f4 e aQ;refine⟨v,?_,cI⟩;simp[execOp,af,E,Instr.field,dA f1,f2,asAgg,f3,cf]
    ·cases h
   ·cases h
  ·cases h
 ·cases h
end
end Go.Fer
namespace Go.Fer
open Go.RowKit
theorem b7.bG{P:Program}{e:ab}{id:TypeId}(h:b7 P (.bG e) id):∃ i,P.underlying id=some (.pointer i)/\b7 P e i/\e.size≠0:=by
 unfold b7 at h;simp only[cD,Bool.and_eq_true]at h;obtain⟨_,h⟩:=h;split at h
 ·rename_i i G;simp only[Bool.and_eq_true,bne_iff_ne,ne_eq]at h;exact⟨i,G,h.1,h.2⟩
 grind
theorem RT{k:IntKind}{av:aG}{H:Nat->bJ}{x:Int}{l:List Nat}(h:(dy (.int k) av).run H=some (x,l)):av.mu.isSome=true:=by
 cases av with
 | val cV y=>
  simp only[dy,ao.bL,Option.map_eq_some_iff,Prod.mk.injEq]at h;obtain⟨z,bj,_⟩:=h;obtain⟨rfl,_⟩:=kT bj;rfl
 | jE v=>simp[dy,kx,ab.eF,dV,Cm]at h
 | _=>simp[dy,kx,ab.eF,dV,ao.none]at h
theorem RU{av:aG}{H:Nat->bJ}{x:List UInt8}{l:List Nat}(h:(dy .str av).run H=some (x,l)):av.tS.isSome=true:=by
 cases av with
 | val cV y=>
  simp only[dy,ao.bL,Option.map_eq_some_iff,Prod.mk.injEq]at h;obtain⟨z,bj,_⟩:=h;obtain⟨rfl,_⟩:=kT bj;rfl
 | jE v=>simp[dy,kx,ab.eF,dV,Cm]at h
 | _=>simp[dy,kx,ab.eF,dV,ao.none]at h
theorem F_{P:Program}{w:World}{ty i:TypeId}(G:P.underlying ty=some (.pointer i))(a:Option Addr)(d:Nat):(Op.equalIn (d+1) ty (.pointer a) (.pointer none)).run P w=.ok a.isNone w:=by
 cases a<;>simp[Op.equalIn,dA G]
inductive CA:Value->Value->Prop where
 | bool (a b:Bool):CA (.bool a) (.bool b)
 | agg (a b:Array Value):CA (.agg a) (.agg b)
 | bG (a b:Option Addr):CA (.pointer a) (.pointer b)
theorem adG{P:Program}{w:World}{ty:TypeId}{x y:Operand}{u mP:Value}{e:Bool}(an:CA u mP)(h:(Op.equalIn 10000 ty u mP).run P w=.ok e w)
  (aB:∀ a b,u=.agg a->mP=.agg b->P.eqGuardType P.depth ty=false) :
  (do eqGuard .eql ty x y u mP;binOp .eql ty u mP:Sem Value).run P w=.ok (.bool e) w/\(do eqGuard .neq ty x y u mP;binOp .neq ty u mP:Sem Value).run P w=.ok (.bool (!e)) w:=by
 cases an with
 | bool a b=>constructor<;>simp[adt,binOp,Op.equal,Op.maxDepth,h]
 | agg a b=>constructor<;>simp[run_eqGuard_agg _ _ _ _ _ _ _ (aB a b rfl rfl),binOp,Op.equal,Op.maxDepth,h]
 | bG a b=>constructor<;>simp[adu,binOp,Op.equal,Op.maxDepth,h]
section
variable {C:b8} {T:Nat->ab} {be:Nat->Option aM} {o:Oper} {s:aA} {res:eA}
theorem CB{a:Act}{w:World}{κ:Nat->bA}{F:Nat->Prop}(M:bk C s a w κ F){t:ab}{av:aG}{v:Value}{x:t.aj}{l:List Nat}(h:(dy t av).run s.aa=some (x,l))(ae:bx C.P s.aa κ F w av v) :
  eo C.P t (λ_=>True) w v x:=mr M.bB (λ_ _=>trivial) h (λ_ _ _=>trivial) ae
theorem adH{op:BinOp}{ty:TypeId}{dX kB:aG}{x y:Operand}{c:Prop}{v:aG}{a:Act}{w:World}{κ:Nat->bA}{F:Nat->Prop}(aU:dR C.P T)(M:bk C s a w κ F)
  (h:(zA op (T ty) dX kB).run s.aa=some (c,v)) {u mP:Value} (ah:bx C.P s.aa κ F w dX u) (aR:bx C.P s.aa κ F w kB mP) (RV:¬(dX.mu.isSome=true/\kB.mu.isSome=true)) (RW:¬(dX.tS.isSome=true/\kB.tS.isSome=true)) :
  ∃ r,(do eqGuard op ty x y u mP;binOp op ty u mP:Sem Value).run C.P w=.ok r w/\bx C.P s.aa κ F w v r:=by
 unfold zA at h;rw[ao.e1]at h;simp only[Option.bind_eq_some_iff]at h;obtain⟨e,he,ae⟩:=h;simp only[ao.bL]at ae;have key:CA u mP/\(Op.equalIn 10000 ty u mP).run C.P w=.ok e w/\(∀ a b,u=.agg a->mP=.agg b->C.P.eqGuardType C.P.depth ty=false):=by
  split at he
  ·rename_i aY p aO aL;obtain⟨i,G,_⟩:=(aU.cb aL (by simp)).bG;simp only[bx]at aR;subst aR;simp only[ao.bL,Option.some.injEq]at he;subst he;obtain⟨_,nW⟩:=(dT rfl).1 ah;rcases nW with⟨nW,rfl⟩ | ⟨q,z,bh,nW,rfl,_⟩
   ·obtain rfl:=(List.cons.inj nW).1;exact⟨.bG _ _,F_ G none 9999,λ_ _ h=>by cases h⟩
   ·obtain rfl:=(List.cons.inj nW).1;exact⟨.bG _ _,F_ G (some q) 9999,λ_ _ h=>by cases h⟩
  ·rename_i aY t2 xl aL;obtain⟨i,G,_⟩:=(aU.cb aL (by simp)).bG;simp only[bx]at aR;subst aR;simp only[ao.bL,Option.some.injEq]at he;subst he;obtain⟨q,bh,rfl,_⟩:=ah;exact⟨.bG _ _,F_ G (some q) 9999,λ_ _ h=>by cases h⟩
  ·rename_i aY b g off aL;obtain⟨i,G,_⟩:=(aU.cb aL (by simp)).bG;simp only[bx]at aR;subst aR;simp only[ao.e0,ao.bL]at he;split at he
   ·rename_i bj;simp only[Bool.and_eq_true,decide_eq_true_eq]at bj;simp only[Option.some.injEq]at he;subst he;have:=ah.2 bj.1.symm bj.2;subst this;exact⟨.bG _ _,F_ G (some _) 9999,λ_ _ h=>by cases h⟩
   grind
  ·split at he
   ·rename_i i';simp only[Bool.and_eq_true,decide_eq_true_eq]at i';simp only[ao.e1,Option.bind_eq_some_iff,ao.bL,Option.some.injEq]at he;obtain⟨⟨xm,ey⟩,E,⟨rn,pn⟩,U,rfl⟩:=he;have cf:=CB M E ah;have cI:=CB M U aR;generalize qv:T ty=t at *
    cases t with
    | bool=>
     have dp:=aU.cb qv (by simp);refine⟨?_,(KN .bool 10000 rfl (by decide)).1 dp cf cI,?_⟩
     ·rw[fc.1 cf,fc.1 cI];exact .bool _ _
     simp_all
    | int k=>exact (RV ⟨RT E,RT U⟩).elim
    | str=>exact (RW ⟨RU E,RU U⟩).elim
    | st t=>
     have dp:=aU.cb qv (by simp);refine⟨?_,(KN (.st t) 10000 i'.1 (by omega)).1 dp cf cI,λ_ _ _ _=>dp.Cy.2.1⟩;obtain⟨⟨_,rfl,_⟩,_⟩:=cf;obtain⟨⟨_,rfl,_⟩,_⟩:=cI;exact .agg _ _
    | az t1 t2=>have:=aU.cb qv (by simp);unfold b7 at this;simp only[cD,Bool.false_eq_true]at this
    | cS=>cases i'.1
    | slice _=>cases i'.1
    | array _ _=>cases i'.1
    | bG _=>cases i'.1
    | map _ _=>cases i'.1
    | fn _ _=>cases i'.1
    | cq _=>cases i'.1
    | en=>cases i'.1
   ·cases he
 obtain⟨aQ,aV,bK⟩:=key;have:=adG (x:=x) (y:=y) aQ aV bK;cases op<;>simp only[reduceCtorEq,Option.some.injEq,Prod.mk.injEq]at ae;case eql=>obtain⟨rfl,rfl⟩:=ae;exact⟨_,this.1,fc.2 rfl⟩
 case neq=>obtain⟨rfl,rfl⟩:=ae;exact⟨_,this.2,fc.2 rfl⟩
theorem adI(aU:dR C.P T){op:BinOp}{ty mT:TypeId}{x y:Operand}(bf:∀ i,o.dst=some i->i<C.nt)(af:o.op=.binOp op ty x y mT)(h:(br C.aN T be (aZ C.aN s.ay) o).run s.aa=some res):cG C o s res:=by
 simp only[br,af]at h;have zK:∀ c,o.op≠.defer c:=by grind
 have mU:∀ (a:Act) (w:World) (r:Value),(do eqGuard op ty x y (a.eval x) (a.eval y);binOp op ty (a.eval x) (a.eval y):Sem Value).run C.P w=.ok r w->(execOp a.eval o).run C.P w=.ok (.value r) w:=by
  intro a w r M;simp only[execOp,af,Sem.run_bind]at M ⊢;simp_all
 split at h
 ·rename_i k m k' n ah aR;have fin:∀ (c:Prop) (v:aG),(∀ (w:World) κ F,c->fQ k m->∃ r,(binOp op ty (.int k m) (.int k' n)).run C.P w=.ok r w/\bx C.P s.aa κ F w v r)->
    res=⟨(use (aZ C.aN s.ay x)).1/\(use (aZ C.aN s.ay y)).1,c,v,[]⟩->cG C o s res:=by
   intro c v al gn;subst gn;refine cG.pure zK bf λa w κ F M bb hc=>?_;have E:=oJ (cM M x rfl bb.1) ah;have U:=oJ (cM M y rfl bb.2) aR;obtain⟨r,cf,cI⟩:=al w κ F hc E.2;exact⟨r,mU a w r (by simp[E.1,U.1,RR,cf]),cI⟩
  split at h
  ·split at h
   ·rename_i c v aD;simp only[bN,ao.bL,Option.some.injEq]at h;exact fin c v (λw κ F hc a8=>RS aD hc a8) h.symm
   ·cases h
  ·split at h
   ·rename_i c v aD;simp only[bN,ao.bL,Option.some.injEq]at h;exact fin c v (λw κ F hc a8=>RS aD hc a8) h.symm
   ·cases h
  ·split at h
   ·rename_i vp;subst vp;split at h
    ·rename_i c v aD;simp only[bN,ao.bL,Option.some.injEq]at h;exact fin c v (λw κ F hc a8=>adv aD hc a8) h.symm
    ·cases h
   ·cases h
 ·rename_i RV;split at h
  ·rename_i m n ah aR;split at h
   ·rename_i c v aD;simp only[bN,ao.bL,Option.some.injEq]at h;subst h;refine cG.pure zK bf λa w κ F M bb hc=>?_;have E:=KM (cM M x rfl bb.1) ah;have U:=KM (cM M y rfl bb.2) aR;obtain⟨r,cf,cI⟩:=adw (P:=C.P) (H:=s.aa) (κ:=κ) (F:=F) (w:=w) (t:=ty) aD hc;exact⟨r,mU a w r (by simp[E.1,U.1,ads,cf]),cI⟩
   ·cases h
  ·rename_i RW;simp only[bN,ao.e1,Option.bind_eq_some_iff,ao.bL,Option.some.injEq]at h;obtain⟨⟨c,v⟩,aD,rfl⟩:=h;refine cG.pure zK bf λa w κ F M bb hc=>?_;obtain⟨r,cf,cI⟩:=adH (x:=x) (y:=y) aU M aD (cM M x rfl bb.1) (cM M y rfl bb.2)
    (λ⟨ax,aO⟩=>by
     obtain⟨⟨k,m⟩,ax⟩:=Option.isSome_iff_exists.1 ax;obtain⟨⟨k',dw⟩,aO⟩:=Option.isSome_iff_exists.1 aO;grind)
    (λ⟨ax,aO⟩=>by
     obtain⟨m,ax⟩:=Option.isSome_iff_exists.1 ax;obtain⟨dw,aO⟩:=Option.isSome_iff_exists.1 aO;grind)
   grind
theorem vq{w:World}{b:Nat}{cs:Array Value}{T:TypeId}{fg:Nat×Nat}(h:w.heap[b]?=some (.cells cs T fg))(off:Nat):w.cell? ⟨b,off,none⟩=cs[off]?:=by
 simp[World.cell?,h]
theorem RX{P:Program}{w:World}{t:ab}{id:TypeId}(h:b7 P t id)(ai:t.isAgg=false){p:Addr}{v:Value}(ae:w.cell? p=some v):(loadVar id p).run P w=.ok v w:=by
 simp[loadVar,zG h,ai,ae]
theorem RY(aU:dR C.P T){ty:TypeId}{dX v:aG}{u:Value}{a:Act}{w:World}{κ:Nat->bA}{F:Nat->Prop}(M:bk C s a w κ F)(h:(zB (T ty) dX).run s.aa=some v)(ah:bx C.P s.aa κ F w dX u) :
  ∃ r,(Instr.loadAt ty u).run C.P w=.ok r w/\bx C.P s.aa κ F w v r:=by
 generalize qv:T ty=t at *
 cases dX with
 | dU cV d=>
  simp only[zB,ao.bL]at h;split at h
  ·rename_i hc;obtain⟨rfl,hc⟩:=hc;simp only[Option.some.injEq]at h;subst h;obtain⟨p,bh,rfl,U,ag⟩:=ah;have dp:=aU.cb qv (by intro e;subst e;cases hc);obtain⟨r,cf,cI⟩:=KL dp U.KK ag;exact⟨r,by simp[Instr.loadAt,Instr.sureAddr,cf],cI⟩
  grind
 | bc b g off=>
  simp only[zB,ao.e0,ao.bL]at h;split at h
  ·rename_i aB;split at h
   ·rename_i t0 f bR;have ae:=ah.2 aB.symm (by rw[bR];rfl);subst ae;have aS:=M.bB b;unfold cC at aS;rw[bR]at aS;obtain⟨cs,hV,bC,c2,c3⟩:=aS;split at h
    ·rename_i ai;split at h
     ·rename_i Ga;simp only[Option.some.injEq]at h;subst h;have dp:=aU.cb qv (by intro e;subst e;cases ai);have KP:t.isAgg=false:=by cases t<;>simp_all[ab.eF,ab.isAgg]
      refine⟨cs.getD off Go.undef,?_,(c3 off Ga).1⟩;simp only[Instr.loadAt,Instr.sureAddr,Sem.run_bind,Sem.run_pure,Result.andThen_ok];refine RX dp KP ?_;rw[vq bC];simp_all
     grind
    ·split at h
     ·rename_i RZ;split at h
      ·rename_i Ga;simp only[Option.some.injEq]at h;subst h;have dp:=aU.cb qv (by intro e;subst e;cases RZ);let aC:=(List.range t.size).map λj=>cs.getD (off+j) Go.undef;refine⟨.agg aC.toArray,?_,aC,rfl,by grind,λi G=>?_⟩
       ·simp only[Instr.loadAt,Instr.sureAddr,Sem.run_bind,Sem.run_pure,Result.andThen_ok,loadVar,zG dp,RZ,if_true,dp.size];rw[run_loadCells w ⟨(κ b).aa,off,none⟩ t.size (λj=>cs.getD (off+j) Go.undef)]
        ·rfl
        ·intro j aE;rw[vo,vq bC];simp[Array.getD_eq_getD_getElem?,c2,show off+j<t0.size by omega]
       grind
      grind
     grind
   ·rename_i t0 y bR;have ae:=ah.2 aB.symm (by rw[bR];rfl);subst ae;have aS:=M.bB b;unfold cC at aS;rw[bR]at aS;obtain⟨bh,d1,d2⟩:=aS;split at h
    ·rename_i hc;simp only[Option.map_eq_some_iff]at h;obtain⟨z,bj,rfl⟩:=h;obtain⟨bC,c2,c3,rfl,df,dJ⟩:=RF t0 d2 bj;have dp:=aU.cb qv (by intro e;subst e;cases hc);have cT:kC w ⟨(κ b).aa,off,none⟩ c2:=by
      refine⟨λ_=>rfl,λj aE=>?_⟩;have:=d1.2.2 (bC.length+j) (by grind);simp_all
     obtain⟨r,cf,cI⟩:=KL dp cT dJ;exact⟨r,by simp[Instr.loadAt,Instr.sureAddr,cf],cI⟩
    grind
   grind
  grind
 | oF b g i off=>
  simp only[zB,ao.e0,ao.bL]at h;split at h
  ·rename_i aB;have fin:∀ (e:ab) (xs:List e.aj),(s.aa b).body.fe=true->(s.aa b).body.len=xs.length->(s.aa b).body.eZ=e.size->
     (∀ (G:i<xs.length),(κ b).e5=false->∃ bh,kC w ⟨(κ b).aa,(κ b).off+i*e.size,none⟩ bh/\bH C.P e F w bh xs[i])->
     (if t.eF||t.isAgg then (si e (xs.getD i e.de) off t).map (.val t) else none)=some v->∃ r,(Instr.loadAt ty u).run C.P w=.ok r w/\bx C.P s.aa κ F w v r:=by
    intro e xs a8 hlen CC jn ae;split at ae
    ·rename_i hc;simp only[Option.map_eq_some_iff]at ae;obtain⟨z,bj,rfl⟩:=ae;obtain⟨aQ,aV,bK⟩:=ah.2 aB.symm a8;subst bK;rw[hlen]at aQ;obtain⟨bh,d1,d2⟩:=jn aQ aV;have KQ:xs.getD i e.de=xs[i]:=by grind
     rw[KQ]at bj;obtain⟨bC,c2,c3,rfl,df,dJ⟩:=RF e d2 bj;have dp:=aU.cb qv (by intro e;subst e;cases hc);have cT:kC w ⟨(κ b).aa,(κ b).off+i*(s.aa b).body.eZ+off,none⟩ c2:=by
      refine⟨λ_=>rfl,λj aE=>?_⟩;have:=d1.2 (bC.length+j) (by grind);grind
     obtain⟨r,cf,cI⟩:=KL dp cT dJ;exact⟨r,by simp[Instr.loadAt,Instr.sureAddr,cf],cI⟩
    grind
   have aS:=M.bB b;unfold cC at aS;split at h
   ·rename_i e xs bR;rw[bR]at aS;refine fin e xs (by rw[bR];rfl) (by rw[bR];rfl) (by rw[bR];rfl) (λG au=>?_) h;obtain⟨cs,hV,bC,c2,c3,c4,c5⟩:=aS.2 au;obtain⟨bh,d1,d2⟩:=c5 i G;exact⟨bh,⟨λ_=>rfl,λj aE=>by rw[vq bC];grind⟩,d2⟩
   ·rename_i e xs bR;rw[bR]at aS;refine fin e xs (by rw[bR];rfl) (by rw[bR];rfl) (by rw[bR];rfl) (λG au=>?_) h;simp only[jF,bH,bA.slice,au,Bool.false_eq_true,if_false]at aS;obtain⟨a',cap,ax,m1,m2,m3,m4⟩:=aS;simp only[List.cons.injEq,Value.slice.injEq,and_true]at ax;obtain⟨rfl,_,rfl⟩:=ax;obtain⟨dN,ei,jL⟩:=m4 _ rfl (by omega);obtain⟨bh,d1,d2⟩:=jL i G;exact⟨bh,d1.KK,d2⟩
   grind
  grind
 | _=>cases h
end
end Go.Fer
namespace Go.Fer
open Go.RowKit
section
variable {C:b8} {T:Nat->ab} {be:Nat->Option aM} {o:Oper} {s:aA} {res:eA}
theorem adJ(aU:dR C.P T){ty:TypeId}{x:Operand}(bf:∀ i,o.dst=some i->i<C.nt)(af:o.op=.load ty x)(h:(br C.aN T be (aZ C.aN s.ay) o).run s.aa=some res):cG C o s res:=by
 simp only[br,af]at h;split at h
 ·rename_i cB b g i ah;simp only[RO,ao.e0,ao.bL]at h;split at h
  ·rename_i e xs lj v bR;split at h
   ·rename_i hc;obtain⟨aB,ai⟩:=hc;simp only[Option.some.injEq]at h;subst h;refine cG.pure (by grind) bf λa w κ F M bb G=>?_;have G:i=lj:=G;subst G;have E:=(cM M x ah bb).2 aB.symm (by rw[bR];rfl);have aS:=M.bB b;unfold cC at aS;rw[bR]at aS E;obtain⟨_,cs,hV,bC,c2,c3,c4,c5,lO,oK,xn⟩:=aS;have dp:=aU.cb (t:=T ty) rfl (by intro e;rw[e]at ai;cases ai);have KP:(T ty).isAgg=false:=by cases aL:T ty<;>simp_all[ab.eF,ab.isAgg]
    refine⟨_,?_,oK⟩;have tV:w.cell? ⟨(κ b).aa,(κ b).off+i,none⟩=some (cs.getD ((κ b).off+i) Go.undef):=by
     rw[vq bC];have:(κ b).off+i<cs.size:=by
      have:i<(κ b).cap:=by omega
      rw[c5.1]at c2;omega
     simp[this]
    have an:a.eval x=.pointer (some ⟨(κ b).aa,(κ b).off+i,none⟩):=by rw[E.2.2];simp[bP.eZ,c5.1]
    simp[execOp,af,an,Instr.loadAt,Instr.sureAddr,RX dp KP tV]
   ·cases h
  ·cases h
 ·rename_i cB dX _ ah;simp only[bN,ao.e1,Option.bind_eq_some_iff,ao.bL,Option.some.injEq]at h;obtain⟨v,ae,rfl⟩:=h;refine cG.pure (by grind) bf λa w κ F M bb _=>?_;obtain⟨r,cf,cI⟩:=RY aU M ae (cM M x ah bb);exact⟨r,by simp[execOp,af,cf],cI⟩
theorem b7.str{P:Program}{id:TypeId}(h:b7 P .str id):P.underlying id=some .string:=by
 unfold b7 at h;simp only[cD,Bool.and_eq_true]at h;grind
theorem b7.int{P:Program}{k:IntKind}{id:TypeId}(h:b7 P (.int k) id):P.underlying id=some (.int k):=by
 unfold b7 at h;simp only[cD,Bool.and_eq_true]at h;grind
theorem b7.bg{P:Program}{n:Nat}{e:ab}{id:TypeId}(h:b7 P (.array n e) id):∃ i,P.underlying id=some (.array n i)/\b7 P e i/\e.size≠0:=by
 unfold b7 at h;simp only[cD,Bool.and_eq_true]at h;obtain⟨_,h⟩:=h;split at h
 ·rename_i m i hu;simp only[Bool.and_eq_true,decide_eq_true_eq,bne_iff_ne,ne_eq]at h;obtain⟨⟨rfl,U⟩,ag⟩:=h;exact⟨i,hu,U,ag⟩
 grind
theorem adK{fm:List (List Value)}{m:Nat}(h:∀ c∈fm,c.length=m){i:Nat}(G:i<fm.length):∃ p q,fm.flatten=p++(fm[i]++q)/\p.length=i*m:=by
 refine⟨(fm.take i).flatten,(fm.drop (i+1)).flatten,?_,?_⟩
 ·rw[<-List.flatten_cons,<-List.drop_eq_getElem_cons G,<-List.flatten_append,List.take_append_drop]
 ·have a6:(fm.take i).map List.length=List.replicate i m:=List.eq_replicate_iff.2 ⟨by grind,λx ah=>by
   grind⟩
  simp_all
theorem KR{P:Program}{n:Nat}{e:ab}{F:Nat->Prop}{w:World}{cs:List Value}{xs:List e.aj}(h:bH P (.array n e) F w cs xs){i:Nat}(G:i<n):∃ p c q,cs=p++(c++q)/\p.length=i*e.size/\bH P e F w c (xs.getD i e.de):=by
 simp only[bH]at h;obtain⟨fm,rfl,E,U,ag⟩:=h;obtain⟨p,q,aQ,aV⟩:=adK (m:=e.size) (λc hc=>by
  obtain⟨j,aE,rfl⟩:=List.mem_iff_getElem.1 hc;exact hR e (ag j (by omega) aE)) (show i<fm.length by omega)
 grind
theorem adL(aU:dR C.P T){ty:TypeId}{x i:Operand}(bf:∀ i,o.dst=some i->i<C.nt)(af:o.op=.index ty x i)(h:(br C.aN T be (aZ C.aN s.ay) o).run s.aa=some res):cG C o s res:=by
 simp only[br,af]at h;split at h
 ·rename_i l k n aL ah G;simp only[bN,ao.bL,Option.some.injEq]at h;subst h;refine cG.pure (by grind) bf λa w κ F M bb hc=>?_;have E:=KM (cM M x rfl bb.1) ah;have U:=oJ (cM M i rfl bb.2) G;have dp:=(aU.cb aL (by simp)).str;have cj:n.toNat<l.length:=by omega
  refine⟨.int .u8 ((l.getD n.toNat 0).toNat:Int),?_,gU.2 ⟨rfl,?_⟩⟩
  ·have e:(⟨l.toArray⟩:ByteArray)[n.toNat]?=some (l.getD n.toNat 0):=by
    have aD:n.toNat<(⟨l.toArray⟩:ByteArray).size:=by simpa [ByteArray.size]using cj
    rw[getElem?_pos (⟨l.toArray⟩:ByteArray) n.toNat aD];simp only[Option.some.injEq];show (⟨l.toArray⟩:ByteArray).data[n.toNat]=_;grind
   simp[execOp,af,Instr.index,E.1,U.1,asIntOf,dA dp,hc.1,e]
  ·have:=(l.getD n.toNat 0).toNat_lt;constructor
   ·have:IntKind.u8.min=0:=by decide
    omega
   ·have:IntKind.u8.max=255:=by decide
    omega
 ·rename_i m e k n aL G;split at h
  ·rename_i dw aY xs ah;split at h
   ·rename_i he;obtain⟨rfl,rfl⟩:=he;simp only[bN,ao.bL,Option.some.injEq]at h;subst h;refine cG.pure (by grind) bf λa w κ F M bb hc=>?_;have E:bx C.P s.aa κ F w (use (aZ C.aN s.ay x)).2 (a.eval x):=cM M x rfl bb.1;rw[ah]at E;have U:=oJ (cM M i rfl bb.2) G;obtain⟨j,aE,rp,_⟩:=(aU.cb aL (by simp)).bg;obtain⟨⟨cs,ae,px⟩,nX⟩:=E;rw[ae]at nX;obtain⟨p,c,q,ax,aO,cv⟩:=KR nX (i:=n.toNat) (by omega);obtain⟨v,g1,eh⟩:=rl rp (cs:=cs) ax cv;refine⟨v,?_,eh⟩;rw[aO]at g1;simp[execOp,af,Instr.index,ae,U.1,asIntOf,dA aE,hc.1,hc.2,rp.size,g1]
   ·cases h
  ·rename_i k' f ah;split at h
   ·rename_i al;simp only[bN,ao.bL,Option.some.injEq]at h;subst h;refine cG.pure (by grind) bf λa w κ F M bb hc=>?_;have E:bx C.P s.aa κ F w (use (aZ C.aN s.ay x)).2 (a.eval x):=cM M x rfl bb.1;rw[ah]at E;have U:=oJ (cM M i rfl bb.2) G;obtain⟨j,aE,rp,cd⟩:=(aU.cb aL (by simp)).bg;obtain⟨aC,ae,ai,fF⟩:=E;have cj:n.toNat*e.size+e.size<=aC.length:=by
     rw[ai,al];have:(n.toNat+1)*e.size<=m*e.size:=Nat.mul_le_mul_right _ (by omega);grind
    by_cases a8:e.isAgg=true
    ·simp only[if_pos a8];refine⟨_,by simp[execOp,af,Instr.index,ae,U.1,asIntOf,dA aE,hc.1,hc.2,rp.size,RQ rp a8];rfl,(aC.toArray.extract (n.toNat*e.size) (n.toNat*e.size+e.size)).toList,by simp,?_,λq bp=>?_⟩
     ·simp;omega
     ·have adM:(aC.toArray.extract (n.toNat*e.size) (n.toNat*e.size+e.size)).toList.getD q Go.undef=aC.getD (n.toNat*e.size+q) Go.undef:=by
       simp[List.getD_eq_getElem?_getD,bp]
      rw[adM];exact fF _ (by omega)
    ·simp only[if_neg a8];have a6:=fF (n.toNat*e.size) (by omega);refine⟨aC.getD (n.toNat*e.size) Go.undef,?_,a6.1⟩;have aB:aC.toArray[n.toNat*e.size]?=some (aC.getD (n.toNat*e.size) Go.undef):=by
      grind
     simp[execOp,af,Instr.index,ae,U.1,asIntOf,dA aE,hc.1,hc.2,rp.size,RP rp (by grind) aB]
   ·cases h
  ·cases h
 ·cases h
theorem sq:∀ {l:List aG},jK l->∀ i,i<l.length->(use (l.getD i .undef)).1
 | [],_,i,G=>by grind
 | a::l,h,0,_=>by
  cases a<;>first | trivial | exact h.1
 | a::l,h,i+1,G=>by
  have ds:jK l:=by cases a<;>first | exact h | exact h.2
  have:=sq ds i (by grind);grind
theorem adN{k:bA}{n:Nat}(h:k.e5=true->n=0):∃ a cap,k.slice n=.slice a n cap:=by
 unfold bA.slice;split
 ·rename_i au;rw[h au];exact⟨none,0,rfl⟩
 ·exact⟨_,_,rfl⟩
theorem zL{a:Act}{w:World}{κ:Nat->bA}{F:Nat->Prop}(M:bk C s a w κ F){b:Nat}(a8:(s.aa b).body.fe=true):((κ b).e5=true->(s.aa b).body.len=0)/\(s.aa b).body.len<2 ^ 63:=by
 have aS:=M.bB b;unfold cC at aS;cases bR:(s.aa b).body with
 | bg e xs=>
  rw[bR]at aS;refine⟨λau=>by rw[aS.1 au];rfl,?_⟩;simp only[bP.len];cases au:(κ b).e5 with
  | true=>rw[aS.1 au];simp
  | false=>obtain⟨cs,hV,bC,c2,c3,c4,c5⟩:=aS.2 au;omega
 | hE e xs=>
  rw[bR]at aS;simp only[jF,bH,bA.slice]at aS;obtain⟨a',cap,ax,m1,m2,m3,m4⟩:=aS;simp only[bP.len];grind
 | gi e xs i v=>
  rw[bR]at aS;obtain⟨aT,cs,hV,bC,c2,c3,c4,_⟩:=aS;exact⟨λau=>(by rw[aT]at au;cases au),(by simp only[bP.len];omega)⟩
 | _=>rw[bR]at a8;cases a8
theorem KS{a:Act}{w:World}{κ:Nat->bA}{F:Nat->Prop}(M:bk C s a w κ F){b:Nat}(a8:(s.aa b).body.fe=true)(au:(κ b).e5=false):(s.aa b).body.len<=(κ b).cap:=by
 have aS:=M.bB b;unfold cC at aS;cases bR:(s.aa b).body with
 | bg e xs=>
  rw[bR]at aS;obtain⟨cs,hV,bC,c2,c3,c4,c5⟩:=aS.2 au;exact c3
 | hE e xs=>
  rw[bR]at aS;simp only[jF,bH,bA.slice,au,Bool.false_eq_true,if_false]at aS;obtain⟨a',cap,ax,m1,m2,m3,m4⟩:=aS;simp only[List.cons.injEq,Value.slice.injEq,and_true]at ax;simp only[bP.len];omega
 | gi e xs i v=>
  rw[bR]at aS;obtain⟨aT,cs,hV,bC,c2,c3,c4,_⟩:=aS;exact c3
 | _=>rw[bR]at a8;cases a8
theorem adO{a:Act}{w:World}{κ:Nat->bA}{F:Nat->Prop}(M:bk C s a w κ F){b aX G:Nat}(a8:(s.aa b).body.fe=true){v:Value}(E:aX<=G)(U:G<=(s.aa b).body.len)(aD:FU (κ b) (s.aa b).body.eZ aX G v) :
  ∃ a cap,v=.slice a (G - aX) cap/\G - aX<2 ^ 63:=by
 have au:=zL M a8;rcases aD with⟨aQ,rfl⟩ | ⟨aQ,o,rfl,_⟩
 ·simp_all
 grind
theorem CD{n:Nat}(h:n<2 ^ 63):fQ .i64 (n:Int):=by
 unfold fQ;have E:IntKind.i64.min=-9223372036854775808:=by decide
 have U:IntKind.i64.max=9223372036854775807:=by decide
 omega
theorem b7.mp{P:Program}{k v:ab}{id:TypeId}(h:b7 P (.map k v) id):∃ i j,P.underlying id=some (.map i j)/\b7 P k i/\b7 P v j:=by
 unfold b7 at h;simp only[cD,Bool.and_eq_true]at h;obtain⟨_,h⟩:=h;split at h
 ·rename_i i j G;simp only[Bool.and_eq_true]at h;exact⟨i,j,G,h.1,h.2⟩
 grind
theorem adP(aU:dR C.P T){t:TypeId}{dX:aG}{c:Prop}{n:Int}{u:Value}{a:Act}{w:World}{κ:Nat->bA}{F:Nat->Prop}(M:bk C s a w κ F)(h:(FX (T t) dX).run s.aa=some (c,n))(hc:c)(ah:bx C.P s.aa κ F w dX u)(ty:TypeId) :
  (Builtin.len_ #[t] ty #[u]).run C.P w=.ok (.int .i64 n) w/\fQ .i64 n:=by
 have axU:∀ e a' m cap,T t=.slice e->u=.slice a' m cap->(m:Int)=n->m<2 ^ 63->(Builtin.len_ #[t] ty #[u]).run C.P w=.ok (.int .i64 n) w/\fQ .i64 n:=by
  intro e a' m cap aL hu hm cj;obtain⟨i,G,_⟩:=(aU.cb aL (by simp)).sl;subst hu;rw[<-hm];exact⟨by simp[Builtin.len_,dA G,goInt],CD cj⟩
 have R0:∀ k v r es clk m,T t=.map k v->u=.map (some r)->w.heap[r]?=some (.map es clk)->es.size=m->(m:Int)=n->b9 m->(Builtin.len_ #[t] ty #[u]).run C.P w=.ok (.int .i64 n) w/\fQ .i64 n:=by
  intro k v r es clk m aL hu hw pz hm cj;obtain⟨i,j,G,_⟩:=(aU.cb aL (by simp)).mp;subst hu;rw[<-hm,<-pz];unfold b9 at cj;refine⟨?_,CD (by omega)⟩;simp[Builtin.len_,dA G,goInt,getObj,Sem.run,hw]
 unfold FX at h;split at h
 ·rename_i e aL;split at h
  ·rename_i aY xs;simp only[ao.bL,Option.some.injEq,Prod.mk.injEq]at h;obtain⟨_,ah⟩:=(dT rfl).1 ah;obtain⟨a',cap,ax,m1,m2,m3,m4⟩:=ah;grind
  ·simp only[ao.bL,Option.some.injEq,Prod.mk.injEq]at h;simp only[bx]at ah;grind
  ·rename_i b g;simp only[ao.e0,ao.bL]at h;split at h
   ·rename_i bj;simp only[Bool.and_eq_true,decide_eq_true_eq]at bj;simp only[Option.some.injEq,Prod.mk.injEq]at h;have ae:=ah.2 bj.1.symm bj.2;have au:=zL M bj.2;obtain⟨a',cap,he⟩:=adN (k:=κ b) au.1;grind
   grind
  ·rename_i b g aX G;simp only[ao.e0,ao.bL]at h;split at h
   ·rename_i bj;simp only[Bool.and_eq_true,decide_eq_true_eq]at bj;simp only[Option.some.injEq,Prod.mk.injEq]at h;obtain⟨⟨aQ,aV⟩,bK⟩:=ah.2 bj.1.symm bj.2;obtain⟨a',cap,he,cj⟩:=adO M bj.2 aQ aV bK;grind
   grind
  ·cases h
 ·rename_i aL;split at h
  ·rename_i xs;simp only[ao.bL,Option.some.injEq,Prod.mk.injEq]at h;obtain⟨rfl,cj⟩:=mm.1 ah;have dp:=(aU.cb aL (by simp)).str;rw[<-h.2];have aD:ByteArray.size ⟨xs.toArray⟩=xs.length:=by rfl
   exact⟨by simp[Builtin.len_,dA dp,goInt,aD],CD (by omega)⟩
  ·cases h
 ·rename_i k v aL;split at h
  ·rename_i k' h7 xs;simp only[ao.bL,Option.some.injEq,Prod.mk.injEq]at h;obtain⟨rfl,h⟩:=h;obtain⟨_,ah⟩:=(dT rfl).1 ah;rcases ah with⟨ax,rfl⟩ | ⟨r,es,clk,ax,m1,m2,m3,_⟩
   ·obtain rfl:=(List.cons.inj ax).1;obtain⟨i,j,G,_⟩:=(aU.cb aL (by simp)).mp;rw[<-h];exact⟨by simp[Builtin.len_,dA G,goInt],CD (by simp)⟩
   grind
  ·rename_i b g;simp only[ao.e0,ao.bL]at h;split at h
   ·rename_i aB;split at h
    ·rename_i k' h7 es bR;simp only[Option.some.injEq,Prod.mk.injEq]at h;obtain⟨rfl,h⟩:=h;have aS:=M.bB b;unfold cC at aS;rw[bR]at aS;obtain⟨ms,clk,df,dJ⟩:=aS;exact R0 k v _ ms clk es.length aL (ah.2 aB.symm (by rw[bR];rfl)) df dJ.1 h hc
    ·rename_i k' h7 es bR;simp only[Option.some.injEq,Prod.mk.injEq]at h;obtain⟨rfl,h⟩:=h;have aS:=M.bB b;unfold cC at aS;rw[bR]at aS;rcases aS with⟨ax,_⟩ | ⟨r,ms,clk,ax,CE,df,dJ,_⟩
     ·cases ax
     ·simp only[List.cons.injEq,Value.map.injEq,Option.some.injEq,and_true]at ax;subst ax;exact R0 k v _ ms clk es.length aL (ah.2 aB.symm (by rw[bR];rfl)) df dJ h hc
    grind
   grind
  ·cases h
 ·cases h
theorem xo{b:Builtin}{args:Array Operand}{dn:Array TypeId}{a:Act}{w w':World}{v:Value}(af:o.op=.call { callee:=.builtin b,args:=args,argTypes:=dn })
  (h:(builtin b dn o.type (args.map fun | .const _=>true | _=>false) (args.map a.eval)).run C.P w=.ok (.value v) w'):(execOp a.eval o).run C.P w=.ok (.value v) w':=by
 simp only[execOp,af,Sem.run_bind,resolve,Sem.run_pure,Result.andThen_ok,invoke];exact h
theorem adQ(aU:dR C.P T){args:Array Operand}{dn:Array TypeId}(bf:∀ i,o.dst=some i->i<C.nt)(af:o.op=.call { callee:=.builtin .len,args:=args,argTypes:=dn })(h:(br C.aN T be (aZ C.aN s.ay) o).run s.aa=some res):cG C o s res:=by
 obtain⟨args⟩:=args;obtain⟨dn⟩:=dn;simp only[br,af,mS,Cr]at h;split at h
 ·rename_i x t;simp only[bN,ao.e1,Option.bind_eq_some_iff,ao.bL,Option.some.injEq]at h;obtain⟨⟨c,n⟩,au,rfl⟩:=h;refine cG.pure (by grind) bf λa w κ F M bb hc=>?_;obtain⟨E,U⟩:=adP aU M au hc (cM M x rfl bb) o.type;refine⟨_,xo af ?_,gU.2 ⟨rfl,U⟩⟩;simp[builtin,E]
 ·cases h
theorem adR(aU:dR C.P T){args:Array Operand}{dn:Array TypeId}(bf:∀ i,o.dst=some i->i<C.nt)(af:o.op=.call { callee:=.builtin .cap,args:=args,argTypes:=dn })(h:(Ct T (aZ C.aN s.ay) args.toList dn.toList).run s.aa=some res):cG C o s res:=by
 obtain⟨args⟩:=args;obtain⟨dn⟩:=dn;simp only[Ct]at h;split at h
 ·rename_i x t;split at h
  ·rename_i e cB aL hu;simp only[bN,ao.bL,Option.some.injEq]at h;subst h;refine cG.pure (by grind) bf λa w κ F M bb hc=>?_;have ae:a.eval x=.slice none 0 0:=cM M x hu bb;obtain⟨i,G,_⟩:=(aU.cb aL (by simp)).sl;refine⟨.int .i64 0,xo af ?_,gU.2 ⟨rfl,by decide⟩⟩;simp[builtin,Builtin.cap_,ae,dA G,goInt]
  ·cases h
 ·cases h
theorem R1{a:Act}{w:World}{κ:Nat->bA}{F:Nat->Prop}(M:bk C s a w κ F){k:IntKind}:∀ (l:List Operand) {ca:Prop} {h9:z1'},mR (aZ C.aN s.ay) k l=some (ca,h9)->ca->l.map a.eval=h9.map (Value.int k)/\∀ n∈h9,fQ k n
 | [],_,_,h,_=>by cases h
 | [x],ca,h9,h,bb=>by
  simp only[mR]at h;split at h
  ·rename_i k' n ah;split at h
   ·rename_i al;subst al;cases h;have E:=oJ (cM M x rfl bb) ah;exact⟨by simp[E.1],by simpa using E.2⟩
   ·cases h
  ·cases h
 | x::y::l,ca,h9,h,bb=>by
  simp only[mR]at h;split at h
  ·rename_i k' n axV axW ah ai;split at h
   ·rename_i al;subst al;cases h;have E:=oJ (cM M x rfl bb.1) ah;have U:=R1 M (y::l) ai bb.2;exact⟨by rw[List.map_cons,U.1,E.1];rfl,λm hm=>by
     rcases List.mem_cons.1 hm with rfl | hm
     ·exact E.2
     ·exact U.2 m hm⟩
   ·cases h
  ·cases h
theorem KT{k:IntKind}:∀ (h9:z1') (m:Int),fQ k m->(∀ n∈h9,fQ k n)->((h9.map (Value.int k)).foldlM Builtin.min2 (Value.int k m)=pure (Value.int k (h9.foldl (λa b=>if b<a then b else a) m))/\fQ k (h9.foldl (λa b=>if b<a then b else a) m))/\
  ((h9.map (Value.int k)).foldlM Builtin.max2 (Value.int k m)=pure (Value.int k (h9.foldl (λa b=>if b > a then b else a) m))/\fQ k (h9.foldl (λa b=>if b > a then b else a) m))
 | [],m,h,_=>⟨⟨rfl,h⟩,rfl,h⟩
 | n::h9,m,h,ai=>by
  have au:=ai n (by simp);have ai:=λq bp=>ai q (List.mem_cons_of_mem n bp);have E:=(KT h9 (if n<m then n else m) (by split<;>assumption) ai).1;have U:=(KT h9 (if n > m then n else m) (by split<;>assumption) ai).2;refine⟨⟨?_,E.2⟩,?_,U.2⟩
  ·simp only[List.map_cons,List.foldlM_cons,List.foldl_cons,Builtin.min2];rw[<-E.1];simp
  ·simp only[List.map_cons,List.foldlM_cons,List.foldl_cons,Builtin.max2];rw[<-U.1];simp
theorem R2{b:Builtin}{f:Int->Int->Int}(W:(b=.min/\f=λa b=>if b<a then b else a)\/(b=.max/\f=λa b=>if b > a then b else a)){args:Array Operand}{dn:Array TypeId}(bf:∀ i,o.dst=some i->i<C.nt)
  (af:o.op=.call { callee:=.builtin b,args:=args,argTypes:=dn }) (h:(sk (aZ C.aN s.ay) f args.toList).run s.aa=some res):cG C o s res:=by
 obtain⟨args⟩:=args;simp only[sk]at h;split at h
 ·rename_i x y l;split at h
  ·rename_i k m ah;split at h
   ·rename_i ca h9 ai;simp only[bN,ao.bL,Option.some.injEq]at h;subst h;refine cG.pure (by grind) bf λa w κ F M bb hc=>?_;have E:=oJ (cM M x rfl bb.1) ah;obtain⟨U,ag⟩:=R1 M (y::l) ai bb.2;obtain⟨g1,eh⟩:=KT h9 m E.2 ag;have dW:(x::y::l).map a.eval=Value.int k m::h9.map (Value.int k):=by rw[List.map_cons,U,E.1]
    refine⟨.int k (h9.foldl f m),xo af ?_,gU.2 ⟨rfl,?_⟩⟩
    ·rcases W with⟨rfl,rfl⟩ | ⟨rfl,rfl⟩
     ·simp only[builtin,Builtin.min_,List.map_toArray,dW];rw[g1.1];rfl
     ·simp only[builtin,Builtin.max_,List.map_toArray,dW];rw[eh.1];rfl
    ·rcases W with⟨rfl,rfl⟩ | ⟨rfl,rfl⟩
     ·exact g1.2
     ·exact eh.2
   ·cases h
  ·cases h
 ·cases h
end
end Go.Fer
namespace Go.Fer
open Go.RowKit
def fg(H:Nat->bJ)(x:bJ):bJ:=match x.body with
 | .bg e xs=>⟨x.gen,.hE e xs⟩
 | .mp k v es=>⟨x.gen,.jk k v es⟩
 | .cells t f=>match (il t ((List.range t.size).map f)).run H with
  | some (y,_,[])=>⟨x.gen,.gL t y⟩
  | _=>x
 | _=>x
def aA.cy(s:aA)(l:List Nat):aA:=⟨s.ay,λi=>if i∈l then fg s.aa (s.aa i) else s.aa i⟩
theorem R3(H:Nat->bJ):∀ (l:List Nat) (s:aA),(∀ i∈l,s.aa i=H i\/s.aa i=fg H (H i))->s.fZ ((jJ l).run H)=⟨s.ay,λi=>if i∈l then fg H (H i) else s.aa i⟩
 | [],s,_=>by
  rfl
 | b::l,s,h=>by
  simp only[jJ,ao.e0,ao.run_bind];have key:∀ (s':aA),s'.ay=s.ay->s'.aa b=fg H (H b)->(∀ i,i≠b->s'.aa i=s.aa i)->s'.fZ ((jJ l).run H)=⟨s.ay,λi=>if i∈b::l then fg H (H i) else s.aa i⟩:=by
   intro s' ax aO cv;rw[R3 H l s']
   ·rw[ax];congr 1;funext i;by_cases G:i=b
    ·subst G;simp only[aO,List.mem_cons,true_or,if_true];split<;>rfl
    ·rw[cv i G];simp[G]
   ·intro i G;by_cases eL:i=b
    ·subst eL;exact .inr aO
    ·rw[cv i eL];exact h i (by simp[G])
  have hG:fg H (H b)=H b->s.fZ ((jJ l).run H)=⟨s.ay,λi=>if i∈b::l then fg H (H i) else s.aa i⟩:=λe=>
   key s rfl (by grind) λ_ _=>rfl
  have put:∀ x,fg H (H b)=x->s.fZ ((b,x)::(jJ l).run H)=⟨s.ay,λi=>if i∈b::l then fg H (H i) else s.aa i⟩:=λx e=>by
   simp only[aA.fZ];exact key _ rfl (by simp[aA.cw,e]) λi G=>by simp[aA.cw,G]
  cases W:(H b).body with
  | bg e xs=>exact put _ (by simp[fg,W])
  | mp k v es=>exact put _ (by simp[fg,W])
  | cells t f=>
   simp only[ao.run_bind,ao.bL];cases aB:(il t ((List.range t.size).map f)).run H with
   | none=>exact hG (by simp[fg,W,aB])
   | some z=>
    obtain⟨y,m,r⟩:=z;cases r with
    | nil=>exact put _ (by simp[fg,W,aB])
    | cons c r=>exact hG (by simp[fg,W,aB])
  | _=>exact hG (by simp[fg,W])
theorem tW(s:aA)(l:List Nat):s.fZ ((jJ l).run s.aa)=s.cy l:=by
 rw[R3 s.aa l s λi _=>.inl rfl];rfl
theorem CF:∀ (l:List (Nat×bJ)) (s:aA) (p:Nat×bJ),s.fZ (l++[p])=(s.fZ l).cw p.1 p.2
 | [],_,_=>rfl
 | q::l,s,p=>by simp only[List.cons_append,aA.fZ];exact CF l _ p
def bP.R4:bP->Bool | .cq _ _ _ _=>true | .gi _ _ _ _=>true | _=>false
def gN(H:Nat->bJ)(l:List Nat):Prop:=∀ b∈l,(H b).body.R4=false/\∀ t f,(H b).body=.cells t f->∃ y m,(il t ((List.range t.size).map f)).run H=some (y,m,[])/\∀ c∈m,c∈l
theorem gN.nil(H:Nat->bJ):gN H []:=λb W=>by cases W
theorem gN.append{H:Nat->bJ}{l m:List Nat}(h:gN H l)(k:gN H m):gN H (l++m):=by
 intro b W;rcases List.mem_append.1 W with W | W
 ·obtain⟨E,U⟩:=h b W;grind
 ·obtain⟨E,U⟩:=k b W;grind
theorem gN.one{H:Nat->bJ}{b:Nat}(E:(H b).body.R4=false)(U:(H b).body.fH=false):gN H [b]:=by
 intro c hc;obtain rfl:=List.mem_singleton.1 hc;exact⟨E,λt f e=>by rw[e]at U;cases U⟩
theorem sr{H:Nat->bJ}{t:ab}{av:aG}{x:t.aj}{l:List Nat}(h:(dV t av).run H=some (x,l)):gN H l:=by
 cases av with
 | val cV y=>
  simp only[dV,ao.bL,Option.map_eq_some_iff,Prod.mk.injEq]at h;obtain⟨z,bj,rfl,rfl⟩:=h;exact .nil H
 | dm=>
  cases t<;>simp only[dV,ao.none,ao.bL,reduceCtorEq,Option.some.injEq,Prod.mk.injEq]at h;obtain⟨rfl,rfl⟩:=h;exact .nil H
 | jE u=>
  simp only[dV,ao.bL,Option.map_eq_some_iff,Prod.mk.injEq]at h;obtain⟨z,bj,rfl,rfl⟩:=h;exact .nil H
 | dU cV y=>
  cases t<;>simp only[dV,ao.none,ao.bL,reduceCtorEq,Option.map_eq_some_iff,Prod.mk.injEq]at h;obtain⟨z,bj,rfl,rfl⟩:=h;exact .nil H
 | own b g=>
  cases t<;>simp only[dV,ao.none,ao.bL,ao.e0,reduceCtorEq]at h;split at h
  ·split at h
   ·rename_i W;simp only[Option.map_eq_some_iff,Prod.mk.injEq]at h;obtain⟨z,bj,rfl,rfl⟩:=h;exact .one (by rw[W];rfl) (by rw[W];rfl)
   ·simp only[Option.map_eq_some_iff,Prod.mk.injEq]at h;obtain⟨z,bj,rfl,rfl⟩:=h;exact .nil H
   grind
  grind
 | sub b g aX G=>
  cases t<;>simp only[dV,ao.none,ao.bL,ao.e0,reduceCtorEq]at h;split at h
  ·split at h
   ·rename_i W;simp only[Option.map_eq_some_iff,Prod.mk.injEq]at h;obtain⟨z,bj,rfl,rfl⟩:=h;exact .one (by rw[W];rfl) (by rw[W];rfl)
   ·simp only[Option.map_eq_some_iff,Prod.mk.injEq]at h;obtain⟨z,bj,rfl,rfl⟩:=h;exact .nil H
   grind
  grind
 | fG b g=>
  cases t<;>simp only[dV,ao.none,ao.bL,ao.e0,reduceCtorEq]at h;split at h
  ·split at h
   ·rename_i W;simp only[Option.map_eq_some_iff,Prod.mk.injEq]at h;obtain⟨z,bj,rfl,rfl⟩:=h;exact .one (by rw[W];rfl) (by rw[W];rfl)
   ·simp only[Option.map_eq_some_iff,Prod.mk.injEq]at h;obtain⟨z,bj,rfl,rfl⟩:=h;exact .nil H
   grind
  grind
 | iB k n c=>
  cases t<;>simp only[dV,ao.none,ao.bL,reduceCtorEq]at h;split at h
  ·cases h;exact .nil H
  ·cases h
 | _=>cases h
theorem R5{H:Nat->bJ}{e:ab}(gm:∀ {cs:List aG} {x:e.aj} {l:List Nat} {r:List aG},(il e cs).run H=some (x,l,r)->gN H l){av:aG}{x:Option e.aj}{l:List Nat}
  (h:(tQ e (il e) av).run H=some (x,l)):gN H l:=by
 have ck:(dV (.bG e) av).run H=some (x,l)->gN H l:=sr (t:=.bG e);cases av with
 | bc b g off=>
  simp only[tQ,ao.e0]at h;split at h
  ·split at h
   ·simp only[ao.bL,Option.map_eq_some_iff,Prod.mk.injEq]at h;obtain⟨z,bj,rfl,rfl⟩:=h;exact .nil H
   ·rename_i t f W;split at h
    ·rename_i aL;subst aL;simp only[ao.e1,Option.bind_eq_some_iff,ao.bL]at h;obtain⟨⟨y,m,q⟩,E,U⟩:=h;split at U
     ·rename_i bp;simp only[Option.some.injEq,Prod.mk.injEq]at U;obtain⟨rfl,rfl⟩:=U;have bp:q=[]:=List.isEmpty_iff.1 bp;subst bp;intro c hc;rcases List.mem_cons.1 hc with rfl | hc
      ·refine⟨by rw[W];rfl,λcV iF e=>?_⟩;grind
      ·obtain⟨aQ,aV⟩:=gm E c hc;grind
     grind
    ·cases h
   ·cases h
  ·cases h
 | _=>exact ck h
theorem R6{H:Nat->bJ}:∀ (t:ab) {cs:List aG} {x:t.aj} {l:List Nat} {r:List aG},(il t cs).run H=some (x,l,r)->gN H l:=by
 have qq:∀ (t:ab) (g:aG->ao (Option (t.aj×List Nat))),(∀ {av:aG} {x:t.aj} {l:List Nat},(g av).run H=some (x,l)->gN H l)->
   ∀ {cs:List aG} {x:t.aj} {l:List Nat} {r:List aG},(match cs with | c::r=>(g c).map λo=>o.map λ(x,l)=>(x,l,r) | []=>.none:ao (Option (t.aj×List Nat×List aG))).run H=some (x,l,r)->gN H l:=by
  intro t g aB cs x l r h;cases cs with
  | nil=>cases h
  | cons c cs=>
   simp only[ao.map,ao.run_bind,ao.bL,Option.map_eq_some_iff,Prod.mk.injEq]at h;grind
 intro t;induction t with
 | bool=>intro cs x l r h;exact qq .bool (dV .bool) sr h
 | int k=>intro cs x l r h;exact qq (.int k) (dV (.int k)) sr h
 | str=>intro cs x l r h;exact qq .str (dV .str) sr h
 | cS=>
  intro cs x l r h;simp only[il,ao.bL,Option.some.injEq,Prod.mk.injEq]at h;obtain⟨_,rfl,rfl⟩:=h;exact .nil H
 | st t aH=>intro cs x l r h;exact aH h
 | az a b fw eJ=>
  intro cs x l r h;simp only[il,ao.e1,Option.bind_eq_some_iff,ao.bL,Option.some.injEq,Prod.mk.injEq]at h;obtain⟨⟨y,m,q⟩,E,⟨z,dw,q'⟩,U,rfl,rfl,rfl⟩:=h;exact (fw E).append (eJ U)
 | slice e aH=>intro cs x l r h;exact qq (.slice e) (dV (.slice e)) sr h
 | array n e aH=>
  intro cs xs l r h;simp only[il]at h;have key:∀ (n:Nat) {cs:List aG} {xs:List e.aj} {l:List Nat} {r:List aG},(n.rec (motive:=λ_=>List aG->ao (Option (List e.aj×List Nat×List aG))) (λcs=>.ret (some ([],[],cs)))
     (λ_ aH cs=>(il e cs).cP λ(x,l,r)=>(aH r).cP λ(xs,m,q)=>.ret (some (x::xs,l++m,q))) cs).run H=some (xs,l,r)->gN H l:=by
   intro n;induction n with
   | zero=>intro cs xs l r h;cases h;exact .nil H
   | succ n Co=>
    intro cs xs l r h;simp only[ao.e1,Option.bind_eq_some_iff,ao.bL,Option.some.injEq,Prod.mk.injEq]at h;obtain⟨⟨y,m,q⟩,E,⟨z,dw,q'⟩,U,rfl,rfl,rfl⟩:=h;exact (aH E).append (Co U)
  grind
 | bG e aH=>intro cs x l r h;exact qq (.bG e) (tQ e (il e)) (R5 aH) h
 | map k v w8 w9=>intro cs x l r h;exact qq (.map k v) (dV (.map k v)) sr h
 | fn a b fw eJ=>intro cs x l r h;exact qq (.fn a b) (dV (.fn a b)) sr h
 | cq a aH=>intro cs x l r h;exact qq (.cq a) (dV (.cq a)) sr h
 | en=>intro cs x l r h;exact qq .en (dV .en) sr h
theorem mV{H:Nat->bJ}{t:ab}{av:aG}{x:t.aj}{l:List Nat}(h:(dy t av).run H=some (x,l)):gN H l:=by
 have ck:(kx t av).run H=some (x,l)->gN H l:=by
  intro h;unfold kx at h;split at h
  ·exact R5 (λh=>R6 _ h) h
  ·split at h
   ·exact sr h
   ·cases h
 cases av with
 | val cV y=>
  simp only[dy,ao.bL,Option.map_eq_some_iff,Prod.mk.injEq]at h;obtain⟨z,bj,rfl,rfl⟩:=h;exact .nil H
 | agg n f=>
  simp only[dy]at h;split at h
  ·cases h
  ·simp only[ao.e1,Option.bind_eq_some_iff,ao.bL]at h;obtain⟨⟨y,m,q⟩,E,U⟩:=h;split at U
   ·simp only[Option.some.injEq,Prod.mk.injEq]at U;obtain⟨rfl,rfl⟩:=U;exact R6 t E
   grind
 | _=>exact ck h
theorem zM(H:Nat->bJ)(x:bJ):fg H x=x\/(∃ e xs,x.body=.bg e xs/\fg H x=⟨x.gen,.hE e xs⟩)\/(∃ k v es,x.body=.mp k v es/\fg H x=⟨x.gen,.jk k v es⟩)\/
  ∃ t f y m,x.body=.cells t f/\(il t ((List.range t.size).map f)).run H=some (y,m,[])/\fg H x=⟨x.gen,.gL t y⟩:=by
 cases ah:x.body with
 | bg e xs=>exact .inr (.inl ⟨e,xs,rfl,by simp[fg,ah]⟩)
 | mp k v es=>exact .inr (.inr (.inl ⟨k,v,es,rfl,by simp[fg,ah]⟩))
 | cells t f=>
  cases aB:(il t ((List.range t.size).map f)).run H with
  | none=>exact .inl (by simp[fg,ah,aB])
  | some z=>
   obtain⟨y,m,r⟩:=z;cases r with
   | nil=>exact .inr (.inr (.inr ⟨t,f,y,m,rfl,aB,by simp[fg,ah,aB]⟩))
   | cons c r=>exact .inl (by simp[fg,ah,aB])
 | _=>exact .inl (by simp[fg,ah])
theorem adS{H:Nat->bJ}{x:bJ}{k:bA}(h:(fg H x).body.bY k=true):(x.body.bY k=true/\fg H x=x):=by
 rcases zM H x with e | ⟨_,_,_,e⟩ | ⟨_,_,_,_,e⟩ | ⟨_,_,_,_,_,_,e⟩
 ·grind
 all_goals rw[e]at h;cases h
theorem R7(s:aA)(l:List Nat)(κ:Nat->bA):fp s.aa κ (s.cy l).aa κ:=by
 rw[Ci];intro b;simp only[aA.cy];split
 ·rcases zM s.aa (s.aa b) with e | ⟨_,_,ah,e⟩ | ⟨_,_,_,ah,e⟩ | ⟨_,_,_,_,ah,_,e⟩
  ·rw[e];exact qn.refl _ _
  ·rw[e];exact⟨Nat.le_refl _,λ_=>⟨λh=>(by cases h),λ_=>⟨by rw[ah];rfl,rfl,by rw[ah];rfl,by rw[ah];rfl⟩,λh=>(by cases h),λh=>(by cases h)⟩⟩
  ·rw[e];exact⟨Nat.le_refl _,λ_=>⟨λh=>(by cases h),λh=>(by cases h),λ_=>⟨by rw[ah];rfl,rfl⟩,λh=>(by cases h)⟩⟩
  ·rw[e];exact⟨Nat.le_refl _,λ_=>⟨λ_=>⟨by rw[ah];rfl,rfl⟩,λh=>(by cases h),λh=>(by cases h),λh=>(by cases h)⟩⟩
 ·exact qn.refl _ _
theorem bk.lk{C:b8}{a:Act}{w:World}{κ:Nat->bA}{l:List Nat}{s:aA}{F:Nat->Prop}(lP:gN s.aa l)(h:bk C s a w κ F) :
  ∃ F',(∀ r,F r->F' r)/\bk C (s.cy l) a w κ F'/\iX s.aa κ F' l:=by
 let F':Nat->Prop:=λr=>F r\/∃ b∈l,(s.aa b).body.bY (κ b)=true/\(κ b).aa=r;have bm:∀ r,F r->F' r:=λr M=>.inl M;have tX:iX s.aa κ F' l:=λb W af=>.inr ⟨b,W,af,rfl⟩;have KU:∀ b,((s.cy l).aa b).body.bY (κ b)=true->b ∉ l/\(s.aa b).body.bY (κ b)=true:=by
  intro b W;simp only[aA.cy]at W;by_cases iG:b∈l
  ·rw[if_pos iG]at W;obtain⟨aQ,aV⟩:=adS W;exfalso;obtain⟨bC,c2⟩:=lP b iG;cases ah:(s.aa b).body with
   | bg e xs=>simp[fg,ah,bP.bY]at W
   | mp k v es=>simp[fg,ah,bP.bY]at W
   | cells t f=>
    obtain⟨y,m,g,_⟩:=c2 t f ah;simp[fg,ah,g,bP.bY]at W
   | cq k v c r=>rw[ah]at bC;cases bC
   | gi e xs i v=>rw[ah]at bC;cases bC
   | _=>rw[ah]at aQ;cases aQ
  grind
 have ai:=R7 s l κ;refine⟨F',bm,?_,tX⟩;refine h.move ai bm (λr M=>M.imp id λ⟨b,_,E,U⟩=>.inl ⟨b,E,U⟩) (Nat.le_refl _) (λ_ _ _=>rfl) (dc.refl _) (λ_ b=>?_) (λb W=>?_) (λb bd W dd e=>h.inj b bd (KU b W).2 (KU bd dd).2 e) (λr M=>?_) (λb _ W=>⟨rfl,?_⟩)
 ·show cC C.P (s.cy l).aa κ F' w b;by_cases iG:b∈l
  ·have aS:=h.bB b;have KV:(s.cy l).aa b=fg s.aa (s.aa b):=by simp[aA.cy,iG]
   have lg:fg s.aa (s.aa b)=s.aa b->cC C.P (s.cy l).aa κ F' w b:=λe=>cC.lg aS ai bm (c1.refl _ _) (by grind) rfl λ_=>rfl;cases ah:(s.aa b).body with
   | bg e xs=>
    unfold cC at aS ⊢;rw[ah]at aS;rw[KV];simp only[fg,ah,jF];exact KB aS bm λau=>tX b iG (by rw[ah];simp[bP.bY,au])
   | mp k v es=>
    unfold cC at aS ⊢;rw[ah]at aS;rw[KV];simp only[fg,ah,jF];exact RC aS bm (tX b iG (by rw[ah];rfl))
   | cells t f=>
    obtain⟨y,m,g,hm⟩:=(lP b iG).2 t f ah;unfold cC at aS ⊢;rw[ah]at aS;rw[KV];simp only[fg,ah,g,jF];obtain⟨cs,T,aQ,aV,bK⟩:=aS;have iD:eu C.P s.aa κ F w ((List.range t.size).map f) cs.toList:=Cn (by omega) λi G=>by
     simp_all
    obtain⟨c,d,KD,bC,c2⟩:=KE h.bB bm t g (λc hc=>tX c (hm c hc)) iD;cases d with
    | cons _ _=>exact c2.elim
    | nil=>
     rw[List.append_nil]at KD;refine⟨c,⟨tX b iG (by rw[ah];rfl),rfl,λj aE=>?_⟩,bC⟩;have fR:j<cs.size:=by grind
     simp only[World.cell?,aQ,Nat.zero_add,Option.isSome_none,Bool.false_eq_true,if_false,Array.getElem?_eq_getElem fR];grind
   | _=>exact lg (by simp[fg,ah])
  ·exact cC.lg (h.bB b) ai bm (c1.refl _ _) (by simp[aA.cy,iG]) rfl λ_=>rfl
 ·obtain⟨aQ,aV⟩:=KU b W;have af:=h.own b aV;refine⟨af.1,λar=>?_,.inl ⟨b,aV,rfl⟩⟩;rcases ar with ar | ⟨b0,m1,m2,m3⟩
  ·grind
  ·exact aQ (h.inj b b0 aV m2 m3.symm ▸ m1)
 ·rcases M with M | ⟨b,_,W,rfl⟩
  ·exact h.da r M
  ·exact (h.own b W).1
 ·split at W
  ·rcases zM s.aa (s.aa b) with e | ⟨_,_,ah,e⟩ | ⟨_,_,_,ah,e⟩ | ⟨_,_,_,_,ah,_,e⟩
   ·grind
   ·rw[e]at W;simp[bP.fH,bP.gW]at W
   ·rw[ah];exact .inr rfl
   ·rw[ah];exact .inl rfl
  omega
section
variable {C:b8} {T:Nat->ab} {be:Nat->Option aM} {o:Oper} {s:aA} {res:eA}
theorem bk.gp{a:Act}{w:World}{κ:Nat->bA}{F:Nat->Prop}(h:bk C s a w κ F){b:Nat}(W:b<C.nt):b<eP:=Nat.lt_of_lt_of_le W h.gj
theorem bk.newVar{a:Act}{w:World}{κ:Nat->bA}{F:Nat->Prop}(h:bk C s a w κ F){b:Nat}(Cl:b<eP){t:ab}{l:List aG}{cs:List Value}{ty:TypeId}(ai:eu C.P s.aa κ F w l cs)(aL:l.length=t.size) :
  ∃ κ',bk C (s.cw b ⟨(s.aa b).gen+1,.cells t (hi l)⟩) a (w.alloc (.cells cs.toArray ty)) κ' F/\(κ' b).aa=w.heap.size:=by
 refine⟨_,h.alloc (k:=⟨w.heap.size,0,0,false⟩) Cl (Nat.lt_succ_self _) rfl λH κ' mW Ck cj=>?_,by simp⟩;refine⟨cs.toArray,ty,qo _ _,by simp[<-ai.len,aL],λi G=>?_⟩;have:=ai.kU i (by omega);have e:cs.toArray.getD i Go.undef=cs.getD i Go.undef:=by simp
 rw[e];exact⟨bx.later cj (λ_ M=>M) (c1.alloc h.da _) this.1,this.2⟩
theorem CG(t:ab){P:Program}{z:Value}(h:j_ t z.cells.toList=some []):(sg t).length=t.size/\z.cells.size=t.size:=by
 obtain⟨c,e,E,U⟩:=vl (P:=P) (H:=λ_=>⟨0,.fx⟩) (κ:=λ_=>⟨0,0,0,true⟩) (F:=λ_=>True) (w:=default) t h;rw[List.append_nil]at e;have:=hR t E;have:=U.len;grind
theorem adT(aU:dR C.P T){ty:TypeId}(bf:∀ i,o.dst=some i->i<C.nt)(af:o.op=.alloc ty)(h:(br C.aN T be (aZ C.aN s.ay) o).run s.aa=some res)(qv:T ty≠.cS):cG C o s res:=by
 simp only[br,af]at h;obtain⟨b,aq,al⟩:=rm h;simp only[if_neg qv,Option.some.injEq]at al;subst al;intro a w κ F Q M _ _;have dp:=aU.cb rfl qv;obtain⟨i,z,E,U,ag,a6,bM,dt⟩:=kz dp.ky;obtain⟨c,e,ke,z2⟩:=vl (P:=C.P) (H:=s.aa) (κ:=κ) (F:=F) (w:=w) (T ty) bM;rw[List.append_nil]at e;have bj:=CG (T ty) (P:=C.P) bM;obtain⟨κ',cf,cI⟩:=M.newVar (b:=b) (M.gp (bf b aq)) (t:=T ty) (ty:=ty) z2 bj.1;have c6:(execOp a.eval o).run C.P w=.ok (.value (.pointer (some ⟨w.heap.size,0,none⟩))) (w.alloc (.cells c.toArray ty)):=by
  have zN:z.cells=c.toArray:=by grind
  simp[execOp,af,Instr.alloc,rk E a6,newVar,newRow,zN]
 refine hx (by grind) c6 ⟨κ',F,bk.set (s:=s.cw b _) cf bf ⟨⟨?_,rfl⟩,λ_ _=>?_⟩⟩
 ·simp[aA.cw]
 grind
theorem KW{P:Program}{H:Nat->bJ}{κ:Nat->bA}{F:Nat->Prop}{w:World}{t:ab}{av:aG}{v:Value}{l:List aG}(h:cellsOf t av=some l)(ae:bx P H κ F w av v):eu P H κ F w l v.cells.toList:=by
 unfold cellsOf at h;split at h
 ·rename_i cV x;split at h
  ·rename_i he;subst he;simp only[Option.some.injEq]at h;subst h;obtain⟨⟨cs,rfl,_⟩,hc⟩:=ae;simp only[bH]at hc;exact zy _ hc
  grind
 ·rename_i n f;split at h
  ·simp only[Option.some.injEq]at h;subst h;obtain⟨aC,rfl,E,U⟩:=ae;exact Cn E U
  grind
 ·rename_i n e iZ aY x;split at h
  ·simp only[Option.some.injEq]at h;subst h;obtain⟨⟨cs,rfl,_⟩,hc⟩:=ae;exact zy _ hc
  grind
 ·rename_i n e m f;split at h
  ·simp only[Option.some.injEq]at h;subst h;obtain⟨aC,rfl,E,U⟩:=ae;exact Cn E U
  grind
 ·split at h
  ·have one:v.oneCell'=true->l=[av]->eu P H κ F w l v.cells.toList:=by
    intro E U;subst U;rw[FP E];exact⟨⟨ae,E⟩,trivial⟩
   split at h
   ·rename_i cV x;split at h
    ·rename_i zJ;obtain⟨aQ,aV⟩:=(dT zJ).1 ae;exact one (Ky zJ aV) (Option.some.inj h).symm
    grind
   ·exact one ae.1.2 (Option.some.inj h).symm
   ·exact one ae.1.2 (Option.some.inj h).symm
   ·exact one ae.1.2 (Option.some.inj h).symm
   ·refine one ?_ (Option.some.inj h).symm;obtain⟨p,bh,rfl,_⟩:=ae;rfl
   ·exact one ae.1.2 (Option.some.inj h).symm
   ·refine one ?_ (Option.some.inj h).symm;obtain⟨aC,rfl,_⟩:=ae;rfl
   ·refine one ?_ (Option.some.inj h).symm;simp only[bx]at ae;subst ae;rfl
   ·exact one ae.1.2 (Option.some.inj h).symm
   ·cases h
   ·cases h
   ·refine one ?_ (Option.some.inj h).symm;simp only[bx]at ae;subst ae;cases v<;>first | rfl | grind | grind | grind | grind
   grind
  grind
end
end Go.Fer
namespace Go.Fer
open Go.RowKit
theorem Gb:∀ (l:List Value) (k off:Nat) (cs:Array Value),off+k+l.length<=cs.size->
  ((l.zipIdx k).foldl (λ(cs:Array Value) (p:Value×Nat)=>cs.setIfInBounds (off+p.2) p.1) cs).toList=cs.toList.take (off+k)++(l++cs.toList.drop (off+k+l.length))
 | [],k,off,cs,h=>by simp
 | c::l,k,off,cs,h=>by
  simp only[List.zipIdx_cons,List.foldl_cons];have cd:(cs.setIfInBounds (off+k) c).size=cs.size:=by simp
  rw[Gb l (k+1) off _ (by grind)];simp only[Array.toList_setIfInBounds,List.length_cons]at h ⊢;have cj:off+k<cs.toList.length:=by grind
  rw[show off+(k+1)=(off+k)+1 from by omega];rw[List.take_set,List.drop_set];rw[if_pos (by omega)];have E:(cs.toList.take (off+k+1)).set (off+k) c=cs.toList.take (off+k)++[c]:=by
   rw[List.take_succ_eq_append_getElem cj,List.set_append_right _ _ (by grind)];have CH:min (off+k) cs.size=off+k:=Nat.min_eq_left (by omega);simp[CH]
  grind
section
variable {P:Program} {w:World}
theorem adU(w:World)(b off:Nat)(v:Value){cs:Array Value}{T:TypeId}{fg:Nat×Nat}(h:w.heap[b]?=some (.cells cs T fg)) :
  (w.setCell ⟨b,off,none⟩ v).heap[b]?=some (.cells (cs.setIfInBounds off v) T fg):=by
 simp[World.setCell,Array.getElem?_modify,h]
theorem vr{b:Nat}{T:TypeId}:∀ (aC:List Value) (off i:Nat) (w:World) (cs:Array Value),w.heap[b]?=some (.cells cs T (0,0))->off+i+aC.length<=cs.size->(∀ v∈aC,v.oneCell'=true)->
  ∃ w' dh,(storeCells ⟨b,off,none⟩ aC i).run P w=.ok () w'/\w'.heap[b]?=some (.cells dh T (0,0))/\dh.toList=cs.toList.take (off+i)++(aC++cs.toList.drop (off+i+aC.length))/\
   (∀ r,r≠b->w'.heap[r]?=w.heap[r]?)/\w'.heap.size=w.heap.size/\dc w w'
 | [],off,i,w,cs,h,_,_=>⟨w,cs,by rfl,h,by simp,λ_ _=>rfl,rfl,dc.refl w⟩
 | v::aC,off,i,w,cs,h,ai,ae=>by
  have cj:off+i<cs.size:=by grind
  have hc:w.cell? ⟨b,off+i,none⟩=some cs[off+i]:=by rw[vq h];simp
  have ar:w.frozen? ⟨b,off+i,none⟩=false:=by simp[World.frozen?,h]
  have E:=adU w b (off+i) v h;obtain⟨w',dh,cf,cI,er,lQ,lR,mv⟩:=vr aC off (i+1) (w.setCell ⟨b,off+i,none⟩ v) _ E (by grind) (λu hu=>ae u (by grind));refine⟨w',dh,?_,cI,?_,?_,by simp_all,dc.trans (b:=w.setCell ⟨b,off+i,none⟩ v) ⟨rfl,rfl,rfl⟩ mv⟩
  ·simp only[storeCells,Sem.run_bind,vo,run_store P w _ v _ (ae v (by simp)),hc,ar,Bool.false_eq_true,if_false,Result.andThen_ok];exact cf
  ·rw[er];have:=Gb [v] 0 (off+i) cs (by grind);simp only[List.zipIdx_cons,List.zipIdx_nil,List.foldl_cons,List.foldl_nil,Nat.add_zero,List.length_singleton]at this;rw[this];have ax:(cs.toList.take (off+i)).length=off+i:=by grind
   rw[List.take_append,List.drop_append,ax];simp only[show off+(i+1) - (off+i)=1 from by omega,show off+(i+1)+aC.length - (off+i)=aC.length+1 from by omega];have aO:List.take (off+(i+1)) (cs.toList.take (off+i))=cs.toList.take (off+i):=List.take_of_length_le (by omega);have cv:List.drop (off+(i+1)+aC.length) (cs.toList.take (off+i))=[]:=List.drop_of_length_le (by omega);rw[aO,cv];simp only[List.length_cons,List.nil_append,List.append_assoc,List.cons_append];simp only[List.take_succ_cons,List.take_zero,List.drop_succ_cons,List.drop_drop,List.cons_append,List.nil_append];grind
  ·intro r M;rw[lQ r M];exact Below.heap_setCell _ _ _ _ (by omega)
end
section
variable {C:b8} {T:Nat->ab} {be:Nat->Option aM} {o:Oper} {s:aA} {res:eA}
theorem adV{ty:TypeId}{x:Operand}(bf:∀ i,o.dst=some i->i<C.nt)(af:o.op=.box ty x)(h:(br C.aN T be (aZ C.aN s.ay) o).run s.aa=some res):cG C o s res:=by
 simp only[br,af]at h;split at h
 ·rename_i l ai;obtain⟨b,aq,al⟩:=rm h;split at al;case isFalse=>cases al
  rename_i hlen;simp only[Option.some.injEq]at al;subst al;intro a w κ F Q M bb _;have ae:=cM M x rfl bb;obtain⟨κ',cf,cI⟩:=M.newVar (b:=b) (M.gp (bf b aq)) (t:=T ty) (ty:=ty) (KW ai ae) hlen;have c6:(execOp a.eval o).run C.P w=.ok (.value (.pointer (some ⟨w.heap.size,0,none⟩))) (w.alloc (.cells (a.eval x).cells.toList.toArray ty)):=by
   simp[execOp,af,Instr.box,newVar,newRow]
  refine hx (by grind) c6 ⟨κ',F,bk.set (s:=s.cw b _) cf bf ⟨⟨?_,rfl⟩,λ_ _=>?_⟩⟩
  ·simp[aA.cw]
  grind
 ·cases h
theorem adW{P:Program}:∀ (t:ab) {l:List Field} {off:Nat},cD P t (.inr (l,off))=true->∀ f∈l,∃ s,b7 P s f.type:=by
 intro t;induction t with
 | az a b fw eJ=>
  intro l off h;match l,h with
  | [],h=>simp
  | [x],h=>simp only[cD,Bool.false_eq_true]at h
  | [x,y],h=>
   simp only[cD,Bool.and_eq_true]at h;intro f ar;simp only[List.mem_cons,List.not_mem_nil,or_false]at ar;rcases ar with rfl | rfl
   ·exact⟨a,h.1.1.1.2⟩
   ·exact⟨b,h.2.1.1.2⟩
  | x::y::z::l,h=>
   simp only[cD,Bool.and_eq_true]at h;intro f ar;rcases List.mem_cons.1 ar with rfl | ar
   ·exact⟨a,h.1.1.1.2⟩
   grind
 | _=>intro l off h;simp only[cD,Bool.false_eq_true]at h
theorem b7.adX{P:Program}{t:ab}{id:TypeId}(h:b7 P (.st t) id){eS:Array Field}(jm:P.underlying id=some (.struct eS)):∀ f∈eS.toList,∃ s,b7 P s f.type:=by
 obtain⟨_,_,ag,a6⟩:=h.Cy;rw[jm]at a6;simp only[Option.some.injEq,TypeDesc.struct.injEq]at a6;rw[<-a6]at ag;rcases ag with ag | ⟨f,e,_,ag,_⟩ | ⟨_,e⟩
 ·exact adW t ag
 ·rw[e];intro g aB;simp only[List.mem_singleton]at aB;subst aB;exact⟨t,ag⟩
 ·rw[e];intro g aB;cases aB
theorem eu.replace{P:Program}{H:Nat->bJ}{κ:Nat->bA}{F:Nat->Prop}{w:World}{as l:List aG}{us aC:List Value}(h:eu P H κ F w as us)(k:eu P H κ F w l aC)(off:Nat) :
  eu P H κ F w (as.take off++(l++as.drop (off+l.length))) (us.take off++(aC++us.drop (off+aC.length))):=by
 have CJ:∀ {as:List aG} {us:List Value} (n:Nat),eu P H κ F w as us->eu P H κ F w (as.take n) (us.take n):=by
  intro as;induction as with
  | nil=>intro us n h;cases us<;>first | exact h.elim | grind
  | cons a as aH=>intro us n h;cases us with
   | nil=>exact h.elim
   | cons u us=>cases n with
    | zero=>trivial
    | succ n=>exact⟨h.1,aH n h.2⟩
 have adY:∀ {as:List aG} {us:List Value} (n:Nat),eu P H κ F w as us->eu P H κ F w (as.drop n) (us.drop n):=by
  intro as;induction as with
  | nil=>intro us n h;cases us<;>first | exact h.elim | grind
  | cons a as aH=>intro us n h;cases us with
   | nil=>exact h.elim
   | cons u us=>cases n with
    | zero=>exact h
    | succ n=>exact aH n h.2
 rw[<-k.len];exact (CJ off h).append (k.append (adY _ h))
theorem R8{P:Program}{H:Nat->bJ}{κ:Nat->bA}{F:Nat->Prop}{w:World}{t:ab}{id:TypeId}{eS:Array Field}(dp:b7 P (.st t) id)(jm:P.underlying id=some (.struct eS)){place:Nat->Option (Nat×Nat)}
  (ss:∀ i f s,eS[i]?=some f->b7 P s f.type->place i=some (f.offset,s.size)):∀ (ps:List (Nat×aG)) (qs:List (Nat×Value)) {as Gc:List aG} {cs:Array Value},eu P H κ F w as cs.toList->FY t as ps=some Gc->
  ps.length=qs.length->(∀ i (h:i<ps.length) (ds:i<qs.length),ps[i].1=qs[i].1/\bx P H κ F w ps[i].2 qs[i].2)->∃ dh,Instr.fill place cs qs=some dh/\eu P H κ F w Gc dh.toList
 | [],[],as,Gc,cs,a8,ar,_,_=>by cases ar;exact⟨cs,rfl,a8⟩
 | (i,av)::ps,(lj,v)::qs,as,Gc,cs,a8,ar,hlen,fF=>by
  have aT:=fF 0 (by simp) (by simp);simp only[List.getElem_cons_zero]at aT;obtain⟨rfl,ae⟩:=aT;simp only[FY]at ar;split at ar
  ·cases ar
  ·rename_i s off tY;split at ar
   ·cases ar
   ·rename_i l ai;split at ar
    ·rename_i hc;obtain⟨axX,nV,f1,f2,f3,f4,f5⟩:=dp.field tY;rw[jm]at f1;simp only[Option.some.injEq,TypeDesc.struct.injEq]at f1;subst f1;have an:=ss i nV s f2 f4;rw[f3]at an;have iD:=KW ai ae;have cd:v.cells.size=s.size:=by have:=iD.len;grind
     have px:as.length=cs.size:=by simpa using a8.len
     have Gd:=Gb v.cells.toList 0 off cs (by grind);have e:(v.cells.zipIdx.foldl (λ(cs:Array Value) (p:Value×Nat)=>cs.setIfInBounds (off+p.2) p.1) cs)=((v.cells.toList.zipIdx 0).foldl (λ(cs:Array Value) (p:Value×Nat)=>cs.setIfInBounds (off+p.2) p.1) cs):=by
      rw[<-Array.foldl_toList];simp
     have adZ:=a8.replace iD off;rw[hc.1]at adZ;obtain⟨dh,aQ,aV⟩:=R8 dp jm ss ps qs (cs:=v.cells.zipIdx.foldl (λ(cs:Array Value) (p:Value×Nat)=>cs.setIfInBounds (off+p.2) p.1) cs) (by rw[e,Gd];omega) ar (by grind)
      (λj h ds=>by have:=fF (j+1) (by grind) (by grind);grind)
     refine⟨dh,?_,aV⟩;simp only[Instr.fill,an];grind
    grind
 | [],_::_,_,_,_,_,_,hlen,_=>by grind
 | _::_,[],_,_,_,_,_,hlen,_=>by grind
theorem R9:∀ {l:List (Nat×aG)},sj l->∀ i (h:i<l.length),(use l[i].2).1
 | a::l,h,0,_=>by
  obtain⟨n,a⟩:=a;cases a<;>first | trivial | exact h.1
 | a::l,h,i+1,G=>by
  have ds:sj l:=by obtain⟨n,a⟩:=a;cases a<;>first | exact h | exact h.2
  have:=R9 ds i (by grind);grind
theorem KX{a:Act}{w:World}{κ:Nat->bA}{F:Nat->Prop}(M:bk C s a w κ F)(ps:List (Nat×Operand))(bb:sj (ps.map λp=>(p.1,aZ C.aN s.ay p.2))) :
  ∀ i (h:i<(iE (ps.map λp=>(p.1,aZ C.aN s.ay p.2))).length) (ds:i<(ps.map λp=>(p.1,a.eval p.2)).length),(iE (ps.map λp=>(p.1,aZ C.aN s.ay p.2)))[i].1=(ps.map λp=>(p.1,a.eval p.2))[i].1/\bx C.P s.aa κ F w (iE (ps.map λp=>(p.1,aZ C.aN s.ay p.2)))[i].2 (ps.map λp=>(p.1,a.eval p.2))[i].2:=by
 intro i h ds;have G:i<ps.length:=by grind
 have E:=R9 bb i (by grind);simp only[List.getElem_map]at E;refine⟨by simp[iE],?_⟩;simp only[iE,List.getElem_map];exact pw (kc M _) E
theorem ad0(aU:dR C.P T){ty:TypeId}{ps:Array (Nat×Operand)}(bf:∀ i,o.dst=some i->i<C.nt)(af:o.op=.build ty ps)(Ge:∀ m e,T ty≠.array m e)(h:(br C.aN T be (aZ C.aN s.ay) o).run s.aa=some res):cG C o s res:=by
 obtain⟨ps⟩:=ps;simp only[br,af]at h;split at h
 ·rename_i t aL;have dp:=aU.cb aL (by simp);split at h
  ·rename_i cs px;simp only[bN,ao.bL,Option.some.injEq]at h;subst h;refine cG.pure (by grind) bf λa w κ F M bb _=>?_;obtain⟨eS,jm⟩:=dp.st;obtain⟨i,z,E,U,ag,a6,bM,dt⟩:=kz dp.ky;obtain⟨c,e,ke,z2⟩:=vl (P:=C.P) (H:=s.aa) (κ:=κ) (F:=F) (w:=w) (.st t) bM;rw[List.append_nil]at e;have ad1:=dp.adX jm;have hm:=ChangeMaps.mapM_total (f:=λ(f:Field)=>(C.P.info? f.type).map λi=>(f.offset,i.size)) (0,0) (l:=eS.toList) (λf ar=>by
    obtain⟨s',su⟩:=ad1 f ar;obtain⟨lj,_,zO,_⟩:=kz su.ky;simp_all)
   have ss:=run_places (P:=C.P) w eS.toList _ hm;obtain⟨dh,aQ,aV⟩:=R8 (w:=w) dp jm (place:=λj=>((eS.toList.map λf=>((C.P.info? f.type).map λi=>(f.offset,i.size)).getD (0,0)))[j]?)
    (λj f s' aE su=>by
     obtain⟨lj,_,zO,xp,_⟩:=kz su.ky;grind)
    _ _ (by rw[e];exact z2) px (by simp[iE]) (KX M ps bb)
   have hlen:cs.length=dh.size:=by simpa using aV.len
   refine⟨.agg dh,?_,dh.toList,by simp,by grind,λj aE=>?_⟩
   ·have KY:(eS.mapM λf=>do pure (f.offset,<-sizeOf f.type):Sem (Array (Nat×Nat))).run C.P w=.ok (eS.toList.map λf=>((C.P.info? f.type).map λi=>(f.offset,i.size)).getD (0,0)).toArray w:=by
     rw[Array.mapM_eq_mapM_toList];simp[ss]
    simp only[execOp,af,Instr.build,Sem.run_bind,rk E a6,Result.andThen_ok,dA jm,KY];simp_all
   ·have:=aV.kU j aE;omega
  ·cases h
 ·rename_i aL;exact absurd aL (Ge _ _)
 ·cases h
end
end Go.Fer
namespace Go.Fer
open Go.RowKit
section
variable {C:b8} {T:Nat->ab} {be:Nat->Option aM} {o:Oper} {s:aA} {res:eA}
theorem KZ{P:Program}{w w':World}{t:ab}{id:TypeId}(h:b7 P t id){p:Addr}{v:Value}(cd:v.cells.size=t.size)(aD:(storeCells p v.cells.toList).run P w=.ok () w'):(storeVar id p v).run P w=.ok () w':=by
 simp[storeVar,h.size,cd,aD]
theorem ad2(aU:dR C.P T){ty:TypeId}{x y:Operand}(bf:o.dst=none)(af:o.op=.store ty x y)(h:(br C.aN T be (aZ C.aN s.ay) o).run s.aa=some res):cG C o s res:=by
 simp only[br,af]at h;split at h
 ·rename_i cB b g i ah;unfold KI at h;split at h
  ·rename_i bd g' aR;simp only[ao.e0,ao.bL]at h;split at h
   ·rename_i e xs lj v bR;split at h
    ·rename_i hc;obtain⟨aB,ai⟩:=hc;simp only[Option.some.injEq]at h;subst h;intro a w κ F Q M bb G;have G:i=lj:=G;subst G;have E:=(cM M x ah bb.1).2 aB.symm (by rw[bR];rfl);have ae:=cM M y (av:=.own bd g') (p:=(use (aZ C.aN s.ay y)).1) (by rw[<-aR]) bb.2;have aS:=M.bB b;unfold cC at aS;rw[bR]at aS E;obtain⟨aT,cs,hV,bC,c2,c3,c4,c5,lO,oK,xn⟩:=aS;have dp:=aU.cb (t:=T ty) rfl (by intro e;rw[e]at ai;cases ai);have tV:=FP ae.1.2;have cd:(a.eval y).cells.size=(T ty).size:=by
      rw[tV];cases aL:T ty<;>simp_all[ab.eF,ab.size]
     have ll:(κ b).off+i<cs.size:=by
      have:i<(κ b).cap:=by omega
      rw[c5.1]at c2;omega
     have an:a.eval x=.pointer (some ⟨(κ b).aa,(κ b).off+i,none⟩):=by rw[E.2.2];simp[bP.eZ,c5.1]
     obtain⟨w',dh,cf,cI,er,lQ,lR,mv⟩:=vr (P:=C.P) (a.eval y).cells.toList ((κ b).off+i) 0 w cs bC (by rw[tV];simp;omega) (λu hu=>by rw[tV]at hu;simp at hu;rw[hu];exact ae.1.2);refine F8 (w':=w') (by grind) (by simp[execOp,af,an,Instr.storeAt,Instr.sureAddr,KZ dp cd cf]) ?_;rw[bf];refine⟨κ,F,?_⟩;have gq:fp s.aa κ (λq=>if q=b then (⟨(s.aa b).gen,.gi e xs i (.own bd g')⟩:bJ) else s.aa q) κ:=
      rf rfl (λh=>by cases h) (λ_=>by rw[bR];exact⟨rfl,rfl,rfl⟩) (λh=>by cases h) (λh=>by cases h)
     refine (M.pt (b:=b) (x:=⟨(s.aa b).gen,.gi e xs i (.own bd g')⟩) (by rw[bR];simp[bP.bY,aT]) (by simp[bP.bY,aT]) gq (λh=>by cases h) (λh=>by cases h) lQ lR mv λH mW cj he=>?_);rw[tV]at er;simp only[Nat.add_zero]at er;have eT:∀ k,dh[k]?=if k=(κ b).off+i then some (a.eval y) else cs[k]?:=by
      intro k;rw[<-Array.getElem?_toList,er];have kW:(cs.toList.take ((κ b).off+i)).length=(κ b).off+i:=by rw[List.length_take,Array.length_toList];omega
      rcases Nat.lt_trichotomy k ((κ b).off+i) with al | al | al
      ·rw[if_neg (by omega),List.getElem?_append_left (by omega),List.getElem?_take_of_lt al,Array.getElem?_toList]
      ·rw[if_pos al,List.getElem?_append_right (by omega),kW,al];simp
      ·rw[if_neg (by omega),List.getElem?_append_right (by omega),kW,List.getElem?_append_right (by simp;omega),List.getElem?_drop];simp only[List.length_cons,List.length_nil];rw[show (κ b).off+i+(0+1)+(k - ((κ b).off+i) - (0+1))=k from by omega,Array.getElem?_toList]
     have Gf:dh.size=cs.size:=by
      rw[<-Array.length_toList,er];grind
     have zP:dh.getD ((κ b).off+i) Go.undef=a.eval y:=by
      rw[Array.getD_eq_getD_getElem?,eT];simp
     refine⟨aT,dh,hV,cI,by omega,c3,c4,c5,λj aE re=>?_,by rw[zP];exact bx.later cj (λ_ M=>M) he ae,by rw[zP];exact ae.1.2⟩;obtain⟨bh,d1,d2⟩:=lO j aE re;refine⟨bh,λq bp=>?_,fb e (λ_ M=>M) he d2⟩;have tZ:q=0:=by have:=hR e d2;omega
     subst tZ;rw[eT,if_neg (by rw[c5.1];omega)];exact d1 0 bp
    ·cases h
   ·cases h
  ·cases h
 rename_i cB dX ad3 ah;simp only[ao.e1,Option.bind_eq_some_iff,ao.bL,Option.some.injEq]at h;obtain⟨wl,lS,rfl⟩:=h;have K1:cB=(use (aZ C.aN s.ay x)).1:=by rw[ah]
 have Gg:dX=(use (aZ C.aN s.ay x)).2:=by rw[ah]
 subst K1;subst Gg;clear ah ad3;intro a w κ F Q M bb _;have an:bx C.P s.aa κ F w (use (aZ C.aN s.ay x)).2 (a.eval x):=cM M x rfl bb.1;have ae:bx C.P s.aa κ F w (use (aZ C.aN s.ay y)).2 (a.eval y):=cM M y rfl bb.2;generalize (use (aZ C.aN s.ay x)).2=ad4 at *
 generalize (use (aZ C.aN s.ay y)).2=kB at *
 have aq:∀ c,o.op≠.defer c:=by grind
 have fin:∀ w',(Instr.storeAt ty (a.eval x) (a.eval y)).run C.P w=.ok () w'->cr C (s.fZ wl) a w'->o.wpIn (dQ C.r) 0 C.P a w (λa' w'=>cr C (s.h_ o.dst ⟨(use (aZ C.aN s.ay x)).1/\(use (aZ C.aN s.ay y)).1,True,.undef,wl⟩) a' w') Q:=by
  intro w' E U;refine F8 (w':=w') aq (by simp[execOp,af,E]) ?_;rw[bf];exact U
 unfold RH at lS;cases ad4 with
 | bc b g off=>
  simp only[ao.e0,ao.bL]at lS;split at lS
  ·rename_i aB;split at lS
   ·rename_i n f bR;simp only[Option.bind_eq_some_iff]at lS;obtain⟨l,ai,lS⟩:=lS;split at lS
    ·rename_i hc;simp only[Option.some.injEq]at lS;subst lS;have ad5:=an.2 aB.symm (by rw[bR];rfl);have iD:=KW ai ae;have aS:=M.bB b;unfold cC at aS;rw[bR]at aS;obtain⟨cs,hV,bC,c2,c3⟩:=aS;have hlen:=iD.len;have nY:∀ u∈(a.eval y).cells.toList,u.oneCell'=true:=by
      intro u hu;obtain⟨i,G,rfl⟩:=List.mem_iff_getElem.1 hu;have:=(iD.kU i (by omega)).2;grind
     obtain⟨w',dh,cf,cI,er,lQ,lR,mv⟩:=vr (P:=C.P) (a.eval y).cells.toList off 0 w cs bC (by omega) nY;have cd:(a.eval y).cells.size=(T ty).size:=by grind
     have vs:T ty≠.cS:=by
      intro e;rw[e]at ai;cases kB<;>simp[cellsOf,ab.eF]at ai
     refine fin w' (by rw[ad5];simp[Instr.storeAt,Instr.sureAddr,KZ (aU.cb rfl vs) cd cf]) ⟨κ,F,?_⟩;have gq:fp s.aa κ (λi=>if i=b then (⟨(s.aa b).gen,.cells n (putCells f off l)⟩:bJ) else s.aa i) κ:=
      rf rfl (λ_=>by rw[bR];rfl) (λh=>by cases h) (λh=>by cases h) (λh=>by cases h)
     refine (M.pt (b:=b) (x:=⟨(s.aa b).gen,.cells n (putCells f off l)⟩) (by rw[bR];rfl) rfl gq (λ_=>by rw[bR];rfl) (λh=>by cases h) lQ lR mv λH mW cj he=>?_);have Gf:dh.size=n.size:=by
      rw[<-Array.length_toList,er];grind
     refine⟨dh,hV,cI,Gf,λi G=>?_⟩;have bE:dh.getD i Go.undef=dh.toList.getD i Go.undef:=by simp
     rw[bE,er];have lT:l.length=(a.eval y).cells.toList.length:=hlen;simp only[Nat.add_zero];have kW:(cs.toList.take off).length=off:=by grind
     unfold putCells;by_cases hW:off<=i/\i<off+l.length
     ·rw[if_pos hW];have ax:(cs.toList.take off++((a.eval y).cells.toList++cs.toList.drop (off+(a.eval y).cells.toList.length))).getD i Go.undef=(a.eval y).cells.toList.getD (i - off) Go.undef:=by
       grind
      rw[ax];have:=iD.kU (i - off) (by omega);exact⟨bx.later cj (λ_ M=>M) he this.1,this.2⟩
     ·rw[if_neg hW];have ax:(cs.toList.take off++((a.eval y).cells.toList++cs.toList.drop (off+(a.eval y).cells.toList.length))).getD i Go.undef=cs.getD i Go.undef:=by
       rcases Nat.lt_or_ge i off with E | E
       ·rw[List.getD_eq_getElem?_getD,List.getElem?_append_left (by omega)];simp_all
       ·rw[List.getD_eq_getElem?_getD,List.getElem?_append_right (by omega),kW,List.getElem?_append_right (by omega),List.getElem?_drop];rw[show off+(a.eval y).cells.toList.length+(i - off - (a.eval y).cells.toList.length)=i from by omega];simp
      rw[ax];exact⟨bx.later cj (λ_ M=>M) he (c3 i G).1,(c3 i G).2⟩
    grind
   grind
  grind
 | oF b g i off=>
  simp only[ao.e1,Option.bind_eq_some_iff,ao.run_bind,ao.e0,ao.bL]at lS;obtain⟨⟨z,l⟩,bj,lS⟩:=lS;split at lS
  ·rename_i aB;obtain⟨aB,qw⟩:=aB;have qw:b ∉ l:=by grind
   split at lS
   ·rename_i e xs bR;simp only[Option.map_eq_some_iff]at lS;obtain⟨mw,zN,rfl⟩:=lS;obtain⟨jM,qx,mx⟩:=an.2 aB.symm (by rw[bR];rfl);rw[bR]at jM mx;simp only[bP.len,bP.eZ]at jM mx;obtain⟨F',f1,a_,f2⟩:=bk.lk (mV bj) M;have vt:=mr M.bB f1 bj f2 ae;have K2:((s.cy l).aa b)=s.aa b:=by simp[aA.cy,qw]
    have aS:=a_.bB b;unfold cC at aS;rw[K2,bR]at aS;obtain⟨cs,hV,bC,c2,c3,c4,c5⟩:=aS.2 qx;obtain⟨bh,d1,d2⟩:=c5 i jM;have KQ:xs.getD i e.de=xs[i]:=by grind
    rw[KQ]at zN;have vu:=hR e d2;obtain⟨df,dJ,mX,bp,axY,axZ,ad6⟩:=adl e d2 zN vt.2;have vs:T ty≠.cS:=by
     intro aY;have:=vt.1;rw[aY]at this;exact this
    have xq:(a.eval y).cells.toList.length=(T ty).size:=vt.1.len;have CK:(i+1)*e.size<=(κ b).cap*e.size:=Nat.mul_le_mul_right _ (by omega);have hbound:off+(T ty).size<=e.size:=by
     grind
    have nY:∀ u∈(a.eval y).cells.toList,u.oneCell'=true:=by
     intro u hu;have iD:=zy (P:=C.P) (H:=λ_=>⟨0,.fx⟩) (κ:=λ_=>⟨0,0,0,true⟩) (T ty) vt.2;obtain⟨j,aE,rfl⟩:=List.mem_iff_getElem.1 hu;have:=(iD.kU j (by rw[iD.len];exact aE)).2;grind
    have ll:(κ b).off+i*e.size+off+0+(a.eval y).cells.toList.length<=cs.size:=by
     grind
    obtain⟨w',dh,cf,cI,er,lQ,lR,mv⟩:=vr (P:=C.P) (a.eval y).cells.toList ((κ b).off+i*e.size+off) 0 w cs bC ll nY;refine fin w' (by rw[mx];simp[Instr.storeAt,Instr.sureAddr,KZ (aU.cb rfl vs) (by omega) cf]) ⟨κ,F',?_⟩;have pA:s.fZ ((jJ l).run s.aa++[(b,⟨(s.aa b).gen,.bg e (xs.set i mw)⟩)])=(s.cy l).cw b ⟨(s.aa b).gen,.bg e (xs.set i mw)⟩:=by
     rw[CF,tW]
    rw[pA];have gq:fp (s.cy l).aa κ (λlj=>if lj=b then (⟨(s.aa b).gen,.bg e (xs.set i mw)⟩:bJ) else (s.cy l).aa lj) κ:=
     rf (by grind) (λh=>by cases h) (λ_=>by rw[K2,bR];exact⟨rfl,by simp[bP.len],rfl⟩) (λh=>by cases h) (λh=>by cases h)
    have R_:(κ b).e5=false:=qx;refine a_.pt (b:=b) (x:=⟨(s.aa b).gen,.bg e (xs.set i mw)⟩) (by rw[K2,bR];simp[bP.bY,R_]) (by simp[bP.bY,R_]) gq (λh=>by cases h) (λh=>by cases h) lQ lR mv λH mW cj he=>?_;refine⟨λau=>(by grind),λ_=>?_⟩;have Gf:dh.size=cs.size:=by
     rw[<-Array.length_toList,er];grind
    refine⟨dh,hV,cI,by omega,by grind,c4,λj aE=>?_⟩;have fR:j<xs.length:=by grind
    simp only[Nat.add_zero]at er ll;have eT:∀ k,dh[k]?=if (κ b).off+i*e.size+off<=k/\k<(κ b).off+i*e.size+off+(T ty).size then (a.eval y).cells.toList[k - ((κ b).off+i*e.size+off)]? else cs[k]?:=by
     intro k;rw[<-Array.getElem?_toList,er];have kW:(cs.toList.take ((κ b).off+i*e.size+off)).length=(κ b).off+i*e.size+off:=by grind
     by_cases hW:(κ b).off+i*e.size+off<=k/\k<(κ b).off+i*e.size+off+(T ty).size
     ·rw[if_pos hW,List.getElem?_append_right (by omega),kW,List.getElem?_append_left (by omega)]
     ·rw[if_neg hW];rcases Nat.lt_or_ge k ((κ b).off+i*e.size+off) with E | E
      ·grind
      ·rw[List.getElem?_append_right (by omega),kW,List.getElem?_append_right (by omega),List.getElem?_drop];rw[show (κ b).off+i*e.size+off+(a.eval y).cells.toList.length+(k - ((κ b).off+i*e.size+off) - (a.eval y).cells.toList.length)=k from by omega];simp
    by_cases re:j=i
    ·subst re;have ax:(xs.set j mw)[j]=mw:=by simp
     rw[ax];refine⟨df++((a.eval y).cells.toList++mX),λk al=>?_,fb e (λ_ M=>M) he ad6⟩;rw[eT];subst bp;simp only[List.length_append]at al vu;by_cases hW:off<=k/\k<off+(T ty).size
     ·rw[if_pos (by omega)];rw[show (κ b).off+j*e.size+k - ((κ b).off+j*e.size+off)=k - df.length from by omega];grind
     grind
    ·have ax:(xs.set i mw)[j]=xs[j]:=by grind
     rw[ax];obtain⟨R',ad7,K3⟩:=c5 j fR;refine⟨R',λk al=>?_,fb e (λ_ M=>M) he K3⟩;rw[eT,if_neg]
     ·grind
     ·have ax0:=hR e K3;rcases Nat.lt_or_ge j i with E | E
      ·have:(j+1)*e.size<=i*e.size:=Nat.mul_le_mul_right _ (by omega);grind
      ·have:(i+1)*e.size<=j*e.size:=Nat.mul_le_mul_right _ (by omega);grind
   grind
  grind
 | _=>cases lS
end
end Go.Fer
