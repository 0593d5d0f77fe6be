/- Part 1 of the proof of Answers: shallow programs of Go functions, and what they compute. No condition. -/
import Derived.Below
import Derived.OrdersIn
import Derived.RangeFuncCalls
import Derived.RangeFuncSeq
import Derived.Laws.StructEq
import Derived.Laws.Tables
import Derived.ChangeMaps3
noncomputable section
abbrev z1':=List Int
abbrev z2':=List (Int×Int×Int×Int)
abbrev z3':=List (Int×Int×Int)
abbrev z4':=List (Int×Int)
abbrev z5':=List ((Int×Int×Int)×Int)
abbrev z6':=List (Nat×(Nat×Nat))
abbrev z7':=List (Int×Int×Int×Int×Int×Int)
abbrev z8':=List (Nat×Nat)
abbrev z9':=List (Option Nat)
set_option linter.unusedVariables false
set_option linter.unusedSimpArgs false
namespace Go.Fer
@[ext] structure A (ak:Type):Type where
 b2:Prop
 bR:ak->Prop
namespace A
variable {ak β gB D aJ:Type}
def pure(x:ak):A ak:=⟨True,λy=>y=x⟩
def bind(m:A ak)(f:ak->A β):A β:=⟨m.b2/\∀ x,m.bR x->(f x).b2,λy=>∃ x,m.bR x/\(f x).bR y⟩
def ad(p:Prop)(m:A ak):A ak:=⟨p/\m.b2,m.bR⟩
def dQ(p:Prop)(x:ak):A ak:=⟨p,λy=>y=x⟩
def any(p:ak->Prop):A ak:=⟨∃ x,p x,p⟩
theorem ext'{m n:A ak}(E:m.b2<->n.b2)(U:∀ x,m.bR x<->n.bR x):m=n:=by
 cases m;cases n;simp only[A.mk.injEq];grind
@[simp] theorem hR (x:ak):(pure x).b2=True:=rfl
@[simp] theorem axV (x y:ak):(pure x).bR y=(y=x):=rfl
@[simp] theorem aG (x:ak) (f:ak->A β):bind (pure x) f=f x:=ext' (by simp[bind,pure]) (by simp[bind,pure])
@[simp] theorem axW (m:A ak):bind m pure=m:=ext' (by simp[bind,pure]) (by simp[bind,pure])
theorem bu{p:Prop}(h:p)(m:A ak):ad p m=m:=ext' (by simp[ad,h]) (by simp[ad])
@[simp] theorem bo (m:A ak):ad True m=m:=bu trivial m
theorem FR(p:Prop)(m:A ak)(f:ak->A β):bind (ad p m) f=ad p (bind m f):=ext' (by simp[bind,ad,and_assoc]) (by simp[bind,ad])
@[simp] theorem nS (x:ak):dQ True x=pure x:=rfl
theorem bP{p:Prop}(h:p)(x:ak):dQ p x=pure x:=ext' (by simp_all) (by simp_all)
theorem dH(p:Prop)(x:ak)(f:ak->A β):bind (dQ p x) f=ad p (f x):=by
 apply ext'
 ·simp[bind,dQ,ad]
 ·simp[bind,dQ,ad]
theorem Rv{c:Prop}[Decidable c](m n:A ak)(f:ak->A β):bind (if c then m else n) f=if c then bind m f else bind n f:=by grind
def le(n m:A ak):Prop:=m.b2->n.b2/\∀ y,n.bR y->m.bR y
theorem le_refl(m:A ak):le m m:=λh=>⟨h,λ_ h=>h⟩
theorem le_trans{a b c:A ak}(h:le a b)(k:le b c):le a c:=λaE=>⟨(h (k aE).1).1,λy aS=>(k aE).2 y ((h (k aE).1).2 y aS)⟩
theorem le_of_eq{a b:A ak}(h:a=b):le a b:=h ▸ le_refl a
def cv(m:A ak)(p:ak->Prop):Prop:=m.b2/\∀ y,m.bR y->p y
theorem cv.mono{m:A ak}{p q:ak->Prop}(h:cv m p)(k:∀ y,p y->q y):cv m q:=⟨h.1,λy aS=>k y (h.2 y aS)⟩
theorem d'{x:ak}{p:ak->Prop}:cv (pure x) p<->p x:=⟨λh=>h.2 x rfl,λh=>⟨trivial,λ_ e=>e ▸ h⟩⟩
theorem fZ{m:A ak}{f:ak->A β}{p:β->Prop}:cv (bind m f) p<->cv m λx=>cv (f x) p:=
 ⟨λh=>⟨h.1.1,λx ah=>⟨h.1.2 x ah,λy aS=>h.2 y ⟨x,ah,aS⟩⟩⟩,λh=>⟨⟨h.1,λx ah=>(h.2 x ah).1⟩,λy ⟨x,ah,aS⟩=>(h.2 x ah).2 y aS⟩⟩
theorem kS{q:Prop}{m:A ak}{p:ak->Prop}:cv (ad q m) p<->q/\cv m p:=by
 simp[cv,ad,and_assoc]
inductive V(D aJ:Type) where
 | next (s:D)
 | done (r:aJ)
inductive Cf(body:D->A (V D aJ)):D->Prop where
 | mk (s:D) (h:(body s).b2) (k:∀ s',(body s).bR (.next s')->Cf body s'):Cf body s
inductive zr(body:D->A (V D aJ)):D->aJ->Prop where
 | done (s:D) (r:aJ) (h:(body s).bR (.done r)):zr body s r
 | next (s s':D) (r:aJ) (h:(body s).bR (.next s')) (k:zr body s' r):zr body s r
def loop(body:D->A (V D aJ))(s:D):A aJ:=⟨Cf body s,zr body s⟩
theorem Cg(body:D->A (V D aJ))(s:D) :
  loop body s=bind (body s) fun | .next s'=>loop body s' | .done r=>pure r:=by
 apply ext'
 ·constructor
  ·rintro⟨_,h,k⟩;refine⟨h,λx ah=>?_⟩;cases x with
   | next s'=>exact k s' ah
   | done r=>trivial
  ·rintro⟨h,k⟩;exact⟨s,h,λs' aE=>k _ aE⟩
 ·intro r;constructor
  ·rintro (⟨_,_,h⟩ | ⟨_,s',_,h,k⟩)
   ·exact⟨.done r,h,rfl⟩
   ·exact⟨.next s',h,k⟩
  ·rintro⟨x,ah,M⟩;cases x with
   | next s'=>exact .next s s' r ah M
   | done qo=>cases M;exact .done s _ ah
theorem zt{body:D->A (V D aJ)}{s s':D}(h:body s=pure (.next s')):loop body s=loop body s':=by
 rw[Cg,h,aG]
theorem sg{body:D->A (V D aJ)}{s:D}{r:aJ}(h:body s=pure (.done r)):loop body s=pure r:=by
 rw[Cg,h,aG]
theorem ac_{body:D->A (V D aJ)}{res:aJ}(I:D->Prop)(w_:D->Nat)
  (round:∀ s,I s->(∃ s',body s=pure (.next s')/\I s'/\w_ s'<w_ s)\/body s=pure (.done res)) (s:D) (h:I s) :
  loop body s=pure res:=by
 have key:∀ n s,w_ s=n->I s->loop body s=pure res:=by
  intro n;induction n using Nat.strongRecOn with
  | _ n aI=>
   intro s aw aE;rcases round s aE with⟨s',e,eA,ck⟩ | e
   ·rw[zt e];grind
   ·exact sg e
 grind
theorem Ch{body:D->A (V D aJ)}{p:aJ->Prop}(I:D->Prop)(w_:D->Nat)
  (round:∀ s,I s->cv (body s) fun | .next s'=>I s'/\w_ s'<w_ s | .done r=>p r) (s:D) (h:I s):cv (loop body s) p:=by
 have key:∀ n s,w_ s=n->I s->cv (loop body s) p:=by
  intro n;induction n using Nat.strongRecOn with
  | _ n aI=>
   intro s aw aE;rw[Cg,fZ];refine (round s aE).mono λy aS=>?_;cases y with
   | next s'=>grind
   | done r=>exact d'.2 aS
 grind
end A
end Go.Fer
namespace Go.Fer
def Rw(b:Nat)(c:Nat->Option Value):Prop:=
 match b with
 | 0=>∃ m,c 0=some (.int .i64 m)
 | 1 | 2=>∃ v,c 0=some v/\(v=.nilIface\/∃ lK mn,v=.iface lK mn)
 | 5=>∀ i,c i=if i<20 then some (.int .u64 (10 ^ i)) else none
 | _=>True
end Go.Fer
namespace Go.Fer
open Go.RowKit
inductive ab where
 | bool | int (k:IntKind) | str | cT
 | st (t:ab) | aA (a b:ab)
 | slice (e:ab) | array (n:Nat) (e:ab) | bH (e:ab) | map (k v:ab) | fn (a b:ab) | cr (a:ab) | eo
 deriving DecidableEq
@[reducible] def ab.aj:ab->Type
 | .bool=>Bool
 | .int _=>Int
 | .str=>List UInt8
 | .cT=>Unit
 | .st t=>t.aj
 | .aA a b=>a.aj×b.aj
 | .slice e=>List e.aj
 | .array _ e=>List e.aj
 | .bH e=>Option e.aj
 | .map k v=>List (k.aj×v.aj)
 | .fn a b=>a.aj->A b.aj
 | .cr a=>List a.aj->Prop
 | .eo=>Option Nat
def ab.df:(t:ab)->t.aj
 | .bool=>false
 | .int _=>(0:Int)
 | .str=>[]
 | .cT=>()
 | .st t=>t.df
 | .aA a b=>(a.df,b.df)
 | .slice _=>[]
 | .array n e=>List.replicate n e.df
 | .bH _=>none
 | .map _ _=>[]
 | .fn _ _=>λ_=>⟨False,λ_=>False⟩
 | .cr _=>λ_=>False
 | .eo=>none
def ab.size:ab->Nat
 | .cT=>0
 | .st t=>t.size
 | .aA a b=>a.size+b.size
 | .array n e=>n*e.size
 | _=>1
def ab.eG:ab->Bool
 | .cT | .st _ | .aA _ _ | .array _ _=>false
 | _=>true
def fR(k:IntKind)(n:Int):Prop:=k.min<=n/\n<=k.max
instance (k:IntKind) (n:Int):Decidable (fR k n):=inferInstanceAs (Decidable (_/\_))
def Holds(F:Nat->Prop)(w:World)(p:Addr)(cs:List Value):Prop:=
 F p.block/\p.spot=none/\∀ j (h:j<cs.length),w.cell? ⟨p.block,p.off+j,none⟩=some cs[j]
def c6(F:Nat->Prop)(w w':World):Prop:=w.heap.size<=w'.heap.size/\∀ r,F r->w'.heap[r]?=w.heap[r]?
theorem c6.refl(F:Nat->Prop)(w:World):c6 F w w:=⟨Nat.le_refl _,λ_ _=>rfl⟩
theorem c6.trans{F F':Nat->Prop}{a b c:World}(h:c6 F a b)(bn:∀ r,F r->F' r)(k:c6 F' b c):c6 F a c:=
 ⟨Nat.le_trans h.1 k.1,λr M=>(k.2 r (bn r M)).trans (h.2 r M)⟩
theorem c6.cell{F:Nat->Prop}{w w':World}(h:c6 F w w'){a:Addr}(a_:F a.block):w'.cell? a=w.cell? a:=by
 simp only[World.cell?,h.2 _ a_]
def nT(P:Program)(F:Nat->Prop)(w:World):Prop:=∀ b,b<P.globals.size->F b/\Rw b λi=>w.cell? ⟨b,i,none⟩
theorem nT.mono{P:Program}{F F':Nat->Prop}{w w':World}(h:nT P F w)(bn:∀ r,F r->F' r)(he:c6 F w w'):nT P F' w':=λb W=>by
 obtain⟨E,U⟩:=h b W;have e:(λi=>w'.cell? ⟨b,i,none⟩)=λi=>w.cell? ⟨b,i,none⟩:=funext λi=>he.cell (a:=⟨b,i,none⟩) E;exact⟨bn b E,e ▸ U⟩
theorem Holds.mono{F F':Nat->Prop}{w w':World}{p:Addr}{cs:List Value}(h:Holds F w p cs)(bn:∀ r,F r->F' r)(he:c6 F w w'):Holds F' w' p cs:=
 ⟨bn _ h.1,h.2.1,λj aF=>(he.cell (a:=⟨p.block,p.off+j,none⟩) h.1).trans (h.2.2 j aF)⟩
def kT:ab->Value->Prop
 | .st t,v=>∃ cs:Array Value,v=.agg cs/\cs.size=t.size
 | .array n e,v=>∃ cs:Array Value,v=.agg cs/\cs.size=n*e.size
 | .cT,_=>False
 | .aA _ _,_=>False
 | _,v=>v.cells=#[v]
def eh(aD:List Value):List Value:=aD.flatMap (·.cells.toList)
@[simp] theorem ac':eh []=[]:=rfl
@[simp] theorem KA (v:Value) (aD:List Value):eh (v::aD)=v.cells.toList++eh aD:=rfl
def xa:ab->List Value->Prop
 | .aA a b,v::aD=>kT a v/\xa b aD
 | .aA _ _,[]=>False
 | .cT,aD=>aD=[]
 | t,aD=>∃ v,aD=[v]/\kT t v
def zu:ab->Value->List Value->Prop
 | .aA _ _,v,aD=>v=.tuple aD.toArray
 | .cT,v,aD=>v=.tuple #[]/\aD=[]
 | _,v,aD=>aD=[v]
def vk(F:Nat->Prop)(w w':World):Nat->Prop:=λr=>F r\/(w.heap.size<=r/\r<w'.heap.size)
structure FT(P:Program){ak:Type}(R:(Nat->Prop)->World->List Value->ak->Prop)(l:Nat)(S:List ak->Prop)(I:List ak->Bool->(Nat->Prop)->(Nat->Prop)->World->Prop):Prop where
 Ci:∀ {pre st} {F F' Y:Nat->Prop} {w w':World},I pre st F Y w->(∀ r,F r->F' r)->(∀ r,F r\/Y r->w'.heap[r]?=w.heap[r]?)->w.heap.size<=w'.heap.size->w'.os=w.os/\w'.tape=w.tape/\w'.output=w.output->(∀ r,F' r->r<w'.heap.size)->(∀ r,F' r->¬Y r)->I pre st F' Y w'
 yield:∀ {pre} {F Y:Nat->Prop} {w:World} {args:List Value} {x:ak},I pre false F Y w->(∀ r,F r->r<w.heap.size)->(∀ r,Y r->r<w.heap.size/\¬F r)->(∃ T,S (pre++x::T))->R F w args x->
  YieldAt Fence.wide 0 P l args.toArray w λe w'=>∃ (b:Bool) (F' gC:Nat->Prop),e=.returned (.bool b)/\(∀ r,F r->F' r)/\(∀ r,F' r->F r\/Y r\/w.heap.size<=r)/\(∀ r,F' r->r<w'.heap.size)/\
   (∀ r,r<w.heap.size->¬Y r->w'.heap[r]?=w.heap[r]?)/\(∀ r,gC r->(Y r\/w.heap.size<=r)/\r<w'.heap.size/\¬F' r)/\w.heap.size<=w'.heap.size/\(w'.os=w.os/\w'.tape=w.tape/\w'.output=w.output)/\I (pre++[x]) (!b) F' gC w'
def Rx{ak:Type}(S:List ak->Prop)(I:List ak->Bool->(Nat->Prop)->(Nat->Prop)->World->Prop)(F Y:Nat->Prop)(w:World)(e:Ending)(w':World):Prop:=
 ∃ v pre st F' gC,e=.returned v/\(st=false->S pre)/\I pre st F' gC w'/\(∀ r,F r->F' r)/\(∀ r,F' r->F r\/Y r\/w.heap.size<=r)/\(∀ r,F' r->r<w'.heap.size)/\
  (∀ r,r<w.heap.size->¬Y r->w'.heap[r]?=w.heap[r]?)/\(∀ r,gC r->(Y r\/w.heap.size<=r)/\r<w'.heap.size/\¬F' r)/\w.heap.size<=w'.heap.size/\(w'.os=w.os/\w'.tape=w.tape/\w'.output=w.output)
def ada:Option Nat->Value
 | none=>.nilFunc
 | some k=>.func (.func k) #[] #[]
def bI(P:Program):(t:ab)->(Nat->Prop)->World->List Value->t.aj->Prop
 | .bool,_,_,cs,x=>cs=[.bool x]
 | .int k,_,_,cs,x=>cs=[.int k x]/\fR k x
 | .str,_,_,cs,x=>cs=[.string ⟨x.toArray⟩]/\x.length<2 ^ 63
 | .cT,_,_,cs,_=>cs=[]
 | .st t,F,w,cs,x=>bI P t F w cs x
 | .aA a b,F,w,cs,x=>∃ c d,cs=c++d/\bI P a F w c x.1/\bI P b F w d x.2
 | .slice e,F,w,cs,xs=>∃ a cap,cs=[.slice a xs.length cap]/\xs.length<=cap/\cap<2 ^ 63/\(a=none->cap=0)/\
   ∀ p,a=some p->0<cap->F p.block/\p.spot=none/\∀ i (h:i<xs.length),∃ bj,Holds F w ⟨p.block,p.off+i*e.size,none⟩ bj/\bI P e F w bj xs[i]
 | .array n e,F,w,cs,xs=>∃ fo:List (List Value),cs=fo.flatten/\fo.length=n/\xs.length=n/\∀ i (h:i<xs.length) (dt:i<fo.length),bI P e F w fo[i] xs[i]
 | .bH e,F,w,cs,x=>(cs=[.pointer none]/\x=none)\/∃ p y bj,cs=[.pointer (some p)]/\x=some y/\Holds F w p bj/\bI P e F w bj y
 | .map k v,F,w,cs,xs=>(cs=[.map none]/\xs=[])\/∃ r es clk,cs=[.map (some r)]/\F r/\w.heap[r]?=some (.map es clk)/\es.size=xs.length/\(xs.map (·.1)).Nodup/\
   (∀ i (h:i<xs.length) (dt:i<es.size),kT k es[i].key/\bI P k F w es[i].key.cells.toList xs[i].1/\kT v es[i].val/\bI P v F w es[i].val.cells.toList xs[i].2/\es[i].born<clk)/\
   (∀ i j (h:i<es.size) (dt:j<es.size),es[i].born=es[j].born->i=j)
 | .fn a b,F,w,cs,f=>∃ u,cs=[u]/\(u.cells=#[u]/\u.oneCell'=true)/\∀ (F':Nat->Prop) (w':World),(∀ r,F r->F' r)->c6 F w w'->(∀ r,F' r->r<w'.heap.size)->nT P F' w'->
   ∀ args x,xa a args->bI P a F' w' (eh args) x->(f x).b2->∃ g c1,u=.func (.func g) #[] c1/\(∀ as w,(callFunc g as).run P w=.ok (.enter g as) w)/\
    Calls P g (args.toArray++c1) w' λe tP=>∃ v y aD,e=.returned v/\(f x).bR y/\zu b v aD/\xa b aD/\bI P b (vk F' w' tP) tP (eh aD) y/\Below w'.heap.size w' tP
 | .cr a,F,w,cs,S=>∃ u,cs=[u]/\(u.cells=#[u]/\u.oneCell'=true)/\∀ (F':Nat->Prop) (w':World),(∀ r,F r->F' r)->c6 F w w'->(∀ r,F' r->r<w'.heap.size)->nT P F' w'->
   (∃ L,S L)->∃ g c1,u=.func (.func g) #[] c1/\(∀ as w,(callFunc g as).run P w=.ok (.enter g as) w)/\
    ∀ (l:Nat) (I:List a.aj->Bool->(Nat->Prop)->(Nat->Prop)->World->Prop) (Y:Nat->Prop),(∀ r,Y r->r<w'.heap.size/\¬F' r)->
     FT P (λF w args x=>xa a args/\bI P a F w (eh args) x) l S I->I [] false F' Y w'->Calls P g (#[Value.func (.yield l) #[] #[]]++c1) w' (Rx S I F' Y w')
 | .eo,_,_,cs,x=>cs=[ada x]
theorem hS{P:Program}:∀ (t:ab) {F:Nat->Prop} {w:World} {cs:List Value} {x:t.aj},bI P t F w cs x->cs.length=t.size:=by
 intro t;induction t with
 | bool=>intro F w cs x h;simp only[bI]at h;simp[h,ab.size]
 | int k=>intro F w cs x h;simp only[bI]at h;simp[h.1,ab.size]
 | str=>intro F w cs x h;simp only[bI]at h;simp[h.1,ab.size]
 | cT=>intro F w cs x h;simp only[bI]at h;simp[h,ab.size]
 | st t aI=>intro F w cs x h;simp only[bI]at h;exact aI h
 | aA a b fx eK=>
  intro F w cs x h;simp only[bI]at h;obtain⟨c,d,rfl,a_,W⟩:=h;simp[ab.size,fx a_,eK W]
 | slice e aI=>intro F w cs x h;simp only[bI]at h;obtain⟨a,cap,rfl,_⟩:=h;rfl
 | array n e aI=>
  intro F w cs x h;simp only[bI]at h;obtain⟨fo,rfl,E,U,ag⟩:=h;have:∀ l∈fo,l.length=e.size:=by
   intro l ai;obtain⟨i,G,rfl⟩:=List.mem_iff_getElem.1 ai;grind
  have a7:fo.map List.length=List.replicate n e.size:=by
   rw[<-E];exact List.eq_replicate_iff.2 ⟨by simp,by grind⟩
  simp[List.length_flatten,a7,ab.size]
 | bH e aI=>intro F w cs x h;simp only[bI]at h;rcases h with⟨rfl,_⟩ | ⟨p,y,bj,rfl,_⟩<;>rfl
 | map k v xb xc=>intro F w cs x h;simp only[bI]at h;rcases h with⟨rfl,_⟩ | ⟨r,es,clk,rfl,_⟩<;>rfl
 | fn a b fx eK=>intro F w cs x h;simp only[bI]at h;obtain⟨u,rfl,_⟩:=h;rfl
 | cr a aI=>intro F w cs x h;simp only[bI]at h;obtain⟨u,rfl,_⟩:=h;rfl
 | eo=>intro F w cs x h;simp only[bI]at h;subst h;rfl
theorem fc{P:Program}:∀ (t:ab) {F F':Nat->Prop} {w w':World} {cs:List Value} {x:t.aj},(∀ r,F r->F' r)->c6 F w w'->bI P t F w cs x->bI P t F' w' cs x:=by
 intro t;induction t with
 | bool=>intro F F' w w' cs x _ _ h;exact h
 | int k=>intro F F' w w' cs x _ _ h;exact h
 | str=>intro F F' w w' cs x _ _ h;exact h
 | cT=>intro F F' w w' cs x _ _ h;exact h
 | st t aI=>intro F F' w w' cs x bn he h;simp only[bI]at h ⊢;grind
 | aA a b fx eK=>
  intro F F' w w' cs x bn he h;simp only[bI]at h ⊢;grind
 | slice e aI=>
  intro F F' w w' cs x bn he h;simp only[bI]at h ⊢;obtain⟨a,cap,rfl,E,U,ag,a7⟩:=h;refine⟨a,cap,rfl,E,U,ag,λp ao hc=>?_⟩;obtain⟨aR,aW,bL⟩:=a7 p ao hc;refine⟨bn _ aR,aW,λi G=>?_⟩;obtain⟨bj,m1,m2⟩:=bL i G;exact⟨bj,m1.mono bn he,aI bn he m2⟩
 | array n e aI=>
  intro F F' w w' cs x bn he h;simp only[bI]at h ⊢;grind
 | bH e aI=>
  intro F F' w w' cs x bn he h;simp only[bI]at h ⊢;rcases h with h | ⟨p,y,bj,E,U,ag,a7⟩
  ·grind
  ·exact .inr ⟨p,y,bj,E,U,ag.mono bn he,aI bn he a7⟩
 | map k v xb xc=>
  intro F F' w w' cs x bn he h;simp only[bI]at h ⊢;rcases h with h | ⟨r,es,clk,E,U,ag,a7,bN,du,gL⟩
  ·grind
  ·refine .inr ⟨r,es,clk,E,bn _ U,(he.2 _ U).trans ag,a7,bN,λi G dJ=>?_,gL⟩;grind
 | fn a b fx eK=>
  intro F F' w w' cs x bn he h;simp only[bI]at h ⊢;obtain⟨u,rfl,hu,E⟩:=h;exact⟨u,rfl,hu,λKB tP tQ Cj aE=>E KB tP (λr M=>tQ r (bn r M)) (he.trans bn Cj) aE⟩
 | cr a aI=>
  intro F F' w w' cs x bn he h;simp only[bI]at h ⊢;obtain⟨u,rfl,hu,E⟩:=h;exact⟨u,rfl,hu,λKB tP tQ Cj aE=>E KB tP (λr M=>tQ r (bn r M)) (he.trans bn Cj) aE⟩
 | eo=>intro F F' w w' cs x _ _ h;exact h
def ep(P:Program)(t:ab)(F:Nat->Prop)(w:World)(v:Value)(x:t.aj):Prop:=kT t v/\bI P t F w v.cells.toList x
def fp(P:Program)(t:ab)(F:Nat->Prop)(w:World)(aD:List Value)(x:t.aj):Prop:=xa t aD/\bI P t F w (eh aD) x
def tR(P:Program)(t:ab)(F:Nat->Prop)(w:World)(v:Value)(x:t.aj):Prop:=∃ aD,zu t v aD/\fp P t F w aD x
theorem ep.mono{P:Program}{t:ab}{F F':Nat->Prop}{w w':World}{v:Value}{x:t.aj}(h:ep P t F w v x)(bn:∀ r,F r->F' r)(he:c6 F w w'):ep P t F' w' v x:=
 ⟨h.1,fc t bn he h.2⟩
theorem FU{v:Value}(h:v.oneCell'=true):v.cells=#[v]:=by
 cases v<;>first | rfl | cases h
theorem Ry{v:Value}(h:v.cells=#[v]):v.cells.toList=[v]:=by rw[h]
theorem kT.len{t:ab}{v:Value}(h:kT t v):v.cells.toList.length=t.size:=by
 cases t<;>simp only[kT]at h<;>first
  | (obtain⟨cs,rfl,h⟩:=h;simpa [Value.cells,ab.size]using h)
  | (rw[Ry h];rfl)
  | exact h.elim
theorem Ck{P:Program}{a b:ab}{F:Nat->Prop}{w:World}{v:Value}{aD:List Value}{x:a.aj}{y:b.aj} :
  fp P (.aA a b) F w (v::aD) (x,y)<->ep P a F w v x/\fp P b F w aD y:=by
 constructor
 ·rintro⟨⟨E,U⟩,c,d,e,hc,ar⟩;have ai:=hS a hc;have:=List.append_inj e (by rw[ai];exact E.len);rw[KA]at e;obtain⟨ay,aP⟩:=this;subst ay;subst aP;exact⟨⟨E,hc⟩,U,ar⟩
 ·rintro⟨⟨E,U⟩,ag,a7⟩;exact⟨⟨E,ag⟩,_,_,rfl,U,a7⟩
theorem FV{P:Program}{a b:ab}{F:Nat->Prop}{w:World}{aD:List Value}{x:(ab.aA a b).aj}(h:fp P (.aA a b) F w aD x) :
  ∃ v us,aD=v::us/\ep P a F w v x.1/\fp P b F w us x.2:=by
 cases aD with
 | nil=>exact h.1.elim
 | cons v us=>exact⟨v,us,rfl,Ck.1 h⟩
def ab.gD:ab->Bool
 | .aA _ _ | .cT=>false
 | _=>true
theorem si{P:Program}{t:ab}(aM:t.gD=true){F:Nat->Prop}{w:World}{aD:List Value}{x:t.aj} :
  fp P t F w aD x<->∃ v,aD=[v]/\ep P t F w v x:=by
 have key:xa t aD<->∃ v,aD=[v]/\kT t v:=by cases t<;>simp[ab.gD,xa]at aM ⊢
 unfold fp ep;rw[key];constructor
 ·rintro⟨⟨v,rfl,ae⟩,h⟩;exact⟨v,rfl,ae,by simpa using h⟩
 ·rintro⟨v,rfl,ae,h⟩;exact⟨⟨v,rfl,ae⟩,by simpa using h⟩
section
variable {P:Program} {F:Nat->Prop} {w:World} {v:Value}
@[simp] theorem fe {x:Bool}:ep P .bool F w v x<->v=.bool x:=by
 constructor
 ·rintro⟨E,U⟩;simp only[kT]at E;simp only[bI]at U;rw[Ry E]at U;simpa using U
 ·rintro rfl;exact⟨by simp[kT,Value.cells],by simp[bI,Value.cells]⟩
theorem gV{k:IntKind}{x:Int}:ep P (.int k) F w v x<->v=.int k x/\fR k x:=by
 constructor
 ·rintro⟨E,U⟩;simp only[kT]at E;simp only[bI]at U;grind
 ·rintro⟨rfl,h⟩;exact⟨by rfl,by simpa [bI,Value.cells]using h⟩
theorem mo{x:List UInt8}:ep P .str F w v x<->v=.string ⟨x.toArray⟩/\x.length<2 ^ 63:=by
 constructor
 ·rintro⟨E,U⟩;simp only[kT]at E;simp only[bI]at U;grind
 ·rintro⟨rfl,h⟩;exact⟨by rfl,by simpa [bI,Value.cells]using h⟩
theorem dU{t:ab}(aM:t.eG=true){x:t.aj}:ep P t F w v x<->v.cells=#[v]/\bI P t F w [v] x:=by
 have E:kT t v<->v.cells=#[v]:=by cases t<;>simp[ab.eG,kT]at aM ⊢
 unfold ep;grind
theorem KC{t:ab}(aM:t.eG=true){F:Nat->Prop}{w:World}{u:Value}{x:t.aj}(h:bI P t F w [u] x):u.oneCell'=true:=by
 cases t<;>simp only[ab.eG,bI]at aM h<;>try contradiction
 ·obtain rfl:=(List.cons.inj h).1;rfl
 ·obtain rfl:=(List.cons.inj h.1).1;rfl
 ·obtain rfl:=(List.cons.inj h.1).1;rfl
 ·obtain⟨a,cap,h,_⟩:=h;obtain rfl:=(List.cons.inj h).1;rfl
 ·rcases h with⟨h,_⟩ | ⟨p,y,bj,h,_⟩<;>(obtain rfl:=(List.cons.inj h).1;rfl)
 ·rcases h with⟨h,_⟩ | ⟨r,es,clk,h,_⟩<;>(obtain rfl:=(List.cons.inj h).1;rfl)
 ·obtain⟨mR,h,hu,_⟩:=h;obtain rfl:=(List.cons.inj h).1;exact hu.2
 ·obtain⟨mR,h,hu,_⟩:=h;obtain rfl:=(List.cons.inj h).1;exact hu.2
 ·obtain rfl:=(List.cons.inj h).1;cases x<;>rfl
theorem Cl{t:ab}(aM:t.eG=true){F:Nat->Prop}{w:World}{cs:List Value}{x:t.aj}(h:bI P t F w cs x):∃ u,cs=[u]/\u.cells=#[u]:=by
 cases t<;>simp only[ab.eG,bI]at aM h<;>try contradiction
 ·exact⟨_,h,rfl⟩
 ·exact⟨_,h.1,rfl⟩
 ·exact⟨_,h.1,rfl⟩
 ·obtain⟨a,cap,rfl,_⟩:=h;exact⟨_,rfl,rfl⟩
 ·rcases h with⟨rfl,_⟩ | ⟨p,y,bj,rfl,_⟩<;>exact⟨_,rfl,rfl⟩
 ·rcases h with⟨rfl,_⟩ | ⟨r,es,clk,rfl,_⟩<;>exact⟨_,rfl,rfl⟩
 ·obtain⟨u,rfl,hu,_⟩:=h;exact⟨u,rfl,hu.1⟩
 ·obtain⟨u,rfl,hu,_⟩:=h;exact⟨u,rfl,hu.1⟩
 ·exact⟨_,h,by cases x<;>rfl⟩
end
structure h7(P:Program)(k:FuncId)(ts aX:ab)(sh:ts.aj->A aX.aj):Prop where
 enter:∀ args w,(callFunc k args).run P w=.ok (.enter k args) w
 iW:∀ (F:Nat->Prop) (w:World) (args:List Value) (x:ts.aj),(∀ r,F r->r<w.heap.size)->nT P F w->fp P ts F w args x->(sh x).b2->
  Calls P k args.toArray w λe w'=>∃ v y,e=.returned v/\(sh x).bR y/\tR P aX (vk F w w') w' v y/\Below w.heap.size w w'
structure Rz(P:Program)(k:FuncId)(ts aX:ab)(sh:ts.aj->A aX.aj):Prop where
 iW:∀ (F:Nat->Prop) (w:World) (args:List Value) (x:ts.aj),(∀ r,F r->r<w.heap.size)->nT P F w->fp P ts F w args x->(sh x).b2->
  Calls P k args.toArray w λe w'=>∃ v y,e=.returned v/\(sh x).bR y/\tR P aX (λr=>w.heap.size<=r/\r<w'.heap.size) w' v y/\Below w.heap.size w w'
def gi:List ab->ab
 | []=>.cT
 | [t]=>t
 | t::u::l=>.aA t (gi (u::l))
def FW:(as bs:List ab)->(gi as).aj->(gi bs).aj->(gi (as++bs)).aj
 | [],_,_,y=>y
 | [_],[],x,_=>x
 | [_],_::_,x,y=>(x,y)
 | _::u::l,bs,x,y=>(x.1,FW (u::l) bs x.2 y)
theorem RA{P:Program}{F:Nat->Prop}{w:World}:∀ (as bs:List ab),as.all ab.gD=true->∀ {aD us:List Value} {x:(gi as).aj} {y:(gi bs).aj},fp P (gi as) F w aD x->fp P (gi bs) F w us y->fp P (gi (as++bs)) F w (aD++us) (FW as bs x y)
 | [],bs,_,aD,us,x,y,E,U=>by
  obtain rfl:aD=[]:=E.1;exact U
 | [t],[],_,aD,us,x,y,E,U=>by
  obtain rfl:us=[]:=U.1;have e:aD++[]=aD:=List.append_nil aD;rw[e];exact E
 | [t],b::bs,h,aD,us,x,y,E,U=>by
  have aM:t.gD=true:=by grind
  obtain⟨v,rfl,ae⟩:=(si aM).1 E;exact Ck.2 ⟨ae,U⟩
 | t::u::l,bs,h,aD,us,x,y,E,U=>by
  obtain⟨v,sj,rfl,ag,a7⟩:=FV (a:=t) (b:=gi (u::l)) E;have ai:(u::l).all ab.gD=true:=by
   grind
  have:=RA (u::l) bs ai a7 U;exact Ck.2 ⟨ag,this⟩
structure adb where
 ts:ab
 aX:ab
 sh:ts.aj->A aX.aj
structure FX where
 as:List ab
 cs:List ab
 aX:ab
 sh:(gi (as++cs.map .bH)).aj->A aX.aj
structure xd where
 cs:List ab
 aK:ab
 S:(gi (cs.map .bH)).aj->List aK.aj->Prop
structure xe(P:Program)(k:FuncId)(v:xd):Prop where
 enter:∀ args w,(callFunc k args).run P w=.ok (.enter k args) w
 iW:∀ (F:Nat->Prop) (w:World) (c1:List Value) (x:(gi (v.cs.map .bH)).aj),(∀ r,F r->r<w.heap.size)->nT P F w->fp P (gi (v.cs.map .bH)) F w c1 x->(∃ L,v.S x L)->
  ∀ (l:Nat) (I:List v.aK.aj->Bool->(Nat->Prop)->(Nat->Prop)->World->Prop) (Y:Nat->Prop),(∀ r,Y r->r<w.heap.size/\¬F r)->
   FT P (fp P v.aK) l (v.S x) I->I [] false F Y w->Calls P k (#[Value.func (.yield l) #[] #[]]++c1.toArray) w (Rx (v.S x) I F Y w)
structure dD where
 tS:Nat->Option adb
 tT:Nat->Option FX
 xf:Nat->Option xd:=λ_=>none
structure ri(P:Program)(aQ:dD):Prop where
 tS:∀ k v,aQ.tS k=some v->h7 P k v.ts v.aX v.sh
 tT:∀ k v,aQ.tT k=some v->v.as.all ab.gD=true/\h7 P k (gi (v.as++v.cs.map .bH)) v.aX v.sh
 xf:∀ k v,aQ.xf k=some v->xe P k v:=by intro k v h;cases h
theorem ade{P:Program}{k:FuncId}{ts aX:ab}{sh:ts.aj->A aX.aj}(h:h7 P k ts aX sh)(F:Nat->Prop)(w:World):bI P (.fn ts aX) F w [.func (.func k) #[] #[]] sh:=by
 refine⟨_,rfl,⟨rfl,rfl⟩,λF' w' _ _ aE aC args x E U ag=>⟨k,#[],rfl,h.enter,?_⟩⟩;have:=h.iW F' w' args x aE aC ⟨E,U⟩ ag;simp only[Array.append_empty];exact this.mono λe tP ⟨v,y,ay,aP,⟨aD,cw,ed,gW⟩,j8⟩=>⟨v,y,aD,ay,aP,cw,ed,gW,j8⟩
end Go.Fer
namespace Go.Fer
open Go.RowKit
inductive aH where
 | undef
 | val (t:ab) (x:t.aj)
 | hE (b:Bool) (a:aH)
 | bd (b g off:Nat)
 | an (b g:Nat)
 | oH (b g i off:Nat)
 | dV (t:ab) (x:t.aj)
 | fH (b g:Nat)
 | iC (k:FuncId) (n:Nat) (c1:Nat->aH)
 | sk (k:FuncId) (n:Nat) (first:Nat->aH)
 | qp (n:Nat) (f:Nat->aH)
 | agg (n:Nat) (f:Nat->aH)
 | dn
 | jF (v:Value)
 | j9 (b g:Nat)
 | aX (l:Nat) (aK:ab) (S:List aK.aj->Prop) (pre:List aK.aj) (st:Bool)
 | hh (l:Nat)
 | sub (b g aY G:Nat)
 | xg (e:ab) (xs:List e.aj)
 | iX (b g i:Nat)
inductive bQ where
 | fy
 | cells (t:ab) (f:Nat->aH)
 | bh (e:ab) (xs:List e.aj)
 | hF (e:ab) (xs:List e.aj)
 | mp (k v:ab) (es:List (k.aj×v.aj))
 | gM (t:ab) (x:t.aj)
 | jl (k v:ab) (es:List (k.aj×v.aj))
 | cr (k v:ab) (cur:Option (k.aj×v.aj)) (cm:List (k.aj×v.aj))
 | gj (e:ab) (xs:List e.aj) (i:Nat) (v:aH)
structure bK where
 gen:Nat
 body:bQ
structure bB where
 aa:Nat
 off:Nat
 cap:Nat
 e6:Bool
structure aB where
 az:Nat->aH
 aa:Nat->bK
def bQ.fI:bQ->Bool | .cells _ _=>true | .gM _ _=>true | _=>false
def bQ.ff:bQ->Bool | .bh _ _=>true | .hF _ _=>true | .gj _ _ _ _=>true | _=>false
def bQ.gX:bQ->Bool | .mp _ _ _=>true | .jl _ _ _=>true | _=>false
def bQ.mS:bQ->Bool | .cr _ _ _ _=>true | _=>false
def bQ.len:bQ->Nat | .bh _ xs=>xs.length | .hF _ xs=>xs.length | .gj _ xs _ _=>xs.length | _=>0
def bQ.e0:bQ->Nat | .bh e _=>e.size | .hF e _=>e.size | .gj e _ _ _=>e.size | _=>0
def bQ.bZ(k:bB):bQ->Bool | .cells _ _=>true | .bh _ _=>!k.e6 | .mp _ _ _=>true | .cr _ _ _ _=>true | .gj _ _ _ _=>!k.e6 | _=>false
def bB.slice(k:bB)(n:Nat):Value:=if k.e6 then .slice none 0 0 else .slice (some ⟨k.aa,k.off,none⟩) n k.cap
def FY(k:bB)(e0 aY G:Nat)(v:Value):Prop:=
 (k.e6=true/\v=.slice none 0 0)\/(k.e6=false/\∃ o,v=.slice (some ⟨k.aa,o,none⟩) (G - aY) (k.cap - aY)/\o<=k.off+aY*e0/\(aY<k.cap->o=k.off+aY*e0))
def bz(P:Program)(H:Nat->bK)(κ:Nat->bB)(F:Nat->Prop)(w:World):aH->Value->Prop
 | .undef,_=>True
 | .val t x,v=>ep P t F w v x
 | .hE b a,v=>(b=true->bz P H κ F w a v)/\(b=false->v=Go.undef)
 | .bd b g off,v=>(g<=(H b).gen/\v.oneCell'=true)/\(g=(H b).gen->(H b).body.fI=true->v=.pointer (some ⟨(κ b).aa,off,none⟩))
 | .an b g,v=>(g<=(H b).gen/\v.oneCell'=true)/\(g=(H b).gen->(H b).body.ff=true->v=(κ b).slice (H b).body.len)
 | .oH b g i off,v=>(g<=(H b).gen/\v.oneCell'=true)/\(g=(H b).gen->(H b).body.ff=true->i<(H b).body.len/\(κ b).e6=false/\v=.pointer (some ⟨(κ b).aa,(κ b).off+i*(H b).body.e0+off,none⟩))
 | .iX b g i,v=>(g<=(H b).gen/\v.oneCell'=true)/\(g=(H b).gen->(H b).body.ff=true->i<(H b).body.len/\(κ b).e6=false/\v=.pointer (some ⟨(κ b).aa,(κ b).off+i*(H b).body.e0,none⟩))
 | .dV t x,v=>∃ p bj,v=.pointer (some p)/\Holds F w p bj/\bI P t F w bj x
 | .fH b g,v=>(g<=(H b).gen/\v.oneCell'=true)/\(g=(H b).gen->(H b).body.gX=true->v=.map (some (κ b).aa))
 | .iC k n c1,v=>∃ aD:List Value,v=.func (.func k) #[] aD.toArray/\aD.length=n/\∀ i,i<n->bz P H κ F w (c1 i) (aD.getD i Go.undef)
 | .sk k n f,v=>∃ aD:List Value,v=.func (.func k) aD.toArray #[]/\aD.length=n/\∀ i,i<n->bz P H κ F w (f i) (aD.getD i Go.undef)
 | .qp n f,v=>∃ aD:List Value,v=.tuple aD.toArray/\aD.length=n/\∀ i,i<n->bz P H κ F w (f i) (aD.getD i Go.undef)
 | .agg n f,v=>∃ aD:List Value,v=.agg aD.toArray/\aD.length=n/\∀ i,i<n->bz P H κ F w (f i) (aD.getD i Go.undef)/\(aD.getD i Go.undef).oneCell'=true
 | .dn,v=>v=.slice none 0 0
 | .jF u,v=>v=u
 | .j9 b g,v=>(g<=(H b).gen/\v.oneCell'=true)/\(g=(H b).gen->(H b).body.mS=true->v=.pointer (some ⟨(κ b).aa,0,none⟩))
 | .aX _ _ _ _ _,_=>True
 | .hh l,v=>v=.func (.yield l) #[] #[]
 | .xg e xs,v=>ep P (.slice e) F w v xs/\∃ q,v=.slice q xs.length xs.length
 | .sub b g aY G,v=>(g<=(H b).gen/\v.oneCell'=true)/\(g=(H b).gen->(H b).body.ff=true->(aY<=G/\G<=(H b).body.len)/\FY (κ b) (H b).body.e0 aY G v)
def fq(H:Nat->bK)(κ:Nat->bB)(H':Nat->bK)(κ':Nat->bB):Prop:=
 ∀ b,(H b).gen<=(H' b).gen/\((H b).gen=(H' b).gen->
  ((H' b).body.fI=true->(H b).body.fI=true/\(κ' b).aa=(κ b).aa)/\
  ((H' b).body.ff=true->(H b).body.ff=true/\κ' b=κ b/\(H' b).body.len=(H b).body.len/\(H' b).body.e0=(H b).body.e0)/\
  ((H' b).body.gX=true->(H b).body.gX=true/\(κ' b).aa=(κ b).aa)/\
  ((H' b).body.mS=true->(H b).body.mS=true/\(κ' b).aa=(κ b).aa))
theorem fq.refl(H:Nat->bK)(κ:Nat->bB):fq H κ H κ:=λ_=>⟨Nat.le_refl _,λ_=>⟨λh=>⟨h,rfl⟩,λh=>⟨h,rfl,rfl,rfl⟩,λh=>⟨h,rfl⟩,λh=>⟨h,rfl⟩⟩⟩
def qq(x y:bK)(k k':bB):Prop:=
 x.gen<=y.gen/\(x.gen=y.gen->
  (y.body.fI=true->x.body.fI=true/\k'.aa=k.aa)/\
  (y.body.ff=true->x.body.ff=true/\k'=k/\y.body.len=x.body.len/\y.body.e0=x.body.e0)/\
  (y.body.gX=true->x.body.gX=true/\k'.aa=k.aa)/\
  (y.body.mS=true->x.body.mS=true/\k'.aa=k.aa))
theorem qq.refl(x:bK)(k:bB):qq x x k k:=⟨Nat.le_refl _,λ_=>⟨λh=>⟨h,rfl⟩,λh=>⟨h,rfl,rfl,rfl⟩,λh=>⟨h,rfl⟩,λh=>⟨h,rfl⟩⟩⟩
theorem Cm{H:Nat->bK}{κ:Nat->bB}{H':Nat->bK}{κ':Nat->bB}:fq H κ H' κ'<->∀ b,qq (H b) (H' b) (κ b) (κ' b):=Iff.rfl
theorem bz.lh{P:Program}{H H':Nat->bK}{κ κ':Nat->bB}{F F':Nat->Prop}{w w':World}(ai:fq H κ H' κ')(bn:∀ r,F r->F' r)(he:c6 F w w') :
  ∀ {a:aH} {v:Value},bz P H κ F w a v->bz P H' κ' F' w' a v:=by
 intro a;induction a with
 | undef=>intro v h;trivial
 | val t x=>intro v h;exact ep.mono h bn he
 | hE b a aI=>intro v h;exact⟨λW=>aI (h.1 W),h.2⟩
 | bd b g off=>
  intro v h;obtain⟨E,U⟩:=h;obtain⟨aR,aW⟩:=ai b;refine⟨⟨Nat.le_trans E.1 aR,E.2⟩,λaC hc=>?_⟩;grind
 | an b g=>
  intro v h;obtain⟨E,U⟩:=h;obtain⟨aR,aW⟩:=ai b;refine⟨⟨Nat.le_trans E.1 aR,E.2⟩,λaC hc=>?_⟩;grind
 | oH b g i off=>
  intro v h;obtain⟨E,U⟩:=h;obtain⟨aR,aW⟩:=ai b;refine⟨⟨Nat.le_trans E.1 aR,E.2⟩,λaC hc=>?_⟩;grind
 | iX b g i=>
  intro v h;obtain⟨E,U⟩:=h;obtain⟨aR,aW⟩:=ai b;refine⟨⟨Nat.le_trans E.1 aR,E.2⟩,λaC hc=>?_⟩;grind
 | dV t x=>
  intro v h;obtain⟨p,bj,E,U,ag⟩:=h;exact⟨p,bj,E,U.mono bn he,fc t bn he ag⟩
 | fH b g=>
  intro v h;obtain⟨E,U⟩:=h;obtain⟨aR,aW⟩:=ai b;refine⟨⟨Nat.le_trans E.1 aR,E.2⟩,λaC hc=>?_⟩;grind
 | j9 b g=>
  intro v h;obtain⟨E,U⟩:=h;obtain⟨aR,aW⟩:=ai b;refine⟨⟨Nat.le_trans E.1 aR,E.2⟩,λaC hc=>?_⟩;grind
 | sub b g aY G=>
  intro v h;obtain⟨E,U⟩:=h;obtain⟨aR,aW⟩:=ai b;refine⟨⟨Nat.le_trans E.1 aR,E.2⟩,λaC hc=>?_⟩;grind
 | aX l aK L n st=>intro v _;trivial
 | hh l=>intro v h;exact h
 | xg e xs=>intro v h;exact⟨ep.mono h.1 bn he,h.2⟩
 | iC k n c1 aI=>
  intro v h;obtain⟨aD,E,U,ag⟩:=h;exact⟨aD,E,U,λi G=>aI i (ag i G)⟩
 | sk k n f aI=>
  intro v h;obtain⟨aD,E,U,ag⟩:=h;exact⟨aD,E,U,λi G=>aI i (ag i G)⟩
 | qp n f aI=>
  intro v h;obtain⟨aD,E,U,ag⟩:=h;exact⟨aD,E,U,λi G=>aI i (ag i G)⟩
 | agg n f aI=>
  intro v h;obtain⟨aD,E,U,ag⟩:=h;exact⟨aD,E,U,λi G=>⟨aI i (ag i G).1,(ag i G).2⟩⟩
 | dn=>intro v h;exact h
 | jF u=>intro v h;exact h
def vl(P:Program)(k v:ab)(F:Nat->Prop)(w:World)(es:Array MapEntry)(clk:Nat)(xs:List (k.aj×v.aj)):Prop:=
 es.size=xs.length/\(xs.map (·.1)).Nodup/\
 (∀ i (h:i<xs.length) (dt:i<es.size),kT k es[i].key/\bI P k F w es[i].key.cells.toList xs[i].1/\kT v es[i].val/\bI P v F w es[i].val.cells.toList xs[i].2/\es[i].born<clk)/\
 (∀ i j (h:i<es.size) (dt:j<es.size),es[i].born=es[j].born->i=j)
theorem vl.mono{P:Program}{k v:ab}{F F':Nat->Prop}{w w':World}{es:Array MapEntry}{clk:Nat}{xs:List (k.aj×v.aj)}(h:vl P k v F w es clk xs)(bn:∀ r,F r->F' r)(he:c6 F w w') :
  vl P k v F' w' es clk xs:=
 ⟨h.1,h.2.1,λi G dJ=>let ⟨a,b,c,d,e⟩:=h.2.2.1 i G dJ;⟨a,fc k bn he b,c,fc v bn he d,e⟩,h.2.2.2⟩
def lL(P:Program)(e:ab)(F:Nat->Prop)(w:World)(cs:Array Value)(off:Nat)(xs:List e.aj):Prop:=
 ∀ i (h:i<xs.length),∃ bj,(∀ j (h:j<bj.length),cs[off+i*e.size+j]?=some bj[j])/\bI P e F w bj xs[i]
theorem lL.mono{P:Program}{e:ab}{F F':Nat->Prop}{w w':World}{cs:Array Value}{off:Nat}{xs:List e.aj}(h:lL P e F w cs off xs)(bn:∀ r,F r->F' r)(he:c6 F w w') :
  lL P e F' w' cs off xs:=λi G=>let ⟨bj,a,b⟩:=h i G;⟨bj,a,fc e bn he b⟩
def zv(P:Program)(k v:ab)(F:Nat->Prop)(w:World)(e:MapEntry)(x:k.aj×v.aj):Prop:=
 kT k e.key/\bI P k F w e.key.cells.toList x.1/\kT v e.val/\bI P v F w e.val.cells.toList x.2
theorem zv.mono{P:Program}{k v:ab}{F F':Nat->Prop}{w w':World}{e:MapEntry}{x:k.aj×v.aj}(h:zv P k v F w e x)(bn:∀ r,F r->F' r)(he:c6 F w w'):zv P k v F' w' e x:=
 ⟨h.1,fc k bn he h.2.1,h.2.2.1,fc v bn he h.2.2.2⟩
def xh(P:Program)(k v:ab)(F:Nat->Prop)(w:World)(pt:Nat)(cur:Option (k.aj×v.aj))(cm:List (k.aj×v.aj)):Prop:=
 (w.heap[pt]?=some (.mapIter none 0 #[] 0)/\cm=[]/\cur=none)\/
 ∃ lM es clk seen,F lM/\w.heap[lM]?=some (.map es clk)/\w.heap[pt]?=some (.mapIter (some lM) clk seen clk)/\
  (∀ i (h:i<es.size),es[i].born<clk)/\(∀ i j (h:i<es.size) (dt:j<es.size),es[i].born=es[j].born->i=j)/\
  (∃ ids:List Nat,ids.length=cm.length/\ids.Nodup/\(∀ i,i∈ids<->∃ h:i<es.size,seen.contains es[i].born=false)/\
   (∀ j (h:j<ids.length) (dt:j<cm.length),∃ G:ids[j]<es.size,zv P k v F w es[ids[j]] cm[j]))/\
  (∀ c,cur=some c->∃ i,∃ h:i<es.size,seen.back?=some es[i].born/\zv P k v F w es[i] c)
theorem xh.mono{P:Program}{k v:ab}{F F':Nat->Prop}{w w':World}{pt:Nat}{cur:Option (k.aj×v.aj)}{cm:List (k.aj×v.aj)}(h:xh P k v F w pt cur cm)(bn:∀ r,F r->F' r)(he:c6 F w w')
  (G:w'.heap[pt]?=w.heap[pt]?):xh P k v F' w' pt cur cm:=by
 rcases h with⟨E,U⟩ | ⟨lM,es,clk,seen,E,U,ag,a7,bN,⟨ids,i1,i2,i3,i4⟩,gL⟩
 ·exact .inl ⟨G.trans E,U⟩
 ·exact .inr ⟨lM,es,clk,seen,bn _ E,(he.2 _ E).trans U,G.trans ag,a7,bN,⟨ids,i1,i2,i3,λj aF fS=>let ⟨a,b⟩:=i4 j aF fS;⟨a,b.mono bn he⟩⟩,λc hc=>let ⟨i,a,b,d⟩:=gL c hc;⟨i,a,b,d.mono bn he⟩⟩
def jG(P:Program)(H:Nat->bK)(κ:Nat->bB)(F:Nat->Prop)(w:World)(k:bB):bQ->Prop
 | .fy=>True
 | .cells t f=>∃ cs T,w.heap[k.aa]?=some (.cells cs T (0,0))/\cs.size=t.size/\∀ i,i<t.size->bz P H κ F w (f i) (cs.getD i Go.undef)/\(cs.getD i Go.undef).oneCell'=true
 | .bh e xs=>(k.e6=true->xs=[])/\(k.e6=false->∃ cs T,w.heap[k.aa]?=some (.cells cs T (0,0))/\k.off+k.cap*e.size<=cs.size/\xs.length<=k.cap/\k.cap<2 ^ 63/\lL P e F w cs k.off xs)
 | .hF e xs=>bI P (.slice e) F w [k.slice xs.length] xs
 | .mp mq pv es=>∃ ms clk,w.heap[k.aa]?=some (.map ms clk)/\vl P mq pv F w ms clk es
 | .gM t x=>∃ bj,Holds F w ⟨k.aa,0,none⟩ bj/\bI P t F w bj x
 | .jl mq pv es=>bI P (.map mq pv) F w [.map (some k.aa)] es
 | .cr mq pv cur cm=>xh P mq pv F w k.aa cur cm
 | .gj e xs i v=>k.e6=false/\∃ cs T,w.heap[k.aa]?=some (.cells cs T (0,0))/\k.off+k.cap*e.size<=cs.size/\xs.length<=k.cap/\k.cap<2 ^ 63/\(e.size=1/\i<xs.length)/\
   (∀ j (h:j<xs.length),j≠i->∃ bj,(∀ q (h:q<bj.length),cs[k.off+j*e.size+q]?=some bj[q])/\bI P e F w bj xs[j])/\bz P H κ F w v (cs.getD (k.off+i) Go.undef)/\(cs.getD (k.off+i) Go.undef).oneCell'=true
def cD(P:Program)(H:Nat->bK)(κ:Nat->bB)(F:Nat->Prop)(w:World)(b:Nat):Prop:=jG P H κ F w (κ b) (H b).body
theorem cD.lj{P:Program}{H H':Nat->bK}{κ κ':Nat->bB}{F F':Nat->Prop}{w w':World}{b:Nat}(h:cD P H κ F w b)(ai:fq H κ H' κ')(bn:∀ r,F r->F' r)(he:c6 F w w')
  (W:(H' b).body=(H b).body) (al:κ' b=κ b) (hw:(H b).body.bZ (κ b)=true->w'.heap[(κ b).aa]?=w.heap[(κ b).aa]?):cD P H' κ' F' w' b:=by
 unfold cD at *
 rw[W,al];cases bS:(H b).body with
 | fy=>trivial
 | cells n f=>
  rw[bS]at h hw;obtain⟨cs,T,E,U,ag⟩:=h;exact⟨cs,T,(hw rfl).trans E,U,λi G=>⟨bz.lh ai bn he (ag i G).1,(ag i G).2⟩⟩
 | bh e xs=>
  rw[bS]at h hw;refine⟨h.1,λaw=>?_⟩;obtain⟨cs,T,E,U,ag,a7,bN⟩:=h.2 aw;exact⟨cs,T,(hw (by simp[bQ.bZ,aw])).trans E,U,ag,a7,bN.mono bn he⟩
 | hF e xs=>
  rw[bS]at h;exact fc _ bn he h
 | mp mq pv es=>
  rw[bS]at h hw;obtain⟨ms,clk,E,U⟩:=h;exact⟨ms,clk,(hw rfl).trans E,U.mono bn he⟩
 | gM t x=>
  rw[bS]at h;obtain⟨bj,E,U⟩:=h;exact⟨bj,E.mono bn he,fc t bn he U⟩
 | jl mq pv es=>
  rw[bS]at h;exact fc (.map mq pv) bn he h
 | cr mq pv cur cm=>
  rw[bS]at h hw;exact xh.mono h bn he (hw rfl)
 | gj e xs i v=>
  rw[bS]at h hw;obtain⟨aU,cs,T,E,U,ag,a7,bN,du,gL,iV⟩:=h;refine⟨aU,cs,T,(hw (by simp[bQ.bZ,aU])).trans E,U,ag,a7,bN,λj aF rj=>?_,bz.lh ai bn he gL,iV⟩;obtain⟨bj,d1,d2⟩:=du j aF rj;exact⟨bj,d1,fc e bn he d2⟩
structure dd(w w':World):Prop where
 os:w'.os=w.os
 tape:w'.tape=w.tape
 output:w'.output=w.output
theorem dd.refl(w:World):dd w w:=⟨rfl,rfl,rfl⟩
theorem dd.trans{a b c:World}(h:dd a b)(k:dd b c):dd a c:=⟨k.os.trans h.os,k.tape.trans h.tape,k.output.trans h.output⟩
structure lN where
 l:Nat
 aK:ab
 S:List aK.aj->Prop
 I:List aK.aj->Bool->(Nat->Prop)->(Nat->Prop)->World->Prop
structure lN.hD(P:Program)(p:lN):Prop where
 Ci:∀ {pre st} {F F' Y:Nat->Prop} {w w':World},p.I pre st F Y w->(∀ r,F r->F' r)->(∀ r,F r\/Y r->w'.heap[r]?=w.heap[r]?)->w.heap.size<=w'.heap.size->dd w w'->(∀ r,F' r->r<w'.heap.size)->(∀ r,F' r->¬Y r)->p.I pre st F' Y w'
 yield:∀ {pre} {F Y:Nat->Prop} {w:World} {args:List Value} {x:p.aK.aj},p.I pre false F Y w->(∀ r,F r->r<w.heap.size)->(∀ r,Y r->r<w.heap.size/\¬F r)->(∃ T,p.S (pre++x::T))->fp P p.aK F w args x->
  YieldAt Fence.wide 0 P p.l args.toArray w λe w'=>∃ (b:Bool) (F' gC:Nat->Prop),e=.returned (.bool b)/\(∀ r,F r->F' r)/\(∀ r,F' r->F r\/Y r\/w.heap.size<=r)/\(∀ r,F' r->r<w'.heap.size)/\
   (∀ r,r<w.heap.size->¬Y r->w'.heap[r]?=w.heap[r]?)/\(∀ r,gC r->(Y r\/w.heap.size<=r)/\r<w'.heap.size/\¬F' r)/\w.heap.size<=w'.heap.size/\dd w w'/\p.I (pre++[x]) (!b) F' gC w'
def lN.at(p:lN)(aK:ab)(pre:List aK.aj)(st:Bool)(F Y:Nat->Prop)(w:World):Prop:=∃ h:aK=p.aK,p.I (h ▸ pre) st F Y w
theorem lN.zw{l:Nat}{aK:ab}{S:List aK.aj->Prop}{I}{pre:List aK.aj}{st:Bool}{F Y:Nat->Prop}{w:World}:(lN.mk l aK S I).at aK pre st F Y w<->I pre st F Y w:=⟨λ⟨_,h⟩=>h,λh=>⟨rfl,h⟩⟩
theorem lN.hD.KD{P:Program}{p:lN}(h:p.hD P){aK:ab}{pre:List aK.aj}{st}{F F' Y:Nat->Prop}{w w':World}:p.at aK pre st F Y w->(∀ r,F r->F' r)->(∀ r,F r\/Y r->w'.heap[r]?=w.heap[r]?)->w.heap.size<=w'.heap.size->dd w w'->(∀ r,F' r->r<w'.heap.size)->(∀ r,F' r->¬Y r)->p.at aK pre st F' Y w':=
 λ⟨e,E⟩ U ag a7 bN du gL=>⟨e,h.Ci E U ag a7 bN du gL⟩
def b5:Nat:=1000000
def eQ:Nat:=100000
def xi:Nat:=200000
structure b9 where
 P:Program
 w0:World
 F0:Nat->Prop
 K0:Nat->Prop
 nt:Nat
 r:Option Nat
 dfr:List Deferred
 il:Nat->Option Nat
 cd:lN
 aO:dD
 KE:Nat->Option (bB×Nat):=λ_=>none
def adf(C:b9)(s:aB)(w:World)(κ:Nat->bB)(F:Nat->Prop):Prop:=
 ∀ l aK L n st,s.az b5=.aX l aK L n st->(∃ I,C.cd=⟨l,aK,L,I⟩)/\C.cd.hD C.P/\
  ∃ Y:Nat->Prop,(∀ r,Y r->r<w.heap.size/\¬F r/\¬C.K0 r)/\(∀ b,(s.aa b).body.bZ (κ b)=true->¬Y (κ b).aa)/\C.cd.at aK n st F Y w
structure bl(C:b9)(s:aB)(a:Act)(w:World)(κ:Nat->bB)(F:Nat->Prop):Prop where
 dE:a.tmps.size=C.nt
 dfr:a.defers=C.dfr
 bT:∀ i,bz C.P s.aa κ F w (s.az i) (a.tmps.getD i Go.undef)
 bC:∀ b,cD C.P s.aa κ F w b
 an:∀ b,(s.aa b).body.bZ (κ b)=true->(κ b).aa<w.heap.size/\¬F (κ b).aa/\¬C.K0 (κ b).aa
 inj:∀ b be,(s.aa b).body.bZ (κ b)=true->(s.aa be).body.bZ (κ be)=true->(κ b).aa=(κ be).aa->b=be
 db:∀ r,F r->r<w.heap.size
 hi:∀ r,F r->C.F0 r\/¬C.K0 r
 hT:∀ r,C.F0 r->F r
 hx:∀ r,C.K0 r->r<C.w0.heap.size
 eH:∀ r,C.K0 r->w.heap[r]?=C.w0.heap[r]?
 size:C.w0.heap.size<=w.heap.size
 er:dd C.w0 w
 gl:C.nt<=eQ
 kv:∀ b r,C.il b=some r->eQ<=b
 jH:∀ b r,C.il b=some r->(s.aa b).body.fI=true\/(s.aa b).body.gX=true->(κ b).aa=r
 j_:∀ b k,C.KE b=some k->xi<=b
 kx:∀ b k,C.KE b=some k->(s.aa b).gen=0->(s.aa b).body.ff=true->κ b=k.1/\(s.aa b).body.len=k.2
 eL:adf C s w κ F
 jI:ri C.P C.aO
 iD:nT C.P F w
def ct(C:b9)(s:aB)(a:Act)(w:World):Prop:=∃ κ F,bl C s a w κ F
def aB.set(s:aB)(d:Option Nat)(v:aH):aB:=
 match d with
 | none=>s
 | some d=>{ s with az:=λi=>if i=d then v else s.az i }
def aB.cx(s:aB)(b:Nat)(x:bK):aB:={ s with aa:=λi=>if i=b then x else s.aa i }
theorem adg{a:Act}{d:Nat}{v:Value}(ar:d<a.tmps.size)(i:Nat):(a.put (some d) v).tmps.getD i Go.undef=if i=d then v else a.tmps.getD i Go.undef:=by
 simp only[Act.put,Array.getD_eq_getD_getElem?,Array.getElem?_setIfInBounds];grind
theorem bl.set{C:b9}{s:aB}{a:Act}{w:World}{κ:Nat->bB}{F:Nat->Prop}(h:bl C s a w κ F){d:Option Nat}(ar:∀ i,d=some i->i<C.nt){av:aH}{v:Value}
  (ae:bz C.P s.aa κ F w av v):bl C (s.set d av) (a.put d v) w κ F:=by
 cases d with
 | none=>exact h
 | some d=>
  have xj:=ar d rfl;have aw:=h.gl;refine { h with dE:=by simpa [Act.put]using h.dE,dfr:=h.dfr,bT:=λi=>?_,eL:=λl aK L n st e=>?_ }
  ·rw[adg (by rw[h.dE];omega)];simp only[aB.set];by_cases G:i=d
   ·grind
   ·rw[if_neg G,if_neg G];exact h.bT i
  ·simp only[aB.set]at e;rw[if_neg (by unfold b5 eQ at *;omega)]at e;exact h.eL l aK L n st e
theorem bl.move{C:b9}{s:aB}{a:Act}{w:World}{κ:Nat->bB}{F:Nat->Prop}(h:bl C s a w κ F){H':Nat->bK}{κ':Nat->bB}{F':Nat->Prop}{w':World}
  (ai:fq s.aa κ H' κ') (bn:∀ r,F r->F' r) (tQ:∀ r,F' r->F r\/(∃ b,(s.aa b).body.bZ (κ b)=true/\(κ b).aa=r)\/w.heap.size<=r)
  (cf:w.heap.size<=w'.heap.size) (hw:∀ r,r<w.heap.size->(∀ b,(s.aa b).body.bZ (κ b)=true->(κ b).aa≠r)->w'.heap[r]?=w.heap[r]?) (hc:dd w w')
  (W:c6 F w w'->∀ b,cD C.P H' κ' F' w' b)
  (af:∀ b,(H' b).body.bZ (κ' b)=true->(κ' b).aa<w'.heap.size/\¬F' (κ' b).aa/\((∃ b0,(s.aa b0).body.bZ (κ b0)=true/\(κ b0).aa=(κ' b).aa)\/w.heap.size<=(κ' b).aa))
  (G:∀ b be,(H' b).body.bZ (κ' b)=true->(H' be).body.bZ (κ' be)=true->(κ' b).aa=(κ' be).aa->b=be)
  (aE:∀ r,F' r->r<w'.heap.size)
  (adh:∀ b,eQ<=b->(H' b).body.fI=true\/(H' b).body.gX=true->κ' b=κ b/\((s.aa b).body.fI=true\/(s.aa b).body.gX=true)):bl C ⟨s.az,H'⟩ a w' κ' F':=by
 have adi:∀ r,C.K0 r->(∀ b,(s.aa b).body.bZ (κ b)=true->(κ b).aa≠r):=λr M b W e=>(h.an b W).2.2 (e ▸ M);have al:∀ r,C.K0 r->w'.heap[r]?=w.heap[r]?:=λr M=>hw r (Nat.lt_of_lt_of_le (h.hx r M) h.size) (adi r M);have zx:∀ r,w.heap.size<=r->¬C.K0 r:=λr M al=>by have:=h.hx r al;have:=h.size;omega
 have he:c6 F w w':=⟨cf,λr M=>hw r (h.db r M) λb W e=>(h.an b W).2.1 (e ▸ M)⟩
 refine { dE:=h.dE,dfr:=h.dfr,bT:=λi=>bz.lh ai bn he (h.bT i),bC:=W he,an:=λb W=>?_,inj:=G,db:=aE,hi:=λr M=>?_,hT:=λr M=>bn r (h.hT r M),hx:=h.hx,eH:=λr M=>(al r M).trans (h.eH r M),size:=Nat.le_trans h.size cf,er:=h.er.trans hc,gl:=h.gl,kv:=h.kv,jH:=λb r M hc=>?_,j_:=h.j_,kx:=λb k al aU a_=>?_,eL:=λl aK L n st e=>?_,jI:=h.jI,iD:=h.iD.mono bn he }
 ·grind
 ·rcases tQ r M with E | ⟨b,E,rfl⟩ | E
  ·exact h.hi r E
  ·exact .inr (h.an b E).2.2
  ·exact .inr (zx r E)
 ·obtain⟨aR,aW⟩:=adh b (h.kv b r M) hc;rw[aR];exact h.jH b r M aW
 ·obtain⟨g1,ei⟩:=ai b;have aU:(H' b).gen=0:=aU;have a_:(H' b).body.ff=true:=a_;obtain⟨ca,a2,a3,_⟩:=(ei (by omega)).2.1 a_;obtain⟨aR,aW⟩:=h.kx b k al (by omega) ca;grind
 ·obtain⟨E,U,Y,ag,a7,bN⟩:=h.eL l aK L n st e;have axX:∀ r,Y r->w'.heap[r]?=w.heap[r]?:=λr M=>hw r (ag r M).1 λb W e=>a7 b W (e ▸ M);have Cn:∀ r,Y r->¬F' r:=λr M au=>by
   grind
  refine⟨E,U,Y,λr M=>⟨Nat.lt_of_lt_of_le (ag r M).1 cf,Cn r M,(ag r M).2.2⟩,λb W aS=>?_,U.KD bN bn (λr M=>?_) cf hc aE λr au aS=>Cn r aS au⟩
  ·grind
  ·rcases M with M | M
   ·exact he.2 r M
   grind
theorem pw(w:World)(o:Obj){r:Nat}(h:r<w.heap.size):(w.alloc o).heap[r]?=w.heap[r]?:=Below.heap_alloc w o r h
theorem qt(w:World)(o:Obj):(w.alloc o).heap[w.heap.size]?=some o:=by
 show (w.heap.push o)[w.heap.size]?=_;simp
theorem c6.alloc{F:Nat->Prop}{w:World}(aE:∀ r,F r->r<w.heap.size)(o:Obj):c6 F w (w.alloc o):=
 ⟨by simp,λr M=>pw w o (aE r M)⟩
theorem zy{H:Nat->bK}{κ κ':Nat->bB}{b:Nat}{x:bK}(aC:(H b).gen<x.gen)(Co:∀ be,be≠b->κ' be=κ be) :
  fq H κ (λi=>if i=b then x else H i) κ':=by
 rw[Cm];intro i;by_cases G:i=b
 ·subst G;simp only[if_true];exact⟨by omega,λh=>by omega⟩
 ·simp only[if_neg G];rw[Co i G];exact qq.refl _ _
theorem zz{H:Nat->bK}{κ κ':Nat->bB}{b:Nat}{x:bK}(W:b<eQ\/(x.body.fI=false/\x.body.gX=false))(Co:∀ be,be≠b->κ' be=κ be) :
  ∀ i,eQ<=i->(if i=b then x else H i).body.fI=true\/(if i=b then x else H i).body.gX=true->κ' i=κ i/\((H i).body.fI=true\/(H i).body.gX=true):=by
 grind
theorem bl.alloc{C:b9}{s:aB}{a:Act}{w:World}{κ:Nat->bB}{F:Nat->Prop}(h:bl C s a w κ F){b:Nat}{x:bK}(Cp:b<eQ)(aC:(s.aa b).gen<x.gen)
  {o:Obj} {k:bB} (al:k.aa=w.heap.size)
  (ah:∀ (H:Nat->bK) (κ':Nat->bB),H=(λi=>if i=b then x else s.aa i)->κ'=(λi=>if i=b then k else κ i)->fq s.aa κ H κ'->jG C.P H κ' F (w.alloc o) k x.body) :
  bl C (s.cx b x) a (w.alloc o) (λi=>if i=b then k else κ i) F:=by
 have ai:fq s.aa κ (λi=>if i=b then x else s.aa i) (λi=>if i=b then k else κ i):=zy aC λbe de=>by grind
 refine h.move (H':=λi=>if i=b then x else s.aa i) ai (λ_ M=>M) (λ_ M=>.inl M) (by simp) (λr M _=>pw w o M) ⟨rfl,rfl,rfl⟩ (λhe=>?_) ?_ ?_ ?_ (zz (.inl Cp) λbe de=>by grind)
 ·intro i;by_cases G:i=b
  ·subst G;simp only[cD,if_true];grind
  ·refine cD.lj (h.bC i) ai (λ_ M=>M) he (by grind) (by grind) λaf=>?_;exact pw w o (h.an i af).1
 ·intro i G;by_cases eM:i=b
  ·subst eM;simp only[if_true]at G ⊢;refine⟨by simp_all,λau=>?_,.inr (by omega)⟩;have:=h.db _ au;omega
  ·simp only[if_neg eM]at G ⊢;have:=h.an i G;exact⟨by simp;omega,this.2.1,.inl ⟨i,G,rfl⟩⟩
 ·intro i j G aF e;by_cases eM:i=b<;>by_cases mr:j=b
  ·omega
  ·simp only[if_pos eM,if_neg mr]at G aF e;have:=(h.an j aF).1;omega
  ·simp only[if_neg eM,if_pos mr]at G aF e;have:=(h.an i G).1;omega
  ·simp only[if_neg eM,if_neg mr]at G aF e;exact h.inj i j G aF e
 ·intro r M;have:=h.db r M;simp;omega
theorem rk{H:Nat->bK}{κ:Nat->bB}{b:Nat}{x:bK}(aC:x.gen=(H b).gen)(E:x.body.fI=true->(H b).body.fI=true)
  (U:x.body.ff=true->(H b).body.ff=true/\x.body.len=(H b).body.len/\x.body.e0=(H b).body.e0) (ag:x.body.gX=true->(H b).body.gX=true)
  (a7:x.body.mS=true->(H b).body.mS=true) :
  fq H κ (λi=>if i=b then x else H i) κ:=by
 rw[Cm];intro i;by_cases G:i=b
 ·subst G;simp only[if_true];exact⟨by omega,λ_=>⟨λh=>⟨E h,rfl⟩,λh=>⟨(U h).1,rfl,(U h).2⟩,λh=>⟨ag h,rfl⟩,λh=>⟨a7 h,rfl⟩⟩⟩
 ·simp only[if_neg G];exact qq.refl _ _
theorem adj{H:Nat->bK}{κ:Nat->bB}{b:Nat}{x:bK}(E:x.body.fI=true->(H b).body.fI=true)(ag:x.body.gX=true->(H b).body.gX=true) :
  ∀ i,eQ<=i->(if i=b then x else H i).body.fI=true\/(if i=b then x else H i).body.gX=true->κ i=κ i/\((H i).body.fI=true\/(H i).body.gX=true):=by
 grind
theorem bl.px{C:b9}{s:aB}{a:Act}{w w':World}{κ:Nat->bB}{F:Nat->Prop}(h:bl C s a w κ F){b:Nat}{x:bK}
  (gm:(s.aa b).body.bZ (κ b)=true) (zA:x.body.bZ (κ b)=true) (ai:fq s.aa κ (λi=>if i=b then x else s.aa i) κ)
  (E:x.body.fI=true->(s.aa b).body.fI=true) (ag:x.body.gX=true->(s.aa b).body.gX=true)
  (hw:∀ r,r≠(κ b).aa->w'.heap[r]?=w.heap[r]?) (cf:w'.heap.size=w.heap.size) (hc:dd w w')
  (ah:∀ (H:Nat->bK),H=(λi=>if i=b then x else s.aa i)->fq s.aa κ H κ->c6 F w w'->jG C.P H κ F w' (κ b) x.body) :
  bl C (s.cx b x) a w' κ F:=by
 have af:=h.an b gm;refine h.move (H':=λi=>if i=b then x else s.aa i) ai (λ_ M=>M) (λ_ M=>.inl M) (by omega) (λr _ M=>hw r λe=>M b gm e.symm) hc (λhe=>?_) ?_ ?_ (λr M=>by rw[cf];exact h.db r M) (adj E ag)
 ·intro i;by_cases G:i=b
  ·subst G;simp only[cD,if_true];grind
  ·refine cD.lj (h.bC i) ai (λ_ M=>M) he (by grind) rfl λadk=>hw _ λe=>G (h.inj i b adk gm e)
 ·intro i G;by_cases eM:i=b
  ·grind
  ·simp only[if_neg eM]at G;have:=h.an i G;grind
 ·intro i j G aF e;have dJ:(s.aa i).body.bZ (κ i)=true:=by
   grind
  have fS:(s.aa j).body.bZ (κ j)=true:=by
   grind
  exact h.inj i j dJ fS e
theorem bl.drew{C:b9}{s:aB}{a:Act}{w:World}{κ:Nat->bB}{F:Nat->Prop}(h:bl C s a w κ F):bl C s a w.drew κ F:=
 h.move (H':=s.aa) (fq.refl _ _) (λ_ M=>M) (λ_ M=>.inl M) (Nat.le_refl _) (λ_ _ _=>rfl) ⟨rfl,rfl,rfl⟩
  (λ_ b=>cD.lj (h.bC b) (fq.refl _ _) (λ_ M=>M) ⟨Nat.le_refl _,λ_ _=>rfl⟩ rfl rfl λ_=>rfl) (λb W=>⟨(h.an b W).1,(h.an b W).2.1,.inl ⟨b,W,rfl⟩⟩) h.inj h.db (λ_ _ h=>⟨rfl,h⟩)
def aB.le(s' s:aB):Prop:=(∀ i,s'.az i=s.az i\/s'.az i=.undef)/\∀ b,s'.aa b=s.aa b\/s'.aa b=⟨(s.aa b).gen,.fy⟩
theorem bl.zB{C:b9}{s s':aB}{a:Act}{w:World}{κ:Nat->bB}{F:Nat->Prop}(h:bl C s a w κ F)(aE:s'.le s):bl C s' a w κ F:=by
 have gm:∀ b,(s'.aa b).body.bZ (κ b)=true->(s.aa b).body.bZ (κ b)=true:=λb W=>by
  rcases aE.2 b with e | e
  ·grind
  ·rw[e]at W;cases W
 have ai:fq s.aa κ s'.aa κ:=λb=>by
  rcases aE.2 b with e | e
  ·grind
  ·rw[e];exact⟨Nat.le_refl _,λ_=>⟨λh=>(by cases h),λh=>(by cases h),λh=>(by cases h),λh=>(by cases h)⟩⟩
 have U:=h.move ai (λ_ M=>M) (λ_ M=>.inl M) (Nat.le_refl _) (λ_ _ _=>rfl) (dd.refl _)
  (λ_ b=>by
   rcases aE.2 b with e | e
   ·exact cD.lj (h.bC b) ai (λ_ M=>M) (c6.refl _ _) (by rw[e]) rfl λ_=>rfl
   ·unfold cD;rw[e];trivial)
  (λb W=>⟨(h.an b (gm b W)).1,(h.an b (gm b W)).2.1,.inl ⟨b,gm b W,rfl⟩⟩) (λb be W de=>h.inj b be (gm b W) (gm be de)) h.db (λb _ W=>⟨rfl,by
   rcases aE.2 b with e | e
   ·grind
   ·rw[e]at W;simp[bQ.fI,bQ.gX]at W⟩)
 refine { U with bT:=λi=>?_,dE:=U.dE,dfr:=U.dfr,eL:=λl aK L n st e=>?_ }
 ·rcases aE.1 i with e | e
  ·rw[e];exact U.bT i
  ·rw[e];trivial
 ·rcases aE.1 b5 with k | k
  ·exact U.eL l aK L n st (k ▸ e)
  grind
end Go.Fer
namespace Go.Fer
inductive aq(ak:Type) where
 | ret (a:ak)
 | eR (b:Nat) (k:bK->aq ak)
def aq.run{ak:Type}(H:Nat->bK):aq ak->ak
 | .ret a=>a
 | .eR b k=>(k (H b)).run H
def aq.rh{ak:Type}(H:Nat->bK):aq ak->List Nat
 | .ret _=>[]
 | .eR b k=>b::(k (H b)).rh H
def aq.bind{ak β:Type}:aq ak->(ak->aq β)->aq β
 | .ret a,f=>f a
 | .eR b k,f=>.eR b λx=>(k x).bind f
def aq.map{ak β:Type}(f:ak->β)(m:aq ak):aq β:=m.bind λa=>.ret (f a)
def aq.none{ak:Type}:aq (Option ak):=.ret Option.none
def aq.cQ{ak β:Type}(m:aq (Option ak))(f:ak->aq (Option β)):aq (Option β):=m.bind fun | some a=>f a | Option.none=>.none
@[simp] theorem aq.bM {ak:Type} (H:Nat->bK) (a:ak):(aq.ret a).run H=a:=rfl
@[simp] theorem aq.e1 {ak:Type} (H:Nat->bK) (b:Nat) (k:bK->aq ak):(aq.eR b k).run H=(k (H b)).run H:=rfl
theorem aq.run_bind{ak β:Type}(H:Nat->bK)(m:aq ak)(f:ak->aq β):(m.bind f).run H=(f (m.run H)).run H:=by
 induction m with
 | ret a=>rfl
 | eR b k aI=>simp[aq.bind,aI]
theorem aq.e2{ak β:Type}(H:Nat->bK)(m:aq (Option ak))(f:ak->aq (Option β)):(m.cQ f).run H=(m.run H).bind λa=>(f a).run H:=by
 unfold aq.cQ;rw[aq.run_bind];cases m.run H<;>rfl
theorem aq.RB{ak:Type}{H H':Nat->bK}:∀ (m:aq ak),(∀ b∈m.rh H,H' b=H b)->m.run H'=m.run H/\m.rh H'=m.rh H
 | .ret a,_=>⟨rfl,rfl⟩
 | .eR b k,h=>by
  have W:=h b (by simp[aq.rh]);have:=aq.RB (k (H b)) λc hc=>h c (by simp[aq.rh,hc]);simp only[aq.run,aq.rh,W,this];simp
def eS(t cW:ab)(x:t.aj):Option cW.aj:=if h:t=cW then some (h ▸ x) else none
theorem kU{t cW:ab}{x:t.aj}{y:cW.aj}(h:eS t cW x=some y):∃ e:t=cW,y=e ▸ x:=by
 unfold eS at h;grind
def Cq:(t:ab)->Value->Option t.aj
 | .bH _,.pointer Option.none=>some Option.none
 | .map _ _,.map Option.none=>some []
 | .eo,.nilFunc=>some Option.none
 | _,_=>Option.none
def ab.isAgg:ab->Bool
 | .st _ | .array _ _=>true
 | _=>false
def dW(t:ab):aH->aq (Option (t.aj×List Nat))
 | .val cW x=>.ret ((eS cW t x).map (·,[]))
 | .dn=>match t with
  | .slice _=>.ret (some ([],[]))
  | _=>.none
 | .an b g=>match t with
  | .slice e=>.eR b λx=>.ret (if x.gen=g then (match x.body with
    | .bh aZ xs=>(eS (.slice aZ) (.slice e) xs).map (·,[b])
    | .hF aZ xs=>(eS (.slice aZ) (.slice e) xs).map (·,[])
    | _=>Option.none) else Option.none)
  | _=>.none
 | .sub b g aY G=>match t with
  | .slice e=>.eR b λx=>.ret (if x.gen=g then (match x.body with
    | .bh aZ xs=>(eS (.slice aZ) (.slice e) ((xs.take G).drop aY)).map (·,[b])
    | .hF aZ xs=>(eS (.slice aZ) (.slice e) ((xs.take G).drop aY)).map (·,[])
    | _=>Option.none) else Option.none)
  | _=>.none
 | .fH b g=>match t with
  | .map k v=>.eR b λx=>.ret (if x.gen=g then (match x.body with
    | .mp k' h8 es=>(eS (.map k' h8) (.map k v) es).map (·,[b])
    | .jl k' h8 es=>(eS (.map k' h8) (.map k v) es).map (·,[])
    | _=>Option.none) else Option.none)
  | _=>.none
 | .dV cW x=>match t with
  | .bH e=>.ret ((eS (.bH cW) (.bH e) (some x)).map (·,[]))
  | _=>.none
 | .jF v=>.ret ((Cq t v).map (·,[]))
 | .iC k n _=>match t with
  | .eo=>if n=0 then .ret (some (some k,[])) else .none
  | _=>.none
 | _=>.none
def tU(e:ab)(ch:List aH->aq (Option (e.aj×List Nat×List aH)))(av:aH):aq (Option (Option e.aj×List Nat)):=
 match av with
 | .bd b g off=>.eR b λx=>if x.gen=g/\off=0 then (match x.body with
   | .gM cW y=>.ret ((eS cW e y).map λz=>(some z,[]))
   | .cells cW f=>if cW=e then (ch ((List.range e.size).map f)).cQ λ(y,l,r)=>.ret (if r.isEmpty then some (some y,b::l) else Option.none) else .none
   | _=>.none) else .none
 | av=>dW (.bH e) av
def im:(t:ab)->List aH->aq (Option (t.aj×List Nat×List aH))
 | .cT,cs=>.ret (some ((),[],cs))
 | .st t,cs=>im t cs
 | .aA a b,cs=>(im a cs).cQ λ(x,l,r)=>(im b r).cQ λ(y,m,q)=>.ret (some ((x,y),l++m,q))
 | .array n e,cs=>n.rec (motive:=λ_=>List aH->aq (Option (List e.aj×List Nat×List aH))) (λcs=>.ret (some ([],[],cs)))
   (λ_ aI cs=>(im e cs).cQ λ(x,l,r)=>(aI r).cQ λ(xs,m,q)=>.ret (some (x::xs,l++m,q))) cs
 | .bool,cs=>match cs with | c::r=>(dW .bool c).map λo=>o.map λ(x,l)=>(x,l,r) | []=>.none
 | .int k,cs=>match cs with | c::r=>(dW (.int k) c).map λo=>o.map λ(x,l)=>(x,l,r) | []=>.none
 | .str,cs=>match cs with | c::r=>(dW .str c).map λo=>o.map λ(x,l)=>(x,l,r) | []=>.none
 | .slice e,cs=>match cs with | c::r=>(dW (.slice e) c).map λo=>o.map λ(x,l)=>(x,l,r) | []=>.none
 | .bH e,cs=>match cs with | c::r=>(tU e (im e) c).map λo=>o.map λ(x,l)=>(x,l,r) | []=>.none
 | .map k v,cs=>match cs with | c::r=>(dW (.map k v) c).map λo=>o.map λ(x,l)=>(x,l,r) | []=>.none
 | .fn a b,cs=>match cs with | c::r=>(dW (.fn a b) c).map λo=>o.map λ(x,l)=>(x,l,r) | []=>.none
 | .cr a,cs=>match cs with | c::r=>(dW (.cr a) c).map λo=>o.map λ(x,l)=>(x,l,r) | []=>.none
 | .eo,cs=>match cs with | c::r=>(dW .eo c).map λo=>o.map λ(x,l)=>(x,l,r) | []=>.none
def ky(t:ab)(av:aH):aq (Option (t.aj×List Nat)):=
 match t with
 | .bH e=>tU e (im e) av
 | t=>if t.eG then dW t av else .none
def dz(t:ab)(av:aH):aq (Option (t.aj×List Nat)):=
 match av with
 | .val cW x=>.ret ((eS cW t x).map (·,[]))
 | .agg n f=>if t.eG then .none else (im t ((List.range n).map f)).cQ λ(x,l,r)=>.ret (if r.isEmpty&&t.isAgg then some (x,l) else Option.none)
 | _=>ky t av
def nU:(t:ab)->t.aj->List aH
 | .cT,_=>[]
 | .st t,x=>nU t x
 | .aA a b,x=>nU a x.1++nU b x.2
 | .array n e,xs=>(List.range n).flatMap λi=>nU e (List.getD xs i e.df)
 | .bool,x=>[.val .bool x]
 | .int k,x=>[.val (.int k) x]
 | .str,x=>[.val .str x]
 | .slice e,x=>[.val (.slice e) x]
 | .bH e,x=>[.val (.bH e) x]
 | .map k v,x=>[.val (.map k v) x]
 | .fn a b,x=>[.val (.fn a b) x]
 | .cr a,x=>[.val (.cr a) x]
 | .eo,x=>[.val .eo x]
def sn:ab->List aH
 | .cT=>[]
 | .st t=>sn t
 | .aA a b=>sn a++sn b
 | .array n e=>(List.range n).flatMap λ_=>sn e
 | .bool=>[.val .bool false]
 | .int k=>[.val (.int k) (0:Int)]
 | .str=>[.val .str []]
 | .slice _=>[.dn]
 | .bH e=>[.val (.bH e) Option.none]
 | .map k v=>[.val (.map k v) []]
 | .fn _ _=>[.jF .nilFunc]
 | .cr _=>[.jF .nilFunc]
 | .eo=>[.val .eo Option.none]
def hj(l:List aH)(i:Nat):aH:=l.getD i .undef
def mu:ab->Nat->Option (ab×Nat)
 | .aA a _,0=>some (a,0)
 | .aA a b,f+1=>(mu b f).map λ(t,o)=>(t,a.size+o)
 | .cT,_=>Option.none
 | t,0=>some (t,0)
 | _,_+1=>Option.none
def vm:(t:ab)->t.aj->Nat->Option ((s:ab)×s.aj)
 | .aA a _,x,0=>some ⟨a,x.1⟩
 | .aA _ b,x,f+1=>vm b x.2 f
 | .cT,_,_=>Option.none
 | t,x,0=>some ⟨t,x⟩
 | _,_,_+1=>Option.none
def so:(t:ab)->t.aj->Nat->(s:ab)->Option s.aj
 | .st t,x,off,s=>if off=0/\ab.st t=s then eS (.st t) s x else so t x off s
 | .aA a b,x,off,s=>if off<a.size then so a x.1 off s else so b x.2 (off - a.size) s
 | .cT,_,_,_=>Option.none
 | .array _ _,_,_,_=>Option.none
 | .bool,x,off,s=>if off=0 then eS .bool s x else Option.none
 | .int k,x,off,s=>if off=0 then eS (.int k) s x else Option.none
 | .str,x,off,s=>if off=0 then eS .str s x else Option.none
 | .slice e,x,off,s=>if off=0 then eS (.slice e) s x else Option.none
 | .bH e,x,off,s=>if off=0 then eS (.bH e) s x else Option.none
 | .map k v,x,off,s=>if off=0 then eS (.map k v) s x else Option.none
 | .fn a b,x,off,s=>if off=0 then eS (.fn a b) s x else Option.none
 | .cr a,x,off,s=>if off=0 then eS (.cr a) s x else Option.none
 | .eo,x,off,s=>if off=0 then eS .eo s x else Option.none
def xk:(t:ab)->t.aj->Nat->(s:ab)->s.aj->Option t.aj
 | .st t,x,off,s,y=>if off=0/\s=ab.st t then eS s (.st t) y else xk t x off s y
 | .aA a b,x,off,s,y=>if off<a.size then (xk a x.1 off s y).map (·,x.2) else (xk b x.2 (off - a.size) s y).map (x.1,·)
 | .cT,_,_,_,_=>Option.none
 | .array _ _,_,_,_,_=>Option.none
 | .bool,_,off,s,y=>if off=0 then eS s .bool y else Option.none
 | .int k,_,off,s,y=>if off=0 then eS s (.int k) y else Option.none
 | .str,_,off,s,y=>if off=0 then eS s .str y else Option.none
 | .slice e,_,off,s,y=>if off=0 then eS s (.slice e) y else Option.none
 | .bH e,_,off,s,y=>if off=0 then eS s (.bH e) y else Option.none
 | .map k v,_,off,s,y=>if off=0 then eS s (.map k v) y else Option.none
 | .fn a b,_,off,s,y=>if off=0 then eS s (.fn a b) y else Option.none
 | .cr a,_,off,s,y=>if off=0 then eS s (.cr a) y else Option.none
 | .eo,_,off,s,y=>if off=0 then eS s .eo y else Option.none
def lO(k:IntKind)(a b:Int):Int:=k.wrap (BitVec.ofInt k.bits a&&& BitVec.ofInt k.bits b).toNat
def RC(k:IntKind)(a b:Int):Int:=k.wrap (BitVec.ofInt k.bits a||| BitVec.ofInt k.bits b).toNat
def RD(k:IntKind)(a b:Int):Int:=k.wrap (BitVec.ofInt k.bits a ^^^ BitVec.ofInt k.bits b).toNat
def RE(k:IntKind)(a b:Int):Int:=k.wrap (BitVec.ofInt k.bits a&&& ~~~BitVec.ofInt k.bits b).toNat
def adl(k:IntKind)(a b:Int):Int:=k.wrap (a*2 ^ (min b.toNat k.bits))
def jm(k:IntKind)(a b:Int):Int:=a.fdiv (2 ^ (min b.toNat k.bits))
def kV(t:ab)(xs:List t.aj)(i:Int):t.aj:=xs.getD i.toNat t.df
def b_(n:Nat):Prop:=n<=4294967296
def gN:(t:ab)->t.aj->t.aj->Bool
 | .bool,x,y=>x == y
 | .int _,x,y=>decide ((x:Int)=y)
 | .str,x,y=>decide ((x:List UInt8)=y)
 | .st t,x,y=>gN t x y
 | .aA a b,x,y=>gN a x.1 y.1&&gN b x.2 y.2
 | _,_,_=>false
def ab.kW:ab->Bool
 | .bool | .int _ | .str=>true
 | .st t=>t.kW
 | .aA a b=>a.kW&&b.kW
 | _=>false
end Go.Fer
namespace Go.Fer
open Go.RowKit
section
variable {P:Program} {H:Nat->bK} {κ:Nat->bB} {F F':Nat->Prop} {w:World}
def ev(P:Program)(H:Nat->bK)(κ:Nat->bB)(F:Nat->Prop)(w:World):List aH->List Value->Prop
 | [],[]=>True
 | a::as,v::aD=>(bz P H κ F w a v/\v.oneCell'=true)/\ev P H κ F w as aD
 | _,_=>False
theorem ev.append:∀ {as bs:List aH} {us aD:List Value},ev P H κ F w as us->ev P H κ F w bs aD->ev P H κ F w (as++bs) (us++aD)
 | [],_,[],_,_,k=>k
 | _::_,_,_::_,_,h,k=>⟨h.1,ev.append h.2 k⟩
 | [],_,_::_,_,h,_=>h.elim
 | _::_,_,[],_,h,_=>h.elim
theorem ev.len:∀ {as:List aH} {us:List Value},ev P H κ F w as us->as.length=us.length
 | [],[],_=>rfl
 | _::_,_::_,h=>by simp[ev.len h.2]
 | [],_::_,h=>h.elim
 | _::_,[],h=>h.elim
theorem ev.kV:∀ {as:List aH} {us:List Value},ev P H κ F w as us->∀ i,i<as.length->bz P H κ F w (hj as i) (us.getD i Go.undef)/\(us.getD i Go.undef).oneCell'=true
 | a::as,v::aD,h,0,_=>h.1
 | a::as,v::aD,h,i+1,G=>by
  have:=ev.kV h.2 i (by grind);simpa [hj]using this
 | [],[],_,i,G=>by grind
 | [],_::_,h,_,_=>h.elim
 | _::_,[],h,_,_=>h.elim
theorem ev.RF:∀ {as:List aH} {us:List Value},as.length=us.length->(∀ i,i<as.length->bz P H κ F w (hj as i) (us.getD i Go.undef)/\(us.getD i Go.undef).oneCell'=true)->ev P H κ F w as us
 | [],[],_,_=>trivial
 | a::as,v::aD,ai,h=>⟨h 0 (by simp),ev.RF (by grind) λi G=>by have:=h (i+1) (by grind);simpa [hj]using this⟩
 | [],_::_,ai,_=>by grind
 | _::_,[],ai,_=>by grind
theorem zC:∀ (t:ab) {cs:List Value} {x:t.aj},bI P t F w cs x->ev P H κ F w (nU t x) cs:=by
 have eN:∀ (t:ab),t.eG=true->∀ {cs:List Value} {x:t.aj},bI P t F w cs x->ev P H κ F w [.val t x] cs:=by
  intro t aM cs x h;obtain⟨u,rfl,hu⟩:=Cl aM h;exact⟨⟨(dU aM).2 ⟨hu,h⟩,KC aM h⟩,trivial⟩
 intro t;induction t with
 | bool=>intro cs x h;exact eN _ rfl h
 | int k=>intro cs x h;exact eN (.int k) rfl h
 | str=>intro cs x h;exact eN _ rfl h
 | cT=>intro cs x h;simp only[bI]at h;subst h;trivial
 | st t aI=>intro cs x h;simp only[bI]at h;exact aI h
 | aA a b fx eK=>
  intro cs x h;simp only[bI]at h;obtain⟨c,d,rfl,a_,W⟩:=h;exact (fx a_).append (eK W)
 | slice e aI=>intro cs x h;exact eN (.slice e) rfl h
 | array n e aI=>
  intro cs xs h;simp only[bI]at h;obtain⟨fo,rfl,E,U,ag⟩:=h;simp only[nU];have key:∀ (k:Nat) (l:List (List Value)),(∀ i (G:i<l.length),ev P H κ F w (nU e (List.getD xs (k+i) e.df)) l[i])->ev P H κ F w ((List.range' k l.length).flatMap λi=>nU e (List.getD xs i e.df)) l.flatten:=by
   intro k l;induction l generalizing k with
   | nil=>intro _;trivial
   | cons c l adm=>
    intro cU;simp only[List.length_cons,List.range'_succ,List.flatMap_cons,List.flatten_cons];refine ev.append ?_ (adm (k+1) λi G=>?_)
    ·have:=cU 0 (by simp);grind
    ·have:=cU (i+1) (by grind);grind
  rw[List.range_eq_range',<-E];grind
 | bH e aI=>intro cs x h;exact eN (.bH e) rfl h
 | map k v xb xc=>intro cs x h;exact eN (.map k v) rfl h
 | fn a b fx eK=>intro cs x h;exact eN (.fn a b) rfl h
 | cr a aI=>intro cs x h;exact eN (.cr a) rfl h
 | eo=>intro cs x h;exact eN .eo rfl h
theorem KF{e:ab}{xs:List e.aj}{k:bB}(aT:jG P H κ F w k (.bh e xs))(bn:∀ r,F r->F' r)(al:k.e6=false->F' k.aa):bI P (.slice e) F' w [k.slice xs.length] xs:=by
 obtain⟨E,U⟩:=aT;simp only[bI,bB.slice];cases aw:k.e6 with
 | true=>rw[E aw];exact⟨none,0,rfl,Nat.le_refl _,by decide,λ_=>rfl,λp ao=>by simp⟩
 | false=>
  obtain⟨cs,T,bD,c2,c3,c4,c5⟩:=U aw;refine⟨some ⟨k.aa,k.off,none⟩,k.cap,by simp,c3,c4,(by simp),λp ao _=>?_⟩;cases ao;refine⟨al aw,rfl,λi G=>?_⟩;obtain⟨bj,d1,d2⟩:=c5 i G;refine⟨bj,⟨al aw,rfl,λj aF=>?_⟩,fc e bn (c6.refl F w) d2⟩;simp only[World.cell?,bD];grind
theorem FZ{t cW:ab}{x:t.aj}{y:cW.aj}{v:Value}(hc:eS t cW x=some y)(h:ep P t F w v x):ep P cW F w v y:=by
 obtain⟨e,rfl⟩:=kU hc;grind
theorem tV{t cW:ab}{x:t.aj}{y:cW.aj}{cs:List Value}(hc:eS t cW x=some y)(h:bI P t F w cs x):bI P cW F w cs y:=by
 obtain⟨e,rfl⟩:=kU hc;grind
def iY(H:Nat->bK)(κ:Nat->bB)(F':Nat->Prop)(l:List Nat):Prop:=∀ b∈l,(H b).body.bZ (κ b)=true->F' (κ b).aa
theorem iY.left{l m:List Nat}(h:iY H κ F' (l++m)):iY H κ F' l:=λb W=>h b (List.mem_append_left _ W)
theorem iY.right{l m:List Nat}(h:iY H κ F' (l++m)):iY H κ F' m:=λb W=>h b (List.mem_append_right _ W)
theorem RG{mq pv:ab}{es:List (mq.aj×pv.aj)}{k:bB}(aT:jG P H κ F w k (.mp mq pv es))(bn:∀ r,F r->F' r)(al:F' k.aa):bI P (.map mq pv) F' w [.map (some k.aa)] es:=by
 obtain⟨ms,clk,E,U⟩:=aT;obtain⟨U,ag,a7,bN⟩:=U.mono bn (c6.refl F w);exact .inr ⟨_,ms,clk,rfl,al,E,U,ag,a7,bN⟩
theorem F1{e:ab}{xs:List e.aj}{k:bB}{aY G:Nat}{v:Value}(h:bI P (.slice e) F' w [k.slice xs.length] xs)(E:aY<=G)(U:G<=xs.length)(aE:FY k e.size aY G v) :
  bI P (.slice e) F' w [v] ((xs.take G).drop aY):=by
 have hlen:((xs.take G).drop aY).length=G - aY:=by grind
 obtain⟨a,cap,ay,bD,c2,c3,c4⟩:=h;rcases aE with⟨aw,rfl⟩ | ⟨aw,o,rfl,gE,gF⟩
 ·have:xs=[]:=by
   simp only[bB.slice,aw,if_true,List.cons.injEq,Value.slice.injEq,and_true]at ay;grind
  subst this;have bF:(([]:List e.aj).take G).drop aY=[]:=by simp
  rw[bF];exact⟨none,0,rfl,Nat.le_refl _,by decide,λ_=>rfl,λp ao=>by simp⟩
 ·simp only[bB.slice,aw,Bool.false_eq_true,if_false,List.cons.injEq,Value.slice.injEq,and_true]at ay;obtain⟨rfl,_,rfl⟩:=ay;refine⟨some ⟨k.aa,o,none⟩,k.cap - aY,by grind,by omega,by omega,(by simp),λp ao vn=>?_⟩;cases ao;obtain⟨d1,d2,d3⟩:=c4 _ rfl (by omega);refine⟨d1,rfl,λi dJ=>?_⟩;obtain⟨bj,m1,m2⟩:=d3 (aY+i) (by omega);grind
theorem KG(aT:∀ b,cD P H κ F w b)(bn:∀ r,F r->F' r){t:ab}(aM:t.eG=true){av:aH}{v:Value}{x:t.aj}{l:List Nat}(h:(dW t av).run H=some (x,l))
  (ai:iY H κ F' l) (ae:bz P H κ F w av v):ep P t F' w v x:=by
 cases av with
 | undef=>cases h
 | hE b a=>cases h
 | bd b g off=>cases h
 | oH b g i off=>cases h
 | iX b g i=>cases h
 | iC k n c=>
  cases t<;>simp only[dW,aq.none,aq.bM,reduceCtorEq]at h;split at h
  ·rename_i aw;subst aw;cases h;obtain⟨aD,rfl,ai,_⟩:=ae;obtain rfl:=List.eq_nil_of_length_eq_zero ai;exact (dU rfl).2 ⟨rfl,rfl⟩
  ·cases h
 | sk k n c=>cases h
 | qp n f=>cases h
 | agg n f=>cases h
 | j9 b g=>cases h
 | aX l aK L n st=>cases h
 | hh l=>cases h
 | xg e xs=>cases h
 | sub b g aY G=>
  cases t<;>simp only[dW,aq.none,aq.bM,aq.e1,reduceCtorEq]at h;rename_i e;split at h
  ·rename_i aC;obtain⟨qu,iq⟩:=ae;have jJ:=aT b;unfold cD at jJ;cases bS:(H b).body with
   | bh aZ xs=>
    rw[bS]at h jJ iq;simp only[Option.map_eq_some_iff,Prod.mk.injEq]at h;obtain⟨z,bk,rfl,rfl⟩:=h;obtain⟨⟨aR,aW⟩,bL⟩:=iq aC.symm rfl;exact (dU rfl).2 ⟨FU qu.2,tV bk (F1 (KF jJ bn λaw=>ai b (by simp) (by rw[bS];simp[bQ.bZ,aw])) aR aW bL)⟩
   | hF aZ xs=>
    rw[bS]at h jJ iq;simp only[Option.map_eq_some_iff,Prod.mk.injEq]at h;obtain⟨z,bk,rfl,rfl⟩:=h;obtain⟨⟨aR,aW⟩,bL⟩:=iq aC.symm rfl;exact (dU rfl).2 ⟨FU qu.2,tV bk (F1 (fc (.slice aZ) bn (c6.refl F w) jJ) aR aW bL)⟩
   | _=>rw[bS]at h;cases h
  grind
 | fH b g=>
  cases t<;>simp only[dW,aq.none,aq.bM,aq.e1,reduceCtorEq]at h;rename_i k e;split at h
  ·rename_i aC;obtain⟨qu,iq⟩:=ae;have jJ:=aT b;unfold cD at jJ;cases bS:(H b).body with
   | mp k' h8 es=>
    rw[bS]at h jJ iq;simp only[Option.map_eq_some_iff,Prod.mk.injEq]at h;obtain⟨z,bk,rfl,rfl⟩:=h;have:=iq aC.symm rfl;subst this;exact (dU rfl).2 ⟨rfl,tV bk (RG jJ bn (ai b (by simp) (by rw[bS];rfl)))⟩
   | jl k' h8 es=>
    rw[bS]at h jJ iq;simp only[Option.map_eq_some_iff,Prod.mk.injEq]at h;obtain⟨z,bk,rfl,rfl⟩:=h;have:=iq aC.symm rfl;subst this;exact (dU rfl).2 ⟨rfl,tV bk (fc (.map k' h8) bn (c6.refl F w) jJ)⟩
   | _=>rw[bS]at h;cases h
  grind
 | val cW y=>
  simp only[dW,aq.bM,Option.map_eq_some_iff,Prod.mk.injEq]at h;obtain⟨z,bk,rfl,rfl⟩:=h;exact (FZ bk ae).mono bn (c6.refl F w)
 | dn=>
  cases t<;>simp only[dW,aq.none,aq.bM,reduceCtorEq,Option.some.injEq,Prod.mk.injEq]at h;obtain⟨rfl,rfl⟩:=h;simp only[bz]at ae;subst ae;exact (dU rfl).2 ⟨rfl,none,0,rfl,Nat.le_refl _,by decide,λ_=>rfl,λp ao=>by simp⟩
 | an b g=>
  cases t<;>simp only[dW,aq.none,aq.bM,aq.e1,reduceCtorEq]at h;rename_i e;split at h
  ·rename_i aC;obtain⟨qu,iq⟩:=ae;have jJ:=aT b;unfold cD at jJ;cases bS:(H b).body with
   | bh aZ xs=>
    rw[bS]at h jJ iq;simp only[Option.map_eq_some_iff,Prod.mk.injEq]at h;obtain⟨z,bk,rfl,rfl⟩:=h;have:=iq aC.symm rfl;simp only[bQ.len]at this;subst this;refine (dU rfl).2 ⟨by unfold bB.slice;split<;>rfl,tV bk (KF jJ bn λaw=>ai b (by simp) (by rw[bS];simp[bQ.bZ,aw]))⟩
   | hF aZ xs=>
    rw[bS]at h jJ iq;simp only[Option.map_eq_some_iff,Prod.mk.injEq]at h;obtain⟨z,bk,rfl,rfl⟩:=h;have:=iq aC.symm rfl;simp only[bQ.len]at this;subst this;exact (dU rfl).2 ⟨by unfold bB.slice;split<;>rfl,tV bk (fc _ bn (c6.refl F w) jJ)⟩
   | _=>rw[bS]at h;cases h
  grind
 | dV cW y=>
  cases t<;>simp only[dW,aq.none,aq.bM,reduceCtorEq,Option.map_eq_some_iff,Prod.mk.injEq]at h;rename_i e;obtain⟨z,bk,rfl,rfl⟩:=h;obtain⟨p,bj,rfl,U,ag⟩:=ae;refine (dU rfl).2 ⟨rfl,tV bk ?_⟩;exact .inr ⟨p,y,bj,rfl,rfl,U.mono bn (c6.refl F w),fc cW bn (c6.refl F w) ag⟩
 | jF u=>
  simp only[bz]at ae;subst ae;simp only[dW,aq.bM,Option.map_eq_some_iff,Prod.mk.injEq]at h;obtain⟨z,bk,rfl,rfl⟩:=h;unfold Cq at bk;split at bk
  ·cases bk;exact (dU rfl).2 ⟨rfl,.inl ⟨rfl,rfl⟩⟩
  ·cases bk;exact (dU rfl).2 ⟨rfl,.inl ⟨rfl,rfl⟩⟩
  ·cases bk;exact (dU rfl).2 ⟨rfl,rfl⟩
  grind
theorem Cr{n:Nat}{f:Nat->aH}{aD:List Value}(ai:aD.length=n)(h:∀ i,i<n->bz P H κ F w (f i) (aD.getD i Go.undef)/\(aD.getD i Go.undef).oneCell'=true) :
  ev P H κ F w ((List.range n).map f) aD:=by
 refine ev.RF (by grind) λi G=>?_;have dJ:i<n:=by grind
 have:hj ((List.range n).map f) i=f i:=by simp[hj,List.getD_eq_getElem?_getD,dJ]
 grind
theorem RH(aT:∀ b,cD P H κ F w b)(bn:∀ r,F r->F' r){e:ab}{ch:List aH->aq (Option (e.aj×List Nat×List aH))}
  (gn:∀ {cs:List aH} {aD:List Value} {x:e.aj} {l:List Nat} {r:List aH},(ch cs).run H=some (x,l,r)->iY H κ F' l->ev P H κ F w cs aD->∃ c d,aD=c++d/\bI P e F' w c x/\ev P H κ F w r d)
  {av:aH} {v:Value} {x:Option e.aj} {l:List Nat} (h:(tU e ch av).run H=some (x,l)) (ai:iY H κ F' l) (ae:bz P H κ F w av v):ep P (.bH e) F' w v x:=by
 have cm:(dW (.bH e) av).run H=some (x,l)->ep P (.bH e) F' w v x:=λh=>KG aT bn rfl h ai ae;cases av with
 | bd b g off=>
  simp only[tU,aq.e1]at h;split at h
  ·rename_i aC;obtain⟨aC,rfl⟩:=aC;obtain⟨qu,iq⟩:=ae;have jJ:=aT b;unfold cD at jJ;cases bS:(H b).body with
   | gM t y=>
    rw[bS]at h jJ iq;simp only[aq.bM,Option.map_eq_some_iff,Prod.mk.injEq]at h;obtain⟨z,bk,rfl,rfl⟩:=h;obtain⟨eq,rfl⟩:=kU bk;subst eq;obtain rfl:=iq aC.symm rfl;obtain⟨bj,E,U⟩:=jJ;exact (dU rfl).2 ⟨rfl,.inr ⟨_,_,bj,rfl,rfl,E.mono bn (c6.refl F w),fc t bn (c6.refl F w) U⟩⟩
   | cells t f=>
    rw[bS]at h jJ iq;simp only at h;split at h
    ·rename_i aM;subst aM;simp only[aq.e2,Option.bind_eq_some_iff,aq.bM]at h;obtain⟨⟨y,m,q⟩,E,U⟩:=h;split at U
     ·rename_i bq;simp only[Option.some.injEq,Prod.mk.injEq]at U;obtain⟨rfl,rfl⟩:=U;obtain rfl:=iq aC.symm rfl;obtain⟨cs,T,aR,aW,bL⟩:=jJ;have iE:ev P H κ F w ((List.range t.size).map f) cs.toList:=Cr (by omega) λi G=>by
       simp_all
      obtain⟨c,d,KH,bD,c2⟩:=gn E (λbe de=>ai be (List.mem_cons_of_mem _ de)) iE;have bq:q=[]:=List.isEmpty_iff.1 bq;subst bq;cases d with
      | cons _ _=>exact c2.elim
      | nil=>
       rw[List.append_nil]at KH;refine (dU rfl).2 ⟨rfl,.inr ⟨_,y,c,rfl,rfl,⟨ai b (by simp) (by rw[bS];rfl),rfl,λj aF=>?_⟩,bD⟩⟩;have fS:j<cs.size:=by grind
       simp only[World.cell?,aR,Nat.zero_add,Option.isSome_none,Bool.false_eq_true,if_false,Array.getElem?_eq_getElem fS];grind
     grind
    ·cases h
   | _=>rw[bS]at h;cases h
  ·cases h
 | _=>exact cm h
theorem KI(aT:∀ b,cD P H κ F w b)(bn:∀ r,F r->F' r):∀ (t:ab) {cs:List aH} {aD:List Value} {x:t.aj} {l:List Nat} {r:List aH},(im t cs).run H=some (x,l,r)->
  iY H κ F' l->ev P H κ F w cs aD->∃ c d,aD=c++d/\bI P t F' w c x/\ev P H κ F w r d:=by
 have qv:∀ (t:ab) (g:aH->aq (Option (t.aj×List Nat))),t.eG=true->(∀ {av:aH} {v:Value} {x:t.aj} {l:List Nat},(g av).run H=some (x,l)->iY H κ F' l->bz P H κ F w av v->ep P t F' w v x)->
   ∀ {cs:List aH} {aD:List Value} {x:t.aj} {l:List Nat} {r:List aH},(match cs with | c::r=>(g c).map λo=>o.map λ(x,l)=>(x,l,r) | []=>.none:aq (Option (t.aj×List Nat×List aH))).run H=some (x,l,r)->
   iY H κ F' l->ev P H κ F w cs aD->∃ c d,aD=c++d/\bI P t F' w c x/\ev P H κ F w r d:=by
  intro t g aM aC cs aD x l r h ai a_;cases cs with
  | nil=>cases h
  | cons c cs=>
   cases aD with
   | nil=>exact a_.elim
   | cons v aD=>
    simp only[aq.map,aq.run_bind,aq.bM,Option.map_eq_some_iff,Prod.mk.injEq]at h;obtain⟨⟨y,m⟩,bk,rfl,rfl,rfl⟩:=h;refine⟨[v],aD,rfl,?_,a_.2⟩;exact ((dU aM).1 (aC bk ai a_.1.1)).2
 have eN:∀ (t:ab),t.eG=true->∀ {cs:List aH} {aD:List Value} {x:t.aj} {l:List Nat} {r:List aH},(match cs with | c::r=>(dW t c).map λo=>o.map λ(x,l)=>(x,l,r) | []=>.none:aq (Option (t.aj×List Nat×List aH))).run H=some (x,l,r)->
   iY H κ F' l->ev P H κ F w cs aD->∃ c d,aD=c++d/\bI P t F' w c x/\ev P H κ F w r d:=
  λt aM=>qv t (dW t) aM λh ai ae=>KG aT bn aM h ai ae
 intro t;induction t with
 | bool=>intro cs aD x l r h ai a_;exact eN _ rfl h ai a_
 | int k=>intro cs aD x l r h ai a_;exact eN (.int k) rfl h ai a_
 | str=>intro cs aD x l r h ai a_;exact eN _ rfl h ai a_
 | cT=>
  intro cs aD x l r h ai a_;simp only[im,aq.bM,Option.some.injEq,Prod.mk.injEq]at h;obtain⟨_,rfl,rfl⟩:=h;exact⟨[],aD,rfl,rfl,a_⟩
 | st t aI=>intro cs aD x l r h ai a_;exact aI h ai a_
 | aA a b fx eK=>
  intro cs aD x l r h ai a_;simp only[im,aq.e2,Option.bind_eq_some_iff,aq.bM,Option.some.injEq,Prod.mk.injEq]at h;obtain⟨⟨y,m,q⟩,E,⟨z,dx,q'⟩,U,rfl,rfl,rfl⟩:=h;obtain⟨c,d,rfl,bD,c2⟩:=fx E ai.left a_;obtain⟨c',vo,rfl,d1,d2⟩:=eK U ai.right c2;exact⟨c++c',vo,by simp,⟨c,c',rfl,bD,d1⟩,d2⟩
 | slice e aI=>intro cs aD x l r h ai a_;exact eN (.slice e) rfl h ai a_
 | array n e aI=>
  intro cs aD xs l r h ai a_;simp only[im]at h;have key:∀ (n:Nat) {cs:List aH} {aD:List Value} {xs:List e.aj} {l:List Nat} {r:List aH},(n.rec (motive:=λ_=>List aH->aq (Option (List e.aj×List Nat×List aH))) (λcs=>.ret (some ([],[],cs)))
     (λ_ aI cs=>(im e cs).cQ λ(x,l,r)=>(aI r).cQ λ(xs,m,q)=>.ret (some (x::xs,l++m,q))) cs).run H=some (xs,l,r)->
    iY H κ F' l->ev P H κ F w cs aD->
    ∃ fo d,aD=List.flatten fo++d/\fo.length=n/\xs.length=n/\(∀ i (h:i<xs.length) (dt:i<fo.length),bI P e F' w fo[i] xs[i])/\ev P H κ F w r d:=by
   intro n;induction n with
   | zero=>
    intro cs aD xs l r h ai a_;cases h;exact⟨[],aD,rfl,rfl,rfl,λi G=>(by simp),a_⟩
   | succ n Cs=>
    intro cs aD xs l r h ai a_;simp only[aq.e2,Option.bind_eq_some_iff,aq.bM,Option.some.injEq,Prod.mk.injEq]at h;obtain⟨⟨y,m,q⟩,E,⟨z,dx,q'⟩,U,rfl,rfl,rfl⟩:=h;obtain⟨c,d,rfl,bD,c2⟩:=aI E ai.left a_;obtain⟨fo,vo,rfl,d1,d2,d3,d4⟩:=Cs U ai.right c2;refine⟨c::fo,vo,by simp,by grind,by grind,λi G dJ=>?_,d4⟩;grind
  obtain⟨fo,d,ay,aP,cw,ed,gW⟩:=key n h ai a_;exact⟨fo.flatten,d,ay,⟨fo,rfl,aP,cw,ed⟩,gW⟩
 | bH e aI=>intro cs aD x l r h ai a_;exact qv (.bH e) (tU e (im e)) rfl (λh ai ae=>RH aT bn aI h ai ae) h ai a_
 | map k v xb xc=>intro cs aD x l r h ai a_;exact eN (.map k v) rfl h ai a_
 | fn a b fx eK=>intro cs aD x l r h ai a_;exact eN (.fn a b) rfl h ai a_
 | cr a aI=>intro cs aD x l r h ai a_;exact eN (.cr a) rfl h ai a_
 | eo=>intro cs aD x l r h ai a_;exact eN .eo rfl h ai a_
theorem mv(aT:∀ b,cD P H κ F w b)(bn:∀ r,F r->F' r){t:ab}{av:aH}{v:Value}{x:t.aj}{l:List Nat}(h:(dz t av).run H=some (x,l))
  (ai:iY H κ F' l) (ae:bz P H κ F w av v):ep P t F' w v x:=by
 have cm:(ky t av).run H=some (x,l)->ep P t F' w v x:=by
  intro h;unfold ky at h;split at h
  ·exact RH aT bn (λh ai a_=>KI aT bn _ h ai a_) h ai ae
  ·split at h
   ·rename_i aM;exact KG aT bn aM h ai ae
   ·cases h
 cases av with
 | val cW y=>
  simp only[dz,aq.bM,Option.map_eq_some_iff,Prod.mk.injEq]at h;obtain⟨z,bk,rfl,rfl⟩:=h;exact (FZ bk ae).mono bn (c6.refl F w)
 | agg n f=>
  simp only[dz]at h;split at h
  ·cases h
  ·simp only[aq.e2,Option.bind_eq_some_iff,aq.bM]at h;obtain⟨⟨y,m,q⟩,E,U⟩:=h;split at U
   ·rename_i hc;simp only[Bool.and_eq_true,List.isEmpty_iff]at hc;simp only[Option.some.injEq,Prod.mk.injEq]at U;obtain⟨rfl,rfl⟩:=U;obtain⟨aD,rfl,a7,bN⟩:=ae;obtain⟨c,d,rfl,bD,c2⟩:=KI aT bn t E ai (Cr a7 bN);rw[hc.1]at c2;cases d with
    | cons _ _=>exact c2.elim
    | nil=>
     rw[List.append_nil]at *
     have hlen:=hS t bD;have aE:=hc.2;cases t<;>simp only[ab.isAgg,Bool.false_eq_true]at aE
     ·exact⟨⟨c.toArray,rfl,by simpa [ab.size]using hlen⟩,by simpa [Value.cells]using bD⟩
     ·exact⟨⟨c.toArray,rfl,by simpa [ab.size]using hlen⟩,by simpa [Value.cells]using bD⟩
   grind
 | undef=>exact cm h
 | hE b a=>exact cm h
 | bd b g off=>exact cm h
 | an b g=>exact cm h
 | oH b g i off=>exact cm h
 | iX b g i=>exact cm h
 | dV cW y=>exact cm h
 | fH b g=>exact cm h
 | iC k n c=>exact cm h
 | sk k n c=>exact cm h
 | qp n f=>exact cm h
 | dn=>exact cm h
 | jF u=>exact cm h
 | j9 b g=>exact cm h
 | aX l aK L n st=>exact cm h
 | hh l=>exact cm h
 | xg e xs=>exact cm h
 | sub b g aY G=>exact cm h
end
def ab.pure:ab->Bool
 | .bool | .int _ | .str | .cT=>true
 | .st t=>t.pure
 | .aA a b=>a.pure&&b.pure
 | .array _ e=>e.pure
 | _=>false
theorem adn{P:Program}{F F':Nat->Prop}{w w':World}:∀ (t:ab) {cs:List Value} {x:t.aj},t.pure=true->bI P t F w cs x->bI P t F' w' cs x:=by
 intro t;induction t with
 | bool=>intro cs x _ h;exact h
 | int k=>intro cs x _ h;exact h
 | str=>intro cs x _ h;exact h
 | cT=>intro cs x _ h;exact h
 | st t aI=>intro cs x aM h;exact aI aM h
 | aA a b fx eK=>
  intro cs x aM h;simp only[ab.pure,Bool.and_eq_true]at aM;obtain⟨c,d,rfl,a_,W⟩:=h;exact⟨c,d,rfl,fx aM.1 a_,eK aM.2 W⟩
 | slice e aI=>intro cs x aM;cases aM
 | array n e aI=>
  intro cs x aM h;obtain⟨fo,rfl,E,U,ag⟩:=h;exact⟨fo,rfl,E,U,λi G dJ=>aI aM (ag i G dJ)⟩
 | bH e aI=>intro cs x aM;cases aM
 | map k v xb xc=>intro cs x aM;cases aM
 | fn a b fx eK=>intro cs x aM;cases aM
 | cr a aI=>intro cs x aM;cases aM
 | eo=>intro cs x aM;cases aM
end Go.Fer
namespace Go.Fer
open Go.RowKit
section
variable {P:Program} {F:Nat->Prop} {w:World}
theorem ado{t:ab}{x y:t.aj}(h:eS t t x=some y):y=x:=by
 obtain⟨e,rfl⟩:=kU h;rfl
theorem RI:∀ (t:ab) {f:Nat} {cs:List Value} {x:t.aj} {s:ab} {y:s.aj},bI P t F w cs x->vm t x f=some ⟨s,y⟩->
  ∃ bD c2 c3,cs=bD++(c2++c3)/\bI P s F w c2 y/\mu t f=some (s,bD.length):=by
 have eN:∀ (t:ab),(∀ a b,t≠.aA a b)->t≠.cT->∀ {f:Nat} {cs:List Value} {x:t.aj} {s:ab} {y:s.aj},bI P t F w cs x->vm t x f=some ⟨s,y⟩->
   ∃ bD c2 c3,cs=bD++(c2++c3)/\bI P s F w c2 y/\mu t f=some (s,bD.length):=by
  intro t E U f cs x s y h au;cases f with
  | zero=>
   have e:vm t x 0=some ⟨t,x⟩:=by cases t<;>first | rfl | grind | grind
   have aZ:mu t 0=some (t,0):=by cases t<;>first | rfl | grind | grind
   rw[e]at au;cases au;exact⟨[],cs,[],by simp,h,aZ⟩
  | succ f=>
   have e:vm t x (f+1)=none:=by cases t<;>first | rfl | grind
   grind
 intro t;induction t with
 | aA a b fx eK=>
  intro f cs x s y h au;simp only[bI]at h;obtain⟨c,d,rfl,a_,W⟩:=h;cases f with
  | zero=>
   simp only[vm,Option.some.injEq,Sigma.mk.injEq]at au;obtain⟨rfl,au⟩:=au;cases au;exact⟨[],c,d,by simp,a_,rfl⟩
  | succ f=>
   obtain⟨bD,c2,c3,rfl,aR,aW⟩:=eK W au;refine⟨c++bD,c2,c3,by simp,aR,?_⟩;simp[mu,aW,hS a a_]
 | cT=>intro f cs x s y _ au;cases f<;>cases au
 | bool=>grind
 | int k=>grind
 | str=>grind
 | st t _=>grind
 | slice e _=>grind
 | array n e _=>grind
 | bH e _=>grind
 | map k v _ _=>grind
 | fn a b _ _=>grind
 | cr a _=>grind
 | eo=>grind
theorem RJ:∀ (t:ab) {off:Nat} {cs:List Value} {x:t.aj} {s:ab} {y:s.aj},bI P t F w cs x->so t x off s=some y->
  ∃ bD c2 c3,cs=bD++(c2++c3)/\bD.length=off/\bI P s F w c2 y:=by
 have eN:∀ (t:ab) {off:Nat} {cs:List Value} {x:t.aj} {s:ab} {y:s.aj},bI P t F w cs x->(if off=0 then eS t s x else none)=some y->
   ∃ bD c2 c3,cs=bD++(c2++c3)/\bD.length=off/\bI P s F w c2 y:=by
  intro t off cs x s y h au;split at au
  ·rename_i af;exact⟨[],cs,[],by simp,af.symm,tV au h⟩
  grind
 intro t;induction t with
 | aA a b fx eK=>
  intro off cs x s y h au;simp only[bI]at h;obtain⟨c,d,rfl,a_,W⟩:=h;simp only[so]at au;split at au
  ·grind
  ·obtain⟨bD,c2,c3,rfl,aR,aW⟩:=eK W au;have:=hS a a_;grind
 | st t aI=>
  intro off cs x s y h au;simp only[so]at au;split at au
  ·rename_i af;exact⟨[],cs,[],by simp,af.1.symm,tV au h⟩
  ·simp only[bI]at h;grind
 | cT=>intro off cs x s y _ au;cases au
 | array n e _=>intro off cs x s y _ au;cases au
 | bool=>intro off cs x s y h au;exact eN _ h au
 | int k=>intro off cs x s y h au;exact eN (.int k) h au
 | str=>intro off cs x s y h au;exact eN _ h au
 | slice e _=>intro off cs x s y h au;exact eN (.slice e) h au
 | bH e _=>intro off cs x s y h au;exact eN (.bH e) h au
 | map k v _ _=>intro off cs x s y h au;exact eN (.map k v) h au
 | fn a b _ _=>intro off cs x s y h au;exact eN (.fn a b) h au
 | cr a _=>intro off cs x s y h au;exact eN (.cr a) h au
 | eo=>intro off cs x s y h au;exact eN .eo h au
theorem adp:∀ (t:ab) {off:Nat} {cs bj:List Value} {x dI:t.aj} {s:ab} {y:s.aj},bI P t F w cs x->xk t x off s y=some dI->bI P s F w bj y->
  ∃ bD c2 c3,cs=bD++(c2++c3)/\bD.length=off/\c2.length=s.size/\bI P t F w (bD++(bj++c3)) dI:=by
 have eN:∀ (t:ab) {off:Nat} {cs bj:List Value} {x dI:t.aj} {s:ab} {y:s.aj},bI P t F w cs x->(if off=0 then eS s t y else none)=some dI->bI P s F w bj y->
   ∃ bD c2 c3,cs=bD++(c2++c3)/\bD.length=off/\c2.length=s.size/\bI P t F w (bD++(bj++c3)) dI:=by
  intro t off cs bj x dI s y h au ar;split at au
  ·rename_i af;obtain⟨e,rfl⟩:=kU au;subst e;exact⟨[],cs,[],by simp,af.symm,hS s h,by grind⟩
  grind
 intro t;induction t with
 | aA a b fx eK=>
  intro off cs bj x dI s y h au ar;simp only[bI]at h;obtain⟨c,d,rfl,a_,W⟩:=h;simp only[xk]at au;split at au
  ·simp only[Option.map_eq_some_iff]at au;obtain⟨z,bk,rfl⟩:=au;obtain⟨bD,c2,c3,rfl,aR,aW,bL⟩:=fx a_ bk ar;exact⟨bD,c2,c3++d,by simp,aR,aW,⟨_,d,by simp,bL,W⟩⟩
  ·simp only[Option.map_eq_some_iff]at au;obtain⟨z,bk,rfl⟩:=au;obtain⟨bD,c2,c3,rfl,aR,aW,bL⟩:=eK W bk ar;have:=hS a a_;exact⟨c++bD,c2,c3,by simp,by grind,aW,⟨c,_,by simp,a_,bL⟩⟩
 | st t aI=>
  intro off cs bj x dI s y h au ar;simp only[xk]at au;split at au
  ·rename_i af;obtain⟨af,e⟩:=af;subst e;have:=ado au;subst this;exact⟨[],cs,[],by simp,af.symm,hS _ h,by grind⟩
  ·simp only[bI]at h ⊢;grind
 | cT=>intro off cs bj x dI s y _ au;cases au
 | array n e _=>intro off cs bj x dI s y _ au;cases au
 | bool=>intro off cs bj x dI s y h au ar;exact eN _ h au ar
 | int k=>intro off cs bj x dI s y h au ar;exact eN (.int k) h au ar
 | str=>intro off cs bj x dI s y h au ar;exact eN _ h au ar
 | slice e _=>intro off cs bj x dI s y h au ar;exact eN (.slice e) h au ar
 | bH e _=>intro off cs bj x dI s y h au ar;exact eN (.bH e) h au ar
 | map k v _ _=>intro off cs bj x dI s y h au ar;exact eN (.map k v) h au ar
 | fn a b _ _=>intro off cs bj x dI s y h au ar;exact eN (.fn a b) h au ar
 | cr a _=>intro off cs bj x dI s y h au ar;exact eN (.cr a) h au ar
 | eo=>intro off cs bj x dI s y h au ar;exact eN .eo h au ar
end
def j':ab->List Value->Option (List Value)
 | .cT,cs=>some cs
 | .st t,cs=>j' t cs
 | .aA a b,cs=>(j' a cs).bind (j' b)
 | .array n e,cs=>n.rec (motive:=λ_=>List Value->Option (List Value)) some (λ_ aI cs=>(j' e cs).bind aI) cs
 | .bool,cs=>match cs with | .bool false::r=>some r | _=>none
 | .int k,cs=>match cs with | .int k' n::r=>if k'=k/\n=0 then some r else none | _=>none
 | .str,cs=>match cs with | .string s::r=>if s.size=0 then some r else none | _=>none
 | .slice _,cs=>match cs with | .slice none 0 0::r=>some r | _=>none
 | .bH _,cs=>match cs with | .pointer none::r=>some r | _=>none
 | .map _ _,cs=>match cs with | .map none::r=>some r | _=>none
 | .fn _ _,cs=>match cs with | .nilFunc::r=>some r | _=>none
 | .cr _,cs=>match cs with | .nilFunc::r=>some r | _=>none
 | .eo,cs=>match cs with | .nilFunc::r=>some r | _=>none
theorem RL(k:IntKind):fR k 0:=by cases k<;>decide
theorem vp{P:Program}{H:Nat->bK}{κ:Nat->bB}{F:Nat->Prop}{w:World}:∀ (t:ab) {cs r:List Value},j' t cs=some r->
  ∃ c,cs=c++r/\bI P t F w c t.df/\ev P H κ F w (sn t) c:=by
 intro t;induction t with
 | cT=>intro cs r h;cases h;exact⟨[],by simp,rfl,trivial⟩
 | st t aI=>intro cs r h;exact aI h
 | aA a b fx eK=>
  intro cs r h;simp only[j',Option.bind_eq_some_iff]at h;obtain⟨q,E,U⟩:=h;obtain⟨c,rfl,bD,c2⟩:=fx E;obtain⟨d,rfl,d1,d2⟩:=eK U;exact⟨c++d,by simp,⟨c,d,rfl,bD,d1⟩,c2.append d2⟩
 | array n e aI=>
  intro cs r h;simp only[j']at h;have key:∀ (n k:Nat) {cs r:List Value},n.rec (motive:=λ_=>List Value->Option (List Value)) some (λ_ aI cs=>(j' e cs).bind aI) cs=some r->
    ∃ fo:List (List Value),cs=fo.flatten++r/\fo.length=n/\(∀ c∈fo,bI P e F w c e.df)/\ev P H κ F w ((List.range' k n).flatMap λ_=>sn e) fo.flatten:=by
   intro n;induction n with
   | zero=>intro k cs r h;cases h;exact⟨[],by simp,rfl,by simp,trivial⟩
   | succ n Cs=>
    intro k cs r h;simp only[Option.bind_eq_some_iff]at h;obtain⟨q,E,U⟩:=h;obtain⟨c,rfl,bD,c2⟩:=aI E;obtain⟨fo,rfl,d1,d2,d3⟩:=Cs (k+1) U;refine⟨c::fo,by simp,by grind,?_,?_⟩
    ·grind
    ·simp only[List.range'_succ,List.flatMap_cons,List.flatten_cons];exact c2.append d3
  obtain⟨fo,rfl,E,U,ag⟩:=key n 0 h;refine⟨fo.flatten,rfl,⟨fo,rfl,E,by simp[ab.df],λi G dJ=>?_⟩,?_⟩
  ·have:(ab.array n e).df[i]=e.df:=by simp[ab.df]
   grind
  ·simp only[sn,List.range_eq_range'];exact ag
 | bool=>
  intro cs r h;simp only[j']at h;split at h
  ·cases h;exact⟨[.bool false],rfl,rfl,⟨fe.2 rfl,rfl⟩,trivial⟩
  grind
 | int k=>
  intro cs r h;simp only[j']at h;split at h
  ·split at h
   ·rename_i al;obtain⟨rfl,rfl⟩:=al;cases h;exact⟨[.int _ 0],rfl,⟨rfl,RL _⟩,⟨gV.2 ⟨rfl,RL _⟩,rfl⟩,trivial⟩
   grind
  grind
 | str=>
  intro cs r h;simp only[j']at h;split at h
  ·rename_i s qo;split at h
   ·rename_i aE;cases h;have:s=⟨([]:List UInt8).toArray⟩:=by
     cases s with | mk d=>simp only[ByteArray.size]at aE;grind
    subst this;exact⟨[.string ⟨([]:List UInt8).toArray⟩],rfl,⟨rfl,by decide⟩,⟨mo.2 ⟨rfl,by decide⟩,rfl⟩,trivial⟩
   grind
  grind
 | slice e _=>
  intro cs r h;simp only[j']at h;split at h
  ·cases h;exact⟨[.slice none 0 0],rfl,⟨none,0,rfl,Nat.le_refl _,by decide,λ_=>rfl,λp ao=>by simp⟩,⟨rfl,rfl⟩,trivial⟩
  grind
 | bH e _=>
  intro cs r h;simp only[j']at h;split at h
  ·cases h;exact⟨[.pointer none],rfl,.inl ⟨rfl,rfl⟩,⟨(dU rfl).2 ⟨rfl,.inl ⟨rfl,rfl⟩⟩,rfl⟩,trivial⟩
  grind
 | map k v _ _=>
  intro cs r h;simp only[j']at h;split at h
  ·cases h;exact⟨[.map none],rfl,.inl ⟨rfl,rfl⟩,⟨(dU rfl).2 ⟨rfl,.inl ⟨rfl,rfl⟩⟩,rfl⟩,trivial⟩
  grind
 | fn a b _ _=>
  intro cs r h;simp only[j']at h;split at h
  ·cases h;exact⟨[.nilFunc],rfl,⟨.nilFunc,rfl,⟨rfl,rfl⟩,λF' w' _ _ _ _ args x _ _ aE=>(show False from aE).elim⟩,⟨rfl,rfl⟩,trivial⟩
  grind
 | cr a _=>
  intro cs r h;simp only[j']at h;split at h
  ·cases h;exact⟨[.nilFunc],rfl,⟨.nilFunc,rfl,⟨rfl,rfl⟩,λF' w' _ _ _ _ aE=>(show ∃ _,False from aE).elim λ_ h=>h.elim⟩,⟨rfl,rfl⟩,trivial⟩
  grind
 | eo=>
  intro cs r h;simp only[j']at h;split at h
  ·cases h;exact⟨[.nilFunc],rfl,rfl,⟨(dU rfl).2 ⟨rfl,rfl⟩,rfl⟩,trivial⟩
  grind
def oI(P:Program)(t:ab)(id:TypeId):Bool:=
 match P.info? id with
 | some i=>i.size == t.size&&decide (i.bytes<=1024)&&(match i.zero with
  | some z=>(match j' t z.cells.toList with | some []=>true | _=>false)&&(match t,z with
   | .st _,.agg _=>true
   | .array _ _,.agg _=>true
   | .st _,_=>false
   | .array _ _,_=>false
   | _,.agg _=>false
   | _,_=>true)
  | none=>false)
 | none=>false
def cE(P:Program):ab->Sum TypeId (List Field×Nat)->Bool
 | .aA a b, .inr (f :: g :: [], off) => f.offset == off && cE P a (.inl f.type) && a.size != 0 && f.name != "_" && (g.offset == off + a.size && cE P b (.inl g.type) && b.size != 0 && g.name != "_")
 | .aA a b, .inr (f :: g :: h :: eT, off) => f.offset == off && cE P a (.inl f.type) && a.size != 0 && f.name != "_" && cE P b (.inr (g :: h :: eT, off + a.size))
 | .st t,.inl id=>oI P (.st t) id&&!P.stoodInHeld id&&!P.eqGuardType P.depth id&&match P.underlying id with
  | some (.struct eT)=>(match eT.toList with
   | []=>decide (t=.cT)
   | [f] => f.offset == 0 && cE P t (.inl f.type) && t.size != 0 && f.name != "_"
   | l=>cE P t (.inr (l,0)))
  | _=>false
 | .bool,.inl id=>oI P .bool id&&(match P.underlying id with | some .bool=>true | _=>false)
 | .int k,.inl id=>oI P (.int k) id&&(match P.underlying id with | some (.int k')=>decide (k'=k) | _=>false)
 | .str,.inl id=>oI P .str id&&(match P.underlying id with | some .string=>true | _=>false)
 | .slice e,.inl id=>oI P (.slice e) id&&(match P.underlying id with | some (.slice i)=>cE P e (.inl i)&&e.size != 0 | _=>false)
 | .array n e,.inl id=>oI P (.array n e) id&&(match P.underlying id with | some (.array m i)=>decide (m=n)&&cE P e (.inl i)&&e.size != 0 | _=>false)
 | .bH e,.inl id=>oI P (.bH e) id&&(match P.underlying id with | some (.pointer i)=>cE P e (.inl i)&&e.size != 0 | _=>false)
 | .map k v,.inl id=>oI P (.map k v) id&&(match P.underlying id with | some (.map i j)=>cE P k (.inl i)&&cE P v (.inl j) | _=>false)
 | .fn a b,.inl id=>oI P (.fn a b) id&&(match P.underlying id with | some (.func _ _ _)=>true | _=>false)
 | .cr a,.inl id=>oI P (.cr a) id&&(match P.underlying id with | some (.func _ _ _)=>true | _=>false)
 | .eo,.inl id=>oI P .eo id&&(match P.underlying id with | some (.func _ _ _)=>true | _=>false)
 | _,_=>false
def b8(P:Program)(t:ab)(id:TypeId):Prop:=cE P t (.inl id)=true
theorem b8.kz{P:Program}{t:ab}{id:TypeId}(h:b8 P t id):oI P t id=true:=by
 unfold b8 at h;cases t<;>simp only[cE,Bool.and_eq_true,Bool.false_eq_true]at h<;>first | exact h.1.1.1 | exact h.1
theorem kA{P:Program}{t:ab}{id:TypeId}(h:oI P t id=true):∃ i z,P.info? id=some i/\i.size=t.size/\i.bytes<=1024/\i.zero=some z/\
  j' t z.cells.toList=some []/\((∃ cs,z=.agg cs)<->t.isAgg=true):=by
 unfold oI at h;split at h
 ·rename_i i G;simp only[Bool.and_eq_true,beq_iff_eq,decide_eq_true_eq]at h;obtain⟨⟨E,U⟩,ag⟩:=h;split at ag
  ·rename_i z bk;simp only[Bool.and_eq_true]at ag;obtain⟨a7,bN⟩:=ag;refine⟨i,z,G,E,U,bk,?_,?_⟩
   ·grind
   ·cases t<;>cases z<;>simp_all[ab.isAgg]
  grind
 grind
end Go.Fer
namespace Go.Fer
open Go.RowKit
structure eB where
 cb:Prop
 c:Prop
 e7:aH
 hG:List (Nat×bK)
def use:aH->Prop×aH
 | .hE b a=>(b=true,a)
 | a=>(True,a)
def xl:Value->aH
 | .bool b=>.val .bool b
 | .int k n=>if fR k n then .val (.int k) n else .jF (.int k n)
 | .string s=>if s.size<1048576 then .val .str s.data.toList else .jF (.string s)
 | .slice none 0 0=>.dn
 | v=>.jF v
def a1(aQ:dD)(s:Nat->aH):Operand->aH
 | .tmp t=>s t
 | .const v=>xl v
 | .func f=>match aQ.tS f with
  | some v=>.val (.fn v.ts v.aX) v.sh
  | none=>.iC f 0 λ_=>.undef
 | .global _=>.undef
structure aN where
 ts:ab
 aX:ab
 pre:ts.aj->Prop
 g:ts.aj->aX.aj
def kB:(t:ab)->t.aj->Nat->aH
 | .aA a _,x,0=>.val a x.1
 | .aA _ b,x,i+1=>kB b x.2 i
 | t,x,0=>.val t x
 | _,_,_+1=>.undef
def ka:ab->Nat
 | .aA _ b=>ka b+1
 | .cT=>0
 | _=>1
def rl(t:ab)(x:t.aj):aH:=
 match t with
 | .aA a b=>.qp (ka (.aA a b)) (kB (.aA a b) x)
 | .cT=>.jF (.tuple #[])
 | t=>.val t x
def iZ:(t:ab)->List aH->aq (Option (t.aj×List Nat))
 | .aA a b,v::aD=>(dz a v).cQ λ(x,l)=>(iZ b aD).cQ λ(y,m)=>.ret (some ((x,y),l++m))
 | .aA _ _,[]=>.none
 | .cT,[]=>.ret (some ((),[]))
 | .cT,_::_=>.none
 | t,[v]=>dz t v
 | _,_=>.none
def jK:List Nat->aq (List (Nat×bK))
 | []=>.ret []
 | b::l=>.eR b λx=>(jK l).bind λr=>match x.body with
  | .bh e xs=>.ret ((b,⟨x.gen,.hF e xs⟩)::r)
  | .mp k v es=>.ret ((b,⟨x.gen,.jl k v es⟩)::r)
  | .cells t f=>(im t ((List.range t.size).map f)).bind λo=>.ret (match o with
   | some (y,_,[])=>(b,⟨x.gen,.gM t y⟩)::r
   | _=>r)
  | _=>.ret r
def cellsOf(t:ab)(av:aH):Option (List aH):=
 match t,av with
 | .st t,.val (.st cW) x=>if cW=t then some (nU cW x) else none
 | .st t,.agg n f=>if n=t.size then some ((List.range n).map f) else none
 | .array n e,.val (.array i_ aZ) x=>if i_=n/\aZ=e then some (nU (.array i_ aZ) x) else none
 | .array n e,.agg m f=>if m=n*e.size then some ((List.range m).map f) else none
 | t,av=>if t.eG then (match av with
  | .val cW _=>if cW.eG then some [av] else none
  | .bd _ _ _ | .an _ _ | .oH _ _ _ _ | .dV _ _ | .fH _ _ | .iC _ _ _ | .dn | .sub _ _ _ _=>some [av]
  | .jF (.agg _) | .jF (.tuple _)=>none
  | .jF _=>some [av]
  | _=>none) else none
def aH.mw:aH->Option (IntKind×Int)
 | .val (.int k) x=>some (k,x)
 | _=>none
def aH.tW:aH->Option (List UInt8)
 | .val .str x=>some x
 | _=>none
def zD(op:BinOp)(k:IntKind)(a b:Int):Option (Prop×aH):=
 match op with
 | .add=>some (True,.val (.int k) (k.wrap (a+b)))
 | .sub=>some (True,.val (.int k) (k.wrap (a - b)))
 | .mul=>some (True,.val (.int k) (k.wrap (a*b)))
 | .quo=>some (b≠0,.val (.int k) (k.wrap (a.tdiv b)))
 | .rem=>some (b≠0,.val (.int k) (a.tmod b))
 | .and=>some (True,.val (.int k) (lO k a b))
 | .or=>some (True,.val (.int k) (RC k a b))
 | .xor=>some (True,.val (.int k) (RD k a b))
 | .andNot=>some (True,.val (.int k) (RE k a b))
 | .eql=>some (True,.val .bool (decide (a=b)))
 | .neq=>some (True,.val .bool (decide (a≠b)))
 | .lss=>some (True,.val .bool (decide (a<b)))
 | .leq=>some (True,.val .bool (decide (a<=b)))
 | .gtr=>some (True,.val .bool (decide (a > b)))
 | .geq=>some (True,.val .bool (decide (a>=b)))
 | _=>none
def KJ(op:BinOp)(k:IntKind)(a b:Int):Option (Prop×aH):=
 match op with
 | .shl=>some (0<=b,.val (.int k) (adl k a b))
 | .shr=>some (0<=b,.val (.int k) (jm k a b))
 | _=>none
def Ct(op:BinOp)(a b:List UInt8):Option (Prop×aH):=
 match op with
 | .add=>some (b_ (a.length+b.length),.val .str (a++b))
 | .eql=>some (True,.val .bool (decide (a=b)))
 | .neq=>some (True,.val .bool (decide (a≠b)))
 | .lss=>some (True,.val .bool (Op.bytesLess a b))
 | .geq=>some (True,.val .bool (!Op.bytesLess a b))
 | _=>none
def ab.kc:ab->Nat
 | .st t=>t.kc+1
 | .aA a b=>max a.kc b.kc
 | _=>1
def zE(op:BinOp)(t:ab)(x y:aH):aq (Option (Prop×aH)):=
 (match t,x,y with
 | .bH _,.val (.bH _) p,.jF (.pointer none)=>.ret (some p.isNone)
 | .bH _,.dV _ _,.jF (.pointer none)=>.ret (some false)
 | .bH _,.bd b g _,.jF (.pointer none)=>.eR b λz=>.ret (if z.gen=g&&z.body.fI then some false else none)
 | t,x,y=>if t.kW&&decide (t.kc<=100) then (dz t x).cQ λ(a,_)=>(dz t y).cQ λ(b,_)=>.ret (some (gN t a b)) else .none:aq (Option Bool)).cQ λe=>
 .ret (match op with
  | .eql=>some (True,.val .bool e)
  | .neq=>some (True,.val .bool (!e))
  | _=>none)
def bO(cb c:Prop)(v:aH):aq (Option eB):=.ret (some ⟨cb,c,v,[]⟩)
def F2(t:ab)(av:aH):aq (Option (Prop×Int)):=
 match t with
 | .slice _=>match av with
  | .val (.slice _) xs=>.ret (some (True,xs.length))
  | .dn=>.ret (some (True,0))
  | .an b g=>.eR b λx=>.ret (if x.gen=g&&x.body.ff then some (True,x.body.len) else none)
  | .sub b g aY G=>.eR b λx=>.ret (if x.gen=g&&x.body.ff then some (True,((G - aY:Nat):Int)) else none)
  | _=>.none
 | .str=>match av with
  | .val .str xs=>.ret (some (True,xs.length))
  | _=>.none
 | .map _ _=>match av with
  | .val (.map _ _) xs=>.ret (some (b_ xs.length,xs.length))
  | .fH b g=>.eR b λx=>.ret (if x.gen=g then (match x.body with | .mp _ _ es=>some (b_ es.length,(es.length:Int)) | .jl _ _ es=>some (b_ es.length,(es.length:Int)) | _=>none) else none)
  | _=>.none
 | _=>.none
def zF(t:ab):aH->aq (Option aH)
 | .dV cW x=>.ret (if cW=t/\(t.eG||t.isAgg)=true then some (.val cW x) else none)
 | .bd b g off=>.eR b λx=>.ret (if x.gen=g then (match x.body with
   | .cells t0 f=>if t.eG then (if off<t0.size then some (f off) else none) else if t.isAgg then (if off+t.size<=t0.size then some (.agg t.size λi=>f (off+i)) else none) else none
   | .gM t0 y=>if t.eG||t.isAgg then (so t0 y off t).map (.val t) else none
   | _=>none) else none)
 | .oH b g i off=>.eR b λx=>.ret (if x.gen=g then (match x.body with
   | .bh e xs=>if t.eG||t.isAgg then (so e (xs.getD i e.df) off t).map (.val t) else none
   | .hF e xs=>if t.eG||t.isAgg then (so e (xs.getD i e.df) off t).map (.val t) else none
   | _=>none) else none)
 | _=>.none
def putCells(f:Nat->aH)(off:Nat)(l:List aH):Nat->aH:=λi=>if off<=i/\i<off+l.length then l.getD (i - off) .undef else f i
def RM(t:ab)(p v:aH):aq (Option (List (Nat×bK))):=
 match p with
 | .bd b g off=>.eR b λx=>.ret (if x.gen=g then (match x.body with
   | .cells t0 f=>(cellsOf t v).bind λl=>if off+l.length<=t0.size/\l.length=t.size then some [(b,⟨x.gen,.cells t0 (putCells f off l)⟩)] else none
   | _=>none) else none)
 | .oH b g i off=>(dz t v).cQ λ(y,l)=>(jK l).bind λwl=>.eR b λx=>.ret (if x.gen=g/\!l.contains b then (match x.body with
   | .bh e xs=>(xk e (xs.getD i e.df) off t y).map λz=>wl++[(b,⟨x.gen,.bh e (xs.set i z)⟩)]
   | _=>none) else none)
 | _=>.none
def RN(bF:ab)(x:aH)(i:Int):aq (Option (Prop×aH)):=
 match x with
 | .val (.slice e) xs=>.ret (if e=bF then some (0<=i/\i<(xs.length:Int),.dV e (kV e xs i)) else none)
 | .an b g=>.eR b λz=>.ret (if z.gen=g then (match z.body with
   | .bh e xs=>if e=bF then some (0<=i/\i<(xs.length:Int),.oH b g i.toNat 0) else none
   | .hF e xs=>if e=bF then some (0<=i/\i<(xs.length:Int),.dV e (kV e xs i)) else none
   | _=>none) else none)
 | .sub b g aY G=>.eR b λz=>.ret (if z.gen=g then (match z.body with
   | .bh e _=>if e=bF then some (0<=i/\i<((G - aY:Nat):Int),.oH b g (aY+i.toNat) 0) else none
   | .hF e xs=>if e=bF then some (0<=i/\i<((G - aY:Nat):Int),.dV e (kV e xs ((aY:Int)+i))) else none
   | _=>none) else none)
 | .dn=>.ret (some (False,.dV bF bF.df))
 | _=>.none
def dr:Option Int->Int | some l=>l | none=>0
def fz(n:Nat):Option Int->Int | some h=>h | none=>n
def Cu(aY G:Option Int)(n m:Nat):Nat:=match aY,G with | some _,some _=>m | _,_=>n
def RO(bF:ab)(x:aH)(aY G:Option Int):aq (Option (Prop×aH)):=
 match x with
 | .val (.slice e) xs=>.ret (if e=bF then some (0<=dr aY/\dr aY<=fz xs.length G/\fz xs.length G<=(xs.length:Int),.val (.slice e) ((xs.take (fz xs.length G).toNat).drop (dr aY).toNat)) else none)
 | .dn=>.ret (some (0<=dr aY/\dr aY<=fz 0 G/\fz 0 G<=0,.dn))
 | .an b g=>.eR b λz=>.ret (if z.gen=g&&z.body.ff&&z.body.e0 == bF.size then some (0<=dr aY/\dr aY<=fz z.body.len G/\fz z.body.len G<=(z.body.len:Int),.sub b g (dr aY).toNat (fz z.body.len G).toNat) else none)
 | .sub b g fg aU=>.eR b λz=>.ret (if z.gen=g&&z.body.ff&&z.body.e0 == bF.size then some (0<=dr aY/\dr aY<=fz (aU - fg) G/\fz (aU - fg) G<=((Cu aY G (aU - fg) (z.body.len - fg):Nat):Int),.sub b g (fg+(dr aY).toNat) (fg+(fz (aU - fg) G).toNat)) else none)
 | _=>.none
def RP(x:aH)(aY G:Option Int):Option (Prop×aH):=
 match x with
 | .val .str xs=>some (0<=dr aY/\dr aY<=fz xs.length G/\fz xs.length G<=(xs.length:Int),.val .str ((xs.take (fz xs.length G).toNat).drop (dr aY).toNat))
 | _=>none
def h9(d:Option Nat)(k:Nat->Nat->Option eB):aq (Option eB):=
 match d with
 | none=>.none
 | some d=>.eR d λx=>.ret (k d (x.gen+1))
def KK(d:Option Nat)(e:ab)(x y:aH)(cb:Prop):aq (Option eB):=
 match x with
 | .an b g=>.eR b λz=>match (if z.gen=g then z.body else .fy) with
  | .bh aZ xs=>if h:aZ=e then (dz (.slice e) y).cQ λ(ys,_)=>.ret (some ⟨cb,b_ (xs.length+ys.length),.an b (g+1),[(b,⟨g+1,.bh e ((h ▸ xs)++ys)⟩)]⟩) else .none
  | _=>.none
 | .sub b g aY G=>.eR b λz=>match (if z.gen=g then z.body else .fy) with
  | .bh aZ xs=>if h:aZ=e then (dz (.slice e) y).cQ λ(ys,_)=>.ret (some ⟨cb,b_ (((xs.take G).drop aY).length+ys.length),.an b (g+2),[(b,⟨g+2,.bh e ((h ▸ (xs.take G).drop aY)++ys)⟩)]⟩) else .none
  | _=>.none
 | .dn=>(dz (.slice e) y).cQ λ(ys,_)=>h9 d λb g=>some ⟨cb,b_ ys.length,.an b g,[(b,⟨g,.bh e ys⟩)]⟩
 | .xg aZ xs=>if h:aZ=e then (dz (.slice e) y).cQ λ(ys,_)=>h9 d λb g=>some ⟨cb,0<ys.length/\b_ (xs.length+ys.length),.an b g,[(b,⟨g,.bh e ((h ▸ xs)++ys)⟩)]⟩ else .none
 | _=>.none
def F3(t:ab):List aH->List (Nat×aH)->Option (List aH)
 | cs,[]=>some cs
 | cs,(i,av)::r=>
  match mu t i with
  | none=>none
  | some (s,off)=>match cellsOf s av with
   | none=>none
   | some l=>if l.length=s.size/\off+s.size<=cs.length then F3 t (cs.take off++(l++cs.drop (off+s.size))) r else none
def tX(e:ab)(ps:List (Nat×aH)):Nat->Nat->aq (Option (List e.aj×List Nat))
 | _,0=>.ret (some ([],[]))
 | i,n+1=>(match ps.find? (λp=>p.1 == i) with
   | some p=>dz e p.2
   | none=>.ret (some (e.df,[])):aq (Option (e.aj×List Nat))).cQ λ(x,l)=>(tX e ps (i+1) n).cQ λ(xs,m)=>.ret (some (x::xs,l++m))
def sq(ps:List (Nat×aH)):Prop:=ps.foldr (λp q=>match p.2 with | .hE b _=>b=true/\q | _=>q) True
def iF(ps:List (Nat×aH)):List (Nat×aH):=ps.map λp=>(p.1,(use p.2).2)
def jL(ps:List aH):Prop:=ps.foldr (λp q=>match p with | .hE b _=>b=true/\q | _=>q) True
def lk(aJ:Operand->aH):Option Operand->Option (Prop×Option Int)
 | none=>some (True,none)
 | some x=>match use (aJ x) with
  | (o,.val (.int _) n)=>some (o,some n)
  | _=>none
def F4(T:Nat->ab)(aJ:Operand->aH)(ty:TypeId)(x:Operand)(aY G:Option Operand):aq (Option eB):=
 let (cC,dY):=use (aJ x)
 match lk aJ aY,lk aJ G with
 | some (ol,l),some (rm,h)=>match T ty with
  | .slice e=>(RO e dY l h).cQ λ(c,v)=>bO (cC/\(ol/\rm)) c v
  | .str=>match RP dY l h with
   | some (c,v)=>bO (cC/\(ol/\rm)) c v
   | none=>.none
  | _=>.none
 | _,_=>.none
def RQ(bF:ab)(x:aH)(aY G:Option Int)(m:Int):aq (Option (Prop×aH)):=
 match x with
 | .val (.slice e) xs=>.ret (if e=bF then some (0<=dr aY/\dr aY<=fz xs.length G/\fz xs.length G=m/\m<=(xs.length:Int),.xg e ((xs.take m.toNat).drop (dr aY).toNat)) else none)
 | .dn=>.ret (some (dr aY=0/\fz 0 G=0/\m=0,.xg bF []))
 | .an b g=>.eR b λz=>.ret (if z.gen=g&&z.body.ff then some (0<=dr aY/\dr aY<=fz z.body.len G/\fz z.body.len G<=m/\m<=(z.body.len:Int),.undef) else none)
 | _=>.none
def F5(T:Nat->ab)(aJ:Operand->aH)(ty:TypeId)(x:Operand)(aY G py:Option Operand):aq (Option eB):=
 let (cC,dY):=use (aJ x)
 match lk aJ aY,lk aJ G,lk aJ py with
 | some (ol,l),some (rm,some h),some (vq,some m)=>match T ty with
  | .slice e=>(RQ e dY l (some h) m).cQ λ(c,v)=>bO (cC/\(ol/\(rm/\vq))) c v
  | _=>.none
 | _,_,_=>.none
def Cv(T:Nat->ab)(aJ:Operand->aH)(args:List Operand)(dp:List TypeId):aq (Option eB):=
 match args,dp with
 | [x],[t]=>let (cC,dY):=use (aJ x);(F2 (T t) dY).cQ λ(c,n)=>bO cC c (.val (.int .i64) n)
 | _,_=>.none
def Cw(T:Nat->ab)(aJ:Operand->aH)(d:Option Nat)(args:List Operand)(dp:List TypeId):aq (Option eB):=
 match args,dp with
 | [x,y],[t,u]=>match T t,T u with
  | .slice e,.slice _=>let (cC,dY):=use (aJ x);let (nV,kC):=use (aJ y);KK d e dY kC (cC/\nV)
  | _,_=>.none
 | _,_=>.none
def mT(aJ:Operand->aH)(k:IntKind):List Operand->Option (Prop×z1')
 | []=>none
 | [x]=>match (use (aJ x)).2.mw with
  | some (k',n)=>if k'=k then some ((use (aJ x)).1,[n]) else none
  | none=>none
 | x::l=>match (use (aJ x)).2.mw,mT aJ k l with
  | some (k',n),some (cb,h_)=>if k'=k then some ((use (aJ x)).1/\cb,n::h_) else none
  | _,_=>none
def sr(aJ:Operand->aH)(f:Int->Int->Int)(args:List Operand):aq (Option eB):=
 match args with
 | x::y::l=>match (use (aJ x)).2.mw with
  | some (k,a)=>match mT aJ k (y::l) with
   | some (cb,h_)=>bO ((use (aJ x)).1/\cb) True (.val (.int k) (h_.foldl f a))
   | none=>.none
  | none=>.none
 | _=>.none
def Cx(T:Nat->ab)(aJ:Operand->aH)(args:List Operand)(dp:List TypeId):aq (Option eB):=
 match args,dp with
 | [x],[t]=>match T t,use (aJ x) with
  | .slice _,(cC,.dn)=>bO cC True (.val (.int .i64) 0)
  | _,_=>.none
 | _,_=>.none
def nW(t:ab):Bool:=match t with | .aA (.slice _) .cT=>true | _=>false
def Cy(t:ab)(y:t.aj):Option ((e:ab)×List e.aj):=match t,y with | .aA (.slice e) .cT,y=>some ⟨e,y.1⟩ | _,_=>none
def F6(bf:Nat->Option aN)(aJ:Operand->aH)(d:Option Nat)(k:Nat)(args:List Operand):aq (Option eB):=
 let l:=args.map aJ
 match bf k with
 | some c=>(iZ c.ts (l.map λv=>(use v).2)).cQ λ(x,bV)=>match Cy c.aX (c.g x) with
  | some y=>(jK bV).bind λwl=>h9 d λb g=>if bV.contains b then none else some ⟨jL l,c.pre x,.an b g,wl++[(b,⟨g,.bh y.1 y.2⟩)]⟩
  | none=>(if c.aX.pure then .ret [] else jK bV:aq (List (Nat×bK))).bind λwl=>.ret (some ⟨jL l,c.pre x,rl c.aX (c.g x),wl⟩)
 | none=>.none
def zG{k v:ab}(es:List (k.aj×v.aj))(x:k.aj):Option v.aj:=(es.find? λp=>gN k x p.1).map (·.2)
def lP{k v:ab}:List (k.aj×v.aj)->k.aj->v.aj->List (k.aj×v.aj)
 | [],x,y=>[(x,y)]
 | p::es,x,y=>if gN k x p.1=true then (p.1,y)::es else p::lP es x y
def tY(k:ab):Bool:=k.kW&&decide (k.kc<=100)
def Cz(k v:ab)(m:aH):aq (Option (List (k.aj×v.aj))):=
 match m with
 | .val t es=>.ret (eS t (.map k v) es)
 | .jF (.map none)=>.ret (some [])
 | .fH b g=>.eR b λx=>.ret (if x.gen=g then (match x.body with
   | .mp k' h8 es=>eS (.map k' h8) (.map k v) es
   | .jl k' h8 es=>eS (.map k' h8) (.map k v) es
   | _=>none) else none)
 | _=>.none
def RR(v:ab)(r:Option v.aj)(ok:Bool):aH:=
 match ok with
 | true=>.qp 2 (hj [.val v (r.getD v.df),.val .bool r.isSome])
 | false=>.val v (r.getD v.df)
def zH(T:Nat->ab)(aJ:Operand->aH)(ty:TypeId)(m x:Operand)(ok:Bool):aq (Option eB):=
 match T ty with
 | .map k v=>let (vq,KL):=use (aJ m);let (cC,dY):=use (aJ x);if tY k&&(v.eG||v.isAgg) then
   (Cz k v KL).cQ λes=>(dz k dY).cQ λ(y,_)=>
    bO (vq/\cC) True (RR v (zG es y) ok)
  else .none
 | _=>.none
def rn(T:Nat->ab)(aJ:Operand->aH)(ty:TypeId)(m x y:Operand):aq (Option eB):=
 match T ty with
 | .map k v=>let (vq,KL):=use (aJ m);let (cC,dY):=use (aJ x);let (nV,kC):=use (aJ y);if tY k then
   match KL with
   | .fH b g=>(dz k dY).cQ λ(x,oJ)=>(dz v kC).cQ λ(y,oK)=>(jK (oJ++oK)).bind λwl=>.eR b λz=>.ret (if z.gen=g/\!(oJ++oK).contains b then (match z.body with
     | .mp k' h8 es=>(eS (.map k' h8) (.map k v) es).map λes=>⟨vq/\cC/\nV,True,.undef,wl++[(b,⟨z.gen,.mp k v (lP es x y)⟩)]⟩
     | _=>none) else none)
   | _=>.none
  else .none
 | _=>.none
def F7(T:Nat->ab)(aJ:Operand->aH)(d:Option Nat)(ty:TypeId)(l c:Operand):aq (Option eB):=
 match T ty with
 | .slice e=>let (ol,adq):=use (aJ l);let (qw,adr):=use (aJ c);match adq.mw,adr.mw with
  | some (.i64,n),some (.i64,m)=>h9 d λb g=>some ⟨ol/\qw,0<=n/\n=m/\b_ n.toNat,.an b g,[(b,⟨g,.bh e (List.replicate n.toNat e.df)⟩)]⟩
  | _,_=>.none
 | _=>.none
def gh{ak:Type}(xs:List ak)(aY:Nat)(ys:List ak):List ak:=xs.take aY++ys++xs.drop (aY+ys.length)
def F8(T:Nat->ab)(aJ:Operand->aH)(args:List Operand)(dp:List TypeId):aq (Option eB):=
 match args,dp with
 | [x,y],[t,u]=>match T t,T u with
  | .slice e,.slice _=>let (cC,dY):=use (aJ x);let (nV,kC):=use (aJ y);match (match dY with | .an b g=>some (b,g,0,none) | .sub b g aY G=>some (b,g,aY,some G) | _=>none:Option (Nat×Nat×Nat×Option Nat)) with
   | some (b,g,aY,G)=>(dz (.slice e) kC).cQ λ(ys,_)=>.eR b λz=>.ret (if z.gen=g then (match z.body with
     | .bh aZ xs=>if h:aZ=e then some ⟨cC/\nV,True,.val (.int .i64) ((min (G.getD xs.length - aY) ys.length:Nat):Int),[(b,⟨z.gen,.bh e (gh (h ▸ xs) aY (ys.take (G.getD xs.length - aY)))⟩)]⟩ else none
     | _=>none) else none)
   | none=>.none
  | _,_=>.none
 | _,_=>.none
def xm(aJ:Operand->aH)(args:List Operand):Option (Nat×Nat×Nat×Nat):=
 match args with
 | [x,y]=>match (use (aJ x)).2,(use (aJ y)).2 with
  | .sub b g aY G,.sub be g' _ _=>if be=b/\g'=g then some (b,g,aY,G) else none
  | _,_=>none
 | _=>none
def CA(T:Nat->ab)(aJ:Operand->aH)(args:List Operand)(dp:List TypeId)(b g aY G:Nat):aq (Option eB):=
 match args,dp with
 | [x,y],[t,u]=>match T t,T u with
  | .slice e,.slice _=>let (cC,_):=use (aJ x);let (nV,kC):=use (aJ y);(dz (.slice e) kC).cQ λ(ys,_)=>.eR b λz=>.ret (if z.gen=g then (match z.body with
    | .bh aZ xs=>if h:aZ=e then some ⟨cC/\nV,G+ys.length<=xs.length,.sub b g aY (G+ys.length),[(b,⟨z.gen,.bh e (gh (h ▸ xs) G ys)⟩)]⟩ else none
    | _=>none) else none)
  | _,_=>.none
 | _,_=>.none
def CB(T:Nat->ab)(aJ:Operand->aH)(args:List Operand)(dp:List TypeId):aq (Option eB):=
 match args,dp with
 | [x],[t]=>match T t with
  | .slice e=>let (cC,dY):=use (aJ x);match dY with
   | .sub b g aY G=>.eR b λz=>.ret (if z.gen=g then (match z.body with
     | .bh aZ xs=>if h:aZ=e then some ⟨cC,True,.undef,[(b,⟨z.gen,.bh e (gh (h ▸ xs) aY (List.replicate (G - aY) e.df))⟩)]⟩ else none
     | _=>none) else none)
   | _=>.none
  | _=>.none
 | _,_=>.none
def mU(T:Nat->ab)(bf:Nat->Option aN)(aJ:Operand->aH)(d:Option Nat)(c:Call):aq (Option eB):=
 match c.callee with
 | .builtin b=>match b with
  | .len=>Cv T aJ c.args.toList c.argTypes.toList
  | .append=>match xm aJ c.args.toList with
   | some (b,g,aY,G)=>CA T aJ c.args.toList c.argTypes.toList b g aY G
   | none=>Cw T aJ d c.args.toList c.argTypes.toList
  | .clear=>CB T aJ c.args.toList c.argTypes.toList
  | .copy=>F8 T aJ c.args.toList c.argTypes.toList
  | .min=>sr aJ (λa b=>if b<a then b else a) c.args.toList
  | .max=>sr aJ (λa b=>if b > a then b else a) c.args.toList
  | .cap=>Cx T aJ c.args.toList c.argTypes.toList
  | _=>.none
 | .value f=>match f with
  | .func k=>F6 bf aJ d k c.args.toList
  | _=>.none
 | _=>.none
def vr(ys:z1'):List UInt8:=ys.map λn=>UInt8.ofNat n.toNat
def RS(t:ab)(cb:Prop)(b g i:Nat):aq (Option eB):=
 .eR b λz=>.ret (match z.body with
  | .gj _ _ ll v=>if z.gen=g/\t.eG=true then some ⟨cb,i=ll,v,[]⟩ else none
  | _=>none)
def KM(t:ab)(cb:Prop)(b g i:Nat)(v:aH):aq (Option eB):=
 match v with
 | .an be g'=>.eR b λz=>.ret (match z.body with
  | .gj e xs ll _=>if z.gen=g/\t.eG=true then some ⟨cb,i=ll,.undef,[(b,⟨z.gen,.gj e xs ll (.an be g')⟩)]⟩ else none
  | _=>none)
 | _=>.none
def bt(aQ:dD)(T:Nat->ab)(bf:Nat->Option aN)(aJ:Operand->aH)(o:Oper):aq (Option eB):=
 match o.op with
 | .move x=>bO True True (aJ x)
 | .assign x=>match aJ x,T o.type with
  | .dn,.slice e=>h9 o.dst λb g=>some ⟨True,True,.an b g,[(b,⟨g,.bh e []⟩)]⟩
  | v,_=>bO True True v
 | .pick c a b=>match use (aJ c) with
  | (qw,.val .bool i')=>match a,b with
   | _,.const (.bool false)=>match use (aJ a) with
    | (zI,.val .bool av)=>bO (qw/\(i'=true->zI)) True (.val .bool (i'&&av))
    | _=>.none
   | .const (.bool true),_=>match use (aJ b) with
    | (cb,.val .bool bv)=>bO (qw/\(i'=false->cb)) True (.val .bool (i'||bv))
    | _=>.none
   | _,_=>.none
  | _=>.none
 | .binOp op ty x y _=>
  let (cC,dY):=use (aJ x)
  let (nV,kC):=use (aJ y)
  match dY.mw,kC.mw with
  | some (k,a),some (k',b)=>(match op with
   | .shl | .shr=>match KJ op k a b with
    | some (c,v)=>bO (cC/\nV) c v
    | none=>.none
   | _=>if k=k' then (match zD op k a b with
    | some (c,v)=>bO (cC/\nV) c v
    | none=>.none) else .none)
  | _,_=>match dY.tW,kC.tW with
   | some a,some b=>match Ct op a b with
    | some (c,v)=>bO (cC/\nV) c v
    | none=>.none
   | _,_=>(zE op (T ty) dY kC).cQ λ(c,v)=>bO (cC/\nV) c v
 | .unOp op _ x=>match op,use (aJ x) with
  | .not,(cC,.val .bool b)=>bO cC True (.val .bool (!b))
  | .neg,(cC,.val (.int k) n)=>bO cC True (.val (.int k) (k.wrap (0 - n)))
  | _,_=>.none
 | .extract x i=>match use (aJ x) with
  | (cC,.qp n f)=>if i<n then bO cC True (f i) else .none
  | _=>.none
 | .nilCheck x=>match use (aJ x) with
  | (cC,.iX b g i)=>.eR b λz=>.ret (if z.gen=g&&z.body.ff then some ⟨cC,True,.iX b g i,[]⟩ else none)
  | (cC,.dV t d)=>bO cC True (.dV t d)
  | (cC,.val (.bH e) p)=>bO cC (p.isSome=true) (.dV e (p.getD e.df))
  | (cC,.bd b g off)=>.eR b λz=>.ret (if z.gen=g&&z.body.fI then some ⟨cC,True,.bd b g off,[]⟩ else none)
  | _=>.none
 | .fieldAddr ty x f=>match T ty with
  | .st t=>match mu t f with
   | some (_,xn)=>match use (aJ x) with
    | (cC,.bd b g off)=>.eR b λz=>.ret (if z.gen=g&&z.body.fI then some ⟨cC,True,.bd b g (off+xn),[]⟩ else none)
    | (cC,.oH b g i off)=>.eR b λz=>.ret (if z.gen=g&&z.body.ff then some ⟨cC,True,.oH b g i (off+xn),[]⟩ else none)
    | (cC,.iX b g i)=>.eR b λz=>.ret (if z.gen=g&&z.body.ff&&xn == 0 then some ⟨cC,True,.iX b g i,[]⟩ else none)
    | (cC,.dV (.st cW) d)=>if cW=t then (match vm cW d f with
     | some ⟨s',y⟩=>bO cC True (.dV s' y)
     | none=>.none) else .none
    | _=>.none
   | none=>.none
  | _=>.none
 | .field ty x f=>match T ty with
  | .st t=>match use (aJ x) with
   | (cC,.val (.st cW) d)=>if cW=t then (match vm cW d f with
     | some ⟨s',y⟩=>bO cC True (.val s' y)
     | none=>.none) else .none
   | _=>.none
  | _=>.none
 | .load ty x=>match use (aJ x) with
  | (cC,.iX b g i)=>RS (T ty) cC b g i
  | (cC,dY)=>(zF (T ty) dY).cQ λv=>bO cC True v
 | .store ty x y=>let (nV,kC):=use (aJ y);match use (aJ x) with
  | (cC,.iX b g i)=>KM (T ty) (cC/\nV) b g i kC
  | (cC,dY)=>(RM (T ty) dY kC).cQ λwl=>.ret (some ⟨cC/\nV,True,.undef,wl⟩)
 | .alloc ty=>h9 o.dst λb g=>if T ty=.cT then none else some ⟨True,True,.bd b g 0,[(b,⟨g,.cells (T ty) (hj (sn (T ty)))⟩)]⟩
 | .box ty x=>let (cC,dY):=use (aJ x);match cellsOf (T ty) dY with
  | some l=>h9 o.dst λb g=>if l.length=(T ty).size then some ⟨cC,True,.bd b g 0,[(b,⟨g,.cells (T ty) (hj l)⟩)]⟩ else none
  | none=>.none
 | .build ty ps=>let l:=ps.toList.map λp=>(p.1,aJ p.2);match T ty with
  | .st t=>match F3 t (sn t) (iF l) with
   | some cs=>bO (sq l) True (.agg cs.length (hj cs))
   | none=>.none
  | .array m e=>(tX e (iF l) 0 m).cQ λ(xs,bV)=>if (bV.isEmpty&&decide ((iF l).map (·.1)).Nodup&&(iF l).all (λp=>decide (p.1<m)))=true then bO (sq l) True (.val (.array m e) xs) else .none
  | _=>.none
 | .buildSlice ty n ps=>let l:=ps.toList.map λp=>(p.1,aJ p.2);match T ty with
  | .slice e=>(tX e (iF l) 0 n).cQ λ(xs,bV)=>(jK bV).bind λwl=>h9 o.dst λb g=>if n*e.size<=65536/\(!bV.contains b&&decide ((iF l).map (·.1)).Nodup&&(iF l).all (λp=>decide (p.1<n)))=true then some ⟨sq l,True,.an b g,wl++[(b,⟨g,.bh e xs⟩)]⟩ else none
  | _=>.none
 | .indexAddr ty x i=>let (cC,dY):=use (aJ x);let (xo,KN):=use (aJ i);match T ty,KN.mw with
  | .slice e,some (_,n)=>(RN e dY n).cQ λ(c,v)=>bO (cC/\xo) c v
  | .array m e,some (_,n)=>match dY with
   | .dV (.array dx aZ) xs=>if dx=m/\aZ=e then bO (cC/\xo) (0<=n/\n<(m:Int)) (.dV aZ (kV aZ xs n)) else .none
   | .bd b g off=>.eR b λz=>.ret (if z.gen=g&&z.body.fI then some ⟨cC/\xo,0<=n/\n<(m:Int),.bd b g (off+n.toNat*e.size),[]⟩ else none)
   | _=>.none
  | _,_=>.none
 | .index ty x i=>let (cC,dY):=use (aJ x);let (xo,KN):=use (aJ i);match T ty,dY.tW,KN.mw with
  | .str,some s,some (_,n)=>bO (cC/\xo) (0<=n/\n<(s.length:Int)) (.val (.int .u8) ((s.getD n.toNat 0).toNat:Int))
  | .array m e,_,some (_,n)=>match dY with
   | .val (.array dx aZ) xs=>if dx=m/\aZ=e then bO (cC/\xo) (0<=n/\n<(m:Int)) (.val aZ (kV aZ xs n)) else .none
   | .agg k f=>if k=m*e.size then bO (cC/\xo) (0<=n/\n<(m:Int)) (if e.isAgg=true then .agg e.size (λq=>f (n.toNat*e.size+q)) else f (n.toNat*e.size)) else .none
   | _=>.none
  | _,_,_=>.none
 | .convert a b x=>let (cC,dY):=use (aJ x);match T a,T b,dY.mw with
  | .int _,.int k,some (_,n)=>bO cC True (.val (.int k) (k.wrap n))
  | .slice (.int .u8),.str,_=>(dz (.slice (.int .u8)) dY).cQ λ(ys,_)=>bO cC True (.val .str (vr ys))
  | _,_,_=>.none
 | .makeFunc fn first c1=>match fn with
  | .func k=>let l:=c1.toList.map aJ;if first.isEmpty then (match aQ.tT k with
   | some v=>(iZ (gi (v.cs.map .bH)) (l.map λv=>(use v).2)).cQ λ(y,bV)=>(jK bV).bind λwl=>.ret (some ⟨jL l,True,.val (.fn (gi v.as) v.aX) (λx=>v.sh (FW v.as (v.cs.map .bH) x y)),wl⟩)
   | none=>match aQ.xf k with
    | some v=>(iZ (gi (v.cs.map .bH)) (l.map λv=>(use v).2)).cQ λ(y,bV)=>(jK bV).bind λwl=>.ret (some ⟨jL l,True,.val (.cr v.aK) (v.S y),wl⟩)
    | none=>bO (jL l) True (.iC k l.length (hj (l.map λv=>(use v).2)))) else (if c1.isEmpty then bO (jL (first.toList.map aJ)) True (.sk k first.size (hj ((first.toList.map aJ).map λv=>(use v).2))) else .none)
  | _=>.none
 | .makeMap ty r=>if r.isSome then .none else match T ty with
  | .map k v=>h9 o.dst λb g=>some ⟨True,True,.fH b g,[(b,⟨g,.mp k v []⟩)]⟩
  | _=>.none
 | .lookup ty m x ok=>zH T aJ ty m x ok
 | .mapUpdate ty m x y=>rn T aJ ty m x y
 | .insert ty m x y=>rn T aJ ty m x y
 | .makeSlice ty l c=>F7 T aJ o.dst ty l c
 | .makeInterface _ _=>bO True False .undef
 | .panic _=>bO True False .undef
 | .slice ty x aY G py=>if py.isSome then F5 T aJ ty x aY G py else F4 T aJ ty x aY G
 | .call c=>mU T bf aJ o.dst c
 | _=>.none
def dR(r:Option Nat):Fence:={ Fence.wide with round:=r }
section
variable {P:Program} {w:World}
theorem dB{t:TypeId}{d:TypeDesc}(h:P.underlying t=some d):(underlying t).run P w=.ok d w:=by simp[underlying,h]
theorem F9{t:TypeId}{i:TypeInfo}(h:P.info? t=some i):(typeInfo t).run P w=.ok i w:=by simp[typeInfo,h]
theorem ss{t:TypeId}{i:TypeInfo}(h:P.info? t=some i):(sizeOf t).run P w=.ok i.size w:=by simp[sizeOf,F9 h]
theorem rp{t:TypeId}{i:TypeInfo}{z:Value}(h:P.info? t=some i)(bk:i.zero=some z):(zeroValue t).run P w=.ok z w:=by simp[zeroValue,F9 h,bk]
theorem b8.size{t:ab}{id:TypeId}(h:b8 P t id):(sizeOf id).run P w=.ok t.size w:=by
 obtain⟨i,z,E,U,_⟩:=kA h.kz;rw[ss E,U]
theorem b8.st{t:ab}{id:TypeId}(h:b8 P (.st t) id):∃ eT,P.underlying id=some (.struct eT):=by
 unfold b8 at h;simp only[cE,Bool.and_eq_true]at h;grind
theorem b8.sl{e:ab}{id:TypeId}(h:b8 P (.slice e) id):∃ i,P.underlying id=some (.slice i)/\b8 P e i/\e.size≠0:=by
 unfold b8 at h;simp only[cE,Bool.and_eq_true]at h;obtain⟨_,h⟩:=h;split at h
 ·rename_i i G;simp only[Bool.and_eq_true,bne_iff_ne,ne_eq]at h;exact⟨i,G,h.1,h.2⟩
 grind
theorem ads:∀ (t:ab) {l:List Field} {F_ f off:Nat} {s:ab},cE P t (.inr (l,F_))=true->mu t f=some (s,off)->
  ∃ nX,l[f]?=some nX/\nX.offset=F_+off/\b8 P s nX.type/\s.size≠0:=by
 intro t;induction t with
 | aA a b fx eK=>
  intro l F_ f off s h au;match l,h with
  | [],h=>simp only[cE,Bool.false_eq_true]at h
  | [x],h=>simp only[cE,Bool.false_eq_true]at h
  | [x,y],h=>
   simp only[cE,Bool.and_eq_true,beq_iff_eq,bne_iff_ne,ne_eq]at h;obtain⟨⟨⟨⟨E,U⟩,ag⟩,_⟩,⟨⟨a7,bN⟩,du⟩,_⟩:=h;cases f with
   | zero=>simp only[mu,Option.some.injEq,Prod.mk.injEq]at au;obtain⟨rfl,rfl⟩:=au;exact⟨x,rfl,E,U,ag⟩
   | succ f=>
    simp only[mu,Option.map_eq_some_iff,Prod.mk.injEq]at au;obtain⟨⟨s',hU⟩,au,rfl,rfl⟩:=au;have W:∃ u,mu b f=some u/\f=0/\u=(b,0):=by
     cases b<;>cases f<;>simp only[mu,reduceCtorEq]at au<;>first
      | exact⟨_,au,rfl,by cases au;rfl⟩
      | (simp only[cE,Bool.false_eq_true]at bN)
    obtain⟨u,hu,rfl,rfl⟩:=W;rw[hu]at au;cases au;exact⟨y,rfl,by omega,bN,du⟩
  | x::y::z::l,h=>
   simp only[cE,Bool.and_eq_true,beq_iff_eq,bne_iff_ne,ne_eq]at h;obtain⟨⟨⟨⟨E,U⟩,ag⟩,_⟩,a7⟩:=h;cases f with
   | zero=>simp only[mu,Option.some.injEq,Prod.mk.injEq]at au;obtain⟨rfl,rfl⟩:=au;exact⟨x,rfl,E,U,ag⟩
   | succ f=>
    simp only[mu,Option.map_eq_some_iff,Prod.mk.injEq]at au;grind
 | _=>intro l F_ f off s h _;simp only[cE,Bool.false_eq_true]at h
theorem b8.field{t s:ab}{id f off:Nat}(h:b8 P (.st t) id)(au:mu t f=some (s,off)) :
  ∃ eT nX,P.underlying id=some (.struct eT)/\eT[f]?=some nX/\nX.offset=off/\b8 P s nX.type/\s.size≠0:=by
 unfold b8 at h;simp only[cE,Bool.and_eq_true]at h;obtain⟨_,h⟩:=h;split at h
 ·rename_i eT jn;refine⟨eT,?_⟩;have eU:∀ {nX},eT.toList[f]?=some nX->eT[f]?=some nX:=λh=>by grind
  split at h
  ·rename_i ai;rw[of_decide_eq_true h]at au;cases f<;>cases au
  ·rename_i x ai;simp only[Bool.and_eq_true,beq_iff_eq,bne_iff_ne,ne_eq]at h;have W:f=0/\(s,off)=(t,0):=by
    cases t<;>cases f<;>simp only[mu,reduceCtorEq]at au<;>first
     | exact⟨rfl,by cases au;rfl⟩
     | (have:=h.1.1.2;simp only[cE,Bool.false_eq_true]at this)
   obtain⟨rfl,W⟩:=W;cases W;exact⟨x,jn,eU (by grind),h.1.1.1,h.1.1.2,h.1.2⟩
  ·obtain⟨nX,aR,aW,bL⟩:=ads t h au;grind
 grind
def kD(w:World)(p:Addr)(cs:List Value):Prop:=(0<cs.length->p.spot=none)/\∀ j (h:j<cs.length),w.cell? ⟨p.block,p.off+j,none⟩=some cs[j]
theorem Holds.KO{F:Nat->Prop}{p:Addr}{cs:List Value}(h:Holds F w p cs):kD w p cs:=⟨λ_=>h.2.1,h.2.2⟩
theorem Ga{p:Addr}{cs:List Value}(h:kD w p cs):(loadCells p cs.length).run P w=.ok cs.toArray w:=by
 obtain⟨aE,hc⟩:=h;refine run_loadCells_list w p cs λj v aF=>?_;obtain⟨fS,rfl⟩:=List.getElem?_eq_some_iff.1 aF;have ao:p=⟨p.block,p.off,none⟩:=by have:=aE (by omega);cases p;simp_all
 have:=hc j fS;have zJ:p.add j=⟨p.block,p.off+j,none⟩:=by
  unfold Addr.add;grind
 grind
theorem zK{t:ab}{id:TypeId}(h:b8 P t id):(isAgg id).run P w=.ok t.isAgg w:=by
 unfold b8 at h;unfold isAgg;cases t<;>simp only[cE,Bool.and_eq_true,Bool.false_eq_true]at h<;>(obtain⟨_,h⟩:=h;split at h)<;>
  first
   | (rename_i hu;simp[dB hu,ab.isAgg];done)
   | (cases h;done)
   | (rename_i hu;simp[dB hu,ab.isAgg])
theorem KP{F:Nat->Prop}{p:Addr}{cs:List Value}{t:ab}{id:TypeId}{x:t.aj}(h:b8 P t id)(cU:kD w p cs)(ah:bI P t F w cs x) :
  ∃ v,(loadVar id p).run P w=.ok v w/\ep P t F w v x:=by
 have hlen:=hS t ah;by_cases a_:t.isAgg=true
 ·refine⟨.agg cs.toArray,?_,?_,by simpa [Value.cells]using ah⟩
  ·have:=Ga (P:=P) cU;rw[hlen]at this;simp[loadVar,zK h,a_,h.size,this]
  ·cases t<;>simp only[ab.isAgg,Bool.false_eq_true]at a_
   ·exact⟨cs.toArray,rfl,by simpa [ab.size]using hlen⟩
   ·exact⟨cs.toArray,rfl,by simpa [ab.size]using hlen⟩
 ·have ai:t.eG=true:=by
   cases t<;>simp only[ab.isAgg,not_true]at a_<;>first | rfl | (unfold b8 at h;simp only[cE,Bool.false_eq_true]at h)
  obtain⟨u,rfl,hu⟩:=Cl ai ah;refine⟨u,?_,(dU ai).2 ⟨hu,ah⟩⟩;have hc:=cU.2 0 (by simp);have ao:p=⟨p.block,p.off+0,none⟩:=by have:=cU.1 (by simp);cases p;simp_all
  rw[<-ao]at hc;simp[loadVar,zK h,a_,hc]
end
section
variable {r:Option Nat} {P:Program} {o:Oper} {a:Act} {w w':World} {K:Act->World->Prop} {Q:Exit->Act->World->Prop}
theorem zL(ar:∀ c,o.op≠.defer c):o.semAt (dR r).round a.eval=execOp a.eval o:=Oper.semAt_eq _ _ _ ar
theorem hy{v:Value}(ar:∀ c,o.op≠.defer c)(h:(execOp a.eval o).run P w=.ok (.value v) w')(al:K (a.put o.dst v) w'):o.wpIn (dR r) 0 P a w K Q:=by
 refine⟨λ_ _=>trivial,?_⟩;rw[zL ar,h];exact al
theorem Gb(ar:∀ c,o.op≠.defer c)(h:(execOp a.eval o).run P w=.ok .skip w')(al:K (a.put o.dst Go.undef) w'):o.wpIn (dR r) 0 P a w K Q:=by
 refine⟨λ_ _=>trivial,?_⟩;rw[zL ar,h];exact al
end
def aB.f_(s:aB):List (Nat×bK)->aB
 | []=>s
 | p::l=>(s.cx p.1 p.2).f_ l
def aB.h'(s:aB)(d:Option Nat)(res:eB):aB:=(s.f_ res.hG).set d res.e7
def cH(C:b9)(o:Oper)(s:aB)(res:eB):Prop:=
 ∀ a w κ F Q,bl C s a w κ F->res.cb->res.c->o.wpIn (dR C.r) 0 C.P a w (λa' w'=>ct C (s.h' o.dst res) a' w') Q
theorem cH.pure{C:b9}{o:Oper}{s:aB}{cb c:Prop}{e7:aH}(ar:∀ c,o.op≠.defer c)(bg:∀ i,o.dst=some i->i<C.nt)
  (h:∀ a w κ F,bl C s a w κ F->cb->c->∃ v,(execOp a.eval o).run C.P w=.ok (.value v) w/\bz C.P s.aa κ F w e7 v):cH C o s ⟨cb,c,e7,[]⟩:=by
 intro a w κ F Q M bc hc;obtain⟨v,E,U⟩:=h a w κ F M bc hc;exact hy ar E ⟨κ,F,M.set bg U⟩
section
variable {P:Program} {H:Nat->bK} {κ:Nat->bB} {F:Nat->Prop} {w:World}
theorem pz{av:aH}{v:Value}(h:bz P H κ F w av v)(hu:(use av).1):bz P H κ F w (use av).2 v:=by
 cases av<;>first | exact h | exact h.1 hu
theorem adt(v:Value):bz P H κ F w (xl v) v:=by
 unfold xl;split
 ·exact fe.2 rfl
 ·split
  ·rename_i h;exact gV.2 ⟨rfl,h⟩
  ·rfl
 ·split
  ·rename_i s h;refine mo.2 ⟨by simp,?_⟩;have:s.data.toList.length=s.size:=by rfl
   omega
  ·rfl
 ·rfl
 ·rfl
theorem kd{C:b9}{s:aB}{a:Act}{w:World}{κ:Nat->bB}{F:Nat->Prop}(h:bl C s a w κ F)(x:Operand):bz C.P s.aa κ F w (a1 C.aO s.az x) (a.eval x):=by
 cases x with
 | tmp t=>exact h.bT t
 | const v=>exact adt v
 | func f=>
  show bz _ _ _ _ _ (match C.aO.tS f with | some v=>.val (.fn v.ts v.aX) v.sh | none=>.iC f 0 λ_=>.undef) (.func (.func f) #[] #[]);split
  ·rename_i v ae;exact (dU rfl).2 ⟨rfl,ade (h.jI.tS f v ae) F w⟩
  ·exact⟨[],rfl,rfl,λi G=>by omega⟩
 | global g=>trivial
theorem oL{av:aH}{v:Value}{k:IntKind}{n:Int}(h:bz P H κ F w av v)(G:av.mw=some (k,n)):v=.int k n/\fR k n:=by
 unfold aH.mw at G;split at G
 ·cases G;exact gV.1 h
 grind
theorem KQ{av:aH}{v:Value}{s:List UInt8}(h:bz P H κ F w av v)(G:av.tW=some s):v=.string ⟨s.toArray⟩/\s.length<2 ^ 63:=by
 unfold aH.tW at G;split at G
 ·cases G;exact mo.1 h
 grind
end
theorem qx(k:IntKind)(n:Int):fR k (k.wrap n):=by
 unfold fR IntKind.wrap;have E:=Int.emod_nonneg n (b:=2 ^ k.bits) (by cases k<;>decide);have U:=Int.emod_lt_of_pos n (b:=2 ^ k.bits) (by omega);cases k<;>simp only[IntKind.min,IntKind.max,IntKind.signed,IntKind.bits,Bool.true_and,Bool.false_and,Bool.false_eq_true,if_true,if_false,Nat.reduceSub,Int.reducePow]at E U ⊢<;>first
  | (constructor<;>split<;>first | (rename_i hc;have hc:=of_decide_eq_true hc;omega) | (rename_i hc;have hc:=mt decide_eq_true hc;omega))
  | omega
theorem adu{k:IntKind}{a b:Int}(a_:fR k a):fR k (a.tmod b):=by
 unfold fR at *
 have E:k.min<=0/\0<=k.max:=by cases k<;>decide
 have U:=Int.natAbs_tmod a b;have ag:=Nat.mod_le a.natAbs b.natAbs;rcases Int.le_total 0 a with h | h
 ·have:=Int.tmod_nonneg b h;omega
 ·have a7:(-a).tmod b=- (a.tmod b):=Int.neg_tmod a b;have:=Int.tmod_nonneg b (a:=-a) (by omega);omega
end Go.Fer
namespace Go.Fer
open Go.RowKit
theorem RT{P:Program}{w:World}{t:ab}{id:TypeId}(h:b8 P t id)(ai:t.isAgg=false){cs:Array Value}{off:Nat}{v:Value}(ae:cs[off]?=some v) :
  (part id cs off).run P w=.ok v w:=by
 simp[part,zK h,ai,ae]
theorem RU{P:Program}{w:World}{t:ab}{id:TypeId}(h:b8 P t id)(ai:t.isAgg=true){cs:Array Value}{off:Nat} :
  (part id cs off).run P w=.ok (.agg (cs.extract off (off+t.size))) w:=by
 simp[part,zK h,ai,h.size]
theorem rq{P:Program}{F:Nat->Prop}{w:World}{t:ab}{id:TypeId}(h:b8 P t id){p c q:List Value}{cs:Array Value}{x:t.aj}(pA:cs.toList=p++(c++q))(hc:bI P t F w c x) :
  ∃ v,(part id cs p.length).run P w=.ok v w/\ep P t F w v x:=by
 have hlen:=hS t hc;by_cases a_:t.isAgg=true
 ·refine⟨_,RU h a_,?_⟩;have he:(cs.extract p.length (p.length+t.size)).toList=c:=by
   simp_all
  have ae:(Value.agg (cs.extract p.length (p.length+t.size))).cells.toList=c:=he;refine⟨?_,by grind⟩;have cf:(cs.extract p.length (p.length+t.size)).size=t.size:=by grind
  cases t<;>simp only[ab.isAgg,Bool.false_eq_true]at a_
  ·exact⟨_,rfl,by simpa [ab.size]using cf⟩
  ·exact⟨_,rfl,by simpa [ab.size]using cf⟩
 ·have ai:t.eG=true:=by
   cases t<;>simp only[ab.isAgg,not_true]at a_<;>first | rfl | (unfold b8 at h;simp only[cE,Bool.false_eq_true]at h)
  obtain⟨u,rfl,hu⟩:=Cl ai hc;refine⟨u,RT h (by grind) ?_,(dU ai).2 ⟨hu,hc⟩⟩;rw[<-Array.getElem?_toList,pA];simp
theorem b8.CC{P:Program}{t:ab}{id:TypeId}(h:b8 P (.st t) id):P.stoodInHeld id=false/\P.eqGuardType P.depth id=false/\
  (cE P t (.inr ((P.fieldsOf id).toList, 0)) = true \/ (∃ f, (P.fieldsOf id).toList = [f] /\ f.offset = 0 /\ b8 P t f.type /\ f.name ≠ "_") \/ (t = .cT /\ (P.fieldsOf id).toList = [])) /\ P.underlying id = some (.struct (P.fieldsOf id)) := by
 unfold b8 at h;simp only[cE,Bool.and_eq_true,Bool.not_eq_true']at h;obtain⟨⟨⟨_,E⟩,U⟩,h⟩:=h;split at h
 ·rename_i eT jn;have au:P.fieldsOf id=eT:=by simp[Program.fieldsOf,jn]
  rw[au];refine⟨E,U,?_,jn⟩;split at h
  ·grind
  ·rename_i x ai;simp only[Bool.and_eq_true,beq_iff_eq,bne_iff_ne,ne_eq]at h;exact .inr (.inl ⟨x,ai,h.1.1.1,h.1.1.2,h.2⟩)
  grind
 grind
theorem KR{P:Program}{F:Nat->Prop}{w:World}:∀ (t:ab) (d:Nat),t.kW=true->t.kc<=d->
  (∀ {id:TypeId} {v u:Value} {x y:t.aj},b8 P t id->ep P t F w v x->ep P t F w u y->(Op.equalIn d id v u).run P w=.ok (gN t x y) w)/\
  (∀ {l:List Field} {off:Nat} {xs ys:Array Value} {p c q p' c' q':List Value} {x y:t.aj},cE P t (.inr (l,off))=true->xs.toList=p++(c++q)->p.length=off->bI P t F w c x->
   ys.toList=p'++(c'++q')->p'.length=off->bI P t F w c' y->(Op.eqFields d xs ys l).run P w=.ok (gN t x y) w):=by
 intro t;induction t with
 | bool=>
  intro d _ ar;refine⟨λ{id v u x y} h E U=>?_,λh=>by simp[cE]at h⟩;rw[fe.1 E,fe.1 U];obtain⟨d,rfl⟩:∃ e,d=e+1:=⟨d - 1,by simp only[ab.kc]at ar;omega⟩
  unfold b8 at h;simp only[cE,Bool.and_eq_true]at h;obtain⟨_,h⟩:=h;split at h
  ·rename_i hu;rw[run_equalIn_bool' w d id x y hu];rfl
  grind
 | int k=>
  intro d _ ar;refine⟨λ{id v u x y} h E U=>?_,λh=>by simp[cE]at h⟩;rw[(gV.1 E).1,(gV.1 U).1];obtain⟨d,rfl⟩:∃ e,d=e+1:=⟨d - 1,by simp only[ab.kc]at ar;omega⟩
  unfold b8 at h;simp only[cE,Bool.and_eq_true]at h;obtain⟨_,h⟩:=h;split at h
  ·rename_i hu;rw[run_equalIn_int w d id k _ x y hu];rfl
  grind
 | str=>
  intro d _ ar;refine⟨λ{id v u x y} h E U=>?_,λh=>by simp[cE]at h⟩;rw[(mo.1 E).1,(mo.1 U).1];obtain⟨d,rfl⟩:∃ e,d=e+1:=⟨d - 1,by simp only[ab.kc]at ar;omega⟩
  unfold b8 at h;simp only[cE,Bool.and_eq_true]at h;obtain⟨_,h⟩:=h;split at h
  ·rename_i hu;rw[run_equalIn_string w d id _ _ hu,ByteArray.toList_eq,ByteArray.toList_eq];simp only[gN];grind
  grind
 | cT=>intro d h;cases h
 | slice e _=>intro d h;cases h
 | array n e _=>intro d h;cases h
 | bH e _=>intro d h;cases h
 | map k v _ _=>intro d h;cases h
 | fn a b _ _=>intro d h;cases h
 | cr a _=>intro d h;cases h
 | eo=>intro d h;cases h
 | aA a b fx eK=>
  intro d hc ar;simp only[ab.kW,Bool.and_eq_true]at hc;simp only[ab.kc]at ar;have KS:=fx d hc.1 (by omega);have pt:=eK d hc.2 (by omega);refine⟨λh=>by unfold b8 at h;simp[cE]at h,?_⟩;intro l off xs ys p c q p' c' q' x y h ah ao pB aS CD zM;simp only[bI]at pB zM;obtain⟨bD,c2,rfl,aR,aW⟩:=pB;obtain⟨d1,d2,rfl,m1,m2⟩:=zM;have ez:=hS a aR;have pr:=hS a m1;have step : ∀ (f : Field) (cm : List Field), f.offset = off -> b8 P a f.type -> f.name ≠ "_" ->
    (Op.eqFields d xs ys (f::cm)).run P w=if gN a x.1 y.1=true then (Op.eqFields d xs ys cm).run P w else .ok false w:=by
   intro f cm af au aw;obtain⟨v,cg,cJ⟩:=rq (cs:=xs) (p:=p) (c:=bD) (q:=c2++q) au (by grind) aR;obtain⟨u,ew,dN⟩:=rq (cs:=ys) (p:=p') (c:=d1) (q:=d2++q') au (by grind) m1;simp only[Op.eqFields,aw,ne_eq,not_false_eq_true,if_true,Sem.run_bind];rw[af,<-ao,cg,Result.andThen_ok,ao,<-CD,ew,Result.andThen_ok,KS.1 au cJ dN];cases gN a x.1 y.1<;>simp
  match l,h with
  | [],h=>simp only[cE,Bool.false_eq_true]at h
  | [f],h=>simp only[cE,Bool.false_eq_true]at h
  | [f,g],h=>
   simp only[cE,Bool.and_eq_true,beq_iff_eq,bne_iff_ne,ne_eq]at h;obtain⟨⟨⟨⟨E,U⟩,ag⟩,a7⟩,⟨⟨⟨bN,du⟩,gL⟩,iV⟩⟩:=h;rw[step f [g] E U a7];obtain⟨v,cg,cJ⟩:=rq (cs:=xs) (p:=p++bD) (c:=c2) (q:=q) du (by grind) aW;obtain⟨u,ew,dN⟩:=rq (cs:=ys) (p:=p'++d1) (c:=d2) (q:=q') du (by grind) m2;have ay:(p++bD).length=g.offset:=by grind
   have aP:(p'++d1).length=g.offset:=by grind
   rw[ay]at cg;rw[aP]at ew;simp only[Op.eqFields,iV,ne_eq,not_false_eq_true,if_true,Sem.run_bind,cg,ew,Result.andThen_ok,pt.1 du cJ dN,gN];cases gN a x.1 y.1<;>cases gN b x.2 y.2<;>simp
  | f::g::i::l,h=>
   simp only[cE,Bool.and_eq_true,beq_iff_eq,bne_iff_ne,ne_eq]at h;obtain⟨⟨⟨⟨E,U⟩,ag⟩,a7⟩,bN⟩:=h;rw[step f _ E U a7,pt.2 bN (p:=p++bD) (c:=c2) (q:=q) (p':=p'++d1) (c':=d2) (q':=q') (by grind) (by grind) aW (by grind) (by grind) m2];simp only[gN];cases gN a x.1 y.1<;>simp
 | st t aI=>
  intro d hc ar;simp only[ab.kc]at ar;obtain⟨d,rfl⟩:∃ e,d=e+1:=⟨d - 1,by omega⟩
  refine⟨λ{id v u x y} h E U=>?_,λh=>by simp[cE]at h⟩;have i:=aI d hc (by omega);obtain⟨ay,aP,cw,ed⟩:=h.CC;obtain⟨⟨xs,rfl,hV⟩,pB⟩:=E;obtain⟨⟨ys,rfl,ke⟩,zM⟩:=U;simp only[Value.cells,bI]at pB zM;rw[run_equalIn_struct w d id xs ys ed ay];rcases cw with cw | ⟨f,cw,gW,j8,su⟩ | ⟨rfl,cw⟩
  ·exact i.2 cw (p:=[]) (c:=xs.toList) (q:=[]) (p':=[]) (c':=ys.toList) (q':=[]) (by simp) rfl pB (by simp) rfl zM
  ·rw[cw];obtain⟨v,cg,cJ⟩:=rq (cs:=xs) (p:=[]) (c:=xs.toList) (q:=[]) j8 (by simp) pB;obtain⟨u,ew,dN⟩:=rq (cs:=ys) (p:=[]) (c:=ys.toList) (q:=[]) j8 (by simp) zM;simp only[List.length_nil]at cg ew;simp only[Op.eqFields,su,ne_eq,not_false_eq_true,if_true,Sem.run_bind,gW,cg,ew,Result.andThen_ok,i.1 j8 cJ dN,gN];cases gN t x y<;>simp
  ·cases hc
theorem adv{k:IntKind}{a b:Int}(a_:fR k a):fR k (jm k a b):=by
 unfold fR at *
 unfold jm;have E:k.min<=0/\0<=k.max:=by cases k<;>decide
 generalize min b.toNat k.bits=n;have ao:(0:Int)<2 ^ n:=Int.pow_pos (by decide);rw[Int.fdiv_eq_ediv_of_nonneg _ (Int.le_of_lt ao)];rcases Int.le_total 0 a with h | h
 ·have U:=Int.ediv_nonneg h (Int.le_of_lt ao);have ag:=Int.ediv_le_self (2 ^ n) h;omega
 ·have U:a / 2 ^ n<=0:=by
   have:=Int.ediv_le_ediv ao h;simp_all
  have ag:a<=a / 2 ^ n:=by
   rw[Int.le_ediv_iff_mul_le ao];have a7:(1:Int)<=2 ^ n:=by omega
   have:=Int.mul_le_mul_of_nonpos_left (a:=a) h a7;omega
  omega
theorem RV{P:Program}{w:World}(op:BinOp)(t:TypeId)(x y:Operand)(k k':IntKind)(a b:Int):(eqGuard op t x y (.int k a) (.int k' b)).run P w=.ok () w:=by
 cases op<;>simp[eqGuard]
theorem adw{P:Program}{w:World}(op:BinOp)(t:TypeId)(x y:Operand)(a b:ByteArray):(eqGuard op t x y (.string a) (.string b)).run P w=.ok () w:=by
 cases op<;>simp[eqGuard]
theorem adx{P:Program}{w:World}(op:BinOp)(t:TypeId)(x y:Operand)(a b:Bool):(eqGuard op t x y (.bool a) (.bool b)).run P w=.ok () w:=by
 cases op<;>simp[eqGuard]
theorem ady{P:Program}{w:World}(op:BinOp)(t:TypeId)(x y:Operand)(a b:Option Addr):(eqGuard op t x y (.pointer a) (.pointer b)).run P w=.ok () w:=by
 cases op<;>simp[eqGuard]
section
variable {P:Program} {H:Nat->bK} {κ:Nat->bB} {F:Nat->Prop} {w:World}
theorem adz{op:BinOp}{k:IntKind}{a b:Int}{t:TypeId}{c:Prop}{v:aH}(h:zD op k a b=some (c,v))(hc:c)(a_:fR k a) :
  ∃ u,(binOp op t (.int k a) (.int k b)).run P w=.ok u w/\bz P H κ F w v u:=by
 cases op<;>simp only[zD,Option.some.injEq,Prod.mk.injEq,reduceCtorEq]at h<;>obtain⟨rfl,rfl⟩:=h<;>simp only[bz];case add=>exact⟨_,by simp[binOp,Op.intArith],gV.2 ⟨rfl,qx _ _⟩⟩
 case sub=>exact⟨_,by simp[binOp,Op.intArith],gV.2 ⟨rfl,qx _ _⟩⟩
 case mul=>exact⟨_,by simp[binOp,Op.intArith],gV.2 ⟨rfl,qx _ _⟩⟩
 case quo=>exact⟨_,by simp[binOp,Op.intDiv,hc],gV.2 ⟨rfl,qx _ _⟩⟩
 case rem=>exact⟨_,by simp[binOp,Op.intDiv,hc],gV.2 ⟨rfl,adu a_⟩⟩
 case and=>exact⟨.int k (lO k a b),by simp only[binOp,ne_eq,not_true_eq_false,if_false,Op.intBits];rfl,gV.2 ⟨rfl,qx _ _⟩⟩
 case or=>exact⟨.int k (RC k a b),by simp only[binOp,ne_eq,not_true_eq_false,if_false,Op.intBits];rfl,gV.2 ⟨rfl,qx _ _⟩⟩
 case xor=>exact⟨.int k (RD k a b),by simp only[binOp,ne_eq,not_true_eq_false,if_false,Op.intBits];rfl,gV.2 ⟨rfl,qx _ _⟩⟩
 case andNot=>exact⟨.int k (RE k a b),by simp only[binOp,ne_eq,not_true_eq_false,if_false,Op.intBits];rfl,gV.2 ⟨rfl,qx _ _⟩⟩
 case eql=>exact⟨.bool (a == b),by simp[binOp,Op.intCmp],fe.2 (congrArg Value.bool (by rfl))⟩
 case neq=>exact⟨.bool (a != b),by simp[binOp,Op.intCmp],fe.2 (congrArg Value.bool (by grind))⟩
 case lss=>exact⟨_,by simp[binOp,Op.intCmp],fe.2 rfl⟩
 case leq=>exact⟨_,by simp[binOp,Op.intCmp],fe.2 rfl⟩
 case gtr=>exact⟨_,by simp[binOp,Op.intCmp],fe.2 rfl⟩
 case geq=>exact⟨_,by simp[binOp,Op.intCmp],fe.2 rfl⟩
theorem RW{op:BinOp}{k k':IntKind}{a b:Int}{t:TypeId}{c:Prop}{v:aH}(h:KJ op k a b=some (c,v))(hc:c)(a_:fR k a) :
  ∃ u,(binOp op t (.int k a) (.int k' b)).run P w=.ok u w/\bz P H κ F w v u:=by
 cases op<;>simp only[KJ,Option.some.injEq,Prod.mk.injEq,reduceCtorEq]at h<;>obtain⟨rfl,rfl⟩:=h<;>simp only[bz];case shl=>exact⟨_,by simp[binOp,Op.shift,show ¬b<0 by omega];rfl,gV.2 ⟨rfl,qx _ _⟩⟩
 case shr=>exact⟨_,by simp[binOp,Op.shift,show ¬b<0 by omega];rfl,gV.2 ⟨rfl,adv a_⟩⟩
theorem adA{op:BinOp}{a b:List UInt8}{t:TypeId}{c:Prop}{v:aH}(h:Ct op a b=some (c,v))(hc:c) :
  ∃ u,(binOp op t (.string ⟨a.toArray⟩) (.string ⟨b.toArray⟩)).run P w=.ok u w/\bz P H κ F w v u:=by
 have e:∀ l:List UInt8,(⟨l.toArray⟩:ByteArray).toList=l:=λl=>by simp
 cases op<;>simp only[Ct,Option.some.injEq,Prod.mk.injEq,reduceCtorEq]at h<;>obtain⟨rfl,rfl⟩:=h<;>simp only[bz];case add=>
  unfold b_ at hc;have aE:((ByteArray.size ⟨a.toArray⟩+ByteArray.size ⟨b.toArray⟩:Nat):Int)=(a.length+b.length:Nat):=by rfl
  refine⟨.string ⟨(a++b).toArray⟩,?_,mo.2 ⟨rfl,by grind⟩⟩;simp only[binOp,Op.stringOp];rw[if_neg]
  ·rfl
  ·rw[aE];have:IntKind.i64.max=9223372036854775807:=by decide
   omega
 case eql=>exact⟨_,by rfl,fe.2 (by grind)⟩
 case neq=>exact⟨_,by rfl,fe.2 (by grind)⟩
 case lss=>exact⟨_,by simp only[binOp,Op.stringOp,e];rfl,fe.2 rfl⟩
 case geq=>exact⟨_,by simp only[binOp,Op.stringOp,e];rfl,fe.2 rfl⟩
end
end Go.Fer
namespace Go.Fer
open Go.RowKit
def dS(P:Program)(T:Nat->ab):Prop:=∀ id,T id=.cT\/b8 P (T id) id
theorem dS.cc{P:Program}{T:Nat->ab}(h:dS P T){id:Nat}{t:ab}(e:T id=t)(aM:t≠.cT):b8 P t id:=by
 rcases h id with h | h
 ·exact absurd (e ▸ h) aM
 ·exact e ▸ h
theorem rr{d:Option Nat}{k:Nat->Nat->Option eB}{H:Nat->bK}{res:eB}(h:(h9 d k).run H=some res) :
  ∃ b,d=some b/\k b ((H b).gen+1)=some res:=by
 unfold h9 at h;cases d with
 | none=>cases h
 | some b=>
  simp_all
theorem bl.adB{C:b9}{s:aB}{a:Act}{w:World}{κ:Nat->bB}{F:Nat->Prop}(h:bl C s a w κ F){b g:Nat}{e:ab}(aC:(s.aa b).gen<g) :
  bl C (s.cx b ⟨g,.bh e []⟩) a w (λi=>if i=b then ⟨0,0,0,true⟩ else κ i) F:=by
 have ai:fq s.aa κ (λi=>if i=b then ⟨g,.bh e []⟩ else s.aa i) (λi=>if i=b then ⟨0,0,0,true⟩ else κ i):=zy aC λbe de=>by grind
 refine h.move (H':=λi=>if i=b then ⟨g,.bh e []⟩ else s.aa i) ai (λ_ M=>M) (λ_ M=>.inl M) (Nat.le_refl _) (λ_ _ _=>rfl) (dd.refl _) (λ_=>?_) ?_ ?_ h.db (zz (.inr ⟨rfl,rfl⟩) λbe de=>by grind)
 ·intro i;by_cases G:i=b
  ·subst G;simp only[cD,if_true];exact⟨λ_=>rfl,λaw=>by cases aw⟩
  ·exact cD.lj (h.bC i) ai (λ_ M=>M) (c6.refl _ _) (by grind) (by grind) λ_=>rfl
 ·intro i G;by_cases eM:i=b
  ·subst eM;simp[bQ.bZ]at G
  ·simp only[if_neg eM]at G ⊢;exact⟨(h.an i G).1,(h.an i G).2.1,.inl ⟨i,G,rfl⟩⟩
 ·intro i j G aF aZ;by_cases eM:i=b
  ·subst eM;simp[bQ.bZ]at G
  ·by_cases mr:j=b
   ·subst mr;simp[bQ.bZ]at aF
   ·simp only[if_neg eM,if_neg mr]at G aF aZ;exact h.inj i j G aF aZ
section
variable {C:b9} {T:Nat->ab} {bf:Nat->Option aN} {o:Oper} {s:aB} {res:eB}
theorem adC{x:Operand}(bg:∀ i,o.dst=some i->i<C.nt)(af:o.op=.move x)(h:(bt C.aO T bf (a1 C.aO s.az) o).run s.aa=some res):cH C o s res:=by
 simp only[bt,af,bO,aq.bM,Option.some.injEq]at h;subst h;exact cH.pure (by grind) bg λa w κ F M _ _=>⟨_,by simp[execOp,af],kd M x⟩
theorem adD{x:Operand}(bg:∀ i,o.dst=some i->i<C.nt)(af:o.op=.assign x)(h:(bt C.aO T bf (a1 C.aO s.az) o).run s.aa=some res):cH C o s res:=by
 simp only[bt,af]at h;split at h
 ·rename_i e ah aM;obtain⟨b,ar,al⟩:=rr h;simp only[Option.some.injEq]at al;subst al;intro a w κ F Q M _ _;refine hy (w':=w) (v:=a.eval x) (by grind) (by simp[execOp,af]) ?_;have U:=M.adB (b:=b) (e:=e) (Nat.lt_succ_self _);have ae:=kd M x;rw[ah]at ae;simp only[bz]at ae;refine⟨_,_,bl.set U bg ⟨⟨?_,by rw[ae];rfl⟩,λ_ _=>?_⟩⟩
  ·simp[aB.cx]
  ·simp[ae,bB.slice]
 ·simp only[bO,aq.bM,Option.some.injEq]at h;subst h;exact cH.pure (by grind) bg λa w κ F M _ _=>⟨_,by simp[execOp,af],kd M x⟩
theorem cN{a:Act}{w:World}{κ:Nat->bB}{F:Nat->Prop}(M:bl C s a w κ F)(x:Operand){p:Prop}{av:aH}(hu:use (a1 C.aO s.az x)=(p,av))(ao:p):bz C.P s.aa κ F w av (a.eval x):=by
 have:=pz (kd M x) (by grind);grind
theorem adE{c x y:Operand}(bg:∀ i,o.dst=some i->i<C.nt)(af:o.op=.pick c x y)(h:(bt C.aO T bf (a1 C.aO s.az) o).run s.aa=some res):cH C o s res:=by
 simp only[bt,af]at h;split at h
 ·rename_i qw i' hc;split at h
  ·split at h
   ·rename_i zI av a_;simp only[bO,aq.bM,Option.some.injEq]at h;subst h;refine cH.pure (by grind) bg λa w κ F M bc _=>?_;have E:=fe.1 (cN M c hc bc.1);cases i' with
    | false=>
     have bF:a.eval (.const (.bool false))=.bool false:=rfl;exact⟨.bool false,by simp[execOp,af,E,asBool,bF],fe.2 rfl⟩
    | true=>
     have U:=fe.1 (cN M x a_ (bc.2 rfl));exact⟨.bool av,by simp[execOp,af,E,asBool,U],fe.2 rfl⟩
   ·cases h
  ·split at h
   ·rename_i cb bv W;simp only[bO,aq.bM,Option.some.injEq]at h;subst h;refine cH.pure (by grind) bg λa w κ F M bc _=>?_;have E:=fe.1 (cN M c hc bc.1);cases i' with
    | true=>
     have bF:a.eval (.const (.bool true))=.bool true:=rfl;exact⟨.bool true,by simp[execOp,af,E,asBool,bF],fe.2 rfl⟩
    | false=>
     have U:=fe.1 (cN M y W (bc.2 rfl));exact⟨.bool bv,by simp[execOp,af,E,asBool,U],fe.2 rfl⟩
   ·cases h
  ·cases h
 ·cases h
theorem adF{op:UnOp}{ty:TypeId}{x:Operand}(bg:∀ i,o.dst=some i->i<C.nt)(af:o.op=.unOp op ty x)(h:(bt C.aO T bf (a1 C.aO s.az) o).run s.aa=some res):cH C o s res:=by
 simp only[bt,af]at h;split at h
 ·rename_i cC b ah;simp only[bO,aq.bM,Option.some.injEq]at h;subst h;refine cH.pure (by grind) bg λa w κ F M bc _=>?_;have E:=fe.1 (cN M x ah bc);exact⟨.bool (!b),by simp[execOp,af,E,Op.unary],fe.2 rfl⟩
 ·rename_i cC k n ah;simp only[bO,aq.bM,Option.some.injEq]at h;subst h;refine cH.pure (by grind) bg λa w κ F M bc _=>?_;have E:=gV.1 (cN M x ah bc);exact⟨.int k (k.wrap (0 - n)),by simp[execOp,af,E.1,Op.unary,Op.intArith],gV.2 ⟨rfl,qx _ _⟩⟩
 ·cases h
theorem adG{i:Nat}{x:Operand}(bg:∀ i,o.dst=some i->i<C.nt)(af:o.op=.extract x i)(h:(bt C.aO T bf (a1 C.aO s.az) o).run s.aa=some res):cH C o s res:=by
 simp only[bt,af]at h;split at h
 ·rename_i cC n f ah;split at h
  ·rename_i G;simp only[bO,aq.bM,Option.some.injEq]at h;subst h;refine cH.pure (by grind) bg λa w κ F M bc _=>?_;obtain⟨aD,E,U,ag⟩:=cN M x ah bc;have dJ:i<aD.length:=by omega
   refine⟨aD[i],by simp[execOp,af,E,Instr.extract,dJ],?_⟩;grind
  ·cases h
 ·cases h
theorem adH{x:Operand}(bg:∀ i,o.dst=some i->i<C.nt)(af:o.op=.nilCheck x)(h:(bt C.aO T bf (a1 C.aO s.az) o).run s.aa=some res):cH C o s res:=by
 simp only[bt,af]at h;split at h
 ·rename_i cC b g i ah;simp only[aq.e1,aq.bM]at h;split at h
  ·rename_i bk;simp only[Bool.and_eq_true,decide_eq_true_eq]at bk;simp only[Option.some.injEq]at h;subst h;refine cH.pure (by grind) bg λa w κ F M bc _=>?_;have E:=cN M x ah bc;have U:=E.2 bk.1.symm bk.2;exact⟨_,by simp[execOp,af,U.2.2],⟨E.1.1,rfl⟩,λ_ _=>⟨U.1,U.2.1,rfl⟩⟩
  grind
 ·rename_i cC t d ah;simp only[bO,aq.bM,Option.some.injEq]at h;subst h;refine cH.pure (by grind) bg λa w κ F M bc _=>?_;obtain⟨p,bj,E,U⟩:=cN M x ah bc;exact⟨_,by simp[execOp,af,E],p,bj,rfl,U⟩
 ·rename_i cC e p ah;simp only[bO,aq.bM,Option.some.injEq]at h;subst h;refine cH.pure (by grind) bg λa w κ F M bc hc=>?_;have E:=(dU rfl).1 (cN M x ah bc);obtain⟨_,E⟩:=E;simp only[bI]at E;rcases E with⟨_,rfl⟩ | ⟨q,y,bj,bq,rfl,aR,aW⟩
  ·cases hc
  ·simp only[List.cons.injEq,and_true]at bq;exact⟨_,by simp[execOp,af,bq],q,bj,rfl,aR,aW⟩
 ·rename_i cC b g off ah;simp only[aq.e1,aq.bM]at h;split at h
  ·rename_i bk;simp only[Bool.and_eq_true,decide_eq_true_eq]at bk;simp only[Option.some.injEq]at h;subst h;refine cH.pure (by grind) bg λa w κ F M bc _=>?_;have E:=cN M x ah bc;have U:=E.2 bk.1.symm bk.2;exact⟨_,by simp[execOp,af,U],⟨E.1.1,rfl⟩,λ_ _=>rfl⟩
  grind
 ·cases h
theorem vs(b off n:Nat):(⟨b,off,none⟩:Addr).add n=⟨b,off+n,none⟩:=by
 unfold Addr.add;simp
theorem Gc{P:Program}{w:World}{t s:ab}{id f xn b off:Nat}(h:b8 P (.st t) id)(au:mu t f=some (s,xn)) :
  (Instr.fieldAt id (.pointer (some ⟨b,off,none⟩)) f).run P w=.ok (.pointer (some ⟨b,off+xn,none⟩)) w:=by
 obtain⟨eT,nX,E,U,ag,a7,bN⟩:=h.field au;simp only[Instr.fieldAt,Sem.run_bind,dB E,Result.andThen_ok,U,Instr.sureAddr,Sem.run_pure,fieldPlace,a7.size,bN,if_false,ag,vs]
theorem adI(aV:dS C.P T){ty f:Nat}{x:Operand}(bg:∀ i,o.dst=some i->i<C.nt)(af:o.op=.fieldAddr ty x f)(h:(bt C.aO T bf (a1 C.aO s.az) o).run s.aa=some res):cH C o s res:=by
 simp only[bt,af]at h;split at h
 ·rename_i t aM;have dq:=aV.cc aM (by simp);split at h
  ·rename_i s' xn au;split at h
   ·rename_i cC b g off ah;simp only[aq.e1,aq.bM]at h;split at h
    ·rename_i bk;simp only[Bool.and_eq_true,decide_eq_true_eq]at bk;simp only[Option.some.injEq]at h;subst h;refine cH.pure (by grind) bg λa w κ F M bc _=>?_;have E:=cN M x ah bc;have U:=E.2 bk.1.symm bk.2;exact⟨_,by simp[execOp,af,U,Gc dq au],⟨E.1.1,rfl⟩,λ_ _=>rfl⟩
    grind
   ·rename_i cC b g i off ah;simp only[aq.e1,aq.bM]at h;split at h
    ·rename_i bk;simp only[Bool.and_eq_true,decide_eq_true_eq]at bk;simp only[Option.some.injEq]at h;subst h;refine cH.pure (by grind) bg λa w κ F M bc _=>?_;have E:=cN M x ah bc;obtain⟨U,ag,a7⟩:=E.2 bk.1.symm bk.2;exact⟨_,by simp[execOp,af,a7,Gc dq au];rfl,⟨E.1.1,rfl⟩,λ_ _=>⟨U,ag,by grind⟩⟩
    grind
   ·rename_i cC b g i ah;simp only[aq.e1,aq.bM]at h;split at h
    ·rename_i bk;simp only[Bool.and_eq_true,decide_eq_true_eq,beq_iff_eq]at bk;simp only[Option.some.injEq]at h;subst h;refine cH.pure (by grind) bg λa w κ F M bc _=>?_;have E:=cN M x ah bc;obtain⟨U,ag,a7⟩:=E.2 bk.1.1.symm bk.1.2;exact⟨_,by simp[execOp,af,a7,Gc dq au];rfl,⟨E.1.1,rfl⟩,λ_ _=>⟨U,ag,by grind⟩⟩
    grind
   ·rename_i cC cW d ah;split at h
    ·rename_i zN;subst zN;split at h
     ·rename_i dN y aS;simp only[bO,aq.bM,Option.some.injEq]at h;subst h;refine cH.pure (by grind) bg λa w κ F M bc _=>?_;obtain⟨p,bj,E,U,ag⟩:=cN M x ah bc;simp only[bI]at ag;obtain⟨bD,c2,c3,rfl,aR,aW⟩:=RI cW ag aS;rw[au]at aW;cases aW;have ao:p=⟨p.block,p.off,none⟩:=by have:=U.2.1;cases p;simp_all
      rw[ao]at E;refine⟨_,by simp[execOp,af,E,Gc dq au],⟨p.block,p.off+bD.length,none⟩,c2,rfl,⟨U.1,rfl,λj aF=>?_⟩,aR⟩;have:=U.2.2 (bD.length+j) (by grind);grind
     ·cases h
    ·cases h
   ·cases h
  ·cases h
 ·cases h
theorem adJ(aV:dS C.P T){ty f:Nat}{x:Operand}(bg:∀ i,o.dst=some i->i<C.nt)(af:o.op=.field ty x f)(h:(bt C.aO T bf (a1 C.aO s.az) o).run s.aa=some res):cH C o s res:=by
 simp only[bt,af]at h;split at h
 ·rename_i t aM;have dq:=aV.cc aM (by simp);split at h
  ·rename_i cC cW d ah;split at h
   ·rename_i zN;subst zN;split at h
    ·rename_i dN y aS;simp only[bO,aq.bM,Option.some.injEq]at h;subst h;refine cH.pure (by grind) bg λa w κ F M bc _=>?_;obtain⟨⟨cs,E,U⟩,ag⟩:=cN M x ah bc;rw[E]at ag;simp only[bI,Value.cells]at ag;obtain⟨bD,c2,c3,e,aR,aW⟩:=RI cW ag aS;obtain⟨eT,nX,f1,f2,f3,f4,f5⟩:=dq.field aW;obtain⟨v,cg,cJ⟩:=rq (w:=w) f4 e aR;refine⟨v,?_,cJ⟩;simp[execOp,af,E,Instr.field,dB f1,f2,asAgg,f3,cg]
    ·cases h
   ·cases h
  ·cases h
 ·cases h
end
end Go.Fer
namespace Go.Fer
open Go.RowKit
theorem b8.bH{P:Program}{e:ab}{id:TypeId}(h:b8 P (.bH e) id):∃ i,P.underlying id=some (.pointer i)/\b8 P e i/\e.size≠0:=by
 unfold b8 at h;simp only[cE,Bool.and_eq_true]at h;obtain⟨_,h⟩:=h;split at h
 ·rename_i i G;simp only[Bool.and_eq_true,bne_iff_ne,ne_eq]at h;exact⟨i,G,h.1,h.2⟩
 grind
theorem RX{k:IntKind}{av:aH}{H:Nat->bK}{x:Int}{l:List Nat}(h:(dz (.int k) av).run H=some (x,l)):av.mw.isSome=true:=by
 cases av with
 | val cW y=>
  simp only[dz,aq.bM,Option.map_eq_some_iff,Prod.mk.injEq]at h;obtain⟨z,bk,_⟩:=h;obtain⟨rfl,_⟩:=kU bk;rfl
 | jF v=>simp[dz,ky,ab.eG,dW,Cq]at h
 | _=>simp[dz,ky,ab.eG,dW,aq.none]at h
theorem RY{av:aH}{H:Nat->bK}{x:List UInt8}{l:List Nat}(h:(dz .str av).run H=some (x,l)):av.tW.isSome=true:=by
 cases av with
 | val cW y=>
  simp only[dz,aq.bM,Option.map_eq_some_iff,Prod.mk.injEq]at h;obtain⟨z,bk,_⟩:=h;obtain⟨rfl,_⟩:=kU bk;rfl
 | jF v=>simp[dz,ky,ab.eG,dW,Cq]at h
 | _=>simp[dz,ky,ab.eG,dW,aq.none]at h
theorem Gd{P:Program}{w:World}{ty i:TypeId}(G:P.underlying ty=some (.pointer i))(a:Option Addr)(d:Nat):(Op.equalIn (d+1) ty (.pointer a) (.pointer none)).run P w=.ok a.isNone w:=by
 cases a<;>simp[Op.equalIn,dB G]
inductive CE:Value->Value->Prop where
 | bool (a b:Bool):CE (.bool a) (.bool b)
 | agg (a b:Array Value):CE (.agg a) (.agg b)
 | bH (a b:Option Addr):CE (.pointer a) (.pointer b)
theorem adK{P:Program}{w:World}{ty:TypeId}{x y:Operand}{u mR:Value}{e:Bool}(ao:CE u mR)(h:(Op.equalIn 10000 ty u mR).run P w=.ok e w)
  (aC:∀ a b,u=.agg a->mR=.agg b->P.eqGuardType P.depth ty=false) :
  (do eqGuard .eql ty x y u mR;binOp .eql ty u mR:Sem Value).run P w=.ok (.bool e) w/\(do eqGuard .neq ty x y u mR;binOp .neq ty u mR:Sem Value).run P w=.ok (.bool (!e)) w:=by
 cases ao with
 | bool a b=>constructor<;>simp[adx,binOp,Op.equal,Op.maxDepth,h]
 | agg a b=>constructor<;>simp[run_eqGuard_agg _ _ _ _ _ _ _ (aC a b rfl rfl),binOp,Op.equal,Op.maxDepth,h]
 | bH a b=>constructor<;>simp[ady,binOp,Op.equal,Op.maxDepth,h]
section
variable {C:b9} {T:Nat->ab} {bf:Nat->Option aN} {o:Oper} {s:aB} {res:eB}
theorem CF{a:Act}{w:World}{κ:Nat->bB}{F:Nat->Prop}(M:bl C s a w κ F){t:ab}{av:aH}{v:Value}{x:t.aj}{l:List Nat}(h:(dz t av).run s.aa=some (x,l))(ae:bz C.P s.aa κ F w av v) :
  ep C.P t (λ_=>True) w v x:=mv M.bC (λ_ _=>trivial) h (λ_ _ _=>trivial) ae
theorem adL{op:BinOp}{ty:TypeId}{dY kC:aH}{x y:Operand}{c:Prop}{v:aH}{a:Act}{w:World}{κ:Nat->bB}{F:Nat->Prop}(aV:dS C.P T)(M:bl C s a w κ F)
  (h:(zE op (T ty) dY kC).run s.aa=some (c,v)) {u mR:Value} (ah:bz C.P s.aa κ F w dY u) (aS:bz C.P s.aa κ F w kC mR) (RZ:¬(dY.mw.isSome=true/\kC.mw.isSome=true)) (R0:¬(dY.tW.isSome=true/\kC.tW.isSome=true)) :
  ∃ r,(do eqGuard op ty x y u mR;binOp op ty u mR:Sem Value).run C.P w=.ok r w/\bz C.P s.aa κ F w v r:=by
 unfold zE at h;rw[aq.e2]at h;simp only[Option.bind_eq_some_iff]at h;obtain⟨e,he,ae⟩:=h;simp only[aq.bM]at ae;have key:CE u mR/\(Op.equalIn 10000 ty u mR).run C.P w=.ok e w/\(∀ a b,u=.agg a->mR=.agg b->C.P.eqGuardType C.P.depth ty=false):=by
  split at he
  ·rename_i aZ p aP aM;obtain⟨i,G,_⟩:=(aV.cc aM (by simp)).bH;simp only[bz]at aS;subst aS;simp only[aq.bM,Option.some.injEq]at he;subst he;obtain⟨_,nY⟩:=(dU rfl).1 ah;rcases nY with⟨nY,rfl⟩ | ⟨q,z,bj,nY,rfl,_⟩
   ·obtain rfl:=(List.cons.inj nY).1;exact⟨.bH _ _,Gd G none 9999,λ_ _ h=>by cases h⟩
   ·obtain rfl:=(List.cons.inj nY).1;exact⟨.bH _ _,Gd G (some q) 9999,λ_ _ h=>by cases h⟩
  ·rename_i aZ t2 xp aM;obtain⟨i,G,_⟩:=(aV.cc aM (by simp)).bH;simp only[bz]at aS;subst aS;simp only[aq.bM,Option.some.injEq]at he;subst he;obtain⟨q,bj,rfl,_⟩:=ah;exact⟨.bH _ _,Gd G (some q) 9999,λ_ _ h=>by cases h⟩
  ·rename_i aZ b g off aM;obtain⟨i,G,_⟩:=(aV.cc aM (by simp)).bH;simp only[bz]at aS;subst aS;simp only[aq.e1,aq.bM]at he;split at he
   ·rename_i bk;simp only[Bool.and_eq_true,decide_eq_true_eq]at bk;simp only[Option.some.injEq]at he;subst he;have:=ah.2 bk.1.symm bk.2;subst this;exact⟨.bH _ _,Gd G (some _) 9999,λ_ _ h=>by cases h⟩
   grind
  ·split at he
   ·rename_i ja;simp only[Bool.and_eq_true,decide_eq_true_eq]at ja;simp only[aq.e2,Option.bind_eq_some_iff,aq.bM,Option.some.injEq]at he;obtain⟨⟨xq,ez⟩,E,⟨rs,pr⟩,U,rfl⟩:=he;have cg:=CF M E ah;have cJ:=CF M U aS;generalize qy:T ty=t at *
    cases t with
    | bool=>
     have dq:=aV.cc qy (by simp);refine⟨?_,(KR .bool 10000 rfl (by decide)).1 dq cg cJ,?_⟩
     ·rw[fe.1 cg,fe.1 cJ];exact .bool _ _
     simp_all
    | int k=>exact (RZ ⟨RX E,RX U⟩).elim
    | str=>exact (R0 ⟨RY E,RY U⟩).elim
    | st t=>
     have dq:=aV.cc qy (by simp);refine⟨?_,(KR (.st t) 10000 ja.1 (by omega)).1 dq cg cJ,λ_ _ _ _=>dq.CC.2.1⟩;obtain⟨⟨_,rfl,_⟩,_⟩:=cg;obtain⟨⟨_,rfl,_⟩,_⟩:=cJ;exact .agg _ _
    | aA t1 t2=>have:=aV.cc qy (by simp);unfold b8 at this;simp only[cE,Bool.false_eq_true]at this
    | cT=>cases ja.1
    | slice _=>cases ja.1
    | array _ _=>cases ja.1
    | bH _=>cases ja.1
    | map _ _=>cases ja.1
    | fn _ _=>cases ja.1
    | cr _=>cases ja.1
    | eo=>cases ja.1
   ·cases he
 obtain⟨aR,aW,bL⟩:=key;have:=adK (x:=x) (y:=y) aR aW bL;cases op<;>simp only[reduceCtorEq,Option.some.injEq,Prod.mk.injEq]at ae;case eql=>obtain⟨rfl,rfl⟩:=ae;exact⟨_,this.1,fe.2 rfl⟩
 case neq=>obtain⟨rfl,rfl⟩:=ae;exact⟨_,this.2,fe.2 rfl⟩
theorem adM(aV:dS C.P T){op:BinOp}{ty mV:TypeId}{x y:Operand}(bg:∀ i,o.dst=some i->i<C.nt)(af:o.op=.binOp op ty x y mV)(h:(bt C.aO T bf (a1 C.aO s.az) o).run s.aa=some res):cH C o s res:=by
 simp only[bt,af]at h;have zO:∀ c,o.op≠.defer c:=by grind
 have mW:∀ (a:Act) (w:World) (r:Value),(do eqGuard op ty x y (a.eval x) (a.eval y);binOp op ty (a.eval x) (a.eval y):Sem Value).run C.P w=.ok r w->(execOp a.eval o).run C.P w=.ok (.value r) w:=by
  intro a w r M;simp only[execOp,af,Sem.run_bind]at M ⊢;simp_all
 split at h
 ·rename_i k m k' n ah aS;have fin:∀ (c:Prop) (v:aH),(∀ (w:World) κ F,c->fR k m->∃ r,(binOp op ty (.int k m) (.int k' n)).run C.P w=.ok r w/\bz C.P s.aa κ F w v r)->
    res=⟨(use (a1 C.aO s.az x)).1/\(use (a1 C.aO s.az y)).1,c,v,[]⟩->cH C o s res:=by
   intro c v al gp;subst gp;refine cH.pure zO bg λa w κ F M bc hc=>?_;have E:=oL (cN M x rfl bc.1) ah;have U:=oL (cN M y rfl bc.2) aS;obtain⟨r,cg,cJ⟩:=al w κ F hc E.2;exact⟨r,mW a w r (by simp[E.1,U.1,RV,cg]),cJ⟩
  split at h
  ·split at h
   ·rename_i c v aE;simp only[bO,aq.bM,Option.some.injEq]at h;exact fin c v (λw κ F hc a_=>RW aE hc a_) h.symm
   ·cases h
  ·split at h
   ·rename_i c v aE;simp only[bO,aq.bM,Option.some.injEq]at h;exact fin c v (λw κ F hc a_=>RW aE hc a_) h.symm
   ·cases h
  ·split at h
   ·rename_i vt;subst vt;split at h
    ·rename_i c v aE;simp only[bO,aq.bM,Option.some.injEq]at h;exact fin c v (λw κ F hc a_=>adz aE hc a_) h.symm
    ·cases h
   ·cases h
 ·rename_i RZ;split at h
  ·rename_i m n ah aS;split at h
   ·rename_i c v aE;simp only[bO,aq.bM,Option.some.injEq]at h;subst h;refine cH.pure zO bg λa w κ F M bc hc=>?_;have E:=KQ (cN M x rfl bc.1) ah;have U:=KQ (cN M y rfl bc.2) aS;obtain⟨r,cg,cJ⟩:=adA (P:=C.P) (H:=s.aa) (κ:=κ) (F:=F) (w:=w) (t:=ty) aE hc;exact⟨r,mW a w r (by simp[E.1,U.1,adw,cg]),cJ⟩
   ·cases h
  ·rename_i R0;simp only[bO,aq.e2,Option.bind_eq_some_iff,aq.bM,Option.some.injEq]at h;obtain⟨⟨c,v⟩,aE,rfl⟩:=h;refine cH.pure zO bg λa w κ F M bc hc=>?_;obtain⟨r,cg,cJ⟩:=adL (x:=x) (y:=y) aV M aE (cN M x rfl bc.1) (cN M y rfl bc.2)
    (λ⟨ay,aP⟩=>by
     obtain⟨⟨k,m⟩,ay⟩:=Option.isSome_iff_exists.1 ay;obtain⟨⟨k',dx⟩,aP⟩:=Option.isSome_iff_exists.1 aP;grind)
    (λ⟨ay,aP⟩=>by
     obtain⟨m,ay⟩:=Option.isSome_iff_exists.1 ay;obtain⟨dx,aP⟩:=Option.isSome_iff_exists.1 aP;grind)
   grind
theorem vu{w:World}{b:Nat}{cs:Array Value}{T:TypeId}{fh:Nat×Nat}(h:w.heap[b]?=some (.cells cs T fh))(off:Nat):w.cell? ⟨b,off,none⟩=cs[off]?:=by
 simp[World.cell?,h]
theorem R1{P:Program}{w:World}{t:ab}{id:TypeId}(h:b8 P t id)(ai:t.isAgg=false){p:Addr}{v:Value}(ae:w.cell? p=some v):(loadVar id p).run P w=.ok v w:=by
 simp[loadVar,zK h,ai,ae]
theorem R2(aV:dS C.P T){ty:TypeId}{dY v:aH}{u:Value}{a:Act}{w:World}{κ:Nat->bB}{F:Nat->Prop}(M:bl C s a w κ F)(h:(zF (T ty) dY).run s.aa=some v)(ah:bz C.P s.aa κ F w dY u) :
  ∃ r,(Instr.loadAt ty u).run C.P w=.ok r w/\bz C.P s.aa κ F w v r:=by
 generalize qy:T ty=t at *
 cases dY with
 | dV cW d=>
  simp only[zF,aq.bM]at h;split at h
  ·rename_i hc;obtain⟨rfl,hc⟩:=hc;simp only[Option.some.injEq]at h;subst h;obtain⟨p,bj,rfl,U,ag⟩:=ah;have dq:=aV.cc qy (by intro e;subst e;cases hc);obtain⟨r,cg,cJ⟩:=KP dq U.KO ag;exact⟨r,by simp[Instr.loadAt,Instr.sureAddr,cg],cJ⟩
  grind
 | bd b g off=>
  simp only[zF,aq.e1,aq.bM]at h;split at h
  ·rename_i aC;split at h
   ·rename_i t0 f bS;have ae:=ah.2 aC.symm (by rw[bS];rfl);subst ae;have aT:=M.bC b;unfold cD at aT;rw[bS]at aT;obtain⟨cs,hW,bD,c2,c3⟩:=aT;split at h
    ·rename_i ai;split at h
     ·rename_i Ge;simp only[Option.some.injEq]at h;subst h;have dq:=aV.cc qy (by intro e;subst e;cases ai);have KT:t.isAgg=false:=by cases t<;>simp_all[ab.eG,ab.isAgg]
      refine⟨cs.getD off Go.undef,?_,(c3 off Ge).1⟩;simp only[Instr.loadAt,Instr.sureAddr,Sem.run_bind,Sem.run_pure,Result.andThen_ok];refine R1 dq KT ?_;rw[vu bD];simp_all
     grind
    ·split at h
     ·rename_i R3;split at h
      ·rename_i Ge;simp only[Option.some.injEq]at h;subst h;have dq:=aV.cc qy (by intro e;subst e;cases R3);let aD:=(List.range t.size).map λj=>cs.getD (off+j) Go.undef;refine⟨.agg aD.toArray,?_,aD,rfl,by grind,λi G=>?_⟩
       ·simp only[Instr.loadAt,Instr.sureAddr,Sem.run_bind,Sem.run_pure,Result.andThen_ok,loadVar,zK dq,R3,if_true,dq.size];rw[run_loadCells w ⟨(κ b).aa,off,none⟩ t.size (λj=>cs.getD (off+j) Go.undef)]
        ·rfl
        ·intro j aF;rw[vs,vu bD];simp[Array.getD_eq_getD_getElem?,c2,show off+j<t0.size by omega]
       grind
      grind
     grind
   ·rename_i t0 y bS;have ae:=ah.2 aC.symm (by rw[bS];rfl);subst ae;have aT:=M.bC b;unfold cD at aT;rw[bS]at aT;obtain⟨bj,d1,d2⟩:=aT;split at h
    ·rename_i hc;simp only[Option.map_eq_some_iff]at h;obtain⟨z,bk,rfl⟩:=h;obtain⟨bD,c2,c3,rfl,dh,dK⟩:=RJ t0 d2 bk;have dq:=aV.cc qy (by intro e;subst e;cases hc);have cU:kD w ⟨(κ b).aa,off,none⟩ c2:=by
      refine⟨λ_=>rfl,λj aF=>?_⟩;have:=d1.2.2 (bD.length+j) (by grind);simp_all
     obtain⟨r,cg,cJ⟩:=KP dq cU dK;exact⟨r,by simp[Instr.loadAt,Instr.sureAddr,cg],cJ⟩
    grind
   grind
  grind
 | oH b g i off=>
  simp only[zF,aq.e1,aq.bM]at h;split at h
  ·rename_i aC;have fin:∀ (e:ab) (xs:List e.aj),(s.aa b).body.ff=true->(s.aa b).body.len=xs.length->(s.aa b).body.e0=e.size->
     (∀ (G:i<xs.length),(κ b).e6=false->∃ bj,kD w ⟨(κ b).aa,(κ b).off+i*e.size,none⟩ bj/\bI C.P e F w bj xs[i])->
     (if t.eG||t.isAgg then (so e (xs.getD i e.df) off t).map (.val t) else none)=some v->∃ r,(Instr.loadAt ty u).run C.P w=.ok r w/\bz C.P s.aa κ F w v r:=by
    intro e xs a_ hlen CG jo ae;split at ae
    ·rename_i hc;simp only[Option.map_eq_some_iff]at ae;obtain⟨z,bk,rfl⟩:=ae;obtain⟨aR,aW,bL⟩:=ah.2 aC.symm a_;subst bL;rw[hlen]at aR;obtain⟨bj,d1,d2⟩:=jo aR aW;have KU:xs.getD i e.df=xs[i]:=by grind
     rw[KU]at bk;obtain⟨bD,c2,c3,rfl,dh,dK⟩:=RJ e d2 bk;have dq:=aV.cc qy (by intro e;subst e;cases hc);have cU:kD w ⟨(κ b).aa,(κ b).off+i*(s.aa b).body.e0+off,none⟩ c2:=by
      refine⟨λ_=>rfl,λj aF=>?_⟩;have:=d1.2 (bD.length+j) (by grind);grind
     obtain⟨r,cg,cJ⟩:=KP dq cU dK;exact⟨r,by simp[Instr.loadAt,Instr.sureAddr,cg],cJ⟩
    grind
   have aT:=M.bC b;unfold cD at aT;split at h
   ·rename_i e xs bS;rw[bS]at aT;refine fin e xs (by rw[bS];rfl) (by rw[bS];rfl) (by rw[bS];rfl) (λG aw=>?_) h;obtain⟨cs,hW,bD,c2,c3,c4,c5⟩:=aT.2 aw;obtain⟨bj,d1,d2⟩:=c5 i G;exact⟨bj,⟨λ_=>rfl,λj aF=>by rw[vu bD];grind⟩,d2⟩
   ·rename_i e xs bS;rw[bS]at aT;refine fin e xs (by rw[bS];rfl) (by rw[bS];rfl) (by rw[bS];rfl) (λG aw=>?_) h;simp only[jG,bI,bB.slice,aw,Bool.false_eq_true,if_false]at aT;obtain⟨a',cap,ay,m1,m2,m3,m4⟩:=aT;simp only[List.cons.injEq,Value.slice.injEq,and_true]at ay;obtain⟨rfl,_,rfl⟩:=ay;obtain⟨dO,ej,jM⟩:=m4 _ rfl (by omega);obtain⟨bj,d1,d2⟩:=jM i G;exact⟨bj,d1.KO,d2⟩
   grind
  grind
 | _=>cases h
end
end Go.Fer
namespace Go.Fer
open Go.RowKit
section
variable {C:b9} {T:Nat->ab} {bf:Nat->Option aN} {o:Oper} {s:aB} {res:eB}
theorem adN(aV:dS C.P T){ty:TypeId}{x:Operand}(bg:∀ i,o.dst=some i->i<C.nt)(af:o.op=.load ty x)(h:(bt C.aO T bf (a1 C.aO s.az) o).run s.aa=some res):cH C o s res:=by
 simp only[bt,af]at h;split at h
 ·rename_i cC b g i ah;simp only[RS,aq.e1,aq.bM]at h;split at h
  ·rename_i e xs ll v bS;split at h
   ·rename_i hc;obtain⟨aC,ai⟩:=hc;simp only[Option.some.injEq]at h;subst h;refine cH.pure (by grind) bg λa w κ F M bc G=>?_;have G:i=ll:=G;subst G;have E:=(cN M x ah bc).2 aC.symm (by rw[bS];rfl);have aT:=M.bC b;unfold cD at aT;rw[bS]at aT E;obtain⟨_,cs,hW,bD,c2,c3,c4,c5,lQ,oM,xr⟩:=aT;have dq:=aV.cc (t:=T ty) rfl (by intro e;rw[e]at ai;cases ai);have KT:(T ty).isAgg=false:=by cases aM:T ty<;>simp_all[ab.eG,ab.isAgg]
    refine⟨_,?_,oM⟩;have tZ:w.cell? ⟨(κ b).aa,(κ b).off+i,none⟩=some (cs.getD ((κ b).off+i) Go.undef):=by
     rw[vu bD];have:(κ b).off+i<cs.size:=by
      have:i<(κ b).cap:=by omega
      rw[c5.1]at c2;omega
     simp[this]
    have ao:a.eval x=.pointer (some ⟨(κ b).aa,(κ b).off+i,none⟩):=by rw[E.2.2];simp[bQ.e0,c5.1]
    simp[execOp,af,ao,Instr.loadAt,Instr.sureAddr,R1 dq KT tZ]
   ·cases h
  ·cases h
 ·rename_i cC dY _ ah;simp only[bO,aq.e2,Option.bind_eq_some_iff,aq.bM,Option.some.injEq]at h;obtain⟨v,ae,rfl⟩:=h;refine cH.pure (by grind) bg λa w κ F M bc _=>?_;obtain⟨r,cg,cJ⟩:=R2 aV M ae (cN M x ah bc);exact⟨r,by simp[execOp,af,cg],cJ⟩
theorem b8.str{P:Program}{id:TypeId}(h:b8 P .str id):P.underlying id=some .string:=by
 unfold b8 at h;simp only[cE,Bool.and_eq_true]at h;grind
theorem b8.int{P:Program}{k:IntKind}{id:TypeId}(h:b8 P (.int k) id):P.underlying id=some (.int k):=by
 unfold b8 at h;simp only[cE,Bool.and_eq_true]at h;grind
theorem b8.bh{P:Program}{n:Nat}{e:ab}{id:TypeId}(h:b8 P (.array n e) id):∃ i,P.underlying id=some (.array n i)/\b8 P e i/\e.size≠0:=by
 unfold b8 at h;simp only[cE,Bool.and_eq_true]at h;obtain⟨_,h⟩:=h;split at h
 ·rename_i m i hu;simp only[Bool.and_eq_true,decide_eq_true_eq,bne_iff_ne,ne_eq]at h;obtain⟨⟨rfl,U⟩,ag⟩:=h;exact⟨i,hu,U,ag⟩
 grind
theorem adO{fo:List (List Value)}{m:Nat}(h:∀ c∈fo,c.length=m){i:Nat}(G:i<fo.length):∃ p q,fo.flatten=p++(fo[i]++q)/\p.length=i*m:=by
 refine⟨(fo.take i).flatten,(fo.drop (i+1)).flatten,?_,?_⟩
 ·rw[<-List.flatten_cons,<-List.drop_eq_getElem_cons G,<-List.flatten_append,List.take_append_drop]
 ·have a7:(fo.take i).map List.length=List.replicate i m:=List.eq_replicate_iff.2 ⟨by grind,λx ah=>by
   grind⟩
  simp_all
theorem KV{P:Program}{n:Nat}{e:ab}{F:Nat->Prop}{w:World}{cs:List Value}{xs:List e.aj}(h:bI P (.array n e) F w cs xs){i:Nat}(G:i<n):∃ p c q,cs=p++(c++q)/\p.length=i*e.size/\bI P e F w c (xs.getD i e.df):=by
 simp only[bI]at h;obtain⟨fo,rfl,E,U,ag⟩:=h;obtain⟨p,q,aR,aW⟩:=adO (m:=e.size) (λc hc=>by
  obtain⟨j,aF,rfl⟩:=List.mem_iff_getElem.1 hc;exact hS e (ag j (by omega) aF)) (show i<fo.length by omega)
 grind
theorem adP(aV:dS C.P T){ty:TypeId}{x i:Operand}(bg:∀ i,o.dst=some i->i<C.nt)(af:o.op=.index ty x i)(h:(bt C.aO T bf (a1 C.aO s.az) o).run s.aa=some res):cH C o s res:=by
 simp only[bt,af]at h;split at h
 ·rename_i l k n aM ah G;simp only[bO,aq.bM,Option.some.injEq]at h;subst h;refine cH.pure (by grind) bg λa w κ F M bc hc=>?_;have E:=KQ (cN M x rfl bc.1) ah;have U:=oL (cN M i rfl bc.2) G;have dq:=(aV.cc aM (by simp)).str;have ck:n.toNat<l.length:=by omega
  refine⟨.int .u8 ((l.getD n.toNat 0).toNat:Int),?_,gV.2 ⟨rfl,?_⟩⟩
  ·have e:(⟨l.toArray⟩:ByteArray)[n.toNat]?=some (l.getD n.toNat 0):=by
    have aE:n.toNat<(⟨l.toArray⟩:ByteArray).size:=by simpa [ByteArray.size]using ck
    rw[getElem?_pos (⟨l.toArray⟩:ByteArray) n.toNat aE];simp only[Option.some.injEq];show (⟨l.toArray⟩:ByteArray).data[n.toNat]=_;grind
   simp[execOp,af,Instr.index,E.1,U.1,asIntOf,dB dq,hc.1,e]
  ·have:=(l.getD n.toNat 0).toNat_lt;constructor
   ·have:IntKind.u8.min=0:=by decide
    omega
   ·have:IntKind.u8.max=255:=by decide
    omega
 ·rename_i m e k n aM G;split at h
  ·rename_i dx aZ xs ah;split at h
   ·rename_i he;obtain⟨rfl,rfl⟩:=he;simp only[bO,aq.bM,Option.some.injEq]at h;subst h;refine cH.pure (by grind) bg λa w κ F M bc hc=>?_;have E:bz C.P s.aa κ F w (use (a1 C.aO s.az x)).2 (a.eval x):=cN M x rfl bc.1;rw[ah]at E;have U:=oL (cN M i rfl bc.2) G;obtain⟨j,aF,ru,_⟩:=(aV.cc aM (by simp)).bh;obtain⟨⟨cs,ae,pA⟩,nZ⟩:=E;rw[ae]at nZ;obtain⟨p,c,q,ay,aP,cw⟩:=KV nZ (i:=n.toNat) (by omega);obtain⟨v,g1,ei⟩:=rq ru (cs:=cs) ay cw;refine⟨v,?_,ei⟩;rw[aP]at g1;simp[execOp,af,Instr.index,ae,U.1,asIntOf,dB aF,hc.1,hc.2,ru.size,g1]
   ·cases h
  ·rename_i k' f ah;split at h
   ·rename_i al;simp only[bO,aq.bM,Option.some.injEq]at h;subst h;refine cH.pure (by grind) bg λa w κ F M bc hc=>?_;have E:bz C.P s.aa κ F w (use (a1 C.aO s.az x)).2 (a.eval x):=cN M x rfl bc.1;rw[ah]at E;have U:=oL (cN M i rfl bc.2) G;obtain⟨j,aF,ru,cf⟩:=(aV.cc aM (by simp)).bh;obtain⟨aD,ae,ai,fG⟩:=E;have ck:n.toNat*e.size+e.size<=aD.length:=by
     rw[ai,al];have:(n.toNat+1)*e.size<=m*e.size:=Nat.mul_le_mul_right _ (by omega);grind
    by_cases a_:e.isAgg=true
    ·simp only[if_pos a_];refine⟨_,by simp[execOp,af,Instr.index,ae,U.1,asIntOf,dB aF,hc.1,hc.2,ru.size,RU ru a_];rfl,(aD.toArray.extract (n.toNat*e.size) (n.toNat*e.size+e.size)).toList,by simp,?_,λq bq=>?_⟩
     ·simp;omega
     ·have adQ:(aD.toArray.extract (n.toNat*e.size) (n.toNat*e.size+e.size)).toList.getD q Go.undef=aD.getD (n.toNat*e.size+q) Go.undef:=by
       simp[List.getD_eq_getElem?_getD,bq]
      rw[adQ];exact fG _ (by omega)
    ·simp only[if_neg a_];have a7:=fG (n.toNat*e.size) (by omega);refine⟨aD.getD (n.toNat*e.size) Go.undef,?_,a7.1⟩;have aC:aD.toArray[n.toNat*e.size]?=some (aD.getD (n.toNat*e.size) Go.undef):=by
      grind
     simp[execOp,af,Instr.index,ae,U.1,asIntOf,dB aF,hc.1,hc.2,ru.size,RT ru (by grind) aC]
   ·cases h
  ·cases h
 ·cases h
theorem sv:∀ {l:List aH},jL l->∀ i,i<l.length->(use (l.getD i .undef)).1
 | [],_,i,G=>by grind
 | a::l,h,0,_=>by
  cases a<;>first | trivial | exact h.1
 | a::l,h,i+1,G=>by
  have dt:jL l:=by cases a<;>first | exact h | exact h.2
  have:=sv dt i (by grind);grind
theorem adR{k:bB}{n:Nat}(h:k.e6=true->n=0):∃ a cap,k.slice n=.slice a n cap:=by
 unfold bB.slice;split
 ·rename_i aw;rw[h aw];exact⟨none,0,rfl⟩
 ·exact⟨_,_,rfl⟩
theorem zP{a:Act}{w:World}{κ:Nat->bB}{F:Nat->Prop}(M:bl C s a w κ F){b:Nat}(a_:(s.aa b).body.ff=true):((κ b).e6=true->(s.aa b).body.len=0)/\(s.aa b).body.len<2 ^ 63:=by
 have aT:=M.bC b;unfold cD at aT;cases bS:(s.aa b).body with
 | bh e xs=>
  rw[bS]at aT;refine⟨λaw=>by rw[aT.1 aw];rfl,?_⟩;simp only[bQ.len];cases aw:(κ b).e6 with
  | true=>rw[aT.1 aw];simp
  | false=>obtain⟨cs,hW,bD,c2,c3,c4,c5⟩:=aT.2 aw;omega
 | hF e xs=>
  rw[bS]at aT;simp only[jG,bI,bB.slice]at aT;obtain⟨a',cap,ay,m1,m2,m3,m4⟩:=aT;simp only[bQ.len];grind
 | gj e xs i v=>
  rw[bS]at aT;obtain⟨aU,cs,hW,bD,c2,c3,c4,_⟩:=aT;exact⟨λaw=>(by rw[aU]at aw;cases aw),(by simp only[bQ.len];omega)⟩
 | _=>rw[bS]at a_;cases a_
theorem KW{a:Act}{w:World}{κ:Nat->bB}{F:Nat->Prop}(M:bl C s a w κ F){b:Nat}(a_:(s.aa b).body.ff=true)(aw:(κ b).e6=false):(s.aa b).body.len<=(κ b).cap:=by
 have aT:=M.bC b;unfold cD at aT;cases bS:(s.aa b).body with
 | bh e xs=>
  rw[bS]at aT;obtain⟨cs,hW,bD,c2,c3,c4,c5⟩:=aT.2 aw;exact c3
 | hF e xs=>
  rw[bS]at aT;simp only[jG,bI,bB.slice,aw,Bool.false_eq_true,if_false]at aT;obtain⟨a',cap,ay,m1,m2,m3,m4⟩:=aT;simp only[List.cons.injEq,Value.slice.injEq,and_true]at ay;simp only[bQ.len];omega
 | gj e xs i v=>
  rw[bS]at aT;obtain⟨aU,cs,hW,bD,c2,c3,c4,_⟩:=aT;exact c3
 | _=>rw[bS]at a_;cases a_
theorem adS{a:Act}{w:World}{κ:Nat->bB}{F:Nat->Prop}(M:bl C s a w κ F){b aY G:Nat}(a_:(s.aa b).body.ff=true){v:Value}(E:aY<=G)(U:G<=(s.aa b).body.len)(aE:FY (κ b) (s.aa b).body.e0 aY G v) :
  ∃ a cap,v=.slice a (G - aY) cap/\G - aY<2 ^ 63:=by
 have aw:=zP M a_;rcases aE with⟨aR,rfl⟩ | ⟨aR,o,rfl,_⟩
 ·simp_all
 grind
theorem CH{n:Nat}(h:n<2 ^ 63):fR .i64 (n:Int):=by
 unfold fR;have E:IntKind.i64.min=-9223372036854775808:=by decide
 have U:IntKind.i64.max=9223372036854775807:=by decide
 omega
theorem b8.mp{P:Program}{k v:ab}{id:TypeId}(h:b8 P (.map k v) id):∃ i j,P.underlying id=some (.map i j)/\b8 P k i/\b8 P v j:=by
 unfold b8 at h;simp only[cE,Bool.and_eq_true]at h;obtain⟨_,h⟩:=h;split at h
 ·rename_i i j G;simp only[Bool.and_eq_true]at h;exact⟨i,j,G,h.1,h.2⟩
 grind
theorem adT(aV:dS C.P T){t:TypeId}{dY:aH}{c:Prop}{n:Int}{u:Value}{a:Act}{w:World}{κ:Nat->bB}{F:Nat->Prop}(M:bl C s a w κ F)(h:(F2 (T t) dY).run s.aa=some (c,n))(hc:c)(ah:bz C.P s.aa κ F w dY u)(ty:TypeId) :
  (Builtin.len_ #[t] ty #[u]).run C.P w=.ok (.int .i64 n) w/\fR .i64 n:=by
 have axY:∀ e a' m cap,T t=.slice e->u=.slice a' m cap->(m:Int)=n->m<2 ^ 63->(Builtin.len_ #[t] ty #[u]).run C.P w=.ok (.int .i64 n) w/\fR .i64 n:=by
  intro e a' m cap aM hu hm ck;obtain⟨i,G,_⟩:=(aV.cc aM (by simp)).sl;subst hu;rw[<-hm];exact⟨by simp[Builtin.len_,dB G,goInt],CH ck⟩
 have R4:∀ k v r es clk m,T t=.map k v->u=.map (some r)->w.heap[r]?=some (.map es clk)->es.size=m->(m:Int)=n->b_ m->(Builtin.len_ #[t] ty #[u]).run C.P w=.ok (.int .i64 n) w/\fR .i64 n:=by
  intro k v r es clk m aM hu hw pC hm ck;obtain⟨i,j,G,_⟩:=(aV.cc aM (by simp)).mp;subst hu;rw[<-hm,<-pC];unfold b_ at ck;refine⟨?_,CH (by omega)⟩;simp[Builtin.len_,dB G,goInt,getObj,Sem.run,hw]
 unfold F2 at h;split at h
 ·rename_i e aM;split at h
  ·rename_i aZ xs;simp only[aq.bM,Option.some.injEq,Prod.mk.injEq]at h;obtain⟨_,ah⟩:=(dU rfl).1 ah;obtain⟨a',cap,ay,m1,m2,m3,m4⟩:=ah;grind
  ·simp only[aq.bM,Option.some.injEq,Prod.mk.injEq]at h;simp only[bz]at ah;grind
  ·rename_i b g;simp only[aq.e1,aq.bM]at h;split at h
   ·rename_i bk;simp only[Bool.and_eq_true,decide_eq_true_eq]at bk;simp only[Option.some.injEq,Prod.mk.injEq]at h;have ae:=ah.2 bk.1.symm bk.2;have aw:=zP M bk.2;obtain⟨a',cap,he⟩:=adR (k:=κ b) aw.1;grind
   grind
  ·rename_i b g aY G;simp only[aq.e1,aq.bM]at h;split at h
   ·rename_i bk;simp only[Bool.and_eq_true,decide_eq_true_eq]at bk;simp only[Option.some.injEq,Prod.mk.injEq]at h;obtain⟨⟨aR,aW⟩,bL⟩:=ah.2 bk.1.symm bk.2;obtain⟨a',cap,he,ck⟩:=adS M bk.2 aR aW bL;grind
   grind
  ·cases h
 ·rename_i aM;split at h
  ·rename_i xs;simp only[aq.bM,Option.some.injEq,Prod.mk.injEq]at h;obtain⟨rfl,ck⟩:=mo.1 ah;have dq:=(aV.cc aM (by simp)).str;rw[<-h.2];have aE:ByteArray.size ⟨xs.toArray⟩=xs.length:=by rfl
   exact⟨by simp[Builtin.len_,dB dq,goInt,aE],CH (by omega)⟩
  ·cases h
 ·rename_i k v aM;split at h
  ·rename_i k' h8 xs;simp only[aq.bM,Option.some.injEq,Prod.mk.injEq]at h;obtain⟨rfl,h⟩:=h;obtain⟨_,ah⟩:=(dU rfl).1 ah;rcases ah with⟨ay,rfl⟩ | ⟨r,es,clk,ay,m1,m2,m3,_⟩
   ·obtain rfl:=(List.cons.inj ay).1;obtain⟨i,j,G,_⟩:=(aV.cc aM (by simp)).mp;rw[<-h];exact⟨by simp[Builtin.len_,dB G,goInt],CH (by simp)⟩
   grind
  ·rename_i b g;simp only[aq.e1,aq.bM]at h;split at h
   ·rename_i aC;split at h
    ·rename_i k' h8 es bS;simp only[Option.some.injEq,Prod.mk.injEq]at h;obtain⟨rfl,h⟩:=h;have aT:=M.bC b;unfold cD at aT;rw[bS]at aT;obtain⟨ms,clk,dh,dK⟩:=aT;exact R4 k v _ ms clk es.length aM (ah.2 aC.symm (by rw[bS];rfl)) dh dK.1 h hc
    ·rename_i k' h8 es bS;simp only[Option.some.injEq,Prod.mk.injEq]at h;obtain⟨rfl,h⟩:=h;have aT:=M.bC b;unfold cD at aT;rw[bS]at aT;rcases aT with⟨ay,_⟩ | ⟨r,ms,clk,ay,CJ,dh,dK,_⟩
     ·cases ay
     ·simp only[List.cons.injEq,Value.map.injEq,Option.some.injEq,and_true]at ay;subst ay;exact R4 k v _ ms clk es.length aM (ah.2 aC.symm (by rw[bS];rfl)) dh dK h hc
    grind
   grind
  ·cases h
 ·cases h
theorem xt{b:Builtin}{args:Array Operand}{dp:Array TypeId}{a:Act}{w w':World}{v:Value}(af:o.op=.call { callee:=.builtin b,args:=args,argTypes:=dp })
  (h:(builtin b dp o.type (args.map fun | .const _=>true | _=>false) (args.map a.eval)).run C.P w=.ok (.value v) w'):(execOp a.eval o).run C.P w=.ok (.value v) w':=by
 simp only[execOp,af,Sem.run_bind,resolve,Sem.run_pure,Result.andThen_ok,invoke];exact h
theorem adU(aV:dS C.P T){args:Array Operand}{dp:Array TypeId}(bg:∀ i,o.dst=some i->i<C.nt)(af:o.op=.call { callee:=.builtin .len,args:=args,argTypes:=dp })(h:(bt C.aO T bf (a1 C.aO s.az) o).run s.aa=some res):cH C o s res:=by
 obtain⟨args⟩:=args;obtain⟨dp⟩:=dp;simp only[bt,af,mU,Cv]at h;split at h
 ·rename_i x t;simp only[bO,aq.e2,Option.bind_eq_some_iff,aq.bM,Option.some.injEq]at h;obtain⟨⟨c,n⟩,aw,rfl⟩:=h;refine cH.pure (by grind) bg λa w κ F M bc hc=>?_;obtain⟨E,U⟩:=adT aV M aw hc (cN M x rfl bc) o.type;refine⟨_,xt af ?_,gV.2 ⟨rfl,U⟩⟩;simp[builtin,E]
 ·cases h
theorem adV(aV:dS C.P T){args:Array Operand}{dp:Array TypeId}(bg:∀ i,o.dst=some i->i<C.nt)(af:o.op=.call { callee:=.builtin .cap,args:=args,argTypes:=dp })(h:(Cx T (a1 C.aO s.az) args.toList dp.toList).run s.aa=some res):cH C o s res:=by
 obtain⟨args⟩:=args;obtain⟨dp⟩:=dp;simp only[Cx]at h;split at h
 ·rename_i x t;split at h
  ·rename_i e cC aM hu;simp only[bO,aq.bM,Option.some.injEq]at h;subst h;refine cH.pure (by grind) bg λa w κ F M bc hc=>?_;have ae:a.eval x=.slice none 0 0:=cN M x hu bc;obtain⟨i,G,_⟩:=(aV.cc aM (by simp)).sl;refine⟨.int .i64 0,xt af ?_,gV.2 ⟨rfl,by decide⟩⟩;simp[builtin,Builtin.cap_,ae,dB G,goInt]
  ·cases h
 ·cases h
theorem R5{a:Act}{w:World}{κ:Nat->bB}{F:Nat->Prop}(M:bl C s a w κ F){k:IntKind}:∀ (l:List Operand) {cb:Prop} {h_:z1'},mT (a1 C.aO s.az) k l=some (cb,h_)->cb->l.map a.eval=h_.map (Value.int k)/\∀ n∈h_,fR k n
 | [],_,_,h,_=>by cases h
 | [x],cb,h_,h,bc=>by
  simp only[mT]at h;split at h
  ·rename_i k' n ah;split at h
   ·rename_i al;subst al;cases h;have E:=oL (cN M x rfl bc) ah;exact⟨by simp[E.1],by simpa using E.2⟩
   ·cases h
  ·cases h
 | x::y::l,cb,h_,h,bc=>by
  simp only[mT]at h;split at h
  ·rename_i k' n axZ ax0 ah ai;split at h
   ·rename_i al;subst al;cases h;have E:=oL (cN M x rfl bc.1) ah;have U:=R5 M (y::l) ai bc.2;exact⟨by rw[List.map_cons,U.1,E.1];rfl,λm hm=>by
     rcases List.mem_cons.1 hm with rfl | hm
     ·exact E.2
     ·exact U.2 m hm⟩
   ·cases h
  ·cases h
theorem KX{k:IntKind}:∀ (h_:z1') (m:Int),fR k m->(∀ n∈h_,fR k n)->((h_.map (Value.int k)).foldlM Builtin.min2 (Value.int k m)=pure (Value.int k (h_.foldl (λa b=>if b<a then b else a) m))/\fR k (h_.foldl (λa b=>if b<a then b else a) m))/\
  ((h_.map (Value.int k)).foldlM Builtin.max2 (Value.int k m)=pure (Value.int k (h_.foldl (λa b=>if b > a then b else a) m))/\fR k (h_.foldl (λa b=>if b > a then b else a) m))
 | [],m,h,_=>⟨⟨rfl,h⟩,rfl,h⟩
 | n::h_,m,h,ai=>by
  have aw:=ai n (by simp);have ai:=λq bq=>ai q (List.mem_cons_of_mem n bq);have E:=(KX h_ (if n<m then n else m) (by split<;>assumption) ai).1;have U:=(KX h_ (if n > m then n else m) (by split<;>assumption) ai).2;refine⟨⟨?_,E.2⟩,?_,U.2⟩
  ·simp only[List.map_cons,List.foldlM_cons,List.foldl_cons,Builtin.min2];rw[<-E.1];simp
  ·simp only[List.map_cons,List.foldlM_cons,List.foldl_cons,Builtin.max2];rw[<-U.1];simp
theorem R6{b:Builtin}{f:Int->Int->Int}(W:(b=.min/\f=λa b=>if b<a then b else a)\/(b=.max/\f=λa b=>if b > a then b else a)){args:Array Operand}{dp:Array TypeId}(bg:∀ i,o.dst=some i->i<C.nt)
  (af:o.op=.call { callee:=.builtin b,args:=args,argTypes:=dp }) (h:(sr (a1 C.aO s.az) f args.toList).run s.aa=some res):cH C o s res:=by
 obtain⟨args⟩:=args;simp only[sr]at h;split at h
 ·rename_i x y l;split at h
  ·rename_i k m ah;split at h
   ·rename_i cb h_ ai;simp only[bO,aq.bM,Option.some.injEq]at h;subst h;refine cH.pure (by grind) bg λa w κ F M bc hc=>?_;have E:=oL (cN M x rfl bc.1) ah;obtain⟨U,ag⟩:=R5 M (y::l) ai bc.2;obtain⟨g1,ei⟩:=KX h_ m E.2 ag;have dX:(x::y::l).map a.eval=Value.int k m::h_.map (Value.int k):=by rw[List.map_cons,U,E.1]
    refine⟨.int k (h_.foldl f m),xt af ?_,gV.2 ⟨rfl,?_⟩⟩
    ·rcases W with⟨rfl,rfl⟩ | ⟨rfl,rfl⟩
     ·simp only[builtin,Builtin.min_,List.map_toArray,dX];rw[g1.1];rfl
     ·simp only[builtin,Builtin.max_,List.map_toArray,dX];rw[ei.1];rfl
    ·rcases W with⟨rfl,rfl⟩ | ⟨rfl,rfl⟩
     ·exact g1.2
     ·exact ei.2
   ·cases h
  ·cases h
 ·cases h
end
end Go.Fer
namespace Go.Fer
open Go.RowKit
def fh(H:Nat->bK)(x:bK):bK:=match x.body with
 | .bh e xs=>⟨x.gen,.hF e xs⟩
 | .mp k v es=>⟨x.gen,.jl k v es⟩
 | .cells t f=>match (im t ((List.range t.size).map f)).run H with
  | some (y,_,[])=>⟨x.gen,.gM t y⟩
  | _=>x
 | _=>x
def aB.cz(s:aB)(l:List Nat):aB:=⟨s.az,λi=>if i∈l then fh s.aa (s.aa i) else s.aa i⟩
theorem R7(H:Nat->bK):∀ (l:List Nat) (s:aB),(∀ i∈l,s.aa i=H i\/s.aa i=fh H (H i))->s.f_ ((jK l).run H)=⟨s.az,λi=>if i∈l then fh H (H i) else s.aa i⟩
 | [],s,_=>by
  rfl
 | b::l,s,h=>by
  simp only[jK,aq.e1,aq.run_bind];have key:∀ (s':aB),s'.az=s.az->s'.aa b=fh H (H b)->(∀ i,i≠b->s'.aa i=s.aa i)->s'.f_ ((jK l).run H)=⟨s.az,λi=>if i∈b::l then fh H (H i) else s.aa i⟩:=by
   intro s' ay aP cw;rw[R7 H l s']
   ·rw[ay];congr 1;funext i;by_cases G:i=b
    ·subst G;simp only[aP,List.mem_cons,true_or,if_true];split<;>rfl
    ·rw[cw i G];simp[G]
   ·intro i G;by_cases eM:i=b
    ·subst eM;exact .inr aP
    ·rw[cw i eM];exact h i (by simp[G])
  have hH:fh H (H b)=H b->s.f_ ((jK l).run H)=⟨s.az,λi=>if i∈b::l then fh H (H i) else s.aa i⟩:=λe=>
   key s rfl (by grind) λ_ _=>rfl
  have put:∀ x,fh H (H b)=x->s.f_ ((b,x)::(jK l).run H)=⟨s.az,λi=>if i∈b::l then fh H (H i) else s.aa i⟩:=λx e=>by
   simp only[aB.f_];exact key _ rfl (by simp[aB.cx,e]) λi G=>by simp[aB.cx,G]
  cases W:(H b).body with
  | bh e xs=>exact put _ (by simp[fh,W])
  | mp k v es=>exact put _ (by simp[fh,W])
  | cells t f=>
   simp only[aq.run_bind,aq.bM];cases aC:(im t ((List.range t.size).map f)).run H with
   | none=>exact hH (by simp[fh,W,aC])
   | some z=>
    obtain⟨y,m,r⟩:=z;cases r with
    | nil=>exact put _ (by simp[fh,W,aC])
    | cons c r=>exact hH (by simp[fh,W,aC])
  | _=>exact hH (by simp[fh,W])
theorem t_(s:aB)(l:List Nat):s.f_ ((jK l).run s.aa)=s.cz l:=by
 rw[R7 s.aa l s λi _=>.inl rfl];rfl
theorem CK:∀ (l:List (Nat×bK)) (s:aB) (p:Nat×bK),s.f_ (l++[p])=(s.f_ l).cx p.1 p.2
 | [],_,_=>rfl
 | q::l,s,p=>by simp only[List.cons_append,aB.f_];exact CK l _ p
def bQ.R8:bQ->Bool | .cr _ _ _ _=>true | .gj _ _ _ _=>true | _=>false
def gO(H:Nat->bK)(l:List Nat):Prop:=∀ b∈l,(H b).body.R8=false/\∀ t f,(H b).body=.cells t f->∃ y m,(im t ((List.range t.size).map f)).run H=some (y,m,[])/\∀ c∈m,c∈l
theorem gO.nil(H:Nat->bK):gO H []:=λb W=>by cases W
theorem gO.append{H:Nat->bK}{l m:List Nat}(h:gO H l)(k:gO H m):gO H (l++m):=by
 intro b W;rcases List.mem_append.1 W with W | W
 ·obtain⟨E,U⟩:=h b W;grind
 ·obtain⟨E,U⟩:=k b W;grind
theorem gO.one{H:Nat->bK}{b:Nat}(E:(H b).body.R8=false)(U:(H b).body.fI=false):gO H [b]:=by
 intro c hc;obtain rfl:=List.mem_singleton.1 hc;exact⟨E,λt f e=>by rw[e]at U;cases U⟩
theorem sw{H:Nat->bK}{t:ab}{av:aH}{x:t.aj}{l:List Nat}(h:(dW t av).run H=some (x,l)):gO H l:=by
 cases av with
 | val cW y=>
  simp only[dW,aq.bM,Option.map_eq_some_iff,Prod.mk.injEq]at h;obtain⟨z,bk,rfl,rfl⟩:=h;exact .nil H
 | dn=>
  cases t<;>simp only[dW,aq.none,aq.bM,reduceCtorEq,Option.some.injEq,Prod.mk.injEq]at h;obtain⟨rfl,rfl⟩:=h;exact .nil H
 | jF u=>
  simp only[dW,aq.bM,Option.map_eq_some_iff,Prod.mk.injEq]at h;obtain⟨z,bk,rfl,rfl⟩:=h;exact .nil H
 | dV cW y=>
  cases t<;>simp only[dW,aq.none,aq.bM,reduceCtorEq,Option.map_eq_some_iff,Prod.mk.injEq]at h;obtain⟨z,bk,rfl,rfl⟩:=h;exact .nil H
 | an b g=>
  cases t<;>simp only[dW,aq.none,aq.bM,aq.e1,reduceCtorEq]at h;split at h
  ·split at h
   ·rename_i W;simp only[Option.map_eq_some_iff,Prod.mk.injEq]at h;obtain⟨z,bk,rfl,rfl⟩:=h;exact .one (by rw[W];rfl) (by rw[W];rfl)
   ·simp only[Option.map_eq_some_iff,Prod.mk.injEq]at h;obtain⟨z,bk,rfl,rfl⟩:=h;exact .nil H
   grind
  grind
 | sub b g aY G=>
  cases t<;>simp only[dW,aq.none,aq.bM,aq.e1,reduceCtorEq]at h;split at h
  ·split at h
   ·rename_i W;simp only[Option.map_eq_some_iff,Prod.mk.injEq]at h;obtain⟨z,bk,rfl,rfl⟩:=h;exact .one (by rw[W];rfl) (by rw[W];rfl)
   ·simp only[Option.map_eq_some_iff,Prod.mk.injEq]at h;obtain⟨z,bk,rfl,rfl⟩:=h;exact .nil H
   grind
  grind
 | fH b g=>
  cases t<;>simp only[dW,aq.none,aq.bM,aq.e1,reduceCtorEq]at h;split at h
  ·split at h
   ·rename_i W;simp only[Option.map_eq_some_iff,Prod.mk.injEq]at h;obtain⟨z,bk,rfl,rfl⟩:=h;exact .one (by rw[W];rfl) (by rw[W];rfl)
   ·simp only[Option.map_eq_some_iff,Prod.mk.injEq]at h;obtain⟨z,bk,rfl,rfl⟩:=h;exact .nil H
   grind
  grind
 | iC k n c=>
  cases t<;>simp only[dW,aq.none,aq.bM,reduceCtorEq]at h;split at h
  ·cases h;exact .nil H
  ·cases h
 | _=>cases h
theorem R9{H:Nat->bK}{e:ab}(gn:∀ {cs:List aH} {x:e.aj} {l:List Nat} {r:List aH},(im e cs).run H=some (x,l,r)->gO H l){av:aH}{x:Option e.aj}{l:List Nat}
  (h:(tU e (im e) av).run H=some (x,l)):gO H l:=by
 have cm:(dW (.bH e) av).run H=some (x,l)->gO H l:=sw (t:=.bH e);cases av with
 | bd b g off=>
  simp only[tU,aq.e1]at h;split at h
  ·split at h
   ·simp only[aq.bM,Option.map_eq_some_iff,Prod.mk.injEq]at h;obtain⟨z,bk,rfl,rfl⟩:=h;exact .nil H
   ·rename_i t f W;split at h
    ·rename_i aM;subst aM;simp only[aq.e2,Option.bind_eq_some_iff,aq.bM]at h;obtain⟨⟨y,m,q⟩,E,U⟩:=h;split at U
     ·rename_i bq;simp only[Option.some.injEq,Prod.mk.injEq]at U;obtain⟨rfl,rfl⟩:=U;have bq:q=[]:=List.isEmpty_iff.1 bq;subst bq;intro c hc;rcases List.mem_cons.1 hc with rfl | hc
      ·refine⟨by rw[W];rfl,λcW iG e=>?_⟩;grind
      ·obtain⟨aR,aW⟩:=gn E c hc;grind
     grind
    ·cases h
   ·cases h
  ·cases h
 | _=>exact cm h
theorem R_{H:Nat->bK}:∀ (t:ab) {cs:List aH} {x:t.aj} {l:List Nat} {r:List aH},(im t cs).run H=some (x,l,r)->gO H l:=by
 have qv:∀ (t:ab) (g:aH->aq (Option (t.aj×List Nat))),(∀ {av:aH} {x:t.aj} {l:List Nat},(g av).run H=some (x,l)->gO H l)->
   ∀ {cs:List aH} {x:t.aj} {l:List Nat} {r:List aH},(match cs with | c::r=>(g c).map λo=>o.map λ(x,l)=>(x,l,r) | []=>.none:aq (Option (t.aj×List Nat×List aH))).run H=some (x,l,r)->gO H l:=by
  intro t g aC cs x l r h;cases cs with
  | nil=>cases h
  | cons c cs=>
   simp only[aq.map,aq.run_bind,aq.bM,Option.map_eq_some_iff,Prod.mk.injEq]at h;grind
 intro t;induction t with
 | bool=>intro cs x l r h;exact qv .bool (dW .bool) sw h
 | int k=>intro cs x l r h;exact qv (.int k) (dW (.int k)) sw h
 | str=>intro cs x l r h;exact qv .str (dW .str) sw h
 | cT=>
  intro cs x l r h;simp only[im,aq.bM,Option.some.injEq,Prod.mk.injEq]at h;obtain⟨_,rfl,rfl⟩:=h;exact .nil H
 | st t aI=>intro cs x l r h;exact aI h
 | aA a b fx eK=>
  intro cs x l r h;simp only[im,aq.e2,Option.bind_eq_some_iff,aq.bM,Option.some.injEq,Prod.mk.injEq]at h;obtain⟨⟨y,m,q⟩,E,⟨z,dx,q'⟩,U,rfl,rfl,rfl⟩:=h;exact (fx E).append (eK U)
 | slice e aI=>intro cs x l r h;exact qv (.slice e) (dW (.slice e)) sw h
 | array n e aI=>
  intro cs xs l r h;simp only[im]at h;have key:∀ (n:Nat) {cs:List aH} {xs:List e.aj} {l:List Nat} {r:List aH},(n.rec (motive:=λ_=>List aH->aq (Option (List e.aj×List Nat×List aH))) (λcs=>.ret (some ([],[],cs)))
     (λ_ aI cs=>(im e cs).cQ λ(x,l,r)=>(aI r).cQ λ(xs,m,q)=>.ret (some (x::xs,l++m,q))) cs).run H=some (xs,l,r)->gO H l:=by
   intro n;induction n with
   | zero=>intro cs xs l r h;cases h;exact .nil H
   | succ n Cs=>
    intro cs xs l r h;simp only[aq.e2,Option.bind_eq_some_iff,aq.bM,Option.some.injEq,Prod.mk.injEq]at h;obtain⟨⟨y,m,q⟩,E,⟨z,dx,q'⟩,U,rfl,rfl,rfl⟩:=h;exact (aI E).append (Cs U)
  grind
 | bH e aI=>intro cs x l r h;exact qv (.bH e) (tU e (im e)) (R9 aI) h
 | map k v xb xc=>intro cs x l r h;exact qv (.map k v) (dW (.map k v)) sw h
 | fn a b fx eK=>intro cs x l r h;exact qv (.fn a b) (dW (.fn a b)) sw h
 | cr a aI=>intro cs x l r h;exact qv (.cr a) (dW (.cr a)) sw h
 | eo=>intro cs x l r h;exact qv .eo (dW .eo) sw h
theorem mX{H:Nat->bK}{t:ab}{av:aH}{x:t.aj}{l:List Nat}(h:(dz t av).run H=some (x,l)):gO H l:=by
 have cm:(ky t av).run H=some (x,l)->gO H l:=by
  intro h;unfold ky at h;split at h
  ·exact R9 (λh=>R_ _ h) h
  ·split at h
   ·exact sw h
   ·cases h
 cases av with
 | val cW y=>
  simp only[dz,aq.bM,Option.map_eq_some_iff,Prod.mk.injEq]at h;obtain⟨z,bk,rfl,rfl⟩:=h;exact .nil H
 | agg n f=>
  simp only[dz]at h;split at h
  ·cases h
  ·simp only[aq.e2,Option.bind_eq_some_iff,aq.bM]at h;obtain⟨⟨y,m,q⟩,E,U⟩:=h;split at U
   ·simp only[Option.some.injEq,Prod.mk.injEq]at U;obtain⟨rfl,rfl⟩:=U;exact R_ t E
   grind
 | _=>exact cm h
theorem zQ(H:Nat->bK)(x:bK):fh H x=x\/(∃ e xs,x.body=.bh e xs/\fh H x=⟨x.gen,.hF e xs⟩)\/(∃ k v es,x.body=.mp k v es/\fh H x=⟨x.gen,.jl k v es⟩)\/
  ∃ t f y m,x.body=.cells t f/\(im t ((List.range t.size).map f)).run H=some (y,m,[])/\fh H x=⟨x.gen,.gM t y⟩:=by
 cases ah:x.body with
 | bh e xs=>exact .inr (.inl ⟨e,xs,rfl,by simp[fh,ah]⟩)
 | mp k v es=>exact .inr (.inr (.inl ⟨k,v,es,rfl,by simp[fh,ah]⟩))
 | cells t f=>
  cases aC:(im t ((List.range t.size).map f)).run H with
  | none=>exact .inl (by simp[fh,ah,aC])
  | some z=>
   obtain⟨y,m,r⟩:=z;cases r with
   | nil=>exact .inr (.inr (.inr ⟨t,f,y,m,rfl,aC,by simp[fh,ah,aC]⟩))
   | cons c r=>exact .inl (by simp[fh,ah,aC])
 | _=>exact .inl (by simp[fh,ah])
theorem adW{H:Nat->bK}{x:bK}{k:bB}(h:(fh H x).body.bZ k=true):(x.body.bZ k=true/\fh H x=x):=by
 rcases zQ H x with e | ⟨_,_,_,e⟩ | ⟨_,_,_,_,e⟩ | ⟨_,_,_,_,_,_,e⟩
 ·grind
 all_goals rw[e]at h;cases h
theorem R'(s:aB)(l:List Nat)(κ:Nat->bB):fq s.aa κ (s.cz l).aa κ:=by
 rw[Cm];intro b;simp only[aB.cz];split
 ·rcases zQ s.aa (s.aa b) with e | ⟨_,_,ah,e⟩ | ⟨_,_,_,ah,e⟩ | ⟨_,_,_,_,ah,_,e⟩
  ·rw[e];exact qq.refl _ _
  ·rw[e];exact⟨Nat.le_refl _,λ_=>⟨λh=>(by cases h),λ_=>⟨by rw[ah];rfl,rfl,by rw[ah];rfl,by rw[ah];rfl⟩,λh=>(by cases h),λh=>(by cases h)⟩⟩
  ·rw[e];exact⟨Nat.le_refl _,λ_=>⟨λh=>(by cases h),λh=>(by cases h),λ_=>⟨by rw[ah];rfl,rfl⟩,λh=>(by cases h)⟩⟩
  ·rw[e];exact⟨Nat.le_refl _,λ_=>⟨λ_=>⟨by rw[ah];rfl,rfl⟩,λh=>(by cases h),λh=>(by cases h),λh=>(by cases h)⟩⟩
 ·exact qq.refl _ _
theorem bl.ln{C:b9}{a:Act}{w:World}{κ:Nat->bB}{l:List Nat}{s:aB}{F:Nat->Prop}(lR:gO s.aa l)(h:bl C s a w κ F) :
  ∃ F',(∀ r,F r->F' r)/\bl C (s.cz l) a w κ F'/\iY s.aa κ F' l:=by
 let F':Nat->Prop:=λr=>F r\/∃ b∈l,(s.aa b).body.bZ (κ b)=true/\(κ b).aa=r;have bn:∀ r,F r->F' r:=λr M=>.inl M;have t':iY s.aa κ F' l:=λb W af=>.inr ⟨b,W,af,rfl⟩;have KY:∀ b,((s.cz l).aa b).body.bZ (κ b)=true->b ∉ l/\(s.aa b).body.bZ (κ b)=true:=by
  intro b W;simp only[aB.cz]at W;by_cases iH:b∈l
  ·rw[if_pos iH]at W;obtain⟨aR,aW⟩:=adW W;exfalso;obtain⟨bD,c2⟩:=lR b iH;cases ah:(s.aa b).body with
   | bh e xs=>simp[fh,ah,bQ.bZ]at W
   | mp k v es=>simp[fh,ah,bQ.bZ]at W
   | cells t f=>
    obtain⟨y,m,g,_⟩:=c2 t f ah;simp[fh,ah,g,bQ.bZ]at W
   | cr k v c r=>rw[ah]at bD;cases bD
   | gj e xs i v=>rw[ah]at bD;cases bD
   | _=>rw[ah]at aR;cases aR
  grind
 have ai:=R' s l κ;refine⟨F',bn,?_,t'⟩;refine h.move ai bn (λr M=>M.imp id λ⟨b,_,E,U⟩=>.inl ⟨b,E,U⟩) (Nat.le_refl _) (λ_ _ _=>rfl) (dd.refl _) (λ_ b=>?_) (λb W=>?_) (λb be W de e=>h.inj b be (KY b W).2 (KY be de).2 e) (λr M=>?_) (λb _ W=>⟨rfl,?_⟩)
 ·show cD C.P (s.cz l).aa κ F' w b;by_cases iH:b∈l
  ·have aT:=h.bC b;have KZ:(s.cz l).aa b=fh s.aa (s.aa b):=by simp[aB.cz,iH]
   have lj:fh s.aa (s.aa b)=s.aa b->cD C.P (s.cz l).aa κ F' w b:=λe=>cD.lj aT ai bn (c6.refl _ _) (by grind) rfl λ_=>rfl;cases ah:(s.aa b).body with
   | bh e xs=>
    unfold cD at aT ⊢;rw[ah]at aT;rw[KZ];simp only[fh,ah,jG];exact KF aT bn λaw=>t' b iH (by rw[ah];simp[bQ.bZ,aw])
   | mp k v es=>
    unfold cD at aT ⊢;rw[ah]at aT;rw[KZ];simp only[fh,ah,jG];exact RG aT bn (t' b iH (by rw[ah];rfl))
   | cells t f=>
    obtain⟨y,m,g,hm⟩:=(lR b iH).2 t f ah;unfold cD at aT ⊢;rw[ah]at aT;rw[KZ];simp only[fh,ah,g,jG];obtain⟨cs,T,aR,aW,bL⟩:=aT;have iE:ev C.P s.aa κ F w ((List.range t.size).map f) cs.toList:=Cr (by omega) λi G=>by
     simp_all
    obtain⟨c,d,KH,bD,c2⟩:=KI h.bC bn t g (λc hc=>t' c (hm c hc)) iE;cases d with
    | cons _ _=>exact c2.elim
    | nil=>
     rw[List.append_nil]at KH;refine⟨c,⟨t' b iH (by rw[ah];rfl),rfl,λj aF=>?_⟩,bD⟩;have fS:j<cs.size:=by grind
     simp only[World.cell?,aR,Nat.zero_add,Option.isSome_none,Bool.false_eq_true,if_false,Array.getElem?_eq_getElem fS];grind
   | _=>exact lj (by simp[fh,ah])
  ·exact cD.lj (h.bC b) ai bn (c6.refl _ _) (by simp[aB.cz,iH]) rfl λ_=>rfl
 ·obtain⟨aR,aW⟩:=KY b W;have af:=h.an b aW;refine⟨af.1,λau=>?_,.inl ⟨b,aW,rfl⟩⟩;rcases au with au | ⟨b0,m1,m2,m3⟩
  ·grind
  ·exact aR (h.inj b b0 aW m2 m3.symm ▸ m1)
 ·rcases M with M | ⟨b,_,W,rfl⟩
  ·exact h.db r M
  ·exact (h.an b W).1
 ·split at W
  ·rcases zQ s.aa (s.aa b) with e | ⟨_,_,ah,e⟩ | ⟨_,_,_,ah,e⟩ | ⟨_,_,_,_,ah,_,e⟩
   ·grind
   ·rw[e]at W;simp[bQ.fI,bQ.gX]at W
   ·rw[ah];exact .inr rfl
   ·rw[ah];exact .inl rfl
  omega
section
variable {C:b9} {T:Nat->ab} {bf:Nat->Option aN} {o:Oper} {s:aB} {res:eB}
theorem bl.gq{a:Act}{w:World}{κ:Nat->bB}{F:Nat->Prop}(h:bl C s a w κ F){b:Nat}(W:b<C.nt):b<eQ:=Nat.lt_of_lt_of_le W h.gl
theorem bl.newVar{a:Act}{w:World}{κ:Nat->bB}{F:Nat->Prop}(h:bl C s a w κ F){b:Nat}(Cp:b<eQ){t:ab}{l:List aH}{cs:List Value}{ty:TypeId}(ai:ev C.P s.aa κ F w l cs)(aM:l.length=t.size) :
  ∃ κ',bl C (s.cx b ⟨(s.aa b).gen+1,.cells t (hj l)⟩) a (w.alloc (.cells cs.toArray ty)) κ' F/\(κ' b).aa=w.heap.size:=by
 refine⟨_,h.alloc (k:=⟨w.heap.size,0,0,false⟩) Cp (Nat.lt_succ_self _) rfl λH κ' mY Co ck=>?_,by simp⟩;refine⟨cs.toArray,ty,qt _ _,by simp[<-ai.len,aM],λi G=>?_⟩;have:=ai.kV i (by omega);have e:cs.toArray.getD i Go.undef=cs.getD i Go.undef:=by simp
 rw[e];exact⟨bz.lh ck (λ_ M=>M) (c6.alloc h.db _) this.1,this.2⟩
theorem CL(t:ab){P:Program}{z:Value}(h:j' t z.cells.toList=some []):(sn t).length=t.size/\z.cells.size=t.size:=by
 obtain⟨c,e,E,U⟩:=vp (P:=P) (H:=λ_=>⟨0,.fy⟩) (κ:=λ_=>⟨0,0,0,true⟩) (F:=λ_=>True) (w:=default) t h;rw[List.append_nil]at e;have:=hS t E;have:=U.len;grind
theorem adX(aV:dS C.P T){ty:TypeId}(bg:∀ i,o.dst=some i->i<C.nt)(af:o.op=.alloc ty)(h:(bt C.aO T bf (a1 C.aO s.az) o).run s.aa=some res)(qy:T ty≠.cT):cH C o s res:=by
 simp only[bt,af]at h;obtain⟨b,ar,al⟩:=rr h;simp only[if_neg qy,Option.some.injEq]at al;subst al;intro a w κ F Q M _ _;have dq:=aV.cc rfl qy;obtain⟨i,z,E,U,ag,a7,bN,du⟩:=kA dq.kz;obtain⟨c,e,kf,z2⟩:=vp (P:=C.P) (H:=s.aa) (κ:=κ) (F:=F) (w:=w) (T ty) bN;rw[List.append_nil]at e;have bk:=CL (T ty) (P:=C.P) bN;obtain⟨κ',cg,cJ⟩:=M.newVar (b:=b) (M.gq (bg b ar)) (t:=T ty) (ty:=ty) z2 bk.1;have c7:(execOp a.eval o).run C.P w=.ok (.value (.pointer (some ⟨w.heap.size,0,none⟩))) (w.alloc (.cells c.toArray ty)):=by
  have zR:z.cells=c.toArray:=by grind
  simp[execOp,af,Instr.alloc,rp E a7,newVar,newRow,zR]
 refine hy (by grind) c7 ⟨κ',F,bl.set (s:=s.cx b _) cg bg ⟨⟨?_,rfl⟩,λ_ _=>?_⟩⟩
 ·simp[aB.cx]
 grind
theorem K1{P:Program}{H:Nat->bK}{κ:Nat->bB}{F:Nat->Prop}{w:World}{t:ab}{av:aH}{v:Value}{l:List aH}(h:cellsOf t av=some l)(ae:bz P H κ F w av v):ev P H κ F w l v.cells.toList:=by
 unfold cellsOf at h;split at h
 ·rename_i cW x;split at h
  ·rename_i he;subst he;simp only[Option.some.injEq]at h;subst h;obtain⟨⟨cs,rfl,_⟩,hc⟩:=ae;simp only[bI]at hc;exact zC _ hc
  grind
 ·rename_i n f;split at h
  ·simp only[Option.some.injEq]at h;subst h;obtain⟨aD,rfl,E,U⟩:=ae;exact Cr E U
  grind
 ·rename_i n e i_ aZ x;split at h
  ·simp only[Option.some.injEq]at h;subst h;obtain⟨⟨cs,rfl,_⟩,hc⟩:=ae;exact zC _ hc
  grind
 ·rename_i n e m f;split at h
  ·simp only[Option.some.injEq]at h;subst h;obtain⟨aD,rfl,E,U⟩:=ae;exact Cr E U
  grind
 ·split at h
  ·have one:v.oneCell'=true->l=[av]->ev P H κ F w l v.cells.toList:=by
    intro E U;subst U;rw[FU E];exact⟨⟨ae,E⟩,trivial⟩
   split at h
   ·rename_i cW x;split at h
    ·rename_i zN;obtain⟨aR,aW⟩:=(dU zN).1 ae;exact one (KC zN aW) (Option.some.inj h).symm
    grind
   ·exact one ae.1.2 (Option.some.inj h).symm
   ·exact one ae.1.2 (Option.some.inj h).symm
   ·exact one ae.1.2 (Option.some.inj h).symm
   ·refine one ?_ (Option.some.inj h).symm;obtain⟨p,bj,rfl,_⟩:=ae;rfl
   ·exact one ae.1.2 (Option.some.inj h).symm
   ·refine one ?_ (Option.some.inj h).symm;obtain⟨aD,rfl,_⟩:=ae;rfl
   ·refine one ?_ (Option.some.inj h).symm;simp only[bz]at ae;subst ae;rfl
   ·exact one ae.1.2 (Option.some.inj h).symm
   ·cases h
   ·cases h
   ·refine one ?_ (Option.some.inj h).symm;simp only[bz]at ae;subst ae;cases v<;>first | rfl | grind | grind | grind | grind
   grind
  grind
end
end Go.Fer
namespace Go.Fer
open Go.RowKit
theorem Gf:∀ (l:List Value) (k off:Nat) (cs:Array Value),off+k+l.length<=cs.size->
  ((l.zipIdx k).foldl (λ(cs:Array Value) (p:Value×Nat)=>cs.setIfInBounds (off+p.2) p.1) cs).toList=cs.toList.take (off+k)++(l++cs.toList.drop (off+k+l.length))
 | [],k,off,cs,h=>by simp
 | c::l,k,off,cs,h=>by
  simp only[List.zipIdx_cons,List.foldl_cons];have cf:(cs.setIfInBounds (off+k) c).size=cs.size:=by simp
  rw[Gf l (k+1) off _ (by grind)];simp only[Array.toList_setIfInBounds,List.length_cons]at h ⊢;have ck:off+k<cs.toList.length:=by grind
  rw[show off+(k+1)=(off+k)+1 from by omega];rw[List.take_set,List.drop_set];rw[if_pos (by omega)];have E:(cs.toList.take (off+k+1)).set (off+k) c=cs.toList.take (off+k)++[c]:=by
   rw[List.take_succ_eq_append_getElem ck,List.set_append_right _ _ (by grind)];have CM:min (off+k) cs.size=off+k:=Nat.min_eq_left (by omega);simp[CM]
  grind
section
variable {P:Program} {w:World}
theorem adY(w:World)(b off:Nat)(v:Value){cs:Array Value}{T:TypeId}{fh:Nat×Nat}(h:w.heap[b]?=some (.cells cs T fh)) :
  (w.setCell ⟨b,off,none⟩ v).heap[b]?=some (.cells (cs.setIfInBounds off v) T fh):=by
 simp[World.setCell,Array.getElem?_modify,h]
theorem vv{b:Nat}{T:TypeId}:∀ (aD:List Value) (off i:Nat) (w:World) (cs:Array Value),w.heap[b]?=some (.cells cs T (0,0))->off+i+aD.length<=cs.size->(∀ v∈aD,v.oneCell'=true)->
  ∃ w' di,(storeCells ⟨b,off,none⟩ aD i).run P w=.ok () w'/\w'.heap[b]?=some (.cells di T (0,0))/\di.toList=cs.toList.take (off+i)++(aD++cs.toList.drop (off+i+aD.length))/\
   (∀ r,r≠b->w'.heap[r]?=w.heap[r]?)/\w'.heap.size=w.heap.size/\dd w w'
 | [],off,i,w,cs,h,_,_=>⟨w,cs,by rfl,h,by simp,λ_ _=>rfl,rfl,dd.refl w⟩
 | v::aD,off,i,w,cs,h,ai,ae=>by
  have ck:off+i<cs.size:=by grind
  have hc:w.cell? ⟨b,off+i,none⟩=some cs[off+i]:=by rw[vu h];simp
  have au:w.frozen? ⟨b,off+i,none⟩=false:=by simp[World.frozen?,h]
  have E:=adY w b (off+i) v h;obtain⟨w',di,cg,cJ,et,lS,lT,mx⟩:=vv aD off (i+1) (w.setCell ⟨b,off+i,none⟩ v) _ E (by grind) (λu hu=>ae u (by grind));refine⟨w',di,?_,cJ,?_,?_,by simp_all,dd.trans (b:=w.setCell ⟨b,off+i,none⟩ v) ⟨rfl,rfl,rfl⟩ mx⟩
  ·simp only[storeCells,Sem.run_bind,vs,run_store P w _ v _ (ae v (by simp)),hc,au,Bool.false_eq_true,if_false,Result.andThen_ok];exact cg
  ·rw[et];have:=Gf [v] 0 (off+i) cs (by grind);simp only[List.zipIdx_cons,List.zipIdx_nil,List.foldl_cons,List.foldl_nil,Nat.add_zero,List.length_singleton]at this;rw[this];have ay:(cs.toList.take (off+i)).length=off+i:=by grind
   rw[List.take_append,List.drop_append,ay];simp only[show off+(i+1) - (off+i)=1 from by omega,show off+(i+1)+aD.length - (off+i)=aD.length+1 from by omega];have aP:List.take (off+(i+1)) (cs.toList.take (off+i))=cs.toList.take (off+i):=List.take_of_length_le (by omega);have cw:List.drop (off+(i+1)+aD.length) (cs.toList.take (off+i))=[]:=List.drop_of_length_le (by omega);rw[aP,cw];simp only[List.length_cons,List.nil_append,List.append_assoc,List.cons_append];simp only[List.take_succ_cons,List.take_zero,List.drop_succ_cons,List.drop_drop,List.cons_append,List.nil_append];grind
  ·intro r M;rw[lS r M];exact Below.heap_setCell _ _ _ _ (by omega)
end
section
variable {C:b9} {T:Nat->ab} {bf:Nat->Option aN} {o:Oper} {s:aB} {res:eB}
theorem adZ{ty:TypeId}{x:Operand}(bg:∀ i,o.dst=some i->i<C.nt)(af:o.op=.box ty x)(h:(bt C.aO T bf (a1 C.aO s.az) o).run s.aa=some res):cH C o s res:=by
 simp only[bt,af]at h;split at h
 ·rename_i l ai;obtain⟨b,ar,al⟩:=rr h;split at al;case isFalse=>cases al
  rename_i hlen;simp only[Option.some.injEq]at al;subst al;intro a w κ F Q M bc _;have ae:=cN M x rfl bc;obtain⟨κ',cg,cJ⟩:=M.newVar (b:=b) (M.gq (bg b ar)) (t:=T ty) (ty:=ty) (K1 ai ae) hlen;have c7:(execOp a.eval o).run C.P w=.ok (.value (.pointer (some ⟨w.heap.size,0,none⟩))) (w.alloc (.cells (a.eval x).cells.toList.toArray ty)):=by
   simp[execOp,af,Instr.box,newVar,newRow]
  refine hy (by grind) c7 ⟨κ',F,bl.set (s:=s.cx b _) cg bg ⟨⟨?_,rfl⟩,λ_ _=>?_⟩⟩
  ·simp[aB.cx]
  grind
 ·cases h
theorem ad0{P:Program}:∀ (t:ab) {l:List Field} {off:Nat},cE P t (.inr (l,off))=true->∀ f∈l,∃ s,b8 P s f.type:=by
 intro t;induction t with
 | aA a b fx eK=>
  intro l off h;match l,h with
  | [],h=>simp
  | [x],h=>simp only[cE,Bool.false_eq_true]at h
  | [x,y],h=>
   simp only[cE,Bool.and_eq_true]at h;intro f au;simp only[List.mem_cons,List.not_mem_nil,or_false]at au;rcases au with rfl | rfl
   ·exact⟨a,h.1.1.1.2⟩
   ·exact⟨b,h.2.1.1.2⟩
  | x::y::z::l,h=>
   simp only[cE,Bool.and_eq_true]at h;intro f au;rcases List.mem_cons.1 au with rfl | au
   ·exact⟨a,h.1.1.1.2⟩
   grind
 | _=>intro l off h;simp only[cE,Bool.false_eq_true]at h
theorem b8.ad1{P:Program}{t:ab}{id:TypeId}(h:b8 P (.st t) id){eT:Array Field}(jn:P.underlying id=some (.struct eT)):∀ f∈eT.toList,∃ s,b8 P s f.type:=by
 obtain⟨_,_,ag,a7⟩:=h.CC;rw[jn]at a7;simp only[Option.some.injEq,TypeDesc.struct.injEq]at a7;rw[<-a7]at ag;rcases ag with ag | ⟨f,e,_,ag,_⟩ | ⟨_,e⟩
 ·exact ad0 t ag
 ·rw[e];intro g aC;simp only[List.mem_singleton]at aC;subst aC;exact⟨t,ag⟩
 ·rw[e];intro g aC;cases aC
theorem ev.replace{P:Program}{H:Nat->bK}{κ:Nat->bB}{F:Nat->Prop}{w:World}{as l:List aH}{us aD:List Value}(h:ev P H κ F w as us)(k:ev P H κ F w l aD)(off:Nat) :
  ev P H κ F w (as.take off++(l++as.drop (off+l.length))) (us.take off++(aD++us.drop (off+aD.length))):=by
 have CN:∀ {as:List aH} {us:List Value} (n:Nat),ev P H κ F w as us->ev P H κ F w (as.take n) (us.take n):=by
  intro as;induction as with
  | nil=>intro us n h;cases us<;>first | exact h.elim | grind
  | cons a as aI=>intro us n h;cases us with
   | nil=>exact h.elim
   | cons u us=>cases n with
    | zero=>trivial
    | succ n=>exact⟨h.1,aI n h.2⟩
 have ad2:∀ {as:List aH} {us:List Value} (n:Nat),ev P H κ F w as us->ev P H κ F w (as.drop n) (us.drop n):=by
  intro as;induction as with
  | nil=>intro us n h;cases us<;>first | exact h.elim | grind
  | cons a as aI=>intro us n h;cases us with
   | nil=>exact h.elim
   | cons u us=>cases n with
    | zero=>exact h
    | succ n=>exact aI n h.2
 rw[<-k.len];exact (CN off h).append (k.append (ad2 _ h))
theorem Sa{P:Program}{H:Nat->bK}{κ:Nat->bB}{F:Nat->Prop}{w:World}{t:ab}{id:TypeId}{eT:Array Field}(dq:b8 P (.st t) id)(jn:P.underlying id=some (.struct eT)){place:Nat->Option (Nat×Nat)}
  (sx:∀ i f s,eT[i]?=some f->b8 P s f.type->place i=some (f.offset,s.size)):∀ (ps:List (Nat×aH)) (qs:List (Nat×Value)) {as Gg:List aH} {cs:Array Value},ev P H κ F w as cs.toList->F3 t as ps=some Gg->
  ps.length=qs.length->(∀ i (h:i<ps.length) (dt:i<qs.length),ps[i].1=qs[i].1/\bz P H κ F w ps[i].2 qs[i].2)->∃ di,Instr.fill place cs qs=some di/\ev P H κ F w Gg di.toList
 | [],[],as,Gg,cs,a_,au,_,_=>by cases au;exact⟨cs,rfl,a_⟩
 | (i,av)::ps,(ll,v)::qs,as,Gg,cs,a_,au,hlen,fG=>by
  have aU:=fG 0 (by simp) (by simp);simp only[List.getElem_cons_zero]at aU;obtain⟨rfl,ae⟩:=aU;simp only[F3]at au;split at au
  ·cases au
  ·rename_i s off ua;split at au
   ·cases au
   ·rename_i l ai;split at au
    ·rename_i hc;obtain⟨ax1,nX,f1,f2,f3,f4,f5⟩:=dq.field ua;rw[jn]at f1;simp only[Option.some.injEq,TypeDesc.struct.injEq]at f1;subst f1;have ao:=sx i nX s f2 f4;rw[f3]at ao;have iE:=K1 ai ae;have cf:v.cells.size=s.size:=by have:=iE.len;grind
     have pA:as.length=cs.size:=by simpa using a_.len
     have Gh:=Gf v.cells.toList 0 off cs (by grind);have e:(v.cells.zipIdx.foldl (λ(cs:Array Value) (p:Value×Nat)=>cs.setIfInBounds (off+p.2) p.1) cs)=((v.cells.toList.zipIdx 0).foldl (λ(cs:Array Value) (p:Value×Nat)=>cs.setIfInBounds (off+p.2) p.1) cs):=by
      rw[<-Array.foldl_toList];simp
     have ad3:=a_.replace iE off;rw[hc.1]at ad3;obtain⟨di,aR,aW⟩:=Sa dq jn sx ps qs (cs:=v.cells.zipIdx.foldl (λ(cs:Array Value) (p:Value×Nat)=>cs.setIfInBounds (off+p.2) p.1) cs) (by rw[e,Gh];omega) au (by grind)
      (λj h dt=>by have:=fG (j+1) (by grind) (by grind);grind)
     refine⟨di,?_,aW⟩;simp only[Instr.fill,ao];grind
    grind
 | [],_::_,_,_,_,_,_,hlen,_=>by grind
 | _::_,[],_,_,_,_,_,hlen,_=>by grind
theorem Sb:∀ {l:List (Nat×aH)},sq l->∀ i (h:i<l.length),(use l[i].2).1
 | a::l,h,0,_=>by
  obtain⟨n,a⟩:=a;cases a<;>first | trivial | exact h.1
 | a::l,h,i+1,G=>by
  have dt:sq l:=by obtain⟨n,a⟩:=a;cases a<;>first | exact h | exact h.2
  have:=Sb dt i (by grind);grind
theorem K2{a:Act}{w:World}{κ:Nat->bB}{F:Nat->Prop}(M:bl C s a w κ F)(ps:List (Nat×Operand))(bc:sq (ps.map λp=>(p.1,a1 C.aO s.az p.2))) :
  ∀ i (h:i<(iF (ps.map λp=>(p.1,a1 C.aO s.az p.2))).length) (dt:i<(ps.map λp=>(p.1,a.eval p.2)).length),(iF (ps.map λp=>(p.1,a1 C.aO s.az p.2)))[i].1=(ps.map λp=>(p.1,a.eval p.2))[i].1/\bz C.P s.aa κ F w (iF (ps.map λp=>(p.1,a1 C.aO s.az p.2)))[i].2 (ps.map λp=>(p.1,a.eval p.2))[i].2:=by
 intro i h dt;have G:i<ps.length:=by grind
 have E:=Sb bc i (by grind);simp only[List.getElem_map]at E;refine⟨by simp[iF],?_⟩;simp only[iF,List.getElem_map];exact pz (kd M _) E
theorem ad4(aV:dS C.P T){ty:TypeId}{ps:Array (Nat×Operand)}(bg:∀ i,o.dst=some i->i<C.nt)(af:o.op=.build ty ps)(Gi:∀ m e,T ty≠.array m e)(h:(bt C.aO T bf (a1 C.aO s.az) o).run s.aa=some res):cH C o s res:=by
 obtain⟨ps⟩:=ps;simp only[bt,af]at h;split at h
 ·rename_i t aM;have dq:=aV.cc aM (by simp);split at h
  ·rename_i cs pA;simp only[bO,aq.bM,Option.some.injEq]at h;subst h;refine cH.pure (by grind) bg λa w κ F M bc _=>?_;obtain⟨eT,jn⟩:=dq.st;obtain⟨i,z,E,U,ag,a7,bN,du⟩:=kA dq.kz;obtain⟨c,e,kf,z2⟩:=vp (P:=C.P) (H:=s.aa) (κ:=κ) (F:=F) (w:=w) (.st t) bN;rw[List.append_nil]at e;have ad5:=dq.ad1 jn;have hm:=ChangeMaps.mapM_total (f:=λ(f:Field)=>(C.P.info? f.type).map λi=>(f.offset,i.size)) (0,0) (l:=eT.toList) (λf au=>by
    obtain⟨s',sy⟩:=ad5 f au;obtain⟨ll,_,zS,_⟩:=kA sy.kz;simp_all)
   have sx:=run_places (P:=C.P) w eT.toList _ hm;obtain⟨di,aR,aW⟩:=Sa (w:=w) dq jn (place:=λj=>((eT.toList.map λf=>((C.P.info? f.type).map λi=>(f.offset,i.size)).getD (0,0)))[j]?)
    (λj f s' aF sy=>by
     obtain⟨ll,_,zS,xu,_⟩:=kA sy.kz;grind)
    _ _ (by rw[e];exact z2) pA (by simp[iF]) (K2 M ps bc)
   have hlen:cs.length=di.size:=by simpa using aW.len
   refine⟨.agg di,?_,di.toList,by simp,by grind,λj aF=>?_⟩
   ·have K3:(eT.mapM λf=>do pure (f.offset,<-sizeOf f.type):Sem (Array (Nat×Nat))).run C.P w=.ok (eT.toList.map λf=>((C.P.info? f.type).map λi=>(f.offset,i.size)).getD (0,0)).toArray w:=by
     rw[Array.mapM_eq_mapM_toList];simp[sx]
    simp only[execOp,af,Instr.build,Sem.run_bind,rp E a7,Result.andThen_ok,dB jn,K3];simp_all
   ·have:=aW.kV j aF;omega
  ·cases h
 ·rename_i aM;exact absurd aM (Gi _ _)
 ·cases h
end
end Go.Fer
namespace Go.Fer
open Go.RowKit
section
variable {C:b9} {T:Nat->ab} {bf:Nat->Option aN} {o:Oper} {s:aB} {res:eB}
theorem K4{P:Program}{w w':World}{t:ab}{id:TypeId}(h:b8 P t id){p:Addr}{v:Value}(cf:v.cells.size=t.size)(aE:(storeCells p v.cells.toList).run P w=.ok () w'):(storeVar id p v).run P w=.ok () w':=by
 simp[storeVar,h.size,cf,aE]
theorem ad6(aV:dS C.P T){ty:TypeId}{x y:Operand}(bg:o.dst=none)(af:o.op=.store ty x y)(h:(bt C.aO T bf (a1 C.aO s.az) o).run s.aa=some res):cH C o s res:=by
 simp only[bt,af]at h;split at h
 ·rename_i cC b g i ah;unfold KM at h;split at h
  ·rename_i be g' aS;simp only[aq.e1,aq.bM]at h;split at h
   ·rename_i e xs ll v bS;split at h
    ·rename_i hc;obtain⟨aC,ai⟩:=hc;simp only[Option.some.injEq]at h;subst h;intro a w κ F Q M bc G;have G:i=ll:=G;subst G;have E:=(cN M x ah bc.1).2 aC.symm (by rw[bS];rfl);have ae:=cN M y (av:=.an be g') (p:=(use (a1 C.aO s.az y)).1) (by rw[<-aS]) bc.2;have aT:=M.bC b;unfold cD at aT;rw[bS]at aT E;obtain⟨aU,cs,hW,bD,c2,c3,c4,c5,lQ,oM,xr⟩:=aT;have dq:=aV.cc (t:=T ty) rfl (by intro e;rw[e]at ai;cases ai);have tZ:=FU ae.1.2;have cf:(a.eval y).cells.size=(T ty).size:=by
      rw[tZ];cases aM:T ty<;>simp_all[ab.eG,ab.size]
     have lo:(κ b).off+i<cs.size:=by
      have:i<(κ b).cap:=by omega
      rw[c5.1]at c2;omega
     have ao:a.eval x=.pointer (some ⟨(κ b).aa,(κ b).off+i,none⟩):=by rw[E.2.2];simp[bQ.e0,c5.1]
     obtain⟨w',di,cg,cJ,et,lS,lT,mx⟩:=vv (P:=C.P) (a.eval y).cells.toList ((κ b).off+i) 0 w cs bD (by rw[tZ];simp;omega) (λu hu=>by rw[tZ]at hu;simp at hu;rw[hu];exact ae.1.2);refine Gb (w':=w') (by grind) (by simp[execOp,af,ao,Instr.storeAt,Instr.sureAddr,K4 dq cf cg]) ?_;rw[bg];refine⟨κ,F,?_⟩;have gr:fq s.aa κ (λq=>if q=b then (⟨(s.aa b).gen,.gj e xs i (.an be g')⟩:bK) else s.aa q) κ:=
      rk rfl (λh=>by cases h) (λ_=>by rw[bS];exact⟨rfl,rfl,rfl⟩) (λh=>by cases h) (λh=>by cases h)
     refine (M.px (b:=b) (x:=⟨(s.aa b).gen,.gj e xs i (.an be g')⟩) (by rw[bS];simp[bQ.bZ,aU]) (by simp[bQ.bZ,aU]) gr (λh=>by cases h) (λh=>by cases h) lS lT mx λH mY ck he=>?_);rw[tZ]at et;simp only[Nat.add_zero]at et;have eU:∀ k,di[k]?=if k=(κ b).off+i then some (a.eval y) else cs[k]?:=by
      intro k;rw[<-Array.getElem?_toList,et];have kX:(cs.toList.take ((κ b).off+i)).length=(κ b).off+i:=by rw[List.length_take,Array.length_toList];omega
      rcases Nat.lt_trichotomy k ((κ b).off+i) with al | al | al
      ·rw[if_neg (by omega),List.getElem?_append_left (by omega),List.getElem?_take_of_lt al,Array.getElem?_toList]
      ·rw[if_pos al,List.getElem?_append_right (by omega),kX,al];simp
      ·rw[if_neg (by omega),List.getElem?_append_right (by omega),kX,List.getElem?_append_right (by simp;omega),List.getElem?_drop];simp only[List.length_cons,List.length_nil];rw[show (κ b).off+i+(0+1)+(k - ((κ b).off+i) - (0+1))=k from by omega,Array.getElem?_toList]
     have Gj:di.size=cs.size:=by
      rw[<-Array.length_toList,et];grind
     have zT:di.getD ((κ b).off+i) Go.undef=a.eval y:=by
      rw[Array.getD_eq_getD_getElem?,eU];simp
     refine⟨aU,di,hW,cJ,by omega,c3,c4,c5,λj aF rj=>?_,by rw[zT];exact bz.lh ck (λ_ M=>M) he ae,by rw[zT];exact ae.1.2⟩;obtain⟨bj,d1,d2⟩:=lQ j aF rj;refine⟨bj,λq bq=>?_,fc e (λ_ M=>M) he d2⟩;have ub:q=0:=by have:=hS e d2;omega
     subst ub;rw[eU,if_neg (by rw[c5.1];omega)];exact d1 0 bq
    ·cases h
   ·cases h
  ·cases h
 rename_i cC dY ad7 ah;simp only[aq.e2,Option.bind_eq_some_iff,aq.bM,Option.some.injEq]at h;obtain⟨wl,lU,rfl⟩:=h;have K5:cC=(use (a1 C.aO s.az x)).1:=by rw[ah]
 have Gk:dY=(use (a1 C.aO s.az x)).2:=by rw[ah]
 subst K5;subst Gk;clear ah ad7;intro a w κ F Q M bc _;have ao:bz C.P s.aa κ F w (use (a1 C.aO s.az x)).2 (a.eval x):=cN M x rfl bc.1;have ae:bz C.P s.aa κ F w (use (a1 C.aO s.az y)).2 (a.eval y):=cN M y rfl bc.2;generalize (use (a1 C.aO s.az x)).2=ad8 at *
 generalize (use (a1 C.aO s.az y)).2=kC at *
 have ar:∀ c,o.op≠.defer c:=by grind
 have fin:∀ w',(Instr.storeAt ty (a.eval x) (a.eval y)).run C.P w=.ok () w'->ct C (s.f_ wl) a w'->o.wpIn (dR C.r) 0 C.P a w (λa' w'=>ct C (s.h' o.dst ⟨(use (a1 C.aO s.az x)).1/\(use (a1 C.aO s.az y)).1,True,.undef,wl⟩) a' w') Q:=by
  intro w' E U;refine Gb (w':=w') ar (by simp[execOp,af,E]) ?_;rw[bg];exact U
 unfold RM at lU;cases ad8 with
 | bd b g off=>
  simp only[aq.e1,aq.bM]at lU;split at lU
  ·rename_i aC;split at lU
   ·rename_i n f bS;simp only[Option.bind_eq_some_iff]at lU;obtain⟨l,ai,lU⟩:=lU;split at lU
    ·rename_i hc;simp only[Option.some.injEq]at lU;subst lU;have ad9:=ao.2 aC.symm (by rw[bS];rfl);have iE:=K1 ai ae;have aT:=M.bC b;unfold cD at aT;rw[bS]at aT;obtain⟨cs,hW,bD,c2,c3⟩:=aT;have hlen:=iE.len;have n0:∀ u∈(a.eval y).cells.toList,u.oneCell'=true:=by
      intro u hu;obtain⟨i,G,rfl⟩:=List.mem_iff_getElem.1 hu;have:=(iE.kV i (by omega)).2;grind
     obtain⟨w',di,cg,cJ,et,lS,lT,mx⟩:=vv (P:=C.P) (a.eval y).cells.toList off 0 w cs bD (by omega) n0;have cf:(a.eval y).cells.size=(T ty).size:=by grind
     have vw:T ty≠.cT:=by
      intro e;rw[e]at ai;cases kC<;>simp[cellsOf,ab.eG]at ai
     refine fin w' (by rw[ad9];simp[Instr.storeAt,Instr.sureAddr,K4 (aV.cc rfl vw) cf cg]) ⟨κ,F,?_⟩;have gr:fq s.aa κ (λi=>if i=b then (⟨(s.aa b).gen,.cells n (putCells f off l)⟩:bK) else s.aa i) κ:=
      rk rfl (λ_=>by rw[bS];rfl) (λh=>by cases h) (λh=>by cases h) (λh=>by cases h)
     refine (M.px (b:=b) (x:=⟨(s.aa b).gen,.cells n (putCells f off l)⟩) (by rw[bS];rfl) rfl gr (λ_=>by rw[bS];rfl) (λh=>by cases h) lS lT mx λH mY ck he=>?_);have Gj:di.size=n.size:=by
      rw[<-Array.length_toList,et];grind
     refine⟨di,hW,cJ,Gj,λi G=>?_⟩;have bF:di.getD i Go.undef=di.toList.getD i Go.undef:=by simp
     rw[bF,et];have lV:l.length=(a.eval y).cells.toList.length:=hlen;simp only[Nat.add_zero];have kX:(cs.toList.take off).length=off:=by grind
     unfold putCells;by_cases hX:off<=i/\i<off+l.length
     ·rw[if_pos hX];have ay:(cs.toList.take off++((a.eval y).cells.toList++cs.toList.drop (off+(a.eval y).cells.toList.length))).getD i Go.undef=(a.eval y).cells.toList.getD (i - off) Go.undef:=by
       grind
      rw[ay];have:=iE.kV (i - off) (by omega);exact⟨bz.lh ck (λ_ M=>M) he this.1,this.2⟩
     ·rw[if_neg hX];have ay:(cs.toList.take off++((a.eval y).cells.toList++cs.toList.drop (off+(a.eval y).cells.toList.length))).getD i Go.undef=cs.getD i Go.undef:=by
       rcases Nat.lt_or_ge i off with E | E
       ·rw[List.getD_eq_getElem?_getD,List.getElem?_append_left (by omega)];simp_all
       ·rw[List.getD_eq_getElem?_getD,List.getElem?_append_right (by omega),kX,List.getElem?_append_right (by omega),List.getElem?_drop];rw[show off+(a.eval y).cells.toList.length+(i - off - (a.eval y).cells.toList.length)=i from by omega];simp
      rw[ay];exact⟨bz.lh ck (λ_ M=>M) he (c3 i G).1,(c3 i G).2⟩
    grind
   grind
  grind
 | oH b g i off=>
  simp only[aq.e2,Option.bind_eq_some_iff,aq.run_bind,aq.e1,aq.bM]at lU;obtain⟨⟨z,l⟩,bk,lU⟩:=lU;split at lU
  ·rename_i aC;obtain⟨aC,qz⟩:=aC;have qz:b ∉ l:=by grind
   split at lU
   ·rename_i e xs bS;simp only[Option.map_eq_some_iff]at lU;obtain⟨my,zR,rfl⟩:=lU;obtain⟨jN,qA,mz⟩:=ao.2 aC.symm (by rw[bS];rfl);rw[bS]at jN mz;simp only[bQ.len,bQ.e0]at jN mz;obtain⟨F',f1,ba,f2⟩:=bl.ln (mX bk) M;have vx:=mv M.bC f1 bk f2 ae;have K6:((s.cz l).aa b)=s.aa b:=by simp[aB.cz,qz]
    have aT:=ba.bC b;unfold cD at aT;rw[K6,bS]at aT;obtain⟨cs,hW,bD,c2,c3,c4,c5⟩:=aT.2 qA;obtain⟨bj,d1,d2⟩:=c5 i jN;have KU:xs.getD i e.df=xs[i]:=by grind
    rw[KU]at zR;have vy:=hS e d2;obtain⟨dh,dK,mZ,bq,ax2,ax3,ad_⟩:=adp e d2 zR vx.2;have vw:T ty≠.cT:=by
     intro aZ;have:=vx.1;rw[aZ]at this;exact this
    have xv:(a.eval y).cells.toList.length=(T ty).size:=vx.1.len;have CO:(i+1)*e.size<=(κ b).cap*e.size:=Nat.mul_le_mul_right _ (by omega);have hbound:off+(T ty).size<=e.size:=by
     grind
    have n0:∀ u∈(a.eval y).cells.toList,u.oneCell'=true:=by
     intro u hu;have iE:=zC (P:=C.P) (H:=λ_=>⟨0,.fy⟩) (κ:=λ_=>⟨0,0,0,true⟩) (T ty) vx.2;obtain⟨j,aF,rfl⟩:=List.mem_iff_getElem.1 hu;have:=(iE.kV j (by rw[iE.len];exact aF)).2;grind
    have lo:(κ b).off+i*e.size+off+0+(a.eval y).cells.toList.length<=cs.size:=by
     grind
    obtain⟨w',di,cg,cJ,et,lS,lT,mx⟩:=vv (P:=C.P) (a.eval y).cells.toList ((κ b).off+i*e.size+off) 0 w cs bD lo n0;refine fin w' (by rw[mz];simp[Instr.storeAt,Instr.sureAddr,K4 (aV.cc rfl vw) (by omega) cg]) ⟨κ,F',?_⟩;have pD:s.f_ ((jK l).run s.aa++[(b,⟨(s.aa b).gen,.bh e (xs.set i my)⟩)])=(s.cz l).cx b ⟨(s.aa b).gen,.bh e (xs.set i my)⟩:=by
     rw[CK,t_]
    rw[pD];have gr:fq (s.cz l).aa κ (λll=>if ll=b then (⟨(s.aa b).gen,.bh e (xs.set i my)⟩:bK) else (s.cz l).aa ll) κ:=
     rk (by grind) (λh=>by cases h) (λ_=>by rw[K6,bS];exact⟨rfl,by simp[bQ.len],rfl⟩) (λh=>by cases h) (λh=>by cases h)
    have Sc:(κ b).e6=false:=qA;refine ba.px (b:=b) (x:=⟨(s.aa b).gen,.bh e (xs.set i my)⟩) (by rw[K6,bS];simp[bQ.bZ,Sc]) (by simp[bQ.bZ,Sc]) gr (λh=>by cases h) (λh=>by cases h) lS lT mx λH mY ck he=>?_;refine⟨λaw=>(by grind),λ_=>?_⟩;have Gj:di.size=cs.size:=by
     rw[<-Array.length_toList,et];grind
    refine⟨di,hW,cJ,by omega,by grind,c4,λj aF=>?_⟩;have fS:j<xs.length:=by grind
    simp only[Nat.add_zero]at et lo;have eU:∀ k,di[k]?=if (κ b).off+i*e.size+off<=k/\k<(κ b).off+i*e.size+off+(T ty).size then (a.eval y).cells.toList[k - ((κ b).off+i*e.size+off)]? else cs[k]?:=by
     intro k;rw[<-Array.getElem?_toList,et];have kX:(cs.toList.take ((κ b).off+i*e.size+off)).length=(κ b).off+i*e.size+off:=by grind
     by_cases hX:(κ b).off+i*e.size+off<=k/\k<(κ b).off+i*e.size+off+(T ty).size
     ·rw[if_pos hX,List.getElem?_append_right (by omega),kX,List.getElem?_append_left (by omega)]
     ·rw[if_neg hX];rcases Nat.lt_or_ge k ((κ b).off+i*e.size+off) with E | E
      ·grind
      ·rw[List.getElem?_append_right (by omega),kX,List.getElem?_append_right (by omega),List.getElem?_drop];rw[show (κ b).off+i*e.size+off+(a.eval y).cells.toList.length+(k - ((κ b).off+i*e.size+off) - (a.eval y).cells.toList.length)=k from by omega];simp
    by_cases rj:j=i
    ·subst rj;have ay:(xs.set j my)[j]=my:=by simp
     rw[ay];refine⟨dh++((a.eval y).cells.toList++mZ),λk al=>?_,fc e (λ_ M=>M) he ad_⟩;rw[eU];subst bq;simp only[List.length_append]at al vy;by_cases hX:off<=k/\k<off+(T ty).size
     ·rw[if_pos (by omega)];rw[show (κ b).off+j*e.size+k - ((κ b).off+j*e.size+off)=k - dh.length from by omega];grind
     grind
    ·have ay:(xs.set i my)[j]=xs[j]:=by grind
     rw[ay];obtain⟨Sd,ad',K7⟩:=c5 j fS;refine⟨Sd,λk al=>?_,fc e (λ_ M=>M) he K7⟩;rw[eU,if_neg]
     ·grind
     ·have ax4:=hS e K7;rcases Nat.lt_or_ge j i with E | E
      ·have:(j+1)*e.size<=i*e.size:=Nat.mul_le_mul_right _ (by omega);grind
      ·have:(i+1)*e.size<=j*e.size:=Nat.mul_le_mul_right _ (by omega);grind
   grind
  grind
 | _=>cases lU
end
end Go.Fer
