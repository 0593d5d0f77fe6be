/- Part 1 of the proof of TopExtra: shallow programs of Go functions, and what they compute. No condition. -/
import Derived.Below
import Derived.OrdersIn
import Derived.RangeFuncCalls
import Derived.RangeFuncSeq
import Derived.Laws.StructEq
import Derived.Laws.Tables
import Derived.ChangeMaps3
noncomputable section
namespace Go.Fer
@[ext] structure A (ao:Type):Type where
 dU:Prop
 bP:ao->Prop
namespace A
variable {ao β gJ G aQ:Type}
def pure (x:ao):A ao:=⟨True,λy=>y=x⟩
def bind (m:A ao) (f:ao->A β):A β:=⟨m.dU/\∀ x,m.bP x->(f x).dU,λy=>∃ x,m.bP x/\(f x).bP y⟩
def ah (p:Prop) (m:A ao):A ao:=⟨p/\m.dU,m.bP⟩
def eT (p:Prop) (x:ao):A ao:=⟨p,λy=>y=x⟩
def any (p:ao->Prop):A ao:=⟨∃ x,p x,p⟩
theorem tx {m n:A ao} (M:m.dU<->n.dU) (aa:∀ x,m.bP x<->n.bP x):m=n:=by
 cases m;cases n;simp only [A.mk.injEq];grind
@[simp] theorem Ql (x:ao):(pure x).dU=True:=rfl
@[simp] theorem asl (x y:ao):(pure x).bP y=(y=x):=rfl
@[simp] theorem aX (x:ao) (f:ao->A β):bind (pure x) f=f x:=tx (by simp [bind,pure]) (by simp [bind,pure])
@[simp] theorem asm (m:A ao):bind m pure=m:=tx (by simp [bind,pure]) (by simp [bind,pure])
theorem ba {p:Prop} (h:p) (m:A ao):ah p m=m:=tx (by simp [ah,h]) (by simp [ah])
@[simp] theorem bL (m:A ao):ah True m=m:=ba trivial m
theorem kH (p:Prop) (m:A ao) (f:ao->A β):bind (ah p m) f=ah p (bind m f):=tx (by simp [bind,ah,and_assoc]) (by simp [bind,ah])
@[simp] theorem vm (x:ao):eT True x=pure x:=rfl
theorem eZ {p:Prop} (h:p) (x:ao):eT p x=pure x:=tx (by simp_all) (by simp_all)
theorem cN (p:Prop) (x:ao) (f:ao->A β):bind (eT p x) f=ah p (f x):=by
 apply tx
 ·simp [bind,eT,ah]
 ·simp [bind,eT,ah]
theorem Qm {c:Prop} [Decidable c] (m n:A ao) (f:ao->A β):bind (if c then m else n) f=if c then bind m f else bind n f:=by grind
def bz (n m:A ao):Prop:=m.dU->n.dU/\∀ y,n.bP y->m.bP y
theorem le_refl (m:A ao):bz m m:=λh=>⟨h,λ_ h=>h⟩
theorem le_trans {a b c:A ao} (h:bz a b) (k:bz b c):bz a c:=λaA=>⟨(h (k aA).1).1,λy aJ=>(k aA).2 y ((h (k aA).1).2 y aJ)⟩
theorem le_of_eq {a b:A ao} (h:a=b):bz a b:=h ▸ le_refl a
def cp (m:A ao) (p:ao->Prop):Prop:=m.dU/\∀ y,m.bP y->p y
theorem cp.mono {m:A ao} {p q:ao->Prop} (h:cp m p) (k:∀ y,p y->q y):cp m q:=⟨h.1,λy aJ=>k y (h.2 y aJ)⟩
theorem ez {x:ao} {p:ao->Prop}:cp (pure x) p<->p x:=⟨λh=>h.2 x rfl,λh=>⟨trivial,λ_ e=>e ▸ h⟩⟩
theorem gf {m:A ao} {f:ao->A β} {p:β->Prop}:cp (bind m f) p<->cp m λx=>cp (f x) p:=
 ⟨λh=>⟨h.1.1,λx au=>⟨h.1.2 x au,λy aJ=>h.2 y ⟨x,au,aJ⟩⟩⟩,λh=>⟨⟨h.1,λx au=>(h.2 x au).1⟩,λy ⟨x,au,aJ⟩=>(h.2 x au).2 y aJ⟩⟩
theorem mx {q:Prop} {m:A ao} {p:ao->Prop}:cp (ah q m) p<->q/\cp m p:=by
 simp [cp,ah,and_assoc]
inductive ab (G aQ:Type) where
 | next (s:G)
 | done (r:aQ)
inductive BC (body:G->A (ab G aQ)):G->Prop where
 | mk (s:G) (h:(body s).dU) (k:∀ s',(body s).bP (.next s')->BC body s'):BC body s
inductive y2 (body:G->A (ab G aQ)):G->aQ->Prop where
 | done (s:G) (r:aQ) (h:(body s).bP (.done r)):y2 body s r
 | next (s s':G) (r:aQ) (h:(body s).bP (.next s')) (k:y2 body s' r):y2 body s r
def loop (body:G->A (ab G aQ)) (s:G):A aQ:=⟨BC body s,y2 body s⟩
theorem BD (body:G->A (ab G aQ)) (s:G) :
  loop body s=bind (body s) fun | .next s'=>loop body s' | .done r=>pure r:=by
 apply tx
 ·constructor
  ·rintro ⟨_,h,k⟩;refine ⟨h,λx au=>?_⟩;cases x with
   | next s'=>exact k s' au
   | done r=>trivial
  ·rintro ⟨h,k⟩;exact ⟨s,h,λs' aA=>k _ aA⟩
 ·intro r;constructor
  ·rintro (⟨_,_,h⟩ | ⟨_,s',_,h,k⟩)
   ·exact ⟨.done r,h,rfl⟩
   ·exact ⟨.next s',h,k⟩
  ·rintro ⟨x,au,W⟩;cases x with
   | next s'=>exact .next s s' r au W
   | done po=>cases W;exact .done s _ au
theorem Js {body:G->A (ab G aQ)} {s s':G} (h:body s=pure (.next s')):loop body s=loop body s':=by
 rw [BD,h,aX]
theorem wY {body:G->A (ab G aQ)} {s:G} {r:aQ} (h:body s=pure (.done r)):loop body s=pure r:=by
 rw [BD,h,aX]
theorem EV {body:G->A (ab G aQ)} {p:aQ->Prop} (I:G->Prop) (Jt:G->Nat)
  (round:∀ s,I s->cp (body s) fun | .next s'=>I s'/\Jt s'<Jt s | .done r=>p r) (s:G) (h:I s):cp (loop body s) p:=by
 have key:∀ n s,Jt s=n->I s->cp (loop body s) p:=by
  intro n;induction n using Nat.strongRecOn with
  | _ n aO=>
   intro s aI aA;rw [BD,gf];refine (round s aA).mono λy aJ=>?_;cases y with
   | next s'=>grind
   | done r=>exact ez.2 aJ
 grind
end A
end Go.Fer
namespace Go.Fer
open Go.RowKit
inductive ai where
 | bool | int (k:IntKind) | str | da
 | st (t:ai) | aG (a b:ai)
 | slice (e:ai) | array (n:Nat) (e:ai) | bQ (e:ai) | map (k v:ai) | fn (a b:ai) | cj (a:ai)
 deriving DecidableEq
@[reducible] def ai.aq:ai->Type
 | .bool=>Bool
 | .int _=>Int
 | .str=>List UInt8
 | .da=>Unit
 | .st t=>t.aq
 | .aG a b=>a.aq×b.aq
 | .slice e=>List e.aq
 | .array _ e=>List e.aq
 | .bQ e=>Option e.aq
 | .map k v=>List (k.aq×v.aq)
 | .fn a b=>a.aq->A b.aq
 | .cj a=>List a.aq->Prop
def ai.ee:(t:ai)->t.aq
 | .bool=>false
 | .int _=>(0:Int)
 | .str=>[]
 | .da=>()
 | .st t=>t.ee
 | .aG a b=>(a.ee,b.ee)
 | .slice _=>[]
 | .array n e=>List.replicate n e.ee
 | .bQ _=>none
 | .map _ _=>[]
 | .fn _ _=>λ_=>⟨False,λ_=>False⟩
 | .cj _=>λ_=>False
def ai.size:ai->Nat
 | .da=>0
 | .st t=>t.size
 | .aG a b=>a.size+b.size
 | .array n e=>n*e.size
 | _=>1
def ai.fE:ai->Bool
 | .da | .st _ | .aG _ _ | .array _ _=>false
 | _=>true
def ji (k:IntKind) (n:Int):Prop:=k.min<=n/\n<=k.max
instance (k:IntKind) (n:Int):Decidable (ji k n):=inferInstanceAs (Decidable (_/\_))
def tz (F:Nat->Prop) (w:World) (p:Addr) (cs:List Value):Prop:=
 F p.block/\p.spot=none/\∀ j (h:j<cs.length),w.cell? ⟨p.block,p.off+j,none⟩=some cs[j]
def c6 (F:Nat->Prop) (w w':World):Prop:=w.heap.size<=w'.heap.size/\∀ r,F r->w'.heap[r]?=w.heap[r]?
theorem c6.refl (F:Nat->Prop) (w:World):c6 F w w:=⟨Nat.le_refl _,λ_ _=>rfl⟩
theorem c6.trans {F F':Nat->Prop} {a b c:World} (h:c6 F a b) (bB:∀ r,F r->F' r) (k:c6 F' b c):c6 F a c:=
 ⟨Nat.le_trans h.1 k.1,λr W=>(k.2 r (bB r W)).trans (h.2 r W)⟩
theorem c6.cell {F:Nat->Prop} {w w':World} (h:c6 F w w') {a:Addr} (bf:F a.block):w'.cell? a=w.cell? a:=by
 simp only [World.cell?,h.2 _ bf]
theorem c6.mono {F F':Nat->Prop} {w w':World} (h:c6 F' w w') (bB:∀ r,F r->F' r):c6 F w w':=⟨h.1,λr W=>h.2 r (bB r W)⟩
theorem tz.mono {F F':Nat->Prop} {w w':World} {p:Addr} {cs:List Value} (h:tz F w p cs) (bB:∀ r,F r->F' r) (he:c6 F w w'):tz F' w' p cs:=
 ⟨bB _ h.1,h.2.1,λj aC=>(he.cell (a:=⟨p.block,p.off+j,none⟩) h.1).trans (h.2.2 j aC)⟩
def lB:ai->Value->Prop
 | .st t,v=>∃ cs:Array Value,v=.agg cs/\cs.size=t.size
 | .array n e,v=>∃ cs:Array Value,v=.agg cs/\cs.size=n*e.size
 | .da,_=>False
 | .aG _ _,_=>False
 | _,v=>v.cells=#[v]
def e8 (aH:List Value):List Value:=aH.flatMap (·.cells.toList)
@[simp] theorem Z':e8 []=[]:=rfl
@[simp] theorem Ju (v:Value) (aH:List Value):e8 (v::aH)=v.cells.toList++e8 aH:=rfl
def wZ:ai->List Value->Prop
 | .aG a b,v::aH=>lB a v/\wZ b aH
 | .aG _ _,[]=>False
 | .da,aH=>aH=[]
 | t,aH=>∃ v,aH=[v]/\lB t v
def y3:ai->Value->List Value->Prop
 | .aG _ _,v,aH=>v=.tuple aH.toArray
 | .da,v,aH=>v=.tuple #[]/\aH=[]
 | _,v,aH=>aH=[v]
def y4 (F:Nat->Prop) (w w':World):Nat->Prop:=λr=>F r\/(w.heap.size<=r/\r<w'.heap.size)
structure EW (P:Program) {ao:Type} (R:(Nat->Prop)->World->List Value->ao->Prop) (l:Nat) (S:List ao->Prop) (I:List ao->Bool->(Nat->Prop)->(Nat->Prop)->World->Prop):Prop where
 BE:∀ {pre st} {F F' Y:Nat->Prop} {w w':World},I pre st F Y w->(∀ r,F r->F' r)->(∀ r,F r\/Y r->w'.heap[r]?=w.heap[r]?)->w.heap.size<=w'.heap.size->w'.os=w.os/\w'.tape=w.tape/\w'.output=w.output->(∀ r,F' r->r<w'.heap.size)->(∀ r,F' r->¬Y r)->I pre st F' Y w'
 yield:∀ {pre} {F Y:Nat->Prop} {w:World} {args:List Value} {x:ao},I pre false F Y w->(∀ r,F r->r<w.heap.size)->(∀ r,Y r->r<w.heap.size/\¬F r)->(∃ T,S (pre++x::T))->R F w args x->
  YieldAt Fence.wide 0 P l args.toArray w λe w'=>∃ (b:Bool) (F' ha:Nat->Prop),e=.returned (.bool b)/\(∀ r,F r->F' r)/\(∀ r,F' r->F r\/Y r\/w.heap.size<=r)/\(∀ r,F' r->r<w'.heap.size)/\
   (∀ r,r<w.heap.size->¬Y r->w'.heap[r]?=w.heap[r]?)/\(∀ r,ha r->(Y r\/w.heap.size<=r)/\r<w'.heap.size/\¬F' r)/\w.heap.size<=w'.heap.size/\(w'.os=w.os/\w'.tape=w.tape/\w'.output=w.output)/\I (pre++[x]) (!b) F' ha w'
def Qn {ao:Type} (S:List ao->Prop) (I:List ao->Bool->(Nat->Prop)->(Nat->Prop)->World->Prop) (F Y:Nat->Prop) (w:World) (e:Ending) (w':World):Prop:=
 ∃ v pre st F' ha,e=.returned v/\(st=false->S pre)/\I pre st F' ha w'/\(∀ r,F r->F' r)/\(∀ r,F' r->F r\/Y r\/w.heap.size<=r)/\(∀ r,F' r->r<w'.heap.size)/\
  (∀ r,r<w.heap.size->¬Y r->w'.heap[r]?=w.heap[r]?)/\(∀ r,ha r->(Y r\/w.heap.size<=r)/\r<w'.heap.size/\¬F' r)/\w.heap.size<=w'.heap.size/\(w'.os=w.os/\w'.tape=w.tape/\w'.output=w.output)
def bM (P:Program):(t:ai)->(Nat->Prop)->World->List Value->t.aq->Prop
 | .bool,_,_,cs,x=>cs=[.bool x]
 | .int k,_,_,cs,x=>cs=[.int k x]/\ji k x
 | .str,_,_,cs,x=>cs=[.string ⟨x.toArray⟩]/\x.length<2 ^ 63
 | .da,_,_,cs,_=>cs=[]
 | .st t,F,w,cs,x=>bM P t F w cs x
 | .aG a b,F,w,cs,x=>∃ c d,cs=c++d/\bM P a F w c x.1/\bM P b F w d x.2
 | .slice e,F,w,cs,xs=>∃ a cap,cs=[.slice a xs.length cap]/\xs.length<=cap/\cap<2 ^ 63/\(a=none->cap=0)/\
   ∀ p,a=some p->0<cap->F p.block/\p.spot=none/\∀ i (h:i<xs.length),∃ bn,tz F w ⟨p.block,p.off+i*e.size,none⟩ bn/\bM P e F w bn xs[i]
 | .array n e,F,w,cs,xs=>∃ gg:List (List Value),cs=gg.flatten/\gg.length=n/\xs.length=n/\∀ i (h:i<xs.length) (dx:i<gg.length),bM P e F w gg[i] xs[i]
 | .bQ e,F,w,cs,x=>(cs=[.pointer none]/\x=none)\/∃ p y bn,cs=[.pointer (some p)]/\x=some y/\tz F w p bn/\bM P e F w bn y
 | .map k v,F,w,cs,xs=>(cs=[.map none]/\xs=[])\/∃ r es clk,cs=[.map (some r)]/\F r/\w.heap[r]?=some (.map es clk)/\es.size=xs.length/\(xs.map (·.1)).Nodup/\
   (∀ i (h:i<xs.length) (dx:i<es.size),lB k es[i].key/\bM P k F w es[i].key.cells.toList xs[i].1/\lB v es[i].val/\bM P v F w es[i].val.cells.toList xs[i].2/\es[i].born<clk)/\
   (∀ i j (h:i<es.size) (dx:j<es.size),es[i].born=es[j].born->i=j)
 | .fn a b,F,w,cs,f=>∃ u,cs=[u]/\(u.cells=#[u]/\u.oneCell'=true)/\∀ (F':Nat->Prop) (w':World),(∀ r,F r->F' r)->c6 F w w'->(∀ r,F' r->r<w'.heap.size)->
   ∀ args x,wZ a args->bM P a F' w' (e8 args) x->(f x).dU->∃ g caps,u=.func (.func g) #[] caps/\(∀ as w,(callFunc g as).run P w=.ok (.enter g as) w)/\
    Calls P g (args.toArray++caps) w' λe tA=>∃ v y aH,e=.returned v/\(f x).bP y/\y3 b v aH/\wZ b aH/\bM P b (y4 F' w' tA) tA (e8 aH) y/\Below w'.heap.size w' tA
 | .cj a,F,w,cs,S=>∃ u,cs=[u]/\(u.cells=#[u]/\u.oneCell'=true)/\∀ (F':Nat->Prop) (w':World),(∀ r,F r->F' r)->c6 F w w'->(∀ r,F' r->r<w'.heap.size)->
   (∃ L,S L)->∃ g caps,u=.func (.func g) #[] caps/\(∀ as w,(callFunc g as).run P w=.ok (.enter g as) w)/\
    ∀ (l:Nat) (I:List a.aq->Bool->(Nat->Prop)->(Nat->Prop)->World->Prop) (Y:Nat->Prop),(∀ r,Y r->r<w'.heap.size/\¬F' r)->
     EW P (λF w args x=>wZ a args/\bM P a F w (e8 args) x) l S I->I [] false F' Y w'->Calls P g (#[Value.func (.yield l) #[] #[]]++caps) w' (Qn S I F' Y w')
theorem jj {P:Program}:∀ (t:ai) {F:Nat->Prop} {w:World} {cs:List Value} {x:t.aq},bM P t F w cs x->cs.length=t.size:=by
 intro t;induction t with
 | bool=>intro F w cs x h;simp only [bM] at h;simp [h,ai.size]
 | int k=>intro F w cs x h;simp only [bM] at h;simp [h.1,ai.size]
 | str=>intro F w cs x h;simp only [bM] at h;simp [h.1,ai.size]
 | da=>intro F w cs x h;simp only [bM] at h;simp [h,ai.size]
 | st t aO=>intro F w cs x h;simp only [bM] at h;exact aO h
 | aG a b gn fh=>
  intro F w cs x h;simp only [bM] at h;obtain ⟨c,d,rfl,bf,af⟩:=h;simp [ai.size,gn bf,fh af]
 | slice e aO=>intro F w cs x h;simp only [bM] at h;obtain ⟨a,cap,rfl,_⟩:=h;rfl
 | array n e aO=>
  intro F w cs x h;simp only [bM] at h;obtain ⟨gg,rfl,M,aa,an⟩:=h;have:∀ l∈gg,l.length=e.size:=by
   intro l aw;obtain ⟨i,U,rfl⟩:=List.mem_iff_getElem.1 aw;grind
  have a8:gg.map List.length=List.replicate n e.size:=by
   rw [<-M];exact List.eq_replicate_iff.2 ⟨by simp,by grind⟩
  simp [List.length_flatten,a8,ai.size]
 | bQ e aO=>intro F w cs x h;simp only [bM] at h;rcases h with ⟨rfl,_⟩ | ⟨p,y,bn,rfl,_⟩<;>rfl
 | map k v w1 w2=>intro F w cs x h;simp only [bM] at h;rcases h with ⟨rfl,_⟩ | ⟨r,es,clk,rfl,_⟩<;>rfl
 | fn a b gn fh=>intro F w cs x h;simp only [bM] at h;obtain ⟨u,rfl,_⟩:=h;rfl
 | cj a aO=>intro F w cs x h;simp only [bM] at h;obtain ⟨u,rfl,_⟩:=h;rfl
theorem gp {P:Program}:∀ (t:ai) {F F':Nat->Prop} {w w':World} {cs:List Value} {x:t.aq},(∀ r,F r->F' r)->c6 F w w'->bM P t F w cs x->bM P t F' w' cs x:=by
 intro t;induction t with
 | bool=>intro F F' w w' cs x _ _ h;exact h
 | int k=>intro F F' w w' cs x _ _ h;exact h
 | str=>intro F F' w w' cs x _ _ h;exact h
 | da=>intro F F' w w' cs x _ _ h;exact h
 | st t aO=>intro F F' w w' cs x bB he h;simp only [bM] at h ⊢;grind
 | aG a b gn fh=>
  intro F F' w w' cs x bB he h;simp only [bM] at h ⊢;grind
 | slice e aO=>
  intro F F' w w' cs x bB he h;simp only [bM] at h ⊢;obtain ⟨a,cap,rfl,M,aa,an,a8⟩:=h;refine ⟨a,cap,rfl,M,aa,an,λp ar hc=>?_⟩;obtain ⟨aS,aY,bK⟩:=a8 p ar hc;refine ⟨bB _ aS,aY,λi U=>?_⟩;obtain ⟨bn,eb,eN⟩:=bK i U;exact ⟨bn,eb.mono bB he,aO bB he eN⟩
 | array n e aO=>
  intro F F' w w' cs x bB he h;simp only [bM] at h ⊢;grind
 | bQ e aO=>
  intro F F' w w' cs x bB he h;simp only [bM] at h ⊢;rcases h with h | ⟨p,y,bn,M,aa,an,a8⟩
  ·grind
  ·exact .inr ⟨p,y,bn,M,aa,an.mono bB he,aO bB he a8⟩
 | map k v w1 w2=>
  intro F F' w w' cs x bB he h;simp only [bM] at h ⊢;rcases h with h | ⟨r,es,clk,M,aa,an,a8,bV,d_,hL⟩
  ·grind
  ·refine .inr ⟨r,es,clk,M,bB _ aa,(he.2 _ aa).trans an,a8,bV,λi U eA=>?_,hL⟩;grind
 | fn a b gn fh=>
  intro F F' w w' cs x bB he h;simp only [bM] at h ⊢;obtain ⟨u,rfl,hu,M⟩:=h;exact ⟨u,rfl,hu,λJv tA BF BG aA=>M Jv tA (λr W=>BF r (bB r W)) (he.trans bB BG) aA⟩
 | cj a aO=>
  intro F F' w w' cs x bB he h;simp only [bM] at h ⊢;obtain ⟨u,rfl,hu,M⟩:=h;exact ⟨u,rfl,hu,λJv tA BF BG aA=>M Jv tA (λr W=>BF r (bB r W)) (he.trans bB BG) aA⟩
def eU (P:Program) (t:ai) (F:Nat->Prop) (w:World) (v:Value) (x:t.aq):Prop:=lB t v/\bM P t F w v.cells.toList x
def gS (P:Program) (t:ai) (F:Nat->Prop) (w:World) (aH:List Value) (x:t.aq):Prop:=wZ t aH/\bM P t F w (e8 aH) x
def vn (P:Program) (t:ai) (F:Nat->Prop) (w:World) (v:Value) (x:t.aq):Prop:=∃ aH,y3 t v aH/\gS P t F w aH x
theorem eU.mono {P:Program} {t:ai} {F F':Nat->Prop} {w w':World} {v:Value} {x:t.aq} (h:eU P t F w v x) (bB:∀ r,F r->F' r) (he:c6 F w w'):eU P t F' w' v x:=
 ⟨h.1,gp t bB he h.2⟩
theorem Jw {v:Value} (h:v.oneCell'=true):v.cells=#[v]:=by
 cases v<;>first | rfl | cases h
theorem Qo {v:Value} (h:v.cells=#[v]):v.cells.toList=[v]:=by rw [h]
theorem lB.len {t:ai} {v:Value} (h:lB t v):v.cells.toList.length=t.size:=by
 cases t<;>simp only [lB] at h<;>first
  | (obtain ⟨cs,rfl,h⟩:=h;simpa [Value.cells,ai.size] using h)
  | (rw [Qo h];rfl)
  | exact h.elim
theorem BH {P:Program} {a b:ai} {F:Nat->Prop} {w:World} {v:Value} {aH:List Value} {x:a.aq} {y:b.aq} :
  gS P (.aG a b) F w (v::aH) (x,y)<->eU P a F w v x/\gS P b F w aH y:=by
 constructor
 ·rintro ⟨⟨M,aa⟩,c,d,e,hc,aN⟩;have aw:=jj a hc;have:=List.append_inj e (by rw [aw];exact M.len);rw [Ju] at e;obtain ⟨aK,bq⟩:=this;subst aK;subst bq;exact ⟨⟨M,hc⟩,aa,aN⟩
 ·rintro ⟨⟨M,aa⟩,an,a8⟩;exact ⟨⟨M,an⟩,_,_,rfl,aa,a8⟩
theorem Qp {P:Program} {a b:ai} {F:Nat->Prop} {w:World} {aH:List Value} {x:(ai.aG a b).aq} (h:gS P (.aG a b) F w aH x) :
  ∃ v us,aH=v::us/\eU P a F w v x.1/\gS P b F w us x.2:=by
 cases aH with
 | nil=>exact h.1.elim
 | cons v us=>exact ⟨v,us,rfl,BH.1 h⟩
def ai.hs:ai->Bool
 | .aG _ _ | .da=>false
 | _=>true
theorem BI {P:Program} {t:ai} (aR:t.hs=true) {F:Nat->Prop} {w:World} {aH:List Value} {x:t.aq} :
  gS P t F w aH x<->∃ v,aH=[v]/\eU P t F w v x:=by
 have key:wZ t aH<->∃ v,aH=[v]/\lB t v:=by cases t<;>simp [ai.hs,wZ] at aR ⊢
 unfold gS eU;rw [key];constructor
 ·rintro ⟨⟨v,rfl,aj⟩,h⟩;exact ⟨v,rfl,aj,by simpa using h⟩
 ·rintro ⟨v,rfl,aj,h⟩;exact ⟨⟨v,rfl,aj⟩,by simpa using h⟩
section
variable {P:Program} {F:Nat->Prop} {w:World} {v:Value}
@[simp] theorem gh {x:Bool}:eU P .bool F w v x<->v=.bool x:=by
 constructor
 ·rintro ⟨M,aa⟩;simp only [lB] at M;simp only [bM] at aa;rw [Qo M] at aa;simpa using aa
 ·rintro rfl;exact ⟨by simp [lB,Value.cells],by simp [bM,Value.cells]⟩
theorem hZ {k:IntKind} {x:Int}:eU P (.int k) F w v x<->v=.int k x/\ji k x:=by
 constructor
 ·rintro ⟨M,aa⟩;simp only [lB] at M;simp only [bM] at aa;grind
 ·rintro ⟨rfl,h⟩;exact ⟨by rfl,by simpa [bM,Value.cells] using h⟩
theorem qf {x:List UInt8}:eU P .str F w v x<->v=.string ⟨x.toArray⟩/\x.length<2 ^ 63:=by
 constructor
 ·rintro ⟨M,aa⟩;simp only [lB] at M;simp only [bM] at aa;grind
 ·rintro ⟨rfl,h⟩;exact ⟨by rfl,by simpa [bM,Value.cells] using h⟩
theorem fa {t:ai} (aR:t.fE=true) {x:t.aq}:eU P t F w v x<->v.cells=#[v]/\bM P t F w [v] x:=by
 have M:lB t v<->v.cells=#[v]:=by cases t<;>simp [ai.fE,lB] at aR ⊢
 unfold eU;grind
theorem Qq {t:ai} (aR:t.fE=true) {F:Nat->Prop} {w:World} {u:Value} {x:t.aq} (h:bM P t F w [u] x):u.oneCell'=true:=by
 cases t<;>simp only [ai.fE,bM] at aR h<;>try contradiction
 ·obtain rfl:=(List.cons.inj h).1;rfl
 ·obtain rfl:=(List.cons.inj h.1).1;rfl
 ·obtain rfl:=(List.cons.inj h.1).1;rfl
 ·obtain ⟨a,cap,h,_⟩:=h;obtain rfl:=(List.cons.inj h).1;rfl
 ·rcases h with ⟨h,_⟩ | ⟨p,y,bn,h,_⟩<;>(obtain rfl:=(List.cons.inj h).1;rfl)
 ·rcases h with ⟨h,_⟩ | ⟨r,es,clk,h,_⟩<;>(obtain rfl:=(List.cons.inj h).1;rfl)
 ·obtain ⟨nv,h,hu,_⟩:=h;obtain rfl:=(List.cons.inj h).1;exact hu.2
 ·obtain ⟨nv,h,hu,_⟩:=h;obtain rfl:=(List.cons.inj h).1;exact hu.2
theorem EX {t:ai} (aR:t.fE=true) {F:Nat->Prop} {w:World} {cs:List Value} {x:t.aq} (h:bM P t F w cs x):∃ u,cs=[u]/\u.cells=#[u]:=by
 cases t<;>simp only [ai.fE,bM] at aR h<;>try contradiction
 ·exact ⟨_,h,rfl⟩
 ·exact ⟨_,h.1,rfl⟩
 ·exact ⟨_,h.1,rfl⟩
 ·obtain ⟨a,cap,rfl,_⟩:=h;exact ⟨_,rfl,rfl⟩
 ·rcases h with ⟨rfl,_⟩ | ⟨p,y,bn,rfl,_⟩<;>exact ⟨_,rfl,rfl⟩
 ·rcases h with ⟨rfl,_⟩ | ⟨r,es,clk,rfl,_⟩<;>exact ⟨_,rfl,rfl⟩
 ·obtain ⟨u,rfl,hu,_⟩:=h;exact ⟨u,rfl,hu.1⟩
 ·obtain ⟨u,rfl,hu,_⟩:=h;exact ⟨u,rfl,hu.1⟩
end
structure jk (P:Program) (k:FuncId) (ts a5:ai) (sh:ts.aq->A a5.aq):Prop where
 enter:∀ args w,(callFunc k args).run P w=.ok (.enter k args) w
 mZ:∀ (F:Nat->Prop) (w:World) (args:List Value) (x:ts.aq),(∀ r,F r->r<w.heap.size)->gS P ts F w args x->(sh x).dU->
  Calls P k args.toArray w λe w'=>∃ v y,e=.returned v/\(sh x).bP y/\vn P a5 (y4 F w w') w' v y/\Below w.heap.size w w'
structure EY (P:Program) (k:FuncId) (ts a5:ai) (sh:ts.aq->A a5.aq):Prop where
 mZ:∀ (F:Nat->Prop) (w:World) (args:List Value) (x:ts.aq),(∀ r,F r->r<w.heap.size)->gS P ts F w args x->(sh x).dU->
  Calls P k args.toArray w λe w'=>∃ v y,e=.returned v/\(sh x).bP y/\vn P a5 (λr=>w.heap.size<=r/\r<w'.heap.size) w' v y/\Below w.heap.size w w'
def hb:List ai->ai
 | []=>.da
 | [t]=>t
 | t::u::l=>.aG t (hb (u::l))
def EZ:(as bs:List ai)->(hb as).aq->(hb bs).aq->(hb (as++bs)).aq
 | [],_,_,y=>y
 | [_],[],x,_=>x
 | [_],_::_,x,y=>(x,y)
 | _::u::l,bs,x,y=>(x.1,EZ (u::l) bs x.2 y)
theorem Qr {P:Program} {F:Nat->Prop} {w:World}:∀ (as bs:List ai),as.all ai.hs=true->∀ {aH us:List Value} {x:(hb as).aq} {y:(hb bs).aq},gS P (hb as) F w aH x->gS P (hb bs) F w us y->gS P (hb (as++bs)) F w (aH++us) (EZ as bs x y)
 | [],bs,_,aH,us,x,y,M,aa=>by
  obtain rfl:aH=[]:=M.1;exact aa
 | [t],[],_,aH,us,x,y,M,aa=>by
  obtain rfl:us=[]:=aa.1;have e:aH++[]=aH:=List.append_nil aH;rw [e];exact M
 | [t],b::bs,h,aH,us,x,y,M,aa=>by
  have aR:t.hs=true:=by grind
  obtain ⟨v,rfl,aj⟩:=(BI aR).1 M;exact BH.2 ⟨aj,aa⟩
 | t::u::l,bs,h,aH,us,x,y,M,aa=>by
  obtain ⟨v,sb,rfl,an,a8⟩:=Qp (a:=t) (b:=hb (u::l)) M;have aw:(u::l).all ai.hs=true:=by
   grind
  have:=Qr (u::l) bs aw a8 aa;exact BH.2 ⟨an,this⟩
structure aaa where
 ts:ai
 a5:ai
 sh:ts.aq->A a5.aq
structure E0 where
 as:List ai
 cs:List ai
 a5:ai
 sh:(hb (as++cs.map .bQ)).aq->A a5.aq
structure w3 where
 cs:List ai
 aM:ai
 S:(hb (cs.map .bQ)).aq->List aM.aq->Prop
structure y5 (P:Program) (k:FuncId) (v:w3):Prop where
 enter:∀ args w,(callFunc k args).run P w=.ok (.enter k args) w
 mZ:∀ (F:Nat->Prop) (w:World) (caps:List Value) (x:(hb (v.cs.map .bQ)).aq),(∀ r,F r->r<w.heap.size)->gS P (hb (v.cs.map .bQ)) F w caps x->(∃ L,v.S x L)->
  ∀ (l:Nat) (I:List v.aM.aq->Bool->(Nat->Prop)->(Nat->Prop)->World->Prop) (Y:Nat->Prop),(∀ r,Y r->r<w.heap.size/\¬F r)->
   EW P (gS P v.aM) l (v.S x) I->I [] false F Y w->Calls P k (#[Value.func (.yield l) #[] #[]]++caps.toArray) w (Qn (v.S x) I F Y w)
structure eG where
 tB:Nat->Option aaa
 tC:Nat->Option E0
 w4:Nat->Option w3:=λ_=>none
structure qg (P:Program) (a1:eG):Prop where
 tB:∀ k v,a1.tB k=some v->jk P k v.ts v.a5 v.sh
 tC:∀ k v,a1.tC k=some v->v.as.all ai.hs=true/\jk P k (hb (v.as++v.cs.map .bQ)) v.a5 v.sh
 w4:∀ k v,a1.w4 k=some v->y5 P k v:=by intro k v h;cases h
theorem aab {P:Program} {k:FuncId} {ts a5:ai} {sh:ts.aq->A a5.aq} (h:jk P k ts a5 sh) (F:Nat->Prop) (w:World):bM P (.fn ts a5) F w [.func (.func k) #[] #[]] sh:=by
 refine ⟨_,rfl,⟨rfl,rfl⟩,λF' w' _ _ aA args x M aa an=>⟨k,#[],rfl,h.enter,?_⟩⟩;have:=h.mZ F' w' args x aA ⟨M,aa⟩ an;simp only [Array.append_empty];exact this.mono λe tA ⟨v,y,aK,bq,⟨aH,cF,hd,j0⟩,qh⟩=>⟨v,y,aH,aK,bq,cF,hd,j0,qh⟩
end Go.Fer
namespace Go.Fer
open Go.RowKit
inductive aP where
 | undef
 | val (t:ai) (x:t.aq)
 | ie (b:Bool) (a:aP)
 | aV (b g off:Nat)
 | ad (b g:Nat)
 | pq (b g i off:Nat)
 | fb (t:ai) (x:t.aq)
 | dQ (b g:Nat)
 | j1 (k:FuncId) (n:Nat) (caps:Nat->aP)
 | sc (k:FuncId) (n:Nat) (first:Nat->aP)
 | qi (n:Nat) (f:Nat->aP)
 | agg (n:Nat) (f:Nat->aP)
 | cr
 | kj (v:Value)
 | kI (b g:Nat)
 | a5 (l:Nat) (aM:ai) (S:List aM.aq->Prop) (pre:List aM.aq) (st:Bool)
 | gA (l:Nat)
 | sub (b g a4 U:Nat)
 | w5 (e:ai) (xs:List e.aq)
inductive b7 where
 | gK
 | cells (t:ai) (f:Nat->aP)
 | bu (e:ai) (xs:List e.aq)
 | ig (e:ai) (xs:List e.aq)
 | mp (k v:ai) (es:List (k.aq×v.aq))
 | hf (t:ai) (x:t.aq)
 | jH (k v:ai) (es:List (k.aq×v.aq))
 | cj (k v:ai) (cur:Option (k.aq×v.aq)) (bZ:List (k.aq×v.aq))
structure bS where
 gen:Nat
 body:b7
structure bD where
 ag:Nat
 off:Nat
 cap:Nat
 h0:Bool
structure aE where
 aD:Nat->aP
 ag:Nat->bS
def b7.gB:b7->Bool | .cells _ _=>true | .hf _ _=>true | _=>false
def b7.gC:b7->Bool | .bu _ _=>true | .ig _ _=>true | _=>false
def b7.hE:b7->Bool | .mp _ _ _=>true | .jH _ _ _=>true | _=>false
def b7.my:b7->Bool | .cj _ _ _ _=>true | _=>false
def b7.len:b7->Nat | .bu _ xs=>xs.length | .ig _ xs=>xs.length | _=>0
def b7.gq:b7->Nat | .bu e _=>e.size | .ig e _=>e.size | _=>0
def b7.cd (k:bD):b7->Bool | .cells _ _=>true | .bu _ _=>!k.h0 | .mp _ _ _=>true | .cj _ _ _ _=>true | _=>false
def bD.slice (k:bD) (n:Nat):Value:=if k.h0 then .slice none 0 0 else .slice (some ⟨k.ag,k.off,none⟩) n k.cap
def E1 (k:bD) (gq a4 U:Nat) (v:Value):Prop:=
 (k.h0=true/\v=.slice none 0 0)\/(k.h0=false/\∃ o,v=.slice (some ⟨k.ag,o,none⟩) (U - a4) (k.cap - a4)/\o<=k.off+a4*gq/\(a4<k.cap->o=k.off+a4*gq))
def bw (P:Program) (H:Nat->bS) (κ:Nat->bD) (F:Nat->Prop) (w:World):aP->Value->Prop
 | .undef,_=>True
 | .val t x,v=>eU P t F w v x
 | .ie b a,v=>(b=true->bw P H κ F w a v)/\(b=false->v=Go.undef)
 | .aV b g off,v=>(g<=(H b).gen/\v.oneCell'=true)/\(g=(H b).gen->(H b).body.gB=true->v=.pointer (some ⟨(κ b).ag,off,none⟩))
 | .ad b g,v=>(g<=(H b).gen/\v.oneCell'=true)/\(g=(H b).gen->(H b).body.gC=true->v=(κ b).slice (H b).body.len)
 | .pq b g i off,v=>(g<=(H b).gen/\v.oneCell'=true)/\(g=(H b).gen->(H b).body.gC=true->i<(H b).body.len/\(κ b).h0=false/\v=.pointer (some ⟨(κ b).ag,(κ b).off+i*(H b).body.gq+off,none⟩))
 | .fb t x,v=>∃ p bn,v=.pointer (some p)/\tz F w p bn/\bM P t F w bn x
 | .dQ b g,v=>(g<=(H b).gen/\v.oneCell'=true)/\(g=(H b).gen->(H b).body.hE=true->v=.map (some (κ b).ag))
 | .j1 k n caps,v=>∃ aH:List Value,v=.func (.func k) #[] aH.toArray/\aH.length=n/\∀ i,i<n->bw P H κ F w (caps i) (aH.getD i Go.undef)
 | .sc k n f,v=>∃ aH:List Value,v=.func (.func k) aH.toArray #[]/\aH.length=n/\∀ i,i<n->bw P H κ F w (f i) (aH.getD i Go.undef)
 | .qi n f,v=>∃ aH:List Value,v=.tuple aH.toArray/\aH.length=n/\∀ i,i<n->bw P H κ F w (f i) (aH.getD i Go.undef)
 | .agg n f,v=>∃ aH:List Value,v=.agg aH.toArray/\aH.length=n/\∀ i,i<n->bw P H κ F w (f i) (aH.getD i Go.undef)/\(aH.getD i Go.undef).oneCell'=true
 | .cr,v=>v=.slice none 0 0
 | .kj u,v=>v=u
 | .kI b g,v=>(g<=(H b).gen/\v.oneCell'=true)/\(g=(H b).gen->(H b).body.my=true->v=.pointer (some ⟨(κ b).ag,0,none⟩))
 | .a5 _ _ _ _ _,_=>True
 | .gA l,v=>v=.func (.yield l) #[] #[]
 | .w5 e xs,v=>eU P (.slice e) F w v xs/\∃ q,v=.slice q xs.length xs.length
 | .sub b g a4 U,v=>(g<=(H b).gen/\v.oneCell'=true)/\(g=(H b).gen->(H b).body.gC=true->(a4<=U/\U<=(H b).body.len)/\E1 (κ b) (H b).body.gq a4 U v)
def gT (H:Nat->bS) (κ:Nat->bD) (H':Nat->bS) (κ':Nat->bD):Prop:=
 ∀ b,(H b).gen<=(H' b).gen/\((H b).gen=(H' b).gen->
  ((H' b).body.gB=true->(H b).body.gB=true/\(κ' b).ag=(κ b).ag)/\
  ((H' b).body.gC=true->(H b).body.gC=true/\κ' b=κ b/\(H' b).body.len=(H b).body.len/\(H' b).body.gq=(H b).body.gq)/\
  ((H' b).body.hE=true->(H b).body.hE=true/\(κ' b).ag=(κ b).ag)/\
  ((H' b).body.my=true->(H b).body.my=true/\(κ' b).ag=(κ b).ag))
theorem gT.refl (H:Nat->bS) (κ:Nat->bD):gT H κ H κ:=λ_=>⟨Nat.le_refl _,λ_=>⟨λh=>⟨h,rfl⟩,λh=>⟨h,rfl,rfl,rfl⟩,λh=>⟨h,rfl⟩,λh=>⟨h,rfl⟩⟩⟩
def sd (x y:bS) (k k':bD):Prop:=
 x.gen<=y.gen/\(x.gen=y.gen->
  (y.body.gB=true->x.body.gB=true/\k'.ag=k.ag)/\
  (y.body.gC=true->x.body.gC=true/\k'=k/\y.body.len=x.body.len/\y.body.gq=x.body.gq)/\
  (y.body.hE=true->x.body.hE=true/\k'.ag=k.ag)/\
  (y.body.my=true->x.body.my=true/\k'.ag=k.ag))
theorem sd.refl (x:bS) (k:bD):sd x x k k:=⟨Nat.le_refl _,λ_=>⟨λh=>⟨h,rfl⟩,λh=>⟨h,rfl,rfl,rfl⟩,λh=>⟨h,rfl⟩,λh=>⟨h,rfl⟩⟩⟩
theorem BJ {H:Nat->bS} {κ:Nat->bD} {H':Nat->bS} {κ':Nat->bD}:gT H κ H' κ'<->∀ b,sd (H b) (H' b) (κ b) (κ' b):=Iff.rfl
theorem bw.nw {P:Program} {H H':Nat->bS} {κ κ':Nat->bD} {F F':Nat->Prop} {w w':World} (aw:gT H κ H' κ') (bB:∀ r,F r->F' r) (he:c6 F w w') :
  ∀ {a:aP} {v:Value},bw P H κ F w a v->bw P H' κ' F' w' a v:=by
 intro a;induction a with
 | undef=>intro v h;trivial
 | val t x=>intro v h;exact eU.mono h bB he
 | ie b a aO=>intro v h;exact ⟨λaf=>aO (h.1 af),h.2⟩
 | aV b g off=>
  intro v h;obtain ⟨M,aa⟩:=h;obtain ⟨aS,aY⟩:=aw b;refine ⟨⟨Nat.le_trans M.1 aS,M.2⟩,λaL hc=>?_⟩;grind
 | ad b g=>
  intro v h;obtain ⟨M,aa⟩:=h;obtain ⟨aS,aY⟩:=aw b;refine ⟨⟨Nat.le_trans M.1 aS,M.2⟩,λaL hc=>?_⟩;grind
 | pq b g i off=>
  intro v h;obtain ⟨M,aa⟩:=h;obtain ⟨aS,aY⟩:=aw b;refine ⟨⟨Nat.le_trans M.1 aS,M.2⟩,λaL hc=>?_⟩;grind
 | fb t x=>
  intro v h;obtain ⟨p,bn,M,aa,an⟩:=h;exact ⟨p,bn,M,aa.mono bB he,gp t bB he an⟩
 | dQ b g=>
  intro v h;obtain ⟨M,aa⟩:=h;obtain ⟨aS,aY⟩:=aw b;refine ⟨⟨Nat.le_trans M.1 aS,M.2⟩,λaL hc=>?_⟩;grind
 | kI b g=>
  intro v h;obtain ⟨M,aa⟩:=h;obtain ⟨aS,aY⟩:=aw b;refine ⟨⟨Nat.le_trans M.1 aS,M.2⟩,λaL hc=>?_⟩;grind
 | sub b g a4 U=>
  intro v h;obtain ⟨M,aa⟩:=h;obtain ⟨aS,aY⟩:=aw b;refine ⟨⟨Nat.le_trans M.1 aS,M.2⟩,λaL hc=>?_⟩;grind
 | a5 l aM L n st=>intro v _;trivial
 | gA l=>intro v h;exact h
 | w5 e xs=>intro v h;exact ⟨eU.mono h.1 bB he,h.2⟩
 | j1 k n caps aO=>
  intro v h;obtain ⟨aH,M,aa,an⟩:=h;exact ⟨aH,M,aa,λi U=>aO i (an i U)⟩
 | sc k n f aO=>
  intro v h;obtain ⟨aH,M,aa,an⟩:=h;exact ⟨aH,M,aa,λi U=>aO i (an i U)⟩
 | qi n f aO=>
  intro v h;obtain ⟨aH,M,aa,an⟩:=h;exact ⟨aH,M,aa,λi U=>aO i (an i U)⟩
 | agg n f aO=>
  intro v h;obtain ⟨aH,M,aa,an⟩:=h;exact ⟨aH,M,aa,λi U=>⟨aO i (an i U).1,(an i U).2⟩⟩
 | cr=>intro v h;exact h
 | kj u=>intro v h;exact h
def vo (P:Program) (k v:ai) (F:Nat->Prop) (w:World) (es:Array MapEntry) (clk:Nat) (xs:List (k.aq×v.aq)):Prop:=
 es.size=xs.length/\(xs.map (·.1)).Nodup/\
 (∀ i (h:i<xs.length) (dx:i<es.size),lB k es[i].key/\bM P k F w es[i].key.cells.toList xs[i].1/\lB v es[i].val/\bM P v F w es[i].val.cells.toList xs[i].2/\es[i].born<clk)/\
 (∀ i j (h:i<es.size) (dx:j<es.size),es[i].born=es[j].born->i=j)
theorem vo.mono {P:Program} {k v:ai} {F F':Nat->Prop} {w w':World} {es:Array MapEntry} {clk:Nat} {xs:List (k.aq×v.aq)} (h:vo P k v F w es clk xs) (bB:∀ r,F r->F' r) (he:c6 F w w') :
  vo P k v F' w' es clk xs:=
 ⟨h.1,h.2.1,λi U eA=>let ⟨a,b,c,d,e⟩:=h.2.2.1 i U eA;⟨a,gp k bB he b,c,gp v bB he d,e⟩,h.2.2.2⟩
def qj (P:Program) (e:ai) (F:Nat->Prop) (w:World) (cs:Array Value) (off:Nat) (xs:List e.aq):Prop:=
 ∀ i (h:i<xs.length),∃ bn,(∀ j (h:j<bn.length),cs[off+i*e.size+j]?=some bn[j])/\bM P e F w bn xs[i]
theorem qj.mono {P:Program} {e:ai} {F F':Nat->Prop} {w w':World} {cs:Array Value} {off:Nat} {xs:List e.aq} (h:qj P e F w cs off xs) (bB:∀ r,F r->F' r) (he:c6 F w w') :
  qj P e F' w' cs off xs:=λi U=>let ⟨bn,a,b⟩:=h i U;⟨bn,a,gp e bB he b⟩
def y6 (P:Program) (k v:ai) (F:Nat->Prop) (w:World) (e:MapEntry) (x:k.aq×v.aq):Prop:=
 lB k e.key/\bM P k F w e.key.cells.toList x.1/\lB v e.val/\bM P v F w e.val.cells.toList x.2
theorem y6.mono {P:Program} {k v:ai} {F F':Nat->Prop} {w w':World} {e:MapEntry} {x:k.aq×v.aq} (h:y6 P k v F w e x) (bB:∀ r,F r->F' r) (he:c6 F w w'):y6 P k v F' w' e x:=
 ⟨h.1,gp k bB he h.2.1,h.2.2.1,gp v bB he h.2.2.2⟩
def w6 (P:Program) (k v:ai) (F:Nat->Prop) (w:World) (pr:Nat) (cur:Option (k.aq×v.aq)) (bZ:List (k.aq×v.aq)):Prop:=
 (w.heap[pr]?=some (.mapIter none 0 #[] 0)/\bZ=[]/\cur=none)\/
 ∃ mz es clk seen,F mz/\w.heap[mz]?=some (.map es clk)/\w.heap[pr]?=some (.mapIter (some mz) clk seen clk)/\
  (∀ i (h:i<es.size),es[i].born<clk)/\(∀ i j (h:i<es.size) (dx:j<es.size),es[i].born=es[j].born->i=j)/\
  (∃ ids:List Nat,ids.length=bZ.length/\ids.Nodup/\(∀ i,i∈ids<->∃ h:i<es.size,seen.contains es[i].born=false)/\
   (∀ j (h:j<ids.length) (dx:j<bZ.length),∃ U:ids[j]<es.size,y6 P k v F w es[ids[j]] bZ[j]))/\
  (∀ c,cur=some c->∃ i,∃ h:i<es.size,seen.back?=some es[i].born/\y6 P k v F w es[i] c)
theorem w6.mono {P:Program} {k v:ai} {F F':Nat->Prop} {w w':World} {pr:Nat} {cur:Option (k.aq×v.aq)} {bZ:List (k.aq×v.aq)} (h:w6 P k v F w pr cur bZ) (bB:∀ r,F r->F' r) (he:c6 F w w')
  (U:w'.heap[pr]?=w.heap[pr]?):w6 P k v F' w' pr cur bZ:=by
 rcases h with ⟨M,aa⟩ | ⟨mz,es,clk,seen,M,aa,an,a8,bV,⟨ids,i1,i2,i3,i4⟩,hL⟩
 ·exact .inl ⟨U.trans M,aa⟩
 ·exact .inr ⟨mz,es,clk,seen,bB _ M,(he.2 _ M).trans aa,U.trans an,a8,bV,⟨ids,i1,i2,i3,λj aC gU=>let ⟨a,b⟩:=i4 j aC gU;⟨a,b.mono bB he⟩⟩,λc hc=>let ⟨i,a,b,d⟩:=hL c hc;⟨i,a,b,d.mono bB he⟩⟩
def k5 (P:Program) (H:Nat->bS) (κ:Nat->bD) (F:Nat->Prop) (w:World) (k:bD):b7->Prop
 | .gK=>True
 | .cells t f=>∃ cs T,w.heap[k.ag]?=some (.cells cs T (0,0))/\cs.size=t.size/\∀ i,i<t.size->bw P H κ F w (f i) (cs.getD i Go.undef)/\(cs.getD i Go.undef).oneCell'=true
 | .bu e xs=>(k.h0=true->xs=[])/\(k.h0=false->∃ cs T,w.heap[k.ag]?=some (.cells cs T (0,0))/\k.off+k.cap*e.size<=cs.size/\xs.length<=k.cap/\k.cap<2 ^ 63/\qj P e F w cs k.off xs)
 | .ig e xs=>bM P (.slice e) F w [k.slice xs.length] xs
 | .mp m0 pt es=>∃ ms clk,w.heap[k.ag]?=some (.map ms clk)/\vo P m0 pt F w ms clk es
 | .hf t x=>∃ bn,tz F w ⟨k.ag,0,none⟩ bn/\bM P t F w bn x
 | .jH m0 pt es=>bM P (.map m0 pt) F w [.map (some k.ag)] es
 | .cj m0 pt cur bZ=>w6 P m0 pt F w k.ag cur bZ
def cO (P:Program) (H:Nat->bS) (κ:Nat->bD) (F:Nat->Prop) (w:World) (b:Nat):Prop:=k5 P H κ F w (κ b) (H b).body
theorem cO.mA {P:Program} {H H':Nat->bS} {κ κ':Nat->bD} {F F':Nat->Prop} {w w':World} {b:Nat} (h:cO P H κ F w b) (aw:gT H κ H' κ') (bB:∀ r,F r->F' r) (he:c6 F w w')
  (af:(H' b).body=(H b).body) (ak:κ' b=κ b) (hw:(H b).body.cd (κ b)=true->w'.heap[(κ b).ag]?=w.heap[(κ b).ag]?):cO P H' κ' F' w' b:=by
 unfold cO at *
 rw [af,ak];cases b9:(H b).body with
 | gK=>trivial
 | cells n f=>
  rw [b9] at h hw;obtain ⟨cs,T,M,aa,an⟩:=h;exact ⟨cs,T,(hw rfl).trans M,aa,λi U=>⟨bw.nw aw bB he (an i U).1,(an i U).2⟩⟩
 | bu e xs=>
  rw [b9] at h hw;refine ⟨h.1,λaI=>?_⟩;obtain ⟨cs,T,M,aa,an,a8,bV⟩:=h.2 aI;exact ⟨cs,T,(hw (by simp [b7.cd,aI])).trans M,aa,an,a8,bV.mono bB he⟩
 | ig e xs=>
  rw [b9] at h;exact gp _ bB he h
 | mp m0 pt es=>
  rw [b9] at h hw;obtain ⟨ms,clk,M,aa⟩:=h;exact ⟨ms,clk,(hw rfl).trans M,aa.mono bB he⟩
 | hf t x=>
  rw [b9] at h;obtain ⟨bn,M,aa⟩:=h;exact ⟨bn,M.mono bB he,gp t bB he aa⟩
 | jH m0 pt es=>
  rw [b9] at h;exact gp (.map m0 pt) bB he h
 | cj m0 pt cur bZ=>
  rw [b9] at h hw;exact w6.mono h bB he (hw rfl)
structure dA (w w':World):Prop where
 os:w'.os=w.os
 tape:w'.tape=w.tape
 output:w'.output=w.output
theorem dA.refl (w:World):dA w w:=⟨rfl,rfl,rfl⟩
theorem dA.trans {a b c:World} (h:dA a b) (k:dA b c):dA a c:=⟨k.os.trans h.os,k.tape.trans h.tape,k.output.trans h.output⟩
structure mB where
 l:Nat
 aM:ai
 S:List aM.aq->Prop
 I:List aM.aq->Bool->(Nat->Prop)->(Nat->Prop)->World->Prop
structure mB.k6 (P:Program) (p:mB):Prop where
 BE:∀ {pre st} {F F' Y:Nat->Prop} {w w':World},p.I pre st F Y w->(∀ r,F r->F' r)->(∀ r,F r\/Y r->w'.heap[r]?=w.heap[r]?)->w.heap.size<=w'.heap.size->dA w w'->(∀ r,F' r->r<w'.heap.size)->(∀ r,F' r->¬Y r)->p.I pre st F' Y w'
 yield:∀ {pre} {F Y:Nat->Prop} {w:World} {args:List Value} {x:p.aM.aq},p.I pre false F Y w->(∀ r,F r->r<w.heap.size)->(∀ r,Y r->r<w.heap.size/\¬F r)->(∃ T,p.S (pre++x::T))->gS P p.aM F w args x->
  YieldAt Fence.wide 0 P p.l args.toArray w λe w'=>∃ (b:Bool) (F' ha:Nat->Prop),e=.returned (.bool b)/\(∀ r,F r->F' r)/\(∀ r,F' r->F r\/Y r\/w.heap.size<=r)/\(∀ r,F' r->r<w'.heap.size)/\
   (∀ r,r<w.heap.size->¬Y r->w'.heap[r]?=w.heap[r]?)/\(∀ r,ha r->(Y r\/w.heap.size<=r)/\r<w'.heap.size/\¬F' r)/\w.heap.size<=w'.heap.size/\dA w w'/\p.I (pre++[x]) (!b) F' ha w'
def mB.at (p:mB) (aM:ai) (pre:List aM.aq) (st:Bool) (F Y:Nat->Prop) (w:World):Prop:=∃ h:aM=p.aM,p.I (h ▸ pre) st F Y w
theorem mB.y7 {l:Nat} {aM:ai} {S:List aM.aq->Prop} {I} {pre:List aM.aq} {st:Bool} {F Y:Nat->Prop} {w:World}:(mB.mk l aM S I).at aM pre st F Y w<->I pre st F Y w:=⟨λ⟨_,h⟩=>h,λh=>⟨rfl,h⟩⟩
theorem mB.k6.Jx {P:Program} {p:mB} (h:p.k6 P) {aM:ai} {pre:List aM.aq} {st} {F F' Y:Nat->Prop} {w w':World}:p.at aM pre st F Y w->(∀ r,F r->F' r)->(∀ r,F r\/Y r->w'.heap[r]?=w.heap[r]?)->w.heap.size<=w'.heap.size->dA w w'->(∀ r,F' r->r<w'.heap.size)->(∀ r,F' r->¬Y r)->p.at aM pre st F' Y w':=
 λ⟨e,M⟩ aa an a8 bV d_ hL=>⟨e,h.BE M aa an a8 bV d_ hL⟩
def b_:Nat:=1000000
def fP:Nat:=100000
def y8:Nat:=200000
structure cf where
 P:Program
 w0:World
 F0:Nat->Prop
 K0:Nat->Prop
 nt:Nat
 r:Option Nat
 dfr:List Deferred
 ix:Nat->Option Nat
 ck:mB
 aZ:eG
 Jy:Nat->Option (bD×Nat):=λ_=>none
def aac (C:cf) (s:aE) (w:World) (κ:Nat->bD) (F:Nat->Prop):Prop:=
 ∀ l aM L n st,s.aD b_=.a5 l aM L n st->(∃ I,C.ck=⟨l,aM,L,I⟩)/\C.ck.k6 C.P/\
  ∃ Y:Nat->Prop,(∀ r,Y r->r<w.heap.size/\¬F r/\¬C.K0 r)/\(∀ b,(s.ag b).body.cd (κ b)=true->¬Y (κ b).ag)/\C.ck.at aM n st F Y w
structure bl (C:cf) (s:aE) (a:Act) (w:World) (κ:Nat->bD) (F:Nat->Prop):Prop where
 eB:a.tmps.size=C.nt
 dfr:a.defers=C.dfr
 b3:∀ i,bw C.P s.ag κ F w (s.aD i) (a.tmps.getD i Go.undef)
 bI:∀ b,cO C.P s.ag κ F w b
 ad:∀ b,(s.ag b).body.cd (κ b)=true->(κ b).ag<w.heap.size/\¬F (κ b).ag/\¬C.K0 (κ b).ag
 inj:∀ b bg,(s.ag b).body.cd (κ b)=true->(s.ag bg).body.cd (κ bg)=true->(κ b).ag=(κ bg).ag->b=bg
 dM:∀ r,F r->r<w.heap.size
 iY:∀ r,F r->C.F0 r\/¬C.K0 r
 j2:∀ r,C.F0 r->F r
 jI:∀ r,C.K0 r->r<C.w0.heap.size
 fF:∀ r,C.K0 r->w.heap[r]?=C.w0.heap[r]?
 size:C.w0.heap.size<=w.heap.size
 fi:dA C.w0 w
 hF:C.nt<=fP
 m1:∀ b r,C.ix b=some r->fP<=b
 lC:∀ b r,C.ix b=some r->(s.ag b).body.gB=true\/(s.ag b).body.hE=true->(κ b).ag=r
 m2:∀ b k,C.Jy b=some k->y8<=b
 mC:∀ b k,C.Jy b=some k->(s.ag b).gen=0->(s.ag b).body.gC=true->κ b=k.1/\(s.ag b).body.len=k.2
 fQ:aac C s w κ F
 l2:qg C.P C.aZ
def cG (C:cf) (s:aE) (a:Act) (w:World):Prop:=∃ κ F,bl C s a w κ F
def aE.set (s:aE) (d:Option Nat) (v:aP):aE:=
 match d with
 | none=>s
 | some d=>{ s with aD:=λi=>if i=d then v else s.aD i }
def aE.cy (s:aE) (b:Nat) (x:bS):aE:={ s with ag:=λi=>if i=b then x else s.ag i }
theorem aad {a:Act} {d:Nat} {v:Value} (aN:d<a.tmps.size) (i:Nat):(a.put (some d) v).tmps.getD i Go.undef=if i=d then v else a.tmps.getD i Go.undef:=by
 simp only [Act.put,Array.getD_eq_getD_getElem?,Array.getElem?_setIfInBounds];grind
theorem bl.set {C:cf} {s:aE} {a:Act} {w:World} {κ:Nat->bD} {F:Nat->Prop} (h:bl C s a w κ F) {d:Option Nat} (aN:∀ i,d=some i->i<C.nt) {av:aP} {v:Value}
  (aj:bw C.P s.ag κ F w av v):bl C (s.set d av) (a.put d v) w κ F:=by
 cases d with
 | none=>exact h
 | some d=>
  have Jz:=aN d rfl;have aI:=h.hF;refine { h with eB:=by simpa [Act.put] using h.eB,dfr:=h.dfr,b3:=λi=>?_,fQ:=λl aM L n st e=>?_ }
  ·rw [aad (by rw [h.eB];omega)];simp only [aE.set];by_cases U:i=d
   ·grind
   ·rw [if_neg U,if_neg U];exact h.b3 i
  ·simp only [aE.set] at e;rw [if_neg (by unfold b_ fP at *;omega)] at e;exact h.fQ l aM L n st e
theorem bl.move {C:cf} {s:aE} {a:Act} {w:World} {κ:Nat->bD} {F:Nat->Prop} (h:bl C s a w κ F) {H':Nat->bS} {κ':Nat->bD} {F':Nat->Prop} {w':World}
  (aw:gT s.ag κ H' κ') (bB:∀ r,F r->F' r) (BF:∀ r,F' r->F r\/(∃ b,(s.ag b).body.cd (κ b)=true/\(κ b).ag=r)\/w.heap.size<=r)
  (cH:w.heap.size<=w'.heap.size) (hw:∀ r,r<w.heap.size->(∀ b,(s.ag b).body.cd (κ b)=true->(κ b).ag≠r)->w'.heap[r]?=w.heap[r]?) (hc:dA w w')
  (af:c6 F w w'->∀ b,cO C.P H' κ' F' w' b)
  (al:∀ b,(H' b).body.cd (κ' b)=true->(κ' b).ag<w'.heap.size/\¬F' (κ' b).ag/\((∃ b0,(s.ag b0).body.cd (κ b0)=true/\(κ b0).ag=(κ' b).ag)\/w.heap.size<=(κ' b).ag))
  (U:∀ b bg,(H' b).body.cd (κ' b)=true->(H' bg).body.cd (κ' bg)=true->(κ' b).ag=(κ' bg).ag->b=bg)
  (aA:∀ r,F' r->r<w'.heap.size)
  (aae:∀ b,fP<=b->(H' b).body.gB=true\/(H' b).body.hE=true->κ' b=κ b/\((s.ag b).body.gB=true\/(s.ag b).body.hE=true)):bl C ⟨s.aD,H'⟩ a w' κ' F':=by
 have aaf:∀ r,C.K0 r->(∀ b,(s.ag b).body.cd (κ b)=true->(κ b).ag≠r):=λr W b af e=>(h.ad b af).2.2 (e ▸ W);have ak:∀ r,C.K0 r->w'.heap[r]?=w.heap[r]?:=λr W=>hw r (Nat.lt_of_lt_of_le (h.jI r W) h.size) (aaf r W);have y9:∀ r,w.heap.size<=r->¬C.K0 r:=λr W ak=>by have:=h.jI r ak;have:=h.size;omega
 have he:c6 F w w':=⟨cH,λr W=>hw r (h.dM r W) λb af e=>(h.ad b af).2.1 (e ▸ W)⟩
 refine { eB:=h.eB,dfr:=h.dfr,b3:=λi=>bw.nw aw bB he (h.b3 i),bI:=af he,ad:=λb af=>?_,inj:=U,dM:=aA,iY:=λr W=>?_,j2:=λr W=>bB r (h.j2 r W),jI:=h.jI,fF:=λr W=>(ak r W).trans (h.fF r W),size:=Nat.le_trans h.size cH,fi:=h.fi.trans hc,hF:=h.hF,m1:=h.m1,lC:=λb r W hc=>?_,m2:=h.m2,mC:=λb k ak aW bf=>?_,fQ:=λl aM L n st e=>?_,l2:=h.l2 }
 ·grind
 ·rcases BF r W with M | ⟨b,M,rfl⟩ | M
  ·exact h.iY r M
  ·exact .inr (h.ad b M).2.2
  ·exact .inr (y9 r M)
 ·obtain ⟨aS,aY⟩:=aae b (h.m1 b r W) hc;rw [aS];exact h.lC b r W aY
 ·obtain ⟨ek,ht⟩:=aw b;have aW:(H' b).gen=0:=aW;have bf:(H' b).body.gC=true:=bf;obtain ⟨bN,b1,bC,_⟩:=(ht (by omega)).2.1 bf;obtain ⟨aS,aY⟩:=h.mC b k ak (by omega) bN;grind
 ·obtain ⟨M,aa,Y,an,a8,bV⟩:=h.fQ l aM L n st e;have asn:∀ r,Y r->w'.heap[r]?=w.heap[r]?:=λr W=>hw r (an r W).1 λb af e=>a8 b af (e ▸ W);have BK:∀ r,Y r->¬F' r:=λr W ax=>by
   grind
  refine ⟨M,aa,Y,λr W=>⟨Nat.lt_of_lt_of_le (an r W).1 cH,BK r W,(an r W).2.2⟩,λb af aJ=>?_,aa.Jx bV bB (λr W=>?_) cH hc aA λr ax aJ=>BK r aJ ax⟩
  ·grind
  ·rcases W with W | W
   ·exact he.2 r W
   grind
theorem qk (w:World) (o:Obj) {r:Nat} (h:r<w.heap.size):(w.alloc o).heap[r]?=w.heap[r]?:=Below.heap_alloc w o r h
theorem ri (w:World) (o:Obj):(w.alloc o).heap[w.heap.size]?=some o:=by
 show (w.heap.push o)[w.heap.size]?=_;simp
theorem c6.alloc {F:Nat->Prop} {w:World} (aA:∀ r,F r->r<w.heap.size) (o:Obj):c6 F w (w.alloc o):=
 ⟨by simp,λr W=>qk w o (aA r W)⟩
theorem BL {H:Nat->bS} {κ κ':Nat->bD} {b:Nat} {x:bS} (aL:(H b).gen<x.gen) (BM:∀ bg,bg≠b->κ' bg=κ bg) :
  gT H κ (λi=>if i=b then x else H i) κ':=by
 rw [BJ];intro i;by_cases U:i=b
 ·subst U;simp only [if_true];exact ⟨by omega,λh=>by omega⟩
 ·simp only [if_neg U];rw [BM i U];exact sd.refl _ _
theorem BN {H:Nat->bS} {κ κ':Nat->bD} {b:Nat} {x:bS} (af:b<fP\/(x.body.gB=false/\x.body.hE=false)) (BM:∀ bg,bg≠b->κ' bg=κ bg) :
  ∀ i,fP<=i->(if i=b then x else H i).body.gB=true\/(if i=b then x else H i).body.hE=true->κ' i=κ i/\((H i).body.gB=true\/(H i).body.hE=true):=by
 grind
theorem bl.alloc {C:cf} {s:aE} {a:Act} {w:World} {κ:Nat->bD} {F:Nat->Prop} (h:bl C s a w κ F) {b:Nat} {x:bS} (E2:b<fP) (aL:(s.ag b).gen<x.gen)
  {o:Obj} {k:bD} (ak:k.ag=w.heap.size)
  (au:∀ (H:Nat->bS) (κ':Nat->bD),H=(λi=>if i=b then x else s.ag i)->κ'=(λi=>if i=b then k else κ i)->gT s.ag κ H κ'->k5 C.P H κ' F (w.alloc o) k x.body) :
  bl C (s.cy b x) a (w.alloc o) (λi=>if i=b then k else κ i) F:=by
 have aw:gT s.ag κ (λi=>if i=b then x else s.ag i) (λi=>if i=b then k else κ i):=BL aL λbg dq=>by grind
 refine h.move (H':=λi=>if i=b then x else s.ag i) aw (λ_ W=>W) (λ_ W=>.inl W) (by simp) (λr W _=>qk w o W) ⟨rfl,rfl,rfl⟩ (λhe=>?_) ?_ ?_ ?_ (BN (.inl E2) λbg dq=>by grind)
 ·intro i;by_cases U:i=b
  ·subst U;simp only [cO,if_true];grind
  ·refine cO.mA (h.bI i) aw (λ_ W=>W) he (by grind) (by grind) λal=>?_;exact qk w o (h.ad i al).1
 ·intro i U;by_cases gD:i=b
  ·subst gD;simp only [if_true] at U ⊢;refine ⟨by simp_all,λax=>?_,.inr (by omega)⟩;have:=h.dM _ ax;omega
  ·simp only [if_neg gD] at U ⊢;have:=h.ad i U;exact ⟨by simp;omega,this.2.1,.inl ⟨i,U,rfl⟩⟩
 ·intro i j U aC e;by_cases gD:i=b<;>by_cases pv:j=b
  ·omega
  ·simp only [if_pos gD,if_neg pv] at U aC e;have:=(h.ad j aC).1;omega
  ·simp only [if_neg gD,if_pos pv] at U aC e;have:=(h.ad i U).1;omega
  ·simp only [if_neg gD,if_neg pv] at U aC e;exact h.inj i j U aC e
 ·intro r W;have:=h.dM r W;simp;omega
theorem vp {H:Nat->bS} {κ:Nat->bD} {b:Nat} {x:bS} (aL:x.gen=(H b).gen) (M:x.body.gB=true->(H b).body.gB=true)
  (aa:x.body.gC=true->(H b).body.gC=true/\x.body.len=(H b).body.len/\x.body.gq=(H b).body.gq) (an:x.body.hE=true->(H b).body.hE=true)
  (a8:x.body.my=true->(H b).body.my=true) :
  gT H κ (λi=>if i=b then x else H i) κ:=by
 rw [BJ];intro i;by_cases U:i=b
 ·subst U;simp only [if_true];exact ⟨by omega,λ_=>⟨λh=>⟨M h,rfl⟩,λh=>⟨(aa h).1,rfl,(aa h).2⟩,λh=>⟨an h,rfl⟩,λh=>⟨a8 h,rfl⟩⟩⟩
 ·simp only [if_neg U];exact sd.refl _ _
theorem aag {H:Nat->bS} {κ:Nat->bD} {b:Nat} {x:bS} (M:x.body.gB=true->(H b).body.gB=true) (an:x.body.hE=true->(H b).body.hE=true) :
  ∀ i,fP<=i->(if i=b then x else H i).body.gB=true\/(if i=b then x else H i).body.hE=true->κ i=κ i/\((H i).body.gB=true\/(H i).body.hE=true):=by
 grind
theorem bl.tD {C:cf} {s:aE} {a:Act} {w w':World} {κ:Nat->bD} {F:Nat->Prop} (h:bl C s a w κ F) {b:Nat} {x:bS}
  (hM:(s.ag b).body.cd (κ b)=true) (y_:x.body.cd (κ b)=true) (aw:gT s.ag κ (λi=>if i=b then x else s.ag i) κ)
  (M:x.body.gB=true->(s.ag b).body.gB=true) (an:x.body.hE=true->(s.ag b).body.hE=true)
  (hw:∀ r,r≠(κ b).ag->w'.heap[r]?=w.heap[r]?) (cH:w'.heap.size=w.heap.size) (hc:dA w w')
  (au:∀ (H:Nat->bS),H=(λi=>if i=b then x else s.ag i)->gT s.ag κ H κ->c6 F w w'->k5 C.P H κ F w' (κ b) x.body) :
  bl C (s.cy b x) a w' κ F:=by
 have al:=h.ad b hM;refine h.move (H':=λi=>if i=b then x else s.ag i) aw (λ_ W=>W) (λ_ W=>.inl W) (by omega) (λr _ W=>hw r λe=>W b hM e.symm) hc (λhe=>?_) ?_ ?_ (λr W=>by rw [cH];exact h.dM r W) (aag M an)
 ·intro i;by_cases U:i=b
  ·subst U;simp only [cO,if_true];grind
  ·refine cO.mA (h.bI i) aw (λ_ W=>W) he (by grind) rfl λnx=>hw _ λe=>U (h.inj i b nx hM e)
 ·intro i U;by_cases gD:i=b
  ·grind
  ·simp only [if_neg gD] at U;have:=h.ad i U;grind
 ·intro i j U aC e;have eA:(s.ag i).body.cd (κ i)=true:=by
   grind
  have gU:(s.ag j).body.cd (κ j)=true:=by
   grind
  exact h.inj i j eA gU e
theorem bl.drew {C:cf} {s:aE} {a:Act} {w:World} {κ:Nat->bD} {F:Nat->Prop} (h:bl C s a w κ F):bl C s a w.drew κ F:=
 h.move (H':=s.ag) (gT.refl _ _) (λ_ W=>W) (λ_ W=>.inl W) (Nat.le_refl _) (λ_ _ _=>rfl) ⟨rfl,rfl,rfl⟩
  (λ_ b=>cO.mA (h.bI b) (gT.refl _ _) (λ_ W=>W) ⟨Nat.le_refl _,λ_ _=>rfl⟩ rfl rfl λ_=>rfl) (λb af=>⟨(h.ad b af).1,(h.ad b af).2.1,.inl ⟨b,af,rfl⟩⟩) h.inj h.dM (λ_ _ h=>⟨rfl,h⟩)
def aE.bz (s' s:aE):Prop:=(∀ i,s'.aD i=s.aD i\/s'.aD i=.undef)/\∀ b,s'.ag b=s.ag b\/s'.ag b=⟨(s.ag b).gen,.gK⟩
theorem bl.E3 {C:cf} {s s':aE} {a:Act} {w:World} {κ:Nat->bD} {F:Nat->Prop} (h:bl C s a w κ F) (aA:s'.bz s):bl C s' a w κ F:=by
 have hM:∀ b,(s'.ag b).body.cd (κ b)=true->(s.ag b).body.cd (κ b)=true:=λb af=>by
  rcases aA.2 b with e | e
  ·grind
  ·rw [e] at af;cases af
 have aw:gT s.ag κ s'.ag κ:=λb=>by
  rcases aA.2 b with e | e
  ·grind
  ·rw [e];exact ⟨Nat.le_refl _,λ_=>⟨λh=>(by cases h),λh=>(by cases h),λh=>(by cases h),λh=>(by cases h)⟩⟩
 have aa:=h.move aw (λ_ W=>W) (λ_ W=>.inl W) (Nat.le_refl _) (λ_ _ _=>rfl) (dA.refl _)
  (λ_ b=>by
   rcases aA.2 b with e | e
   ·exact cO.mA (h.bI b) aw (λ_ W=>W) (c6.refl _ _) (by rw [e]) rfl λ_=>rfl
   ·unfold cO;rw [e];trivial)
  (λb af=>⟨(h.ad b (hM b af)).1,(h.ad b (hM b af)).2.1,.inl ⟨b,hM b af,rfl⟩⟩) (λb bg af dq=>h.inj b bg (hM b af) (hM bg dq)) h.dM (λb _ af=>⟨rfl,by
   rcases aA.2 b with e | e
   ·grind
   ·rw [e] at af;simp [b7.gB,b7.hE] at af⟩)
 refine { aa with b3:=λi=>?_,eB:=aa.eB,dfr:=aa.dfr,fQ:=λl aM L n st e=>?_ }
 ·rcases aA.1 i with e | e
  ·rw [e];exact aa.b3 i
  ·rw [e];trivial
 ·rcases aA.1 b_ with k | k
  ·exact aa.fQ l aM L n st (k ▸ e)
  grind
end Go.Fer
namespace Go.Fer
inductive az (ao:Type) where
 | ret (a:ao)
 | eV (b:Nat) (k:bS->az ao)
def az.run {ao:Type} (H:Nat->bS):az ao->ao
 | .ret a=>a
 | .eV b k=>(k (H b)).run H
def az.se {ao:Type} (H:Nat->bS):az ao->List Nat
 | .ret _=>[]
 | .eV b k=>b::(k (H b)).se H
def az.bind {ao β:Type}:az ao->(ao->az β)->az β
 | .ret a,f=>f a
 | .eV b k,f=>.eV b λx=>(k x).bind f
def az.map {ao β:Type} (f:ao->β) (m:az ao):az β:=m.bind λa=>.ret (f a)
def az.none {ao:Type}:az (Option ao):=.ret Option.none
def az.c7 {ao β:Type} (m:az (Option ao)) (f:ao->az (Option β)):az (Option β):=m.bind fun | some a=>f a | Option.none=>.none
@[simp] theorem az.bW {ao:Type} (H:Nat->bS) (a:ao):(az.ret a).run H=a:=rfl
@[simp] theorem az.gr {ao:Type} (H:Nat->bS) (b:Nat) (k:bS->az ao):(az.eV b k).run H=(k (H b)).run H:=rfl
theorem az.run_bind {ao β:Type} (H:Nat->bS) (m:az ao) (f:ao->az β):(m.bind f).run H=(f (m.run H)).run H:=by
 induction m with
 | ret a=>rfl
 | eV b k aO=>simp [az.bind,aO]
theorem az.fR {ao β:Type} (H:Nat->bS) (m:az (Option ao)) (f:ao->az (Option β)):(m.c7 f).run H=(m.run H).bind λa=>(f a).run H:=by
 unfold az.c7;rw [az.run_bind];cases m.run H<;>rfl
theorem az.Qs {ao:Type} {H H':Nat->bS}:∀ (m:az ao),(∀ b∈m.se H,H' b=H b)->m.run H'=m.run H/\m.se H'=m.se H
 | .ret a,_=>⟨rfl,rfl⟩
 | .eV b k,h=>by
  have af:=h b (by simp [az.se]);have:=az.Qs (k (H b)) λc hc=>h c (by simp [az.se,hc]);simp only [az.run,az.se,af,this];simp
def fG (t cT:ai) (x:t.aq):Option cT.aq:=if h:t=cT then some (h ▸ x) else none
theorem lD {t cT:ai} {x:t.aq} {y:cT.aq} (h:fG t cT x=some y):∃ e:t=cT,y=e ▸ x:=by
 unfold fG at h;grind
def BO:(t:ai)->Value->Option t.aq
 | .bQ _,.pointer Option.none=>some Option.none
 | .map _ _,.map Option.none=>some []
 | _,_=>Option.none
def ai.isAgg:ai->Bool
 | .st _ | .array _ _=>true
 | _=>false
def eW (t:ai):aP->az (Option (t.aq×List Nat))
 | .val cT x=>.ret ((fG cT t x).map (·,[]))
 | .cr=>match t with
  | .slice _=>.ret (some ([],[]))
  | _=>.none
 | .ad b g=>match t with
  | .slice e=>.eV b λx=>.ret (if x.gen=g then (match x.body with
    | .bu a9 xs=>(fG (.slice a9) (.slice e) xs).map (·,[b])
    | .ig a9 xs=>(fG (.slice a9) (.slice e) xs).map (·,[])
    | _=>Option.none) else Option.none)
  | _=>.none
 | .sub b g a4 U=>match t with
  | .slice e=>.eV b λx=>.ret (if x.gen=g then (match x.body with
    | .bu a9 xs=>(fG (.slice a9) (.slice e) ((xs.take U).drop a4)).map (·,[b])
    | .ig a9 xs=>(fG (.slice a9) (.slice e) ((xs.take U).drop a4)).map (·,[])
    | _=>Option.none) else Option.none)
  | _=>.none
 | .dQ b g=>match t with
  | .map k v=>.eV b λx=>.ret (if x.gen=g then (match x.body with
    | .mp k' iL es=>(fG (.map k' iL) (.map k v) es).map (·,[b])
    | .jH k' iL es=>(fG (.map k' iL) (.map k v) es).map (·,[])
    | _=>Option.none) else Option.none)
  | _=>.none
 | .fb cT x=>match t with
  | .bQ e=>.ret ((fG (.bQ cT) (.bQ e) (some x)).map (·,[]))
  | _=>.none
 | .kj v=>.ret ((BO t v).map (·,[]))
 | _=>.none
def tE (e:ai) (cz:List aP->az (Option (e.aq×List Nat×List aP))) (av:aP):az (Option (Option e.aq×List Nat)):=
 match av with
 | .aV b g off=>.eV b λx=>if x.gen=g/\off=0 then (match x.body with
   | .hf cT y=>.ret ((fG cT e y).map λz=>(some z,[]))
   | .cells cT f=>if cT=e then (cz ((List.range e.size).map f)).c7 λ(y,l,r)=>.ret (if r.isEmpty then some (some y,b::l) else Option.none) else .none
   | _=>.none) else .none
 | av=>eW (.bQ e) av
def iZ:(t:ai)->List aP->az (Option (t.aq×List Nat×List aP))
 | .da,cs=>.ret (some ((),[],cs))
 | .st t,cs=>iZ t cs
 | .aG a b,cs=>(iZ a cs).c7 λ(x,l,r)=>(iZ b r).c7 λ(y,m,q)=>.ret (some ((x,y),l++m,q))
 | .array n e,cs=>n.rec (motive:=λ_=>List aP->az (Option (List e.aq×List Nat×List aP))) (λcs=>.ret (some ([],[],cs)))
   (λ_ aO cs=>(iZ e cs).c7 λ(x,l,r)=>(aO r).c7 λ(xs,m,q)=>.ret (some (x::xs,l++m,q))) cs
 | .bool,cs=>match cs with | c::r=>(eW .bool c).map λo=>o.map λ(x,l)=>(x,l,r) | []=>.none
 | .int k,cs=>match cs with | c::r=>(eW (.int k) c).map λo=>o.map λ(x,l)=>(x,l,r) | []=>.none
 | .str,cs=>match cs with | c::r=>(eW .str c).map λo=>o.map λ(x,l)=>(x,l,r) | []=>.none
 | .slice e,cs=>match cs with | c::r=>(eW (.slice e) c).map λo=>o.map λ(x,l)=>(x,l,r) | []=>.none
 | .bQ e,cs=>match cs with | c::r=>(tE e (iZ e) c).map λo=>o.map λ(x,l)=>(x,l,r) | []=>.none
 | .map k v,cs=>match cs with | c::r=>(eW (.map k v) c).map λo=>o.map λ(x,l)=>(x,l,r) | []=>.none
 | .fn a b,cs=>match cs with | c::r=>(eW (.fn a b) c).map λo=>o.map λ(x,l)=>(x,l,r) | []=>.none
 | .cj a,cs=>match cs with | c::r=>(eW (.cj a) c).map λo=>o.map λ(x,l)=>(x,l,r) | []=>.none
def k7 (t:ai) (av:aP):az (Option (t.aq×List Nat)):=
 match t with
 | .bQ e=>tE e (iZ e) av
 | t=>if t.fE then eW t av else .none
def dV (t:ai) (av:aP):az (Option (t.aq×List Nat)):=
 match av with
 | .val cT x=>.ret ((fG cT t x).map (·,[]))
 | .agg n f=>if t.fE then .none else (iZ t ((List.range n).map f)).c7 λ(x,l,r)=>.ret (if r.isEmpty&&t.isAgg then some (x,l) else Option.none)
 | _=>k7 t av
def n8:(t:ai)->t.aq->List aP
 | .da,_=>[]
 | .st t,x=>n8 t x
 | .aG a b,x=>n8 a x.1++n8 b x.2
 | .array n e,xs=>(List.range n).flatMap λi=>n8 e (List.getD xs i e.ee)
 | .bool,x=>[.val .bool x]
 | .int k,x=>[.val (.int k) x]
 | .str,x=>[.val .str x]
 | .slice e,x=>[.val (.slice e) x]
 | .bQ e,x=>[.val (.bQ e) x]
 | .map k v,x=>[.val (.map k v) x]
 | .fn a b,x=>[.val (.fn a b) x]
 | .cj a,x=>[.val (.cj a) x]
def sf:ai->List aP
 | .da=>[]
 | .st t=>sf t
 | .aG a b=>sf a++sf b
 | .array n e=>(List.range n).flatMap λ_=>sf e
 | .bool=>[.val .bool false]
 | .int k=>[.val (.int k) (0:Int)]
 | .str=>[.val .str []]
 | .slice _=>[.cr]
 | .bQ e=>[.val (.bQ e) Option.none]
 | .map k v=>[.val (.map k v) []]
 | .fn _ _=>[.kj .nilFunc]
 | .cj _=>[.kj .nilFunc]
def hN (l:List aP) (i:Nat):aP:=l.getD i .undef
def m3:ai->Nat->Option (ai×Nat)
 | .aG a _,0=>some (a,0)
 | .aG a b,f+1=>(m3 b f).map λ(t,o)=>(t,a.size+o)
 | .da,_=>Option.none
 | t,0=>some (t,0)
 | _,_+1=>Option.none
def vq:(t:ai)->t.aq->Nat->Option ((s:ai)×s.aq)
 | .aG a _,x,0=>some ⟨a,x.1⟩
 | .aG _ b,x,f+1=>vq b x.2 f
 | .da,_,_=>Option.none
 | t,x,0=>some ⟨t,x⟩
 | _,_,_+1=>Option.none
def sg:(t:ai)->t.aq->Nat->(s:ai)->Option s.aq
 | .st t,x,off,s=>if off=0/\ai.st t=s then fG (.st t) s x else sg t x off s
 | .aG a b,x,off,s=>if off<a.size then sg a x.1 off s else sg b x.2 (off - a.size) s
 | .da,_,_,_=>Option.none
 | .array _ _,_,_,_=>Option.none
 | .bool,x,off,s=>if off=0 then fG .bool s x else Option.none
 | .int k,x,off,s=>if off=0 then fG (.int k) s x else Option.none
 | .str,x,off,s=>if off=0 then fG .str s x else Option.none
 | .slice e,x,off,s=>if off=0 then fG (.slice e) s x else Option.none
 | .bQ e,x,off,s=>if off=0 then fG (.bQ e) s x else Option.none
 | .map k v,x,off,s=>if off=0 then fG (.map k v) s x else Option.none
 | .fn a b,x,off,s=>if off=0 then fG (.fn a b) s x else Option.none
 | .cj a,x,off,s=>if off=0 then fG (.cj a) s x else Option.none
def w7:(t:ai)->t.aq->Nat->(s:ai)->s.aq->Option t.aq
 | .st t,x,off,s,y=>if off=0/\s=ai.st t then fG s (.st t) y else w7 t x off s y
 | .aG a b,x,off,s,y=>if off<a.size then (w7 a x.1 off s y).map (·,x.2) else (w7 b x.2 (off - a.size) s y).map (x.1,·)
 | .da,_,_,_,_=>Option.none
 | .array _ _,_,_,_,_=>Option.none
 | .bool,_,off,s,y=>if off=0 then fG s .bool y else Option.none
 | .int k,_,off,s,y=>if off=0 then fG s (.int k) y else Option.none
 | .str,_,off,s,y=>if off=0 then fG s .str y else Option.none
 | .slice e,_,off,s,y=>if off=0 then fG s (.slice e) y else Option.none
 | .bQ e,_,off,s,y=>if off=0 then fG s (.bQ e) y else Option.none
 | .map k v,_,off,s,y=>if off=0 then fG s (.map k v) y else Option.none
 | .fn a b,_,off,s,y=>if off=0 then fG s (.fn a b) y else Option.none
 | .cj a,_,off,s,y=>if off=0 then fG s (.cj a) y else Option.none
def hO (k:IntKind) (a b:Int):Int:=k.wrap (BitVec.ofInt k.bits a&&& BitVec.ofInt k.bits b).toNat
def vr (k:IntKind) (a b:Int):Int:=k.wrap (BitVec.ofInt k.bits a||| BitVec.ofInt k.bits b).toNat
def Qt (k:IntKind) (a b:Int):Int:=k.wrap (BitVec.ofInt k.bits a ^^^ BitVec.ofInt k.bits b).toNat
def Qu (k:IntKind) (a b:Int):Int:=k.wrap (BitVec.ofInt k.bits a&&& ~~~BitVec.ofInt k.bits b).toNat
def y' (k:IntKind) (a b:Int):Int:=k.wrap (a*2 ^ (min b.toNat k.bits))
def gL (k:IntKind) (a b:Int):Int:=a.fdiv (2 ^ (min b.toNat k.bits))
def lE (t:ai) (xs:List t.aq) (i:Int):t.aq:=xs.getD i.toNat t.ee
def bT (n:Nat):Prop:=n<=4294967296
def hv:(t:ai)->t.aq->t.aq->Bool
 | .bool,x,y=>x == y
 | .int _,x,y=>decide ((x:Int)=y)
 | .str,x,y=>decide ((x:List UInt8)=y)
 | .st t,x,y=>hv t x y
 | .aG a b,x,y=>hv a x.1 y.1&&hv b x.2 y.2
 | _,_,_=>false
def ai.lF:ai->Bool
 | .bool | .int _ | .str=>true
 | .st t=>t.lF
 | .aG a b=>a.lF&&b.lF
 | _=>false
end Go.Fer
namespace Go.Fer
open Go.RowKit
section
variable {P:Program} {H:Nat->bS} {κ:Nat->bD} {F F':Nat->Prop} {w:World}
def e5 (P:Program) (H:Nat->bS) (κ:Nat->bD) (F:Nat->Prop) (w:World):List aP->List Value->Prop
 | [],[]=>True
 | a::as,v::aH=>(bw P H κ F w a v/\v.oneCell'=true)/\e5 P H κ F w as aH
 | _,_=>False
theorem e5.append:∀ {as bs:List aP} {us aH:List Value},e5 P H κ F w as us->e5 P H κ F w bs aH->e5 P H κ F w (as++bs) (us++aH)
 | [],_,[],_,_,k=>k
 | _::_,_,_::_,_,h,k=>⟨h.1,e5.append h.2 k⟩
 | [],_,_::_,_,h,_=>h.elim
 | _::_,_,[],_,h,_=>h.elim
theorem e5.len:∀ {as:List aP} {us:List Value},e5 P H κ F w as us->as.length=us.length
 | [],[],_=>rfl
 | _::_,_::_,h=>by simp [e5.len h.2]
 | [],_::_,h=>h.elim
 | _::_,[],h=>h.elim
theorem e5.lE:∀ {as:List aP} {us:List Value},e5 P H κ F w as us->∀ i,i<as.length->bw P H κ F w (hN as i) (us.getD i Go.undef)/\(us.getD i Go.undef).oneCell'=true
 | a::as,v::aH,h,0,_=>h.1
 | a::as,v::aH,h,i+1,U=>by
  have:=e5.lE h.2 i (by grind);simpa [hN] using this
 | [],[],_,i,U=>by grind
 | [],_::_,h,_,_=>h.elim
 | _::_,[],h,_,_=>h.elim
theorem e5.Qv:∀ {as:List aP} {us:List Value},as.length=us.length->(∀ i,i<as.length->bw P H κ F w (hN as i) (us.getD i Go.undef)/\(us.getD i Go.undef).oneCell'=true)->e5 P H κ F w as us
 | [],[],_,_=>trivial
 | a::as,v::aH,aw,h=>⟨h 0 (by simp),e5.Qv (by grind) λi U=>by have:=h (i+1) (by grind);simpa [hN] using this⟩
 | [],_::_,aw,_=>by grind
 | _::_,[],aw,_=>by grind
theorem za:∀ (t:ai) {cs:List Value} {x:t.aq},bM P t F w cs x->e5 P H κ F w (n8 t x) cs:=by
 have fS:∀ (t:ai),t.fE=true->∀ {cs:List Value} {x:t.aq},bM P t F w cs x->e5 P H κ F w [.val t x] cs:=by
  intro t aR cs x h;obtain ⟨u,rfl,hu⟩:=EX aR h;exact ⟨⟨(fa aR).2 ⟨hu,h⟩,Qq aR h⟩,trivial⟩
 intro t;induction t with
 | bool=>intro cs x h;exact fS _ rfl h
 | int k=>intro cs x h;exact fS (.int k) rfl h
 | str=>intro cs x h;exact fS _ rfl h
 | da=>intro cs x h;simp only [bM] at h;subst h;trivial
 | st t aO=>intro cs x h;simp only [bM] at h;exact aO h
 | aG a b gn fh=>
  intro cs x h;simp only [bM] at h;obtain ⟨c,d,rfl,bf,af⟩:=h;exact (gn bf).append (fh af)
 | slice e aO=>intro cs x h;exact fS (.slice e) rfl h
 | array n e aO=>
  intro cs xs h;simp only [bM] at h;obtain ⟨gg,rfl,M,aa,an⟩:=h;simp only [n8];have key:∀ (k:Nat) (l:List (List Value)),(∀ i (U:i<l.length),e5 P H κ F w (n8 e (List.getD xs (k+i) e.ee)) l[i])->e5 P H κ F w ((List.range' k l.length).flatMap λi=>n8 e (List.getD xs i e.ee)) l.flatten:=by
   intro k l;induction l generalizing k with
   | nil=>intro _;trivial
   | cons c l aah=>
    intro du;simp only [List.length_cons,List.range'_succ,List.flatMap_cons,List.flatten_cons];refine e5.append ?_ (aah (k+1) λi U=>?_)
    ·have:=du 0 (by simp);grind
    ·have:=du (i+1) (by grind);grind
  rw [List.range_eq_range',<-M];grind
 | bQ e aO=>intro cs x h;exact fS (.bQ e) rfl h
 | map k v w1 w2=>intro cs x h;exact fS (.map k v) rfl h
 | fn a b gn fh=>intro cs x h;exact fS (.fn a b) rfl h
 | cj a aO=>intro cs x h;exact fS (.cj a) rfl h
theorem JA {e:ai} {xs:List e.aq} {k:bD} (a6:k5 P H κ F w k (.bu e xs)) (bB:∀ r,F r->F' r) (ak:k.h0=false->F' k.ag):bM P (.slice e) F' w [k.slice xs.length] xs:=by
 obtain ⟨M,aa⟩:=a6;simp only [bM,bD.slice];cases aI:k.h0 with
 | true=>rw [M aI];exact ⟨none,0,rfl,Nat.le_refl _,by decide,λ_=>rfl,λp ar=>by simp⟩
 | false=>
  obtain ⟨cs,T,bH,b2,cw,gi,hG⟩:=aa aI;refine ⟨some ⟨k.ag,k.off,none⟩,k.cap,by simp,cw,gi,(by simp),λp ar _=>?_⟩;cases ar;refine ⟨ak aI,rfl,λi U=>?_⟩;obtain ⟨bn,d1,d2⟩:=hG i U;refine ⟨bn,⟨ak aI,rfl,λj aC=>?_⟩,gp e bB (c6.refl F w) d2⟩;simp only [World.cell?,bH];grind
theorem E4 {t cT:ai} {x:t.aq} {y:cT.aq} {v:Value} (hc:fG t cT x=some y) (h:eU P t F w v x):eU P cT F w v y:=by
 obtain ⟨e,rfl⟩:=lD hc;grind
theorem tF {t cT:ai} {x:t.aq} {y:cT.aq} {cs:List Value} (hc:fG t cT x=some y) (h:bM P t F w cs x):bM P cT F w cs y:=by
 obtain ⟨e,rfl⟩:=lD hc;grind
def jJ (H:Nat->bS) (κ:Nat->bD) (F':Nat->Prop) (l:List Nat):Prop:=∀ b∈l,(H b).body.cd (κ b)=true->F' (κ b).ag
theorem jJ.left {l m:List Nat} (h:jJ H κ F' (l++m)):jJ H κ F' l:=λb af=>h b (List.mem_append_left _ af)
theorem jJ.right {l m:List Nat} (h:jJ H κ F' (l++m)):jJ H κ F' m:=λb af=>h b (List.mem_append_right _ af)
theorem Qw {m0 pt:ai} {es:List (m0.aq×pt.aq)} {k:bD} (a6:k5 P H κ F w k (.mp m0 pt es)) (bB:∀ r,F r->F' r) (ak:F' k.ag):bM P (.map m0 pt) F' w [.map (some k.ag)] es:=by
 obtain ⟨ms,clk,M,aa⟩:=a6;obtain ⟨aa,an,a8,bV⟩:=aa.mono bB (c6.refl F w);exact .inr ⟨_,ms,clk,rfl,ak,M,aa,an,a8,bV⟩
theorem E5 {e:ai} {xs:List e.aq} {k:bD} {a4 U:Nat} {v:Value} (h:bM P (.slice e) F' w [k.slice xs.length] xs) (M:a4<=U) (aa:U<=xs.length) (aA:E1 k e.size a4 U v) :
  bM P (.slice e) F' w [v] ((xs.take U).drop a4):=by
 have hlen:((xs.take U).drop a4).length=U - a4:=by grind
 obtain ⟨a,cap,aK,bH,b2,cw,gi⟩:=h;rcases aA with ⟨aI,rfl⟩ | ⟨aI,o,rfl,hH,gM⟩
 ·have:xs=[]:=by
   simp only [bD.slice,aI,if_true,List.cons.injEq,Value.slice.injEq,and_true] at aK;grind
  subst this;have dC:(([]:List e.aq).take U).drop a4=[]:=by simp
  rw [dC];exact ⟨none,0,rfl,Nat.le_refl _,by decide,λ_=>rfl,λp ar=>by simp⟩
 ·simp only [bD.slice,aI,Bool.false_eq_true,if_false,List.cons.injEq,Value.slice.injEq,and_true] at aK;obtain ⟨rfl,_,rfl⟩:=aK;refine ⟨some ⟨k.ag,o,none⟩,k.cap - a4,by grind,by omega,by omega,(by simp),λp ar zb=>?_⟩;cases ar;obtain ⟨d1,d2,d3⟩:=gi _ rfl (by omega);refine ⟨d1,rfl,λi eA=>?_⟩;obtain ⟨bn,eb,eN⟩:=d3 (a4+i) (by omega);grind
theorem JB (a6:∀ b,cO P H κ F w b) (bB:∀ r,F r->F' r) {t:ai} (aR:t.fE=true) {av:aP} {v:Value} {x:t.aq} {l:List Nat} (h:(eW t av).run H=some (x,l))
  (aw:jJ H κ F' l) (aj:bw P H κ F w av v):eU P t F' w v x:=by
 cases av with
 | undef=>cases h
 | ie b a=>cases h
 | aV b g off=>cases h
 | pq b g i off=>cases h
 | j1 k n c=>cases h
 | sc k n c=>cases h
 | qi n f=>cases h
 | agg n f=>cases h
 | kI b g=>cases h
 | a5 l aM L n st=>cases h
 | gA l=>cases h
 | w5 e xs=>cases h
 | sub b g a4 U=>
  cases t<;>simp only [eW,az.none,az.bW,az.gr,reduceCtorEq] at h;rename_i e;split at h
  ·rename_i aL;obtain ⟨si,kJ⟩:=aj;have kk:=a6 b;unfold cO at kk;cases b9:(H b).body with
   | bu a9 xs=>
    rw [b9] at h kk kJ;simp only [Option.map_eq_some_iff,Prod.mk.injEq] at h;obtain ⟨z,bm,rfl,rfl⟩:=h;obtain ⟨⟨aS,aY⟩,bK⟩:=kJ aL.symm rfl;exact (fa rfl).2 ⟨Jw si.2,tF bm (E5 (JA kk bB λaI=>aw b (by simp) (by rw [b9];simp [b7.cd,aI])) aS aY bK)⟩
   | ig a9 xs=>
    rw [b9] at h kk kJ;simp only [Option.map_eq_some_iff,Prod.mk.injEq] at h;obtain ⟨z,bm,rfl,rfl⟩:=h;obtain ⟨⟨aS,aY⟩,bK⟩:=kJ aL.symm rfl;exact (fa rfl).2 ⟨Jw si.2,tF bm (E5 (gp (.slice a9) bB (c6.refl F w) kk) aS aY bK)⟩
   | _=>rw [b9] at h;cases h
  grind
 | dQ b g=>
  cases t<;>simp only [eW,az.none,az.bW,az.gr,reduceCtorEq] at h;rename_i k e;split at h
  ·rename_i aL;obtain ⟨si,kJ⟩:=aj;have kk:=a6 b;unfold cO at kk;cases b9:(H b).body with
   | mp k' iL es=>
    rw [b9] at h kk kJ;simp only [Option.map_eq_some_iff,Prod.mk.injEq] at h;obtain ⟨z,bm,rfl,rfl⟩:=h;have:=kJ aL.symm rfl;subst this;exact (fa rfl).2 ⟨rfl,tF bm (Qw kk bB (aw b (by simp) (by rw [b9];rfl)))⟩
   | jH k' iL es=>
    rw [b9] at h kk kJ;simp only [Option.map_eq_some_iff,Prod.mk.injEq] at h;obtain ⟨z,bm,rfl,rfl⟩:=h;have:=kJ aL.symm rfl;subst this;exact (fa rfl).2 ⟨rfl,tF bm (gp (.map k' iL) bB (c6.refl F w) kk)⟩
   | _=>rw [b9] at h;cases h
  grind
 | val cT y=>
  simp only [eW,az.bW,Option.map_eq_some_iff,Prod.mk.injEq] at h;obtain ⟨z,bm,rfl,rfl⟩:=h;exact (E4 bm aj).mono bB (c6.refl F w)
 | cr=>
  cases t<;>simp only [eW,az.none,az.bW,reduceCtorEq,Option.some.injEq,Prod.mk.injEq] at h;obtain ⟨rfl,rfl⟩:=h;simp only [bw] at aj;subst aj;exact (fa rfl).2 ⟨rfl,none,0,rfl,Nat.le_refl _,by decide,λ_=>rfl,λp ar=>by simp⟩
 | ad b g=>
  cases t<;>simp only [eW,az.none,az.bW,az.gr,reduceCtorEq] at h;rename_i e;split at h
  ·rename_i aL;obtain ⟨si,kJ⟩:=aj;have kk:=a6 b;unfold cO at kk;cases b9:(H b).body with
   | bu a9 xs=>
    rw [b9] at h kk kJ;simp only [Option.map_eq_some_iff,Prod.mk.injEq] at h;obtain ⟨z,bm,rfl,rfl⟩:=h;have:=kJ aL.symm rfl;simp only [b7.len] at this;subst this;refine (fa rfl).2 ⟨by unfold bD.slice;split<;>rfl,tF bm (JA kk bB λaI=>aw b (by simp) (by rw [b9];simp [b7.cd,aI]))⟩
   | ig a9 xs=>
    rw [b9] at h kk kJ;simp only [Option.map_eq_some_iff,Prod.mk.injEq] at h;obtain ⟨z,bm,rfl,rfl⟩:=h;have:=kJ aL.symm rfl;simp only [b7.len] at this;subst this;exact (fa rfl).2 ⟨by unfold bD.slice;split<;>rfl,tF bm (gp _ bB (c6.refl F w) kk)⟩
   | _=>rw [b9] at h;cases h
  grind
 | fb cT y=>
  cases t<;>simp only [eW,az.none,az.bW,reduceCtorEq,Option.map_eq_some_iff,Prod.mk.injEq] at h;rename_i e;obtain ⟨z,bm,rfl,rfl⟩:=h;obtain ⟨p,bn,rfl,aa,an⟩:=aj;refine (fa rfl).2 ⟨rfl,tF bm ?_⟩;exact .inr ⟨p,y,bn,rfl,rfl,aa.mono bB (c6.refl F w),gp cT bB (c6.refl F w) an⟩
 | kj u=>
  simp only [bw] at aj;subst aj;simp only [eW,az.bW,Option.map_eq_some_iff,Prod.mk.injEq] at h;obtain ⟨z,bm,rfl,rfl⟩:=h;unfold BO at bm;split at bm
  ·cases bm;exact (fa rfl).2 ⟨rfl,.inl ⟨rfl,rfl⟩⟩
  ·cases bm;exact (fa rfl).2 ⟨rfl,.inl ⟨rfl,rfl⟩⟩
  grind
theorem BP {n:Nat} {f:Nat->aP} {aH:List Value} (aw:aH.length=n) (h:∀ i,i<n->bw P H κ F w (f i) (aH.getD i Go.undef)/\(aH.getD i Go.undef).oneCell'=true) :
  e5 P H κ F w ((List.range n).map f) aH:=by
 refine e5.Qv (by grind) λi U=>?_;have eA:i<n:=by grind
 have:hN ((List.range n).map f) i=f i:=by simp [hN,List.getD_eq_getElem?_getD,eA]
 grind
theorem Qx (a6:∀ b,cO P H κ F w b) (bB:∀ r,F r->F' r) {e:ai} {cz:List aP->az (Option (e.aq×List Nat×List aP))}
  (pw:∀ {cs:List aP} {aH:List Value} {x:e.aq} {l:List Nat} {r:List aP},(cz cs).run H=some (x,l,r)->jJ H κ F' l->e5 P H κ F w cs aH->∃ c d,aH=c++d/\bM P e F' w c x/\e5 P H κ F w r d)
  {av:aP} {v:Value} {x:Option e.aq} {l:List Nat} (h:(tE e cz av).run H=some (x,l)) (aw:jJ H κ F' l) (aj:bw P H κ F w av v):eU P (.bQ e) F' w v x:=by
 have bZ:(eW (.bQ e) av).run H=some (x,l)->eU P (.bQ e) F' w v x:=λh=>JB a6 bB rfl h aw aj;cases av with
 | aV b g off=>
  simp only [tE,az.gr] at h;split at h
  ·rename_i aL;obtain ⟨aL,rfl⟩:=aL;obtain ⟨si,kJ⟩:=aj;have kk:=a6 b;unfold cO at kk;cases b9:(H b).body with
   | hf t y=>
    rw [b9] at h kk kJ;simp only [az.bW,Option.map_eq_some_iff,Prod.mk.injEq] at h;obtain ⟨z,bm,rfl,rfl⟩:=h;obtain ⟨eq,rfl⟩:=lD bm;subst eq;obtain rfl:=kJ aL.symm rfl;obtain ⟨bn,M,aa⟩:=kk;exact (fa rfl).2 ⟨rfl,.inr ⟨_,_,bn,rfl,rfl,M.mono bB (c6.refl F w),gp t bB (c6.refl F w) aa⟩⟩
   | cells t f=>
    rw [b9] at h kk kJ;simp only at h;split at h
    ·rename_i aR;subst aR;simp only [az.fR,Option.bind_eq_some_iff,az.bW] at h;obtain ⟨⟨y,m,q⟩,M,aa⟩:=h;split at aa
     ·rename_i bt;simp only [Option.some.injEq,Prod.mk.injEq] at aa;obtain ⟨rfl,rfl⟩:=aa;obtain rfl:=kJ aL.symm rfl;obtain ⟨cs,T,aS,aY,bK⟩:=kk;have iy:e5 P H κ F w ((List.range t.size).map f) cs.toList:=BP (by omega) λi U=>by
       simp_all
      obtain ⟨c,d,JC,bH,b2⟩:=pw M (λbg dq=>aw bg (List.mem_cons_of_mem _ dq)) iy;have bt:q=[]:=List.isEmpty_iff.1 bt;subst bt;cases d with
      | cons _ _=>exact b2.elim
      | nil=>
       rw [List.append_nil] at JC;refine (fa rfl).2 ⟨rfl,.inr ⟨_,y,c,rfl,rfl,⟨aw b (by simp) (by rw [b9];rfl),rfl,λj aC=>?_⟩,bH⟩⟩;have gU:j<cs.size:=by grind
       simp only [World.cell?,aS,Nat.zero_add,Option.isSome_none,Bool.false_eq_true,if_false,Array.getElem?_eq_getElem gU];grind
     grind
    ·cases h
   | _=>rw [b9] at h;cases h
  ·cases h
 | _=>exact bZ h
theorem JD (a6:∀ b,cO P H κ F w b) (bB:∀ r,F r->F' r):∀ (t:ai) {cs:List aP} {aH:List Value} {x:t.aq} {l:List Nat} {r:List aP},(iZ t cs).run H=some (x,l,r)->
  jJ H κ F' l->e5 P H κ F w cs aH->∃ c d,aH=c++d/\bM P t F' w c x/\e5 P H κ F w r d:=by
 have rj:∀ (t:ai) (g:aP->az (Option (t.aq×List Nat))),t.fE=true->(∀ {av:aP} {v:Value} {x:t.aq} {l:List Nat},(g av).run H=some (x,l)->jJ H κ F' l->bw P H κ F w av v->eU P t F' w v x)->
   ∀ {cs:List aP} {aH:List Value} {x:t.aq} {l:List Nat} {r:List aP},(match cs with | c::r=>(g c).map λo=>o.map λ(x,l)=>(x,l,r) | []=>.none:az (Option (t.aq×List Nat×List aP))).run H=some (x,l,r)->
   jJ H κ F' l->e5 P H κ F w cs aH->∃ c d,aH=c++d/\bM P t F' w c x/\e5 P H κ F w r d:=by
  intro t g aR aL cs aH x l r h aw bf;cases cs with
  | nil=>cases h
  | cons c cs=>
   cases aH with
   | nil=>exact bf.elim
   | cons v aH=>
    simp only [az.map,az.run_bind,az.bW,Option.map_eq_some_iff,Prod.mk.injEq] at h;obtain ⟨⟨y,m⟩,bm,rfl,rfl,rfl⟩:=h;refine ⟨[v],aH,rfl,?_,bf.2⟩;exact ((fa aR).1 (aL bm aw bf.1.1)).2
 have fS:∀ (t:ai),t.fE=true->∀ {cs:List aP} {aH:List Value} {x:t.aq} {l:List Nat} {r:List aP},(match cs with | c::r=>(eW t c).map λo=>o.map λ(x,l)=>(x,l,r) | []=>.none:az (Option (t.aq×List Nat×List aP))).run H=some (x,l,r)->
   jJ H κ F' l->e5 P H κ F w cs aH->∃ c d,aH=c++d/\bM P t F' w c x/\e5 P H κ F w r d:=
  λt aR=>rj t (eW t) aR λh aw aj=>JB a6 bB aR h aw aj
 intro t;induction t with
 | bool=>intro cs aH x l r h aw bf;exact fS _ rfl h aw bf
 | int k=>intro cs aH x l r h aw bf;exact fS (.int k) rfl h aw bf
 | str=>intro cs aH x l r h aw bf;exact fS _ rfl h aw bf
 | da=>
  intro cs aH x l r h aw bf;simp only [iZ,az.bW,Option.some.injEq,Prod.mk.injEq] at h;obtain ⟨_,rfl,rfl⟩:=h;exact ⟨[],aH,rfl,rfl,bf⟩
 | st t aO=>intro cs aH x l r h aw bf;exact aO h aw bf
 | aG a b gn fh=>
  intro cs aH x l r h aw bf;simp only [iZ,az.fR,Option.bind_eq_some_iff,az.bW,Option.some.injEq,Prod.mk.injEq] at h;obtain ⟨⟨y,m,q⟩,M,⟨z,dI,q'⟩,aa,rfl,rfl,rfl⟩:=h;obtain ⟨c,d,rfl,bH,b2⟩:=gn M aw.left bf;obtain ⟨c',E6,rfl,d1,d2⟩:=fh aa aw.right b2;exact ⟨c++c',E6,by simp,⟨c,c',rfl,bH,d1⟩,d2⟩
 | slice e aO=>intro cs aH x l r h aw bf;exact fS (.slice e) rfl h aw bf
 | array n e aO=>
  intro cs aH xs l r h aw bf;simp only [iZ] at h;have key:∀ (n:Nat) {cs:List aP} {aH:List Value} {xs:List e.aq} {l:List Nat} {r:List aP},(n.rec (motive:=λ_=>List aP->az (Option (List e.aq×List Nat×List aP))) (λcs=>.ret (some ([],[],cs)))
     (λ_ aO cs=>(iZ e cs).c7 λ(x,l,r)=>(aO r).c7 λ(xs,m,q)=>.ret (some (x::xs,l++m,q))) cs).run H=some (xs,l,r)->
    jJ H κ F' l->e5 P H κ F w cs aH->
    ∃ gg d,aH=List.flatten gg++d/\gg.length=n/\xs.length=n/\(∀ i (h:i<xs.length) (dx:i<gg.length),bM P e F' w gg[i] xs[i])/\e5 P H κ F w r d:=by
   intro n;induction n with
   | zero=>
    intro cs aH xs l r h aw bf;cases h;exact ⟨[],aH,rfl,rfl,rfl,λi U=>(by simp),bf⟩
   | succ n BQ=>
    intro cs aH xs l r h aw bf;simp only [az.fR,Option.bind_eq_some_iff,az.bW,Option.some.injEq,Prod.mk.injEq] at h;obtain ⟨⟨y,m,q⟩,M,⟨z,dI,q'⟩,aa,rfl,rfl,rfl⟩:=h;obtain ⟨c,d,rfl,bH,b2⟩:=aO M aw.left bf;obtain ⟨gg,E6,rfl,d1,d2,d3,d4⟩:=BQ aa aw.right b2;refine ⟨c::gg,E6,by simp,by grind,by grind,λi U eA=>?_,d4⟩;grind
  obtain ⟨gg,d,aK,bq,cF,hd,j0⟩:=key n h aw bf;exact ⟨gg.flatten,d,aK,⟨gg,rfl,bq,cF,hd⟩,j0⟩
 | bQ e aO=>intro cs aH x l r h aw bf;exact rj (.bQ e) (tE e (iZ e)) rfl (λh aw aj=>Qx a6 bB aO h aw aj) h aw bf
 | map k v w1 w2=>intro cs aH x l r h aw bf;exact fS (.map k v) rfl h aw bf
 | fn a b gn fh=>intro cs aH x l r h aw bf;exact fS (.fn a b) rfl h aw bf
 | cj a aO=>intro cs aH x l r h aw bf;exact fS (.cj a) rfl h aw bf
theorem n9 (a6:∀ b,cO P H κ F w b) (bB:∀ r,F r->F' r) {t:ai} {av:aP} {v:Value} {x:t.aq} {l:List Nat} (h:(dV t av).run H=some (x,l))
  (aw:jJ H κ F' l) (aj:bw P H κ F w av v):eU P t F' w v x:=by
 have bZ:(k7 t av).run H=some (x,l)->eU P t F' w v x:=by
  intro h;unfold k7 at h;split at h
  ·exact Qx a6 bB (λh aw bf=>JD a6 bB _ h aw bf) h aw aj
  ·split at h
   ·rename_i aR;exact JB a6 bB aR h aw aj
   ·cases h
 cases av with
 | val cT y=>
  simp only [dV,az.bW,Option.map_eq_some_iff,Prod.mk.injEq] at h;obtain ⟨z,bm,rfl,rfl⟩:=h;exact (E4 bm aj).mono bB (c6.refl F w)
 | agg n f=>
  simp only [dV] at h;split at h
  ·cases h
  ·simp only [az.fR,Option.bind_eq_some_iff,az.bW] at h;obtain ⟨⟨y,m,q⟩,M,aa⟩:=h;split at aa
   ·rename_i hc;simp only [Bool.and_eq_true,List.isEmpty_iff] at hc;simp only [Option.some.injEq,Prod.mk.injEq] at aa;obtain ⟨rfl,rfl⟩:=aa;obtain ⟨aH,rfl,a8,bV⟩:=aj;obtain ⟨c,d,rfl,bH,b2⟩:=JD a6 bB t M aw (BP a8 bV);rw [hc.1] at b2;cases d with
    | cons _ _=>exact b2.elim
    | nil=>
     rw [List.append_nil] at *
     have hlen:=jj t bH;have aA:=hc.2;cases t<;>simp only [ai.isAgg,Bool.false_eq_true] at aA
     ·exact ⟨⟨c.toArray,rfl,by simpa [ai.size] using hlen⟩,by simpa [Value.cells] using bH⟩
     ·exact ⟨⟨c.toArray,rfl,by simpa [ai.size] using hlen⟩,by simpa [Value.cells] using bH⟩
   grind
 | undef=>exact bZ h
 | ie b a=>exact bZ h
 | aV b g off=>exact bZ h
 | ad b g=>exact bZ h
 | pq b g i off=>exact bZ h
 | fb cT y=>exact bZ h
 | dQ b g=>exact bZ h
 | j1 k n c=>exact bZ h
 | sc k n c=>exact bZ h
 | qi n f=>exact bZ h
 | cr=>exact bZ h
 | kj u=>exact bZ h
 | kI b g=>exact bZ h
 | a5 l aM L n st=>exact bZ h
 | gA l=>exact bZ h
 | w5 e xs=>exact bZ h
 | sub b g a4 U=>exact bZ h
end
def ai.pure:ai->Bool
 | .bool | .int _ | .str | .da=>true
 | .st t=>t.pure
 | .aG a b=>a.pure&&b.pure
 | .array _ e=>e.pure
 | _=>false
theorem JE {P:Program} {F F':Nat->Prop} {w w':World}:∀ (t:ai) {cs:List Value} {x:t.aq},t.pure=true->bM P t F w cs x->bM P t F' w' cs x:=by
 intro t;induction t with
 | bool=>intro cs x _ h;exact h
 | int k=>intro cs x _ h;exact h
 | str=>intro cs x _ h;exact h
 | da=>intro cs x _ h;exact h
 | st t aO=>intro cs x aR h;exact aO aR h
 | aG a b gn fh=>
  intro cs x aR h;simp only [ai.pure,Bool.and_eq_true] at aR;obtain ⟨c,d,rfl,bf,af⟩:=h;exact ⟨c,d,rfl,gn aR.1 bf,fh aR.2 af⟩
 | slice e aO=>intro cs x aR;cases aR
 | array n e aO=>
  intro cs x aR h;obtain ⟨gg,rfl,M,aa,an⟩:=h;exact ⟨gg,rfl,M,aa,λi U eA=>aO aR (an i U eA)⟩
 | bQ e aO=>intro cs x aR;cases aR
 | map k v w1 w2=>intro cs x aR;cases aR
 | fn a b gn fh=>intro cs x aR;cases aR
 | cj a aO=>intro cs x aR;cases aR
end Go.Fer
namespace Go.Fer
open Go.RowKit
section
variable {P:Program} {F:Nat->Prop} {w:World}
theorem aai {t:ai} {x y:t.aq} (h:fG t t x=some y):y=x:=by
 obtain ⟨e,rfl⟩:=lD h;rfl
theorem Qy:∀ (t:ai) {f:Nat} {cs:List Value} {x:t.aq} {s:ai} {y:s.aq},bM P t F w cs x->vq t x f=some ⟨s,y⟩->
  ∃ bH b2 cw,cs=bH++(b2++cw)/\bM P s F w b2 y/\m3 t f=some (s,bH.length):=by
 have fS:∀ (t:ai),(∀ a b,t≠.aG a b)->t≠.da->∀ {f:Nat} {cs:List Value} {x:t.aq} {s:ai} {y:s.aq},bM P t F w cs x->vq t x f=some ⟨s,y⟩->
   ∃ bH b2 cw,cs=bH++(b2++cw)/\bM P s F w b2 y/\m3 t f=some (s,bH.length):=by
  intro t M aa f cs x s y h ax;cases f with
  | zero=>
   have e:vq t x 0=some ⟨t,x⟩:=by cases t<;>first | rfl | grind | grind
   have a9:m3 t 0=some (t,0):=by cases t<;>first | rfl | grind | grind
   rw [e] at ax;cases ax;exact ⟨[],cs,[],by simp,h,a9⟩
  | succ f=>
   have e:vq t x (f+1)=none:=by cases t<;>first | rfl | grind
   grind
 intro t;induction t with
 | aG a b gn fh=>
  intro f cs x s y h ax;simp only [bM] at h;obtain ⟨c,d,rfl,bf,af⟩:=h;cases f with
  | zero=>
   simp only [vq,Option.some.injEq,Sigma.mk.injEq] at ax;obtain ⟨rfl,ax⟩:=ax;cases ax;exact ⟨[],c,d,by simp,bf,rfl⟩
  | succ f=>
   obtain ⟨bH,b2,cw,rfl,aS,aY⟩:=fh af ax;refine ⟨c++bH,b2,cw,by simp,aS,?_⟩;simp [m3,aY,jj a bf]
 | da=>intro f cs x s y _ ax;cases f<;>cases ax
 | bool=>grind
 | int k=>grind
 | str=>grind
 | st t _=>grind
 | slice e _=>grind
 | array n e _=>grind
 | bQ e _=>grind
 | map k v _ _=>grind
 | fn a b _ _=>grind
 | cj a _=>grind
theorem Qz:∀ (t:ai) {off:Nat} {cs:List Value} {x:t.aq} {s:ai} {y:s.aq},bM P t F w cs x->sg t x off s=some y->
  ∃ bH b2 cw,cs=bH++(b2++cw)/\bH.length=off/\bM P s F w b2 y:=by
 have fS:∀ (t:ai) {off:Nat} {cs:List Value} {x:t.aq} {s:ai} {y:s.aq},bM P t F w cs x->(if off=0 then fG t s x else none)=some y->
   ∃ bH b2 cw,cs=bH++(b2++cw)/\bH.length=off/\bM P s F w b2 y:=by
  intro t off cs x s y h ax;split at ax
  ·rename_i al;exact ⟨[],cs,[],by simp,al.symm,tF ax h⟩
  grind
 intro t;induction t with
 | aG a b gn fh=>
  intro off cs x s y h ax;simp only [bM] at h;obtain ⟨c,d,rfl,bf,af⟩:=h;simp only [sg] at ax;split at ax
  ·grind
  ·obtain ⟨bH,b2,cw,rfl,aS,aY⟩:=fh af ax;have:=jj a bf;grind
 | st t aO=>
  intro off cs x s y h ax;simp only [sg] at ax;split at ax
  ·rename_i al;exact ⟨[],cs,[],by simp,al.1.symm,tF ax h⟩
  ·simp only [bM] at h;grind
 | da=>intro off cs x s y _ ax;cases ax
 | array n e _=>intro off cs x s y _ ax;cases ax
 | bool=>intro off cs x s y h ax;exact fS _ h ax
 | int k=>intro off cs x s y h ax;exact fS (.int k) h ax
 | str=>intro off cs x s y h ax;exact fS _ h ax
 | slice e _=>intro off cs x s y h ax;exact fS (.slice e) h ax
 | bQ e _=>intro off cs x s y h ax;exact fS (.bQ e) h ax
 | map k v _ _=>intro off cs x s y h ax;exact fS (.map k v) h ax
 | fn a b _ _=>intro off cs x s y h ax;exact fS (.fn a b) h ax
 | cj a _=>intro off cs x s y h ax;exact fS (.cj a) h ax
theorem aaj:∀ (t:ai) {off:Nat} {cs bn:List Value} {x ec:t.aq} {s:ai} {y:s.aq},bM P t F w cs x->w7 t x off s y=some ec->bM P s F w bn y->
  ∃ bH b2 cw,cs=bH++(b2++cw)/\bH.length=off/\b2.length=s.size/\bM P t F w (bH++(bn++cw)) ec:=by
 have fS:∀ (t:ai) {off:Nat} {cs bn:List Value} {x ec:t.aq} {s:ai} {y:s.aq},bM P t F w cs x->(if off=0 then fG s t y else none)=some ec->bM P s F w bn y->
   ∃ bH b2 cw,cs=bH++(b2++cw)/\bH.length=off/\b2.length=s.size/\bM P t F w (bH++(bn++cw)) ec:=by
  intro t off cs bn x ec s y h ax aN;split at ax
  ·rename_i al;obtain ⟨e,rfl⟩:=lD ax;subst e;exact ⟨[],cs,[],by simp,al.symm,jj s h,by grind⟩
  grind
 intro t;induction t with
 | aG a b gn fh=>
  intro off cs bn x ec s y h ax aN;simp only [bM] at h;obtain ⟨c,d,rfl,bf,af⟩:=h;simp only [w7] at ax;split at ax
  ·simp only [Option.map_eq_some_iff] at ax;obtain ⟨z,bm,rfl⟩:=ax;obtain ⟨bH,b2,cw,rfl,aS,aY,bK⟩:=gn bf bm aN;exact ⟨bH,b2,cw++d,by simp,aS,aY,⟨_,d,by simp,bK,af⟩⟩
  ·simp only [Option.map_eq_some_iff] at ax;obtain ⟨z,bm,rfl⟩:=ax;obtain ⟨bH,b2,cw,rfl,aS,aY,bK⟩:=fh af bm aN;have:=jj a bf;exact ⟨c++bH,b2,cw,by simp,by grind,aY,⟨c,_,by simp,bf,bK⟩⟩
 | st t aO=>
  intro off cs bn x ec s y h ax aN;simp only [w7] at ax;split at ax
  ·rename_i al;obtain ⟨al,e⟩:=al;subst e;have:=aai ax;subst this;exact ⟨[],cs,[],by simp,al.symm,jj _ h,by grind⟩
  ·simp only [bM] at h ⊢;grind
 | da=>intro off cs bn x ec s y _ ax;cases ax
 | array n e _=>intro off cs bn x ec s y _ ax;cases ax
 | bool=>intro off cs bn x ec s y h ax aN;exact fS _ h ax aN
 | int k=>intro off cs bn x ec s y h ax aN;exact fS (.int k) h ax aN
 | str=>intro off cs bn x ec s y h ax aN;exact fS _ h ax aN
 | slice e _=>intro off cs bn x ec s y h ax aN;exact fS (.slice e) h ax aN
 | bQ e _=>intro off cs bn x ec s y h ax aN;exact fS (.bQ e) h ax aN
 | map k v _ _=>intro off cs bn x ec s y h ax aN;exact fS (.map k v) h ax aN
 | fn a b _ _=>intro off cs bn x ec s y h ax aN;exact fS (.fn a b) h ax aN
 | cj a _=>intro off cs bn x ec s y h ax aN;exact fS (.cj a) h ax aN
end
def k8:ai->List Value->Option (List Value)
 | .da,cs=>some cs
 | .st t,cs=>k8 t cs
 | .aG a b,cs=>(k8 a cs).bind (k8 b)
 | .array n e,cs=>n.rec (motive:=λ_=>List Value->Option (List Value)) some (λ_ aO cs=>(k8 e cs).bind aO) cs
 | .bool,cs=>match cs with | .bool false::r=>some r | _=>none
 | .int k,cs=>match cs with | .int k' n::r=>if k'=k/\n=0 then some r else none | _=>none
 | .str,cs=>match cs with | .string s::r=>if s.size=0 then some r else none | _=>none
 | .slice _,cs=>match cs with | .slice none 0 0::r=>some r | _=>none
 | .bQ _,cs=>match cs with | .pointer none::r=>some r | _=>none
 | .map _ _,cs=>match cs with | .map none::r=>some r | _=>none
 | .fn _ _,cs=>match cs with | .nilFunc::r=>some r | _=>none
 | .cj _,cs=>match cs with | .nilFunc::r=>some r | _=>none
theorem QA (k:IntKind):ji k 0:=by cases k<;>decide
theorem w8 {P:Program} {H:Nat->bS} {κ:Nat->bD} {F:Nat->Prop} {w:World}:∀ (t:ai) {cs r:List Value},k8 t cs=some r->
  ∃ c,cs=c++r/\bM P t F w c t.ee/\e5 P H κ F w (sf t) c:=by
 intro t;induction t with
 | da=>intro cs r h;cases h;exact ⟨[],by simp,rfl,trivial⟩
 | st t aO=>intro cs r h;exact aO h
 | aG a b gn fh=>
  intro cs r h;simp only [k8,Option.bind_eq_some_iff] at h;obtain ⟨q,M,aa⟩:=h;obtain ⟨c,rfl,bH,b2⟩:=gn M;obtain ⟨d,rfl,d1,d2⟩:=fh aa;exact ⟨c++d,by simp,⟨c,d,rfl,bH,d1⟩,b2.append d2⟩
 | array n e aO=>
  intro cs r h;simp only [k8] at h;have key:∀ (n k:Nat) {cs r:List Value},n.rec (motive:=λ_=>List Value->Option (List Value)) some (λ_ aO cs=>(k8 e cs).bind aO) cs=some r->
    ∃ gg:List (List Value),cs=gg.flatten++r/\gg.length=n/\(∀ c∈gg,bM P e F w c e.ee)/\e5 P H κ F w ((List.range' k n).flatMap λ_=>sf e) gg.flatten:=by
   intro n;induction n with
   | zero=>intro k cs r h;cases h;exact ⟨[],by simp,rfl,by simp,trivial⟩
   | succ n BQ=>
    intro k cs r h;simp only [Option.bind_eq_some_iff] at h;obtain ⟨q,M,aa⟩:=h;obtain ⟨c,rfl,bH,b2⟩:=aO M;obtain ⟨gg,rfl,d1,d2,d3⟩:=BQ (k+1) aa;refine ⟨c::gg,by simp,by grind,?_,?_⟩
    ·grind
    ·simp only [List.range'_succ,List.flatMap_cons,List.flatten_cons];exact b2.append d3
  obtain ⟨gg,rfl,M,aa,an⟩:=key n 0 h;refine ⟨gg.flatten,rfl,⟨gg,rfl,M,by simp [ai.ee],λi U eA=>?_⟩,?_⟩
  ·have:(ai.array n e).ee[i]=e.ee:=by simp [ai.ee]
   grind
  ·simp only [sf,List.range_eq_range'];exact an
 | bool=>
  intro cs r h;simp only [k8] at h;split at h
  ·cases h;exact ⟨[.bool false],rfl,rfl,⟨gh.2 rfl,rfl⟩,trivial⟩
  grind
 | int k=>
  intro cs r h;simp only [k8] at h;split at h
  ·split at h
   ·rename_i ak;obtain ⟨rfl,rfl⟩:=ak;cases h;exact ⟨[.int _ 0],rfl,⟨rfl,QA _⟩,⟨hZ.2 ⟨rfl,QA _⟩,rfl⟩,trivial⟩
   grind
  grind
 | str=>
  intro cs r h;simp only [k8] at h;split at h
  ·rename_i s po;split at h
   ·rename_i aA;cases h;have:s=⟨([]:List UInt8).toArray⟩:=by
     cases s with | mk d=>simp only [ByteArray.size] at aA;grind
    subst this;exact ⟨[.string ⟨([]:List UInt8).toArray⟩],rfl,⟨rfl,by decide⟩,⟨qf.2 ⟨rfl,by decide⟩,rfl⟩,trivial⟩
   grind
  grind
 | slice e _=>
  intro cs r h;simp only [k8] at h;split at h
  ·cases h;exact ⟨[.slice none 0 0],rfl,⟨none,0,rfl,Nat.le_refl _,by decide,λ_=>rfl,λp ar=>by simp⟩,⟨rfl,rfl⟩,trivial⟩
  grind
 | bQ e _=>
  intro cs r h;simp only [k8] at h;split at h
  ·cases h;exact ⟨[.pointer none],rfl,.inl ⟨rfl,rfl⟩,⟨(fa rfl).2 ⟨rfl,.inl ⟨rfl,rfl⟩⟩,rfl⟩,trivial⟩
  grind
 | map k v _ _=>
  intro cs r h;simp only [k8] at h;split at h
  ·cases h;exact ⟨[.map none],rfl,.inl ⟨rfl,rfl⟩,⟨(fa rfl).2 ⟨rfl,.inl ⟨rfl,rfl⟩⟩,rfl⟩,trivial⟩
  grind
 | fn a b _ _=>
  intro cs r h;simp only [k8] at h;split at h
  ·cases h;exact ⟨[.nilFunc],rfl,⟨.nilFunc,rfl,⟨rfl,rfl⟩,λF' w' _ _ _ args x _ _ aA=>(show False from aA).elim⟩,⟨rfl,rfl⟩,trivial⟩
  grind
 | cj a _=>
  intro cs r h;simp only [k8] at h;split at h
  ·cases h;exact ⟨[.nilFunc],rfl,⟨.nilFunc,rfl,⟨rfl,rfl⟩,λF' w' _ _ _ aA=>(show ∃ _,False from aA).elim λ_ h=>h.elim⟩,⟨rfl,rfl⟩,trivial⟩
  grind
def px (P:Program) (t:ai) (id:TypeId):Bool:=
 match P.info? id with
 | some i=>i.size == t.size&&decide (i.bytes<=1024)&&(match i.zero with
  | some z=>(match k8 t z.cells.toList with | some []=>true | _=>false)&&(match t,z with
   | .st _,.agg _=>true
   | .array _ _,.agg _=>true
   | .st _,_=>false
   | .array _ _,_=>false
   | _,.agg _=>false
   | _,_=>true)
  | none=>false)
 | none=>false
def cx (P:Program):ai->Sum TypeId (List Field×Nat)->Bool
 | .aG a b, .inr (f :: g :: [], off) => f.offset == off && cx P a (.inl f.type) && a.size != 0 && f.name != "_" && (g.offset == off + a.size && cx P b (.inl g.type) && b.size != 0 && g.name != "_")
 | .aG a b, .inr (f :: g :: h :: fr, off) => f.offset == off && cx P a (.inl f.type) && a.size != 0 && f.name != "_" && cx P b (.inr (g :: h :: fr, off + a.size))
 | .st t,.inl id=>px P (.st t) id&&!P.stoodInHeld id&&!P.eqGuardType P.depth id&&match P.underlying id with
  | some (.struct fr)=>(match fr.toList with
   | []=>decide (t=.da)
   | [f] => f.offset == 0 && cx P t (.inl f.type) && t.size != 0 && f.name != "_"
   | l=>cx P t (.inr (l,0)))
  | _=>false
 | .bool,.inl id=>px P .bool id&&(match P.underlying id with | some .bool=>true | _=>false)
 | .int k,.inl id=>px P (.int k) id&&(match P.underlying id with | some (.int k')=>decide (k'=k) | _=>false)
 | .str,.inl id=>px P .str id&&(match P.underlying id with | some .string=>true | _=>false)
 | .slice e,.inl id=>px P (.slice e) id&&(match P.underlying id with | some (.slice i)=>cx P e (.inl i)&&e.size != 0 | _=>false)
 | .array n e,.inl id=>px P (.array n e) id&&(match P.underlying id with | some (.array m i)=>decide (m=n)&&cx P e (.inl i)&&e.size != 0 | _=>false)
 | .bQ e,.inl id=>px P (.bQ e) id&&(match P.underlying id with | some (.pointer i)=>cx P e (.inl i)&&e.size != 0 | _=>false)
 | .map k v,.inl id=>px P (.map k v) id&&(match P.underlying id with | some (.map i j)=>cx P k (.inl i)&&cx P v (.inl j) | _=>false)
 | .fn a b,.inl id=>px P (.fn a b) id&&(match P.underlying id with | some (.func _ _ _)=>true | _=>false)
 | .cj a,.inl id=>px P (.cj a) id&&(match P.underlying id with | some (.func _ _ _)=>true | _=>false)
 | _,_=>false
def ca (P:Program) (t:ai) (id:TypeId):Prop:=cx P t (.inl id)=true
theorem ca.mD {P:Program} {t:ai} {id:TypeId} (h:ca P t id):px P t id=true:=by
 unfold ca at h;cases t<;>simp only [cx,Bool.and_eq_true,Bool.false_eq_true] at h<;>first | exact h.1.1.1 | exact h.1
theorem mE {P:Program} {t:ai} {id:TypeId} (h:px P t id=true):∃ i z,P.info? id=some i/\i.size=t.size/\i.bytes<=1024/\i.zero=some z/\
  k8 t z.cells.toList=some []/\((∃ cs,z=.agg cs)<->t.isAgg=true):=by
 unfold px at h;split at h
 ·rename_i i U;simp only [Bool.and_eq_true,beq_iff_eq,decide_eq_true_eq] at h;obtain ⟨⟨M,aa⟩,an⟩:=h;split at an
  ·rename_i z bm;simp only [Bool.and_eq_true] at an;obtain ⟨a8,bV⟩:=an;refine ⟨i,z,U,M,aa,bm,?_,?_⟩
   ·grind
   ·cases t<;>cases z<;>simp_all [ai.isAgg]
  grind
 grind
end Go.Fer
namespace Go.Fer
open Go.RowKit
structure fj where
 cD:Prop
 c:Prop
 fH:aP
 ih:List (Nat×bS)
def use:aP->Prop×aP
 | .ie b a=>(b=true,a)
 | a=>(True,a)
def w9:Value->aP
 | .bool b=>.val .bool b
 | .int k n=>if ji k n then .val (.int k) n else .kj (.int k n)
 | .string s=>if s.size<1048576 then .val .str s.data.toList else .kj (.string s)
 | .slice none 0 0=>.cr
 | v=>.kj v
def a_ (a1:eG) (s:Nat->aP):Operand->aP
 | .tmp t=>s t
 | .const v=>w9 v
 | .func f=>match a1.tB f with
  | some v=>.val (.fn v.ts v.a5) v.sh
  | none=>.j1 f 0 λ_=>.undef
 | .global _=>.undef
structure aU where
 ts:ai
 a5:ai
 pre:ts.aq->Prop
 g:ts.aq->a5.aq
def k9:(t:ai)->t.aq->Nat->aP
 | .aG a _,x,0=>.val a x.1
 | .aG _ b,x,i+1=>k9 b x.2 i
 | t,x,0=>.val t x
 | _,_,_+1=>.undef
def kK:ai->Nat
 | .aG _ b=>kK b+1
 | .da=>0
 | _=>1
def rk (t:ai) (x:t.aq):aP:=
 match t with
 | .aG a b=>.qi (kK (.aG a b)) (k9 (.aG a b) x)
 | .da=>.kj (.tuple #[])
 | t=>.val t x
def j3:(t:ai)->List aP->az (Option (t.aq×List Nat))
 | .aG a b,v::aH=>(dV a v).c7 λ(x,l)=>(j3 b aH).c7 λ(y,m)=>.ret (some ((x,y),l++m))
 | .aG _ _,[]=>.none
 | .da,[]=>.ret (some ((),[]))
 | .da,_::_=>.none
 | t,[v]=>dV t v
 | _,_=>.none
def kL:List Nat->az (List (Nat×bS))
 | []=>.ret []
 | b::l=>.eV b λx=>(kL l).bind λr=>match x.body with
  | .bu e xs=>.ret ((b,⟨x.gen,.ig e xs⟩)::r)
  | .mp k v es=>.ret ((b,⟨x.gen,.jH k v es⟩)::r)
  | .cells t f=>(iZ t ((List.range t.size).map f)).bind λo=>.ret (match o with
   | some (y,_,[])=>(b,⟨x.gen,.hf t y⟩)::r
   | _=>r)
  | _=>.ret r
def cellsOf (t:ai) (av:aP):Option (List aP):=
 match t,av with
 | .st t,.val (.st cT) x=>if cT=t then some (n8 cT x) else none
 | .st t,.agg n f=>if n=t.size then some ((List.range n).map f) else none
 | .array n e,.val (.array j4 a9) x=>if j4=n/\a9=e then some (n8 (.array j4 a9) x) else none
 | .array n e,.agg m f=>if m=n*e.size then some ((List.range m).map f) else none
 | t,av=>if t.fE then (match av with
  | .val cT _=>if cT.fE then some [av] else none
  | .aV _ _ _ | .ad _ _ | .pq _ _ _ _ | .fb _ _ | .dQ _ _ | .j1 _ _ _ | .cr | .sub _ _ _ _=>some [av]
  | .kj (.agg _) | .kj (.tuple _)=>none
  | .kj _=>some [av]
  | _=>none) else none
def aP.l3:aP->Option (IntKind×Int)
 | .val (.int k) x=>some (k,x)
 | _=>none
def aP.tG:aP->Option (List UInt8)
 | .val .str x=>some x
 | _=>none
def zc (op:BinOp) (k:IntKind) (a b:Int):Option (Prop×aP):=
 match op with
 | .add=>some (True,.val (.int k) (k.wrap (a+b)))
 | .sub=>some (True,.val (.int k) (k.wrap (a - b)))
 | .mul=>some (True,.val (.int k) (k.wrap (a*b)))
 | .quo=>some (b≠0,.val (.int k) (k.wrap (a.tdiv b)))
 | .rem=>some (b≠0,.val (.int k) (a.tmod b))
 | .and=>some (True,.val (.int k) (hO k a b))
 | .or=>some (True,.val (.int k) (vr k a b))
 | .xor=>some (True,.val (.int k) (Qt k a b))
 | .andNot=>some (True,.val (.int k) (Qu k a b))
 | .eql=>some (True,.val .bool (decide (a=b)))
 | .neq=>some (True,.val .bool (decide (a≠b)))
 | .lss=>some (True,.val .bool (decide (a<b)))
 | .leq=>some (True,.val .bool (decide (a<=b)))
 | .gtr=>some (True,.val .bool (decide (a > b)))
 | .geq=>some (True,.val .bool (decide (a>=b)))
 | _=>none
def JF (op:BinOp) (k:IntKind) (a b:Int):Option (Prop×aP):=
 match op with
 | .shl=>some (0<=b,.val (.int k) (y' k a b))
 | .shr=>some (0<=b,.val (.int k) (gL k a b))
 | _=>none
def BR (op:BinOp) (a b:List UInt8):Option (Prop×aP):=
 match op with
 | .add=>some (bT (a.length+b.length),.val .str (a++b))
 | .eql=>some (True,.val .bool (decide (a=b)))
 | .neq=>some (True,.val .bool (decide (a≠b)))
 | .lss=>some (True,.val .bool (Op.bytesLess a b))
 | .geq=>some (True,.val .bool (!Op.bytesLess a b))
 | _=>none
def ai.kM:ai->Nat
 | .st t=>t.kM+1
 | .aG a b=>max a.kM b.kM
 | _=>1
def zd (op:BinOp) (t:ai) (x y:aP):az (Option (Prop×aP)):=
 (match t,x,y with
 | .bQ _,.val (.bQ _) p,.kj (.pointer none)=>.ret (some p.isNone)
 | .bQ _,.fb _ _,.kj (.pointer none)=>.ret (some false)
 | .bQ _,.aV b g _,.kj (.pointer none)=>.eV b λz=>.ret (if z.gen=g&&z.body.gB then some false else none)
 | t,x,y=>if t.lF&&decide (t.kM<=100) then (dV t x).c7 λ(a,_)=>(dV t y).c7 λ(b,_)=>.ret (some (hv t a b)) else .none:az (Option Bool)).c7 λe=>
 .ret (match op with
  | .eql=>some (True,.val .bool e)
  | .neq=>some (True,.val .bool (!e))
  | _=>none)
def bR (cD c:Prop) (v:aP):az (Option fj):=.ret (some ⟨cD,c,v,[]⟩)
def E7 (t:ai) (av:aP):az (Option (Prop×Int)):=
 match t with
 | .slice _=>match av with
  | .val (.slice _) xs=>.ret (some (True,xs.length))
  | .cr=>.ret (some (True,0))
  | .ad b g=>.eV b λx=>.ret (if x.gen=g&&x.body.gC then some (True,x.body.len) else none)
  | .sub b g a4 U=>.eV b λx=>.ret (if x.gen=g&&x.body.gC then some (True,((U - a4:Nat):Int)) else none)
  | _=>.none
 | .str=>match av with
  | .val .str xs=>.ret (some (True,xs.length))
  | _=>.none
 | .map _ _=>match av with
  | .val (.map _ _) xs=>.ret (some (bT xs.length,xs.length))
  | .dQ b g=>.eV b λx=>.ret (if x.gen=g then (match x.body with | .mp _ _ es=>some (bT es.length,(es.length:Int)) | .jH _ _ es=>some (bT es.length,(es.length:Int)) | _=>none) else none)
  | _=>.none
 | _=>.none
def ze (t:ai):aP->az (Option aP)
 | .fb cT x=>.ret (if cT=t/\(t.fE||t.isAgg)=true then some (.val cT x) else none)
 | .aV b g off=>.eV b λx=>.ret (if x.gen=g then (match x.body with
   | .cells t0 f=>if t.fE then (if off<t0.size then some (f off) else none) else if t.isAgg then (if off+t.size<=t0.size then some (.agg t.size λi=>f (off+i)) else none) else none
   | .hf t0 y=>if t.fE||t.isAgg then (sg t0 y off t).map (.val t) else none
   | _=>none) else none)
 | .pq b g i off=>.eV b λx=>.ret (if x.gen=g then (match x.body with
   | .bu e xs=>if t.fE||t.isAgg then (sg e (xs.getD i e.ee) off t).map (.val t) else none
   | .ig e xs=>if t.fE||t.isAgg then (sg e (xs.getD i e.ee) off t).map (.val t) else none
   | _=>none) else none)
 | _=>.none
def E8 (f:Nat->aP) (off:Nat) (l:List aP):Nat->aP:=λi=>if off<=i/\i<off+l.length then l.getD (i - off) .undef else f i
def QB (t:ai) (p v:aP):az (Option (List (Nat×bS))):=
 match p with
 | .aV b g off=>.eV b λx=>.ret (if x.gen=g then (match x.body with
   | .cells t0 f=>(cellsOf t v).bind λl=>if off+l.length<=t0.size/\l.length=t.size then some [(b,⟨x.gen,.cells t0 (E8 f off l)⟩)] else none
   | _=>none) else none)
 | .pq b g i off=>(dV t v).c7 λ(y,l)=>(kL l).bind λwl=>.eV b λx=>.ret (if x.gen=g/\!l.contains b then (match x.body with
   | .bu e xs=>(w7 e (xs.getD i e.ee) off t y).map λz=>wl++[(b,⟨x.gen,.bu e (xs.set i z)⟩)]
   | _=>none) else none)
 | _=>.none
def QC (dC:ai) (x:aP) (i:Int):az (Option (Prop×aP)):=
 match x with
 | .val (.slice e) xs=>.ret (if e=dC then some (0<=i/\i<(xs.length:Int),.fb e (lE e xs i)) else none)
 | .ad b g=>.eV b λz=>.ret (if z.gen=g then (match z.body with
   | .bu e xs=>if e=dC then some (0<=i/\i<(xs.length:Int),.pq b g i.toNat 0) else none
   | .ig e xs=>if e=dC then some (0<=i/\i<(xs.length:Int),.fb e (lE e xs i)) else none
   | _=>none) else none)
 | .sub b g a4 U=>.eV b λz=>.ret (if z.gen=g then (match z.body with
   | .bu e _=>if e=dC then some (0<=i/\i<((U - a4:Nat):Int),.pq b g (a4+i.toNat) 0) else none
   | .ig e xs=>if e=dC then some (0<=i/\i<((U - a4:Nat):Int),.fb e (lE e xs ((a4:Int)+i))) else none
   | _=>none) else none)
 | .cr=>.ret (some (False,.fb dC dC.ee))
 | _=>.none
def dD:Option Int->Int | some l=>l | none=>0
def gu (n:Nat):Option Int->Int | some h=>h | none=>n
def BS (a4 U:Option Int) (n m:Nat):Nat:=match a4,U with | some _,some _=>m | _,_=>n
def QD (dC:ai) (x:aP) (a4 U:Option Int):az (Option (Prop×aP)):=
 match x with
 | .val (.slice e) xs=>.ret (if e=dC then some (0<=dD a4/\dD a4<=gu xs.length U/\gu xs.length U<=(xs.length:Int),.val (.slice e) ((xs.take (gu xs.length U).toNat).drop (dD a4).toNat)) else none)
 | .cr=>.ret (some (0<=dD a4/\dD a4<=gu 0 U/\gu 0 U<=0,.cr))
 | .ad b g=>.eV b λz=>.ret (if z.gen=g&&z.body.gC&&z.body.gq == dC.size then some (0<=dD a4/\dD a4<=gu z.body.len U/\gu z.body.len U<=(z.body.len:Int),.sub b g (dD a4).toNat (gu z.body.len U).toNat) else none)
 | .sub b g fT aW=>.eV b λz=>.ret (if z.gen=g&&z.body.gC&&z.body.gq == dC.size then some (0<=dD a4/\dD a4<=gu (aW - fT) U/\gu (aW - fT) U<=((BS a4 U (aW - fT) (z.body.len - fT):Nat):Int),.sub b g (fT+(dD a4).toNat) (fT+(gu (aW - fT) U).toNat)) else none)
 | _=>.none
def QE (x:aP) (a4 U:Option Int):Option (Prop×aP):=
 match x with
 | .val .str xs=>some (0<=dD a4/\dD a4<=gu xs.length U/\gu xs.length U<=(xs.length:Int),.val .str ((xs.take (gu xs.length U).toNat).drop (dD a4).toNat))
 | _=>none
def jl (d:Option Nat) (k:Nat->Nat->Option fj):az (Option fj):=
 match d with
 | none=>.none
 | some d=>.eV d λx=>.ret (k d (x.gen+1))
def JG (d:Option Nat) (e:ai) (x y:aP) (cD:Prop):az (Option fj):=
 match x with
 | .ad b g=>.eV b λz=>match (if z.gen=g then z.body else .gK) with
  | .bu a9 xs=>if h:a9=e then (dV (.slice e) y).c7 λ(bG,_)=>.ret (some ⟨cD,bT (xs.length+bG.length),.ad b (g+1),[(b,⟨g+1,.bu e ((h ▸ xs)++bG)⟩)]⟩) else .none
  | _=>.none
 | .sub b g a4 U=>.eV b λz=>match (if z.gen=g then z.body else .gK) with
  | .bu a9 xs=>if h:a9=e then (dV (.slice e) y).c7 λ(bG,_)=>.ret (some ⟨cD,bT (((xs.take U).drop a4).length+bG.length),.ad b (g+2),[(b,⟨g+2,.bu e ((h ▸ (xs.take U).drop a4)++bG)⟩)]⟩) else .none
  | _=>.none
 | .cr=>(dV (.slice e) y).c7 λ(bG,_)=>jl d λb g=>some ⟨cD,bT bG.length,.ad b g,[(b,⟨g,.bu e bG⟩)]⟩
 | .w5 a9 xs=>if h:a9=e then (dV (.slice e) y).c7 λ(bG,_)=>jl d λb g=>some ⟨cD,0<bG.length/\bT (xs.length+bG.length),.ad b g,[(b,⟨g,.bu e ((h ▸ xs)++bG)⟩)]⟩ else .none
 | _=>.none
def E9 (t:ai):List aP->List (Nat×aP)->Option (List aP)
 | cs,[]=>some cs
 | cs,(i,av)::r=>
  match m3 t i with
  | none=>none
  | some (s,off)=>match cellsOf s av with
   | none=>none
   | some l=>if l.length=s.size/\off+s.size<=cs.length then E9 t (cs.take off++(l++cs.drop (off+s.size))) r else none
def zf (e:ai) (ps:List (Nat×aP)):Nat->Nat->az (Option (List e.aq×List Nat))
 | _,0=>.ret (some ([],[]))
 | i,n+1=>(match ps.find? (λp=>p.1 == i) with
   | some p=>dV e p.2
   | none=>.ret (some (e.ee,[])):az (Option (e.aq×List Nat))).c7 λ(x,l)=>(zf e ps (i+1) n).c7 λ(xs,m)=>.ret (some (x::xs,l++m))
def vs (ps:List (Nat×aP)):Prop:=ps.foldr (λp q=>match p.2 with | .ie b _=>b=true/\q | _=>q) True
def n_ (ps:List (Nat×aP)):List (Nat×aP):=ps.map λp=>(p.1,(use p.2).2)
def k_ (ps:List aP):Prop:=ps.foldr (λp q=>match p with | .ie b _=>b=true/\q | _=>q) True
def l4 (aQ:Operand->aP):Option Operand->Option (Prop×Option Int)
 | none=>some (True,none)
 | some x=>match use (aQ x) with
  | (o,.val (.int _) n)=>some (o,some n)
  | _=>none
def E_ (T:Nat->ai) (aQ:Operand->aP) (ty:TypeId) (x:Operand) (a4 U:Option Operand):az (Option fj):=
 let (c4,eD):=use (aQ x)
 match l4 aQ a4,l4 aQ U with
 | some (ol,l),some (rl,h)=>match T ty with
  | .slice e=>(QD e eD l h).c7 λ(c,v)=>bR (c4/\(ol/\rl)) c v
  | .str=>match QE eD l h with
   | some (c,v)=>bR (c4/\(ol/\rl)) c v
   | none=>.none
  | _=>.none
 | _,_=>.none
def QF (dC:ai) (x:aP) (a4 U:Option Int) (m:Int):az (Option (Prop×aP)):=
 match x with
 | .val (.slice e) xs=>.ret (if e=dC then some (0<=dD a4/\dD a4<=gu xs.length U/\gu xs.length U=m/\m<=(xs.length:Int),.w5 e ((xs.take m.toNat).drop (dD a4).toNat)) else none)
 | .cr=>.ret (some (dD a4=0/\gu 0 U=0/\m=0,.w5 dC []))
 | .ad b g=>.eV b λz=>.ret (if z.gen=g&&z.body.gC then some (0<=dD a4/\dD a4<=gu z.body.len U/\gu z.body.len U<=m/\m<=(z.body.len:Int),.undef) else none)
 | _=>.none
def E' (T:Nat->ai) (aQ:Operand->aP) (ty:TypeId) (x:Operand) (a4 U py:Option Operand):az (Option fj):=
 let (c4,eD):=use (aQ x)
 match l4 aQ a4,l4 aQ U,l4 aQ py with
 | some (ol,l),some (rl,some h),some (vt,some m)=>match T ty with
  | .slice e=>(QF e eD l (some h) m).c7 λ(c,v)=>bR (c4/\(ol/\(rl/\vt))) c v
  | _=>.none
 | _,_,_=>.none
def BT (T:Nat->ai) (aQ:Operand->aP) (args:List Operand) (dN:List TypeId):az (Option fj):=
 match args,dN with
 | [x],[t]=>let (c4,eD):=use (aQ x);(E7 (T t) eD).c7 λ(c,n)=>bR c4 c (.val (.int .i64) n)
 | _,_=>.none
def BU (T:Nat->ai) (aQ:Operand->aP) (d:Option Nat) (args:List Operand) (dN:List TypeId):az (Option fj):=
 match args,dN with
 | [x,y],[t,u]=>match T t,T u with
  | .slice e,.slice _=>let (c4,eD):=use (aQ x);let (mF,j5):=use (aQ y);JG d e eD j5 (c4/\mF)
  | _,_=>.none
 | _,_=>.none
def sj (aQ:Operand->aP) (f:Int->Int->Int) (args:List Operand):az (Option fj):=
 match args with
 | [x,y]=>let (c4,eD):=use (aQ x);let (mF,j5):=use (aQ y);match eD.l3,j5.l3 with
  | some (k,a),some (k',b)=>if k=k' then bR (c4/\mF) True (.val (.int k) (f a b)) else .none
  | _,_=>.none
 | [x,y,z]=>let (c4,eD):=use (aQ x);let (mF,j5):=use (aQ y);let (aak,aal):=use (aQ z);match eD.l3,j5.l3,aal.l3 with
  | some (k,a),some (k',b),some (QG,c)=>if k=k'/\k=QG then bR (c4/\(mF/\aak)) True (.val (.int k) (f (f a b) c)) else .none
  | _,_,_=>.none
 | _=>.none
def BV (T:Nat->ai) (aQ:Operand->aP) (args:List Operand) (dN:List TypeId):az (Option fj):=
 match args,dN with
 | [x],[t]=>match T t,use (aQ x) with
  | .slice _,(c4,.cr)=>bR c4 True (.val (.int .i64) 0)
  | _,_=>.none
 | _,_=>.none
def Fa (bd:Nat->Option aU) (aQ:Operand->aP) (k:Nat) (args:List Operand):az (Option fj):=
 let l:=args.map aQ
 match bd k with
 | some c=>(j3 c.ts (l.map λv=>(use v).2)).c7 λ(x,b8)=>(if c.a5.pure then .ret [] else kL b8:az (List (Nat×bS))).bind λwl=>.ret (some ⟨k_ l,c.pre x,rk c.a5 (c.g x),wl⟩)
 | none=>.none
def zg {k v:ai} (es:List (k.aq×v.aq)) (x:k.aq):Option v.aq:=(es.find? λp=>hv k x p.1).map (·.2)
def m4 {k v:ai}:List (k.aq×v.aq)->k.aq->v.aq->List (k.aq×v.aq)
 | [],x,y=>[(x,y)]
 | p::es,x,y=>if hv k x p.1=true then (p.1,y)::es else p::m4 es x y
def tH (k:ai):Bool:=k.lF&&decide (k.kM<=100)
def BW (k v:ai) (m:aP):az (Option (List (k.aq×v.aq))):=
 match m with
 | .val t es=>.ret (fG t (.map k v) es)
 | .kj (.map none)=>.ret (some [])
 | .dQ b g=>.eV b λx=>.ret (if x.gen=g then (match x.body with
   | .mp k' iL es=>fG (.map k' iL) (.map k v) es
   | .jH k' iL es=>fG (.map k' iL) (.map k v) es
   | _=>none) else none)
 | _=>.none
def QH (v:ai) (r:Option v.aq) (ok:Bool):aP:=
 match ok with
 | true=>.qi 2 (hN [.val v (r.getD v.ee),.val .bool r.isSome])
 | false=>.val v (r.getD v.ee)
def zh (T:Nat->ai) (aQ:Operand->aP) (ty:TypeId) (m x:Operand) (ok:Bool):az (Option fj):=
 match T ty with
 | .map k v=>let (vt,JH):=use (aQ m);let (c4,eD):=use (aQ x);if tH k&&(v.fE||v.isAgg) then
   (BW k v JH).c7 λes=>(dV k eD).c7 λ(y,_)=>
    bR (vt/\c4) True (QH v (zg es y) ok)
  else .none
 | _=>.none
def rm (T:Nat->ai) (aQ:Operand->aP) (ty:TypeId) (m x y:Operand):az (Option fj):=
 match T ty with
 | .map k v=>let (vt,JH):=use (aQ m);let (c4,eD):=use (aQ x);let (mF,j5):=use (aQ y);if tH k then
   match JH with
   | .dQ b g=>(dV k eD).c7 λ(x,oK)=>(dV v j5).c7 λ(y,oL)=>(kL (oK++oL)).bind λwl=>.eV b λz=>.ret (if z.gen=g/\!(oK++oL).contains b then (match z.body with
     | .mp k' iL es=>(fG (.map k' iL) (.map k v) es).map λes=>⟨vt/\c4/\mF,True,.undef,wl++[(b,⟨z.gen,.mp k v (m4 es x y)⟩)]⟩
     | _=>none) else none)
   | _=>.none
  else .none
 | _=>.none
def Fb (T:Nat->ai) (aQ:Operand->aP) (d:Option Nat) (ty:TypeId) (l c:Operand):az (Option fj):=
 match T ty with
 | .slice e=>let (ol,aam):=use (aQ l);let (ql,aan):=use (aQ c);match aam.l3,aan.l3 with
  | some (.i64,n),some (.i64,m)=>jl d λb g=>some ⟨ol/\ql,0<=n/\n=m/\bT n.toNat,.ad b g,[(b,⟨g,.bu e (List.replicate n.toNat e.ee)⟩)]⟩
  | _,_=>.none
 | _=>.none
def g0 {ao:Type} (xs:List ao) (a4:Nat) (bG:List ao):List ao:=xs.take a4++bG++xs.drop (a4+bG.length)
def Fc (T:Nat->ai) (aQ:Operand->aP) (args:List Operand) (dN:List TypeId):az (Option fj):=
 match args,dN with
 | [x,y],[t,u]=>match T t,T u with
  | .slice e,.slice _=>let (c4,eD):=use (aQ x);let (mF,j5):=use (aQ y);match (match eD with | .ad b g=>some (b,g,0,none) | .sub b g a4 U=>some (b,g,a4,some U) | _=>none:Option (Nat×Nat×Nat×Option Nat)) with
   | some (b,g,a4,U)=>(dV (.slice e) j5).c7 λ(bG,_)=>.eV b λz=>.ret (if z.gen=g then (match z.body with
     | .bu a9 xs=>if h:a9=e then some ⟨c4/\mF,True,.val (.int .i64) ((min (U.getD xs.length - a4) bG.length:Nat):Int),[(b,⟨z.gen,.bu e (g0 (h ▸ xs) a4 (bG.take (U.getD xs.length - a4)))⟩)]⟩ else none
     | _=>none) else none)
   | none=>.none
  | _,_=>.none
 | _,_=>.none
def w_ (aQ:Operand->aP) (args:List Operand):Option (Nat×Nat×Nat×Nat):=
 match args with
 | [x,y]=>match (use (aQ x)).2,(use (aQ y)).2 with
  | .sub b g a4 U,.sub bg g' _ _=>if bg=b/\g'=g then some (b,g,a4,U) else none
  | _,_=>none
 | _=>none
def BX (T:Nat->ai) (aQ:Operand->aP) (args:List Operand) (dN:List TypeId) (b g a4 U:Nat):az (Option fj):=
 match args,dN with
 | [x,y],[t,u]=>match T t,T u with
  | .slice e,.slice _=>let (c4,_):=use (aQ x);let (mF,j5):=use (aQ y);(dV (.slice e) j5).c7 λ(bG,_)=>.eV b λz=>.ret (if z.gen=g then (match z.body with
    | .bu a9 xs=>if h:a9=e then some ⟨c4/\mF,U+bG.length<=xs.length,.sub b g a4 (U+bG.length),[(b,⟨z.gen,.bu e (g0 (h ▸ xs) U bG)⟩)]⟩ else none
    | _=>none) else none)
  | _,_=>.none
 | _,_=>.none
def BY (T:Nat->ai) (aQ:Operand->aP) (args:List Operand) (dN:List TypeId):az (Option fj):=
 match args,dN with
 | [x],[t]=>match T t with
  | .slice e=>let (c4,eD):=use (aQ x);match eD with
   | .sub b g a4 U=>.eV b λz=>.ret (if z.gen=g then (match z.body with
     | .bu a9 xs=>if h:a9=e then some ⟨c4,True,.undef,[(b,⟨z.gen,.bu e (g0 (h ▸ xs) a4 (List.replicate (U - a4) e.ee))⟩)]⟩ else none
     | _=>none) else none)
   | _=>.none
  | _=>.none
 | _,_=>.none
def ny (T:Nat->ai) (bd:Nat->Option aU) (aQ:Operand->aP) (d:Option Nat) (c:Call):az (Option fj):=
 match c.callee with
 | .builtin b=>match b with
  | .len=>BT T aQ c.args.toList c.argTypes.toList
  | .append=>match w_ aQ c.args.toList with
   | some (b,g,a4,U)=>BX T aQ c.args.toList c.argTypes.toList b g a4 U
   | none=>BU T aQ d c.args.toList c.argTypes.toList
  | .clear=>BY T aQ c.args.toList c.argTypes.toList
  | .copy=>Fc T aQ c.args.toList c.argTypes.toList
  | .min=>sj aQ (λa b=>if b<a then b else a) c.args.toList
  | .max=>sj aQ (λa b=>if b > a then b else a) c.args.toList
  | .cap=>BV T aQ c.args.toList c.argTypes.toList
  | _=>.none
 | .value f=>match f with
  | .func k=>Fa bd aQ k c.args.toList
  | _=>.none
 | _=>.none
def bo (a1:eG) (T:Nat->ai) (bd:Nat->Option aU) (aQ:Operand->aP) (o:Oper):az (Option fj):=
 match o.op with
 | .move x=>bR True True (aQ x)
 | .assign x=>match aQ x,T o.type with
  | .cr,.slice e=>jl o.dst λb g=>some ⟨True,True,.ad b g,[(b,⟨g,.bu e []⟩)]⟩
  | v,_=>bR True True v
 | .pick c a b=>match use (aQ c) with
  | (ql,.val .bool nz)=>match a,b with
   | _,.const (.bool false)=>match use (aQ a) with
    | (zi,.val .bool av)=>bR (ql/\(nz=true->zi)) True (.val .bool (nz&&av))
    | _=>.none
   | .const (.bool true),_=>match use (aQ b) with
    | (cD,.val .bool bv)=>bR (ql/\(nz=false->cD)) True (.val .bool (nz||bv))
    | _=>.none
   | _,_=>.none
  | _=>.none
 | .binOp op ty x y _=>
  let (c4,eD):=use (aQ x)
  let (mF,j5):=use (aQ y)
  match eD.l3,j5.l3 with
  | some (k,a),some (k',b)=>(match op with
   | .shl | .shr=>match JF op k a b with
    | some (c,v)=>bR (c4/\mF) c v
    | none=>.none
   | _=>if k=k' then (match zc op k a b with
    | some (c,v)=>bR (c4/\mF) c v
    | none=>.none) else .none)
  | _,_=>match eD.tG,j5.tG with
   | some a,some b=>match BR op a b with
    | some (c,v)=>bR (c4/\mF) c v
    | none=>.none
   | _,_=>(zd op (T ty) eD j5).c7 λ(c,v)=>bR (c4/\mF) c v
 | .unOp op _ x=>match op,use (aQ x) with
  | .not,(c4,.val .bool b)=>bR c4 True (.val .bool (!b))
  | .neg,(c4,.val (.int k) n)=>bR c4 True (.val (.int k) (k.wrap (0 - n)))
  | _,_=>.none
 | .extract x i=>match use (aQ x) with
  | (c4,.qi n f)=>if i<n then bR c4 True (f i) else .none
  | _=>.none
 | .nilCheck x=>match use (aQ x) with
  | (c4,.fb t d)=>bR c4 True (.fb t d)
  | (c4,.val (.bQ e) p)=>bR c4 (p.isSome=true) (.fb e (p.getD e.ee))
  | (c4,.aV b g off)=>.eV b λz=>.ret (if z.gen=g&&z.body.gB then some ⟨c4,True,.aV b g off,[]⟩ else none)
  | _=>.none
 | .fieldAddr ty x f=>match T ty with
  | .st t=>match m3 t f with
   | some (_,zj)=>match use (aQ x) with
    | (c4,.aV b g off)=>.eV b λz=>.ret (if z.gen=g&&z.body.gB then some ⟨c4,True,.aV b g (off+zj),[]⟩ else none)
    | (c4,.pq b g i off)=>.eV b λz=>.ret (if z.gen=g&&z.body.gC then some ⟨c4,True,.pq b g i (off+zj),[]⟩ else none)
    | (c4,.fb (.st cT) d)=>if cT=t then (match vq cT d f with
     | some ⟨s',y⟩=>bR c4 True (.fb s' y)
     | none=>.none) else .none
    | _=>.none
   | none=>.none
  | _=>.none
 | .field ty x f=>match T ty with
  | .st t=>match use (aQ x) with
   | (c4,.val (.st cT) d)=>if cT=t then (match vq cT d f with
     | some ⟨s',y⟩=>bR c4 True (.val s' y)
     | none=>.none) else .none
   | _=>.none
  | _=>.none
 | .load ty x=>let (c4,eD):=use (aQ x);(ze (T ty) eD).c7 λv=>bR c4 True v
 | .store ty x y=>let (c4,eD):=use (aQ x);let (mF,j5):=use (aQ y);(QB (T ty) eD j5).c7 λwl=>.ret (some ⟨c4/\mF,True,.undef,wl⟩)
 | .alloc ty=>jl o.dst λb g=>if T ty=.da then none else some ⟨True,True,.aV b g 0,[(b,⟨g,.cells (T ty) (hN (sf (T ty)))⟩)]⟩
 | .box ty x=>let (c4,eD):=use (aQ x);match cellsOf (T ty) eD with
  | some l=>jl o.dst λb g=>if l.length=(T ty).size then some ⟨c4,True,.aV b g 0,[(b,⟨g,.cells (T ty) (hN l)⟩)]⟩ else none
  | none=>.none
 | .build ty ps=>let l:=ps.toList.map λp=>(p.1,aQ p.2);match T ty with
  | .st t=>match E9 t (sf t) (n_ l) with
   | some cs=>bR (vs l) True (.agg cs.length (hN cs))
   | none=>.none
  | _=>.none
 | .buildSlice ty n ps=>let l:=ps.toList.map λp=>(p.1,aQ p.2);match T ty with
  | .slice e=>(zf e (n_ l) 0 n).c7 λ(xs,b8)=>(kL b8).bind λwl=>jl o.dst λb g=>if n*e.size<=65536/\(!b8.contains b&&decide ((n_ l).map (·.1)).Nodup&&(n_ l).all (λp=>decide (p.1<n)))=true then some ⟨vs l,True,.ad b g,wl++[(b,⟨g,.bu e xs⟩)]⟩ else none
  | _=>.none
 | .indexAddr ty x i=>let (c4,eD):=use (aQ x);let (xa,JI):=use (aQ i);match T ty,JI.l3 with
  | .slice e,some (_,n)=>(QC e eD n).c7 λ(c,v)=>bR (c4/\xa) c v
  | .array m e,some (_,n)=>match eD with
   | .fb (.array dI a9) xs=>if dI=m/\a9=e then bR (c4/\xa) (0<=n/\n<(m:Int)) (.fb a9 (lE a9 xs n)) else .none
   | .aV b g off=>.eV b λz=>.ret (if z.gen=g&&z.body.gB then some ⟨c4/\xa,0<=n/\n<(m:Int),.aV b g (off+n.toNat*e.size),[]⟩ else none)
   | _=>.none
  | _,_=>.none
 | .index ty x i=>let (c4,eD):=use (aQ x);let (xa,JI):=use (aQ i);match T ty,eD.tG,JI.l3 with
  | .str,some s,some (_,n)=>bR (c4/\xa) (0<=n/\n<(s.length:Int)) (.val (.int .u8) ((s.getD n.toNat 0).toNat:Int))
  | .array m e,_,some (_,n)=>match eD with
   | .val (.array dI a9) xs=>if dI=m/\a9=e then bR (c4/\xa) (0<=n/\n<(m:Int)) (.val a9 (lE a9 xs n)) else .none
   | .agg k f=>if k=m*e.size then bR (c4/\xa) (0<=n/\n<(m:Int)) (if e.isAgg=true then .agg e.size (λq=>f (n.toNat*e.size+q)) else f (n.toNat*e.size)) else .none
   | _=>.none
  | _,_,_=>.none
 | .convert a b x=>let (c4,eD):=use (aQ x);match T a,T b,eD.l3 with
  | .int _,.int k,some (_,n)=>bR c4 True (.val (.int k) (k.wrap n))
  | _,_,_=>.none
 | .makeFunc fn first caps=>match fn with
  | .func k=>let l:=caps.toList.map aQ;if first.isEmpty then (match a1.tC k with
   | some v=>(j3 (hb (v.cs.map .bQ)) (l.map λv=>(use v).2)).c7 λ(y,b8)=>(kL b8).bind λwl=>.ret (some ⟨k_ l,True,.val (.fn (hb v.as) v.a5) (λx=>v.sh (EZ v.as (v.cs.map .bQ) x y)),wl⟩)
   | none=>match a1.w4 k with
    | some v=>(j3 (hb (v.cs.map .bQ)) (l.map λv=>(use v).2)).c7 λ(y,b8)=>(kL b8).bind λwl=>.ret (some ⟨k_ l,True,.val (.cj v.aM) (v.S y),wl⟩)
    | none=>bR (k_ l) True (.j1 k l.length (hN (l.map λv=>(use v).2)))) else (if caps.isEmpty then bR (k_ (first.toList.map aQ)) True (.sc k first.size (hN ((first.toList.map aQ).map λv=>(use v).2))) else .none)
  | _=>.none
 | .makeMap ty r=>if r.isSome then .none else match T ty with
  | .map k v=>jl o.dst λb g=>some ⟨True,True,.dQ b g,[(b,⟨g,.mp k v []⟩)]⟩
  | _=>.none
 | .lookup ty m x ok=>zh T aQ ty m x ok
 | .mapUpdate ty m x y=>rm T aQ ty m x y
 | .insert ty m x y=>rm T aQ ty m x y
 | .makeSlice ty l c=>Fb T aQ o.dst ty l c
 | .makeInterface _ _=>bR True False .undef
 | .panic _=>bR True False .undef
 | .slice ty x a4 U py=>if py.isSome then E' T aQ ty x a4 U py else E_ T aQ ty x a4 U
 | .call c=>ny T bd aQ o.dst c
 | _=>.none
end Go.Fer
namespace Go.Fer
open Go.RowKit
def eX (r:Option Nat):Fence:={ Fence.wide with round:=r }
section
variable {P:Program} {w:World}
theorem dW {t:TypeId} {d:TypeDesc} (h:P.underlying t=some d):(underlying t).run P w=.ok d w:=by simp [underlying,h]
theorem Fe {t:TypeId} {i:TypeInfo} (h:P.info? t=some i):(typeInfo t).run P w=.ok i w:=by simp [typeInfo,h]
theorem sk {t:TypeId} {i:TypeInfo} (h:P.info? t=some i):(sizeOf t).run P w=.ok i.size w:=by simp [sizeOf,Fe h]
theorem sm {t:TypeId} {i:TypeInfo} {z:Value} (h:P.info? t=some i) (bm:i.zero=some z):(zeroValue t).run P w=.ok z w:=by simp [zeroValue,Fe h,bm]
theorem ca.size {t:ai} {id:TypeId} (h:ca P t id):(sizeOf id).run P w=.ok t.size w:=by
 obtain ⟨i,z,M,aa,_⟩:=mE h.mD;rw [sk M,aa]
theorem ca.st {t:ai} {id:TypeId} (h:ca P (.st t) id):∃ fr,P.underlying id=some (.struct fr):=by
 unfold ca at h;simp only [cx,Bool.and_eq_true] at h;grind
theorem ca.sl {e:ai} {id:TypeId} (h:ca P (.slice e) id):∃ i,P.underlying id=some (.slice i)/\ca P e i/\e.size≠0:=by
 unfold ca at h;simp only [cx,Bool.and_eq_true] at h;obtain ⟨_,h⟩:=h;split at h
 ·rename_i i U;simp only [Bool.and_eq_true,bne_iff_ne,ne_eq] at h;exact ⟨i,U,h.1,h.2⟩
 grind
theorem aao:∀ (t:ai) {l:List Field} {Ff f off:Nat} {s:ai},cx P t (.inr (l,Ff))=true->m3 t f=some (s,off)->
  ∃ n',l[f]?=some n'/\n'.offset=Ff+off/\ca P s n'.type/\s.size≠0:=by
 intro t;induction t with
 | aG a b gn fh=>
  intro l Ff f off s h ax;match l,h with
  | [],h=>simp only [cx,Bool.false_eq_true] at h
  | [x],h=>simp only [cx,Bool.false_eq_true] at h
  | [x,y],h=>
   simp only [cx,Bool.and_eq_true,beq_iff_eq,bne_iff_ne,ne_eq] at h;obtain ⟨⟨⟨⟨M,aa⟩,an⟩,_⟩,⟨⟨a8,bV⟩,d_⟩,_⟩:=h;cases f with
   | zero=>simp only [m3,Option.some.injEq,Prod.mk.injEq] at ax;obtain ⟨rfl,rfl⟩:=ax;exact ⟨x,rfl,M,aa,an⟩
   | succ f=>
    simp only [m3,Option.map_eq_some_iff,Prod.mk.injEq] at ax;obtain ⟨⟨s',iz⟩,ax,rfl,rfl⟩:=ax;have af:∃ u,m3 b f=some u/\f=0/\u=(b,0):=by
     cases b<;>cases f<;>simp only [m3,reduceCtorEq] at ax<;>first
      | exact ⟨_,ax,rfl,by cases ax;rfl⟩
      | (simp only [cx,Bool.false_eq_true] at bV)
    obtain ⟨u,hu,rfl,rfl⟩:=af;rw [hu] at ax;cases ax;exact ⟨y,rfl,by omega,bV,d_⟩
  | x::y::z::l,h=>
   simp only [cx,Bool.and_eq_true,beq_iff_eq,bne_iff_ne,ne_eq] at h;obtain ⟨⟨⟨⟨M,aa⟩,an⟩,_⟩,a8⟩:=h;cases f with
   | zero=>simp only [m3,Option.some.injEq,Prod.mk.injEq] at ax;obtain ⟨rfl,rfl⟩:=ax;exact ⟨x,rfl,M,aa,an⟩
   | succ f=>
    simp only [m3,Option.map_eq_some_iff,Prod.mk.injEq] at ax;grind
 | _=>intro l Ff f off s h _;simp only [cx,Bool.false_eq_true] at h
theorem ca.field {t s:ai} {id f off:Nat} (h:ca P (.st t) id) (ax:m3 t f=some (s,off)) :
  ∃ fr n',P.underlying id=some (.struct fr)/\fr[f]?=some n'/\n'.offset=off/\ca P s n'.type/\s.size≠0:=by
 unfold ca at h;simp only [cx,Bool.and_eq_true] at h;obtain ⟨_,h⟩:=h;split at h
 ·rename_i fr j6;refine ⟨fr,?_⟩;have fU:∀ {n'},fr.toList[f]?=some n'->fr[f]?=some n':=λh=>by grind
  split at h
  ·rename_i aw;rw [of_decide_eq_true h] at ax;cases f<;>cases ax
  ·rename_i x aw;simp only [Bool.and_eq_true,beq_iff_eq,bne_iff_ne,ne_eq] at h;have af:f=0/\(s,off)=(t,0):=by
    cases t<;>cases f<;>simp only [m3,reduceCtorEq] at ax<;>first
     | exact ⟨rfl,by cases ax;rfl⟩
     | (have:=h.1.1.2;simp only [cx,Bool.false_eq_true] at this)
   obtain ⟨rfl,af⟩:=af;cases af;exact ⟨x,j6,fU (by grind),h.1.1.1,h.1.1.2,h.1.2⟩
  ·obtain ⟨n',aS,aY,bK⟩:=aao t h ax;grind
 grind
def la (w:World) (p:Addr) (cs:List Value):Prop:=(0<cs.length->p.spot=none)/\∀ j (h:j<cs.length),w.cell? ⟨p.block,p.off+j,none⟩=some cs[j]
theorem tz.JJ {F:Nat->Prop} {p:Addr} {cs:List Value} (h:tz F w p cs):la w p cs:=⟨λ_=>h.2.1,h.2.2⟩
theorem JK {p:Addr} {cs:List Value} (h:la w p cs):(loadCells p cs.length).run P w=.ok cs.toArray w:=by
 obtain ⟨aA,hc⟩:=h;refine run_loadCells_list w p cs λj v aC=>?_;obtain ⟨gU,rfl⟩:=List.getElem?_eq_some_iff.1 aC;have ar:p=⟨p.block,p.off,none⟩:=by have:=aA (by omega);cases p;simp_all
 have:=hc j gU;have zk:p.add j=⟨p.block,p.off+j,none⟩:=by
  unfold Addr.add;grind
 grind
theorem zl {t:ai} {id:TypeId} (h:ca P t id):(isAgg id).run P w=.ok t.isAgg w:=by
 unfold ca at h;unfold isAgg;cases t<;>simp only [cx,Bool.and_eq_true,Bool.false_eq_true] at h<;>(obtain ⟨_,h⟩:=h;split at h)<;>
  first
   | (rename_i hu;simp [dW hu,ai.isAgg];done)
   | (cases h;done)
   | (rename_i hu;simp [dW hu,ai.isAgg])
theorem JL {F:Nat->Prop} {p:Addr} {cs:List Value} {t:ai} {id:TypeId} {x:t.aq} (h:ca P t id) (du:la w p cs) (au:bM P t F w cs x) :
  ∃ v,(loadVar id p).run P w=.ok v w/\eU P t F w v x:=by
 have hlen:=jj t au;by_cases bf:t.isAgg=true
 ·refine ⟨.agg cs.toArray,?_,?_,by simpa [Value.cells] using au⟩
  ·have:=JK (P:=P) du;rw [hlen] at this;simp [loadVar,zl h,bf,h.size,this]
  ·cases t<;>simp only [ai.isAgg,Bool.false_eq_true] at bf
   ·exact ⟨cs.toArray,rfl,by simpa [ai.size] using hlen⟩
   ·exact ⟨cs.toArray,rfl,by simpa [ai.size] using hlen⟩
 ·have aw:t.fE=true:=by
   cases t<;>simp only [ai.isAgg,not_true] at bf<;>first | rfl | (unfold ca at h;simp only [cx,Bool.false_eq_true] at h)
  obtain ⟨u,rfl,hu⟩:=EX aw au;refine ⟨u,?_,(fa aw).2 ⟨hu,au⟩⟩;have hc:=du.2 0 (by simp);have ar:p=⟨p.block,p.off+0,none⟩:=by have:=du.1 (by simp);cases p;simp_all
  rw [<-ar] at hc;simp [loadVar,zl h,bf,hc]
end
section
variable {r:Option Nat} {P:Program} {o:Oper} {a:Act} {w w':World} {K:Act->World->Prop} {Q:Exit->Act->World->Prop}
theorem zm (aN:∀ c,o.op≠.defer c):o.semAt (eX r).round a.eval=execOp a.eval o:=Oper.semAt_eq _ _ _ aN
theorem h1 {v:Value} (aN:∀ c,o.op≠.defer c) (h:(execOp a.eval o).run P w=.ok (.value v) w') (ak:K (a.put o.dst v) w'):o.wpIn (eX r) 0 P a w K Q:=by
 refine ⟨λ_ _=>trivial,?_⟩;rw [zm aN,h];exact ak
theorem JM (aN:∀ c,o.op≠.defer c) (h:(execOp a.eval o).run P w=.ok .skip w') (ak:K (a.put o.dst Go.undef) w'):o.wpIn (eX r) 0 P a w K Q:=by
 refine ⟨λ_ _=>trivial,?_⟩;rw [zm aN,h];exact ak
end
def aE.gV (s:aE):List (Nat×bS)->aE
 | []=>s
 | p::l=>(s.cy p.1 p.2).gV l
def aE.i_ (s:aE) (d:Option Nat) (res:fj):aE:=(s.gV res.ih).set d res.fH
def cK (C:cf) (o:Oper) (s:aE) (res:fj):Prop:=
 ∀ a w κ F Q,bl C s a w κ F->res.cD->res.c->o.wpIn (eX C.r) 0 C.P a w (λa' w'=>cG C (s.i_ o.dst res) a' w') Q
theorem cK.pure {C:cf} {o:Oper} {s:aE} {cD c:Prop} {fH:aP} (aN:∀ c,o.op≠.defer c) (bh:∀ i,o.dst=some i->i<C.nt)
  (h:∀ a w κ F,bl C s a w κ F->cD->c->∃ v,(execOp a.eval o).run C.P w=.ok (.value v) w/\bw C.P s.ag κ F w fH v):cK C o s ⟨cD,c,fH,[]⟩:=by
 intro a w κ F Q W be hc;obtain ⟨v,M,aa⟩:=h a w κ F W be hc;exact h1 aN M ⟨κ,F,W.set bh aa⟩
section
variable {P:Program} {H:Nat->bS} {κ:Nat->bD} {F:Nat->Prop} {w:World}
theorem pz {av:aP} {v:Value} (h:bw P H κ F w av v) (hu:(use av).1):bw P H κ F w (use av).2 v:=by
 cases av<;>first | exact h | exact h.1 hu
theorem aap (v:Value):bw P H κ F w (w9 v) v:=by
 unfold w9;split
 ·exact gh.2 rfl
 ·split
  ·rename_i h;exact hZ.2 ⟨rfl,h⟩
  ·rfl
 ·split
  ·rename_i s h;refine qf.2 ⟨by simp,?_⟩;have:s.data.toList.length=s.size:=by rfl
   omega
  ·rfl
 ·rfl
 ·rfl
theorem kN {C:cf} {s:aE} {a:Act} {w:World} {κ:Nat->bD} {F:Nat->Prop} (h:bl C s a w κ F) (x:Operand):bw C.P s.ag κ F w (a_ C.aZ s.aD x) (a.eval x):=by
 cases x with
 | tmp t=>exact h.b3 t
 | const v=>exact aap v
 | func f=>
  show bw _ _ _ _ _ (match C.aZ.tB f with | some v=>.val (.fn v.ts v.a5) v.sh | none=>.j1 f 0 λ_=>.undef) (.func (.func f) #[] #[]);split
  ·rename_i v aj;exact (fa rfl).2 ⟨rfl,aab (h.l2.tB f v aj) F w⟩
  ·exact ⟨[],rfl,rfl,λi U=>by omega⟩
 | global g=>trivial
theorem nA {av:aP} {v:Value} {k:IntKind} {n:Int} (h:bw P H κ F w av v) (U:av.l3=some (k,n)):v=.int k n/\ji k n:=by
 unfold aP.l3 at U;split at U
 ·cases U;exact hZ.1 h
 grind
theorem JN {av:aP} {v:Value} {s:List UInt8} (h:bw P H κ F w av v) (U:av.tG=some s):v=.string ⟨s.toArray⟩/\s.length<2 ^ 63:=by
 unfold aP.tG at U;split at U
 ·cases U;exact qf.1 h
 grind
end
theorem rn (k:IntKind) (n:Int):ji k (k.wrap n):=by
 unfold ji IntKind.wrap;have M:=Int.emod_nonneg n (b:=2 ^ k.bits) (by cases k<;>decide);have aa:=Int.emod_lt_of_pos n (b:=2 ^ k.bits) (by omega);cases k<;>simp only [IntKind.min,IntKind.max,IntKind.signed,IntKind.bits,Bool.true_and,Bool.false_and,Bool.false_eq_true,if_true,if_false,Nat.reduceSub,Int.reducePow] at M aa ⊢<;>first
  | (constructor<;>split<;>first | (rename_i hc;have hc:=of_decide_eq_true hc;omega) | (rename_i hc;have hc:=mt decide_eq_true hc;omega))
  | omega
theorem aaq {k:IntKind} {a b:Int} (bf:ji k a):ji k (a.tmod b):=by
 unfold ji at *
 have M:k.min<=0/\0<=k.max:=by cases k<;>decide
 have aa:=Int.natAbs_tmod a b;have an:=Nat.mod_le a.natAbs b.natAbs;rcases Int.le_total 0 a with h | h
 ·have:=Int.tmod_nonneg b h;omega
 ·have a8:(-a).tmod b=- (a.tmod b):=Int.neg_tmod a b;have:=Int.tmod_nonneg b (a:=-a) (by omega);omega
end Go.Fer
namespace Go.Fer
open Go.RowKit
theorem QI {P:Program} {w:World} {t:ai} {id:TypeId} (h:ca P t id) (aw:t.isAgg=false) {cs:Array Value} {off:Nat} {v:Value} (aj:cs[off]?=some v) :
  (part id cs off).run P w=.ok v w:=by
 simp [part,zl h,aw,aj]
theorem QJ {P:Program} {w:World} {t:ai} {id:TypeId} (h:ca P t id) (aw:t.isAgg=true) {cs:Array Value} {off:Nat} :
  (part id cs off).run P w=.ok (.agg (cs.extract off (off+t.size))) w:=by
 simp [part,zl h,aw,h.size]
theorem rp {P:Program} {F:Nat->Prop} {w:World} {t:ai} {id:TypeId} (h:ca P t id) {p c q:List Value} {cs:Array Value} {x:t.aq} (tI:cs.toList=p++(c++q)) (hc:bM P t F w c x) :
  ∃ v,(part id cs p.length).run P w=.ok v w/\eU P t F w v x:=by
 have hlen:=jj t hc;by_cases bf:t.isAgg=true
 ·refine ⟨_,QJ h bf,?_⟩;have he:(cs.extract p.length (p.length+t.size)).toList=c:=by
   simp_all
  have aj:(Value.agg (cs.extract p.length (p.length+t.size))).cells.toList=c:=he;refine ⟨?_,by grind⟩;have cH:(cs.extract p.length (p.length+t.size)).size=t.size:=by grind
  cases t<;>simp only [ai.isAgg,Bool.false_eq_true] at bf
  ·exact ⟨_,rfl,by simpa [ai.size] using cH⟩
  ·exact ⟨_,rfl,by simpa [ai.size] using cH⟩
 ·have aw:t.fE=true:=by
   cases t<;>simp only [ai.isAgg,not_true] at bf<;>first | rfl | (unfold ca at h;simp only [cx,Bool.false_eq_true] at h)
  obtain ⟨u,rfl,hu⟩:=EX aw hc;refine ⟨u,QI h (by grind) ?_,(fa aw).2 ⟨hu,hc⟩⟩;rw [<-Array.getElem?_toList,tI];simp
theorem ca.BZ {P:Program} {t:ai} {id:TypeId} (h:ca P (.st t) id):P.stoodInHeld id=false/\P.eqGuardType P.depth id=false/\
  (cx P t (.inr ((P.fieldsOf id).toList, 0)) = true \/ (∃ f, (P.fieldsOf id).toList = [f] /\ f.offset = 0 /\ ca P t f.type /\ f.name ≠ "_") \/ (t = .da /\ (P.fieldsOf id).toList = [])) /\ P.underlying id = some (.struct (P.fieldsOf id)) := by
 unfold ca at h;simp only [cx,Bool.and_eq_true,Bool.not_eq_true'] at h;obtain ⟨⟨⟨_,M⟩,aa⟩,h⟩:=h;split at h
 ·rename_i fr j6;have ax:P.fieldsOf id=fr:=by simp [Program.fieldsOf,j6]
  rw [ax];refine ⟨M,aa,?_,j6⟩;split at h
  ·grind
  ·rename_i x aw;simp only [Bool.and_eq_true,beq_iff_eq,bne_iff_ne,ne_eq] at h;exact .inr (.inl ⟨x,aw,h.1.1.1,h.1.1.2,h.2⟩)
  grind
 grind
theorem JO {P:Program} {F:Nat->Prop} {w:World}:∀ (t:ai) (d:Nat),t.lF=true->t.kM<=d->
  (∀ {id:TypeId} {v u:Value} {x y:t.aq},ca P t id->eU P t F w v x->eU P t F w u y->(Op.equalIn d id v u).run P w=.ok (hv t x y) w)/\
  (∀ {l:List Field} {off:Nat} {xs bG:Array Value} {p c q p' c' q':List Value} {x y:t.aq},cx P t (.inr (l,off))=true->xs.toList=p++(c++q)->p.length=off->bM P t F w c x->
   bG.toList=p'++(c'++q')->p'.length=off->bM P t F w c' y->(Op.eqFields d xs bG l).run P w=.ok (hv t x y) w):=by
 intro t;induction t with
 | bool=>
  intro d _ aN;refine ⟨λ{id v u x y} h M aa=>?_,λh=>by simp [cx] at h⟩;rw [gh.1 M,gh.1 aa];obtain ⟨d,rfl⟩:∃ e,d=e+1:=⟨d - 1,by simp only [ai.kM] at aN;omega⟩
  unfold ca at h;simp only [cx,Bool.and_eq_true] at h;obtain ⟨_,h⟩:=h;split at h
  ·rename_i hu;rw [run_equalIn_bool' w d id x y hu];rfl
  grind
 | int k=>
  intro d _ aN;refine ⟨λ{id v u x y} h M aa=>?_,λh=>by simp [cx] at h⟩;rw [(hZ.1 M).1,(hZ.1 aa).1];obtain ⟨d,rfl⟩:∃ e,d=e+1:=⟨d - 1,by simp only [ai.kM] at aN;omega⟩
  unfold ca at h;simp only [cx,Bool.and_eq_true] at h;obtain ⟨_,h⟩:=h;split at h
  ·rename_i hu;rw [run_equalIn_int w d id k _ x y hu];rfl
  grind
 | str=>
  intro d _ aN;refine ⟨λ{id v u x y} h M aa=>?_,λh=>by simp [cx] at h⟩;rw [(qf.1 M).1,(qf.1 aa).1];obtain ⟨d,rfl⟩:∃ e,d=e+1:=⟨d - 1,by simp only [ai.kM] at aN;omega⟩
  unfold ca at h;simp only [cx,Bool.and_eq_true] at h;obtain ⟨_,h⟩:=h;split at h
  ·rename_i hu;rw [run_equalIn_string w d id _ _ hu,ByteArray.toList_eq,ByteArray.toList_eq];simp only [hv];grind
  grind
 | da=>intro d h;cases h
 | slice e _=>intro d h;cases h
 | array n e _=>intro d h;cases h
 | bQ e _=>intro d h;cases h
 | map k v _ _=>intro d h;cases h
 | fn a b _ _=>intro d h;cases h
 | cj a _=>intro d h;cases h
 | aG a b gn fh=>
  intro d hc aN;simp only [ai.lF,Bool.and_eq_true] at hc;simp only [ai.kM] at aN;have JP:=gn d hc.1 (by omega);have pr:=fh d hc.2 (by omega);refine ⟨λh=>by unfold ca at h;simp [cx] at h,?_⟩;intro l off xs bG p c q p' c' q' x y h au ar pA aJ B0 zn;simp only [bM] at pA zn;obtain ⟨bH,b2,rfl,aS,aY⟩:=pA;obtain ⟨d1,d2,rfl,eb,eN⟩:=zn;have eS:=jj a aS;have tw:=jj a eb;have step : ∀ (f : Field) (bZ : List Field), f.offset = off -> ca P a f.type -> f.name ≠ "_" ->
    (Op.eqFields d xs bG (f::bZ)).run P w=if hv a x.1 y.1=true then (Op.eqFields d xs bG bZ).run P w else .ok false w:=by
   intro f bZ al ax aI;obtain ⟨v,b4,ct⟩:=rp (cs:=xs) (p:=p) (c:=bH) (q:=b2++q) ax (by grind) aS;obtain ⟨u,s1,s2⟩:=rp (cs:=bG) (p:=p') (c:=d1) (q:=d2++q') ax (by grind) eb;simp only [Op.eqFields,aI,ne_eq,not_false_eq_true,if_true,Sem.run_bind];rw [al,<-ar,b4,Result.andThen_ok,ar,<-B0,s1,Result.andThen_ok,JP.1 ax ct s2];cases hv a x.1 y.1<;>simp
  match l,h with
  | [],h=>simp only [cx,Bool.false_eq_true] at h
  | [f],h=>simp only [cx,Bool.false_eq_true] at h
  | [f,g],h=>
   simp only [cx,Bool.and_eq_true,beq_iff_eq,bne_iff_ne,ne_eq] at h;obtain ⟨⟨⟨⟨M,aa⟩,an⟩,a8⟩,⟨⟨⟨bV,d_⟩,hL⟩,mw⟩⟩:=h;rw [step f [g] M aa a8];obtain ⟨v,b4,ct⟩:=rp (cs:=xs) (p:=p++bH) (c:=b2) (q:=q) d_ (by grind) aY;obtain ⟨u,s1,s2⟩:=rp (cs:=bG) (p:=p'++d1) (c:=d2) (q:=q') d_ (by grind) eN;have aK:(p++bH).length=g.offset:=by grind
   have bq:(p'++d1).length=g.offset:=by grind
   rw [aK] at b4;rw [bq] at s1;simp only [Op.eqFields,mw,ne_eq,not_false_eq_true,if_true,Sem.run_bind,b4,s1,Result.andThen_ok,pr.1 d_ ct s2,hv];cases hv a x.1 y.1<;>cases hv b x.2 y.2<;>simp
  | f::g::i::l,h=>
   simp only [cx,Bool.and_eq_true,beq_iff_eq,bne_iff_ne,ne_eq] at h;obtain ⟨⟨⟨⟨M,aa⟩,an⟩,a8⟩,bV⟩:=h;rw [step f _ M aa a8,pr.2 bV (p:=p++bH) (c:=b2) (q:=q) (p':=p'++d1) (c':=d2) (q':=q') (by grind) (by grind) aY (by grind) (by grind) eN];simp only [hv];cases hv a x.1 y.1<;>simp
 | st t aO=>
  intro d hc aN;simp only [ai.kM] at aN;obtain ⟨d,rfl⟩:∃ e,d=e+1:=⟨d - 1,by omega⟩
  refine ⟨λ{id v u x y} h M aa=>?_,λh=>by simp [cx] at h⟩;have i:=aO d hc (by omega);obtain ⟨aK,bq,cF,hd⟩:=h.BZ;obtain ⟨⟨xs,rfl,jK⟩,pA⟩:=M;obtain ⟨⟨bG,rfl,mG⟩,zn⟩:=aa;simp only [Value.cells,bM] at pA zn;rw [run_equalIn_struct w d id xs bG hd aK];rcases cF with cF | ⟨f,cF,j0,qh,JQ⟩ | ⟨rfl,cF⟩
  ·exact i.2 cF (p:=[]) (c:=xs.toList) (q:=[]) (p':=[]) (c':=bG.toList) (q':=[]) (by simp) rfl pA (by simp) rfl zn
  ·rw [cF];obtain ⟨v,b4,ct⟩:=rp (cs:=xs) (p:=[]) (c:=xs.toList) (q:=[]) qh (by simp) pA;obtain ⟨u,s1,s2⟩:=rp (cs:=bG) (p:=[]) (c:=bG.toList) (q:=[]) qh (by simp) zn;simp only [List.length_nil] at b4 s1;simp only [Op.eqFields,JQ,ne_eq,not_false_eq_true,if_true,Sem.run_bind,j0,b4,s1,Result.andThen_ok,i.1 qh ct s2,hv];cases hv t x y<;>simp
  ·cases hc
theorem aar {k:IntKind} {a b:Int} (bf:ji k a):ji k (gL k a b):=by
 unfold ji at *
 unfold gL;have M:k.min<=0/\0<=k.max:=by cases k<;>decide
 generalize min b.toNat k.bits=n;have ar:(0:Int)<2 ^ n:=Int.pow_pos (by decide);rw [Int.fdiv_eq_ediv_of_nonneg _ (Int.le_of_lt ar)];rcases Int.le_total 0 a with h | h
 ·have aa:=Int.ediv_nonneg h (Int.le_of_lt ar);have an:=Int.ediv_le_self (2 ^ n) h;omega
 ·have aa:a / 2 ^ n<=0:=by
   have:=Int.ediv_le_ediv ar h;simp_all
  have an:a<=a / 2 ^ n:=by
   rw [Int.le_ediv_iff_mul_le ar];have a8:(1:Int)<=2 ^ n:=by omega
   have:=Int.mul_le_mul_of_nonpos_left (a:=a) h a8;omega
  omega
theorem QK {P:Program} {w:World} (op:BinOp) (t:TypeId) (x y:Operand) (k k':IntKind) (a b:Int):(eqGuard op t x y (.int k a) (.int k' b)).run P w=.ok () w:=by
 cases op<;>simp [eqGuard]
theorem aas {P:Program} {w:World} (op:BinOp) (t:TypeId) (x y:Operand) (a b:ByteArray):(eqGuard op t x y (.string a) (.string b)).run P w=.ok () w:=by
 cases op<;>simp [eqGuard]
theorem aat {P:Program} {w:World} (op:BinOp) (t:TypeId) (x y:Operand) (a b:Bool):(eqGuard op t x y (.bool a) (.bool b)).run P w=.ok () w:=by
 cases op<;>simp [eqGuard]
theorem aau {P:Program} {w:World} (op:BinOp) (t:TypeId) (x y:Operand) (a b:Option Addr):(eqGuard op t x y (.pointer a) (.pointer b)).run P w=.ok () w:=by
 cases op<;>simp [eqGuard]
section
variable {P:Program} {H:Nat->bS} {κ:Nat->bD} {F:Nat->Prop} {w:World}
theorem aav {op:BinOp} {k:IntKind} {a b:Int} {t:TypeId} {c:Prop} {v:aP} (h:zc op k a b=some (c,v)) (hc:c) (bf:ji k a) :
  ∃ u,(binOp op t (.int k a) (.int k b)).run P w=.ok u w/\bw P H κ F w v u:=by
 cases op<;>simp only [zc,Option.some.injEq,Prod.mk.injEq,reduceCtorEq] at h<;>obtain ⟨rfl,rfl⟩:=h<;>simp only [bw];case add=>exact ⟨_,by simp [binOp,Op.intArith],hZ.2 ⟨rfl,rn _ _⟩⟩
 case sub=>exact ⟨_,by simp [binOp,Op.intArith],hZ.2 ⟨rfl,rn _ _⟩⟩
 case mul=>exact ⟨_,by simp [binOp,Op.intArith],hZ.2 ⟨rfl,rn _ _⟩⟩
 case quo=>exact ⟨_,by simp [binOp,Op.intDiv,hc],hZ.2 ⟨rfl,rn _ _⟩⟩
 case rem=>exact ⟨_,by simp [binOp,Op.intDiv,hc],hZ.2 ⟨rfl,aaq bf⟩⟩
 case and=>exact ⟨.int k (hO k a b),by simp only [binOp,ne_eq,not_true_eq_false,if_false,Op.intBits];rfl,hZ.2 ⟨rfl,rn _ _⟩⟩
 case or=>exact ⟨.int k (vr k a b),by simp only [binOp,ne_eq,not_true_eq_false,if_false,Op.intBits];rfl,hZ.2 ⟨rfl,rn _ _⟩⟩
 case xor=>exact ⟨.int k (Qt k a b),by simp only [binOp,ne_eq,not_true_eq_false,if_false,Op.intBits];rfl,hZ.2 ⟨rfl,rn _ _⟩⟩
 case andNot=>exact ⟨.int k (Qu k a b),by simp only [binOp,ne_eq,not_true_eq_false,if_false,Op.intBits];rfl,hZ.2 ⟨rfl,rn _ _⟩⟩
 case eql=>exact ⟨.bool (a == b),by simp [binOp,Op.intCmp],gh.2 (congrArg Value.bool (by rfl))⟩
 case neq=>exact ⟨.bool (a != b),by simp [binOp,Op.intCmp],gh.2 (congrArg Value.bool (by grind))⟩
 case lss=>exact ⟨_,by simp [binOp,Op.intCmp],gh.2 rfl⟩
 case leq=>exact ⟨_,by simp [binOp,Op.intCmp],gh.2 rfl⟩
 case gtr=>exact ⟨_,by simp [binOp,Op.intCmp],gh.2 rfl⟩
 case geq=>exact ⟨_,by simp [binOp,Op.intCmp],gh.2 rfl⟩
theorem QL {op:BinOp} {k k':IntKind} {a b:Int} {t:TypeId} {c:Prop} {v:aP} (h:JF op k a b=some (c,v)) (hc:c) (bf:ji k a) :
  ∃ u,(binOp op t (.int k a) (.int k' b)).run P w=.ok u w/\bw P H κ F w v u:=by
 cases op<;>simp only [JF,Option.some.injEq,Prod.mk.injEq,reduceCtorEq] at h<;>obtain ⟨rfl,rfl⟩:=h<;>simp only [bw];case shl=>exact ⟨_,by simp [binOp,Op.shift,show ¬b<0 by omega];rfl,hZ.2 ⟨rfl,rn _ _⟩⟩
 case shr=>exact ⟨_,by simp [binOp,Op.shift,show ¬b<0 by omega];rfl,hZ.2 ⟨rfl,aar bf⟩⟩
theorem aaw {op:BinOp} {a b:List UInt8} {t:TypeId} {c:Prop} {v:aP} (h:BR op a b=some (c,v)) (hc:c) :
  ∃ u,(binOp op t (.string ⟨a.toArray⟩) (.string ⟨b.toArray⟩)).run P w=.ok u w/\bw P H κ F w v u:=by
 have e:∀ l:List UInt8,(⟨l.toArray⟩:ByteArray).toList=l:=λl=>by simp
 cases op<;>simp only [BR,Option.some.injEq,Prod.mk.injEq,reduceCtorEq] at h<;>obtain ⟨rfl,rfl⟩:=h<;>simp only [bw];case add=>
  unfold bT at hc;have aA:((ByteArray.size ⟨a.toArray⟩+ByteArray.size ⟨b.toArray⟩:Nat):Int)=(a.length+b.length:Nat):=by rfl
  refine ⟨.string ⟨(a++b).toArray⟩,?_,qf.2 ⟨rfl,by grind⟩⟩;simp only [binOp,Op.stringOp];rw [if_neg]
  ·rfl
  ·rw [aA];have:IntKind.i64.max=9223372036854775807:=by decide
   omega
 case eql=>exact ⟨_,by rfl,gh.2 (by grind)⟩
 case neq=>exact ⟨_,by rfl,gh.2 (by grind)⟩
 case lss=>exact ⟨_,by simp only [binOp,Op.stringOp,e];rfl,gh.2 rfl⟩
 case geq=>exact ⟨_,by simp only [binOp,Op.stringOp,e];rfl,gh.2 rfl⟩
end
end Go.Fer
namespace Go.Fer
open Go.RowKit
def eO (P:Program) (T:Nat->ai):Prop:=∀ id,T id=.da\/ca P (T id) id
theorem eO.cb {P:Program} {T:Nat->ai} (h:eO P T) {id:Nat} {t:ai} (e:T id=t) (aR:t≠.da):ca P t id:=by
 rcases h id with h | h
 ·exact absurd (e ▸ h) aR
 ·exact e ▸ h
theorem sn {d:Option Nat} {k:Nat->Nat->Option fj} {H:Nat->bS} {res:fj} (h:(jl d k).run H=some res) :
  ∃ b,d=some b/\k b ((H b).gen+1)=some res:=by
 unfold jl at h;cases d with
 | none=>cases h
 | some b=>
  simp_all
theorem bl.aax {C:cf} {s:aE} {a:Act} {w:World} {κ:Nat->bD} {F:Nat->Prop} (h:bl C s a w κ F) {b g:Nat} {e:ai} (aL:(s.ag b).gen<g) :
  bl C (s.cy b ⟨g,.bu e []⟩) a w (λi=>if i=b then ⟨0,0,0,true⟩ else κ i) F:=by
 have aw:gT s.ag κ (λi=>if i=b then ⟨g,.bu e []⟩ else s.ag i) (λi=>if i=b then ⟨0,0,0,true⟩ else κ i):=BL aL λbg dq=>by grind
 refine h.move (H':=λi=>if i=b then ⟨g,.bu e []⟩ else s.ag i) aw (λ_ W=>W) (λ_ W=>.inl W) (Nat.le_refl _) (λ_ _ _=>rfl) (dA.refl _) (λ_=>?_) ?_ ?_ h.dM (BN (.inr ⟨rfl,rfl⟩) λbg dq=>by grind)
 ·intro i;by_cases U:i=b
  ·subst U;simp only [cO,if_true];exact ⟨λ_=>rfl,λaI=>by cases aI⟩
  ·exact cO.mA (h.bI i) aw (λ_ W=>W) (c6.refl _ _) (by grind) (by grind) λ_=>rfl
 ·intro i U;by_cases gD:i=b
  ·subst gD;simp [b7.cd] at U
  ·simp only [if_neg gD] at U ⊢;exact ⟨(h.ad i U).1,(h.ad i U).2.1,.inl ⟨i,U,rfl⟩⟩
 ·intro i j U aC a9;by_cases gD:i=b
  ·subst gD;simp [b7.cd] at U
  ·by_cases pv:j=b
   ·subst pv;simp [b7.cd] at aC
   ·simp only [if_neg gD,if_neg pv] at U aC a9;exact h.inj i j U aC a9
section
variable {C:cf} {T:Nat->ai} {bd:Nat->Option aU} {o:Oper} {s:aE} {res:fj}
theorem aay {x:Operand} (bh:∀ i,o.dst=some i->i<C.nt) (al:o.op=.move x) (h:(bo C.aZ T bd (a_ C.aZ s.aD) o).run s.ag=some res):cK C o s res:=by
 simp only [bo,al,bR,az.bW,Option.some.injEq] at h;subst h;exact cK.pure (by grind) bh λa w κ F W _ _=>⟨_,by simp [execOp,al],kN W x⟩
theorem aaz {x:Operand} (bh:∀ i,o.dst=some i->i<C.nt) (al:o.op=.assign x) (h:(bo C.aZ T bd (a_ C.aZ s.aD) o).run s.ag=some res):cK C o s res:=by
 simp only [bo,al] at h;split at h
 ·rename_i e au aR;obtain ⟨b,aN,ak⟩:=sn h;simp only [Option.some.injEq] at ak;subst ak;intro a w κ F Q W _ _;refine h1 (w':=w) (v:=a.eval x) (by grind) (by simp [execOp,al]) ?_;have aa:=W.aax (b:=b) (e:=e) (Nat.lt_succ_self _);have aj:=kN W x;rw [au] at aj;simp only [bw] at aj;refine ⟨_,_,bl.set aa bh ⟨⟨?_,by rw [aj];rfl⟩,λ_ _=>?_⟩⟩
  ·simp [aE.cy]
  ·simp [aj,bD.slice]
 ·simp only [bR,az.bW,Option.some.injEq] at h;subst h;exact cK.pure (by grind) bh λa w κ F W _ _=>⟨_,by simp [execOp,al],kN W x⟩
theorem cU {a:Act} {w:World} {κ:Nat->bD} {F:Nat->Prop} (W:bl C s a w κ F) (x:Operand) {p:Prop} {av:aP} (hu:use (a_ C.aZ s.aD x)=(p,av)) (ar:p):bw C.P s.ag κ F w av (a.eval x):=by
 have:=pz (kN W x) (by grind);grind
theorem aaA {c x y:Operand} (bh:∀ i,o.dst=some i->i<C.nt) (al:o.op=.pick c x y) (h:(bo C.aZ T bd (a_ C.aZ s.aD) o).run s.ag=some res):cK C o s res:=by
 simp only [bo,al] at h;split at h
 ·rename_i ql nz hc;split at h
  ·split at h
   ·rename_i zi av bf;simp only [bR,az.bW,Option.some.injEq] at h;subst h;refine cK.pure (by grind) bh λa w κ F W be _=>?_;have M:=gh.1 (cU W c hc be.1);cases nz with
    | false=>
     have dC:a.eval (.const (.bool false))=.bool false:=rfl;exact ⟨.bool false,by simp [execOp,al,M,asBool,dC],gh.2 rfl⟩
    | true=>
     have aa:=gh.1 (cU W x bf (be.2 rfl));exact ⟨.bool av,by simp [execOp,al,M,asBool,aa],gh.2 rfl⟩
   ·cases h
  ·split at h
   ·rename_i cD bv af;simp only [bR,az.bW,Option.some.injEq] at h;subst h;refine cK.pure (by grind) bh λa w κ F W be _=>?_;have M:=gh.1 (cU W c hc be.1);cases nz with
    | true=>
     have dC:a.eval (.const (.bool true))=.bool true:=rfl;exact ⟨.bool true,by simp [execOp,al,M,asBool,dC],gh.2 rfl⟩
    | false=>
     have aa:=gh.1 (cU W y af (be.2 rfl));exact ⟨.bool bv,by simp [execOp,al,M,asBool,aa],gh.2 rfl⟩
   ·cases h
  ·cases h
 ·cases h
theorem aaB {op:UnOp} {ty:TypeId} {x:Operand} (bh:∀ i,o.dst=some i->i<C.nt) (al:o.op=.unOp op ty x) (h:(bo C.aZ T bd (a_ C.aZ s.aD) o).run s.ag=some res):cK C o s res:=by
 simp only [bo,al] at h;split at h
 ·rename_i c4 b au;simp only [bR,az.bW,Option.some.injEq] at h;subst h;refine cK.pure (by grind) bh λa w κ F W be _=>?_;have M:=gh.1 (cU W x au be);exact ⟨.bool (!b),by simp [execOp,al,M,Op.unary],gh.2 rfl⟩
 ·rename_i c4 k n au;simp only [bR,az.bW,Option.some.injEq] at h;subst h;refine cK.pure (by grind) bh λa w κ F W be _=>?_;have M:=hZ.1 (cU W x au be);exact ⟨.int k (k.wrap (0 - n)),by simp [execOp,al,M.1,Op.unary,Op.intArith],hZ.2 ⟨rfl,rn _ _⟩⟩
 ·cases h
theorem aaC {i:Nat} {x:Operand} (bh:∀ i,o.dst=some i->i<C.nt) (al:o.op=.extract x i) (h:(bo C.aZ T bd (a_ C.aZ s.aD) o).run s.ag=some res):cK C o s res:=by
 simp only [bo,al] at h;split at h
 ·rename_i c4 n f au;split at h
  ·rename_i U;simp only [bR,az.bW,Option.some.injEq] at h;subst h;refine cK.pure (by grind) bh λa w κ F W be _=>?_;obtain ⟨aH,M,aa,an⟩:=cU W x au be;have eA:i<aH.length:=by omega
   refine ⟨aH[i],by simp [execOp,al,M,Instr.extract,eA],?_⟩;grind
  ·cases h
 ·cases h
theorem aaD {x:Operand} (bh:∀ i,o.dst=some i->i<C.nt) (al:o.op=.nilCheck x) (h:(bo C.aZ T bd (a_ C.aZ s.aD) o).run s.ag=some res):cK C o s res:=by
 simp only [bo,al] at h;split at h
 ·rename_i c4 t d au;simp only [bR,az.bW,Option.some.injEq] at h;subst h;refine cK.pure (by grind) bh λa w κ F W be _=>?_;obtain ⟨p,bn,M,aa⟩:=cU W x au be;exact ⟨_,by simp [execOp,al,M],p,bn,rfl,aa⟩
 ·rename_i c4 e p au;simp only [bR,az.bW,Option.some.injEq] at h;subst h;refine cK.pure (by grind) bh λa w κ F W be hc=>?_;have M:=(fa rfl).1 (cU W x au be);obtain ⟨_,M⟩:=M;simp only [bM] at M;rcases M with ⟨_,rfl⟩ | ⟨q,y,bn,bt,rfl,aS,aY⟩
  ·cases hc
  ·simp only [List.cons.injEq,and_true] at bt;exact ⟨_,by simp [execOp,al,bt],q,bn,rfl,aS,aY⟩
 ·rename_i c4 b g off au;simp only [az.gr,az.bW] at h;split at h
  ·rename_i bm;simp only [Bool.and_eq_true,decide_eq_true_eq] at bm;simp only [Option.some.injEq] at h;subst h;refine cK.pure (by grind) bh λa w κ F W be _=>?_;have M:=cU W x au be;have aa:=M.2 bm.1.symm bm.2;exact ⟨_,by simp [execOp,al,aa],⟨M.1.1,rfl⟩,λ_ _=>rfl⟩
  grind
 ·cases h
theorem vu (b off n:Nat):(⟨b,off,none⟩:Addr).add n=⟨b,off+n,none⟩:=by
 unfold Addr.add;simp
theorem JR {P:Program} {w:World} {t s:ai} {id f zj b off:Nat} (h:ca P (.st t) id) (ax:m3 t f=some (s,zj)) :
  (Instr.fieldAt id (.pointer (some ⟨b,off,none⟩)) f).run P w=.ok (.pointer (some ⟨b,off+zj,none⟩)) w:=by
 obtain ⟨fr,n',M,aa,an,a8,bV⟩:=h.field ax;simp only [Instr.fieldAt,Sem.run_bind,dW M,Result.andThen_ok,aa,Instr.sureAddr,Sem.run_pure,fieldPlace,a8.size,bV,if_false,an,vu]
theorem aaE (a2:eO C.P T) {ty f:Nat} {x:Operand} (bh:∀ i,o.dst=some i->i<C.nt) (al:o.op=.fieldAddr ty x f) (h:(bo C.aZ T bd (a_ C.aZ s.aD) o).run s.ag=some res):cK C o s res:=by
 simp only [bo,al] at h;split at h
 ·rename_i t aR;have d':=a2.cb aR (by simp);split at h
  ·rename_i s' zj ax;split at h
   ·rename_i c4 b g off au;simp only [az.gr,az.bW] at h;split at h
    ·rename_i bm;simp only [Bool.and_eq_true,decide_eq_true_eq] at bm;simp only [Option.some.injEq] at h;subst h;refine cK.pure (by grind) bh λa w κ F W be _=>?_;have M:=cU W x au be;have aa:=M.2 bm.1.symm bm.2;exact ⟨_,by simp [execOp,al,aa,JR d' ax],⟨M.1.1,rfl⟩,λ_ _=>rfl⟩
    grind
   ·rename_i c4 b g i off au;simp only [az.gr,az.bW] at h;split at h
    ·rename_i bm;simp only [Bool.and_eq_true,decide_eq_true_eq] at bm;simp only [Option.some.injEq] at h;subst h;refine cK.pure (by grind) bh λa w κ F W be _=>?_;have M:=cU W x au be;obtain ⟨aa,an,a8⟩:=M.2 bm.1.symm bm.2;exact ⟨_,by simp [execOp,al,a8,JR d' ax];rfl,⟨M.1.1,rfl⟩,λ_ _=>⟨aa,an,by grind⟩⟩
    grind
   ·rename_i c4 cT d au;split at h
    ·rename_i vv;subst vv;split at h
     ·rename_i s2 y aJ;simp only [bR,az.bW,Option.some.injEq] at h;subst h;refine cK.pure (by grind) bh λa w κ F W be _=>?_;obtain ⟨p,bn,M,aa,an⟩:=cU W x au be;simp only [bM] at an;obtain ⟨bH,b2,cw,rfl,aS,aY⟩:=Qy cT an aJ;rw [ax] at aY;cases aY;have ar:p=⟨p.block,p.off,none⟩:=by have:=aa.2.1;cases p;simp_all
      rw [ar] at M;refine ⟨_,by simp [execOp,al,M,JR d' ax],⟨p.block,p.off+bH.length,none⟩,b2,rfl,⟨aa.1,rfl,λj aC=>?_⟩,aS⟩;have:=aa.2.2 (bH.length+j) (by grind);grind
     ·cases h
    ·cases h
   ·cases h
  ·cases h
 ·cases h
theorem aaF (a2:eO C.P T) {ty f:Nat} {x:Operand} (bh:∀ i,o.dst=some i->i<C.nt) (al:o.op=.field ty x f) (h:(bo C.aZ T bd (a_ C.aZ s.aD) o).run s.ag=some res):cK C o s res:=by
 simp only [bo,al] at h;split at h
 ·rename_i t aR;have d':=a2.cb aR (by simp);split at h
  ·rename_i c4 cT d au;split at h
   ·rename_i vv;subst vv;split at h
    ·rename_i s2 y aJ;simp only [bR,az.bW,Option.some.injEq] at h;subst h;refine cK.pure (by grind) bh λa w κ F W be _=>?_;obtain ⟨⟨cs,M,aa⟩,an⟩:=cU W x au be;rw [M] at an;simp only [bM,Value.cells] at an;obtain ⟨bH,b2,cw,e,aS,aY⟩:=Qy cT an aJ;obtain ⟨fr,n',f1,f2,f3,f4,f5⟩:=d'.field aY;obtain ⟨v,b4,ct⟩:=rp (w:=w) f4 e aS;refine ⟨v,?_,ct⟩;simp [execOp,al,M,Instr.field,dW f1,f2,asAgg,f3,b4]
    ·cases h
   ·cases h
  ·cases h
 ·cases h
end
end Go.Fer
namespace Go.Fer
open Go.RowKit
theorem ca.bQ {P:Program} {e:ai} {id:TypeId} (h:ca P (.bQ e) id):∃ i,P.underlying id=some (.pointer i)/\ca P e i/\e.size≠0:=by
 unfold ca at h;simp only [cx,Bool.and_eq_true] at h;obtain ⟨_,h⟩:=h;split at h
 ·rename_i i U;simp only [Bool.and_eq_true,bne_iff_ne,ne_eq] at h;exact ⟨i,U,h.1,h.2⟩
 grind
theorem QM {k:IntKind} {av:aP} {H:Nat->bS} {x:Int} {l:List Nat} (h:(dV (.int k) av).run H=some (x,l)):av.l3.isSome=true:=by
 cases av with
 | val cT y=>
  simp only [dV,az.bW,Option.map_eq_some_iff,Prod.mk.injEq] at h;obtain ⟨z,bm,_⟩:=h;obtain ⟨rfl,_⟩:=lD bm;rfl
 | kj v=>simp [dV,k7,ai.fE,eW,BO] at h
 | _=>simp [dV,k7,ai.fE,eW,az.none] at h
theorem QN {av:aP} {H:Nat->bS} {x:List UInt8} {l:List Nat} (h:(dV .str av).run H=some (x,l)):av.tG.isSome=true:=by
 cases av with
 | val cT y=>
  simp only [dV,az.bW,Option.map_eq_some_iff,Prod.mk.injEq] at h;obtain ⟨z,bm,_⟩:=h;obtain ⟨rfl,_⟩:=lD bm;rfl
 | kj v=>simp [dV,k7,ai.fE,eW,BO] at h
 | _=>simp [dV,k7,ai.fE,eW,az.none] at h
theorem Fg {P:Program} {w:World} {ty i:TypeId} (U:P.underlying ty=some (.pointer i)) (a:Option Addr) (d:Nat):(Op.equalIn (d+1) ty (.pointer a) (.pointer none)).run P w=.ok a.isNone w:=by
 cases a<;>simp [Op.equalIn,dW U]
inductive B1:Value->Value->Prop where
 | bool (a b:Bool):B1 (.bool a) (.bool b)
 | agg (a b:Array Value):B1 (.agg a) (.agg b)
 | bQ (a b:Option Addr):B1 (.pointer a) (.pointer b)
theorem aaG {P:Program} {w:World} {ty:TypeId} {x y:Operand} {u nv:Value} {e:Bool} (ar:B1 u nv) (h:(Op.equalIn 10000 ty u nv).run P w=.ok e w)
  (aL:∀ a b,u=.agg a->nv=.agg b->P.eqGuardType P.depth ty=false) :
  (do eqGuard .eql ty x y u nv;binOp .eql ty u nv:Sem Value).run P w=.ok (.bool e) w/\(do eqGuard .neq ty x y u nv;binOp .neq ty u nv:Sem Value).run P w=.ok (.bool (!e)) w:=by
 cases ar with
 | bool a b=>constructor<;>simp [aat,binOp,Op.equal,Op.maxDepth,h]
 | agg a b=>constructor<;>simp [run_eqGuard_agg _ _ _ _ _ _ _ (aL a b rfl rfl),binOp,Op.equal,Op.maxDepth,h]
 | bQ a b=>constructor<;>simp [aau,binOp,Op.equal,Op.maxDepth,h]
section
variable {C:cf} {T:Nat->ai} {bd:Nat->Option aU} {o:Oper} {s:aE} {res:fj}
theorem B2 {a:Act} {w:World} {κ:Nat->bD} {F:Nat->Prop} (W:bl C s a w κ F) {t:ai} {av:aP} {v:Value} {x:t.aq} {l:List Nat} (h:(dV t av).run s.ag=some (x,l)) (aj:bw C.P s.ag κ F w av v) :
  eU C.P t (λ_=>True) w v x:=n9 W.bI (λ_ _=>trivial) h (λ_ _ _=>trivial) aj
theorem aaH {op:BinOp} {ty:TypeId} {eD j5:aP} {x y:Operand} {c:Prop} {v:aP} {a:Act} {w:World} {κ:Nat->bD} {F:Nat->Prop} (a2:eO C.P T) (W:bl C s a w κ F)
  (h:(zd op (T ty) eD j5).run s.ag=some (c,v)) {u nv:Value} (au:bw C.P s.ag κ F w eD u) (aJ:bw C.P s.ag κ F w j5 nv) (QO:¬(eD.l3.isSome=true/\j5.l3.isSome=true)) (QP:¬(eD.tG.isSome=true/\j5.tG.isSome=true)) :
  ∃ r,(do eqGuard op ty x y u nv;binOp op ty u nv:Sem Value).run C.P w=.ok r w/\bw C.P s.ag κ F w v r:=by
 unfold zd at h;rw [az.fR] at h;simp only [Option.bind_eq_some_iff] at h;obtain ⟨e,he,aj⟩:=h;simp only [az.bW] at aj;have key:B1 u nv/\(Op.equalIn 10000 ty u nv).run C.P w=.ok e w/\(∀ a b,u=.agg a->nv=.agg b->C.P.eqGuardType C.P.depth ty=false):=by
  split at he
  ·rename_i a9 p bq aR;obtain ⟨i,U,_⟩:=(a2.cb aR (by simp)).bQ;simp only [bw] at aJ;subst aJ;simp only [az.bW,Option.some.injEq] at he;subst he;obtain ⟨_,oa⟩:=(fa rfl).1 au;rcases oa with ⟨oa,rfl⟩ | ⟨q,z,bn,oa,rfl,_⟩
   ·obtain rfl:=(List.cons.inj oa).1;exact ⟨.bQ _ _,Fg U none 9999,λ_ _ h=>by cases h⟩
   ·obtain rfl:=(List.cons.inj oa).1;exact ⟨.bQ _ _,Fg U (some q) 9999,λ_ _ h=>by cases h⟩
  ·rename_i a9 hx lG aR;obtain ⟨i,U,_⟩:=(a2.cb aR (by simp)).bQ;simp only [bw] at aJ;subst aJ;simp only [az.bW,Option.some.injEq] at he;subst he;obtain ⟨q,bn,rfl,_⟩:=au;exact ⟨.bQ _ _,Fg U (some q) 9999,λ_ _ h=>by cases h⟩
  ·rename_i a9 b g off aR;obtain ⟨i,U,_⟩:=(a2.cb aR (by simp)).bQ;simp only [bw] at aJ;subst aJ;simp only [az.gr,az.bW] at he;split at he
   ·rename_i bm;simp only [Bool.and_eq_true,decide_eq_true_eq] at bm;simp only [Option.some.injEq] at he;subst he;have:=au.2 bm.1.symm bm.2;subst this;exact ⟨.bQ _ _,Fg U (some _) 9999,λ_ _ h=>by cases h⟩
   grind
  ·split at he
   ·rename_i l5;simp only [Bool.and_eq_true,decide_eq_true_eq] at l5;simp only [az.fR,Option.bind_eq_some_iff,az.bW,Option.some.injEq] at he;obtain ⟨⟨so,eS⟩,M,⟨l6,tw⟩,aa,rfl⟩:=he;have b4:=B2 W M au;have ct:=B2 W aa aJ;generalize qm:T ty=t at *
    cases t with
    | bool=>
     have d':=a2.cb qm (by simp);refine ⟨?_,(JO .bool 10000 rfl (by decide)).1 d' b4 ct,?_⟩
     ·rw [gh.1 b4,gh.1 ct];exact .bool _ _
     simp_all
    | int k=>exact (QO ⟨QM M,QM aa⟩).elim
    | str=>exact (QP ⟨QN M,QN aa⟩).elim
    | st t=>
     have d':=a2.cb qm (by simp);refine ⟨?_,(JO (.st t) 10000 l5.1 (by omega)).1 d' b4 ct,λ_ _ _ _=>d'.BZ.2.1⟩;obtain ⟨⟨_,rfl,_⟩,_⟩:=b4;obtain ⟨⟨_,rfl,_⟩,_⟩:=ct;exact .agg _ _
    | aG t1 hx=>have:=a2.cb qm (by simp);unfold ca at this;simp only [cx,Bool.false_eq_true] at this
    | da=>cases l5.1
    | slice _=>cases l5.1
    | array _ _=>cases l5.1
    | bQ _=>cases l5.1
    | map _ _=>cases l5.1
    | fn _ _=>cases l5.1
    | cj _=>cases l5.1
   ·cases he
 obtain ⟨aS,aY,bK⟩:=key;have:=aaG (x:=x) (y:=y) aS aY bK;cases op<;>simp only [reduceCtorEq,Option.some.injEq,Prod.mk.injEq] at aj;case eql=>obtain ⟨rfl,rfl⟩:=aj;exact ⟨_,this.1,gh.2 rfl⟩
 case neq=>obtain ⟨rfl,rfl⟩:=aj;exact ⟨_,this.2,gh.2 rfl⟩
theorem aaI (a2:eO C.P T) {op:BinOp} {ty nB:TypeId} {x y:Operand} (bh:∀ i,o.dst=some i->i<C.nt) (al:o.op=.binOp op ty x y nB) (h:(bo C.aZ T bd (a_ C.aZ s.aD) o).run s.ag=some res):cK C o s res:=by
 simp only [bo,al] at h;have zo:∀ c,o.op≠.defer c:=by grind
 have nC:∀ (a:Act) (w:World) (r:Value),(do eqGuard op ty x y (a.eval x) (a.eval y);binOp op ty (a.eval x) (a.eval y):Sem Value).run C.P w=.ok r w->(execOp a.eval o).run C.P w=.ok (.value r) w:=by
  intro a w r W;simp only [execOp,al,Sem.run_bind] at W ⊢;simp_all
 split at h
 ·rename_i k m k' n au aJ;have fin:∀ (c:Prop) (v:aP),(∀ (w:World) κ F,c->ji k m->∃ r,(binOp op ty (.int k m) (.int k' n)).run C.P w=.ok r w/\bw C.P s.ag κ F w v r)->
    res=⟨(use (a_ C.aZ s.aD x)).1/\(use (a_ C.aZ s.aD y)).1,c,v,[]⟩->cK C o s res:=by
   intro c v ak g1;subst g1;refine cK.pure zo bh λa w κ F W be hc=>?_;have M:=nA (cU W x rfl be.1) au;have aa:=nA (cU W y rfl be.2) aJ;obtain ⟨r,b4,ct⟩:=ak w κ F hc M.2;exact ⟨r,nC a w r (by simp [M.1,aa.1,QK,b4]),ct⟩
  split at h
  ·split at h
   ·rename_i c v aA;simp only [bR,az.bW,Option.some.injEq] at h;exact fin c v (λw κ F hc bf=>QL aA hc bf) h.symm
   ·cases h
  ·split at h
   ·rename_i c v aA;simp only [bR,az.bW,Option.some.injEq] at h;exact fin c v (λw κ F hc bf=>QL aA hc bf) h.symm
   ·cases h
  ·split at h
   ·rename_i qn;subst qn;split at h
    ·rename_i c v aA;simp only [bR,az.bW,Option.some.injEq] at h;exact fin c v (λw κ F hc bf=>aav aA hc bf) h.symm
    ·cases h
   ·cases h
 ·rename_i QO;split at h
  ·rename_i m n au aJ;split at h
   ·rename_i c v aA;simp only [bR,az.bW,Option.some.injEq] at h;subst h;refine cK.pure zo bh λa w κ F W be hc=>?_;have M:=JN (cU W x rfl be.1) au;have aa:=JN (cU W y rfl be.2) aJ;obtain ⟨r,b4,ct⟩:=aaw (P:=C.P) (H:=s.ag) (κ:=κ) (F:=F) (w:=w) (t:=ty) aA hc;exact ⟨r,nC a w r (by simp [M.1,aa.1,aas,b4]),ct⟩
   ·cases h
  ·rename_i QP;simp only [bR,az.fR,Option.bind_eq_some_iff,az.bW,Option.some.injEq] at h;obtain ⟨⟨c,v⟩,aA,rfl⟩:=h;refine cK.pure zo bh λa w κ F W be hc=>?_;obtain ⟨r,b4,ct⟩:=aaH (x:=x) (y:=y) a2 W aA (cU W x rfl be.1) (cU W y rfl be.2)
    (λ⟨aK,bq⟩=>by
     obtain ⟨⟨k,m⟩,aK⟩:=Option.isSome_iff_exists.1 aK;obtain ⟨⟨k',dI⟩,bq⟩:=Option.isSome_iff_exists.1 bq;grind)
    (λ⟨aK,bq⟩=>by
     obtain ⟨m,aK⟩:=Option.isSome_iff_exists.1 aK;obtain ⟨dI,bq⟩:=Option.isSome_iff_exists.1 bq;grind)
   grind
theorem zp {w:World} {b:Nat} {cs:Array Value} {T:TypeId} {fV:Nat×Nat} (h:w.heap[b]?=some (.cells cs T fV)) (off:Nat):w.cell? ⟨b,off,none⟩=cs[off]?:=by
 simp [World.cell?,h]
theorem aaJ {P:Program} {w:World} {t:ai} {id:TypeId} (h:ca P t id) (aw:t.isAgg=false) {p:Addr} {v:Value} (aj:w.cell? p=some v):(loadVar id p).run P w=.ok v w:=by
 simp [loadVar,zl h,aw,aj]
theorem QQ (a2:eO C.P T) {ty:TypeId} {eD v:aP} {u:Value} {a:Act} {w:World} {κ:Nat->bD} {F:Nat->Prop} (W:bl C s a w κ F) (h:(ze (T ty) eD).run s.ag=some v) (au:bw C.P s.ag κ F w eD u) :
  ∃ r,(Instr.loadAt ty u).run C.P w=.ok r w/\bw C.P s.ag κ F w v r:=by
 generalize qm:T ty=t at *
 cases eD with
 | fb cT d=>
  simp only [ze,az.bW] at h;split at h
  ·rename_i hc;obtain ⟨rfl,hc⟩:=hc;simp only [Option.some.injEq] at h;subst h;obtain ⟨p,bn,rfl,aa,an⟩:=au;have d':=a2.cb qm (by intro e;subst e;cases hc);obtain ⟨r,b4,ct⟩:=JL d' aa.JJ an;exact ⟨r,by simp [Instr.loadAt,Instr.sureAddr,b4],ct⟩
  grind
 | aV b g off=>
  simp only [ze,az.gr,az.bW] at h;split at h
  ·rename_i aL;split at h
   ·rename_i t0 f b9;have aj:=au.2 aL.symm (by rw [b9];rfl);subst aj;have a6:=W.bI b;unfold cO at a6;rw [b9] at a6;obtain ⟨cs,fw,bH,b2,cw⟩:=a6;split at h
    ·rename_i aw;split at h
     ·rename_i QR;simp only [Option.some.injEq] at h;subst h;have d':=a2.cb qm (by intro e;subst e;cases aw);have aaK:t.isAgg=false:=by cases t<;>simp_all [ai.fE,ai.isAgg]
      refine ⟨cs.getD off Go.undef,?_,(cw off QR).1⟩;simp only [Instr.loadAt,Instr.sureAddr,Sem.run_bind,Sem.run_pure,Result.andThen_ok];refine aaJ d' aaK ?_;rw [zp bH];simp_all
     grind
    ·split at h
     ·rename_i QS;split at h
      ·rename_i QR;simp only [Option.some.injEq] at h;subst h;have d':=a2.cb qm (by intro e;subst e;cases QS);let aH:=(List.range t.size).map λj=>cs.getD (off+j) Go.undef;refine ⟨.agg aH.toArray,?_,aH,rfl,by grind,λi U=>?_⟩
       ·simp only [Instr.loadAt,Instr.sureAddr,Sem.run_bind,Sem.run_pure,Result.andThen_ok,loadVar,zl d',QS,if_true,d'.size];rw [run_loadCells w ⟨(κ b).ag,off,none⟩ t.size (λj=>cs.getD (off+j) Go.undef)]
        ·rfl
        ·intro j aC;rw [vu,zp bH];simp [Array.getD_eq_getD_getElem?,b2,show off+j<t0.size by omega]
       grind
      grind
     grind
   ·rename_i t0 y b9;have aj:=au.2 aL.symm (by rw [b9];rfl);subst aj;have a6:=W.bI b;unfold cO at a6;rw [b9] at a6;obtain ⟨bn,d1,d2⟩:=a6;split at h
    ·rename_i hc;simp only [Option.map_eq_some_iff] at h;obtain ⟨z,bm,rfl⟩:=h;obtain ⟨bH,b2,cw,rfl,db,dR⟩:=Qz t0 d2 bm;have d':=a2.cb qm (by intro e;subst e;cases hc);have du:la w ⟨(κ b).ag,off,none⟩ b2:=by
      refine ⟨λ_=>rfl,λj aC=>?_⟩;have:=d1.2.2 (bH.length+j) (by grind);simp_all
     obtain ⟨r,b4,ct⟩:=JL d' du dR;exact ⟨r,by simp [Instr.loadAt,Instr.sureAddr,b4],ct⟩
    grind
   grind
  grind
 | pq b g i off=>
  simp only [ze,az.gr,az.bW] at h;split at h
  ·rename_i aL;have fin:∀ (e:ai) (xs:List e.aq),(s.ag b).body.gC=true->(s.ag b).body.len=xs.length->(s.ag b).body.gq=e.size->
     (∀ (U:i<xs.length),(κ b).h0=false->∃ bn,la w ⟨(κ b).ag,(κ b).off+i*e.size,none⟩ bn/\bM C.P e F w bn xs[i])->
     (if t.fE||t.isAgg then (sg e (xs.getD i e.ee) off t).map (.val t) else none)=some v->∃ r,(Instr.loadAt ty u).run C.P w=.ok r w/\bw C.P s.ag κ F w v r:=by
    intro e xs bf hlen B3 ob aj;split at aj
    ·rename_i hc;simp only [Option.map_eq_some_iff] at aj;obtain ⟨z,bm,rfl⟩:=aj;obtain ⟨aS,aY,bK⟩:=au.2 aL.symm bf;subst bK;rw [hlen] at aS;obtain ⟨bn,d1,d2⟩:=ob aS aY;have JS:xs.getD i e.ee=xs[i]:=by grind
     rw [JS] at bm;obtain ⟨bH,b2,cw,rfl,db,dR⟩:=Qz e d2 bm;have d':=a2.cb qm (by intro e;subst e;cases hc);have du:la w ⟨(κ b).ag,(κ b).off+i*(s.ag b).body.gq+off,none⟩ b2:=by
      refine ⟨λ_=>rfl,λj aC=>?_⟩;have:=d1.2 (bH.length+j) (by grind);grind
     obtain ⟨r,b4,ct⟩:=JL d' du dR;exact ⟨r,by simp [Instr.loadAt,Instr.sureAddr,b4],ct⟩
    grind
   have a6:=W.bI b;unfold cO at a6;split at h
   ·rename_i e xs b9;rw [b9] at a6;refine fin e xs (by rw [b9];rfl) (by rw [b9];rfl) (by rw [b9];rfl) (λU aI=>?_) h;obtain ⟨cs,fw,bH,b2,cw,gi,hG⟩:=a6.2 aI;obtain ⟨bn,d1,d2⟩:=hG i U;exact ⟨bn,⟨λ_=>rfl,λj aC=>by rw [zp bH];grind⟩,d2⟩
   ·rename_i e xs b9;rw [b9] at a6;refine fin e xs (by rw [b9];rfl) (by rw [b9];rfl) (by rw [b9];rfl) (λU aI=>?_) h;simp only [k5,bM,bD.slice,aI,Bool.false_eq_true,if_false] at a6;obtain ⟨a',cap,aK,eb,eN,ij,g2⟩:=a6;simp only [List.cons.injEq,Value.slice.injEq,and_true] at aK;obtain ⟨rfl,_,rfl⟩:=aK;obtain ⟨dO,e6,lb⟩:=g2 _ rfl (by omega);obtain ⟨bn,d1,d2⟩:=lb i U;exact ⟨bn,d1.JJ,d2⟩
   grind
  grind
 | _=>cases h
end
end Go.Fer
namespace Go.Fer
open Go.RowKit
section
variable {C:cf} {T:Nat->ai} {bd:Nat->Option aU} {o:Oper} {s:aE} {res:fj}
theorem aaL (a2:eO C.P T) {ty:TypeId} {x:Operand} (bh:∀ i,o.dst=some i->i<C.nt) (al:o.op=.load ty x) (h:(bo C.aZ T bd (a_ C.aZ s.aD) o).run s.ag=some res):cK C o s res:=by
 simp only [bo,al,bR,az.fR,Option.bind_eq_some_iff,az.bW,Option.some.injEq] at h;obtain ⟨v,aj,rfl⟩:=h;refine cK.pure (by grind) bh λa w κ F W be _=>?_;obtain ⟨r,b4,ct⟩:=QQ a2 W aj (cU W x rfl be);exact ⟨r,by simp [execOp,al,b4],ct⟩
theorem ca.str {P:Program} {id:TypeId} (h:ca P .str id):P.underlying id=some .string:=by
 unfold ca at h;simp only [cx,Bool.and_eq_true] at h;grind
theorem ca.int {P:Program} {k:IntKind} {id:TypeId} (h:ca P (.int k) id):P.underlying id=some (.int k):=by
 unfold ca at h;simp only [cx,Bool.and_eq_true] at h;grind
theorem ca.bu {P:Program} {n:Nat} {e:ai} {id:TypeId} (h:ca P (.array n e) id):∃ i,P.underlying id=some (.array n i)/\ca P e i/\e.size≠0:=by
 unfold ca at h;simp only [cx,Bool.and_eq_true] at h;obtain ⟨_,h⟩:=h;split at h
 ·rename_i m i hu;simp only [Bool.and_eq_true,decide_eq_true_eq,bne_iff_ne,ne_eq] at h;obtain ⟨⟨rfl,aa⟩,an⟩:=h;exact ⟨i,hu,aa,an⟩
 grind
theorem aaM {gg:List (List Value)} {m:Nat} (h:∀ c∈gg,c.length=m) {i:Nat} (U:i<gg.length):∃ p q,gg.flatten=p++(gg[i]++q)/\p.length=i*m:=by
 refine ⟨(gg.take i).flatten,(gg.drop (i+1)).flatten,?_,?_⟩
 ·rw [<-List.flatten_cons,<-List.drop_eq_getElem_cons U,<-List.flatten_append,List.take_append_drop]
 ·have a8:(gg.take i).map List.length=List.replicate i m:=List.eq_replicate_iff.2 ⟨by grind,λx au=>by
   grind⟩
  simp_all
theorem QT {P:Program} {n:Nat} {e:ai} {F:Nat->Prop} {w:World} {cs:List Value} {xs:List e.aq} (h:bM P (.array n e) F w cs xs) {i:Nat} (U:i<n):∃ p c q,cs=p++(c++q)/\p.length=i*e.size/\bM P e F w c (xs.getD i e.ee):=by
 simp only [bM] at h;obtain ⟨gg,rfl,M,aa,an⟩:=h;obtain ⟨p,q,aS,aY⟩:=aaM (m:=e.size) (λc hc=>by
  obtain ⟨j,aC,rfl⟩:=List.mem_iff_getElem.1 hc;exact jj e (an j (by omega) aC)) (show i<gg.length by omega)
 grind
theorem aaN (a2:eO C.P T) {ty:TypeId} {x i:Operand} (bh:∀ i,o.dst=some i->i<C.nt) (al:o.op=.index ty x i) (h:(bo C.aZ T bd (a_ C.aZ s.aD) o).run s.ag=some res):cK C o s res:=by
 simp only [bo,al] at h;split at h
 ·rename_i l k n aR au U;simp only [bR,az.bW,Option.some.injEq] at h;subst h;refine cK.pure (by grind) bh λa w κ F W be hc=>?_;have M:=JN (cU W x rfl be.1) au;have aa:=nA (cU W i rfl be.2) U;have d':=(a2.cb aR (by simp)).str;have cq:n.toNat<l.length:=by omega
  refine ⟨.int .u8 ((l.getD n.toNat 0).toNat:Int),?_,hZ.2 ⟨rfl,?_⟩⟩
  ·have e:(⟨l.toArray⟩:ByteArray)[n.toNat]?=some (l.getD n.toNat 0):=by
    have aA:n.toNat<(⟨l.toArray⟩:ByteArray).size:=by simpa [ByteArray.size] using cq
    rw [getElem?_pos (⟨l.toArray⟩:ByteArray) n.toNat aA];simp only [Option.some.injEq];show (⟨l.toArray⟩:ByteArray).data[n.toNat]=_;grind
   simp [execOp,al,Instr.index,M.1,aa.1,asIntOf,dW d',hc.1,e]
  ·have:=(l.getD n.toNat 0).toNat_lt;constructor
   ·have:IntKind.u8.min=0:=by decide
    omega
   ·have:IntKind.u8.max=255:=by decide
    omega
 ·rename_i m e k n aR U;split at h
  ·rename_i dI a9 xs au;split at h
   ·rename_i he;obtain ⟨rfl,rfl⟩:=he;simp only [bR,az.bW,Option.some.injEq] at h;subst h;refine cK.pure (by grind) bh λa w κ F W be hc=>?_;have M:bw C.P s.ag κ F w (use (a_ C.aZ s.aD x)).2 (a.eval x):=cU W x rfl be.1;rw [au] at M;have aa:=nA (cU W i rfl be.2) U;obtain ⟨j,aC,rq,_⟩:=(a2.cb aR (by simp)).bu;obtain ⟨⟨cs,aj,tI⟩,oc⟩:=M;rw [aj] at oc;obtain ⟨p,c,q,aK,bq,cF⟩:=QT oc (i:=n.toNat) (by omega);obtain ⟨v,ek,ht⟩:=rp rq (cs:=cs) aK cF;refine ⟨v,?_,ht⟩;rw [bq] at ek;simp [execOp,al,Instr.index,aj,aa.1,asIntOf,dW aC,hc.1,hc.2,rq.size,ek]
   ·cases h
  ·rename_i k' f au;split at h
   ·rename_i ak;simp only [bR,az.bW,Option.some.injEq] at h;subst h;refine cK.pure (by grind) bh λa w κ F W be hc=>?_;have M:bw C.P s.ag κ F w (use (a_ C.aZ s.aD x)).2 (a.eval x):=cU W x rfl be.1;rw [au] at M;have aa:=nA (cU W i rfl be.2) U;obtain ⟨j,aC,rq,cH⟩:=(a2.cb aR (by simp)).bu;obtain ⟨aH,aj,aw,gv⟩:=M;have cq:n.toNat*e.size+e.size<=aH.length:=by
     rw [aw,ak];have:(n.toNat+1)*e.size<=m*e.size:=Nat.mul_le_mul_right _ (by omega);grind
    by_cases bf:e.isAgg=true
    ·simp only [if_pos bf];refine ⟨_,by simp [execOp,al,Instr.index,aj,aa.1,asIntOf,dW aC,hc.1,hc.2,rq.size,QJ rq bf];rfl,(aH.toArray.extract (n.toNat*e.size) (n.toNat*e.size+e.size)).toList,by simp,?_,λq bt=>?_⟩
     ·simp;omega
     ·have aaO:(aH.toArray.extract (n.toNat*e.size) (n.toNat*e.size+e.size)).toList.getD q Go.undef=aH.getD (n.toNat*e.size+q) Go.undef:=by
       simp [List.getD_eq_getElem?_getD,bt]
      rw [aaO];exact gv _ (by omega)
    ·simp only [if_neg bf];have a8:=gv (n.toNat*e.size) (by omega);refine ⟨aH.getD (n.toNat*e.size) Go.undef,?_,a8.1⟩;have aL:aH.toArray[n.toNat*e.size]?=some (aH.getD (n.toNat*e.size) Go.undef):=by
      grind
     simp [execOp,al,Instr.index,aj,aa.1,asIntOf,dW aC,hc.1,hc.2,rq.size,QI rq (by grind) aL]
   ·cases h
  ·cases h
 ·cases h
theorem aaP (a2:eO C.P T) {aaQ aaR:TypeId} {x:Operand} (bh:∀ i,o.dst=some i->i<C.nt) (al:o.op=.convert aaQ aaR x) (h:(bo C.aZ T bd (a_ C.aZ s.aD) o).run s.ag=some res):cK C o s res:=by
 simp only [bo,al] at h;split at h
 ·rename_i aS k aY n t1 hx au;simp only [bR,az.bW,Option.some.injEq] at h;subst h;refine cK.pure (by grind) bh λa w κ F W be _=>?_;have M:=nA (cU W x rfl be) au;have aK:=(a2.cb t1 (by simp)).int;have bq:=(a2.cb hx (by simp)).int;refine ⟨.int k (k.wrap n),?_,hZ.2 ⟨rfl,rn _ _⟩⟩;simp [execOp,al,convert,dW aK,dW bq,M.1,Conv.intToInt]
 ·cases h
theorem sq:∀ {l:List aP},k_ l->∀ i,i<l.length->(use (l.getD i .undef)).1
 | [],_,i,U=>by grind
 | a::l,h,0,_=>by
  cases a<;>first | trivial | exact h.1
 | a::l,h,i+1,U=>by
  have dx:k_ l:=by cases a<;>first | exact h | exact h.2
  have:=sq dx i (by grind);grind
theorem aaS {k:bD} {n:Nat} (h:k.h0=true->n=0):∃ a cap,k.slice n=.slice a n cap:=by
 unfold bD.slice;split
 ·rename_i aI;rw [h aI];exact ⟨none,0,rfl⟩
 ·exact ⟨_,_,rfl⟩
theorem zq {a:Act} {w:World} {κ:Nat->bD} {F:Nat->Prop} (W:bl C s a w κ F) {b:Nat} (bf:(s.ag b).body.gC=true):((κ b).h0=true->(s.ag b).body.len=0)/\(s.ag b).body.len<2 ^ 63:=by
 have a6:=W.bI b;unfold cO at a6;cases b9:(s.ag b).body with
 | bu e xs=>
  rw [b9] at a6;refine ⟨λaI=>by rw [a6.1 aI];rfl,?_⟩;simp only [b7.len];cases aI:(κ b).h0 with
  | true=>rw [a6.1 aI];simp
  | false=>obtain ⟨cs,fw,bH,b2,cw,gi,hG⟩:=a6.2 aI;omega
 | ig e xs=>
  rw [b9] at a6;simp only [k5,bM,bD.slice] at a6;obtain ⟨a',cap,aK,eb,eN,ij,g2⟩:=a6;simp only [b7.len];grind
 | _=>rw [b9] at bf;cases bf
theorem JT {a:Act} {w:World} {κ:Nat->bD} {F:Nat->Prop} (W:bl C s a w κ F) {b:Nat} (bf:(s.ag b).body.gC=true) (aI:(κ b).h0=false):(s.ag b).body.len<=(κ b).cap:=by
 have a6:=W.bI b;unfold cO at a6;cases b9:(s.ag b).body with
 | bu e xs=>
  rw [b9] at a6;obtain ⟨cs,fw,bH,b2,cw,gi,hG⟩:=a6.2 aI;exact cw
 | ig e xs=>
  rw [b9] at a6;simp only [k5,bM,bD.slice,aI,Bool.false_eq_true,if_false] at a6;obtain ⟨a',cap,aK,eb,eN,ij,g2⟩:=a6;simp only [List.cons.injEq,Value.slice.injEq,and_true] at aK;simp only [b7.len];omega
 | _=>rw [b9] at bf;cases bf
theorem aaT {a:Act} {w:World} {κ:Nat->bD} {F:Nat->Prop} (W:bl C s a w κ F) {b a4 U:Nat} (bf:(s.ag b).body.gC=true) {v:Value} (M:a4<=U) (aa:U<=(s.ag b).body.len) (aA:E1 (κ b) (s.ag b).body.gq a4 U v) :
  ∃ a cap,v=.slice a (U - a4) cap/\U - a4<2 ^ 63:=by
 have aI:=zq W bf;rcases aA with ⟨aS,rfl⟩ | ⟨aS,o,rfl,_⟩
 ·simp_all
 grind
theorem B4 {n:Nat} (h:n<2 ^ 63):ji .i64 (n:Int):=by
 unfold ji;have M:IntKind.i64.min=-9223372036854775808:=by decide
 have aa:IntKind.i64.max=9223372036854775807:=by decide
 omega
theorem ca.mp {P:Program} {k v:ai} {id:TypeId} (h:ca P (.map k v) id):∃ i j,P.underlying id=some (.map i j)/\ca P k i/\ca P v j:=by
 unfold ca at h;simp only [cx,Bool.and_eq_true] at h;obtain ⟨_,h⟩:=h;split at h
 ·rename_i i j U;simp only [Bool.and_eq_true] at h;exact ⟨i,j,U,h.1,h.2⟩
 grind
theorem aaU (a2:eO C.P T) {t:TypeId} {eD:aP} {c:Prop} {n:Int} {u:Value} {a:Act} {w:World} {κ:Nat->bD} {F:Nat->Prop} (W:bl C s a w κ F) (h:(E7 (T t) eD).run s.ag=some (c,n)) (hc:c) (au:bw C.P s.ag κ F w eD u) (ty:TypeId) :
  (Builtin.len_ #[t] ty #[u]).run C.P w=.ok (.int .i64 n) w/\ji .i64 n:=by
 have aso:∀ e a' m cap,T t=.slice e->u=.slice a' m cap->(m:Int)=n->m<2 ^ 63->(Builtin.len_ #[t] ty #[u]).run C.P w=.ok (.int .i64 n) w/\ji .i64 n:=by
  intro e a' m cap aR hu hm cq;obtain ⟨i,U,_⟩:=(a2.cb aR (by simp)).sl;subst hu;rw [<-hm];exact ⟨by simp [Builtin.len_,dW U,goInt],B4 cq⟩
 have QU:∀ k v r es clk m,T t=.map k v->u=.map (some r)->w.heap[r]?=some (.map es clk)->es.size=m->(m:Int)=n->bT m->(Builtin.len_ #[t] ty #[u]).run C.P w=.ok (.int .i64 n) w/\ji .i64 n:=by
  intro k v r es clk m aR hu hw pB hm cq;obtain ⟨i,j,U,_⟩:=(a2.cb aR (by simp)).mp;subst hu;rw [<-hm,<-pB];unfold bT at cq;refine ⟨?_,B4 (by omega)⟩;simp [Builtin.len_,dW U,goInt,getObj,Sem.run,hw]
 unfold E7 at h;split at h
 ·rename_i e aR;split at h
  ·rename_i a9 xs;simp only [az.bW,Option.some.injEq,Prod.mk.injEq] at h;obtain ⟨_,au⟩:=(fa rfl).1 au;obtain ⟨a',cap,aK,eb,eN,ij,g2⟩:=au;grind
  ·simp only [az.bW,Option.some.injEq,Prod.mk.injEq] at h;simp only [bw] at au;grind
  ·rename_i b g;simp only [az.gr,az.bW] at h;split at h
   ·rename_i bm;simp only [Bool.and_eq_true,decide_eq_true_eq] at bm;simp only [Option.some.injEq,Prod.mk.injEq] at h;have aj:=au.2 bm.1.symm bm.2;have aI:=zq W bm.2;obtain ⟨a',cap,he⟩:=aaS (k:=κ b) aI.1;grind
   grind
  ·rename_i b g a4 U;simp only [az.gr,az.bW] at h;split at h
   ·rename_i bm;simp only [Bool.and_eq_true,decide_eq_true_eq] at bm;simp only [Option.some.injEq,Prod.mk.injEq] at h;obtain ⟨⟨aS,aY⟩,bK⟩:=au.2 bm.1.symm bm.2;obtain ⟨a',cap,he,cq⟩:=aaT W bm.2 aS aY bK;grind
   grind
  ·cases h
 ·rename_i aR;split at h
  ·rename_i xs;simp only [az.bW,Option.some.injEq,Prod.mk.injEq] at h;obtain ⟨rfl,cq⟩:=qf.1 au;have d':=(a2.cb aR (by simp)).str;rw [<-h.2];have aA:ByteArray.size ⟨xs.toArray⟩=xs.length:=by rfl
   exact ⟨by simp [Builtin.len_,dW d',goInt,aA],B4 (by omega)⟩
  ·cases h
 ·rename_i k v aR;split at h
  ·rename_i k' iL xs;simp only [az.bW,Option.some.injEq,Prod.mk.injEq] at h;obtain ⟨rfl,h⟩:=h;obtain ⟨_,au⟩:=(fa rfl).1 au;rcases au with ⟨aK,rfl⟩ | ⟨r,es,clk,aK,eb,eN,ij,_⟩
   ·obtain rfl:=(List.cons.inj aK).1;obtain ⟨i,j,U,_⟩:=(a2.cb aR (by simp)).mp;rw [<-h];exact ⟨by simp [Builtin.len_,dW U,goInt],B4 (by simp)⟩
   grind
  ·rename_i b g;simp only [az.gr,az.bW] at h;split at h
   ·rename_i aL;split at h
    ·rename_i k' iL es b9;simp only [Option.some.injEq,Prod.mk.injEq] at h;obtain ⟨rfl,h⟩:=h;have a6:=W.bI b;unfold cO at a6;rw [b9] at a6;obtain ⟨ms,clk,db,dR⟩:=a6;exact QU k v _ ms clk es.length aR (au.2 aL.symm (by rw [b9];rfl)) db dR.1 h hc
    ·rename_i k' iL es b9;simp only [Option.some.injEq,Prod.mk.injEq] at h;obtain ⟨rfl,h⟩:=h;have a6:=W.bI b;unfold cO at a6;rw [b9] at a6;rcases a6 with ⟨aK,_⟩ | ⟨r,ms,clk,aK,B5,db,dR,_⟩
     ·cases aK
     ·simp only [List.cons.injEq,Value.map.injEq,Option.some.injEq,and_true] at aK;subst aK;exact QU k v _ ms clk es.length aR (au.2 aL.symm (by rw [b9];rfl)) db dR h hc
    grind
   grind
  ·cases h
 ·cases h
theorem vw {b:Builtin} {args:Array Operand} {dN:Array TypeId} {a:Act} {w w':World} {v:Value} (al:o.op=.call { callee:=.builtin b,args:=args,argTypes:=dN })
  (h:(builtin b dN o.type (args.map fun | .const _=>true | _=>false) (args.map a.eval)).run C.P w=.ok (.value v) w'):(execOp a.eval o).run C.P w=.ok (.value v) w':=by
 simp only [execOp,al,Sem.run_bind,resolve,Sem.run_pure,Result.andThen_ok,invoke];exact h
theorem aaV (a2:eO C.P T) {args:Array Operand} {dN:Array TypeId} (bh:∀ i,o.dst=some i->i<C.nt) (al:o.op=.call { callee:=.builtin .len,args:=args,argTypes:=dN }) (h:(bo C.aZ T bd (a_ C.aZ s.aD) o).run s.ag=some res):cK C o s res:=by
 obtain ⟨args⟩:=args;obtain ⟨dN⟩:=dN;simp only [bo,al,ny,BT] at h;split at h
 ·rename_i x t;simp only [bR,az.fR,Option.bind_eq_some_iff,az.bW,Option.some.injEq] at h;obtain ⟨⟨c,n⟩,aI,rfl⟩:=h;refine cK.pure (by grind) bh λa w κ F W be hc=>?_;obtain ⟨M,aa⟩:=aaU a2 W aI hc (cU W x rfl be) o.type;refine ⟨_,vw al ?_,hZ.2 ⟨rfl,aa⟩⟩;simp [builtin,M]
 ·cases h
theorem aaW (a2:eO C.P T) {args:Array Operand} {dN:Array TypeId} (bh:∀ i,o.dst=some i->i<C.nt) (al:o.op=.call { callee:=.builtin .cap,args:=args,argTypes:=dN }) (h:(BV T (a_ C.aZ s.aD) args.toList dN.toList).run s.ag=some res):cK C o s res:=by
 obtain ⟨args⟩:=args;obtain ⟨dN⟩:=dN;simp only [BV] at h;split at h
 ·rename_i x t;split at h
  ·rename_i e c4 aR hu;simp only [bR,az.bW,Option.some.injEq] at h;subst h;refine cK.pure (by grind) bh λa w κ F W be hc=>?_;have aj:a.eval x=.slice none 0 0:=cU W x hu be;obtain ⟨i,U,_⟩:=(a2.cb aR (by simp)).sl;refine ⟨.int .i64 0,vw al ?_,hZ.2 ⟨rfl,by decide⟩⟩;simp [builtin,Builtin.cap_,aj,dW U,goInt]
  ·cases h
 ·cases h
theorem QV {b:Builtin} {f:Int->Int->Int} (af:(b=.min/\f=λa b=>if b<a then b else a)\/(b=.max/\f=λa b=>if b > a then b else a)) {args:Array Operand} {dN:Array TypeId} (bh:∀ i,o.dst=some i->i<C.nt)
  (al:o.op=.call { callee:=.builtin b,args:=args,argTypes:=dN }) (h:(sj (a_ C.aZ s.aD) f args.toList).run s.ag=some res):cK C o s res:=by
 obtain ⟨args⟩:=args;simp only [sj] at h;split at h
 ·rename_i x y;split at h
  ·rename_i k m k' n au aJ;split at h
   ·rename_i ak;subst ak;simp only [bR,az.bW,Option.some.injEq] at h;subst h;refine cK.pure (by grind) bh λa w κ F W be hc=>?_;have M:=nA (cU W x rfl be.1) au;have aa:=nA (cU W y rfl be.2) aJ;refine ⟨.int k (f m n),vw al ?_,hZ.2 ⟨rfl,?_⟩⟩
    ·rcases af with ⟨rfl,rfl⟩ | ⟨rfl,rfl⟩
     ·simp [builtin,Builtin.min_,M.1,aa.1,Builtin.min2]
     ·simp [builtin,Builtin.max_,M.1,aa.1,Builtin.max2]
    grind
   ·cases h
  ·cases h
 ·rename_i x y z;split at h
  ·rename_i k m k' n QG q au aJ bm;split at h
   ·rename_i ak;obtain ⟨rfl,rfl⟩:=ak;simp only [bR,az.bW,Option.some.injEq] at h;subst h;refine cK.pure (by grind) bh λa w κ F W be hc=>?_;have M:=nA (cU W x rfl be.1) au;have aa:=nA (cU W y rfl be.2.1) aJ;have an:=nA (cU W z rfl be.2.2) bm;refine ⟨.int k (f (f m n) q),vw al ?_,hZ.2 ⟨rfl,?_⟩⟩
    ·rcases af with ⟨rfl,rfl⟩ | ⟨rfl,rfl⟩
     ·simp [builtin,Builtin.min_,M.1,aa.1,an.1,Builtin.min2]
     ·simp [builtin,Builtin.max_,M.1,aa.1,an.1,Builtin.max2]
    grind
   ·cases h
  ·cases h
 ·cases h
end
end Go.Fer
namespace Go.Fer
open Go.RowKit
def fV (H:Nat->bS) (x:bS):bS:=match x.body with
 | .bu e xs=>⟨x.gen,.ig e xs⟩
 | .mp k v es=>⟨x.gen,.jH k v es⟩
 | .cells t f=>match (iZ t ((List.range t.size).map f)).run H with
  | some (y,_,[])=>⟨x.gen,.hf t y⟩
  | _=>x
 | _=>x
def aE.cL (s:aE) (l:List Nat):aE:=⟨s.aD,λi=>if i∈l then fV s.ag (s.ag i) else s.ag i⟩
theorem QW (H:Nat->bS):∀ (l:List Nat) (s:aE),(∀ i∈l,s.ag i=H i\/s.ag i=fV H (H i))->s.gV ((kL l).run H)=⟨s.aD,λi=>if i∈l then fV H (H i) else s.ag i⟩
 | [],s,_=>by
  rfl
 | b::l,s,h=>by
  simp only [kL,az.gr,az.run_bind];have key:∀ (s':aE),s'.aD=s.aD->s'.ag b=fV H (H b)->(∀ i,i≠b->s'.ag i=s.ag i)->s'.gV ((kL l).run H)=⟨s.aD,λi=>if i∈b::l then fV H (H i) else s.ag i⟩:=by
   intro s' aK bq cF;rw [QW H l s']
   ·rw [aK];congr 1;funext i;by_cases U:i=b
    ·subst U;simp only [bq,List.mem_cons,true_or,if_true];split<;>rfl
    ·rw [cF i U];simp [U]
   ·intro i U;by_cases gD:i=b
    ·subst gD;exact .inr bq
    ·rw [cF i gD];exact h i (by simp [U])
  have ik:fV H (H b)=H b->s.gV ((kL l).run H)=⟨s.aD,λi=>if i∈b::l then fV H (H i) else s.ag i⟩:=λe=>
   key s rfl (by grind) λ_ _=>rfl
  have put:∀ x,fV H (H b)=x->s.gV ((b,x)::(kL l).run H)=⟨s.aD,λi=>if i∈b::l then fV H (H i) else s.ag i⟩:=λx e=>by
   simp only [aE.gV];exact key _ rfl (by simp [aE.cy,e]) λi U=>by simp [aE.cy,U]
  cases af:(H b).body with
  | bu e xs=>exact put _ (by simp [fV,af])
  | mp k v es=>exact put _ (by simp [fV,af])
  | cells t f=>
   simp only [az.run_bind,az.bW];cases aL:(iZ t ((List.range t.size).map f)).run H with
   | none=>exact ik (by simp [fV,af,aL])
   | some z=>
    obtain ⟨y,m,r⟩:=z;cases r with
    | nil=>exact put _ (by simp [fV,af,aL])
    | cons c r=>exact ik (by simp [fV,af,aL])
  | _=>exact ik (by simp [fV,af])
theorem vx (s:aE) (l:List Nat):s.gV ((kL l).run s.ag)=s.cL l:=by
 rw [QW s.ag l s λi _=>.inl rfl];rfl
theorem Fh:∀ (l:List (Nat×bS)) (s:aE) (p:Nat×bS),s.gV (l++[p])=(s.gV l).cy p.1 p.2
 | [],_,_=>rfl
 | q::l,s,p=>by simp only [List.cons_append,aE.gV];exact Fh l _ p
def hy (H:Nat->bS) (l:List Nat):Prop:=∀ b∈l,(H b).body.my=false/\∀ t f,(H b).body=.cells t f->∃ y m,(iZ t ((List.range t.size).map f)).run H=some (y,m,[])/\∀ c∈m,c∈l
theorem hy.nil (H:Nat->bS):hy H []:=λb af=>by cases af
theorem hy.append {H:Nat->bS} {l m:List Nat} (h:hy H l) (k:hy H m):hy H (l++m):=by
 intro b af;rcases List.mem_append.1 af with af | af
 ·obtain ⟨M,aa⟩:=h b af;grind
 ·obtain ⟨M,aa⟩:=k b af;grind
theorem hy.one {H:Nat->bS} {b:Nat} (M:(H b).body.my=false) (aa:(H b).body.gB=false):hy H [b]:=by
 intro c hc;obtain rfl:=List.mem_singleton.1 hc;exact ⟨M,λt f e=>by rw [e] at aa;cases aa⟩
theorem tJ {H:Nat->bS} {t:ai} {av:aP} {x:t.aq} {l:List Nat} (h:(eW t av).run H=some (x,l)):hy H l:=by
 cases av with
 | val cT y=>
  simp only [eW,az.bW,Option.map_eq_some_iff,Prod.mk.injEq] at h;obtain ⟨z,bm,rfl,rfl⟩:=h;exact .nil H
 | cr=>
  cases t<;>simp only [eW,az.none,az.bW,reduceCtorEq,Option.some.injEq,Prod.mk.injEq] at h;obtain ⟨rfl,rfl⟩:=h;exact .nil H
 | kj u=>
  simp only [eW,az.bW,Option.map_eq_some_iff,Prod.mk.injEq] at h;obtain ⟨z,bm,rfl,rfl⟩:=h;exact .nil H
 | fb cT y=>
  cases t<;>simp only [eW,az.none,az.bW,reduceCtorEq,Option.map_eq_some_iff,Prod.mk.injEq] at h;obtain ⟨z,bm,rfl,rfl⟩:=h;exact .nil H
 | ad b g=>
  cases t<;>simp only [eW,az.none,az.bW,az.gr,reduceCtorEq] at h;split at h
  ·split at h
   ·rename_i af;simp only [Option.map_eq_some_iff,Prod.mk.injEq] at h;obtain ⟨z,bm,rfl,rfl⟩:=h;exact .one (by rw [af];rfl) (by rw [af];rfl)
   ·simp only [Option.map_eq_some_iff,Prod.mk.injEq] at h;obtain ⟨z,bm,rfl,rfl⟩:=h;exact .nil H
   grind
  grind
 | sub b g a4 U=>
  cases t<;>simp only [eW,az.none,az.bW,az.gr,reduceCtorEq] at h;split at h
  ·split at h
   ·rename_i af;simp only [Option.map_eq_some_iff,Prod.mk.injEq] at h;obtain ⟨z,bm,rfl,rfl⟩:=h;exact .one (by rw [af];rfl) (by rw [af];rfl)
   ·simp only [Option.map_eq_some_iff,Prod.mk.injEq] at h;obtain ⟨z,bm,rfl,rfl⟩:=h;exact .nil H
   grind
  grind
 | dQ b g=>
  cases t<;>simp only [eW,az.none,az.bW,az.gr,reduceCtorEq] at h;split at h
  ·split at h
   ·rename_i af;simp only [Option.map_eq_some_iff,Prod.mk.injEq] at h;obtain ⟨z,bm,rfl,rfl⟩:=h;exact .one (by rw [af];rfl) (by rw [af];rfl)
   ·simp only [Option.map_eq_some_iff,Prod.mk.injEq] at h;obtain ⟨z,bm,rfl,rfl⟩:=h;exact .nil H
   grind
  grind
 | _=>cases h
theorem QX {H:Nat->bS} {e:ai} (pw:∀ {cs:List aP} {x:e.aq} {l:List Nat} {r:List aP},(iZ e cs).run H=some (x,l,r)->hy H l) {av:aP} {x:Option e.aq} {l:List Nat}
  (h:(tE e (iZ e) av).run H=some (x,l)):hy H l:=by
 have bZ:(eW (.bQ e) av).run H=some (x,l)->hy H l:=tJ (t:=.bQ e);cases av with
 | aV b g off=>
  simp only [tE,az.gr] at h;split at h
  ·split at h
   ·simp only [az.bW,Option.map_eq_some_iff,Prod.mk.injEq] at h;obtain ⟨z,bm,rfl,rfl⟩:=h;exact .nil H
   ·rename_i t f af;split at h
    ·rename_i aR;subst aR;simp only [az.fR,Option.bind_eq_some_iff,az.bW] at h;obtain ⟨⟨y,m,q⟩,M,aa⟩:=h;split at aa
     ·rename_i bt;simp only [Option.some.injEq,Prod.mk.injEq] at aa;obtain ⟨rfl,rfl⟩:=aa;have bt:q=[]:=List.isEmpty_iff.1 bt;subst bt;intro c hc;rcases List.mem_cons.1 hc with rfl | hc
      ·refine ⟨by rw [af];rfl,λcT g3 e=>?_⟩;grind
      ·obtain ⟨aS,aY⟩:=pw M c hc;grind
     grind
    ·cases h
   ·cases h
  ·cases h
 | _=>exact bZ h
theorem QY {H:Nat->bS}:∀ (t:ai) {cs:List aP} {x:t.aq} {l:List Nat} {r:List aP},(iZ t cs).run H=some (x,l,r)->hy H l:=by
 have rj:∀ (t:ai) (g:aP->az (Option (t.aq×List Nat))),(∀ {av:aP} {x:t.aq} {l:List Nat},(g av).run H=some (x,l)->hy H l)->
   ∀ {cs:List aP} {x:t.aq} {l:List Nat} {r:List aP},(match cs with | c::r=>(g c).map λo=>o.map λ(x,l)=>(x,l,r) | []=>.none:az (Option (t.aq×List Nat×List aP))).run H=some (x,l,r)->hy H l:=by
  intro t g aL cs x l r h;cases cs with
  | nil=>cases h
  | cons c cs=>
   simp only [az.map,az.run_bind,az.bW,Option.map_eq_some_iff,Prod.mk.injEq] at h;grind
 intro t;induction t with
 | bool=>intro cs x l r h;exact rj .bool (eW .bool) tJ h
 | int k=>intro cs x l r h;exact rj (.int k) (eW (.int k)) tJ h
 | str=>intro cs x l r h;exact rj .str (eW .str) tJ h
 | da=>
  intro cs x l r h;simp only [iZ,az.bW,Option.some.injEq,Prod.mk.injEq] at h;obtain ⟨_,rfl,rfl⟩:=h;exact .nil H
 | st t aO=>intro cs x l r h;exact aO h
 | aG a b gn fh=>
  intro cs x l r h;simp only [iZ,az.fR,Option.bind_eq_some_iff,az.bW,Option.some.injEq,Prod.mk.injEq] at h;obtain ⟨⟨y,m,q⟩,M,⟨z,dI,q'⟩,aa,rfl,rfl,rfl⟩:=h;exact (gn M).append (fh aa)
 | slice e aO=>intro cs x l r h;exact rj (.slice e) (eW (.slice e)) tJ h
 | array n e aO=>
  intro cs xs l r h;simp only [iZ] at h;have key:∀ (n:Nat) {cs:List aP} {xs:List e.aq} {l:List Nat} {r:List aP},(n.rec (motive:=λ_=>List aP->az (Option (List e.aq×List Nat×List aP))) (λcs=>.ret (some ([],[],cs)))
     (λ_ aO cs=>(iZ e cs).c7 λ(x,l,r)=>(aO r).c7 λ(xs,m,q)=>.ret (some (x::xs,l++m,q))) cs).run H=some (xs,l,r)->hy H l:=by
   intro n;induction n with
   | zero=>intro cs xs l r h;cases h;exact .nil H
   | succ n BQ=>
    intro cs xs l r h;simp only [az.fR,Option.bind_eq_some_iff,az.bW,Option.some.injEq,Prod.mk.injEq] at h;obtain ⟨⟨y,m,q⟩,M,⟨z,dI,q'⟩,aa,rfl,rfl,rfl⟩:=h;exact (aO M).append (BQ aa)
  grind
 | bQ e aO=>intro cs x l r h;exact rj (.bQ e) (tE e (iZ e)) (QX aO) h
 | map k v w1 w2=>intro cs x l r h;exact rj (.map k v) (eW (.map k v)) tJ h
 | fn a b gn fh=>intro cs x l r h;exact rj (.fn a b) (eW (.fn a b)) tJ h
 | cj a aO=>intro cs x l r h;exact rj (.cj a) (eW (.cj a)) tJ h
theorem od {H:Nat->bS} {t:ai} {av:aP} {x:t.aq} {l:List Nat} (h:(dV t av).run H=some (x,l)):hy H l:=by
 have bZ:(k7 t av).run H=some (x,l)->hy H l:=by
  intro h;unfold k7 at h;split at h
  ·exact QX (λh=>QY _ h) h
  ·split at h
   ·exact tJ h
   ·cases h
 cases av with
 | val cT y=>
  simp only [dV,az.bW,Option.map_eq_some_iff,Prod.mk.injEq] at h;obtain ⟨z,bm,rfl,rfl⟩:=h;exact .nil H
 | agg n f=>
  simp only [dV] at h;split at h
  ·cases h
  ·simp only [az.fR,Option.bind_eq_some_iff,az.bW] at h;obtain ⟨⟨y,m,q⟩,M,aa⟩:=h;split at aa
   ·simp only [Option.some.injEq,Prod.mk.injEq] at aa;obtain ⟨rfl,rfl⟩:=aa;exact QY t M
   grind
 | _=>exact bZ h
theorem zr (H:Nat->bS) (x:bS):fV H x=x\/(∃ e xs,x.body=.bu e xs/\fV H x=⟨x.gen,.ig e xs⟩)\/(∃ k v es,x.body=.mp k v es/\fV H x=⟨x.gen,.jH k v es⟩)\/
  ∃ t f y m,x.body=.cells t f/\(iZ t ((List.range t.size).map f)).run H=some (y,m,[])/\fV H x=⟨x.gen,.hf t y⟩:=by
 cases au:x.body with
 | bu e xs=>exact .inr (.inl ⟨e,xs,rfl,by simp [fV,au]⟩)
 | mp k v es=>exact .inr (.inr (.inl ⟨k,v,es,rfl,by simp [fV,au]⟩))
 | cells t f=>
  cases aL:(iZ t ((List.range t.size).map f)).run H with
  | none=>exact .inl (by simp [fV,au,aL])
  | some z=>
   obtain ⟨y,m,r⟩:=z;cases r with
   | nil=>exact .inr (.inr (.inr ⟨t,f,y,m,rfl,aL,by simp [fV,au,aL]⟩))
   | cons c r=>exact .inl (by simp [fV,au,aL])
 | _=>exact .inl (by simp [fV,au])
theorem aaX {H:Nat->bS} {x:bS} {k:bD} (h:(fV H x).body.cd k=true):(x.body.cd k=true/\fV H x=x):=by
 rcases zr H x with e | ⟨_,_,_,e⟩ | ⟨_,_,_,_,e⟩ | ⟨_,_,_,_,_,_,e⟩
 ·grind
 all_goals rw [e] at h;cases h
theorem QZ (s:aE) (l:List Nat) (κ:Nat->bD):gT s.ag κ (s.cL l).ag κ:=by
 rw [BJ];intro b;simp only [aE.cL];split
 ·rcases zr s.ag (s.ag b) with e | ⟨_,_,au,e⟩ | ⟨_,_,_,au,e⟩ | ⟨_,_,_,_,au,_,e⟩
  ·rw [e];exact sd.refl _ _
  ·rw [e];exact ⟨Nat.le_refl _,λ_=>⟨λh=>(by cases h),λ_=>⟨by rw [au];rfl,rfl,by rw [au];rfl,by rw [au];rfl⟩,λh=>(by cases h),λh=>(by cases h)⟩⟩
  ·rw [e];exact ⟨Nat.le_refl _,λ_=>⟨λh=>(by cases h),λh=>(by cases h),λ_=>⟨by rw [au];rfl,rfl⟩,λh=>(by cases h)⟩⟩
  ·rw [e];exact ⟨Nat.le_refl _,λ_=>⟨λ_=>⟨by rw [au];rfl,rfl⟩,λh=>(by cases h),λh=>(by cases h),λh=>(by cases h)⟩⟩
 ·exact sd.refl _ _
theorem bl.mH {C:cf} {a:Act} {w:World} {κ:Nat->bD} {l:List Nat} {s:aE} {F:Nat->Prop} (pC:hy s.ag l) (h:bl C s a w κ F) :
  ∃ F',(∀ r,F r->F' r)/\bl C (s.cL l) a w κ F'/\jJ s.ag κ F' l:=by
 let F':Nat->Prop:=λr=>F r\/∃ b∈l,(s.ag b).body.cd (κ b)=true/\(κ b).ag=r;have bB:∀ r,F r->F' r:=λr W=>.inl W;have tK:jJ s.ag κ F' l:=λb af al=>.inr ⟨b,af,al,rfl⟩;have JU:∀ b,((s.cL l).ag b).body.cd (κ b)=true->b ∉ l/\(s.ag b).body.cd (κ b)=true:=by
  intro b af;simp only [aE.cL] at af;by_cases h2:b∈l
  ·rw [if_pos h2] at af;obtain ⟨aS,aY⟩:=aaX af;exfalso;obtain ⟨bH,b2⟩:=pC b h2;cases au:(s.ag b).body with
   | bu e xs=>simp [fV,au,b7.cd] at af
   | mp k v es=>simp [fV,au,b7.cd] at af
   | cells t f=>
    obtain ⟨y,m,g,_⟩:=b2 t f au;simp [fV,au,g,b7.cd] at af
   | cj k v c r=>rw [au] at bH;cases bH
   | _=>rw [au] at aS;cases aS
  grind
 have aw:=QZ s l κ;refine ⟨F',bB,?_,tK⟩;refine h.move aw bB (λr W=>W.imp id λ⟨b,_,M,aa⟩=>.inl ⟨b,M,aa⟩) (Nat.le_refl _) (λ_ _ _=>rfl) (dA.refl _) (λ_ b=>?_) (λb af=>?_) (λb bg af dq e=>h.inj b bg (JU b af).2 (JU bg dq).2 e) (λr W=>?_) (λb _ af=>⟨rfl,?_⟩)
 ·show cO C.P (s.cL l).ag κ F' w b;by_cases h2:b∈l
  ·have a6:=h.bI b;have JV:(s.cL l).ag b=fV s.ag (s.ag b):=by simp [aE.cL,h2]
   have mA:fV s.ag (s.ag b)=s.ag b->cO C.P (s.cL l).ag κ F' w b:=λe=>cO.mA a6 aw bB (c6.refl _ _) (by grind) rfl λ_=>rfl;cases au:(s.ag b).body with
   | bu e xs=>
    unfold cO at a6 ⊢;rw [au] at a6;rw [JV];simp only [fV,au,k5];exact JA a6 bB λaI=>tK b h2 (by rw [au];simp [b7.cd,aI])
   | mp k v es=>
    unfold cO at a6 ⊢;rw [au] at a6;rw [JV];simp only [fV,au,k5];exact Qw a6 bB (tK b h2 (by rw [au];rfl))
   | cells t f=>
    obtain ⟨y,m,g,hm⟩:=(pC b h2).2 t f au;unfold cO at a6 ⊢;rw [au] at a6;rw [JV];simp only [fV,au,g,k5];obtain ⟨cs,T,aS,aY,bK⟩:=a6;have iy:e5 C.P s.ag κ F w ((List.range t.size).map f) cs.toList:=BP (by omega) λi U=>by
     simp_all
    obtain ⟨c,d,JC,bH,b2⟩:=JD h.bI bB t g (λc hc=>tK c (hm c hc)) iy;cases d with
    | cons _ _=>exact b2.elim
    | nil=>
     rw [List.append_nil] at JC;refine ⟨c,⟨tK b h2 (by rw [au];rfl),rfl,λj aC=>?_⟩,bH⟩;have gU:j<cs.size:=by grind
     simp only [World.cell?,aS,Nat.zero_add,Option.isSome_none,Bool.false_eq_true,if_false,Array.getElem?_eq_getElem gU];grind
   | _=>exact mA (by simp [fV,au])
  ·exact cO.mA (h.bI b) aw bB (c6.refl _ _) (by simp [aE.cL,h2]) rfl λ_=>rfl
 ·obtain ⟨aS,aY⟩:=JU b af;have al:=h.ad b aY;refine ⟨al.1,λax=>?_,.inl ⟨b,aY,rfl⟩⟩;rcases ax with ax | ⟨b0,eb,eN,ij⟩
  ·grind
  ·exact aS (h.inj b b0 aY eN ij.symm ▸ eb)
 ·rcases W with W | ⟨b,_,af,rfl⟩
  ·exact h.dM r W
  ·exact (h.ad b af).1
 ·split at af
  ·rcases zr s.ag (s.ag b) with e | ⟨_,_,au,e⟩ | ⟨_,_,_,au,e⟩ | ⟨_,_,_,_,au,_,e⟩
   ·grind
   ·rw [e] at af;simp [b7.gB,b7.hE] at af
   ·rw [au];exact .inr rfl
   ·rw [au];exact .inl rfl
  omega
end Go.Fer
namespace Go.Fer
open Go.RowKit
section
variable {C:cf} {T:Nat->ai} {bd:Nat->Option aU} {o:Oper} {s:aE} {res:fj}
theorem bl.mI {a:Act} {w:World} {κ:Nat->bD} {F:Nat->Prop} (h:bl C s a w κ F) {b:Nat} (af:b<C.nt):b<fP:=Nat.lt_of_lt_of_le af h.hF
theorem bl.newVar {a:Act} {w:World} {κ:Nat->bD} {F:Nat->Prop} (h:bl C s a w κ F) {b:Nat} (E2:b<fP) {t:ai} {l:List aP} {cs:List Value} {ty:TypeId} (aw:e5 C.P s.ag κ F w l cs) (aR:l.length=t.size) :
  ∃ κ',bl C (s.cy b ⟨(s.ag b).gen+1,.cells t (hN l)⟩) a (w.alloc (.cells cs.toArray ty)) κ' F/\(κ' b).ag=w.heap.size:=by
 refine ⟨_,h.alloc (k:=⟨w.heap.size,0,0,false⟩) E2 (Nat.lt_succ_self _) rfl λH κ' tL BM cq=>?_,by simp⟩;refine ⟨cs.toArray,ty,ri _ _,by simp [<-aw.len,aR],λi U=>?_⟩;have:=aw.lE i (by omega);have e:cs.toArray.getD i Go.undef=cs.getD i Go.undef:=by simp
 rw [e];exact ⟨bw.nw cq (λ_ W=>W) (c6.alloc h.dM _) this.1,this.2⟩
theorem JW (t:ai) {P:Program} {z:Value} (h:k8 t z.cells.toList=some []):(sf t).length=t.size/\z.cells.size=t.size:=by
 obtain ⟨c,e,M,aa⟩:=w8 (P:=P) (H:=λ_=>⟨0,.gK⟩) (κ:=λ_=>⟨0,0,0,true⟩) (F:=λ_=>True) (w:=default) t h;rw [List.append_nil] at e;have:=jj t M;have:=aa.len;grind
theorem aaY (a2:eO C.P T) {ty:TypeId} (bh:∀ i,o.dst=some i->i<C.nt) (al:o.op=.alloc ty) (h:(bo C.aZ T bd (a_ C.aZ s.aD) o).run s.ag=some res) (qm:T ty≠.da):cK C o s res:=by
 simp only [bo,al] at h;obtain ⟨b,aN,ak⟩:=sn h;simp only [if_neg qm,Option.some.injEq] at ak;subst ak;intro a w κ F Q W _ _;have d':=a2.cb rfl qm;obtain ⟨i,z,M,aa,an,a8,bV,d_⟩:=mE d'.mD;obtain ⟨c,e,lH,jL⟩:=w8 (P:=C.P) (H:=s.ag) (κ:=κ) (F:=F) (w:=w) (T ty) bV;rw [List.append_nil] at e;have bm:=JW (T ty) (P:=C.P) bV;obtain ⟨κ',b4,ct⟩:=W.newVar (b:=b) (W.mI (bh b aN)) (t:=T ty) (ty:=ty) jL bm.1;have dj:(execOp a.eval o).run C.P w=.ok (.value (.pointer (some ⟨w.heap.size,0,none⟩))) (w.alloc (.cells c.toArray ty)):=by
  have zt:z.cells=c.toArray:=by grind
  simp [execOp,al,Instr.alloc,sm M a8,newVar,newRow,zt]
 refine h1 (by grind) dj ⟨κ',F,bl.set (s:=s.cy b _) b4 bh ⟨⟨?_,rfl⟩,λ_ _=>?_⟩⟩
 ·simp [aE.cy]
 grind
theorem JX {P:Program} {H:Nat->bS} {κ:Nat->bD} {F:Nat->Prop} {w:World} {t:ai} {av:aP} {v:Value} {l:List aP} (h:cellsOf t av=some l) (aj:bw P H κ F w av v):e5 P H κ F w l v.cells.toList:=by
 unfold cellsOf at h;split at h
 ·rename_i cT x;split at h
  ·rename_i he;subst he;simp only [Option.some.injEq] at h;subst h;obtain ⟨⟨cs,rfl,_⟩,hc⟩:=aj;simp only [bM] at hc;exact za _ hc
  grind
 ·rename_i n f;split at h
  ·simp only [Option.some.injEq] at h;subst h;obtain ⟨aH,rfl,M,aa⟩:=aj;exact BP M aa
  grind
 ·rename_i n e j4 a9 x;split at h
  ·simp only [Option.some.injEq] at h;subst h;obtain ⟨⟨cs,rfl,_⟩,hc⟩:=aj;exact za _ hc
  grind
 ·rename_i n e m f;split at h
  ·simp only [Option.some.injEq] at h;subst h;obtain ⟨aH,rfl,M,aa⟩:=aj;exact BP M aa
  grind
 ·split at h
  ·have one:v.oneCell'=true->l=[av]->e5 P H κ F w l v.cells.toList:=by
    intro M aa;subst aa;rw [Jw M];exact ⟨⟨aj,M⟩,trivial⟩
   split at h
   ·rename_i cT x;split at h
    ·rename_i vv;obtain ⟨aS,aY⟩:=(fa vv).1 aj;exact one (Qq vv aY) (Option.some.inj h).symm
    grind
   ·exact one aj.1.2 (Option.some.inj h).symm
   ·exact one aj.1.2 (Option.some.inj h).symm
   ·exact one aj.1.2 (Option.some.inj h).symm
   ·refine one ?_ (Option.some.inj h).symm;obtain ⟨p,bn,rfl,_⟩:=aj;rfl
   ·exact one aj.1.2 (Option.some.inj h).symm
   ·refine one ?_ (Option.some.inj h).symm;obtain ⟨aH,rfl,_⟩:=aj;rfl
   ·refine one ?_ (Option.some.inj h).symm;simp only [bw] at aj;subst aj;rfl
   ·exact one aj.1.2 (Option.some.inj h).symm
   ·cases h
   ·cases h
   ·refine one ?_ (Option.some.inj h).symm;simp only [bw] at aj;subst aj;cases v<;>first | rfl | grind | grind | grind | grind
   grind
  grind
end
end Go.Fer
namespace Go.Fer
open Go.RowKit
theorem Fi:∀ (l:List Value) (k off:Nat) (cs:Array Value),off+k+l.length<=cs.size->
  ((l.zipIdx k).foldl (λ(cs:Array Value) (p:Value×Nat)=>cs.setIfInBounds (off+p.2) p.1) cs).toList=cs.toList.take (off+k)++(l++cs.toList.drop (off+k+l.length))
 | [],k,off,cs,h=>by simp
 | c::l,k,off,cs,h=>by
  simp only [List.zipIdx_cons,List.foldl_cons];have cH:(cs.setIfInBounds (off+k) c).size=cs.size:=by simp
  rw [Fi l (k+1) off _ (by grind)];simp only [Array.toList_setIfInBounds,List.length_cons] at h ⊢;have cq:off+k<cs.toList.length:=by grind
  rw [show off+(k+1)=(off+k)+1 from by omega];rw [List.take_set,List.drop_set];rw [if_pos (by omega)];have M:(cs.toList.take (off+k+1)).set (off+k) c=cs.toList.take (off+k)++[c]:=by
   rw [List.take_succ_eq_append_getElem cq,List.set_append_right _ _ (by grind)];have zu:min (off+k) cs.size=off+k:=Nat.min_eq_left (by omega);simp [zu]
  grind
section
variable {P:Program} {w:World}
theorem aaZ (w:World) (b off:Nat) (v:Value) {cs:Array Value} {T:TypeId} {fV:Nat×Nat} (h:w.heap[b]?=some (.cells cs T fV)) :
  (w.setCell ⟨b,off,none⟩ v).heap[b]?=some (.cells (cs.setIfInBounds off v) T fV):=by
 simp [World.setCell,Array.getElem?_modify,h]
theorem xb {b:Nat} {T:TypeId}:∀ (aH:List Value) (off i:Nat) (w:World) (cs:Array Value),w.heap[b]?=some (.cells cs T (0,0))->off+i+aH.length<=cs.size->(∀ v∈aH,v.oneCell'=true)->
  ∃ w' ef,(storeCells ⟨b,off,none⟩ aH i).run P w=.ok () w'/\w'.heap[b]?=some (.cells ef T (0,0))/\ef.toList=cs.toList.take (off+i)++(aH++cs.toList.drop (off+i+aH.length))/\
   (∀ r,r≠b->w'.heap[r]?=w.heap[r]?)/\w'.heap.size=w.heap.size/\dA w w'
 | [],off,i,w,cs,h,_,_=>⟨w,cs,by rfl,h,by simp,λ_ _=>rfl,rfl,dA.refl w⟩
 | v::aH,off,i,w,cs,h,aw,aj=>by
  have cq:off+i<cs.size:=by grind
  have hc:w.cell? ⟨b,off+i,none⟩=some cs[off+i]:=by rw [zp h];simp
  have ax:w.frozen? ⟨b,off+i,none⟩=false:=by simp [World.frozen?,h]
  have M:=aaZ w b (off+i) v h;obtain ⟨w',ef,b4,ct,fc,iM,l7,oe⟩:=xb aH off (i+1) (w.setCell ⟨b,off+i,none⟩ v) _ M (by grind) (λu hu=>aj u (by grind));refine ⟨w',ef,?_,ct,?_,?_,by simp_all,dA.trans (b:=w.setCell ⟨b,off+i,none⟩ v) ⟨rfl,rfl,rfl⟩ oe⟩
  ·simp only [storeCells,Sem.run_bind,vu,run_store P w _ v _ (aj v (by simp)),hc,ax,Bool.false_eq_true,if_false,Result.andThen_ok];exact b4
  ·rw [fc];have:=Fi [v] 0 (off+i) cs (by grind);simp only [List.zipIdx_cons,List.zipIdx_nil,List.foldl_cons,List.foldl_nil,Nat.add_zero,List.length_singleton] at this;rw [this];have aK:(cs.toList.take (off+i)).length=off+i:=by grind
   rw [List.take_append,List.drop_append,aK];simp only [show off+(i+1) - (off+i)=1 from by omega,show off+(i+1)+aH.length - (off+i)=aH.length+1 from by omega];have bq:List.take (off+(i+1)) (cs.toList.take (off+i))=cs.toList.take (off+i):=List.take_of_length_le (by omega);have cF:List.drop (off+(i+1)+aH.length) (cs.toList.take (off+i))=[]:=List.drop_of_length_le (by omega);rw [bq,cF];simp only [List.length_cons,List.nil_append,List.append_assoc,List.cons_append];simp only [List.take_succ_cons,List.take_zero,List.drop_succ_cons,List.drop_drop,List.cons_append,List.nil_append];grind
  ·intro r W;rw [iM r W];exact Below.heap_setCell _ _ _ _ (by omega)
end
section
variable {C:cf} {T:Nat->ai} {bd:Nat->Option aU} {o:Oper} {s:aE} {res:fj}
theorem aa0 {ty:TypeId} {x:Operand} (bh:∀ i,o.dst=some i->i<C.nt) (al:o.op=.box ty x) (h:(bo C.aZ T bd (a_ C.aZ s.aD) o).run s.ag=some res):cK C o s res:=by
 simp only [bo,al] at h;split at h
 ·rename_i l aw;obtain ⟨b,aN,ak⟩:=sn h;split at ak;case isFalse=>cases ak
  rename_i hlen;simp only [Option.some.injEq] at ak;subst ak;intro a w κ F Q W be _;have aj:=cU W x rfl be;obtain ⟨κ',b4,ct⟩:=W.newVar (b:=b) (W.mI (bh b aN)) (t:=T ty) (ty:=ty) (JX aw aj) hlen;have dj:(execOp a.eval o).run C.P w=.ok (.value (.pointer (some ⟨w.heap.size,0,none⟩))) (w.alloc (.cells (a.eval x).cells.toList.toArray ty)):=by
   simp [execOp,al,Instr.box,newVar,newRow]
  refine h1 (by grind) dj ⟨κ',F,bl.set (s:=s.cy b _) b4 bh ⟨⟨?_,rfl⟩,λ_ _=>?_⟩⟩
  ·simp [aE.cy]
  grind
 ·cases h
theorem aa1 {P:Program}:∀ (t:ai) {l:List Field} {off:Nat},cx P t (.inr (l,off))=true->∀ f∈l,∃ s,ca P s f.type:=by
 intro t;induction t with
 | aG a b gn fh=>
  intro l off h;match l,h with
  | [],h=>simp
  | [x],h=>simp only [cx,Bool.false_eq_true] at h
  | [x,y],h=>
   simp only [cx,Bool.and_eq_true] at h;intro f ax;simp only [List.mem_cons,List.not_mem_nil,or_false] at ax;rcases ax with rfl | rfl
   ·exact ⟨a,h.1.1.1.2⟩
   ·exact ⟨b,h.2.1.1.2⟩
  | x::y::z::l,h=>
   simp only [cx,Bool.and_eq_true] at h;intro f ax;rcases List.mem_cons.1 ax with rfl | ax
   ·exact ⟨a,h.1.1.1.2⟩
   grind
 | _=>intro l off h;simp only [cx,Bool.false_eq_true] at h
theorem ca.aa2 {P:Program} {t:ai} {id:TypeId} (h:ca P (.st t) id) {fr:Array Field} (j6:P.underlying id=some (.struct fr)):∀ f∈fr.toList,∃ s,ca P s f.type:=by
 obtain ⟨_,_,an,a8⟩:=h.BZ;rw [j6] at a8;simp only [Option.some.injEq,TypeDesc.struct.injEq] at a8;rw [<-a8] at an;rcases an with an | ⟨f,e,_,an,_⟩ | ⟨_,e⟩
 ·exact aa1 t an
 ·rw [e];intro g aL;simp only [List.mem_singleton] at aL;subst aL;exact ⟨t,an⟩
 ·rw [e];intro g aL;cases aL
theorem e5.replace {P:Program} {H:Nat->bS} {κ:Nat->bD} {F:Nat->Prop} {w:World} {as l:List aP} {us aH:List Value} (h:e5 P H κ F w as us) (k:e5 P H κ F w l aH) (off:Nat) :
  e5 P H κ F w (as.take off++(l++as.drop (off+l.length))) (us.take off++(aH++us.drop (off+aH.length))):=by
 have aa3:∀ {as:List aP} {us:List Value} (n:Nat),e5 P H κ F w as us->e5 P H κ F w (as.take n) (us.take n):=by
  intro as;induction as with
  | nil=>intro us n h;cases us<;>first | exact h.elim | grind
  | cons a as aO=>intro us n h;cases us with
   | nil=>exact h.elim
   | cons u us=>cases n with
    | zero=>trivial
    | succ n=>exact ⟨h.1,aO n h.2⟩
 have aa4:∀ {as:List aP} {us:List Value} (n:Nat),e5 P H κ F w as us->e5 P H κ F w (as.drop n) (us.drop n):=by
  intro as;induction as with
  | nil=>intro us n h;cases us<;>first | exact h.elim | grind
  | cons a as aO=>intro us n h;cases us with
   | nil=>exact h.elim
   | cons u us=>cases n with
    | zero=>exact h
    | succ n=>exact aO n h.2
 rw [<-k.len];exact (aa3 off h).append (k.append (aa4 _ h))
theorem Q0 {P:Program} {H:Nat->bS} {κ:Nat->bD} {F:Nat->Prop} {w:World} {t:ai} {id:TypeId} {fr:Array Field} (d':ca P (.st t) id) (j6:P.underlying id=some (.struct fr)) {qo:Nat->Option (Nat×Nat)}
  (pD:∀ i f s,fr[i]?=some f->ca P s f.type->qo i=some (f.offset,s.size)):∀ (ps:List (Nat×aP)) (qs:List (Nat×Value)) {as Fj:List aP} {cs:Array Value},e5 P H κ F w as cs.toList->E9 t as ps=some Fj->
  ps.length=qs.length->(∀ i (h:i<ps.length) (dx:i<qs.length),ps[i].1=qs[i].1/\bw P H κ F w ps[i].2 qs[i].2)->∃ ef,Instr.fill qo cs qs=some ef/\e5 P H κ F w Fj ef.toList
 | [],[],as,Fj,cs,bf,ax,_,_=>by cases ax;exact ⟨cs,rfl,bf⟩
 | (i,av)::ps,(B6,v)::qs,as,Fj,cs,bf,ax,hlen,gv=>by
  have aW:=gv 0 (by simp) (by simp);simp only [List.getElem_cons_zero] at aW;obtain ⟨rfl,aj⟩:=aW;simp only [E9] at ax;split at ax
  ·cases ax
  ·rename_i s off tM;split at ax
   ·cases ax
   ·rename_i l aw;split at ax
    ·rename_i hc;obtain ⟨asp,n',f1,f2,f3,f4,f5⟩:=d'.field tM;rw [j6] at f1;simp only [Option.some.injEq,TypeDesc.struct.injEq] at f1;subst f1;have ar:=pD i n' s f2 f4;rw [f3] at ar;have iy:=JX aw aj;have cH:v.cells.size=s.size:=by have:=iy.len;grind
     have tI:as.length=cs.size:=by simpa using bf.len
     have Fk:=Fi v.cells.toList 0 off cs (by grind);have e:(v.cells.zipIdx.foldl (λ(cs:Array Value) (p:Value×Nat)=>cs.setIfInBounds (off+p.2) p.1) cs)=((v.cells.toList.zipIdx 0).foldl (λ(cs:Array Value) (p:Value×Nat)=>cs.setIfInBounds (off+p.2) p.1) cs):=by
      rw [<-Array.foldl_toList];simp
     have aa5:=bf.replace iy off;rw [hc.1] at aa5;obtain ⟨ef,aS,aY⟩:=Q0 d' j6 pD ps qs (cs:=v.cells.zipIdx.foldl (λ(cs:Array Value) (p:Value×Nat)=>cs.setIfInBounds (off+p.2) p.1) cs) (by rw [e,Fk];omega) ax (by grind)
      (λj h dx=>by have:=gv (j+1) (by grind) (by grind);grind)
     refine ⟨ef,?_,aY⟩;simp only [Instr.fill,ar];grind
    grind
 | [],_::_,_,_,_,_,_,hlen,_=>by grind
 | _::_,[],_,_,_,_,_,hlen,_=>by grind
theorem Q1:∀ {l:List (Nat×aP)},vs l->∀ i (h:i<l.length),(use l[i].2).1
 | a::l,h,0,_=>by
  obtain ⟨n,a⟩:=a;cases a<;>first | trivial | exact h.1
 | a::l,h,i+1,U=>by
  have dx:vs l:=by obtain ⟨n,a⟩:=a;cases a<;>first | exact h | exact h.2
  have:=Q1 dx i (by grind);grind
theorem Q2 {a:Act} {w:World} {κ:Nat->bD} {F:Nat->Prop} (W:bl C s a w κ F) (ps:List (Nat×Operand)) (be:vs (ps.map λp=>(p.1,a_ C.aZ s.aD p.2))) :
  ∀ i (h:i<(n_ (ps.map λp=>(p.1,a_ C.aZ s.aD p.2))).length) (dx:i<(ps.map λp=>(p.1,a.eval p.2)).length),(n_ (ps.map λp=>(p.1,a_ C.aZ s.aD p.2)))[i].1=(ps.map λp=>(p.1,a.eval p.2))[i].1/\bw C.P s.ag κ F w (n_ (ps.map λp=>(p.1,a_ C.aZ s.aD p.2)))[i].2 (ps.map λp=>(p.1,a.eval p.2))[i].2:=by
 intro i h dx;have U:i<ps.length:=by grind
 have M:=Q1 be i (by grind);simp only [List.getElem_map] at M;refine ⟨by simp [n_],?_⟩;simp only [n_,List.getElem_map];exact pz (kN W _) M
theorem aa6 (a2:eO C.P T) {ty:TypeId} {ps:Array (Nat×Operand)} (bh:∀ i,o.dst=some i->i<C.nt) (al:o.op=.build ty ps) (h:(bo C.aZ T bd (a_ C.aZ s.aD) o).run s.ag=some res):cK C o s res:=by
 obtain ⟨ps⟩:=ps;simp only [bo,al] at h;split at h
 ·rename_i t aR;have d':=a2.cb aR (by simp);split at h
  ·rename_i cs tI;simp only [bR,az.bW,Option.some.injEq] at h;subst h;refine cK.pure (by grind) bh λa w κ F W be _=>?_;obtain ⟨fr,j6⟩:=d'.st;obtain ⟨i,z,M,aa,an,a8,bV,d_⟩:=mE d'.mD;obtain ⟨c,e,lH,jL⟩:=w8 (P:=C.P) (H:=s.ag) (κ:=κ) (F:=F) (w:=w) (.st t) bV;rw [List.append_nil] at e;have aa7:=d'.aa2 j6;have hm:=ChangeMaps.mapM_total (f:=λ(f:Field)=>(C.P.info? f.type).map λi=>(f.offset,i.size)) (0,0) (l:=fr.toList) (λf ax=>by
    obtain ⟨s',vy⟩:=aa7 f ax;obtain ⟨B6,_,zv,_⟩:=mE vy.mD;simp_all)
   have pD:=run_places (P:=C.P) w fr.toList _ hm;obtain ⟨ef,aS,aY⟩:=Q0 (w:=w) d' j6 (qo:=λj=>((fr.toList.map λf=>((C.P.info? f.type).map λi=>(f.offset,i.size)).getD (0,0)))[j]?)
    (λj f s' aC vy=>by
     obtain ⟨B6,_,zv,tN,_⟩:=mE vy.mD;grind)
    _ _ (by rw [e];exact jL) tI (by simp [n_]) (Q2 W ps be)
   have hlen:cs.length=ef.size:=by simpa using aY.len
   refine ⟨.agg ef,?_,ef.toList,by simp,by grind,λj aC=>?_⟩
   ·have JY:(fr.mapM λf=>do pure (f.offset,<-sizeOf f.type):Sem (Array (Nat×Nat))).run C.P w=.ok (fr.toList.map λf=>((C.P.info? f.type).map λi=>(f.offset,i.size)).getD (0,0)).toArray w:=by
     rw [Array.mapM_eq_mapM_toList];simp [pD]
    simp only [execOp,al,Instr.build,Sem.run_bind,sm M a8,Result.andThen_ok,dW j6,JY];simp_all
   ·have:=aY.lE j aC;omega
  ·cases h
 ·cases h
end
end Go.Fer
namespace Go.Fer
open Go.RowKit
section
variable {C:cf} {T:Nat->ai} {bd:Nat->Option aU} {o:Oper} {s:aE} {res:fj}
theorem bl.ik {a:Act} {w:World} {κ:Nat->bD} {F:Nat->Prop} {s':aE} (h:bl C s a w κ F) (aK:s'.aD=s.aD) (bq:s'.ag=s.ag):bl C s' a w κ F:=by
 have:s'=s:=by cases s';simp_all
 grind
theorem Q3 {P:Program} {w w':World} {t:ai} {id:TypeId} (h:ca P t id) {p:Addr} {v:Value} (cH:v.cells.size=t.size) (aA:(storeCells p v.cells.toList).run P w=.ok () w'):(storeVar id p v).run P w=.ok () w':=by
 simp [storeVar,h.size,cH,aA]
theorem aa8 (a2:eO C.P T) {ty:TypeId} {x y:Operand} (bh:o.dst=none) (al:o.op=.store ty x y) (h:(bo C.aZ T bd (a_ C.aZ s.aD) o).run s.ag=some res):cK C o s res:=by
 simp only [bo,al,az.fR,Option.bind_eq_some_iff,az.bW,Option.some.injEq] at h;obtain ⟨wl,l8,rfl⟩:=h;intro a w κ F Q W be _;have ar:bw C.P s.ag κ F w (use (a_ C.aZ s.aD x)).2 (a.eval x):=cU W x rfl be.1;have aj:bw C.P s.ag κ F w (use (a_ C.aZ s.aD y)).2 (a.eval y):=cU W y rfl be.2;generalize (use (a_ C.aZ s.aD x)).2=aa9 at *
 generalize (use (a_ C.aZ s.aD y)).2=j5 at *
 have aN:∀ c,o.op≠.defer c:=by grind
 have fin:∀ w',(Instr.storeAt ty (a.eval x) (a.eval y)).run C.P w=.ok () w'->cG C (s.gV wl) a w'->o.wpIn (eX C.r) 0 C.P a w (λa' w'=>cG C (s.i_ o.dst ⟨(use (a_ C.aZ s.aD x)).1/\(use (a_ C.aZ s.aD y)).1,True,.undef,wl⟩) a' w') Q:=by
  intro w' M aa;refine JM (w':=w') aN (by simp [execOp,al,M]) ?_;rw [bh];exact aa
 unfold QB at l8;cases aa9 with
 | aV b g off=>
  simp only [az.gr,az.bW] at l8;split at l8
  ·rename_i aL;split at l8
   ·rename_i n f b9;simp only [Option.bind_eq_some_iff] at l8;obtain ⟨l,aw,l8⟩:=l8;split at l8
    ·rename_i hc;simp only [Option.some.injEq] at l8;subst l8;have aa_:=ar.2 aL.symm (by rw [b9];rfl);have iy:=JX aw aj;have a6:=W.bI b;unfold cO at a6;rw [b9] at a6;obtain ⟨cs,fw,bH,b2,cw⟩:=a6;have hlen:=iy.len;have oM:∀ u∈(a.eval y).cells.toList,u.oneCell'=true:=by
      intro u hu;obtain ⟨i,U,rfl⟩:=List.mem_iff_getElem.1 hu;have:=(iy.lE i (by omega)).2;grind
     obtain ⟨w',ef,b4,ct,fc,iM,l7,oe⟩:=xb (P:=C.P) (a.eval y).cells.toList off 0 w cs bH (by omega) oM;have cH:(a.eval y).cells.size=(T ty).size:=by grind
     have vz:T ty≠.da:=by
      intro e;rw [e] at aw;cases j5<;>simp [cellsOf,ai.fE] at aw
     refine fin w' (by rw [aa_];simp [Instr.storeAt,Instr.sureAddr,Q3 (a2.cb rfl vz) cH b4]) ⟨κ,F,?_⟩;have h3:gT s.ag κ (λi=>if i=b then (⟨(s.ag b).gen,.cells n (E8 f off l)⟩:bS) else s.ag i) κ:=
      vp rfl (λ_=>by rw [b9];rfl) (λh=>by cases h) (λh=>by cases h) (λh=>by cases h)
     refine (W.tD (b:=b) (x:=⟨(s.ag b).gen,.cells n (E8 f off l)⟩) (by rw [b9];rfl) rfl h3 (λ_=>by rw [b9];rfl) (λh=>by cases h) iM l7 oe λH tL cq he=>?_);have JZ:ef.size=n.size:=by
      rw [<-Array.length_toList,fc];grind
     refine ⟨ef,fw,ct,JZ,λi U=>?_⟩;have dC:ef.getD i Go.undef=ef.toList.getD i Go.undef:=by simp
     rw [dC,fc];have h4:l.length=(a.eval y).cells.toList.length:=hlen;simp only [Nat.add_zero];have qp:(cs.toList.take off).length=off:=by grind
     unfold E8;by_cases lI:off<=i/\i<off+l.length
     ·rw [if_pos lI];have aK:(cs.toList.take off++((a.eval y).cells.toList++cs.toList.drop (off+(a.eval y).cells.toList.length))).getD i Go.undef=(a.eval y).cells.toList.getD (i - off) Go.undef:=by
       grind
      rw [aK];have:=iy.lE (i - off) (by omega);exact ⟨bw.nw cq (λ_ W=>W) he this.1,this.2⟩
     ·rw [if_neg lI];have aK:(cs.toList.take off++((a.eval y).cells.toList++cs.toList.drop (off+(a.eval y).cells.toList.length))).getD i Go.undef=cs.getD i Go.undef:=by
       rcases Nat.lt_or_ge i off with M | M
       ·rw [List.getD_eq_getElem?_getD,List.getElem?_append_left (by omega)];simp_all
       ·rw [List.getD_eq_getElem?_getD,List.getElem?_append_right (by omega),qp,List.getElem?_append_right (by omega),List.getElem?_drop];rw [show off+(a.eval y).cells.toList.length+(i - off - (a.eval y).cells.toList.length)=i from by omega];simp
      rw [aK];exact ⟨bw.nw cq (λ_ W=>W) he (cw i U).1,(cw i U).2⟩
    grind
   grind
  grind
 | pq b g i off=>
  simp only [az.fR,Option.bind_eq_some_iff,az.run_bind,az.gr,az.bW] at l8;obtain ⟨⟨z,l⟩,bm,l8⟩:=l8;split at l8
  ·rename_i aL;obtain ⟨aL,vA⟩:=aL;have vA:b ∉ l:=by grind
   split at l8
   ·rename_i e xs b9;simp only [Option.map_eq_some_iff] at l8;obtain ⟨m5,zt,rfl⟩:=l8;obtain ⟨h5,oN,lJ⟩:=ar.2 aL.symm (by rw [b9];rfl);rw [b9] at h5 lJ;simp only [b7.len,b7.gq] at h5 lJ;obtain ⟨F',f1,bc,f2⟩:=bl.mH (od bm) W;have zw:=n9 W.bI f1 bm f2 aj;have J0:((s.cL l).ag b)=s.ag b:=by simp [aE.cL,vA]
    have a6:=bc.bI b;unfold cO at a6;rw [J0,b9] at a6;obtain ⟨cs,fw,bH,b2,cw,gi,hG⟩:=a6.2 oN;obtain ⟨bn,d1,d2⟩:=hG i h5;have JS:xs.getD i e.ee=xs[i]:=by grind
    rw [JS] at zt;have zx:=jj e d2;obtain ⟨db,dR,lK,bt,asq,asr,aa'⟩:=aaj e d2 zt zw.2;have vz:T ty≠.da:=by
     intro a9;have:=zw.1;rw [a9] at this;exact this
    have B7:(a.eval y).cells.toList.length=(T ty).size:=zw.1.len;have B8:(i+1)*e.size<=(κ b).cap*e.size:=Nat.mul_le_mul_right _ (by omega);have hbound:off+(T ty).size<=e.size:=by
     grind
    have oM:∀ u∈(a.eval y).cells.toList,u.oneCell'=true:=by
     intro u hu;have iy:=za (P:=C.P) (H:=λ_=>⟨0,.gK⟩) (κ:=λ_=>⟨0,0,0,true⟩) (T ty) zw.2;obtain ⟨j,aC,rfl⟩:=List.mem_iff_getElem.1 hu;have:=(iy.lE j (by rw [iy.len];exact aC)).2;grind
    have lL:(κ b).off+i*e.size+off+0+(a.eval y).cells.toList.length<=cs.size:=by
     grind
    obtain ⟨w',ef,b4,ct,fc,iM,l7,oe⟩:=xb (P:=C.P) (a.eval y).cells.toList ((κ b).off+i*e.size+off) 0 w cs bH lL oM;refine fin w' (by rw [lJ];simp [Instr.storeAt,Instr.sureAddr,Q3 (a2.cb rfl vz) (by omega) b4]) ⟨κ,F',?_⟩;have sr:s.gV ((kL l).run s.ag++[(b,⟨(s.ag b).gen,.bu e (xs.set i m5)⟩)])=(s.cL l).cy b ⟨(s.ag b).gen,.bu e (xs.set i m5)⟩:=by
     rw [Fh,vx]
    rw [sr];have h3:gT (s.cL l).ag κ (λB6=>if B6=b then (⟨(s.ag b).gen,.bu e (xs.set i m5)⟩:bS) else (s.cL l).ag B6) κ:=
     vp (by grind) (λh=>by cases h) (λ_=>by rw [J0,b9];exact ⟨rfl,by simp [b7.len],rfl⟩) (λh=>by cases h) (λh=>by cases h)
    have Q4:(κ b).h0=false:=oN;refine bc.tD (b:=b) (x:=⟨(s.ag b).gen,.bu e (xs.set i m5)⟩) (by rw [J0,b9];simp [b7.cd,Q4]) (by simp [b7.cd,Q4]) h3 (λh=>by cases h) (λh=>by cases h) iM l7 oe λH tL cq he=>?_;refine ⟨λaI=>(by grind),λ_=>?_⟩;have JZ:ef.size=cs.size:=by
     rw [<-Array.length_toList,fc];grind
    refine ⟨ef,fw,ct,by omega,by grind,gi,λj aC=>?_⟩;have gU:j<xs.length:=by grind
    simp only [Nat.add_zero] at fc lL;have fU:∀ k,ef[k]?=if (κ b).off+i*e.size+off<=k/\k<(κ b).off+i*e.size+off+(T ty).size then (a.eval y).cells.toList[k - ((κ b).off+i*e.size+off)]? else cs[k]?:=by
     intro k;rw [<-Array.getElem?_toList,fc];have qp:(cs.toList.take ((κ b).off+i*e.size+off)).length=(κ b).off+i*e.size+off:=by grind
     by_cases lI:(κ b).off+i*e.size+off<=k/\k<(κ b).off+i*e.size+off+(T ty).size
     ·rw [if_pos lI,List.getElem?_append_right (by omega),qp,List.getElem?_append_left (by omega)]
     ·rw [if_neg lI];rcases Nat.lt_or_ge k ((κ b).off+i*e.size+off) with M | M
      ·grind
      ·rw [List.getElem?_append_right (by omega),qp,List.getElem?_append_right (by omega),List.getElem?_drop];rw [show (κ b).off+i*e.size+off+(a.eval y).cells.toList.length+(k - ((κ b).off+i*e.size+off) - (a.eval y).cells.toList.length)=k from by omega];simp
    by_cases aba:j=i
    ·subst aba;have aK:(xs.set j m5)[j]=m5:=by simp
     rw [aK];refine ⟨db++((a.eval y).cells.toList++lK),λk ak=>?_,gp e (λ_ W=>W) he aa'⟩;rw [fU];subst bt;simp only [List.length_append] at ak zx;by_cases lI:off<=k/\k<off+(T ty).size
     ·rw [if_pos (by omega)];rw [show (κ b).off+j*e.size+k - ((κ b).off+j*e.size+off)=k - db.length from by omega];grind
     grind
    ·have aK:(xs.set i m5)[j]=xs[j]:=by grind
     rw [aK];obtain ⟨Q5,abb,J1⟩:=hG j gU;refine ⟨Q5,λk ak=>?_,gp e (λ_ W=>W) he J1⟩;rw [fU,if_neg]
     ·grind
     ·have ass:=jj e J1;rcases Nat.lt_or_ge j i with M | M
      ·have:(j+1)*e.size<=i*e.size:=Nat.mul_le_mul_right _ (by omega);grind
      ·have:(i+1)*e.size<=j*e.size:=Nat.mul_le_mul_right _ (by omega);grind
   grind
  grind
 | _=>cases l8
end
end Go.Fer
namespace Go.Fer
open Go.RowKit
theorem B9 {p:Addr} (h:p.spot=none) (n:Nat):p.add n=⟨p.block,p.off+n,none⟩:=by
 obtain ⟨b,o,sp⟩:=p;simp only at h;subst h;exact vu b o n
theorem J2 {e:ai} {xs:List e.aq} {i:Int} (M:0<=i) (aa:i<(xs.length:Int)):lE e xs i=xs[i.toNat]'(by omega):=by
 unfold lE;grind
section
variable {C:cf} {T:Nat->ai} {bd:Nat->Option aU} {o:Oper} {s:aE} {res:fj}
theorem J3 {P:Program} {w:World} {e:ai} {ty:TypeId} (h:ca P (.slice e) ty) {p:Addr} (ar:p.spot=none) {n cap:Nat} {k:IntKind} {i:Int} (M:0<=i) (aa:i<(n:Int)) :
  (Instr.indexAt ty (.slice (some p) n cap) (.int k i)).run P w=.ok (.pointer (some ⟨p.block,p.off+i.toNat*e.size,none⟩)) w:=by
 obtain ⟨j,aC,l9,_⟩:=h.sl;simp [Instr.indexAt,asIntOf,dW aC,M,aa,l9.size,B9 ar]
theorem abc (a2:eO C.P T) {ty:TypeId} {x i:Operand} (bh:∀ i,o.dst=some i->i<C.nt) (al:o.op=.indexAddr ty x i) (h:(bo C.aZ T bd (a_ C.aZ s.aD) o).run s.ag=some res):cK C o s res:=by
 simp only [bo,al] at h;split at h
 ·rename_i dC k n aR U;have d':=a2.cb aR (by simp);simp only [bR,az.fR,Option.bind_eq_some_iff,az.bW,Option.some.injEq] at h;obtain ⟨⟨c,v⟩,hP,rfl⟩:=h;refine cK.pure (by grind) bh λa w κ F W be hc=>?_;have au:bw C.P s.ag κ F w (use (a_ C.aZ s.aD x)).2 (a.eval x):=cU W x rfl be.1;have aa:=nA (cU W i rfl be.2) U;have zy:∀ (xs:List dC.aq),bM C.P (.slice dC) F w [a.eval x] xs->0<=n/\n<(xs.length:Int)->∃ r,(execOp a.eval o).run C.P w=.ok (.value r) w/\bw C.P s.ag κ F w (.fb dC (lE dC xs n)) r:=by
   intro xs jK aI;obtain ⟨a',cap,aK,eb,eN,ij,g2⟩:=jK;have aK:=(List.cons.inj aK).1;cases a' with
   | none=>grind
   | some p=>
    obtain ⟨dO,e6,lb⟩:=g2 p rfl (by omega);obtain ⟨bn,d1,d2⟩:=lb n.toNat (by omega);refine ⟨_,by simp [execOp,al,aK,aa.1,J3 d' e6 aI.1 aI.2],⟨p.block,p.off+n.toNat*dC.size,none⟩,bn,rfl,d1,?_⟩;rw [J2 aI.1 aI.2];exact d2
  unfold QC at hP;split at hP
  ·rename_i e xs fk;simp only [az.bW] at hP;split at hP
   ·rename_i he;subst he;simp only [Option.some.injEq,Prod.mk.injEq] at hP;obtain ⟨rfl,rfl⟩:=hP;rw [fk] at au;exact zy xs ((fa rfl).1 au).2 hc
   grind
  ·rename_i b g fk;rw [fk] at au;simp only [az.gr,az.bW] at hP;split at hP
   ·rename_i aL;have a6:=W.bI b;unfold cO at a6;split at hP
    ·rename_i e xs b9;split at hP
     ·rename_i he;subst he;simp only [Option.some.injEq,Prod.mk.injEq] at hP;obtain ⟨rfl,rfl⟩:=hP;have aj:=au.2 aL.symm (by rw [b9];rfl);rw [b9] at aj a6;have vC:(κ b).h0=false:=by
       cases aI:(κ b).h0 with
       | false=>rfl
       | true=>rw [a6.1 aI] at hc;grind
      simp only [bD.slice,vC,Bool.false_eq_true,if_false,b7.len] at aj;refine ⟨_,by simp [execOp,al,aj,aa.1,J3 d' (p:=⟨(κ b).ag,(κ b).off,none⟩) rfl hc.1 hc.2];rfl,⟨au.1.1,rfl⟩,λ_ _=>?_⟩;rw [b9];exact ⟨by simp only [b7.len];omega,vC,rfl⟩
     grind
    ·rename_i e xs b9;split at hP
     ·rename_i he;subst he;simp only [Option.some.injEq,Prod.mk.injEq] at hP;obtain ⟨rfl,rfl⟩:=hP;have aj:=au.2 aL.symm (by rw [b9];rfl);rw [b9] at aj a6;simp only [b7.len] at aj;refine zy xs ?_ hc;rw [aj];exact a6
     grind
    grind
   grind
  ·rename_i b g a4 U fk;rw [fk] at au;simp only [az.gr,az.bW] at hP;split at hP
   ·rename_i aL;have a6:=W.bI b;unfold cO at a6;split at hP
    ·rename_i e xs b9;split at hP
     ·rename_i he;subst he;simp only [Option.some.injEq,Prod.mk.injEq] at hP;obtain ⟨rfl,rfl⟩:=hP;obtain ⟨⟨aS,aY⟩,bK⟩:=au.2 aL.symm (by rw [b9];rfl);rw [b9] at aY bK a6;simp only [b7.len,b7.gq] at aY bK;rcases bK with ⟨aI,_⟩ | ⟨aI,m6,aj,hH,gM⟩
      ·rw [a6.1 aI] at aY;grind
      ·obtain ⟨cs,fw,bH,b2,cw,gi,hG⟩:=a6.2 aI;refine ⟨_,by simp [execOp,al,aj,aa.1,J3 d' (p:=⟨(κ b).ag,m6,none⟩) rfl hc.1 hc.2];rfl,⟨au.1.1,rfl⟩,λ_ _=>?_⟩;rw [b9];refine ⟨by simp only [b7.len];omega,aI,?_⟩;rw [gM (by omega)];simp only [b7.gq,Nat.add_mul];grind
     grind
    ·rename_i e xs b9;split at hP
     ·rename_i he;subst he;simp only [Option.some.injEq,Prod.mk.injEq] at hP;obtain ⟨rfl,rfl⟩:=hP;obtain ⟨⟨aS,aY⟩,bK⟩:=au.2 aL.symm (by rw [b9];rfl);rw [b9] at aY bK a6;simp only [b7.len,b7.gq] at aY bK;have hlen:((xs.take U).drop a4).length=U - a4:=by grind
      obtain ⟨r,b4,ct⟩:=zy ((xs.take U).drop a4) (E5 a6 aS aY bK) (by omega);refine ⟨r,b4,?_⟩;have aK:lE e ((xs.take U).drop a4) n=lE e xs ((a4:Int)+n):=by
       rw [J2 hc.1 (by omega),J2 (by omega) (by omega)];grind
      grind
     grind
    grind
   grind
  ·simp_all
  ·cases hP
 ·rename_i m dC k n aR U;split at h
  ·rename_i dI a9 xs fk;split at h
   ·rename_i he;obtain ⟨rfl,rfl⟩:=he;simp only [bR,az.bW,Option.some.injEq] at h;subst h;refine cK.pure (by grind) bh λa w κ F W be hc=>?_;have au:bw C.P s.ag κ F w (use (a_ C.aZ s.aD x)).2 (a.eval x):=cU W x rfl be.1;rw [fk] at au;have aa:=nA (cU W i rfl be.2) U;obtain ⟨j,aC,rq,_⟩:=(a2.cb aR (by simp)).bu;obtain ⟨p,bn,aj,du,oc⟩:=au;obtain ⟨bH,b2,cw,rfl,bq,cF⟩:=QT oc (i:=n.toNat) (by omega);refine ⟨.pointer (some ⟨p.block,p.off+n.toNat*a9.size,none⟩),?_,⟨p.block,p.off+n.toNat*a9.size,none⟩,b2,rfl,⟨du.1,rfl,λq bt=>?_⟩,cF⟩
    ·simp [execOp,al,Instr.indexAt,aj,aa.1,asIntOf,dW aC,hc.1,hc.2,rq.size,B9 du.2.1,Instr.sureAddr]
    ·have:=du.2.2 (bH.length+q) (by grind);grind
   ·cases h
  ·rename_i b g off fk;simp only [az.gr,az.bW] at h;split at h
   ·rename_i bm;simp only [Bool.and_eq_true,decide_eq_true_eq] at bm;simp only [Option.some.injEq] at h;subst h;refine cK.pure (by grind) bh λa w κ F W be hc=>?_;have M:bw C.P s.ag κ F w (use (a_ C.aZ s.aD x)).2 (a.eval x):=cU W x rfl be.1;rw [fk] at M;have aa:=nA (cU W i rfl be.2) U;have an:=M.2 bm.1.symm bm.2;obtain ⟨j,aC,rq,_⟩:=(a2.cb aR (by simp)).bu;exact ⟨_,by simp [execOp,al,Instr.indexAt,an,aa.1,asIntOf,dW aC,hc.1,hc.2,rq.size,B9 (p:=⟨(κ b).ag,off,none⟩) rfl,Instr.sureAddr],⟨M.1.1,rfl⟩,λ_ _=>rfl⟩
   grind
  ·cases h
 ·cases h
theorem B_ {a:Act} {w:World} {κ:Nat->bD} {F:Nat->Prop} (W:bl C s a w κ F) {x:Option Operand} {p:Prop} {n:Option Int} (h:l4 (a_ C.aZ s.aD) x=some (p,n)) (ar:p) :
  (x=none/\n=none)\/∃ y k m,x=some y/\n=some m/\a.eval y=.int k m:=by
 cases x with
 | none=>simp only [l4,Option.some.injEq,Prod.mk.injEq] at h;grind
 | some y=>
  simp only [l4] at h;split at h
  ·rename_i q k m hu;simp only [Option.some.injEq,Prod.mk.injEq] at h;obtain ⟨rfl,rfl⟩:=h;exact .inr ⟨y,k,m,rfl,rfl,(hZ.1 (cU W y hu ar)).1⟩
  grind
theorem Q6 {P:Program} {w:World} {isS:Bool} {len cap:Nat} {a4 U:Option Value} {l h:Option Int} (aw:(a4=none/\l=none)\/∃ k m,a4=some (.int k m)/\l=some m) (du:(U=none/\h=none)\/∃ k m,U=some (.int k m)/\h=some m)
  (M:0<=dD l) (aa:dD l<=gu len h) (an:gu len h<=(cap:Int)) (_h4:len<=cap):(Instr.sliceBounds isS len cap a4 U none).run P w=.ok ((dD l).toNat,(gu len h).toNat,cap) w:=by
 rcases aw with ⟨rfl,rfl⟩ | ⟨k,m,rfl,rfl⟩<;>rcases du with ⟨rfl,rfl⟩ | ⟨k',dI,rfl,rfl⟩<;>simp only [dD,gu] at M aa an ⊢
 ·rfl
 ·have:0<=dI/\dI<=(cap:Int):=by omega
  simp [Instr.sliceBounds,Instr.sliceBound,asIntOf,this]
 ·have:0<=m/\m<=(len:Int):=by omega
  simp [Instr.sliceBounds,Instr.sliceBound,asIntOf,this]
 ·have aK:0<=dI/\dI<=(cap:Int):=by omega
  have bq:0<=m/\m<=dI:=by omega
  have cF:max dI 0=dI:=by omega
  simp [Instr.sliceBounds,Instr.sliceBound,asIntOf,aK,bq,cF]
theorem abd {l h:Option Int} {n m:Nat} (Q7:n<=m):BS l h n m<=m:=by
 unfold BS;grind
theorem abe (a2:eO C.P T) {ty:TypeId} {x:Operand} {a4 U:Option Operand} (bh:∀ i,o.dst=some i->i<C.nt) (al:o.op=.slice ty x a4 U none) (h:(bo C.aZ T bd (a_ C.aZ s.aD) o).run s.ag=some res):cK C o s res:=by
 simp only [bo,al,Option.isSome_none,Bool.false_eq_true,if_false,E_] at h;split at h
 ·rename_i ol l rl mJ qq J4;have aN:∀ c,o.op≠.defer c:=by grind
  have sc:∀ (a:Act) (w:World) κ F,bl C s a w κ F->ol->rl->((a4.map a.eval=none/\l=none)\/∃ k m,a4.map a.eval=some (.int k m)/\l=some m)/\((U.map a.eval=none/\mJ=none)\/∃ k m,U.map a.eval=some (.int k m)/\mJ=some m):=by
   intro a w κ F W B' Ca;constructor
   ·rcases B_ W qq B' with ⟨rfl,rfl⟩ | ⟨y,k,m,rfl,rfl,e⟩
    ·exact .inl ⟨rfl,rfl⟩
    ·exact .inr ⟨k,m,by simp [e],rfl⟩
   ·rcases B_ W J4 Ca with ⟨rfl,rfl⟩ | ⟨y,k,m,rfl,rfl,e⟩
    ·exact .inl ⟨rfl,rfl⟩
    ·exact .inr ⟨k,m,by simp [e],rfl⟩
  split at h
  ·rename_i dC aR;have d':=a2.cb aR (by simp);obtain ⟨j,aC,l9,pE⟩:=d'.sl;simp only [az.fR,Option.bind_eq_some_iff] at h;obtain ⟨⟨c,v⟩,g4,h⟩:=h;simp only [bR,az.bW,Option.some.injEq] at h;subst h;have runs:∀ (a:Act) (w:World) κ F,bl C s a w κ F->ol->rl->∀ (q:Option Addr) (n cap:Nat),a.eval x=.slice q n cap->n<=cap->0<=dD l/\dD l<=gu n mJ/\gu n mJ<=(cap:Int)->
     (execOp a.eval o).run C.P w=.ok (.value (.slice (if cap=(dD l).toNat then q else q.map (·.add ((dD l).toNat*dC.size))) ((gu n mJ).toNat - (dD l).toNat) (cap - (dD l).toNat))) w:=by
    intro a w κ F W B' Ca q n cap aj aI hc;obtain ⟨e0,gE⟩:=sc a w κ F W B' Ca;have:=Q6 (P:=C.P) (w:=w) (isS:=true) e0 gE hc.1 hc.2.1 hc.2.2 aI;simp [execOp,al,aj,Instr.sliceAt,Instr.slice,dW aC,this,l9.size]
   unfold QD at g4;split at g4
   ·rename_i e xs fk;simp only [az.bW] at g4;split at g4
    ·rename_i he;subst he;simp only [Option.some.injEq,Prod.mk.injEq] at g4;obtain ⟨rfl,rfl⟩:=g4;refine cK.pure aN bh λa w κ F W be hc=>?_;have au:bw C.P s.ag κ F w (use (a_ C.aZ s.aD x)).2 (a.eval x):=cU W x rfl be.1;rw [fk] at au;obtain ⟨_,a',cap,aK,eb,eN,ij,g2⟩:=(fa rfl).1 au;have aK:=(List.cons.inj aK).1;refine ⟨_,runs a w κ F W be.2.1 be.2.2 a' xs.length cap aK eb ⟨hc.1,hc.2.1,by omega⟩,(fa rfl).2 ⟨rfl,?_⟩⟩;have hlen:((xs.take (gu xs.length mJ).toNat).drop (dD l).toNat).length=(gu xs.length mJ).toNat - (dD l).toNat:=by
      simp;omega
     refine ⟨_,_,by rw [hlen],by omega,by omega,?_,λp ar zb=>?_⟩
     ·intro aI;split at aI
      ·omega
      ·cases a' with
       | none=>have:=ij rfl;omega
       | some q=>cases aI
     ·cases a' with
      | none=>split at ar<;>cases ar
      | some q=>
       obtain ⟨dO,e6,lb⟩:=g2 q rfl (by omega);have bt:∃ d,p=⟨q.block,q.off+d,none⟩/\(d=(dD l).toNat*e.size\/cap=(dD l).toNat):=by
        split at ar
        ·omega
        ·simp only [Option.map_some,Option.some.injEq] at ar;rw [B9 e6] at ar;grind
       obtain ⟨d,rfl,Jz⟩:=bt;refine ⟨dO,rfl,λi U=>?_⟩;rw [hlen] at U;obtain ⟨bn,d1,d2⟩:=lb ((dD l).toNat+i) (by omega);rcases Jz with rfl | xc
       ·refine ⟨bn,⟨d1.1,rfl,λk ak=>?_⟩,?_⟩
        ·have:=d1.2.2 k ak;rw [Nat.add_mul] at this;rw [show q.off+(dD l).toNat*e.size+i*e.size=q.off+((dD l).toNat*e.size+i*e.size) from by omega];exact this
        ·have bq:((xs.take (gu xs.length mJ).toNat).drop (dD l).toNat)[i]'(by rw [hlen];exact U)=xs[(dD l).toNat+i]'(by omega):=by simp
         rw [bq];exact d2
       ·omega
    grind
   ·rename_i fk;simp only [az.bW,Option.some.injEq,Prod.mk.injEq] at g4;obtain ⟨rfl,rfl⟩:=g4;refine cK.pure aN bh λa w κ F W be hc=>?_;have au:bw C.P s.ag κ F w (use (a_ C.aZ s.aD x)).2 (a.eval x):=cU W x rfl be.1;rw [fk] at au;simp only [bw] at au;have kl:0<=dD l/\dD l<=gu 0 mJ/\gu 0 mJ<=((0:Nat):Int):=hc;have dj:=runs a w κ F W be.2.1 be.2.2 none 0 0 au (Nat.le_refl _) kl;have aW:(gu 0 mJ).toNat=0:=by omega
    rw [aW] at dj;refine ⟨_,dj,?_⟩;simp only [bw];simp
   ·rename_i b g fk;simp only [az.gr,az.bW] at g4;split at g4
    ·rename_i bm;simp only [Bool.and_eq_true,decide_eq_true_eq,beq_iff_eq] at bm;obtain ⟨⟨aL,fI⟩,B3⟩:=bm;simp only [Option.some.injEq,Prod.mk.injEq] at g4;obtain ⟨rfl,rfl⟩:=g4;refine cK.pure aN bh λa w κ F W be hc=>?_;have au:bw C.P s.ag κ F w (use (a_ C.aZ s.aD x)).2 (a.eval x):=cU W x rfl be.1;rw [fk] at au;have aj:=au.2 aL.symm fI;obtain ⟨dO,e6⟩:=zq W fI;cases aI:(κ b).h0 with
     | true=>
      have aW:=dO aI;simp only [bD.slice,aI,if_true] at aj;rw [aW] at hc;have dj:=runs a w κ F W be.2.1 be.2.2 none 0 0 aj (Nat.le_refl _) hc;refine ⟨_,dj,⟨au.1.1,by rfl⟩,λ_ _=>⟨by grind,.inl ⟨aI,?_⟩⟩⟩;grind
     | false=>
      have xc:=JT W fI aI;simp only [bD.slice,aI,Bool.false_eq_true,if_false] at aj;have dj:=runs a w κ F W be.2.1 be.2.2 _ _ _ aj xc ⟨hc.1,hc.2.1,by omega⟩;refine ⟨_,dj,⟨au.1.1,by rfl⟩,λ_ _=>⟨by omega,.inr ⟨aI,?_⟩⟩⟩;rw [<-B3];by_cases pC:(κ b).cap=(dD l).toNat
      ·grind
      ·rw [if_neg pC];simp only [Option.map_some,vu];simp
    grind
   ·rename_i b g fT aW fk;simp only [az.gr,az.bW] at g4;split at g4
    ·rename_i bm;simp only [Bool.and_eq_true,decide_eq_true_eq,beq_iff_eq] at bm;obtain ⟨⟨aL,fI⟩,B3⟩:=bm;simp only [Option.some.injEq,Prod.mk.injEq] at g4;obtain ⟨rfl,rfl⟩:=g4;refine cK.pure aN bh λa w κ F W be hc=>?_;have au:bw C.P s.ag κ F w (use (a_ C.aZ s.aD x)).2 (a.eval x):=cU W x rfl be.1;rw [fk] at au;obtain ⟨⟨aS,aY⟩,bK⟩:=au.2 aL.symm fI;obtain ⟨dO,e6⟩:=zq W fI;have Q8:BS l mJ (aW - fT) ((s.ag b).body.len - fT)<=(s.ag b).body.len - fT:=abd (by omega);revert hc Q8;generalize BS l mJ (aW - fT) ((s.ag b).body.len - fT)=abf;intro hc Q8;rcases bK with ⟨aI,aj⟩ | ⟨aI,m6,aj,hH,gM⟩
     ·have J5:=dO aI;have dC:aW - fT=0:=by omega
      have elim:abf=0:=by omega
      rw [dC,elim] at hc;grind
     ·have xc:=JT W fI aI;have dj:=runs a w κ F W be.2.1 be.2.2 _ _ _ aj (by omega) ⟨hc.1,hc.2.1,by omega⟩;refine ⟨_,dj,⟨au.1.1,by rfl⟩,λ_ _=>⟨by omega,.inr ⟨aI,?_⟩⟩⟩;rw [<-B3];rw [<-B3] at dj;have aK:(gu (aW - fT) mJ).toNat - (dD l).toNat=fT+(gu (aW - fT) mJ).toNat - (fT+(dD l).toNat):=by omega
      have bq:(κ b).cap - fT - (dD l).toNat=(κ b).cap - (fT+(dD l).toNat):=by omega
      rw [aK,bq];have cF:(fT+(dD l).toNat)*(s.ag b).body.gq=fT*(s.ag b).body.gq+(dD l).toNat*(s.ag b).body.gq:=Nat.add_mul _ _ _;by_cases pC:(κ b).cap - fT=(dD l).toNat
      ·rw [if_pos pC];exact ⟨_,rfl,by omega,λh=>by omega⟩
      ·rw [if_neg pC];simp only [Option.map_some,vu];exact ⟨_,rfl,by omega,λh=>by omega⟩
    grind
   ·cases g4
  ·rename_i aR;have d':=(a2.cb aR (by simp)).str;split at h
   ·rename_i c v g4;simp only [bR,az.bW,Option.some.injEq] at h;subst h;unfold QE at g4;split at g4
    ·rename_i xs fk;simp only [Option.some.injEq,Prod.mk.injEq] at g4;obtain ⟨rfl,rfl⟩:=g4;refine cK.pure aN bh λa w κ F W be hc=>?_;have au:bw C.P s.ag κ F w (use (a_ C.aZ s.aD x)).2 (a.eval x):=cU W x rfl be.1;rw [fk] at au;obtain ⟨aj,cq⟩:=qf.1 au;obtain ⟨e0,gE⟩:=sc a w κ F W be.2.1 be.2.2;have aA:ByteArray.size ⟨xs.toArray⟩=xs.length:=by rfl
     have:=Q6 (P:=C.P) (w:=w) (isS:=false) (len:=xs.length) (cap:=xs.length) e0 gE hc.1 hc.2.1 hc.2.2 (Nat.le_refl _);refine ⟨.string ⟨((xs.take (gu xs.length mJ).toNat).drop (dD l).toNat).toArray⟩,?_,qf.2 ⟨rfl,by grind⟩⟩;simp only [execOp,al,aj,Instr.sliceAt,Instr.slice,Sem.run_bind,dW d',Result.andThen_ok,Option.map_none,Option.isSome_none,Bool.false_eq_true,if_false,aA,this,Sem.run_pure];have he:ByteArray.extract ⟨xs.toArray⟩ (dD l).toNat (gu xs.length mJ).toNat=⟨((xs.take (gu xs.length mJ).toNat).drop (dD l).toNat).toArray⟩:=by
      apply ByteArray.ext;rw [ByteArray.data_extract];grind
     rw [he]
    grind
   ·cases h
  ·cases h
 ·cases h
end
end Go.Fer
