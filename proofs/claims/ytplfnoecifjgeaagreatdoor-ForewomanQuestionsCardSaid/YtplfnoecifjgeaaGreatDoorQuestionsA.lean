/- Part 1 of the proof of Questions: shallow programs of Go functions, and what they compute. No condition. -/
import Derived.Below
import Derived.OrdersIn
import Derived.RangeFuncCalls
import Derived.RangeFuncSeq
import Derived.Laws.StructEq
import Derived.Laws.Tables
import Derived.ChangeMaps3
noncomputable section
abbrev z1':=List Int
abbrev z2':=List (Int×Int×Int×Int)
abbrev z3':=List (Int×Int×Int)
abbrev z4':=List (Int×Int)
abbrev z5':=List ((Int×Int×Int)×Int)
abbrev z6':=List (Nat×(Nat×Nat))
abbrev z7':=List (Int×Int×Int×Int×Int×Int)
abbrev z8':=List (Nat×Nat)
abbrev z9':=List (Option Nat)
namespace Go.Fer
@[ext] structure A (al:Type):Type where
 cr:Prop
 bR:al->Prop
namespace A
variable {al β gq D aK:Type}
def pure (x:al):A al:=⟨True,λy=>y=x⟩
def bind (m:A al) (f:al->A β):A β:=⟨m.cr/\∀ x,m.bR x->(f x).cr,λy=>∃ x,m.bR x/\(f x).bR y⟩
def ae (p:Prop) (m:A al):A al:=⟨p/\m.cr,m.bR⟩
def dR (p:Prop) (x:al):A al:=⟨p,λy=>y=x⟩
def any (p:al->Prop):A al:=⟨∃ x,p x,p⟩
theorem ext' {m n:A al} (G:m.cr<->n.cr) (V:∀ x,m.bR x<->n.bR x):m=n:=by
 cases m;cases n;simp only [A.mk.injEq];grind
@[simp] theorem jc (x:al):(pure x).cr=True:=rfl
@[simp] theorem awg (x y:al):(pure x).bR y=(y=x):=rfl
@[simp] theorem aJ (x:al) (f:al->A β):bind (pure x) f=f x:=ext' (by simp [bind,pure]) (by simp [bind,pure])
@[simp] theorem awh (m:A al):bind m pure=m:=ext' (by simp [bind,pure]) (by simp [bind,pure])
theorem bH {p:Prop} (h:p) (m:A al):ae p m=m:=ext' (by simp [ae,h]) (by simp [ae])
@[simp] theorem bw (m:A al):ae True m=m:=bH trivial m
theorem EM (p:Prop) (m:A al) (f:al->A β):bind (ae p m) f=ae p (bind m f):=ext' (by simp [bind,ae,and_assoc]) (by simp [bind,ae])
@[simp] theorem nz (x:al):dR True x=pure x:=rfl
theorem bU {p:Prop} (h:p) (x:al):dR p x=pure x:=ext' (by simp_all) (by simp_all)
theorem dI (p:Prop) (x:al) (f:al->A β):bind (dR p x) f=ae p (f x):=by
 apply ext'
 ·simp [bind,dR,ae]
 ·simp [bind,dR,ae]
theorem QP {c:Prop} [Decidable c] (m n:A al) (f:al->A β):bind (if c then m else n) f=if c then bind m f else bind n f:=by grind
def le (n m:A al):Prop:=m.cr->n.cr/\∀ y,n.bR y->m.bR y
theorem le_refl (m:A al):le m m:=λh=>⟨h,λ_ h=>h⟩
theorem le_trans {a b c:A al} (h:le a b) (k:le b c):le a c:=λaG=>⟨(h (k aG).1).1,λy aS=>(k aG).2 y ((h (k aG).1).2 y aS)⟩
theorem le_of_eq {a b:A al} (h:a=b):le a b:=h ▸ le_refl a
def cv (m:A al) (p:al->Prop):Prop:=m.cr/\∀ y,m.bR y->p y
theorem cv.mono {m:A al} {p q:al->Prop} (h:cv m p) (k:∀ y,p y->q y):cv m q:=⟨h.1,λy aS=>k y (h.2 y aS)⟩
theorem ea {x:al} {p:al->Prop}:cv (pure x) p<->p x:=⟨λh=>h.2 x rfl,λh=>⟨trivial,λ_ e=>e ▸ h⟩⟩
theorem fT {m:A al} {f:al->A β} {p:β->Prop}:cv (bind m f) p<->cv m λx=>cv (f x) p:=
 ⟨λh=>⟨h.1.1,λx aj=>⟨h.1.2 x aj,λy aS=>h.2 y ⟨x,aj,aS⟩⟩⟩,λh=>⟨⟨h.1,λx aj=>(h.2 x aj).1⟩,λy ⟨x,aj,aS⟩=>(h.2 x aj).2 y aS⟩⟩
theorem kF {q:Prop} {m:A al} {p:al->Prop}:cv (ae q m) p<->q/\cv m p:=by
 simp [cv,ae,and_assoc]
inductive W (D aK:Type) where
 | next (s:D)
 | done (r:aK)
inductive Bk (body:D->A (W D aK)):D->Prop where
 | mk (s:D) (h:(body s).cr) (k:∀ s',(body s).bR (.next s')->Bk body s'):Bk body s
inductive yA (body:D->A (W D aK)):D->aK->Prop where
 | done (s:D) (r:aK) (h:(body s).bR (.done r)):yA body s r
 | next (s s':D) (r:aK) (h:(body s).bR (.next s')) (k:yA body s' r):yA body s r
def loop (body:D->A (W D aK)) (s:D):A aK:=⟨Bk body s,yA body s⟩
theorem Bl (body:D->A (W D aK)) (s:D) :
  loop body s=bind (body s) fun | .next s'=>loop body s' | .done r=>pure r:=by
 apply ext'
 ·constructor
  ·rintro ⟨_,h,k⟩;refine ⟨h,λx aj=>?_⟩;cases x with
   | next s'=>exact k s' aj
   | done r=>trivial
  ·rintro ⟨h,k⟩;exact ⟨s,h,λs' aG=>k _ aG⟩
 ·intro r;constructor
  ·rintro (⟨_,_,h⟩ | ⟨_,s',_,h,k⟩)
   ·exact ⟨.done r,h,rfl⟩
   ·exact ⟨.next s',h,k⟩
  ·rintro ⟨x,aj,U⟩;cases x with
   | next s'=>exact .next s s' r aj U
   | done pV=>cases U;exact .done s _ aj
theorem Bm {body:D->A (W D aK)} {s s':D} (h:body s=pure (.next s')):loop body s=loop body s':=by
 rw [Bl,h,aJ]
theorem s8 {body:D->A (W D aK)} {s:D} {r:aK} (h:body s=pure (.done r)):loop body s=pure r:=by
 rw [Bl,h,aJ]
theorem Bn {body:D->A (W D aK)} {p:aK->Prop} (I:D->Prop) (Jx:D->Nat)
  (round:∀ s,I s->cv (body s) fun | .next s'=>I s'/\Jx s'<Jx s | .done r=>p r) (s:D) (h:I s):cv (loop body s) p:=by
 have key:∀ n s,Jx s=n->I s->cv (loop body s) p:=by
  intro n;induction n using Nat.strongRecOn with
  | _ n aM=>
   intro s aD aG;rw [Bl,fT];refine (round s aG).mono λy aS=>?_;cases y with
   | next s'=>grind
   | done r=>exact ea.2 aS
 grind
end A
end Go.Fer
namespace Go.Fer
def QQ (b:Nat) (c:Nat->Option Value):Prop:=
 match b with
 | 0=>∃ m,c 0=some (.int .i64 m)
 | 1 | 2=>∃ v,c 0=some v/\(v=.nilIface\/∃ ly l4,v=.iface ly l4)
 | 5=>∀ i,c i=if i<20 then some (.int .u64 (10 ^ i)) else none
 | _=>True
end Go.Fer
namespace Go.Fer
open Go.RowKit
inductive ad where
 | bool | int (k:IntKind) | str | cQ
 | st (t:ad) | aA (a b:ad)
 | slice (e:ad) | array (n:Nat) (e:ad) | bI (e:ad) | map (k v:ad) | fn (a b:ad) | cq (a:ad) | ej
 deriving DecidableEq
@[reducible] def ad.ai:ad->Type
 | .bool=>Bool
 | .int _=>Int
 | .str=>List UInt8
 | .cQ=>Unit
 | .st t=>t.ai
 | .aA a b=>a.ai×b.ai
 | .slice e=>List e.ai
 | .array _ e=>List e.ai
 | .bI e=>Option e.ai
 | .map k v=>List (k.ai×v.ai)
 | .fn a b=>a.ai->A b.ai
 | .cq a=>List a.ai->Prop
 | .ej=>Option Nat
def ad.db:(t:ad)->t.ai
 | .bool=>false
 | .int _=>(0:Int)
 | .str=>[]
 | .cQ=>()
 | .st t=>t.db
 | .aA a b=>(a.db,b.db)
 | .slice _=>[]
 | .array n e=>List.replicate n e.db
 | .bI _=>none
 | .map _ _=>[]
 | .fn _ _=>λ_=>⟨False,λ_=>False⟩
 | .cq _=>λ_=>False
 | .ej=>none
def ad.size:ad->Nat
 | .cQ=>0
 | .st t=>t.size
 | .aA a b=>a.size+b.size
 | .array n e=>n*e.size
 | _=>1
def ad.eC:ad->Bool
 | .cQ | .st _ | .aA _ _ | .array _ _=>false
 | _=>true
def fL (k:IntKind) (n:Int):Prop:=k.min<=n/\n<=k.max
instance (k:IntKind) (n:Int):Decidable (fL k n):=inferInstanceAs (Decidable (_/\_))
def Holds (F:Nat->Prop) (w:World) (p:Addr) (cs:List Value):Prop:=
 F p.block/\p.spot=none/\∀ j (h:j<cs.length),w.cell? ⟨p.block,p.off+j,none⟩=some cs[j]
def cZ (F:Nat->Prop) (w w':World):Prop:=w.heap.size<=w'.heap.size/\∀ r,F r->w'.heap[r]?=w.heap[r]?
theorem cZ.refl (F:Nat->Prop) (w:World):cZ F w w:=⟨Nat.le_refl _,λ_ _=>rfl⟩
theorem cZ.trans {F F':Nat->Prop} {a b c:World} (h:cZ F a b) (bo:∀ r,F r->F' r) (k:cZ F' b c):cZ F a c:=
 ⟨Nat.le_trans h.1 k.1,λr U=>(k.2 r (bo r U)).trans (h.2 r U)⟩
theorem cZ.cell {F:Nat->Prop} {w w':World} (h:cZ F w w') {a:Addr} (ba:F a.block):w'.cell? a=w.cell? a:=by
 simp only [World.cell?,h.2 _ ba]
def nA (P:Program) (F:Nat->Prop) (w:World):Prop:=∀ b,b<P.globals.size->F b/\QQ b λi=>w.cell? ⟨b,i,none⟩
theorem nA.mono {P:Program} {F F':Nat->Prop} {w w':World} (h:nA P F w) (bo:∀ r,F r->F' r) (he:cZ F w w'):nA P F' w':=λb aa=>by
 obtain ⟨G,V⟩:=h b aa;have e:(λi=>w'.cell? ⟨b,i,none⟩)=λi=>w.cell? ⟨b,i,none⟩:=funext λi=>he.cell (a:=⟨b,i,none⟩) G;exact ⟨bo b G,e ▸ V⟩
theorem Holds.mono {F F':Nat->Prop} {w w':World} {p:Addr} {cs:List Value} (h:Holds F w p cs) (bo:∀ r,F r->F' r) (he:cZ F w w'):Holds F' w' p cs:=
 ⟨bo _ h.1,h.2.1,λj aH=>(he.cell (a:=⟨p.block,p.off+j,none⟩) h.1).trans (h.2.2 j aH)⟩
def kG:ad->Value->Prop
 | .st t,v=>∃ cs:Array Value,v=.agg cs/\cs.size=t.size
 | .array n e,v=>∃ cs:Array Value,v=.agg cs/\cs.size=n*e.size
 | .cQ,_=>False
 | .aA _ _,_=>False
 | _,v=>v.cells=#[v]
def ee (aE:List Value):List Value:=aE.flatMap (·.cells.toList)
@[simp] theorem abW:ee []=[]:=rfl
@[simp] theorem Jy (v:Value) (aE:List Value):ee (v::aE)=v.cells.toList++ee aE:=rfl
def wm:ad->List Value->Prop
 | .aA a b,v::aE=>kG a v/\wm b aE
 | .aA _ _,[]=>False
 | .cQ,aE=>aE=[]
 | t,aE=>∃ v,aE=[v]/\kG t v
def yB:ad->Value->List Value->Prop
 | .aA _ _,v,aE=>v=.tuple aE.toArray
 | .cQ,v,aE=>v=.tuple #[]/\aE=[]
 | _,v,aE=>aE=[v]
def uG (F:Nat->Prop) (w w':World):Nat->Prop:=λr=>F r\/(w.heap.size<=r/\r<w'.heap.size)
structure EN (P:Program) {al:Type} (R:(Nat->Prop)->World->List Value->al->Prop) (l:Nat) (S:List al->Prop) (I:List al->Bool->(Nat->Prop)->(Nat->Prop)->World->Prop):Prop where
 Bo:∀ {pre st} {F F' Y:Nat->Prop} {w w':World},I pre st F Y w->(∀ r,F r->F' r)->(∀ r,F r\/Y r->w'.heap[r]?=w.heap[r]?)->w.heap.size<=w'.heap.size->w'.os=w.os/\w'.tape=w.tape/\w'.output=w.output->(∀ r,F' r->r<w'.heap.size)->(∀ r,F' r->¬Y r)->I pre st F' Y w'
 yield:∀ {pre} {F Y:Nat->Prop} {w:World} {args:List Value} {x:al},I pre false F Y w->(∀ r,F r->r<w.heap.size)->(∀ r,Y r->r<w.heap.size/\¬F r)->(∃ T,S (pre++x::T))->R F w args x->
  YieldAt Fence.wide 0 P l args.toArray w λe w'=>∃ (b:Bool) (F' gr:Nat->Prop),e=.returned (.bool b)/\(∀ r,F r->F' r)/\(∀ r,F' r->F r\/Y r\/w.heap.size<=r)/\(∀ r,F' r->r<w'.heap.size)/\
   (∀ r,r<w.heap.size->¬Y r->w'.heap[r]?=w.heap[r]?)/\(∀ r,gr r->(Y r\/w.heap.size<=r)/\r<w'.heap.size/\¬F' r)/\w.heap.size<=w'.heap.size/\(w'.os=w.os/\w'.tape=w.tape/\w'.output=w.output)/\I (pre++[x]) (!b) F' gr w'
def QR {al:Type} (S:List al->Prop) (I:List al->Bool->(Nat->Prop)->(Nat->Prop)->World->Prop) (F Y:Nat->Prop) (w:World) (e:Ending) (w':World):Prop:=
 ∃ v pre st F' gr,e=.returned v/\(st=false->S pre)/\I pre st F' gr w'/\(∀ r,F r->F' r)/\(∀ r,F' r->F r\/Y r\/w.heap.size<=r)/\(∀ r,F' r->r<w'.heap.size)/\
  (∀ r,r<w.heap.size->¬Y r->w'.heap[r]?=w.heap[r]?)/\(∀ r,gr r->(Y r\/w.heap.size<=r)/\r<w'.heap.size/\¬F' r)/\w.heap.size<=w'.heap.size/\(w'.os=w.os/\w'.tape=w.tape/\w'.output=w.output)
def abX:Option Nat->Value
 | none=>.nilFunc
 | some k=>.func (.func k) #[] #[]
def bK (P:Program):(t:ad)->(Nat->Prop)->World->List Value->t.ai->Prop
 | .bool,_,_,cs,x=>cs=[.bool x]
 | .int k,_,_,cs,x=>cs=[.int k x]/\fL k x
 | .str,_,_,cs,x=>cs=[.string ⟨x.toArray⟩]/\x.length<2 ^ 63
 | .cQ,_,_,cs,_=>cs=[]
 | .st t,F,w,cs,x=>bK P t F w cs x
 | .aA a b,F,w,cs,x=>∃ c d,cs=c++d/\bK P a F w c x.1/\bK P b F w d x.2
 | .slice e,F,w,cs,xs=>∃ a cap,cs=[.slice a xs.length cap]/\xs.length<=cap/\cap<2 ^ 63/\(a=none->cap=0)/\
   ∀ p,a=some p->0<cap->F p.block/\p.spot=none/\∀ i (h:i<xs.length),∃ bk,Holds F w ⟨p.block,p.off+i*e.size,none⟩ bk/\bK P e F w bk xs[i]
 | .array n e,F,w,cs,xs=>∃ fk:List (List Value),cs=fk.flatten/\fk.length=n/\xs.length=n/\∀ i (h:i<xs.length) (ds:i<fk.length),bK P e F w fk[i] xs[i]
 | .bI e,F,w,cs,x=>(cs=[.pointer none]/\x=none)\/∃ p y bk,cs=[.pointer (some p)]/\x=some y/\Holds F w p bk/\bK P e F w bk y
 | .map k v,F,w,cs,xs=>(cs=[.map none]/\xs=[])\/∃ r es clk,cs=[.map (some r)]/\F r/\w.heap[r]?=some (.map es clk)/\es.size=xs.length/\(xs.map (·.1)).Nodup/\
   (∀ i (h:i<xs.length) (ds:i<es.size),kG k es[i].key/\bK P k F w es[i].key.cells.toList xs[i].1/\kG v es[i].val/\bK P v F w es[i].val.cells.toList xs[i].2/\es[i].born<clk)/\
   (∀ i j (h:i<es.size) (ds:j<es.size),es[i].born=es[j].born->i=j)
 | .fn a b,F,w,cs,f=>∃ u,cs=[u]/\(u.cells=#[u]/\u.oneCell'=true)/\∀ (F':Nat->Prop) (w':World),(∀ r,F r->F' r)->cZ F w w'->(∀ r,F' r->r<w'.heap.size)->nA P F' w'->
   ∀ args x,wm a args->bK P a F' w' (ee args) x->(f x).cr->∃ g cW,u=.func (.func g) #[] cW/\(∀ as w,(callFunc g as).run P w=.ok (.enter g as) w)/\
    Calls P g (args.toArray++cW) w' λe s9=>∃ v y aE,e=.returned v/\(f x).bR y/\yB b v aE/\wm b aE/\bK P b (uG F' w' s9) s9 (ee aE) y/\Below w'.heap.size w' s9
 | .cq a,F,w,cs,S=>∃ u,cs=[u]/\(u.cells=#[u]/\u.oneCell'=true)/\∀ (F':Nat->Prop) (w':World),(∀ r,F r->F' r)->cZ F w w'->(∀ r,F' r->r<w'.heap.size)->nA P F' w'->
   (∃ L,S L)->∃ g cW,u=.func (.func g) #[] cW/\(∀ as w,(callFunc g as).run P w=.ok (.enter g as) w)/\
    ∀ (l:Nat) (I:List a.ai->Bool->(Nat->Prop)->(Nat->Prop)->World->Prop) (Y:Nat->Prop),(∀ r,Y r->r<w'.heap.size/\¬F' r)->
     EN P (λF w args x=>wm a args/\bK P a F w (ee args) x) l S I->I [] false F' Y w'->Calls P g (#[Value.func (.yield l) #[] #[]]++cW) w' (QR S I F' Y w')
 | .ej,_,_,cs,x=>cs=[abX x]
theorem hM {P:Program}:∀ (t:ad) {F:Nat->Prop} {w:World} {cs:List Value} {x:t.ai},bK P t F w cs x->cs.length=t.size:=by
 intro t;induction t with
 | bool=>intro F w cs x h;simp only [bK] at h;simp [h,ad.size]
 | int k=>intro F w cs x h;simp only [bK] at h;simp [h.1,ad.size]
 | str=>intro F w cs x h;simp only [bK] at h;simp [h.1,ad.size]
 | cQ=>intro F w cs x h;simp only [bK] at h;simp [h,ad.size]
 | st t aM=>intro F w cs x h;simp only [bK] at h;exact aM h
 | aA a b fv eJ=>
  intro F w cs x h;simp only [bK] at h;obtain ⟨c,d,rfl,ba,aa⟩:=h;simp [ad.size,fv ba,eJ aa]
 | slice e aM=>intro F w cs x h;simp only [bK] at h;obtain ⟨a,cap,rfl,_⟩:=h;rfl
 | array n e aM=>
  intro F w cs x h;simp only [bK] at h;obtain ⟨fk,rfl,G,V,ah⟩:=h;have:∀ l∈fk,l.length=e.size:=by
   intro l ak;obtain ⟨i,M,rfl⟩:=List.mem_iff_getElem.1 ak;grind
  have a7:fk.map List.length=List.replicate n e.size:=by
   rw [<-G];exact List.eq_replicate_iff.2 ⟨by simp,by grind⟩
  simp [List.length_flatten,a7,ad.size]
 | bI e aM=>intro F w cs x h;simp only [bK] at h;rcases h with ⟨rfl,_⟩ | ⟨p,y,bk,rfl,_⟩<;>rfl
 | map k v wo wq=>intro F w cs x h;simp only [bK] at h;rcases h with ⟨rfl,_⟩ | ⟨r,es,clk,rfl,_⟩<;>rfl
 | fn a b fv eJ=>intro F w cs x h;simp only [bK] at h;obtain ⟨u,rfl,_⟩:=h;rfl
 | cq a aM=>intro F w cs x h;simp only [bK] at h;obtain ⟨u,rfl,_⟩:=h;rfl
 | ej=>intro F w cs x h;simp only [bK] at h;subst h;rfl
theorem e' {P:Program}:∀ (t:ad) {F F':Nat->Prop} {w w':World} {cs:List Value} {x:t.ai},(∀ r,F r->F' r)->cZ F w w'->bK P t F w cs x->bK P t F' w' cs x:=by
 intro t;induction t with
 | bool=>intro F F' w w' cs x _ _ h;exact h
 | int k=>intro F F' w w' cs x _ _ h;exact h
 | str=>intro F F' w w' cs x _ _ h;exact h
 | cQ=>intro F F' w w' cs x _ _ h;exact h
 | st t aM=>intro F F' w w' cs x bo he h;simp only [bK] at h ⊢;grind
 | aA a b fv eJ=>
  intro F F' w w' cs x bo he h;simp only [bK] at h ⊢;grind
 | slice e aM=>
  intro F F' w w' cs x bo he h;simp only [bK] at h ⊢;obtain ⟨a,cap,rfl,G,V,ah,a7⟩:=h;refine ⟨a,cap,rfl,G,V,ah,λp ar hc=>?_⟩;obtain ⟨aU,aX,bP⟩:=a7 p ar hc;refine ⟨bo _ aU,aX,λi M=>?_⟩;obtain ⟨bk,m1,m2⟩:=bP i M;exact ⟨bk,m1.mono bo he,aM bo he m2⟩
 | array n e aM=>
  intro F F' w w' cs x bo he h;simp only [bK] at h ⊢;grind
 | bI e aM=>
  intro F F' w w' cs x bo he h;simp only [bK] at h ⊢;rcases h with h | ⟨p,y,bk,G,V,ah,a7⟩
  ·grind
  ·exact .inr ⟨p,y,bk,G,V,ah.mono bo he,aM bo he a7⟩
 | map k v wo wq=>
  intro F F' w w' cs x bo he h;simp only [bK] at h ⊢;rcases h with h | ⟨r,es,clk,G,V,ah,a7,bM,dr,fY⟩
  ·grind
  ·refine .inr ⟨r,es,clk,G,bo _ V,(he.2 _ V).trans ah,a7,bM,λi M dM=>?_,fY⟩;grind
 | fn a b fv eJ=>
  intro F F' w w' cs x bo he h;simp only [bK] at h ⊢;obtain ⟨u,rfl,hu,G⟩:=h;exact ⟨u,rfl,hu,λJz s9 s_ Bp aG=>G Jz s9 (λr U=>s_ r (bo r U)) (he.trans bo Bp) aG⟩
 | cq a aM=>
  intro F F' w w' cs x bo he h;simp only [bK] at h ⊢;obtain ⟨u,rfl,hu,G⟩:=h;exact ⟨u,rfl,hu,λJz s9 s_ Bp aG=>G Jz s9 (λr U=>s_ r (bo r U)) (he.trans bo Bp) aG⟩
 | ej=>intro F F' w w' cs x _ _ h;exact h
def ek (P:Program) (t:ad) (F:Nat->Prop) (w:World) (v:Value) (x:t.ai):Prop:=kG t v/\bK P t F w v.cells.toList x
def fl (P:Program) (t:ad) (F:Nat->Prop) (w:World) (aE:List Value) (x:t.ai):Prop:=wm t aE/\bK P t F w (ee aE) x
def ta (P:Program) (t:ad) (F:Nat->Prop) (w:World) (v:Value) (x:t.ai):Prop:=∃ aE,yB t v aE/\fl P t F w aE x
theorem ek.mono {P:Program} {t:ad} {F F':Nat->Prop} {w w':World} {v:Value} {x:t.ai} (h:ek P t F w v x) (bo:∀ r,F r->F' r) (he:cZ F w w'):ek P t F' w' v x:=
 ⟨h.1,e' t bo he h.2⟩
theorem EO {v:Value} (h:v.oneCell'=true):v.cells=#[v]:=by
 cases v<;>first | rfl | cases h
theorem QS {v:Value} (h:v.cells=#[v]):v.cells.toList=[v]:=by rw [h]
theorem kG.len {t:ad} {v:Value} (h:kG t v):v.cells.toList.length=t.size:=by
 cases t<;>simp only [kG] at h<;>first
  | (obtain ⟨cs,rfl,h⟩:=h;simpa [Value.cells,ad.size] using h)
  | (rw [QS h];rfl)
  | exact h.elim
theorem Bq {P:Program} {a b:ad} {F:Nat->Prop} {w:World} {v:Value} {aE:List Value} {x:a.ai} {y:b.ai} :
  fl P (.aA a b) F w (v::aE) (x,y)<->ek P a F w v x/\fl P b F w aE y:=by
 constructor
 ·rintro ⟨⟨G,V⟩,c,d,e,hc,ay⟩;have ak:=hM a hc;have:=List.append_inj e (by rw [ak];exact G.len);rw [Jy] at e;obtain ⟨aF,bB⟩:=this;subst aF;subst bB;exact ⟨⟨G,hc⟩,V,ay⟩
 ·rintro ⟨⟨G,V⟩,ah,a7⟩;exact ⟨⟨G,ah⟩,_,_,rfl,V,a7⟩
theorem EP {P:Program} {a b:ad} {F:Nat->Prop} {w:World} {aE:List Value} {x:(ad.aA a b).ai} (h:fl P (.aA a b) F w aE x) :
  ∃ v us,aE=v::us/\ek P a F w v x.1/\fl P b F w us x.2:=by
 cases aE with
 | nil=>exact h.1.elim
 | cons v us=>exact ⟨v,us,rfl,Bq.1 h⟩
def ad.gu:ad->Bool
 | .aA _ _ | .cQ=>false
 | _=>true
theorem rI {P:Program} {t:ad} (aL:t.gu=true) {F:Nat->Prop} {w:World} {aE:List Value} {x:t.ai} :
  fl P t F w aE x<->∃ v,aE=[v]/\ek P t F w v x:=by
 have key:wm t aE<->∃ v,aE=[v]/\kG t v:=by cases t<;>simp [ad.gu,wm] at aL ⊢
 unfold fl ek;rw [key];constructor
 ·rintro ⟨⟨v,rfl,af⟩,h⟩;exact ⟨v,rfl,af,by simpa using h⟩
 ·rintro ⟨v,rfl,af,h⟩;exact ⟨⟨v,rfl,af⟩,by simpa using h⟩
section
variable {P:Program} {F:Nat->Prop} {w:World} {v:Value}
@[simp] theorem fa {x:Bool}:ek P .bool F w v x<->v=.bool x:=by
 constructor
 ·rintro ⟨G,V⟩;simp only [kG] at G;simp only [bK] at V;rw [QS G] at V;simpa using V
 ·rintro rfl;exact ⟨by simp [kG,Value.cells],by simp [bK,Value.cells]⟩
theorem gP {k:IntKind} {x:Int}:ek P (.int k) F w v x<->v=.int k x/\fL k x:=by
 constructor
 ·rintro ⟨G,V⟩;simp only [kG] at G;simp only [bK] at V;grind
 ·rintro ⟨rfl,h⟩;exact ⟨by rfl,by simpa [bK,Value.cells] using h⟩
theorem l5 {x:List UInt8}:ek P .str F w v x<->v=.string ⟨x.toArray⟩/\x.length<2 ^ 63:=by
 constructor
 ·rintro ⟨G,V⟩;simp only [kG] at G;simp only [bK] at V;grind
 ·rintro ⟨rfl,h⟩;exact ⟨by rfl,by simpa [bK,Value.cells] using h⟩
theorem dV {t:ad} (aL:t.eC=true) {x:t.ai}:ek P t F w v x<->v.cells=#[v]/\bK P t F w [v] x:=by
 have G:kG t v<->v.cells=#[v]:=by cases t<;>simp [ad.eC,kG] at aL ⊢
 unfold ek;grind
theorem JA {t:ad} (aL:t.eC=true) {F:Nat->Prop} {w:World} {u:Value} {x:t.ai} (h:bK P t F w [u] x):u.oneCell'=true:=by
 cases t<;>simp only [ad.eC,bK] at aL h<;>try contradiction
 ·obtain rfl:=(List.cons.inj h).1;rfl
 ·obtain rfl:=(List.cons.inj h.1).1;rfl
 ·obtain rfl:=(List.cons.inj h.1).1;rfl
 ·obtain ⟨a,cap,h,_⟩:=h;obtain rfl:=(List.cons.inj h).1;rfl
 ·rcases h with ⟨h,_⟩ | ⟨p,y,bk,h,_⟩<;>(obtain rfl:=(List.cons.inj h).1;rfl)
 ·rcases h with ⟨h,_⟩ | ⟨r,es,clk,h,_⟩<;>(obtain rfl:=(List.cons.inj h).1;rfl)
 ·obtain ⟨mB,h,hu,_⟩:=h;obtain rfl:=(List.cons.inj h).1;exact hu.2
 ·obtain ⟨mB,h,hu,_⟩:=h;obtain rfl:=(List.cons.inj h).1;exact hu.2
 ·obtain rfl:=(List.cons.inj h).1;cases x<;>rfl
theorem Br {t:ad} (aL:t.eC=true) {F:Nat->Prop} {w:World} {cs:List Value} {x:t.ai} (h:bK P t F w cs x):∃ u,cs=[u]/\u.cells=#[u]:=by
 cases t<;>simp only [ad.eC,bK] at aL h<;>try contradiction
 ·exact ⟨_,h,rfl⟩
 ·exact ⟨_,h.1,rfl⟩
 ·exact ⟨_,h.1,rfl⟩
 ·obtain ⟨a,cap,rfl,_⟩:=h;exact ⟨_,rfl,rfl⟩
 ·rcases h with ⟨rfl,_⟩ | ⟨p,y,bk,rfl,_⟩<;>exact ⟨_,rfl,rfl⟩
 ·rcases h with ⟨rfl,_⟩ | ⟨r,es,clk,rfl,_⟩<;>exact ⟨_,rfl,rfl⟩
 ·obtain ⟨u,rfl,hu,_⟩:=h;exact ⟨u,rfl,hu.1⟩
 ·obtain ⟨u,rfl,hu,_⟩:=h;exact ⟨u,rfl,hu.1⟩
 ·exact ⟨_,h,by cases x<;>rfl⟩
end
structure h0 (P:Program) (k:FuncId) (ts aW:ad) (sh:ts.ai->A aW.ai):Prop where
 enter:∀ args w,(callFunc k args).run P w=.ok (.enter k args) w
 iO:∀ (F:Nat->Prop) (w:World) (args:List Value) (x:ts.ai),(∀ r,F r->r<w.heap.size)->nA P F w->fl P ts F w args x->(sh x).cr->
  Calls P k args.toArray w λe w'=>∃ v y,e=.returned v/\(sh x).bR y/\ta P aW (uG F w w') w' v y/\Below w.heap.size w w'
structure QT (P:Program) (k:FuncId) (ts aW:ad) (sh:ts.ai->A aW.ai):Prop where
 iO:∀ (F:Nat->Prop) (w:World) (args:List Value) (x:ts.ai),(∀ r,F r->r<w.heap.size)->nA P F w->fl P ts F w args x->(sh x).cr->
  Calls P k args.toArray w λe w'=>∃ v y,e=.returned v/\(sh x).bR y/\ta P aW (λr=>w.heap.size<=r/\r<w'.heap.size) w' v y/\Below w.heap.size w w'
def f_:List ad->ad
 | []=>.cQ
 | [t]=>t
 | t::u::l=>.aA t (f_ (u::l))
def ER:(as bs:List ad)->(f_ as).ai->(f_ bs).ai->(f_ (as++bs)).ai
 | [],_,_,y=>y
 | [_],[],x,_=>x
 | [_],_::_,x,y=>(x,y)
 | _::u::l,bs,x,y=>(x.1,ER (u::l) bs x.2 y)
theorem QU {P:Program} {F:Nat->Prop} {w:World}:∀ (as bs:List ad),as.all ad.gu=true->∀ {aE us:List Value} {x:(f_ as).ai} {y:(f_ bs).ai},fl P (f_ as) F w aE x->fl P (f_ bs) F w us y->fl P (f_ (as++bs)) F w (aE++us) (ER as bs x y)
 | [],bs,_,aE,us,x,y,G,V=>by
  obtain rfl:aE=[]:=G.1;exact V
 | [t],[],_,aE,us,x,y,G,V=>by
  obtain rfl:us=[]:=V.1;have e:aE++[]=aE:=List.append_nil aE;rw [e];exact G
 | [t],b::bs,h,aE,us,x,y,G,V=>by
  have aL:t.gu=true:=by grind
  obtain ⟨v,rfl,af⟩:=(rI aL).1 G;exact Bq.2 ⟨af,V⟩
 | t::u::l,bs,h,aE,us,x,y,G,V=>by
  obtain ⟨v,rJ,rfl,ah,a7⟩:=EP (a:=t) (b:=f_ (u::l)) G;have ak:(u::l).all ad.gu=true:=by
   grind
  have:=QU (u::l) bs ak a7 V;exact Bq.2 ⟨ah,this⟩
structure abY where
 ts:ad
 aW:ad
 sh:ts.ai->A aW.ai
structure ES where
 as:List ad
 cs:List ad
 aW:ad
 sh:(f_ (as++cs.map .bI)).ai->A aW.ai
structure wu where
 cs:List ad
 aN:ad
 S:(f_ (cs.map .bI)).ai->List aN.ai->Prop
structure wv (P:Program) (k:FuncId) (v:wu):Prop where
 enter:∀ args w,(callFunc k args).run P w=.ok (.enter k args) w
 iO:∀ (F:Nat->Prop) (w:World) (cW:List Value) (x:(f_ (v.cs.map .bI)).ai),(∀ r,F r->r<w.heap.size)->nA P F w->fl P (f_ (v.cs.map .bI)) F w cW x->(∃ L,v.S x L)->
  ∀ (l:Nat) (I:List v.aN.ai->Bool->(Nat->Prop)->(Nat->Prop)->World->Prop) (Y:Nat->Prop),(∀ r,Y r->r<w.heap.size/\¬F r)->
   EN P (fl P v.aN) l (v.S x) I->I [] false F Y w->Calls P k (#[Value.func (.yield l) #[] #[]]++cW.toArray) w (QR (v.S x) I F Y w)
structure dE where
 tb:Nat->Option abY
 tc:Nat->Option ES
 wx:Nat->Option wu:=λ_=>none
structure qF (P:Program) (aR:dE):Prop where
 tb:∀ k v,aR.tb k=some v->h0 P k v.ts v.aW v.sh
 tc:∀ k v,aR.tc k=some v->v.as.all ad.gu=true/\h0 P k (f_ (v.as++v.cs.map .bI)) v.aW v.sh
 wx:∀ k v,aR.wx k=some v->wv P k v:=by intro k v h;cases h
theorem abZ {P:Program} {k:FuncId} {ts aW:ad} {sh:ts.ai->A aW.ai} (h:h0 P k ts aW sh) (F:Nat->Prop) (w:World):bK P (.fn ts aW) F w [.func (.func k) #[] #[]] sh:=by
 refine ⟨_,rfl,⟨rfl,rfl⟩,λF' w' _ _ aG aC args x G V ah=>⟨k,#[],rfl,h.enter,?_⟩⟩;have:=h.iO F' w' args x aG aC ⟨G,V⟩ ah;simp only [Array.append_empty];exact this.mono λe s9 ⟨v,y,aF,bB,⟨aE,di,gv,h1⟩,mC⟩=>⟨v,y,aE,aF,bB,di,gv,h1,mC⟩
end Go.Fer
namespace Go.Fer
open Go.RowKit
inductive aI where
 | undef
 | val (t:ad) (x:t.ai)
 | hz (b:Bool) (a:aI)
 | a1 (b g off:Nat)
 | an (b g:Nat)
 | n' (b g i off:Nat)
 | dW (t:ad) (x:t.ai)
 | fb (b g:Nat)
 | iu (k:FuncId) (n:Nat) (cW:Nat->aI)
 | rK (k:FuncId) (n:Nat) (first:Nat->aI)
 | pW (n:Nat) (f:Nat->aI)
 | agg (n:Nat) (f:Nat->aI)
 | df
 | jy (v:Value)
 | j0 (b g:Nat)
 | aW (l:Nat) (aN:ad) (S:List aN.ai->Prop) (pre:List aN.ai) (st:Bool)
 | g_ (l:Nat)
 | sub (b g aZ M:Nat)
 | wy (e:ad) (xs:List e.ai)
 | iP (b g i:Nat)
inductive bQ where
 | fw
 | cells (t:ad) (f:Nat->aI)
 | bj (e:ad) (xs:List e.ai)
 | hA (e:ad) (xs:List e.ai)
 | mp (k v:ad) (es:List (k.ai×v.ai))
 | gD (t:ad) (x:t.ai)
 | iQ (k v:ad) (es:List (k.ai×v.ai))
 | cq (k v:ad) (cur:Option (k.ai×v.ai)) (cm:List (k.ai×v.ai))
 | f' (e:ad) (xs:List e.ai) (i:Nat) (v:aI)
structure bL where
 gen:Nat
 body:bQ
structure bD where
 ab:Nat
 off:Nat
 cap:Nat
 e3:Bool
structure aB where
 az:Nat->aI
 ab:Nat->bL
def bQ.fC:bQ->Bool | .cells _ _=>true | .gD _ _=>true | _=>false
def bQ.fc:bQ->Bool | .bj _ _=>true | .hA _ _=>true | .f' _ _ _ _=>true | _=>false
def bQ.gQ:bQ->Bool | .mp _ _ _=>true | .iQ _ _ _=>true | _=>false
def bQ.mD:bQ->Bool | .cq _ _ _ _=>true | _=>false
def bQ.len:bQ->Nat | .bj _ xs=>xs.length | .hA _ xs=>xs.length | .f' _ xs _ _=>xs.length | _=>0
def bQ.eY:bQ->Nat | .bj e _=>e.size | .hA e _=>e.size | .f' e _ _ _=>e.size | _=>0
def bQ.b1 (k:bD):bQ->Bool | .cells _ _=>true | .bj _ _=>!k.e3 | .mp _ _ _=>true | .cq _ _ _ _=>true | .f' _ _ _ _=>!k.e3 | _=>false
def bD.slice (k:bD) (n:Nat):Value:=if k.e3 then .slice none 0 0 else .slice (some ⟨k.ab,k.off,none⟩) n k.cap
def ET (k:bD) (eY aZ M:Nat) (v:Value):Prop:=
 (k.e3=true/\v=.slice none 0 0)\/(k.e3=false/\∃ o,v=.slice (some ⟨k.ab,o,none⟩) (M - aZ) (k.cap - aZ)/\o<=k.off+aZ*eY/\(aZ<k.cap->o=k.off+aZ*eY))
def bA (P:Program) (H:Nat->bL) (κ:Nat->bD) (F:Nat->Prop) (w:World):aI->Value->Prop
 | .undef,_=>True
 | .val t x,v=>ek P t F w v x
 | .hz b a,v=>(b=true->bA P H κ F w a v)/\(b=false->v=Go.undef)
 | .a1 b g off,v=>(g<=(H b).gen/\v.oneCell'=true)/\(g=(H b).gen->(H b).body.fC=true->v=.pointer (some ⟨(κ b).ab,off,none⟩))
 | .an b g,v=>(g<=(H b).gen/\v.oneCell'=true)/\(g=(H b).gen->(H b).body.fc=true->v=(κ b).slice (H b).body.len)
 | .n' b g i off,v=>(g<=(H b).gen/\v.oneCell'=true)/\(g=(H b).gen->(H b).body.fc=true->i<(H b).body.len/\(κ b).e3=false/\v=.pointer (some ⟨(κ b).ab,(κ b).off+i*(H b).body.eY+off,none⟩))
 | .iP b g i,v=>(g<=(H b).gen/\v.oneCell'=true)/\(g=(H b).gen->(H b).body.fc=true->i<(H b).body.len/\(κ b).e3=false/\v=.pointer (some ⟨(κ b).ab,(κ b).off+i*(H b).body.eY,none⟩))
 | .dW t x,v=>∃ p bk,v=.pointer (some p)/\Holds F w p bk/\bK P t F w bk x
 | .fb b g,v=>(g<=(H b).gen/\v.oneCell'=true)/\(g=(H b).gen->(H b).body.gQ=true->v=.map (some (κ b).ab))
 | .iu k n cW,v=>∃ aE:List Value,v=.func (.func k) #[] aE.toArray/\aE.length=n/\∀ i,i<n->bA P H κ F w (cW i) (aE.getD i Go.undef)
 | .rK k n f,v=>∃ aE:List Value,v=.func (.func k) aE.toArray #[]/\aE.length=n/\∀ i,i<n->bA P H κ F w (f i) (aE.getD i Go.undef)
 | .pW n f,v=>∃ aE:List Value,v=.tuple aE.toArray/\aE.length=n/\∀ i,i<n->bA P H κ F w (f i) (aE.getD i Go.undef)
 | .agg n f,v=>∃ aE:List Value,v=.agg aE.toArray/\aE.length=n/\∀ i,i<n->bA P H κ F w (f i) (aE.getD i Go.undef)/\(aE.getD i Go.undef).oneCell'=true
 | .df,v=>v=.slice none 0 0
 | .jy u,v=>v=u
 | .j0 b g,v=>(g<=(H b).gen/\v.oneCell'=true)/\(g=(H b).gen->(H b).body.mD=true->v=.pointer (some ⟨(κ b).ab,0,none⟩))
 | .aW _ _ _ _ _,_=>True
 | .g_ l,v=>v=.func (.yield l) #[] #[]
 | .wy e xs,v=>ek P (.slice e) F w v xs/\∃ q,v=.slice q xs.length xs.length
 | .sub b g aZ M,v=>(g<=(H b).gen/\v.oneCell'=true)/\(g=(H b).gen->(H b).body.fc=true->(aZ<=M/\M<=(H b).body.len)/\ET (κ b) (H b).body.eY aZ M v)
def fm (H:Nat->bL) (κ:Nat->bD) (H':Nat->bL) (κ':Nat->bD):Prop:=
 ∀ b,(H b).gen<=(H' b).gen/\((H b).gen=(H' b).gen->
  ((H' b).body.fC=true->(H b).body.fC=true/\(κ' b).ab=(κ b).ab)/\
  ((H' b).body.fc=true->(H b).body.fc=true/\κ' b=κ b/\(H' b).body.len=(H b).body.len/\(H' b).body.eY=(H b).body.eY)/\
  ((H' b).body.gQ=true->(H b).body.gQ=true/\(κ' b).ab=(κ b).ab)/\
  ((H' b).body.mD=true->(H b).body.mD=true/\(κ' b).ab=(κ b).ab))
theorem fm.refl (H:Nat->bL) (κ:Nat->bD):fm H κ H κ:=λ_=>⟨Nat.le_refl _,λ_=>⟨λh=>⟨h,rfl⟩,λh=>⟨h,rfl,rfl,rfl⟩,λh=>⟨h,rfl⟩,λh=>⟨h,rfl⟩⟩⟩
def pX (x y:bL) (k k':bD):Prop:=
 x.gen<=y.gen/\(x.gen=y.gen->
  (y.body.fC=true->x.body.fC=true/\k'.ab=k.ab)/\
  (y.body.fc=true->x.body.fc=true/\k'=k/\y.body.len=x.body.len/\y.body.eY=x.body.eY)/\
  (y.body.gQ=true->x.body.gQ=true/\k'.ab=k.ab)/\
  (y.body.mD=true->x.body.mD=true/\k'.ab=k.ab))
theorem pX.refl (x:bL) (k:bD):pX x x k k:=⟨Nat.le_refl _,λ_=>⟨λh=>⟨h,rfl⟩,λh=>⟨h,rfl,rfl,rfl⟩,λh=>⟨h,rfl⟩,λh=>⟨h,rfl⟩⟩⟩
theorem Bs {H:Nat->bL} {κ:Nat->bD} {H':Nat->bL} {κ':Nat->bD}:fm H κ H' κ'<->∀ b,pX (H b) (H' b) (κ b) (κ' b):=Iff.rfl
theorem bA.later {P:Program} {H H':Nat->bL} {κ κ':Nat->bD} {F F':Nat->Prop} {w w':World} (ak:fm H κ H' κ') (bo:∀ r,F r->F' r) (he:cZ F w w') :
  ∀ {a:aI} {v:Value},bA P H κ F w a v->bA P H' κ' F' w' a v:=by
 intro a;induction a with
 | undef=>intro v h;trivial
 | val t x=>intro v h;exact ek.mono h bo he
 | hz b a aM=>intro v h;exact ⟨λaa=>aM (h.1 aa),h.2⟩
 | a1 b g off=>
  intro v h;obtain ⟨G,V⟩:=h;obtain ⟨aU,aX⟩:=ak b;refine ⟨⟨Nat.le_trans G.1 aU,G.2⟩,λaC hc=>?_⟩;grind
 | an b g=>
  intro v h;obtain ⟨G,V⟩:=h;obtain ⟨aU,aX⟩:=ak b;refine ⟨⟨Nat.le_trans G.1 aU,G.2⟩,λaC hc=>?_⟩;grind
 | n' b g i off=>
  intro v h;obtain ⟨G,V⟩:=h;obtain ⟨aU,aX⟩:=ak b;refine ⟨⟨Nat.le_trans G.1 aU,G.2⟩,λaC hc=>?_⟩;grind
 | iP b g i=>
  intro v h;obtain ⟨G,V⟩:=h;obtain ⟨aU,aX⟩:=ak b;refine ⟨⟨Nat.le_trans G.1 aU,G.2⟩,λaC hc=>?_⟩;grind
 | dW t x=>
  intro v h;obtain ⟨p,bk,G,V,ah⟩:=h;exact ⟨p,bk,G,V.mono bo he,e' t bo he ah⟩
 | fb b g=>
  intro v h;obtain ⟨G,V⟩:=h;obtain ⟨aU,aX⟩:=ak b;refine ⟨⟨Nat.le_trans G.1 aU,G.2⟩,λaC hc=>?_⟩;grind
 | j0 b g=>
  intro v h;obtain ⟨G,V⟩:=h;obtain ⟨aU,aX⟩:=ak b;refine ⟨⟨Nat.le_trans G.1 aU,G.2⟩,λaC hc=>?_⟩;grind
 | sub b g aZ M=>
  intro v h;obtain ⟨G,V⟩:=h;obtain ⟨aU,aX⟩:=ak b;refine ⟨⟨Nat.le_trans G.1 aU,G.2⟩,λaC hc=>?_⟩;grind
 | aW l aN L n st=>intro v _;trivial
 | g_ l=>intro v h;exact h
 | wy e xs=>intro v h;exact ⟨ek.mono h.1 bo he,h.2⟩
 | iu k n cW aM=>
  intro v h;obtain ⟨aE,G,V,ah⟩:=h;exact ⟨aE,G,V,λi M=>aM i (ah i M)⟩
 | rK k n f aM=>
  intro v h;obtain ⟨aE,G,V,ah⟩:=h;exact ⟨aE,G,V,λi M=>aM i (ah i M)⟩
 | pW n f aM=>
  intro v h;obtain ⟨aE,G,V,ah⟩:=h;exact ⟨aE,G,V,λi M=>aM i (ah i M)⟩
 | agg n f aM=>
  intro v h;obtain ⟨aE,G,V,ah⟩:=h;exact ⟨aE,G,V,λi M=>⟨aM i (ah i M).1,(ah i M).2⟩⟩
 | df=>intro v h;exact h
 | jy u=>intro v h;exact h
def uH (P:Program) (k v:ad) (F:Nat->Prop) (w:World) (es:Array MapEntry) (clk:Nat) (xs:List (k.ai×v.ai)):Prop:=
 es.size=xs.length/\(xs.map (·.1)).Nodup/\
 (∀ i (h:i<xs.length) (ds:i<es.size),kG k es[i].key/\bK P k F w es[i].key.cells.toList xs[i].1/\kG v es[i].val/\bK P v F w es[i].val.cells.toList xs[i].2/\es[i].born<clk)/\
 (∀ i j (h:i<es.size) (ds:j<es.size),es[i].born=es[j].born->i=j)
theorem uH.mono {P:Program} {k v:ad} {F F':Nat->Prop} {w w':World} {es:Array MapEntry} {clk:Nat} {xs:List (k.ai×v.ai)} (h:uH P k v F w es clk xs) (bo:∀ r,F r->F' r) (he:cZ F w w') :
  uH P k v F' w' es clk xs:=
 ⟨h.1,h.2.1,λi M dM=>let ⟨a,b,c,d,e⟩:=h.2.2.1 i M dM;⟨a,e' k bo he b,c,e' v bo he d,e⟩,h.2.2.2⟩
def lz (P:Program) (e:ad) (F:Nat->Prop) (w:World) (cs:Array Value) (off:Nat) (xs:List e.ai):Prop:=
 ∀ i (h:i<xs.length),∃ bk,(∀ j (h:j<bk.length),cs[off+i*e.size+j]?=some bk[j])/\bK P e F w bk xs[i]
theorem lz.mono {P:Program} {e:ad} {F F':Nat->Prop} {w w':World} {cs:Array Value} {off:Nat} {xs:List e.ai} (h:lz P e F w cs off xs) (bo:∀ r,F r->F' r) (he:cZ F w w') :
  lz P e F' w' cs off xs:=λi M=>let ⟨bk,a,b⟩:=h i M;⟨bk,a,e' e bo he b⟩
def yC (P:Program) (k v:ad) (F:Nat->Prop) (w:World) (e:MapEntry) (x:k.ai×v.ai):Prop:=
 kG k e.key/\bK P k F w e.key.cells.toList x.1/\kG v e.val/\bK P v F w e.val.cells.toList x.2
theorem yC.mono {P:Program} {k v:ad} {F F':Nat->Prop} {w w':World} {e:MapEntry} {x:k.ai×v.ai} (h:yC P k v F w e x) (bo:∀ r,F r->F' r) (he:cZ F w w'):yC P k v F' w' e x:=
 ⟨h.1,e' k bo he h.2.1,h.2.2.1,e' v bo he h.2.2.2⟩
def wz (P:Program) (k v:ad) (F:Nat->Prop) (w:World) (oZ:Nat) (cur:Option (k.ai×v.ai)) (cm:List (k.ai×v.ai)):Prop:=
 (w.heap[oZ]?=some (.mapIter none 0 #[] 0)/\cm=[]/\cur=none)\/
 ∃ lA es clk seen,F lA/\w.heap[lA]?=some (.map es clk)/\w.heap[oZ]?=some (.mapIter (some lA) clk seen clk)/\
  (∀ i (h:i<es.size),es[i].born<clk)/\(∀ i j (h:i<es.size) (ds:j<es.size),es[i].born=es[j].born->i=j)/\
  (∃ ids:List Nat,ids.length=cm.length/\ids.Nodup/\(∀ i,i∈ids<->∃ h:i<es.size,seen.contains es[i].born=false)/\
   (∀ j (h:j<ids.length) (ds:j<cm.length),∃ M:ids[j]<es.size,yC P k v F w es[ids[j]] cm[j]))/\
  (∀ c,cur=some c->∃ i,∃ h:i<es.size,seen.back?=some es[i].born/\yC P k v F w es[i] c)
theorem wz.mono {P:Program} {k v:ad} {F F':Nat->Prop} {w w':World} {oZ:Nat} {cur:Option (k.ai×v.ai)} {cm:List (k.ai×v.ai)} (h:wz P k v F w oZ cur cm) (bo:∀ r,F r->F' r) (he:cZ F w w')
  (M:w'.heap[oZ]?=w.heap[oZ]?):wz P k v F' w' oZ cur cm:=by
 rcases h with ⟨G,V⟩ | ⟨lA,es,clk,seen,G,V,ah,a7,bM,⟨ids,i1,i2,i3,i4⟩,fY⟩
 ·exact .inl ⟨M.trans G,V⟩
 ·exact .inr ⟨lA,es,clk,seen,bo _ G,(he.2 _ G).trans V,M.trans ah,a7,bM,⟨ids,i1,i2,i3,λj aH fM=>let ⟨a,b⟩:=i4 j aH fM;⟨a,b.mono bo he⟩⟩,λc hc=>let ⟨i,a,b,d⟩:=fY c hc;⟨i,a,b,d.mono bo he⟩⟩
def jz (P:Program) (H:Nat->bL) (κ:Nat->bD) (F:Nat->Prop) (w:World) (k:bD):bQ->Prop
 | .fw=>True
 | .cells t f=>∃ cs T,w.heap[k.ab]?=some (.cells cs T (0,0))/\cs.size=t.size/\∀ i,i<t.size->bA P H κ F w (f i) (cs.getD i Go.undef)/\(cs.getD i Go.undef).oneCell'=true
 | .bj e xs=>(k.e3=true->xs=[])/\(k.e3=false->∃ cs T,w.heap[k.ab]?=some (.cells cs T (0,0))/\k.off+k.cap*e.size<=cs.size/\xs.length<=k.cap/\k.cap<2 ^ 63/\lz P e F w cs k.off xs)
 | .hA e xs=>bK P (.slice e) F w [k.slice xs.length] xs
 | .mp l6 o0 es=>∃ ms clk,w.heap[k.ab]?=some (.map ms clk)/\uH P l6 o0 F w ms clk es
 | .gD t x=>∃ bk,Holds F w ⟨k.ab,0,none⟩ bk/\bK P t F w bk x
 | .iQ l6 o0 es=>bK P (.map l6 o0) F w [.map (some k.ab)] es
 | .cq l6 o0 cur cm=>wz P l6 o0 F w k.ab cur cm
 | .f' e xs i v=>k.e3=false/\∃ cs T,w.heap[k.ab]?=some (.cells cs T (0,0))/\k.off+k.cap*e.size<=cs.size/\xs.length<=k.cap/\k.cap<2 ^ 63/\(e.size=1/\i<xs.length)/\
   (∀ j (h:j<xs.length),j≠i->∃ bk,(∀ q (h:q<bk.length),cs[k.off+j*e.size+q]?=some bk[q])/\bK P e F w bk xs[j])/\bA P H κ F w v (cs.getD (k.off+i) Go.undef)/\(cs.getD (k.off+i) Go.undef).oneCell'=true
def cB (P:Program) (H:Nat->bL) (κ:Nat->bD) (F:Nat->Prop) (w:World) (b:Nat):Prop:=jz P H κ F w (κ b) (H b).body
theorem cB.k3 {P:Program} {H H':Nat->bL} {κ κ':Nat->bD} {F F':Nat->Prop} {w w':World} {b:Nat} (h:cB P H κ F w b) (ak:fm H κ H' κ') (bo:∀ r,F r->F' r) (he:cZ F w w')
  (aa:(H' b).body=(H b).body) (ao:κ' b=κ b) (hw:(H b).body.b1 (κ b)=true->w'.heap[(κ b).ab]?=w.heap[(κ b).ab]?):cB P H' κ' F' w' b:=by
 unfold cB at *
 rw [aa,ao];cases bS:(H b).body with
 | fw=>trivial
 | cells n f=>
  rw [bS] at h hw;obtain ⟨cs,T,G,V,ah⟩:=h;exact ⟨cs,T,(hw rfl).trans G,V,λi M=>⟨bA.later ak bo he (ah i M).1,(ah i M).2⟩⟩
 | bj e xs=>
  rw [bS] at h hw;refine ⟨h.1,λaD=>?_⟩;obtain ⟨cs,T,G,V,ah,a7,bM⟩:=h.2 aD;exact ⟨cs,T,(hw (by simp [bQ.b1,aD])).trans G,V,ah,a7,bM.mono bo he⟩
 | hA e xs=>
  rw [bS] at h;exact e' _ bo he h
 | mp l6 o0 es=>
  rw [bS] at h hw;obtain ⟨ms,clk,G,V⟩:=h;exact ⟨ms,clk,(hw rfl).trans G,V.mono bo he⟩
 | gD t x=>
  rw [bS] at h;obtain ⟨bk,G,V⟩:=h;exact ⟨bk,G.mono bo he,e' t bo he V⟩
 | iQ l6 o0 es=>
  rw [bS] at h;exact e' (.map l6 o0) bo he h
 | cq l6 o0 cur cm=>
  rw [bS] at h hw;exact wz.mono h bo he (hw rfl)
 | f' e xs i v=>
  rw [bS] at h hw;obtain ⟨aY,cs,T,G,V,ah,a7,bM,dr,fY,jb⟩:=h;refine ⟨aY,cs,T,(hw (by simp [bQ.b1,aY])).trans G,V,ah,a7,bM,λj aH qG=>?_,bA.later ak bo he fY,jb⟩;obtain ⟨bk,d1,d2⟩:=dr j aH qG;exact ⟨bk,d1,e' e bo he d2⟩
structure da (w w':World):Prop where
 os:w'.os=w.os
 tape:w'.tape=w.tape
 output:w'.output=w.output
theorem da.refl (w:World):da w w:=⟨rfl,rfl,rfl⟩
theorem da.trans {a b c:World} (h:da a b) (k:da b c):da a c:=⟨k.os.trans h.os,k.tape.trans h.tape,k.output.trans h.output⟩
structure lB where
 l:Nat
 aN:ad
 S:List aN.ai->Prop
 I:List aN.ai->Bool->(Nat->Prop)->(Nat->Prop)->World->Prop
structure lB.hy (P:Program) (p:lB):Prop where
 Bo:∀ {pre st} {F F' Y:Nat->Prop} {w w':World},p.I pre st F Y w->(∀ r,F r->F' r)->(∀ r,F r\/Y r->w'.heap[r]?=w.heap[r]?)->w.heap.size<=w'.heap.size->da w w'->(∀ r,F' r->r<w'.heap.size)->(∀ r,F' r->¬Y r)->p.I pre st F' Y w'
 yield:∀ {pre} {F Y:Nat->Prop} {w:World} {args:List Value} {x:p.aN.ai},p.I pre false F Y w->(∀ r,F r->r<w.heap.size)->(∀ r,Y r->r<w.heap.size/\¬F r)->(∃ T,p.S (pre++x::T))->fl P p.aN F w args x->
  YieldAt Fence.wide 0 P p.l args.toArray w λe w'=>∃ (b:Bool) (F' gr:Nat->Prop),e=.returned (.bool b)/\(∀ r,F r->F' r)/\(∀ r,F' r->F r\/Y r\/w.heap.size<=r)/\(∀ r,F' r->r<w'.heap.size)/\
   (∀ r,r<w.heap.size->¬Y r->w'.heap[r]?=w.heap[r]?)/\(∀ r,gr r->(Y r\/w.heap.size<=r)/\r<w'.heap.size/\¬F' r)/\w.heap.size<=w'.heap.size/\da w w'/\p.I (pre++[x]) (!b) F' gr w'
def lB.at (p:lB) (aN:ad) (pre:List aN.ai) (st:Bool) (F Y:Nat->Prop) (w:World):Prop:=∃ h:aN=p.aN,p.I (h ▸ pre) st F Y w
theorem lB.yD {l:Nat} {aN:ad} {S:List aN.ai->Prop} {I} {pre:List aN.ai} {st:Bool} {F Y:Nat->Prop} {w:World}:(lB.mk l aN S I).at aN pre st F Y w<->I pre st F Y w:=⟨λ⟨_,h⟩=>h,λh=>⟨rfl,h⟩⟩
theorem lB.hy.JB {P:Program} {p:lB} (h:p.hy P) {aN:ad} {pre:List aN.ai} {st} {F F' Y:Nat->Prop} {w w':World}:p.at aN pre st F Y w->(∀ r,F r->F' r)->(∀ r,F r\/Y r->w'.heap[r]?=w.heap[r]?)->w.heap.size<=w'.heap.size->da w w'->(∀ r,F' r->r<w'.heap.size)->(∀ r,F' r->¬Y r)->p.at aN pre st F' Y w':=
 λ⟨e,G⟩ V ah a7 bM dr fY=>⟨e,h.Bo G V ah a7 bM dr fY⟩
def b5:Nat:=1000000
def eP:Nat:=100000
def wA:Nat:=200000
structure b8 where
 P:Program
 w0:World
 F0:Nat->Prop
 K0:Nat->Prop
 nt:Nat
 r:Option Nat
 dfr:List Deferred
 ib:Nat->Option Nat
 b':lB
 aP:dE
 JC:Nat->Option (bD×Nat):=λ_=>none
def ab0 (C:b8) (s:aB) (w:World) (κ:Nat->bD) (F:Nat->Prop):Prop:=
 ∀ l aN L n st,s.az b5=.aW l aN L n st->(∃ I,C.b'=⟨l,aN,L,I⟩)/\C.b'.hy C.P/\
  ∃ Y:Nat->Prop,(∀ r,Y r->r<w.heap.size/\¬F r/\¬C.K0 r)/\(∀ b,(s.ab b).body.b1 (κ b)=true->¬Y (κ b).ab)/\C.b'.at aN n st F Y w
structure bm (C:b8) (s:aB) (a:Act) (w:World) (κ:Nat->bD) (F:Nat->Prop):Prop where
 dF:a.tmps.size=C.nt
 dfr:a.defers=C.dfr
 bT:∀ i,bA C.P s.ab κ F w (s.az i) (a.tmps.getD i Go.undef)
 bE:∀ b,cB C.P s.ab κ F w b
 an:∀ b,(s.ab b).body.b1 (κ b)=true->(κ b).ab<w.heap.size/\¬F (κ b).ab/\¬C.K0 (κ b).ab
 inj:∀ b bf,(s.ab b).body.b1 (κ b)=true->(s.ab bf).body.b1 (κ bf)=true->(κ b).ab=(κ bf).ab->b=bf
 c_:∀ r,F r->r<w.heap.size
 ha:∀ r,F r->C.F0 r\/¬C.K0 r
 hN:∀ r,C.F0 r->F r
 hq:∀ r,C.K0 r->r<C.w0.heap.size
 eD:∀ r,C.K0 r->w.heap[r]?=C.w0.heap[r]?
 size:C.w0.heap.size<=w.heap.size
 en:da C.w0 w
 ga:C.nt<=eP
 kk:∀ b r,C.ib b=some r->eP<=b
 jA:∀ b r,C.ib b=some r->(s.ab b).body.fC=true\/(s.ab b).body.gQ=true->(κ b).ab=r
 j1:∀ b k,C.JC b=some k->wA<=b
 kl:∀ b k,C.JC b=some k->(s.ab b).gen=0->(s.ab b).body.fc=true->κ b=k.1/\(s.ab b).body.len=k.2
 eK:ab0 C s w κ F
 jB:qF C.P C.aP
 iv:nA C.P F w
def cu (C:b8) (s:aB) (a:Act) (w:World):Prop:=∃ κ F,bm C s a w κ F
def aB.set (s:aB) (d:Option Nat) (v:aI):aB:=
 match d with
 | none=>s
 | some d=>{ s with az:=λi=>if i=d then v else s.az i }
def aB.cw (s:aB) (b:Nat) (x:bL):aB:={ s with ab:=λi=>if i=b then x else s.ab i }
theorem ab1 {a:Act} {d:Nat} {v:Value} (ay:d<a.tmps.size) (i:Nat):(a.put (some d) v).tmps.getD i Go.undef=if i=d then v else a.tmps.getD i Go.undef:=by
 simp only [Act.put,Array.getD_eq_getD_getElem?,Array.getElem?_setIfInBounds];grind
theorem bm.set {C:b8} {s:aB} {a:Act} {w:World} {κ:Nat->bD} {F:Nat->Prop} (h:bm C s a w κ F) {d:Option Nat} (ay:∀ i,d=some i->i<C.nt) {av:aI} {v:Value}
  (af:bA C.P s.ab κ F w av v):bm C (s.set d av) (a.put d v) w κ F:=by
 cases d with
 | none=>exact h
 | some d=>
  have wB:=ay d rfl;have aD:=h.ga;refine { h with dF:=by simpa [Act.put] using h.dF,dfr:=h.dfr,bT:=λi=>?_,eK:=λl aN L n st e=>?_ }
  ·rw [ab1 (by rw [h.dF];omega)];simp only [aB.set];by_cases M:i=d
   ·grind
   ·rw [if_neg M,if_neg M];exact h.bT i
  ·simp only [aB.set] at e;rw [if_neg (by unfold b5 eP at *;omega)] at e;exact h.eK l aN L n st e
theorem bm.move {C:b8} {s:aB} {a:Act} {w:World} {κ:Nat->bD} {F:Nat->Prop} (h:bm C s a w κ F) {H':Nat->bL} {κ':Nat->bD} {F':Nat->Prop} {w':World}
  (ak:fm s.ab κ H' κ') (bo:∀ r,F r->F' r) (s_:∀ r,F' r->F r\/(∃ b,(s.ab b).body.b1 (κ b)=true/\(κ b).ab=r)\/w.heap.size<=r)
  (cb:w.heap.size<=w'.heap.size) (hw:∀ r,r<w.heap.size->(∀ b,(s.ab b).body.b1 (κ b)=true->(κ b).ab≠r)->w'.heap[r]?=w.heap[r]?) (hc:da w w')
  (aa:cZ F w w'->∀ b,cB C.P H' κ' F' w' b)
  (ag:∀ b,(H' b).body.b1 (κ' b)=true->(κ' b).ab<w'.heap.size/\¬F' (κ' b).ab/\((∃ b0,(s.ab b0).body.b1 (κ b0)=true/\(κ b0).ab=(κ' b).ab)\/w.heap.size<=(κ' b).ab))
  (M:∀ b bf,(H' b).body.b1 (κ' b)=true->(H' bf).body.b1 (κ' bf)=true->(κ' b).ab=(κ' bf).ab->b=bf)
  (aG:∀ r,F' r->r<w'.heap.size)
  (ab2:∀ b,eP<=b->(H' b).body.fC=true\/(H' b).body.gQ=true->κ' b=κ b/\((s.ab b).body.fC=true\/(s.ab b).body.gQ=true)):bm C ⟨s.az,H'⟩ a w' κ' F':=by
 have ab3:∀ r,C.K0 r->(∀ b,(s.ab b).body.b1 (κ b)=true->(κ b).ab≠r):=λr U b aa e=>(h.an b aa).2.2 (e ▸ U);have ao:∀ r,C.K0 r->w'.heap[r]?=w.heap[r]?:=λr U=>hw r (Nat.lt_of_lt_of_le (h.hq r U) h.size) (ab3 r U);have yE:∀ r,w.heap.size<=r->¬C.K0 r:=λr U ao=>by have:=h.hq r ao;have:=h.size;omega
 have he:cZ F w w':=⟨cb,λr U=>hw r (h.c_ r U) λb aa e=>(h.an b aa).2.1 (e ▸ U)⟩
 refine { dF:=h.dF,dfr:=h.dfr,bT:=λi=>bA.later ak bo he (h.bT i),bE:=aa he,an:=λb aa=>?_,inj:=M,c_:=aG,ha:=λr U=>?_,hN:=λr U=>bo r (h.hN r U),hq:=h.hq,eD:=λr U=>(ao r U).trans (h.eD r U),size:=Nat.le_trans h.size cb,en:=h.en.trans hc,ga:=h.ga,kk:=h.kk,jA:=λb r U hc=>?_,j1:=h.j1,kl:=λb k ao aY ba=>?_,eK:=λl aN L n st e=>?_,jB:=h.jB,iv:=h.iv.mono bo he }
 ·grind
 ·rcases s_ r U with G | ⟨b,G,rfl⟩ | G
  ·exact h.ha r G
  ·exact .inr (h.an b G).2.2
  ·exact .inr (yE r G)
 ·obtain ⟨aU,aX⟩:=ab2 b (h.kk b r U) hc;rw [aU];exact h.jA b r U aX
 ·obtain ⟨g1,eo⟩:=ak b;have aY:(H' b).gen=0:=aY;have ba:(H' b).body.fc=true:=ba;obtain ⟨ca,a2,a3,_⟩:=(eo (by omega)).2.1 ba;obtain ⟨aU,aX⟩:=h.kl b k ao (by omega) ca;grind
 ·obtain ⟨G,V,Y,ah,a7,bM⟩:=h.eK l aN L n st e;have awi:∀ r,Y r->w'.heap[r]?=w.heap[r]?:=λr U=>hw r (ah r U).1 λb aa e=>a7 b aa (e ▸ U);have Bt:∀ r,Y r->¬F' r:=λr U aw=>by
   grind
  refine ⟨G,V,Y,λr U=>⟨Nat.lt_of_lt_of_le (ah r U).1 cb,Bt r U,(ah r U).2.2⟩,λb aa aS=>?_,V.JB bM bo (λr U=>?_) cb hc aG λr aw aS=>Bt r aS aw⟩
  ·grind
  ·rcases U with U | U
   ·exact he.2 r U
   grind
theorem o1 (w:World) (o:Obj) {r:Nat} (h:r<w.heap.size):(w.alloc o).heap[r]?=w.heap[r]?:=Below.heap_alloc w o r h
theorem pY (w:World) (o:Obj):(w.alloc o).heap[w.heap.size]?=some o:=by
 show (w.heap.push o)[w.heap.size]?=_;simp
theorem cZ.alloc {F:Nat->Prop} {w:World} (aG:∀ r,F r->r<w.heap.size) (o:Obj):cZ F w (w.alloc o):=
 ⟨by simp,λr U=>o1 w o (aG r U)⟩
theorem yF {H:Nat->bL} {κ κ':Nat->bD} {b:Nat} {x:bL} (aC:(H b).gen<x.gen) (Bu:∀ bf,bf≠b->κ' bf=κ bf) :
  fm H κ (λi=>if i=b then x else H i) κ':=by
 rw [Bs];intro i;by_cases M:i=b
 ·subst M;simp only [if_true];exact ⟨by omega,λh=>by omega⟩
 ·simp only [if_neg M];rw [Bu i M];exact pX.refl _ _
theorem yG {H:Nat->bL} {κ κ':Nat->bD} {b:Nat} {x:bL} (aa:b<eP\/(x.body.fC=false/\x.body.gQ=false)) (Bu:∀ bf,bf≠b->κ' bf=κ bf) :
  ∀ i,eP<=i->(if i=b then x else H i).body.fC=true\/(if i=b then x else H i).body.gQ=true->κ' i=κ i/\((H i).body.fC=true\/(H i).body.gQ=true):=by
 grind
theorem bm.alloc {C:b8} {s:aB} {a:Act} {w:World} {κ:Nat->bD} {F:Nat->Prop} (h:bm C s a w κ F) {b:Nat} {x:bL} (Bv:b<eP) (aC:(s.ab b).gen<x.gen)
  {o:Obj} {k:bD} (ao:k.ab=w.heap.size)
  (aj:∀ (H:Nat->bL) (κ':Nat->bD),H=(λi=>if i=b then x else s.ab i)->κ'=(λi=>if i=b then k else κ i)->fm s.ab κ H κ'->jz C.P H κ' F (w.alloc o) k x.body) :
  bm C (s.cw b x) a (w.alloc o) (λi=>if i=b then k else κ i) F:=by
 have ak:fm s.ab κ (λi=>if i=b then x else s.ab i) (λi=>if i=b then k else κ i):=yF aC λbf dh=>by grind
 refine h.move (H':=λi=>if i=b then x else s.ab i) ak (λ_ U=>U) (λ_ U=>.inl U) (by simp) (λr U _=>o1 w o U) ⟨rfl,rfl,rfl⟩ (λhe=>?_) ?_ ?_ ?_ (yG (.inl Bv) λbf dh=>by grind)
 ·intro i;by_cases M:i=b
  ·subst M;simp only [cB,if_true];grind
  ·refine cB.k3 (h.bE i) ak (λ_ U=>U) he (by grind) (by grind) λag=>?_;exact o1 w o (h.an i ag).1
 ·intro i M;by_cases eL:i=b
  ·subst eL;simp only [if_true] at M ⊢;refine ⟨by simp_all,λaw=>?_,.inr (by omega)⟩;have:=h.c_ _ aw;omega
  ·simp only [if_neg eL] at M ⊢;have:=h.an i M;exact ⟨by simp;omega,this.2.1,.inl ⟨i,M,rfl⟩⟩
 ·intro i j M aH e;by_cases eL:i=b<;>by_cases l7:j=b
  ·omega
  ·simp only [if_pos eL,if_neg l7] at M aH e;have:=(h.an j aH).1;omega
  ·simp only [if_neg eL,if_pos l7] at M aH e;have:=(h.an i M).1;omega
  ·simp only [if_neg eL,if_neg l7] at M aH e;exact h.inj i j M aH e
 ·intro r U;have:=h.c_ r U;simp;omega
theorem qH {H:Nat->bL} {κ:Nat->bD} {b:Nat} {x:bL} (aC:x.gen=(H b).gen) (G:x.body.fC=true->(H b).body.fC=true)
  (V:x.body.fc=true->(H b).body.fc=true/\x.body.len=(H b).body.len/\x.body.eY=(H b).body.eY) (ah:x.body.gQ=true->(H b).body.gQ=true)
  (a7:x.body.mD=true->(H b).body.mD=true) :
  fm H κ (λi=>if i=b then x else H i) κ:=by
 rw [Bs];intro i;by_cases M:i=b
 ·subst M;simp only [if_true];exact ⟨by omega,λ_=>⟨λh=>⟨G h,rfl⟩,λh=>⟨(V h).1,rfl,(V h).2⟩,λh=>⟨ah h,rfl⟩,λh=>⟨a7 h,rfl⟩⟩⟩
 ·simp only [if_neg M];exact pX.refl _ _
theorem ab4 {H:Nat->bL} {κ:Nat->bD} {b:Nat} {x:bL} (G:x.body.fC=true->(H b).body.fC=true) (ah:x.body.gQ=true->(H b).body.gQ=true) :
  ∀ i,eP<=i->(if i=b then x else H i).body.fC=true\/(if i=b then x else H i).body.gQ=true->κ i=κ i/\((H i).body.fC=true\/(H i).body.gQ=true):=by
 grind
theorem bm.o2 {C:b8} {s:aB} {a:Act} {w w':World} {κ:Nat->bD} {F:Nat->Prop} (h:bm C s a w κ F) {b:Nat} {x:bL}
  (gb:(s.ab b).body.b1 (κ b)=true) (yH:x.body.b1 (κ b)=true) (ak:fm s.ab κ (λi=>if i=b then x else s.ab i) κ)
  (G:x.body.fC=true->(s.ab b).body.fC=true) (ah:x.body.gQ=true->(s.ab b).body.gQ=true)
  (hw:∀ r,r≠(κ b).ab->w'.heap[r]?=w.heap[r]?) (cb:w'.heap.size=w.heap.size) (hc:da w w')
  (aj:∀ (H:Nat->bL),H=(λi=>if i=b then x else s.ab i)->fm s.ab κ H κ->cZ F w w'->jz C.P H κ F w' (κ b) x.body) :
  bm C (s.cw b x) a w' κ F:=by
 have ag:=h.an b gb;refine h.move (H':=λi=>if i=b then x else s.ab i) ak (λ_ U=>U) (λ_ U=>.inl U) (by omega) (λr _ U=>hw r λe=>U b gb e.symm) hc (λhe=>?_) ?_ ?_ (λr U=>by rw [cb];exact h.c_ r U) (ab4 G ah)
 ·intro i;by_cases M:i=b
  ·subst M;simp only [cB,if_true];grind
  ·refine cB.k3 (h.bE i) ak (λ_ U=>U) he (by grind) rfl λab5=>hw _ λe=>M (h.inj i b ab5 gb e)
 ·intro i M;by_cases eL:i=b
  ·grind
  ·simp only [if_neg eL] at M;have:=h.an i M;grind
 ·intro i j M aH e;have dM:(s.ab i).body.b1 (κ i)=true:=by
   grind
  have fM:(s.ab j).body.b1 (κ j)=true:=by
   grind
  exact h.inj i j dM fM e
theorem bm.drew {C:b8} {s:aB} {a:Act} {w:World} {κ:Nat->bD} {F:Nat->Prop} (h:bm C s a w κ F):bm C s a w.drew κ F:=
 h.move (H':=s.ab) (fm.refl _ _) (λ_ U=>U) (λ_ U=>.inl U) (Nat.le_refl _) (λ_ _ _=>rfl) ⟨rfl,rfl,rfl⟩
  (λ_ b=>cB.k3 (h.bE b) (fm.refl _ _) (λ_ U=>U) ⟨Nat.le_refl _,λ_ _=>rfl⟩ rfl rfl λ_=>rfl) (λb aa=>⟨(h.an b aa).1,(h.an b aa).2.1,.inl ⟨b,aa,rfl⟩⟩) h.inj h.c_ (λ_ _ h=>⟨rfl,h⟩)
def aB.le (s' s:aB):Prop:=(∀ i,s'.az i=s.az i\/s'.az i=.undef)/\∀ b,s'.ab b=s.ab b\/s'.ab b=⟨(s.ab b).gen,.fw⟩
theorem bm.yI {C:b8} {s s':aB} {a:Act} {w:World} {κ:Nat->bD} {F:Nat->Prop} (h:bm C s a w κ F) (aG:s'.le s):bm C s' a w κ F:=by
 have gb:∀ b,(s'.ab b).body.b1 (κ b)=true->(s.ab b).body.b1 (κ b)=true:=λb aa=>by
  rcases aG.2 b with e | e
  ·grind
  ·rw [e] at aa;cases aa
 have ak:fm s.ab κ s'.ab κ:=λb=>by
  rcases aG.2 b with e | e
  ·grind
  ·rw [e];exact ⟨Nat.le_refl _,λ_=>⟨λh=>(by cases h),λh=>(by cases h),λh=>(by cases h),λh=>(by cases h)⟩⟩
 have V:=h.move ak (λ_ U=>U) (λ_ U=>.inl U) (Nat.le_refl _) (λ_ _ _=>rfl) (da.refl _)
  (λ_ b=>by
   rcases aG.2 b with e | e
   ·exact cB.k3 (h.bE b) ak (λ_ U=>U) (cZ.refl _ _) (by rw [e]) rfl λ_=>rfl
   ·unfold cB;rw [e];trivial)
  (λb aa=>⟨(h.an b (gb b aa)).1,(h.an b (gb b aa)).2.1,.inl ⟨b,gb b aa,rfl⟩⟩) (λb bf aa dh=>h.inj b bf (gb b aa) (gb bf dh)) h.c_ (λb _ aa=>⟨rfl,by
   rcases aG.2 b with e | e
   ·grind
   ·rw [e] at aa;simp [bQ.fC,bQ.gQ] at aa⟩)
 refine { V with bT:=λi=>?_,dF:=V.dF,dfr:=V.dfr,eK:=λl aN L n st e=>?_ }
 ·rcases aG.1 i with e | e
  ·rw [e];exact V.bT i
  ·rw [e];trivial
 ·rcases aG.1 b5 with k | k
  ·exact V.eK l aN L n st (k ▸ e)
  grind
end Go.Fer
namespace Go.Fer
inductive aq (al:Type) where
 | ret (a:al)
 | eQ (b:Nat) (k:bL->aq al)
def aq.run {al:Type} (H:Nat->bL):aq al->al
 | .ret a=>a
 | .eQ b k=>(k (H b)).run H
def aq.looks {al:Type} (H:Nat->bL):aq al->List Nat
 | .ret _=>[]
 | .eQ b k=>b::(k (H b)).looks H
def aq.bind {al β:Type}:aq al->(al->aq β)->aq β
 | .ret a,f=>f a
 | .eQ b k,f=>.eQ b λx=>(k x).bind f
def aq.map {al β:Type} (f:al->β) (m:aq al):aq β:=m.bind λa=>.ret (f a)
def aq.none {al:Type}:aq (Option al):=.ret Option.none
def aq.cN {al β:Type} (m:aq (Option al)) (f:al->aq (Option β)):aq (Option β):=m.bind fun | some a=>f a | Option.none=>.none
@[simp] theorem aq.bN {al:Type} (H:Nat->bL) (a:al):(aq.ret a).run H=a:=rfl
@[simp] theorem aq.eZ {al:Type} (H:Nat->bL) (b:Nat) (k:bL->aq al):(aq.eQ b k).run H=(k (H b)).run H:=rfl
theorem aq.run_bind {al β:Type} (H:Nat->bL) (m:aq al) (f:al->aq β):(m.bind f).run H=(f (m.run H)).run H:=by
 induction m with
 | ret a=>rfl
 | eQ b k aM=>simp [aq.bind,aM]
theorem aq.e0 {al β:Type} (H:Nat->bL) (m:aq (Option al)) (f:al->aq (Option β)):(m.cN f).run H=(m.run H).bind λa=>(f a).run H:=by
 unfold aq.cN;rw [aq.run_bind];cases m.run H<;>rfl
theorem aq.QV {al:Type} {H H':Nat->bL}:∀ (m:aq al),(∀ b∈m.looks H,H' b=H b)->m.run H'=m.run H/\m.looks H'=m.looks H
 | .ret a,_=>⟨rfl,rfl⟩
 | .eQ b k,h=>by
  have aa:=h b (by simp [aq.looks]);have:=aq.QV (k (H b)) λc hc=>h c (by simp [aq.looks,hc]);simp only [aq.run,aq.looks,aa,this];simp
def eR (t cU:ad) (x:t.ai):Option cU.ai:=if h:t=cU then some (h ▸ x) else none
theorem kH {t cU:ad} {x:t.ai} {y:cU.ai} (h:eR t cU x=some y):∃ e:t=cU,y=e ▸ x:=by
 unfold eR at h;grind
def Bw:(t:ad)->Value->Option t.ai
 | .bI _,.pointer Option.none=>some Option.none
 | .map _ _,.map Option.none=>some []
 | .ej,.nilFunc=>some Option.none
 | _,_=>Option.none
def ad.isAgg:ad->Bool
 | .st _ | .array _ _=>true
 | _=>false
def dX (t:ad):aI->aq (Option (t.ai×List Nat))
 | .val cU x=>.ret ((eR cU t x).map (·,[]))
 | .df=>match t with
  | .slice _=>.ret (some ([],[]))
  | _=>.none
 | .an b g=>match t with
  | .slice e=>.eQ b λx=>.ret (if x.gen=g then (match x.body with
    | .bj a8 xs=>(eR (.slice a8) (.slice e) xs).map (·,[b])
    | .hA a8 xs=>(eR (.slice a8) (.slice e) xs).map (·,[])
    | _=>Option.none) else Option.none)
  | _=>.none
 | .sub b g aZ M=>match t with
  | .slice e=>.eQ b λx=>.ret (if x.gen=g then (match x.body with
    | .bj a8 xs=>(eR (.slice a8) (.slice e) ((xs.take M).drop aZ)).map (·,[b])
    | .hA a8 xs=>(eR (.slice a8) (.slice e) ((xs.take M).drop aZ)).map (·,[])
    | _=>Option.none) else Option.none)
  | _=>.none
 | .fb b g=>match t with
  | .map k v=>.eQ b λx=>.ret (if x.gen=g then (match x.body with
    | .mp k' h2 es=>(eR (.map k' h2) (.map k v) es).map (·,[b])
    | .iQ k' h2 es=>(eR (.map k' h2) (.map k v) es).map (·,[])
    | _=>Option.none) else Option.none)
  | _=>.none
 | .dW cU x=>match t with
  | .bI e=>.ret ((eR (.bI cU) (.bI e) (some x)).map (·,[]))
  | _=>.none
 | .jy v=>.ret ((Bw t v).map (·,[]))
 | .iu k n _=>match t with
  | .ej=>if n=0 then .ret (some (some k,[])) else .none
  | _=>.none
 | _=>.none
def td (e:ad) (cc:List aI->aq (Option (e.ai×List Nat×List aI))) (av:aI):aq (Option (Option e.ai×List Nat)):=
 match av with
 | .a1 b g off=>.eQ b λx=>if x.gen=g/\off=0 then (match x.body with
   | .gD cU y=>.ret ((eR cU e y).map λz=>(some z,[]))
   | .cells cU f=>if cU=e then (cc ((List.range e.size).map f)).cN λ(y,l,r)=>.ret (if r.isEmpty then some (some y,b::l) else Option.none) else .none
   | _=>.none) else .none
 | av=>dX (.bI e) av
def ie:(t:ad)->List aI->aq (Option (t.ai×List Nat×List aI))
 | .cQ,cs=>.ret (some ((),[],cs))
 | .st t,cs=>ie t cs
 | .aA a b,cs=>(ie a cs).cN λ(x,l,r)=>(ie b r).cN λ(y,m,q)=>.ret (some ((x,y),l++m,q))
 | .array n e,cs=>n.rec (motive:=λ_=>List aI->aq (Option (List e.ai×List Nat×List aI))) (λcs=>.ret (some ([],[],cs)))
   (λ_ aM cs=>(ie e cs).cN λ(x,l,r)=>(aM r).cN λ(xs,m,q)=>.ret (some (x::xs,l++m,q))) cs
 | .bool,cs=>match cs with | c::r=>(dX .bool c).map λo=>o.map λ(x,l)=>(x,l,r) | []=>.none
 | .int k,cs=>match cs with | c::r=>(dX (.int k) c).map λo=>o.map λ(x,l)=>(x,l,r) | []=>.none
 | .str,cs=>match cs with | c::r=>(dX .str c).map λo=>o.map λ(x,l)=>(x,l,r) | []=>.none
 | .slice e,cs=>match cs with | c::r=>(dX (.slice e) c).map λo=>o.map λ(x,l)=>(x,l,r) | []=>.none
 | .bI e,cs=>match cs with | c::r=>(td e (ie e) c).map λo=>o.map λ(x,l)=>(x,l,r) | []=>.none
 | .map k v,cs=>match cs with | c::r=>(dX (.map k v) c).map λo=>o.map λ(x,l)=>(x,l,r) | []=>.none
 | .fn a b,cs=>match cs with | c::r=>(dX (.fn a b) c).map λo=>o.map λ(x,l)=>(x,l,r) | []=>.none
 | .cq a,cs=>match cs with | c::r=>(dX (.cq a) c).map λo=>o.map λ(x,l)=>(x,l,r) | []=>.none
 | .ej,cs=>match cs with | c::r=>(dX .ej c).map λo=>o.map λ(x,l)=>(x,l,r) | []=>.none
def km (t:ad) (av:aI):aq (Option (t.ai×List Nat)):=
 match t with
 | .bI e=>td e (ie e) av
 | t=>if t.eC then dX t av else .none
def dA (t:ad) (av:aI):aq (Option (t.ai×List Nat)):=
 match av with
 | .val cU x=>.ret ((eR cU t x).map (·,[]))
 | .agg n f=>if t.eC then .none else (ie t ((List.range n).map f)).cN λ(x,l,r)=>.ret (if r.isEmpty&&t.isAgg then some (x,l) else Option.none)
 | _=>km t av
def nB:(t:ad)->t.ai->List aI
 | .cQ,_=>[]
 | .st t,x=>nB t x
 | .aA a b,x=>nB a x.1++nB b x.2
 | .array n e,xs=>(List.range n).flatMap λi=>nB e (List.getD xs i e.db)
 | .bool,x=>[.val .bool x]
 | .int k,x=>[.val (.int k) x]
 | .str,x=>[.val .str x]
 | .slice e,x=>[.val (.slice e) x]
 | .bI e,x=>[.val (.bI e) x]
 | .map k v,x=>[.val (.map k v) x]
 | .fn a b,x=>[.val (.fn a b) x]
 | .cq a,x=>[.val (.cq a) x]
 | .ej,x=>[.val .ej x]
def rL:ad->List aI
 | .cQ=>[]
 | .st t=>rL t
 | .aA a b=>rL a++rL b
 | .array n e=>(List.range n).flatMap λ_=>rL e
 | .bool=>[.val .bool false]
 | .int k=>[.val (.int k) (0:Int)]
 | .str=>[.val .str []]
 | .slice _=>[.df]
 | .bI e=>[.val (.bI e) Option.none]
 | .map k v=>[.val (.map k v) []]
 | .fn _ _=>[.jy .nilFunc]
 | .cq _=>[.jy .nilFunc]
 | .ej=>[.val .ej Option.none]
def hb (l:List aI) (i:Nat):aI:=l.getD i .undef
def l8:ad->Nat->Option (ad×Nat)
 | .aA a _,0=>some (a,0)
 | .aA a b,f+1=>(l8 b f).map λ(t,o)=>(t,a.size+o)
 | .cQ,_=>Option.none
 | t,0=>some (t,0)
 | _,_+1=>Option.none
def uI:(t:ad)->t.ai->Nat->Option ((s:ad)×s.ai)
 | .aA a _,x,0=>some ⟨a,x.1⟩
 | .aA _ b,x,f+1=>uI b x.2 f
 | .cQ,_,_=>Option.none
 | t,x,0=>some ⟨t,x⟩
 | _,_,_+1=>Option.none
def rM:(t:ad)->t.ai->Nat->(s:ad)->Option s.ai
 | .st t,x,off,s=>if off=0/\ad.st t=s then eR (.st t) s x else rM t x off s
 | .aA a b,x,off,s=>if off<a.size then rM a x.1 off s else rM b x.2 (off - a.size) s
 | .cQ,_,_,_=>Option.none
 | .array _ _,_,_,_=>Option.none
 | .bool,x,off,s=>if off=0 then eR .bool s x else Option.none
 | .int k,x,off,s=>if off=0 then eR (.int k) s x else Option.none
 | .str,x,off,s=>if off=0 then eR .str s x else Option.none
 | .slice e,x,off,s=>if off=0 then eR (.slice e) s x else Option.none
 | .bI e,x,off,s=>if off=0 then eR (.bI e) s x else Option.none
 | .map k v,x,off,s=>if off=0 then eR (.map k v) s x else Option.none
 | .fn a b,x,off,s=>if off=0 then eR (.fn a b) s x else Option.none
 | .cq a,x,off,s=>if off=0 then eR (.cq a) s x else Option.none
 | .ej,x,off,s=>if off=0 then eR .ej s x else Option.none
def wC:(t:ad)->t.ai->Nat->(s:ad)->s.ai->Option t.ai
 | .st t,x,off,s,y=>if off=0/\s=ad.st t then eR s (.st t) y else wC t x off s y
 | .aA a b,x,off,s,y=>if off<a.size then (wC a x.1 off s y).map (·,x.2) else (wC b x.2 (off - a.size) s y).map (x.1,·)
 | .cQ,_,_,_,_=>Option.none
 | .array _ _,_,_,_,_=>Option.none
 | .bool,_,off,s,y=>if off=0 then eR s .bool y else Option.none
 | .int k,_,off,s,y=>if off=0 then eR s (.int k) y else Option.none
 | .str,_,off,s,y=>if off=0 then eR s .str y else Option.none
 | .slice e,_,off,s,y=>if off=0 then eR s (.slice e) y else Option.none
 | .bI e,_,off,s,y=>if off=0 then eR s (.bI e) y else Option.none
 | .map k v,_,off,s,y=>if off=0 then eR s (.map k v) y else Option.none
 | .fn a b,_,off,s,y=>if off=0 then eR s (.fn a b) y else Option.none
 | .cq a,_,off,s,y=>if off=0 then eR s (.cq a) y else Option.none
 | .ej,_,off,s,y=>if off=0 then eR s .ej y else Option.none
def lC (k:IntKind) (a b:Int):Int:=k.wrap (BitVec.ofInt k.bits a&&& BitVec.ofInt k.bits b).toNat
def QW (k:IntKind) (a b:Int):Int:=k.wrap (BitVec.ofInt k.bits a||| BitVec.ofInt k.bits b).toNat
def QX (k:IntKind) (a b:Int):Int:=k.wrap (BitVec.ofInt k.bits a ^^^ BitVec.ofInt k.bits b).toNat
def QY (k:IntKind) (a b:Int):Int:=k.wrap (BitVec.ofInt k.bits a&&& ~~~BitVec.ofInt k.bits b).toNat
def ab6 (k:IntKind) (a b:Int):Int:=k.wrap (a*2 ^ (min b.toNat k.bits))
def jd (k:IntKind) (a b:Int):Int:=a.fdiv (2 ^ (min b.toNat k.bits))
def kI (t:ad) (xs:List t.ai) (i:Int):t.ai:=xs.getD i.toNat t.db
def cn (n:Nat):Prop:=n<=4294967296
def gE:(t:ad)->t.ai->t.ai->Bool
 | .bool,x,y=>x == y
 | .int _,x,y=>decide ((x:Int)=y)
 | .str,x,y=>decide ((x:List UInt8)=y)
 | .st t,x,y=>gE t x y
 | .aA a b,x,y=>gE a x.1 y.1&&gE b x.2 y.2
 | _,_,_=>false
def ad.kJ:ad->Bool
 | .bool | .int _ | .str=>true
 | .st t=>t.kJ
 | .aA a b=>a.kJ&&b.kJ
 | _=>false
end Go.Fer
namespace Go.Fer
open Go.RowKit
section
variable {P:Program} {H:Nat->bL} {κ:Nat->bD} {F F':Nat->Prop} {w:World}
def ev (P:Program) (H:Nat->bL) (κ:Nat->bD) (F:Nat->Prop) (w:World):List aI->List Value->Prop
 | [],[]=>True
 | a::as,v::aE=>(bA P H κ F w a v/\v.oneCell'=true)/\ev P H κ F w as aE
 | _,_=>False
theorem ev.append:∀ {as bs:List aI} {us aE:List Value},ev P H κ F w as us->ev P H κ F w bs aE->ev P H κ F w (as++bs) (us++aE)
 | [],_,[],_,_,k=>k
 | _::_,_,_::_,_,h,k=>⟨h.1,ev.append h.2 k⟩
 | [],_,_::_,_,h,_=>h.elim
 | _::_,_,[],_,h,_=>h.elim
theorem ev.len:∀ {as:List aI} {us:List Value},ev P H κ F w as us->as.length=us.length
 | [],[],_=>rfl
 | _::_,_::_,h=>by simp [ev.len h.2]
 | [],_::_,h=>h.elim
 | _::_,[],h=>h.elim
theorem ev.kI:∀ {as:List aI} {us:List Value},ev P H κ F w as us->∀ i,i<as.length->bA P H κ F w (hb as i) (us.getD i Go.undef)/\(us.getD i Go.undef).oneCell'=true
 | a::as,v::aE,h,0,_=>h.1
 | a::as,v::aE,h,i+1,M=>by
  have:=ev.kI h.2 i (by grind);simpa [hb] using this
 | [],[],_,i,M=>by grind
 | [],_::_,h,_,_=>h.elim
 | _::_,[],h,_,_=>h.elim
theorem ev.QZ:∀ {as:List aI} {us:List Value},as.length=us.length->(∀ i,i<as.length->bA P H κ F w (hb as i) (us.getD i Go.undef)/\(us.getD i Go.undef).oneCell'=true)->ev P H κ F w as us
 | [],[],_,_=>trivial
 | a::as,v::aE,ak,h=>⟨h 0 (by simp),ev.QZ (by grind) λi M=>by have:=h (i+1) (by grind);simpa [hb] using this⟩
 | [],_::_,ak,_=>by grind
 | _::_,[],ak,_=>by grind
theorem yJ:∀ (t:ad) {cs:List Value} {x:t.ai},bK P t F w cs x->ev P H κ F w (nB t x) cs:=by
 have eM:∀ (t:ad),t.eC=true->∀ {cs:List Value} {x:t.ai},bK P t F w cs x->ev P H κ F w [.val t x] cs:=by
  intro t aL cs x h;obtain ⟨u,rfl,hu⟩:=Br aL h;exact ⟨⟨(dV aL).2 ⟨hu,h⟩,JA aL h⟩,trivial⟩
 intro t;induction t with
 | bool=>intro cs x h;exact eM _ rfl h
 | int k=>intro cs x h;exact eM (.int k) rfl h
 | str=>intro cs x h;exact eM _ rfl h
 | cQ=>intro cs x h;simp only [bK] at h;subst h;trivial
 | st t aM=>intro cs x h;simp only [bK] at h;exact aM h
 | aA a b fv eJ=>
  intro cs x h;simp only [bK] at h;obtain ⟨c,d,rfl,ba,aa⟩:=h;exact (fv ba).append (eJ aa)
 | slice e aM=>intro cs x h;exact eM (.slice e) rfl h
 | array n e aM=>
  intro cs xs h;simp only [bK] at h;obtain ⟨fk,rfl,G,V,ah⟩:=h;simp only [nB];have key:∀ (k:Nat) (l:List (List Value)),(∀ i (M:i<l.length),ev P H κ F w (nB e (List.getD xs (k+i) e.db)) l[i])->ev P H κ F w ((List.range' k l.length).flatMap λi=>nB e (List.getD xs i e.db)) l.flatten:=by
   intro k l;induction l generalizing k with
   | nil=>intro _;trivial
   | cons c l ab7=>
    intro cR;simp only [List.length_cons,List.range'_succ,List.flatMap_cons,List.flatten_cons];refine ev.append ?_ (ab7 (k+1) λi M=>?_)
    ·have:=cR 0 (by simp);grind
    ·have:=cR (i+1) (by grind);grind
  rw [List.range_eq_range',<-G];grind
 | bI e aM=>intro cs x h;exact eM (.bI e) rfl h
 | map k v wo wq=>intro cs x h;exact eM (.map k v) rfl h
 | fn a b fv eJ=>intro cs x h;exact eM (.fn a b) rfl h
 | cq a aM=>intro cs x h;exact eM (.cq a) rfl h
 | ej=>intro cs x h;exact eM .ej rfl h
theorem JD {e:ad} {xs:List e.ai} {k:bD} (aT:jz P H κ F w k (.bj e xs)) (bo:∀ r,F r->F' r) (ao:k.e3=false->F' k.ab):bK P (.slice e) F' w [k.slice xs.length] xs:=by
 obtain ⟨G,V⟩:=aT;simp only [bK,bD.slice];cases aD:k.e3 with
 | true=>rw [G aD];exact ⟨none,0,rfl,Nat.le_refl _,by decide,λ_=>rfl,λp ar=>by simp⟩
 | false=>
  obtain ⟨cs,T,bF,c2,c3,c4,c5⟩:=V aD;refine ⟨some ⟨k.ab,k.off,none⟩,k.cap,by simp,c3,c4,(by simp),λp ar _=>?_⟩;cases ar;refine ⟨ao aD,rfl,λi M=>?_⟩;obtain ⟨bk,d1,d2⟩:=c5 i M;refine ⟨bk,⟨ao aD,rfl,λj aH=>?_⟩,e' e bo (cZ.refl F w) d2⟩;simp only [World.cell?,bF];grind
theorem EU {t cU:ad} {x:t.ai} {y:cU.ai} {v:Value} (hc:eR t cU x=some y) (h:ek P t F w v x):ek P cU F w v y:=by
 obtain ⟨e,rfl⟩:=kH hc;grind
theorem te {t cU:ad} {x:t.ai} {y:cU.ai} {cs:List Value} (hc:eR t cU x=some y) (h:bK P t F w cs x):bK P cU F w cs y:=by
 obtain ⟨e,rfl⟩:=kH hc;grind
def iR (H:Nat->bL) (κ:Nat->bD) (F':Nat->Prop) (l:List Nat):Prop:=∀ b∈l,(H b).body.b1 (κ b)=true->F' (κ b).ab
theorem iR.left {l m:List Nat} (h:iR H κ F' (l++m)):iR H κ F' l:=λb aa=>h b (List.mem_append_left _ aa)
theorem iR.right {l m:List Nat} (h:iR H κ F' (l++m)):iR H κ F' m:=λb aa=>h b (List.mem_append_right _ aa)
theorem Q0 {l6 o0:ad} {es:List (l6.ai×o0.ai)} {k:bD} (aT:jz P H κ F w k (.mp l6 o0 es)) (bo:∀ r,F r->F' r) (ao:F' k.ab):bK P (.map l6 o0) F' w [.map (some k.ab)] es:=by
 obtain ⟨ms,clk,G,V⟩:=aT;obtain ⟨V,ah,a7,bM⟩:=V.mono bo (cZ.refl F w);exact .inr ⟨_,ms,clk,rfl,ao,G,V,ah,a7,bM⟩
theorem EV {e:ad} {xs:List e.ai} {k:bD} {aZ M:Nat} {v:Value} (h:bK P (.slice e) F' w [k.slice xs.length] xs) (G:aZ<=M) (V:M<=xs.length) (aG:ET k e.size aZ M v) :
  bK P (.slice e) F' w [v] ((xs.take M).drop aZ):=by
 have hlen:((xs.take M).drop aZ).length=M - aZ:=by grind
 obtain ⟨a,cap,aF,bF,c2,c3,c4⟩:=h;rcases aG with ⟨aD,rfl⟩ | ⟨aD,o,rfl,hO,gw⟩
 ·have:xs=[]:=by
   simp only [bD.slice,aD,if_true,List.cons.injEq,Value.slice.injEq,and_true] at aF;grind
  subst this;have cX:(([]:List e.ai).take M).drop aZ=[]:=by simp
  rw [cX];exact ⟨none,0,rfl,Nat.le_refl _,by decide,λ_=>rfl,λp ar=>by simp⟩
 ·simp only [bD.slice,aD,Bool.false_eq_true,if_false,List.cons.injEq,Value.slice.injEq,and_true] at aF;obtain ⟨rfl,_,rfl⟩:=aF;refine ⟨some ⟨k.ab,o,none⟩,k.cap - aZ,by grind,by omega,by omega,(by simp),λp ar uJ=>?_⟩;cases ar;obtain ⟨d1,d2,d3⟩:=c4 _ rfl (by omega);refine ⟨d1,rfl,λi dM=>?_⟩;obtain ⟨bk,m1,m2⟩:=d3 (aZ+i) (by omega);grind
theorem JE (aT:∀ b,cB P H κ F w b) (bo:∀ r,F r->F' r) {t:ad} (aL:t.eC=true) {av:aI} {v:Value} {x:t.ai} {l:List Nat} (h:(dX t av).run H=some (x,l))
  (ak:iR H κ F' l) (af:bA P H κ F w av v):ek P t F' w v x:=by
 cases av with
 | undef=>cases h
 | hz b a=>cases h
 | a1 b g off=>cases h
 | n' b g i off=>cases h
 | iP b g i=>cases h
 | iu k n c=>
  cases t<;>simp only [dX,aq.none,aq.bN,reduceCtorEq] at h;split at h
  ·rename_i aD;subst aD;cases h;obtain ⟨aE,rfl,ak,_⟩:=af;obtain rfl:=List.eq_nil_of_length_eq_zero ak;exact (dV rfl).2 ⟨rfl,rfl⟩
  ·cases h
 | rK k n c=>cases h
 | pW n f=>cases h
 | agg n f=>cases h
 | j0 b g=>cases h
 | aW l aN L n st=>cases h
 | g_ l=>cases h
 | wy e xs=>cases h
 | sub b g aZ M=>
  cases t<;>simp only [dX,aq.none,aq.bN,aq.eZ,reduceCtorEq] at h;rename_i e;split at h
  ·rename_i aC;obtain ⟨pZ,ig⟩:=af;have jC:=aT b;unfold cB at jC;cases bS:(H b).body with
   | bj a8 xs=>
    rw [bS] at h jC ig;simp only [Option.map_eq_some_iff,Prod.mk.injEq] at h;obtain ⟨z,bl,rfl,rfl⟩:=h;obtain ⟨⟨aU,aX⟩,bP⟩:=ig aC.symm rfl;exact (dV rfl).2 ⟨EO pZ.2,te bl (EV (JD jC bo λaD=>ak b (by simp) (by rw [bS];simp [bQ.b1,aD])) aU aX bP)⟩
   | hA a8 xs=>
    rw [bS] at h jC ig;simp only [Option.map_eq_some_iff,Prod.mk.injEq] at h;obtain ⟨z,bl,rfl,rfl⟩:=h;obtain ⟨⟨aU,aX⟩,bP⟩:=ig aC.symm rfl;exact (dV rfl).2 ⟨EO pZ.2,te bl (EV (e' (.slice a8) bo (cZ.refl F w) jC) aU aX bP)⟩
   | _=>rw [bS] at h;cases h
  grind
 | fb b g=>
  cases t<;>simp only [dX,aq.none,aq.bN,aq.eZ,reduceCtorEq] at h;rename_i k e;split at h
  ·rename_i aC;obtain ⟨pZ,ig⟩:=af;have jC:=aT b;unfold cB at jC;cases bS:(H b).body with
   | mp k' h2 es=>
    rw [bS] at h jC ig;simp only [Option.map_eq_some_iff,Prod.mk.injEq] at h;obtain ⟨z,bl,rfl,rfl⟩:=h;have:=ig aC.symm rfl;subst this;exact (dV rfl).2 ⟨rfl,te bl (Q0 jC bo (ak b (by simp) (by rw [bS];rfl)))⟩
   | iQ k' h2 es=>
    rw [bS] at h jC ig;simp only [Option.map_eq_some_iff,Prod.mk.injEq] at h;obtain ⟨z,bl,rfl,rfl⟩:=h;have:=ig aC.symm rfl;subst this;exact (dV rfl).2 ⟨rfl,te bl (e' (.map k' h2) bo (cZ.refl F w) jC)⟩
   | _=>rw [bS] at h;cases h
  grind
 | val cU y=>
  simp only [dX,aq.bN,Option.map_eq_some_iff,Prod.mk.injEq] at h;obtain ⟨z,bl,rfl,rfl⟩:=h;exact (EU bl af).mono bo (cZ.refl F w)
 | df=>
  cases t<;>simp only [dX,aq.none,aq.bN,reduceCtorEq,Option.some.injEq,Prod.mk.injEq] at h;obtain ⟨rfl,rfl⟩:=h;simp only [bA] at af;subst af;exact (dV rfl).2 ⟨rfl,none,0,rfl,Nat.le_refl _,by decide,λ_=>rfl,λp ar=>by simp⟩
 | an b g=>
  cases t<;>simp only [dX,aq.none,aq.bN,aq.eZ,reduceCtorEq] at h;rename_i e;split at h
  ·rename_i aC;obtain ⟨pZ,ig⟩:=af;have jC:=aT b;unfold cB at jC;cases bS:(H b).body with
   | bj a8 xs=>
    rw [bS] at h jC ig;simp only [Option.map_eq_some_iff,Prod.mk.injEq] at h;obtain ⟨z,bl,rfl,rfl⟩:=h;have:=ig aC.symm rfl;simp only [bQ.len] at this;subst this;refine (dV rfl).2 ⟨by unfold bD.slice;split<;>rfl,te bl (JD jC bo λaD=>ak b (by simp) (by rw [bS];simp [bQ.b1,aD]))⟩
   | hA a8 xs=>
    rw [bS] at h jC ig;simp only [Option.map_eq_some_iff,Prod.mk.injEq] at h;obtain ⟨z,bl,rfl,rfl⟩:=h;have:=ig aC.symm rfl;simp only [bQ.len] at this;subst this;exact (dV rfl).2 ⟨by unfold bD.slice;split<;>rfl,te bl (e' _ bo (cZ.refl F w) jC)⟩
   | _=>rw [bS] at h;cases h
  grind
 | dW cU y=>
  cases t<;>simp only [dX,aq.none,aq.bN,reduceCtorEq,Option.map_eq_some_iff,Prod.mk.injEq] at h;rename_i e;obtain ⟨z,bl,rfl,rfl⟩:=h;obtain ⟨p,bk,rfl,V,ah⟩:=af;refine (dV rfl).2 ⟨rfl,te bl ?_⟩;exact .inr ⟨p,y,bk,rfl,rfl,V.mono bo (cZ.refl F w),e' cU bo (cZ.refl F w) ah⟩
 | jy u=>
  simp only [bA] at af;subst af;simp only [dX,aq.bN,Option.map_eq_some_iff,Prod.mk.injEq] at h;obtain ⟨z,bl,rfl,rfl⟩:=h;unfold Bw at bl;split at bl
  ·cases bl;exact (dV rfl).2 ⟨rfl,.inl ⟨rfl,rfl⟩⟩
  ·cases bl;exact (dV rfl).2 ⟨rfl,.inl ⟨rfl,rfl⟩⟩
  ·cases bl;exact (dV rfl).2 ⟨rfl,rfl⟩
  grind
theorem Bx {n:Nat} {f:Nat->aI} {aE:List Value} (ak:aE.length=n) (h:∀ i,i<n->bA P H κ F w (f i) (aE.getD i Go.undef)/\(aE.getD i Go.undef).oneCell'=true) :
  ev P H κ F w ((List.range n).map f) aE:=by
 refine ev.QZ (by grind) λi M=>?_;have dM:i<n:=by grind
 have:hb ((List.range n).map f) i=f i:=by simp [hb,List.getD_eq_getElem?_getD,dM]
 grind
theorem Q1 (aT:∀ b,cB P H κ F w b) (bo:∀ r,F r->F' r) {e:ad} {cc:List aI->aq (Option (e.ai×List Nat×List aI))}
  (gf:∀ {cs:List aI} {aE:List Value} {x:e.ai} {l:List Nat} {r:List aI},(cc cs).run H=some (x,l,r)->iR H κ F' l->ev P H κ F w cs aE->∃ c d,aE=c++d/\bK P e F' w c x/\ev P H κ F w r d)
  {av:aI} {v:Value} {x:Option e.ai} {l:List Nat} (h:(td e cc av).run H=some (x,l)) (ak:iR H κ F' l) (af:bA P H κ F w av v):ek P (.bI e) F' w v x:=by
 have cm:(dX (.bI e) av).run H=some (x,l)->ek P (.bI e) F' w v x:=λh=>JE aT bo rfl h ak af;cases av with
 | a1 b g off=>
  simp only [td,aq.eZ] at h;split at h
  ·rename_i aC;obtain ⟨aC,rfl⟩:=aC;obtain ⟨pZ,ig⟩:=af;have jC:=aT b;unfold cB at jC;cases bS:(H b).body with
   | gD t y=>
    rw [bS] at h jC ig;simp only [aq.bN,Option.map_eq_some_iff,Prod.mk.injEq] at h;obtain ⟨z,bl,rfl,rfl⟩:=h;obtain ⟨eq,rfl⟩:=kH bl;subst eq;obtain rfl:=ig aC.symm rfl;obtain ⟨bk,G,V⟩:=jC;exact (dV rfl).2 ⟨rfl,.inr ⟨_,_,bk,rfl,rfl,G.mono bo (cZ.refl F w),e' t bo (cZ.refl F w) V⟩⟩
   | cells t f=>
    rw [bS] at h jC ig;simp only at h;split at h
    ·rename_i aL;subst aL;simp only [aq.e0,Option.bind_eq_some_iff,aq.bN] at h;obtain ⟨⟨y,m,q⟩,G,V⟩:=h;split at V
     ·rename_i br;simp only [Option.some.injEq,Prod.mk.injEq] at V;obtain ⟨rfl,rfl⟩:=V;obtain rfl:=ig aC.symm rfl;obtain ⟨cs,T,aU,aX,bP⟩:=jC;have iw:ev P H κ F w ((List.range t.size).map f) cs.toList:=Bx (by omega) λi M=>by
       simp_all
      obtain ⟨c,d,JF,bF,c2⟩:=gf G (λbf dh=>ak bf (List.mem_cons_of_mem _ dh)) iw;have br:q=[]:=List.isEmpty_iff.1 br;subst br;cases d with
      | cons _ _=>exact c2.elim
      | nil=>
       rw [List.append_nil] at JF;refine (dV rfl).2 ⟨rfl,.inr ⟨_,y,c,rfl,rfl,⟨ak b (by simp) (by rw [bS];rfl),rfl,λj aH=>?_⟩,bF⟩⟩;have fM:j<cs.size:=by grind
       simp only [World.cell?,aU,Nat.zero_add,Option.isSome_none,Bool.false_eq_true,if_false,Array.getElem?_eq_getElem fM];grind
     grind
    ·cases h
   | _=>rw [bS] at h;cases h
  ·cases h
 | _=>exact cm h
theorem JG (aT:∀ b,cB P H κ F w b) (bo:∀ r,F r->F' r):∀ (t:ad) {cs:List aI} {aE:List Value} {x:t.ai} {l:List Nat} {r:List aI},(ie t cs).run H=some (x,l,r)->
  iR H κ F' l->ev P H κ F w cs aE->∃ c d,aE=c++d/\bK P t F' w c x/\ev P H κ F w r d:=by
 have p0:∀ (t:ad) (g:aI->aq (Option (t.ai×List Nat))),t.eC=true->(∀ {av:aI} {v:Value} {x:t.ai} {l:List Nat},(g av).run H=some (x,l)->iR H κ F' l->bA P H κ F w av v->ek P t F' w v x)->
   ∀ {cs:List aI} {aE:List Value} {x:t.ai} {l:List Nat} {r:List aI},(match cs with | c::r=>(g c).map λo=>o.map λ(x,l)=>(x,l,r) | []=>.none:aq (Option (t.ai×List Nat×List aI))).run H=some (x,l,r)->
   iR H κ F' l->ev P H κ F w cs aE->∃ c d,aE=c++d/\bK P t F' w c x/\ev P H κ F w r d:=by
  intro t g aL aC cs aE x l r h ak ba;cases cs with
  | nil=>cases h
  | cons c cs=>
   cases aE with
   | nil=>exact ba.elim
   | cons v aE=>
    simp only [aq.map,aq.run_bind,aq.bN,Option.map_eq_some_iff,Prod.mk.injEq] at h;obtain ⟨⟨y,m⟩,bl,rfl,rfl,rfl⟩:=h;refine ⟨[v],aE,rfl,?_,ba.2⟩;exact ((dV aL).1 (aC bl ak ba.1.1)).2
 have eM:∀ (t:ad),t.eC=true->∀ {cs:List aI} {aE:List Value} {x:t.ai} {l:List Nat} {r:List aI},(match cs with | c::r=>(dX t c).map λo=>o.map λ(x,l)=>(x,l,r) | []=>.none:aq (Option (t.ai×List Nat×List aI))).run H=some (x,l,r)->
   iR H κ F' l->ev P H κ F w cs aE->∃ c d,aE=c++d/\bK P t F' w c x/\ev P H κ F w r d:=
  λt aL=>p0 t (dX t) aL λh ak af=>JE aT bo aL h ak af
 intro t;induction t with
 | bool=>intro cs aE x l r h ak ba;exact eM _ rfl h ak ba
 | int k=>intro cs aE x l r h ak ba;exact eM (.int k) rfl h ak ba
 | str=>intro cs aE x l r h ak ba;exact eM _ rfl h ak ba
 | cQ=>
  intro cs aE x l r h ak ba;simp only [ie,aq.bN,Option.some.injEq,Prod.mk.injEq] at h;obtain ⟨_,rfl,rfl⟩:=h;exact ⟨[],aE,rfl,rfl,ba⟩
 | st t aM=>intro cs aE x l r h ak ba;exact aM h ak ba
 | aA a b fv eJ=>
  intro cs aE x l r h ak ba;simp only [ie,aq.e0,Option.bind_eq_some_iff,aq.bN,Option.some.injEq,Prod.mk.injEq] at h;obtain ⟨⟨y,m,q⟩,G,⟨z,dw,q'⟩,V,rfl,rfl,rfl⟩:=h;obtain ⟨c,d,rfl,bF,c2⟩:=fv G ak.left ba;obtain ⟨c',uK,rfl,d1,d2⟩:=eJ V ak.right c2;exact ⟨c++c',uK,by simp,⟨c,c',rfl,bF,d1⟩,d2⟩
 | slice e aM=>intro cs aE x l r h ak ba;exact eM (.slice e) rfl h ak ba
 | array n e aM=>
  intro cs aE xs l r h ak ba;simp only [ie] at h;have key:∀ (n:Nat) {cs:List aI} {aE:List Value} {xs:List e.ai} {l:List Nat} {r:List aI},(n.rec (motive:=λ_=>List aI->aq (Option (List e.ai×List Nat×List aI))) (λcs=>.ret (some ([],[],cs)))
     (λ_ aM cs=>(ie e cs).cN λ(x,l,r)=>(aM r).cN λ(xs,m,q)=>.ret (some (x::xs,l++m,q))) cs).run H=some (xs,l,r)->
    iR H κ F' l->ev P H κ F w cs aE->
    ∃ fk d,aE=List.flatten fk++d/\fk.length=n/\xs.length=n/\(∀ i (h:i<xs.length) (ds:i<fk.length),bK P e F' w fk[i] xs[i])/\ev P H κ F w r d:=by
   intro n;induction n with
   | zero=>
    intro cs aE xs l r h ak ba;cases h;exact ⟨[],aE,rfl,rfl,rfl,λi M=>(by simp),ba⟩
   | succ n By=>
    intro cs aE xs l r h ak ba;simp only [aq.e0,Option.bind_eq_some_iff,aq.bN,Option.some.injEq,Prod.mk.injEq] at h;obtain ⟨⟨y,m,q⟩,G,⟨z,dw,q'⟩,V,rfl,rfl,rfl⟩:=h;obtain ⟨c,d,rfl,bF,c2⟩:=aM G ak.left ba;obtain ⟨fk,uK,rfl,d1,d2,d3,d4⟩:=By V ak.right c2;refine ⟨c::fk,uK,by simp,by grind,by grind,λi M dM=>?_,d4⟩;grind
  obtain ⟨fk,d,aF,bB,di,gv,h1⟩:=key n h ak ba;exact ⟨fk.flatten,d,aF,⟨fk,rfl,bB,di,gv⟩,h1⟩
 | bI e aM=>intro cs aE x l r h ak ba;exact p0 (.bI e) (td e (ie e)) rfl (λh ak af=>Q1 aT bo aM h ak af) h ak ba
 | map k v wo wq=>intro cs aE x l r h ak ba;exact eM (.map k v) rfl h ak ba
 | fn a b fv eJ=>intro cs aE x l r h ak ba;exact eM (.fn a b) rfl h ak ba
 | cq a aM=>intro cs aE x l r h ak ba;exact eM (.cq a) rfl h ak ba
 | ej=>intro cs aE x l r h ak ba;exact eM .ej rfl h ak ba
theorem l9 (aT:∀ b,cB P H κ F w b) (bo:∀ r,F r->F' r) {t:ad} {av:aI} {v:Value} {x:t.ai} {l:List Nat} (h:(dA t av).run H=some (x,l))
  (ak:iR H κ F' l) (af:bA P H κ F w av v):ek P t F' w v x:=by
 have cm:(km t av).run H=some (x,l)->ek P t F' w v x:=by
  intro h;unfold km at h;split at h
  ·exact Q1 aT bo (λh ak ba=>JG aT bo _ h ak ba) h ak af
  ·split at h
   ·rename_i aL;exact JE aT bo aL h ak af
   ·cases h
 cases av with
 | val cU y=>
  simp only [dA,aq.bN,Option.map_eq_some_iff,Prod.mk.injEq] at h;obtain ⟨z,bl,rfl,rfl⟩:=h;exact (EU bl af).mono bo (cZ.refl F w)
 | agg n f=>
  simp only [dA] at h;split at h
  ·cases h
  ·simp only [aq.e0,Option.bind_eq_some_iff,aq.bN] at h;obtain ⟨⟨y,m,q⟩,G,V⟩:=h;split at V
   ·rename_i hc;simp only [Bool.and_eq_true,List.isEmpty_iff] at hc;simp only [Option.some.injEq,Prod.mk.injEq] at V;obtain ⟨rfl,rfl⟩:=V;obtain ⟨aE,rfl,a7,bM⟩:=af;obtain ⟨c,d,rfl,bF,c2⟩:=JG aT bo t G ak (Bx a7 bM);rw [hc.1] at c2;cases d with
    | cons _ _=>exact c2.elim
    | nil=>
     rw [List.append_nil] at *
     have hlen:=hM t bF;have aG:=hc.2;cases t<;>simp only [ad.isAgg,Bool.false_eq_true] at aG
     ·exact ⟨⟨c.toArray,rfl,by simpa [ad.size] using hlen⟩,by simpa [Value.cells] using bF⟩
     ·exact ⟨⟨c.toArray,rfl,by simpa [ad.size] using hlen⟩,by simpa [Value.cells] using bF⟩
   grind
 | undef=>exact cm h
 | hz b a=>exact cm h
 | a1 b g off=>exact cm h
 | an b g=>exact cm h
 | n' b g i off=>exact cm h
 | iP b g i=>exact cm h
 | dW cU y=>exact cm h
 | fb b g=>exact cm h
 | iu k n c=>exact cm h
 | rK k n c=>exact cm h
 | pW n f=>exact cm h
 | df=>exact cm h
 | jy u=>exact cm h
 | j0 b g=>exact cm h
 | aW l aN L n st=>exact cm h
 | g_ l=>exact cm h
 | wy e xs=>exact cm h
 | sub b g aZ M=>exact cm h
end
def ad.pure:ad->Bool
 | .bool | .int _ | .str | .cQ=>true
 | .st t=>t.pure
 | .aA a b=>a.pure&&b.pure
 | .array _ e=>e.pure
 | _=>false
theorem ab8 {P:Program} {F F':Nat->Prop} {w w':World}:∀ (t:ad) {cs:List Value} {x:t.ai},t.pure=true->bK P t F w cs x->bK P t F' w' cs x:=by
 intro t;induction t with
 | bool=>intro cs x _ h;exact h
 | int k=>intro cs x _ h;exact h
 | str=>intro cs x _ h;exact h
 | cQ=>intro cs x _ h;exact h
 | st t aM=>intro cs x aL h;exact aM aL h
 | aA a b fv eJ=>
  intro cs x aL h;simp only [ad.pure,Bool.and_eq_true] at aL;obtain ⟨c,d,rfl,ba,aa⟩:=h;exact ⟨c,d,rfl,fv aL.1 ba,eJ aL.2 aa⟩
 | slice e aM=>intro cs x aL;cases aL
 | array n e aM=>
  intro cs x aL h;obtain ⟨fk,rfl,G,V,ah⟩:=h;exact ⟨fk,rfl,G,V,λi M dM=>aM aL (ah i M dM)⟩
 | bI e aM=>intro cs x aL;cases aL
 | map k v wo wq=>intro cs x aL;cases aL
 | fn a b fv eJ=>intro cs x aL;cases aL
 | cq a aM=>intro cs x aL;cases aL
 | ej=>intro cs x aL;cases aL
end Go.Fer
namespace Go.Fer
open Go.RowKit
section
variable {P:Program} {F:Nat->Prop} {w:World}
theorem ab9 {t:ad} {x y:t.ai} (h:eR t t x=some y):y=x:=by
 obtain ⟨e,rfl⟩:=kH h;rfl
theorem Q2:∀ (t:ad) {f:Nat} {cs:List Value} {x:t.ai} {s:ad} {y:s.ai},bK P t F w cs x->uI t x f=some ⟨s,y⟩->
  ∃ bF c2 c3,cs=bF++(c2++c3)/\bK P s F w c2 y/\l8 t f=some (s,bF.length):=by
 have eM:∀ (t:ad),(∀ a b,t≠.aA a b)->t≠.cQ->∀ {f:Nat} {cs:List Value} {x:t.ai} {s:ad} {y:s.ai},bK P t F w cs x->uI t x f=some ⟨s,y⟩->
   ∃ bF c2 c3,cs=bF++(c2++c3)/\bK P s F w c2 y/\l8 t f=some (s,bF.length):=by
  intro t G V f cs x s y h aw;cases f with
  | zero=>
   have e:uI t x 0=some ⟨t,x⟩:=by cases t<;>first | rfl | grind | grind
   have a8:l8 t 0=some (t,0):=by cases t<;>first | rfl | grind | grind
   rw [e] at aw;cases aw;exact ⟨[],cs,[],by simp,h,a8⟩
  | succ f=>
   have e:uI t x (f+1)=none:=by cases t<;>first | rfl | grind
   grind
 intro t;induction t with
 | aA a b fv eJ=>
  intro f cs x s y h aw;simp only [bK] at h;obtain ⟨c,d,rfl,ba,aa⟩:=h;cases f with
  | zero=>
   simp only [uI,Option.some.injEq,Sigma.mk.injEq] at aw;obtain ⟨rfl,aw⟩:=aw;cases aw;exact ⟨[],c,d,by simp,ba,rfl⟩
  | succ f=>
   obtain ⟨bF,c2,c3,rfl,aU,aX⟩:=eJ aa aw;refine ⟨c++bF,c2,c3,by simp,aU,?_⟩;simp [l8,aX,hM a ba]
 | cQ=>intro f cs x s y _ aw;cases f<;>cases aw
 | bool=>grind
 | int k=>grind
 | str=>grind
 | st t _=>grind
 | slice e _=>grind
 | array n e _=>grind
 | bI e _=>grind
 | map k v _ _=>grind
 | fn a b _ _=>grind
 | cq a _=>grind
 | ej=>grind
theorem Q3:∀ (t:ad) {off:Nat} {cs:List Value} {x:t.ai} {s:ad} {y:s.ai},bK P t F w cs x->rM t x off s=some y->
  ∃ bF c2 c3,cs=bF++(c2++c3)/\bF.length=off/\bK P s F w c2 y:=by
 have eM:∀ (t:ad) {off:Nat} {cs:List Value} {x:t.ai} {s:ad} {y:s.ai},bK P t F w cs x->(if off=0 then eR t s x else none)=some y->
   ∃ bF c2 c3,cs=bF++(c2++c3)/\bF.length=off/\bK P s F w c2 y:=by
  intro t off cs x s y h aw;split at aw
  ·rename_i ag;exact ⟨[],cs,[],by simp,ag.symm,te aw h⟩
  grind
 intro t;induction t with
 | aA a b fv eJ=>
  intro off cs x s y h aw;simp only [bK] at h;obtain ⟨c,d,rfl,ba,aa⟩:=h;simp only [rM] at aw;split at aw
  ·grind
  ·obtain ⟨bF,c2,c3,rfl,aU,aX⟩:=eJ aa aw;have:=hM a ba;grind
 | st t aM=>
  intro off cs x s y h aw;simp only [rM] at aw;split at aw
  ·rename_i ag;exact ⟨[],cs,[],by simp,ag.1.symm,te aw h⟩
  ·simp only [bK] at h;grind
 | cQ=>intro off cs x s y _ aw;cases aw
 | array n e _=>intro off cs x s y _ aw;cases aw
 | bool=>intro off cs x s y h aw;exact eM _ h aw
 | int k=>intro off cs x s y h aw;exact eM (.int k) h aw
 | str=>intro off cs x s y h aw;exact eM _ h aw
 | slice e _=>intro off cs x s y h aw;exact eM (.slice e) h aw
 | bI e _=>intro off cs x s y h aw;exact eM (.bI e) h aw
 | map k v _ _=>intro off cs x s y h aw;exact eM (.map k v) h aw
 | fn a b _ _=>intro off cs x s y h aw;exact eM (.fn a b) h aw
 | cq a _=>intro off cs x s y h aw;exact eM (.cq a) h aw
 | ej=>intro off cs x s y h aw;exact eM .ej h aw
theorem ab_:∀ (t:ad) {off:Nat} {cs bk:List Value} {x dJ:t.ai} {s:ad} {y:s.ai},bK P t F w cs x->wC t x off s y=some dJ->bK P s F w bk y->
  ∃ bF c2 c3,cs=bF++(c2++c3)/\bF.length=off/\c2.length=s.size/\bK P t F w (bF++(bk++c3)) dJ:=by
 have eM:∀ (t:ad) {off:Nat} {cs bk:List Value} {x dJ:t.ai} {s:ad} {y:s.ai},bK P t F w cs x->(if off=0 then eR s t y else none)=some dJ->bK P s F w bk y->
   ∃ bF c2 c3,cs=bF++(c2++c3)/\bF.length=off/\c2.length=s.size/\bK P t F w (bF++(bk++c3)) dJ:=by
  intro t off cs bk x dJ s y h aw ay;split at aw
  ·rename_i ag;obtain ⟨e,rfl⟩:=kH aw;subst e;exact ⟨[],cs,[],by simp,ag.symm,hM s h,by grind⟩
  grind
 intro t;induction t with
 | aA a b fv eJ=>
  intro off cs bk x dJ s y h aw ay;simp only [bK] at h;obtain ⟨c,d,rfl,ba,aa⟩:=h;simp only [wC] at aw;split at aw
  ·simp only [Option.map_eq_some_iff] at aw;obtain ⟨z,bl,rfl⟩:=aw;obtain ⟨bF,c2,c3,rfl,aU,aX,bP⟩:=fv ba bl ay;exact ⟨bF,c2,c3++d,by simp,aU,aX,⟨_,d,by simp,bP,aa⟩⟩
  ·simp only [Option.map_eq_some_iff] at aw;obtain ⟨z,bl,rfl⟩:=aw;obtain ⟨bF,c2,c3,rfl,aU,aX,bP⟩:=eJ aa bl ay;have:=hM a ba;exact ⟨c++bF,c2,c3,by simp,by grind,aX,⟨c,_,by simp,ba,bP⟩⟩
 | st t aM=>
  intro off cs bk x dJ s y h aw ay;simp only [wC] at aw;split at aw
  ·rename_i ag;obtain ⟨ag,e⟩:=ag;subst e;have:=ab9 aw;subst this;exact ⟨[],cs,[],by simp,ag.symm,hM _ h,by grind⟩
  ·simp only [bK] at h ⊢;grind
 | cQ=>intro off cs bk x dJ s y _ aw;cases aw
 | array n e _=>intro off cs bk x dJ s y _ aw;cases aw
 | bool=>intro off cs bk x dJ s y h aw ay;exact eM _ h aw ay
 | int k=>intro off cs bk x dJ s y h aw ay;exact eM (.int k) h aw ay
 | str=>intro off cs bk x dJ s y h aw ay;exact eM _ h aw ay
 | slice e _=>intro off cs bk x dJ s y h aw ay;exact eM (.slice e) h aw ay
 | bI e _=>intro off cs bk x dJ s y h aw ay;exact eM (.bI e) h aw ay
 | map k v _ _=>intro off cs bk x dJ s y h aw ay;exact eM (.map k v) h aw ay
 | fn a b _ _=>intro off cs bk x dJ s y h aw ay;exact eM (.fn a b) h aw ay
 | cq a _=>intro off cs bk x dJ s y h aw ay;exact eM (.cq a) h aw ay
 | ej=>intro off cs bk x dJ s y h aw ay;exact eM .ej h aw ay
end
def j2:ad->List Value->Option (List Value)
 | .cQ,cs=>some cs
 | .st t,cs=>j2 t cs
 | .aA a b,cs=>(j2 a cs).bind (j2 b)
 | .array n e,cs=>n.rec (motive:=λ_=>List Value->Option (List Value)) some (λ_ aM cs=>(j2 e cs).bind aM) cs
 | .bool,cs=>match cs with | .bool false::r=>some r | _=>none
 | .int k,cs=>match cs with | .int k' n::r=>if k'=k/\n=0 then some r else none | _=>none
 | .str,cs=>match cs with | .string s::r=>if s.size=0 then some r else none | _=>none
 | .slice _,cs=>match cs with | .slice none 0 0::r=>some r | _=>none
 | .bI _,cs=>match cs with | .pointer none::r=>some r | _=>none
 | .map _ _,cs=>match cs with | .map none::r=>some r | _=>none
 | .fn _ _,cs=>match cs with | .nilFunc::r=>some r | _=>none
 | .cq _,cs=>match cs with | .nilFunc::r=>some r | _=>none
 | .ej,cs=>match cs with | .nilFunc::r=>some r | _=>none
theorem Q4 (k:IntKind):fL k 0:=by cases k<;>decide
theorem uL {P:Program} {H:Nat->bL} {κ:Nat->bD} {F:Nat->Prop} {w:World}:∀ (t:ad) {cs r:List Value},j2 t cs=some r->
  ∃ c,cs=c++r/\bK P t F w c t.db/\ev P H κ F w (rL t) c:=by
 intro t;induction t with
 | cQ=>intro cs r h;cases h;exact ⟨[],by simp,rfl,trivial⟩
 | st t aM=>intro cs r h;exact aM h
 | aA a b fv eJ=>
  intro cs r h;simp only [j2,Option.bind_eq_some_iff] at h;obtain ⟨q,G,V⟩:=h;obtain ⟨c,rfl,bF,c2⟩:=fv G;obtain ⟨d,rfl,d1,d2⟩:=eJ V;exact ⟨c++d,by simp,⟨c,d,rfl,bF,d1⟩,c2.append d2⟩
 | array n e aM=>
  intro cs r h;simp only [j2] at h;have key:∀ (n k:Nat) {cs r:List Value},n.rec (motive:=λ_=>List Value->Option (List Value)) some (λ_ aM cs=>(j2 e cs).bind aM) cs=some r->
    ∃ fk:List (List Value),cs=fk.flatten++r/\fk.length=n/\(∀ c∈fk,bK P e F w c e.db)/\ev P H κ F w ((List.range' k n).flatMap λ_=>rL e) fk.flatten:=by
   intro n;induction n with
   | zero=>intro k cs r h;cases h;exact ⟨[],by simp,rfl,by simp,trivial⟩
   | succ n By=>
    intro k cs r h;simp only [Option.bind_eq_some_iff] at h;obtain ⟨q,G,V⟩:=h;obtain ⟨c,rfl,bF,c2⟩:=aM G;obtain ⟨fk,rfl,d1,d2,d3⟩:=By (k+1) V;refine ⟨c::fk,by simp,by grind,?_,?_⟩
    ·grind
    ·simp only [List.range'_succ,List.flatMap_cons,List.flatten_cons];exact c2.append d3
  obtain ⟨fk,rfl,G,V,ah⟩:=key n 0 h;refine ⟨fk.flatten,rfl,⟨fk,rfl,G,by simp [ad.db],λi M dM=>?_⟩,?_⟩
  ·have:(ad.array n e).db[i]=e.db:=by simp [ad.db]
   grind
  ·simp only [rL,List.range_eq_range'];exact ah
 | bool=>
  intro cs r h;simp only [j2] at h;split at h
  ·cases h;exact ⟨[.bool false],rfl,rfl,⟨fa.2 rfl,rfl⟩,trivial⟩
  grind
 | int k=>
  intro cs r h;simp only [j2] at h;split at h
  ·split at h
   ·rename_i ao;obtain ⟨rfl,rfl⟩:=ao;cases h;exact ⟨[.int _ 0],rfl,⟨rfl,Q4 _⟩,⟨gP.2 ⟨rfl,Q4 _⟩,rfl⟩,trivial⟩
   grind
  grind
 | str=>
  intro cs r h;simp only [j2] at h;split at h
  ·rename_i s pV;split at h
   ·rename_i aG;cases h;have:s=⟨([]:List UInt8).toArray⟩:=by
     cases s with | mk d=>simp only [ByteArray.size] at aG;grind
    subst this;exact ⟨[.string ⟨([]:List UInt8).toArray⟩],rfl,⟨rfl,by decide⟩,⟨l5.2 ⟨rfl,by decide⟩,rfl⟩,trivial⟩
   grind
  grind
 | slice e _=>
  intro cs r h;simp only [j2] at h;split at h
  ·cases h;exact ⟨[.slice none 0 0],rfl,⟨none,0,rfl,Nat.le_refl _,by decide,λ_=>rfl,λp ar=>by simp⟩,⟨rfl,rfl⟩,trivial⟩
  grind
 | bI e _=>
  intro cs r h;simp only [j2] at h;split at h
  ·cases h;exact ⟨[.pointer none],rfl,.inl ⟨rfl,rfl⟩,⟨(dV rfl).2 ⟨rfl,.inl ⟨rfl,rfl⟩⟩,rfl⟩,trivial⟩
  grind
 | map k v _ _=>
  intro cs r h;simp only [j2] at h;split at h
  ·cases h;exact ⟨[.map none],rfl,.inl ⟨rfl,rfl⟩,⟨(dV rfl).2 ⟨rfl,.inl ⟨rfl,rfl⟩⟩,rfl⟩,trivial⟩
  grind
 | fn a b _ _=>
  intro cs r h;simp only [j2] at h;split at h
  ·cases h;exact ⟨[.nilFunc],rfl,⟨.nilFunc,rfl,⟨rfl,rfl⟩,λF' w' _ _ _ _ args x _ _ aG=>(show False from aG).elim⟩,⟨rfl,rfl⟩,trivial⟩
  grind
 | cq a _=>
  intro cs r h;simp only [j2] at h;split at h
  ·cases h;exact ⟨[.nilFunc],rfl,⟨.nilFunc,rfl,⟨rfl,rfl⟩,λF' w' _ _ _ _ aG=>(show ∃ _,False from aG).elim λ_ h=>h.elim⟩,⟨rfl,rfl⟩,trivial⟩
  grind
 | ej=>
  intro cs r h;simp only [j2] at h;split at h
  ·cases h;exact ⟨[.nilFunc],rfl,rfl,⟨(dV rfl).2 ⟨rfl,rfl⟩,rfl⟩,trivial⟩
  grind
def oa (P:Program) (t:ad) (id:TypeId):Bool:=
 match P.info? id with
 | some i=>i.size == t.size&&decide (i.bytes<=1024)&&(match i.zero with
  | some z=>(match j2 t z.cells.toList with | some []=>true | _=>false)&&(match t,z with
   | .st _,.agg _=>true
   | .array _ _,.agg _=>true
   | .st _,_=>false
   | .array _ _,_=>false
   | _,.agg _=>false
   | _,_=>true)
  | none=>false)
 | none=>false
def cC (P:Program):ad->Sum TypeId (List Field×Nat)->Bool
 | .aA a b, .inr (f :: g :: [], off) => f.offset == off && cC P a (.inl f.type) && a.size != 0 && f.name != "_" && (g.offset == off + a.size && cC P b (.inl g.type) && b.size != 0 && g.name != "_")
 | .aA a b, .inr (f :: g :: h :: eS, off) => f.offset == off && cC P a (.inl f.type) && a.size != 0 && f.name != "_" && cC P b (.inr (g :: h :: eS, off + a.size))
 | .st t,.inl id=>oa P (.st t) id&&!P.stoodInHeld id&&!P.eqGuardType P.depth id&&match P.underlying id with
  | some (.struct eS)=>(match eS.toList with
   | []=>decide (t=.cQ)
   | [f] => f.offset == 0 && cC P t (.inl f.type) && t.size != 0 && f.name != "_"
   | l=>cC P t (.inr (l,0)))
  | _=>false
 | .bool,.inl id=>oa P .bool id&&(match P.underlying id with | some .bool=>true | _=>false)
 | .int k,.inl id=>oa P (.int k) id&&(match P.underlying id with | some (.int k')=>decide (k'=k) | _=>false)
 | .str,.inl id=>oa P .str id&&(match P.underlying id with | some .string=>true | _=>false)
 | .slice e,.inl id=>oa P (.slice e) id&&(match P.underlying id with | some (.slice i)=>cC P e (.inl i)&&e.size != 0 | _=>false)
 | .array n e,.inl id=>oa P (.array n e) id&&(match P.underlying id with | some (.array m i)=>decide (m=n)&&cC P e (.inl i)&&e.size != 0 | _=>false)
 | .bI e,.inl id=>oa P (.bI e) id&&(match P.underlying id with | some (.pointer i)=>cC P e (.inl i)&&e.size != 0 | _=>false)
 | .map k v,.inl id=>oa P (.map k v) id&&(match P.underlying id with | some (.map i j)=>cC P k (.inl i)&&cC P v (.inl j) | _=>false)
 | .fn a b,.inl id=>oa P (.fn a b) id&&(match P.underlying id with | some (.func _ _ _)=>true | _=>false)
 | .cq a,.inl id=>oa P (.cq a) id&&(match P.underlying id with | some (.func _ _ _)=>true | _=>false)
 | .ej,.inl id=>oa P .ej id&&(match P.underlying id with | some (.func _ _ _)=>true | _=>false)
 | _,_=>false
def b7 (P:Program) (t:ad) (id:TypeId):Prop:=cC P t (.inl id)=true
theorem b7.kn {P:Program} {t:ad} {id:TypeId} (h:b7 P t id):oa P t id=true:=by
 unfold b7 at h;cases t<;>simp only [cC,Bool.and_eq_true,Bool.false_eq_true] at h<;>first | exact h.1.1.1 | exact h.1
theorem ko {P:Program} {t:ad} {id:TypeId} (h:oa P t id=true):∃ i z,P.info? id=some i/\i.size=t.size/\i.bytes<=1024/\i.zero=some z/\
  j2 t z.cells.toList=some []/\((∃ cs,z=.agg cs)<->t.isAgg=true):=by
 unfold oa at h;split at h
 ·rename_i i M;simp only [Bool.and_eq_true,beq_iff_eq,decide_eq_true_eq] at h;obtain ⟨⟨G,V⟩,ah⟩:=h;split at ah
  ·rename_i z bl;simp only [Bool.and_eq_true] at ah;obtain ⟨a7,bM⟩:=ah;refine ⟨i,z,M,G,V,bl,?_,?_⟩
   ·grind
   ·cases t<;>cases z<;>simp_all [ad.isAgg]
  grind
 grind
end Go.Fer
namespace Go.Fer
open Go.RowKit
structure ey where
 b9:Prop
 c:Prop
 e4:aI
 hB:List (Nat×bL)
def use:aI->Prop×aI
 | .hz b a=>(b=true,a)
 | a=>(True,a)
def wD:Value->aI
 | .bool b=>.val .bool b
 | .int k n=>if fL k n then .val (.int k) n else .jy (.int k n)
 | .string s=>if s.size<1048576 then .val .str s.data.toList else .jy (.string s)
 | .slice none 0 0=>.df
 | v=>.jy v
def a_ (aR:dE) (s:Nat->aI):Operand->aI
 | .tmp t=>s t
 | .const v=>wD v
 | .func f=>match aR.tb f with
  | some v=>.val (.fn v.ts v.aW) v.sh
  | none=>.iu f 0 λ_=>.undef
 | .global _=>.undef
structure aO where
 ts:ad
 aW:ad
 pre:ts.ai->Prop
 g:ts.ai->aW.ai
def kp:(t:ad)->t.ai->Nat->aI
 | .aA a _,x,0=>.val a x.1
 | .aA _ b,x,i+1=>kp b x.2 i
 | t,x,0=>.val t x
 | _,_,_+1=>.undef
def j3:ad->Nat
 | .aA _ b=>j3 b+1
 | .cQ=>0
 | _=>1
def qI (t:ad) (x:t.ai):aI:=
 match t with
 | .aA a b=>.pW (j3 (.aA a b)) (kp (.aA a b) x)
 | .cQ=>.jy (.tuple #[])
 | t=>.val t x
def iS:(t:ad)->List aI->aq (Option (t.ai×List Nat))
 | .aA a b,v::aE=>(dA a v).cN λ(x,l)=>(iS b aE).cN λ(y,m)=>.ret (some ((x,y),l++m))
 | .aA _ _,[]=>.none
 | .cQ,[]=>.ret (some ((),[]))
 | .cQ,_::_=>.none
 | t,[v]=>dA t v
 | _,_=>.none
def jD:List Nat->aq (List (Nat×bL))
 | []=>.ret []
 | b::l=>.eQ b λx=>(jD l).bind λr=>match x.body with
  | .bj e xs=>.ret ((b,⟨x.gen,.hA e xs⟩)::r)
  | .mp k v es=>.ret ((b,⟨x.gen,.iQ k v es⟩)::r)
  | .cells t f=>(ie t ((List.range t.size).map f)).bind λo=>.ret (match o with
   | some (y,_,[])=>(b,⟨x.gen,.gD t y⟩)::r
   | _=>r)
  | _=>.ret r
def cellsOf (t:ad) (av:aI):Option (List aI):=
 match t,av with
 | .st t,.val (.st cU) x=>if cU=t then some (nB cU x) else none
 | .st t,.agg n f=>if n=t.size then some ((List.range n).map f) else none
 | .array n e,.val (.array iT a8) x=>if iT=n/\a8=e then some (nB (.array iT a8) x) else none
 | .array n e,.agg m f=>if m=n*e.size then some ((List.range m).map f) else none
 | t,av=>if t.eC then (match av with
  | .val cU _=>if cU.eC then some [av] else none
  | .a1 _ _ _ | .an _ _ | .n' _ _ _ _ | .dW _ _ | .fb _ _ | .iu _ _ _ | .df | .sub _ _ _ _=>some [av]
  | .jy (.agg _) | .jy (.tuple _)=>none
  | .jy _=>some [av]
  | _=>none) else none
def aI.l_:aI->Option (IntKind×Int)
 | .val (.int k) x=>some (k,x)
 | _=>none
def aI.tf:aI->Option (List UInt8)
 | .val .str x=>some x
 | _=>none
def yK (op:BinOp) (k:IntKind) (a b:Int):Option (Prop×aI):=
 match op with
 | .add=>some (True,.val (.int k) (k.wrap (a+b)))
 | .sub=>some (True,.val (.int k) (k.wrap (a - b)))
 | .mul=>some (True,.val (.int k) (k.wrap (a*b)))
 | .quo=>some (b≠0,.val (.int k) (k.wrap (a.tdiv b)))
 | .rem=>some (b≠0,.val (.int k) (a.tmod b))
 | .and=>some (True,.val (.int k) (lC k a b))
 | .or=>some (True,.val (.int k) (QW k a b))
 | .xor=>some (True,.val (.int k) (QX k a b))
 | .andNot=>some (True,.val (.int k) (QY k a b))
 | .eql=>some (True,.val .bool (decide (a=b)))
 | .neq=>some (True,.val .bool (decide (a≠b)))
 | .lss=>some (True,.val .bool (decide (a<b)))
 | .leq=>some (True,.val .bool (decide (a<=b)))
 | .gtr=>some (True,.val .bool (decide (a > b)))
 | .geq=>some (True,.val .bool (decide (a>=b)))
 | _=>none
def JH (op:BinOp) (k:IntKind) (a b:Int):Option (Prop×aI):=
 match op with
 | .shl=>some (0<=b,.val (.int k) (ab6 k a b))
 | .shr=>some (0<=b,.val (.int k) (jd k a b))
 | _=>none
def Bz (op:BinOp) (a b:List UInt8):Option (Prop×aI):=
 match op with
 | .add=>some (cn (a.length+b.length),.val .str (a++b))
 | .eql=>some (True,.val .bool (decide (a=b)))
 | .neq=>some (True,.val .bool (decide (a≠b)))
 | .lss=>some (True,.val .bool (Op.bytesLess a b))
 | .geq=>some (True,.val .bool (!Op.bytesLess a b))
 | _=>none
def ad.j4:ad->Nat
 | .st t=>t.j4+1
 | .aA a b=>max a.j4 b.j4
 | _=>1
def yL (op:BinOp) (t:ad) (x y:aI):aq (Option (Prop×aI)):=
 (match t,x,y with
 | .bI _,.val (.bI _) p,.jy (.pointer none)=>.ret (some p.isNone)
 | .bI _,.dW _ _,.jy (.pointer none)=>.ret (some false)
 | .bI _,.a1 b g _,.jy (.pointer none)=>.eQ b λz=>.ret (if z.gen=g&&z.body.fC then some false else none)
 | t,x,y=>if t.kJ&&decide (t.j4<=100) then (dA t x).cN λ(a,_)=>(dA t y).cN λ(b,_)=>.ret (some (gE t a b)) else .none:aq (Option Bool)).cN λe=>
 .ret (match op with
  | .eql=>some (True,.val .bool e)
  | .neq=>some (True,.val .bool (!e))
  | _=>none)
def bO (b9 c:Prop) (v:aI):aq (Option ey):=.ret (some ⟨b9,c,v,[]⟩)
def EW (t:ad) (av:aI):aq (Option (Prop×Int)):=
 match t with
 | .slice _=>match av with
  | .val (.slice _) xs=>.ret (some (True,xs.length))
  | .df=>.ret (some (True,0))
  | .an b g=>.eQ b λx=>.ret (if x.gen=g&&x.body.fc then some (True,x.body.len) else none)
  | .sub b g aZ M=>.eQ b λx=>.ret (if x.gen=g&&x.body.fc then some (True,((M - aZ:Nat):Int)) else none)
  | _=>.none
 | .str=>match av with
  | .val .str xs=>.ret (some (True,xs.length))
  | _=>.none
 | .map _ _=>match av with
  | .val (.map _ _) xs=>.ret (some (cn xs.length,xs.length))
  | .fb b g=>.eQ b λx=>.ret (if x.gen=g then (match x.body with | .mp _ _ es=>some (cn es.length,(es.length:Int)) | .iQ _ _ es=>some (cn es.length,(es.length:Int)) | _=>none) else none)
  | _=>.none
 | _=>.none
def yM (t:ad):aI->aq (Option aI)
 | .dW cU x=>.ret (if cU=t/\(t.eC||t.isAgg)=true then some (.val cU x) else none)
 | .a1 b g off=>.eQ b λx=>.ret (if x.gen=g then (match x.body with
   | .cells t0 f=>if t.eC then (if off<t0.size then some (f off) else none) else if t.isAgg then (if off+t.size<=t0.size then some (.agg t.size λi=>f (off+i)) else none) else none
   | .gD t0 y=>if t.eC||t.isAgg then (rM t0 y off t).map (.val t) else none
   | _=>none) else none)
 | .n' b g i off=>.eQ b λx=>.ret (if x.gen=g then (match x.body with
   | .bj e xs=>if t.eC||t.isAgg then (rM e (xs.getD i e.db) off t).map (.val t) else none
   | .hA e xs=>if t.eC||t.isAgg then (rM e (xs.getD i e.db) off t).map (.val t) else none
   | _=>none) else none)
 | _=>.none
def putCells (f:Nat->aI) (off:Nat) (l:List aI):Nat->aI:=λi=>if off<=i/\i<off+l.length then l.getD (i - off) .undef else f i
def Q5 (t:ad) (p v:aI):aq (Option (List (Nat×bL))):=
 match p with
 | .a1 b g off=>.eQ b λx=>.ret (if x.gen=g then (match x.body with
   | .cells t0 f=>(cellsOf t v).bind λl=>if off+l.length<=t0.size/\l.length=t.size then some [(b,⟨x.gen,.cells t0 (putCells f off l)⟩)] else none
   | _=>none) else none)
 | .n' b g i off=>(dA t v).cN λ(y,l)=>(jD l).bind λwl=>.eQ b λx=>.ret (if x.gen=g/\!l.contains b then (match x.body with
   | .bj e xs=>(wC e (xs.getD i e.db) off t y).map λz=>wl++[(b,⟨x.gen,.bj e (xs.set i z)⟩)]
   | _=>none) else none)
 | _=>.none
def Q6 (cX:ad) (x:aI) (i:Int):aq (Option (Prop×aI)):=
 match x with
 | .val (.slice e) xs=>.ret (if e=cX then some (0<=i/\i<(xs.length:Int),.dW e (kI e xs i)) else none)
 | .an b g=>.eQ b λz=>.ret (if z.gen=g then (match z.body with
   | .bj e xs=>if e=cX then some (0<=i/\i<(xs.length:Int),.n' b g i.toNat 0) else none
   | .hA e xs=>if e=cX then some (0<=i/\i<(xs.length:Int),.dW e (kI e xs i)) else none
   | _=>none) else none)
 | .sub b g aZ M=>.eQ b λz=>.ret (if z.gen=g then (match z.body with
   | .bj e _=>if e=cX then some (0<=i/\i<((M - aZ:Nat):Int),.n' b g (aZ+i.toNat) 0) else none
   | .hA e xs=>if e=cX then some (0<=i/\i<((M - aZ:Nat):Int),.dW e (kI e xs ((aZ:Int)+i))) else none
   | _=>none) else none)
 | .df=>.ret (some (False,.dW cX cX.db))
 | _=>.none
def dp:Option Int->Int | some l=>l | none=>0
def fx (n:Nat):Option Int->Int | some h=>h | none=>n
def BA (aZ M:Option Int) (n m:Nat):Nat:=match aZ,M with | some _,some _=>m | _,_=>n
def Q7 (cX:ad) (x:aI) (aZ M:Option Int):aq (Option (Prop×aI)):=
 match x with
 | .val (.slice e) xs=>.ret (if e=cX then some (0<=dp aZ/\dp aZ<=fx xs.length M/\fx xs.length M<=(xs.length:Int),.val (.slice e) ((xs.take (fx xs.length M).toNat).drop (dp aZ).toNat)) else none)
 | .df=>.ret (some (0<=dp aZ/\dp aZ<=fx 0 M/\fx 0 M<=0,.df))
 | .an b g=>.eQ b λz=>.ret (if z.gen=g&&z.body.fc&&z.body.eY == cX.size then some (0<=dp aZ/\dp aZ<=fx z.body.len M/\fx z.body.len M<=(z.body.len:Int),.sub b g (dp aZ).toNat (fx z.body.len M).toNat) else none)
 | .sub b g fe aY=>.eQ b λz=>.ret (if z.gen=g&&z.body.fc&&z.body.eY == cX.size then some (0<=dp aZ/\dp aZ<=fx (aY - fe) M/\fx (aY - fe) M<=((BA aZ M (aY - fe) (z.body.len - fe):Nat):Int),.sub b g (fe+(dp aZ).toNat) (fe+(fx (aY - fe) M).toNat)) else none)
 | _=>.none
def Q8 (x:aI) (aZ M:Option Int):Option (Prop×aI):=
 match x with
 | .val .str xs=>some (0<=dp aZ/\dp aZ<=fx xs.length M/\fx xs.length M<=(xs.length:Int),.val .str ((xs.take (fx xs.length M).toNat).drop (dp aZ).toNat))
 | _=>none
def h3 (d:Option Nat) (k:Nat->Nat->Option ey):aq (Option ey):=
 match d with
 | none=>.none
 | some d=>.eQ d λx=>.ret (k d (x.gen+1))
def JI (d:Option Nat) (e:ad) (x y:aI) (b9:Prop):aq (Option ey):=
 match x with
 | .an b g=>.eQ b λz=>match (if z.gen=g then z.body else .fw) with
  | .bj a8 xs=>if h:a8=e then (dA (.slice e) y).cN λ(ys,_)=>.ret (some ⟨b9,cn (xs.length+ys.length),.an b (g+1),[(b,⟨g+1,.bj e ((h ▸ xs)++ys)⟩)]⟩) else .none
  | _=>.none
 | .sub b g aZ M=>.eQ b λz=>match (if z.gen=g then z.body else .fw) with
  | .bj a8 xs=>if h:a8=e then (dA (.slice e) y).cN λ(ys,_)=>.ret (some ⟨b9,cn (((xs.take M).drop aZ).length+ys.length),.an b (g+2),[(b,⟨g+2,.bj e ((h ▸ (xs.take M).drop aZ)++ys)⟩)]⟩) else .none
  | _=>.none
 | .df=>(dA (.slice e) y).cN λ(ys,_)=>h3 d λb g=>some ⟨b9,cn ys.length,.an b g,[(b,⟨g,.bj e ys⟩)]⟩
 | .wy a8 xs=>if h:a8=e then (dA (.slice e) y).cN λ(ys,_)=>h3 d λb g=>some ⟨b9,0<ys.length/\cn (xs.length+ys.length),.an b g,[(b,⟨g,.bj e ((h ▸ xs)++ys)⟩)]⟩ else .none
 | _=>.none
def EX (t:ad):List aI->List (Nat×aI)->Option (List aI)
 | cs,[]=>some cs
 | cs,(i,av)::r=>
  match l8 t i with
  | none=>none
  | some (s,off)=>match cellsOf s av with
   | none=>none
   | some l=>if l.length=s.size/\off+s.size<=cs.length then EX t (cs.take off++(l++cs.drop (off+s.size))) r else none
def th (e:ad) (ps:List (Nat×aI)):Nat->Nat->aq (Option (List e.ai×List Nat))
 | _,0=>.ret (some ([],[]))
 | i,n+1=>(match ps.find? (λp=>p.1 == i) with
   | some p=>dA e p.2
   | none=>.ret (some (e.db,[])):aq (Option (e.ai×List Nat))).cN λ(x,l)=>(th e ps (i+1) n).cN λ(xs,m)=>.ret (some (x::xs,l++m))
def rN (ps:List (Nat×aI)):Prop:=ps.foldr (λp q=>match p.2 with | .hz b _=>b=true/\q | _=>q) True
def ix (ps:List (Nat×aI)):List (Nat×aI):=ps.map λp=>(p.1,(use p.2).2)
def jE (ps:List aI):Prop:=ps.foldr (λp q=>match p with | .hz b _=>b=true/\q | _=>q) True
def k4 (aK:Operand->aI):Option Operand->Option (Prop×Option Int)
 | none=>some (True,none)
 | some x=>match use (aK x) with
  | (o,.val (.int _) n)=>some (o,some n)
  | _=>none
def EY (T:Nat->ad) (aK:Operand->aI) (ty:TypeId) (x:Operand) (aZ M:Option Operand):aq (Option ey):=
 let (cA,dZ):=use (aK x)
 match k4 aK aZ,k4 aK M with
 | some (ol,l),some (qJ,h)=>match T ty with
  | .slice e=>(Q7 e dZ l h).cN λ(c,v)=>bO (cA/\(ol/\qJ)) c v
  | .str=>match Q8 dZ l h with
   | some (c,v)=>bO (cA/\(ol/\qJ)) c v
   | none=>.none
  | _=>.none
 | _,_=>.none
def Q9 (cX:ad) (x:aI) (aZ M:Option Int) (m:Int):aq (Option (Prop×aI)):=
 match x with
 | .val (.slice e) xs=>.ret (if e=cX then some (0<=dp aZ/\dp aZ<=fx xs.length M/\fx xs.length M=m/\m<=(xs.length:Int),.wy e ((xs.take m.toNat).drop (dp aZ).toNat)) else none)
 | .df=>.ret (some (dp aZ=0/\fx 0 M=0/\m=0,.wy cX []))
 | .an b g=>.eQ b λz=>.ret (if z.gen=g&&z.body.fc then some (0<=dp aZ/\dp aZ<=fx z.body.len M/\fx z.body.len M<=m/\m<=(z.body.len:Int),.undef) else none)
 | _=>.none
def EZ (T:Nat->ad) (aK:Operand->aI) (ty:TypeId) (x:Operand) (aZ M o3:Option Operand):aq (Option ey):=
 let (cA,dZ):=use (aK x)
 match k4 aK aZ,k4 aK M,k4 aK o3 with
 | some (ol,l),some (qJ,some h),some (uM,some m)=>match T ty with
  | .slice e=>(Q9 e dZ l (some h) m).cN λ(c,v)=>bO (cA/\(ol/\(qJ/\uM))) c v
  | _=>.none
 | _,_,_=>.none
def BB (T:Nat->ad) (aK:Operand->aI) (args:List Operand) (dj:List TypeId):aq (Option ey):=
 match args,dj with
 | [x],[t]=>let (cA,dZ):=use (aK x);(EW (T t) dZ).cN λ(c,n)=>bO cA c (.val (.int .i64) n)
 | _,_=>.none
def BC (T:Nat->ad) (aK:Operand->aI) (d:Option Nat) (args:List Operand) (dj:List TypeId):aq (Option ey):=
 match args,dj with
 | [x,y],[t,u]=>match T t,T u with
  | .slice e,.slice _=>let (cA,dZ):=use (aK x);let (nC,kq):=use (aK y);JI d e dZ kq (cA/\nC)
  | _,_=>.none
 | _,_=>.none
def mE (aK:Operand->aI) (k:IntKind):List Operand->Option (Prop×z1')
 | []=>none
 | [x]=>match (use (aK x)).2.l_ with
  | some (k',n)=>if k'=k then some ((use (aK x)).1,[n]) else none
  | none=>none
 | x::l=>match (use (aK x)).2.l_,mE aK k l with
  | some (k',n),some (b9,h4)=>if k'=k then some ((use (aK x)).1/\b9,n::h4) else none
  | _,_=>none
def rO (aK:Operand->aI) (f:Int->Int->Int) (args:List Operand):aq (Option ey):=
 match args with
 | x::y::l=>match (use (aK x)).2.l_ with
  | some (k,a)=>match mE aK k (y::l) with
   | some (b9,h4)=>bO ((use (aK x)).1/\b9) True (.val (.int k) (h4.foldl f a))
   | none=>.none
  | none=>.none
 | _=>.none
def BD (T:Nat->ad) (aK:Operand->aI) (args:List Operand) (dj:List TypeId):aq (Option ey):=
 match args,dj with
 | [x],[t]=>match T t,use (aK x) with
  | .slice _,(cA,.df)=>bO cA True (.val (.int .i64) 0)
  | _,_=>.none
 | _,_=>.none
def nD (t:ad):Bool:=match t with | .aA (.slice _) .cQ=>true | _=>false
def BE (t:ad) (y:t.ai):Option ((e:ad)×List e.ai):=match t,y with | .aA (.slice e) .cQ,y=>some ⟨e,y.1⟩ | _,_=>none
def E0 (bg:Nat->Option aO) (aK:Operand->aI) (d:Option Nat) (k:Nat) (args:List Operand):aq (Option ey):=
 let l:=args.map aK
 match bg k with
 | some c=>(iS c.ts (l.map λv=>(use v).2)).cN λ(x,bW)=>match BE c.aW (c.g x) with
  | some y=>(jD bW).bind λwl=>h3 d λb g=>if bW.contains b then none else some ⟨jE l,c.pre x,.an b g,wl++[(b,⟨g,.bj y.1 y.2⟩)]⟩
  | none=>(if c.aW.pure then .ret [] else jD bW:aq (List (Nat×bL))).bind λwl=>.ret (some ⟨jE l,c.pre x,qI c.aW (c.g x),wl⟩)
 | none=>.none
def yN {k v:ad} (es:List (k.ai×v.ai)) (x:k.ai):Option v.ai:=(es.find? λp=>gE k x p.1).map (·.2)
def lD {k v:ad}:List (k.ai×v.ai)->k.ai->v.ai->List (k.ai×v.ai)
 | [],x,y=>[(x,y)]
 | p::es,x,y=>if gE k x p.1=true then (p.1,y)::es else p::lD es x y
def ti (k:ad):Bool:=k.kJ&&decide (k.j4<=100)
def BF (k v:ad) (m:aI):aq (Option (List (k.ai×v.ai))):=
 match m with
 | .val t es=>.ret (eR t (.map k v) es)
 | .jy (.map none)=>.ret (some [])
 | .fb b g=>.eQ b λx=>.ret (if x.gen=g then (match x.body with
   | .mp k' h2 es=>eR (.map k' h2) (.map k v) es
   | .iQ k' h2 es=>eR (.map k' h2) (.map k v) es
   | _=>none) else none)
 | _=>.none
def Q_ (v:ad) (r:Option v.ai) (ok:Bool):aI:=
 match ok with
 | true=>.pW 2 (hb [.val v (r.getD v.db),.val .bool r.isSome])
 | false=>.val v (r.getD v.db)
def yO (T:Nat->ad) (aK:Operand->aI) (ty:TypeId) (m x:Operand) (ok:Bool):aq (Option ey):=
 match T ty with
 | .map k v=>let (uM,JJ):=use (aK m);let (cA,dZ):=use (aK x);if ti k&&(v.eC||v.isAgg) then
   (BF k v JJ).cN λes=>(dA k dZ).cN λ(y,_)=>
    bO (uM/\cA) True (Q_ v (yN es y) ok)
  else .none
 | _=>.none
def qK (T:Nat->ad) (aK:Operand->aI) (ty:TypeId) (m x y:Operand):aq (Option ey):=
 match T ty with
 | .map k v=>let (uM,JJ):=use (aK m);let (cA,dZ):=use (aK x);let (nC,kq):=use (aK y);if ti k then
   match JJ with
   | .fb b g=>(dA k dZ).cN λ(x,ob)=>(dA v kq).cN λ(y,oc)=>(jD (ob++oc)).bind λwl=>.eQ b λz=>.ret (if z.gen=g/\!(ob++oc).contains b then (match z.body with
     | .mp k' h2 es=>(eR (.map k' h2) (.map k v) es).map λes=>⟨uM/\cA/\nC,True,.undef,wl++[(b,⟨z.gen,.mp k v (lD es x y)⟩)]⟩
     | _=>none) else none)
   | _=>.none
  else .none
 | _=>.none
def E1 (T:Nat->ad) (aK:Operand->aI) (d:Option Nat) (ty:TypeId) (l c:Operand):aq (Option ey):=
 match T ty with
 | .slice e=>let (ol,ab'):=use (aK l);let (p1,aca):=use (aK c);match ab'.l_,aca.l_ with
  | some (.i64,n),some (.i64,m)=>h3 d λb g=>some ⟨ol/\p1,0<=n/\n=m/\cn n.toNat,.an b g,[(b,⟨g,.bj e (List.replicate n.toNat e.db)⟩)]⟩
  | _,_=>.none
 | _=>.none
def fZ {al:Type} (xs:List al) (aZ:Nat) (ys:List al):List al:=xs.take aZ++ys++xs.drop (aZ+ys.length)
def E2 (T:Nat->ad) (aK:Operand->aI) (args:List Operand) (dj:List TypeId):aq (Option ey):=
 match args,dj with
 | [x,y],[t,u]=>match T t,T u with
  | .slice e,.slice _=>let (cA,dZ):=use (aK x);let (nC,kq):=use (aK y);match (match dZ with | .an b g=>some (b,g,0,none) | .sub b g aZ M=>some (b,g,aZ,some M) | _=>none:Option (Nat×Nat×Nat×Option Nat)) with
   | some (b,g,aZ,M)=>(dA (.slice e) kq).cN λ(ys,_)=>.eQ b λz=>.ret (if z.gen=g then (match z.body with
     | .bj a8 xs=>if h:a8=e then some ⟨cA/\nC,True,.val (.int .i64) ((min (M.getD xs.length - aZ) ys.length:Nat):Int),[(b,⟨z.gen,.bj e (fZ (h ▸ xs) aZ (ys.take (M.getD xs.length - aZ)))⟩)]⟩ else none
     | _=>none) else none)
   | none=>.none
  | _,_=>.none
 | _,_=>.none
def wF (aK:Operand->aI) (args:List Operand):Option (Nat×Nat×Nat×Nat):=
 match args with
 | [x,y]=>match (use (aK x)).2,(use (aK y)).2 with
  | .sub b g aZ M,.sub bf g' _ _=>if bf=b/\g'=g then some (b,g,aZ,M) else none
  | _,_=>none
 | _=>none
def BG (T:Nat->ad) (aK:Operand->aI) (args:List Operand) (dj:List TypeId) (b g aZ M:Nat):aq (Option ey):=
 match args,dj with
 | [x,y],[t,u]=>match T t,T u with
  | .slice e,.slice _=>let (cA,_):=use (aK x);let (nC,kq):=use (aK y);(dA (.slice e) kq).cN λ(ys,_)=>.eQ b λz=>.ret (if z.gen=g then (match z.body with
    | .bj a8 xs=>if h:a8=e then some ⟨cA/\nC,M+ys.length<=xs.length,.sub b g aZ (M+ys.length),[(b,⟨z.gen,.bj e (fZ (h ▸ xs) M ys)⟩)]⟩ else none
    | _=>none) else none)
  | _,_=>.none
 | _,_=>.none
def BH (T:Nat->ad) (aK:Operand->aI) (args:List Operand) (dj:List TypeId):aq (Option ey):=
 match args,dj with
 | [x],[t]=>match T t with
  | .slice e=>let (cA,dZ):=use (aK x);match dZ with
   | .sub b g aZ M=>.eQ b λz=>.ret (if z.gen=g then (match z.body with
     | .bj a8 xs=>if h:a8=e then some ⟨cA,True,.undef,[(b,⟨z.gen,.bj e (fZ (h ▸ xs) aZ (List.replicate (M - aZ) e.db))⟩)]⟩ else none
     | _=>none) else none)
   | _=>.none
  | _=>.none
 | _,_=>.none
def mF (T:Nat->ad) (bg:Nat->Option aO) (aK:Operand->aI) (d:Option Nat) (c:Call):aq (Option ey):=
 match c.callee with
 | .builtin b=>match b with
  | .len=>BB T aK c.args.toList c.argTypes.toList
  | .append=>match wF aK c.args.toList with
   | some (b,g,aZ,M)=>BG T aK c.args.toList c.argTypes.toList b g aZ M
   | none=>BC T aK d c.args.toList c.argTypes.toList
  | .clear=>BH T aK c.args.toList c.argTypes.toList
  | .copy=>E2 T aK c.args.toList c.argTypes.toList
  | .min=>rO aK (λa b=>if b<a then b else a) c.args.toList
  | .max=>rO aK (λa b=>if b > a then b else a) c.args.toList
  | .cap=>BD T aK c.args.toList c.argTypes.toList
  | _=>.none
 | .value f=>match f with
  | .func k=>E0 bg aK d k c.args.toList
  | _=>.none
 | _=>.none
def uN (ys:z1'):List UInt8:=ys.map λn=>UInt8.ofNat n.toNat
def Q' (t:ad) (b9:Prop) (b g i:Nat):aq (Option ey):=
 .eQ b λz=>.ret (match z.body with
  | .f' _ _ k5 v=>if z.gen=g/\t.eC=true then some ⟨b9,i=k5,v,[]⟩ else none
  | _=>none)
def JK (t:ad) (b9:Prop) (b g i:Nat) (v:aI):aq (Option ey):=
 match v with
 | .an bf g'=>.eQ b λz=>.ret (match z.body with
  | .f' e xs k5 _=>if z.gen=g/\t.eC=true then some ⟨b9,i=k5,.undef,[(b,⟨z.gen,.f' e xs k5 (.an bf g')⟩)]⟩ else none
  | _=>none)
 | _=>.none
def bt (aR:dE) (T:Nat->ad) (bg:Nat->Option aO) (aK:Operand->aI) (o:Oper):aq (Option ey):=
 match o.op with
 | .move x=>bO True True (aK x)
 | .assign x=>match aK x,T o.type with
  | .df,.slice e=>h3 o.dst λb g=>some ⟨True,True,.an b g,[(b,⟨g,.bj e []⟩)]⟩
  | v,_=>bO True True v
 | .pick c a b=>match use (aK c) with
  | (p1,.val .bool iU)=>match a,b with
   | _,.const (.bool false)=>match use (aK a) with
    | (yP,.val .bool av)=>bO (p1/\(iU=true->yP)) True (.val .bool (iU&&av))
    | _=>.none
   | .const (.bool true),_=>match use (aK b) with
    | (b9,.val .bool bv)=>bO (p1/\(iU=false->b9)) True (.val .bool (iU||bv))
    | _=>.none
   | _,_=>.none
  | _=>.none
 | .binOp op ty x y _=>
  let (cA,dZ):=use (aK x)
  let (nC,kq):=use (aK y)
  match dZ.l_,kq.l_ with
  | some (k,a),some (k',b)=>(match op with
   | .shl | .shr=>match JH op k a b with
    | some (c,v)=>bO (cA/\nC) c v
    | none=>.none
   | _=>if k=k' then (match yK op k a b with
    | some (c,v)=>bO (cA/\nC) c v
    | none=>.none) else .none)
  | _,_=>match dZ.tf,kq.tf with
   | some a,some b=>match Bz op a b with
    | some (c,v)=>bO (cA/\nC) c v
    | none=>.none
   | _,_=>(yL op (T ty) dZ kq).cN λ(c,v)=>bO (cA/\nC) c v
 | .unOp op _ x=>match op,use (aK x) with
  | .not,(cA,.val .bool b)=>bO cA True (.val .bool (!b))
  | .neg,(cA,.val (.int k) n)=>bO cA True (.val (.int k) (k.wrap (0 - n)))
  | _,_=>.none
 | .extract x i=>match use (aK x) with
  | (cA,.pW n f)=>if i<n then bO cA True (f i) else .none
  | _=>.none
 | .nilCheck x=>match use (aK x) with
  | (cA,.iP b g i)=>.eQ b λz=>.ret (if z.gen=g&&z.body.fc then some ⟨cA,True,.iP b g i,[]⟩ else none)
  | (cA,.dW t d)=>bO cA True (.dW t d)
  | (cA,.val (.bI e) p)=>bO cA (p.isSome=true) (.dW e (p.getD e.db))
  | (cA,.a1 b g off)=>.eQ b λz=>.ret (if z.gen=g&&z.body.fC then some ⟨cA,True,.a1 b g off,[]⟩ else none)
  | _=>.none
 | .fieldAddr ty x f=>match T ty with
  | .st t=>match l8 t f with
   | some (_,wG)=>match use (aK x) with
    | (cA,.a1 b g off)=>.eQ b λz=>.ret (if z.gen=g&&z.body.fC then some ⟨cA,True,.a1 b g (off+wG),[]⟩ else none)
    | (cA,.n' b g i off)=>.eQ b λz=>.ret (if z.gen=g&&z.body.fc then some ⟨cA,True,.n' b g i (off+wG),[]⟩ else none)
    | (cA,.iP b g i)=>.eQ b λz=>.ret (if z.gen=g&&z.body.fc&&wG == 0 then some ⟨cA,True,.iP b g i,[]⟩ else none)
    | (cA,.dW (.st cU) d)=>if cU=t then (match uI cU d f with
     | some ⟨s',y⟩=>bO cA True (.dW s' y)
     | none=>.none) else .none
    | _=>.none
   | none=>.none
  | _=>.none
 | .field ty x f=>match T ty with
  | .st t=>match use (aK x) with
   | (cA,.val (.st cU) d)=>if cU=t then (match uI cU d f with
     | some ⟨s',y⟩=>bO cA True (.val s' y)
     | none=>.none) else .none
   | _=>.none
  | _=>.none
 | .load ty x=>match use (aK x) with
  | (cA,.iP b g i)=>Q' (T ty) cA b g i
  | (cA,dZ)=>(yM (T ty) dZ).cN λv=>bO cA True v
 | .store ty x y=>let (nC,kq):=use (aK y);match use (aK x) with
  | (cA,.iP b g i)=>JK (T ty) (cA/\nC) b g i kq
  | (cA,dZ)=>(Q5 (T ty) dZ kq).cN λwl=>.ret (some ⟨cA/\nC,True,.undef,wl⟩)
 | .alloc ty=>h3 o.dst λb g=>if T ty=.cQ then none else some ⟨True,True,.a1 b g 0,[(b,⟨g,.cells (T ty) (hb (rL (T ty)))⟩)]⟩
 | .box ty x=>let (cA,dZ):=use (aK x);match cellsOf (T ty) dZ with
  | some l=>h3 o.dst λb g=>if l.length=(T ty).size then some ⟨cA,True,.a1 b g 0,[(b,⟨g,.cells (T ty) (hb l)⟩)]⟩ else none
  | none=>.none
 | .build ty ps=>let l:=ps.toList.map λp=>(p.1,aK p.2);match T ty with
  | .st t=>match EX t (rL t) (ix l) with
   | some cs=>bO (rN l) True (.agg cs.length (hb cs))
   | none=>.none
  | .array m e=>(th e (ix l) 0 m).cN λ(xs,bW)=>if (bW.isEmpty&&decide ((ix l).map (·.1)).Nodup&&(ix l).all (λp=>decide (p.1<m)))=true then bO (rN l) True (.val (.array m e) xs) else .none
  | _=>.none
 | .buildSlice ty n ps=>let l:=ps.toList.map λp=>(p.1,aK p.2);match T ty with
  | .slice e=>(th e (ix l) 0 n).cN λ(xs,bW)=>(jD bW).bind λwl=>h3 o.dst λb g=>if n*e.size<=65536/\(!bW.contains b&&decide ((ix l).map (·.1)).Nodup&&(ix l).all (λp=>decide (p.1<n)))=true then some ⟨rN l,True,.an b g,wl++[(b,⟨g,.bj e xs⟩)]⟩ else none
  | _=>.none
 | .indexAddr ty x i=>let (cA,dZ):=use (aK x);let (wH,JL):=use (aK i);match T ty,JL.l_ with
  | .slice e,some (_,n)=>(Q6 e dZ n).cN λ(c,v)=>bO (cA/\wH) c v
  | .array m e,some (_,n)=>match dZ with
   | .dW (.array dw a8) xs=>if dw=m/\a8=e then bO (cA/\wH) (0<=n/\n<(m:Int)) (.dW a8 (kI a8 xs n)) else .none
   | .a1 b g off=>.eQ b λz=>.ret (if z.gen=g&&z.body.fC then some ⟨cA/\wH,0<=n/\n<(m:Int),.a1 b g (off+n.toNat*e.size),[]⟩ else none)
   | _=>.none
  | _,_=>.none
 | .index ty x i=>let (cA,dZ):=use (aK x);let (wH,JL):=use (aK i);match T ty,dZ.tf,JL.l_ with
  | .str,some s,some (_,n)=>bO (cA/\wH) (0<=n/\n<(s.length:Int)) (.val (.int .u8) ((s.getD n.toNat 0).toNat:Int))
  | .array m e,_,some (_,n)=>match dZ with
   | .val (.array dw a8) xs=>if dw=m/\a8=e then bO (cA/\wH) (0<=n/\n<(m:Int)) (.val a8 (kI a8 xs n)) else .none
   | .agg k f=>if k=m*e.size then bO (cA/\wH) (0<=n/\n<(m:Int)) (if e.isAgg=true then .agg e.size (λq=>f (n.toNat*e.size+q)) else f (n.toNat*e.size)) else .none
   | _=>.none
  | _,_,_=>.none
 | .convert a b x=>let (cA,dZ):=use (aK x);match T a,T b,dZ.l_ with
  | .int _,.int k,some (_,n)=>bO cA True (.val (.int k) (k.wrap n))
  | .slice (.int .u8),.str,_=>(dA (.slice (.int .u8)) dZ).cN λ(ys,_)=>bO cA True (.val .str (uN ys))
  | _,_,_=>.none
 | .makeFunc fn first cW=>match fn with
  | .func k=>let l:=cW.toList.map aK;if first.isEmpty then (match aR.tc k with
   | some v=>(iS (f_ (v.cs.map .bI)) (l.map λv=>(use v).2)).cN λ(y,bW)=>(jD bW).bind λwl=>.ret (some ⟨jE l,True,.val (.fn (f_ v.as) v.aW) (λx=>v.sh (ER v.as (v.cs.map .bI) x y)),wl⟩)
   | none=>match aR.wx k with
    | some v=>(iS (f_ (v.cs.map .bI)) (l.map λv=>(use v).2)).cN λ(y,bW)=>(jD bW).bind λwl=>.ret (some ⟨jE l,True,.val (.cq v.aN) (v.S y),wl⟩)
    | none=>bO (jE l) True (.iu k l.length (hb (l.map λv=>(use v).2)))) else (if cW.isEmpty then bO (jE (first.toList.map aK)) True (.rK k first.size (hb ((first.toList.map aK).map λv=>(use v).2))) else .none)
  | _=>.none
 | .makeMap ty r=>if r.isSome then .none else match T ty with
  | .map k v=>h3 o.dst λb g=>some ⟨True,True,.fb b g,[(b,⟨g,.mp k v []⟩)]⟩
  | _=>.none
 | .lookup ty m x ok=>yO T aK ty m x ok
 | .mapUpdate ty m x y=>qK T aK ty m x y
 | .insert ty m x y=>qK T aK ty m x y
 | .makeSlice ty l c=>E1 T aK o.dst ty l c
 | .makeInterface _ _=>bO True False .undef
 | .panic _=>bO True False .undef
 | .slice ty x aZ M o3=>if o3.isSome then EZ T aK ty x aZ M o3 else EY T aK ty x aZ M
 | .call c=>mF T bg aK o.dst c
 | _=>.none
end Go.Fer
namespace Go.Fer
open Go.RowKit
def dS (r:Option Nat):Fence:={ Fence.wide with round:=r }
section
variable {P:Program} {w:World}
theorem dC {t:TypeId} {d:TypeDesc} (h:P.underlying t=some d):(underlying t).run P w=.ok d w:=by simp [underlying,h]
theorem E3 {t:TypeId} {i:TypeInfo} (h:P.info? t=some i):(typeInfo t).run P w=.ok i w:=by simp [typeInfo,h]
theorem rP {t:TypeId} {i:TypeInfo} (h:P.info? t=some i):(sizeOf t).run P w=.ok i.size w:=by simp [sizeOf,E3 h]
theorem qL {t:TypeId} {i:TypeInfo} {z:Value} (h:P.info? t=some i) (bl:i.zero=some z):(zeroValue t).run P w=.ok z w:=by simp [zeroValue,E3 h,bl]
theorem b7.size {t:ad} {id:TypeId} (h:b7 P t id):(sizeOf id).run P w=.ok t.size w:=by
 obtain ⟨i,z,G,V,_⟩:=ko h.kn;rw [rP G,V]
theorem b7.st {t:ad} {id:TypeId} (h:b7 P (.st t) id):∃ eS,P.underlying id=some (.struct eS):=by
 unfold b7 at h;simp only [cC,Bool.and_eq_true] at h;grind
theorem b7.sl {e:ad} {id:TypeId} (h:b7 P (.slice e) id):∃ i,P.underlying id=some (.slice i)/\b7 P e i/\e.size≠0:=by
 unfold b7 at h;simp only [cC,Bool.and_eq_true] at h;obtain ⟨_,h⟩:=h;split at h
 ·rename_i i M;simp only [Bool.and_eq_true,bne_iff_ne,ne_eq] at h;exact ⟨i,M,h.1,h.2⟩
 grind
theorem acb:∀ (t:ad) {l:List Field} {E4 f off:Nat} {s:ad},cC P t (.inr (l,E4))=true->l8 t f=some (s,off)->
  ∃ nE,l[f]?=some nE/\nE.offset=E4+off/\b7 P s nE.type/\s.size≠0:=by
 intro t;induction t with
 | aA a b fv eJ=>
  intro l E4 f off s h aw;match l,h with
  | [],h=>simp only [cC,Bool.false_eq_true] at h
  | [x],h=>simp only [cC,Bool.false_eq_true] at h
  | [x,y],h=>
   simp only [cC,Bool.and_eq_true,beq_iff_eq,bne_iff_ne,ne_eq] at h;obtain ⟨⟨⟨⟨G,V⟩,ah⟩,_⟩,⟨⟨a7,bM⟩,dr⟩,_⟩:=h;cases f with
   | zero=>simp only [l8,Option.some.injEq,Prod.mk.injEq] at aw;obtain ⟨rfl,rfl⟩:=aw;exact ⟨x,rfl,G,V,ah⟩
   | succ f=>
    simp only [l8,Option.map_eq_some_iff,Prod.mk.injEq] at aw;obtain ⟨⟨s',hP⟩,aw,rfl,rfl⟩:=aw;have aa:∃ u,l8 b f=some u/\f=0/\u=(b,0):=by
     cases b<;>cases f<;>simp only [l8,reduceCtorEq] at aw<;>first
      | exact ⟨_,aw,rfl,by cases aw;rfl⟩
      | (simp only [cC,Bool.false_eq_true] at bM)
    obtain ⟨u,hu,rfl,rfl⟩:=aa;rw [hu] at aw;cases aw;exact ⟨y,rfl,by omega,bM,dr⟩
  | x::y::z::l,h=>
   simp only [cC,Bool.and_eq_true,beq_iff_eq,bne_iff_ne,ne_eq] at h;obtain ⟨⟨⟨⟨G,V⟩,ah⟩,_⟩,a7⟩:=h;cases f with
   | zero=>simp only [l8,Option.some.injEq,Prod.mk.injEq] at aw;obtain ⟨rfl,rfl⟩:=aw;exact ⟨x,rfl,G,V,ah⟩
   | succ f=>
    simp only [l8,Option.map_eq_some_iff,Prod.mk.injEq] at aw;grind
 | _=>intro l E4 f off s h _;simp only [cC,Bool.false_eq_true] at h
theorem b7.field {t s:ad} {id f off:Nat} (h:b7 P (.st t) id) (aw:l8 t f=some (s,off)) :
  ∃ eS nE,P.underlying id=some (.struct eS)/\eS[f]?=some nE/\nE.offset=off/\b7 P s nE.type/\s.size≠0:=by
 unfold b7 at h;simp only [cC,Bool.and_eq_true] at h;obtain ⟨_,h⟩:=h;split at h
 ·rename_i eS je;refine ⟨eS,?_⟩;have eT:∀ {nE},eS.toList[f]?=some nE->eS[f]?=some nE:=λh=>by grind
  split at h
  ·rename_i ak;rw [of_decide_eq_true h] at aw;cases f<;>cases aw
  ·rename_i x ak;simp only [Bool.and_eq_true,beq_iff_eq,bne_iff_ne,ne_eq] at h;have aa:f=0/\(s,off)=(t,0):=by
    cases t<;>cases f<;>simp only [l8,reduceCtorEq] at aw<;>first
     | exact ⟨rfl,by cases aw;rfl⟩
     | (have:=h.1.1.2;simp only [cC,Bool.false_eq_true] at this)
   obtain ⟨rfl,aa⟩:=aa;cases aa;exact ⟨x,je,eT (by grind),h.1.1.1,h.1.1.2,h.1.2⟩
  ·obtain ⟨nE,aU,aX,bP⟩:=acb t h aw;grind
 grind
def kr (w:World) (p:Addr) (cs:List Value):Prop:=(0<cs.length->p.spot=none)/\∀ j (h:j<cs.length),w.cell? ⟨p.block,p.off+j,none⟩=some cs[j]
theorem Holds.JM {F:Nat->Prop} {p:Addr} {cs:List Value} (h:Holds F w p cs):kr w p cs:=⟨λ_=>h.2.1,h.2.2⟩
theorem E5 {p:Addr} {cs:List Value} (h:kr w p cs):(loadCells p cs.length).run P w=.ok cs.toArray w:=by
 obtain ⟨aG,hc⟩:=h;refine run_loadCells_list w p cs λj v aH=>?_;obtain ⟨fM,rfl⟩:=List.getElem?_eq_some_iff.1 aH;have ar:p=⟨p.block,p.off,none⟩:=by have:=aG (by omega);cases p;simp_all
 have:=hc j fM;have yQ:p.add j=⟨p.block,p.off+j,none⟩:=by
  unfold Addr.add;grind
 grind
theorem yR {t:ad} {id:TypeId} (h:b7 P t id):(isAgg id).run P w=.ok t.isAgg w:=by
 unfold b7 at h;unfold isAgg;cases t<;>simp only [cC,Bool.and_eq_true,Bool.false_eq_true] at h<;>(obtain ⟨_,h⟩:=h;split at h)<;>
  first
   | (rename_i hu;simp [dC hu,ad.isAgg];done)
   | (cases h;done)
   | (rename_i hu;simp [dC hu,ad.isAgg])
theorem JN {F:Nat->Prop} {p:Addr} {cs:List Value} {t:ad} {id:TypeId} {x:t.ai} (h:b7 P t id) (cR:kr w p cs) (aj:bK P t F w cs x) :
  ∃ v,(loadVar id p).run P w=.ok v w/\ek P t F w v x:=by
 have hlen:=hM t aj;by_cases ba:t.isAgg=true
 ·refine ⟨.agg cs.toArray,?_,?_,by simpa [Value.cells] using aj⟩
  ·have:=E5 (P:=P) cR;rw [hlen] at this;simp [loadVar,yR h,ba,h.size,this]
  ·cases t<;>simp only [ad.isAgg,Bool.false_eq_true] at ba
   ·exact ⟨cs.toArray,rfl,by simpa [ad.size] using hlen⟩
   ·exact ⟨cs.toArray,rfl,by simpa [ad.size] using hlen⟩
 ·have ak:t.eC=true:=by
   cases t<;>simp only [ad.isAgg,not_true] at ba<;>first | rfl | (unfold b7 at h;simp only [cC,Bool.false_eq_true] at h)
  obtain ⟨u,rfl,hu⟩:=Br ak aj;refine ⟨u,?_,(dV ak).2 ⟨hu,aj⟩⟩;have hc:=cR.2 0 (by simp);have ar:p=⟨p.block,p.off+0,none⟩:=by have:=cR.1 (by simp);cases p;simp_all
  rw [<-ar] at hc;simp [loadVar,yR h,ba,hc]
end
section
variable {r:Option Nat} {P:Program} {o:Oper} {a:Act} {w w':World} {K:Act->World->Prop} {Q:Exit->Act->World->Prop}
theorem yS (ay:∀ c,o.op≠.defer c):o.semAt (dS r).round a.eval=execOp a.eval o:=Oper.semAt_eq _ _ _ ay
theorem hr {v:Value} (ay:∀ c,o.op≠.defer c) (h:(execOp a.eval o).run P w=.ok (.value v) w') (ao:K (a.put o.dst v) w'):o.wpIn (dS r) 0 P a w K Q:=by
 refine ⟨λ_ _=>trivial,?_⟩;rw [yS ay,h];exact ao
theorem E6 (ay:∀ c,o.op≠.defer c) (h:(execOp a.eval o).run P w=.ok .skip w') (ao:K (a.put o.dst Go.undef) w'):o.wpIn (dS r) 0 P a w K Q:=by
 refine ⟨λ_ _=>trivial,?_⟩;rw [yS ay,h];exact ao
end
def aB.fU (s:aB):List (Nat×bL)->aB
 | []=>s
 | p::l=>(s.cw p.1 p.2).fU l
def aB.h5 (s:aB) (d:Option Nat) (res:ey):aB:=(s.fU res.hB).set d res.e4
def cE (C:b8) (o:Oper) (s:aB) (res:ey):Prop:=
 ∀ a w κ F Q,bm C s a w κ F->res.b9->res.c->o.wpIn (dS C.r) 0 C.P a w (λa' w'=>cu C (s.h5 o.dst res) a' w') Q
theorem cE.pure {C:b8} {o:Oper} {s:aB} {b9 c:Prop} {e4:aI} (ay:∀ c,o.op≠.defer c) (bh:∀ i,o.dst=some i->i<C.nt)
  (h:∀ a w κ F,bm C s a w κ F->b9->c->∃ v,(execOp a.eval o).run C.P w=.ok (.value v) w/\bA C.P s.ab κ F w e4 v):cE C o s ⟨b9,c,e4,[]⟩:=by
 intro a w κ F Q U be hc;obtain ⟨v,G,V⟩:=h a w κ F U be hc;exact hr ay G ⟨κ,F,U.set bh V⟩
section
variable {P:Program} {H:Nat->bL} {κ:Nat->bD} {F:Nat->Prop} {w:World}
theorem o4 {av:aI} {v:Value} (h:bA P H κ F w av v) (hu:(use av).1):bA P H κ F w (use av).2 v:=by
 cases av<;>first | exact h | exact h.1 hu
theorem acd (v:Value):bA P H κ F w (wD v) v:=by
 unfold wD;split
 ·exact fa.2 rfl
 ·split
  ·rename_i h;exact gP.2 ⟨rfl,h⟩
  ·rfl
 ·split
  ·rename_i s h;refine l5.2 ⟨by simp,?_⟩;have:s.data.toList.length=s.size:=by rfl
   omega
  ·rfl
 ·rfl
 ·rfl
theorem j5 {C:b8} {s:aB} {a:Act} {w:World} {κ:Nat->bD} {F:Nat->Prop} (h:bm C s a w κ F) (x:Operand):bA C.P s.ab κ F w (a_ C.aP s.az x) (a.eval x):=by
 cases x with
 | tmp t=>exact h.bT t
 | const v=>exact acd v
 | func f=>
  show bA _ _ _ _ _ (match C.aP.tb f with | some v=>.val (.fn v.ts v.aW) v.sh | none=>.iu f 0 λ_=>.undef) (.func (.func f) #[] #[]);split
  ·rename_i v af;exact (dV rfl).2 ⟨rfl,abZ (h.jB.tb f v af) F w⟩
  ·exact ⟨[],rfl,rfl,λi M=>by omega⟩
 | global g=>trivial
theorem od {av:aI} {v:Value} {k:IntKind} {n:Int} (h:bA P H κ F w av v) (M:av.l_=some (k,n)):v=.int k n/\fL k n:=by
 unfold aI.l_ at M;split at M
 ·cases M;exact gP.1 h
 grind
theorem JO {av:aI} {v:Value} {s:List UInt8} (h:bA P H κ F w av v) (M:av.tf=some s):v=.string ⟨s.toArray⟩/\s.length<2 ^ 63:=by
 unfold aI.tf at M;split at M
 ·cases M;exact l5.1 h
 grind
end
theorem p2 (k:IntKind) (n:Int):fL k (k.wrap n):=by
 unfold fL IntKind.wrap;have G:=Int.emod_nonneg n (b:=2 ^ k.bits) (by cases k<;>decide);have V:=Int.emod_lt_of_pos n (b:=2 ^ k.bits) (by omega);cases k<;>simp only [IntKind.min,IntKind.max,IntKind.signed,IntKind.bits,Bool.true_and,Bool.false_and,Bool.false_eq_true,if_true,if_false,Nat.reduceSub,Int.reducePow] at G V ⊢<;>first
  | (constructor<;>split<;>first | (rename_i hc;have hc:=of_decide_eq_true hc;omega) | (rename_i hc;have hc:=mt decide_eq_true hc;omega))
  | omega
theorem ace {k:IntKind} {a b:Int} (ba:fL k a):fL k (a.tmod b):=by
 unfold fL at *
 have G:k.min<=0/\0<=k.max:=by cases k<;>decide
 have V:=Int.natAbs_tmod a b;have ah:=Nat.mod_le a.natAbs b.natAbs;rcases Int.le_total 0 a with h | h
 ·have:=Int.tmod_nonneg b h;omega
 ·have a7:(-a).tmod b=- (a.tmod b):=Int.neg_tmod a b;have:=Int.tmod_nonneg b (a:=-a) (by omega);omega
end Go.Fer
namespace Go.Fer
open Go.RowKit
theorem Ra {P:Program} {w:World} {t:ad} {id:TypeId} (h:b7 P t id) (ak:t.isAgg=false) {cs:Array Value} {off:Nat} {v:Value} (af:cs[off]?=some v) :
  (part id cs off).run P w=.ok v w:=by
 simp [part,yR h,ak,af]
theorem Rb {P:Program} {w:World} {t:ad} {id:TypeId} (h:b7 P t id) (ak:t.isAgg=true) {cs:Array Value} {off:Nat} :
  (part id cs off).run P w=.ok (.agg (cs.extract off (off+t.size))) w:=by
 simp [part,yR h,ak,h.size]
theorem qM {P:Program} {F:Nat->Prop} {w:World} {t:ad} {id:TypeId} (h:b7 P t id) {p c q:List Value} {cs:Array Value} {x:t.ai} (o5:cs.toList=p++(c++q)) (hc:bK P t F w c x) :
  ∃ v,(part id cs p.length).run P w=.ok v w/\ek P t F w v x:=by
 have hlen:=hM t hc;by_cases ba:t.isAgg=true
 ·refine ⟨_,Rb h ba,?_⟩;have he:(cs.extract p.length (p.length+t.size)).toList=c:=by
   simp_all
  have af:(Value.agg (cs.extract p.length (p.length+t.size))).cells.toList=c:=he;refine ⟨?_,by grind⟩;have cb:(cs.extract p.length (p.length+t.size)).size=t.size:=by grind
  cases t<;>simp only [ad.isAgg,Bool.false_eq_true] at ba
  ·exact ⟨_,rfl,by simpa [ad.size] using cb⟩
  ·exact ⟨_,rfl,by simpa [ad.size] using cb⟩
 ·have ak:t.eC=true:=by
   cases t<;>simp only [ad.isAgg,not_true] at ba<;>first | rfl | (unfold b7 at h;simp only [cC,Bool.false_eq_true] at h)
  obtain ⟨u,rfl,hu⟩:=Br ak hc;refine ⟨u,Ra h (by grind) ?_,(dV ak).2 ⟨hu,hc⟩⟩;rw [<-Array.getElem?_toList,o5];simp
theorem b7.BI {P:Program} {t:ad} {id:TypeId} (h:b7 P (.st t) id):P.stoodInHeld id=false/\P.eqGuardType P.depth id=false/\
  (cC P t (.inr ((P.fieldsOf id).toList, 0)) = true \/ (∃ f, (P.fieldsOf id).toList = [f] /\ f.offset = 0 /\ b7 P t f.type /\ f.name ≠ "_") \/ (t = .cQ /\ (P.fieldsOf id).toList = [])) /\ P.underlying id = some (.struct (P.fieldsOf id)) := by
 unfold b7 at h;simp only [cC,Bool.and_eq_true,Bool.not_eq_true'] at h;obtain ⟨⟨⟨_,G⟩,V⟩,h⟩:=h;split at h
 ·rename_i eS je;have aw:P.fieldsOf id=eS:=by simp [Program.fieldsOf,je]
  rw [aw];refine ⟨G,V,?_,je⟩;split at h
  ·grind
  ·rename_i x ak;simp only [Bool.and_eq_true,beq_iff_eq,bne_iff_ne,ne_eq] at h;exact .inr (.inl ⟨x,ak,h.1.1.1,h.1.1.2,h.2⟩)
  grind
 grind
theorem JP {P:Program} {F:Nat->Prop} {w:World}:∀ (t:ad) (d:Nat),t.kJ=true->t.j4<=d->
  (∀ {id:TypeId} {v u:Value} {x y:t.ai},b7 P t id->ek P t F w v x->ek P t F w u y->(Op.equalIn d id v u).run P w=.ok (gE t x y) w)/\
  (∀ {l:List Field} {off:Nat} {xs ys:Array Value} {p c q p' c' q':List Value} {x y:t.ai},cC P t (.inr (l,off))=true->xs.toList=p++(c++q)->p.length=off->bK P t F w c x->
   ys.toList=p'++(c'++q')->p'.length=off->bK P t F w c' y->(Op.eqFields d xs ys l).run P w=.ok (gE t x y) w):=by
 intro t;induction t with
 | bool=>
  intro d _ ay;refine ⟨λ{id v u x y} h G V=>?_,λh=>by simp [cC] at h⟩;rw [fa.1 G,fa.1 V];obtain ⟨d,rfl⟩:∃ e,d=e+1:=⟨d - 1,by simp only [ad.j4] at ay;omega⟩
  unfold b7 at h;simp only [cC,Bool.and_eq_true] at h;obtain ⟨_,h⟩:=h;split at h
  ·rename_i hu;rw [run_equalIn_bool' w d id x y hu];rfl
  grind
 | int k=>
  intro d _ ay;refine ⟨λ{id v u x y} h G V=>?_,λh=>by simp [cC] at h⟩;rw [(gP.1 G).1,(gP.1 V).1];obtain ⟨d,rfl⟩:∃ e,d=e+1:=⟨d - 1,by simp only [ad.j4] at ay;omega⟩
  unfold b7 at h;simp only [cC,Bool.and_eq_true] at h;obtain ⟨_,h⟩:=h;split at h
  ·rename_i hu;rw [run_equalIn_int w d id k _ x y hu];rfl
  grind
 | str=>
  intro d _ ay;refine ⟨λ{id v u x y} h G V=>?_,λh=>by simp [cC] at h⟩;rw [(l5.1 G).1,(l5.1 V).1];obtain ⟨d,rfl⟩:∃ e,d=e+1:=⟨d - 1,by simp only [ad.j4] at ay;omega⟩
  unfold b7 at h;simp only [cC,Bool.and_eq_true] at h;obtain ⟨_,h⟩:=h;split at h
  ·rename_i hu;rw [run_equalIn_string w d id _ _ hu,ByteArray.toList_eq,ByteArray.toList_eq];simp only [gE];grind
  grind
 | cQ=>intro d h;cases h
 | slice e _=>intro d h;cases h
 | array n e _=>intro d h;cases h
 | bI e _=>intro d h;cases h
 | map k v _ _=>intro d h;cases h
 | fn a b _ _=>intro d h;cases h
 | cq a _=>intro d h;cases h
 | ej=>intro d h;cases h
 | aA a b fv eJ=>
  intro d hc ay;simp only [ad.kJ,Bool.and_eq_true] at hc;simp only [ad.j4] at ay;have JQ:=fv d hc.1 (by omega);have oZ:=eJ d hc.2 (by omega);refine ⟨λh=>by unfold b7 at h;simp [cC] at h,?_⟩;intro l off xs ys p c q p' c' q' x y h aj ar o6 aS BJ yT;simp only [bK] at o6 yT;obtain ⟨bF,c2,rfl,aU,aX⟩:=o6;obtain ⟨d1,d2,rfl,m1,m2⟩:=yT;have e_:=hM a aU;have pU:=hM a m1;have step : ∀ (f : Field) (cm : List Field), f.offset = off -> b7 P a f.type -> f.name ≠ "_" ->
    (Op.eqFields d xs ys (f::cm)).run P w=if gE a x.1 y.1=true then (Op.eqFields d xs ys cm).run P w else .ok false w:=by
   intro f cm ag aw aD;obtain ⟨v,cf,cF⟩:=qM (cs:=xs) (p:=p) (c:=bF) (q:=c2++q) aw (by grind) aU;obtain ⟨u,eE,dO⟩:=qM (cs:=ys) (p:=p') (c:=d1) (q:=d2++q') aw (by grind) m1;simp only [Op.eqFields,aD,ne_eq,not_false_eq_true,if_true,Sem.run_bind];rw [ag,<-ar,cf,Result.andThen_ok,ar,<-BJ,eE,Result.andThen_ok,JQ.1 aw cF dO];cases gE a x.1 y.1<;>simp
  match l,h with
  | [],h=>simp only [cC,Bool.false_eq_true] at h
  | [f],h=>simp only [cC,Bool.false_eq_true] at h
  | [f,g],h=>
   simp only [cC,Bool.and_eq_true,beq_iff_eq,bne_iff_ne,ne_eq] at h;obtain ⟨⟨⟨⟨G,V⟩,ah⟩,a7⟩,⟨⟨⟨bM,dr⟩,fY⟩,jb⟩⟩:=h;rw [step f [g] G V a7];obtain ⟨v,cf,cF⟩:=qM (cs:=xs) (p:=p++bF) (c:=c2) (q:=q) dr (by grind) aX;obtain ⟨u,eE,dO⟩:=qM (cs:=ys) (p:=p'++d1) (c:=d2) (q:=q') dr (by grind) m2;have aF:(p++bF).length=g.offset:=by grind
   have bB:(p'++d1).length=g.offset:=by grind
   rw [aF] at cf;rw [bB] at eE;simp only [Op.eqFields,jb,ne_eq,not_false_eq_true,if_true,Sem.run_bind,cf,eE,Result.andThen_ok,oZ.1 dr cF dO,gE];cases gE a x.1 y.1<;>cases gE b x.2 y.2<;>simp
  | f::g::i::l,h=>
   simp only [cC,Bool.and_eq_true,beq_iff_eq,bne_iff_ne,ne_eq] at h;obtain ⟨⟨⟨⟨G,V⟩,ah⟩,a7⟩,bM⟩:=h;rw [step f _ G V a7,oZ.2 bM (p:=p++bF) (c:=c2) (q:=q) (p':=p'++d1) (c':=d2) (q':=q') (by grind) (by grind) aX (by grind) (by grind) m2];simp only [gE];cases gE a x.1 y.1<;>simp
 | st t aM=>
  intro d hc ay;simp only [ad.j4] at ay;obtain ⟨d,rfl⟩:∃ e,d=e+1:=⟨d - 1,by omega⟩
  refine ⟨λ{id v u x y} h G V=>?_,λh=>by simp [cC] at h⟩;have i:=aM d hc (by omega);obtain ⟨aF,bB,di,gv⟩:=h.BI;obtain ⟨⟨xs,rfl,hQ⟩,o6⟩:=G;obtain ⟨⟨ys,rfl,j6⟩,yT⟩:=V;simp only [Value.cells,bK] at o6 yT;rw [run_equalIn_struct w d id xs ys gv aF];rcases di with di | ⟨f,di,h1,mC,BK⟩ | ⟨rfl,di⟩
  ·exact i.2 di (p:=[]) (c:=xs.toList) (q:=[]) (p':=[]) (c':=ys.toList) (q':=[]) (by simp) rfl o6 (by simp) rfl yT
  ·rw [di];obtain ⟨v,cf,cF⟩:=qM (cs:=xs) (p:=[]) (c:=xs.toList) (q:=[]) mC (by simp) o6;obtain ⟨u,eE,dO⟩:=qM (cs:=ys) (p:=[]) (c:=ys.toList) (q:=[]) mC (by simp) yT;simp only [List.length_nil] at cf eE;simp only [Op.eqFields,BK,ne_eq,not_false_eq_true,if_true,Sem.run_bind,h1,cf,eE,Result.andThen_ok,i.1 mC cF dO,gE];cases gE t x y<;>simp
  ·cases hc
theorem acf {k:IntKind} {a b:Int} (ba:fL k a):fL k (jd k a b):=by
 unfold fL at *
 unfold jd;have G:k.min<=0/\0<=k.max:=by cases k<;>decide
 generalize min b.toNat k.bits=n;have ar:(0:Int)<2 ^ n:=Int.pow_pos (by decide);rw [Int.fdiv_eq_ediv_of_nonneg _ (Int.le_of_lt ar)];rcases Int.le_total 0 a with h | h
 ·have V:=Int.ediv_nonneg h (Int.le_of_lt ar);have ah:=Int.ediv_le_self (2 ^ n) h;omega
 ·have V:a / 2 ^ n<=0:=by
   have:=Int.ediv_le_ediv ar h;simp_all
  have ah:a<=a / 2 ^ n:=by
   rw [Int.le_ediv_iff_mul_le ar];have a7:(1:Int)<=2 ^ n:=by omega
   have:=Int.mul_le_mul_of_nonpos_left (a:=a) h a7;omega
  omega
theorem Rc {P:Program} {w:World} (op:BinOp) (t:TypeId) (x y:Operand) (k k':IntKind) (a b:Int):(eqGuard op t x y (.int k a) (.int k' b)).run P w=.ok () w:=by
 cases op<;>simp [eqGuard]
theorem acg {P:Program} {w:World} (op:BinOp) (t:TypeId) (x y:Operand) (a b:ByteArray):(eqGuard op t x y (.string a) (.string b)).run P w=.ok () w:=by
 cases op<;>simp [eqGuard]
theorem ach {P:Program} {w:World} (op:BinOp) (t:TypeId) (x y:Operand) (a b:Bool):(eqGuard op t x y (.bool a) (.bool b)).run P w=.ok () w:=by
 cases op<;>simp [eqGuard]
theorem aci {P:Program} {w:World} (op:BinOp) (t:TypeId) (x y:Operand) (a b:Option Addr):(eqGuard op t x y (.pointer a) (.pointer b)).run P w=.ok () w:=by
 cases op<;>simp [eqGuard]
section
variable {P:Program} {H:Nat->bL} {κ:Nat->bD} {F:Nat->Prop} {w:World}
theorem acj {op:BinOp} {k:IntKind} {a b:Int} {t:TypeId} {c:Prop} {v:aI} (h:yK op k a b=some (c,v)) (hc:c) (ba:fL k a) :
  ∃ u,(binOp op t (.int k a) (.int k b)).run P w=.ok u w/\bA P H κ F w v u:=by
 cases op<;>simp only [yK,Option.some.injEq,Prod.mk.injEq,reduceCtorEq] at h<;>obtain ⟨rfl,rfl⟩:=h<;>simp only [bA];case add=>exact ⟨_,by simp [binOp,Op.intArith],gP.2 ⟨rfl,p2 _ _⟩⟩
 case sub=>exact ⟨_,by simp [binOp,Op.intArith],gP.2 ⟨rfl,p2 _ _⟩⟩
 case mul=>exact ⟨_,by simp [binOp,Op.intArith],gP.2 ⟨rfl,p2 _ _⟩⟩
 case quo=>exact ⟨_,by simp [binOp,Op.intDiv,hc],gP.2 ⟨rfl,p2 _ _⟩⟩
 case rem=>exact ⟨_,by simp [binOp,Op.intDiv,hc],gP.2 ⟨rfl,ace ba⟩⟩
 case and=>exact ⟨.int k (lC k a b),by simp only [binOp,ne_eq,not_true_eq_false,if_false,Op.intBits];rfl,gP.2 ⟨rfl,p2 _ _⟩⟩
 case or=>exact ⟨.int k (QW k a b),by simp only [binOp,ne_eq,not_true_eq_false,if_false,Op.intBits];rfl,gP.2 ⟨rfl,p2 _ _⟩⟩
 case xor=>exact ⟨.int k (QX k a b),by simp only [binOp,ne_eq,not_true_eq_false,if_false,Op.intBits];rfl,gP.2 ⟨rfl,p2 _ _⟩⟩
 case andNot=>exact ⟨.int k (QY k a b),by simp only [binOp,ne_eq,not_true_eq_false,if_false,Op.intBits];rfl,gP.2 ⟨rfl,p2 _ _⟩⟩
 case eql=>exact ⟨.bool (a == b),by simp [binOp,Op.intCmp],fa.2 (congrArg Value.bool (by rfl))⟩
 case neq=>exact ⟨.bool (a != b),by simp [binOp,Op.intCmp],fa.2 (congrArg Value.bool (by grind))⟩
 case lss=>exact ⟨_,by simp [binOp,Op.intCmp],fa.2 rfl⟩
 case leq=>exact ⟨_,by simp [binOp,Op.intCmp],fa.2 rfl⟩
 case gtr=>exact ⟨_,by simp [binOp,Op.intCmp],fa.2 rfl⟩
 case geq=>exact ⟨_,by simp [binOp,Op.intCmp],fa.2 rfl⟩
theorem Re {op:BinOp} {k k':IntKind} {a b:Int} {t:TypeId} {c:Prop} {v:aI} (h:JH op k a b=some (c,v)) (hc:c) (ba:fL k a) :
  ∃ u,(binOp op t (.int k a) (.int k' b)).run P w=.ok u w/\bA P H κ F w v u:=by
 cases op<;>simp only [JH,Option.some.injEq,Prod.mk.injEq,reduceCtorEq] at h<;>obtain ⟨rfl,rfl⟩:=h<;>simp only [bA];case shl=>exact ⟨_,by simp [binOp,Op.shift,show ¬b<0 by omega];rfl,gP.2 ⟨rfl,p2 _ _⟩⟩
 case shr=>exact ⟨_,by simp [binOp,Op.shift,show ¬b<0 by omega];rfl,gP.2 ⟨rfl,acf ba⟩⟩
theorem ack {op:BinOp} {a b:List UInt8} {t:TypeId} {c:Prop} {v:aI} (h:Bz op a b=some (c,v)) (hc:c) :
  ∃ u,(binOp op t (.string ⟨a.toArray⟩) (.string ⟨b.toArray⟩)).run P w=.ok u w/\bA P H κ F w v u:=by
 have e:∀ l:List UInt8,(⟨l.toArray⟩:ByteArray).toList=l:=λl=>by simp
 cases op<;>simp only [Bz,Option.some.injEq,Prod.mk.injEq,reduceCtorEq] at h<;>obtain ⟨rfl,rfl⟩:=h<;>simp only [bA];case add=>
  unfold cn at hc;have aG:((ByteArray.size ⟨a.toArray⟩+ByteArray.size ⟨b.toArray⟩:Nat):Int)=(a.length+b.length:Nat):=by rfl
  refine ⟨.string ⟨(a++b).toArray⟩,?_,l5.2 ⟨rfl,by grind⟩⟩;simp only [binOp,Op.stringOp];rw [if_neg]
  ·rfl
  ·rw [aG];have:IntKind.i64.max=9223372036854775807:=by decide
   omega
 case eql=>exact ⟨_,by rfl,fa.2 (by grind)⟩
 case neq=>exact ⟨_,by rfl,fa.2 (by grind)⟩
 case lss=>exact ⟨_,by simp only [binOp,Op.stringOp,e];rfl,fa.2 rfl⟩
 case geq=>exact ⟨_,by simp only [binOp,Op.stringOp,e];rfl,fa.2 rfl⟩
end
end Go.Fer
namespace Go.Fer
open Go.RowKit
def dT (P:Program) (T:Nat->ad):Prop:=∀ id,T id=.cQ\/b7 P (T id) id
theorem dT.b_ {P:Program} {T:Nat->ad} (h:dT P T) {id:Nat} {t:ad} (e:T id=t) (aL:t≠.cQ):b7 P t id:=by
 rcases h id with h | h
 ·exact absurd (e ▸ h) aL
 ·exact e ▸ h
theorem qN {d:Option Nat} {k:Nat->Nat->Option ey} {H:Nat->bL} {res:ey} (h:(h3 d k).run H=some res) :
  ∃ b,d=some b/\k b ((H b).gen+1)=some res:=by
 unfold h3 at h;cases d with
 | none=>cases h
 | some b=>
  simp_all
theorem bm.acm {C:b8} {s:aB} {a:Act} {w:World} {κ:Nat->bD} {F:Nat->Prop} (h:bm C s a w κ F) {b g:Nat} {e:ad} (aC:(s.ab b).gen<g) :
  bm C (s.cw b ⟨g,.bj e []⟩) a w (λi=>if i=b then ⟨0,0,0,true⟩ else κ i) F:=by
 have ak:fm s.ab κ (λi=>if i=b then ⟨g,.bj e []⟩ else s.ab i) (λi=>if i=b then ⟨0,0,0,true⟩ else κ i):=yF aC λbf dh=>by grind
 refine h.move (H':=λi=>if i=b then ⟨g,.bj e []⟩ else s.ab i) ak (λ_ U=>U) (λ_ U=>.inl U) (Nat.le_refl _) (λ_ _ _=>rfl) (da.refl _) (λ_=>?_) ?_ ?_ h.c_ (yG (.inr ⟨rfl,rfl⟩) λbf dh=>by grind)
 ·intro i;by_cases M:i=b
  ·subst M;simp only [cB,if_true];exact ⟨λ_=>rfl,λaD=>by cases aD⟩
  ·exact cB.k3 (h.bE i) ak (λ_ U=>U) (cZ.refl _ _) (by grind) (by grind) λ_=>rfl
 ·intro i M;by_cases eL:i=b
  ·subst eL;simp [bQ.b1] at M
  ·simp only [if_neg eL] at M ⊢;exact ⟨(h.an i M).1,(h.an i M).2.1,.inl ⟨i,M,rfl⟩⟩
 ·intro i j M aH a8;by_cases eL:i=b
  ·subst eL;simp [bQ.b1] at M
  ·by_cases l7:j=b
   ·subst l7;simp [bQ.b1] at aH
   ·simp only [if_neg eL,if_neg l7] at M aH a8;exact h.inj i j M aH a8
section
variable {C:b8} {T:Nat->ad} {bg:Nat->Option aO} {o:Oper} {s:aB} {res:ey}
theorem acn {x:Operand} (bh:∀ i,o.dst=some i->i<C.nt) (ag:o.op=.move x) (h:(bt C.aP T bg (a_ C.aP s.az) o).run s.ab=some res):cE C o s res:=by
 simp only [bt,ag,bO,aq.bN,Option.some.injEq] at h;subst h;exact cE.pure (by grind) bh λa w κ F U _ _=>⟨_,by simp [execOp,ag],j5 U x⟩
theorem aco {x:Operand} (bh:∀ i,o.dst=some i->i<C.nt) (ag:o.op=.assign x) (h:(bt C.aP T bg (a_ C.aP s.az) o).run s.ab=some res):cE C o s res:=by
 simp only [bt,ag] at h;split at h
 ·rename_i e aj aL;obtain ⟨b,ay,ao⟩:=qN h;simp only [Option.some.injEq] at ao;subst ao;intro a w κ F Q U _ _;refine hr (w':=w) (v:=a.eval x) (by grind) (by simp [execOp,ag]) ?_;have V:=U.acm (b:=b) (e:=e) (Nat.lt_succ_self _);have af:=j5 U x;rw [aj] at af;simp only [bA] at af;refine ⟨_,_,bm.set V bh ⟨⟨?_,by rw [af];rfl⟩,λ_ _=>?_⟩⟩
  ·simp [aB.cw]
  ·simp [af,bD.slice]
 ·simp only [bO,aq.bN,Option.some.injEq] at h;subst h;exact cE.pure (by grind) bh λa w κ F U _ _=>⟨_,by simp [execOp,ag],j5 U x⟩
theorem cK {a:Act} {w:World} {κ:Nat->bD} {F:Nat->Prop} (U:bm C s a w κ F) (x:Operand) {p:Prop} {av:aI} (hu:use (a_ C.aP s.az x)=(p,av)) (ar:p):bA C.P s.ab κ F w av (a.eval x):=by
 have:=o4 (j5 U x) (by grind);grind
theorem acp {c x y:Operand} (bh:∀ i,o.dst=some i->i<C.nt) (ag:o.op=.pick c x y) (h:(bt C.aP T bg (a_ C.aP s.az) o).run s.ab=some res):cE C o s res:=by
 simp only [bt,ag] at h;split at h
 ·rename_i p1 iU hc;split at h
  ·split at h
   ·rename_i yP av ba;simp only [bO,aq.bN,Option.some.injEq] at h;subst h;refine cE.pure (by grind) bh λa w κ F U be _=>?_;have G:=fa.1 (cK U c hc be.1);cases iU with
    | false=>
     have cX:a.eval (.const (.bool false))=.bool false:=rfl;exact ⟨.bool false,by simp [execOp,ag,G,asBool,cX],fa.2 rfl⟩
    | true=>
     have V:=fa.1 (cK U x ba (be.2 rfl));exact ⟨.bool av,by simp [execOp,ag,G,asBool,V],fa.2 rfl⟩
   ·cases h
  ·split at h
   ·rename_i b9 bv aa;simp only [bO,aq.bN,Option.some.injEq] at h;subst h;refine cE.pure (by grind) bh λa w κ F U be _=>?_;have G:=fa.1 (cK U c hc be.1);cases iU with
    | true=>
     have cX:a.eval (.const (.bool true))=.bool true:=rfl;exact ⟨.bool true,by simp [execOp,ag,G,asBool,cX],fa.2 rfl⟩
    | false=>
     have V:=fa.1 (cK U y aa (be.2 rfl));exact ⟨.bool bv,by simp [execOp,ag,G,asBool,V],fa.2 rfl⟩
   ·cases h
  ·cases h
 ·cases h
theorem acq {op:UnOp} {ty:TypeId} {x:Operand} (bh:∀ i,o.dst=some i->i<C.nt) (ag:o.op=.unOp op ty x) (h:(bt C.aP T bg (a_ C.aP s.az) o).run s.ab=some res):cE C o s res:=by
 simp only [bt,ag] at h;split at h
 ·rename_i cA b aj;simp only [bO,aq.bN,Option.some.injEq] at h;subst h;refine cE.pure (by grind) bh λa w κ F U be _=>?_;have G:=fa.1 (cK U x aj be);exact ⟨.bool (!b),by simp [execOp,ag,G,Op.unary],fa.2 rfl⟩
 ·rename_i cA k n aj;simp only [bO,aq.bN,Option.some.injEq] at h;subst h;refine cE.pure (by grind) bh λa w κ F U be _=>?_;have G:=gP.1 (cK U x aj be);exact ⟨.int k (k.wrap (0 - n)),by simp [execOp,ag,G.1,Op.unary,Op.intArith],gP.2 ⟨rfl,p2 _ _⟩⟩
 ·cases h
theorem acr {i:Nat} {x:Operand} (bh:∀ i,o.dst=some i->i<C.nt) (ag:o.op=.extract x i) (h:(bt C.aP T bg (a_ C.aP s.az) o).run s.ab=some res):cE C o s res:=by
 simp only [bt,ag] at h;split at h
 ·rename_i cA n f aj;split at h
  ·rename_i M;simp only [bO,aq.bN,Option.some.injEq] at h;subst h;refine cE.pure (by grind) bh λa w κ F U be _=>?_;obtain ⟨aE,G,V,ah⟩:=cK U x aj be;have dM:i<aE.length:=by omega
   refine ⟨aE[i],by simp [execOp,ag,G,Instr.extract,dM],?_⟩;grind
  ·cases h
 ·cases h
theorem acs {x:Operand} (bh:∀ i,o.dst=some i->i<C.nt) (ag:o.op=.nilCheck x) (h:(bt C.aP T bg (a_ C.aP s.az) o).run s.ab=some res):cE C o s res:=by
 simp only [bt,ag] at h;split at h
 ·rename_i cA b g i aj;simp only [aq.eZ,aq.bN] at h;split at h
  ·rename_i bl;simp only [Bool.and_eq_true,decide_eq_true_eq] at bl;simp only [Option.some.injEq] at h;subst h;refine cE.pure (by grind) bh λa w κ F U be _=>?_;have G:=cK U x aj be;have V:=G.2 bl.1.symm bl.2;exact ⟨_,by simp [execOp,ag,V.2.2],⟨G.1.1,rfl⟩,λ_ _=>⟨V.1,V.2.1,rfl⟩⟩
  grind
 ·rename_i cA t d aj;simp only [bO,aq.bN,Option.some.injEq] at h;subst h;refine cE.pure (by grind) bh λa w κ F U be _=>?_;obtain ⟨p,bk,G,V⟩:=cK U x aj be;exact ⟨_,by simp [execOp,ag,G],p,bk,rfl,V⟩
 ·rename_i cA e p aj;simp only [bO,aq.bN,Option.some.injEq] at h;subst h;refine cE.pure (by grind) bh λa w κ F U be hc=>?_;have G:=(dV rfl).1 (cK U x aj be);obtain ⟨_,G⟩:=G;simp only [bK] at G;rcases G with ⟨_,rfl⟩ | ⟨q,y,bk,br,rfl,aU,aX⟩
  ·cases hc
  ·simp only [List.cons.injEq,and_true] at br;exact ⟨_,by simp [execOp,ag,br],q,bk,rfl,aU,aX⟩
 ·rename_i cA b g off aj;simp only [aq.eZ,aq.bN] at h;split at h
  ·rename_i bl;simp only [Bool.and_eq_true,decide_eq_true_eq] at bl;simp only [Option.some.injEq] at h;subst h;refine cE.pure (by grind) bh λa w κ F U be _=>?_;have G:=cK U x aj be;have V:=G.2 bl.1.symm bl.2;exact ⟨_,by simp [execOp,ag,V],⟨G.1.1,rfl⟩,λ_ _=>rfl⟩
  grind
 ·cases h
theorem uO (b off n:Nat):(⟨b,off,none⟩:Addr).add n=⟨b,off+n,none⟩:=by
 unfold Addr.add;simp
theorem E7 {P:Program} {w:World} {t s:ad} {id f wG b off:Nat} (h:b7 P (.st t) id) (aw:l8 t f=some (s,wG)) :
  (Instr.fieldAt id (.pointer (some ⟨b,off,none⟩)) f).run P w=.ok (.pointer (some ⟨b,off+wG,none⟩)) w:=by
 obtain ⟨eS,nE,G,V,ah,a7,bM⟩:=h.field aw;simp only [Instr.fieldAt,Sem.run_bind,dC G,Result.andThen_ok,V,Instr.sureAddr,Sem.run_pure,fieldPlace,a7.size,bM,if_false,ah,uO]
theorem acu (aV:dT C.P T) {ty f:Nat} {x:Operand} (bh:∀ i,o.dst=some i->i<C.nt) (ag:o.op=.fieldAddr ty x f) (h:(bt C.aP T bg (a_ C.aP s.az) o).run s.ab=some res):cE C o s res:=by
 simp only [bt,ag] at h;split at h
 ·rename_i t aL;have dk:=aV.b_ aL (by simp);split at h
  ·rename_i s' wG aw;split at h
   ·rename_i cA b g off aj;simp only [aq.eZ,aq.bN] at h;split at h
    ·rename_i bl;simp only [Bool.and_eq_true,decide_eq_true_eq] at bl;simp only [Option.some.injEq] at h;subst h;refine cE.pure (by grind) bh λa w κ F U be _=>?_;have G:=cK U x aj be;have V:=G.2 bl.1.symm bl.2;exact ⟨_,by simp [execOp,ag,V,E7 dk aw],⟨G.1.1,rfl⟩,λ_ _=>rfl⟩
    grind
   ·rename_i cA b g i off aj;simp only [aq.eZ,aq.bN] at h;split at h
    ·rename_i bl;simp only [Bool.and_eq_true,decide_eq_true_eq] at bl;simp only [Option.some.injEq] at h;subst h;refine cE.pure (by grind) bh λa w κ F U be _=>?_;have G:=cK U x aj be;obtain ⟨V,ah,a7⟩:=G.2 bl.1.symm bl.2;exact ⟨_,by simp [execOp,ag,a7,E7 dk aw];rfl,⟨G.1.1,rfl⟩,λ_ _=>⟨V,ah,by grind⟩⟩
    grind
   ·rename_i cA b g i aj;simp only [aq.eZ,aq.bN] at h;split at h
    ·rename_i bl;simp only [Bool.and_eq_true,decide_eq_true_eq,beq_iff_eq] at bl;simp only [Option.some.injEq] at h;subst h;refine cE.pure (by grind) bh λa w κ F U be _=>?_;have G:=cK U x aj be;obtain ⟨V,ah,a7⟩:=G.2 bl.1.1.symm bl.1.2;exact ⟨_,by simp [execOp,ag,a7,E7 dk aw];rfl,⟨G.1.1,rfl⟩,λ_ _=>⟨V,ah,by grind⟩⟩
    grind
   ·rename_i cA cU d aj;split at h
    ·rename_i yU;subst yU;split at h
     ·rename_i dO y aS;simp only [bO,aq.bN,Option.some.injEq] at h;subst h;refine cE.pure (by grind) bh λa w κ F U be _=>?_;obtain ⟨p,bk,G,V,ah⟩:=cK U x aj be;simp only [bK] at ah;obtain ⟨bF,c2,c3,rfl,aU,aX⟩:=Q2 cU ah aS;rw [aw] at aX;cases aX;have ar:p=⟨p.block,p.off,none⟩:=by have:=V.2.1;cases p;simp_all
      rw [ar] at G;refine ⟨_,by simp [execOp,ag,G,E7 dk aw],⟨p.block,p.off+bF.length,none⟩,c2,rfl,⟨V.1,rfl,λj aH=>?_⟩,aU⟩;have:=V.2.2 (bF.length+j) (by grind);grind
     ·cases h
    ·cases h
   ·cases h
  ·cases h
 ·cases h
theorem acv (aV:dT C.P T) {ty f:Nat} {x:Operand} (bh:∀ i,o.dst=some i->i<C.nt) (ag:o.op=.field ty x f) (h:(bt C.aP T bg (a_ C.aP s.az) o).run s.ab=some res):cE C o s res:=by
 simp only [bt,ag] at h;split at h
 ·rename_i t aL;have dk:=aV.b_ aL (by simp);split at h
  ·rename_i cA cU d aj;split at h
   ·rename_i yU;subst yU;split at h
    ·rename_i dO y aS;simp only [bO,aq.bN,Option.some.injEq] at h;subst h;refine cE.pure (by grind) bh λa w κ F U be _=>?_;obtain ⟨⟨cs,G,V⟩,ah⟩:=cK U x aj be;rw [G] at ah;simp only [bK,Value.cells] at ah;obtain ⟨bF,c2,c3,e,aU,aX⟩:=Q2 cU ah aS;obtain ⟨eS,nE,f1,f2,f3,f4,f5⟩:=dk.field aX;obtain ⟨v,cf,cF⟩:=qM (w:=w) f4 e aU;refine ⟨v,?_,cF⟩;simp [execOp,ag,G,Instr.field,dC f1,f2,asAgg,f3,cf]
    ·cases h
   ·cases h
  ·cases h
 ·cases h
end
end Go.Fer
namespace Go.Fer
open Go.RowKit
theorem b7.bI {P:Program} {e:ad} {id:TypeId} (h:b7 P (.bI e) id):∃ i,P.underlying id=some (.pointer i)/\b7 P e i/\e.size≠0:=by
 unfold b7 at h;simp only [cC,Bool.and_eq_true] at h;obtain ⟨_,h⟩:=h;split at h
 ·rename_i i M;simp only [Bool.and_eq_true,bne_iff_ne,ne_eq] at h;exact ⟨i,M,h.1,h.2⟩
 grind
theorem Rf {k:IntKind} {av:aI} {H:Nat->bL} {x:Int} {l:List Nat} (h:(dA (.int k) av).run H=some (x,l)):av.l_.isSome=true:=by
 cases av with
 | val cU y=>
  simp only [dA,aq.bN,Option.map_eq_some_iff,Prod.mk.injEq] at h;obtain ⟨z,bl,_⟩:=h;obtain ⟨rfl,_⟩:=kH bl;rfl
 | jy v=>simp [dA,km,ad.eC,dX,Bw] at h
 | _=>simp [dA,km,ad.eC,dX,aq.none] at h
theorem Rg {av:aI} {H:Nat->bL} {x:List UInt8} {l:List Nat} (h:(dA .str av).run H=some (x,l)):av.tf.isSome=true:=by
 cases av with
 | val cU y=>
  simp only [dA,aq.bN,Option.map_eq_some_iff,Prod.mk.injEq] at h;obtain ⟨z,bl,_⟩:=h;obtain ⟨rfl,_⟩:=kH bl;rfl
 | jy v=>simp [dA,km,ad.eC,dX,Bw] at h
 | _=>simp [dA,km,ad.eC,dX,aq.none] at h
theorem E8 {P:Program} {w:World} {ty i:TypeId} (M:P.underlying ty=some (.pointer i)) (a:Option Addr) (d:Nat):(Op.equalIn (d+1) ty (.pointer a) (.pointer none)).run P w=.ok a.isNone w:=by
 cases a<;>simp [Op.equalIn,dC M]
inductive BL:Value->Value->Prop where
 | bool (a b:Bool):BL (.bool a) (.bool b)
 | agg (a b:Array Value):BL (.agg a) (.agg b)
 | bI (a b:Option Addr):BL (.pointer a) (.pointer b)
theorem acw {P:Program} {w:World} {ty:TypeId} {x y:Operand} {u mB:Value} {e:Bool} (ar:BL u mB) (h:(Op.equalIn 10000 ty u mB).run P w=.ok e w)
  (aC:∀ a b,u=.agg a->mB=.agg b->P.eqGuardType P.depth ty=false) :
  (do eqGuard .eql ty x y u mB;binOp .eql ty u mB:Sem Value).run P w=.ok (.bool e) w/\(do eqGuard .neq ty x y u mB;binOp .neq ty u mB:Sem Value).run P w=.ok (.bool (!e)) w:=by
 cases ar with
 | bool a b=>constructor<;>simp [ach,binOp,Op.equal,Op.maxDepth,h]
 | agg a b=>constructor<;>simp [run_eqGuard_agg _ _ _ _ _ _ _ (aC a b rfl rfl),binOp,Op.equal,Op.maxDepth,h]
 | bI a b=>constructor<;>simp [aci,binOp,Op.equal,Op.maxDepth,h]
section
variable {C:b8} {T:Nat->ad} {bg:Nat->Option aO} {o:Oper} {s:aB} {res:ey}
theorem BM {a:Act} {w:World} {κ:Nat->bD} {F:Nat->Prop} (U:bm C s a w κ F) {t:ad} {av:aI} {v:Value} {x:t.ai} {l:List Nat} (h:(dA t av).run s.ab=some (x,l)) (af:bA C.P s.ab κ F w av v) :
  ek C.P t (λ_=>True) w v x:=l9 U.bE (λ_ _=>trivial) h (λ_ _ _=>trivial) af
theorem acx {op:BinOp} {ty:TypeId} {dZ kq:aI} {x y:Operand} {c:Prop} {v:aI} {a:Act} {w:World} {κ:Nat->bD} {F:Nat->Prop} (aV:dT C.P T) (U:bm C s a w κ F)
  (h:(yL op (T ty) dZ kq).run s.ab=some (c,v)) {u mB:Value} (aj:bA C.P s.ab κ F w dZ u) (aS:bA C.P s.ab κ F w kq mB) (Rh:¬(dZ.l_.isSome=true/\kq.l_.isSome=true)) (Ri:¬(dZ.tf.isSome=true/\kq.tf.isSome=true)) :
  ∃ r,(do eqGuard op ty x y u mB;binOp op ty u mB:Sem Value).run C.P w=.ok r w/\bA C.P s.ab κ F w v r:=by
 unfold yL at h;rw [aq.e0] at h;simp only [Option.bind_eq_some_iff] at h;obtain ⟨e,he,af⟩:=h;simp only [aq.bN] at af;have key:BL u mB/\(Op.equalIn 10000 ty u mB).run C.P w=.ok e w/\(∀ a b,u=.agg a->mB=.agg b->C.P.eqGuardType C.P.depth ty=false):=by
  split at he
  ·rename_i a8 p bB aL;obtain ⟨i,M,_⟩:=(aV.b_ aL (by simp)).bI;simp only [bA] at aS;subst aS;simp only [aq.bN,Option.some.injEq] at he;subst he;obtain ⟨_,nF⟩:=(dV rfl).1 aj;rcases nF with ⟨nF,rfl⟩ | ⟨q,z,bk,nF,rfl,_⟩
   ·obtain rfl:=(List.cons.inj nF).1;exact ⟨.bI _ _,E8 M none 9999,λ_ _ h=>by cases h⟩
   ·obtain rfl:=(List.cons.inj nF).1;exact ⟨.bI _ _,E8 M (some q) 9999,λ_ _ h=>by cases h⟩
  ·rename_i a8 t2 wI aL;obtain ⟨i,M,_⟩:=(aV.b_ aL (by simp)).bI;simp only [bA] at aS;subst aS;simp only [aq.bN,Option.some.injEq] at he;subst he;obtain ⟨q,bk,rfl,_⟩:=aj;exact ⟨.bI _ _,E8 M (some q) 9999,λ_ _ h=>by cases h⟩
  ·rename_i a8 b g off aL;obtain ⟨i,M,_⟩:=(aV.b_ aL (by simp)).bI;simp only [bA] at aS;subst aS;simp only [aq.eZ,aq.bN] at he;split at he
   ·rename_i bl;simp only [Bool.and_eq_true,decide_eq_true_eq] at bl;simp only [Option.some.injEq] at he;subst he;have:=aj.2 bl.1.symm bl.2;subst this;exact ⟨.bI _ _,E8 M (some _) 9999,λ_ _ h=>by cases h⟩
   grind
  ·split at he
   ·rename_i iV;simp only [Bool.and_eq_true,decide_eq_true_eq] at iV;simp only [aq.e0,Option.bind_eq_some_iff,aq.bN,Option.some.injEq] at he;obtain ⟨⟨wJ,e_⟩,G,⟨JR,pU⟩,V,rfl⟩:=he;have cf:=BM U G aj;have cF:=BM U V aS;generalize p3:T ty=t at *
    cases t with
    | bool=>
     have dk:=aV.b_ p3 (by simp);refine ⟨?_,(JP .bool 10000 rfl (by decide)).1 dk cf cF,?_⟩
     ·rw [fa.1 cf,fa.1 cF];exact .bool _ _
     simp_all
    | int k=>exact (Rh ⟨Rf G,Rf V⟩).elim
    | str=>exact (Ri ⟨Rg G,Rg V⟩).elim
    | st t=>
     have dk:=aV.b_ p3 (by simp);refine ⟨?_,(JP (.st t) 10000 iV.1 (by omega)).1 dk cf cF,λ_ _ _ _=>dk.BI.2.1⟩;obtain ⟨⟨_,rfl,_⟩,_⟩:=cf;obtain ⟨⟨_,rfl,_⟩,_⟩:=cF;exact .agg _ _
    | aA t1 t2=>have:=aV.b_ p3 (by simp);unfold b7 at this;simp only [cC,Bool.false_eq_true] at this
    | cQ=>cases iV.1
    | slice _=>cases iV.1
    | array _ _=>cases iV.1
    | bI _=>cases iV.1
    | map _ _=>cases iV.1
    | fn _ _=>cases iV.1
    | cq _=>cases iV.1
    | ej=>cases iV.1
   ·cases he
 obtain ⟨aU,aX,bP⟩:=key;have:=acw (x:=x) (y:=y) aU aX bP;cases op<;>simp only [reduceCtorEq,Option.some.injEq,Prod.mk.injEq] at af;case eql=>obtain ⟨rfl,rfl⟩:=af;exact ⟨_,this.1,fa.2 rfl⟩
 case neq=>obtain ⟨rfl,rfl⟩:=af;exact ⟨_,this.2,fa.2 rfl⟩
theorem acy (aV:dT C.P T) {op:BinOp} {ty mG:TypeId} {x y:Operand} (bh:∀ i,o.dst=some i->i<C.nt) (ag:o.op=.binOp op ty x y mG) (h:(bt C.aP T bg (a_ C.aP s.az) o).run s.ab=some res):cE C o s res:=by
 simp only [bt,ag] at h;have yV:∀ c,o.op≠.defer c:=by grind
 have mH:∀ (a:Act) (w:World) (r:Value),(do eqGuard op ty x y (a.eval x) (a.eval y);binOp op ty (a.eval x) (a.eval y):Sem Value).run C.P w=.ok r w->(execOp a.eval o).run C.P w=.ok (.value r) w:=by
  intro a w r U;simp only [execOp,ag,Sem.run_bind] at U ⊢;simp_all
 split at h
 ·rename_i k m k' n aj aS;have fin:∀ (c:Prop) (v:aI),(∀ (w:World) κ F,c->fL k m->∃ r,(binOp op ty (.int k m) (.int k' n)).run C.P w=.ok r w/\bA C.P s.ab κ F w v r)->
    res=⟨(use (a_ C.aP s.az x)).1/\(use (a_ C.aP s.az y)).1,c,v,[]⟩->cE C o s res:=by
   intro c v ao gg;subst gg;refine cE.pure yV bh λa w κ F U be hc=>?_;have G:=od (cK U x rfl be.1) aj;have V:=od (cK U y rfl be.2) aS;obtain ⟨r,cf,cF⟩:=ao w κ F hc G.2;exact ⟨r,mH a w r (by simp [G.1,V.1,Rc,cf]),cF⟩
  split at h
  ·split at h
   ·rename_i c v aG;simp only [bO,aq.bN,Option.some.injEq] at h;exact fin c v (λw κ F hc ba=>Re aG hc ba) h.symm
   ·cases h
  ·split at h
   ·rename_i c v aG;simp only [bO,aq.bN,Option.some.injEq] at h;exact fin c v (λw κ F hc ba=>Re aG hc ba) h.symm
   ·cases h
  ·split at h
   ·rename_i uP;subst uP;split at h
    ·rename_i c v aG;simp only [bO,aq.bN,Option.some.injEq] at h;exact fin c v (λw κ F hc ba=>acj aG hc ba) h.symm
    ·cases h
   ·cases h
 ·rename_i Rh;split at h
  ·rename_i m n aj aS;split at h
   ·rename_i c v aG;simp only [bO,aq.bN,Option.some.injEq] at h;subst h;refine cE.pure yV bh λa w κ F U be hc=>?_;have G:=JO (cK U x rfl be.1) aj;have V:=JO (cK U y rfl be.2) aS;obtain ⟨r,cf,cF⟩:=ack (P:=C.P) (H:=s.ab) (κ:=κ) (F:=F) (w:=w) (t:=ty) aG hc;exact ⟨r,mH a w r (by simp [G.1,V.1,acg,cf]),cF⟩
   ·cases h
  ·rename_i Ri;simp only [bO,aq.e0,Option.bind_eq_some_iff,aq.bN,Option.some.injEq] at h;obtain ⟨⟨c,v⟩,aG,rfl⟩:=h;refine cE.pure yV bh λa w κ F U be hc=>?_;obtain ⟨r,cf,cF⟩:=acx (x:=x) (y:=y) aV U aG (cK U x rfl be.1) (cK U y rfl be.2)
    (λ⟨aF,bB⟩=>by
     obtain ⟨⟨k,m⟩,aF⟩:=Option.isSome_iff_exists.1 aF;obtain ⟨⟨k',dw⟩,bB⟩:=Option.isSome_iff_exists.1 bB;grind)
    (λ⟨aF,bB⟩=>by
     obtain ⟨m,aF⟩:=Option.isSome_iff_exists.1 aF;obtain ⟨dw,bB⟩:=Option.isSome_iff_exists.1 bB;grind)
   grind
theorem uQ {w:World} {b:Nat} {cs:Array Value} {T:TypeId} {ff:Nat×Nat} (h:w.heap[b]?=some (.cells cs T ff)) (off:Nat):w.cell? ⟨b,off,none⟩=cs[off]?:=by
 simp [World.cell?,h]
theorem Rj {P:Program} {w:World} {t:ad} {id:TypeId} (h:b7 P t id) (ak:t.isAgg=false) {p:Addr} {v:Value} (af:w.cell? p=some v):(loadVar id p).run P w=.ok v w:=by
 simp [loadVar,yR h,ak,af]
theorem Rk (aV:dT C.P T) {ty:TypeId} {dZ v:aI} {u:Value} {a:Act} {w:World} {κ:Nat->bD} {F:Nat->Prop} (U:bm C s a w κ F) (h:(yM (T ty) dZ).run s.ab=some v) (aj:bA C.P s.ab κ F w dZ u) :
  ∃ r,(Instr.loadAt ty u).run C.P w=.ok r w/\bA C.P s.ab κ F w v r:=by
 generalize p3:T ty=t at *
 cases dZ with
 | dW cU d=>
  simp only [yM,aq.bN] at h;split at h
  ·rename_i hc;obtain ⟨rfl,hc⟩:=hc;simp only [Option.some.injEq] at h;subst h;obtain ⟨p,bk,rfl,V,ah⟩:=aj;have dk:=aV.b_ p3 (by intro e;subst e;cases hc);obtain ⟨r,cf,cF⟩:=JN dk V.JM ah;exact ⟨r,by simp [Instr.loadAt,Instr.sureAddr,cf],cF⟩
  grind
 | a1 b g off=>
  simp only [yM,aq.eZ,aq.bN] at h;split at h
  ·rename_i aC;split at h
   ·rename_i t0 f bS;have af:=aj.2 aC.symm (by rw [bS];rfl);subst af;have aT:=U.bE b;unfold cB at aT;rw [bS] at aT;obtain ⟨cs,hR,bF,c2,c3⟩:=aT;split at h
    ·rename_i ak;split at h
     ·rename_i E9;simp only [Option.some.injEq] at h;subst h;have dk:=aV.b_ p3 (by intro e;subst e;cases ak);have JS:t.isAgg=false:=by cases t<;>simp_all [ad.eC,ad.isAgg]
      refine ⟨cs.getD off Go.undef,?_,(c3 off E9).1⟩;simp only [Instr.loadAt,Instr.sureAddr,Sem.run_bind,Sem.run_pure,Result.andThen_ok];refine Rj dk JS ?_;rw [uQ bF];simp_all
     grind
    ·split at h
     ·rename_i Rl;split at h
      ·rename_i E9;simp only [Option.some.injEq] at h;subst h;have dk:=aV.b_ p3 (by intro e;subst e;cases Rl);let aE:=(List.range t.size).map λj=>cs.getD (off+j) Go.undef;refine ⟨.agg aE.toArray,?_,aE,rfl,by grind,λi M=>?_⟩
       ·simp only [Instr.loadAt,Instr.sureAddr,Sem.run_bind,Sem.run_pure,Result.andThen_ok,loadVar,yR dk,Rl,if_true,dk.size];rw [run_loadCells w ⟨(κ b).ab,off,none⟩ t.size (λj=>cs.getD (off+j) Go.undef)]
        ·rfl
        ·intro j aH;rw [uO,uQ bF];simp [Array.getD_eq_getD_getElem?,c2,show off+j<t0.size by omega]
       grind
      grind
     grind
   ·rename_i t0 y bS;have af:=aj.2 aC.symm (by rw [bS];rfl);subst af;have aT:=U.bE b;unfold cB at aT;rw [bS] at aT;obtain ⟨bk,d1,d2⟩:=aT;split at h
    ·rename_i hc;simp only [Option.map_eq_some_iff] at h;obtain ⟨z,bl,rfl⟩:=h;obtain ⟨bF,c2,c3,rfl,dx,dP⟩:=Q3 t0 d2 bl;have dk:=aV.b_ p3 (by intro e;subst e;cases hc);have cR:kr w ⟨(κ b).ab,off,none⟩ c2:=by
      refine ⟨λ_=>rfl,λj aH=>?_⟩;have:=d1.2.2 (bF.length+j) (by grind);simp_all
     obtain ⟨r,cf,cF⟩:=JN dk cR dP;exact ⟨r,by simp [Instr.loadAt,Instr.sureAddr,cf],cF⟩
    grind
   grind
  grind
 | n' b g i off=>
  simp only [yM,aq.eZ,aq.bN] at h;split at h
  ·rename_i aC;have fin:∀ (e:ad) (xs:List e.ai),(s.ab b).body.fc=true->(s.ab b).body.len=xs.length->(s.ab b).body.eY=e.size->
     (∀ (M:i<xs.length),(κ b).e3=false->∃ bk,kr w ⟨(κ b).ab,(κ b).off+i*e.size,none⟩ bk/\bK C.P e F w bk xs[i])->
     (if t.eC||t.isAgg then (rM e (xs.getD i e.db) off t).map (.val t) else none)=some v->∃ r,(Instr.loadAt ty u).run C.P w=.ok r w/\bA C.P s.ab κ F w v r:=by
    intro e xs ba hlen BN jf af;split at af
    ·rename_i hc;simp only [Option.map_eq_some_iff] at af;obtain ⟨z,bl,rfl⟩:=af;obtain ⟨aU,aX,bP⟩:=aj.2 aC.symm ba;subst bP;rw [hlen] at aU;obtain ⟨bk,d1,d2⟩:=jf aU aX;have JT:xs.getD i e.db=xs[i]:=by grind
     rw [JT] at bl;obtain ⟨bF,c2,c3,rfl,dx,dP⟩:=Q3 e d2 bl;have dk:=aV.b_ p3 (by intro e;subst e;cases hc);have cR:kr w ⟨(κ b).ab,(κ b).off+i*(s.ab b).body.eY+off,none⟩ c2:=by
      refine ⟨λ_=>rfl,λj aH=>?_⟩;have:=d1.2 (bF.length+j) (by grind);grind
     obtain ⟨r,cf,cF⟩:=JN dk cR dP;exact ⟨r,by simp [Instr.loadAt,Instr.sureAddr,cf],cF⟩
    grind
   have aT:=U.bE b;unfold cB at aT;split at h
   ·rename_i e xs bS;rw [bS] at aT;refine fin e xs (by rw [bS];rfl) (by rw [bS];rfl) (by rw [bS];rfl) (λM aD=>?_) h;obtain ⟨cs,hR,bF,c2,c3,c4,c5⟩:=aT.2 aD;obtain ⟨bk,d1,d2⟩:=c5 i M;exact ⟨bk,⟨λ_=>rfl,λj aH=>by rw [uQ bF];grind⟩,d2⟩
   ·rename_i e xs bS;rw [bS] at aT;refine fin e xs (by rw [bS];rfl) (by rw [bS];rfl) (by rw [bS];rfl) (λM aD=>?_) h;simp only [jz,bK,bD.slice,aD,Bool.false_eq_true,if_false] at aT;obtain ⟨a',cap,aF,m1,m2,m3,m4⟩:=aT;simp only [List.cons.injEq,Value.slice.injEq,and_true] at aF;obtain ⟨rfl,_,rfl⟩:=aF;obtain ⟨ec,ef,jF⟩:=m4 _ rfl (by omega);obtain ⟨bk,d1,d2⟩:=jF i M;exact ⟨bk,d1.JM,d2⟩
   grind
  grind
 | _=>cases h
end
end Go.Fer
namespace Go.Fer
open Go.RowKit
section
variable {C:b8} {T:Nat->ad} {bg:Nat->Option aO} {o:Oper} {s:aB} {res:ey}
theorem acz (aV:dT C.P T) {ty:TypeId} {x:Operand} (bh:∀ i,o.dst=some i->i<C.nt) (ag:o.op=.load ty x) (h:(bt C.aP T bg (a_ C.aP s.az) o).run s.ab=some res):cE C o s res:=by
 simp only [bt,ag] at h;split at h
 ·rename_i cA b g i aj;simp only [Q',aq.eZ,aq.bN] at h;split at h
  ·rename_i e xs k5 v bS;split at h
   ·rename_i hc;obtain ⟨aC,ak⟩:=hc;simp only [Option.some.injEq] at h;subst h;refine cE.pure (by grind) bh λa w κ F U be M=>?_;have M:i=k5:=M;subst M;have G:=(cK U x aj be).2 aC.symm (by rw [bS];rfl);have aT:=U.bE b;unfold cB at aT;rw [bS] at aT G;obtain ⟨_,cs,hR,bF,c2,c3,c4,c5,lE,oe,wK⟩:=aT;have dk:=aV.b_ (t:=T ty) rfl (by intro e;rw [e] at ak;cases ak);have JS:(T ty).isAgg=false:=by cases aL:T ty<;>simp_all [ad.eC,ad.isAgg]
    refine ⟨_,?_,oe⟩;have tj:w.cell? ⟨(κ b).ab,(κ b).off+i,none⟩=some (cs.getD ((κ b).off+i) Go.undef):=by
     rw [uQ bF];have:(κ b).off+i<cs.size:=by
      have:i<(κ b).cap:=by omega
      rw [c5.1] at c2;omega
     simp [this]
    have ar:a.eval x=.pointer (some ⟨(κ b).ab,(κ b).off+i,none⟩):=by rw [G.2.2];simp [bQ.eY,c5.1]
    simp [execOp,ag,ar,Instr.loadAt,Instr.sureAddr,Rj dk JS tj]
   ·cases h
  ·cases h
 ·rename_i cA dZ _ aj;simp only [bO,aq.e0,Option.bind_eq_some_iff,aq.bN,Option.some.injEq] at h;obtain ⟨v,af,rfl⟩:=h;refine cE.pure (by grind) bh λa w κ F U be _=>?_;obtain ⟨r,cf,cF⟩:=Rk aV U af (cK U x aj be);exact ⟨r,by simp [execOp,ag,cf],cF⟩
theorem b7.str {P:Program} {id:TypeId} (h:b7 P .str id):P.underlying id=some .string:=by
 unfold b7 at h;simp only [cC,Bool.and_eq_true] at h;grind
theorem b7.int {P:Program} {k:IntKind} {id:TypeId} (h:b7 P (.int k) id):P.underlying id=some (.int k):=by
 unfold b7 at h;simp only [cC,Bool.and_eq_true] at h;grind
theorem b7.bj {P:Program} {n:Nat} {e:ad} {id:TypeId} (h:b7 P (.array n e) id):∃ i,P.underlying id=some (.array n i)/\b7 P e i/\e.size≠0:=by
 unfold b7 at h;simp only [cC,Bool.and_eq_true] at h;obtain ⟨_,h⟩:=h;split at h
 ·rename_i m i hu;simp only [Bool.and_eq_true,decide_eq_true_eq,bne_iff_ne,ne_eq] at h;obtain ⟨⟨rfl,V⟩,ah⟩:=h;exact ⟨i,hu,V,ah⟩
 grind
theorem acA {fk:List (List Value)} {m:Nat} (h:∀ c∈fk,c.length=m) {i:Nat} (M:i<fk.length):∃ p q,fk.flatten=p++(fk[i]++q)/\p.length=i*m:=by
 refine ⟨(fk.take i).flatten,(fk.drop (i+1)).flatten,?_,?_⟩
 ·rw [<-List.flatten_cons,<-List.drop_eq_getElem_cons M,<-List.flatten_append,List.take_append_drop]
 ·have a7:(fk.take i).map List.length=List.replicate i m:=List.eq_replicate_iff.2 ⟨by grind,λx aj=>by
   grind⟩
  simp_all
theorem JU {P:Program} {n:Nat} {e:ad} {F:Nat->Prop} {w:World} {cs:List Value} {xs:List e.ai} (h:bK P (.array n e) F w cs xs) {i:Nat} (M:i<n):∃ p c q,cs=p++(c++q)/\p.length=i*e.size/\bK P e F w c (xs.getD i e.db):=by
 simp only [bK] at h;obtain ⟨fk,rfl,G,V,ah⟩:=h;obtain ⟨p,q,aU,aX⟩:=acA (m:=e.size) (λc hc=>by
  obtain ⟨j,aH,rfl⟩:=List.mem_iff_getElem.1 hc;exact hM e (ah j (by omega) aH)) (show i<fk.length by omega)
 grind
theorem acB (aV:dT C.P T) {ty:TypeId} {x i:Operand} (bh:∀ i,o.dst=some i->i<C.nt) (ag:o.op=.index ty x i) (h:(bt C.aP T bg (a_ C.aP s.az) o).run s.ab=some res):cE C o s res:=by
 simp only [bt,ag] at h;split at h
 ·rename_i l k n aL aj M;simp only [bO,aq.bN,Option.some.injEq] at h;subst h;refine cE.pure (by grind) bh λa w κ F U be hc=>?_;have G:=JO (cK U x rfl be.1) aj;have V:=od (cK U i rfl be.2) M;have dk:=(aV.b_ aL (by simp)).str;have ch:n.toNat<l.length:=by omega
  refine ⟨.int .u8 ((l.getD n.toNat 0).toNat:Int),?_,gP.2 ⟨rfl,?_⟩⟩
  ·have e:(⟨l.toArray⟩:ByteArray)[n.toNat]?=some (l.getD n.toNat 0):=by
    have aG:n.toNat<(⟨l.toArray⟩:ByteArray).size:=by simpa [ByteArray.size] using ch
    rw [getElem?_pos (⟨l.toArray⟩:ByteArray) n.toNat aG];simp only [Option.some.injEq];show (⟨l.toArray⟩:ByteArray).data[n.toNat]=_;grind
   simp [execOp,ag,Instr.index,G.1,V.1,asIntOf,dC dk,hc.1,e]
  ·have:=(l.getD n.toNat 0).toNat_lt;constructor
   ·have:IntKind.u8.min=0:=by decide
    omega
   ·have:IntKind.u8.max=255:=by decide
    omega
 ·rename_i m e k n aL M;split at h
  ·rename_i dw a8 xs aj;split at h
   ·rename_i he;obtain ⟨rfl,rfl⟩:=he;simp only [bO,aq.bN,Option.some.injEq] at h;subst h;refine cE.pure (by grind) bh λa w κ F U be hc=>?_;have G:bA C.P s.ab κ F w (use (a_ C.aP s.az x)).2 (a.eval x):=cK U x rfl be.1;rw [aj] at G;have V:=od (cK U i rfl be.2) M;obtain ⟨j,aH,qO,_⟩:=(aV.b_ aL (by simp)).bj;obtain ⟨⟨cs,af,o5⟩,nG⟩:=G;rw [af] at nG;obtain ⟨p,c,q,aF,bB,di⟩:=JU nG (i:=n.toNat) (by omega);obtain ⟨v,g1,eo⟩:=qM qO (cs:=cs) aF di;refine ⟨v,?_,eo⟩;rw [bB] at g1;simp [execOp,ag,Instr.index,af,V.1,asIntOf,dC aH,hc.1,hc.2,qO.size,g1]
   ·cases h
  ·rename_i k' f aj;split at h
   ·rename_i ao;simp only [bO,aq.bN,Option.some.injEq] at h;subst h;refine cE.pure (by grind) bh λa w κ F U be hc=>?_;have G:bA C.P s.ab κ F w (use (a_ C.aP s.az x)).2 (a.eval x):=cK U x rfl be.1;rw [aj] at G;have V:=od (cK U i rfl be.2) M;obtain ⟨j,aH,qO,cb⟩:=(aV.b_ aL (by simp)).bj;obtain ⟨aE,af,ak,fB⟩:=G;have ch:n.toNat*e.size+e.size<=aE.length:=by
     rw [ak,ao];have:(n.toNat+1)*e.size<=m*e.size:=Nat.mul_le_mul_right _ (by omega);grind
    by_cases ba:e.isAgg=true
    ·simp only [if_pos ba];refine ⟨_,by simp [execOp,ag,Instr.index,af,V.1,asIntOf,dC aH,hc.1,hc.2,qO.size,Rb qO ba];rfl,(aE.toArray.extract (n.toNat*e.size) (n.toNat*e.size+e.size)).toList,by simp,?_,λq br=>?_⟩
     ·simp;omega
     ·have acC:(aE.toArray.extract (n.toNat*e.size) (n.toNat*e.size+e.size)).toList.getD q Go.undef=aE.getD (n.toNat*e.size+q) Go.undef:=by
       simp [List.getD_eq_getElem?_getD,br]
      rw [acC];exact fB _ (by omega)
    ·simp only [if_neg ba];have a7:=fB (n.toNat*e.size) (by omega);refine ⟨aE.getD (n.toNat*e.size) Go.undef,?_,a7.1⟩;have aC:aE.toArray[n.toNat*e.size]?=some (aE.getD (n.toNat*e.size) Go.undef):=by
      grind
     simp [execOp,ag,Instr.index,af,V.1,asIntOf,dC aH,hc.1,hc.2,qO.size,Ra qO (by grind) aC]
   ·cases h
  ·cases h
 ·cases h
theorem rQ:∀ {l:List aI},jE l->∀ i,i<l.length->(use (l.getD i .undef)).1
 | [],_,i,M=>by grind
 | a::l,h,0,_=>by
  cases a<;>first | trivial | exact h.1
 | a::l,h,i+1,M=>by
  have ds:jE l:=by cases a<;>first | exact h | exact h.2
  have:=rQ ds i (by grind);grind
theorem acD {k:bD} {n:Nat} (h:k.e3=true->n=0):∃ a cap,k.slice n=.slice a n cap:=by
 unfold bD.slice;split
 ·rename_i aD;rw [h aD];exact ⟨none,0,rfl⟩
 ·exact ⟨_,_,rfl⟩
theorem yW {a:Act} {w:World} {κ:Nat->bD} {F:Nat->Prop} (U:bm C s a w κ F) {b:Nat} (ba:(s.ab b).body.fc=true):((κ b).e3=true->(s.ab b).body.len=0)/\(s.ab b).body.len<2 ^ 63:=by
 have aT:=U.bE b;unfold cB at aT;cases bS:(s.ab b).body with
 | bj e xs=>
  rw [bS] at aT;refine ⟨λaD=>by rw [aT.1 aD];rfl,?_⟩;simp only [bQ.len];cases aD:(κ b).e3 with
  | true=>rw [aT.1 aD];simp
  | false=>obtain ⟨cs,hR,bF,c2,c3,c4,c5⟩:=aT.2 aD;omega
 | hA e xs=>
  rw [bS] at aT;simp only [jz,bK,bD.slice] at aT;obtain ⟨a',cap,aF,m1,m2,m3,m4⟩:=aT;simp only [bQ.len];grind
 | f' e xs i v=>
  rw [bS] at aT;obtain ⟨aY,cs,hR,bF,c2,c3,c4,_⟩:=aT;exact ⟨λaD=>(by rw [aY] at aD;cases aD),(by simp only [bQ.len];omega)⟩
 | _=>rw [bS] at ba;cases ba
theorem JV {a:Act} {w:World} {κ:Nat->bD} {F:Nat->Prop} (U:bm C s a w κ F) {b:Nat} (ba:(s.ab b).body.fc=true) (aD:(κ b).e3=false):(s.ab b).body.len<=(κ b).cap:=by
 have aT:=U.bE b;unfold cB at aT;cases bS:(s.ab b).body with
 | bj e xs=>
  rw [bS] at aT;obtain ⟨cs,hR,bF,c2,c3,c4,c5⟩:=aT.2 aD;exact c3
 | hA e xs=>
  rw [bS] at aT;simp only [jz,bK,bD.slice,aD,Bool.false_eq_true,if_false] at aT;obtain ⟨a',cap,aF,m1,m2,m3,m4⟩:=aT;simp only [List.cons.injEq,Value.slice.injEq,and_true] at aF;simp only [bQ.len];omega
 | f' e xs i v=>
  rw [bS] at aT;obtain ⟨aY,cs,hR,bF,c2,c3,c4,_⟩:=aT;exact c3
 | _=>rw [bS] at ba;cases ba
theorem acE {a:Act} {w:World} {κ:Nat->bD} {F:Nat->Prop} (U:bm C s a w κ F) {b aZ M:Nat} (ba:(s.ab b).body.fc=true) {v:Value} (G:aZ<=M) (V:M<=(s.ab b).body.len) (aG:ET (κ b) (s.ab b).body.eY aZ M v) :
  ∃ a cap,v=.slice a (M - aZ) cap/\M - aZ<2 ^ 63:=by
 have aD:=yW U ba;rcases aG with ⟨aU,rfl⟩ | ⟨aU,o,rfl,_⟩
 ·simp_all
 grind
theorem BO {n:Nat} (h:n<2 ^ 63):fL .i64 (n:Int):=by
 unfold fL;have G:IntKind.i64.min=-9223372036854775808:=by decide
 have V:IntKind.i64.max=9223372036854775807:=by decide
 omega
theorem b7.mp {P:Program} {k v:ad} {id:TypeId} (h:b7 P (.map k v) id):∃ i j,P.underlying id=some (.map i j)/\b7 P k i/\b7 P v j:=by
 unfold b7 at h;simp only [cC,Bool.and_eq_true] at h;obtain ⟨_,h⟩:=h;split at h
 ·rename_i i j M;simp only [Bool.and_eq_true] at h;exact ⟨i,j,M,h.1,h.2⟩
 grind
theorem acF (aV:dT C.P T) {t:TypeId} {dZ:aI} {c:Prop} {n:Int} {u:Value} {a:Act} {w:World} {κ:Nat->bD} {F:Nat->Prop} (U:bm C s a w κ F) (h:(EW (T t) dZ).run s.ab=some (c,n)) (hc:c) (aj:bA C.P s.ab κ F w dZ u) (ty:TypeId) :
  (Builtin.len_ #[t] ty #[u]).run C.P w=.ok (.int .i64 n) w/\fL .i64 n:=by
 have awj:∀ e a' m cap,T t=.slice e->u=.slice a' m cap->(m:Int)=n->m<2 ^ 63->(Builtin.len_ #[t] ty #[u]).run C.P w=.ok (.int .i64 n) w/\fL .i64 n:=by
  intro e a' m cap aL hu hm ch;obtain ⟨i,M,_⟩:=(aV.b_ aL (by simp)).sl;subst hu;rw [<-hm];exact ⟨by simp [Builtin.len_,dC M,goInt],BO ch⟩
 have Rm:∀ k v r es clk m,T t=.map k v->u=.map (some r)->w.heap[r]?=some (.map es clk)->es.size=m->(m:Int)=n->cn m->(Builtin.len_ #[t] ty #[u]).run C.P w=.ok (.int .i64 n) w/\fL .i64 n:=by
  intro k v r es clk m aL hu hw o7 hm ch;obtain ⟨i,j,M,_⟩:=(aV.b_ aL (by simp)).mp;subst hu;rw [<-hm,<-o7];unfold cn at ch;refine ⟨?_,BO (by omega)⟩;simp [Builtin.len_,dC M,goInt,getObj,Sem.run,hw]
 unfold EW at h;split at h
 ·rename_i e aL;split at h
  ·rename_i a8 xs;simp only [aq.bN,Option.some.injEq,Prod.mk.injEq] at h;obtain ⟨_,aj⟩:=(dV rfl).1 aj;obtain ⟨a',cap,aF,m1,m2,m3,m4⟩:=aj;grind
  ·simp only [aq.bN,Option.some.injEq,Prod.mk.injEq] at h;simp only [bA] at aj;grind
  ·rename_i b g;simp only [aq.eZ,aq.bN] at h;split at h
   ·rename_i bl;simp only [Bool.and_eq_true,decide_eq_true_eq] at bl;simp only [Option.some.injEq,Prod.mk.injEq] at h;have af:=aj.2 bl.1.symm bl.2;have aD:=yW U bl.2;obtain ⟨a',cap,he⟩:=acD (k:=κ b) aD.1;grind
   grind
  ·rename_i b g aZ M;simp only [aq.eZ,aq.bN] at h;split at h
   ·rename_i bl;simp only [Bool.and_eq_true,decide_eq_true_eq] at bl;simp only [Option.some.injEq,Prod.mk.injEq] at h;obtain ⟨⟨aU,aX⟩,bP⟩:=aj.2 bl.1.symm bl.2;obtain ⟨a',cap,he,ch⟩:=acE U bl.2 aU aX bP;grind
   grind
  ·cases h
 ·rename_i aL;split at h
  ·rename_i xs;simp only [aq.bN,Option.some.injEq,Prod.mk.injEq] at h;obtain ⟨rfl,ch⟩:=l5.1 aj;have dk:=(aV.b_ aL (by simp)).str;rw [<-h.2];have aG:ByteArray.size ⟨xs.toArray⟩=xs.length:=by rfl
   exact ⟨by simp [Builtin.len_,dC dk,goInt,aG],BO (by omega)⟩
  ·cases h
 ·rename_i k v aL;split at h
  ·rename_i k' h2 xs;simp only [aq.bN,Option.some.injEq,Prod.mk.injEq] at h;obtain ⟨rfl,h⟩:=h;obtain ⟨_,aj⟩:=(dV rfl).1 aj;rcases aj with ⟨aF,rfl⟩ | ⟨r,es,clk,aF,m1,m2,m3,_⟩
   ·obtain rfl:=(List.cons.inj aF).1;obtain ⟨i,j,M,_⟩:=(aV.b_ aL (by simp)).mp;rw [<-h];exact ⟨by simp [Builtin.len_,dC M,goInt],BO (by simp)⟩
   grind
  ·rename_i b g;simp only [aq.eZ,aq.bN] at h;split at h
   ·rename_i aC;split at h
    ·rename_i k' h2 es bS;simp only [Option.some.injEq,Prod.mk.injEq] at h;obtain ⟨rfl,h⟩:=h;have aT:=U.bE b;unfold cB at aT;rw [bS] at aT;obtain ⟨ms,clk,dx,dP⟩:=aT;exact Rm k v _ ms clk es.length aL (aj.2 aC.symm (by rw [bS];rfl)) dx dP.1 h hc
    ·rename_i k' h2 es bS;simp only [Option.some.injEq,Prod.mk.injEq] at h;obtain ⟨rfl,h⟩:=h;have aT:=U.bE b;unfold cB at aT;rw [bS] at aT;rcases aT with ⟨aF,_⟩ | ⟨r,ms,clk,aF,BP,dx,dP,_⟩
     ·cases aF
     ·simp only [List.cons.injEq,Value.map.injEq,Option.some.injEq,and_true] at aF;subst aF;exact Rm k v _ ms clk es.length aL (aj.2 aC.symm (by rw [bS];rfl)) dx dP h hc
    grind
   grind
  ·cases h
 ·cases h
theorem wL {b:Builtin} {args:Array Operand} {dj:Array TypeId} {a:Act} {w w':World} {v:Value} (ag:o.op=.call { callee:=.builtin b,args:=args,argTypes:=dj })
  (h:(builtin b dj o.type (args.map fun | .const _=>true | _=>false) (args.map a.eval)).run C.P w=.ok (.value v) w'):(execOp a.eval o).run C.P w=.ok (.value v) w':=by
 simp only [execOp,ag,Sem.run_bind,resolve,Sem.run_pure,Result.andThen_ok,invoke];exact h
theorem acG (aV:dT C.P T) {args:Array Operand} {dj:Array TypeId} (bh:∀ i,o.dst=some i->i<C.nt) (ag:o.op=.call { callee:=.builtin .len,args:=args,argTypes:=dj }) (h:(bt C.aP T bg (a_ C.aP s.az) o).run s.ab=some res):cE C o s res:=by
 obtain ⟨args⟩:=args;obtain ⟨dj⟩:=dj;simp only [bt,ag,mF,BB] at h;split at h
 ·rename_i x t;simp only [bO,aq.e0,Option.bind_eq_some_iff,aq.bN,Option.some.injEq] at h;obtain ⟨⟨c,n⟩,aD,rfl⟩:=h;refine cE.pure (by grind) bh λa w κ F U be hc=>?_;obtain ⟨G,V⟩:=acF aV U aD hc (cK U x rfl be) o.type;refine ⟨_,wL ag ?_,gP.2 ⟨rfl,V⟩⟩;simp [builtin,G]
 ·cases h
theorem acH (aV:dT C.P T) {args:Array Operand} {dj:Array TypeId} (bh:∀ i,o.dst=some i->i<C.nt) (ag:o.op=.call { callee:=.builtin .cap,args:=args,argTypes:=dj }) (h:(BD T (a_ C.aP s.az) args.toList dj.toList).run s.ab=some res):cE C o s res:=by
 obtain ⟨args⟩:=args;obtain ⟨dj⟩:=dj;simp only [BD] at h;split at h
 ·rename_i x t;split at h
  ·rename_i e cA aL hu;simp only [bO,aq.bN,Option.some.injEq] at h;subst h;refine cE.pure (by grind) bh λa w κ F U be hc=>?_;have af:a.eval x=.slice none 0 0:=cK U x hu be;obtain ⟨i,M,_⟩:=(aV.b_ aL (by simp)).sl;refine ⟨.int .i64 0,wL ag ?_,gP.2 ⟨rfl,by decide⟩⟩;simp [builtin,Builtin.cap_,af,dC M,goInt]
  ·cases h
 ·cases h
theorem Rn {a:Act} {w:World} {κ:Nat->bD} {F:Nat->Prop} (U:bm C s a w κ F) {k:IntKind}:∀ (l:List Operand) {b9:Prop} {h4:z1'},mE (a_ C.aP s.az) k l=some (b9,h4)->b9->l.map a.eval=h4.map (Value.int k)/\∀ n∈h4,fL k n
 | [],_,_,h,_=>by cases h
 | [x],b9,h4,h,be=>by
  simp only [mE] at h;split at h
  ·rename_i k' n aj;split at h
   ·rename_i ao;subst ao;cases h;have G:=od (cK U x rfl be) aj;exact ⟨by simp [G.1],by simpa using G.2⟩
   ·cases h
  ·cases h
 | x::y::l,b9,h4,h,be=>by
  simp only [mE] at h;split at h
  ·rename_i k' n awk awl aj ak;split at h
   ·rename_i ao;subst ao;cases h;have G:=od (cK U x rfl be.1) aj;have V:=Rn U (y::l) ak be.2;exact ⟨by rw [List.map_cons,V.1,G.1];rfl,λm hm=>by
     rcases List.mem_cons.1 hm with rfl | hm
     ·exact G.2
     ·exact V.2 m hm⟩
   ·cases h
  ·cases h
theorem JW {k:IntKind}:∀ (h4:z1') (m:Int),fL k m->(∀ n∈h4,fL k n)->((h4.map (Value.int k)).foldlM Builtin.min2 (Value.int k m)=pure (Value.int k (h4.foldl (λa b=>if b<a then b else a) m))/\fL k (h4.foldl (λa b=>if b<a then b else a) m))/\
  ((h4.map (Value.int k)).foldlM Builtin.max2 (Value.int k m)=pure (Value.int k (h4.foldl (λa b=>if b > a then b else a) m))/\fL k (h4.foldl (λa b=>if b > a then b else a) m))
 | [],m,h,_=>⟨⟨rfl,h⟩,rfl,h⟩
 | n::h4,m,h,ak=>by
  have aD:=ak n (by simp);have ak:=λq br=>ak q (List.mem_cons_of_mem n br);have G:=(JW h4 (if n<m then n else m) (by split<;>assumption) ak).1;have V:=(JW h4 (if n > m then n else m) (by split<;>assumption) ak).2;refine ⟨⟨?_,G.2⟩,?_,V.2⟩
  ·simp only [List.map_cons,List.foldlM_cons,List.foldl_cons,Builtin.min2];rw [<-G.1];simp
  ·simp only [List.map_cons,List.foldlM_cons,List.foldl_cons,Builtin.max2];rw [<-V.1];simp
theorem Ro {b:Builtin} {f:Int->Int->Int} (aa:(b=.min/\f=λa b=>if b<a then b else a)\/(b=.max/\f=λa b=>if b > a then b else a)) {args:Array Operand} {dj:Array TypeId} (bh:∀ i,o.dst=some i->i<C.nt)
  (ag:o.op=.call { callee:=.builtin b,args:=args,argTypes:=dj }) (h:(rO (a_ C.aP s.az) f args.toList).run s.ab=some res):cE C o s res:=by
 obtain ⟨args⟩:=args;simp only [rO] at h;split at h
 ·rename_i x y l;split at h
  ·rename_i k m aj;split at h
   ·rename_i b9 h4 ak;simp only [bO,aq.bN,Option.some.injEq] at h;subst h;refine cE.pure (by grind) bh λa w κ F U be hc=>?_;have G:=od (cK U x rfl be.1) aj;obtain ⟨V,ah⟩:=Rn U (y::l) ak be.2;obtain ⟨g1,eo⟩:=JW h4 m G.2 ah;have dY:(x::y::l).map a.eval=Value.int k m::h4.map (Value.int k):=by rw [List.map_cons,V,G.1]
    refine ⟨.int k (h4.foldl f m),wL ag ?_,gP.2 ⟨rfl,?_⟩⟩
    ·rcases aa with ⟨rfl,rfl⟩ | ⟨rfl,rfl⟩
     ·simp only [builtin,Builtin.min_,List.map_toArray,dY];rw [g1.1];rfl
     ·simp only [builtin,Builtin.max_,List.map_toArray,dY];rw [eo.1];rfl
    ·rcases aa with ⟨rfl,rfl⟩ | ⟨rfl,rfl⟩
     ·exact g1.2
     ·exact eo.2
   ·cases h
  ·cases h
 ·cases h
end
end Go.Fer
namespace Go.Fer
open Go.RowKit
def ff (H:Nat->bL) (x:bL):bL:=match x.body with
 | .bj e xs=>⟨x.gen,.hA e xs⟩
 | .mp k v es=>⟨x.gen,.iQ k v es⟩
 | .cells t f=>match (ie t ((List.range t.size).map f)).run H with
  | some (y,_,[])=>⟨x.gen,.gD t y⟩
  | _=>x
 | _=>x
def aB.cy (s:aB) (l:List Nat):aB:=⟨s.az,λi=>if i∈l then ff s.ab (s.ab i) else s.ab i⟩
theorem Rp (H:Nat->bL):∀ (l:List Nat) (s:aB),(∀ i∈l,s.ab i=H i\/s.ab i=ff H (H i))->s.fU ((jD l).run H)=⟨s.az,λi=>if i∈l then ff H (H i) else s.ab i⟩
 | [],s,_=>by
  rfl
 | b::l,s,h=>by
  simp only [jD,aq.eZ,aq.run_bind];have key:∀ (s':aB),s'.az=s.az->s'.ab b=ff H (H b)->(∀ i,i≠b->s'.ab i=s.ab i)->s'.fU ((jD l).run H)=⟨s.az,λi=>if i∈b::l then ff H (H i) else s.ab i⟩:=by
   intro s' aF bB di;rw [Rp H l s']
   ·rw [aF];congr 1;funext i;by_cases M:i=b
    ·subst M;simp only [bB,List.mem_cons,true_or,if_true];split<;>rfl
    ·rw [di i M];simp [M]
   ·intro i M;by_cases eL:i=b
    ·subst eL;exact .inr bB
    ·rw [di i eL];exact h i (by simp [M])
  have hC:ff H (H b)=H b->s.fU ((jD l).run H)=⟨s.az,λi=>if i∈b::l then ff H (H i) else s.ab i⟩:=λe=>
   key s rfl (by grind) λ_ _=>rfl
  have put:∀ x,ff H (H b)=x->s.fU ((b,x)::(jD l).run H)=⟨s.az,λi=>if i∈b::l then ff H (H i) else s.ab i⟩:=λx e=>by
   simp only [aB.fU];exact key _ rfl (by simp [aB.cw,e]) λi M=>by simp [aB.cw,M]
  cases aa:(H b).body with
  | bj e xs=>exact put _ (by simp [ff,aa])
  | mp k v es=>exact put _ (by simp [ff,aa])
  | cells t f=>
   simp only [aq.run_bind,aq.bN];cases aC:(ie t ((List.range t.size).map f)).run H with
   | none=>exact hC (by simp [ff,aa,aC])
   | some z=>
    obtain ⟨y,m,r⟩:=z;cases r with
    | nil=>exact put _ (by simp [ff,aa,aC])
    | cons c r=>exact hC (by simp [ff,aa,aC])
  | _=>exact hC (by simp [ff,aa])
theorem tk (s:aB) (l:List Nat):s.fU ((jD l).run s.ab)=s.cy l:=by
 rw [Rp s.ab l s λi _=>.inl rfl];rfl
theorem BQ:∀ (l:List (Nat×bL)) (s:aB) (p:Nat×bL),s.fU (l++[p])=(s.fU l).cw p.1 p.2
 | [],_,_=>rfl
 | q::l,s,p=>by simp only [List.cons_append,aB.fU];exact BQ l _ p
def bQ.Rq:bQ->Bool | .cq _ _ _ _=>true | .f' _ _ _ _=>true | _=>false
def gF (H:Nat->bL) (l:List Nat):Prop:=∀ b∈l,(H b).body.Rq=false/\∀ t f,(H b).body=.cells t f->∃ y m,(ie t ((List.range t.size).map f)).run H=some (y,m,[])/\∀ c∈m,c∈l
theorem gF.nil (H:Nat->bL):gF H []:=λb aa=>by cases aa
theorem gF.append {H:Nat->bL} {l m:List Nat} (h:gF H l) (k:gF H m):gF H (l++m):=by
 intro b aa;rcases List.mem_append.1 aa with aa | aa
 ·obtain ⟨G,V⟩:=h b aa;grind
 ·obtain ⟨G,V⟩:=k b aa;grind
theorem gF.one {H:Nat->bL} {b:Nat} (G:(H b).body.Rq=false) (V:(H b).body.fC=false):gF H [b]:=by
 intro c hc;obtain rfl:=List.mem_singleton.1 hc;exact ⟨G,λt f e=>by rw [e] at V;cases V⟩
theorem rR {H:Nat->bL} {t:ad} {av:aI} {x:t.ai} {l:List Nat} (h:(dX t av).run H=some (x,l)):gF H l:=by
 cases av with
 | val cU y=>
  simp only [dX,aq.bN,Option.map_eq_some_iff,Prod.mk.injEq] at h;obtain ⟨z,bl,rfl,rfl⟩:=h;exact .nil H
 | df=>
  cases t<;>simp only [dX,aq.none,aq.bN,reduceCtorEq,Option.some.injEq,Prod.mk.injEq] at h;obtain ⟨rfl,rfl⟩:=h;exact .nil H
 | jy u=>
  simp only [dX,aq.bN,Option.map_eq_some_iff,Prod.mk.injEq] at h;obtain ⟨z,bl,rfl,rfl⟩:=h;exact .nil H
 | dW cU y=>
  cases t<;>simp only [dX,aq.none,aq.bN,reduceCtorEq,Option.map_eq_some_iff,Prod.mk.injEq] at h;obtain ⟨z,bl,rfl,rfl⟩:=h;exact .nil H
 | an b g=>
  cases t<;>simp only [dX,aq.none,aq.bN,aq.eZ,reduceCtorEq] at h;split at h
  ·split at h
   ·rename_i aa;simp only [Option.map_eq_some_iff,Prod.mk.injEq] at h;obtain ⟨z,bl,rfl,rfl⟩:=h;exact .one (by rw [aa];rfl) (by rw [aa];rfl)
   ·simp only [Option.map_eq_some_iff,Prod.mk.injEq] at h;obtain ⟨z,bl,rfl,rfl⟩:=h;exact .nil H
   grind
  grind
 | sub b g aZ M=>
  cases t<;>simp only [dX,aq.none,aq.bN,aq.eZ,reduceCtorEq] at h;split at h
  ·split at h
   ·rename_i aa;simp only [Option.map_eq_some_iff,Prod.mk.injEq] at h;obtain ⟨z,bl,rfl,rfl⟩:=h;exact .one (by rw [aa];rfl) (by rw [aa];rfl)
   ·simp only [Option.map_eq_some_iff,Prod.mk.injEq] at h;obtain ⟨z,bl,rfl,rfl⟩:=h;exact .nil H
   grind
  grind
 | fb b g=>
  cases t<;>simp only [dX,aq.none,aq.bN,aq.eZ,reduceCtorEq] at h;split at h
  ·split at h
   ·rename_i aa;simp only [Option.map_eq_some_iff,Prod.mk.injEq] at h;obtain ⟨z,bl,rfl,rfl⟩:=h;exact .one (by rw [aa];rfl) (by rw [aa];rfl)
   ·simp only [Option.map_eq_some_iff,Prod.mk.injEq] at h;obtain ⟨z,bl,rfl,rfl⟩:=h;exact .nil H
   grind
  grind
 | iu k n c=>
  cases t<;>simp only [dX,aq.none,aq.bN,reduceCtorEq] at h;split at h
  ·cases h;exact .nil H
  ·cases h
 | _=>cases h
theorem Rr {H:Nat->bL} {e:ad} (gf:∀ {cs:List aI} {x:e.ai} {l:List Nat} {r:List aI},(ie e cs).run H=some (x,l,r)->gF H l) {av:aI} {x:Option e.ai} {l:List Nat}
  (h:(td e (ie e) av).run H=some (x,l)):gF H l:=by
 have cm:(dX (.bI e) av).run H=some (x,l)->gF H l:=rR (t:=.bI e);cases av with
 | a1 b g off=>
  simp only [td,aq.eZ] at h;split at h
  ·split at h
   ·simp only [aq.bN,Option.map_eq_some_iff,Prod.mk.injEq] at h;obtain ⟨z,bl,rfl,rfl⟩:=h;exact .nil H
   ·rename_i t f aa;split at h
    ·rename_i aL;subst aL;simp only [aq.e0,Option.bind_eq_some_iff,aq.bN] at h;obtain ⟨⟨y,m,q⟩,G,V⟩:=h;split at V
     ·rename_i br;simp only [Option.some.injEq,Prod.mk.injEq] at V;obtain ⟨rfl,rfl⟩:=V;have br:q=[]:=List.isEmpty_iff.1 br;subst br;intro c hc;rcases List.mem_cons.1 hc with rfl | hc
      ·refine ⟨by rw [aa];rfl,λcU iy e=>?_⟩;grind
      ·obtain ⟨aU,aX⟩:=gf G c hc;grind
     grind
    ·cases h
   ·cases h
  ·cases h
 | _=>exact cm h
theorem Rs {H:Nat->bL}:∀ (t:ad) {cs:List aI} {x:t.ai} {l:List Nat} {r:List aI},(ie t cs).run H=some (x,l,r)->gF H l:=by
 have p0:∀ (t:ad) (g:aI->aq (Option (t.ai×List Nat))),(∀ {av:aI} {x:t.ai} {l:List Nat},(g av).run H=some (x,l)->gF H l)->
   ∀ {cs:List aI} {x:t.ai} {l:List Nat} {r:List aI},(match cs with | c::r=>(g c).map λo=>o.map λ(x,l)=>(x,l,r) | []=>.none:aq (Option (t.ai×List Nat×List aI))).run H=some (x,l,r)->gF H l:=by
  intro t g aC cs x l r h;cases cs with
  | nil=>cases h
  | cons c cs=>
   simp only [aq.map,aq.run_bind,aq.bN,Option.map_eq_some_iff,Prod.mk.injEq] at h;grind
 intro t;induction t with
 | bool=>intro cs x l r h;exact p0 .bool (dX .bool) rR h
 | int k=>intro cs x l r h;exact p0 (.int k) (dX (.int k)) rR h
 | str=>intro cs x l r h;exact p0 .str (dX .str) rR h
 | cQ=>
  intro cs x l r h;simp only [ie,aq.bN,Option.some.injEq,Prod.mk.injEq] at h;obtain ⟨_,rfl,rfl⟩:=h;exact .nil H
 | st t aM=>intro cs x l r h;exact aM h
 | aA a b fv eJ=>
  intro cs x l r h;simp only [ie,aq.e0,Option.bind_eq_some_iff,aq.bN,Option.some.injEq,Prod.mk.injEq] at h;obtain ⟨⟨y,m,q⟩,G,⟨z,dw,q'⟩,V,rfl,rfl,rfl⟩:=h;exact (fv G).append (eJ V)
 | slice e aM=>intro cs x l r h;exact p0 (.slice e) (dX (.slice e)) rR h
 | array n e aM=>
  intro cs xs l r h;simp only [ie] at h;have key:∀ (n:Nat) {cs:List aI} {xs:List e.ai} {l:List Nat} {r:List aI},(n.rec (motive:=λ_=>List aI->aq (Option (List e.ai×List Nat×List aI))) (λcs=>.ret (some ([],[],cs)))
     (λ_ aM cs=>(ie e cs).cN λ(x,l,r)=>(aM r).cN λ(xs,m,q)=>.ret (some (x::xs,l++m,q))) cs).run H=some (xs,l,r)->gF H l:=by
   intro n;induction n with
   | zero=>intro cs xs l r h;cases h;exact .nil H
   | succ n By=>
    intro cs xs l r h;simp only [aq.e0,Option.bind_eq_some_iff,aq.bN,Option.some.injEq,Prod.mk.injEq] at h;obtain ⟨⟨y,m,q⟩,G,⟨z,dw,q'⟩,V,rfl,rfl,rfl⟩:=h;exact (aM G).append (By V)
  grind
 | bI e aM=>intro cs x l r h;exact p0 (.bI e) (td e (ie e)) (Rr aM) h
 | map k v wo wq=>intro cs x l r h;exact p0 (.map k v) (dX (.map k v)) rR h
 | fn a b fv eJ=>intro cs x l r h;exact p0 (.fn a b) (dX (.fn a b)) rR h
 | cq a aM=>intro cs x l r h;exact p0 (.cq a) (dX (.cq a)) rR h
 | ej=>intro cs x l r h;exact p0 .ej (dX .ej) rR h
theorem mI {H:Nat->bL} {t:ad} {av:aI} {x:t.ai} {l:List Nat} (h:(dA t av).run H=some (x,l)):gF H l:=by
 have cm:(km t av).run H=some (x,l)->gF H l:=by
  intro h;unfold km at h;split at h
  ·exact Rr (λh=>Rs _ h) h
  ·split at h
   ·exact rR h
   ·cases h
 cases av with
 | val cU y=>
  simp only [dA,aq.bN,Option.map_eq_some_iff,Prod.mk.injEq] at h;obtain ⟨z,bl,rfl,rfl⟩:=h;exact .nil H
 | agg n f=>
  simp only [dA] at h;split at h
  ·cases h
  ·simp only [aq.e0,Option.bind_eq_some_iff,aq.bN] at h;obtain ⟨⟨y,m,q⟩,G,V⟩:=h;split at V
   ·simp only [Option.some.injEq,Prod.mk.injEq] at V;obtain ⟨rfl,rfl⟩:=V;exact Rs t G
   grind
 | _=>exact cm h
theorem yX (H:Nat->bL) (x:bL):ff H x=x\/(∃ e xs,x.body=.bj e xs/\ff H x=⟨x.gen,.hA e xs⟩)\/(∃ k v es,x.body=.mp k v es/\ff H x=⟨x.gen,.iQ k v es⟩)\/
  ∃ t f y m,x.body=.cells t f/\(ie t ((List.range t.size).map f)).run H=some (y,m,[])/\ff H x=⟨x.gen,.gD t y⟩:=by
 cases aj:x.body with
 | bj e xs=>exact .inr (.inl ⟨e,xs,rfl,by simp [ff,aj]⟩)
 | mp k v es=>exact .inr (.inr (.inl ⟨k,v,es,rfl,by simp [ff,aj]⟩))
 | cells t f=>
  cases aC:(ie t ((List.range t.size).map f)).run H with
  | none=>exact .inl (by simp [ff,aj,aC])
  | some z=>
   obtain ⟨y,m,r⟩:=z;cases r with
   | nil=>exact .inr (.inr (.inr ⟨t,f,y,m,rfl,aC,by simp [ff,aj,aC]⟩))
   | cons c r=>exact .inl (by simp [ff,aj,aC])
 | _=>exact .inl (by simp [ff,aj])
theorem acI {H:Nat->bL} {x:bL} {k:bD} (h:(ff H x).body.b1 k=true):(x.body.b1 k=true/\ff H x=x):=by
 rcases yX H x with e | ⟨_,_,_,e⟩ | ⟨_,_,_,_,e⟩ | ⟨_,_,_,_,_,_,e⟩
 ·grind
 all_goals rw [e] at h;cases h
theorem Rt (s:aB) (l:List Nat) (κ:Nat->bD):fm s.ab κ (s.cy l).ab κ:=by
 rw [Bs];intro b;simp only [aB.cy];split
 ·rcases yX s.ab (s.ab b) with e | ⟨_,_,aj,e⟩ | ⟨_,_,_,aj,e⟩ | ⟨_,_,_,_,aj,_,e⟩
  ·rw [e];exact pX.refl _ _
  ·rw [e];exact ⟨Nat.le_refl _,λ_=>⟨λh=>(by cases h),λ_=>⟨by rw [aj];rfl,rfl,by rw [aj];rfl,by rw [aj];rfl⟩,λh=>(by cases h),λh=>(by cases h)⟩⟩
  ·rw [e];exact ⟨Nat.le_refl _,λ_=>⟨λh=>(by cases h),λh=>(by cases h),λ_=>⟨by rw [aj];rfl,rfl⟩,λh=>(by cases h)⟩⟩
  ·rw [e];exact ⟨Nat.le_refl _,λ_=>⟨λ_=>⟨by rw [aj];rfl,rfl⟩,λh=>(by cases h),λh=>(by cases h),λh=>(by cases h)⟩⟩
 ·exact pX.refl _ _
theorem bm.k6 {C:b8} {a:Act} {w:World} {κ:Nat->bD} {l:List Nat} {s:aB} {F:Nat->Prop} (lF:gF s.ab l) (h:bm C s a w κ F) :
  ∃ F',(∀ r,F r->F' r)/\bm C (s.cy l) a w κ F'/\iR s.ab κ F' l:=by
 let F':Nat->Prop:=λr=>F r\/∃ b∈l,(s.ab b).body.b1 (κ b)=true/\(κ b).ab=r;have bo:∀ r,F r->F' r:=λr U=>.inl U;have tl:iR s.ab κ F' l:=λb aa ag=>.inr ⟨b,aa,ag,rfl⟩;have JX:∀ b,((s.cy l).ab b).body.b1 (κ b)=true->b ∉ l/\(s.ab b).body.b1 (κ b)=true:=by
  intro b aa;simp only [aB.cy] at aa;by_cases iz:b∈l
  ·rw [if_pos iz] at aa;obtain ⟨aU,aX⟩:=acI aa;exfalso;obtain ⟨bF,c2⟩:=lF b iz;cases aj:(s.ab b).body with
   | bj e xs=>simp [ff,aj,bQ.b1] at aa
   | mp k v es=>simp [ff,aj,bQ.b1] at aa
   | cells t f=>
    obtain ⟨y,m,g,_⟩:=c2 t f aj;simp [ff,aj,g,bQ.b1] at aa
   | cq k v c r=>rw [aj] at bF;cases bF
   | f' e xs i v=>rw [aj] at bF;cases bF
   | _=>rw [aj] at aU;cases aU
  grind
 have ak:=Rt s l κ;refine ⟨F',bo,?_,tl⟩;refine h.move ak bo (λr U=>U.imp id λ⟨b,_,G,V⟩=>.inl ⟨b,G,V⟩) (Nat.le_refl _) (λ_ _ _=>rfl) (da.refl _) (λ_ b=>?_) (λb aa=>?_) (λb bf aa dh e=>h.inj b bf (JX b aa).2 (JX bf dh).2 e) (λr U=>?_) (λb _ aa=>⟨rfl,?_⟩)
 ·show cB C.P (s.cy l).ab κ F' w b;by_cases iz:b∈l
  ·have aT:=h.bE b;have JY:(s.cy l).ab b=ff s.ab (s.ab b):=by simp [aB.cy,iz]
   have k3:ff s.ab (s.ab b)=s.ab b->cB C.P (s.cy l).ab κ F' w b:=λe=>cB.k3 aT ak bo (cZ.refl _ _) (by grind) rfl λ_=>rfl;cases aj:(s.ab b).body with
   | bj e xs=>
    unfold cB at aT ⊢;rw [aj] at aT;rw [JY];simp only [ff,aj,jz];exact JD aT bo λaD=>tl b iz (by rw [aj];simp [bQ.b1,aD])
   | mp k v es=>
    unfold cB at aT ⊢;rw [aj] at aT;rw [JY];simp only [ff,aj,jz];exact Q0 aT bo (tl b iz (by rw [aj];rfl))
   | cells t f=>
    obtain ⟨y,m,g,hm⟩:=(lF b iz).2 t f aj;unfold cB at aT ⊢;rw [aj] at aT;rw [JY];simp only [ff,aj,g,jz];obtain ⟨cs,T,aU,aX,bP⟩:=aT;have iw:ev C.P s.ab κ F w ((List.range t.size).map f) cs.toList:=Bx (by omega) λi M=>by
     simp_all
    obtain ⟨c,d,JF,bF,c2⟩:=JG h.bE bo t g (λc hc=>tl c (hm c hc)) iw;cases d with
    | cons _ _=>exact c2.elim
    | nil=>
     rw [List.append_nil] at JF;refine ⟨c,⟨tl b iz (by rw [aj];rfl),rfl,λj aH=>?_⟩,bF⟩;have fM:j<cs.size:=by grind
     simp only [World.cell?,aU,Nat.zero_add,Option.isSome_none,Bool.false_eq_true,if_false,Array.getElem?_eq_getElem fM];grind
   | _=>exact k3 (by simp [ff,aj])
  ·exact cB.k3 (h.bE b) ak bo (cZ.refl _ _) (by simp [aB.cy,iz]) rfl λ_=>rfl
 ·obtain ⟨aU,aX⟩:=JX b aa;have ag:=h.an b aX;refine ⟨ag.1,λaw=>?_,.inl ⟨b,aX,rfl⟩⟩;rcases aw with aw | ⟨b0,m1,m2,m3⟩
  ·grind
  ·exact aU (h.inj b b0 aX m2 m3.symm ▸ m1)
 ·rcases U with U | ⟨b,_,aa,rfl⟩
  ·exact h.c_ r U
  ·exact (h.an b aa).1
 ·split at aa
  ·rcases yX s.ab (s.ab b) with e | ⟨_,_,aj,e⟩ | ⟨_,_,_,aj,e⟩ | ⟨_,_,_,_,aj,_,e⟩
   ·grind
   ·rw [e] at aa;simp [bQ.fC,bQ.gQ] at aa
   ·rw [aj];exact .inr rfl
   ·rw [aj];exact .inl rfl
  omega
end Go.Fer
namespace Go.Fer
open Go.RowKit
section
variable {C:b8} {T:Nat->ad} {bg:Nat->Option aO} {o:Oper} {s:aB} {res:ey}
theorem bm.hd {a:Act} {w:World} {κ:Nat->bD} {F:Nat->Prop} (h:bm C s a w κ F) {b:Nat} (aa:b<C.nt):b<eP:=Nat.lt_of_lt_of_le aa h.ga
theorem bm.newVar {a:Act} {w:World} {κ:Nat->bD} {F:Nat->Prop} (h:bm C s a w κ F) {b:Nat} (Bv:b<eP) {t:ad} {l:List aI} {cs:List Value} {ty:TypeId} (ak:ev C.P s.ab κ F w l cs) (aL:l.length=t.size) :
  ∃ κ',bm C (s.cw b ⟨(s.ab b).gen+1,.cells t (hb l)⟩) a (w.alloc (.cells cs.toArray ty)) κ' F/\(κ' b).ab=w.heap.size:=by
 refine ⟨_,h.alloc (k:=⟨w.heap.size,0,0,false⟩) Bv (Nat.lt_succ_self _) rfl λH κ' mJ Bu ch=>?_,by simp⟩;refine ⟨cs.toArray,ty,pY _ _,by simp [<-ak.len,aL],λi M=>?_⟩;have:=ak.kI i (by omega);have e:cs.toArray.getD i Go.undef=cs.getD i Go.undef:=by simp
 rw [e];exact ⟨bA.later ch (λ_ U=>U) (cZ.alloc h.c_ _) this.1,this.2⟩
theorem BR (t:ad) {P:Program} {z:Value} (h:j2 t z.cells.toList=some []):(rL t).length=t.size/\z.cells.size=t.size:=by
 obtain ⟨c,e,G,V⟩:=uL (P:=P) (H:=λ_=>⟨0,.fw⟩) (κ:=λ_=>⟨0,0,0,true⟩) (F:=λ_=>True) (w:=default) t h;rw [List.append_nil] at e;have:=hM t G;have:=V.len;grind
theorem acJ (aV:dT C.P T) {ty:TypeId} (bh:∀ i,o.dst=some i->i<C.nt) (ag:o.op=.alloc ty) (h:(bt C.aP T bg (a_ C.aP s.az) o).run s.ab=some res) (p3:T ty≠.cQ):cE C o s res:=by
 simp only [bt,ag] at h;obtain ⟨b,ay,ao⟩:=qN h;simp only [if_neg p3,Option.some.injEq] at ao;subst ao;intro a w κ F Q U _ _;have dk:=aV.b_ rfl p3;obtain ⟨i,z,G,V,ah,a7,bM,dr⟩:=ko dk.kn;obtain ⟨c,e,og,z2⟩:=uL (P:=C.P) (H:=s.ab) (κ:=κ) (F:=F) (w:=w) (T ty) bM;rw [List.append_nil] at e;have bl:=BR (T ty) (P:=C.P) bM;obtain ⟨κ',cf,cF⟩:=U.newVar (b:=b) (U.hd (bh b ay)) (t:=T ty) (ty:=ty) z2 bl.1;have c1:(execOp a.eval o).run C.P w=.ok (.value (.pointer (some ⟨w.heap.size,0,none⟩))) (w.alloc (.cells c.toArray ty)):=by
  have yY:z.cells=c.toArray:=by grind
  simp [execOp,ag,Instr.alloc,qL G a7,newVar,newRow,yY]
 refine hr (by grind) c1 ⟨κ',F,bm.set (s:=s.cw b _) cf bh ⟨⟨?_,rfl⟩,λ_ _=>?_⟩⟩
 ·simp [aB.cw]
 grind
theorem JZ {P:Program} {H:Nat->bL} {κ:Nat->bD} {F:Nat->Prop} {w:World} {t:ad} {av:aI} {v:Value} {l:List aI} (h:cellsOf t av=some l) (af:bA P H κ F w av v):ev P H κ F w l v.cells.toList:=by
 unfold cellsOf at h;split at h
 ·rename_i cU x;split at h
  ·rename_i he;subst he;simp only [Option.some.injEq] at h;subst h;obtain ⟨⟨cs,rfl,_⟩,hc⟩:=af;simp only [bK] at hc;exact yJ _ hc
  grind
 ·rename_i n f;split at h
  ·simp only [Option.some.injEq] at h;subst h;obtain ⟨aE,rfl,G,V⟩:=af;exact Bx G V
  grind
 ·rename_i n e iT a8 x;split at h
  ·simp only [Option.some.injEq] at h;subst h;obtain ⟨⟨cs,rfl,_⟩,hc⟩:=af;exact yJ _ hc
  grind
 ·rename_i n e m f;split at h
  ·simp only [Option.some.injEq] at h;subst h;obtain ⟨aE,rfl,G,V⟩:=af;exact Bx G V
  grind
 ·split at h
  ·have one:v.oneCell'=true->l=[av]->ev P H κ F w l v.cells.toList:=by
    intro G V;subst V;rw [EO G];exact ⟨⟨af,G⟩,trivial⟩
   split at h
   ·rename_i cU x;split at h
    ·rename_i yU;obtain ⟨aU,aX⟩:=(dV yU).1 af;exact one (JA yU aX) (Option.some.inj h).symm
    grind
   ·exact one af.1.2 (Option.some.inj h).symm
   ·exact one af.1.2 (Option.some.inj h).symm
   ·exact one af.1.2 (Option.some.inj h).symm
   ·refine one ?_ (Option.some.inj h).symm;obtain ⟨p,bk,rfl,_⟩:=af;rfl
   ·exact one af.1.2 (Option.some.inj h).symm
   ·refine one ?_ (Option.some.inj h).symm;obtain ⟨aE,rfl,_⟩:=af;rfl
   ·refine one ?_ (Option.some.inj h).symm;simp only [bA] at af;subst af;rfl
   ·exact one af.1.2 (Option.some.inj h).symm
   ·cases h
   ·cases h
   ·refine one ?_ (Option.some.inj h).symm;simp only [bA] at af;subst af;cases v<;>first | rfl | grind | grind | grind | grind
   grind
  grind
end
end Go.Fer
namespace Go.Fer
open Go.RowKit
theorem E_:∀ (l:List Value) (k off:Nat) (cs:Array Value),off+k+l.length<=cs.size->
  ((l.zipIdx k).foldl (λ(cs:Array Value) (p:Value×Nat)=>cs.setIfInBounds (off+p.2) p.1) cs).toList=cs.toList.take (off+k)++(l++cs.toList.drop (off+k+l.length))
 | [],k,off,cs,h=>by simp
 | c::l,k,off,cs,h=>by
  simp only [List.zipIdx_cons,List.foldl_cons];have cb:(cs.setIfInBounds (off+k) c).size=cs.size:=by simp
  rw [E_ l (k+1) off _ (by grind)];simp only [Array.toList_setIfInBounds,List.length_cons] at h ⊢;have ch:off+k<cs.toList.length:=by grind
  rw [show off+(k+1)=(off+k)+1 from by omega];rw [List.take_set,List.drop_set];rw [if_pos (by omega)];have G:(cs.toList.take (off+k+1)).set (off+k) c=cs.toList.take (off+k)++[c]:=by
   rw [List.take_succ_eq_append_getElem ch,List.set_append_right _ _ (by grind)];have BS:min (off+k) cs.size=off+k:=Nat.min_eq_left (by omega);simp [BS]
  grind
section
variable {P:Program} {w:World}
theorem acK (w:World) (b off:Nat) (v:Value) {cs:Array Value} {T:TypeId} {ff:Nat×Nat} (h:w.heap[b]?=some (.cells cs T ff)) :
  (w.setCell ⟨b,off,none⟩ v).heap[b]?=some (.cells (cs.setIfInBounds off v) T ff):=by
 simp [World.setCell,Array.getElem?_modify,h]
theorem uR {b:Nat} {T:TypeId}:∀ (aE:List Value) (off i:Nat) (w:World) (cs:Array Value),w.heap[b]?=some (.cells cs T (0,0))->off+i+aE.length<=cs.size->(∀ v∈aE,v.oneCell'=true)->
  ∃ w' dc,(storeCells ⟨b,off,none⟩ aE i).run P w=.ok () w'/\w'.heap[b]?=some (.cells dc T (0,0))/\dc.toList=cs.toList.take (off+i)++(aE++cs.toList.drop (off+i+aE.length))/\
   (∀ r,r≠b->w'.heap[r]?=w.heap[r]?)/\w'.heap.size=w.heap.size/\da w w'
 | [],off,i,w,cs,h,_,_=>⟨w,cs,by rfl,h,by simp,λ_ _=>rfl,rfl,da.refl w⟩
 | v::aE,off,i,w,cs,h,ak,af=>by
  have ch:off+i<cs.size:=by grind
  have hc:w.cell? ⟨b,off+i,none⟩=some cs[off+i]:=by rw [uQ h];simp
  have aw:w.frozen? ⟨b,off+i,none⟩=false:=by simp [World.frozen?,h]
  have G:=acK w b (off+i) v h;obtain ⟨w',dc,cf,cF,ep,lG,lH,l'⟩:=uR aE off (i+1) (w.setCell ⟨b,off+i,none⟩ v) _ G (by grind) (λu hu=>af u (by grind));refine ⟨w',dc,?_,cF,?_,?_,by simp_all,da.trans (b:=w.setCell ⟨b,off+i,none⟩ v) ⟨rfl,rfl,rfl⟩ l'⟩
  ·simp only [storeCells,Sem.run_bind,uO,run_store P w _ v _ (af v (by simp)),hc,aw,Bool.false_eq_true,if_false,Result.andThen_ok];exact cf
  ·rw [ep];have:=E_ [v] 0 (off+i) cs (by grind);simp only [List.zipIdx_cons,List.zipIdx_nil,List.foldl_cons,List.foldl_nil,Nat.add_zero,List.length_singleton] at this;rw [this];have aF:(cs.toList.take (off+i)).length=off+i:=by grind
   rw [List.take_append,List.drop_append,aF];simp only [show off+(i+1) - (off+i)=1 from by omega,show off+(i+1)+aE.length - (off+i)=aE.length+1 from by omega];have bB:List.take (off+(i+1)) (cs.toList.take (off+i))=cs.toList.take (off+i):=List.take_of_length_le (by omega);have di:List.drop (off+(i+1)+aE.length) (cs.toList.take (off+i))=[]:=List.drop_of_length_le (by omega);rw [bB,di];simp only [List.length_cons,List.nil_append,List.append_assoc,List.cons_append];simp only [List.take_succ_cons,List.take_zero,List.drop_succ_cons,List.drop_drop,List.cons_append,List.nil_append];grind
  ·intro r U;rw [lG r U];exact Below.heap_setCell _ _ _ _ (by omega)
end
section
variable {C:b8} {T:Nat->ad} {bg:Nat->Option aO} {o:Oper} {s:aB} {res:ey}
theorem acL {ty:TypeId} {x:Operand} (bh:∀ i,o.dst=some i->i<C.nt) (ag:o.op=.box ty x) (h:(bt C.aP T bg (a_ C.aP s.az) o).run s.ab=some res):cE C o s res:=by
 simp only [bt,ag] at h;split at h
 ·rename_i l ak;obtain ⟨b,ay,ao⟩:=qN h;split at ao;case isFalse=>cases ao
  rename_i hlen;simp only [Option.some.injEq] at ao;subst ao;intro a w κ F Q U be _;have af:=cK U x rfl be;obtain ⟨κ',cf,cF⟩:=U.newVar (b:=b) (U.hd (bh b ay)) (t:=T ty) (ty:=ty) (JZ ak af) hlen;have c1:(execOp a.eval o).run C.P w=.ok (.value (.pointer (some ⟨w.heap.size,0,none⟩))) (w.alloc (.cells (a.eval x).cells.toList.toArray ty)):=by
   simp [execOp,ag,Instr.box,newVar,newRow]
  refine hr (by grind) c1 ⟨κ',F,bm.set (s:=s.cw b _) cf bh ⟨⟨?_,rfl⟩,λ_ _=>?_⟩⟩
  ·simp [aB.cw]
  grind
 ·cases h
theorem acM {P:Program}:∀ (t:ad) {l:List Field} {off:Nat},cC P t (.inr (l,off))=true->∀ f∈l,∃ s,b7 P s f.type:=by
 intro t;induction t with
 | aA a b fv eJ=>
  intro l off h;match l,h with
  | [],h=>simp
  | [x],h=>simp only [cC,Bool.false_eq_true] at h
  | [x,y],h=>
   simp only [cC,Bool.and_eq_true] at h;intro f aw;simp only [List.mem_cons,List.not_mem_nil,or_false] at aw;rcases aw with rfl | rfl
   ·exact ⟨a,h.1.1.1.2⟩
   ·exact ⟨b,h.2.1.1.2⟩
  | x::y::z::l,h=>
   simp only [cC,Bool.and_eq_true] at h;intro f aw;rcases List.mem_cons.1 aw with rfl | aw
   ·exact ⟨a,h.1.1.1.2⟩
   grind
 | _=>intro l off h;simp only [cC,Bool.false_eq_true] at h
theorem b7.acN {P:Program} {t:ad} {id:TypeId} (h:b7 P (.st t) id) {eS:Array Field} (je:P.underlying id=some (.struct eS)):∀ f∈eS.toList,∃ s,b7 P s f.type:=by
 obtain ⟨_,_,ah,a7⟩:=h.BI;rw [je] at a7;simp only [Option.some.injEq,TypeDesc.struct.injEq] at a7;rw [<-a7] at ah;rcases ah with ah | ⟨f,e,_,ah,_⟩ | ⟨_,e⟩
 ·exact acM t ah
 ·rw [e];intro g aC;simp only [List.mem_singleton] at aC;subst aC;exact ⟨t,ah⟩
 ·rw [e];intro g aC;cases aC
theorem ev.replace {P:Program} {H:Nat->bL} {κ:Nat->bD} {F:Nat->Prop} {w:World} {as l:List aI} {us aE:List Value} (h:ev P H κ F w as us) (k:ev P H κ F w l aE) (off:Nat) :
  ev P H κ F w (as.take off++(l++as.drop (off+l.length))) (us.take off++(aE++us.drop (off+aE.length))):=by
 have BT:∀ {as:List aI} {us:List Value} (n:Nat),ev P H κ F w as us->ev P H κ F w (as.take n) (us.take n):=by
  intro as;induction as with
  | nil=>intro us n h;cases us<;>first | exact h.elim | grind
  | cons a as aM=>intro us n h;cases us with
   | nil=>exact h.elim
   | cons u us=>cases n with
    | zero=>trivial
    | succ n=>exact ⟨h.1,aM n h.2⟩
 have acO:∀ {as:List aI} {us:List Value} (n:Nat),ev P H κ F w as us->ev P H κ F w (as.drop n) (us.drop n):=by
  intro as;induction as with
  | nil=>intro us n h;cases us<;>first | exact h.elim | grind
  | cons a as aM=>intro us n h;cases us with
   | nil=>exact h.elim
   | cons u us=>cases n with
    | zero=>exact h
    | succ n=>exact aM n h.2
 rw [<-k.len];exact (BT off h).append (k.append (acO _ h))
theorem Ru {P:Program} {H:Nat->bL} {κ:Nat->bD} {F:Nat->Prop} {w:World} {t:ad} {id:TypeId} {eS:Array Field} (dk:b7 P (.st t) id) (je:P.underlying id=some (.struct eS)) {place:Nat->Option (Nat×Nat)}
  (rS:∀ i f s,eS[i]?=some f->b7 P s f.type->place i=some (f.offset,s.size)):∀ (ps:List (Nat×aI)) (qs:List (Nat×Value)) {as E':List aI} {cs:Array Value},ev P H κ F w as cs.toList->EX t as ps=some E'->
  ps.length=qs.length->(∀ i (h:i<ps.length) (ds:i<qs.length),ps[i].1=qs[i].1/\bA P H κ F w ps[i].2 qs[i].2)->∃ dc,Instr.fill place cs qs=some dc/\ev P H κ F w E' dc.toList
 | [],[],as,E',cs,ba,aw,_,_=>by cases aw;exact ⟨cs,rfl,ba⟩
 | (i,av)::ps,(k5,v)::qs,as,E',cs,ba,aw,hlen,fB=>by
  have aY:=fB 0 (by simp) (by simp);simp only [List.getElem_cons_zero] at aY;obtain ⟨rfl,af⟩:=aY;simp only [EX] at aw;split at aw
  ·cases aw
  ·rename_i s off tm;split at aw
   ·cases aw
   ·rename_i l ak;split at aw
    ·rename_i hc;obtain ⟨awm,nE,f1,f2,f3,f4,f5⟩:=dk.field tm;rw [je] at f1;simp only [Option.some.injEq,TypeDesc.struct.injEq] at f1;subst f1;have ar:=rS i nE s f2 f4;rw [f3] at ar;have iw:=JZ ak af;have cb:v.cells.size=s.size:=by have:=iw.len;grind
     have o5:as.length=cs.size:=by simpa using ba.len
     have Fa:=E_ v.cells.toList 0 off cs (by grind);have e:(v.cells.zipIdx.foldl (λ(cs:Array Value) (p:Value×Nat)=>cs.setIfInBounds (off+p.2) p.1) cs)=((v.cells.toList.zipIdx 0).foldl (λ(cs:Array Value) (p:Value×Nat)=>cs.setIfInBounds (off+p.2) p.1) cs):=by
      rw [<-Array.foldl_toList];simp
     have acP:=ba.replace iw off;rw [hc.1] at acP;obtain ⟨dc,aU,aX⟩:=Ru dk je rS ps qs (cs:=v.cells.zipIdx.foldl (λ(cs:Array Value) (p:Value×Nat)=>cs.setIfInBounds (off+p.2) p.1) cs) (by rw [e,Fa];omega) aw (by grind)
      (λj h ds=>by have:=fB (j+1) (by grind) (by grind);grind)
     refine ⟨dc,?_,aX⟩;simp only [Instr.fill,ar];grind
    grind
 | [],_::_,_,_,_,_,_,hlen,_=>by grind
 | _::_,[],_,_,_,_,_,hlen,_=>by grind
theorem Rv:∀ {l:List (Nat×aI)},rN l->∀ i (h:i<l.length),(use l[i].2).1
 | a::l,h,0,_=>by
  obtain ⟨n,a⟩:=a;cases a<;>first | trivial | exact h.1
 | a::l,h,i+1,M=>by
  have ds:rN l:=by obtain ⟨n,a⟩:=a;cases a<;>first | exact h | exact h.2
  have:=Rv ds i (by grind);grind
theorem J0 {a:Act} {w:World} {κ:Nat->bD} {F:Nat->Prop} (U:bm C s a w κ F) (ps:List (Nat×Operand)) (be:rN (ps.map λp=>(p.1,a_ C.aP s.az p.2))) :
  ∀ i (h:i<(ix (ps.map λp=>(p.1,a_ C.aP s.az p.2))).length) (ds:i<(ps.map λp=>(p.1,a.eval p.2)).length),(ix (ps.map λp=>(p.1,a_ C.aP s.az p.2)))[i].1=(ps.map λp=>(p.1,a.eval p.2))[i].1/\bA C.P s.ab κ F w (ix (ps.map λp=>(p.1,a_ C.aP s.az p.2)))[i].2 (ps.map λp=>(p.1,a.eval p.2))[i].2:=by
 intro i h ds;have M:i<ps.length:=by grind
 have G:=Rv be i (by grind);simp only [List.getElem_map] at G;refine ⟨by simp [ix],?_⟩;simp only [ix,List.getElem_map];exact o4 (j5 U _) G
theorem acQ (aV:dT C.P T) {ty:TypeId} {ps:Array (Nat×Operand)} (bh:∀ i,o.dst=some i->i<C.nt) (ag:o.op=.build ty ps) (Fb:∀ m e,T ty≠.array m e) (h:(bt C.aP T bg (a_ C.aP s.az) o).run s.ab=some res):cE C o s res:=by
 obtain ⟨ps⟩:=ps;simp only [bt,ag] at h;split at h
 ·rename_i t aL;have dk:=aV.b_ aL (by simp);split at h
  ·rename_i cs o5;simp only [bO,aq.bN,Option.some.injEq] at h;subst h;refine cE.pure (by grind) bh λa w κ F U be _=>?_;obtain ⟨eS,je⟩:=dk.st;obtain ⟨i,z,G,V,ah,a7,bM,dr⟩:=ko dk.kn;obtain ⟨c,e,og,z2⟩:=uL (P:=C.P) (H:=s.ab) (κ:=κ) (F:=F) (w:=w) (.st t) bM;rw [List.append_nil] at e;have acR:=dk.acN je;have hm:=ChangeMaps.mapM_total (f:=λ(f:Field)=>(C.P.info? f.type).map λi=>(f.offset,i.size)) (0,0) (l:=eS.toList) (λf aw=>by
    obtain ⟨s',rT⟩:=acR f aw;obtain ⟨k5,_,yZ,_⟩:=ko rT.kn;simp_all)
   have rS:=run_places (P:=C.P) w eS.toList _ hm;obtain ⟨dc,aU,aX⟩:=Ru (w:=w) dk je (place:=λj=>((eS.toList.map λf=>((C.P.info? f.type).map λi=>(f.offset,i.size)).getD (0,0)))[j]?)
    (λj f s' aH rT=>by
     obtain ⟨k5,_,yZ,wM,_⟩:=ko rT.kn;grind)
    _ _ (by rw [e];exact z2) o5 (by simp [ix]) (J0 U ps be)
   have hlen:cs.length=dc.size:=by simpa using aX.len
   refine ⟨.agg dc,?_,dc.toList,by simp,by grind,λj aH=>?_⟩
   ·have J1:(eS.mapM λf=>do pure (f.offset,<-sizeOf f.type):Sem (Array (Nat×Nat))).run C.P w=.ok (eS.toList.map λf=>((C.P.info? f.type).map λi=>(f.offset,i.size)).getD (0,0)).toArray w:=by
     rw [Array.mapM_eq_mapM_toList];simp [rS]
    simp only [execOp,ag,Instr.build,Sem.run_bind,qL G a7,Result.andThen_ok,dC je,J1];simp_all
   ·have:=aX.kI j aH;omega
  ·cases h
 ·rename_i aL;exact absurd aL (Fb _ _)
 ·cases h
end
end Go.Fer
namespace Go.Fer
open Go.RowKit
section
variable {C:b8} {T:Nat->ad} {bg:Nat->Option aO} {o:Oper} {s:aB} {res:ey}
theorem J2 {P:Program} {w w':World} {t:ad} {id:TypeId} (h:b7 P t id) {p:Addr} {v:Value} (cb:v.cells.size=t.size) (aG:(storeCells p v.cells.toList).run P w=.ok () w'):(storeVar id p v).run P w=.ok () w':=by
 simp [storeVar,h.size,cb,aG]
theorem acS (aV:dT C.P T) {ty:TypeId} {x y:Operand} (bh:o.dst=none) (ag:o.op=.store ty x y) (h:(bt C.aP T bg (a_ C.aP s.az) o).run s.ab=some res):cE C o s res:=by
 simp only [bt,ag] at h;split at h
 ·rename_i cA b g i aj;unfold JK at h;split at h
  ·rename_i bf g' aS;simp only [aq.eZ,aq.bN] at h;split at h
   ·rename_i e xs k5 v bS;split at h
    ·rename_i hc;obtain ⟨aC,ak⟩:=hc;simp only [Option.some.injEq] at h;subst h;intro a w κ F Q U be M;have M:i=k5:=M;subst M;have G:=(cK U x aj be.1).2 aC.symm (by rw [bS];rfl);have af:=cK U y (av:=.an bf g') (p:=(use (a_ C.aP s.az y)).1) (by rw [<-aS]) be.2;have aT:=U.bE b;unfold cB at aT;rw [bS] at aT G;obtain ⟨aY,cs,hR,bF,c2,c3,c4,c5,lE,oe,wK⟩:=aT;have dk:=aV.b_ (t:=T ty) rfl (by intro e;rw [e] at ak;cases ak);have tj:=EO af.1.2;have cb:(a.eval y).cells.size=(T ty).size:=by
      rw [tj];cases aL:T ty<;>simp_all [ad.eC,ad.size]
     have k7:(κ b).off+i<cs.size:=by
      have:i<(κ b).cap:=by omega
      rw [c5.1] at c2;omega
     have ar:a.eval x=.pointer (some ⟨(κ b).ab,(κ b).off+i,none⟩):=by rw [G.2.2];simp [bQ.eY,c5.1]
     obtain ⟨w',dc,cf,cF,ep,lG,lH,l'⟩:=uR (P:=C.P) (a.eval y).cells.toList ((κ b).off+i) 0 w cs bF (by rw [tj];simp;omega) (λu hu=>by rw [tj] at hu;simp at hu;rw [hu];exact af.1.2);refine E6 (w':=w') (by grind) (by simp [execOp,ag,ar,Instr.storeAt,Instr.sureAddr,J2 dk cb cf]) ?_;rw [bh];refine ⟨κ,F,?_⟩;have gh:fm s.ab κ (λq=>if q=b then (⟨(s.ab b).gen,.f' e xs i (.an bf g')⟩:bL) else s.ab q) κ:=
      qH rfl (λh=>by cases h) (λ_=>by rw [bS];exact ⟨rfl,rfl,rfl⟩) (λh=>by cases h) (λh=>by cases h)
     refine (U.o2 (b:=b) (x:=⟨(s.ab b).gen,.f' e xs i (.an bf g')⟩) (by rw [bS];simp [bQ.b1,aY]) (by simp [bQ.b1,aY]) gh (λh=>by cases h) (λh=>by cases h) lG lH l' λH mJ ch he=>?_);rw [tj] at ep;simp only [Nat.add_zero] at ep;have eT:∀ k,dc[k]?=if k=(κ b).off+i then some (a.eval y) else cs[k]?:=by
      intro k;rw [<-Array.getElem?_toList,ep];have kK:(cs.toList.take ((κ b).off+i)).length=(κ b).off+i:=by rw [List.length_take,Array.length_toList];omega
      rcases Nat.lt_trichotomy k ((κ b).off+i) with ao | ao | ao
      ·rw [if_neg (by omega),List.getElem?_append_left (by omega),List.getElem?_take_of_lt ao,Array.getElem?_toList]
      ·rw [if_pos ao,List.getElem?_append_right (by omega),kK,ao];simp
      ·rw [if_neg (by omega),List.getElem?_append_right (by omega),kK,List.getElem?_append_right (by simp;omega),List.getElem?_drop];simp only [List.length_cons,List.length_nil];rw [show (κ b).off+i+(0+1)+(k - ((κ b).off+i) - (0+1))=k from by omega,Array.getElem?_toList]
     have Fc:dc.size=cs.size:=by
      rw [<-Array.length_toList,ep];grind
     have y0:dc.getD ((κ b).off+i) Go.undef=a.eval y:=by
      rw [Array.getD_eq_getD_getElem?,eT];simp
     refine ⟨aY,dc,hR,cF,by omega,c3,c4,c5,λj aH qG=>?_,by rw [y0];exact bA.later ch (λ_ U=>U) he af,by rw [y0];exact af.1.2⟩;obtain ⟨bk,d1,d2⟩:=lE j aH qG;refine ⟨bk,λq br=>?_,e' e (λ_ U=>U) he d2⟩;have tn:q=0:=by have:=hM e d2;omega
     subst tn;rw [eT,if_neg (by rw [c5.1];omega)];exact d1 0 br
    ·cases h
   ·cases h
  ·cases h
 rename_i cA dZ acT aj;simp only [aq.e0,Option.bind_eq_some_iff,aq.bN,Option.some.injEq] at h;obtain ⟨wl,lI,rfl⟩:=h;have J3:cA=(use (a_ C.aP s.az x)).1:=by rw [aj]
 have Fe:dZ=(use (a_ C.aP s.az x)).2:=by rw [aj]
 subst J3;subst Fe;clear aj acT;intro a w κ F Q U be _;have ar:bA C.P s.ab κ F w (use (a_ C.aP s.az x)).2 (a.eval x):=cK U x rfl be.1;have af:bA C.P s.ab κ F w (use (a_ C.aP s.az y)).2 (a.eval y):=cK U y rfl be.2;generalize (use (a_ C.aP s.az x)).2=acU at *
 generalize (use (a_ C.aP s.az y)).2=kq at *
 have ay:∀ c,o.op≠.defer c:=by grind
 have fin:∀ w',(Instr.storeAt ty (a.eval x) (a.eval y)).run C.P w=.ok () w'->cu C (s.fU wl) a w'->o.wpIn (dS C.r) 0 C.P a w (λa' w'=>cu C (s.h5 o.dst ⟨(use (a_ C.aP s.az x)).1/\(use (a_ C.aP s.az y)).1,True,.undef,wl⟩) a' w') Q:=by
  intro w' G V;refine E6 (w':=w') ay (by simp [execOp,ag,G]) ?_;rw [bh];exact V
 unfold Q5 at lI;cases acU with
 | a1 b g off=>
  simp only [aq.eZ,aq.bN] at lI;split at lI
  ·rename_i aC;split at lI
   ·rename_i n f bS;simp only [Option.bind_eq_some_iff] at lI;obtain ⟨l,ak,lI⟩:=lI;split at lI
    ·rename_i hc;simp only [Option.some.injEq] at lI;subst lI;have acV:=ar.2 aC.symm (by rw [bS];rfl);have iw:=JZ ak af;have aT:=U.bE b;unfold cB at aT;rw [bS] at aT;obtain ⟨cs,hR,bF,c2,c3⟩:=aT;have hlen:=iw.len;have nH:∀ u∈(a.eval y).cells.toList,u.oneCell'=true:=by
      intro u hu;obtain ⟨i,M,rfl⟩:=List.mem_iff_getElem.1 hu;have:=(iw.kI i (by omega)).2;grind
     obtain ⟨w',dc,cf,cF,ep,lG,lH,l'⟩:=uR (P:=C.P) (a.eval y).cells.toList off 0 w cs bF (by omega) nH;have cb:(a.eval y).cells.size=(T ty).size:=by grind
     have uS:T ty≠.cQ:=by
      intro e;rw [e] at ak;cases kq<;>simp [cellsOf,ad.eC] at ak
     refine fin w' (by rw [acV];simp [Instr.storeAt,Instr.sureAddr,J2 (aV.b_ rfl uS) cb cf]) ⟨κ,F,?_⟩;have gh:fm s.ab κ (λi=>if i=b then (⟨(s.ab b).gen,.cells n (putCells f off l)⟩:bL) else s.ab i) κ:=
      qH rfl (λ_=>by rw [bS];rfl) (λh=>by cases h) (λh=>by cases h) (λh=>by cases h)
     refine (U.o2 (b:=b) (x:=⟨(s.ab b).gen,.cells n (putCells f off l)⟩) (by rw [bS];rfl) rfl gh (λ_=>by rw [bS];rfl) (λh=>by cases h) lG lH l' λH mJ ch he=>?_);have Fc:dc.size=n.size:=by
      rw [<-Array.length_toList,ep];grind
     refine ⟨dc,hR,cF,Fc,λi M=>?_⟩;have cX:dc.getD i Go.undef=dc.toList.getD i Go.undef:=by simp
     rw [cX,ep];have lJ:l.length=(a.eval y).cells.toList.length:=hlen;simp only [Nat.add_zero];have kK:(cs.toList.take off).length=off:=by grind
     unfold putCells;by_cases jg:off<=i/\i<off+l.length
     ·rw [if_pos jg];have aF:(cs.toList.take off++((a.eval y).cells.toList++cs.toList.drop (off+(a.eval y).cells.toList.length))).getD i Go.undef=(a.eval y).cells.toList.getD (i - off) Go.undef:=by
       grind
      rw [aF];have:=iw.kI (i - off) (by omega);exact ⟨bA.later ch (λ_ U=>U) he this.1,this.2⟩
     ·rw [if_neg jg];have aF:(cs.toList.take off++((a.eval y).cells.toList++cs.toList.drop (off+(a.eval y).cells.toList.length))).getD i Go.undef=cs.getD i Go.undef:=by
       rcases Nat.lt_or_ge i off with G | G
       ·rw [List.getD_eq_getElem?_getD,List.getElem?_append_left (by omega)];simp_all
       ·rw [List.getD_eq_getElem?_getD,List.getElem?_append_right (by omega),kK,List.getElem?_append_right (by omega),List.getElem?_drop];rw [show off+(a.eval y).cells.toList.length+(i - off - (a.eval y).cells.toList.length)=i from by omega];simp
      rw [aF];exact ⟨bA.later ch (λ_ U=>U) he (c3 i M).1,(c3 i M).2⟩
    grind
   grind
  grind
 | n' b g i off=>
  simp only [aq.e0,Option.bind_eq_some_iff,aq.run_bind,aq.eZ,aq.bN] at lI;obtain ⟨⟨z,l⟩,bl,lI⟩:=lI;split at lI
  ·rename_i aC;obtain ⟨aC,p4⟩:=aC;have p4:b ∉ l:=by grind
   split at lI
   ·rename_i e xs bS;simp only [Option.map_eq_some_iff] at lI;obtain ⟨ma,yY,rfl⟩:=lI;obtain ⟨jG,p5,mb⟩:=ar.2 aC.symm (by rw [bS];rfl);rw [bS] at jG mb;simp only [bQ.len,bQ.eY] at jG mb;obtain ⟨F',f1,bd,f2⟩:=bm.k6 (mI bl) U;have uT:=l9 U.bE f1 bl f2 af;have J4:((s.cy l).ab b)=s.ab b:=by simp [aB.cy,p4]
    have aT:=bd.bE b;unfold cB at aT;rw [J4,bS] at aT;obtain ⟨cs,hR,bF,c2,c3,c4,c5⟩:=aT.2 p5;obtain ⟨bk,d1,d2⟩:=c5 i jG;have JT:xs.getD i e.db=xs[i]:=by grind
    rw [JT] at yY;have uU:=hM e d2;obtain ⟨dx,dP,oh,br,awn,awo,acW⟩:=ab_ e d2 yY uT.2;have uS:T ty≠.cQ:=by
     intro a8;have:=uT.1;rw [a8] at this;exact this
    have wN:(a.eval y).cells.toList.length=(T ty).size:=uT.1.len;have BU:(i+1)*e.size<=(κ b).cap*e.size:=Nat.mul_le_mul_right _ (by omega);have hbound:off+(T ty).size<=e.size:=by
     grind
    have nH:∀ u∈(a.eval y).cells.toList,u.oneCell'=true:=by
     intro u hu;have iw:=yJ (P:=C.P) (H:=λ_=>⟨0,.fw⟩) (κ:=λ_=>⟨0,0,0,true⟩) (T ty) uT.2;obtain ⟨j,aH,rfl⟩:=List.mem_iff_getElem.1 hu;have:=(iw.kI j (by rw [iw.len];exact aH)).2;grind
    have k7:(κ b).off+i*e.size+off+0+(a.eval y).cells.toList.length<=cs.size:=by
     grind
    obtain ⟨w',dc,cf,cF,ep,lG,lH,l'⟩:=uR (P:=C.P) (a.eval y).cells.toList ((κ b).off+i*e.size+off) 0 w cs bF k7 nH;refine fin w' (by rw [mb];simp [Instr.storeAt,Instr.sureAddr,J2 (aV.b_ rfl uS) (by omega) cf]) ⟨κ,F',?_⟩;have o8:s.fU ((jD l).run s.ab++[(b,⟨(s.ab b).gen,.bj e (xs.set i ma)⟩)])=(s.cy l).cw b ⟨(s.ab b).gen,.bj e (xs.set i ma)⟩:=by
     rw [BQ,tk]
    rw [o8];have gh:fm (s.cy l).ab κ (λk5=>if k5=b then (⟨(s.ab b).gen,.bj e (xs.set i ma)⟩:bL) else (s.cy l).ab k5) κ:=
     qH (by grind) (λh=>by cases h) (λ_=>by rw [J4,bS];exact ⟨rfl,by simp [bQ.len],rfl⟩) (λh=>by cases h) (λh=>by cases h)
    have Rw:(κ b).e3=false:=p5;refine bd.o2 (b:=b) (x:=⟨(s.ab b).gen,.bj e (xs.set i ma)⟩) (by rw [J4,bS];simp [bQ.b1,Rw]) (by simp [bQ.b1,Rw]) gh (λh=>by cases h) (λh=>by cases h) lG lH l' λH mJ ch he=>?_;refine ⟨λaD=>(by grind),λ_=>?_⟩;have Fc:dc.size=cs.size:=by
     rw [<-Array.length_toList,ep];grind
    refine ⟨dc,hR,cF,by omega,by grind,c4,λj aH=>?_⟩;have fM:j<xs.length:=by grind
    simp only [Nat.add_zero] at ep k7;have eT:∀ k,dc[k]?=if (κ b).off+i*e.size+off<=k/\k<(κ b).off+i*e.size+off+(T ty).size then (a.eval y).cells.toList[k - ((κ b).off+i*e.size+off)]? else cs[k]?:=by
     intro k;rw [<-Array.getElem?_toList,ep];have kK:(cs.toList.take ((κ b).off+i*e.size+off)).length=(κ b).off+i*e.size+off:=by grind
     by_cases jg:(κ b).off+i*e.size+off<=k/\k<(κ b).off+i*e.size+off+(T ty).size
     ·rw [if_pos jg,List.getElem?_append_right (by omega),kK,List.getElem?_append_left (by omega)]
     ·rw [if_neg jg];rcases Nat.lt_or_ge k ((κ b).off+i*e.size+off) with G | G
      ·grind
      ·rw [List.getElem?_append_right (by omega),kK,List.getElem?_append_right (by omega),List.getElem?_drop];rw [show (κ b).off+i*e.size+off+(a.eval y).cells.toList.length+(k - ((κ b).off+i*e.size+off) - (a.eval y).cells.toList.length)=k from by omega];simp
    by_cases qG:j=i
    ·subst qG;have aF:(xs.set j ma)[j]=ma:=by simp
     rw [aF];refine ⟨dx++((a.eval y).cells.toList++oh),λk ao=>?_,e' e (λ_ U=>U) he acW⟩;rw [eT];subst br;simp only [List.length_append] at ao uU;by_cases jg:off<=k/\k<off+(T ty).size
     ·rw [if_pos (by omega)];rw [show (κ b).off+j*e.size+k - ((κ b).off+j*e.size+off)=k - dx.length from by omega];grind
     grind
    ·have aF:(xs.set i ma)[j]=xs[j]:=by grind
     rw [aF];obtain ⟨Rx,acX,J5⟩:=c5 j fM;refine ⟨Rx,λk ao=>?_,e' e (λ_ U=>U) he J5⟩;rw [eT,if_neg]
     ·grind
     ·have awp:=hM e J5;rcases Nat.lt_or_ge j i with G | G
      ·have:(j+1)*e.size<=i*e.size:=Nat.mul_le_mul_right _ (by omega);grind
      ·have:(i+1)*e.size<=j*e.size:=Nat.mul_le_mul_right _ (by omega);grind
   grind
  grind
 | _=>cases lI
end
end Go.Fer
