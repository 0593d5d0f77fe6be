/- Part 1 of the proof of FilesCopies: shallow programs of Go functions, and what they compute. No condition. -/
import Derived.Below
import Derived.OrdersIn
import Derived.RangeFuncCalls
import Derived.RangeFuncSeq
import Derived.Laws.StructEq
import Derived.Laws.Tables
import Derived.ChangeMaps3
noncomputable section
namespace Go.Fer
@[ext] structure M (α:Type):Type where
 safe:Prop
 out:α→Prop
namespace M
variable {α β γ σ ρ:Type}
def pure (x:α):M α:=⟨True,fun y=>y=x⟩
def bind (m:M α) (f:α→M β):M β:=⟨m.safe∧∀ x,m.out x→(f x).safe,fun y=>∃ x,m.out x∧(f x).out y⟩
def req (p:Prop) (m:M α):M α:=⟨p∧m.safe,m.out⟩
def det (p:Prop) (x:α):M α:=⟨p,fun y=>y=x⟩
def any (p:α→Prop):M α:=⟨∃ x,p x,p⟩
theorem ext' {m n:M α} (h1:m.safe↔n.safe) (h2:∀ x,m.out x↔n.out x):m=n:=by
 cases m;cases n
 simp only [M.mk.injEq]
 exact ⟨propext h1,funext fun x=>propext (h2 x)⟩
@[simp] theorem pure_safe (x:α):(pure x).safe=True:=rfl
@[simp] theorem pure_out (x y:α):(pure x).out y=(y=x):=rfl
@[simp] theorem bind_pure (x:α) (f:α→M β):bind (pure x) f=f x:=ext' (by simp [bind,pure]) (by simp [bind,pure])
@[simp] theorem bind_pure_right (m:M α):bind m pure=m:=ext' (by simp [bind,pure]) (by simp [bind,pure])
theorem req_true {p:Prop} (h:p) (m:M α):req p m=m:=ext' (by simp [req,h]) (by simp [req])
@[simp] theorem req_True (m:M α):req True m=m:=req_true trivial m
theorem bind_req (p:Prop) (m:M α) (f:α→M β):bind (req p m) f=req p (bind m f):=ext' (by simp [bind,req,and_assoc]) (by simp [bind,req])
@[simp] theorem det_True (x:α):det True x=pure x:=rfl
theorem det_true {p:Prop} (h:p) (x:α):det p x=pure x:=ext' (by simp [det,pure,h]) (by simp [det,pure])
theorem bind_det (p:Prop) (x:α) (f:α→M β):bind (det p x) f=req p (f x):=by
 apply ext'
 ·simp [bind,det,req]
 ·simp [bind,det,req]
theorem bind_ite {c:Prop} [Decidable c] (m n:M α) (f:α→M β):bind (if c then m else n) f=if c then bind m f else bind n f:=by split<;>rfl
def le (n m:M α):Prop:=m.safe→n.safe∧∀ y,n.out y→m.out y
theorem le_refl (m:M α):le m m:=fun h=>⟨h,fun _ h=>h⟩
theorem le_trans {a b c:M α} (h:le a b) (k:le b c):le a c:=fun hs=>⟨(h (k hs).1).1,fun y hy=>(k hs).2 y ((h (k hs).1).2 y hy)⟩
theorem le_of_eq {a b:M α} (h:a=b):le a b:=h ▸ le_refl a
def Ret (m:M α) (p:α→Prop):Prop:=m.safe∧∀ y,m.out y→p y
theorem Ret.mono {m:M α} {p q:α→Prop} (h:Ret m p) (k:∀ y,p y→q y):Ret m q:=⟨h.1,fun y hy=>k y (h.2 y hy)⟩
theorem ret_pure {x:α} {p:α→Prop}:Ret (pure x) p↔p x:=⟨fun h=>h.2 x rfl,fun h=>⟨trivial,fun _ e=>e ▸ h⟩⟩
theorem ret_bind {m:M α} {f:α→M β} {p:β→Prop}:Ret (bind m f) p↔Ret m fun x=>Ret (f x) p:=
 ⟨fun h=>⟨h.1.1,fun x hx=>⟨h.1.2 x hx,fun y hy=>h.2 y ⟨x,hx,hy⟩⟩⟩,fun h=>⟨⟨h.1,fun x hx=>(h.2 x hx).1⟩,fun y ⟨x,hx,hy⟩=>(h.2 x hx).2 y hy⟩⟩
theorem ret_req {q:Prop} {m:M α} {p:α→Prop}:Ret (req q m) p↔q∧Ret m p:=by
 simp [Ret,req,and_assoc]
inductive Step (σ ρ:Type) where
 | next (s:σ)
 | done (r:ρ)
inductive LoopSafe (body:σ→M (Step σ ρ)):σ→Prop where
 | mk (s:σ) (h:(body s).safe) (k:∀ s',(body s).out (.next s')→LoopSafe body s'):LoopSafe body s
inductive LoopOut (body:σ→M (Step σ ρ)):σ→ρ→Prop where
 | done (s:σ) (r:ρ) (h:(body s).out (.done r)):LoopOut body s r
 | next (s s':σ) (r:ρ) (h:(body s).out (.next s')) (k:LoopOut body s' r):LoopOut body s r
def loop (body:σ→M (Step σ ρ)) (s:σ):M ρ:=⟨LoopSafe body s,LoopOut body s⟩
theorem loop_unfold (body:σ→M (Step σ ρ)) (s:σ) :
  loop body s=bind (body s) fun | .next s'=>loop body s' | .done r=>pure r:=by
 apply ext'
 ·constructor
  ·rintro ⟨_,h,k⟩
   refine ⟨h,fun x hx=>?_⟩
   cases x with
   | next s'=>exact k s' hx
   | done r=>trivial
  ·rintro ⟨h,k⟩
   exact ⟨s,h,fun s' hs=>k _ hs⟩
 ·intro r
  constructor
  ·rintro (⟨_,_,h⟩ | ⟨_,s',_,h,k⟩)
   ·exact ⟨.done r,h,rfl⟩
   ·exact ⟨.next s',h,k⟩
  ·rintro ⟨x,hx,hr⟩
   cases x with
   | next s'=>exact .next s s' r hx hr
   | done r'=>cases hr;exact .done s _ hx
theorem loop_next {body:σ→M (Step σ ρ)} {s s':σ} (h:body s=pure (.next s')):loop body s=loop body s':=by
 rw [loop_unfold,h,bind_pure]
theorem loop_done {body:σ→M (Step σ ρ)} {s:σ} {r:ρ} (h:body s=pure (.done r)):loop body s=pure r:=by
 rw [loop_unfold,h,bind_pure]
theorem ret_loop {body:σ→M (Step σ ρ)} {p:ρ→Prop} (I:σ→Prop) (μ:σ→Nat)
  (round:∀ s,I s→Ret (body s) fun | .next s'=>I s'∧μ s'<μ s | .done r=>p r) (s:σ) (h:I s):Ret (loop body s) p:=by
 have key:∀ n s,μ s=n→I s→Ret (loop body s) p:=by
  intro n
  induction n using Nat.strongRecOn with
  | _ n ih=>
   intro s hn hs
   rw [loop_unfold,ret_bind]
   refine (round s hs).mono fun y hy=>?_
   cases y with
   | next s'=>exact ih _ (hn ▸ hy.2) s' rfl hy.1
   | done r=>exact ret_pure.2 hy
 exact key _ s rfl h
end M
end Go.Fer
namespace Go.Fer
open Go.RowKit
inductive Ty where
 | bool | int (k:IntKind) | str | unit
 | st (t:Ty) | prod (a b:Ty)
 | slice (e:Ty) | array (n:Nat) (e:Ty) | ptr (e:Ty) | map (k v:Ty) | fn (a b:Ty) | it (a:Ty) | raws (e:Ty)
 deriving DecidableEq
@[reducible] def Ty.Den:Ty→Type
 | .bool=>Bool
 | .int _=>Int
 | .str=>List UInt8
 | .unit=>Unit
 | .st t=>t.Den
 | .prod a b=>a.Den×b.Den
 | .slice e=>List e.Den
 | .array _ e=>List e.Den
 | .ptr e=>Option e.Den
 | .map k v=>List (k.Den×v.Den)
 | .fn a b=>a.Den→M b.Den
 | .it a=>List a.Den→Prop
 | .raws _=>Nat×Nat×Nat
def Ty.dflt:(t:Ty)→t.Den
 | .bool=>false
 | .int _=>(0:Int)
 | .str=>[]
 | .unit=>()
 | .st t=>t.dflt
 | .prod a b=>(a.dflt,b.dflt)
 | .slice _=>[]
 | .array n e=>List.replicate n e.dflt
 | .ptr _=>none
 | .map _ _=>[]
 | .fn _ _=>fun _=>⟨False,fun _=>False⟩
 | .it _=>fun _=>False
 | .raws _=>(0,0,0)
def Ty.size:Ty→Nat
 | .unit=>0
 | .st t=>t.size
 | .prod a b=>a.size+b.size
 | .array n e=>n*e.size
 | _=>1
def Ty.isLeaf:Ty→Bool
 | .unit | .st _ | .prod _ _ | .array _ _=>false
 | _=>true
def InR (k:IntKind) (n:Int):Prop:=k.min≤n∧n≤k.max
instance (k:IntKind) (n:Int):Decidable (InR k n):=inferInstanceAs (Decidable (_∧_))
def Holds (F:Nat→Prop) (w:World) (p:Addr) (cs:List Value):Prop:=
 F p.block∧p.spot=none∧∀ j (h:j<cs.length),w.cell? ⟨p.block,p.off+j,none⟩=some cs[j]
def Ext (F:Nat→Prop) (w w':World):Prop:=w.heap.size≤w'.heap.size∧∀ r,F r→w'.heap[r]?=w.heap[r]?
def GlOk (P:Program) (F:Nat→Prop) (w:World):Prop:=P.globals.size≠0→F 0∧∃ m,w.cell? ⟨0,0,none⟩=some (.int .i64 m)
theorem GlOk.mono {P:Program} {F F':Nat→Prop} {w w':World} (h:GlOk P F w) (hF:∀ r,F r→F' r) (he:Ext F w w'):GlOk P F' w':=fun hg=>by
 obtain ⟨h1,m,h2⟩:=h hg
 refine ⟨hF 0 h1,m,?_⟩
 simp only [World.cell?] at h2 ⊢
 rw [he.2 0 h1]
 exact h2
theorem Ext.refl (F:Nat→Prop) (w:World):Ext F w w:=⟨Nat.le_refl _,fun _ _=>rfl⟩
theorem Ext.trans {F F':Nat→Prop} {a b c:World} (h:Ext F a b) (hF:∀ r,F r→F' r) (k:Ext F' b c):Ext F a c:=
 ⟨Nat.le_trans h.1 k.1,fun r hr=>(k.2 r (hF r hr)).trans (h.2 r hr)⟩
theorem Ext.cell {F:Nat→Prop} {w w':World} (h:Ext F w w') {a:Addr} (ha:F a.block):w'.cell? a=w.cell? a:=by
 simp only [World.cell?,h.2 _ ha]
theorem Ext.mono {F F':Nat→Prop} {w w':World} (h:Ext F' w w') (hF:∀ r,F r→F' r):Ext F w w':=⟨h.1,fun r hr=>h.2 r (hF r hr)⟩
theorem Holds.mono {F F':Nat→Prop} {w w':World} {p:Addr} {cs:List Value} (h:Holds F w p cs) (hF:∀ r,F r→F' r) (he:Ext F w w'):Holds F' w' p cs:=
 ⟨hF _ h.1,h.2.1,fun j hj=>(he.cell (a:=⟨p.block,p.off+j,none⟩) h.1).trans (h.2.2 j hj)⟩
def VShape:Ty→Value→Prop
 | .st t,v=>∃ cs:Array Value,v=.agg cs∧cs.size=t.size
 | .array n e,v=>∃ cs:Array Value,v=.agg cs∧cs.size=n*e.size
 | .unit,_=>False
 | .prod _ _,_=>False
 | _,v=>v.cells=#[v]
def flat (vs:List Value):List Value:=vs.flatMap (·.cells.toList)
@[simp] theorem flat_nil:flat []=[]:=rfl
@[simp] theorem flat_cons (v:Value) (vs:List Value):flat (v::vs)=v.cells.toList++flat vs:=rfl
def ArgShape:Ty→List Value→Prop
 | .prod a b,v::vs=>VShape a v∧ArgShape b vs
 | .prod _ _,[]=>False
 | .unit,vs=>vs=[]
 | t,vs=>∃ v,vs=[v]∧VShape t v
def ResVal:Ty→Value→List Value→Prop
 | .prod _ _,v,vs=>v=.tuple vs.toArray
 | .unit,v,vs=>v=.tuple #[]∧vs=[]
 | _,v,vs=>vs=[v]
def Grow (F:Nat→Prop) (w w':World):Nat→Prop:=fun r=>F r∨(w.heap.size≤r∧r<w'.heap.size)
structure POk (P:Program) {α:Type} (R:(Nat→Prop)→World→List Value→α→Prop) (l:Nat) (S:List α→Prop) (I:List α→Bool→(Nat→Prop)→(Nat→Prop)→World→Prop):Prop where
 stab:∀ {pre st} {F F' Y:Nat→Prop} {w w':World},I pre st F Y w→(∀ r,F r→F' r)→(∀ r,F r∨Y r→w'.heap[r]?=w.heap[r]?)→w.heap.size≤w'.heap.size→w'.os=w.os∧w'.tape=w.tape∧w'.output=w.output→(∀ r,F' r→r<w'.heap.size)→(∀ r,F' r→¬Y r)→I pre st F' Y w'
 yield:∀ {pre} {F Y:Nat→Prop} {w:World} {args:List Value} {x:α},I pre false F Y w→(∀ r,F r→r<w.heap.size)→(∀ r,Y r→r<w.heap.size∧¬F r)→(∃ T,S (pre++x::T))→R F w args x→
  YieldAt Fence.wide 0 P l args.toArray w fun e w'=>∃ (b:Bool) (F' Y':Nat→Prop),e=.returned (.bool b)∧(∀ r,F r→F' r)∧(∀ r,F' r→F r∨Y r∨w.heap.size≤r)∧(∀ r,F' r→r<w'.heap.size)∧
   (∀ r,r<w.heap.size→¬Y r→w'.heap[r]?=w.heap[r]?)∧(∀ r,Y' r→(Y r∨w.heap.size≤r)∧r<w'.heap.size∧¬F' r)∧w.heap.size≤w'.heap.size∧(w'.os=w.os∧w'.tape=w.tape∧w'.output=w.output)∧I (pre++[x]) (!b) F' Y' w'
def ItPost {α:Type} (S:List α→Prop) (I:List α→Bool→(Nat→Prop)→(Nat→Prop)→World→Prop) (F Y:Nat→Prop) (w:World) (e:Ending) (w':World):Prop:=
 ∃ v pre st F' Y',e=.returned v∧(st=false→S pre)∧I pre st F' Y' w'∧(∀ r,F r→F' r)∧(∀ r,F' r→F r∨Y r∨w.heap.size≤r)∧(∀ r,F' r→r<w'.heap.size)∧
  (∀ r,r<w.heap.size→¬Y r→w'.heap[r]?=w.heap[r]?)∧(∀ r,Y' r→(Y r∨w.heap.size≤r)∧r<w'.heap.size∧¬F' r)∧w.heap.size≤w'.heap.size∧(w'.os=w.os∧w'.tape=w.tape∧w'.output=w.output)
def RC (P:Program):(t:Ty)→(Nat→Prop)→World→List Value→t.Den→Prop
 | .bool,_,_,cs,x=>cs=[.bool x]
 | .int k,_,_,cs,x=>cs=[.int k x]∧InR k x
 | .str,_,_,cs,x=>cs=[.string ⟨x.toArray⟩]∧x.length<2 ^ 63
 | .unit,_,_,cs,_=>cs=[]
 | .st t,F,w,cs,x=>RC P t F w cs x
 | .prod a b,F,w,cs,x=>∃ c d,cs=c++d∧RC P a F w c x.1∧RC P b F w d x.2
 | .slice e,F,w,cs,xs=>∃ a cap,cs=[.slice a xs.length cap]∧xs.length≤cap∧cap<2 ^ 63∧(a=none→cap=0)∧
   ∀ p,a=some p→0<cap→F p.block∧p.spot=none∧∀ i (h:i<xs.length),∃ ds,Holds F w ⟨p.block,p.off+i*e.size,none⟩ ds∧RC P e F w ds xs[i]
 | .array n e,F,w,cs,xs=>∃ css:List (List Value),cs=css.flatten∧css.length=n∧xs.length=n∧∀ i (h:i<xs.length) (h':i<css.length),RC P e F w css[i] xs[i]
 | .ptr e,F,w,cs,x=>(cs=[.pointer none]∧x=none)∨∃ p y ds,cs=[.pointer (some p)]∧x=some y∧Holds F w p ds∧RC P e F w ds y
 | .map k v,F,w,cs,xs=>(cs=[.map none]∧xs=[])∨∃ r es clk,cs=[.map (some r)]∧F r∧w.heap[r]?=some (.map es clk)∧es.size=xs.length∧(xs.map (·.1)).Nodup∧
   (∀ i (h:i<xs.length) (h':i<es.size),VShape k es[i].key∧RC P k F w es[i].key.cells.toList xs[i].1∧VShape v es[i].val∧RC P v F w es[i].val.cells.toList xs[i].2∧es[i].born<clk)∧
   (∀ i j (h:i<es.size) (h':j<es.size),es[i].born=es[j].born→i=j)
 | .fn a b,F,w,cs,f=>∃ u,cs=[u]∧(u.cells=#[u]∧u.oneCell'=true)∧∀ (F':Nat→Prop) (w':World),(∀ r,F r→F' r)→Ext F w w'→(∀ r,F' r→r<w'.heap.size)→GlOk P F' w'→
   ∀ args x,ArgShape a args→RC P a F' w' (flat args) x→(f x).safe→∃ g caps,u=.func (.func g) #[] caps∧(∀ as w,(callFunc g as).run P w=.ok (.enter g as) w)∧
    Calls P g (args.toArray++caps) w' fun e w''=>∃ v y vs,e=.returned v∧(f x).out y∧ResVal b v vs∧ArgShape b vs∧RC P b (Grow F' w' w'') w'' (flat vs) y∧Below w'.heap.size w' w''
 | .it a,F,w,cs,S=>∃ u,cs=[u]∧(u.cells=#[u]∧u.oneCell'=true)∧∀ (F':Nat→Prop) (w':World),(∀ r,F r→F' r)→Ext F w w'→(∀ r,F' r→r<w'.heap.size)→GlOk P F' w'→
   (∃ L,S L)→∃ g caps,u=.func (.func g) #[] caps∧(∀ as w,(callFunc g as).run P w=.ok (.enter g as) w)∧
    ∀ (l:Nat) (I:List a.Den→Bool→(Nat→Prop)→(Nat→Prop)→World→Prop) (Y:Nat→Prop),(∀ r,Y r→r<w'.heap.size∧¬F' r)→
     POk P (fun F w args x=>ArgShape a args∧RC P a F w (flat args) x) l S I→I [] false F' Y w'→Calls P g (#[Value.func (.yield l) #[] #[]]++caps) w' (ItPost S I F' Y w')
 | .raws e,_,_,cs,x=>(cs=[.slice none 0 0]∧x.2.2=0)∨∃ o c,cs=[.slice (some ⟨x.1,o,none⟩) x.2.2 c]∧x.2.2≤c∧c<2 ^ 63∧(0<c→o=x.2.1*e.size)
theorem RC_len {P:Program}:∀ (t:Ty) {F:Nat→Prop} {w:World} {cs:List Value} {x:t.Den},RC P t F w cs x→cs.length=t.size:=by
 intro t
 induction t with
 | bool=>intro F w cs x h;simp only [RC] at h;simp [h,Ty.size]
 | int k=>intro F w cs x h;simp only [RC] at h;simp [h.1,Ty.size]
 | str=>intro F w cs x h;simp only [RC] at h;simp [h.1,Ty.size]
 | unit=>intro F w cs x h;simp only [RC] at h;simp [h,Ty.size]
 | st t ih=>intro F w cs x h;simp only [RC] at h;exact ih h
 | prod a b iha ihb=>
  intro F w cs x h
  simp only [RC] at h
  obtain ⟨c,d,rfl,ha,hb⟩:=h
  simp [Ty.size,iha ha,ihb hb]
 | slice e ih=>intro F w cs x h;simp only [RC] at h;obtain ⟨a,cap,rfl,_⟩:=h;rfl
 | array n e ih=>
  intro F w cs x h
  simp only [RC] at h
  obtain ⟨css,rfl,h1,h2,h3⟩:=h
  have:∀ l∈css,l.length=e.size:=by
   intro l hl
   obtain ⟨i,hi,rfl⟩:=List.mem_iff_getElem.1 hl
   exact ih (h3 i (by omega) hi)
  have h4:css.map List.length=List.replicate n e.size:=by
   rw [←h1]
   exact List.eq_replicate_iff.2 ⟨by simp,by simpa using this⟩
  simp [List.length_flatten,h4,Ty.size]
 | ptr e ih=>intro F w cs x h;simp only [RC] at h;rcases h with ⟨rfl,_⟩ | ⟨p,y,ds,rfl,_⟩<;>rfl
 | map k v ihk ihv=>intro F w cs x h;simp only [RC] at h;rcases h with ⟨rfl,_⟩ | ⟨r,es,clk,rfl,_⟩<;>rfl
 | fn a b iha ihb=>intro F w cs x h;simp only [RC] at h;obtain ⟨u,rfl,_⟩:=h;rfl
 | it a ih=>intro F w cs x h;simp only [RC] at h;obtain ⟨u,rfl,_⟩:=h;rfl
 | raws e ih=>intro F w cs x h;simp only [RC] at h;rcases h with ⟨rfl,_⟩ | ⟨o,c,rfl,_⟩<;>rfl
theorem RC_mono {P:Program}:∀ (t:Ty) {F F':Nat→Prop} {w w':World} {cs:List Value} {x:t.Den},
  (∀ r,F r→F' r)→Ext F w w'→RC P t F w cs x→RC P t F' w' cs x:=by
 intro t
 induction t with
 | bool=>intro F F' w w' cs x _ _ h;exact h
 | int k=>intro F F' w w' cs x _ _ h;exact h
 | str=>intro F F' w w' cs x _ _ h;exact h
 | unit=>intro F F' w w' cs x _ _ h;exact h
 | st t ih=>intro F F' w w' cs x hF he h;simp only [RC] at h ⊢;exact ih hF he h
 | prod a b iha ihb=>
  intro F F' w w' cs x hF he h
  simp only [RC] at h ⊢
  obtain ⟨c,d,rfl,ha,hb⟩:=h
  exact ⟨c,d,rfl,iha hF he ha,ihb hF he hb⟩
 | slice e ih=>
  intro F F' w w' cs x hF he h
  simp only [RC] at h ⊢
  obtain ⟨a,cap,rfl,h1,h2,h3,h4⟩:=h
  refine ⟨a,cap,rfl,h1,h2,h3,fun p hp hc=>?_⟩
  obtain ⟨k1,k2,k3⟩:=h4 p hp hc
  refine ⟨hF _ k1,k2,fun i hi=>?_⟩
  obtain ⟨ds,m1,m2⟩:=k3 i hi
  exact ⟨ds,m1.mono hF he,ih hF he m2⟩
 | array n e ih=>
  intro F F' w w' cs x hF he h
  simp only [RC] at h ⊢
  obtain ⟨css,rfl,h1,h2,h3⟩:=h
  exact ⟨css,rfl,h1,h2,fun i hi hi'=>ih hF he (h3 i hi hi')⟩
 | ptr e ih=>
  intro F F' w w' cs x hF he h
  simp only [RC] at h ⊢
  rcases h with h | ⟨p,y,ds,h1,h2,h3,h4⟩
  ·exact .inl h
  ·exact .inr ⟨p,y,ds,h1,h2,h3.mono hF he,ih hF he h4⟩
 | map k v ihk ihv=>
  intro F F' w w' cs x hF he h
  simp only [RC] at h ⊢
  rcases h with h | ⟨r,es,clk,h1,h2,h3,h4,h5,h6,h7⟩
  ·exact .inl h
  ·refine .inr ⟨r,es,clk,h1,hF _ h2,(he.2 _ h2).trans h3,h4,h5,fun i hi hi'=>?_,h7⟩
   obtain ⟨k1,k2,k3,k4,k5⟩:=h6 i hi hi'
   exact ⟨k1,ihk hF he k2,k3,ihv hF he k4,k5⟩
 | fn a b iha ihb=>
  intro F F' w w' cs x hF he h
  simp only [RC] at h ⊢
  obtain ⟨u,rfl,hu,h1⟩:=h
  exact ⟨u,rfl,hu,fun F'' w'' hF' he' hs=>h1 F'' w'' (fun r hr=>hF' r (hF r hr)) (he.trans hF he') hs⟩
 | it a ih=>
  intro F F' w w' cs x hF he h
  simp only [RC] at h ⊢
  obtain ⟨u,rfl,hu,h1⟩:=h
  exact ⟨u,rfl,hu,fun F'' w'' hF' he' hs=>h1 F'' w'' (fun r hr=>hF' r (hF r hr)) (he.trans hF he') hs⟩
 | raws e ih=>intro F F' w w' cs x _ _ h;exact h
def RV (P:Program) (t:Ty) (F:Nat→Prop) (w:World) (v:Value) (x:t.Den):Prop:=VShape t v∧RC P t F w v.cells.toList x
def RArgs (P:Program) (t:Ty) (F:Nat→Prop) (w:World) (vs:List Value) (x:t.Den):Prop:=ArgShape t vs∧RC P t F w (flat vs) x
def RRes (P:Program) (t:Ty) (F:Nat→Prop) (w:World) (v:Value) (x:t.Den):Prop:=∃ vs,ResVal t v vs∧RArgs P t F w vs x
theorem RV.mono {P:Program} {t:Ty} {F F':Nat→Prop} {w w':World} {v:Value} {x:t.Den} (h:RV P t F w v x) (hF:∀ r,F r→F' r) (he:Ext F w w'):RV P t F' w' v x:=
 ⟨h.1,RC_mono t hF he h.2⟩
theorem one_cells {v:Value} (h:v.oneCell'=true):v.cells=#[v]:=by
 cases v<;>first | rfl | cases h
theorem cells_leaf {v:Value} (h:v.cells=#[v]):v.cells.toList=[v]:=by rw [h]
theorem VShape.len {t:Ty} {v:Value} (h:VShape t v):v.cells.toList.length=t.size:=by
 cases t<;>simp only [VShape] at h<;>first
  | (obtain ⟨cs,rfl,h⟩:=h;simpa [Value.cells,Ty.size] using h)
  | (rw [cells_leaf h];rfl)
  | exact h.elim
theorem RArgs_cons {P:Program} {a b:Ty} {F:Nat→Prop} {w:World} {v:Value} {vs:List Value} {x:a.Den} {y:b.Den} :
  RArgs P (.prod a b) F w (v::vs) (x,y)↔RV P a F w v x∧RArgs P b F w vs y:=by
 constructor
 ·rintro ⟨⟨h1,h2⟩,c,d,e,hc,hd⟩
  have hl:=RC_len a hc
  have:=List.append_inj e (by rw [hl];exact h1.len)
  rw [flat_cons] at e
  obtain ⟨e1,e2⟩:=this
  subst e1;subst e2
  exact ⟨⟨h1,hc⟩,h2,hd⟩
 ·rintro ⟨⟨h1,h2⟩,h3,h4⟩
  exact ⟨⟨h1,h3⟩,_,_,rfl,h2,h4⟩
theorem RArgs_prod {P:Program} {a b:Ty} {F:Nat→Prop} {w:World} {vs:List Value} {x:(Ty.prod a b).Den} (h:RArgs P (.prod a b) F w vs x) :
  ∃ v us,vs=v::us∧RV P a F w v x.1∧RArgs P b F w us x.2:=by
 cases vs with
 | nil=>exact h.1.elim
 | cons v us=>exact ⟨v,us,rfl,RArgs_cons.1 h⟩
def Ty.single:Ty→Bool
 | .prod _ _ | .unit=>false
 | _=>true
theorem RArgs_single {P:Program} {t:Ty} (ht:t.single=true) {F:Nat→Prop} {w:World} {vs:List Value} {x:t.Den} :
  RArgs P t F w vs x↔∃ v,vs=[v]∧RV P t F w v x:=by
 have key:ArgShape t vs↔∃ v,vs=[v]∧VShape t v:=by cases t<;>simp [Ty.single,ArgShape] at ht ⊢
 unfold RArgs RV
 rw [key]
 constructor
 ·rintro ⟨⟨v,rfl,hv⟩,h⟩
  exact ⟨v,rfl,hv,by simpa using h⟩
 ·rintro ⟨v,rfl,hv,h⟩
  exact ⟨⟨v,rfl,hv⟩,by simpa using h⟩
section
variable {P:Program} {F:Nat→Prop} {w:World} {v:Value}
@[simp] theorem RV_bool {x:Bool}:RV P .bool F w v x↔v=.bool x:=by
 constructor
 ·rintro ⟨h1,h2⟩
  simp only [VShape] at h1
  simp only [RC] at h2
  rw [cells_leaf h1] at h2
  simpa using h2
 ·rintro rfl
  exact ⟨by simp [VShape,Value.cells],by simp [RC,Value.cells]⟩
theorem RV_int {k:IntKind} {x:Int}:RV P (.int k) F w v x↔v=.int k x∧InR k x:=by
 constructor
 ·rintro ⟨h1,h2⟩
  simp only [VShape] at h1
  simp only [RC] at h2
  rw [cells_leaf h1] at h2
  simpa using h2
 ·rintro ⟨rfl,h⟩
  exact ⟨by simp [VShape,Value.cells],by simpa [RC,Value.cells] using h⟩
theorem RV_str {x:List UInt8}:RV P .str F w v x↔v=.string ⟨x.toArray⟩∧x.length<2 ^ 63:=by
 constructor
 ·rintro ⟨h1,h2⟩
  simp only [VShape] at h1
  simp only [RC] at h2
  rw [cells_leaf h1] at h2
  simpa using h2
 ·rintro ⟨rfl,h⟩
  exact ⟨by simp [VShape,Value.cells],by simpa [RC,Value.cells] using h⟩
theorem RV_leaf {t:Ty} (ht:t.isLeaf=true) {x:t.Den}:RV P t F w v x↔v.cells=#[v]∧RC P t F w [v] x:=by
 have h1:VShape t v↔v.cells=#[v]:=by cases t<;>simp [Ty.isLeaf,VShape] at ht ⊢
 unfold RV
 rw [h1]
 exact and_congr_right fun h=>by rw [cells_leaf h]
theorem leaf_one {t:Ty} (ht:t.isLeaf=true) {F:Nat→Prop} {w:World} {u:Value} {x:t.Den} (h:RC P t F w [u] x):u.oneCell'=true:=by
 cases t<;>simp only [Ty.isLeaf,RC] at ht h<;>try contradiction
 ·obtain rfl:=(List.cons.inj h).1;rfl
 ·obtain rfl:=(List.cons.inj h.1).1;rfl
 ·obtain rfl:=(List.cons.inj h.1).1;rfl
 ·obtain ⟨a,cap,h,_⟩:=h;obtain rfl:=(List.cons.inj h).1;rfl
 ·rcases h with ⟨h,_⟩ | ⟨p,y,ds,h,_⟩<;>(obtain rfl:=(List.cons.inj h).1;rfl)
 ·rcases h with ⟨h,_⟩ | ⟨r,es,clk,h,_⟩<;>(obtain rfl:=(List.cons.inj h).1;rfl)
 ·obtain ⟨u',h,hu,_⟩:=h;obtain rfl:=(List.cons.inj h).1;exact hu.2
 ·obtain ⟨u',h,hu,_⟩:=h;obtain rfl:=(List.cons.inj h).1;exact hu.2
 ·rcases h with ⟨h,_⟩ | ⟨o,c,h,_⟩<;>(obtain rfl:=(List.cons.inj h).1;rfl)
theorem leaf_cells {t:Ty} (ht:t.isLeaf=true) {F:Nat→Prop} {w:World} {cs:List Value} {x:t.Den} (h:RC P t F w cs x):∃ u,cs=[u]∧u.cells=#[u]:=by
 cases t<;>simp only [Ty.isLeaf,RC] at ht h<;>try contradiction
 ·exact ⟨_,h,rfl⟩
 ·exact ⟨_,h.1,rfl⟩
 ·exact ⟨_,h.1,rfl⟩
 ·obtain ⟨a,cap,rfl,_⟩:=h;exact ⟨_,rfl,rfl⟩
 ·rcases h with ⟨rfl,_⟩ | ⟨p,y,ds,rfl,_⟩<;>exact ⟨_,rfl,rfl⟩
 ·rcases h with ⟨rfl,_⟩ | ⟨r,es,clk,rfl,_⟩<;>exact ⟨_,rfl,rfl⟩
 ·obtain ⟨u,rfl,hu,_⟩:=h;exact ⟨u,rfl,hu.1⟩
 ·obtain ⟨u,rfl,hu,_⟩:=h;exact ⟨u,rfl,hu.1⟩
 ·rcases h with ⟨rfl,_⟩ | ⟨o,c,rfl,_⟩<;>exact ⟨_,rfl,rfl⟩
end
structure FnSpec (P:Program) (k:FuncId) (ts tr:Ty) (sh:ts.Den→M tr.Den):Prop where
 enter:∀ args w,(callFunc k args).run P w=.ok (.enter k args) w
 calls:∀ (F:Nat→Prop) (w:World) (args:List Value) (x:ts.Den),(∀ r,F r→r<w.heap.size)→GlOk P F w→RArgs P ts F w args x→(sh x).safe→
  Calls P k args.toArray w fun e w'=>∃ v y,e=.returned v∧(sh x).out y∧RRes P tr (Grow F w w') w' v y∧Below w.heap.size w w'
def tupT:List Ty→Ty
 | []=>.unit
 | [t]=>t
 | t::u::l=>.prod t (tupT (u::l))
def joinD:(as bs:List Ty)→(tupT as).Den→(tupT bs).Den→(tupT (as++bs)).Den
 | [],_,_,y=>y
 | [_],[],x,_=>x
 | [_],_::_,x,y=>(x,y)
 | _::u::l,bs,x,y=>(x.1,joinD (u::l) bs x.2 y)
theorem joinD_ok {P:Program} {F:Nat→Prop} {w:World}:∀ (as bs:List Ty),as.all Ty.single=true→∀ {vs us:List Value} {x:(tupT as).Den} {y:(tupT bs).Den},RArgs P (tupT as) F w vs x→RArgs P (tupT bs) F w us y→RArgs P (tupT (as++bs)) F w (vs++us) (joinD as bs x y)
 | [],bs,_,vs,us,x,y,h1,h2=>by
  obtain rfl:vs=[]:=h1.1
  exact h2
 | [t],[],_,vs,us,x,y,h1,h2=>by
  obtain rfl:us=[]:=h2.1
  have e:vs++[]=vs:=List.append_nil vs
  rw [e]
  exact h1
 | [t],b::bs,h,vs,us,x,y,h1,h2=>by
  have ht:t.single=true:=by simpa using h
  obtain ⟨v,rfl,hv⟩:=(RArgs_single ht).1 h1
  exact RArgs_cons.2 ⟨hv,h2⟩
 | t::u::l,bs,h,vs,us,x,y,h1,h2=>by
  obtain ⟨v,vs',rfl,h3,h4⟩:=RArgs_prod (a:=t) (b:=tupT (u::l)) h1
  have hl:(u::l).all Ty.single=true:=by
   simp only [List.all_cons,Bool.and_eq_true] at h ⊢
   exact h.2
  have:=joinD_ok (u::l) bs hl h4 h2
  exact RArgs_cons.2 ⟨h3,this⟩
structure FnV where
 ts:Ty
 tr:Ty
 sh:ts.Den→M tr.Den
structure ClV where
 as:List Ty
 cs:List Ty
 tr:Ty
 sh:(tupT (as++cs.map .ptr)).Den→M tr.Den
structure ItV where
 cs:List Ty
 A:Ty
 S:(tupT (cs.map .ptr)).Den→List A.Den→Prop
structure CItSpec (P:Program) (k:FuncId) (v:ItV):Prop where
 enter:∀ args w,(callFunc k args).run P w=.ok (.enter k args) w
 calls:∀ (F:Nat→Prop) (w:World) (caps:List Value) (x:(tupT (v.cs.map .ptr)).Den),(∀ r,F r→r<w.heap.size)→GlOk P F w→RArgs P (tupT (v.cs.map .ptr)) F w caps x→(∃ L,v.S x L)→
  ∀ (l:Nat) (I:List v.A.Den→Bool→(Nat→Prop)→(Nat→Prop)→World→Prop) (Y:Nat→Prop),(∀ r,Y r→r<w.heap.size∧¬F r)→
   POk P (RArgs P v.A) l (v.S x) I→I [] false F Y w→Calls P k (#[Value.func (.yield l) #[] #[]]++caps.toArray) w (ItPost (v.S x) I F Y w)
def Ty.unr:Ty→Ty
 | .raws e=>.slice e
 | .st t=>.st t.unr
 | .prod a b=>.prod a.unr b.unr
 | .slice t=>.slice t.unr
 | t=>t
structure PcV where
 tsR:Ty
 e:Ty
 tr:Ty
 pre:tsR.unr.Den→Prop
 g:tsR.unr.Den→tr.Den
 fresh:Bool
structure FreshSpec (P:Program) (k:FuncId) (ts tr:Ty) (sh:ts.Den→M tr.Den):Prop where
 calls:∀ (F:Nat→Prop) (w:World) (args:List Value) (x:ts.Den),(∀ r,F r→r<w.heap.size)→GlOk P F w→RArgs P ts F w args x→(sh x).safe→
  Calls P k args.toArray w fun e w'=>∃ v y,e=.returned v∧(sh x).out y∧RRes P tr (fun r=>w.heap.size≤r∧r<w'.heap.size) w' v y∧Below w.heap.size w w'
structure FnTab where
 fnv:Nat→Option FnV
 clv:Nat→Option ClV
 itv:Nat→Option ItV:=fun _=>none
 pcs:Nat→Option PcV:=fun _=>none
structure FnTabOk (P:Program) (U:FnTab):Prop where
 fnv:∀ k v,U.fnv k=some v→FnSpec P k v.ts v.tr v.sh
 clv:∀ k v,U.clv k=some v→v.as.all Ty.single=true∧FnSpec P k (tupT (v.as++v.cs.map .ptr)) v.tr v.sh
 itv:∀ k v,U.itv k=some v→CItSpec P k v:=by intro k v h;cases h
 pcs:∀ k v,U.pcs k=some v→FnSpec P k v.tsR.unr v.tr (fun x=>M.det (v.pre x) (v.g x))∧(v.fresh=true→FreshSpec P k v.tsR.unr v.tr (fun x=>M.det (v.pre x) (v.g x))):=by intro k v h;cases h
theorem RC_fn {P:Program} {k:FuncId} {ts tr:Ty} {sh:ts.Den→M tr.Den} (h:FnSpec P k ts tr sh) (F:Nat→Prop) (w:World):RC P (.fn ts tr) F w [.func (.func k) #[] #[]] sh:=by
 refine ⟨_,rfl,⟨rfl,rfl⟩,fun F' w' _ _ hs hg args x h1 h2 h3=>⟨k,#[],rfl,h.enter,?_⟩⟩
 have:=h.calls F' w' args x hs hg ⟨h1,h2⟩ h3
 simp only [Array.append_empty]
 exact this.mono fun e w'' ⟨v,y,e1,e2,⟨vs,e3,e4,e5⟩,e6⟩=>⟨v,y,vs,e1,e2,e3,e4,e5,e6⟩
end Go.Fer
namespace Go.Fer
open Go.RowKit
inductive AV where
 | undef
 | val (t:Ty) (x:t.Den)
 | whn (b:Bool) (a:AV)
 | loc (b g off:Nat)
 | own (b g:Nat)
 | elm (b g i off:Nat)
 | pp (t:Ty) (x:t.Den)
 | mapl (b g:Nat)
 | clo (k:FuncId) (n:Nat) (caps:Nat→AV)
 | bnd (k:FuncId) (n:Nat) (first:Nat→AV)
 | tup (n:Nat) (f:Nat→AV)
 | agg (n:Nat) (f:Nat→AV)
 | nils
 | raw (v:Value)
 | iter (b g:Nat)
 | tr (l:Nat) (A:Ty) (S:List A.Den→Prop) (pre:List A.Den) (st:Bool)
 | yld (l:Nat)
 | sub (b g lo hi:Nat)
 | clp (e:Ty) (xs:List e.Den)
 | pel (e:Ty) (id i:Nat)
 | sdt (b g:Nat)
 | nos (b g:Nat)
inductive Body where
 | dead
 | cells (t:Ty) (f:Nat→AV)
 | arr (e:Ty) (xs:List e.Den)
 | froz (e:Ty) (xs:List e.Den)
 | mp (k v:Ty) (es:List (k.Den×v.Den))
 | frzc (t:Ty) (x:t.Den)
 | frzm (k v:Ty) (es:List (k.Den×v.Den))
 | it (k v:Ty) (cur:Option (k.Den×v.Den)) (rest:List (k.Den×v.Den))
 | pool (e:Ty) (m:List (Nat×List e.Den))
structure ABlk where
 gen:Nat
 body:Body
structure KB where
 blk:Nat
 off:Nat
 cap:Nat
 isNil:Bool
structure AState where
 slot:Nat→AV
 blk:Nat→ABlk
def Body.isCells:Body→Bool | .cells _ _=>true | .frzc _ _=>true | _=>false
def Body.isArr:Body→Bool | .arr _ _=>true | .froz _ _=>true | _=>false
def Body.isMap:Body→Bool | .mp _ _ _=>true | .frzm _ _ _=>true | _=>false
def Body.isIt:Body→Bool | .it _ _ _ _=>true | _=>false
def Body.isPool:Body→Bool | .pool _ _=>true | _=>false
def Body.len:Body→Nat | .arr _ xs=>xs.length | .froz _ xs=>xs.length | _=>0
def Body.esz:Body→Nat | .arr e _=>e.size | .froz e _=>e.size | _=>0
def Body.owned (k:KB):Body→Bool | .cells _ _=>true | .arr _ _=>!k.isNil | .mp _ _ _=>true | .it _ _ _ _=>true | _=>false
def KB.slice (k:KB) (n:Nat):Value:=if k.isNil then .slice none 0 0 else .slice (some ⟨k.blk,k.off,none⟩) n k.cap
def IsSub (k:KB) (esz lo hi:Nat) (v:Value):Prop:=
 (k.isNil=true∧v=.slice none 0 0)∨(k.isNil=false∧∃ o,v=.slice (some ⟨k.blk,o,none⟩) (hi - lo) (k.cap - lo)∧o≤k.off+lo*esz∧(lo<k.cap→o=k.off+lo*esz))
def RA (P:Program) (H:Nat→ABlk) (κ:Nat→KB) (F:Nat→Prop) (w:World):AV→Value→Prop
 | .undef,_=>True
 | .val t x,v=>RV P t F w v x
 | .whn b a,v=>(b=true→RA P H κ F w a v)∧(b=false→v=Go.undef)
 | .loc b g off,v=>(g≤(H b).gen∧v.oneCell'=true)∧(g=(H b).gen→(H b).body.isCells=true→v=.pointer (some ⟨(κ b).blk,off,none⟩))
 | .own b g,v=>(g≤(H b).gen∧v.oneCell'=true)∧(g=(H b).gen→(H b).body.isArr=true→v=(κ b).slice (H b).body.len)
 | .elm b g i off,v=>(g≤(H b).gen∧v.oneCell'=true)∧(g=(H b).gen→(H b).body.isArr=true→i<(H b).body.len∧(κ b).isNil=false∧v=.pointer (some ⟨(κ b).blk,(κ b).off+i*(H b).body.esz+off,none⟩))
 | .pp t x,v=>∃ p ds,v=.pointer (some p)∧Holds F w p ds∧RC P t F w ds x
 | .mapl b g,v=>(g≤(H b).gen∧v.oneCell'=true)∧(g=(H b).gen→(H b).body.isMap=true→v=.map (some (κ b).blk))
 | .clo k n caps,v=>∃ vs:List Value,v=.func (.func k) #[] vs.toArray∧vs.length=n∧∀ i,i<n→RA P H κ F w (caps i) (vs.getD i Go.undef)
 | .bnd k n f,v=>∃ vs:List Value,v=.func (.func k) vs.toArray #[]∧vs.length=n∧∀ i,i<n→RA P H κ F w (f i) (vs.getD i Go.undef)
 | .tup n f,v=>∃ vs:List Value,v=.tuple vs.toArray∧vs.length=n∧∀ i,i<n→RA P H κ F w (f i) (vs.getD i Go.undef)
 | .agg n f,v=>∃ vs:List Value,v=.agg vs.toArray∧vs.length=n∧∀ i,i<n→RA P H κ F w (f i) (vs.getD i Go.undef)∧(vs.getD i Go.undef).oneCell'=true
 | .nils,v=>v=.slice none 0 0
 | .raw u,v=>v=u
 | .iter b g,v=>(g≤(H b).gen∧v.oneCell'=true)∧(g=(H b).gen→(H b).body.isIt=true→v=.pointer (some ⟨(κ b).blk,0,none⟩))
 | .tr _ _ _ _ _,_=>True
 | .yld l,v=>v=.func (.yield l) #[] #[]
 | .clp e xs,v=>RV P (.slice e) F w v xs∧∃ q,v=.slice q xs.length xs.length
 | .pel e id i,v=>v=.pointer (some ⟨id,i*e.size,none⟩)
 | .sdt b g,v=>(g≤(H b).gen∧∃ p,v=.pointer p)∧(g=(H b).gen→(H b).body.isArr=true→0<(H b).body.len→v=.pointer (some ⟨(κ b).blk,(κ b).off,none⟩))
 | .nos b g,v=>(g≤(H b).gen∧v.oneCell'=true)∧(g=(H b).gen→(H b).body.isCells=true→v=.pointer none∨v=.pointer (some ⟨(κ b).blk,0,none⟩))
 | .sub b g lo hi,v=>(g≤(H b).gen∧v.oneCell'=true)∧(g=(H b).gen→(H b).body.isArr=true→(lo≤hi∧hi≤(H b).body.len)∧IsSub (κ b) (H b).body.esz lo hi v)
def Later (H:Nat→ABlk) (κ:Nat→KB) (H':Nat→ABlk) (κ':Nat→KB):Prop:=
 ∀ b,(H b).gen≤(H' b).gen∧((H b).gen=(H' b).gen→
  ((H' b).body.isCells=true→(H b).body.isCells=true∧(κ' b).blk=(κ b).blk)∧
  ((H' b).body.isArr=true→(H b).body.isArr=true∧κ' b=κ b∧(H' b).body.len=(H b).body.len∧(H' b).body.esz=(H b).body.esz)∧
  ((H' b).body.isMap=true→(H b).body.isMap=true∧(κ' b).blk=(κ b).blk)∧
  ((H' b).body.isIt=true→(H b).body.isIt=true∧(κ' b).blk=(κ b).blk))
theorem Later.refl (H:Nat→ABlk) (κ:Nat→KB):Later H κ H κ:=fun _=>⟨Nat.le_refl _,fun _=>⟨fun h=>⟨h,rfl⟩,fun h=>⟨h,rfl,rfl,rfl⟩,fun h=>⟨h,rfl⟩,fun h=>⟨h,rfl⟩⟩⟩
def Later1 (x y:ABlk) (k k':KB):Prop:=
 x.gen≤y.gen∧(x.gen=y.gen→
  (y.body.isCells=true→x.body.isCells=true∧k'.blk=k.blk)∧
  (y.body.isArr=true→x.body.isArr=true∧k'=k∧y.body.len=x.body.len∧y.body.esz=x.body.esz)∧
  (y.body.isMap=true→x.body.isMap=true∧k'.blk=k.blk)∧
  (y.body.isIt=true→x.body.isIt=true∧k'.blk=k.blk))
theorem Later1.refl (x:ABlk) (k:KB):Later1 x x k k:=⟨Nat.le_refl _,fun _=>⟨fun h=>⟨h,rfl⟩,fun h=>⟨h,rfl,rfl,rfl⟩,fun h=>⟨h,rfl⟩,fun h=>⟨h,rfl⟩⟩⟩
theorem later_iff {H:Nat→ABlk} {κ:Nat→KB} {H':Nat→ABlk} {κ':Nat→KB}:Later H κ H' κ'↔∀ b,Later1 (H b) (H' b) (κ b) (κ' b):=Iff.rfl
theorem RA.later {P:Program} {H H':Nat→ABlk} {κ κ':Nat→KB} {F F':Nat→Prop} {w w':World} (hl:Later H κ H' κ') (hF:∀ r,F r→F' r) (he:Ext F w w') :
  ∀ {a:AV} {v:Value},RA P H κ F w a v→RA P H' κ' F' w' a v:=by
 intro a
 induction a with
 | undef=>intro v h;trivial
 | val t x=>intro v h;exact RV.mono h hF he
 | whn b a ih=>intro v h;exact ⟨fun hb=>ih (h.1 hb),h.2⟩
 | loc b g off=>
  intro v h
  obtain ⟨h1,h2⟩:=h
  obtain ⟨k1,k2⟩:=hl b
  refine ⟨⟨Nat.le_trans h1.1 k1,h1.2⟩,fun hg hc=>?_⟩
  have h1:=h1.1
  have hgg:(H b).gen=(H' b).gen:=by omega
  obtain ⟨c1,c2⟩:=(k2 hgg).1 hc
  rw [c2]
  exact h2 (by omega) c1
 | own b g=>
  intro v h
  obtain ⟨h1,h2⟩:=h
  obtain ⟨k1,k2⟩:=hl b
  refine ⟨⟨Nat.le_trans h1.1 k1,h1.2⟩,fun hg hc=>?_⟩
  have h1:=h1.1
  have hgg:(H b).gen=(H' b).gen:=by omega
  obtain ⟨c1,c2,c3,c4⟩:=(k2 hgg).2.1 hc
  rw [c2,c3]
  exact h2 (by omega) c1
 | elm b g i off=>
  intro v h
  obtain ⟨h1,h2⟩:=h
  obtain ⟨k1,k2⟩:=hl b
  refine ⟨⟨Nat.le_trans h1.1 k1,h1.2⟩,fun hg hc=>?_⟩
  have h1:=h1.1
  have hgg:(H b).gen=(H' b).gen:=by omega
  obtain ⟨c1,c2,c3,c4⟩:=(k2 hgg).2.1 hc
  rw [c2,c3,c4]
  exact h2 (by omega) c1
 | pp t x=>
  intro v h
  obtain ⟨p,ds,h1,h2,h3⟩:=h
  exact ⟨p,ds,h1,h2.mono hF he,RC_mono t hF he h3⟩
 | mapl b g=>
  intro v h
  obtain ⟨h1,h2⟩:=h
  obtain ⟨k1,k2⟩:=hl b
  refine ⟨⟨Nat.le_trans h1.1 k1,h1.2⟩,fun hg hc=>?_⟩
  have h1:=h1.1
  have hgg:(H b).gen=(H' b).gen:=by omega
  obtain ⟨c1,c2⟩:=(k2 hgg).2.2.1 hc
  rw [c2]
  exact h2 (by omega) c1
 | iter b g=>
  intro v h
  obtain ⟨h1,h2⟩:=h
  obtain ⟨k1,k2⟩:=hl b
  refine ⟨⟨Nat.le_trans h1.1 k1,h1.2⟩,fun hg hc=>?_⟩
  have h1:=h1.1
  have hgg:(H b).gen=(H' b).gen:=by omega
  obtain ⟨c1,c2⟩:=(k2 hgg).2.2.2 hc
  rw [c2]
  exact h2 (by omega) c1
 | sub b g lo hi=>
  intro v h
  obtain ⟨h1,h2⟩:=h
  obtain ⟨k1,k2⟩:=hl b
  refine ⟨⟨Nat.le_trans h1.1 k1,h1.2⟩,fun hg hc=>?_⟩
  have h1:=h1.1
  have hgg:(H b).gen=(H' b).gen:=by omega
  obtain ⟨c1,c2,c3,c4⟩:=(k2 hgg).2.1 hc
  rw [c2,c3,c4]
  exact h2 (by omega) c1
 | tr l A L n st=>intro v _;trivial
 | yld l=>intro v h;exact h
 | clp e xs=>intro v h;exact ⟨RV.mono h.1 hF he,h.2⟩
 | pel e id i=>intro v h;exact h
 | sdt b g=>
  intro v h
  obtain ⟨h1,h2⟩:=h
  obtain ⟨k1,k2⟩:=hl b
  refine ⟨⟨Nat.le_trans h1.1 k1,h1.2⟩,fun hg hc hn=>?_⟩
  have h1:=h1.1
  have hgg:(H b).gen=(H' b).gen:=by omega
  obtain ⟨c1,c2,c3,c4⟩:=(k2 hgg).2.1 hc
  rw [c2]
  exact h2 (by omega) c1 (by omega)
 | nos b g=>
  intro v h
  obtain ⟨h1,h2⟩:=h
  obtain ⟨k1,k2⟩:=hl b
  refine ⟨⟨Nat.le_trans h1.1 k1,h1.2⟩,fun hg hc=>?_⟩
  have h1:=h1.1
  have hgg:(H b).gen=(H' b).gen:=by omega
  obtain ⟨c1,c2⟩:=(k2 hgg).1 hc
  rw [c2]
  exact h2 (by omega) c1
 | clo k n caps ih=>
  intro v h
  obtain ⟨vs,h1,h2,h3⟩:=h
  exact ⟨vs,h1,h2,fun i hi=>ih i (h3 i hi)⟩
 | bnd k n f ih=>
  intro v h
  obtain ⟨vs,h1,h2,h3⟩:=h
  exact ⟨vs,h1,h2,fun i hi=>ih i (h3 i hi)⟩
 | tup n f ih=>
  intro v h
  obtain ⟨vs,h1,h2,h3⟩:=h
  exact ⟨vs,h1,h2,fun i hi=>ih i (h3 i hi)⟩
 | agg n f ih=>
  intro v h
  obtain ⟨vs,h1,h2,h3⟩:=h
  exact ⟨vs,h1,h2,fun i hi=>⟨ih i (h3 i hi).1,(h3 i hi).2⟩⟩
 | nils=>intro v h;exact h
 | raw u=>intro v h;exact h
def MapIs (P:Program) (k v:Ty) (F:Nat→Prop) (w:World) (es:Array MapEntry) (clk:Nat) (xs:List (k.Den×v.Den)):Prop:=
 es.size=xs.length∧(xs.map (·.1)).Nodup∧
 (∀ i (h:i<xs.length) (h':i<es.size),VShape k es[i].key∧RC P k F w es[i].key.cells.toList xs[i].1∧VShape v es[i].val∧RC P v F w es[i].val.cells.toList xs[i].2∧es[i].born<clk)∧
 (∀ i j (h:i<es.size) (h':j<es.size),es[i].born=es[j].born→i=j)
theorem MapIs.mono {P:Program} {k v:Ty} {F F':Nat→Prop} {w w':World} {es:Array MapEntry} {clk:Nat} {xs:List (k.Den×v.Den)} (h:MapIs P k v F w es clk xs) (hF:∀ r,F r→F' r) (he:Ext F w w') :
  MapIs P k v F' w' es clk xs:=
 ⟨h.1,h.2.1,fun i hi hi'=>let ⟨a,b,c,d,e⟩:=h.2.2.1 i hi hi';⟨a,RC_mono k hF he b,c,RC_mono v hF he d,e⟩,h.2.2.2⟩
def RowIs (P:Program) (e:Ty) (F:Nat→Prop) (w:World) (cs:Array Value) (off:Nat) (xs:List e.Den):Prop:=
 ∀ i (h:i<xs.length),∃ ds,(∀ j (h:j<ds.length),cs[off+i*e.size+j]?=some ds[j])∧RC P e F w ds xs[i]
theorem RowIs.mono {P:Program} {e:Ty} {F F':Nat→Prop} {w w':World} {cs:Array Value} {off:Nat} {xs:List e.Den} (h:RowIs P e F w cs off xs) (hF:∀ r,F r→F' r) (he:Ext F w w') :
  RowIs P e F' w' cs off xs:=fun i hi=>let ⟨ds,a,b⟩:=h i hi;⟨ds,a,RC_mono e hF he b⟩
def EntIs (P:Program) (k v:Ty) (F:Nat→Prop) (w:World) (e:MapEntry) (x:k.Den×v.Den):Prop:=
 VShape k e.key∧RC P k F w e.key.cells.toList x.1∧VShape v e.val∧RC P v F w e.val.cells.toList x.2
theorem EntIs.mono {P:Program} {k v:Ty} {F F':Nat→Prop} {w w':World} {e:MapEntry} {x:k.Den×v.Den} (h:EntIs P k v F w e x) (hF:∀ r,F r→F' r) (he:Ext F w w'):EntIs P k v F' w' e x:=
 ⟨h.1,RC_mono k hF he h.2.1,h.2.2.1,RC_mono v hF he h.2.2.2⟩
def IterIs (P:Program) (k v:Ty) (F:Nat→Prop) (w:World) (ib:Nat) (cur:Option (k.Den×v.Den)) (rest:List (k.Den×v.Den)):Prop:=
 (w.heap[ib]?=some (.mapIter none 0 #[] 0)∧rest=[]∧cur=none)∨
 ∃ mr es clk seen,F mr∧w.heap[mr]?=some (.map es clk)∧w.heap[ib]?=some (.mapIter (some mr) clk seen clk)∧
  (∀ i (h:i<es.size),es[i].born<clk)∧(∀ i j (h:i<es.size) (h':j<es.size),es[i].born=es[j].born→i=j)∧
  (∃ ids:List Nat,ids.length=rest.length∧ids.Nodup∧(∀ i,i∈ids↔∃ h:i<es.size,seen.contains es[i].born=false)∧
   (∀ j (h:j<ids.length) (h':j<rest.length),∃ hi:ids[j]<es.size,EntIs P k v F w es[ids[j]] rest[j]))∧
  (∀ c,cur=some c→∃ i,∃ h:i<es.size,seen.back?=some es[i].born∧EntIs P k v F w es[i] c)
theorem IterIs.mono {P:Program} {k v:Ty} {F F':Nat→Prop} {w w':World} {ib:Nat} {cur:Option (k.Den×v.Den)} {rest:List (k.Den×v.Den)} (h:IterIs P k v F w ib cur rest) (hF:∀ r,F r→F' r) (he:Ext F w w')
  (hi:w'.heap[ib]?=w.heap[ib]?):IterIs P k v F' w' ib cur rest:=by
 rcases h with ⟨h1,h2⟩ | ⟨mr,es,clk,seen,h1,h2,h3,h4,h5,⟨ids,i1,i2,i3,i4⟩,h7⟩
 ·exact .inl ⟨hi.trans h1,h2⟩
 ·exact .inr ⟨mr,es,clk,seen,hF _ h1,(he.2 _ h1).trans h2,hi.trans h3,h4,h5,⟨ids,i1,i2,i3,fun j hj hj'=>let ⟨a,b⟩:=i4 j hj hj';⟨a,b.mono hF he⟩⟩,fun c hc=>let ⟨i,a,b,d⟩:=h7 c hc;⟨i,a,b,d.mono hF he⟩⟩
def RowT (P:Program) (e:Ty) (T:TypeId):Prop:=∀ k,e=.int k→P.underlying T=some (.int k)∧P.cellsOf T=1
def CellT (P:Program) (t:Ty) (T:TypeId):Prop:=∀ n s,t=.st (.prod (.ptr (.array n .unit)) s)→P.underlying n=some (.pointer T)
def HBody (P:Program) (H:Nat→ABlk) (κ:Nat→KB) (F:Nat→Prop) (w:World) (k:KB):Body→Prop
 | .dead=>True
 | .cells t f=>∃ cs T,w.heap[k.blk]?=some (.cells cs T (0,0))∧(cs.size=t.size∧CellT P t T)∧∀ i,i<t.size→RA P H κ F w (f i) (cs.getD i Go.undef)∧(cs.getD i Go.undef).oneCell'=true
 | .arr e xs=>(k.isNil=true→xs=[])∧(k.isNil=false→∃ cs T,w.heap[k.blk]?=some (.cells cs T (0,0))∧k.off+k.cap*e.size≤cs.size∧xs.length≤k.cap∧(k.cap<2 ^ 63∧RowT P e T)∧RowIs P e F w cs k.off xs)
 | .froz e xs=>RC P (.slice e) F w [k.slice xs.length] xs
 | .mp kt vt es=>∃ ms clk,w.heap[k.blk]?=some (.map ms clk)∧MapIs P kt vt F w ms clk es
 | .frzc t x=>∃ ds,Holds F w ⟨k.blk,0,none⟩ ds∧RC P t F w ds x
 | .frzm kt vt es=>RC P (.map kt vt) F w [.map (some k.blk)] es
 | .it kt vt cur rest=>IterIs P kt vt F w k.blk cur rest
 | .pool _ _=>True
def HB (P:Program) (H:Nat→ABlk) (κ:Nat→KB) (F:Nat→Prop) (w:World) (b:Nat):Prop:=HBody P H κ F w (κ b) (H b).body
theorem HB.other {P:Program} {H H':Nat→ABlk} {κ κ':Nat→KB} {F F':Nat→Prop} {w w':World} {b:Nat} (h:HB P H κ F w b) (hl:Later H κ H' κ') (hF:∀ r,F r→F' r) (he:Ext F w w')
  (hb:(H' b).body=(H b).body) (hk:κ' b=κ b) (hw:(H b).body.owned (κ b)=true→w'.heap[(κ b).blk]?=w.heap[(κ b).blk]?):HB P H' κ' F' w' b:=by
 unfold HB at *
 rw [hb,hk]
 cases hbody:(H b).body with
 | dead=>trivial
 | cells n f=>
  rw [hbody] at h hw
  obtain ⟨cs,T,h1,h2,h3⟩:=h
  exact ⟨cs,T,(hw rfl).trans h1,h2,fun i hi=>⟨RA.later hl hF he (h3 i hi).1,(h3 i hi).2⟩⟩
 | arr e xs=>
  rw [hbody] at h hw
  refine ⟨h.1,fun hn=>?_⟩
  obtain ⟨cs,T,h1,h2,h3,h4,h5⟩:=h.2 hn
  exact ⟨cs,T,(hw (by simp [Body.owned,hn])).trans h1,h2,h3,h4,h5.mono hF he⟩
 | froz e xs=>
  rw [hbody] at h
  exact RC_mono _ hF he h
 | mp kt vt es=>
  rw [hbody] at h hw
  obtain ⟨ms,clk,h1,h2⟩:=h
  exact ⟨ms,clk,(hw rfl).trans h1,h2.mono hF he⟩
 | frzc t x=>
  rw [hbody] at h
  obtain ⟨ds,h1,h2⟩:=h
  exact ⟨ds,h1.mono hF he,RC_mono t hF he h2⟩
 | frzm kt vt es=>
  rw [hbody] at h
  exact RC_mono (.map kt vt) hF he h
 | it kt vt cur rest=>
  rw [hbody] at h hw
  exact IterIs.mono h hF he (hw rfl)
 | pool e m=>trivial
structure Calm (w w':World):Prop where
 os:w'.os=w.os
 tape:w'.tape=w.tape
 output:w'.output=w.output
theorem Calm.refl (w:World):Calm w w:=⟨rfl,rfl,rfl⟩
theorem Calm.trans {a b c:World} (h:Calm a b) (k:Calm b c):Calm a c:=⟨k.os.trans h.os,k.tape.trans h.tape,k.output.trans h.output⟩
structure Proto where
 l:Nat
 A:Ty
 S:List A.Den→Prop
 I:List A.Den→Bool→(Nat→Prop)→(Nat→Prop)→World→Prop
structure Proto.Ok (P:Program) (p:Proto):Prop where
 stab:∀ {pre st} {F F' Y:Nat→Prop} {w w':World},p.I pre st F Y w→(∀ r,F r→F' r)→(∀ r,F r∨Y r→w'.heap[r]?=w.heap[r]?)→w.heap.size≤w'.heap.size→Calm w w'→(∀ r,F' r→r<w'.heap.size)→(∀ r,F' r→¬Y r)→p.I pre st F' Y w'
 yield:∀ {pre} {F Y:Nat→Prop} {w:World} {args:List Value} {x:p.A.Den},p.I pre false F Y w→(∀ r,F r→r<w.heap.size)→(∀ r,Y r→r<w.heap.size∧¬F r)→(∃ T,p.S (pre++x::T))→RArgs P p.A F w args x→
  YieldAt Fence.wide 0 P p.l args.toArray w fun e w'=>∃ (b:Bool) (F' Y':Nat→Prop),e=.returned (.bool b)∧(∀ r,F r→F' r)∧(∀ r,F' r→F r∨Y r∨w.heap.size≤r)∧(∀ r,F' r→r<w'.heap.size)∧
   (∀ r,r<w.heap.size→¬Y r→w'.heap[r]?=w.heap[r]?)∧(∀ r,Y' r→(Y r∨w.heap.size≤r)∧r<w'.heap.size∧¬F' r)∧w.heap.size≤w'.heap.size∧Calm w w'∧p.I (pre++[x]) (!b) F' Y' w'
def Proto.at (p:Proto) (A:Ty) (pre:List A.Den) (st:Bool) (F Y:Nat→Prop) (w:World):Prop:=∃ h:A=p.A,p.I (h ▸ pre) st F Y w
theorem Proto.at_mk {l:Nat} {A:Ty} {S:List A.Den→Prop} {I} {pre:List A.Den} {st:Bool} {F Y:Nat→Prop} {w:World}:(Proto.mk l A S I).at A pre st F Y w↔I pre st F Y w:=⟨fun ⟨_,h⟩=>h,fun h=>⟨rfl,h⟩⟩
theorem Proto.Ok.stabAt {P:Program} {p:Proto} (h:p.Ok P) {A:Ty} {pre:List A.Den} {st} {F F' Y:Nat→Prop} {w w':World}:p.at A pre st F Y w→(∀ r,F r→F' r)→(∀ r,F r∨Y r→w'.heap[r]?=w.heap[r]?)→w.heap.size≤w'.heap.size→Calm w w'→(∀ r,F' r→r<w'.heap.size)→(∀ r,F' r→¬Y r)→p.at A pre st F' Y w':=
 fun ⟨e,h1⟩ h2 h3 h4 h5 h6 h7=>⟨e,h.stab h1 h2 h3 h4 h5 h6 h7⟩
def TRS:Nat:=1000000
def TMAX:Nat:=100000
def KEEPB:Nat:=200000
structure Ctx where
 P:Program
 w0:World
 F0:Nat→Prop
 K0:Nat→Prop
 nt:Nat
 r:Option Nat
 dfr:List Deferred
 an:Nat→Option Nat
 pr:Proto
 ft:FnTab
 ana:Nat→Option (KB×Nat):=fun _=>none
def ProIs (C:Ctx) (s:AState) (w:World) (κ:Nat→KB) (F:Nat→Prop):Prop:=
 ∀ l A L n st,s.slot TRS=.tr l A L n st→(∃ I,C.pr=⟨l,A,L,I⟩)∧C.pr.Ok C.P∧
  ∃ Y:Nat→Prop,(∀ r,Y r→r<w.heap.size∧¬F r∧¬C.K0 r)∧(∀ b,(s.blk b).body.owned (κ b)=true→¬Y (κ b).blk)∧C.pr.at A n st F Y w
def POOLN:Nat:=150000
def PRow (P:Program) (e:Ty) (F:Nat→Prop) (w:World) (id:Nat) (xs:List e.Den):Prop:=
 ∃ cs T lo hi,w.heap[id]?=some (.cells cs T (lo,hi))∧xs.length*e.size≤cs.size∧(hi≤lo∨xs.length*e.size≤lo)∧RowIs P e F w cs 0 xs
theorem PRow.mono {P:Program} {e:Ty} {F F':Nat→Prop} {w w':World} {id:Nat} {xs:List e.Den} (h:PRow P e F w id xs) (hF:∀ r,F r→F' r) (he:Ext F w w') (hi:w'.heap[id]?=w.heap[id]?):PRow P e F' w' id xs:=by
 obtain ⟨cs,T,lo,hi',h1,h2,h3,h4⟩:=h
 exact ⟨cs,T,lo,hi',hi.trans h1,h2,h3,h4.mono hF he⟩
def PoolOk (C:Ctx) (s:AState) (w:World) (κ:Nat→KB) (F:Nat→Prop):Prop:=
 ∀ e m,(s.blk POOLN).body=.pool e m→(m.map (·.1)).Nodup∧
  ∀ id xs,(id,xs)∈m→(∀ l A L n st,s.slot TRS≠.tr l A L n st)∧id<w.heap.size∧¬F id∧¬C.K0 id∧(∀ b,(s.blk b).body.owned (κ b)=true→(κ b).blk≠id)∧PRow C.P e F w id xs
theorem PoolOk.slots {C:Ctx} {s s':AState} {w:World} {κ:Nat→KB} {F:Nat→Prop} (h:PoolOk C s w κ F) (hb:s'.blk=s.blk) (ht:∀ l A L n st,s'.slot TRS=.tr l A L n st→s.slot TRS=.tr l A L n st):PoolOk C s' w κ F:=by
 intro e m hm
 rw [hb] at hm
 obtain ⟨h1,h2⟩:=h e m hm
 refine ⟨h1,fun id xs hx=>?_⟩
 rw [hb]
 obtain ⟨k1,k2⟩:=h2 id xs hx
 exact ⟨fun l A L n st k=>k1 l A L n st (ht l A L n st k),k2⟩
def PId (H:Nat→ABlk) (r:Nat):Prop:=∃ (e:Ty) (m:List (Nat×List e.Den)) (xs:List e.Den),(H POOLN).body=.pool e m∧(r,xs)∈m
theorem PoolOk.pid {C:Ctx} {s:AState} {w:World} {κ:Nat→KB} {F:Nat→Prop} (h:PoolOk C s w κ F) {r:Nat} (hr:PId s.blk r):(∀ l A L n st,s.slot TRS≠.tr l A L n st)∧r<w.heap.size∧¬F r∧¬C.K0 r∧∀ b,(s.blk b).body.owned (κ b)=true→(κ b).blk≠r:=by
 obtain ⟨e,m,xs,h1,h2⟩:=hr
 obtain ⟨_,h3⟩:=h e m h1
 obtain ⟨k0,k1,k2,k3,k4,_⟩:=h3 r xs h2
 exact ⟨k0,k1,k2,k3,k4⟩
def PKeep (H H':Nat→ABlk):Prop:=∀ e m,(H' POOLN).body=.pool e m→(H POOLN).body=.pool e m
theorem PKeep.refl (H:Nat→ABlk):PKeep H H:=fun _ _ h=>h
theorem pkeep_setB {H:Nat→ABlk} {b:Nat} {x:ABlk} (h:x.body.isPool=false):PKeep H (fun i=>if i=b then x else H i):=fun e m hm=>by
 by_cases k:POOLN=b
 ·simp only [if_pos k] at hm;rw [hm] at h;cases h
 ·simpa only [if_neg k] using hm
structure RelK (C:Ctx) (s:AState) (a:Act) (w:World) (κ:Nat→KB) (F:Nat→Prop):Prop where
 tsz:a.tmps.size=C.nt
 dfr:a.defers=C.dfr
 slots:∀ i,RA C.P s.blk κ F w (s.slot i) (a.tmps.getD i Go.undef)
 blks:∀ b,HB C.P s.blk κ F w b
 own:∀ b,(s.blk b).body.owned (κ b)=true→(κ b).blk<w.heap.size∧¬F (κ b).blk∧¬C.K0 (κ b).blk
 inj:∀ b b',(s.blk b).body.owned (κ b)=true→(s.blk b').body.owned (κ b')=true→(κ b).blk=(κ b').blk→b=b'
 fsz:∀ r,F r→r<w.heap.size
 flo:∀ r,F r→C.F0 r∨¬C.K0 r
 fhi:∀ r,C.F0 r→F r
 ksz:∀ r,C.K0 r→r<C.w0.heap.size
 keep:∀ r,C.K0 r→w.heap[r]?=C.w0.heap[r]?
 size:C.w0.heap.size≤w.heap.size
 calm:Calm C.w0 w
 nsz:C.nt≤TMAX
 aran:∀ b r,C.an b=some r→TMAX≤b
 anch:∀ b r,C.an b=some r→(s.blk b).body.isCells=true∨(s.blk b).body.isMap=true→(κ b).blk=r
 ara:∀ b k,C.ana b=some k→KEEPB≤b
 anA:∀ b k,C.ana b=some k→(s.blk b).gen=0→(s.blk b).body.isArr=true→κ b=k.1∧(s.blk b).body.len=k.2
 pro:ProIs C s w κ F
 pool:PoolOk C s w κ F
 ftok:FnTabOk C.P C.ft
 glob:GlOk C.P F w
def Rel (C:Ctx) (s:AState) (a:Act) (w:World):Prop:=∃ κ F,RelK C s a w κ F
def AState.set (s:AState) (d:Option Nat) (v:AV):AState:=
 match d with
 | none=>s
 | some d=>{ s with slot:=fun i=>if i=d then v else s.slot i }
def AState.setB (s:AState) (b:Nat) (x:ABlk):AState:={ s with blk:=fun i=>if i=b then x else s.blk i }
theorem getD_put {a:Act} {d:Nat} {v:Value} (hd:d<a.tmps.size) (i:Nat):(a.put (some d) v).tmps.getD i Go.undef=if i=d then v else a.tmps.getD i Go.undef:=by
 simp only [Act.put,Array.getD_eq_getD_getElem?,Array.getElem?_setIfInBounds]
 by_cases h:i=d
 ·subst h;simp [hd]
 ·rw [if_neg (Ne.symm h),if_neg h]
theorem RelK.set {C:Ctx} {s:AState} {a:Act} {w:World} {κ:Nat→KB} {F:Nat→Prop} (h:RelK C s a w κ F) {d:Option Nat} (hd:∀ i,d=some i→i<C.nt) {av:AV} {v:Value}
  (hv:RA C.P s.blk κ F w av v):RelK C (s.set d av) (a.put d v) w κ F:=by
 cases d with
 | none=>exact h
 | some d=>
  have hd':=hd d rfl
  have hn:=h.nsz
  refine { h with tsz:=by simpa [Act.put] using h.tsz,dfr:=h.dfr,slots:=fun i=>?_,pro:=fun l A L n st e=>?_,pool:=fun e m hm=>⟨(h.pool e m hm).1,fun id xs hx=>⟨fun l A L n st=>?_,((h.pool e m hm).2 id xs hx).2⟩⟩ }
  ·rw [getD_put (by rw [h.tsz];exact hd')]
   simp only [AState.set]
   by_cases hi:i=d
   ·rw [if_pos hi,if_pos hi];exact hv
   ·rw [if_neg hi,if_neg hi];exact h.slots i
  ·simp only [AState.set] at e
   rw [if_neg (by unfold TRS TMAX at *;omega)] at e
   exact h.pro l A L n st e
  ·simp only [AState.set]
   rw [if_neg (by unfold TRS TMAX at *;omega)]
   exact ((h.pool e m hm).2 id xs hx).1 l A L n st
theorem RelK.move {C:Ctx} {s:AState} {a:Act} {w:World} {κ:Nat→KB} {F:Nat→Prop} (h:RelK C s a w κ F) {H':Nat→ABlk} {κ':Nat→KB} {F':Nat→Prop} {w':World}
  (hl:Later s.blk κ H' κ') (hF:∀ r,F r→F' r) (hF':∀ r,F' r→F r∨(∃ b,(s.blk b).body.owned (κ b)=true∧(κ b).blk=r)∨w.heap.size≤r)
  (hsz:w.heap.size≤w'.heap.size) (hw:∀ r,r<w.heap.size→(∀ b,(s.blk b).body.owned (κ b)=true→(κ b).blk≠r)→w'.heap[r]?=w.heap[r]?) (hc:Calm w w')
  (hb:Ext F w w'→∀ b,HB C.P H' κ' F' w' b)
  (ho:∀ b,(H' b).body.owned (κ' b)=true→(κ' b).blk<w'.heap.size∧¬F' (κ' b).blk∧((∃ b0,(s.blk b0).body.owned (κ b0)=true∧(κ b0).blk=(κ' b).blk)∨w.heap.size≤(κ' b).blk))
  (hi:∀ b b',(H' b).body.owned (κ' b)=true→(H' b').body.owned (κ' b')=true→(κ' b).blk=(κ' b').blk→b=b')
  (hs:∀ r,F' r→r<w'.heap.size)
  (han:∀ b,TMAX≤b→(H' b).body.isCells=true∨(H' b).body.isMap=true→κ' b=κ b∧((s.blk b).body.isCells=true∨(s.blk b).body.isMap=true)) (hpk:PKeep s.blk H':=by first | exact PKeep.refl _ | exact pkeep_setB rfl):RelK C ⟨s.slot,H'⟩ a w' κ' F':=by
 have hnk:∀ r,C.K0 r→(∀ b,(s.blk b).body.owned (κ b)=true→(κ b).blk≠r):=fun r hr b hb e=>(h.own b hb).2.2 (e ▸ hr)
 have hk:∀ r,C.K0 r→w'.heap[r]?=w.heap[r]?:=fun r hr=>hw r (Nat.lt_of_lt_of_le (h.ksz r hr) h.size) (hnk r hr)
 have hkn:∀ r,w.heap.size≤r→¬C.K0 r:=fun r hr hk=>by have:=h.ksz r hk;have:=h.size;omega
 have he:Ext F w w':=⟨hsz,fun r hr=>hw r (h.fsz r hr) fun b hb e=>(h.own b hb).2.1 (e ▸ hr)⟩
 refine { tsz:=h.tsz,dfr:=h.dfr,slots:=fun i=>RA.later hl hF he (h.slots i),blks:=hb he,own:=fun b hb=>?_,inj:=hi,fsz:=hs,flo:=fun r hr=>?_,fhi:=fun r hr=>hF r (h.fhi r hr),ksz:=h.ksz,keep:=fun r hr=>(hk r hr).trans (h.keep r hr),size:=Nat.le_trans h.size hsz,calm:=h.calm.trans hc,nsz:=h.nsz,aran:=h.aran,anch:=fun b r hr hc=>?_,ara:=h.ara,anA:=fun b k hk h0 ha=>?_,pro:=fun l A L n st e=>?_,pool:=fun e m hm=>?_,ftok:=h.ftok,glob:=h.glob.mono hF he }
 ·obtain ⟨h1,h2,h3⟩:=ho b hb
  refine ⟨h1,h2,fun hk0=>?_⟩
  rcases h3 with ⟨b0,k1,k2⟩ | h3
  ·exact (h.own b0 k1).2.2 (k2 ▸ hk0)
  ·exact hkn _ h3 hk0
 ·rcases hF' r hr with h1 | ⟨b,h1,rfl⟩ | h1
  ·exact h.flo r h1
  ·exact .inr (h.own b h1).2.2
  ·exact .inr (hkn r h1)
 ·obtain ⟨k1,k2⟩:=han b (h.aran b r hr) hc
  rw [k1]
  exact h.anch b r hr k2
 ·obtain ⟨g1,g2⟩:=hl b
  have h0:(H' b).gen=0:=h0
  have ha:(H' b).body.isArr=true:=ha
  obtain ⟨a1,a2,a3,_⟩:=(g2 (by omega)).2.1 ha
  obtain ⟨k1,k2⟩:=h.anA b k hk (by omega) a1
  exact ⟨a2.trans k1,a3.trans k2⟩
 ·obtain ⟨h1,h2,Y,h3,h4,h5⟩:=h.pro l A L n st e
  have hYw:∀ r,Y r→w'.heap[r]?=w.heap[r]?:=fun r hr=>hw r (h3 r hr).1 fun b hb e=>h4 b hb (e ▸ hr)
  have hYF:∀ r,Y r→¬F' r:=fun r hr hf=>by
   rcases hF' r hf with k | ⟨b,k,rfl⟩ | k
   ·exact (h3 r hr).2.1 k
   ·exact h4 b k hr
   ·have:=(h3 r hr).1;omega
  refine ⟨h1,h2,Y,fun r hr=>⟨Nat.lt_of_lt_of_le (h3 r hr).1 hsz,hYF r hr,(h3 r hr).2.2⟩,fun b hb hy=>?_,h2.stabAt h5 hF (fun r hr=>?_) hsz hc hs fun r hf hy=>hYF r hy hf⟩
  ·obtain ⟨_,_,k⟩:=ho b hb
   rcases k with ⟨b0,k1,k2⟩ | k
   ·exact h4 b0 k1 (k2 ▸ hy)
   ·have:=(h3 _ hy).1;omega
  ·rcases hr with hr | hr
   ·exact he.2 r hr
   ·exact hYw r hr
 ·obtain ⟨p1,p3⟩:=h.pool e m (hpk e m hm)
  refine ⟨p1,fun id xs hx=>?_⟩
  obtain ⟨q0,q1,q2,q3,q4,q5⟩:=p3 id xs hx
  refine ⟨q0,Nat.lt_of_lt_of_le q1 hsz,fun hf=>?_,q3,fun b hb e=>?_,q5.mono hF he (hw id q1 q4)⟩
  ·rcases hF' id hf with k | ⟨b,k,k2⟩ | k
   ·exact q2 k
   ·exact q4 b k k2
   ·omega
  ·rcases (ho b hb).2.2 with ⟨b0,k1,k2⟩ | k
   ·exact q4 b0 k1 (k2.trans e)
   ·omega
theorem heap_alloc_lt (w:World) (o:Obj) {r:Nat} (h:r<w.heap.size):(w.alloc o).heap[r]?=w.heap[r]?:=Below.heap_alloc w o r h
theorem heap_alloc_new (w:World) (o:Obj):(w.alloc o).heap[w.heap.size]?=some o:=by
 show (w.heap.push o)[w.heap.size]?=_
 simp
theorem Ext.alloc {F:Nat→Prop} {w:World} (hs:∀ r,F r→r<w.heap.size) (o:Obj):Ext F w (w.alloc o):=
 ⟨by simp,fun r hr=>heap_alloc_lt w o (hs r hr)⟩
theorem later_setB {H:Nat→ABlk} {κ κ':Nat→KB} {b:Nat} {x:ABlk} (hg:(H b).gen<x.gen) (hκ:∀ b',b'≠b→κ' b'=κ b') :
  Later H κ (fun i=>if i=b then x else H i) κ':=by
 rw [later_iff]
 intro i
 by_cases hi:i=b
 ·subst hi
  simp only [if_true]
  exact ⟨by omega,fun h=>by omega⟩
 ·simp only [if_neg hi]
  rw [hκ i hi]
  exact Later1.refl _ _
theorem an_setB {H:Nat→ABlk} {κ κ':Nat→KB} {b:Nat} {x:ABlk} (hb:b<TMAX∨(x.body.isCells=false∧x.body.isMap=false)) (hκ:∀ b',b'≠b→κ' b'=κ b') :
  ∀ i,TMAX≤i→(if i=b then x else H i).body.isCells=true∨(if i=b then x else H i).body.isMap=true→κ' i=κ i∧((H i).body.isCells=true∨(H i).body.isMap=true):=by
 intro i hi h
 by_cases e:i=b
 ·subst e
  simp only [if_true] at h
  rcases hb with hb | ⟨h1,h2⟩
  ·omega
  ·rw [h1,h2] at h;simp at h
 ·simp only [if_neg e] at h
  exact ⟨hκ i e,h⟩
theorem RelK.alloc {C:Ctx} {s:AState} {a:Act} {w:World} {κ:Nat→KB} {F:Nat→Prop} (h:RelK C s a w κ F) {b:Nat} {x:ABlk} (hbn:b<TMAX) (hg:(s.blk b).gen<x.gen)
  {o:Obj} {k:KB} (hk:k.blk=w.heap.size)
  (hx:∀ (H:Nat→ABlk) (κ':Nat→KB),H=(fun i=>if i=b then x else s.blk i)→κ'=(fun i=>if i=b then k else κ i)→Later s.blk κ H κ'→HBody C.P H κ' F (w.alloc o) k x.body) (hxp:x.body.isPool=false:=by rfl) :
  RelK C (s.setB b x) a (w.alloc o) (fun i=>if i=b then k else κ i) F:=by
 have hl:Later s.blk κ (fun i=>if i=b then x else s.blk i) (fun i=>if i=b then k else κ i):=later_setB hg fun b' hb'=>by simp [hb']
 refine h.move (H':=fun i=>if i=b then x else s.blk i) hl (fun _ hr=>hr) (fun _ hr=>.inl hr) (by simp) (fun r hr _=>heap_alloc_lt w o hr) ⟨rfl,rfl,rfl⟩ (fun he=>?_) ?_ ?_ ?_ (an_setB (.inl hbn) fun b' hb'=>by simp [hb']) (pkeep_setB hxp)
 ·intro i
  by_cases hi:i=b
  ·subst hi
   simp only [HB,if_true]
   exact hx _ _ rfl rfl hl
  ·refine HB.other (h.blks i) hl (fun _ hr=>hr) he (by simp [hi]) (by simp [hi]) fun ho=>?_
   exact heap_alloc_lt w o (h.own i ho).1
 ·intro i hi
  by_cases hib:i=b
  ·subst hib
   simp only [if_true] at hi ⊢
   refine ⟨by rw [hk];simp,fun hf=>?_,.inr (by omega)⟩
   have:=h.fsz _ hf;omega
  ·simp only [if_neg hib] at hi ⊢
   have:=h.own i hi
   exact ⟨by simp;omega,this.2.1,.inl ⟨i,hi,rfl⟩⟩
 ·intro i j hi hj e
  by_cases hib:i=b<;>by_cases hjb:j=b
  ·rw [hib,hjb]
  ·simp only [if_pos hib,if_neg hjb] at hi hj e
   have:=(h.own j hj).1
   omega
  ·simp only [if_neg hib,if_pos hjb] at hi hj e
   have:=(h.own i hi).1
   omega
  ·simp only [if_neg hib,if_neg hjb] at hi hj e
   exact h.inj i j hi hj e
 ·intro r hr
  have:=h.fsz r hr
  simp;omega
theorem later_same {H:Nat→ABlk} {κ:Nat→KB} {b:Nat} {x:ABlk} (hg:x.gen=(H b).gen) (h1:x.body.isCells=true→(H b).body.isCells=true)
  (h2:x.body.isArr=true→(H b).body.isArr=true∧x.body.len=(H b).body.len∧x.body.esz=(H b).body.esz) (h3:x.body.isMap=true→(H b).body.isMap=true)
  (h4:x.body.isIt=true→(H b).body.isIt=true) :
  Later H κ (fun i=>if i=b then x else H i) κ:=by
 rw [later_iff]
 intro i
 by_cases hi:i=b
 ·subst hi
  simp only [if_true]
  exact ⟨by omega,fun _=>⟨fun h=>⟨h1 h,rfl⟩,fun h=>⟨(h2 h).1,rfl,(h2 h).2⟩,fun h=>⟨h3 h,rfl⟩,fun h=>⟨h4 h,rfl⟩⟩⟩
 ·simp only [if_neg hi]
  exact Later1.refl _ _
theorem an_same {H:Nat→ABlk} {κ:Nat→KB} {b:Nat} {x:ABlk} (h1:x.body.isCells=true→(H b).body.isCells=true) (h3:x.body.isMap=true→(H b).body.isMap=true) :
  ∀ i,TMAX≤i→(if i=b then x else H i).body.isCells=true∨(if i=b then x else H i).body.isMap=true→κ i=κ i∧((H i).body.isCells=true∨(H i).body.isMap=true):=by
 intro i _ h
 by_cases e:i=b
 ·subst e
  simp only [if_true] at h
  exact ⟨rfl,h.imp h1 h3⟩
 ·simp only [if_neg e] at h
  exact ⟨rfl,h⟩
theorem RelK.write {C:Ctx} {s:AState} {a:Act} {w w':World} {κ:Nat→KB} {F:Nat→Prop} (h:RelK C s a w κ F) {b:Nat} {x:ABlk}
  (hown:(s.blk b).body.owned (κ b)=true) (hown':x.body.owned (κ b)=true) (hl:Later s.blk κ (fun i=>if i=b then x else s.blk i) κ)
  (h1:x.body.isCells=true→(s.blk b).body.isCells=true) (h3:x.body.isMap=true→(s.blk b).body.isMap=true)
  (hw:∀ r,r≠(κ b).blk→w'.heap[r]?=w.heap[r]?) (hsz:w'.heap.size=w.heap.size) (hc:Calm w w')
  (hx:∀ (H:Nat→ABlk),H=(fun i=>if i=b then x else s.blk i)→Later s.blk κ H κ→Ext F w w'→HBody C.P H κ F w' (κ b) x.body) (hxp:x.body.isPool=false:=by rfl) :
  RelK C (s.setB b x) a w' κ F:=by
 have ho:=h.own b hown
 refine h.move (H':=fun i=>if i=b then x else s.blk i) hl (fun _ hr=>hr) (fun _ hr=>.inl hr) (by omega) (fun r _ hr=>hw r fun e=>hr b hown e.symm) hc (fun he=>?_) ?_ ?_ (fun r hr=>by rw [hsz];exact h.fsz r hr) (an_same h1 h3) (pkeep_setB hxp)
 ·intro i
  by_cases hi:i=b
  ·subst hi
   simp only [HB,if_true]
   exact hx _ rfl hl he
  ·refine HB.other (h.blks i) hl (fun _ hr=>hr) he (by simp [hi]) rfl fun hoi=>hw _ fun e=>hi (h.inj i b hoi hown e)
 ·intro i hi
  by_cases hib:i=b
  ·subst hib;exact ⟨by omega,ho.2.1,.inl ⟨i,hown,rfl⟩⟩
  ·simp only [if_neg hib] at hi
   have:=h.own i hi
   exact ⟨by omega,this.2.1,.inl ⟨i,hi,rfl⟩⟩
 ·intro i j hi hj e
  have hi':(s.blk i).body.owned (κ i)=true:=by
   by_cases hib:i=b
   ·subst hib;exact hown
   ·simpa [hib] using hi
  have hj':(s.blk j).body.owned (κ j)=true:=by
   by_cases hjb:j=b
   ·subst hjb;exact hown
   ·simpa [hjb] using hj
  exact h.inj i j hi' hj' e
theorem RelK.drew {C:Ctx} {s:AState} {a:Act} {w:World} {κ:Nat→KB} {F:Nat→Prop} (h:RelK C s a w κ F):RelK C s a w.drew κ F:=
 h.move (H':=s.blk) (Later.refl _ _) (fun _ hr=>hr) (fun _ hr=>.inl hr) (Nat.le_refl _) (fun _ _ _=>rfl) ⟨rfl,rfl,rfl⟩
  (fun _ b=>HB.other (h.blks b) (Later.refl _ _) (fun _ hr=>hr) ⟨Nat.le_refl _,fun _ _=>rfl⟩ rfl rfl fun _=>rfl) (fun b hb=>⟨(h.own b hb).1,(h.own b hb).2.1,.inl ⟨b,hb,rfl⟩⟩) h.inj h.fsz (fun _ _ h=>⟨rfl,h⟩) (PKeep.refl _)
def AState.le (s' s:AState):Prop:=(∀ i,s'.slot i=s.slot i∨s'.slot i=.undef)∧∀ b,s'.blk b=s.blk b∨s'.blk b=⟨(s.blk b).gen,.dead⟩
theorem RelK.weaken {C:Ctx} {s s':AState} {a:Act} {w:World} {κ:Nat→KB} {F:Nat→Prop} (h:RelK C s a w κ F) (hs:s'.le s):RelK C s' a w κ F:=by
 have hown:∀ b,(s'.blk b).body.owned (κ b)=true→(s.blk b).body.owned (κ b)=true:=fun b hb=>by
  rcases hs.2 b with e | e
  ·rw [←e];exact hb
  ·rw [e] at hb;cases hb
 have hl:Later s.blk κ s'.blk κ:=fun b=>by
  rcases hs.2 b with e | e
  ·rw [e];exact Later.refl _ _ b
  ·rw [e]
   exact ⟨Nat.le_refl _,fun _=>⟨fun h=>(by cases h),fun h=>(by cases h),fun h=>(by cases h),fun h=>(by cases h)⟩⟩
 have h2:=h.move hl (fun _ hr=>hr) (fun _ hr=>.inl hr) (Nat.le_refl _) (fun _ _ _=>rfl) (Calm.refl _)
  (fun _ b=>by
   rcases hs.2 b with e | e
   ·exact HB.other (h.blks b) hl (fun _ hr=>hr) (Ext.refl _ _) (by rw [e]) rfl fun _=>rfl
   ·unfold HB;rw [e];trivial)
  (fun b hb=>⟨(h.own b (hown b hb)).1,(h.own b (hown b hb)).2.1,.inl ⟨b,hown b hb,rfl⟩⟩) (fun b b' hb hb'=>h.inj b b' (hown b hb) (hown b' hb')) h.fsz (fun b _ hb=>⟨rfl,by
   rcases hs.2 b with e | e
   ·rw [e] at hb;exact hb
   ·rw [e] at hb;simp [Body.isCells,Body.isMap] at hb⟩) (fun e m hm=>by
   rcases hs.2 POOLN with k | k
   ·rw [←k];exact hm
   ·rw [k] at hm;cases hm)
 refine { h2 with slots:=fun i=>?_,tsz:=h2.tsz,dfr:=h2.dfr,pro:=fun l A L n st e=>?_,pool:=fun e m hm=>⟨(h2.pool e m hm).1,fun id xs hx=>⟨fun l A L n st ht=>?_,((h2.pool e m hm).2 id xs hx).2⟩⟩ }
 ·rcases hs.1 i with e | e
  ·rw [e];exact h2.slots i
  ·rw [e];trivial
 ·rcases hs.1 TRS with k | k
  ·exact h2.pro l A L n st (k ▸ e)
  ·rw [k] at e;cases e
 ·rcases hs.1 TRS with k | k
  ·exact ((h2.pool e m hm).2 id xs hx).1 l A L n st (k ▸ ht)
  ·rw [k] at ht;cases ht
end Go.Fer
namespace Go.Fer
inductive Rd (α:Type) where
 | ret (a:α)
 | get (b:Nat) (k:ABlk→Rd α)
def Rd.run {α:Type} (H:Nat→ABlk):Rd α→α
 | .ret a=>a
 | .get b k=>(k (H b)).run H
def Rd.looks {α:Type} (H:Nat→ABlk):Rd α→List Nat
 | .ret _=>[]
 | .get b k=>b::(k (H b)).looks H
def Rd.bind {α β:Type}:Rd α→(α→Rd β)→Rd β
 | .ret a,f=>f a
 | .get b k,f=>.get b fun x=>(k x).bind f
def Rd.map {α β:Type} (f:α→β) (m:Rd α):Rd β:=m.bind fun a=>.ret (f a)
def Rd.none {α:Type}:Rd (Option α):=.ret Option.none
def Rd.bindO {α β:Type} (m:Rd (Option α)) (f:α→Rd (Option β)):Rd (Option β):=m.bind fun | some a=>f a | Option.none=>.none
@[simp] theorem Rd.run_ret {α:Type} (H:Nat→ABlk) (a:α):(Rd.ret a).run H=a:=rfl
@[simp] theorem Rd.run_get {α:Type} (H:Nat→ABlk) (b:Nat) (k:ABlk→Rd α):(Rd.get b k).run H=(k (H b)).run H:=rfl
theorem Rd.run_bind {α β:Type} (H:Nat→ABlk) (m:Rd α) (f:α→Rd β):(m.bind f).run H=(f (m.run H)).run H:=by
 induction m with
 | ret a=>rfl
 | get b k ih=>simp [Rd.bind,ih]
theorem Rd.run_bindO {α β:Type} (H:Nat→ABlk) (m:Rd (Option α)) (f:α→Rd (Option β)):(m.bindO f).run H=(m.run H).bind fun a=>(f a).run H:=by
 unfold Rd.bindO
 rw [Rd.run_bind]
 cases m.run H<;>rfl
theorem Rd.run_congr {α:Type} {H H':Nat→ABlk}:∀ (m:Rd α),(∀ b∈m.looks H,H' b=H b)→m.run H'=m.run H∧m.looks H'=m.looks H
 | .ret a,_=>⟨rfl,rfl⟩
 | .get b k,h=>by
  have hb:=h b (by simp [Rd.looks])
  have:=Rd.run_congr (k (H b)) fun c hc=>h c (by simp [Rd.looks,hc])
  simp only [Rd.run,Rd.looks,hb,this]
  exact ⟨trivial,trivial⟩
def castDen (t t':Ty) (x:t.Den):Option t'.Den:=if h:t=t' then some (h ▸ x) else none
theorem castDen_some {t t':Ty} {x:t.Den} {y:t'.Den} (h:castDen t t' x=some y):∃ e:t=t',y=e ▸ x:=by
 unfold castDen at h
 split at h
 ·rename_i e
  exact ⟨e,(Option.some.inj h).symm⟩
 ·cases h
def rawDen:(t:Ty)→Value→Option t.Den
 | .ptr _,.pointer Option.none=>some Option.none
 | .map _ _,.map Option.none=>some []
 | _,_=>Option.none
def Ty.isAgg:Ty→Bool
 | .st _ | .array _ _=>true
 | _=>false
def asLeaf (t:Ty):AV→Rd (Option (t.Den×List Nat))
 | .val t' x=>.ret ((castDen t' t x).map (·,[]))
 | .nils=>match t with
  | .slice _=>.ret (some ([],[]))
  | .raws _=>.ret (some ((0,0,0),[]))
  | _=>.none
 | .own b g=>match t with
  | .slice e=>.get b fun x=>.ret (if x.gen=g then (match x.body with
    | .arr e' xs=>(castDen (.slice e') (.slice e) xs).map (·,[b])
    | .froz e' xs=>(castDen (.slice e') (.slice e) xs).map (·,[])
    | _=>Option.none) else Option.none)
  | _=>.none
 | .sub b g lo hi=>match t with
  | .slice e=>.get b fun x=>.ret (if x.gen=g then (match x.body with
    | .arr e' xs=>(castDen (.slice e') (.slice e) ((xs.take hi).drop lo)).map (·,[b])
    | .froz e' xs=>(castDen (.slice e') (.slice e) ((xs.take hi).drop lo)).map (·,[])
    | _=>Option.none) else Option.none)
  | _=>.none
 | .clp e' xs=>match t with
  | .slice e=>.ret ((castDen (.slice e') (.slice e) xs).map (·,[]))
  | _=>.none
 | .mapl b g=>match t with
  | .map k v=>.get b fun x=>.ret (if x.gen=g then (match x.body with
    | .mp k' v' es=>(castDen (.map k' v') (.map k v) es).map (·,[b])
    | .frzm k' v' es=>(castDen (.map k' v') (.map k v) es).map (·,[])
    | _=>Option.none) else Option.none)
  | _=>.none
 | .pp t' x=>match t with
  | .ptr e=>.ret ((castDen (.ptr t') (.ptr e) (some x)).map (·,[]))
  | _=>.none
 | .raw v=>.ret ((rawDen t v).map (·,[]))
 | _=>.none
def asPtr (e:Ty) (G:List AV→Rd (Option (e.Den×List Nat×List AV))) (av:AV):Rd (Option (Option e.Den×List Nat)):=
 match av with
 | .loc b g off=>.get b fun x=>if x.gen=g∧off=0 then (match x.body with
   | .frzc t' y=>.ret ((castDen t' e y).map fun z=>(some z,[]))
   | .cells t' f=>if t'=e then (G ((List.range e.size).map f)).bindO fun (y,l,r)=>.ret (if r.isEmpty then some (some y,b::l) else Option.none) else .none
   | _=>.none) else .none
 | av=>asLeaf (.ptr e) av
def gather:(t:Ty)→List AV→Rd (Option (t.Den×List Nat×List AV))
 | .unit,cs=>.ret (some ((),[],cs))
 | .st t,cs=>gather t cs
 | .prod a b,cs=>(gather a cs).bindO fun (x,l,r)=>(gather b r).bindO fun (y,m,q)=>.ret (some ((x,y),l++m,q))
 | .array n e,cs=>n.rec (motive:=fun _=>List AV→Rd (Option (List e.Den×List Nat×List AV))) (fun cs=>.ret (some ([],[],cs)))
   (fun _ ih cs=>(gather e cs).bindO fun (x,l,r)=>(ih r).bindO fun (xs,m,q)=>.ret (some (x::xs,l++m,q))) cs
 | .bool,cs=>match cs with | c::r=>(asLeaf .bool c).map fun o=>o.map fun (x,l)=>(x,l,r) | []=>.none
 | .int k,cs=>match cs with | c::r=>(asLeaf (.int k) c).map fun o=>o.map fun (x,l)=>(x,l,r) | []=>.none
 | .str,cs=>match cs with | c::r=>(asLeaf .str c).map fun o=>o.map fun (x,l)=>(x,l,r) | []=>.none
 | .slice e,cs=>match cs with | c::r=>(asLeaf (.slice e) c).map fun o=>o.map fun (x,l)=>(x,l,r) | []=>.none
 | .ptr e,cs=>match cs with | c::r=>(asPtr e (gather e) c).map fun o=>o.map fun (x,l)=>(x,l,r) | []=>.none
 | .map k v,cs=>match cs with | c::r=>(asLeaf (.map k v) c).map fun o=>o.map fun (x,l)=>(x,l,r) | []=>.none
 | .fn a b,cs=>match cs with | c::r=>(asLeaf (.fn a b) c).map fun o=>o.map fun (x,l)=>(x,l,r) | []=>.none
 | .it a,cs=>match cs with | c::r=>(asLeaf (.it a) c).map fun o=>o.map fun (x,l)=>(x,l,r) | []=>.none
 | .raws e,cs=>match cs with | c::r=>(asLeaf (.raws e) c).map fun o=>o.map fun (x,l)=>(x,l,r) | []=>.none
def asTop (t:Ty) (av:AV):Rd (Option (t.Den×List Nat)):=
 match t with
 | .ptr e=>asPtr e (gather e) av
 | t=>if t.isLeaf then asLeaf t av else .none
def asDen (t:Ty) (av:AV):Rd (Option (t.Den×List Nat)):=
 match av with
 | .val t' x=>.ret ((castDen t' t x).map (·,[]))
 | .agg n f=>if t.isLeaf then .none else (gather t ((List.range n).map f)).bindO fun (x,l,r)=>.ret (if r.isEmpty&&t.isAgg then some (x,l) else Option.none)
 | _=>asTop t av
def leafs:(t:Ty)→t.Den→List AV
 | .unit,_=>[]
 | .st t,x=>leafs t x
 | .prod a b,x=>leafs a x.1++leafs b x.2
 | .array n e,xs=>(List.range n).flatMap fun i=>leafs e (List.getD xs i e.dflt)
 | .bool,x=>[.val .bool x]
 | .int k,x=>[.val (.int k) x]
 | .str,x=>[.val .str x]
 | .slice e,x=>[.val (.slice e) x]
 | .ptr e,x=>[.val (.ptr e) x]
 | .map k v,x=>[.val (.map k v) x]
 | .fn a b,x=>[.val (.fn a b) x]
 | .it a,x=>[.val (.it a) x]
 | .raws e,x=>[.val (.raws e) x]
def zeros:Ty→List AV
 | .unit=>[]
 | .st t=>zeros t
 | .prod a b=>zeros a++zeros b
 | .array n e=>(List.range n).flatMap fun _=>zeros e
 | .bool=>[.val .bool false]
 | .int k=>[.val (.int k) (0:Int)]
 | .str=>[.val .str []]
 | .slice _=>[.nils]
 | .ptr e=>[.val (.ptr e) Option.none]
 | .map k v=>[.val (.map k v) []]
 | .fn _ _=>[.raw .nilFunc]
 | .it _=>[.raw .nilFunc]
 | .raws _=>[.nils]
def nthAV (l:List AV) (i:Nat):AV:=l.getD i .undef
def fieldTy:Ty→Nat→Option (Ty×Nat)
 | .prod a _,0=>some (a,0)
 | .prod a b,f+1=>(fieldTy b f).map fun (t,o)=>(t,a.size+o)
 | .unit,_=>Option.none
 | t,0=>some (t,0)
 | _,_+1=>Option.none
def fieldDen:(t:Ty)→t.Den→Nat→Option ((s:Ty)×s.Den)
 | .prod a _,x,0=>some ⟨a,x.1⟩
 | .prod _ b,x,f+1=>fieldDen b x.2 f
 | .unit,_,_=>Option.none
 | t,x,0=>some ⟨t,x⟩
 | _,_,_+1=>Option.none
def compAt:(t:Ty)→t.Den→Nat→(s:Ty)→Option s.Den
 | .st t,x,off,s=>if off=0∧Ty.st t=s then castDen (.st t) s x else compAt t x off s
 | .prod a b,x,off,s=>if off<a.size then compAt a x.1 off s else compAt b x.2 (off - a.size) s
 | .unit,_,_,_=>Option.none
 | .array _ _,_,_,_=>Option.none
 | .bool,x,off,s=>if off=0 then castDen .bool s x else Option.none
 | .int k,x,off,s=>if off=0 then castDen (.int k) s x else Option.none
 | .str,x,off,s=>if off=0 then castDen .str s x else Option.none
 | .slice e,x,off,s=>if off=0 then castDen (.slice e) s x else Option.none
 | .ptr e,x,off,s=>if off=0 then castDen (.ptr e) s x else Option.none
 | .map k v,x,off,s=>if off=0 then castDen (.map k v) s x else Option.none
 | .fn a b,x,off,s=>if off=0 then castDen (.fn a b) s x else Option.none
 | .it a,x,off,s=>if off=0 then castDen (.it a) s x else Option.none
 | .raws e,x,off,s=>if off=0 then castDen (.raws e) s x else Option.none
def compSet:(t:Ty)→t.Den→Nat→(s:Ty)→s.Den→Option t.Den
 | .st t,x,off,s,y=>if off=0∧s=Ty.st t then castDen s (.st t) y else compSet t x off s y
 | .prod a b,x,off,s,y=>if off<a.size then (compSet a x.1 off s y).map (·,x.2) else (compSet b x.2 (off - a.size) s y).map (x.1,·)
 | .unit,_,_,_,_=>Option.none
 | .array _ _,_,_,_,_=>Option.none
 | .bool,_,off,s,y=>if off=0 then castDen s .bool y else Option.none
 | .int k,_,off,s,y=>if off=0 then castDen s (.int k) y else Option.none
 | .str,_,off,s,y=>if off=0 then castDen s .str y else Option.none
 | .slice e,_,off,s,y=>if off=0 then castDen s (.slice e) y else Option.none
 | .ptr e,_,off,s,y=>if off=0 then castDen s (.ptr e) y else Option.none
 | .map k v,_,off,s,y=>if off=0 then castDen s (.map k v) y else Option.none
 | .fn a b,_,off,s,y=>if off=0 then castDen s (.fn a b) y else Option.none
 | .it a,_,off,s,y=>if off=0 then castDen s (.it a) y else Option.none
 | .raws e,_,off,s,y=>if off=0 then castDen s (.raws e) y else Option.none
def iand (k:IntKind) (a b:Int):Int:=k.wrap (BitVec.ofInt k.bits a&&& BitVec.ofInt k.bits b).toNat
def ior (k:IntKind) (a b:Int):Int:=k.wrap (BitVec.ofInt k.bits a||| BitVec.ofInt k.bits b).toNat
def ixor (k:IntKind) (a b:Int):Int:=k.wrap (BitVec.ofInt k.bits a ^^^ BitVec.ofInt k.bits b).toNat
def iandNot (k:IntKind) (a b:Int):Int:=k.wrap (BitVec.ofInt k.bits a&&& ~~~BitVec.ofInt k.bits b).toNat
def ishl (k:IntKind) (a b:Int):Int:=k.wrap (a*2 ^ (min b.toNat k.bits))
def ishr (k:IntKind) (a b:Int):Int:=a.fdiv (2 ^ (min b.toNat k.bits))
def nth (t:Ty) (xs:List t.Den) (i:Int):t.Den:=xs.getD i.toNat t.dflt
def lenLe (n:Nat):Prop:=n≤4294967296
def eqDen:(t:Ty)→t.Den→t.Den→Bool
 | .bool,x,y=>x == y
 | .int _,x,y=>decide ((x:Int)=y)
 | .str,x,y=>decide ((x:List UInt8)=y)
 | .st t,x,y=>eqDen t x y
 | .prod a b,x,y=>eqDen a x.1 y.1&&eqDen b x.2 y.2
 | _,_,_=>false
def Ty.comparable:Ty→Bool
 | .bool | .int _ | .str=>true
 | .st t=>t.comparable
 | .prod a b=>a.comparable&&b.comparable
 | _=>false
end Go.Fer
namespace Go.Fer
open Go.RowKit
section
variable {P:Program} {H:Nat→ABlk} {κ:Nat→KB} {F F':Nat→Prop} {w:World}
def AL (P:Program) (H:Nat→ABlk) (κ:Nat→KB) (F:Nat→Prop) (w:World):List AV→List Value→Prop
 | [],[]=>True
 | a::as,v::vs=>(RA P H κ F w a v∧v.oneCell'=true)∧AL P H κ F w as vs
 | _,_=>False
theorem AL.append:∀ {as bs:List AV} {us vs:List Value},AL P H κ F w as us→AL P H κ F w bs vs→AL P H κ F w (as++bs) (us++vs)
 | [],_,[],_,_,k=>k
 | _::_,_,_::_,_,h,k=>⟨h.1,AL.append h.2 k⟩
 | [],_,_::_,_,h,_=>h.elim
 | _::_,_,[],_,h,_=>h.elim
theorem AL.len:∀ {as:List AV} {us:List Value},AL P H κ F w as us→as.length=us.length
 | [],[],_=>rfl
 | _::_,_::_,h=>by simp [AL.len h.2]
 | [],_::_,h=>h.elim
 | _::_,[],h=>h.elim
theorem AL.nth:∀ {as:List AV} {us:List Value},AL P H κ F w as us→∀ i,i<as.length→RA P H κ F w (nthAV as i) (us.getD i Go.undef)∧(us.getD i Go.undef).oneCell'=true
 | a::as,v::vs,h,0,_=>h.1
 | a::as,v::vs,h,i+1,hi=>by
  have:=AL.nth h.2 i (by simpa using hi)
  simpa [nthAV] using this
 | [],[],_,i,hi=>by simp at hi
 | [],_::_,h,_,_=>h.elim
 | _::_,[],h,_,_=>h.elim
theorem AL.of_nth:∀ {as:List AV} {us:List Value},as.length=us.length→(∀ i,i<as.length→RA P H κ F w (nthAV as i) (us.getD i Go.undef)∧(us.getD i Go.undef).oneCell'=true)→AL P H κ F w as us
 | [],[],_,_=>trivial
 | a::as,v::vs,hl,h=>⟨h 0 (by simp),AL.of_nth (by simpa using hl) fun i hi=>by have:=h (i+1) (by simpa using hi);simpa [nthAV] using this⟩
 | [],_::_,hl,_=>by simp at hl
 | _::_,[],hl,_=>by simp at hl
theorem leafs_ok:∀ (t:Ty) {cs:List Value} {x:t.Den},RC P t F w cs x→AL P H κ F w (leafs t x) cs:=by
 have leaf:∀ (t:Ty),t.isLeaf=true→∀ {cs:List Value} {x:t.Den},RC P t F w cs x→AL P H κ F w [.val t x] cs:=by
  intro t ht cs x h
  obtain ⟨u,rfl,hu⟩:=leaf_cells ht h
  exact ⟨⟨(RV_leaf ht).2 ⟨hu,h⟩,leaf_one ht h⟩,trivial⟩
 intro t
 induction t with
 | bool=>intro cs x h;exact leaf _ rfl h
 | int k=>intro cs x h;exact leaf (.int k) rfl h
 | str=>intro cs x h;exact leaf _ rfl h
 | unit=>intro cs x h;simp only [RC] at h;subst h;trivial
 | st t ih=>intro cs x h;simp only [RC] at h;exact ih h
 | prod a b iha ihb=>
  intro cs x h
  simp only [RC] at h
  obtain ⟨c,d,rfl,ha,hb⟩:=h
  exact (iha ha).append (ihb hb)
 | slice e ih=>intro cs x h;exact leaf (.slice e) rfl h
 | array n e ih=>
  intro cs xs h
  simp only [RC] at h
  obtain ⟨css,rfl,h1,h2,h3⟩:=h
  simp only [leafs]
  have key:∀ (k:Nat) (l:List (List Value)),(∀ i (hi:i<l.length),AL P H κ F w (leafs e (List.getD xs (k+i) e.dflt)) l[i])→AL P H κ F w ((List.range' k l.length).flatMap fun i=>leafs e (List.getD xs i e.dflt)) l.flatten:=by
   intro k l
   induction l generalizing k with
   | nil=>intro _;trivial
   | cons c l ihl=>
    intro hh
    simp only [List.length_cons,List.range'_succ,List.flatMap_cons,List.flatten_cons]
    refine AL.append ?_ (ihl (k+1) fun i hi=>?_)
    ·have:=hh 0 (by simp);simpa using this
    ·have:=hh (i+1) (by simpa using hi)
     rw [show k+1+i=k+(i+1) from by omega]
     simpa using this
  rw [List.range_eq_range',←h1]
  refine key 0 css fun i hi=>?_
  have hi2:i<List.length xs:=by omega
  have:List.getD xs (0+i) e.dflt=xs[i]:=by simp [List.getD_eq_getElem?_getD,hi2]
  rw [this]
  exact ih (h3 i hi2 hi)
 | ptr e ih=>intro cs x h;exact leaf (.ptr e) rfl h
 | map k v ihk ihv=>intro cs x h;exact leaf (.map k v) rfl h
 | fn a b iha ihb=>intro cs x h;exact leaf (.fn a b) rfl h
 | it a ih=>intro cs x h;exact leaf (.it a) rfl h
 | raws e ih=>intro cs x h;exact leaf (.raws e) rfl h
theorem slice_of_arr {e:Ty} {xs:List e.Den} {k:KB} (hB:HBody P H κ F w k (.arr e xs)) (hF:∀ r,F r→F' r) (hk:k.isNil=false→F' k.blk):RC P (.slice e) F' w [k.slice xs.length] xs:=by
 obtain ⟨h1,h2⟩:=hB
 simp only [RC,KB.slice]
 cases hn:k.isNil with
 | true=>rw [h1 hn];exact ⟨none,0,rfl,Nat.le_refl _,by decide,fun _=>rfl,fun p hp=>by cases hp⟩
 | false=>
  obtain ⟨cs,T,c1,c2,c3,c4,c5⟩:=h2 hn
  refine ⟨some ⟨k.blk,k.off,none⟩,k.cap,by simp,c3,c4.1,(by simp),fun p hp _=>?_⟩
  cases hp
  refine ⟨hk hn,rfl,fun i hi=>?_⟩
  obtain ⟨ds,d1,d2⟩:=c5 i hi
  refine ⟨ds,⟨hk hn,rfl,fun j hj=>?_⟩,RC_mono e hF (Ext.refl F w) d2⟩
  simp only [World.cell?,c1]
  exact d1 j hj
theorem cast_RV {t t':Ty} {x:t.Den} {y:t'.Den} {v:Value} (hc:castDen t t' x=some y) (h:RV P t F w v x):RV P t' F w v y:=by
 obtain ⟨e,rfl⟩:=castDen_some hc
 subst e
 exact h
theorem cast_RC {t t':Ty} {x:t.Den} {y:t'.Den} {cs:List Value} (hc:castDen t t' x=some y) (h:RC P t F w cs x):RC P t' F w cs y:=by
 obtain ⟨e,rfl⟩:=castDen_some hc
 subst e
 exact h
def FzIn (H:Nat→ABlk) (κ:Nat→KB) (F':Nat→Prop) (l:List Nat):Prop:=∀ b∈l,(H b).body.owned (κ b)=true→F' (κ b).blk
theorem FzIn.left {l m:List Nat} (h:FzIn H κ F' (l++m)):FzIn H κ F' l:=fun b hb=>h b (List.mem_append_left _ hb)
theorem FzIn.right {l m:List Nat} (h:FzIn H κ F' (l++m)):FzIn H κ F' m:=fun b hb=>h b (List.mem_append_right _ hb)
theorem map_of_mp {kt vt:Ty} {es:List (kt.Den×vt.Den)} {k:KB} (hB:HBody P H κ F w k (.mp kt vt es)) (hF:∀ r,F r→F' r) (hk:F' k.blk):RC P (.map kt vt) F' w [.map (some k.blk)] es:=by
 obtain ⟨ms,clk,h1,h2⟩:=hB
 obtain ⟨h2,h3,h4,h5⟩:=h2.mono hF (Ext.refl F w)
 exact .inr ⟨_,ms,clk,rfl,hk,h1,h2,h3,h4,h5⟩
theorem sub_of_slice {e:Ty} {xs:List e.Den} {k:KB} {lo hi:Nat} {v:Value} (h:RC P (.slice e) F' w [k.slice xs.length] xs) (h1:lo≤hi) (h2:hi≤xs.length) (hs:IsSub k e.size lo hi v) :
  RC P (.slice e) F' w [v] ((xs.take hi).drop lo):=by
 have hlen:((xs.take hi).drop lo).length=hi - lo:=by simp;omega
 obtain ⟨a,cap,e1,c1,c2,c3,c4⟩:=h
 rcases hs with ⟨hn,rfl⟩ | ⟨hn,o,rfl,o1,o2⟩
 ·have:xs=[]:=by
   simp only [KB.slice,hn,if_true,List.cons.injEq,Value.slice.injEq,and_true] at e1
   exact List.length_eq_zero_iff.1 e1.2.1.symm
  subst this
  have e0:(([]:List e.Den).take hi).drop lo=[]:=by simp
  rw [e0]
  exact ⟨none,0,rfl,Nat.le_refl _,by decide,fun _=>rfl,fun p hp=>by cases hp⟩
 ·simp only [KB.slice,hn,Bool.false_eq_true,if_false,List.cons.injEq,Value.slice.injEq,and_true] at e1
  obtain ⟨rfl,_,rfl⟩:=e1
  refine ⟨some ⟨k.blk,o,none⟩,k.cap - lo,by rw [hlen],by omega,by omega,(by simp),fun p hp hc0=>?_⟩
  cases hp
  obtain ⟨d1,d2,d3⟩:=c4 _ rfl (by omega)
  refine ⟨d1,rfl,fun i hi'=>?_⟩
  obtain ⟨ds,m1,m2⟩:=d3 (lo+i) (by omega)
  refine ⟨ds,⟨d1,rfl,fun j hj=>?_⟩,?_⟩
  ·have:=m1.2.2 j hj
   rw [o2 (by omega)]
   rw [←this]
   simp only [Nat.add_mul]
   congr 2
   omega
  ·have e2:((xs.take hi).drop lo)[i]=xs[lo+i]'(by omega):=by simp
   rw [e2];exact m2
theorem asLeaf_ok (hB:∀ b,HB P H κ F w b) (hF:∀ r,F r→F' r) {t:Ty} (ht:t.isLeaf=true) {av:AV} {v:Value} {x:t.Den} {l:List Nat} (h:(asLeaf t av).run H=some (x,l))
  (hl:FzIn H κ F' l) (hv:RA P H κ F w av v):RV P t F' w v x:=by
 cases av with
 | undef=>cases h
 | whn b a=>cases h
 | loc b g off=>cases h
 | elm b g i off=>cases h
 | clo k n c=>cases h
 | bnd k n c=>cases h
 | tup n f=>cases h
 | agg n f=>cases h
 | iter b g=>cases h
 | tr l A L n st=>cases h
 | yld l=>cases h
 | clp e' xs=>
  cases t<;>simp only [asLeaf,Rd.none,Rd.run_ret,reduceCtorEq,Option.map_eq_some_iff,Prod.mk.injEq] at h
  obtain ⟨z,hz,rfl,rfl⟩:=h
  exact (cast_RV hz hv.1).mono hF (Ext.refl F w)
 | pel e id i=>cases h
 | sdt b g=>cases h
 | nos b g=>cases h
 | sub b g lo hi=>
  cases t<;>simp only [asLeaf,Rd.none,Rd.run_ret,Rd.run_get,reduceCtorEq] at h
  rename_i e
  split at h
  ·rename_i hg
   obtain ⟨hv1,hv2⟩:=hv
   have hBb:=hB b
   unfold HB at hBb
   cases hbody:(H b).body with
   | arr e' xs=>
    rw [hbody] at h hBb hv2
    simp only [Option.map_eq_some_iff,Prod.mk.injEq] at h
    obtain ⟨z,hz,rfl,rfl⟩:=h
    obtain ⟨⟨k1,k2⟩,k3⟩:=hv2 hg.symm rfl
    exact (RV_leaf rfl).2 ⟨one_cells hv1.2,cast_RC hz (sub_of_slice (slice_of_arr hBb hF fun hn=>hl b (by simp) (by rw [hbody];simp [Body.owned,hn])) k1 k2 k3)⟩
   | froz e' xs=>
    rw [hbody] at h hBb hv2
    simp only [Option.map_eq_some_iff,Prod.mk.injEq] at h
    obtain ⟨z,hz,rfl,rfl⟩:=h
    obtain ⟨⟨k1,k2⟩,k3⟩:=hv2 hg.symm rfl
    exact (RV_leaf rfl).2 ⟨one_cells hv1.2,cast_RC hz (sub_of_slice (RC_mono (.slice e') hF (Ext.refl F w) hBb) k1 k2 k3)⟩
   | _=>rw [hbody] at h;cases h
  ·cases h
 | mapl b g=>
  cases t<;>simp only [asLeaf,Rd.none,Rd.run_ret,Rd.run_get,reduceCtorEq] at h
  rename_i k e
  split at h
  ·rename_i hg
   obtain ⟨hv1,hv2⟩:=hv
   have hBb:=hB b
   unfold HB at hBb
   cases hbody:(H b).body with
   | mp k' v' es=>
    rw [hbody] at h hBb hv2
    simp only [Option.map_eq_some_iff,Prod.mk.injEq] at h
    obtain ⟨z,hz,rfl,rfl⟩:=h
    have:=hv2 hg.symm rfl
    subst this
    exact (RV_leaf rfl).2 ⟨rfl,cast_RC hz (map_of_mp hBb hF (hl b (by simp) (by rw [hbody];rfl)))⟩
   | frzm k' v' es=>
    rw [hbody] at h hBb hv2
    simp only [Option.map_eq_some_iff,Prod.mk.injEq] at h
    obtain ⟨z,hz,rfl,rfl⟩:=h
    have:=hv2 hg.symm rfl
    subst this
    exact (RV_leaf rfl).2 ⟨rfl,cast_RC hz (RC_mono (.map k' v') hF (Ext.refl F w) hBb)⟩
   | _=>rw [hbody] at h;cases h
  ·cases h
 | val t' y=>
  simp only [asLeaf,Rd.run_ret,Option.map_eq_some_iff,Prod.mk.injEq] at h
  obtain ⟨z,hz,rfl,rfl⟩:=h
  exact (cast_RV hz hv).mono hF (Ext.refl F w)
 | nils=>
  cases t<;>simp only [asLeaf,Rd.none,Rd.run_ret,reduceCtorEq,Option.some.injEq,Prod.mk.injEq] at h
  ·obtain ⟨rfl,rfl⟩:=h
   simp only [RA] at hv
   subst hv
   exact (RV_leaf rfl).2 ⟨rfl,none,0,rfl,Nat.le_refl _,by decide,fun _=>rfl,fun p hp=>by cases hp⟩
  ·obtain ⟨rfl,rfl⟩:=h
   simp only [RA] at hv
   subst hv
   exact (RV_leaf rfl).2 ⟨rfl,.inl ⟨rfl,rfl⟩⟩
 | own b g=>
  cases t<;>simp only [asLeaf,Rd.none,Rd.run_ret,Rd.run_get,reduceCtorEq] at h
  rename_i e
  split at h
  ·rename_i hg
   obtain ⟨hv1,hv2⟩:=hv
   have hBb:=hB b
   unfold HB at hBb
   cases hbody:(H b).body with
   | arr e' xs=>
    rw [hbody] at h hBb hv2
    simp only [Option.map_eq_some_iff,Prod.mk.injEq] at h
    obtain ⟨z,hz,rfl,rfl⟩:=h
    have:=hv2 hg.symm rfl
    simp only [Body.len] at this
    subst this
    refine (RV_leaf rfl).2 ⟨by unfold KB.slice;split<;>rfl,cast_RC hz (slice_of_arr hBb hF fun hn=>hl b (by simp) (by rw [hbody];simp [Body.owned,hn]))⟩
   | froz e' xs=>
    rw [hbody] at h hBb hv2
    simp only [Option.map_eq_some_iff,Prod.mk.injEq] at h
    obtain ⟨z,hz,rfl,rfl⟩:=h
    have:=hv2 hg.symm rfl
    simp only [Body.len] at this
    subst this
    exact (RV_leaf rfl).2 ⟨by unfold KB.slice;split<;>rfl,cast_RC hz (RC_mono _ hF (Ext.refl F w) hBb)⟩
   | _=>rw [hbody] at h;cases h
  ·cases h
 | pp t' y=>
  cases t<;>simp only [asLeaf,Rd.none,Rd.run_ret,reduceCtorEq,Option.map_eq_some_iff,Prod.mk.injEq] at h
  rename_i e
  obtain ⟨z,hz,rfl,rfl⟩:=h
  obtain ⟨p,ds,rfl,h2,h3⟩:=hv
  refine (RV_leaf rfl).2 ⟨rfl,cast_RC hz ?_⟩
  exact .inr ⟨p,y,ds,rfl,rfl,h2.mono hF (Ext.refl F w),RC_mono t' hF (Ext.refl F w) h3⟩
 | raw u=>
  simp only [RA] at hv
  subst hv
  simp only [asLeaf,Rd.run_ret,Option.map_eq_some_iff,Prod.mk.injEq] at h
  obtain ⟨z,hz,rfl,rfl⟩:=h
  unfold rawDen at hz
  split at hz
  ·cases hz;exact (RV_leaf rfl).2 ⟨rfl,.inl ⟨rfl,rfl⟩⟩
  ·cases hz;exact (RV_leaf rfl).2 ⟨rfl,.inl ⟨rfl,rfl⟩⟩
  ·cases hz
theorem agg_AL {n:Nat} {f:Nat→AV} {vs:List Value} (hl:vs.length=n) (h:∀ i,i<n→RA P H κ F w (f i) (vs.getD i Go.undef)∧(vs.getD i Go.undef).oneCell'=true) :
  AL P H κ F w ((List.range n).map f) vs:=by
 refine AL.of_nth (by simp [hl]) fun i hi=>?_
 have hi':i<n:=by simpa using hi
 have:nthAV ((List.range n).map f) i=f i:=by simp [nthAV,List.getD_eq_getElem?_getD,hi']
 rw [this]
 exact h i hi'
theorem asPtr_ok (hB:∀ b,HB P H κ F w b) (hF:∀ r,F r→F' r) {e:Ty} {G:List AV→Rd (Option (e.Den×List Nat×List AV))}
  (hG:∀ {cs:List AV} {vs:List Value} {x:e.Den} {l:List Nat} {r:List AV},(G cs).run H=some (x,l,r)→FzIn H κ F' l→AL P H κ F w cs vs→∃ c d,vs=c++d∧RC P e F' w c x∧AL P H κ F w r d)
  {av:AV} {v:Value} {x:Option e.Den} {l:List Nat} (h:(asPtr e G av).run H=some (x,l)) (hl:FzIn H κ F' l) (hv:RA P H κ F w av v):RV P (.ptr e) F' w v x:=by
 have rest:(asLeaf (.ptr e) av).run H=some (x,l)→RV P (.ptr e) F' w v x:=fun h=>asLeaf_ok hB hF rfl h hl hv
 cases av with
 | loc b g off=>
  simp only [asPtr,Rd.run_get] at h
  split at h
  ·rename_i hg
   obtain ⟨hg,rfl⟩:=hg
   obtain ⟨hv1,hv2⟩:=hv
   have hBb:=hB b
   unfold HB at hBb
   cases hbody:(H b).body with
   | frzc t y=>
    rw [hbody] at h hBb hv2
    simp only [Rd.run_ret,Option.map_eq_some_iff,Prod.mk.injEq] at h
    obtain ⟨z,hz,rfl,rfl⟩:=h
    obtain ⟨eq,rfl⟩:=castDen_some hz
    subst eq
    obtain rfl:=hv2 hg.symm rfl
    obtain ⟨ds,h1,h2⟩:=hBb
    exact (RV_leaf rfl).2 ⟨rfl,.inr ⟨_,_,ds,rfl,rfl,h1.mono hF (Ext.refl F w),RC_mono t hF (Ext.refl F w) h2⟩⟩
   | cells t f=>
    rw [hbody] at h hBb hv2
    simp only at h
    split at h
    ·rename_i ht
     subst ht
     simp only [Rd.run_bindO,Option.bind_eq_some_iff,Rd.run_ret] at h
     obtain ⟨⟨y,m,q⟩,h1,h2⟩:=h
     split at h2
     ·rename_i hq
      simp only [Option.some.injEq,Prod.mk.injEq] at h2
      obtain ⟨rfl,rfl⟩:=h2
      obtain rfl:=hv2 hg.symm rfl
      obtain ⟨cs,T,k1,k2,k3⟩:=hBb
      have hal:AL P H κ F w ((List.range t.size).map f) cs.toList:=agg_AL (by simpa using k2.1) fun i hi=>by
       have:=k3 i hi
       simpa [List.getD_eq_getElem?_getD,Array.getD_eq_getD_getElem?] using this
      obtain ⟨c,d,hcd,c1,c2⟩:=hG h1 (fun b' hb'=>hl b' (List.mem_cons_of_mem _ hb')) hal
      have hq:q=[]:=List.isEmpty_iff.1 hq
      subst hq
      cases d with
      | cons _ _=>exact c2.elim
      | nil=>
       rw [List.append_nil] at hcd
       refine (RV_leaf rfl).2 ⟨rfl,.inr ⟨_,y,c,rfl,rfl,⟨hl b (by simp) (by rw [hbody];rfl),rfl,fun j hj=>?_⟩,c1⟩⟩
       have hj':j<cs.size:=by rw [←hcd] at hj;simpa using hj
       simp only [World.cell?,k1,Nat.zero_add,Option.isSome_none,Bool.false_eq_true,if_false,Array.getElem?_eq_getElem hj']
       simp [←hcd]
     ·cases h2
    ·cases h
   | _=>rw [hbody] at h;cases h
  ·cases h
 | _=>exact rest h
theorem gather_ok (hB:∀ b,HB P H κ F w b) (hF:∀ r,F r→F' r):∀ (t:Ty) {cs:List AV} {vs:List Value} {x:t.Den} {l:List Nat} {r:List AV},(gather t cs).run H=some (x,l,r)→
  FzIn H κ F' l→AL P H κ F w cs vs→∃ c d,vs=c++d∧RC P t F' w c x∧AL P H κ F w r d:=by
 have leaf':∀ (t:Ty) (g:AV→Rd (Option (t.Den×List Nat))),t.isLeaf=true→(∀ {av:AV} {v:Value} {x:t.Den} {l:List Nat},(g av).run H=some (x,l)→FzIn H κ F' l→RA P H κ F w av v→RV P t F' w v x)→
   ∀ {cs:List AV} {vs:List Value} {x:t.Den} {l:List Nat} {r:List AV},
   (match cs with | c::r=>(g c).map fun o=>o.map fun (x,l)=>(x,l,r) | []=>.none:Rd (Option (t.Den×List Nat×List AV))).run H=some (x,l,r)→
   FzIn H κ F' l→AL P H κ F w cs vs→∃ c d,vs=c++d∧RC P t F' w c x∧AL P H κ F w r d:=by
  intro t g ht hg cs vs x l r h hl ha
  cases cs with
  | nil=>cases h
  | cons c cs=>
   cases vs with
   | nil=>exact ha.elim
   | cons v vs=>
    simp only [Rd.map,Rd.run_bind,Rd.run_ret,Option.map_eq_some_iff,Prod.mk.injEq] at h
    obtain ⟨⟨y,m⟩,hz,rfl,rfl,rfl⟩:=h
    refine ⟨[v],vs,rfl,?_,ha.2⟩
    exact ((RV_leaf ht).1 (hg hz hl ha.1.1)).2
 have leaf:∀ (t:Ty),t.isLeaf=true→∀ {cs:List AV} {vs:List Value} {x:t.Den} {l:List Nat} {r:List AV},
   (match cs with | c::r=>(asLeaf t c).map fun o=>o.map fun (x,l)=>(x,l,r) | []=>.none:Rd (Option (t.Den×List Nat×List AV))).run H=some (x,l,r)→
   FzIn H κ F' l→AL P H κ F w cs vs→∃ c d,vs=c++d∧RC P t F' w c x∧AL P H κ F w r d:=
  fun t ht=>leaf' t (asLeaf t) ht fun h hl hv=>asLeaf_ok hB hF ht h hl hv
 intro t
 induction t with
 | bool=>intro cs vs x l r h hl ha;exact leaf _ rfl h hl ha
 | int k=>intro cs vs x l r h hl ha;exact leaf (.int k) rfl h hl ha
 | str=>intro cs vs x l r h hl ha;exact leaf _ rfl h hl ha
 | unit=>
  intro cs vs x l r h hl ha
  simp only [gather,Rd.run_ret,Option.some.injEq,Prod.mk.injEq] at h
  obtain ⟨_,rfl,rfl⟩:=h
  exact ⟨[],vs,rfl,rfl,ha⟩
 | st t ih=>intro cs vs x l r h hl ha;exact ih h hl ha
 | prod a b iha ihb=>
  intro cs vs x l r h hl ha
  simp only [gather,Rd.run_bindO,Option.bind_eq_some_iff,Rd.run_ret,Option.some.injEq,Prod.mk.injEq] at h
  obtain ⟨⟨y,m,q⟩,h1,⟨z,m',q'⟩,h2,rfl,rfl,rfl⟩:=h
  obtain ⟨c,d,rfl,c1,c2⟩:=iha h1 hl.left ha
  obtain ⟨c',d',rfl,d1,d2⟩:=ihb h2 hl.right c2
  exact ⟨c++c',d',by simp,⟨c,c',rfl,c1,d1⟩,d2⟩
 | slice e ih=>intro cs vs x l r h hl ha;exact leaf (.slice e) rfl h hl ha
 | array n e ih=>
  intro cs vs xs l r h hl ha
  simp only [gather] at h
  have key:∀ (n:Nat) {cs:List AV} {vs:List Value} {xs:List e.Den} {l:List Nat} {r:List AV},
    (n.rec (motive:=fun _=>List AV→Rd (Option (List e.Den×List Nat×List AV))) (fun cs=>.ret (some ([],[],cs)))
     (fun _ ih cs=>(gather e cs).bindO fun (x,l,r)=>(ih r).bindO fun (xs,m,q)=>.ret (some (x::xs,l++m,q))) cs).run H=some (xs,l,r)→
    FzIn H κ F' l→AL P H κ F w cs vs→
    ∃ css d,vs=List.flatten css++d∧css.length=n∧xs.length=n∧(∀ i (h:i<xs.length) (h':i<css.length),RC P e F' w css[i] xs[i])∧AL P H κ F w r d:=by
   intro n
   induction n with
   | zero=>
    intro cs vs xs l r h hl ha
    cases h
    exact ⟨[],vs,rfl,rfl,rfl,fun i hi=>(by simp at hi),ha⟩
   | succ n ihn=>
    intro cs vs xs l r h hl ha
    simp only [Rd.run_bindO,Option.bind_eq_some_iff,Rd.run_ret,Option.some.injEq,Prod.mk.injEq] at h
    obtain ⟨⟨y,m,q⟩,h1,⟨z,m',q'⟩,h2,rfl,rfl,rfl⟩:=h
    obtain ⟨c,d,rfl,c1,c2⟩:=ih h1 hl.left ha
    obtain ⟨css,d',rfl,d1,d2,d3,d4⟩:=ihn h2 hl.right c2
    refine ⟨c::css,d',by simp,by simp [d1],by simp [d2],fun i hi hi'=>?_,d4⟩
    cases i with
    | zero=>exact c1
    | succ i=>exact d3 i (by simpa using hi) (by simpa using hi')
  obtain ⟨css,d,e1,e2,e3,e4,e5⟩:=key n h hl ha
  exact ⟨css.flatten,d,e1,⟨css,rfl,e2,e3,e4⟩,e5⟩
 | ptr e ih=>intro cs vs x l r h hl ha;exact leaf' (.ptr e) (asPtr e (gather e)) rfl (fun h hl hv=>asPtr_ok hB hF ih h hl hv) h hl ha
 | map k v ihk ihv=>intro cs vs x l r h hl ha;exact leaf (.map k v) rfl h hl ha
 | fn a b iha ihb=>intro cs vs x l r h hl ha;exact leaf (.fn a b) rfl h hl ha
 | it a ih=>intro cs vs x l r h hl ha;exact leaf (.it a) rfl h hl ha
 | raws e ih=>intro cs vs x l r h hl ha;exact leaf (.raws e) rfl h hl ha
theorem asDen_ok (hB:∀ b,HB P H κ F w b) (hF:∀ r,F r→F' r) {t:Ty} {av:AV} {v:Value} {x:t.Den} {l:List Nat} (h:(asDen t av).run H=some (x,l))
  (hl:FzIn H κ F' l) (hv:RA P H κ F w av v):RV P t F' w v x:=by
 have rest:(asTop t av).run H=some (x,l)→RV P t F' w v x:=by
  intro h
  unfold asTop at h
  split at h
  ·exact asPtr_ok hB hF (fun h hl ha=>gather_ok hB hF _ h hl ha) h hl hv
  ·split at h
   ·rename_i ht;exact asLeaf_ok hB hF ht h hl hv
   ·cases h
 cases av with
 | val t' y=>
  simp only [asDen,Rd.run_ret,Option.map_eq_some_iff,Prod.mk.injEq] at h
  obtain ⟨z,hz,rfl,rfl⟩:=h
  exact (cast_RV hz hv).mono hF (Ext.refl F w)
 | agg n f=>
  simp only [asDen] at h
  split at h
  ·cases h
  ·simp only [Rd.run_bindO,Option.bind_eq_some_iff,Rd.run_ret] at h
   obtain ⟨⟨y,m,q⟩,h1,h2⟩:=h
   split at h2
   ·rename_i hc
    simp only [Bool.and_eq_true,List.isEmpty_iff] at hc
    simp only [Option.some.injEq,Prod.mk.injEq] at h2
    obtain ⟨rfl,rfl⟩:=h2
    obtain ⟨vs,rfl,h4,h5⟩:=hv
    obtain ⟨c,d,rfl,c1,c2⟩:=gather_ok hB hF t h1 hl (agg_AL h4 h5)
    rw [hc.1] at c2
    cases d with
    | cons _ _=>exact c2.elim
    | nil=>
     rw [List.append_nil] at *
     have hlen:=RC_len t c1
     have hs:=hc.2
     cases t<;>simp only [Ty.isAgg,Bool.false_eq_true] at hs
     ·exact ⟨⟨c.toArray,rfl,by simpa [Ty.size] using hlen⟩,by simpa [Value.cells] using c1⟩
     ·exact ⟨⟨c.toArray,rfl,by simpa [Ty.size] using hlen⟩,by simpa [Value.cells] using c1⟩
   ·cases h2
 | undef=>exact rest h
 | whn b a=>exact rest h
 | loc b g off=>exact rest h
 | own b g=>exact rest h
 | elm b g i off=>exact rest h
 | pp t' y=>exact rest h
 | mapl b g=>exact rest h
 | clo k n c=>exact rest h
 | bnd k n c=>exact rest h
 | tup n f=>exact rest h
 | nils=>exact rest h
 | raw u=>exact rest h
 | iter b g=>exact rest h
 | tr l A L n st=>exact rest h
 | yld l=>exact rest h
 | clp e xs=>exact rest h
 | pel e id i=>exact rest h
 | sdt b g=>exact rest h
 | nos b g=>exact rest h
 | sub b g lo hi=>exact rest h
end
def Ty.pure:Ty→Bool
 | .bool | .int _ | .str | .unit | .raws _=>true
 | .st t=>t.pure
 | .prod a b=>a.pure&&b.pure
 | .array _ e=>e.pure
 | _=>false
theorem RC_pure {P:Program} {F F':Nat→Prop} {w w':World}:∀ (t:Ty) {cs:List Value} {x:t.Den},t.pure=true→RC P t F w cs x→RC P t F' w' cs x:=by
 intro t
 induction t with
 | bool=>intro cs x _ h;exact h
 | int k=>intro cs x _ h;exact h
 | str=>intro cs x _ h;exact h
 | unit=>intro cs x _ h;exact h
 | st t ih=>intro cs x ht h;exact ih ht h
 | prod a b iha ihb=>
  intro cs x ht h
  simp only [Ty.pure,Bool.and_eq_true] at ht
  obtain ⟨c,d,rfl,ha,hb⟩:=h
  exact ⟨c,d,rfl,iha ht.1 ha,ihb ht.2 hb⟩
 | slice e ih=>intro cs x ht;cases ht
 | array n e ih=>
  intro cs x ht h
  obtain ⟨css,rfl,h1,h2,h3⟩:=h
  exact ⟨css,rfl,h1,h2,fun i hi hi'=>ih ht (h3 i hi hi')⟩
 | ptr e ih=>intro cs x ht;cases ht
 | map k v ihk ihv=>intro cs x ht;cases ht
 | fn a b iha ihb=>intro cs x ht;cases ht
 | it a ih=>intro cs x ht;cases ht
 | raws e ih=>intro cs x _ h;exact h
end Go.Fer
namespace Go.Fer
open Go.RowKit
section
variable {P:Program} {F:Nat→Prop} {w:World}
theorem cast_refl {t:Ty} {x y:t.Den} (h:castDen t t x=some y):y=x:=by
 obtain ⟨e,rfl⟩:=castDen_some h
 rfl
theorem fieldDen_ok:∀ (t:Ty) {f:Nat} {cs:List Value} {x:t.Den} {s:Ty} {y:s.Den},RC P t F w cs x→fieldDen t x f=some ⟨s,y⟩→
  ∃ c1 c2 c3,cs=c1++(c2++c3)∧RC P s F w c2 y∧fieldTy t f=some (s,c1.length):=by
 have leaf:∀ (t:Ty),(∀ a b,t≠.prod a b)→t≠.unit→∀ {f:Nat} {cs:List Value} {x:t.Den} {s:Ty} {y:s.Den},RC P t F w cs x→fieldDen t x f=some ⟨s,y⟩→
   ∃ c1 c2 c3,cs=c1++(c2++c3)∧RC P s F w c2 y∧fieldTy t f=some (s,c1.length):=by
  intro t h1 h2 f cs x s y h hf
  cases f with
  | zero=>
   have e:fieldDen t x 0=some ⟨t,x⟩:=by cases t<;>first | rfl | exact absurd rfl (h1 _ _) | exact absurd rfl h2
   have e':fieldTy t 0=some (t,0):=by cases t<;>first | rfl | exact absurd rfl (h1 _ _) | exact absurd rfl h2
   rw [e] at hf
   cases hf
   exact ⟨[],cs,[],by simp,h,e'⟩
  | succ f=>
   have e:fieldDen t x (f+1)=none:=by cases t<;>first | rfl | exact absurd rfl (h1 _ _)
   rw [e] at hf
   cases hf
 intro t
 induction t with
 | prod a b iha ihb=>
  intro f cs x s y h hf
  simp only [RC] at h
  obtain ⟨c,d,rfl,ha,hb⟩:=h
  cases f with
  | zero=>
   simp only [fieldDen,Option.some.injEq,Sigma.mk.injEq] at hf
   obtain ⟨rfl,hf⟩:=hf
   cases hf
   exact ⟨[],c,d,by simp,ha,rfl⟩
  | succ f=>
   obtain ⟨c1,c2,c3,rfl,k1,k2⟩:=ihb hb hf
   refine ⟨c++c1,c2,c3,by simp,k1,?_⟩
   simp [fieldTy,k2,RC_len a ha]
 | unit=>intro f cs x s y _ hf;cases f<;>cases hf
 | bool=>exact leaf _ (by simp) (by simp)
 | int k=>exact leaf (.int k) (by simp) (by simp)
 | str=>exact leaf _ (by simp) (by simp)
 | st t _=>exact leaf (.st t) (by simp) (by simp)
 | slice e _=>exact leaf (.slice e) (by simp) (by simp)
 | array n e _=>exact leaf (.array n e) (by simp) (by simp)
 | ptr e _=>exact leaf (.ptr e) (by simp) (by simp)
 | map k v _ _=>exact leaf (.map k v) (by simp) (by simp)
 | fn a b _ _=>exact leaf (.fn a b) (by simp) (by simp)
 | it a _=>exact leaf (.it a) (by simp) (by simp)
 | raws e _=>exact leaf (.raws e) (by simp) (by simp)
theorem compAt_ok:∀ (t:Ty) {off:Nat} {cs:List Value} {x:t.Den} {s:Ty} {y:s.Den},RC P t F w cs x→compAt t x off s=some y→
  ∃ c1 c2 c3,cs=c1++(c2++c3)∧c1.length=off∧RC P s F w c2 y:=by
 have leaf:∀ (t:Ty) {off:Nat} {cs:List Value} {x:t.Den} {s:Ty} {y:s.Den},RC P t F w cs x→(if off=0 then castDen t s x else none)=some y→
   ∃ c1 c2 c3,cs=c1++(c2++c3)∧c1.length=off∧RC P s F w c2 y:=by
  intro t off cs x s y h hf
  split at hf
  ·rename_i ho
   exact ⟨[],cs,[],by simp,ho.symm,cast_RC hf h⟩
  ·cases hf
 intro t
 induction t with
 | prod a b iha ihb=>
  intro off cs x s y h hf
  simp only [RC] at h
  obtain ⟨c,d,rfl,ha,hb⟩:=h
  simp only [compAt] at hf
  split at hf
  ·obtain ⟨c1,c2,c3,rfl,k1,k2⟩:=iha ha hf
   exact ⟨c1,c2,c3++d,by simp,k1,k2⟩
  ·obtain ⟨c1,c2,c3,rfl,k1,k2⟩:=ihb hb hf
   have:=RC_len a ha
   exact ⟨c++c1,c2,c3,by simp,by simp;omega,k2⟩
 | st t ih=>
  intro off cs x s y h hf
  simp only [compAt] at hf
  split at hf
  ·rename_i ho
   exact ⟨[],cs,[],by simp,ho.1.symm,cast_RC hf h⟩
  ·simp only [RC] at h
   exact ih h hf
 | unit=>intro off cs x s y _ hf;cases hf
 | array n e _=>intro off cs x s y _ hf;cases hf
 | bool=>intro off cs x s y h hf;exact leaf _ h hf
 | int k=>intro off cs x s y h hf;exact leaf (.int k) h hf
 | str=>intro off cs x s y h hf;exact leaf _ h hf
 | slice e _=>intro off cs x s y h hf;exact leaf (.slice e) h hf
 | ptr e _=>intro off cs x s y h hf;exact leaf (.ptr e) h hf
 | map k v _ _=>intro off cs x s y h hf;exact leaf (.map k v) h hf
 | fn a b _ _=>intro off cs x s y h hf;exact leaf (.fn a b) h hf
 | it a _=>intro off cs x s y h hf;exact leaf (.it a) h hf
 | raws e _=>intro off cs x s y h hf;exact leaf (.raws e) h hf
theorem compSet_ok:∀ (t:Ty) {off:Nat} {cs ds:List Value} {x x':t.Den} {s:Ty} {y:s.Den},RC P t F w cs x→compSet t x off s y=some x'→RC P s F w ds y→
  ∃ c1 c2 c3,cs=c1++(c2++c3)∧c1.length=off∧c2.length=s.size∧RC P t F w (c1++(ds++c3)) x':=by
 have leaf:∀ (t:Ty) {off:Nat} {cs ds:List Value} {x x':t.Den} {s:Ty} {y:s.Den},RC P t F w cs x→(if off=0 then castDen s t y else none)=some x'→RC P s F w ds y→
   ∃ c1 c2 c3,cs=c1++(c2++c3)∧c1.length=off∧c2.length=s.size∧RC P t F w (c1++(ds++c3)) x':=by
  intro t off cs ds x x' s y h hf hd
  split at hf
  ·rename_i ho
   obtain ⟨e,rfl⟩:=castDen_some hf
   subst e
   exact ⟨[],cs,[],by simp,ho.symm,RC_len s h,by simpa using hd⟩
  ·cases hf
 intro t
 induction t with
 | prod a b iha ihb=>
  intro off cs ds x x' s y h hf hd
  simp only [RC] at h
  obtain ⟨c,d,rfl,ha,hb⟩:=h
  simp only [compSet] at hf
  split at hf
  ·simp only [Option.map_eq_some_iff] at hf
   obtain ⟨z,hz,rfl⟩:=hf
   obtain ⟨c1,c2,c3,rfl,k1,k2,k3⟩:=iha ha hz hd
   exact ⟨c1,c2,c3++d,by simp,k1,k2,⟨_,d,by simp,k3,hb⟩⟩
  ·simp only [Option.map_eq_some_iff] at hf
   obtain ⟨z,hz,rfl⟩:=hf
   obtain ⟨c1,c2,c3,rfl,k1,k2,k3⟩:=ihb hb hz hd
   have:=RC_len a ha
   exact ⟨c++c1,c2,c3,by simp,by simp;omega,k2,⟨c,_,by simp,ha,k3⟩⟩
 | st t ih=>
  intro off cs ds x x' s y h hf hd
  simp only [compSet] at hf
  split at hf
  ·rename_i ho
   obtain ⟨ho,e⟩:=ho
   subst e
   have:=cast_refl hf
   subst this
   exact ⟨[],cs,[],by simp,ho.symm,RC_len _ h,by simpa using hd⟩
  ·simp only [RC] at h ⊢
   exact ih h hf hd
 | unit=>intro off cs ds x x' s y _ hf;cases hf
 | array n e _=>intro off cs ds x x' s y _ hf;cases hf
 | bool=>intro off cs ds x x' s y h hf hd;exact leaf _ h hf hd
 | int k=>intro off cs ds x x' s y h hf hd;exact leaf (.int k) h hf hd
 | str=>intro off cs ds x x' s y h hf hd;exact leaf _ h hf hd
 | slice e _=>intro off cs ds x x' s y h hf hd;exact leaf (.slice e) h hf hd
 | ptr e _=>intro off cs ds x x' s y h hf hd;exact leaf (.ptr e) h hf hd
 | map k v _ _=>intro off cs ds x x' s y h hf hd;exact leaf (.map k v) h hf hd
 | fn a b _ _=>intro off cs ds x x' s y h hf hd;exact leaf (.fn a b) h hf hd
 | it a _=>intro off cs ds x x' s y h hf hd;exact leaf (.it a) h hf hd
 | raws e _=>intro off cs ds x x' s y h hf hd;exact leaf (.raws e) h hf hd
end
def zeroRest:Ty→List Value→Option (List Value)
 | .unit,cs=>some cs
 | .st t,cs=>zeroRest t cs
 | .prod a b,cs=>(zeroRest a cs).bind (zeroRest b)
 | .array n e,cs=>n.rec (motive:=fun _=>List Value→Option (List Value)) some (fun _ ih cs=>(zeroRest e cs).bind ih) cs
 | .bool,cs=>match cs with | .bool false::r=>some r | _=>none
 | .int k,cs=>match cs with | .int k' n::r=>if k'=k∧n=0 then some r else none | _=>none
 | .str,cs=>match cs with | .string s::r=>if s.size=0 then some r else none | _=>none
 | .slice _,cs=>match cs with | .slice none 0 0::r=>some r | _=>none
 | .ptr _,cs=>match cs with | .pointer none::r=>some r | _=>none
 | .map _ _,cs=>match cs with | .map none::r=>some r | _=>none
 | .fn _ _,cs=>match cs with | .nilFunc::r=>some r | _=>none
 | .it _,cs=>match cs with | .nilFunc::r=>some r | _=>none
 | .raws _,cs=>match cs with | .slice none 0 0::r=>some r | _=>none
theorem InR_zero (k:IntKind):InR k 0:=by cases k<;>decide
theorem zeroRest_ok {P:Program} {H:Nat→ABlk} {κ:Nat→KB} {F:Nat→Prop} {w:World}:∀ (t:Ty) {cs r:List Value},zeroRest t cs=some r→
  ∃ c,cs=c++r∧RC P t F w c t.dflt∧AL P H κ F w (zeros t) c:=by
 intro t
 induction t with
 | unit=>intro cs r h;cases h;exact ⟨[],by simp,rfl,trivial⟩
 | st t ih=>intro cs r h;exact ih h
 | prod a b iha ihb=>
  intro cs r h
  simp only [zeroRest,Option.bind_eq_some_iff] at h
  obtain ⟨q,h1,h2⟩:=h
  obtain ⟨c,rfl,c1,c2⟩:=iha h1
  obtain ⟨d,rfl,d1,d2⟩:=ihb h2
  exact ⟨c++d,by simp,⟨c,d,rfl,c1,d1⟩,c2.append d2⟩
 | array n e ih=>
  intro cs r h
  simp only [zeroRest] at h
  have key:∀ (n k:Nat) {cs r:List Value},n.rec (motive:=fun _=>List Value→Option (List Value)) some (fun _ ih cs=>(zeroRest e cs).bind ih) cs=some r→
    ∃ css:List (List Value),cs=css.flatten++r∧css.length=n∧(∀ c∈css,RC P e F w c e.dflt)∧AL P H κ F w ((List.range' k n).flatMap fun _=>zeros e) css.flatten:=by
   intro n
   induction n with
   | zero=>intro k cs r h;cases h;exact ⟨[],by simp,rfl,by simp,trivial⟩
   | succ n ihn=>
    intro k cs r h
    simp only [Option.bind_eq_some_iff] at h
    obtain ⟨q,h1,h2⟩:=h
    obtain ⟨c,rfl,c1,c2⟩:=ih h1
    obtain ⟨css,rfl,d1,d2,d3⟩:=ihn (k+1) h2
    refine ⟨c::css,by simp,by simp [d1],?_,?_⟩
    ·intro x hx
     cases hx with
     | head=>exact c1
     | tail _ hx=>exact d2 x hx
    ·simp only [List.range'_succ,List.flatMap_cons,List.flatten_cons]
     exact c2.append d3
  obtain ⟨css,rfl,h1,h2,h3⟩:=key n 0 h
  refine ⟨css.flatten,rfl,⟨css,rfl,h1,by simp [Ty.dflt],fun i hi hi'=>?_⟩,?_⟩
  ·have:(Ty.array n e).dflt[i]=e.dflt:=by simp [Ty.dflt]
   rw [this]
   exact h2 _ (List.getElem_mem _)
  ·simp only [zeros,List.range_eq_range']
   exact h3
 | bool=>
  intro cs r h
  simp only [zeroRest] at h
  split at h
  ·cases h;exact ⟨[.bool false],rfl,rfl,⟨RV_bool.2 rfl,rfl⟩,trivial⟩
  ·cases h
 | int k=>
  intro cs r h
  simp only [zeroRest] at h
  split at h
  ·split at h
   ·rename_i hk
    obtain ⟨rfl,rfl⟩:=hk
    cases h
    exact ⟨[.int _ 0],rfl,⟨rfl,InR_zero _⟩,⟨RV_int.2 ⟨rfl,InR_zero _⟩,rfl⟩,trivial⟩
   ·cases h
  ·cases h
 | str=>
  intro cs r h
  simp only [zeroRest] at h
  split at h
  ·rename_i s r'
   split at h
   ·rename_i hs
    cases h
    have:s=⟨([]:List UInt8).toArray⟩:=by
     cases s with | mk d=>simp only [ByteArray.size] at hs;simp [Array.eq_empty_of_size_eq_zero hs]
    subst this
    exact ⟨[.string ⟨([]:List UInt8).toArray⟩],rfl,⟨rfl,by decide⟩,⟨RV_str.2 ⟨rfl,by decide⟩,rfl⟩,trivial⟩
   ·cases h
  ·cases h
 | slice e _=>
  intro cs r h
  simp only [zeroRest] at h
  split at h
  ·cases h;exact ⟨[.slice none 0 0],rfl,⟨none,0,rfl,Nat.le_refl _,by decide,fun _=>rfl,fun p hp=>by cases hp⟩,⟨rfl,rfl⟩,trivial⟩
  ·cases h
 | ptr e _=>
  intro cs r h
  simp only [zeroRest] at h
  split at h
  ·cases h;exact ⟨[.pointer none],rfl,.inl ⟨rfl,rfl⟩,⟨(RV_leaf rfl).2 ⟨rfl,.inl ⟨rfl,rfl⟩⟩,rfl⟩,trivial⟩
  ·cases h
 | map k v _ _=>
  intro cs r h
  simp only [zeroRest] at h
  split at h
  ·cases h;exact ⟨[.map none],rfl,.inl ⟨rfl,rfl⟩,⟨(RV_leaf rfl).2 ⟨rfl,.inl ⟨rfl,rfl⟩⟩,rfl⟩,trivial⟩
  ·cases h
 | fn a b _ _=>
  intro cs r h
  simp only [zeroRest] at h
  split at h
  ·cases h
   exact ⟨[.nilFunc],rfl,⟨.nilFunc,rfl,⟨rfl,rfl⟩,fun F' w' _ _ _ _ args x _ _ hs=>(show False from hs).elim⟩,⟨rfl,rfl⟩,trivial⟩
  ·cases h
 | it a _=>
  intro cs r h
  simp only [zeroRest] at h
  split at h
  ·cases h
   exact ⟨[.nilFunc],rfl,⟨.nilFunc,rfl,⟨rfl,rfl⟩,fun F' w' _ _ _ _ hs=>(show ∃ _,False from hs).elim fun _ h=>h.elim⟩,⟨rfl,rfl⟩,trivial⟩
  ·cases h
 | raws e _=>
  intro cs r h
  simp only [zeroRest] at h
  split at h
  ·cases h;exact ⟨[.slice none 0 0],rfl,.inl ⟨rfl,rfl⟩,⟨rfl,rfl⟩,trivial⟩
  ·cases h
def infoOk (P:Program) (t:Ty) (id:TypeId):Bool:=
 match P.info? id with
 | some i=>i.size == t.size&&decide (i.bytes≤1024)&&(match i.zero with
  | some z=>(match zeroRest t z.cells.toList with | some []=>true | _=>false)&&(match t,z with
   | .st _,.agg _=>true
   | .array _ _,.agg _=>true
   | .st _,_=>false
   | .array _ _,_=>false
   | _,.agg _=>false
   | _,_=>true)
  | none=>false)
 | none=>false
def selfOk (P:Program) (t:Ty) (id:TypeId):Bool:=
 match t with
 | .prod (.ptr (.array n .unit)) _=>(match P.underlying n with | some (.pointer i)=>i == id | _=>false)
 | _=>true
def tyChk (P:Program):Ty→Sum TypeId (List Field×Nat)→Bool
 | .prod a b, .inr (f :: g :: [], off) => f.offset == off && tyChk P a (.inl f.type) && a.size != 0 && f.name != "_" && (g.offset == off + a.size && tyChk P b (.inl g.type) && b.size != 0 && g.name != "_")
 | .prod a b, .inr (f :: g :: h :: fs, off) => f.offset == off && tyChk P a (.inl f.type) && a.size != 0 && f.name != "_" && tyChk P b (.inr (g :: h :: fs, off + a.size))
 | .st t,.inl id=>(infoOk P (.st t) id&&selfOk P t id)&&!P.stoodInHeld id&&!P.eqGuardType P.depth id&&match P.underlying id with
  | some (.struct fs)=>(match fs.toList with
   | []=>decide (t=.unit)
   | [f] => f.offset == 0 && tyChk P t (.inl f.type) && t.size != 0 && f.name != "_"
   | l=>tyChk P t (.inr (l,0)))
  | _=>false
 | .bool,.inl id=>infoOk P .bool id&&(match P.underlying id with | some .bool=>true | _=>false)
 | .int k,.inl id=>infoOk P (.int k) id&&(match P.underlying id with | some (.int k')=>decide (k'=k) | _=>false)
 | .str,.inl id=>infoOk P .str id&&(match P.underlying id with | some .string=>true | _=>false)
 | .slice e,.inl id=>infoOk P (.slice e) id&&(match P.underlying id with | some (.slice i)=>tyChk P e (.inl i)&&e.size != 0 | _=>false)
 | .array n e,.inl id=>infoOk P (.array n e) id&&(match P.underlying id with | some (.array m i)=>decide (m=n)&&tyChk P e (.inl i)&&e.size != 0 | _=>false)
 | .ptr e,.inl id=>infoOk P (.ptr e) id&&(match P.underlying id with | some (.pointer i)=>(match e with | .array n .unit=>n == id | _=>false)||(tyChk P e (.inl i)&&e.size != 0) | _=>false)
 | .map k v,.inl id=>infoOk P (.map k v) id&&(match P.underlying id with | some (.map i j)=>tyChk P k (.inl i)&&tyChk P v (.inl j) | _=>false)
 | .fn a b,.inl id=>infoOk P (.fn a b) id&&(match P.underlying id with | some (.func _ _ _)=>true | _=>false)
 | .it a,.inl id=>infoOk P (.it a) id&&(match P.underlying id with | some (.func _ _ _)=>true | _=>false)
 | .raws e,.inl id=>infoOk P (.raws e) id&&(match P.underlying id with | some (.slice i)=>tyChk P e (.inl i)&&e.size != 0 | _=>false)
 | _,_=>false
def TyIs (P:Program) (t:Ty) (id:TypeId):Prop:=tyChk P t (.inl id)=true
theorem TyIs.info {P:Program} {t:Ty} {id:TypeId} (h:TyIs P t id):infoOk P t id=true:=by
 unfold TyIs at h
 cases t<;>simp only [tyChk,Bool.and_eq_true,Bool.false_eq_true] at h<;>first | exact h.1.1.1.1 | exact h.1
theorem infoOk_out {P:Program} {t:Ty} {id:TypeId} (h:infoOk P t id=true):∃ i z,P.info? id=some i∧i.size=t.size∧i.bytes≤1024∧i.zero=some z∧
  zeroRest t z.cells.toList=some []∧((∃ cs,z=.agg cs)↔t.isAgg=true):=by
 unfold infoOk at h
 split at h
 ·rename_i i hi
  simp only [Bool.and_eq_true,beq_iff_eq,decide_eq_true_eq] at h
  obtain ⟨⟨h1,h2⟩,h3⟩:=h
  split at h3
  ·rename_i z hz
   simp only [Bool.and_eq_true] at h3
   obtain ⟨h4,h5⟩:=h3
   refine ⟨i,z,hi,h1,h2,hz,?_,?_⟩
   ·split at h4
    ·assumption
    ·cases h4
   ·cases t<;>cases z<;>simp_all [Ty.isAgg]
  ·cases h3
 ·cases h
end Go.Fer
namespace Go.Fer
open Go.RowKit
structure OpRes where
 ob:Prop
 c:Prop
 dv:AV
 wb:List (Nat×ABlk)
def use:AV→Prop×AV
 | .whn b a=>(b=true,a)
 | a=>(True,a)
def constAV:Value→AV
 | .bool b=>.val .bool b
 | .int k n=>if InR k n then .val (.int k) n else .raw (.int k n)
 | .string s=>if s.size<1048576 then .val .str s.data.toList else .raw (.string s)
 | .slice none 0 0=>.nils
 | v=>.raw v
def opAV (U:FnTab) (s:Nat→AV):Operand→AV
 | .tmp t=>s t
 | .const v=>constAV v
 | .func f=>match U.fnv f with
  | some v=>.val (.fn v.ts v.tr) v.sh
  | none=>.clo f 0 fun _=>.undef
 | .global _=>.undef
structure FC where
 ts:Ty
 tr:Ty
 pre:ts.Den→Prop
 g:ts.Den→tr.Den
def resAV:(t:Ty)→t.Den→Nat→AV
 | .prod a _,x,0=>.val a x.1
 | .prod _ b,x,i+1=>resAV b x.2 i
 | t,x,0=>.val t x
 | _,_,_+1=>.undef
def resN:Ty→Nat
 | .prod _ b=>resN b+1
 | .unit=>0
 | _=>1
def resV (t:Ty) (x:t.Den):AV:=
 match t with
 | .prod a b=>.tup (resN (.prod a b)) (resAV (.prod a b) x)
 | .unit=>.raw (.tuple #[])
 | t=>.val t x
def asArgs:(t:Ty)→List AV→Rd (Option (t.Den×List Nat))
 | .prod a b,v::vs=>(asDen a v).bindO fun (x,l)=>(asArgs b vs).bindO fun (y,m)=>.ret (some ((x,y),l++m))
 | .prod _ _,[]=>.none
 | .unit,[]=>.ret (some ((),[]))
 | .unit,_::_=>.none
 | t,[v]=>asDen t v
 | _,_=>.none
def frzB:List Nat→Rd (List (Nat×ABlk))
 | []=>.ret []
 | b::l=>.get b fun x=>(frzB l).bind fun r=>match x.body with
  | .arr e xs=>.ret ((b,⟨x.gen,.froz e xs⟩)::r)
  | .mp k v es=>.ret ((b,⟨x.gen,.frzm k v es⟩)::r)
  | .cells t f=>(gather t ((List.range t.size).map f)).bind fun o=>.ret (match o with
   | some (y,_,[])=>(b,⟨x.gen,.frzc t y⟩)::r
   | _=>r)
  | _=>.ret r
def cellsOf (t:Ty) (av:AV):Option (List AV):=
 match t,av with
 | .st t,.val (.st t') x=>if t'=t then some (leafs t' x) else none
 | .st t,.agg n f=>if n=t.size then some ((List.range n).map f) else none
 | .array n e,.val (.array n' e') x=>if n'=n∧e'=e then some (leafs (.array n' e') x) else none
 | .array n e,.agg m f=>if m=n*e.size then some ((List.range m).map f) else none
 | t,av=>if t.isLeaf then (match av with
  | .val t' _=>if t'.isLeaf then some [av] else none
  | .loc _ _ _ | .own _ _ | .elm _ _ _ _ | .pp _ _ | .mapl _ _ | .clo _ _ _ | .nils | .sub _ _ _ _=>some [av]
  | .raw (.agg _) | .raw (.tuple _)=>none
  | .raw _=>some [av]
  | _=>none) else none
def AV.int?:AV→Option (IntKind×Int)
 | .val (.int k) x=>some (k,x)
 | _=>none
def AV.str?:AV→Option (List UInt8)
 | .val .str x=>some x
 | _=>none
def intOp (op:BinOp) (k:IntKind) (a b:Int):Option (Prop×AV):=
 match op with
 | .add=>some (True,.val (.int k) (k.wrap (a+b)))
 | .sub=>some (True,.val (.int k) (k.wrap (a - b)))
 | .mul=>some (True,.val (.int k) (k.wrap (a*b)))
 | .quo=>some (b≠0,.val (.int k) (k.wrap (a.tdiv b)))
 | .rem=>some (b≠0,.val (.int k) (a.tmod b))
 | .and=>some (True,.val (.int k) (iand k a b))
 | .or=>some (True,.val (.int k) (ior k a b))
 | .xor=>some (True,.val (.int k) (ixor k a b))
 | .andNot=>some (True,.val (.int k) (iandNot k a b))
 | .eql=>some (True,.val .bool (decide (a=b)))
 | .neq=>some (True,.val .bool (decide (a≠b)))
 | .lss=>some (True,.val .bool (decide (a<b)))
 | .leq=>some (True,.val .bool (decide (a≤b)))
 | .gtr=>some (True,.val .bool (decide (a > b)))
 | .geq=>some (True,.val .bool (decide (a≥b)))
 | _=>none
def shiftOp (op:BinOp) (k:IntKind) (a b:Int):Option (Prop×AV):=
 match op with
 | .shl=>some (0≤b,.val (.int k) (ishl k a b))
 | .shr=>some (0≤b,.val (.int k) (ishr k a b))
 | _=>none
def strOp (op:BinOp) (a b:List UInt8):Option (Prop×AV):=
 match op with
 | .add=>some (lenLe (a.length+b.length),.val .str (a++b))
 | .eql=>some (True,.val .bool (decide (a=b)))
 | .neq=>some (True,.val .bool (decide (a≠b)))
 | .lss=>some (True,.val .bool (Op.bytesLess a b))
 | .geq=>some (True,.val .bool (!Op.bytesLess a b))
 | _=>none
def Ty.nest:Ty→Nat
 | .st t=>t.nest+1
 | .prod a b=>max a.nest b.nest
 | _=>1
def eqOp (op:BinOp) (t:Ty) (x y:AV):Rd (Option (Prop×AV)):=
 (match t,x,y with
 | .ptr _,.val (.ptr _) p,.raw (.pointer none)=>.ret (some p.isNone)
 | .ptr _,.pp _ _,.raw (.pointer none)=>.ret (some false)
 | .ptr _,.loc b g _,.raw (.pointer none)=>.get b fun z=>.ret (if z.gen=g&&z.body.isCells then some false else none)
 | t,x,y=>if t.comparable&&decide (t.nest≤100) then (asDen t x).bindO fun (a,_)=>(asDen t y).bindO fun (b,_)=>.ret (some (eqDen t a b)) else .none:Rd (Option Bool)).bindO fun e=>
 .ret (match op with
  | .eql=>some (True,.val .bool e)
  | .neq=>some (True,.val .bool (!e))
  | _=>none)
def okRes (ob c:Prop) (v:AV):Rd (Option OpRes):=.ret (some ⟨ob,c,v,[]⟩)
def lenV (t:Ty) (av:AV):Rd (Option (Prop×Int)):=
 match t with
 | .slice _=>match av with
  | .val (.slice _) xs=>.ret (some (True,xs.length))
  | .nils=>.ret (some (True,0))
  | .own b g=>.get b fun x=>.ret (if x.gen=g&&x.body.isArr then some (True,x.body.len) else none)
  | .sub b g lo hi=>.get b fun x=>.ret (if x.gen=g&&x.body.isArr then some (True,((hi - lo:Nat):Int)) else none)
  | _=>.none
 | .str=>match av with
  | .val .str xs=>.ret (some (True,xs.length))
  | _=>.none
 | .map _ _=>match av with
  | .val (.map _ _) xs=>.ret (some (lenLe xs.length,xs.length))
  | .mapl b g=>.get b fun x=>.ret (if x.gen=g then (match x.body with | .mp _ _ es=>some (lenLe es.length,(es.length:Int)) | .frzm _ _ es=>some (lenLe es.length,(es.length:Int)) | _=>none) else none)
  | _=>.none
 | _=>.none
def loadV (t:Ty):AV→Rd (Option AV)
 | .pp t' x=>.ret (if t'=t∧(t.isLeaf||t.isAgg)=true then some (.val t' x) else none)
 | .loc b g off=>.get b fun x=>.ret (if x.gen=g then (match x.body with
   | .cells t0 f=>if t.isLeaf then (if off<t0.size then some (f off) else none) else if t.isAgg then (if off+t.size≤t0.size then some (.agg t.size fun i=>f (off+i)) else none) else none
   | .frzc t0 y=>if t.isLeaf||t.isAgg then (compAt t0 y off t).map (.val t) else none
   | _=>none) else none)
 | .elm b g i off=>.get b fun x=>.ret (if x.gen=g then (match x.body with
   | .arr e xs=>if t.isLeaf||t.isAgg then (compAt e (xs.getD i e.dflt) off t).map (.val t) else none
   | .froz e xs=>if t.isLeaf||t.isAgg then (compAt e (xs.getD i e.dflt) off t).map (.val t) else none
   | _=>none) else none)
 | _=>.none
def putCells (f:Nat→AV) (off:Nat) (l:List AV):Nat→AV:=fun i=>if off≤i∧i<off+l.length then l.getD (i - off) .undef else f i
def storeV (t:Ty) (p v:AV):Rd (Option (List (Nat×ABlk))):=
 match p with
 | .loc b g off=>.get b fun x=>.ret (if x.gen=g then (match x.body with
   | .cells t0 f=>(cellsOf t v).bind fun l=>if off+l.length≤t0.size∧l.length=t.size then some [(b,⟨x.gen,.cells t0 (putCells f off l)⟩)] else none
   | _=>none) else none)
 | .elm b g i off=>(asDen t v).bindO fun (y,l)=>(frzB l).bind fun wl=>.get b fun x=>.ret (if x.gen=g∧!l.contains b then (match x.body with
   | .arr e xs=>(compSet e (xs.getD i e.dflt) off t y).map fun z=>wl++[(b,⟨x.gen,.arr e (xs.set i z)⟩)]
   | _=>none) else none)
 | _=>.none
def indexV (e0:Ty) (x:AV) (i:Int):Rd (Option (Prop×AV)):=
 match x with
 | .val (.slice e) xs=>.ret (if e=e0 then some (0≤i∧i<(xs.length:Int),.pp e (nth e xs i)) else none)
 | .own b g=>.get b fun z=>.ret (if z.gen=g then (match z.body with
   | .arr e xs=>if e=e0 then some (0≤i∧i<(xs.length:Int),.elm b g i.toNat 0) else none
   | .froz e xs=>if e=e0 then some (0≤i∧i<(xs.length:Int),.pp e (nth e xs i)) else none
   | _=>none) else none)
 | .sub b g lo hi=>.get b fun z=>.ret (if z.gen=g then (match z.body with
   | .arr e _=>if e=e0 then some (0≤i∧i<((hi - lo:Nat):Int),.elm b g (lo+i.toNat) 0) else none
   | .froz e xs=>if e=e0 then some (0≤i∧i<((hi - lo:Nat):Int),.pp e (nth e xs ((lo:Int)+i))) else none
   | _=>none) else none)
 | .nils=>.ret (some (False,.pp e0 e0.dflt))
 | _=>.none
def loB:Option Int→Int | some l=>l | none=>0
def hiB (n:Nat):Option Int→Int | some h=>h | none=>n
def subLim (lo hi:Option Int) (n m:Nat):Nat:=match lo,hi with | some _,some _=>m | _,_=>n
def sliceV (e0:Ty) (x:AV) (lo hi:Option Int):Rd (Option (Prop×AV)):=
 match x with
 | .val (.slice e) xs=>.ret (if e=e0 then some (0≤loB lo∧loB lo≤hiB xs.length hi∧hiB xs.length hi≤(xs.length:Int),.val (.slice e) ((xs.take (hiB xs.length hi).toNat).drop (loB lo).toNat)) else none)
 | .nils=>.ret (some (0≤loB lo∧loB lo≤hiB 0 hi∧hiB 0 hi≤0,.nils))
 | .own b g=>.get b fun z=>.ret (if z.gen=g&&z.body.isArr&&z.body.esz == e0.size then some (0≤loB lo∧loB lo≤hiB z.body.len hi∧hiB z.body.len hi≤(z.body.len:Int),.sub b g (loB lo).toNat (hiB z.body.len hi).toNat) else none)
 | .sub b g l0 h0=>.get b fun z=>.ret (if z.gen=g&&z.body.isArr&&z.body.esz == e0.size then some (0≤loB lo∧loB lo≤hiB (h0 - l0) hi∧hiB (h0 - l0) hi≤((subLim lo hi (h0 - l0) (z.body.len - l0):Nat):Int),.sub b g (l0+(loB lo).toNat) (l0+(hiB (h0 - l0) hi).toNat)) else none)
 | _=>.none
def sliceSV (x:AV) (lo hi:Option Int):Option (Prop×AV):=
 match x with
 | .val .str xs=>some (0≤loB lo∧loB lo≤hiB xs.length hi∧hiB xs.length hi≤(xs.length:Int),.val .str ((xs.take (hiB xs.length hi).toNat).drop (loB lo).toNat))
 | _=>none
def newB (d:Option Nat) (k:Nat→Nat→Option OpRes):Rd (Option OpRes):=
 match d with
 | none=>.none
 | some d=>.get d fun x=>.ret (k d (x.gen+1))
def appendV (d:Option Nat) (e:Ty) (x y:AV) (ob:Prop):Rd (Option OpRes):=
 match x with
 | .own b g=>.get b fun z=>match (if z.gen=g then z.body else .dead) with
  | .arr e' xs=>if h:e'=e then (asDen (.slice e) y).bindO fun (ys,_)=>.ret (some ⟨ob,lenLe (xs.length+ys.length),.own b (g+1),[(b,⟨g+1,.arr e ((h ▸ xs)++ys)⟩)]⟩) else .none
  | _=>.none
 | .sub b g lo hi=>.get b fun z=>match (if z.gen=g then z.body else .dead) with
  | .arr e' xs=>if h:e'=e then (asDen (.slice e) y).bindO fun (ys,_)=>.ret (some ⟨ob,lenLe (((xs.take hi).drop lo).length+ys.length),.own b (g+2),[(b,⟨g+2,.arr e ((h ▸ (xs.take hi).drop lo)++ys)⟩)]⟩) else .none
  | _=>.none
 | .nils=>(asDen (.slice e) y).bindO fun (ys,_)=>newB d fun b g=>some ⟨ob,lenLe ys.length,.own b g,[(b,⟨g,.arr e ys⟩)]⟩
 | .clp e' xs=>if h:e'=e then (asDen (.slice e) y).bindO fun (ys,_)=>newB d fun b g=>some ⟨ob,0<ys.length∧lenLe (xs.length+ys.length),.own b g,[(b,⟨g,.arr e ((h ▸ xs)++ys)⟩)]⟩ else .none
 | _=>.none
def fillAV (t:Ty):List AV→List (Nat×AV)→Option (List AV)
 | cs,[]=>some cs
 | cs,(i,av)::r=>
  match fieldTy t i with
  | none=>none
  | some (s,off)=>match cellsOf s av with
   | none=>none
   | some l=>if l.length=s.size∧off+s.size≤cs.length then fillAV t (cs.take off++(l++cs.drop (off+s.size))) r else none
def elemsD (e:Ty) (ps:List (Nat×AV)):Nat→Nat→Rd (Option (List e.Den×List Nat))
 | _,0=>.ret (some ([],[]))
 | i,n+1=>(match ps.find? (fun p=>p.1 == i) with
   | some p=>asDen e p.2
   | none=>.ret (some (e.dflt,[])):Rd (Option (e.Den×List Nat))).bindO fun (x,l)=>(elemsD e ps (i+1) n).bindO fun (xs,m)=>.ret (some (x::xs,l++m))
def usesOb (ps:List (Nat×AV)):Prop:=ps.foldr (fun p q=>match p.2 with | .whn b _=>b=true∧q | _=>q) True
def useL (ps:List (Nat×AV)):List (Nat×AV):=ps.map fun p=>(p.1,(use p.2).2)
def usesObL (ps:List AV):Prop:=ps.foldr (fun p q=>match p with | .whn b _=>b=true∧q | _=>q) True
def boundV (ρ:Operand→AV):Option Operand→Option (Prop×Option Int)
 | none=>some (True,none)
 | some x=>match use (ρ x) with
  | (o,.val (.int _) n)=>some (o,some n)
  | _=>none
def sliceOpV (T:Nat→Ty) (ρ:Operand→AV) (ty:TypeId) (x:Operand) (lo hi:Option Operand):Rd (Option OpRes):=
 let (ox,vx):=use (ρ x)
 match boundV ρ lo,boundV ρ hi with
 | some (ol,l),some (oh,h)=>match T ty with
  | .slice e=>(sliceV e vx l h).bindO fun (c,v)=>okRes (ox∧(ol∧oh)) c v
  | .str=>match sliceSV vx l h with
   | some (c,v)=>okRes (ox∧(ol∧oh)) c v
   | none=>.none
  | _=>.none
 | _,_=>.none
def slice3V (e0:Ty) (x:AV) (lo hi:Option Int) (m:Int):Rd (Option (Prop×AV)):=
 match x with
 | .val (.slice e) xs=>.ret (if e=e0 then some (0≤loB lo∧loB lo≤hiB xs.length hi∧hiB xs.length hi=m∧m≤(xs.length:Int),.clp e ((xs.take m.toNat).drop (loB lo).toNat)) else none)
 | .nils=>.ret (some (loB lo=0∧hiB 0 hi=0∧m=0,.clp e0 []))
 | .own b g=>.get b fun z=>.ret (if z.gen=g&&z.body.isArr then some (0≤loB lo∧loB lo≤hiB z.body.len hi∧hiB z.body.len hi≤m∧m≤(z.body.len:Int),.undef) else none)
 | _=>.none
def slice3OpV (T:Nat→Ty) (ρ:Operand→AV) (ty:TypeId) (x:Operand) (lo hi mx:Option Operand):Rd (Option OpRes):=
 let (ox,vx):=use (ρ x)
 match boundV ρ lo,boundV ρ hi,boundV ρ mx with
 | some (ol,l),some (oh,some h),some (om,some m)=>match T ty with
  | .slice e=>(slice3V e vx l (some h) m).bindO fun (c,v)=>okRes (ox∧(ol∧(oh∧om))) c v
  | _=>.none
 | _,_,_=>.none
def lenOpV (T:Nat→Ty) (ρ:Operand→AV) (args:List Operand) (tys:List TypeId):Rd (Option OpRes):=
 match args,tys with
 | [x],[t]=>let (ox,vx):=use (ρ x);(lenV (T t) vx).bindO fun (c,n)=>okRes ox c (.val (.int .i64) n)
 | _,_=>.none
def numsOf (s:List UInt8):List Int:=s.map fun b=>(b.toNat:Int)
def appendOpV (T:Nat→Ty) (ρ:Operand→AV) (d:Option Nat) (args:List Operand) (tys:List TypeId):Rd (Option OpRes):=
 match args,tys with
 | [x,y],[t,u]=>match T t,T u with
  | .slice e,.slice _=>let (ox,vx):=use (ρ x);let (oy,vy):=use (ρ y);appendV d e vx vy (ox∧oy)
  | .slice (.int .u8),.str=>let (ox,vx):=use (ρ x);let (oy,vy):=use (ρ y);match vy with
   | .val .str s=>appendV d (.int .u8) vx (.val (.slice (.int .u8)) (numsOf s)) (ox∧oy)
   | _=>.none
  | _,_=>.none
 | _,_=>.none
def minMaxV (ρ:Operand→AV) (f:Int→Int→Int) (args:List Operand):Rd (Option OpRes):=
 match args with
 | [x,y]=>let (ox,vx):=use (ρ x);let (oy,vy):=use (ρ y);match vx.int?,vy.int? with
  | some (k,a),some (k',b)=>if k=k' then okRes (ox∧oy) True (.val (.int k) (f a b)) else .none
  | _,_=>.none
 | [x,y,z]=>let (ox,vx):=use (ρ x);let (oy,vy):=use (ρ y);let (oz,vz):=use (ρ z);match vx.int?,vy.int?,vz.int? with
  | some (k,a),some (k',b),some (k'',c)=>if k=k'∧k=k'' then okRes (ox∧(oy∧oz)) True (.val (.int k) (f (f a b) c)) else .none
  | _,_,_=>.none
 | _=>.none
def capOpV (T:Nat→Ty) (ρ:Operand→AV) (args:List Operand) (tys:List TypeId):Rd (Option OpRes):=
 match args,tys with
 | [x],[t]=>match T t,use (ρ x) with
  | .slice _,(ox,.nils)=>okRes ox True (.val (.int .i64) 0)
  | _,_=>.none
 | _,_=>.none
def callFV (Φ:Nat→Option FC) (ρ:Operand→AV) (k:Nat) (args:List Operand):Rd (Option OpRes):=
 let l:=args.map ρ
 match Φ k with
 | some c=>(asArgs c.ts (l.map fun v=>(use v).2)).bindO fun (x,fl)=>(if c.tr.pure then .ret [] else frzB fl:Rd (List (Nat×ABlk))).bind fun wl=>.ret (some ⟨usesObL l,c.pre x,resV c.tr (c.g x),wl⟩)
 | none=>.none
def mget {k v:Ty} (es:List (k.Den×v.Den)) (x:k.Den):Option v.Den:=(es.find? fun p=>eqDen k x p.1).map (·.2)
def mset {k v:Ty}:List (k.Den×v.Den)→k.Den→v.Den→List (k.Den×v.Den)
 | [],x,y=>[(x,y)]
 | p::es,x,y=>if eqDen k x p.1=true then (p.1,y)::es else p::mset es x y
def keyOk (k:Ty):Bool:=k.comparable&&decide (k.nest≤100)
def mapEs (k v:Ty) (m:AV):Rd (Option (List (k.Den×v.Den))):=
 match m with
 | .val t es=>.ret (castDen t (.map k v) es)
 | .raw (.map none)=>.ret (some [])
 | .mapl b g=>.get b fun x=>.ret (if x.gen=g then (match x.body with
   | .mp k' v' es=>castDen (.map k' v') (.map k v) es
   | .frzm k' v' es=>castDen (.map k' v') (.map k v) es
   | _=>none) else none)
 | _=>.none
def lookRes (v:Ty) (r:Option v.Den) (ok:Bool):AV:=
 match ok with
 | true=>.tup 2 (nthAV [.val v (r.getD v.dflt),.val .bool r.isSome])
 | false=>.val v (r.getD v.dflt)
def lookOpV (T:Nat→Ty) (ρ:Operand→AV) (ty:TypeId) (m x:Operand) (ok:Bool):Rd (Option OpRes):=
 match T ty with
 | .map k v=>let (om,vm):=use (ρ m);let (ox,vx):=use (ρ x);if keyOk k&&(v.isLeaf||v.isAgg) then
   (mapEs k v vm).bindO fun es=>(asDen k vx).bindO fun (y,_)=>
    okRes (om∧ox) True (lookRes v (mget es y) ok)
  else .none
 | _=>.none
def mapUpV (T:Nat→Ty) (ρ:Operand→AV) (ty:TypeId) (m x y:Operand):Rd (Option OpRes):=
 match T ty with
 | .map k v=>let (om,vm):=use (ρ m);let (ox,vx):=use (ρ x);let (oy,vy):=use (ρ y);if keyOk k then
   match vm with
   | .mapl b g=>(asDen k vx).bindO fun (x,lx)=>(asDen v vy).bindO fun (y,ly)=>(frzB (lx++ly)).bind fun wl=>.get b fun z=>.ret (if z.gen=g∧!(lx++ly).contains b then (match z.body with
     | .mp k' v' es=>(castDen (.map k' v') (.map k v) es).map fun es=>⟨om∧ox∧oy,True,.undef,wl++[(b,⟨z.gen,.mp k v (mset es x y)⟩)]⟩
     | _=>none) else none)
   | _=>.none
  else .none
 | _=>.none
def makeSlV (T:Nat→Ty) (ρ:Operand→AV) (d:Option Nat) (ty:TypeId) (l c:Operand):Rd (Option OpRes):=
 match T ty with
 | .slice e=>let (ol,vl):=use (ρ l);let (oc,vc):=use (ρ c);match vl.int?,vc.int? with
  | some (.i64,n),some (.i64,m)=>newB d fun b g=>some ⟨ol∧oc,0≤n∧n=m∧lenLe n.toNat,.own b g,[(b,⟨g,.arr e (List.replicate n.toNat e.dflt)⟩)]⟩
  | _,_=>.none
 | _=>.none
def over {α:Type} (xs:List α) (lo:Nat) (ys:List α):List α:=xs.take lo++ys++xs.drop (lo+ys.length)
def copyOpV (T:Nat→Ty) (ρ:Operand→AV) (args:List Operand) (tys:List TypeId):Rd (Option OpRes):=
 match args,tys with
 | [x,y],[t,u]=>match T t,T u with
  | .slice e,.slice _=>let (ox,vx):=use (ρ x);let (oy,vy):=use (ρ y);match (match vx with | .own b g=>some (b,g,0,none) | .sub b g lo hi=>some (b,g,lo,some hi) | _=>none:Option (Nat×Nat×Nat×Option Nat)) with
   | some (b,g,lo,hi)=>(asDen (.slice e) vy).bindO fun (ys,_)=>.get b fun z=>.ret (if z.gen=g then (match z.body with
     | .arr e' xs=>if h:e'=e then some ⟨ox∧oy,True,.val (.int .i64) ((min (hi.getD xs.length - lo) ys.length:Nat):Int),[(b,⟨z.gen,.arr e (over (h ▸ xs) lo (ys.take (hi.getD xs.length - lo)))⟩)]⟩ else none
     | _=>none) else none)
   | none=>.none
  | _,_=>.none
 | _,_=>.none
def appSame (ρ:Operand→AV) (args:List Operand):Option (Nat×Nat×Nat×Nat):=
 match args with
 | [x,y]=>match (use (ρ x)).2,(use (ρ y)).2 with
  | .sub b g lo hi,.sub b' g' _ _=>if b'=b∧g'=g then some (b,g,lo,hi) else none
  | _,_=>none
 | _=>none
def appInV (T:Nat→Ty) (ρ:Operand→AV) (args:List Operand) (tys:List TypeId) (b g lo hi:Nat):Rd (Option OpRes):=
 match args,tys with
 | [x,y],[t,u]=>match T t,T u with
  | .slice e,.slice _=>let (ox,_):=use (ρ x);let (oy,vy):=use (ρ y);(asDen (.slice e) vy).bindO fun (ys,_)=>.get b fun z=>.ret (if z.gen=g then (match z.body with
    | .arr e' xs=>if h:e'=e then some ⟨ox∧oy,hi+ys.length≤xs.length,.sub b g lo (hi+ys.length),[(b,⟨z.gen,.arr e (over (h ▸ xs) hi ys)⟩)]⟩ else none
    | _=>none) else none)
  | _,_=>.none
 | _,_=>.none
def clearOpV (T:Nat→Ty) (ρ:Operand→AV) (args:List Operand) (tys:List TypeId):Rd (Option OpRes):=
 match args,tys with
 | [x],[t]=>match T t with
  | .slice e=>let (ox,vx):=use (ρ x);match vx with
   | .sub b g lo hi=>.get b fun z=>.ret (if z.gen=g then (match z.body with
     | .arr e' xs=>if h:e'=e then some ⟨ox,True,.undef,[(b,⟨z.gen,.arr e (over (h ▸ xs) lo (List.replicate (hi - lo) e.dflt))⟩)]⟩ else none
     | _=>none) else none)
   | _=>.none
  | _=>.none
 | _,_=>.none
def callV (T:Nat→Ty) (Φ:Nat→Option FC) (ρ:Operand→AV) (d:Option Nat) (c:Call):Rd (Option OpRes):=
 match c.callee with
 | .builtin b=>match b with
  | .len=>lenOpV T ρ c.args.toList c.argTypes.toList
  | .append=>match appSame ρ c.args.toList with
   | some (b,g,lo,hi)=>appInV T ρ c.args.toList c.argTypes.toList b g lo hi
   | none=>appendOpV T ρ d c.args.toList c.argTypes.toList
  | .clear=>clearOpV T ρ c.args.toList c.argTypes.toList
  | .copy=>copyOpV T ρ c.args.toList c.argTypes.toList
  | .min=>minMaxV ρ (fun a b=>if b<a then b else a) c.args.toList
  | .max=>minMaxV ρ (fun a b=>if b > a then b else a) c.args.toList
  | .cap=>capOpV T ρ c.args.toList c.argTypes.toList
  | _=>.none
 | .value f=>match f with
  | .func k=>callFV Φ ρ k c.args.toList
  | _=>.none
 | _=>.none
def bytesOf (ys:List Int):List UInt8:=ys.map fun n=>UInt8.ofNat n.toNat
def opV0 (U:FnTab) (T:Nat→Ty) (Φ:Nat→Option FC) (ρ:Operand→AV) (o:Oper):Rd (Option OpRes):=
 match o.op with
 | .move x=>okRes True True (ρ x)
 | .assign x=>match ρ x,T o.type with
  | .nils,.slice e=>newB o.dst fun b g=>some ⟨True,True,.own b g,[(b,⟨g,.arr e []⟩)]⟩
  | v,_=>okRes True True v
 | .pick c a b=>match use (ρ c) with
  | (oc,.val .bool cv)=>match a,b with
   | _,.const (.bool false)=>match use (ρ a) with
    | (oa,.val .bool av)=>okRes (oc∧(cv=true→oa)) True (.val .bool (cv&&av))
    | _=>.none
   | .const (.bool true),_=>match use (ρ b) with
    | (ob,.val .bool bv)=>okRes (oc∧(cv=false→ob)) True (.val .bool (cv||bv))
    | _=>.none
   | _,_=>.none
  | _=>.none
 | .binOp op ty x y _=>
  let (ox,vx):=use (ρ x)
  let (oy,vy):=use (ρ y)
  match vx.int?,vy.int? with
  | some (k,a),some (k',b)=>(match op with
   | .shl | .shr=>match shiftOp op k a b with
    | some (c,v)=>okRes (ox∧oy) c v
    | none=>.none
   | _=>if k=k' then (match intOp op k a b with
    | some (c,v)=>okRes (ox∧oy) c v
    | none=>.none) else .none)
  | _,_=>match vx.str?,vy.str? with
   | some a,some b=>match strOp op a b with
    | some (c,v)=>okRes (ox∧oy) c v
    | none=>.none
   | _,_=>(eqOp op (T ty) vx vy).bindO fun (c,v)=>okRes (ox∧oy) c v
 | .unOp op _ x=>match op,use (ρ x) with
  | .not,(ox,.val .bool b)=>okRes ox True (.val .bool (!b))
  | .neg,(ox,.val (.int k) n)=>okRes ox True (.val (.int k) (k.wrap (0 - n)))
  | _,_=>.none
 | .extract x i=>match use (ρ x) with
  | (ox,.tup n f)=>if i<n then okRes ox True (f i) else .none
  | _=>.none
 | .nilCheck x=>match use (ρ x) with
  | (ox,.pp t d)=>okRes ox True (.pp t d)
  | (ox,.val (.ptr e) p)=>okRes ox (p.isSome=true) (.pp e (p.getD e.dflt))
  | (ox,.loc b g off)=>.get b fun z=>.ret (if z.gen=g&&z.body.isCells then some ⟨ox,True,.loc b g off,[]⟩ else none)
  | _=>.none
 | .fieldAddr ty x f=>match T ty with
  | .st t=>match fieldTy t f with
   | some (_,fo)=>match use (ρ x) with
    | (ox,.loc b g off)=>.get b fun z=>.ret (if z.gen=g&&z.body.isCells then some ⟨ox,True,.loc b g (off+fo),[]⟩ else none)
    | (ox,.elm b g i off)=>.get b fun z=>.ret (if z.gen=g&&z.body.isArr then some ⟨ox,True,.elm b g i (off+fo),[]⟩ else none)
    | (ox,.pp (.st t') d)=>if t'=t then (match fieldDen t' d f with
     | some ⟨s',y⟩=>okRes ox True (.pp s' y)
     | none=>.none) else .none
    | _=>.none
   | none=>.none
  | _=>.none
 | .field ty x f=>match T ty with
  | .st t=>match use (ρ x) with
   | (ox,.val (.st t') d)=>if t'=t then (match fieldDen t' d f with
     | some ⟨s',y⟩=>okRes ox True (.val s' y)
     | none=>.none) else .none
   | _=>.none
  | _=>.none
 | .load ty x=>let (ox,vx):=use (ρ x);(loadV (T ty) vx).bindO fun v=>okRes ox True v
 | .store ty x y=>let (ox,vx):=use (ρ x);let (oy,vy):=use (ρ y);(storeV (T ty) vx vy).bindO fun wl=>.ret (some ⟨ox∧oy,True,.undef,wl⟩)
 | .alloc ty=>newB o.dst fun b g=>if T ty=.unit then none else some ⟨True,True,.loc b g 0,[(b,⟨g,.cells (T ty) (nthAV (zeros (T ty)))⟩)]⟩
 | .box ty x=>let (ox,vx):=use (ρ x);match cellsOf (T ty) vx with
  | some l=>newB o.dst fun b g=>if l.length=(T ty).size then some ⟨ox,True,.loc b g 0,[(b,⟨g,.cells (T ty) (nthAV l)⟩)]⟩ else none
  | none=>.none
 | .build ty ps=>let l:=ps.toList.map fun p=>(p.1,ρ p.2);match T ty with
  | .st t=>match fillAV t (zeros t) (useL l) with
   | some cs=>okRes (usesOb l) True (.agg cs.length (nthAV cs))
   | none=>.none
  | _=>.none
 | .buildSlice ty n ps=>let l:=ps.toList.map fun p=>(p.1,ρ p.2);match T ty with
  | .slice e=>(elemsD e (useL l) 0 n).bindO fun (xs,fl)=>(frzB fl).bind fun wl=>newB o.dst fun b g=>if n*e.size≤65536∧(!fl.contains b&&decide ((useL l).map (·.1)).Nodup&&(useL l).all (fun p=>decide (p.1<n)))=true then some ⟨usesOb l,True,.own b g,wl++[(b,⟨g,.arr e xs⟩)]⟩ else none
  | _=>.none
 | .indexAddr ty x i=>let (ox,vx):=use (ρ x);let (oi,vi):=use (ρ i);match T ty,vi.int? with
  | .slice e,some (_,n)=>(indexV e vx n).bindO fun (c,v)=>okRes (ox∧oi) c v
  | .array m e,some (_,n)=>match vx with
   | .pp (.array m' e') xs=>if m'=m∧e'=e then okRes (ox∧oi) (0≤n∧n<(m:Int)) (.pp e' (nth e' xs n)) else .none
   | .loc b g off=>.get b fun z=>.ret (if z.gen=g&&z.body.isCells then some ⟨ox∧oi,0≤n∧n<(m:Int),.loc b g (off+n.toNat*e.size),[]⟩ else none)
   | _=>.none
  | _,_=>.none
 | .index ty x i=>let (ox,vx):=use (ρ x);let (oi,vi):=use (ρ i);match T ty,vx.str?,vi.int? with
  | .str,some s,some (_,n)=>okRes (ox∧oi) (0≤n∧n<(s.length:Int)) (.val (.int .u8) ((s.getD n.toNat 0).toNat:Int))
  | .array m e,_,some (_,n)=>match vx with
   | .val (.array m' e') xs=>if m'=m∧e'=e then okRes (ox∧oi) (0≤n∧n<(m:Int)) (.val e' (nth e' xs n)) else .none
   | .agg k f=>if k=m*e.size then okRes (ox∧oi) (0≤n∧n<(m:Int)) (if e.isAgg=true then .agg e.size (fun q=>f (n.toNat*e.size+q)) else f (n.toNat*e.size)) else .none
   | _=>.none
  | _,_,_=>.none
 | .convert a b x=>let (ox,vx):=use (ρ x);match T a,T b,vx.int? with
  | .int _,.int k,some (_,n)=>okRes ox True (.val (.int k) (k.wrap n))
  | .slice (.int .u8),.str,_=>(asDen (.slice (.int .u8)) vx).bindO fun (ys,_)=>okRes ox True (.val .str (bytesOf ys))
  | _,_,_=>.none
 | .makeFunc fn first caps=>match fn with
  | .func k=>let l:=caps.toList.map ρ;if first.isEmpty then (match U.clv k with
   | some v=>(asArgs (tupT (v.cs.map .ptr)) (l.map fun v=>(use v).2)).bindO fun (y,fl)=>(frzB fl).bind fun wl=>.ret (some ⟨usesObL l,True,.val (.fn (tupT v.as) v.tr) (fun x=>v.sh (joinD v.as (v.cs.map .ptr) x y)),wl⟩)
   | none=>match U.itv k with
    | some v=>(asArgs (tupT (v.cs.map .ptr)) (l.map fun v=>(use v).2)).bindO fun (y,fl)=>(frzB fl).bind fun wl=>.ret (some ⟨usesObL l,True,.val (.it v.A) (v.S y),wl⟩)
    | none=>okRes (usesObL l) True (.clo k l.length (nthAV (l.map fun v=>(use v).2)))) else (if caps.isEmpty then okRes (usesObL (first.toList.map ρ)) True (.bnd k first.size (nthAV ((first.toList.map ρ).map fun v=>(use v).2))) else .none)
  | _=>.none
 | .makeMap ty r=>if r.isSome then .none else match T ty with
  | .map k v=>newB o.dst fun b g=>some ⟨True,True,.mapl b g,[(b,⟨g,.mp k v []⟩)]⟩
  | _=>.none
 | .lookup ty m x ok=>lookOpV T ρ ty m x ok
 | .mapUpdate ty m x y=>mapUpV T ρ ty m x y
 | .insert ty m x y=>mapUpV T ρ ty m x y
 | .makeSlice ty l c=>makeSlV T ρ o.dst ty l c
 | .makeInterface _ _=>okRes True False .undef
 | .panic _=>okRes True False .undef
 | .slice ty x lo hi mx=>if mx.isSome then slice3OpV T ρ ty x lo hi mx else sliceOpV T ρ ty x lo hi
 | .call c=>callV T Φ ρ o.dst c
 | _=>.none
def prow {α:Type} (m:List (Nat×List α)) (id:Nat):List α:=match m.find? (fun p=>p.1 == id) with
 | some p=>p.2
 | none=>[]
def pset {α:Type} (m:List (Nat×List α)) (id i:Nat) (d:α):List (Nat×List α):=m.map fun p=>if p.1=id then (p.1,p.2.set i d) else p
def poolAs (e:Ty):Body→Option (List (Nat×List e.Den))
 | .pool e' m=>if h:e'=e then some (h ▸ m) else none
 | _=>none
def deref (e:Ty) (m:List (Nat×List e.Den)):(t:Ty)→t.Den→t.unr.Den
 | .raws e',x=>if h:e'=e then h ▸ ((prow m x.1).drop x.2.1).take x.2.2 else []
 | .st t,x=>deref e m t x
 | .prod a b,x=>(deref e m a x.1,deref e m b x.2)
 | .slice t,xs=>xs.map (deref e m t)
 | .bool,x=>x
 | .int _,x=>x
 | .str,x=>x
 | .unit,x=>x
 | .array _ _,x=>x
 | .ptr _,x=>x
 | .map _ _,x=>x
 | .fn _ _,x=>x
 | .it _,x=>x
def RawOk (e:Ty) (m:List (Nat×List e.Den)):(t:Ty)→t.Den→Prop
 | .raws e',x=>e'=e∧m.any (fun p=>p.1 == x.1)=true∧x.2.1+x.2.2≤(prow m x.1).length
 | .st t,x=>RawOk e m t x
 | .prod a b,x=>RawOk e m a x.1∧RawOk e m b x.2
 | .slice t,xs=>∀ x∈(xs:List t.Den),RawOk e m t x
 | _,_=>True
def callPV (ρ:Operand→AV) (c:PcV) (args:List Operand):Rd (Option OpRes):=
 (asArgs c.tsR ((args.map ρ).map fun v=>(use v).2)).bind fun r=>match r with
 | some (x,fl)=>.get POOLN fun z=>match poolAs c.e z.body with
  | some m=>(if (c.tr.pure||c.fresh)=true then .ret [] else frzB fl:Rd (List (Nat×ABlk))).bind fun wl=>
  .ret (some ⟨usesObL (args.map ρ),RawOk c.e m c.tsR x∧c.pre (deref c.e m c.tsR x),resV c.tr (c.g (deref c.e m c.tsR x)),if (c.tr.pure||c.fresh)=true then [] else wl++[(POOLN,⟨z.gen,.dead⟩)]⟩)
  | none=>.none
 | none=>(asArgs c.tsR.unr ((args.map ρ).map fun v=>(use v).2)).bindO fun (x,fl)=>(if c.tr.pure then .ret [] else frzB fl:Rd (List (Nat×ABlk))).bind fun wl=>.ret (some ⟨usesObL (args.map ρ),c.pre x,resV c.tr (c.g x),wl⟩)
def plV (U:FnTab) (T:Nat→Ty) (ρ:Operand→AV) (o:Oper):Option (Rd (Option OpRes)):=
 match o.op with
 | .load ty x=>match use (ρ x) with
  | (ox,.pel (.int k) id i)=>some (.get POOLN fun z=>.ret (match poolAs (.int k) z.body with
    | some m=>if T ty=.int k then some ⟨ox,i<(prow m id).length,.val (.int k) ((prow m id).getD i 0),[]⟩ else none
    | none=>none))
  | _=>none
 | .store ty x y=>match use (ρ x) with
  | (ox,.pel (.int k) id i)=>match use (ρ y) with
   | (oy,.val (.int k') d)=>some (.get POOLN fun z=>.ret (match poolAs (.int k) z.body with
    | some m=>if T ty=.int k∧k'=k then some ⟨ox∧oy,i<(prow m id).length,.undef,[(POOLN,⟨z.gen,.pool (.int k) (pset m id i d)⟩)]⟩ else none
    | none=>none))
   | _=>none
  | _=>none
 | .indexAddr ty x i=>match use (ρ x) with
  | (ox,.val (.raws e) r)=>match (use (ρ i)).2.int? with
   | some (_,n)=>some (.ret (if T ty=.raws e then some ⟨ox∧(use (ρ i)).1,0≤n∧n<(r.2.2:Int),.pel e r.1 (r.2.1+n.toNat),[]⟩ else none))
   | none=>none
  | _=>none
 | .slice ty x lo hi mx=>match use (ρ x) with
  | (ox,.val (.raws e) r)=>match boundV ρ lo,boundV ρ hi,mx with
   | some (ol,l),some (oh,h),none=>some (.ret (if T ty=.raws e then some ⟨ox∧(ol∧oh),0≤loB l∧loB l≤hiB r.2.2 h∧hiB r.2.2 h≤(r.2.2:Int),.val (.raws e) (r.1,r.2.1+(loB l).toNat,(hiB r.2.2 h).toNat - (loB l).toNat),[]⟩ else none))
   | _,_,_=>none
  | _=>none
 | .call c=>match c.callee with
  | .builtin .len=>match c.args.toList,c.argTypes.toList with
   | [x],[t]=>match use (ρ x) with
    | (ox,.val (.raws e) r)=>some (.ret (if T t=.raws e then some ⟨ox,True,.val (.int .i64) (r.2.2:Int),[]⟩ else none))
    | _=>none
   | _,_=>none
  | .builtin .unsafeSliceData=>match c.args.toList with
   | [x]=>match use (ρ x) with
    | (ox,.own b g)=>some (.get b fun z=>.ret (match z.body with
     | .arr _ _=>if z.gen=g∧T o.type=.ptr (.int .u8) then some ⟨ox,True,.sdt b g,[]⟩ else none
     | _=>none))
    | _=>none
   | _=>none
  | .builtin .unsafeString=>match c.args.toList,c.argTypes.toList with
   | [x,n],[pt,_]=>match use (ρ x),use (ρ n) with
    | (ox,.sdt b g),(on,.val (.int .i64) m)=>some (.get b fun z=>.ret (match z.body with
     | .arr (.int .u8) xs=>if z.gen=g∧T pt=.ptr (.int .u8) then some ⟨ox∧on,m=(List.length xs:Int),.val .str (bytesOf xs),[(b,⟨z.gen,.dead⟩)]⟩ else none
     | _=>none))
    | _,_=>none
   | _,_=>none
  | .value (.func k)=>(U.pcs k).map fun c'=>callPV ρ c' c.args.toList
  | _=>none
 | _=>none
def opV (U:FnTab) (T:Nat→Ty) (Φ:Nat→Option FC) (ρ:Operand→AV) (o:Oper):Rd (Option OpRes):=
 match plV U T ρ o with
 | some r=>r
 | none=>opV0 U T Φ ρ o
end Go.Fer
namespace Go.Fer
open Go.RowKit
def rnd (r:Option Nat):Fence:={ Fence.wide with round:=r }
section
variable {P:Program} {w:World}
theorem run_underlying' {t:TypeId} {d:TypeDesc} (h:P.underlying t=some d):(underlying t).run P w=.ok d w:=by simp [underlying,h]
theorem run_typeInfo' {t:TypeId} {i:TypeInfo} (h:P.info? t=some i):(typeInfo t).run P w=.ok i w:=by simp [typeInfo,h]
theorem run_sizeOf' {t:TypeId} {i:TypeInfo} (h:P.info? t=some i):(sizeOf t).run P w=.ok i.size w:=by simp [sizeOf,run_typeInfo' h]
theorem run_zeroValue' {t:TypeId} {i:TypeInfo} {z:Value} (h:P.info? t=some i) (hz:i.zero=some z):(zeroValue t).run P w=.ok z w:=by simp [zeroValue,run_typeInfo' h,hz]
theorem TyIs.size {t:Ty} {id:TypeId} (h:TyIs P t id):(sizeOf id).run P w=.ok t.size w:=by
 obtain ⟨i,z,h1,h2,_⟩:=infoOk_out h.info
 rw [run_sizeOf' h1,h2]
theorem TyIs.st {t:Ty} {id:TypeId} (h:TyIs P (.st t) id):∃ fs,P.underlying id=some (.struct fs):=by
 unfold TyIs at h
 simp only [tyChk,Bool.and_eq_true] at h
 obtain ⟨_,h⟩:=h
 split at h
 ·exact ⟨_,by assumption⟩
 ·cases h
theorem TyIs.sl {e:Ty} {id:TypeId} (h:TyIs P (.slice e) id):∃ i,P.underlying id=some (.slice i)∧TyIs P e i∧e.size≠0:=by
 unfold TyIs at h
 simp only [tyChk,Bool.and_eq_true] at h
 obtain ⟨_,h⟩:=h
 split at h
 ·rename_i i hi
  simp only [Bool.and_eq_true,bne_iff_ne,ne_eq] at h
  exact ⟨i,hi,h.1,h.2⟩
 ·cases h
theorem chk_field:∀ (t:Ty) {l:List Field} {off0 f off:Nat} {s:Ty},tyChk P t (.inr (l,off0))=true→fieldTy t f=some (s,off)→
  ∃ fld,l[f]?=some fld∧fld.offset=off0+off∧TyIs P s fld.type∧s.size≠0:=by
 intro t
 induction t with
 | prod a b iha ihb=>
  intro l off0 f off s h hf
  match l,h with
  | [],h=>simp only [tyChk,Bool.false_eq_true] at h
  | [x],h=>simp only [tyChk,Bool.false_eq_true] at h
  | [x,y],h=>
   simp only [tyChk,Bool.and_eq_true,beq_iff_eq,bne_iff_ne,ne_eq] at h
   obtain ⟨⟨⟨⟨h1,h2⟩,h3⟩,_⟩,⟨⟨h4,h5⟩,h6⟩,_⟩:=h
   cases f with
   | zero=>simp only [fieldTy,Option.some.injEq,Prod.mk.injEq] at hf;obtain ⟨rfl,rfl⟩:=hf;exact ⟨x,rfl,h1,h2,h3⟩
   | succ f=>
    simp only [fieldTy,Option.map_eq_some_iff,Prod.mk.injEq] at hf
    obtain ⟨⟨s',o'⟩,hf,rfl,rfl⟩:=hf
    have hb:∃ u,fieldTy b f=some u∧f=0∧u=(b,0):=by
     cases b<;>cases f<;>simp only [fieldTy,reduceCtorEq] at hf<;>first
      | exact ⟨_,hf,rfl,by cases hf;rfl⟩
      | (simp only [tyChk,Bool.false_eq_true] at h5)
    obtain ⟨u,hu,rfl,rfl⟩:=hb
    rw [hu] at hf
    cases hf
    exact ⟨y,rfl,by omega,h5,h6⟩
  | x::y::z::l,h=>
   simp only [tyChk,Bool.and_eq_true,beq_iff_eq,bne_iff_ne,ne_eq] at h
   obtain ⟨⟨⟨⟨h1,h2⟩,h3⟩,_⟩,h4⟩:=h
   cases f with
   | zero=>simp only [fieldTy,Option.some.injEq,Prod.mk.injEq] at hf;obtain ⟨rfl,rfl⟩:=hf;exact ⟨x,rfl,h1,h2,h3⟩
   | succ f=>
    simp only [fieldTy,Option.map_eq_some_iff,Prod.mk.injEq] at hf
    obtain ⟨⟨s',o'⟩,hf,rfl,rfl⟩:=hf
    obtain ⟨fld,k1,k2,k3⟩:=ihb h4 hf
    exact ⟨fld,by simpa using k1,by omega,k3⟩
 | _=>intro l off0 f off s h _;simp only [tyChk,Bool.false_eq_true] at h
theorem TyIs.field {t s:Ty} {id f off:Nat} (h:TyIs P (.st t) id) (hf:fieldTy t f=some (s,off)) :
  ∃ fs fld,P.underlying id=some (.struct fs)∧fs[f]?=some fld∧fld.offset=off∧TyIs P s fld.type∧s.size≠0:=by
 unfold TyIs at h
 simp only [tyChk,Bool.and_eq_true] at h
 obtain ⟨_,h⟩:=h
 split at h
 ·rename_i fs hfs
  refine ⟨fs,?_⟩
  have hget:∀ {fld},fs.toList[f]?=some fld→fs[f]?=some fld:=fun h=>by simpa using h
  split at h
  ·rename_i hl
   rw [of_decide_eq_true h] at hf
   cases f<;>cases hf
  ·rename_i x hl
   simp only [Bool.and_eq_true,beq_iff_eq,bne_iff_ne,ne_eq] at h
   have hb:f=0∧(s,off)=(t,0):=by
    cases t<;>cases f<;>simp only [fieldTy,reduceCtorEq] at hf<;>first
     | exact ⟨rfl,by cases hf;rfl⟩
     | (have:=h.1.1.2;simp only [tyChk,Bool.false_eq_true] at this)
   obtain ⟨rfl,hb⟩:=hb
   cases hb
   exact ⟨x,hfs,hget (by rw [hl];rfl),h.1.1.1,h.1.1.2,h.1.2⟩
  ·obtain ⟨fld,k1,k2,k3⟩:=chk_field t h hf
   exact ⟨fld,hfs,hget k1,by omega,k3⟩
 ·cases h
def Reads (w:World) (p:Addr) (cs:List Value):Prop:=(0<cs.length→p.spot=none)∧∀ j (h:j<cs.length),w.cell? ⟨p.block,p.off+j,none⟩=some cs[j]
theorem Holds.reads {F:Nat→Prop} {p:Addr} {cs:List Value} (h:Holds F w p cs):Reads w p cs:=⟨fun _=>h.2.1,h.2.2⟩
theorem reads_run {p:Addr} {cs:List Value} (h:Reads w p cs):(loadCells p cs.length).run P w=.ok cs.toArray w:=by
 obtain ⟨hs,hc⟩:=h
 refine run_loadCells_list w p cs fun j v hj=>?_
 obtain ⟨hj',rfl⟩:=List.getElem?_eq_some_iff.1 hj
 have hp:p=⟨p.block,p.off,none⟩:=by have:=hs (by omega);cases p;simp_all
 have:=hc j hj'
 have ea:p.add j=⟨p.block,p.off+j,none⟩:=by
  unfold Addr.add
  split
  ·rename_i h0;subst h0;rw [hp];simp
  ·simp
 rw [ea]
 exact this
theorem isAgg_run {t:Ty} {id:TypeId} (h:TyIs P t id):(isAgg id).run P w=.ok t.isAgg w:=by
 unfold TyIs at h
 unfold isAgg
 cases t<;>simp only [tyChk,Bool.and_eq_true,Bool.false_eq_true] at h<;>(obtain ⟨_,h⟩:=h;split at h)<;>
  first
   | (rename_i hu;simp [run_underlying' hu,Ty.isAgg];done)
   | (cases h;done)
   | (rename_i hu;simp [run_underlying' hu,Ty.isAgg])
theorem loadVar_ok {F:Nat→Prop} {p:Addr} {cs:List Value} {t:Ty} {id:TypeId} {x:t.Den} (h:TyIs P t id) (hh:Reads w p cs) (hx:RC P t F w cs x) :
  ∃ v,(loadVar id p).run P w=.ok v w∧RV P t F w v x:=by
 have hlen:=RC_len t hx
 by_cases ha:t.isAgg=true
 ·refine ⟨.agg cs.toArray,?_,?_,by simpa [Value.cells] using hx⟩
  ·have:=reads_run (P:=P) hh
   rw [hlen] at this
   simp [loadVar,isAgg_run h,ha,h.size,this]
  ·cases t<;>simp only [Ty.isAgg,Bool.false_eq_true] at ha
   ·exact ⟨cs.toArray,rfl,by simpa [Ty.size] using hlen⟩
   ·exact ⟨cs.toArray,rfl,by simpa [Ty.size] using hlen⟩
 ·have hl:t.isLeaf=true:=by
   cases t<;>simp only [Ty.isAgg,not_true] at ha<;>first | rfl | (unfold TyIs at h;simp only [tyChk,Bool.false_eq_true] at h)
  obtain ⟨u,rfl,hu⟩:=leaf_cells hl hx
  refine ⟨u,?_,(RV_leaf hl).2 ⟨hu,hx⟩⟩
  have hc:=hh.2 0 (by simp)
  have hp:p=⟨p.block,p.off+0,none⟩:=by have:=hh.1 (by simp);cases p;simp_all
  rw [←hp] at hc
  simp [loadVar,isAgg_run h,ha,hc]
end
section
variable {r:Option Nat} {P:Program} {o:Oper} {a:Act} {w w':World} {K:Act→World→Prop} {Q:Exit→Act→World→Prop}
theorem semAt_rnd (hd:∀ c,o.op≠.defer c):o.semAt (rnd r).round a.eval=execOp a.eval o:=Oper.semAt_eq _ _ _ hd
theorem oper_value {v:Value} (hd:∀ c,o.op≠.defer c) (h:(execOp a.eval o).run P w=.ok (.value v) w') (hk:K (a.put o.dst v) w'):o.wpIn (rnd r) 0 P a w K Q:=by
 refine ⟨fun _ _=>trivial,?_⟩
 rw [semAt_rnd hd,h]
 exact hk
theorem oper_skip (hd:∀ c,o.op≠.defer c) (h:(execOp a.eval o).run P w=.ok .skip w') (hk:K (a.put o.dst Go.undef) w'):o.wpIn (rnd r) 0 P a w K Q:=by
 refine ⟨fun _ _=>trivial,?_⟩
 rw [semAt_rnd hd,h]
 exact hk
end
def AState.setBs (s:AState):List (Nat×ABlk)→AState
 | []=>s
 | p::l=>(s.setB p.1 p.2).setBs l
def AState.app (s:AState) (d:Option Nat) (res:OpRes):AState:=(s.setBs res.wb).set d res.dv
def OpOk (C:Ctx) (o:Oper) (s:AState) (res:OpRes):Prop:=
 ∀ a w κ F Q,RelK C s a w κ F→res.ob→res.c→o.wpIn (rnd C.r) 0 C.P a w (fun a' w'=>Rel C (s.app o.dst res) a' w') Q
theorem OpOk.pure {C:Ctx} {o:Oper} {s:AState} {ob c:Prop} {dv:AV} (hd:∀ c,o.op≠.defer c) (hdst:∀ i,o.dst=some i→i<C.nt)
  (h:∀ a w κ F,RelK C s a w κ F→ob→c→∃ v,(execOp a.eval o).run C.P w=.ok (.value v) w∧RA C.P s.blk κ F w dv v):OpOk C o s ⟨ob,c,dv,[]⟩:=by
 intro a w κ F Q hr hob hc
 obtain ⟨v,h1,h2⟩:=h a w κ F hr hob hc
 exact oper_value hd h1 ⟨κ,F,hr.set hdst h2⟩
section
variable {P:Program} {H:Nat→ABlk} {κ:Nat→KB} {F:Nat→Prop} {w:World}
theorem use_ok {av:AV} {v:Value} (h:RA P H κ F w av v) (hu:(use av).1):RA P H κ F w (use av).2 v:=by
 cases av<;>first | exact h | exact h.1 hu
theorem constAV_ok (v:Value):RA P H κ F w (constAV v) v:=by
 unfold constAV
 split
 ·exact RV_bool.2 rfl
 ·split
  ·rename_i h;exact RV_int.2 ⟨rfl,h⟩
  ·rfl
 ·split
  ·rename_i s h
   refine RV_str.2 ⟨by simp,?_⟩
   have:s.data.toList.length=s.size:=by rw [Array.length_toList];rfl
   omega
  ·rfl
 ·rfl
 ·rfl
theorem opAV_ok {C:Ctx} {s:AState} {a:Act} {w:World} {κ:Nat→KB} {F:Nat→Prop} (h:RelK C s a w κ F) (x:Operand):RA C.P s.blk κ F w (opAV C.ft s.slot x) (a.eval x):=by
 cases x with
 | tmp t=>exact h.slots t
 | const v=>exact constAV_ok v
 | func f=>
  show RA _ _ _ _ _ (match C.ft.fnv f with | some v=>.val (.fn v.ts v.tr) v.sh | none=>.clo f 0 fun _=>.undef) (.func (.func f) #[] #[])
  split
  ·rename_i v hv
   exact (RV_leaf rfl).2 ⟨rfl,RC_fn (h.ftok.fnv f v hv) F w⟩
  ·exact ⟨[],rfl,rfl,fun i hi=>by omega⟩
 | global g=>trivial
theorem int?_ok {av:AV} {v:Value} {k:IntKind} {n:Int} (h:RA P H κ F w av v) (hi:av.int?=some (k,n)):v=.int k n∧InR k n:=by
 unfold AV.int? at hi
 split at hi
 ·cases hi;exact RV_int.1 h
 ·cases hi
theorem str?_ok {av:AV} {v:Value} {s:List UInt8} (h:RA P H κ F w av v) (hi:av.str?=some s):v=.string ⟨s.toArray⟩∧s.length<2 ^ 63:=by
 unfold AV.str? at hi
 split at hi
 ·cases hi;exact RV_str.1 h
 ·cases hi
end
theorem InR_wrap (k:IntKind) (n:Int):InR k (k.wrap n):=by
 unfold InR IntKind.wrap
 have h1:=Int.emod_nonneg n (b:=2 ^ k.bits) (by cases k<;>decide)
 have h2:=Int.emod_lt_of_pos n (b:=2 ^ k.bits) (by cases k<;>decide)
 cases k<;>simp only [IntKind.min,IntKind.max,IntKind.signed,IntKind.bits,Bool.true_and,Bool.false_and,Bool.false_eq_true,if_true,if_false,Nat.reduceSub,Int.reducePow] at h1 h2 ⊢<;>first
  | (constructor<;>split<;>first | (rename_i hc;have hc:=of_decide_eq_true hc;omega) | (rename_i hc;have hc:=mt decide_eq_true hc;omega))
  | (constructor<;>omega)
theorem InR_tmod {k:IntKind} {a b:Int} (ha:InR k a):InR k (a.tmod b):=by
 unfold InR at *
 have h1:k.min≤0∧0≤k.max:=by cases k<;>decide
 have h2:=Int.natAbs_tmod a b
 have h3:=Nat.mod_le a.natAbs b.natAbs
 rcases Int.le_total 0 a with h | h
 ·have:=Int.tmod_nonneg b h
  omega
 ·have h4:(-a).tmod b=- (a.tmod b):=Int.neg_tmod a b
  have:=Int.tmod_nonneg b (a:=-a) (by omega)
  omega
end Go.Fer
namespace Go.Fer
open Go.RowKit
theorem part_leaf {P:Program} {w:World} {t:Ty} {id:TypeId} (h:TyIs P t id) (hl:t.isAgg=false) {cs:Array Value} {off:Nat} {v:Value} (hv:cs[off]?=some v) :
  (part id cs off).run P w=.ok v w:=by
 simp [part,isAgg_run h,hl,hv]
theorem part_agg {P:Program} {w:World} {t:Ty} {id:TypeId} (h:TyIs P t id) (hl:t.isAgg=true) {cs:Array Value} {off:Nat} :
  (part id cs off).run P w=.ok (.agg (cs.extract off (off+t.size))) w:=by
 simp [part,isAgg_run h,hl,h.size]
theorem part_ok {P:Program} {F:Nat→Prop} {w:World} {t:Ty} {id:TypeId} (h:TyIs P t id) {p c q:List Value} {cs:Array Value} {x:t.Den} (hcs:cs.toList=p++(c++q)) (hc:RC P t F w c x) :
  ∃ v,(part id cs p.length).run P w=.ok v w∧RV P t F w v x:=by
 have hlen:=RC_len t hc
 by_cases ha:t.isAgg=true
 ·refine ⟨_,part_agg h ha,?_⟩
  have he:(cs.extract p.length (p.length+t.size)).toList=c:=by
   rw [Array.toList_extract,hcs,List.extract_eq_take_drop]
   simp [hlen]
  have hv:(Value.agg (cs.extract p.length (p.length+t.size))).cells.toList=c:=he
  refine ⟨?_,by rw [hv];exact hc⟩
  have hsz:(cs.extract p.length (p.length+t.size)).size=t.size:=by rw [←Array.length_toList,he,hlen]
  cases t<;>simp only [Ty.isAgg,Bool.false_eq_true] at ha
  ·exact ⟨_,rfl,by simpa [Ty.size] using hsz⟩
  ·exact ⟨_,rfl,by simpa [Ty.size] using hsz⟩
 ·have hl:t.isLeaf=true:=by
   cases t<;>simp only [Ty.isAgg,not_true] at ha<;>first | rfl | (unfold TyIs at h;simp only [tyChk,Bool.false_eq_true] at h)
  obtain ⟨u,rfl,hu⟩:=leaf_cells hl hc
  refine ⟨u,part_leaf h (by simpa using ha) ?_,(RV_leaf hl).2 ⟨hu,hc⟩⟩
  rw [←Array.getElem?_toList,hcs]
  simp
theorem TyIs.eqs {P:Program} {t:Ty} {id:TypeId} (h:TyIs P (.st t) id):P.stoodInHeld id=false∧P.eqGuardType P.depth id=false∧
  (tyChk P t (.inr ((P.fieldsOf id).toList, 0)) = true ∨ (∃ f, (P.fieldsOf id).toList = [f] ∧ f.offset = 0 ∧ TyIs P t f.type ∧ f.name ≠ "_") ∨ (t = .unit ∧ (P.fieldsOf id).toList = [])) ∧ P.underlying id = some (.struct (P.fieldsOf id)) := by
 unfold TyIs at h
 simp only [tyChk,Bool.and_eq_true,Bool.not_eq_true'] at h
 obtain ⟨⟨⟨_,h1⟩,h2⟩,h⟩:=h
 split at h
 ·rename_i fs hfs
  have hf:P.fieldsOf id=fs:=by simp [Program.fieldsOf,hfs]
  rw [hf]
  refine ⟨h1,h2,?_,hfs⟩
  split at h
  ·rename_i hl;exact .inr (.inr ⟨of_decide_eq_true h,hl⟩)
  ·rename_i x hl
   simp only [Bool.and_eq_true,beq_iff_eq,bne_iff_ne,ne_eq] at h
   exact .inr (.inl ⟨x,hl,h.1.1.1,h.1.1.2,h.2⟩)
  ·exact .inl h
 ·cases h
theorem equal_ok {P:Program} {F:Nat→Prop} {w:World}:∀ (t:Ty) (d:Nat),t.comparable=true→t.nest≤d→
  (∀ {id:TypeId} {v u:Value} {x y:t.Den},TyIs P t id→RV P t F w v x→RV P t F w u y→(Op.equalIn d id v u).run P w=.ok (eqDen t x y) w)∧
  (∀ {l:List Field} {off:Nat} {xs ys:Array Value} {p c q p' c' q':List Value} {x y:t.Den},tyChk P t (.inr (l,off))=true→xs.toList=p++(c++q)→p.length=off→RC P t F w c x→
   ys.toList=p'++(c'++q')→p'.length=off→RC P t F w c' y→(Op.eqFields d xs ys l).run P w=.ok (eqDen t x y) w):=by
 intro t
 induction t with
 | bool=>
  intro d _ hd
  refine ⟨fun {id v u x y} h h1 h2=>?_,fun h=>by simp [tyChk] at h⟩
  rw [RV_bool.1 h1,RV_bool.1 h2]
  obtain ⟨d,rfl⟩:∃ e,d=e+1:=⟨d - 1,by simp only [Ty.nest] at hd;omega⟩
  unfold TyIs at h
  simp only [tyChk,Bool.and_eq_true] at h
  obtain ⟨_,h⟩:=h
  split at h
  ·rename_i hu;rw [run_equalIn_bool' w d id x y hu];rfl
  ·cases h
 | int k=>
  intro d _ hd
  refine ⟨fun {id v u x y} h h1 h2=>?_,fun h=>by simp [tyChk] at h⟩
  rw [(RV_int.1 h1).1,(RV_int.1 h2).1]
  obtain ⟨d,rfl⟩:∃ e,d=e+1:=⟨d - 1,by simp only [Ty.nest] at hd;omega⟩
  unfold TyIs at h
  simp only [tyChk,Bool.and_eq_true] at h
  obtain ⟨_,h⟩:=h
  split at h
  ·rename_i hu;rw [run_equalIn_int w d id k _ x y hu];simp only [eqDen];congr 1
  ·cases h
 | str=>
  intro d _ hd
  refine ⟨fun {id v u x y} h h1 h2=>?_,fun h=>by simp [tyChk] at h⟩
  rw [(RV_str.1 h1).1,(RV_str.1 h2).1]
  obtain ⟨d,rfl⟩:∃ e,d=e+1:=⟨d - 1,by simp only [Ty.nest] at hd;omega⟩
  unfold TyIs at h
  simp only [tyChk,Bool.and_eq_true] at h
  obtain ⟨_,h⟩:=h
  split at h
  ·rename_i hu
   rw [run_equalIn_string w d id _ _ hu,ByteArray.toList_eq,ByteArray.toList_eq]
   simp only [eqDen]
   congr 1
   exact Bool.beq_eq_decide_eq _ _
  ·cases h
 | unit=>intro d h;cases h
 | slice e _=>intro d h;cases h
 | array n e _=>intro d h;cases h
 | ptr e _=>intro d h;cases h
 | map k v _ _=>intro d h;cases h
 | fn a b _ _=>intro d h;cases h
 | it a _=>intro d h;cases h
 | raws e _=>intro d h;cases h
 | prod a b iha ihb=>
  intro d hc hd
  simp only [Ty.comparable,Bool.and_eq_true] at hc
  simp only [Ty.nest] at hd
  have ia:=iha d hc.1 (by omega)
  have ib:=ihb d hc.2 (by omega)
  refine ⟨fun h=>by unfold TyIs at h;simp [tyChk] at h,?_⟩
  intro l off xs ys p c q p' c' q' x y h hx hp hcx hy hp' hcy
  simp only [RC] at hcx hcy
  obtain ⟨c1,c2,rfl,k1,k2⟩:=hcx
  obtain ⟨d1,d2,rfl,m1,m2⟩:=hcy
  have l1:=RC_len a k1
  have l2:=RC_len a m1
  have step : ∀ (f : Field) (rest : List Field), f.offset = off → TyIs P a f.type → f.name ≠ "_" →
    (Op.eqFields d xs ys (f::rest)).run P w=if eqDen a x.1 y.1=true then (Op.eqFields d xs ys rest).run P w else .ok false w:=by
   intro f rest ho hf hn
   obtain ⟨v,r1,r2⟩:=part_ok (cs:=xs) (p:=p) (c:=c1) (q:=c2++q) hf (by rw [hx];simp) k1
   obtain ⟨u,s1,s2⟩:=part_ok (cs:=ys) (p:=p') (c:=d1) (q:=d2++q') hf (by rw [hy];simp) m1
   simp only [Op.eqFields,hn,ne_eq,not_false_eq_true,if_true,Sem.run_bind]
   rw [ho,←hp,r1,Result.andThen_ok,hp,←hp',s1,Result.andThen_ok,ia.1 hf r2 s2]
   cases eqDen a x.1 y.1<;>simp
  match l,h with
  | [],h=>simp only [tyChk,Bool.false_eq_true] at h
  | [f],h=>simp only [tyChk,Bool.false_eq_true] at h
  | [f,g],h=>
   simp only [tyChk,Bool.and_eq_true,beq_iff_eq,bne_iff_ne,ne_eq] at h
   obtain ⟨⟨⟨⟨h1,h2⟩,h3⟩,h4⟩,⟨⟨⟨h5,h6⟩,h7⟩,h8⟩⟩:=h
   rw [step f [g] h1 h2 h4]
   obtain ⟨v,r1,r2⟩:=part_ok (cs:=xs) (p:=p++c1) (c:=c2) (q:=q) h6 (by rw [hx];simp) k2
   obtain ⟨u,s1,s2⟩:=part_ok (cs:=ys) (p:=p'++d1) (c:=d2) (q:=q') h6 (by rw [hy];simp) m2
   have e1:(p++c1).length=g.offset:=by simp;omega
   have e2:(p'++d1).length=g.offset:=by simp;omega
   rw [e1] at r1
   rw [e2] at s1
   simp only [Op.eqFields,h8,ne_eq,not_false_eq_true,if_true,Sem.run_bind,r1,s1,Result.andThen_ok,ib.1 h6 r2 s2,eqDen]
   cases eqDen a x.1 y.1<;>cases eqDen b x.2 y.2<;>simp
  | f::g::i::l,h=>
   simp only [tyChk,Bool.and_eq_true,beq_iff_eq,bne_iff_ne,ne_eq] at h
   obtain ⟨⟨⟨⟨h1,h2⟩,h3⟩,h4⟩,h5⟩:=h
   rw [step f _ h1 h2 h4,ib.2 h5 (p:=p++c1) (c:=c2) (q:=q) (p':=p'++d1) (c':=d2) (q':=q') (by rw [hx];simp) (by simp;omega) k2 (by rw [hy];simp) (by simp;omega) m2]
   simp only [eqDen]
   cases eqDen a x.1 y.1<;>simp
 | st t ih=>
  intro d hc hd
  simp only [Ty.nest] at hd
  obtain ⟨d,rfl⟩:∃ e,d=e+1:=⟨d - 1,by omega⟩
  refine ⟨fun {id v u x y} h h1 h2=>?_,fun h=>by simp [tyChk] at h⟩
  have i:=ih d hc (by omega)
  obtain ⟨e1,e2,e3,e4⟩:=h.eqs
  obtain ⟨⟨xs,rfl,hxs⟩,hcx⟩:=h1
  obtain ⟨⟨ys,rfl,hys⟩,hcy⟩:=h2
  simp only [Value.cells,RC] at hcx hcy
  rw [run_equalIn_struct w d id xs ys e4 e1]
  rcases e3 with e3 | ⟨f,e3,e5,e6,e7⟩ | ⟨rfl,e3⟩
  ·exact i.2 e3 (p:=[]) (c:=xs.toList) (q:=[]) (p':=[]) (c':=ys.toList) (q':=[]) (by simp) rfl hcx (by simp) rfl hcy
  ·rw [e3]
   obtain ⟨v,r1,r2⟩:=part_ok (cs:=xs) (p:=[]) (c:=xs.toList) (q:=[]) e6 (by simp) hcx
   obtain ⟨u,s1,s2⟩:=part_ok (cs:=ys) (p:=[]) (c:=ys.toList) (q:=[]) e6 (by simp) hcy
   simp only [List.length_nil] at r1 s1
   simp only [Op.eqFields,e7,ne_eq,not_false_eq_true,if_true,Sem.run_bind,e5,r1,s1,Result.andThen_ok,i.1 e6 r2 s2,eqDen]
   cases eqDen t x y<;>simp
  ·cases hc
theorem InR_ishr {k:IntKind} {a b:Int} (ha:InR k a):InR k (ishr k a b):=by
 unfold InR at *
 unfold ishr
 have h1:k.min≤0∧0≤k.max:=by cases k<;>decide
 generalize min b.toNat k.bits=n
 have hp:(0:Int)<2 ^ n:=Int.pow_pos (by decide)
 rw [Int.fdiv_eq_ediv_of_nonneg _ (Int.le_of_lt hp)]
 rcases Int.le_total 0 a with h | h
 ·have h2:=Int.ediv_nonneg h (Int.le_of_lt hp)
  have h3:=Int.ediv_le_self (2 ^ n) h
  omega
 ·have h2:a / 2 ^ n≤0:=by
   have:=Int.ediv_le_ediv hp h
   simpa using this
  have h3:a≤a / 2 ^ n:=by
   rw [Int.le_ediv_iff_mul_le hp]
   have h4:(1:Int)≤2 ^ n:=by omega
   have:=Int.mul_le_mul_of_nonpos_left (a:=a) h h4
   simpa using this
  omega
theorem eqGuard_int {P:Program} {w:World} (op:BinOp) (t:TypeId) (x y:Operand) (k k':IntKind) (a b:Int):(eqGuard op t x y (.int k a) (.int k' b)).run P w=.ok () w:=by
 cases op<;>simp [eqGuard]
theorem eqGuard_str {P:Program} {w:World} (op:BinOp) (t:TypeId) (x y:Operand) (a b:ByteArray):(eqGuard op t x y (.string a) (.string b)).run P w=.ok () w:=by
 cases op<;>simp [eqGuard]
theorem eqGuard_bool {P:Program} {w:World} (op:BinOp) (t:TypeId) (x y:Operand) (a b:Bool):(eqGuard op t x y (.bool a) (.bool b)).run P w=.ok () w:=by
 cases op<;>simp [eqGuard]
theorem eqGuard_ptr {P:Program} {w:World} (op:BinOp) (t:TypeId) (x y:Operand) (a b:Option Addr):(eqGuard op t x y (.pointer a) (.pointer b)).run P w=.ok () w:=by
 cases op<;>simp [eqGuard]
section
variable {P:Program} {H:Nat→ABlk} {κ:Nat→KB} {F:Nat→Prop} {w:World}
theorem intOp_ok {op:BinOp} {k:IntKind} {a b:Int} {t:TypeId} {c:Prop} {v:AV} (h:intOp op k a b=some (c,v)) (hc:c) (ha:InR k a) :
  ∃ u,(binOp op t (.int k a) (.int k b)).run P w=.ok u w∧RA P H κ F w v u:=by
 cases op<;>simp only [intOp,Option.some.injEq,Prod.mk.injEq,reduceCtorEq] at h<;>obtain ⟨rfl,rfl⟩:=h<;>simp only [RA]
 case add=>exact ⟨_,by simp [binOp,Op.intArith],RV_int.2 ⟨rfl,InR_wrap _ _⟩⟩
 case sub=>exact ⟨_,by simp [binOp,Op.intArith],RV_int.2 ⟨rfl,InR_wrap _ _⟩⟩
 case mul=>exact ⟨_,by simp [binOp,Op.intArith],RV_int.2 ⟨rfl,InR_wrap _ _⟩⟩
 case quo=>exact ⟨_,by simp [binOp,Op.intDiv,hc],RV_int.2 ⟨rfl,InR_wrap _ _⟩⟩
 case rem=>exact ⟨_,by simp [binOp,Op.intDiv,hc],RV_int.2 ⟨rfl,InR_tmod ha⟩⟩
 case and=>exact ⟨.int k (iand k a b),by simp only [binOp,ne_eq,not_true_eq_false,if_false,Op.intBits];rfl,RV_int.2 ⟨rfl,InR_wrap _ _⟩⟩
 case or=>exact ⟨.int k (ior k a b),by simp only [binOp,ne_eq,not_true_eq_false,if_false,Op.intBits];rfl,RV_int.2 ⟨rfl,InR_wrap _ _⟩⟩
 case xor=>exact ⟨.int k (ixor k a b),by simp only [binOp,ne_eq,not_true_eq_false,if_false,Op.intBits];rfl,RV_int.2 ⟨rfl,InR_wrap _ _⟩⟩
 case andNot=>exact ⟨.int k (iandNot k a b),by simp only [binOp,ne_eq,not_true_eq_false,if_false,Op.intBits];rfl,RV_int.2 ⟨rfl,InR_wrap _ _⟩⟩
 case eql=>exact ⟨.bool (a == b),by simp [binOp,Op.intCmp],RV_bool.2 (congrArg Value.bool (by rw [Bool.eq_iff_iff];simp))⟩
 case neq=>exact ⟨.bool (a != b),by simp [binOp,Op.intCmp],RV_bool.2 (congrArg Value.bool (by rw [Bool.eq_iff_iff];simp))⟩
 case lss=>exact ⟨_,by simp [binOp,Op.intCmp],RV_bool.2 rfl⟩
 case leq=>exact ⟨_,by simp [binOp,Op.intCmp],RV_bool.2 rfl⟩
 case gtr=>exact ⟨_,by simp [binOp,Op.intCmp],RV_bool.2 rfl⟩
 case geq=>exact ⟨_,by simp [binOp,Op.intCmp],RV_bool.2 rfl⟩
theorem shiftOp_ok {op:BinOp} {k k':IntKind} {a b:Int} {t:TypeId} {c:Prop} {v:AV} (h:shiftOp op k a b=some (c,v)) (hc:c) (ha:InR k a) :
  ∃ u,(binOp op t (.int k a) (.int k' b)).run P w=.ok u w∧RA P H κ F w v u:=by
 cases op<;>simp only [shiftOp,Option.some.injEq,Prod.mk.injEq,reduceCtorEq] at h<;>obtain ⟨rfl,rfl⟩:=h<;>simp only [RA]
 case shl=>exact ⟨_,by simp [binOp,Op.shift,show ¬b<0 by omega];rfl,RV_int.2 ⟨rfl,InR_wrap _ _⟩⟩
 case shr=>exact ⟨_,by simp [binOp,Op.shift,show ¬b<0 by omega];rfl,RV_int.2 ⟨rfl,InR_ishr ha⟩⟩
theorem strOp_ok {op:BinOp} {a b:List UInt8} {t:TypeId} {c:Prop} {v:AV} (h:strOp op a b=some (c,v)) (hc:c) :
  ∃ u,(binOp op t (.string ⟨a.toArray⟩) (.string ⟨b.toArray⟩)).run P w=.ok u w∧RA P H κ F w v u:=by
 have e:∀ l:List UInt8,(⟨l.toArray⟩:ByteArray).toList=l:=fun l=>by rw [ByteArray.toList_eq]
 cases op<;>simp only [strOp,Option.some.injEq,Prod.mk.injEq,reduceCtorEq] at h<;>obtain ⟨rfl,rfl⟩:=h<;>simp only [RA]
 case add=>
  unfold lenLe at hc
  have hs:((ByteArray.size ⟨a.toArray⟩+ByteArray.size ⟨b.toArray⟩:Nat):Int)=(a.length+b.length:Nat):=by simp [ByteArray.size]
  refine ⟨.string ⟨(a++b).toArray⟩,?_,RV_str.2 ⟨rfl,by simp;omega⟩⟩
  simp only [binOp,Op.stringOp]
  rw [if_neg]
  ·have:(⟨a.toArray⟩++⟨b.toArray⟩:ByteArray)=⟨(a++b).toArray⟩:=by
    apply ByteArray.ext
    simp
   simp [this]
  ·rw [hs]
   have:IntKind.i64.max=9223372036854775807:=by decide
   rw [this]
   omega
 case eql=>exact ⟨_,by simp only [binOp,Op.stringOp,e];rfl,RV_bool.2 (by congr 1;exact Bool.beq_eq_decide_eq _ _)⟩
 case neq=>exact ⟨_,by simp only [binOp,Op.stringOp,e];rfl,RV_bool.2 (by congr 1;rw [Bool.eq_iff_iff];simp)⟩
 case lss=>exact ⟨_,by simp only [binOp,Op.stringOp,e];rfl,RV_bool.2 rfl⟩
 case geq=>exact ⟨_,by simp only [binOp,Op.stringOp,e];rfl,RV_bool.2 rfl⟩
end
end Go.Fer
namespace Go.Fer
open Go.RowKit
def TabOk (P:Program) (T:Nat→Ty):Prop:=∀ id,T id=.unit∨TyIs P (T id) id
theorem TabOk.is {P:Program} {T:Nat→Ty} (h:TabOk P T) {id:Nat} {t:Ty} (e:T id=t) (ht:t≠.unit):TyIs P t id:=by
 rcases h id with h | h
 ·exact absurd (e ▸ h) ht
 ·exact e ▸ h
theorem newB_some {d:Option Nat} {k:Nat→Nat→Option OpRes} {H:Nat→ABlk} {res:OpRes} (h:(newB d k).run H=some res) :
  ∃ b,d=some b∧k b ((H b).gen+1)=some res:=by
 unfold newB at h
 cases d with
 | none=>cases h
 | some b=>
  simp only [Rd.run_get,Rd.run_ret] at h
  exact ⟨b,rfl,h⟩
theorem RelK.nilArr {C:Ctx} {s:AState} {a:Act} {w:World} {κ:Nat→KB} {F:Nat→Prop} (h:RelK C s a w κ F) {b g:Nat} {e:Ty} (hg:(s.blk b).gen<g) :
  RelK C (s.setB b ⟨g,.arr e []⟩) a w (fun i=>if i=b then ⟨0,0,0,true⟩ else κ i) F:=by
 have hl:Later s.blk κ (fun i=>if i=b then ⟨g,.arr e []⟩ else s.blk i) (fun i=>if i=b then ⟨0,0,0,true⟩ else κ i):=later_setB hg fun b' hb'=>by simp [hb']
 refine h.move (H':=fun i=>if i=b then ⟨g,.arr e []⟩ else s.blk i) hl (fun _ hr=>hr) (fun _ hr=>.inl hr) (Nat.le_refl _) (fun _ _ _=>rfl) (Calm.refl _) (fun _=>?_) ?_ ?_ h.fsz (an_setB (.inr ⟨rfl,rfl⟩) fun b' hb'=>by simp [hb'])
 ·intro i
  by_cases hi:i=b
  ·subst hi
   simp only [HB,if_true]
   exact ⟨fun _=>rfl,fun hn=>by cases hn⟩
  ·exact HB.other (h.blks i) hl (fun _ hr=>hr) (Ext.refl _ _) (by simp [hi]) (by simp [hi]) fun _=>rfl
 ·intro i hi
  by_cases hib:i=b
  ·subst hib;simp [Body.owned] at hi
  ·simp only [if_neg hib] at hi ⊢;exact ⟨(h.own i hi).1,(h.own i hi).2.1,.inl ⟨i,hi,rfl⟩⟩
 ·intro i j hi hj e'
  by_cases hib:i=b
  ·subst hib;simp [Body.owned] at hi
  ·by_cases hjb:j=b
   ·subst hjb;simp [Body.owned] at hj
   ·simp only [if_neg hib,if_neg hjb] at hi hj e';exact h.inj i j hi hj e'
section
variable {C:Ctx} {T:Nat→Ty} {Φ:Nat→Option FC} {o:Oper} {s:AState} {res:OpRes}
theorem ok_move {x:Operand} (hdst:∀ i,o.dst=some i→i<C.nt) (ho:o.op=.move x) (h:(opV0 C.ft T Φ (opAV C.ft s.slot) o).run s.blk=some res):OpOk C o s res:=by
 simp only [opV0,ho,okRes,Rd.run_ret,Option.some.injEq] at h
 subst h
 exact OpOk.pure (by rw [ho];intro c hc;cases hc) hdst fun a w κ F hr _ _=>⟨_,by simp [execOp,ho],opAV_ok hr x⟩
theorem ok_assign {x:Operand} (hdst:∀ i,o.dst=some i→i<C.nt) (ho:o.op=.assign x) (h:(opV0 C.ft T Φ (opAV C.ft s.slot) o).run s.blk=some res):OpOk C o s res:=by
 simp only [opV0,ho] at h
 split at h
 ·rename_i e hx ht
  obtain ⟨b,hd,hk⟩:=newB_some h
  simp only [Option.some.injEq] at hk
  subst hk
  intro a w κ F Q hr _ _
  refine oper_value (w':=w) (v:=a.eval x) (by rw [ho];intro c hc;cases hc) (by simp [execOp,ho]) ?_
  have h2:=hr.nilArr (b:=b) (e:=e) (Nat.lt_succ_self _)
  have hv:=opAV_ok hr x
  rw [hx] at hv
  simp only [RA] at hv
  refine ⟨_,_,RelK.set h2 hdst ⟨⟨?_,by rw [hv];rfl⟩,fun _ _=>?_⟩⟩
  ·simp [AState.setB]
  ·simp [hv,KB.slice]
 ·simp only [okRes,Rd.run_ret,Option.some.injEq] at h
  subst h
  exact OpOk.pure (by rw [ho];intro c hc;cases hc) hdst fun a w κ F hr _ _=>⟨_,by simp [execOp,ho],opAV_ok hr x⟩
theorem use_op {a:Act} {w:World} {κ:Nat→KB} {F:Nat→Prop} (hr:RelK C s a w κ F) (x:Operand) {p:Prop} {av:AV} (hu:use (opAV C.ft s.slot x)=(p,av)) (hp:p):RA C.P s.blk κ F w av (a.eval x):=by
 have:=use_ok (opAV_ok hr x) (by rw [hu];exact hp)
 rw [hu] at this
 exact this
theorem ok_pick {c x y:Operand} (hdst:∀ i,o.dst=some i→i<C.nt) (ho:o.op=.pick c x y) (h:(opV0 C.ft T Φ (opAV C.ft s.slot) o).run s.blk=some res):OpOk C o s res:=by
 simp only [opV0,ho] at h
 split at h
 ·rename_i oc cv hc
  split at h
  ·split at h
   ·rename_i oa av ha
    simp only [okRes,Rd.run_ret,Option.some.injEq] at h
    subst h
    refine OpOk.pure (by rw [ho];intro c hc;cases hc) hdst fun a w κ F hr hob _=>?_
    have h1:=RV_bool.1 (use_op hr c hc hob.1)
    cases cv with
    | false=>
     have e0:a.eval (.const (.bool false))=.bool false:=rfl
     exact ⟨.bool false,by simp [execOp,ho,h1,asBool,e0],RV_bool.2 rfl⟩
    | true=>
     have h2:=RV_bool.1 (use_op hr x ha (hob.2 rfl))
     exact ⟨.bool av,by simp [execOp,ho,h1,asBool,h2],RV_bool.2 rfl⟩
   ·cases h
  ·split at h
   ·rename_i ob bv hb
    simp only [okRes,Rd.run_ret,Option.some.injEq] at h
    subst h
    refine OpOk.pure (by rw [ho];intro c hc;cases hc) hdst fun a w κ F hr hob _=>?_
    have h1:=RV_bool.1 (use_op hr c hc hob.1)
    cases cv with
    | true=>
     have e0:a.eval (.const (.bool true))=.bool true:=rfl
     exact ⟨.bool true,by simp [execOp,ho,h1,asBool,e0],RV_bool.2 rfl⟩
    | false=>
     have h2:=RV_bool.1 (use_op hr y hb (hob.2 rfl))
     exact ⟨.bool bv,by simp [execOp,ho,h1,asBool,h2],RV_bool.2 rfl⟩
   ·cases h
  ·cases h
 ·cases h
theorem ok_unOp {op:UnOp} {ty:TypeId} {x:Operand} (hdst:∀ i,o.dst=some i→i<C.nt) (ho:o.op=.unOp op ty x) (h:(opV0 C.ft T Φ (opAV C.ft s.slot) o).run s.blk=some res):OpOk C o s res:=by
 simp only [opV0,ho] at h
 split at h
 ·rename_i ox b hx
  simp only [okRes,Rd.run_ret,Option.some.injEq] at h
  subst h
  refine OpOk.pure (by rw [ho];intro c hc;cases hc) hdst fun a w κ F hr hob _=>?_
  have h1:=RV_bool.1 (use_op hr x hx hob)
  exact ⟨.bool (!b),by simp [execOp,ho,h1,Op.unary],RV_bool.2 rfl⟩
 ·rename_i ox k n hx
  simp only [okRes,Rd.run_ret,Option.some.injEq] at h
  subst h
  refine OpOk.pure (by rw [ho];intro c hc;cases hc) hdst fun a w κ F hr hob _=>?_
  have h1:=RV_int.1 (use_op hr x hx hob)
  exact ⟨.int k (k.wrap (0 - n)),by simp [execOp,ho,h1.1,Op.unary,Op.intArith],RV_int.2 ⟨rfl,InR_wrap _ _⟩⟩
 ·cases h
theorem ok_extract {i:Nat} {x:Operand} (hdst:∀ i,o.dst=some i→i<C.nt) (ho:o.op=.extract x i) (h:(opV0 C.ft T Φ (opAV C.ft s.slot) o).run s.blk=some res):OpOk C o s res:=by
 simp only [opV0,ho] at h
 split at h
 ·rename_i ox n f hx
  split at h
  ·rename_i hi
   simp only [okRes,Rd.run_ret,Option.some.injEq] at h
   subst h
   refine OpOk.pure (by rw [ho];intro c hc;cases hc) hdst fun a w κ F hr hob _=>?_
   obtain ⟨vs,h1,h2,h3⟩:=use_op hr x hx hob
   have hi':i<vs.length:=by omega
   refine ⟨vs[i],by simp [execOp,ho,h1,Instr.extract,hi'],?_⟩
   have:=h3 i hi
   simpa [List.getD_eq_getElem?_getD,hi'] using this
  ·cases h
 ·cases h
theorem ok_nilCheck {x:Operand} (hdst:∀ i,o.dst=some i→i<C.nt) (ho:o.op=.nilCheck x) (h:(opV0 C.ft T Φ (opAV C.ft s.slot) o).run s.blk=some res):OpOk C o s res:=by
 simp only [opV0,ho] at h
 split at h
 ·rename_i ox t d hx
  simp only [okRes,Rd.run_ret,Option.some.injEq] at h
  subst h
  refine OpOk.pure (by rw [ho];intro c hc;cases hc) hdst fun a w κ F hr hob _=>?_
  obtain ⟨p,ds,h1,h2⟩:=use_op hr x hx hob
  exact ⟨_,by simp [execOp,ho,h1],p,ds,rfl,h2⟩
 ·rename_i ox e p hx
  simp only [okRes,Rd.run_ret,Option.some.injEq] at h
  subst h
  refine OpOk.pure (by rw [ho];intro c hc;cases hc) hdst fun a w κ F hr hob hc=>?_
  have h1:=(RV_leaf rfl).1 (use_op hr x hx hob)
  obtain ⟨_,h1⟩:=h1
  simp only [RC] at h1
  rcases h1 with ⟨_,rfl⟩ | ⟨q,y,ds,hq,rfl,k1,k2⟩
  ·cases hc
  ·simp only [List.cons.injEq,and_true] at hq
   exact ⟨_,by simp [execOp,ho,hq],q,ds,rfl,k1,k2⟩
 ·rename_i ox b g off hx
  simp only [Rd.run_get,Rd.run_ret] at h
  split at h
  ·rename_i hz
   simp only [Bool.and_eq_true,decide_eq_true_eq] at hz
   simp only [Option.some.injEq] at h
   subst h
   refine OpOk.pure (by rw [ho];intro c hc;cases hc) hdst fun a w κ F hr hob _=>?_
   have h1:=use_op hr x hx hob
   have h2:=h1.2 hz.1.symm hz.2
   exact ⟨_,by simp [execOp,ho,h2],⟨h1.1.1,rfl⟩,fun _ _=>rfl⟩
  ·cases h
 ·cases h
theorem add_addr (b off n:Nat):(⟨b,off,none⟩:Addr).add n=⟨b,off+n,none⟩:=by
 unfold Addr.add
 split
 ·rename_i h;subst h;rfl
 ·rfl
theorem fieldAt_run {P:Program} {w:World} {t s:Ty} {id f fo b off:Nat} (h:TyIs P (.st t) id) (hf:fieldTy t f=some (s,fo)) :
  (Instr.fieldAt id (.pointer (some ⟨b,off,none⟩)) f).run P w=.ok (.pointer (some ⟨b,off+fo,none⟩)) w:=by
 obtain ⟨fs,fld,h1,h2,h3,h4,h5⟩:=h.field hf
 simp only [Instr.fieldAt,Sem.run_bind,run_underlying' h1,Result.andThen_ok,h2,Instr.sureAddr,Sem.run_pure,fieldPlace,h4.size,h5,if_false,h3,add_addr]
theorem ok_fieldAddr (hT:TabOk C.P T) {ty f:Nat} {x:Operand} (hdst:∀ i,o.dst=some i→i<C.nt) (ho:o.op=.fieldAddr ty x f) (h:(opV0 C.ft T Φ (opAV C.ft s.slot) o).run s.blk=some res):OpOk C o s res:=by
 simp only [opV0,ho] at h
 split at h
 ·rename_i t ht
  have hti:=hT.is ht (by simp)
  split at h
  ·rename_i s' fo hf
   split at h
   ·rename_i ox b g off hx
    simp only [Rd.run_get,Rd.run_ret] at h
    split at h
    ·rename_i hz
     simp only [Bool.and_eq_true,decide_eq_true_eq] at hz
     simp only [Option.some.injEq] at h
     subst h
     refine OpOk.pure (by rw [ho];intro c hc;cases hc) hdst fun a w κ F hr hob _=>?_
     have h1:=use_op hr x hx hob
     have h2:=h1.2 hz.1.symm hz.2
     exact ⟨_,by simp [execOp,ho,h2,fieldAt_run hti hf],⟨h1.1.1,rfl⟩,fun _ _=>rfl⟩
    ·cases h
   ·rename_i ox b g i off hx
    simp only [Rd.run_get,Rd.run_ret] at h
    split at h
    ·rename_i hz
     simp only [Bool.and_eq_true,decide_eq_true_eq] at hz
     simp only [Option.some.injEq] at h
     subst h
     refine OpOk.pure (by rw [ho];intro c hc;cases hc) hdst fun a w κ F hr hob _=>?_
     have h1:=use_op hr x hx hob
     obtain ⟨h2,h3,h4⟩:=h1.2 hz.1.symm hz.2
     exact ⟨_,by simp [execOp,ho,h4,fieldAt_run hti hf];rfl,⟨h1.1.1,rfl⟩,fun _ _=>⟨h2,h3,by rw [Nat.add_assoc]⟩⟩
    ·cases h
   ·rename_i ox t' d hx
    split at h
    ·rename_i ht'
     subst ht'
     split at h
     ·rename_i s2 y hy
      simp only [okRes,Rd.run_ret,Option.some.injEq] at h
      subst h
      refine OpOk.pure (by rw [ho];intro c hc;cases hc) hdst fun a w κ F hr hob _=>?_
      obtain ⟨p,ds,h1,h2,h3⟩:=use_op hr x hx hob
      simp only [RC] at h3
      obtain ⟨c1,c2,c3,rfl,k1,k2⟩:=fieldDen_ok t' h3 hy
      rw [hf] at k2
      cases k2
      have hp:p=⟨p.block,p.off,none⟩:=by have:=h2.2.1;cases p;simp_all
      rw [hp] at h1
      refine ⟨_,by simp [execOp,ho,h1,fieldAt_run hti hf],⟨p.block,p.off+c1.length,none⟩,c2,rfl,⟨h2.1,rfl,fun j hj=>?_⟩,k1⟩
      have:=h2.2.2 (c1.length+j) (by simp;omega)
      rw [show p.off+(c1.length+j)=p.off+c1.length+j from by omega] at this
      simpa [List.getElem_append_right,List.getElem_append_left,hj] using this
     ·cases h
    ·cases h
   ·cases h
  ·cases h
 ·cases h
theorem ok_field (hT:TabOk C.P T) {ty f:Nat} {x:Operand} (hdst:∀ i,o.dst=some i→i<C.nt) (ho:o.op=.field ty x f) (h:(opV0 C.ft T Φ (opAV C.ft s.slot) o).run s.blk=some res):OpOk C o s res:=by
 simp only [opV0,ho] at h
 split at h
 ·rename_i t ht
  have hti:=hT.is ht (by simp)
  split at h
  ·rename_i ox t' d hx
   split at h
   ·rename_i ht'
    subst ht'
    split at h
    ·rename_i s2 y hy
     simp only [okRes,Rd.run_ret,Option.some.injEq] at h
     subst h
     refine OpOk.pure (by rw [ho];intro c hc;cases hc) hdst fun a w κ F hr hob _=>?_
     obtain ⟨⟨cs,h1,h2⟩,h3⟩:=use_op hr x hx hob
     rw [h1] at h3
     simp only [RC,Value.cells] at h3
     obtain ⟨c1,c2,c3,e,k1,k2⟩:=fieldDen_ok t' h3 hy
     obtain ⟨fs,fld,f1,f2,f3,f4,f5⟩:=hti.field k2
     obtain ⟨v,r1,r2⟩:=part_ok (w:=w) f4 e k1
     refine ⟨v,?_,r2⟩
     simp [execOp,ho,h1,Instr.field,run_underlying' f1,f2,asAgg,f3,r1]
    ·cases h
   ·cases h
  ·cases h
 ·cases h
end
end Go.Fer
namespace Go.Fer
open Go.RowKit
theorem TyIs.ptr {P:Program} {e:Ty} {id:TypeId} (h:TyIs P (.ptr e) id):∃ i,P.underlying id=some (.pointer i)∧True:=by
 unfold TyIs at h
 simp only [tyChk,Bool.and_eq_true] at h
 obtain ⟨_,h⟩:=h
 split at h
 ·rename_i i hi
  exact ⟨i,hi,trivial⟩
 ·cases h
theorem asDen_int {k:IntKind} {av:AV} {H:Nat→ABlk} {x:Int} {l:List Nat} (h:(asDen (.int k) av).run H=some (x,l)):av.int?.isSome=true:=by
 cases av with
 | val t' y=>
  simp only [asDen,Rd.run_ret,Option.map_eq_some_iff,Prod.mk.injEq] at h
  obtain ⟨z,hz,_⟩:=h
  obtain ⟨rfl,_⟩:=castDen_some hz
  rfl
 | raw v=>simp [asDen,asTop,Ty.isLeaf,asLeaf,rawDen] at h
 | _=>simp [asDen,asTop,Ty.isLeaf,asLeaf,Rd.none] at h
theorem asDen_str {av:AV} {H:Nat→ABlk} {x:List UInt8} {l:List Nat} (h:(asDen .str av).run H=some (x,l)):av.str?.isSome=true:=by
 cases av with
 | val t' y=>
  simp only [asDen,Rd.run_ret,Option.map_eq_some_iff,Prod.mk.injEq] at h
  obtain ⟨z,hz,_⟩:=h
  obtain ⟨rfl,_⟩:=castDen_some hz
  rfl
 | raw v=>simp [asDen,asTop,Ty.isLeaf,asLeaf,rawDen] at h
 | _=>simp [asDen,asTop,Ty.isLeaf,asLeaf,Rd.none] at h
theorem equalIn_nil {P:Program} {w:World} {ty i:TypeId} (hi:P.underlying ty=some (.pointer i)) (a:Option Addr) (d:Nat):(Op.equalIn (d+1) ty (.pointer a) (.pointer none)).run P w=.ok a.isNone w:=by
 cases a<;>simp [Op.equalIn,run_underlying' hi]
inductive Pair:Value→Value→Prop where
 | bool (a b:Bool):Pair (.bool a) (.bool b)
 | agg (a b:Array Value):Pair (.agg a) (.agg b)
 | ptr (a b:Option Addr):Pair (.pointer a) (.pointer b)
theorem pair_run {P:Program} {w:World} {ty:TypeId} {x y:Operand} {u u':Value} {e:Bool} (hp:Pair u u') (h:(Op.equalIn 10000 ty u u').run P w=.ok e w)
  (hg:∀ a b,u=.agg a→u'=.agg b→P.eqGuardType P.depth ty=false) :
  (do eqGuard .eql ty x y u u';binOp .eql ty u u':Sem Value).run P w=.ok (.bool e) w∧(do eqGuard .neq ty x y u u';binOp .neq ty u u':Sem Value).run P w=.ok (.bool (!e)) w:=by
 cases hp with
 | bool a b=>constructor<;>simp [eqGuard_bool,binOp,Op.equal,Op.maxDepth,h]
 | agg a b=>constructor<;>simp [run_eqGuard_agg _ _ _ _ _ _ _ (hg a b rfl rfl),binOp,Op.equal,Op.maxDepth,h]
 | ptr a b=>constructor<;>simp [eqGuard_ptr,binOp,Op.equal,Op.maxDepth,h]
section
variable {C:Ctx} {T:Nat→Ty} {Φ:Nat→Option FC} {o:Oper} {s:AState} {res:OpRes}
theorem anyDen {a:Act} {w:World} {κ:Nat→KB} {F:Nat→Prop} (hr:RelK C s a w κ F) {t:Ty} {av:AV} {v:Value} {x:t.Den} {l:List Nat} (h:(asDen t av).run s.blk=some (x,l)) (hv:RA C.P s.blk κ F w av v) :
  RV C.P t (fun _=>True) w v x:=asDen_ok hr.blks (fun _ _=>trivial) h (fun _ _ _=>trivial) hv
theorem eqOp_ok {op:BinOp} {ty:TypeId} {vx vy:AV} {x y:Operand} {c:Prop} {v:AV} {a:Act} {w:World} {κ:Nat→KB} {F:Nat→Prop} (hT:TabOk C.P T) (hr:RelK C s a w κ F)
  (h:(eqOp op (T ty) vx vy).run s.blk=some (c,v)) {u u':Value} (hx:RA C.P s.blk κ F w vx u) (hy:RA C.P s.blk κ F w vy u') (hni:¬(vx.int?.isSome=true∧vy.int?.isSome=true)) (hns:¬(vx.str?.isSome=true∧vy.str?.isSome=true)) :
  ∃ r,(do eqGuard op ty x y u u';binOp op ty u u':Sem Value).run C.P w=.ok r w∧RA C.P s.blk κ F w v r:=by
 unfold eqOp at h
 rw [Rd.run_bindO] at h
 simp only [Option.bind_eq_some_iff] at h
 obtain ⟨e,he,hv⟩:=h
 simp only [Rd.run_ret] at hv
 have key:Pair u u'∧(Op.equalIn 10000 ty u u').run C.P w=.ok e w∧(∀ a b,u=.agg a→u'=.agg b→C.P.eqGuardType C.P.depth ty=false):=by
  split at he
  ·rename_i e' p e2 ht
   obtain ⟨i,hi,_⟩:=(hT.is ht (by simp)).ptr
   simp only [RA] at hy
   subst hy
   simp only [Rd.run_ret,Option.some.injEq] at he
   subst he
   obtain ⟨_,hx'⟩:=(RV_leaf rfl).1 hx
   rcases hx' with ⟨hx',rfl⟩ | ⟨q,z,ds,hx',rfl,_⟩
   ·obtain rfl:=(List.cons.inj hx').1
    exact ⟨.ptr _ _,equalIn_nil hi none 9999,fun _ _ h=>by cases h⟩
   ·obtain rfl:=(List.cons.inj hx').1
    exact ⟨.ptr _ _,equalIn_nil hi (some q) 9999,fun _ _ h=>by cases h⟩
  ·rename_i e' t2 x2 ht
   obtain ⟨i,hi,_⟩:=(hT.is ht (by simp)).ptr
   simp only [RA] at hy
   subst hy
   simp only [Rd.run_ret,Option.some.injEq] at he
   subst he
   obtain ⟨q,ds,rfl,_⟩:=hx
   exact ⟨.ptr _ _,equalIn_nil hi (some q) 9999,fun _ _ h=>by cases h⟩
  ·rename_i e' b g off ht
   obtain ⟨i,hi,_⟩:=(hT.is ht (by simp)).ptr
   simp only [RA] at hy
   subst hy
   simp only [Rd.run_get,Rd.run_ret] at he
   split at he
   ·rename_i hz
    simp only [Bool.and_eq_true,decide_eq_true_eq] at hz
    simp only [Option.some.injEq] at he
    subst he
    have:=hx.2 hz.1.symm hz.2
    subst this
    exact ⟨.ptr _ _,equalIn_nil hi (some _) 9999,fun _ _ h=>by cases h⟩
   ·cases he
  ·split at he
   ·rename_i hcm
    simp only [Bool.and_eq_true,decide_eq_true_eq] at hcm
    simp only [Rd.run_bindO,Option.bind_eq_some_iff,Rd.run_ret,Option.some.injEq] at he
    obtain ⟨⟨x1,l1⟩,h1,⟨y1,l2⟩,h2,rfl⟩:=he
    have r1:=anyDen hr h1 hx
    have r2:=anyDen hr h2 hy
    generalize hty:T ty=t at *
    cases t with
    | bool=>
     have hti:=hT.is hty (by simp)
     refine ⟨?_,(equal_ok .bool 10000 rfl (by decide)).1 hti r1 r2,?_⟩
     ·rw [RV_bool.1 r1,RV_bool.1 r2];exact .bool _ _
     ·intro _ _ h;rw [RV_bool.1 r1] at h;cases h
    | int k=>exact (hni ⟨asDen_int h1,asDen_int h2⟩).elim
    | str=>exact (hns ⟨asDen_str h1,asDen_str h2⟩).elim
    | st t=>
     have hti:=hT.is hty (by simp)
     refine ⟨?_,(equal_ok (.st t) 10000 hcm.1 (by omega)).1 hti r1 r2,fun _ _ _ _=>hti.eqs.2.1⟩
     obtain ⟨⟨_,rfl,_⟩,_⟩:=r1
     obtain ⟨⟨_,rfl,_⟩,_⟩:=r2
     exact .agg _ _
    | prod t1 t2=>have:=hT.is hty (by simp);unfold TyIs at this;simp only [tyChk,Bool.false_eq_true] at this
    | unit=>cases hcm.1
    | slice _=>cases hcm.1
    | array _ _=>cases hcm.1
    | ptr _=>cases hcm.1
    | map _ _=>cases hcm.1
    | fn _ _=>cases hcm.1
    | it _=>cases hcm.1
    | raws _=>cases hcm.1
   ·cases he
 obtain ⟨k1,k2,k3⟩:=key
 have:=pair_run (x:=x) (y:=y) k1 k2 k3
 cases op<;>simp only [reduceCtorEq,Option.some.injEq,Prod.mk.injEq] at hv
 case eql=>obtain ⟨rfl,rfl⟩:=hv;exact ⟨_,this.1,RV_bool.2 rfl⟩
 case neq=>obtain ⟨rfl,rfl⟩:=hv;exact ⟨_,this.2,RV_bool.2 rfl⟩
theorem ok_binOp (hT:TabOk C.P T) {op:BinOp} {ty ty':TypeId} {x y:Operand} (hdst:∀ i,o.dst=some i→i<C.nt) (ho:o.op=.binOp op ty x y ty') (h:(opV0 C.ft T Φ (opAV C.ft s.slot) o).run s.blk=some res):OpOk C o s res:=by
 simp only [opV0,ho] at h
 have hdf:∀ c,o.op≠.defer c:=by rw [ho];intro c hc;cases hc
 have exe:∀ (a:Act) (w:World) (r:Value),(do eqGuard op ty x y (a.eval x) (a.eval y);binOp op ty (a.eval x) (a.eval y):Sem Value).run C.P w=.ok r w→(execOp a.eval o).run C.P w=.ok (.value r) w:=by
  intro a w r hr
  simp only [execOp,ho,Sem.run_bind] at hr ⊢
  rw [hr]
  rfl
 split at h
 ·rename_i k m k' n hx hy
  have fin:∀ (c:Prop) (v:AV),(∀ (w:World) κ F,c→InR k m→∃ r,(binOp op ty (.int k m) (.int k' n)).run C.P w=.ok r w∧RA C.P s.blk κ F w v r)→
    res=⟨(use (opAV C.ft s.slot x)).1∧(use (opAV C.ft s.slot y)).1,c,v,[]⟩→OpOk C o s res:=by
   intro c v hk hres
   subst hres
   refine OpOk.pure hdf hdst fun a w κ F hr hob hc=>?_
   have h1:=int?_ok (use_op hr x rfl hob.1) hx
   have h2:=int?_ok (use_op hr y rfl hob.2) hy
   obtain ⟨r,r1,r2⟩:=hk w κ F hc h1.2
   exact ⟨r,exe a w r (by simp [h1.1,h2.1,eqGuard_int,r1]),r2⟩
  split at h
  ·split at h
   ·rename_i c v hs
    simp only [okRes,Rd.run_ret,Option.some.injEq] at h
    exact fin c v (fun w κ F hc ha=>shiftOp_ok hs hc ha) h.symm
   ·cases h
  ·split at h
   ·rename_i c v hs
    simp only [okRes,Rd.run_ret,Option.some.injEq] at h
    exact fin c v (fun w κ F hc ha=>shiftOp_ok hs hc ha) h.symm
   ·cases h
  ·split at h
   ·rename_i hkk
    subst hkk
    split at h
    ·rename_i c v hs
     simp only [okRes,Rd.run_ret,Option.some.injEq] at h
     exact fin c v (fun w κ F hc ha=>intOp_ok hs hc ha) h.symm
    ·cases h
   ·cases h
 ·rename_i hni
  split at h
  ·rename_i m n hx hy
   split at h
   ·rename_i c v hs
    simp only [okRes,Rd.run_ret,Option.some.injEq] at h
    subst h
    refine OpOk.pure hdf hdst fun a w κ F hr hob hc=>?_
    have h1:=str?_ok (use_op hr x rfl hob.1) hx
    have h2:=str?_ok (use_op hr y rfl hob.2) hy
    obtain ⟨r,r1,r2⟩:=strOp_ok (P:=C.P) (H:=s.blk) (κ:=κ) (F:=F) (w:=w) (t:=ty) hs hc
    exact ⟨r,exe a w r (by simp [h1.1,h2.1,eqGuard_str,r1]),r2⟩
   ·cases h
  ·rename_i hns
   simp only [okRes,Rd.run_bindO,Option.bind_eq_some_iff,Rd.run_ret,Option.some.injEq] at h
   obtain ⟨⟨c,v⟩,hs,rfl⟩:=h
   refine OpOk.pure hdf hdst fun a w κ F hr hob hc=>?_
   obtain ⟨r,r1,r2⟩:=eqOp_ok (x:=x) (y:=y) hT hr hs (use_op hr x rfl hob.1) (use_op hr y rfl hob.2)
    (fun ⟨e1,e2⟩=>by
     obtain ⟨⟨k,m⟩,e1⟩:=Option.isSome_iff_exists.1 e1
     obtain ⟨⟨k',m'⟩,e2⟩:=Option.isSome_iff_exists.1 e2
     exact hni _ _ _ _ e1 e2)
    (fun ⟨e1,e2⟩=>by
     obtain ⟨m,e1⟩:=Option.isSome_iff_exists.1 e1
     obtain ⟨m',e2⟩:=Option.isSome_iff_exists.1 e2
     exact hns _ _ e1 e2)
   exact ⟨r,exe a w r r1,r2⟩
theorem cell_of {w:World} {b:Nat} {cs:Array Value} {T:TypeId} {fz:Nat×Nat} (h:w.heap[b]?=some (.cells cs T fz)) (off:Nat):w.cell? ⟨b,off,none⟩=cs[off]?:=by
 simp [World.cell?,h]
theorem loadVar_leaf {P:Program} {w:World} {t:Ty} {id:TypeId} (h:TyIs P t id) (hl:t.isAgg=false) {p:Addr} {v:Value} (hv:w.cell? p=some v):(loadVar id p).run P w=.ok v w:=by
 simp [loadVar,isAgg_run h,hl,hv]
theorem loadV_ok (hT:TabOk C.P T) {ty:TypeId} {vx v:AV} {u:Value} {a:Act} {w:World} {κ:Nat→KB} {F:Nat→Prop} (hr:RelK C s a w κ F) (h:(loadV (T ty) vx).run s.blk=some v) (hx:RA C.P s.blk κ F w vx u) :
  ∃ r,(Instr.loadAt ty u).run C.P w=.ok r w∧RA C.P s.blk κ F w v r:=by
 generalize hty:T ty=t at *
 cases vx with
 | pp t' d=>
  simp only [loadV,Rd.run_ret] at h
  split at h
  ·rename_i hc
   obtain ⟨rfl,hc⟩:=hc
   simp only [Option.some.injEq] at h
   subst h
   obtain ⟨p,ds,rfl,h2,h3⟩:=hx
   have hti:=hT.is hty (by intro e;subst e;cases hc)
   obtain ⟨r,r1,r2⟩:=loadVar_ok hti h2.reads h3
   exact ⟨r,by simp [Instr.loadAt,Instr.sureAddr,r1],r2⟩
  ·cases h
 | loc b g off=>
  simp only [loadV,Rd.run_get,Rd.run_ret] at h
  split at h
  ·rename_i hg
   split at h
   ·rename_i t0 f hbody
    have hv:=hx.2 hg.symm (by rw [hbody];rfl)
    subst hv
    have hB:=hr.blks b
    unfold HB at hB
    rw [hbody] at hB
    obtain ⟨cs,T',c1,c2,c3⟩:=hB
    split at h
    ·rename_i hl
     split at h
     ·rename_i hoff
      simp only [Option.some.injEq] at h
      subst h
      have hti:=hT.is hty (by intro e;subst e;cases hl)
      have hla:t.isAgg=false:=by cases t<;>simp_all [Ty.isLeaf,Ty.isAgg]
      refine ⟨cs.getD off Go.undef,?_,(c3 off hoff).1⟩
      simp only [Instr.loadAt,Instr.sureAddr,Sem.run_bind,Sem.run_pure,Result.andThen_ok]
      refine loadVar_leaf hti hla ?_
      rw [cell_of c1]
      simp [Array.getD_eq_getD_getElem?,c2,hoff]
     ·cases h
    ·split at h
     ·rename_i hagg
      split at h
      ·rename_i hoff
       simp only [Option.some.injEq] at h
       subst h
       have hti:=hT.is hty (by intro e;subst e;cases hagg)
       let vs:=(List.range t.size).map fun j=>cs.getD (off+j) Go.undef
       refine ⟨.agg vs.toArray,?_,vs,rfl,by simp [vs],fun i hi=>?_⟩
       ·simp only [Instr.loadAt,Instr.sureAddr,Sem.run_bind,Sem.run_pure,Result.andThen_ok,loadVar,isAgg_run hti,hagg,if_true,hti.size]
        rw [run_loadCells w ⟨(κ b).blk,off,none⟩ t.size (fun j=>cs.getD (off+j) Go.undef)]
        ·rfl
        ·intro j hj
         rw [add_addr,cell_of c1]
         simp [Array.getD_eq_getD_getElem?,c2,show off+j<t0.size by omega]
       ·have e:vs.getD i Go.undef=cs.getD (off+i) Go.undef:=by simp [vs,List.getD_eq_getElem?_getD,hi]
        rw [e]
        exact c3 (off+i) (by omega)
      ·cases h
     ·cases h
   ·rename_i t0 y hbody
    have hv:=hx.2 hg.symm (by rw [hbody];rfl)
    subst hv
    have hB:=hr.blks b
    unfold HB at hB
    rw [hbody] at hB
    obtain ⟨ds,d1,d2⟩:=hB
    split at h
    ·rename_i hc
     simp only [Option.map_eq_some_iff] at h
     obtain ⟨z,hz,rfl⟩:=h
     obtain ⟨c1,c2,c3,rfl,q1,q2⟩:=compAt_ok t0 d2 hz
     have hti:=hT.is hty (by intro e;subst e;cases hc)
     have hh:Reads w ⟨(κ b).blk,off,none⟩ c2:=by
      refine ⟨fun _=>rfl,fun j hj=>?_⟩
      have:=d1.2.2 (c1.length+j) (by simp;omega)
      simp only [←q1]
      simpa [List.getElem_append_right,List.getElem_append_left,hj] using this
     obtain ⟨r,r1,r2⟩:=loadVar_ok hti hh q2
     exact ⟨r,by simp [Instr.loadAt,Instr.sureAddr,r1],r2⟩
    ·cases h
   ·cases h
  ·cases h
 | elm b g i off=>
  simp only [loadV,Rd.run_get,Rd.run_ret] at h
  split at h
  ·rename_i hg
   have fin:∀ (e:Ty) (xs:List e.Den),(s.blk b).body.isArr=true→(s.blk b).body.len=xs.length→(s.blk b).body.esz=e.size→
     (∀ (hi:i<xs.length),(κ b).isNil=false→∃ ds,Reads w ⟨(κ b).blk,(κ b).off+i*e.size,none⟩ ds∧RC C.P e F w ds xs[i])→
     (if t.isLeaf||t.isAgg then (compAt e (xs.getD i e.dflt) off t).map (.val t) else none)=some v→∃ r,(Instr.loadAt ty u).run C.P w=.ok r w∧RA C.P s.blk κ F w v r:=by
    intro e xs ha hlen hesz hrow hv
    split at hv
    ·rename_i hc
     simp only [Option.map_eq_some_iff] at hv
     obtain ⟨z,hz,rfl⟩:=hv
     obtain ⟨k1,k2,k3⟩:=hx.2 hg.symm ha
     subst k3
     rw [hlen] at k1
     obtain ⟨ds,d1,d2⟩:=hrow k1 k2
     have hxi:xs.getD i e.dflt=xs[i]:=by simp [List.getD_eq_getElem?_getD,k1]
     rw [hxi] at hz
     obtain ⟨c1,c2,c3,rfl,q1,q2⟩:=compAt_ok e d2 hz
     have hti:=hT.is hty (by intro e;subst e;cases hc)
     have hh:Reads w ⟨(κ b).blk,(κ b).off+i*(s.blk b).body.esz+off,none⟩ c2:=by
      refine ⟨fun _=>rfl,fun j hj=>?_⟩
      have:=d1.2 (c1.length+j) (by simp;omega)
      simp only [hesz]
      rw [←q1]
      rw [show (κ b).off+i*e.size+(c1.length+j)=(κ b).off+i*e.size+c1.length+j from by omega] at this
      simpa [List.getElem_append_right,List.getElem_append_left,hj] using this
     obtain ⟨r,r1,r2⟩:=loadVar_ok hti hh q2
     exact ⟨r,by simp [Instr.loadAt,Instr.sureAddr,r1],r2⟩
    ·cases hv
   have hB:=hr.blks b
   unfold HB at hB
   split at h
   ·rename_i e xs hbody
    rw [hbody] at hB
    refine fin e xs (by rw [hbody];rfl) (by rw [hbody];rfl) (by rw [hbody];rfl) (fun hi hn=>?_) h
    obtain ⟨cs,T',c1,c2,c3,c4,c5⟩:=hB.2 hn
    obtain ⟨ds,d1,d2⟩:=c5 i hi
    exact ⟨ds,⟨fun _=>rfl,fun j hj=>by rw [cell_of c1];exact d1 j hj⟩,d2⟩
   ·rename_i e xs hbody
    rw [hbody] at hB
    refine fin e xs (by rw [hbody];rfl) (by rw [hbody];rfl) (by rw [hbody];rfl) (fun hi hn=>?_) h
    simp only [HBody,RC,KB.slice,hn,Bool.false_eq_true,if_false] at hB
    obtain ⟨a',cap,e1,m1,m2,m3,m4⟩:=hB
    simp only [List.cons.injEq,Value.slice.injEq,and_true] at e1
    obtain ⟨rfl,_,rfl⟩:=e1
    obtain ⟨n1,n2,n3⟩:=m4 _ rfl (by omega)
    obtain ⟨ds,d1,d2⟩:=n3 i hi
    exact ⟨ds,d1.reads,d2⟩
   ·cases h
  ·cases h
 | _=>cases h
end
end Go.Fer
namespace Go.Fer
open Go.RowKit
section
variable {C:Ctx} {T:Nat→Ty} {Φ:Nat→Option FC} {o:Oper} {s:AState} {res:OpRes}
theorem ok_load (hT:TabOk C.P T) {ty:TypeId} {x:Operand} (hdst:∀ i,o.dst=some i→i<C.nt) (ho:o.op=.load ty x) (h:(opV0 C.ft T Φ (opAV C.ft s.slot) o).run s.blk=some res):OpOk C o s res:=by
 simp only [opV0,ho,okRes,Rd.run_bindO,Option.bind_eq_some_iff,Rd.run_ret,Option.some.injEq] at h
 obtain ⟨v,hv,rfl⟩:=h
 refine OpOk.pure (by rw [ho];intro c hc;cases hc) hdst fun a w κ F hr hob _=>?_
 obtain ⟨r,r1,r2⟩:=loadV_ok hT hr hv (use_op hr x rfl hob)
 exact ⟨r,by simp [execOp,ho,r1],r2⟩
theorem TyIs.str {P:Program} {id:TypeId} (h:TyIs P .str id):P.underlying id=some .string:=by
 unfold TyIs at h
 simp only [tyChk,Bool.and_eq_true] at h
 obtain ⟨_,h⟩:=h
 split at h
 ·assumption
 ·cases h
theorem TyIs.int {P:Program} {k:IntKind} {id:TypeId} (h:TyIs P (.int k) id):P.underlying id=some (.int k):=by
 unfold TyIs at h
 simp only [tyChk,Bool.and_eq_true] at h
 obtain ⟨_,h⟩:=h
 split at h
 ·rename_i hu;rw [←of_decide_eq_true h];exact hu
 ·cases h
theorem TyIs.cellT {P:Program} {t:Ty} {id:TypeId} (h:TyIs P t id):CellT P t id:=fun n s hk=>by
 subst hk
 unfold TyIs at h
 simp only [tyChk,Bool.and_eq_true,selfOk] at h
 have h:=h.1.1.1.2
 split at h
 ·rename_i i hu
  rw [hu,eq_of_beq h]
 ·cases h
theorem TyIs.rowT {P:Program} {e:Ty} {id:TypeId} (h:TyIs P e id):RowT P e id:=fun k hk=>by
 subst hk
 obtain ⟨i,z,h1,h2,_⟩:=infoOk_out h.info
 exact ⟨h.int,by simp [Program.cellsOf,h1,h2,Ty.size]⟩
theorem TyIs.arr {P:Program} {n:Nat} {e:Ty} {id:TypeId} (h:TyIs P (.array n e) id):∃ i,P.underlying id=some (.array n i)∧TyIs P e i∧e.size≠0:=by
 unfold TyIs at h
 simp only [tyChk,Bool.and_eq_true] at h
 obtain ⟨_,h⟩:=h
 split at h
 ·rename_i m i hu
  simp only [Bool.and_eq_true,decide_eq_true_eq,bne_iff_ne,ne_eq] at h
  obtain ⟨⟨rfl,h2⟩,h3⟩:=h
  exact ⟨i,hu,h2,h3⟩
 ·cases h
theorem flat_at {css:List (List Value)} {m:Nat} (h:∀ c∈css,c.length=m) {i:Nat} (hi:i<css.length):∃ p q,css.flatten=p++(css[i]++q)∧p.length=i*m:=by
 refine ⟨(css.take i).flatten,(css.drop (i+1)).flatten,?_,?_⟩
 ·rw [←List.flatten_cons,←List.drop_eq_getElem_cons hi,←List.flatten_append,List.take_append_drop]
 ·have h4:(css.take i).map List.length=List.replicate i m:=List.eq_replicate_iff.2 ⟨by simp;omega,fun x hx=>by
   obtain ⟨c,hc,rfl⟩:=List.mem_map.1 hx
   exact h c (List.mem_of_mem_take hc)⟩
  simp [List.length_flatten,h4]
theorem RC_arr_at {P:Program} {n:Nat} {e:Ty} {F:Nat→Prop} {w:World} {cs:List Value} {xs:List e.Den} (h:RC P (.array n e) F w cs xs) {i:Nat} (hi:i<n):∃ p c q,cs=p++(c++q)∧p.length=i*e.size∧RC P e F w c (xs.getD i e.dflt):=by
 simp only [RC] at h
 obtain ⟨css,rfl,h1,h2,h3⟩:=h
 obtain ⟨p,q,k1,k2⟩:=flat_at (m:=e.size) (fun c hc=>by
  obtain ⟨j,hj,rfl⟩:=List.mem_iff_getElem.1 hc
  exact RC_len e (h3 j (by omega) hj)) (show i<css.length by omega)
 refine ⟨p,_,q,k1,k2,?_⟩
 have:=h3 i (by omega) (by omega)
 simpa [List.getD_eq_getElem?_getD,show i<xs.length by omega] using this
theorem ok_index (hT:TabOk C.P T) {ty:TypeId} {x i:Operand} (hdst:∀ i,o.dst=some i→i<C.nt) (ho:o.op=.index ty x i) (h:(opV0 C.ft T Φ (opAV C.ft s.slot) o).run s.blk=some res):OpOk C o s res:=by
 simp only [opV0,ho] at h
 split at h
 ·rename_i l k n ht hx hi
  simp only [okRes,Rd.run_ret,Option.some.injEq] at h
  subst h
  refine OpOk.pure (by rw [ho];intro c hc;cases hc) hdst fun a w κ F hr hob hc=>?_
  have h1:=str?_ok (use_op hr x rfl hob.1) hx
  have h2:=int?_ok (use_op hr i rfl hob.2) hi
  have hti:=(hT.is ht (by simp)).str
  have hlt:n.toNat<l.length:=by omega
  refine ⟨.int .u8 ((l.getD n.toNat 0).toNat:Int),?_,RV_int.2 ⟨rfl,?_⟩⟩
  ·have e:(⟨l.toArray⟩:ByteArray)[n.toNat]?=some (l.getD n.toNat 0):=by
    have hs:n.toNat<(⟨l.toArray⟩:ByteArray).size:=by simpa [ByteArray.size] using hlt
    rw [getElem?_pos (⟨l.toArray⟩:ByteArray) n.toNat hs]
    simp only [Option.some.injEq]
    show (⟨l.toArray⟩:ByteArray).data[n.toNat]=_
    simp [List.getD_eq_getElem?_getD,hlt]
   simp [execOp,ho,Instr.index,h1.1,h2.1,asIntOf,run_underlying' hti,hc.1,e]
  ·have:=(l.getD n.toNat 0).toNat_lt
   constructor
   ·have:IntKind.u8.min=0:=by decide
    omega
   ·have:IntKind.u8.max=255:=by decide
    omega
 ·rename_i m e k n ht hi
  split at h
  ·rename_i m' e' xs hx
   split at h
   ·rename_i he
    obtain ⟨rfl,rfl⟩:=he
    simp only [okRes,Rd.run_ret,Option.some.injEq] at h
    subst h
    refine OpOk.pure (by rw [ho];intro c hc;cases hc) hdst fun a w κ F hr hob hc=>?_
    have h1:RA C.P s.blk κ F w (use (opAV C.ft s.slot x)).2 (a.eval x):=use_op hr x rfl hob.1
    rw [hx] at h1
    have h2:=int?_ok (use_op hr i rfl hob.2) hi
    obtain ⟨j,hj,hje,_⟩:=(hT.is ht (by simp)).arr
    obtain ⟨⟨cs,hv,hcs⟩,hrc⟩:=h1
    rw [hv] at hrc
    obtain ⟨p,c,q,e1,e2,e3⟩:=RC_arr_at hrc (i:=n.toNat) (by omega)
    obtain ⟨v,g1,g2⟩:=part_ok hje (cs:=cs) e1 e3
    refine ⟨v,?_,g2⟩
    rw [e2] at g1
    simp [execOp,ho,Instr.index,hv,h2.1,asIntOf,run_underlying' hj,hc.1,hc.2,hje.size,g1]
   ·cases h
  ·rename_i k' f hx
   split at h
   ·rename_i hk
    simp only [okRes,Rd.run_ret,Option.some.injEq] at h
    subst h
    refine OpOk.pure (by rw [ho];intro c hc;cases hc) hdst fun a w κ F hr hob hc=>?_
    have h1:RA C.P s.blk κ F w (use (opAV C.ft s.slot x)).2 (a.eval x):=use_op hr x rfl hob.1
    rw [hx] at h1
    have h2:=int?_ok (use_op hr i rfl hob.2) hi
    obtain ⟨j,hj,hje,hsz⟩:=(hT.is ht (by simp)).arr
    obtain ⟨vs,hv,hl,hall⟩:=h1
    have hlt:n.toNat*e.size+e.size≤vs.length:=by
     rw [hl,hk]
     have:(n.toNat+1)*e.size≤m*e.size:=Nat.mul_le_mul_right _ (by omega)
     rw [Nat.add_mul,Nat.one_mul] at this
     exact this
    by_cases ha:e.isAgg=true
    ·simp only [if_pos ha]
     refine ⟨_,by simp [execOp,ho,Instr.index,hv,h2.1,asIntOf,run_underlying' hj,hc.1,hc.2,hje.size,part_agg hje ha];rfl,(vs.toArray.extract (n.toNat*e.size) (n.toNat*e.size+e.size)).toList,by simp,?_,fun q hq=>?_⟩
     ·simp;omega
     ·have eq1:(vs.toArray.extract (n.toNat*e.size) (n.toNat*e.size+e.size)).toList.getD q Go.undef=vs.getD (n.toNat*e.size+q) Go.undef:=by
       simp [List.getD_eq_getElem?_getD,hq]
      rw [eq1]
      exact hall _ (by omega)
    ·simp only [if_neg ha]
     have h4:=hall (n.toNat*e.size) (by omega)
     refine ⟨vs.getD (n.toNat*e.size) Go.undef,?_,h4.1⟩
     have hg:vs.toArray[n.toNat*e.size]?=some (vs.getD (n.toNat*e.size) Go.undef):=by
      have:n.toNat*e.size<vs.length:=by omega
      simp [List.getD_eq_getElem?_getD,this]
     simp [execOp,ho,Instr.index,hv,h2.1,asIntOf,run_underlying' hj,hc.1,hc.2,hje.size,part_leaf hje (by simpa using ha) hg]
   ·cases h
  ·cases h
 ·cases h
theorem usesObL_spec:∀ {l:List AV},usesObL l→∀ i,i<l.length→(use (l.getD i .undef)).1
 | [],_,i,hi=>by simp at hi
 | a::l,h,0,_=>by
  cases a<;>first | trivial | exact h.1
 | a::l,h,i+1,hi=>by
  have h':usesObL l:=by cases a<;>first | exact h | exact h.2
  have:=usesObL_spec h' i (by simpa using hi)
  simpa using this
theorem kb_len {k:KB} {n:Nat} (h:k.isNil=true→n=0):∃ a cap,k.slice n=.slice a n cap:=by
 unfold KB.slice
 split
 ·rename_i hn;rw [h hn];exact ⟨none,0,rfl⟩
 ·exact ⟨_,_,rfl⟩
theorem arr_nil {a:Act} {w:World} {κ:Nat→KB} {F:Nat→Prop} (hr:RelK C s a w κ F) {b:Nat} (ha:(s.blk b).body.isArr=true):((κ b).isNil=true→(s.blk b).body.len=0)∧(s.blk b).body.len<2 ^ 63:=by
 have hB:=hr.blks b
 unfold HB at hB
 cases hbody:(s.blk b).body with
 | arr e xs=>
  rw [hbody] at hB
  refine ⟨fun hn=>by rw [hB.1 hn];rfl,?_⟩
  simp only [Body.len]
  cases hn:(κ b).isNil with
  | true=>rw [hB.1 hn];simp
  | false=>obtain ⟨cs,T',c1,c2,c3,c4,c5⟩:=hB.2 hn;omega
 | froz e xs=>
  rw [hbody] at hB
  simp only [HBody,RC,KB.slice] at hB
  obtain ⟨a',cap,e1,m1,m2,m3,m4⟩:=hB
  simp only [Body.len]
  refine ⟨fun hn=>?_,by omega⟩
  simp only [hn,if_true,List.cons.injEq,Value.slice.injEq,and_true] at e1
  omega
 | _=>rw [hbody] at ha;cases ha
theorem arr_cap {a:Act} {w:World} {κ:Nat→KB} {F:Nat→Prop} (hr:RelK C s a w κ F) {b:Nat} (ha:(s.blk b).body.isArr=true) (hn:(κ b).isNil=false):(s.blk b).body.len≤(κ b).cap:=by
 have hB:=hr.blks b
 unfold HB at hB
 cases hbody:(s.blk b).body with
 | arr e xs=>
  rw [hbody] at hB
  obtain ⟨cs,T',c1,c2,c3,c4,c5⟩:=hB.2 hn
  exact c3
 | froz e xs=>
  rw [hbody] at hB
  simp only [HBody,RC,KB.slice,hn,Bool.false_eq_true,if_false] at hB
  obtain ⟨a',cap,e1,m1,m2,m3,m4⟩:=hB
  simp only [List.cons.injEq,Value.slice.injEq,and_true] at e1
  simp only [Body.len]
  omega
 | _=>rw [hbody] at ha;cases ha
theorem sub_slice {a:Act} {w:World} {κ:Nat→KB} {F:Nat→Prop} (hr:RelK C s a w κ F) {b lo hi:Nat} (ha:(s.blk b).body.isArr=true) {v:Value} (h1:lo≤hi) (h2:hi≤(s.blk b).body.len) (hs:IsSub (κ b) (s.blk b).body.esz lo hi v) :
  ∃ a cap,v=.slice a (hi - lo) cap∧hi - lo<2 ^ 63:=by
 have hn:=arr_nil hr ha
 rcases hs with ⟨k1,rfl⟩ | ⟨k1,o,rfl,_⟩
 ·have:=hn.1 k1
  exact ⟨none,0,by rw [show hi - lo=0 by omega],by omega⟩
 ·exact ⟨_,_,rfl,by omega⟩
theorem InR_len {n:Nat} (h:n<2 ^ 63):InR .i64 (n:Int):=by
 unfold InR
 have h1:IntKind.i64.min=-9223372036854775808:=by decide
 have h2:IntKind.i64.max=9223372036854775807:=by decide
 omega
theorem TyIs.mp {P:Program} {k v:Ty} {id:TypeId} (h:TyIs P (.map k v) id):∃ i j,P.underlying id=some (.map i j)∧TyIs P k i∧TyIs P v j:=by
 unfold TyIs at h
 simp only [tyChk,Bool.and_eq_true] at h
 obtain ⟨_,h⟩:=h
 split at h
 ·rename_i i j hi
  simp only [Bool.and_eq_true] at h
  exact ⟨i,j,hi,h.1,h.2⟩
 ·cases h
theorem lenV_ok (hT:TabOk C.P T) {t:TypeId} {vx:AV} {c:Prop} {n:Int} {u:Value} {a:Act} {w:World} {κ:Nat→KB} {F:Nat→Prop} (hr:RelK C s a w κ F) (h:(lenV (T t) vx).run s.blk=some (c,n)) (hc:c) (hx:RA C.P s.blk κ F w vx u) (ty:TypeId) :
  (Builtin.len_ #[t] ty #[u]).run C.P w=.ok (.int .i64 n) w∧InR .i64 n:=by
 have slc:∀ e a' m cap,T t=.slice e→u=.slice a' m cap→(m:Int)=n→m<2 ^ 63→(Builtin.len_ #[t] ty #[u]).run C.P w=.ok (.int .i64 n) w∧InR .i64 n:=by
  intro e a' m cap ht hu hm hlt
  obtain ⟨i,hi,_⟩:=(hT.is ht (by simp)).sl
  subst hu
  rw [←hm]
  exact ⟨by simp [Builtin.len_,run_underlying' hi,goInt],InR_len hlt⟩
 have mpc:∀ k v r es clk m,T t=.map k v→u=.map (some r)→w.heap[r]?=some (.map es clk)→es.size=m→(m:Int)=n→lenLe m→(Builtin.len_ #[t] ty #[u]).run C.P w=.ok (.int .i64 n) w∧InR .i64 n:=by
  intro k v r es clk m ht hu hw hes hm hlt
  obtain ⟨i,j,hi,_⟩:=(hT.is ht (by simp)).mp
  subst hu
  rw [←hm,←hes]
  unfold lenLe at hlt
  refine ⟨?_,InR_len (by omega)⟩
  simp [Builtin.len_,run_underlying' hi,goInt,getObj,Sem.run,hw]
 unfold lenV at h
 split at h
 ·rename_i e ht
  split at h
  ·rename_i e' xs
   simp only [Rd.run_ret,Option.some.injEq,Prod.mk.injEq] at h
   obtain ⟨_,hx⟩:=(RV_leaf rfl).1 hx
   obtain ⟨a',cap,e1,m1,m2,m3,m4⟩:=hx
   exact slc e a' xs.length cap ht (List.cons.inj e1).1 h.2 (by omega)
  ·simp only [Rd.run_ret,Option.some.injEq,Prod.mk.injEq] at h
   simp only [RA] at hx
   exact slc e none 0 0 ht hx (by simpa using h.2) (by decide)
  ·rename_i b g
   simp only [Rd.run_get,Rd.run_ret] at h
   split at h
   ·rename_i hz
    simp only [Bool.and_eq_true,decide_eq_true_eq] at hz
    simp only [Option.some.injEq,Prod.mk.injEq] at h
    have hv:=hx.2 hz.1.symm hz.2
    have hn:=arr_nil hr hz.2
    obtain ⟨a',cap,he⟩:=kb_len (k:=κ b) hn.1
    rw [he] at hv
    exact slc e a' _ cap ht hv h.2 hn.2
   ·cases h
  ·rename_i b g lo hi
   simp only [Rd.run_get,Rd.run_ret] at h
   split at h
   ·rename_i hz
    simp only [Bool.and_eq_true,decide_eq_true_eq] at hz
    simp only [Option.some.injEq,Prod.mk.injEq] at h
    obtain ⟨⟨k1,k2⟩,k3⟩:=hx.2 hz.1.symm hz.2
    obtain ⟨a',cap,he,hlt⟩:=sub_slice hr hz.2 k1 k2 k3
    exact slc e a' _ cap ht he h.2 hlt
   ·cases h
  ·cases h
 ·rename_i ht
  split at h
  ·rename_i xs
   simp only [Rd.run_ret,Option.some.injEq,Prod.mk.injEq] at h
   obtain ⟨rfl,hlt⟩:=RV_str.1 hx
   have hti:=(hT.is ht (by simp)).str
   rw [←h.2]
   have hs:ByteArray.size ⟨xs.toArray⟩=xs.length:=by show xs.toArray.size=_;simp
   exact ⟨by simp [Builtin.len_,run_underlying' hti,goInt,hs],InR_len (by omega)⟩
  ·cases h
 ·rename_i k v ht
  split at h
  ·rename_i k' v' xs
   simp only [Rd.run_ret,Option.some.injEq,Prod.mk.injEq] at h
   obtain ⟨rfl,h⟩:=h
   obtain ⟨_,hx⟩:=(RV_leaf rfl).1 hx
   rcases hx with ⟨e1,rfl⟩ | ⟨r,es,clk,e1,m1,m2,m3,_⟩
   ·obtain rfl:=(List.cons.inj e1).1
    obtain ⟨i,j,hi,_⟩:=(hT.is ht (by simp)).mp
    rw [←h]
    exact ⟨by simp [Builtin.len_,run_underlying' hi,goInt],InR_len (by simp)⟩
   ·exact mpc k v r es clk xs.length ht (List.cons.inj e1).1 m2 m3 h hc
  ·rename_i b g
   simp only [Rd.run_get,Rd.run_ret] at h
   split at h
   ·rename_i hg
    split at h
    ·rename_i k' v' es hbody
     simp only [Option.some.injEq,Prod.mk.injEq] at h
     obtain ⟨rfl,h⟩:=h
     have hB:=hr.blks b
     unfold HB at hB
     rw [hbody] at hB
     obtain ⟨ms,clk,q1,q2⟩:=hB
     exact mpc k v _ ms clk es.length ht (hx.2 hg.symm (by rw [hbody];rfl)) q1 q2.1 h hc
    ·rename_i k' v' es hbody
     simp only [Option.some.injEq,Prod.mk.injEq] at h
     obtain ⟨rfl,h⟩:=h
     have hB:=hr.blks b
     unfold HB at hB
     rw [hbody] at hB
     rcases hB with ⟨e1,_⟩ | ⟨r,ms,clk,e1,q0,q1,q2,_⟩
     ·cases e1
     ·simp only [List.cons.injEq,Value.map.injEq,Option.some.injEq,and_true] at e1
      subst e1
      exact mpc k v _ ms clk es.length ht (hx.2 hg.symm (by rw [hbody];rfl)) q1 q2 h hc
    ·cases h
   ·cases h
  ·cases h
 ·cases h
theorem run_call_builtin {b:Builtin} {args:Array Operand} {tys:Array TypeId} {a:Act} {w w':World} {v:Value} (ho:o.op=.call { callee:=.builtin b,args:=args,argTypes:=tys })
  (h:(builtin b tys o.type (args.map fun | .const _=>true | _=>false) (args.map a.eval)).run C.P w=.ok (.value v) w'):(execOp a.eval o).run C.P w=.ok (.value v) w':=by
 simp only [execOp,ho,Sem.run_bind,resolve,Sem.run_pure,Result.andThen_ok,invoke]
 exact h
theorem ok_len (hT:TabOk C.P T) {args:Array Operand} {tys:Array TypeId} (hdst:∀ i,o.dst=some i→i<C.nt) (ho:o.op=.call { callee:=.builtin .len,args:=args,argTypes:=tys }) (h:(opV0 C.ft T Φ (opAV C.ft s.slot) o).run s.blk=some res):OpOk C o s res:=by
 obtain ⟨args⟩:=args
 obtain ⟨tys⟩:=tys
 simp only [opV0,ho,callV,lenOpV] at h
 split at h
 ·rename_i x t
  simp only [okRes,Rd.run_bindO,Option.bind_eq_some_iff,Rd.run_ret,Option.some.injEq] at h
  obtain ⟨⟨c,n⟩,hn,rfl⟩:=h
  refine OpOk.pure (by rw [ho];intro c hc;cases hc) hdst fun a w κ F hr hob hc=>?_
  obtain ⟨h1,h2⟩:=lenV_ok hT hr hn hc (use_op hr x rfl hob) o.type
  refine ⟨_,run_call_builtin ho ?_,RV_int.2 ⟨rfl,h2⟩⟩
  simp [builtin,h1]
 ·cases h
theorem ok_cap (hT:TabOk C.P T) {args:Array Operand} {tys:Array TypeId} (hdst:∀ i,o.dst=some i→i<C.nt) (ho:o.op=.call { callee:=.builtin .cap,args:=args,argTypes:=tys }) (h:(capOpV T (opAV C.ft s.slot) args.toList tys.toList).run s.blk=some res):OpOk C o s res:=by
 obtain ⟨args⟩:=args
 obtain ⟨tys⟩:=tys
 simp only [capOpV] at h
 split at h
 ·rename_i x t
  split at h
  ·rename_i e ox ht hu
   simp only [okRes,Rd.run_ret,Option.some.injEq] at h
   subst h
   refine OpOk.pure (by rw [ho];intro c hc;cases hc) hdst fun a w κ F hr hob hc=>?_
   have hv:a.eval x=.slice none 0 0:=use_op hr x hu hob
   obtain ⟨i,hi,_⟩:=(hT.is ht (by simp)).sl
   refine ⟨.int .i64 0,run_call_builtin ho ?_,RV_int.2 ⟨rfl,by decide⟩⟩
   simp [builtin,Builtin.cap_,hv,run_underlying' hi,goInt]
  ·cases h
 ·cases h
theorem ok_minmax {b:Builtin} {f:Int→Int→Int} (hb:(b=.min∧f=fun a b=>if b<a then b else a)∨(b=.max∧f=fun a b=>if b > a then b else a)) {args:Array Operand} {tys:Array TypeId} (hdst:∀ i,o.dst=some i→i<C.nt)
  (ho:o.op=.call { callee:=.builtin b,args:=args,argTypes:=tys }) (h:(minMaxV (opAV C.ft s.slot) f args.toList).run s.blk=some res):OpOk C o s res:=by
 obtain ⟨args⟩:=args
 simp only [minMaxV] at h
 split at h
 ·rename_i x y
  split at h
  ·rename_i k m k' n hx hy
   split at h
   ·rename_i hk
    subst hk
    simp only [okRes,Rd.run_ret,Option.some.injEq] at h
    subst h
    refine OpOk.pure (by rw [ho];intro c hc;cases hc) hdst fun a w κ F hr hob hc=>?_
    have h1:=int?_ok (use_op hr x rfl hob.1) hx
    have h2:=int?_ok (use_op hr y rfl hob.2) hy
    refine ⟨.int k (f m n),run_call_builtin ho ?_,RV_int.2 ⟨rfl,?_⟩⟩
    ·rcases hb with ⟨rfl,rfl⟩ | ⟨rfl,rfl⟩
     ·simp [builtin,Builtin.min_,h1.1,h2.1,Builtin.min2]
     ·simp [builtin,Builtin.max_,h1.1,h2.1,Builtin.max2]
    ·rcases hb with ⟨rfl,rfl⟩ | ⟨rfl,rfl⟩<;>(simp only;split<;>first | exact h1.2 | exact h2.2)
   ·cases h
  ·cases h
 ·rename_i x y z
  split at h
  ·rename_i k m k' n k'' q hx hy hz
   split at h
   ·rename_i hk
    obtain ⟨rfl,rfl⟩:=hk
    simp only [okRes,Rd.run_ret,Option.some.injEq] at h
    subst h
    refine OpOk.pure (by rw [ho];intro c hc;cases hc) hdst fun a w κ F hr hob hc=>?_
    have h1:=int?_ok (use_op hr x rfl hob.1) hx
    have h2:=int?_ok (use_op hr y rfl hob.2.1) hy
    have h3:=int?_ok (use_op hr z rfl hob.2.2) hz
    refine ⟨.int k (f (f m n) q),run_call_builtin ho ?_,RV_int.2 ⟨rfl,?_⟩⟩
    ·rcases hb with ⟨rfl,rfl⟩ | ⟨rfl,rfl⟩
     ·simp [builtin,Builtin.min_,h1.1,h2.1,h3.1,Builtin.min2]
     ·simp [builtin,Builtin.max_,h1.1,h2.1,h3.1,Builtin.max2]
    ·have hf:∀ u v,InR k u→InR k v→InR k (f u v):=fun u v hu hv=>by
      rcases hb with ⟨rfl,rfl⟩ | ⟨rfl,rfl⟩<;>(simp only;split<;>assumption)
     exact hf _ _ (hf _ _ h1.2 h2.2) h3.2
   ·cases h
  ·cases h
 ·cases h
end
end Go.Fer
namespace Go.Fer
open Go.RowKit
def fz (H:Nat→ABlk) (x:ABlk):ABlk:=match x.body with
 | .arr e xs=>⟨x.gen,.froz e xs⟩
 | .mp k v es=>⟨x.gen,.frzm k v es⟩
 | .cells t f=>match (gather t ((List.range t.size).map f)).run H with
  | some (y,_,[])=>⟨x.gen,.frzc t y⟩
  | _=>x
 | _=>x
def AState.frz (s:AState) (l:List Nat):AState:=⟨s.slot,fun i=>if i∈l then fz s.blk (s.blk i) else s.blk i⟩
theorem setBs_fz (H:Nat→ABlk):∀ (l:List Nat) (s:AState),(∀ i∈l,s.blk i=H i∨s.blk i=fz H (H i))→s.setBs ((frzB l).run H)=⟨s.slot,fun i=>if i∈l then fz H (H i) else s.blk i⟩
 | [],s,_=>by
  simp [frzB,AState.setBs]
 | b::l,s,h=>by
  simp only [frzB,Rd.run_get,Rd.run_bind]
  have key:∀ (s':AState),s'.slot=s.slot→s'.blk b=fz H (H b)→(∀ i,i≠b→s'.blk i=s.blk i)→s'.setBs ((frzB l).run H)=⟨s.slot,fun i=>if i∈b::l then fz H (H i) else s.blk i⟩:=by
   intro s' e1 e2 e3
   rw [setBs_fz H l s']
   ·rw [e1]
    congr 1
    funext i
    by_cases hi:i=b
    ·subst hi
     simp only [e2,List.mem_cons,true_or,if_true]
     split<;>rfl
    ·rw [e3 i hi]
     simp [hi]
   ·intro i hi
    by_cases hib:i=b
    ·subst hib;exact .inr e2
    ·rw [e3 i hib];exact h i (by simp [hi])
  have same:fz H (H b)=H b→s.setBs ((frzB l).run H)=⟨s.slot,fun i=>if i∈b::l then fz H (H i) else s.blk i⟩:=fun e=>
   key s rfl (by rcases h b (by simp) with k | k<;>rw [k];exact e.symm) fun _ _=>rfl
  have put:∀ x,fz H (H b)=x→s.setBs ((b,x)::(frzB l).run H)=⟨s.slot,fun i=>if i∈b::l then fz H (H i) else s.blk i⟩:=fun x e=>by
   simp only [AState.setBs]
   exact key _ rfl (by simp [AState.setB,e]) fun i hi=>by simp [AState.setB,hi]
  cases hb:(H b).body with
  | arr e xs=>exact put _ (by simp [fz,hb])
  | mp k v es=>exact put _ (by simp [fz,hb])
  | cells t f=>
   simp only [Rd.run_bind,Rd.run_ret]
   cases hg:(gather t ((List.range t.size).map f)).run H with
   | none=>exact same (by simp [fz,hb,hg])
   | some z=>
    obtain ⟨y,m,r⟩:=z
    cases r with
    | nil=>exact put _ (by simp [fz,hb,hg])
    | cons c r=>exact same (by simp [fz,hb,hg])
  | _=>exact same (by simp [fz,hb])
theorem setBs_frz (s:AState) (l:List Nat):s.setBs ((frzB l).run s.blk)=s.frz l:=by
 rw [setBs_fz s.blk l s fun i _=>.inl rfl]
 rfl
theorem setBs_snoc:∀ (l:List (Nat×ABlk)) (s:AState) (p:Nat×ABlk),s.setBs (l++[p])=(s.setBs l).setB p.1 p.2
 | [],_,_=>rfl
 | q::l,s,p=>by simp only [List.cons_append,AState.setBs];exact setBs_snoc l _ p
def Closed (H:Nat→ABlk) (l:List Nat):Prop:=∀ b∈l,(H b).body.isIt=false∧∀ t f,(H b).body=.cells t f→∃ y m,(gather t ((List.range t.size).map f)).run H=some (y,m,[])∧∀ c∈m,c∈l
theorem Closed.nil (H:Nat→ABlk):Closed H []:=fun b hb=>by cases hb
theorem Closed.append {H:Nat→ABlk} {l m:List Nat} (h:Closed H l) (k:Closed H m):Closed H (l++m):=by
 intro b hb
 rcases List.mem_append.1 hb with hb | hb
 ·obtain ⟨h1,h2⟩:=h b hb
  exact ⟨h1,fun t f e=>let ⟨y,n,a,c⟩:=h2 t f e;⟨y,n,a,fun d hd=>List.mem_append_left _ (c d hd)⟩⟩
 ·obtain ⟨h1,h2⟩:=k b hb
  exact ⟨h1,fun t f e=>let ⟨y,n,a,c⟩:=h2 t f e;⟨y,n,a,fun d hd=>List.mem_append_right _ (c d hd)⟩⟩
theorem Closed.one {H:Nat→ABlk} {b:Nat} (h1:(H b).body.isIt=false) (h2:(H b).body.isCells=false):Closed H [b]:=by
 intro c hc
 obtain rfl:=List.mem_singleton.1 hc
 exact ⟨h1,fun t f e=>by rw [e] at h2;cases h2⟩
theorem asLeaf_closed {H:Nat→ABlk} {t:Ty} {av:AV} {x:t.Den} {l:List Nat} (h:(asLeaf t av).run H=some (x,l)):Closed H l:=by
 cases av with
 | val t' y=>
  simp only [asLeaf,Rd.run_ret,Option.map_eq_some_iff,Prod.mk.injEq] at h
  obtain ⟨z,hz,rfl,rfl⟩:=h
  exact .nil H
 | clp e' y=>
  cases t<;>simp only [asLeaf,Rd.none,Rd.run_ret,reduceCtorEq,Option.map_eq_some_iff,Prod.mk.injEq] at h
  obtain ⟨z,hz,rfl,rfl⟩:=h
  exact .nil H
 | nils=>
  cases t<;>simp only [asLeaf,Rd.none,Rd.run_ret,reduceCtorEq,Option.some.injEq,Prod.mk.injEq] at h<;>(obtain ⟨rfl,rfl⟩:=h;exact .nil H)
 | raw u=>
  simp only [asLeaf,Rd.run_ret,Option.map_eq_some_iff,Prod.mk.injEq] at h
  obtain ⟨z,hz,rfl,rfl⟩:=h
  exact .nil H
 | pp t' y=>
  cases t<;>simp only [asLeaf,Rd.none,Rd.run_ret,reduceCtorEq,Option.map_eq_some_iff,Prod.mk.injEq] at h
  obtain ⟨z,hz,rfl,rfl⟩:=h
  exact .nil H
 | own b g=>
  cases t<;>simp only [asLeaf,Rd.none,Rd.run_ret,Rd.run_get,reduceCtorEq] at h
  split at h
  ·split at h
   ·rename_i hb
    simp only [Option.map_eq_some_iff,Prod.mk.injEq] at h
    obtain ⟨z,hz,rfl,rfl⟩:=h
    exact .one (by rw [hb];rfl) (by rw [hb];rfl)
   ·simp only [Option.map_eq_some_iff,Prod.mk.injEq] at h
    obtain ⟨z,hz,rfl,rfl⟩:=h
    exact .nil H
   ·cases h
  ·cases h
 | sub b g lo hi=>
  cases t<;>simp only [asLeaf,Rd.none,Rd.run_ret,Rd.run_get,reduceCtorEq] at h
  split at h
  ·split at h
   ·rename_i hb
    simp only [Option.map_eq_some_iff,Prod.mk.injEq] at h
    obtain ⟨z,hz,rfl,rfl⟩:=h
    exact .one (by rw [hb];rfl) (by rw [hb];rfl)
   ·simp only [Option.map_eq_some_iff,Prod.mk.injEq] at h
    obtain ⟨z,hz,rfl,rfl⟩:=h
    exact .nil H
   ·cases h
  ·cases h
 | mapl b g=>
  cases t<;>simp only [asLeaf,Rd.none,Rd.run_ret,Rd.run_get,reduceCtorEq] at h
  split at h
  ·split at h
   ·rename_i hb
    simp only [Option.map_eq_some_iff,Prod.mk.injEq] at h
    obtain ⟨z,hz,rfl,rfl⟩:=h
    exact .one (by rw [hb];rfl) (by rw [hb];rfl)
   ·simp only [Option.map_eq_some_iff,Prod.mk.injEq] at h
    obtain ⟨z,hz,rfl,rfl⟩:=h
    exact .nil H
   ·cases h
  ·cases h
 | _=>cases h
theorem asPtr_closed {H:Nat→ABlk} {e:Ty} (hG:∀ {cs:List AV} {x:e.Den} {l:List Nat} {r:List AV},(gather e cs).run H=some (x,l,r)→Closed H l) {av:AV} {x:Option e.Den} {l:List Nat}
  (h:(asPtr e (gather e) av).run H=some (x,l)):Closed H l:=by
 have rest:(asLeaf (.ptr e) av).run H=some (x,l)→Closed H l:=asLeaf_closed (t:=.ptr e)
 cases av with
 | loc b g off=>
  simp only [asPtr,Rd.run_get] at h
  split at h
  ·split at h
   ·simp only [Rd.run_ret,Option.map_eq_some_iff,Prod.mk.injEq] at h
    obtain ⟨z,hz,rfl,rfl⟩:=h
    exact .nil H
   ·rename_i t f hb
    split at h
    ·rename_i ht
     subst ht
     simp only [Rd.run_bindO,Option.bind_eq_some_iff,Rd.run_ret] at h
     obtain ⟨⟨y,m,q⟩,h1,h2⟩:=h
     split at h2
     ·rename_i hq
      simp only [Option.some.injEq,Prod.mk.injEq] at h2
      obtain ⟨rfl,rfl⟩:=h2
      have hq:q=[]:=List.isEmpty_iff.1 hq
      subst hq
      intro c hc
      rcases List.mem_cons.1 hc with rfl | hc
      ·refine ⟨by rw [hb];rfl,fun t' f' e=>?_⟩
       rw [hb] at e
       obtain ⟨rfl,rfl⟩:=Body.cells.inj e
       exact ⟨y,m,h1,fun d hd=>List.mem_cons_of_mem _ hd⟩
      ·obtain ⟨k1,k2⟩:=hG h1 c hc
       exact ⟨k1,fun t' f' e=>let ⟨y',n,a,d⟩:=k2 t' f' e;⟨y',n,a,fun x hx=>List.mem_cons_of_mem _ (d x hx)⟩⟩
     ·cases h2
    ·cases h
   ·cases h
  ·cases h
 | _=>exact rest h
theorem gather_closed {H:Nat→ABlk}:∀ (t:Ty) {cs:List AV} {x:t.Den} {l:List Nat} {r:List AV},(gather t cs).run H=some (x,l,r)→Closed H l:=by
 have leaf':∀ (t:Ty) (g:AV→Rd (Option (t.Den×List Nat))),(∀ {av:AV} {x:t.Den} {l:List Nat},(g av).run H=some (x,l)→Closed H l)→
   ∀ {cs:List AV} {x:t.Den} {l:List Nat} {r:List AV},(match cs with | c::r=>(g c).map fun o=>o.map fun (x,l)=>(x,l,r) | []=>.none:Rd (Option (t.Den×List Nat×List AV))).run H=some (x,l,r)→Closed H l:=by
  intro t g hg cs x l r h
  cases cs with
  | nil=>cases h
  | cons c cs=>
   simp only [Rd.map,Rd.run_bind,Rd.run_ret,Option.map_eq_some_iff,Prod.mk.injEq] at h
   obtain ⟨⟨y,m⟩,hz,rfl,rfl,rfl⟩:=h
   exact hg hz
 intro t
 induction t with
 | bool=>intro cs x l r h;exact leaf' .bool (asLeaf .bool) asLeaf_closed h
 | int k=>intro cs x l r h;exact leaf' (.int k) (asLeaf (.int k)) asLeaf_closed h
 | str=>intro cs x l r h;exact leaf' .str (asLeaf .str) asLeaf_closed h
 | unit=>
  intro cs x l r h
  simp only [gather,Rd.run_ret,Option.some.injEq,Prod.mk.injEq] at h
  obtain ⟨_,rfl,rfl⟩:=h
  exact .nil H
 | st t ih=>intro cs x l r h;exact ih h
 | prod a b iha ihb=>
  intro cs x l r h
  simp only [gather,Rd.run_bindO,Option.bind_eq_some_iff,Rd.run_ret,Option.some.injEq,Prod.mk.injEq] at h
  obtain ⟨⟨y,m,q⟩,h1,⟨z,m',q'⟩,h2,rfl,rfl,rfl⟩:=h
  exact (iha h1).append (ihb h2)
 | slice e ih=>intro cs x l r h;exact leaf' (.slice e) (asLeaf (.slice e)) asLeaf_closed h
 | array n e ih=>
  intro cs xs l r h
  simp only [gather] at h
  have key:∀ (n:Nat) {cs:List AV} {xs:List e.Den} {l:List Nat} {r:List AV},
    (n.rec (motive:=fun _=>List AV→Rd (Option (List e.Den×List Nat×List AV))) (fun cs=>.ret (some ([],[],cs)))
     (fun _ ih cs=>(gather e cs).bindO fun (x,l,r)=>(ih r).bindO fun (xs,m,q)=>.ret (some (x::xs,l++m,q))) cs).run H=some (xs,l,r)→Closed H l:=by
   intro n
   induction n with
   | zero=>intro cs xs l r h;cases h;exact .nil H
   | succ n ihn=>
    intro cs xs l r h
    simp only [Rd.run_bindO,Option.bind_eq_some_iff,Rd.run_ret,Option.some.injEq,Prod.mk.injEq] at h
    obtain ⟨⟨y,m,q⟩,h1,⟨z,m',q'⟩,h2,rfl,rfl,rfl⟩:=h
    exact (ih h1).append (ihn h2)
  exact key n h
 | ptr e ih=>intro cs x l r h;exact leaf' (.ptr e) (asPtr e (gather e)) (asPtr_closed ih) h
 | map k v ihk ihv=>intro cs x l r h;exact leaf' (.map k v) (asLeaf (.map k v)) asLeaf_closed h
 | fn a b iha ihb=>intro cs x l r h;exact leaf' (.fn a b) (asLeaf (.fn a b)) asLeaf_closed h
 | it a ih=>intro cs x l r h;exact leaf' (.it a) (asLeaf (.it a)) asLeaf_closed h
 | raws e ih=>intro cs x l r h;exact leaf' (.raws e) (asLeaf (.raws e)) asLeaf_closed h
theorem asDen_closed {H:Nat→ABlk} {t:Ty} {av:AV} {x:t.Den} {l:List Nat} (h:(asDen t av).run H=some (x,l)):Closed H l:=by
 have rest:(asTop t av).run H=some (x,l)→Closed H l:=by
  intro h
  unfold asTop at h
  split at h
  ·exact asPtr_closed (fun h=>gather_closed _ h) h
  ·split at h
   ·exact asLeaf_closed h
   ·cases h
 cases av with
 | val t' y=>
  simp only [asDen,Rd.run_ret,Option.map_eq_some_iff,Prod.mk.injEq] at h
  obtain ⟨z,hz,rfl,rfl⟩:=h
  exact .nil H
 | agg n f=>
  simp only [asDen] at h
  split at h
  ·cases h
  ·simp only [Rd.run_bindO,Option.bind_eq_some_iff,Rd.run_ret] at h
   obtain ⟨⟨y,m,q⟩,h1,h2⟩:=h
   split at h2
   ·simp only [Option.some.injEq,Prod.mk.injEq] at h2
    obtain ⟨rfl,rfl⟩:=h2
    exact gather_closed t h1
   ·cases h2
 | _=>exact rest h
theorem fz_cases (H:Nat→ABlk) (x:ABlk):fz H x=x∨(∃ e xs,x.body=.arr e xs∧fz H x=⟨x.gen,.froz e xs⟩)∨(∃ k v es,x.body=.mp k v es∧fz H x=⟨x.gen,.frzm k v es⟩)∨
  ∃ t f y m,x.body=.cells t f∧(gather t ((List.range t.size).map f)).run H=some (y,m,[])∧fz H x=⟨x.gen,.frzc t y⟩:=by
 cases hx:x.body with
 | arr e xs=>exact .inr (.inl ⟨e,xs,rfl,by simp [fz,hx]⟩)
 | mp k v es=>exact .inr (.inr (.inl ⟨k,v,es,rfl,by simp [fz,hx]⟩))
 | cells t f=>
  cases hg:(gather t ((List.range t.size).map f)).run H with
  | none=>exact .inl (by simp [fz,hx,hg])
  | some z=>
   obtain ⟨y,m,r⟩:=z
   cases r with
   | nil=>exact .inr (.inr (.inr ⟨t,f,y,m,rfl,hg,by simp [fz,hx,hg]⟩))
   | cons c r=>exact .inl (by simp [fz,hx,hg])
 | _=>exact .inl (by simp [fz,hx])
theorem fz_owned {H:Nat→ABlk} {x:ABlk} {k:KB} (h:(fz H x).body.owned k=true):(x.body.owned k=true∧fz H x=x):=by
 rcases fz_cases H x with e | ⟨_,_,_,e⟩ | ⟨_,_,_,_,e⟩ | ⟨_,_,_,_,_,_,e⟩
 ·exact ⟨e ▸ h,e⟩
 all_goals rw [e] at h;cases h
theorem later_frz (s:AState) (l:List Nat) (κ:Nat→KB):Later s.blk κ (s.frz l).blk κ:=by
 rw [later_iff]
 intro b
 simp only [AState.frz]
 split
 ·rcases fz_cases s.blk (s.blk b) with e | ⟨_,_,hx,e⟩ | ⟨_,_,_,hx,e⟩ | ⟨_,_,_,_,hx,_,e⟩
  ·rw [e];exact Later1.refl _ _
  ·rw [e];exact ⟨Nat.le_refl _,fun _=>⟨fun h=>(by cases h),fun _=>⟨by rw [hx];rfl,rfl,by rw [hx];rfl,by rw [hx];rfl⟩,fun h=>(by cases h),fun h=>(by cases h)⟩⟩
  ·rw [e];exact ⟨Nat.le_refl _,fun _=>⟨fun h=>(by cases h),fun h=>(by cases h),fun _=>⟨by rw [hx];rfl,rfl⟩,fun h=>(by cases h)⟩⟩
  ·rw [e];exact ⟨Nat.le_refl _,fun _=>⟨fun _=>⟨by rw [hx];rfl,rfl⟩,fun h=>(by cases h),fun h=>(by cases h),fun h=>(by cases h)⟩⟩
 ·exact Later1.refl _ _
theorem pkeep_frz (s:AState) (l:List Nat):PKeep s.blk (s.frz l).blk:=by
 intro e m hm
 simp only [AState.frz] at hm
 split at hm
 ·rcases fz_cases s.blk (s.blk POOLN) with k | ⟨_,_,_,k⟩ | ⟨_,_,_,_,k⟩ | ⟨_,_,_,_,_,_,k⟩
  ·rw [k] at hm;exact hm
  all_goals rw [k] at hm;cases hm
 ·exact hm
theorem RelK.frzL {C:Ctx} {a:Act} {w:World} {κ:Nat→KB} {l:List Nat} {s:AState} {F:Nat→Prop} (hcl:Closed s.blk l) (h:RelK C s a w κ F) :
  ∃ F',(∀ r,F r→F' r)∧RelK C (s.frz l) a w κ F'∧FzIn s.blk κ F' l:=by
 let F':Nat→Prop:=fun r=>F r∨∃ b∈l,(s.blk b).body.owned (κ b)=true∧(κ b).blk=r
 have hF:∀ r,F r→F' r:=fun r hr=>.inl hr
 have hfz:FzIn s.blk κ F' l:=fun b hb ho=>.inr ⟨b,hb,ho,rfl⟩
 have notin:∀ b,((s.frz l).blk b).body.owned (κ b)=true→b ∉ l∧(s.blk b).body.owned (κ b)=true:=by
  intro b hb
  simp only [AState.frz] at hb
  by_cases hbl:b∈l
  ·rw [if_pos hbl] at hb
   obtain ⟨k1,k2⟩:=fz_owned hb
   exfalso
   obtain ⟨c1,c2⟩:=hcl b hbl
   cases hx:(s.blk b).body with
   | arr e xs=>simp [fz,hx,Body.owned] at hb
   | mp k v es=>simp [fz,hx,Body.owned] at hb
   | cells t f=>
    obtain ⟨y,m,g,_⟩:=c2 t f hx
    simp [fz,hx,g,Body.owned] at hb
   | it k v c r=>rw [hx] at c1;cases c1
   | _=>rw [hx] at k1;cases k1
  ·rw [if_neg hbl] at hb;exact ⟨hbl,hb⟩
 have hl:=later_frz s l κ
 refine ⟨F',hF,?_,hfz⟩
 refine h.move hl hF (fun r hr=>hr.imp id fun ⟨b,_,h1,h2⟩=>.inl ⟨b,h1,h2⟩) (Nat.le_refl _) (fun _ _ _=>rfl) (Calm.refl _) (fun _ b=>?_) (fun b hb=>?_) (fun b b' hb hb' e=>h.inj b b' (notin b hb).2 (notin b' hb').2 e) (fun r hr=>?_) (fun b _ hb=>⟨rfl,?_⟩) (pkeep_frz s l)
 ·show HB C.P (s.frz l).blk κ F' w b
  by_cases hbl:b∈l
  ·have hB:=h.blks b
   have hfb:(s.frz l).blk b=fz s.blk (s.blk b):=by simp [AState.frz,hbl]
   have other:fz s.blk (s.blk b)=s.blk b→HB C.P (s.frz l).blk κ F' w b:=fun e=>HB.other hB hl hF (Ext.refl _ _) (by rw [hfb,e]) rfl fun _=>rfl
   cases hx:(s.blk b).body with
   | arr e xs=>
    unfold HB at hB ⊢
    rw [hx] at hB
    rw [hfb]
    simp only [fz,hx,HBody]
    exact slice_of_arr hB hF fun hn=>hfz b hbl (by rw [hx];simp [Body.owned,hn])
   | mp k v es=>
    unfold HB at hB ⊢
    rw [hx] at hB
    rw [hfb]
    simp only [fz,hx,HBody]
    exact map_of_mp hB hF (hfz b hbl (by rw [hx];rfl))
   | cells t f=>
    obtain ⟨y,m,g,hm⟩:=(hcl b hbl).2 t f hx
    unfold HB at hB ⊢
    rw [hx] at hB
    rw [hfb]
    simp only [fz,hx,g,HBody]
    obtain ⟨cs,T,k1,k2,k3⟩:=hB
    have hal:AL C.P s.blk κ F w ((List.range t.size).map f) cs.toList:=agg_AL (by simpa using k2.1) fun i hi=>by
     have:=k3 i hi
     simpa [List.getD_eq_getElem?_getD,Array.getD_eq_getD_getElem?] using this
    obtain ⟨c,d,hcd,c1,c2⟩:=gather_ok h.blks hF t g (fun c hc=>hfz c (hm c hc)) hal
    cases d with
    | cons _ _=>exact c2.elim
    | nil=>
     rw [List.append_nil] at hcd
     refine ⟨c,⟨hfz b hbl (by rw [hx];rfl),rfl,fun j hj=>?_⟩,c1⟩
     have hj':j<cs.size:=by rw [←hcd] at hj;simpa using hj
     simp only [World.cell?,k1,Nat.zero_add,Option.isSome_none,Bool.false_eq_true,if_false,Array.getElem?_eq_getElem hj']
     simp [←hcd]
   | _=>exact other (by simp [fz,hx])
  ·exact HB.other (h.blks b) hl hF (Ext.refl _ _) (by simp [AState.frz,hbl]) rfl fun _=>rfl
 ·obtain ⟨k1,k2⟩:=notin b hb
  have ho:=h.own b k2
  refine ⟨ho.1,fun hf=>?_,.inl ⟨b,k2,rfl⟩⟩
  rcases hf with hf | ⟨b0,m1,m2,m3⟩
  ·exact ho.2.1 hf
  ·exact k1 (h.inj b b0 k2 m2 m3.symm ▸ m1)
 ·rcases hr with hr | ⟨b,_,hb,rfl⟩
  ·exact h.fsz r hr
  ·exact (h.own b hb).1
 ·split at hb
  ·rcases fz_cases s.blk (s.blk b) with e | ⟨_,_,hx,e⟩ | ⟨_,_,_,hx,e⟩ | ⟨_,_,_,_,hx,_,e⟩
   ·rw [e] at hb;exact hb
   ·rw [e] at hb;simp [Body.isCells,Body.isMap] at hb
   ·rw [hx];exact .inr rfl
   ·rw [hx];exact .inl rfl
  ·exact hb
end Go.Fer
namespace Go.Fer
open Go.RowKit
section
variable {C:Ctx} {T:Nat→Ty} {Φ:Nat→Option FC} {o:Oper} {s:AState} {res:OpRes}
theorem RelK.small {a:Act} {w:World} {κ:Nat→KB} {F:Nat→Prop} (h:RelK C s a w κ F) {b:Nat} (hb:b<C.nt):b<TMAX:=Nat.lt_of_lt_of_le hb h.nsz
theorem RelK.newVar {a:Act} {w:World} {κ:Nat→KB} {F:Nat→Prop} (h:RelK C s a w κ F) {b:Nat} (hbn:b<TMAX) {t:Ty} {l:List AV} {cs:List Value} {ty:TypeId} (hl:AL C.P s.blk κ F w l cs) (ht:l.length=t.size) (hct:CellT C.P t ty) :
  ∃ κ',RelK C (s.setB b ⟨(s.blk b).gen+1,.cells t (nthAV l)⟩) a (w.alloc (.cells cs.toArray ty)) κ' F∧(κ' b).blk=w.heap.size:=by
 refine ⟨_,h.alloc (k:=⟨w.heap.size,0,0,false⟩) hbn (Nat.lt_succ_self _) rfl fun H κ' hH hκ hlt=>?_,by simp⟩
 refine ⟨cs.toArray,ty,heap_alloc_new _ _,⟨by simp [←hl.len,ht],hct⟩,fun i hi=>?_⟩
 have:=hl.nth i (by omega)
 have e:cs.toArray.getD i Go.undef=cs.getD i Go.undef:=by simp [Array.getD_eq_getD_getElem?,List.getD_eq_getElem?_getD]
 rw [e]
 exact ⟨RA.later hlt (fun _ hr=>hr) (Ext.alloc h.fsz _) this.1,this.2⟩
theorem nthAV_zeros_len (t:Ty) {P:Program} {z:Value} (h:zeroRest t z.cells.toList=some []):(zeros t).length=t.size∧z.cells.size=t.size:=by
 obtain ⟨c,e,h1,h2⟩:=zeroRest_ok (P:=P) (H:=fun _=>⟨0,.dead⟩) (κ:=fun _=>⟨0,0,0,true⟩) (F:=fun _=>True) (w:=default) t h
 rw [List.append_nil] at e
 have:=RC_len t h1
 have:=h2.len
 have h3:z.cells.toList.length=z.cells.size:=by simp
 rw [e] at h3
 omega
theorem ok_alloc (hT:TabOk C.P T) {ty:TypeId} (hdst:∀ i,o.dst=some i→i<C.nt) (ho:o.op=.alloc ty) (h:(opV0 C.ft T Φ (opAV C.ft s.slot) o).run s.blk=some res) (hty:T ty≠.unit):OpOk C o s res:=by
 simp only [opV0,ho] at h
 obtain ⟨b,hd,hk⟩:=newB_some h
 simp only [if_neg hty,Option.some.injEq] at hk
 subst hk
 intro a w κ F Q hr _ _
 have hti:=hT.is rfl hty
 obtain ⟨i,z,h1,h2,h3,h4,h5,h6⟩:=infoOk_out hti.info
 obtain ⟨c,e,z1,z2⟩:=zeroRest_ok (P:=C.P) (H:=s.blk) (κ:=κ) (F:=F) (w:=w) (T ty) h5
 rw [List.append_nil] at e
 have hz:=nthAV_zeros_len (T ty) (P:=C.P) h5
 obtain ⟨κ',r1,r2⟩:=hr.newVar (b:=b) (hr.small (hdst b hd)) (t:=T ty) (ty:=ty) z2 hz.1 hti.cellT
 have hrun:(execOp a.eval o).run C.P w=.ok (.value (.pointer (some ⟨w.heap.size,0,none⟩))) (w.alloc (.cells c.toArray ty)):=by
  have hz':z.cells=c.toArray:=by rw [←e]
  simp [execOp,ho,Instr.alloc,run_zeroValue' h1 h4,newVar,newRow,hz']
 refine oper_value (by rw [ho];intro c hc;cases hc) hrun ⟨κ',F,RelK.set (s:=s.setB b _) r1 hdst ⟨⟨?_,rfl⟩,fun _ _=>?_⟩⟩
 ·simp [AState.setB]
 ·rw [r2]
theorem cellsOf_ok {P:Program} {H:Nat→ABlk} {κ:Nat→KB} {F:Nat→Prop} {w:World} {t:Ty} {av:AV} {v:Value} {l:List AV} (h:cellsOf t av=some l) (hv:RA P H κ F w av v):AL P H κ F w l v.cells.toList:=by
 unfold cellsOf at h
 split at h
 ·rename_i t' x
  split at h
  ·rename_i he
   subst he
   simp only [Option.some.injEq] at h
   subst h
   obtain ⟨⟨cs,rfl,_⟩,hc⟩:=hv
   simp only [RC] at hc
   exact leafs_ok _ hc
  ·cases h
 ·rename_i n f
  split at h
  ·simp only [Option.some.injEq] at h
   subst h
   obtain ⟨vs,rfl,h1,h2⟩:=hv
   exact agg_AL h1 h2
  ·cases h
 ·rename_i n e n' e' x
  split at h
  ·simp only [Option.some.injEq] at h
   subst h
   obtain ⟨⟨cs,rfl,_⟩,hc⟩:=hv
   exact leafs_ok _ hc
  ·cases h
 ·rename_i n e m f
  split at h
  ·simp only [Option.some.injEq] at h
   subst h
   obtain ⟨vs,rfl,h1,h2⟩:=hv
   exact agg_AL h1 h2
  ·cases h
 ·split at h
  ·have one:v.oneCell'=true→l=[av]→AL P H κ F w l v.cells.toList:=by
    intro h1 h2
    subst h2
    rw [one_cells h1]
    exact ⟨⟨hv,h1⟩,trivial⟩
   split at h
   ·rename_i t' x
    split at h
    ·rename_i ht'
     obtain ⟨k1,k2⟩:=(RV_leaf ht').1 hv
     exact one (leaf_one ht' k2) (Option.some.inj h).symm
    ·cases h
   ·exact one hv.1.2 (Option.some.inj h).symm
   ·exact one hv.1.2 (Option.some.inj h).symm
   ·exact one hv.1.2 (Option.some.inj h).symm
   ·refine one ?_ (Option.some.inj h).symm
    obtain ⟨p,ds,rfl,_⟩:=hv
    rfl
   ·exact one hv.1.2 (Option.some.inj h).symm
   ·refine one ?_ (Option.some.inj h).symm
    obtain ⟨vs,rfl,_⟩:=hv
    rfl
   ·refine one ?_ (Option.some.inj h).symm
    simp only [RA] at hv
    subst hv
    rfl
   ·exact one hv.1.2 (Option.some.inj h).symm
   ·cases h
   ·cases h
   ·refine one ?_ (Option.some.inj h).symm
    simp only [RA] at hv
    subst hv
    cases v<;>first | rfl | (rename_i hx _ _;exact (hx _ rfl).elim) | (rename_i hx _;exact (hx _ rfl).elim) | (rename_i hx _ _ _;exact (hx _ rfl).elim) | (exfalso;simp_all;done)
   ·cases h
  ·cases h
end
end Go.Fer
namespace Go.Fer
open Go.RowKit
theorem fold_set:∀ (l:List Value) (k off:Nat) (cs:Array Value),off+k+l.length≤cs.size→
  ((l.zipIdx k).foldl (fun (cs:Array Value) (p:Value×Nat)=>cs.setIfInBounds (off+p.2) p.1) cs).toList=cs.toList.take (off+k)++(l++cs.toList.drop (off+k+l.length))
 | [],k,off,cs,h=>by simp
 | c::l,k,off,cs,h=>by
  simp only [List.zipIdx_cons,List.foldl_cons]
  have hsz:(cs.setIfInBounds (off+k) c).size=cs.size:=by simp
  rw [fold_set l (k+1) off _ (by rw [hsz];simp at h;omega)]
  simp only [Array.toList_setIfInBounds,List.length_cons] at h ⊢
  have hlt:off+k<cs.toList.length:=by simp;omega
  rw [show off+(k+1)=(off+k)+1 from by omega]
  rw [List.take_set,List.drop_set]
  rw [if_pos (by omega)]
  have h1:(cs.toList.take (off+k+1)).set (off+k) c=cs.toList.take (off+k)++[c]:=by
   rw [List.take_succ_eq_append_getElem hlt,List.set_append_right _ _ (by simp;omega)]
   have hmin:min (off+k) cs.size=off+k:=Nat.min_eq_left (by simp at hlt;omega)
   simp [hmin]
  rw [h1]
  simp only [List.append_assoc,List.cons_append,List.nil_append]
  rw [show off+k+1+l.length=off+k+(l.length+1) from by omega]
section
variable {P:Program} {w:World}
theorem setCell_heap (w:World) (b off:Nat) (v:Value) {cs:Array Value} {T:TypeId} {fz:Nat×Nat} (h:w.heap[b]?=some (.cells cs T fz)) :
  (w.setCell ⟨b,off,none⟩ v).heap[b]?=some (.cells (cs.setIfInBounds off v) T fz):=by
 simp [World.setCell,Array.getElem?_modify,h]
theorem storeCells_ok {b:Nat} {T:TypeId}:∀ (vs:List Value) (off i:Nat) (w:World) (cs:Array Value),w.heap[b]?=some (.cells cs T (0,0))→off+i+vs.length≤cs.size→(∀ v∈vs,v.oneCell'=true)→
  ∃ w' cs',(storeCells ⟨b,off,none⟩ vs i).run P w=.ok () w'∧w'.heap[b]?=some (.cells cs' T (0,0))∧cs'.toList=cs.toList.take (off+i)++(vs++cs.toList.drop (off+i+vs.length))∧
   (∀ r,r≠b→w'.heap[r]?=w.heap[r]?)∧w'.heap.size=w.heap.size∧Calm w w'
 | [],off,i,w,cs,h,_,_=>⟨w,cs,by simp [storeCells],h,by simp,fun _ _=>rfl,rfl,Calm.refl w⟩
 | v::vs,off,i,w,cs,h,hl,hv=>by
  have hlt:off+i<cs.size:=by simp at hl;omega
  have hc:w.cell? ⟨b,off+i,none⟩=some cs[off+i]:=by rw [cell_of h];simp [hlt]
  have hf:w.frozen? ⟨b,off+i,none⟩=false:=by simp [World.frozen?,h]
  have h1:=setCell_heap w b (off+i) v h
  obtain ⟨w',cs',r1,r2,r3,r4,r5,r6⟩:=storeCells_ok vs off (i+1) (w.setCell ⟨b,off+i,none⟩ v) _ h1 (by simp at hl ⊢;omega) (fun u hu=>hv u (by simp [hu]))
  refine ⟨w',cs',?_,r2,?_,?_,by rw [r5];simp,Calm.trans (b:=w.setCell ⟨b,off+i,none⟩ v) ⟨rfl,rfl,rfl⟩ r6⟩
  ·simp only [storeCells,Sem.run_bind,add_addr,run_store P w _ v _ (hv v (by simp)),hc,hf,Bool.false_eq_true,if_false,Result.andThen_ok]
   exact r1
  ·rw [r3]
   have:=fold_set [v] 0 (off+i) cs (by simp;omega)
   simp only [List.zipIdx_cons,List.zipIdx_nil,List.foldl_cons,List.foldl_nil,Nat.add_zero,List.length_singleton] at this
   rw [this]
   have e1:(cs.toList.take (off+i)).length=off+i:=by simp;omega
   rw [List.take_append,List.drop_append,e1]
   simp only [show off+(i+1) - (off+i)=1 from by omega,show off+(i+1)+vs.length - (off+i)=vs.length+1 from by omega]
   have e2:List.take (off+(i+1)) (cs.toList.take (off+i))=cs.toList.take (off+i):=List.take_of_length_le (by rw [e1];omega)
   have e3:List.drop (off+(i+1)+vs.length) (cs.toList.take (off+i))=[]:=List.drop_of_length_le (by rw [e1];omega)
   rw [e2,e3]
   simp only [List.length_cons,List.nil_append,List.append_assoc,List.cons_append]
   simp only [List.take_succ_cons,List.take_zero,List.drop_succ_cons,List.drop_drop,List.cons_append,List.nil_append]
   rw [show off+i+1+vs.length=off+i+(vs.length+1) from by omega]
  ·intro r hr
   rw [r4 r hr]
   exact Below.heap_setCell _ _ _ _ (by simpa using hr)
end
section
variable {C:Ctx} {T:Nat→Ty} {Φ:Nat→Option FC} {o:Oper} {s:AState} {res:OpRes}
theorem ok_box (hT:TabOk C.P T) {ty:TypeId} {x:Operand} (hdst:∀ i,o.dst=some i→i<C.nt) (ho:o.op=.box ty x) (h:(opV0 C.ft T Φ (opAV C.ft s.slot) o).run s.blk=some res):OpOk C o s res:=by
 simp only [opV0,ho] at h
 split at h
 ·rename_i l hl
  obtain ⟨b,hd,hk⟩:=newB_some h
  split at hk
  case isFalse=>cases hk
  rename_i hlen
  simp only [Option.some.injEq] at hk
  subst hk
  intro a w κ F Q hr hob _
  have hv:=use_op hr x rfl hob
  obtain ⟨κ',r1,r2⟩:=hr.newVar (b:=b) (hr.small (hdst b hd)) (t:=T ty) (ty:=ty) (cellsOf_ok hl hv) hlen (by
   by_cases hu:T ty=.unit
   ·rw [hu];intro n s h;cases h
   ·exact (hT.is rfl hu).cellT)
  have hrun:(execOp a.eval o).run C.P w=.ok (.value (.pointer (some ⟨w.heap.size,0,none⟩))) (w.alloc (.cells (a.eval x).cells.toList.toArray ty)):=by
   simp [execOp,ho,Instr.box,newVar,newRow]
  refine oper_value (by rw [ho];intro c hc;cases hc) hrun ⟨κ',F,RelK.set (s:=s.setB b _) r1 hdst ⟨⟨?_,rfl⟩,fun _ _=>?_⟩⟩
  ·simp [AState.setB]
  ·rw [r2]
 ·cases h
theorem chk_infos {P:Program}:∀ (t:Ty) {l:List Field} {off:Nat},tyChk P t (.inr (l,off))=true→∀ f∈l,∃ s,TyIs P s f.type:=by
 intro t
 induction t with
 | prod a b iha ihb=>
  intro l off h
  match l,h with
  | [],h=>simp only [tyChk,Bool.false_eq_true] at h
  | [x],h=>simp only [tyChk,Bool.false_eq_true] at h
  | [x,y],h=>
   simp only [tyChk,Bool.and_eq_true] at h
   intro f hf
   simp only [List.mem_cons,List.not_mem_nil,or_false] at hf
   rcases hf with rfl | rfl
   ·exact ⟨a,h.1.1.1.2⟩
   ·exact ⟨b,h.2.1.1.2⟩
  | x::y::z::l,h=>
   simp only [tyChk,Bool.and_eq_true] at h
   intro f hf
   rcases List.mem_cons.1 hf with rfl | hf
   ·exact ⟨a,h.1.1.1.2⟩
   ·exact ihb h.2 f hf
 | _=>intro l off h;simp only [tyChk,Bool.false_eq_true] at h
theorem TyIs.infos {P:Program} {t:Ty} {id:TypeId} (h:TyIs P (.st t) id) {fs:Array Field} (hfs:P.underlying id=some (.struct fs)):∀ f∈fs.toList,∃ s,TyIs P s f.type:=by
 obtain ⟨_,_,h3,h4⟩:=h.eqs
 rw [hfs] at h4
 simp only [Option.some.injEq,TypeDesc.struct.injEq] at h4
 rw [←h4] at h3
 rcases h3 with h3 | ⟨f,e,_,h3,_⟩ | ⟨_,e⟩
 ·exact chk_infos t h3
 ·rw [e];intro g hg;simp only [List.mem_singleton] at hg;subst hg;exact ⟨t,h3⟩
 ·rw [e];intro g hg;cases hg
theorem AL.replace {P:Program} {H:Nat→ABlk} {κ:Nat→KB} {F:Nat→Prop} {w:World} {as l:List AV} {us vs:List Value} (h:AL P H κ F w as us) (k:AL P H κ F w l vs) (off:Nat) :
  AL P H κ F w (as.take off++(l++as.drop (off+l.length))) (us.take off++(vs++us.drop (off+vs.length))):=by
 have tk:∀ {as:List AV} {us:List Value} (n:Nat),AL P H κ F w as us→AL P H κ F w (as.take n) (us.take n):=by
  intro as
  induction as with
  | nil=>intro us n h;cases us<;>first | exact h.elim | simp [AL]
  | cons a as ih=>intro us n h;cases us with
   | nil=>exact h.elim
   | cons u us=>cases n with
    | zero=>trivial
    | succ n=>exact ⟨h.1,ih n h.2⟩
 have dr:∀ {as:List AV} {us:List Value} (n:Nat),AL P H κ F w as us→AL P H κ F w (as.drop n) (us.drop n):=by
  intro as
  induction as with
  | nil=>intro us n h;cases us<;>first | exact h.elim | simp [AL]
  | cons a as ih=>intro us n h;cases us with
   | nil=>exact h.elim
   | cons u us=>cases n with
    | zero=>exact h
    | succ n=>exact ih n h.2
 rw [←k.len]
 exact (tk off h).append (k.append (dr _ h))
theorem fill_ok {P:Program} {H:Nat→ABlk} {κ:Nat→KB} {F:Nat→Prop} {w:World} {t:Ty} {id:TypeId} {fs:Array Field} (hti:TyIs P (.st t) id) (hfs:P.underlying id=some (.struct fs)) {place:Nat→Option (Nat×Nat)}
  (hpl:∀ i f s,fs[i]?=some f→TyIs P s f.type→place i=some (f.offset,s.size)):∀ (ps:List (Nat×AV)) (qs:List (Nat×Value)) {as as':List AV} {cs:Array Value},AL P H κ F w as cs.toList→fillAV t as ps=some as'→
  ps.length=qs.length→(∀ i (h:i<ps.length) (h':i<qs.length),ps[i].1=qs[i].1∧RA P H κ F w ps[i].2 qs[i].2)→∃ cs',Instr.fill place cs qs=some cs'∧AL P H κ F w as' cs'.toList
 | [],[],as,as',cs,ha,hf,_,_=>by cases hf;exact ⟨cs,rfl,ha⟩
 | (i,av)::ps,(i',v)::qs,as,as',cs,ha,hf,hlen,hall=>by
  have h0:=hall 0 (by simp) (by simp)
  simp only [List.getElem_cons_zero] at h0
  obtain ⟨rfl,hv⟩:=h0
  simp only [fillAV] at hf
  split at hf
  ·cases hf
  ·rename_i s off hft
   split at hf
   ·cases hf
   ·rename_i l hl
    split at hf
    ·rename_i hc
     obtain ⟨fs',fld,f1,f2,f3,f4,f5⟩:=hti.field hft
     rw [hfs] at f1
     simp only [Option.some.injEq,TypeDesc.struct.injEq] at f1
     subst f1
     have hp:=hpl i fld s f2 f4
     rw [f3] at hp
     have hal:=cellsOf_ok hl hv
     have hsz:v.cells.size=s.size:=by have:=hal.len;rw [hc.1] at this;simpa using this.symm
     have hcs:as.length=cs.size:=by simpa using ha.len
     have hfold:=fold_set v.cells.toList 0 off cs (by simp;omega)
     have e:(v.cells.zipIdx.foldl (fun (cs:Array Value) (p:Value×Nat)=>cs.setIfInBounds (off+p.2) p.1) cs)=((v.cells.toList.zipIdx 0).foldl (fun (cs:Array Value) (p:Value×Nat)=>cs.setIfInBounds (off+p.2) p.1) cs):=by
      rw [←Array.foldl_toList]
      simp
     have ha':=ha.replace hal off
     rw [hc.1] at ha'
     obtain ⟨cs',k1,k2⟩:=fill_ok hti hfs hpl ps qs (cs:=v.cells.zipIdx.foldl (fun (cs:Array Value) (p:Value×Nat)=>cs.setIfInBounds (off+p.2) p.1) cs) (by rw [e,hfold];simpa using ha') hf (by simpa using hlen)
      (fun j h h'=>by have:=hall (j+1) (by simpa using h) (by simpa using h');simpa using this)
     refine ⟨cs',?_,k2⟩
     simp only [Instr.fill,hp]
     rw [if_neg (by simp;omega)]
     exact k1
    ·cases hf
 | [],_::_,_,_,_,_,_,hlen,_=>by simp at hlen
 | _::_,[],_,_,_,_,_,hlen,_=>by simp at hlen
theorem usesOb_spec:∀ {l:List (Nat×AV)},usesOb l→∀ i (h:i<l.length),(use l[i].2).1
 | a::l,h,0,_=>by
  obtain ⟨n,a⟩:=a
  cases a<;>first | trivial | exact h.1
 | a::l,h,i+1,hi=>by
  have h':usesOb l:=by obtain ⟨n,a⟩:=a;cases a<;>first | exact h | exact h.2
  have:=usesOb_spec h' i (by simpa using hi)
  simpa using this
theorem parts_ok {a:Act} {w:World} {κ:Nat→KB} {F:Nat→Prop} (hr:RelK C s a w κ F) (ps:List (Nat×Operand)) (hob:usesOb (ps.map fun p=>(p.1,opAV C.ft s.slot p.2))) :
  ∀ i (h:i<(useL (ps.map fun p=>(p.1,opAV C.ft s.slot p.2))).length) (h':i<(ps.map fun p=>(p.1,a.eval p.2)).length),
   (useL (ps.map fun p=>(p.1,opAV C.ft s.slot p.2)))[i].1=(ps.map fun p=>(p.1,a.eval p.2))[i].1∧RA C.P s.blk κ F w (useL (ps.map fun p=>(p.1,opAV C.ft s.slot p.2)))[i].2 (ps.map fun p=>(p.1,a.eval p.2))[i].2:=by
 intro i h h'
 have hi:i<ps.length:=by simpa using h'
 have h1:=usesOb_spec hob i (by simpa using hi)
 simp only [List.getElem_map] at h1
 refine ⟨by simp [useL],?_⟩
 simp only [useL,List.getElem_map]
 exact use_ok (opAV_ok hr _) h1
theorem ok_build (hT:TabOk C.P T) {ty:TypeId} {ps:Array (Nat×Operand)} (hdst:∀ i,o.dst=some i→i<C.nt) (ho:o.op=.build ty ps) (h:(opV0 C.ft T Φ (opAV C.ft s.slot) o).run s.blk=some res):OpOk C o s res:=by
 obtain ⟨ps⟩:=ps
 simp only [opV0,ho] at h
 split at h
 ·rename_i t ht
  have hti:=hT.is ht (by simp)
  split at h
  ·rename_i cs hcs
   simp only [okRes,Rd.run_ret,Option.some.injEq] at h
   subst h
   refine OpOk.pure (by rw [ho];intro c hc;cases hc) hdst fun a w κ F hr hob _=>?_
   obtain ⟨fs,hfs⟩:=hti.st
   obtain ⟨i,z,h1,h2,h3,h4,h5,h6⟩:=infoOk_out hti.info
   obtain ⟨c,e,z1,z2⟩:=zeroRest_ok (P:=C.P) (H:=s.blk) (κ:=κ) (F:=F) (w:=w) (.st t) h5
   rw [List.append_nil] at e
   have hinfo:=hti.infos hfs
   have hm:=ChangeMaps.mapM_total (f:=fun (f:Field)=>(C.P.info? f.type).map fun i=>(f.offset,i.size)) (0,0) (l:=fs.toList) (fun f hf=>by
    obtain ⟨s',hs'⟩:=hinfo f hf
    obtain ⟨i',_,h1',_⟩:=infoOk_out hs'.info
    exact ⟨_,by rw [h1'];rfl⟩)
   have hpl:=run_places (P:=C.P) w fs.toList _ hm
   obtain ⟨cs',k1,k2⟩:=fill_ok (w:=w) hti hfs (place:=fun j=>((fs.toList.map fun f=>((C.P.info? f.type).map fun i=>(f.offset,i.size)).getD (0,0)))[j]?)
    (fun j f s' hj hs'=>by
     obtain ⟨i',_,h1',h2',_⟩:=infoOk_out hs'.info
     have:fs.toList[j]?=some f:=by simpa using hj
     simp only [List.getElem?_map,this,Option.map_some,h1',Option.getD_some,h2'])
    _ _ (by rw [e];exact z2) hcs (by simp [useL]) (parts_ok hr ps hob)
   have hlen:cs.length=cs'.size:=by simpa using k2.len
   refine ⟨.agg cs',?_,cs'.toList,by simp,by simp [hlen],fun j hj=>?_⟩
   ·have hmm:(fs.mapM fun f=>do pure (f.offset,←sizeOf f.type):Sem (Array (Nat×Nat))).run C.P w=.ok (fs.toList.map fun f=>((C.P.info? f.type).map fun i=>(f.offset,i.size)).getD (0,0)).toArray w:=by
     rw [Array.mapM_eq_mapM_toList]
     simp [hpl]
    simp only [execOp,ho,Instr.build,Sem.run_bind,run_zeroValue' h1 h4,Result.andThen_ok,run_underlying' hfs,hmm]
    simp only [List.map_toArray,List.getElem?_toArray]
    rw [show (Instr.fill (fun x=>(fs.toList.map fun f=>((C.P.info? f.type).map fun i=>(f.offset,i.size)).getD (0,0))[x]?) z.cells (ps.map fun x=>(x.1,a.eval x.2)))=some cs' from k1]
    simp
   ·have:=k2.nth j hj
    exact this
  ·cases h
 ·cases h
end
end Go.Fer
